import Derived.Test.YtiogclkbccdefaaGreatDoorMA4
import Derived.Test.YtiogclkbccdefaaGreatDoorLA6
import Derived.Test.YtiogclkbccdefaaGreatDoorMA3
set_option linter.unusedSimpArgs false
set_option linter.unusedVariables false
set_option maxRecDepth 100000
section
namespace Go.Proofs.YtiogclkbccdefaaGreatDoor
open Go.RowKit Go.Bo Go.Ab
def ZJp(r0:D)(P1 P2:W2)(Y:J7)(r:D)(os':J7):Prop:=r=r0/\ ∃Z,os'=Jl P1 P2 (Y++Z)/\Z.all Ob.nof=true
theorem ZdC{Y W Z:J7}{e:Ob}(hZ:Z=Y++e::W)(X:J7):Z++X=Y++e::(W++X):=by rw[hZ,Yh,Qx]
set_option maxHeartbeats 4000000 in
theorem ZZ6(L:List (Tx×Zl))(M:List (Tx×Zy))(Y:J7)(dn:Tx)(l:List ZY)(h:smL l):ZI Tryz.prog 79 [.ptr 0 0,.agg [.x (.str dn),.x (.sl (rows ZX l))]] (Jl (JQ L) (JL M) Y) (ZJp (.x (.bool (ZPM L dn l))) (JQ L) (JL M) Y):=by
 obtain⟨d,hd⟩: ∃d,(YQ (YV dn)).1=d:=⟨_,rfl⟩;rcases hres:ZPM L dn l with v
 unfold ZPM at hres;rw[hd]at hres;have hul:Zb ZX (rows ZX l)=some l:=Zr YR l;have hg0:=ZE2 Y;have hg1:=Zfl Y;have hg2:=Zid Y;have hL1: ∀m:Nat,decide (1<m+1+1+1+1)=true:=λm=>ZL J0
 have hL2: ∀m:Nat,decide (2<m+1+1+1+1)=true:=λm=>ZL J0
 have hL3: ∀m:Nat,decide (3<m+1+1+1+1)=true:=λm=>ZL J0
 have hu1:=ZFz L;have hu2:=ZFy M;have hmb: ∀r∈d,Yk r=true:=λr hr=>Zdr (s:=YV dn) (by rw[hd];exact hr)
 refine fC 79 true ?_;intro C0 E0;have uu:=KT @ZEA.eq_1 @ZEA.eq_2 @Qi.eq_1 @Qi.eq_2 @ZMh.eq_1 @ZMh.eq_2 @ZFT.eq_1 @ZFT.eq_2 (KT hul hd @ZCq @ZCX @ZDQ @ZDV @ZAT @ZAQ (KT hg0 hg1 hg2 hL1 hL2 hL3 hu1 hu2 @Zbd));have tT:=ZYX;refine nz ?_;refine rg tT [0,3] ?_;refine rg tT [0,3,5,6] ?_;refine rg tT [0,3,6,7] ?_;refine rg tT [0,3,7,30] ?_;refine cd (λh0=> ?_) (λh0=> ?_)
 .have hq: ¬(QF dn=true/\d≠ []):=by
   rintro⟨e1,e2⟩;have:=ZPF.2 e2;rw[e1]at h0;clear uu hres;grind
  have hv:v=false:=by
   rw[<-hres];rcases Classical.em (QF dn=true)with e1|e1
   .have e2:d= []:=ZM0 λe=>hq ⟨e1,e⟩
    rw[e1,e2];rfl
   .rw[ZWL]at e1;rw[e1];rfl
  subst hv;refine rg tT [4] ?_;refine lf ?_;exact⟨rfl,_,rfl,rfl⟩
 .have hv:QF dn=true/\d≠ []:=by
   constructor
   .clear uu hres;grind
   .intro e;subst e;clear uu hres;grind
  obtain⟨r,d2,rfl⟩:=List.exists_cons_of_ne_nil hv.2;rw[hv.1,ZL hv.2,ZCB,ZCB,List.headD_cons]at hres;obtain⟨hr8,hr1,hpb⟩:=ZBW (hmb r ZDB);refine rg tT [0,3,33,34,35] ?_;refine WI.loop (λφ os=> ∃(j:Nat) (W:J7),φ= [(0,.ptr 0 0),(3,.ptr (Y.length+1+1+1+1) 0),(33,.x (.sl (rows Zo r))),(34,.x (.int .i64 r.length)),(35,.x (.int .i64 j))]/\os=Jl (JQ L) (JL M) (Y++ .box [.x (.str dn),.x (.sl (rows ZX l))]::W)/\W.all Ob.nof=true/\j<=r.length/\(r.take j).all (ZHx L l)=true) (ZK r.length 35) ?_ (λφ os hI=> ?_)
  .exact⟨0,[],rfl,rfl,rfl,J0,rfl⟩
  .obtain⟨j,W,rfl,rfl,hW,hj,hall⟩:=hI;obtain⟨Z,hZ⟩: ∃Z,Z=Y++ .box [.x (.str dn),.x (.sl (rows ZX l))]::W:=⟨_,rfl⟩;have hzE: ∀t:J7,(Z++t)[Y.length]? =some (.box [.x (.str dn),.x (.sl (rows ZX l))]):=λt=>by rw[hZ,Yh];exact ZE2 Y _ _
   have hzN:Z[Y.length]? =some (.box [.x (.str dn),.x (.sl (rows ZX l))]):=by rw[hZ];exact ZE2 Y _ _
   have hz0:=ZE2 Z;have hz1:=Zfl Z;have hs0:=ZVT Z;have hs1:=ZiS Z;have hsn:=ZhT Z;have hln: ∀x:Ob,(Z++ [x]).length=Z.length+1:=λx=>by simp
   have uu:=KT uu hzE hzN hz0 hz1 hs0 hs1 hsn hln;rw[<-hZ];refine nz ?_;refine rg tT [0,3,33,34,35,36] ?_;refine cd (λh1=> ?_) (λh1=> ?_)
   .have hj4:j<r.length:=by omega
    have hrw:=ZCw r j hj4;have hg:r[j]=r.getD j ([],[]):=by simp[hj4]
    have hal:=JV (ZHx L l) r j hj4;have hno:ZHx L l (r.getD j ([],[]))=false->r.all (ZHx L l)=false:=λh=>YB (ZHx L l) r j hj4 (by rw[hg];exact h)
    have hpl:=hpb r[j] (YZ hj4);rw[hg]at hal hpl;generalize r.getD j ([],[])=p at hrw hal hno hpl;have hn1:ZHx L l p=((ZG L (ZJ p.1)).isSome&&ZRr l p.1 p.2 (tyV L (ZJ p.1)).2.1):=rfl;have hdp:decide (p.1.length<=140737488355328)=true:=ZL J0;have hdh:decide (smL l/\p.1.length<=140737488355328)=true:=ZL ⟨h,J0⟩;have uu:=ξ5 uu hrw hdp hdh @tyD.eq_1;refine rg tT [0,3,10,33,34,35] ?_;refine WI.dregB tT [0,3,10,11,12,33,34,35] ?_
    iterate 3 refine Zs ?_
    refine Yp ?_;refine Zs ?_;refine Yp ?_;refine dQC ?_;refine Zs ?_
    iterate 2 refine Jq ?_
    refine dKG ?_;refine dAG ?_;refine Zs ?_;refine dN ?_;refine nz ?_;refine rg tT [0,3,33,34,35,61] ?_;refine cd (λh2=> ?_) (λh2=> ?_)
    .have hf:ZHx L l p=false:=by rw[hn1];clear uu;grind
     rw[hno hf]at hres;subst hres;refine rg tT [4] ?_;refine lf ?_;exact⟨rfl,_,congrArg (Jl _ _) (ZdC hZ _),by simp[Ob.nof,hW]⟩
    .have hf:ZHx L l p=true:=by rw[hn1];clear uu;grind
     have hall2:(r.take (j+1)).all (ZHx L l)=true:=by rw[hal,hall,hf];rfl
     refine WI.orderA [0,3,33,34,35] ?_;refine rg tT [0,3,33,34,35] ?_;exact⟨⟨j+1,_,rfl,congrArg (Jl _ _) (ZdC hZ _),by simp[Ob.nof,hW],J0,hall2⟩,by simp[ZK,Ab.get,D.val,ZD];omega⟩
   .obtain rfl:j=r.length:=by omega
    rw[Jm]at hall;rw[hall]at hres;subst hres;refine rg tT [4] ?_;refine lf ?_;exact⟨rfl,_,congrArg (Jl _ _) hZ,by simp[Ob.nof,hW]⟩
set_option maxHeartbeats 4000000 in
theorem ZUO(L:List (Tx×Zl))(M:List (Tx×Zy))(Y:J7)(dn:Tx)(l:List ZY)(h:smL l)(hk:ZGm M l):ZI Tryz.prog 40 [.ptr 0 0,.agg [.x (.str dn),.x (.sl (rows ZX l))]] (Jl (JQ L) (JL M) Y) (ZJp (.x (.int .i64 (ZFd L M dn l))) (JQ L) (JL M) Y):=by
 rcases hres:ZFd L M dn l with v
 unfold ZFd at hres;have hul:Zb ZX (rows ZX l)=some l:=Zr YR l;have hdk:=ZL hk;have hg0:=ZE2 Y;have hL1: ∀m:Nat,decide (1<m+1+1+1+1)=true:=λm=>ZL J0
 have hL2: ∀m:Nat,decide (2<m+1+1+1+1)=true:=λm=>ZL J0
 have hL3: ∀m:Nat,decide (3<m+1+1+1+1)=true:=λm=>ZL J0
 have hu1:=ZFz L;have hu2:=ZFy M;refine fC 40 true ?_;intro C0 E0;have uu:=KT @ZDr.eq_1 @ZDr.eq_2 hul hdk @ZCq @ZCX @ZDQ @ZDV (KT @ZAT @ZAQ hg0 hL1 hL2 hL3 hu1 hu2 @ZbO);have tT:=ZKo;refine nz ?_;refine rg tT [0,3] ?_;refine WI.dregB tT [0,3,5] ?_
 iterate 3 refine Zs ?_
 iterate 2 refine Yp ?_
 refine dAC ?_;refine Zs ?_;refine dN ?_;refine nz ?_;refine rg tT [0,3,5,13] ?_;refine cd (λh0=> ?_) (λh0=> ?_)
 .have hc:ZKO L M l≠0:=by simpa using h0
  rw[if_pos hc]at hres;subst hres;refine rg tT [4] ?_;refine lf ?_;exact⟨rfl,_,rfl,rfl⟩
 .have hc: ¬ZKO L M l≠0:=by simpa using h0
  rw[if_neg hc]at hres;refine WI.cutA ZKo [15,16] 2 ?_;simp only[ξU,ZB4,ZDe,ZBk];refine oS ?_;refine oG ?_;refine oP ?_;refine ZHk ?_;refine WR.callF (ZVZ) (ZZ6 L M (Y++ [.box [.x (.str dn),.x (.sl (rows ZX l))]]) dn l h) ?_;rintro _ _ ⟨rfl,Z,rfl,hZ⟩;refine WR.regB ZKo [18] ?_;refine oG ?_;refine oN ?_;refine nz ?_;refine cd (λh1=> ?_) (λh1=> ?_)
  .have hc2: ¬ZPM L dn l=true:=by simpa using h1
   rw[if_neg hc2]at hres;subst hres;refine rg tT [4] ?_;refine lf ?_;exact⟨rfl,_,congrArg (Jl _ _) (Yh _ _ _),by simp[Ob.nof,hZ]⟩
  .have hc2:ZPM L dn l=true:=by simpa using h1
   rw[if_pos hc2]at hres;subst hres;refine rg tT [4] ?_;refine lf ?_;exact⟨rfl,_,congrArg (Jl _ _) (Yh _ _ _),by simp[Ob.nof,hZ]⟩
theorem sn0(Z:J7)(x:Ob):(Z++ [x])[Z.length]? =some x:=by simp
theorem sn1(Z:J7)(x y:Ob):(Z++ [x]++ [y])[Z.length]? =some x:=by rw[Yh];exact ZE2 Z x _
theorem sn2(Z:J7)(x y z:Ob):(Z++ [x]++ [y]++ [z])[Z.length]? =some x:=by rw[Yh,Yh];exact ZE2 Z x _
theorem st0(Z:J7)(x y:Ob):(Z++ [x]).set Z.length y=Z++ [y]:=by rw[ZEH _ _ J0];simp
theorem st1(Z:J7)(x y z:Ob):(Z++ [x]++ [y]).set Z.length z=Z++ [z]++ [y]:=by rw[Yh,ZEH _ _ J0];simp
theorem sz1(Z W:J7)(x:Ob):(Z++ [x]++W)[Z.length]? =some x:=by rw[Yh];exact ZE2 Z x _
theorem sz2(Z W:J7)(x y:Ob):(Z++ [x]++ [y]++W)[Z.length]? =some x:=by rw[Yh,Yh];exact ZE2 Z x _
theorem sz3(Z W:J7)(x y z:Ob):(Z++ [x]++ [y]++ [z]++W)[Z.length]? =some x:=by rw[Yh,Yh,Yh];exact ZE2 Z x _
theorem as2(Y:J7)(a b:Ob):Y++ [a]++ [b]=Y++ [a,b]:=by simp
theorem as3(Y Z:J7)(a b:Ob):Y++ [a]++ [b]++Z=Y++a::b::Z:=by simp
theorem as4(Y Z:J7)(a b c:Ob):Y++ [a]++ [b]++ [c]++Z=Y++a::b::c::Z:=by simp
abbrev EM:=List (Tx×Kq)
def Kv(m:EM):W2:=Yg KU ZBo.enc m
theorem ZKJ(m:EM)(k:Tx):JZ (Kv m) [X.str k]=(ZG m k).map λe=> [.x (.str e.1),.x (.sl (rows ZX e.2.1))]:=by
 unfold Kv;rw[ZEp KU ZBo.enc hkS m k];rfl
theorem ZZd(m:EM)(k:Tx)(e:Kq):Yb (Kv m) [X.str k] [.x (.str e.1),.x (.sl (rows ZX e.2.1))]=Kv (Zt m k e):=ZDd KU ZBo.enc hkS m k e
theorem Zgs(m:EM)(k:Tx):ZBU (Kv m) [X.str k]=Kv (Zg m k):=Za9 KU ZBo.enc hkS m k
theorem Zgu(m:EM):(Kv m).length=m.length:=ZJV _ _ _
theorem ZTB(s t:Tx):ZBz [X.str s] [X.str t]=decide (s=t):=hkS s t
theorem ZNc(B:List TB)(s:Tx):JZ (B.map YU) [X.str s]=(ZG B s).map λx=> [.ref (x.1+6) x.2.length 0 x.2.length]:=by
 induction B with
 |nil=>rfl
 |cons p B ih=>
  simp only[YL,YU,JZ,ZTB]at ih|-;by_cases h:s=p.1
  .simp[ZG,h]
  .simp only[h,decide_false,JM,if_false];rw[ih];simp[ZG,h]
theorem ZSc(B:List TB)(s:Tx)(i:Nat)(l:List Tx):Yb (B.map YU) [X.str s] [.ref (i+6) l.length 0 l.length]=(Zt B s (i,l)).map YU:=by
 induction B with
 |nil=>rfl
 |cons p B ih=>
  simp only[YL,YU,Yb,Zt,ZTB]at ih|-;by_cases h:s=p.1
  .simp[h,YU]
  .simp only[h,decide_false,JM,if_false];rw[ih];simp[YU]
theorem ZhO(B:List TB)(s:Tx):ZBU (B.map YU) [X.str s]=(Zg B s).map YU:=by
 induction B with
 |nil=>rfl
 |cons p B ih=>
  simp only[YL,YU,ZBU,Zg,ZTB]at ih|-;by_cases h:s=p.1
  .simp[h]
  .simp only[h,decide_false,JM,if_false];rw[ih];simp[YU]
def ZNp:Tabs:=ZT (ZO) 41 (ZBa KN)
theorem ZHN:SsOk Tryz.prog ZNp:=ZH (ZF) (ZW 41) (ZMy ZF8)
theorem ZRi:(∀a,ZNp.q 41 a=ZBa KN a)/\(∀f a o,ZNp.r f a o=none)/\(∀f a o,ZNp.k f a o=none):=⟨λ_=>rfl,λ_ _ _=>rfl,λ_ _ _=>rfl⟩
def Zho(r0:D)(m:EM)(P1 P2:W2)(o:Ob)(Y:J7)(r:D)(os':J7):Prop:=r=r0/\ ∃Z,os'=Jl P1 P2 (.mpo .str true (Kv m)::o::(Y++Z))/\Z.all Ob.nof=true
def ZED(L:List (Tx×Zl))(M:List (Tx×Zy))(m:EM)(dn:Tx)(l:List ZY):Int:=if(ZG m dn).isSome then ZFd L M dn l else 32
def ZAC(c:Int)(m:EM)(dn:Tx)(l:List ZY):EM:=if c=0 then Zt m dn (dn,YH l,())else m
set_option maxHeartbeats 4000000 in
theorem ZhI(L:List (Tx×Zl))(M:List (Tx×Zy))(m:EM)(o:Ob)(Y:J7)(dn:Tx)(l:List ZY)(h:smL l)(hk:ZGm M l):ZI Tryz.prog 26 [.ptr 0 0,.agg [.x (.str dn),.x (.sl (rows ZX l))]] (Jl (JQ L) (JL M) (.mpo .str true (Kv m)::o::Y)) (Zho (.x (.int .i64 (ZED L M m dn l))) (ZAC (ZED L M m dn l) m dn l) (JQ L) (JL M) o Y):=by
 have hg:=ZKJ m dn;have hul:Zb ZX (rows ZX l)=some l:=Zr YR l;have hdm:=ZL (show l.length<=100/\(∀a∈l,a.1.length<=1000000)/\ ∀a∈l,a.2.1.length<=400 from h);have hst:=ZZd m dn (dn,YH l,());obtain⟨v,hv⟩: ∃v,ZED L M m dn l=v:=⟨_,rfl⟩;rw[hv];unfold ZED at hv;rcases hl:ZG m dn with _|⟨dn',l',u⟩
 .rw[hl,Qg]at hg;rw[hl,if_neg J1]at hv;subst hv;refine fC 26 true ?_;intro C0 E0;have uu:=KT @KN.eq_1 @KN.eq_2 @sn0 @sn1 @sn2 @st0 @st1 hg @ZRi;have tT:=ZHN;refine nz ?_;refine rg tT [0,3] ?_;refine rg tT [0,3,16] ?_;refine ce (λh0=> ?_) (λh0=> ?_)
  .simp at h0
  .refine WI.dregB tT [0,3,6] ?_
   iterate 3 refine Zs ?_
   refine Yp ?_;refine Zs ?_
   iterate 2 refine Yp ?_
   refine Zs ?_
   iterate 2 refine Jq ?_
   refine dKG ?_;refine dAG ?_;refine Zs ?_;refine dN ?_;refine nz ?_;refine rg tT [0,3,28] ?_;refine ct (λh1=> ?_) (λh1=> ?_)
   .refine rg tT [4] ?_;refine lf ?_;exact⟨rfl,_,congrArg (λz=>Jl (JQ L) (JL M) (_::_::z)) (as2 Y _ _),rfl⟩
   .simp at h1
 .rw[hl,Yf]at hg;rw[hl,if_pos J1]at hv;refine fC 26 true ?_;intro C0 E0;have uu:=KT @KN.eq_1 @KN.eq_2 @sn0 @sn1 @sn2 @st0 @st1 @sz1 (ξ7 @sz2 @sz3 hg hul hdm hst @ZRi);have tT:=ZHN;refine nz ?_;refine rg tT [0,3] ?_;refine rg tT [0,3,16] ?_;refine ce (λh0=> ?_) (λh0=> ?_)
  .simp at h0
  .refine WI.dregB tT [0,3,6] ?_
   iterate 3 refine Zs ?_
   refine Yp ?_;refine Zs ?_
   iterate 2 refine Yp ?_
   refine Zs ?_
   iterate 2 refine Jq ?_
   refine dKG ?_;refine dAG ?_;refine Zs ?_;refine dN ?_;refine nz ?_;refine rg tT [0,3,28] ?_;refine ce (λh1=> ?_) (λh1=> ?_)
   .simp at h1
   .refine WI.cutA ZHN [0,3,29,30] 2 ?_;simp only[ξU,ZB4,ZDe,ZBk];refine oS ?_;refine oG ?_;refine oP ?_;refine ZHk ?_;refine WR.callF ((ZW 40)) (ZUO L M (.mpo .str true (Kv m)::o::(Y++ [.box [.x (.str dn),.x (.sl (rows ZX l))]]++ [.box [.x (.str dn'),.x (.sl (rows ZX l'))]])) dn l h hk) ?_;rintro _ _ ⟨rfl,Z,rfl,hZ⟩;refine WR.regB ZHN [0,3,7] ?_;refine oS ?_;refine oN ?_;refine nz ?_;refine rg tT [0,3,7,33] ?_;refine cd (λh2=> ?_) (λh2=> ?_)
    .have hc: ¬v=0:=by rw[<-hv];simpa using h2
     refine rg tT [4] ?_;refine lf ?_;exact⟨by rw[hv],_,by rw[ZAC,if_neg hc];exact congrArg (λz=>Jl (JQ L) (JL M) (_::_::z)) (as3 Y Z _ _),by simp[Ob.nof,hZ]⟩
    .obtain rfl:v=0:=by rw[<-hv];simpa using h2
     refine WI.dregB tT [] ?_
     iterate 3 refine Zs ?_
     refine Yp ?_;refine Zs ?_
     iterate 2 refine Yp ?_
     refine dQC ?_;refine dAG ?_;refine dN ?_;refine nz ?_;refine rg tT [4] ?_;refine lf ?_;exact⟨rfl,_,congrArg (λz=>Jl (JQ L) (JL M) (_::_::z)) (as3 Y Z _ _),by simp[Ob.nof,hZ]⟩
def YF(B:List (Tx×List Tx))(n:Tx):List Tx:=(ZG B n).getD []
def Yn(B:List (Tx×List Tx)):Nat->Tx->List Tx
 |0,_=> []
 |k+1,n=>(YF B n).flatMap λs=>s::Yn B k s
def deep(B:List (Tx×List Tx)):Nat->Tx->Prop
 |0,n=>YF B n= []
 |k+1,n=> ∀s∈YF B n,deep B k s
theorem ZGU{Y:J7}{B:List TB}(h:okB Y B)(Z:J7):okB (Y++Z) B:=
 ⟨h.1,h.2.1,λx hx=>⟨by rw[Yc (ZV (h.2.2 x hx).1).1];exact(h.2.2 x hx).1,(h.2.2 x hx).2⟩⟩
theorem ZEo(B:List TB)(s:Tx):ZG (B.map YK) s=(ZG B s).map (·.2):=by
 induction B with
 |nil=>rfl
 |cons p B ih=>
  by_cases h:s=p.1
  .simp[ZG,h,YK]
  .have e1:ZG (YK p::B.map YK) s=ZG (B.map YK) s:=by simp[ZG,YK,h]
   have e2:ZG (p::B) s=ZG B s:=by simp[ZG,h]
   rw[YL,e1,e2];exact ih
theorem ra0(Y W V:J7)(R:Ob):(Y++R::W++V)[Y.length]? =some R:=by rw[Yh,Qx];exact ZE2 Y R _
theorem ra1(Y W V U:J7)(R:Ob):(Y++R::W++V++U)[Y.length]? =some R:=by rw[Yh,Yh,Qx];exact ZE2 Y R _
theorem Qy(Y W V:J7)(R R':Ob):(Y++R::W++V).set Y.length R'=Y++R'::W++V:=by rw[Yh,Qx,ZVT];simp
theorem rs1(Y W V U:J7)(R R':Ob):(Y++R::W++V++U).set Y.length R'=Y++R'::W++V++U:=by rw[Yh,Yh,Qx,ZVT];simp
theorem ZZv{f:Tx->List Tx}(row:List Tx)(j:Nat)(h:j<row.length):(row.take (j+1)).flatMap (λs=>s::f s)=(row.take j).flatMap (λs=>s::f s)++row.getD j []::f (row.getD j []):=by
 rw[Jk h,Zcu];simp[h]
theorem ZeC{α β:Type}(f:α->List β)(l:List α)(j:Nat):((l.take j).flatMap f).length<=(l.flatMap f).length:=by
 conv=>rhs;rw[<-ZDl j l,Zcu,Zf]
 omega
theorem Zht(P1 P2:W2)(o b:Ob)(Y W Z:J7)(acc:List Tx)(s:Tx)(w:List Tx)(x:Ob):Jl P1 P2 (o::b::(Y++ .rows false 9 1 (rows ZB acc++ [[.str s]]++rows ZB w)::W++ [x]++Z))=Jl P1 P2 (o::b::(Y++ .rows false 9 1 (rows ZB (acc++s::w))::(W++x::Z))):=by
 have h:rows ZB acc++ [[X.str s]]++rows ZB w=rows ZB (acc++s::w):=by simp[rows,ZB]
 rw[h];simp
set_option maxHeartbeats 4000000 in
theorem ZQ4(P1 P2:W2)(o:Ob)(Bt:List TB)(f:Tx->List Tx)(n:Tx)(Y:J7)(row:List Tx)(hB:okB Y Bt)(hrow:YF (Bt.map YK) n=row)
  (hih: ∀s∈row,∀Y,okB Y Bt->(f s).length<=1000000->ZI Tryz.prog 52 [.ptr 0 0,.x (.str s)] (Jl P1 P2 (o:: .mpo .str false (Bt.map YU)::Y)) (ZJp (.x (.sl (rows ZB (f s)))) P1 P2 (o:: .mpo .str false (Bt.map YU)::Y)))
  (hl:(row.flatMap λs=>s::f s).length<=1000000):ZI Tryz.prog 52 [.ptr 0 0,.x (.str n)] (Jl P1 P2 (o:: .mpo .str false (Bt.map YU)::Y)) (ZJp (.x (.sl (rows ZB (row.flatMap λs=>s::f s)))) P1 P2 (o:: .mpo .str false (Bt.map YU)::Y)):=by
 have hg:=ZNc Bt n;unfold YF at hrow;rw[ZEo]at hrow;rcases hm:ZG Bt n with _|⟨i,row'⟩
 .rw[hm]at hg hrow;subst hrow;rw[Qg]at hg;refine fC 52 true ?_;intro C0 E0;have uu:=hg;have tT:=(ZF:SsOk Tryz.prog ZO);refine nz ?_;refine rg tT [0,1] ?_;refine rg tT [0,1,5] ?_;refine rg tT [0,5,13,14,15] ?_;refine WI.loopN 1 ?_;refine WI.round ?_;refine nz ?_;refine rg tT [0,5,13,14,15,16] ?_;refine ce (λh0=> ?_) (λh0=> ?_)
  .exact absurd h0 (by decide)
  .refine rg tT [4] ?_;refine WI.nn0A ?_;refine lf ?_;exact⟨rfl,[],J1,rfl⟩
 .rw[hm]at hg hrow;rw[Yf]at hg;obtain rfl:row'=row:=hrow;obtain⟨hY,hrl⟩:=hB.2.2 _ (Jx hm);simp only at hY hrl;have hrY: ∀W:J7,(Y++W)[i]? =some (.rows false 9 1 (rows ZB row')):=λW=>by
   rw[Yc (ZV hY).1];exact hY
  have hrn:=Zh ZB row';have htl:(rows ZB row').take row'.length=rows ZB row':=by rw[<-hrn,Jm]
  refine fC 52 true ?_;intro C0 E0;have uu:=ξ5 hg hY hrY hrn htl;have tT:=(ZF:SsOk Tryz.prog ZO);refine nz ?_;refine rg tT [0,1] ?_;refine rg tT [0,1,5] ?_;refine rg tT [0,5,13,14,15] ?_;refine WI.ownA 5 9 1 ?_;refine WI.orderA [0,5,13,14,15] ?_;obtain⟨XS,hX⟩: ∃XS,XS=row'.flatMap (λs=>s::f s):=⟨_,rfl⟩;rw[<-hX]at hl|-;refine WI.loop (λφ os=> ∃(j:Nat) (acc:List Tx) (W:J7),φ= [(0,.ptr 0 0),(5,.ref (Y.length+1+1+1+1+1+1) acc.length 0 acc.length),(13,.ref (i+6) row'.length 0 row'.length),(14,.x (.int .i64 row'.length)),(15,.x (.int .i64 j))]/\os=Jl P1 P2 (o:: .mpo .str false (Bt.map YU)::(Y++ .rows false 9 1 (rows ZB acc)::W))/\W.all Ob.nof=true/\j<=row'.length/\acc=(row'.take j).flatMap (λs=>s::f s)) (ZK row'.length 15) ?_ (λφ os hI=> ?_)
  .exact⟨0,[],[],rfl,rfl,rfl,J0,rfl⟩
  .obtain⟨j,acc,W,rfl,rfl,hW,hj,hacc⟩:=hI;have hra:=ra0 Y W;have hra1:=ra1 Y W;have hrs:=Qy Y W;have hrs1:=rs1 Y W;have uu:=ξ7 uu hra hra1 hrs hrs1 sn0 (ZE2 Y);refine nz ?_;refine rg tT [0,5,13,14,15,16] ?_;refine cd (λh0=> ?_) (λh0=> ?_)
   .have hj4:j<row'.length:=by omega
    have hrw:(rows ZB row')[j]? =some [X.str (row'.getD j [])]:=by simp[rows,hj4,ZB]
    have hst:=ZZv (f:=f) row' j hj4;have hle:=ZeC (λs=>s::f s) row' (j+1);rw[hst,<-hacc,<-hX,Zf,JD]at hle;have hds:=hih (row'.getD j []) (by rw[show row'.getD j []=row'[j] by simp[hj4]];exact YZ hj4);generalize row'.getD j []=s at hrw hst hle hds;have hta:(rows ZB acc).take acc.length=rows ZB acc:=by rw[<-Zh ZB acc,Jm]
    have uu:=ξ4 uu hrw hta (Zh ZB acc);refine rg tT [0,5,7,13,14,15] ?_;refine WI.cutA ZF [0,13,14,15,22,23,24] 6 ?_;simp only[ξU,ZB4,ZDe,ZBk]
    iterate 2 refine oS ?_
    iterate 2 refine oG ?_
    iterate 2 refine oS ?_
    refine oP ?_;refine ZHk ?_;refine WR.callF ((ZW 52)) (hds (Y++ .rows false 9 1 (rows ZB acc++ [[.str s]])::W++ [.rows false 9 1 [[.str s]]]) (by rw[Yh];exact ZGU hB _) J0) ?_;rintro _ _ ⟨rfl,Z,rfl,hZ⟩;refine WR.regB ZF [0,5,13,14,15] ?_;refine oG ?_;refine oS ?_;refine oN ?_;refine nz ?_;refine WI.orderA [0,5,13,14,15] ?_;have hla:(acc++s::f s).length=acc.length+1+(f s).length:=by simp;omega
    refine rg tT [0,5,13,14,15] ?_;exact⟨⟨j+1,acc++s::f s,W++_::Z,by rw[hla];rfl,Zht P1 P2 o _ Y W Z acc s _ _,by simp[Ob.nof,hW,hZ],J0,by rw[hst,<-hacc]⟩,by simp[ZK,Ab.get,D.val,ZD];omega⟩
   .obtain rfl:j=row'.length:=by omega
    rw[Jm,<-hX]at hacc;subst hacc;have hta:(rows ZB acc).take acc.length=rows ZB acc:=by rw[<-Zh ZB acc,Jm]
    have uu:=JX uu hta (Zh ZB acc);refine rg tT [4] ?_;refine lf ?_;exact⟨rfl,.frz 1 (rows ZB acc)::W,congrArg (λz=>Jl P1 P2 (_::_::z)) (ZVT Y _ _ W),by simp[Ob.nof,hW]⟩
theorem ZQ6(P1 P2:W2)(o:Ob)(Bt:List TB): ∀(k:Nat) (n:Tx) (Y:J7) (hB:okB Y Bt) (hd:deep (Bt.map YK) k n) (hl:(Yn (Bt.map YK) k n).length<=1000000),
  ZI Tryz.prog 52 [.ptr 0 0,.x (.str n)] (Jl P1 P2 (o:: .mpo .str false (Bt.map YU)::Y)) (ZJp (.x (.sl (rows ZB (Yn (Bt.map YK) k n)))) P1 P2 (o:: .mpo .str false (Bt.map YU)::Y))
 |0,n,Y,hB,hd,_=>ZQ4 P1 P2 o Bt (λ_=> []) n Y [] hB hd (λs h=>(by cases h)) (by decide)
 |k+1,n,Y,hB,hd,hl=>ZQ4 P1 P2 o Bt (Yn (Bt.map YK) k) n Y _ hB rfl (λs hs Y hB hl=>ZQ6 P1 P2 o Bt k s Y hB (hd s hs) hl) hl
theorem sy1(Z W:J7)(x y:Ob):(Z++ [x]++W).set Z.length y=Z++ [y]++W:=by rw[Yh,ZEH _ _ J0];simp
def ZYH(m:EM)(B:List (Tx×List Tx))(k:Nat)(n:Tx):List Tx:=if n= []then Yn B k []else if(ZG m n).isSome then n::Yn B k n else []
set_option maxHeartbeats 4000000 in
theorem Zd9(P1 P2:W2)(m:EM)(Bt:List TB)(k:Nat)(n:Tx)(Y:J7)(hB:okB Y Bt)(hd:deep (Bt.map YK) k n)(hl:(Yn (Bt.map YK) k n).length<=999999):
  ZI Tryz.prog 23 [.ptr 0 0,.x (.str n)] (Jl P1 P2 (.mpo .str true (Kv m):: .mpo .str false (Bt.map YU)::Y)) (ZJp (.x (.sl (rows ZB (ZYH m (Bt.map YK) k n)))) P1 P2 (.mpo .str true (Kv m):: .mpo .str false (Bt.map YU)::Y)):=by
 have hg:=ZKJ m n;unfold ZYH;by_cases hn:n= []
 .subst hn;rw[if_pos rfl];refine fC 23 true ?_;intro C0 E0;have uu:=trivial;have tT:=(ZF:SsOk Tryz.prog ZO);refine nz ?_;refine rg tT [0,1] ?_;refine rg tT [0,1,8] ?_;refine ce (λh0=> ?_) (λh0=> ?_)
  .simp at h0
  .refine rg tT [0,1,10] ?_;refine ct (λh1=> ?_) (λh1=> ?_)
   .refine WI.cutA ZF [11] 1 ?_;simp only[ξU,ZB4,ZDe,ZBk];refine oS ?_;refine oP ?_;refine ZHk ?_;refine WR.callF ((ZW 52)) (ZQ6 P1 P2 _ Bt k [] Y hB hd J0) ?_;rintro _ _ ⟨rfl,Z,rfl,hZ⟩;refine WR.regB ZF [4] ?_;refine oS ?_;refine oN ?_;refine nz ?_;refine lf ?_;exact⟨rfl,Z,rfl,hZ⟩
   .simp at h1
 .rw[if_neg hn];rcases hm:ZG m n with _|⟨dn,l,u⟩
  .rw[hm,Qg]at hg;rw[if_neg J1];refine fC 23 true ?_;intro C0 E0;have uu:=JX hg @sn0 @st0;have tT:=(ZF:SsOk Tryz.prog ZO);refine nz ?_;refine rg tT [0,1] ?_;refine rg tT [0,1,8] ?_;refine ce (λh0=> ?_) (λh0=> ?_)
   .simp at h0
   .refine rg tT [0,1,10] ?_;refine ce (λh1=> ?_) (λh1=> ?_)
    .exact hn (by simpa using h1)
    .refine rg tT [0,1,6] ?_;refine rg tT [0,1,23] ?_;refine ct (λh2=> ?_) (λh2=> ?_)
     .refine rg tT [4] ?_;refine WI.nn0A ?_;refine lf ?_;exact⟨rfl,[_],rfl,rfl⟩
     .simp at h2
  .rw[hm,Yf]at hg;rw[if_pos J1];have hwl:=Zh ZB (Yn (Bt.map YK) k n);have hwt:(rows ZB (n::Yn (Bt.map YK) k n)).take (1+(Yn (Bt.map YK) k n).length)=rows ZB (n::Yn (Bt.map YK) k n):=Yi (by rw[Zh,JD];omega);refine fC 23 true ?_;intro C0 E0;have uu:=ξ6 hg @sn0 @st0 @sz1 @sy1 hwl;have tT:=(ZF:SsOk Tryz.prog ZO);refine nz ?_;refine rg tT [0,1] ?_;refine rg tT [0,1,8] ?_;refine ce (λh0=> ?_) (λh0=> ?_)
   .simp at h0
   .refine rg tT [0,1,10] ?_;refine ce (λh1=> ?_) (λh1=> ?_)
    .exact hn (by simpa using h1)
    .refine rg tT [0,1,6] ?_;refine rg tT [0,1,23] ?_;refine ce (λh2=> ?_) (λh2=> ?_)
     .simp at h2
     .refine WI.cutA ZF [25,26,27] 4 ?_;simp only[ξU,ZB4,ZDe,ZBk];refine oS ?_;refine oG ?_
      iterate 2 refine oS ?_
      refine oP ?_;refine ZHk ?_;refine WR.callF ((ZW 52)) (ZQ6 P1 P2 _ Bt k n (Y++ [.box [.x (.str dn),.x (.sl (rows ZX l))]]++ [.rows false 9 1 [[.str n]]]) (by rw[Yh];exact ZGU hB _) hd J0) ?_;rintro _ _ ⟨rfl,Z,rfl,hZ⟩;refine WR.regB ZF [4] ?_;refine oG ?_;refine oS ?_;refine oN ?_;refine nz ?_;obtain⟨Z0,hZ0⟩: ∃Z0,Z0=Y++ [Ob.box [.x (.str dn),.x (.sl (rows ZX l))]]:=⟨_,rfl⟩;have hR: [X.str n]::rows ZB (Yn (Bt.map YK) k n)=rows ZB (n::Yn (Bt.map YK) k n):=rfl;rw[<-hZ0,hR];have hl1:(rows ZB (n::Yn (Bt.map YK) k n)).length=1+(Yn (Bt.map YK) k n).length:=by rw[Zh,JD];omega
      generalize rows ZB (n::Yn (Bt.map YK) k n)=R at hwt hl1|-;have uu:=JX uu hwt hl1;refine lf ?_;exact⟨rfl,_,by rw[hZ0];exact congrArg (λz=>Jl P1 P2 (_::_::z)) (as3 Y Z _ _),by simp[Ob.nof,hZ]⟩
theorem Zdq(P1 P2:W2)(m:EM)(Bt:List TB)(k:Nat)(Y:J7)(hB:okB Y Bt)(hd:deep (Bt.map YK) k [])(hl:(Yn (Bt.map YK) k []).length<=999999):
  ZI Tryz.prog 15 [.ptr 0 0] (Jl P1 P2 (.mpo .str true (Kv m):: .mpo .str false (Bt.map YU)::Y)) (ZJp (.x (.sl (rows ZB (Yn (Bt.map YK) k [])))) P1 P2 (.mpo .str true (Kv m):: .mpo .str false (Bt.map YU)::Y)):=by
 refine fC 15 true ?_;intro C0 E0;have uu:=trivial;have tT:=(ZF:SsOk Tryz.prog ZO);refine nz ?_;refine rg tT [0] ?_;refine WI.cutA ZF [3] 1 ?_;simp only[ξU,ZB4,ZDe,ZBk];refine oS ?_;refine oP ?_;refine ZHk ?_;refine WR.callF ((ZW 23)) (Zd9 P1 P2 m Bt k [] Y hB hd hl) ?_;rintro _ _ ⟨rfl,Z,rfl,hZ⟩;refine WR.regB ZF [2] ?_;refine oS ?_;refine oN ?_;refine nz ?_;refine lf ?_;exact⟨rfl,Z,rfl,hZ⟩
def ZI7(r0:D)(m:EM)(B:List (Tx×List Tx))(P1 P2:W2)(r:D)(os':J7):Prop:=r=r0/\ ∃(Bt:List TB) (Y:J7),(Bt.map YK).Perm B/\okB Y Bt/\Y.all Ob.nof=true/\os'=Jl P1 P2 (.mpo .str true (Kv m):: .mpo .str false (Bt.map YU)::Y)
def ZDj(L:List (Tx×Zl))(M:List (Tx×Zy))(m:EM)(dn:Tx)(l:List ZY):Int:=
 if QF dn=false then 34 else if(ZG m dn).isSome=true then 68 else if(ZG m (Zz dn)).isSome=false/\Zz dn≠ []then 32 else if ZFd L M dn l≠0 then ZFd L M dn l else if 1024<=m.length then 80 else 0
def ZEh(l:List Tx)(s:Tx):List Tx:=l.take (Yw l s)++s::l.drop (Yw l s)
def ZBg(c:Int)(B:List (Tx×List Tx))(dn:Tx):List (Tx×List Tx):=if c=0 then Zt B (Zz dn) (ZEh (YF B (Zz dn)) dn)else B
theorem ZGo{v:Int}(hv:v≠0)(m:EM)(Bt:List TB)(P1 P2:W2)(Y:J7)(dn:Tx)(l:List ZY)(hB:okB Y Bt)(hY:Y.all Ob.nof=true)(X:J7)(hX:X.all Ob.nof=true):
  ZI7 (.x (.int .i64 v)) (ZAC v m dn l) (ZBg v (Bt.map YK) dn) P1 P2 (.x (.int .i64 v)) (Jl P1 P2 (.mpo .str true (Kv m):: .mpo .str false (Bt.map YU)::(Y++X))):=by
 unfold ZAC ZBg;rw[if_neg hv,if_neg hv];exact⟨rfl,Bt,_,ZJr _,ZGU hB _,by rw[ZJ1,hY,hX];rfl,rfl⟩
theorem Qj: ∀(a b:J7),(∀(id:Nat) (ds:J8),a[id]? =some (.box ds)->b[id]? =some (.box ds))->a.length<=b.length->JN a b=true
 | [],_,_,_=>rfl
 |x::a,[],_,h=>by simp at h
 |x::a,y::b,h,hl=>by
  have ih:=Qj a b (λid ds hid=>by simpa using h (id+1) ds (by simpa using hid)) (by simpa using hl);cases x with
  |box ds=>
   have h0:=h 0 ds rfl;simp only[ZCs,Ze]at h0;subst h0;simp only[JN,Ob.beq_refl,ih,ZVC]
  |_=>simpa only[JN]using ih
theorem ZN.atR{P:Program}{f:FuncId}{ρ:W0}{args:J8}{OS:J7}{r:D}{os':J7}(hok:QB ρ args OS=true)(h:ZN P f (Zu (Ye ρ) args) (YS ρ OS) r os')(hl:ρ.length<=os'.length):ZN P f args OS (r.ren (KA ρ OS.length os'.length)) (KJ ρ OS os'):=by
 have hf:ZI P f (Zu (Ye ρ) args) (YS ρ OS) (λr' os2=>r'=r/\os2=os'):=by
  intro c E vs R hvl;refine(h c E vs R hvl).mono ?_;rintro e w' ⟨v,E',rfl,rfl,R',ev,hv⟩;exact⟨v,E',_,_,rfl,rfl,R',ev,hv,rfl,rfl⟩
 refine ZI.mcalls (λc E vs R hvl=>((ZI.lift hok hf (λr os' ⟨_,h⟩=>by rw[h];exact hl)) c E vs R hvl).mono ?_);rintro e w' ⟨v,E',r2,os2,rfl,rfl,R',ev,hv,r3,os3,⟨rfl,rfl⟩,rfl,rfl⟩;exact⟨v,E',_,_,rfl,rfl,R',ev,hv,rfl,rfl⟩
theorem ZOo(B:List TB)(s:Tx)(i:Nat)(l:List Tx):(Zt B s (i,l)).map YK=Zt (B.map YK) s l:=by
 induction B with
 |nil=>rfl
 |cons p B ih=>
  by_cases h:s=p.1
  .have e1:Zt (p::B) s (i,l)=(s,(i,l))::B:=by simp[Zt,h]
   have e2:Zt (YK p::B.map YK) s l=(s,l)::B.map YK:=by simp[Zt,YK,h]
   rw[e1,YL,YL,e2];rfl
  .have e1:Zt (p::B) s (i,l)=p::Zt B s (i,l):=by simp[Zt,h]
   have e2:Zt (YK p::B.map YK) s l=YK p::Zt (B.map YK) s l:=by simp[Zt,YK,h]
   rw[e1,YL,YL,e2,ih]
theorem ZdY{κ β:Type}[DecidableEq κ]{A:List (κ×β)}{c:κ}(h:ZG A c=none):c∉A.map (·.1):=by
 intro hc;obtain⟨p,hp,rfl⟩:=YO.1 hc;unfold ZG at h;rw[Option.map_eq_none_iff,List.find?_eq_none]at h;exact h p hp J1
theorem ZeL{Y:J7}{B:List TB}(h:okB Y B)(W:J7)(s:Tx)(l:List Tx)(hs:ZG B s=none)(hl:l.length<=1000000)(Z:J7):okB (Y++W++Ob.rows false 9 1 (rows ZB l)::Z) (Zt B s ((Y++W).length,l)):=by
 rw[ZCb hs];have hlt: ∀x∈B,x.2.1<Y.length:=λx hx=>(ZV (h.2.2 x hx).1).1
 refine⟨?_,?_,λx hx=> ?_⟩
 .rw[Jt,ZGy];exact⟨h.1,J1,λa ha b hb e=>ZdY hs (by simp at hb;subst hb;rw[<-e];exact ha)⟩
 .rw[Jt,ZGy];refine⟨h.2.1,J1,λa ha b hb e=> ?_⟩;obtain⟨x,hx,rfl⟩:=YO.1 ha;have:=hlt x hx;simp at hb;omega
 .rcases Qc.1 hx with hx|hx
  .refine⟨?_,(h.2.2 x hx).2⟩;rw[Yh,Yc (hlt x hx)];exact(h.2.2 x hx).1
  .simp only[ZBK]at hx;subst hx;exact⟨J1,hl⟩
theorem Zem{Y:J7}{B:List TB}(h:okB Y B)(s:Tx)(i:Nat)(l0 l:List Tx)(hs:ZG B s=some (i,l0))(hl:l.length<=1000000)(W:J7):okB (Y.set i (.rows false 9 1 (rows ZB l))++W) (Zt B s (i,l)):=by
 have hp:=ZKy hs;have hq:=ZBQ B s (i,l);have hm:=Jx hs;have hi:=(ZV (h.2.2 _ hm).1).1;have n1:((s,(i,l0))::Zg B s).map (·.1)=((s,(i,l))::Zg B s).map (·.1):=rfl;have n2:((s,(i,l0))::Zg B s).map (·.2.1)=((s,(i,l))::Zg B s).map (·.2.1):=rfl;have m1:=(hp.map (·.1)).nodup_iff.1 h.1;have m2:=(hp.map (·.2.1)).nodup_iff.1 h.2.1;refine⟨(hq.map (·.1)).nodup_iff.2 (n1▸m1),(hq.map (·.2.1)).nodup_iff.2 (n2▸m2),λx hx=> ?_⟩;rcases KB.1 (hq.mem_iff.1 hx)with rfl|hx
 .exact⟨by rw[Yc (by simpa using hi)];simp[hi],hl⟩
 .have hxB:x∈B:=hp.mem_iff.2 (ξZ _ hx);have hx2:=h.2.2 x hxB;have hxl:=(ZV hx2.1).1;refine⟨?_,hx2.2⟩;have hne:i≠x.2.1:=λe=>by
   rw[YL,ZAb]at m2;exact m2.1 (YO.2 ⟨x,hx,e.symm⟩)
  rw[Yc (by simpa using hxl),ZCD hne];exact hx2.1
theorem ZXy(m:EM)(Bt:List TB)(P1 P2:W2)(Y U:J7)(dn:Tx)(l:List ZY)(hB:okB Y Bt)(hY:Y.all Ob.nof=true)(hU:U.all Ob.nof=true)(hs:ZG Bt (Zz dn)=none)(OS:J7)(hOS:OS=Jl P1 P2 (.mpo .str true (Kv (Zt m dn (dn,YH l,()))):: .mpo .str false (Bt.map YU)::(Y++U)))(o:Ob)(ho:o.nof=true):
  ZI7 (.x (.int .i64 0)) (ZAC 0 m dn l) (ZBg 0 (Bt.map YK) dn) P1 P2 (.x (.int .i64 0)) ((OS++ [o]++ [Ob.rows false 9 1 [[.str dn]]]).set 5 (.mpo .str false (Yb (Bt.map YU) [.str (Zz dn)] [.ref (OS.length+1) 1 0 1]))):=by
 have hol:OS.length+1=(Y++(U++ [o])).length+6:=by rw[hOS];simp[Jl];omega
 refine⟨rfl,Zt Bt (Zz dn) ((Y++(U++ [o])).length,[dn]),Y++(U++ [o])++ [Ob.rows false 9 1 (rows ZB [dn])],?_,ZeL hB _ _ _ hs J1 _,?_,?_⟩
 .rw[ZOo,ZBg,if_pos rfl];have:YF (Bt.map YK) (Zz dn)= []:=by unfold YF;rw[ZEo,hs];rfl
  rw[this];exact ZJr _
 .simp only[ZJ1,Qz,ZEz,hY,hU,ho];rfl
 .rw[hol,show([D.ref ((Y++(U++ [o])).length+6) 1 0 1])= [.ref ((Y++(U++ [o])).length+6) [dn].length 0 [dn].length]from rfl,ZSc,hOS,ZAC,if_pos rfl];simp[Jl,rows,ZB]
theorem ZYx(m:EM)(Bt:List TB)(P1 P2:W2)(Y U:J7)(dn:Tx)(l:List ZY)(hB:okB Y Bt)(hY:Y.all Ob.nof=true)(hU:U.all Ob.nof=true)(i:Nat)(row:List Tx)(hs:ZG Bt (Zz dn)=some (i,row))(hl:row.length<=999999)(OS:J7)(hOS:OS=Jl P1 P2 (.mpo .str true (Kv (Zt m dn (dn,YH l,()))):: .mpo .str false (Bt.map YU)::(Y++U)))(o:Ob)(ho:o.nof=true):
  ZI7 (.x (.int .i64 0)) (ZAC 0 m dn l) (ZBg 0 (Bt.map YK) dn) P1 P2 (.x (.int .i64 0)) (((OS++ [o]).set (i+6) (.rows false 9 1 (rows ZB (ZEh row dn)))).set 5 (.mpo .str false (Yb (Bt.map YU) [.str (Zz dn)] [.ref (i+6) (row.length+1) 0 (row.length+1)]))):=by
 have hil:(ZEh row dn).length=row.length+1:=by
  have:=ZJs row dn;unfold ZEh;simp;omega
 have hi:=(ZV (hB.2.2 _ (Jx hs)).1).1;simp only at hi;refine⟨rfl,Zt Bt (Zz dn) (i,ZEh row dn),Y.set i (.rows false 9 1 (rows ZB (ZEh row dn)))++(U++ [o]),?_,Zem hB _ _ row _ hs J0 _,?_,?_⟩
 .rw[ZOo,ZBg,if_pos rfl];have:YF (Bt.map YK) (Zz dn)=row:=by unfold YF;rw[ZEo,hs];rfl
  rw[this]
 .simp only[ZJ1,Qz,ZEz,hU,ho,QS];rw[Yd]at hY|-;intro x hx;rcases ZWR hx with h|h
  .exact hY x h
  .rw[h];rfl
 .rw[<-hil,ZSc,hOS,ZAC,if_pos rfl];simp only[Jl,Qx,ZBX,ZDC,Yh];rw[ZMn _ _ J0]
theorem ZZz(l:List Tx)(s:Tx):YN (rows ZB l) (Yw l s) [[.str s]]=rows ZB (ZEh l s):=by simp[YN,ZEh,rows,ZB]
theorem ZNI:Go.Ab.Enters Tryz.prog 44:=ZW 44
theorem ZeX(OS:J7)(r:J9):ZN Tryz.prog 44 [.x .nils,.x (.int .i64 ((0:Nat):Int)),.ref OS.length 1 0 1] (OS++ [Ob.rows false 9 1 [r]]) (.ref (OS.length+1) 1 0 1) (OS++ [Ob.rows false 9 1 [r]]++ [Ob.rows false 9 1 [r]]):=by
 have hg:(OS++ [Ob.rows false 9 1 [r]]).getD OS.length .dead= .rows false 9 1 [r]:=by simp[List.getD]
 have hO:YS [OS.length] (OS++ [Ob.rows false 9 1 [r]])= [.rows false 9 1 [r]]:=by simp only[YS,YL,ZAD,hg];rfl
 have ha:Zu (Ye [OS.length]) [D.x .nils,.x (.int .i64 ((0:Nat):Int)),.ref OS.length 1 0 1]= [.x .nils,.x (.int .i64 0),.ref 0 1 0 1]:=by simp[Zu,D.ren,Ye]
 have h:=ZN.atR (P:=Tryz.prog) (f:=44) (ρ:= [OS.length]) (args:= [.x .nils,.x (.int .i64 ((0:Nat):Int)),.ref OS.length 1 0 1]) (OS:=OS++ [Ob.rows false 9 1 [r]]) (r:= .ref 1 1 0 1) (os':= [.rows false 9 1 [r],.rows false 9 1 [r]]) (by simp[QB,Yo,D.inP,Zn,QD,hg,Ob.inP]) (by rw[hO,ha];exact ZWs r) J1;have e1:(D.ref 1 1 0 1).ren (KA [OS.length] (OS++ [Ob.rows false 9 1 [r]]).length 2)= .ref (OS.length+1) 1 0 1:=by simp[D.ren,KA]
 have e2:KJ [OS.length] (OS++ [Ob.rows false 9 1 [r]]) [.rows false 9 1 [r],.rows false 9 1 [r]]=OS++ [Ob.rows false 9 1 [r]]++ [Ob.rows false 9 1 [r]]:=by
  simp only[KJ,YL,ZAD,Ob.ren,KI,JD,ξN,ZDe,ZBk,st0]
 rw[<-e1,<-e2];exact h
theorem ZeO(OS:J7)(a:Nat)(rs:J6)(r:J9)(k:Nat)(h:OS[a]? =some (.rows false 9 1 rs))(hk:k<=rs.length)(hn:rs.length<=1000000):ZN Tryz.prog 44 [.ref a rs.length 0 rs.length,.x (.int .i64 k),.ref OS.length 1 0 1] (OS++ [Ob.rows false 9 1 [r]]) (.ref a (rs.length+1) 0 (rs.length+1)) ((OS++ [Ob.rows false 9 1 [r]]).set a (.rows false 9 1 (YN rs k [r]))):=by
 have hal:=(ZV h).1;have hg:(OS++ [Ob.rows false 9 1 [r]]).getD OS.length .dead= .rows false 9 1 [r]:=by simp[List.getD]
 have hg2:(OS++ [Ob.rows false 9 1 [r]]).getD a .dead= .rows false 9 1 rs:=by rw[ZFm,Yc hal,h];rfl
 have hne:a≠OS.length:=by omega
 have hne2:OS.length≠a:=by omega
 have hO:YS [a,OS.length] (OS++ [Ob.rows false 9 1 [r]])= [.rows false 9 1 rs,.rows false 9 1 [r]]:=by simp only[YS,YL,ZAD,hg,hg2];rfl
 have ha:Zu (Ye [a,OS.length]) [D.ref a rs.length 0 rs.length,.x (.int .i64 k),.ref OS.length 1 0 1]= [.ref 0 rs.length 0 rs.length,.x (.int .i64 k),.ref 1 1 0 1]:=by simp[Zu,D.ren,Ye,hne2]
 have hnb:Nat.beq a OS.length=false:=by
  cases hb:Nat.beq a OS.length with
  |false=>rfl
  |true=>exact absurd (ZRc hb) hne
 have hfp:QB [a,OS.length] [.ref a rs.length 0 rs.length,.x (.int .i64 k),.ref OS.length 1 0 1] (OS++ [Ob.rows false 9 1 [r]])=true:=by
  unfold QB;simp only[Qz,ZEz,hg,hg2,Ob.inP,Yo,D.inP,Zn,QD,hnb,ZD9,QS,ZKr,ZKI,ZEZ,ZOy,ZS,Zd,Zf,JD,ξN];omega
 have h:=ZN.atR (P:=Tryz.prog) (f:=44) (ρ:= [a,OS.length]) (args:= [.ref a rs.length 0 rs.length,.x (.int .i64 k),.ref OS.length 1 0 1]) (OS:=OS++ [Ob.rows false 9 1 [r]]) (r:= .ref 0 (rs.length+1) 0 (rs.length+1)) (os':= [.rows false 9 1 (YN rs k [r]),.rows false 9 1 [r]]) hfp (by rw[hO,ha];exact ZZy rs r k hk hn) J1;have e1:(D.ref 0 (rs.length+1) 0 (rs.length+1)).ren (KA [a,OS.length] (OS++ [Ob.rows false 9 1 [r]]).length 2)= .ref a (rs.length+1) 0 (rs.length+1):=by simp[D.ren,KA]
 have e2:KJ [a,OS.length] (OS++ [Ob.rows false 9 1 [r]]) [.rows false 9 1 (YN rs k [r]),.rows false 9 1 [r]]=(OS++ [Ob.rows false 9 1 [r]]).set a (.rows false 9 1 (YN rs k [r])):=by
  simp only[KJ,YL,ZAD,Ob.ren,KI,JD,ξN,ZDe,ZBk,Ku];rw[ZMn _ _ hal];rw[ZEH _ _ J1];simp
 rw[<-e1,<-e2];exact h
def ZIQ:Tabs:=ZT (ZT (ZT (ZO) 39 ZC1) 41 (ZBa KN)) 42 (ZBa ZJf)
theorem Zp:SsOk Tryz.prog ZIQ:=ZH (ZH (ZH (ZF) (ZW 39) ZNx) (ZW 41) (ZMy ZF8)) (ZW 42) (ZMy ZUl)
theorem ZSp:(∀a,ZIQ.q 39 a=ZC1 a)/\(∀a,ZIQ.q 41 a=ZBa KN a)/\(∀a,ZIQ.q 42 a=ZBa ZJf a)/\(∀f a o,ZIQ.r f a o=none)/\(∀f a o,ZIQ.k f a o=none):=⟨λ_=>rfl,λ_=>rfl,λ_=>rfl,λ_ _ _=>rfl,λ_ _ _=>rfl⟩
set_option maxHeartbeats 4000000 in
theorem Zhy(L:List (Tx×Zl))(M:List (Tx×Zy))(m:EM)(Bt:List TB)(Y:J7)(dn:Tx)(l:List ZY)(h:smL l)(hk:ZGm M l)(hB:okB Y Bt)(hY:Y.all Ob.nof=true)(hr: ∀x∈Bt,SoL x.2.2/\x.2.2.length<=999999)(hm:m.length<=1000000):
  ZI Tryz.prog 12 [.ptr 0 0,.agg [.x (.str dn),.x (.sl (rows ZX l))]] (Jl (JQ L) (JL M) (.mpo .str true (Kv m):: .mpo .str false (Bt.map YU)::Y)) (ZI7 (.x (.int .i64 (ZDj L M m dn l))) (ZAC (ZDj L M m dn l) m dn l) (ZBg (ZDj L M m dn l) (Bt.map YK) dn) (JQ L) (JL M)):=by
 have hul:Zb ZX (rows ZX l)=some l:=Zr YR l;have hdm:=ZL (show l.length<=100/\(∀a∈l,a.1.length<=1000000)/\ ∀a∈l,a.2.1.length<=400 from h);have hst:=ZZd m dn (dn,YH l,());have hg:=ZKJ m dn;have hg2:=ZKJ m (Zz dn);have hg3:=ZNc Bt (Zz dn);have hln:=Zgu m;obtain⟨v,hv⟩: ∃v,ZDj L M m dn l=v:=⟨_,rfl⟩;rw[hv];unfold ZDj at hv;refine fC 12 true ?_;intro C0 E0;have uu:=KT @ZHZ @ZHc @ZHX @ZHg @ZC1.eq_1 @ZC1.eq_2 @KN.eq_1 @KN.eq_2 (KT @ZJf.eq_1 @ZJf.eq_2 @sn0 @sn1 @sn2 @st0 @st1 hul (ξ4 hdm hst hln @ZSp));refine WI.seq ?_;refine WI.regB Zp [0,3] ?_;refine oG ?_;refine oS ?_;refine oN ?_;refine ZA ?_;refine WI.seq ?_;refine WI.seq ?_;refine WI.regB Zp [0,3,23] ?_;refine oS ?_;refine oG ?_;refine oS ?_
 iterate 6 refine oG ?_
 refine oN ?_;refine ZA ?_;refine WI.cond (b:=_) rfl rfl (λh0=> ?_) (λh0=> ?_)
 .exfalso;simp at h0
 .try simp only[zB]at h0
  refine WI.skip ?_;refine ZA ?_;refine WI.seq ?_;refine WI.regB Zp [0,3,5,6] ?_;refine oS ?_;refine oG ?_;refine oC ?_;refine oS ?_
  iterate 2 refine oG ?_
  iterate 2 refine oS ?_
  refine oN ?_;refine ZA ?_;refine WI.seq ?_;refine WI.seq ?_;refine WI.regB Zp [0,3,5,31] ?_;refine oS ?_;refine oG ?_;refine oN ?_;refine ZA ?_;refine WI.cond (b:=_) rfl rfl (λh1=> ?_) (λh1=> ?_)
  .try simp only[zB]at h1
   have e1:QF dn=false:=by simpa using h1
   rw[if_pos e1]at hv;subst hv;refine WI.seq ?_;refine WI.regB Zp [4] ?_;refine oS ?_;refine oN ?_;refine ZA ?_;refine WI.ret ?_;refine JP ?_
   first|refine lfR ?_|refine ZB5 ?_|refine ZBd ?_|refine ZB7 ?_
   exact ZGo (by decide) m Bt _ _ Y dn l hB hY [_] rfl
  .try simp only[zB]at h1
   have e1: ¬QF dn=false:=by simpa using h1
   rw[if_neg e1]at hv;refine WI.skip ?_;refine ZA ?_;refine WI.seq ?_;refine WI.seq ?_;rcases hl:ZG m dn with _|⟨dn',l',u⟩
   .rw[hl,Qg]at hg;rw[hl,if_neg J1]at hv;have uu:=Ya uu hg;refine WI.dregB Zp [0,3,5,8] ?_
    iterate 3 refine Zs ?_
    refine Yp ?_;refine Zs ?_
    iterate 2 refine Yp ?_
    refine Zs ?_
    iterate 2 refine Jq ?_
    refine dKG ?_;refine dAG ?_;refine Zs ?_;refine dN ?_;refine ZA ?_;refine WI.seq ?_;refine WI.regB Zp [0,3,5,42] ?_;refine oS ?_;refine oN ?_;refine ZA ?_;refine WI.cond (b:=_) rfl rfl (λh2=> ?_) (λh2=> ?_)
    .exfalso;simp at h2
    .try simp only[zB]at h2
     refine WI.skip ?_;refine ZA ?_;refine WI.seq ?_;refine WI.join (λφ os=> ∃b3:Ob,φ= [(0,.ptr 0 0),(3,.ptr (Y.length+1+1+1+1+1+1) 0),(5,.x (.str (Zz dn))),(10,.x (.bool (ZG m (Zz dn)).isSome))]/\os=Jl (JQ L) (JL M) (.mpo .str true (Kv m):: .mpo .str false (Bt.map YU)::(Y++ [.box [.x (.str dn),.x (.sl (rows ZX l))]]++ [.box [.x (.str []),.x .nils]]++ [b3]))/\b3.nof=true) ?_ (λφ os hJ=> ?_)
     .rcases hl2:ZG m (Zz dn)with _|⟨dn2,l2,u2⟩
      .rw[hl2,Qg]at hg2;have uu:=Ya uu hg2;refine WI.regB Zp [0,3,5,10] ?_
       iterate 3 refine oS ?_
       refine oG ?_;refine oS ?_;refine oG ?_;refine oS ?_
       iterate 4 refine oG ?_
       refine oS ?_;refine oN ?_;refine ZA ?_;exact⟨_,rfl,rfl,rfl⟩
      .rw[hl2,Yf]at hg2;have uu:=Ya uu hg2;refine WI.regB Zp [0,3,5,10] ?_
       iterate 3 refine oS ?_
       refine oG ?_;refine oS ?_;refine oG ?_;refine oS ?_
       iterate 4 refine oG ?_
       refine oS ?_;refine oN ?_;refine ZA ?_;exact⟨_,rfl,rfl,rfl⟩
     .obtain⟨b3,rfl,rfl,hb3⟩:=hJ;refine WI.seq ?_;refine WI.regB Zp [0,3,5,57] ?_;refine oS ?_;refine oG ?_;refine oS ?_
      iterate 3 refine oG ?_
      refine oN ?_;refine ZA ?_;refine WI.cond (b:=_) rfl rfl (λh3=> ?_) (λh3=> ?_)
      .try simp only[zB]at h3
       have e3:(ZG m (Zz dn)).isSome=false/\Zz dn≠ []:=by simpa using h3
       rw[if_pos e3]at hv;subst hv;refine WI.seq ?_;refine WI.regB Zp [4] ?_;refine oS ?_;refine oN ?_;refine ZA ?_;refine WI.ret ?_;refine JP ?_
       first|refine lfR ?_|refine ZB5 ?_|refine ZBd ?_|refine ZB7 ?_
       rw[as3];exact ZGo (by decide) m Bt _ _ Y dn l hB hY _ (by simp only[Qz,hb3,QS];rfl)
      .try simp only[zB]at h3
       have e3: ¬((ZG m (Zz dn)).isSome=false/\Zz dn≠ []):=by rintro⟨e4,e5⟩;rw[e4]at h3;simp[e5]at h3
       rw[if_neg e3]at hv;obtain⟨V,hV⟩: ∃V,V=Y++ [.box [.x (.str dn),.x (.sl (rows ZX l))]]++ [.box [.x (.str []),.x .nils]]++ [b3]:=⟨_,rfl⟩;have hVe:V[Y.length]? =some (.box [.x (.str dn),.x (.sl (rows ZX l))]):=by rw[hV];exact sn2 Y _ _ _
       have uu:=Ya uu hVe;rw[<-hV];refine WI.skip ?_;refine ZA ?_;refine WI.seq ?_;refine WI.seq ?_;refine WI.cutA Zp [0,3,5,58,59] 2 ?_;simp only[ξU,ZB4,ZDe,ZBk];refine oS ?_;refine oG ?_;refine oP ?_;refine ZHk ?_;refine WR.callF ((ZW 40)) (ZUO L M (.mpo .str true (Kv m):: .mpo .str false (Bt.map YU)::V) dn l h hk) ?_;rintro _ _ ⟨rfl,Z,rfl,hZ⟩;obtain⟨W,hW⟩: ∃W,W=V++Z:=⟨_,rfl⟩;have hWe:W[Y.length]? =some (.box [.x (.str dn),.x (.sl (rows ZX l))]):=by rw[hW,Yc (ZV hVe).1];exact hVe
       have hWY: ∃U,W=Y++U/\U.all Ob.nof=true:=⟨_,by rw[hW,hV,as4],by simp only[Qz,hZ,hb3,QS];rfl⟩;dsimp only[List.cons_append];rw[<-hW];clear hW hV;obtain⟨U,hWU,hU⟩:=hWY;have uu:=Ya uu hWe;refine WR.regB Zp [0,3,5,11] ?_;refine oS ?_;refine oN ?_;refine ZA ?_;refine WI.seq ?_;refine WI.regB Zp [0,3,5,11,62] ?_;refine oS ?_;refine oG ?_;refine oN ?_;refine ZA ?_;refine WI.cond (b:=_) rfl rfl (λh4=> ?_) (λh4=> ?_)
       .try simp only[zB]at h4
        have e4:ZFd L M dn l≠0:=by simpa using h4
        rw[if_pos e4]at hv;subst hv;refine WI.seq ?_;refine WI.regB Zp [4] ?_
        iterate 2 refine oS ?_
        refine oN ?_;refine ZA ?_;refine WI.ret ?_;refine JP ?_
        first|refine lfR ?_|refine ZB5 ?_|refine ZBd ?_|refine ZB7 ?_
        rw[hWU];exact ZGo e4 m Bt _ _ Y dn l hB hY _ hU
       .try simp only[zB]at h4
        have e4: ¬ZFd L M dn l≠0:=by simpa using h4
        rw[if_neg e4]at hv;refine WI.skip ?_;refine ZA ?_;refine WI.seq ?_;refine WI.seq ?_;refine WI.regB Zp [0,3,5,69] ?_
        iterate 3 refine oS ?_
        iterate 3 refine oG ?_
        refine oN ?_;refine ZA ?_;refine WI.cond (b:=_) rfl rfl (λh5=> ?_) (λh5=> ?_)
        .try simp only[zB]at h5
         have e5:1024<=m.length:=by omega
         rw[if_pos e5]at hv;subst hv;refine WI.seq ?_;refine WI.regB Zp [4] ?_;refine oS ?_;refine oN ?_;refine ZA ?_;refine WI.ret ?_;refine JP ?_
         first|refine lfR ?_|refine ZB5 ?_|refine ZBd ?_|refine ZB7 ?_
         rw[hWU];exact ZGo (by decide) m Bt _ _ Y dn l hB hY _ hU
        .try simp only[zB]at h5
         have e5: ¬1024<=m.length:=by omega
         rw[if_neg e5]at hv;subst hv;refine WI.skip ?_;refine ZA ?_;refine WI.seq ?_;refine WI.dregB Zp [0,3,5] ?_
         iterate 3 refine Zs ?_
         refine Yp ?_;refine Zs ?_
         iterate 2 refine Yp ?_
         refine dQC ?_;refine dAG ?_;refine dN ?_;refine ZA ?_;refine WI.seq ?_;rcases hb:ZG Bt (Zz dn)with _|⟨i,row⟩
         .rw[hb,Qg]at hg3;have hb2:Yw [] dn=0:=rfl;have hsd:decide (SoL []/\([]:List Tx).length<=1000000)=true:=ZL ⟨List.Pairwise.nil,by decide⟩;have huw:Zb ZB []=some []:=rfl;have uu:=ξ5 uu hg3 hb2 hsd huw;refine WI.regB Zp [0,3,5,12] ?_
          iterate 3 refine oS ?_
          refine oG ?_;refine oS ?_;refine oG ?_;refine oS ?_;refine oN ?_;refine ZA ?_;refine WI.seq ?_;refine WI.regB Zp [0,3,5,12,13] ?_
          iterate 2 refine oS ?_
          refine oG ?_;refine oC ?_;refine oS ?_
          iterate 2 refine oG ?_
          iterate 2 refine oS ?_
          refine oN ?_;refine ZA ?_;refine WI.seq ?_;obtain⟨OT,hOT⟩: ∃OT,OT= .box [.mref 2,.mref 3]:: .mpo .str true (JQ L):: .mpo .str true (JL M):: .mpo .str true (Kv (Zt m dn (dn,YH l,()))):: .mpo .str false (Bt.map YU)::W:=⟨_,rfl⟩;have hOS:Ob.box [.ptr 1 0,.mref 4,.mref 5]::OT=Jl (JQ L) (JL M) (.mpo .str true (Kv (Zt m dn (dn,YH l,()))):: .mpo .str false (Bt.map YU)::(Y++U)):=by rw[hOT,hWU]
          have hOe:OT[Y.length+1+1+1+1+1]? =some (.box [.x (.str dn),.x (.sl (rows ZX l))]):=by rw[hOT];exact hWe
          have hO5: ∀V:J7,(OT++V)[4]? =some (.mpo .str false (Bt.map YU)):=λV=>by rw[hOT];rfl
          have hb4: ∀(id:Nat) (ds:J8),OT[id]? =some (.box ds)->id≠4:=λid ds h e=>by subst e;rw[hOT]at h;cases h
          have hlt: ∀(id:Nat) (ds:J8),OT[id]? =some (.box ds)->id<OT.length:=λid ds h=>(ZV h).1
          have hbx: ∀V:J7,JN OT (OT++V)=true:=λV=>Qj _ _ (λid ds h=>by rw[Yc (hlt id ds h)];exact h) J1
          have hbx0:JN OT OT=true:=Qj _ _ (λid ds h=>h) (Zm _);have hbx5: ∀(V:J7) (q:W2),JN OT ((OT++V).set 4 (.mpo .str false q))=true:=λV q=>Qj _ _ (λid ds h=>by rw[ZCD (hb4 id ds h).symm,Yc (hlt id ds h)];exact h) J1
          have hin:=ZeX (.box [.ptr 1 0,.mref 4,.mref 5]::OT) [.str dn];simp only[Qx,JD,Yh,ZAR]at hin;rw[<-hOT];have hap: ∀V W:J7,OT++V++W=OT++(V++W):=λV W=>Yh _ _ _
          have uu:=ξ7 uu hOe hO5 hbx hbx0 hap hbx5;refine WI.dregY (ZCV ZF ZNI hin) [] [] ?_
          iterate 3 refine xFS ?_
          refine xRG ?_
          iterate 4 refine xFS ?_
          iterate 2 refine xAG ?_
          refine xAC ?_;refine xAG ?_;refine xN ?_;refine ZA ?_;refine WI.seq ?_;refine WI.regB Zp [4] ?_;refine oS ?_;refine oN ?_;refine ZA ?_;refine WI.ret ?_
          first|refine lfR ?_|refine ZB5 ?_|refine ZBd ?_|refine ZB7 ?_
          have hf:=ZXy m Bt (JQ L) (JL M) Y U dn l hB hY hU hb _ hOS (.rows false 9 1 [[.str dn]]) rfl;rw[Yh]at hf;exact hf
         .rw[hb,Yf]at hg3;obtain⟨hYi,_⟩:=hB.2.2 _ (Jx hb);obtain⟨hso,hrl⟩:=hr _ (Jx hb);simp only at hYi hso hrl;have hWi:W[i]? =some (.rows false 9 1 (rows ZB row)):=by rw[hWU,Yc (ZV hYi).1];exact hYi
          have hsd:decide (SoL row/\row.length<=1000000)=true:=ZL ⟨hso,J0⟩;have huw:Zb ZB (rows ZB row)=some row:=Zr ZP row;have hrn:=Zh ZB row;have htl:(rows ZB row).take row.length=rows ZB row:=by rw[<-hrn,Jm]
          have uu:=ξ7 uu hg3 hWi hsd huw hrn htl;refine WI.regB Zp [0,3,5,12] ?_
          iterate 3 refine oS ?_
          refine oG ?_;refine oS ?_;refine oG ?_;refine oS ?_;refine oN ?_;refine ZA ?_;refine WI.seq ?_;refine WI.regB Zp [0,3,5,12,13] ?_
          iterate 2 refine oS ?_
          refine oG ?_;refine oC ?_;refine oS ?_
          iterate 2 refine oG ?_
          iterate 2 refine oS ?_
          refine oN ?_;refine ZA ?_;refine WI.seq ?_;obtain⟨OT,hOT⟩: ∃OT,OT= .box [.mref 2,.mref 3]:: .mpo .str true (JQ L):: .mpo .str true (JL M):: .mpo .str true (Kv (Zt m dn (dn,YH l,()))):: .mpo .str false (Bt.map YU)::W:=⟨_,rfl⟩;have hOS:Ob.box [.ptr 1 0,.mref 4,.mref 5]::OT=Jl (JQ L) (JL M) (.mpo .str true (Kv (Zt m dn (dn,YH l,()))):: .mpo .str false (Bt.map YU)::(Y++U)):=by rw[hOT,hWU]
          have hOe:OT[Y.length+1+1+1+1+1]? =some (.box [.x (.str dn),.x (.sl (rows ZX l))]):=by rw[hOT];exact hWe
          have hO5: ∀V:J7,(OT++V)[4]? =some (.mpo .str false (Bt.map YU)):=λV=>by rw[hOT];rfl
          have hb4: ∀(id:Nat) (ds:J8),OT[id]? =some (.box ds)->id≠4:=λid ds h e=>by subst e;rw[hOT]at h;cases h
          have hlt: ∀(id:Nat) (ds:J8),OT[id]? =some (.box ds)->id<OT.length:=λid ds h=>(ZV h).1
          have hbx: ∀V:J7,JN OT (OT++V)=true:=λV=>Qj _ _ (λid ds h=>by rw[Yc (hlt id ds h)];exact h) J1
          have hbx0:JN OT OT=true:=Qj _ _ (λid ds h=>h) (Zm _);have hOi:OT[i+5]? =some (.rows false 9 1 (rows ZB row)):=by rw[hOT];exact hWi
          have hOi2: ∀V:J7,(OT++V)[i+5]? =some (.rows false 9 1 (rows ZB row)):=λV=>by rw[Yc (ZV hOi).1];exact hOi
          have uu:=Ya uu hOi2;have hbi: ∀(id:Nat) (ds:J8),OT[id]? =some (.box ds)->i+5≠id:=λid ds h e=>by subst e;rw[hOi]at h;cases h
          have hbx5:(∀(V:J7) (R:Ob),JN OT ((OT++V).set (i+5) R)=true)/\(∀(V:J7) (R:Ob) (q:W2),JN OT (((OT++V).set (i+5) R).set 4 (.mpo .str false q))=true)/\ ∀(V:J7) (R:Ob),((OT++V).set (i+5) R)[4]? =some (.mpo .str false (Bt.map YU)):=
           ⟨λV R=>Qj _ _ (λid ds h=>by rw[ZCD (hbi id ds h),Yc (hlt id ds h)];exact h) J1,λV R q=>Qj _ _ (λid ds h=>by rw[ZCD (hb4 id ds h).symm,ZCD (hbi id ds h),Yc (hlt id ds h)];exact h) J1,λV R=>by rw[ZCD J0];exact hO5 V⟩
          have hin:=ZeO (.box [.ptr 1 0,.mref 4,.mref 5]::OT) (i+6) (rows ZB row) [.str dn] (Yw row dn) hOi (by rw[hrn];exact ZJs row dn) (by rw[hrn];omega);rw[hrn]at hin;simp only[Qx,JD,ZBX]at hin;rw[<-hOT];have hap: ∀V W:J7,OT++V++W=OT++(V++W):=λV W=>Yh _ _ _
          have uu:=ξ7 uu hOe hO5 hbx hbx0 hap hbx5;refine WI.dregY (ZCV ZF ZNI hin) [] [] ?_
          iterate 3 refine xFS ?_
          refine xRG ?_
          iterate 4 refine xFS ?_
          iterate 2 refine xAG ?_
          refine xAC ?_;refine xAG ?_;refine xN ?_;refine ZA ?_;refine WI.seq ?_;refine WI.regB Zp [4] ?_;refine oS ?_;refine oN ?_;refine ZA ?_;refine WI.ret ?_
          first|refine lfR ?_|refine ZB5 ?_|refine ZBd ?_|refine ZB7 ?_
          have hf:=ZYx m Bt (JQ L) (JL M) Y U dn l hB hY hU i row hb hrl _ hOS (.rows false 9 1 [[.str dn]]) rfl;rw[ZZz];exact hf
   .rw[hl,Yf]at hg;rw[hl,if_pos J1]at hv;subst hv;have uu:=Ya uu hg;refine WI.dregB Zp [0,3,5,8] ?_
    iterate 3 refine Zs ?_
    refine Yp ?_;refine Zs ?_
    iterate 2 refine Yp ?_
    refine Zs ?_
    iterate 2 refine Jq ?_
    refine dKG ?_;refine dAG ?_;refine Zs ?_;refine dN ?_;refine ZA ?_;refine WI.seq ?_;refine WI.regB Zp [0,3,5,42] ?_;refine oS ?_;refine oN ?_;refine ZA ?_;refine WI.cond (b:=_) rfl rfl (λh2=> ?_) (λh2=> ?_)
    .try simp only[zB]at h2
     refine WI.seq ?_;refine WI.regB Zp [4] ?_;refine oS ?_;refine oN ?_;refine ZA ?_;refine WI.ret ?_;refine JP ?_
     first|refine lfR ?_|refine ZB5 ?_|refine ZBd ?_|refine ZB7 ?_
     rw[as2];exact ZGo (by decide) m Bt _ _ Y dn l hB hY [_,_] rfl
    .exfalso;simp at h2
def ZCA(m:EM)(B:List (Tx×List Tx))(n:Tx):Int:=if(ZG m n).isSome=false then 32 else if YF B n≠ []then 66 else 0
def ZFA(c:Int)(m:EM)(n:Tx):EM:=if c=0 then Zg m n else m
def ZCx(c:Int)(B:List (Tx×List Tx))(n:Tx):List (Tx×List Tx):=if c=0 then Zt (Zg B n) (Zz n) (Jp (YF (Zg B n) (Zz n)) n)else B
theorem ZU0(B:List TB)(s:Tx):(Zg B s).map YK=Zg (B.map YK) s:=by
 induction B with
 |nil=>rfl
 |cons p B ih=>
  by_cases h:s=p.1
  .have e1:Zg (p::B) s=B:=by simp[Zg,h]
   have e2:Zg (YK p::B.map YK) s=B.map YK:=by simp[Zg,YK,h]
   rw[e1,YL,e2]
  .have e1:Zg (p::B) s=p::Zg B s:=by simp[Zg,h]
   have e2:Zg (YK p::B.map YK) s=YK p::Zg (B.map YK) s:=by simp[Zg,YK,h]
   rw[e1,YL,YL,e2,ih]
theorem ZA1{κ β:Type}[DecidableEq κ]: ∀(A:List (κ×β)) (c:κ),(Zg A c).Sublist A
 | [],c=>by simp[Zg]
 |p::A,c=>by
  by_cases h:c=p.1
  .have e:Zg (p::A) c=A:=by simp[Zg,h]
   rw[e];exact List.sublist_cons_self _ _
  .have e:Zg (p::A) c=p::Zg A c:=by simp[Zg,h]
   rw[e];exact(ZA1 A c).cons_cons p
theorem ZOV{κ β:Type}[DecidableEq κ]: ∀(A:List (κ×β)) (c d:κ),d≠c->ZG (Zg A c) d=ZG A d
 | [],c,d,_=>by simp[Zg]
 |p::A,c,d,hne=>by
  by_cases h:c=p.1
  .have e:Zg (p::A) c=A:=by simp[Zg,h]
   have: ¬d=p.1:=λe=>hne (e.trans h.symm)
   rw[e];simp[ZG,this]
  .have e:Zg (p::A) c=p::Zg A c:=by simp[Zg,h]
   have ih:=ZOV A c d hne;rw[e];by_cases h2:d=p.1
   .simp[ZG,h2]
   .have e1:ZG (p::Zg A c) d=ZG (Zg A c) d:=by simp[ZG,h2]
    have e2:ZG (p::A) d=ZG A d:=by simp[ZG,h2]
    rw[e1,e2,ih]
theorem ZUy{Y:J7}{B:List TB}(h:okB Y B)(s:Tx):okB Y (Zg B s):=
 ⟨((ZA1 B s).map _).nodup h.1,((ZA1 B s).map _).nodup h.2.1,λx hx=>h.2.2 x ((ZA1 B s).subset hx)⟩
theorem Zac{Y:J7}{B:List TB}(h:okB Y B)(s:Tx)(i:Nat)(l0 l:List Tx)(hs:ZG B s=some (i,l0))(hl:l.length<=1000000)(o:Ob)(U:J7):okB (Y.set i o++U++ [Ob.rows false 9 1 (rows ZB l)]) (Zt B s ((Y++U).length,l)):=by
 have hp:=ZKy hs;have hq:=ZBQ B s ((Y++U).length,l);have n1:((s,(i,l0))::Zg B s).map (·.1)=((s,((Y++U).length,l))::Zg B s).map (·.1):=rfl;have m1:=(hp.map (·.1)).nodup_iff.1 h.1;have m2:=(hp.map (·.2.1)).nodup_iff.1 h.2.1;rw[YL,ZAb]at m2;have hlt: ∀x∈Zg B s,x.2.1<Y.length:=λx hx=>(ZV (h.2.2 x (hp.mem_iff.2 (ξZ _ hx))).1).1
 refine⟨(hq.map (·.1)).nodup_iff.2 (n1▸m1),(hq.map (·.2.1)).nodup_iff.2 ?_,λx hx=> ?_⟩
 .rw[YL,ZAb];refine⟨λhc=> ?_,m2.2⟩;obtain⟨x,hx,e⟩:=YO.1 hc;have:=hlt x hx;simp only[Zf]at e;omega
 .rcases KB.1 (hq.mem_iff.1 hx)with rfl|hx
  .refine⟨?_,hl⟩;show(Y.set i o++U++ [Ob.rows false 9 1 (rows ZB l)])[(Y++U).length]? =_;rw[show(Y++U).length=(Y.set i o++U).length by simp];exact sn0 _ _
  .have hx2:=h.2.2 x (hp.mem_iff.2 (ξZ _ hx));have hxl:=hlt x hx;refine⟨?_,hx2.2⟩;have hne:i≠x.2.1:=λe=>m2.1 (YO.2 ⟨x,hx,e.symm⟩)
   rw[Yh,Yc (by simpa using hxl),ZCD hne];exact hx2.1
theorem ZSZ{v:Int}(hv:v≠0)(m:EM)(Bt:List TB)(P1 P2:W2)(Y:J7)(n:Tx)(hB:okB Y Bt)(hY:Y.all Ob.nof=true)(X:J7)(hX:X.all Ob.nof=true):
  ZI7 (.x (.int .i64 v)) (ZFA v m n) (ZCx v (Bt.map YK) n) P1 P2 (.x (.int .i64 v)) (Jl P1 P2 (.mpo .str true (Kv m):: .mpo .str false (Bt.map YU)::(Y++X))):=by
 unfold ZFA ZCx;rw[if_neg hv,if_neg hv];exact⟨rfl,Bt,_,ZJr _,ZGU hB _,by rw[ZJ1,hY,hX];rfl,rfl⟩
theorem Zaa(m:EM)(Bt:List TB)(P1 P2:W2)(Y U:J7)(n:Tx)(hB:okB Y Bt)(hY:Y.all Ob.nof=true)(hU:U.all Ob.nof=true)(i:Nat)(row:List Tx)(hs:ZG (Zg Bt n) (Zz n)=some (i,row))(hl:row.length<=1000000)(OS:J7)(hOS:OS=Jl P1 P2 (.mpo .str true (Kv (Zg m n)):: .mpo .str false ((Zg Bt n).map YU)::(Y++U))):
  ZI7 (.x (.int .i64 0)) (ZFA 0 m n) (ZCx 0 (Bt.map YK) n) P1 P2 (.x (.int .i64 0)) ((OS.set (i+6) (.old 1 (row.length+1))++ [Ob.rows false 9 1 (rows ZB (Jp row n))]).set 5 (.mpo .str false (Yb ((Zg Bt n).map YU) [.str (Zz n)] [.ref OS.length (Jp row n).length 0 (Jp row n).length]))):=by
 have hol:OS.length=(Y++U).length+6:=by rw[hOS];simp[Jl]
 have hi:=(ZV ((ZUy hB n).2.2 _ (Jx hs)).1).1;simp only at hi;have hdl:(Jp row n).length<=row.length:=ZWO _ _;refine⟨rfl,Zt (Zg Bt n) (Zz n) ((Y++U).length,Jp row n),Y.set i (.old 1 (row.length+1))++U++ [Ob.rows false 9 1 (rows ZB (Jp row n))],?_,Zac (ZUy hB n) _ _ row _ hs J0 _ _,?_,?_⟩
 .rw[ZOo,ZU0,ZCx,if_pos rfl];have:YF (Zg (Bt.map YK) n) (Zz n)=row:=by unfold YF;rw[<-ZU0,ZEo,hs];rfl
  rw[this]
 .simp only[ZJ1,Qz,ZEz,hU,QS];rw[ZS,Yd]at*;refine⟨λx hx=> ?_,rfl⟩;rcases ZWR hx with h|h
  .exact hY x h
  .rw[h];rfl
 .rw[hol,ZSc,hOS,ZFA,if_pos rfl];simp only[Jl,Qx,ZBX,ZDC];rw[ZMn _ _ J0]
theorem ZTR:Go.Ab.Enters Tryz.prog 55:=ZW 55
theorem ZfZ(OS:J7)(a b:Nat)(l:List Tx)(s:Tx)(ha:OS[a]? =some (.rows false 9 1 (rows ZB l)))(hb:OS[b]? =some (.box [.x (.str s)]))(hl:l.length<=1000000)(h0:l≠ []):ZN Tryz.prog 55 [.ref a l.length 0 l.length,.fn 56 [.ptr b 0]] OS (.ref OS.length (Jp l s).length 0 (Jp l s).length) (OS.set a (.old 1 (l.length+1))++ [Ob.rows false 9 1 (rows ZB (Jp l s))]):=by
 have hal:=(ZV ha).1;have hbl:=(ZV hb).1;have hne:a≠b:=λe=>by subst e;rw[ha]at hb;cases hb
 have hga:OS.getD a .dead= .rows false 9 1 (rows ZB l):=by rw[ZFm,ha];rfl
 have hgb:OS.getD b .dead= .box [.x (.str s)]:=by rw[ZFm,hb];rfl
 have hnb:Nat.beq a b=false:=by
  cases hq:Nat.beq a b with
  |false=>rfl
  |true=>exact absurd (ZRc hq) hne
 have hO:YS [a,b] OS= [.rows false 9 1 (rows ZB l),.box [.x (.str s)]]:=by simp only[YS,YL,ZAD,hga,hgb];rfl
 have hne2:b≠a:=Ne.symm hne;have hr:Zu (Ye [a,b]) [D.ref a l.length 0 l.length,.fn 56 [.ptr b 0]]= [.ref 0 l.length 0 l.length,.fn 56 [.ptr 1 0]]:=by simp[Zu,D.ren,Ye,hne2]
 have hfp:QB [a,b] [.ref a l.length 0 l.length,.fn 56 [.ptr b 0]] OS=true:=by
  unfold QB;simp only[Qz,ZEz,hga,hgb,Ob.inP,Yo,D.inP,Zn,QD,hnb,ZD9,QS,ZKr,ZKI,ZEZ,ZOy,ZS,Zd];exact⟨hal,hbl⟩
 have h:=ZN.atR (P:=Tryz.prog) (f:=55) (ρ:= [a,b]) (args:= [.ref a l.length 0 l.length,.fn 56 [.ptr b 0]]) (OS:=OS) (r:= .ref 2 (Jp l s).length 0 (Jp l s).length) (os':= [.old 1 (l.length+1),.box [.x (.str s)],.rows false 9 1 (rows ZB (Jp l s))]) hfp (by rw[hO,hr];exact ZXs l s hl h0) J1;have e1:(D.ref 2 (Jp l s).length 0 (Jp l s).length).ren (KA [a,b] OS.length 3)= .ref OS.length (Jp l s).length 0 (Jp l s).length:=by simp[D.ren,KA]
 have e2:KJ [a,b] OS [.old 1 (l.length+1),.box [.x (.str s)],.rows false 9 1 (rows ZB (Jp l s))]=OS.set a (.old 1 (l.length+1))++ [Ob.rows false 9 1 (rows ZB (Jp l s))]:=by
  simp only[KJ,YL,ZAD,Ob.ren,Zu,D.ren,KI,JD,ξN,ZDe,ZBk];congr 1;apply ZBG;intro j;rw[ZB3];split
  .rename_i e;subst e;rw[ZCD hne,hb];simp[hbl]
  .rfl
 rw[<-e1,<-e2];exact h
set_option maxHeartbeats 4000000 in
theorem ZhX(P1 P2:W2)(m:EM)(Bt:List TB)(Y:J7)(n:Tx)(hB:okB Y Bt)(hY:Y.all Ob.nof=true)(hq:(ZG m n).isSome=true->YF (Bt.map YK) n= []->n∈YF (Bt.map YK) (Zz n)/\Zz n≠n):
  ZI Tryz.prog 25 [.ptr 0 0,.x (.str n)] (Jl P1 P2 (.mpo .str true (Kv m):: .mpo .str false (Bt.map YU)::Y)) (ZI7 (.x (.int .i64 (ZCA m (Bt.map YK) n))) (ZFA (ZCA m (Bt.map YK) n) m n) (ZCx (ZCA m (Bt.map YK) n) (Bt.map YK) n) P1 P2):=by
 have hg:=ZKJ m n;have hgb:=ZNc Bt n;have hd1:=Zgs m n;have hd2:=ZhO Bt n;obtain⟨v,hv⟩: ∃v,ZCA m (Bt.map YK) n=v:=⟨_,rfl⟩;rw[hv];unfold ZCA at hv;have hro:YF (Bt.map YK) n=((ZG Bt n).map (·.2)).getD []:=by unfold YF;rw[ZEo]
 refine fC 25 true ?_;intro C0 E0;have uu:=KT @ZHZ @ZHc @ZHX @ZHg @ZC1.eq_1 @ZC1.eq_2 @sn0 @sn1 (KT @sn2 @st0 @st1 hd1 hd2 @ZSp @ZJf.eq_1 @ZJf.eq_2 (Ya @KN.eq_1 @KN.eq_2));refine WI.seq ?_;refine WI.regB Zp [0,3] ?_;refine oG ?_;refine oS ?_;refine oN ?_;refine ZA ?_;refine WI.seq ?_;refine WI.seq ?_;refine WI.regB Zp [0,3,10] ?_;refine oS ?_;refine oG ?_;refine oN ?_;refine ZA ?_;refine WI.cond (b:=_) rfl rfl (λh0=> ?_) (λh0=> ?_)
 .exfalso;simp at h0
 .try simp only[zB]at h0
  refine WI.skip ?_;refine ZA ?_;refine WI.seq ?_;refine WI.seq ?_;rcases hl:ZG m n with _|⟨dn',l',u⟩
  .rw[hl,Qg]at hg;rw[hl,if_pos J1]at hv;subst hv;have uu:=Ya uu hg;refine WI.dregB Zp [0,3,6] ?_
   iterate 3 refine Zs ?_
   iterate 3 refine Yp ?_
   refine Zs ?_
   iterate 2 refine Jq ?_
   refine dKG ?_;refine dAG ?_;refine Zs ?_;refine dN ?_;refine ZA ?_;refine WI.seq ?_;refine WI.regB Zp [0,3,21] ?_;refine oS ?_;refine oG ?_;refine oN ?_;refine ZA ?_;refine WI.cond (b:=_) rfl rfl (λh1=> ?_) (λh1=> ?_)
   .try simp only[zB]at h1
    refine WI.seq ?_;refine WI.regB Zp [4] ?_;refine oS ?_;refine oN ?_;refine ZA ?_;refine WI.ret ?_;refine JP ?_
    first|refine lfR ?_|refine ZB5 ?_|refine ZBd ?_|refine ZB7 ?_
    rw[as2];exact ZSZ (by decide) m Bt P1 P2 Y n hB hY [_,_] rfl
   .exfalso;simp at h1
  .rw[hl,Yf]at hg;rw[hl,if_neg J1]at hv;rw[hl]at hq;have uu:=Ya uu hg;refine WI.dregB Zp [0,3,6] ?_
   iterate 3 refine Zs ?_
   iterate 3 refine Yp ?_
   refine Zs ?_
   iterate 2 refine Jq ?_
   refine dKG ?_;refine dAG ?_;refine Zs ?_;refine dN ?_;refine ZA ?_;refine WI.seq ?_;refine WI.regB Zp [0,3,21] ?_;refine oS ?_;refine oG ?_;refine oN ?_;refine ZA ?_;refine WI.cond (b:=_) rfl rfl (λh1=> ?_) (λh1=> ?_)
   .exfalso;simp at h1
   .try simp only[zB]at h1
    refine WI.skip ?_;refine ZA ?_;refine WI.join (λφ os=> ∃d:D,φ= [(0,.ptr 0 0),(3,.ptr (Y.length+1+1+1+1+1+1) 0),(29,d)]/\os=Jl P1 P2 (.mpo .str true (Kv m):: .mpo .str false (Bt.map YU)::(Y++ [.box [.x (.str n)]]++ [.box [.x (.str dn'),.x (.sl (rows ZX l'))]]))/\v=0/\YF (Bt.map YK) n= []) ?_ (λφ os hJ=> ?_)
    .refine WI.seq ?_;rcases hb:ZG Bt n with _|⟨i0,row0⟩
     .rw[hb,Qg]at hgb;rw[hb]at hro;have hro0:YF (Bt.map YK) n= []:=hro;rw[if_neg (by rw[hro0];simp)]at hv;have uu:=Ya uu hgb;refine WI.dregB Zp [0,3,29] ?_
      iterate 3 refine Zs ?_
      iterate 2 refine Yp ?_
      iterate 2 refine dAG ?_
      refine Jq ?_;refine dN ?_;refine ZA ?_;refine WI.cond (b:=_) rfl rfl (λh2=> ?_) (λh2=> ?_)
      .exfalso;simp at h2
      .try simp only[zB]at h2
       refine WI.skip ?_;refine ZA ?_;exact⟨_,rfl,rfl,hv.symm,hro0⟩
     .rw[hb,Yf]at hgb;rw[hb]at hro;have hro1:YF (Bt.map YK) n=row0:=hro;obtain⟨hYi,hri⟩:=hB.2.2 _ (Jx hb);have hYi2: ∀a b:Ob,(Y++ [a]++ [b])[i0]? =some (.rows false 9 1 (rows ZB row0)):=λa b=>by rw[Yh,Yc (ZV hYi).1];exact hYi
      have uu:=ξ4 uu hgb (Zh ZB row0) hYi2;refine WI.dregB Zp [0,3,29] ?_
      iterate 3 refine Zs ?_
      iterate 2 refine Yp ?_
      iterate 2 refine dAG ?_
      refine Jq ?_;refine dN ?_;refine ZA ?_;refine WI.cond (b:=_) rfl rfl (λh2=> ?_) (λh2=> ?_)
      .try simp only[zB]at h2
       have e2:row0≠ []:=λe=>by subst e;simp at h2
       rw[if_pos (by rw[hro1];exact e2)]at hv;subst hv;refine WI.seq ?_;refine WI.regB Zp [4] ?_;refine oS ?_;refine oN ?_;refine ZA ?_;refine WI.ret ?_;refine JP ?_
       first|refine lfR ?_|refine ZB5 ?_|refine ZBd ?_|refine ZB7 ?_
       rw[as2];exact ZSZ (by decide) m Bt P1 P2 Y n hB hY [_,_] rfl
      .try simp only[zB]at h2
       have e2:row0= []:=ξQ J0;have hro0:YF (Bt.map YK) n= []:=by rw[hro1];exact e2
       rw[if_neg (by rw[hro0];simp)]at hv;refine WI.skip ?_;refine ZA ?_;exact⟨_,rfl,rfl,hv.symm,hro0⟩
    .obtain⟨d,rfl,rfl,rfl,hro0⟩:=hJ;refine WI.seq ?_;refine WI.regB Zp [0,3,7] ?_;refine oG ?_;refine oC ?_;refine oS ?_
     iterate 2 refine oG ?_
     iterate 2 refine oS ?_
     refine oN ?_;refine ZA ?_;refine WI.seq ?_;refine WI.dregB Zp [0,3,7] ?_
     iterate 3 refine Zs ?_
     iterate 2 refine Yp ?_
     refine dAG ?_;refine dN ?_;refine ZA ?_;refine WI.seq ?_;refine WI.dregB Zp [0,3,7] ?_
     iterate 3 refine Zs ?_
     iterate 2 refine Yp ?_
     refine dAG ?_;refine dN ?_;refine ZA ?_;refine WI.seq ?_;obtain⟨hin0,hpn⟩:=hq J1 hro0;have hld:=ZOV Bt n (Zz n) hpn;rcases hs:ZG Bt (Zz n)with _|⟨i,row⟩
     .unfold YF at hin0;rw[ZEo,hs]at hin0;cases hin0
     have hinr:n∈row:=by unfold YF at hin0;rw[ZEo,hs]at hin0;exact hin0
     rw[hs]at hld;have hrne:row≠ []:=λe=>by subst e;cases hinr
     obtain⟨hYr,hrl⟩:=hB.2.2 _ (Jx hs);simp only at hYr hrl;have hg3:=ZNc (Zg Bt n) (Zz n);rw[hld,Yf]at hg3;obtain⟨OT,hOT⟩: ∃OT,OT= .box [.mref 2,.mref 3]:: .mpo .str true P1:: .mpo .str true P2:: .mpo .str true (Kv (Zg m n)):: .mpo .str false ((Zg Bt n).map YU)::(Y++ [.box [.x (.str n)]]++ [.box [.x (.str dn'),.x (.sl (rows ZX l'))]]):=⟨_,rfl⟩;have hOS:Ob.box [.ptr 1 0,.mref 4,.mref 5]::OT=Jl P1 P2 (.mpo .str true (Kv (Zg m n)):: .mpo .str false ((Zg Bt n).map YU)::(Y++ [.box [.x (.str n)],.box [.x (.str dn'),.x (.sl (rows ZX l'))]])):=by rw[hOT,as2]
     have hOb:OT[Y.length+1+1+1+1+1]? =some (.box [.x (.str n)]):=by rw[hOT];exact sn1 Y _ _
     have hOr:OT[i+5]? =some (.rows false 9 1 (rows ZB row)):=by
      rw[hOT];show(Y++_++_)[i]? =_;rw[Yh,Yc (ZV hYr).1];exact hYr
     have hO4:OT[4]? =some (.mpo .str false ((Zg Bt n).map YU)):=by rw[hOT];rfl
     have hb4: ∀(id:Nat) (ds:J8),OT[id]? =some (.box ds)->4≠id:=λid ds h e=>by subst e;rw[hO4]at h;cases h
     have hbi: ∀(id:Nat) (ds:J8),OT[id]? =some (.box ds)->i+5≠id:=λid ds h e=>by subst e;rw[hOr]at h;cases h
     have hlt: ∀(id:Nat) (ds:J8),OT[id]? =some (.box ds)->id<OT.length:=λid ds h=>(ZV h).1
     have hbx0:JN OT OT=true:=Qj _ _ (λid ds h=>h) (Zm _);have hbx1: ∀(o:Ob) (V:J7),JN OT (OT.set (i+5) o++V)=true:=λo V=>Qj _ _ (λid ds h=>by rw[Yc (by simpa using hlt id ds h),ZCD (hbi id ds h)];exact h) J1
     have hbx2: ∀(o:Ob) (V:J7) (q:W2),JN OT ((OT.set (i+5) o++V).set 4 (.mpo .str false q))=true:=λo V q=>Qj _ _ (λid ds h=>by rw[ZCD (hb4 id ds h),Yc (by simpa using hlt id ds h),ZCD (hbi id ds h)];exact h) J1
     have hO4s: ∀(o:Ob) (V:J7),(OT.set (i+5) o++V)[4]? =some (.mpo .str false ((Zg Bt n).map YU)):=λo V=>by rw[Yc (by simpa using (ZV hO4).1),ZCD J0];exact hO4
     have hin:=ZfZ (.box [.ptr 1 0,.mref 4,.mref 5]::OT) (i+6) (Y.length+1+1+1+1+1+1) row n hOr hOb hrl hrne;simp only[Qx,JD,ZBX]at hin;rw[<-hOT];have uu:=KT uu hg3 hOb hOr hO4 hO4s hbx0 hbx1 (Ya hbx2 (Zh ZB row));refine WI.dregY (ZCV ZF ZTR hin) [] [] ?_
     iterate 3 refine xFS ?_
     refine xRG ?_
     iterate 4 refine xFS ?_
     refine xAG ?_;refine xFS ?_;refine xAG ?_;refine xFG ?_;refine xAC ?_;refine xAG ?_;refine xN ?_;refine ZA ?_;refine WI.seq ?_;refine WI.regB Zp [4] ?_;refine oS ?_;refine oN ?_;refine ZA ?_;refine WI.ret ?_
     first|refine lfR ?_|refine ZB5 ?_|refine ZBd ?_|refine ZB7 ?_
     exact Zaa m Bt P1 P2 Y [_,_] n hB hY rfl i row hld hrl _ hOS
abbrev BM:=List (Tx×List Tx)
def enB(B:BM):List (X×J6):=B.map λb=>(.str b.1,rows ZB b.2)
abbrev ZBi(L:List (Tx×Zl))(M:List (Tx×Zy))(m:EM)(B:BM):Ob:= .fam 9 [JQ L,JL M,Kv m] (enB B)
def ZNk(B:BM):Nat->Tx->Bool
 |0,n=>decide (YF B n= [])
 |k+1,n=>(YF B n).all λs=>ZNk B k s
theorem ZK9(B:BM): ∀(k:Nat) (n:Tx),ZNk B k n=true↔deep B k n
 |0,n=>by simp[ZNk,deep]
 |k+1,n=>by simp only[ZNk,deep,Yd];exact forall₂_congr λs _=>ZK9 B k s
def okT(m:EM)(B:BM):Prop:=(B.map (·.1)).Nodup/\(∀b∈B,SoL b.2/\b.2.length<=999999)/\(∀p∈m,smL p.2.2.1)/\m.length<=1000000
instance (m:EM) (B:BM):Decidable (okT m B):=inferInstanceAs (Decidable (_/\_))
theorem ZRY{α β:Type}(f:α->β): ∀ {l l':List β},l.Perm l'-> ∀B:List α,l'=B.map f-> ∃B':List α,B'.Perm B/\l=B'.map f:=by
 intro l l' h
 induction h with
 |nil=>intro B hB;exact⟨[],by rw[Zbz.1 hB.symm],rfl⟩
 |cons x h ih=>
  intro B hB;cases B with
  |nil=>cases hB
  |cons b B=>
   rw[YL,ZEq]at hB;obtain⟨B',h1,rfl⟩:=ih B hB.2;exact⟨b::B',h1.cons b,by rw[YL,hB.1]⟩
 |swap x y l=>
  intro B hB
  match B,hB with
  |a::b::B,hB=>
   simp only[YL,ZEq]at hB;exact⟨b::a::B,List.Perm.swap a b B,by simp only[YL];rw[hB.1,hB.2.1,hB.2.2]⟩
 |trans h1 h2 ih1 ih2=>
  intro B hB;obtain⟨B2,k1,k2⟩:=ih2 B hB;obtain⟨B1,k3,k4⟩:=ih1 B2 k2;exact⟨B1,k3.trans k1,k4⟩
theorem ZF1{L:List (Tx×Zl)}{M:List (Tx×Zy)}{m:EM}{B:BM}(hk:okT m B){os:J7}(h:ZE1 9 [JQ L,JL M,Kv m] (enB B) os):
  ∃(Bt:List TB) (Y:J7),(Bt.map YK).Perm B/\okB Y Bt/\Y.all Ob.nof=true/\os=Jl (JQ L) (JL M) (.mpo .str true (Kv m):: .mpo .str false (Bt.map YU)::Y):=by
 obtain⟨P1,P2,P3,C,Y,hP,rfl,hp,hn,hY,hr⟩:=h;simp only[ZEq,and_true]at hP;obtain⟨rfl,rfl,rfl⟩:=hP;obtain⟨B',hB',hC⟩:=ZRY (λb:Tx×List Tx=>(X.str b.1,rows ZB b.2)) hp B rfl;have hlen:C.length=B'.length:=by have:=congrArg List.length hC;simpa using this
 have hat: ∀(j:Nat) (c:X×Nat×J6) (b:Tx×List Tx),C[j]? =some c->B'[j]? =some b->c.1= .str b.1/\c.2.2=rows ZB b.2:=λj c b h1 h2=>by
  have h3:=congrArg (λl=>l[j]?) hC;simp only[YG,h1,h2,Yf,Ze,ZZ]at h3;exact h3
 let Bt:List TB:=List.zipWith (λc b=>(b.1,c.2.1,b.2)) C B'
 have hB1:Bt.map YK=B':=by
  apply ZBG;intro j;simp only[Bt,YG,List.getElem?_zipWith];by_cases hj:j<B'.length
  .rw[YA hj,YA J0];rfl
  .rw[ZA2 (l:=B') J0,ZA2 (l:=C) J0];rfl
 have hB2:Bt.map (·.2.1)=C.map (·.2.1):=by
  apply ZBG;intro j;simp only[Bt,YG,List.getElem?_zipWith];by_cases hj:j<B'.length
  .rw[YA hj,YA (l:=C) J0];rfl
  .rw[ZA2 (l:=B') J0,ZA2 (l:=C) J0];rfl
 have hB3:Bt.map YU=C.map brP:=by
  apply ZBG;intro j;simp only[Bt,YG,List.getElem?_zipWith];by_cases hj:j<B'.length
  .have h1:=YA (l:=C) (i:=j) J0;have h2:=YA hj;obtain⟨e1,e2⟩:=hat j _ _ h1 h2;rw[h1,h2];simp only[Yf,YU,brP,e1,e2,Zh]
  .rw[ZA2 (l:=B') J0,ZA2 (l:=C) J0];rfl
 have hB4:Bt.map (·.1)=B'.map (·.1):=by rw[<-hB1,Js];rfl
 refine⟨Bt,Y,by rw[hB1];exact hB',⟨?_,by rw[hB2];exact hn,λx hx=> ?_⟩,hY,by rw[hB3]⟩
 .rw[hB4];exact(hB'.map _).nodup_iff.2 hk.1
 .obtain⟨j,hj⟩:=ZEi.1 hx;simp only[Bt,List.getElem?_zipWith]at hj;split at hj
  .rename_i c b h1 h2;cases hj;obtain⟨e1,e2⟩:=hat j c b h1 h2;have:=(hk.2.1 b (hB'.mem_iff.1 (Yl h2))).2;exact⟨by rw[<-e2];exact hr c (Yl h1),by simp only;omega⟩
  .cases hj
theorem ZE7{L:List (Tx×Zl)}{M:List (Tx×Zy)}{m:EM}{B:BM}{Bt:List TB}{Y:J7}(hp:(Bt.map YK).Perm B)(hB:okB Y Bt)(hY:Y.all Ob.nof=true):ZE1 9 [JQ L,JL M,Kv m] (enB B) (Jl (JQ L) (JL M) (.mpo .str true (Kv m):: .mpo .str false (Bt.map YU)::Y)):=by
 refine⟨_,_,_,Bt.map λx=>(.str x.1,x.2.1,rows ZB x.2.2),Y,rfl,?_,?_,?_,hY,λb hb=> ?_⟩
 .rw[Js,show(brP∘λx:TB=>(X.str x.1,x.2.1,rows ZB x.2.2))=YU from funext λx=>by simp only[Function.comp,brP,YU,Zh]]
 .have h:=hp.map λb:Tx×List Tx=>(X.str b.1,rows ZB b.2)
  rw[Js]at h;rw[Js];exact h
 .rw[Js];exact hB.2.1
 .obtain⟨x,hx,rfl⟩:=YO.1 hb;exact(hB.2.2 x hx).1
theorem ZI.imp{P:Program}{f:FuncId}{args:J8}{os:J7}{Q Q':D->J7->Prop}(h:ZI P f args os Q)(hq: ∀r os',Q r os'->Q' r os'):ZI P f args os Q':=λc E vs R hvl=>
 (h c E vs R hvl).mono λe w' ⟨v,E',r,os',h1,h2,h3,h4,h5,h6⟩=>⟨v,E',r,os',h1,h2,h3,h4,h5,hq r os' h6⟩
theorem ZAk{A B:BM}(h:A.Perm B)(hn:(A.map (·.1)).Nodup)(n:Tx):YF A n=YF B n:=by unfold YF;rw[ZVw h hn]
theorem ZNP{A B:BM}(h:A.Perm B)(hn:(A.map (·.1)).Nodup): ∀(k:Nat) (n:Tx),Yn A k n=Yn B k n
 |0,_=>rfl
 |k+1,n=>by simp only[Yn,ZAk h hn n];congr 1;funext s;rw[ZNP h hn k s]
theorem ZQh{A B:BM}(h:A.Perm B)(hn:(A.map (·.1)).Nodup): ∀(k:Nat) (n:Tx),deep A k n↔deep B k n
 |0,n=>by simp only[deep,ZAk h hn n]
 |k+1,n=>by simp only[deep,ZAk h hn n];exact forall₂_congr λs _=>ZQh h hn k s
theorem ZNb{κ β:Type}[DecidableEq κ]{A B:List (κ×β)}(h:A.Perm B)(hn:(A.map (·.1)).Nodup)(c:κ)(w:β):(Zt A c w).Perm (Zt B c w):=
 (ZBQ A c w).trans (((ZK7 h hn c).cons _).trans (ZBQ B c w).symm)
theorem mdel_nodup{κ β:Type}[DecidableEq κ]{A:List (κ×β)}(hn:(A.map (·.1)).Nodup)(c:κ):((Zg A c).map (·.1)).Nodup:=((ZA1 A c).map _).nodup hn
theorem ZWN{A B:BM}(h:A.Perm B)(hn:(A.map (·.1)).Nodup)(c:Int)(n:Tx):(ZBg c A n).Perm (ZBg c B n):=by
 unfold ZBg;rw[ZAk h hn];split
 .exact ZNb h hn _ _
 .exact h
theorem ZV3{A B:BM}(h:A.Perm B)(hn:(A.map (·.1)).Nodup)(c:Int)(n:Tx):(ZCx c A n).Perm (ZCx c B n):=by
 unfold ZCx;rw[ZAk (ZK7 h hn n) (mdel_nodup hn n)];split
 .exact ZNb (ZK7 h hn n) (mdel_nodup hn n) _ _
 .exact h
section
variable (L:List (Tx×Zl)) (M:List (Tx×Zy)) (m:EM) (B:BM)
theorem ZP0{L:List (Tx×Zl)}{M:List (Tx×Zy)}{m':EM}{B:BM}{Bt:List TB}{Y:J7}(hp:(Bt.map YK).Perm B)(hB:okB Y Bt)(hY:Y.all Ob.nof=true)(Z:J7)(hZ:Z.all Ob.nof=true):ZE1 9 [JQ L,JL M,Kv m'] (enB B) (Jl (JQ L) (JL M) (.mpo .str true (Kv m'):: .mpo .str false (Bt.map YU)::(Y++Z))):=
 ZE7 hp (ZGU hB Z) (by rw[ZJ1,hY,hZ];rfl)
theorem ZaL(k:Nat)(hk:okT m B)(hd:deep B k [])(hl:(Yn B k []).length<=999999):ZN Tryz.prog 15 [.iref 0 0] [ZBi L M m B] (.x (.sl (rows ZB (Yn B k [])))) [ZBi L M m B]:=
 ZJW (args:= []) rfl rfl λos h=>by
  obtain⟨Bt,Y,hp,hB,hY,rfl⟩:=ZF1 hk h;have hn:((Bt.map YK).map (·.1)).Nodup:=(hp.map _).nodup_iff.2 hk.1;rw[<-ZNP hp hn]at hl|-;exact ZI.imp (Zdq (JQ L) (JL M) m Bt k Y hB ((ZQh hp hn _ _).2 hd) hl) λr os' ⟨hr,Z,ho,hZ⟩=>⟨hr,by rw[ho];exact ZP0 hp hB hY Z hZ⟩
theorem Zel(dn:Tx)(l:List ZY)(hk:okT m B)(h:smL l)(hc:ZGm M l):ZN Tryz.prog 26 [.iref 0 0,.agg [.x (.str dn),.x (.sl (rows ZX l))]] [ZBi L M m B] (.x (.int .i64 (ZED L M m dn l))) [ZBi L M (ZAC (ZED L M m dn l) m dn l) B]:=
 ZJW (args:= [.agg [.x (.str dn),.x (.sl (rows ZX l))]]) rfl rfl λos hf=>by
  obtain⟨Bt,Y,hp,hB,hY,rfl⟩:=ZF1 hk hf;exact ZI.imp (ZhI L M m _ Y dn l h hc) λr os' ⟨hr,Z,ho,hZ⟩=>⟨hr,by rw[ho];exact ZP0 hp hB hY Z hZ⟩
theorem Zgf(dn:Tx)(l:List ZY)(hk:okT m B)(h:smL l)(hc:ZGm M l):ZN Tryz.prog 12 [.iref 0 0,.agg [.x (.str dn),.x (.sl (rows ZX l))]] [ZBi L M m B] (.x (.int .i64 (ZDj L M m dn l))) [ZBi L M (ZAC (ZDj L M m dn l) m dn l) (ZBg (ZDj L M m dn l) B dn)]:=
 ZJW (args:= [.agg [.x (.str dn),.x (.sl (rows ZX l))]]) rfl rfl λos hf=>by
  obtain⟨Bt,Y,hp,hB,hY,rfl⟩:=ZF1 hk hf;have hn:((Bt.map YK).map (·.1)).Nodup:=(hp.map _).nodup_iff.2 hk.1;exact ZI.imp (Zhy L M m Bt Y dn l h hc hB hY (λx hx=>hk.2.1 (YK x) (hp.mem_iff.1 (YO.2 ⟨x,hx,rfl⟩))) hk.2.2.2) λr os' ⟨hr,Bt',Y',hp',hB',hY',ho⟩=>⟨hr,by rw[ho];exact ZE7 (hp'.trans (ZWN hp hn _ _)) hB' hY'⟩
theorem Zfz(n:Tx)(hk:okT m B)(hq:(ZG m n).isSome=true->YF B n= []->n∈YF B (Zz n)/\Zz n≠n):ZN Tryz.prog 25 [.iref 0 0,.x (.str n)] [ZBi L M m B] (.x (.int .i64 (ZCA m B n))) [ZBi L M (ZFA (ZCA m B n) m n) (ZCx (ZCA m B n) B n)]:=
 ZJW (args:= [.x (.str n)]) rfl rfl λos hf=>by
  obtain⟨Bt,Y,hp,hB,hY,rfl⟩:=ZF1 hk hf;have hn:((Bt.map YK).map (·.1)).Nodup:=(hp.map _).nodup_iff.2 hk.1;have hv:ZCA m B n=ZCA m (Bt.map YK) n:=by unfold ZCA;rw[ZAk hp hn]
  rw[hv];exact ZI.imp (ZhX (JQ L) (JL M) m Bt Y n hB hY (by rw[ZAk hp hn,ZAk hp hn];exact hq)) λr os' ⟨hr,Bt',Y',hp',hB',hY',ho⟩=>⟨hr,by rw[ho];exact ZE7 (hp'.trans (ZV3 hp hn _ _)) hB' hY'⟩
end
def unB:List (X×J6)->Option BM
 | []=>some []
 |(.str s,R)::l=>(Zb ZB R).bind λr=>(unB l).map λq=>(s,r)::q
 |_=>none
theorem ZZB: ∀B:BM,unB (enB B)=some B
 | []=>rfl
 |b::B=>by
  have h:=ZZB B;unfold enB at h|-;simp only[YL,unB,Zr ZP,h,ZAd,Yf]
theorem ZUD: ∀ {l:List (X×J6)} {B:BM},unB l=some B->l=enB B
 | [],B,h=>by cases h;rfl
 |p::l,B,h=>by
  obtain⟨x,R⟩:=p;cases x with
  |str s=>
   simp only[unB]at h;obtain⟨r,h1,h⟩:=Zv h;obtain⟨q,h2,rfl⟩:=Zc h;rw[ZUD h2,<-Za ZP h1];rfl
  |_=>cases h
def Zg4(P:W2):Option EM:=unM ZB ZBo P
theorem Zez(m:EM):Zg4 (Kv m)=some m:=ZRP ZP ZBw m
def unT(o:Ob):Option (List (Tx×Zl)×List (Tx×Zy)×EM×BM):=match o with
 | .fam 9 [P1,P2,P3] b=>(unM ZB JF P1).bind λL=>(unM ZB Qa P2).bind λM=>(Zg4 P3).bind λm=>(unB b).map λB=>(L,M,m,B)
 |_=>none
theorem Zgp(L:List (Tx×Zl))(M:List (Tx×Zy))(m:EM)(B:BM):unT (ZBi L M m B)=some (L,M,m,B):=by
 simp only[unT,ZBi,ZFz,ZFy,Zez,ZZB,ZAd,Yf]
theorem ZL1{o:Ob}{L:List (Tx×Zl)}{M:List (Tx×Zy)}{m:EM}{B:BM}(h:unT o=some (L,M,m,B)):o=ZBi L M m B:=by
 unfold unT at h;split at h
 .rename_i P1 P2 P3 b;obtain⟨L',h1,h⟩:=Zv h;obtain⟨M',h2,h⟩:=Zv h;obtain⟨m',h3,h⟩:=Zv h;obtain⟨B',h4,h⟩:=Zc h;cases h;rw[Jd ZP KL h1,Jd ZP Kw h2,Jd ZP ZBw h3,ZUD h4];rfl
 .cases h
def okW(k:Nat)(m:EM)(B:BM)(n:Tx):Prop:=okT m B/\ZNk B k n=true/\(Yn B k n).length<=999999
instance (k:Nat) (m:EM) (B:BM) (n:Tx):Decidable (okW k m B n):=inferInstanceAs (Decidable (_/\_))
def ZEd:J8->J7->J5
 | [.iref 0 0],[o]=>(unT o).map λq=>(decide (okW 40 q.2.2.1 q.2.2.2 []),.x (.sl (rows ZB (Yn q.2.2.2 40 []))))
 |_,_=>none
theorem ZVc: ∀args os r,ZEd args os=some (true,r)->r.clean=true/\ ∃X,ZN Tryz.prog 15 args os r (os++X):=by
 intro args os r h;unfold ZEd at h;split at h
 .obtain⟨⟨L,M,m,B⟩,h1,h2⟩:=Zc h;simp only[ZZ,Zd]at h2;obtain⟨h3,rfl⟩:=h2;rw[ZL1 h1];exact⟨rfl,[],ZaL L M m B 40 h3.1 ((ZK9 B 40 []).1 h3.2.1) h3.2.2⟩
 .cases h
def ZLv:J8->J7->Option (Bool×D×J7)
 | [.iref 0 0,.agg [.x (.str dn),.x (.sl R)]],[o]=>(unT o).bind λq=>(Zb ZX R).map λl=>(decide (okT q.2.2.1 q.2.2.2/\smL l/\ZGm q.2.1 l),.x (.int .i64 (ZDj q.1 q.2.1 q.2.2.1 dn l)),[ZBi q.1 q.2.1 (ZAC (ZDj q.1 q.2.1 q.2.2.1 dn l) q.2.2.1 dn l) (ZBg (ZDj q.1 q.2.1 q.2.2.1 dn l) q.2.2.2 dn)])
 |_,_=>none
def ZIL:J8->J7->Option (Bool×D×J7)
 | [.iref 0 0,.agg [.x (.str dn),.x (.sl R)]],[o]=>(unT o).bind λq=>(Zb ZX R).map λl=>(decide (okT q.2.2.1 q.2.2.2/\smL l/\ZGm q.2.1 l),.x (.int .i64 (ZED q.1 q.2.1 q.2.2.1 dn l)),[ZBi q.1 q.2.1 (ZAC (ZED q.1 q.2.1 q.2.2.1 dn l) q.2.2.1 dn l) q.2.2.2])
 |_,_=>none
def okD(m:EM)(B:BM)(n:Tx):Prop:=okT m B/\((ZG m n).isSome=true->YF B n= []->n∈YF B (Zz n)/\Zz n≠n)
instance (m:EM) (B:BM) (n:Tx):Decidable (okD m B n):=inferInstanceAs (Decidable (_/\_))
def ZLp:J8->J7->Option (Bool×D×J7)
 | [.iref 0 0,.x (.str n)],[o]=>(unT o).map λq=>(decide (okD q.2.2.1 q.2.2.2 n),.x (.int .i64 (ZCA q.2.2.1 q.2.2.2 n)),[ZBi q.1 q.2.1 (ZFA (ZCA q.2.2.1 q.2.2.2 n) q.2.2.1 n) (ZCx (ZCA q.2.2.1 q.2.2.2 n) q.2.2.2 n)])
 |_,_=>none
theorem Zb3: ∀args os r os',ZLv args os=some (true,r,os')->ZN Tryz.prog 12 args os r os':=by
 intro args os r os' h;unfold ZLv at h;split at h
 .obtain⟨⟨L,M,m,B⟩,h1,h⟩:=Zv h;obtain⟨l,h2,h⟩:=Zc h;simp only[ZZ,Zd]at h;obtain⟨h3,rfl,rfl⟩:=h;rw[ZL1 h1,<-Za YR h2];exact Zgf L M m B _ l h3.1 h3.2.1 h3.2.2
 .cases h
theorem ZYf: ∀args os r os',ZIL args os=some (true,r,os')->ZN Tryz.prog 26 args os r os':=by
 intro args os r os' h;unfold ZIL at h;split at h
 .obtain⟨⟨L,M,m,B⟩,h1,h⟩:=Zv h;obtain⟨l,h2,h⟩:=Zc h;simp only[ZZ,Zd]at h;obtain⟨h3,rfl,rfl⟩:=h;rw[ZL1 h1,<-Za YR h2];exact Zel L M m B _ l h3.1 h3.2.1 h3.2.2
 .cases h
theorem Zb4: ∀args os r os',ZLp args os=some (true,r,os')->ZN Tryz.prog 25 args os r os':=by
 intro args os r os' h;unfold ZLp at h;split at h
 .obtain⟨⟨L,M,m,B⟩,h1,h⟩:=Zc h;simp only[ZZ,Zd]at h;obtain⟨h3,rfl,rfl⟩:=h;rw[ZL1 h1];exact Zfz L M m B _ h3.1 h3.2
 .cases h
theorem ZdX{l:List Tx}(hs:SoL l)(s:Tx)(hn: ∀x∈l,YV x≠YV s):SoL (ZEh l s):=by
 have h1: ∀x∈l.take (Yw l s),Op.bytesLess (YV x) (YV s)=true:=λx hx=>by
  obtain⟨j,hj,rfl⟩:=ZMi.1 hx;rw[List.getElem_take];exact ZN4 l s j (by rw[JA]at hj;omega)
 have h2: ∀x∈l.drop (Yw l s),Op.bytesLess (YV s) (YV x)=true:=λx hx=>by
  obtain⟨j,hj,rfl⟩:=ZMi.1 hx;rw[KD]at hj;rw[List.getElem_drop];have h3:=mt (ZU1 hs s (Yw l s+j) J0).1 J0;rcases bl_tot _ _ (hn _ (YZ (h:=show Yw l s+j<l.length by omega)))with h4|h4
  .exact absurd h4 h3
  .exact h4
 have h0:SoL (l.take (Yw l s)++l.drop (Yw l s)):=by rw[ZDl];exact hs
 obtain⟨k1,k2,k3⟩:=ZVv.1 h0;refine ZVv.2 ⟨k1,ZWK.2 ⟨h2,k2⟩,λa ha b hb=> ?_⟩;rcases KB.1 hb with rfl|hb
 .exact h1 a ha
 .exact k3 a ha b hb
theorem Zcn{l:List Tx}{s x:Tx}:x∈ZEh l s↔x=s\/x∈l:=by
 have h:x∈l↔x∈l.take (Yw l s)\/x∈l.drop (Yw l s):=by rw[<-Qc,ZDl]
 unfold ZEh;rw[Qc,KB,h];constructor
 .rintro(h|h|h)
  .exact .inr (.inl h)
  .exact .inl h
  .exact .inr (.inr h)
 .rintro(h|h|h)
  .exact .inr (.inl h)
  .exact .inl h
  .exact .inr (.inr h)
def ZD8:Bool->Tx->Tx
 |_,[]=> []
 |f,c::r=>ZDc c f (decide (r= []))++ZD8 false r
theorem ZYI(s:Tx): ∀j,j<=s.length->ZAf s j++ZD8 (decide (j=0)) (s.drop j)=ZD8 true s
 |0,_=>rfl
 |j+1,h=>by
  have ih:=ZYI s j J0;rw[Kr s j J0,ZD8]at ih;have h1:(s.drop (j+1)= [])=(j+1=s.length):=by simp;omega
  simp only[h1]at ih;rw[ZAf,ZAO,Yh];exact ih
theorem ZYz(s:Tx):ZC8 s=ZD8 true s:=by
 have:=ZYI s s.length (Zm _);rw[List.drop_length]at this;rw[<-this];simp[ZC8,ZD8]
def vl(r b:Tx)(e:Nat):Option (Tx×Nat):=JS (r.length+1) r b e
theorem ZN8{n:Nat}{r b:Tx}{e:Nat}(h:r.length<n):JS n r b e=vl r b e:=ZJY _ _ _ _ _ h (Nat.lt_succ_self _)
theorem ZMW: ∀n:Fin 16,ZGa (dgD n.val)=false/\ZBL (dgD n.val).toNat=(n.val,true)/\dgD n.val≠92/\dgD n.val≠43/\dgD n.val≠44:=by decide+kernel
theorem Zf9(c:UInt8):orB (c.toNat/16) (c.toNat % 16)=c:=by
 unfold orB;apply ZO8.1;have:=ZDm c;simp;omega
theorem Zgn(c:UInt8)(l:Bool)(r b:Tx)(e:Nat):vl (ZDc c (decide (b.length=0)) l++r) b e=vl r (b++ [c]) (if c=32/\slD c (decide (b.length=0)) l=false then e else b.length+1):=by
 have hc:=ZDm c;unfold ZDc;by_cases h1:ZJe c=true
 .rw[if_pos h1];have h32: ¬c=32:=λh=>by subst h;revert h1;decide
  rw[if_neg (λh=>h32 h.1)];obtain⟨a1,a2,a3,_⟩:=ZMW ⟨c.toNat/16,J0⟩;obtain⟨b1,b2,b3,_⟩:=ZMW ⟨c.toNat % 16,J0⟩;simp only at a1 a2 b1 b2;have he:KG (dgD (c.toNat/16)::dgD (c.toNat % 16)::r)=(c,2,true):=by
   unfold KG;rw[if_neg J1];simp only[ZKp,ZSr,a1,a2,b2,JM,if_false,Bool.true_eq_false,false_or,JD];rw[if_neg J0,Zf9]
  show JS ([92,dgD (c.toNat/16),dgD (c.toNat % 16)]++r).length.succ (92::dgD (c.toNat/16)::dgD (c.toNat % 16)::r) b e=_;rw[JS,if_pos rfl,he,if_pos rfl];exact ZN8 (by simp<;>omega)
 .rw[if_neg h1];by_cases h2:slD c (decide (b.length=0)) l=true
  .rw[if_pos h2,if_neg (by rw[h2];simp)];have hf:ZGa c=true:=by
    unfold slD at h2;unfold ZGa;simp only[ZBJ,ZS,Zd]at h2|-;rcases h2 with h2|⟨_,h2|h2⟩|⟨_,h2⟩
    .exact .inl (.inl h2)
    .exact .inl (.inr J0)
    .exact .inr J0
    .exact .inl (.inr J0)
   have he:KG (c::r)=(c,1,true):=by
    unfold KG;rw[if_neg J1,ZKp,if_pos hf]
   show JS ([92,c]++r).length.succ (92::c::r) b e=_;rw[JS,if_pos rfl,he,if_pos rfl];exact ZN8 (by simp<;>omega)
  .rw[if_neg h2];have h3:spc c.toNat=false:=by
    cases hs:spc c.toNat
    .rfl
    .exact absurd (by unfold slD;rw[hs];rfl) h2
   have h4:b.length=0->c.toNat≠35:=λhz h35=>h2 (by unfold slD;simp[hz,h35])
   have h92: ¬c=92:=λh=>by subst h;revert h3;decide
   have hb:ZHq c.toNat (decide (b.length=0))=false:=by
    unfold ZJe at h1;simp only[ZBJ,Zd,not_or]at h1;unfold ZHq;simp only[ZSU,ZaB,decide_eq_false_iff_not];refine⟨⟨⟨J0,J0⟩,.inr h3⟩,?_⟩;by_cases hz:b.length=0
    .right;exact h4 hz
    .left;simpa using hz
   show JS ([c]++r).length.succ (c::r) b e=_;rw[JS,if_neg h92,hb,if_neg J1];by_cases h32:c=32
   .rw[if_pos h32,if_pos ⟨h32,by simpa using h2⟩];exact ZN8 (by simp<;>omega)
   .rw[if_neg h32,if_neg (λh=>h32 h.1)];exact ZN8 (by simp<;>omega)
theorem ZWo: ∀(s b:Tx) (e:Nat),vl (ZD8 (decide (b.length=0)) s) b e=some (b++s,if s= []then e else b.length+s.length)
 | [],b,e=>by rw[Ku,if_pos rfl];rfl
 |c::r,b,e=>by
  have ih:=ZWo r (b++ [c]) (if c=32/\slD c (decide (b.length=0)) (decide (r= []))=false then e else b.length+1);rw[show decide ((b++ [c]).length=0)=false by simp]at ih;rw[ZD8,Zgn,ih]
  conv=>rhs;rw[if_neg J1]
  rcases r with _|⟨d,r⟩
  .rw[if_pos rfl];have: ¬(c=32/\slD c (decide (b.length=0)) (decide (([]:Tx)= []))=false):=by
    rintro⟨rfl,h⟩
    revert h
    simp[slD]
   rw[if_neg this];simp
  .rw[if_neg J1];simp;omega
theorem Zdn(c:UInt8)(r:Tx):trL (ZD8 true (c::r))=ZD8 true (c::r):=by
 rw[ZD8];unfold ZDc;split
 .rw[Qx,ZCW,if_neg (by decide)]
 .split
  .rw[Qx,ZCW,if_neg (by decide)]
  .rename_i h1 h2;rw[Qx,ZCW,if_neg];rintro rfl;exact h2 (by simp[slD])
theorem ZYQ{v:Tx}(h:v≠ []):ZFn (ZC8 v)=(v,true):=by
 obtain⟨c,r,rfl⟩:=List.exists_cons_of_ne_nil h;unfold ZFn;rw[ZYz,Zdn];have:=ZWo (c::r) [] 0;rw[if_neg h]at this;unfold vl at this;rw[show JS ((ZD8 true (c::r)).length+1) (ZD8 true (c::r)) [] 0=_ from this];simp
def ZA7(a:UInt8)(x:Tx):Prop:= ∀y,YT a (x++y)=pre x (YT a y)
theorem ZLM(a:UInt8):ZA7 a []:=λy=>(ZOh _ (ZIm a y)).symm
theorem ZCh{a:UInt8}{x y:Tx}(h1:ZA7 a x)(h2:ZA7 a y):ZA7 a (x++y):=λz=>by
 rw[Yh,h1,h2,ZPD _ _ _ (ZIm _ _)]
theorem ZFc{a c:UInt8}(h1:c≠92)(h2:c≠a):ZA7 a [c]:=λy=>by
 show YT a (c::y)=_
 conv=>lhs;unfold YT
 rw[if_neg h1,if_neg h2]
theorem ZPt(a c:UInt8):ZA7 a [92,c]:=λy=>by
 show YT a (92::c::y)=_
 conv=>lhs;unfold YT
 rw[if_pos rfl]
theorem ZZE{a:UInt8}(ha:a≠92){x:Tx}(h:ZA7 a x)(y:Tx):YT a (x++a::y)=x::YT a y:=by
 rw[h]
 conv=>lhs;arg 2;unfold YT
 rw[if_neg ha,if_pos rfl];simp[pre]
theorem ZZf{a:UInt8}{x:Tx}(h:ZA7 a x):YT a x= [x]:=by
 have:=h [];rw[Ku]at this;rw[this];show pre x [[]]= [x];simp[pre]
theorem ZOn{a:UInt8}(ha:a≠92): ∀l:List Tx,l≠ []->(∀x∈l,ZA7 a x)->YT a (QE a l)=l
 | [],h,_=>absurd rfl h
 | [x],_,h=>ZZf (h x (List.mem_singleton_self x))
 |x::y::r,_,h=>by
  rw[ZAx a J1,ZZE ha (h x J1),ZOn ha (y::r) J1 (λz hz=>h z (ξZ _ hz))]
theorem ZPr{a b:UInt8}(hb:b≠92)(hab:b≠a): ∀l:List Tx,(∀x∈l,ZA7 a x)->ZA7 a (QE b l)
 | [],_=>ZLM a
 | [x],h=>h x (List.mem_singleton_self x)
 |x::y::r,h=>by
  rw[ZAx b J1,show x++b::QE b (y::r)=x++([b]++QE b (y::r))from rfl];exact ZCh (h x J1) (ZCh (ZFc hb hab) (ZPr hb hab (y::r) (λz hz=>h z (ξZ _ hz))))
theorem ZYm{a:UInt8}(ha:a=43\/a=44)(c:UInt8)(f l:Bool):ZA7 a (ZDc c f l):=by
 have hc:=ZDm c;unfold ZDc;split
 .obtain⟨_,_,b3,b4,b5⟩:=ZMW ⟨c.toNat % 16,J0⟩;exact ZCh (x:= [92,dgD (c.toNat/16)]) (y:= [dgD (c.toNat % 16)]) (ZPt a _) (ZFc b3 (by rcases ha with rfl|rfl;exact b4;exact b5))
 .split
  .exact ZPt a c
  .rename_i h;have h3: ¬spc c.toNat=true:=λh3=>h (by simp[slD,h3])
   refine ZFc (λe=> ?_) (λe=> ?_)
   .subst e;exact h3 (by decide)
   .subst e;rcases ha with rfl|rfl<;>exact h3 (by decide)
theorem ZNQ{a:UInt8}(ha:a=43\/a=44): ∀(s:Tx) (f:Bool),ZA7 a (ZD8 f s)
 | [],f=>ZLM a
 |c::r,f=>ZCh (ZYm ha c f _) (ZNQ ha r false)
theorem ZMK{a:UInt8}: ∀s:Tx,(∀c∈s,c≠92/\c≠a)->ZA7 a s
 | [],_=>ZLM a
 |c::r,h=>ZCh (x:= [c]) (ZFc (h c J1).1 (h c J1).2) (ZMK r (λx hx=>h x (ξZ _ hx)))
theorem ZTg(s:Tx): ∀n,n<=s.length->tyU s n=true-> ∀c∈s.take n,ZOp c.toNat=true\/ZOm c.toNat=true
 |0,_,_,c,hc=>by simp at hc
 |n+1,hn,hg,c,hc=>by
  rw[tyU,ZS]at hg;rw[Jk J0,Qc,ZBK]at hc;rcases hc with hc|rfl
  .exact ZTg s n J0 hg.1 c hc
  .have:=hg.2;rw[show s.getD n 0=s[n] by simp[show n<s.length by omega]]at this;unfold tyC at this;simp only[ZBJ,ZS]at this;rcases this with h|h
   .exact .inl h
   .exact .inr h.2
theorem ZQ9{s:Tx}(h:JJ s=true): ∀c∈s,ZOp c.toNat=true\/ZOm c.toNat=true:=by
 unfold JJ tyA at h;simp only[ZS]at h;intro c hc;exact ZTg s s.length (Zm _) h.2 c (by rw[Jm];exact hc)
theorem ZYr{c:UInt8}(h:ZOp c.toNat=true\/ZOm c.toNat=true):c≠92/\c≠43/\c≠44/\c≠61/\c≠32:=by
 refine⟨?_,?_,?_,?_,?_⟩<;>rintro rfl<;>revert h<;>decide
theorem ZUB{c:UInt8}: ∀(t u:Tx),c∉t->KV c (t++c::u)=(t,u,true)
 | [],u,_=>by simp[KV]
 |b::t,u,h=>by
  have h1: ¬b=c:=λe=>h (by simp[e])
  rw[Qx,KV,if_neg h1,ZUB t u (λhm=>h (ξZ _ hm))]
theorem ZdA{l:Tx}(h: ∀c∈l,c≠32):l.dropWhile (· ==32)=l:=by
 cases l with
 |nil=>rfl
 |cons c l=>rw[ZVI,if_neg (by simpa using h c J1)]
theorem Zef{t:Tx}(h: ∀c∈t,c≠32):ZEF t=t:=by
 have h1:trR t=t:=by
  unfold trR;rw[ZdA (λc hc=>h c (List.mem_reverse.1 hc)),List.reverse_reverse]
 unfold ZEF trL;rw[h1,ZdA h]
theorem ZZt{p:Av}(ht:JJ p.1=true)(hv:p.2≠ []):JC (QU p)=(p,true):=by
 have hm:=λ(c:UInt8) (hc:c∈p.1)=>ZYr (ZQ9 ht c hc)
 have hc:KV 61 (QU p)=(p.1,ZC8 p.2,true):=by
  unfold QU;rw[Yh];exact ZUB _ _ (λh=>(hm _ h).2.2.2.1 rfl)
 have htr:ZEF p.1=p.1:=Zef λc h=>(hm c h).2.2.2.2
 unfold JC;rw[hc];simp only[htr,ht,ZYQ hv];simp
theorem ZQN{a:UInt8}(ha:a=43\/a=44){p:Av}(ht:JJ p.1=true):ZA7 a (QU p):=by
 unfold QU;rw[ZYz];refine ZCh (ZCh (ZMK _ λc hc=> ?_) (ZFc (by decide) (by rcases ha with rfl|rfl<;>decide))) (ZNQ ha _ _);have:=ZYr (ZQ9 ht c hc);rcases ha with rfl|rfl
 .exact⟨this.1,this.2.1⟩
 .exact⟨this.1,this.2.2.1⟩
theorem ZEt{r:List Av}(h:Yk r=true):r≠ []/\r.length<=8/\ ∀p∈r,JJ p.1=true/\p.2≠ []:=by
 unfold Yk at h;simp only[ZS,Zd]at h;refine⟨λe=>by rw[e]at h;simp at h,h.2.2,λp hp=> ?_⟩;obtain⟨j,hj,rfl⟩:=ZMi.1 hp;have h1:=ZRQ r _ j h.1 hj;unfold ZAB at h1;rw[show r.getD j ([],[])=r[j] by simp[hj]]at h1;simp only[ZS]at h1;exact⟨h1.1,by simpa using h1.2.1⟩
theorem ZXO{r:List Av}(h:Yk r=true):ZA7 44 (Yq r):=
 ZPr (by decide) (by decide) _ λx hx=>by
  obtain⟨p,hp,rfl⟩:=YO.1 hx;exact ZQN (.inr rfl) ((ZEt h).2.2 p hp).1
theorem ZZs{r:List Av}(h:Yk r=true):Zj (Yq r)=(r,true):=by
 obtain⟨h0,_,h2⟩:=ZEt h;have hl:ZFE (Yq r)=r.map λp=>(p,true):=by
  unfold ZFE Yq;rw[ZOn (by decide) _ (by simpa using h0) (λx hx=>by
   obtain⟨p,hp,rfl⟩:=YO.1 hx;exact ZQN (.inl rfl) (h2 p hp).1),Js]
  exact ZBe λp hp=>ZZt (h2 p hp).1 (h2 p hp).2
 unfold Zj;rw[hl,if_pos J1,Js];exact congrArg (·,true) (List.map_id' _)
theorem ZEw{d:Dn}(h:Je d=0):d.length<=32/\ ∀r∈d,Yk r=true:=by
 unfold Je at h;split at h
 .cases h
 .split at h
  .rename_i h1 h2;exact⟨J0,Yd.1 h2⟩
  .cases h
theorem Zfx(p:Av):QU p≠ []:=by unfold QU;simp
theorem ZSs{r:List Av}(h:r≠ []):Yq r≠ []:=by
 obtain⟨p,r,rfl⟩:=List.exists_cons_of_ne_nil h;unfold Yq;cases r with
 |nil=>exact Zfx p
 |cons q r=>rw[YL,ZAx 43 J1];simp
theorem ZXV: ∀ {d:Dn} {n:Nat},(∀r∈d,r.length<=n)->mxD d<=n
 | [],n,_=>by simp[mxD]
 |r::d,n,h=>by
  have h1:=h r J1;have h2:=ZXV (d:=d) (λx hx=>h x (ξZ _ hx));rw[mxD];omega
theorem ZQI{d:Dn}(h:Je d=0)(hl:(KY d).length<=4096):YQ (KY d)=(d,0):=by
 obtain⟨h1,h2⟩:=ZEw h;cases d with
 |nil=>rfl
 |cons r d=>
  have hr:=h2 r J1;have hne:KY (r::d)≠ []:=by
   unfold KY;cases d with
   |nil=>exact ZSs (ZEt hr).1
   |cons q d=>rw[YL,ZAx 44 J1];simp
  have hL:ZCK (KY (r::d))=(r::d).map λr=>(r,true):=by
   unfold ZCK KY;rw[ZOn (by decide) _ J1 (λx hx=>by
    obtain⟨q,hq,rfl⟩:=YO.1 hx;exact ZXO (h2 q hq)),Js]
   exact ZBe λq hq=>ZZs (h2 q hq)
  have hn:ZAq (KY (r::d))=r::d:=by unfold ZAq;rw[hL,Js];exact List.map_id' _
  unfold YQ;rw[if_neg J0,if_neg hne,hL,if_pos J1,hn,if_neg (by have:=ZXV (d:=r::d) (n:=8) (λx hx=>(ZEt (h2 x hx)).2.1);omega),if_neg (by rw[h];simp)]
structure NmD (s:Tx) (d:Dn):Prop where
 rd:YQ s=(d,0)
 nam:s=KY d
 chk:Je d=0
 nrm:d.map Jr=d
 full:d.all KE=true
 len:s.length<=4096
theorem ZY8{s:Tx}(h:okS s=true): ∃d,NmD s d:=by
 have hr:=ZRo h;have hno:JG s=(s,0):=of_decide_eq_true h;unfold JG at hno;rw[if_neg (by rw[hr];simp)]at hno;split at hno
 .rename_i hf;unfold QT at hno;split at hno
  .rename_i h1;exact absurd (congrArg Prod.snd hno) h1
  .rename_i h1;split at hno
   .cases hno
   .rename_i h2;have hs:KY ((YQ s).1.map Jr)=s:=congrArg Prod.fst hno;have hb:=ZQI (ZJC.1 h1) J0;rw[hs]at hb;have hd:(YQ s).1.map Jr=(YQ s).1:=by
     conv=>rhs;rw[hb]
    refine⟨(YQ s).1,?_,?_,?_,hd,hf,by rw[<-hs];omega⟩
    .exact ZEO rfl hr
    .rw[hd]at hs;exact hs.symm
    .rw[hd]at h1;exact ZJC.1 h1
 .cases hno
theorem NmD.ok{s:Tx}{d:Dn}(h:NmD s d):okS s=true:=by
 refine ZL ?_;unfold JG;rw[h.rd];simp only[ne_eq,not_true_eq_false,if_false,h.full,if_true,h.nrm];unfold QT;rw[if_neg (by rw[h.chk];simp),if_neg (by have:=h.len;rw[h.nam]at this;omega),<-h.nam]
theorem ZZG{d:Dn}(h1:d.length<=32)(h2: ∀r∈d,Yk r=true):Je d=0:=by
 unfold Je;rw[if_neg J0,if_pos (Yd.2 h2)]
theorem ZL4{a:UInt8}: ∀ {l:List Tx} {x:Tx},x∈l->x.length<=(QE a l).length
 | [y],x,h=>by rw[ZBK.1 h];exact Zm _
 |y::z::r,x,h=>by
  rw[ZAx a J1,Zf,JD];rcases KB.1 h with rfl|h
  .omega
  .have:=ZL4 (a:=a) h;omega
theorem NmD.parts{s:Tx}{d:Dn}(h:NmD s d):Yy s=d.map Yq:=by
 unfold Yy;rw[if_pos h.ok,h.rd];refine ZBe λr hr=> ?_
 have h1:=(ZEw h.chk).2 r hr;have h2:Je [r]=0:=ZZG J1 (by simpa using h1);have h3:(Yq r).length<=s.length:=by
  rw[h.nam];exact ZL4 (YO.2 ⟨r,hr,rfl⟩)
 have:=h.len;unfold QT;rw[if_neg (by rw[h2];simp),if_neg (by show ¬(Yq r).length>4096;omega)];rfl
theorem NmD.tail{s:Tx}{r:List Av}{d:Dn}(h:NmD s (r::d)):NmD (KY d) d:=by
 obtain⟨h1,h2⟩:=ZEw h.chk;have hc:Je d=0:=ZZG (by simp at h1;omega) (λx hx=>h2 x (ξZ _ hx));have hl:(KY d).length<=4096:=by
  have:=h.len;rw[h.nam]at this;unfold KY at this|-;cases d with
  |nil=>simp[QE]
  |cons q d=>rw[YL,ZAx 44 J1,Zf,JD]at this;omega
 have hn:=h.nrm;rw[YL,ZEq]at hn;have hf:=h.full;rw[Qz,ZS]at hf;exact⟨ZQI hc hl,rfl,hc,hn.2,hf.2,hl⟩
theorem ZOq{s:Tx}(h:QF s=true): ∃r d,NmD s (r::d)/\YV s=Yq r/\Zz s=KY d:=by
 have h0:Yy s≠ []:=of_decide_eq_true h;have hok:okS s=true:=by
  cases e:okS s
  .exact absurd (by unfold Yy;rw[e];rfl) h0
  .rfl
 obtain⟨d,hd⟩:=ZY8 hok;have hp:=hd.parts;cases d with
 |nil=>rw[hp]at h0;exact absurd rfl h0
 |cons r d=>
  refine⟨r,d,hd,?_,?_⟩
  .unfold YV;rw[hp];rfl
  .unfold Zz;rw[hp];rfl
theorem Zaw{d:Dn}(h: ∀r∈d,Yk r=true):KY d= []↔d= []:=by
 constructor
 .intro e;cases d with
  |nil=>rfl
  |cons r d=>
   have h1:=(ZEt (h r J1)).1;unfold KY at e;cases d with
   |nil=>exact absurd e (ZSs h1)
   |cons q d=>rw[YL,ZAx 44 J1]at e;simp at e
 .rintro rfl;rfl
theorem ZOZ{s:Tx}(h:QF s=true):s=if Zz s= []then YV s else YV s++44::Zz s:=by
 obtain⟨r,d,hd,h1,h2⟩:=ZOq h;have hm:=(ZEw hd.chk).2;rw[h1,h2]
 conv=>lhs;rw[hd.nam]
 cases d with
 |nil=>rfl
 |cons q d=>
  rw[if_neg (λe=>by have:=(Zaw (λx hx=>hm x (ξZ _ hx))).1 e;cases this)];unfold KY;rw[YL,ZAx 44 J1]
theorem ZcR{s t:Tx}(h1:QF s=true)(h2:QF t=true)(hl:YV s=YV t)(hp:Zz s=Zz t):s=t:=by
 rw[ZOZ h1,ZOZ h2,hl,hp]
theorem ZZn{s:Tx}(h:QF s=true):Zz s≠s:=by
 intro e;have h1:=ZOZ h;obtain⟨r,d,hd,h3,h4⟩:=ZOq h;have h5:=ZSs (ZEt ((ZEw hd.chk).2 r J1)).1;split at h1
 .rename_i h6;rw[e]at h6;rw[h3]at h1;exact h5 (h1.symm.trans h6)
 .have:=congrArg List.length h1;rw[Zf,JD,e]at this;omega
def ZCt(s:Tx):Nat:=(Yy s).length
theorem ZHG{s:Tx}(h:QF s=true):ZCt s=ZCt (Zz s)+1/\ZCt s<=32:=by
 obtain⟨r,d,hd,h1,h2⟩:=ZOq h;have h3:=(ZEw hd.chk).1;unfold ZCt;rw[h2,hd.parts,hd.tail.parts];simp at h3|-;omega
structure InvT (m:EM) (B:BM):Prop where
 ln:m.length<=1024
 kn:(m.map (·.1)).Nodup
 key: ∀p∈m,p.2.1=p.1/\QF p.1=true/\smL p.2.2.1
 par: ∀s∈m.map (·.1),Zz s= []\/Zz s∈m.map (·.1)
 bn:(B.map (·.1)).Nodup
 so: ∀b∈B,SoL b.2
 row: ∀p s,s∈YF B p↔s∈m.map (·.1)/\Zz s=p
theorem ZeG:InvT [] []:=⟨J1,.nil,J1,J1,.nil,J1,λp s=>by simp[YF,ZG]⟩
theorem ZYB{l:List Tx}(h:SoL l):l.Nodup:=h.imp λ{a b} hab e=>by rw[e,bl_irr]at hab;cases hab
theorem ZGu{α:Type}[DecidableEq α]: ∀(l l':List α),l.Nodup->(∀x∈l,x∈l')->l.length<=l'.length
 | [],_,_,_=>by simp
 |x::l,l',hn,hs=>by
  have h0:=hs x J1;have ih:=ZGu l (l'.erase x) (ZAb.1 hn).2 (λy hy=>(List.mem_erase_of_ne (λe=>(ZAb.1 hn).1 (by rw[<-e];exact hy))).2 (hs y (ξZ _ hy)));rw[List.length_erase_of_mem h0]at ih;have:=List.length_pos_of_mem h0;rw[JD];omega
section
variable {m:EM} {B:BM}
theorem InvT.has(h:InvT m B){s:Tx}(hs:s∈m.map (·.1)):QF s=true:=by
 obtain⟨p,hp,rfl⟩:=YO.1 hs;exact(h.key p hp).2.1
theorem ZX2{B:BM}(hn:(B.map (·.1)).Nodup){b:Tx×List Tx}(hb:b∈B):YF B b.1=b.2:=by
 unfold YF;rw[ZGt hn (k:=b.1) (v:=b.2) hb];rfl
theorem InvT.rowNd(h:InvT m B)(p:Tx):(YF B p).Nodup:=by
 unfold YF;cases e:ZG B p with
 |none=>exact ZSh
 |some l=>exact ZYB (h.so _ (Jx e))
theorem InvT.rowSo(h:InvT m B)(p:Tx):SoL (YF B p):=by
 unfold YF;cases e:ZG B p with
 |none=>exact .nil
 |some l=>exact h.so _ (Jx e)
theorem InvT.rowLe(h:InvT m B)(p:Tx):(YF B p).length<=1024:=by
 have:=ZGu _ _ (h.rowNd p) (λx hx=>((h.row p x).1 hx).1);rw[YX]at this;have:=h.ln;omega
theorem InvT.ok(h:InvT m B):okT m B:=by
 refine⟨h.bn,λb hb=>⟨h.so b hb,?_⟩,λp hp=>(h.key p hp).2.2,by have:=h.ln;omega⟩;have:=h.rowLe b.1;rw[ZX2 h.bn hb]at this;omega
theorem InvT.up(h:InvT m B){p s:Tx}(hs:s∈YF B p):Zz s=p/\ZCt s=ZCt p+1/\ZCt s<=32/\s∈m.map (·.1):=by
 obtain⟨h1,h2⟩:=(h.row p s).1 hs;have:=ZHG (h.has h1);exact⟨h2,by rw[<-h2];exact this.1,this.2,h1⟩
theorem InvT.deep(h:InvT m B): ∀(k:Nat) (n:Tx),33<=ZCt n+k->deep B k n
 |0,n,hk=>by
  refine Zf2.2 λs hs=> ?_
  have:=h.up hs;omega
 |k+1,n,hk=>λs hs=>h.deep k s (by have:=(h.up hs).2.1;omega)
def ZQs:Nat->Tx->Tx
 |0,x=>x
 |j+1,x=>Zz (ZQs j x)
theorem InvT.walkUp(h:InvT m B): ∀(k:Nat) (n x:Tx),x∈Yn B k n-> ∃j,x∈m.map (·.1)/\ZQs (j+1) x=n/\ZCt x=ZCt n+j+1
 |0,n,x,hx=>by cases hx
 |k+1,n,x,hx=>by
  obtain⟨s,hs,hx⟩:=ZJT.1 hx;have hu:=h.up hs;rcases KB.1 hx with rfl|hx
  .exact⟨0,hu.2.2.2,hu.1,J0⟩
  .obtain⟨j,h1,h2,h3⟩:=h.walkUp k s x hx;exact⟨j+1,h1,by show Zz (ZQs (j+1) x)=n;rw[h2];exact hu.1,J0⟩
theorem InvT.walkNd(h:InvT m B): ∀(k:Nat) (n:Tx),(Yn B k n).Nodup
 |0,n=>ZSh
 |k+1,n=>by
  refine List.pairwise_flatMap.2 ⟨λs hs=>ZAb.2 ⟨λhx=> ?_,h.walkNd k s⟩,?_⟩
  .obtain⟨j,_,_,h3⟩:=h.walkUp k s s hx;omega
  .have hself: ∀s∈YF B n,∀x∈s::Yn B k s,∃i,ZQs i x=s/\ZCt x=ZCt n+1+i:=λs hs x hx=>by
    have hu:=h.up hs;rcases KB.1 hx with rfl|hx
    .exact⟨0,rfl,J0⟩
    .obtain⟨j,_,h2,h3⟩:=h.walkUp k s x hx;exact⟨j+1,h2,J0⟩
   refine(ZJa.2 λi j hi hj hij=> ?_);intro x hx y hy e;subst e;obtain⟨a,ha,ha2⟩:=hself _ (YZ hi) x hx;obtain⟨b,hb,hb2⟩:=hself _ (YZ hj) x hy;obtain rfl:a=b:=by omega
   have:=(ZJa.1 (h.rowNd n)) i j hi hj hij;exact this (ha.symm.trans hb)
theorem ZYE{k:Nat}: ∀ {n y x:Tx},y∈Yn B k n->x∈YF B y->x∈Yn B (k+1) n:=by
 induction k with
 |zero=>intro n y x hy _;cases hy
 |succ k ih=>
  intro n y x hy hx;obtain⟨s,hs,hy⟩:=ZJT.1 hy;refine ZJT.2 ⟨s,hs,ξZ _ ?_⟩;rcases KB.1 hy with rfl|hy
  .exact ZJT.2 ⟨x,hx,ZDB ..⟩
  .exact ih hy hx
theorem InvT.walkAll(h:InvT m B): ∀(k:Nat) (x:Tx),x∈m.map (·.1)->ZCt x<=k->x∈Yn B k []
 |0,x,hx,hk=>by have:=ZHG (h.has hx);omega
 |k+1,x,hx,hk=>by
  have hp:=ZHG (h.has hx);rcases h.par x hx with h1|h1
  .exact ZJT.2 ⟨x,(h.row [] x).2 ⟨hx,h1⟩,ZDB ..⟩
  .exact ZYE (h.walkAll k _ h1 J0) ((h.row _ x).2 ⟨hx,rfl⟩)
theorem InvT.walkMem(h:InvT m B)(x:Tx):x∈Yn B 40 []↔x∈m.map (·.1):=
 ⟨λhx=>(h.walkUp 40 [] x hx).elim λj hj=>hj.1,λhx=>h.walkAll 40 x hx (by have:=(ZHG (h.has hx)).2;omega)⟩
theorem InvT.walkLen(h:InvT m B):(Yn B 40 []).length=m.length:=by
 have h1:=ZGu _ _ (h.walkNd 40 []) (λx hx=>(h.walkMem x).1 hx);have h2:=ZGu _ _ h.kn (λx hx=>(h.walkMem x).2 hx);rw[YX]at h1 h2;omega
theorem InvT.okWn(h:InvT m B)(n:Tx):okW 40 m B n:=by
 refine⟨h.ok,(ZK9 B 40 n).2 (h.deep 40 n J0),?_⟩;have h1:=ZGu _ _ (h.walkNd 40 n) (λx hx=>(h.walkUp 40 n x hx).elim λj hj=>hj.1);rw[YX]at h1;have:=h.ln;omega
def ZJL(n:Tx):List Tx->List Tx->Prop
 |_,[]=>True
 |S,x::l=>(Zz x=n\/Zz x∈S)/\ZJL n (x::S) l
theorem ZTn{n:Tx}: ∀ {a b S:List Tx},ZJL n S a->ZJL n (a.reverse++S) b->ZJL n S (a++b)
 | [],_,_,_,h=>h
 |x::a,b,S,h1,h2=>⟨h1.1,ZTn h1.2 (by rw[ZK0,Yh]at h2;exact h2)⟩
theorem ZZN{n s:Tx}: ∀ {l S:List Tx},s∈S->ZJL s S l->ZJL n S l
 | [],_,_,_=>trivial
 |x::l,S,hs,h=>⟨.inr (by rcases h.1 with e|e;rw[e];exact hs;exact e),ZZN (ξZ _ hs) h.2⟩
theorem InvT.ord(h:InvT m B): ∀(k:Nat) (n:Tx) (S:List Tx),ZJL n S (Yn B k n)
 |0,n,S=>trivial
 |k+1,n,S=>by
  have hr: ∀s∈YF B n,Zz s=n:=λs hs=>(h.up hs).1
  show ZJL n S ((YF B n).flatMap λs=>s::Yn B k s);generalize YF B n=row at hr
  induction row generalizing S with
  |nil=>trivial
  |cons s row ih=>
   rw[ZO4];exact ZTn (a:=s::Yn B k s) ⟨.inl (hr s J1),ZZN (ZDB ..) (h.ord k s (s::S))⟩ (ih _ (λx hx=>hr x (ξZ _ hx)))
theorem ZY0{n:Tx}: ∀ {l S:List Tx},ZJL n S l-> ∀(i:Nat) (hi:i<l.length),Zz l[i]=n\/Zz l[i]∈S\/Zz l[i]∈l.take i
 |x::l,S,h,0,_=>h.1.imp id .inl
 |x::l,S,h,i+1,hi=>by
  rcases ZY0 h.2 i (by simpa using hi)with h1|h1|h1
  .exact .inl h1
  .rcases KB.1 h1 with h2|h2
   .exact .inr (.inr (by rw[ξU];exact KB.2 (.inl h2)))
   .exact .inr (.inl h2)
  .exact .inr (.inr (by rw[ξU];exact ξZ _ h1))
theorem ZMd(A:List (Tx×Kq))(k:Tx)(v:Kq)(x:Tx):x∈(Zt A k v).map (·.1)↔x=k\/x∈A.map (·.1):=by
 have h1:x∈(Zt A k v).map (·.1)↔ZG (Zt A k v) x≠none:=by rw[Ne,QK];simp
 have h2:x∈A.map (·.1)↔ZG A x≠none:=by rw[Ne,QK];simp
 rw[h1,h2,ZPd];by_cases e:x=k
 .simp[e]
 .simp[e]
theorem ZPW(B:BM)(k:Tx)(l:List Tx)(p:Tx):YF (Zt B k l) p=if p=k then l else YF B p:=by
 unfold YF;rw[ZPd];split<;>rfl
theorem ZHj{β:Type}{A:List (Tx×β)}(h:(A.map (·.1)).Nodup)(k:Tx)(v:β):((Zt A k v).map (·.1)).Nodup:=by
 refine((ZBQ A k v).map _).nodup_iff.2 (ZAb.2 ⟨?_,mdel_nodup h k⟩);rw[<-QK,ZK8 _ _ h,if_pos rfl]
theorem InvT.addOk(h:InvT m B){dn:Tx}{e:Kq}(he:e.1=dn)(hs:QF dn=true)(hn:ZG m dn=none)(hp:Zz dn= []\/(ZG m (Zz dn)).isSome=true)(hl:m.length<1024)(hsm:smL e.2.1):
  InvT (Zt m dn e) (Zt B (Zz dn) (ZEh (YF B (Zz dn)) dn)):=by
 have hnk:dn∉m.map (·.1):=QK.1 hn;refine⟨?_,ZHj h.kn _ _,λp hp=> ?_,λs hs2=> ?_,ZHj h.bn _ _,λb hb=> ?_,λp s=> ?_⟩
 .rw[ZCb hn,Zf,ZVn];omega
 .rw[ZCb hn]at hp;rcases Qc.1 hp with hp|hp
  .exact h.key p hp
  .obtain rfl:=ZBK.1 hp;exact⟨he,hs,hsm⟩
 .rw[ZMd]at hs2|-;rcases hs2 with rfl|hs2
  .refine hp.imp id λh1=> .inr ?_
   exact ZM0 λh2=>by rw[QK.2 h2]at h1;cases h1
  .exact(h.par s hs2).imp id .inr
 .have hm:=(ZBQ B (Zz dn) (ZEh (YF B (Zz dn)) dn)).mem_iff.1 hb;rcases KB.1 hm with rfl|hm
  .refine ZdX (h.rowSo _) dn λx hx e=> ?_
   obtain⟨h1,h2⟩:=(h.row _ x).1 hx;exact hnk (by rw[<-ZcR (h.has h1) hs e h2];exact h1)
  .exact h.so b ((ZA1 B _).mem hm)
 .rw[ZPW,ZMd];split
  .rename_i e;subst e;rw[Zcn,h.row];constructor
   .rintro(rfl|⟨h1,h2⟩)
    .exact⟨.inl rfl,rfl⟩
    .exact⟨.inr h1,h2⟩
   .rintro⟨rfl|h1,h2⟩
    .exact .inl rfl
    .exact .inr ⟨h1,h2⟩
  .rename_i e;rw[h.row];constructor
   .rintro⟨h1,h2⟩;exact⟨.inr h1,h2⟩
   .rintro⟨rfl|h1,h2⟩
    .exact absurd h2.symm e
    .exact⟨h1,h2⟩
theorem InvT.add(h:InvT m B)(L:List (Tx×Zl))(M:List (Tx×Zy))(dn:Tx)(l:List ZY)(hs:smL (YH l)):InvT (ZAC (ZDj L M m dn l) m dn l) (ZBg (ZDj L M m dn l) B dn):=by
 by_cases h0:ZDj L M m dn l=0
 .unfold ZAC ZBg;rw[if_pos h0,if_pos h0];unfold ZDj at h0;split at h0
  .cases h0
  .rename_i h1;split at h0
   .cases h0
   .rename_i h2;split at h0
    .cases h0
    .rename_i h3;split at h0
     .rename_i h4;exact absurd h0 h4
     .split at h0
      .cases h0
      .rename_i h5;refine h.addOk rfl (by simpa using h1) (by simpa using h2) ?_ J0 hs;by_cases e:Zz dn= []
       .exact .inl e
       .right;cases e2:(ZG m (Zz dn)).isSome
        .exact absurd ⟨e2,e⟩ h3
        .rfl
 .unfold ZAC ZBg;rw[if_neg h0,if_neg h0];exact h
theorem ZSB{dn:Tx}{v e:Kq}(hv:ZG m dn=some v)(x:Tx):x∈(Zt m dn e).map (·.1)↔x∈m.map (·.1):=by
 rw[ZMd];constructor
 .rintro(rfl|h)
  .exact YO.2 ⟨_,Jx hv,rfl⟩
  .exact h
 .exact .inr
theorem InvT.replOk(h:InvT m B){dn:Tx}{v e:Kq}(hv:ZG m dn=some v)(he:e.1=dn)(hsm:smL e.2.1):InvT (Zt m dn e) B:=by
 have hk:=ZSB (m:=m) (e:=e) hv;have hdn:dn∈m.map (·.1):=YO.2 ⟨_,Jx hv,rfl⟩;refine⟨?_,ZHj h.kn _ _,λp hp=> ?_,λs hs2=> ?_,h.bn,h.so,λp s=>by rw[hk];exact h.row p s⟩
 .have h1:=((ZSA (w:=e) hv).length_eq).trans (JD ..);have h2:=ZSW hv;have:=h.ln;omega
 .rcases KB.1 ((ZBQ m dn e).mem_iff.1 hp)with rfl|hp
  .exact⟨he,h.has hdn,hsm⟩
  .exact h.key p ((ZA1 m _).mem hp)
 .rw[hk]at hs2|-;exact h.par s hs2
theorem InvT.delOk(h:InvT m B){n:Tx}{v:Kq}(hv:ZG m n=some v)(h0:YF B n= []):InvT (Zg m n) (Zt (Zg B n) (Zz n) (Jp (YF (Zg B n) (Zz n)) n)):=by
 have hn:n∈m.map (·.1):=YO.2 ⟨_,Jx hv,rfl⟩;have hpn:=ZZn (h.has hn);have hk: ∀x,x∈(Zg m n).map (·.1)↔x∈m.map (·.1)/\x≠n:=λx=>by
  have h1:x∈(Zg m n).map (·.1)↔ZG (Zg m n) x≠none:=by rw[Ne,QK];simp
  have h2:x∈m.map (·.1)↔ZG m x≠none:=by rw[Ne,QK];simp
  rw[h1,h2,ZK8 _ _ h.kn];by_cases e:x=n
  .simp[e]
  .simp[e]
 have hr: ∀p,YF (Zg B n) p=if p=n then []else YF B p:=λp=>by
  unfold YF;rw[ZK8 _ _ h.bn];split<;>rfl
 refine⟨?_,mdel_nodup h.kn _,λp hp=>h.key p ((ZA1 m _).mem hp),λs hs=> ?_,ZHj (mdel_nodup h.bn _) _ _,λb hb=> ?_,λp s=> ?_⟩
 .have:=ZfR m n;have:=h.ln;omega
 .rw[hk]at hs|-;refine(h.par s hs.1).imp id λh1=>⟨h1,λe=> ?_⟩
  have:s∈YF B n:=(h.row n s).2 ⟨hs.1,e⟩;rw[h0]at this;cases this
 .rcases KB.1 ((ZBQ (Zg B n) (Zz n) (Jp (YF (Zg B n) (Zz n)) n)).mem_iff.1 hb)with rfl|hb
  .rw[hr,if_neg hpn];exact(h.rowSo (Zz n)).filter _
  .exact h.so b ((ZA1 B _).mem ((ZA1 _ _).mem hb))
 .rw[ZPW,hk];split
  .rename_i e;subst e;rw[hr,if_neg hpn];unfold Jp;rw[List.mem_filter,h.row];simp only[ZHz,beq_eq_false_iff_ne,ne_eq];exact⟨λ⟨⟨a,b⟩,c⟩=>⟨⟨a,c⟩,b⟩,λ⟨⟨a,c⟩,b⟩=>⟨⟨a,b⟩,c⟩⟩
  .rename_i e;rw[hr];split
   .rename_i e2;subst e2;refine⟨λh=>(by cases h),λ⟨⟨a,_⟩,b⟩=> ?_⟩;have:s∈YF B p:=(h.row p s).2 ⟨a,b⟩;rw[h0]at this;cases this
   .rw[h.row];refine⟨λ⟨a,b⟩=>⟨⟨a,λe3=> ?_⟩,b⟩,λ⟨⟨a,_⟩,b⟩=>⟨a,b⟩⟩;subst e3;exact e b.symm
theorem InvT.del(h:InvT m B)(n:Tx):InvT (ZFA (ZCA m B n) m n) (ZCx (ZCA m B n) B n):=by
 by_cases h0:ZCA m B n=0
 .unfold ZFA ZCx;rw[if_pos h0,if_pos h0];unfold ZCA at h0;split at h0
  .cases h0
  .rename_i h1;split at h0
   .cases h0
   .rename_i h2;obtain⟨v,hv⟩:=ZcV.1 (show(ZG m n).isSome=true from by
     cases e:(ZG m n).isSome
     .exact absurd e h1
     .rfl)
    exact h.delOk hv (ZJC.1 h2)
 .unfold ZFA ZCx;rw[if_neg h0,if_neg h0];exact h
theorem InvT.okDn(h:InvT m B)(n:Tx):okD m B n:=by
 refine⟨h.ok,λh1 h2=> ?_⟩;obtain⟨v,hv⟩:=ZcV.1 h1;have hn:n∈m.map (·.1):=YO.2 ⟨_,Jx hv,rfl⟩;exact⟨(h.row _ n).2 ⟨hn,rfl⟩,ZZn (h.has hn)⟩
theorem InvT.repl(h:InvT m B)(L:List (Tx×Zl))(M:List (Tx×Zy))(dn:Tx)(l:List ZY)(hs:smL (YH l)):InvT (ZAC (ZED L M m dn l) m dn l) B:=by
 by_cases h0:ZED L M m dn l=0
 .unfold ZAC;rw[if_pos h0];unfold ZED at h0;cases hv:ZG m dn with
  |none=>rw[hv]at h0;simp at h0
  |some v=>exact h.replOk hv rfl hs
 .unfold ZAC;rw[if_neg h0];exact h
end
def ZID:Tabs:=ZT (ZT (ZT (ZO) 70 ZIY) 93 ZBx) 94 ZDT
theorem ZXa:SsOk Tryz.prog ZID:=ZH (ZH (ZH (ZF) (ZW 70) ZYF) (ZW 93) ZN0) (ZW 94) ZQP
theorem ZbG:(∀a,ZID.q 70 a=ZIY a)/\(∀a,ZID.q 93 a=ZBx a)/\(∀a,ZID.q 94 a=ZDT a)/\(∀f a o,ZID.r f a o=none)/\(∀f a o,ZID.k f a o=none):=⟨λ_=>rfl,λ_=>rfl,λ_=>rfl,λ_ _ _=>rfl,λ_ _ _=>rfl⟩
theorem Zce(s:Tx):ZC Tryz.prog 57 [.x (.str s)] (.tup [.x (.sl (rows ZB (Yy s))),.x (.bool (okS s))]):=by
 obtain⟨d,hd⟩: ∃d,(YQ s).1=d:=⟨_,rfl⟩;refine ZI.pure (fC 57 true ?_) rfl;intro C0 E0;have uu:=ξ8 @ZIY.eq_1 @ZIY.eq_2 @ZBx.eq_1 @ZBx.eq_2 @ZDT.eq_1 @ZDT.eq_2 hd @ZbG;have tT:=ZXa;refine nz ?_;refine rg tT [0] ?_;refine rg tT [0,4,5] ?_;refine rg tT [0,21] ?_;refine cd (λh0=> ?_) (λh0=> ?_)
 .have hok:okS s=false:=by unfold okS;exact decide_eq_false (λe=>by rw[e]at h0;simp at h0)
  have hpp:Yy s= []:=by unfold Yy;rw[hok];rfl
  refine rg tT [2,3] ?_;refine WI.nnA ?_;refine lf ?_;rw[hok,hpp];rfl
 .have hno:JG s=(s,0):=by
   have h1:(JG s).2=0/\(JG s).1=s:=by clear uu;grind
   exact ZEO h1.2 h1.1
  have hok:okS s=true:=ZL hno;obtain⟨d',hn⟩:=ZY8 hok;obtain rfl:d'=d:=by rw[<-hd,hn.rd]
  have hpp:=hn.parts;obtain⟨hd32,hmay⟩:=ZEw hn.chk;refine rg tT [6] ?_;refine rg tT [6,8] ?_;refine rg tT [6,8,9] ?_;refine WI.ownA 8 9 1 ?_;refine WI.loop (λφ os=> ∃(j:Nat),φ= [(6,.x (.sl (rows JU d'))),(8,.ref 0 j 0 j),(9,.x (.int .i64 j))]/\os= [.rows false 9 1 (rows ZB ((d'.take j).map Yq))]/\j<=d'.length) (ZK d'.length 9) ?_ (λφ os hI=> ?_)
  .exact⟨0,rfl,rfl,J0⟩
  .obtain⟨j,rfl,rfl,hj⟩:=hI;refine nz ?_;refine rg tT [6,8,9,30] ?_;refine cd (λh1=> ?_) (λh1=> ?_)
   .have hj4:j<d'.length:=by omega
    have hrow:=ZEc d' j hj4;have hmj:=hmay (d'.getD j []) (by rw[show d'.getD j []=d'[j] by simp[hj4]];exact YZ hj4);have hst:(d'.take (j+1)).map Yq=(d'.take j).map Yq++ [Yq (d'.getD j [])]:=by rw[Jk hj4,Jt,show d'.getD j []=d'[j] by simp[hj4]];rfl
    have hln:(rows ZB ((d'.take j).map Yq)).length=j:=by rw[Zh,YX,JA];omega
    generalize d'.getD j []=r at hrow hmj hst;have hua:Zb Zo (rows Zo r)=some r:=Zr ZDx r;have uu:=ξ5 uu hrow hmj hua hln;refine rg tT [6,8,9] ?_;refine WI.pickA [0] ?_;refine rg tT [6,8,9] ?_;exact⟨⟨j+1,rfl,by rw[hst,<-ZJU];first|done|rfl,J0⟩,by simp[ZK,Ab.get,D.val,ZD];omega⟩
   .obtain rfl:j=d'.length:=by omega
    rw[Jm,<-hpp];have hln2:(rows ZB (Yy s)).length=d'.length:=by rw[hpp,Zh,YX]
    have htk:(rows ZB (Yy s)).take d'.length=rows ZB (Yy s):=by rw[<-hln2,Jm]
    have uu:=JX uu hln2 htk;refine rg tT [2,3] ?_;refine WI.nnA ?_;refine lf ?_;rw[hok]
def ZGJ:J8->J5
 | [.x (.str s)]=>some (true,.tup [.x (.sl (rows ZB (Yy s))),.x (.bool (okS s))])
 |_=>none
theorem ZVN: ∀args r,ZGJ args=some (true,r)->ZC Tryz.prog 57 args r:=by
 intro args r h;unfold ZGJ at h;split at h
 .rename_i s;simp only[Ze,ZZ,ZS,Zd,true_and]at h;obtain rfl:=h;exact(Zce s)
 .cases h
theorem ZbY(l:List Tx)(hl:l.length<=32)(hb: ∀x∈l,x.length<=4096):ZC Tryz.prog 58 [.x (.sl (rows ZB l))] (.x (.str (QE 44 l))):=by
 refine ZI.pure (fC 58 true ?_) rfl;intro C0 E0;have uu:=trivial;have tT:=(ZF:SsOk Tryz.prog ZO);refine nz ?_;refine WI.regB tT [0] ?_;refine oS ?_;refine oN ?_;refine nz ?_;refine WI.regB tT [0,3] ?_;refine oS ?_;refine oN ?_;refine nz ?_;refine WI.regB tT [0,3,4] ?_;refine oS ?_;refine oN ?_;refine nz ?_;refine WI.loop (λφ os=> ∃(j:Nat),φ= [(0,.x (.sl (rows ZB l))),(3,.x (.str (QE 44 (l.take j)))),(4,.x (.int .i64 j))]/\os= []/\j<=l.length) (ZK l.length 4) ?_ (λφ os hI=> ?_)
 .exact⟨0,rfl,rfl,J0⟩
 .obtain⟨j,rfl,rfl,hj⟩:=hI;refine nz ?_;refine WI.regB tT [0,3,4,8] ?_
  iterate 2 refine oS ?_
  iterate 2 refine oG (hok:=by first|exact se|(clear uu;simp only[Zf,JD,ξN,Zd];omega)|exact sd) ?_
  refine oN ?_;refine nz ?_;refine cd (λh0=> ?_) (λh0=> ?_)
  .have hj4:j<l.length:=by omega
   have hrow:(rows ZB l)[j]? =some [X.str (l.getD j [])]:=by simp[rows,hj4,ZB]
   have hrl:=Zh ZB l;have hxl:=hb (l.getD j []) (by rw[show l.getD j []=l[j] by simp[hj4]];exact YZ hj4);have hjl:=ZE0 44 4096 (l.take j) (λx hx=>hb x (ZB8 hx));rw[JA]at hjl;have hst0:l.take (j+1)=l.take j++ [l.getD j []]:=by rw[Jk hj4,show l.getD j []=l[j] by simp[hj4]]
   generalize l.getD j []=x at hrow hst0 hxl;have uu:=JX uu hrow hrl;refine WI.regB tT [0,3,4,12] ?_;refine oS ?_;refine oG (hok:=by first|exact se|(clear uu;simp only[Zf,JD,ξN,Zd];omega)|exact sd) ?_;refine oN ?_;refine nz ?_;refine cd (λh1=> ?_) (λh1=> ?_)
   .have hst:QE 44 (l.take (j+1))=QE 44 (l.take j)++ [44]++x:=by
     rw[hst0,ZJd 44 _ _ (λe=>by have h9:=congrArg List.length e;rw[JA,ξN]at h9;omega)]
    refine WI.regB tT [0,3,4] ?_;refine oS ?_;refine oG (hok:=by first|exact se|(clear uu;simp only[Zf,JD,ξN,Zd];omega)|exact sd) ?_;refine oS ?_;refine oN ?_;refine nz ?_;refine WI.regB tT [0,3,4] ?_
    iterate 3 refine oS ?_
    iterate 3 refine oG (hok:=by first|exact se|(clear uu;simp only[Zf,JD,ξN,Zd];omega)|exact sd) ?_
    refine oS ?_;refine oN ?_;refine nz ?_;refine WI.regB tT [0,3,4] ?_;refine oS ?_;refine oG (hok:=by first|exact se|(clear uu;simp only[Zf,JD,ξN,Zd];omega)|exact sd) ?_;refine oS ?_;refine oN ?_;refine nz ?_;exact⟨⟨j+1,by rw[hst];first|done|rfl,rfl,J0⟩,by simp[ZK,Ab.get,D.val,ZD];omega⟩
   .have hst:QE 44 (l.take (j+1))=QE 44 (l.take j)++x:=by
     obtain rfl:j=0:=by omega
     rw[hst0];simp[QE]
    refine WI.regB tT [0,3,4] ?_
    iterate 3 refine oS ?_
    iterate 3 refine oG (hok:=by first|exact se|(clear uu;simp only[Zf,JD,ξN,Zd];omega)|exact sd) ?_
    refine oS ?_;refine oN ?_;refine nz ?_;refine WI.regB tT [0,3,4] ?_;refine oS ?_;refine oG (hok:=by first|exact se|(clear uu;simp only[Zf,JD,ξN,Zd];omega)|exact sd) ?_;refine oS ?_;refine oN ?_;refine nz ?_;exact⟨⟨j+1,by rw[hst];first|done|rfl,rfl,J0⟩,by simp[ZK,Ab.get,D.val,ZD];omega⟩
  .refine WI.regB tT [2] ?_
   iterate 2 refine oS ?_
   refine oN ?_;refine nz ?_;refine lf ?_;obtain rfl:j=l.length:=by omega
   rw[Jm]
def ZGH:J8->J5
 | [.x (.sl R)]=>(Zb ZB R).bind λl=>some (decide (l.length<=32)&&(decide (∀x∈l,x.length<=4096)),.x (.str (QE 44 l)))
 |_=>none
theorem ZWE: ∀args r,ZGH args=some (true,r)->ZC Tryz.prog 58 args r:=by
 intro args r h;unfold ZGH at h;split at h
 .rename_i R;obtain⟨l,hr0,h⟩:=Zv h;simp only[Ze,ZZ,ZS,Zd,true_and]at h;obtain⟨⟨h1,h2⟩,rfl⟩:=h;rw[<-Za ZP hr0];exact(ZbY l h1 h2)
 .cases h
def ZKN:Tabs:=ZT (ZT (ZO) 57 ZGJ) 58 ZGH
theorem ZZo:SsOk Tryz.prog ZKN:=ZH (ZH (ZF) (ZW 57) ZVN) (ZW 58) ZWE
theorem Zbn:(∀a,ZKN.q 57 a=ZGJ a)/\(∀a,ZKN.q 58 a=ZGH a)/\(∀f a o,ZKN.r f a o=none)/\(∀f a o,ZKN.k f a o=none):=⟨λ_=>rfl,λ_=>rfl,λ_ _ _=>rfl,λ_ _ _=>rfl⟩
theorem ZWj(s:Tx):ZC Tryz.prog 27 [.x (.str s)] (.tup [.x (.str (Zz s)),.x (.bool (QF s))]):=by
 obtain⟨hp1,hp2⟩:=ZKv s;unfold Zz QF;have hrl:=Zh ZB (Yy s);have hu:Zb ZB ((rows ZB (Yy s)).drop 1)=some ((Yy s).drop 1):=by rw[show(rows ZB (Yy s)).drop 1=rows ZB ((Yy s).drop 1) by simp[rows]];exact Zr ZP _
 have c1:decide (((Yy s).drop 1).length<=32)=true:=ZL (by rw[KD];omega);have c2:decide (∀x∈(Yy s).drop 1,x.length<=4096)=true:=ZL λx hx=>hp2 x (ZB1 hx)
 refine ZI.pure (fC 27 true ?_) rfl;intro C0 E0;have uu:=KT @ZGJ.eq_1 @ZGJ.eq_2 @ZGH.eq_1 @ZGH.eq_2 hrl hu @c1 @c2 @Zbn;have tT:=ZZo;refine nz ?_;refine rg tT [0] ?_;refine rg tT [4] ?_;refine rg tT [4,13] ?_;refine cd (λh0=> ?_) (λh0=> ?_)
 .have h9:Yy s= []:=by clear uu;exact ZaY.1 (by first|omega|simpa using h0)
  refine rg tT [2,3] ?_;refine lf ?_;rw[h9];rfl
 .have h9:Yy s≠ []:=by clear uu;intro e;rw[e]at h0;simp at h0
  refine rg tT [2,3] ?_;refine lf ?_;rw[ZL h9]
def ZEy:J8->J5
 | [.x (.str s)]=>some (true,.tup [.x (.str (Zz s)),.x (.bool (QF s))])
 |_=>none
theorem ZTd: ∀args r,ZEy args=some (true,r)->ZC Tryz.prog 27 args r:=by
 intro args r h;unfold ZEy at h;split at h
 .rename_i s;simp only[Ze,ZZ,ZS,Zd,true_and]at h;obtain rfl:=h;exact(ZWj s)
 .cases h
def ZJo(os:J7)(t:Nat):W0:=match os[t]? with
 |some (.box [.ptr s _,.mref a,.mref b])=>match os[s]? with
  |some (.box [.mref x,.mref c])=>t::s::x::c::a::b::(match os[b]? with
   |some (.mpo _ _ l)=>l.filterMap λq=>match q.2 with
    | [.ref i _ _ _]=>some i
    |_=>none
   |_=> [])
  |_=> []
 |_=> []
def ZMf(Y:J7)(l:W2):List TB:=l.filterMap λq=>match q with
 |([.str s],[.ref i _ _ _])=>match Y[i-6]? with
  |some (.rows _ _ _ R)=>(Zb ZB R).map λl=>(s,i-6,l)
  |_=>none
 |_=>none
def ZaE(Y:J7)(B:List TB):Bool:=decide ((B.map (·.1)).Nodup/\(B.map (·.2.1)).Nodup)&&B.all λx=>decide (x.2.2.length<=1000000)&&match Y[x.2.1]? with
 |some o=>Ob.beq o (.rows false 9 1 (rows ZB x.2.2))
 |none=>false
theorem Ze4{Y:J7}{B:List TB}(h:ZaE Y B=true):okB Y B:=by
 simp only[ZaE,ZS,Zd]at h;refine⟨h.1.1,h.1.2,λx hx=> ?_⟩;have h2:=Yd.1 h.2 x hx;simp only[ZS,Zd]at h2;refine⟨?_,h2.1⟩;have h3:=h2.2;split at h3
 .rename_i o ho;rw[ho,Ob.beq_eq h3]
 .cases h3
theorem Zbc{α:Type}{a b:α}{l:List α}(h:l.Perm [a,b]):l= [a,b]\/l= [b,a]:=by
 have hl:=h.length_eq
 match l,hl with
 | [x,y],_=>
  have hx:x=a\/x=b:=by have:=h.mem_iff.1 (ZDB (a:=x) (l:= [y]));simpa using this
  rcases hx with rfl|rfl
  .have:=(List.perm_cons _).1 h;left;rw[List.singleton_perm_singleton.1 this]
  .have:=(List.perm_cons x).1 (h.trans (List.Perm.swap x a []));right;rw[List.singleton_perm_singleton.1 this]
def awR(G:FuncId->Option IFn)(res:List IRes)(rest:IC)(l2:List IOp)(dst:Option Nat)(φ2:J4)(os2:J7)(ρ:W0)(P1 P2 m:W2)(B:List TB)(Y:J7)(l:List (Tx×List Tx)):Bool:=
 match Ke ZIl (putO φ2 dst ((D.ptr (Y.length+8) 0).ren (KA ρ os2.length (cpO P1 P2 m Y (.mpo .str false (B.map YU)) l).length))) (KJ ρ os2 (cpO P1 P2 m Y (.mpo .str false (B.map YU)) l)) l2 with
 |some (true,φ4,os4)=>match ev ZIl [] G 300 rest φ4 os4 with
  |some (.ret,φ5,os5)=>match Kf true (λ_ _=>none) φ5 os5 res with
   |some (true,[.x (.bool true)],_)=>true
   |_=>false
  |_=>false
 |_=>false
def awC(G:FuncId->Option IFn)(res:List IRes)(rest:IC)(f:IO)(xs:List IO)(l2:List IOp)(dst:Option Nat)(φ2:J4)(os2:J7):Bool:=
 match(ZE φ2 f).val,xs.map λy=>(ZE φ2 y).val with
 | .fn g [],[.ptr t 0]=>match YS (ZJo os2 t) os2 with
  | .box _:: .box _:: .mpo _ _ P1:: .mpo _ _ P2:: .mpo _ _ m:: .mpo _ _ b::Y=>
   decide (g=19)&&((ZE φ2 f).cond&&((xs.all λy=>(ZE φ2 y).cond)&&(QB (ZJo os2 t) [.ptr t 0] os2&&(Nat.beq (Ye (ZJo os2 t) t) 0&&(decide ((ZJo os2 t).length<=Y.length+6)&&
    (ZFB (YS (ZJo os2 t) os2) (Jl P1 P2 (.mpo .str true m:: .mpo .str false ((ZMf Y b).map YU)::Y))&&(ZaE Y (ZMf Y b)&&match(ZMf Y b).map YK with
     | [x,y]=>awR G res rest l2 dst φ2 os2 (ZJo os2 t) P1 P2 m (ZMf Y b) Y [x,y]&&awR G res rest l2 dst φ2 os2 (ZJo os2 t) P1 P2 m (ZMf Y b) Y [y,x]
     |_=>false)))))))
  |_=>false
 |_,_=>false
def awT(G:FuncId->Option IFn)(k:Nat):Option IFn->Bool
 |some p=>match evSeq ZIl [] G 300 k p.body [] []with
  |some (φ1,os1)=>match ZcM k p.body with
   | .seq (.reg (o::⟨dst,.call f xs,none⟩::l2)) rest=>match Ke ZIl φ1 os1 [o]with
    |some (true,φ2,os2)=>awC G p.res rest f xs l2 dst φ2 os2
    |_=>false
   |_=>false
  |_=>false
 |none=>false
theorem ZXQ{c:Ctx}{E0:Env}{n:Nat}{res:List IRes}{rest:IC}{l2:List IOp}{dst:Option Nat}{φ2:J4}{os2:J7}{ρ:W0}{P1 P2 m:W2}{B:List TB}{Y:J7}{l:List (Tx×List Tx)}(h:awR (GP Tryz.prog) res rest l2 dst φ2 os2 ρ P1 P2 m B Y l=true):
  ∃φ' os',Ke ZIl (putO φ2 dst ((D.ptr (Y.length+8) 0).ren (KA ρ os2.length (cpO P1 P2 m Y (.mpo .str false (B.map YU)) l).length))) (KJ ρ os2 (cpO P1 P2 m Y (.mpo .str false (B.map YU)) l)) l2=some (true,φ',os')/\
   WI Tryz.prog c E0 [] n rest (λx φ' os'=>(x= .normal\/x= .ret)/\ ∃ds os2,Kf true (λ_ _=>none) φ' os' res=some (true,ds,os2)/\mkR ds= .x (.bool true)) φ' os':=by
 unfold awR at h;split at h
 .rename_i φ4 os4 h1;split at h
  .rename_i φ5 os5 h2;split at h
   .rename_i q h3;exact⟨φ4,os4,h1,WI.evE ZLF [] (ZNB _) 300 h2 ⟨.inr rfl,_,_,h3,rfl⟩⟩
   .cases h
  .cases h
 .cases h
theorem ZX6:ZC Tryz.prog 16 [] (.x (.bool true)):=by
 have h:awT (GP Tryz.prog) 6 (GP Tryz.prog 16)=true:=by kernel_rfl
 refine ZI.pure (FG.calls (fz:=true) ?_) rfl;generalize hG:GP Tryz.prog 16=q at h|-;unfold awT at h;split at h
 .rename_i p;refine FG.mk (λC0 E0=> ?_) (Jy _);split at h
  .rename_i φ1 os1 hev;split at h
   .rename_i o dst f xs l2 rest hsq;split at h
    .rename_i φ2 os2 hr;refine WI.evSeq ZLF [] (ZNB _) 300 6 hev ?_;rw[hsq];refine WI.seq ?_;unfold awC at h;split at h
     .rename_i g t hv hx;split at h
      .rename_i P1 _ _ P2 _ _ m _ _ b Y hO;simp only[ZS,Zd]at h;obtain⟨rfl,c1,c2,k1,k2,k3,k4,k5,k6⟩:=h;have hB:=Ze4 k5;have hcp:=Zga P1 P2 m (ZMf Y b) Y hB;have hin:Zu (Ye (ZJo os2 t)) [D.ptr t 0]= [.ptr 0 0]:=by
        simp only[Zu,D.ren,ZRc k2]
       have hcp2:=ZI.lift (P:=Tryz.prog) (ρ:=ZJo os2 t) (args:= [.ptr t 0]) (OS:=os2) (Post:=CpP P1 P2 m (ZMf Y b) Y) k1 (by rw[hin,ZGv k4];exact hcp) (λr os' ⟨l,_,_,h⟩=>by
        rw[h];refine ZKz k3 ?_;simp[cpO])
       refine WI.regF ZLF 1 rfl hr (ZW 19) hv c1 c2 (by rw[hx,Ku];exact hcp2) ?_;rintro r os3 ⟨r1,os',⟨l,hl,rfl,rfl⟩,rfl,rfl⟩;split at k6
       .rename_i x y hxy;simp only[ZS]at k6;rw[hxy]at hl;rcases Zbc hl with rfl|rfl
        .exact ZXQ k6.1
        .exact ZXQ k6.2
       .cases k6
      .cases h
     .cases h
    .cases h
   .cases h
  .cases h
 .cases h
theorem ZQj{α:Type}(p:α->Bool)(l:List α)(j:Nat)(h:j<l.length):(l.take (j+1)).all p=((l.take j).all p&&p l[j]):=by
 rw[Jk h,ZJ1];simp
theorem ZI3{α:Type}(p:α->Bool)(l:List α)(j:Nat)(h:j<l.length)(hp:p l[j]=false):l.all p=false:=by
 rw[Bool.eq_false_iff];intro hh;have:=Yd.1 hh l[j] (YZ h);rw[hp]at this;cases this
def ZVK(v:Tx):Bool:=decide (v.length<=300)
def ZKR(a:ZY):Bool:=decide (a.1.length<=80/\a.2.1.length<=8)&&a.2.1.all ZVK
def ZM3(e:Kq):Bool:=decide (e.1.length<=300/\e.2.1.length<=12)&&e.2.1.all ZKR
theorem Zgo(d:Tx)(bs:List ZY):ZC Tryz.prog 18 [.agg [.x (.str d),.x (.sl (rows ZX bs))]] (.x (.bool (ZM3 (d,bs,())))):=by
 have hfe:ZM3 (d,bs,())=(decide (d.length<=300/\bs.length<=12)&&bs.all ZKR):=rfl;rw[hfe];clear hfe;refine ZI.pure (fC 18 true ?_) rfl;intro C0 E0;have uu:=trivial;have tT:=(ZF:SsOk Tryz.prog ZO);refine nz ?_;refine rg tT [1] ?_;refine rg tT [1,14] ?_;refine cd (λh0=> ?_) (λh0=> ?_)
 .refine rg tT [2] ?_;refine lf ?_;rw[decide_eq_false (by clear uu;grind)];rfl
 .have hal:d.length<=300/\bs.length<=12:=by clear uu;grind
  refine rg tT [1,3] ?_;refine WI.loop (λφ os=> ∃(i:Nat),φ= [(1,.ptr 0 0),(3,.x (.int .i64 i))]/\os= [.box [.x (.str d),.x (.sl (rows ZX bs))]]/\i<=bs.length/\(bs.take i).all ZKR=true) (ZK bs.length 3) ?_ (λφ os hI=> ?_)
  .exact⟨0,rfl,rfl,J0,rfl⟩
  .obtain⟨i,rfl,rfl,hi,hall⟩:=hI;refine nz ?_;refine rg tT [1,3,19] ?_;refine cd (λh1=> ?_) (λh1=> ?_)
   .have hi4:i<bs.length:=by omega
    refine rg tT [1,3,39] ?_;refine cd (λh2=> ?_) (λh2=> ?_)
    .refine rg tT [2] ?_;refine lf ?_;rw[ZI3 _ bs i hi4 (by unfold ZKR;rw[decide_eq_false (by clear uu;grind)];rfl),ZFg]
    .have hvl:bs[i].1.length<=80/\bs[i].2.1.length<=8:=by clear uu;grind
     refine rg tT [1,3,4] ?_;refine WI.loop (λφ os=> ∃(k:Nat),φ= [(1,.ptr 0 0),(3,.x (.int .i64 i)),(4,.x (.int .i64 k))]/\os= [.box [.x (.str d),.x (.sl (rows ZX bs))]]/\k<=bs[i].2.1.length/\(bs[i].2.1.take k).all ZVK=true) (ZK bs[i].2.1.length 4) ?_ (λφ os hI=> ?_)
     .exact⟨0,rfl,rfl,J0,rfl⟩
     .obtain⟨k,rfl,rfl,hk,hnk⟩:=hI;refine nz ?_;refine rg tT [1,3,4,48] ?_;refine cd (λh3=> ?_) (λh3=> ?_)
      .have hk4:k<bs[i].2.1.length:=by omega
       refine rg tT [1,3,4,61] ?_;refine cd (λh4=> ?_) (λh4=> ?_)
       .refine rg tT [2] ?_;refine lf ?_;rw[ZI3 _ bs i hi4 (by unfold ZKR;rw[ZI3 _ bs[i].2.1 k hk4 (decide_eq_false (by clear uu;grind)),ZFg]),ZFg]
       .refine rg tT [1,3,4] ?_;exact⟨⟨k+1,rfl,rfl,J0,by rw[ZQj _ bs[i].2.1 k hk4,hnk,show ZVK bs[i].2.1[k]=true from ZL J0];rfl⟩,by simp[ZK,Ab.get,D.val,ZD];omega⟩
      .have hfa:ZKR bs[i]=true:=by unfold ZKR;rw[Yi J0]at hnk;rw[hnk,ZL hvl];rfl
       refine rg tT [1,3] ?_;exact⟨⟨i+1,rfl,rfl,J0,by rw[ZQj _ bs i hi4,hall,hfa];rfl⟩,by simp[ZK,Ab.get,D.val,ZD];omega⟩
   .refine rg tT [2] ?_;refine lf ?_;rw[Yi J0]at hall;rw[hall,ZL hal];rfl
def ZLl:J8->J5
 | [.agg [.x (.str d),.x (.sl A)]]=>(Zb ZX A).bind λa=>some (true,.x (.bool (ZM3 (d,a,()))))
 |_=>none
theorem Zat: ∀args r,ZLl args=some (true,r)->ZC Tryz.prog 18 args r:=by
 intro args r h;unfold ZLl at h;split at h
 .rename_i d A;obtain⟨a,hr0,h⟩:=Zv h;simp only[Ze,ZZ,ZS,Zd,true_and]at h;obtain rfl:=h;rw[<-Za YR hr0];exact(Zgo d a)
 .cases h
theorem Zgk{e:Kq}(h:ZM3 e=true):e.1.length<=300/\e.2.1.length<=12/\ ∀a∈e.2.1,a.1.length<=80/\a.2.1.length<=8/\ ∀v∈a.2.1,v.length<=300:=by
 unfold ZM3 at h;rw[ZS,Zd]at h;refine⟨h.1.1,h.1.2,λa ha=> ?_⟩;have h2:=Yd.1 h.2 a ha;unfold ZKR at h2;rw[ZS,Zd]at h2;exact⟨h2.1.1,h2.1.2,λv hv=>of_decide_eq_true (Yd.1 h2.2 v hv)⟩
theorem ZMF(l:List ZY)(hb: ∀a∈l,a.2.1.length<=8): ∀j,j<=l.length-> ∀a∈YH (l.take j),a.2.1.length<=j*8
 |0,_=>by simp[YH]
 |j+1,h=>by
  rw[ZBy l j J0];have:=ZQM (YH (l.take j)) (ZJ (l.getD j ([],[],())).1) (l.getD j ([],[],())).2.1 (j*8) 8 (ZMF l hb j J0) (by rw[show l.getD j ([],[],())=l[j] by simp[show j<l.length by omega]];exact hb _ (YZ _));intro a ha;have:=this a ha;omega
theorem ZcG(l:List ZY)(n:Tx)(vs:List Tx)(k:Nat)(hl: ∀a∈l,a.1.length<=k)(hn:n.length<=k): ∀a∈ZBI l n vs,a.1.length<=k:=by
 unfold ZBI;split
 .exact hl
 .intro a ha;rcases Qc.1 ha with ha|ha
  .rcases Qc.1 ha with ha|ha
   .exact hl a (ZB8 ha)
   .rw[ZBK.1 ha];exact hn
  .refine hl a ?_;unfold ZCM at ha;split at ha<;>exact ZB1 ha
theorem ZOI(l:List ZY)(k:Nat)(hb: ∀a∈l,a.1.length<=k): ∀j,j<=l.length-> ∀a∈YH (l.take j),a.1.length<=k
 |0,_=>by simp[YH]
 |j+1,h=>by
  rw[ZBy l j J0];refine ZcG _ _ _ k (ZOI l k hb j J0) ?_;rw[ZEv,show l.getD j ([],[],())=l[j] by simp[show j<l.length by omega]];exact hb _ (YZ _)
theorem ZhM{e:Kq}(h:ZM3 e=true):smL e.2.1/\smL (YH e.2.1)/\ZGm (clL plC) e.2.1:=by
 obtain⟨h1,h2,h3⟩:=Zgk h;have c1:=ZF4 e.2.1 e.2.1.length (Zm _);have c2:=ZMF e.2.1 (λa ha=>(h3 a ha).2.1) e.2.1.length (Zm _);have c3:=ZOI e.2.1 80 (λa ha=>(h3 a ha).1) e.2.1.length (Zm _);rw[Jm]at c1 c2 c3;refine⟨⟨J0,λa ha=>by have:=(h3 a ha).1;omega,λa ha=>by have:=(h3 a ha).2.1;omega⟩,⟨J0,λa ha=>by have:=c3 a ha;omega,λa ha=>by have:=c2 a ha;omega⟩,?_⟩;exact⟨by decide+kernel,⟨J0,λa ha=>⟨by have:=(h3 a ha).1;omega,by have:=(h3 a ha).2.1;omega⟩⟩,λa ha v hv=>by have:=(h3 a ha).2.2 v hv;omega⟩
theorem Zgv(P1 P2:W2):ZN Tryz.prog 10 [.ptr 0 0] [.box [.mref 1,.mref 2],.mpo .str true P1,.mpo .str true P2] (.ptr 5 0) [.box [.mref 1,.mref 2],.mpo .str true P1,.mpo .str true P2,.mpo .str true [],.mpo .str false [],.box [.ptr 0 0,.mref 3,.mref 4]]:=by
 refine ZI.mcalls (fC 10 true ?_);intro C0 E0;have uu:=trivial;have tT:=(ZF:SsOk Tryz.prog ZO);refine nz ?_;refine rg tT [0] ?_;refine rg tT [2] ?_;refine lf ?_
 first|rfl|exact⟨rfl,rfl⟩|trivial
def ZLg:J8->J7->Option (Bool×D×J7)
 | [.ptr 0 0],[.box [.mref 1,.mref 2],.mpo .str true P1,.mpo .str true P2]=>some (true,.ptr 5 0,[.box [.mref 1,.mref 2],.mpo .str true P1,.mpo .str true P2,.mpo .str true [],.mpo .str false [],.box [.ptr 0 0,.mref 3,.mref 4]])
 |_,_=>none
theorem ZZ1: ∀args os r os',ZLg args os=some (true,r,os')->ZN Tryz.prog 10 args os r os':=by
 intro args os r os' h;unfold ZLg at h;split at h
 .cases h;exact Zgv _ _
 .cases h
theorem Zes:ZE1 9 [JQ (tyL plT),JL (clL plC),Kv []] (enB []) (Jl (JQ (tyL plT)) (JL (clL plC)) (.mpo .str true (Kv []):: .mpo .str false []:: [])):=ZE7 (Bt:= []) (Y:= []) (ZJr _) ⟨.nil,.nil,J1⟩ rfl
abbrev ZVJ:=JT (ZBZ .i64) (JT ZBo ZAg)
abbrev Zgh:=Int×(Kq×Unit)
def ZEe:J8->J5
 | []=>some (true,.x (.bool true))
 |_=>none
theorem ZTZ: ∀args r,ZEe args=some (true,r)->ZC Tryz.prog 16 args r:=by
 intro args r h;unfold ZEe at h;split at h
 .simp only[Ze,ZZ,ZS,Zd,true_and]at h;obtain rfl:=h;exact ZX6
 .cases h
def KZ:Tabs:=ZHw (Jz (Jz (Jz (Jz (Jz (ZT (ZT (ZT (ZO) 16 ZEe) 18 ZLl) 27 ZEy) 11 ZGw) 10 ZLg) 12 ZLv) 25 ZLp) 26 ZIL) 15 ZEd
theorem Zca:SsOk Tryz.prog KZ:=ZEs (JE (JE (JE (JE (JE (ZH (ZH (ZH (ZF) (ZW 16) ZTZ) (ZW 18) Zat) (ZW 27) ZTd) (ZW 11) ZQC) (ZW 10) ZZ1) (ZW 12) Zb3) (ZW 25) Zb4) (ZW 26) ZYf) (ZW 15) ZVc
theorem Zd5:(∀a,KZ.q 16 a=ZEe a)/\(∀a,KZ.q 18 a=ZLl a)/\(∀a,KZ.q 27 a=ZEy a)/\(∀a,KZ.q 11 a=none)/\(∀a o,KZ.t 11 a o=Yx ZGw a o)/\(∀a,KZ.q 10 a=none)/\(∀a o,KZ.t 10 a o=Yx ZLg a o)/\(∀a,KZ.q 12 a=none)/\(∀a o,KZ.t 12 a o=Yx ZLv a o)/\(∀a,KZ.q 25 a=none)/\(∀a o,KZ.t 25 a o=Yx ZLp a o)/\(∀a,KZ.q 26 a=none)/\(∀a o,KZ.t 26 a o=Yx ZIL a o)/\(∀a,KZ.q 15 a=none)/\(∀a o,KZ.t 15 a o=(QJ ZEd a o).map λr=>(r.1,r.2,o))/\(∀a o,KZ.r 15 a o=QJ ZEd a o)/\(∀a o,KZ.r 10 a o=none)/\(∀a o,KZ.r 11 a o=none)/\(∀a o,KZ.r 12 a o=none)/\(∀a o,KZ.r 16 a o=none)/\(∀a o,KZ.r 18 a o=none)/\(∀a o,KZ.r 25 a o=none)/\(∀a o,KZ.r 26 a o=none)/\(∀a o,KZ.r 27 a o=none)/\(∀f a o,KZ.k f a o=none):=⟨λ_=>rfl,λ_=>rfl,λ_=>rfl,λ_=>rfl,λ_ _=>rfl,λ_=>rfl,λ_ _=>rfl,λ_=>rfl,λ_ _=>rfl,λ_=>rfl,λ_ _=>rfl,λ_=>rfl,λ_ _=>rfl,λ_=>rfl,λ_ _=>rfl,λ_ _=>rfl,λ_ _=>rfl,λ_ _=>rfl,λ_ _=>rfl,λ_ _=>rfl,λ_ _=>rfl,λ_ _=>rfl,λ_ _=>rfl,λ_ _=>rfl,λ_ _ _=>rfl⟩
set_option maxHeartbeats 4000000 in
theorem ZYC(l:List Zgh):ZC Tryz.prog 5 [.x (.sl (rows ZVJ l))] (.x (.bool true)):=by
 have hrl:=Zh ZVJ l;have hun:=Zgp (tyL plT) (clL plC);refine ZI.pure (fC 5 true ?_) rfl;intro C0 E0;have uu:=KT @ZCq @ZCX @ZDQ @ZDV @ZAT @ZAQ @ZGw.eq_1 @ZGw.eq_2 (KT @ZLg.eq_1 @ZLg.eq_2 @ZLv.eq_1 @ZLv.eq_2 @ZIL.eq_1 @ZIL.eq_2 @ZLp.eq_1 @ZLp.eq_2 (KT @ZEd.eq_1 @ZEd.eq_2 @ZLl.eq_1 @ZLl.eq_2 @ZEy.eq_1 @ZEy.eq_2 @ZEe.eq_1 @ZEe.eq_2 (Ya hrl @Zd5)));have tT:=Zca;refine nz ?_;refine rg tT [0] ?_;refine rg tT [0,13] ?_;refine cd (λh0=> ?_) (λh0=> ?_)
 .refine rg tT [2] ?_;refine lf ?_
  first|rfl|exact⟨rfl,rfl⟩|trivial
 .refine rg tT [0,3] ?_;refine WI.pickA [5,0,1,2,3,4] ?_ (ho:=by simp (disch:=decide) only[zV,zO,Ob.mpb,frzL,ZA6,ZCf,onF,Ob.onI,mpP,Jb,Yf,Qg,D.vw,vwL,D.on,D.inP,Yo,Zn,D.ren,Zu,Ye,YS,Ob.mp,Ob.ren,D.nn,ZDn,Nat.reduceBEq,Nat.reduceEqDiff,Nat.reduceAdd,↓reduceIte,ZhY,Zhf,ZCq,ZCX];rfl);refine WI.famA 9 Zes ?_;refine rg tT [0,3,18] ?_;refine cd (λh1=> ?_) (λh1=> ?_)
  .refine rg tT [2] ?_;refine lf ?_
   first|rfl|exact⟨rfl,rfl⟩|trivial
  .refine rg tT [0,3,4] ?_;refine WI.loop (λφ os=> ∃(i:Nat) (m:EM) (B:BM),φ= [(0,.x (.sl (rows ZVJ l))),(3,.iref 0 0),(4,.x (.int .i64 i))]/\os= [ZBi (tyL plT) (clL plC) m B]/\i<=l.length/\InvT m B) (ZK l.length 4) ?_ (λφ os hI=> ?_)
   .exact⟨0,[],[],rfl,rfl,J0,ZeG⟩
   .obtain⟨i,m,B,rfl,rfl,hi,hF⟩:=hI;have hunm:=hun m B;have uu:=ξ4 uu hunm (ZL hF.ok) (ZL (hF.okWn []));refine nz ?_;refine rg tT [0,3,4,22] ?_;refine cd (λh2=> ?_) (λh2=> ?_)
    .have hi4:i<l.length:=by omega
     refine rg tT [0,3,4,31] ?_;refine cd (λh3=> ?_) (λh3=> ?_)
     .refine rg tT [0,3,4] ?_
      first|exact⟨⟨i+1,_,_,rfl,rfl,J0,hF.add _ _ _ _ hsm.2.1⟩,by simp[ZK,Ab.get,D.val,ZD];omega⟩|exact⟨⟨i+1,_,_,rfl,rfl,J0,hF.repl _ _ _ _ hsm.2.1⟩,by simp[ZK,Ab.get,D.val,ZD];omega⟩|exact⟨⟨i+1,_,_,rfl,rfl,J0,hF.del _⟩,by simp[ZK,Ab.get,D.val,ZD];omega⟩|exact⟨⟨i+1,_,_,rfl,rfl,J0,hF⟩,by simp[ZK,Ab.get,D.val,ZD];omega⟩
     .have hfe:ZM3 (l[i].2.1.1,l[i].2.1.2.1,())=true:=by clear uu;simpa using h3
      have hsm:=ZhM hfe;have hd1:decide (okT m B/\smL l[i].2.1.2.1/\ZGm (clL plC) l[i].2.1.2.1)=true:=ZL ⟨hF.ok,hsm.1,hsm.2.2⟩;have hd2:decide (okD m B l[i].2.1.1)=true:=ZL (hF.okDn _);have uu:=JX uu hd1 hd2;refine rg tT [0,3,4,36] ?_;refine rg tT [0,3,4,36,44] ?_;refine cd (λh4=> ?_) (λh4=> ?_)
      .refine rg tT [0,3,4] ?_;refine rg tT [0,3,4] ?_
       first|exact⟨⟨i+1,_,_,rfl,rfl,J0,hF.add _ _ _ _ hsm.2.1⟩,by simp[ZK,Ab.get,D.val,ZD];omega⟩|exact⟨⟨i+1,_,_,rfl,rfl,J0,hF.repl _ _ _ _ hsm.2.1⟩,by simp[ZK,Ab.get,D.val,ZD];omega⟩|exact⟨⟨i+1,_,_,rfl,rfl,J0,hF.del _⟩,by simp[ZK,Ab.get,D.val,ZD];omega⟩|exact⟨⟨i+1,_,_,rfl,rfl,J0,hF⟩,by simp[ZK,Ab.get,D.val,ZD];omega⟩
      .refine rg tT [0,3,4,53] ?_;refine cd (λh5=> ?_) (λh5=> ?_)
       .refine rg tT [0,3,4] ?_;refine rg tT [0,3,4] ?_
        first|exact⟨⟨i+1,_,_,rfl,rfl,J0,hF.add _ _ _ _ hsm.2.1⟩,by simp[ZK,Ab.get,D.val,ZD];omega⟩|exact⟨⟨i+1,_,_,rfl,rfl,J0,hF.repl _ _ _ _ hsm.2.1⟩,by simp[ZK,Ab.get,D.val,ZD];omega⟩|exact⟨⟨i+1,_,_,rfl,rfl,J0,hF.del _⟩,by simp[ZK,Ab.get,D.val,ZD];omega⟩|exact⟨⟨i+1,_,_,rfl,rfl,J0,hF⟩,by simp[ZK,Ab.get,D.val,ZD];omega⟩
       .refine rg tT [0,3,4] ?_;refine rg tT [0,3,4] ?_
        first|exact⟨⟨i+1,_,_,rfl,rfl,J0,hF.add _ _ _ _ hsm.2.1⟩,by simp[ZK,Ab.get,D.val,ZD];omega⟩|exact⟨⟨i+1,_,_,rfl,rfl,J0,hF.repl _ _ _ _ hsm.2.1⟩,by simp[ZK,Ab.get,D.val,ZD];omega⟩|exact⟨⟨i+1,_,_,rfl,rfl,J0,hF.del _⟩,by simp[ZK,Ab.get,D.val,ZD];omega⟩|exact⟨⟨i+1,_,_,rfl,rfl,J0,hF⟩,by simp[ZK,Ab.get,D.val,ZD];omega⟩
    .refine rg tT [5] ?_;refine rg tT [5,6] ?_;refine WI.pickA [] ?_;have hW: ∀(a:Nat) (ha:a<(Yn B 40 []).length),Zz (Yn B 40 [])[a]= []\/Zz (Yn B 40 [])[a]∈(Yn B 40 []).take a:=λa ha=>by
      rcases ZY0 (hF.ord 40 [] []) a ha with h|h|h
      .exact .inl h
      .cases h
      .exact .inr h
     have hWb:(Yn B 40 []).length<=1024:=by rw[hF.walkLen];exact hF.ln
     generalize Yn B 40 []=W at hW hWb|-;have hWl:=Zh ZB W;refine WI.loop (λφ os=> ∃(a:Nat),φ= [(5,.x (.sl (rows ZB W))),(6,.x (.int .i64 a))]/\os= []/\a<=W.length) (ZK W.length 6) ?_ (λφ os hI=> ?_)
     .exact⟨0,rfl,rfl,J0⟩
     .obtain⟨a,rfl,rfl,ha⟩:=hI;have uu:=Ya uu hWl;refine nz ?_;refine rg tT [5,6,68] ?_;refine cd (λh6=> ?_) (λh6=> ?_)
      .have ha4:a<W.length:=by clear uu;omega
       obtain⟨p,hp⟩: ∃p,Zz W[a]=p:=⟨_,rfl⟩;have hWa:=hW a ha4;rw[hp]at hWa;have uu:=Ya uu hp;refine rg tT [5,6,7] ?_;refine rg tT [5,6,7,9] ?_;refine rg tT [5,6,7,9,10] ?_;refine WI.loop (λφ os=> ∃(b:Nat) (v:Bool),φ= [(5,.x (.sl (rows ZB W))),(6,.x (.int .i64 a)),(7,.x (.str p)),(9,.x (.bool v)),(10,.x (.int .i64 b))]/\os= []/\b<=a/\(v=true↔p= []\/p∈W.take b)) (ZK a 10) ?_ (λφ os hI=> ?_)
       .exact⟨0,_,rfl,rfl,J0,J1⟩
       .obtain⟨b,v,rfl,rfl,hb,hv⟩:=hI;refine nz ?_;refine rg tT [5,6,7,9,10,83] ?_;refine cd (λh7=> ?_) (λh7=> ?_)
        .have hb4:b<W.length:=by clear uu;omega
         have hv2:(v||W[b]==p)=true↔p= []\/p∈W.take (b+1):=by
          rw[Jk hb4,Qc,ZBK,ZBJ,hv,beq_iff_eq];constructor
          .rintro((h|h)|h)
           .exact .inl h
           .exact .inr (.inl h)
           .exact .inr (.inr h.symm)
          .rintro(h|h|h)
           .exact .inl (.inl h)
           .exact .inl (.inr h)
           .exact .inr h.symm
         refine rg tT [5,6,7,9,10] ?_;refine rg tT [5,6,7,9,10] ?_;exact⟨⟨b+1,_,rfl,rfl,J0,hv2⟩,by simp[ZK,Ab.get,D.val,ZD];omega⟩
        .have hvt:v=true:=hv.2 (by
          obtain rfl:b=a:=by clear uu;omega
          exact hWa)
         refine rg tT [5,6,96] ?_;refine ce (λh8=> ?_) (λh8=> ?_)
         .rw[hvt]at h8;simp at h8
         .refine rg tT [5,6] ?_;exact⟨⟨a+1,rfl,rfl,J0⟩,by simp[ZK,Ab.get,D.val,ZD];omega⟩
      .refine rg tT [2] ?_;refine lf ?_
       first|rfl|exact⟨rfl,rfl⟩|trivial
end Go.Proofs.YtiogclkbccdefaaGreatDoor
end
