import Derived.Test.YtiogclkbccdefaaGreatDoorMA3
import Derived.Test.YtiogclkbccdefaaGreatDoorLA5
import Derived.Test.YtiogclkbccdefaaGreatDoorProg
import Derived.Test.YtiogclkbccdefaaGreatDoorMA1
import Derived.Test.YtiogclkbccdefaaGreatDoorLA6
set_option linter.unusedSimpArgs false
set_option linter.unusedVariables false
set_option maxRecDepth 100000
theorem Vq{A B:Prop}(hZ:A)(k:Go.Ab.Bx A->B:=by(intro hZ;refine WI.seq ?_;refine WI.regB tT [4] ?_;refine Va ?_;refine WI.ret ?_;refine JH ?_;exact hZ.h)):B:=k ⟨hZ⟩
theorem VK{A B:Prop}(hZ:A)(k:Go.Ab.Bx A->B:=by(intro hZ;refine Zb ?_;refine Zb ?_;exact hZ.h)):B:=k ⟨hZ⟩
theorem VN{p:Prop}(h:p:=by clear uu;omega):p:=h
theorem Ua{A B:Prop}(hZ:A)(k:Go.Ab.Bx A->B:=by(intro hZ;refine xFS ?_;refine xFS ?_;refine xFS ?_;exact hZ.h)):B:=k ⟨hZ⟩
theorem Tn{A B:Prop}(hZ:A)(k:Go.Ab.Bx A->B:=by(intro hZ;refine xAG ?_;refine xN ?_;refine Wm ?_;refine WI.regB tT [4] ?_;refine Va ?_;refine WI.ret ?_;exact hZ.h)):B:=k ⟨hZ⟩
theorem TM{p:Prop}(h:p:=by refine Wn ?_;refine Vm ?_;refine Vm ?_;refine oS ?_;refine W7 ?_;refine W7 ?_;refine Va ?_;exact⟨_,rfl,rfl,rfl⟩):p:=h
theorem Ge{p:Prop}(h:p:=by refine rg [4,6,7] ?_;refine WN ?_;exact⟨rfl,[_,_],congrArg (λz=>KL P1 P2 (_::_::z)) (Yw Y [_] [_]),rfl⟩):p:=h
theorem Nf{p:Prop}(h:p:=by subst hres;refine Wj ?_;exact⟨rfl,_,congrArg (KL _ _) (Yw _ _ _),by simp[Ob.nof,hZ]⟩):p:=h
theorem N5{p:Prop}(h:p:=by rw[if_neg hv,if_neg hv];exact⟨rfl,Bt,_,ZJC _,ZG7 hB _,by rw[ZJF,hY,hX];rfl,rfl⟩):p:=h
theorem NV{A B:Prop}(hZ:A)(k:Go.Ab.Bx A->B:=by(intro hZ;refine Ua ?_;refine xRG ?_;refine Ua ?_;refine xFS ?_;refine xAG ?_;exact hZ.h)):B:=k ⟨hZ⟩
theorem NY{p:Prop}(h:p:=by rw[ho];exact ZJv hp hB hY Z hZ):p:=h
section
namespace Go.Proofs.YtiogclkbccdefaaGreatDoor
open Go.RowKit Go.Bo Go.Ab
def plT:List Zd:= [([99,110],1,false,()),([115,110],1,false,()),([111,117],1,false,()),([100,99],1,false,()),([111],1,false,()),([100,101,115,99,114,105,112,116,105,111,110],1,false,()),([109,97,105,108],1,false,()),([111,98,106,101,99,116,99,108,97,115,115],1,false,()),([117,115,101,114,112,97,115,115,119,111,114,100],4,true,()),([117,105,100],1,true,()),([117,105,100,110,117,109,98,101,114],3,true,()),([109,101,109,98,101,114],5,false,()),([115,101,114,105,97,108,110,117,109,98,101,114],2,false,())]
def plC:List Zo:= [([116,111,112],[],[],()),([112,101,114,115,111,110],[[99,110],[115,110]],[[100,101,115,99,114,105,112,116,105,111,110],[117,115,101,114,112,97,115,115,119,111,114,100],[109,97,105,108],[117,105,100],[117,105,100,110,117,109,98,101,114],[115,101,114,105,97,108,110,117,109,98,101,114],[109,101,109,98,101,114]],()),([111,114,103,97,110,105,122,97,116,105,111,110,97,108,117,110,105,116],[[111,117]],[[100,101,115,99,114,105,112,116,105,111,110],[109,101,109,98,101,114]],()),([100,111,109,97,105,110],[[100,99]],[[100,101,115,99,114,105,112,116,105,111,110],[111]],()),([103,114,111,117,112],[[99,110]],[[109,101,109,98,101,114],[100,101,115,99,114,105,112,116,105,111,110]],())]
theorem ZhL:ZL6 plT plC=0:=Un
theorem ZaP:smT plT:=Un
theorem Zha:smC plC:=Un
def ZXR:J8->J7->Option (Bool×D×Ob)
 | [.ref 0 8 0 8],[.rows false 9 1 [[.str a],[.str b],[.str c],[.str d],[.str e],[.str f],[.str g],[.str h]]]=>some (true,.ref 1 8 0 8,.rows false 82 3 [[.str a,.int .i64 1,.bool false],[.str b,.int .i64 1,.bool false],[.str c,.int .i64 1,.bool false],[.str d,.int .i64 1,.bool false],[.str e,.int .i64 1,.bool false],[.str f,.int .i64 1,.bool false],[.str g,.int .i64 1,.bool false],[.str h,.int .i64 1,.bool false]])
 |_,_=>none
theorem ZeV: ∀args os r ob,ZXR args os=some (true,r,ob)->(∃fz e sz rs,ob= .rows fz e sz rs)/\ZQ Tryz.prog 37 args os r (os++ [ob]):=by
 intro args os r ob h;unfold ZXR at h;split at h
 .rename_i a b c d e f g h;simp only[Yj,YN,true_and]at h;obtain⟨rfl,rfl⟩:=h;exact⟨⟨_,_,_,_,rfl⟩,Zin [a,b,c,d,e,f,g,h] J1⟩
 .cases h
theorem ZWa:Enters Tryz.prog 38:=QZ 38
theorem Zd8:ZQ Tryz.prog 11 [] [] (.ptr 0 0) (scO (Zw plT) (YQ plC)):=by
 have hO:=ZCX (Zw plT) (YQ plC);have hnew:ZQ Tryz.prog 38 [.x (.sl [[.str [99,110],.int .i64 1,.bool false],[.str [115,110],.int .i64 1,.bool false],[.str [111,117],.int .i64 1,.bool false],[.str [100,99],.int .i64 1,.bool false],[.str [111],.int .i64 1,.bool false],[.str [100,101,115,99,114,105,112,116,105,111,110],.int .i64 1,.bool false],[.str [109,97,105,108],.int .i64 1,.bool false],[.str [111,98,106,101,99,116,99,108,97,115,115],.int .i64 1,.bool false],[.str [117,115,101,114,112,97,115,115,119,111,114,100],.int .i64 4,.bool true],[.str [117,105,100],.int .i64 1,.bool true],[.str [117,105,100,110,117,109,98,101,114],.int .i64 3,.bool true],[.str [109,101,109,98,101,114],.int .i64 5,.bool false],[.str [115,101,114,105,97,108,110,117,109,98,101,114],.int .i64 2,.bool false]]),.x (.sl [[.str [116,111,112],.sl [],.sl []],[.str [112,101,114,115,111,110],.sl [[.str [99,110]],[.str [115,110]]],.sl [[.str [100,101,115,99,114,105,112,116,105,111,110]],[.str [117,115,101,114,112,97,115,115,119,111,114,100]],[.str [109,97,105,108]],[.str [117,105,100]],[.str [117,105,100,110,117,109,98,101,114]],[.str [115,101,114,105,97,108,110,117,109,98,101,114]],[.str [109,101,109,98,101,114]]]],[.str [111,114,103,97,110,105,122,97,116,105,111,110,97,108,117,110,105,116],.sl [[.str [111,117]]],.sl [[.str [100,101,115,99,114,105,112,116,105,111,110]],[.str [109,101,109,98,101,114]]]],[.str [100,111,109,97,105,110],.sl [[.str [100,99]]],.sl [[.str [100,101,115,99,114,105,112,116,105,111,110]],[.str [111]]]],[.str [103,114,111,117,112],.sl [[.str [99,110]]],.sl [[.str [109,101,109,98,101,114]],[.str [100,101,115,99,114,105,112,116,105,111,110]]]]])] [] (.tup [.ptr 0 0,.x (.int .i64 0)]) (scO (Zw plT) (YQ plC)):=
  ZiV plT plC ZaP Zha _ _ (λ_=>⟨rfl,rfl⟩) (λh=>absurd ZhL h)
 refine ZH.mcallsX (fC 11 true ?_) WW hO Vi;intro C0 E0;have uu:=ξ9 @ZHT @ZHB @ZHI @ZHP @ZCt @ZDE @ZDh @ZDa (Qt @ZA1 @ZAu @ZXR.eq_1 @ZXR.eq_2);have tT:=aK ZB ZeV;refine WI.seq ?_;refine WI.regB tT [] ?_;refine WP ?_;refine WI.regB tT [1] ?_;refine oG ?_;refine oC ?_;refine WP ?_;refine WI.regB tT [1] ?_;refine oS ?_
 iterate 7 refine oG ?_
 refine WP ?_;refine WI.pickA [1] ?_;refine WI.cutA ZB [15,29] 15 ?_;simp only[Qy,ZB6,ZEb,ZCa];refine oS ?_
 iterate 14 refine oG ?_
 refine oP ?_;refine Zec [0,9] ?_;refine Jm [] ?_;refine ZjO ?_;refine ZIc ?_;refine WR.regB (ZCz ZB ZWa hnew) [2] ?_;refine VH ?_;refine WI.regB ZB [0] ?_;refine V2 ?_;refine ZAT ?_;exact⟨rfl,[],rfl⟩
def ZNV:J8->J7->J5
 | [.ptr 0 0,.x (.str n)],[.box [.mref 1,.mref 2],.mpo .str true P1,.mpo .str true P2]=>(unM ZC YC P1).bind λL=>(unM ZC Yl P2).bind λM=>some (decide (n.length<=140737488355328),.tup [tyD (Kb L (ZE n)),.x (.bool (ZF L (ZE n)).isSome)])
 |_,_=>none
theorem ZQC:RK Tryz.prog ZNV 122:=by
 intro args os r h;unfold ZNV at h;split at h
 .obtain⟨L,rfl,i0⟩:=um ZO JI h;obtain⟨M,rfl,i1⟩:=um ZO JT i0;obtain⟨h1,rfl⟩:=Yu i1;exact rk (Zg6 L M _ h1)
 .cases h
def ZCF(L:List (Tx×Zd))(l:List ZN)(p:Av):Bool:=(ZF L (ZE p.1)).isSome&&ZIa l p.1 p.2 (Kb L (ZE p.1)).2.1
def ZFz(L:List (Tx×Zd))(dn:Tx)(l:List ZN):Bool:=JG dn&&(decide ((YX (YL dn)).1≠ [])&&((YX (YL dn)).1.headD []).all (ZCF L l))
theorem Zer{s:Tx}{r:List Av}(h:r∈(YX s).1):JA r=true:=by
 have hz:(YX s).2=0:=by
  unfold YX at h|-;split
  .rename_i h1;rw[if_pos h1]at h;cases h
  .rename_i h1;rw[if_neg h1]at h;split
   .rfl
   .rename_i h2;rw[if_neg h2]at h;split
    .rename_i h3;rw[if_pos h3]at h;split
     .rename_i h4;rw[if_pos h4]at h;cases h
     .rename_i h4;rw[if_neg h4]at h;split
      .rename_i h5;rw[if_pos h5]at h;cases h
      .rfl
    .rename_i h3;rw[if_neg h3]at h;cases h
 exact(ZEH (ZOl s hz)).2 r h
theorem ZFy(Y:J7)(z:Ob)(t:J7):(Y++z::t)[Y.length]? =some z:=TC
theorem Zhq(Y:J7)(x z:Ob)(t:J7):(Y++x::z::t)[Y.length+1]? =some z:=by rw[QL J0];simp
theorem ZjK(Y:J7)(x y z:Ob)(t:J7):(Y++x::y::z::t)[Y.length+1+1]? =some z:=by rw[QL J0];simp[ZEq]
theorem ZXG(Z:J7)(x z:Ob)(t:J7):(Z++x::t).set Z.length z=Z++z::t:=by rw[ZDS _ _ J0];simp
theorem Zjb(Z:J7)(x y z:Ob)(t:J7):(Z++x::y::t).set (Z.length+1) z=Z++x::z::t:=by rw[ZDS _ _ J0];simp
theorem ZiM(Z:J7)(x y:Ob):Z++ [x]++ [y]=Z++ [x,y]:=TC
def okM(M:List (Tx×Zo)):Prop:= ∀p∈M,p.2.2.1.length<=1000000/\p.2.2.2.1.length<=1000000
instance (M:List (Tx×Zo)):Decidable (okM M):=inferInstanceAs (Decidable (∀p∈M,_))
theorem Zhp{M:List (Tx×Zo)}(h:okM M):bdC M:=by
 intro k;unfold clV;rcases hm:ZF M k with _|c
 .simp
 .have:=h _ (JS hm);exact V4
def ZG1(M:List (Tx×Zo))(l:List ZN):Prop:=okM M/\smA l/\ ∀a∈l,∀v∈a.2.1,v.length<=1000000
instance (M:List (Tx×Zo)) (l:List ZN):Decidable (ZG1 M l):=inferInstanceAs (Decidable (_/\_/\_))
def ZjM(L:List (Tx×Zd)):Prop:=L.length<=1000000/\ ∀p∈L,p.1.length<=1000000
instance (L:List (Tx×Zd)):Decidable (ZjM L):=inferInstanceAs (Decidable (_/\_))
theorem ZQ.nn{P:Program}{f:FuncId}{args:J8}{os os':J7}{r:D}(h:ZQ P f (args.map D.nn) os r os'):ZQ P f args os r os':=by
 intro c E vs R hvl;refine h c E vs R ⟨by rw[YZ];exact hvl.1,λj d v hd hv=> ?_⟩;rw[YE]at hd;obtain⟨d0,hd0,rfl⟩:=Za hd;exact(hvl.2 j d0 v hd0 hv).nn
def ZLR:J8->J7->J5
 | [.ptr 0 0,.agg [.x (.str dn),.x (.sl R)]],[.box [.mref 1,.mref 2],.mpo .str true P1,.mpo .str true P2]=>(unM ZC YC P1).bind λL=>(unM ZC Yl P2).bind λM=>(ZM ZL R).bind λl=>some (decide (ZG1 M l),.x (.int .i64 (ZH1 L M l)))
 |_,_=>none
theorem ZNA:RK Tryz.prog ZLR 78:=by
 intro args os r h;unfold ZLR at h;split at h
 .rename_i dn R P1 P2;obtain⟨L,rfl,i0⟩:=um ZO JI h;obtain⟨M,rfl,i1⟩:=um ZO JT i0;obtain⟨l,rfl,i2⟩:=un Ze i1;obtain⟨h1,rfl⟩:=Yu i2;exact rk (Zdc L M (dn,l,()) h1.2.1 h1.2.2 (Zhp h1.1))
 .cases h
def ZDe(L:List (Tx×Zd))(M:List (Tx×Zo))(dn:Tx)(l:List ZN):Int:=if ZH1 L M l≠0 then ZH1 L M l else if ZFz L dn l=true then 0 else 64
theorem ZWo:Go.Ab.Enters Tryz.prog 79:=QZ 79
theorem ZiH(s t:Tx):ZK Tryz.prog 43 [.x (.str s),.x (.str t)] (.x (.int .i64 (cmpS (YL s) (YL t)))):=by
 refine ZH.pure (fC 43 true ?_) rfl;intro C0 E0;have uu:=Zz @ZNy.eq_1 @ZQt.eq_1;have tT:=aQ (aQ ZB ZLu) ZSm;refine rg [0,1] ?_;refine rg [1,5] ?_;refine rg [5,7] ?_;refine Wj ?_
 exact Wp
def Zaw:J8->J5
 | [.x (.str s),.x (.str t)]=>some (true,.x (.int .i64 (cmpS (YL s) (YL t))))
 |_=>none
theorem Zex:QK Tryz.prog Zaw 43:=by
 intro args r h;unfold Zaw at h;split at h
 .obtain rfl:=Qv h;exact(ZiH _ _)
 .cases h
def JN(l:List Tx)(s:Tx):Nat:=(l.takeWhile λa=>Op.bytesLess (YL a) (YL s)).length
theorem ZI8(l:List Tx)(s:Tx):JN l s<=l.length:=(List.takeWhile_sublist _).length_le
theorem ZOO(l:List Tx)(s:Tx)(j:Nat)(h:j<JN l s):Op.bytesLess (YL (l[j]'(ZPT h (ZI8 l s)))) (YL s)=true:=by
 have hp:(l.takeWhile λa=>Op.bytesLess (YL a) (YL s))<+:l:=List.takeWhile_prefix _;have:=Yg.1 (List.all_takeWhile (p:=λa:Tx=>Op.bytesLess (YL a) (YL s)) (l:=l)) _ (YG (h:=h));rwa [hp.getElem h]at this
theorem ZXO(l:List Tx)(s:Tx)(h:JN l s<l.length):Op.bytesLess (YL l[JN l s]) (YL s)=false:=by
 unfold JN at*
 induction l with
 |nil=>simp at h
 |cons a l ih=>
  by_cases ha:Op.bytesLess (YL a) (YL s)=true
  .simp only[List.takeWhile_cons,ha,if_true,JB]at h|-;simpa using ih J0
  .simp only[List.takeWhile_cons,ha,JV,if_false,ξN];simpa using ha
abbrev SoL(l:List Tx):Prop:=l.Pairwise λa b=>Op.bytesLess (YL a) (YL b)=true
theorem ZVi{l:List Tx}(hs:SoL l)(s:Tx)(h:Nat)(hl:h<l.length):Op.bytesLess (YL l[h]) (YL s)=true↔h<JN l s:=by
 constructor
 .intro hb;apply ZHo;intro hc;have hle:JN l s<=h:=Wl
  have hpl:JN l s<l.length:=Wl
  have hst:=ZXO l s hpl;rcases Nat.lt_or_eq_of_le hle with hlt|heq
  .have:=ZE8.1 hs _ _ hpl hl hlt;rw[bl_trans _ _ _ this hb]at hst;cases hst
  .have:l[JN l s]=l[h]:=by congr 1
   rw[this,hb]at hst;cases hst
 .intro hb;exact ZOO l s h hb
def ZV5(l:List Tx)(s:Tx):Bool:=match l[JN l s]? with
 |some a=>YL a==YL s
 |none=>false
theorem ZiZ(l:List Tx)(n:Tx)(hs:SoL l)(hl:l.length<=1000000):ZK Tryz.prog 42 [.x (.sl (rows ZC l)),.x (.str n),.fn 43 []] (.tup [.x (.int .i64 (JN l n)),.x (.bool (ZV5 l n))]):=by
 have hpl:=ZI8 l n;have hhit:ZV5 l n=match l[JN l n]? with|some a=>YL a==YL n|none=>false:=rfl
 refine ZH.pure (fC 42 true ?_) rfl;intro C0 E0;have uu:= @Zaw.eq_1;have tT:=aQ ZB Zex;refine rg [0,1,2] ?_;refine rg [0,1,2,8] ?_;refine rg [0,1,2,8,9,10] ?_;refine WI.loop (λφ os=> ∃(i j:Nat),φ= [(0,.x (.sl (rows ZC l))),(1,.x (.str n)),(2,.fn 43 []),(8,.x (.int .i64 l.length)),(9,.x (.int .i64 i)),(10,.x (.int .i64 j))]/\os= []/\i<=JN l n/\JN l n<=j/\j<=l.length) (dif) ?_ (λφ os hI=> ?_)
 .exact⟨0,l.length,rfl,rfl,J0,hpl,J0⟩
 .obtain⟨i,j,rfl,rfl,hi,hj,hjl⟩:=hI;refine rg [0,1,2,8,9,10,17] ?_;refine cd (λh0=> ?_) (λh0=> ?_)
  .refine rg [0,1,2,8,9,10,11] ?_;have hij:i<j:=Wl
   rw[ZdQ i j J0];obtain⟨M,hM⟩: ∃M,M=(i+j)/2:=⟨_,rfl⟩;rw[<-hM];have hMl:M<l.length:=Wl
   have hrw:(rows ZC l)[M]? =some [X.str (l.getD M [])]:=by simp[rows,hMl,ZC]
   have hiff:=ZVi hs n M hMl;rw[show l[M]=l.getD M [] by simp[hMl],<-ZTn]at hiff;generalize l.getD M []=x at hrw hiff;have uu:=Zz uu hrw;refine rg [0,1,2,8,9,10,11,31] ?_;refine cd (λh1=> ?_) (λh1=> ?_)
   .have hlt:M<JN l n:=hiff.1 WC;refine rg [0,1,2,8,9,10] ?_
    exact WT
   .have hlt: ¬M<JN l n:=λh=>absurd (hiff.2 h) WC
    refine rg [0,1,2,8,9,10] ?_
    exact WT
  .obtain rfl:JN l n=i:=Wl
   by_cases hk:JN l n<l.length
   .have hrw:(rows ZC l)[JN l n]? =some [X.str (l.getD (JN l n) [])]:=by simp[rows,hk,ZC]
    rw[Zx hk,show l[JN l n]=l.getD (JN l n) [] by simp[hk]]at hhit;generalize l.getD (JN l n) []=x at hrw hhit;have hd:=ZI (show((JN l n:Nat):Int)<(l.length:Int) by omega);have uu:=JJ uu hrw hd;refine rg [6,7] ?_;refine lf ?_;have hcb:(cmpS (YL x) (YL n)==0)=(YL x==YL n):=by rw[Qg];simp[ZQe]
    rw[hhit,hcb]
   .have hrw:(rows ZC l)[JN l n]? =none:=ξY (by rw[ZP];omega);rw[ξY J0]at hhit;have hd:=decide_eq_false (show ¬((JN l n:Nat):Int)<(l.length:Int) by omega);have uu:=JJ uu hrw hd;refine rg [6,7] ?_;refine lf ?_;rw[hhit]
def ZRl:J8->J5
 | [.x (.sl R),.x (.str n),.fn 43 []]=>(ZM ZC R).bind λl=>some (decide (SoL l/\l.length<=1000000),.tup [.x (.int .i64 (JN l n)),.x (.bool (ZV5 l n))])
 |_=>none
theorem ZPR:QK Tryz.prog ZRl 42:=by
 intro args r h;unfold ZRl at h;split at h
 .obtain⟨l,rfl,i0⟩:=un ZO h;obtain⟨h1,rfl⟩:=Yu i0;exact(ZiZ l _ h1.1 h1.2)
 .cases h
theorem ZXo{α:Type}{a b:List α}{i:Nat}(h:a.take i=b.take i)(ha:i<a.length)(hb:i<b.length)(he:a[i]=b[i]):a.take (i+1)=b.take (i+1):=by
 rw[List.take_add_one,List.take_add_one,h];simp[Zx ha,Zx hb,he]
theorem Zfl(a b:List (List UInt8)):ZK Tryz.prog 22 [.x (.sl (rows ZC a)),.x (.sl (rows ZC b))] (.x (.bool (decide (a=b)))):=by
 refine ZK.wf (λhw=> ?_);have ha:a.length<=maxLen:=by have:=(hw _ (ZAw)).1;rwa [ZP]at this
 have hb:b.length<=maxLen:=by have:=(hw _ (ξW _ ZAw)).1;rwa [ZP]at this
 clear hw;simp only[maxLen]at ha hb;refine ZH.pure (fC 22 true ?_) rfl;intro c E0;have uu:=trivial;have tT:=(ZB:SsOk Tryz.prog YH);refine rg [0,1] ?_;refine rg [0,1,10] ?_;refine cd (λh0=> ?_) (λh0=> ?_)
 .refine Wj ?_;rw[decide_eq_false (λe=>h0 (by rw[e]))]
 .refine rg [0,1,5] ?_;refine WI.loop (λφ os=> ∃i:Nat,φ= [(0,.x (.sl (rows ZC a))),(1,.x (.sl (rows ZC b))),(5,.x (.int .i64 i))]/\os= []/\i<=a.length/\a.take i=b.take i) (ZJ a.length 5) ?_ (λφ os hI=> ?_)
  .exact UJ
  .obtain⟨i,rfl,rfl,hi,he⟩:=hI;refine rg [0,1,5,14] ?_;refine cd (λh1=> ?_) (λh1=> ?_)
   .refine WI.dregB tT [0,1,5,25] ?_;refine Wo ?_;refine VK ?_;refine Wo ?_;refine VK ?_;refine Zm ?_;refine VJ ?_;refine cd (λh2=> ?_) (λh2=> ?_)
    .refine Wj ?_;rw[decide_eq_false (λe=>h2 (by subst e;rfl))]
    .refine rg [0,1,5] ?_;exact⟨⟨i+1,J1,rfl,J0,ZXo he J0 J0 h2⟩,Wa⟩
   .refine Wj ?_;rw[ZI];rw[YO J0,YO J0]at he;exact he
def ZH4:J8->J5
 | [.x (.sl A),.x (.sl B)]=>(ZM ZC A).bind λa=>(ZM ZC B).map λb=>(true,.x (.bool (decide (a=b))))
 |_=>none
theorem ZQS: ∀args r,ZH4 args=some (true,r)->ZK Tryz.prog 22 args r:=by
 intro args r h;unfold ZH4 at h;split at h
 .simp only[YF,Kj]at h;obtain⟨a,h1,b,h2,h3⟩:=h;cases h3;rw[<-YU ZO h1,<-YU ZO h2];exact Zfl a b
 .cases h
theorem ZYF(l:List ZN)(j:Nat)(h:j<l.length):(rows ZL l)[j]? =some [X.str (l.getD j ([],[],())).1,X.sl (rows ZC (l.getD j ([],[],())).2.1)]:=by
 simp[rows,ZL,JF,ZC,rSl,QV,h]
theorem ZTi{α:Type}{a b:List α}{j:Nat}(h1:j<a.length)(h2:j<b.length)(h:a.take j=b.take j)(d:α)(hd:a.getD j d=b.getD j d):a.take (j+1)=b.take (j+1):=by
 rw[JU h1,JU h2,h];rw[ZDx,ZDx,Zx h1,Zx h2,Qu,Qu]at hd;rw[hd]
theorem ZfS(d e:List UInt8)(a b:List ZN)(ha:a.length<=9223372036854775807)(hb:b.length<=9223372036854775807):ZK Tryz.prog 29 [.agg [.x (.str d),.x (.sl (rows ZL a))],.agg [.x (.str e),.x (.sl (rows ZL b))]] (.x (.bool (decide (d=e/\a=b)))):=by
 have hla:=ZP ZL a;have hlb:=ZP ZL b;refine ZH.pure (fC 29 true ?_) rfl;intro C0 E0;have uu:=ξ6 @D.nn.eq_1 @D.nn.eq_2 @ZH4.eq_1 @ZH4.eq_2 hla hlb;have tT:=aQ ZB (ZCx ZQS);refine rg [2,3] ?_;refine rg [2,3,19] ?_;refine cd (λh0=> ?_) (λh0=> ?_)
 .refine Wj ?_;rw[decide_eq_false (by rintro⟨rfl,rfl⟩;clear uu;simp at h0)]
 .have h0':d=e/\a.length=b.length:=Wv
  refine rg [2,3,5] ?_;refine WI.loop (λφ os=> ∃i:Nat,φ= [(2,.ptr 0 0),(3,.ptr 1 0),(5,.x (.int .i64 i))]/\os= [.box [.x (.str d),.x (.sl (rows ZL a))],.box [.x (.str e),.x (.sl (rows ZL b))]]/\i<=a.length/\a.take i=b.take i) (ZJ a.length 5) ?_ (λφ os hI=> ?_)
  .exact UJ
  .obtain⟨i,rfl,rfl,hi,he⟩:=hI;refine rg [2,3,5,24] ?_;refine cd (λh1=> ?_) (λh1=> ?_)
   .have hi4:i<a.length:=VN
    have hi5:i<b.length:=Wl
    have r1:=ZYF a i hi4;have r2:=ZYF b i hi5;have hst:=ZTi hi4 hi5 he ([],[],());have hne: ¬a.getD i ([],[],())=b.getD i ([],[],())->a≠b:=λh e=>h (by rw[e])
    generalize a.getD i ([],[],())=p at r1 hst hne;generalize b.getD i ([],[],())=q at r2 hst hne;have hup:ZM ZC (rows ZC p.2.1)=some p.2.1:=ZX ZO _;have huq:ZM ZC (rows ZC q.2.1)=some q.2.1:=ZX ZO _;have uu:=ξ5 uu r1 r2 hup huq;refine WI.dregB tT [2,3,5,55] ?_;refine Td ?_;refine Td ?_;refine Td ?_;refine Zm ?_;refine ZU ?_;refine Wt ?_;refine Zb ?_;refine Wt ?_;refine Zb ?_;refine dAC ?_
    refine Vo ?_;refine VJ ?_;refine cd (λh2=> ?_) (λh2=> ?_)
    .have hpq: ¬p=q:=by clear uu;intro e;subst e;simp at h2
     refine Wj ?_;rw[decide_eq_false (λe=>hne hpq e.2)]
    .have hpq:p.1=q.1/\p.2.1=q.2.1:=Wv
     have he2:=hst (ZCE hpq.1 (ZCE hpq.2 rfl));refine rg [2,3,5] ?_;exact⟨⟨i+1,rfl,rfl,J0,he2⟩,Wa⟩
   .refine Wj ?_;rw[YO VN,YO VN]at he;rw[ZI ⟨h0'.1,he⟩]
theorem Zf1(d e:List UInt8)(a b:List ZN):ZK Tryz.prog 29 [.agg [.x (.str d),.x (.sl (rows ZL a))],.agg [.x (.str e),.x (.sl (rows ZL b))]] (.x (.bool (decide (d=e/\a=b)))):=by
 refine ZK.wfA (λhw=> ?_);have ha:a.length<=maxLen:=by have:=(hw 0 1 _ rfl).1;rwa [ZP]at this
 have hb:b.length<=maxLen:=by have:=(hw 1 1 _ rfl).1;rwa [ZP]at this
 exact ZfS d e a b ha hb
def ZN2:J8->J5
 | [.agg [.x (.str d),.x (.sl A)],.agg [.x (.str e),.x (.sl B)]]=>(ZM ZL A).bind λa=>(ZM ZL B).map λb=>(true,.x (.bool (decide (d=e/\a=b))))
 |_=>none
theorem ZYa: ∀args r,ZN2 args=some (true,r)->ZK Tryz.prog 29 args r:=by
 intro args r h;unfold ZN2 at h;split at h
 .simp only[YF,Kj]at h;obtain⟨a,h1,b,h2,h3⟩:=h;cases h3;rw[<-YU Ze h1,<-YU Ze h2];exact Zf1 _ _ a b
 .cases h
end Go.Proofs.YtiogclkbccdefaaGreatDoor
end
section
namespace Go.Ab
open Go.RowKit Go.Bo
theorem ZTN{P:Program}{f:FuncId}(OS:J7)(id:Nat)(dk:KK)(ag:Bool)(l:W2)(ho:OS[id]? =some (.mpo dk ag l))(hraw: ∀(b:Nat) (es:Array MapEntry) (clk:Nat) (w:World),w.heap[b]? =some (.map es clk)->Calls P f #[.map (some b)] w λe w'=>e= .returned (.map (some w.heap.size))/\w'=w.alloc (.map es clk)):
  ZBm P f [.mref id] OS (λj=> .mref j) (.mpo dk ag l):=by
 intro Y jd c E vs hd R hvl;obtain⟨hsz,hv⟩:=hvl;obtain⟨v0,rfl⟩: ∃v0,vs= #[v0]:=by
  obtain⟨vl⟩:=vs
  match vl,hsz with
  | [a],_=>exact⟨a,rfl⟩
 have h0:=hv 0 _ v0 rfl rfl;have ho':(OS++Y)[id]? =some (.mpo dk ag l):=by rw[Yc (ZV ho).1];exact ho
 obtain⟨p,hp,hok⟩:=R.at ho';obtain⟨es,clk,k1,k2⟩:=YI.copied (b:=p.1) hok;cases h0 with
 |mref ho2 hk hb=>
  rw[hp]at hb;cases hb;refine(hraw _ es clk E.w k1).mono ?_;rintro e w' ⟨rfl,rfl⟩;obtain⟨E',q1,q2,q3,q4⟩:=ZTJ (dk:=dk) (ag:=ag) (l:=l) R hd es clk (λE' os' ev hw=>k2 E' os' _ ev (by rw[hw];exact heap_alloc_new _ _));exact⟨_,E',rfl,q1,q2,q3,q4⟩
def ZQu(S:Tabs)(f:FuncId)(g:J8->J7->Option (Bool×(Nat->D)×Ob)):Tabs:=⟨S.q,S.t,S.r,λf' args os=>if f'=f then g args os else S.k f' args os⟩
theorem ZRs{P:Program}{S:Tabs}(hS:SsOk P S){f:FuncId}{g:J8->J7->Option (Bool×(Nat->D)×Ob)}(he:Enters P f)(hg: ∀args os r ob,g args os=some (true,r,ob)->ZBm P f args os r ob):SsOk P (ZQu S f g):=by
 refine⟨hS.q,hS.t,hS.r,λf' args os r ob h=> ?_⟩;simp only[ZQu]at h;split at h
 .rename_i e;subst e;exact⟨he,hg _ _ _ _ h⟩
 .exact hS.k _ _ _ _ _ h
end Go.Ab
namespace Go.Proofs.YtiogclkbccdefaaGreatDoor
open Go.RowKit Go.Bo Go.Ab
def ZWc:J8->J7->Option (Bool×D×J7)
 | [.ref 0 n 0 n',.x (.int .i64 i),.ref 1 1 0 1],[.rows false e 1 rs,.rows false e' 1 [r]]=>some (decide (n=rs.length/\n'=rs.length/\0<=i/\i<=rs.length/\rs.length<=1000000/\e=9/\e'=9),.ref 0 (n+1) 0 (n+1),[.rows false e 1 (YV rs i.toNat [r]),.rows false e' 1 [r]])
 |_,_=>none
theorem ZTq: ∀args os r os',ZWc args os=some (true,r,os')->ZQ Tryz.prog 44 args os r os':=by
 intro args os r os' h;unfold ZWc at h;split at h
 .rename_i n n' i e rs e' r0;simp only[Yj,YN,Ym]at h;obtain⟨⟨rfl,rfl,h0,h1,h2,rfl,rfl⟩,rfl,rfl⟩:=h;have h:=ZXy rs r0 i.toNat J0 h2;rwa [show((i.toNat:Nat):Int)=i by omega]at h
 .cases h
theorem ZX1(r:J9):ZQ Tryz.prog 44 [.x .nils,.x (.int .i64 0),.ref 0 1 0 1] [.rows false 9 1 [r]] (.ref 1 1 0 1) [.rows false 9 1 [r],.rows false 9 1 [r]]:=by
 intro c E vs R hvl;obtain⟨E1,k1,k2,k3,k4⟩:=ZAO (fz:=false) (e:=9) (sz:=1) (rs:= []) (cu:= .slice none 0 0) (xs:= []) R (Kept.refl _ E.w) ⟨J1,.inl ⟨rfl,rfl⟩⟩ (λb hb=>by cases hb) (λr hr=>TD) (λi r j x v h=>WG);have h:=ZQ.lift ZTq [.ref 1 0 0 0,.x (.int .i64 0),.ref 0 1 0 1] [.rows false 9 1 [r],.rows false 9 1 []] (.ref 1 1 0 1) [.rows false 9 1 [r],.rows false 9 1 [r]] rfl;refine k1▸(h c E1 vs k2 ⟨hvl.1,λj d v hd hv=> ?_⟩).mono ?_
 .match j with
  |0=>cases hd;have:=V.nils (hvl.2 0 _ v rfl hv);subst this;exact k4
  |j+1=>exact(hvl.2 (j+1) d v hd hv).mono k3
 .rintro e w' ⟨v,E2,rfl,rfl,R2,e2,hv⟩;exact⟨v,E2,rfl,rfl,R2,k3.trans e2,hv⟩
def ZXV:J8->J7->Option (Bool×D×J7)
 | [.x .nils,.x (.int .i64 0),.ref 0 1 0 1],[.rows false e 1 [r]]=>some (decide (e=9),.ref 1 1 0 1,[.rows false e 1 [r],.rows false e 1 [r]])
 |a,o=>ZWc a o
theorem ZbA: ∀args os r os',ZXV args os=some (true,r,os')->ZQ Tryz.prog 44 args os r os':=by
 intro args os r os' h;unfold ZXV at h;split at h
 .simp only[Yj,YN,Ym]at h;obtain⟨rfl,rfl,rfl⟩:=h;exact ZX1 _
 .exact ZTq _ _ _ _ h
def ZWj:J8->J7->Option (Bool×D×J7)
 | [.ref 0 n 0 n',.fn 56 [.ptr 1 0]],[.rows false e 1 R,.box [.x (.str s)]]=>(ZM ZC R).map λl=>(decide (n=l.length/\n'=l.length/\e=9/\l.length<=1000000/\l≠ []),.ref 2 (KJ l s).length 0 (KJ l s).length,[.old 1 (l.length+1),.box [.x (.str s)],.rows false 9 1 (rows ZC (KJ l s))])
 |_,_=>none
theorem ZbJ: ∀args os r os',ZWj args os=some (true,r,os')->ZQ Tryz.prog 55 args os r os':=by
 intro args os r os' h;unfold ZWj at h;split at h
 .rename_i n n' e R s;obtain⟨l,h1,h⟩:=Za h;simp only[YN,Ym]at h;obtain⟨⟨rfl,rfl,rfl,h2,h3⟩,rfl,rfl⟩:=h;rw[<-YU ZO h1];exact ZYw l s h2 h3
 .cases h
def ZJ2:J8->J7->Option (Bool×D×J7)
 | [],[]=>some (true,.ptr 0 0,[.box [.mref 1,.mref 2],.mpo .str true (Jw (Zw plT)),.mpo .str true (Jo (YQ plC))])
 |_,_=>none
theorem ZQB: ∀args os r os',ZJ2 args os=some (true,r,os')->ZQ Tryz.prog 11 args os r os':=by
 intro args os r os' h;unfold ZJ2 at h;split at h
 .cases h;exact Zd8
 .cases h
def Zgs(dc:Tx):List ZN:= [([111,98,106,101,99,116,99,108,97,115,115],[[100,111,109,97,105,110]],()),([100,99],[dc],())]
theorem Zch(dn dc:Tx):ZK Tryz.prog 13 [.x (.str dn),.x (.str dc)] (.agg [.x (.str dn),.x (.sl (rows ZL (Zgs dc)))]):=evP 300 13 ZB []
def ZPL:J8->J5
 | [.x (.str dn),.x (.str dc)]=>some (true,.agg [.x (.str dn),.x (.sl (rows ZL (Zgs dc)))])
 |_=>none
theorem ZXF:QK Tryz.prog ZPL 13:=by
 intro args r h;unfold ZPL at h;split at h
 .obtain rfl:=Qv h;exact(Zch _ _)
 .cases h
def ZZi:Tabs:=ZHs (ZHs (ZHw (ZHw (ZDy (ZDy (ZDy (ZDy (ZDy (ZDy (ZHs (ZDy (YH) 13 ZPL) 11 ZJ2) 39 ZIK) 81 ZNy) 121 ZGa) 123 ZSg) 41 ZD7) 42 ZRl) 122 ZNV) 78 ZLR) 44 ZXV) 55 ZWj
theorem ZX8:SsOk Tryz.prog ZZi:=ZLI (ZLI (ZOW (ZOW (ZDF (ZDF (ZDF (ZDF (ZDF (ZDF (ZLI (ZDF (ZB) (QZ 13) ZXF) (QZ 11) ZQB) (QZ 39) ZI5) (QZ 81) ZLu) (QZ 121) ZFe) (QZ 123) ZUS) (QZ 41) ZDI) (QZ 42) ZPR) (QZ 122) ZQC) (QZ 78) ZNA) (QZ 44) ZbA) (QZ 55) ZbJ
def ZO0:J8->J7->Option (Bool×(Nat->D)×Ob)
 | [.mref id],os=>match os[id]? with
  |some (.mpo .str true l)=>some (true,λj=> .mref j,.mpo .str true l)
  |_=>none
 |_,_=>none
theorem ZW5: ∀args os r ob,ZO0 args os=some (true,r,ob)->ZBm Tryz.prog 46 args os r ob:=by
 intro args os r ob h;unfold ZO0 at h;split at h
 .split at h
  .rename_i h1;cases h;exact ZTN _ _ .str true _ h1 (λb es clk w hb=>AnyW.maps_Clone Tryz.clMap b es clk w hb)
  .cases h
 .cases h
def ZO3:J8->J7->Option (Bool×(Nat->D)×Ob)
 | [.ref id n 0 n'],os=>match os[id]? with
  |some (.rows _ _ 1 R)=>(ZM ZC R).map λl=>(decide (n=l.length/\n'=l.length/\l.length<=1000000),λj=> .ref j n 0 n,.rows false 9 1 R)
  |_=>none
 |_,_=>none
theorem ZXe: ∀args os r ob,ZO3 args os=some (true,r,ob)->ZBm Tryz.prog 47 args os r ob:=by
 intro args os r ob h;unfold ZO3 at h;split at h
 .split at h
  .rename_i h1;obtain⟨l,h2,h⟩:=Za h;simp only[YN,Ym]at h;obtain⟨⟨rfl,rfl,h3⟩,rfl,rfl⟩:=h;rw[<-YU ZO h2]at h1|-;exact ZS2 _ _ _ _ l h1 h3
  .cases h
 .cases h
def ZIH:Tabs:=ZQu (ZQu ZZi 46 ZO0) 47 ZO3
theorem ZKk:SsOk Tryz.prog ZIH:=ZRs (ZRs ZX8 (QZ 46) ZW5) ZJh ZXe
abbrev KL(P1 P2:W2)(Y:J7):J7:= .box [.ptr 1 0,.mref 4,.mref 5]:: .box [.mref 2,.mref 3]:: .mpo .str true P1:: .mpo .str true P2::Y
abbrev TB:=Tx×Nat×List Tx
def Ye(x:TB):Pr:=([.str x.1],[.ref (x.2.1+6) x.2.2.length 0 x.2.2.length])
def YP(x:TB):Tx×List Tx:=(x.1,x.2.2)
def okB(Y:J7)(B:List TB):Prop:=(B.map (·.1)).Nodup/\(B.map (·.2.1)).Nodup/\ ∀x∈B,Y[x.2.1]? =some (.rows false 9 1 (rows ZC x.2.2))/\x.2.2.length<=1000000
def cpB:Nat->List (Tx×List Tx)->W2
 |_,[]=> []
 |k,x::l=>([.str x.1],[.ref k x.2.length 0 x.2.length])::cpB (k+1) l
theorem ZRZ: ∀(l:List (Tx×List Tx)) (k:Nat) (x:Tx×List Tx),cpB k (l++ [x])=cpB k l++ [([.str x.1],[.ref (k+l.length) x.2.length 0 x.2.length])]
 | [],k,x=>rfl
 |y::l,k,x=>by rw[ξX,cpB,ZRZ l,cpB,JB,show k+1+l.length=k+(l.length+1) by omega];rfl
theorem ZVO: ∀(l:List (Tx×List Tx)) (k:Nat) (s:Tx) (v:J8),s∉l.map (·.1)->Yo (cpB k l) [.str s] v=cpB k l++ [([.str s],v)]
 | [],k,s,v,_=>rfl
 |y::l,k,s,v,h=>by
  rw[YM,Kn,not_or]at h;have hne:ZCc [X.str s] [X.str y.1]=false:=by simp[ZCc,X.keq,h.1]
  have ih:=ZVO l (k+1) s v h.2;simp only[cpB,Yo,hne,JV,if_false,ih,ξX]
theorem ZUe{α:Type}: ∀(l:List α) (i:Nat) (a:α),l[i]? =some a->(a::l.eraseIdx i).Perm l
 |b::l,0,a,h=>by cases h;exact ZJC _
 |b::l,i+1,a,h=>(List.Perm.swap b a _).trans ((ZUe l i a WJ).cons b)
theorem ZaI{α β:Type}(f:α->β): ∀(l:List α) (i:Nat),(l.map f).eraseIdx i=(l.eraseIdx i).map f
 | [],i=>rfl
 |b::l,0=>rfl
 |b::l,i+1=>by simp only[YM,Za2,ZaI f l i]
def rwB(l:List (Tx×List Tx)):J7:=l.map λx=> .rows false 9 1 (rows ZC x.2)
def cpO(P1 P2 m:W2)(Y:J7)(o:Ob)(l:List (Tx×List Tx)):J7:=KL P1 P2 (.mpo .str true m::o::(Y++ .mpo .str true m:: .mpo .str false (cpB (Y.length+10) l):: .box [.ptr 1 0,.mref (Y.length+6),.mref (Y.length+7)]:: .itr::rwB l))
theorem Zfs(l:List (Tx×List Tx))(B':List TB)(i:Nat)(b:TB)(hb:B'[i]? =some b):(l++ [YP b]++(B'.eraseIdx i).map YP).Perm (l++B'.map YP):=by
 rw[Yw];exact List.Perm.append_left l ((ZUe B' i b hb).map YP)
theorem ZVB(P1 P2 m:W2)(B:List TB)(Y:J7)(B':List TB)(l:List (Tx×List Tx))(i:Nat)(b:TB)(hb:B'[i]? =some b)(hp:(l++B'.map YP).Perm (B.map YP))(hn:(B.map (·.1)).Nodup)(OS:J7)
  (hOS:OS=cpO P1 P2 m Y (.mit .str false (B.map Ye) (Y.length+9) ((B'.map Ye).eraseIdx i) (some (Ye b))) l):
  (OS++ [Ob.rows false 9 1 (rows ZC b.2.2)]).set (Y.length+7) (.mpo .str false (Yo (cpB (Y.length+10) l) [.str b.1] [.ref (Y.length+10+l.length) b.2.2.length 0 b.2.2.length]))=cpO P1 P2 m Y (.mit .str false (B.map Ye) (Y.length+9) ((B'.eraseIdx i).map Ye) (some (Ye b))) (l++ [YP b]):=by
 have hno:b.1∉l.map (·.1):=by
  intro hin;have h1:((l++B'.map YP).map (·.1)).Nodup:=(hp.map (·.1)).nodup_iff.2 (by rw[Jz];exact hn);rw[Jd]at h1;exact(ZEx.1 h1).2.2 _ hin _ (YR.2 ⟨YP b,YR.2 ⟨b,Yz hb,rfl⟩,rfl⟩) rfl
 rw[ZVO _ _ _ _ hno,hOS];have he:(B'.map Ye).eraseIdx i=(B'.eraseIdx i).map Ye:=ZaI Ye B' i;have hs:(cpB (Y.length+10) l)++ [([X.str b.1],[D.ref (Y.length+10+l.length) b.2.2.length 0 b.2.2.length])]=cpB (Y.length+10) (l++ [YP b]):=by rw[ZRZ];rfl
 have hr:rwB (l++ [YP b])=rwB l++ [Ob.rows false 9 1 (rows ZC b.2.2)]:=by simp[rwB,YP]
 rw[hs,he];unfold cpO KL;rw[hr];simp only[ξX,ZCJ,Yw];rw[ZDS _ _ J0];simp
theorem Zif(P1 P2 m:W2)(B:List TB)(Y:J7)(B':List TB)(l:List (Tx×List Tx))(i:Nat)(b:TB)(hb:B'[i]? =some b)(φ:J4)(cur:Option Pr):ZO1 5 φ (cpO P1 P2 m Y (.mit .str false (B.map Ye) (Y.length+9) ((B'.eraseIdx i).map Ye) (some (Ye b))) (l++ [YP b]))<ZO1 5 φ (cpO P1 P2 m Y (.mit .str false (B.map Ye) (Y.length+9) (B'.map Ye) cur) l):=by
 have:=(ZV hb).1;simp only[ZO1,cpO,ZBn,ZC2,YZ,ZWt];rw[if_pos this];omega
def CpP(P1 P2 m:W2)(B:List TB)(Y:J7)(r:D)(os':J7):Prop:=
 ∃l:List (Tx×List Tx),l.Perm (B.map YP)/\r= .ptr (Y.length+8) 0/\os'=cpO P1 P2 m Y (.mpo .str false (B.map Ye)) l
set_option maxHeartbeats 4000000 in
theorem ZgA(P1 P2 m:W2)(B:List TB)(Y:J7)(hB:okB Y B):ZH Tryz.prog 19 [.ptr 0 0] (KL P1 P2 (.mpo .str true m:: .mpo .str false (B.map Ye)::Y)) (CpP P1 P2 m B Y):=by
 have hck:=ZTN (P:=Tryz.prog) (f:=46) (KL P1 P2 (.mpo .str true m:: .mpo .str false (B.map Ye)::Y)) 4 .str true m rfl (λb es clk w hb=>AnyW.maps_Clone Tryz.clMap b es clk w hb);refine fC 19 false ?_;intro C0 E0;have uu:=Qt @Zik @ZiX @ZiY @Zie;refine WI.seq ?_;refine WI.regB ZB [0] ?_;refine TF ?_;refine WI.regB ZB [0,7] ?_;refine Vm ?_;refine Ww ?_;refine WI.cond (b:=_) rfl rfl (λh0=> ?_) (λh0=> ?_)
 .exfalso;simp at h0
 .try simp only[zB]at h0
  refine Vt ?_;refine WI.dregB (ZZV ZB (QZ 46) hck) [0,3] ?_;refine UL ?_;refine UL ?_;refine dKC ?_;refine dKG ?_;refine Zm ?_;refine Qx ?_;refine ZU ?_;refine dN ?_;refine Wm ?_;refine WI.seq ?_;refine WI.regB ZB [3,24] ?_;refine Wn ?_;refine N3 ?_;refine Ww ?_;refine WI.block ?_;have hz: ∀(o:Ob) (Z:J7),Y++ [Ob.mpo .str true m]++ [Ob.mpo .str false []]++ [o]++Z=Y++(Ob.mpo .str true m::Ob.mpo .str false []::o::Z):=λo Z=>TC
  simp only[hz,Yw,ξX,QW,ZW,JB,ξN,Je,ZEq,Nat.reduceAdd];refine WI.loop (λφ os=> ∃(B':List TB) (l:List (Tx×List Tx)) (cur:Option Pr),φ= [(3,.ptr (Y.length+8) 0),(24,.iref 5 (Y.length+9))]/\os=cpO P1 P2 m Y (.mit .str false (B.map Ye) (Y.length+9) (B'.map Ye) cur) l/\(l++B'.map YP).Perm (B.map YP)/\ ∀b∈B',b∈B) (ZO1 5) ?_ (λφ os hI=> ?_)
  .exact⟨B,[],none,rfl,rfl,ZJC _,λb hb=>hb⟩
  .obtain⟨B',l,cur,rfl,rfl,hp,hm⟩:=hI;rw[cpO];refine WI.seq ?_;refine WI.nextMA [3,24,26] (λhn5=> ?_) (λi5 q5 hn5=> ?_)
   .obtain rfl:B'= []:=Zas.1 hn5;refine Wm ?_;refine WI.cond (b:=_) rfl rfl (λh1=> ?_) (λh1=> ?_)
    .exact absurd h1 WS
    .try simp only[zB]at h1
     refine WZ ?_;refine Wm ?_;refine WI.thawA 5 ?_;refine WI.regB ZB [2] ?_;refine V2 ?_
     first|refine lfR ?_|refine ZAi ?_|refine ZAT ?_|refine ZAc ?_
     exact⟨l,by rw[ZAf,Ks]at hp;exact hp,rfl,rfl⟩
   .rw[YE]at hn5;obtain⟨b,hb,rfl⟩:=Za hn5;refine Wm ?_;refine WI.cond (b:=_) rfl rfl (λh1=> ?_) (λh1=> ?_)
    .try simp only[zB]at h1
     refine Ts ?_;refine WI.block ?_;refine WI.seq ?_;refine WI.regB ZB [3,4,5,24] ?_;refine W7 ?_;refine oG ?_;refine Wn ?_;refine Ww ?_;have hbB:=hm b (Yz hb);obtain⟨hrow,hbl⟩:=hB.2.2 b hbB;have hkd:keyD .str (Ye b).fst= .x (.str b.1):=rfl;have hcd:ZFU false (Ye b).snd= .ref (b.2.1+6) b.2.2.length 0 b.2.2.length:=rfl;obtain⟨OS,hOS⟩: ∃OS,OS=cpO P1 P2 m Y (.mit .str false (B.map Ye) (Y.length+9) ((B'.map Ye).eraseIdx i5) (some (Ye b))) l:=⟨_,rfl⟩;unfold cpO KL at hOS;rw[hkd,hcd,<-hOS];have h8:OS[Y.length+8]? =some (.box [.ptr 1 0,.mref (Y.length+6),.mref (Y.length+7)]):=by rw[hOS];simp[QL]
     have hol:OS.length=Y.length+10+l.length:=by rw[hOS];simp[rwB];omega
     have h7: ∀o:Ob,(OS++ [o])[Y.length+7]? =some (.mpo .str false (cpB (Y.length+10) l)):=λo=>by rw[hOS];simp[QL]
     have hr6:OS[b.2.1+6]? =some (.rows false 9 1 (rows ZC b.2.2)):=by
      rw[hOS];show(Y++_)[b.2.1]? =_;rw[Yc (ZV hrow).1];exact hrow
     have hck:=ZS2 OS (b.2.1+6) false 9 b.2.2 hr6 hbl;have uu:=ξ6 uu h8 hol h7 hr6 (ZP ZC b.2.2);refine WI.dregB (ZZV ZB ZJh hck) [3,24] ?_
     refine UL ?_;refine Wo ?_;refine dKC ?_;refine Qx ?_;refine dN ?_;refine Nw ?_;exact⟨⟨B'.eraseIdx i5,l++ [YP b],_,rfl,ZVB P1 P2 m B Y B' l i5 b hb hp hB.1 OS hOS,(Zfs l B' i5 b hb).trans hp,λb hb=>hm b (List.mem_of_mem_eraseIdx hb)⟩,by rw[ZVB P1 P2 m B Y B' l i5 b hb hp hB.1 OS hOS];exact Zif P1 P2 m B Y B' l i5 b hb _ _⟩
    .exact absurd h1 WS
def ZGC(r0:D)(P1 P2:W2)(Y:J7)(r:D)(os':J7):Prop:=r=r0/\ ∃Z,os'=KL P1 P2 (Y++Z)/\Z.all Ob.nof=true
theorem ZdW{Y W Z:J7}{e:Ob}(hZ:Z=Y++e::W)(X:J7):Z++X=Y++e::(W++X):=by rw[hZ,Yw,ξX]
set_option maxHeartbeats 4000000 in
theorem Zak(L:List (Tx×Zd))(M:List (Tx×Zo))(Y:J7)(dn:Tx)(l:List ZN)(h:QD l):ZH Tryz.prog 79 [.ptr 0 0,.agg [.x (.str dn),.x (.sl (rows ZL l))]] (KL (Jw L) (Jo M) Y) (ZGC (.x (.bool (ZFz L dn l))) (Jw L) (Jo M) Y):=by
 obtain⟨d,hd⟩: ∃d,(YX (YL dn)).1=d:=⟨_,rfl⟩;rcases hres:ZFz L dn l with v
 unfold ZFz at hres;rw[hd]at hres;have hul:ZM ZL (rows ZL l)=some l:=ZX Ze l;have hg0:=ZFy Y;have hg1:=Zhq Y;have hg2:=ZjK Y;have hL1: ∀m:Nat,decide (1<m+1+1+1+1)=true:=λm=>ZI J0
 have hL2: ∀m:Nat,decide (2<m+1+1+1+1)=true:=λm=>ZI J0
 have hL3: ∀m:Nat,decide (3<m+1+1+1+1)=true:=λm=>ZI J0
 have hu1:=ZGD L;have hu2:=ZGB M;have hmb: ∀r∈d,JA r=true:=λr hr=>Zer (s:=YL dn) (by rw[hd];exact hr)
 refine fC 79 true ?_;intro C0 E0;have uu:=ξ9 @ZNy.eq_1 @ZGa.eq_1 @ZSg.eq_1 @ZSg.eq_2 @ZNV.eq_1 hul hd @ZCt (ξ9 @ZDE @ZDh @ZDa @ZA1 @ZAu hg0 hg1 hg2 (ξ5 hL1 hL2 hL3 hu1 hu2));have tT:=aR (aQ (aQ (aQ ZB ZLu) ZFe) ZUS) ZQC;refine rg [0,3] ?_;refine rg [0,3,5,6] ?_;refine rg [0,3,6,7] ?_;refine rg [0,3,7,30] ?_;refine cd (λh0=> ?_) (λh0=> ?_)
 .have hq: ¬(JG dn=true/\d≠ []):=by
   rintro⟨e1,e2⟩;have:=ZJs.2 e2;rw[e1]at h0;clear uu hres;grind
  have hv:v=false:=by
   rw[<-hres];rcases Classical.em (JG dn=true)with e1|e1
   .have e2:d= []:=ZHo λe=>hq ⟨e1,e⟩
    rw[e1,e2];rfl
   .rw[ZMj]at e1;rw[e1];rfl
  subst hv;refine Wj ?_;exact⟨rfl,_,rfl,rfl⟩
 .have hv:JG dn=true/\d≠ []:=by
   constructor
   .clear uu hres;grind
   .intro e;subst e;clear uu hres;grind
  obtain⟨r,d2,rfl⟩:=List.exists_cons_of_ne_nil hv.2;rw[hv.1,ZI hv.2,ZA0,ZA0,List.headD_cons]at hres;obtain⟨hr8,hr1,hpb⟩:=ZBQ (hmb r ZAw);refine rg [0,3,33,34,35] ?_;refine WI.loop (λφ os=> ∃(j:Nat) (W:J7),φ= [(0,.ptr 0 0),(3,.ptr (Y.length+1+1+1+1) 0),(33,.x (.sl (rows Zt r))),(34,.x (.int .i64 r.length)),(35,.x (.int .i64 j))]/\os=KL (Jw L) (Jo M) (Y++ .box [.x (.str dn),.x (.sl (rows ZL l))]::W)/\W.all Ob.nof=true/\j<=r.length/\(r.take j).all (ZCF L l)=true) (ZJ r.length 35) ?_ (λφ os hI=> ?_)
  .exact⟨0,[],rfl,rfl,rfl,J0,rfl⟩
  .obtain⟨j,W,rfl,rfl,hW,hj,hall⟩:=hI;obtain⟨Z,hZ⟩: ∃Z,Z=Y++ .box [.x (.str dn),.x (.sl (rows ZL l))]::W:=⟨_,rfl⟩;have hzE: ∀t:J7,(Z++t)[Y.length]? =some (.box [.x (.str dn),.x (.sl (rows ZL l))]):=λt=>by rw[hZ,Yw];exact ZFy Y _ _
   have hzN:Z[Y.length]? =some (.box [.x (.str dn),.x (.sl (rows ZL l))]):=by rw[hZ];exact ZFy Y _ _
   have hz0:=ZFy Z;have hz1:=Zhq Z;have hs0:=ZXG Z;have hs1:=Zjb Z;have hsn:=ZiM Z;have hln: ∀x:Ob,(Z++ [x]).length=Z.length+1:=λx=>TC
   have uu:=ξ9 uu hzE hzN hz0 hz1 hs0 hs1 hsn hln;rw[<-hZ];refine rg [0,3,33,34,35,36] ?_;refine cd (λh1=> ?_) (λh1=> ?_)
   .have hj4:j<r.length:=Wl
    have hrw:=ZCU r j hj4;have hg:r[j]=r.getD j ([],[]):=T3
    have hal:=Yq (ZCF L l) r j hj4;have hno:ZCF L l (r.getD j ([],[]))=false->r.all (ZCF L l)=false:=λh=>Zj (ZCF L l) r j hj4 (by rw[hg];exact h)
    have hpl:=hpb r[j] (YG hj4);rw[hg]at hal hpl;generalize r.getD j ([],[])=p at hrw hal hno hpl;have hn1:ZCF L l p=((ZF L (ZE p.1)).isSome&&ZIa l p.1 p.2 (Kb L (ZE p.1)).2.1):=rfl;have hdp:decide (p.1.length<=140737488355328)=true:=ZI J0;have hdh:decide (QD l/\p.1.length<=140737488355328)=true:=ZI ⟨h,J0⟩;have uu:=ξ5 uu hrw hdp hdh @tyD.eq_1;refine rg [0,3,10,33,34,35] ?_;refine WI.dregB tT [0,3,10,11,12,33,34,35] ?_
    refine Wo ?_;refine Td ?_;refine dQC ?_;refine Nv ?_;refine rg [0,3,33,34,35,61] ?_;refine cd (λh2=> ?_) (λh2=> ?_)
    .have hf:ZCF L l p=false:=by rw[hn1];exact GW
     rw[hno hf]at hres;subst hres;refine Wj ?_;exact⟨rfl,_,congrArg (KL _ _) (ZdW hZ _),by simp[Ob.nof,hW]⟩
    .have hf:ZCF L l p=true:=by rw[hn1];exact GW
     have hall2:(r.take (j+1)).all (ZCF L l)=true:=by rw[hal,hall,hf];rfl
     refine WI.orderA [0,3,33,34,35] ?_;refine rg [0,3,33,34,35] ?_;exact⟨⟨j+1,_,rfl,congrArg (KL _ _) (ZdW hZ _),by simp[Ob.nof,hW],J0,hall2⟩,Wa⟩
   .obtain rfl:j=r.length:=Wl
    rw[JX]at hall;rw[hall]at hres;subst hres;refine Wj ?_;exact⟨rfl,_,congrArg (KL _ _) hZ,by simp[Ob.nof,hW]⟩
set_option maxHeartbeats 4000000 in
theorem ZeI(L:List (Tx×Zd))(M:List (Tx×Zo))(Y:J7)(dn:Tx)(l:List ZN)(h:QD l)(hk:ZG1 M l):ZH Tryz.prog 40 [.ptr 0 0,.agg [.x (.str dn),.x (.sl (rows ZL l))]] (KL (Jw L) (Jo M) Y) (ZGC (.x (.int .i64 (ZDe L M dn l))) (Jw L) (Jo M) Y):=by
 rcases hres:ZDe L M dn l with v
 unfold ZDe at hres;have hul:ZM ZL (rows ZL l)=some l:=ZX Ze l;have hdk:=ZI hk;have hg0:=ZFy Y;have hL1: ∀m:Nat,decide (1<m+1+1+1+1)=true:=λm=>ZI J0
 have hL2: ∀m:Nat,decide (2<m+1+1+1+1)=true:=λm=>ZI J0
 have hL3: ∀m:Nat,decide (3<m+1+1+1+1)=true:=λm=>ZI J0
 have hu1:=ZGD L;have hu2:=ZGB M;refine fC 40 true ?_;intro C0 E0;have uu:=ξ9 @ZLR.eq_1 hul hdk @ZCt @ZDE @ZDh @ZDa @ZA1 (ξ7 @ZAu hg0 hL1 hL2 hL3 hu1 hu2);have tT:=aR ZB ZNA;refine rg [0,3] ?_;refine WI.dregB tT [0,3,5] ?_
 refine UL ?_;refine Zb ?_;refine dAC ?_;refine ZU ?_;refine dN ?_;refine rg [0,3,5,13] ?_;refine cd (λh0=> ?_) (λh0=> ?_)
 .have hc:ZH1 L M l≠0:=Vg
  rw[if_pos hc]at hres;subst hres;refine Wj ?_;exact⟨rfl,_,rfl,rfl⟩
 .have hc: ¬ZH1 L M l≠0:=Vg
  rw[if_neg hc]at hres;refine WI.cutA tT [15,16] 2 ?_;simp only[Qy,ZB6,ZEb,ZCa];refine Vm ?_;refine oP ?_;refine ZIc ?_;refine WR.callF (ZWo) (Zak L M (Y++ [.box [.x (.str dn),.x (.sl (rows ZL l))]]) dn l h) ?_;rintro _ _ ⟨rfl,Z,rfl,hZ⟩;refine WR.regB tT [18] ?_;refine oG ?_;refine Vy ?_;refine cd (λh1=> ?_) (λh1=> ?_)
  .have hc2: ¬ZFz L dn l=true:=WC
   rw[if_neg hc2]at hres;exact Nf
  .have hc2:ZFz L dn l=true:=WC
   rw[if_pos hc2]at hres;exact Nf
theorem sn0(Z:J7)(x:Ob):(Z++ [x])[Z.length]? =some x:=TC
theorem sn1(Z:J7)(x y:Ob):(Z++ [x]++ [y])[Z.length]? =some x:=by rw[Yw];exact ZFy Z x _
theorem sn2(Z:J7)(x y z:Ob):(Z++ [x]++ [y]++ [z])[Z.length]? =some x:=by rw[Yw,Yw];exact ZFy Z x _
theorem st0(Z:J7)(x y:Ob):(Z++ [x]).set Z.length y=Z++ [y]:=by rw[ZDS _ _ J0];simp
theorem st1(Z:J7)(x y z:Ob):(Z++ [x]++ [y]).set Z.length z=Z++ [z]++ [y]:=by rw[Yw,ZDS _ _ J0];simp
theorem sz1(Z W:J7)(x:Ob):(Z++ [x]++W)[Z.length]? =some x:=by rw[Yw];exact ZFy Z x _
theorem sz2(Z W:J7)(x y:Ob):(Z++ [x]++ [y]++W)[Z.length]? =some x:=by rw[Yw,Yw];exact ZFy Z x _
theorem as2(Y:J7)(a b:Ob):Y++ [a]++ [b]=Y++ [a,b]:=TC
theorem as3(Y Z:J7)(a b:Ob):Y++ [a]++ [b]++Z=Y++a::b::Z:=TC
theorem as4(Y Z:J7)(a b c:Ob):Y++ [a]++ [b]++ [c]++Z=Y++a::b::c::Z:=TC
abbrev EM:=List (Tx×Zc)
def QI(m:EM):W2:=Yv Km Zn.enc m
theorem ZKo(m:EM)(k:Tx):Ju (QI m) [X.str k]=(ZF m k).map λe=> [.x (.str e.1),.x (.sl (rows ZL e.2.1))]:=by
 unfold QI;rw[ZE5 Km Zn.enc hkS m k];rfl
theorem Zhr(m:EM)(k:Tx)(e:Zc):Yo (QI m) [X.str k] [.x (.str e.1),.x (.sl (rows ZL e.2.1))]=QI (Zu m k e):=ZDq Km Zn.enc hkS m k e
theorem Zhh(m:EM)(k:Tx):ZCH (QI m) [X.str k]=QI (Zh m k):=ZcX Km Zn.enc hkS m k
theorem ZY2(m:EM):(QI m).length=m.length:=ZJP _ _ _
theorem ZSI(s t:Tx):ZCc [X.str s] [X.str t]=decide (s=t):=hkS s t
theorem ZOK(B:List TB)(s:Tx):Ju (B.map Ye) [X.str s]=(ZF B s).map λx=> [.ref (x.1+6) x.2.length 0 x.2.length]:=by
 induction B with
 |nil=>rfl
 |cons p B ih=>
  simp only[YM,Ye,Ju,ZSI]at ih|-;by_cases h:s=p.1
  .simp[ZF,h]
  .simp only[h,decide_false,JV,if_false];rw[ih];simp[ZF,h]
theorem ZRB(B:List TB)(s:Tx)(i:Nat)(l:List Tx):Yo (B.map Ye) [X.str s] [.ref (i+6) l.length 0 l.length]=(Zu B s (i,l)).map Ye:=by
 induction B with
 |nil=>rfl
 |cons p B ih=>
  simp only[YM,Ye,Yo,Zu,ZSI]at ih|-;by_cases h:s=p.1
  .simp[h,Ye]
  .simp only[h,decide_false,JV,if_false];rw[ih];simp[Ye]
theorem Zg3(B:List TB)(s:Tx):ZCH (B.map Ye) [X.str s]=(Zh B s).map Ye:=by
 induction B with
 |nil=>rfl
 |cons p B ih=>
  simp only[YM,Ye,ZCH,Zh,ZSI]at ih|-;by_cases h:s=p.1
  .simp[h]
  .simp only[h,decide_false,JV,if_false];rw[ih];simp[Ye]
def ZHt(m:EM)(n:Tx):Zc:=match ZF m n with
 |some e=>(e.1,Zg e.2.1,())
 |none=>([],[],())
def ZiD(m:EM):Prop:= ∀n e,ZF m n=some e->QD e.2.1
theorem ZiN(P1 P2:W2)(m:EM)(o:Ob)(Y:J7)(n:Tx)(hm:ZiD m):ZH Tryz.prog 28 [.ptr 0 0,.x (.str n)] (KL P1 P2 (.mpo .str true (QI m)::o::Y)) (ZGC (.tup [.agg [.x (.str (ZHt m n).1),.x (.sl (rows ZL (ZHt m n).2.1))],.x (.bool (ZF m n).isSome)]) P1 P2 (.mpo .str true (QI m)::o::Y)):=by
 have hg:=ZKo m n;have hs:=hm n;unfold ZHt;rcases hl:ZF m n with _|⟨dn,l,u⟩
 .rw[hl,ZAC]at hg;refine fC 28 true ?_;intro C0 E0;have uu:=ξ7 @ZD7.eq_1 @sn0 @sn1 @sn2 @st0 @st1 hg;have tT:=aQ ZB (ZCx ZDI);refine rg [0,1,4] ?_;refine rg [0,1,4,9] ?_;refine ce (λh0=> ?_) (λh0=> ?_)
  .simp at h0
  .exact Ge
 .rw[hl,Yr]at hg;have hdm:=ZI (show l.length<=100/\(∀a∈l,a.1.length<=1000000)/\ ∀a∈l,a.2.1.length<=400 from hs _ hl);have hul:ZM ZL (rows ZL l)=some l:=ZX Ze l;refine fC 28 true ?_;intro C0 E0;have uu:=ξ9 @ZD7.eq_1 @sn0 @sn1 @sn2 @st0 @st1 hg hul hdm;have tT:=aQ ZB (ZCx ZDI);refine rg [0,1,4] ?_;refine rg [0,1,4,9] ?_;refine ce (λh0=> ?_) (λh0=> ?_)
  .simp at h0
  .exact Ge
theorem ZiQ(P1 P2:W2)(m:EM)(o:Ob)(Y:J7):ZH Tryz.prog 14 [.ptr 0 0] (KL P1 P2 (.mpo .str true (QI m)::o::Y)) (ZGC (.x (.int .i64 m.length)) P1 P2 (.mpo .str true (QI m)::o::Y)):=by
 have hl:=ZY2 m;refine fC 14 true ?_;intro C0 E0;have uu:=hl;have tT:=(ZB:SsOk Tryz.prog YH);refine rg [0] ?_;refine rg [0,4] ?_;refine ce (λh0=> ?_) (λh0=> ?_)
 .simp at h0
 .refine Wy ?_;exact⟨rfl,[],J1,rfl⟩
def ZAj(c:Int)(m:EM)(dn:Tx)(l:List ZN):EM:=if c=0 then Zu m dn (dn,Zg l,())else m
def YJ(B:List (Tx×List Tx))(n:Tx):List Tx:=(ZF B n).getD []
def JO(B:List (Tx×List Tx)):Nat->Tx->List Tx
 |0,_=> []
 |k+1,n=>(YJ B n).flatMap λs=>s::JO B k s
def deep(B:List (Tx×List Tx)):Nat->Tx->Prop
 |0,n=>YJ B n= []
 |k+1,n=> ∀s∈YJ B n,deep B k s
theorem ZG7{Y:J7}{B:List TB}(h:okB Y B)(Z:J7):okB (Y++Z) B:=
 ⟨h.1,h.2.1,λx hx=>⟨by rw[Yc (ZV (h.2.2 x hx).1).1];exact(h.2.2 x hx).1,(h.2.2 x hx).2⟩⟩
theorem ZFE(B:List TB)(s:Tx):ZF (B.map YP) s=(ZF B s).map (·.2):=by
 induction B with
 |nil=>rfl
 |cons p B ih=>
  by_cases h:s=p.1
  .simp[ZF,h,YP]
  .have e1:ZF (YP p::B.map YP) s=ZF (B.map YP) s:=by simp[ZF,YP,h]
   have e2:ZF (p::B) s=ZF B s:=by simp[ZF,h]
   rw[YM,e1,e2];exact ih
theorem ra0(Y W V:J7)(R:Ob):(Y++R::W++V)[Y.length]? =some R:=by rw[Yw,ξX];exact ZFy Y R _
theorem ra1(Y W V U:J7)(R:Ob):(Y++R::W++V++U)[Y.length]? =some R:=by rw[Yw,Yw,ξX];exact ZFy Y R _
theorem rs0(Y W V:J7)(R R':Ob):(Y++R::W++V).set Y.length R'=Y++R'::W++V:=by rw[Yw,ξX,ZXG];simp
theorem rs1(Y W V U:J7)(R R':Ob):(Y++R::W++V++U).set Y.length R'=Y++R'::W++V++U:=by rw[Yw,Yw,ξX,ZXG];simp
theorem ZZt{f:Tx->List Tx}(row:List Tx)(j:Nat)(h:j<row.length):(row.take (j+1)).flatMap (λs=>s::f s)=(row.take j).flatMap (λs=>s::f s)++row.getD j []::f (row.getD j []):=by
 rw[JU h,ZcJ];simp[h]
theorem Zd0{α β:Type}(f:α->List β)(l:List α)(j:Nat):((l.take j).flatMap f).length<=(l.flatMap f).length:=by
 conv=>rhs;rw[<-ZBx j l,ZcJ,ZW]
 omega
theorem Zig(P1 P2:W2)(o b:Ob)(Y W Z:J7)(acc:List Tx)(s:Tx)(w:List Tx)(x:Ob):KL P1 P2 (o::b::(Y++ .rows false 9 1 (rows ZC acc++ [[.str s]]++rows ZC w)::W++ [x]++Z))=KL P1 P2 (o::b::(Y++ .rows false 9 1 (rows ZC (acc++s::w))::(W++x::Z))):=by
 have h:rows ZC acc++ [[X.str s]]++rows ZC w=rows ZC (acc++s::w):=Gd
 rw[h];simp
set_option maxHeartbeats 4000000 in
theorem ZSZ(P1 P2:W2)(o:Ob)(Bt:List TB)(f:Tx->List Tx)(n:Tx)(Y:J7)(row:List Tx)(hB:okB Y Bt)(hrow:YJ (Bt.map YP) n=row)
  (hih: ∀s∈row,∀Y,okB Y Bt->(f s).length<=1000000->ZH Tryz.prog 52 [.ptr 0 0,.x (.str s)] (KL P1 P2 (o:: .mpo .str false (Bt.map Ye)::Y)) (ZGC (.x (.sl (rows ZC (f s)))) P1 P2 (o:: .mpo .str false (Bt.map Ye)::Y)))
  (hl:(row.flatMap λs=>s::f s).length<=1000000):ZH Tryz.prog 52 [.ptr 0 0,.x (.str n)] (KL P1 P2 (o:: .mpo .str false (Bt.map Ye)::Y)) (ZGC (.x (.sl (rows ZC (row.flatMap λs=>s::f s)))) P1 P2 (o:: .mpo .str false (Bt.map Ye)::Y)):=by
 have hg:=ZOK Bt n;unfold YJ at hrow;rw[ZFE]at hrow;rcases hm:ZF Bt n with _|⟨i,row'⟩
 .rw[hm]at hg hrow;subst hrow;rw[ZAC]at hg;refine fC 52 true ?_;intro C0 E0;have uu:=hg;have tT:=(ZB:SsOk Tryz.prog YH);refine VO ?_;refine rg [0,5,13,14,15] ?_;refine WI.loopN 1 ?_;refine WI.round ?_;refine rg [0,5,13,14,15,16] ?_;refine ce (λh0=> ?_) (λh0=> ?_)
  .exact UP
  .refine rg [4] ?_;refine WI.nn0A ?_;refine lf ?_;exact⟨rfl,[],J1,rfl⟩
 .rw[hm]at hg hrow;rw[Yr]at hg;obtain rfl:row'=row:=hrow;obtain⟨hY,hrl⟩:=hB.2.2 _ (JS hm);simp only at hY hrl;have hrY: ∀W:J7,(Y++W)[i]? =some (.rows false 9 1 (rows ZC row')):=λW=>by
   rw[Yc (ZV hY).1];exact hY
  have hrn:=ZP ZC row';have htl:(rows ZC row').take row'.length=rows ZC row':=by rw[<-hrn,JX]
  refine fC 52 true ?_;intro C0 E0;have uu:=ξ5 hg hY hrY hrn htl;have tT:=(ZB:SsOk Tryz.prog YH);refine VO ?_;refine rg [0,5,13,14,15] ?_;refine WI.ownA 5 9 1 ?_;refine WI.orderA [0,5,13,14,15] ?_;obtain⟨XS,hX⟩: ∃XS,XS=row'.flatMap (λs=>s::f s):=⟨_,rfl⟩;rw[<-hX]at hl|-;refine WI.loop (λφ os=> ∃(j:Nat) (acc:List Tx) (W:J7),φ= [(0,.ptr 0 0),(5,.ref (Y.length+1+1+1+1+1+1) acc.length 0 acc.length),(13,.ref (i+6) row'.length 0 row'.length),(14,.x (.int .i64 row'.length)),(15,.x (.int .i64 j))]/\os=KL P1 P2 (o:: .mpo .str false (Bt.map Ye)::(Y++ .rows false 9 1 (rows ZC acc)::W))/\W.all Ob.nof=true/\j<=row'.length/\acc=(row'.take j).flatMap (λs=>s::f s)) (ZJ row'.length 15) ?_ (λφ os hI=> ?_)
  .exact⟨0,[],[],rfl,rfl,rfl,J0,rfl⟩
  .obtain⟨j,acc,W,rfl,rfl,hW,hj,hacc⟩:=hI;have hra:=ra0 Y W;have hra1:=ra1 Y W;have hrs:=rs0 Y W;have hrs1:=rs1 Y W;have uu:=ξ7 uu hra hra1 hrs hrs1 sn0 (ZFy Y);refine rg [0,5,13,14,15,16] ?_;refine cd (λh0=> ?_) (λh0=> ?_)
   .have hj4:j<row'.length:=Wl
    have hrw:(rows ZC row')[j]? =some [X.str (row'.getD j [])]:=by simp[rows,hj4,ZC]
    have hst:=ZZt (f:=f) row' j hj4;have hle:=Zd0 (λs=>s::f s) row' (j+1);rw[hst,<-hacc,<-hX,ZW,JB]at hle;have hds:=hih (row'.getD j []) (by rw[show row'.getD j []=row'[j] by simp[hj4]];exact YG hj4);generalize row'.getD j []=s at hrw hst hle hds;have hta:(rows ZC acc).take acc.length=rows ZC acc:=by rw[<-ZP ZC acc,JX]
    have uu:=Qt uu hrw hta (ZP ZC acc);refine rg [0,5,7,13,14,15] ?_;refine WI.cutA tT [0,13,14,15,22,23,24] 6 ?_;simp only[Qy,ZB6,ZEb,ZCa]
    refine GB ?_;refine Wn ?_;refine oP ?_;refine ZIc ?_;refine WR.callF ((QZ 52)) (hds (Y++ .rows false 9 1 (rows ZC acc++ [[.str s]])::W++ [.rows false 9 1 [[.str s]]]) (by rw[Yw];exact ZG7 hB _) J0) ?_;rintro _ _ ⟨rfl,Z,rfl,hZ⟩;refine WR.regB tT [0,5,13,14,15] ?_;refine oG ?_;refine Wf ?_;refine WI.orderA [0,5,13,14,15] ?_;have hla:(acc++s::f s).length=acc.length+1+(f s).length:=W3
    refine rg [0,5,13,14,15] ?_;exact⟨⟨j+1,acc++s::f s,W++_::Z,by rw[hla];rfl,Zig P1 P2 o _ Y W Z acc s _ _,by simp[Ob.nof,hW,hZ],J0,by rw[hst,<-hacc]⟩,Wa⟩
   .obtain rfl:j=row'.length:=Wl
    rw[JX,<-hX]at hacc;subst hacc;have hta:(rows ZC acc).take acc.length=rows ZC acc:=by rw[<-ZP ZC acc,JX]
    have uu:=JJ uu hta (ZP ZC acc);refine Wj ?_;exact⟨rfl,.frz 1 (rows ZC acc)::W,congrArg (λz=>KL P1 P2 (_::_::z)) (ZXG Y _ _ W),by simp[Ob.nof,hW]⟩
theorem ZTT(P1 P2:W2)(o:Ob)(Bt:List TB): ∀(k:Nat) (n:Tx) (Y:J7) (hB:okB Y Bt) (hd:deep (Bt.map YP) k n) (hl:(JO (Bt.map YP) k n).length<=1000000),
  ZH Tryz.prog 52 [.ptr 0 0,.x (.str n)] (KL P1 P2 (o:: .mpo .str false (Bt.map Ye)::Y)) (ZGC (.x (.sl (rows ZC (JO (Bt.map YP) k n)))) P1 P2 (o:: .mpo .str false (Bt.map Ye)::Y))
 |0,n,Y,hB,hd,_=>ZSZ P1 P2 o Bt (λ_=> []) n Y [] hB hd (λs h=>W6) WS
 |k+1,n,Y,hB,hd,hl=>ZSZ P1 P2 o Bt (JO (Bt.map YP) k) n Y _ hB rfl (λs hs Y hB hl=>ZTT P1 P2 o Bt k s Y hB (hd s hs) hl) hl
theorem sy1(Z W:J7)(x y:Ob):(Z++ [x]++W).set Z.length y=Z++ [y]++W:=by rw[Yw,ZDS _ _ J0];simp
def ZXn(m:EM)(B:List (Tx×List Tx))(k:Nat)(n:Tx):List Tx:=if n= []then JO B k []else if(ZF m n).isSome then n::JO B k n else []
set_option maxHeartbeats 4000000 in
theorem Zen(P1 P2:W2)(m:EM)(Bt:List TB)(k:Nat)(n:Tx)(Y:J7)(hB:okB Y Bt)(hd:deep (Bt.map YP) k n)(hl:(JO (Bt.map YP) k n).length<=999999):
  ZH Tryz.prog 23 [.ptr 0 0,.x (.str n)] (KL P1 P2 (.mpo .str true (QI m):: .mpo .str false (Bt.map Ye)::Y)) (ZGC (.x (.sl (rows ZC (ZXn m (Bt.map YP) k n)))) P1 P2 (.mpo .str true (QI m):: .mpo .str false (Bt.map Ye)::Y)):=by
 have hg:=ZKo m n;unfold ZXn;by_cases hn:n= []
 .subst hn;rw[if_pos rfl];refine fC 23 true ?_;intro C0 E0;have uu:=trivial;have tT:=(ZB:SsOk Tryz.prog YH);refine rg [0,1] ?_;refine rg [0,1,8] ?_;refine ce (λh0=> ?_) (λh0=> ?_)
  .simp at h0
  .refine rg [0,1,10] ?_;refine ct (λh1=> ?_) (λh1=> ?_)
   .refine WI.cutA tT [11] 1 ?_;simp only[Qy,ZB6,ZEb,ZCa];refine Nu ?_;refine ZIc ?_;refine WR.callF ((QZ 52)) (ZTT P1 P2 _ Bt k [] Y hB hd J0) ?_;rintro _ _ ⟨rfl,Z,rfl,hZ⟩;refine WR.regB tT [4] ?_;refine Uo ?_;exact⟨rfl,Z,rfl,hZ⟩
   .simp at h1
 .rw[if_neg hn];rcases hm:ZF m n with _|⟨dn,l,u⟩
  .rw[hm,ZAC]at hg;rw[if_neg J1];refine fC 23 true ?_;intro C0 E0;have uu:=JJ hg @sn0 @st0;have tT:=(ZB:SsOk Tryz.prog YH);refine rg [0,1] ?_;refine rg [0,1,8] ?_;refine ce (λh0=> ?_) (λh0=> ?_)
   .simp at h0
   .refine rg [0,1,10] ?_;refine ce (λh1=> ?_) (λh1=> ?_)
    .exact hn WC
    .refine rg [0,1,6] ?_;refine rg [0,1,23] ?_;refine ct (λh2=> ?_) (λh2=> ?_)
     .refine rg [4] ?_;refine WI.nn0A ?_;refine lf ?_;exact⟨rfl,[_],rfl,rfl⟩
     .simp at h2
  .rw[hm,Yr]at hg;rw[if_pos J1];have hwl:=ZP ZC (JO (Bt.map YP) k n);have hwt:(rows ZC (n::JO (Bt.map YP) k n)).take (1+(JO (Bt.map YP) k n).length)=rows ZC (n::JO (Bt.map YP) k n):=YO (by rw[ZP,JB];omega);refine fC 23 true ?_;intro C0 E0;have uu:=ξ6 hg @sn0 @st0 @sz1 @sy1 hwl;have tT:=(ZB:SsOk Tryz.prog YH);refine rg [0,1] ?_;refine rg [0,1,8] ?_;refine ce (λh0=> ?_) (λh0=> ?_)
   .simp at h0
   .refine rg [0,1,10] ?_;refine ce (λh1=> ?_) (λh1=> ?_)
    .exact hn WC
    .refine rg [0,1,6] ?_;refine rg [0,1,23] ?_;refine ce (λh2=> ?_) (λh2=> ?_)
     .simp at h2
     .refine WI.cutA tT [25,26,27] 4 ?_;simp only[Qy,ZB6,ZEb,ZCa];refine Vm ?_
      refine Wn ?_;refine oP ?_;refine ZIc ?_;refine WR.callF ((QZ 52)) (ZTT P1 P2 _ Bt k n (Y++ [.box [.x (.str dn),.x (.sl (rows ZL l))]]++ [.rows false 9 1 [[.str n]]]) (by rw[Yw];exact ZG7 hB _) hd J0) ?_;rintro _ _ ⟨rfl,Z,rfl,hZ⟩;refine WR.regB tT [4] ?_;refine oG ?_;refine Wf ?_;obtain⟨Z0,hZ0⟩: ∃Z0,Z0=Y++ [Ob.box [.x (.str dn),.x (.sl (rows ZL l))]]:=⟨_,rfl⟩;have hR: [X.str n]::rows ZC (JO (Bt.map YP) k n)=rows ZC (n::JO (Bt.map YP) k n):=rfl;rw[<-hZ0,hR];have hl1:(rows ZC (n::JO (Bt.map YP) k n)).length=1+(JO (Bt.map YP) k n).length:=by rw[ZP,JB];omega
      generalize rows ZC (n::JO (Bt.map YP) k n)=R at hwt hl1|-;have uu:=JJ uu hwt hl1;refine lf ?_;exact⟨rfl,_,by rw[hZ0];exact congrArg (λz=>KL P1 P2 (_::_::z)) (as3 Y Z _ _),by simp[Ob.nof,hZ]⟩
theorem Zfp(P1 P2:W2)(m:EM)(Bt:List TB)(k:Nat)(Y:J7)(hB:okB Y Bt)(hd:deep (Bt.map YP) k [])(hl:(JO (Bt.map YP) k []).length<=999999):
  ZH Tryz.prog 15 [.ptr 0 0] (KL P1 P2 (.mpo .str true (QI m):: .mpo .str false (Bt.map Ye)::Y)) (ZGC (.x (.sl (rows ZC (JO (Bt.map YP) k [])))) P1 P2 (.mpo .str true (QI m):: .mpo .str false (Bt.map Ye)::Y)):=by
 refine fC 15 true ?_;intro C0 E0;have uu:=trivial;have tT:=(ZB:SsOk Tryz.prog YH);refine rg [0] ?_;refine WI.cutA tT [3] 1 ?_;simp only[Qy,ZB6,ZEb,ZCa];refine Nu ?_;refine ZIc ?_;refine WR.callF ((QZ 23)) (Zen P1 P2 m Bt k [] Y hB hd hl) ?_;rintro _ _ ⟨rfl,Z,rfl,hZ⟩;refine WR.regB tT [2] ?_;refine Uo ?_;exact⟨rfl,Z,rfl,hZ⟩
def ZIk(r0:D)(m:EM)(B:List (Tx×List Tx))(P1 P2:W2)(r:D)(os':J7):Prop:=r=r0/\ ∃(Bt:List TB) (Y:J7),(Bt.map YP).Perm B/\okB Y Bt/\Y.all Ob.nof=true/\os'=KL P1 P2 (.mpo .str true (QI m):: .mpo .str false (Bt.map Ye)::Y)
def Kf(L:List (Tx×Zd))(M:List (Tx×Zo))(m:EM)(dn:Tx)(l:List ZN):Int:=
 if JG dn=false then 34 else if(ZF m dn).isSome=true then 68 else if(ZF m (YB dn)).isSome=false/\YB dn≠ []then 32 else if ZDe L M dn l≠0 then ZDe L M dn l else if 1024<=m.length then 80 else 0
def ZFM(l:List Tx)(s:Tx):List Tx:=l.take (JN l s)++s::l.drop (JN l s)
def QT(c:Int)(B:List (Tx×List Tx))(dn:Tx):List (Tx×List Tx):=if c=0 then Zu B (YB dn) (ZFM (YJ B (YB dn)) dn)else B
theorem ZGt{v:Int}(hv:v≠0)(m:EM)(Bt:List TB)(P1 P2:W2)(Y:J7)(dn:Tx)(l:List ZN)(hB:okB Y Bt)(hY:Y.all Ob.nof=true)(X:J7)(hX:X.all Ob.nof=true):
  ZIk (.x (.int .i64 v)) (ZAj v m dn l) (QT v (Bt.map YP) dn) P1 P2 (.x (.int .i64 v)) (KL P1 P2 (.mpo .str true (QI m):: .mpo .str false (Bt.map Ye)::(Y++X))):=by
 unfold ZAj QT;exact N5
theorem ZAK: ∀(n:Nat) (a b:J7),(∀(id:Nat) (ds:J8),a[id]? =some (.box ds)->b[id]? =some (.box ds))->a.length<=b.length->Jc [] n a b=true
 |_,[],_,_,_=>rfl
 |_,x::a,[],_,h=>WG
 |n,x::a,y::b,h,hl=>by
  have ih:=ZAK (n+1) a b (λid ds hid=>by simpa using h (id+1) ds (by simpa using hid)) Us;cases x with
  |box ds=>
   have h0:=h 0 ds rfl;simp only[ZC2,Yj]at h0;subst h0;simp only[Jc,Zi,Ob.beq_refl,ih,ZEv,ZOb]
  |_=>simpa only[Jc]using ih
theorem ZQ.atR{P:Program}{f:FuncId}{ρ:W0}{args:J8}{OS:J7}{r:D}{os':J7}(hok:Kx ρ args OS=true)(h:ZQ P f (YA (inv ρ) args) (Yb ρ OS) r os')(hl:ρ.length<=os'.length):ZQ P f args OS (r.ren (KH ρ OS.length os'.length)) (KS ρ OS os'):=by
 have hf:ZH P f (YA (inv ρ) args) (Yb ρ OS) (λr' os2=>r'=r/\os2=os'):=by
  intro c E vs R hvl;refine(h c E vs R hvl).mono ?_;exact Ny
 refine ZH.mcalls (λc E vs R hvl=>((ZH.lift hok hf (λr os' ⟨_,h⟩=>by rw[h];exact hl)) c E vs R hvl).mono ?_);exact TG
theorem ZPF(B:List TB)(s:Tx)(i:Nat)(l:List Tx):(Zu B s (i,l)).map YP=Zu (B.map YP) s l:=by
 induction B with
 |nil=>rfl
 |cons p B ih=>
  by_cases h:s=p.1
  .have e1:Zu (p::B) s (i,l)=(s,(i,l))::B:=by simp[Zu,h]
   have e2:Zu (YP p::B.map YP) s l=(s,l)::B.map YP:=by simp[Zu,YP,h]
   rw[e1,YM,YM,e2];rfl
  .have e1:Zu (p::B) s (i,l)=p::Zu B s (i,l):=by simp[Zu,h]
   have e2:Zu (YP p::B.map YP) s l=YP p::Zu (B.map YP) s l:=by simp[Zu,YP,h]
   rw[e1,YM,YM,e2,ih]
theorem ZeY{κ β:Type}[DecidableEq κ]{A:List (κ×β)}{c:κ}(h:ZF A c=none):c∉A.map (·.1):=by
 intro hc;obtain⟨p,hp,rfl⟩:=YR.1 hc;unfold ZF at h;rw[Option.map_eq_none_iff,List.find?_eq_none]at h;exact h p hp J1
theorem Zei{Y:J7}{B:List TB}(h:okB Y B)(W:J7)(s:Tx)(l:List Tx)(hs:ZF B s=none)(hl:l.length<=1000000)(Z:J7):okB (Y++W++Ob.rows false 9 1 (rows ZC l)::Z) (Zu B s ((Y++W).length,l)):=by
 rw[ZBR hs];have hlt: ∀x∈B,x.2.1<Y.length:=λx hx=>(ZV (h.2.2 x hx).1).1
 refine⟨?_,?_,λx hx=> ?_⟩
 .rw[Jd,ZEx];exact⟨h.1,J1,λa ha b hb e=>ZeY hs (by simp at hb;subst hb;rw[<-e];exact ha)⟩
 .rw[Jd,ZEx];refine⟨h.2.1,J1,λa ha b hb e=> ?_⟩;obtain⟨x,hx,rfl⟩:=YR.1 ha;have:=hlt x hx;simp at hb;omega
 .rcases KV.1 hx with hx|hx
  .refine⟨?_,(h.2.2 x hx).2⟩;rw[Yw,Yc (hlt x hx)];exact(h.2.2 x hx).1
  .simp only[Qf]at hx;subst hx;exact⟨J1,hl⟩
theorem ZfI{Y:J7}{B:List TB}(h:okB Y B)(s:Tx)(i:Nat)(l0 l:List Tx)(hs:ZF B s=some (i,l0))(hl:l.length<=1000000)(W:J7):okB (Y.set i (.rows false 9 1 (rows ZC l))++W) (Zu B s (i,l)):=by
 have hp:=ZKO hs;have hq:=ZBz B s (i,l);have hm:=JS hs;have hi:=(ZV (h.2.2 _ hm).1).1;have n1:((s,(i,l0))::Zh B s).map (·.1)=((s,(i,l))::Zh B s).map (·.1):=rfl;have n2:((s,(i,l0))::Zh B s).map (·.2.1)=((s,(i,l))::Zh B s).map (·.2.1):=rfl;have m1:=(hp.map (·.1)).nodup_iff.1 h.1;have m2:=(hp.map (·.2.1)).nodup_iff.1 h.2.1;refine⟨(hq.map (·.1)).nodup_iff.2 (n1▸m1),(hq.map (·.2.1)).nodup_iff.2 (n2▸m2),λx hx=> ?_⟩;rcases Kn.1 (hq.mem_iff.1 hx)with rfl|hx
 .exact⟨by rw[Yc U8];simp[hi],hl⟩
 .have hxB:x∈B:=hp.mem_iff.2 (ξW _ hx);have hx2:=h.2.2 x hxB;have hxl:=(ZV hx2.1).1;refine⟨?_,hx2.2⟩;have hne:i≠x.2.1:=λe=>by
   rw[YM,ZBE]at m2;exact m2.1 (YR.2 ⟨x,hx,e.symm⟩)
  rw[Yc (by simpa using hxl),ZAX hne];exact hx2.1
theorem ZZ0(m:EM)(Bt:List TB)(P1 P2:W2)(Y U:J7)(dn:Tx)(l:List ZN)(hB:okB Y Bt)(hY:Y.all Ob.nof=true)(hU:U.all Ob.nof=true)(hs:ZF Bt (YB dn)=none)(OS:J7)(hOS:OS=KL P1 P2 (.mpo .str true (QI (Zu m dn (dn,Zg l,()))):: .mpo .str false (Bt.map Ye)::(Y++U)))(o:Ob)(ho:o.nof=true):
  ZIk (.x (.int .i64 0)) (ZAj 0 m dn l) (QT 0 (Bt.map YP) dn) P1 P2 (.x (.int .i64 0)) ((OS++ [o]++ [Ob.rows false 9 1 [[.str dn]]]).set 5 (.mpo .str false (Yo (Bt.map Ye) [.str (YB dn)] [.ref (OS.length+1) 1 0 1]))):=by
 have hol:OS.length+1=(Y++(U++ [o])).length+6:=by rw[hOS];simp[KL];omega
 refine⟨rfl,Zu Bt (YB dn) ((Y++(U++ [o])).length,[dn]),Y++(U++ [o])++ [Ob.rows false 9 1 (rows ZC [dn])],?_,Zei hB _ _ _ hs J1 _,?_,?_⟩
 .rw[ZPF,QT,if_pos rfl];have:YJ (Bt.map YP) (YB dn)= []:=by unfold YJ;rw[ZFE,hs];rfl
  rw[this];exact ZJC _
 .simp only[ZJF,ZAL,ZFG,hY,hU,ho];rfl
 .rw[hol,show([D.ref ((Y++(U++ [o])).length+6) 1 0 1])= [.ref ((Y++(U++ [o])).length+6) [dn].length 0 [dn].length]from rfl,ZRB,hOS,ZAj,if_pos rfl];simp[KL,rows,ZC]
theorem ZaR(m:EM)(Bt:List TB)(P1 P2:W2)(Y U:J7)(dn:Tx)(l:List ZN)(hB:okB Y Bt)(hY:Y.all Ob.nof=true)(hU:U.all Ob.nof=true)(i:Nat)(row:List Tx)(hs:ZF Bt (YB dn)=some (i,row))(hl:row.length<=999999)(OS:J7)(hOS:OS=KL P1 P2 (.mpo .str true (QI (Zu m dn (dn,Zg l,()))):: .mpo .str false (Bt.map Ye)::(Y++U)))(o:Ob)(ho:o.nof=true):
  ZIk (.x (.int .i64 0)) (ZAj 0 m dn l) (QT 0 (Bt.map YP) dn) P1 P2 (.x (.int .i64 0)) (((OS++ [o]).set (i+6) (.rows false 9 1 (rows ZC (ZFM row dn)))).set 5 (.mpo .str false (Yo (Bt.map Ye) [.str (YB dn)] [.ref (i+6) (row.length+1) 0 (row.length+1)]))):=by
 have hil:(ZFM row dn).length=row.length+1:=by
  have:=ZI8 row dn;unfold ZFM;simp;omega
 have hi:=(ZV (hB.2.2 _ (JS hs)).1).1;simp only at hi;refine⟨rfl,Zu Bt (YB dn) (i,ZFM row dn),Y.set i (.rows false 9 1 (rows ZC (ZFM row dn)))++(U++ [o]),?_,ZfI hB _ _ row _ hs J0 _,?_,?_⟩
 .rw[ZPF,QT,if_pos rfl];have:YJ (Bt.map YP) (YB dn)=row:=by unfold YJ;rw[ZFE,hs];rfl
  rw[this]
 .simp only[ZJF,ZAL,ZFG,hU,ho,Qh];rw[Yg]at hY|-;intro x hx;rcases ZXZ hx with h|h
  .exact hY x h
  .rw[h];rfl
 .rw[<-hil,ZRB,hOS,ZAj,if_pos rfl];simp only[KL,ξX,ZCJ,ZDX,Yw];rw[ZLy _ _ J0]
theorem ZZ6(l:List Tx)(s:Tx):YV (rows ZC l) (JN l s) [[.str s]]=rows ZC (ZFM l s):=by simp[YV,ZFM,rows,ZC]
theorem ZMy:Go.Ab.Enters Tryz.prog 44:=QZ 44
theorem Zd2(OS:J7)(r:J9):ZQ Tryz.prog 44 [.x .nils,.x (.int .i64 ((0:Nat):Int)),.ref OS.length 1 0 1] (OS++ [Ob.rows false 9 1 [r]]) (.ref (OS.length+1) 1 0 1) (OS++ [Ob.rows false 9 1 [r]]++ [Ob.rows false 9 1 [r]]):=by
 have hg:(OS++ [Ob.rows false 9 1 [r]]).getD OS.length .dead= .rows false 9 1 [r]:=by simp[List.getD]
 have hO:Yb [OS.length] (OS++ [Ob.rows false 9 1 [r]])= [.rows false 9 1 [r]]:=by simp only[Yb,YM,ZAf,hg];rfl
 have ha:YA (inv [OS.length]) [D.x .nils,.x (.int .i64 ((0:Nat):Int)),.ref OS.length 1 0 1]= [.x .nils,.x (.int .i64 0),.ref 0 1 0 1]:=by simp[YA,D.ren,inv]
 have h:=ZQ.atR (P:=Tryz.prog) (f:=44) (ρ:= [OS.length]) (args:= [.x .nils,.x (.int .i64 ((0:Nat):Int)),.ref OS.length 1 0 1]) (OS:=OS++ [Ob.rows false 9 1 [r]]) (r:= .ref 1 1 0 1) (os':= [.rows false 9 1 [r],.rows false 9 1 [r]]) (by simp[Kx,JE,D.inP,Zi,Kw,hg,Ob.inP]) (by rw[hO,ha];exact ZX1 r) J1;have e1:(D.ref 1 1 0 1).ren (KH [OS.length] (OS++ [Ob.rows false 9 1 [r]]).length 2)= .ref (OS.length+1) 1 0 1:=by simp[D.ren,KH]
 have e2:KS [OS.length] (OS++ [Ob.rows false 9 1 [r]]) [.rows false 9 1 [r],.rows false 9 1 [r]]=OS++ [Ob.rows false 9 1 [r]]++ [Ob.rows false 9 1 [r]]:=by
  simp only[KS,YM,ZAf,Ob.ren,KI,JB,ξN,ZEb,ZCa,st0]
 rw[<-e1,<-e2];exact h
theorem Zej(OS:J7)(a:Nat)(rs:J6)(r:J9)(k:Nat)(h:OS[a]? =some (.rows false 9 1 rs))(hk:k<=rs.length)(hn:rs.length<=1000000):ZQ Tryz.prog 44 [.ref a rs.length 0 rs.length,.x (.int .i64 k),.ref OS.length 1 0 1] (OS++ [Ob.rows false 9 1 [r]]) (.ref a (rs.length+1) 0 (rs.length+1)) ((OS++ [Ob.rows false 9 1 [r]]).set a (.rows false 9 1 (YV rs k [r]))):=by
 have hal:=(ZV h).1;have hg:(OS++ [Ob.rows false 9 1 [r]]).getD OS.length .dead= .rows false 9 1 [r]:=by simp[List.getD]
 have hg2:(OS++ [Ob.rows false 9 1 [r]]).getD a .dead= .rows false 9 1 rs:=by rw[ZDx,Yc hal,h];rfl
 have hne:a≠OS.length:=Wl
 have hne2:OS.length≠a:=Wl
 have hO:Yb [a,OS.length] (OS++ [Ob.rows false 9 1 [r]])= [.rows false 9 1 rs,.rows false 9 1 [r]]:=by simp only[Yb,YM,ZAf,hg,hg2];rfl
 have ha:YA (inv [a,OS.length]) [D.ref a rs.length 0 rs.length,.x (.int .i64 k),.ref OS.length 1 0 1]= [.ref 0 rs.length 0 rs.length,.x (.int .i64 k),.ref 1 1 0 1]:=by simp[YA,D.ren,inv,hne2]
 have hnb:Nat.beq a OS.length=false:=by
  cases hb:Nat.beq a OS.length with
  |false=>rfl
  |true=>exact absurd (ZL5 hb) hne
 have hfp:Kx [a,OS.length] [.ref a rs.length 0 rs.length,.x (.int .i64 k),.ref OS.length 1 0 1] (OS++ [Ob.rows false 9 1 [r]])=true:=by
  unfold Kx;simp only[ZAL,ZFG,hg,hg2,Ob.inP,JE,D.inP,Zi,Kw,hnb,ZET,Qh,ZEL,ZFu,ZD3,ZMU,Zk,Ym,ZW,JB,ξN];omega
 have h:=ZQ.atR (P:=Tryz.prog) (f:=44) (ρ:= [a,OS.length]) (args:= [.ref a rs.length 0 rs.length,.x (.int .i64 k),.ref OS.length 1 0 1]) (OS:=OS++ [Ob.rows false 9 1 [r]]) (r:= .ref 0 (rs.length+1) 0 (rs.length+1)) (os':= [.rows false 9 1 (YV rs k [r]),.rows false 9 1 [r]]) hfp (by rw[hO,ha];exact ZXy rs r k hk hn) J1;have e1:(D.ref 0 (rs.length+1) 0 (rs.length+1)).ren (KH [a,OS.length] (OS++ [Ob.rows false 9 1 [r]]).length 2)= .ref a (rs.length+1) 0 (rs.length+1):=by simp[D.ren,KH]
 have e2:KS [a,OS.length] (OS++ [Ob.rows false 9 1 [r]]) [.rows false 9 1 (YV rs k [r]),.rows false 9 1 [r]]=(OS++ [Ob.rows false 9 1 [r]]).set a (.rows false 9 1 (YV rs k [r])):=by
  simp only[KS,YM,ZAf,Ob.ren,KI,JB,ξN,ZEb,ZCa,Ks];rw[ZLy _ _ hal];rw[ZDS _ _ J1];simp
 rw[<-e1,<-e2];exact h
set_option maxHeartbeats 4000000 in
theorem Zij(L:List (Tx×Zd))(M:List (Tx×Zo))(m:EM)(Bt:List TB)(Y:J7)(dn:Tx)(l:List ZN)(h:QD l)(hk:ZG1 M l)(hB:okB Y Bt)(hY:Y.all Ob.nof=true)(hr: ∀x∈Bt,SoL x.2.2/\x.2.2.length<=999999)(hm:m.length<=1000000):
  ZH Tryz.prog 12 [.ptr 0 0,.agg [.x (.str dn),.x (.sl (rows ZL l))]] (KL (Jw L) (Jo M) (.mpo .str true (QI m):: .mpo .str false (Bt.map Ye)::Y)) (ZIk (.x (.int .i64 (Kf L M m dn l))) (ZAj (Kf L M m dn l) m dn l) (QT (Kf L M m dn l) (Bt.map YP) dn) (Jw L) (Jo M)):=by
 have hul:ZM ZL (rows ZL l)=some l:=ZX Ze l;have hdm:=ZI (show l.length<=100/\(∀a∈l,a.1.length<=1000000)/\ ∀a∈l,a.2.1.length<=400 from h);have hst:=Zhr m dn (dn,Zg l,());have hg:=ZKo m dn;have hg2:=ZKo m (YB dn);have hg3:=ZOK Bt (YB dn);have hln:=ZY2 m;obtain⟨v,hv⟩: ∃v,Kf L M m dn l=v:=⟨_,rfl⟩;rw[hv];unfold Kf at hv;refine fC 12 true ?_;intro C0 E0;have uu:=ξ9 @ZHT @ZHB @ZHI @ZHP @ZIK.eq_1 @ZD7.eq_1 @ZRl.eq_1 @sn0 (ξ8 @sn1 @sn2 @st0 @st1 hul hdm hst hln);have tT:=aQ (aQ (aQ ZB ZI5) (ZCx ZDI)) (ZCx ZPR);refine WI.seq ?_;refine WI.regB tT [0,3] ?_;refine oG ?_;refine TF ?_;refine WI.regB tT [0,3,23] ?_;refine Vm ?_;refine oS ?_
 iterate 6 refine oG ?_
 refine Ww ?_;refine WI.cond (b:=_) rfl rfl (λh0=> ?_) (λh0=> ?_)
 .exfalso;simp at h0
 .try simp only[zB]at h0
  refine Vt ?_;refine WI.regB tT [0,3,5,6] ?_;refine Vm ?_;refine VH ?_;refine WI.seq ?_;refine WI.regB tT [0,3,5,31] ?_;refine Vm ?_;refine Ww ?_;refine WI.cond (b:=_) rfl rfl (λh1=> ?_) (λh1=> ?_)
  .try simp only[zB]at h1
   have e1:JG dn=false:=WC
   rw[if_pos e1]at hv;subst hv;refine Vq ?_
   first|refine lfR ?_|refine ZAi ?_|refine ZAT ?_|refine ZAc ?_
   exact ZGt WS m Bt _ _ Y dn l hB hY [_] rfl
  .try simp only[zB]at h1
   have e1: ¬JG dn=false:=WC
   rw[if_neg e1]at hv;refine Vt ?_;refine WI.seq ?_;rcases hl:ZF m dn with _|⟨dn',l',u⟩
   .rw[hl,ZAC]at hg;rw[hl,if_neg J1]at hv;have uu:=Zz uu hg;refine WI.dregB tT [0,3,5,8] ?_
    refine Wo ?_;refine Td ?_;refine Zb ?_;refine Nv ?_;refine Wm ?_;refine WI.regB tT [0,3,5,42] ?_;refine Va ?_;refine WI.cond (b:=_) rfl rfl (λh2=> ?_) (λh2=> ?_)
    .exfalso;simp at h2
    .try simp only[zB]at h2
     refine Vt ?_;refine WI.join (λφ os=> ∃b3:Ob,φ= [(0,.ptr 0 0),(3,.ptr (Y.length+1+1+1+1+1+1) 0),(5,.x (.str (YB dn))),(10,.x (.bool (ZF m (YB dn)).isSome))]/\os=KL (Jw L) (Jo M) (.mpo .str true (QI m):: .mpo .str false (Bt.map Ye)::(Y++ [.box [.x (.str dn),.x (.sl (rows ZL l))]]++ [.box [.x (.str []),.x .nils]]++ [b3]))/\b3.nof=true) ?_ (λφ os hJ=> ?_)
     .rcases hl2:ZF m (YB dn)with _|⟨dn2,l2,u2⟩
      .rw[hl2,ZAC]at hg2;have uu:=Zz uu hg2;refine WI.regB tT [0,3,5,10] ?_
       exact TM
      .rw[hl2,Yr]at hg2;have uu:=Zz uu hg2;refine WI.regB tT [0,3,5,10] ?_
       exact TM
     .obtain⟨b3,rfl,rfl,hb3⟩:=hJ;refine WI.seq ?_;refine WI.regB tT [0,3,5,57] ?_;refine Vm ?_;refine oS ?_
      refine W7 ?_;refine oG ?_;refine Ww ?_;refine WI.cond (b:=_) rfl rfl (λh3=> ?_) (λh3=> ?_)
      .try simp only[zB]at h3
       have e3:(ZF m (YB dn)).isSome=false/\YB dn≠ []:=UZ
       rw[if_pos e3]at hv;subst hv;refine Vq ?_
       first|refine lfR ?_|refine ZAi ?_|refine ZAT ?_|refine ZAc ?_
       rw[as3];exact ZGt WS m Bt _ _ Y dn l hB hY _ (by simp only[ZAL,hb3,Qh];rfl)
      .try simp only[zB]at h3
       have e3: ¬((ZF m (YB dn)).isSome=false/\YB dn≠ []):=by rintro⟨e4,e5⟩;rw[e4]at h3;simp[e5]at h3
       rw[if_neg e3]at hv;obtain⟨V,hV⟩: ∃V,V=Y++ [.box [.x (.str dn),.x (.sl (rows ZL l))]]++ [.box [.x (.str []),.x .nils]]++ [b3]:=⟨_,rfl⟩;have hVe:V[Y.length]? =some (.box [.x (.str dn),.x (.sl (rows ZL l))]):=by rw[hV];exact sn2 Y _ _ _
       have uu:=Zz uu hVe;rw[<-hV];refine Vt ?_;refine WI.seq ?_;refine WI.cutA tT [0,3,5,58,59] 2 ?_;simp only[Qy,ZB6,ZEb,ZCa];refine Vm ?_;refine oP ?_;refine ZIc ?_;refine WR.callF ((QZ 40)) (ZeI L M (.mpo .str true (QI m):: .mpo .str false (Bt.map Ye)::V) dn l h hk) ?_;rintro _ _ ⟨rfl,Z,rfl,hZ⟩;obtain⟨W,hW⟩: ∃W,W=V++Z:=⟨_,rfl⟩;have hWe:W[Y.length]? =some (.box [.x (.str dn),.x (.sl (rows ZL l))]):=by rw[hW,Yc (ZV hVe).1];exact hVe
       have hWY: ∃U,W=Y++U/\U.all Ob.nof=true:=⟨_,by rw[hW,hV,as4],by simp only[ZAL,hZ,hb3,Qh];rfl⟩;dsimp only[List.cons_append];rw[<-hW];clear hW hV;obtain⟨U,hWU,hU⟩:=hWY;have uu:=Zz uu hWe;refine WR.regB tT [0,3,5,11] ?_;refine WP ?_;refine WI.regB tT [0,3,5,11,62] ?_;refine Vm ?_;refine Ww ?_;refine WI.cond (b:=_) rfl rfl (λh4=> ?_) (λh4=> ?_)
       .try simp only[zB]at h4
        have e4:ZDe L M dn l≠0:=UY
        rw[if_pos e4]at hv;subst hv;refine WI.seq ?_;refine WI.regB tT [4] ?_
        refine V2 ?_;refine JH ?_
        first|refine lfR ?_|refine ZAi ?_|refine ZAT ?_|refine ZAc ?_
        rw[hWU];exact ZGt e4 m Bt _ _ Y dn l hB hY _ hU
       .try simp only[zB]at h4
        have e4: ¬ZDe L M dn l≠0:=UY
        rw[if_neg e4]at hv;refine Vt ?_;refine WI.seq ?_;refine WI.regB tT [0,3,5,69] ?_
        refine Wn ?_;refine N3 ?_;refine oG ?_;refine Ww ?_;refine WI.cond (b:=_) rfl rfl (λh5=> ?_) (λh5=> ?_)
        .try simp only[zB]at h5
         have e5:1024<=m.length:=Wl
         rw[if_pos e5]at hv;subst hv;refine Vq ?_
         first|refine lfR ?_|refine ZAi ?_|refine ZAT ?_|refine ZAc ?_
         rw[hWU];exact ZGt WS m Bt _ _ Y dn l hB hY _ hU
        .try simp only[zB]at h5
         have e5: ¬1024<=m.length:=Wl
         rw[if_neg e5]at hv;subst hv;refine Vt ?_;refine WI.dregB tT [0,3,5] ?_
         refine Wo ?_;refine Td ?_;refine Zb ?_;refine dQC ?_;refine Qx ?_;refine dN ?_;refine Wm ?_;rcases hb:ZF Bt (YB dn)with _|⟨i,row⟩
         .rw[hb,ZAC]at hg3;have hb2:JN [] dn=0:=rfl;have hsd:decide (SoL []/\([]:List Tx).length<=1000000)=true:=ZI ⟨List.Pairwise.nil,WS⟩;have huw:ZM ZC []=some []:=rfl;have uu:=ξ5 uu hg3 hb2 hsd huw;refine WI.regB tT [0,3,5,12] ?_
          refine Wn ?_;refine Vm ?_;refine Vm ?_;refine WP ?_;refine WI.regB tT [0,3,5,12,13] ?_;refine Wn ?_;refine oG ?_;refine VH ?_;obtain⟨OT,hOT⟩: ∃OT,OT= .box [.mref 2,.mref 3]:: .mpo .str true (Jw L):: .mpo .str true (Jo M):: .mpo .str true (QI (Zu m dn (dn,Zg l,()))):: .mpo .str false (Bt.map Ye)::W:=⟨_,rfl⟩;have hOS:Ob.box [.ptr 1 0,.mref 4,.mref 5]::OT=KL (Jw L) (Jo M) (.mpo .str true (QI (Zu m dn (dn,Zg l,()))):: .mpo .str false (Bt.map Ye)::(Y++U)):=by rw[hOT,hWU]
          have hOe:OT[Y.length+1+1+1+1+1]? =some (.box [.x (.str dn),.x (.sl (rows ZL l))]):=by rw[hOT];exact hWe
          have hO5: ∀V:J7,(OT++V)[4]? =some (.mpo .str false (Bt.map Ye)):=λV=>by rw[hOT];rfl
          have hb4: ∀(id:Nat) (ds:J8),OT[id]? =some (.box ds)->id≠4:=λid ds h e=>by subst e;rw[hOT]at h;cases h
          have hlt: ∀(id:Nat) (ds:J8),OT[id]? =some (.box ds)->id<OT.length:=λid ds h=>(ZV h).1
          have hbx: ∀V:J7,Jc [] 1 OT (OT++V)=true:=λV=>ZAK _ _ _ (λid ds h=>by rw[Yc (hlt id ds h)];exact h) J1
          have hbx0:Jc [] 1 OT OT=true:=ZAK _ _ _ (λid ds h=>h) (Zp _);have hbx5: ∀(V:J7) (q:W2),Jc [] 1 OT ((OT++V).set 4 (.mpo .str false q))=true:=λV q=>ZAK _ _ _ (λid ds h=>by rw[ZAX (hb4 id ds h).symm,Yc (hlt id ds h)];exact h) J1
          have hin:=Zd2 (.box [.ptr 1 0,.mref 4,.mref 5]::OT) [.str dn];simp only[ξX,JB,Yw,QW]at hin;rw[<-hOT];have hap: ∀V W:J7,OT++V++W=OT++(V++W):=λV W=>Yw _ _ _
          have uu:=ξ7 uu hOe hO5 hbx hbx0 hap hbx5;refine WI.dregY (ZCz ZB ZMy hin) [] [] ?_
          refine NV ?_;refine xAG ?_;refine xAC ?_;refine Tn ?_
          first|refine lfR ?_|refine ZAi ?_|refine ZAT ?_|refine ZAc ?_
          have hf:=ZZ0 m Bt (Jw L) (Jo M) Y U dn l hB hY hU hb _ hOS (.rows false 9 1 [[.str dn]]) rfl;rw[Yw]at hf;exact hf
         .rw[hb,Yr]at hg3;obtain⟨hYi,_⟩:=hB.2.2 _ (JS hb);obtain⟨hso,hrl⟩:=hr _ (JS hb);simp only at hYi hso hrl;have hWi:W[i]? =some (.rows false 9 1 (rows ZC row)):=by rw[hWU,Yc (ZV hYi).1];exact hYi
          have hsd:decide (SoL row/\row.length<=1000000)=true:=ZI ⟨hso,J0⟩;have huw:ZM ZC (rows ZC row)=some row:=ZX ZO row;have hrn:=ZP ZC row;have htl:(rows ZC row).take row.length=rows ZC row:=by rw[<-hrn,JX]
          have uu:=ξ7 uu hg3 hWi hsd huw hrn htl;refine WI.regB tT [0,3,5,12] ?_
          refine Wn ?_;refine Vm ?_;refine Vm ?_;refine WP ?_;refine WI.regB tT [0,3,5,12,13] ?_;refine Wn ?_;refine oG ?_;refine VH ?_;obtain⟨OT,hOT⟩: ∃OT,OT= .box [.mref 2,.mref 3]:: .mpo .str true (Jw L):: .mpo .str true (Jo M):: .mpo .str true (QI (Zu m dn (dn,Zg l,()))):: .mpo .str false (Bt.map Ye)::W:=⟨_,rfl⟩;have hOS:Ob.box [.ptr 1 0,.mref 4,.mref 5]::OT=KL (Jw L) (Jo M) (.mpo .str true (QI (Zu m dn (dn,Zg l,()))):: .mpo .str false (Bt.map Ye)::(Y++U)):=by rw[hOT,hWU]
          have hOe:OT[Y.length+1+1+1+1+1]? =some (.box [.x (.str dn),.x (.sl (rows ZL l))]):=by rw[hOT];exact hWe
          have hO5: ∀V:J7,(OT++V)[4]? =some (.mpo .str false (Bt.map Ye)):=λV=>by rw[hOT];rfl
          have hb4: ∀(id:Nat) (ds:J8),OT[id]? =some (.box ds)->id≠4:=λid ds h e=>by subst e;rw[hOT]at h;cases h
          have hlt: ∀(id:Nat) (ds:J8),OT[id]? =some (.box ds)->id<OT.length:=λid ds h=>(ZV h).1
          have hbx: ∀V:J7,Jc [] 1 OT (OT++V)=true:=λV=>ZAK _ _ _ (λid ds h=>by rw[Yc (hlt id ds h)];exact h) J1
          have hbx0:Jc [] 1 OT OT=true:=ZAK _ _ _ (λid ds h=>h) (Zp _);have hOi:OT[i+5]? =some (.rows false 9 1 (rows ZC row)):=by rw[hOT];exact hWi
          have hOi2: ∀V:J7,(OT++V)[i+5]? =some (.rows false 9 1 (rows ZC row)):=λV=>by rw[Yc (ZV hOi).1];exact hOi
          have uu:=Zz uu hOi2;have hbi: ∀(id:Nat) (ds:J8),OT[id]? =some (.box ds)->i+5≠id:=λid ds h e=>by subst e;rw[hOi]at h;cases h
          have hbx5:(∀(V:J7) (R:Ob),Jc [] 1 OT ((OT++V).set (i+5) R)=true)/\(∀(V:J7) (R:Ob) (q:W2),Jc [] 1 OT (((OT++V).set (i+5) R).set 4 (.mpo .str false q))=true)/\ ∀(V:J7) (R:Ob),((OT++V).set (i+5) R)[4]? =some (.mpo .str false (Bt.map Ye)):=
           ⟨λV R=>ZAK _ _ _ (λid ds h=>by rw[ZAX (hbi id ds h),Yc (hlt id ds h)];exact h) J1,λV R q=>ZAK _ _ _ (λid ds h=>by rw[ZAX (hb4 id ds h).symm,ZAX (hbi id ds h),Yc (hlt id ds h)];exact h) J1,λV R=>by rw[ZAX J0];exact hO5 V⟩
          have hin:=Zej (.box [.ptr 1 0,.mref 4,.mref 5]::OT) (i+6) (rows ZC row) [.str dn] (JN row dn) hOi (by rw[hrn];exact ZI8 row dn) (by rw[hrn];omega);rw[hrn]at hin;simp only[ξX,JB,ZCJ]at hin;rw[<-hOT];have hap: ∀V W:J7,OT++V++W=OT++(V++W):=λV W=>Yw _ _ _
          have uu:=ξ7 uu hOe hO5 hbx hbx0 hap hbx5;refine WI.dregY (ZCz ZB ZMy hin) [] [] ?_
          refine NV ?_;refine xAG ?_;refine xAC ?_;refine Tn ?_
          first|refine lfR ?_|refine ZAi ?_|refine ZAT ?_|refine ZAc ?_
          have hf:=ZaR m Bt (Jw L) (Jo M) Y U dn l hB hY hU i row hb hrl _ hOS (.rows false 9 1 [[.str dn]]) rfl;rw[ZZ6];exact hf
   .rw[hl,Yr]at hg;rw[hl,if_pos J1]at hv;subst hv;have uu:=Zz uu hg;refine WI.dregB tT [0,3,5,8] ?_
    refine Wo ?_;refine Td ?_;refine Zb ?_;refine Nv ?_;refine Wm ?_;refine WI.regB tT [0,3,5,42] ?_;refine Va ?_;refine WI.cond (b:=_) rfl rfl (λh2=> ?_) (λh2=> ?_)
    .try simp only[zB]at h2
     refine Vq ?_
     first|refine lfR ?_|refine ZAi ?_|refine ZAT ?_|refine ZAc ?_
     rw[as2];exact ZGt WS m Bt _ _ Y dn l hB hY [_,_] rfl
    .exfalso;simp at h2
def ZBV(m:EM)(B:List (Tx×List Tx))(n:Tx):Int:=if(ZF m n).isSome=false then 32 else if YJ B n≠ []then 66 else 0
def ZDi(c:Int)(m:EM)(n:Tx):EM:=if c=0 then Zh m n else m
def ZCK(c:Int)(B:List (Tx×List Tx))(n:Tx):List (Tx×List Tx):=if c=0 then Zu (Zh B n) (YB n) (KJ (YJ (Zh B n) (YB n)) n)else B
theorem ZU1(B:List TB)(s:Tx):(Zh B s).map YP=Zh (B.map YP) s:=by
 induction B with
 |nil=>rfl
 |cons p B ih=>
  by_cases h:s=p.1
  .have e1:Zh (p::B) s=B:=by simp[Zh,h]
   have e2:Zh (YP p::B.map YP) s=B.map YP:=by simp[Zh,YP,h]
   rw[e1,YM,e2]
  .have e1:Zh (p::B) s=p::Zh B s:=by simp[Zh,h]
   have e2:Zh (YP p::B.map YP) s=YP p::Zh (B.map YP) s:=by simp[Zh,YP,h]
   rw[e1,YM,YM,e2,ih]
theorem ZA2{κ β:Type}[DecidableEq κ]: ∀(A:List (κ×β)) (c:κ),(Zh A c).Sublist A
 | [],c=>by simp[Zh]
 |p::A,c=>by
  by_cases h:c=p.1
  .have e:Zh (p::A) c=A:=by simp[Zh,h]
   rw[e];exact List.sublist_cons_self _ _
  .have e:Zh (p::A) c=p::Zh A c:=by simp[Zh,h]
   rw[e];exact(ZA2 A c).cons_cons p
theorem ZM7{κ β:Type}[DecidableEq κ]: ∀(A:List (κ×β)) (c d:κ),d≠c->ZF (Zh A c) d=ZF A d
 | [],c,d,_=>by simp[Zh]
 |p::A,c,d,hne=>by
  by_cases h:c=p.1
  .have e:Zh (p::A) c=A:=by simp[Zh,h]
   have: ¬d=p.1:=λe=>hne (e.trans h.symm)
   rw[e];simp[ZF,this]
  .have e:Zh (p::A) c=p::Zh A c:=by simp[Zh,h]
   have ih:=ZM7 A c d hne;rw[e];by_cases h2:d=p.1
   .simp[ZF,h2]
   .have e1:ZF (p::Zh A c) d=ZF (Zh A c) d:=by simp[ZF,h2]
    have e2:ZF (p::A) d=ZF A d:=by simp[ZF,h2]
    rw[e1,e2,ih]
theorem ZUf{Y:J7}{B:List TB}(h:okB Y B)(s:Tx):okB Y (Zh B s):=
 ⟨((ZA2 B s).map _).nodup h.1,((ZA2 B s).map _).nodup h.2.1,λx hx=>h.2.2 x ((ZA2 B s).subset hx)⟩
theorem ZbY{Y:J7}{B:List TB}(h:okB Y B)(s:Tx)(i:Nat)(l0 l:List Tx)(hs:ZF B s=some (i,l0))(hl:l.length<=1000000)(o:Ob)(U:J7):okB (Y.set i o++U++ [Ob.rows false 9 1 (rows ZC l)]) (Zu B s ((Y++U).length,l)):=by
 have hp:=ZKO hs;have hq:=ZBz B s ((Y++U).length,l);have n1:((s,(i,l0))::Zh B s).map (·.1)=((s,((Y++U).length,l))::Zh B s).map (·.1):=rfl;have m1:=(hp.map (·.1)).nodup_iff.1 h.1;have m2:=(hp.map (·.2.1)).nodup_iff.1 h.2.1;rw[YM,ZBE]at m2;have hlt: ∀x∈Zh B s,x.2.1<Y.length:=λx hx=>(ZV (h.2.2 x (hp.mem_iff.2 (ξW _ hx))).1).1
 refine⟨(hq.map (·.1)).nodup_iff.2 (n1▸m1),(hq.map (·.2.1)).nodup_iff.2 ?_,λx hx=> ?_⟩
 .rw[YM,ZBE];refine⟨λhc=> ?_,m2.2⟩;obtain⟨x,hx,e⟩:=YR.1 hc;have:=hlt x hx;simp only[ZW]at e;omega
 .rcases Kn.1 (hq.mem_iff.1 hx)with rfl|hx
  .refine⟨?_,hl⟩;show(Y.set i o++U++ [Ob.rows false 9 1 (rows ZC l)])[(Y++U).length]? =_;rw[show(Y++U).length=(Y.set i o++U).length by simp];exact sn0 _ _
  .have hx2:=h.2.2 x (hp.mem_iff.2 (ξW _ hx));have hxl:=hlt x hx;refine⟨?_,hx2.2⟩;have hne:i≠x.2.1:=λe=>m2.1 (YR.2 ⟨x,hx,e.symm⟩)
   rw[Yw,Yc (by simpa using hxl),ZAX hne];exact hx2.1
theorem ZRU{v:Int}(hv:v≠0)(m:EM)(Bt:List TB)(P1 P2:W2)(Y:J7)(n:Tx)(hB:okB Y Bt)(hY:Y.all Ob.nof=true)(X:J7)(hX:X.all Ob.nof=true):
  ZIk (.x (.int .i64 v)) (ZDi v m n) (ZCK v (Bt.map YP) n) P1 P2 (.x (.int .i64 v)) (KL P1 P2 (.mpo .str true (QI m):: .mpo .str false (Bt.map Ye)::(Y++X))):=by
 unfold ZDi ZCK;exact N5
theorem Zao(m:EM)(Bt:List TB)(P1 P2:W2)(Y U:J7)(n:Tx)(hB:okB Y Bt)(hY:Y.all Ob.nof=true)(hU:U.all Ob.nof=true)(i:Nat)(row:List Tx)(hs:ZF (Zh Bt n) (YB n)=some (i,row))(hl:row.length<=1000000)(OS:J7)(hOS:OS=KL P1 P2 (.mpo .str true (QI (Zh m n)):: .mpo .str false ((Zh Bt n).map Ye)::(Y++U))):
  ZIk (.x (.int .i64 0)) (ZDi 0 m n) (ZCK 0 (Bt.map YP) n) P1 P2 (.x (.int .i64 0)) ((OS.set (i+6) (.old 1 (row.length+1))++ [Ob.rows false 9 1 (rows ZC (KJ row n))]).set 5 (.mpo .str false (Yo ((Zh Bt n).map Ye) [.str (YB n)] [.ref OS.length (KJ row n).length 0 (KJ row n).length]))):=by
 have hol:OS.length=(Y++U).length+6:=by rw[hOS];simp[KL]
 have hi:=(ZV ((ZUf hB n).2.2 _ (JS hs)).1).1;simp only at hi;have hdl:(KJ row n).length<=row.length:=ZWO _ _;refine⟨rfl,Zu (Zh Bt n) (YB n) ((Y++U).length,KJ row n),Y.set i (.old 1 (row.length+1))++U++ [Ob.rows false 9 1 (rows ZC (KJ row n))],?_,ZbY (ZUf hB n) _ _ row _ hs J0 _ _,?_,?_⟩
 .rw[ZPF,ZU1,ZCK,if_pos rfl];have:YJ (Zh (Bt.map YP) n) (YB n)=row:=by unfold YJ;rw[<-ZU1,ZFE,hs];rfl
  rw[this]
 .simp only[ZJF,ZAL,ZFG,hU,Qh];rw[Zk,Yg]at*;refine⟨λx hx=> ?_,rfl⟩;rcases ZXZ hx with h|h
  .exact hY x h
  .rw[h];rfl
 .rw[hol,ZRB,hOS,ZDi,if_pos rfl];simp only[KL,ξX,ZCJ,ZDX];rw[ZLy _ _ J0]
theorem ZUL:Go.Ab.Enters Tryz.prog 55:=QZ 55
theorem Ze1(OS:J7)(a b:Nat)(l:List Tx)(s:Tx)(ha:OS[a]? =some (.rows false 9 1 (rows ZC l)))(hb:OS[b]? =some (.box [.x (.str s)]))(hl:l.length<=1000000)(h0:l≠ []):ZQ Tryz.prog 55 [.ref a l.length 0 l.length,.fn 56 [.ptr b 0]] OS (.ref OS.length (KJ l s).length 0 (KJ l s).length) (OS.set a (.old 1 (l.length+1))++ [Ob.rows false 9 1 (rows ZC (KJ l s))]):=by
 have hal:=(ZV ha).1;have hbl:=(ZV hb).1;have hne:a≠b:=λe=>by subst e;rw[ha]at hb;cases hb
 have hga:OS.getD a .dead= .rows false 9 1 (rows ZC l):=by rw[ZDx,ha];rfl
 have hgb:OS.getD b .dead= .box [.x (.str s)]:=by rw[ZDx,hb];rfl
 have hnb:Nat.beq a b=false:=by
  cases hq:Nat.beq a b with
  |false=>rfl
  |true=>exact absurd (ZL5 hq) hne
 have hO:Yb [a,b] OS= [.rows false 9 1 (rows ZC l),.box [.x (.str s)]]:=by simp only[Yb,YM,ZAf,hga,hgb];rfl
 have hne2:b≠a:=Ne.symm hne;have hr:YA (inv [a,b]) [D.ref a l.length 0 l.length,.fn 56 [.ptr b 0]]= [.ref 0 l.length 0 l.length,.fn 56 [.ptr 1 0]]:=by simp[YA,D.ren,inv,hne2]
 have hfp:Kx [a,b] [.ref a l.length 0 l.length,.fn 56 [.ptr b 0]] OS=true:=by
  unfold Kx;simp only[ZAL,ZFG,hga,hgb,Ob.inP,JE,D.inP,Zi,Kw,hnb,ZET,Qh,ZEL,ZFu,ZD3,ZMU,Zk,Ym];exact⟨hal,hbl⟩
 have h:=ZQ.atR (P:=Tryz.prog) (f:=55) (ρ:= [a,b]) (args:= [.ref a l.length 0 l.length,.fn 56 [.ptr b 0]]) (OS:=OS) (r:= .ref 2 (KJ l s).length 0 (KJ l s).length) (os':= [.old 1 (l.length+1),.box [.x (.str s)],.rows false 9 1 (rows ZC (KJ l s))]) hfp (by rw[hO,hr];exact ZYw l s hl h0) J1;have e1:(D.ref 2 (KJ l s).length 0 (KJ l s).length).ren (KH [a,b] OS.length 3)= .ref OS.length (KJ l s).length 0 (KJ l s).length:=by simp[D.ren,KH]
 have e2:KS [a,b] OS [.old 1 (l.length+1),.box [.x (.str s)],.rows false 9 1 (rows ZC (KJ l s))]=OS.set a (.old 1 (l.length+1))++ [Ob.rows false 9 1 (rows ZC (KJ l s))]:=by
  simp only[KS,YM,ZAf,Ob.ren,YA,D.ren,KI,JB,ξN,ZEb,ZCa];congr 1;apply ZBj;intro j;rw[ZCe];split
  .rename_i e;subst e;rw[ZAX hne,hb];simp[hbl]
  .rfl
 rw[<-e1,<-e2];exact h
set_option maxHeartbeats 4000000 in
theorem Zia(P1 P2:W2)(m:EM)(Bt:List TB)(Y:J7)(n:Tx)(hB:okB Y Bt)(hY:Y.all Ob.nof=true)(hq:(ZF m n).isSome=true->YJ (Bt.map YP) n= []->n∈YJ (Bt.map YP) (YB n)/\YB n≠n):
  ZH Tryz.prog 25 [.ptr 0 0,.x (.str n)] (KL P1 P2 (.mpo .str true (QI m):: .mpo .str false (Bt.map Ye)::Y)) (ZIk (.x (.int .i64 (ZBV m (Bt.map YP) n))) (ZDi (ZBV m (Bt.map YP) n) m n) (ZCK (ZBV m (Bt.map YP) n) (Bt.map YP) n) P1 P2):=by
 have hg:=ZKo m n;have hgb:=ZOK Bt n;have hd1:=Zhh m n;have hd2:=Zg3 Bt n;obtain⟨v,hv⟩: ∃v,ZBV m (Bt.map YP) n=v:=⟨_,rfl⟩;rw[hv];unfold ZBV at hv;have hro:YJ (Bt.map YP) n=((ZF Bt n).map (·.2)).getD []:=by unfold YJ;rw[ZFE]
 refine fC 25 true ?_;intro C0 E0;have uu:=ξ9 @ZHT @ZHB @ZHI @ZHP @ZIK.eq_1 @sn0 @sn1 @sn2 (ξ6 @st0 @st1 hd1 hd2 @ZRl.eq_1 @ZD7.eq_1);have tT:=aQ (aQ (aQ ZB ZI5) (ZCx ZDI)) (ZCx ZPR);refine WI.seq ?_;refine WI.regB tT [0,3] ?_;refine oG ?_;refine TF ?_;refine WI.regB tT [0,3,10] ?_;refine Vm ?_;refine Ww ?_;refine WI.cond (b:=_) rfl rfl (λh0=> ?_) (λh0=> ?_)
 .exfalso;simp at h0
 .try simp only[zB]at h0
  refine Vt ?_;refine WI.seq ?_;rcases hl:ZF m n with _|⟨dn',l',u⟩
  .rw[hl,ZAC]at hg;rw[hl,if_pos J1]at hv;subst hv;have uu:=Zz uu hg;refine WI.dregB tT [0,3,6] ?_
   refine UL ?_;refine VK ?_;refine Nv ?_;refine Wm ?_;refine WI.regB tT [0,3,21] ?_;refine Vm ?_;refine Ww ?_;refine WI.cond (b:=_) rfl rfl (λh1=> ?_) (λh1=> ?_)
   .try simp only[zB]at h1
    refine Vq ?_
    first|refine lfR ?_|refine ZAi ?_|refine ZAT ?_|refine ZAc ?_
    rw[as2];exact ZRU WS m Bt P1 P2 Y n hB hY [_,_] rfl
   .exfalso;simp at h1
  .rw[hl,Yr]at hg;rw[hl,if_neg J1]at hv;rw[hl]at hq;have uu:=Zz uu hg;refine WI.dregB tT [0,3,6] ?_
   refine UL ?_;refine VK ?_;refine Nv ?_;refine Wm ?_;refine WI.regB tT [0,3,21] ?_;refine Vm ?_;refine Ww ?_;refine WI.cond (b:=_) rfl rfl (λh1=> ?_) (λh1=> ?_)
   .exfalso;simp at h1
   .try simp only[zB]at h1
    refine Ts ?_;refine WI.join (λφ os=> ∃d:D,φ= [(0,.ptr 0 0),(3,.ptr (Y.length+1+1+1+1+1+1) 0),(29,d)]/\os=KL P1 P2 (.mpo .str true (QI m):: .mpo .str false (Bt.map Ye)::(Y++ [.box [.x (.str n)]]++ [.box [.x (.str dn'),.x (.sl (rows ZL l'))]]))/\v=0/\YJ (Bt.map YP) n= []) ?_ (λφ os hJ=> ?_)
    .refine WI.seq ?_;rcases hb:ZF Bt n with _|⟨i0,row0⟩
     .rw[hb,ZAC]at hgb;rw[hb]at hro;have hro0:YJ (Bt.map YP) n= []:=hro;rw[if_neg (by rw[hro0];simp)]at hv;have uu:=Zz uu hgb;refine WI.dregB tT [0,3,29] ?_
      refine UL ?_;refine Zb ?_;refine Qx ?_;refine Qx ?_;refine Zm ?_;refine dN ?_;refine ZA ?_;refine WI.cond (b:=_) rfl rfl (λh2=> ?_) (λh2=> ?_)
      .exfalso;simp at h2
      .try simp only[zB]at h2
       refine Ts ?_;exact⟨_,rfl,rfl,hv.symm,hro0⟩
     .rw[hb,Yr]at hgb;rw[hb]at hro;have hro1:YJ (Bt.map YP) n=row0:=hro;obtain⟨hYi,hri⟩:=hB.2.2 _ (JS hb);have hYi2: ∀a b:Ob,(Y++ [a]++ [b])[i0]? =some (.rows false 9 1 (rows ZC row0)):=λa b=>by rw[Yw,Yc (ZV hYi).1];exact hYi
      have uu:=Qt uu hgb (ZP ZC row0) hYi2;refine WI.dregB tT [0,3,29] ?_
      refine UL ?_;refine Zb ?_;refine Qx ?_;refine Qx ?_;refine Zm ?_;refine dN ?_;refine ZA ?_;refine WI.cond (b:=_) rfl rfl (λh2=> ?_) (λh2=> ?_)
      .try simp only[zB]at h2
       have e2:row0≠ []:=λe=>by subst e;simp at h2
       rw[if_pos (by rw[hro1];exact e2)]at hv;subst hv;refine Vq ?_
       first|refine lfR ?_|refine ZAi ?_|refine ZAT ?_|refine ZAc ?_
       rw[as2];exact ZRU WS m Bt P1 P2 Y n hB hY [_,_] rfl
      .try simp only[zB]at h2
       have e2:row0= []:=ξS J0;have hro0:YJ (Bt.map YP) n= []:=by rw[hro1];exact e2
       rw[if_neg (by rw[hro0];simp)]at hv;refine Ts ?_;exact⟨_,rfl,rfl,hv.symm,hro0⟩
    .obtain⟨d,rfl,rfl,rfl,hro0⟩:=hJ;refine WI.seq ?_;refine WI.regB tT [0,3,7] ?_;refine oG ?_;refine oC ?_;refine oS ?_
     refine W7 ?_;refine Wn ?_;refine TV ?_;refine WI.dregB tT [0,3,7] ?_;refine UL ?_;refine Zb ?_;refine Qx ?_;refine dN ?_;refine Wm ?_;refine WI.dregB tT [0,3,7] ?_;refine UL ?_;refine Zb ?_;refine Qx ?_;refine dN ?_;refine Wm ?_;obtain⟨hin0,hpn⟩:=hq J1 hro0;have hld:=ZM7 Bt n (YB n) hpn;rcases hs:ZF Bt (YB n)with _|⟨i,row⟩
     .unfold YJ at hin0;rw[ZFE,hs]at hin0;cases hin0
     have hinr:n∈row:=by unfold YJ at hin0;rw[ZFE,hs]at hin0;exact hin0
     rw[hs]at hld;have hrne:row≠ []:=λe=>by subst e;cases hinr
     obtain⟨hYr,hrl⟩:=hB.2.2 _ (JS hs);simp only at hYr hrl;have hg3:=ZOK (Zh Bt n) (YB n);rw[hld,Yr]at hg3;obtain⟨OT,hOT⟩: ∃OT,OT= .box [.mref 2,.mref 3]:: .mpo .str true P1:: .mpo .str true P2:: .mpo .str true (QI (Zh m n)):: .mpo .str false ((Zh Bt n).map Ye)::(Y++ [.box [.x (.str n)]]++ [.box [.x (.str dn'),.x (.sl (rows ZL l'))]]):=⟨_,rfl⟩;have hOS:Ob.box [.ptr 1 0,.mref 4,.mref 5]::OT=KL P1 P2 (.mpo .str true (QI (Zh m n)):: .mpo .str false ((Zh Bt n).map Ye)::(Y++ [.box [.x (.str n)],.box [.x (.str dn'),.x (.sl (rows ZL l'))]])):=by rw[hOT,as2]
     have hOb:OT[Y.length+1+1+1+1+1]? =some (.box [.x (.str n)]):=by rw[hOT];exact sn1 Y _ _
     have hOr:OT[i+5]? =some (.rows false 9 1 (rows ZC row)):=by
      rw[hOT];show(Y++_++_)[i]? =_;rw[Yw,Yc (ZV hYr).1];exact hYr
     have hO4:OT[4]? =some (.mpo .str false ((Zh Bt n).map Ye)):=by rw[hOT];rfl
     have hb4: ∀(id:Nat) (ds:J8),OT[id]? =some (.box ds)->4≠id:=λid ds h e=>by subst e;rw[hO4]at h;cases h
     have hbi: ∀(id:Nat) (ds:J8),OT[id]? =some (.box ds)->i+5≠id:=λid ds h e=>by subst e;rw[hOr]at h;cases h
     have hlt: ∀(id:Nat) (ds:J8),OT[id]? =some (.box ds)->id<OT.length:=λid ds h=>(ZV h).1
     have hbx0:Jc [] 1 OT OT=true:=ZAK _ _ _ (λid ds h=>h) (Zp _);have hbx1: ∀(o:Ob) (V:J7),Jc [] 1 OT (OT.set (i+5) o++V)=true:=λo V=>ZAK _ _ _ (λid ds h=>by rw[Yc (by simpa using hlt id ds h),ZAX (hbi id ds h)];exact h) J1
     have hbx2: ∀(o:Ob) (V:J7) (q:W2),Jc [] 1 OT ((OT.set (i+5) o++V).set 4 (.mpo .str false q))=true:=λo V q=>ZAK _ _ _ (λid ds h=>by rw[ZAX (hb4 id ds h),Yc (by simpa using hlt id ds h),ZAX (hbi id ds h)];exact h) J1
     have hO4s: ∀(o:Ob) (V:J7),(OT.set (i+5) o++V)[4]? =some (.mpo .str false ((Zh Bt n).map Ye)):=λo V=>by rw[Yc (by simpa using (ZV hO4).1),ZAX J0];exact hO4
     have hin:=Ze1 (.box [.ptr 1 0,.mref 4,.mref 5]::OT) (i+6) (Y.length+1+1+1+1+1+1) row n hOr hOb hrl hrne;simp only[ξX,JB,ZCJ]at hin;rw[<-hOT];have uu:=ξ9 uu hg3 hOb hOr hO4 hO4s hbx0 hbx1 (Zz hbx2 (ZP ZC row));refine WI.dregY (ZCz ZB ZUL hin) [] [] ?_
     refine NV ?_;refine xFS ?_;refine xAG ?_;refine xFG ?_;refine xAC ?_;refine Tn ?_
     first|refine lfR ?_|refine ZAi ?_|refine ZAT ?_|refine ZAc ?_
     exact Zao m Bt P1 P2 Y [_,_] n hB hY rfl i row hld hrl _ hOS
abbrev BM:=List (Tx×List Tx)
def enB(B:BM):List (X×J6):=B.map λb=>(.str b.1,rows ZC b.2)
abbrev Kv(L:List (Tx×Zd))(M:List (Tx×Zo))(m:EM)(B:BM):Ob:= .fam 9 [Jw L,Jo M,QI m] (enB B)
def ZN6(B:BM):Nat->Tx->Bool
 |0,n=>decide (YJ B n= [])
 |k+1,n=>(YJ B n).all λs=>ZN6 B k s
theorem ZKG(B:BM): ∀(k:Nat) (n:Tx),ZN6 B k n=true↔deep B k n
 |0,n=>by simp[ZN6,deep]
 |k+1,n=>by simp only[ZN6,deep,Yg];exact forall₂_congr λs _=>ZKG B k s
def okT(m:EM)(B:BM):Prop:=(B.map (·.1)).Nodup/\(∀b∈B,SoL b.2/\b.2.length<=999999)/\(∀p∈m,QD p.2.2.1)/\m.length<=1000000
instance (m:EM) (B:BM):Decidable (okT m B):=inferInstanceAs (Decidable (_/\_))
theorem Zio{m:EM}{B:BM}(h:okT m B):ZiD m:=λn e he=>h.2.2.1 (n,e) (JS he)
theorem ZRF{α β:Type}(f:α->β): ∀ {l l':List β},l.Perm l'-> ∀B:List α,l'=B.map f-> ∃B':List α,B'.Perm B/\l=B'.map f:=by
 intro l l' h
 induction h with
 |nil=>intro B hB;exact⟨[],by rw[Zas.1 hB.symm],rfl⟩
 |cons x h ih=>
  intro B hB;cases B with
  |nil=>cases hB
  |cons b B=>
   rw[YM,ZEP]at hB;obtain⟨B',h1,rfl⟩:=ih B hB.2;exact⟨b::B',h1.cons b,by rw[YM,hB.1]⟩
 |swap x y l=>
  intro B hB
  match B,hB with
  |a::b::B,hB=>
   simp only[YM,ZEP]at hB;exact⟨b::a::B,List.Perm.swap a b B,by simp only[YM];rw[hB.1,hB.2.1,hB.2.2]⟩
 |trans h1 h2 ih1 ih2=>
  intro B hB;obtain⟨B2,k1,k2⟩:=ih2 B hB;obtain⟨B1,k3,k4⟩:=ih1 B2 k2;exact⟨B1,k3.trans k1,k4⟩
theorem ZEj{L:List (Tx×Zd)}{M:List (Tx×Zo)}{m:EM}{B:BM}(hk:okT m B){os:J7}(h:ZDw 9 [Jw L,Jo M,QI m] (enB B) os):
  ∃(Bt:List TB) (Y:J7),(Bt.map YP).Perm B/\okB Y Bt/\Y.all Ob.nof=true/\os=KL (Jw L) (Jo M) (.mpo .str true (QI m):: .mpo .str false (Bt.map Ye)::Y):=by
 rcases h with⟨P1,P2,P3,C,Y,hP,rfl,hp,hn,hY,hr⟩|⟨_,_,hP,_⟩
 rotate_left
 .cases hP
 simp only[ZEP,and_true]at hP;obtain⟨rfl,rfl,rfl⟩:=hP;obtain⟨B',hB',hC⟩:=ZRF (λb:Tx×List Tx=>(X.str b.1,rows ZC b.2)) hp B rfl;have hlen:C.length=B'.length:=by have:=congrArg List.length hC;exact V4
 have hat: ∀(j:Nat) (c:X×Nat×J6) (b:Tx×List Tx),C[j]? =some c->B'[j]? =some b->c.1= .str b.1/\c.2.2=rows ZC b.2:=λj c b h1 h2=>by
  have h3:=congrArg (λl=>l[j]?) hC;simp only[YE,h1,h2,Yr,Yj,YN]at h3;exact h3
 let Bt:List TB:=List.zipWith (λc b=>(b.1,c.2.1,b.2)) C B'
 have hB1:Bt.map YP=B':=by
  apply ZBj;intro j;simp only[Bt,YE,List.getElem?_zipWith];by_cases hj:j<B'.length
  .rw[Zx hj,Zx J0];rfl
  .rw[ξY (l:=B') J0,ξY (l:=C) J0];rfl
 have hB2:Bt.map (·.2.1)=C.map (·.2.1):=by
  apply ZBj;intro j;simp only[Bt,YE,List.getElem?_zipWith];by_cases hj:j<B'.length
  .rw[Zx hj,Zx (l:=C) J0];rfl
  .rw[ξY (l:=B') J0,ξY (l:=C) J0];rfl
 have hB3:Bt.map Ye=C.map brP:=by
  apply ZBj;intro j;simp only[Bt,YE,List.getElem?_zipWith];by_cases hj:j<B'.length
  .have h1:=Zx (l:=C) (i:=j) J0;have h2:=Zx hj;obtain⟨e1,e2⟩:=hat j _ _ h1 h2;rw[h1,h2];simp only[Yr,Ye,brP,e1,e2,ZP]
  .rw[ξY (l:=B') J0,ξY (l:=C) J0];rfl
 have hB4:Bt.map (·.1)=B'.map (·.1):=by rw[<-hB1,Jz];rfl
 refine⟨Bt,Y,by rw[hB1];exact hB',⟨?_,by rw[hB2];exact hn,λx hx=> ?_⟩,hY,by rw[hB3]⟩
 .rw[hB4];exact(hB'.map _).nodup_iff.2 hk.1
 .obtain⟨j,hj⟩:=ZEi.1 hx;simp only[Bt,List.getElem?_zipWith]at hj;split at hj
  .rename_i c b h1 h2;cases hj;obtain⟨e1,e2⟩:=hat j c b h1 h2;have:=(hk.2.1 b (hB'.mem_iff.1 (Yz h2))).2;exact⟨by rw[<-e2];exact hr c (Yz h1),by simp only;omega⟩
  .cases hj
theorem ZFW{L:List (Tx×Zd)}{M:List (Tx×Zo)}{m:EM}{B:BM}{Bt:List TB}{Y:J7}(hp:(Bt.map YP).Perm B)(hB:okB Y Bt)(hY:Y.all Ob.nof=true):ZDw 9 [Jw L,Jo M,QI m] (enB B) (KL (Jw L) (Jo M) (.mpo .str true (QI m):: .mpo .str false (Bt.map Ye)::Y)):=by
 refine .inl ⟨_,_,_,Bt.map λx=>(.str x.1,x.2.1,rows ZC x.2.2),Y,rfl,?_,?_,?_,hY,λb hb=> ?_⟩
 .rw[Jz,show(brP∘λx:TB=>(X.str x.1,x.2.1,rows ZC x.2.2))=Ye from funext λx=>by simp only[Function.comp,brP,Ye,ZP]]
 .have h:=hp.map λb:Tx×List Tx=>(X.str b.1,rows ZC b.2)
  rw[Jz]at h;rw[Jz];exact h
 .rw[Jz];exact hB.2.1
 .obtain⟨x,hx,rfl⟩:=YR.1 hb;exact(hB.2.2 x hx).1
theorem ZH.imp{P:Program}{f:FuncId}{args:J8}{os:J7}{Q Q':D->J7->Prop}(h:ZH P f args os Q)(hq: ∀r os',Q r os'->Q' r os'):ZH P f args os Q':=λc E vs R hvl=>
 (h c E vs R hvl).mono λe w' ⟨v,E',r,os',h1,h2,h3,h4,h5,h6⟩=>⟨v,E',r,os',h1,h2,h3,h4,h5,hq r os' h6⟩
theorem ZBJ{A B:BM}(h:A.Perm B)(hn:(A.map (·.1)).Nodup)(n:Tx):YJ A n=YJ B n:=by unfold YJ;rw[ZWJ h hn]
theorem ZN1{A B:BM}(h:A.Perm B)(hn:(A.map (·.1)).Nodup): ∀(k:Nat) (n:Tx),JO A k n=JO B k n
 |0,_=>rfl
 |k+1,n=>by simp only[JO,ZBJ h hn n];congr 1;funext s;rw[ZN1 h hn k s]
theorem ZQE{A B:BM}(h:A.Perm B)(hn:(A.map (·.1)).Nodup): ∀(k:Nat) (n:Tx),deep A k n↔deep B k n
 |0,n=>by simp only[deep,ZBJ h hn n]
 |k+1,n=>by simp only[deep,ZBJ h hn n];exact forall₂_congr λs _=>ZQE h hn k s
theorem ZOJ{κ β:Type}[DecidableEq κ]{A B:List (κ×β)}(h:A.Perm B)(hn:(A.map (·.1)).Nodup)(c:κ)(w:β):(Zu A c w).Perm (Zu B c w):=
 (ZBz A c w).trans (((ZKZ h hn c).cons _).trans (ZBz B c w).symm)
theorem mdel_nodup{κ β:Type}[DecidableEq κ]{A:List (κ×β)}(hn:(A.map (·.1)).Nodup)(c:κ):((Zh A c).map (·.1)).Nodup:=((ZA2 A c).map _).nodup hn
theorem ZWm{A B:BM}(h:A.Perm B)(hn:(A.map (·.1)).Nodup)(c:Int)(n:Tx):(QT c A n).Perm (QT c B n):=by
 unfold QT;rw[ZBJ h hn];split
 .exact ZOJ h hn _ _
 .exact h
theorem ZW4{A B:BM}(h:A.Perm B)(hn:(A.map (·.1)).Nodup)(c:Int)(n:Tx):(ZCK c A n).Perm (ZCK c B n):=by
 unfold ZCK;rw[ZBJ (ZKZ h hn n) (mdel_nodup hn n)];split
 .exact ZOJ (ZKZ h hn n) (mdel_nodup hn n) _ _
 .exact h
section
variable (L:List (Tx×Zd)) (M:List (Tx×Zo)) (m:EM) (B:BM)
theorem ZJv{L:List (Tx×Zd)}{M:List (Tx×Zo)}{m':EM}{B:BM}{Bt:List TB}{Y:J7}(hp:(Bt.map YP).Perm B)(hB:okB Y Bt)(hY:Y.all Ob.nof=true)(Z:J7)(hZ:Z.all Ob.nof=true):ZDw 9 [Jw L,Jo M,QI m'] (enB B) (KL (Jw L) (Jo M) (.mpo .str true (QI m'):: .mpo .str false (Bt.map Ye)::(Y++Z))):=
 ZFW hp (ZG7 hB Z) (by rw[ZJF,hY,hZ];rfl)
theorem ZhQ(n:Tx)(hk:okT m B):ZQ Tryz.prog 28 [.iref 0 0,.x (.str n)] [Kv L M m B] (.tup [.agg [.x (.str (ZHt m n).1),.x (.sl (rows ZL (ZHt m n).2.1))],.x (.bool (ZF m n).isSome)]) [Kv L M m B]:=
 ZGx (args:= [.x (.str n)]) rfl rfl λos h=>by
  obtain⟨Bt,Y,hp,hB,hY,rfl⟩:=ZEj hk h;exact ZH.imp (ZiN (Jw L) (Jo M) m _ Y n (Zio hk)) λr os' ⟨hr,Z,ho,hZ⟩=>⟨hr,NY⟩
theorem Zgn(hk:okT m B):ZQ Tryz.prog 14 [.iref 0 0] [Kv L M m B] (.x (.int .i64 m.length)) [Kv L M m B]:=
 ZGx (args:= []) rfl rfl λos h=>by
  obtain⟨Bt,Y,hp,hB,hY,rfl⟩:=ZEj hk h;exact ZH.imp (ZiQ (Jw L) (Jo M) m _ Y) λr os' ⟨hr,Z,ho,hZ⟩=>⟨hr,NY⟩
theorem Zaf(k:Nat)(hk:okT m B)(hd:deep B k [])(hl:(JO B k []).length<=999999):ZQ Tryz.prog 15 [.iref 0 0] [Kv L M m B] (.x (.sl (rows ZC (JO B k [])))) [Kv L M m B]:=
 ZGx (args:= []) rfl rfl λos h=>by
  obtain⟨Bt,Y,hp,hB,hY,rfl⟩:=ZEj hk h;have hn:((Bt.map YP).map (·.1)).Nodup:=(hp.map _).nodup_iff.2 hk.1;rw[<-ZN1 hp hn]at hl|-;exact ZH.imp (Zfp (Jw L) (Jo M) m Bt k Y hB ((ZQE hp hn _ _).2 hd) hl) λr os' ⟨hr,Z,ho,hZ⟩=>⟨hr,NY⟩
theorem Zgx(n:Tx)(hk:okT m B)(hq:(ZF m n).isSome=true->YJ B n= []->n∈YJ B (YB n)/\YB n≠n):ZQ Tryz.prog 25 [.iref 0 0,.x (.str n)] [Kv L M m B] (.x (.int .i64 (ZBV m B n))) [Kv L M (ZDi (ZBV m B n) m n) (ZCK (ZBV m B n) B n)]:=
 ZGx (args:= [.x (.str n)]) rfl rfl λos hf=>by
  obtain⟨Bt,Y,hp,hB,hY,rfl⟩:=ZEj hk hf;have hn:((Bt.map YP).map (·.1)).Nodup:=(hp.map _).nodup_iff.2 hk.1;have hv:ZBV m B n=ZBV m (Bt.map YP) n:=by unfold ZBV;rw[ZBJ hp hn]
  rw[hv];exact ZH.imp (Zia (Jw L) (Jo M) m Bt Y n hB hY (by rw[ZBJ hp hn,ZBJ hp hn];exact hq)) λr os' ⟨hr,Bt',Y',hp',hB',hY',ho⟩=>⟨hr,by rw[ho];exact ZFW (hp'.trans (ZW4 hp hn _ _)) hB' hY'⟩
theorem Zhv(dn:Tx)(l:List ZN)(hk:okT m B)(h:QD l)(hc:ZG1 M l):ZQ Tryz.prog 12 [.iref 0 0,.agg [.x (.str dn),.x (.sl (rows ZL l))]] [Kv L M m B] (.x (.int .i64 (Kf L M m dn l))) [Kv L M (ZAj (Kf L M m dn l) m dn l) (QT (Kf L M m dn l) B dn)]:=
 ZGx (args:= [.agg [.x (.str dn),.x (.sl (rows ZL l))]]) rfl rfl λos hf=>by
  obtain⟨Bt,Y,hp,hB,hY,rfl⟩:=ZEj hk hf;have hn:((Bt.map YP).map (·.1)).Nodup:=(hp.map _).nodup_iff.2 hk.1;exact ZH.imp (Zij L M m Bt Y dn l h hc hB hY (λx hx=>hk.2.1 (YP x) (hp.mem_iff.1 (YR.2 ⟨x,hx,rfl⟩))) hk.2.2.2) λr os' ⟨hr,Bt',Y',hp',hB',hY',ho⟩=>⟨hr,by rw[ho];exact ZFW (hp'.trans (ZWm hp hn _ _)) hB' hY'⟩
end
def unB:List (X×J6)->Option BM
 | []=>some []
 |(.str s,R)::l=>(ZM ZC R).bind λr=>(unB l).map λq=>(s,r)::q
 |_=>none
theorem ZX3: ∀B:BM,unB (enB B)=some B
 | []=>rfl
 |b::B=>by
  have h:=ZX3 B;unfold enB at h|-;simp only[YM,unB,ZX ZO,h,ZBA,Yr]
theorem ZUX: ∀ {l:List (X×J6)} {B:BM},unB l=some B->l=enB B
 | [],B,h=>Gi
 |p::l,B,h=>by
  obtain⟨x,R⟩:=p;cases x with
  |str s=>
   simp only[unB]at h;obtain⟨r,h1,h⟩:=Zf h;obtain⟨q,h2,rfl⟩:=Za h;rw[ZUX h2,<-YU ZO h1];rfl
  |_=>cases h
def Zhz(P:W2):Option EM:=unM ZC Zn P
theorem Zee(m:EM):Zhz (QI m)=some m:=ZTW ZO Yn m
def unT(o:Ob):Option (List (Tx×Zd)×List (Tx×Zo)×EM×BM):=match o with
 | .fam 9 [P1,P2,P3] b=>(unM ZC YC P1).bind λL=>(unM ZC Yl P2).bind λM=>(Zhz P3).bind λm=>(unB b).map λB=>(L,M,m,B)
 |_=>none
theorem ZTZ(L:List (Tx×Zd))(M:List (Tx×Zo))(m:EM)(B:BM):unT (Kv L M m B)=some (L,M,m,B):=by
 simp only[unT,Kv,ZGD,ZGB,Zee,ZX3,ZBA,Yr]
theorem ZFK{o:Ob}{L:List (Tx×Zd)}{M:List (Tx×Zo)}{m:EM}{B:BM}(h:unT o=some (L,M,m,B)):o=Kv L M m B:=by
 unfold unT at h;split at h
 .rename_i P1 P2 P3 b;obtain⟨L',h1,h⟩:=Zf h;obtain⟨M',h2,h⟩:=Zf h;obtain⟨m',h3,h⟩:=Zf h;obtain⟨B',h4,h⟩:=Za h;cases h;rw[ZCW ZO JI h1,ZCW ZO JT h2,ZCW ZO Yn h3,ZUX h4];rfl
 .cases h
def ZK2:J8->J7->J5
 | [.iref 0 0,.x (.str n)],[o]=>(unT o).map λq=>(decide (okT q.2.2.1 q.2.2.2),.tup [.agg [.x (.str (ZHt q.2.2.1 n).1),.x (.sl (rows ZL (ZHt q.2.2.1 n).2.1))],.x (.bool (ZF q.2.2.1 n).isSome)])
 |_,_=>none
def ZK3:J8->J7->J5
 | [.iref 0 0],[o]=>(unT o).map λq=>(decide (okT q.2.2.1 q.2.2.2),.x (.int .i64 q.2.2.1.length))
 |_,_=>none
def okW(k:Nat)(m:EM)(B:BM)(n:Tx):Prop:=okT m B/\ZN6 B k n=true/\(JO B k n).length<=999999
instance (k:Nat) (m:EM) (B:BM) (n:Tx):Decidable (okW k m B n):=inferInstanceAs (Decidable (_/\_))
def ZK6:J8->J7->J5
 | [.iref 0 0],[o]=>(unT o).map λq=>(decide (okW 40 q.2.2.1 q.2.2.2 []),.x (.sl (rows ZC (JO q.2.2.2 40 []))))
 |_,_=>none
theorem ZRC: ∀args os r,ZK2 args os=some (true,r)->r.clean=true/\ ∃X,ZQ Tryz.prog 28 args os r (os++X):=by
 intro args os r h;unfold ZK2 at h;split at h
 .obtain⟨⟨L,M,m,B⟩,h1,h2⟩:=Za h;simp only[YN,Ym]at h2;obtain⟨h3,rfl⟩:=h2;rw[ZFK h1];exact⟨rfl,[],ZhQ L M m B _ h3⟩
 .cases h
theorem ZSs: ∀args os r,ZK3 args os=some (true,r)->r.clean=true/\ ∃X,ZQ Tryz.prog 14 args os r (os++X):=by
 intro args os r h;unfold ZK3 at h;split at h
 .obtain⟨⟨L,M,m,B⟩,h1,h2⟩:=Za h;simp only[YN,Ym]at h2;obtain⟨h3,rfl⟩:=h2;rw[ZFK h1];exact⟨rfl,[],Zgn L M m B h3⟩
 .cases h
theorem ZWS: ∀args os r,ZK6 args os=some (true,r)->r.clean=true/\ ∃X,ZQ Tryz.prog 15 args os r (os++X):=by
 intro args os r h;unfold ZK6 at h;split at h
 .obtain⟨⟨L,M,m,B⟩,h1,h2⟩:=Za h;simp only[YN,Ym]at h2;obtain⟨h3,rfl⟩:=h2;rw[ZFK h1];exact⟨rfl,[],Zaf L M m B 40 h3.1 ((ZKG B 40 []).1 h3.2.1) h3.2.2⟩
 .cases h
def ZLL:J8->J7->Option (Bool×D×J7)
 | [.iref 0 0,.agg [.x (.str dn),.x (.sl R)]],[o]=>(unT o).bind λq=>(ZM ZL R).map λl=>(decide (okT q.2.2.1 q.2.2.2/\QD l/\ZG1 q.2.1 l),.x (.int .i64 (Kf q.1 q.2.1 q.2.2.1 dn l)),[Kv q.1 q.2.1 (ZAj (Kf q.1 q.2.1 q.2.2.1 dn l) q.2.2.1 dn l) (QT (Kf q.1 q.2.1 q.2.2.1 dn l) q.2.2.2 dn)])
 |_,_=>none
def okD(m:EM)(B:BM)(n:Tx):Prop:=okT m B/\((ZF m n).isSome=true->YJ B n= []->n∈YJ B (YB n)/\YB n≠n)
instance (m:EM) (B:BM) (n:Tx):Decidable (okD m B n):=inferInstanceAs (Decidable (_/\_))
def ZQ5:J8->J7->Option (Bool×D×J7)
 | [.iref 0 0,.x (.str n)],[o]=>(unT o).map λq=>(decide (okD q.2.2.1 q.2.2.2 n),.x (.int .i64 (ZBV q.2.2.1 q.2.2.2 n)),[Kv q.1 q.2.1 (ZDi (ZBV q.2.2.1 q.2.2.2 n) q.2.2.1 n) (ZCK (ZBV q.2.2.1 q.2.2.2 n) q.2.2.2 n)])
 |_,_=>none
theorem ZRe: ∀args os r os',ZLL args os=some (true,r,os')->ZQ Tryz.prog 12 args os r os':=by
 intro args os r os' h;unfold ZLL at h;split at h
 .obtain⟨⟨L,M,m,B⟩,h1,h⟩:=Zf h;obtain⟨l,h2,h⟩:=Za h;simp only[YN,Ym]at h;obtain⟨h3,rfl,rfl⟩:=h;rw[ZFK h1,<-YU Ze h2];exact Zhv L M m B _ l h3.1 h3.2.1 h3.2.2
 .cases h
theorem Zc6: ∀args os r os',ZQ5 args os=some (true,r,os')->ZQ Tryz.prog 25 args os r os':=by
 intro args os r os' h;unfold ZQ5 at h;split at h
 .obtain⟨⟨L,M,m,B⟩,h1,h⟩:=Za h;simp only[YN,Ym]at h;obtain⟨h3,rfl,rfl⟩:=h;rw[ZFK h1];exact Zgx L M m B _ h3.1 h3.2
 .cases h
theorem ZeJ{l:List Tx}(hs:SoL l)(s:Tx)(hn: ∀x∈l,YL x≠YL s):SoL (ZFM l s):=by
 have h1: ∀x∈l.take (JN l s),Op.bytesLess (YL x) (YL s)=true:=λx hx=>by
  obtain⟨j,hj,rfl⟩:=ZKm.1 hx;rw[List.getElem_take];exact ZOO l s j (by rw[Ys]at hj;omega)
 have h2: ∀x∈l.drop (JN l s),Op.bytesLess (YL s) (YL x)=true:=λx hx=>by
  obtain⟨j,hj,rfl⟩:=ZKm.1 hx;rw[KO]at hj;rw[List.getElem_drop];have h3:=mt (ZVi hs s (JN l s+j) J0).1 J0;rcases bl_tot _ _ (hn _ (YG (h:=show JN l s+j<l.length by omega)))with h4|h4
  .exact absurd h4 h3
  .exact h4
 have h0:SoL (l.take (JN l s)++l.drop (JN l s)):=by rw[ZBx];exact hs
 obtain⟨k1,k2,k3⟩:=ZOZ.1 h0;refine ZOZ.2 ⟨k1,ZFv.2 ⟨h2,k2⟩,λa ha b hb=> ?_⟩;rcases Kn.1 hb with rfl|hb
 .exact h1 a ha
 .exact k3 a ha b hb
theorem Zc9{l:List Tx}{s x:Tx}:x∈ZFM l s↔x=s\/x∈l:=by
 have h:x∈l↔x∈l.take (JN l s)\/x∈l.drop (JN l s):=by rw[<-KV,ZBx]
 unfold ZFM;rw[KV,Kn,h];constructor
 .rintro(h|h|h)
  .exact .inr (.inl h)
  .exact .inl h
  .exact .inr (.inr h)
 .rintro(h|h|h)
  .exact .inr (.inl h)
  .exact .inl h
  .exact .inr (.inr h)
def ZER:Bool->Tx->Tx
 |_,[]=> []
 |f,c::r=>ZDu c f (decide (r= []))++ZER false r
theorem ZYQ(s:Tx): ∀j,j<=s.length->ZBF s j++ZER (decide (j=0)) (s.drop j)=ZER true s
 |0,_=>rfl
 |j+1,h=>by
  have ih:=ZYQ s j J0;rw[QQ s j J0,ZER]at ih;have h1:(s.drop (j+1)= [])=(j+1=s.length):=W3
  simp only[h1]at ih;rw[ZBF,ZAx,Yw];exact ih
theorem ZXk(s:Tx):ZDT s=ZER true s:=by
 have:=ZYQ s s.length (Zp _);rw[List.drop_length]at this;rw[<-this];simp[ZDT,ZER]
def vl(r b:Tx)(e:Nat):Option (Tx×Nat):=Jp (r.length+1) r b e
theorem ZNk{n:Nat}{r b:Tx}{e:Nat}(h:r.length<n):Jp n r b e=vl r b e:=ZIZ _ _ _ _ _ h (Nat.lt_succ_self _)
theorem ZMW: ∀n:Fin 16,ZG4 (dgD n.val)=false/\ZBl (dgD n.val).toNat=(n.val,true)/\dgD n.val≠92/\dgD n.val≠43/\dgD n.val≠44:=Un
theorem Zhm(c:UInt8):orB (c.toNat/16) (c.toNat % 16)=c:=by
 unfold orB;apply ZMh.1;have:=ZDo c;simp;omega
theorem Zh9(c:UInt8)(l:Bool)(r b:Tx)(e:Nat):vl (ZDu c (decide (b.length=0)) l++r) b e=vl r (b++ [c]) (if c=32/\slD c (decide (b.length=0)) l=false then e else b.length+1):=by
 have hc:=ZDo c;unfold ZDu;by_cases h1:ZI2 c=true
 .rw[if_pos h1];have h32: ¬c=32:=λh=>by subst h;revert h1;decide
  rw[if_neg (λh=>h32 h.1)];obtain⟨a1,a2,a3,_⟩:=ZMW ⟨c.toNat/16,J0⟩;obtain⟨b1,b2,b3,_⟩:=ZMW ⟨c.toNat % 16,J0⟩;simp only at a1 a2 b1 b2;have he:KZ (dgD (c.toNat/16)::dgD (c.toNat % 16)::r)=(c,2,true):=by
   unfold KZ;rw[if_neg J1];simp only[ZJu,ZTs,a1,a2,b2,JV,if_false,Bool.true_eq_false,false_or,JB];rw[if_neg J0,Zhm]
  show Jp ([92,dgD (c.toNat/16),dgD (c.toNat % 16)]++r).length.succ (92::dgD (c.toNat/16)::dgD (c.toNat % 16)::r) b e=_;rw[Jp,if_pos rfl,he,if_pos rfl];exact ZNk (by simp<;>omega)
 .rw[if_neg h1];by_cases h2:slD c (decide (b.length=0)) l=true
  .rw[if_pos h2,if_neg (by rw[h2];simp)];have hf:ZG4 c=true:=by
    unfold slD at h2;unfold ZG4;simp only[ZBW,Zk,Ym]at h2|-;rcases h2 with h2|⟨_,h2|h2⟩|⟨_,h2⟩
    .exact .inl (.inl h2)
    .exact .inl (.inr J0)
    .exact N8
    .exact .inl (.inr J0)
   have he:KZ (c::r)=(c,1,true):=by
    unfold KZ;rw[if_neg J1,ZJu,if_pos hf]
   show Jp ([92,c]++r).length.succ (92::c::r) b e=_;rw[Jp,if_pos rfl,he,if_pos rfl];exact ZNk (by simp<;>omega)
  .rw[if_neg h2];have h3:spc c.toNat=false:=by
    cases hs:spc c.toNat
    .rfl
    .exact absurd (by unfold slD;rw[hs];rfl) h2
   have h4:b.length=0->c.toNat≠35:=λhz h35=>h2 (by unfold slD;simp[hz,h35])
   have h92: ¬c=92:=λh=>by subst h;revert h3;decide
   have hb:ZHu c.toNat (decide (b.length=0))=false:=by
    unfold ZI2 at h1;simp only[ZBW,Ym,not_or]at h1;unfold ZHu;simp only[ZTx,ZWC,decide_eq_false_iff_not];refine⟨⟨⟨J0,J0⟩,.inr h3⟩,?_⟩;by_cases hz:b.length=0
    .right;exact h4 hz
    .left;simpa using hz
   show Jp ([c]++r).length.succ (c::r) b e=_;rw[Jp,if_neg h92,hb,if_neg J1];by_cases h32:c=32
   .rw[if_pos h32,if_pos ⟨h32,U9⟩];exact ZNk (by simp<;>omega)
   .rw[if_neg h32,if_neg (λh=>h32 h.1)];exact ZNk (by simp<;>omega)
theorem ZZj: ∀(s b:Tx) (e:Nat),vl (ZER (decide (b.length=0)) s) b e=some (b++s,if s= []then e else b.length+s.length)
 | [],b,e=>by rw[Ks,if_pos rfl];rfl
 |c::r,b,e=>by
  have ih:=ZZj r (b++ [c]) (if c=32/\slD c (decide (b.length=0)) (decide (r= []))=false then e else b.length+1);rw[show decide ((b++ [c]).length=0)=false by simp]at ih;rw[ZER,Zh9,ih]
  conv=>rhs;rw[if_neg J1]
  rcases r with _|⟨d,r⟩
  .rw[if_pos rfl];have: ¬(c=32/\slD c (decide (b.length=0)) (decide (([]:Tx)= []))=false):=by
    rintro⟨rfl,h⟩
    revert h
    simp[slD]
   rw[if_neg this];simp
  .rw[if_neg J1];simp;omega
theorem Ze4(c:UInt8)(r:Tx):trL (ZER true (c::r))=ZER true (c::r):=by
 rw[ZER];unfold ZDu;split
 .rw[ξX,ZC3,if_neg WS]
 .split
  .rw[ξX,ZC3,if_neg WS]
  .rename_i h1 h2;rw[ξX,ZC3,if_neg];rintro rfl;exact h2 (by simp[slD])
theorem ZYk{v:Tx}(h:v≠ []):ZFw (ZDT v)=(v,true):=by
 obtain⟨c,r,rfl⟩:=List.exists_cons_of_ne_nil h;unfold ZFw;rw[ZXk,Ze4];have:=ZZj (c::r) [] 0;rw[if_neg h]at this;unfold vl at this;rw[show Jp ((ZER true (c::r)).length+1) (ZER true (c::r)) [] 0=_ from this];simp
def ZBd(a:UInt8)(x:Tx):Prop:= ∀y,Yf a (x++y)=pre x (Yf a y)
theorem ZKv(a:UInt8):ZBd a []:=λy=>(ZOj _ (ZIT a y)).symm
theorem ZC1{a:UInt8}{x y:Tx}(h1:ZBd a x)(h2:ZBd a y):ZBd a (x++y):=λz=>by
 rw[Yw,h1,h2,ZPU _ _ _ (ZIT _ _)]
theorem ZFc{a c:UInt8}(h1:c≠92)(h2:c≠a):ZBd a [c]:=λy=>by
 show Yf a (c::y)=_
 conv=>lhs;unfold Yf
 rw[if_neg h1,if_neg h2]
theorem ZQL(a c:UInt8):ZBd a [92,c]:=λy=>by
 show Yf a (92::c::y)=_
 conv=>lhs;unfold Yf
 rw[if_pos rfl]
theorem ZYX{a:UInt8}(ha:a≠92){x:Tx}(h:ZBd a x)(y:Tx):Yf a (x++a::y)=x::Yf a y:=by
 rw[h]
 conv=>lhs;arg 2;unfold Yf
 rw[if_neg ha,if_pos rfl];simp[pre]
theorem ZZy{a:UInt8}{x:Tx}(h:ZBd a x):Yf a x= [x]:=by
 have:=h [];rw[Ks]at this;rw[this];show pre x [[]]= [x];simp[pre]
theorem ZOV{a:UInt8}(ha:a≠92): ∀l:List Tx,l≠ []->(∀x∈l,ZBd a x)->Yf a (Qi a l)=l
 | [],h,_=>absurd rfl h
 | [x],_,h=>ZZy (h x (List.mem_singleton_self x))
 |x::y::r,_,h=>by
  rw[ZBS a J1,ZYX ha (h x J1),ZOV ha (y::r) J1 (λz hz=>h z (ξW _ hz))]
theorem ZQT{a b:UInt8}(hb:b≠92)(hab:b≠a): ∀l:List Tx,(∀x∈l,ZBd a x)->ZBd a (Qi b l)
 | [],_=>ZKv a
 | [x],h=>h x (List.mem_singleton_self x)
 |x::y::r,h=>by
  rw[ZBS b J1,show x++b::Qi b (y::r)=x++([b]++Qi b (y::r))from rfl];exact ZC1 (h x J1) (ZC1 (ZFc hb hab) (ZQT hb hab (y::r) (λz hz=>h z (ξW _ hz))))
theorem ZX4{a:UInt8}(ha:a=43\/a=44)(c:UInt8)(f l:Bool):ZBd a (ZDu c f l):=by
 have hc:=ZDo c;unfold ZDu;split
 .obtain⟨_,_,b3,b4,b5⟩:=ZMW ⟨c.toNat % 16,J0⟩;exact ZC1 (x:= [92,dgD (c.toNat/16)]) (y:= [dgD (c.toNat % 16)]) (ZQL a _) (ZFc b3 (by rcases ha with rfl|rfl;exact b4;exact b5))
 .split
  .exact ZQL a c
  .rename_i h;have h3: ¬spc c.toNat=true:=λh3=>h (by simp[slD,h3])
   refine ZFc (λe=> ?_) (λe=> ?_)
   .subst e;exact h3 WS
   .subst e;rcases ha with rfl|rfl<;>exact h3 WS
theorem ZNo{a:UInt8}(ha:a=43\/a=44): ∀(s:Tx) (f:Bool),ZBd a (ZER f s)
 | [],f=>ZKv a
 |c::r,f=>ZC1 (ZX4 ha c f _) (ZNo ha r false)
theorem ZLc{a:UInt8}: ∀s:Tx,(∀c∈s,c≠92/\c≠a)->ZBd a s
 | [],_=>ZKv a
 |c::r,h=>ZC1 (x:= [c]) (ZFc (h c J1).1 (h c J1).2) (ZLc r (λx hx=>h x (ξW _ hx)))
theorem ZUv(s:Tx): ∀n,n<=s.length->tyU s n=true-> ∀c∈s.take n,ZO4 c.toNat=true\/ZO2 c.toNat=true
 |0,_,_,c,hc=>by simp at hc
 |n+1,hn,hg,c,hc=>by
  rw[tyU,Zk]at hg;rw[JU J0,KV,Qf]at hc;rcases hc with hc|rfl
  .exact ZUv s n J0 hg.1 c hc
  .have:=hg.2;rw[show s.getD n 0=s[n] by simp[show n<s.length by omega]]at this;unfold tyC at this;simp only[ZBW,Zk]at this;rcases this with h|h
   .exact .inl h
   .exact .inr h.2
theorem ZSr{s:Tx}(h:Jj s=true): ∀c∈s,ZO4 c.toNat=true\/ZO2 c.toNat=true:=by
 unfold Jj tyA at h;simp only[Zk]at h;intro c hc;exact ZUv s s.length (Zp _) h.2 c (by rw[JX];exact hc)
theorem ZYn{c:UInt8}(h:ZO4 c.toNat=true\/ZO2 c.toNat=true):c≠92/\c≠43/\c≠44/\c≠61/\c≠32:=by
 refine⟨?_,?_,?_,?_,?_⟩<;>rintro rfl<;>revert h<;>decide
theorem ZVs{c:UInt8}: ∀(t u:Tx),c∉t->Kp c (t++c::u)=(t,u,true)
 | [],u,_=>by simp[Kp]
 |b::t,u,h=>by
  have h1: ¬b=c:=λe=>h (by simp[e])
  rw[ξX,Kp,if_neg h1,ZVs t u (λhm=>h (ξW _ hm))]
theorem Zda{l:Tx}(h: ∀c∈l,c≠32):l.dropWhile (· ==32)=l:=by
 cases l with
 |nil=>rfl
 |cons c l=>rw[ZWw,if_neg (by simpa using h c J1)]
theorem Zde{t:Tx}(h: ∀c∈t,c≠32):ZEa t=t:=by
 have h1:trR t=t:=by
  unfold trR;rw[Zda (λc hc=>h c (List.mem_reverse.1 hc)),List.reverse_reverse]
 unfold ZEa trL;rw[h1,Zda h]
theorem ZXf{p:Av}(ht:Jj p.1=true)(hv:p.2≠ []):JR (Qn p)=(p,true):=by
 have hm:=λ(c:UInt8) (hc:c∈p.1)=>ZYn (ZSr ht c hc)
 have hc:Kp 61 (Qn p)=(p.1,ZDT p.2,true):=by
  unfold Qn;rw[Yw];exact ZVs _ _ (λh=>(hm _ h).2.2.2.1 rfl)
 have htr:ZEa p.1=p.1:=Zde λc h=>(hm c h).2.2.2.2
 unfold JR;rw[hc];simp only[htr,ht,ZYk hv];simp
theorem ZPn{a:UInt8}(ha:a=43\/a=44){p:Av}(ht:Jj p.1=true):ZBd a (Qn p):=by
 unfold Qn;rw[ZXk];refine ZC1 (ZC1 (ZLc _ λc hc=> ?_) (ZFc WS (by rcases ha with rfl|rfl<;>decide))) (ZNo ha _ _);have:=ZYn (ZSr ht c hc);rcases ha with rfl|rfl
 .exact⟨this.1,this.2.1⟩
 .exact⟨this.1,this.2.2.1⟩
theorem ZEr{r:List Av}(h:JA r=true):r≠ []/\r.length<=8/\ ∀p∈r,Jj p.1=true/\p.2≠ []:=by
 unfold JA at h;simp only[Zk,Ym]at h;refine⟨λe=>by rw[e]at h;simp at h,h.2.2,λp hp=> ?_⟩;obtain⟨j,hj,rfl⟩:=ZKm.1 hp;have h1:=ZSp r _ j h.1 hj;unfold ZAh at h1;rw[show r.getD j ([],[])=r[j] by simp[hj]]at h1;simp only[Zk]at h1;exact⟨h1.1,by simpa using h1.2.1⟩
theorem ZZl{r:List Av}(h:JA r=true):ZBd 44 (JD r):=
 ZQT WS WS _ λx hx=>by
  obtain⟨p,hp,rfl⟩:=YR.1 hx;exact ZPn (.inr rfl) ((ZEr h).2.2 p hp).1
theorem ZYC{r:List Av}(h:JA r=true):Zr (JD r)=(r,true):=by
 obtain⟨h0,_,h2⟩:=ZEr h;have hl:ZFX (JD r)=r.map λp=>(p,true):=by
  unfold ZFX JD;rw[ZOV WS _ Vg (λx hx=>by
   obtain⟨p,hp,rfl⟩:=YR.1 hx;exact ZPn (.inl rfl) (h2 p hp).1),Jz]
  exact ZBu λp hp=>ZXf (h2 p hp).1 (h2 p hp).2
 unfold Zr;rw[hl,if_pos J1,Jz];exact congrArg (·,true) (List.map_id' _)
theorem ZEC{d:Dn}(h:Jr d=0):d.length<=32/\ ∀r∈d,JA r=true:=by
 unfold Jr at h;split at h
 .cases h
 .split at h
  .rename_i h1 h2;exact⟨J0,Yg.1 h2⟩
  .cases h
theorem Zhs(p:Av):Qn p≠ []:=by unfold Qn;simp
theorem ZS8{r:List Av}(h:r≠ []):JD r≠ []:=by
 obtain⟨p,r,rfl⟩:=List.exists_cons_of_ne_nil h;unfold JD;cases r with
 |nil=>exact Zhs p
 |cons q r=>rw[YM,ZBS 43 J1];simp
theorem ZZU: ∀ {d:Dn} {n:Nat},(∀r∈d,r.length<=n)->mxD d<=n
 | [],n,_=>by simp[mxD]
 |r::d,n,h=>by
  have h1:=h r J1;have h2:=ZZU (d:=d) (λx hx=>h x (ξW _ hx));rw[mxD];omega
theorem ZKe{d:Dn}(h:Jr d=0)(hl:(Kc d).length<=4096):YX (Kc d)=(d,0):=by
 obtain⟨h1,h2⟩:=ZEC h;cases d with
 |nil=>rfl
 |cons r d=>
  have hr:=h2 r J1;have hne:Kc (r::d)≠ []:=by
   unfold Kc;cases d with
   |nil=>exact ZS8 (ZEr hr).1
   |cons q d=>rw[YM,ZBS 44 J1];simp
  have hL:ZCl (Kc (r::d))=(r::d).map λr=>(r,true):=by
   unfold ZCl Kc;rw[ZOV WS _ J1 (λx hx=>by
    obtain⟨q,hq,rfl⟩:=YR.1 hx;exact ZZl (h2 q hq)),Jz]
   exact ZBu λq hq=>ZYC (h2 q hq)
  have hn:ZBI (Kc (r::d))=r::d:=by unfold ZBI;rw[hL,Jz];exact List.map_id' _
  unfold YX;rw[if_neg J0,if_neg hne,hL,if_pos J1,hn,if_neg (by have:=ZZU (d:=r::d) (n:=8) (λx hx=>(ZEr (h2 x hx)).2.1);omega),if_neg (by rw[h];simp)]
structure NmD (s:Tx) (d:Dn):Prop where
 rd:YX s=(d,0)
 nam:s=Kc d
 chk:Jr d=0
 nrm:d.map KM=d
 full:d.all KX=true
 len:s.length<=4096
theorem ZYR{s:Tx}(h:okS s=true): ∃d,NmD s d:=by
 have hr:=ZS5 h;have hno:JW s=(s,0):=of_decide_eq_true h;unfold JW at hno;rw[if_neg (by rw[hr];simp)]at hno;split at hno
 .rename_i hf;unfold Qp at hno;split at hno
  .rename_i h1;exact absurd (congrArg Prod.snd hno) h1
  .rename_i h1;split at hno
   .cases hno
   .rename_i h2;have hs:Kc ((YX s).1.map KM)=s:=congrArg Prod.fst hno;have hb:=ZKe (ZHq.1 h1) J0;rw[hs]at hb;have hd:(YX s).1.map KM=(YX s).1:=by
     conv=>rhs;rw[hb]
    refine⟨(YX s).1,?_,?_,?_,hd,hf,by rw[<-hs];omega⟩
    .exact ZCE rfl hr
    .rw[hd]at hs;exact hs.symm
    .rw[hd]at h1;exact ZHq.1 h1
 .cases hno
theorem NmD.ok{s:Tx}{d:Dn}(h:NmD s d):okS s=true:=by
 refine ZI ?_;unfold JW;rw[h.rd];simp only[ne_eq,not_true_eq_false,if_false,h.full,if_true,h.nrm];unfold Qp;rw[if_neg (by rw[h.chk];simp),if_neg (by have:=h.len;rw[h.nam]at this;omega),<-h.nam]
theorem ZRa{d:Dn}(h1:d.length<=32)(h2: ∀r∈d,JA r=true):Jr d=0:=by
 unfold Jr;rw[if_neg J0,if_pos (Yg.2 h2)]
theorem ZHm{a:UInt8}: ∀ {l:List Tx} {x:Tx},x∈l->x.length<=(Qi a l).length
 | [y],x,h=>by rw[Qf.1 h];exact Zp _
 |y::z::r,x,h=>by
  rw[ZBS a J1,ZW,JB];rcases Kn.1 h with rfl|h
  .omega
  .have:=ZHm (a:=a) h;omega
theorem NmD.parts{s:Tx}{d:Dn}(h:NmD s d):Zv s=d.map JD:=by
 unfold Zv;rw[if_pos h.ok,h.rd];refine ZBu λr hr=> ?_
 have h1:=(ZEC h.chk).2 r hr;have h2:Jr [r]=0:=ZRa J1 WC;have h3:(JD r).length<=s.length:=by
  rw[h.nam];exact ZHm (YR.2 ⟨r,hr,rfl⟩)
 have:=h.len;unfold Qp;rw[if_neg (by rw[h2];simp),if_neg (by show ¬(JD r).length>4096;omega)];rfl
theorem NmD.tail{s:Tx}{r:List Av}{d:Dn}(h:NmD s (r::d)):NmD (Kc d) d:=by
 obtain⟨h1,h2⟩:=ZEC h.chk;have hc:Jr d=0:=ZRa (by simp at h1;omega) (λx hx=>h2 x (ξW _ hx));have hl:(Kc d).length<=4096:=by
  have:=h.len;rw[h.nam]at this;unfold Kc at this|-;cases d with
  |nil=>simp[Qi]
  |cons q d=>rw[YM,ZBS 44 J1,ZW,JB]at this;omega
 have hn:=h.nrm;rw[YM,ZEP]at hn;have hf:=h.full;rw[ZAL,Zk]at hf;exact⟨ZKe hc hl,rfl,hc,hn.2,hf.2,hl⟩
theorem ZIS{s:Tx}(h:JG s=true): ∃r d,NmD s (r::d)/\YL s=JD r/\YB s=Kc d:=by
 have h0:Zv s≠ []:=of_decide_eq_true h;have hok:okS s=true:=by
  cases e:okS s
  .exact absurd (by unfold Zv;rw[e];rfl) h0
  .rfl
 obtain⟨d,hd⟩:=ZYR hok;have hp:=hd.parts;cases d with
 |nil=>rw[hp]at h0;exact absurd rfl h0
 |cons r d=>
  refine⟨r,d,hd,?_,?_⟩
  .unfold YL;rw[hp];rfl
  .unfold YB;rw[hp];rfl
theorem Zaj{d:Dn}(h: ∀r∈d,JA r=true):Kc d= []↔d= []:=by
 constructor
 .intro e;cases d with
  |nil=>rfl
  |cons r d=>
   have h1:=(ZEr (h r J1)).1;unfold Kc at e;cases d with
   |nil=>exact absurd e (ZS8 h1)
   |cons q d=>rw[YM,ZBS 44 J1]at e;simp at e
 .rintro rfl;rfl
theorem ZPD{s:Tx}(h:JG s=true):s=if YB s= []then YL s else YL s++44::YB s:=by
 obtain⟨r,d,hd,h1,h2⟩:=ZIS h;have hm:=(ZEC hd.chk).2;rw[h1,h2]
 conv=>lhs;rw[hd.nam]
 cases d with
 |nil=>rfl
 |cons q d=>
  rw[if_neg (λe=>by have:=(Zaj (λx hx=>hm x (ξW _ hx))).1 e;cases this)];unfold Kc;rw[YM,ZBS 44 J1]
theorem ZSF{s t:Tx}(h1:JG s=true)(h2:JG t=true)(hl:YL s=YL t)(hp:YB s=YB t):s=t:=by
 rw[ZPD h1,ZPD h2,hl,hp]
theorem ZRc{s:Tx}(h:JG s=true):YB s≠s:=by
 intro e;have h1:=ZPD h;obtain⟨r,d,hd,h3,h4⟩:=ZIS h;have h5:=ZS8 (ZEr ((ZEC hd.chk).2 r J1)).1;split at h1
 .rename_i h6;rw[e]at h6;rw[h3]at h1;exact h5 (h1.symm.trans h6)
 .have:=congrArg List.length h1;rw[ZW,JB,e]at this;omega
end Go.Proofs.YtiogclkbccdefaaGreatDoor
end
