import Derived.Test.YtiogclkbccdefaaGreatDoorMA3
import Derived.Test.YtiogclkbccdefaaGreatDoorLA5
import Derived.Test.YtiogclkbccdefaaGreatDoorProg
import Derived.Test.YtiogclkbccdefaaGreatDoorMA1
import Derived.Test.YtiogclkbccdefaaGreatDoorLA6
set_option linter.unusedSimpArgs false
set_option linter.unusedVariables false
set_option maxRecDepth 100000
theorem VE{A B:Prop}(hZ:A)(k:Go.Ab.Bx A->B:=by(intro hZ;refine WI.seq ?_;refine WI.regB tT [4] ?_;refine Vm ?_;refine JK ?_;exact hZ.h)):B:=k ⟨hZ⟩
theorem VG{p:Prop}(h:p:=by clear uu;omega):p:=h
theorem Ud{A B:Prop}(hZ:A)(k:Go.Ab.Bx A->B:=by(intro hZ;refine xFS ?_;refine xFS ?_;refine xFS ?_;exact hZ.h)):B:=k ⟨hZ⟩
theorem Tf{p:Prop}(h:p:=by rw[ho];exact ZF5 hp hB hY Z hZ):p:=h
theorem T7{A B:Prop}(hZ:A)(k:Go.Ab.Bx A->B:=by(intro hZ;refine xAC ?_;refine xAG ?_;refine xN ?_;refine Wz ?_;refine WI.regB tT [4] ?_;refine Vm ?_;exact hZ.h)):B:=k ⟨hZ⟩
theorem TA{A B:Prop}(hZ:A)(k:Go.Ab.Bx A->B:=by(intro hZ;refine Wn ?_;refine WJ ?_;refine Zd ?_;refine ZU ?_;refine Ws ?_;exact hZ.h)):B:=k ⟨hZ⟩
theorem Gf{p:Prop}(h:p:=by refine rg [4,6,7] ?_;refine W8 ?_;exact⟨rfl,[_,_],congrArg (λz=>Jr P1 P2 (_::_::z)) (Ys Y [_] [_]),rfl⟩):p:=h
theorem Gu{p:Prop}(h:p:=by refine Wu ?_;refine WU ?_;refine WU ?_;refine Us ?_;refine W4 ?_;refine Wl ?_;exact⟨_,rfl,rfl,rfl⟩):p:=h
theorem Ni{p:Prop}(h:p:=by subst hres;refine Wj ?_;exact⟨rfl,_,congrArg (Jr _ _) (Ys _ _ _),by simp[Ob.nof,hZ]⟩):p:=h
theorem N3{p:Prop}(h:p:=by rw[if_neg hv,if_neg hv];exact⟨rfl,Bt,_,ZI0 _,ZGs hB _,by rw[ZJh,hY,hX];rfl,rfl⟩):p:=h
theorem NW{A B:Prop}(hZ:A)(k:Go.Ab.Bx A->B:=by(intro hZ;refine Ud ?_;refine xRG ?_;refine Ud ?_;refine xFS ?_;refine xAG ?_;exact hZ.h)):B:=k ⟨hZ⟩
theorem XZ{p:Prop}(h:p:=by simp[Zk,h]):p:=h
theorem Hv{p:Prop}(h:p:=by rw[hn1];exact GZ):p:=h
theorem H5{p:Prop}(h:p:=by exact ZOE (by simp<;>omega)):p:=h
theorem H8{p:Prop}(h:p:=by rw[ξV (l:=B') J0,ξV (l:=C) J0];rfl):p:=h
theorem HR{p:Prop}(h:p:=by simp[Ob.nof,hW]):p:=h
section
namespace Go.Proofs.YtiogclkbccdefaaGreatDoor
open Go.RowKit Go.Bo Go.Ab
def plT:List Ze:= [([99,110],1,false,()),([115,110],1,false,()),([111,117],1,false,()),([100,99],1,false,()),([111],1,false,()),([100,101,115,99,114,105,112,116,105,111,110],1,false,()),([109,97,105,108],1,false,()),([111,98,106,101,99,116,99,108,97,115,115],1,false,()),([117,115,101,114,112,97,115,115,119,111,114,100],4,true,()),([117,105,100],1,true,()),([117,105,100,110,117,109,98,101,114],3,true,()),([109,101,109,98,101,114],5,false,()),([115,101,114,105,97,108,110,117,109,98,101,114],2,false,())]
def plC:List Zi:= [([116,111,112],[],[],()),([112,101,114,115,111,110],[[99,110],[115,110]],[[100,101,115,99,114,105,112,116,105,111,110],[117,115,101,114,112,97,115,115,119,111,114,100],[109,97,105,108],[117,105,100],[117,105,100,110,117,109,98,101,114],[115,101,114,105,97,108,110,117,109,98,101,114],[109,101,109,98,101,114]],()),([111,114,103,97,110,105,122,97,116,105,111,110,97,108,117,110,105,116],[[111,117]],[[100,101,115,99,114,105,112,116,105,111,110],[109,101,109,98,101,114]],()),([100,111,109,97,105,110],[[100,99]],[[100,101,115,99,114,105,112,116,105,111,110],[111]],()),([103,114,111,117,112],[[99,110]],[[109,101,109,98,101,114],[100,101,115,99,114,105,112,116,105,111,110]],())]
theorem Zhd:ZMm plT plC=0:=Uu
theorem ZYO:smT plT:=Uu
theorem ZhC:smC plC:=Uu
def ZX7:J8->J7->Option (Bool×D×Ob)
 | [.ref 0 8 0 8],[.rows false 9 1 [[.str a],[.str b],[.str c],[.str d],[.str e],[.str f],[.str g],[.str h]]]=>some (true,.ref 1 8 0 8,.rows false 82 3 [[.str a,.int .i64 1,.bool false],[.str b,.int .i64 1,.bool false],[.str c,.int .i64 1,.bool false],[.str d,.int .i64 1,.bool false],[.str e,.int .i64 1,.bool false],[.str f,.int .i64 1,.bool false],[.str g,.int .i64 1,.bool false],[.str h,.int .i64 1,.bool false]])
 |_,_=>none
theorem Zf6: ∀args os r ob,ZX7 args os=some (true,r,ob)->(∃fz e sz rs,ob= .rows fz e sz rs)/\ZO Tryz.prog 37 args os r (os++ [ob]):=by
 intro args os r ob h;unfold ZX7 at h;split at h
 .rename_i a b c d e f g h;simp only[Yu,YP,true_and]at h;obtain⟨rfl,rfl⟩:=h;exact⟨⟨_,_,_,_,rfl⟩,Ziz [a,b,c,d,e,f,g,h] J1⟩
 .cases h
theorem ZXW:Enters Tryz.prog 38:=QT 38
theorem ZgR:ZO Tryz.prog 11 [] [] (.ptr 0 0) (scO (Zp plT) (YE plC)):=by
 have hO:=ZCf (Zp plT) (YE plC);have hnew:ZO Tryz.prog 38 [.x (.sl [[.str [99,110],.int .i64 1,.bool false],[.str [115,110],.int .i64 1,.bool false],[.str [111,117],.int .i64 1,.bool false],[.str [100,99],.int .i64 1,.bool false],[.str [111],.int .i64 1,.bool false],[.str [100,101,115,99,114,105,112,116,105,111,110],.int .i64 1,.bool false],[.str [109,97,105,108],.int .i64 1,.bool false],[.str [111,98,106,101,99,116,99,108,97,115,115],.int .i64 1,.bool false],[.str [117,115,101,114,112,97,115,115,119,111,114,100],.int .i64 4,.bool true],[.str [117,105,100],.int .i64 1,.bool true],[.str [117,105,100,110,117,109,98,101,114],.int .i64 3,.bool true],[.str [109,101,109,98,101,114],.int .i64 5,.bool false],[.str [115,101,114,105,97,108,110,117,109,98,101,114],.int .i64 2,.bool false]]),.x (.sl [[.str [116,111,112],.sl [],.sl []],[.str [112,101,114,115,111,110],.sl [[.str [99,110]],[.str [115,110]]],.sl [[.str [100,101,115,99,114,105,112,116,105,111,110]],[.str [117,115,101,114,112,97,115,115,119,111,114,100]],[.str [109,97,105,108]],[.str [117,105,100]],[.str [117,105,100,110,117,109,98,101,114]],[.str [115,101,114,105,97,108,110,117,109,98,101,114]],[.str [109,101,109,98,101,114]]]],[.str [111,114,103,97,110,105,122,97,116,105,111,110,97,108,117,110,105,116],.sl [[.str [111,117]]],.sl [[.str [100,101,115,99,114,105,112,116,105,111,110]],[.str [109,101,109,98,101,114]]]],[.str [100,111,109,97,105,110],.sl [[.str [100,99]]],.sl [[.str [100,101,115,99,114,105,112,116,105,111,110]],[.str [111]]]],[.str [103,114,111,117,112],.sl [[.str [99,110]]],.sl [[.str [109,101,109,98,101,114]],[.str [100,101,115,99,114,105,112,116,105,111,110]]]]])] [] (.tup [.ptr 0 0,.x (.int .i64 0)]) (scO (Zp plT) (YE plC)):=
  Zjc plT plC ZYO ZhC _ _ (λ_=>⟨rfl,rfl⟩) (λh=>absurd Zhd h)
 refine ZF.mcallsX (fC 11 true ?_) WS hO Vk;intro C0 E0;have uu:=ξ9 @ZHd @ZHh @ZHj @ZHe @ZCa @ZCb @ZDw @ZDt (Qu @ZAe @ZAf @ZX7.eq_1 @ZX7.eq_2);have tT:=aK ZB Zf6;refine WI.seq ?_;refine WI.regB tT [] ?_;refine WQ ?_;refine WI.regB tT [1] ?_;refine oG ?_;refine oC ?_;refine WQ ?_;refine WI.regB tT [1] ?_;refine oS ?_
 iterate 7 refine oG ?_
 refine WQ ?_;refine WI.pickA [1] ?_;refine WI.cutA ZB [15,29] 15 ?_;simp only[Qm,ZB0,ZEH,ZCG];refine oS ?_
 iterate 14 refine oG ?_
 refine oP ?_;refine Zeu [0,9] ?_;refine Jg [] ?_;refine Zj9 ?_;refine ZHw ?_;refine WR.regB (ZDC ZB ZXW hnew) [2] ?_;refine GD ?_;refine WQ ?_;refine WI.regB ZB [0] ?_;refine GB ?_;refine ZAY ?_;exact⟨rfl,[],rfl⟩
def ZOb:J8->J7->J5
 | [.ptr 0 0,.x (.str n)],[.box [.mref 1,.mref 2],.mpo .str true P1,.mpo .str true P2]=>(unM ZC Zz P1).bind λL=>(unM ZC YW P2).bind λM=>some (decide (n.length<=140737488355328),.tup [tyD (Ke L (ZE n)),.x (.bool (ZH L (ZE n)).isSome)])
 |_,_=>none
theorem ZQF:RK Tryz.prog ZOb 122:=by
 intro args os r h;unfold ZOb at h;split at h
 .obtain⟨L,rfl,i0⟩:=um ZP JC h;obtain⟨M,rfl,i1⟩:=um ZP JP i0;obtain⟨h1,rfl⟩:=Yn i1;exact rk (Zgv L M _ h1)
 .cases h
def ZCR(L:List (Tx×Ze))(l:List ZN)(p:Av):Bool:=(ZH L (ZE p.1)).isSome&&ZJn l p.1 p.2 (Ke L (ZE p.1)).2.1
def ZEd(L:List (Tx×Ze))(dn:Tx)(l:List ZN):Bool:=JH dn&&(decide ((Ya (YQ dn)).1≠ [])&&((Ya (YQ dn)).1.headD []).all (ZCR L l))
theorem Zff{s:Tx}{r:List Av}(h:r∈(Ya s).1):JA r=true:=by
 have hz:(Ya s).2=0:=by
  unfold Ya at h|-;split
  .rename_i h1;rw[if_pos h1]at h;cases h
  .rename_i h1;rw[if_neg h1]at h;split
   .rfl
   .rename_i h2;rw[if_neg h2]at h;split
    .rename_i h3;rw[if_pos h3]at h;split
     .rename_i h4;rw[if_pos h4]at h;cases h
     .rename_i h4;rw[if_neg h4]at h;split
      .rename_i h5;rw[if_pos h5]at h;cases h
      .rfl
    .rename_i h3;rw[if_neg h3]at h;cases h
 exact(ZER (ZPR s hz)).2 r h
theorem ZFI(Y:J7)(z:Ob)(t:J7):(Y++z::t)[Y.length]? =some z:=TG
theorem Zh6(Y:J7)(x z:Ob)(t:J7):(Y++x::z::t)[Y.length+1]? =some z:=by rw[QI J0];simp
theorem Zj7(Y:J7)(x y z:Ob)(t:J7):(Y++x::y::z::t)[Y.length+1+1]? =some z:=by rw[QI J0];simp[ZFe]
theorem ZWv(Z:J7)(x z:Ob)(t:J7):(Z++x::t).set Z.length z=Z++z::t:=by rw[ZDm _ _ J0];simp
theorem ZkE(Z:J7)(x y z:Ob)(t:J7):(Z++x::y::t).set (Z.length+1) z=Z++x::z::t:=by rw[ZDm _ _ J0];simp
theorem ZjH(Z:J7)(x y:Ob):Z++ [x]++ [y]=Z++ [x,y]:=TG
def okM(M:List (Tx×Zi)):Prop:= ∀p∈M,p.2.2.1.length<=1000000/\p.2.2.2.1.length<=1000000
instance (M:List (Tx×Zi)):Decidable (okM M):=inferInstanceAs (Decidable (∀p∈M,_))
theorem Zgx{M:List (Tx×Zi)}(h:okM M):bdC M:=by
 intro k;unfold clV;rcases hm:ZH M k with _|c
 .simp
 .have:=h _ (JD hm);exact V3
def ZEG(M:List (Tx×Zi))(l:List ZN):Prop:=okM M/\smA l/\ ∀a∈l,∀v∈a.2.1,v.length<=1000000
instance (M:List (Tx×Zi)) (l:List ZN):Decidable (ZEG M l):=inferInstanceAs (Decidable (_/\_/\_))
def Zj2(L:List (Tx×Ze)):Prop:=L.length<=1000000/\ ∀p∈L,p.1.length<=1000000
instance (L:List (Tx×Ze)):Decidable (Zj2 L):=inferInstanceAs (Decidable (_/\_))
theorem ZO.nn{P:Program}{f:FuncId}{args:J8}{os os':J7}{r:D}(h:ZO P f (args.map D.nn) os r os'):ZO P f args os r os':=by
 intro c E vs R hvl;refine h c E vs R ⟨by rw[Yc];exact hvl.1,λj d v hd hv=> ?_⟩;rw[YI]at hd;obtain⟨d0,hd0,rfl⟩:=Zc hd;exact(hvl.2 j d0 v hd0 hv).nn
def ZLU:J8->J7->J5
 | [.ptr 0 0,.agg [.x (.str dn),.x (.sl R)]],[.box [.mref 1,.mref 2],.mpo .str true P1,.mpo .str true P2]=>(unM ZC Zz P1).bind λL=>(unM ZC YW P2).bind λM=>(ZM ZK R).bind λl=>some (decide (ZEG M l),.x (.int .i64 (ZH9 L M l)))
 |_,_=>none
theorem ZN5:RK Tryz.prog ZLU 78:=by
 intro args os r h;unfold ZLU at h;split at h
 .rename_i dn R P1 P2;obtain⟨L,rfl,i0⟩:=um ZP JC h;obtain⟨M,rfl,i1⟩:=um ZP JP i0;obtain⟨l,rfl,i2⟩:=un Zf i1;obtain⟨h1,rfl⟩:=Yn i2;exact rk (Zgl L M (dn,l,()) h1.2.1 h1.2.2 (Zgx h1.1))
 .cases h
def ZBs(L:List (Tx×Ze))(M:List (Tx×Zi))(dn:Tx)(l:List ZN):Int:=if ZH9 L M l≠0 then ZH9 L M l else if ZEd L dn l=true then 0 else 64
theorem ZX9:Go.Ab.Enters Tryz.prog 79:=QT 79
theorem ZjV(s t:Tx):ZL Tryz.prog 43 [.x (.str s),.x (.str t)] (.x (.int .i64 (cmpS (YQ s) (YQ t)))):=by
 refine ZF.pure (fC 43 true ?_) rfl;intro C0 E0;have uu:=YB @ZOG.eq_1 @ZRU.eq_1;have tT:=aQ (aQ ZB ZMW) ZUD;refine rg [0,1] ?_;refine rg [1,5] ?_;refine rg [5,7] ?_;refine Wj ?_
 exact Wo
def ZdM:J8->J5
 | [.x (.str s),.x (.str t)]=>some (true,.x (.int .i64 (cmpS (YQ s) (YQ t))))
 |_=>none
theorem Zf9:QK Tryz.prog ZdM 43:=by
 intro args r h;unfold ZdM at h;split at h
 .obtain rfl:=Qv h;exact(ZjV _ _)
 .cases h
def JQ(l:List Tx)(s:Tx):Nat:=(l.takeWhile λa=>Op.bytesLess (YQ a) (YQ s)).length
theorem ZI5(l:List Tx)(s:Tx):JQ l s<=l.length:=(List.takeWhile_sublist _).length_le
theorem ZOW(l:List Tx)(s:Tx)(j:Nat)(h:j<JQ l s):Op.bytesLess (YQ (l[j]'(ZPO h (ZI5 l s)))) (YQ s)=true:=by
 have hp:(l.takeWhile λa=>Op.bytesLess (YQ a) (YQ s))<+:l:=List.takeWhile_prefix _;have:=Yg.1 (List.all_takeWhile (p:=λa:Tx=>Op.bytesLess (YQ a) (YQ s)) (l:=l)) _ (YK (h:=h));rwa [hp.getElem h]at this
theorem ZXc(l:List Tx)(s:Tx)(h:JQ l s<l.length):Op.bytesLess (YQ l[JQ l s]) (YQ s)=false:=by
 unfold JQ at*
 induction l with
 |nil=>simp at h
 |cons a l ih=>
  by_cases ha:Op.bytesLess (YQ a) (YQ s)=true
  .simp only[List.takeWhile_cons,ha,if_true,Yx]at h|-;simpa using ih J0
  .exact HK
abbrev SoL(l:List Tx):Prop:=l.Pairwise λa b=>Op.bytesLess (YQ a) (YQ b)=true
theorem ZVp{l:List Tx}(hs:SoL l)(s:Tx)(h:Nat)(hl:h<l.length):Op.bytesLess (YQ l[h]) (YQ s)=true↔h<JQ l s:=by
 constructor
 .intro hb;apply ZIM;intro hc;have hle:JQ l s<=h:=Wm
  have hpl:JQ l s<l.length:=Wm
  have hst:=ZXc l s hpl;rcases Nat.lt_or_eq_of_le hle with hlt|heq
  .exact Xz
  .have:l[JQ l s]=l[h]:=by congr 1
   rw[this,hb]at hst;cases hst
 .intro hb;exact ZOW l s h hb
def ZYD(l:List Tx)(s:Tx):Bool:=match l[JQ l s]? with
 |some a=>YQ a==YQ s
 |none=>false
theorem Ziy(l:List Tx)(n:Tx)(hs:SoL l)(hl:l.length<=1000000):ZL Tryz.prog 42 [.x (.sl (rows ZC l)),.x (.str n),.fn 43 []] (.tup [.x (.int .i64 (JQ l n)),.x (.bool (ZYD l n))]):=by
 have hpl:=ZI5 l n;have hhit:ZYD l n=match l[JQ l n]? with|some a=>YQ a==YQ n|none=>false:=rfl
 refine ZF.pure (fC 42 true ?_) rfl;intro C0 E0;have uu:= @ZdM.eq_1;have tT:=aQ ZB Zf9;refine rg [0,1,2] ?_;refine rg [0,1,2,8] ?_;refine rg [0,1,2,8,9,10] ?_;refine WI.loop (λφ os=> ∃(i j:Nat),φ= [(0,.x (.sl (rows ZC l))),(1,.x (.str n)),(2,.fn 43 []),(8,.x (.int .i64 l.length)),(9,.x (.int .i64 i)),(10,.x (.int .i64 j))]/\os= []/\i<=JQ l n/\JQ l n<=j/\j<=l.length) (dif) ?_ (λφ os hI=> ?_)
 .exact⟨0,l.length,rfl,rfl,J0,hpl,J0⟩
 .obtain⟨i,j,rfl,rfl,hi,hj,hjl⟩:=hI;refine rg [0,1,2,8,9,10,17] ?_;refine cd (λh0=> ?_) (λh0=> ?_)
  .refine rg [0,1,2,8,9,10,11] ?_;have hij:i<j:=Wm
   rw[Zdu i j J0];obtain⟨M,hM⟩: ∃M,M=(i+j)/2:=⟨_,rfl⟩;rw[<-hM];have hMl:M<l.length:=Wm
   have hrw:(rows ZC l)[M]? =some [X.str (l.getD M [])]:=by simp[rows,hMl,ZC]
   have hiff:=ZVp hs n M hMl;rw[show l[M]=l.getD M [] by simp[hMl],<-ZSV]at hiff;generalize l.getD M []=x at hrw hiff;have uu:=YB uu hrw;refine rg [0,1,2,8,9,10,11,31] ?_;refine cd (λh1=> ?_) (λh1=> ?_)
   .have hlt:M<JQ l n:=hiff.1 WC;refine rg [0,1,2,8,9,10] ?_
    exact WV
   .have hlt: ¬M<JQ l n:=λh=>absurd (hiff.2 h) WC
    refine rg [0,1,2,8,9,10] ?_
    exact WV
  .obtain rfl:JQ l n=i:=Wm
   by_cases hk:JQ l n<l.length
   .have hrw:(rows ZC l)[JQ l n]? =some [X.str (l.getD (JQ l n) [])]:=by simp[rows,hk,ZC]
    rw[Zw hk,show l[JQ l n]=l.getD (JQ l n) [] by simp[hk]]at hhit;generalize l.getD (JQ l n) []=x at hrw hhit;have hd:=ZI (show((JQ l n:Nat):Int)<(l.length:Int) by omega);have uu:=JL uu hrw hd;refine rg [6,7] ?_;refine lf ?_;have hcb:(cmpS (YQ x) (YQ n)==0)=(YQ x==YQ n):=by rw[QZ];simp[ZQf]
    rw[hhit,hcb]
   .have hrw:(rows ZC l)[JQ l n]? =none:=ξV (by rw[ZQ];omega);rw[ξV J0]at hhit;have hd:=decide_eq_false (show ¬((JQ l n:Nat):Int)<(l.length:Int) by omega);exact HW
def ZUQ:J8->J5
 | [.x (.sl R),.x (.str n),.fn 43 []]=>(ZM ZC R).bind λl=>some (decide (SoL l/\l.length<=1000000),.tup [.x (.int .i64 (JQ l n)),.x (.bool (ZYD l n))])
 |_=>none
theorem ZPm:QK Tryz.prog ZUQ 42:=by
 intro args r h;unfold ZUQ at h;split at h
 .obtain⟨l,rfl,i0⟩:=un ZP h;obtain⟨h1,rfl⟩:=Yn i0;exact(Ziy l _ h1.1 h1.2)
 .cases h
theorem ZZU{α:Type}{a b:List α}{i:Nat}(h:a.take i=b.take i)(ha:i<a.length)(hb:i<b.length)(he:a[i]=b[i]):a.take (i+1)=b.take (i+1):=by
 rw[List.take_add_one,List.take_add_one,h];simp[Zw ha,Zw hb,he]
theorem Zeo(a b:List (List UInt8)):ZL Tryz.prog 22 [.x (.sl (rows ZC a)),.x (.sl (rows ZC b))] (.x (.bool (decide (a=b)))):=by
 refine ZL.wf (λhw=> ?_);have ha:a.length<=maxLen:=by have:=(hw _ (ZAm)).1;rwa [ZQ]at this
 have hb:b.length<=maxLen:=by have:=(hw _ (ξU _ ZAm)).1;rwa [ZQ]at this
 clear hw;simp only[maxLen]at ha hb;refine ZF.pure (fC 22 true ?_) rfl;intro c E0;have uu:=trivial;have tT:=(ZB:SsOk Tryz.prog YH);refine rg [0,1] ?_;refine rg [0,1,10] ?_;refine cd (λh0=> ?_) (λh0=> ?_)
 .refine Wj ?_;rw[decide_eq_false (λe=>h0 (by rw[e]))]
 .refine rg [0,1,5] ?_;refine WI.loop (λφ os=> ∃i:Nat,φ= [(0,.x (.sl (rows ZC a))),(1,.x (.sl (rows ZC b))),(5,.x (.int .i64 i))]/\os= []/\i<=a.length/\a.take i=b.take i) (ZJ a.length 5) ?_ (λφ os hI=> ?_)
  .exact UM
  .obtain⟨i,rfl,rfl,hi,he⟩:=hI;refine rg [0,1,5,14] ?_;refine cd (λh1=> ?_) (λh1=> ?_)
   .refine WI.dregB tT [0,1,5,25] ?_;refine Wn ?_;refine VJ ?_;refine Wn ?_;refine VJ ?_;refine Zn ?_;refine VP ?_;refine cd (λh2=> ?_) (λh2=> ?_)
    .refine Wj ?_;rw[decide_eq_false (λe=>h2 (by subst e;rfl))]
    .refine rg [0,1,5] ?_;exact⟨⟨i+1,J1,rfl,J0,ZZU he J0 J0 h2⟩,Wa⟩
   .refine Wj ?_;rw[ZI];rw[YR J0,YR J0]at he;exact he
def ZF0:J8->J5
 | [.x (.sl A),.x (.sl B)]=>(ZM ZC A).bind λa=>(ZM ZC B).map λb=>(true,.x (.bool (decide (a=b))))
 |_=>none
theorem ZKp: ∀args r,ZF0 args=some (true,r)->ZL Tryz.prog 22 args r:=by
 intro args r h;unfold ZF0 at h;split at h
 .simp only[YG,Kq]at h;obtain⟨a,h1,b,h2,h3⟩:=h;cases h3;rw[<-Yo ZP h1,<-Yo ZP h2];exact Zeo a b
 .cases h
theorem Zar(l:List ZN)(j:Nat)(h:j<l.length):(rows ZK l)[j]? =some [X.str (l.getD j ([],[],())).1,X.sl (rows ZC (l.getD j ([],[],())).2.1)]:=by
 simp[rows,ZK,Jh,ZC,rSl,ZAL,h]
theorem ZSa{α:Type}{a b:List α}{j:Nat}(h1:j<a.length)(h2:j<b.length)(h:a.take j=b.take j)(d:α)(hd:a.getD j d=b.getD j d):a.take (j+1)=b.take (j+1):=by
 rw[JW h1,JW h2,h];rw[ZCB,ZCB,Zw h1,Zw h2,ξY,ξY]at hd;rw[hd]
theorem Zgk(d e:List UInt8)(a b:List ZN)(ha:a.length<=9223372036854775807)(hb:b.length<=9223372036854775807):ZL Tryz.prog 29 [.agg [.x (.str d),.x (.sl (rows ZK a))],.agg [.x (.str e),.x (.sl (rows ZK b))]] (.x (.bool (decide (d=e/\a=b)))):=by
 have hla:=ZQ ZK a;have hlb:=ZQ ZK b;refine ZF.pure (fC 29 true ?_) rfl;intro C0 E0;have uu:=ξ6 @D.nn.eq_1 @D.nn.eq_2 @ZF0.eq_1 @ZF0.eq_2 hla hlb;have tT:=aQ ZB (ZBe ZKp);refine rg [2,3] ?_;refine rg [2,3,19] ?_;refine cd (λh0=> ?_) (λh0=> ?_)
 .refine Wj ?_;rw[decide_eq_false (by rintro⟨rfl,rfl⟩;clear uu;simp at h0)]
 .have h0':d=e/\a.length=b.length:=Ww
  refine rg [2,3,5] ?_;refine WI.loop (λφ os=> ∃i:Nat,φ= [(2,.ptr 0 0),(3,.ptr 1 0),(5,.x (.int .i64 i))]/\os= [.box [.x (.str d),.x (.sl (rows ZK a))],.box [.x (.str e),.x (.sl (rows ZK b))]]/\i<=a.length/\a.take i=b.take i) (ZJ a.length 5) ?_ (λφ os hI=> ?_)
  .exact UM
  .obtain⟨i,rfl,rfl,hi,he⟩:=hI;refine rg [2,3,5,24] ?_;refine cd (λh1=> ?_) (λh1=> ?_)
   .have hi4:i<a.length:=VG
    have hi5:i<b.length:=Wm
    have r1:=Zar a i hi4;have r2:=Zar b i hi5;have hst:=ZSa hi4 hi5 he ([],[],());have hne: ¬a.getD i ([],[],())=b.getD i ([],[],())->a≠b:=λh e=>h (by rw[e])
    generalize a.getD i ([],[],())=p at r1 hst hne;generalize b.getD i ([],[],())=q at r2 hst hne;have hup:ZM ZC (rows ZC p.2.1)=some p.2.1:=ZS ZP _;have huq:ZM ZC (rows ZC q.2.1)=some q.2.1:=ZS ZP _;have uu:=ξ5 uu r1 r2 hup huq;refine WI.dregB tT [2,3,5,55] ?_;refine WJ ?_;refine WJ ?_;refine WJ ?_;refine Zn ?_;refine ZU ?_;refine W7 ?_;refine Zd ?_;refine W7 ?_;refine Zd ?_;refine dAC ?_
    refine Vc ?_;refine VP ?_;refine cd (λh2=> ?_) (λh2=> ?_)
    .have hpq: ¬p=q:=by clear uu;intro e;subst e;simp at h2
     refine Wj ?_;rw[decide_eq_false (λe=>hne hpq e.2)]
    .have hpq:p.1=q.1/\p.2.1=q.2.1:=Ww
     have he2:=hst (ZCQ hpq.1 (ZCQ hpq.2 rfl));refine rg [2,3,5] ?_;exact⟨⟨i+1,rfl,rfl,J0,he2⟩,Wa⟩
   .refine Wj ?_;rw[YR VG,YR VG]at he;rw[ZI ⟨h0'.1,he⟩]
theorem Ze9(d e:List UInt8)(a b:List ZN):ZL Tryz.prog 29 [.agg [.x (.str d),.x (.sl (rows ZK a))],.agg [.x (.str e),.x (.sl (rows ZK b))]] (.x (.bool (decide (d=e/\a=b)))):=by
 refine ZL.wfA (λhw=> ?_);have ha:a.length<=maxLen:=by have:=(hw 0 1 _ rfl).1;rwa [ZQ]at this
 have hb:b.length<=maxLen:=by have:=(hw 1 1 _ rfl).1;rwa [ZQ]at this
 exact Zgk d e a b ha hb
def ZNh:J8->J5
 | [.agg [.x (.str d),.x (.sl A)],.agg [.x (.str e),.x (.sl B)]]=>(ZM ZK A).bind λa=>(ZM ZK B).map λb=>(true,.x (.bool (decide (d=e/\a=b))))
 |_=>none
theorem ZY0: ∀args r,ZNh args=some (true,r)->ZL Tryz.prog 29 args r:=by
 intro args r h;unfold ZNh at h;split at h
 .simp only[YG,Kq]at h;obtain⟨a,h1,b,h2,h3⟩:=h;cases h3;rw[<-Yo Zf h1,<-Yo Zf h2];exact Ze9 _ _ a b
 .cases h
end Go.Proofs.YtiogclkbccdefaaGreatDoor
end
section
namespace Go.Ab
open Go.RowKit Go.Bo
theorem ZRh{P:Program}{f:FuncId}(OS:J7)(id:Nat)(dk:KK)(ag:Bool)(l:W2)(ho:OS[id]? =some (.mpo dk ag l))(hraw: ∀(b:Nat) (es:Array MapEntry) (clk:Nat) (w:World),w.heap[b]? =some (.map es clk)->Calls P f #[.map (some b)] w λe w'=>e= .returned (.map (some w.heap.size))/\w'=w.alloc (.map es clk)):
  ZBq P f [.mref id] OS (λj=> .mref j) (.mpo dk ag l):=by
 intro Y jd c E vs hd R hvl;obtain⟨hsz,hv⟩:=hvl;obtain⟨v0,rfl⟩: ∃v0,vs= #[v0]:=by
  obtain⟨vl⟩:=vs
  match vl,hsz with
  | [a],_=>exact⟨a,rfl⟩
 have h0:=hv 0 _ v0 rfl rfl;have ho':(OS++Y)[id]? =some (.mpo dk ag l):=by rw[Yk (ZX ho).1];exact ho
 obtain⟨p,hp,hok⟩:=R.at ho';obtain⟨es,clk,k1,k2⟩:=YL.copied (b:=p.1) hok;cases h0 with
 |mref ho2 hk hb=>
  rw[hp]at hb;cases hb;refine(hraw _ es clk E.w k1).mono ?_;rintro e w' ⟨rfl,rfl⟩;obtain⟨E',q1,q2,q3,q4⟩:=ZTp (dk:=dk) (ag:=ag) (l:=l) R hd es clk (λE' os' ev hw=>k2 E' os' _ ev (by rw[hw];exact heap_alloc_new _ _));exact⟨_,E',rfl,q1,q2,q3,q4⟩
def ZRM(S:Tabs)(f:FuncId)(g:J8->J7->Option (Bool×(Nat->D)×Ob)):Tabs:=⟨S.q,S.t,S.r,λf' args os=>if f'=f then g args os else S.k f' args os⟩
theorem ZST{P:Program}{S:Tabs}(hS:SsOk P S){f:FuncId}{g:J8->J7->Option (Bool×(Nat->D)×Ob)}(he:Enters P f)(hg: ∀args os r ob,g args os=some (true,r,ob)->ZBq P f args os r ob):SsOk P (ZRM S f g):=by
 refine⟨hS.q,hS.t,hS.r,λf' args os r ob h=> ?_⟩;simp only[ZRM]at h;split at h
 .rename_i e;subst e;exact⟨he,hg _ _ _ _ h⟩
 .exact hS.k _ _ _ _ _ h
end Go.Ab
namespace Go.Proofs.YtiogclkbccdefaaGreatDoor
open Go.RowKit Go.Bo Go.Ab
def ZXY:J8->J7->Option (Bool×D×J7)
 | [.ref 0 n 0 n',.x (.int .i64 i),.ref 1 1 0 1],[.rows false e 1 rs,.rows false e' 1 [r]]=>some (decide (n=rs.length/\n'=rs.length/\0<=i/\i<=rs.length/\rs.length<=1000000/\e=9/\e'=9),.ref 0 (n+1) 0 (n+1),[.rows false e 1 (YY rs i.toNat [r]),.rows false e' 1 [r]])
 |_,_=>none
theorem ZRs: ∀args os r os',ZXY args os=some (true,r,os')->ZO Tryz.prog 44 args os r os':=by
 intro args os r os' h;unfold ZXY at h;split at h
 .rename_i n n' i e rs e' r0;simp only[Yu,YP,Yl]at h;obtain⟨⟨rfl,rfl,h0,h1,h2,rfl,rfl⟩,rfl,rfl⟩:=h;have h:=ZYF rs r0 i.toNat J0 h2;rwa [show((i.toNat:Nat):Int)=i by omega]at h
 .cases h
theorem ZY4(r:J9):ZO Tryz.prog 44 [.x .nils,.x (.int .i64 0),.ref 0 1 0 1] [.rows false 9 1 [r]] (.ref 1 1 0 1) [.rows false 9 1 [r],.rows false 9 1 [r]]:=by
 intro c E vs R hvl;obtain⟨E1,k1,k2,k3,k4⟩:=ZAc (fz:=false) (e:=9) (sz:=1) (rs:= []) (cu:= .slice none 0 0) (xs:= []) R (Kept.refl _ E.w) ⟨J1,.inl ⟨rfl,rfl⟩⟩ (λb hb=>Xr) (λr hr=>TI) (λi r j x v h=>WE);have h:=ZO.lift ZRs [.ref 1 0 0 0,.x (.int .i64 0),.ref 0 1 0 1] [.rows false 9 1 [r],.rows false 9 1 []] (.ref 1 1 0 1) [.rows false 9 1 [r],.rows false 9 1 [r]] rfl;refine k1▸(h c E1 vs k2 ⟨hvl.1,λj d v hd hv=> ?_⟩).mono ?_
 .match j with
  |0=>cases hd;have:=V.nils (hvl.2 0 _ v rfl hv);subst this;exact k4
  |j+1=>exact(hvl.2 (j+1) d v hd hv).mono k3
 .rintro e w' ⟨v,E2,rfl,rfl,R2,e2,hv⟩;exact⟨v,E2,rfl,rfl,R2,k3.trans e2,hv⟩
def ZWu:J8->J7->Option (Bool×D×J7)
 | [.x .nils,.x (.int .i64 0),.ref 0 1 0 1],[.rows false e 1 [r]]=>some (decide (e=9),.ref 1 1 0 1,[.rows false e 1 [r],.rows false e 1 [r]])
 |a,o=>ZXY a o
theorem Zb0: ∀args os r os',ZWu args os=some (true,r,os')->ZO Tryz.prog 44 args os r os':=by
 intro args os r os' h;unfold ZWu at h;split at h
 .simp only[Yu,YP,Yl]at h;obtain⟨rfl,rfl,rfl⟩:=h;exact ZY4 _
 .exact ZRs _ _ _ _ h
def ZXt:J8->J7->Option (Bool×D×J7)
 | [.ref 0 n 0 n',.fn 56 [.ptr 1 0]],[.rows false e 1 R,.box [.x (.str s)]]=>(ZM ZC R).map λl=>(decide (n=l.length/\n'=l.length/\e=9/\l.length<=1000000/\l≠ []),.ref 2 (KM l s).length 0 (KM l s).length,[.old 1 (l.length+1),.box [.x (.str s)],.rows false 9 1 (rows ZC (KM l s))])
 |_,_=>none
theorem ZcH: ∀args os r os',ZXt args os=some (true,r,os')->ZO Tryz.prog 55 args os r os':=by
 intro args os r os' h;unfold ZXt at h;split at h
 .rename_i n n' e R s;obtain⟨l,h1,h⟩:=Zc h;simp only[YP,Yl]at h;obtain⟨⟨rfl,rfl,rfl,h2,h3⟩,rfl,rfl⟩:=h;rw[<-Yo ZP h1];exact Zat l s h2 h3
 .cases h
def ZJ8:J8->J7->Option (Bool×D×J7)
 | [],[]=>some (true,.ptr 0 0,[.box [.mref 1,.mref 2],.mpo .str true (JS (Zp plT)),.mpo .str true (JN (YE plC))])
 |_,_=>none
theorem ZP5: ∀args os r os',ZJ8 args os=some (true,r,os')->ZO Tryz.prog 11 args os r os':=by
 intro args os r os' h;unfold ZJ8 at h;split at h
 .cases h;exact ZgR
 .cases h
def ZhU(dc:Tx):List ZN:= [([111,98,106,101,99,116,99,108,97,115,115],[[100,111,109,97,105,110]],()),([100,99],[dc],())]
theorem Zcn(dn dc:Tx):ZL Tryz.prog 13 [.x (.str dn),.x (.str dc)] (.agg [.x (.str dn),.x (.sl (rows ZK (ZhU dc)))]):=evP 300 13 ZB []
def ZPf:J8->J5
 | [.x (.str dn),.x (.str dc)]=>some (true,.agg [.x (.str dn),.x (.sl (rows ZK (ZhU dc)))])
 |_=>none
theorem ZXQ:QK Tryz.prog ZPf 13:=by
 intro args r h;unfold ZPf at h;split at h
 .obtain rfl:=Qv h;exact(Zcn _ _)
 .cases h
def Za5:Tabs:=ZIE (ZIE (ZH1 (ZH1 (ZEE (ZEE (ZEE (ZEE (ZEE (ZEE (ZIE (ZEE (YH) 13 ZPf) 11 ZJ8) 39 ZIn) 81 ZOG) 121 ZGy) 123 ZRl) 41 ZCg) 42 ZUQ) 122 ZOb) 78 ZLU) 44 ZWu) 55 ZXt
theorem Zau:SsOk Tryz.prog Za5:=ZLg (ZLg (ZOz (ZOz (ZDW (ZDW (ZDW (ZDW (ZDW (ZDW (ZLg (ZDW (ZB) (QT 13) ZXQ) (QT 11) ZP5) (QT 39) ZJZ) (QT 81) ZMW) (QT 121) ZF2) (QT 123) ZVZ) (QT 41) ZBO) (QT 42) ZPm) (QT 122) ZQF) (QT 78) ZN5) (QT 44) Zb0) (QT 55) ZcH
def ZPb:J8->J7->Option (Bool×(Nat->D)×Ob)
 | [.mref id],os=>match os[id]? with
  |some (.mpo .str true l)=>some (true,λj=> .mref j,.mpo .str true l)
  |_=>none
 |_,_=>none
theorem ZWf: ∀args os r ob,ZPb args os=some (true,r,ob)->ZBq Tryz.prog 46 args os r ob:=by
 intro args os r ob h;unfold ZPb at h;split at h
 .split at h
  .rename_i h1;cases h;exact ZRh _ _ .str true _ h1 (λb es clk w hb=>AnyW.maps_Clone Tryz.clMap b es clk w hb)
  .cases h
 .cases h
def ZPU:J8->J7->Option (Bool×(Nat->D)×Ob)
 | [.ref id n 0 n'],os=>match os[id]? with
  |some (.rows _ _ 1 R)=>(ZM ZC R).map λl=>(decide (n=l.length/\n'=l.length/\l.length<=1000000),λj=> .ref j n 0 n,.rows false 9 1 R)
  |_=>none
 |_,_=>none
theorem ZWk: ∀args os r ob,ZPU args os=some (true,r,ob)->ZBq Tryz.prog 47 args os r ob:=by
 intro args os r ob h;unfold ZPU at h;split at h
 .split at h
  .rename_i h1;obtain⟨l,h2,h⟩:=Zc h;simp only[YP,Yl]at h;obtain⟨⟨rfl,rfl,h3⟩,rfl,rfl⟩:=h;rw[<-Yo ZP h2]at h1|-;exact ZSs _ _ _ _ l h1 h3
  .cases h
 .cases h
def ZId:Tabs:=ZRM (ZRM Za5 46 ZPb) 47 ZPU
theorem ZK3:SsOk Tryz.prog ZId:=ZST (ZST Zau (QT 46) ZWf) ZJx ZWk
abbrev Jr(P1 P2:W2)(Y:J7):J7:= .box [.ptr 1 0,.mref 4,.mref 5]:: .box [.mref 2,.mref 3]:: .mpo .str true P1:: .mpo .str true P2::Y
abbrev TB:=Tx×Nat×List Tx
def YV(x:TB):Pr:=([.str x.1],[.ref (x.2.1+6) x.2.2.length 0 x.2.2.length])
def YM(x:TB):Tx×List Tx:=(x.1,x.2.2)
def okB(Y:J7)(B:List TB):Prop:=(B.map (·.1)).Nodup/\(B.map (·.2.1)).Nodup/\ ∀x∈B,Y[x.2.1]? =some (.rows false 9 1 (rows ZC x.2.2))/\x.2.2.length<=1000000
def cpB:Nat->List (Tx×List Tx)->W2
 |_,[]=> []
 |k,x::l=>([.str x.1],[.ref k x.2.length 0 x.2.length])::cpB (k+1) l
theorem ZSO: ∀(l:List (Tx×List Tx)) (k:Nat) (x:Tx×List Tx),cpB k (l++ [x])=cpB k l++ [([.str x.1],[.ref (k+l.length) x.2.length 0 x.2.length])]
 | [],k,x=>rfl
 |y::l,k,x=>by rw[ξZ,cpB,ZSO l,cpB,Yx,show k+1+l.length=k+(l.length+1) by omega];rfl
theorem ZUt: ∀(l:List (Tx×List Tx)) (k:Nat) (s:Tx) (v:J8),s∉l.map (·.1)->Yp (cpB k l) [.str s] v=cpB k l++ [([.str s],v)]
 | [],k,s,v,_=>rfl
 |y::l,k,s,v,h=>by
  rw[YO,Jf,not_or]at h;have hne:ZCq [X.str s] [X.str y.1]=false:=by simp[ZCq,X.keq,h.1]
  have ih:=ZUt l (k+1) s v h.2;simp only[cpB,Yp,hne,Je,if_false,ih,ξZ]
theorem ZVn{α:Type}: ∀(l:List α) (i:Nat) (a:α),l[i]? =some a->(a::l.eraseIdx i).Perm l
 |b::l,0,a,h=>by cases h;exact ZI0 _
 |b::l,i+1,a,h=>(List.Perm.swap b a _).trans ((ZVn l i a WM).cons b)
theorem ZaL{α β:Type}(f:α->β): ∀(l:List α) (i:Nat),(l.map f).eraseIdx i=(l.eraseIdx i).map f
 | [],i=>rfl
 |b::l,0=>rfl
 |b::l,i+1=>by simp only[YO,Zcw,ZaL f l i]
def rwB(l:List (Tx×List Tx)):J7:=l.map λx=> .rows false 9 1 (rows ZC x.2)
def cpO(P1 P2 m:W2)(Y:J7)(o:Ob)(l:List (Tx×List Tx)):J7:=Jr P1 P2 (.mpo .str true m::o::(Y++ .mpo .str true m:: .mpo .str false (cpB (Y.length+10) l):: .box [.ptr 1 0,.mref (Y.length+6),.mref (Y.length+7)]:: .itr::rwB l))
theorem ZgC(l:List (Tx×List Tx))(B':List TB)(i:Nat)(b:TB)(hb:B'[i]? =some b):(l++ [YM b]++(B'.eraseIdx i).map YM).Perm (l++B'.map YM):=by
 rw[Ys];exact List.Perm.append_left l ((ZVn B' i b hb).map YM)
theorem ZVS(P1 P2 m:W2)(B:List TB)(Y:J7)(B':List TB)(l:List (Tx×List Tx))(i:Nat)(b:TB)(hb:B'[i]? =some b)(hp:(l++B'.map YM).Perm (B.map YM))(hn:(B.map (·.1)).Nodup)(OS:J7)
  (hOS:OS=cpO P1 P2 m Y (.mit .str false (B.map YV) (Y.length+9) ((B'.map YV).eraseIdx i) (some (YV b))) l):
  (OS++ [Ob.rows false 9 1 (rows ZC b.2.2)]).set (Y.length+7) (.mpo .str false (Yp (cpB (Y.length+10) l) [.str b.1] [.ref (Y.length+10+l.length) b.2.2.length 0 b.2.2.length]))=cpO P1 P2 m Y (.mit .str false (B.map YV) (Y.length+9) ((B'.eraseIdx i).map YV) (some (YV b))) (l++ [YM b]):=by
 have hno:b.1∉l.map (·.1):=by
  intro hin;have h1:((l++B'.map YM).map (·.1)).Nodup:=(hp.map (·.1)).nodup_iff.2 (by rw[Jv];exact hn);rw[Jj]at h1;exact(ZFC.1 h1).2.2 _ hin _ (YS.2 ⟨YM b,YS.2 ⟨b,JE hb,rfl⟩,rfl⟩) rfl
 rw[ZUt _ _ _ _ hno,hOS];have he:(B'.map YV).eraseIdx i=(B'.eraseIdx i).map YV:=ZaL YV B' i;have hs:(cpB (Y.length+10) l)++ [([X.str b.1],[D.ref (Y.length+10+l.length) b.2.2.length 0 b.2.2.length])]=cpB (Y.length+10) (l++ [YM b]):=by rw[ZSO];rfl
 have hr:rwB (l++ [YM b])=rwB l++ [Ob.rows false 9 1 (rows ZC b.2.2)]:=by simp[rwB,YM]
 rw[hs,he];unfold cpO Jr;rw[hr];simp only[ξZ,ZCM,Ys];rw[ZDm _ _ J0];simp
theorem Zi3(P1 P2 m:W2)(B:List TB)(Y:J7)(B':List TB)(l:List (Tx×List Tx))(i:Nat)(b:TB)(hb:B'[i]? =some b)(φ:J4)(cur:Option Pr):ZO4 5 φ (cpO P1 P2 m Y (.mit .str false (B.map YV) (Y.length+9) ((B'.eraseIdx i).map YV) (some (YV b))) (l++ [YM b]))<ZO4 5 φ (cpO P1 P2 m Y (.mit .str false (B.map YV) (Y.length+9) (B'.map YV) cur) l):=by
 have:=(ZX hb).1;simp only[ZO4,cpO,ZBd,ZC5,Yc,ZWT];rw[if_pos this];omega
def CpP(P1 P2 m:W2)(B:List TB)(Y:J7)(r:D)(os':J7):Prop:=
 ∃l:List (Tx×List Tx),l.Perm (B.map YM)/\r= .ptr (Y.length+8) 0/\os'=cpO P1 P2 m Y (.mpo .str false (B.map YV)) l
set_option maxHeartbeats 4000000 in
theorem ZZp(P1 P2 m:W2)(B:List TB)(Y:J7)(hB:okB Y B):ZF Tryz.prog 19 [.ptr 0 0] (Jr P1 P2 (.mpo .str true m:: .mpo .str false (B.map YV)::Y)) (CpP P1 P2 m B Y):=by
 have hck:=ZRh (P:=Tryz.prog) (f:=46) (Jr P1 P2 (.mpo .str true m:: .mpo .str false (B.map YV)::Y)) 4 .str true m rfl (λb es clk w hb=>AnyW.maps_Clone Tryz.clMap b es clk w hb);refine fC 19 false ?_;intro C0 E0;have uu:=Qu @ZjX @Zi6 @Zi1 @ZjK;refine WI.seq ?_;refine WI.regB ZB [0] ?_;refine UH ?_;refine WI.regB ZB [0,7] ?_;refine X3 ?_;refine WI.cond (b:=_) rfl rfl (λh0=> ?_) (λh0=> ?_)
 .exfalso;simp at h0
 .try simp only[zB]at h0
  refine Vt ?_;refine WI.dregB (Za4 ZB (QT 46) hck) [0,3] ?_;refine UO ?_;refine UO ?_;refine dKC ?_;refine dKG ?_;refine Zn ?_;refine Qj ?_;refine ZU ?_;refine dN ?_;refine Wz ?_;refine WI.seq ?_;refine WI.regB ZB [3,24] ?_;refine Wu ?_;refine Us ?_;refine V0 ?_;refine WI.block ?_;have hz: ∀(o:Ob) (Z:J7),Y++ [Ob.mpo .str true m]++ [Ob.mpo .str false []]++ [o]++Z=Y++(Ob.mpo .str true m::Ob.mpo .str false []::o::Z):=λo Z=>TG
  simp only[hz,Ys,ξZ,QY,ZW,Yx,Qw,Jk,ZFe,Nat.reduceAdd];refine WI.loop (λφ os=> ∃(B':List TB) (l:List (Tx×List Tx)) (cur:Option Pr),φ= [(3,.ptr (Y.length+8) 0),(24,.iref 5 (Y.length+9))]/\os=cpO P1 P2 m Y (.mit .str false (B.map YV) (Y.length+9) (B'.map YV) cur) l/\(l++B'.map YM).Perm (B.map YM)/\ ∀b∈B',b∈B) (ZO4 5) ?_ (λφ os hI=> ?_)
  .exact⟨B,[],none,rfl,rfl,ZI0 _,λb hb=>hb⟩
  .obtain⟨B',l,cur,rfl,rfl,hp,hm⟩:=hI;rw[cpO];refine WI.seq ?_;refine WI.nextMA [3,24,26] (λhn5=> ?_) (λi5 q5 hn5=> ?_)
   .obtain rfl:B'= []:=ZcU.1 hn5;refine Wz ?_;refine WI.cond (b:=_) rfl rfl (λh1=> ?_) (λh1=> ?_)
    .exact absurd h1 WT
    .try simp only[zB]at h1
     refine Vb ?_;refine Wz ?_;refine WI.thawA 5 ?_;refine WI.regB ZB [2] ?_;refine GB ?_
     first|refine lfR ?_|refine ZAs ?_|refine ZAY ?_|refine ZAi ?_
     exact⟨l,by rw[ZAa,Kg]at hp;exact hp,rfl,rfl⟩
   .rw[YI]at hn5;obtain⟨b,hb,rfl⟩:=Zc hn5;refine Wz ?_;refine WI.cond (b:=_) rfl rfl (λh1=> ?_) (λh1=> ?_)
    .try simp only[zB]at h1
     refine Tv ?_;refine WI.block ?_;refine WI.seq ?_;refine WI.regB ZB [3,4,5,24] ?_;refine W4 ?_;refine oG ?_;refine oS ?_;refine Wl ?_;have hbB:=hm b (JE hb);obtain⟨hrow,hbl⟩:=hB.2.2 b hbB;have hkd:keyD .str (YV b).fst= .x (.str b.1):=rfl;have hcd:ZFq false (YV b).snd= .ref (b.2.1+6) b.2.2.length 0 b.2.2.length:=rfl;obtain⟨OS,hOS⟩: ∃OS,OS=cpO P1 P2 m Y (.mit .str false (B.map YV) (Y.length+9) ((B'.map YV).eraseIdx i5) (some (YV b))) l:=⟨_,rfl⟩;unfold cpO Jr at hOS;rw[hkd,hcd,<-hOS];have h8:OS[Y.length+8]? =some (.box [.ptr 1 0,.mref (Y.length+6),.mref (Y.length+7)]):=by rw[hOS];simp[QI]
     have hol:OS.length=Y.length+10+l.length:=by rw[hOS];simp[rwB];omega
     have h7: ∀o:Ob,(OS++ [o])[Y.length+7]? =some (.mpo .str false (cpB (Y.length+10) l)):=λo=>by rw[hOS];simp[QI]
     have hr6:OS[b.2.1+6]? =some (.rows false 9 1 (rows ZC b.2.2)):=by
      rw[hOS];show(Y++_)[b.2.1]? =_;rw[Yk (ZX hrow).1];exact hrow
     have hck:=ZSs OS (b.2.1+6) false 9 b.2.2 hr6 hbl;have uu:=ξ6 uu h8 hol h7 hr6 (ZQ ZC b.2.2);refine WI.dregB (Za4 ZB ZJx hck) [3,24] ?_
     refine UO ?_;refine Wn ?_;refine dKC ?_;refine Qj ?_;refine dN ?_;refine Nv ?_;exact⟨⟨B'.eraseIdx i5,l++ [YM b],_,rfl,ZVS P1 P2 m B Y B' l i5 b hb hp hB.1 OS hOS,(ZgC l B' i5 b hb).trans hp,λb hb=>hm b (List.mem_of_mem_eraseIdx hb)⟩,by rw[ZVS P1 P2 m B Y B' l i5 b hb hp hB.1 OS hOS];exact Zi3 P1 P2 m B Y B' l i5 b hb _ _⟩
    .exact absurd h1 WT
def ZGh(r0:D)(P1 P2:W2)(Y:J7)(r:D)(os':J7):Prop:=r=r0/\ ∃Z,os'=Jr P1 P2 (Y++Z)/\Z.all Ob.nof=true
theorem ZeF{Y W Z:J7}{e:Ob}(hZ:Z=Y++e::W)(X:J7):Z++X=Y++e::(W++X):=by rw[hZ,Ys,ξZ]
set_option maxHeartbeats 4000000 in
theorem ZdH(L:List (Tx×Ze))(M:List (Tx×Zi))(Y:J7)(dn:Tx)(l:List ZN)(h:Js l):ZF Tryz.prog 79 [.ptr 0 0,.agg [.x (.str dn),.x (.sl (rows ZK l))]] (Jr (JS L) (JN M) Y) (ZGh (.x (.bool (ZEd L dn l))) (JS L) (JN M) Y):=by
 obtain⟨d,hd⟩: ∃d,(Ya (YQ dn)).1=d:=⟨_,rfl⟩;rcases hres:ZEd L dn l with v
 unfold ZEd at hres;rw[hd]at hres;have hul:ZM ZK (rows ZK l)=some l:=ZS Zf l;have hg0:=ZFI Y;have hg1:=Zh6 Y;have hg2:=Zj7 Y;have hL1: ∀m:Nat,decide (1<m+1+1+1+1)=true:=λm=>ZI J0
 have hL2: ∀m:Nat,decide (2<m+1+1+1+1)=true:=λm=>ZI J0
 have hL3: ∀m:Nat,decide (3<m+1+1+1+1)=true:=λm=>ZI J0
 have hu1:=ZGW L;have hu2:=ZGY M;have hmb: ∀r∈d,JA r=true:=λr hr=>Zff (s:=YQ dn) (by rw[hd];exact hr)
 refine fC 79 true ?_;intro C0 E0;have uu:=ξ9 @ZOG.eq_1 @ZGy.eq_1 @ZRl.eq_1 @ZRl.eq_2 @ZOb.eq_1 hul hd @ZCa (ξ9 @ZCb @ZDw @ZDt @ZAe @ZAf hg0 hg1 hg2 (ξ5 hL1 hL2 hL3 hu1 hu2));have tT:=aR (aQ (aQ (aQ ZB ZMW) ZF2) ZVZ) ZQF;refine rg [0,3] ?_;refine rg [0,3,5,6] ?_;refine rg [0,3,6,7] ?_;refine rg [0,3,7,30] ?_;refine cd (λh0=> ?_) (λh0=> ?_)
 .have hq: ¬(JH dn=true/\d≠ []):=by
   rintro⟨e1,e2⟩;have:=ZKV.2 e2;rw[e1]at h0;clear uu hres;grind
  have hv:v=false:=by
   rw[<-hres];rcases Classical.em (JH dn=true)with e1|e1
   .have e2:d= []:=ZIM λe=>hq ⟨e1,e⟩
    rw[e1,e2];rfl
   .rw[ZKJ]at e1;rw[e1];rfl
  subst hv;refine Wj ?_;exact⟨rfl,_,rfl,rfl⟩
 .have hv:JH dn=true/\d≠ []:=by
   constructor
   .clear uu hres;grind
   .intro e;subst e;clear uu hres;grind
  obtain⟨r,d2,rfl⟩:=List.exists_cons_of_ne_nil hv.2;rw[hv.1,ZI hv.2,ZAk,ZAk,List.headD_cons]at hres;obtain⟨hr8,hr1,hpb⟩:=ZBh (hmb r ZAm);refine rg [0,3,33,34,35] ?_;refine WI.loop (λφ os=> ∃(j:Nat) (W:J7),φ= [(0,.ptr 0 0),(3,.ptr (Y.length+1+1+1+1) 0),(33,.x (.sl (rows Zu r))),(34,.x (.int .i64 r.length)),(35,.x (.int .i64 j))]/\os=Jr (JS L) (JN M) (Y++ .box [.x (.str dn),.x (.sl (rows ZK l))]::W)/\W.all Ob.nof=true/\j<=r.length/\(r.take j).all (ZCR L l)=true) (ZJ r.length 35) ?_ (λφ os hI=> ?_)
  .exact⟨0,[],rfl,rfl,rfl,J0,rfl⟩
  .obtain⟨j,W,rfl,rfl,hW,hj,hall⟩:=hI;obtain⟨Z,hZ⟩: ∃Z,Z=Y++ .box [.x (.str dn),.x (.sl (rows ZK l))]::W:=⟨_,rfl⟩;have hzE: ∀t:J7,(Z++t)[Y.length]? =some (.box [.x (.str dn),.x (.sl (rows ZK l))]):=λt=>by rw[hZ,Ys];exact ZFI Y _ _
   have hzN:Z[Y.length]? =some (.box [.x (.str dn),.x (.sl (rows ZK l))]):=by rw[hZ];exact ZFI Y _ _
   have hz0:=ZFI Z;have hz1:=Zh6 Z;have hs0:=ZWv Z;have hs1:=ZkE Z;have hsn:=ZjH Z;have hln: ∀x:Ob,(Z++ [x]).length=Z.length+1:=λx=>TG
   have uu:=ξ9 uu hzE hzN hz0 hz1 hs0 hs1 hsn hln;rw[<-hZ];refine rg [0,3,33,34,35,36] ?_;refine cd (λh1=> ?_) (λh1=> ?_)
   .have hj4:j<r.length:=Wm
    have hrw:=ZCi r j hj4;have hg:r[j]=r.getD j ([],[]):=T8
    have hal:=Yt (ZCR L l) r j hj4;have hno:ZCR L l (r.getD j ([],[]))=false->r.all (ZCR L l)=false:=λh=>Zl (ZCR L l) r j hj4 (by rw[hg];exact h)
    have hpl:=hpb r[j] (YK hj4);rw[hg]at hal hpl;generalize r.getD j ([],[])=p at hrw hal hno hpl;have hn1:ZCR L l p=((ZH L (ZE p.1)).isSome&&ZJn l p.1 p.2 (Ke L (ZE p.1)).2.1):=rfl;have hdp:decide (p.1.length<=140737488355328)=true:=ZI J0;have hdh:decide (Js l/\p.1.length<=140737488355328)=true:=ZI ⟨h,J0⟩;have uu:=ξ5 uu hrw hdp hdh @tyD.eq_1;refine rg [0,3,10,33,34,35] ?_;refine WI.dregB tT [0,3,10,11,12,33,34,35] ?_
    refine Wn ?_;refine WJ ?_;refine Xd ?_;refine rg [0,3,33,34,35,61] ?_;refine cd (λh2=> ?_) (λh2=> ?_)
    .have hf:ZCR L l p=false:=Hv
     rw[hno hf]at hres;subst hres;refine Wj ?_;exact⟨rfl,_,congrArg (Jr _ _) (ZeF hZ _),HR⟩
    .have hf:ZCR L l p=true:=Hv
     have hall2:(r.take (j+1)).all (ZCR L l)=true:=by rw[hal,hall,hf];rfl
     refine WI.orderA [0,3,33,34,35] ?_;refine rg [0,3,33,34,35] ?_;exact⟨⟨j+1,_,rfl,congrArg (Jr _ _) (ZeF hZ _),HR,J0,hall2⟩,Wa⟩
   .obtain rfl:j=r.length:=Wm
    rw[JX]at hall;rw[hall]at hres;subst hres;refine Wj ?_;exact⟨rfl,_,congrArg (Jr _ _) hZ,HR⟩
set_option maxHeartbeats 4000000 in
theorem ZWD(L:List (Tx×Ze))(M:List (Tx×Zi))(Y:J7)(dn:Tx)(l:List ZN)(h:Js l)(hk:ZEG M l):ZF Tryz.prog 40 [.ptr 0 0,.agg [.x (.str dn),.x (.sl (rows ZK l))]] (Jr (JS L) (JN M) Y) (ZGh (.x (.int .i64 (ZBs L M dn l))) (JS L) (JN M) Y):=by
 rcases hres:ZBs L M dn l with v
 unfold ZBs at hres;have hul:ZM ZK (rows ZK l)=some l:=ZS Zf l;have hdk:=ZI hk;have hg0:=ZFI Y;have hL1: ∀m:Nat,decide (1<m+1+1+1+1)=true:=λm=>ZI J0
 have hL2: ∀m:Nat,decide (2<m+1+1+1+1)=true:=λm=>ZI J0
 have hL3: ∀m:Nat,decide (3<m+1+1+1+1)=true:=λm=>ZI J0
 have hu1:=ZGW L;have hu2:=ZGY M;refine fC 40 true ?_;intro C0 E0;have uu:=ξ9 @ZLU.eq_1 hul hdk @ZCa @ZCb @ZDw @ZDt @ZAe (ξ7 @ZAf hg0 hL1 hL2 hL3 hu1 hu2);have tT:=aR ZB ZN5;refine rg [0,3] ?_;refine WI.dregB tT [0,3,5] ?_
 refine UO ?_;refine Zd ?_;refine dAC ?_;refine ZU ?_;refine dN ?_;refine rg [0,3,5,13] ?_;refine cd (λh0=> ?_) (λh0=> ?_)
 .have hc:ZH9 L M l≠0:=Vh
  rw[if_pos hc]at hres;subst hres;refine Wj ?_;exact⟨rfl,_,rfl,rfl⟩
 .have hc: ¬ZH9 L M l≠0:=Vh
  rw[if_neg hc]at hres;refine WI.cutA tT [15,16] 2 ?_;simp only[Qm,ZB0,ZEH,ZCG];refine WU ?_;refine oP ?_;refine ZHw ?_;refine WR.callF (ZX9) (ZdH L M (Y++ [.box [.x (.str dn),.x (.sl (rows ZK l))]]) dn l h) ?_;rintro _ _ ⟨rfl,Z,rfl,hZ⟩;refine WR.regB tT [18] ?_;refine oG ?_;refine V9 ?_;refine cd (λh1=> ?_) (λh1=> ?_)
  .have hc2: ¬ZEd L dn l=true:=WC
   rw[if_neg hc2]at hres;exact Ni
  .have hc2:ZEd L dn l=true:=WC
   rw[if_pos hc2]at hres;exact Ni
theorem sn0(Z:J7)(x:Ob):(Z++ [x])[Z.length]? =some x:=TG
theorem sn1(Z:J7)(x y:Ob):(Z++ [x]++ [y])[Z.length]? =some x:=by rw[Ys];exact ZFI Z x _
theorem sn2(Z:J7)(x y z:Ob):(Z++ [x]++ [y]++ [z])[Z.length]? =some x:=by rw[Ys,Ys];exact ZFI Z x _
theorem st0(Z:J7)(x y:Ob):(Z++ [x]).set Z.length y=Z++ [y]:=by rw[ZDm _ _ J0];simp
theorem st1(Z:J7)(x y z:Ob):(Z++ [x]++ [y]).set Z.length z=Z++ [z]++ [y]:=by rw[Ys,ZDm _ _ J0];simp
theorem sz1(Z W:J7)(x:Ob):(Z++ [x]++W)[Z.length]? =some x:=by rw[Ys];exact ZFI Z x _
theorem sz2(Z W:J7)(x y:Ob):(Z++ [x]++ [y]++W)[Z.length]? =some x:=by rw[Ys,Ys];exact ZFI Z x _
theorem sz3(Z W:J7)(x y z:Ob):(Z++ [x]++ [y]++ [z]++W)[Z.length]? =some x:=by rw[Ys,Ys,Ys];exact ZFI Z x _
theorem as2(Y:J7)(a b:Ob):Y++ [a]++ [b]=Y++ [a,b]:=TG
theorem as3(Y Z:J7)(a b:Ob):Y++ [a]++ [b]++Z=Y++a::b::Z:=TG
theorem as4(Y Z:J7)(a b c:Ob):Y++ [a]++ [b]++ [c]++Z=Y++a::b::c::Z:=TG
abbrev EM:=List (Tx×ZY)
def Jt(m:EM):W2:=Yw Ks ZZ.enc m
theorem ZIP(m:EM)(k:Tx):Jz (Jt m) [X.str k]=(ZH m k).map λe=> [.x (.str e.1),.x (.sl (rows ZK e.2.1))]:=by
 unfold Jt;rw[ZFG Ks ZZ.enc hkS m k];rfl
theorem ZZ0(m:EM)(k:Tx)(e:ZY):Yp (Jt m) [X.str k] [.x (.str e.1),.x (.sl (rows ZK e.2.1))]=Jt (Zy m k e):=ZEK Ks ZZ.enc hkS m k e
theorem Zg9(m:EM)(k:Tx):ZCO (Jt m) [X.str k]=Jt (Zk m k):=Zb4 Ks ZZ.enc hkS m k
theorem ZZ6(m:EM):(Jt m).length=m.length:=ZI9 _ _ _
theorem ZSu(s t:Tx):ZCq [X.str s] [X.str t]=decide (s=t):=hkS s t
theorem ZNu(B:List TB)(s:Tx):Jz (B.map YV) [X.str s]=(ZH B s).map λx=> [.ref (x.1+6) x.2.length 0 x.2.length]:=by
 induction B with
 |nil=>rfl
 |cons p B ih=>
  simp only[YO,YV,Jz,ZSu]at ih|-;by_cases h:s=p.1
  .simp[ZH,h]
  .simp only[h,decide_false,Je,if_false];rw[ih];simp[ZH,h]
theorem ZTd(B:List TB)(s:Tx)(i:Nat)(l:List Tx):Yp (B.map YV) [X.str s] [.ref (i+6) l.length 0 l.length]=(Zy B s (i,l)).map YV:=by
 induction B with
 |nil=>rfl
 |cons p B ih=>
  simp only[YO,YV,Yp,Zy,ZSu]at ih|-;by_cases h:s=p.1
  .simp[h,YV]
  .simp only[h,decide_false,Je,if_false];rw[ih];simp[YV]
theorem Zij(B:List TB)(s:Tx):ZCO (B.map YV) [X.str s]=(Zk B s).map YV:=by
 induction B with
 |nil=>rfl
 |cons p B ih=>
  simp only[YO,YV,ZCO,Zk,ZSu]at ih|-;by_cases h:s=p.1
  .simp[h]
  .simp only[h,decide_false,Je,if_false];rw[ih];simp[YV]
def ZH0(m:EM)(n:Tx):ZY:=match ZH m n with
 |some e=>(e.1,Zm e.2.1,())
 |none=>([],[],())
def ZhE(m:EM):Prop:= ∀n e,ZH m n=some e->Js e.2.1
theorem ZjY(P1 P2:W2)(m:EM)(o:Ob)(Y:J7)(n:Tx)(hm:ZhE m):ZF Tryz.prog 28 [.ptr 0 0,.x (.str n)] (Jr P1 P2 (.mpo .str true (Jt m)::o::Y)) (ZGh (.tup [.agg [.x (.str (ZH0 m n).1),.x (.sl (rows ZK (ZH0 m n).2.1))],.x (.bool (ZH m n).isSome)]) P1 P2 (.mpo .str true (Jt m)::o::Y)):=by
 have hg:=ZIP m n;have hs:=hm n;unfold ZH0;rcases hl:ZH m n with _|⟨dn,l,u⟩
 .rw[hl,Qd]at hg;refine fC 28 true ?_;intro C0 E0;have uu:=ξ7 @ZCg.eq_1 @sn0 @sn1 @sn2 @st0 @st1 hg;have tT:=aQ ZB (ZBe ZBO);refine rg [0,1,4] ?_;refine rg [0,1,4,9] ?_;refine ce (λh0=> ?_) (λh0=> ?_)
  .simp at h0
  .exact Gf
 .rw[hl,Yq]at hg;have hdm:=ZI (show l.length<=100/\(∀a∈l,a.1.length<=1000000)/\ ∀a∈l,a.2.1.length<=400 from hs _ hl);have hul:ZM ZK (rows ZK l)=some l:=ZS Zf l;refine fC 28 true ?_;intro C0 E0;have uu:=ξ9 @ZCg.eq_1 @sn0 @sn1 @sn2 @st0 @st1 hg hul hdm;have tT:=aQ ZB (ZBe ZBO);refine rg [0,1,4] ?_;refine rg [0,1,4,9] ?_;refine ce (λh0=> ?_) (λh0=> ?_)
  .simp at h0
  .exact Gf
theorem ZjZ(P1 P2:W2)(m:EM)(o:Ob)(Y:J7):ZF Tryz.prog 14 [.ptr 0 0] (Jr P1 P2 (.mpo .str true (Jt m)::o::Y)) (ZGh (.x (.int .i64 m.length)) P1 P2 (.mpo .str true (Jt m)::o::Y)):=by
 have hl:=ZZ6 m;refine fC 14 true ?_;intro C0 E0;have uu:=hl;have tT:=(ZB:SsOk Tryz.prog YH);refine rg [0] ?_;refine rg [0,4] ?_;refine ce (λh0=> ?_) (λh0=> ?_)
 .simp at h0
 .refine Wy ?_;exact⟨rfl,[],J1,rfl⟩
def Zix(r0:D)(m:EM)(P1 P2:W2)(o:Ob)(Y:J7)(r:D)(os':J7):Prop:=r=r0/\ ∃Z,os'=Jr P1 P2 (.mpo .str true (Jt m)::o::(Y++Z))/\Z.all Ob.nof=true
def ZAS(L:List (Tx×Ze))(M:List (Tx×Zi))(m:EM)(dn:Tx)(l:List ZN):Int:=if(ZH m dn).isSome then ZBs L M dn l else 32
def Kl(c:Int)(m:EM)(dn:Tx)(l:List ZN):EM:=if c=0 then Zy m dn (dn,Zm l,())else m
set_option maxHeartbeats 4000000 in
theorem Zhu(L:List (Tx×Ze))(M:List (Tx×Zi))(m:EM)(o:Ob)(Y:J7)(dn:Tx)(l:List ZN)(h:Js l)(hk:ZEG M l):ZF Tryz.prog 26 [.ptr 0 0,.agg [.x (.str dn),.x (.sl (rows ZK l))]] (Jr (JS L) (JN M) (.mpo .str true (Jt m)::o::Y)) (Zix (.x (.int .i64 (ZAS L M m dn l))) (Kl (ZAS L M m dn l) m dn l) (JS L) (JN M) o Y):=by
 have hg:=ZIP m dn;have hul:ZM ZK (rows ZK l)=some l:=ZS Zf l;have hdm:=ZI (show l.length<=100/\(∀a∈l,a.1.length<=1000000)/\ ∀a∈l,a.2.1.length<=400 from h);have hst:=ZZ0 m dn (dn,Zm l,());obtain⟨v,hv⟩: ∃v,ZAS L M m dn l=v:=⟨_,rfl⟩;rw[hv];unfold ZAS at hv;rcases hl:ZH m dn with _|⟨dn',l',u⟩
 .rw[hl,Qd]at hg;rw[hl,if_neg J1]at hv;subst hv;refine fC 26 true ?_;intro C0 E0;have uu:=ξ7 @ZCg.eq_1 @sn0 @sn1 @sn2 @st0 @st1 hg;have tT:=aQ ZB (ZBe ZBO);refine rg [0,3] ?_;refine rg [0,3,16] ?_;refine ce (λh0=> ?_) (λh0=> ?_)
  .simp at h0
  .refine WI.dregB tT [0,3,6] ?_;refine TA ?_;refine rg [0,3,28] ?_;refine ct (λh1=> ?_) (λh1=> ?_)
   .refine Wj ?_;exact⟨rfl,_,congrArg (λz=>Jr (JS L) (JN M) (_::_::z)) (as2 Y _ _),rfl⟩
   .simp at h1
 .rw[hl,Yq]at hg;rw[hl,if_pos J1]at hv;refine fC 26 true ?_;intro C0 E0;have uu:=ξ9 @ZCg.eq_1 @sn0 @sn1 @sn2 @st0 @st1 @sz1 @sz2 (ξ5 @sz3 hg hul hdm hst);have tT:=aQ ZB (ZBe ZBO);refine rg [0,3] ?_;refine rg [0,3,16] ?_;refine ce (λh0=> ?_) (λh0=> ?_)
  .simp at h0
  .refine WI.dregB tT [0,3,6] ?_;refine TA ?_;refine rg [0,3,28] ?_;refine ce (λh1=> ?_) (λh1=> ?_)
   .simp at h1
   .refine WI.cutA tT [0,3,29,30] 2 ?_;simp only[Qm,ZB0,ZEH,ZCG];refine WU ?_;refine oP ?_;refine ZHw ?_;refine WR.callF ((QT 40)) (ZWD L M (.mpo .str true (Jt m)::o::(Y++ [.box [.x (.str dn),.x (.sl (rows ZK l))]]++ [.box [.x (.str dn'),.x (.sl (rows ZK l'))]])) dn l h hk) ?_;rintro _ _ ⟨rfl,Z,rfl,hZ⟩;refine WR.regB tT [0,3,7] ?_;refine oS ?_;refine oN ?_;refine rg [0,3,7,33] ?_;refine cd (λh2=> ?_) (λh2=> ?_)
    .have hc: ¬v=0:=by rw[<-hv];simpa using h2
     refine Wj ?_;exact⟨by rw[hv],_,by rw[Kl,if_neg hc];exact congrArg (λz=>Jr (JS L) (JN M) (_::_::z)) (as3 Y Z _ _),by simp[Ob.nof,hZ]⟩
    .obtain rfl:v=0:=by rw[<-hv];simpa using h2
     refine WI.dregB tT [] ?_;refine Wn ?_;refine WJ ?_;refine Zd ?_;refine dQC ?_;refine Qj ?_;refine dN ?_;refine Wj ?_;exact⟨rfl,_,congrArg (λz=>Jr (JS L) (JN M) (_::_::z)) (as3 Y Z _ _),by simp[Ob.nof,hZ]⟩
def YJ(B:List (Tx×List Tx))(n:Tx):List Tx:=(ZH B n).getD []
def Yi(B:List (Tx×List Tx)):Nat->Tx->List Tx
 |0,_=> []
 |k+1,n=>(YJ B n).flatMap λs=>s::Yi B k s
def deep(B:List (Tx×List Tx)):Nat->Tx->Prop
 |0,n=>YJ B n= []
 |k+1,n=> ∀s∈YJ B n,deep B k s
theorem ZGs{Y:J7}{B:List TB}(h:okB Y B)(Z:J7):okB (Y++Z) B:=
 ⟨h.1,h.2.1,λx hx=>⟨by rw[Yk (ZX (h.2.2 x hx).1).1];exact(h.2.2 x hx).1,(h.2.2 x hx).2⟩⟩
theorem ZFH(B:List TB)(s:Tx):ZH (B.map YM) s=(ZH B s).map (·.2):=by
 induction B with
 |nil=>rfl
 |cons p B ih=>
  by_cases h:s=p.1
  .simp[ZH,h,YM]
  .have e1:ZH (YM p::B.map YM) s=ZH (B.map YM) s:=by simp[ZH,YM,h]
   have e2:ZH (p::B) s=ZH B s:=by simp[ZH,h]
   rw[YO,e1,e2];exact ih
theorem ra0(Y W V:J7)(R:Ob):(Y++R::W++V)[Y.length]? =some R:=by rw[Ys,ξZ];exact ZFI Y R _
theorem ra1(Y W V U:J7)(R:Ob):(Y++R::W++V++U)[Y.length]? =some R:=by rw[Ys,Ys,ξZ];exact ZFI Y R _
theorem rs0(Y W V:J7)(R R':Ob):(Y++R::W++V).set Y.length R'=Y++R'::W++V:=by rw[Ys,ξZ,ZWv];simp
theorem rs1(Y W V U:J7)(R R':Ob):(Y++R::W++V++U).set Y.length R'=Y++R'::W++V++U:=by rw[Ys,Ys,ξZ,ZWv];simp
theorem Za6{f:Tx->List Tx}(row:List Tx)(j:Nat)(h:j<row.length):(row.take (j+1)).flatMap (λs=>s::f s)=(row.take j).flatMap (λs=>s::f s)++row.getD j []::f (row.getD j []):=by
 rw[JW h,ZdQ];simp[h]
theorem ZgZ{α β:Type}(f:α->List β)(l:List α)(j:Nat):((l.take j).flatMap f).length<=(l.flatMap f).length:=by
 conv=>rhs;rw[<-ZBb j l,ZdQ,ZW]
 omega
theorem ZjO(P1 P2:W2)(o b:Ob)(Y W Z:J7)(acc:List Tx)(s:Tx)(w:List Tx)(x:Ob):Jr P1 P2 (o::b::(Y++ .rows false 9 1 (rows ZC acc++ [[.str s]]++rows ZC w)::W++ [x]++Z))=Jr P1 P2 (o::b::(Y++ .rows false 9 1 (rows ZC (acc++s::w))::(W++x::Z))):=by
 have h:rows ZC acc++ [[X.str s]]++rows ZC w=rows ZC (acc++s::w):=Ge
 rw[h];simp
set_option maxHeartbeats 4000000 in
theorem ZUI(P1 P2:W2)(o:Ob)(Bt:List TB)(f:Tx->List Tx)(n:Tx)(Y:J7)(row:List Tx)(hB:okB Y Bt)(hrow:YJ (Bt.map YM) n=row)
  (hih: ∀s∈row,∀Y,okB Y Bt->(f s).length<=1000000->ZF Tryz.prog 52 [.ptr 0 0,.x (.str s)] (Jr P1 P2 (o:: .mpo .str false (Bt.map YV)::Y)) (ZGh (.x (.sl (rows ZC (f s)))) P1 P2 (o:: .mpo .str false (Bt.map YV)::Y)))
  (hl:(row.flatMap λs=>s::f s).length<=1000000):ZF Tryz.prog 52 [.ptr 0 0,.x (.str n)] (Jr P1 P2 (o:: .mpo .str false (Bt.map YV)::Y)) (ZGh (.x (.sl (rows ZC (row.flatMap λs=>s::f s)))) P1 P2 (o:: .mpo .str false (Bt.map YV)::Y)):=by
 have hg:=ZNu Bt n;unfold YJ at hrow;rw[ZFH]at hrow;rcases hm:ZH Bt n with _|⟨i,row'⟩
 .rw[hm]at hg hrow;subst hrow;rw[Qd]at hg;refine fC 52 true ?_;intro C0 E0;have uu:=hg;have tT:=(ZB:SsOk Tryz.prog YH);refine VS ?_;refine rg [0,5,13,14,15] ?_;refine WI.loopN 1 ?_;refine WI.round ?_;refine rg [0,5,13,14,15,16] ?_;refine ce (λh0=> ?_) (λh0=> ?_)
  .exact US
  .refine rg [4] ?_;refine WI.nn0A ?_;refine lf ?_;exact⟨rfl,[],J1,rfl⟩
 .rw[hm]at hg hrow;rw[Yq]at hg;obtain rfl:row'=row:=hrow;obtain⟨hY,hrl⟩:=hB.2.2 _ (JD hm);simp only at hY hrl;have hrY: ∀W:J7,(Y++W)[i]? =some (.rows false 9 1 (rows ZC row')):=λW=>by
   rw[Yk (ZX hY).1];exact hY
  have hrn:=ZQ ZC row';have htl:(rows ZC row').take row'.length=rows ZC row':=by rw[<-hrn,JX]
  refine fC 52 true ?_;intro C0 E0;have uu:=ξ5 hg hY hrY hrn htl;have tT:=(ZB:SsOk Tryz.prog YH);refine VS ?_;refine rg [0,5,13,14,15] ?_;refine WI.ownA 5 9 1 ?_;refine WI.orderA [0,5,13,14,15] ?_;obtain⟨XS,hX⟩: ∃XS,XS=row'.flatMap (λs=>s::f s):=⟨_,rfl⟩;rw[<-hX]at hl|-;refine WI.loop (λφ os=> ∃(j:Nat) (acc:List Tx) (W:J7),φ= [(0,.ptr 0 0),(5,.ref (Y.length+1+1+1+1+1+1) acc.length 0 acc.length),(13,.ref (i+6) row'.length 0 row'.length),(14,.x (.int .i64 row'.length)),(15,.x (.int .i64 j))]/\os=Jr P1 P2 (o:: .mpo .str false (Bt.map YV)::(Y++ .rows false 9 1 (rows ZC acc)::W))/\W.all Ob.nof=true/\j<=row'.length/\acc=(row'.take j).flatMap (λs=>s::f s)) (ZJ row'.length 15) ?_ (λφ os hI=> ?_)
  .exact⟨0,[],[],rfl,rfl,rfl,J0,rfl⟩
  .obtain⟨j,acc,W,rfl,rfl,hW,hj,hacc⟩:=hI;have hra:=ra0 Y W;have hra1:=ra1 Y W;have hrs:=rs0 Y W;have hrs1:=rs1 Y W;have uu:=ξ7 uu hra hra1 hrs hrs1 sn0 (ZFI Y);refine rg [0,5,13,14,15,16] ?_;refine cd (λh0=> ?_) (λh0=> ?_)
   .have hj4:j<row'.length:=Wm
    have hrw:(rows ZC row')[j]? =some [X.str (row'.getD j [])]:=XP
    have hst:=Za6 (f:=f) row' j hj4;have hle:=ZgZ (λs=>s::f s) row' (j+1);rw[hst,<-hacc,<-hX,ZW,Yx]at hle;have hds:=hih (row'.getD j []) (by rw[show row'.getD j []=row'[j] by simp[hj4]];exact YK hj4);generalize row'.getD j []=s at hrw hst hle hds;have hta:(rows ZC acc).take acc.length=rows ZC acc:=by rw[<-ZQ ZC acc,JX]
    have uu:=Qu uu hrw hta (ZQ ZC acc);refine rg [0,5,7,13,14,15] ?_;refine WI.cutA tT [0,13,14,15,22,23,24] 6 ?_;simp only[Qm,ZB0,ZEH,ZCG]
    refine GC ?_;refine Wu ?_;refine oP ?_;refine ZHw ?_;refine WR.callF ((QT 52)) (hds (Y++ .rows false 9 1 (rows ZC acc++ [[.str s]])::W++ [.rows false 9 1 [[.str s]]]) (by rw[Ys];exact ZGs hB _) J0) ?_;rintro _ _ ⟨rfl,Z,rfl,hZ⟩;refine WR.regB tT [0,5,13,14,15] ?_;refine oG ?_;refine Wf ?_;refine WI.orderA [0,5,13,14,15] ?_;have hla:(acc++s::f s).length=acc.length+1+(f s).length:=Wx
    refine rg [0,5,13,14,15] ?_;exact⟨⟨j+1,acc++s::f s,W++_::Z,by rw[hla];rfl,ZjO P1 P2 o _ Y W Z acc s _ _,by simp[Ob.nof,hW,hZ],J0,by rw[hst,<-hacc]⟩,Wa⟩
   .obtain rfl:j=row'.length:=Wm
    rw[JX,<-hX]at hacc;subst hacc;have hta:(rows ZC acc).take acc.length=rows ZC acc:=by rw[<-ZQ ZC acc,JX]
    have uu:=JL uu hta (ZQ ZC acc);refine Wj ?_;exact⟨rfl,.frz 1 (rows ZC acc)::W,congrArg (λz=>Jr P1 P2 (_::_::z)) (ZWv Y _ _ W),HR⟩
theorem ZRr(P1 P2:W2)(o:Ob)(Bt:List TB): ∀(k:Nat) (n:Tx) (Y:J7) (hB:okB Y Bt) (hd:deep (Bt.map YM) k n) (hl:(Yi (Bt.map YM) k n).length<=1000000),
  ZF Tryz.prog 52 [.ptr 0 0,.x (.str n)] (Jr P1 P2 (o:: .mpo .str false (Bt.map YV)::Y)) (ZGh (.x (.sl (rows ZC (Yi (Bt.map YM) k n)))) P1 P2 (o:: .mpo .str false (Bt.map YV)::Y))
 |0,n,Y,hB,hd,_=>ZUI P1 P2 o Bt (λ_=> []) n Y [] hB hd (λs h=>W6) WT
 |k+1,n,Y,hB,hd,hl=>ZUI P1 P2 o Bt (Yi (Bt.map YM) k) n Y _ hB rfl (λs hs Y hB hl=>ZRr P1 P2 o Bt k s Y hB (hd s hs) hl) hl
theorem sy1(Z W:J7)(x y:Ob):(Z++ [x]++W).set Z.length y=Z++ [y]++W:=by rw[Ys,ZDm _ _ J0];simp
def ZC6(m:EM)(B:List (Tx×List Tx))(k:Nat)(n:Tx):List Tx:=if n= []then Yi B k []else if(ZH m n).isSome then n::Yi B k n else []
set_option maxHeartbeats 4000000 in
theorem ZWN(P1 P2:W2)(m:EM)(Bt:List TB)(k:Nat)(n:Tx)(Y:J7)(hB:okB Y Bt)(hd:deep (Bt.map YM) k n)(hl:(Yi (Bt.map YM) k n).length<=999999):
  ZF Tryz.prog 23 [.ptr 0 0,.x (.str n)] (Jr P1 P2 (.mpo .str true (Jt m):: .mpo .str false (Bt.map YV)::Y)) (ZGh (.x (.sl (rows ZC (ZC6 m (Bt.map YM) k n)))) P1 P2 (.mpo .str true (Jt m):: .mpo .str false (Bt.map YV)::Y)):=by
 have hg:=ZIP m n;unfold ZC6;by_cases hn:n= []
 .subst hn;rw[if_pos rfl];refine fC 23 true ?_;intro C0 E0;have uu:=trivial;have tT:=(ZB:SsOk Tryz.prog YH);refine rg [0,1] ?_;refine rg [0,1,8] ?_;refine ce (λh0=> ?_) (λh0=> ?_)
  .simp at h0
  .refine rg [0,1,10] ?_;refine ct (λh1=> ?_) (λh1=> ?_)
   .refine WI.cutA tT [11] 1 ?_;simp only[Qm,ZB0,ZEH,ZCG];refine Nu ?_;refine ZHw ?_;refine WR.callF ((QT 52)) (ZRr P1 P2 _ Bt k [] Y hB hd J0) ?_;rintro _ _ ⟨rfl,Z,rfl,hZ⟩;refine WR.regB tT [4] ?_;refine Un ?_;exact⟨rfl,Z,rfl,hZ⟩
   .simp at h1
 .rw[if_neg hn];rcases hm:ZH m n with _|⟨dn,l,u⟩
  .rw[hm,Qd]at hg;rw[if_neg J1];refine fC 23 true ?_;intro C0 E0;have uu:=JL hg @sn0 @st0;have tT:=(ZB:SsOk Tryz.prog YH);refine rg [0,1] ?_;refine rg [0,1,8] ?_;refine ce (λh0=> ?_) (λh0=> ?_)
   .simp at h0
   .refine rg [0,1,10] ?_;refine ce (λh1=> ?_) (λh1=> ?_)
    .exact hn WC
    .refine rg [0,1,6] ?_;refine rg [0,1,23] ?_;refine ct (λh2=> ?_) (λh2=> ?_)
     .refine rg [4] ?_;refine WI.nn0A ?_;refine lf ?_;exact⟨rfl,[_],rfl,rfl⟩
     .simp at h2
  .rw[hm,Yq]at hg;rw[if_pos J1];have hwl:=ZQ ZC (Yi (Bt.map YM) k n);have hwt:(rows ZC (n::Yi (Bt.map YM) k n)).take (1+(Yi (Bt.map YM) k n).length)=rows ZC (n::Yi (Bt.map YM) k n):=YR (by rw[ZQ,Yx];omega);refine fC 23 true ?_;intro C0 E0;have uu:=ξ6 hg @sn0 @st0 @sz1 @sy1 hwl;have tT:=(ZB:SsOk Tryz.prog YH);refine rg [0,1] ?_;refine rg [0,1,8] ?_;refine ce (λh0=> ?_) (λh0=> ?_)
   .simp at h0
   .refine rg [0,1,10] ?_;refine ce (λh1=> ?_) (λh1=> ?_)
    .exact hn WC
    .refine rg [0,1,6] ?_;refine rg [0,1,23] ?_;refine ce (λh2=> ?_) (λh2=> ?_)
     .simp at h2
     .refine WI.cutA tT [25,26,27] 4 ?_;simp only[Qm,ZB0,ZEH,ZCG];refine WU ?_
      refine Wu ?_;refine oP ?_;refine ZHw ?_;refine WR.callF ((QT 52)) (ZRr P1 P2 _ Bt k n (Y++ [.box [.x (.str dn),.x (.sl (rows ZK l))]]++ [.rows false 9 1 [[.str n]]]) (by rw[Ys];exact ZGs hB _) hd J0) ?_;rintro _ _ ⟨rfl,Z,rfl,hZ⟩;refine WR.regB tT [4] ?_;refine oG ?_;refine Wf ?_;obtain⟨Z0,hZ0⟩: ∃Z0,Z0=Y++ [Ob.box [.x (.str dn),.x (.sl (rows ZK l))]]:=⟨_,rfl⟩;have hR: [X.str n]::rows ZC (Yi (Bt.map YM) k n)=rows ZC (n::Yi (Bt.map YM) k n):=rfl;rw[<-hZ0,hR];have hl1:(rows ZC (n::Yi (Bt.map YM) k n)).length=1+(Yi (Bt.map YM) k n).length:=by rw[ZQ,Yx];omega
      generalize rows ZC (n::Yi (Bt.map YM) k n)=R at hwt hl1|-;have uu:=JL uu hwt hl1;refine lf ?_;exact⟨rfl,_,by rw[hZ0];exact congrArg (λz=>Jr P1 P2 (_::_::z)) (as3 Y Z _ _),by simp[Ob.nof,hZ]⟩
theorem ZgO(P1 P2:W2)(m:EM)(Bt:List TB)(k:Nat)(Y:J7)(hB:okB Y Bt)(hd:deep (Bt.map YM) k [])(hl:(Yi (Bt.map YM) k []).length<=999999):
  ZF Tryz.prog 15 [.ptr 0 0] (Jr P1 P2 (.mpo .str true (Jt m):: .mpo .str false (Bt.map YV)::Y)) (ZGh (.x (.sl (rows ZC (Yi (Bt.map YM) k [])))) P1 P2 (.mpo .str true (Jt m):: .mpo .str false (Bt.map YV)::Y)):=by
 refine fC 15 true ?_;intro C0 E0;have uu:=trivial;have tT:=(ZB:SsOk Tryz.prog YH);refine rg [0] ?_;refine WI.cutA tT [3] 1 ?_;simp only[Qm,ZB0,ZEH,ZCG];refine Nu ?_;refine ZHw ?_;refine WR.callF ((QT 23)) (ZWN P1 P2 m Bt k [] Y hB hd hl) ?_;rintro _ _ ⟨rfl,Z,rfl,hZ⟩;refine WR.regB tT [2] ?_;refine Un ?_;exact⟨rfl,Z,rfl,hZ⟩
def ZJN(r0:D)(m:EM)(B:List (Tx×List Tx))(P1 P2:W2)(r:D)(os':J7):Prop:=r=r0/\ ∃(Bt:List TB) (Y:J7),(Bt.map YM).Perm B/\okB Y Bt/\Y.all Ob.nof=true/\os'=Jr P1 P2 (.mpo .str true (Jt m):: .mpo .str false (Bt.map YV)::Y)
def Qx(L:List (Tx×Ze))(M:List (Tx×Zi))(m:EM)(dn:Tx)(l:List ZN):Int:=
 if JH dn=false then 34 else if(ZH m dn).isSome=true then 68 else if(ZH m (YC dn)).isSome=false/\YC dn≠ []then 32 else if ZBs L M dn l≠0 then ZBs L M dn l else if 1024<=m.length then 80 else 0
def ZFQ(l:List Tx)(s:Tx):List Tx:=l.take (JQ l s)++s::l.drop (JQ l s)
def ZA5(c:Int)(B:List (Tx×List Tx))(dn:Tx):List (Tx×List Tx):=if c=0 then Zy B (YC dn) (ZFQ (YJ B (YC dn)) dn)else B
theorem ZHM{v:Int}(hv:v≠0)(m:EM)(Bt:List TB)(P1 P2:W2)(Y:J7)(dn:Tx)(l:List ZN)(hB:okB Y Bt)(hY:Y.all Ob.nof=true)(X:J7)(hX:X.all Ob.nof=true):
  ZJN (.x (.int .i64 v)) (Kl v m dn l) (ZA5 v (Bt.map YM) dn) P1 P2 (.x (.int .i64 v)) (Jr P1 P2 (.mpo .str true (Jt m):: .mpo .str false (Bt.map YV)::(Y++X))):=by
 unfold Kl ZA5;exact N3
theorem ZAP: ∀(n:Nat) (a b:J7),(∀(id:Nat) (ds:J8),a[id]? =some (.box ds)->b[id]? =some (.box ds))->a.length<=b.length->Jd [] n a b=true
 |_,[],_,_,_=>rfl
 |_,x::a,[],_,h=>WE
 |n,x::a,y::b,h,hl=>by
  have ih:=ZAP (n+1) a b (λid ds hid=>by simpa using h (id+1) ds (by simpa using hid)) UC;cases x with
  |box ds=>
   have h0:=h 0 ds rfl;simp only[ZC5,Yu]at h0;subst h0;simp only[Jd,Zh,Ob.beq_refl,ih,ZFN,ZLC]
  |_=>simpa only[Jd]using ih
theorem ZO.atR{P:Program}{f:FuncId}{ρ:W0}{args:J8}{OS:J7}{r:D}{os':J7}(hok:QC ρ args OS=true)(h:ZO P f (YA (inv ρ) args) (YX ρ OS) r os')(hl:ρ.length<=os'.length):ZO P f args OS (r.ren (KN ρ OS.length os'.length)) (KU ρ OS os'):=by
 have hf:ZF P f (YA (inv ρ) args) (YX ρ OS) (λr' os2=>r'=r/\os2=os'):=by
  intro c E vs R hvl;refine(h c E vs R hvl).mono ?_;exact Nw
 refine ZF.mcalls (λc E vs R hvl=>((ZF.lift hok hf (λr os' ⟨_,h⟩=>by rw[h];exact hl)) c E vs R hvl).mono ?_);exact TL
theorem ZOp(B:List TB)(s:Tx)(i:Nat)(l:List Tx):(Zy B s (i,l)).map YM=Zy (B.map YM) s l:=by
 induction B with
 |nil=>rfl
 |cons p B ih=>
  by_cases h:s=p.1
  .have e1:Zy (p::B) s (i,l)=(s,(i,l))::B:=by simp[Zy,h]
   have e2:Zy (YM p::B.map YM) s l=(s,l)::B.map YM:=by simp[Zy,YM,h]
   rw[e1,YO,YO,e2];rfl
  .have e1:Zy (p::B) s (i,l)=p::Zy B s (i,l):=by simp[Zy,h]
   have e2:Zy (YM p::B.map YM) s l=YM p::Zy (B.map YM) s l:=by simp[Zy,YM,h]
   rw[e1,YO,YO,e2,ih]
theorem ZfG{κ β:Type}[DecidableEq κ]{A:List (κ×β)}{c:κ}(h:ZH A c=none):c∉A.map (·.1):=by
 intro hc;obtain⟨p,hp,rfl⟩:=YS.1 hc;unfold ZH at h;rw[Option.map_eq_none_iff,List.find?_eq_none]at h;exact h p hp J1
theorem ZgF{Y:J7}{B:List TB}(h:okB Y B)(W:J7)(s:Tx)(l:List Tx)(hs:ZH B s=none)(hl:l.length<=1000000)(Z:J7):okB (Y++W++Ob.rows false 9 1 (rows ZC l)::Z) (Zy B s ((Y++W).length,l)):=by
 rw[ZDK hs];have hlt: ∀x∈B,x.2.1<Y.length:=λx hx=>(ZX (h.2.2 x hx).1).1
 refine⟨?_,?_,λx hx=> ?_⟩
 .rw[Jj,ZFC];exact⟨h.1,J1,λa ha b hb e=>ZfG hs (by simp at hb;subst hb;rw[<-e];exact ha)⟩
 .rw[Jj,ZFC];refine⟨h.2.1,J1,λa ha b hb e=> ?_⟩;obtain⟨x,hx,rfl⟩:=YS.1 ha;have:=hlt x hx;simp at hb;omega
 .rcases KT.1 hx with hx|hx
  .refine⟨?_,(h.2.2 x hx).2⟩;rw[Ys,Yk (hlt x hx)];exact(h.2.2 x hx).1
  .simp only[ZAM]at hx;subst hx;exact⟨J1,hl⟩
theorem Zfi{Y:J7}{B:List TB}(h:okB Y B)(s:Tx)(i:Nat)(l0 l:List Tx)(hs:ZH B s=some (i,l0))(hl:l.length<=1000000)(W:J7):okB (Y.set i (.rows false 9 1 (rows ZC l))++W) (Zy B s (i,l)):=by
 have hp:=ZK6 hs;have hq:=ZBV B s (i,l);have hm:=JD hs;have hi:=(ZX (h.2.2 _ hm).1).1;have n1:((s,(i,l0))::Zk B s).map (·.1)=((s,(i,l))::Zk B s).map (·.1):=rfl;have n2:((s,(i,l0))::Zk B s).map (·.2.1)=((s,(i,l))::Zk B s).map (·.2.1):=rfl;have m1:=(hp.map (·.1)).nodup_iff.1 h.1;have m2:=(hp.map (·.2.1)).nodup_iff.1 h.2.1;refine⟨(hq.map (·.1)).nodup_iff.2 (n1▸m1),(hq.map (·.2.1)).nodup_iff.2 (n2▸m2),λx hx=> ?_⟩;rcases Jf.1 (hq.mem_iff.1 hx)with rfl|hx
 .exact⟨by rw[Yk Um];simp[hi],hl⟩
 .have hxB:x∈B:=hp.mem_iff.2 (ξU _ hx);have hx2:=h.2.2 x hxB;have hxl:=(ZX hx2.1).1;refine⟨?_,hx2.2⟩;have hne:i≠x.2.1:=λe=>by
   rw[YO,ZBE]at m2;exact m2.1 (YS.2 ⟨x,hx,e.symm⟩)
  rw[Yk (by simpa using hxl),ZAp hne];exact hx2.1
theorem Zad(m:EM)(Bt:List TB)(P1 P2:W2)(Y U:J7)(dn:Tx)(l:List ZN)(hB:okB Y Bt)(hY:Y.all Ob.nof=true)(hU:U.all Ob.nof=true)(hs:ZH Bt (YC dn)=none)(OS:J7)(hOS:OS=Jr P1 P2 (.mpo .str true (Jt (Zy m dn (dn,Zm l,()))):: .mpo .str false (Bt.map YV)::(Y++U)))(o:Ob)(ho:o.nof=true):
  ZJN (.x (.int .i64 0)) (Kl 0 m dn l) (ZA5 0 (Bt.map YM) dn) P1 P2 (.x (.int .i64 0)) ((OS++ [o]++ [Ob.rows false 9 1 [[.str dn]]]).set 5 (.mpo .str false (Yp (Bt.map YV) [.str (YC dn)] [.ref (OS.length+1) 1 0 1]))):=by
 have hol:OS.length+1=(Y++(U++ [o])).length+6:=by rw[hOS];simp[Jr];omega
 refine⟨rfl,Zy Bt (YC dn) ((Y++(U++ [o])).length,[dn]),Y++(U++ [o])++ [Ob.rows false 9 1 (rows ZC [dn])],?_,ZgF hB _ _ _ hs J1 _,?_,?_⟩
 .rw[ZOp,ZA5,if_pos rfl];have:YJ (Bt.map YM) (YC dn)= []:=by unfold YJ;rw[ZFH,hs];rfl
  rw[this];exact ZI0 _
 .simp only[ZJh,Qa,ZEM,hY,hU,ho];rfl
 .rw[hol,show([D.ref ((Y++(U++ [o])).length+6) 1 0 1])= [.ref ((Y++(U++ [o])).length+6) [dn].length 0 [dn].length]from rfl,ZTd,hOS,Kl,if_pos rfl];simp[Jr,rows,ZC]
theorem ZaO(m:EM)(Bt:List TB)(P1 P2:W2)(Y U:J7)(dn:Tx)(l:List ZN)(hB:okB Y Bt)(hY:Y.all Ob.nof=true)(hU:U.all Ob.nof=true)(i:Nat)(row:List Tx)(hs:ZH Bt (YC dn)=some (i,row))(hl:row.length<=999999)(OS:J7)(hOS:OS=Jr P1 P2 (.mpo .str true (Jt (Zy m dn (dn,Zm l,()))):: .mpo .str false (Bt.map YV)::(Y++U)))(o:Ob)(ho:o.nof=true):
  ZJN (.x (.int .i64 0)) (Kl 0 m dn l) (ZA5 0 (Bt.map YM) dn) P1 P2 (.x (.int .i64 0)) (((OS++ [o]).set (i+6) (.rows false 9 1 (rows ZC (ZFQ row dn)))).set 5 (.mpo .str false (Yp (Bt.map YV) [.str (YC dn)] [.ref (i+6) (row.length+1) 0 (row.length+1)]))):=by
 have hil:(ZFQ row dn).length=row.length+1:=by
  have:=ZI5 row dn;unfold ZFQ;simp;omega
 have hi:=(ZX (hB.2.2 _ (JD hs)).1).1;simp only at hi;refine⟨rfl,Zy Bt (YC dn) (i,ZFQ row dn),Y.set i (.rows false 9 1 (rows ZC (ZFQ row dn)))++(U++ [o]),?_,Zfi hB _ _ row _ hs J0 _,?_,?_⟩
 .rw[ZOp,ZA5,if_pos rfl];have:YJ (Bt.map YM) (YC dn)=row:=by unfold YJ;rw[ZFH,hs];rfl
  rw[this]
 .simp only[ZJh,Qa,ZEM,hU,ho,QX];rw[Yg]at hY|-;intro x hx;rcases ZXl hx with h|h
  .exact hY x h
  .rw[h];rfl
 .rw[<-hil,ZTd,hOS,Kl,if_pos rfl];simp only[Jr,ξZ,ZCM,ZDp,Ys];rw[ZMc _ _ J0]
theorem ZYr(l:List Tx)(s:Tx):YY (rows ZC l) (JQ l s) [[.str s]]=rows ZC (ZFQ l s):=by simp[YY,ZFQ,rows,ZC]
theorem ZN7:Go.Ab.Enters Tryz.prog 44:=QT 44
theorem ZgN(OS:J7)(r:J9):ZO Tryz.prog 44 [.x .nils,.x (.int .i64 ((0:Nat):Int)),.ref OS.length 1 0 1] (OS++ [Ob.rows false 9 1 [r]]) (.ref (OS.length+1) 1 0 1) (OS++ [Ob.rows false 9 1 [r]]++ [Ob.rows false 9 1 [r]]):=by
 have hg:(OS++ [Ob.rows false 9 1 [r]]).getD OS.length .dead= .rows false 9 1 [r]:=by simp[List.getD]
 have hO:YX [OS.length] (OS++ [Ob.rows false 9 1 [r]])= [.rows false 9 1 [r]]:=by simp only[YX,YO,ZAa,hg];rfl
 have ha:YA (inv [OS.length]) [D.x .nils,.x (.int .i64 ((0:Nat):Int)),.ref OS.length 1 0 1]= [.x .nils,.x (.int .i64 0),.ref 0 1 0 1]:=by simp[YA,D.ren,inv]
 have h:=ZO.atR (P:=Tryz.prog) (f:=44) (ρ:= [OS.length]) (args:= [.x .nils,.x (.int .i64 ((0:Nat):Int)),.ref OS.length 1 0 1]) (OS:=OS++ [Ob.rows false 9 1 [r]]) (r:= .ref 1 1 0 1) (os':= [.rows false 9 1 [r],.rows false 9 1 [r]]) (by simp[QC,JB,D.inP,Zh,QH,hg,Ob.inP]) (by rw[hO,ha];exact ZY4 r) J1;have e1:(D.ref 1 1 0 1).ren (KN [OS.length] (OS++ [Ob.rows false 9 1 [r]]).length 2)= .ref (OS.length+1) 1 0 1:=by simp[D.ren,KN]
 have e2:KU [OS.length] (OS++ [Ob.rows false 9 1 [r]]) [.rows false 9 1 [r],.rows false 9 1 [r]]=OS++ [Ob.rows false 9 1 [r]]++ [Ob.rows false 9 1 [r]]:=by
  simp only[KU,YO,ZAa,Ob.ren,KR,Yx,Qw,ZEH,ZCG,st0]
 rw[<-e1,<-e2];exact h
theorem ZfI(OS:J7)(a:Nat)(rs:J6)(r:J9)(k:Nat)(h:OS[a]? =some (.rows false 9 1 rs))(hk:k<=rs.length)(hn:rs.length<=1000000):ZO Tryz.prog 44 [.ref a rs.length 0 rs.length,.x (.int .i64 k),.ref OS.length 1 0 1] (OS++ [Ob.rows false 9 1 [r]]) (.ref a (rs.length+1) 0 (rs.length+1)) ((OS++ [Ob.rows false 9 1 [r]]).set a (.rows false 9 1 (YY rs k [r]))):=by
 have hal:=(ZX h).1;have hg:(OS++ [Ob.rows false 9 1 [r]]).getD OS.length .dead= .rows false 9 1 [r]:=by simp[List.getD]
 have hg2:(OS++ [Ob.rows false 9 1 [r]]).getD a .dead= .rows false 9 1 rs:=by rw[ZCB,Yk hal,h];rfl
 have hne:a≠OS.length:=Wm
 have hne2:OS.length≠a:=Wm
 have hO:YX [a,OS.length] (OS++ [Ob.rows false 9 1 [r]])= [.rows false 9 1 rs,.rows false 9 1 [r]]:=by simp only[YX,YO,ZAa,hg,hg2];rfl
 have ha:YA (inv [a,OS.length]) [D.ref a rs.length 0 rs.length,.x (.int .i64 k),.ref OS.length 1 0 1]= [.ref 0 rs.length 0 rs.length,.x (.int .i64 k),.ref 1 1 0 1]:=by simp[YA,D.ren,inv,hne2]
 have hnb:Nat.beq a OS.length=false:=by
  cases hb:Nat.beq a OS.length with
  |false=>rfl
  |true=>exact absurd (ZNH hb) hne
 have hfp:QC [a,OS.length] [.ref a rs.length 0 rs.length,.x (.int .i64 k),.ref OS.length 1 0 1] (OS++ [Ob.rows false 9 1 [r]])=true:=by
  unfold QC;simp only[Qa,ZEM,hg,hg2,Ob.inP,JB,D.inP,Zh,QH,hnb,ZEa,QX,ZEs,ZGK,ZD5,ZM9,Zj,Yl,ZW,Yx,Qw];omega
 have h:=ZO.atR (P:=Tryz.prog) (f:=44) (ρ:= [a,OS.length]) (args:= [.ref a rs.length 0 rs.length,.x (.int .i64 k),.ref OS.length 1 0 1]) (OS:=OS++ [Ob.rows false 9 1 [r]]) (r:= .ref 0 (rs.length+1) 0 (rs.length+1)) (os':= [.rows false 9 1 (YY rs k [r]),.rows false 9 1 [r]]) hfp (by rw[hO,ha];exact ZYF rs r k hk hn) J1;have e1:(D.ref 0 (rs.length+1) 0 (rs.length+1)).ren (KN [a,OS.length] (OS++ [Ob.rows false 9 1 [r]]).length 2)= .ref a (rs.length+1) 0 (rs.length+1):=by simp[D.ren,KN]
 have e2:KU [a,OS.length] (OS++ [Ob.rows false 9 1 [r]]) [.rows false 9 1 (YY rs k [r]),.rows false 9 1 [r]]=(OS++ [Ob.rows false 9 1 [r]]).set a (.rows false 9 1 (YY rs k [r])):=by
  simp only[KU,YO,ZAa,Ob.ren,KR,Yx,Qw,ZEH,ZCG,Kg];rw[ZMc _ _ hal];rw[ZDm _ _ J1];simp
 rw[<-e1,<-e2];exact h
set_option maxHeartbeats 4000000 in
theorem ZjB(L:List (Tx×Ze))(M:List (Tx×Zi))(m:EM)(Bt:List TB)(Y:J7)(dn:Tx)(l:List ZN)(h:Js l)(hk:ZEG M l)(hB:okB Y Bt)(hY:Y.all Ob.nof=true)(hr: ∀x∈Bt,SoL x.2.2/\x.2.2.length<=999999)(hm:m.length<=1000000):
  ZF Tryz.prog 12 [.ptr 0 0,.agg [.x (.str dn),.x (.sl (rows ZK l))]] (Jr (JS L) (JN M) (.mpo .str true (Jt m):: .mpo .str false (Bt.map YV)::Y)) (ZJN (.x (.int .i64 (Qx L M m dn l))) (Kl (Qx L M m dn l) m dn l) (ZA5 (Qx L M m dn l) (Bt.map YM) dn) (JS L) (JN M)):=by
 have hul:ZM ZK (rows ZK l)=some l:=ZS Zf l;have hdm:=ZI (show l.length<=100/\(∀a∈l,a.1.length<=1000000)/\ ∀a∈l,a.2.1.length<=400 from h);have hst:=ZZ0 m dn (dn,Zm l,());have hg:=ZIP m dn;have hg2:=ZIP m (YC dn);have hg3:=ZNu Bt (YC dn);have hln:=ZZ6 m;obtain⟨v,hv⟩: ∃v,Qx L M m dn l=v:=⟨_,rfl⟩;rw[hv];unfold Qx at hv;refine fC 12 true ?_;intro C0 E0;have uu:=ξ9 @ZHd @ZHh @ZHj @ZHe @ZIn.eq_1 @ZCg.eq_1 @ZUQ.eq_1 @sn0 (ξ8 @sn1 @sn2 @st0 @st1 hul hdm hst hln);have tT:=aQ (aQ (aQ ZB ZJZ) (ZBe ZBO)) (ZBe ZPm);refine WI.seq ?_;refine WI.regB tT [0,3] ?_;refine oG ?_;refine UH ?_;refine WI.regB tT [0,3,23] ?_;refine WU ?_;refine oS ?_
 iterate 6 refine oG ?_
 refine V0 ?_;refine WI.cond (b:=_) rfl rfl (λh0=> ?_) (λh0=> ?_)
 .exfalso;simp at h0
 .try simp only[zB]at h0
  refine Vt ?_;refine WI.regB tT [0,3,5,6] ?_;refine WU ?_;refine GD ?_;refine UH ?_;refine WI.regB tT [0,3,5,31] ?_;refine X3 ?_;refine WI.cond (b:=_) rfl rfl (λh1=> ?_) (λh1=> ?_)
  .try simp only[zB]at h1
   have e1:JH dn=false:=WC
   rw[if_pos e1]at hv;subst hv;refine VE ?_
   first|refine lfR ?_|refine ZAs ?_|refine ZAY ?_|refine ZAi ?_
   exact ZHM WT m Bt _ _ Y dn l hB hY [_] rfl
  .try simp only[zB]at h1
   have e1: ¬JH dn=false:=WC
   rw[if_neg e1]at hv;refine Vt ?_;refine WI.seq ?_;rcases hl:ZH m dn with _|⟨dn',l',u⟩
   .rw[hl,Qd]at hg;rw[hl,if_neg J1]at hv;have uu:=YB uu hg;refine WI.dregB tT [0,3,5,8] ?_
    refine TA ?_;refine Wz ?_;refine WI.regB tT [0,3,5,42] ?_;refine Wl ?_;refine WI.cond (b:=_) rfl rfl (λh2=> ?_) (λh2=> ?_)
    .exfalso;simp at h2
    .try simp only[zB]at h2
     refine Vt ?_;refine WI.join (λφ os=> ∃b3:Ob,φ= [(0,.ptr 0 0),(3,.ptr (Y.length+1+1+1+1+1+1) 0),(5,.x (.str (YC dn))),(10,.x (.bool (ZH m (YC dn)).isSome))]/\os=Jr (JS L) (JN M) (.mpo .str true (Jt m):: .mpo .str false (Bt.map YV)::(Y++ [.box [.x (.str dn),.x (.sl (rows ZK l))]]++ [.box [.x (.str []),.x .nils]]++ [b3]))/\b3.nof=true) ?_ (λφ os hJ=> ?_)
     .rcases hl2:ZH m (YC dn)with _|⟨dn2,l2,u2⟩
      .rw[hl2,Qd]at hg2;have uu:=YB uu hg2;refine WI.regB tT [0,3,5,10] ?_
       exact Gu
      .rw[hl2,Yq]at hg2;have uu:=YB uu hg2;refine WI.regB tT [0,3,5,10] ?_
       exact Gu
     .obtain⟨b3,rfl,rfl,hb3⟩:=hJ;refine WI.seq ?_;refine WI.regB tT [0,3,5,57] ?_;refine WU ?_;refine oS ?_
      refine W4 ?_;refine oG ?_;refine V0 ?_;refine WI.cond (b:=_) rfl rfl (λh3=> ?_) (λh3=> ?_)
      .try simp only[zB]at h3
       have e3:(ZH m (YC dn)).isSome=false/\YC dn≠ []:=Tb
       rw[if_pos e3]at hv;subst hv;refine VE ?_
       first|refine lfR ?_|refine ZAs ?_|refine ZAY ?_|refine ZAi ?_
       rw[as3];exact ZHM WT m Bt _ _ Y dn l hB hY _ (by simp only[Qa,hb3,QX];rfl)
      .try simp only[zB]at h3
       have e3: ¬((ZH m (YC dn)).isSome=false/\YC dn≠ []):=by rintro⟨e4,e5⟩;rw[e4]at h3;simp[e5]at h3
       rw[if_neg e3]at hv;obtain⟨V,hV⟩: ∃V,V=Y++ [.box [.x (.str dn),.x (.sl (rows ZK l))]]++ [.box [.x (.str []),.x .nils]]++ [b3]:=⟨_,rfl⟩;have hVe:V[Y.length]? =some (.box [.x (.str dn),.x (.sl (rows ZK l))]):=by rw[hV];exact sn2 Y _ _ _
       have uu:=YB uu hVe;rw[<-hV];refine Vt ?_;refine WI.seq ?_;refine WI.cutA tT [0,3,5,58,59] 2 ?_;simp only[Qm,ZB0,ZEH,ZCG];refine WU ?_;refine oP ?_;refine ZHw ?_;refine WR.callF ((QT 40)) (ZWD L M (.mpo .str true (Jt m):: .mpo .str false (Bt.map YV)::V) dn l h hk) ?_;rintro _ _ ⟨rfl,Z,rfl,hZ⟩;obtain⟨W,hW⟩: ∃W,W=V++Z:=⟨_,rfl⟩;have hWe:W[Y.length]? =some (.box [.x (.str dn),.x (.sl (rows ZK l))]):=by rw[hW,Yk (ZX hVe).1];exact hVe
       have hWY: ∃U,W=Y++U/\U.all Ob.nof=true:=⟨_,by rw[hW,hV,as4],by simp only[Qa,hZ,hb3,QX];rfl⟩;dsimp only[List.cons_append];rw[<-hW];clear hW hV;obtain⟨U,hWU,hU⟩:=hWY;have uu:=YB uu hWe;refine WR.regB tT [0,3,5,11] ?_;refine WQ ?_;refine WI.regB tT [0,3,5,11,62] ?_;refine X3 ?_;refine WI.cond (b:=_) rfl rfl (λh4=> ?_) (λh4=> ?_)
       .try simp only[zB]at h4
        have e4:ZBs L M dn l≠0:=Ta
        rw[if_pos e4]at hv;subst hv;refine WI.seq ?_;refine WI.regB tT [4] ?_
        refine GB ?_;refine JK ?_
        first|refine lfR ?_|refine ZAs ?_|refine ZAY ?_|refine ZAi ?_
        rw[hWU];exact ZHM e4 m Bt _ _ Y dn l hB hY _ hU
       .try simp only[zB]at h4
        have e4: ¬ZBs L M dn l≠0:=Ta
        rw[if_neg e4]at hv;refine Vt ?_;refine WI.seq ?_;refine WI.regB tT [0,3,5,69] ?_
        refine Wu ?_;refine Us ?_;refine oG ?_;refine V0 ?_;refine WI.cond (b:=_) rfl rfl (λh5=> ?_) (λh5=> ?_)
        .try simp only[zB]at h5
         have e5:1024<=m.length:=Wm
         rw[if_pos e5]at hv;subst hv;refine VE ?_
         first|refine lfR ?_|refine ZAs ?_|refine ZAY ?_|refine ZAi ?_
         rw[hWU];exact ZHM WT m Bt _ _ Y dn l hB hY _ hU
        .try simp only[zB]at h5
         have e5: ¬1024<=m.length:=Wm
         rw[if_neg e5]at hv;subst hv;refine Vt ?_;refine WI.dregB tT [0,3,5] ?_
         refine Wn ?_;refine WJ ?_;refine Zd ?_;refine dQC ?_;refine Qj ?_;refine dN ?_;refine Wz ?_;rcases hb:ZH Bt (YC dn)with _|⟨i,row⟩
         .rw[hb,Qd]at hg3;have hb2:JQ [] dn=0:=rfl;have hsd:decide (SoL []/\([]:List Tx).length<=1000000)=true:=ZI ⟨List.Pairwise.nil,WT⟩;have huw:ZM ZC []=some []:=rfl;have uu:=ξ5 uu hg3 hb2 hsd huw;refine WI.regB tT [0,3,5,12] ?_
          refine Wu ?_;refine WU ?_;refine WU ?_;refine WQ ?_;refine WI.regB tT [0,3,5,12,13] ?_;refine Wu ?_;refine oG ?_;refine GD ?_;refine WQ ?_;obtain⟨OT,hOT⟩: ∃OT,OT= .box [.mref 2,.mref 3]:: .mpo .str true (JS L):: .mpo .str true (JN M):: .mpo .str true (Jt (Zy m dn (dn,Zm l,()))):: .mpo .str false (Bt.map YV)::W:=⟨_,rfl⟩;have hOS:Ob.box [.ptr 1 0,.mref 4,.mref 5]::OT=Jr (JS L) (JN M) (.mpo .str true (Jt (Zy m dn (dn,Zm l,()))):: .mpo .str false (Bt.map YV)::(Y++U)):=by rw[hOT,hWU]
          have hOe:OT[Y.length+1+1+1+1+1]? =some (.box [.x (.str dn),.x (.sl (rows ZK l))]):=by rw[hOT];exact hWe
          have hO5: ∀V:J7,(OT++V)[4]? =some (.mpo .str false (Bt.map YV)):=λV=>by rw[hOT];rfl
          have hb4: ∀(id:Nat) (ds:J8),OT[id]? =some (.box ds)->id≠4:=λid ds h e=>by subst e;rw[hOT]at h;cases h
          have hlt: ∀(id:Nat) (ds:J8),OT[id]? =some (.box ds)->id<OT.length:=λid ds h=>(ZX h).1
          have hbx: ∀V:J7,Jd [] 1 OT (OT++V)=true:=λV=>ZAP _ _ _ (λid ds h=>by rw[Yk (hlt id ds h)];exact h) J1
          have hbx0:Jd [] 1 OT OT=true:=ZAP _ _ _ (λid ds h=>h) (Zr _);have hbx5: ∀(V:J7) (q:W2),Jd [] 1 OT ((OT++V).set 4 (.mpo .str false q))=true:=λV q=>ZAP _ _ _ (λid ds h=>by rw[ZAp (hb4 id ds h).symm,Yk (hlt id ds h)];exact h) J1
          have hin:=ZgN (.box [.ptr 1 0,.mref 4,.mref 5]::OT) [.str dn];simp only[ξZ,Yx,Ys,QY]at hin;rw[<-hOT];have hap: ∀V W:J7,OT++V++W=OT++(V++W):=λV W=>Ys _ _ _
          have uu:=ξ7 uu hOe hO5 hbx hbx0 hap hbx5;refine WI.dregY (ZDC ZB ZN7 hin) [] [] ?_
          refine NW ?_;refine xAG ?_;refine T7 ?_
          first|refine lfR ?_|refine ZAs ?_|refine ZAY ?_|refine ZAi ?_
          have hf:=Zad m Bt (JS L) (JN M) Y U dn l hB hY hU hb _ hOS (.rows false 9 1 [[.str dn]]) rfl;rw[Ys]at hf;exact hf
         .rw[hb,Yq]at hg3;obtain⟨hYi,_⟩:=hB.2.2 _ (JD hb);obtain⟨hso,hrl⟩:=hr _ (JD hb);simp only at hYi hso hrl;have hWi:W[i]? =some (.rows false 9 1 (rows ZC row)):=by rw[hWU,Yk (ZX hYi).1];exact hYi
          have hsd:decide (SoL row/\row.length<=1000000)=true:=ZI ⟨hso,J0⟩;have huw:ZM ZC (rows ZC row)=some row:=ZS ZP row;have hrn:=ZQ ZC row;have htl:(rows ZC row).take row.length=rows ZC row:=by rw[<-hrn,JX]
          have uu:=ξ7 uu hg3 hWi hsd huw hrn htl;refine WI.regB tT [0,3,5,12] ?_
          refine Wu ?_;refine WU ?_;refine WU ?_;refine WQ ?_;refine WI.regB tT [0,3,5,12,13] ?_;refine Wu ?_;refine oG ?_;refine GD ?_;refine WQ ?_;obtain⟨OT,hOT⟩: ∃OT,OT= .box [.mref 2,.mref 3]:: .mpo .str true (JS L):: .mpo .str true (JN M):: .mpo .str true (Jt (Zy m dn (dn,Zm l,()))):: .mpo .str false (Bt.map YV)::W:=⟨_,rfl⟩;have hOS:Ob.box [.ptr 1 0,.mref 4,.mref 5]::OT=Jr (JS L) (JN M) (.mpo .str true (Jt (Zy m dn (dn,Zm l,()))):: .mpo .str false (Bt.map YV)::(Y++U)):=by rw[hOT,hWU]
          have hOe:OT[Y.length+1+1+1+1+1]? =some (.box [.x (.str dn),.x (.sl (rows ZK l))]):=by rw[hOT];exact hWe
          have hO5: ∀V:J7,(OT++V)[4]? =some (.mpo .str false (Bt.map YV)):=λV=>by rw[hOT];rfl
          have hb4: ∀(id:Nat) (ds:J8),OT[id]? =some (.box ds)->id≠4:=λid ds h e=>by subst e;rw[hOT]at h;cases h
          have hlt: ∀(id:Nat) (ds:J8),OT[id]? =some (.box ds)->id<OT.length:=λid ds h=>(ZX h).1
          have hbx: ∀V:J7,Jd [] 1 OT (OT++V)=true:=λV=>ZAP _ _ _ (λid ds h=>by rw[Yk (hlt id ds h)];exact h) J1
          have hbx0:Jd [] 1 OT OT=true:=ZAP _ _ _ (λid ds h=>h) (Zr _);have hOi:OT[i+5]? =some (.rows false 9 1 (rows ZC row)):=by rw[hOT];exact hWi
          have hOi2: ∀V:J7,(OT++V)[i+5]? =some (.rows false 9 1 (rows ZC row)):=λV=>by rw[Yk (ZX hOi).1];exact hOi
          have uu:=YB uu hOi2;have hbi: ∀(id:Nat) (ds:J8),OT[id]? =some (.box ds)->i+5≠id:=λid ds h e=>by subst e;rw[hOi]at h;cases h
          have hbx5:(∀(V:J7) (R:Ob),Jd [] 1 OT ((OT++V).set (i+5) R)=true)/\(∀(V:J7) (R:Ob) (q:W2),Jd [] 1 OT (((OT++V).set (i+5) R).set 4 (.mpo .str false q))=true)/\ ∀(V:J7) (R:Ob),((OT++V).set (i+5) R)[4]? =some (.mpo .str false (Bt.map YV)):=
           ⟨λV R=>ZAP _ _ _ (λid ds h=>by rw[ZAp (hbi id ds h),Yk (hlt id ds h)];exact h) J1,λV R q=>ZAP _ _ _ (λid ds h=>by rw[ZAp (hb4 id ds h).symm,ZAp (hbi id ds h),Yk (hlt id ds h)];exact h) J1,λV R=>by rw[ZAp J0];exact hO5 V⟩
          have hin:=ZfI (.box [.ptr 1 0,.mref 4,.mref 5]::OT) (i+6) (rows ZC row) [.str dn] (JQ row dn) hOi (by rw[hrn];exact ZI5 row dn) (by rw[hrn];omega);rw[hrn]at hin;simp only[ξZ,Yx,ZCM]at hin;rw[<-hOT];have hap: ∀V W:J7,OT++V++W=OT++(V++W):=λV W=>Ys _ _ _
          have uu:=ξ7 uu hOe hO5 hbx hbx0 hap hbx5;refine WI.dregY (ZDC ZB ZN7 hin) [] [] ?_
          refine NW ?_;refine xAG ?_;refine T7 ?_
          first|refine lfR ?_|refine ZAs ?_|refine ZAY ?_|refine ZAi ?_
          have hf:=ZaO m Bt (JS L) (JN M) Y U dn l hB hY hU i row hb hrl _ hOS (.rows false 9 1 [[.str dn]]) rfl;rw[ZYr];exact hf
   .rw[hl,Yq]at hg;rw[hl,if_pos J1]at hv;subst hv;have uu:=YB uu hg;refine WI.dregB tT [0,3,5,8] ?_
    refine TA ?_;refine Wz ?_;refine WI.regB tT [0,3,5,42] ?_;refine Wl ?_;refine WI.cond (b:=_) rfl rfl (λh2=> ?_) (λh2=> ?_)
    .try simp only[zB]at h2
     refine VE ?_
     first|refine lfR ?_|refine ZAs ?_|refine ZAY ?_|refine ZAi ?_
     rw[as2];exact ZHM WT m Bt _ _ Y dn l hB hY [_,_] rfl
    .exfalso;simp at h2
def Qc(m:EM)(B:List (Tx×List Tx))(n:Tx):Int:=if(ZH m n).isSome=false then 32 else if YJ B n≠ []then 66 else 0
def ZC4(c:Int)(m:EM)(n:Tx):EM:=if c=0 then Zk m n else m
def ZBM(c:Int)(B:List (Tx×List Tx))(n:Tx):List (Tx×List Tx):=if c=0 then Zy (Zk B n) (YC n) (KM (YJ (Zk B n) (YC n)) n)else B
theorem ZU2(B:List TB)(s:Tx):(Zk B s).map YM=Zk (B.map YM) s:=by
 induction B with
 |nil=>rfl
 |cons p B ih=>
  by_cases h:s=p.1
  .have e1:Zk (p::B) s=B:=XZ
   have e2:Zk (YM p::B.map YM) s=B.map YM:=by simp[Zk,YM,h]
   rw[e1,YO,e2]
  .have e1:Zk (p::B) s=p::Zk B s:=XZ
   have e2:Zk (YM p::B.map YM) s=YM p::Zk (B.map YM) s:=by simp[Zk,YM,h]
   rw[e1,YO,YO,e2,ih]
theorem ZAb{κ β:Type}[DecidableEq κ]: ∀(A:List (κ×β)) (c:κ),(Zk A c).Sublist A
 | [],c=>by simp[Zk]
 |p::A,c=>by
  by_cases h:c=p.1
  .have e:Zk (p::A) c=A:=XZ
   rw[e];exact List.sublist_cons_self _ _
  .have e:Zk (p::A) c=p::Zk A c:=XZ
   rw[e];exact(ZAb A c).cons_cons p
theorem ZN2{κ β:Type}[DecidableEq κ]: ∀(A:List (κ×β)) (c d:κ),d≠c->ZH (Zk A c) d=ZH A d
 | [],c,d,_=>by simp[Zk]
 |p::A,c,d,hne=>by
  by_cases h:c=p.1
  .have e:Zk (p::A) c=A:=XZ
   have: ¬d=p.1:=λe=>hne (e.trans h.symm)
   rw[e];simp[ZH,this]
  .have e:Zk (p::A) c=p::Zk A c:=XZ
   have ih:=ZN2 A c d hne;rw[e];by_cases h2:d=p.1
   .simp[ZH,h2]
   .have e1:ZH (p::Zk A c) d=ZH (Zk A c) d:=by simp[ZH,h2]
    have e2:ZH (p::A) d=ZH A d:=by simp[ZH,h2]
    rw[e1,e2,ih]
theorem ZUu{Y:J7}{B:List TB}(h:okB Y B)(s:Tx):okB Y (Zk B s):=
 ⟨((ZAb B s).map _).nodup h.1,((ZAb B s).map _).nodup h.2.1,λx hx=>h.2.2 x ((ZAb B s).subset hx)⟩
theorem ZcK{Y:J7}{B:List TB}(h:okB Y B)(s:Tx)(i:Nat)(l0 l:List Tx)(hs:ZH B s=some (i,l0))(hl:l.length<=1000000)(o:Ob)(U:J7):okB (Y.set i o++U++ [Ob.rows false 9 1 (rows ZC l)]) (Zy B s ((Y++U).length,l)):=by
 have hp:=ZK6 hs;have hq:=ZBV B s ((Y++U).length,l);have n1:((s,(i,l0))::Zk B s).map (·.1)=((s,((Y++U).length,l))::Zk B s).map (·.1):=rfl;have m1:=(hp.map (·.1)).nodup_iff.1 h.1;have m2:=(hp.map (·.2.1)).nodup_iff.1 h.2.1;rw[YO,ZBE]at m2;have hlt: ∀x∈Zk B s,x.2.1<Y.length:=λx hx=>(ZX (h.2.2 x (hp.mem_iff.2 (ξU _ hx))).1).1
 refine⟨(hq.map (·.1)).nodup_iff.2 (n1▸m1),(hq.map (·.2.1)).nodup_iff.2 ?_,λx hx=> ?_⟩
 .rw[YO,ZBE];refine⟨λhc=> ?_,m2.2⟩;obtain⟨x,hx,e⟩:=YS.1 hc;have:=hlt x hx;simp only[ZW]at e;omega
 .rcases Jf.1 (hq.mem_iff.1 hx)with rfl|hx
  .refine⟨?_,hl⟩;show(Y.set i o++U++ [Ob.rows false 9 1 (rows ZC l)])[(Y++U).length]? =_;rw[show(Y++U).length=(Y.set i o++U).length by simp];exact sn0 _ _
  .have hx2:=h.2.2 x (hp.mem_iff.2 (ξU _ hx));have hxl:=hlt x hx;refine⟨?_,hx2.2⟩;have hne:i≠x.2.1:=λe=>m2.1 (YS.2 ⟨x,hx,e.symm⟩)
   rw[Ys,Yk (by simpa using hxl),ZAp hne];exact hx2.1
theorem ZTo{v:Int}(hv:v≠0)(m:EM)(Bt:List TB)(P1 P2:W2)(Y:J7)(n:Tx)(hB:okB Y Bt)(hY:Y.all Ob.nof=true)(X:J7)(hX:X.all Ob.nof=true):
  ZJN (.x (.int .i64 v)) (ZC4 v m n) (ZBM v (Bt.map YM) n) P1 P2 (.x (.int .i64 v)) (Jr P1 P2 (.mpo .str true (Jt m):: .mpo .str false (Bt.map YV)::(Y++X))):=by
 unfold ZC4 ZBM;exact N3
theorem ZdJ(m:EM)(Bt:List TB)(P1 P2:W2)(Y U:J7)(n:Tx)(hB:okB Y Bt)(hY:Y.all Ob.nof=true)(hU:U.all Ob.nof=true)(i:Nat)(row:List Tx)(hs:ZH (Zk Bt n) (YC n)=some (i,row))(hl:row.length<=1000000)(OS:J7)(hOS:OS=Jr P1 P2 (.mpo .str true (Jt (Zk m n)):: .mpo .str false ((Zk Bt n).map YV)::(Y++U))):
  ZJN (.x (.int .i64 0)) (ZC4 0 m n) (ZBM 0 (Bt.map YM) n) P1 P2 (.x (.int .i64 0)) ((OS.set (i+6) (.old 1 (row.length+1))++ [Ob.rows false 9 1 (rows ZC (KM row n))]).set 5 (.mpo .str false (Yp ((Zk Bt n).map YV) [.str (YC n)] [.ref OS.length (KM row n).length 0 (KM row n).length]))):=by
 have hol:OS.length=(Y++U).length+6:=by rw[hOS];simp[Jr]
 have hi:=(ZX ((ZUu hB n).2.2 _ (JD hs)).1).1;simp only at hi;have hdl:(KM row n).length<=row.length:=ZSj _ _;refine⟨rfl,Zy (Zk Bt n) (YC n) ((Y++U).length,KM row n),Y.set i (.old 1 (row.length+1))++U++ [Ob.rows false 9 1 (rows ZC (KM row n))],?_,ZcK (ZUu hB n) _ _ row _ hs J0 _ _,?_,?_⟩
 .rw[ZOp,ZU2,ZBM,if_pos rfl];have:YJ (Zk (Bt.map YM) n) (YC n)=row:=by unfold YJ;rw[<-ZU2,ZFH,hs];rfl
  rw[this]
 .simp only[ZJh,Qa,ZEM,hU,QX];rw[Zj,Yg]at*;refine⟨λx hx=> ?_,rfl⟩;rcases ZXl hx with h|h
  .exact hY x h
  .rw[h];rfl
 .rw[hol,ZTd,hOS,ZC4,if_pos rfl];simp only[Jr,ξZ,ZCM,ZDp];rw[ZMc _ _ J0]
theorem ZUh:Go.Ab.Enters Tryz.prog 55:=QT 55
theorem ZfB(OS:J7)(a b:Nat)(l:List Tx)(s:Tx)(ha:OS[a]? =some (.rows false 9 1 (rows ZC l)))(hb:OS[b]? =some (.box [.x (.str s)]))(hl:l.length<=1000000)(h0:l≠ []):ZO Tryz.prog 55 [.ref a l.length 0 l.length,.fn 56 [.ptr b 0]] OS (.ref OS.length (KM l s).length 0 (KM l s).length) (OS.set a (.old 1 (l.length+1))++ [Ob.rows false 9 1 (rows ZC (KM l s))]):=by
 have hal:=(ZX ha).1;have hbl:=(ZX hb).1;have hne:a≠b:=λe=>by subst e;rw[ha]at hb;cases hb
 have hga:OS.getD a .dead= .rows false 9 1 (rows ZC l):=by rw[ZCB,ha];rfl
 have hgb:OS.getD b .dead= .box [.x (.str s)]:=by rw[ZCB,hb];rfl
 have hnb:Nat.beq a b=false:=by
  cases hq:Nat.beq a b with
  |false=>rfl
  |true=>exact absurd (ZNH hq) hne
 have hO:YX [a,b] OS= [.rows false 9 1 (rows ZC l),.box [.x (.str s)]]:=by simp only[YX,YO,ZAa,hga,hgb];rfl
 have hne2:b≠a:=Ne.symm hne;have hr:YA (inv [a,b]) [D.ref a l.length 0 l.length,.fn 56 [.ptr b 0]]= [.ref 0 l.length 0 l.length,.fn 56 [.ptr 1 0]]:=by simp[YA,D.ren,inv,hne2]
 have hfp:QC [a,b] [.ref a l.length 0 l.length,.fn 56 [.ptr b 0]] OS=true:=by
  unfold QC;simp only[Qa,ZEM,hga,hgb,Ob.inP,JB,D.inP,Zh,QH,hnb,ZEa,QX,ZEs,ZGK,ZD5,ZM9,Zj,Yl];exact⟨hal,hbl⟩
 have h:=ZO.atR (P:=Tryz.prog) (f:=55) (ρ:= [a,b]) (args:= [.ref a l.length 0 l.length,.fn 56 [.ptr b 0]]) (OS:=OS) (r:= .ref 2 (KM l s).length 0 (KM l s).length) (os':= [.old 1 (l.length+1),.box [.x (.str s)],.rows false 9 1 (rows ZC (KM l s))]) hfp (by rw[hO,hr];exact Zat l s hl h0) J1;have e1:(D.ref 2 (KM l s).length 0 (KM l s).length).ren (KN [a,b] OS.length 3)= .ref OS.length (KM l s).length 0 (KM l s).length:=by simp[D.ren,KN]
 have e2:KU [a,b] OS [.old 1 (l.length+1),.box [.x (.str s)],.rows false 9 1 (rows ZC (KM l s))]=OS.set a (.old 1 (l.length+1))++ [Ob.rows false 9 1 (rows ZC (KM l s))]:=by
  simp only[KU,YO,ZAa,Ob.ren,YA,D.ren,KR,Yx,Qw,ZEH,ZCG];congr 1;apply ZBg;intro j;rw[ZCr];split
  .rename_i e;subst e;rw[ZAp hne,hb];simp[hbl]
  .rfl
 rw[<-e1,<-e2];exact h
set_option maxHeartbeats 4000000 in
theorem ZjF(P1 P2:W2)(m:EM)(Bt:List TB)(Y:J7)(n:Tx)(hB:okB Y Bt)(hY:Y.all Ob.nof=true)(hq:(ZH m n).isSome=true->YJ (Bt.map YM) n= []->n∈YJ (Bt.map YM) (YC n)/\YC n≠n):
  ZF Tryz.prog 25 [.ptr 0 0,.x (.str n)] (Jr P1 P2 (.mpo .str true (Jt m):: .mpo .str false (Bt.map YV)::Y)) (ZJN (.x (.int .i64 (Qc m (Bt.map YM) n))) (ZC4 (Qc m (Bt.map YM) n) m n) (ZBM (Qc m (Bt.map YM) n) (Bt.map YM) n) P1 P2):=by
 have hg:=ZIP m n;have hgb:=ZNu Bt n;have hd1:=Zg9 m n;have hd2:=Zij Bt n;obtain⟨v,hv⟩: ∃v,Qc m (Bt.map YM) n=v:=⟨_,rfl⟩;rw[hv];unfold Qc at hv;have hro:YJ (Bt.map YM) n=((ZH Bt n).map (·.2)).getD []:=by unfold YJ;rw[ZFH]
 refine fC 25 true ?_;intro C0 E0;have uu:=ξ9 @ZHd @ZHh @ZHj @ZHe @ZIn.eq_1 @sn0 @sn1 @sn2 (ξ6 @st0 @st1 hd1 hd2 @ZUQ.eq_1 @ZCg.eq_1);have tT:=aQ (aQ (aQ ZB ZJZ) (ZBe ZBO)) (ZBe ZPm);refine WI.seq ?_;refine WI.regB tT [0,3] ?_;refine oG ?_;refine UH ?_;refine WI.regB tT [0,3,10] ?_;refine X3 ?_;refine WI.cond (b:=_) rfl rfl (λh0=> ?_) (λh0=> ?_)
 .exfalso;simp at h0
 .try simp only[zB]at h0
  refine Vt ?_;refine WI.seq ?_;rcases hl:ZH m n with _|⟨dn',l',u⟩
  .rw[hl,Qd]at hg;rw[hl,if_pos J1]at hv;subst hv;have uu:=YB uu hg;refine WI.dregB tT [0,3,6] ?_
   refine UO ?_;refine VJ ?_;refine ZU ?_;refine Ws ?_;refine Wz ?_;refine WI.regB tT [0,3,21] ?_;refine X3 ?_;refine WI.cond (b:=_) rfl rfl (λh1=> ?_) (λh1=> ?_)
   .try simp only[zB]at h1
    refine VE ?_
    first|refine lfR ?_|refine ZAs ?_|refine ZAY ?_|refine ZAi ?_
    rw[as2];exact ZTo WT m Bt P1 P2 Y n hB hY [_,_] rfl
   .exfalso;simp at h1
  .rw[hl,Yq]at hg;rw[hl,if_neg J1]at hv;rw[hl]at hq;have uu:=YB uu hg;refine WI.dregB tT [0,3,6] ?_
   refine UO ?_;refine VJ ?_;refine ZU ?_;refine Ws ?_;refine Wz ?_;refine WI.regB tT [0,3,21] ?_;refine X3 ?_;refine WI.cond (b:=_) rfl rfl (λh1=> ?_) (λh1=> ?_)
   .exfalso;simp at h1
   .try simp only[zB]at h1
    refine Tv ?_;refine WI.join (λφ os=> ∃d:D,φ= [(0,.ptr 0 0),(3,.ptr (Y.length+1+1+1+1+1+1) 0),(29,d)]/\os=Jr P1 P2 (.mpo .str true (Jt m):: .mpo .str false (Bt.map YV)::(Y++ [.box [.x (.str n)]]++ [.box [.x (.str dn'),.x (.sl (rows ZK l'))]]))/\v=0/\YJ (Bt.map YM) n= []) ?_ (λφ os hJ=> ?_)
    .refine WI.seq ?_;rcases hb:ZH Bt n with _|⟨i0,row0⟩
     .rw[hb,Qd]at hgb;rw[hb]at hro;have hro0:YJ (Bt.map YM) n= []:=hro;rw[if_neg (by rw[hro0];simp)]at hv;have uu:=YB uu hgb;refine WI.dregB tT [0,3,29] ?_
      refine UO ?_;refine Zd ?_;refine Qj ?_;refine Qj ?_;refine Zn ?_;refine dN ?_;refine ZA ?_;refine WI.cond (b:=_) rfl rfl (λh2=> ?_) (λh2=> ?_)
      .exfalso;simp at h2
      .try simp only[zB]at h2
       refine Tv ?_;exact⟨_,rfl,rfl,hv.symm,hro0⟩
     .rw[hb,Yq]at hgb;rw[hb]at hro;have hro1:YJ (Bt.map YM) n=row0:=hro;obtain⟨hYi,hri⟩:=hB.2.2 _ (JD hb);have hYi2: ∀a b:Ob,(Y++ [a]++ [b])[i0]? =some (.rows false 9 1 (rows ZC row0)):=λa b=>by rw[Ys,Yk (ZX hYi).1];exact hYi
      have uu:=Qu uu hgb (ZQ ZC row0) hYi2;refine WI.dregB tT [0,3,29] ?_
      refine UO ?_;refine Zd ?_;refine Qj ?_;refine Qj ?_;refine Zn ?_;refine dN ?_;refine ZA ?_;refine WI.cond (b:=_) rfl rfl (λh2=> ?_) (λh2=> ?_)
      .try simp only[zB]at h2
       have e2:row0≠ []:=λe=>by subst e;simp at h2
       rw[if_pos (by rw[hro1];exact e2)]at hv;subst hv;refine VE ?_
       first|refine lfR ?_|refine ZAs ?_|refine ZAY ?_|refine ZAi ?_
       rw[as2];exact ZTo WT m Bt P1 P2 Y n hB hY [_,_] rfl
      .try simp only[zB]at h2
       have e2:row0= []:=ξS J0;have hro0:YJ (Bt.map YM) n= []:=by rw[hro1];exact e2
       rw[if_neg (by rw[hro0];simp)]at hv;refine Tv ?_;exact⟨_,rfl,rfl,hv.symm,hro0⟩
    .obtain⟨d,rfl,rfl,rfl,hro0⟩:=hJ;refine WI.seq ?_;refine WI.regB tT [0,3,7] ?_;refine oG ?_;refine oC ?_;refine oS ?_
     refine W4 ?_;refine oS ?_;refine WQ ?_;refine WI.dregB tT [0,3,7] ?_;refine UO ?_;refine Zd ?_;refine Qj ?_;refine dN ?_;refine Wz ?_;refine WI.dregB tT [0,3,7] ?_;refine UO ?_;refine Zd ?_;refine Qj ?_;refine dN ?_;refine Wz ?_;obtain⟨hin0,hpn⟩:=hq J1 hro0;have hld:=ZN2 Bt n (YC n) hpn;rcases hs:ZH Bt (YC n)with _|⟨i,row⟩
     .unfold YJ at hin0;rw[ZFH,hs]at hin0;cases hin0
     have hinr:n∈row:=by unfold YJ at hin0;rw[ZFH,hs]at hin0;exact hin0
     rw[hs]at hld;have hrne:row≠ []:=λe=>by subst e;cases hinr
     obtain⟨hYr,hrl⟩:=hB.2.2 _ (JD hs);simp only at hYr hrl;have hg3:=ZNu (Zk Bt n) (YC n);rw[hld,Yq]at hg3;obtain⟨OT,hOT⟩: ∃OT,OT= .box [.mref 2,.mref 3]:: .mpo .str true P1:: .mpo .str true P2:: .mpo .str true (Jt (Zk m n)):: .mpo .str false ((Zk Bt n).map YV)::(Y++ [.box [.x (.str n)]]++ [.box [.x (.str dn'),.x (.sl (rows ZK l'))]]):=⟨_,rfl⟩;have hOS:Ob.box [.ptr 1 0,.mref 4,.mref 5]::OT=Jr P1 P2 (.mpo .str true (Jt (Zk m n)):: .mpo .str false ((Zk Bt n).map YV)::(Y++ [.box [.x (.str n)],.box [.x (.str dn'),.x (.sl (rows ZK l'))]])):=by rw[hOT,as2]
     have hOb:OT[Y.length+1+1+1+1+1]? =some (.box [.x (.str n)]):=by rw[hOT];exact sn1 Y _ _
     have hOr:OT[i+5]? =some (.rows false 9 1 (rows ZC row)):=by
      rw[hOT];show(Y++_++_)[i]? =_;rw[Ys,Yk (ZX hYr).1];exact hYr
     have hO4:OT[4]? =some (.mpo .str false ((Zk Bt n).map YV)):=by rw[hOT];rfl
     have hb4: ∀(id:Nat) (ds:J8),OT[id]? =some (.box ds)->4≠id:=λid ds h e=>by subst e;rw[hO4]at h;cases h
     have hbi: ∀(id:Nat) (ds:J8),OT[id]? =some (.box ds)->i+5≠id:=λid ds h e=>by subst e;rw[hOr]at h;cases h
     have hlt: ∀(id:Nat) (ds:J8),OT[id]? =some (.box ds)->id<OT.length:=λid ds h=>(ZX h).1
     have hbx0:Jd [] 1 OT OT=true:=ZAP _ _ _ (λid ds h=>h) (Zr _);have hbx1: ∀(o:Ob) (V:J7),Jd [] 1 OT (OT.set (i+5) o++V)=true:=λo V=>ZAP _ _ _ (λid ds h=>by rw[Yk (by simpa using hlt id ds h),ZAp (hbi id ds h)];exact h) J1
     have hbx2: ∀(o:Ob) (V:J7) (q:W2),Jd [] 1 OT ((OT.set (i+5) o++V).set 4 (.mpo .str false q))=true:=λo V q=>ZAP _ _ _ (λid ds h=>by rw[ZAp (hb4 id ds h),Yk (by simpa using hlt id ds h),ZAp (hbi id ds h)];exact h) J1
     have hO4s: ∀(o:Ob) (V:J7),(OT.set (i+5) o++V)[4]? =some (.mpo .str false ((Zk Bt n).map YV)):=λo V=>by rw[Yk (by simpa using (ZX hO4).1),ZAp J0];exact hO4
     have hin:=ZfB (.box [.ptr 1 0,.mref 4,.mref 5]::OT) (i+6) (Y.length+1+1+1+1+1+1) row n hOr hOb hrl hrne;simp only[ξZ,Yx,ZCM]at hin;rw[<-hOT];have uu:=ξ9 uu hg3 hOb hOr hO4 hO4s hbx0 hbx1 (YB hbx2 (ZQ ZC row));refine WI.dregY (ZDC ZB ZUh hin) [] [] ?_
     refine NW ?_;refine xFS ?_;refine xAG ?_;refine xFG ?_;refine T7 ?_
     first|refine lfR ?_|refine ZAs ?_|refine ZAY ?_|refine ZAi ?_
     exact ZdJ m Bt P1 P2 Y [_,_] n hB hY rfl i row hld hrl _ hOS
abbrev BM:=List (Tx×List Tx)
def enB(B:BM):List (X×J6):=B.map λb=>(.str b.1,rows ZC b.2)
abbrev JF(L:List (Tx×Ze))(M:List (Tx×Zi))(m:EM)(B:BM):Ob:= .fam 9 [JS L,JN M,Jt m] (enB B)
def ZOL(B:BM):Nat->Tx->Bool
 |0,n=>decide (YJ B n= [])
 |k+1,n=>(YJ B n).all λs=>ZOL B k s
theorem ZHn(B:BM): ∀(k:Nat) (n:Tx),ZOL B k n=true↔deep B k n
 |0,n=>by simp[ZOL,deep]
 |k+1,n=>by simp only[ZOL,deep,Yg];exact forall₂_congr λs _=>ZHn B k s
def okT(m:EM)(B:BM):Prop:=(B.map (·.1)).Nodup/\(∀b∈B,SoL b.2/\b.2.length<=999999)/\(∀p∈m,Js p.2.2.1)/\m.length<=1000000
instance (m:EM) (B:BM):Decidable (okT m B):=inferInstanceAs (Decidable (_/\_))
theorem Zi9{m:EM}{B:BM}(h:okT m B):ZhE m:=λn e he=>h.2.2.1 (n,e) (JD he)
theorem ZSm{α β:Type}(f:α->β): ∀ {l l':List β},l.Perm l'-> ∀B:List α,l'=B.map f-> ∃B':List α,B'.Perm B/\l=B'.map f:=by
 intro l l' h
 induction h with
 |nil=>intro B hB;exact⟨[],by rw[ZcU.1 hB.symm],rfl⟩
 |cons x h ih=>
  intro B hB;cases B with
  |nil=>cases hB
  |cons b B=>
   rw[YO,ZEt]at hB;obtain⟨B',h1,rfl⟩:=ih B hB.2;exact⟨b::B',h1.cons b,by rw[YO,hB.1]⟩
 |swap x y l=>
  intro B hB
  match B,hB with
  |a::b::B,hB=>
   simp only[YO,ZEt]at hB;exact⟨b::a::B,List.Perm.swap a b B,by simp only[YO];rw[hB.1,hB.2.1,hB.2.2]⟩
 |trans h1 h2 ih1 ih2=>
  intro B hB;obtain⟨B2,k1,k2⟩:=ih2 B hB;obtain⟨B1,k3,k4⟩:=ih1 B2 k2;exact⟨B1,k3.trans k1,k4⟩
theorem ZBK{L:List (Tx×Ze)}{M:List (Tx×Zi)}{m:EM}{B:BM}(hk:okT m B){os:J7}(h:ZCs 9 [JS L,JN M,Jt m] (enB B) os):
  ∃(Bt:List TB) (Y:J7),(Bt.map YM).Perm B/\okB Y Bt/\Y.all Ob.nof=true/\os=Jr (JS L) (JN M) (.mpo .str true (Jt m):: .mpo .str false (Bt.map YV)::Y):=by
 rcases h with⟨P1,P2,P3,C,Y,hP,rfl,hp,hn,hY,hr⟩|⟨_,_,hP,_⟩
 rotate_left
 .cases hP
 simp only[ZEt,and_true]at hP;obtain⟨rfl,rfl,rfl⟩:=hP;obtain⟨B',hB',hC⟩:=ZSm (λb:Tx×List Tx=>(X.str b.1,rows ZC b.2)) hp B rfl;have hlen:C.length=B'.length:=by have:=congrArg List.length hC;exact V3
 have hat: ∀(j:Nat) (c:X×Nat×J6) (b:Tx×List Tx),C[j]? =some c->B'[j]? =some b->c.1= .str b.1/\c.2.2=rows ZC b.2:=λj c b h1 h2=>by
  have h3:=congrArg (λl=>l[j]?) hC;simp only[YI,h1,h2,Yq,Yu,YP]at h3;exact h3
 let Bt:List TB:=List.zipWith (λc b=>(b.1,c.2.1,b.2)) C B'
 have hB1:Bt.map YM=B':=by
  apply ZBg;intro j;simp only[Bt,YI,List.getElem?_zipWith];by_cases hj:j<B'.length
  .rw[Zw hj,Zw J0];rfl
  .exact H8
 have hB2:Bt.map (·.2.1)=C.map (·.2.1):=by
  apply ZBg;intro j;simp only[Bt,YI,List.getElem?_zipWith];by_cases hj:j<B'.length
  .rw[Zw hj,Zw (l:=C) J0];rfl
  .exact H8
 have hB3:Bt.map YV=C.map brP:=by
  apply ZBg;intro j;simp only[Bt,YI,List.getElem?_zipWith];by_cases hj:j<B'.length
  .have h1:=Zw (l:=C) (i:=j) J0;have h2:=Zw hj;obtain⟨e1,e2⟩:=hat j _ _ h1 h2;rw[h1,h2];simp only[Yq,YV,brP,e1,e2,ZQ]
  .exact H8
 have hB4:Bt.map (·.1)=B'.map (·.1):=by rw[<-hB1,Jv];rfl
 refine⟨Bt,Y,by rw[hB1];exact hB',⟨?_,by rw[hB2];exact hn,λx hx=> ?_⟩,hY,by rw[hB3]⟩
 .rw[hB4];exact(hB'.map _).nodup_iff.2 hk.1
 .obtain⟨j,hj⟩:=ZFA.1 hx;simp only[Bt,List.getElem?_zipWith]at hj;split at hj
  .rename_i c b h1 h2;cases hj;obtain⟨e1,e2⟩:=hat j c b h1 h2;have:=(hk.2.1 b (hB'.mem_iff.1 (JE h2))).2;exact⟨by rw[<-e2];exact hr c (JE h1),by simp only;omega⟩
  .cases hj
theorem ZDy{L:List (Tx×Ze)}{M:List (Tx×Zi)}{m:EM}{B:BM}{Bt:List TB}{Y:J7}(hp:(Bt.map YM).Perm B)(hB:okB Y Bt)(hY:Y.all Ob.nof=true):ZCs 9 [JS L,JN M,Jt m] (enB B) (Jr (JS L) (JN M) (.mpo .str true (Jt m):: .mpo .str false (Bt.map YV)::Y)):=by
 refine .inl ⟨_,_,_,Bt.map λx=>(.str x.1,x.2.1,rows ZC x.2.2),Y,rfl,?_,?_,?_,hY,λb hb=> ?_⟩
 .rw[Jv,show(brP∘λx:TB=>(X.str x.1,x.2.1,rows ZC x.2.2))=YV from funext λx=>by simp only[Function.comp,brP,YV,ZQ]]
 .have h:=hp.map λb:Tx×List Tx=>(X.str b.1,rows ZC b.2)
  rw[Jv]at h;rw[Jv];exact h
 .rw[Jv];exact hB.2.1
 .obtain⟨x,hx,rfl⟩:=YS.1 hb;exact(hB.2.2 x hx).1
theorem ZF.imp{P:Program}{f:FuncId}{args:J8}{os:J7}{Q Q':D->J7->Prop}(h:ZF P f args os Q)(hq: ∀r os',Q r os'->Q' r os'):ZF P f args os Q':=λc E vs R hvl=>
 (h c E vs R hvl).mono λe w' ⟨v,E',r,os',h1,h2,h3,h4,h5,h6⟩=>⟨v,E',r,os',h1,h2,h3,h4,h5,hq r os' h6⟩
theorem ZBU{A B:BM}(h:A.Perm B)(hn:(A.map (·.1)).Nodup)(n:Tx):YJ A n=YJ B n:=by unfold YJ;rw[ZXf h hn]
theorem ZEe{A B:BM}(h:A.Perm B)(hn:(A.map (·.1)).Nodup): ∀(k:Nat) (n:Tx),Yi A k n=Yi B k n
 |0,_=>rfl
 |k+1,n=>by simp only[Yi,ZBU h hn n];congr 1;funext s;rw[ZEe h hn k s]
theorem ZKt{A B:BM}(h:A.Perm B)(hn:(A.map (·.1)).Nodup): ∀(k:Nat) (n:Tx),deep A k n↔deep B k n
 |0,n=>by simp only[deep,ZBU h hn n]
 |k+1,n=>by simp only[deep,ZBU h hn n];exact forall₂_congr λs _=>ZKt h hn k s
theorem ZNn{κ β:Type}[DecidableEq κ]{A B:List (κ×β)}(h:A.Perm B)(hn:(A.map (·.1)).Nodup)(c:κ)(w:β):(Zy A c w).Perm (Zy B c w):=
 (ZBV A c w).trans (((ZKy h hn c).cons _).trans (ZBV B c w).symm)
theorem mdel_nodup{κ β:Type}[DecidableEq κ]{A:List (κ×β)}(hn:(A.map (·.1)).Nodup)(c:κ):((Zk A c).map (·.1)).Nodup:=((ZAb A c).map _).nodup hn
theorem ZW4{A B:BM}(h:A.Perm B)(hn:(A.map (·.1)).Nodup)(c:Int)(n:Tx):(ZA5 c A n).Perm (ZA5 c B n):=by
 unfold ZA5;rw[ZBU h hn];split
 .exact ZNn h hn _ _
 .exact h
theorem ZXo{A B:BM}(h:A.Perm B)(hn:(A.map (·.1)).Nodup)(c:Int)(n:Tx):(ZBM c A n).Perm (ZBM c B n):=by
 unfold ZBM;rw[ZBU (ZKy h hn n) (mdel_nodup hn n)];split
 .exact ZNn (ZKy h hn n) (mdel_nodup hn n) _ _
 .exact h
section
variable (L:List (Tx×Ze)) (M:List (Tx×Zi)) (m:EM) (B:BM)
theorem ZF5{L:List (Tx×Ze)}{M:List (Tx×Zi)}{m':EM}{B:BM}{Bt:List TB}{Y:J7}(hp:(Bt.map YM).Perm B)(hB:okB Y Bt)(hY:Y.all Ob.nof=true)(Z:J7)(hZ:Z.all Ob.nof=true):ZCs 9 [JS L,JN M,Jt m'] (enB B) (Jr (JS L) (JN M) (.mpo .str true (Jt m'):: .mpo .str false (Bt.map YV)::(Y++Z))):=
 ZDy hp (ZGs hB Z) (by rw[ZJh,hY,hZ];rfl)
theorem Zia(n:Tx)(hk:okT m B):ZO Tryz.prog 28 [.iref 0 0,.x (.str n)] [JF L M m B] (.tup [.agg [.x (.str (ZH0 m n).1),.x (.sl (rows ZK (ZH0 m n).2.1))],.x (.bool (ZH m n).isSome)]) [JF L M m B]:=
 ZD6 (args:= [.x (.str n)]) rfl rfl λos h=>by
  obtain⟨Bt,Y,hp,hB,hY,rfl⟩:=ZBK hk h;exact ZF.imp (ZjY (JS L) (JN M) m _ Y n (Zi9 hk)) λr os' ⟨hr,Z,ho,hZ⟩=>⟨hr,Tf⟩
theorem ZhV(hk:okT m B):ZO Tryz.prog 14 [.iref 0 0] [JF L M m B] (.x (.int .i64 m.length)) [JF L M m B]:=
 ZD6 (args:= []) rfl rfl λos h=>by
  obtain⟨Bt,Y,hp,hB,hY,rfl⟩:=ZBK hk h;exact ZF.imp (ZjZ (JS L) (JN M) m _ Y) λr os' ⟨hr,Z,ho,hZ⟩=>⟨hr,Tf⟩
theorem Zbp(k:Nat)(hk:okT m B)(hd:deep B k [])(hl:(Yi B k []).length<=999999):ZO Tryz.prog 15 [.iref 0 0] [JF L M m B] (.x (.sl (rows ZC (Yi B k [])))) [JF L M m B]:=
 ZD6 (args:= []) rfl rfl λos h=>by
  obtain⟨Bt,Y,hp,hB,hY,rfl⟩:=ZBK hk h;have hn:((Bt.map YM).map (·.1)).Nodup:=(hp.map _).nodup_iff.2 hk.1;rw[<-ZEe hp hn]at hl|-;exact ZF.imp (ZgO (JS L) (JN M) m Bt k Y hB ((ZKt hp hn _ _).2 hd) hl) λr os' ⟨hr,Z,ho,hZ⟩=>⟨hr,Tf⟩
theorem Zch(k:Nat)(n:Tx)(hk:okT m B)(hd:deep B k n)(hl:(Yi B k n).length<=999999):ZO Tryz.prog 23 [.iref 0 0,.x (.str n)] [JF L M m B] (.x (.sl (rows ZC (ZC6 m B k n)))) [JF L M m B]:=
 ZD6 (args:= [.x (.str n)]) rfl rfl λos h=>by
  obtain⟨Bt,Y,hp,hB,hY,rfl⟩:=ZBK hk h;have hn:((Bt.map YM).map (·.1)).Nodup:=(hp.map _).nodup_iff.2 hk.1;rw[<-ZEe hp hn]at hl;have hb:ZC6 m B k n=ZC6 m (Bt.map YM) k n:=by unfold ZC6;rw[ZEe hp hn,ZEe hp hn]
  rw[hb];exact ZF.imp (ZWN (JS L) (JN M) m Bt k n Y hB ((ZKt hp hn _ _).2 hd) hl) λr os' ⟨hr,Z,ho,hZ⟩=>⟨hr,Tf⟩
theorem Zfa(dn:Tx)(l:List ZN)(hk:okT m B)(h:Js l)(hc:ZEG M l):ZO Tryz.prog 26 [.iref 0 0,.agg [.x (.str dn),.x (.sl (rows ZK l))]] [JF L M m B] (.x (.int .i64 (ZAS L M m dn l))) [JF L M (Kl (ZAS L M m dn l) m dn l) B]:=
 ZD6 (args:= [.agg [.x (.str dn),.x (.sl (rows ZK l))]]) rfl rfl λos hf=>by
  obtain⟨Bt,Y,hp,hB,hY,rfl⟩:=ZBK hk hf;exact ZF.imp (Zhu L M m _ Y dn l h hc) λr os' ⟨hr,Z,ho,hZ⟩=>⟨hr,Tf⟩
theorem Zh2(n:Tx)(hk:okT m B)(hq:(ZH m n).isSome=true->YJ B n= []->n∈YJ B (YC n)/\YC n≠n):ZO Tryz.prog 25 [.iref 0 0,.x (.str n)] [JF L M m B] (.x (.int .i64 (Qc m B n))) [JF L M (ZC4 (Qc m B n) m n) (ZBM (Qc m B n) B n)]:=
 ZD6 (args:= [.x (.str n)]) rfl rfl λos hf=>by
  obtain⟨Bt,Y,hp,hB,hY,rfl⟩:=ZBK hk hf;have hn:((Bt.map YM).map (·.1)).Nodup:=(hp.map _).nodup_iff.2 hk.1;have hv:Qc m B n=Qc m (Bt.map YM) n:=by unfold Qc;rw[ZBU hp hn]
  rw[hv];exact ZF.imp (ZjF (JS L) (JN M) m Bt Y n hB hY (by rw[ZBU hp hn,ZBU hp hn];exact hq)) λr os' ⟨hr,Bt',Y',hp',hB',hY',ho⟩=>⟨hr,by rw[ho];exact ZDy (hp'.trans (ZXo hp hn _ _)) hB' hY'⟩
theorem Zim(dn:Tx)(l:List ZN)(hk:okT m B)(h:Js l)(hc:ZEG M l):ZO Tryz.prog 12 [.iref 0 0,.agg [.x (.str dn),.x (.sl (rows ZK l))]] [JF L M m B] (.x (.int .i64 (Qx L M m dn l))) [JF L M (Kl (Qx L M m dn l) m dn l) (ZA5 (Qx L M m dn l) B dn)]:=
 ZD6 (args:= [.agg [.x (.str dn),.x (.sl (rows ZK l))]]) rfl rfl λos hf=>by
  obtain⟨Bt,Y,hp,hB,hY,rfl⟩:=ZBK hk hf;have hn:((Bt.map YM).map (·.1)).Nodup:=(hp.map _).nodup_iff.2 hk.1;exact ZF.imp (ZjB L M m Bt Y dn l h hc hB hY (λx hx=>hk.2.1 (YM x) (hp.mem_iff.1 (YS.2 ⟨x,hx,rfl⟩))) hk.2.2.2) λr os' ⟨hr,Bt',Y',hp',hB',hY',ho⟩=>⟨hr,by rw[ho];exact ZDy (hp'.trans (ZW4 hp hn _ _)) hB' hY'⟩
end
def unB:List (X×J6)->Option BM
 | []=>some []
 |(.str s,R)::l=>(ZM ZC R).bind λr=>(unB l).map λq=>(s,r)::q
 |_=>none
theorem ZZm: ∀B:BM,unB (enB B)=some B
 | []=>rfl
 |b::B=>by
  have h:=ZZm B;unfold enB at h|-;simp only[YO,unB,ZS ZP,h,ZA9,Yq]
theorem ZVW: ∀ {l:List (X×J6)} {B:BM},unB l=some B->l=enB B
 | [],B,h=>N1
 |p::l,B,h=>by
  obtain⟨x,R⟩:=p;cases x with
  |str s=>
   simp only[unB]at h;obtain⟨r,h1,h⟩:=Zg h;obtain⟨q,h2,rfl⟩:=Zc h;rw[ZVW h2,<-Yo ZP h1];rfl
  |_=>cases h
def ZhA(P:W2):Option EM:=unM ZC ZZ P
theorem Zel(m:EM):ZhA (Jt m)=some m:=ZUP ZP YD m
def unT(o:Ob):Option (List (Tx×Ze)×List (Tx×Zi)×EM×BM):=match o with
 | .fam 9 [P1,P2,P3] b=>(unM ZC Zz P1).bind λL=>(unM ZC YW P2).bind λM=>(ZhA P3).bind λm=>(unB b).map λB=>(L,M,m,B)
 |_=>none
theorem ZKC(L:List (Tx×Ze))(M:List (Tx×Zi))(m:EM)(B:BM):unT (JF L M m B)=some (L,M,m,B):=by
 simp only[unT,JF,ZGW,ZGY,Zel,ZZm,ZA9,Yq]
theorem ZCe{o:Ob}{L:List (Tx×Ze)}{M:List (Tx×Zi)}{m:EM}{B:BM}(h:unT o=some (L,M,m,B)):o=JF L M m B:=by
 unfold unT at h;split at h
 .rename_i P1 P2 P3 b;obtain⟨L',h1,h⟩:=Zg h;obtain⟨M',h2,h⟩:=Zg h;obtain⟨m',h3,h⟩:=Zg h;obtain⟨B',h4,h⟩:=Zc h;cases h;rw[ZCj ZP JC h1,ZCj ZP JP h2,ZCj ZP YD h3,ZVW h4];rfl
 .cases h
def ZRR:J8->J7->J5
 | [.iref 0 0,.x (.str n)],[o]=>(unT o).map λq=>(decide (okT q.2.2.1 q.2.2.2),.tup [.agg [.x (.str (ZH0 q.2.2.1 n).1),.x (.sl (rows ZK (ZH0 q.2.2.1 n).2.1))],.x (.bool (ZH q.2.2.1 n).isSome)])
 |_,_=>none
def ZRJ:J8->J7->J5
 | [.iref 0 0],[o]=>(unT o).map λq=>(decide (okT q.2.2.1 q.2.2.2),.x (.int .i64 q.2.2.1.length))
 |_,_=>none
def okW(k:Nat)(m:EM)(B:BM)(n:Tx):Prop:=okT m B/\ZOL B k n=true/\(Yi B k n).length<=999999
instance (k:Nat) (m:EM) (B:BM) (n:Tx):Decidable (okW k m B n):=inferInstanceAs (Decidable (_/\_))
def ZLS:J8->J7->J5
 | [.iref 0 0],[o]=>(unT o).map λq=>(decide (okW 40 q.2.2.1 q.2.2.2 []),.x (.sl (rows ZC (Yi q.2.2.2 40 []))))
 |_,_=>none
def ZLl:J8->J7->J5
 | [.iref 0 0,.x (.str n)],[o]=>(unT o).map λq=>(decide (okW 40 q.2.2.1 q.2.2.2 n),.x (.sl (rows ZC (ZC6 q.2.2.1 q.2.2.2 40 n))))
 |_,_=>none
theorem ZdN: ∀args os r,ZRR args os=some (true,r)->r.clean=true/\ ∃X,ZO Tryz.prog 28 args os r (os++X):=by
 intro args os r h;unfold ZRR at h;split at h
 .obtain⟨⟨L,M,m,B⟩,h1,h2⟩:=Zc h;simp only[YP,Yl]at h2;obtain⟨h3,rfl⟩:=h2;rw[ZCe h1];exact⟨rfl,[],Zia L M m B _ h3⟩
 .cases h
theorem Zcx: ∀args os r,ZRJ args os=some (true,r)->r.clean=true/\ ∃X,ZO Tryz.prog 14 args os r (os++X):=by
 intro args os r h;unfold ZRJ at h;split at h
 .obtain⟨⟨L,M,m,B⟩,h1,h2⟩:=Zc h;simp only[YP,Yl]at h2;obtain⟨h3,rfl⟩:=h2;rw[ZCe h1];exact⟨rfl,[],ZhV L M m B h3⟩
 .cases h
theorem ZXj: ∀args os r,ZLS args os=some (true,r)->r.clean=true/\ ∃X,ZO Tryz.prog 15 args os r (os++X):=by
 intro args os r h;unfold ZLS at h;split at h
 .obtain⟨⟨L,M,m,B⟩,h1,h2⟩:=Zc h;simp only[YP,Yl]at h2;obtain⟨h3,rfl⟩:=h2;rw[ZCe h1];exact⟨rfl,[],Zbp L M m B 40 h3.1 ((ZHn B 40 []).1 h3.2.1) h3.2.2⟩
 .cases h
theorem ZW0: ∀args os r,ZLl args os=some (true,r)->r.clean=true/\ ∃X,ZO Tryz.prog 23 args os r (os++X):=by
 intro args os r h;unfold ZLl at h;split at h
 .rename_i n o;obtain⟨⟨L,M,m,B⟩,h1,h2⟩:=Zc h;simp only[YP,Yl]at h2;obtain⟨h3,rfl⟩:=h2;rw[ZCe h1];exact⟨rfl,[],Zch L M m B 40 n h3.1 ((ZHn B 40 n).1 h3.2.1) h3.2.2⟩
 .cases h
def ZRQ:J8->J7->Option (Bool×D×J7)
 | [.iref 0 0,.agg [.x (.str dn),.x (.sl R)]],[o]=>(unT o).bind λq=>(ZM ZK R).map λl=>(decide (okT q.2.2.1 q.2.2.2/\Js l/\ZEG q.2.1 l),.x (.int .i64 (Qx q.1 q.2.1 q.2.2.1 dn l)),[JF q.1 q.2.1 (Kl (Qx q.1 q.2.1 q.2.2.1 dn l) q.2.2.1 dn l) (ZA5 (Qx q.1 q.2.1 q.2.2.1 dn l) q.2.2.2 dn)])
 |_,_=>none
def ZNW:J8->J7->Option (Bool×D×J7)
 | [.iref 0 0,.agg [.x (.str dn),.x (.sl R)]],[o]=>(unT o).bind λq=>(ZM ZK R).map λl=>(decide (okT q.2.2.1 q.2.2.2/\Js l/\ZEG q.2.1 l),.x (.int .i64 (ZAS q.1 q.2.1 q.2.2.1 dn l)),[JF q.1 q.2.1 (Kl (ZAS q.1 q.2.1 q.2.2.1 dn l) q.2.2.1 dn l) q.2.2.2])
 |_,_=>none
def okD(m:EM)(B:BM)(n:Tx):Prop:=okT m B/\((ZH m n).isSome=true->YJ B n= []->n∈YJ B (YC n)/\YC n≠n)
instance (m:EM) (B:BM) (n:Tx):Decidable (okD m B n):=inferInstanceAs (Decidable (_/\_))
def ZRP:J8->J7->Option (Bool×D×J7)
 | [.iref 0 0,.x (.str n)],[o]=>(unT o).map λq=>(decide (okD q.2.2.1 q.2.2.2 n),.x (.int .i64 (Qc q.2.2.1 q.2.2.2 n)),[JF q.1 q.2.1 (ZC4 (Qc q.2.2.1 q.2.2.2 n) q.2.2.1 n) (ZBM (Qc q.2.2.1 q.2.2.2 n) q.2.2.2 n)])
 |_,_=>none
theorem Zdj: ∀args os r os',ZRQ args os=some (true,r,os')->ZO Tryz.prog 12 args os r os':=by
 intro args os r os' h;unfold ZRQ at h;split at h
 .obtain⟨⟨L,M,m,B⟩,h1,h⟩:=Zg h;obtain⟨l,h2,h⟩:=Zc h;simp only[YP,Yl]at h;obtain⟨h3,rfl,rfl⟩:=h;rw[ZCe h1,<-Yo Zf h2];exact Zim L M m B _ l h3.1 h3.2.1 h3.2.2
 .cases h
theorem ZZ3: ∀args os r os',ZNW args os=some (true,r,os')->ZO Tryz.prog 26 args os r os':=by
 intro args os r os' h;unfold ZNW at h;split at h
 .obtain⟨⟨L,M,m,B⟩,h1,h⟩:=Zg h;obtain⟨l,h2,h⟩:=Zc h;simp only[YP,Yl]at h;obtain⟨h3,rfl,rfl⟩:=h;rw[ZCe h1,<-Yo Zf h2];exact Zfa L M m B _ l h3.1 h3.2.1 h3.2.2
 .cases h
theorem ZdV: ∀args os r os',ZRP args os=some (true,r,os')->ZO Tryz.prog 25 args os r os':=by
 intro args os r os' h;unfold ZRP at h;split at h
 .obtain⟨⟨L,M,m,B⟩,h1,h⟩:=Zc h;simp only[YP,Yl]at h;obtain⟨h3,rfl,rfl⟩:=h;rw[ZCe h1];exact Zh2 L M m B _ h3.1 h3.2
 .cases h
theorem Zeh{l:List Tx}(hs:SoL l)(s:Tx)(hn: ∀x∈l,YQ x≠YQ s):SoL (ZFQ l s):=by
 have h1: ∀x∈l.take (JQ l s),Op.bytesLess (YQ x) (YQ s)=true:=λx hx=>by
  obtain⟨j,hj,rfl⟩:=ZKf.1 hx;rw[List.getElem_take];exact ZOW l s j (by rw[Yv]at hj;omega)
 have h2: ∀x∈l.drop (JQ l s),Op.bytesLess (YQ s) (YQ x)=true:=λx hx=>by
  obtain⟨j,hj,rfl⟩:=ZKf.1 hx;rw[KQ]at hj;rw[List.getElem_drop];have h3:=mt (ZVp hs s (JQ l s+j) J0).1 J0;rcases bl_tot _ _ (hn _ (YK (h:=show JQ l s+j<l.length by omega)))with h4|h4
  .exact absurd h4 h3
  .exact h4
 have h0:SoL (l.take (JQ l s)++l.drop (JQ l s)):=by rw[ZBb];exact hs
 obtain⟨k1,k2,k3⟩:=ZPF.1 h0;refine ZPF.2 ⟨k1,ZFV.2 ⟨h2,k2⟩,λa ha b hb=> ?_⟩;rcases Jf.1 hb with rfl|hb
 .exact h1 a ha
 .exact k3 a ha b hb
theorem ZbD{l:List Tx}{s x:Tx}:x∈ZFQ l s↔x=s\/x∈l:=by
 have h:x∈l↔x∈l.take (JQ l s)\/x∈l.drop (JQ l s):=by rw[<-KT,ZBb]
 unfold ZFQ;rw[KT,Jf,h];constructor
 .rintro(h|h|h)
  .exact .inr (.inl h)
  .exact .inl h
  .exact .inr (.inr h)
 .rintro(h|h|h)
  .exact .inr (.inl h)
  .exact .inl h
  .exact .inr (.inr h)
def ZEf:Bool->Tx->Tx
 |_,[]=> []
 |f,c::r=>ZED c f (decide (r= []))++ZEf false r
theorem ZYK(s:Tx): ∀j,j<=s.length->ZBH s j++ZEf (decide (j=0)) (s.drop j)=ZEf true s
 |0,_=>rfl
 |j+1,h=>by
  have ih:=ZYK s j J0;rw[QR s j J0,ZEf]at ih;have h1:(s.drop (j+1)= [])=(j+1=s.length):=Wx
  simp only[h1]at ih;rw[ZBH,ZA0,Ys];exact ih
theorem ZY1(s:Tx):ZDn s=ZEf true s:=by
 have:=ZYK s s.length (Zr _);rw[List.drop_length]at this;rw[<-this];simp[ZDn,ZEf]
def vl(r b:Tx)(e:Nat):Option (Tx×Nat):=Ju (r.length+1) r b e
theorem ZOE{n:Nat}{r b:Tx}{e:Nat}(h:r.length<n):Ju n r b e=vl r b e:=ZJm _ _ _ _ _ h (Nat.lt_succ_self _)
theorem ZMM: ∀n:Fin 16,ZG9 (dgD n.val)=false/\ZB1 (dgD n.val).toNat=(n.val,true)/\dgD n.val≠92/\dgD n.val≠43/\dgD n.val≠44:=Uu
theorem ZhG(c:UInt8):orB (c.toNat/16) (c.toNat % 16)=c:=by
 unfold orB;apply ZNF.1;have:=ZEJ c;simp;omega
theorem Zg3(c:UInt8)(l:Bool)(r b:Tx)(e:Nat):vl (ZED c (decide (b.length=0)) l++r) b e=vl r (b++ [c]) (if c=32/\slD c (decide (b.length=0)) l=false then e else b.length+1):=by
 have hc:=ZEJ c;unfold ZED;by_cases h1:ZI2 c=true
 .rw[if_pos h1];have h32: ¬c=32:=λh=>by subst h;revert h1;decide
  rw[if_neg (λh=>h32 h.1)];obtain⟨a1,a2,a3,_⟩:=ZMM ⟨c.toNat/16,J0⟩;obtain⟨b1,b2,b3,_⟩:=ZMM ⟨c.toNat % 16,J0⟩;simp only at a1 a2 b1 b2;have he:Ka (dgD (c.toNat/16)::dgD (c.toNat % 16)::r)=(c,2,true):=by
   unfold Ka;rw[if_neg J1];simp only[ZH8,ZNB,a1,a2,b2,Je,if_false,Bool.true_eq_false,false_or,Yx];rw[if_neg J0,ZhG]
  show Ju ([92,dgD (c.toNat/16),dgD (c.toNat % 16)]++r).length.succ (92::dgD (c.toNat/16)::dgD (c.toNat % 16)::r) b e=_;rw[Ju,if_pos rfl,he,if_pos rfl];exact H5
 .rw[if_neg h1];by_cases h2:slD c (decide (b.length=0)) l=true
  .rw[if_pos h2,if_neg (by rw[h2];simp)];have hf:ZG9 c=true:=by
    unfold slD at h2;unfold ZG9;simp only[ZBc,Zj,Yl]at h2|-;rcases h2 with h2|⟨_,h2|h2⟩|⟨_,h2⟩
    .exact .inl (.inl h2)
    .exact .inl (.inr J0)
    .exact XW
    .exact .inl (.inr J0)
   have he:Ka (c::r)=(c,1,true):=by
    unfold Ka;rw[if_neg J1,ZH8,if_pos hf]
   show Ju ([92,c]++r).length.succ (92::c::r) b e=_;rw[Ju,if_pos rfl,he,if_pos rfl];exact H5
  .rw[if_neg h2];have h3:spc c.toNat=false:=by
    cases hs:spc c.toNat
    .rfl
    .exact absurd (by unfold slD;rw[hs];rfl) h2
   have h4:b.length=0->c.toNat≠35:=λhz h35=>h2 (by unfold slD;simp[hz,h35])
   have h92: ¬c=92:=λh=>by subst h;revert h3;decide
   have hb:ZIF c.toNat (decide (b.length=0))=false:=by
    unfold ZI2 at h1;simp only[ZBc,Yl,not_or]at h1;unfold ZIF;simp only[ZT6,ZWj,decide_eq_false_iff_not];refine⟨⟨⟨J0,J0⟩,.inr h3⟩,?_⟩;by_cases hz:b.length=0
    .right;exact h4 hz
    .left;simpa using hz
   show Ju ([c]++r).length.succ (c::r) b e=_;rw[Ju,if_neg h92,hb,if_neg J1];by_cases h32:c=32
   .rw[if_pos h32,if_pos ⟨h32,Tc⟩];exact H5
   .rw[if_neg h32,if_neg (λh=>h32 h.1)];exact H5
theorem ZYT: ∀(s b:Tx) (e:Nat),vl (ZEf (decide (b.length=0)) s) b e=some (b++s,if s= []then e else b.length+s.length)
 | [],b,e=>by rw[Kg,if_pos rfl];rfl
 |c::r,b,e=>by
  have ih:=ZYT r (b++ [c]) (if c=32/\slD c (decide (b.length=0)) (decide (r= []))=false then e else b.length+1);rw[show decide ((b++ [c]).length=0)=false by simp]at ih;rw[ZEf,Zg3,ih]
  conv=>rhs;rw[if_neg J1]
  rcases r with _|⟨d,r⟩
  .rw[if_pos rfl];have: ¬(c=32/\slD c (decide (b.length=0)) (decide (([]:Tx)= []))=false):=by
    rintro⟨rfl,h⟩
    revert h
    simp[slD]
   rw[if_neg this];simp
  .rw[if_neg J1];simp;omega
theorem ZeX(c:UInt8)(r:Tx):trL (ZEf true (c::r))=ZEf true (c::r):=by
 rw[ZEf];unfold ZED;split
 .rw[ξZ,ZDE,if_neg WT]
 .split
  .rw[ξZ,ZDE,if_neg WT]
  .rename_i h1 h2;rw[ξZ,ZDE,if_neg];rintro rfl;exact h2 (by simp[slD])
theorem ZYU{v:Tx}(h:v≠ []):ZGG (ZDn v)=(v,true):=by
 obtain⟨c,r,rfl⟩:=List.exists_cons_of_ne_nil h;unfold ZGG;rw[ZY1,ZeX];have:=ZYT (c::r) [] 0;rw[if_neg h]at this;unfold vl at this;rw[show Ju ((ZEf true (c::r)).length+1) (ZEf true (c::r)) [] 0=_ from this];simp
def ZBm(a:UInt8)(x:Tx):Prop:= ∀y,Yf a (x++y)=pre x (Yf a y)
theorem ZKP(a:UInt8):ZBm a []:=λy=>(ZO2 _ (ZIO a y)).symm
theorem ZDS{a:UInt8}{x y:Tx}(h1:ZBm a x)(h2:ZBm a y):ZBm a (x++y):=λz=>by
 rw[Ys,h1,h2,ZPH _ _ _ (ZIO _ _)]
theorem ZF3{a c:UInt8}(h1:c≠92)(h2:c≠a):ZBm a [c]:=λy=>by
 show Yf a (c::y)=_
 conv=>lhs;unfold Yf
 rw[if_neg h1,if_neg h2]
theorem ZQM(a c:UInt8):ZBm a [92,c]:=λy=>by
 show Yf a (92::c::y)=_
 conv=>lhs;unfold Yf
 rw[if_pos rfl]
theorem ZaY{a:UInt8}(ha:a≠92){x:Tx}(h:ZBm a x)(y:Tx):Yf a (x++a::y)=x::Yf a y:=by
 rw[h]
 conv=>lhs;arg 2;unfold Yf
 rw[if_neg ha,if_pos rfl];simp[pre]
theorem ZaW{a:UInt8}{x:Tx}(h:ZBm a x):Yf a x= [x]:=by
 have:=h [];rw[Kg]at this;rw[this];show pre x [[]]= [x];simp[pre]
theorem ZPi{a:UInt8}(ha:a≠92): ∀l:List Tx,l≠ []->(∀x∈l,ZBm a x)->Yf a (Qe a l)=l
 | [],h,_=>absurd rfl h
 | [x],_,h=>ZaW (h x (List.mem_singleton_self x))
 |x::y::r,_,h=>by
  rw[ZBa a J1,ZaY ha (h x J1),ZPi ha (y::r) J1 (λz hz=>h z (ξU _ hz))]
theorem ZQ7{a b:UInt8}(hb:b≠92)(hab:b≠a): ∀l:List Tx,(∀x∈l,ZBm a x)->ZBm a (Qe b l)
 | [],_=>ZKP a
 | [x],h=>h x (List.mem_singleton_self x)
 |x::y::r,h=>by
  rw[ZBa b J1,show x++b::Qe b (y::r)=x++([b]++Qe b (y::r))from rfl];exact ZDS (h x J1) (ZDS (ZF3 hb hab) (ZQ7 hb hab (y::r) (λz hz=>h z (ξU _ hz))))
theorem ZYp{a:UInt8}(ha:a=43\/a=44)(c:UInt8)(f l:Bool):ZBm a (ZED c f l):=by
 have hc:=ZEJ c;unfold ZED;split
 .obtain⟨_,_,b3,b4,b5⟩:=ZMM ⟨c.toNat % 16,J0⟩;exact ZDS (x:= [92,dgD (c.toNat/16)]) (y:= [dgD (c.toNat % 16)]) (ZQM a _) (ZF3 b3 (by rcases ha with rfl|rfl;exact b4;exact b5))
 .split
  .exact ZQM a c
  .rename_i h;have h3: ¬spc c.toNat=true:=λh3=>h (by simp[slD,h3])
   refine ZF3 (λe=> ?_) (λe=> ?_)
   .subst e;exact h3 WT
   .subst e;rcases ha with rfl|rfl<;>exact h3 WT
theorem ZOX{a:UInt8}(ha:a=43\/a=44): ∀(s:Tx) (f:Bool),ZBm a (ZEf f s)
 | [],f=>ZKP a
 |c::r,f=>ZDS (ZYp ha c f _) (ZOX ha r false)
theorem ZLp{a:UInt8}: ∀s:Tx,(∀c∈s,c≠92/\c≠a)->ZBm a s
 | [],_=>ZKP a
 |c::r,h=>ZDS (x:= [c]) (ZF3 (h c J1).1 (h c J1).2) (ZLp r (λx hx=>h x (ξU _ hx)))
theorem ZVM(s:Tx): ∀n,n<=s.length->tyU s n=true-> ∀c∈s.take n,ZPW c.toNat=true\/ZPB c.toNat=true
 |0,_,_,c,hc=>by simp at hc
 |n+1,hn,hg,c,hc=>by
  rw[tyU,Zj]at hg;rw[JW J0,KT,ZAM]at hc;rcases hc with hc|rfl
  .exact ZVM s n J0 hg.1 c hc
  .have:=hg.2;rw[show s.getD n 0=s[n] by simp[show n<s.length by omega]]at this;unfold tyC at this;simp only[ZBc,Zj]at this;rcases this with h|h
   .exact .inl h
   .exact .inr h.2
theorem ZT1{s:Tx}(h:Jn s=true): ∀c∈s,ZPW c.toNat=true\/ZPB c.toNat=true:=by
 unfold Jn tyA at h;simp only[Zj]at h;intro c hc;exact ZVM s s.length (Zr _) h.2 c (by rw[JX];exact hc)
theorem ZYh{c:UInt8}(h:ZPW c.toNat=true\/ZPB c.toNat=true):c≠92/\c≠43/\c≠44/\c≠61/\c≠32:=by
 refine⟨?_,?_,?_,?_,?_⟩<;>rintro rfl<;>revert h<;>decide
theorem ZVe{c:UInt8}: ∀(t u:Tx),c∉t->Kw c (t++c::u)=(t,u,true)
 | [],u,_=>by simp[Kw]
 |b::t,u,h=>by
  have h1: ¬b=c:=λe=>h (by simp[e])
  rw[ξZ,Kw,if_neg h1,ZVe t u (λhm=>h (ξU _ hm))]
theorem Zd8{l:Tx}(h: ∀c∈l,c≠32):l.dropWhile (· ==32)=l:=by
 cases l with
 |nil=>rfl
 |cons c l=>rw[ZXk,if_neg (by simpa using h c J1)]
theorem Ze4{t:Tx}(h: ∀c∈t,c≠32):ZEz t=t:=by
 have h1:trR t=t:=by
  unfold trR;rw[Zd8 (λc hc=>h c (List.mem_reverse.1 hc)),List.reverse_reverse]
 unfold ZEz trL;rw[h1,Zd8 h]
theorem ZYu{p:Av}(ht:Jn p.1=true)(hv:p.2≠ []):JU (Qo p)=(p,true):=by
 have hm:=λ(c:UInt8) (hc:c∈p.1)=>ZYh (ZT1 ht c hc)
 have hc:Kw 61 (Qo p)=(p.1,ZDn p.2,true):=by
  unfold Qo;rw[Ys];exact ZVe _ _ (λh=>(hm _ h).2.2.2.1 rfl)
 have htr:ZEz p.1=p.1:=Ze4 λc h=>(hm c h).2.2.2.2
 unfold JU;rw[hc];simp only[htr,ht,ZYU hv];simp
theorem ZQ9{a:UInt8}(ha:a=43\/a=44){p:Av}(ht:Jn p.1=true):ZBm a (Qo p):=by
 unfold Qo;rw[ZY1];refine ZDS (ZDS (ZLp _ λc hc=> ?_) (ZF3 WT (by rcases ha with rfl|rfl<;>decide))) (ZOX ha _ _);have:=ZYh (ZT1 ht c hc);rcases ha with rfl|rfl
 .exact⟨this.1,this.2.1⟩
 .exact⟨this.1,this.2.2.1⟩
theorem ZFW{r:List Av}(h:JA r=true):r≠ []/\r.length<=8/\ ∀p∈r,Jn p.1=true/\p.2≠ []:=by
 unfold JA at h;simp only[Zj,Yl]at h;refine⟨λe=>by rw[e]at h;simp at h,h.2.2,λp hp=> ?_⟩;obtain⟨j,hj,rfl⟩:=ZKf.1 hp;have h1:=ZSG r _ j h.1 hj;unfold ZAh at h1;rw[show r.getD j ([],[])=r[j] by simp[hj]]at h1;simp only[Zj]at h1;exact⟨h1.1,by simpa using h1.2.1⟩
theorem ZZc{r:List Av}(h:JA r=true):ZBm 44 (JI r):=
 ZQ7 WT WT _ λx hx=>by
  obtain⟨p,hp,rfl⟩:=YS.1 hx;exact ZQ9 (.inr rfl) ((ZFW h).2.2 p hp).1
theorem ZZD{r:List Av}(h:JA r=true):Zt (JI r)=(r,true):=by
 obtain⟨h0,_,h2⟩:=ZFW h;have hl:ZFp (JI r)=r.map λp=>(p,true):=by
  unfold ZFp JI;rw[ZPi WT _ Vh (λx hx=>by
   obtain⟨p,hp,rfl⟩:=YS.1 hx;exact ZQ9 (.inl rfl) (h2 p hp).1),Jv]
  exact ZBz λp hp=>ZYu (h2 p hp).1 (h2 p hp).2
 unfold Zt;rw[hl,if_pos J1,Jv];exact congrArg (·,true) (List.map_id' _)
theorem ZES{d:Dn}(h:KA d=0):d.length<=32/\ ∀r∈d,JA r=true:=by
 unfold KA at h;split at h
 .cases h
 .split at h
  .rename_i h1 h2;exact⟨J0,Yg.1 h2⟩
  .cases h
theorem Zhv(p:Av):Qo p≠ []:=by unfold Qo;simp
theorem ZR7{r:List Av}(h:r≠ []):JI r≠ []:=by
 obtain⟨p,r,rfl⟩:=List.exists_cons_of_ne_nil h;unfold JI;cases r with
 |nil=>exact Zhv p
 |cons q r=>rw[YO,ZBa 43 J1];simp
theorem ZYV: ∀ {d:Dn} {n:Nat},(∀r∈d,r.length<=n)->mxD d<=n
 | [],n,_=>by simp[mxD]
 |r::d,n,h=>by
  have h1:=h r J1;have h2:=ZYV (d:=d) (λx hx=>h x (ξU _ hx));rw[mxD];omega
theorem ZKe{d:Dn}(h:KA d=0)(hl:(Ki d).length<=4096):Ya (Ki d)=(d,0):=by
 obtain⟨h1,h2⟩:=ZES h;cases d with
 |nil=>rfl
 |cons r d=>
  have hr:=h2 r J1;have hne:Ki (r::d)≠ []:=by
   unfold Ki;cases d with
   |nil=>exact ZR7 (ZFW hr).1
   |cons q d=>rw[YO,ZBa 44 J1];simp
  have hL:ZC1 (Ki (r::d))=(r::d).map λr=>(r,true):=by
   unfold ZC1 Ki;rw[ZPi WT _ J1 (λx hx=>by
    obtain⟨q,hq,rfl⟩:=YS.1 hx;exact ZZc (h2 q hq)),Jv]
   exact ZBz λq hq=>ZZD (h2 q hq)
  have hn:ZBZ (Ki (r::d))=r::d:=by unfold ZBZ;rw[hL,Jv];exact List.map_id' _
  unfold Ya;rw[if_neg J0,if_neg hne,hL,if_pos J1,hn,if_neg (by have:=ZYV (d:=r::d) (n:=8) (λx hx=>(ZFW (h2 x hx)).2.1);omega),if_neg (by rw[h];simp)]
structure NmD (s:Tx) (d:Dn):Prop where
 rd:Ya s=(d,0)
 nam:s=Ki d
 chk:KA d=0
 nrm:d.map KP=d
 full:d.all KZ=true
 len:s.length<=4096
theorem Zaa{s:Tx}(h:okS s=true): ∃d,NmD s d:=by
 have hr:=ZSb h;have hno:JY s=(s,0):=of_decide_eq_true h;unfold JY at hno;rw[if_neg (by rw[hr];simp)]at hno;split at hno
 .rename_i hf;unfold Qp at hno;split at hno
  .rename_i h1;exact absurd (congrArg Prod.snd hno) h1
  .rename_i h1;split at hno
   .cases hno
   .rename_i h2;have hs:Ki ((Ya s).1.map KP)=s:=congrArg Prod.fst hno;have hb:=ZKe (ZH3.1 h1) J0;rw[hs]at hb;have hd:(Ya s).1.map KP=(Ya s).1:=by
     conv=>rhs;rw[hb]
    refine⟨(Ya s).1,?_,?_,?_,hd,hf,by rw[<-hs];omega⟩
    .exact ZCQ rfl hr
    .rw[hd]at hs;exact hs.symm
    .rw[hd]at h1;exact ZH3.1 h1
 .cases hno
theorem NmD.ok{s:Tx}{d:Dn}(h:NmD s d):okS s=true:=by
 refine ZI ?_;unfold JY;rw[h.rd];simp only[ne_eq,not_true_eq_false,if_false,h.full,if_true,h.nrm];unfold Qp;rw[if_neg (by rw[h.chk];simp),if_neg (by have:=h.len;rw[h.nam]at this;omega),<-h.nam]
theorem ZUH{d:Dn}(h1:d.length<=32)(h2: ∀r∈d,JA r=true):KA d=0:=by
 unfold KA;rw[if_neg J0,if_pos (Yg.2 h2)]
theorem ZIG{a:UInt8}: ∀ {l:List Tx} {x:Tx},x∈l->x.length<=(Qe a l).length
 | [y],x,h=>by rw[ZAM.1 h];exact Zr _
 |y::z::r,x,h=>by
  rw[ZBa a J1,ZW,Yx];rcases Jf.1 h with rfl|h
  .omega
  .have:=ZIG (a:=a) h;omega
theorem NmD.parts{s:Tx}{d:Dn}(h:NmD s d):Zq s=d.map JI:=by
 unfold Zq;rw[if_pos h.ok,h.rd];refine ZBz λr hr=> ?_
 have h1:=(ZES h.chk).2 r hr;have h2:KA [r]=0:=ZUH J1 WC;have h3:(JI r).length<=s.length:=by
  rw[h.nam];exact ZIG (YS.2 ⟨r,hr,rfl⟩)
 have:=h.len;unfold Qp;rw[if_neg (by rw[h2];simp),if_neg (by show ¬(JI r).length>4096;omega)];rfl
theorem NmD.tail{s:Tx}{r:List Av}{d:Dn}(h:NmD s (r::d)):NmD (Ki d) d:=by
 obtain⟨h1,h2⟩:=ZES h.chk;have hc:KA d=0:=ZUH (by simp at h1;omega) (λx hx=>h2 x (ξU _ hx));have hl:(Ki d).length<=4096:=by
  have:=h.len;rw[h.nam]at this;unfold Ki at this|-;cases d with
  |nil=>simp[Qe]
  |cons q d=>rw[YO,ZBa 44 J1,ZW,Yx]at this;omega
 have hn:=h.nrm;rw[YO,ZEt]at hn;have hf:=h.full;rw[Qa,Zj]at hf;exact⟨ZKe hc hl,rfl,hc,hn.2,hf.2,hl⟩
theorem ZIY{s:Tx}(h:JH s=true): ∃r d,NmD s (r::d)/\YQ s=JI r/\YC s=Ki d:=by
 have h0:Zq s≠ []:=of_decide_eq_true h;have hok:okS s=true:=by
  cases e:okS s
  .exact absurd (by unfold Zq;rw[e];rfl) h0
  .rfl
 obtain⟨d,hd⟩:=Zaa hok;have hp:=hd.parts;cases d with
 |nil=>rw[hp]at h0;exact absurd rfl h0
 |cons r d=>
  refine⟨r,d,hd,?_,?_⟩
  .unfold YQ;rw[hp];rfl
  .unfold YC;rw[hp];rfl
theorem ZbA{d:Dn}(h: ∀r∈d,JA r=true):Ki d= []↔d= []:=by
 constructor
 .intro e;cases d with
  |nil=>rfl
  |cons r d=>
   have h1:=(ZFW (h r J1)).1;unfold Ki at e;cases d with
   |nil=>exact absurd e (ZR7 h1)
   |cons q d=>rw[YO,ZBa 44 J1]at e;simp at e
 .rintro rfl;rfl
theorem ZPX{s:Tx}(h:JH s=true):s=if YC s= []then YQ s else YQ s++44::YC s:=by
 obtain⟨r,d,hd,h1,h2⟩:=ZIY h;have hm:=(ZES hd.chk).2;rw[h1,h2]
 conv=>lhs;rw[hd.nam]
 cases d with
 |nil=>rfl
 |cons q d=>
  rw[if_neg (λe=>by have:=(ZbA (λx hx=>hm x (ξU _ hx))).1 e;cases this)];unfold Ki;rw[YO,ZBa 44 J1]
theorem ZS5{s t:Tx}(h1:JH s=true)(h2:JH t=true)(hl:YQ s=YQ t)(hp:YC s=YC t):s=t:=by
 rw[ZPX h1,ZPX h2,hl,hp]
theorem ZYg{s:Tx}(h:JH s=true):YC s≠s:=by
 intro e;have h1:=ZPX h;obtain⟨r,d,hd,h3,h4⟩:=ZIY h;have h5:=ZR7 (ZFW ((ZES hd.chk).2 r J1)).1;split at h1
 .rename_i h6;rw[e]at h6;rw[h3]at h1;exact h5 (h1.symm.trans h6)
 .have:=congrArg List.length h1;rw[ZW,Yx,e]at this;omega
end Go.Proofs.YtiogclkbccdefaaGreatDoor
end
