import Derived.Test.YtiogclkbccdefaaGreatDoorMA3
import Derived.Test.YtiogclkbccdefaaGreatDoorLA5
import Derived.Test.YtiogclkbccdefaaGreatDoorSh
import Derived.Sort.KeysCollected
import Derived.Shelf.SlIter.Sorted
import Derived.Test.YtiogclkbccdefaaGreatDoorMA2
import Derived.Test.YtiogclkbccdefaaGreatDoorProg
import Derived.Test.YtiogclkbccdefaaGreatDoorMA1
set_option linter.unusedSimpArgs false
set_option linter.unusedVariables false
set_option maxRecDepth 100000
section
namespace Go.Proofs.YtiogclkbccdefaaGreatDoor
open Go.RowKit Go.Bo Go.Ab
abbrev Sn:=List (Tx×Int)
def snG(S:Sn)(k:Tx):Int:=(ZR S k).getD 0
def snS(S:Sn)(k:Tx):Sn:=JE S k (snG S k+1)
theorem ZNY(S:Sn)(k:Tx):(JB (YG Jj Kx S) [X.str k])=(ZR S k).map fun n=> [D.x (X.int .i64 n)]:=by
 rw[ZEd Jj Kx hkS S k];rfl
theorem ZKd(S:Sn)(k:Tx)(n:Int):YI (YG Jj Kx S) [X.str k] [D.x (X.int .i64 n)]=YG Jj Kx (JE S k n):=ZCg Jj Kx hkS S k n
def w4(S:Sn)(t:Zn)(a:ZX):Int:=if 0<snG S t.1∨twV t.2.1 a.2.1=true then 20 else 0
def ZH1:Tabs:=ZU (ZU (ZS) 120 KH) 156 ZC9
theorem ZMM:SsOk Tryz.prog ZH1:=ZH (ZH (ZF) (Zc 120) ZJS) (Zc 156) ZSN
theorem ZN1:(∀a,ZH1.q 120 a=KH a)∧(∀a,ZH1.q 156 a=ZC9 a)∧(∀f a o,ZH1.r f a o=none)∧(∀f a o,ZH1.k f a o=none):=⟨fun _=>rfl,fun _=>rfl,fun _ _ _=>rfl,fun _ _ _=>rfl⟩
theorem Zbu(S:Sn)(t:Zn)(a:ZX)(hs:0≤snG S t.1∧snG S t.1≤1000000)(hl:a.2.1.length≤1000000):ZN Tryz.prog 155 [tyD t,atD a,.ptr 0 0] [.box [.mref 1],.mpo .str false (YG Jj Kx S)] (.x (.int .i64 (w4 S t a))) [.box [.mref 1],.mpo .str false (YG Jj Kx (snS S t.1))]:=by
 have hO:([.box [.mref 1],.mpo .str false (YG Jj Kx (snS S t.1))]:List Ob).all (Ob.inP (fun i=>decide (i<([.box [.mref 1],.mpo .str false (YG Jj Kx (snS S t.1))]:List Ob).length)))=true:=by simp[Ob.inP,YR,D.inP,Kk]
 have hla:decide (a.2.1.length≤1000000)=true:=Zd hl;have hg:=ZNY S t.1;unfold w4 tyD atD snS;unfold snS at hO;unfold snG at hs hO⊢;rcases hm:ZR S t.1 with _|n
 ·rw[hm]at hg hO;simp only[ZLv,ZA7]at hg hO⊢;have hst:YI (YG Jj Kx S) [X.str t.1] [D.x (X.int .i64 1)]=YG Jj Kx (JE S t.1 (0+1)):=ZKd S t.1 1;refine ZJ.mcallsX (fC 155 true ?_) (by first|decide|(simp;done)) hO (by first|rfl|exact hR);intro C0 E0;have uu:=ξ8 @KH.eq_1 @KH.eq_2 @ZC9.eq_1 @ZC9.eq_2 hg hst hla @ZN1;have tT:=ZMM;refine nz ?_;refine rg tT [2,3,4] ?_;refine rg tT [2,3,6] ?_;refine rg tT [6] ?_;refine rg tT [5] ?_;refine lf ?_;refine⟨?_,_,rfl⟩;clear uu;grind
 ·rw[hm]at hg hO hs;simp only[QG,Yd]at hg hO hs⊢;have hst:=ZKd S t.1 (n+1);refine ZJ.mcallsX (fC 155 true ?_) (by first|decide|(simp;done)) hO (by first|rfl|exact hR);intro C0 E0;have uu:=ξ8 @KH.eq_1 @KH.eq_2 @ZC9.eq_1 @ZC9.eq_2 hg hst hla @ZN1;have tT:=ZMM;refine nz ?_;refine rg tT [2,3,4] ?_;refine rg tT [2,3,6] ?_;refine rg tT [6] ?_;refine rg tT [5] ?_;refine lf ?_;refine⟨?_,_,rfl⟩;clear uu;grind
def w4T:List D→List Ob→Option (Bool×D×List Ob)
 | [.agg [.x (.str n),.x (.int .i64 k),.x (.bool b)],.agg [.x (.str nm),.x (.sl R)],.ptr 0 0],[.box [.mref 1],.mpo .str false P1]=>(Qn ZB (ZAc .i64) P1).bind fun S=>(ZZ ZB R).bind fun l=>some (decide ((0≤snG S n∧snG S n≤1000000)∧l.length≤1000000),.x (.int .i64 (w4 S (n,k,b,()) (nm,l,()))),[.box [.mref 1],.mpo .str false (YG Jj Kx (snS S n))])
 |_,_=>none
theorem ZZj: ∀args os r os',w4T args os=some (true,r,os')→ZN Tryz.prog 155 args os r os':=by
 intro args os r os' h;unfold w4T at h;split at h
 ·rename_i n k b nm R P1;obtain⟨S,hm0,h⟩:=Zt h;obtain⟨l,hr0,h⟩:=Zt h;simp only[Za,Zb,ZQ,Zg,true_and]at h;obtain⟨h1,rfl,rfl⟩:=h;rw[JO ZO (Qx .i64) hm0];rw[←ZY ZO hr0];exact Zbu S (n,k,b,()) (nm,l,()) h1.1 h1.2
 ·cases h
def ZHU(e:ZCP):D:= .agg [.x (.str e.1),.x (.sl (rows Zi e.2.1))]
def goA(g:Zn→ZX→Int)(L:List (Tx×Zn)):List ZX→Int
 | []=>0
 |a::l=>if g (tyV L (ZE a.1)) a≠0 then g (tyV L (ZE a.1)) a else goA g L l
theorem ZOw(l:List ZX)(j:Nat)(h:j<l.length):(rows Zi l)[j]? =some [X.str (l.getD j ([],[],())).1,X.sl (rows ZB (l.getD j ([],[],())).2.1)]:=by
 simp[rows,h,Zi,Yl,ZB,rSl,QY]
theorem ZMe{α:Type}(l:List α)(z:α)(j:Nat)(h:j<l.length):l.drop j=l.getD j z::l.drop (j+1):=by
 rw[ZEc h];simp[h]
theorem ZU4(L:List (Tx×Zn))(M:List (Tx×YA))(e:ZCP)(f:FuncId)(g:Zn→ZX→Int)(hen:Enters Tryz.prog f)(hg: ∀t,∀a∈e.2.1,ZC Tryz.prog f [tyD t,atD a] (.x (.int .i64 (g t a))))(hl:e.2.1.length≤1000000)(hn: ∀a∈e.2.1,a.1.length≤1000000):
  ZN Tryz.prog 158 [.ptr 0 0,ZHU e,.fn f []] (scO L M) (.x (.int .i64 (goA g L e.2.1))) (scO L M):=by
 obtain⟨dn,l,u⟩:=e;simp only at hg hl hn⊢;have hO:=ZAX L M;have h1:=ZIt L;have h2:=ZIq M;unfold ZHU;refine ZJ.mcallsX (fC 158 true ?_) (by first|decide|(simp;done)) hO (by first|rfl|exact hR);intro C0 E0;have uu:=Qy @ZAU.eq_1 @ZAU.eq_2 h1 h2 @ZEb @ZEr @ZEl @ZEk (ξ7 @ZAO @ZAW @ZIk @ZIs @ZIw @ZIh @ZW8);refine WI.seq ?_;refine WI.regB QQ [0,2,4] ?_;refine oG ?_;refine oS ?_;refine oN ?_;refine ZD ?_;refine WI.seq ?_;refine WI.seq ?_;refine WI.regB QQ [0,2,13,14,15] ?_;refine oS ?_
 iterate 2 refine oG ?_
 refine oS ?_;refine oN ?_;refine ZD ?_;refine WI.block ?_;refine WI.dropT (scO L M) _ rfl (by simp) hO (by simp[D.inP,YR]) ?_;refine WI.orderA [0,2,13,14,15] ?_;refine WI.loop (fun φ os=> ∃(i:Nat),φ= [(0,.ptr 0 0),(2,.fn f []),(13,.x (.sl (rows Zi l))),(14,.x (.int .i64 l.length)),(15,.x (.int .i64 i))]∧os=scO L M∧i≤l.length∧goA g L (l.drop i)=goA g L l) (ZV l.length 15) ?_ (fun φ os hI=> ?_)
 ·exact⟨0,rfl,rfl,by omega,rfl⟩
 ·obtain⟨i,rfl,rfl,hi,hgo⟩:=hI;refine WI.seq ?_;refine WI.regB QQ [0,2,13,14,15,16] ?_;refine oG ?_;refine oN ?_;refine ZD ?_;refine WI.seq ?_;refine WI.cond (b:=_) rfl rfl (fun h0=> ?_) (fun h0=> ?_)
  ·try simp only[zB]at h0
   refine WI.skip ?_;refine ZD ?_;refine WI.seq ?_;refine WI.block ?_;refine WI.seq ?_;have hi4:i<l.length:=by omega
   have hrw:=ZOw l i hi4;have hdr:=ZMe l ([],[],()) i hi4;have hma:l.getD i ([],[],())∈l:=by rw[show l.getD i ([],[],())=l[i] by simp[hi4]];exact YY hi4
   generalize l.getD i ([],[],())=a at hrw hdr hma;have hna:=hn a hma;have hga:=hg (tyV L (ZE a.1)) a hma;rw[hdr,goA]at hgo;obtain⟨t,ht⟩: ∃t,t=tyV L (ZE a.1):=⟨_,rfl⟩;rw[←ht]at hga hgo;have hmc:ZN Tryz.prog f [.agg [.x (.str t.1),.x (.int .i64 t.2.1),.x (.bool t.2.2.1)],.agg [.x (.str a.1),.x (.sl (rows ZB a.2.1))]] [.box [.mref 1,.mref 2],.mpo .str true (tyM L),.mpo .str true (clM M),.box [.x (.str a.1),.x (.sl (rows ZB a.2.1))],.box [.x (.str t.1),.x (.int .i64 t.2.1),.x (.bool t.2.2.1)]] (.x (.int .i64 (g t a))) [.box [.mref 1,.mref 2],.mpo .str true (tyM L),.mpo .str true (clM M),.box [.x (.str a.1),.x (.sl (rows ZB a.2.1))],.box [.x (.str t.1),.x (.int .i64 t.2.1),.x (.bool t.2.2.1)]]:=ZC.mc hga _;have uu:=ξ4 uu hrw ht.symm @tyD.eq_1;refine WI.regB QQ [0,2,8,13,14,15] ?_
   iterate 4 refine oG ?_
   refine oN ?_;refine ZD ?_;refine WI.seq ?_;refine WI.dregB QQ [0,2,8,9,13,14,15] ?_
   iterate 5 refine Yo ?_
   refine dQG ?_;refine dQC ?_;refine Yo ?_
   iterate 2 refine dFG ?_
   refine dKG ?_;refine dAG ?_;refine Yo ?_;refine dN ?_;refine ZD ?_;refine WI.seq ?_;refine WI.regB (ZDH ZF hen hmc) [0,2,11,13,14,15] ?_;refine oS ?_
   iterate 2 refine oG ?_
   refine oC ?_;refine oS ?_;refine oN ?_;refine ZD ?_;refine WI.seq ?_;refine WI.post ?_;refine WI.regB QQ [0,2,11,13,14,15,34] ?_;refine oS ?_;refine oG ?_;refine oP ?_;refine ZJ6 (scO L M) _ rfl (by simp) hO (by simp[D.inP,YR]) ?_;refine QW ?_;refine ZD ?_;refine WI.cond (b:=_) rfl rfl (fun h1=> ?_) (fun h1=> ?_)
   ·try simp only[zB]at h1
    refine WI.seq ?_;refine WI.regB QQ [6] ?_
    iterate 2 refine oS ?_
    refine oN ?_;refine ZD ?_;refine WI.ret ?_;refine ZAK ?_;refine KZ ?_;refine KZ ?_;refine ZAK ?_;refine KZ ?_
    first|refine lfR ?_|refine ZIQ ?_|refine ZGc ?_|refine ZIU ?_
    refine⟨?_,_,rfl⟩;rw[←hgo,if_pos (by simpa using h1)]
   ·try simp only[zB]at h1
    rw[if_neg (by simpa using h1)]at hgo;have hgo2:=hgo;refine WI.skip ?_;refine Kj ?_;refine ZD ?_;refine WI.regB QQ [0,2,13,14,15] ?_;refine oG ?_;refine oS ?_;refine oN ?_;refine ZD ?_;exact⟨⟨i+1,rfl,rfl,by omega,hgo2⟩,by simp[ZV,Ab.get,D.val,ZG];omega⟩
  ·try simp only[zB]at h0
   refine WI.exit ?_;refine Jt ?_;refine Jt ?_;refine ZBE ?_;refine ZD ?_;refine WI.seq ?_;refine WI.regB QQ [6] ?_;refine oS ?_;refine oN ?_;refine ZD ?_;refine WI.ret ?_
   first|refine lfR ?_|refine ZIQ ?_|refine ZGc ?_|refine ZIU ?_
   rw[ZED (by omega)]at hgo;refine⟨?_,[],by simp⟩;rw[←hgo];rfl
end Go.Proofs.YtiogclkbccdefaaGreatDoor
end
section
namespace Go.Proofs.YtiogclkbccdefaaGreatDoor
open Go.RowKit Go.Bo Go.Ab
def goS(L:List (Tx×Zn)):Sn→List ZX→Int×Sn
 |S,[]=>(0,S)
 |S,a::l=>if w4 S (tyV L (ZE a.1)) a≠0 then(w4 S (tyV L (ZE a.1)) a,snS S (tyV L (ZE a.1)).1)else goS L (snS S (tyV L (ZE a.1)).1) l
abbrev sc5(L:List (Tx×Zn))(M:List (Tx×YA))(S:Sn):List Ob:= [.box [.mref 1,.mref 2],.mpo .str true (tyM L),.mpo .str true (clM M),.box [.mref 4],.mpo .str false (YG Jj Kx S)]
theorem ZLU(L:List (Tx×Zn))(M:List (Tx×YA))(S:Sn):(sc5 L M S).all (Ob.inP (fun i=>decide (i<(sc5 L M S).length)))=true:=by
 simp[Ob.inP,YR,D.inP,ZAO,ZAW,Kk]
theorem ZKx(S:Sn)(k:Tx)(v:Int)(k':Tx):ZR (JE S k v) k'=if k'=k then some v else ZR S k':=by
 induction S with
 |nil=>by_cases h:k'=k<;>simp[JE,ZR,h]
 |cons p S ih=>
  by_cases h1:k=p.1
  ·subst h1;by_cases h:k'=p.1<;>simp[JE,ZR,h]
  ·by_cases h:k'=p.1
   ·have hne: ¬p.1=k:=fun e=>h1 e.symm
    subst h;simp[JE,ZR,h1,hne]
   ·simp only[JE,ZR,h1,h,if_false,List.find?_cons,decide_false]at ih⊢;exact ih
theorem ZYP(S:Sn)(k k':Tx):snG (snS S k) k'=if k'=k then snG S k+1 else snG S k':=by
 unfold snG snS;rw[ZKx];split<;>rfl
theorem ZXO(S:Sn):Qn ZB (ZAc .i64) (YG Jj Kx S)=some S:=ZRX ZO (Qx .i64) S
def ZDF:Tabs:=Jp (ZJe (ZS) 74 ZAU) 155 w4T
theorem ZUI:SsOk Tryz.prog ZDF:=Yx (ZIa (ZF) (Zc 74) ZMf) (Zc 155) ZZj
theorem ZU7:(∀a,ZDF.q 74 a=none)∧(∀a o,ZDF.t 74 a o=(Qd ZAU a o).map fun r=>(r.1,r.2,o))∧(∀a o,ZDF.r 74 a o=Qd ZAU a o)∧(∀a,ZDF.q 155 a=none)∧(∀a o,ZDF.t 155 a o=Ye w4T a o)∧(∀a o,ZDF.r 155 a o=none)∧(∀f a o,ZDF.k f a o=none):=⟨fun _=>rfl,fun _ _=>rfl,fun _ _=>rfl,fun _=>rfl,fun _ _=>rfl,fun _ _=>rfl,fun _ _ _=>rfl⟩
theorem ZWg(L:List (Tx×Zn))(M:List (Tx×YA))(e:ZCP)(S0:Sn)(hS0: ∀k,0≤snG S0 k∧snG S0 k≤1)(hl:e.2.1.length≤1000000)(hn: ∀a∈e.2.1,a.1.length≤1000000∧a.2.1.length≤1000000):
  ZN Tryz.prog 158 [.ptr 0 0,ZHU e,.fn 155 [.ptr 3 0]] (sc5 L M S0) (.x (.int .i64 (goS L S0 e.2.1).1)) (sc5 L M (goS L S0 e.2.1).2):=by
 obtain⟨dn,l,u⟩:=e;simp only at hl hn⊢;have hO:=ZLU L M (goS L S0 l).2;have h1:=ZIt L;have h2:=ZIq M;unfold ZHU;refine ZJ.mcallsX (fC 158 true ?_) (by first|decide|(simp;done)) hO (by first|rfl|exact hR);intro C0 E0;have uu:=Qy @ZAU.eq_1 @ZAU.eq_2 @w4T.eq_1 @w4T.eq_2 h1 h2 @ZXO @ZEb (Qy @ZEr @ZEl @ZEk @ZAO @ZAW @QA @ZAo @Kk @ZU7);have tT:=ZUI;refine nz ?_;refine rg tT [0,2,4] ?_;refine rg tT [0,2,13,14,15] ?_;refine WI.dropT (sc5 L M S0) _ rfl (by simp) (ZLU L M S0) (by simp[D.inP,YR]) ?_;refine WI.orderA [0,2,13,14,15] ?_;refine WI.loop (fun φ os=> ∃(i:Nat) (S:Sn),φ= [(0,.ptr 0 0),(2,.fn 155 [.ptr 3 0]),(13,.x (.sl (rows Zi l))),(14,.x (.int .i64 l.length)),(15,.x (.int .i64 i))]∧os=sc5 L M S∧i≤l.length∧(∀k,0≤snG S k∧snG S k≤1)∧goS L S (l.drop i)=goS L S0 l) (ZV l.length 15) ?_ (fun φ os hI=> ?_)
 ·exact⟨0,S0,rfl,rfl,by omega,hS0,rfl⟩
 ·obtain⟨i,S,rfl,rfl,hi,hSi,hgo⟩:=hI;refine nz ?_;refine rg tT [0,2,13,14,15,16] ?_;refine cd (fun h0=> ?_) (fun h0=> ?_)
  ·have hi4:i<l.length:=by omega
   have hrw:=ZOw l i hi4;have hdr:=ZMe l ([],[],()) i hi4;have hma:l.getD i ([],[],())∈l:=by rw[show l.getD i ([],[],())=l[i] by simp[hi4]];exact YY hi4
   generalize l.getD i ([],[],())=a at hrw hdr hma;obtain⟨hna,hna2⟩:=hn a hma;rw[hdr,goS]at hgo;obtain⟨t,ht⟩: ∃t,t=tyV L (ZE a.1):=⟨_,rfl⟩;rw[←ht]at hgo;have hdd:decide ((0≤snG S t.1∧snG S t.1≤1000000)∧a.2.1.length≤1000000)=true:=Zd ⟨⟨(hSi t.1).1,by have:=(hSi t.1).2;omega⟩,hna2⟩;obtain⟨tn,tk,tb,tu⟩:=t;obtain⟨an,al,au⟩:=a;have uu:=ξ5 uu hrw ht.symm (@tyD.eq_1) hdd;refine rg tT [0,2,8,13,14,15] ?_;refine WI.dregB tT [0,2,8,9,13,14,15] ?_
   iterate 5 refine Yo ?_
   refine dQG ?_;refine dQC ?_;refine Yo ?_
   iterate 2 refine dFG ?_
   refine dKG ?_;refine dAG ?_;refine Yo ?_;refine dN ?_;refine nz ?_;refine rg tT [0,2,11,13,14,15] ?_;refine WI.post ?_;refine WI.regB tT [0,2,11,13,14,15,34] ?_;refine oS ?_;refine oG ?_;refine oP ?_;refine ZJ6 (sc5 L M (snS S tn)) _ rfl (by simp) (ZLU L M _) (by simp[D.inP,YR]) ?_;refine QW ?_;refine nz ?_;refine cd (fun h1=> ?_) (fun h1=> ?_)
   ·refine rg tT [6] ?_;refine lf ?_;rw[if_pos (by simpa using h1)]at hgo;rw[←hgo];exact⟨rfl,_,rfl⟩
   ·rw[if_neg (by simpa using h1)]at hgo;have hgo2:=hgo;have hw0:w4 S (tn,tk,tb,tu) (an,al,au)=0:=by simpa using h1
    have hSn: ∀k,0≤snG (snS S tn) k∧snG (snS S tn) k≤1:=fun k=>by
     rw[ZYP];have hz: ¬0<snG S tn:=fun hh=>by unfold w4 at hw0;rw[if_pos (.inl hh)]at hw0;simp at hw0
     have:=hSi k;have:=hSi tn;split<;>omega
    refine rg tT [0,2,13,14,15] ?_;exact⟨⟨i+1,_,rfl,rfl,by omega,hSn,hgo2⟩,by simp[ZV,Ab.get,D.val,ZG];omega⟩
  ·refine rg tT [6] ?_;refine lf ?_;rw[ZED (by omega)]at hgo;rw[←hgo];exact⟨rfl,[],by simp[goS]⟩
end Go.Proofs.YtiogclkbccdefaaGreatDoor
end
section
namespace Go.Proofs.YtiogclkbccdefaaGreatDoor
open Go.RowKit Go.Bo Go.Ab
def smA(l:List ZX):Prop:=l.length≤1000000∧ ∀a∈l,a.1.length≤1000000∧a.2.1.length≤1000000
instance (l:List ZX):Decidable (smA l):=by unfold smA;infer_instance
def ZER(g:Zn→ZX→Int)(dn:Tx)(A:List (List X))(P1 P2:List Pr):Option (Bool×D×List Ob):=
 (Qn ZB YU P1).bind fun L=>(Qn ZB Ka P2).bind fun M=>(ZZ Zi A).bind fun l=>some (decide (smA l),.x (.int .i64 (goA g L l)),scO L M)
def ZNn(dn:Tx)(A:List (List X))(P1 P2 P3:List Pr):Option (Bool×D×List Ob):=
 (Qn ZB YU P1).bind fun L=>(Qn ZB Ka P2).bind fun M=>(Qn ZB (ZAc .i64) P3).bind fun S=>(ZZ Zi A).bind fun l=>some (decide (smA l)&&decide (S.length=0),.x (.int .i64 (goS L S l).1),sc5 L M (goS L S l).2)
def ZBg:List D→List Ob→Option (Bool×D×List Ob)
 | [.ptr 0 0,.agg [.x (.str dn),.x (.sl A)],.fn 151 []],[.box [.mref 1,.mref 2],.mpo .str true P1,.mpo .str true P2]=>ZER w1 dn A P1 P2
 | [.ptr 0 0,.agg [.x (.str dn),.x (.sl A)],.fn 152 []],[.box [.mref 1,.mref 2],.mpo .str true P1,.mpo .str true P2]=>ZER w2 dn A P1 P2
 | [.ptr 0 0,.agg [.x (.str dn),.x (.sl A)],.fn 153 []],[.box [.mref 1,.mref 2],.mpo .str true P1,.mpo .str true P2]=>ZER w3 dn A P1 P2
 | [.ptr 0 0,.agg [.x (.str dn),.x (.sl A)],.fn 155 [.ptr 3 0]],[.box [.mref 1,.mref 2],.mpo .str true P1,.mpo .str true P2,.box [.mref 4],.mpo .str false P3]=>ZNn dn A P1 P2 P3
 | [.ptr 0 0,.agg [.x (.str dn),.x (.sl A)],.fn 157 []],[.box [.mref 1,.mref 2],.mpo .str true P1,.mpo .str true P2]=>ZER w5 dn A P1 P2
 |_,_=>none
theorem ZSo:Enters Tryz.prog 151:=Zc 151
theorem ZUU:Enters Tryz.prog 152:=Zc 152
theorem ZUR:Enters Tryz.prog 153:=Zc 153
theorem ZTt:Enters Tryz.prog 157:=Zc 157
theorem ZFF{f:FuncId}{g:Zn→ZX→Int}(hen:Enters Tryz.prog f)(hg: ∀t (a:ZX),a.2.1.length≤1000000→ZC Tryz.prog f [tyD t,atD a] (.x (.int .i64 (g t a)))){dn:Tx}{A:List (List X)}{P1 P2:List Pr}{r:D}{os':List Ob}(h:ZER g dn A P1 P2=some (true,r,os')):
  ZN Tryz.prog 158 [.ptr 0 0,.agg [.x (.str dn),.x (.sl A)],.fn f []] [.box [.mref 1,.mref 2],.mpo .str true P1,.mpo .str true P2] r os':=by
 unfold ZER at h;obtain⟨L,k1,h⟩:=Zt h;obtain⟨M,k2,h⟩:=Zt h;obtain⟨l,k3,h⟩:=Zt h;simp only[Za,Zb,Zg]at h;obtain⟨⟨hl,hn⟩,rfl,rfl⟩:=h;rw[JO ZO JR k1,JO ZO KD k2,←ZY YV k3];exact ZU4 L M (dn,l,()) f g hen (fun t a ha=>hg t a (hn a ha).2) hl (fun a ha=>(hn a ha).1)
theorem ZTe: ∀args os r os',ZBg args os=some (true,r,os')→ZN Tryz.prog 158 args os r os':=by
 intro args os r os' h;unfold ZBg at h;split at h
 ·exact ZFF ZSo (fun t a _=>Zbr t a) h
 ·exact ZFF ZUU (fun t a _=>Zbs t a) h
 ·exact ZFF ZUR (fun t a hl=>Zbm t a hl) h
 ·unfold ZNn at h;obtain⟨L,k1,h⟩:=Zt h;obtain⟨M,k2,h⟩:=Zt h;obtain⟨S,k4,h⟩:=Zt h;obtain⟨l,k3,h⟩:=Zt h;simp only[Za,Zb,ZQ,Zg]at h;obtain⟨⟨⟨hl,hn⟩,hS⟩,rfl,rfl⟩:=h;rw[JO ZO JR k1,JO ZO KD k2,JO ZO (Qx .i64) k4,←ZY YV k3];obtain rfl:=ξO hS;exact ZWg L M (_,l,()) [] (fun k=>by simp[snG,ZR]) hl hn
 ·exact ZFF ZTt (fun t a _=>Zbj t a) h
 ·cases h
def ZIp(L:List (Tx×Zn))(l:List ZX):Int:=
 if goA w1 L l≠0 then goA w1 L l else if goA w2 L l≠0 then goA w2 L l else if goA w3 L l≠0 then goA w3 L l else if(goS L [] l).1≠0 then(goS L [] l).1 else goA w5 L l
theorem ZXN(l:List ZX):ZZ Zi (rows Zi l)=some l:=Zv YV l
def ZIX:Tabs:=Jp (ZS) 158 ZBg
theorem ZTU:SsOk Tryz.prog ZIX:=Yx (ZF) (Zc 158) ZTe
theorem ZWY:(∀a,ZIX.q 158 a=none)∧(∀a o,ZIX.t 158 a o=Ye ZBg a o)∧(∀f a o,ZIX.r f a o=none)∧(∀f a o,ZIX.k f a o=none):=⟨fun _=>rfl,fun _ _=>rfl,fun _ _ _=>rfl,fun _ _ _=>rfl⟩
theorem ZW7(L:List (Tx×Zn))(M:List (Tx×YA))(e:ZCP)(he:smA e.2.1):ZN Tryz.prog 118 [.ptr 0 0,ZHU e] (scO L M) (.x (.int .i64 (ZIp L e.2.1))) (scO L M):=by
 obtain⟨dn,l,u⟩:=e;simp only at he⊢;have hsm:=Zd he;have hO:=ZAX L M;have h1:=ZIt L;have h2:=ZIq M;have h3:Qn ZB (ZAc .i64) []=some []:=rfl;rcases hv:ZIp L l with v
 unfold ZIp at hv;unfold ZHU;refine ZJ.mcallsX (fC 118 true ?_) (by first|decide|(simp;done)) hO (by first|rfl|exact hR);intro C0 E0;have uu:=Qy @ZBg.eq_1 @ZBg.eq_2 @ZBg.eq_3 @ZBg.eq_4 @ZBg.eq_5 @ZBg.eq_6 @ZER.eq_1 @ZNn.eq_1 (Qy h1 h2 h3 @ZXO @ZXN hsm @ZEb @ZEr (ξ8 @ZEl @ZEk @ZAO @ZAW @QA @ZAo @Kk @ZWY));have tT:=ZTU;refine nz ?_;refine rg tT [0,3] ?_;refine rg tT [0,3,5] ?_;refine rg tT [0,3,11,12] ?_;refine WI.loopN 6 ?_;refine WI.round ?_;refine nz ?_;refine rg tT [0,3,11,12,13] ?_;refine ct (fun h0=> ?_) (fun h0=> ?_)
 ·refine rg tT [0,3,7,11,12] ?_;refine rg tT [0,3,8,11,12] ?_;refine rg tT [0,3,8,11,12,20] ?_;refine cd (fun h1=> ?_) (fun h1=> ?_)
  ·refine rg tT [4] ?_;refine lf ?_;refine⟨?_,_,rfl⟩;clear uu;grind
  ·refine rg tT [0,3,11,12] ?_;refine WI.round ?_;refine nz ?_;refine rg tT [0,3,11,12,13] ?_;refine ct (fun h0=> ?_) (fun h0=> ?_)
   ·refine rg tT [0,3,7,11,12] ?_;refine rg tT [0,3,8,11,12] ?_;refine rg tT [0,3,8,11,12,20] ?_;refine cd (fun h1=> ?_) (fun h1=> ?_)
    ·refine rg tT [4] ?_;refine lf ?_;refine⟨?_,_,rfl⟩;clear uu;grind
    ·refine rg tT [0,3,11,12] ?_;refine WI.round ?_;refine nz ?_;refine rg tT [0,3,11,12,13] ?_;refine ct (fun h0=> ?_) (fun h0=> ?_)
     ·refine rg tT [0,3,7,11,12] ?_;refine rg tT [0,3,8,11,12] ?_;refine rg tT [0,3,8,11,12,20] ?_;refine cd (fun h1=> ?_) (fun h1=> ?_)
      ·refine rg tT [4] ?_;refine lf ?_;refine⟨?_,_,rfl⟩;clear uu;grind
      ·refine rg tT [0,3,11,12] ?_;refine WI.round ?_;refine nz ?_;refine rg tT [0,3,11,12,13] ?_;refine ct (fun h0=> ?_) (fun h0=> ?_)
       ·refine rg tT [0,3,7,11,12] ?_;refine rg tT [0,3,8,11,12] ?_;refine rg tT [0,3,8,11,12,20] ?_;refine cd (fun h1=> ?_) (fun h1=> ?_)
        ·refine rg tT [4] ?_;refine lf ?_;refine⟨?_,_,rfl⟩;clear uu;grind
        ·refine rg tT [0,3,11,12] ?_;refine WI.round ?_;refine nz ?_;refine rg tT [0,3,11,12,13] ?_;refine ct (fun h0=> ?_) (fun h0=> ?_)
         ·refine rg tT [0,3,7,11,12] ?_;refine rg tT [0,3,8,11,12] ?_;refine rg tT [0,3,8,11,12,20] ?_;refine cd (fun h1=> ?_) (fun h1=> ?_)
          ·refine rg tT [4] ?_;refine lf ?_;refine⟨?_,_,rfl⟩;clear uu;grind
          ·refine rg tT [0,3,11,12] ?_;refine WI.round ?_;refine nz ?_;refine rg tT [0,3,11,12,13] ?_;refine ce (fun h0=> ?_) (fun h0=> ?_)
           ·exact absurd h0 (by decide)
           ·refine rg tT [4] ?_;refine lf ?_;refine⟨?_,_,rfl⟩;clear uu;grind
         ·exact absurd h0 (by decide)
       ·exact absurd h0 (by decide)
     ·exact absurd h0 (by decide)
   ·exact absurd h0 (by decide)
 ·exact absurd h0 (by decide)
def ZD1:List D→List Ob→Option (Bool×D×List Ob)
 | [.ptr 0 0,.agg [.x (.str dn),.x (.sl R)]],[.box [.mref 1,.mref 2],.mpo .str true P1,.mpo .str true P2]=>(Qn ZB YU P1).bind fun L=>(Qn ZB Ka P2).bind fun M=>(ZZ Zi R).bind fun l=>some (decide (smA l),.x (.int .i64 (ZIp L l)),[.box [.mref 1,.mref 2],.mpo .str true (tyM L),.mpo .str true (clM M)])
 |_,_=>none
theorem ZRS: ∀args os r os',ZD1 args os=some (true,r,os')→ZN Tryz.prog 118 args os r os':=by
 intro args os r os' h;unfold ZD1 at h;split at h
 ·rename_i dn R P1 P2;obtain⟨L,hm0,h⟩:=Zt h;obtain⟨M,hm1,h⟩:=Zt h;obtain⟨l,hr0,h⟩:=Zt h;simp only[Za,Zb,ZQ,Zg,true_and]at h;obtain⟨h1,rfl,rfl⟩:=h;rw[JO ZO JR hm0];rw[JO ZO KD hm1];rw[←ZY YV hr0];exact ZW7 L M (dn,l,()) h1
 ·cases h
def OC:Tx:= [111,98,106,101,99,116,99,108,97,115,115]
def snL(l:List Tx):Sn:=l.foldl snS []
theorem ZJP(l:List Tx)(k:Tx):snL (l++ [k])=snS (snL l) k:=by unfold snL;rw[ZRU];rfl
theorem ZEq(l:List Tx)(k:Tx):ZR (snL l) k=if k∈l then some (l.count k:Int)else none:=by
 suffices h: ∀(n:Nat) (l:List Tx),l.length=n→ZR (snL l) k=if k∈l then some (l.count k:Int)else none from h _ l rfl
 intro n
 induction n with
 |zero=>intro l hl;obtain rfl:=ξO hl;rfl
 |succ n ihn=>
  intro l hl;rcases List.eq_nil_or_concat l with rfl|⟨l0,x,rfl⟩
  ·simp at hl
  have ih:=ihn l0 (by simpa using hl);rw[List.concat_eq_append,ZJP];unfold snS;rw[ZKx];by_cases h:k=x
  ·subst h;rw[if_pos rfl,if_pos (by simp)];unfold snG;rw[ih,List.count_append];by_cases hk:k∈l0
   ·rw[if_pos hk];simp
   ·rw[if_neg hk,List.count_eq_zero_of_not_mem hk];simp
  ·rw[if_neg h,ih,List.count_append];have hx: ¬x=k:=fun e=>h e.symm
   by_cases hk:k∈l0
   ·rw[if_pos hk,if_pos (by simp[hk])];simp[hx]
   ·rw[if_neg hk,if_neg (by simp[hk,h])]
abbrev snM(l:List Tx):List Pr:=YG Jj Kx (snL l)
theorem ZCu{l:List Tx}{k:Tx}(h:k∈l):JB (snM l) [X.str k]=some [D.x (X.int .i64 (l.count k))]:=by
 rw[ZNY,ZEq,if_pos h];rfl
theorem ZEh{l:List Tx}{k:Tx}(h:k∉l):JB (snM l) [X.str k]=none:=by
 rw[ZNY,ZEq,if_neg h];rfl
theorem ZO3{l:List Tx}{k:Tx}(h:k∈l):YI (snM l) [X.str k] [D.x (X.int .i64 ((l.count k:Int)+1))]=snM (l++ [k]):=by
 rw[ZKd];unfold snM;rw[ZJP];unfold snS snG;rw[ZEq,if_pos h];rfl
theorem ZFu{l:List Tx}{k:Tx}(h:k∉l):YI (snM l) [X.str k] [D.x (X.int .i64 1)]=snM (l++ [k]):=by
 rw[ZKd];unfold snM;rw[ZJP];unfold snS snG;rw[ZEq,if_neg h];rfl
theorem ZND(l:List Tx)(k:Tx):k∈l↔ ∃n,(k,n)∈snL l:=by
 have key: ∀(S:Sn) (k:Tx),(ZR S k).isSome=true↔ ∃n,(k,n)∈S:=by
  intro S k
  induction S with
  |nil=>simp[ZR]
  |cons p S ih=>
   by_cases h:k=p.1
   ·subst h;simp[ZR];exact⟨p.2,.inl rfl⟩
   ·have e:ZR (p::S) k=ZR S k:=by simp[ZR,h]
    rw[e,ih];constructor
    ·rintro⟨n,hn⟩;exact⟨n,ZIL _ hn⟩
    ·rintro⟨n,hn⟩;rcases QI.1 hn with hh|hh
     ·exact absurd (congrArg Prod.fst hh) h
     ·exact⟨n,hh⟩
 rw[←key,ZEq];split<;>simp_all
def ZCB(l:List ZX):List Tx:=l.map fun a=>ZE a.1
def ZFT(l:List ZX):List Tx:=l.foldl (fun c a=>if ZE a.1=OC then a.2.1 else c) []
def ZFQ(M:List (Tx×YA))(cs:List Tx):List Tx:=cs.flatMap fun n=>(clV M (ZE n)).2.1++(clV M (ZE n)).2.2.1
def ZH6(M:List (Tx×YA))(H:List Tx)(n:Tx):Bool:=(ZR M (ZE n)).isSome&&(clV M (ZE n)).2.1.all fun x=>decide (x∈H)
def ZRV(L:List (Tx×Zn))(M:List (Tx×YA))(l:List ZX):Int:=
 if ZIp L l≠0 then ZIp L l
 else if((ZFT l).all (ZH6 M (ZCB l))&&((ZCB l).all (fun h=>decide (h∈OC::ZFQ M (ZFT l)))&&decide (ZFT l≠ [])))=true then 0 else 65
theorem ZTq(l:List ZX)(i:Nat)(h:i<l.length):ZCB (l.take (i+1))=ZCB (l.take i)++ [ZE (l.getD i ([],[],())).1]:=by
 unfold ZCB;rw[KT h,Jq];simp[h]
theorem ZTi(l:List ZX)(i:Nat)(h:i<l.length):ZFT (l.take (i+1))=if ZE (l.getD i ([],[],())).1=OC then(l.getD i ([],[],())).2.1 else ZFT (l.take i):=by
 unfold ZFT;rw[KT h,ZRU];simp[h]
theorem ZYn{l:List ZX}(h:smA l)(hv: ∀a∈l,∀v∈a.2.1,v.length≤1000000):(ZFT l).length≤1000000∧ ∀v∈ZFT l,v.length≤1000000:=by
 have key: ∀(m:List ZX) (c:List Tx),(∀a∈m,a∈l)→(c.length≤1000000∧ ∀v∈c,v.length≤1000000)→(m.foldl (fun c a=>if ZE a.1=OC then a.2.1 else c) c).length≤1000000∧ ∀v∈m.foldl (fun c a=>if ZE a.1=OC then a.2.1 else c) c,v.length≤1000000:=by
  intro m
  induction m with
  |nil=>intro c _ hc;exact hc
  |cons a m ih=>
   intro c hm hc;rw[ZLf];refine ih _ (fun x hx=>hm x (ZIL _ hx)) ?_;split
   ·exact⟨(h.2 a (hm a ZDa)).2,hv a (hm a ZDa)⟩
   ·exact hc
 exact key l [] (fun _ h=>h) (by simp)
def bdC(M:List (Tx×YA)):Prop:= ∀k,(clV M k).2.1.length≤1000000∧(clV M k).2.2.1.length≤1000000
theorem ZTx(M:List (Tx×YA))(cs:List Tx)(i:Nat)(h:i<cs.length):ZFQ M (cs.take (i+1))=ZFQ M (cs.take i)++((clV M (ZE (cs.getD i []))).2.1++(clV M (ZE (cs.getD i []))).2.2.1):=by
 unfold ZFQ;rw[KT h,List.flatMap_append];simp[h]
theorem ZNu{M:List (Tx×YA)}(hM:bdC M): ∀cs:List Tx,(ZFQ M cs).length≤cs.length*2000000
 | []=>by simp[ZFQ]
 |n::cs=>by
  have:=ZNu hM cs;have:=hM (ZE n);unfold ZFQ at*;rw[ZOx,Zw,Zw,Jh];omega
end Go.Proofs.YtiogclkbccdefaaGreatDoor
end
section
namespace Go.Proofs.YtiogclkbccdefaaGreatDoor
open Go.RowKit Go.Bo Go.Ab
def ZCH:Tabs:=ZU (ZU (Jp (Jp (ZS) 118 ZD1) 119 ZGF) 63 Zk) 120 KH
theorem ZUa:SsOk Tryz.prog ZCH:=ZH (ZH (Yx (Yx (ZF) (Zc 118) ZRS) (Zc 119) ZTs) (Zc 63) QR) (Zc 120) ZJS
theorem ZVB:(∀a,ZCH.q 118 a=none)∧(∀a o,ZCH.t 118 a o=Ye ZD1 a o)∧(∀a,ZCH.q 119 a=none)∧(∀a o,ZCH.t 119 a o=Ye ZGF a o)∧(∀a,ZCH.q 63 a=Zk a)∧(∀a,ZCH.q 120 a=KH a)∧(∀f a o,ZCH.r f a o=none)∧(∀f a o,ZCH.k f a o=none):=⟨fun _=>rfl,fun _ _=>rfl,fun _=>rfl,fun _ _=>rfl,fun _=>rfl,fun _=>rfl,fun _ _ _=>rfl,fun _ _ _=>rfl⟩
theorem ZRD{α:Type}{l:List α}{i:Nat}{q:α}(h:l[i]? =some q): ∀x,x∈l↔x=q∨x∈l.eraseIdx i:=by
 intro x;have hp:l.Perm (q::l.eraseIdx i):=by
  obtain⟨hi,he⟩:=ZP h;rw[List.eraseIdx_eq_take_drop_succ]
  conv=>lhs;rw[←ZDX i l,ZEc hi,he]
  exact List.perm_middle
 rw[hp.mem_iff,QI]
abbrev scE(L:List (Tx×Zn))(M:List (Tx×YA))(dn:Tx)(l:List ZX)(H:List Tx):List Ob:= [.box [.mref 1,.mref 2],.mpo .str true (tyM L),.mpo .str true (clM M),.box [.x (.str dn),.x (.sl (rows Zi l))],.mpo .str false (snM H)]
abbrev scF(L:List (Tx×Zn))(M:List (Tx×YA))(dn:Tx)(l:List ZX)(H Y:List Tx):List Ob:= [.box [.mref 1,.mref 2],.mpo .str true (tyM L),.mpo .str true (clM M),.box [.x (.str dn),.x (.sl (rows Zi l))],.mpo .str false (snM H),.mpo .str false (snM Y)]
theorem ZIb(L:List (Tx×Zn))(M:List (Tx×YA))(dn:Tx)(l:List ZX)(H:List Tx):(scE L M dn l H).all (Ob.inP (fun i=>decide (i<(scE L M dn l H).length)))=true:=by
 simp[Ob.inP,YR,D.inP,ZAO,ZAW,Kk]
theorem ZYN(L:List (Tx×Zn))(M:List (Tx×YA))(dn:Tx)(l:List ZX)(H Y:List Tx):(scF L M dn l H Y).all (Ob.inP (fun i=>decide (i<(scF L M dn l H Y).length)))=true:=by
 simp[Ob.inP,YR,D.inP,ZAO,ZAW,Kk]
abbrev scG(L:List (Tx×Zn))(M:List (Tx×YA))(dn:Tx)(l:List ZX)(H Y:List Tx)(c:YA):List Ob:= [.box [.mref 1,.mref 2],.mpo .str true (tyM L),.mpo .str true (clM M),.box [.x (.str dn),.x (.sl (rows Zi l))],.mpo .str false (snM H),.mpo .str false (snM Y),.box [.x (.str c.1),.x (.sl (rows ZB c.2.1)),.x (.sl (rows ZB c.2.2.1))]]
set_option maxHeartbeats 4000000 in
theorem ZXs(L:List (Tx×Zn))(M:List (Tx×YA))(e:ZCP)(he:smA e.2.1)(hv: ∀a∈e.2.1,∀v∈a.2.1,v.length≤1000000)(hM:bdC M):ZN Tryz.prog 78 [.ptr 0 0,ZHU e] (scO L M) (.x (.int .i64 (ZRV L M e.2.1))) (scO L M):=by
 obtain⟨dn,l,u⟩:=e;simp only at he hv⊢;have hsm:=Zd he;have hll:l.length≤1000000:=he.1;have hO:=ZAX L M;have h1':=ZIt L;have h2':=ZIq M;obtain⟨hcl,hcv⟩:=ZYn he hv;have hoc:(OC:Tx)= [111,98,106,101,99,116,99,108,97,115,115]:=rfl;have hns:YI [] [X.str [111,98,106,101,99,116,99,108,97,115,115]] [D.x (X.int .i64 1)]=snM [OC]:=by rfl
 rcases hres:ZRV L M l with v
 unfold ZRV at hres;unfold ZHU;refine ZJ.mcallsX (fC 78 true ?_) (by first|decide|(simp;done)) hO (by first|rfl|exact hR);intro C0 E0;have uu:=Qy @ZD1.eq_1 @ZD1.eq_2 @ZGF.eq_1 @ZGF.eq_2 @Zk.eq_1 @Zk.eq_2 @KH.eq_1 @KH.eq_2 (Qy @h1' @h2' @ZXN hsm hns @ZEb @ZEr @ZEl (ξ7 @ZEk @ZAO @ZAW @QA @ZAo @Kk @ZVB));have tT:=ZUa;refine nz ?_;refine rg tT [0,3] ?_;refine rg tT [0,3,22] ?_;refine ce (fun h0=> ?_) (fun h0=> ?_)
 ·simp at h0
 ·refine rg tT [0,3,5] ?_;refine rg tT [0,3,5,27] ?_;refine cd (fun h1=> ?_) (fun h1=> ?_)
  ·rw[if_pos (by simpa using h1)]at hres;refine rg tT [4] ?_;refine lf ?_;exact⟨by rw[hres],_,rfl⟩
  ·rw[if_neg (by simpa using h1)]at hres;refine rg tT [0,3,6] ?_;refine rg tT [0,3,6,7] ?_;refine rg tT [0,6,7,31,32,33] ?_;refine WI.nnA ?_;refine WI.orderA [0,6,7,31,32,33] ?_;refine WI.loop (fun φ os=> ∃(i:Nat),φ= [(0,.ptr 0 0),(6,.mref 4),(7,.x (.sl (rows ZB (ZFT (l.take i))))),(31,.x (.sl (rows Zi l))),(32,.x (.int .i64 l.length)),(33,.x (.int .i64 i))]∧os=scE L M dn l (ZCB (l.take i))∧i≤l.length) (ZV l.length 33) ?_ (fun φ os hI=> ?_)
   ·exact⟨0,rfl,rfl,by omega⟩
   ·obtain⟨i,rfl,rfl,hi⟩:=hI;refine nz ?_;refine rg tT [0,6,7,31,32,33,34] ?_;refine cd (fun h2=> ?_) (fun h2=> ?_)
    ·have hi4:i<l.length:=by omega
     have hrw:=ZOw l i hi4;have hnt:=ZTq l i hi4;have hct:=ZTi l i hi4;have hma:l.getD i ([],[],())∈l:=by rw[show l.getD i ([],[],())=l[i] by simp[hi4]];exact YY hi4
     generalize l.getD i ([],[],())=a at hrw hnt hct hma;have hna:=(he.2 a hma).1;have hcn:(ZCB (l.take i)).count (ZE a.1)≤1000000:=ZHz ZVi (by unfold ZCB;rw[YL,Yv];have:=he.1;omega);have uu:=Yq uu hrw;refine rg tT [0,6,7,9,31,32,33] ?_;refine rg tT [0,6,7,9,10,31,32,33] ?_;by_cases hk:ZE a.1∈ZCB (l.take i)
     ·have hg1:=ZCu hk;have hg2:=ZO3 hk;have uu:=KE uu hg1 hg2;refine rg tT [0,6,7,9,10,31,32,33] ?_;refine rg tT [0,6,7,9,31,32,33,45] ?_;refine cd (fun h3=> ?_) (fun h3=> ?_)
      ·rw[if_pos (by rw[hoc];simpa using h3)]at hct;refine rg tT [0,6,7,31,32,33] ?_;refine WI.orderA [0,6,7,31,32,33] ?_;refine WI.dropT (scE L M dn l (ZCB (l.take i)++ [ZE a.1])) _ rfl (by simp) (ZIb L M dn l _) (by simp[D.inP,YR]) ?_;refine rg tT [0,6,7,31,32,33] ?_;exact⟨⟨i+1,by rw[hct];first|done|rfl,by rw[hnt],by omega⟩,by simp[ZV,Ab.get,D.val,ZG];omega⟩
      ·rw[if_neg (fun e=>h3 (e.trans hoc))]at hct;refine WI.orderA [0,6,7,31,32,33] ?_;refine WI.dropT (scE L M dn l (ZCB (l.take i)++ [ZE a.1])) _ rfl (by simp) (ZIb L M dn l _) (by simp[D.inP,YR]) ?_;refine rg tT [0,6,7,31,32,33] ?_;exact⟨⟨i+1,by rw[hct];first|done|rfl,by rw[hnt],by omega⟩,by simp[ZV,Ab.get,D.val,ZG];omega⟩
     ·have hg1:=ZEh hk;have hg2:=ZFu hk;have uu:=KE uu hg1 hg2;refine rg tT [0,6,7,9,10,31,32,33] ?_;refine rg tT [0,6,7,9,31,32,33,45] ?_;refine cd (fun h3=> ?_) (fun h3=> ?_)
      ·rw[if_pos (by rw[hoc];simpa using h3)]at hct;refine rg tT [0,6,7,31,32,33] ?_;refine WI.orderA [0,6,7,31,32,33] ?_;refine WI.dropT (scE L M dn l (ZCB (l.take i)++ [ZE a.1])) _ rfl (by simp) (ZIb L M dn l _) (by simp[D.inP,YR]) ?_;refine rg tT [0,6,7,31,32,33] ?_;exact⟨⟨i+1,by rw[hct];first|done|rfl,by rw[hnt],by omega⟩,by simp[ZV,Ab.get,D.val,ZG];omega⟩
      ·rw[if_neg (fun e=>h3 (e.trans hoc))]at hct;refine WI.orderA [0,6,7,31,32,33] ?_;refine WI.dropT (scE L M dn l (ZCB (l.take i)++ [ZE a.1])) _ rfl (by simp) (ZIb L M dn l _) (by simp[D.inP,YR]) ?_;refine rg tT [0,6,7,31,32,33] ?_;exact⟨⟨i+1,by rw[hct];first|done|rfl,by rw[hnt],by omega⟩,by simp[ZV,Ab.get,D.val,ZG];omega⟩
    ·obtain rfl:i=l.length:=by omega
     rw[Km];refine WI.orderA [0,6,7] ?_;generalize ZCB l=H at hres⊢;generalize ZFT l=cs at hres hcl hcv⊢;refine rg tT [0,6,7,11] ?_;refine rg tT [0,6,7,11,51,52,53] ?_;refine WI.orderA [0,6,7,11,51,52,53] ?_;refine WI.loop (fun φ os=> ∃(i:Nat),φ= [(0,.ptr 0 0),(6,.mref 4),(7,.x (.sl (rows ZB cs))),(11,.mref 5),(51,.x (.sl (rows ZB cs))),(52,.x (.int .i64 cs.length)),(53,.x (.int .i64 i))]∧os=scF L M dn l H (OC::ZFQ M (cs.take i))∧i≤cs.length∧(cs.take i).all (ZH6 M H)=true) (ZV cs.length 53) ?_ (fun φ os hI=> ?_)
     ·exact⟨0,rfl,rfl,by omega,rfl⟩
     ·obtain⟨i,rfl,rfl,hi,hall⟩:=hI;refine nz ?_;refine rg tT [0,6,7,11,51,52,53,54] ?_;refine cd (fun h4=> ?_) (fun h4=> ?_)
      ·have hi4:i<cs.length:=by omega
       have hrw:=QM cs i hi4;have hmt:=ZTx M cs i hi4;have hnl:(cs.getD i []).length≤1000000:=by rw[show cs.getD i []=cs[i] by simp[hi4]];exact hcv _ (YY hi4)
       have hal:=Jx (ZH6 M H) cs i hi4;have hgi:cs[i]=cs.getD i []:=by simp[hi4]
       have hno:ZH6 M H (cs.getD i [])=false→cs.all (ZH6 M H)=false:=fun h=>YH (ZH6 M H) cs i hi4 (by rw[hgi];exact h)
       rw[hgi]at hal;have hYl:=ZNu hM (cs.take i);rw[Yv]at hYl;generalize ZFQ M (cs.take i)=Y0 at hmt hYl⊢;generalize cs.getD i []=n at hrw hmt hnl hal hno;have hb:=hM (ZE n);have hcd:ZH6 M H n=((ZR M (ZE n)).isSome&&(clV M (ZE n)).2.1.all fun x=>decide (x∈H)):=rfl;obtain⟨c,hc⟩: ∃c,c=clV M (ZE n):=⟨_,rfl⟩;rw[←hc]at hmt hb hcd;have hd47:decide (n.length≤140737488355328)=true:=Zd (by omega);have uu:=ξ5 uu hrw hc.symm (@clD.eq_1) hd47;refine rg tT [0,6,7,11,13,51,52,53] ?_;refine rg tT [0,6,7,11,14,15,51,52,53] ?_;refine rg tT [0,6,7,11,14,51,52,53,64] ?_;refine cd (fun h5=> ?_) (fun h5=> ?_)
       ·have hno2:=hno (by rw[hcd];clear uu;grind);rw[hno2,ZHn,if_neg (by decide)]at hres;refine rg tT [4] ?_;refine lf ?_;exact⟨by rw[hres],_,rfl⟩
       ·have hso:(ZR M (ZE n)).isSome=true:=by clear uu;grind
        rw[hso,ZDU]at hcd;refine rg tT [0,6,7,11,14,51,52,53,66,67,68] ?_;refine WI.orderA [0,6,7,11,14,51,52,53,66,67,68] ?_;refine WI.loop (fun φ os=> ∃(k:Nat),φ= [(0,.ptr 0 0),(6,.mref 4),(7,.x (.sl (rows ZB cs))),(11,.mref 5),(14,.ptr 6 0),(51,.x (.sl (rows ZB cs))),(52,.x (.int .i64 cs.length)),(53,.x (.int .i64 i)),(66,.x (.sl (rows ZB c.2.1))),(67,.x (.int .i64 c.2.1.length)),(68,.x (.int .i64 k))]∧os=scG L M dn l H (OC::(Y0++c.2.1.take k)) c∧k≤c.2.1.length∧(c.2.1.take k).all (fun x=>decide (x∈H))=true) (ZV c.2.1.length 68) ?_ (fun φ os hI=> ?_)
        ·exact⟨0,rfl,by rw[ZEG,KS],by omega,rfl⟩
        ·obtain⟨k,rfl,rfl,hk,hka⟩:=hI;refine nz ?_;refine rg tT [0,6,7,11,14,51,52,53,66,67,68,69] ?_;refine cd (fun h6=> ?_) (fun h6=> ?_)
         ·have hk4:k<c.2.1.length:=by omega
          have hrk:=QM c.2.1 k hk4;have hgk:c.2.1[k]=c.2.1.getD k []:=by simp[hk4]
          have htk:OC::(Y0++c.2.1.take (k+1))=(OC::(Y0++c.2.1.take k))++ [c.2.1.getD k []]:=by rw[KT hk4,hgk];simp
          have hak:=Jx (fun x=>decide (x∈H)) c.2.1 k hk4;have hnk:c.2.1.getD k []∉H→c.2.1.all (fun x=>decide (x∈H))=false:=fun h=>YH (fun x=>decide (x∈H)) c.2.1 k hk4 (by rw[hgk];exact decide_eq_false h)
          rw[hgk]at hak;have hYk:(OC::(Y0++c.2.1.take k)).length≤4000000000000:=by rw[Jh,Zw,Yv];omega
          generalize c.2.1.getD k []=x at hrk htk hak hnk;generalize OC::(Y0++c.2.1.take k)=Y at htk hYk;have hcy:=ZHz (ZVi (a:=x) (l:=Y)) hYk;have uu:=Yq uu hrk;refine rg tT [0,6,7,11,14,17,51,52,53,66,67,68] ?_;by_cases hxH:x∈H
          ·have hg1:=ZCu hxH;have hcp:0<H.count x:=ZR9.2 hxH;have uu:=Yq uu hg1;refine rg tT [0,6,7,11,14,17,51,52,53,66,67,68,75] ?_;refine ce (fun h7=> ?_) (fun h7=> ?_)
           ·have:((H.count x:Nat):Int)=0:=by simpa using h7
            omega
           ·have hka2:(c.2.1.take (k+1)).all (fun x=>decide (x∈H))=true:=by rw[hak,hka,Zd hxH];rfl
            by_cases hxY:x∈Y
            ·have hg2:=ZCu hxY;have hg3:=ZO3 hxY;have uu:=KE uu hg2 hg3;refine rg tT [0,6,7,11,14,51,52,53,66,67,68] ?_;refine rg tT [0,6,7,11,14,51,52,53,66,67,68] ?_;exact⟨⟨k+1,rfl,by rw[htk],by omega,hka2⟩,by simp[ZV,Ab.get,D.val,ZG];omega⟩
            ·have hg2:=ZEh hxY;have hg3:=ZFu hxY;have uu:=KE uu hg2 hg3;refine rg tT [0,6,7,11,14,51,52,53,66,67,68] ?_;refine rg tT [0,6,7,11,14,51,52,53,66,67,68] ?_;exact⟨⟨k+1,rfl,by rw[htk],by omega,hka2⟩,by simp[ZV,Ab.get,D.val,ZG];omega⟩
          ·have hg1:=ZEh hxH;have uu:=Yq uu hg1;refine rg tT [0,6,7,11,14,17,51,52,53,66,67,68,75] ?_;refine ct (fun h7=> ?_) (fun h7=> ?_)
           ·refine rg tT [4] ?_;refine lf ?_;rw[hno (by rw[hcd];exact hnk hxH),ZHn,if_neg (by decide)]at hres;exact⟨by rw[hres],_,rfl⟩
           ·simp at h7
         ·obtain rfl:k=c.2.1.length:=by omega
          rw[Km]at hka;rw[Km];rw[hka]at hcd;have hall2:(cs.take (i+1)).all (ZH6 M H)=true:=by rw[hal,hall,hcd];rfl
          refine rg tT [0,6,7,11,51,52,53,82,83,84] ?_;refine WI.orderA [0,6,7,11,51,52,53,82,83,84] ?_;refine WI.loop (fun φ os=> ∃(k:Nat),φ= [(0,.ptr 0 0),(6,.mref 4),(7,.x (.sl (rows ZB cs))),(11,.mref 5),(51,.x (.sl (rows ZB cs))),(52,.x (.int .i64 cs.length)),(53,.x (.int .i64 i)),(82,.x (.sl (rows ZB c.2.2.1))),(83,.x (.int .i64 c.2.2.1.length)),(84,.x (.int .i64 k))]∧os=scG L M dn l H (OC::(Y0++(c.2.1++c.2.2.1.take k))) c∧k≤c.2.2.1.length) (ZV c.2.2.1.length 84) ?_ (fun φ os hI=> ?_)
          ·exact⟨0,rfl,by rw[ZEG,KS],by omega⟩
          ·obtain⟨k,rfl,rfl,hk⟩:=hI;refine nz ?_;refine rg tT [0,6,7,11,51,52,53,82,83,84,85] ?_;refine cd (fun h8=> ?_) (fun h8=> ?_)
           ·have hk4:k<c.2.2.1.length:=by omega
            have hrk:=QM c.2.2.1 k hk4;have hgk:c.2.2.1[k]=c.2.2.1.getD k []:=by simp[hk4]
            have htk:OC::(Y0++(c.2.1++c.2.2.1.take (k+1)))=(OC::(Y0++(c.2.1++c.2.2.1.take k)))++ [c.2.2.1.getD k []]:=by rw[KT hk4,hgk];simp
            have hYk:(OC::(Y0++(c.2.1++c.2.2.1.take k))).length≤4000000000000:=by rw[Jh,Zw,Zw,Yv];omega
            generalize c.2.2.1.getD k []=x at hrk htk;generalize OC::(Y0++(c.2.1++c.2.2.1.take k))=Y at htk hYk;have hcy:=ZHz (ZVi (a:=x) (l:=Y)) hYk;have uu:=Yq uu hrk;refine rg tT [0,6,7,11,19,51,52,53,82,83,84] ?_;by_cases hxY:x∈Y
            ·have hg2:=ZCu hxY;have hg3:=ZO3 hxY;have uu:=KE uu hg2 hg3;refine rg tT [0,6,7,11,51,52,53,82,83,84] ?_;refine rg tT [0,6,7,11,51,52,53,82,83,84] ?_;exact⟨⟨k+1,rfl,by rw[htk],by omega⟩,by simp[ZV,Ab.get,D.val,ZG];omega⟩
            ·have hg2:=ZEh hxY;have hg3:=ZFu hxY;have uu:=KE uu hg2 hg3;refine rg tT [0,6,7,11,51,52,53,82,83,84] ?_;refine rg tT [0,6,7,11,51,52,53,82,83,84] ?_;exact⟨⟨k+1,rfl,by rw[htk],by omega⟩,by simp[ZV,Ab.get,D.val,ZG];omega⟩
           ·obtain rfl:k=c.2.2.1.length:=by omega
            rw[Km];refine WI.dropT (scF L M dn l H (OC::(Y0++(c.2.1++c.2.2.1)))) _ rfl (by simp) (ZYN L M dn l _ _) (by simp[D.inP,YR]) ?_;refine WI.orderA [0,6,7,11,51,52,53] ?_;refine rg tT [0,6,7,11,51,52,53] ?_;exact⟨⟨i+1,rfl,by rw[hmt],by omega,hall2⟩,by simp[ZV,Ab.get,D.val,ZG];omega⟩
      ·obtain rfl:i=cs.length:=by omega
       rw[Km]at hall⊢;refine WI.orderA [6,7,11] ?_;rw[hall,ZDU]at hres;generalize OC::ZFQ M cs=Y at hres⊢;refine rg tT [7,11,95] ?_;refine WI.orderA [7,11,95] ?_;refine WI.loop (fun φ os=> ∃(R:Sn) (cur:Option Pr),φ= [(7,.x (.sl (rows ZB cs))),(11,.mref 5),(95,.iref 4 6)]∧os= [.box [.mref 1,.mref 2],.mpo .str true (tyM L),.mpo .str true (clM M),.box [.x (.str dn),.x (.sl (rows Zi l))],.mit .str false (snM H) 6 (YG Jj Kx R) cur,.mpo .str false (snM Y),.itr]∧(∀p∈R,p.1∈H)∧(∀h∈H,h∈Y∨ ∃n,(h,n)∈R)) (ZLH 4) ?_ (fun φ os hI=> ?_)
       ·exact⟨snL H,none,rfl,rfl,fun p hp=>(ZND H p.1).2 ⟨p.2,hp⟩,fun h hh=> .inr ((ZND H h).1 hh)⟩
       ·obtain⟨R,cur,rfl,rfl,hR1,hR2⟩:=hI;refine nz ?_;refine WI.nextMA [7,11,95,97] (fun hn37=> ?_) (fun i37 q37 hn37=> ?_)
        ·simp only[YG,List.map_eq_nil_iff]at hn37;subst hn37;have hHY:H.all (fun h=>decide (h∈Y))=true:=YK.2 fun h hh=>Zd (by rcases hR2 h hh with h1|⟨n,h1⟩;exact h1;cases h1)
         rw[hHY,ZDU]at hres;refine nz ?_;refine ce (fun h9=> ?_) (fun h9=> ?_)
         ·exact absurd h9 (by decide)
         ·refine rg tT [4] ?_;refine lf ?_;refine⟨?_,_,rfl⟩;rw[←hres];clear uu;rcases cs with _|⟨x,cs⟩<;>simp;omega
        ·rw[ZYM]at hn37;obtain⟨p,hp,rfl⟩:=ZT hn37;have hi37:=(ZP hp).1;have hpH:=hR1 p (YJ hp);refine nz ?_;refine ct (fun h9=> ?_) (fun h9=> ?_)
         ·refine rg tT [7,11,20,95] ?_;by_cases hpY:p.1∈Y
          ·have hg1:=ZCu hpY;have hcp:0<Y.count p.1:=ZR9.2 hpY;have uu:=Yq uu hg1;refine rg tT [7,11,95,103] ?_;refine ce (fun h10=> ?_) (fun h10=> ?_) (kB:=fun h=>h.h)
           ·have:((Y.count p.1:Nat):Int)=0:=by simpa using h10
            omega
           ·have hR3: ∀h∈H,h∈Y∨ ∃n,(h,n)∈R.eraseIdx i37:=fun h hh=>by
             rcases hR2 h hh with h1|⟨n,h1⟩
             ·exact .inl h1
             ·rcases(ZRD hp (h,n)).1 h1 with h2|h2
              ·exact .inl (by rw[show h=p.1 from congrArg Prod.fst h2];exact hpY)
              ·exact .inr ⟨n,h2⟩
            refine WI.orderA [7,11,95] ?_;refine nz ?_;exact⟨⟨R.eraseIdx i37,_,rfl,rfl,fun q hq=>hR1 q (List.mem_of_mem_eraseIdx hq),hR3⟩,by simp only[ZLH,ξZ,ZBb,ZJZ,ZHB];rw[ZRd,if_pos hi37];omega⟩
          ·have hg1:=ZEh hpY;have uu:=Yq uu hg1;refine rg tT [7,11,95,103] ?_;refine ct (fun h10=> ?_) (fun h10=> ?_)
           ·refine rg tT [4] ?_;refine lf ?_;rw[show H.all (fun h=>decide (h∈Y))=false from by rw[List.all_eq_false];exact⟨p.1,hpH,by simpa using hpY⟩,ZHn,if_neg (by decide)]at hres;exact⟨by rw[hres],_,rfl⟩
           ·simp at h10
         ·exact absurd h9 (by decide)
end Go.Proofs.YtiogclkbccdefaaGreatDoor
end
section
namespace Go.Proofs.YtiogclkbccdefaaGreatDoor
open Go.RowKit Go.Bo Go.Ab
end Go.Proofs.YtiogclkbccdefaaGreatDoor
end
section
namespace Go.Proofs.YtiogclkbccdefaaGreatDoor
open Go.RowKit Go.Bo Go.Ab
theorem ZHw(l:List Tx)(x:Tx):rows ZB (l++ [x])=rows ZB l++ [[X.str x]]:=by simp[rows,ZB]
theorem ZOC(l:List Zn)(j:Nat)(h:j<l.length):(rows YU l)[j]? =some [X.str (l.getD j ([],0,false,())).1,X.int .i64 (l.getD j ([],0,false,())).2.1,X.bool (l.getD j ([],0,false,())).2.2.1]:=by
 simp[rows,h,YU,Yl,ZB,ZAc,ZKV,QY]
theorem ZUX(l:List YA)(j:Nat)(h:j<l.length):(rows Ka l)[j]? =some [X.str (l.getD j ([],[],[],())).1,X.sl (rows ZB (l.getD j ([],[],[],())).2.1),X.sl (rows ZB (l.getD j ([],[],[],())).2.2.1)]:=by
 simp[rows,h,Ka,Yl,ZB,rSl,QY]
theorem ZaF(n:Tx)(k:Int)(b:Bool):ZC Tryz.prog 108 [.agg [.x (.str n),.x (.int .i64 k),.x (.bool b)]] (.x (.str n)):=by
 refine ZJ.pure (fC 108 true ?_) rfl;intro C0 E0;have uu:=trivial;have tT:=(ZF:SsOk Tryz.prog ZS);refine nz ?_;refine rg tT [1] ?_;refine rg tT [2] ?_;refine lf ?_
 first|rfl|exact⟨rfl,rfl⟩|trivial
theorem ZZi(n:Tx)(R R':List (List X)):ZC Tryz.prog 111 [.agg [.x (.str n),.x (.sl R),.x (.sl R')]] (.x (.str n)):=by
 refine ZJ.pure (fC 111 true ?_) rfl;intro C0 E0;have uu:=trivial;have tT:=(ZF:SsOk Tryz.prog ZS);refine nz ?_;refine rg tT [1] ?_;refine rg tT [2] ?_;refine lf ?_
 first|rfl|exact⟨rfl,rfl⟩|trivial
theorem Zad:ZC Tryz.prog 112 [] (.x (.int .i64 0)):=by
 refine ZJ.pure (fC 112 true ?_) rfl;intro C0 E0;have uu:=trivial;have tT:=(ZF:SsOk Tryz.prog ZS);refine nz ?_;refine rg tT [] ?_;refine rg tT [0] ?_;refine lf ?_
 first|rfl|exact⟨rfl,rfl⟩|trivial
def ZC4:List D→Option (Bool×D)
 | [.agg [.x (.str n),.x (.int .i64 k),.x (.bool b)]]=>some (true,.x (.str n))
 |_=>none
theorem ZWp: ∀args r,ZC4 args=some (true,r)→ZC Tryz.prog 108 args r:=by
 intro args r h;unfold ZC4 at h;split at h
 ·rename_i n k b;simp only[Za,Zb,ZQ,Zg,true_and]at h;obtain rfl:=h;exact(ZaF n k b)
 ·cases h
def ZC6:List D→Option (Bool×D)
 | [.agg [.x (.str n),.x (.sl R),.x (.sl T)]]=>some (true,.x (.str n))
 |_=>none
theorem ZVU: ∀args r,ZC6 args=some (true,r)→ZC Tryz.prog 111 args r:=by
 intro args r h;unfold ZC6 at h;split at h
 ·rename_i n R T;simp only[Za,Zb,ZQ,Zg,true_and]at h;obtain rfl:=h;exact(ZZi n R T)
 ·cases h
def ZD5:Tabs:=ZU (ZU (ZU (ZS) 63 Zk) 108 ZC4) 111 ZC6
theorem ZGP:SsOk Tryz.prog ZD5:=ZH (ZH (ZH (ZF) (Zc 63) QR) (Zc 108) ZWp) (Zc 111) ZVU
theorem ZHZ:(∀a,ZD5.q 63 a=Zk a)∧(∀a,ZD5.q 108 a=ZC4 a)∧(∀a,ZD5.q 111 a=ZC6 a)∧(∀f a o,ZD5.r f a o=none)∧(∀f a o,ZD5.k f a o=none):=⟨fun _=>rfl,fun _=>rfl,fun _=>rfl,fun _ _ _=>rfl,fun _ _ _=>rfl⟩
theorem ZY1(l:List Tx)(hl:l.length≤100000)(hn: ∀x∈l,x.length≤140737488355328):ZC Tryz.prog 72 [.x (.sl (rows ZB l)),.fn 63 []] (.x (.sl (rows ZB (l.map ZE)))):=by
 refine ZJ.pure (fC 72 true ?_) rfl;intro C0 E0;have uu:=ξ7 @Zk.eq_1 @Zk.eq_2 @ZHZ @ZC4.eq_1 @ZC4.eq_2 @ZC6.eq_1 @ZC6.eq_2;have tT:=ZGP;refine nz ?_;refine rg tT [0,1] ?_;refine rg tT [0,1,5] ?_;refine rg tT [1,5,8,9,10] ?_;refine WI.ownA 5 9 1 ?_;refine WI.loop (fun φ os=> ∃(j:Nat),φ= [(1,.fn 63 []),(5,.ref 0 ((l.take j).map ZE).length 0 ((l.take j).map ZE).length),(8,.x (.sl (rows ZB l))),(9,.x (.int .i64 l.length)),(10,.x (.int .i64 j))]∧os= [.rows false 9 1 (rows ZB ((l.take j).map ZE))]∧j≤l.length) (ZV l.length 10) ?_ (fun φ os hI=> ?_)
 ·exact⟨0,rfl,rfl,by omega⟩
 ·obtain⟨j,rfl,rfl,hj⟩:=hI;refine nz ?_;refine rg tT [1,5,8,9,10,11] ?_;refine cd (fun h0=> ?_) (fun h0=> ?_)
  ·have hj4:j<l.length:=by omega
   have hrw:=QM l j hj4;have htk:(l.take (j+1)).map ZE=(l.take j).map ZE++ [ZE (l.getD j [])]:=by rw[KT hj4,Jq];simp[hj4]
   have hd:=Zd (hn (l.getD j []) (by rw[show l.getD j []=l[j] by simp[hj4]];exact YY hj4));have hlen:((l.take j).map ZE).length=j:=by rw[YL,Yv];omega
   have hlen2:((l.take j).map ZE).length≤100000:=by rw[hlen];omega
   generalize l.getD j []=x at hrw htk hd;have uu:=KE uu hrw hd;refine rg tT [1,5,7,8,9,10] ?_;refine rg tT [1,5,8,9,10] ?_;refine WI.pickA [0] ?_;refine rg tT [1,5,8,9,10] ?_;exact⟨⟨j+1,by rw[htk,Zw];rfl,by rw[htk,ZHw],by omega⟩,by simp[ZV,Ab.get,D.val,ZG];omega⟩
  ·obtain rfl:j=l.length:=by omega
   rw[Km];refine rg tT [4] ?_;refine WI.freezeA [0] ?_;refine WI.pickA [] ?_;refine lf ?_
   first|rfl|exact⟨rfl,rfl⟩|trivial
theorem ZXr(l:List Zn)(hl:l.length≤100000):ZC Tryz.prog 107 [.x (.sl (rows YU l)),.fn 108 []] (.x (.sl (rows ZB (l.map (·.1))))):=by
 refine ZJ.pure (fC 107 true ?_) rfl;intro C0 E0;have uu:=ξ7 @ZC4.eq_1 @ZC4.eq_2 @ZHZ @ZC6.eq_1 @ZC6.eq_2 @Zk.eq_1 @Zk.eq_2;have tT:=ZGP;refine nz ?_;refine rg tT [0,1] ?_;refine rg tT [0,1,5] ?_;refine rg tT [1,5,8,9,10] ?_;refine WI.ownA 5 9 1 ?_;refine WI.loop (fun φ os=> ∃(j:Nat),φ= [(1,.fn 108 []),(5,.ref 0 ((l.take j).map (·.1)).length 0 ((l.take j).map (·.1)).length),(8,.x (.sl (rows YU l))),(9,.x (.int .i64 l.length)),(10,.x (.int .i64 j))]∧os= [.rows false 9 1 (rows ZB ((l.take j).map (·.1)))]∧j≤l.length) (ZV l.length 10) ?_ (fun φ os hI=> ?_)
 ·exact⟨0,rfl,rfl,by omega⟩
 ·obtain⟨j,rfl,rfl,hj⟩:=hI;refine nz ?_;refine rg tT [1,5,8,9,10,11] ?_;refine cd (fun h0=> ?_) (fun h0=> ?_)
  ·have hj4:j<l.length:=by omega
   have hrw:=ZOC l j hj4;have htk:(l.take (j+1)).map (·.1)=(l.take j).map (·.1)++ [(l.getD j ([],0,false,())).1]:=by rw[KT hj4,Jq];simp[hj4]
   have hlen:((l.take j).map (·.1)).length=j:=by rw[YL,Yv];omega
   have hlen2:((l.take j).map (·.1)).length≤100000:=by rw[hlen];omega
   generalize l.getD j ([],0,false,())=x at hrw htk;have uu:=Yq uu hrw;refine rg tT [1,5,7,8,9,10] ?_;refine rg tT [1,5,8,9,10] ?_;refine WI.pickA [0] ?_;refine rg tT [1,5,8,9,10] ?_;exact⟨⟨j+1,by rw[htk,Zw];rfl,by rw[htk,ZHw],by omega⟩,by simp[ZV,Ab.get,D.val,ZG];omega⟩
  ·obtain rfl:j=l.length:=by omega
   rw[Km];refine rg tT [4] ?_;refine WI.freezeA [0] ?_;refine WI.pickA [] ?_;refine lf ?_
   first|rfl|exact⟨rfl,rfl⟩|trivial
theorem ZYj(l:List YA)(hl:l.length≤100000):ZC Tryz.prog 110 [.x (.sl (rows Ka l)),.fn 111 []] (.x (.sl (rows ZB (l.map (·.1))))):=by
 refine ZJ.pure (fC 110 true ?_) rfl;intro C0 E0;have uu:=ξ7 @ZC6.eq_1 @ZC6.eq_2 @ZHZ @ZC4.eq_1 @ZC4.eq_2 @Zk.eq_1 @Zk.eq_2;have tT:=ZGP;refine nz ?_;refine rg tT [0,1] ?_;refine rg tT [0,1,5] ?_;refine rg tT [1,5,8,9,10] ?_;refine WI.ownA 5 9 1 ?_;refine WI.loop (fun φ os=> ∃(j:Nat),φ= [(1,.fn 111 []),(5,.ref 0 ((l.take j).map (·.1)).length 0 ((l.take j).map (·.1)).length),(8,.x (.sl (rows Ka l))),(9,.x (.int .i64 l.length)),(10,.x (.int .i64 j))]∧os= [.rows false 9 1 (rows ZB ((l.take j).map (·.1)))]∧j≤l.length) (ZV l.length 10) ?_ (fun φ os hI=> ?_)
 ·exact⟨0,rfl,rfl,by omega⟩
 ·obtain⟨j,rfl,rfl,hj⟩:=hI;refine nz ?_;refine rg tT [1,5,8,9,10,11] ?_;refine cd (fun h0=> ?_) (fun h0=> ?_)
  ·have hj4:j<l.length:=by omega
   have hrw:=ZUX l j hj4;have htk:(l.take (j+1)).map (·.1)=(l.take j).map (·.1)++ [(l.getD j ([],[],[],())).1]:=by rw[KT hj4,Jq];simp[hj4]
   have hlen:((l.take j).map (·.1)).length=j:=by rw[YL,Yv];omega
   have hlen2:((l.take j).map (·.1)).length≤100000:=by rw[hlen];omega
   generalize l.getD j ([],[],[],())=x at hrw htk;have uu:=Yq uu hrw;refine rg tT [1,5,7,8,9,10] ?_;refine rg tT [1,5,8,9,10] ?_;refine WI.pickA [0] ?_;refine rg tT [1,5,8,9,10] ?_;exact⟨⟨j+1,by rw[htk,Zw];rfl,by rw[htk,ZHw],by omega⟩,by simp[ZV,Ab.get,D.val,ZG];omega⟩
  ·obtain rfl:j=l.length:=by omega
   rw[Km];refine rg tT [4] ?_;refine WI.freezeA [0] ?_;refine WI.pickA [] ?_;refine lf ?_
   first|rfl|exact⟨rfl,rfl⟩|trivial
end Go.Proofs.YtiogclkbccdefaaGreatDoor
end
section
namespace Go.Proofs.YtiogclkbccdefaaGreatDoor
open Go.RowKit Go.Bo Go.Ab
def ZGq(T:List Zn):Int:=if T.all (fun t=>decide (1≤t.2.1∧t.2.1≤5))=true then 0 else 1
def Ki(l:List Tx)(b:Int):Int:=if l.all JD=true then(if b≠0 then b else if decide (l.map ZE).Nodup=true then 0 else 9)else 13
theorem ZZt(T:List Zn)(hT:T.length≤100000):ZN Tryz.prog 109 [.ptr 0 0] [.box [.x (.sl (rows YU T))]] (.x (.int .i64 (ZGq T))) [.box [.x (.sl (rows YU T))]]:=by
 have hO: [Ob.box [.x (.sl (rows YU T))]].all (Ob.inP (fun i=>decide (i< [Ob.box [.x (.sl (rows YU T))]].length)))=true:=rfl;refine ZJ.mcallsX (fC 109 true ?_) (by first|decide|(simp;done)) hO (by first|rfl|exact hR);intro C0 E0;have uu:=trivial;have tT:=(ZF:SsOk Tryz.prog ZS);refine nz ?_;refine rg tT [0] ?_;refine rg tT [4,5,6] ?_;refine WI.orderA [4,5,6] ?_;refine WI.loop (fun φ os=> ∃(j:Nat),φ= [(4,.x (.sl (rows YU T))),(5,.x (.int .i64 T.length)),(6,.x (.int .i64 j))]∧os= [.box [.x (.sl (rows YU T))]]∧j≤T.length∧(T.take j).all (fun t=>decide (1≤t.2.1∧t.2.1≤5))=true) (ZV T.length 6) ?_ (fun φ os hI=> ?_)
 ·exact⟨0,rfl,rfl,by omega,rfl⟩
 ·obtain⟨j,rfl,rfl,hj,hall⟩:=hI;refine nz ?_;refine rg tT [4,5,6,7] ?_;refine cd (fun h0=> ?_) (fun h0=> ?_)
  ·have hj4:j<T.length:=by omega
   have hrw:=ZOC T j hj4;have hgj:T[j]=T.getD j ([],0,false,()):=by simp[hj4]
   have hal:=Jx (fun t:Zn=>decide (1≤t.2.1∧t.2.1≤5)) T j hj4;have hno:decide (1≤(T.getD j ([],0,false,())).2.1∧(T.getD j ([],0,false,())).2.1≤5)=false→T.all (fun t=>decide (1≤t.2.1∧t.2.1≤5))=false:=fun h=>YH (fun t:Zn=>decide (1≤t.2.1∧t.2.1≤5)) T j hj4 (by rw[hgj];exact h)
   rw[hgj]at hal;generalize T.getD j ([],0,false,())=x at hrw hal hno;have uu:=Yq uu hrw;refine rg tT [3,4,5,6] ?_;refine rg tT [4,5,6,17] ?_;refine cd (fun h1=> ?_) (fun h1=> ?_)
   ·have hno2:=hno (decide_eq_false (by clear uu;grind));refine rg tT [1] ?_;refine lf ?_;exact⟨by unfold ZGq;rw[hno2];rfl,_,rfl⟩
   ·have hall2:(T.take (j+1)).all (fun t=>decide (1≤t.2.1∧t.2.1≤5))=true:=by rw[hal,hall,Zd (show 1≤x.2.1∧x.2.1≤5 by clear uu;grind)];rfl
    refine WI.pickA [0] ?_;refine rg tT [4,5,6] ?_;exact⟨⟨j+1,rfl,rfl,by omega,hall2⟩,by simp[ZV,Ab.get,D.val,ZG];omega⟩
  ·refine rg tT [1] ?_;refine lf ?_;exact⟨by unfold ZGq;rw[Yp (by omega)]at hall;rw[hall];rfl,_,rfl⟩
def ZE3:List D→List Ob→Option (Bool×D×List Ob)
 | [.ptr 0 0],[.box [.x (.sl R)]]=>(ZZ YU R).bind fun T=>some (decide (T.length≤100000),.x (.int .i64 (ZGq T)),[.box [.x (.sl (rows YU T))]])
 |_,_=>none
theorem ZWt: ∀args os r os',ZE3 args os=some (true,r,os')→ZN Tryz.prog 109 args os r os':=by
 intro args os r os' h;unfold ZE3 at h;split at h
 ·rename_i R;obtain⟨T,hr0,h⟩:=Zt h;simp only[Za,Zb,ZQ,Zg,true_and]at h;obtain⟨h1,rfl,rfl⟩:=h;rw[←ZY JR hr0];exact ZZt T h1
 ·cases h
theorem ZRi(T:List Zn):ZZ YU (rows YU T)=some T:=Zv JR T
def ZFG:List D→Option (Bool×D)
 | []=>some (true,.x (.int .i64 0))
 |_=>none
theorem ZVm: ∀args r,ZFG args=some (true,r)→ZC Tryz.prog 112 args r:=by
 intro args r h;unfold ZFG at h;split at h
 ·simp only[Za,Zb,ZQ,Zg,true_and]at h;obtain rfl:=h;exact Zad
 ·cases h
def ZDP:Tabs:=Jp (ZU (ZU (ZU (ZS) 63 Zk) 148 ZB6) 112 ZFG) 109 ZE3
theorem ZMO:SsOk Tryz.prog ZDP:=Yx (ZH (ZH (ZH (ZF) (Zc 63) QR) (Zc 148) ZQv) (Zc 112) ZVm) (Zc 109) ZWt
theorem ZOu:(∀a,ZDP.q 63 a=Zk a)∧(∀a,ZDP.q 148 a=ZB6 a)∧(∀a,ZDP.q 112 a=ZFG a)∧(∀a,ZDP.q 109 a=none)∧(∀a o,ZDP.t 109 a o=Ye ZE3 a o)∧(∀f a o,ZDP.r f a o=none)∧(∀f a o,ZDP.k f a o=none):=⟨fun _=>rfl,fun _=>rfl,fun _=>rfl,fun _=>rfl,fun _ _=>rfl,fun _ _ _=>rfl,fun _ _ _=>rfl⟩
theorem ZIn{l:List Tx}{j:Nat}(h:j<l.length):(l.take (j+1)).map ZE=(l.take j).map ZE++ [ZE (l.getD j [])]:=by
 rw[KT h,Jq];simp[h]
theorem ZS2{l:List Tx}{j:Nat}(h:j<l.length)(hin:ZE (l.getD j [])∈(l.take j).map ZE):decide (l.map ZE).Nodup=false:=by
 refine decide_eq_false fun hn=> ?_
 have e:l=l.take j++l.getD j []::l.drop (j+1):=by
  have:=ZDX j l;rw[ZEc h]at this;rw[show l.getD j []=l[j] by simp[h]];exact this.symm
 rw[e,Jq,Yc]at hn;exact(ZGv.1 hn).2.2 _ hin _ ZDa rfl
theorem ZVL(T:List Zn)(hT:T.length≤100000)(l:List Tx)(hl:l.length≤100000)(hn: ∀x∈l,x.length≤1000000):ZN Tryz.prog 106 [.x (.sl (rows ZB l)),.fn 109 [.ptr 0 0]] [.box [.x (.sl (rows YU T))]] (.x (.int .i64 (Ki l (ZGq T)))) [.box [.x (.sl (rows YU T))]]:=by
 obtain⟨B,hB⟩: ∃B,B=ZGq T:=⟨_,rfl⟩;rw[←hB];have hno:l.all JD=false→Ki l B=13:=fun h=>by unfold Ki;rw[h];rfl
 have hbb:l.all JD=true→B≠0→Ki l B=B:=fun h h2=>by unfold Ki;rw[if_pos h,if_pos h2]
 have hdu:l.all JD=true→B=0→decide (l.map ZE).Nodup=false→Ki l B=9:=fun h h2 h3=>by unfold Ki;rw[if_pos h,if_neg (by simp[h2]),h3];rfl
 have hok:l.all JD=true→B=0→(l.map ZE).Nodup→Ki l B=0:=fun h h2 h3=>by unfold Ki;rw[if_pos h,if_neg (by simp[h2]),Zd h3];rfl
 have hO:=(rfl: [Ob.box [.x (.sl (rows YU T))]].all (Ob.inP (fun i=>decide (i< [Ob.box [.x (.sl (rows YU T))]].length)))=true);refine ZJ.mcallsX (fC 106 true ?_) (by first|decide|(simp;done)) hO (by first|rfl|exact hR);intro C0 E0;have uu:=Qy @Zk.eq_1 @Zk.eq_2 @ZB6.eq_1 @ZB6.eq_2 @ZE3.eq_1 @ZE3.eq_2 @ZFG.eq_1 @ZFG.eq_2 (Yq @ZRi @ZOu);have tT:=ZMO;refine nz ?_;refine rg tT [0,1] ?_;refine rg tT [0,1,11,12,13] ?_;refine WI.orderA [0,1,11,12,13] ?_;refine WI.loop (fun φ os=> ∃(j:Nat),φ= [(0,.x (.sl (rows ZB l))),(1,.fn 109 [.ptr 0 0]),(11,.x (.sl (rows ZB l))),(12,.x (.int .i64 l.length)),(13,.x (.int .i64 j))]∧os= [.box [.x (.sl (rows YU T))]]∧j≤l.length∧(l.take j).all JD=true) (ZV l.length 13) ?_ (fun φ os hI=> ?_)
 ·exact⟨0,rfl,rfl,by omega,rfl⟩
 ·obtain⟨j,rfl,rfl,hj,hall⟩:=hI;refine nz ?_;refine rg tT [0,1,11,12,13,14] ?_;refine cd (fun h0=> ?_) (fun h0=> ?_)
  ·have hj4:j<l.length:=by omega
   have hrw:=QM l j hj4;have hgj:l[j]=l.getD j []:=by simp[hj4]
   have hal:=Jx JD l j hj4;have hnt:JD (l.getD j [])=false→l.all JD=false:=fun h=>YH JD l j hj4 (by rw[hgj];exact h)
   have hd:=Zd (hn l[j] (YY hj4));rw[hgj]at hal hd;generalize l.getD j []=x at hrw hal hnt hd;have uu:=KE uu hrw hd;refine rg tT [0,1,6,11,12,13] ?_;refine rg tT [0,1,11,12,13,19] ?_;refine cd (fun h1=> ?_) (fun h1=> ?_)
   ·have hxf:JD x=false:=by clear uu;grind
    refine rg tT [4] ?_;refine lf ?_;exact⟨by rw[hno (hnt hxf)],_,rfl⟩
   ·have hxt:JD x=true:=by clear uu;grind
    have hall2:(l.take (j+1)).all JD=true:=by rw[hal,hall,hxt];rfl
    refine rg tT [0,1,11,12,13] ?_;exact⟨⟨j+1,rfl,rfl,by omega,hall2⟩,by simp[ZV,Ab.get,D.val,ZG];omega⟩
  ·obtain rfl:j=l.length:=by omega
   rw[Km]at hall;refine rg tT [0,7] ?_;refine rg tT [0,7,24] ?_;refine cd (fun h2=> ?_) (fun h2=> ?_)
   ·have hB0: ¬B=0:=by clear uu;subst hB;grind
    refine rg tT [4] ?_;refine lf ?_;exact⟨by rw[hbb hall hB0,hB],_,rfl⟩
   ·have hB0:B=0:=by clear uu;subst hB;grind
    refine rg tT [0,8] ?_;refine rg tT [8,27,28,29] ?_;refine WI.orderA [8,27,28,29] ?_;refine WI.loop (fun φ os=> ∃(j:Nat),φ= [(8,.mref 1),(27,.x (.sl (rows ZB l))),(28,.x (.int .i64 l.length)),(29,.x (.int .i64 j))]∧os= [.box [.x (.sl (rows YU T))],.mpo .str false (snM ((l.take j).map ZE))]∧j≤l.length∧((l.take j).map ZE).Nodup) (ZV l.length 29) ?_ (fun φ os hI=> ?_)
    ·exact⟨0,rfl,rfl,by omega,by simp⟩
    ·obtain⟨j,rfl,rfl,hj,hnd⟩:=hI;refine nz ?_;refine rg tT [8,27,28,29,30] ?_;refine cd (fun h3=> ?_) (fun h3=> ?_)
     ·have hj4:j<l.length:=by omega
      have hrw:=QM l j hj4;have hd:=Zd (show(l.getD j []).length≤140737488355328 by rw[show l.getD j []=l[j] by simp[hj4]];have:=hn _ (YY hj4);omega);have uu:=KE uu hrw hd;refine rg tT [8,10,27,28,29] ?_;by_cases hin:ZE (l.getD j [])∈(l.take j).map ZE
      ·have hg1:=ZCu hin;have hcp:=ZR9.2 hin;have uu:=Yq uu hg1;refine rg tT [8,10,27,28,29,37] ?_;refine ct (fun h4=> ?_) (fun h4=> ?_)
       ·refine rg tT [4] ?_;refine lf ?_;exact⟨by rw[hdu hall hB0 (ZS2 hj4 hin)],_,rfl⟩
       ·first|exact h4 (ZSE.2 hcp)|exact(of_decide_eq_false h4) (ZSE.2 hcp)|(simp at h4;exact absurd hcp (by omega))
      ·have hg1:=ZEh hin;have hg2:=ZFu hin;have uu:=KE uu hg1 hg2;refine rg tT [8,10,27,28,29,37] ?_;refine ce (fun h4=> ?_) (fun h4=> ?_)
       ·simp at h4
       ·refine rg tT [8,27,28,29] ?_;have hnd2:((l.take (j+1)).map ZE).Nodup:=by
         rw[ZIn hj4,ZGv];exact⟨hnd,by simp,fun a ha b hb=>by simp only[ZCC]at hb;subst hb;rintro rfl;exact hin ha⟩
        refine rg tT [8,27,28,29] ?_;exact⟨⟨j+1,rfl,by rw[ZIn hj4],by omega,hnd2⟩,by simp[ZV,Ab.get,D.val,ZG];omega⟩
     ·refine rg tT [4] ?_;refine lf ?_;exact⟨by rw[Yp (by omega)]at hnd;rw[hok hall hB0 hnd],_,rfl⟩
theorem ZWl(l:List Tx)(hl:l.length≤100000)(hn: ∀x∈l,x.length≤1000000):ZC Tryz.prog 106 [.x (.sl (rows ZB l)),.fn 112 []] (.x (.int .i64 (Ki l 0))):=by
 obtain⟨B,hB⟩: ∃B,B=(0:Int):=⟨_,rfl⟩;rw[←hB];have hno:l.all JD=false→Ki l B=13:=fun h=>by unfold Ki;rw[h];rfl
 have hbb:l.all JD=true→B≠0→Ki l B=B:=fun h h2=>by unfold Ki;rw[if_pos h,if_pos h2]
 have hdu:l.all JD=true→B=0→decide (l.map ZE).Nodup=false→Ki l B=9:=fun h h2 h3=>by unfold Ki;rw[if_pos h,if_neg (by simp[h2]),h3];rfl
 have hok:l.all JD=true→B=0→(l.map ZE).Nodup→Ki l B=0:=fun h h2 h3=>by unfold Ki;rw[if_pos h,if_neg (by simp[h2]),Zd h3];rfl
 refine ZJ.pure (fC 106 true ?_) rfl;intro C0 E0;have uu:=Qy @Zk.eq_1 @Zk.eq_2 @ZB6.eq_1 @ZB6.eq_2 @ZE3.eq_1 @ZE3.eq_2 @ZFG.eq_1 @ZFG.eq_2 @ZOu;have tT:=ZMO;refine nz ?_;refine rg tT [0,1] ?_;refine rg tT [0,1,11,12,13] ?_;refine WI.orderA [0,1,11,12,13] ?_;refine WI.loop (fun φ os=> ∃(j:Nat),φ= [(0,.x (.sl (rows ZB l))),(1,.fn 112 []),(11,.x (.sl (rows ZB l))),(12,.x (.int .i64 l.length)),(13,.x (.int .i64 j))]∧os= []∧j≤l.length∧(l.take j).all JD=true) (ZV l.length 13) ?_ (fun φ os hI=> ?_)
 ·exact⟨0,rfl,rfl,by omega,rfl⟩
 ·obtain⟨j,rfl,rfl,hj,hall⟩:=hI;refine nz ?_;refine rg tT [0,1,11,12,13,14] ?_;refine cd (fun h0=> ?_) (fun h0=> ?_)
  ·have hj4:j<l.length:=by omega
   have hrw:=QM l j hj4;have hgj:l[j]=l.getD j []:=by simp[hj4]
   have hal:=Jx JD l j hj4;have hnt:JD (l.getD j [])=false→l.all JD=false:=fun h=>YH JD l j hj4 (by rw[hgj];exact h)
   have hd:=Zd (hn l[j] (YY hj4));rw[hgj]at hal hd;generalize l.getD j []=x at hrw hal hnt hd;have uu:=KE uu hrw hd;refine rg tT [0,1,6,11,12,13] ?_;refine rg tT [0,1,11,12,13,19] ?_;refine cd (fun h1=> ?_) (fun h1=> ?_)
   ·have hxf:JD x=false:=by clear uu;grind
    refine rg tT [4] ?_;refine lf ?_;rw[hno (hnt hxf)]
   ·have hxt:JD x=true:=by clear uu;grind
    have hall2:(l.take (j+1)).all JD=true:=by rw[hal,hall,hxt];rfl
    refine rg tT [0,1,11,12,13] ?_;exact⟨⟨j+1,rfl,rfl,by omega,hall2⟩,by simp[ZV,Ab.get,D.val,ZG];omega⟩
  ·obtain rfl:j=l.length:=by omega
   rw[Km]at hall;refine rg tT [0,7] ?_;refine rg tT [0,7,24] ?_;refine cd (fun h2=> ?_) (fun h2=> ?_)
   ·have hB0: ¬B=0:=by clear uu;subst hB;grind
    refine rg tT [4] ?_;refine lf ?_;rw[hbb hall hB0,hB]
   ·have hB0:B=0:=by clear uu;subst hB;grind
    refine rg tT [0,8] ?_;refine rg tT [8,27,28,29] ?_;refine WI.orderA [8,27,28,29] ?_;refine WI.loop (fun φ os=> ∃(j:Nat),φ= [(8,.mref 0),(27,.x (.sl (rows ZB l))),(28,.x (.int .i64 l.length)),(29,.x (.int .i64 j))]∧os= [.mpo .str false (snM ((l.take j).map ZE))]∧j≤l.length∧((l.take j).map ZE).Nodup) (ZV l.length 29) ?_ (fun φ os hI=> ?_)
    ·exact⟨0,rfl,rfl,by omega,by simp⟩
    ·obtain⟨j,rfl,rfl,hj,hnd⟩:=hI;refine nz ?_;refine rg tT [8,27,28,29,30] ?_;refine cd (fun h3=> ?_) (fun h3=> ?_)
     ·have hj4:j<l.length:=by omega
      have hrw:=QM l j hj4;have hd:=Zd (show(l.getD j []).length≤140737488355328 by rw[show l.getD j []=l[j] by simp[hj4]];have:=hn _ (YY hj4);omega);have uu:=KE uu hrw hd;refine rg tT [8,10,27,28,29] ?_;by_cases hin:ZE (l.getD j [])∈(l.take j).map ZE
      ·have hg1:=ZCu hin;have hcp:=ZR9.2 hin;have uu:=Yq uu hg1;refine rg tT [8,10,27,28,29,37] ?_;refine ct (fun h4=> ?_) (fun h4=> ?_)
       ·refine rg tT [4] ?_;refine lf ?_;rw[hdu hall hB0 (ZS2 hj4 hin)]
       ·first|exact h4 (ZSE.2 hcp)|exact(of_decide_eq_false h4) (ZSE.2 hcp)|(simp at h4;exact absurd hcp (by omega))
      ·have hg1:=ZEh hin;have hg2:=ZFu hin;have uu:=KE uu hg1 hg2;refine rg tT [8,10,27,28,29,37] ?_;refine ce (fun h4=> ?_) (fun h4=> ?_)
       ·simp at h4
       ·refine rg tT [8,27,28,29] ?_;have hnd2:((l.take (j+1)).map ZE).Nodup:=by
         rw[ZIn hj4,ZGv];exact⟨hnd,by simp,fun a ha b hb=>by simp only[ZCC]at hb;subst hb;rintro rfl;exact hin ha⟩
        refine rg tT [8,27,28,29] ?_;exact⟨⟨j+1,rfl,by rw[ZIn hj4],by omega,hnd2⟩,by simp[ZV,Ab.get,D.val,ZG];omega⟩
     ·refine rg tT [4] ?_;refine lf ?_;rw[Yp (by omega)]at hnd;rw[hok hall hB0 hnd]
end Go.Proofs.YtiogclkbccdefaaGreatDoor
end
section
namespace Go.Proofs.YtiogclkbccdefaaGreatDoor
open Go.RowKit Go.Bo Go.Ab
def smN(l:List Tx):Prop:=l.length≤100000∧ ∀x∈l,x.length≤1000000
instance (l:List Tx):Decidable (smN l):=inferInstanceAs (Decidable (_∧_))
def ZGG:List D→Option (Bool×D)
 | [.x (.sl R),.fn 108 []]=>(ZZ YU R).bind fun l=>some (decide (l.length≤100000),.x (.sl (rows ZB (l.map (·.1)))))
 |_=>none
theorem ZTp: ∀args r,ZGG args=some (true,r)→ZC Tryz.prog 107 args r:=by
 intro args r h;unfold ZGG at h;split at h
 ·rename_i R;obtain⟨l,hr0,h⟩:=Zt h;simp only[Za,Zb,ZQ,Zg,true_and]at h;obtain⟨h1,rfl⟩:=h;rw[←ZY JR hr0];exact(ZXr l h1)
 ·cases h
def ZFh:List D→Option (Bool×D)
 | [.x (.sl R),.fn 111 []]=>(ZZ Ka R).bind fun l=>some (decide (l.length≤100000),.x (.sl (rows ZB (l.map (·.1)))))
 |_=>none
theorem ZTl: ∀args r,ZFh args=some (true,r)→ZC Tryz.prog 110 args r:=by
 intro args r h;unfold ZFh at h;split at h
 ·rename_i R;obtain⟨l,hr0,h⟩:=Zt h;simp only[Za,Zb,ZQ,Zg,true_and]at h;obtain⟨h1,rfl⟩:=h;rw[←ZY KD hr0];exact(ZYj l h1)
 ·cases h
def ZD7:List D→List Ob→Option (Bool×D×List Ob)
 | [.x (.sl R),.fn 109 [.ptr 0 0]],[.box [.x (.sl R2)]]=>(ZZ ZB R).bind fun l=>(ZZ YU R2).bind fun T=>some (decide (T.length≤100000∧smN l),.x (.int .i64 (Ki l (ZGq T))),[.box [.x (.sl (rows YU T))]])
 |_,_=>none
theorem ZQ7: ∀args os r os',ZD7 args os=some (true,r,os')→ZN Tryz.prog 106 args os r os':=by
 intro args os r os' h;unfold ZD7 at h;split at h
 ·rename_i R R2;obtain⟨l,hr0,h⟩:=Zt h;obtain⟨T,hr1,h⟩:=Zt h;simp only[Za,Zb,ZQ,Zg,true_and]at h;obtain⟨h1,rfl,rfl⟩:=h;rw[←ZY ZO hr0];rw[←ZY JR hr1];exact ZVL T h1.1 l h1.2.1 h1.2.2
 ·cases h
def ZEB:List D→Option (Bool×D)
 | [.x (.sl R),.fn 112 []]=>(ZZ ZB R).bind fun l=>some (decide (smN l),.x (.int .i64 (Ki l 0)))
 |_=>none
theorem ZRo: ∀args r,ZEB args=some (true,r)→ZC Tryz.prog 106 args r:=by
 intro args r h;unfold ZEB at h;split at h
 ·rename_i R;obtain⟨l,hr0,h⟩:=Zt h;simp only[Za,Zb,ZQ,Zg,true_and]at h;obtain⟨h1,rfl⟩:=h;rw[←ZY ZO hr0];exact(ZWl l h1.1 h1.2)
 ·cases h
def ZEa:Tabs:=ZU (Jp (ZU (ZU (ZS) 107 ZGG) 110 ZFh) 106 ZD7) 106 ZEB
theorem ZTh:SsOk Tryz.prog ZEa:=ZH (Yx (ZH (ZH (ZF) (Zc 107) ZTp) (Zc 110) ZTl) (Zc 106) ZQ7) (Zc 106) ZRo
theorem ZVK:(∀a,ZEa.q 107 a=ZGG a)∧(∀a,ZEa.q 110 a=ZFh a)∧(∀a o,ZEa.t 106 a o=Ye ZD7 a o)∧(∀a,ZEa.q 106 a=ZEB a)∧(∀f a o,ZEa.r f a o=none)∧(∀f a o,ZEa.k f a o=none):=⟨fun _=>rfl,fun _=>rfl,fun _ _=>rfl,fun _=>rfl,fun _ _ _=>rfl,fun _ _ _=>rfl⟩
theorem ZXM(l:List Tx):ZZ ZB (rows ZB l)=some l:=Zv ZO l
theorem ZXI(l:List YA):ZZ Ka (rows Ka l)=some l:=Zv KD l
def ZG6(T:List Zn)(C:List YA):Int:=if 1024<T.length∨1024<C.length then 3 else if Ki (T.map (·.1)) (ZGq T)≠0 then Ki (T.map (·.1)) (ZGq T)else Ki (C.map (·.1)) 0
def smT(T:List Zn):Prop:=T.length≤100000∧ ∀x∈T,x.1.length≤1000000
def smC(C:List YA):Prop:=C.length≤100000∧ ∀x∈C,x.1.length≤1000000∧(x.2.1.length≤50000∧ ∀n∈x.2.1,n.length≤140737488355328)∧(x.2.2.1.length≤50000∧ ∀n∈x.2.2.1,n.length≤140737488355328)
instance (T:List Zn):Decidable (smT T):=inferInstanceAs (Decidable (_∧_))
instance (C:List YA):Decidable (smC C):=inferInstanceAs (Decidable (_∧_))
theorem ZVc(T:List Zn)(C:List YA)(hT:smT T)(hC:smC C):ZC Tryz.prog 71 [.x (.sl (rows YU T)),.x (.sl (rows Ka C))] (.x (.int .i64 (ZG6 T C))):=by
 have hTl:=hT.1;have hCl:=hC.1;have hd1:decide (T.length≤100000∧smN (T.map (·.1)))=true:=Zd ⟨hTl,by rw[smN,YL];exact⟨hTl,fun x hx=>by obtain⟨t,ht,rfl⟩:=YQ.1 hx;exact hT.2 t ht⟩⟩;have hd2:decide (smN (C.map (·.1)))=true:=Zd (by rw[smN,YL];exact⟨hCl,fun x hx=>by obtain⟨t,ht,rfl⟩:=YQ.1 hx;exact(hC.2 t ht).1⟩);have hd3:=Zd hTl;have hd4:=Zd hCl;rcases hres:ZG6 T C with v
 unfold ZG6 at hres;refine ZJ.pure (fC 71 true ?_) rfl;intro C0 E0;have uu:=Qy @ZGG.eq_1 @ZGG.eq_2 @ZFh.eq_1 @ZFh.eq_2 @ZD7.eq_1 @ZD7.eq_2 @ZEB.eq_1 @ZEB.eq_2 (ξ8 @ZRi @ZXM @ZXI hd1 hd2 hd3 hd4 @ZVK);have tT:=ZTh;refine nz ?_;refine rg tT [1,2] ?_;refine rg tT [1,2,13] ?_;refine cd (fun h0=> ?_) (fun h0=> ?_)
 ·rw[if_pos (by clear uu;grind)]at hres;refine rg tT [4] ?_;refine lf ?_;rw[hres]
 ·rw[if_neg (by clear uu;grind)]at hres;refine rg tT [1,5] ?_;refine rg tT [1,5,19] ?_;refine cd (fun h1=> ?_) (fun h1=> ?_)
  ·rw[if_pos (by simpa using h1)]at hres;refine rg tT [4] ?_;refine lf ?_;rw[hres]
  ·rw[if_neg (by simpa using h1)]at hres;refine rg tT [4] ?_;refine lf ?_;rw[hres]
def ZEA:List D→Option (Bool×D)
 | [.x (.sl R),.x (.sl R2)]=>(ZZ YU R).bind fun T=>(ZZ Ka R2).bind fun C=>some (decide (smT T∧smC C),.x (.int .i64 (ZG6 T C)))
 |_=>none
theorem ZRp: ∀args r,ZEA args=some (true,r)→ZC Tryz.prog 71 args r:=by
 intro args r h;unfold ZEA at h;split at h
 ·rename_i R R2;obtain⟨T,hr0,h⟩:=Zt h;obtain⟨C,hr1,h⟩:=Zt h;simp only[Za,Zb,ZQ,Zg,true_and]at h;obtain⟨h1,rfl⟩:=h;rw[←ZY JR hr0];rw[←ZY KD hr1];exact(ZVc T C h1.1 h1.2)
 ·cases h
end Go.Proofs.YtiogclkbccdefaaGreatDoor
end
section
namespace Go.Proofs.YtiogclkbccdefaaGreatDoor
open Go.RowKit Go.Bo Go.Ab
theorem ZNU{α:Type}(f:α→Tx)(l:List α)(d:α)(i:Nat)(h:i<l.length)(hn:(l.map f).Nodup):f (l.getD i d)∉(l.take i).map f:=by
 intro hin;have e:l=l.take i++l.getD i d::l.drop (i+1):=by
  have:=ZDX i l;rw[ZEc h]at this;rw[show l.getD i d=l[i] by simp[h]];exact this.symm
 rw[e,Jq,Yc]at hn;exact(ZGv.1 hn).2.2 _ hin _ ZDa rfl
theorem ZWK(T:List Zn):(tyL T).map (·.1)=T.map fun t=>ZE t.1:=by unfold tyL;rw[KP];rfl
theorem ZV4(C:List YA):(clL C).map (·.1)=C.map fun c=>ZE c.1:=by unfold clL;rw[KP];rfl
theorem ZZe(T:List Zn)(i:Nat)(h:i<T.length)(hn:(T.map fun t=>ZE t.1).Nodup):
  YI (tyM (tyL (T.take i))) [X.str (ZE (T.getD i ([],0,false,())).1)] [.x (.str (ZE (T.getD i ([],0,false,())).1)),.x (.int .i64 (T.getD i ([],0,false,())).2.1),.x (.bool (T.getD i ([],0,false,())).2.2.1)]=tyM (tyL (T.take (i+1))):=by
 have h1:=ZNU (fun t:Zn=>ZE t.1) T ([],0,false,()) i h hn;rw[←ZWK]at h1;have h2:=ZaM (tyL (T.take i)) (ZE (T.getD i ([],0,false,())).1) (ZaS (T.getD i ([],0,false,())));rw[ZGY (ZG1.2 h1)]at h2;refine Eq.trans h2 ?_;rw[KT h];unfold tyL;rw[Jq];simp[h]
theorem Zai(C:List YA)(i:Nat)(h:i<C.length)(hn:(C.map fun t=>ZE t.1).Nodup):
  YI (clM (clL (C.take i))) [X.str (ZE (C.getD i ([],[],[],())).1)] [.x (.str (ZE (C.getD i ([],[],[],())).1)),.x (.sl (rows ZB ((C.getD i ([],[],[],())).2.1.map ZE))),.x (.sl (rows ZB ((C.getD i ([],[],[],())).2.2.1.map ZE)))]=clM (clL (C.take (i+1))):=by
 have h1:=ZNU (fun t:YA=>ZE t.1) C ([],[],[],()) i h hn;rw[←ZV4]at h1;have h2:=ZaA (clL (C.take i)) (ZE (C.getD i ([],[],[],())).1) (ZDu (C.getD i ([],[],[],())));rw[ZGY (ZG1.2 h1)]at h2;refine Eq.trans h2 ?_;rw[KT h];unfold clL;rw[Jq];simp[h]
theorem ZME{l:List Tx}{b:Int}(h:Ki l b=0):l.all JD=true∧b=0∧(l.map ZE).Nodup:=by
 unfold Ki at h;split at h
 ·split at h
  ·omega
  ·split at h
   ·rename_i h1 h2 h3;exact⟨h1,by omega,of_decide_eq_true h3⟩
   ·omega
 ·omega
theorem ZSl{T:List Zn}{C:List YA}(h:ZG6 T C=0):(T.map fun t=>ZE t.1).Nodup∧(C.map fun t=>ZE t.1).Nodup:=by
 unfold ZG6 at h;split at h
 ·omega
 ·split at h
  ·rename_i h1;exact absurd h h1
  ·rename_i h1;have h2:=(ZME (ZRZ.1 h1)).2.2;have h3:=(ZME h).2.2;rw[KP]at h2 h3;exact⟨h2,h3⟩
def ZHx(T:List Zn)(c:YA):Bool:=(c.2.1.map ZE++c.2.2.1.map ZE).all fun n=>(ZR (tyL T) (ZE n)).isSome
def ZJU(T:List Zn)(C:List YA):Int:=if ZG6 T C≠0 then ZG6 T C else if C.all (ZHx T)=true then(if(ZR (tyL T) (ZE OC)).isSome=true then 0 else 8)else 8
def ZFt:List D→Option (Bool×D)
 | [.x (.sl R),.fn 63 []]=>(ZZ ZB R).bind fun l=>some (decide (l.length≤100000∧ ∀x∈l,x.length≤140737488355328),.x (.sl (rows ZB (l.map ZE))))
 |_=>none
theorem ZTa: ∀args r,ZFt args=some (true,r)→ZC Tryz.prog 72 args r:=by
 intro args r h;unfold ZFt at h;split at h
 ·rename_i R;obtain⟨l,hr0,h⟩:=Zt h;simp only[Za,Zb,ZQ,Zg,true_and]at h;obtain⟨h1,rfl⟩:=h;rw[←ZY ZO hr0];exact(ZY1 l h1.1 h1.2)
 ·cases h
def ZHs:List D→Option (Bool×D)
 | [.x (.sl [[.sl R],[.sl R']])]=>(ZZ ZB R).bind fun a=>(ZZ ZB R').map fun b=>(decide (a.length≤100000∧b.length≤100000),.x (.sl (rows ZB (a++b))))
 |_=>none
theorem ZQT: ∀args r,ZHs args=some (true,r)→ZC Tryz.prog 73 args r:=by
 intro args r h;unfold ZHs at h;split at h
 ·rename_i R R';obtain⟨a,h1,h⟩:=Zt h;obtain⟨b,h2,h3⟩:=ZT h;simp only[Zb,Zg]at h3;obtain⟨h4,rfl⟩:=h3;rw[←ZY ZO h1,←ZY ZO h2];exact ZNj a b h4.1 h4.2
 ·cases h
def ZBd:Tabs:=Jp (Jp (ZU (ZU (ZU (ZU (ZS) 71 ZEA) 63 Zk) 72 ZFt) 73 ZHs) 73 (QX ZHs)) 74 ZC7
theorem ZTz:SsOk Tryz.prog ZBd:=Yx (Yx (ZH (ZH (ZH (ZH (ZF) (Zc 71) ZRp) (Zc 63) QR) (Zc 72) ZTa) (Zc 73) ZQT) (Zc 73) (ZCo ZQT)) (Zc 74) ZO8
theorem ZUt:(∀a,ZBd.q 71 a=ZEA a)∧(∀a,ZBd.q 63 a=Zk a)∧(∀a,ZBd.q 72 a=ZFt a)∧(∀a,ZBd.q 73 a=ZHs a)∧(∀a o,ZBd.t 73 a o=Ye (QX ZHs) a o)∧(∀a,ZBd.q 74 a=none)∧(∀a o,ZBd.t 74 a o=Ye ZC7 a o)∧(∀f a o,ZBd.r f a o=none)∧(∀f a o,ZBd.k f a o=none):=⟨fun _=>rfl,fun _=>rfl,fun _=>rfl,fun _=>rfl,fun _ _=>rfl,fun _=>rfl,fun _ _=>rfl,fun _ _ _=>rfl,fun _ _ _=>rfl⟩
abbrev scH(L:List (Tx×Zn))(M:List (Tx×YA))(c d:YA):List Ob:= [.box [.mref 1,.mref 2],.mpo .str true (tyM L),.mpo .str true (clM M),.box [.x (.str c.1),.x (.sl (rows ZB c.2.1)),.x (.sl (rows ZB c.2.2.1))],.box [.x (.str d.1),.x (.sl (rows ZB d.2.1)),.x (.sl (rows ZB d.2.2.1))]]
theorem ZQK(L:List (Tx×Zn))(M:List (Tx×YA))(c d:YA):(scH L M c d).all (Ob.inP (fun i=>decide (i<(scH L M c d).length)))=true:=by
 simp[Ob.inP,YR,D.inP,ZAO,ZAW]
set_option maxHeartbeats 4000000 in
theorem Zat(T:List Zn)(C:List YA)(hT:smT T)(hC:smC C)(r:D)(OS:List Ob)(hz:ZJU T C=0→r= .tup [.ptr 0 0,.x (.int .i64 0)]∧OS=scO (tyL T) (clL C))(hnz:ZJU T C≠0→r= .tup [.x .nilp,.x (.int .i64 (ZJU T C))]∧OS= []):
  ZN Tryz.prog 38 [.x (.sl (rows YU T)),.x (.sl (rows Ka C))] [] r OS:=by
 have hO:OS.all (Ob.inP (fun i=>decide (i<OS.length)))=true:=by
  by_cases h:ZJU T C=0
  ·rw[(hz h).2];exact ZAX _ _
  ·rw[(hnz h).2];rfl
 have hTl:=hT.1;have hz':=hz;have hnz':=hnz;have hCl:=hC.1;have hd1:decide (smT T∧smC C)=true:=Zd ⟨hT,hC⟩;rcases hch:ZG6 T C with v
 unfold ZJU at hz hnz;rw[hch]at hz hnz;have hoc:OC= [111,98,106,101,99,116,99,108,97,115,115]:=rfl;have hR:r.inP (fun i=>decide (i<OS.length))=true:=by
  by_cases h:ZJU T C=0
  ·rw[(hz' h).1,(hz' h).2];rfl
  ·rw[(hnz' h).1,(hnz' h).2];rfl
 refine ZJ.mcallsX (fC 38 true ?_) (by first|decide|(simp;done)) hO (by first|rfl|exact hR);intro C0 E0;have uu:=Qy @ZEA.eq_1 @ZEA.eq_2 @Zk.eq_1 @Zk.eq_2 @ZFt.eq_1 @ZFt.eq_2 @ZHs.eq_1 @ZHs.eq_2 (Qy @ZC7.eq_1 @ZC7.eq_2 @ZRi @ZXM @ZXI @ZIt @ZIq hd1 (Qy hch @ZEb @ZEr @ZEl @ZEk @ZAO @ZAW @QA (ξ4 @ZAo @Kk @ZUt @QX.eq_1)));have tT:=ZTz;refine nz ?_;refine rg tT [0,1] ?_;refine rg tT [0,1,6] ?_;refine rg tT [0,1,6,23] ?_;refine cd (fun h0=> ?_) (fun h0=> ?_)
 ·have hv0: ¬v=0:=by simpa using h0
  refine rg tT [4,5] ?_;refine lf ?_;obtain⟨rfl,rfl⟩:=(by rw[if_pos hv0]at hnz;exact hnz hv0);exact⟨rfl,[],rfl⟩
 ·have hv0:v=0:=by simpa using h0
  subst hv0;obtain⟨hnT,hnC⟩:=ZSl hch;rw[if_neg (by simp)]at hz hnz;refine rg tT [0,1,7] ?_;refine rg tT [1,7,31,32,33] ?_;refine WI.pickA [2,0,1] ?_;refine WI.orderA [1,7,31,32,33] ?_;refine WI.loop (fun φ os=> ∃(i:Nat),φ= [(1,.x (.sl (rows Ka C))),(7,.ptr 0 0),(31,.x (.sl (rows YU T))),(32,.x (.int .i64 T.length)),(33,.x (.int .i64 i))]∧os=scO (tyL (T.take i)) []∧i≤T.length) (ZV T.length 33) ?_ (fun φ os hI=> ?_)
  ·exact⟨0,rfl,rfl,by omega⟩
  ·obtain⟨i,rfl,rfl,hi⟩:=hI;refine nz ?_;refine rg tT [1,7,31,32,33,34] ?_;refine cd (fun h1=> ?_) (fun h1=> ?_)
   ·have hi4:i<T.length:=by omega
    have hrw:=ZOC T i hi4;have hst:=ZZe T i hi4 hnT;have hxl:=hT.2 T[i] (YY hi4);rw[show T[i]=T.getD i ([],0,false,()) by simp[hi4]]at hxl;generalize T.getD i ([],0,false,())=x at hrw hst hxl;have hd47:decide (x.1.length≤140737488355328)=true:=Zd (by omega);have uu:=ξ4 uu hrw hst hd47;refine rg tT [1,7,9,31,32,33] ?_;refine rg tT [1,7,9,31,32,33] ?_;refine WI.dregB tT [1,7,31,32,33] ?_
    iterate 5 refine Yo ?_
    refine dQG ?_;refine Yo ?_
    iterate 2 refine dQG ?_
    refine dAG ?_;refine dN ?_;refine nz ?_;refine WI.orderA [1,7,31,32,33] ?_;refine WI.dropT (scO (tyL (T.take (i+1))) []) _ rfl (by simp) (ZAX _ _) (by simp[D.inP,YR]) ?_;refine rg tT [1,7,31,32,33] ?_;exact⟨⟨i+1,rfl,rfl,by omega⟩,by simp[ZV,Ab.get,D.val,ZG];omega⟩
   ·obtain rfl:i=T.length:=by omega
    rw[Km];generalize hL:tyL T=L at hz hnz⊢;refine rg tT [7,51,52,53] ?_;refine WI.loop (fun φ os=> ∃(i:Nat),φ= [(7,.ptr 0 0),(51,.x (.sl (rows Ka C))),(52,.x (.int .i64 C.length)),(53,.x (.int .i64 i))]∧os=scO L (clL (C.take i))∧i≤C.length∧(C.take i).all (ZHx T)=true) (ZV C.length 53) ?_ (fun φ os hI=> ?_)
    ·exact⟨0,rfl,rfl,by omega,rfl⟩
    ·obtain⟨i,rfl,rfl,hi,hall⟩:=hI;refine nz ?_;refine rg tT [7,51,52,53,54] ?_;refine cd (fun h2=> ?_) (fun h2=> ?_)
     ·have hi4:i<C.length:=by omega
      have hrw:=ZUX C i hi4;have hst:=Zai C i hi4 hnC;have hal:=Jx (ZHx T) C i hi4;have hgi:C[i]=C.getD i ([],[],[],()):=by simp[hi4]
      have hno:ZHx T (C.getD i ([],[],[],()))=false→C.all (ZHx T)=false:=fun h=>YH (ZHx T) C i hi4 (by rw[hgi];exact h)
      have hxl:=hC.2 C[i] (YY hi4);rw[hgi]at hxl hal;generalize C.getD i ([],[],[],())=x at hrw hst hxl hal hno;obtain⟨hx1,hx2,hx3⟩:=hxl;have hst2:YI (clM (clL (C.take i))) [X.str (ZDu x).1] [.x (.str (ZDu x).1),.x (.sl (rows ZB (ZDu x).2.1)),.x (.sl (rows ZB (ZDu x).2.2.1))]=clM (clL (C.take (i+1))):=hst;have hd47:decide (x.1.length≤140737488355328)=true:=Zd (by omega);have hd48:decide (x.2.1.length≤100000∧ ∀n∈x.2.1,n.length≤140737488355328)=true:=Zd ⟨by omega,hx2.2⟩;have hd49:decide (x.2.2.1.length≤100000∧ ∀n∈x.2.2.1,n.length≤140737488355328)=true:=Zd ⟨by omega,hx3.2⟩;have hl1:(x.2.1.map ZE).length≤50000:=by rw[YL];exact hx2.1
      have hl2:(x.2.2.1.map ZE).length≤50000:=by rw[YL];exact hx3.1
      have hct:ZHx T x=(x.2.1.map ZE++x.2.2.1.map ZE).all fun n=>(ZR L (ZE n)).isSome:=by rw[←hL];rfl
      have hln: ∀n∈x.2.1.map ZE++x.2.2.1.map ZE,n.length≤140737488355328:=fun n hn=>by
       rcases KN.1 hn with h|h
       ·obtain⟨y,hy,rfl⟩:=YQ.1 h;rw[ZG9];exact hx2.2 y hy
       ·obtain⟨y,hy,rfl⟩:=YQ.1 h;rw[ZG9];exact hx3.2 y hy
      have hd50:decide ((x.2.1.map ZE).length≤100000∧(x.2.2.1.map ZE).length≤100000)=true:=Zd ⟨by omega,by omega⟩;have uu:=ξ7 uu hrw hst2 hd47 hd48 hd49 hd50;refine rg tT [7,11,51,52,53] ?_;refine WI.dregB tT [7,12,51,52,53] ?_;refine Yo ?_;refine dQG ?_;refine dQC ?_;refine Yo ?_;refine dQG ?_;refine dQC ?_;refine Yo ?_;refine dQG ?_;refine dQC ?_;refine dFG ?_;refine dKG ?_;refine dAG ?_;refine dN ?_;refine nz ?_;refine rg tT [7,12,51,52,53,72,73,74] ?_;refine WI.orderA [7,12,51,52,53,72,73,74] ?_;refine WI.dropT (scH L (clL (C.take i)) x (ZDu x)) _ rfl (by simp) (ZQK _ _ _ _) (by simp[D.inP,YR]) ?_;generalize hN:x.2.1.map ZE++x.2.2.1.map ZE=N at hct hln⊢;have hNl:N.length≤100000:=by rw[←hN,Zw];omega
      refine WI.loop (fun φ os=> ∃(k:Nat),φ= [(7,.ptr 0 0),(12,.ptr 4 0),(51,.x (.sl (rows Ka C))),(52,.x (.int .i64 C.length)),(53,.x (.int .i64 i)),(72,.x (.sl (rows ZB N))),(73,.x (.int .i64 N.length)),(74,.x (.int .i64 k))]∧os=scH L (clL (C.take i)) x (ZDu x)∧k≤N.length∧(N.take k).all (fun n=>(ZR L (ZE n)).isSome)=true) (ZV N.length 74) ?_ (fun φ os hI=> ?_)
      ·exact⟨0,rfl,rfl,by omega,rfl⟩
      ·obtain⟨k,rfl,rfl,hk,hka⟩:=hI;refine nz ?_;refine rg tT [7,12,51,52,53,72,73,74,75] ?_;refine cd (fun h3=> ?_) (fun h3=> ?_)
       ·have hk4:k<N.length:=by omega
        have hrk:=QM N k hk4;have hgk:N[k]=N.getD k []:=by simp[hk4]
        have hak:=Jx (fun n=>(ZR L (ZE n)).isSome) N k hk4;have hnk:(ZR L (ZE (N.getD k []))).isSome=false→N.all (fun n=>(ZR L (ZE n)).isSome)=false:=fun h=>YH (fun n=>(ZR L (ZE n)).isSome) N k hk4 (by rw[hgk];exact h)
        have hnl:=hln N[k] (YY hk4);rw[hgk]at hak hnl;generalize N.getD k []=y at hrk hak hnk hnl;have hdy:=Zd hnl;have uu:=ξ4 uu hrk hdy @tyD.eq_1;refine rg tT [7,12,14,51,52,53,72,73,74] ?_;refine rg tT [7,12,16,51,52,53,72,73,74] ?_;refine rg tT [7,12,51,52,53,72,73,74,88] ?_;refine cd (fun h4=> ?_) (fun h4=> ?_)
        ·have hys:(ZR L (ZE y)).isSome=false:=by clear uu;grind
         rw[hno (by rw[hct];exact hnk hys)]at hnz;refine rg tT [4,5] ?_;refine lf ?_;obtain⟨rfl,rfl⟩:=hnz (by simp);exact⟨rfl,_,rfl⟩
        ·have hys:(ZR L (ZE y)).isSome=true:=by clear uu;grind
         have hka2:(N.take (k+1)).all (fun n=>(ZR L (ZE n)).isSome)=true:=by rw[hak,hka,hys];rfl
         refine WI.orderA [7,12,51,52,53,72,73,74] ?_;refine WI.dropT (scH L (clL (C.take i)) x (ZDu x)) _ rfl (by simp) (ZQK _ _ _ _) (by simp[D.inP,YR]) ?_;refine rg tT [7,12,51,52,53,72,73,74] ?_;exact⟨⟨k+1,rfl,rfl,by omega,hka2⟩,by simp[ZV,Ab.get,D.val,ZG];omega⟩
       ·obtain rfl:k=N.length:=by omega
        rw[Km]at hka;rw[hka]at hct;have hall2:(C.take (i+1)).all (ZHx T)=true:=by rw[hal,hall,hct];rfl
        refine WI.dregB tT [7,51,52,53] ?_
        iterate 4 refine Yo ?_
        refine dQG ?_;refine Yo ?_
        iterate 2 refine dQG ?_
        refine dAG ?_;refine dN ?_;refine nz ?_;refine WI.orderA [7,51,52,53] ?_;refine WI.dropT (scO L (clL (C.take (i+1)))) _ rfl (by simp) (ZAX _ _) (by simp[D.inP,YR]) ?_;refine rg tT [7,51,52,53] ?_;exact⟨⟨i+1,rfl,rfl,by omega,hall2⟩,by simp[ZV,Ab.get,D.val,ZG];omega⟩
     ·obtain rfl:i=C.length:=by omega
      rw[Km]at hall⊢;rw[hall,if_pos rfl,hoc]at hz hnz;refine WI.orderA [7] ?_;have uu:=Yq uu @tyD.eq_1;refine rg tT [7,18] ?_;refine rg tT [7,108] ?_;refine cd (fun h5=> ?_) (fun h5=> ?_)
      ·have hys: ¬(ZR L (ZE [111,98,106,101,99,116,99,108,97,115,115])).isSome=true:=by clear uu;grind
       rw[if_neg hys]at hnz;refine rg tT [4,5] ?_;refine lf ?_;obtain⟨rfl,rfl⟩:=hnz (by simp);exact⟨rfl,_,rfl⟩
      ·have hys:(ZR L (ZE [111,98,106,101,99,116,99,108,97,115,115])).isSome=true:=by clear uu;grind
       rw[if_pos hys]at hz;refine rg tT [4,5] ?_;refine lf ?_;obtain⟨rfl,rfl⟩:=hz rfl;exact⟨rfl,_,rfl⟩
end Go.Proofs.YtiogclkbccdefaaGreatDoor
end
section
namespace Go.Proofs.YtiogclkbccdefaaGreatDoor
open Go.RowKit Go.Bo Go.Ab
def igT(n:Tx):Zn:=(n,1,false,())
theorem ZUE(a b:List Zn):rows YU (a++b)=rows YU a++rows YU b:=Jq
theorem Zar(l:List Tx)(hl:l.length≤1000):ZN Tryz.prog 37 [.ref 0 l.length 0 l.length] [.rows false 9 1 (rows ZB l)] (.ref 1 l.length 0 l.length) [.rows false 9 1 (rows ZB l),.rows false 82 3 (rows YU (l.map igT))]:=by
 have hO: [Ob.rows false 9 1 (rows ZB l),.rows false 82 3 (rows YU (l.map igT))].all (Ob.inP (fun i=>decide (i< [Ob.rows false 9 1 (rows ZB l),.rows false 82 3 (rows YU (l.map igT))].length)))=true:=rfl;refine ZJ.mcalls (fC 37 false ?_);intro C0 E0;have uu:=trivial;have tT:=(ZF:SsOk Tryz.prog ZS);refine nz ?_;refine rg tT [0] ?_;refine rg tT [0,3] ?_;refine rg tT [3,6,7,8] ?_;refine WI.ownA 3 82 3 ?_;refine WI.orderA [3,6,7,8] ?_;refine WI.loop (fun φ os=> ∃(j:Nat),φ= [(3,.ref 1 ((l.take j).map igT).length 0 ((l.take j).map igT).length),(6,.ref 0 l.length 0 l.length),(7,.x (.int .i64 l.length)),(8,.x (.int .i64 j))]∧os= [.rows false 9 1 (rows ZB l),.rows false 82 3 (rows YU ((l.take j).map igT))]∧j≤l.length) (ZV l.length 8) ?_ (fun φ os hI=> ?_)
 ·exact⟨0,rfl,rfl,by omega⟩
 ·obtain⟨j,rfl,rfl,hj⟩:=hI;refine nz ?_;refine rg tT [3,6,7,8,9] ?_;refine cd (fun h0=> ?_) (fun h0=> ?_)
  ·have hj4:j<l.length:=by omega
   have hrw:=QM l j hj4;have htk:(l.take (j+1)).map igT=(l.take j).map igT++ [igT (l.getD j [])]:=by rw[KT hj4,Jq];simp[hj4]
   have hlen:((l.take j).map igT).length≤1000:=by rw[YL,Yv];omega
   generalize l.getD j []=x at hrw htk;have uu:=Yq uu hrw;refine rg tT [3,5,6,7,8] ?_;refine rg tT [3,6,7,8] ?_;refine WI.pickA [0,1] ?_;refine rg tT [3,6,7,8] ?_;exact⟨⟨j+1,by rw[htk,Zw];rfl,by rw[htk,ZUE];rfl,by omega⟩,by simp[ZV,Ab.get,D.val,ZG];omega⟩
  ·obtain rfl:j=l.length:=by omega
   rw[Km];refine rg tT [2] ?_;refine lf ?_;exact⟨by rw[YL],rfl⟩
end Go.Proofs.YtiogclkbccdefaaGreatDoor
end
section
namespace Go.Proofs.YtiogclkbccdefaaGreatDoor
open Go.RowKit Go.Bo Go.Ab
def plT:List Zn:= [([99,110],1,false,()),([115,110],1,false,()),([111,117],1,false,()),([100,99],1,false,()),([111],1,false,()),([100,101,115,99,114,105,112,116,105,111,110],1,false,()),([109,97,105,108],1,false,()),([111,98,106,101,99,116,99,108,97,115,115],1,false,()),([117,115,101,114,112,97,115,115,119,111,114,100],4,true,()),([117,105,100],1,true,()),([117,105,100,110,117,109,98,101,114],3,true,()),([109,101,109,98,101,114],5,false,()),([115,101,114,105,97,108,110,117,109,98,101,114],2,false,())]
def plC:List YA:= [([116,111,112],[],[],()),([112,101,114,115,111,110],[[99,110],[115,110]],[[100,101,115,99,114,105,112,116,105,111,110],[117,115,101,114,112,97,115,115,119,111,114,100],[109,97,105,108],[117,105,100],[117,105,100,110,117,109,98,101,114],[115,101,114,105,97,108,110,117,109,98,101,114],[109,101,109,98,101,114]],()),([111,114,103,97,110,105,122,97,116,105,111,110,97,108,117,110,105,116],[[111,117]],[[100,101,115,99,114,105,112,116,105,111,110],[109,101,109,98,101,114]],()),([100,111,109,97,105,110],[[100,99]],[[100,101,115,99,114,105,112,116,105,111,110],[111]],()),([103,114,111,117,112],[[99,110]],[[109,101,109,98,101,114],[100,101,115,99,114,105,112,116,105,111,110]],())]
theorem Zaa:ZJU plT plC=0:=by decide+kernel
theorem Zag:smT plT:=by decide+kernel
theorem ZZ7:smC plC:=by decide+kernel
def ZJY:List D→List Ob→Option (Bool×D×Ob)
 | [.ref 0 8 0 8],[.rows false 9 1 [[.str a],[.str b],[.str c],[.str d],[.str e],[.str f],[.str g],[.str h]]]=>some (true,.ref 1 8 0 8,.rows false 82 3 [[.str a,.int .i64 1,.bool false],[.str b,.int .i64 1,.bool false],[.str c,.int .i64 1,.bool false],[.str d,.int .i64 1,.bool false],[.str e,.int .i64 1,.bool false],[.str f,.int .i64 1,.bool false],[.str g,.int .i64 1,.bool false],[.str h,.int .i64 1,.bool false]])
 |_,_=>none
theorem ZYu: ∀args os r ob,ZJY args os=some (true,r,ob)→(∃fz e sz rs,ob= .rows fz e sz rs)∧ZN Tryz.prog 37 args os r (os++ [ob]):=by
 intro args os r ob h;unfold ZJY at h;split at h
 ·rename_i a b c d e f g h;simp only[Za,Zb,true_and]at h;obtain⟨rfl,rfl⟩:=h;exact⟨⟨_,_,_,_,rfl⟩,Zar [a,b,c,d,e,f,g,h] (by simp)⟩
 ·cases h
def ZHv:Tabs:=ZRs (ZS) 37 ZJY
theorem ZIF:SsOk Tryz.prog ZHv:=ZYI (ZF) (Zc 37) ZYu
theorem ZW1:(∀a,ZHv.q 37 a=none)∧(∀a o,ZHv.t 37 a o=Ye (fun args os=>(ZJY args os).map fun q=>(q.1,q.2.1,os++ [q.2.2])) a o)∧(∀a o,ZHv.k 37 a o=ZDZ ZJY a o)∧(∀f a o,ZHv.r f a o=none):=⟨fun _=>rfl,fun _ _=>rfl,fun _ _=>rfl,fun _ _ _=>rfl⟩
theorem ZRq:Enters Tryz.prog 38:=Zc 38
theorem ZX4:ZN Tryz.prog 11 [] [] (.ptr 0 0) (scO (tyL plT) (clL plC)):=by
 have hO:=ZAX (tyL plT) (clL plC);have hnew:ZN Tryz.prog 38 [.x (.sl [[.str [99,110],.int .i64 1,.bool false],[.str [115,110],.int .i64 1,.bool false],[.str [111,117],.int .i64 1,.bool false],[.str [100,99],.int .i64 1,.bool false],[.str [111],.int .i64 1,.bool false],[.str [100,101,115,99,114,105,112,116,105,111,110],.int .i64 1,.bool false],[.str [109,97,105,108],.int .i64 1,.bool false],[.str [111,98,106,101,99,116,99,108,97,115,115],.int .i64 1,.bool false],[.str [117,115,101,114,112,97,115,115,119,111,114,100],.int .i64 4,.bool true],[.str [117,105,100],.int .i64 1,.bool true],[.str [117,105,100,110,117,109,98,101,114],.int .i64 3,.bool true],[.str [109,101,109,98,101,114],.int .i64 5,.bool false],[.str [115,101,114,105,97,108,110,117,109,98,101,114],.int .i64 2,.bool false]]),.x (.sl [[.str [116,111,112],.sl [],.sl []],[.str [112,101,114,115,111,110],.sl [[.str [99,110]],[.str [115,110]]],.sl [[.str [100,101,115,99,114,105,112,116,105,111,110]],[.str [117,115,101,114,112,97,115,115,119,111,114,100]],[.str [109,97,105,108]],[.str [117,105,100]],[.str [117,105,100,110,117,109,98,101,114]],[.str [115,101,114,105,97,108,110,117,109,98,101,114]],[.str [109,101,109,98,101,114]]]],[.str [111,114,103,97,110,105,122,97,116,105,111,110,97,108,117,110,105,116],.sl [[.str [111,117]]],.sl [[.str [100,101,115,99,114,105,112,116,105,111,110]],[.str [109,101,109,98,101,114]]]],[.str [100,111,109,97,105,110],.sl [[.str [100,99]]],.sl [[.str [100,101,115,99,114,105,112,116,105,111,110]],[.str [111]]]],[.str [103,114,111,117,112],.sl [[.str [99,110]]],.sl [[.str [109,101,109,98,101,114]],[.str [100,101,115,99,114,105,112,116,105,111,110]]]]])] [] (.tup [.ptr 0 0,.x (.int .i64 0)]) (scO (tyL plT) (clL plC)):=
  Zat plT plC Zag ZZ7 _ _ (fun _=>⟨rfl,rfl⟩) (fun h=>absurd Zaa h)
 refine ZJ.mcallsX (fC 11 true ?_) (by first|decide|(simp;done)) hO (by first|rfl|exact hR);intro C0 E0;have uu:=Qy @ZIk @ZIs @ZIw @ZIh @ZEb @ZEr @ZEl @ZEk (ξ5 @ZAO @ZAW @ZW1 @ZJY.eq_1 @ZJY.eq_2);refine WI.seq ?_;refine WI.regB ZIF [] ?_;refine oS ?_;refine oN ?_;refine ZD ?_;refine WI.seq ?_;refine WI.regB ZIF [1] ?_;refine oG ?_;refine oC ?_;refine oS ?_;refine oN ?_;refine ZD ?_;refine WI.seq ?_;refine WI.regB ZIF [1] ?_;refine oS ?_
 iterate 7 refine oG ?_
 refine oS ?_;refine oN ?_;refine ZD ?_;refine WI.seq ?_;refine WI.pickA [1] ?_;refine WI.cutA ZF [15,29] 15 ?_;simp only[Qq,ZEG,ZNh,ZHP];refine oS ?_
 iterate 14 refine oG ?_
 refine oP ?_;refine ZZA [0,9] ?_;refine QE [] ?_;refine Zbt ?_;refine ZbC ?_;refine WR.regB (ZDH ZF ZRq hnew) [2] ?_;refine oC ?_;refine oS ?_
 iterate 2 refine oG ?_
 iterate 2 refine oS ?_
 refine oN ?_;refine ZD ?_;refine WI.seq ?_;refine WI.regB ZF [0] ?_
 iterate 2 refine oS ?_
 refine oN ?_;refine ZD ?_;refine WI.ret ?_;refine ZGc ?_;exact⟨rfl,[],rfl⟩
end Go.Proofs.YtiogclkbccdefaaGreatDoor
end
section
namespace Go.Proofs.YtiogclkbccdefaaGreatDoor
open Go.RowKit Go.Bo Go.Ab
def ZNw:List D→List Ob→Option (Bool×D)
 | [.ptr 0 0,.x (.str n)],[.box [.mref 1,.mref 2],.mpo .str true P1,.mpo .str true P2]=>(Qn ZB YU P1).bind fun L=>(Qn ZB Ka P2).bind fun M=>some (decide (n.length≤140737488355328),.tup [tyD (tyV L (ZE n)),.x (.bool (ZR L (ZE n)).isSome)])
 |_,_=>none
theorem ZUO: ∀args os r,ZNw args os=some (true,r)→r.clean=true∧ ∃X,ZN Tryz.prog 122 args os r (os++X):=by
 intro args os r h;unfold ZNw at h;split at h
 ·rename_i n P1 P2;obtain⟨L,hm0,h⟩:=Zt h;obtain⟨M,hm1,h⟩:=Zt h;simp only[Za,Zb,ZQ,Zg,true_and]at h;obtain⟨h1,rfl⟩:=h;rw[JO ZO JR hm0];rw[JO ZO KD hm1];exact⟨rfl,[],by rw[KS];exact ZZx L M n h1⟩
 ·cases h
def okM(M:List (Tx×YA)):Prop:= ∀p∈M,p.2.2.1.length≤1000000∧p.2.2.2.1.length≤1000000
instance (M:List (Tx×YA)):Decidable (okM M):=inferInstanceAs (Decidable (∀p∈M,_))
theorem ZZ5{M:List (Tx×YA)}(h:okM M):bdC M:=by
 intro k;unfold clV;rcases hm:ZR M k with _|c
 ·simp
 ·have:=h _ (ZSa hm);simpa using this
def ZZl(M:List (Tx×YA))(l:List ZX):Prop:=okM M∧smA l∧ ∀a∈l,∀v∈a.2.1,v.length≤1000000
instance (M:List (Tx×YA)) (l:List ZX):Decidable (ZZl M l):=inferInstanceAs (Decidable (_∧_∧_))
def Zbw(L:List (Tx×Zn)):Prop:=L.length≤1000000∧ ∀p∈L,p.1.length≤1000000
instance (L:List (Tx×Zn)):Decidable (Zbw L):=inferInstanceAs (Decidable (_∧_))
theorem ZN.nn{P:Program}{f:FuncId}{args:List D}{os os':List Ob}{r:D}(h:ZN P f (args.map D.nn) os r os'):ZN P f args os r os':=by
 intro c E vs R hvl;refine h c E vs R ⟨by rw[YL];exact hvl.1,fun j d v hd hv=> ?_⟩;rw[Zr]at hd;obtain⟨d0,hd0,rfl⟩:=ZT hd;exact(hvl.2 j d0 v hd0 hv).nn
end Go.Proofs.YtiogclkbccdefaaGreatDoor
end
section
namespace Go.Proofs.YtiogclkbccdefaaGreatDoor
open Go.RowKit Go.Bo Go.Ab
def ZLg:List D→List Ob→Option (Bool×D)
 | [.ptr 0 0,.agg [.x (.str dn),.x (.sl R)]],[.box [.mref 1,.mref 2],.mpo .str true P1,.mpo .str true P2]=>(Qn ZB YU P1).bind fun L=>(Qn ZB Ka P2).bind fun M=>(ZZ Zi R).bind fun l=>some (decide (ZZl M l),.x (.int .i64 (ZRV L M l)))
 |_,_=>none
theorem ZRR: ∀args os r,ZLg args os=some (true,r)→r.clean=true∧ ∃X,ZN Tryz.prog 78 args os r (os++X):=by
 intro args os r h;unfold ZLg at h;split at h
 ·rename_i dn R P1 P2;obtain⟨L,hm0,h⟩:=Zt h;obtain⟨M,hm1,h⟩:=Zt h;obtain⟨l,hr0,h⟩:=Zt h;simp only[Za,Zb,ZQ,Zg,true_and]at h;obtain⟨h1,rfl⟩:=h;rw[JO ZO JR hm0];rw[JO ZO KD hm1];rw[←ZY YV hr0];exact⟨rfl,[],by rw[KS];exact ZXs L M (dn,l,()) h1.2.1 h1.2.2 (ZZ5 h1.1)⟩
 ·cases h
def ZHX:Tabs:=ZU (ZU (ZS) 81 ZHC) 82 ZC2
theorem ZSQ:SsOk Tryz.prog ZHX:=ZH (ZH (ZF) (Zc 81) ZNT) (Zc 82) ZPE
theorem ZWP:(∀a,ZHX.q 81 a=ZHC a)∧(∀a,ZHX.q 82 a=ZC2 a)∧(∀f a o,ZHX.r f a o=none)∧(∀f a o,ZHX.k f a o=none):=⟨fun _=>rfl,fun _=>rfl,fun _ _ _=>rfl,fun _ _ _=>rfl⟩
theorem Zao(s t:Tx):ZC Tryz.prog 43 [.x (.str s),.x (.str t)] (.x (.int .i64 (cmpS (Yf s) (Yf t)))):=by
 refine ZJ.pure (fC 43 true ?_) rfl;intro C0 E0;have uu:=ξ5 @ZHC.eq_1 @ZHC.eq_2 @ZC2.eq_1 @ZC2.eq_2 @ZWP;have tT:=ZSQ;refine nz ?_;refine rg tT [0,1] ?_;refine rg tT [1,5] ?_;refine rg tT [5,7] ?_;refine rg tT [4] ?_;refine lf ?_
 first|rfl|exact⟨rfl,rfl⟩|trivial
def ZLE:List D→Option (Bool×D)
 | [.x (.str s),.x (.str t)]=>some (true,.x (.int .i64 (cmpS (Yf s) (Yf t))))
 |_=>none
theorem ZYD: ∀args r,ZLE args=some (true,r)→ZC Tryz.prog 43 args r:=by
 intro args r h;unfold ZLE at h;split at h
 ·rename_i s t;simp only[Za,Zb,ZQ,Zg,true_and]at h;obtain rfl:=h;exact(Zao s t)
 ·cases h
end Go.Proofs.YtiogclkbccdefaaGreatDoor
end
section
namespace Go.Proofs.YtiogclkbccdefaaGreatDoor
open Go.RowKit Go.Bo Go.Ab
def JL(l:List Tx)(s:Tx):Nat:=(l.takeWhile fun a=>Op.bytesLess (Yf a) (Yf s)).length
theorem ZOU(l:List Tx)(s:Tx):JL l s≤l.length:=(List.takeWhile_sublist _).length_le
theorem ZRT(l:List Tx)(s:Tx)(j:Nat)(h:j<JL l s):Op.bytesLess (Yf (l[j]'(ZLr h (ZOU l s)))) (Yf s)=true:=by
 have hp:(l.takeWhile fun a=>Op.bytesLess (Yf a) (Yf s))<+:l:=List.takeWhile_prefix _;have:=YK.1 (List.all_takeWhile (p:=fun a:Tx=>Op.bytesLess (Yf a) (Yf s)) (l:=l)) _ (YY (h:=h));rwa [hp.getElem h]at this
theorem ZRj(l:List Tx)(s:Tx)(h:JL l s<l.length):Op.bytesLess (Yf l[JL l s]) (Yf s)=false:=by
 unfold JL at*
 induction l with
 |nil=>simp at h
 |cons a l ih=>
  by_cases ha:Op.bytesLess (Yf a) (Yf s)=true
  ·simp only[List.takeWhile_cons,ha,if_true,Jh]at h⊢;simpa using ih (by omega)
  ·simp only[List.takeWhile_cons,ha,Yz,if_false,ξN];simpa using ha
abbrev SoL(l:List Tx):Prop:=l.Pairwise fun a b=>Op.bytesLess (Yf a) (Yf b)=true
theorem ZY3{l:List Tx}(hs:SoL l)(s:Tx)(h:Nat)(hl:h<l.length):Op.bytesLess (Yf l[h]) (Yf s)=true↔h<JL l s:=by
 constructor
 ·intro hb;apply ZSD;intro hc;have hle:JL l s≤h:=by omega
  have hpl:JL l s<l.length:=by omega
  have hst:=ZRj l s hpl;rcases Nat.lt_or_eq_of_le hle with hlt|heq
  ·have:=ZJl.1 hs _ _ hpl hl hlt;rw[bl_trans _ _ _ this hb]at hst;cases hst
  ·have:l[JL l s]=l[h]:=by congr 1
   rw[this,hb]at hst;cases hst
 ·intro hb;exact ZRT l s h hb
def ZRO(l:List Tx)(s:Tx):Bool:=match l[JL l s]? with
 |some a=>Yf a==Yf s
 |none=>false
def ZKD:Tabs:=ZU (ZS) 43 ZLE
theorem ZS6:SsOk Tryz.prog ZKD:=ZH (ZF) (Zc 43) ZYD
theorem ZVs:(∀a,ZKD.q 43 a=ZLE a)∧(∀f a o,ZKD.r f a o=none)∧(∀f a o,ZKD.k f a o=none):=⟨fun _=>rfl,fun _ _ _=>rfl,fun _ _ _=>rfl⟩
theorem Zav(l:List Tx)(n:Tx)(hs:SoL l)(hl:l.length≤1000000):ZC Tryz.prog 42 [.x (.sl (rows ZB l)),.x (.str n),.fn 43 []] (.tup [.x (.int .i64 (JL l n)),.x (.bool (ZRO l n))]):=by
 have hpl:=ZOU l n;have hhit:ZRO l n=match l[JL l n]? with|some a=>Yf a==Yf n|none=>false:=rfl
 refine ZJ.pure (fC 42 true ?_) rfl;intro C0 E0;have uu:=KE @ZLE.eq_1 @ZLE.eq_2 @ZVs;have tT:=ZS6;refine nz ?_;refine rg tT [0,1,2] ?_;refine rg tT [0,1,2,8] ?_;refine rg tT [0,1,2,8,9,10] ?_;refine WI.loop (fun φ os=> ∃(i j:Nat),φ= [(0,.x (.sl (rows ZB l))),(1,.x (.str n)),(2,.fn 43 []),(8,.x (.int .i64 l.length)),(9,.x (.int .i64 i)),(10,.x (.int .i64 j))]∧os= []∧i≤JL l n∧JL l n≤j∧j≤l.length) (dif) ?_ (fun φ os hI=> ?_)
 ·exact⟨0,l.length,rfl,rfl,by omega,hpl,by omega⟩
 ·obtain⟨i,j,rfl,rfl,hi,hj,hjl⟩:=hI;refine nz ?_;refine rg tT [0,1,2,8,9,10,17] ?_;refine cd (fun h0=> ?_) (fun h0=> ?_)
  ·refine rg tT [0,1,2,8,9,10,11] ?_;have hij:i<j:=by omega
   rw[ZXT i j (by omega)];obtain⟨M,hM⟩: ∃M,M=(i+j)/2:=⟨_,rfl⟩;rw[←hM];have hMl:M<l.length:=by omega
   have hrw:(rows ZB l)[M]? =some [X.str (l.getD M [])]:=by simp[rows,hMl,ZB]
   have hiff:=ZY3 hs n M hMl;rw[show l[M]=l.getD M [] by simp[hMl],←ZNF]at hiff;generalize l.getD M []=x at hrw hiff;have uu:=Yq uu hrw;refine rg tT [0,1,2,8,9,10,11,31] ?_;refine cd (fun h1=> ?_) (fun h1=> ?_)
   ·have hlt:M<JL l n:=hiff.1 (by simpa using h1);refine rg tT [0,1,2,8,9,10] ?_
    first|exact⟨⟨M+1,j,rfl,rfl,by omega,by omega,by omega⟩,by simp[dif,Ab.get,D.val,ZG];omega⟩|exact⟨⟨i,M,rfl,rfl,by omega,by omega,by omega⟩,by simp[dif,Ab.get,D.val,ZG];omega⟩
   ·have hlt: ¬M<JL l n:=fun h=>absurd (hiff.2 h) (by simpa using h1)
    refine rg tT [0,1,2,8,9,10] ?_
    first|exact⟨⟨M+1,j,rfl,rfl,by omega,by omega,by omega⟩,by simp[dif,Ab.get,D.val,ZG];omega⟩|exact⟨⟨i,M,rfl,rfl,by omega,by omega,by omega⟩,by simp[dif,Ab.get,D.val,ZG];omega⟩
  ·obtain rfl:JL l n=i:=by omega
   by_cases hk:JL l n<l.length
   ·have hrw:(rows ZB l)[JL l n]? =some [X.str (l.getD (JL l n) [])]:=by simp[rows,hk,ZB]
    rw[Zl hk,show l[JL l n]=l.getD (JL l n) [] by simp[hk]]at hhit;generalize l.getD (JL l n) []=x at hrw hhit;have hd:=Zd (show((JL l n:Nat):Int)<(l.length:Int) by omega);have uu:=KE uu hrw hd;refine rg tT [6,7] ?_;refine lf ?_;have hcb:(cmpS (Yf x) (Yf n)==0)=(Yf x==Yf n):=by rw[ZAs];simp[ZMW]
    rw[hhit,hcb]
   ·have hrw:(rows ZB l)[JL l n]? =none:=ZCV (by rw[YC];omega);rw[ZCV (by omega)]at hhit;have hd:=decide_eq_false (show ¬((JL l n:Nat):Int)<(l.length:Int) by omega);have uu:=KE uu hrw hd;refine rg tT [6,7] ?_;refine lf ?_;rw[hhit]
def ZVM:List D→Option (Bool×D)
 | [.x (.sl R),.x (.str n),.fn 43 []]=>(ZZ ZB R).bind fun l=>some (decide (SoL l∧l.length≤1000000),.tup [.x (.int .i64 (JL l n)),.x (.bool (ZRO l n))])
 |_=>none
theorem ZYR: ∀args r,ZVM args=some (true,r)→ZC Tryz.prog 42 args r:=by
 intro args r h;unfold ZVM at h;split at h
 ·rename_i R n;obtain⟨l,hr0,h⟩:=Zt h;simp only[Za,Zb,ZQ,Zg,true_and]at h;obtain⟨h1,rfl⟩:=h;rw[←ZY ZO hr0];exact(Zav l n h1.1 h1.2)
 ·cases h
end Go.Proofs.YtiogclkbccdefaaGreatDoor
end
section
namespace Go.Proofs.YtiogclkbccdefaaGreatDoor
open Go.RowKit Go.Bo Go.Ab
end Go.Proofs.YtiogclkbccdefaaGreatDoor
end
section
namespace Go.Proofs.YtiogclkbccdefaaGreatDoor
open Go.RowKit Go.Bo Go.Ab
end Go.Proofs.YtiogclkbccdefaaGreatDoor
end
section
namespace Go.Ab
open Go.RowKit Go.Bo
theorem ZN0{P:Program}{f:FuncId}(OS:List Ob)(id:Nat)(dk:KK)(ag:Bool)(l:List Pr)(ho:OS[id]? =some (.mpo dk ag l))(hraw: ∀(b:Nat) (es:Array MapEntry) (clk:Nat) (w:World),w.heap[b]? =some (.map es clk)→Calls P f #[.map (some b)] w fun e w'=>e= .returned (.map (some w.heap.size))∧w'=w.alloc (.map es clk)):
  ZAw P f [.mref id] OS (fun j=> .mref j) (.mpo dk ag l):=by
 intro Y jd c E vs hd R hvl;obtain⟨hsz,hv⟩:=hvl;obtain⟨v0,rfl⟩: ∃v0,vs= #[v0]:=by
  obtain⟨vl⟩:=vs
  match vl,hsz with
  | [a],_=>exact⟨a,rfl⟩
 have h0:=hv 0 _ v0 rfl rfl;have ho':(OS++Y)[id]? =some (.mpo dk ag l):=by rw[Ya (ZP ho).1];exact ho
 obtain⟨p,hp,hok⟩:=R.at ho';obtain⟨es,clk,k1,k2⟩:=Zm.copied (b:=p.1) hok;cases h0 with
 |mref ho2 hk hb=>
  rw[hp]at hb;cases hb;refine(hraw _ es clk E.w k1).mono ?_;rintro e w' ⟨rfl,rfl⟩;obtain⟨E',q1,q2,q3,q4⟩:=ZNB (dk:=dk) (ag:=ag) (l:=l) R hd es clk (fun E' os' ev hw=>k2 E' os' _ ev (by rw[hw];exact heap_alloc_new _ _));exact⟨_,E',rfl,q1,q2,q3,q4⟩
def ZMz(S:Tabs)(f:FuncId)(g:List D→List Ob→Option (Bool×(Nat→D)×Ob)):Tabs:=⟨S.q,S.t,S.r,fun f' args os=>if f'=f then g args os else S.k f' args os⟩
theorem ZPD{P:Program}{S:Tabs}(hS:SsOk P S){f:FuncId}{g:List D→List Ob→Option (Bool×(Nat→D)×Ob)}(he:Enters P f)(hg: ∀args os r ob,g args os=some (true,r,ob)→ZAw P f args os r ob):SsOk P (ZMz S f g):=by
 refine⟨hS.q,hS.t,hS.r,fun f' args os r ob h=> ?_⟩;simp only[ZMz]at h;split at h
 ·rename_i e;subst e;exact⟨he,hg _ _ _ _ h⟩
 ·exact hS.k _ _ _ _ _ h
end Go.Ab
namespace Go.Proofs.YtiogclkbccdefaaGreatDoor
open Go.RowKit Go.Bo Go.Ab
def ZRk:List D→List Ob→Option (Bool×D×List Ob)
 | [.ref 0 n 0 n',.x (.int .i64 i),.ref 1 1 0 1],[.rows false e 1 rs,.rows false e' 1 [r]]=>some (decide (n=rs.length∧n'=rs.length∧0≤i∧i≤rs.length∧rs.length≤1000000∧e=9∧e'=9),.ref 0 (n+1) 0 (n+1),[.rows false e 1 (YD rs i.toNat [r]),.rows false e' 1 [r]])
 |_,_=>none
theorem ZPF: ∀args os r os',ZRk args os=some (true,r,os')→ZN Tryz.prog 44 args os r os':=by
 intro args os r os' h;unfold ZRk at h;split at h
 ·rename_i n n' i e rs e' r0;simp only[Za,Zb,Zg]at h;obtain⟨⟨rfl,rfl,h0,h1,h2,rfl,rfl⟩,rfl,rfl⟩:=h;have h:=ZZF rs r0 i.toNat (by omega) h2;rwa [show((i.toNat:Nat):Int)=i by omega]at h
 ·cases h
theorem ZZ2(r:List X):ZN Tryz.prog 44 [.x .nils,.x (.int .i64 0),.ref 0 1 0 1] [.rows false 9 1 [r]] (.ref 1 1 0 1) [.rows false 9 1 [r],.rows false 9 1 [r]]:=by
 intro c E vs R hvl;obtain⟨E1,k1,k2,k3,k4⟩:=Kl (fz:=false) (e:=9) (sz:=1) (rs:= []) (cu:= .slice none 0 0) (xs:= []) R (Kept.refl _ E.w) ⟨by simp,.inl ⟨rfl,rfl⟩⟩ (fun b hb=>by cases hb) (fun r hr=>by cases hr) (fun i r j x v h=>by simp at h);have h:=ZN.lift ZPF [.ref 1 0 0 0,.x (.int .i64 0),.ref 0 1 0 1] [.rows false 9 1 [r],.rows false 9 1 []] (.ref 1 1 0 1) [.rows false 9 1 [r],.rows false 9 1 [r]] rfl;refine k1▸(h c E1 vs k2 ⟨hvl.1,fun j d v hd hv=> ?_⟩).mono ?_
 ·match j with
  |0=>cases hd;have:=V.nils (hvl.2 0 _ v rfl hv);subst this;exact k4
  |j+1=>exact(hvl.2 (j+1) d v hd hv).mono k3
 ·rintro e w' ⟨v,E2,rfl,rfl,R2,e2,hv⟩;exact⟨v,E2,rfl,rfl,R2,k3.trans e2,hv⟩
def ZQy:List D→List Ob→Option (Bool×D×List Ob)
 | [.x .nils,.x (.int .i64 0),.ref 0 1 0 1],[.rows false e 1 [r]]=>some (decide (e=9),.ref 1 1 0 1,[.rows false e 1 [r],.rows false e 1 [r]])
 |a,o=>ZRk a o
theorem ZU5: ∀args os r os',ZQy args os=some (true,r,os')→ZN Tryz.prog 44 args os r os':=by
 intro args os r os' h;unfold ZQy at h;split at h
 ·simp only[Za,Zb,Zg]at h;obtain⟨rfl,rfl,rfl⟩:=h;exact ZZ2 _
 ·exact ZPF _ _ _ _ h
def ZQr:List D→List Ob→Option (Bool×D×List Ob)
 | [.ref 0 n 0 n',.fn 56 [.ptr 1 0]],[.rows false e 1 R,.box [.x (.str s)]]=>(ZZ ZB R).map fun l=>(decide (n=l.length∧n'=l.length∧e=9∧l.length≤1000000∧l≠ []),.ref 2 (ZBV l s).length 0 (ZBV l s).length,[.old 1 (l.length+1),.box [.x (.str s)],.rows false 9 1 (rows ZB (ZBV l s))])
 |_,_=>none
theorem ZWQ: ∀args os r os',ZQr args os=some (true,r,os')→ZN Tryz.prog 55 args os r os':=by
 intro args os r os' h;unfold ZQr at h;split at h
 ·rename_i n n' e R s;obtain⟨l,h1,h⟩:=ZT h;simp only[Zb,Zg]at h;obtain⟨⟨rfl,rfl,rfl,h2,h3⟩,rfl,rfl⟩:=h;rw[←ZY ZO h1];exact ZZn l s h2 h3
 ·cases h
def ZOb:List D→List Ob→Option (Bool×D×List Ob)
 | [],[]=>some (true,.ptr 0 0,[.box [.mref 1,.mref 2],.mpo .str true (tyM (tyL plT)),.mpo .str true (clM (clL plC))])
 |_,_=>none
theorem ZSn: ∀args os r os',ZOb args os=some (true,r,os')→ZN Tryz.prog 11 args os r os':=by
 intro args os r os' h;unfold ZOb at h;split at h
 ·cases h;exact ZX4
 ·cases h
def ZZ3(dc:Tx):List ZX:= [([111,98,106,101,99,116,99,108,97,115,115],[[100,111,109,97,105,110]],()),([100,99],[dc],())]
theorem ZVy(dn dc:Tx):ZC Tryz.prog 13 [.x (.str dn),.x (.str dc)] (.agg [.x (.str dn),.x (.sl (rows Zi (ZZ3 dc)))]):=evP 300 13 ZF []
def ZLY:List D→Option (Bool×D)
 | [.x (.str dn),.x (.str dc)]=>some (true,.agg [.x (.str dn),.x (.sl (rows Zi (ZZ3 dc)))])
 |_=>none
theorem ZRh: ∀args r,ZLY args=some (true,r)→ZC Tryz.prog 13 args r:=by
 intro args r h;unfold ZLY at h;split at h
 ·rename_i dn dc;simp only[Za,Zb,ZQ,Zg,true_and]at h;obtain rfl:=h;exact(ZVy dn dc)
 ·cases h
def ZTI:Tabs:=Jp (Jp (ZJe (ZJe (ZU (ZU (ZU (ZU (ZU (ZU (Jp (ZU (ZS) 13 ZLY) 11 ZOb) 39 ZLC) 81 ZHC) 121 Qk) 123 ZVa) 41 ZCm) 42 ZVM) 122 ZNw) 78 ZLg) 44 ZQy) 55 ZQr
theorem ZTF:SsOk Tryz.prog ZTI:=Yx (Yx (ZIa (ZIa (ZH (ZH (ZH (ZH (ZH (ZH (Yx (ZH (ZF) (Zc 13) ZRh) (Zc 11) ZSn) (Zc 39) ZRP) (Zc 81) ZNT) (Zc 121) ZII) (Zc 123) ZYm) (Zc 41) ZKJ) (Zc 42) ZYR) (Zc 122) ZUO) (Zc 78) ZRR) (Zc 44) ZU5) (Zc 55) ZWQ
def ZLn:List D→List Ob→Option (Bool×(Nat→D)×Ob)
 | [.mref id],os=>match os[id]? with
  |some (.mpo .str true l)=>some (true,fun j=> .mref j,.mpo .str true l)
  |_=>none
 |_,_=>none
theorem ZRQ: ∀args os r ob,ZLn args os=some (true,r,ob)→ZAw Tryz.prog 46 args os r ob:=by
 intro args os r ob h;unfold ZLn at h;split at h
 ·split at h
  ·rename_i h1;cases h;exact ZN0 _ _ .str true _ h1 (fun b es clk w hb=>AnyW.maps_Clone Tryz.clMap b es clk w hb)
  ·cases h
 ·cases h
def ZLS:List D→List Ob→Option (Bool×(Nat→D)×Ob)
 | [.ref id n 0 n'],os=>match os[id]? with
  |some (.rows _ _ 1 R)=>(ZZ ZB R).map fun l=>(decide (n=l.length∧n'=l.length∧l.length≤1000000),fun j=> .ref j n 0 n,.rows false 9 1 R)
  |_=>none
 |_,_=>none
theorem ZRM: ∀args os r ob,ZLS args os=some (true,r,ob)→ZAw Tryz.prog 47 args os r ob:=by
 intro args os r ob h;unfold ZLS at h;split at h
 ·split at h
  ·rename_i h1;obtain⟨l,h2,h⟩:=ZT h;simp only[Zb,Zg]at h;obtain⟨⟨rfl,rfl,h3⟩,rfl,rfl⟩:=h;rw[←ZY ZO h2]at h1⊢;exact ZNH _ _ _ _ l h1 h3
  ·cases h
 ·cases h
def ZF4:Tabs:=ZMz (ZMz ZTI 46 ZLn) 47 ZLS
theorem ZHh:SsOk Tryz.prog ZF4:=ZPD (ZPD ZTF (Zc 46) ZRQ) ZHJ ZRM
end Go.Proofs.YtiogclkbccdefaaGreatDoor
end
section
namespace Go.Proofs.YtiogclkbccdefaaGreatDoor
open Go.RowKit Go.Bo Go.Ab
abbrev trP(P1 P2:List Pr)(Y:List Ob):List Ob:= .box [.ptr 1 0,.mref 4,.mref 5]:: .box [.mref 2,.mref 3]:: .mpo .str true P1:: .mpo .str true P2::Y
abbrev TB:=Tx×Nat×List Tx
def QP(x:TB):Pr:=([.str x.1],[.ref (x.2.1+6) x.2.2.length 0 x.2.2.length])
def stB(x:TB):Tx×List Tx:=(x.1,x.2.2)
def okB(Y:List Ob)(B:List TB):Prop:=(B.map (·.1)).Nodup∧(B.map (·.2.1)).Nodup∧ ∀x∈B,Y[x.2.1]? =some (.rows false 9 1 (rows ZB x.2.2))∧x.2.2.length≤1000000
def cpB:Nat→List (Tx×List Tx)→List Pr
 |_,[]=> []
 |k,x::l=>([.str x.1],[.ref k x.2.length 0 x.2.length])::cpB (k+1) l
theorem ZNP: ∀(l:List (Tx×List Tx)) (k:Nat) (x:Tx×List Tx),cpB k (l++ [x])=cpB k l++ [([.str x.1],[.ref (k+l.length) x.2.length 0 x.2.length])]
 | [],k,x=>rfl
 |y::l,k,x=>by rw[ZBR,cpB,ZNP l,cpB,Jh,show k+1+l.length=k+(l.length+1) by omega];rfl
theorem ZQn: ∀(l:List (Tx×List Tx)) (k:Nat) (s:Tx) (v:List D),s∉l.map (·.1)→YI (cpB k l) [.str s] v=cpB k l++ [([.str s],v)]
 | [],k,s,v,_=>rfl
 |y::l,k,s,v,h=>by
  rw[Yc,QI,not_or]at h;have hne:ZAn [X.str s] [X.str y.1]=false:=by simp[ZAn,X.keq,h.1]
  have ih:=ZQn l (k+1) s v h.2;simp only[cpB,YI,hne,Yz,if_false,ih,ZBR]
theorem ZPw{α:Type}: ∀(l:List α) (i:Nat) (a:α),l[i]? =some a→(a::l.eraseIdx i).Perm l
 |b::l,0,a,h=>by cases h;exact ZM9 _
 |b::l,i+1,a,h=>(List.Perm.swap b a _).trans ((ZPw l i a (by simpa using h)).cons b)
theorem ZTj{α β:Type}(f:α→β): ∀(l:List α) (i:Nat),(l.map f).eraseIdx i=(l.eraseIdx i).map f
 | [],i=>rfl
 |b::l,0=>rfl
 |b::l,i+1=>by simp only[Yc,ZWw,ZTj f l i]
def rwB(l:List (Tx×List Tx)):List Ob:=l.map fun x=> .rows false 9 1 (rows ZB x.2)
def cpO(P1 P2 m:List Pr)(Y:List Ob)(o:Ob)(l:List (Tx×List Tx)):List Ob:=trP P1 P2 (.mpo .str true m::o::(Y++ .mpo .str true m:: .mpo .str false (cpB (Y.length+10) l):: .box [.ptr 1 0,.mref (Y.length+6),.mref (Y.length+7)]:: .itr::rwB l))
theorem ZXc(l:List (Tx×List Tx))(B':List TB)(i:Nat)(b:TB)(hb:B'[i]? =some b):(l++ [stB b]++(B'.eraseIdx i).map stB).Perm (l++B'.map stB):=by
 rw[KJ];exact List.Perm.append_left l ((ZPw B' i b hb).map stB)
theorem ZQU(P1 P2 m:List Pr)(B:List TB)(Y:List Ob)(B':List TB)(l:List (Tx×List Tx))(i:Nat)(b:TB)(hb:B'[i]? =some b)(hp:(l++B'.map stB).Perm (B.map stB))(hn:(B.map (·.1)).Nodup)(OS:List Ob)
  (hOS:OS=cpO P1 P2 m Y (.mit .str false (B.map QP) (Y.length+9) ((B'.map QP).eraseIdx i) (some (QP b))) l):
  (OS++ [Ob.rows false 9 1 (rows ZB b.2.2)]).set (Y.length+7) (.mpo .str false (YI (cpB (Y.length+10) l) [.str b.1] [.ref (Y.length+10+l.length) b.2.2.length 0 b.2.2.length]))=cpO P1 P2 m Y (.mit .str false (B.map QP) (Y.length+9) ((B'.eraseIdx i).map QP) (some (QP b))) (l++ [stB b]):=by
 have hno:b.1∉l.map (·.1):=by
  intro hin;have h1:((l++B'.map stB).map (·.1)).Nodup:=(hp.map (·.1)).nodup_iff.2 (by rw[KP];exact hn);rw[Jq]at h1;exact(ZGv.1 h1).2.2 _ hin _ (YQ.2 ⟨stB b,YQ.2 ⟨b,YJ hb,rfl⟩,rfl⟩) rfl
 rw[ZQn _ _ _ _ hno,hOS];have he:(B'.map QP).eraseIdx i=(B'.eraseIdx i).map QP:=ZTj QP B' i;have hs:(cpB (Y.length+10) l)++ [([X.str b.1],[D.ref (Y.length+10+l.length) b.2.2.length 0 b.2.2.length])]=cpB (Y.length+10) (l++ [stB b]):=by rw[ZNP];rfl
 have hr:rwB (l++ [stB b])=rwB l++ [Ob.rows false 9 1 (rows ZB b.2.2)]:=by simp[rwB,stB]
 rw[hs,he];unfold cpO trP;rw[hr];simp only[ZBR,ZBu,KJ];rw[ZIA _ _ (by omega)];simp
theorem ZbE(P1 P2 m:List Pr)(B:List TB)(Y:List Ob)(B':List TB)(l:List (Tx×List Tx))(i:Nat)(b:TB)(hb:B'[i]? =some b)(φ:List (Nat×D))(cur:Option Pr):ZLH 5 φ (cpO P1 P2 m Y (.mit .str false (B.map QP) (Y.length+9) ((B'.eraseIdx i).map QP) (some (QP b))) (l++ [stB b]))<ZLH 5 φ (cpO P1 P2 m Y (.mit .str false (B.map QP) (Y.length+9) (B'.map QP) cur) l):=by
 have:=(ZP hb).1;simp only[ZLH,cpO,ξZ,ZBb,YL,ZRd];rw[if_pos this];omega
def CpP(P1 P2 m:List Pr)(B:List TB)(Y:List Ob)(r:D)(os':List Ob):Prop:=
 ∃l:List (Tx×List Tx),l.Perm (B.map stB)∧r= .ptr (Y.length+8) 0∧os'=cpO P1 P2 m Y (.mpo .str false (B.map QP)) l
set_option maxHeartbeats 4000000 in
theorem ZaT(P1 P2 m:List Pr)(B:List TB)(Y:List Ob)(hB:okB Y B):ZJ Tryz.prog 19 [.ptr 0 0] (trP P1 P2 (.mpo .str true m:: .mpo .str false (B.map QP)::Y)) (CpP P1 P2 m B Y):=by
 have hck:=ZN0 (P:=Tryz.prog) (f:=46) (trP P1 P2 (.mpo .str true m:: .mpo .str false (B.map QP)::Y)) 4 .str true m rfl (fun b es clk w hb=>AnyW.maps_Clone Tryz.clMap b es clk w hb);refine fC 19 false ?_;intro C0 E0;have uu:=ξ4 @Za0 @Za6 @Zaz @ZbD;refine WI.seq ?_;refine WI.regB ZF [0] ?_;refine oS ?_;refine oN ?_;refine ZD ?_;refine WI.seq ?_;refine WI.seq ?_;refine WI.regB ZF [0,7] ?_;refine oS ?_;refine oG ?_;refine oN ?_;refine ZD ?_;refine WI.cond (b:=_) rfl rfl (fun h0=> ?_) (fun h0=> ?_)
 ·exfalso;simp at h0
 ·try simp only[zB]at h0
  refine WI.skip ?_;refine ZD ?_;refine WI.seq ?_;refine WI.dregB (ZS5 ZF (Zc 46) hck) [0,3] ?_
  iterate 3 refine Yo ?_
  refine dQG ?_
  iterate 3 refine Yo ?_
  refine dQG ?_;refine dKC ?_;refine dKG ?_;refine dFG ?_;refine dAG ?_;refine Yo ?_;refine dN ?_;refine ZD ?_;refine WI.seq ?_;refine WI.seq ?_;refine WI.regB ZF [3,24] ?_
  iterate 3 refine oS ?_
  iterate 2 refine oG ?_
  refine oN ?_;refine ZD ?_;refine WI.block ?_;have hz: ∀(o:Ob) (Z:List Ob),Y++ [Ob.mpo .str true m]++ [Ob.mpo .str false []]++ [o]++Z=Y++(Ob.mpo .str true m::Ob.mpo .str false []::o::Z):=fun o Z=>by simp
  simp only[hz,KJ,ZBR,ZAJ,Zw,Jh,ξN,Yi,ZFS,Nat.reduceAdd];refine WI.loop (fun φ os=> ∃(B':List TB) (l:List (Tx×List Tx)) (cur:Option Pr),φ= [(3,.ptr (Y.length+8) 0),(24,.iref 5 (Y.length+9))]∧os=cpO P1 P2 m Y (.mit .str false (B.map QP) (Y.length+9) (B'.map QP) cur) l∧(l++B'.map stB).Perm (B.map stB)∧ ∀b∈B',b∈B) (ZLH 5) ?_ (fun φ os hI=> ?_)
  ·exact⟨B,[],none,rfl,rfl,ZM9 _,fun b hb=>hb⟩
  ·obtain⟨B',l,cur,rfl,rfl,hp,hm⟩:=hI;rw[cpO];refine WI.seq ?_;refine WI.nextMA [3,24,26] (fun hn5=> ?_) (fun i5 q5 hn5=> ?_)
   ·obtain rfl:B'= []:=List.map_eq_nil_iff.1 hn5;refine ZD ?_;refine WI.seq ?_;refine WI.cond (b:=_) rfl rfl (fun h1=> ?_) (fun h1=> ?_)
    ·exact absurd h1 (by decide)
    ·try simp only[zB]at h1
     refine WI.exit ?_;refine Jt ?_;refine Jt ?_;refine ZBE ?_;refine ZD ?_;refine WI.seq ?_;refine WI.thawA 5 ?_;refine WI.regB ZF [2] ?_
     iterate 2 refine oS ?_
     refine oN ?_;refine ZD ?_;refine WI.ret ?_
     first|refine lfR ?_|refine ZIQ ?_|refine ZGc ?_|refine ZIU ?_
     exact⟨l,by rw[ZBU,KS]at hp;exact hp,rfl,rfl⟩
   ·rw[Zr]at hn5;obtain⟨b,hb,rfl⟩:=ZT hn5;refine ZD ?_;refine WI.seq ?_;refine WI.cond (b:=_) rfl rfl (fun h1=> ?_) (fun h1=> ?_)
    ·try simp only[zB]at h1
     refine WI.skip ?_;refine ZD ?_;refine WI.block ?_;refine WI.seq ?_;refine WI.regB ZF [3,4,5,24] ?_
     iterate 3 refine oG ?_
     iterate 2 refine oS ?_
     refine oN ?_;refine ZD ?_;have hbB:=hm b (YJ hb);obtain⟨hrow,hbl⟩:=hB.2.2 b hbB;have hkd:keyD .str (QP b).fst= .x (.str b.1):=rfl;have hcd:ZCv false (QP b).snd= .ref (b.2.1+6) b.2.2.length 0 b.2.2.length:=rfl;obtain⟨OS,hOS⟩: ∃OS,OS=cpO P1 P2 m Y (.mit .str false (B.map QP) (Y.length+9) ((B'.map QP).eraseIdx i5) (some (QP b))) l:=⟨_,rfl⟩;unfold cpO trP at hOS;rw[hkd,hcd,←hOS];have h8:OS[Y.length+8]? =some (.box [.ptr 1 0,.mref (Y.length+6),.mref (Y.length+7)]):=by rw[hOS];simp[KR]
     have hol:OS.length=Y.length+10+l.length:=by rw[hOS];simp[rwB];omega
     have h7: ∀o:Ob,(OS++ [o])[Y.length+7]? =some (.mpo .str false (cpB (Y.length+10) l)):=fun o=>by rw[hOS];simp[KR]
     have hr6:OS[b.2.1+6]? =some (.rows false 9 1 (rows ZB b.2.2)):=by
      rw[hOS];show(Y++_)[b.2.1]? =_;rw[Ya (ZP hrow).1];exact hrow
     have hck:=ZNH OS (b.2.1+6) false 9 b.2.2 hr6 hbl;have uu:=ξ6 uu h8 hol h7 hr6 (YC ZB b.2.2);refine WI.dregB (ZS5 ZF ZHJ hck) [3,24] ?_
     iterate 3 refine Yo ?_
     refine dQG ?_
     iterate 2 refine Yo ?_
     refine dKC ?_;refine dAG ?_;refine dN ?_;refine Kj ?_;refine ZD ?_;exact⟨⟨B'.eraseIdx i5,l++ [stB b],_,rfl,ZQU P1 P2 m B Y B' l i5 b hb hp hB.1 OS hOS,(ZXc l B' i5 b hb).trans hp,fun b hb=>hm b (List.mem_of_mem_eraseIdx hb)⟩,by rw[ZQU P1 P2 m B Y B' l i5 b hb hp hB.1 OS hOS];exact ZbE P1 P2 m B Y B' l i5 b hb _ _⟩
    ·exact absurd h1 (by decide)
def ZGi(os:List Ob)(t:Nat):List Nat:=match os[t]? with
 |some (.box [.ptr s _,.mref a,.mref b])=>match os[s]? with
  |some (.box [.mref x,.mref c])=>t::s::x::c::a::b::(match os[b]? with
   |some (.mpo _ _ l)=>l.filterMap fun q=>match q.2 with
    | [.ref i _ _ _]=>some i
    |_=>none
   |_=> [])
  |_=> []
 |_=> []
def ZJo(Y:List Ob)(l:List Pr):List TB:=l.filterMap fun q=>match q with
 |([.str s],[.ref i _ _ _])=>match Y[i-6]? with
  |some (.rows _ _ _ R)=>(ZZ ZB R).map fun l=>(s,i-6,l)
  |_=>none
 |_=>none
def ZVv(Y:List Ob)(B:List TB):Bool:=decide ((B.map (·.1)).Nodup∧(B.map (·.2.1)).Nodup)&&B.all fun x=>decide (x.2.2.length≤1000000)&&match Y[x.2.1]? with
 |some o=>Ob.beq o (.rows false 9 1 (rows ZB x.2.2))
 |none=>false
theorem ZXy{Y:List Ob}{B:List TB}(h:ZVv Y B=true):okB Y B:=by
 simp only[ZVv,ZQ,Zg]at h;refine⟨h.1.1,h.1.2,fun x hx=> ?_⟩;have h2:=YK.1 h.2 x hx;simp only[ZQ,Zg]at h2;refine⟨?_,h2.1⟩;have h3:=h2.2;split at h3
 ·rename_i o ho;rw[ho,Ob.beq_eq h3]
 ·cases h3
theorem ZVQ{α:Type}{a b:α}{l:List α}(h:l.Perm [a,b]):l= [a,b]∨l= [b,a]:=by
 have hl:=h.length_eq
 match l,hl with
 | [x,y],_=>
  have hx:x=a∨x=b:=by have:=h.mem_iff.1 (ZDa (a:=x) (l:= [y]));simpa using this
  rcases hx with rfl|rfl
  ·have:=(List.perm_cons _).1 h;left;rw[List.singleton_perm_singleton.1 this]
  ·have:=(List.perm_cons x).1 (h.trans (List.Perm.swap x a []));right;rw[List.singleton_perm_singleton.1 this]
def awR(G:FuncId→Option IFn)(res:List IRes)(rest:IC)(l2:List IOp)(dst:Option Nat)(φ2:List (Nat×D))(os2:List Ob)(ρ:List Nat)(P1 P2 m:List Pr)(B:List TB)(Y:List Ob)(l:List (Tx×List Tx)):Bool:=
 match JX ZF4 (putO φ2 dst ((D.ptr (Y.length+8) 0).ren (Jl ρ os2.length (cpO P1 P2 m Y (.mpo .str false (B.map QP)) l).length))) (KM ρ os2 (cpO P1 P2 m Y (.mpo .str false (B.map QP)) l)) l2 with
 |some (true,φ4,os4)=>match ev ZF4 [] G 300 rest φ4 os4 with
  |some (.ret,φ5,os5)=>match JZ true (fun _ _=>none) φ5 os5 res with
   |some (true,[.x (.bool true)],_)=>true
   |_=>false
  |_=>false
 |_=>false
def awC(G:FuncId→Option IFn)(res:List IRes)(rest:IC)(f:IO)(xs:List IO)(l2:List IOp)(dst:Option Nat)(φ2:List (Nat×D))(os2:List Ob):Bool:=
 match(ZA φ2 f).val,xs.map fun y=>(ZA φ2 y).val with
 | .fn g [],[.ptr t 0]=>match YF (ZGi os2 t) os2 with
  | .box _:: .box _:: .mpo _ _ P1:: .mpo _ _ P2:: .mpo _ _ m:: .mpo _ _ b::Y=>
   decide (g=19)&&((ZA φ2 f).cond&&((xs.all fun y=>(ZA φ2 y).cond)&&(QC (ZGi os2 t) [.ptr t 0] os2&&(Nat.beq (YN (ZGi os2 t) t) 0&&(decide ((ZGi os2 t).length≤Y.length+6)&&
    (ZCx (YF (ZGi os2 t) os2) (trP P1 P2 (.mpo .str true m:: .mpo .str false ((ZJo Y b).map QP)::Y))&&(ZVv Y (ZJo Y b)&&match(ZJo Y b).map stB with
     | [x,y]=>awR G res rest l2 dst φ2 os2 (ZGi os2 t) P1 P2 m (ZJo Y b) Y [x,y]&&awR G res rest l2 dst φ2 os2 (ZGi os2 t) P1 P2 m (ZJo Y b) Y [y,x]
     |_=>false)))))))
  |_=>false
 |_,_=>false
def awT(G:FuncId→Option IFn)(k:Nat):Option IFn→Bool
 |some p=>match evSeq ZF4 [] G 300 k p.body [] []with
  |some (φ1,os1)=>match ZVk k p.body with
   | .seq (.reg (o::⟨dst,.call f xs,none⟩::l2)) rest=>match JX ZF4 φ1 os1 [o]with
    |some (true,φ2,os2)=>awC G p.res rest f xs l2 dst φ2 os2
    |_=>false
   |_=>false
  |_=>false
 |none=>false
theorem ZSK{c:Ctx}{E0:Env}{n:Nat}{res:List IRes}{rest:IC}{l2:List IOp}{dst:Option Nat}{φ2:List (Nat×D)}{os2:List Ob}{ρ:List Nat}{P1 P2 m:List Pr}{B:List TB}{Y:List Ob}{l:List (Tx×List Tx)}(h:awR (GP Tryz.prog) res rest l2 dst φ2 os2 ρ P1 P2 m B Y l=true):
  ∃φ' os',JX ZF4 (putO φ2 dst ((D.ptr (Y.length+8) 0).ren (Jl ρ os2.length (cpO P1 P2 m Y (.mpo .str false (B.map QP)) l).length))) (KM ρ os2 (cpO P1 P2 m Y (.mpo .str false (B.map QP)) l)) l2=some (true,φ',os')∧
   WI Tryz.prog c E0 [] n rest (fun x φ' os'=>(x= .normal∨x= .ret)∧ ∃ds os2,JZ true (fun _ _=>none) φ' os' res=some (true,ds,os2)∧QB ds= .x (.bool true)) φ' os':=by
 unfold awR at h;split at h
 ·rename_i φ4 os4 h1;split at h
  ·rename_i φ5 os5 h2;split at h
   ·rename_i q h3;exact⟨φ4,os4,h1,WI.evE ZHh [] (ZK1 _) 300 h2 ⟨.inr rfl,_,_,h3,rfl⟩⟩
   ·cases h
  ·cases h
 ·cases h
theorem ZSO:ZC Tryz.prog 16 [] (.x (.bool true)):=by
 have h:awT (GP Tryz.prog) 6 (GP Tryz.prog 16)=true:=by kernel_rfl
 refine ZJ.pure (FG.calls (fz:=true) ?_) rfl;generalize hG:GP Tryz.prog 16=q at h⊢;unfold awT at h;split at h
 ·rename_i p;refine FG.mk (fun C0 E0=> ?_) (JA _);split at h
  ·rename_i φ1 os1 hev;split at h
   ·rename_i o dst f xs l2 rest hsq;split at h
    ·rename_i φ2 os2 hr;refine WI.evSeq ZHh [] (ZK1 _) 300 6 hev ?_;rw[hsq];refine WI.seq ?_;unfold awC at h;split at h
     ·rename_i g t hv hx;split at h
      ·rename_i P1 _ _ P2 _ _ m _ _ b Y hO;simp only[ZQ,Zg]at h;obtain⟨rfl,c1,c2,k1,k2,k3,k4,k5,k6⟩:=h;have hB:=ZXy k5;have hcp:=ZaT P1 P2 m (ZJo Y b) Y hB;have hin:Zs (YN (ZGi os2 t)) [D.ptr t 0]= [.ptr 0 0]:=by
        simp only[Zs,D.ren,ZWM k2]
       have hcp2:=ZJ.lift (P:=Tryz.prog) (ρ:=ZGi os2 t) (args:= [.ptr t 0]) (OS:=os2) (Post:=CpP P1 P2 m (ZJo Y b) Y) k1 (by rw[hin,ZES k4];exact hcp) (fun r os' ⟨l,_,_,h⟩=>by
        rw[h];refine ZHz k3 ?_;simp[cpO])
       refine WI.regF ZHh 1 rfl hr (Zc 19) hv c1 c2 (by rw[hx,KS];exact hcp2) ?_;rintro r os3 ⟨r1,os',⟨l,hl,rfl,rfl⟩,rfl,rfl⟩;split at k6
       ·rename_i x y hxy;simp only[ZQ]at k6;rw[hxy]at hl;rcases ZVQ hl with rfl|rfl
        ·exact ZSK k6.1
        ·exact ZSK k6.2
       ·cases k6
      ·cases h
     ·cases h
    ·cases h
   ·cases h
  ·cases h
 ·cases h
def ZJp:List D→Option (Bool×D)
 | []=>some (true,.x (.bool true))
 |_=>none
theorem ZPc: ∀args r,ZJp args=some (true,r)→ZC Tryz.prog 16 args r:=by
 intro args r h;unfold ZJp at h;split at h
 ·simp only[Za,Zb,ZQ,Zg,true_and]at h;obtain rfl:=h;exact ZSO
 ·cases h
def Zan:Tabs:=ZU (ZS) 16 ZJp
theorem ZWc:SsOk Tryz.prog Zan:=ZH (ZF) (Zc 16) ZPc
theorem ZTR(k:Int)(dn:Tx)(R:List (List X)):ZC Tryz.prog 6 [.agg [.x (.int .i64 k),.x (.str dn),.x (.sl R)]] (.x (.bool true)):=evP 300 6 ZWc []
abbrev Za7:=Int×ZCP×Unit
theorem ZS1(d:Za7):ZC Tryz.prog 6 [.agg [.x (.int .i64 d.1),.x (.str d.2.1.1),.x (.sl (rows Zi d.2.1.2.1))]] (.x (.bool true)):=ZTR _ _ _
end Go.Proofs.YtiogclkbccdefaaGreatDoor
end
