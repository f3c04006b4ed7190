import Derived.Test.YtiogclkbccdefaaGreatDoorMA3
import Derived.Test.YtiogclkbccdefaaGreatDoorLA5
import Derived.Test.YtiogclkbccdefaaGreatDoorSh
import Derived.Sort.KeysCollected
import Derived.Shelf.SlIter.Sorted
import Derived.Test.YtiogclkbccdefaaGreatDoorMA2
import Derived.Test.YtiogclkbccdefaaGreatDoorProg
import Derived.Test.YtiogclkbccdefaaGreatDoorMA1
set_option linter.unusedSimpArgs false
set_option linter.unusedVariables false
set_option maxRecDepth 100000
section
namespace Go.Proofs.YtiogclkbccdefaaGreatDoor
open Go.RowKit Go.Bo Go.Ab
abbrev Sn:=List (Tx×Int)
def snG(S:Sn)(k:Tx):Int:=(ZI S k).getD 0
def snS(S:Sn)(k:Tx):Sn:=Zz S k (snG S k+1)
theorem ZQB(S:Sn)(k:Tx):(Yx (YV Jo Qb S) [X.str k])=(ZI S k).map fun n=> [D.x (X.int .i64 n)]:=by
 rw[ZDp Jo Qb hkS S k];rfl
theorem ZLX(S:Sn)(k:Tx)(n:Int):YM (YV Jo Qb S) [X.str k] [D.x (X.int .i64 n)]=YV Jo Qb (Zz S k n):=ZCg Jo Qb hkS S k n
def w4(S:Sn)(t:Zg)(a:ZU):Int:=if 0<snG S t.1∨twV t.2.1 a.2.1=true then 20 else 0
def ZJG:Tabs:=ZW (ZW (ZQ) 120 Kk) 156 ZEa
theorem ZNb:SsOk Tryz.prog ZJG:=ZJ (ZJ (ZE) (ZZ 120) ZKi) (ZZ 156) ZVp
theorem ZPW:(∀a,ZJG.q 120 a=Kk a)∧(∀a,ZJG.q 156 a=ZEa a)∧(∀f a o,ZJG.r f a o=none)∧(∀f a o,ZJG.k f a o=none):=⟨fun _=>rfl,fun _=>rfl,fun _ _ _=>rfl,fun _ _ _=>rfl⟩
theorem ZeQ(S:Sn)(t:Zg)(a:ZU)(hs:0≤snG S t.1∧snG S t.1≤1000000)(hl:a.2.1.length≤1000000):ZL Tryz.prog 155 [tyD t,atD a,.ptr 0 0] [.box [.mref 1],.mpo .str false (YV Jo Qb S)] (.x (.int .i64 (w4 S t a))) [.box [.mref 1],.mpo .str false (YV Jo Qb (snS S t.1))]:=by
 have hO:([.box [.mref 1],.mpo .str false (YV Jo Qb (snS S t.1))]:List Ob).all (Ob.inP (fun i=>decide (i<([.box [.mref 1],.mpo .str false (YV Jo Qb (snS S t.1))]:List Ob).length)))=true:=by simp[Ob.inP,Yb,D.inP,QN]
 have hla:decide (a.2.1.length≤1000000)=true:=Zc hl;have hg:=ZQB S t.1;unfold w4 tyD atD snS;unfold snS at hO;unfold snG at hs hO⊢;rcases hm:ZI S t.1 with _|n
 ·rw[hm]at hg hO;simp only[ZK8,Qf]at hg hO⊢;have hst:YM (YV Jo Qb S) [X.str t.1] [D.x (X.int .i64 1)]=YV Jo Qb (Zz S t.1 (0+1)):=ZLX S t.1 1;refine ZG.mcallsX (fC 155 true ?_) (by first|decide|(simp;done)) hO (by first|rfl|exact hR);intro C0 E0;have uu:=ξ8 @Kk.eq_1 @Kk.eq_2 @ZEa.eq_1 @ZEa.eq_2 hg hst hla @ZPW;have tT:=ZNb;refine nz ?_;refine rg tT [2,3,4] ?_;refine rg tT [2,3,6] ?_;refine rg tT [6] ?_;refine rg tT [5] ?_;refine lf ?_;refine⟨?_,_,rfl⟩;clear uu;grind
 ·rw[hm]at hg hO hs;simp only[Qe,YS]at hg hO hs⊢;have hst:=ZLX S t.1 (n+1);refine ZG.mcallsX (fC 155 true ?_) (by first|decide|(simp;done)) hO (by first|rfl|exact hR);intro C0 E0;have uu:=ξ8 @Kk.eq_1 @Kk.eq_2 @ZEa.eq_1 @ZEa.eq_2 hg hst hla @ZPW;have tT:=ZNb;refine nz ?_;refine rg tT [2,3,4] ?_;refine rg tT [2,3,6] ?_;refine rg tT [6] ?_;refine rg tT [5] ?_;refine lf ?_;refine⟨?_,_,rfl⟩;clear uu;grind
def w4T:List D→List Ob→Option (Bool×D×List Ob)
 | [.agg [.x (.str n),.x (.int .i64 k),.x (.bool b)],.agg [.x (.str nm),.x (.sl R)],.ptr 0 0],[.box [.mref 1],.mpo .str false P1]=>(Qq ZB (ZAp .i64) P1).bind fun S=>(ZY ZB R).bind fun l=>some (decide ((0≤snG S n∧snG S n≤1000000)∧l.length≤1000000),.x (.int .i64 (w4 S (n,k,b,()) (nm,l,()))),[.box [.mref 1],.mpo .str false (YV Jo Qb (snS S n))])
 |_,_=>none
theorem ZdC: ∀args os r os',w4T args os=some (true,r,os')→ZL Tryz.prog 155 args os r os':=by
 intro args os r os' h;unfold w4T at h;split at h
 ·rename_i n k b nm R P1;obtain⟨S,hm0,h⟩:=Zv h;obtain⟨l,hr0,h⟩:=Zv h;simp only[Ze,Za,ZS,Zi,true_and]at h;obtain⟨h1,rfl,rfl⟩:=h;rw[JD ZO (ZAh .i64) hm0];rw[←Zb ZO hr0];exact ZeQ S (n,k,b,()) (nm,l,()) h1.1 h1.2
 ·cases h
def ZIu(e:ZCO):D:= .agg [.x (.str e.1),.x (.sl (rows ZV e.2.1))]
def goA(g:Zg→ZU→Int)(L:List (Tx×Zg)):List ZU→Int
 | []=>0
 |a::l=>if g (tyV L (ZF a.1)) a≠0 then g (tyV L (ZF a.1)) a else goA g L l
theorem ZPU(l:List ZU)(j:Nat)(h:j<l.length):(rows ZV l)[j]? =some [X.str (l.getD j ([],[],())).1,X.sl (rows ZB (l.getD j ([],[],())).2.1)]:=by
 simp[rows,h,ZV,Kz,ZB,rSl,ZDi]
theorem ZNc{α:Type}(l:List α)(z:α)(j:Nat)(h:j<l.length):l.drop j=l.getD j z::l.drop (j+1):=by
 rw[ZFd h];simp[h]
theorem ZXK(L:List (Tx×Zg))(M:List (Tx×Zs))(e:ZCO)(f:FuncId)(g:Zg→ZU→Int)(hen:Enters Tryz.prog f)(hg: ∀t,∀a∈e.2.1,ZD Tryz.prog f [tyD t,atD a] (.x (.int .i64 (g t a))))(hl:e.2.1.length≤1000000)(hn: ∀a∈e.2.1,a.1.length≤1000000):
  ZL Tryz.prog 158 [.ptr 0 0,ZIu e,.fn f []] (scO L M) (.x (.int .i64 (goA g L e.2.1))) (scO L M):=by
 obtain⟨dn,l,u⟩:=e;simp only at hg hl hn⊢;have hO:=ZA5 L M;have h1:=ZD8 L;have h2:=ZEE M;unfold ZIu;refine ZG.mcallsX (fC 158 true ?_) (by first|decide|(simp;done)) hO (by first|rfl|exact hR);intro C0 E0;have uu:=Km @ZAv.eq_1 @ZAv.eq_2 h1 h2 @ZBm @ZBa @ZCH @ZCP (ξ7 @Qd @Ql @ZIK @ZHt @ZHd @ZHf @ZYT);refine WI.seq ?_;refine WI.regB ZAD [0,2,4] ?_;refine oG ?_;refine oS ?_;refine oN ?_;refine ZA ?_;refine WI.seq ?_;refine WI.seq ?_;refine WI.regB ZAD [0,2,13,14,15] ?_;refine oS ?_
 iterate 2 refine oG ?_
 refine oS ?_;refine oN ?_;refine ZA ?_;refine WI.block ?_;refine WI.dropT (scO L M) _ rfl (by simp) hO (by simp[D.inP,Yb]) ?_;refine WI.orderA [0,2,13,14,15] ?_;refine WI.loop (fun φ os=> ∃(i:Nat),φ= [(0,.ptr 0 0),(2,.fn f []),(13,.x (.sl (rows ZV l))),(14,.x (.int .i64 l.length)),(15,.x (.int .i64 i))]∧os=scO L M∧i≤l.length∧goA g L (l.drop i)=goA g L l) (ZX l.length 15) ?_ (fun φ os hI=> ?_)
 ·exact⟨0,rfl,rfl,by omega,rfl⟩
 ·obtain⟨i,rfl,rfl,hi,hgo⟩:=hI;refine WI.seq ?_;refine WI.regB ZAD [0,2,13,14,15,16] ?_;refine oG ?_;refine oN ?_;refine ZA ?_;refine WI.seq ?_;refine WI.cond (b:=_) rfl rfl (fun h0=> ?_) (fun h0=> ?_)
  ·try simp only[zB]at h0
   refine WI.skip ?_;refine ZA ?_;refine WI.seq ?_;refine WI.block ?_;refine WI.seq ?_;have hi4:i<l.length:=by omega
   have hrw:=ZPU l i hi4;have hdr:=ZNc l ([],[],()) i hi4;have hma:l.getD i ([],[],())∈l:=by rw[show l.getD i ([],[],())=l[i] by simp[hi4]];exact Yl hi4
   generalize l.getD i ([],[],())=a at hrw hdr hma;have hna:=hn a hma;have hga:=hg (tyV L (ZF a.1)) a hma;rw[hdr,goA]at hgo;obtain⟨t,ht⟩: ∃t,t=tyV L (ZF a.1):=⟨_,rfl⟩;rw[←ht]at hga hgo;have hmc:ZL Tryz.prog f [.agg [.x (.str t.1),.x (.int .i64 t.2.1),.x (.bool t.2.2.1)],.agg [.x (.str a.1),.x (.sl (rows ZB a.2.1))]] [.box [.mref 1,.mref 2],.mpo .str true (JK L),.mpo .str true (JC M),.box [.x (.str a.1),.x (.sl (rows ZB a.2.1))],.box [.x (.str t.1),.x (.int .i64 t.2.1),.x (.bool t.2.2.1)]] (.x (.int .i64 (g t a))) [.box [.mref 1,.mref 2],.mpo .str true (JK L),.mpo .str true (JC M),.box [.x (.str a.1),.x (.sl (rows ZB a.2.1))],.box [.x (.str t.1),.x (.int .i64 t.2.1),.x (.bool t.2.2.1)]]:=ZD.mc hga _;have uu:=ξ4 uu hrw ht.symm @tyD.eq_1;refine WI.regB ZAD [0,2,8,13,14,15] ?_
   iterate 4 refine oG ?_
   refine oN ?_;refine ZA ?_;refine WI.seq ?_;refine WI.dregB ZAD [0,2,8,9,13,14,15] ?_
   iterate 5 refine Yd ?_
   refine QH ?_;refine dQC ?_;refine Yd ?_
   iterate 2 refine dFG ?_
   refine dKG ?_;refine dAG ?_;refine Yd ?_;refine dN ?_;refine ZA ?_;refine WI.seq ?_;refine WI.regB (ZCQ ZE hen hmc) [0,2,11,13,14,15] ?_;refine oS ?_
   iterate 2 refine oG ?_
   refine oC ?_;refine oS ?_;refine oN ?_;refine ZA ?_;refine WI.seq ?_;refine WI.post ?_;refine WI.regB ZAD [0,2,11,13,14,15,34] ?_;refine oS ?_;refine oG ?_;refine oP ?_;refine ZLo (scO L M) _ rfl (by simp) hO (by simp[D.inP,Yb]) ?_;refine ZAL ?_;refine ZA ?_;refine WI.cond (b:=_) rfl rfl (fun h1=> ?_) (fun h1=> ?_)
   ·try simp only[zB]at h1
    refine WI.seq ?_;refine WI.regB ZAD [6] ?_
    iterate 2 refine oS ?_
    refine oN ?_;refine ZA ?_;refine WI.ret ?_;refine ZAt ?_;refine JP ?_;refine JP ?_;refine ZAt ?_;refine JP ?_
    first|refine lfR ?_|refine ZCb ?_|refine ZCB ?_|refine ZCc ?_
    refine⟨?_,_,rfl⟩;rw[←hgo,if_pos (by simpa using h1)]
   ·try simp only[zB]at h1
    rw[if_neg (by simpa using h1)]at hgo;have hgo2:=hgo;refine WI.skip ?_;refine QI ?_;refine ZA ?_;refine WI.regB ZAD [0,2,13,14,15] ?_;refine oG ?_;refine oS ?_;refine oN ?_;refine ZA ?_;exact⟨⟨i+1,rfl,rfl,by omega,hgo2⟩,by simp[ZX,Ab.get,D.val,ZH];omega⟩
  ·try simp only[zB]at h0
   refine WI.exit ?_;refine Ka ?_;refine Ka ?_;refine ZB2 ?_;refine ZA ?_;refine WI.seq ?_;refine WI.regB ZAD [6] ?_;refine oS ?_;refine oN ?_;refine ZA ?_;refine WI.ret ?_
   first|refine lfR ?_|refine ZCb ?_|refine ZCB ?_|refine ZCc ?_
   rw[ZFa (by omega)]at hgo;refine⟨?_,[],by simp⟩;rw[←hgo];rfl
end Go.Proofs.YtiogclkbccdefaaGreatDoor
end
section
namespace Go.Proofs.YtiogclkbccdefaaGreatDoor
open Go.RowKit Go.Bo Go.Ab
def goS(L:List (Tx×Zg)):Sn→List ZU→Int×Sn
 |S,[]=>(0,S)
 |S,a::l=>if w4 S (tyV L (ZF a.1)) a≠0 then(w4 S (tyV L (ZF a.1)) a,snS S (tyV L (ZF a.1)).1)else goS L (snS S (tyV L (ZF a.1)).1) l
abbrev sc5(L:List (Tx×Zg))(M:List (Tx×Zs))(S:Sn):List Ob:= [.box [.mref 1,.mref 2],.mpo .str true (JK L),.mpo .str true (JC M),.box [.mref 4],.mpo .str false (YV Jo Qb S)]
theorem ZMp(L:List (Tx×Zg))(M:List (Tx×Zs))(S:Sn):(sc5 L M S).all (Ob.inP (fun i=>decide (i<(sc5 L M S).length)))=true:=by
 simp[Ob.inP,Yb,D.inP,Qd,Ql,QN]
theorem ZLe(S:Sn)(k:Tx)(v:Int)(k':Tx):ZI (Zz S k v) k'=if k'=k then some v else ZI S k':=by
 induction S with
 |nil=>by_cases h:k'=k<;>simp[Zz,ZI,h]
 |cons p S ih=>
  by_cases h1:k=p.1
  ·subst h1;by_cases h:k'=p.1<;>simp[Zz,ZI,h]
  ·by_cases h:k'=p.1
   ·have hne: ¬p.1=k:=fun e=>h1 e.symm
    subst h;simp[Zz,ZI,h1,hne]
   ·simp only[Zz,ZI,h1,h,if_false,List.find?_cons,decide_false]at ih⊢;exact ih
theorem ZZz(S:Sn)(k k':Tx):snG (snS S k) k'=if k'=k then snG S k+1 else snG S k':=by
 unfold snG snS;rw[ZLe];split<;>rfl
theorem ZZO(S:Sn):Qq ZB (ZAp .i64) (YV Jo Qb S)=some S:=ZQT ZO (ZAh .i64) S
def ZEW:Tabs:=Jc (ZFk (ZQ) 74 ZAv) 155 w4T
theorem ZUB:SsOk Tryz.prog ZEW:=Ys (ZC0 (ZE) (ZZ 74) ZNr) (ZZ 155) ZdC
theorem ZXI:(∀a,ZEW.q 74 a=none)∧(∀a o,ZEW.t 74 a o=(Jx ZAv a o).map fun r=>(r.1,r.2,o))∧(∀a o,ZEW.r 74 a o=Jx ZAv a o)∧(∀a,ZEW.q 155 a=none)∧(∀a o,ZEW.t 155 a o=Ym w4T a o)∧(∀a o,ZEW.r 155 a o=none)∧(∀f a o,ZEW.k f a o=none):=⟨fun _=>rfl,fun _ _=>rfl,fun _ _=>rfl,fun _=>rfl,fun _ _=>rfl,fun _ _=>rfl,fun _ _ _=>rfl⟩
theorem ZW1(L:List (Tx×Zg))(M:List (Tx×Zs))(e:ZCO)(S0:Sn)(hS0: ∀k,0≤snG S0 k∧snG S0 k≤1)(hl:e.2.1.length≤1000000)(hn: ∀a∈e.2.1,a.1.length≤1000000∧a.2.1.length≤1000000):
  ZL Tryz.prog 158 [.ptr 0 0,ZIu e,.fn 155 [.ptr 3 0]] (sc5 L M S0) (.x (.int .i64 (goS L S0 e.2.1).1)) (sc5 L M (goS L S0 e.2.1).2):=by
 obtain⟨dn,l,u⟩:=e;simp only at hl hn⊢;have hO:=ZMp L M (goS L S0 l).2;have h1:=ZD8 L;have h2:=ZEE M;unfold ZIu;refine ZG.mcallsX (fC 158 true ?_) (by first|decide|(simp;done)) hO (by first|rfl|exact hR);intro C0 E0;have uu:=Km @ZAv.eq_1 @ZAv.eq_2 @w4T.eq_1 @w4T.eq_2 h1 h2 @ZZO @ZBm (Km @ZBa @ZCH @ZCP @Qd @Ql @Qk @ZBN @QN @ZXI);have tT:=ZUB;refine nz ?_;refine rg tT [0,2,4] ?_;refine rg tT [0,2,13,14,15] ?_;refine WI.dropT (sc5 L M S0) _ rfl (by simp) (ZMp L M S0) (by simp[D.inP,Yb]) ?_;refine WI.orderA [0,2,13,14,15] ?_;refine WI.loop (fun φ os=> ∃(i:Nat) (S:Sn),φ= [(0,.ptr 0 0),(2,.fn 155 [.ptr 3 0]),(13,.x (.sl (rows ZV l))),(14,.x (.int .i64 l.length)),(15,.x (.int .i64 i))]∧os=sc5 L M S∧i≤l.length∧(∀k,0≤snG S k∧snG S k≤1)∧goS L S (l.drop i)=goS L S0 l) (ZX l.length 15) ?_ (fun φ os hI=> ?_)
 ·exact⟨0,S0,rfl,rfl,by omega,hS0,rfl⟩
 ·obtain⟨i,S,rfl,rfl,hi,hSi,hgo⟩:=hI;refine nz ?_;refine rg tT [0,2,13,14,15,16] ?_;refine cd (fun h0=> ?_) (fun h0=> ?_)
  ·have hi4:i<l.length:=by omega
   have hrw:=ZPU l i hi4;have hdr:=ZNc l ([],[],()) i hi4;have hma:l.getD i ([],[],())∈l:=by rw[show l.getD i ([],[],())=l[i] by simp[hi4]];exact Yl hi4
   generalize l.getD i ([],[],())=a at hrw hdr hma;obtain⟨hna,hna2⟩:=hn a hma;rw[hdr,goS]at hgo;obtain⟨t,ht⟩: ∃t,t=tyV L (ZF a.1):=⟨_,rfl⟩;rw[←ht]at hgo;have hdd:decide ((0≤snG S t.1∧snG S t.1≤1000000)∧a.2.1.length≤1000000)=true:=Zc ⟨⟨(hSi t.1).1,by have:=(hSi t.1).2;omega⟩,hna2⟩;obtain⟨tn,tk,tb,tu⟩:=t;obtain⟨an,al,au⟩:=a;have uu:=ξ5 uu hrw ht.symm (@tyD.eq_1) hdd;refine rg tT [0,2,8,13,14,15] ?_;refine WI.dregB tT [0,2,8,9,13,14,15] ?_
   iterate 5 refine Yd ?_
   refine QH ?_;refine dQC ?_;refine Yd ?_
   iterate 2 refine dFG ?_
   refine dKG ?_;refine dAG ?_;refine Yd ?_;refine dN ?_;refine nz ?_;refine rg tT [0,2,11,13,14,15] ?_;refine WI.post ?_;refine WI.regB tT [0,2,11,13,14,15,34] ?_;refine oS ?_;refine oG ?_;refine oP ?_;refine ZLo (sc5 L M (snS S tn)) _ rfl (by simp) (ZMp L M _) (by simp[D.inP,Yb]) ?_;refine ZAL ?_;refine nz ?_;refine cd (fun h1=> ?_) (fun h1=> ?_)
   ·refine rg tT [6] ?_;refine lf ?_;rw[if_pos (by simpa using h1)]at hgo;rw[←hgo];exact⟨rfl,_,rfl⟩
   ·rw[if_neg (by simpa using h1)]at hgo;have hgo2:=hgo;have hw0:w4 S (tn,tk,tb,tu) (an,al,au)=0:=by simpa using h1
    have hSn: ∀k,0≤snG (snS S tn) k∧snG (snS S tn) k≤1:=fun k=>by
     rw[ZZz];have hz: ¬0<snG S tn:=fun hh=>by unfold w4 at hw0;rw[if_pos (.inl hh)]at hw0;simp at hw0
     have:=hSi k;have:=hSi tn;split<;>omega
    refine rg tT [0,2,13,14,15] ?_;exact⟨⟨i+1,_,rfl,rfl,by omega,hSn,hgo2⟩,by simp[ZX,Ab.get,D.val,ZH];omega⟩
  ·refine rg tT [6] ?_;refine lf ?_;rw[ZFa (by omega)]at hgo;rw[←hgo];exact⟨rfl,[],by simp[goS]⟩
end Go.Proofs.YtiogclkbccdefaaGreatDoor
end
section
namespace Go.Proofs.YtiogclkbccdefaaGreatDoor
open Go.RowKit Go.Bo Go.Ab
def smA(l:List ZU):Prop:=l.length≤1000000∧ ∀a∈l,a.1.length≤1000000∧a.2.1.length≤1000000
instance (l:List ZU):Decidable (smA l):=by unfold smA;infer_instance
def ZFy(g:Zg→ZU→Int)(dn:Tx)(A:List (List X))(P1 P2:List Pr):Option (Bool×D×List Ob):=
 (Qq ZB Yi P1).bind fun L=>(Qq ZB Kp P2).bind fun M=>(ZY ZV A).bind fun l=>some (decide (smA l),.x (.int .i64 (goA g L l)),scO L M)
def ZQO(dn:Tx)(A:List (List X))(P1 P2 P3:List Pr):Option (Bool×D×List Ob):=
 (Qq ZB Yi P1).bind fun L=>(Qq ZB Kp P2).bind fun M=>(Qq ZB (ZAp .i64) P3).bind fun S=>(ZY ZV A).bind fun l=>some (decide (smA l)&&decide (S.length=0),.x (.int .i64 (goS L S l).1),sc5 L M (goS L S l).2)
def ZCG:List D→List Ob→Option (Bool×D×List Ob)
 | [.ptr 0 0,.agg [.x (.str dn),.x (.sl A)],.fn 151 []],[.box [.mref 1,.mref 2],.mpo .str true P1,.mpo .str true P2]=>ZFy w1 dn A P1 P2
 | [.ptr 0 0,.agg [.x (.str dn),.x (.sl A)],.fn 152 []],[.box [.mref 1,.mref 2],.mpo .str true P1,.mpo .str true P2]=>ZFy w2 dn A P1 P2
 | [.ptr 0 0,.agg [.x (.str dn),.x (.sl A)],.fn 153 []],[.box [.mref 1,.mref 2],.mpo .str true P1,.mpo .str true P2]=>ZFy w3 dn A P1 P2
 | [.ptr 0 0,.agg [.x (.str dn),.x (.sl A)],.fn 155 [.ptr 3 0]],[.box [.mref 1,.mref 2],.mpo .str true P1,.mpo .str true P2,.box [.mref 4],.mpo .str false P3]=>ZQO dn A P1 P2 P3
 | [.ptr 0 0,.agg [.x (.str dn),.x (.sl A)],.fn 157 []],[.box [.mref 1,.mref 2],.mpo .str true P1,.mpo .str true P2]=>ZFy w5 dn A P1 P2
 |_,_=>none
theorem ZUw:Enters Tryz.prog 151:=ZZ 151
theorem ZT2:Enters Tryz.prog 152:=ZZ 152
theorem ZUo:Enters Tryz.prog 153:=ZZ 153
theorem ZT0:Enters Tryz.prog 157:=ZZ 157
theorem ZGE{f:FuncId}{g:Zg→ZU→Int}(hen:Enters Tryz.prog f)(hg: ∀t (a:ZU),a.2.1.length≤1000000→ZD Tryz.prog f [tyD t,atD a] (.x (.int .i64 (g t a)))){dn:Tx}{A:List (List X)}{P1 P2:List Pr}{r:D}{os':List Ob}(h:ZFy g dn A P1 P2=some (true,r,os')):
  ZL Tryz.prog 158 [.ptr 0 0,.agg [.x (.str dn),.x (.sl A)],.fn f []] [.box [.mref 1,.mref 2],.mpo .str true P1,.mpo .str true P2] r os':=by
 unfold ZFy at h;obtain⟨L,k1,h⟩:=Zv h;obtain⟨M,k2,h⟩:=Zv h;obtain⟨l,k3,h⟩:=Zv h;simp only[Ze,Za,Zi]at h;obtain⟨⟨hl,hn⟩,rfl,rfl⟩:=h;rw[JD ZO JX k1,JD ZO KI k2,←Zb YJ k3];exact ZXK L M (dn,l,()) f g hen (fun t a ha=>hg t a (hn a ha).2) hl (fun a ha=>(hn a ha).1)
theorem ZTz: ∀args os r os',ZCG args os=some (true,r,os')→ZL Tryz.prog 158 args os r os':=by
 intro args os r os' h;unfold ZCG at h;split at h
 ·exact ZGE ZUw (fun t a _=>ZeL t a) h
 ·exact ZGE ZT2 (fun t a _=>ZeN t a) h
 ·exact ZGE ZUo (fun t a hl=>ZeT t a hl) h
 ·unfold ZQO at h;obtain⟨L,k1,h⟩:=Zv h;obtain⟨M,k2,h⟩:=Zv h;obtain⟨S,k4,h⟩:=Zv h;obtain⟨l,k3,h⟩:=Zv h;simp only[Ze,Za,ZS,Zi]at h;obtain⟨⟨⟨hl,hn⟩,hS⟩,rfl,rfl⟩:=h;rw[JD ZO JX k1,JD ZO KI k2,JD ZO (ZAh .i64) k4,←Zb YJ k3];obtain rfl:=ξQ hS;exact ZW1 L M (_,l,()) [] (fun k=>by simp[snG,ZI]) hl hn
 ·exact ZGE ZT0 (fun t a _=>ZeI t a) h
 ·cases h
def ZKC(L:List (Tx×Zg))(l:List ZU):Int:=
 if goA w1 L l≠0 then goA w1 L l else if goA w2 L l≠0 then goA w2 L l else if goA w3 L l≠0 then goA w3 L l else if(goS L [] l).1≠0 then(goS L [] l).1 else goA w5 L l
theorem ZZH(l:List ZU):ZY ZV (rows ZV l)=some l:=Zj YJ l
def ZIh:Tabs:=Jc (ZQ) 158 ZCG
theorem ZU4:SsOk Tryz.prog ZIh:=Ys (ZE) (ZZ 158) ZTz
theorem ZXH:(∀a,ZIh.q 158 a=none)∧(∀a o,ZIh.t 158 a o=Ym ZCG a o)∧(∀f a o,ZIh.r f a o=none)∧(∀f a o,ZIh.k f a o=none):=⟨fun _=>rfl,fun _ _=>rfl,fun _ _ _=>rfl,fun _ _ _=>rfl⟩
theorem ZX6(L:List (Tx×Zg))(M:List (Tx×Zs))(e:ZCO)(he:smA e.2.1):ZL Tryz.prog 118 [.ptr 0 0,ZIu e] (scO L M) (.x (.int .i64 (ZKC L e.2.1))) (scO L M):=by
 obtain⟨dn,l,u⟩:=e;simp only at he⊢;have hsm:=Zc he;have hO:=ZA5 L M;have h1:=ZD8 L;have h2:=ZEE M;have h3:Qq ZB (ZAp .i64) []=some []:=rfl;rcases hv:ZKC L l with v
 unfold ZKC at hv;unfold ZIu;refine ZG.mcallsX (fC 118 true ?_) (by first|decide|(simp;done)) hO (by first|rfl|exact hR);intro C0 E0;have uu:=Km @ZCG.eq_1 @ZCG.eq_2 @ZCG.eq_3 @ZCG.eq_4 @ZCG.eq_5 @ZCG.eq_6 @ZFy.eq_1 @ZQO.eq_1 (Km h1 h2 h3 @ZZO @ZZH hsm @ZBm @ZBa (ξ8 @ZCH @ZCP @Qd @Ql @Qk @ZBN @QN @ZXH));have tT:=ZU4;refine nz ?_;refine rg tT [0,3] ?_;refine rg tT [0,3,5] ?_;refine rg tT [0,3,11,12] ?_;refine WI.loopN 6 ?_;refine WI.round ?_;refine nz ?_;refine rg tT [0,3,11,12,13] ?_;refine ct (fun h0=> ?_) (fun h0=> ?_)
 ·refine rg tT [0,3,7,11,12] ?_;refine rg tT [0,3,8,11,12] ?_;refine rg tT [0,3,8,11,12,20] ?_;refine cd (fun h1=> ?_) (fun h1=> ?_)
  ·refine rg tT [4] ?_;refine lf ?_;refine⟨?_,_,rfl⟩;clear uu;grind
  ·refine rg tT [0,3,11,12] ?_;refine WI.round ?_;refine nz ?_;refine rg tT [0,3,11,12,13] ?_;refine ct (fun h0=> ?_) (fun h0=> ?_)
   ·refine rg tT [0,3,7,11,12] ?_;refine rg tT [0,3,8,11,12] ?_;refine rg tT [0,3,8,11,12,20] ?_;refine cd (fun h1=> ?_) (fun h1=> ?_)
    ·refine rg tT [4] ?_;refine lf ?_;refine⟨?_,_,rfl⟩;clear uu;grind
    ·refine rg tT [0,3,11,12] ?_;refine WI.round ?_;refine nz ?_;refine rg tT [0,3,11,12,13] ?_;refine ct (fun h0=> ?_) (fun h0=> ?_)
     ·refine rg tT [0,3,7,11,12] ?_;refine rg tT [0,3,8,11,12] ?_;refine rg tT [0,3,8,11,12,20] ?_;refine cd (fun h1=> ?_) (fun h1=> ?_)
      ·refine rg tT [4] ?_;refine lf ?_;refine⟨?_,_,rfl⟩;clear uu;grind
      ·refine rg tT [0,3,11,12] ?_;refine WI.round ?_;refine nz ?_;refine rg tT [0,3,11,12,13] ?_;refine ct (fun h0=> ?_) (fun h0=> ?_)
       ·refine rg tT [0,3,7,11,12] ?_;refine rg tT [0,3,8,11,12] ?_;refine rg tT [0,3,8,11,12,20] ?_;refine cd (fun h1=> ?_) (fun h1=> ?_)
        ·refine rg tT [4] ?_;refine lf ?_;refine⟨?_,_,rfl⟩;clear uu;grind
        ·refine rg tT [0,3,11,12] ?_;refine WI.round ?_;refine nz ?_;refine rg tT [0,3,11,12,13] ?_;refine ct (fun h0=> ?_) (fun h0=> ?_)
         ·refine rg tT [0,3,7,11,12] ?_;refine rg tT [0,3,8,11,12] ?_;refine rg tT [0,3,8,11,12,20] ?_;refine cd (fun h1=> ?_) (fun h1=> ?_)
          ·refine rg tT [4] ?_;refine lf ?_;refine⟨?_,_,rfl⟩;clear uu;grind
          ·refine rg tT [0,3,11,12] ?_;refine WI.round ?_;refine nz ?_;refine rg tT [0,3,11,12,13] ?_;refine ce (fun h0=> ?_) (fun h0=> ?_)
           ·exact absurd h0 (by decide)
           ·refine rg tT [4] ?_;refine lf ?_;refine⟨?_,_,rfl⟩;clear uu;grind
         ·exact absurd h0 (by decide)
       ·exact absurd h0 (by decide)
     ·exact absurd h0 (by decide)
   ·exact absurd h0 (by decide)
 ·exact absurd h0 (by decide)
def ZE9:List D→List Ob→Option (Bool×D×List Ob)
 | [.ptr 0 0,.agg [.x (.str dn),.x (.sl R)]],[.box [.mref 1,.mref 2],.mpo .str true P1,.mpo .str true P2]=>(Qq ZB Yi P1).bind fun L=>(Qq ZB Kp P2).bind fun M=>(ZY ZV R).bind fun l=>some (decide (smA l),.x (.int .i64 (ZKC L l)),[.box [.mref 1,.mref 2],.mpo .str true (JK L),.mpo .str true (JC M)])
 |_,_=>none
theorem ZSO: ∀args os r os',ZE9 args os=some (true,r,os')→ZL Tryz.prog 118 args os r os':=by
 intro args os r os' h;unfold ZE9 at h;split at h
 ·rename_i dn R P1 P2;obtain⟨L,hm0,h⟩:=Zv h;obtain⟨M,hm1,h⟩:=Zv h;obtain⟨l,hr0,h⟩:=Zv h;simp only[Ze,Za,ZS,Zi,true_and]at h;obtain⟨h1,rfl,rfl⟩:=h;rw[JD ZO JX hm0];rw[JD ZO KI hm1];rw[←Zb YJ hr0];exact ZX6 L M (dn,l,()) h1
 ·cases h
def OC:Tx:= [111,98,106,101,99,116,99,108,97,115,115]
def snL(l:List Tx):Sn:=l.foldl snS []
theorem ZKl(l:List Tx)(k:Tx):snL (l++ [k])=snS (snL l) k:=by unfold snL;rw[ZSi];rfl
theorem ZFi(l:List Tx)(k:Tx):ZI (snL l) k=if k∈l then some (l.count k:Int)else none:=by
 suffices h: ∀(n:Nat) (l:List Tx),l.length=n→ZI (snL l) k=if k∈l then some (l.count k:Int)else none from h _ l rfl
 intro n
 induction n with
 |zero=>intro l hl;obtain rfl:=ξQ hl;rfl
 |succ n ihn=>
  intro l hl;rcases List.eq_nil_or_concat l with rfl|⟨l0,x,rfl⟩
  ·simp at hl
  have ih:=ihn l0 (by simpa using hl);rw[List.concat_eq_append,ZKl];unfold snS;rw[ZLe];by_cases h:k=x
  ·subst h;rw[if_pos rfl,if_pos (by simp)];unfold snG;rw[ih,List.count_append];by_cases hk:k∈l0
   ·rw[if_pos hk];simp
   ·rw[if_neg hk,List.count_eq_zero_of_not_mem hk];simp
  ·rw[if_neg h,ih,List.count_append];have hx: ¬x=k:=fun e=>h e.symm
   by_cases hk:k∈l0
   ·rw[if_pos hk,if_pos (by simp[hk])];simp[hx]
   ·rw[if_neg hk,if_neg (by simp[hk,h])]
abbrev snM(l:List Tx):List Pr:=YV Jo Qb (snL l)
theorem ZDu{l:List Tx}{k:Tx}(h:k∈l):Yx (snM l) [X.str k]=some [D.x (X.int .i64 (l.count k))]:=by
 rw[ZQB,ZFi,if_pos h];rfl
theorem ZFv{l:List Tx}{k:Tx}(h:k∉l):Yx (snM l) [X.str k]=none:=by
 rw[ZQB,ZFi,if_neg h];rfl
theorem ZOe{l:List Tx}{k:Tx}(h:k∈l):YM (snM l) [X.str k] [D.x (X.int .i64 ((l.count k:Int)+1))]=snM (l++ [k]):=by
 rw[ZLX];unfold snM;rw[ZKl];unfold snS snG;rw[ZFi,if_pos h];rfl
theorem ZGz{l:List Tx}{k:Tx}(h:k∉l):YM (snM l) [X.str k] [D.x (X.int .i64 1)]=snM (l++ [k]):=by
 rw[ZLX];unfold snM;rw[ZKl];unfold snS snG;rw[ZFi,if_neg h];rfl
theorem ZP3(l:List Tx)(k:Tx):k∈l↔ ∃n,(k,n)∈snL l:=by
 have key: ∀(S:Sn) (k:Tx),(ZI S k).isSome=true↔ ∃n,(k,n)∈S:=by
  intro S k
  induction S with
  |nil=>simp[ZI]
  |cons p S ih=>
   by_cases h:k=p.1
   ·subst h;simp[ZI];exact⟨p.2,.inl rfl⟩
   ·have e:ZI (p::S) k=ZI S k:=by simp[ZI,h]
    rw[e,ih];constructor
    ·rintro⟨n,hn⟩;exact⟨n,ZGo _ hn⟩
    ·rintro⟨n,hn⟩;rcases QM.1 hn with hh|hh
     ·exact absurd (congrArg Prod.fst hh) h
     ·exact⟨n,hh⟩
 rw[←key,ZFi];split<;>simp_all
def ZDK(l:List ZU):List Tx:=l.map fun a=>ZF a.1
def ZGl(l:List ZU):List Tx:=l.foldl (fun c a=>if ZF a.1=OC then a.2.1 else c) []
def ZGk(M:List (Tx×Zs))(cs:List Tx):List Tx:=cs.flatMap fun n=>(clV M (ZF n)).2.1++(clV M (ZF n)).2.2.1
def ZJL(M:List (Tx×Zs))(H:List Tx)(n:Tx):Bool:=(ZI M (ZF n)).isSome&&(clV M (ZF n)).2.1.all fun x=>decide (x∈H)
def ZJh(L:List (Tx×Zg))(M:List (Tx×Zs))(l:List ZU):Int:=
 if ZKC L l≠0 then ZKC L l
 else if((ZGl l).all (ZJL M (ZDK l))&&((ZDK l).all (fun h=>decide (h∈OC::ZGk M (ZGl l)))&&decide (ZGl l≠ [])))=true then 0 else 65
theorem ZVd(l:List ZU)(i:Nat)(h:i<l.length):ZDK (l.take (i+1))=ZDK (l.take i)++ [ZF (l.getD i ([],[],())).1]:=by
 unfold ZDK;rw[Ko h,KC];simp[h]
theorem ZUO(l:List ZU)(i:Nat)(h:i<l.length):ZGl (l.take (i+1))=if ZF (l.getD i ([],[],())).1=OC then(l.getD i ([],[],())).2.1 else ZGl (l.take i):=by
 unfold ZGl;rw[Ko h,ZSi];simp[h]
theorem Zai{l:List ZU}(h:smA l)(hv: ∀a∈l,∀v∈a.2.1,v.length≤1000000):(ZGl l).length≤1000000∧ ∀v∈ZGl l,v.length≤1000000:=by
 have key: ∀(m:List ZU) (c:List Tx),(∀a∈m,a∈l)→(c.length≤1000000∧ ∀v∈c,v.length≤1000000)→(m.foldl (fun c a=>if ZF a.1=OC then a.2.1 else c) c).length≤1000000∧ ∀v∈m.foldl (fun c a=>if ZF a.1=OC then a.2.1 else c) c,v.length≤1000000:=by
  intro m
  induction m with
  |nil=>intro c _ hc;exact hc
  |cons a m ih=>
   intro c hm hc;rw[ZMl];refine ih _ (fun x hx=>hm x (ZGo _ hx)) ?_;split
   ·exact⟨(h.2 a (hm a ZDn)).2,hv a (hm a ZDn)⟩
   ·exact hc
 exact key l [] (fun _ h=>h) (by simp)
def bdC(M:List (Tx×Zs)):Prop:= ∀k,(clV M k).2.1.length≤1000000∧(clV M k).2.2.1.length≤1000000
theorem ZUu(M:List (Tx×Zs))(cs:List Tx)(i:Nat)(h:i<cs.length):ZGk M (cs.take (i+1))=ZGk M (cs.take i)++((clV M (ZF (cs.getD i []))).2.1++(clV M (ZF (cs.getD i []))).2.2.1):=by
 unfold ZGk;rw[Ko h,ZXO];simp[h]
theorem ZOz{M:List (Tx×Zs)}(hM:bdC M): ∀cs:List Tx,(ZGk M cs).length≤cs.length*2000000
 | []=>by simp[ZGk]
 |n::cs=>by
  have:=ZOz hM cs;have:=hM (ZF n);unfold ZGk at*;rw[ZMt,Zx,Zx,JJ];omega
end Go.Proofs.YtiogclkbccdefaaGreatDoor
end
section
namespace Go.Proofs.YtiogclkbccdefaaGreatDoor
open Go.RowKit Go.Bo Go.Ab
def ZC8:Tabs:=ZW (ZW (Jc (Jc (ZQ) 118 ZE9) 119 ZG2) 63 Zr) 120 Kk
theorem ZWR:SsOk Tryz.prog ZC8:=ZJ (ZJ (Ys (Ys (ZE) (ZZ 118) ZSO) (ZZ 119) ZUH) (ZZ 63) ZAA) (ZZ 120) ZKi
theorem ZXo:(∀a,ZC8.q 118 a=none)∧(∀a o,ZC8.t 118 a o=Ym ZE9 a o)∧(∀a,ZC8.q 119 a=none)∧(∀a o,ZC8.t 119 a o=Ym ZG2 a o)∧(∀a,ZC8.q 63 a=Zr a)∧(∀a,ZC8.q 120 a=Kk a)∧(∀f a o,ZC8.r f a o=none)∧(∀f a o,ZC8.k f a o=none):=⟨fun _=>rfl,fun _ _=>rfl,fun _=>rfl,fun _ _=>rfl,fun _=>rfl,fun _=>rfl,fun _ _ _=>rfl,fun _ _ _=>rfl⟩
theorem ZSL{α:Type}{l:List α}{i:Nat}{q:α}(h:l[i]? =some q): ∀x,x∈l↔x=q∨x∈l.eraseIdx i:=by
 intro x;have hp:l.Perm (q::l.eraseIdx i):=by
  obtain⟨hi,he⟩:=ZR h;rw[List.eraseIdx_eq_take_drop_succ]
  conv=>lhs;rw[←ZCn i l,ZFd hi,he]
  exact List.perm_middle
 rw[hp.mem_iff,QM]
abbrev scE(L:List (Tx×Zg))(M:List (Tx×Zs))(dn:Tx)(l:List ZU)(H:List Tx):List Ob:= [.box [.mref 1,.mref 2],.mpo .str true (JK L),.mpo .str true (JC M),.box [.x (.str dn),.x (.sl (rows ZV l))],.mpo .str false (snM H)]
abbrev scF(L:List (Tx×Zg))(M:List (Tx×Zs))(dn:Tx)(l:List ZU)(H Y:List Tx):List Ob:= [.box [.mref 1,.mref 2],.mpo .str true (JK L),.mpo .str true (JC M),.box [.x (.str dn),.x (.sl (rows ZV l))],.mpo .str false (snM H),.mpo .str false (snM Y)]
theorem ZJy(L:List (Tx×Zg))(M:List (Tx×Zs))(dn:Tx)(l:List ZU)(H:List Tx):(scE L M dn l H).all (Ob.inP (fun i=>decide (i<(scE L M dn l H).length)))=true:=by
 simp[Ob.inP,Yb,D.inP,Qd,Ql,QN]
theorem ZZr(L:List (Tx×Zg))(M:List (Tx×Zs))(dn:Tx)(l:List ZU)(H Y:List Tx):(scF L M dn l H Y).all (Ob.inP (fun i=>decide (i<(scF L M dn l H Y).length)))=true:=by
 simp[Ob.inP,Yb,D.inP,Qd,Ql,QN]
abbrev scG(L:List (Tx×Zg))(M:List (Tx×Zs))(dn:Tx)(l:List ZU)(H Y:List Tx)(c:Zs):List Ob:= [.box [.mref 1,.mref 2],.mpo .str true (JK L),.mpo .str true (JC M),.box [.x (.str dn),.x (.sl (rows ZV l))],.mpo .str false (snM H),.mpo .str false (snM Y),.box [.x (.str c.1),.x (.sl (rows ZB c.2.1)),.x (.sl (rows ZB c.2.2.1))]]
set_option maxHeartbeats 4000000 in
theorem ZaN(L:List (Tx×Zg))(M:List (Tx×Zs))(e:ZCO)(he:smA e.2.1)(hv: ∀a∈e.2.1,∀v∈a.2.1,v.length≤1000000)(hM:bdC M):ZL Tryz.prog 78 [.ptr 0 0,ZIu e] (scO L M) (.x (.int .i64 (ZJh L M e.2.1))) (scO L M):=by
 obtain⟨dn,l,u⟩:=e;simp only at he hv⊢;have hsm:=Zc he;have hll:l.length≤1000000:=he.1;have hO:=ZA5 L M;have h1':=ZD8 L;have h2':=ZEE M;obtain⟨hcl,hcv⟩:=Zai he hv;have hoc:(OC:Tx)= [111,98,106,101,99,116,99,108,97,115,115]:=rfl;have hns:YM [] [X.str [111,98,106,101,99,116,99,108,97,115,115]] [D.x (X.int .i64 1)]=snM [OC]:=by rfl
 rcases hres:ZJh L M l with v
 unfold ZJh at hres;unfold ZIu;refine ZG.mcallsX (fC 78 true ?_) (by first|decide|(simp;done)) hO (by first|rfl|exact hR);intro C0 E0;have uu:=Km @ZE9.eq_1 @ZE9.eq_2 @ZG2.eq_1 @ZG2.eq_2 @Zr.eq_1 @Zr.eq_2 @Kk.eq_1 @Kk.eq_2 (Km @h1' @h2' @ZZH hsm hns @ZBm @ZBa @ZCH (ξ7 @ZCP @Qd @Ql @Qk @ZBN @QN @ZXo));have tT:=ZWR;refine nz ?_;refine rg tT [0,3] ?_;refine rg tT [0,3,22] ?_;refine ce (fun h0=> ?_) (fun h0=> ?_)
 ·simp at h0
 ·refine rg tT [0,3,5] ?_;refine rg tT [0,3,5,27] ?_;refine cd (fun h1=> ?_) (fun h1=> ?_)
  ·rw[if_pos (by simpa using h1)]at hres;refine rg tT [4] ?_;refine lf ?_;exact⟨by rw[hres],_,rfl⟩
  ·rw[if_neg (by simpa using h1)]at hres;refine rg tT [0,3,6] ?_;refine rg tT [0,3,6,7] ?_;refine rg tT [0,6,7,31,32,33] ?_;refine WI.nnA ?_;refine WI.orderA [0,6,7,31,32,33] ?_;refine WI.loop (fun φ os=> ∃(i:Nat),φ= [(0,.ptr 0 0),(6,.mref 4),(7,.x (.sl (rows ZB (ZGl (l.take i))))),(31,.x (.sl (rows ZV l))),(32,.x (.int .i64 l.length)),(33,.x (.int .i64 i))]∧os=scE L M dn l (ZDK (l.take i))∧i≤l.length) (ZX l.length 33) ?_ (fun φ os hI=> ?_)
   ·exact⟨0,rfl,rfl,by omega⟩
   ·obtain⟨i,rfl,rfl,hi⟩:=hI;refine nz ?_;refine rg tT [0,6,7,31,32,33,34] ?_;refine cd (fun h2=> ?_) (fun h2=> ?_)
    ·have hi4:i<l.length:=by omega
     have hrw:=ZPU l i hi4;have hnt:=ZVd l i hi4;have hct:=ZUO l i hi4;have hma:l.getD i ([],[],())∈l:=by rw[show l.getD i ([],[],())=l[i] by simp[hi4]];exact Yl hi4
     generalize l.getD i ([],[],())=a at hrw hnt hct hma;have hna:=(he.2 a hma).1;have hcn:(ZDK (l.take i)).count (ZF a.1)≤1000000:=ZJK ZYc (by unfold ZDK;rw[Yf,JA];have:=he.1;omega);have uu:=Yq uu hrw;refine rg tT [0,6,7,9,31,32,33] ?_;refine rg tT [0,6,7,9,10,31,32,33] ?_;by_cases hk:ZF a.1∈ZDK (l.take i)
     ·have hg1:=ZDu hk;have hg2:=ZOe hk;have uu:=Jz uu hg1 hg2;refine rg tT [0,6,7,9,10,31,32,33] ?_;refine rg tT [0,6,7,9,31,32,33,45] ?_;refine cd (fun h3=> ?_) (fun h3=> ?_)
      ·rw[if_pos (by rw[hoc];simpa using h3)]at hct;refine rg tT [0,6,7,31,32,33] ?_;refine WI.orderA [0,6,7,31,32,33] ?_;refine WI.dropT (scE L M dn l (ZDK (l.take i)++ [ZF a.1])) _ rfl (by simp) (ZJy L M dn l _) (by simp[D.inP,Yb]) ?_;refine rg tT [0,6,7,31,32,33] ?_;exact⟨⟨i+1,by rw[hct];first|done|rfl,by rw[hnt],by omega⟩,by simp[ZX,Ab.get,D.val,ZH];omega⟩
      ·rw[if_neg (fun e=>h3 (e.trans hoc))]at hct;refine WI.orderA [0,6,7,31,32,33] ?_;refine WI.dropT (scE L M dn l (ZDK (l.take i)++ [ZF a.1])) _ rfl (by simp) (ZJy L M dn l _) (by simp[D.inP,Yb]) ?_;refine rg tT [0,6,7,31,32,33] ?_;exact⟨⟨i+1,by rw[hct];first|done|rfl,by rw[hnt],by omega⟩,by simp[ZX,Ab.get,D.val,ZH];omega⟩
     ·have hg1:=ZFv hk;have hg2:=ZGz hk;have uu:=Jz uu hg1 hg2;refine rg tT [0,6,7,9,10,31,32,33] ?_;refine rg tT [0,6,7,9,31,32,33,45] ?_;refine cd (fun h3=> ?_) (fun h3=> ?_)
      ·rw[if_pos (by rw[hoc];simpa using h3)]at hct;refine rg tT [0,6,7,31,32,33] ?_;refine WI.orderA [0,6,7,31,32,33] ?_;refine WI.dropT (scE L M dn l (ZDK (l.take i)++ [ZF a.1])) _ rfl (by simp) (ZJy L M dn l _) (by simp[D.inP,Yb]) ?_;refine rg tT [0,6,7,31,32,33] ?_;exact⟨⟨i+1,by rw[hct];first|done|rfl,by rw[hnt],by omega⟩,by simp[ZX,Ab.get,D.val,ZH];omega⟩
      ·rw[if_neg (fun e=>h3 (e.trans hoc))]at hct;refine WI.orderA [0,6,7,31,32,33] ?_;refine WI.dropT (scE L M dn l (ZDK (l.take i)++ [ZF a.1])) _ rfl (by simp) (ZJy L M dn l _) (by simp[D.inP,Yb]) ?_;refine rg tT [0,6,7,31,32,33] ?_;exact⟨⟨i+1,by rw[hct];first|done|rfl,by rw[hnt],by omega⟩,by simp[ZX,Ab.get,D.val,ZH];omega⟩
    ·obtain rfl:i=l.length:=by omega
     rw[KW];refine WI.orderA [0,6,7] ?_;generalize ZDK l=H at hres⊢;generalize ZGl l=cs at hres hcl hcv⊢;refine rg tT [0,6,7,11] ?_;refine rg tT [0,6,7,11,51,52,53] ?_;refine WI.orderA [0,6,7,11,51,52,53] ?_;refine WI.loop (fun φ os=> ∃(i:Nat),φ= [(0,.ptr 0 0),(6,.mref 4),(7,.x (.sl (rows ZB cs))),(11,.mref 5),(51,.x (.sl (rows ZB cs))),(52,.x (.int .i64 cs.length)),(53,.x (.int .i64 i))]∧os=scF L M dn l H (OC::ZGk M (cs.take i))∧i≤cs.length∧(cs.take i).all (ZJL M H)=true) (ZX cs.length 53) ?_ (fun φ os hI=> ?_)
     ·exact⟨0,rfl,rfl,by omega,rfl⟩
     ·obtain⟨i,rfl,rfl,hi,hall⟩:=hI;refine nz ?_;refine rg tT [0,6,7,11,51,52,53,54] ?_;refine cd (fun h4=> ?_) (fun h4=> ?_)
      ·have hi4:i<cs.length:=by omega
       have hrw:=Qy cs i hi4;have hmt:=ZUu M cs i hi4;have hnl:(cs.getD i []).length≤1000000:=by rw[show cs.getD i []=cs[i] by simp[hi4]];exact hcv _ (Yl hi4)
       have hal:=KD (ZJL M H) cs i hi4;have hgi:cs[i]=cs.getD i []:=by simp[hi4]
       have hno:ZJL M H (cs.getD i [])=false→cs.all (ZJL M H)=false:=fun h=>YP (ZJL M H) cs i hi4 (by rw[hgi];exact h)
       rw[hgi]at hal;have hYl:=ZOz hM (cs.take i);rw[JA]at hYl;generalize ZGk M (cs.take i)=Y0 at hmt hYl⊢;generalize cs.getD i []=n at hrw hmt hnl hal hno;have hb:=hM (ZF n);have hcd:ZJL M H n=((ZI M (ZF n)).isSome&&(clV M (ZF n)).2.1.all fun x=>decide (x∈H)):=rfl;obtain⟨c,hc⟩: ∃c,c=clV M (ZF n):=⟨_,rfl⟩;rw[←hc]at hmt hb hcd;have hd47:decide (n.length≤140737488355328)=true:=Zc (by omega);have uu:=ξ5 uu hrw hc.symm (@clD.eq_1) hd47;refine rg tT [0,6,7,11,13,51,52,53] ?_;refine rg tT [0,6,7,11,14,15,51,52,53] ?_;refine rg tT [0,6,7,11,14,51,52,53,64] ?_;refine cd (fun h5=> ?_) (fun h5=> ?_)
       ·have hno2:=hno (by rw[hcd];clear uu;grind);rw[hno2,ZJO,if_neg (by decide)]at hres;refine rg tT [4] ?_;refine lf ?_;exact⟨by rw[hres],_,rfl⟩
       ·have hso:(ZI M (ZF n)).isSome=true:=by clear uu;grind
        rw[hso,ZCp]at hcd;refine rg tT [0,6,7,11,14,51,52,53,66,67,68] ?_;refine WI.orderA [0,6,7,11,14,51,52,53,66,67,68] ?_;refine WI.loop (fun φ os=> ∃(k:Nat),φ= [(0,.ptr 0 0),(6,.mref 4),(7,.x (.sl (rows ZB cs))),(11,.mref 5),(14,.ptr 6 0),(51,.x (.sl (rows ZB cs))),(52,.x (.int .i64 cs.length)),(53,.x (.int .i64 i)),(66,.x (.sl (rows ZB c.2.1))),(67,.x (.int .i64 c.2.1.length)),(68,.x (.int .i64 k))]∧os=scG L M dn l H (OC::(Y0++c.2.1.take k)) c∧k≤c.2.1.length∧(c.2.1.take k).all (fun x=>decide (x∈H))=true) (ZX c.2.1.length 68) ?_ (fun φ os hI=> ?_)
        ·exact⟨0,rfl,by rw[ZBZ,Kg],by omega,rfl⟩
        ·obtain⟨k,rfl,rfl,hk,hka⟩:=hI;refine nz ?_;refine rg tT [0,6,7,11,14,51,52,53,66,67,68,69] ?_;refine cd (fun h6=> ?_) (fun h6=> ?_)
         ·have hk4:k<c.2.1.length:=by omega
          have hrk:=Qy c.2.1 k hk4;have hgk:c.2.1[k]=c.2.1.getD k []:=by simp[hk4]
          have htk:OC::(Y0++c.2.1.take (k+1))=(OC::(Y0++c.2.1.take k))++ [c.2.1.getD k []]:=by rw[Ko hk4,hgk];simp
          have hak:=KD (fun x=>decide (x∈H)) c.2.1 k hk4;have hnk:c.2.1.getD k []∉H→c.2.1.all (fun x=>decide (x∈H))=false:=fun h=>YP (fun x=>decide (x∈H)) c.2.1 k hk4 (by rw[hgk];exact decide_eq_false h)
          rw[hgk]at hak;have hYk:(OC::(Y0++c.2.1.take k)).length≤4000000000000:=by rw[JJ,Zx,JA];omega
          generalize c.2.1.getD k []=x at hrk htk hak hnk;generalize OC::(Y0++c.2.1.take k)=Y at htk hYk;have hcy:=ZJK (ZYc (a:=x) (l:=Y)) hYk;have uu:=Yq uu hrk;refine rg tT [0,6,7,11,14,17,51,52,53,66,67,68] ?_;by_cases hxH:x∈H
          ·have hg1:=ZDu hxH;have hcp:0<H.count x:=ZSK.2 hxH;have uu:=Yq uu hg1;refine rg tT [0,6,7,11,14,17,51,52,53,66,67,68,75] ?_;refine ce (fun h7=> ?_) (fun h7=> ?_)
           ·have:((H.count x:Nat):Int)=0:=by simpa using h7
            omega
           ·have hka2:(c.2.1.take (k+1)).all (fun x=>decide (x∈H))=true:=by rw[hak,hka,Zc hxH];rfl
            by_cases hxY:x∈Y
            ·have hg2:=ZDu hxY;have hg3:=ZOe hxY;have uu:=Jz uu hg2 hg3;refine rg tT [0,6,7,11,14,51,52,53,66,67,68] ?_;refine rg tT [0,6,7,11,14,51,52,53,66,67,68] ?_;exact⟨⟨k+1,rfl,by rw[htk],by omega,hka2⟩,by simp[ZX,Ab.get,D.val,ZH];omega⟩
            ·have hg2:=ZFv hxY;have hg3:=ZGz hxY;have uu:=Jz uu hg2 hg3;refine rg tT [0,6,7,11,14,51,52,53,66,67,68] ?_;refine rg tT [0,6,7,11,14,51,52,53,66,67,68] ?_;exact⟨⟨k+1,rfl,by rw[htk],by omega,hka2⟩,by simp[ZX,Ab.get,D.val,ZH];omega⟩
          ·have hg1:=ZFv hxH;have uu:=Yq uu hg1;refine rg tT [0,6,7,11,14,17,51,52,53,66,67,68,75] ?_;refine ct (fun h7=> ?_) (fun h7=> ?_)
           ·refine rg tT [4] ?_;refine lf ?_;rw[hno (by rw[hcd];exact hnk hxH),ZJO,if_neg (by decide)]at hres;exact⟨by rw[hres],_,rfl⟩
           ·simp at h7
         ·obtain rfl:k=c.2.1.length:=by omega
          rw[KW]at hka;rw[KW];rw[hka]at hcd;have hall2:(cs.take (i+1)).all (ZJL M H)=true:=by rw[hal,hall,hcd];rfl
          refine rg tT [0,6,7,11,51,52,53,82,83,84] ?_;refine WI.orderA [0,6,7,11,51,52,53,82,83,84] ?_;refine WI.loop (fun φ os=> ∃(k:Nat),φ= [(0,.ptr 0 0),(6,.mref 4),(7,.x (.sl (rows ZB cs))),(11,.mref 5),(51,.x (.sl (rows ZB cs))),(52,.x (.int .i64 cs.length)),(53,.x (.int .i64 i)),(82,.x (.sl (rows ZB c.2.2.1))),(83,.x (.int .i64 c.2.2.1.length)),(84,.x (.int .i64 k))]∧os=scG L M dn l H (OC::(Y0++(c.2.1++c.2.2.1.take k))) c∧k≤c.2.2.1.length) (ZX c.2.2.1.length 84) ?_ (fun φ os hI=> ?_)
          ·exact⟨0,rfl,by rw[ZBZ,Kg],by omega⟩
          ·obtain⟨k,rfl,rfl,hk⟩:=hI;refine nz ?_;refine rg tT [0,6,7,11,51,52,53,82,83,84,85] ?_;refine cd (fun h8=> ?_) (fun h8=> ?_)
           ·have hk4:k<c.2.2.1.length:=by omega
            have hrk:=Qy c.2.2.1 k hk4;have hgk:c.2.2.1[k]=c.2.2.1.getD k []:=by simp[hk4]
            have htk:OC::(Y0++(c.2.1++c.2.2.1.take (k+1)))=(OC::(Y0++(c.2.1++c.2.2.1.take k)))++ [c.2.2.1.getD k []]:=by rw[Ko hk4,hgk];simp
            have hYk:(OC::(Y0++(c.2.1++c.2.2.1.take k))).length≤4000000000000:=by rw[JJ,Zx,Zx,JA];omega
            generalize c.2.2.1.getD k []=x at hrk htk;generalize OC::(Y0++(c.2.1++c.2.2.1.take k))=Y at htk hYk;have hcy:=ZJK (ZYc (a:=x) (l:=Y)) hYk;have uu:=Yq uu hrk;refine rg tT [0,6,7,11,19,51,52,53,82,83,84] ?_;by_cases hxY:x∈Y
            ·have hg2:=ZDu hxY;have hg3:=ZOe hxY;have uu:=Jz uu hg2 hg3;refine rg tT [0,6,7,11,51,52,53,82,83,84] ?_;refine rg tT [0,6,7,11,51,52,53,82,83,84] ?_;exact⟨⟨k+1,rfl,by rw[htk],by omega⟩,by simp[ZX,Ab.get,D.val,ZH];omega⟩
            ·have hg2:=ZFv hxY;have hg3:=ZGz hxY;have uu:=Jz uu hg2 hg3;refine rg tT [0,6,7,11,51,52,53,82,83,84] ?_;refine rg tT [0,6,7,11,51,52,53,82,83,84] ?_;exact⟨⟨k+1,rfl,by rw[htk],by omega⟩,by simp[ZX,Ab.get,D.val,ZH];omega⟩
           ·obtain rfl:k=c.2.2.1.length:=by omega
            rw[KW];refine WI.dropT (scF L M dn l H (OC::(Y0++(c.2.1++c.2.2.1)))) _ rfl (by simp) (ZZr L M dn l _ _) (by simp[D.inP,Yb]) ?_;refine WI.orderA [0,6,7,11,51,52,53] ?_;refine rg tT [0,6,7,11,51,52,53] ?_;exact⟨⟨i+1,rfl,by rw[hmt],by omega,hall2⟩,by simp[ZX,Ab.get,D.val,ZH];omega⟩
      ·obtain rfl:i=cs.length:=by omega
       rw[KW]at hall⊢;refine WI.orderA [6,7,11] ?_;rw[hall,ZCp]at hres;generalize OC::ZGk M cs=Y at hres⊢;refine rg tT [7,11,95] ?_;refine WI.orderA [7,11,95] ?_;refine WI.loop (fun φ os=> ∃(R:Sn) (cur:Option Pr),φ= [(7,.x (.sl (rows ZB cs))),(11,.mref 5),(95,.iref 4 6)]∧os= [.box [.mref 1,.mref 2],.mpo .str true (JK L),.mpo .str true (JC M),.box [.x (.str dn),.x (.sl (rows ZV l))],.mit .str false (snM H) 6 (YV Jo Qb R) cur,.mpo .str false (snM Y),.itr]∧(∀p∈R,p.1∈H)∧(∀h∈H,h∈Y∨ ∃n,(h,n)∈R)) (ZMa 4) ?_ (fun φ os hI=> ?_)
       ·exact⟨snL H,none,rfl,rfl,fun p hp=>(ZP3 H p.1).2 ⟨p.2,hp⟩,fun h hh=> .inr ((ZP3 H h).1 hh)⟩
       ·obtain⟨R,cur,rfl,rfl,hR1,hR2⟩:=hI;refine nz ?_;refine WI.nextMA [7,11,95,97] (fun hn37=> ?_) (fun i37 q37 hn37=> ?_)
        ·simp only[YV,ZY4]at hn37;subst hn37;have hHY:H.all (fun h=>decide (h∈Y))=true:=YQ.2 fun h hh=>Zc (by rcases hR2 h hh with h1|⟨n,h1⟩;exact h1;cases h1)
         rw[hHY,ZCp]at hres;refine nz ?_;refine ce (fun h9=> ?_) (fun h9=> ?_)
         ·exact absurd h9 (by decide)
         ·refine rg tT [4] ?_;refine lf ?_;refine⟨?_,_,rfl⟩;rw[←hres];clear uu;rcases cs with _|⟨x,cs⟩<;>simp;omega
        ·rw[Zas]at hn37;obtain⟨p,hp,rfl⟩:=ZT hn37;have hi37:=(ZR hp).1;have hpH:=hR1 p (YT hp);refine nz ?_;refine ct (fun h9=> ?_) (fun h9=> ?_)
         ·refine rg tT [7,11,20,95] ?_;by_cases hpY:p.1∈Y
          ·have hg1:=ZDu hpY;have hcp:0<Y.count p.1:=ZSK.2 hpY;have uu:=Yq uu hg1;refine rg tT [7,11,95,103] ?_;refine ce (fun h10=> ?_) (fun h10=> ?_) (kB:=fun h=>h.h)
           ·have:((Y.count p.1:Nat):Int)=0:=by simpa using h10
            omega
           ·have hR3: ∀h∈H,h∈Y∨ ∃n,(h,n)∈R.eraseIdx i37:=fun h hh=>by
             rcases hR2 h hh with h1|⟨n,h1⟩
             ·exact .inl h1
             ·rcases(ZSL hp (h,n)).1 h1 with h2|h2
              ·exact .inl (by rw[show h=p.1 from congrArg Prod.fst h2];exact hpY)
              ·exact .inr ⟨n,h2⟩
            refine WI.orderA [7,11,95] ?_;refine nz ?_;exact⟨⟨R.eraseIdx i37,_,rfl,rfl,fun q hq=>hR1 q (List.mem_of_mem_eraseIdx hq),hR3⟩,by simp only[ZMa,ZBe,ZBW,ZHo,ZIE];rw[ZSv,if_pos hi37];omega⟩
          ·have hg1:=ZFv hpY;have uu:=Yq uu hg1;refine rg tT [7,11,95,103] ?_;refine ct (fun h10=> ?_) (fun h10=> ?_)
           ·refine rg tT [4] ?_;refine lf ?_;rw[show H.all (fun h=>decide (h∈Y))=false from by rw[List.all_eq_false];exact⟨p.1,hpH,by simpa using hpY⟩,ZJO,if_neg (by decide)]at hres;exact⟨by rw[hres],_,rfl⟩
           ·simp at h10
         ·exact absurd h9 (by decide)
end Go.Proofs.YtiogclkbccdefaaGreatDoor
end
section
namespace Go.Proofs.YtiogclkbccdefaaGreatDoor
open Go.RowKit Go.Bo Go.Ab
end Go.Proofs.YtiogclkbccdefaaGreatDoor
end
section
namespace Go.Proofs.YtiogclkbccdefaaGreatDoor
open Go.RowKit Go.Bo Go.Ab
theorem ZJE(l:List Tx)(x:Tx):rows ZB (l++ [x])=rows ZB l++ [[X.str x]]:=by simp[rows,ZB]
theorem ZQF(l:List Zg)(j:Nat)(h:j<l.length):(rows Yi l)[j]? =some [X.str (l.getD j ([],0,false,())).1,X.int .i64 (l.getD j ([],0,false,())).2.1,X.bool (l.getD j ([],0,false,())).2.2.1]:=by
 simp[rows,h,Yi,Kz,ZB,ZAp,ZMF,ZDi]
theorem ZWG(l:List Zs)(j:Nat)(h:j<l.length):(rows Kp l)[j]? =some [X.str (l.getD j ([],[],[],())).1,X.sl (rows ZB (l.getD j ([],[],[],())).2.1),X.sl (rows ZB (l.getD j ([],[],[],())).2.2.1)]:=by
 simp[rows,h,Kp,Kz,ZB,rSl,ZDi]
theorem ZcU(n:Tx)(k:Int)(b:Bool):ZD Tryz.prog 108 [.agg [.x (.str n),.x (.int .i64 k),.x (.bool b)]] (.x (.str n)):=by
 refine ZG.pure (fC 108 true ?_) rfl;intro C0 E0;have uu:=trivial;have tT:=(ZE:SsOk Tryz.prog ZQ);refine nz ?_;refine rg tT [1] ?_;refine rg tT [2] ?_;refine lf ?_
 first|rfl|exact⟨rfl,rfl⟩|trivial
theorem Zbf(n:Tx)(R R':List (List X)):ZD Tryz.prog 111 [.agg [.x (.str n),.x (.sl R),.x (.sl R')]] (.x (.str n)):=by
 refine ZG.pure (fC 111 true ?_) rfl;intro C0 E0;have uu:=trivial;have tT:=(ZE:SsOk Tryz.prog ZQ);refine nz ?_;refine rg tT [1] ?_;refine rg tT [2] ?_;refine lf ?_
 first|rfl|exact⟨rfl,rfl⟩|trivial
theorem Zcy:ZD Tryz.prog 112 [] (.x (.int .i64 0)):=by
 refine ZG.pure (fC 112 true ?_) rfl;intro C0 E0;have uu:=trivial;have tT:=(ZE:SsOk Tryz.prog ZQ);refine nz ?_;refine rg tT [] ?_;refine rg tT [0] ?_;refine lf ?_
 first|rfl|exact⟨rfl,rfl⟩|trivial
def ZDz:List D→Option (Bool×D)
 | [.agg [.x (.str n),.x (.int .i64 k),.x (.bool b)]]=>some (true,.x (.str n))
 |_=>none
theorem ZYk: ∀args r,ZDz args=some (true,r)→ZD Tryz.prog 108 args r:=by
 intro args r h;unfold ZDz at h;split at h
 ·rename_i n k b;simp only[Ze,Za,ZS,Zi,true_and]at h;obtain rfl:=h;exact(ZcU n k b)
 ·cases h
def ZD0:List D→Option (Bool×D)
 | [.agg [.x (.str n),.x (.sl R),.x (.sl T)]]=>some (true,.x (.str n))
 |_=>none
theorem ZYn: ∀args r,ZD0 args=some (true,r)→ZD Tryz.prog 111 args r:=by
 intro args r h;unfold ZD0 at h;split at h
 ·rename_i n R T;simp only[Ze,Za,ZS,Zi,true_and]at h;obtain rfl:=h;exact(Zbf n R T)
 ·cases h
def ZFC:Tabs:=ZW (ZW (ZW (ZQ) 63 Zr) 108 ZDz) 111 ZD0
theorem ZH8:SsOk Tryz.prog ZFC:=ZJ (ZJ (ZJ (ZE) (ZZ 63) ZAA) (ZZ 108) ZYk) (ZZ 111) ZYn
theorem ZIj:(∀a,ZFC.q 63 a=Zr a)∧(∀a,ZFC.q 108 a=ZDz a)∧(∀a,ZFC.q 111 a=ZD0 a)∧(∀f a o,ZFC.r f a o=none)∧(∀f a o,ZFC.k f a o=none):=⟨fun _=>rfl,fun _=>rfl,fun _=>rfl,fun _ _ _=>rfl,fun _ _ _=>rfl⟩
theorem ZbN(l:List Tx)(hl:l.length≤100000)(hn: ∀x∈l,x.length≤140737488355328):ZD Tryz.prog 72 [.x (.sl (rows ZB l)),.fn 63 []] (.x (.sl (rows ZB (l.map ZF)))):=by
 refine ZG.pure (fC 72 true ?_) rfl;intro C0 E0;have uu:=ξ7 @Zr.eq_1 @Zr.eq_2 @ZIj @ZDz.eq_1 @ZDz.eq_2 @ZD0.eq_1 @ZD0.eq_2;have tT:=ZH8;refine nz ?_;refine rg tT [0,1] ?_;refine rg tT [0,1,5] ?_;refine rg tT [1,5,8,9,10] ?_;refine WI.ownA 5 9 1 ?_;refine WI.loop (fun φ os=> ∃(j:Nat),φ= [(1,.fn 63 []),(5,.ref 0 ((l.take j).map ZF).length 0 ((l.take j).map ZF).length),(8,.x (.sl (rows ZB l))),(9,.x (.int .i64 l.length)),(10,.x (.int .i64 j))]∧os= [.rows false 9 1 (rows ZB ((l.take j).map ZF))]∧j≤l.length) (ZX l.length 10) ?_ (fun φ os hI=> ?_)
 ·exact⟨0,rfl,rfl,by omega⟩
 ·obtain⟨j,rfl,rfl,hj⟩:=hI;refine nz ?_;refine rg tT [1,5,8,9,10,11] ?_;refine cd (fun h0=> ?_) (fun h0=> ?_)
  ·have hj4:j<l.length:=by omega
   have hrw:=Qy l j hj4;have htk:(l.take (j+1)).map ZF=(l.take j).map ZF++ [ZF (l.getD j [])]:=by rw[Ko hj4,KC];simp[hj4]
   have hd:=Zc (hn (l.getD j []) (by rw[show l.getD j []=l[j] by simp[hj4]];exact Yl hj4));have hlen:((l.take j).map ZF).length=j:=by rw[Yf,JA];omega
   have hlen2:((l.take j).map ZF).length≤100000:=by rw[hlen];omega
   generalize l.getD j []=x at hrw htk hd;have uu:=Jz uu hrw hd;refine rg tT [1,5,7,8,9,10] ?_;refine rg tT [1,5,8,9,10] ?_;refine WI.pickA [0] ?_;refine rg tT [1,5,8,9,10] ?_;exact⟨⟨j+1,by rw[htk,Zx];rfl,by rw[htk,ZJE],by omega⟩,by simp[ZX,Ab.get,D.val,ZH];omega⟩
  ·obtain rfl:j=l.length:=by omega
   rw[KW];refine rg tT [4] ?_;refine WI.freezeA [0] ?_;refine WI.pickA [] ?_;refine lf ?_
   first|rfl|exact⟨rfl,rfl⟩|trivial
theorem ZZc(l:List Zg)(hl:l.length≤100000):ZD Tryz.prog 107 [.x (.sl (rows Yi l)),.fn 108 []] (.x (.sl (rows ZB (l.map (·.1))))):=by
 refine ZG.pure (fC 107 true ?_) rfl;intro C0 E0;have uu:=ξ7 @ZDz.eq_1 @ZDz.eq_2 @ZIj @ZD0.eq_1 @ZD0.eq_2 @Zr.eq_1 @Zr.eq_2;have tT:=ZH8;refine nz ?_;refine rg tT [0,1] ?_;refine rg tT [0,1,5] ?_;refine rg tT [1,5,8,9,10] ?_;refine WI.ownA 5 9 1 ?_;refine WI.loop (fun φ os=> ∃(j:Nat),φ= [(1,.fn 108 []),(5,.ref 0 ((l.take j).map (·.1)).length 0 ((l.take j).map (·.1)).length),(8,.x (.sl (rows Yi l))),(9,.x (.int .i64 l.length)),(10,.x (.int .i64 j))]∧os= [.rows false 9 1 (rows ZB ((l.take j).map (·.1)))]∧j≤l.length) (ZX l.length 10) ?_ (fun φ os hI=> ?_)
 ·exact⟨0,rfl,rfl,by omega⟩
 ·obtain⟨j,rfl,rfl,hj⟩:=hI;refine nz ?_;refine rg tT [1,5,8,9,10,11] ?_;refine cd (fun h0=> ?_) (fun h0=> ?_)
  ·have hj4:j<l.length:=by omega
   have hrw:=ZQF l j hj4;have htk:(l.take (j+1)).map (·.1)=(l.take j).map (·.1)++ [(l.getD j ([],0,false,())).1]:=by rw[Ko hj4,KC];simp[hj4]
   have hlen:((l.take j).map (·.1)).length=j:=by rw[Yf,JA];omega
   have hlen2:((l.take j).map (·.1)).length≤100000:=by rw[hlen];omega
   generalize l.getD j ([],0,false,())=x at hrw htk;have uu:=Yq uu hrw;refine rg tT [1,5,7,8,9,10] ?_;refine rg tT [1,5,8,9,10] ?_;refine WI.pickA [0] ?_;refine rg tT [1,5,8,9,10] ?_;exact⟨⟨j+1,by rw[htk,Zx];rfl,by rw[htk,ZJE],by omega⟩,by simp[ZX,Ab.get,D.val,ZH];omega⟩
  ·obtain rfl:j=l.length:=by omega
   rw[KW];refine rg tT [4] ?_;refine WI.freezeA [0] ?_;refine WI.pickA [] ?_;refine lf ?_
   first|rfl|exact⟨rfl,rfl⟩|trivial
theorem ZZl(l:List Zs)(hl:l.length≤100000):ZD Tryz.prog 110 [.x (.sl (rows Kp l)),.fn 111 []] (.x (.sl (rows ZB (l.map (·.1))))):=by
 refine ZG.pure (fC 110 true ?_) rfl;intro C0 E0;have uu:=ξ7 @ZD0.eq_1 @ZD0.eq_2 @ZIj @ZDz.eq_1 @ZDz.eq_2 @Zr.eq_1 @Zr.eq_2;have tT:=ZH8;refine nz ?_;refine rg tT [0,1] ?_;refine rg tT [0,1,5] ?_;refine rg tT [1,5,8,9,10] ?_;refine WI.ownA 5 9 1 ?_;refine WI.loop (fun φ os=> ∃(j:Nat),φ= [(1,.fn 111 []),(5,.ref 0 ((l.take j).map (·.1)).length 0 ((l.take j).map (·.1)).length),(8,.x (.sl (rows Kp l))),(9,.x (.int .i64 l.length)),(10,.x (.int .i64 j))]∧os= [.rows false 9 1 (rows ZB ((l.take j).map (·.1)))]∧j≤l.length) (ZX l.length 10) ?_ (fun φ os hI=> ?_)
 ·exact⟨0,rfl,rfl,by omega⟩
 ·obtain⟨j,rfl,rfl,hj⟩:=hI;refine nz ?_;refine rg tT [1,5,8,9,10,11] ?_;refine cd (fun h0=> ?_) (fun h0=> ?_)
  ·have hj4:j<l.length:=by omega
   have hrw:=ZWG l j hj4;have htk:(l.take (j+1)).map (·.1)=(l.take j).map (·.1)++ [(l.getD j ([],[],[],())).1]:=by rw[Ko hj4,KC];simp[hj4]
   have hlen:((l.take j).map (·.1)).length=j:=by rw[Yf,JA];omega
   have hlen2:((l.take j).map (·.1)).length≤100000:=by rw[hlen];omega
   generalize l.getD j ([],[],[],())=x at hrw htk;have uu:=Yq uu hrw;refine rg tT [1,5,7,8,9,10] ?_;refine rg tT [1,5,8,9,10] ?_;refine WI.pickA [0] ?_;refine rg tT [1,5,8,9,10] ?_;exact⟨⟨j+1,by rw[htk,Zx];rfl,by rw[htk,ZJE],by omega⟩,by simp[ZX,Ab.get,D.val,ZH];omega⟩
  ·obtain rfl:j=l.length:=by omega
   rw[KW];refine rg tT [4] ?_;refine WI.freezeA [0] ?_;refine WI.pickA [] ?_;refine lf ?_
   first|rfl|exact⟨rfl,rfl⟩|trivial
end Go.Proofs.YtiogclkbccdefaaGreatDoor
end
section
namespace Go.Proofs.YtiogclkbccdefaaGreatDoor
open Go.RowKit Go.Bo Go.Ab
def ZIB(T:List Zg):Int:=if T.all (fun t=>decide (1≤t.2.1∧t.2.1≤5))=true then 0 else 1
def QK(l:List Tx)(b:Int):Int:=if l.all JV=true then(if b≠0 then b else if decide (l.map ZF).Nodup=true then 0 else 9)else 13
theorem Zcx(T:List Zg)(hT:T.length≤100000):ZL Tryz.prog 109 [.ptr 0 0] [.box [.x (.sl (rows Yi T))]] (.x (.int .i64 (ZIB T))) [.box [.x (.sl (rows Yi T))]]:=by
 have hO: [Ob.box [.x (.sl (rows Yi T))]].all (Ob.inP (fun i=>decide (i< [Ob.box [.x (.sl (rows Yi T))]].length)))=true:=rfl;refine ZG.mcallsX (fC 109 true ?_) (by first|decide|(simp;done)) hO (by first|rfl|exact hR);intro C0 E0;have uu:=trivial;have tT:=(ZE:SsOk Tryz.prog ZQ);refine nz ?_;refine rg tT [0] ?_;refine rg tT [4,5,6] ?_;refine WI.orderA [4,5,6] ?_;refine WI.loop (fun φ os=> ∃(j:Nat),φ= [(4,.x (.sl (rows Yi T))),(5,.x (.int .i64 T.length)),(6,.x (.int .i64 j))]∧os= [.box [.x (.sl (rows Yi T))]]∧j≤T.length∧(T.take j).all (fun t=>decide (1≤t.2.1∧t.2.1≤5))=true) (ZX T.length 6) ?_ (fun φ os hI=> ?_)
 ·exact⟨0,rfl,rfl,by omega,rfl⟩
 ·obtain⟨j,rfl,rfl,hj,hall⟩:=hI;refine nz ?_;refine rg tT [4,5,6,7] ?_;refine cd (fun h0=> ?_) (fun h0=> ?_)
  ·have hj4:j<T.length:=by omega
   have hrw:=ZQF T j hj4;have hgj:T[j]=T.getD j ([],0,false,()):=by simp[hj4]
   have hal:=KD (fun t:Zg=>decide (1≤t.2.1∧t.2.1≤5)) T j hj4;have hno:decide (1≤(T.getD j ([],0,false,())).2.1∧(T.getD j ([],0,false,())).2.1≤5)=false→T.all (fun t=>decide (1≤t.2.1∧t.2.1≤5))=false:=fun h=>YP (fun t:Zg=>decide (1≤t.2.1∧t.2.1≤5)) T j hj4 (by rw[hgj];exact h)
   rw[hgj]at hal;generalize T.getD j ([],0,false,())=x at hrw hal hno;have uu:=Yq uu hrw;refine rg tT [3,4,5,6] ?_;refine rg tT [4,5,6,17] ?_;refine cd (fun h1=> ?_) (fun h1=> ?_)
   ·have hno2:=hno (decide_eq_false (by clear uu;grind));refine rg tT [1] ?_;refine lf ?_;exact⟨by unfold ZIB;rw[hno2];rfl,_,rfl⟩
   ·have hall2:(T.take (j+1)).all (fun t=>decide (1≤t.2.1∧t.2.1≤5))=true:=by rw[hal,hall,Zc (show 1≤x.2.1∧x.2.1≤5 by clear uu;grind)];rfl
    refine WI.pickA [0] ?_;refine rg tT [4,5,6] ?_;exact⟨⟨j+1,rfl,rfl,by omega,hall2⟩,by simp[ZX,Ab.get,D.val,ZH];omega⟩
  ·refine rg tT [1] ?_;refine lf ?_;exact⟨by unfold ZIB;rw[JH (by omega)]at hall;rw[hall];rfl,_,rfl⟩
def ZGQ:List D→List Ob→Option (Bool×D×List Ob)
 | [.ptr 0 0],[.box [.x (.sl R)]]=>(ZY Yi R).bind fun T=>some (decide (T.length≤100000),.x (.int .i64 (ZIB T)),[.box [.x (.sl (rows Yi T))]])
 |_,_=>none
theorem ZWj: ∀args os r os',ZGQ args os=some (true,r,os')→ZL Tryz.prog 109 args os r os':=by
 intro args os r os' h;unfold ZGQ at h;split at h
 ·rename_i R;obtain⟨T,hr0,h⟩:=Zv h;simp only[Ze,Za,ZS,Zi,true_and]at h;obtain⟨h1,rfl,rfl⟩:=h;rw[←Zb JX hr0];exact Zcx T h1
 ·cases h
theorem ZSP(T:List Zg):ZY Yi (rows Yi T)=some T:=Zj JX T
def ZF5:List D→Option (Bool×D)
 | []=>some (true,.x (.int .i64 0))
 |_=>none
theorem ZYv: ∀args r,ZF5 args=some (true,r)→ZD Tryz.prog 112 args r:=by
 intro args r h;unfold ZF5 at h;split at h
 ·simp only[Ze,Za,ZS,Zi,true_and]at h;obtain rfl:=h;exact Zcy
 ·cases h
def ZEN:Tabs:=Jc (ZW (ZW (ZW (ZQ) 63 Zr) 148 ZCv) 112 ZF5) 109 ZGQ
theorem ZOK:SsOk Tryz.prog ZEN:=Ys (ZJ (ZJ (ZJ (ZE) (ZZ 63) ZAA) (ZZ 148) ZTa) (ZZ 112) ZYv) (ZZ 109) ZWj
theorem ZO7:(∀a,ZEN.q 63 a=Zr a)∧(∀a,ZEN.q 148 a=ZCv a)∧(∀a,ZEN.q 112 a=ZF5 a)∧(∀a,ZEN.q 109 a=none)∧(∀a o,ZEN.t 109 a o=Ym ZGQ a o)∧(∀f a o,ZEN.r f a o=none)∧(∀f a o,ZEN.k f a o=none):=⟨fun _=>rfl,fun _=>rfl,fun _=>rfl,fun _=>rfl,fun _ _=>rfl,fun _ _ _=>rfl,fun _ _ _=>rfl⟩
theorem ZJv{l:List Tx}{j:Nat}(h:j<l.length):(l.take (j+1)).map ZF=(l.take j).map ZF++ [ZF (l.getD j [])]:=by
 rw[Ko h,KC];simp[h]
theorem ZUz{l:List Tx}{j:Nat}(h:j<l.length)(hin:ZF (l.getD j [])∈(l.take j).map ZF):decide (l.map ZF).Nodup=false:=by
 refine decide_eq_false fun hn=> ?_
 have e:l=l.take j++l.getD j []::l.drop (j+1):=by
  have:=ZCn j l;rw[ZFd h]at this;rw[show l.getD j []=l[j] by simp[h]];exact this.symm
 rw[e,KC,YL]at hn;exact(ZFW.1 hn).2.2 _ hin _ ZDn rfl
theorem ZXQ(T:List Zg)(hT:T.length≤100000)(l:List Tx)(hl:l.length≤100000)(hn: ∀x∈l,x.length≤1000000):ZL Tryz.prog 106 [.x (.sl (rows ZB l)),.fn 109 [.ptr 0 0]] [.box [.x (.sl (rows Yi T))]] (.x (.int .i64 (QK l (ZIB T)))) [.box [.x (.sl (rows Yi T))]]:=by
 obtain⟨B,hB⟩: ∃B,B=ZIB T:=⟨_,rfl⟩;rw[←hB];have hno:l.all JV=false→QK l B=13:=fun h=>by unfold QK;rw[h];rfl
 have hbb:l.all JV=true→B≠0→QK l B=B:=fun h h2=>by unfold QK;rw[if_pos h,if_pos h2]
 have hdu:l.all JV=true→B=0→decide (l.map ZF).Nodup=false→QK l B=9:=fun h h2 h3=>by unfold QK;rw[if_pos h,if_neg (by simp[h2]),h3];rfl
 have hok:l.all JV=true→B=0→(l.map ZF).Nodup→QK l B=0:=fun h h2 h3=>by unfold QK;rw[if_pos h,if_neg (by simp[h2]),Zc h3];rfl
 have hO:=(rfl: [Ob.box [.x (.sl (rows Yi T))]].all (Ob.inP (fun i=>decide (i< [Ob.box [.x (.sl (rows Yi T))]].length)))=true);refine ZG.mcallsX (fC 106 true ?_) (by first|decide|(simp;done)) hO (by first|rfl|exact hR);intro C0 E0;have uu:=Km @Zr.eq_1 @Zr.eq_2 @ZCv.eq_1 @ZCv.eq_2 @ZGQ.eq_1 @ZGQ.eq_2 @ZF5.eq_1 @ZF5.eq_2 (Yq @ZSP @ZO7);have tT:=ZOK;refine nz ?_;refine rg tT [0,1] ?_;refine rg tT [0,1,11,12,13] ?_;refine WI.orderA [0,1,11,12,13] ?_;refine WI.loop (fun φ os=> ∃(j:Nat),φ= [(0,.x (.sl (rows ZB l))),(1,.fn 109 [.ptr 0 0]),(11,.x (.sl (rows ZB l))),(12,.x (.int .i64 l.length)),(13,.x (.int .i64 j))]∧os= [.box [.x (.sl (rows Yi T))]]∧j≤l.length∧(l.take j).all JV=true) (ZX l.length 13) ?_ (fun φ os hI=> ?_)
 ·exact⟨0,rfl,rfl,by omega,rfl⟩
 ·obtain⟨j,rfl,rfl,hj,hall⟩:=hI;refine nz ?_;refine rg tT [0,1,11,12,13,14] ?_;refine cd (fun h0=> ?_) (fun h0=> ?_)
  ·have hj4:j<l.length:=by omega
   have hrw:=Qy l j hj4;have hgj:l[j]=l.getD j []:=by simp[hj4]
   have hal:=KD JV l j hj4;have hnt:JV (l.getD j [])=false→l.all JV=false:=fun h=>YP JV l j hj4 (by rw[hgj];exact h)
   have hd:=Zc (hn l[j] (Yl hj4));rw[hgj]at hal hd;generalize l.getD j []=x at hrw hal hnt hd;have uu:=Jz uu hrw hd;refine rg tT [0,1,6,11,12,13] ?_;refine rg tT [0,1,11,12,13,19] ?_;refine cd (fun h1=> ?_) (fun h1=> ?_)
   ·have hxf:JV x=false:=by clear uu;grind
    refine rg tT [4] ?_;refine lf ?_;exact⟨by rw[hno (hnt hxf)],_,rfl⟩
   ·have hxt:JV x=true:=by clear uu;grind
    have hall2:(l.take (j+1)).all JV=true:=by rw[hal,hall,hxt];rfl
    refine rg tT [0,1,11,12,13] ?_;exact⟨⟨j+1,rfl,rfl,by omega,hall2⟩,by simp[ZX,Ab.get,D.val,ZH];omega⟩
  ·obtain rfl:j=l.length:=by omega
   rw[KW]at hall;refine rg tT [0,7] ?_;refine rg tT [0,7,24] ?_;refine cd (fun h2=> ?_) (fun h2=> ?_)
   ·have hB0: ¬B=0:=by clear uu;subst hB;grind
    refine rg tT [4] ?_;refine lf ?_;exact⟨by rw[hbb hall hB0,hB],_,rfl⟩
   ·have hB0:B=0:=by clear uu;subst hB;grind
    refine rg tT [0,8] ?_;refine rg tT [8,27,28,29] ?_;refine WI.orderA [8,27,28,29] ?_;refine WI.loop (fun φ os=> ∃(j:Nat),φ= [(8,.mref 1),(27,.x (.sl (rows ZB l))),(28,.x (.int .i64 l.length)),(29,.x (.int .i64 j))]∧os= [.box [.x (.sl (rows Yi T))],.mpo .str false (snM ((l.take j).map ZF))]∧j≤l.length∧((l.take j).map ZF).Nodup) (ZX l.length 29) ?_ (fun φ os hI=> ?_)
    ·exact⟨0,rfl,rfl,by omega,by simp⟩
    ·obtain⟨j,rfl,rfl,hj,hnd⟩:=hI;refine nz ?_;refine rg tT [8,27,28,29,30] ?_;refine cd (fun h3=> ?_) (fun h3=> ?_)
     ·have hj4:j<l.length:=by omega
      have hrw:=Qy l j hj4;have hd:=Zc (show(l.getD j []).length≤140737488355328 by rw[show l.getD j []=l[j] by simp[hj4]];have:=hn _ (Yl hj4);omega);have uu:=Jz uu hrw hd;refine rg tT [8,10,27,28,29] ?_;by_cases hin:ZF (l.getD j [])∈(l.take j).map ZF
      ·have hg1:=ZDu hin;have hcp:=ZSK.2 hin;have uu:=Yq uu hg1;refine rg tT [8,10,27,28,29,37] ?_;refine ct (fun h4=> ?_) (fun h4=> ?_)
       ·refine rg tT [4] ?_;refine lf ?_;exact⟨by rw[hdu hall hB0 (ZUz hj4 hin)],_,rfl⟩
       ·first|exact h4 (ZSc.2 hcp)|exact(of_decide_eq_false h4) (ZSc.2 hcp)|(simp at h4;exact absurd hcp (by omega))
      ·have hg1:=ZFv hin;have hg2:=ZGz hin;have uu:=Jz uu hg1 hg2;refine rg tT [8,10,27,28,29,37] ?_;refine ce (fun h4=> ?_) (fun h4=> ?_)
       ·simp at h4
       ·refine rg tT [8,27,28,29] ?_;have hnd2:((l.take (j+1)).map ZF).Nodup:=by
         rw[ZJv hj4,ZFW];exact⟨hnd,by simp,fun a ha b hb=>by simp only[ZBP]at hb;subst hb;rintro rfl;exact hin ha⟩
        refine rg tT [8,27,28,29] ?_;exact⟨⟨j+1,rfl,by rw[ZJv hj4],by omega,hnd2⟩,by simp[ZX,Ab.get,D.val,ZH];omega⟩
     ·refine rg tT [4] ?_;refine lf ?_;exact⟨by rw[JH (by omega)]at hnd;rw[hok hall hB0 hnd],_,rfl⟩
theorem ZXv(l:List Tx)(hl:l.length≤100000)(hn: ∀x∈l,x.length≤1000000):ZD Tryz.prog 106 [.x (.sl (rows ZB l)),.fn 112 []] (.x (.int .i64 (QK l 0))):=by
 obtain⟨B,hB⟩: ∃B,B=(0:Int):=⟨_,rfl⟩;rw[←hB];have hno:l.all JV=false→QK l B=13:=fun h=>by unfold QK;rw[h];rfl
 have hbb:l.all JV=true→B≠0→QK l B=B:=fun h h2=>by unfold QK;rw[if_pos h,if_pos h2]
 have hdu:l.all JV=true→B=0→decide (l.map ZF).Nodup=false→QK l B=9:=fun h h2 h3=>by unfold QK;rw[if_pos h,if_neg (by simp[h2]),h3];rfl
 have hok:l.all JV=true→B=0→(l.map ZF).Nodup→QK l B=0:=fun h h2 h3=>by unfold QK;rw[if_pos h,if_neg (by simp[h2]),Zc h3];rfl
 refine ZG.pure (fC 106 true ?_) rfl;intro C0 E0;have uu:=Km @Zr.eq_1 @Zr.eq_2 @ZCv.eq_1 @ZCv.eq_2 @ZGQ.eq_1 @ZGQ.eq_2 @ZF5.eq_1 @ZF5.eq_2 @ZO7;have tT:=ZOK;refine nz ?_;refine rg tT [0,1] ?_;refine rg tT [0,1,11,12,13] ?_;refine WI.orderA [0,1,11,12,13] ?_;refine WI.loop (fun φ os=> ∃(j:Nat),φ= [(0,.x (.sl (rows ZB l))),(1,.fn 112 []),(11,.x (.sl (rows ZB l))),(12,.x (.int .i64 l.length)),(13,.x (.int .i64 j))]∧os= []∧j≤l.length∧(l.take j).all JV=true) (ZX l.length 13) ?_ (fun φ os hI=> ?_)
 ·exact⟨0,rfl,rfl,by omega,rfl⟩
 ·obtain⟨j,rfl,rfl,hj,hall⟩:=hI;refine nz ?_;refine rg tT [0,1,11,12,13,14] ?_;refine cd (fun h0=> ?_) (fun h0=> ?_)
  ·have hj4:j<l.length:=by omega
   have hrw:=Qy l j hj4;have hgj:l[j]=l.getD j []:=by simp[hj4]
   have hal:=KD JV l j hj4;have hnt:JV (l.getD j [])=false→l.all JV=false:=fun h=>YP JV l j hj4 (by rw[hgj];exact h)
   have hd:=Zc (hn l[j] (Yl hj4));rw[hgj]at hal hd;generalize l.getD j []=x at hrw hal hnt hd;have uu:=Jz uu hrw hd;refine rg tT [0,1,6,11,12,13] ?_;refine rg tT [0,1,11,12,13,19] ?_;refine cd (fun h1=> ?_) (fun h1=> ?_)
   ·have hxf:JV x=false:=by clear uu;grind
    refine rg tT [4] ?_;refine lf ?_;rw[hno (hnt hxf)]
   ·have hxt:JV x=true:=by clear uu;grind
    have hall2:(l.take (j+1)).all JV=true:=by rw[hal,hall,hxt];rfl
    refine rg tT [0,1,11,12,13] ?_;exact⟨⟨j+1,rfl,rfl,by omega,hall2⟩,by simp[ZX,Ab.get,D.val,ZH];omega⟩
  ·obtain rfl:j=l.length:=by omega
   rw[KW]at hall;refine rg tT [0,7] ?_;refine rg tT [0,7,24] ?_;refine cd (fun h2=> ?_) (fun h2=> ?_)
   ·have hB0: ¬B=0:=by clear uu;subst hB;grind
    refine rg tT [4] ?_;refine lf ?_;rw[hbb hall hB0,hB]
   ·have hB0:B=0:=by clear uu;subst hB;grind
    refine rg tT [0,8] ?_;refine rg tT [8,27,28,29] ?_;refine WI.orderA [8,27,28,29] ?_;refine WI.loop (fun φ os=> ∃(j:Nat),φ= [(8,.mref 0),(27,.x (.sl (rows ZB l))),(28,.x (.int .i64 l.length)),(29,.x (.int .i64 j))]∧os= [.mpo .str false (snM ((l.take j).map ZF))]∧j≤l.length∧((l.take j).map ZF).Nodup) (ZX l.length 29) ?_ (fun φ os hI=> ?_)
    ·exact⟨0,rfl,rfl,by omega,by simp⟩
    ·obtain⟨j,rfl,rfl,hj,hnd⟩:=hI;refine nz ?_;refine rg tT [8,27,28,29,30] ?_;refine cd (fun h3=> ?_) (fun h3=> ?_)
     ·have hj4:j<l.length:=by omega
      have hrw:=Qy l j hj4;have hd:=Zc (show(l.getD j []).length≤140737488355328 by rw[show l.getD j []=l[j] by simp[hj4]];have:=hn _ (Yl hj4);omega);have uu:=Jz uu hrw hd;refine rg tT [8,10,27,28,29] ?_;by_cases hin:ZF (l.getD j [])∈(l.take j).map ZF
      ·have hg1:=ZDu hin;have hcp:=ZSK.2 hin;have uu:=Yq uu hg1;refine rg tT [8,10,27,28,29,37] ?_;refine ct (fun h4=> ?_) (fun h4=> ?_)
       ·refine rg tT [4] ?_;refine lf ?_;rw[hdu hall hB0 (ZUz hj4 hin)]
       ·first|exact h4 (ZSc.2 hcp)|exact(of_decide_eq_false h4) (ZSc.2 hcp)|(simp at h4;exact absurd hcp (by omega))
      ·have hg1:=ZFv hin;have hg2:=ZGz hin;have uu:=Jz uu hg1 hg2;refine rg tT [8,10,27,28,29,37] ?_;refine ce (fun h4=> ?_) (fun h4=> ?_)
       ·simp at h4
       ·refine rg tT [8,27,28,29] ?_;have hnd2:((l.take (j+1)).map ZF).Nodup:=by
         rw[ZJv hj4,ZFW];exact⟨hnd,by simp,fun a ha b hb=>by simp only[ZBP]at hb;subst hb;rintro rfl;exact hin ha⟩
        refine rg tT [8,27,28,29] ?_;exact⟨⟨j+1,rfl,by rw[ZJv hj4],by omega,hnd2⟩,by simp[ZX,Ab.get,D.val,ZH];omega⟩
     ·refine rg tT [4] ?_;refine lf ?_;rw[JH (by omega)]at hnd;rw[hok hall hB0 hnd]
end Go.Proofs.YtiogclkbccdefaaGreatDoor
end
section
namespace Go.Proofs.YtiogclkbccdefaaGreatDoor
open Go.RowKit Go.Bo Go.Ab
def smN(l:List Tx):Prop:=l.length≤100000∧ ∀x∈l,x.length≤1000000
instance (l:List Tx):Decidable (smN l):=inferInstanceAs (Decidable (_∧_))
def ZG5:List D→Option (Bool×D)
 | [.x (.sl R),.fn 108 []]=>(ZY Yi R).bind fun l=>some (decide (l.length≤100000),.x (.sl (rows ZB (l.map (·.1)))))
 |_=>none
theorem ZV6: ∀args r,ZG5 args=some (true,r)→ZD Tryz.prog 107 args r:=by
 intro args r h;unfold ZG5 at h;split at h
 ·rename_i R;obtain⟨l,hr0,h⟩:=Zv h;simp only[Ze,Za,ZS,Zi,true_and]at h;obtain⟨h1,rfl⟩:=h;rw[←Zb JX hr0];exact(ZZc l h1)
 ·cases h
def ZHT:List D→Option (Bool×D)
 | [.x (.sl R),.fn 111 []]=>(ZY Kp R).bind fun l=>some (decide (l.length≤100000),.x (.sl (rows ZB (l.map (·.1)))))
 |_=>none
theorem ZUZ: ∀args r,ZHT args=some (true,r)→ZD Tryz.prog 110 args r:=by
 intro args r h;unfold ZHT at h;split at h
 ·rename_i R;obtain⟨l,hr0,h⟩:=Zv h;simp only[Ze,Za,ZS,Zi,true_and]at h;obtain⟨h1,rfl⟩:=h;rw[←Zb KI hr0];exact(ZZl l h1)
 ·cases h
def ZFA:List D→List Ob→Option (Bool×D×List Ob)
 | [.x (.sl R),.fn 109 [.ptr 0 0]],[.box [.x (.sl R2)]]=>(ZY ZB R).bind fun l=>(ZY Yi R2).bind fun T=>some (decide (T.length≤100000∧smN l),.x (.int .i64 (QK l (ZIB T))),[.box [.x (.sl (rows Yi T))]])
 |_,_=>none
theorem ZSX: ∀args os r os',ZFA args os=some (true,r,os')→ZL Tryz.prog 106 args os r os':=by
 intro args os r os' h;unfold ZFA at h;split at h
 ·rename_i R R2;obtain⟨l,hr0,h⟩:=Zv h;obtain⟨T,hr1,h⟩:=Zv h;simp only[Ze,Za,ZS,Zi,true_and]at h;obtain⟨h1,rfl,rfl⟩:=h;rw[←Zb ZO hr0];rw[←Zb JX hr1];exact ZXQ T h1.1 l h1.2.1 h1.2.2
 ·cases h
def ZE8:List D→Option (Bool×D)
 | [.x (.sl R),.fn 112 []]=>(ZY ZB R).bind fun l=>some (decide (smN l),.x (.int .i64 (QK l 0)))
 |_=>none
theorem ZTS: ∀args r,ZE8 args=some (true,r)→ZD Tryz.prog 106 args r:=by
 intro args r h;unfold ZE8 at h;split at h
 ·rename_i R;obtain⟨l,hr0,h⟩:=Zv h;simp only[Ze,Za,ZS,Zi,true_and]at h;obtain⟨h1,rfl⟩:=h;rw[←Zb ZO hr0];exact(ZXv l h1.1 h1.2)
 ·cases h
def ZFO:Tabs:=ZW (Jc (ZW (ZW (ZQ) 107 ZG5) 110 ZHT) 106 ZFA) 106 ZE8
theorem ZUm:SsOk Tryz.prog ZFO:=ZJ (Ys (ZJ (ZJ (ZE) (ZZ 107) ZV6) (ZZ 110) ZUZ) (ZZ 106) ZSX) (ZZ 106) ZTS
theorem ZXk:(∀a,ZFO.q 107 a=ZG5 a)∧(∀a,ZFO.q 110 a=ZHT a)∧(∀a o,ZFO.t 106 a o=Ym ZFA a o)∧(∀a,ZFO.q 106 a=ZE8 a)∧(∀f a o,ZFO.r f a o=none)∧(∀f a o,ZFO.k f a o=none):=⟨fun _=>rfl,fun _=>rfl,fun _ _=>rfl,fun _=>rfl,fun _ _ _=>rfl,fun _ _ _=>rfl⟩
theorem ZZQ(l:List Tx):ZY ZB (rows ZB l)=some l:=Zj ZO l
theorem ZZF(l:List Zs):ZY Kp (rows Kp l)=some l:=Zj KI l
def ZHp(T:List Zg)(C:List Zs):Int:=if 1024<T.length∨1024<C.length then 3 else if QK (T.map (·.1)) (ZIB T)≠0 then QK (T.map (·.1)) (ZIB T)else QK (C.map (·.1)) 0
def smT(T:List Zg):Prop:=T.length≤100000∧ ∀x∈T,x.1.length≤1000000
def smC(C:List Zs):Prop:=C.length≤100000∧ ∀x∈C,x.1.length≤1000000∧(x.2.1.length≤50000∧ ∀n∈x.2.1,n.length≤140737488355328)∧(x.2.2.1.length≤50000∧ ∀n∈x.2.2.1,n.length≤140737488355328)
instance (T:List Zg):Decidable (smT T):=inferInstanceAs (Decidable (_∧_))
instance (C:List Zs):Decidable (smC C):=inferInstanceAs (Decidable (_∧_))
theorem ZX2(T:List Zg)(C:List Zs)(hT:smT T)(hC:smC C):ZD Tryz.prog 71 [.x (.sl (rows Yi T)),.x (.sl (rows Kp C))] (.x (.int .i64 (ZHp T C))):=by
 have hTl:=hT.1;have hCl:=hC.1;have hd1:decide (T.length≤100000∧smN (T.map (·.1)))=true:=Zc ⟨hTl,by rw[smN,Yf];exact⟨hTl,fun x hx=>by obtain⟨t,ht,rfl⟩:=YW.1 hx;exact hT.2 t ht⟩⟩;have hd2:decide (smN (C.map (·.1)))=true:=Zc (by rw[smN,Yf];exact⟨hCl,fun x hx=>by obtain⟨t,ht,rfl⟩:=YW.1 hx;exact(hC.2 t ht).1⟩);have hd3:=Zc hTl;have hd4:=Zc hCl;rcases hres:ZHp T C with v
 unfold ZHp at hres;refine ZG.pure (fC 71 true ?_) rfl;intro C0 E0;have uu:=Km @ZG5.eq_1 @ZG5.eq_2 @ZHT.eq_1 @ZHT.eq_2 @ZFA.eq_1 @ZFA.eq_2 @ZE8.eq_1 @ZE8.eq_2 (ξ8 @ZSP @ZZQ @ZZF hd1 hd2 hd3 hd4 @ZXk);have tT:=ZUm;refine nz ?_;refine rg tT [1,2] ?_;refine rg tT [1,2,13] ?_;refine cd (fun h0=> ?_) (fun h0=> ?_)
 ·rw[if_pos (by clear uu;grind)]at hres;refine rg tT [4] ?_;refine lf ?_;rw[hres]
 ·rw[if_neg (by clear uu;grind)]at hres;refine rg tT [1,5] ?_;refine rg tT [1,5,19] ?_;refine cd (fun h1=> ?_) (fun h1=> ?_)
  ·rw[if_pos (by simpa using h1)]at hres;refine rg tT [4] ?_;refine lf ?_;rw[hres]
  ·rw[if_neg (by simpa using h1)]at hres;refine rg tT [4] ?_;refine lf ?_;rw[hres]
def ZFE:List D→Option (Bool×D)
 | [.x (.sl R),.x (.sl R2)]=>(ZY Yi R).bind fun T=>(ZY Kp R2).bind fun C=>some (decide (smT T∧smC C),.x (.int .i64 (ZHp T C)))
 |_=>none
theorem ZS7: ∀args r,ZFE args=some (true,r)→ZD Tryz.prog 71 args r:=by
 intro args r h;unfold ZFE at h;split at h
 ·rename_i R R2;obtain⟨T,hr0,h⟩:=Zv h;obtain⟨C,hr1,h⟩:=Zv h;simp only[Ze,Za,ZS,Zi,true_and]at h;obtain⟨h1,rfl⟩:=h;rw[←Zb JX hr0];rw[←Zb KI hr1];exact(ZX2 T C h1.1 h1.2)
 ·cases h
end Go.Proofs.YtiogclkbccdefaaGreatDoor
end
section
namespace Go.Proofs.YtiogclkbccdefaaGreatDoor
open Go.RowKit Go.Bo Go.Ab
theorem ZPJ{α:Type}(f:α→Tx)(l:List α)(d:α)(i:Nat)(h:i<l.length)(hn:(l.map f).Nodup):f (l.getD i d)∉(l.take i).map f:=by
 intro hin;have e:l=l.take i++l.getD i d::l.drop (i+1):=by
  have:=ZCn i l;rw[ZFd h]at this;rw[show l.getD i d=l[i] by simp[h]];exact this.symm
 rw[e,KC,YL]at hn;exact(ZFW.1 hn).2.2 _ hin _ ZDn rfl
theorem ZX8(T:List Zg):(tyL T).map (·.1)=T.map fun t=>ZF t.1:=by unfold tyL;rw[Jq];rfl
theorem ZYV(C:List Zs):(clL C).map (·.1)=C.map fun c=>ZF c.1:=by unfold clL;rw[Jq];rfl
theorem Zcc(T:List Zg)(i:Nat)(h:i<T.length)(hn:(T.map fun t=>ZF t.1).Nodup):
  YM (JK (tyL (T.take i))) [X.str (ZF (T.getD i ([],0,false,())).1)] [.x (.str (ZF (T.getD i ([],0,false,())).1)),.x (.int .i64 (T.getD i ([],0,false,())).2.1),.x (.bool (T.getD i ([],0,false,())).2.2.1)]=JK (tyL (T.take (i+1))):=by
 have h1:=ZPJ (fun t:Zg=>ZF t.1) T ([],0,false,()) i h hn;rw[←ZX8]at h1;have h2:=Zb4 (tyL (T.take i)) (ZF (T.getD i ([],0,false,())).1) (Zb8 (T.getD i ([],0,false,())));rw[ZBq (ZH3.2 h1)]at h2;refine Eq.trans h2 ?_;rw[Ko h];unfold tyL;rw[KC];simp[h]
theorem Zce(C:List Zs)(i:Nat)(h:i<C.length)(hn:(C.map fun t=>ZF t.1).Nodup):
  YM (JC (clL (C.take i))) [X.str (ZF (C.getD i ([],[],[],())).1)] [.x (.str (ZF (C.getD i ([],[],[],())).1)),.x (.sl (rows ZB ((C.getD i ([],[],[],())).2.1.map ZF))),.x (.sl (rows ZB ((C.getD i ([],[],[],())).2.2.1.map ZF)))]=JC (clL (C.take (i+1))):=by
 have h1:=ZPJ (fun t:Zs=>ZF t.1) C ([],[],[],()) i h hn;rw[←ZYV]at h1;have h2:=Zcd (clL (C.take i)) (ZF (C.getD i ([],[],[],())).1) (ZE5 (C.getD i ([],[],[],())));rw[ZBq (ZH3.2 h1)]at h2;refine Eq.trans h2 ?_;rw[Ko h];unfold clL;rw[KC];simp[h]
theorem ZNg{l:List Tx}{b:Int}(h:QK l b=0):l.all JV=true∧b=0∧(l.map ZF).Nodup:=by
 unfold QK at h;split at h
 ·split at h
  ·omega
  ·split at h
   ·rename_i h1 h2 h3;exact⟨h1,by omega,of_decide_eq_true h3⟩
   ·omega
 ·omega
theorem ZUG{T:List Zg}{C:List Zs}(h:ZHp T C=0):(T.map fun t=>ZF t.1).Nodup∧(C.map fun t=>ZF t.1).Nodup:=by
 unfold ZHp at h;split at h
 ·omega
 ·split at h
  ·rename_i h1;exact absurd h h1
  ·rename_i h1;have h2:=(ZNg (ZTe.1 h1)).2.2;have h3:=(ZNg h).2.2;rw[Jq]at h2 h3;exact⟨h2,h3⟩
def ZJX(T:List Zg)(c:Zs):Bool:=(c.2.1.map ZF++c.2.2.1.map ZF).all fun n=>(ZI (tyL T) (ZF n)).isSome
def ZKf(T:List Zg)(C:List Zs):Int:=if ZHp T C≠0 then ZHp T C else if C.all (ZJX T)=true then(if(ZI (tyL T) (ZF OC)).isSome=true then 0 else 8)else 8
def ZHG:List D→Option (Bool×D)
 | [.x (.sl R),.fn 63 []]=>(ZY ZB R).bind fun l=>some (decide (l.length≤100000∧ ∀x∈l,x.length≤140737488355328),.x (.sl (rows ZB (l.map ZF))))
 |_=>none
theorem ZU0: ∀args r,ZHG args=some (true,r)→ZD Tryz.prog 72 args r:=by
 intro args r h;unfold ZHG at h;split at h
 ·rename_i R;obtain⟨l,hr0,h⟩:=Zv h;simp only[Ze,Za,ZS,Zi,true_and]at h;obtain⟨h1,rfl⟩:=h;rw[←Zb ZO hr0];exact(ZbN l h1.1 h1.2)
 ·cases h
def ZIr:List D→Option (Bool×D)
 | [.x (.sl [[.sl R],[.sl R']])]=>(ZY ZB R).bind fun a=>(ZY ZB R').map fun b=>(decide (a.length≤100000∧b.length≤100000),.x (.sl (rows ZB (a++b))))
 |_=>none
theorem ZRR: ∀args r,ZIr args=some (true,r)→ZD Tryz.prog 73 args r:=by
 intro args r h;unfold ZIr at h;split at h
 ·rename_i R R';obtain⟨a,h1,h⟩:=Zv h;obtain⟨b,h2,h3⟩:=ZT h;simp only[Za,Zi]at h3;obtain⟨h4,rfl⟩:=h3;rw[←Zb ZO h1,←Zb ZO h2];exact ZQa a b h4.1 h4.2
 ·cases h
def ZCK:Tabs:=Jc (Jc (ZW (ZW (ZW (ZW (ZQ) 71 ZFE) 63 Zr) 72 ZHG) 73 ZIr) 73 (ZAK ZIr)) 74 ZD3
theorem ZVi:SsOk Tryz.prog ZCK:=Ys (Ys (ZJ (ZJ (ZJ (ZJ (ZE) (ZZ 71) ZS7) (ZZ 63) ZAA) (ZZ 72) ZU0) (ZZ 73) ZRR) (ZZ 73) (ZDm ZRR)) (ZZ 74) ZOj
theorem ZYd:(∀a,ZCK.q 71 a=ZFE a)∧(∀a,ZCK.q 63 a=Zr a)∧(∀a,ZCK.q 72 a=ZHG a)∧(∀a,ZCK.q 73 a=ZIr a)∧(∀a o,ZCK.t 73 a o=Ym (ZAK ZIr) a o)∧(∀a,ZCK.q 74 a=none)∧(∀a o,ZCK.t 74 a o=Ym ZD3 a o)∧(∀f a o,ZCK.r f a o=none)∧(∀f a o,ZCK.k f a o=none):=⟨fun _=>rfl,fun _=>rfl,fun _=>rfl,fun _=>rfl,fun _ _=>rfl,fun _=>rfl,fun _ _=>rfl,fun _ _ _=>rfl,fun _ _ _=>rfl⟩
abbrev scH(L:List (Tx×Zg))(M:List (Tx×Zs))(c d:Zs):List Ob:= [.box [.mref 1,.mref 2],.mpo .str true (JK L),.mpo .str true (JC M),.box [.x (.str c.1),.x (.sl (rows ZB c.2.1)),.x (.sl (rows ZB c.2.2.1))],.box [.x (.str d.1),.x (.sl (rows ZB d.2.1)),.x (.sl (rows ZB d.2.2.1))]]
theorem ZRe(L:List (Tx×Zg))(M:List (Tx×Zs))(c d:Zs):(scH L M c d).all (Ob.inP (fun i=>decide (i<(scH L M c d).length)))=true:=by
 simp[Ob.inP,Yb,D.inP,Qd,Ql]
set_option maxHeartbeats 4000000 in
theorem ZdK(T:List Zg)(C:List Zs)(hT:smT T)(hC:smC C)(r:D)(OS:List Ob)(hz:ZKf T C=0→r= .tup [.ptr 0 0,.x (.int .i64 0)]∧OS=scO (tyL T) (clL C))(hnz:ZKf T C≠0→r= .tup [.x .nilp,.x (.int .i64 (ZKf T C))]∧OS= []):
  ZL Tryz.prog 38 [.x (.sl (rows Yi T)),.x (.sl (rows Kp C))] [] r OS:=by
 have hO:OS.all (Ob.inP (fun i=>decide (i<OS.length)))=true:=by
  by_cases h:ZKf T C=0
  ·rw[(hz h).2];exact ZA5 _ _
  ·rw[(hnz h).2];rfl
 have hTl:=hT.1;have hz':=hz;have hnz':=hnz;have hCl:=hC.1;have hd1:decide (smT T∧smC C)=true:=Zc ⟨hT,hC⟩;rcases hch:ZHp T C with v
 unfold ZKf at hz hnz;rw[hch]at hz hnz;have hoc:OC= [111,98,106,101,99,116,99,108,97,115,115]:=rfl;have hR:r.inP (fun i=>decide (i<OS.length))=true:=by
  by_cases h:ZKf T C=0
  ·rw[(hz' h).1,(hz' h).2];rfl
  ·rw[(hnz' h).1,(hnz' h).2];rfl
 refine ZG.mcallsX (fC 38 true ?_) (by first|decide|(simp;done)) hO (by first|rfl|exact hR);intro C0 E0;have uu:=Km @ZFE.eq_1 @ZFE.eq_2 @Zr.eq_1 @Zr.eq_2 @ZHG.eq_1 @ZHG.eq_2 @ZIr.eq_1 @ZIr.eq_2 (Km @ZD3.eq_1 @ZD3.eq_2 @ZSP @ZZQ @ZZF @ZD8 @ZEE hd1 (Km hch @ZBm @ZBa @ZCH @ZCP @Qd @Ql @Qk (ξ4 @ZBN @QN @ZYd @ZAK.eq_1)));have tT:=ZVi;refine nz ?_;refine rg tT [0,1] ?_;refine rg tT [0,1,6] ?_;refine rg tT [0,1,6,23] ?_;refine cd (fun h0=> ?_) (fun h0=> ?_)
 ·have hv0: ¬v=0:=by simpa using h0
  refine rg tT [4,5] ?_;refine lf ?_;obtain⟨rfl,rfl⟩:=(by rw[if_pos hv0]at hnz;exact hnz hv0);exact⟨rfl,[],rfl⟩
 ·have hv0:v=0:=by simpa using h0
  subst hv0;obtain⟨hnT,hnC⟩:=ZUG hch;rw[if_neg (by simp)]at hz hnz;refine rg tT [0,1,7] ?_;refine rg tT [1,7,31,32,33] ?_;refine WI.pickA [2,0,1] ?_;refine WI.orderA [1,7,31,32,33] ?_;refine WI.loop (fun φ os=> ∃(i:Nat),φ= [(1,.x (.sl (rows Kp C))),(7,.ptr 0 0),(31,.x (.sl (rows Yi T))),(32,.x (.int .i64 T.length)),(33,.x (.int .i64 i))]∧os=scO (tyL (T.take i)) []∧i≤T.length) (ZX T.length 33) ?_ (fun φ os hI=> ?_)
  ·exact⟨0,rfl,rfl,by omega⟩
  ·obtain⟨i,rfl,rfl,hi⟩:=hI;refine nz ?_;refine rg tT [1,7,31,32,33,34] ?_;refine cd (fun h1=> ?_) (fun h1=> ?_)
   ·have hi4:i<T.length:=by omega
    have hrw:=ZQF T i hi4;have hst:=Zcc T i hi4 hnT;have hxl:=hT.2 T[i] (Yl hi4);rw[show T[i]=T.getD i ([],0,false,()) by simp[hi4]]at hxl;generalize T.getD i ([],0,false,())=x at hrw hst hxl;have hd47:decide (x.1.length≤140737488355328)=true:=Zc (by omega);have uu:=ξ4 uu hrw hst hd47;refine rg tT [1,7,9,31,32,33] ?_;refine rg tT [1,7,9,31,32,33] ?_;refine WI.dregB tT [1,7,31,32,33] ?_
    iterate 5 refine Yd ?_
    refine QH ?_;refine Yd ?_
    iterate 2 refine QH ?_
    refine dAG ?_;refine dN ?_;refine nz ?_;refine WI.orderA [1,7,31,32,33] ?_;refine WI.dropT (scO (tyL (T.take (i+1))) []) _ rfl (by simp) (ZA5 _ _) (by simp[D.inP,Yb]) ?_;refine rg tT [1,7,31,32,33] ?_;exact⟨⟨i+1,rfl,rfl,by omega⟩,by simp[ZX,Ab.get,D.val,ZH];omega⟩
   ·obtain rfl:i=T.length:=by omega
    rw[KW];generalize hL:tyL T=L at hz hnz⊢;refine rg tT [7,51,52,53] ?_;refine WI.loop (fun φ os=> ∃(i:Nat),φ= [(7,.ptr 0 0),(51,.x (.sl (rows Kp C))),(52,.x (.int .i64 C.length)),(53,.x (.int .i64 i))]∧os=scO L (clL (C.take i))∧i≤C.length∧(C.take i).all (ZJX T)=true) (ZX C.length 53) ?_ (fun φ os hI=> ?_)
    ·exact⟨0,rfl,rfl,by omega,rfl⟩
    ·obtain⟨i,rfl,rfl,hi,hall⟩:=hI;refine nz ?_;refine rg tT [7,51,52,53,54] ?_;refine cd (fun h2=> ?_) (fun h2=> ?_)
     ·have hi4:i<C.length:=by omega
      have hrw:=ZWG C i hi4;have hst:=Zce C i hi4 hnC;have hal:=KD (ZJX T) C i hi4;have hgi:C[i]=C.getD i ([],[],[],()):=by simp[hi4]
      have hno:ZJX T (C.getD i ([],[],[],()))=false→C.all (ZJX T)=false:=fun h=>YP (ZJX T) C i hi4 (by rw[hgi];exact h)
      have hxl:=hC.2 C[i] (Yl hi4);rw[hgi]at hxl hal;generalize C.getD i ([],[],[],())=x at hrw hst hxl hal hno;obtain⟨hx1,hx2,hx3⟩:=hxl;have hst2:YM (JC (clL (C.take i))) [X.str (ZE5 x).1] [.x (.str (ZE5 x).1),.x (.sl (rows ZB (ZE5 x).2.1)),.x (.sl (rows ZB (ZE5 x).2.2.1))]=JC (clL (C.take (i+1))):=hst;have hd47:decide (x.1.length≤140737488355328)=true:=Zc (by omega);have hd48:decide (x.2.1.length≤100000∧ ∀n∈x.2.1,n.length≤140737488355328)=true:=Zc ⟨by omega,hx2.2⟩;have hd49:decide (x.2.2.1.length≤100000∧ ∀n∈x.2.2.1,n.length≤140737488355328)=true:=Zc ⟨by omega,hx3.2⟩;have hl1:(x.2.1.map ZF).length≤50000:=by rw[Yf];exact hx2.1
      have hl2:(x.2.2.1.map ZF).length≤50000:=by rw[Yf];exact hx3.1
      have hct:ZJX T x=(x.2.1.map ZF++x.2.2.1.map ZF).all fun n=>(ZI L (ZF n)).isSome:=by rw[←hL];rfl
      have hln: ∀n∈x.2.1.map ZF++x.2.2.1.map ZF,n.length≤140737488355328:=fun n hn=>by
       rcases KT.1 hn with h|h
       ·obtain⟨y,hy,rfl⟩:=YW.1 h;rw[ZHW];exact hx2.2 y hy
       ·obtain⟨y,hy,rfl⟩:=YW.1 h;rw[ZHW];exact hx3.2 y hy
      have hd50:decide ((x.2.1.map ZF).length≤100000∧(x.2.2.1.map ZF).length≤100000)=true:=Zc ⟨by omega,by omega⟩;have uu:=ξ7 uu hrw hst2 hd47 hd48 hd49 hd50;refine rg tT [7,11,51,52,53] ?_;refine WI.dregB tT [7,12,51,52,53] ?_;refine Yd ?_;refine QH ?_;refine dQC ?_;refine Yd ?_;refine QH ?_;refine dQC ?_;refine Yd ?_;refine QH ?_;refine dQC ?_;refine dFG ?_;refine dKG ?_;refine dAG ?_;refine dN ?_;refine nz ?_;refine rg tT [7,12,51,52,53,72,73,74] ?_;refine WI.orderA [7,12,51,52,53,72,73,74] ?_;refine WI.dropT (scH L (clL (C.take i)) x (ZE5 x)) _ rfl (by simp) (ZRe _ _ _ _) (by simp[D.inP,Yb]) ?_;generalize hN:x.2.1.map ZF++x.2.2.1.map ZF=N at hct hln⊢;have hNl:N.length≤100000:=by rw[←hN,Zx];omega
      refine WI.loop (fun φ os=> ∃(k:Nat),φ= [(7,.ptr 0 0),(12,.ptr 4 0),(51,.x (.sl (rows Kp C))),(52,.x (.int .i64 C.length)),(53,.x (.int .i64 i)),(72,.x (.sl (rows ZB N))),(73,.x (.int .i64 N.length)),(74,.x (.int .i64 k))]∧os=scH L (clL (C.take i)) x (ZE5 x)∧k≤N.length∧(N.take k).all (fun n=>(ZI L (ZF n)).isSome)=true) (ZX N.length 74) ?_ (fun φ os hI=> ?_)
      ·exact⟨0,rfl,rfl,by omega,rfl⟩
      ·obtain⟨k,rfl,rfl,hk,hka⟩:=hI;refine nz ?_;refine rg tT [7,12,51,52,53,72,73,74,75] ?_;refine cd (fun h3=> ?_) (fun h3=> ?_)
       ·have hk4:k<N.length:=by omega
        have hrk:=Qy N k hk4;have hgk:N[k]=N.getD k []:=by simp[hk4]
        have hak:=KD (fun n=>(ZI L (ZF n)).isSome) N k hk4;have hnk:(ZI L (ZF (N.getD k []))).isSome=false→N.all (fun n=>(ZI L (ZF n)).isSome)=false:=fun h=>YP (fun n=>(ZI L (ZF n)).isSome) N k hk4 (by rw[hgk];exact h)
        have hnl:=hln N[k] (Yl hk4);rw[hgk]at hak hnl;generalize N.getD k []=y at hrk hak hnk hnl;have hdy:=Zc hnl;have uu:=ξ4 uu hrk hdy @tyD.eq_1;refine rg tT [7,12,14,51,52,53,72,73,74] ?_;refine rg tT [7,12,16,51,52,53,72,73,74] ?_;refine rg tT [7,12,51,52,53,72,73,74,88] ?_;refine cd (fun h4=> ?_) (fun h4=> ?_)
        ·have hys:(ZI L (ZF y)).isSome=false:=by clear uu;grind
         rw[hno (by rw[hct];exact hnk hys)]at hnz;refine rg tT [4,5] ?_;refine lf ?_;obtain⟨rfl,rfl⟩:=hnz (by simp);exact⟨rfl,_,rfl⟩
        ·have hys:(ZI L (ZF y)).isSome=true:=by clear uu;grind
         have hka2:(N.take (k+1)).all (fun n=>(ZI L (ZF n)).isSome)=true:=by rw[hak,hka,hys];rfl
         refine WI.orderA [7,12,51,52,53,72,73,74] ?_;refine WI.dropT (scH L (clL (C.take i)) x (ZE5 x)) _ rfl (by simp) (ZRe _ _ _ _) (by simp[D.inP,Yb]) ?_;refine rg tT [7,12,51,52,53,72,73,74] ?_;exact⟨⟨k+1,rfl,rfl,by omega,hka2⟩,by simp[ZX,Ab.get,D.val,ZH];omega⟩
       ·obtain rfl:k=N.length:=by omega
        rw[KW]at hka;rw[hka]at hct;have hall2:(C.take (i+1)).all (ZJX T)=true:=by rw[hal,hall,hct];rfl
        refine WI.dregB tT [7,51,52,53] ?_
        iterate 4 refine Yd ?_
        refine QH ?_;refine Yd ?_
        iterate 2 refine QH ?_
        refine dAG ?_;refine dN ?_;refine nz ?_;refine WI.orderA [7,51,52,53] ?_;refine WI.dropT (scO L (clL (C.take (i+1)))) _ rfl (by simp) (ZA5 _ _) (by simp[D.inP,Yb]) ?_;refine rg tT [7,51,52,53] ?_;exact⟨⟨i+1,rfl,rfl,by omega,hall2⟩,by simp[ZX,Ab.get,D.val,ZH];omega⟩
     ·obtain rfl:i=C.length:=by omega
      rw[KW]at hall⊢;rw[hall,if_pos rfl,hoc]at hz hnz;refine WI.orderA [7] ?_;have uu:=Yq uu @tyD.eq_1;refine rg tT [7,18] ?_;refine rg tT [7,108] ?_;refine cd (fun h5=> ?_) (fun h5=> ?_)
      ·have hys: ¬(ZI L (ZF [111,98,106,101,99,116,99,108,97,115,115])).isSome=true:=by clear uu;grind
       rw[if_neg hys]at hnz;refine rg tT [4,5] ?_;refine lf ?_;obtain⟨rfl,rfl⟩:=hnz (by simp);exact⟨rfl,_,rfl⟩
      ·have hys:(ZI L (ZF [111,98,106,101,99,116,99,108,97,115,115])).isSome=true:=by clear uu;grind
       rw[if_pos hys]at hz;refine rg tT [4,5] ?_;refine lf ?_;obtain⟨rfl,rfl⟩:=hz rfl;exact⟨rfl,_,rfl⟩
end Go.Proofs.YtiogclkbccdefaaGreatDoor
end
section
namespace Go.Proofs.YtiogclkbccdefaaGreatDoor
open Go.RowKit Go.Bo Go.Ab
def igT(n:Tx):Zg:=(n,1,false,())
theorem ZVT(a b:List Zg):rows Yi (a++b)=rows Yi a++rows Yi b:=KC
theorem Zdc(l:List Tx)(hl:l.length≤1000):ZL Tryz.prog 37 [.ref 0 l.length 0 l.length] [.rows false 9 1 (rows ZB l)] (.ref 1 l.length 0 l.length) [.rows false 9 1 (rows ZB l),.rows false 82 3 (rows Yi (l.map igT))]:=by
 have hO: [Ob.rows false 9 1 (rows ZB l),.rows false 82 3 (rows Yi (l.map igT))].all (Ob.inP (fun i=>decide (i< [Ob.rows false 9 1 (rows ZB l),.rows false 82 3 (rows Yi (l.map igT))].length)))=true:=rfl;refine ZG.mcalls (fC 37 false ?_);intro C0 E0;have uu:=trivial;have tT:=(ZE:SsOk Tryz.prog ZQ);refine nz ?_;refine rg tT [0] ?_;refine rg tT [0,3] ?_;refine rg tT [3,6,7,8] ?_;refine WI.ownA 3 82 3 ?_;refine WI.orderA [3,6,7,8] ?_;refine WI.loop (fun φ os=> ∃(j:Nat),φ= [(3,.ref 1 ((l.take j).map igT).length 0 ((l.take j).map igT).length),(6,.ref 0 l.length 0 l.length),(7,.x (.int .i64 l.length)),(8,.x (.int .i64 j))]∧os= [.rows false 9 1 (rows ZB l),.rows false 82 3 (rows Yi ((l.take j).map igT))]∧j≤l.length) (ZX l.length 8) ?_ (fun φ os hI=> ?_)
 ·exact⟨0,rfl,rfl,by omega⟩
 ·obtain⟨j,rfl,rfl,hj⟩:=hI;refine nz ?_;refine rg tT [3,6,7,8,9] ?_;refine cd (fun h0=> ?_) (fun h0=> ?_)
  ·have hj4:j<l.length:=by omega
   have hrw:=Qy l j hj4;have htk:(l.take (j+1)).map igT=(l.take j).map igT++ [igT (l.getD j [])]:=by rw[Ko hj4,KC];simp[hj4]
   have hlen:((l.take j).map igT).length≤1000:=by rw[Yf,JA];omega
   generalize l.getD j []=x at hrw htk;have uu:=Yq uu hrw;refine rg tT [3,5,6,7,8] ?_;refine rg tT [3,6,7,8] ?_;refine WI.pickA [0,1] ?_;refine rg tT [3,6,7,8] ?_;exact⟨⟨j+1,by rw[htk,Zx];rfl,by rw[htk,ZVT];rfl,by omega⟩,by simp[ZX,Ab.get,D.val,ZH];omega⟩
  ·obtain rfl:j=l.length:=by omega
   rw[KW];refine rg tT [2] ?_;refine lf ?_;exact⟨by rw[Yf],rfl⟩
end Go.Proofs.YtiogclkbccdefaaGreatDoor
end
section
namespace Go.Proofs.YtiogclkbccdefaaGreatDoor
open Go.RowKit Go.Bo Go.Ab
def plT:List Zg:= [([99,110],1,false,()),([115,110],1,false,()),([111,117],1,false,()),([100,99],1,false,()),([111],1,false,()),([100,101,115,99,114,105,112,116,105,111,110],1,false,()),([109,97,105,108],1,false,()),([111,98,106,101,99,116,99,108,97,115,115],1,false,()),([117,115,101,114,112,97,115,115,119,111,114,100],4,true,()),([117,105,100],1,true,()),([117,105,100,110,117,109,98,101,114],3,true,()),([109,101,109,98,101,114],5,false,()),([115,101,114,105,97,108,110,117,109,98,101,114],2,false,())]
def plC:List Zs:= [([116,111,112],[],[],()),([112,101,114,115,111,110],[[99,110],[115,110]],[[100,101,115,99,114,105,112,116,105,111,110],[117,115,101,114,112,97,115,115,119,111,114,100],[109,97,105,108],[117,105,100],[117,105,100,110,117,109,98,101,114],[115,101,114,105,97,108,110,117,109,98,101,114],[109,101,109,98,101,114]],()),([111,114,103,97,110,105,122,97,116,105,111,110,97,108,117,110,105,116],[[111,117]],[[100,101,115,99,114,105,112,116,105,111,110],[109,101,109,98,101,114]],()),([100,111,109,97,105,110],[[100,99]],[[100,101,115,99,114,105,112,116,105,111,110],[111]],()),([103,114,111,117,112],[[99,110]],[[109,101,109,98,101,114],[100,101,115,99,114,105,112,116,105,111,110]],())]
theorem Zby:ZKf plT plC=0:=by decide+kernel
theorem Zcb:smT plT:=by decide+kernel
theorem ZcS:smC plC:=by decide+kernel
def ZK9:List D→List Ob→Option (Bool×D×Ob)
 | [.ref 0 8 0 8],[.rows false 9 1 [[.str a],[.str b],[.str c],[.str d],[.str e],[.str f],[.str g],[.str h]]]=>some (true,.ref 1 8 0 8,.rows false 82 3 [[.str a,.int .i64 1,.bool false],[.str b,.int .i64 1,.bool false],[.str c,.int .i64 1,.bool false],[.str d,.int .i64 1,.bool false],[.str e,.int .i64 1,.bool false],[.str f,.int .i64 1,.bool false],[.str g,.int .i64 1,.bool false],[.str h,.int .i64 1,.bool false]])
 |_,_=>none
theorem ZZw: ∀args os r ob,ZK9 args os=some (true,r,ob)→(∃fz e sz rs,ob= .rows fz e sz rs)∧ZL Tryz.prog 37 args os r (os++ [ob]):=by
 intro args os r ob h;unfold ZK9 at h;split at h
 ·rename_i a b c d e f g h;simp only[Ze,Za,true_and]at h;obtain⟨rfl,rfl⟩:=h;exact⟨⟨_,_,_,_,rfl⟩,Zdc [a,b,c,d,e,f,g,h] (by simp)⟩
 ·cases h
def ZJm:Tabs:=ZTi (ZQ) 37 ZK9
theorem ZJc:SsOk Tryz.prog ZJm:=ZZg (ZE) (ZZ 37) ZZw
theorem ZXy:(∀a,ZJm.q 37 a=none)∧(∀a o,ZJm.t 37 a o=Ym (fun args os=>(ZK9 args os).map fun q=>(q.1,q.2.1,os++ [q.2.2])) a o)∧(∀a o,ZJm.k 37 a o=ZDr ZK9 a o)∧(∀f a o,ZJm.r f a o=none):=⟨fun _=>rfl,fun _ _=>rfl,fun _ _=>rfl,fun _ _ _=>rfl⟩
theorem ZSZ:Enters Tryz.prog 38:=ZZ 38
theorem ZZ1:ZL Tryz.prog 11 [] [] (.ptr 0 0) (scO (tyL plT) (clL plC)):=by
 have hO:=ZA5 (tyL plT) (clL plC);have hnew:ZL Tryz.prog 38 [.x (.sl [[.str [99,110],.int .i64 1,.bool false],[.str [115,110],.int .i64 1,.bool false],[.str [111,117],.int .i64 1,.bool false],[.str [100,99],.int .i64 1,.bool false],[.str [111],.int .i64 1,.bool false],[.str [100,101,115,99,114,105,112,116,105,111,110],.int .i64 1,.bool false],[.str [109,97,105,108],.int .i64 1,.bool false],[.str [111,98,106,101,99,116,99,108,97,115,115],.int .i64 1,.bool false],[.str [117,115,101,114,112,97,115,115,119,111,114,100],.int .i64 4,.bool true],[.str [117,105,100],.int .i64 1,.bool true],[.str [117,105,100,110,117,109,98,101,114],.int .i64 3,.bool true],[.str [109,101,109,98,101,114],.int .i64 5,.bool false],[.str [115,101,114,105,97,108,110,117,109,98,101,114],.int .i64 2,.bool false]]),.x (.sl [[.str [116,111,112],.sl [],.sl []],[.str [112,101,114,115,111,110],.sl [[.str [99,110]],[.str [115,110]]],.sl [[.str [100,101,115,99,114,105,112,116,105,111,110]],[.str [117,115,101,114,112,97,115,115,119,111,114,100]],[.str [109,97,105,108]],[.str [117,105,100]],[.str [117,105,100,110,117,109,98,101,114]],[.str [115,101,114,105,97,108,110,117,109,98,101,114]],[.str [109,101,109,98,101,114]]]],[.str [111,114,103,97,110,105,122,97,116,105,111,110,97,108,117,110,105,116],.sl [[.str [111,117]]],.sl [[.str [100,101,115,99,114,105,112,116,105,111,110]],[.str [109,101,109,98,101,114]]]],[.str [100,111,109,97,105,110],.sl [[.str [100,99]]],.sl [[.str [100,101,115,99,114,105,112,116,105,111,110]],[.str [111]]]],[.str [103,114,111,117,112],.sl [[.str [99,110]]],.sl [[.str [109,101,109,98,101,114]],[.str [100,101,115,99,114,105,112,116,105,111,110]]]]])] [] (.tup [.ptr 0 0,.x (.int .i64 0)]) (scO (tyL plT) (clL plC)):=
  ZdK plT plC Zcb ZcS _ _ (fun _=>⟨rfl,rfl⟩) (fun h=>absurd Zby h)
 refine ZG.mcallsX (fC 11 true ?_) (by first|decide|(simp;done)) hO (by first|rfl|exact hR);intro C0 E0;have uu:=Km @ZIK @ZHt @ZHd @ZHf @ZBm @ZBa @ZCH @ZCP (ξ5 @Qd @Ql @ZXy @ZK9.eq_1 @ZK9.eq_2);refine WI.seq ?_;refine WI.regB ZJc [] ?_;refine oS ?_;refine oN ?_;refine ZA ?_;refine WI.seq ?_;refine WI.regB ZJc [1] ?_;refine oG ?_;refine oC ?_;refine oS ?_;refine oN ?_;refine ZA ?_;refine WI.seq ?_;refine WI.regB ZJc [1] ?_;refine oS ?_
 iterate 7 refine oG ?_
 refine oS ?_;refine oN ?_;refine ZA ?_;refine WI.seq ?_;refine WI.pickA [1] ?_;refine WI.cutA ZE [15,29] 15 ?_;simp only[ξU,ZBZ,ZDj,ZCo];refine oS ?_
 iterate 14 refine oG ?_
 refine oP ?_;refine ZaR [0,9] ?_;refine Qm [] ?_;refine ZeW ?_;refine ZHX ?_;refine WR.regB (ZCQ ZE ZSZ hnew) [2] ?_;refine oC ?_;refine oS ?_
 iterate 2 refine oG ?_
 iterate 2 refine oS ?_
 refine oN ?_;refine ZA ?_;refine WI.seq ?_;refine WI.regB ZE [0] ?_
 iterate 2 refine oS ?_
 refine oN ?_;refine ZA ?_;refine WI.ret ?_;refine ZCB ?_;exact⟨rfl,[],rfl⟩
end Go.Proofs.YtiogclkbccdefaaGreatDoor
end
section
namespace Go.Proofs.YtiogclkbccdefaaGreatDoor
open Go.RowKit Go.Bo Go.Ab
def ZEO:List D→List Ob→Option (Bool×D)
 | [.ptr 0 0,.x (.str n)],[.box [.mref 1,.mref 2],.mpo .str true P1,.mpo .str true P2]=>(Qq ZB Yi P1).bind fun L=>(Qq ZB Kp P2).bind fun M=>some (decide (n.length≤140737488355328),.tup [tyD (tyV L (ZF n)),.x (.bool (ZI L (ZF n)).isSome)])
 |_,_=>none
theorem ZOE: ∀args os r,ZEO args os=some (true,r)→r.clean=true∧ ∃X,ZL Tryz.prog 122 args os r (os++X):=by
 intro args os r h;unfold ZEO at h;split at h
 ·rename_i n P1 P2;obtain⟨L,hm0,h⟩:=Zv h;obtain⟨M,hm1,h⟩:=Zv h;simp only[Ze,Za,ZS,Zi,true_and]at h;obtain⟨h1,rfl⟩:=h;rw[JD ZO JX hm0];rw[JD ZO KI hm1];exact⟨rfl,[],by rw[Kg];exact ZdA L M n h1⟩
 ·cases h
def ZGu(L:List (Tx×Zg))(l:List ZU)(p:Av):Bool:=(ZI L (ZF p.1)).isSome&&ZPR l p.1 p.2 (tyV L (ZF p.1)).2.1
def ZNK(L:List (Tx×Zg))(dn:Tx)(l:List ZU):Bool:=ZAm dn&&(decide ((Yp (YN dn)).1≠ [])&&((Yp (YN dn)).1.headD []).all (ZGu L l))
def ZBV:Tabs:=ZFk (ZW (ZW (ZW (ZQ) 81 ZDH) 121 QB) 123 ZK6) 122 ZEO
theorem ZVV:SsOk Tryz.prog ZBV:=ZC0 (ZJ (ZJ (ZJ (ZE) (ZZ 81) ZKZ) (ZZ 121) ZGY) (ZZ 123) ZR3) (ZZ 122) ZOE
theorem ZY3:(∀a,ZBV.q 81 a=ZDH a)∧(∀a,ZBV.q 121 a=QB a)∧(∀a,ZBV.q 123 a=ZK6 a)∧(∀a,ZBV.q 122 a=none)∧(∀a o,ZBV.t 122 a o=(Jx ZEO a o).map fun r=>(r.1,r.2,o))∧(∀a o,ZBV.r 122 a o=Jx ZEO a o)∧(∀a o,ZBV.r 121 a o=none)∧(∀a o,ZBV.r 123 a o=none)∧(∀a o,ZBV.r 81 a o=none)∧(∀f a o,ZBV.k f a o=none):=⟨fun _=>rfl,fun _=>rfl,fun _=>rfl,fun _=>rfl,fun _ _=>rfl,fun _ _=>rfl,fun _ _=>rfl,fun _ _=>rfl,fun _ _=>rfl,fun _ _ _=>rfl⟩
theorem Za9{s:Tx}{r:List Av}(h:r∈(Yp s).1):KH r=true:=by
 have hz:(Yp s).2=0:=by
  unfold Yp at h⊢;split
  ·rename_i h1;rw[if_pos h1]at h;cases h
  ·rename_i h1;rw[if_neg h1]at h;split
   ·rfl
   ·rename_i h2;rw[if_neg h2]at h;split
    ·rename_i h3;rw[if_pos h3]at h;split
     ·rename_i h4;rw[if_pos h4]at h;cases h
     ·rename_i h4;rw[if_neg h4]at h;split
      ·rename_i h5;rw[if_pos h5]at h;cases h
      ·rfl
    ·rename_i h3;rw[if_neg h3]at h;cases h
 exact(ZFH (ZMu s hz)).2 r h
theorem ZEf(Y:List Ob)(z:Ob)(t:List Ob):(Y++z::t)[Y.length]? =some z:=by simp
theorem ZcR(Y:List Ob)(x z:Ob)(t:List Ob):(Y++x::z::t)[Y.length+1]? =some z:=by rw[Ki (by omega)];simp
theorem ZeE(Y:List Ob)(x y z:Ob)(t:List Ob):(Y++x::y::z::t)[Y.length+1+1]? =some z:=by rw[Ki (by omega)];simp[ZH9]
theorem ZTp(Z:List Ob)(x z:Ob)(t:List Ob):(Z++x::t).set Z.length z=Z++z::t:=by rw[ZDD _ _ (by omega)];simp
theorem ZeM(Z:List Ob)(x y z:Ob)(t:List Ob):(Z++x::y::t).set (Z.length+1) z=Z++x::z::t:=by rw[ZDD _ _ (by omega)];simp
theorem ZdE(Z:List Ob)(x y:Ob):Z++ [x]++ [y]=Z++ [x,y]:=by simp
def okM(M:List (Tx×Zs)):Prop:= ∀p∈M,p.2.2.1.length≤1000000∧p.2.2.2.1.length≤1000000
instance (M:List (Tx×Zs)):Decidable (okM M):=inferInstanceAs (Decidable (∀p∈M,_))
theorem Zbj{M:List (Tx×Zs)}(h:okM M):bdC M:=by
 intro k;unfold clV;rcases hm:ZI M k with _|c
 ·simp
 ·have:=h _ (ZAH hm);simpa using this
def ZIQ(M:List (Tx×Zs))(l:List ZU):Prop:=okM M∧smA l∧ ∀a∈l,∀v∈a.2.1,v.length≤1000000
instance (M:List (Tx×Zs)) (l:List ZU):Decidable (ZIQ M l):=inferInstanceAs (Decidable (_∧_∧_))
def ZeZ(L:List (Tx×Zg)):Prop:=L.length≤1000000∧ ∀p∈L,p.1.length≤1000000
instance (L:List (Tx×Zg)):Decidable (ZeZ L):=inferInstanceAs (Decidable (_∧_))
theorem ZL.nn{P:Program}{f:FuncId}{args:List D}{os os':List Ob}{r:D}(h:ZL P f (args.map D.nn) os r os'):ZL P f args os r os':=by
 intro c E vs R hvl;refine h c E vs R ⟨by rw[Yf];exact hvl.1,fun j d v hd hv=> ?_⟩;rw[Zw]at hd;obtain⟨d0,hd0,rfl⟩:=ZT hd;exact(hvl.2 j d0 v hd0 hv).nn
end Go.Proofs.YtiogclkbccdefaaGreatDoor
end
section
namespace Go.Proofs.YtiogclkbccdefaaGreatDoor
open Go.RowKit Go.Bo Go.Ab
def ZCy:List D→List Ob→Option (Bool×D)
 | [.ptr 0 0,.agg [.x (.str dn),.x (.sl R)]],[.box [.mref 1,.mref 2],.mpo .str true P1,.mpo .str true P2]=>(Qq ZB Yi P1).bind fun L=>(Qq ZB Kp P2).bind fun M=>(ZY ZV R).bind fun l=>some (decide (ZIQ M l),.x (.int .i64 (ZJh L M l)))
 |_,_=>none
theorem ZL7: ∀args os r,ZCy args os=some (true,r)→r.clean=true∧ ∃X,ZL Tryz.prog 78 args os r (os++X):=by
 intro args os r h;unfold ZCy at h;split at h
 ·rename_i dn R P1 P2;obtain⟨L,hm0,h⟩:=Zv h;obtain⟨M,hm1,h⟩:=Zv h;obtain⟨l,hr0,h⟩:=Zv h;simp only[Ze,Za,ZS,Zi,true_and]at h;obtain⟨h1,rfl⟩:=h;rw[JD ZO JX hm0];rw[JD ZO KI hm1];rw[←Zb YJ hr0];exact⟨rfl,[],by rw[Kg];exact ZaN L M (dn,l,()) h1.2.1 h1.2.2 (Zbj h1.1)⟩
 ·cases h
def ZJe:Tabs:=ZFk (ZQ) 78 ZCy
theorem ZIl:SsOk Tryz.prog ZJe:=ZC0 (ZE) (ZZ 78) ZL7
theorem ZW4:(∀a,ZJe.q 78 a=none)∧(∀a o,ZJe.t 78 a o=(Jx ZCy a o).map fun r=>(r.1,r.2,o))∧(∀a o,ZJe.r 78 a o=Jx ZCy a o)∧(∀f a o,ZJe.k f a o=none):=⟨fun _=>rfl,fun _ _=>rfl,fun _ _=>rfl,fun _ _ _=>rfl⟩
def ZDB(L:List (Tx×Zg))(M:List (Tx×Zs))(dn:Tx)(l:List ZU):Int:=if ZJh L M l≠0 then ZJh L M l else if ZNK L dn l=true then 0 else 64
theorem ZTQ:Go.Ab.Enters Tryz.prog 79:=ZZ 79
def ZJI:Tabs:=ZW (ZW (ZQ) 81 ZDH) 82 ZD2
theorem ZVm:SsOk Tryz.prog ZJI:=ZJ (ZJ (ZE) (ZZ 81) ZKZ) (ZZ 82) ZPz
theorem ZYo:(∀a,ZJI.q 81 a=ZDH a)∧(∀a,ZJI.q 82 a=ZD2 a)∧(∀f a o,ZJI.r f a o=none)∧(∀f a o,ZJI.k f a o=none):=⟨fun _=>rfl,fun _=>rfl,fun _ _ _=>rfl,fun _ _ _=>rfl⟩
theorem ZdL(s t:Tx):ZD Tryz.prog 43 [.x (.str s),.x (.str t)] (.x (.int .i64 (cmpS (YN s) (YN t)))):=by
 refine ZG.pure (fC 43 true ?_) rfl;intro C0 E0;have uu:=ξ5 @ZDH.eq_1 @ZDH.eq_2 @ZD2.eq_1 @ZD2.eq_2 @ZYo;have tT:=ZVm;refine nz ?_;refine rg tT [0,1] ?_;refine rg tT [1,5] ?_;refine rg tT [5,7] ?_;refine rg tT [4] ?_;refine lf ?_
 first|rfl|exact⟨rfl,rfl⟩|trivial
def ZNL:List D→Option (Bool×D)
 | [.x (.str s),.x (.str t)]=>some (true,.x (.int .i64 (cmpS (YN s) (YN t))))
 |_=>none
theorem ZbH: ∀args r,ZNL args=some (true,r)→ZD Tryz.prog 43 args r:=by
 intro args r h;unfold ZNL at h;split at h
 ·rename_i s t;simp only[Ze,Za,ZS,Zi,true_and]at h;obtain rfl:=h;exact(ZdL s t)
 ·cases h
end Go.Proofs.YtiogclkbccdefaaGreatDoor
end
section
namespace Go.Proofs.YtiogclkbccdefaaGreatDoor
open Go.RowKit Go.Bo Go.Ab
def Ye(l:List Tx)(s:Tx):Nat:=(l.takeWhile fun a=>Op.bytesLess (YN a) (YN s)).length
theorem ZFq(l:List Tx)(s:Tx):Ye l s≤l.length:=(List.takeWhile_sublist _).length_le
theorem ZLt(l:List Tx)(s:Tx)(j:Nat)(h:j<Ye l s):Op.bytesLess (YN (l[j]'(ZND h (ZFq l s)))) (YN s)=true:=by
 have hp:(l.takeWhile fun a=>Op.bytesLess (YN a) (YN s))<+:l:=List.takeWhile_prefix _;have:=YQ.1 (List.all_takeWhile (p:=fun a:Tx=>Op.bytesLess (YN a) (YN s)) (l:=l)) _ (Yl (h:=h));rwa [hp.getElem h]at this
theorem ZS5(l:List Tx)(s:Tx)(h:Ye l s<l.length):Op.bytesLess (YN l[Ye l s]) (YN s)=false:=by
 unfold Ye at*
 induction l with
 |nil=>simp at h
 |cons a l ih=>
  by_cases ha:Op.bytesLess (YN a) (YN s)=true
  ·simp only[List.takeWhile_cons,ha,if_true,JJ]at h⊢;simpa using ih (by omega)
  ·simp only[List.takeWhile_cons,ha,Yt,if_false,ξN];simpa using ha
abbrev SoL(l:List Tx):Prop:=l.Pairwise fun a b=>Op.bytesLess (YN a) (YN b)=true
theorem ZRq{l:List Tx}(hs:SoL l)(s:Tx)(h:Nat)(hl:h<l.length):Op.bytesLess (YN l[h]) (YN s)=true↔h<Ye l s:=by
 constructor
 ·intro hb;apply ZQo;intro hc;have hle:Ye l s≤h:=by omega
  have hpl:Ye l s<l.length:=by omega
  have hst:=ZS5 l s hpl;rcases Nat.lt_or_eq_of_le hle with hlt|heq
  ·have:=ZLD.1 hs _ _ hpl hl hlt;rw[bl_trans _ _ _ this hb]at hst;cases hst
  ·have:l[Ye l s]=l[h]:=by congr 1
   rw[this,hb]at hst;cases hst
 ·intro hb;exact ZLt l s h hb
def ZTT(l:List Tx)(s:Tx):Bool:=match l[Ye l s]? with
 |some a=>YN a==YN s
 |none=>false
def ZLG:Tabs:=ZW (ZQ) 43 ZNL
theorem ZVx:SsOk Tryz.prog ZLG:=ZJ (ZE) (ZZ 43) ZbH
theorem ZYy:(∀a,ZLG.q 43 a=ZNL a)∧(∀f a o,ZLG.r f a o=none)∧(∀f a o,ZLG.k f a o=none):=⟨fun _=>rfl,fun _ _ _=>rfl,fun _ _ _=>rfl⟩
theorem ZdU(l:List Tx)(n:Tx)(hs:SoL l)(hl:l.length≤1000000):ZD Tryz.prog 42 [.x (.sl (rows ZB l)),.x (.str n),.fn 43 []] (.tup [.x (.int .i64 (Ye l n)),.x (.bool (ZTT l n))]):=by
 have hpl:=ZFq l n;have hhit:ZTT l n=match l[Ye l n]? with|some a=>YN a==YN n|none=>false:=rfl
 refine ZG.pure (fC 42 true ?_) rfl;intro C0 E0;have uu:=Jz @ZNL.eq_1 @ZNL.eq_2 @ZYy;have tT:=ZVx;refine nz ?_;refine rg tT [0,1,2] ?_;refine rg tT [0,1,2,8] ?_;refine rg tT [0,1,2,8,9,10] ?_;refine WI.loop (fun φ os=> ∃(i j:Nat),φ= [(0,.x (.sl (rows ZB l))),(1,.x (.str n)),(2,.fn 43 []),(8,.x (.int .i64 l.length)),(9,.x (.int .i64 i)),(10,.x (.int .i64 j))]∧os= []∧i≤Ye l n∧Ye l n≤j∧j≤l.length) (dif) ?_ (fun φ os hI=> ?_)
 ·exact⟨0,l.length,rfl,rfl,by omega,hpl,by omega⟩
 ·obtain⟨i,j,rfl,rfl,hi,hj,hjl⟩:=hI;refine nz ?_;refine rg tT [0,1,2,8,9,10,17] ?_;refine cd (fun h0=> ?_) (fun h0=> ?_)
  ·refine rg tT [0,1,2,8,9,10,11] ?_;have hij:i<j:=by omega
   rw[ZZT i j (by omega)];obtain⟨M,hM⟩: ∃M,M=(i+j)/2:=⟨_,rfl⟩;rw[←hM];have hMl:M<l.length:=by omega
   have hrw:(rows ZB l)[M]? =some [X.str (l.getD M [])]:=by simp[rows,hMl,ZB]
   have hiff:=ZRq hs n M hMl;rw[show l[M]=l.getD M [] by simp[hMl],←ZQg]at hiff;generalize l.getD M []=x at hrw hiff;have uu:=Yq uu hrw;refine rg tT [0,1,2,8,9,10,11,31] ?_;refine cd (fun h1=> ?_) (fun h1=> ?_)
   ·have hlt:M<Ye l n:=hiff.1 (by simpa using h1);refine rg tT [0,1,2,8,9,10] ?_
    first|exact⟨⟨M+1,j,rfl,rfl,by omega,by omega,by omega⟩,by simp[dif,Ab.get,D.val,ZH];omega⟩|exact⟨⟨i,M,rfl,rfl,by omega,by omega,by omega⟩,by simp[dif,Ab.get,D.val,ZH];omega⟩
   ·have hlt: ¬M<Ye l n:=fun h=>absurd (hiff.2 h) (by simpa using h1)
    refine rg tT [0,1,2,8,9,10] ?_
    first|exact⟨⟨M+1,j,rfl,rfl,by omega,by omega,by omega⟩,by simp[dif,Ab.get,D.val,ZH];omega⟩|exact⟨⟨i,M,rfl,rfl,by omega,by omega,by omega⟩,by simp[dif,Ab.get,D.val,ZH];omega⟩
  ·obtain rfl:Ye l n=i:=by omega
   by_cases hk:Ye l n<l.length
   ·have hrw:(rows ZB l)[Ye l n]? =some [X.str (l.getD (Ye l n) [])]:=by simp[rows,hk,ZB]
    rw[Zu hk,show l[Ye l n]=l.getD (Ye l n) [] by simp[hk]]at hhit;generalize l.getD (Ye l n) []=x at hrw hhit;have hd:=Zc (show((Ye l n:Nat):Int)<(l.length:Int) by omega);have uu:=Jz uu hrw hd;refine rg tT [6,7] ?_;refine lf ?_;have hcb:(cmpS (YN x) (YN n)==0)=(YN x==YN n):=by rw[ZBc];simp[ZNe]
    rw[hhit,hcb]
   ·have hrw:(rows ZB l)[Ye l n]? =none:=ξZ (by rw[Zo];omega);rw[ξZ (by omega)]at hhit;have hd:=decide_eq_false (show ¬((Ye l n:Nat):Int)<(l.length:Int) by omega);have uu:=Jz uu hrw hd;refine rg tT [6,7] ?_;refine lf ?_;rw[hhit]
def ZKv:List D→Option (Bool×D)
 | [.x (.sl R),.x (.str n),.fn 43 []]=>(ZY ZB R).bind fun l=>some (decide (SoL l∧l.length≤1000000),.tup [.x (.int .i64 (Ye l n)),.x (.bool (ZTT l n))])
 |_=>none
theorem ZR6: ∀args r,ZKv args=some (true,r)→ZD Tryz.prog 42 args r:=by
 intro args r h;unfold ZKv at h;split at h
 ·rename_i R n;obtain⟨l,hr0,h⟩:=Zv h;simp only[Ze,Za,ZS,Zi,true_and]at h;obtain⟨h1,rfl⟩:=h;rw[←Zb ZO hr0];exact(ZdU l n h1.1 h1.2)
 ·cases h
end Go.Proofs.YtiogclkbccdefaaGreatDoor
end
section
namespace Go.Proofs.YtiogclkbccdefaaGreatDoor
open Go.RowKit Go.Bo Go.Ab
end Go.Proofs.YtiogclkbccdefaaGreatDoor
end
section
namespace Go.Proofs.YtiogclkbccdefaaGreatDoor
open Go.RowKit Go.Bo Go.Ab
end Go.Proofs.YtiogclkbccdefaaGreatDoor
end
section
namespace Go.Ab
open Go.RowKit Go.Bo
theorem ZPe{P:Program}{f:FuncId}(OS:List Ob)(id:Nat)(dk:KK)(ag:Bool)(l:List Pr)(ho:OS[id]? =some (.mpo dk ag l))(hraw: ∀(b:Nat) (es:Array MapEntry) (clk:Nat) (w:World),w.heap[b]? =some (.map es clk)→Calls P f #[.map (some b)] w fun e w'=>e= .returned (.map (some w.heap.size))∧w'=w.alloc (.map es clk)):
  ZBQ P f [.mref id] OS (fun j=> .mref j) (.mpo dk ag l):=by
 intro Y jd c E vs hd R hvl;obtain⟨hsz,hv⟩:=hvl;obtain⟨v0,rfl⟩: ∃v0,vs= #[v0]:=by
  obtain⟨vl⟩:=vs
  match vl,hsz with
  | [a],_=>exact⟨a,rfl⟩
 have h0:=hv 0 _ v0 rfl rfl;have ho':(OS++Y)[id]? =some (.mpo dk ag l):=by rw[YR (ZR ho).1];exact ho
 obtain⟨p,hp,hok⟩:=R.at ho';obtain⟨es,clk,k1,k2⟩:=Zt.copied (b:=p.1) hok;cases h0 with
 |mref ho2 hk hb=>
  rw[hp]at hb;cases hb;refine(hraw _ es clk E.w k1).mono ?_;rintro e w' ⟨rfl,rfl⟩;obtain⟨E',q1,q2,q3,q4⟩:=ZPB (dk:=dk) (ag:=ag) (l:=l) R hd es clk (fun E' os' ev hw=>k2 E' os' _ ev (by rw[hw];exact heap_alloc_new _ _));exact⟨_,E',rfl,q1,q2,q3,q4⟩
def ZOa(S:Tabs)(f:FuncId)(g:List D→List Ob→Option (Bool×(Nat→D)×Ob)):Tabs:=⟨S.q,S.t,S.r,fun f' args os=>if f'=f then g args os else S.k f' args os⟩
theorem ZQE{P:Program}{S:Tabs}(hS:SsOk P S){f:FuncId}{g:List D→List Ob→Option (Bool×(Nat→D)×Ob)}(he:Enters P f)(hg: ∀args os r ob,g args os=some (true,r,ob)→ZBQ P f args os r ob):SsOk P (ZOa S f g):=by
 refine⟨hS.q,hS.t,hS.r,fun f' args os r ob h=> ?_⟩;simp only[ZOa]at h;split at h
 ·rename_i e;subst e;exact⟨he,hg _ _ _ _ h⟩
 ·exact hS.k _ _ _ _ _ h
end Go.Ab
namespace Go.Proofs.YtiogclkbccdefaaGreatDoor
open Go.RowKit Go.Bo Go.Ab
def ZSh:List D→List Ob→Option (Bool×D×List Ob)
 | [.ref 0 n 0 n',.x (.int .i64 i),.ref 1 1 0 1],[.rows false e 1 rs,.rows false e' 1 [r]]=>some (decide (n=rs.length∧n'=rs.length∧0≤i∧i≤rs.length∧rs.length≤1000000∧e=9∧e'=9),.ref 0 (n+1) 0 (n+1),[.rows false e 1 (YB rs i.toNat [r]),.rows false e' 1 [r]])
 |_,_=>none
theorem ZQe: ∀args os r os',ZSh args os=some (true,r,os')→ZL Tryz.prog 44 args os r os':=by
 intro args os r os' h;unfold ZSh at h;split at h
 ·rename_i n n' i e rs e' r0;simp only[Ze,Za,Zi]at h;obtain⟨⟨rfl,rfl,h0,h1,h2,rfl,rfl⟩,rfl,rfl⟩:=h;have h:=ZUU rs r0 i.toNat (by omega) h2;rwa [show((i.toNat:Nat):Int)=i by omega]at h
 ·cases h
theorem ZVr(r:List X):ZL Tryz.prog 44 [.x .nils,.x (.int .i64 0),.ref 0 1 0 1] [.rows false 9 1 [r]] (.ref 1 1 0 1) [.rows false 9 1 [r],.rows false 9 1 [r]]:=by
 intro c E vs R hvl;obtain⟨E1,k1,k2,k3,k4⟩:=QO (fz:=false) (e:=9) (sz:=1) (rs:= []) (cu:= .slice none 0 0) (xs:= []) R (Kept.refl _ E.w) ⟨by simp,.inl ⟨rfl,rfl⟩⟩ (fun b hb=>by cases hb) (fun r hr=>by cases hr) (fun i r j x v h=>by simp at h);have h:=ZL.lift ZQe [.ref 1 0 0 0,.x (.int .i64 0),.ref 0 1 0 1] [.rows false 9 1 [r],.rows false 9 1 []] (.ref 1 1 0 1) [.rows false 9 1 [r],.rows false 9 1 [r]] rfl;refine k1▸(h c E1 vs k2 ⟨hvl.1,fun j d v hd hv=> ?_⟩).mono ?_
 ·match j with
  |0=>cases hd;have:=V.nils (hvl.2 0 _ v rfl hv);subst this;exact k4
  |j+1=>exact(hvl.2 (j+1) d v hd hv).mono k3
 ·rintro e w' ⟨v,E2,rfl,rfl,R2,e2,hv⟩;exact⟨v,E2,rfl,rfl,R2,k3.trans e2,hv⟩
def ZSn:List D→List Ob→Option (Bool×D×List Ob)
 | [.x .nils,.x (.int .i64 0),.ref 0 1 0 1],[.rows false e 1 [r]]=>some (decide (e=9),.ref 1 1 0 1,[.rows false e 1 [r],.rows false e 1 [r]])
 |a,o=>ZSh a o
theorem ZZB: ∀args os r os',ZSn args os=some (true,r,os')→ZL Tryz.prog 44 args os r os':=by
 intro args os r os' h;unfold ZSn at h;split at h
 ·simp only[Ze,Za,Zi]at h;obtain⟨rfl,rfl,rfl⟩:=h;exact ZVr _
 ·exact ZQe _ _ _ _ h
def ZSe:List D→List Ob→Option (Bool×D×List Ob)
 | [.ref 0 n 0 n',.fn 56 [.ptr 1 0]],[.rows false e 1 R,.box [.x (.str s)]]=>(ZY ZB R).map fun l=>(decide (n=l.length∧n'=l.length∧e=9∧l.length≤1000000∧l≠ []),.ref 2 (ZB6 l s).length 0 (ZB6 l s).length,[.old 1 (l.length+1),.box [.x (.str s)],.rows false 9 1 (rows ZB (ZB6 l s))])
 |_,_=>none
theorem ZXr: ∀args os r os',ZSe args os=some (true,r,os')→ZL Tryz.prog 55 args os r os':=by
 intro args os r os' h;unfold ZSe at h;split at h
 ·rename_i n n' e R s;obtain⟨l,h1,h⟩:=ZT h;simp only[Za,Zi]at h;obtain⟨⟨rfl,rfl,rfl,h2,h3⟩,rfl,rfl⟩:=h;rw[←Zb ZO h1];exact Zc6 l s h2 h3
 ·cases h
def ZFR:List D→List Ob→Option (Bool×D×List Ob)
 | [],[]=>some (true,.ptr 0 0,[.box [.mref 1,.mref 2],.mpo .str true (JK (tyL plT)),.mpo .str true (JC (clL plC))])
 |_,_=>none
theorem ZNw: ∀args os r os',ZFR args os=some (true,r,os')→ZL Tryz.prog 11 args os r os':=by
 intro args os r os' h;unfold ZFR at h;split at h
 ·cases h;exact ZZ1
 ·cases h
def ZB5(dc:Tx):List ZU:= [([111,98,106,101,99,116,99,108,97,115,115],[[100,111,109,97,105,110]],()),([100,99],[dc],())]
theorem ZXx(dn dc:Tx):ZD Tryz.prog 13 [.x (.str dn),.x (.str dc)] (.agg [.x (.str dn),.x (.sl (rows ZV (ZB5 dc)))]):=evP 300 13 ZE []
def ZDe:List D→Option (Bool×D)
 | [.x (.str dn),.x (.str dc)]=>some (true,.agg [.x (.str dn),.x (.sl (rows ZV (ZB5 dc)))])
 |_=>none
theorem ZLy: ∀args r,ZDe args=some (true,r)→ZD Tryz.prog 13 args r:=by
 intro args r h;unfold ZDe at h;split at h
 ·rename_i dn dc;simp only[Ze,Za,ZS,Zi,true_and]at h;obtain rfl:=h;exact(ZXx dn dc)
 ·cases h
def ZUc:Tabs:=Jc (Jc (ZFk (ZFk (ZW (ZW (ZW (ZW (ZW (ZW (Jc (ZW (ZQ) 13 ZDe) 11 ZFR) 39 ZDx) 81 ZDH) 121 QB) 123 ZK6) 41 ZAX) 42 ZKv) 122 ZEO) 78 ZCy) 44 ZSn) 55 ZSe
theorem ZVZ:SsOk Tryz.prog ZUc:=Ys (Ys (ZC0 (ZC0 (ZJ (ZJ (ZJ (ZJ (ZJ (ZJ (Ys (ZJ (ZE) (ZZ 13) ZLy) (ZZ 11) ZNw) (ZZ 39) ZLc) (ZZ 81) ZKZ) (ZZ 121) ZGY) (ZZ 123) ZR3) (ZZ 41) ZHb) (ZZ 42) ZR6) (ZZ 122) ZOE) (ZZ 78) ZL7) (ZZ 44) ZZB) (ZZ 55) ZXr
def ZMs:List D→List Ob→Option (Bool×(Nat→D)×Ob)
 | [.mref id],os=>match os[id]? with
  |some (.mpo .str true l)=>some (true,fun j=> .mref j,.mpo .str true l)
  |_=>none
 |_,_=>none
theorem ZTV: ∀args os r ob,ZMs args os=some (true,r,ob)→ZBQ Tryz.prog 46 args os r ob:=by
 intro args os r ob h;unfold ZMs at h;split at h
 ·split at h
  ·rename_i h1;cases h;exact ZPe _ _ .str true _ h1 (fun b es clk w hb=>AnyW.maps_Clone Tryz.clMap b es clk w hb)
  ·cases h
 ·cases h
def ZM9:List D→List Ob→Option (Bool×(Nat→D)×Ob)
 | [.ref id n 0 n'],os=>match os[id]? with
  |some (.rows _ _ 1 R)=>(ZY ZB R).map fun l=>(decide (n=l.length∧n'=l.length∧l.length≤1000000),fun j=> .ref j n 0 n,.rows false 9 1 R)
  |_=>none
 |_,_=>none
theorem ZSk: ∀args os r ob,ZM9 args os=some (true,r,ob)→ZBQ Tryz.prog 47 args os r ob:=by
 intro args os r ob h;unfold ZM9 at h;split at h
 ·split at h
  ·rename_i h1;obtain⟨l,h2,h⟩:=ZT h;simp only[Za,Zi]at h;obtain⟨⟨rfl,rfl,h3⟩,rfl,rfl⟩:=h;rw[←Zb ZO h2]at h1⊢;exact ZO3 _ _ _ _ l h1 h3
  ·cases h
 ·cases h
def ZGv:Tabs:=ZOa (ZOa ZUc 46 ZMs) 47 ZM9
theorem ZI7:SsOk Tryz.prog ZGv:=ZQE (ZQE ZVZ (ZZ 46) ZTV) ZIa ZSk
end Go.Proofs.YtiogclkbccdefaaGreatDoor
end
section
namespace Go.Proofs.YtiogclkbccdefaaGreatDoor
open Go.RowKit Go.Bo Go.Ab
abbrev KJ(P1 P2:List Pr)(Y:List Ob):List Ob:= .box [.ptr 1 0,.mref 4,.mref 5]:: .box [.mref 2,.mref 3]:: .mpo .str true P1:: .mpo .str true P2::Y
abbrev TB:=Tx×Nat×List Tx
def YX(x:TB):Pr:=([.str x.1],[.ref (x.2.1+6) x.2.2.length 0 x.2.2.length])
def YZ(x:TB):Tx×List Tx:=(x.1,x.2.2)
def okB(Y:List Ob)(B:List TB):Prop:=(B.map (·.1)).Nodup∧(B.map (·.2.1)).Nodup∧ ∀x∈B,Y[x.2.1]? =some (.rows false 9 1 (rows ZB x.2.2))∧x.2.2.length≤1000000
def cpB:Nat→List (Tx×List Tx)→List Pr
 |_,[]=> []
 |k,x::l=>([.str x.1],[.ref k x.2.length 0 x.2.length])::cpB (k+1) l
theorem ZQk: ∀(l:List (Tx×List Tx)) (k:Nat) (x:Tx×List Tx),cpB k (l++ [x])=cpB k l++ [([.str x.1],[.ref (k+l.length) x.2.length 0 x.2.length])]
 | [],k,x=>rfl
 |y::l,k,x=>by rw[QC,cpB,ZQk l,cpB,JJ,show k+1+l.length=k+(l.length+1) by omega];rfl
theorem ZQ7: ∀(l:List (Tx×List Tx)) (k:Nat) (s:Tx) (v:List D),s∉l.map (·.1)→YM (cpB k l) [.str s] v=cpB k l++ [([.str s],v)]
 | [],k,s,v,_=>rfl
 |y::l,k,s,v,h=>by
  rw[YL,QM,not_or]at h;have hne:ZA7 [X.str s] [X.str y.1]=false:=by simp[ZA7,X.keq,h.1]
  have ih:=ZQ7 l (k+1) s v h.2;simp only[cpB,YM,hne,Yt,if_false,ih,QC]
theorem ZRU{α:Type}: ∀(l:List α) (i:Nat) (a:α),l[i]? =some a→(a::l.eraseIdx i).Perm l
 |b::l,0,a,h=>by cases h;exact ZJk _
 |b::l,i+1,a,h=>(List.Perm.swap b a _).trans ((ZRU l i a (by simpa using h)).cons b)
theorem ZVo{α β:Type}(f:α→β): ∀(l:List α) (i:Nat),(l.map f).eraseIdx i=(l.eraseIdx i).map f
 | [],i=>rfl
 |b::l,0=>rfl
 |b::l,i+1=>by simp only[YL,ZY6,ZVo f l i]
def rwB(l:List (Tx×List Tx)):List Ob:=l.map fun x=> .rows false 9 1 (rows ZB x.2)
def cpO(P1 P2 m:List Pr)(Y:List Ob)(o:Ob)(l:List (Tx×List Tx)):List Ob:=KJ P1 P2 (.mpo .str true m::o::(Y++ .mpo .str true m:: .mpo .str false (cpB (Y.length+10) l):: .box [.ptr 1 0,.mref (Y.length+6),.mref (Y.length+7)]:: .itr::rwB l))
theorem ZZm(l:List (Tx×List Tx))(B':List TB)(i:Nat)(b:TB)(hb:B'[i]? =some b):(l++ [YZ b]++(B'.eraseIdx i).map YZ).Perm (l++B'.map YZ):=by
 rw[Yk];exact List.Perm.append_left l ((ZRU B' i b hb).map YZ)
theorem ZRF(P1 P2 m:List Pr)(B:List TB)(Y:List Ob)(B':List TB)(l:List (Tx×List Tx))(i:Nat)(b:TB)(hb:B'[i]? =some b)(hp:(l++B'.map YZ).Perm (B.map YZ))(hn:(B.map (·.1)).Nodup)(OS:List Ob)
  (hOS:OS=cpO P1 P2 m Y (.mit .str false (B.map YX) (Y.length+9) ((B'.map YX).eraseIdx i) (some (YX b))) l):
  (OS++ [Ob.rows false 9 1 (rows ZB b.2.2)]).set (Y.length+7) (.mpo .str false (YM (cpB (Y.length+10) l) [.str b.1] [.ref (Y.length+10+l.length) b.2.2.length 0 b.2.2.length]))=cpO P1 P2 m Y (.mit .str false (B.map YX) (Y.length+9) ((B'.eraseIdx i).map YX) (some (YX b))) (l++ [YZ b]):=by
 have hno:b.1∉l.map (·.1):=by
  intro hin;have h1:((l++B'.map YZ).map (·.1)).Nodup:=(hp.map (·.1)).nodup_iff.2 (by rw[Jq];exact hn);rw[KC]at h1;exact(ZFW.1 h1).2.2 _ hin _ (YW.2 ⟨YZ b,YW.2 ⟨b,YT hb,rfl⟩,rfl⟩) rfl
 rw[ZQ7 _ _ _ _ hno,hOS];have he:(B'.map YX).eraseIdx i=(B'.eraseIdx i).map YX:=ZVo YX B' i;have hs:(cpB (Y.length+10) l)++ [([X.str b.1],[D.ref (Y.length+10+l.length) b.2.2.length 0 b.2.2.length])]=cpB (Y.length+10) (l++ [YZ b]):=by rw[ZQk];rfl
 have hr:rwB (l++ [YZ b])=rwB l++ [Ob.rows false 9 1 (rows ZB b.2.2)]:=by simp[rwB,YZ]
 rw[hs,he];unfold cpO KJ;rw[hr];simp only[QC,ZBn,Yk];rw[ZDD _ _ (by omega)];simp
theorem Zde(P1 P2 m:List Pr)(B:List TB)(Y:List Ob)(B':List TB)(l:List (Tx×List Tx))(i:Nat)(b:TB)(hb:B'[i]? =some b)(φ:List (Nat×D))(cur:Option Pr):ZMa 5 φ (cpO P1 P2 m Y (.mit .str false (B.map YX) (Y.length+9) ((B'.eraseIdx i).map YX) (some (YX b))) (l++ [YZ b]))<ZMa 5 φ (cpO P1 P2 m Y (.mit .str false (B.map YX) (Y.length+9) (B'.map YX) cur) l):=by
 have:=(ZR hb).1;simp only[ZMa,cpO,ZBe,ZBW,Yf,ZSv];rw[if_pos this];omega
def CpP(P1 P2 m:List Pr)(B:List TB)(Y:List Ob)(r:D)(os':List Ob):Prop:=
 ∃l:List (Tx×List Tx),l.Perm (B.map YZ)∧r= .ptr (Y.length+8) 0∧os'=cpO P1 P2 m Y (.mpo .str false (B.map YX)) l
set_option maxHeartbeats 4000000 in
theorem Zcl(P1 P2 m:List Pr)(B:List TB)(Y:List Ob)(hB:okB Y B):ZG Tryz.prog 19 [.ptr 0 0] (KJ P1 P2 (.mpo .str true m:: .mpo .str false (B.map YX)::Y)) (CpP P1 P2 m B Y):=by
 have hck:=ZPe (P:=Tryz.prog) (f:=46) (KJ P1 P2 (.mpo .str true m:: .mpo .str false (B.map YX)::Y)) 4 .str true m rfl (fun b es clk w hb=>AnyW.maps_Clone Tryz.clMap b es clk w hb);refine fC 19 false ?_;intro C0 E0;have uu:=ξ4 @Zda @Zdd @ZdP @ZdH;refine WI.seq ?_;refine WI.regB ZE [0] ?_;refine oS ?_;refine oN ?_;refine ZA ?_;refine WI.seq ?_;refine WI.seq ?_;refine WI.regB ZE [0,7] ?_;refine oS ?_;refine oG ?_;refine oN ?_;refine ZA ?_;refine WI.cond (b:=_) rfl rfl (fun h0=> ?_) (fun h0=> ?_)
 ·exfalso;simp at h0
 ·try simp only[zB]at h0
  refine WI.skip ?_;refine ZA ?_;refine WI.seq ?_;refine WI.dregB (ZWH ZE (ZZ 46) hck) [0,3] ?_
  iterate 3 refine Yd ?_
  refine QH ?_
  iterate 3 refine Yd ?_
  refine QH ?_;refine dKC ?_;refine dKG ?_;refine dFG ?_;refine dAG ?_;refine Yd ?_;refine dN ?_;refine ZA ?_;refine WI.seq ?_;refine WI.seq ?_;refine WI.regB ZE [3,24] ?_
  iterate 3 refine oS ?_
  iterate 2 refine oG ?_
  refine oN ?_;refine ZA ?_;refine WI.block ?_;have hz: ∀(o:Ob) (Z:List Ob),Y++ [Ob.mpo .str true m]++ [Ob.mpo .str false []]++ [o]++Z=Y++(Ob.mpo .str true m::Ob.mpo .str false []::o::Z):=fun o Z=>by simp
  simp only[hz,Yk,QC,Qw,Zx,JJ,ξN,Yy,ZH9,Nat.reduceAdd];refine WI.loop (fun φ os=> ∃(B':List TB) (l:List (Tx×List Tx)) (cur:Option Pr),φ= [(3,.ptr (Y.length+8) 0),(24,.iref 5 (Y.length+9))]∧os=cpO P1 P2 m Y (.mit .str false (B.map YX) (Y.length+9) (B'.map YX) cur) l∧(l++B'.map YZ).Perm (B.map YZ)∧ ∀b∈B',b∈B) (ZMa 5) ?_ (fun φ os hI=> ?_)
  ·exact⟨B,[],none,rfl,rfl,ZJk _,fun b hb=>hb⟩
  ·obtain⟨B',l,cur,rfl,rfl,hp,hm⟩:=hI;rw[cpO];refine WI.seq ?_;refine WI.nextMA [3,24,26] (fun hn5=> ?_) (fun i5 q5 hn5=> ?_)
   ·obtain rfl:B'= []:=ZY4.1 hn5;refine ZA ?_;refine WI.seq ?_;refine WI.cond (b:=_) rfl rfl (fun h1=> ?_) (fun h1=> ?_)
    ·exact absurd h1 (by decide)
    ·try simp only[zB]at h1
     refine WI.exit ?_;refine Ka ?_;refine Ka ?_;refine ZB2 ?_;refine ZA ?_;refine WI.seq ?_;refine WI.thawA 5 ?_;refine WI.regB ZE [2] ?_
     iterate 2 refine oS ?_
     refine oN ?_;refine ZA ?_;refine WI.ret ?_
     first|refine lfR ?_|refine ZCb ?_|refine ZCB ?_|refine ZCc ?_
     exact⟨l,by rw[Qv,Kg]at hp;exact hp,rfl,rfl⟩
   ·rw[Zw]at hn5;obtain⟨b,hb,rfl⟩:=ZT hn5;refine ZA ?_;refine WI.seq ?_;refine WI.cond (b:=_) rfl rfl (fun h1=> ?_) (fun h1=> ?_)
    ·try simp only[zB]at h1
     refine WI.skip ?_;refine ZA ?_;refine WI.block ?_;refine WI.seq ?_;refine WI.regB ZE [3,4,5,24] ?_
     iterate 3 refine oG ?_
     iterate 2 refine oS ?_
     refine oN ?_;refine ZA ?_;have hbB:=hm b (YT hb);obtain⟨hrow,hbl⟩:=hB.2.2 b hbB;have hkd:keyD .str (YX b).fst= .x (.str b.1):=rfl;have hcd:ZEB false (YX b).snd= .ref (b.2.1+6) b.2.2.length 0 b.2.2.length:=rfl;obtain⟨OS,hOS⟩: ∃OS,OS=cpO P1 P2 m Y (.mit .str false (B.map YX) (Y.length+9) ((B'.map YX).eraseIdx i5) (some (YX b))) l:=⟨_,rfl⟩;unfold cpO KJ at hOS;rw[hkd,hcd,←hOS];have h8:OS[Y.length+8]? =some (.box [.ptr 1 0,.mref (Y.length+6),.mref (Y.length+7)]):=by rw[hOS];simp[Ki]
     have hol:OS.length=Y.length+10+l.length:=by rw[hOS];simp[rwB];omega
     have h7: ∀o:Ob,(OS++ [o])[Y.length+7]? =some (.mpo .str false (cpB (Y.length+10) l)):=fun o=>by rw[hOS];simp[Ki]
     have hr6:OS[b.2.1+6]? =some (.rows false 9 1 (rows ZB b.2.2)):=by
      rw[hOS];show(Y++_)[b.2.1]? =_;rw[YR (ZR hrow).1];exact hrow
     have hck:=ZO3 OS (b.2.1+6) false 9 b.2.2 hr6 hbl;have uu:=ξ6 uu h8 hol h7 hr6 (Zo ZB b.2.2);refine WI.dregB (ZWH ZE ZIa hck) [3,24] ?_
     iterate 3 refine Yd ?_
     refine QH ?_
     iterate 2 refine Yd ?_
     refine dKC ?_;refine dAG ?_;refine dN ?_;refine QI ?_;refine ZA ?_;exact⟨⟨B'.eraseIdx i5,l++ [YZ b],_,rfl,ZRF P1 P2 m B Y B' l i5 b hb hp hB.1 OS hOS,(ZZm l B' i5 b hb).trans hp,fun b hb=>hm b (List.mem_of_mem_eraseIdx hb)⟩,by rw[ZRF P1 P2 m B Y B' l i5 b hb hp hB.1 OS hOS];exact Zde P1 P2 m B Y B' l i5 b hb _ _⟩
    ·exact absurd h1 (by decide)
end Go.Proofs.YtiogclkbccdefaaGreatDoor
end
