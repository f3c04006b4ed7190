import Derived.Test.YtiogclkbccdefaaGreatDoorMA3
import Derived.Test.YtiogclkbccdefaaGreatDoorLA5
import Derived.Test.YtiogclkbccdefaaGreatDoorSh
import Derived.Sort.KeysCollected
import Derived.Shelf.SlIter.Sorted
import Derived.Test.YtiogclkbccdefaaGreatDoorMA2
import Derived.Test.YtiogclkbccdefaaGreatDoorProg
import Derived.Test.YtiogclkbccdefaaGreatDoorMA1
set_option linter.unusedSimpArgs false
set_option linter.unusedVariables false
set_option maxRecDepth 100000
section
namespace Go.Proofs.YtiogclkbccdefaaGreatDoor
open Go.RowKit Go.Bo Go.Ab
abbrev Sn:=List (Tx×Int)
def snG(S:Sn)(k:Tx):Int:=(ZG S k).getD 0
def snS(S:Sn)(k:Tx):Sn:=Zt S k (snG S k+1)
theorem ZRt(S:Sn)(k:Tx):(JZ (Yg KU kcI S) [X.str k])=(ZG S k).map λn=> [D.x (X.int .i64 n)]:=by
 rw[ZEp KU kcI hkS S k];rfl
theorem ZNu(S:Sn)(k:Tx)(n:Int):Yb (Yg KU kcI S) [X.str k] [D.x (X.int .i64 n)]=Yg KU kcI (Zt S k n):=ZDd KU kcI hkS S k n
def w4(S:Sn)(t:Zl)(a:ZY):Int:=if 0<snG S t.1\/twV t.2.1 a.2.1=true then 20 else 0
def ZKn:Tabs:=ZT (ZT (ZO) 120 QW) 156 ZFL
theorem ZPw:SsOk Tryz.prog ZKn:=ZH (ZH (ZF) (ZW 120) ZMU) (ZW 156) ZYc
theorem ZS3:(∀a,ZKn.q 120 a=QW a)/\(∀a,ZKn.q 156 a=ZFL a)/\(∀f a o,ZKn.r f a o=none)/\(∀f a o,ZKn.k f a o=none):=⟨λ_=>rfl,λ_=>rfl,λ_ _ _=>rfl,λ_ _ _=>rfl⟩
theorem ZiU(S:Sn)(t:Zl)(a:ZY)(hs:0<=snG S t.1/\snG S t.1<=1000000)(hl:a.2.1.length<=1000000):ZN Tryz.prog 155 [tyD t,atD a,.ptr 0 0] [.box [.mref 1],.mpo .str false (Yg KU kcI S)] (.x (.int .i64 (w4 S t a))) [.box [.mref 1],.mpo .str false (Yg KU kcI (snS S t.1))]:=by
 have hO:([.box [.mref 1],.mpo .str false (Yg KU kcI (snS S t.1))]:J7).all (Ob.inP (λi=>decide (i<([.box [.mref 1],.mpo .str false (Yg KU kcI (snS S t.1))]:J7).length)))=true:=by simp[Ob.inP,Yo,D.inP,Qp]
 have hla:decide (a.2.1.length<=1000000)=true:=ZL hl;have hg:=ZRt S t.1;unfold w4 tyD atD snS;unfold snS at hO;unfold snG at hs hO|-;rcases hm:ZG S t.1 with _|n
 .rw[hm]at hg hO;simp only[ZMT,Qg]at hg hO|-;have hst:Yb (Yg KU kcI S) [X.str t.1] [D.x (X.int .i64 1)]=Yg KU kcI (Zt S t.1 (0+1)):=ZNu S t.1 1;refine ZI.mcallsX (fC 155 true ?_) (by first|decide|(simp;done)) hO (by first|rfl|exact hR);intro C0 E0;have uu:=ξ8 @QW.eq_1 @QW.eq_2 @ZFL.eq_1 @ZFL.eq_2 hg hst hla @ZS3;have tT:=ZPw;refine nz ?_;refine rg tT [2,3,4] ?_;refine rg tT [2,3,6] ?_;refine rg tT [6] ?_;refine rg tT [5] ?_;refine lf ?_;refine⟨?_,_,rfl⟩;clear uu;grind
 .rw[hm]at hg hO hs;simp only[ξX,Yf]at hg hO hs|-;have hst:=ZNu S t.1 (n+1);refine ZI.mcallsX (fC 155 true ?_) (by first|decide|(simp;done)) hO (by first|rfl|exact hR);intro C0 E0;have uu:=ξ8 @QW.eq_1 @QW.eq_2 @ZFL.eq_1 @ZFL.eq_2 hg hst hla @ZS3;have tT:=ZPw;refine nz ?_;refine rg tT [2,3,4] ?_;refine rg tT [2,3,6] ?_;refine rg tT [6] ?_;refine rg tT [5] ?_;refine lf ?_;refine⟨?_,_,rfl⟩;clear uu;grind
def w4T:J8->J7->Option (Bool×D×J7)
 | [.agg [.x (.str n),.x (.int .i64 k),.x (.bool b)],.agg [.x (.str nm),.x (.sl R)],.ptr 0 0],[.box [.mref 1],.mpo .str false P1]=>(unM ZB (ZBZ .i64) P1).bind λS=>(Zb ZB R).bind λl=>some (decide ((0<=snG S n/\snG S n<=1000000)/\l.length<=1000000),.x (.int .i64 (w4 S (n,k,b,()) (nm,l,()))),[.box [.mref 1],.mpo .str false (Yg KU kcI (snS S n))])
 |_,_=>none
theorem ZhG: ∀args os r os',w4T args os=some (true,r,os')->ZN Tryz.prog 155 args os r os':=by
 intro args os r os' h;unfold w4T at h;split at h
 .rename_i n k b nm R P1;obtain⟨S,hm0,h⟩:=Zv h;obtain⟨l,hr0,h⟩:=Zv h;simp only[Ze,ZZ,ZS,Zd,true_and]at h;obtain⟨h1,rfl,rfl⟩:=h;rw[Jd ZP (ZAs .i64) hm0];rw[<-Za ZP hr0];exact ZiU S (n,k,b,()) (nm,l,()) h1.1 h1.2
 .cases h
def ZK2(e:Kq):D:= .agg [.x (.str e.1),.x (.sl (rows ZX e.2.1))]
def goA(g:Zl->ZY->Int)(L:List (Tx×Zl)):List ZY->Int
 | []=>0
 |a::l=>if g (tyV L (ZJ a.1)) a≠0 then g (tyV L (ZJ a.1)) a else goA g L l
theorem ZRl(l:List ZY)(j:Nat)(h:j<l.length):(rows ZX l)[j]? =some [X.str (l.getD j ([],[],())).1,X.sl (rows ZB (l.getD j ([],[],())).2.1)]:=by
 simp[rows,h,ZX,JT,ZB,rSl,ZAg]
theorem ZQi{α:Type}(l:List α)(z:α)(j:Nat)(h:j<l.length):l.drop j=l.getD j z::l.drop (j+1):=by
 rw[ZFj h];simp[h]
theorem Zbg(L:List (Tx×Zl))(M:List (Tx×Zy))(e:Kq)(f:FuncId)(g:Zl->ZY->Int)(hen:Enters Tryz.prog f)(hg: ∀t,∀a∈e.2.1,ZC Tryz.prog f [tyD t,atD a] (.x (.int .i64 (g t a))))(hl:e.2.1.length<=1000000)(hn: ∀a∈e.2.1,a.1.length<=1000000):
  ZN Tryz.prog 158 [.ptr 0 0,ZK2 e,.fn f []] (scO L M) (.x (.int .i64 (goA g L e.2.1))) (scO L M):=by
 obtain⟨dn,l,u⟩:=e;simp only at hg hl hn|-;have hO:=ZBu L M;have h1:=ZFz L;have h2:=ZFy M;unfold ZK2;refine ZI.mcallsX (fC 158 true ?_) (by first|decide|(simp;done)) hO (by first|rfl|exact hR);intro C0 E0;have uu:=KT @ZBp.eq_1 @ZBp.eq_2 h1 h2 @ZCq @ZCX @ZDQ @ZDV (ξ7 @ZAT @ZAQ @ZHZ @ZHc @ZHX @ZHg @Zbo);refine WI.seq ?_;refine WI.regB ZAn [0,2,4] ?_;refine oG ?_;refine oS ?_;refine oN ?_;refine ZA ?_;refine WI.seq ?_;refine WI.seq ?_;refine WI.regB ZAn [0,2,13,14,15] ?_;refine oS ?_
 iterate 2 refine oG ?_
 refine oS ?_;refine oN ?_;refine ZA ?_;refine WI.block ?_;refine WI.dropT (scO L M) _ rfl J1 hO (by simp[D.inP,Yo]) ?_;refine WI.orderA [0,2,13,14,15] ?_;refine WI.loop (λφ os=> ∃(i:Nat),φ= [(0,.ptr 0 0),(2,.fn f []),(13,.x (.sl (rows ZX l))),(14,.x (.int .i64 l.length)),(15,.x (.int .i64 i))]/\os=scO L M/\i<=l.length/\goA g L (l.drop i)=goA g L l) (ZK l.length 15) ?_ (λφ os hI=> ?_)
 .exact⟨0,rfl,rfl,J0,rfl⟩
 .obtain⟨i,rfl,rfl,hi,hgo⟩:=hI;refine WI.seq ?_;refine WI.regB ZAn [0,2,13,14,15,16] ?_;refine oG ?_;refine oN ?_;refine ZA ?_;refine WI.seq ?_;refine WI.cond (b:=_) rfl rfl (λh0=> ?_) (λh0=> ?_)
  .try simp only[zB]at h0
   refine WI.skip ?_;refine ZA ?_;refine WI.seq ?_;refine WI.block ?_;refine WI.seq ?_;have hi4:i<l.length:=by omega
   have hrw:=ZRl l i hi4;have hdr:=ZQi l ([],[],()) i hi4;have hma:l.getD i ([],[],())∈l:=by rw[show l.getD i ([],[],())=l[i] by simp[hi4]];exact YZ hi4
   generalize l.getD i ([],[],())=a at hrw hdr hma;have hna:=hn a hma;have hga:=hg (tyV L (ZJ a.1)) a hma;rw[hdr,goA]at hgo;obtain⟨t,ht⟩: ∃t,t=tyV L (ZJ a.1):=⟨_,rfl⟩;rw[<-ht]at hga hgo;have hmc:ZN Tryz.prog f [.agg [.x (.str t.1),.x (.int .i64 t.2.1),.x (.bool t.2.2.1)],.agg [.x (.str a.1),.x (.sl (rows ZB a.2.1))]] [.box [.mref 1,.mref 2],.mpo .str true (JQ L),.mpo .str true (JL M),.box [.x (.str a.1),.x (.sl (rows ZB a.2.1))],.box [.x (.str t.1),.x (.int .i64 t.2.1),.x (.bool t.2.2.1)]] (.x (.int .i64 (g t a))) [.box [.mref 1,.mref 2],.mpo .str true (JQ L),.mpo .str true (JL M),.box [.x (.str a.1),.x (.sl (rows ZB a.2.1))],.box [.x (.str t.1),.x (.int .i64 t.2.1),.x (.bool t.2.2.1)]]:=ZC.mc hga _;have uu:=ξ4 uu hrw ht.symm @tyD.eq_1;refine WI.regB ZAn [0,2,8,13,14,15] ?_
   iterate 4 refine oG ?_
   refine oN ?_;refine ZA ?_;refine WI.seq ?_;refine WI.dregB ZAn [0,2,8,9,13,14,15] ?_
   iterate 5 refine Zs ?_
   refine Yp ?_;refine dQC ?_;refine Zs ?_
   iterate 2 refine Jq ?_
   refine dKG ?_;refine dAG ?_;refine Zs ?_;refine dN ?_;refine ZA ?_;refine WI.seq ?_;refine WI.regB (ZCV ZF hen hmc) [0,2,11,13,14,15] ?_;refine oS ?_
   iterate 2 refine oG ?_
   refine oC ?_;refine oS ?_;refine oN ?_;refine ZA ?_;refine WI.seq ?_;refine WI.post ?_;refine WI.regB ZAn [0,2,11,13,14,15,34] ?_;refine oS ?_;refine oG ?_;refine oP ?_;refine ZN7 (scO L M) _ rfl J1 hO (by simp[D.inP,Yo]) ?_;refine KR ?_;refine ZA ?_;refine WI.cond (b:=_) rfl rfl (λh1=> ?_) (λh1=> ?_)
   .try simp only[zB]at h1
    refine WI.seq ?_;refine WI.regB ZAn [6] ?_
    iterate 2 refine oS ?_
    refine oN ?_;refine ZA ?_;refine WI.ret ?_;refine ZBc ?_;refine JP ?_;refine JP ?_;refine ZBc ?_;refine JP ?_
    first|refine lfR ?_|refine ZB5 ?_|refine ZBd ?_|refine ZB7 ?_
    refine⟨?_,_,rfl⟩;rw[<-hgo,if_pos (by simpa using h1)]
   .try simp only[zB]at h1
    rw[if_neg (by simpa using h1)]at hgo;have hgo2:=hgo;refine WI.skip ?_;refine Qs ?_;refine ZA ?_;refine WI.regB ZAn [0,2,13,14,15] ?_;refine oG ?_;refine oS ?_;refine oN ?_;refine ZA ?_;exact⟨⟨i+1,rfl,rfl,J0,hgo2⟩,by simp[ZK,Ab.get,D.val,ZD];omega⟩
  .try simp only[zB]at h0
   refine WI.exit ?_;refine QL ?_;refine QL ?_;refine ZC3 ?_;refine ZA ?_;refine WI.seq ?_;refine WI.regB ZAn [6] ?_;refine oS ?_;refine oN ?_;refine ZA ?_;refine WI.ret ?_
   first|refine lfR ?_|refine ZB5 ?_|refine ZBd ?_|refine ZB7 ?_
   rw[ZB2 J0]at hgo;refine⟨?_,[],J1⟩;rw[<-hgo];rfl
def goS(L:List (Tx×Zl)):Sn->List ZY->Int×Sn
 |S,[]=>(0,S)
 |S,a::l=>if w4 S (tyV L (ZJ a.1)) a≠0 then(w4 S (tyV L (ZJ a.1)) a,snS S (tyV L (ZJ a.1)).1)else goS L (snS S (tyV L (ZJ a.1)).1) l
abbrev sc5(L:List (Tx×Zl))(M:List (Tx×Zy))(S:Sn):J7:= [.box [.mref 1,.mref 2],.mpo .str true (JQ L),.mpo .str true (JL M),.box [.mref 4],.mpo .str false (Yg KU kcI S)]
theorem ZOe(L:List (Tx×Zl))(M:List (Tx×Zy))(S:Sn):(sc5 L M S).all (Ob.inP (λi=>decide (i<(sc5 L M S).length)))=true:=by
 simp[Ob.inP,Yo,D.inP,ZAT,ZAQ,Qp]
theorem ZNT(S:Sn)(k:Tx)(v:Int)(k':Tx):ZG (Zt S k v) k'=if k'=k then some v else ZG S k':=by
 induction S with
 |nil=>by_cases h:k'=k<;>simp[Zt,ZG,h]
 |cons p S ih=>
  by_cases h1:k=p.1
  .subst h1;by_cases h:k'=p.1<;>simp[Zt,ZG,h]
  .by_cases h:k'=p.1
   .have hne: ¬p.1=k:=λe=>h1 e.symm
    subst h;simp[Zt,ZG,h1,hne]
   .simp only[Zt,ZG,h1,h,if_false,List.find?_cons,decide_false]at ih|-;exact ih
theorem Zeh(S:Sn)(k k':Tx):snG (snS S k) k'=if k'=k then snG S k+1 else snG S k':=by
 unfold snG snS;rw[ZNT];split<;>rfl
theorem ZdE(S:Sn):unM ZB (ZBZ .i64) (Yg KU kcI S)=some S:=ZRP ZP (ZAs .i64) S
def ZFV:Tabs:=Jz (ZHw (ZO) 74 ZBp) 155 w4T
theorem ZXA:SsOk Tryz.prog ZFV:=JE (ZEs (ZF) (ZW 74) ZQD) (ZW 155) ZhG
theorem ZaO:(∀a,ZFV.q 74 a=none)/\(∀a o,ZFV.t 74 a o=(QJ ZBp a o).map λr=>(r.1,r.2,o))/\(∀a o,ZFV.r 74 a o=QJ ZBp a o)/\(∀a,ZFV.q 155 a=none)/\(∀a o,ZFV.t 155 a o=Yx w4T a o)/\(∀a o,ZFV.r 155 a o=none)/\(∀f a o,ZFV.k f a o=none):=⟨λ_=>rfl,λ_ _=>rfl,λ_ _=>rfl,λ_=>rfl,λ_ _=>rfl,λ_ _=>rfl,λ_ _ _=>rfl⟩
theorem ZaM(L:List (Tx×Zl))(M:List (Tx×Zy))(e:Kq)(S0:Sn)(hS0: ∀k,0<=snG S0 k/\snG S0 k<=1)(hl:e.2.1.length<=1000000)(hn: ∀a∈e.2.1,a.1.length<=1000000/\a.2.1.length<=1000000):
  ZN Tryz.prog 158 [.ptr 0 0,ZK2 e,.fn 155 [.ptr 3 0]] (sc5 L M S0) (.x (.int .i64 (goS L S0 e.2.1).1)) (sc5 L M (goS L S0 e.2.1).2):=by
 obtain⟨dn,l,u⟩:=e;simp only at hl hn|-;have hO:=ZOe L M (goS L S0 l).2;have h1:=ZFz L;have h2:=ZFy M;unfold ZK2;refine ZI.mcallsX (fC 158 true ?_) (by first|decide|(simp;done)) hO (by first|rfl|exact hR);intro C0 E0;have uu:=KT @ZBp.eq_1 @ZBp.eq_2 @w4T.eq_1 @w4T.eq_2 h1 h2 @ZdE @ZCq (KT @ZCX @ZDQ @ZDV @ZAT @ZAQ @ZAM @ZCe @Qp @ZaO);have tT:=ZXA;refine nz ?_;refine rg tT [0,2,4] ?_;refine rg tT [0,2,13,14,15] ?_;refine WI.dropT (sc5 L M S0) _ rfl J1 (ZOe L M S0) (by simp[D.inP,Yo]) ?_;refine WI.orderA [0,2,13,14,15] ?_;refine WI.loop (λφ os=> ∃(i:Nat) (S:Sn),φ= [(0,.ptr 0 0),(2,.fn 155 [.ptr 3 0]),(13,.x (.sl (rows ZX l))),(14,.x (.int .i64 l.length)),(15,.x (.int .i64 i))]/\os=sc5 L M S/\i<=l.length/\(∀k,0<=snG S k/\snG S k<=1)/\goS L S (l.drop i)=goS L S0 l) (ZK l.length 15) ?_ (λφ os hI=> ?_)
 .exact⟨0,S0,rfl,rfl,J0,hS0,rfl⟩
 .obtain⟨i,S,rfl,rfl,hi,hSi,hgo⟩:=hI;refine nz ?_;refine rg tT [0,2,13,14,15,16] ?_;refine cd (λh0=> ?_) (λh0=> ?_)
  .have hi4:i<l.length:=by omega
   have hrw:=ZRl l i hi4;have hdr:=ZQi l ([],[],()) i hi4;have hma:l.getD i ([],[],())∈l:=by rw[show l.getD i ([],[],())=l[i] by simp[hi4]];exact YZ hi4
   generalize l.getD i ([],[],())=a at hrw hdr hma;obtain⟨hna,hna2⟩:=hn a hma;rw[hdr,goS]at hgo;obtain⟨t,ht⟩: ∃t,t=tyV L (ZJ a.1):=⟨_,rfl⟩;rw[<-ht]at hgo;have hdd:decide ((0<=snG S t.1/\snG S t.1<=1000000)/\a.2.1.length<=1000000)=true:=ZL ⟨⟨(hSi t.1).1,by have:=(hSi t.1).2;omega⟩,hna2⟩;obtain⟨tn,tk,tb,tu⟩:=t;obtain⟨an,al,au⟩:=a;have uu:=ξ5 uu hrw ht.symm (@tyD.eq_1) hdd;refine rg tT [0,2,8,13,14,15] ?_;refine WI.dregB tT [0,2,8,9,13,14,15] ?_
   iterate 5 refine Zs ?_
   refine Yp ?_;refine dQC ?_;refine Zs ?_
   iterate 2 refine Jq ?_
   refine dKG ?_;refine dAG ?_;refine Zs ?_;refine dN ?_;refine nz ?_;refine rg tT [0,2,11,13,14,15] ?_;refine WI.post ?_;refine WI.regB tT [0,2,11,13,14,15,34] ?_;refine oS ?_;refine oG ?_;refine oP ?_;refine ZN7 (sc5 L M (snS S tn)) _ rfl J1 (ZOe L M _) (by simp[D.inP,Yo]) ?_;refine KR ?_;refine nz ?_;refine cd (λh1=> ?_) (λh1=> ?_)
   .refine rg tT [6] ?_;refine lf ?_;rw[if_pos (by simpa using h1)]at hgo;rw[<-hgo];exact⟨rfl,_,rfl⟩
   .rw[if_neg (by simpa using h1)]at hgo;have hgo2:=hgo;have hw0:w4 S (tn,tk,tb,tu) (an,al,au)=0:=by simpa using h1
    have hSn: ∀k,0<=snG (snS S tn) k/\snG (snS S tn) k<=1:=λk=>by
     rw[Zeh];have hz: ¬0<snG S tn:=λhh=>by unfold w4 at hw0;rw[if_pos (.inl hh)]at hw0;simp at hw0
     have:=hSi k;have:=hSi tn;split<;>omega
    refine rg tT [0,2,13,14,15] ?_;exact⟨⟨i+1,_,rfl,rfl,J0,hSn,hgo2⟩,by simp[ZK,Ab.get,D.val,ZD];omega⟩
  .refine rg tT [6] ?_;refine lf ?_;rw[ZB2 J0]at hgo;rw[<-hgo];exact⟨rfl,[],by simp[goS]⟩
def smA(l:List ZY):Prop:=l.length<=1000000/\ ∀a∈l,a.1.length<=1000000/\a.2.1.length<=1000000
instance (l:List ZY):Decidable (smA l):=by unfold smA;infer_instance
def ZG7(g:Zl->ZY->Int)(dn:Tx)(A:J6)(P1 P2:W2):Option (Bool×D×J7):=
 (unM ZB JF P1).bind λL=>(unM ZB Qa P2).bind λM=>(Zb ZX A).bind λl=>some (decide (smA l),.x (.int .i64 (goA g L l)),scO L M)
def ZTM(dn:Tx)(A:J6)(P1 P2 P3:W2):Option (Bool×D×J7):=
 (unM ZB JF P1).bind λL=>(unM ZB Qa P2).bind λM=>(unM ZB (ZBZ .i64) P3).bind λS=>(Zb ZX A).bind λl=>some (decide (smA l)&&decide (S.length=0),.x (.int .i64 (goS L S l).1),sc5 L M (goS L S l).2)
def ZDM:J8->J7->Option (Bool×D×J7)
 | [.ptr 0 0,.agg [.x (.str dn),.x (.sl A)],.fn 151 []],[.box [.mref 1,.mref 2],.mpo .str true P1,.mpo .str true P2]=>ZG7 w1 dn A P1 P2
 | [.ptr 0 0,.agg [.x (.str dn),.x (.sl A)],.fn 152 []],[.box [.mref 1,.mref 2],.mpo .str true P1,.mpo .str true P2]=>ZG7 w2 dn A P1 P2
 | [.ptr 0 0,.agg [.x (.str dn),.x (.sl A)],.fn 153 []],[.box [.mref 1,.mref 2],.mpo .str true P1,.mpo .str true P2]=>ZG7 w3 dn A P1 P2
 | [.ptr 0 0,.agg [.x (.str dn),.x (.sl A)],.fn 155 [.ptr 3 0]],[.box [.mref 1,.mref 2],.mpo .str true P1,.mpo .str true P2,.box [.mref 4],.mpo .str false P3]=>ZTM dn A P1 P2 P3
 | [.ptr 0 0,.agg [.x (.str dn),.x (.sl A)],.fn 157 []],[.box [.mref 1,.mref 2],.mpo .str true P1,.mpo .str true P2]=>ZG7 w5 dn A P1 P2
 |_,_=>none
theorem ZY1:Enters Tryz.prog 151:=ZW 151
theorem ZZH:Enters Tryz.prog 152:=ZW 152
theorem ZWv:Enters Tryz.prog 153:=ZW 153
theorem ZXB:Enters Tryz.prog 157:=ZW 157
theorem ZHm{f:FuncId}{g:Zl->ZY->Int}(hen:Enters Tryz.prog f)(hg: ∀t (a:ZY),a.2.1.length<=1000000->ZC Tryz.prog f [tyD t,atD a] (.x (.int .i64 (g t a)))){dn:Tx}{A:J6}{P1 P2:W2}{r:D}{os':J7}(h:ZG7 g dn A P1 P2=some (true,r,os')):
  ZN Tryz.prog 158 [.ptr 0 0,.agg [.x (.str dn),.x (.sl A)],.fn f []] [.box [.mref 1,.mref 2],.mpo .str true P1,.mpo .str true P2] r os':=by
 unfold ZG7 at h;obtain⟨L,k1,h⟩:=Zv h;obtain⟨M,k2,h⟩:=Zv h;obtain⟨l,k3,h⟩:=Zv h;simp only[Ze,ZZ,Zd]at h;obtain⟨⟨hl,hn⟩,rfl,rfl⟩:=h;rw[Jd ZP KL k1,Jd ZP Kw k2,<-Za YR k3];exact Zbg L M (dn,l,()) f g hen (λt a ha=>hg t a (hn a ha).2) hl (λa ha=>(hn a ha).1)
theorem ZXh: ∀args os r os',ZDM args os=some (true,r,os')->ZN Tryz.prog 158 args os r os':=by
 intro args os r os' h;unfold ZDM at h;split at h
 .exact ZHm ZY1 (λt a _=>Zii t a) h
 .exact ZHm ZZH (λt a _=>ZiP t a) h
 .exact ZHm ZWv (λt a hl=>ZiT t a hl) h
 .unfold ZTM at h;obtain⟨L,k1,h⟩:=Zv h;obtain⟨M,k2,h⟩:=Zv h;obtain⟨S,k4,h⟩:=Zv h;obtain⟨l,k3,h⟩:=Zv h;simp only[Ze,ZZ,ZS,Zd]at h;obtain⟨⟨⟨hl,hn⟩,hS⟩,rfl,rfl⟩:=h;rw[Jd ZP KL k1,Jd ZP Kw k2,Jd ZP (ZAs .i64) k4,<-Za YR k3];obtain rfl:=ξQ hS;exact ZaM L M (_,l,()) [] (λk=>by simp[snG,ZG]) hl hn
 .exact ZHm ZXB (λt a _=>ZiO t a) h
 .cases h
def ZLm(L:List (Tx×Zl))(l:List ZY):Int:=
 if goA w1 L l≠0 then goA w1 L l else if goA w2 L l≠0 then goA w2 L l else if goA w3 L l≠0 then goA w3 L l else if(goS L [] l).1≠0 then(goS L [] l).1 else goA w5 L l
theorem Zcx(l:List ZY):Zb ZX (rows ZX l)=some l:=Zr YR l
def ZKc:Tabs:=Jz (ZO) 158 ZDM
theorem ZYG:SsOk Tryz.prog ZKc:=JE (ZF) (ZW 158) ZXh
theorem ZcK:(∀a,ZKc.q 158 a=none)/\(∀a o,ZKc.t 158 a o=Yx ZDM a o)/\(∀f a o,ZKc.r f a o=none)/\(∀f a o,ZKc.k f a o=none):=⟨λ_=>rfl,λ_ _=>rfl,λ_ _ _=>rfl,λ_ _ _=>rfl⟩
theorem Zbh(L:List (Tx×Zl))(M:List (Tx×Zy))(e:Kq)(he:smA e.2.1):ZN Tryz.prog 118 [.ptr 0 0,ZK2 e] (scO L M) (.x (.int .i64 (ZLm L e.2.1))) (scO L M):=by
 obtain⟨dn,l,u⟩:=e;simp only at he|-;have hsm:=ZL he;have hO:=ZBu L M;have h1:=ZFz L;have h2:=ZFy M;have h3:unM ZB (ZBZ .i64) []=some []:=rfl;rcases hv:ZLm L l with v
 unfold ZLm at hv;unfold ZK2;refine ZI.mcallsX (fC 118 true ?_) (by first|decide|(simp;done)) hO (by first|rfl|exact hR);intro C0 E0;have uu:=KT @ZDM.eq_1 @ZDM.eq_2 @ZDM.eq_3 @ZDM.eq_4 @ZDM.eq_5 @ZDM.eq_6 @ZG7.eq_1 @ZTM.eq_1 (KT h1 h2 h3 @ZdE @Zcx hsm @ZCq @ZCX (ξ8 @ZDQ @ZDV @ZAT @ZAQ @ZAM @ZCe @Qp @ZcK));have tT:=ZYG;refine nz ?_;refine rg tT [0,3] ?_;refine rg tT [0,3,5] ?_;refine rg tT [0,3,11,12] ?_;refine WI.loopN 6 ?_;refine WI.round ?_;refine nz ?_;refine rg tT [0,3,11,12,13] ?_;refine ct (λh0=> ?_) (λh0=> ?_)
 .refine rg tT [0,3,7,11,12] ?_;refine rg tT [0,3,8,11,12] ?_;refine rg tT [0,3,8,11,12,20] ?_;refine cd (λh1=> ?_) (λh1=> ?_)
  .refine rg tT [4] ?_;refine lf ?_;refine⟨?_,_,rfl⟩;clear uu;grind
  .refine rg tT [0,3,11,12] ?_;refine WI.round ?_;refine nz ?_;refine rg tT [0,3,11,12,13] ?_;refine ct (λh0=> ?_) (λh0=> ?_)
   .refine rg tT [0,3,7,11,12] ?_;refine rg tT [0,3,8,11,12] ?_;refine rg tT [0,3,8,11,12,20] ?_;refine cd (λh1=> ?_) (λh1=> ?_)
    .refine rg tT [4] ?_;refine lf ?_;refine⟨?_,_,rfl⟩;clear uu;grind
    .refine rg tT [0,3,11,12] ?_;refine WI.round ?_;refine nz ?_;refine rg tT [0,3,11,12,13] ?_;refine ct (λh0=> ?_) (λh0=> ?_)
     .refine rg tT [0,3,7,11,12] ?_;refine rg tT [0,3,8,11,12] ?_;refine rg tT [0,3,8,11,12,20] ?_;refine cd (λh1=> ?_) (λh1=> ?_)
      .refine rg tT [4] ?_;refine lf ?_;refine⟨?_,_,rfl⟩;clear uu;grind
      .refine rg tT [0,3,11,12] ?_;refine WI.round ?_;refine nz ?_;refine rg tT [0,3,11,12,13] ?_;refine ct (λh0=> ?_) (λh0=> ?_)
       .refine rg tT [0,3,7,11,12] ?_;refine rg tT [0,3,8,11,12] ?_;refine rg tT [0,3,8,11,12,20] ?_;refine cd (λh1=> ?_) (λh1=> ?_)
        .refine rg tT [4] ?_;refine lf ?_;refine⟨?_,_,rfl⟩;clear uu;grind
        .refine rg tT [0,3,11,12] ?_;refine WI.round ?_;refine nz ?_;refine rg tT [0,3,11,12,13] ?_;refine ct (λh0=> ?_) (λh0=> ?_)
         .refine rg tT [0,3,7,11,12] ?_;refine rg tT [0,3,8,11,12] ?_;refine rg tT [0,3,8,11,12,20] ?_;refine cd (λh1=> ?_) (λh1=> ?_)
          .refine rg tT [4] ?_;refine lf ?_;refine⟨?_,_,rfl⟩;clear uu;grind
          .refine rg tT [0,3,11,12] ?_;refine WI.round ?_;refine nz ?_;refine rg tT [0,3,11,12,13] ?_;refine ce (λh0=> ?_) (λh0=> ?_)
           .exact absurd h0 (by decide)
           .refine rg tT [4] ?_;refine lf ?_;refine⟨?_,_,rfl⟩;clear uu;grind
         .exact absurd h0 (by decide)
       .exact absurd h0 (by decide)
     .exact absurd h0 (by decide)
   .exact absurd h0 (by decide)
 .exact absurd h0 (by decide)
def ZGD:J8->J7->Option (Bool×D×J7)
 | [.ptr 0 0,.agg [.x (.str dn),.x (.sl R)]],[.box [.mref 1,.mref 2],.mpo .str true P1,.mpo .str true P2]=>(unM ZB JF P1).bind λL=>(unM ZB Qa P2).bind λM=>(Zb ZX R).bind λl=>some (decide (smA l),.x (.int .i64 (ZLm L l)),[.box [.mref 1,.mref 2],.mpo .str true (JQ L),.mpo .str true (JL M)])
 |_,_=>none
theorem ZWG: ∀args os r os',ZGD args os=some (true,r,os')->ZN Tryz.prog 118 args os r os':=by
 intro args os r os' h;unfold ZGD at h;split at h
 .rename_i dn R P1 P2;obtain⟨L,hm0,h⟩:=Zv h;obtain⟨M,hm1,h⟩:=Zv h;obtain⟨l,hr0,h⟩:=Zv h;simp only[Ze,ZZ,ZS,Zd,true_and]at h;obtain⟨h1,rfl,rfl⟩:=h;rw[Jd ZP KL hm0];rw[Jd ZP Kw hm1];rw[<-Za YR hr0];exact Zbh L M (dn,l,()) h1
 .cases h
def OC:Tx:= [111,98,106,101,99,116,99,108,97,115,115]
def snL(l:List Tx):Sn:=l.foldl snS []
theorem ZMb(l:List Tx)(k:Tx):snL (l++ [k])=snS (snL l) k:=by unfold snL;rw[ZRw];rfl
theorem ZGX(l:List Tx)(k:Tx):ZG (snL l) k=if k∈l then some (l.count k:Int)else none:=by
 suffices h: ∀(n:Nat) (l:List Tx),l.length=n->ZG (snL l) k=if k∈l then some (l.count k:Int)else none from h _ l rfl
 intro n
 induction n with
 |zero=>intro l hl;obtain rfl:=ξQ hl;rfl
 |succ n ihn=>
  intro l hl;rcases List.eq_nil_or_concat l with rfl|⟨l0,x,rfl⟩
  .simp at hl
  have ih:=ihn l0 (by simpa using hl);rw[List.concat_eq_append,ZMb];unfold snS;rw[ZNT];by_cases h:k=x
  .subst h;rw[if_pos rfl,if_pos J1];unfold snG;rw[ih,List.count_append];by_cases hk:k∈l0
   .rw[if_pos hk];simp
   .rw[if_neg hk,List.count_eq_zero_of_not_mem hk];simp
  .rw[if_neg h,ih,List.count_append];have hx: ¬x=k:=λe=>h e.symm
   by_cases hk:k∈l0
   .rw[if_pos hk,if_pos (by simp[hk])];simp[hx]
   .rw[if_neg hk,if_neg (by simp[hk,h])]
abbrev snM(l:List Tx):W2:=Yg KU kcI (snL l)
theorem ZEu{l:List Tx}{k:Tx}(h:k∈l):JZ (snM l) [X.str k]=some [D.x (X.int .i64 (l.count k))]:=by
 rw[ZRt,ZGX,if_pos h];rfl
theorem ZGV{l:List Tx}{k:Tx}(h:k∉l):JZ (snM l) [X.str k]=none:=by
 rw[ZRt,ZGX,if_neg h];rfl
theorem ZSI{l:List Tx}{k:Tx}(h:k∈l):Yb (snM l) [X.str k] [D.x (X.int .i64 ((l.count k:Int)+1))]=snM (l++ [k]):=by
 rw[ZNu];unfold snM;rw[ZMb];unfold snS snG;rw[ZGX,if_pos h];rfl
theorem ZIr{l:List Tx}{k:Tx}(h:k∉l):Yb (snM l) [X.str k] [D.x (X.int .i64 1)]=snM (l++ [k]):=by
 rw[ZNu];unfold snM;rw[ZMb];unfold snS snG;rw[ZGX,if_neg h];rfl
theorem ZQ2(l:List Tx)(k:Tx):k∈l↔ ∃n,(k,n)∈snL l:=by
 have key: ∀(S:Sn) (k:Tx),(ZG S k).isSome=true↔ ∃n,(k,n)∈S:=by
  intro S k
  induction S with
  |nil=>simp[ZG]
  |cons p S ih=>
   by_cases h:k=p.1
   .subst h;simp[ZG];exact⟨p.2,.inl rfl⟩
   .have e:ZG (p::S) k=ZG S k:=by simp[ZG,h]
    rw[e,ih];constructor
    .rintro⟨n,hn⟩;exact⟨n,ξZ _ hn⟩
    .rintro⟨n,hn⟩;rcases KB.1 hn with hh|hh
     .exact absurd (congrArg Prod.fst hh) h
     .exact⟨n,hh⟩
 rw[<-key,ZGX];split<;>simp_all
def ZEP(l:List ZY):List Tx:=l.map λa=>ZJ a.1
def ZH9(l:List ZY):List Tx:=l.foldl (λc a=>if ZJ a.1=OC then a.2.1 else c) []
def ZHu(M:List (Tx×Zy))(cs:List Tx):List Tx:=cs.flatMap λn=>(clV M (ZJ n)).2.1++(clV M (ZJ n)).2.2.1
def ZKQ(M:List (Tx×Zy))(H:List Tx)(n:Tx):Bool:=(ZG M (ZJ n)).isSome&&(clV M (ZJ n)).2.1.all λx=>decide (x∈H)
def ZKO(L:List (Tx×Zl))(M:List (Tx×Zy))(l:List ZY):Int:=
 if ZLm L l≠0 then ZLm L l
 else if((ZH9 l).all (ZKQ M (ZEP l))&&((ZEP l).all (λh=>decide (h∈OC::ZHu M (ZH9 l)))&&decide (ZH9 l≠ [])))=true then 0 else 65
theorem ZWi(l:List ZY)(i:Nat)(h:i<l.length):ZEP (l.take (i+1))=ZEP (l.take i)++ [ZJ (l.getD i ([],[],())).1]:=by
 unfold ZEP;rw[Jk h,Jt];simp[h]
theorem ZZR(l:List ZY)(i:Nat)(h:i<l.length):ZH9 (l.take (i+1))=if ZJ (l.getD i ([],[],())).1=OC then(l.getD i ([],[],())).2.1 else ZH9 (l.take i):=by
 unfold ZH9;rw[Jk h,ZRw];simp[h]
theorem ZfN{l:List ZY}(h:smA l)(hv: ∀a∈l,∀v∈a.2.1,v.length<=1000000):(ZH9 l).length<=1000000/\ ∀v∈ZH9 l,v.length<=1000000:=by
 have key: ∀(m:List ZY) (c:List Tx),(∀a∈m,a∈l)->(c.length<=1000000/\ ∀v∈c,v.length<=1000000)->(m.foldl (λc a=>if ZJ a.1=OC then a.2.1 else c) c).length<=1000000/\ ∀v∈m.foldl (λc a=>if ZJ a.1=OC then a.2.1 else c) c,v.length<=1000000:=by
  intro m
  induction m with
  |nil=>intro c _ hc;exact hc
  |cons a m ih=>
   intro c hm hc;rw[ZOX];refine ih _ (λx hx=>hm x (ξZ _ hx)) ?_;split
   .exact⟨(h.2 a (hm a ZDB)).2,hv a (hm a ZDB)⟩
   .exact hc
 exact key l [] (λ_ h=>h) J1
def bdC(M:List (Tx×Zy)):Prop:= ∀k,(clV M k).2.1.length<=1000000/\(clV M k).2.2.1.length<=1000000
theorem ZXf(M:List (Tx×Zy))(cs:List Tx)(i:Nat)(h:i<cs.length):ZHu M (cs.take (i+1))=ZHu M (cs.take i)++((clV M (ZJ (cs.getD i []))).2.1++(clV M (ZJ (cs.getD i []))).2.2.1):=by
 unfold ZHu;rw[Jk h,Zcu];simp[h]
theorem ZTA{M:List (Tx×Zy)}(hM:bdC M): ∀cs:List Tx,(ZHu M cs).length<=cs.length*2000000
 | []=>by simp[ZHu]
 |n::cs=>by
  have:=ZTA hM cs;have:=hM (ZJ n);unfold ZHu at*;rw[ZO4,Zf,Zf,JD];omega
def ZEE:Tabs:=ZT (ZT (Jz (Jz (ZO) 118 ZGD) 119 ZIP) 63 YC) 120 QW
theorem ZWu:SsOk Tryz.prog ZEE:=ZH (ZH (JE (JE (ZF) (ZW 118) ZWG) (ZW 119) ZYk) (ZW 63) ZAu) (ZW 120) ZMU
theorem ZbC:(∀a,ZEE.q 118 a=none)/\(∀a o,ZEE.t 118 a o=Yx ZGD a o)/\(∀a,ZEE.q 119 a=none)/\(∀a o,ZEE.t 119 a o=Yx ZIP a o)/\(∀a,ZEE.q 63 a=YC a)/\(∀a,ZEE.q 120 a=QW a)/\(∀f a o,ZEE.r f a o=none)/\(∀f a o,ZEE.k f a o=none):=⟨λ_=>rfl,λ_ _=>rfl,λ_=>rfl,λ_ _=>rfl,λ_=>rfl,λ_=>rfl,λ_ _ _=>rfl,λ_ _ _=>rfl⟩
theorem ZVD{α:Type}{l:List α}{i:Nat}{q:α}(h:l[i]? =some q): ∀x,x∈l↔x=q\/x∈l.eraseIdx i:=by
 intro x;have hp:l.Perm (q::l.eraseIdx i):=by
  obtain⟨hi,he⟩:=ZV h;rw[List.eraseIdx_eq_take_drop_succ]
  conv=>lhs;rw[<-ZDl i l,ZFj hi,he]
  exact List.perm_middle
 rw[hp.mem_iff,KB]
abbrev scE(L:List (Tx×Zl))(M:List (Tx×Zy))(dn:Tx)(l:List ZY)(H:List Tx):J7:= [.box [.mref 1,.mref 2],.mpo .str true (JQ L),.mpo .str true (JL M),.box [.x (.str dn),.x (.sl (rows ZX l))],.mpo .str false (snM H)]
abbrev scF(L:List (Tx×Zl))(M:List (Tx×Zy))(dn:Tx)(l:List ZY)(H Y:List Tx):J7:= [.box [.mref 1,.mref 2],.mpo .str true (JQ L),.mpo .str true (JL M),.box [.x (.str dn),.x (.sl (rows ZX l))],.mpo .str false (snM H),.mpo .str false (snM Y)]
theorem ZLn(L:List (Tx×Zl))(M:List (Tx×Zy))(dn:Tx)(l:List ZY)(H:List Tx):(scE L M dn l H).all (Ob.inP (λi=>decide (i<(scE L M dn l H).length)))=true:=by
 simp[Ob.inP,Yo,D.inP,ZAT,ZAQ,Qp]
theorem Zdi(L:List (Tx×Zl))(M:List (Tx×Zy))(dn:Tx)(l:List ZY)(H Y:List Tx):(scF L M dn l H Y).all (Ob.inP (λi=>decide (i<(scF L M dn l H Y).length)))=true:=by
 simp[Ob.inP,Yo,D.inP,ZAT,ZAQ,Qp]
abbrev scG(L:List (Tx×Zl))(M:List (Tx×Zy))(dn:Tx)(l:List ZY)(H Y:List Tx)(c:Zy):J7:= [.box [.mref 1,.mref 2],.mpo .str true (JQ L),.mpo .str true (JL M),.box [.x (.str dn),.x (.sl (rows ZX l))],.mpo .str false (snM H),.mpo .str false (snM Y),.box [.x (.str c.1),.x (.sl (rows ZB c.2.1)),.x (.sl (rows ZB c.2.2.1))]]
set_option maxHeartbeats 4000000 in
theorem ZfP(L:List (Tx×Zl))(M:List (Tx×Zy))(e:Kq)(he:smA e.2.1)(hv: ∀a∈e.2.1,∀v∈a.2.1,v.length<=1000000)(hM:bdC M):ZN Tryz.prog 78 [.ptr 0 0,ZK2 e] (scO L M) (.x (.int .i64 (ZKO L M e.2.1))) (scO L M):=by
 obtain⟨dn,l,u⟩:=e;simp only at he hv|-;have hsm:=ZL he;have hll:l.length<=1000000:=he.1;have hO:=ZBu L M;have h1':=ZFz L;have h2':=ZFy M;obtain⟨hcl,hcv⟩:=ZfN he hv;have hoc:(OC:Tx)= [111,98,106,101,99,116,99,108,97,115,115]:=rfl;have hns:Yb [] [X.str [111,98,106,101,99,116,99,108,97,115,115]] [D.x (X.int .i64 1)]=snM [OC]:=by rfl
 rcases hres:ZKO L M l with v
 unfold ZKO at hres;unfold ZK2;refine ZI.mcallsX (fC 78 true ?_) (by first|decide|(simp;done)) hO (by first|rfl|exact hR);intro C0 E0;have uu:=KT @ZGD.eq_1 @ZGD.eq_2 @ZIP.eq_1 @ZIP.eq_2 @YC.eq_1 @YC.eq_2 @QW.eq_1 @QW.eq_2 (KT @h1' @h2' @Zcx hsm hns @ZCq @ZCX @ZDQ (ξ7 @ZDV @ZAT @ZAQ @ZAM @ZCe @Qp @ZbC));have tT:=ZWu;refine nz ?_;refine rg tT [0,3] ?_;refine rg tT [0,3,22] ?_;refine ce (λh0=> ?_) (λh0=> ?_)
 .simp at h0
 .refine rg tT [0,3,5] ?_;refine rg tT [0,3,5,27] ?_;refine cd (λh1=> ?_) (λh1=> ?_)
  .rw[if_pos (by simpa using h1)]at hres;refine rg tT [4] ?_;refine lf ?_;exact⟨by rw[hres],_,rfl⟩
  .rw[if_neg (by simpa using h1)]at hres;refine rg tT [0,3,6] ?_;refine rg tT [0,3,6,7] ?_;refine rg tT [0,6,7,31,32,33] ?_;refine WI.nnA ?_;refine WI.orderA [0,6,7,31,32,33] ?_;refine WI.loop (λφ os=> ∃(i:Nat),φ= [(0,.ptr 0 0),(6,.mref 4),(7,.x (.sl (rows ZB (ZH9 (l.take i))))),(31,.x (.sl (rows ZX l))),(32,.x (.int .i64 l.length)),(33,.x (.int .i64 i))]/\os=scE L M dn l (ZEP (l.take i))/\i<=l.length) (ZK l.length 33) ?_ (λφ os hI=> ?_)
   .exact⟨0,rfl,rfl,J0⟩
   .obtain⟨i,rfl,rfl,hi⟩:=hI;refine nz ?_;refine rg tT [0,6,7,31,32,33,34] ?_;refine cd (λh2=> ?_) (λh2=> ?_)
    .have hi4:i<l.length:=by omega
     have hrw:=ZRl l i hi4;have hnt:=ZWi l i hi4;have hct:=ZZR l i hi4;have hma:l.getD i ([],[],())∈l:=by rw[show l.getD i ([],[],())=l[i] by simp[hi4]];exact YZ hi4
     generalize l.getD i ([],[],())=a at hrw hnt hct hma;have hna:=(he.2 a hma).1;have hcn:(ZEP (l.take i)).count (ZJ a.1)<=1000000:=ZKz ZaP (by unfold ZEP;rw[YX,JA];have:=he.1;omega);have uu:=Ya uu hrw;refine rg tT [0,6,7,9,31,32,33] ?_;refine rg tT [0,6,7,9,10,31,32,33] ?_;by_cases hk:ZJ a.1∈ZEP (l.take i)
     .have hg1:=ZEu hk;have hg2:=ZSI hk;have uu:=JX uu hg1 hg2;refine rg tT [0,6,7,9,10,31,32,33] ?_;refine rg tT [0,6,7,9,31,32,33,45] ?_;refine cd (λh3=> ?_) (λh3=> ?_)
      .rw[if_pos (by rw[hoc];simpa using h3)]at hct;refine rg tT [0,6,7,31,32,33] ?_;refine WI.orderA [0,6,7,31,32,33] ?_;refine WI.dropT (scE L M dn l (ZEP (l.take i)++ [ZJ a.1])) _ rfl J1 (ZLn L M dn l _) (by simp[D.inP,Yo]) ?_;refine rg tT [0,6,7,31,32,33] ?_;exact⟨⟨i+1,by rw[hct];first|done|rfl,by rw[hnt],J0⟩,by simp[ZK,Ab.get,D.val,ZD];omega⟩
      .rw[if_neg (λe=>h3 (e.trans hoc))]at hct;refine WI.orderA [0,6,7,31,32,33] ?_;refine WI.dropT (scE L M dn l (ZEP (l.take i)++ [ZJ a.1])) _ rfl J1 (ZLn L M dn l _) (by simp[D.inP,Yo]) ?_;refine rg tT [0,6,7,31,32,33] ?_;exact⟨⟨i+1,by rw[hct];first|done|rfl,by rw[hnt],J0⟩,by simp[ZK,Ab.get,D.val,ZD];omega⟩
     .have hg1:=ZGV hk;have hg2:=ZIr hk;have uu:=JX uu hg1 hg2;refine rg tT [0,6,7,9,10,31,32,33] ?_;refine rg tT [0,6,7,9,31,32,33,45] ?_;refine cd (λh3=> ?_) (λh3=> ?_)
      .rw[if_pos (by rw[hoc];simpa using h3)]at hct;refine rg tT [0,6,7,31,32,33] ?_;refine WI.orderA [0,6,7,31,32,33] ?_;refine WI.dropT (scE L M dn l (ZEP (l.take i)++ [ZJ a.1])) _ rfl J1 (ZLn L M dn l _) (by simp[D.inP,Yo]) ?_;refine rg tT [0,6,7,31,32,33] ?_;exact⟨⟨i+1,by rw[hct];first|done|rfl,by rw[hnt],J0⟩,by simp[ZK,Ab.get,D.val,ZD];omega⟩
      .rw[if_neg (λe=>h3 (e.trans hoc))]at hct;refine WI.orderA [0,6,7,31,32,33] ?_;refine WI.dropT (scE L M dn l (ZEP (l.take i)++ [ZJ a.1])) _ rfl J1 (ZLn L M dn l _) (by simp[D.inP,Yo]) ?_;refine rg tT [0,6,7,31,32,33] ?_;exact⟨⟨i+1,by rw[hct];first|done|rfl,by rw[hnt],J0⟩,by simp[ZK,Ab.get,D.val,ZD];omega⟩
    .obtain rfl:i=l.length:=by omega
     rw[Jm];refine WI.orderA [0,6,7] ?_;generalize ZEP l=H at hres|-;generalize ZH9 l=cs at hres hcl hcv|-;refine rg tT [0,6,7,11] ?_;refine rg tT [0,6,7,11,51,52,53] ?_;refine WI.orderA [0,6,7,11,51,52,53] ?_;refine WI.loop (λφ os=> ∃(i:Nat),φ= [(0,.ptr 0 0),(6,.mref 4),(7,.x (.sl (rows ZB cs))),(11,.mref 5),(51,.x (.sl (rows ZB cs))),(52,.x (.int .i64 cs.length)),(53,.x (.int .i64 i))]/\os=scF L M dn l H (OC::ZHu M (cs.take i))/\i<=cs.length/\(cs.take i).all (ZKQ M H)=true) (ZK cs.length 53) ?_ (λφ os hI=> ?_)
     .exact⟨0,rfl,rfl,J0,rfl⟩
     .obtain⟨i,rfl,rfl,hi,hall⟩:=hI;refine nz ?_;refine rg tT [0,6,7,11,51,52,53,54] ?_;refine cd (λh4=> ?_) (λh4=> ?_)
      .have hi4:i<cs.length:=by omega
       have hrw:=ZAi cs i hi4;have hmt:=ZXf M cs i hi4;have hnl:(cs.getD i []).length<=1000000:=by rw[show cs.getD i []=cs[i] by simp[hi4]];exact hcv _ (YZ hi4)
       have hal:=JV (ZKQ M H) cs i hi4;have hgi:cs[i]=cs.getD i []:=by simp[hi4]
       have hno:ZKQ M H (cs.getD i [])=false->cs.all (ZKQ M H)=false:=λh=>YB (ZKQ M H) cs i hi4 (by rw[hgi];exact h)
       rw[hgi]at hal;have hYl:=ZTA hM (cs.take i);rw[JA]at hYl;generalize ZHu M (cs.take i)=Y0 at hmt hYl|-;generalize cs.getD i []=n at hrw hmt hnl hal hno;have hb:=hM (ZJ n);have hcd:ZKQ M H n=((ZG M (ZJ n)).isSome&&(clV M (ZJ n)).2.1.all λx=>decide (x∈H)):=rfl;obtain⟨c,hc⟩: ∃c,c=clV M (ZJ n):=⟨_,rfl⟩;rw[<-hc]at hmt hb hcd;have hd47:decide (n.length<=140737488355328)=true:=ZL J0;have uu:=ξ5 uu hrw hc.symm (@clD.eq_1) hd47;refine rg tT [0,6,7,11,13,51,52,53] ?_;refine rg tT [0,6,7,11,14,15,51,52,53] ?_;refine rg tT [0,6,7,11,14,51,52,53,64] ?_;refine cd (λh5=> ?_) (λh5=> ?_)
       .have hno2:=hno (by rw[hcd];clear uu;grind);rw[hno2,ZH4,if_neg (by decide)]at hres;refine rg tT [4] ?_;refine lf ?_;exact⟨by rw[hres],_,rfl⟩
       .have hso:(ZG M (ZJ n)).isSome=true:=by clear uu;grind
        rw[hso,ZCB]at hcd;refine rg tT [0,6,7,11,14,51,52,53,66,67,68] ?_;refine WI.orderA [0,6,7,11,14,51,52,53,66,67,68] ?_;refine WI.loop (λφ os=> ∃(k:Nat),φ= [(0,.ptr 0 0),(6,.mref 4),(7,.x (.sl (rows ZB cs))),(11,.mref 5),(14,.ptr 6 0),(51,.x (.sl (rows ZB cs))),(52,.x (.int .i64 cs.length)),(53,.x (.int .i64 i)),(66,.x (.sl (rows ZB c.2.1))),(67,.x (.int .i64 c.2.1.length)),(68,.x (.int .i64 k))]/\os=scG L M dn l H (OC::(Y0++c.2.1.take k)) c/\k<=c.2.1.length/\(c.2.1.take k).all (λx=>decide (x∈H))=true) (ZK c.2.1.length 68) ?_ (λφ os hI=> ?_)
        .exact⟨0,rfl,by rw[ZB4,Ku],J0,rfl⟩
        .obtain⟨k,rfl,rfl,hk,hka⟩:=hI;refine nz ?_;refine rg tT [0,6,7,11,14,51,52,53,66,67,68,69] ?_;refine cd (λh6=> ?_) (λh6=> ?_)
         .have hk4:k<c.2.1.length:=by omega
          have hrk:=ZAi c.2.1 k hk4;have hgk:c.2.1[k]=c.2.1.getD k []:=by simp[hk4]
          have htk:OC::(Y0++c.2.1.take (k+1))=(OC::(Y0++c.2.1.take k))++ [c.2.1.getD k []]:=by rw[Jk hk4,hgk];simp
          have hak:=JV (λx=>decide (x∈H)) c.2.1 k hk4;have hnk:c.2.1.getD k []∉H->c.2.1.all (λx=>decide (x∈H))=false:=λh=>YB (λx=>decide (x∈H)) c.2.1 k hk4 (by rw[hgk];exact decide_eq_false h)
          rw[hgk]at hak;have hYk:(OC::(Y0++c.2.1.take k)).length<=4000000000000:=by rw[JD,Zf,JA];omega
          generalize c.2.1.getD k []=x at hrk htk hak hnk;generalize OC::(Y0++c.2.1.take k)=Y at htk hYk;have hcy:=ZKz (ZaP (a:=x) (l:=Y)) hYk;have uu:=Ya uu hrk;refine rg tT [0,6,7,11,14,17,51,52,53,66,67,68] ?_;by_cases hxH:x∈H
          .have hg1:=ZEu hxH;have hcp:0<H.count x:=ZVP.2 hxH;have uu:=Ya uu hg1;refine rg tT [0,6,7,11,14,17,51,52,53,66,67,68,75] ?_;refine ce (λh7=> ?_) (λh7=> ?_)
           .have:((H.count x:Nat):Int)=0:=by simpa using h7
            omega
           .have hka2:(c.2.1.take (k+1)).all (λx=>decide (x∈H))=true:=by rw[hak,hka,ZL hxH];rfl
            by_cases hxY:x∈Y
            .have hg2:=ZEu hxY;have hg3:=ZSI hxY;have uu:=JX uu hg2 hg3;refine rg tT [0,6,7,11,14,51,52,53,66,67,68] ?_;refine rg tT [0,6,7,11,14,51,52,53,66,67,68] ?_;exact⟨⟨k+1,rfl,by rw[htk],J0,hka2⟩,by simp[ZK,Ab.get,D.val,ZD];omega⟩
            .have hg2:=ZGV hxY;have hg3:=ZIr hxY;have uu:=JX uu hg2 hg3;refine rg tT [0,6,7,11,14,51,52,53,66,67,68] ?_;refine rg tT [0,6,7,11,14,51,52,53,66,67,68] ?_;exact⟨⟨k+1,rfl,by rw[htk],J0,hka2⟩,by simp[ZK,Ab.get,D.val,ZD];omega⟩
          .have hg1:=ZGV hxH;have uu:=Ya uu hg1;refine rg tT [0,6,7,11,14,17,51,52,53,66,67,68,75] ?_;refine ct (λh7=> ?_) (λh7=> ?_)
           .refine rg tT [4] ?_;refine lf ?_;rw[hno (by rw[hcd];exact hnk hxH),ZH4,if_neg (by decide)]at hres;exact⟨by rw[hres],_,rfl⟩
           .simp at h7
         .obtain rfl:k=c.2.1.length:=by omega
          rw[Jm]at hka;rw[Jm];rw[hka]at hcd;have hall2:(cs.take (i+1)).all (ZKQ M H)=true:=by rw[hal,hall,hcd];rfl
          refine rg tT [0,6,7,11,51,52,53,82,83,84] ?_;refine WI.orderA [0,6,7,11,51,52,53,82,83,84] ?_;refine WI.loop (λφ os=> ∃(k:Nat),φ= [(0,.ptr 0 0),(6,.mref 4),(7,.x (.sl (rows ZB cs))),(11,.mref 5),(51,.x (.sl (rows ZB cs))),(52,.x (.int .i64 cs.length)),(53,.x (.int .i64 i)),(82,.x (.sl (rows ZB c.2.2.1))),(83,.x (.int .i64 c.2.2.1.length)),(84,.x (.int .i64 k))]/\os=scG L M dn l H (OC::(Y0++(c.2.1++c.2.2.1.take k))) c/\k<=c.2.2.1.length) (ZK c.2.2.1.length 84) ?_ (λφ os hI=> ?_)
          .exact⟨0,rfl,by rw[ZB4,Ku],J0⟩
          .obtain⟨k,rfl,rfl,hk⟩:=hI;refine nz ?_;refine rg tT [0,6,7,11,51,52,53,82,83,84,85] ?_;refine cd (λh8=> ?_) (λh8=> ?_)
           .have hk4:k<c.2.2.1.length:=by omega
            have hrk:=ZAi c.2.2.1 k hk4;have hgk:c.2.2.1[k]=c.2.2.1.getD k []:=by simp[hk4]
            have htk:OC::(Y0++(c.2.1++c.2.2.1.take (k+1)))=(OC::(Y0++(c.2.1++c.2.2.1.take k)))++ [c.2.2.1.getD k []]:=by rw[Jk hk4,hgk];simp
            have hYk:(OC::(Y0++(c.2.1++c.2.2.1.take k))).length<=4000000000000:=by rw[JD,Zf,Zf,JA];omega
            generalize c.2.2.1.getD k []=x at hrk htk;generalize OC::(Y0++(c.2.1++c.2.2.1.take k))=Y at htk hYk;have hcy:=ZKz (ZaP (a:=x) (l:=Y)) hYk;have uu:=Ya uu hrk;refine rg tT [0,6,7,11,19,51,52,53,82,83,84] ?_;by_cases hxY:x∈Y
            .have hg2:=ZEu hxY;have hg3:=ZSI hxY;have uu:=JX uu hg2 hg3;refine rg tT [0,6,7,11,51,52,53,82,83,84] ?_;refine rg tT [0,6,7,11,51,52,53,82,83,84] ?_;exact⟨⟨k+1,rfl,by rw[htk],J0⟩,by simp[ZK,Ab.get,D.val,ZD];omega⟩
            .have hg2:=ZGV hxY;have hg3:=ZIr hxY;have uu:=JX uu hg2 hg3;refine rg tT [0,6,7,11,51,52,53,82,83,84] ?_;refine rg tT [0,6,7,11,51,52,53,82,83,84] ?_;exact⟨⟨k+1,rfl,by rw[htk],J0⟩,by simp[ZK,Ab.get,D.val,ZD];omega⟩
           .obtain rfl:k=c.2.2.1.length:=by omega
            rw[Jm];refine WI.dropT (scF L M dn l H (OC::(Y0++(c.2.1++c.2.2.1)))) _ rfl J1 (Zdi L M dn l _ _) (by simp[D.inP,Yo]) ?_;refine WI.orderA [0,6,7,11,51,52,53] ?_;refine rg tT [0,6,7,11,51,52,53] ?_;exact⟨⟨i+1,rfl,by rw[hmt],J0,hall2⟩,by simp[ZK,Ab.get,D.val,ZD];omega⟩
      .obtain rfl:i=cs.length:=by omega
       rw[Jm]at hall|-;refine WI.orderA [6,7,11] ?_;rw[hall,ZCB]at hres;generalize OC::ZHu M cs=Y at hres|-;refine rg tT [7,11,95] ?_;refine WI.orderA [7,11,95] ?_;refine WI.loop (λφ os=> ∃(R:Sn) (cur:Option Pr),φ= [(7,.x (.sl (rows ZB cs))),(11,.mref 5),(95,.iref 4 6)]/\os= [.box [.mref 1,.mref 2],.mpo .str true (JQ L),.mpo .str true (JL M),.box [.x (.str dn),.x (.sl (rows ZX l))],.mit .str false (snM H) 6 (Yg KU kcI R) cur,.mpo .str false (snM Y),.itr]/\(∀p∈R,p.1∈H)/\(∀h∈H,h∈Y\/ ∃n,(h,n)∈R)) (ZPN 4) ?_ (λφ os hI=> ?_)
       .exact⟨snL H,none,rfl,rfl,λp hp=>(ZQ2 H p.1).2 ⟨p.2,hp⟩,λh hh=> .inr ((ZQ2 H h).1 hh)⟩
       .obtain⟨R,cur,rfl,rfl,hR1,hR2⟩:=hI;refine nz ?_;refine WI.nextMA [7,11,95,97] (λhn37=> ?_) (λi37 q37 hn37=> ?_)
        .simp only[Yg,Zbz]at hn37;subst hn37;have hHY:H.all (λh=>decide (h∈Y))=true:=Yd.2 λh hh=>ZL (by rcases hR2 h hh with h1|⟨n,h1⟩;exact h1;cases h1)
         rw[hHY,ZCB]at hres;refine nz ?_;refine ce (λh9=> ?_) (λh9=> ?_)
         .exact absurd h9 (by decide)
         .refine rg tT [4] ?_;refine lf ?_;refine⟨?_,_,rfl⟩;rw[<-hres];clear uu;rcases cs with _|⟨x,cs⟩<;>simp;omega
        .rw[Zev]at hn37;obtain⟨p,hp,rfl⟩:=Zc hn37;have hi37:=(ZV hp).1;have hpH:=hR1 p (Yl hp);refine nz ?_;refine ct (λh9=> ?_) (λh9=> ?_)
         .refine rg tT [7,11,20,95] ?_;by_cases hpY:p.1∈Y
          .have hg1:=ZEu hpY;have hcp:0<Y.count p.1:=ZVP.2 hpY;have uu:=Ya uu hg1;refine rg tT [7,11,95,103] ?_;refine ce (λh10=> ?_) (λh10=> ?_) (kB:=λh=>h.h)
           .have:((Y.count p.1:Nat):Int)=0:=by simpa using h10
            omega
           .have hR3: ∀h∈H,h∈Y\/ ∃n,(h,n)∈R.eraseIdx i37:=λh hh=>by
             rcases hR2 h hh with h1|⟨n,h1⟩
             .exact .inl h1
             .rcases(ZVD hp (h,n)).1 h1 with h2|h2
              .exact .inl (by rw[show h=p.1 from congrArg Prod.fst h2];exact hpY)
              .exact .inr ⟨n,h2⟩
            refine WI.orderA [7,11,95] ?_;refine nz ?_;exact⟨⟨R.eraseIdx i37,_,rfl,rfl,λq hq=>hR1 q (List.mem_of_mem_eraseIdx hq),hR3⟩,by simp only[ZPN,ZCk,ZCs,ZJV,ZJD];rw[ZV4,if_pos hi37];omega⟩
          .have hg1:=ZGV hpY;have uu:=Ya uu hg1;refine rg tT [7,11,95,103] ?_;refine ct (λh10=> ?_) (λh10=> ?_)
           .refine rg tT [4] ?_;refine lf ?_;rw[show H.all (λh=>decide (h∈Y))=false from by rw[List.all_eq_false];exact⟨p.1,hpH,by simpa using hpY⟩,ZH4,if_neg (by decide)]at hres;exact⟨by rw[hres],_,rfl⟩
           .simp at h10
         .exact absurd h9 (by decide)
theorem ZKg(l:List Tx)(x:Tx):rows ZB (l++ [x])=rows ZB l++ [[X.str x]]:=by simp[rows,ZB]
theorem ZSw(l:List Zl)(j:Nat)(h:j<l.length):(rows JF l)[j]? =some [X.str (l.getD j ([],0,false,())).1,X.int .i64 (l.getD j ([],0,false,())).2.1,X.bool (l.getD j ([],0,false,())).2.2.1]:=by
 simp[rows,h,JF,JT,ZB,ZBZ,ZNv,ZAg]
theorem ZW1(l:List Zy)(j:Nat)(h:j<l.length):(rows Qa l)[j]? =some [X.str (l.getD j ([],[],[],())).1,X.sl (rows ZB (l.getD j ([],[],[],())).2.1),X.sl (rows ZB (l.getD j ([],[],[],())).2.2.1)]:=by
 simp[rows,h,Qa,JT,ZB,rSl,ZAg]
theorem Zg6(n:Tx)(k:Int)(b:Bool):ZC Tryz.prog 108 [.agg [.x (.str n),.x (.int .i64 k),.x (.bool b)]] (.x (.str n)):=by
 refine ZI.pure (fC 108 true ?_) rfl;intro C0 E0;have uu:=trivial;have tT:=(ZF:SsOk Tryz.prog ZO);refine nz ?_;refine rg tT [1] ?_;refine rg tT [2] ?_;refine lf ?_
 first|rfl|exact⟨rfl,rfl⟩|trivial
theorem Zfr(n:Tx)(R R':J6):ZC Tryz.prog 111 [.agg [.x (.str n),.x (.sl R),.x (.sl R')]] (.x (.str n)):=by
 refine ZI.pure (fC 111 true ?_) rfl;intro C0 E0;have uu:=trivial;have tT:=(ZF:SsOk Tryz.prog ZO);refine nz ?_;refine rg tT [1] ?_;refine rg tT [2] ?_;refine lf ?_
 first|rfl|exact⟨rfl,rfl⟩|trivial
theorem Zgq:ZC Tryz.prog 112 [] (.x (.int .i64 0)):=by
 refine ZI.pure (fC 112 true ?_) rfl;intro C0 E0;have uu:=trivial;have tT:=(ZF:SsOk Tryz.prog ZO);refine nz ?_;refine rg tT [] ?_;refine rg tT [0] ?_;refine lf ?_
 first|rfl|exact⟨rfl,rfl⟩|trivial
def ZFD:J8->J5
 | [.agg [.x (.str n),.x (.int .i64 k),.x (.bool b)]]=>some (true,.x (.str n))
 |_=>none
theorem Zai: ∀args r,ZFD args=some (true,r)->ZC Tryz.prog 108 args r:=by
 intro args r h;unfold ZFD at h;split at h
 .rename_i n k b;simp only[Ze,ZZ,ZS,Zd,true_and]at h;obtain rfl:=h;exact(Zg6 n k b)
 .cases h
def ZE5:J8->J5
 | [.agg [.x (.str n),.x (.sl R),.x (.sl T)]]=>some (true,.x (.str n))
 |_=>none
theorem Zba: ∀args r,ZE5 args=some (true,r)->ZC Tryz.prog 111 args r:=by
 intro args r h;unfold ZE5 at h;split at h
 .rename_i n R T;simp only[Ze,ZZ,ZS,Zd,true_and]at h;obtain rfl:=h;exact(Zfr n R T)
 .cases h
def ZGS:Tabs:=ZT (ZT (ZT (ZO) 63 YC) 108 ZFD) 111 ZE5
theorem ZI1:SsOk Tryz.prog ZGS:=ZH (ZH (ZH (ZF) (ZW 63) ZAu) (ZW 108) Zai) (ZW 111) Zba
theorem ZLO:(∀a,ZGS.q 63 a=YC a)/\(∀a,ZGS.q 108 a=ZFD a)/\(∀a,ZGS.q 111 a=ZE5 a)/\(∀f a o,ZGS.r f a o=none)/\(∀f a o,ZGS.k f a o=none):=⟨λ_=>rfl,λ_=>rfl,λ_=>rfl,λ_ _ _=>rfl,λ_ _ _=>rfl⟩
theorem ZfT(l:List Tx)(hl:l.length<=100000)(hn: ∀x∈l,x.length<=140737488355328):ZC Tryz.prog 72 [.x (.sl (rows ZB l)),.fn 63 []] (.x (.sl (rows ZB (l.map ZJ)))):=by
 refine ZI.pure (fC 72 true ?_) rfl;intro C0 E0;have uu:=ξ7 @YC.eq_1 @YC.eq_2 @ZLO @ZFD.eq_1 @ZFD.eq_2 @ZE5.eq_1 @ZE5.eq_2;have tT:=ZI1;refine nz ?_;refine rg tT [0,1] ?_;refine rg tT [0,1,5] ?_;refine rg tT [1,5,8,9,10] ?_;refine WI.ownA 5 9 1 ?_;refine WI.loop (λφ os=> ∃(j:Nat),φ= [(1,.fn 63 []),(5,.ref 0 ((l.take j).map ZJ).length 0 ((l.take j).map ZJ).length),(8,.x (.sl (rows ZB l))),(9,.x (.int .i64 l.length)),(10,.x (.int .i64 j))]/\os= [.rows false 9 1 (rows ZB ((l.take j).map ZJ))]/\j<=l.length) (ZK l.length 10) ?_ (λφ os hI=> ?_)
 .exact⟨0,rfl,rfl,J0⟩
 .obtain⟨j,rfl,rfl,hj⟩:=hI;refine nz ?_;refine rg tT [1,5,8,9,10,11] ?_;refine cd (λh0=> ?_) (λh0=> ?_)
  .have hj4:j<l.length:=by omega
   have hrw:=ZAi l j hj4;have htk:(l.take (j+1)).map ZJ=(l.take j).map ZJ++ [ZJ (l.getD j [])]:=by rw[Jk hj4,Jt];simp[hj4]
   have hd:=ZL (hn (l.getD j []) (by rw[show l.getD j []=l[j] by simp[hj4]];exact YZ hj4));have hlen:((l.take j).map ZJ).length=j:=by rw[YX,JA];omega
   have hlen2:((l.take j).map ZJ).length<=100000:=by rw[hlen];omega
   generalize l.getD j []=x at hrw htk hd;have uu:=JX uu hrw hd;refine rg tT [1,5,7,8,9,10] ?_;refine rg tT [1,5,8,9,10] ?_;refine WI.pickA [0] ?_;refine rg tT [1,5,8,9,10] ?_;exact⟨⟨j+1,by rw[htk,Zf];rfl,by rw[htk,ZKg],J0⟩,by simp[ZK,Ab.get,D.val,ZD];omega⟩
  .obtain rfl:j=l.length:=by omega
   rw[Jm];refine rg tT [4] ?_;refine WI.freezeA [0] ?_;refine WI.pickA [] ?_;refine lf ?_
   first|rfl|exact⟨rfl,rfl⟩|trivial
theorem Zeb(l:List Zl)(hl:l.length<=100000):ZC Tryz.prog 107 [.x (.sl (rows JF l)),.fn 108 []] (.x (.sl (rows ZB (l.map (·.1))))):=by
 refine ZI.pure (fC 107 true ?_) rfl;intro C0 E0;have uu:=ξ7 @ZFD.eq_1 @ZFD.eq_2 @ZLO @ZE5.eq_1 @ZE5.eq_2 @YC.eq_1 @YC.eq_2;have tT:=ZI1;refine nz ?_;refine rg tT [0,1] ?_;refine rg tT [0,1,5] ?_;refine rg tT [1,5,8,9,10] ?_;refine WI.ownA 5 9 1 ?_;refine WI.loop (λφ os=> ∃(j:Nat),φ= [(1,.fn 108 []),(5,.ref 0 ((l.take j).map (·.1)).length 0 ((l.take j).map (·.1)).length),(8,.x (.sl (rows JF l))),(9,.x (.int .i64 l.length)),(10,.x (.int .i64 j))]/\os= [.rows false 9 1 (rows ZB ((l.take j).map (·.1)))]/\j<=l.length) (ZK l.length 10) ?_ (λφ os hI=> ?_)
 .exact⟨0,rfl,rfl,J0⟩
 .obtain⟨j,rfl,rfl,hj⟩:=hI;refine nz ?_;refine rg tT [1,5,8,9,10,11] ?_;refine cd (λh0=> ?_) (λh0=> ?_)
  .have hj4:j<l.length:=by omega
   have hrw:=ZSw l j hj4;have htk:(l.take (j+1)).map (·.1)=(l.take j).map (·.1)++ [(l.getD j ([],0,false,())).1]:=by rw[Jk hj4,Jt];simp[hj4]
   have hlen:((l.take j).map (·.1)).length=j:=by rw[YX,JA];omega
   have hlen2:((l.take j).map (·.1)).length<=100000:=by rw[hlen];omega
   generalize l.getD j ([],0,false,())=x at hrw htk;have uu:=Ya uu hrw;refine rg tT [1,5,7,8,9,10] ?_;refine rg tT [1,5,8,9,10] ?_;refine WI.pickA [0] ?_;refine rg tT [1,5,8,9,10] ?_;exact⟨⟨j+1,by rw[htk,Zf];rfl,by rw[htk,ZKg],J0⟩,by simp[ZK,Ab.get,D.val,ZD];omega⟩
  .obtain rfl:j=l.length:=by omega
   rw[Jm];refine rg tT [4] ?_;refine WI.freezeA [0] ?_;refine WI.pickA [] ?_;refine lf ?_
   first|rfl|exact⟨rfl,rfl⟩|trivial
theorem ZeK(l:List Zy)(hl:l.length<=100000):ZC Tryz.prog 110 [.x (.sl (rows Qa l)),.fn 111 []] (.x (.sl (rows ZB (l.map (·.1))))):=by
 refine ZI.pure (fC 110 true ?_) rfl;intro C0 E0;have uu:=ξ7 @ZE5.eq_1 @ZE5.eq_2 @ZLO @ZFD.eq_1 @ZFD.eq_2 @YC.eq_1 @YC.eq_2;have tT:=ZI1;refine nz ?_;refine rg tT [0,1] ?_;refine rg tT [0,1,5] ?_;refine rg tT [1,5,8,9,10] ?_;refine WI.ownA 5 9 1 ?_;refine WI.loop (λφ os=> ∃(j:Nat),φ= [(1,.fn 111 []),(5,.ref 0 ((l.take j).map (·.1)).length 0 ((l.take j).map (·.1)).length),(8,.x (.sl (rows Qa l))),(9,.x (.int .i64 l.length)),(10,.x (.int .i64 j))]/\os= [.rows false 9 1 (rows ZB ((l.take j).map (·.1)))]/\j<=l.length) (ZK l.length 10) ?_ (λφ os hI=> ?_)
 .exact⟨0,rfl,rfl,J0⟩
 .obtain⟨j,rfl,rfl,hj⟩:=hI;refine nz ?_;refine rg tT [1,5,8,9,10,11] ?_;refine cd (λh0=> ?_) (λh0=> ?_)
  .have hj4:j<l.length:=by omega
   have hrw:=ZW1 l j hj4;have htk:(l.take (j+1)).map (·.1)=(l.take j).map (·.1)++ [(l.getD j ([],[],[],())).1]:=by rw[Jk hj4,Jt];simp[hj4]
   have hlen:((l.take j).map (·.1)).length=j:=by rw[YX,JA];omega
   have hlen2:((l.take j).map (·.1)).length<=100000:=by rw[hlen];omega
   generalize l.getD j ([],[],[],())=x at hrw htk;have uu:=Ya uu hrw;refine rg tT [1,5,7,8,9,10] ?_;refine rg tT [1,5,8,9,10] ?_;refine WI.pickA [0] ?_;refine rg tT [1,5,8,9,10] ?_;exact⟨⟨j+1,by rw[htk,Zf];rfl,by rw[htk,ZKg],J0⟩,by simp[ZK,Ab.get,D.val,ZD];omega⟩
  .obtain rfl:j=l.length:=by omega
   rw[Jm];refine rg tT [4] ?_;refine WI.freezeA [0] ?_;refine WI.pickA [] ?_;refine lf ?_
   first|rfl|exact⟨rfl,rfl⟩|trivial
def ZJQ(T:List Zl):Int:=if T.all (λt=>decide (1<=t.2.1/\t.2.1<=5))=true then 0 else 1
def Qt(l:List Tx)(b:Int):Int:=if l.all JJ=true then(if b≠0 then b else if decide (l.map ZJ).Nodup=true then 0 else 9)else 13
theorem Zgc(T:List Zl)(hT:T.length<=100000):ZN Tryz.prog 109 [.ptr 0 0] [.box [.x (.sl (rows JF T))]] (.x (.int .i64 (ZJQ T))) [.box [.x (.sl (rows JF T))]]:=by
 have hO: [Ob.box [.x (.sl (rows JF T))]].all (Ob.inP (λi=>decide (i< [Ob.box [.x (.sl (rows JF T))]].length)))=true:=rfl;refine ZI.mcallsX (fC 109 true ?_) (by first|decide|(simp;done)) hO (by first|rfl|exact hR);intro C0 E0;have uu:=trivial;have tT:=(ZF:SsOk Tryz.prog ZO);refine nz ?_;refine rg tT [0] ?_;refine rg tT [4,5,6] ?_;refine WI.orderA [4,5,6] ?_;refine WI.loop (λφ os=> ∃(j:Nat),φ= [(4,.x (.sl (rows JF T))),(5,.x (.int .i64 T.length)),(6,.x (.int .i64 j))]/\os= [.box [.x (.sl (rows JF T))]]/\j<=T.length/\(T.take j).all (λt=>decide (1<=t.2.1/\t.2.1<=5))=true) (ZK T.length 6) ?_ (λφ os hI=> ?_)
 .exact⟨0,rfl,rfl,J0,rfl⟩
 .obtain⟨j,rfl,rfl,hj,hall⟩:=hI;refine nz ?_;refine rg tT [4,5,6,7] ?_;refine cd (λh0=> ?_) (λh0=> ?_)
  .have hj4:j<T.length:=by omega
   have hrw:=ZSw T j hj4;have hgj:T[j]=T.getD j ([],0,false,()):=by simp[hj4]
   have hal:=JV (λt:Zl=>decide (1<=t.2.1/\t.2.1<=5)) T j hj4;have hno:decide (1<=(T.getD j ([],0,false,())).2.1/\(T.getD j ([],0,false,())).2.1<=5)=false->T.all (λt=>decide (1<=t.2.1/\t.2.1<=5))=false:=λh=>YB (λt:Zl=>decide (1<=t.2.1/\t.2.1<=5)) T j hj4 (by rw[hgj];exact h)
   rw[hgj]at hal;generalize T.getD j ([],0,false,())=x at hrw hal hno;have uu:=Ya uu hrw;refine rg tT [3,4,5,6] ?_;refine rg tT [4,5,6,17] ?_;refine cd (λh1=> ?_) (λh1=> ?_)
   .have hno2:=hno (decide_eq_false (by clear uu;grind));refine rg tT [1] ?_;refine lf ?_;exact⟨by unfold ZJQ;rw[hno2];rfl,_,rfl⟩
   .have hall2:(T.take (j+1)).all (λt=>decide (1<=t.2.1/\t.2.1<=5))=true:=by rw[hal,hall,ZL (show 1<=x.2.1/\x.2.1<=5 by clear uu;grind)];rfl
    refine WI.pickA [0] ?_;refine rg tT [4,5,6] ?_;exact⟨⟨j+1,rfl,rfl,J0,hall2⟩,by simp[ZK,Ab.get,D.val,ZD];omega⟩
  .refine rg tT [1] ?_;refine lf ?_;exact⟨by unfold ZJQ;rw[Yi J0]at hall;rw[hall];rfl,_,rfl⟩
def ZHL:J8->J7->Option (Bool×D×J7)
 | [.ptr 0 0],[.box [.x (.sl R)]]=>(Zb JF R).bind λT=>some (decide (T.length<=100000),.x (.int .i64 (ZJQ T)),[.box [.x (.sl (rows JF T))]])
 |_,_=>none
theorem ZcY: ∀args os r os',ZHL args os=some (true,r,os')->ZN Tryz.prog 109 args os r os':=by
 intro args os r os' h;unfold ZHL at h;split at h
 .rename_i R;obtain⟨T,hr0,h⟩:=Zv h;simp only[Ze,ZZ,ZS,Zd,true_and]at h;obtain⟨h1,rfl,rfl⟩:=h;rw[<-Za KL hr0];exact Zgc T h1
 .cases h
theorem ZWI(T:List Zl):Zb JF (rows JF T)=some T:=Zr KL T
def ZHY:J8->J5
 | []=>some (true,.x (.int .i64 0))
 |_=>none
theorem ZbU: ∀args r,ZHY args=some (true,r)->ZC Tryz.prog 112 args r:=by
 intro args r h;unfold ZHY at h;split at h
 .simp only[Ze,ZZ,ZS,Zd,true_and]at h;obtain rfl:=h;exact Zgq
 .cases h
def ZFY:Tabs:=Jz (ZT (ZT (ZT (ZO) 63 YC) 148 ZD1) 112 ZHY) 109 ZHL
theorem ZPs:SsOk Tryz.prog ZFY:=JE (ZH (ZH (ZH (ZF) (ZW 63) ZAu) (ZW 148) ZWH) (ZW 112) ZbU) (ZW 109) ZcY
theorem ZTJ:(∀a,ZFY.q 63 a=YC a)/\(∀a,ZFY.q 148 a=ZD1 a)/\(∀a,ZFY.q 112 a=ZHY a)/\(∀a,ZFY.q 109 a=none)/\(∀a o,ZFY.t 109 a o=Yx ZHL a o)/\(∀f a o,ZFY.r f a o=none)/\(∀f a o,ZFY.k f a o=none):=⟨λ_=>rfl,λ_=>rfl,λ_=>rfl,λ_=>rfl,λ_ _=>rfl,λ_ _ _=>rfl,λ_ _ _=>rfl⟩
theorem ZLi{l:List Tx}{j:Nat}(h:j<l.length):(l.take (j+1)).map ZJ=(l.take j).map ZJ++ [ZJ (l.getD j [])]:=by
 rw[Jk h,Jt];simp[h]
theorem ZYv{l:List Tx}{j:Nat}(h:j<l.length)(hin:ZJ (l.getD j [])∈(l.take j).map ZJ):decide (l.map ZJ).Nodup=false:=by
 refine decide_eq_false λhn=> ?_
 have e:l=l.take j++l.getD j []::l.drop (j+1):=by
  have:=ZDl j l;rw[ZFj h]at this;rw[show l.getD j []=l[j] by simp[h]];exact this.symm
 rw[e,Jt,YL]at hn;exact(ZGy.1 hn).2.2 _ hin _ ZDB rfl
theorem Za8(T:List Zl)(hT:T.length<=100000)(l:List Tx)(hl:l.length<=100000)(hn: ∀x∈l,x.length<=1000000):ZN Tryz.prog 106 [.x (.sl (rows ZB l)),.fn 109 [.ptr 0 0]] [.box [.x (.sl (rows JF T))]] (.x (.int .i64 (Qt l (ZJQ T)))) [.box [.x (.sl (rows JF T))]]:=by
 obtain⟨B,hB⟩: ∃B,B=ZJQ T:=⟨_,rfl⟩;rw[<-hB];have hno:l.all JJ=false->Qt l B=13:=λh=>by unfold Qt;rw[h];rfl
 have hbb:l.all JJ=true->B≠0->Qt l B=B:=λh h2=>by unfold Qt;rw[if_pos h,if_pos h2]
 have hdu:l.all JJ=true->B=0->decide (l.map ZJ).Nodup=false->Qt l B=9:=λh h2 h3=>by unfold Qt;rw[if_pos h,if_neg (by simp[h2]),h3];rfl
 have hok:l.all JJ=true->B=0->(l.map ZJ).Nodup->Qt l B=0:=λh h2 h3=>by unfold Qt;rw[if_pos h,if_neg (by simp[h2]),ZL h3];rfl
 have hO:=(rfl: [Ob.box [.x (.sl (rows JF T))]].all (Ob.inP (λi=>decide (i< [Ob.box [.x (.sl (rows JF T))]].length)))=true);refine ZI.mcallsX (fC 106 true ?_) (by first|decide|(simp;done)) hO (by first|rfl|exact hR);intro C0 E0;have uu:=KT @YC.eq_1 @YC.eq_2 @ZD1.eq_1 @ZD1.eq_2 @ZHL.eq_1 @ZHL.eq_2 @ZHY.eq_1 @ZHY.eq_2 (Ya @ZWI @ZTJ);have tT:=ZPs;refine nz ?_;refine rg tT [0,1] ?_;refine rg tT [0,1,11,12,13] ?_;refine WI.orderA [0,1,11,12,13] ?_;refine WI.loop (λφ os=> ∃(j:Nat),φ= [(0,.x (.sl (rows ZB l))),(1,.fn 109 [.ptr 0 0]),(11,.x (.sl (rows ZB l))),(12,.x (.int .i64 l.length)),(13,.x (.int .i64 j))]/\os= [.box [.x (.sl (rows JF T))]]/\j<=l.length/\(l.take j).all JJ=true) (ZK l.length 13) ?_ (λφ os hI=> ?_)
 .exact⟨0,rfl,rfl,J0,rfl⟩
 .obtain⟨j,rfl,rfl,hj,hall⟩:=hI;refine nz ?_;refine rg tT [0,1,11,12,13,14] ?_;refine cd (λh0=> ?_) (λh0=> ?_)
  .have hj4:j<l.length:=by omega
   have hrw:=ZAi l j hj4;have hgj:l[j]=l.getD j []:=by simp[hj4]
   have hal:=JV JJ l j hj4;have hnt:JJ (l.getD j [])=false->l.all JJ=false:=λh=>YB JJ l j hj4 (by rw[hgj];exact h)
   have hd:=ZL (hn l[j] (YZ hj4));rw[hgj]at hal hd;generalize l.getD j []=x at hrw hal hnt hd;have uu:=JX uu hrw hd;refine rg tT [0,1,6,11,12,13] ?_;refine rg tT [0,1,11,12,13,19] ?_;refine cd (λh1=> ?_) (λh1=> ?_)
   .have hxf:JJ x=false:=by clear uu;grind
    refine rg tT [4] ?_;refine lf ?_;exact⟨by rw[hno (hnt hxf)],_,rfl⟩
   .have hxt:JJ x=true:=by clear uu;grind
    have hall2:(l.take (j+1)).all JJ=true:=by rw[hal,hall,hxt];rfl
    refine rg tT [0,1,11,12,13] ?_;exact⟨⟨j+1,rfl,rfl,J0,hall2⟩,by simp[ZK,Ab.get,D.val,ZD];omega⟩
  .obtain rfl:j=l.length:=by omega
   rw[Jm]at hall;refine rg tT [0,7] ?_;refine rg tT [0,7,24] ?_;refine cd (λh2=> ?_) (λh2=> ?_)
   .have hB0: ¬B=0:=by clear uu;subst hB;grind
    refine rg tT [4] ?_;refine lf ?_;exact⟨by rw[hbb hall hB0,hB],_,rfl⟩
   .have hB0:B=0:=by clear uu;subst hB;grind
    refine rg tT [0,8] ?_;refine rg tT [8,27,28,29] ?_;refine WI.orderA [8,27,28,29] ?_;refine WI.loop (λφ os=> ∃(j:Nat),φ= [(8,.mref 1),(27,.x (.sl (rows ZB l))),(28,.x (.int .i64 l.length)),(29,.x (.int .i64 j))]/\os= [.box [.x (.sl (rows JF T))],.mpo .str false (snM ((l.take j).map ZJ))]/\j<=l.length/\((l.take j).map ZJ).Nodup) (ZK l.length 29) ?_ (λφ os hI=> ?_)
    .exact⟨0,rfl,rfl,J0,J1⟩
    .obtain⟨j,rfl,rfl,hj,hnd⟩:=hI;refine nz ?_;refine rg tT [8,27,28,29,30] ?_;refine cd (λh3=> ?_) (λh3=> ?_)
     .have hj4:j<l.length:=by omega
      have hrw:=ZAi l j hj4;have hd:=ZL (show(l.getD j []).length<=140737488355328 by rw[show l.getD j []=l[j] by simp[hj4]];have:=hn _ (YZ hj4);omega);have uu:=JX uu hrw hd;refine rg tT [8,10,27,28,29] ?_;by_cases hin:ZJ (l.getD j [])∈(l.take j).map ZJ
      .have hg1:=ZEu hin;have hcp:=ZVP.2 hin;have uu:=Ya uu hg1;refine rg tT [8,10,27,28,29,37] ?_;refine ct (λh4=> ?_) (λh4=> ?_)
       .refine rg tT [4] ?_;refine lf ?_;exact⟨by rw[hdu hall hB0 (ZYv hj4 hin)],_,rfl⟩
       .first|exact h4 (ZWY.2 hcp)|exact(of_decide_eq_false h4) (ZWY.2 hcp)|(simp at h4;exact absurd hcp J0)
      .have hg1:=ZGV hin;have hg2:=ZIr hin;have uu:=JX uu hg1 hg2;refine rg tT [8,10,27,28,29,37] ?_;refine ce (λh4=> ?_) (λh4=> ?_)
       .simp at h4
       .refine rg tT [8,27,28,29] ?_;have hnd2:((l.take (j+1)).map ZJ).Nodup:=by
         rw[ZLi hj4,ZGy];exact⟨hnd,J1,λa ha b hb=>by simp only[ZBK]at hb;subst hb;rintro rfl;exact hin ha⟩
        refine rg tT [8,27,28,29] ?_;exact⟨⟨j+1,rfl,by rw[ZLi hj4],J0,hnd2⟩,by simp[ZK,Ab.get,D.val,ZD];omega⟩
     .refine rg tT [4] ?_;refine lf ?_;exact⟨by rw[Yi J0]at hnd;rw[hok hall hB0 hnd],_,rfl⟩
theorem ZaZ(l:List Tx)(hl:l.length<=100000)(hn: ∀x∈l,x.length<=1000000):ZC Tryz.prog 106 [.x (.sl (rows ZB l)),.fn 112 []] (.x (.int .i64 (Qt l 0))):=by
 obtain⟨B,hB⟩: ∃B,B=(0:Int):=⟨_,rfl⟩;rw[<-hB];have hno:l.all JJ=false->Qt l B=13:=λh=>by unfold Qt;rw[h];rfl
 have hbb:l.all JJ=true->B≠0->Qt l B=B:=λh h2=>by unfold Qt;rw[if_pos h,if_pos h2]
 have hdu:l.all JJ=true->B=0->decide (l.map ZJ).Nodup=false->Qt l B=9:=λh h2 h3=>by unfold Qt;rw[if_pos h,if_neg (by simp[h2]),h3];rfl
 have hok:l.all JJ=true->B=0->(l.map ZJ).Nodup->Qt l B=0:=λh h2 h3=>by unfold Qt;rw[if_pos h,if_neg (by simp[h2]),ZL h3];rfl
 refine ZI.pure (fC 106 true ?_) rfl;intro C0 E0;have uu:=KT @YC.eq_1 @YC.eq_2 @ZD1.eq_1 @ZD1.eq_2 @ZHL.eq_1 @ZHL.eq_2 @ZHY.eq_1 @ZHY.eq_2 @ZTJ;have tT:=ZPs;refine nz ?_;refine rg tT [0,1] ?_;refine rg tT [0,1,11,12,13] ?_;refine WI.orderA [0,1,11,12,13] ?_;refine WI.loop (λφ os=> ∃(j:Nat),φ= [(0,.x (.sl (rows ZB l))),(1,.fn 112 []),(11,.x (.sl (rows ZB l))),(12,.x (.int .i64 l.length)),(13,.x (.int .i64 j))]/\os= []/\j<=l.length/\(l.take j).all JJ=true) (ZK l.length 13) ?_ (λφ os hI=> ?_)
 .exact⟨0,rfl,rfl,J0,rfl⟩
 .obtain⟨j,rfl,rfl,hj,hall⟩:=hI;refine nz ?_;refine rg tT [0,1,11,12,13,14] ?_;refine cd (λh0=> ?_) (λh0=> ?_)
  .have hj4:j<l.length:=by omega
   have hrw:=ZAi l j hj4;have hgj:l[j]=l.getD j []:=by simp[hj4]
   have hal:=JV JJ l j hj4;have hnt:JJ (l.getD j [])=false->l.all JJ=false:=λh=>YB JJ l j hj4 (by rw[hgj];exact h)
   have hd:=ZL (hn l[j] (YZ hj4));rw[hgj]at hal hd;generalize l.getD j []=x at hrw hal hnt hd;have uu:=JX uu hrw hd;refine rg tT [0,1,6,11,12,13] ?_;refine rg tT [0,1,11,12,13,19] ?_;refine cd (λh1=> ?_) (λh1=> ?_)
   .have hxf:JJ x=false:=by clear uu;grind
    refine rg tT [4] ?_;refine lf ?_;rw[hno (hnt hxf)]
   .have hxt:JJ x=true:=by clear uu;grind
    have hall2:(l.take (j+1)).all JJ=true:=by rw[hal,hall,hxt];rfl
    refine rg tT [0,1,11,12,13] ?_;exact⟨⟨j+1,rfl,rfl,J0,hall2⟩,by simp[ZK,Ab.get,D.val,ZD];omega⟩
  .obtain rfl:j=l.length:=by omega
   rw[Jm]at hall;refine rg tT [0,7] ?_;refine rg tT [0,7,24] ?_;refine cd (λh2=> ?_) (λh2=> ?_)
   .have hB0: ¬B=0:=by clear uu;subst hB;grind
    refine rg tT [4] ?_;refine lf ?_;rw[hbb hall hB0,hB]
   .have hB0:B=0:=by clear uu;subst hB;grind
    refine rg tT [0,8] ?_;refine rg tT [8,27,28,29] ?_;refine WI.orderA [8,27,28,29] ?_;refine WI.loop (λφ os=> ∃(j:Nat),φ= [(8,.mref 0),(27,.x (.sl (rows ZB l))),(28,.x (.int .i64 l.length)),(29,.x (.int .i64 j))]/\os= [.mpo .str false (snM ((l.take j).map ZJ))]/\j<=l.length/\((l.take j).map ZJ).Nodup) (ZK l.length 29) ?_ (λφ os hI=> ?_)
    .exact⟨0,rfl,rfl,J0,J1⟩
    .obtain⟨j,rfl,rfl,hj,hnd⟩:=hI;refine nz ?_;refine rg tT [8,27,28,29,30] ?_;refine cd (λh3=> ?_) (λh3=> ?_)
     .have hj4:j<l.length:=by omega
      have hrw:=ZAi l j hj4;have hd:=ZL (show(l.getD j []).length<=140737488355328 by rw[show l.getD j []=l[j] by simp[hj4]];have:=hn _ (YZ hj4);omega);have uu:=JX uu hrw hd;refine rg tT [8,10,27,28,29] ?_;by_cases hin:ZJ (l.getD j [])∈(l.take j).map ZJ
      .have hg1:=ZEu hin;have hcp:=ZVP.2 hin;have uu:=Ya uu hg1;refine rg tT [8,10,27,28,29,37] ?_;refine ct (λh4=> ?_) (λh4=> ?_)
       .refine rg tT [4] ?_;refine lf ?_;rw[hdu hall hB0 (ZYv hj4 hin)]
       .first|exact h4 (ZWY.2 hcp)|exact(of_decide_eq_false h4) (ZWY.2 hcp)|(simp at h4;exact absurd hcp J0)
      .have hg1:=ZGV hin;have hg2:=ZIr hin;have uu:=JX uu hg1 hg2;refine rg tT [8,10,27,28,29,37] ?_;refine ce (λh4=> ?_) (λh4=> ?_)
       .simp at h4
       .refine rg tT [8,27,28,29] ?_;have hnd2:((l.take (j+1)).map ZJ).Nodup:=by
         rw[ZLi hj4,ZGy];exact⟨hnd,J1,λa ha b hb=>by simp only[ZBK]at hb;subst hb;rintro rfl;exact hin ha⟩
        refine rg tT [8,27,28,29] ?_;exact⟨⟨j+1,rfl,by rw[ZLi hj4],J0,hnd2⟩,by simp[ZK,Ab.get,D.val,ZD];omega⟩
     .refine rg tT [4] ?_;refine lf ?_;rw[Yi J0]at hnd;rw[hok hall hB0 hnd]
def smN(l:List Tx):Prop:=l.length<=100000/\ ∀x∈l,x.length<=1000000
instance (l:List Tx):Decidable (smN l):=inferInstanceAs (Decidable (_/\_))
def ZIf:J8->J5
 | [.x (.sl R),.fn 108 []]=>(Zb JF R).bind λl=>some (decide (l.length<=100000),.x (.sl (rows ZB (l.map (·.1)))))
 |_=>none
theorem ZX4: ∀args r,ZIf args=some (true,r)->ZC Tryz.prog 107 args r:=by
 intro args r h;unfold ZIf at h;split at h
 .rename_i R;obtain⟨l,hr0,h⟩:=Zv h;simp only[Ze,ZZ,ZS,Zd,true_and]at h;obtain⟨h1,rfl⟩:=h;rw[<-Za KL hr0];exact(Zeb l h1)
 .cases h
def ZIy:J8->J5
 | [.x (.sl R),.fn 111 []]=>(Zb Qa R).bind λl=>some (decide (l.length<=100000),.x (.sl (rows ZB (l.map (·.1)))))
 |_=>none
theorem ZXt: ∀args r,ZIy args=some (true,r)->ZC Tryz.prog 110 args r:=by
 intro args r h;unfold ZIy at h;split at h
 .rename_i R;obtain⟨l,hr0,h⟩:=Zv h;simp only[Ze,ZZ,ZS,Zd,true_and]at h;obtain⟨h1,rfl⟩:=h;rw[<-Za Kw hr0];exact(ZeK l h1)
 .cases h
def ZGO:J8->J7->Option (Bool×D×J7)
 | [.x (.sl R),.fn 109 [.ptr 0 0]],[.box [.x (.sl R2)]]=>(Zb ZB R).bind λl=>(Zb JF R2).bind λT=>some (decide (T.length<=100000/\smN l),.x (.int .i64 (Qt l (ZJQ T))),[.box [.x (.sl (rows JF T))]])
 |_,_=>none
theorem ZV1: ∀args os r os',ZGO args os=some (true,r,os')->ZN Tryz.prog 106 args os r os':=by
 intro args os r os' h;unfold ZGO at h;split at h
 .rename_i R R2;obtain⟨l,hr0,h⟩:=Zv h;obtain⟨T,hr1,h⟩:=Zv h;simp only[Ze,ZZ,ZS,Zd,true_and]at h;obtain⟨h1,rfl,rfl⟩:=h;rw[<-Za ZP hr0];rw[<-Za KL hr1];exact Za8 T h1.1 l h1.2.1 h1.2.2
 .cases h
def ZGL:J8->J5
 | [.x (.sl R),.fn 112 []]=>(Zb ZB R).bind λl=>some (decide (smN l),.x (.int .i64 (Qt l 0)))
 |_=>none
theorem ZWd: ∀args r,ZGL args=some (true,r)->ZC Tryz.prog 106 args r:=by
 intro args r h;unfold ZGL at h;split at h
 .rename_i R;obtain⟨l,hr0,h⟩:=Zv h;simp only[Ze,ZZ,ZS,Zd,true_and]at h;obtain⟨h1,rfl⟩:=h;rw[<-Za ZP hr0];exact(ZaZ l h1.1 h1.2)
 .cases h
def ZHD:Tabs:=ZT (Jz (ZT (ZT (ZO) 107 ZIf) 110 ZIy) 106 ZGO) 106 ZGL
theorem ZZA:SsOk Tryz.prog ZHD:=ZH (JE (ZH (ZH (ZF) (ZW 107) ZX4) (ZW 110) ZXt) (ZW 106) ZV1) (ZW 106) ZWd
theorem ZbH:(∀a,ZHD.q 107 a=ZIf a)/\(∀a,ZHD.q 110 a=ZIy a)/\(∀a o,ZHD.t 106 a o=Yx ZGO a o)/\(∀a,ZHD.q 106 a=ZGL a)/\(∀f a o,ZHD.r f a o=none)/\(∀f a o,ZHD.k f a o=none):=⟨λ_=>rfl,λ_=>rfl,λ_ _=>rfl,λ_=>rfl,λ_ _ _=>rfl,λ_ _ _=>rfl⟩
theorem Zcz(l:List Tx):Zb ZB (rows ZB l)=some l:=Zr ZP l
theorem Zc3(l:List Zy):Zb Qa (rows Qa l)=some l:=Zr Kw l
def ZJy(T:List Zl)(C:List Zy):Int:=if 1024<T.length\/1024<C.length then 3 else if Qt (T.map (·.1)) (ZJQ T)≠0 then Qt (T.map (·.1)) (ZJQ T)else Qt (C.map (·.1)) 0
def smT(T:List Zl):Prop:=T.length<=100000/\ ∀x∈T,x.1.length<=1000000
def smC(C:List Zy):Prop:=C.length<=100000/\ ∀x∈C,x.1.length<=1000000/\(x.2.1.length<=50000/\ ∀n∈x.2.1,n.length<=140737488355328)/\(x.2.2.1.length<=50000/\ ∀n∈x.2.2.1,n.length<=140737488355328)
instance (T:List Zl):Decidable (smT T):=inferInstanceAs (Decidable (_/\_))
instance (C:List Zy):Decidable (smC C):=inferInstanceAs (Decidable (_/\_))
theorem Zbx(T:List Zl)(C:List Zy)(hT:smT T)(hC:smC C):ZC Tryz.prog 71 [.x (.sl (rows JF T)),.x (.sl (rows Qa C))] (.x (.int .i64 (ZJy T C))):=by
 have hTl:=hT.1;have hCl:=hC.1;have hd1:decide (T.length<=100000/\smN (T.map (·.1)))=true:=ZL ⟨hTl,by rw[smN,YX];exact⟨hTl,λx hx=>by obtain⟨t,ht,rfl⟩:=YO.1 hx;exact hT.2 t ht⟩⟩;have hd2:decide (smN (C.map (·.1)))=true:=ZL (by rw[smN,YX];exact⟨hCl,λx hx=>by obtain⟨t,ht,rfl⟩:=YO.1 hx;exact(hC.2 t ht).1⟩);have hd3:=ZL hTl;have hd4:=ZL hCl;rcases hres:ZJy T C with v
 unfold ZJy at hres;refine ZI.pure (fC 71 true ?_) rfl;intro C0 E0;have uu:=KT @ZIf.eq_1 @ZIf.eq_2 @ZIy.eq_1 @ZIy.eq_2 @ZGO.eq_1 @ZGO.eq_2 @ZGL.eq_1 @ZGL.eq_2 (ξ8 @ZWI @Zcz @Zc3 hd1 hd2 hd3 hd4 @ZbH);have tT:=ZZA;refine nz ?_;refine rg tT [1,2] ?_;refine rg tT [1,2,13] ?_;refine cd (λh0=> ?_) (λh0=> ?_)
 .rw[if_pos (by clear uu;grind)]at hres;refine rg tT [4] ?_;refine lf ?_;rw[hres]
 .rw[if_neg (by clear uu;grind)]at hres;refine rg tT [1,5] ?_;refine rg tT [1,5,19] ?_;refine cd (λh1=> ?_) (λh1=> ?_)
  .rw[if_pos (by simpa using h1)]at hres;refine rg tT [4] ?_;refine lf ?_;rw[hres]
  .rw[if_neg (by simpa using h1)]at hres;refine rg tT [4] ?_;refine lf ?_;rw[hres]
def ZGC:J8->J5
 | [.x (.sl R),.x (.sl R2)]=>(Zb JF R).bind λT=>(Zb Qa R2).bind λC=>some (decide (smT T/\smC C),.x (.int .i64 (ZJy T C)))
 |_=>none
theorem ZVy: ∀args r,ZGC args=some (true,r)->ZC Tryz.prog 71 args r:=by
 intro args r h;unfold ZGC at h;split at h
 .rename_i R R2;obtain⟨T,hr0,h⟩:=Zv h;obtain⟨C,hr1,h⟩:=Zv h;simp only[Ze,ZZ,ZS,Zd,true_and]at h;obtain⟨h1,rfl⟩:=h;rw[<-Za KL hr0];rw[<-Za Kw hr1];exact(Zbx T C h1.1 h1.2)
 .cases h
theorem ZRL{α:Type}(f:α->Tx)(l:List α)(d:α)(i:Nat)(h:i<l.length)(hn:(l.map f).Nodup):f (l.getD i d)∉(l.take i).map f:=by
 intro hin;have e:l=l.take i++l.getD i d::l.drop (i+1):=by
  have:=ZDl i l;rw[ZFj h]at this;rw[show l.getD i d=l[i] by simp[h]];exact this.symm
 rw[e,Jt,YL]at hn;exact(ZGy.1 hn).2.2 _ hin _ ZDB rfl
theorem ZcN(T:List Zl):(tyL T).map (·.1)=T.map λt=>ZJ t.1:=by unfold tyL;rw[Js];rfl
theorem Zav(C:List Zy):(clL C).map (·.1)=C.map λc=>ZJ c.1:=by unfold clL;rw[Js];rfl
theorem ZgK(T:List Zl)(i:Nat)(h:i<T.length)(hn:(T.map λt=>ZJ t.1).Nodup):
  Yb (JQ (tyL (T.take i))) [X.str (ZJ (T.getD i ([],0,false,())).1)] [.x (.str (ZJ (T.getD i ([],0,false,())).1)),.x (.int .i64 (T.getD i ([],0,false,())).2.1),.x (.bool (T.getD i ([],0,false,())).2.2.1)]=JQ (tyL (T.take (i+1))):=by
 have h1:=ZRL (λt:Zl=>ZJ t.1) T ([],0,false,()) i h hn;rw[<-ZcN]at h1;have h2:=Zfy (tyL (T.take i)) (ZJ (T.getD i ([],0,false,())).1) (Zfk (T.getD i ([],0,false,())));rw[ZCb (QK.2 h1)]at h2;refine Eq.trans h2 ?_;rw[Jk h];unfold tyL;rw[Jt];simp[h]
theorem Zge(C:List Zy)(i:Nat)(h:i<C.length)(hn:(C.map λt=>ZJ t.1).Nodup):
  Yb (JL (clL (C.take i))) [X.str (ZJ (C.getD i ([],[],[],())).1)] [.x (.str (ZJ (C.getD i ([],[],[],())).1)),.x (.sl (rows ZB ((C.getD i ([],[],[],())).2.1.map ZJ))),.x (.sl (rows ZB ((C.getD i ([],[],[],())).2.2.1.map ZJ)))]=JL (clL (C.take (i+1))):=by
 have h1:=ZRL (λt:Zy=>ZJ t.1) C ([],[],[],()) i h hn;rw[<-Zav]at h1;have h2:=Zfb (clL (C.take i)) (ZJ (C.getD i ([],[],[],())).1) (ZFw (C.getD i ([],[],[],())));rw[ZCb (QK.2 h1)]at h2;refine Eq.trans h2 ?_;rw[Jk h];unfold clL;rw[Jt];simp[h]
theorem ZQY{l:List Tx}{b:Int}(h:Qt l b=0):l.all JJ=true/\b=0/\(l.map ZJ).Nodup:=by
 unfold Qt at h;split at h
 .split at h
  .omega
  .split at h
   .rename_i h1 h2 h3;exact⟨h1,J0,of_decide_eq_true h3⟩
   .omega
 .omega
theorem ZW3{T:List Zl}{C:List Zy}(h:ZJy T C=0):(T.map λt=>ZJ t.1).Nodup/\(C.map λt=>ZJ t.1).Nodup:=by
 unfold ZJy at h;split at h
 .omega
 .split at h
  .rename_i h1;exact absurd h h1
  .rename_i h1;have h2:=(ZQY (ZJC.1 h1)).2.2;have h3:=(ZQY h).2.2;rw[Js]at h2 h3;exact⟨h2,h3⟩
def ZLS(T:List Zl)(c:Zy):Bool:=(c.2.1.map ZJ++c.2.2.1.map ZJ).all λn=>(ZG (tyL T) (ZJ n)).isSome
def ZMq(T:List Zl)(C:List Zy):Int:=if ZJy T C≠0 then ZJy T C else if C.all (ZLS T)=true then(if(ZG (tyL T) (ZJ OC)).isSome=true then 0 else 8)else 8
def ZIS:J8->J5
 | [.x (.sl R),.fn 63 []]=>(Zb ZB R).bind λl=>some (decide (l.length<=100000/\ ∀x∈l,x.length<=140737488355328),.x (.sl (rows ZB (l.map ZJ))))
 |_=>none
theorem ZYh: ∀args r,ZIS args=some (true,r)->ZC Tryz.prog 72 args r:=by
 intro args r h;unfold ZIS at h;split at h
 .rename_i R;obtain⟨l,hr0,h⟩:=Zv h;simp only[Ze,ZZ,ZS,Zd,true_and]at h;obtain⟨h1,rfl⟩:=h;rw[<-Za ZP hr0];exact(ZfT l h1.1 h1.2)
 .cases h
def ZKs:J8->J5
 | [.x (.sl [[.sl R],[.sl R']])]=>(Zb ZB R).bind λa=>(Zb ZB R').map λb=>(decide (a.length<=100000/\b.length<=100000),.x (.sl (rows ZB (a++b))))
 |_=>none
theorem ZTx: ∀args r,ZKs args=some (true,r)->ZC Tryz.prog 73 args r:=by
 intro args r h;unfold ZKs at h;split at h
 .rename_i R R';obtain⟨a,h1,h⟩:=Zv h;obtain⟨b,h2,h3⟩:=Zc h;simp only[ZZ,Zd]at h3;obtain⟨h4,rfl⟩:=h3;rw[<-Za ZP h1,<-Za ZP h2];exact ZSz a b h4.1 h4.2
 .cases h
def ZDI:Tabs:=Jz (Jz (ZT (ZT (ZT (ZT (ZO) 71 ZGC) 63 YC) 72 ZIS) 73 ZKs) 73 (ZAE ZKs)) 74 ZFG
theorem ZXl:SsOk Tryz.prog ZDI:=JE (JE (ZH (ZH (ZH (ZH (ZF) (ZW 71) ZVy) (ZW 63) ZAu) (ZW 72) ZYh) (ZW 73) ZTx) (ZW 73) (ZDv ZTx)) (ZW 74) ZSR
theorem ZcB:(∀a,ZDI.q 71 a=ZGC a)/\(∀a,ZDI.q 63 a=YC a)/\(∀a,ZDI.q 72 a=ZIS a)/\(∀a,ZDI.q 73 a=ZKs a)/\(∀a o,ZDI.t 73 a o=Yx (ZAE ZKs) a o)/\(∀a,ZDI.q 74 a=none)/\(∀a o,ZDI.t 74 a o=Yx ZFG a o)/\(∀f a o,ZDI.r f a o=none)/\(∀f a o,ZDI.k f a o=none):=⟨λ_=>rfl,λ_=>rfl,λ_=>rfl,λ_=>rfl,λ_ _=>rfl,λ_=>rfl,λ_ _=>rfl,λ_ _ _=>rfl,λ_ _ _=>rfl⟩
abbrev scH(L:List (Tx×Zl))(M:List (Tx×Zy))(c d:Zy):J7:= [.box [.mref 1,.mref 2],.mpo .str true (JQ L),.mpo .str true (JL M),.box [.x (.str c.1),.x (.sl (rows ZB c.2.1)),.x (.sl (rows ZB c.2.2.1))],.box [.x (.str d.1),.x (.sl (rows ZB d.2.1)),.x (.sl (rows ZB d.2.2.1))]]
theorem ZUo(L:List (Tx×Zl))(M:List (Tx×Zy))(c d:Zy):(scH L M c d).all (Ob.inP (λi=>decide (i<(scH L M c d).length)))=true:=by
 simp[Ob.inP,Yo,D.inP,ZAT,ZAQ]
set_option maxHeartbeats 4000000 in
theorem Zhq(T:List Zl)(C:List Zy)(hT:smT T)(hC:smC C)(r:D)(OS:J7)(hz:ZMq T C=0->r= .tup [.ptr 0 0,.x (.int .i64 0)]/\OS=scO (tyL T) (clL C))(hnz:ZMq T C≠0->r= .tup [.x .nilp,.x (.int .i64 (ZMq T C))]/\OS= []):
  ZN Tryz.prog 38 [.x (.sl (rows JF T)),.x (.sl (rows Qa C))] [] r OS:=by
 have hO:OS.all (Ob.inP (λi=>decide (i<OS.length)))=true:=by
  by_cases h:ZMq T C=0
  .rw[(hz h).2];exact ZBu _ _
  .rw[(hnz h).2];rfl
 have hTl:=hT.1;have hz':=hz;have hnz':=hnz;have hCl:=hC.1;have hd1:decide (smT T/\smC C)=true:=ZL ⟨hT,hC⟩;rcases hch:ZJy T C with v
 unfold ZMq at hz hnz;rw[hch]at hz hnz;have hoc:OC= [111,98,106,101,99,116,99,108,97,115,115]:=rfl;have hR:r.inP (λi=>decide (i<OS.length))=true:=by
  by_cases h:ZMq T C=0
  .rw[(hz' h).1,(hz' h).2];rfl
  .rw[(hnz' h).1,(hnz' h).2];rfl
 refine ZI.mcallsX (fC 38 true ?_) (by first|decide|(simp;done)) hO (by first|rfl|exact hR);intro C0 E0;have uu:=KT @ZGC.eq_1 @ZGC.eq_2 @YC.eq_1 @YC.eq_2 @ZIS.eq_1 @ZIS.eq_2 @ZKs.eq_1 @ZKs.eq_2 (KT @ZFG.eq_1 @ZFG.eq_2 @ZWI @Zcz @Zc3 @ZFz @ZFy hd1 (KT hch @ZCq @ZCX @ZDQ @ZDV @ZAT @ZAQ @ZAM (ξ4 @ZCe @Qp @ZcB @ZAE.eq_1)));have tT:=ZXl;refine nz ?_;refine rg tT [0,1] ?_;refine rg tT [0,1,6] ?_;refine rg tT [0,1,6,23] ?_;refine cd (λh0=> ?_) (λh0=> ?_)
 .have hv0: ¬v=0:=by simpa using h0
  refine rg tT [4,5] ?_;refine lf ?_;obtain⟨rfl,rfl⟩:=(by rw[if_pos hv0]at hnz;exact hnz hv0);exact⟨rfl,[],rfl⟩
 .have hv0:v=0:=by simpa using h0
  subst hv0;obtain⟨hnT,hnC⟩:=ZW3 hch;rw[if_neg J1]at hz hnz;refine rg tT [0,1,7] ?_;refine rg tT [1,7,31,32,33] ?_;refine WI.pickA [2,0,1] ?_;refine WI.orderA [1,7,31,32,33] ?_;refine WI.loop (λφ os=> ∃(i:Nat),φ= [(1,.x (.sl (rows Qa C))),(7,.ptr 0 0),(31,.x (.sl (rows JF T))),(32,.x (.int .i64 T.length)),(33,.x (.int .i64 i))]/\os=scO (tyL (T.take i)) []/\i<=T.length) (ZK T.length 33) ?_ (λφ os hI=> ?_)
  .exact⟨0,rfl,rfl,J0⟩
  .obtain⟨i,rfl,rfl,hi⟩:=hI;refine nz ?_;refine rg tT [1,7,31,32,33,34] ?_;refine cd (λh1=> ?_) (λh1=> ?_)
   .have hi4:i<T.length:=by omega
    have hrw:=ZSw T i hi4;have hst:=ZgK T i hi4 hnT;have hxl:=hT.2 T[i] (YZ hi4);rw[show T[i]=T.getD i ([],0,false,()) by simp[hi4]]at hxl;generalize T.getD i ([],0,false,())=x at hrw hst hxl;have hd47:decide (x.1.length<=140737488355328)=true:=ZL J0;have uu:=ξ4 uu hrw hst hd47;refine rg tT [1,7,9,31,32,33] ?_;refine rg tT [1,7,9,31,32,33] ?_;refine WI.dregB tT [1,7,31,32,33] ?_
    iterate 5 refine Zs ?_
    refine Yp ?_;refine Zs ?_
    iterate 2 refine Yp ?_
    refine dAG ?_;refine dN ?_;refine nz ?_;refine WI.orderA [1,7,31,32,33] ?_;refine WI.dropT (scO (tyL (T.take (i+1))) []) _ rfl J1 (ZBu _ _) (by simp[D.inP,Yo]) ?_;refine rg tT [1,7,31,32,33] ?_;exact⟨⟨i+1,rfl,rfl,J0⟩,by simp[ZK,Ab.get,D.val,ZD];omega⟩
   .obtain rfl:i=T.length:=by omega
    rw[Jm];generalize hL:tyL T=L at hz hnz|-;refine rg tT [7,51,52,53] ?_;refine WI.loop (λφ os=> ∃(i:Nat),φ= [(7,.ptr 0 0),(51,.x (.sl (rows Qa C))),(52,.x (.int .i64 C.length)),(53,.x (.int .i64 i))]/\os=scO L (clL (C.take i))/\i<=C.length/\(C.take i).all (ZLS T)=true) (ZK C.length 53) ?_ (λφ os hI=> ?_)
    .exact⟨0,rfl,rfl,J0,rfl⟩
    .obtain⟨i,rfl,rfl,hi,hall⟩:=hI;refine nz ?_;refine rg tT [7,51,52,53,54] ?_;refine cd (λh2=> ?_) (λh2=> ?_)
     .have hi4:i<C.length:=by omega
      have hrw:=ZW1 C i hi4;have hst:=Zge C i hi4 hnC;have hal:=JV (ZLS T) C i hi4;have hgi:C[i]=C.getD i ([],[],[],()):=by simp[hi4]
      have hno:ZLS T (C.getD i ([],[],[],()))=false->C.all (ZLS T)=false:=λh=>YB (ZLS T) C i hi4 (by rw[hgi];exact h)
      have hxl:=hC.2 C[i] (YZ hi4);rw[hgi]at hxl hal;generalize C.getD i ([],[],[],())=x at hrw hst hxl hal hno;obtain⟨hx1,hx2,hx3⟩:=hxl;have hst2:Yb (JL (clL (C.take i))) [X.str (ZFw x).1] [.x (.str (ZFw x).1),.x (.sl (rows ZB (ZFw x).2.1)),.x (.sl (rows ZB (ZFw x).2.2.1))]=JL (clL (C.take (i+1))):=hst;have hd47:decide (x.1.length<=140737488355328)=true:=ZL J0;have hd48:decide (x.2.1.length<=100000/\ ∀n∈x.2.1,n.length<=140737488355328)=true:=ZL ⟨J0,hx2.2⟩;have hd49:decide (x.2.2.1.length<=100000/\ ∀n∈x.2.2.1,n.length<=140737488355328)=true:=ZL ⟨J0,hx3.2⟩;have hl1:(x.2.1.map ZJ).length<=50000:=by rw[YX];exact hx2.1
      have hl2:(x.2.2.1.map ZJ).length<=50000:=by rw[YX];exact hx3.1
      have hct:ZLS T x=(x.2.1.map ZJ++x.2.2.1.map ZJ).all λn=>(ZG L (ZJ n)).isSome:=by rw[<-hL];rfl
      have hln: ∀n∈x.2.1.map ZJ++x.2.2.1.map ZJ,n.length<=140737488355328:=λn hn=>by
       rcases Qc.1 hn with h|h
       .obtain⟨y,hy,rfl⟩:=YO.1 h;rw[ZEv];exact hx2.2 y hy
       .obtain⟨y,hy,rfl⟩:=YO.1 h;rw[ZEv];exact hx3.2 y hy
      have hd50:decide ((x.2.1.map ZJ).length<=100000/\(x.2.2.1.map ZJ).length<=100000)=true:=ZL ⟨J0,J0⟩;have uu:=ξ7 uu hrw hst2 hd47 hd48 hd49 hd50;refine rg tT [7,11,51,52,53] ?_;refine WI.dregB tT [7,12,51,52,53] ?_;refine Zs ?_;refine Yp ?_;refine dQC ?_;refine Zs ?_;refine Yp ?_;refine dQC ?_;refine Zs ?_;refine Yp ?_;refine dQC ?_;refine Jq ?_;refine dKG ?_;refine dAG ?_;refine dN ?_;refine nz ?_;refine rg tT [7,12,51,52,53,72,73,74] ?_;refine WI.orderA [7,12,51,52,53,72,73,74] ?_;refine WI.dropT (scH L (clL (C.take i)) x (ZFw x)) _ rfl J1 (ZUo _ _ _ _) (by simp[D.inP,Yo]) ?_;generalize hN:x.2.1.map ZJ++x.2.2.1.map ZJ=N at hct hln|-;have hNl:N.length<=100000:=by rw[<-hN,Zf];omega
      refine WI.loop (λφ os=> ∃(k:Nat),φ= [(7,.ptr 0 0),(12,.ptr 4 0),(51,.x (.sl (rows Qa C))),(52,.x (.int .i64 C.length)),(53,.x (.int .i64 i)),(72,.x (.sl (rows ZB N))),(73,.x (.int .i64 N.length)),(74,.x (.int .i64 k))]/\os=scH L (clL (C.take i)) x (ZFw x)/\k<=N.length/\(N.take k).all (λn=>(ZG L (ZJ n)).isSome)=true) (ZK N.length 74) ?_ (λφ os hI=> ?_)
      .exact⟨0,rfl,rfl,J0,rfl⟩
      .obtain⟨k,rfl,rfl,hk,hka⟩:=hI;refine nz ?_;refine rg tT [7,12,51,52,53,72,73,74,75] ?_;refine cd (λh3=> ?_) (λh3=> ?_)
       .have hk4:k<N.length:=by omega
        have hrk:=ZAi N k hk4;have hgk:N[k]=N.getD k []:=by simp[hk4]
        have hak:=JV (λn=>(ZG L (ZJ n)).isSome) N k hk4;have hnk:(ZG L (ZJ (N.getD k []))).isSome=false->N.all (λn=>(ZG L (ZJ n)).isSome)=false:=λh=>YB (λn=>(ZG L (ZJ n)).isSome) N k hk4 (by rw[hgk];exact h)
        have hnl:=hln N[k] (YZ hk4);rw[hgk]at hak hnl;generalize N.getD k []=y at hrk hak hnk hnl;have hdy:=ZL hnl;have uu:=ξ4 uu hrk hdy @tyD.eq_1;refine rg tT [7,12,14,51,52,53,72,73,74] ?_;refine rg tT [7,12,16,51,52,53,72,73,74] ?_;refine rg tT [7,12,51,52,53,72,73,74,88] ?_;refine cd (λh4=> ?_) (λh4=> ?_)
        .have hys:(ZG L (ZJ y)).isSome=false:=by clear uu;grind
         rw[hno (by rw[hct];exact hnk hys)]at hnz;refine rg tT [4,5] ?_;refine lf ?_;obtain⟨rfl,rfl⟩:=hnz J1;exact⟨rfl,_,rfl⟩
        .have hys:(ZG L (ZJ y)).isSome=true:=by clear uu;grind
         have hka2:(N.take (k+1)).all (λn=>(ZG L (ZJ n)).isSome)=true:=by rw[hak,hka,hys];rfl
         refine WI.orderA [7,12,51,52,53,72,73,74] ?_;refine WI.dropT (scH L (clL (C.take i)) x (ZFw x)) _ rfl J1 (ZUo _ _ _ _) (by simp[D.inP,Yo]) ?_;refine rg tT [7,12,51,52,53,72,73,74] ?_;exact⟨⟨k+1,rfl,rfl,J0,hka2⟩,by simp[ZK,Ab.get,D.val,ZD];omega⟩
       .obtain rfl:k=N.length:=by omega
        rw[Jm]at hka;rw[hka]at hct;have hall2:(C.take (i+1)).all (ZLS T)=true:=by rw[hal,hall,hct];rfl
        refine WI.dregB tT [7,51,52,53] ?_
        iterate 4 refine Zs ?_
        refine Yp ?_;refine Zs ?_
        iterate 2 refine Yp ?_
        refine dAG ?_;refine dN ?_;refine nz ?_;refine WI.orderA [7,51,52,53] ?_;refine WI.dropT (scO L (clL (C.take (i+1)))) _ rfl J1 (ZBu _ _) (by simp[D.inP,Yo]) ?_;refine rg tT [7,51,52,53] ?_;exact⟨⟨i+1,rfl,rfl,J0,hall2⟩,by simp[ZK,Ab.get,D.val,ZD];omega⟩
     .obtain rfl:i=C.length:=by omega
      rw[Jm]at hall|-;rw[hall,if_pos rfl,hoc]at hz hnz;refine WI.orderA [7] ?_;have uu:=Ya uu @tyD.eq_1;refine rg tT [7,18] ?_;refine rg tT [7,108] ?_;refine cd (λh5=> ?_) (λh5=> ?_)
      .have hys: ¬(ZG L (ZJ [111,98,106,101,99,116,99,108,97,115,115])).isSome=true:=by clear uu;grind
       rw[if_neg hys]at hnz;refine rg tT [4,5] ?_;refine lf ?_;obtain⟨rfl,rfl⟩:=hnz J1;exact⟨rfl,_,rfl⟩
      .have hys:(ZG L (ZJ [111,98,106,101,99,116,99,108,97,115,115])).isSome=true:=by clear uu;grind
       rw[if_pos hys]at hz;refine rg tT [4,5] ?_;refine lf ?_;obtain⟨rfl,rfl⟩:=hz rfl;exact⟨rfl,_,rfl⟩
def igT(n:Tx):Zl:=(n,1,false,())
theorem ZZx(a b:List Zl):rows JF (a++b)=rows JF a++rows JF b:=Jt
theorem Zhu(l:List Tx)(hl:l.length<=1000):ZN Tryz.prog 37 [.ref 0 l.length 0 l.length] [.rows false 9 1 (rows ZB l)] (.ref 1 l.length 0 l.length) [.rows false 9 1 (rows ZB l),.rows false 82 3 (rows JF (l.map igT))]:=by
 have hO: [Ob.rows false 9 1 (rows ZB l),.rows false 82 3 (rows JF (l.map igT))].all (Ob.inP (λi=>decide (i< [Ob.rows false 9 1 (rows ZB l),.rows false 82 3 (rows JF (l.map igT))].length)))=true:=rfl;refine ZI.mcalls (fC 37 false ?_);intro C0 E0;have uu:=trivial;have tT:=(ZF:SsOk Tryz.prog ZO);refine nz ?_;refine rg tT [0] ?_;refine rg tT [0,3] ?_;refine rg tT [3,6,7,8] ?_;refine WI.ownA 3 82 3 ?_;refine WI.orderA [3,6,7,8] ?_;refine WI.loop (λφ os=> ∃(j:Nat),φ= [(3,.ref 1 ((l.take j).map igT).length 0 ((l.take j).map igT).length),(6,.ref 0 l.length 0 l.length),(7,.x (.int .i64 l.length)),(8,.x (.int .i64 j))]/\os= [.rows false 9 1 (rows ZB l),.rows false 82 3 (rows JF ((l.take j).map igT))]/\j<=l.length) (ZK l.length 8) ?_ (λφ os hI=> ?_)
 .exact⟨0,rfl,rfl,J0⟩
 .obtain⟨j,rfl,rfl,hj⟩:=hI;refine nz ?_;refine rg tT [3,6,7,8,9] ?_;refine cd (λh0=> ?_) (λh0=> ?_)
  .have hj4:j<l.length:=by omega
   have hrw:=ZAi l j hj4;have htk:(l.take (j+1)).map igT=(l.take j).map igT++ [igT (l.getD j [])]:=by rw[Jk hj4,Jt];simp[hj4]
   have hlen:((l.take j).map igT).length<=1000:=by rw[YX,JA];omega
   generalize l.getD j []=x at hrw htk;have uu:=Ya uu hrw;refine rg tT [3,5,6,7,8] ?_;refine rg tT [3,6,7,8] ?_;refine WI.pickA [0,1] ?_;refine rg tT [3,6,7,8] ?_;exact⟨⟨j+1,by rw[htk,Zf];rfl,by rw[htk,ZZx];rfl,J0⟩,by simp[ZK,Ab.get,D.val,ZD];omega⟩
  .obtain rfl:j=l.length:=by omega
   rw[Jm];refine rg tT [2] ?_;refine lf ?_;exact⟨by rw[YX],rfl⟩
def plT:List Zl:= [([99,110],1,false,()),([115,110],1,false,()),([111,117],1,false,()),([100,99],1,false,()),([111],1,false,()),([100,101,115,99,114,105,112,116,105,111,110],1,false,()),([109,97,105,108],1,false,()),([111,98,106,101,99,116,99,108,97,115,115],1,false,()),([117,115,101,114,112,97,115,115,119,111,114,100],4,true,()),([117,105,100],1,true,()),([117,105,100,110,117,109,98,101,114],3,true,()),([109,101,109,98,101,114],5,false,()),([115,101,114,105,97,108,110,117,109,98,101,114],2,false,())]
def plC:List Zy:= [([116,111,112],[],[],()),([112,101,114,115,111,110],[[99,110],[115,110]],[[100,101,115,99,114,105,112,116,105,111,110],[117,115,101,114,112,97,115,115,119,111,114,100],[109,97,105,108],[117,105,100],[117,105,100,110,117,109,98,101,114],[115,101,114,105,97,108,110,117,109,98,101,114],[109,101,109,98,101,114]],()),([111,114,103,97,110,105,122,97,116,105,111,110,97,108,117,110,105,116],[[111,117]],[[100,101,115,99,114,105,112,116,105,111,110],[109,101,109,98,101,114]],()),([100,111,109,97,105,110],[[100,99]],[[100,101,115,99,114,105,112,116,105,111,110],[111]],()),([103,114,111,117,112],[[99,110]],[[109,101,109,98,101,114],[100,101,115,99,114,105,112,116,105,111,110]],())]
theorem Zgr:ZMq plT plC=0:=by decide+kernel
theorem Zf4:smT plT:=by decide+kernel
theorem ZgC:smC plC:=by decide+kernel
def ZM6:J8->J7->Option (Bool×D×Ob)
 | [.ref 0 8 0 8],[.rows false 9 1 [[.str a],[.str b],[.str c],[.str d],[.str e],[.str f],[.str g],[.str h]]]=>some (true,.ref 1 8 0 8,.rows false 82 3 [[.str a,.int .i64 1,.bool false],[.str b,.int .i64 1,.bool false],[.str c,.int .i64 1,.bool false],[.str d,.int .i64 1,.bool false],[.str e,.int .i64 1,.bool false],[.str f,.int .i64 1,.bool false],[.str g,.int .i64 1,.bool false],[.str h,.int .i64 1,.bool false]])
 |_,_=>none
theorem ZdU: ∀args os r ob,ZM6 args os=some (true,r,ob)->(∃fz e sz rs,ob= .rows fz e sz rs)/\ZN Tryz.prog 37 args os r (os++ [ob]):=by
 intro args os r ob h;unfold ZM6 at h;split at h
 .rename_i a b c d e f g h;simp only[Ze,ZZ,true_and]at h;obtain⟨rfl,rfl⟩:=h;exact⟨⟨_,_,_,_,rfl⟩,Zhu [a,b,c,d,e,f,g,h] J1⟩
 .cases h
def ZKT:Tabs:=ZVH (ZO) 37 ZM6
theorem ZKl:SsOk Tryz.prog ZKT:=Zet (ZF) (ZW 37) ZdU
theorem Zbb:(∀a,ZKT.q 37 a=none)/\(∀a o,ZKT.t 37 a o=Yx (λargs os=>(ZM6 args os).map λq=>(q.1,q.2.1,os++ [q.2.2])) a o)/\(∀a o,ZKT.k 37 a o=ZEa ZM6 a o)/\(∀f a o,ZKT.r f a o=none):=⟨λ_=>rfl,λ_ _=>rfl,λ_ _=>rfl,λ_ _ _=>rfl⟩
theorem ZVi:Enters Tryz.prog 38:=ZW 38
theorem Zd4:ZN Tryz.prog 11 [] [] (.ptr 0 0) (scO (tyL plT) (clL plC)):=by
 have hO:=ZBu (tyL plT) (clL plC);have hnew:ZN Tryz.prog 38 [.x (.sl [[.str [99,110],.int .i64 1,.bool false],[.str [115,110],.int .i64 1,.bool false],[.str [111,117],.int .i64 1,.bool false],[.str [100,99],.int .i64 1,.bool false],[.str [111],.int .i64 1,.bool false],[.str [100,101,115,99,114,105,112,116,105,111,110],.int .i64 1,.bool false],[.str [109,97,105,108],.int .i64 1,.bool false],[.str [111,98,106,101,99,116,99,108,97,115,115],.int .i64 1,.bool false],[.str [117,115,101,114,112,97,115,115,119,111,114,100],.int .i64 4,.bool true],[.str [117,105,100],.int .i64 1,.bool true],[.str [117,105,100,110,117,109,98,101,114],.int .i64 3,.bool true],[.str [109,101,109,98,101,114],.int .i64 5,.bool false],[.str [115,101,114,105,97,108,110,117,109,98,101,114],.int .i64 2,.bool false]]),.x (.sl [[.str [116,111,112],.sl [],.sl []],[.str [112,101,114,115,111,110],.sl [[.str [99,110]],[.str [115,110]]],.sl [[.str [100,101,115,99,114,105,112,116,105,111,110]],[.str [117,115,101,114,112,97,115,115,119,111,114,100]],[.str [109,97,105,108]],[.str [117,105,100]],[.str [117,105,100,110,117,109,98,101,114]],[.str [115,101,114,105,97,108,110,117,109,98,101,114]],[.str [109,101,109,98,101,114]]]],[.str [111,114,103,97,110,105,122,97,116,105,111,110,97,108,117,110,105,116],.sl [[.str [111,117]]],.sl [[.str [100,101,115,99,114,105,112,116,105,111,110]],[.str [109,101,109,98,101,114]]]],[.str [100,111,109,97,105,110],.sl [[.str [100,99]]],.sl [[.str [100,101,115,99,114,105,112,116,105,111,110]],[.str [111]]]],[.str [103,114,111,117,112],.sl [[.str [99,110]]],.sl [[.str [109,101,109,98,101,114]],[.str [100,101,115,99,114,105,112,116,105,111,110]]]]])] [] (.tup [.ptr 0 0,.x (.int .i64 0)]) (scO (tyL plT) (clL plC)):=
  Zhq plT plC Zf4 ZgC _ _ (λ_=>⟨rfl,rfl⟩) (λh=>absurd Zgr h)
 refine ZI.mcallsX (fC 11 true ?_) (by first|decide|(simp;done)) hO (by first|rfl|exact hR);intro C0 E0;have uu:=KT @ZHZ @ZHc @ZHX @ZHg @ZCq @ZCX @ZDQ @ZDV (ξ5 @ZAT @ZAQ @Zbb @ZM6.eq_1 @ZM6.eq_2);refine WI.seq ?_;refine WI.regB ZKl [] ?_;refine oS ?_;refine oN ?_;refine ZA ?_;refine WI.seq ?_;refine WI.regB ZKl [1] ?_;refine oG ?_;refine oC ?_;refine oS ?_;refine oN ?_;refine ZA ?_;refine WI.seq ?_;refine WI.regB ZKl [1] ?_;refine oS ?_
 iterate 7 refine oG ?_
 refine oS ?_;refine oN ?_;refine ZA ?_;refine WI.seq ?_;refine WI.pickA [1] ?_;refine WI.cutA ZF [15,29] 15 ?_;simp only[ξU,ZB4,ZDe,ZBk];refine oS ?_
 iterate 14 refine oG ?_
 refine oP ?_;refine Zd7 [0,9] ?_;refine Jf [] ?_;refine ZiQ ?_;refine ZHk ?_;refine WR.regB (ZCV ZF ZVi hnew) [2] ?_;refine oC ?_;refine oS ?_
 iterate 2 refine oG ?_
 iterate 2 refine oS ?_
 refine oN ?_;refine ZA ?_;refine WI.seq ?_;refine WI.regB ZF [0] ?_
 iterate 2 refine oS ?_
 refine oN ?_;refine ZA ?_;refine WI.ret ?_;refine ZBd ?_;exact⟨rfl,[],rfl⟩
def ZFT:J8->J7->J5
 | [.ptr 0 0,.x (.str n)],[.box [.mref 1,.mref 2],.mpo .str true P1,.mpo .str true P2]=>(unM ZB JF P1).bind λL=>(unM ZB Qa P2).bind λM=>some (decide (n.length<=140737488355328),.tup [tyD (tyV L (ZJ n)),.x (.bool (ZG L (ZJ n)).isSome)])
 |_,_=>none
theorem ZPf: ∀args os r,ZFT args os=some (true,r)->r.clean=true/\ ∃X,ZN Tryz.prog 122 args os r (os++X):=by
 intro args os r h;unfold ZFT at h;split at h
 .rename_i n P1 P2;obtain⟨L,hm0,h⟩:=Zv h;obtain⟨M,hm1,h⟩:=Zv h;simp only[Ze,ZZ,ZS,Zd,true_and]at h;obtain⟨h1,rfl⟩:=h;rw[Jd ZP KL hm0];rw[Jd ZP Kw hm1];exact⟨rfl,[],by rw[Ku];exact ZgT L M n h1⟩
 .cases h
def ZHx(L:List (Tx×Zl))(l:List ZY)(p:Av):Bool:=(ZG L (ZJ p.1)).isSome&&ZRr l p.1 p.2 (tyV L (ZJ p.1)).2.1
def ZPM(L:List (Tx×Zl))(dn:Tx)(l:List ZY):Bool:=QF dn&&(decide ((YQ (YV dn)).1≠ [])&&((YQ (YV dn)).1.headD []).all (ZHx L l))
def ZCm:Tabs:=ZHw (ZT (ZT (ZT (ZO) 81 ZEA) 121 Qi) 123 ZMh) 122 ZFT
theorem ZYX:SsOk Tryz.prog ZCm:=ZEs (ZH (ZH (ZH (ZF) (ZW 81) ZMx) (ZW 121) ZHo) (ZW 123) ZT1) (ZW 122) ZPf
theorem Zbd:(∀a,ZCm.q 81 a=ZEA a)/\(∀a,ZCm.q 121 a=Qi a)/\(∀a,ZCm.q 123 a=ZMh a)/\(∀a,ZCm.q 122 a=none)/\(∀a o,ZCm.t 122 a o=(QJ ZFT a o).map λr=>(r.1,r.2,o))/\(∀a o,ZCm.r 122 a o=QJ ZFT a o)/\(∀a o,ZCm.r 121 a o=none)/\(∀a o,ZCm.r 123 a o=none)/\(∀a o,ZCm.r 81 a o=none)/\(∀f a o,ZCm.k f a o=none):=⟨λ_=>rfl,λ_=>rfl,λ_=>rfl,λ_=>rfl,λ_ _=>rfl,λ_ _=>rfl,λ_ _=>rfl,λ_ _=>rfl,λ_ _=>rfl,λ_ _ _=>rfl⟩
theorem Zdr{s:Tx}{r:List Av}(h:r∈(YQ s).1):Yk r=true:=by
 have hz:(YQ s).2=0:=by
  unfold YQ at h|-;split
  .rename_i h1;rw[if_pos h1]at h;cases h
  .rename_i h1;rw[if_neg h1]at h;split
   .rfl
   .rename_i h2;rw[if_neg h2]at h;split
    .rename_i h3;rw[if_pos h3]at h;split
     .rename_i h4;rw[if_pos h4]at h;cases h
     .rename_i h4;rw[if_neg h4]at h;split
      .rename_i h5;rw[if_pos h5]at h;cases h
      .rfl
    .rename_i h3;rw[if_neg h3]at h;cases h
 exact(ZD3 (ZOj s hz)).2 r h
theorem ZE2(Y:J7)(z:Ob)(t:J7):(Y++z::t)[Y.length]? =some z:=by simp
theorem Zfl(Y:J7)(x z:Ob)(t:J7):(Y++x::z::t)[Y.length+1]? =some z:=by rw[QP J0];simp
theorem Zid(Y:J7)(x y z:Ob)(t:J7):(Y++x::y::z::t)[Y.length+1+1]? =some z:=by rw[QP J0];simp[ZGh]
theorem ZVT(Z:J7)(x z:Ob)(t:J7):(Z++x::t).set Z.length z=Z++z::t:=by rw[ZEH _ _ J0];simp
theorem ZiS(Z:J7)(x y z:Ob)(t:J7):(Z++x::y::t).set (Z.length+1) z=Z++x::z::t:=by rw[ZEH _ _ J0];simp
theorem ZhT(Z:J7)(x y:Ob):Z++ [x]++ [y]=Z++ [x,y]:=by simp
def okM(M:List (Tx×Zy)):Prop:= ∀p∈M,p.2.2.1.length<=1000000/\p.2.2.2.1.length<=1000000
instance (M:List (Tx×Zy)):Decidable (okM M):=inferInstanceAs (Decidable (∀p∈M,_))
theorem Zgt{M:List (Tx×Zy)}(h:okM M):bdC M:=by
 intro k;unfold clV;rcases hm:ZG M k with _|c
 .simp
 .have:=h _ (Jx hm);simpa using this
def ZGm(M:List (Tx×Zy))(l:List ZY):Prop:=okM M/\smA l/\ ∀a∈l,∀v∈a.2.1,v.length<=1000000
instance (M:List (Tx×Zy)) (l:List ZY):Decidable (ZGm M l):=inferInstanceAs (Decidable (_/\_/\_))
def Zie(L:List (Tx×Zl)):Prop:=L.length<=1000000/\ ∀p∈L,p.1.length<=1000000
instance (L:List (Tx×Zl)):Decidable (Zie L):=inferInstanceAs (Decidable (_/\_))
theorem ZN.nn{P:Program}{f:FuncId}{args:J8}{os os':J7}{r:D}(h:ZN P f (args.map D.nn) os r os'):ZN P f args os r os':=by
 intro c E vs R hvl;refine h c E vs R ⟨by rw[YX];exact hvl.1,λj d v hd hv=> ?_⟩;rw[YG]at hd;obtain⟨d0,hd0,rfl⟩:=Zc hd;exact(hvl.2 j d0 v hd0 hv).nn
def ZDr:J8->J7->J5
 | [.ptr 0 0,.agg [.x (.str dn),.x (.sl R)]],[.box [.mref 1,.mref 2],.mpo .str true P1,.mpo .str true P2]=>(unM ZB JF P1).bind λL=>(unM ZB Qa P2).bind λM=>(Zb ZX R).bind λl=>some (decide (ZGm M l),.x (.int .i64 (ZKO L M l)))
 |_,_=>none
theorem ZOK: ∀args os r,ZDr args os=some (true,r)->r.clean=true/\ ∃X,ZN Tryz.prog 78 args os r (os++X):=by
 intro args os r h;unfold ZDr at h;split at h
 .rename_i dn R P1 P2;obtain⟨L,hm0,h⟩:=Zv h;obtain⟨M,hm1,h⟩:=Zv h;obtain⟨l,hr0,h⟩:=Zv h;simp only[Ze,ZZ,ZS,Zd,true_and]at h;obtain⟨h1,rfl⟩:=h;rw[Jd ZP KL hm0];rw[Jd ZP Kw hm1];rw[<-Za YR hr0];exact⟨rfl,[],by rw[Ku];exact ZfP L M (dn,l,()) h1.2.1 h1.2.2 (Zgt h1.1)⟩
 .cases h
def ZLJ:Tabs:=ZHw (ZO) 78 ZDr
theorem ZKo:SsOk Tryz.prog ZLJ:=ZEs (ZF) (ZW 78) ZOK
theorem ZbO:(∀a,ZLJ.q 78 a=none)/\(∀a o,ZLJ.t 78 a o=(QJ ZDr a o).map λr=>(r.1,r.2,o))/\(∀a o,ZLJ.r 78 a o=QJ ZDr a o)/\(∀f a o,ZLJ.k f a o=none):=⟨λ_=>rfl,λ_ _=>rfl,λ_ _=>rfl,λ_ _ _=>rfl⟩
def ZFd(L:List (Tx×Zl))(M:List (Tx×Zy))(dn:Tx)(l:List ZY):Int:=if ZKO L M l≠0 then ZKO L M l else if ZPM L dn l=true then 0 else 64
theorem ZVZ:Go.Ab.Enters Tryz.prog 79:=ZW 79
def ZLG:Tabs:=ZT (ZT (ZO) 81 ZEA) 82 ZE8
theorem ZZK:SsOk Tryz.prog ZLG:=ZH (ZH (ZF) (ZW 81) ZMx) (ZW 82) ZTD
theorem Zag:(∀a,ZLG.q 81 a=ZEA a)/\(∀a,ZLG.q 82 a=ZE8 a)/\(∀f a o,ZLG.r f a o=none)/\(∀f a o,ZLG.k f a o=none):=⟨λ_=>rfl,λ_=>rfl,λ_ _ _=>rfl,λ_ _ _=>rfl⟩
theorem Zhe(s t:Tx):ZC Tryz.prog 43 [.x (.str s),.x (.str t)] (.x (.int .i64 (cmpS (YV s) (YV t)))):=by
 refine ZI.pure (fC 43 true ?_) rfl;intro C0 E0;have uu:=ξ5 @ZEA.eq_1 @ZEA.eq_2 @ZE8.eq_1 @ZE8.eq_2 @Zag;have tT:=ZZK;refine nz ?_;refine rg tT [0,1] ?_;refine rg tT [1,5] ?_;refine rg tT [5,7] ?_;refine rg tT [4] ?_;refine lf ?_
 first|rfl|exact⟨rfl,rfl⟩|trivial
def ZPI:J8->J5
 | [.x (.str s),.x (.str t)]=>some (true,.x (.int .i64 (cmpS (YV s) (YV t))))
 |_=>none
theorem Ze7: ∀args r,ZPI args=some (true,r)->ZC Tryz.prog 43 args r:=by
 intro args r h;unfold ZPI at h;split at h
 .rename_i s t;simp only[Ze,ZZ,ZS,Zd,true_and]at h;obtain rfl:=h;exact(Zhe s t)
 .cases h
def Yw(l:List Tx)(s:Tx):Nat:=(l.takeWhile λa=>Op.bytesLess (YV a) (YV s)).length
theorem ZJs(l:List Tx)(s:Tx):Yw l s<=l.length:=(List.takeWhile_sublist _).length_le
theorem ZN4(l:List Tx)(s:Tx)(j:Nat)(h:j<Yw l s):Op.bytesLess (YV (l[j]'(ZPL h (ZJs l s)))) (YV s)=true:=by
 have hp:(l.takeWhile λa=>Op.bytesLess (YV a) (YV s))<+:l:=List.takeWhile_prefix _;have:=Yd.1 (List.all_takeWhile (p:=λa:Tx=>Op.bytesLess (YV a) (YV s)) (l:=l)) _ (YZ (h:=h));rwa [hp.getElem h]at this
theorem ZWc(l:List Tx)(s:Tx)(h:Yw l s<l.length):Op.bytesLess (YV l[Yw l s]) (YV s)=false:=by
 unfold Yw at*
 induction l with
 |nil=>simp at h
 |cons a l ih=>
  by_cases ha:Op.bytesLess (YV a) (YV s)=true
  .simp only[List.takeWhile_cons,ha,if_true,JD]at h|-;simpa using ih J0
  .simp only[List.takeWhile_cons,ha,JM,if_false,ξN];simpa using ha
abbrev SoL(l:List Tx):Prop:=l.Pairwise λa b=>Op.bytesLess (YV a) (YV b)=true
theorem ZU1{l:List Tx}(hs:SoL l)(s:Tx)(h:Nat)(hl:h<l.length):Op.bytesLess (YV l[h]) (YV s)=true↔h<Yw l s:=by
 constructor
 .intro hb;apply ZM0;intro hc;have hle:Yw l s<=h:=by omega
  have hpl:Yw l s<l.length:=by omega
  have hst:=ZWc l s hpl;rcases Nat.lt_or_eq_of_le hle with hlt|heq
  .have:=ZJa.1 hs _ _ hpl hl hlt;rw[bl_trans _ _ _ this hb]at hst;cases hst
  .have:l[Yw l s]=l[h]:=by congr 1
   rw[this,hb]at hst;cases hst
 .intro hb;exact ZN4 l s h hb
def ZVQ(l:List Tx)(s:Tx):Bool:=match l[Yw l s]? with
 |some a=>YV a==YV s
 |none=>false
def ZNj:Tabs:=ZT (ZO) 43 ZPI
theorem ZWn:SsOk Tryz.prog ZNj:=ZH (ZF) (ZW 43) Ze7
theorem Zaz:(∀a,ZNj.q 43 a=ZPI a)/\(∀f a o,ZNj.r f a o=none)/\(∀f a o,ZNj.k f a o=none):=⟨λ_=>rfl,λ_ _ _=>rfl,λ_ _ _=>rfl⟩
theorem ZhU(l:List Tx)(n:Tx)(hs:SoL l)(hl:l.length<=1000000):ZC Tryz.prog 42 [.x (.sl (rows ZB l)),.x (.str n),.fn 43 []] (.tup [.x (.int .i64 (Yw l n)),.x (.bool (ZVQ l n))]):=by
 have hpl:=ZJs l n;have hhit:ZVQ l n=match l[Yw l n]? with|some a=>YV a==YV n|none=>false:=rfl
 refine ZI.pure (fC 42 true ?_) rfl;intro C0 E0;have uu:=JX @ZPI.eq_1 @ZPI.eq_2 @Zaz;have tT:=ZWn;refine nz ?_;refine rg tT [0,1,2] ?_;refine rg tT [0,1,2,8] ?_;refine rg tT [0,1,2,8,9,10] ?_;refine WI.loop (λφ os=> ∃(i j:Nat),φ= [(0,.x (.sl (rows ZB l))),(1,.x (.str n)),(2,.fn 43 []),(8,.x (.int .i64 l.length)),(9,.x (.int .i64 i)),(10,.x (.int .i64 j))]/\os= []/\i<=Yw l n/\Yw l n<=j/\j<=l.length) (dif) ?_ (λφ os hI=> ?_)
 .exact⟨0,l.length,rfl,rfl,J0,hpl,J0⟩
 .obtain⟨i,j,rfl,rfl,hi,hj,hjl⟩:=hI;refine nz ?_;refine rg tT [0,1,2,8,9,10,17] ?_;refine cd (λh0=> ?_) (λh0=> ?_)
  .refine rg tT [0,1,2,8,9,10,11] ?_;have hij:i<j:=by omega
   rw[ZdI i j J0];obtain⟨M,hM⟩: ∃M,M=(i+j)/2:=⟨_,rfl⟩;rw[<-hM];have hMl:M<l.length:=by omega
   have hrw:(rows ZB l)[M]? =some [X.str (l.getD M [])]:=by simp[rows,hMl,ZB]
   have hiff:=ZU1 hs n M hMl;rw[show l[M]=l.getD M [] by simp[hMl],<-ZRW]at hiff;generalize l.getD M []=x at hrw hiff;have uu:=Ya uu hrw;refine rg tT [0,1,2,8,9,10,11,31] ?_;refine cd (λh1=> ?_) (λh1=> ?_)
   .have hlt:M<Yw l n:=hiff.1 (by simpa using h1);refine rg tT [0,1,2,8,9,10] ?_
    first|exact⟨⟨M+1,j,rfl,rfl,J0,J0,J0⟩,by simp[dif,Ab.get,D.val,ZD];omega⟩|exact⟨⟨i,M,rfl,rfl,J0,J0,J0⟩,by simp[dif,Ab.get,D.val,ZD];omega⟩
   .have hlt: ¬M<Yw l n:=λh=>absurd (hiff.2 h) (by simpa using h1)
    refine rg tT [0,1,2,8,9,10] ?_
    first|exact⟨⟨M+1,j,rfl,rfl,J0,J0,J0⟩,by simp[dif,Ab.get,D.val,ZD];omega⟩|exact⟨⟨i,M,rfl,rfl,J0,J0,J0⟩,by simp[dif,Ab.get,D.val,ZD];omega⟩
  .obtain rfl:Yw l n=i:=by omega
   by_cases hk:Yw l n<l.length
   .have hrw:(rows ZB l)[Yw l n]? =some [X.str (l.getD (Yw l n) [])]:=by simp[rows,hk,ZB]
    rw[YA hk,show l[Yw l n]=l.getD (Yw l n) [] by simp[hk]]at hhit;generalize l.getD (Yw l n) []=x at hrw hhit;have hd:=ZL (show((Yw l n:Nat):Int)<(l.length:Int) by omega);have uu:=JX uu hrw hd;refine rg tT [6,7] ?_;refine lf ?_;have hcb:(cmpS (YV x) (YV n)==0)=(YV x==YV n):=by rw[Qq];simp[ZQm]
    rw[hhit,hcb]
   .have hrw:(rows ZB l)[Yw l n]? =none:=ZA2 (by rw[Zh];omega);rw[ZA2 J0]at hhit;have hd:=decide_eq_false (show ¬((Yw l n:Nat):Int)<(l.length:Int) by omega);have uu:=JX uu hrw hd;refine rg tT [6,7] ?_;refine lf ?_;rw[hhit]
def ZJf:J8->J5
 | [.x (.sl R),.x (.str n),.fn 43 []]=>(Zb ZB R).bind λl=>some (decide (SoL l/\l.length<=1000000),.tup [.x (.int .i64 (Yw l n)),.x (.bool (ZVQ l n))])
 |_=>none
theorem ZUl: ∀args r,ZJf args=some (true,r)->ZC Tryz.prog 42 args r:=by
 intro args r h;unfold ZJf at h;split at h
 .rename_i R n;obtain⟨l,hr0,h⟩:=Zv h;simp only[Ze,ZZ,ZS,Zd,true_and]at h;obtain⟨h1,rfl⟩:=h;rw[<-Za ZP hr0];exact(ZhU l n h1.1 h1.2)
 .cases h
end Go.Proofs.YtiogclkbccdefaaGreatDoor
end
section
namespace Go.Ab
open Go.RowKit Go.Bo
theorem ZS5{P:Program}{f:FuncId}(OS:J7)(id:Nat)(dk:KK)(ag:Bool)(l:W2)(ho:OS[id]? =some (.mpo dk ag l))(hraw: ∀(b:Nat) (es:Array MapEntry) (clk:Nat) (w:World),w.heap[b]? =some (.map es clk)->Calls P f #[.map (some b)] w λe w'=>e= .returned (.map (some w.heap.size))/\w'=w.alloc (.map es clk)):
  ZCi P f [.mref id] OS (λj=> .mref j) (.mpo dk ag l):=by
 intro Y jd c E vs hd R hvl;obtain⟨hsz,hv⟩:=hvl;obtain⟨v0,rfl⟩: ∃v0,vs= #[v0]:=by
  obtain⟨vl⟩:=vs
  match vl,hsz with
  | [a],_=>exact⟨a,rfl⟩
 have h0:=hv 0 _ v0 rfl rfl;have ho':(OS++Y)[id]? =some (.mpo dk ag l):=by rw[Yc (ZV ho).1];exact ho
 obtain⟨p,hp,hok⟩:=R.at ho';obtain⟨es,clk,k1,k2⟩:=YE.copied (b:=p.1) hok;cases h0 with
 |mref ho2 hk hb=>
  rw[hp]at hb;cases hb;refine(hraw _ es clk E.w k1).mono ?_;rintro e w' ⟨rfl,rfl⟩;obtain⟨E',q1,q2,q3,q4⟩:=ZRn (dk:=dk) (ag:=ag) (l:=l) R hd es clk (λE' os' ev hw=>k2 E' os' _ ev (by rw[hw];exact heap_alloc_new _ _));exact⟨_,E',rfl,q1,q2,q3,q4⟩
def ZQu(S:Tabs)(f:FuncId)(g:J8->J7->Option (Bool×(Nat->D)×Ob)):Tabs:=⟨S.q,S.t,S.r,λf' args os=>if f'=f then g args os else S.k f' args os⟩
theorem ZRs{P:Program}{S:Tabs}(hS:SsOk P S){f:FuncId}{g:J8->J7->Option (Bool×(Nat->D)×Ob)}(he:Enters P f)(hg: ∀args os r ob,g args os=some (true,r,ob)->ZCi P f args os r ob):SsOk P (ZQu S f g):=by
 refine⟨hS.q,hS.t,hS.r,λf' args os r ob h=> ?_⟩;simp only[ZQu]at h;split at h
 .rename_i e;subst e;exact⟨he,hg _ _ _ _ h⟩
 .exact hS.k _ _ _ _ _ h
end Go.Ab
namespace Go.Proofs.YtiogclkbccdefaaGreatDoor
open Go.RowKit Go.Bo Go.Ab
def ZVj:J8->J7->Option (Bool×D×J7)
 | [.ref 0 n 0 n',.x (.int .i64 i),.ref 1 1 0 1],[.rows false e 1 rs,.rows false e' 1 [r]]=>some (decide (n=rs.length/\n'=rs.length/\0<=i/\i<=rs.length/\rs.length<=1000000/\e=9/\e'=9),.ref 0 (n+1) 0 (n+1),[.rows false e 1 (YN rs i.toNat [r]),.rows false e' 1 [r]])
 |_,_=>none
theorem ZQ7: ∀args os r os',ZVj args os=some (true,r,os')->ZN Tryz.prog 44 args os r os':=by
 intro args os r os' h;unfold ZVj at h;split at h
 .rename_i n n' i e rs e' r0;simp only[Ze,ZZ,Zd]at h;obtain⟨⟨rfl,rfl,h0,h1,h2,rfl,rfl⟩,rfl,rfl⟩:=h;have h:=ZZy rs r0 i.toNat J0 h2;rwa [show((i.toNat:Nat):Int)=i by omega]at h
 .cases h
theorem ZWs(r:J9):ZN Tryz.prog 44 [.x .nils,.x (.int .i64 0),.ref 0 1 0 1] [.rows false 9 1 [r]] (.ref 1 1 0 1) [.rows false 9 1 [r],.rows false 9 1 [r]]:=by
 intro c E vs R hvl;obtain⟨E1,k1,k2,k3,k4⟩:=Qu (fz:=false) (e:=9) (sz:=1) (rs:= []) (cu:= .slice none 0 0) (xs:= []) R (Kept.refl _ E.w) ⟨J1,.inl ⟨rfl,rfl⟩⟩ (λb hb=>by cases hb) (λr hr=>by cases hr) (λi r j x v h=>by simp at h);have h:=ZN.lift ZQ7 [.ref 1 0 0 0,.x (.int .i64 0),.ref 0 1 0 1] [.rows false 9 1 [r],.rows false 9 1 []] (.ref 1 1 0 1) [.rows false 9 1 [r],.rows false 9 1 [r]] rfl;refine k1▸(h c E1 vs k2 ⟨hvl.1,λj d v hd hv=> ?_⟩).mono ?_
 .match j with
  |0=>cases hd;have:=V.nils (hvl.2 0 _ v rfl hv);subst this;exact k4
  |j+1=>exact(hvl.2 (j+1) d v hd hv).mono k3
 .rintro e w' ⟨v,E2,rfl,rfl,R2,e2,hv⟩;exact⟨v,E2,rfl,rfl,R2,k3.trans e2,hv⟩
def ZWT:J8->J7->Option (Bool×D×J7)
 | [.x .nils,.x (.int .i64 0),.ref 0 1 0 1],[.rows false e 1 [r]]=>some (decide (e=9),.ref 1 1 0 1,[.rows false e 1 [r],.rows false e 1 [r]])
 |a,o=>ZVj a o
theorem ZcE: ∀args os r os',ZWT args os=some (true,r,os')->ZN Tryz.prog 44 args os r os':=by
 intro args os r os' h;unfold ZWT at h;split at h
 .simp only[Ze,ZZ,Zd]at h;obtain⟨rfl,rfl,rfl⟩:=h;exact ZWs _
 .exact ZQ7 _ _ _ _ h
def ZVV:J8->J7->Option (Bool×D×J7)
 | [.ref 0 n 0 n',.fn 56 [.ptr 1 0]],[.rows false e 1 R,.box [.x (.str s)]]=>(Zb ZB R).map λl=>(decide (n=l.length/\n'=l.length/\e=9/\l.length<=1000000/\l≠ []),.ref 2 (Jp l s).length 0 (Jp l s).length,[.old 1 (l.length+1),.box [.x (.str s)],.rows false 9 1 (rows ZB (Jp l s))])
 |_,_=>none
theorem Zbk: ∀args os r os',ZVV args os=some (true,r,os')->ZN Tryz.prog 55 args os r os':=by
 intro args os r os' h;unfold ZVV at h;split at h
 .rename_i n n' e R s;obtain⟨l,h1,h⟩:=Zc h;simp only[ZZ,Zd]at h;obtain⟨⟨rfl,rfl,rfl,h2,h3⟩,rfl,rfl⟩:=h;rw[<-Za ZP h1];exact ZXs l s h2 h3
 .cases h
def ZGw:J8->J7->Option (Bool×D×J7)
 | [],[]=>some (true,.ptr 0 0,[.box [.mref 1,.mref 2],.mpo .str true (JQ (tyL plT)),.mpo .str true (JL (clL plC))])
 |_,_=>none
theorem ZQC: ∀args os r os',ZGw args os=some (true,r,os')->ZN Tryz.prog 11 args os r os':=by
 intro args os r os' h;unfold ZGw at h;split at h
 .cases h;exact Zd4
 .cases h
def ZgE(dc:Tx):List ZY:= [([111,98,106,101,99,116,99,108,97,115,115],[[100,111,109,97,105,110]],()),([100,99],[dc],())]
theorem Za0(dn dc:Tx):ZC Tryz.prog 13 [.x (.str dn),.x (.str dc)] (.agg [.x (.str dn),.x (.sl (rows ZX (ZgE dc)))]):=evP 300 13 ZF []
def ZO6:J8->J5
 | [.x (.str dn),.x (.str dc)]=>some (true,.agg [.x (.str dn),.x (.sl (rows ZX (ZgE dc)))])
 |_=>none
theorem ZU9: ∀args r,ZO6 args=some (true,r)->ZC Tryz.prog 13 args r:=by
 intro args r h;unfold ZO6 at h;split at h
 .rename_i dn dc;simp only[Ze,ZZ,ZS,Zd,true_and]at h;obtain rfl:=h;exact(Za0 dn dc)
 .cases h
def ZWy:Tabs:=Jz (Jz (ZHw (ZHw (ZT (ZT (ZT (ZT (ZT (ZT (Jz (ZT (ZO) 13 ZO6) 11 ZGw) 39 ZC1) 81 ZEA) 121 Qi) 123 ZMh) 41 KN) 42 ZJf) 122 ZFT) 78 ZDr) 44 ZWT) 55 ZVV
theorem ZYU:SsOk Tryz.prog ZWy:=JE (JE (ZEs (ZEs (ZH (ZH (ZH (ZH (ZH (ZH (JE (ZH (ZF) (ZW 13) ZU9) (ZW 11) ZQC) (ZW 39) ZNx) (ZW 81) ZMx) (ZW 121) ZHo) (ZW 123) ZT1) (ZW 41) ZF8) (ZW 42) ZUl) (ZW 122) ZPf) (ZW 78) ZOK) (ZW 44) ZcE) (ZW 55) Zbk
def ZPE:J8->J7->Option (Bool×(Nat->D)×Ob)
 | [.mref id],os=>match os[id]? with
  |some (.mpo .str true l)=>some (true,λj=> .mref j,.mpo .str true l)
  |_=>none
 |_,_=>none
theorem ZWJ: ∀args os r ob,ZPE args os=some (true,r,ob)->ZCi Tryz.prog 46 args os r ob:=by
 intro args os r ob h;unfold ZPE at h;split at h
 .split at h
  .rename_i h1;cases h;exact ZS5 _ _ .str true _ h1 (λb es clk w hb=>AnyW.maps_Clone Tryz.clMap b es clk w hb)
  .cases h
 .cases h
def ZPG:J8->J7->Option (Bool×(Nat->D)×Ob)
 | [.ref id n 0 n'],os=>match os[id]? with
  |some (.rows _ _ 1 R)=>(Zb ZB R).map λl=>(decide (n=l.length/\n'=l.length/\l.length<=1000000),λj=> .ref j n 0 n,.rows false 9 1 R)
  |_=>none
 |_,_=>none
theorem ZVs: ∀args os r ob,ZPG args os=some (true,r,ob)->ZCi Tryz.prog 47 args os r ob:=by
 intro args os r ob h;unfold ZPG at h;split at h
 .split at h
  .rename_i h1;obtain⟨l,h2,h⟩:=Zc h;simp only[ZZ,Zd]at h;obtain⟨⟨rfl,rfl,h3⟩,rfl,rfl⟩:=h;rw[<-Za ZP h2]at h1|-;exact ZSS _ _ _ _ l h1 h3
  .cases h
 .cases h
def ZIl:Tabs:=ZQu (ZQu ZWy 46 ZPE) 47 ZPG
theorem ZLF:SsOk Tryz.prog ZIl:=ZRs (ZRs ZYU (ZW 46) ZWJ) ZJ4 ZVs
abbrev Jl(P1 P2:W2)(Y:J7):J7:= .box [.ptr 1 0,.mref 4,.mref 5]:: .box [.mref 2,.mref 3]:: .mpo .str true P1:: .mpo .str true P2::Y
abbrev TB:=Tx×Nat×List Tx
def YU(x:TB):Pr:=([.str x.1],[.ref (x.2.1+6) x.2.2.length 0 x.2.2.length])
def YK(x:TB):Tx×List Tx:=(x.1,x.2.2)
def okB(Y:J7)(B:List TB):Prop:=(B.map (·.1)).Nodup/\(B.map (·.2.1)).Nodup/\ ∀x∈B,Y[x.2.1]? =some (.rows false 9 1 (rows ZB x.2.2))/\x.2.2.length<=1000000
def cpB:Nat->List (Tx×List Tx)->W2
 |_,[]=> []
 |k,x::l=>([.str x.1],[.ref k x.2.length 0 x.2.length])::cpB (k+1) l
theorem ZSY: ∀(l:List (Tx×List Tx)) (k:Nat) (x:Tx×List Tx),cpB k (l++ [x])=cpB k l++ [([.str x.1],[.ref (k+l.length) x.2.length 0 x.2.length])]
 | [],k,x=>rfl
 |y::l,k,x=>by rw[Qx,cpB,ZSY l,cpB,JD,show k+1+l.length=k+(l.length+1) by omega];rfl
theorem ZUd: ∀(l:List (Tx×List Tx)) (k:Nat) (s:Tx) (v:J8),s∉l.map (·.1)->Yb (cpB k l) [.str s] v=cpB k l++ [([.str s],v)]
 | [],k,s,v,_=>rfl
 |y::l,k,s,v,h=>by
  rw[YL,KB,not_or]at h;have hne:ZBz [X.str s] [X.str y.1]=false:=by simp[ZBz,X.keq,h.1]
  have ih:=ZUd l (k+1) s v h.2;simp only[cpB,Yb,hne,JM,if_false,ih,Qx]
theorem ZT7{α:Type}: ∀(l:List α) (i:Nat) (a:α),l[i]? =some a->(a::l.eraseIdx i).Perm l
 |b::l,0,a,h=>by cases h;exact ZJr _
 |b::l,i+1,a,h=>(List.Perm.swap b a _).trans ((ZT7 l i a (by simpa using h)).cons b)
theorem ZY9{α β:Type}(f:α->β): ∀(l:List α) (i:Nat),(l.map f).eraseIdx i=(l.eraseIdx i).map f
 | [],i=>rfl
 |b::l,0=>rfl
 |b::l,i+1=>by simp only[YL,ZaU,ZY9 f l i]
def rwB(l:List (Tx×List Tx)):J7:=l.map λx=> .rows false 9 1 (rows ZB x.2)
def cpO(P1 P2 m:W2)(Y:J7)(o:Ob)(l:List (Tx×List Tx)):J7:=Jl P1 P2 (.mpo .str true m::o::(Y++ .mpo .str true m:: .mpo .str false (cpB (Y.length+10) l):: .box [.ptr 1 0,.mref (Y.length+6),.mref (Y.length+7)]:: .itr::rwB l))
theorem Zew(l:List (Tx×List Tx))(B':List TB)(i:Nat)(b:TB)(hb:B'[i]? =some b):(l++ [YK b]++(B'.eraseIdx i).map YK).Perm (l++B'.map YK):=by
 rw[Yh];exact List.Perm.append_left l ((ZT7 B' i b hb).map YK)
theorem ZUv(P1 P2 m:W2)(B:List TB)(Y:J7)(B':List TB)(l:List (Tx×List Tx))(i:Nat)(b:TB)(hb:B'[i]? =some b)(hp:(l++B'.map YK).Perm (B.map YK))(hn:(B.map (·.1)).Nodup)(OS:J7)
  (hOS:OS=cpO P1 P2 m Y (.mit .str false (B.map YU) (Y.length+9) ((B'.map YU).eraseIdx i) (some (YU b))) l):
  (OS++ [Ob.rows false 9 1 (rows ZB b.2.2)]).set (Y.length+7) (.mpo .str false (Yb (cpB (Y.length+10) l) [.str b.1] [.ref (Y.length+10+l.length) b.2.2.length 0 b.2.2.length]))=cpO P1 P2 m Y (.mit .str false (B.map YU) (Y.length+9) ((B'.eraseIdx i).map YU) (some (YU b))) (l++ [YK b]):=by
 have hno:b.1∉l.map (·.1):=by
  intro hin;have h1:((l++B'.map YK).map (·.1)).Nodup:=(hp.map (·.1)).nodup_iff.2 (by rw[Js];exact hn);rw[Jt]at h1;exact(ZGy.1 h1).2.2 _ hin _ (YO.2 ⟨YK b,YO.2 ⟨b,Yl hb,rfl⟩,rfl⟩) rfl
 rw[ZUd _ _ _ _ hno,hOS];have he:(B'.map YU).eraseIdx i=(B'.eraseIdx i).map YU:=ZY9 YU B' i;have hs:(cpB (Y.length+10) l)++ [([X.str b.1],[D.ref (Y.length+10+l.length) b.2.2.length 0 b.2.2.length])]=cpB (Y.length+10) (l++ [YK b]):=by rw[ZSY];rfl
 have hr:rwB (l++ [YK b])=rwB l++ [Ob.rows false 9 1 (rows ZB b.2.2)]:=by simp[rwB,YK]
 rw[hs,he];unfold cpO Jl;rw[hr];simp only[Qx,ZBX,Yh];rw[ZEH _ _ J0];simp
theorem Zhw(P1 P2 m:W2)(B:List TB)(Y:J7)(B':List TB)(l:List (Tx×List Tx))(i:Nat)(b:TB)(hb:B'[i]? =some b)(φ:J4)(cur:Option Pr):ZPN 5 φ (cpO P1 P2 m Y (.mit .str false (B.map YU) (Y.length+9) ((B'.eraseIdx i).map YU) (some (YU b))) (l++ [YK b]))<ZPN 5 φ (cpO P1 P2 m Y (.mit .str false (B.map YU) (Y.length+9) (B'.map YU) cur) l):=by
 have:=(ZV hb).1;simp only[ZPN,cpO,ZCk,ZCs,YX,ZV4];rw[if_pos this];omega
def CpP(P1 P2 m:W2)(B:List TB)(Y:J7)(r:D)(os':J7):Prop:=
 ∃l:List (Tx×List Tx),l.Perm (B.map YK)/\r= .ptr (Y.length+8) 0/\os'=cpO P1 P2 m Y (.mpo .str false (B.map YU)) l
set_option maxHeartbeats 4000000 in
theorem Zga(P1 P2 m:W2)(B:List TB)(Y:J7)(hB:okB Y B):ZI Tryz.prog 19 [.ptr 0 0] (Jl P1 P2 (.mpo .str true m:: .mpo .str false (B.map YU)::Y)) (CpP P1 P2 m B Y):=by
 have hck:=ZS5 (P:=Tryz.prog) (f:=46) (Jl P1 P2 (.mpo .str true m:: .mpo .str false (B.map YU)::Y)) 4 .str true m rfl (λb es clk w hb=>AnyW.maps_Clone Tryz.clMap b es clk w hb);refine fC 19 false ?_;intro C0 E0;have uu:=ξ4 @Zhv @Zhx @Zhz @Zhs;refine WI.seq ?_;refine WI.regB ZF [0] ?_;refine oS ?_;refine oN ?_;refine ZA ?_;refine WI.seq ?_;refine WI.seq ?_;refine WI.regB ZF [0,7] ?_;refine oS ?_;refine oG ?_;refine oN ?_;refine ZA ?_;refine WI.cond (b:=_) rfl rfl (λh0=> ?_) (λh0=> ?_)
 .exfalso;simp at h0
 .try simp only[zB]at h0
  refine WI.skip ?_;refine ZA ?_;refine WI.seq ?_;refine WI.dregB (ZX1 ZF (ZW 46) hck) [0,3] ?_
  iterate 3 refine Zs ?_
  refine Yp ?_
  iterate 3 refine Zs ?_
  refine Yp ?_;refine dKC ?_;refine dKG ?_;refine Jq ?_;refine dAG ?_;refine Zs ?_;refine dN ?_;refine ZA ?_;refine WI.seq ?_;refine WI.seq ?_;refine WI.regB ZF [3,24] ?_
  iterate 3 refine oS ?_
  iterate 2 refine oG ?_
  refine oN ?_;refine ZA ?_;refine WI.block ?_;have hz: ∀(o:Ob) (Z:J7),Y++ [Ob.mpo .str true m]++ [Ob.mpo .str false []]++ [o]++Z=Y++(Ob.mpo .str true m::Ob.mpo .str false []::o::Z):=λo Z=>by simp
  simp only[hz,Yh,Qx,ZAR,Zf,JD,ξN,JW,ZGh,Nat.reduceAdd];refine WI.loop (λφ os=> ∃(B':List TB) (l:List (Tx×List Tx)) (cur:Option Pr),φ= [(3,.ptr (Y.length+8) 0),(24,.iref 5 (Y.length+9))]/\os=cpO P1 P2 m Y (.mit .str false (B.map YU) (Y.length+9) (B'.map YU) cur) l/\(l++B'.map YK).Perm (B.map YK)/\ ∀b∈B',b∈B) (ZPN 5) ?_ (λφ os hI=> ?_)
  .exact⟨B,[],none,rfl,rfl,ZJr _,λb hb=>hb⟩
  .obtain⟨B',l,cur,rfl,rfl,hp,hm⟩:=hI;rw[cpO];refine WI.seq ?_;refine WI.nextMA [3,24,26] (λhn5=> ?_) (λi5 q5 hn5=> ?_)
   .obtain rfl:B'= []:=Zbz.1 hn5;refine ZA ?_;refine WI.seq ?_;refine WI.cond (b:=_) rfl rfl (λh1=> ?_) (λh1=> ?_)
    .exact absurd h1 (by decide)
    .try simp only[zB]at h1
     refine WI.exit ?_;refine QL ?_;refine QL ?_;refine ZC3 ?_;refine ZA ?_;refine WI.seq ?_;refine WI.thawA 5 ?_;refine WI.regB ZF [2] ?_
     iterate 2 refine oS ?_
     refine oN ?_;refine ZA ?_;refine WI.ret ?_
     first|refine lfR ?_|refine ZB5 ?_|refine ZBd ?_|refine ZB7 ?_
     exact⟨l,by rw[ZAD,Ku]at hp;exact hp,rfl,rfl⟩
   .rw[YG]at hn5;obtain⟨b,hb,rfl⟩:=Zc hn5;refine ZA ?_;refine WI.seq ?_;refine WI.cond (b:=_) rfl rfl (λh1=> ?_) (λh1=> ?_)
    .try simp only[zB]at h1
     refine WI.skip ?_;refine ZA ?_;refine WI.block ?_;refine WI.seq ?_;refine WI.regB ZF [3,4,5,24] ?_
     iterate 3 refine oG ?_
     iterate 2 refine oS ?_
     refine oN ?_;refine ZA ?_;have hbB:=hm b (Yl hb);obtain⟨hrow,hbl⟩:=hB.2.2 b hbB;have hkd:keyD .str (YU b).fst= .x (.str b.1):=rfl;have hcd:ZFC false (YU b).snd= .ref (b.2.1+6) b.2.2.length 0 b.2.2.length:=rfl;obtain⟨OS,hOS⟩: ∃OS,OS=cpO P1 P2 m Y (.mit .str false (B.map YU) (Y.length+9) ((B'.map YU).eraseIdx i5) (some (YU b))) l:=⟨_,rfl⟩;unfold cpO Jl at hOS;rw[hkd,hcd,<-hOS];have h8:OS[Y.length+8]? =some (.box [.ptr 1 0,.mref (Y.length+6),.mref (Y.length+7)]):=by rw[hOS];simp[QP]
     have hol:OS.length=Y.length+10+l.length:=by rw[hOS];simp[rwB];omega
     have h7: ∀o:Ob,(OS++ [o])[Y.length+7]? =some (.mpo .str false (cpB (Y.length+10) l)):=λo=>by rw[hOS];simp[QP]
     have hr6:OS[b.2.1+6]? =some (.rows false 9 1 (rows ZB b.2.2)):=by
      rw[hOS];show(Y++_)[b.2.1]? =_;rw[Yc (ZV hrow).1];exact hrow
     have hck:=ZSS OS (b.2.1+6) false 9 b.2.2 hr6 hbl;have uu:=ξ6 uu h8 hol h7 hr6 (Zh ZB b.2.2);refine WI.dregB (ZX1 ZF ZJ4 hck) [3,24] ?_
     iterate 3 refine Zs ?_
     refine Yp ?_
     iterate 2 refine Zs ?_
     refine dKC ?_;refine dAG ?_;refine dN ?_;refine Qs ?_;refine ZA ?_;exact⟨⟨B'.eraseIdx i5,l++ [YK b],_,rfl,ZUv P1 P2 m B Y B' l i5 b hb hp hB.1 OS hOS,(Zew l B' i5 b hb).trans hp,λb hb=>hm b (List.mem_of_mem_eraseIdx hb)⟩,by rw[ZUv P1 P2 m B Y B' l i5 b hb hp hB.1 OS hOS];exact Zhw P1 P2 m B Y B' l i5 b hb _ _⟩
    .exact absurd h1 (by decide)
end Go.Proofs.YtiogclkbccdefaaGreatDoor
end
