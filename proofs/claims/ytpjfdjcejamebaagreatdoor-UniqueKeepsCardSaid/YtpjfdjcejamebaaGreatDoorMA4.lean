import Derived.Test.YtpjfdjcejamebaaGreatDoorLA5
import Derived.Test.YtpjfdjcejamebaaGreatDoorSh
import Derived.Sort.KeysCollected
import Derived.Shelf.SlIter.Sorted
import Derived.Test.YtpjfdjcejamebaaGreatDoorMA3
import Derived.Test.YtpjfdjcejamebaaGreatDoorMA2
import Derived.Test.YtpjfdjcejamebaaGreatDoorMA1
import Derived.Test.YtpjfdjcejamebaaGreatDoorProg
import Derived.Test.YtpjfdjcejamebaaGreatDoorLA6
set_option linter.unusedSimpArgs false
set_option linter.unusedVariables false
set_option maxRecDepth 100000
section
namespace Go.Proofs.YtpjfdjcejamebaaGreatDoor
open Go.RowKit Go.Bo Go.Ab
theorem ZLY(l:List Tx)(x:Tx):rows ZA (l++ [x])=rows ZA l++ [[X.str x]]:=by simp[rows,ZA]
theorem ZRT(l:List Zi)(j:Nat)(h:j<l.length):(rows Yd l)[j]? =some [X.str (l.getD j ([],0,false,())).1,X.int .i64 (l.getD j ([],0,false,())).2.1,X.bool (l.getD j ([],0,false,())).2.2.1]:=by
 simp[rows,h,Yd,Jh,ZA,ZDq,ZN0,ZA0]
theorem ZZA(l:List Zt)(j:Nat)(h:j<l.length):(rows Jy l)[j]? =some [X.str (l.getD j ([],[],[],())).1,X.sl (rows ZA (l.getD j ([],[],[],())).2.1),X.sl (rows ZA (l.getD j ([],[],[],())).2.2.1)]:=by
 simp[rows,h,Jy,Jh,ZA,rSl,ZA0]
theorem ZhI(n:Tx)(k:Int)(b:Bool):ZC Tryz.prog 77 [.agg [.x (.str n),.x (.int .i64 k),.x (.bool b)]] (.x (.str n)):=by
 refine ZI.pure (fC 77 true ?_) rfl;intro C0 E0;have uu:=trivial;have tT:=(ZD:SsOk Tryz.prog ZO);refine nz ?_;refine rg tT [1] ?_;refine rg tT [2] ?_;refine lf ?_
 first|rfl|exact⟨rfl,rfl⟩|trivial
theorem ZgY(n:Tx)(R R':J6):ZC Tryz.prog 80 [.agg [.x (.str n),.x (.sl R),.x (.sl R')]] (.x (.str n)):=by
 refine ZI.pure (fC 80 true ?_) rfl;intro C0 E0;have uu:=trivial;have tT:=(ZD:SsOk Tryz.prog ZO);refine nz ?_;refine rg tT [1] ?_;refine rg tT [2] ?_;refine lf ?_
 first|rfl|exact⟨rfl,rfl⟩|trivial
theorem ZhR:ZC Tryz.prog 81 [] (.x (.int .i64 0)):=by
 refine ZI.pure (fC 81 true ?_) rfl;intro C0 E0;have uu:=trivial;have tT:=(ZD:SsOk Tryz.prog ZO);refine nz ?_;refine rg tT [] ?_;refine rg tT [0] ?_;refine lf ?_
 first|rfl|exact⟨rfl,rfl⟩|trivial
def ZFZ:J8->J5
 | [.agg [.x (.str n),.x (.int .i64 k),.x (.bool b)]]=>some (true,.x (.str n))
 |_=>none
theorem ZbK: ∀args r,ZFZ args=some (true,r)->ZC Tryz.prog 77 args r:=by
 intro args r h;unfold ZFZ at h;split at h
 .rename_i n k b;simp only[Ze,Za,ZT,Zc,true_and]at h;obtain rfl:=h;exact(ZhI n k b)
 .cases h
def ZFQ:J8->J5
 | [.agg [.x (.str n),.x (.sl R),.x (.sl T)]]=>some (true,.x (.str n))
 |_=>none
theorem Zar: ∀args r,ZFQ args=some (true,r)->ZC Tryz.prog 80 args r:=by
 intro args r h;unfold ZFQ at h;split at h
 .rename_i n R T;simp only[Ze,Za,ZT,Zc,true_and]at h;obtain rfl:=h;exact(ZgY n R T)
 .cases h
def ZGc:Tabs:=ZR (ZR (ZR (ZO) 37 YA) 77 ZFZ) 80 ZFQ
theorem ZKK:SsOk Tryz.prog ZGc:=ZG (ZG (ZG (ZD) (ZU 37) ZAt) (ZU 77) ZbK) (ZU 80) Zar
theorem ZLC:(∀a,ZGc.q 37 a=YA a)/\(∀a,ZGc.q 77 a=ZFZ a)/\(∀a,ZGc.q 80 a=ZFQ a)/\(∀f a o,ZGc.r f a o=none)/\(∀f a o,ZGc.k f a o=none):=⟨λ_=>rfl,λ_=>rfl,λ_=>rfl,λ_ _ _=>rfl,λ_ _ _=>rfl⟩
theorem ZfG(l:List Tx)(hl:l.length<=100000)(hn: ∀x∈l,x.length<=140737488355328):ZC Tryz.prog 46 [.x (.sl (rows ZA l)),.fn 37 []] (.x (.sl (rows ZA (l.map ZH)))):=by
 refine ZI.pure (fC 46 true ?_) rfl;intro C0 E0;have uu:=ξ7 @YA.eq_1 @YA.eq_2 @ZLC @ZFZ.eq_1 @ZFZ.eq_2 @ZFQ.eq_1 @ZFQ.eq_2;have tT:=ZKK;refine nz ?_;refine rg tT [0,1] ?_;refine rg tT [0,1,5] ?_;refine rg tT [1,5,8,9,10] ?_;refine WI.ownA 5 9 1 ?_;refine WI.loop (λφ os=> ∃(j:Nat),φ= [(1,.fn 37 []),(5,.ref 0 ((l.take j).map ZH).length 0 ((l.take j).map ZH).length),(8,.x (.sl (rows ZA l))),(9,.x (.int .i64 l.length)),(10,.x (.int .i64 j))]/\os= [.rows false 9 1 (rows ZA ((l.take j).map ZH))]/\j<=l.length) (ZK l.length 10) ?_ (λφ os hI=> ?_)
 .exact⟨0,rfl,rfl,J0⟩
 .obtain⟨j,rfl,rfl,hj⟩:=hI;refine nz ?_;refine rg tT [1,5,8,9,10,11] ?_;refine cd (λh0=> ?_) (λh0=> ?_)
  .have hj4:j<l.length:=by omega
   have hrw:=ZAg l j hj4;have htk:(l.take (j+1)).map ZH=(l.take j).map ZH++ [ZH (l.getD j [])]:=by rw[Jg hj4,Ji];simp[hj4]
   have hd:=ZL (hn (l.getD j []) (by rw[show l.getD j []=l[j] by simp[hj4]];exact YM hj4));have hlen:((l.take j).map ZH).length=j:=by rw[Yb,Yu];omega
   have hlen2:((l.take j).map ZH).length<=100000:=by rw[hlen];omega
   generalize l.getD j []=x at hrw htk hd;have uu:=JW uu hrw hd;refine rg tT [1,5,7,8,9,10] ?_;refine rg tT [1,5,8,9,10] ?_;refine WI.pickA [0] ?_;refine rg tT [1,5,8,9,10] ?_;exact⟨⟨j+1,by rw[htk,Zg];rfl,by rw[htk,ZLY],J0⟩,by simp[ZK,Ab.get,D.val,ZE];omega⟩
  .obtain rfl:j=l.length:=by omega
   rw[JS];refine rg tT [4] ?_;refine WI.freezeA [0] ?_;refine WI.pickA [] ?_;refine lf ?_
   first|rfl|exact⟨rfl,rfl⟩|trivial
theorem Zf0(l:List Zi)(hl:l.length<=100000):ZC Tryz.prog 76 [.x (.sl (rows Yd l)),.fn 77 []] (.x (.sl (rows ZA (l.map (·.1))))):=by
 refine ZI.pure (fC 76 true ?_) rfl;intro C0 E0;have uu:=ξ7 @ZFZ.eq_1 @ZFZ.eq_2 @ZLC @ZFQ.eq_1 @ZFQ.eq_2 @YA.eq_1 @YA.eq_2;have tT:=ZKK;refine nz ?_;refine rg tT [0,1] ?_;refine rg tT [0,1,5] ?_;refine rg tT [1,5,8,9,10] ?_;refine WI.ownA 5 9 1 ?_;refine WI.loop (λφ os=> ∃(j:Nat),φ= [(1,.fn 77 []),(5,.ref 0 ((l.take j).map (·.1)).length 0 ((l.take j).map (·.1)).length),(8,.x (.sl (rows Yd l))),(9,.x (.int .i64 l.length)),(10,.x (.int .i64 j))]/\os= [.rows false 9 1 (rows ZA ((l.take j).map (·.1)))]/\j<=l.length) (ZK l.length 10) ?_ (λφ os hI=> ?_)
 .exact⟨0,rfl,rfl,J0⟩
 .obtain⟨j,rfl,rfl,hj⟩:=hI;refine nz ?_;refine rg tT [1,5,8,9,10,11] ?_;refine cd (λh0=> ?_) (λh0=> ?_)
  .have hj4:j<l.length:=by omega
   have hrw:=ZRT l j hj4;have htk:(l.take (j+1)).map (·.1)=(l.take j).map (·.1)++ [(l.getD j ([],0,false,())).1]:=by rw[Jg hj4,Ji];simp[hj4]
   have hlen:((l.take j).map (·.1)).length=j:=by rw[Yb,Yu];omega
   have hlen2:((l.take j).map (·.1)).length<=100000:=by rw[hlen];omega
   generalize l.getD j ([],0,false,())=x at hrw htk;have uu:=YZ uu hrw;refine rg tT [1,5,7,8,9,10] ?_;refine rg tT [1,5,8,9,10] ?_;refine WI.pickA [0] ?_;refine rg tT [1,5,8,9,10] ?_;exact⟨⟨j+1,by rw[htk,Zg];rfl,by rw[htk,ZLY],J0⟩,by simp[ZK,Ab.get,D.val,ZE];omega⟩
  .obtain rfl:j=l.length:=by omega
   rw[JS];refine rg tT [4] ?_;refine WI.freezeA [0] ?_;refine WI.pickA [] ?_;refine lf ?_
   first|rfl|exact⟨rfl,rfl⟩|trivial
theorem ZeT(l:List Zt)(hl:l.length<=100000):ZC Tryz.prog 79 [.x (.sl (rows Jy l)),.fn 80 []] (.x (.sl (rows ZA (l.map (·.1))))):=by
 refine ZI.pure (fC 79 true ?_) rfl;intro C0 E0;have uu:=ξ7 @ZFQ.eq_1 @ZFQ.eq_2 @ZLC @ZFZ.eq_1 @ZFZ.eq_2 @YA.eq_1 @YA.eq_2;have tT:=ZKK;refine nz ?_;refine rg tT [0,1] ?_;refine rg tT [0,1,5] ?_;refine rg tT [1,5,8,9,10] ?_;refine WI.ownA 5 9 1 ?_;refine WI.loop (λφ os=> ∃(j:Nat),φ= [(1,.fn 80 []),(5,.ref 0 ((l.take j).map (·.1)).length 0 ((l.take j).map (·.1)).length),(8,.x (.sl (rows Jy l))),(9,.x (.int .i64 l.length)),(10,.x (.int .i64 j))]/\os= [.rows false 9 1 (rows ZA ((l.take j).map (·.1)))]/\j<=l.length) (ZK l.length 10) ?_ (λφ os hI=> ?_)
 .exact⟨0,rfl,rfl,J0⟩
 .obtain⟨j,rfl,rfl,hj⟩:=hI;refine nz ?_;refine rg tT [1,5,8,9,10,11] ?_;refine cd (λh0=> ?_) (λh0=> ?_)
  .have hj4:j<l.length:=by omega
   have hrw:=ZZA l j hj4;have htk:(l.take (j+1)).map (·.1)=(l.take j).map (·.1)++ [(l.getD j ([],[],[],())).1]:=by rw[Jg hj4,Ji];simp[hj4]
   have hlen:((l.take j).map (·.1)).length=j:=by rw[Yb,Yu];omega
   have hlen2:((l.take j).map (·.1)).length<=100000:=by rw[hlen];omega
   generalize l.getD j ([],[],[],())=x at hrw htk;have uu:=YZ uu hrw;refine rg tT [1,5,7,8,9,10] ?_;refine rg tT [1,5,8,9,10] ?_;refine WI.pickA [0] ?_;refine rg tT [1,5,8,9,10] ?_;exact⟨⟨j+1,by rw[htk,Zg];rfl,by rw[htk,ZLY],J0⟩,by simp[ZK,Ab.get,D.val,ZE];omega⟩
  .obtain rfl:j=l.length:=by omega
   rw[JS];refine rg tT [4] ?_;refine WI.freezeA [0] ?_;refine WI.pickA [] ?_;refine lf ?_
   first|rfl|exact⟨rfl,rfl⟩|trivial
def ZJm(T:List Zi):Int:=if T.all (λt=>decide (1<=t.2.1/\t.2.1<=5))=true then 0 else 1
def Qs(l:List Tx)(b:Int):Int:=if l.all JJ=true then(if b≠0 then b else if decide (l.map ZH).Nodup=true then 0 else 9)else 13
theorem Zgg(T:List Zi)(hT:T.length<=100000):ZN Tryz.prog 78 [.ptr 0 0] [.box [.x (.sl (rows Yd T))]] (.x (.int .i64 (ZJm T))) [.box [.x (.sl (rows Yd T))]]:=by
 have hO: [Ob.box [.x (.sl (rows Yd T))]].all (Ob.inP (λi=>decide (i< [Ob.box [.x (.sl (rows Yd T))]].length)))=true:=rfl;refine ZI.mcallsX (fC 78 true ?_) (by first|decide|(simp;done)) hO (by first|rfl|exact hR);intro C0 E0;have uu:=trivial;have tT:=(ZD:SsOk Tryz.prog ZO);refine nz ?_;refine rg tT [0] ?_;refine rg tT [4,5,6] ?_;refine WI.orderA [4,5,6] ?_;refine WI.loop (λφ os=> ∃(j:Nat),φ= [(4,.x (.sl (rows Yd T))),(5,.x (.int .i64 T.length)),(6,.x (.int .i64 j))]/\os= [.box [.x (.sl (rows Yd T))]]/\j<=T.length/\(T.take j).all (λt=>decide (1<=t.2.1/\t.2.1<=5))=true) (ZK T.length 6) ?_ (λφ os hI=> ?_)
 .exact⟨0,rfl,rfl,J0,rfl⟩
 .obtain⟨j,rfl,rfl,hj,hall⟩:=hI;refine nz ?_;refine rg tT [4,5,6,7] ?_;refine cd (λh0=> ?_) (λh0=> ?_)
  .have hj4:j<T.length:=by omega
   have hrw:=ZRT T j hj4;have hgj:T[j]=T.getD j ([],0,false,()):=by simp[hj4]
   have hal:=JL (λt:Zi=>decide (1<=t.2.1/\t.2.1<=5)) T j hj4;have hno:decide (1<=(T.getD j ([],0,false,())).2.1/\(T.getD j ([],0,false,())).2.1<=5)=false->T.all (λt=>decide (1<=t.2.1/\t.2.1<=5))=false:=λh=>Zw (λt:Zi=>decide (1<=t.2.1/\t.2.1<=5)) T j hj4 (by rw[hgj];exact h)
   rw[hgj]at hal;generalize T.getD j ([],0,false,())=x at hrw hal hno;have uu:=YZ uu hrw;refine rg tT [3,4,5,6] ?_;refine rg tT [4,5,6,17] ?_;refine cd (λh1=> ?_) (λh1=> ?_)
   .have hno2:=hno (decide_eq_false (by clear uu;grind));refine rg tT [1] ?_;refine lf ?_;exact⟨by unfold ZJm;rw[hno2];rfl,_,rfl⟩
   .have hall2:(T.take (j+1)).all (λt=>decide (1<=t.2.1/\t.2.1<=5))=true:=by rw[hal,hall,ZL (show 1<=x.2.1/\x.2.1<=5 by clear uu;grind)];rfl
    refine WI.pickA [0] ?_;refine rg tT [4,5,6] ?_;exact⟨⟨j+1,rfl,rfl,J0,hall2⟩,by simp[ZK,Ab.get,D.val,ZE];omega⟩
  .refine rg tT [1] ?_;refine lf ?_;exact⟨by unfold ZJm;rw[YX J0]at hall;rw[hall];rfl,_,rfl⟩
def ZH5:J8->J7->Option (Bool×D×J7)
 | [.ptr 0 0],[.box [.x (.sl R)]]=>(ZV Yd R).bind λT=>some (decide (T.length<=100000),.x (.int .i64 (ZJm T)),[.box [.x (.sl (rows Yd T))]])
 |_,_=>none
theorem Zav: ∀args os r os',ZH5 args os=some (true,r,os')->ZN Tryz.prog 78 args os r os':=by
 intro args os r os' h;unfold ZH5 at h;split at h
 .rename_i R;obtain⟨T,hr0,h⟩:=Zp h;simp only[Ze,Za,ZT,Zc,true_and]at h;obtain⟨h1,rfl,rfl⟩:=h;rw[<-ZY JE hr0];exact Zgg T h1
 .cases h
theorem ZWh(T:List Zi):ZV Yd (rows Yd T)=some T:=Zf JE T
def ZH9:J8->J5
 | []=>some (true,.x (.int .i64 0))
 |_=>none
theorem ZdA: ∀args r,ZH9 args=some (true,r)->ZC Tryz.prog 81 args r:=by
 intro args r h;unfold ZH9 at h;split at h
 .simp only[Ze,Za,ZT,Zc,true_and]at h;obtain rfl:=h;exact ZhR
 .cases h
def ZFx:Tabs:=Jt (ZR (ZR (ZR (ZO) 37 YA) 114 ZEH) 81 ZH9) 78 ZH5
theorem ZQx:SsOk Tryz.prog ZFx:=Yz (ZG (ZG (ZG (ZD) (ZU 37) ZAt) (ZU 114) ZWY) (ZU 81) ZdA) (ZU 78) Zav
theorem ZSB:(∀a,ZFx.q 37 a=YA a)/\(∀a,ZFx.q 114 a=ZEH a)/\(∀a,ZFx.q 81 a=ZH9 a)/\(∀a,ZFx.q 78 a=none)/\(∀a o,ZFx.t 78 a o=Yo ZH5 a o)/\(∀f a o,ZFx.r f a o=none)/\(∀f a o,ZFx.k f a o=none):=⟨λ_=>rfl,λ_=>rfl,λ_=>rfl,λ_=>rfl,λ_ _=>rfl,λ_ _ _=>rfl,λ_ _ _=>rfl⟩
theorem ZMA{l:List Tx}{j:Nat}(h:j<l.length):(l.take (j+1)).map ZH=(l.take j).map ZH++ [ZH (l.getD j [])]:=by
 rw[Jg h,Ji];simp[h]
theorem ZY3{l:List Tx}{j:Nat}(h:j<l.length)(hin:ZH (l.getD j [])∈(l.take j).map ZH):decide (l.map ZH).Nodup=false:=by
 refine decide_eq_false λhn=> ?_
 have e:l=l.take j++l.getD j []::l.drop (j+1):=by
  have:=ZDA j l;rw[ZEY h]at this;rw[show l.getD j []=l[j] by simp[h]];exact this.symm
 rw[e,Ji,YO]at hn;exact(ZF7.1 hn).2.2 _ hin _ ZCa rfl
theorem Zaa(T:List Zi)(hT:T.length<=100000)(l:List Tx)(hl:l.length<=100000)(hn: ∀x∈l,x.length<=1000000):ZN Tryz.prog 75 [.x (.sl (rows ZA l)),.fn 78 [.ptr 0 0]] [.box [.x (.sl (rows Yd T))]] (.x (.int .i64 (Qs l (ZJm T)))) [.box [.x (.sl (rows Yd T))]]:=by
 obtain⟨B,hB⟩: ∃B,B=ZJm T:=⟨_,rfl⟩;rw[<-hB];have hno:l.all JJ=false->Qs l B=13:=λh=>by unfold Qs;rw[h];rfl
 have hbb:l.all JJ=true->B≠0->Qs l B=B:=λh h2=>by unfold Qs;rw[if_pos h,if_pos h2]
 have hdu:l.all JJ=true->B=0->decide (l.map ZH).Nodup=false->Qs l B=9:=λh h2 h3=>by unfold Qs;rw[if_pos h,if_neg (by simp[h2]),h3];rfl
 have hok:l.all JJ=true->B=0->(l.map ZH).Nodup->Qs l B=0:=λh h2 h3=>by unfold Qs;rw[if_pos h,if_neg (by simp[h2]),ZL h3];rfl
 have hO:=(rfl: [Ob.box [.x (.sl (rows Yd T))]].all (Ob.inP (λi=>decide (i< [Ob.box [.x (.sl (rows Yd T))]].length)))=true);refine ZI.mcallsX (fC 75 true ?_) (by first|decide|(simp;done)) hO (by first|rfl|exact hR);intro C0 E0;have uu:=KJ @YA.eq_1 @YA.eq_2 @ZEH.eq_1 @ZEH.eq_2 @ZH5.eq_1 @ZH5.eq_2 @ZH9.eq_1 @ZH9.eq_2 (YZ @ZWh @ZSB);have tT:=ZQx;refine nz ?_;refine rg tT [0,1] ?_;refine rg tT [0,1,11,12,13] ?_;refine WI.orderA [0,1,11,12,13] ?_;refine WI.loop (λφ os=> ∃(j:Nat),φ= [(0,.x (.sl (rows ZA l))),(1,.fn 78 [.ptr 0 0]),(11,.x (.sl (rows ZA l))),(12,.x (.int .i64 l.length)),(13,.x (.int .i64 j))]/\os= [.box [.x (.sl (rows Yd T))]]/\j<=l.length/\(l.take j).all JJ=true) (ZK l.length 13) ?_ (λφ os hI=> ?_)
 .exact⟨0,rfl,rfl,J0,rfl⟩
 .obtain⟨j,rfl,rfl,hj,hall⟩:=hI;refine nz ?_;refine rg tT [0,1,11,12,13,14] ?_;refine cd (λh0=> ?_) (λh0=> ?_)
  .have hj4:j<l.length:=by omega
   have hrw:=ZAg l j hj4;have hgj:l[j]=l.getD j []:=by simp[hj4]
   have hal:=JL JJ l j hj4;have hnt:JJ (l.getD j [])=false->l.all JJ=false:=λh=>Zw JJ l j hj4 (by rw[hgj];exact h)
   have hd:=ZL (hn l[j] (YM hj4));rw[hgj]at hal hd;generalize l.getD j []=x at hrw hal hnt hd;have uu:=JW uu hrw hd;refine rg tT [0,1,6,11,12,13] ?_;refine rg tT [0,1,11,12,13,19] ?_;refine cd (λh1=> ?_) (λh1=> ?_)
   .have hxf:JJ x=false:=by clear uu;grind
    refine rg tT [4] ?_;refine lf ?_;exact⟨by rw[hno (hnt hxf)],_,rfl⟩
   .have hxt:JJ x=true:=by clear uu;grind
    have hall2:(l.take (j+1)).all JJ=true:=by rw[hal,hall,hxt];rfl
    refine rg tT [0,1,11,12,13] ?_;exact⟨⟨j+1,rfl,rfl,J0,hall2⟩,by simp[ZK,Ab.get,D.val,ZE];omega⟩
  .obtain rfl:j=l.length:=by omega
   rw[JS]at hall;refine rg tT [0,7] ?_;refine rg tT [0,7,24] ?_;refine cd (λh2=> ?_) (λh2=> ?_)
   .have hB0: ¬B=0:=by clear uu;subst hB;grind
    refine rg tT [4] ?_;refine lf ?_;exact⟨by rw[hbb hall hB0,hB],_,rfl⟩
   .have hB0:B=0:=by clear uu;subst hB;grind
    refine rg tT [0,8] ?_;refine rg tT [8,27,28,29] ?_;refine WI.orderA [8,27,28,29] ?_;refine WI.loop (λφ os=> ∃(j:Nat),φ= [(8,.mref 1),(27,.x (.sl (rows ZA l))),(28,.x (.int .i64 l.length)),(29,.x (.int .i64 j))]/\os= [.box [.x (.sl (rows Yd T))],.mpo .str false (snM ((l.take j).map ZH))]/\j<=l.length/\((l.take j).map ZH).Nodup) (ZK l.length 29) ?_ (λφ os hI=> ?_)
    .exact⟨0,rfl,rfl,J0,J1⟩
    .obtain⟨j,rfl,rfl,hj,hnd⟩:=hI;refine nz ?_;refine rg tT [8,27,28,29,30] ?_;refine cd (λh3=> ?_) (λh3=> ?_)
     .have hj4:j<l.length:=by omega
      have hrw:=ZAg l j hj4;have hd:=ZL (show(l.getD j []).length<=140737488355328 by rw[show l.getD j []=l[j] by simp[hj4]];have:=hn _ (YM hj4);omega);have uu:=JW uu hrw hd;refine rg tT [8,10,27,28,29] ?_;by_cases hin:ZH (l.getD j [])∈(l.take j).map ZH
      .have hg1:=ZEp hin;have hcp:=ZWr.2 hin;have uu:=YZ uu hg1;refine rg tT [8,10,27,28,29,37] ?_;refine ct (λh4=> ?_) (λh4=> ?_)
       .refine rg tT [4] ?_;refine lf ?_;exact⟨by rw[hdu hall hB0 (ZY3 hj4 hin)],_,rfl⟩
       .first|exact h4 (ZVa.2 hcp)|exact(of_decide_eq_false h4) (ZVa.2 hcp)|(simp at h4;exact absurd hcp J0)
      .have hg1:=ZG0 hin;have hg2:=ZIn hin;have uu:=JW uu hg1 hg2;refine rg tT [8,10,27,28,29,37] ?_;refine ce (λh4=> ?_) (λh4=> ?_)
       .simp at h4
       .refine rg tT [8,27,28,29] ?_;have hnd2:((l.take (j+1)).map ZH).Nodup:=by
         rw[ZMA hj4,ZF7];exact⟨hnd,J1,λa ha b hb=>by simp only[ξZ]at hb;subst hb;rintro rfl;exact hin ha⟩
        refine rg tT [8,27,28,29] ?_;exact⟨⟨j+1,rfl,by rw[ZMA hj4],J0,hnd2⟩,by simp[ZK,Ab.get,D.val,ZE];omega⟩
     .refine rg tT [4] ?_;refine lf ?_;exact⟨by rw[YX J0]at hnd;rw[hok hall hB0 hnd],_,rfl⟩
theorem Zaz(l:List Tx)(hl:l.length<=100000)(hn: ∀x∈l,x.length<=1000000):ZC Tryz.prog 75 [.x (.sl (rows ZA l)),.fn 81 []] (.x (.int .i64 (Qs l 0))):=by
 obtain⟨B,hB⟩: ∃B,B=(0:Int):=⟨_,rfl⟩;rw[<-hB];have hno:l.all JJ=false->Qs l B=13:=λh=>by unfold Qs;rw[h];rfl
 have hbb:l.all JJ=true->B≠0->Qs l B=B:=λh h2=>by unfold Qs;rw[if_pos h,if_pos h2]
 have hdu:l.all JJ=true->B=0->decide (l.map ZH).Nodup=false->Qs l B=9:=λh h2 h3=>by unfold Qs;rw[if_pos h,if_neg (by simp[h2]),h3];rfl
 have hok:l.all JJ=true->B=0->(l.map ZH).Nodup->Qs l B=0:=λh h2 h3=>by unfold Qs;rw[if_pos h,if_neg (by simp[h2]),ZL h3];rfl
 refine ZI.pure (fC 75 true ?_) rfl;intro C0 E0;have uu:=KJ @YA.eq_1 @YA.eq_2 @ZEH.eq_1 @ZEH.eq_2 @ZH5.eq_1 @ZH5.eq_2 @ZH9.eq_1 @ZH9.eq_2 @ZSB;have tT:=ZQx;refine nz ?_;refine rg tT [0,1] ?_;refine rg tT [0,1,11,12,13] ?_;refine WI.orderA [0,1,11,12,13] ?_;refine WI.loop (λφ os=> ∃(j:Nat),φ= [(0,.x (.sl (rows ZA l))),(1,.fn 81 []),(11,.x (.sl (rows ZA l))),(12,.x (.int .i64 l.length)),(13,.x (.int .i64 j))]/\os= []/\j<=l.length/\(l.take j).all JJ=true) (ZK l.length 13) ?_ (λφ os hI=> ?_)
 .exact⟨0,rfl,rfl,J0,rfl⟩
 .obtain⟨j,rfl,rfl,hj,hall⟩:=hI;refine nz ?_;refine rg tT [0,1,11,12,13,14] ?_;refine cd (λh0=> ?_) (λh0=> ?_)
  .have hj4:j<l.length:=by omega
   have hrw:=ZAg l j hj4;have hgj:l[j]=l.getD j []:=by simp[hj4]
   have hal:=JL JJ l j hj4;have hnt:JJ (l.getD j [])=false->l.all JJ=false:=λh=>Zw JJ l j hj4 (by rw[hgj];exact h)
   have hd:=ZL (hn l[j] (YM hj4));rw[hgj]at hal hd;generalize l.getD j []=x at hrw hal hnt hd;have uu:=JW uu hrw hd;refine rg tT [0,1,6,11,12,13] ?_;refine rg tT [0,1,11,12,13,19] ?_;refine cd (λh1=> ?_) (λh1=> ?_)
   .have hxf:JJ x=false:=by clear uu;grind
    refine rg tT [4] ?_;refine lf ?_;rw[hno (hnt hxf)]
   .have hxt:JJ x=true:=by clear uu;grind
    have hall2:(l.take (j+1)).all JJ=true:=by rw[hal,hall,hxt];rfl
    refine rg tT [0,1,11,12,13] ?_;exact⟨⟨j+1,rfl,rfl,J0,hall2⟩,by simp[ZK,Ab.get,D.val,ZE];omega⟩
  .obtain rfl:j=l.length:=by omega
   rw[JS]at hall;refine rg tT [0,7] ?_;refine rg tT [0,7,24] ?_;refine cd (λh2=> ?_) (λh2=> ?_)
   .have hB0: ¬B=0:=by clear uu;subst hB;grind
    refine rg tT [4] ?_;refine lf ?_;rw[hbb hall hB0,hB]
   .have hB0:B=0:=by clear uu;subst hB;grind
    refine rg tT [0,8] ?_;refine rg tT [8,27,28,29] ?_;refine WI.orderA [8,27,28,29] ?_;refine WI.loop (λφ os=> ∃(j:Nat),φ= [(8,.mref 0),(27,.x (.sl (rows ZA l))),(28,.x (.int .i64 l.length)),(29,.x (.int .i64 j))]/\os= [.mpo .str false (snM ((l.take j).map ZH))]/\j<=l.length/\((l.take j).map ZH).Nodup) (ZK l.length 29) ?_ (λφ os hI=> ?_)
    .exact⟨0,rfl,rfl,J0,J1⟩
    .obtain⟨j,rfl,rfl,hj,hnd⟩:=hI;refine nz ?_;refine rg tT [8,27,28,29,30] ?_;refine cd (λh3=> ?_) (λh3=> ?_)
     .have hj4:j<l.length:=by omega
      have hrw:=ZAg l j hj4;have hd:=ZL (show(l.getD j []).length<=140737488355328 by rw[show l.getD j []=l[j] by simp[hj4]];have:=hn _ (YM hj4);omega);have uu:=JW uu hrw hd;refine rg tT [8,10,27,28,29] ?_;by_cases hin:ZH (l.getD j [])∈(l.take j).map ZH
      .have hg1:=ZEp hin;have hcp:=ZWr.2 hin;have uu:=YZ uu hg1;refine rg tT [8,10,27,28,29,37] ?_;refine ct (λh4=> ?_) (λh4=> ?_)
       .refine rg tT [4] ?_;refine lf ?_;rw[hdu hall hB0 (ZY3 hj4 hin)]
       .first|exact h4 (ZVa.2 hcp)|exact(of_decide_eq_false h4) (ZVa.2 hcp)|(simp at h4;exact absurd hcp J0)
      .have hg1:=ZG0 hin;have hg2:=ZIn hin;have uu:=JW uu hg1 hg2;refine rg tT [8,10,27,28,29,37] ?_;refine ce (λh4=> ?_) (λh4=> ?_)
       .simp at h4
       .refine rg tT [8,27,28,29] ?_;have hnd2:((l.take (j+1)).map ZH).Nodup:=by
         rw[ZMA hj4,ZF7];exact⟨hnd,J1,λa ha b hb=>by simp only[ξZ]at hb;subst hb;rintro rfl;exact hin ha⟩
        refine rg tT [8,27,28,29] ?_;exact⟨⟨j+1,rfl,by rw[ZMA hj4],J0,hnd2⟩,by simp[ZK,Ab.get,D.val,ZE];omega⟩
     .refine rg tT [4] ?_;refine lf ?_;rw[YX J0]at hnd;rw[hok hall hB0 hnd]
def smN(l:List Tx):Prop:=l.length<=100000/\ ∀x∈l,x.length<=1000000
instance (l:List Tx):Decidable (smN l):=inferInstanceAs (Decidable (_/\_))
def ZJB:J8->J5
 | [.x (.sl R),.fn 77 []]=>(ZV Yd R).bind λl=>some (decide (l.length<=100000),.x (.sl (rows ZA (l.map (·.1)))))
 |_=>none
theorem ZXX: ∀args r,ZJB args=some (true,r)->ZC Tryz.prog 76 args r:=by
 intro args r h;unfold ZJB at h;split at h
 .rename_i R;obtain⟨l,hr0,h⟩:=Zp h;simp only[Ze,Za,ZT,Zc,true_and]at h;obtain⟨h1,rfl⟩:=h;rw[<-ZY JE hr0];exact(Zf0 l h1)
 .cases h
def ZIf:J8->J5
 | [.x (.sl R),.fn 80 []]=>(ZV Jy R).bind λl=>some (decide (l.length<=100000),.x (.sl (rows ZA (l.map (·.1)))))
 |_=>none
theorem ZXP: ∀args r,ZIf args=some (true,r)->ZC Tryz.prog 79 args r:=by
 intro args r h;unfold ZIf at h;split at h
 .rename_i R;obtain⟨l,hr0,h⟩:=Zp h;simp only[Ze,Za,ZT,Zc,true_and]at h;obtain⟨h1,rfl⟩:=h;rw[<-ZY JN hr0];exact(ZeT l h1)
 .cases h
def ZGa:J8->J7->Option (Bool×D×J7)
 | [.x (.sl R),.fn 78 [.ptr 0 0]],[.box [.x (.sl R2)]]=>(ZV ZA R).bind λl=>(ZV Yd R2).bind λT=>some (decide (T.length<=100000/\smN l),.x (.int .i64 (Qs l (ZJm T))),[.box [.x (.sl (rows Yd T))]])
 |_,_=>none
theorem ZWg: ∀args os r os',ZGa args os=some (true,r,os')->ZN Tryz.prog 75 args os r os':=by
 intro args os r os' h;unfold ZGa at h;split at h
 .rename_i R R2;obtain⟨l,hr0,h⟩:=Zp h;obtain⟨T,hr1,h⟩:=Zp h;simp only[Ze,Za,ZT,Zc,true_and]at h;obtain⟨h1,rfl,rfl⟩:=h;rw[<-ZY ZM hr0];rw[<-ZY JE hr1];exact Zaa T h1.1 l h1.2.1 h1.2.2
 .cases h
def ZGX:J8->J5
 | [.x (.sl R),.fn 81 []]=>(ZV ZA R).bind λl=>some (decide (smN l),.x (.int .i64 (Qs l 0)))
 |_=>none
theorem ZWe: ∀args r,ZGX args=some (true,r)->ZC Tryz.prog 75 args r:=by
 intro args r h;unfold ZGX at h;split at h
 .rename_i R;obtain⟨l,hr0,h⟩:=Zp h;simp only[Ze,Za,ZT,Zc,true_and]at h;obtain⟨h1,rfl⟩:=h;rw[<-ZY ZM hr0];exact(Zaz l h1.1 h1.2)
 .cases h
def ZG9:Tabs:=ZR (Jt (ZR (ZR (ZO) 76 ZJB) 79 ZIf) 75 ZGa) 75 ZGX
theorem ZZ9:SsOk Tryz.prog ZG9:=ZG (Yz (ZG (ZG (ZD) (ZU 76) ZXX) (ZU 79) ZXP) (ZU 75) ZWg) (ZU 75) ZWe
theorem Zaq:(∀a,ZG9.q 76 a=ZJB a)/\(∀a,ZG9.q 79 a=ZIf a)/\(∀a o,ZG9.t 75 a o=Yo ZGa a o)/\(∀a,ZG9.q 75 a=ZGX a)/\(∀f a o,ZG9.r f a o=none)/\(∀f a o,ZG9.k f a o=none):=⟨λ_=>rfl,λ_=>rfl,λ_ _=>rfl,λ_=>rfl,λ_ _ _=>rfl,λ_ _ _=>rfl⟩
theorem Zdc(l:List Tx):ZV ZA (rows ZA l)=some l:=Zf ZM l
theorem Zdq(l:List Zt):ZV Jy (rows Jy l)=some l:=Zf JN l
def ZKE(T:List Zi)(C:List Zt):Int:=if 1024<T.length\/1024<C.length then 3 else if Qs (T.map (·.1)) (ZJm T)≠0 then Qs (T.map (·.1)) (ZJm T)else Qs (C.map (·.1)) 0
def smT(T:List Zi):Prop:=T.length<=100000/\ ∀x∈T,x.1.length<=1000000
def smC(C:List Zt):Prop:=C.length<=100000/\ ∀x∈C,x.1.length<=1000000/\(x.2.1.length<=50000/\ ∀n∈x.2.1,n.length<=140737488355328)/\(x.2.2.1.length<=50000/\ ∀n∈x.2.2.1,n.length<=140737488355328)
instance (T:List Zi):Decidable (smT T):=inferInstanceAs (Decidable (_/\_))
instance (C:List Zt):Decidable (smC C):=inferInstanceAs (Decidable (_/\_))
theorem ZcY(T:List Zi)(C:List Zt)(hT:smT T)(hC:smC C):ZC Tryz.prog 45 [.x (.sl (rows Yd T)),.x (.sl (rows Jy C))] (.x (.int .i64 (ZKE T C))):=by
 have hTl:=hT.1;have hCl:=hC.1;have hd1:decide (T.length<=100000/\smN (T.map (·.1)))=true:=ZL ⟨hTl,by rw[smN,Yb];exact⟨hTl,λx hx=>by obtain⟨t,ht,rfl⟩:=YT.1 hx;exact hT.2 t ht⟩⟩;have hd2:decide (smN (C.map (·.1)))=true:=ZL (by rw[smN,Yb];exact⟨hCl,λx hx=>by obtain⟨t,ht,rfl⟩:=YT.1 hx;exact(hC.2 t ht).1⟩);have hd3:=ZL hTl;have hd4:=ZL hCl;rcases hres:ZKE T C with v
 unfold ZKE at hres;refine ZI.pure (fC 45 true ?_) rfl;intro C0 E0;have uu:=KJ @ZJB.eq_1 @ZJB.eq_2 @ZIf.eq_1 @ZIf.eq_2 @ZGa.eq_1 @ZGa.eq_2 @ZGX.eq_1 @ZGX.eq_2 (ξ8 @ZWh @Zdc @Zdq hd1 hd2 hd3 hd4 @Zaq);have tT:=ZZ9;refine nz ?_;refine rg tT [1,2] ?_;refine rg tT [1,2,13] ?_;refine cd (λh0=> ?_) (λh0=> ?_)
 .rw[if_pos (by clear uu;grind)]at hres;refine rg tT [4] ?_;refine lf ?_;rw[hres]
 .rw[if_neg (by clear uu;grind)]at hres;refine rg tT [1,5] ?_;refine rg tT [1,5,19] ?_;refine cd (λh1=> ?_) (λh1=> ?_)
  .rw[if_pos (by simpa using h1)]at hres;refine rg tT [4] ?_;refine lf ?_;rw[hres]
  .rw[if_neg (by simpa using h1)]at hres;refine rg tT [4] ?_;refine lf ?_;rw[hres]
def ZGg:J8->J5
 | [.x (.sl R),.x (.sl R2)]=>(ZV Yd R).bind λT=>(ZV Jy R2).bind λC=>some (decide (smT T/\smC C),.x (.int .i64 (ZKE T C)))
 |_=>none
theorem ZVl: ∀args r,ZGg args=some (true,r)->ZC Tryz.prog 45 args r:=by
 intro args r h;unfold ZGg at h;split at h
 .rename_i R R2;obtain⟨T,hr0,h⟩:=Zp h;obtain⟨C,hr1,h⟩:=Zp h;simp only[Ze,Za,ZT,Zc,true_and]at h;obtain⟨h1,rfl⟩:=h;rw[<-ZY JE hr0];rw[<-ZY JN hr1];exact(ZcY T C h1.1 h1.2)
 .cases h
theorem ZS6{α:Type}(f:α->Tx)(l:List α)(d:α)(i:Nat)(h:i<l.length)(hn:(l.map f).Nodup):f (l.getD i d)∉(l.take i).map f:=by
 intro hin;have e:l=l.take i++l.getD i d::l.drop (i+1):=by
  have:=ZDA i l;rw[ZEY h]at this;rw[show l.getD i d=l[i] by simp[h]];exact this.symm
 rw[e,Ji,YO]at hn;exact(ZF7.1 hn).2.2 _ hin _ ZCa rfl
theorem Zcm(T:List Zi):(tyL T).map (·.1)=T.map λt=>ZH t.1:=by unfold tyL;rw[Js];rfl
theorem Zak(C:List Zt):(clL C).map (·.1)=C.map λc=>ZH c.1:=by unfold clL;rw[Js];rfl
theorem ZgZ(T:List Zi)(i:Nat)(h:i<T.length)(hn:(T.map λt=>ZH t.1).Nodup):
  Yg (JM (tyL (T.take i))) [X.str (ZH (T.getD i ([],0,false,())).1)] [.x (.str (ZH (T.getD i ([],0,false,())).1)),.x (.int .i64 (T.getD i ([],0,false,())).2.1),.x (.bool (T.getD i ([],0,false,())).2.2.1)]=JM (tyL (T.take (i+1))):=by
 have h1:=ZS6 (λt:Zi=>ZH t.1) T ([],0,false,()) i h hn;rw[<-Zcm]at h1;have h2:=Zgs (tyL (T.take i)) (ZH (T.getD i ([],0,false,())).1) (Zhe (T.getD i ([],0,false,())));rw[ZBh (Kl.2 h1)]at h2;refine Eq.trans h2 ?_;rw[Jg h];unfold tyL;rw[Ji];simp[h]
theorem Zg4(C:List Zt)(i:Nat)(h:i<C.length)(hn:(C.map λt=>ZH t.1).Nodup):
  Yg (JH (clL (C.take i))) [X.str (ZH (C.getD i ([],[],[],())).1)] [.x (.str (ZH (C.getD i ([],[],[],())).1)),.x (.sl (rows ZA ((C.getD i ([],[],[],())).2.1.map ZH))),.x (.sl (rows ZA ((C.getD i ([],[],[],())).2.2.1.map ZH)))]=JH (clL (C.take (i+1))):=by
 have h1:=ZS6 (λt:Zt=>ZH t.1) C ([],[],[],()) i h hn;rw[<-Zak]at h1;have h2:=Zgz (clL (C.take i)) (ZH (C.getD i ([],[],[],())).1) (ZGJ (C.getD i ([],[],[],())));rw[ZBh (Kl.2 h1)]at h2;refine Eq.trans h2 ?_;rw[Jg h];unfold clL;rw[Ji];simp[h]
theorem ZQy{l:List Tx}{b:Int}(h:Qs l b=0):l.all JJ=true/\b=0/\(l.map ZH).Nodup:=by
 unfold Qs at h;split at h
 .split at h
  .omega
  .split at h
   .rename_i h1 h2 h3;exact⟨h1,J0,of_decide_eq_true h3⟩
   .omega
 .omega
theorem ZXy{T:List Zi}{C:List Zt}(h:ZKE T C=0):(T.map λt=>ZH t.1).Nodup/\(C.map λt=>ZH t.1).Nodup:=by
 unfold ZKE at h;split at h
 .omega
 .split at h
  .rename_i h1;exact absurd h h1
  .rename_i h1;have h2:=(ZQy (ZIC.1 h1)).2.2;have h3:=(ZQy h).2.2;rw[Js]at h2 h3;exact⟨h2,h3⟩
def ZK6(T:List Zi)(c:Zt):Bool:=(c.2.1.map ZH++c.2.2.1.map ZH).all λn=>(ZJ (tyL T) (ZH n)).isSome
def ZMd(T:List Zi)(C:List Zt):Int:=if ZKE T C≠0 then ZKE T C else if C.all (ZK6 T)=true then(if(ZJ (tyL T) (ZH OC)).isSome=true then 0 else 8)else 8
def ZIo:J8->J5
 | [.x (.sl R),.fn 37 []]=>(ZV ZA R).bind λl=>some (decide (l.length<=100000/\ ∀x∈l,x.length<=140737488355328),.x (.sl (rows ZA (l.map ZH))))
 |_=>none
theorem ZZS: ∀args r,ZIo args=some (true,r)->ZC Tryz.prog 46 args r:=by
 intro args r h;unfold ZIo at h;split at h
 .rename_i R;obtain⟨l,hr0,h⟩:=Zp h;simp only[Ze,Za,ZT,Zc,true_and]at h;obtain⟨h1,rfl⟩:=h;rw[<-ZY ZM hr0];exact(ZfG l h1.1 h1.2)
 .cases h
def ZKg:J8->J5
 | [.x (.sl [[.sl R],[.sl R']])]=>(ZV ZA R).bind λa=>(ZV ZA R').map λb=>(decide (a.length<=100000/\b.length<=100000),.x (.sl (rows ZA (a++b))))
 |_=>none
theorem ZUu: ∀args r,ZKg args=some (true,r)->ZC Tryz.prog 47 args r:=by
 intro args r h;unfold ZKg at h;split at h
 .rename_i R R';obtain⟨a,h1,h⟩:=Zp h;obtain⟨b,h2,h3⟩:=Zd h;simp only[Za,Zc]at h3;obtain⟨h4,rfl⟩:=h3;rw[<-ZY ZM h1,<-ZY ZM h2];exact ZRy a b h4.1 h4.2
 .cases h
def ZDU:Tabs:=Jt (Jt (ZR (ZR (ZR (ZR (ZO) 45 ZGg) 37 YA) 46 ZIo) 47 ZKg) 47 (Qz ZKg)) 36 ZFX
theorem ZZB:SsOk Tryz.prog ZDU:=Yz (Yz (ZG (ZG (ZG (ZG (ZD) (ZU 45) ZVl) (ZU 37) ZAt) (ZU 46) ZZS) (ZU 47) ZUu) (ZU 47) (ZEI ZUu)) (ZU 36) ZSk
theorem Zcr:(∀a,ZDU.q 45 a=ZGg a)/\(∀a,ZDU.q 37 a=YA a)/\(∀a,ZDU.q 46 a=ZIo a)/\(∀a,ZDU.q 47 a=ZKg a)/\(∀a o,ZDU.t 47 a o=Yo (Qz ZKg) a o)/\(∀a,ZDU.q 36 a=none)/\(∀a o,ZDU.t 36 a o=Yo ZFX a o)/\(∀f a o,ZDU.r f a o=none)/\(∀f a o,ZDU.k f a o=none):=⟨λ_=>rfl,λ_=>rfl,λ_=>rfl,λ_=>rfl,λ_ _=>rfl,λ_=>rfl,λ_ _=>rfl,λ_ _ _=>rfl,λ_ _ _=>rfl⟩
abbrev scH(L:List (Tx×Zi))(M:List (Tx×Zt))(c d:Zt):J7:= [.box [.mref 1,.mref 2],.mpo .str true (JM L),.mpo .str true (JH M),.box [.x (.str c.1),.x (.sl (rows ZA c.2.1)),.x (.sl (rows ZA c.2.2.1))],.box [.x (.str d.1),.x (.sl (rows ZA d.2.1)),.x (.sl (rows ZA d.2.2.1))]]
theorem ZUY(L:List (Tx×Zi))(M:List (Tx×Zt))(c d:Zt):(scH L M c d).all (Ob.inP (λi=>decide (i<(scH L M c d).length)))=true:=by
 simp[Ob.inP,Yr,D.inP,ZAU,ZAS]
set_option maxHeartbeats 4000000 in
theorem ZiR(T:List Zi)(C:List Zt)(hT:smT T)(hC:smC C)(r:D)(OS:J7)(hz:ZMd T C=0->r= .tup [.ptr 0 0,.x (.int .i64 0)]/\OS=scO (tyL T) (clL C))(hnz:ZMd T C≠0->r= .tup [.x .nilp,.x (.int .i64 (ZMd T C))]/\OS= []):
  ZN Tryz.prog 22 [.x (.sl (rows Yd T)),.x (.sl (rows Jy C))] [] r OS:=by
 have hO:OS.all (Ob.inP (λi=>decide (i<OS.length)))=true:=by
  by_cases h:ZMd T C=0
  .rw[(hz h).2];exact ZB7 _ _
  .rw[(hnz h).2];rfl
 have hTl:=hT.1;have hz':=hz;have hnz':=hnz;have hCl:=hC.1;have hd1:decide (smT T/\smC C)=true:=ZL ⟨hT,hC⟩;rcases hch:ZKE T C with v
 unfold ZMd at hz hnz;rw[hch]at hz hnz;have hoc:OC= [111,98,106,101,99,116,99,108,97,115,115]:=rfl;have hR:r.inP (λi=>decide (i<OS.length))=true:=by
  by_cases h:ZMd T C=0
  .rw[(hz' h).1,(hz' h).2];rfl
  .rw[(hnz' h).1,(hnz' h).2];rfl
 refine ZI.mcallsX (fC 22 true ?_) (by first|decide|(simp;done)) hO (by first|rfl|exact hR);intro C0 E0;have uu:=KJ @ZGg.eq_1 @ZGg.eq_2 @YA.eq_1 @YA.eq_2 @ZIo.eq_1 @ZIo.eq_2 @ZKg.eq_1 @ZKg.eq_2 (KJ @ZFX.eq_1 @ZFX.eq_2 @ZWh @Zdc @Zdq @ZC1 @ZCy hd1 (KJ hch @ZCZ @ZCk @ZDe @ZDd @ZAU @ZAS @ZAN (ξ4 @ZCc @Qr @Zcr @Qz.eq_1)));have tT:=ZZB;refine nz ?_;refine rg tT [0,1] ?_;refine rg tT [0,1,6] ?_;refine rg tT [0,1,6,23] ?_;refine cd (λh0=> ?_) (λh0=> ?_)
 .have hv0: ¬v=0:=by simpa using h0
  refine rg tT [4,5] ?_;refine lf ?_;obtain⟨rfl,rfl⟩:=(by rw[if_pos hv0]at hnz;exact hnz hv0);exact⟨rfl,[],rfl⟩
 .have hv0:v=0:=by simpa using h0
  subst hv0;obtain⟨hnT,hnC⟩:=ZXy hch;rw[if_neg J1]at hz hnz;refine rg tT [0,1,7] ?_;refine rg tT [1,7,31,32,33] ?_;refine WI.pickA [2,0,1] ?_;refine WI.orderA [1,7,31,32,33] ?_;refine WI.loop (λφ os=> ∃(i:Nat),φ= [(1,.x (.sl (rows Jy C))),(7,.ptr 0 0),(31,.x (.sl (rows Yd T))),(32,.x (.int .i64 T.length)),(33,.x (.int .i64 i))]/\os=scO (tyL (T.take i)) []/\i<=T.length) (ZK T.length 33) ?_ (λφ os hI=> ?_)
  .exact⟨0,rfl,rfl,J0⟩
  .obtain⟨i,rfl,rfl,hi⟩:=hI;refine nz ?_;refine rg tT [1,7,31,32,33,34] ?_;refine cd (λh1=> ?_) (λh1=> ?_)
   .have hi4:i<T.length:=by omega
    have hrw:=ZRT T i hi4;have hst:=ZgZ T i hi4 hnT;have hxl:=hT.2 T[i] (YM hi4);rw[show T[i]=T.getD i ([],0,false,()) by simp[hi4]]at hxl;generalize T.getD i ([],0,false,())=x at hrw hst hxl;have hd47:decide (x.1.length<=140737488355328)=true:=ZL J0;have uu:=ξ4 uu hrw hst hd47;refine rg tT [1,7,9,31,32,33] ?_;refine rg tT [1,7,9,31,32,33] ?_;refine WI.dregB tT [1,7,31,32,33] ?_
    iterate 5 refine YD ?_
    refine JO ?_;refine YD ?_
    iterate 2 refine JO ?_
    refine dAG ?_;refine dN ?_;refine nz ?_;refine WI.orderA [1,7,31,32,33] ?_;refine WI.dropT (scO (tyL (T.take (i+1))) []) _ rfl J1 (ZB7 _ _) (by simp[D.inP,Yr]) ?_;refine rg tT [1,7,31,32,33] ?_;exact⟨⟨i+1,rfl,rfl,J0⟩,by simp[ZK,Ab.get,D.val,ZE];omega⟩
   .obtain rfl:i=T.length:=by omega
    rw[JS];generalize hL:tyL T=L at hz hnz|-;refine rg tT [7,51,52,53] ?_;refine WI.loop (λφ os=> ∃(i:Nat),φ= [(7,.ptr 0 0),(51,.x (.sl (rows Jy C))),(52,.x (.int .i64 C.length)),(53,.x (.int .i64 i))]/\os=scO L (clL (C.take i))/\i<=C.length/\(C.take i).all (ZK6 T)=true) (ZK C.length 53) ?_ (λφ os hI=> ?_)
    .exact⟨0,rfl,rfl,J0,rfl⟩
    .obtain⟨i,rfl,rfl,hi,hall⟩:=hI;refine nz ?_;refine rg tT [7,51,52,53,54] ?_;refine cd (λh2=> ?_) (λh2=> ?_)
     .have hi4:i<C.length:=by omega
      have hrw:=ZZA C i hi4;have hst:=Zg4 C i hi4 hnC;have hal:=JL (ZK6 T) C i hi4;have hgi:C[i]=C.getD i ([],[],[],()):=by simp[hi4]
      have hno:ZK6 T (C.getD i ([],[],[],()))=false->C.all (ZK6 T)=false:=λh=>Zw (ZK6 T) C i hi4 (by rw[hgi];exact h)
      have hxl:=hC.2 C[i] (YM hi4);rw[hgi]at hxl hal;generalize C.getD i ([],[],[],())=x at hrw hst hxl hal hno;obtain⟨hx1,hx2,hx3⟩:=hxl;have hst2:Yg (JH (clL (C.take i))) [X.str (ZGJ x).1] [.x (.str (ZGJ x).1),.x (.sl (rows ZA (ZGJ x).2.1)),.x (.sl (rows ZA (ZGJ x).2.2.1))]=JH (clL (C.take (i+1))):=hst;have hd47:decide (x.1.length<=140737488355328)=true:=ZL J0;have hd48:decide (x.2.1.length<=100000/\ ∀n∈x.2.1,n.length<=140737488355328)=true:=ZL ⟨J0,hx2.2⟩;have hd49:decide (x.2.2.1.length<=100000/\ ∀n∈x.2.2.1,n.length<=140737488355328)=true:=ZL ⟨J0,hx3.2⟩;have hl1:(x.2.1.map ZH).length<=50000:=by rw[Yb];exact hx2.1
      have hl2:(x.2.2.1.map ZH).length<=50000:=by rw[Yb];exact hx3.1
      have hct:ZK6 T x=(x.2.1.map ZH++x.2.2.1.map ZH).all λn=>(ZJ L (ZH n)).isSome:=by rw[<-hL];rfl
      have hln: ∀n∈x.2.1.map ZH++x.2.2.1.map ZH,n.length<=140737488355328:=λn hn=>by
       rcases Km.1 hn with h|h
       .obtain⟨y,hy,rfl⟩:=YT.1 h;rw[ZDs];exact hx2.2 y hy
       .obtain⟨y,hy,rfl⟩:=YT.1 h;rw[ZDs];exact hx3.2 y hy
      have hd50:decide ((x.2.1.map ZH).length<=100000/\(x.2.2.1.map ZH).length<=100000)=true:=ZL ⟨J0,J0⟩;have uu:=ξ7 uu hrw hst2 hd47 hd48 hd49 hd50;refine rg tT [7,11,51,52,53] ?_;refine WI.dregB tT [7,12,51,52,53] ?_;refine YD ?_;refine JO ?_;refine dQC ?_;refine YD ?_;refine JO ?_;refine dQC ?_;refine YD ?_;refine JO ?_;refine dQC ?_;refine KR ?_;refine dKG ?_;refine dAG ?_;refine dN ?_;refine nz ?_;refine rg tT [7,12,51,52,53,72,73,74] ?_;refine WI.orderA [7,12,51,52,53,72,73,74] ?_;refine WI.dropT (scH L (clL (C.take i)) x (ZGJ x)) _ rfl J1 (ZUY _ _ _ _) (by simp[D.inP,Yr]) ?_;generalize hN:x.2.1.map ZH++x.2.2.1.map ZH=N at hct hln|-;have hNl:N.length<=100000:=by rw[<-hN,Zg];omega
      refine WI.loop (λφ os=> ∃(k:Nat),φ= [(7,.ptr 0 0),(12,.ptr 4 0),(51,.x (.sl (rows Jy C))),(52,.x (.int .i64 C.length)),(53,.x (.int .i64 i)),(72,.x (.sl (rows ZA N))),(73,.x (.int .i64 N.length)),(74,.x (.int .i64 k))]/\os=scH L (clL (C.take i)) x (ZGJ x)/\k<=N.length/\(N.take k).all (λn=>(ZJ L (ZH n)).isSome)=true) (ZK N.length 74) ?_ (λφ os hI=> ?_)
      .exact⟨0,rfl,rfl,J0,rfl⟩
      .obtain⟨k,rfl,rfl,hk,hka⟩:=hI;refine nz ?_;refine rg tT [7,12,51,52,53,72,73,74,75] ?_;refine cd (λh3=> ?_) (λh3=> ?_)
       .have hk4:k<N.length:=by omega
        have hrk:=ZAg N k hk4;have hgk:N[k]=N.getD k []:=by simp[hk4]
        have hak:=JL (λn=>(ZJ L (ZH n)).isSome) N k hk4;have hnk:(ZJ L (ZH (N.getD k []))).isSome=false->N.all (λn=>(ZJ L (ZH n)).isSome)=false:=λh=>Zw (λn=>(ZJ L (ZH n)).isSome) N k hk4 (by rw[hgk];exact h)
        have hnl:=hln N[k] (YM hk4);rw[hgk]at hak hnl;generalize N.getD k []=y at hrk hak hnk hnl;have hdy:=ZL hnl;have uu:=ξ4 uu hrk hdy @tyD.eq_1;refine rg tT [7,12,14,51,52,53,72,73,74] ?_;refine rg tT [7,12,16,51,52,53,72,73,74] ?_;refine rg tT [7,12,51,52,53,72,73,74,88] ?_;refine cd (λh4=> ?_) (λh4=> ?_)
        .have hys:(ZJ L (ZH y)).isSome=false:=by clear uu;grind
         rw[hno (by rw[hct];exact hnk hys)]at hnz;refine rg tT [4,5] ?_;refine lf ?_;obtain⟨rfl,rfl⟩:=hnz J1;exact⟨rfl,_,rfl⟩
        .have hys:(ZJ L (ZH y)).isSome=true:=by clear uu;grind
         have hka2:(N.take (k+1)).all (λn=>(ZJ L (ZH n)).isSome)=true:=by rw[hak,hka,hys];rfl
         refine WI.orderA [7,12,51,52,53,72,73,74] ?_;refine WI.dropT (scH L (clL (C.take i)) x (ZGJ x)) _ rfl J1 (ZUY _ _ _ _) (by simp[D.inP,Yr]) ?_;refine rg tT [7,12,51,52,53,72,73,74] ?_;exact⟨⟨k+1,rfl,rfl,J0,hka2⟩,by simp[ZK,Ab.get,D.val,ZE];omega⟩
       .obtain rfl:k=N.length:=by omega
        rw[JS]at hka;rw[hka]at hct;have hall2:(C.take (i+1)).all (ZK6 T)=true:=by rw[hal,hall,hct];rfl
        refine WI.dregB tT [7,51,52,53] ?_
        iterate 4 refine YD ?_
        refine JO ?_;refine YD ?_
        iterate 2 refine JO ?_
        refine dAG ?_;refine dN ?_;refine nz ?_;refine WI.orderA [7,51,52,53] ?_;refine WI.dropT (scO L (clL (C.take (i+1)))) _ rfl J1 (ZB7 _ _) (by simp[D.inP,Yr]) ?_;refine rg tT [7,51,52,53] ?_;exact⟨⟨i+1,rfl,rfl,J0,hall2⟩,by simp[ZK,Ab.get,D.val,ZE];omega⟩
     .obtain rfl:i=C.length:=by omega
      rw[JS]at hall|-;rw[hall,if_pos rfl,hoc]at hz hnz;refine WI.orderA [7] ?_;have uu:=YZ uu @tyD.eq_1;refine rg tT [7,18] ?_;refine rg tT [7,108] ?_;refine cd (λh5=> ?_) (λh5=> ?_)
      .have hys: ¬(ZJ L (ZH [111,98,106,101,99,116,99,108,97,115,115])).isSome=true:=by clear uu;grind
       rw[if_neg hys]at hnz;refine rg tT [4,5] ?_;refine lf ?_;obtain⟨rfl,rfl⟩:=hnz J1;exact⟨rfl,_,rfl⟩
      .have hys:(ZJ L (ZH [111,98,106,101,99,116,99,108,97,115,115])).isSome=true:=by clear uu;grind
       rw[if_pos hys]at hz;refine rg tT [4,5] ?_;refine lf ?_;obtain⟨rfl,rfl⟩:=hz rfl;exact⟨rfl,_,rfl⟩
def igT(n:Tx):Zi:=(n,1,false,())
theorem ZYc(a b:List Zi):rows Yd (a++b)=rows Yd a++rows Yd b:=Ji
theorem ZiX(l:List Tx)(hl:l.length<=1000):ZN Tryz.prog 34 [.ref 0 l.length 0 l.length] [.rows false 9 1 (rows ZA l)] (.ref 1 l.length 0 l.length) [.rows false 9 1 (rows ZA l),.rows false 35 3 (rows Yd (l.map igT))]:=by
 have hO: [Ob.rows false 9 1 (rows ZA l),.rows false 35 3 (rows Yd (l.map igT))].all (Ob.inP (λi=>decide (i< [Ob.rows false 9 1 (rows ZA l),.rows false 35 3 (rows Yd (l.map igT))].length)))=true:=rfl;refine ZI.mcalls (fC 34 false ?_);intro C0 E0;have uu:=trivial;have tT:=(ZD:SsOk Tryz.prog ZO);refine nz ?_;refine rg tT [0] ?_;refine rg tT [0,3] ?_;refine rg tT [3,6,7,8] ?_;refine WI.ownA 3 35 3 ?_;refine WI.orderA [3,6,7,8] ?_;refine WI.loop (λφ os=> ∃(j:Nat),φ= [(3,.ref 1 ((l.take j).map igT).length 0 ((l.take j).map igT).length),(6,.ref 0 l.length 0 l.length),(7,.x (.int .i64 l.length)),(8,.x (.int .i64 j))]/\os= [.rows false 9 1 (rows ZA l),.rows false 35 3 (rows Yd ((l.take j).map igT))]/\j<=l.length) (ZK l.length 8) ?_ (λφ os hI=> ?_)
 .exact⟨0,rfl,rfl,J0⟩
 .obtain⟨j,rfl,rfl,hj⟩:=hI;refine nz ?_;refine rg tT [3,6,7,8,9] ?_;refine cd (λh0=> ?_) (λh0=> ?_)
  .have hj4:j<l.length:=by omega
   have hrw:=ZAg l j hj4;have htk:(l.take (j+1)).map igT=(l.take j).map igT++ [igT (l.getD j [])]:=by rw[Jg hj4,Ji];simp[hj4]
   have hlen:((l.take j).map igT).length<=1000:=by rw[Yb,Yu];omega
   generalize l.getD j []=x at hrw htk;have uu:=YZ uu hrw;refine rg tT [3,5,6,7,8] ?_;refine rg tT [3,6,7,8] ?_;refine WI.pickA [0,1] ?_;refine rg tT [3,6,7,8] ?_;exact⟨⟨j+1,by rw[htk,Zg];rfl,by rw[htk,ZYc];rfl,J0⟩,by simp[ZK,Ab.get,D.val,ZE];omega⟩
  .obtain rfl:j=l.length:=by omega
   rw[JS];refine rg tT [2] ?_;refine lf ?_;exact⟨by rw[Yb],rfl⟩
def plT:List Zi:= [([99,110],1,false,()),([115,110],1,false,()),([111,117],1,false,()),([100,99],1,false,()),([111],1,false,()),([100,101,115,99,114,105,112,116,105,111,110],1,false,()),([109,97,105,108],1,false,()),([111,98,106,101,99,116,99,108,97,115,115],1,false,()),([117,115,101,114,112,97,115,115,119,111,114,100],4,true,()),([117,105,100],1,true,()),([117,105,100,110,117,109,98,101,114],3,true,()),([109,101,109,98,101,114],5,false,()),([115,101,114,105,97,108,110,117,109,98,101,114],2,false,())]
def plC:List Zt:= [([116,111,112],[],[],()),([112,101,114,115,111,110],[[99,110],[115,110]],[[100,101,115,99,114,105,112,116,105,111,110],[117,115,101,114,112,97,115,115,119,111,114,100],[109,97,105,108],[117,105,100],[117,105,100,110,117,109,98,101,114],[115,101,114,105,97,108,110,117,109,98,101,114],[109,101,109,98,101,114]],()),([111,114,103,97,110,105,122,97,116,105,111,110,97,108,117,110,105,116],[[111,117]],[[100,101,115,99,114,105,112,116,105,111,110],[109,101,109,98,101,114]],()),([100,111,109,97,105,110],[[100,99]],[[100,101,115,99,114,105,112,116,105,111,110],[111]],()),([103,114,111,117,112],[[99,110]],[[109,101,109,98,101,114],[100,101,115,99,114,105,112,116,105,111,110]],())]
theorem ZgR:ZMd plT plC=0:=by decide+kernel
theorem Zhu:smT plT:=by decide+kernel
theorem Zho:smC plC:=by decide+kernel
def ZM0:J8->J7->Option (Bool×D×Ob)
 | [.ref 0 8 0 8],[.rows false 9 1 [[.str a],[.str b],[.str c],[.str d],[.str e],[.str f],[.str g],[.str h]]]=>some (true,.ref 1 8 0 8,.rows false 35 3 [[.str a,.int .i64 1,.bool false],[.str b,.int .i64 1,.bool false],[.str c,.int .i64 1,.bool false],[.str d,.int .i64 1,.bool false],[.str e,.int .i64 1,.bool false],[.str f,.int .i64 1,.bool false],[.str g,.int .i64 1,.bool false],[.str h,.int .i64 1,.bool false]])
 |_,_=>none
theorem Zfo: ∀args os r ob,ZM0 args os=some (true,r,ob)->(∃fz e sz rs,ob= .rows fz e sz rs)/\ZN Tryz.prog 34 args os r (os++ [ob]):=by
 intro args os r ob h;unfold ZM0 at h;split at h
 .rename_i a b c d e f g h;simp only[Ze,Za,true_and]at h;obtain⟨rfl,rfl⟩:=h;exact⟨⟨_,_,_,_,rfl⟩,ZiX [a,b,c,d,e,f,g,h] J1⟩
 .cases h
def ZKy:Tabs:=ZWN (ZO) 34 ZM0
theorem ZKm:SsOk Tryz.prog ZKy:=Zek (ZD) (ZU 34) Zfo
theorem Zci:(∀a,ZKy.q 34 a=none)/\(∀a o,ZKy.t 34 a o=Yo (λargs os=>(ZM0 args os).map λq=>(q.1,q.2.1,os++ [q.2.2])) a o)/\(∀a o,ZKy.k 34 a o=ZFB ZM0 a o)/\(∀f a o,ZKy.r f a o=none):=⟨λ_=>rfl,λ_ _=>rfl,λ_ _=>rfl,λ_ _ _=>rfl⟩
theorem ZV5:Enters Tryz.prog 22:=ZU 22
theorem ZPb:ZN Tryz.prog 10 [] [] (.ptr 0 0) (scO (tyL plT) (clL plC)):=by
 have hO:=ZB7 (tyL plT) (clL plC);have hnew:ZN Tryz.prog 22 [.x (.sl [[.str [99,110],.int .i64 1,.bool false],[.str [115,110],.int .i64 1,.bool false],[.str [111,117],.int .i64 1,.bool false],[.str [100,99],.int .i64 1,.bool false],[.str [111],.int .i64 1,.bool false],[.str [100,101,115,99,114,105,112,116,105,111,110],.int .i64 1,.bool false],[.str [109,97,105,108],.int .i64 1,.bool false],[.str [111,98,106,101,99,116,99,108,97,115,115],.int .i64 1,.bool false],[.str [117,115,101,114,112,97,115,115,119,111,114,100],.int .i64 4,.bool true],[.str [117,105,100],.int .i64 1,.bool true],[.str [117,105,100,110,117,109,98,101,114],.int .i64 3,.bool true],[.str [109,101,109,98,101,114],.int .i64 5,.bool false],[.str [115,101,114,105,97,108,110,117,109,98,101,114],.int .i64 2,.bool false]]),.x (.sl [[.str [116,111,112],.sl [],.sl []],[.str [112,101,114,115,111,110],.sl [[.str [99,110]],[.str [115,110]]],.sl [[.str [100,101,115,99,114,105,112,116,105,111,110]],[.str [117,115,101,114,112,97,115,115,119,111,114,100]],[.str [109,97,105,108]],[.str [117,105,100]],[.str [117,105,100,110,117,109,98,101,114]],[.str [115,101,114,105,97,108,110,117,109,98,101,114]],[.str [109,101,109,98,101,114]]]],[.str [111,114,103,97,110,105,122,97,116,105,111,110,97,108,117,110,105,116],.sl [[.str [111,117]]],.sl [[.str [100,101,115,99,114,105,112,116,105,111,110]],[.str [109,101,109,98,101,114]]]],[.str [100,111,109,97,105,110],.sl [[.str [100,99]]],.sl [[.str [100,101,115,99,114,105,112,116,105,111,110]],[.str [111]]]],[.str [103,114,111,117,112],.sl [[.str [99,110]]],.sl [[.str [109,101,109,98,101,114]],[.str [100,101,115,99,114,105,112,116,105,111,110]]]]])] [] (.tup [.ptr 0 0,.x (.int .i64 0)]) (scO (tyL plT) (clL plC)):=
  ZiR plT plC Zhu Zho _ _ (λ_=>⟨rfl,rfl⟩) (λh=>absurd ZgR h)
 refine ZI.mcallsX (fC 10 true ?_) (by first|decide|(simp;done)) hO (by first|rfl|exact hR);intro C0 E0;have uu:=KJ @ZJR @ZJn @ZJQ @ZJj @ZCZ @ZCk @ZDe @ZDd (ξ5 @ZAU @ZAS @Zci @ZM0.eq_1 @ZM0.eq_2);refine WI.seq ?_;refine WI.regB ZKm [] ?_;refine oS ?_;refine oN ?_;refine ZB ?_;refine WI.seq ?_;refine WI.regB ZKm [1] ?_;refine oG ?_;refine oC ?_;refine oS ?_;refine oN ?_;refine ZB ?_;refine WI.seq ?_;refine WI.regB ZKm [1] ?_;refine oS ?_
 iterate 7 refine oG ?_
 refine oS ?_;refine oN ?_;refine ZB ?_;refine WI.seq ?_;refine WI.pickA [1] ?_;refine WI.cutA ZD [15,29] 15 ?_;simp only[ξV,ZCV,ZEu,ZBy];refine oS ?_
 iterate 14 refine oG ?_
 refine oP ?_;refine ZfU [0,9] ?_;refine Je [] ?_;refine Zi1 ?_;refine ZJb ?_;refine WR.regB (ZDZ ZD ZV5 hnew) [2] ?_;refine oC ?_;refine oS ?_
 iterate 2 refine oG ?_
 iterate 2 refine oS ?_
 refine oN ?_;refine ZB ?_;refine WI.seq ?_;refine WI.regB ZD [0] ?_
 iterate 2 refine oS ?_
 refine oN ?_;refine ZB ?_;refine WI.ret ?_;refine ZBv ?_;exact⟨rfl,[],rfl⟩
def ZFr:J8->J7->J5
 | [.ptr 0 0,.x (.str n)],[.box [.mref 1,.mref 2],.mpo .str true P1,.mpo .str true P2]=>(Jz ZA Yd P1).bind λL=>(Jz ZA Jy P2).bind λM=>some (decide (n.length<=140737488355328),.tup [tyD (tyV L (ZH n)),.x (.bool (ZJ L (ZH n)).isSome)])
 |_,_=>none
theorem ZQp: ∀args os r,ZFr args os=some (true,r)->r.clean=true/\ ∃X,ZN Tryz.prog 12 args os r (os++X):=by
 intro args os r h;unfold ZFr at h;split at h
 .rename_i n P1 P2;obtain⟨L,hm0,h⟩:=Zp h;obtain⟨M,hm1,h⟩:=Zp h;simp only[Ze,Za,ZT,Zc,true_and]at h;obtain⟨h1,rfl⟩:=h;rw[Ye ZM JE hm0];rw[Ye ZM JN hm1];exact⟨rfl,[],by rw[Kj];exact ZY6 L M n h1⟩
 .cases h
def ZIP(L:List (Tx×Zi))(l:List ZX)(p:Av):Bool:=(ZJ L (ZH p.1)).isSome&&ZFH l p.1 p.2 (tyV L (ZH p.1)).2.1
def ZPj(L:List (Tx×Zi))(dn:Tx)(l:List ZX):Bool:=Ke dn&&(decide ((YN (YL dn)).1≠ [])&&((YN (YL dn)).1.headD []).all (ZIP L l))
def ZCj:Tabs:=ZDB (ZR (ZR (ZR (ZO) 100 ZEV) 131 Qk) 94 ZHI) 12 ZFr
theorem ZXQ:SsOk Tryz.prog ZCj:=ZAJ (ZG (ZG (ZG (ZD) (ZU 100) ZMn) (ZU 131) ZIA) (ZU 94) ZO4) (ZU 12) ZQp
theorem Zb3:(∀a,ZCj.q 100 a=ZEV a)/\(∀a,ZCj.q 131 a=Qk a)/\(∀a,ZCj.q 94 a=ZHI a)/\(∀a,ZCj.q 12 a=none)/\(∀a o,ZCj.t 12 a o=(JI ZFr a o).map λr=>(r.1,r.2,o))/\(∀a o,ZCj.r 12 a o=JI ZFr a o)/\(∀a o,ZCj.r 100 a o=none)/\(∀a o,ZCj.r 131 a o=none)/\(∀a o,ZCj.r 94 a o=none)/\(∀f a o,ZCj.k f a o=none):=⟨λ_=>rfl,λ_=>rfl,λ_=>rfl,λ_=>rfl,λ_ _=>rfl,λ_ _=>rfl,λ_ _=>rfl,λ_ _=>rfl,λ_ _=>rfl,λ_ _ _=>rfl⟩
theorem ZfC{s:Tx}{r:List Av}(h:r∈(YN s).1):Yh r=true:=by
 have hz:(YN s).2=0:=by
  unfold YN at h|-;split
  .rename_i h1;rw[if_pos h1]at h;cases h
  .rename_i h1;rw[if_neg h1]at h;split
   .rfl
   .rename_i h2;rw[if_neg h2]at h;split
    .rename_i h3;rw[if_pos h3]at h;split
     .rename_i h4;rw[if_pos h4]at h;cases h
     .rename_i h4;rw[if_neg h4]at h;split
      .rename_i h5;rw[if_pos h5]at h;cases h
      .rfl
    .rename_i h3;rw[if_neg h3]at h;cases h
 exact(ZEL (ZPA s hz)).2 r h
theorem ZF2(Y:J7)(z:Ob)(t:J7):(Y++z::t)[Y.length]? =some z:=by simp
theorem ZgJ(Y:J7)(x z:Ob)(t:J7):(Y++x::z::t)[Y.length+1]? =some z:=by rw[Qe J0];simp
theorem ZjH(Y:J7)(x y z:Ob)(t:J7):(Y++x::y::z::t)[Y.length+1+1]? =some z:=by rw[Qe J0];simp[ZIU]
theorem ZWj(Z:J7)(x z:Ob)(t:J7):(Z++x::t).set Z.length z=Z++z::t:=by rw[ZEy _ _ J0];simp
theorem ZjA(Z:J7)(x y z:Ob)(t:J7):(Z++x::y::t).set (Z.length+1) z=Z++x::z::t:=by rw[ZEy _ _ J0];simp
theorem Zh8(Z:J7)(x y:Ob):Z++ [x]++ [y]=Z++ [x,y]:=by simp
def okM(M:List (Tx×Zt)):Prop:= ∀p∈M,p.2.2.1.length<=1000000/\p.2.2.2.1.length<=1000000
instance (M:List (Tx×Zt)):Decidable (okM M):=inferInstanceAs (Decidable (∀p∈M,_))
theorem Zhw{M:List (Tx×Zt)}(h:okM M):bdC M:=by
 intro k;unfold clV;rcases hm:ZJ M k with _|c
 .simp
 .have:=h _ (Qm hm);simpa using this
def ZLT(M:List (Tx×Zt))(l:List ZX):Prop:=okM M/\smA l/\ ∀a∈l,∀v∈a.2.1,v.length<=1000000
instance (M:List (Tx×Zt)) (l:List ZX):Decidable (ZLT M l):=inferInstanceAs (Decidable (_/\_/\_))
def Zi0(L:List (Tx×Zi)):Prop:=L.length<=1000000/\ ∀p∈L,p.1.length<=1000000
instance (L:List (Tx×Zi)):Decidable (Zi0 L):=inferInstanceAs (Decidable (_/\_))
theorem ZN.nn{P:Program}{f:FuncId}{args:J8}{os os':J7}{r:D}(h:ZN P f (args.map D.nn) os r os'):ZN P f args os r os':=by
 intro c E vs R hvl;refine h c E vs R ⟨by rw[Yb];exact hvl.1,λj d v hd hv=> ?_⟩;rw[YG]at hd;obtain⟨d0,hd0,rfl⟩:=Zd hd;exact(hvl.2 j d0 v hd0 hv).nn
def ZEE:J8->J7->J5
 | [.ptr 0 0,.agg [.x (.str dn),.x (.sl R)]],[.box [.mref 1,.mref 2],.mpo .str true P1,.mpo .str true P2]=>(Jz ZA Yd P1).bind λL=>(Jz ZA Jy P2).bind λM=>(ZV ZQ R).bind λl=>some (decide (ZLT M l),.x (.int .i64 (ZLQ L M l)))
 |_,_=>none
theorem ZNd: ∀args os r,ZEE args os=some (true,r)->r.clean=true/\ ∃X,ZN Tryz.prog 17 args os r (os++X):=by
 intro args os r h;unfold ZEE at h;split at h
 .rename_i dn R P1 P2;obtain⟨L,hm0,h⟩:=Zp h;obtain⟨M,hm1,h⟩:=Zp h;obtain⟨l,hr0,h⟩:=Zp h;simp only[Ze,Za,ZT,Zc,true_and]at h;obtain⟨h1,rfl⟩:=h;rw[Ye ZM JE hm0];rw[Ye ZM JN hm1];rw[<-ZY Zr hr0];exact⟨rfl,[],by rw[Kj];exact Zfq L M (dn,l,()) h1.2.1 h1.2.2 (Zhw h1.1)⟩
 .cases h
def ZK7:Tabs:=ZDB (ZO) 17 ZEE
theorem ZLA:SsOk Tryz.prog ZK7:=ZAJ (ZD) (ZU 17) ZNd
theorem ZbQ:(∀a,ZK7.q 17 a=none)/\(∀a o,ZK7.t 17 a o=(JI ZEE a o).map λr=>(r.1,r.2,o))/\(∀a o,ZK7.r 17 a o=JI ZEE a o)/\(∀f a o,ZK7.k f a o=none):=⟨λ_=>rfl,λ_ _=>rfl,λ_ _=>rfl,λ_ _ _=>rfl⟩
def ZHN(L:List (Tx×Zi))(M:List (Tx×Zt))(dn:Tx)(l:List ZX):Int:=if ZLQ L M l≠0 then ZLQ L M l else if ZPj L dn l=true then 0 else 64
theorem ZWs:Go.Ab.Enters Tryz.prog 98:=ZU 98
def ZLb:Tabs:=ZR (ZR (ZO) 100 ZEV) 101 ZFS
theorem ZYM:SsOk Tryz.prog ZLb:=ZG (ZG (ZD) (ZU 100) ZMn) (ZU 101) ZSW
theorem ZbH:(∀a,ZLb.q 100 a=ZEV a)/\(∀a,ZLb.q 101 a=ZFS a)/\(∀f a o,ZLb.r f a o=none)/\(∀f a o,ZLb.k f a o=none):=⟨λ_=>rfl,λ_=>rfl,λ_ _ _=>rfl,λ_ _ _=>rfl⟩
theorem ZiD(s t:Tx):ZC Tryz.prog 60 [.x (.str s),.x (.str t)] (.x (.int .i64 (cmpS (YL s) (YL t)))):=by
 refine ZI.pure (fC 60 true ?_) rfl;intro C0 E0;have uu:=ξ5 @ZEV.eq_1 @ZEV.eq_2 @ZFS.eq_1 @ZFS.eq_2 @ZbH;have tT:=ZYM;refine nz ?_;refine rg tT [0,1] ?_;refine rg tT [1,5] ?_;refine rg tT [5,7] ?_;refine rg tT [4] ?_;refine lf ?_
 first|rfl|exact⟨rfl,rfl⟩|trivial
def ZO5:J8->J5
 | [.x (.str s),.x (.str t)]=>some (true,.x (.int .i64 (cmpS (YL s) (YL t))))
 |_=>none
theorem Zem: ∀args r,ZO5 args=some (true,r)->ZC Tryz.prog 60 args r:=by
 intro args r h;unfold ZO5 at h;split at h
 .rename_i s t;simp only[Ze,Za,ZT,Zc,true_and]at h;obtain rfl:=h;exact(ZiD s t)
 .cases h
def Yt(l:List Tx)(s:Tx):Nat:=(l.takeWhile λa=>Op.bytesLess (YL a) (YL s)).length
theorem ZJZ(l:List Tx)(s:Tx):Yt l s<=l.length:=(List.takeWhile_sublist _).length_le
theorem ZNt(l:List Tx)(s:Tx)(j:Nat)(h:j<Yt l s):Op.bytesLess (YL (l[j]'(ZPU h (ZJZ l s)))) (YL s)=true:=by
 have hp:(l.takeWhile λa=>Op.bytesLess (YL a) (YL s))<+:l:=List.takeWhile_prefix _;have:=Yc.1 (List.all_takeWhile (p:=λa:Tx=>Op.bytesLess (YL a) (YL s)) (l:=l)) _ (YM (h:=h));rwa [hp.getElem h]at this
theorem ZVu(l:List Tx)(s:Tx)(h:Yt l s<l.length):Op.bytesLess (YL l[Yt l s]) (YL s)=false:=by
 unfold Yt at*
 induction l with
 |nil=>simp at h
 |cons a l ih=>
  by_cases ha:Op.bytesLess (YL a) (YL s)=true
  .simp only[List.takeWhile_cons,ha,if_true,JG]at h|-;simpa using ih J0
  .simp only[List.takeWhile_cons,ha,JP,if_false,ξN];simpa using ha
abbrev SoL(l:List Tx):Prop:=l.Pairwise λa b=>Op.bytesLess (YL a) (YL b)=true
theorem ZUd{l:List Tx}(hs:SoL l)(s:Tx)(h:Nat)(hl:h<l.length):Op.bytesLess (YL l[h]) (YL s)=true↔h<Yt l s:=by
 constructor
 .intro hb;apply ZMZ;intro hc;have hle:Yt l s<=h:=by omega
  have hpl:Yt l s<l.length:=by omega
  have hst:=ZVu l s hpl;rcases Nat.lt_or_eq_of_le hle with hlt|heq
  .have:=ZJ6.1 hs _ _ hpl hl hlt;rw[bl_trans _ _ _ this hb]at hst;cases hst
  .have:l[Yt l s]=l[h]:=by congr 1
   rw[this,hb]at hst;cases hst
 .intro hb;exact ZNt l s h hb
def ZWW(l:List Tx)(s:Tx):Bool:=match l[Yt l s]? with
 |some a=>YL a==YL s
 |none=>false
def ZOC:Tabs:=ZR (ZO) 60 ZO5
theorem ZaD:SsOk Tryz.prog ZOC:=ZG (ZD) (ZU 60) Zem
theorem ZbG:(∀a,ZOC.q 60 a=ZO5 a)/\(∀f a o,ZOC.r f a o=none)/\(∀f a o,ZOC.k f a o=none):=⟨λ_=>rfl,λ_ _ _=>rfl,λ_ _ _=>rfl⟩
theorem ZiS(l:List Tx)(n:Tx)(hs:SoL l)(hl:l.length<=1000000):ZC Tryz.prog 59 [.x (.sl (rows ZA l)),.x (.str n),.fn 60 []] (.tup [.x (.int .i64 (Yt l n)),.x (.bool (ZWW l n))]):=by
 have hpl:=ZJZ l n;have hhit:ZWW l n=match l[Yt l n]? with|some a=>YL a==YL n|none=>false:=rfl
 refine ZI.pure (fC 59 true ?_) rfl;intro C0 E0;have uu:=JW @ZO5.eq_1 @ZO5.eq_2 @ZbG;have tT:=ZaD;refine nz ?_;refine rg tT [0,1,2] ?_;refine rg tT [0,1,2,8] ?_;refine rg tT [0,1,2,8,9,10] ?_;refine WI.loop (λφ os=> ∃(i j:Nat),φ= [(0,.x (.sl (rows ZA l))),(1,.x (.str n)),(2,.fn 60 []),(8,.x (.int .i64 l.length)),(9,.x (.int .i64 i)),(10,.x (.int .i64 j))]/\os= []/\i<=Yt l n/\Yt l n<=j/\j<=l.length) (dif) ?_ (λφ os hI=> ?_)
 .exact⟨0,l.length,rfl,rfl,J0,hpl,J0⟩
 .obtain⟨i,j,rfl,rfl,hi,hj,hjl⟩:=hI;refine nz ?_;refine rg tT [0,1,2,8,9,10,17] ?_;refine cd (λh0=> ?_) (λh0=> ?_)
  .refine rg tT [0,1,2,8,9,10,11] ?_;have hij:i<j:=by omega
   rw[Zdt i j J0];obtain⟨M,hM⟩: ∃M,M=(i+j)/2:=⟨_,rfl⟩;rw[<-hM];have hMl:M<l.length:=by omega
   have hrw:(rows ZA l)[M]? =some [X.str (l.getD M [])]:=by simp[rows,hMl,ZA]
   have hiff:=ZUd hs n M hMl;rw[show l[M]=l.getD M [] by simp[hMl],<-ZSQ]at hiff;generalize l.getD M []=x at hrw hiff;have uu:=YZ uu hrw;refine rg tT [0,1,2,8,9,10,11,31] ?_;refine cd (λh1=> ?_) (λh1=> ?_)
   .have hlt:M<Yt l n:=hiff.1 (by simpa using h1);refine rg tT [0,1,2,8,9,10] ?_
    first|exact⟨⟨M+1,j,rfl,rfl,J0,J0,J0⟩,by simp[dif,Ab.get,D.val,ZE];omega⟩|exact⟨⟨i,M,rfl,rfl,J0,J0,J0⟩,by simp[dif,Ab.get,D.val,ZE];omega⟩
   .have hlt: ¬M<Yt l n:=λh=>absurd (hiff.2 h) (by simpa using h1)
    refine rg tT [0,1,2,8,9,10] ?_
    first|exact⟨⟨M+1,j,rfl,rfl,J0,J0,J0⟩,by simp[dif,Ab.get,D.val,ZE];omega⟩|exact⟨⟨i,M,rfl,rfl,J0,J0,J0⟩,by simp[dif,Ab.get,D.val,ZE];omega⟩
  .obtain rfl:Yt l n=i:=by omega
   by_cases hk:Yt l n<l.length
   .have hrw:(rows ZA l)[Yt l n]? =some [X.str (l.getD (Yt l n) [])]:=by simp[rows,hk,ZA]
    rw[YC hk,show l[Yt l n]=l.getD (Yt l n) [] by simp[hk]]at hhit;generalize l.getD (Yt l n) []=x at hrw hhit;have hd:=ZL (show((Yt l n:Nat):Int)<(l.length:Int) by omega);have uu:=JW uu hrw hd;refine rg tT [6,7] ?_;refine lf ?_;have hcb:(cmpS (YL x) (YL n)==0)=(YL x==YL n):=by rw[Qj];simp[ZQJ]
    rw[hhit,hcb]
   .have hrw:(rows ZA l)[Yt l n]? =none:=ZCW (by rw[Zh];omega);rw[ZCW J0]at hhit;have hd:=decide_eq_false (show ¬((Yt l n:Nat):Int)<(l.length:Int) by omega);have uu:=JW uu hrw hd;refine rg tT [6,7] ?_;refine lf ?_;rw[hhit]
def ZPK:J8->J5
 | [.x (.sl R),.x (.str n),.fn 60 []]=>(ZV ZA R).bind λl=>some (decide (SoL l/\l.length<=1000000),.tup [.x (.int .i64 (Yt l n)),.x (.bool (ZWW l n))])
 |_=>none
theorem ZfY: ∀args r,ZPK args=some (true,r)->ZC Tryz.prog 59 args r:=by
 intro args r h;unfold ZPK at h;split at h
 .rename_i R n;obtain⟨l,hr0,h⟩:=Zp h;simp only[Ze,Za,ZT,Zc,true_and]at h;obtain⟨h1,rfl⟩:=h;rw[<-ZY ZM hr0];exact(ZiS l n h1.1 h1.2)
 .cases h
end Go.Proofs.YtpjfdjcejamebaaGreatDoor
end
section
namespace Go.Ab
open Go.RowKit Go.Bo
def ZVw(S:Tabs)(f:FuncId)(g:J8->J7->Option (Bool×(Nat->D)×Ob)):Tabs:=⟨S.q,S.t,S.r,λf' args os=>if f'=f then g args os else S.k f' args os⟩
theorem ZaW{P:Program}{S:Tabs}(hS:SsOk P S){f:FuncId}{g:J8->J7->Option (Bool×(Nat->D)×Ob)}(he:Enters P f)(hg: ∀args os r ob,g args os=some (true,r,ob)->ZDQ P f args os r ob):SsOk P (ZVw S f g):=by
 refine⟨hS.q,hS.t,hS.r,λf' args os r ob h=> ?_⟩;simp only[ZVw]at h;split at h
 .rename_i e;subst e;exact⟨he,hg _ _ _ _ h⟩
 .exact hS.k _ _ _ _ _ h
end Go.Ab
namespace Go.Proofs.YtpjfdjcejamebaaGreatDoor
open Go.RowKit Go.Bo Go.Ab
def ZVo:J8->J7->Option (Bool×D×J7)
 | [.ref 0 n 0 n',.x (.int .i64 i),.ref 1 1 0 1],[.rows false e 1 rs,.rows false e' 1 [r]]=>some (decide (n=rs.length/\n'=rs.length/\0<=i/\i<=rs.length/\rs.length<=1000000/\e=9/\e'=9),.ref 0 (n+1) 0 (n+1),[.rows false e 1 (YJ rs i.toNat [r]),.rows false e' 1 [r]])
 |_,_=>none
theorem ZS7: ∀args os r os',ZVo args os=some (true,r,os')->ZN Tryz.prog 61 args os r os':=by
 intro args os r os' h;unfold ZVo at h;split at h
 .rename_i n n' i e rs e' r0;simp only[Ze,Za,Zc]at h;obtain⟨⟨rfl,rfl,h0,h1,h2,rfl,rfl⟩,rfl,rfl⟩:=h;have h:=ZaJ rs r0 i.toNat J0 h2;rwa [show((i.toNat:Nat):Int)=i by omega]at h
 .cases h
theorem ZZ5(r:J9):ZN Tryz.prog 61 [.x .nils,.x (.int .i64 0),.ref 0 1 0 1] [.rows false 9 1 [r]] (.ref 1 1 0 1) [.rows false 9 1 [r],.rows false 9 1 [r]]:=by
 intro c E vs R hvl;obtain⟨E1,k1,k2,k3,k4⟩:=Qt (fz:=false) (e:=9) (sz:=1) (rs:= []) (cu:= .slice none 0 0) (xs:= []) R (Kept.refl _ E.w) ⟨J1,.inl ⟨rfl,rfl⟩⟩ (λb hb=>by cases hb) (λr hr=>by cases hr) (λi r j x v h=>by simp at h);have h:=ZN.lift ZS7 [.ref 1 0 0 0,.x (.int .i64 0),.ref 0 1 0 1] [.rows false 9 1 [r],.rows false 9 1 []] (.ref 1 1 0 1) [.rows false 9 1 [r],.rows false 9 1 [r]] rfl;refine k1▸(h c E1 vs k2 ⟨hvl.1,λj d v hd hv=> ?_⟩).mono ?_
 .match j with
  |0=>cases hd;have:=V.nils (hvl.2 0 _ v rfl hv);subst this;exact k4
  |j+1=>exact(hvl.2 (j+1) d v hd hv).mono k3
 .rintro e w' ⟨v,E2,rfl,rfl,R2,e2,hv⟩;exact⟨v,E2,rfl,rfl,R2,k3.trans e2,hv⟩
def ZVq:J8->J7->Option (Bool×D×J7)
 | [.x .nils,.x (.int .i64 0),.ref 0 1 0 1],[.rows false e 1 [r]]=>some (decide (e=9),.ref 1 1 0 1,[.rows false e 1 [r],.rows false e 1 [r]])
 |a,o=>ZVo a o
theorem ZcI: ∀args os r os',ZVq args os=some (true,r,os')->ZN Tryz.prog 61 args os r os':=by
 intro args os r os' h;unfold ZVq at h;split at h
 .simp only[Ze,Za,Zc]at h;obtain⟨rfl,rfl,rfl⟩:=h;exact ZZ5 _
 .exact ZS7 _ _ _ _ h
def ZHZ:J8->J7->Option (Bool×D×J7)
 | [],[]=>some (true,.ptr 0 0,[.box [.mref 1,.mref 2],.mpo .str true (JM (tyL plT)),.mpo .str true (JH (clL plC))])
 |_,_=>none
theorem ZQT: ∀args os r os',ZHZ args os=some (true,r,os')->ZN Tryz.prog 10 args os r os':=by
 intro args os r os' h;unfold ZHZ at h;split at h
 .cases h;exact ZPb
 .cases h
def Zhz(dc:Tx):List ZX:= [([111,98,106,101,99,116,99,108,97,115,115],[[100,111,109,97,105,110]],()),([100,99],[dc],())]
theorem Zbj(dn dc:Tx):ZC Tryz.prog 49 [.x (.str dn),.x (.str dc)] (.agg [.x (.str dn),.x (.sl (rows ZQ (Zhz dc)))]):=evP 300 49 ZD []
def ZPO:J8->J5
 | [.x (.str dn),.x (.str dc)]=>some (true,.agg [.x (.str dn),.x (.sl (rows ZQ (Zhz dc)))])
 |_=>none
theorem ZWR: ∀args r,ZPO args=some (true,r)->ZC Tryz.prog 49 args r:=by
 intro args r h;unfold ZPO at h;split at h
 .rename_i dn dc;simp only[Ze,Za,ZT,Zc,true_and]at h;obtain rfl:=h;exact(Zbj dn dc)
 .cases h
abbrev Qa(P1 P2:W2)(Y:J7):J7:= .box [.ptr 1 0,.mref 4,.mref 5]:: .box [.mref 2,.mref 3]:: .mpo .str true P1:: .mpo .str true P2::Y
abbrev TB:=Tx×Nat×List Tx
def Ks(x:TB):Pr:=([.str x.1],[.ref (x.2.1+6) x.2.2.length 0 x.2.2.length])
def Jl(x:TB):Tx×List Tx:=(x.1,x.2.2)
def okB(Y:J7)(B:List TB):Prop:=(B.map (·.1)).Nodup/\(B.map (·.2.1)).Nodup/\ ∀x∈B,Y[x.2.1]? =some (.rows false 9 1 (rows ZA x.2.2))/\x.2.2.length<=1000000
def ZHw(r0:D)(P1 P2:W2)(Y:J7)(r:D)(os':J7):Prop:=r=r0/\ ∃Z,os'=Qa P1 P2 (Y++Z)/\Z.all Ob.nof=true
theorem Zdf{Y W Z:J7}{e:Ob}(hZ:Z=Y++e::W)(X:J7):Z++X=Y++e::(W++X):=by rw[hZ,Yp,Qi]
set_option maxHeartbeats 4000000 in
theorem Zb6(L:List (Tx×Zi))(M:List (Tx×Zt))(Y:J7)(dn:Tx)(l:List ZX)(h:QJ l):ZI Tryz.prog 98 [.ptr 0 0,.agg [.x (.str dn),.x (.sl (rows ZQ l))]] (Qa (JM L) (JH M) Y) (ZHw (.x (.bool (ZPj L dn l))) (JM L) (JH M) Y):=by
 obtain⟨d,hd⟩: ∃d,(YN (YL dn)).1=d:=⟨_,rfl⟩;rcases hres:ZPj L dn l with v
 unfold ZPj at hres;rw[hd]at hres;have hul:ZV ZQ (rows ZQ l)=some l:=Zf Zr l;have hg0:=ZF2 Y;have hg1:=ZgJ Y;have hg2:=ZjH Y;have hL1: ∀m:Nat,decide (1<m+1+1+1+1)=true:=λm=>ZL J0
 have hL2: ∀m:Nat,decide (2<m+1+1+1+1)=true:=λm=>ZL J0
 have hL3: ∀m:Nat,decide (3<m+1+1+1+1)=true:=λm=>ZL J0
 have hu1:=ZC1 L;have hu2:=ZCy M;have hmb: ∀r∈d,Yh r=true:=λr hr=>ZfC (s:=YL dn) (by rw[hd];exact hr)
 refine fC 98 true ?_;intro C0 E0;have uu:=KJ @ZEV.eq_1 @ZEV.eq_2 @Qk.eq_1 @Qk.eq_2 @ZHI.eq_1 @ZHI.eq_2 @ZFr.eq_1 @ZFr.eq_2 (KJ hul hd @ZCZ @ZCk @ZDe @ZDd @ZAU @ZAS (KJ hg0 hg1 hg2 hL1 hL2 hL3 hu1 hu2 @Zb3));have tT:=ZXQ;refine nz ?_;refine rg tT [0,3] ?_;refine rg tT [0,3,5,6] ?_;refine rg tT [0,3,6,7] ?_;refine rg tT [0,3,7,30] ?_;refine cd (λh0=> ?_) (λh0=> ?_)
 .have hq: ¬(Ke dn=true/\d≠ []):=by
   rintro⟨e1,e2⟩;have:=ZLa.2 e2;rw[e1]at h0;clear uu hres;grind
  have hv:v=false:=by
   rw[<-hres];rcases Classical.em (Ke dn=true)with e1|e1
   .have e2:d= []:=ZMZ λe=>hq ⟨e1,e⟩
    rw[e1,e2];rfl
   .rw[ZSO]at e1;rw[e1];rfl
  subst hv;refine rg tT [4] ?_;refine lf ?_;exact⟨rfl,_,rfl,rfl⟩
 .have hv:Ke dn=true/\d≠ []:=by
   constructor
   .clear uu hres;grind
   .intro e;subst e;clear uu hres;grind
  obtain⟨r,d2,rfl⟩:=List.exists_cons_of_ne_nil hv.2;rw[hv.1,ZL hv.2,ZBP,ZBP,List.headD_cons]at hres;obtain⟨hr8,hr1,hpb⟩:=ZBz (hmb r ZCa);refine rg tT [0,3,33,34,35] ?_;refine WI.loop (λφ os=> ∃(j:Nat) (W:J7),φ= [(0,.ptr 0 0),(3,.ptr (Y.length+1+1+1+1) 0),(33,.x (.sl (rows Zn r))),(34,.x (.int .i64 r.length)),(35,.x (.int .i64 j))]/\os=Qa (JM L) (JH M) (Y++ .box [.x (.str dn),.x (.sl (rows ZQ l))]::W)/\W.all Ob.nof=true/\j<=r.length/\(r.take j).all (ZIP L l)=true) (ZK r.length 35) ?_ (λφ os hI=> ?_)
  .exact⟨0,[],rfl,rfl,rfl,J0,rfl⟩
  .obtain⟨j,W,rfl,rfl,hW,hj,hall⟩:=hI;obtain⟨Z,hZ⟩: ∃Z,Z=Y++ .box [.x (.str dn),.x (.sl (rows ZQ l))]::W:=⟨_,rfl⟩;have hzE: ∀t:J7,(Z++t)[Y.length]? =some (.box [.x (.str dn),.x (.sl (rows ZQ l))]):=λt=>by rw[hZ,Yp];exact ZF2 Y _ _
   have hzN:Z[Y.length]? =some (.box [.x (.str dn),.x (.sl (rows ZQ l))]):=by rw[hZ];exact ZF2 Y _ _
   have hz0:=ZF2 Z;have hz1:=ZgJ Z;have hs0:=ZWj Z;have hs1:=ZjA Z;have hsn:=Zh8 Z;have hln: ∀x:Ob,(Z++ [x]).length=Z.length+1:=λx=>by simp
   have uu:=KJ uu hzE hzN hz0 hz1 hs0 hs1 hsn hln;rw[<-hZ];refine nz ?_;refine rg tT [0,3,33,34,35,36] ?_;refine cd (λh1=> ?_) (λh1=> ?_)
   .have hj4:j<r.length:=by omega
    have hrw:=ZC2 r j hj4;have hg:r[j]=r.getD j ([],[]):=by simp[hj4]
    have hal:=JL (ZIP L l) r j hj4;have hno:ZIP L l (r.getD j ([],[]))=false->r.all (ZIP L l)=false:=λh=>Zw (ZIP L l) r j hj4 (by rw[hg];exact h)
    have hpl:=hpb r[j] (YM hj4);rw[hg]at hal hpl;generalize r.getD j ([],[])=p at hrw hal hno hpl;have hn1:ZIP L l p=((ZJ L (ZH p.1)).isSome&&ZFH l p.1 p.2 (tyV L (ZH p.1)).2.1):=rfl;have hdp:decide (p.1.length<=140737488355328)=true:=ZL J0;have hdh:decide (QJ l/\p.1.length<=140737488355328)=true:=ZL ⟨h,J0⟩;have uu:=ξ5 uu hrw hdp hdh @tyD.eq_1;refine rg tT [0,3,10,33,34,35] ?_;refine WI.dregB tT [0,3,10,11,12,33,34,35] ?_
    iterate 3 refine YD ?_
    refine JO ?_;refine YD ?_;refine JO ?_;refine dQC ?_;refine YD ?_
    iterate 2 refine KR ?_
    refine dKG ?_;refine dAG ?_;refine YD ?_;refine dN ?_;refine nz ?_;refine rg tT [0,3,33,34,35,61] ?_;refine cd (λh2=> ?_) (λh2=> ?_)
    .have hf:ZIP L l p=false:=by rw[hn1];clear uu;grind
     rw[hno hf]at hres;subst hres;refine rg tT [4] ?_;refine lf ?_;exact⟨rfl,_,congrArg (Qa _ _) (Zdf hZ _),by simp[Ob.nof,hW]⟩
    .have hf:ZIP L l p=true:=by rw[hn1];clear uu;grind
     have hall2:(r.take (j+1)).all (ZIP L l)=true:=by rw[hal,hall,hf];rfl
     refine WI.orderA [0,3,33,34,35] ?_;refine rg tT [0,3,33,34,35] ?_;exact⟨⟨j+1,_,rfl,congrArg (Qa _ _) (Zdf hZ _),by simp[Ob.nof,hW],J0,hall2⟩,by simp[ZK,Ab.get,D.val,ZE];omega⟩
   .obtain rfl:j=r.length:=by omega
    rw[JS]at hall;rw[hall]at hres;subst hres;refine rg tT [4] ?_;refine lf ?_;exact⟨rfl,_,congrArg (Qa _ _) hZ,by simp[Ob.nof,hW]⟩
set_option maxHeartbeats 4000000 in
theorem ZgD(L:List (Tx×Zi))(M:List (Tx×Zt))(Y:J7)(dn:Tx)(l:List ZX)(h:QJ l)(hk:ZLT M l):ZI Tryz.prog 57 [.ptr 0 0,.agg [.x (.str dn),.x (.sl (rows ZQ l))]] (Qa (JM L) (JH M) Y) (ZHw (.x (.int .i64 (ZHN L M dn l))) (JM L) (JH M) Y):=by
 rcases hres:ZHN L M dn l with v
 unfold ZHN at hres;have hul:ZV ZQ (rows ZQ l)=some l:=Zf Zr l;have hdk:=ZL hk;have hg0:=ZF2 Y;have hL1: ∀m:Nat,decide (1<m+1+1+1+1)=true:=λm=>ZL J0
 have hL2: ∀m:Nat,decide (2<m+1+1+1+1)=true:=λm=>ZL J0
 have hL3: ∀m:Nat,decide (3<m+1+1+1+1)=true:=λm=>ZL J0
 have hu1:=ZC1 L;have hu2:=ZCy M;refine fC 57 true ?_;intro C0 E0;have uu:=KJ @ZEE.eq_1 @ZEE.eq_2 hul hdk @ZCZ @ZCk @ZDe @ZDd (KJ @ZAU @ZAS hg0 hL1 hL2 hL3 hu1 hu2 @ZbQ);have tT:=ZLA;refine nz ?_;refine rg tT [0,3] ?_;refine WI.dregB tT [0,3,5] ?_
 iterate 3 refine YD ?_
 iterate 2 refine JO ?_
 refine dAC ?_;refine YD ?_;refine dN ?_;refine nz ?_;refine rg tT [0,3,5,13] ?_;refine cd (λh0=> ?_) (λh0=> ?_)
 .have hc:ZLQ L M l≠0:=by simpa using h0
  rw[if_pos hc]at hres;subst hres;refine rg tT [4] ?_;refine lf ?_;exact⟨rfl,_,rfl,rfl⟩
 .have hc: ¬ZLQ L M l≠0:=by simpa using h0
  rw[if_neg hc]at hres;refine WI.cutA ZLA [15,16] 2 ?_;simp only[ξV,ZCV,ZEu,ZBy];refine oS ?_;refine oG ?_;refine oP ?_;refine ZJb ?_;refine WR.callF (ZWs) (Zb6 L M (Y++ [.box [.x (.str dn),.x (.sl (rows ZQ l))]]) dn l h) ?_;rintro _ _ ⟨rfl,Z,rfl,hZ⟩;refine WR.regB ZLA [18] ?_;refine oG ?_;refine oN ?_;refine nz ?_;refine cd (λh1=> ?_) (λh1=> ?_)
  .have hc2: ¬ZPj L dn l=true:=by simpa using h1
   rw[if_neg hc2]at hres;subst hres;refine rg tT [4] ?_;refine lf ?_;exact⟨rfl,_,congrArg (Qa _ _) (Yp _ _ _),by simp[Ob.nof,hZ]⟩
  .have hc2:ZPj L dn l=true:=by simpa using h1
   rw[if_pos hc2]at hres;subst hres;refine rg tT [4] ?_;refine lf ?_;exact⟨rfl,_,congrArg (Qa _ _) (Yp _ _ _),by simp[Ob.nof,hZ]⟩
theorem sn0(Z:J7)(x:Ob):(Z++ [x])[Z.length]? =some x:=by simp
theorem sn1(Z:J7)(x y:Ob):(Z++ [x]++ [y])[Z.length]? =some x:=by rw[Yp];exact ZF2 Z x _
theorem sn2(Z:J7)(x y z:Ob):(Z++ [x]++ [y]++ [z])[Z.length]? =some x:=by rw[Yp,Yp];exact ZF2 Z x _
theorem st0(Z:J7)(x y:Ob):(Z++ [x]).set Z.length y=Z++ [y]:=by rw[ZEy _ _ J0];simp
theorem st1(Z:J7)(x y z:Ob):(Z++ [x]++ [y]).set Z.length z=Z++ [z]++ [y]:=by rw[Yp,ZEy _ _ J0];simp
theorem sz1(Z W:J7)(x:Ob):(Z++ [x]++W)[Z.length]? =some x:=by rw[Yp];exact ZF2 Z x _
theorem sz2(Z W:J7)(x y:Ob):(Z++ [x]++ [y]++W)[Z.length]? =some x:=by rw[Yp,Yp];exact ZF2 Z x _
theorem as2(Y:J7)(a b:Ob):Y++ [a]++ [b]=Y++ [a,b]:=by simp
theorem as3(Y Z:J7)(a b:Ob):Y++ [a]++ [b]++Z=Y++a::b::Z:=by simp
theorem as4(Y Z:J7)(a b c:Ob):Y++ [a]++ [b]++ [c]++Z=Y++a::b::c::Z:=by simp
abbrev EM:=List (Tx×KG)
def enM(m:EM):W2:=Yk Ka Ql.enc m
theorem ZNn(m:EM)(k:Tx):JX (enM m) [X.str k]=(ZJ m k).map λe=> [.x (.str e.1),.x (.sl (rows ZQ e.2.1))]:=by
 unfold enM;rw[ZEq Ka Ql.enc hkS m k];rfl
theorem Zg8(m:EM)(k:Tx)(e:KG):Yg (enM m) [X.str k] [.x (.str e.1),.x (.sl (rows ZQ e.2.1))]=enM (Zv m k e):=ZD3 Ka Ql.enc hkS m k e
theorem Zhi(m:EM):(enM m).length=m.length:=ZJ0 _ _ _
theorem ZZZ(s t:Tx):ZDC [X.str s] [X.str t]=decide (s=t):=hkS s t
theorem ZYS(B:List TB)(s:Tx):JX (B.map Ks) [X.str s]=(ZJ B s).map λx=> [.ref (x.1+6) x.2.length 0 x.2.length]:=by
 induction B with
 |nil=>rfl
 |cons p B ih=>
  simp only[YO,Ks,JX,ZZZ]at ih|-;by_cases h:s=p.1
  .simp[ZJ,h]
  .simp only[h,decide_false,JP,if_false];rw[ih];simp[ZJ,h]
theorem ZYW(B:List TB)(s:Tx)(i:Nat)(l:List Tx):Yg (B.map Ks) [X.str s] [.ref (i+6) l.length 0 l.length]=(Zv B s (i,l)).map Ks:=by
 induction B with
 |nil=>rfl
 |cons p B ih=>
  simp only[YO,Ks,Yg,Zv,ZZZ]at ih|-;by_cases h:s=p.1
  .simp[h,Ks]
  .simp only[h,decide_false,JP,if_false];rw[ih];simp[Ks]
def QV(m:EM)(n:Tx):KG:=match ZJ m n with
 |some e=>(e.1,Zs e.2.1,())
 |none=>([],[],())
def Zht(m:EM):Prop:= ∀n e,ZJ m n=some e->QJ e.2.1
def ZOq:Tabs:=ZR (ZO) 58 (ZBg Ku)
theorem ZQb:SsOk Tryz.prog ZOq:=ZG (ZD) (ZU 58) (ZM2 ZGT)
theorem ZRk:(∀a,ZOq.q 58 a=ZBg Ku a)/\(∀f a o,ZOq.r f a o=none)/\(∀f a o,ZOq.k f a o=none):=⟨λ_=>rfl,λ_ _ _=>rfl,λ_ _ _=>rfl⟩
theorem ZiI(P1 P2:W2)(m:EM)(o:Ob)(Y:J7)(n:Tx)(hm:Zht m):ZI Tryz.prog 54 [.ptr 0 0,.x (.str n)] (Qa P1 P2 (.mpo .str true (enM m)::o::Y)) (ZHw (.tup [.agg [.x (.str (QV m n).1),.x (.sl (rows ZQ (QV m n).2.1))],.x (.bool (ZJ m n).isSome)]) P1 P2 (.mpo .str true (enM m)::o::Y)):=by
 have hg:=ZNn m n;have hs:=hm n;unfold QV;rcases hl:ZJ m n with _|⟨dn,l,u⟩
 .rw[hl,ZAD]at hg;refine fC 54 true ?_;intro C0 E0;have uu:=KJ @Ku.eq_1 @Ku.eq_2 @sn0 @sn1 @sn2 @st0 @st1 hg @ZRk;have tT:=ZQb;refine nz ?_;refine rg tT [0,1,4] ?_;refine rg tT [0,1,4,9] ?_;refine ce (λh0=> ?_) (λh0=> ?_)
  .simp at h0
  .refine rg tT [4,6,7] ?_;refine rg tT [4,5] ?_;refine lf ?_;exact⟨rfl,[_,_],congrArg (λz=>Qa P1 P2 (_::_::z)) (Yp Y [_] [_]),rfl⟩
 .rw[hl,Yl]at hg;have hdm:=ZL (show l.length<=100/\(∀a∈l,a.1.length<=1000000)/\ ∀a∈l,a.2.1.length<=400 from hs _ hl);have hul:ZV ZQ (rows ZQ l)=some l:=Zf Zr l;refine fC 54 true ?_;intro C0 E0;have uu:=KJ @Ku.eq_1 @Ku.eq_2 @sn0 @sn1 @sn2 @st0 @st1 hg (JW hul hdm @ZRk);have tT:=ZQb;refine nz ?_;refine rg tT [0,1,4] ?_;refine rg tT [0,1,4,9] ?_;refine ce (λh0=> ?_) (λh0=> ?_)
  .simp at h0
  .refine rg tT [4,6,7] ?_;refine rg tT [4,5] ?_;refine lf ?_;exact⟨rfl,[_,_],congrArg (λz=>Qa P1 P2 (_::_::z)) (Yp Y [_] [_]),rfl⟩
def ZBt(c:Int)(m:EM)(dn:Tx)(l:List ZX):EM:=if c=0 then Zv m dn (dn,Zs l,())else m
def Yf(B:List (Tx×List Tx))(n:Tx):List Tx:=(ZJ B n).getD []
def YP(B:List (Tx×List Tx)):Nat->Tx->List Tx
 |0,_=> []
 |k+1,n=>(Yf B n).flatMap λs=>s::YP B k s
def deep(B:List (Tx×List Tx)):Nat->Tx->Prop
 |0,n=>Yf B n= []
 |k+1,n=> ∀s∈Yf B n,deep B k s
theorem ZJS{Y:J7}{B:List TB}(h:okB Y B)(Z:J7):okB (Y++Z) B:=
 ⟨h.1,h.2.1,λx hx=>⟨by rw[Ym (Zb (h.2.2 x hx).1).1];exact(h.2.2 x hx).1,(h.2.2 x hx).2⟩⟩
theorem ZPG(B:List TB)(s:Tx):ZJ (B.map Jl) s=(ZJ B s).map (·.2):=by
 induction B with
 |nil=>rfl
 |cons p B ih=>
  by_cases h:s=p.1
  .simp[ZJ,h,Jl]
  .have e1:ZJ (Jl p::B.map Jl) s=ZJ (B.map Jl) s:=by simp[ZJ,Jl,h]
   have e2:ZJ (p::B) s=ZJ B s:=by simp[ZJ,h]
   rw[YO,e1,e2];exact ih
theorem ra0(Y W V:J7)(R:Ob):(Y++R::W++V)[Y.length]? =some R:=by rw[Yp,Qi];exact ZF2 Y R _
theorem ra1(Y W V U:J7)(R:Ob):(Y++R::W++V++U)[Y.length]? =some R:=by rw[Yp,Yp,Qi];exact ZF2 Y R _
theorem Qu(Y W V:J7)(R R':Ob):(Y++R::W++V).set Y.length R'=Y++R'::W++V:=by rw[Yp,Qi,ZWj];simp
theorem rs1(Y W V U:J7)(R R':Ob):(Y++R::W++V++U).set Y.length R'=Y++R'::W++V++U:=by rw[Yp,Yp,Qi,ZWj];simp
theorem ZZX{f:Tx->List Tx}(row:List Tx)(j:Nat)(h:j<row.length):(row.take (j+1)).flatMap (λs=>s::f s)=(row.take j).flatMap (λs=>s::f s)++row.getD j []::f (row.getD j []):=by
 rw[Jg h,ZcT];simp[h]
theorem Zfe{α β:Type}(f:α->List β)(l:List α)(j:Nat):((l.take j).flatMap f).length<=(l.flatMap f).length:=by
 conv=>rhs;rw[<-ZDA j l,ZcT,Zg]
 omega
theorem ZiL(P1 P2:W2)(o b:Ob)(Y W Z:J7)(acc:List Tx)(s:Tx)(w:List Tx)(x:Ob):Qa P1 P2 (o::b::(Y++ .rows false 9 1 (rows ZA acc++ [[.str s]]++rows ZA w)::W++ [x]++Z))=Qa P1 P2 (o::b::(Y++ .rows false 9 1 (rows ZA (acc++s::w))::(W++x::Z))):=by
 have h:rows ZA acc++ [[X.str s]]++rows ZA w=rows ZA (acc++s::w):=by simp[rows,ZA]
 rw[h];simp
set_option maxHeartbeats 4000000 in
theorem ZSF(P1 P2:W2)(o:Ob)(Bt:List TB)(f:Tx->List Tx)(n:Tx)(Y:J7)(row:List Tx)(hB:okB Y Bt)(hrow:Yf (Bt.map Jl) n=row)
  (hih: ∀s∈row,∀Y,okB Y Bt->(f s).length<=1000000->ZI Tryz.prog 123 [.ptr 0 0,.x (.str s)] (Qa P1 P2 (o:: .mpo .str false (Bt.map Ks)::Y)) (ZHw (.x (.sl (rows ZA (f s)))) P1 P2 (o:: .mpo .str false (Bt.map Ks)::Y)))
  (hl:(row.flatMap λs=>s::f s).length<=1000000):ZI Tryz.prog 123 [.ptr 0 0,.x (.str n)] (Qa P1 P2 (o:: .mpo .str false (Bt.map Ks)::Y)) (ZHw (.x (.sl (rows ZA (row.flatMap λs=>s::f s)))) P1 P2 (o:: .mpo .str false (Bt.map Ks)::Y)):=by
 have hg:=ZYS Bt n;unfold Yf at hrow;rw[ZPG]at hrow;rcases hm:ZJ Bt n with _|⟨i,row'⟩
 .rw[hm]at hg hrow;subst hrow;rw[ZAD]at hg;refine fC 123 true ?_;intro C0 E0;have uu:=hg;have tT:=(ZD:SsOk Tryz.prog ZO);refine nz ?_;refine rg tT [0,1] ?_;refine rg tT [0,1,5] ?_;refine rg tT [0,5,13,14,15] ?_;refine WI.loopN 1 ?_;refine WI.round ?_;refine nz ?_;refine rg tT [0,5,13,14,15,16] ?_;refine ce (λh0=> ?_) (λh0=> ?_)
  .exact absurd h0 (by decide)
  .refine rg tT [4] ?_;refine WI.nn0A ?_;refine lf ?_;exact⟨rfl,[],J1,rfl⟩
 .rw[hm]at hg hrow;rw[Yl]at hg;obtain rfl:row'=row:=hrow;obtain⟨hY,hrl⟩:=hB.2.2 _ (Qm hm);simp only at hY hrl;have hrY: ∀W:J7,(Y++W)[i]? =some (.rows false 9 1 (rows ZA row')):=λW=>by
   rw[Ym (Zb hY).1];exact hY
  have hrn:=Zh ZA row';have htl:(rows ZA row').take row'.length=rows ZA row':=by rw[<-hrn,JS]
  refine fC 123 true ?_;intro C0 E0;have uu:=ξ5 hg hY hrY hrn htl;have tT:=(ZD:SsOk Tryz.prog ZO);refine nz ?_;refine rg tT [0,1] ?_;refine rg tT [0,1,5] ?_;refine rg tT [0,5,13,14,15] ?_;refine WI.ownA 5 9 1 ?_;refine WI.orderA [0,5,13,14,15] ?_;obtain⟨XS,hX⟩: ∃XS,XS=row'.flatMap (λs=>s::f s):=⟨_,rfl⟩;rw[<-hX]at hl|-;refine WI.loop (λφ os=> ∃(j:Nat) (acc:List Tx) (W:J7),φ= [(0,.ptr 0 0),(5,.ref (Y.length+1+1+1+1+1+1) acc.length 0 acc.length),(13,.ref (i+6) row'.length 0 row'.length),(14,.x (.int .i64 row'.length)),(15,.x (.int .i64 j))]/\os=Qa P1 P2 (o:: .mpo .str false (Bt.map Ks)::(Y++ .rows false 9 1 (rows ZA acc)::W))/\W.all Ob.nof=true/\j<=row'.length/\acc=(row'.take j).flatMap (λs=>s::f s)) (ZK row'.length 15) ?_ (λφ os hI=> ?_)
  .exact⟨0,[],[],rfl,rfl,rfl,J0,rfl⟩
  .obtain⟨j,acc,W,rfl,rfl,hW,hj,hacc⟩:=hI;have hra:=ra0 Y W;have hra1:=ra1 Y W;have hrs:=Qu Y W;have hrs1:=rs1 Y W;have uu:=ξ7 uu hra hra1 hrs hrs1 sn0 (ZF2 Y);refine nz ?_;refine rg tT [0,5,13,14,15,16] ?_;refine cd (λh0=> ?_) (λh0=> ?_)
   .have hj4:j<row'.length:=by omega
    have hrw:(rows ZA row')[j]? =some [X.str (row'.getD j [])]:=by simp[rows,hj4,ZA]
    have hst:=ZZX (f:=f) row' j hj4;have hle:=Zfe (λs=>s::f s) row' (j+1);rw[hst,<-hacc,<-hX,Zg,JG]at hle;have hds:=hih (row'.getD j []) (by rw[show row'.getD j []=row'[j] by simp[hj4]];exact YM hj4);generalize row'.getD j []=s at hrw hst hle hds;have hta:(rows ZA acc).take acc.length=rows ZA acc:=by rw[<-Zh ZA acc,JS]
    have uu:=ξ4 uu hrw hta (Zh ZA acc);refine rg tT [0,5,7,13,14,15] ?_;refine WI.cutA ZD [0,13,14,15,22,23,24] 6 ?_;simp only[ξV,ZCV,ZEu,ZBy]
    iterate 2 refine oS ?_
    iterate 2 refine oG ?_
    iterate 2 refine oS ?_
    refine oP ?_;refine ZJb ?_;refine WR.callF ((ZU 123)) (hds (Y++ .rows false 9 1 (rows ZA acc++ [[.str s]])::W++ [.rows false 9 1 [[.str s]]]) (by rw[Yp];exact ZJS hB _) J0) ?_;rintro _ _ ⟨rfl,Z,rfl,hZ⟩;refine WR.regB ZD [0,5,13,14,15] ?_;refine oG ?_;refine oS ?_;refine oN ?_;refine nz ?_;refine WI.orderA [0,5,13,14,15] ?_;have hla:(acc++s::f s).length=acc.length+1+(f s).length:=by simp;omega
    refine rg tT [0,5,13,14,15] ?_;exact⟨⟨j+1,acc++s::f s,W++_::Z,by rw[hla];rfl,ZiL P1 P2 o _ Y W Z acc s _ _,by simp[Ob.nof,hW,hZ],J0,by rw[hst,<-hacc]⟩,by simp[ZK,Ab.get,D.val,ZE];omega⟩
   .obtain rfl:j=row'.length:=by omega
    rw[JS,<-hX]at hacc;subst hacc;have hta:(rows ZA acc).take acc.length=rows ZA acc:=by rw[<-Zh ZA acc,JS]
    have uu:=JW uu hta (Zh ZA acc);refine rg tT [4] ?_;refine lf ?_;exact⟨rfl,.frz 1 (rows ZA acc)::W,congrArg (λz=>Qa P1 P2 (_::_::z)) (ZWj Y _ _ W),by simp[Ob.nof,hW]⟩
theorem ZTI(P1 P2:W2)(o:Ob)(Bt:List TB): ∀(k:Nat) (n:Tx) (Y:J7) (hB:okB Y Bt) (hd:deep (Bt.map Jl) k n) (hl:(YP (Bt.map Jl) k n).length<=1000000),
  ZI Tryz.prog 123 [.ptr 0 0,.x (.str n)] (Qa P1 P2 (o:: .mpo .str false (Bt.map Ks)::Y)) (ZHw (.x (.sl (rows ZA (YP (Bt.map Jl) k n)))) P1 P2 (o:: .mpo .str false (Bt.map Ks)::Y))
 |0,n,Y,hB,hd,_=>ZSF P1 P2 o Bt (λ_=> []) n Y [] hB hd (λs h=>(by cases h)) (by decide)
 |k+1,n,Y,hB,hd,hl=>ZSF P1 P2 o Bt (YP (Bt.map Jl) k) n Y _ hB rfl (λs hs Y hB hl=>ZTI P1 P2 o Bt k s Y hB (hd s hs) hl) hl
theorem sy1(Z W:J7)(x y:Ob):(Z++ [x]++W).set Z.length y=Z++ [y]++W:=by rw[Yp,ZEy _ _ J0];simp
def ZXt(m:EM)(B:List (Tx×List Tx))(k:Nat)(n:Tx):List Tx:=if n= []then YP B k []else if(ZJ m n).isSome then n::YP B k n else []
set_option maxHeartbeats 4000000 in
theorem ZfA(P1 P2:W2)(m:EM)(Bt:List TB)(k:Nat)(n:Tx)(Y:J7)(hB:okB Y Bt)(hd:deep (Bt.map Jl) k n)(hl:(YP (Bt.map Jl) k n).length<=999999):
  ZI Tryz.prog 92 [.ptr 0 0,.x (.str n)] (Qa P1 P2 (.mpo .str true (enM m):: .mpo .str false (Bt.map Ks)::Y)) (ZHw (.x (.sl (rows ZA (ZXt m (Bt.map Jl) k n)))) P1 P2 (.mpo .str true (enM m):: .mpo .str false (Bt.map Ks)::Y)):=by
 have hg:=ZNn m n;unfold ZXt;by_cases hn:n= []
 .subst hn;rw[if_pos rfl];refine fC 92 true ?_;intro C0 E0;have uu:=trivial;have tT:=(ZD:SsOk Tryz.prog ZO);refine nz ?_;refine rg tT [0,1] ?_;refine rg tT [0,1,8] ?_;refine ce (λh0=> ?_) (λh0=> ?_)
  .simp at h0
  .refine rg tT [0,1,10] ?_;refine ct (λh1=> ?_) (λh1=> ?_)
   .refine WI.cutA ZD [11] 1 ?_;simp only[ξV,ZCV,ZEu,ZBy];refine oS ?_;refine oP ?_;refine ZJb ?_;refine WR.callF ((ZU 123)) (ZTI P1 P2 _ Bt k [] Y hB hd J0) ?_;rintro _ _ ⟨rfl,Z,rfl,hZ⟩;refine WR.regB ZD [4] ?_;refine oS ?_;refine oN ?_;refine nz ?_;refine lf ?_;exact⟨rfl,Z,rfl,hZ⟩
   .simp at h1
 .rw[if_neg hn];rcases hm:ZJ m n with _|⟨dn,l,u⟩
  .rw[hm,ZAD]at hg;rw[if_neg J1];refine fC 92 true ?_;intro C0 E0;have uu:=JW hg @sn0 @st0;have tT:=(ZD:SsOk Tryz.prog ZO);refine nz ?_;refine rg tT [0,1] ?_;refine rg tT [0,1,8] ?_;refine ce (λh0=> ?_) (λh0=> ?_)
   .simp at h0
   .refine rg tT [0,1,10] ?_;refine ce (λh1=> ?_) (λh1=> ?_)
    .exact hn (by simpa using h1)
    .refine rg tT [0,1,6] ?_;refine rg tT [0,1,23] ?_;refine ct (λh2=> ?_) (λh2=> ?_)
     .refine rg tT [4] ?_;refine WI.nn0A ?_;refine lf ?_;exact⟨rfl,[_],rfl,rfl⟩
     .simp at h2
  .rw[hm,Yl]at hg;rw[if_pos J1];have hwl:=Zh ZA (YP (Bt.map Jl) k n);have hwt:(rows ZA (n::YP (Bt.map Jl) k n)).take (1+(YP (Bt.map Jl) k n).length)=rows ZA (n::YP (Bt.map Jl) k n):=YX (by rw[Zh,JG];omega);refine fC 92 true ?_;intro C0 E0;have uu:=ξ6 hg @sn0 @st0 @sz1 @sy1 hwl;have tT:=(ZD:SsOk Tryz.prog ZO);refine nz ?_;refine rg tT [0,1] ?_;refine rg tT [0,1,8] ?_;refine ce (λh0=> ?_) (λh0=> ?_)
   .simp at h0
   .refine rg tT [0,1,10] ?_;refine ce (λh1=> ?_) (λh1=> ?_)
    .exact hn (by simpa using h1)
    .refine rg tT [0,1,6] ?_;refine rg tT [0,1,23] ?_;refine ce (λh2=> ?_) (λh2=> ?_)
     .simp at h2
     .refine WI.cutA ZD [25,26,27] 4 ?_;simp only[ξV,ZCV,ZEu,ZBy];refine oS ?_;refine oG ?_
      iterate 2 refine oS ?_
      refine oP ?_;refine ZJb ?_;refine WR.callF ((ZU 123)) (ZTI P1 P2 _ Bt k n (Y++ [.box [.x (.str dn),.x (.sl (rows ZQ l))]]++ [.rows false 9 1 [[.str n]]]) (by rw[Yp];exact ZJS hB _) hd J0) ?_;rintro _ _ ⟨rfl,Z,rfl,hZ⟩;refine WR.regB ZD [4] ?_;refine oG ?_;refine oS ?_;refine oN ?_;refine nz ?_;obtain⟨Z0,hZ0⟩: ∃Z0,Z0=Y++ [Ob.box [.x (.str dn),.x (.sl (rows ZQ l))]]:=⟨_,rfl⟩;have hR: [X.str n]::rows ZA (YP (Bt.map Jl) k n)=rows ZA (n::YP (Bt.map Jl) k n):=rfl;rw[<-hZ0,hR];have hl1:(rows ZA (n::YP (Bt.map Jl) k n)).length=1+(YP (Bt.map Jl) k n).length:=by rw[Zh,JG];omega
      generalize rows ZA (n::YP (Bt.map Jl) k n)=R at hwt hl1|-;have uu:=JW uu hwt hl1;refine lf ?_;exact⟨rfl,_,by rw[hZ0];exact congrArg (λz=>Qa P1 P2 (_::_::z)) (as3 Y Z _ _),by simp[Ob.nof,hZ]⟩
theorem Zd9(P1 P2:W2)(m:EM)(Bt:List TB)(k:Nat)(Y:J7)(hB:okB Y Bt)(hd:deep (Bt.map Jl) k [])(hl:(YP (Bt.map Jl) k []).length<=999999):
  ZI Tryz.prog 53 [.ptr 0 0] (Qa P1 P2 (.mpo .str true (enM m):: .mpo .str false (Bt.map Ks)::Y)) (ZHw (.x (.sl (rows ZA (YP (Bt.map Jl) k [])))) P1 P2 (.mpo .str true (enM m):: .mpo .str false (Bt.map Ks)::Y)):=by
 refine fC 53 true ?_;intro C0 E0;have uu:=trivial;have tT:=(ZD:SsOk Tryz.prog ZO);refine nz ?_;refine rg tT [0] ?_;refine WI.cutA ZD [3] 1 ?_;simp only[ξV,ZCV,ZEu,ZBy];refine oS ?_;refine oP ?_;refine ZJb ?_;refine WR.callF ((ZU 92)) (ZfA P1 P2 m Bt k [] Y hB hd hl) ?_;rintro _ _ ⟨rfl,Z,rfl,hZ⟩;refine WR.regB ZD [2] ?_;refine oS ?_;refine oN ?_;refine nz ?_;refine lf ?_;exact⟨rfl,Z,rfl,hZ⟩
def ZRD(r0:D)(m:EM)(B:List (Tx×List Tx))(P1 P2:W2)(r:D)(os':J7):Prop:=r=r0/\ ∃(Bt:List TB) (Y:J7),(Bt.map Jl).Perm B/\okB Y Bt/\Y.all Ob.nof=true/\os'=Qa P1 P2 (.mpo .str true (enM m):: .mpo .str false (Bt.map Ks)::Y)
def ZBn(L:List (Tx×Zi))(M:List (Tx×Zt))(m:EM)(dn:Tx)(l:List ZX):Int:=
 if Ke dn=false then 34 else if(ZJ m dn).isSome=true then 68 else if(ZJ m (YV dn)).isSome=false/\YV dn≠ []then 32 else if ZHN L M dn l≠0 then ZHN L M dn l else if 1024<=m.length then 80 else 0
def ZEo(l:List Tx)(s:Tx):List Tx:=l.take (Yt l s)++s::l.drop (Yt l s)
def ZAm(c:Int)(B:List (Tx×List Tx))(dn:Tx):List (Tx×List Tx):=if c=0 then Zv B (YV dn) (ZEo (Yf B (YV dn)) dn)else B
theorem ZGs{v:Int}(hv:v≠0)(m:EM)(Bt:List TB)(P1 P2:W2)(Y:J7)(dn:Tx)(l:List ZX)(hB:okB Y Bt)(hY:Y.all Ob.nof=true)(X:J7)(hX:X.all Ob.nof=true):
  ZRD (.x (.int .i64 v)) (ZBt v m dn l) (ZAm v (Bt.map Jl) dn) P1 P2 (.x (.int .i64 v)) (Qa P1 P2 (.mpo .str true (enM m):: .mpo .str false (Bt.map Ks)::(Y++X))):=by
 unfold ZBt ZAm;rw[if_neg hv,if_neg hv];exact⟨rfl,Bt,_,ZO8 _,ZJS hB _,by rw[ZNK,hY,hX];rfl,rfl⟩
theorem ZBf: ∀(a b:J7),(∀(id:Nat) (ds:J8),a[id]? =some (.box ds)->b[id]? =some (.box ds))->a.length<=b.length->Jq a b=true
 | [],_,_,_=>rfl
 |x::a,[],_,h=>by simp at h
 |x::a,y::b,h,hl=>by
  have ih:=ZBf a b (λid ds hid=>by simpa using h (id+1) ds (by simpa using hid)) (by simpa using hl);cases x with
  |box ds=>
   have h0:=h 0 ds rfl;simp only[ZCF,Ze]at h0;subst h0;simp only[Jq,Ob.beq_refl,ih,ZVc]
  |_=>simpa only[Jq]using ih
theorem ZN.atR{P:Program}{f:FuncId}{ρ:W0}{args:J8}{OS:J7}{r:D}{os':J7}(hok:Qc ρ args OS=true)(h:ZN P f (Zy (inv ρ) args) (YW ρ OS) r os')(hl:ρ.length<=os'.length):ZN P f args OS (r.ren (KQ ρ OS.length os'.length)) (Ko ρ OS os'):=by
 have hf:ZI P f (Zy (inv ρ) args) (YW ρ OS) (λr' os2=>r'=r/\os2=os'):=by
  intro c E vs R hvl;refine(h c E vs R hvl).mono ?_;rintro e w' ⟨v,E',rfl,rfl,R',ev,hv⟩;exact⟨v,E',_,_,rfl,rfl,R',ev,hv,rfl,rfl⟩
 refine ZI.mcalls (λc E vs R hvl=>((ZI.lift hok hf (λr os' ⟨_,h⟩=>by rw[h];exact hl)) c E vs R hvl).mono ?_);rintro e w' ⟨v,E',r2,os2,rfl,rfl,R',ev,hv,r3,os3,⟨rfl,rfl⟩,rfl,rfl⟩;exact⟨v,E',_,_,rfl,rfl,R',ev,hv,rfl,rfl⟩
theorem ZUg(B:List TB)(s:Tx)(i:Nat)(l:List Tx):(Zv B s (i,l)).map Jl=Zv (B.map Jl) s l:=by
 induction B with
 |nil=>rfl
 |cons p B ih=>
  by_cases h:s=p.1
  .have e1:Zv (p::B) s (i,l)=(s,(i,l))::B:=by simp[Zv,h]
   have e2:Zv (Jl p::B.map Jl) s l=(s,l)::B.map Jl:=by simp[Zv,Jl,h]
   rw[e1,YO,YO,e2];rfl
  .have e1:Zv (p::B) s (i,l)=p::Zv B s (i,l):=by simp[Zv,h]
   have e2:Zv (Jl p::B.map Jl) s l=Jl p::Zv (B.map Jl) s l:=by simp[Zv,Jl,h]
   rw[e1,YO,YO,e2,ih]
theorem Zft{κ β:Type}[DecidableEq κ]{A:List (κ×β)}{c:κ}(h:ZJ A c=none):c∉A.map (·.1):=by
 intro hc;obtain⟨p,hp,rfl⟩:=YT.1 hc;unfold ZJ at h;rw[Option.map_eq_none_iff,ZRc]at h;exact h p hp J1
theorem ZfR{Y:J7}{B:List TB}(h:okB Y B)(W:J7)(s:Tx)(l:List Tx)(hs:ZJ B s=none)(hl:l.length<=1000000)(Z:J7):okB (Y++W++Ob.rows false 9 1 (rows ZA l)::Z) (Zv B s ((Y++W).length,l)):=by
 rw[ZBh hs];have hlt: ∀x∈B,x.2.1<Y.length:=λx hx=>(Zb (h.2.2 x hx).1).1
 refine⟨?_,?_,λx hx=> ?_⟩
 .rw[Ji,ZF7];exact⟨h.1,J1,λa ha b hb e=>Zft hs (by simp at hb;subst hb;rw[<-e];exact ha)⟩
 .rw[Ji,ZF7];refine⟨h.2.1,J1,λa ha b hb e=> ?_⟩;obtain⟨x,hx,rfl⟩:=YT.1 ha;have:=hlt x hx;simp at hb;omega
 .rcases Km.1 hx with hx|hx
  .refine⟨?_,(h.2.2 x hx).2⟩;rw[Yp,Ym (hlt x hx)];exact(h.2.2 x hx).1
  .simp only[ξZ]at hx;subst hx;exact⟨J1,hl⟩
theorem ZeP{Y:J7}{B:List TB}(h:okB Y B)(s:Tx)(i:Nat)(l0 l:List Tx)(hs:ZJ B s=some (i,l0))(hl:l.length<=1000000)(W:J7):okB (Y.set i (.rows false 9 1 (rows ZA l))++W) (Zv B s (i,l)):=by
 have hp:=ZQk hs;have hq:=ZD9 B s (i,l);have hm:=Qm hs;have hi:=(Zb (h.2.2 _ hm).1).1;have n1:((s,(i,l0))::YH B s).map (·.1)=((s,(i,l))::YH B s).map (·.1):=rfl;have n2:((s,(i,l0))::YH B s).map (·.2.1)=((s,(i,l))::YH B s).map (·.2.1):=rfl;have m1:=(hp.map (·.1)).nodup_iff.1 h.1;have m2:=(hp.map (·.2.1)).nodup_iff.1 h.2.1;refine⟨(hq.map (·.1)).nodup_iff.2 (n1▸m1),(hq.map (·.2.1)).nodup_iff.2 (n2▸m2),λx hx=> ?_⟩;rcases Kr.1 (hq.mem_iff.1 hx)with rfl|hx
 .exact⟨by rw[Ym (by simpa using hi)];simp[hi],hl⟩
 .have hxB:x∈B:=hp.mem_iff.2 (ZBB _ hx);have hx2:=h.2.2 x hxB;have hxl:=(Zb hx2.1).1;refine⟨?_,hx2.2⟩;have hne:i≠x.2.1:=λe=>by
   rw[YO,ZBV]at m2;exact m2.1 (YT.2 ⟨x,hx,e.symm⟩)
  rw[Ym (by simpa using hxl),ZD1 hne];exact hx2.1
theorem ZZk(m:EM)(Bt:List TB)(P1 P2:W2)(Y U:J7)(dn:Tx)(l:List ZX)(hB:okB Y Bt)(hY:Y.all Ob.nof=true)(hU:U.all Ob.nof=true)(hs:ZJ Bt (YV dn)=none)(OS:J7)(hOS:OS=Qa P1 P2 (.mpo .str true (enM (Zv m dn (dn,Zs l,()))):: .mpo .str false (Bt.map Ks)::(Y++U)))(o:Ob)(ho:o.nof=true):
  ZRD (.x (.int .i64 0)) (ZBt 0 m dn l) (ZAm 0 (Bt.map Jl) dn) P1 P2 (.x (.int .i64 0)) ((OS++ [o]++ [Ob.rows false 9 1 [[.str dn]]]).set 5 (.mpo .str false (Yg (Bt.map Ks) [.str (YV dn)] [.ref (OS.length+1) 1 0 1]))):=by
 have hol:OS.length+1=(Y++(U++ [o])).length+6:=by rw[hOS];simp[Qa];omega
 refine⟨rfl,Zv Bt (YV dn) ((Y++(U++ [o])).length,[dn]),Y++(U++ [o])++ [Ob.rows false 9 1 (rows ZA [dn])],?_,ZfR hB _ _ _ hs J1 _,?_,?_⟩
 .rw[ZUg,ZAm,if_pos rfl];have:Yf (Bt.map Jl) (YV dn)= []:=by unfold Yf;rw[ZPG,hs];rfl
  rw[this];exact ZO8 _
 .simp only[ZNK,ZAe,ZGw,hY,hU,ho];rfl
 .rw[hol,show([D.ref ((Y++(U++ [o])).length+6) 1 0 1])= [.ref ((Y++(U++ [o])).length+6) [dn].length 0 [dn].length]from rfl,ZYW,hOS,ZBt,if_pos rfl];simp[Qa,rows,ZA]
theorem ZZe(m:EM)(Bt:List TB)(P1 P2:W2)(Y U:J7)(dn:Tx)(l:List ZX)(hB:okB Y Bt)(hY:Y.all Ob.nof=true)(hU:U.all Ob.nof=true)(i:Nat)(row:List Tx)(hs:ZJ Bt (YV dn)=some (i,row))(hl:row.length<=999999)(OS:J7)(hOS:OS=Qa P1 P2 (.mpo .str true (enM (Zv m dn (dn,Zs l,()))):: .mpo .str false (Bt.map Ks)::(Y++U)))(o:Ob)(ho:o.nof=true):
  ZRD (.x (.int .i64 0)) (ZBt 0 m dn l) (ZAm 0 (Bt.map Jl) dn) P1 P2 (.x (.int .i64 0)) (((OS++ [o]).set (i+6) (.rows false 9 1 (rows ZA (ZEo row dn)))).set 5 (.mpo .str false (Yg (Bt.map Ks) [.str (YV dn)] [.ref (i+6) (row.length+1) 0 (row.length+1)]))):=by
 have hil:(ZEo row dn).length=row.length+1:=by
  have:=ZJZ row dn;unfold ZEo;simp;omega
 have hi:=(Zb (hB.2.2 _ (Qm hs)).1).1;simp only at hi;refine⟨rfl,Zv Bt (YV dn) (i,ZEo row dn),Y.set i (.rows false 9 1 (rows ZA (ZEo row dn)))++(U++ [o]),?_,ZeP hB _ _ row _ hs J0 _,?_,?_⟩
 .rw[ZUg,ZAm,if_pos rfl];have:Yf (Bt.map Jl) (YV dn)=row:=by unfold Yf;rw[ZPG,hs];rfl
  rw[this]
 .simp only[ZNK,ZAe,ZGw,hU,ho,QS];rw[Yc]at hY|-;intro x hx;rcases Zb5 hx with h|h
  .exact hY x h
  .rw[h];rfl
 .rw[<-hil,ZYW,hOS,ZBt,if_pos rfl];simp only[Qa,Qi,ZCp,ZDM,Yp];rw[ZPg _ _ J0]
theorem ZZd(l:List Tx)(s:Tx):YJ (rows ZA l) (Yt l s) [[.str s]]=rows ZA (ZEo l s):=by simp[YJ,ZEo,rows,ZA]
theorem ZOG:Go.Ab.Enters Tryz.prog 61:=ZU 61
theorem ZfK(OS:J7)(r:J9):ZN Tryz.prog 61 [.x .nils,.x (.int .i64 ((0:Nat):Int)),.ref OS.length 1 0 1] (OS++ [Ob.rows false 9 1 [r]]) (.ref (OS.length+1) 1 0 1) (OS++ [Ob.rows false 9 1 [r]]++ [Ob.rows false 9 1 [r]]):=by
 have hg:(OS++ [Ob.rows false 9 1 [r]]).getD OS.length .dead= .rows false 9 1 [r]:=by simp[List.getD]
 have hO:YW [OS.length] (OS++ [Ob.rows false 9 1 [r]])= [.rows false 9 1 [r]]:=by simp only[YW,YO,ZAu,hg];rfl
 have ha:Zy (inv [OS.length]) [D.x .nils,.x (.int .i64 ((0:Nat):Int)),.ref OS.length 1 0 1]= [.x .nils,.x (.int .i64 0),.ref 0 1 0 1]:=by simp[Zy,D.ren,inv]
 have h:=ZN.atR (P:=Tryz.prog) (f:=61) (ρ:= [OS.length]) (args:= [.x .nils,.x (.int .i64 ((0:Nat):Int)),.ref OS.length 1 0 1]) (OS:=OS++ [Ob.rows false 9 1 [r]]) (r:= .ref 1 1 0 1) (os':= [.rows false 9 1 [r],.rows false 9 1 [r]]) (by simp[Qc,Yr,D.inP,Zq,QY,hg,Ob.inP]) (by rw[hO,ha];exact ZZ5 r) J1;have e1:(D.ref 1 1 0 1).ren (KQ [OS.length] (OS++ [Ob.rows false 9 1 [r]]).length 2)= .ref (OS.length+1) 1 0 1:=by simp[D.ren,KQ]
 have e2:Ko [OS.length] (OS++ [Ob.rows false 9 1 [r]]) [.rows false 9 1 [r],.rows false 9 1 [r]]=OS++ [Ob.rows false 9 1 [r]]++ [Ob.rows false 9 1 [r]]:=by
  simp only[Ko,YO,ZAu,Ob.ren,KS,JG,ξN,ZEu,ZBy,st0]
 rw[<-e1,<-e2];exact h
theorem Zeg(OS:J7)(a:Nat)(rs:J6)(r:J9)(k:Nat)(h:OS[a]? =some (.rows false 9 1 rs))(hk:k<=rs.length)(hn:rs.length<=1000000):ZN Tryz.prog 61 [.ref a rs.length 0 rs.length,.x (.int .i64 k),.ref OS.length 1 0 1] (OS++ [Ob.rows false 9 1 [r]]) (.ref a (rs.length+1) 0 (rs.length+1)) ((OS++ [Ob.rows false 9 1 [r]]).set a (.rows false 9 1 (YJ rs k [r]))):=by
 have hal:=(Zb h).1;have hg:(OS++ [Ob.rows false 9 1 [r]]).getD OS.length .dead= .rows false 9 1 [r]:=by simp[List.getD]
 have hg2:(OS++ [Ob.rows false 9 1 [r]]).getD a .dead= .rows false 9 1 rs:=by rw[ZIW,Ym hal,h];rfl
 have hne:a≠OS.length:=by omega
 have hne2:OS.length≠a:=by omega
 have hO:YW [a,OS.length] (OS++ [Ob.rows false 9 1 [r]])= [.rows false 9 1 rs,.rows false 9 1 [r]]:=by simp only[YW,YO,ZAu,hg,hg2];rfl
 have ha:Zy (inv [a,OS.length]) [D.ref a rs.length 0 rs.length,.x (.int .i64 k),.ref OS.length 1 0 1]= [.ref 0 rs.length 0 rs.length,.x (.int .i64 k),.ref 1 1 0 1]:=by simp[Zy,D.ren,inv,hne2]
 have hnb:Nat.beq a OS.length=false:=by
  cases hb:Nat.beq a OS.length with
  |false=>rfl
  |true=>exact absurd (Zb9 hb) hne
 have hfp:Qc [a,OS.length] [.ref a rs.length 0 rs.length,.x (.int .i64 k),.ref OS.length 1 0 1] (OS++ [Ob.rows false 9 1 [r]])=true:=by
  unfold Qc;simp only[ZAe,ZGw,hg,hg2,Ob.inP,Yr,D.inP,Zq,QY,hnb,ZFL,QS,ZNN,ZLW,ZFC,ZTG,ZT,Zc,Zg,JG,ξN];omega
 have h:=ZN.atR (P:=Tryz.prog) (f:=61) (ρ:= [a,OS.length]) (args:= [.ref a rs.length 0 rs.length,.x (.int .i64 k),.ref OS.length 1 0 1]) (OS:=OS++ [Ob.rows false 9 1 [r]]) (r:= .ref 0 (rs.length+1) 0 (rs.length+1)) (os':= [.rows false 9 1 (YJ rs k [r]),.rows false 9 1 [r]]) hfp (by rw[hO,ha];exact ZaJ rs r k hk hn) J1;have e1:(D.ref 0 (rs.length+1) 0 (rs.length+1)).ren (KQ [a,OS.length] (OS++ [Ob.rows false 9 1 [r]]).length 2)= .ref a (rs.length+1) 0 (rs.length+1):=by simp[D.ren,KQ]
 have e2:Ko [a,OS.length] (OS++ [Ob.rows false 9 1 [r]]) [.rows false 9 1 (YJ rs k [r]),.rows false 9 1 [r]]=(OS++ [Ob.rows false 9 1 [r]]).set a (.rows false 9 1 (YJ rs k [r])):=by
  simp only[Ko,YO,ZAu,Ob.ren,KS,JG,ξN,ZEu,ZBy,Kj];rw[ZPg _ _ hal];rw[ZEy _ _ J1];simp
 rw[<-e1,<-e2];exact h
def ZJH:Tabs:=ZR (ZR (ZR (ZO) 56 ZFA) 58 (ZBg Ku)) 59 (ZBg ZPK)
theorem YS:SsOk Tryz.prog ZJH:=ZG (ZG (ZG (ZD) (ZU 56) ZOm) (ZU 58) (ZM2 ZGT)) (ZU 59) (ZM2 ZfY)
theorem Za6:(∀a,ZJH.q 56 a=ZFA a)/\(∀a,ZJH.q 58 a=ZBg Ku a)/\(∀a,ZJH.q 59 a=ZBg ZPK a)/\(∀f a o,ZJH.r f a o=none)/\(∀f a o,ZJH.k f a o=none):=⟨λ_=>rfl,λ_=>rfl,λ_=>rfl,λ_ _ _=>rfl,λ_ _ _=>rfl⟩
set_option maxHeartbeats 4000000 in
theorem ZiC(L:List (Tx×Zi))(M:List (Tx×Zt))(m:EM)(Bt:List TB)(Y:J7)(dn:Tx)(l:List ZX)(h:QJ l)(hk:ZLT M l)(hB:okB Y Bt)(hY:Y.all Ob.nof=true)(hr: ∀x∈Bt,SoL x.2.2/\x.2.2.length<=999999)(hm:m.length<=1000000):
  ZI Tryz.prog 31 [.ptr 0 0,.agg [.x (.str dn),.x (.sl (rows ZQ l))]] (Qa (JM L) (JH M) (.mpo .str true (enM m):: .mpo .str false (Bt.map Ks)::Y)) (ZRD (.x (.int .i64 (ZBn L M m dn l))) (ZBt (ZBn L M m dn l) m dn l) (ZAm (ZBn L M m dn l) (Bt.map Jl) dn) (JM L) (JH M)):=by
 have hul:ZV ZQ (rows ZQ l)=some l:=Zf Zr l;have hdm:=ZL (show l.length<=100/\(∀a∈l,a.1.length<=1000000)/\ ∀a∈l,a.2.1.length<=400 from h);have hst:=Zg8 m dn (dn,Zs l,());have hg:=ZNn m dn;have hg2:=ZNn m (YV dn);have hg3:=ZYS Bt (YV dn);have hln:=Zhi m;obtain⟨v,hv⟩: ∃v,ZBn L M m dn l=v:=⟨_,rfl⟩;rw[hv];unfold ZBn at hv;refine fC 31 true ?_;intro C0 E0;have uu:=KJ @ZJR @ZJn @ZJQ @ZJj @ZFA.eq_1 @ZFA.eq_2 @Ku.eq_1 @Ku.eq_2 (KJ @ZPK.eq_1 @ZPK.eq_2 @sn0 @sn1 @sn2 @st0 @st1 hul (ξ4 hdm hst hln @Za6));refine WI.seq ?_;refine WI.regB YS [0,3] ?_;refine oG ?_;refine oS ?_;refine oN ?_;refine ZB ?_;refine WI.seq ?_;refine WI.seq ?_;refine WI.regB YS [0,3,23] ?_;refine oS ?_;refine oG ?_;refine oS ?_
 iterate 6 refine oG ?_
 refine oN ?_;refine ZB ?_;refine WI.cond (b:=_) rfl rfl (λh0=> ?_) (λh0=> ?_)
 .exfalso;simp at h0
 .try simp only[zB]at h0
  refine WI.skip ?_;refine ZB ?_;refine WI.seq ?_;refine WI.regB YS [0,3,5,6] ?_;refine oS ?_;refine oG ?_;refine oC ?_;refine oS ?_
  iterate 2 refine oG ?_
  iterate 2 refine oS ?_
  refine oN ?_;refine ZB ?_;refine WI.seq ?_;refine WI.seq ?_;refine WI.regB YS [0,3,5,31] ?_;refine oS ?_;refine oG ?_;refine oN ?_;refine ZB ?_;refine WI.cond (b:=_) rfl rfl (λh1=> ?_) (λh1=> ?_)
  .try simp only[zB]at h1
   have e1:Ke dn=false:=by simpa using h1
   rw[if_pos e1]at hv;subst hv;refine WI.seq ?_;refine WI.regB YS [4] ?_;refine oS ?_;refine oN ?_;refine ZB ?_;refine WI.ret ?_;refine Yy ?_
   first|refine lfR ?_|refine ZCE ?_|refine ZBv ?_|refine ZCG ?_
   exact ZGs (by decide) m Bt _ _ Y dn l hB hY [_] rfl
  .try simp only[zB]at h1
   have e1: ¬Ke dn=false:=by simpa using h1
   rw[if_neg e1]at hv;refine WI.skip ?_;refine ZB ?_;refine WI.seq ?_;refine WI.seq ?_;rcases hl:ZJ m dn with _|⟨dn',l',u⟩
   .rw[hl,ZAD]at hg;rw[hl,if_neg J1]at hv;have uu:=YZ uu hg;refine WI.dregB YS [0,3,5,8] ?_
    iterate 3 refine YD ?_
    refine JO ?_;refine YD ?_
    iterate 2 refine JO ?_
    refine YD ?_
    iterate 2 refine KR ?_
    refine dKG ?_;refine dAG ?_;refine YD ?_;refine dN ?_;refine ZB ?_;refine WI.seq ?_;refine WI.regB YS [0,3,5,42] ?_;refine oS ?_;refine oN ?_;refine ZB ?_;refine WI.cond (b:=_) rfl rfl (λh2=> ?_) (λh2=> ?_)
    .exfalso;simp at h2
    .try simp only[zB]at h2
     refine WI.skip ?_;refine ZB ?_;refine WI.seq ?_;refine WI.join (λφ os=> ∃b3:Ob,φ= [(0,.ptr 0 0),(3,.ptr (Y.length+1+1+1+1+1+1) 0),(5,.x (.str (YV dn))),(10,.x (.bool (ZJ m (YV dn)).isSome))]/\os=Qa (JM L) (JH M) (.mpo .str true (enM m):: .mpo .str false (Bt.map Ks)::(Y++ [.box [.x (.str dn),.x (.sl (rows ZQ l))]]++ [.box [.x (.str []),.x .nils]]++ [b3]))/\b3.nof=true) ?_ (λφ os hJ=> ?_)
     .rcases hl2:ZJ m (YV dn)with _|⟨dn2,l2,u2⟩
      .rw[hl2,ZAD]at hg2;have uu:=YZ uu hg2;refine WI.regB YS [0,3,5,10] ?_
       iterate 3 refine oS ?_
       refine oG ?_;refine oS ?_;refine oG ?_;refine oS ?_
       iterate 4 refine oG ?_
       refine oS ?_;refine oN ?_;refine ZB ?_;exact⟨_,rfl,rfl,rfl⟩
      .rw[hl2,Yl]at hg2;have uu:=YZ uu hg2;refine WI.regB YS [0,3,5,10] ?_
       iterate 3 refine oS ?_
       refine oG ?_;refine oS ?_;refine oG ?_;refine oS ?_
       iterate 4 refine oG ?_
       refine oS ?_;refine oN ?_;refine ZB ?_;exact⟨_,rfl,rfl,rfl⟩
     .obtain⟨b3,rfl,rfl,hb3⟩:=hJ;refine WI.seq ?_;refine WI.regB YS [0,3,5,57] ?_;refine oS ?_;refine oG ?_;refine oS ?_
      iterate 3 refine oG ?_
      refine oN ?_;refine ZB ?_;refine WI.cond (b:=_) rfl rfl (λh3=> ?_) (λh3=> ?_)
      .try simp only[zB]at h3
       have e3:(ZJ m (YV dn)).isSome=false/\YV dn≠ []:=by simpa using h3
       rw[if_pos e3]at hv;subst hv;refine WI.seq ?_;refine WI.regB YS [4] ?_;refine oS ?_;refine oN ?_;refine ZB ?_;refine WI.ret ?_;refine Yy ?_
       first|refine lfR ?_|refine ZCE ?_|refine ZBv ?_|refine ZCG ?_
       rw[as3];exact ZGs (by decide) m Bt _ _ Y dn l hB hY _ (by simp only[ZAe,hb3,QS];rfl)
      .try simp only[zB]at h3
       have e3: ¬((ZJ m (YV dn)).isSome=false/\YV dn≠ []):=by rintro⟨e4,e5⟩;rw[e4]at h3;simp[e5]at h3
       rw[if_neg e3]at hv;obtain⟨V,hV⟩: ∃V,V=Y++ [.box [.x (.str dn),.x (.sl (rows ZQ l))]]++ [.box [.x (.str []),.x .nils]]++ [b3]:=⟨_,rfl⟩;have hVe:V[Y.length]? =some (.box [.x (.str dn),.x (.sl (rows ZQ l))]):=by rw[hV];exact sn2 Y _ _ _
       have uu:=YZ uu hVe;rw[<-hV];refine WI.skip ?_;refine ZB ?_;refine WI.seq ?_;refine WI.seq ?_;refine WI.cutA YS [0,3,5,58,59] 2 ?_;simp only[ξV,ZCV,ZEu,ZBy];refine oS ?_;refine oG ?_;refine oP ?_;refine ZJb ?_;refine WR.callF ((ZU 57)) (ZgD L M (.mpo .str true (enM m):: .mpo .str false (Bt.map Ks)::V) dn l h hk) ?_;rintro _ _ ⟨rfl,Z,rfl,hZ⟩;obtain⟨W,hW⟩: ∃W,W=V++Z:=⟨_,rfl⟩;have hWe:W[Y.length]? =some (.box [.x (.str dn),.x (.sl (rows ZQ l))]):=by rw[hW,Ym (Zb hVe).1];exact hVe
       have hWY: ∃U,W=Y++U/\U.all Ob.nof=true:=⟨_,by rw[hW,hV,as4],by simp only[ZAe,hZ,hb3,QS];rfl⟩;dsimp only[List.cons_append];rw[<-hW];clear hW hV;obtain⟨U,hWU,hU⟩:=hWY;have uu:=YZ uu hWe;refine WR.regB YS [0,3,5,11] ?_;refine oS ?_;refine oN ?_;refine ZB ?_;refine WI.seq ?_;refine WI.regB YS [0,3,5,11,62] ?_;refine oS ?_;refine oG ?_;refine oN ?_;refine ZB ?_;refine WI.cond (b:=_) rfl rfl (λh4=> ?_) (λh4=> ?_)
       .try simp only[zB]at h4
        have e4:ZHN L M dn l≠0:=by simpa using h4
        rw[if_pos e4]at hv;subst hv;refine WI.seq ?_;refine WI.regB YS [4] ?_
        iterate 2 refine oS ?_
        refine oN ?_;refine ZB ?_;refine WI.ret ?_;refine Yy ?_
        first|refine lfR ?_|refine ZCE ?_|refine ZBv ?_|refine ZCG ?_
        rw[hWU];exact ZGs e4 m Bt _ _ Y dn l hB hY _ hU
       .try simp only[zB]at h4
        have e4: ¬ZHN L M dn l≠0:=by simpa using h4
        rw[if_neg e4]at hv;refine WI.skip ?_;refine ZB ?_;refine WI.seq ?_;refine WI.seq ?_;refine WI.regB YS [0,3,5,69] ?_
        iterate 3 refine oS ?_
        iterate 3 refine oG ?_
        refine oN ?_;refine ZB ?_;refine WI.cond (b:=_) rfl rfl (λh5=> ?_) (λh5=> ?_)
        .try simp only[zB]at h5
         have e5:1024<=m.length:=by omega
         rw[if_pos e5]at hv;subst hv;refine WI.seq ?_;refine WI.regB YS [4] ?_;refine oS ?_;refine oN ?_;refine ZB ?_;refine WI.ret ?_;refine Yy ?_
         first|refine lfR ?_|refine ZCE ?_|refine ZBv ?_|refine ZCG ?_
         rw[hWU];exact ZGs (by decide) m Bt _ _ Y dn l hB hY _ hU
        .try simp only[zB]at h5
         have e5: ¬1024<=m.length:=by omega
         rw[if_neg e5]at hv;subst hv;refine WI.skip ?_;refine ZB ?_;refine WI.seq ?_;refine WI.dregB YS [0,3,5] ?_
         iterate 3 refine YD ?_
         refine JO ?_;refine YD ?_
         iterate 2 refine JO ?_
         refine dQC ?_;refine dAG ?_;refine dN ?_;refine ZB ?_;refine WI.seq ?_;rcases hb:ZJ Bt (YV dn)with _|⟨i,row⟩
         .rw[hb,ZAD]at hg3;have hb2:Yt [] dn=0:=rfl;have hsd:decide (SoL []/\([]:List Tx).length<=1000000)=true:=ZL ⟨List.Pairwise.nil,by decide⟩;have huw:ZV ZA []=some []:=rfl;have uu:=ξ5 uu hg3 hb2 hsd huw;refine WI.regB YS [0,3,5,12] ?_
          iterate 3 refine oS ?_
          refine oG ?_;refine oS ?_;refine oG ?_;refine oS ?_;refine oN ?_;refine ZB ?_;refine WI.seq ?_;refine WI.regB YS [0,3,5,12,13] ?_
          iterate 2 refine oS ?_
          refine oG ?_;refine oC ?_;refine oS ?_
          iterate 2 refine oG ?_
          iterate 2 refine oS ?_
          refine oN ?_;refine ZB ?_;refine WI.seq ?_;obtain⟨OT,hOT⟩: ∃OT,OT= .box [.mref 2,.mref 3]:: .mpo .str true (JM L):: .mpo .str true (JH M):: .mpo .str true (enM (Zv m dn (dn,Zs l,()))):: .mpo .str false (Bt.map Ks)::W:=⟨_,rfl⟩;have hOS:Ob.box [.ptr 1 0,.mref 4,.mref 5]::OT=Qa (JM L) (JH M) (.mpo .str true (enM (Zv m dn (dn,Zs l,()))):: .mpo .str false (Bt.map Ks)::(Y++U)):=by rw[hOT,hWU]
          have hOe:OT[Y.length+1+1+1+1+1]? =some (.box [.x (.str dn),.x (.sl (rows ZQ l))]):=by rw[hOT];exact hWe
          have hO5: ∀V:J7,(OT++V)[4]? =some (.mpo .str false (Bt.map Ks)):=λV=>by rw[hOT];rfl
          have hb4: ∀(id:Nat) (ds:J8),OT[id]? =some (.box ds)->id≠4:=λid ds h e=>by subst e;rw[hOT]at h;cases h
          have hlt: ∀(id:Nat) (ds:J8),OT[id]? =some (.box ds)->id<OT.length:=λid ds h=>(Zb h).1
          have hbx: ∀V:J7,Jq OT (OT++V)=true:=λV=>ZBf _ _ (λid ds h=>by rw[Ym (hlt id ds h)];exact h) J1
          have hbx0:Jq OT OT=true:=ZBf _ _ (λid ds h=>h) (Zm _);have hbx5: ∀(V:J7) (q:W2),Jq OT ((OT++V).set 4 (.mpo .str false q))=true:=λV q=>ZBf _ _ (λid ds h=>by rw[ZD1 (hb4 id ds h).symm,Ym (hlt id ds h)];exact h) J1
          have hin:=ZfK (.box [.ptr 1 0,.mref 4,.mref 5]::OT) [.str dn];simp only[Qi,JG,Yp,ZAy]at hin;rw[<-hOT];have hap: ∀V W:J7,OT++V++W=OT++(V++W):=λV W=>Yp _ _ _
          have uu:=ξ7 uu hOe hO5 hbx hbx0 hap hbx5;refine WI.dregY (ZDZ ZD ZOG hin) [] [] ?_
          iterate 3 refine xFS ?_
          refine xRG ?_
          iterate 4 refine xFS ?_
          iterate 2 refine xAG ?_
          refine xAC ?_;refine xAG ?_;refine xN ?_;refine ZB ?_;refine WI.seq ?_;refine WI.regB YS [4] ?_;refine oS ?_;refine oN ?_;refine ZB ?_;refine WI.ret ?_
          first|refine lfR ?_|refine ZCE ?_|refine ZBv ?_|refine ZCG ?_
          have hf:=ZZk m Bt (JM L) (JH M) Y U dn l hB hY hU hb _ hOS (.rows false 9 1 [[.str dn]]) rfl;rw[Yp]at hf;exact hf
         .rw[hb,Yl]at hg3;obtain⟨hYi,_⟩:=hB.2.2 _ (Qm hb);obtain⟨hso,hrl⟩:=hr _ (Qm hb);simp only at hYi hso hrl;have hWi:W[i]? =some (.rows false 9 1 (rows ZA row)):=by rw[hWU,Ym (Zb hYi).1];exact hYi
          have hsd:decide (SoL row/\row.length<=1000000)=true:=ZL ⟨hso,J0⟩;have huw:ZV ZA (rows ZA row)=some row:=Zf ZM row;have hrn:=Zh ZA row;have htl:(rows ZA row).take row.length=rows ZA row:=by rw[<-hrn,JS]
          have uu:=ξ7 uu hg3 hWi hsd huw hrn htl;refine WI.regB YS [0,3,5,12] ?_
          iterate 3 refine oS ?_
          refine oG ?_;refine oS ?_;refine oG ?_;refine oS ?_;refine oN ?_;refine ZB ?_;refine WI.seq ?_;refine WI.regB YS [0,3,5,12,13] ?_
          iterate 2 refine oS ?_
          refine oG ?_;refine oC ?_;refine oS ?_
          iterate 2 refine oG ?_
          iterate 2 refine oS ?_
          refine oN ?_;refine ZB ?_;refine WI.seq ?_;obtain⟨OT,hOT⟩: ∃OT,OT= .box [.mref 2,.mref 3]:: .mpo .str true (JM L):: .mpo .str true (JH M):: .mpo .str true (enM (Zv m dn (dn,Zs l,()))):: .mpo .str false (Bt.map Ks)::W:=⟨_,rfl⟩;have hOS:Ob.box [.ptr 1 0,.mref 4,.mref 5]::OT=Qa (JM L) (JH M) (.mpo .str true (enM (Zv m dn (dn,Zs l,()))):: .mpo .str false (Bt.map Ks)::(Y++U)):=by rw[hOT,hWU]
          have hOe:OT[Y.length+1+1+1+1+1]? =some (.box [.x (.str dn),.x (.sl (rows ZQ l))]):=by rw[hOT];exact hWe
          have hO5: ∀V:J7,(OT++V)[4]? =some (.mpo .str false (Bt.map Ks)):=λV=>by rw[hOT];rfl
          have hb4: ∀(id:Nat) (ds:J8),OT[id]? =some (.box ds)->id≠4:=λid ds h e=>by subst e;rw[hOT]at h;cases h
          have hlt: ∀(id:Nat) (ds:J8),OT[id]? =some (.box ds)->id<OT.length:=λid ds h=>(Zb h).1
          have hbx: ∀V:J7,Jq OT (OT++V)=true:=λV=>ZBf _ _ (λid ds h=>by rw[Ym (hlt id ds h)];exact h) J1
          have hbx0:Jq OT OT=true:=ZBf _ _ (λid ds h=>h) (Zm _);have hOi:OT[i+5]? =some (.rows false 9 1 (rows ZA row)):=by rw[hOT];exact hWi
          have hOi2: ∀V:J7,(OT++V)[i+5]? =some (.rows false 9 1 (rows ZA row)):=λV=>by rw[Ym (Zb hOi).1];exact hOi
          have uu:=YZ uu hOi2;have hbi: ∀(id:Nat) (ds:J8),OT[id]? =some (.box ds)->i+5≠id:=λid ds h e=>by subst e;rw[hOi]at h;cases h
          have hbx5:(∀(V:J7) (R:Ob),Jq OT ((OT++V).set (i+5) R)=true)/\(∀(V:J7) (R:Ob) (q:W2),Jq OT (((OT++V).set (i+5) R).set 4 (.mpo .str false q))=true)/\ ∀(V:J7) (R:Ob),((OT++V).set (i+5) R)[4]? =some (.mpo .str false (Bt.map Ks)):=
           ⟨λV R=>ZBf _ _ (λid ds h=>by rw[ZD1 (hbi id ds h),Ym (hlt id ds h)];exact h) J1,λV R q=>ZBf _ _ (λid ds h=>by rw[ZD1 (hb4 id ds h).symm,ZD1 (hbi id ds h),Ym (hlt id ds h)];exact h) J1,λV R=>by rw[ZD1 J0];exact hO5 V⟩
          have hin:=Zeg (.box [.ptr 1 0,.mref 4,.mref 5]::OT) (i+6) (rows ZA row) [.str dn] (Yt row dn) hOi (by rw[hrn];exact ZJZ row dn) (by rw[hrn];omega);rw[hrn]at hin;simp only[Qi,JG,ZCp]at hin;rw[<-hOT];have hap: ∀V W:J7,OT++V++W=OT++(V++W):=λV W=>Yp _ _ _
          have uu:=ξ7 uu hOe hO5 hbx hbx0 hap hbx5;refine WI.dregY (ZDZ ZD ZOG hin) [] [] ?_
          iterate 3 refine xFS ?_
          refine xRG ?_
          iterate 4 refine xFS ?_
          iterate 2 refine xAG ?_
          refine xAC ?_;refine xAG ?_;refine xN ?_;refine ZB ?_;refine WI.seq ?_;refine WI.regB YS [4] ?_;refine oS ?_;refine oN ?_;refine ZB ?_;refine WI.ret ?_
          first|refine lfR ?_|refine ZCE ?_|refine ZBv ?_|refine ZCG ?_
          have hf:=ZZe m Bt (JM L) (JH M) Y U dn l hB hY hU i row hb hrl _ hOS (.rows false 9 1 [[.str dn]]) rfl;rw[ZZd];exact hf
   .rw[hl,Yl]at hg;rw[hl,if_pos J1]at hv;subst hv;have uu:=YZ uu hg;refine WI.dregB YS [0,3,5,8] ?_
    iterate 3 refine YD ?_
    refine JO ?_;refine YD ?_
    iterate 2 refine JO ?_
    refine YD ?_
    iterate 2 refine KR ?_
    refine dKG ?_;refine dAG ?_;refine YD ?_;refine dN ?_;refine ZB ?_;refine WI.seq ?_;refine WI.regB YS [0,3,5,42] ?_;refine oS ?_;refine oN ?_;refine ZB ?_;refine WI.cond (b:=_) rfl rfl (λh2=> ?_) (λh2=> ?_)
    .try simp only[zB]at h2
     refine WI.seq ?_;refine WI.regB YS [4] ?_;refine oS ?_;refine oN ?_;refine ZB ?_;refine WI.ret ?_;refine Yy ?_
     first|refine lfR ?_|refine ZCE ?_|refine ZBv ?_|refine ZCG ?_
     rw[as2];exact ZGs (by decide) m Bt _ _ Y dn l hB hY [_,_] rfl
    .exfalso;simp at h2
def ZWv(m:EM)(B:List (Tx×List Tx))(n:Tx):Int:=if(ZJ m n).isSome=false then 32 else if Yf B n≠ []then 66 else 0
def ZVe(c:Int)(m:EM)(n:Tx):EM:=if c=0 then YH m n else m
def ZVp(c:Int)(B:List (Tx×List Tx))(n:Tx):List (Tx×List Tx):=if c=0 then Zv (YH B n) (YV n) (ZWL (Yf (YH B n) (YV n)) n)else B
theorem ZEz{κ β:Type}[DecidableEq κ]: ∀(A:List (κ×β)) (c:κ),(YH A c).Sublist A
 | [],c=>by simp[YH]
 |p::A,c=>by
  by_cases h:c=p.1
  .have e:YH (p::A) c=A:=by simp[YH,h]
   rw[e];exact List.sublist_cons_self _ _
  .have e:YH (p::A) c=p::YH A c:=by simp[YH,h]
   rw[e];exact(ZEz A c).cons_cons p
abbrev BM:=List (Tx×List Tx)
def enB(B:BM):List (X×J6):=B.map λb=>(.str b.1,rows ZA b.2)
abbrev Kc(L:List (Tx×Zi))(M:List (Tx×Zt))(m:EM)(B:BM):Ob:= .fam 9 [JM L,JH M,enM m] (enB B)
def ZN1(B:BM):Nat->Tx->Bool
 |0,n=>decide (Yf B n= [])
 |k+1,n=>(Yf B n).all λs=>ZN1 B k s
theorem ZLo(B:BM): ∀(k:Nat) (n:Tx),ZN1 B k n=true↔deep B k n
 |0,n=>by simp[ZN1,deep]
 |k+1,n=>by simp only[ZN1,deep,Yc];exact forall₂_congr λs _=>ZLo B k s
def okT(m:EM)(B:BM):Prop:=(B.map (·.1)).Nodup/\(∀b∈B,SoL b.2/\b.2.length<=999999)/\(∀p∈m,QJ p.2.2.1)/\m.length<=1000000
instance (m:EM) (B:BM):Decidable (okT m B):=inferInstanceAs (Decidable (_/\_))
theorem ZiK{m:EM}{B:BM}(h:okT m B):Zht m:=λn e he=>h.2.2.1 (n,e) (Qm he)
theorem ZTe{α β:Type}(f:α->β): ∀ {l l':List β},l.Perm l'-> ∀B:List α,l'=B.map f-> ∃B':List α,B'.Perm B/\l=B'.map f:=by
 intro l l' h
 induction h with
 |nil=>intro B hB;exact⟨[],by rw[Zau.1 hB.symm],rfl⟩
 |cons x h ih=>
  intro B hB;cases B with
  |nil=>cases hB
  |cons b B=>
   rw[YO,ZF1]at hB;obtain⟨B',h1,rfl⟩:=ih B hB.2;exact⟨b::B',h1.cons b,by rw[YO,hB.1]⟩
 |swap x y l=>
  intro B hB
  match B,hB with
  |a::b::B,hB=>
   simp only[YO,ZF1]at hB;exact⟨b::a::B,List.Perm.swap a b B,by simp only[YO];rw[hB.1,hB.2.1,hB.2.2]⟩
 |trans h1 h2 ih1 ih2=>
  intro B hB;obtain⟨B2,k1,k2⟩:=ih2 B hB;obtain⟨B1,k3,k4⟩:=ih1 B2 k2;exact⟨B1,k3.trans k1,k4⟩
theorem ZJs{L:List (Tx×Zi)}{M:List (Tx×Zt)}{m:EM}{B:BM}(hk:okT m B){os:J7}(h:ZEO 9 [JM L,JH M,enM m] (enB B) os):
  ∃(Bt:List TB) (Y:J7),(Bt.map Jl).Perm B/\okB Y Bt/\Y.all Ob.nof=true/\os=Qa (JM L) (JH M) (.mpo .str true (enM m):: .mpo .str false (Bt.map Ks)::Y):=by
 rcases h with⟨P1,P2,P3,C,Y,hP,rfl,hp,hn,hY,hr⟩|⟨_,_,hP,_⟩
 rotate_left
 .cases hP
 simp only[ZF1,and_true]at hP;obtain⟨rfl,rfl,rfl⟩:=hP;obtain⟨B',hB',hC⟩:=ZTe (λb:Tx×List Tx=>(X.str b.1,rows ZA b.2)) hp B rfl;have hlen:C.length=B'.length:=by have:=congrArg List.length hC;simpa using this
 have hat: ∀(j:Nat) (c:X×Nat×J6) (b:Tx×List Tx),C[j]? =some c->B'[j]? =some b->c.1= .str b.1/\c.2.2=rows ZA b.2:=λj c b h1 h2=>by
  have h3:=congrArg (λl=>l[j]?) hC;simp only[YG,h1,h2,Yl,Ze,Za]at h3;exact h3
 let Bt:List TB:=List.zipWith (λc b=>(b.1,c.2.1,b.2)) C B'
 have hB1:Bt.map Jl=B':=by
  apply ZDN;intro j;simp only[Bt,YG,List.getElem?_zipWith];by_cases hj:j<B'.length
  .rw[YC hj,YC J0];rfl
  .rw[ZCW (l:=B') J0,ZCW (l:=C) J0];rfl
 have hB2:Bt.map (·.2.1)=C.map (·.2.1):=by
  apply ZDN;intro j;simp only[Bt,YG,List.getElem?_zipWith];by_cases hj:j<B'.length
  .rw[YC hj,YC (l:=C) J0];rfl
  .rw[ZCW (l:=B') J0,ZCW (l:=C) J0];rfl
 have hB3:Bt.map Ks=C.map brP:=by
  apply ZDN;intro j;simp only[Bt,YG,List.getElem?_zipWith];by_cases hj:j<B'.length
  .have h1:=YC (l:=C) (i:=j) J0;have h2:=YC hj;obtain⟨e1,e2⟩:=hat j _ _ h1 h2;rw[h1,h2];simp only[Yl,Ks,brP,e1,e2,Zh]
  .rw[ZCW (l:=B') J0,ZCW (l:=C) J0];rfl
 have hB4:Bt.map (·.1)=B'.map (·.1):=by rw[<-hB1,Js];rfl
 refine⟨Bt,Y,by rw[hB1];exact hB',⟨?_,by rw[hB2];exact hn,λx hx=> ?_⟩,hY,by rw[hB3]⟩
 .rw[hB4];exact(hB'.map _).nodup_iff.2 hk.1
 .obtain⟨j,hj⟩:=ZE7.1 hx;simp only[Bt,List.getElem?_zipWith]at hj;split at hj
  .rename_i c b h1 h2;cases hj;obtain⟨e1,e2⟩:=hat j c b h1 h2;have:=(hk.2.1 b (hB'.mem_iff.1 (Yj h2))).2;exact⟨by rw[<-e2];exact hr c (Yj h1),by simp only;omega⟩
  .cases hj
theorem ZIR{L:List (Tx×Zi)}{M:List (Tx×Zt)}{m:EM}{B:BM}{Bt:List TB}{Y:J7}(hp:(Bt.map Jl).Perm B)(hB:okB Y Bt)(hY:Y.all Ob.nof=true):ZEO 9 [JM L,JH M,enM m] (enB B) (Qa (JM L) (JH M) (.mpo .str true (enM m):: .mpo .str false (Bt.map Ks)::Y)):=by
 refine .inl ⟨_,_,_,Bt.map λx=>(.str x.1,x.2.1,rows ZA x.2.2),Y,rfl,?_,?_,?_,hY,λb hb=> ?_⟩
 .rw[Js,show(brP∘λx:TB=>(X.str x.1,x.2.1,rows ZA x.2.2))=Ks from funext λx=>by simp only[Function.comp,brP,Ks,Zh]]
 .have h:=hp.map λb:Tx×List Tx=>(X.str b.1,rows ZA b.2)
  rw[Js]at h;rw[Js];exact h
 .rw[Js];exact hB.2.1
 .obtain⟨x,hx,rfl⟩:=YT.1 hb;exact(hB.2.2 x hx).1
theorem ZI.imp{P:Program}{f:FuncId}{args:J8}{os:J7}{Q Q':D->J7->Prop}(h:ZI P f args os Q)(hq: ∀r os',Q r os'->Q' r os'):ZI P f args os Q':=λc E vs R hvl=>
 (h c E vs R hvl).mono λe w' ⟨v,E',r,os',h1,h2,h3,h4,h5,h6⟩=>⟨v,E',r,os',h1,h2,h3,h4,h5,hq r os' h6⟩
theorem ZGS{A B:BM}(h:A.Perm B)(hn:(A.map (·.1)).Nodup)(n:Tx):Yf A n=Yf B n:=by unfold Yf;rw[ZVV h hn]
theorem ZNV{A B:BM}(h:A.Perm B)(hn:(A.map (·.1)).Nodup): ∀(k:Nat) (n:Tx),YP A k n=YP B k n
 |0,_=>rfl
 |k+1,n=>by simp only[YP,ZGS h hn n];congr 1;funext s;rw[ZNV h hn k s]
theorem ZPw{A B:BM}(h:A.Perm B)(hn:(A.map (·.1)).Nodup): ∀(k:Nat) (n:Tx),deep A k n↔deep B k n
 |0,n=>by simp only[deep,ZGS h hn n]
 |k+1,n=>by simp only[deep,ZGS h hn n];exact forall₂_congr λs _=>ZPw h hn k s
theorem ZVS{κ β:Type}[DecidableEq κ]{A B:List (κ×β)}(h:A.Perm B)(hn:(A.map (·.1)).Nodup)(c:κ)(w:β):(Zv A c w).Perm (Zv B c w):=
 (ZD9 A c w).trans (((ZYH h hn c).cons _).trans (ZD9 B c w).symm)
theorem mdel_nodup{κ β:Type}[DecidableEq κ]{A:List (κ×β)}(hn:(A.map (·.1)).Nodup)(c:κ):((YH A c).map (·.1)).Nodup:=((ZEz A c).map _).nodup hn
theorem ZVn{A B:BM}(h:A.Perm B)(hn:(A.map (·.1)).Nodup)(c:Int)(n:Tx):(ZAm c A n).Perm (ZAm c B n):=by
 unfold ZAm;rw[ZGS h hn];split
 .exact ZVS h hn _ _
 .exact h
section
variable (L:List (Tx×Zi)) (M:List (Tx×Zt)) (m:EM) (B:BM)
theorem ZQu{L:List (Tx×Zi)}{M:List (Tx×Zt)}{m':EM}{B:BM}{Bt:List TB}{Y:J7}(hp:(Bt.map Jl).Perm B)(hB:okB Y Bt)(hY:Y.all Ob.nof=true)(Z:J7)(hZ:Z.all Ob.nof=true):ZEO 9 [JM L,JH M,enM m'] (enB B) (Qa (JM L) (JH M) (.mpo .str true (enM m'):: .mpo .str false (Bt.map Ks)::(Y++Z))):=
 ZIR hp (ZJS hB Z) (by rw[ZNK,hY,hZ];rfl)
theorem Zg2(n:Tx)(hk:okT m B):ZN Tryz.prog 54 [.iref 0 0,.x (.str n)] [Kc L M m B] (.tup [.agg [.x (.str (QV m n).1),.x (.sl (rows ZQ (QV m n).2.1))],.x (.bool (ZJ m n).isSome)]) [Kc L M m B]:=
 ZKC (args:= [.x (.str n)]) rfl rfl λos h=>by
  obtain⟨Bt,Y,hp,hB,hY,rfl⟩:=ZJs hk h;exact ZI.imp (ZiI (JM L) (JH M) m _ Y n (ZiK hk)) λr os' ⟨hr,Z,ho,hZ⟩=>⟨hr,by rw[ho];exact ZQu hp hB hY Z hZ⟩
theorem Za0(k:Nat)(hk:okT m B)(hd:deep B k [])(hl:(YP B k []).length<=999999):ZN Tryz.prog 53 [.iref 0 0] [Kc L M m B] (.x (.sl (rows ZA (YP B k [])))) [Kc L M m B]:=
 ZKC (args:= []) rfl rfl λos h=>by
  obtain⟨Bt,Y,hp,hB,hY,rfl⟩:=ZJs hk h;have hn:((Bt.map Jl).map (·.1)).Nodup:=(hp.map _).nodup_iff.2 hk.1;rw[<-ZNV hp hn]at hl|-;exact ZI.imp (Zd9 (JM L) (JH M) m Bt k Y hB ((ZPw hp hn _ _).2 hd) hl) λr os' ⟨hr,Z,ho,hZ⟩=>⟨hr,by rw[ho];exact ZQu hp hB hY Z hZ⟩
theorem Zgx(dn:Tx)(l:List ZX)(hk:okT m B)(h:QJ l)(hc:ZLT M l):ZN Tryz.prog 31 [.iref 0 0,.agg [.x (.str dn),.x (.sl (rows ZQ l))]] [Kc L M m B] (.x (.int .i64 (ZBn L M m dn l))) [Kc L M (ZBt (ZBn L M m dn l) m dn l) (ZAm (ZBn L M m dn l) B dn)]:=
 ZKC (args:= [.agg [.x (.str dn),.x (.sl (rows ZQ l))]]) rfl rfl λos hf=>by
  obtain⟨Bt,Y,hp,hB,hY,rfl⟩:=ZJs hk hf;have hn:((Bt.map Jl).map (·.1)).Nodup:=(hp.map _).nodup_iff.2 hk.1;exact ZI.imp (ZiC L M m Bt Y dn l h hc hB hY (λx hx=>hk.2.1 (Jl x) (hp.mem_iff.1 (YT.2 ⟨x,hx,rfl⟩))) hk.2.2.2) λr os' ⟨hr,Bt',Y',hp',hB',hY',ho⟩=>⟨hr,by rw[ho];exact ZIR (hp'.trans (ZVn hp hn _ _)) hB' hY'⟩
end
end Go.Proofs.YtpjfdjcejamebaaGreatDoor
end
