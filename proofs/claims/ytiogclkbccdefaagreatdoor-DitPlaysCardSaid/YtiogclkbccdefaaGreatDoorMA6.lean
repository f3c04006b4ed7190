import Derived.Test.YtiogclkbccdefaaGreatDoorMA5
import Derived.Test.YtiogclkbccdefaaGreatDoorMA4
import Derived.Test.YtiogclkbccdefaaGreatDoorLA6
import Derived.Test.YtiogclkbccdefaaGreatDoorLA5
set_option linter.unusedSimpArgs false
set_option linter.unusedVariables false
set_option maxRecDepth 100000
theorem Ur{p:Prop}(h:p:=by first|exact⟨⟨i+1,_,_,_,rfl,rfl,J0,hR2⟩,Wa⟩|exact⟨⟨i+1,_,_,_,rfl,rfl,J0,hR⟩,Wa⟩):p:=h
section
namespace Go.Proofs.YtiogclkbccdefaaGreatDoor
open Go.RowKit Go.Bo Go.Ab
def ZFE(l:List ZY)(n:Tx):Int:=if isIn l n=false then 32 else if 1<(ZDg l n).length then 66 else 0
def ZLL(c:Int)(l:List ZY)(n:Tx):List ZY:=if c=0 then ZD2 l n else l
theorem Zf4(S1 S2:J6)(l:List ZY)(n:Tx)(hl:l.length<=100000):ZL Tryz.prog 49 [.agg [.x (.sl S1),.x (.sl S2),.x (.sl (rows ZZ l))],.x (.str n)] (.tup [.agg [.x (.sl S1),.x (.sl S2),.x (.sl (rows ZZ (ZLL (ZFE l n) l n)))],.x (.int .i64 (ZFE l n))]):=by
 have c1:=ZI hl;have hue:ZM ZZ (rows ZZ l)=some l:=ZS YD l;have hrl:=ZQ ZC (ZDg l n);have hbl:(ZDg l n).length<=l.length:=by unfold ZDg;rw[Yc];exact ZSj _ _
 have ha1:=ZLe l n;rcases hres:ZFE l n with c
 unfold ZFE at hres;refine ZF.pure (fC 49 true ?_) rfl;intro C0 E0;have uu:=ξ6 @ZLV.eq_1 @ZHE.eq_1 @ZPD.eq_1 @c1 hue hrl;have tT:=aQ (aQ (aQ ZB ZJc) ZIA) ZWZ;refine rg [1,2,4] ?_;refine rg [1,2,4,6] ?_;refine cd (λh0=> ?_) (λh0=> ?_)
 .rw[if_pos Tq]at hres;exact VK
 .rw[if_neg Tq]at hres;refine rg [1,2,4,12] ?_;refine cd (λh1=> ?_) (λh1=> ?_)
  .rw[if_pos (by clear uu hres;omega)]at hres;exact VK
  .rw[if_neg (by clear uu hres;omega)]at hres;exact VK
def ZSY:J8->J5
 | [.agg [.x (.sl A),.x (.sl B),.x (.sl R)],.x (.str n)]=>(ZM ZZ R).bind λl=>some (decide (l.length<=100000),.tup [.agg [.x (.sl A),.x (.sl B),.x (.sl (rows ZZ (ZLL (ZFE l n) l n)))],.x (.int .i64 (ZFE l n))])
 |_=>none
theorem ZZh:QK Tryz.prog ZSY 49:=by
 intro args r h;unfold ZSY at h;split at h
 .obtain⟨l,rfl,i0⟩:=un YD h;obtain⟨h1,rfl⟩:=Yn i0;exact Zf4 _ _ l _ h1
 .cases h
def ZDZ(L:List (Tx×Ze))(M:List (Tx×Zi))(l:List ZY)(dn:Tx)(a:List ZN):Int:=if isIn l dn=false then 32 else ZBs L M dn a
set_option maxHeartbeats 4000000 in
theorem Zbq(T:List Ze)(C:List Zi)(l:List ZY)(dn:Tx)(a:List ZN)(hT:smT T)(hC:ZBt C)(hn:ZEr (Zp T))(hl:l.length<=100000)(hs:Js a)(he:smE a):ZL Tryz.prog 50 [.agg [.x (.sl (rows Zz T)),.x (.sl (rows YW C)),.x (.sl (rows ZZ l))],.agg [.x (.str dn),.x (.sl (rows ZK a))]] (.tup [.agg [.x (.sl (rows Zz T)),.x (.sl (rows YW C)),.x (.sl (rows ZZ (ZCv (ZDZ (Zp T) (YE C) l dn a) l dn a)))],.x (.int .i64 (ZDZ (Zp T) (YE C) l dn a))]):=by
 have c1:=ZI hl;have c2:decide (smT T/\Js a)=true:=ZI ⟨hT,hs⟩;have c3:decide (smT T/\(ZBt C/\smE a))=true:=ZI ⟨hT,hC,he⟩;have c4:decide (l.length<=100000/\Js a)=true:=ZI ⟨hl,hs⟩;have hul:ZM ZK (rows ZK a)=some a:=ZS Zf a;have hue:ZM ZZ (rows ZZ l)=some l:=ZS YD l;have hu1:=ZD1 T;have hu2:=ZEq C;have hck:=ZaH (YE C) hn a;have ha1:=ZLe l dn;rcases hres:ZDZ (Zp T) (YE C) l dn a with c
 unfold ZDZ ZBs at hres;rw[hck]at hres;refine ZF.pure (fC 50 true ?_) rfl;intro C0 E0;have uu:=ξ9 @ZLV.eq_1 @ZHX.eq_1 @ZNN.eq_1 @ZI6.eq_1 @c1 @c2 @c3 @c4 (Qu hul hue hu1 hu2);have tT:=aQ (aQ (aQ (aQ ZB ZJc) ZKQ) ZQz) ZL4;refine rg [2,3,4] ?_;refine rg [2,3,4,11] ?_;refine cd (λh0=> ?_) (λh0=> ?_)
 .rw[if_pos Tq]at hres;exact VK
 .rw[if_neg Tq]at hres;refine rg [2,3,4,6] ?_;refine rg [2,3,4,6,18] ?_;refine cd (λh1=> ?_) (λh1=> ?_)
  .have h3':ZH2 (Zp T) (YE C) a≠0:=by clear uu hres;simpa using h1
   rw[if_pos h3']at hres;refine W8 ?_;subst hres;unfold ZCv;rw[if_neg h3']
  .have h3': ¬ZH2 (Zp T) (YE C) a≠0:=by clear uu hres;simpa using h1
   rw[if_neg h3']at hres;refine rg [2,3,4,25] ?_;refine cd (λh2=> ?_) (λh2=> ?_)
   .rw[if_neg (show ¬ZEd (Zp T) dn a=true by clear uu hres;simpa using h2)]at hres;exact VK
   .rw[if_pos (show ZEd (Zp T) dn a=true by clear uu hres;simpa using h2)]at hres;exact VK
def ZPN:J8->J5
 | [.agg [.x (.sl A),.x (.sl B),.x (.sl R)],.agg [.x (.str dn),.x (.sl E)]]=>(ZM Zz A).bind λT=>(ZM YW B).bind λC=>(ZM ZZ R).bind λl=>(ZM ZK E).bind λa=>some (decide (smT T/\ZBt C/\ZEr (Zp T)/\l.length<=100000/\Js a/\smE a),.tup [.agg [.x (.sl (rows Zz T)),.x (.sl (rows YW C)),.x (.sl (rows ZZ (ZCv (ZDZ (Zp T) (YE C) l dn a) l dn a)))],.x (.int .i64 (ZDZ (Zp T) (YE C) l dn a))])
 |_=>none
theorem ZXa:QK Tryz.prog ZPN 50:=by
 intro args r h;unfold ZPN at h;split at h
 .obtain⟨T,rfl,i0⟩:=un JC h;obtain⟨C,rfl,i1⟩:=un JP i0;obtain⟨l,rfl,i2⟩:=un YD i1;obtain⟨a,rfl,i3⟩:=un Zf i2;obtain⟨h1,rfl⟩:=Yn i3;exact Zbq T C l _ a h1.1 h1.2.1 h1.2.2.1 h1.2.2.2.1 h1.2.2.2.2.1 h1.2.2.2.2.2
 .cases h
theorem ZPh{s:Tx}(h:JH s=true):okS s=true:=by
 unfold JH Zq at h;cases hq:okS s
 .rw[hq]at h;simp at h
 .rfl
theorem ZbO(a b:List Tx):ZKq a b=true↔ ∃c,a=c++b:=by
 unfold ZKq;simp only[Zj,Yl];constructor
 .rintro⟨h1,h2⟩;exact⟨a.take (a.length-b.length),by
   have:=ZBb (a.length-b.length) a;rw[h2]at this;exact this.symm⟩
 .rintro⟨c,rfl⟩;exact⟨J1,by rw[ZW,Zbd];exact ZYB⟩
section
variable {m:EM} {B:BM} {l:List ZY}
theorem ZV8{k:Nat}: ∀ {j:Nat} {n x:Tx},x∈Yi B k n->x∈Yi B (k+j) n
 |0,_,_,h=>h
 |j+1,_,_,h=>ZZe (ZV8 (j:=j) h)
theorem ZWQ(h:InvT m B){n:Tx}(hn:n∈m.map (·.1)): ∀(k:Nat) (x:Tx) (c:List Tx),c.length=k->x∈m.map (·.1)->Zq x=c++Zq n->(k=0->x=n)/\(0<k->x∈Yi B k n)
 |0,x,c,hc,hx,hp=>by
  have:c= []:=ZPr.1 hc;subst this;exact⟨λ_=>ZSW (h.has hx) (h.has hn) (by unfold ZDh;rw[hp];rfl),λh=>absurd h J0⟩
 |k+1,x,c,hc,hx,hp=>by
  refine⟨λh=>absurd h J0,λ_=> ?_⟩;cases c with
  |nil=>simp at hc
  |cons p c=>
   have h1:=ZMk (h.has hx);have hpar:Zq (YC x)=c++Zq n:=by
    unfold ZDh at h1;have h2:=congrArg List.reverse h1;rw[List.reverse_reverse,hp,Zcr,List.reverse_reverse]at h2;simp at h2;exact h2.2.symm
   have hpx:YC x∈m.map (·.1):=by
    rcases h.par x hx with e|e
    .have hnn:Zq n≠ []:=by have:=h.has hn;unfold JH at this;exact V3
     rw[e,show Zq []= [] by decide+kernel]at hpar;have:=congrArg List.length hpar;rw[ZW,Qw]at this;exact absurd (ZPr.1 J0) hnn
    .exact e
   obtain⟨i1,i2⟩:=ZWQ h hn k (YC x) c (by simpa using hc) hpx hpar;have hrow:x∈YJ B (YC x):=(h.row _ _).2 ⟨hx,rfl⟩;by_cases hk:k=0
   .subst hk;rw[i1 rfl]at hrow;simp only[Yi];exact ZFM.2 ⟨x,hrow,J1⟩
   .exact ZQI (i2 J0) hrow
theorem RelD.below(h:RelD m B l)(n:Tx):ZDg l n=ZC6 m B 40 n:=by
 unfold ZC6;by_cases hn:n= []
 .rw[if_pos hn,hn,ZQQ l (λe he=>(h.has he).1),h.names]
 .rw[if_neg hn];have hin:=h.isIn n;by_cases hs:(ZH m n).isSome=true
  .rw[if_pos hs];rw[hs]at hin;have hnm:n∈m.map (·.1):=(h.name n).1 ((ZLJ l n).1 (of_decide_eq_true (p:=atG l n<l.length) hin));have hnh:=h.inv.has hnm;have hf:ZDg l n=(l.map (·.1)).filter λx=>ZG5 x n:=by
    unfold ZDg;rw[List.filter_map];congr 1;refine ZX2 λe _=> ?_
    unfold ZFr;rw[show decide (atG l n<l.length)=true from hin];simp
   rw[hf];refine ZMo _ _ (λx hx=>h.inv.has ((h.name x).1 (ZPI.1 hx).1)) ((ZXV.2 h.so).filter _) (ZFV.2 ⟨λx hx=> ?_,h.inv.sorted 40 n⟩) (λx=> ?_)
   .obtain⟨s,_,r,hr⟩:=h.inv.walkRev 40 n x hx;unfold bef;rw[hr];exact ZNJ _ _ _
   .rw[ZPI,h.name,Jf];unfold ZG5;rw[ZPh hnh,ZAk,Zj,ZbO];constructor
    .rintro⟨h1,h2,c,h3⟩;obtain⟨i1,i2⟩:=ZWQ h.inv hnm c.length x c rfl h1 h3;by_cases hc:c.length=0
     .exact .inl (i1 hc)
     .have h4:=(ZFu (h.inv.has h1)).2;unfold ZCw at h4;rw[h3,ZW]at h4;have h5:=ZV8 (j:=40-c.length) (i2 J0);rw[show c.length+(40-c.length)=40 by omega]at h5;exact .inr h5
    .rintro(rfl|hx)
     .exact⟨hnm,ZPh hnh,[],rfl⟩
     .obtain⟨_,h1,_⟩:=h.inv.walkUp 40 n x hx;obtain⟨s,_,r,hr⟩:=h.inv.walkRev 40 n x hx;unfold ZDh at hr;have h2:=congrArg List.reverse hr;rw[List.reverse_reverse,Zcr,List.reverse_reverse]at h2;exact⟨h1,ZPh (h.inv.has h1),_,h2⟩
  .rw[if_neg hs];rw[ZKJ]at hs;rw[hs]at hin;unfold ZDg;rw[List.filter_eq_nil_iff.2 (λe _=>by unfold ZFr;rw[show decide (atG l n<l.length)=false from hin];simp[hn])];rfl
theorem RelD.codeDel(h:RelD m B l)(n:Tx):ZFE l n=Qc m B n:=by
 unfold ZFE Qc;rw[h.isIn];by_cases hs:(ZH m n).isSome=false
 .rw[if_pos hs,if_pos hs]
 .rw[if_neg hs,if_neg hs];rw[Bool.not_eq_false]at hs;have hin:=h.isIn n;rw[hs]at hin;have hnm:n∈m.map (·.1):=(h.name n).1 ((ZLJ l n).1 (of_decide_eq_true (p:=atG l n<l.length) hin));have hn:n≠ []:=λe=>by have:=h.inv.has hnm;rw[e]at this;exact absurd this Uu
  have hb:=h.below n;unfold ZC6 at hb;rw[if_neg hn,if_pos hs]at hb;rw[hb];cases hr:YJ B n with
  |nil=>simp[Yi,hr]
  |cons a r=>simp[Yi,hr]
theorem RelD.del(h:RelD m B l)(n:Tx):RelD (ZC4 (Qc m B n) m n) (ZBM (Qc m B n) B n) (ZLL (ZFE l n) l n):=by
 have hi:=h.inv.del n;rw[h.codeDel];unfold ZC4 ZBM ZLL at*;by_cases h0:Qc m B n=0
 .rw[if_pos h0,if_pos h0]at hi;rw[if_pos h0,if_pos h0,if_pos h0];refine⟨hi,ZMv h.so n,λe=> ?_,λp hp=>h.cl p ((ZAb m n).mem hp)⟩;rw[ZGC,h.mem,ZHR _ _ h.inv.kn];by_cases he:e.1=n
  .simp[he]
  .simp[he]
 .rw[if_neg h0,if_neg h0,if_neg h0];exact h
theorem RelD.codeRepl(h:RelD m B l)(L:List (Tx×Ze))(M:List (Tx×Zi))(dn:Tx)(a:List ZN):ZDZ L M l dn a=ZAS L M m dn a:=by
 unfold ZDZ ZAS;rw[h.isIn];cases(ZH m dn).isSome<;>simp
theorem RelD.repl(h:RelD m B l)(L:List (Tx×Ze))(M:List (Tx×Zi))(dn:Tx)(a:List ZN)(hs:Js (Zm a)):RelD (Kl (ZAS L M m dn a) m dn a) B (ZCv (ZDZ L M l dn a) l dn a):=by
 have hi:=h.inv.repl L M dn a hs;rw[h.codeRepl];unfold Kl ZCv at*;by_cases h0:ZAS L M m dn a=0
 .rw[if_pos h0]at hi;rw[if_pos h0,if_pos h0];refine h.put ?_ hi;unfold ZAS at h0;split at h0
  .rename_i h1;cases hm:ZH m dn with
   |none=>rw[hm]at h1;cases h1
   |some e=>exact h.inv.has (YS.2 ⟨_,JD hm,rfl⟩)
  .cases h0
 .rw[if_neg h0,if_neg h0];exact h
end
set_option maxHeartbeats 4000000 in
theorem ZjD(L:List (Tx×Ze))(M:List (Tx×Zi))(m:EM)(B:BM)(S1 S2:J6)(l:List ZY)(dn:Tx)(A:J6)(hl:l.length<=100000)(hk:okT m B)(hd:okD m B dn):ZO Tryz.prog 20 [.iref 0 0,.agg [.x (.sl S1),.x (.sl S2),.x (.sl (rows ZZ l))],.agg [.x (.int .i64 1),.x (.str dn),.x (.sl A)]] [JF L M m B] (.tup [.agg [.x (.sl S1),.x (.sl S2),.x (.sl (rows ZZ (ZLL (ZFE l dn) l dn)))],.x (.bool (decide (Qc m B dn=ZFE l dn)))]) [JF L M (ZC4 (Qc m B dn) m dn) (ZBM (Qc m B dn) B dn)]:=by
 have hul:ZM ZZ (rows ZZ l)=some l:=ZS YD l;have hut:=ZKC L M m B;have c1:=ZI hl;have c2:=ZI hk;have c3:=ZI hd;have hO: [JF L M m B].all (Ob.inP (λi=>decide (i< [JF L M m B].length)))=true:=rfl;refine ZF.mcallsX (fC 20 true ?_) WS hO Vk;intro C0 E0;have uu:=ξ8 @ZSY.eq_1 @ZRP.eq_1 @ZRP.eq_2 hul hut @c1 @c2 @c3;have tT:=aT (aQ ZB ZZh) ZdV;refine GA ?_;refine ce (λh0=> ?_) (λh0=> ?_)
 .simp at h0
 .refine rg [0,4,5,6,32] ?_;refine ct (λh1=> ?_) (λh1=> ?_)
  .refine rg [0,5,6,10,11] ?_;refine WI.dregY tT [1003] [6,7] ?_;refine xRG ?_;refine xFS ?_;exact Vo
  .simp at h1
set_option maxHeartbeats 4000000 in
theorem ZjT(k:Int)(h0k:k≠0)(h1k:k≠1)(L:List (Tx×Ze))(M:List (Tx×Zi))(m:EM)(B:BM)(T:List Ze)(C:List Zi)(l:List ZY)(dn:Tx)(a:List ZN)(h:smT T/\ZBt C/\ZEr (Zp T)/\l.length<=100000/\Js a/\smE a)(hk:okT m B/\Js a/\ZEG M a):ZO Tryz.prog 20 [.iref 0 0,.agg [.x (.sl (rows Zz T)),.x (.sl (rows YW C)),.x (.sl (rows ZZ l))],.agg [.x (.int .i64 k),.x (.str dn),.x (.sl (rows ZK a))]] [JF L M m B] (.tup [.agg [.x (.sl (rows Zz T)),.x (.sl (rows YW C)),.x (.sl (rows ZZ (ZCv (ZDZ (Zp T) (YE C) l dn a) l dn a)))],.x (.bool (decide (ZAS L M m dn a=ZDZ (Zp T) (YE C) l dn a)))]) [JF L M (Kl (ZAS L M m dn a) m dn a) B]:=by
 have hul:ZM ZZ (rows ZZ l)=some l:=ZS YD l;have hua:ZM ZK (rows ZK a)=some a:=ZS Zf a;have hu1:=ZD1 T;have hu2:=ZEq C;have hut:=ZKC L M m B;have c1:=ZI h;have c2:=ZI hk;have hO: [JF L M m B].all (Ob.inP (λi=>decide (i< [JF L M m B].length)))=true:=rfl;refine ZF.mcallsX (fC 20 true ?_) WS hO Vk;intro C0 E0;have uu:=ξ9 @ZPN.eq_1 @ZNW.eq_1 @ZNW.eq_2 hul hua hu1 hu2 hut (YB @c1 @c2);have tT:=aT (aQ ZB ZXa) ZZ3;refine GA ?_;refine ce (λh0=> ?_) (λh0=> ?_)
 .exact h0k Vh
 .refine rg [0,4,5,6,32] ?_;refine ce (λh1=> ?_) (λh1=> ?_)
  .exact h1k WC
  .refine rg [0,5,6,12,13] ?_;refine WI.dregY tT [1003] [6,7] ?_;refine xRG ?_;exact Vo
section
variable (k:Int) (L:List (Tx×Ze)) (M:List (Tx×Zi)) (m:EM) (B:BM) (l:List ZY) (dn:Tx) (a:List ZN)
def dCT:Int:=if k=0 then Qx L M m dn a else if k=1 then Qc m B dn else ZAS L M m dn a
def dCR:Int:=if k=0 then ZFY L M l dn a else if k=1 then ZFE l dn else ZDZ L M l dn a
def dM:EM:=if k=0 then Kl (Qx L M m dn a) m dn a else if k=1 then ZC4 (Qc m B dn) m dn else Kl (ZAS L M m dn a) m dn a
def dB:BM:=if k=0 then ZA5 (Qx L M m dn a) B dn else if k=1 then ZBM (Qc m B dn) B dn else B
def dL:List ZY:=if k=0 then ZCv (ZFY L M l dn a) l dn a else if k=1 then ZLL (ZFE l dn) l dn else ZCv (ZDZ L M l dn a) l dn a
variable {m B l}
theorem RelD.deed(h:RelD m B l)(hs:Js (Zm a)):RelD (dM k L M m B dn a) (dB k L M m B dn a) (dL k L M l dn a)/\dCT k L M m B dn a=dCR k L M l dn a:=by
 unfold dM dB dL dCT dCR;by_cases h0:k=0
 .simp only[if_pos h0];exact⟨h.add L M dn a hs,(h.code L M dn a).symm⟩
 .by_cases h1:k=1
  .simp only[if_neg h0,if_pos h1];exact⟨h.del dn,(h.codeDel dn).symm⟩
  .simp only[if_neg h0,if_neg h1];exact⟨h.repl L M dn a hs,(h.codeRepl L M dn a).symm⟩
end
theorem ZjN(k:Int)(L:List (Tx×Ze))(M:List (Tx×Zi))(m:EM)(B:BM)(T:List Ze)(C:List Zi)(l:List ZY)(dn:Tx)(a:List ZN)(h:smT T/\ZBt C/\ZEr (Zp T)/\l.length<=100000/\Js a/\smE a)(hk:okT m B/\Js a/\ZEG M a)(hd:okD m B dn):ZO Tryz.prog 20 [.iref 0 0,.agg [.x (.sl (rows Zz T)),.x (.sl (rows YW C)),.x (.sl (rows ZZ l))],.agg [.x (.int .i64 k),.x (.str dn),.x (.sl (rows ZK a))]] [JF L M m B] (.tup [.agg [.x (.sl (rows Zz T)),.x (.sl (rows YW C)),.x (.sl (rows ZZ (dL k (Zp T) (YE C) l dn a)))],.x (.bool (decide (dCT k L M m B dn a=dCR k (Zp T) (YE C) l dn a)))]) [JF L M (dM k L M m B dn a) (dB k L M m B dn a)]:=by
 unfold dL dM dB dCT dCR;by_cases h0:k=0
 .subst h0;exact ZjL L M m B T C l dn a h hk
 .by_cases h1:k=1
  .subst h1;exact ZjD L M m B _ _ l dn _ h.2.2.2.1 hk.1 hd
  .simp only[if_neg h0,if_neg h1];exact ZjT k h0 h1 L M m B T C l dn a h hk
def Zc7:J8->J7->Option (Bool×D×J7)
 | [.iref 0 0,.agg [.x (.sl A),.x (.sl B'),.x (.sl R)],.agg [.x (.int .i64 k),.x (.str dn),.x (.sl E)]],[o]=>(unT o).bind λq=>(ZM Zz A).bind λT=>(ZM YW B').bind λC=>(ZM ZZ R).bind λl=>(ZM ZK E).bind λa=>
  some (decide ((smT T/\ZBt C/\ZEr (Zp T)/\l.length<=100000/\Js a/\smE a)/\(okT q.2.2.1 q.2.2.2/\Js a/\ZEG q.2.1 a)/\okD q.2.2.1 q.2.2.2 dn),.tup [.agg [.x (.sl (rows Zz T)),.x (.sl (rows YW C)),.x (.sl (rows ZZ (dL k (Zp T) (YE C) l dn a)))],.x (.bool (decide (dCT k q.1 q.2.1 q.2.2.1 q.2.2.2 dn a=dCR k (Zp T) (YE C) l dn a)))],[JF q.1 q.2.1 (dM k q.1 q.2.1 q.2.2.1 q.2.2.2 dn a) (dB k q.1 q.2.1 q.2.2.1 q.2.2.2 dn a)])
 |_,_=>none
theorem ZfP:TK Tryz.prog Zc7 20:=by
 intro args os r os' h;unfold Zc7 at h;split at h
 .obtain⟨⟨L,M,m,B⟩,h1,h⟩:=Zg h;obtain⟨T,rfl,i0⟩:=un JC h;obtain⟨C,rfl,i1⟩:=un JP i0;obtain⟨l,rfl,i2⟩:=un YD i1;obtain⟨a,rfl,i3⟩:=un Zf i2;obtain⟨⟨h2,h3,h4⟩,rfl,rfl⟩:=tn1 i3;rw[ZCe h1];exact ZjN _ L M m B T C l _ a h2 h3 h4
 .cases h
def cpT:Nat->List (Tx×List Tx)->List TB
 |_,[]=> []
 |j,x::l=>(x.1,j,x.2)::cpT (j+1) l
theorem ZZL: ∀(l:List (Tx×List Tx)) (j:Nat),(cpT j l).map YM=l
 | [],_=>rfl
 |x::l,j=>by simp only[cpT,YO,ZZL l];rfl
theorem ZTu: ∀(l:List (Tx×List Tx)) (j:Nat) (x:TB),x∈cpT j l-> ∃i,x.2.1=j+i/\l[i]? =some (x.1,x.2.2)
 | [],_,x,h=>W6
 |y::l,j,x,h=>by
  simp only[cpT,Jf]at h;rcases h with rfl|h
  .exact⟨0,rfl,rfl⟩
  .obtain⟨i,h1,h2⟩:=ZTu l (j+1) x h;exact⟨i+1,J0,h2⟩
theorem ZYJ: ∀(l:List (Tx×List Tx)) (j:Nat),((cpT j l).map (·.2.1)).Nodup
 | [],_=>ZPl
 |y::l,j=>by
  simp only[cpT,YO,ZBE];refine⟨λh=> ?_,ZYJ l (j+1)⟩;obtain⟨x,hx,e⟩:=YS.1 h;obtain⟨i,h1,_⟩:=ZTu l (j+1) x hx;omega
theorem ZWF(f:Nat->Nat): ∀(l:List (Tx×List Tx)) (k j:Nat),(∀i,i<l.length->f (k+i)=j+i+6)->(cpB k l).map (Ji f)=(cpT j l).map YV
 | [],_,_,_=>rfl
 |x::l,k,j,h=>by
  have h0:=h 0 J1;rw[KB,KB]at h0;simp only[cpB,cpT,YO,ZWF f l (k+1) (j+1) (λi hi=>by have:=h (i+1) Um;rw[show k+1+i=k+(i+1) by omega,this];omega)];have e:Ji f ([X.str x.1],[D.ref k x.2.length 0 x.2.length])=YV (x.1,j,x.2):=by
   show([X.str x.1],[D.ref (f k) x.2.length 0 x.2.length])=_;rw[h0];rfl
  rw[e]
theorem ZZO(p:Nat->Bool): ∀(l:List (Tx×List Tx)) (k:Nat),(∀i,i<l.length->p (k+i)=true)->(cpB k l).all (Qz p)=true
 | [],_,_=>rfl
 |x::l,k,h=>by
  have h0:=h 0 J1;rw[KB]at h0;simp only[cpB,Qa,ZZO p l (k+1) (λi hi=>by have:=h (i+1) Um;rwa [show k+1+i=k+(i+1) by omega]),QX];simp[Qz,D.inP,JB,h0]
theorem Zgm(L:List (Tx×Ze))(M:List (Tx×Zi))(m:EM)(B:BM)(hk:okT m B):ZO Tryz.prog 19 [.iref 0 0] [JF L M m B] (.iref 1 1) [.itr,JF L M m B]:=
 Zei λos h=>by
  obtain⟨Bt,Y,hp,hB,hY,rfl⟩:=ZBK hk h;refine ZF.imp (ZZp (JS L) (JN M) (Jt m) Bt Y hB) ?_;rintro r os' ⟨l,hl,rfl,rfl⟩;have hn: ∀i:Nat,(cpO (JS L) (JN M) (Jt m) Y (.mpo .str false (Bt.map YV)) l).getD (Y.length+6+i) .dead=(Ob.mpo .str true (Jt m):: .mpo .str false (cpB (Y.length+10) l):: .box [.ptr 1 0,.mref (Y.length+6),.mref (Y.length+7)]:: .itr::rwB l).getD i .dead:=λi=>by
   rw[ZCB,ZCB];congr 1;unfold cpO;rw[show Y.length+6+i=(Y.length+i)+1+1+1+1+1+1 by omega];simp only[ZBd];rw[QI J0,ZKF]
  have hlen:(cpO (JS L) (JN M) (Jt m) Y (.mpo .str false (Bt.map YV)) l).length=Y.length+10+l.length:=by simp[cpO,rwB];omega
  generalize hR:(List.range l.length).map (λi=>Y.length+10+i)=R;have hRm: ∀r,r∈R↔ ∃i,i<l.length/\r=Y.length+10+i:=λr=>by rw[<-hR];simp[eq_comm]
  have hRg: ∀i,i<l.length->R[i]? =some (Y.length+10+i):=λi hi=>by rw[<-hR];simp[hi]
  have hRn:R.Nodup:=by rw[<-hR];exact List.Pairwise.map _ (λa b h e=>h J0) ZUO
  have hnd:([Y.length+8,1,2,3,Y.length+6,Y.length+7]++R).Nodup:=by
   rw[ZFC];refine⟨J1,hRn,λa ha b hb=> ?_⟩;obtain⟨i,hi,rfl⟩:=(hRm b).1 hb;simp at ha;omega
  have hinv: ∀(i r:Nat),([Y.length+8,1,2,3,Y.length+6,Y.length+7]++R)[i]? =some r->inv ([Y.length+8,1,2,3,Y.length+6,Y.length+7]++R) r=i:=λi r h=>ZIT hnd h
  have i1:=hinv 1 1 rfl;have i2:=hinv 2 2 rfl;have i3:=hinv 3 3 rfl;have i4:=hinv 4 (Y.length+6) rfl;have i5:=hinv 5 (Y.length+7) rfl;have iR: ∀i,i<l.length->inv ([Y.length+8,1,2,3,Y.length+6,Y.length+7]++R) (Y.length+10+i)=0+i+6:=λi hi=>by
   rw[hinv (i+6) (Y.length+10+i) (by simpa using hRg i hi)];omega
  have hm: ∀r,Zh r ([Y.length+8,1,2,3,Y.length+6,Y.length+7]++R)=true↔r∈ [Y.length+8,1,2,3,Y.length+6,Y.length+7]++R:=λr=>ZA3
  have e8:=hn 2;have e6:=hn 0;have e7:=hn 1;rw[show Y.length+6+2=Y.length+8 by omega]at e8;rw[KB]at e6;rw[show Y.length+6+1=Y.length+7 by omega]at e7;have eR: ∀i,i<l.length->(cpO (JS L) (JN M) (Jt m) Y (.mpo .str false (Bt.map YV)) l).getD (Y.length+10+i) .dead= .rows false 9 1 (rows ZC (l.getD i ([],[])).2):=λi hi=>by
   have:=hn (4+i);rw[show Y.length+6+(4+i)=Y.length+10+i by omega]at this;rw[this,ZCB,show 4+i=i+1+1+1+1 by omega];simp[rwB,hi]
  refine⟨[Y.length+8,1,2,3,Y.length+6,Y.length+7]++R,Y.length+8,rfl,hnd,λr hr=> ?_,λr hr=> ?_,rfl,?_⟩
  .rw[hlen];rcases KT.1 hr with hr|hr
   .simp at hr;omega
   .obtain⟨i,hi,rfl⟩:=(hRm r).1 hr;omega
  .have q: ∀r,r∈ [Y.length+8,1,2,3,Y.length+6,Y.length+7]++R->Zh r ([Y.length+8,1,2,3,Y.length+6,Y.length+7]++R)=true:=λr h=>ZA3.2 h
   rcases KT.1 hr with h|h
   .simp only[Jf,List.not_mem_nil,or_false]at h;rcases h with rfl|rfl|rfl|rfl|rfl|rfl
    .rw[e8];have q1:=q 1 J1;have q6:=q (Y.length+6) J1;have q7:=q (Y.length+7) J1;simp only[ZNB,ZH8,Ob.inP,JB,D.inP,Qa,ZEM,q1,q6,q7,ZLC]
    .show(Ob.box [.mref 2,.mref 3]).inP _=true;have q2:=q 2 J1;have q3:=q 3 J1;simp only[Ob.inP,JB,D.inP,Qa,ZEM,q2,q3,ZLC]
    .exact ZAe _ _
    .exact ZAf _ _
    .rw[e6];exact Qy _ _ _ _
    .rw[e7];exact ZZO _ l _ (λi hi=>q _ (KT.2 (.inr ((hRm _).2 ⟨i,hi,rfl⟩))))
   .obtain⟨i,hi,rfl⟩:=(hRm r).1 h;rw[eR i hi];rfl
  .have hY2:(rwB l).all Ob.nof=true:=by simp[rwB,Ob.nof]
   have hst:=ZZL l 0;have hB2:okB (rwB l) (cpT 0 l):=by
    refine⟨?_,ZYJ l 0,λx hx=> ?_⟩
    .have:(cpT 0 l).map (·.1)=l.map (·.1):=by
      have:=congrArg (List.map Prod.fst) hst;rw[Jv]at this;exact this
     rw[this];have h1:=(hl.map Prod.fst).nodup_iff.2 (by rw[Jv];exact hB.1);exact h1
    .obtain⟨i,h1,h2⟩:=ZTu l 0 x hx;rw[Jk]at h1;refine⟨by rw[h1];simp[rwB,h2],?_⟩;have h3:(x.1,x.2.2)∈Bt.map YM:=hl.mem_iff.1 (JE h2);obtain⟨b,hb,e⟩:=YS.1 h3;have:=(hB.2.2 b hb).2;simp only[YM,YP]at e;rw[<-e.2];exact this
   have hfp:YX ([Y.length+8,1,2,3,Y.length+6,Y.length+7]++R) (cpO (JS L) (JN M) (Jt m) Y (.mpo .str false (Bt.map YV)) l)=Jr (JS L) (JN M) (.mpo .str true (Jt m):: .mpo .str false ((cpT 0 l).map YV)::rwB l):=by
    unfold YX;rw[Jj];generalize hI:inv ([Y.length+8,1,2,3,Y.length+6,Y.length+7]++R)=I at i1 i2 i3 i4 i5 iR;have hrw:R.map (λr=>((cpO (JS L) (JN M) (Jt m) Y (.mpo .str false (Bt.map YV)) l).getD r .dead).ren I)=rwB l:=by
     apply ZBg;intro i;rw[YI];by_cases hi:i<l.length
     .rw[hRg i hi,Yq,eR i hi];simp[rwB,hi,Ob.ren]
     .rw[ξV (by rw[<-hR];simp;omega),Qd,ξV (by simp[rwB];omega)]
    rw[hrw];simp only[YO,ZAa,e8,e6,e7,ZNB,ZH8,Ob.ren,D.ren,YA,i1,i4,i5];rw[ZWF I l (Y.length+10) 0 iR,show(Jt m).map (Ji I)=Jt m from ZAX _ _ _ _];show _::(Ob.box [.mref 2,.mref 3]).ren I::(Ob.mpo .str true (JS L)).ren I::(Ob.mpo .str true (JN M)).ren I::_=_;simp only[Ob.ren,YO,ZAa,YA,D.ren,i2,i3,ZCa,ZCb];rfl
   rw[hfp];exact ZDy (by rw[hst];exact hl.trans hp) hB2 hY2
def ZN1:J8->J7->Option (Bool×D×J7)
 | [.iref 0 0],[o]=>(unT o).bind λq=>some (decide (okT q.2.2.1 q.2.2.2),.iref 1 1,[.itr,JF q.1 q.2.1 q.2.2.1 q.2.2.2])
 |_,_=>none
theorem ZZj:TK Tryz.prog ZN1 19:=by
 intro args os r os' h;unfold ZN1 at h;split at h
 .obtain⟨⟨L,M,m,B⟩,h1,h⟩:=Zg h;obtain⟨h2,rfl,rfl⟩:=tn1 h;rw[ZCe h1];exact Zgm L M m B h2
 .cases h
def ZJS(os:J7)(t:Nat):W0:=match os[t]? with
 |some (.box [.ptr s _,.mref a,.mref b])=>match os[s]? with
  |some (.box [.mref x,.mref c])=>t::s::x::c::a::b::(match os[b]? with
   |some (.mpo _ _ l)=>l.filterMap λq=>match q.2 with
    | [.ref i _ _ _]=>some i
    |_=>none
   |_=> [])
  |_=> []
 |_=> []
def ZMN(Y:J7)(l:W2):List TB:=l.filterMap λq=>match q with
 |([.str s],[.ref i _ _ _])=>match Y[i-6]? with
  |some (.rows _ _ _ R)=>(ZM ZC R).map λl=>(s,i-6,l)
  |_=>none
 |_=>none
def ZdG(Y:J7)(B:List TB):Bool:=decide ((B.map (·.1)).Nodup/\(B.map (·.2.1)).Nodup)&&B.all λx=>decide (x.2.2.length<=1000000)&&match Y[x.2.1]? with
 |some o=>Ob.beq o (.rows false 9 1 (rows ZC x.2.2))
 |none=>false
theorem Zfq{Y:J7}{B:List TB}(h:ZdG Y B=true):okB Y B:=by
 simp only[ZdG,Zj,Yl]at h;refine⟨h.1.1,h.1.2,λx hx=> ?_⟩;have h2:=Yg.1 h.2 x hx;simp only[Zj,Yl]at h2;refine⟨?_,h2.1⟩;have h3:=h2.2;split at h3
 .rename_i o ho;rw[ho,Ob.beq_eq h3]
 .cases h3
theorem ZbL{α:Type}{a b:α}{l:List α}(h:l.Perm [a,b]):l= [a,b]\/l= [b,a]:=by
 have hl:=h.length_eq
 match l,hl with
 | [x,y],_=>
  have hx:x=a\/x=b:=by have:=h.mem_iff.1 (ZAm (a:=x) (l:= [y]));exact V3
  rcases hx with rfl|rfl
  .have:=(List.perm_cons _).1 h;left;rw[List.singleton_perm_singleton.1 this]
  .have:=(List.perm_cons x).1 (h.trans (List.Perm.swap x a []));right;rw[List.singleton_perm_singleton.1 this]
def awR(G:FuncId->Option IFn)(res:List IRes)(rest:IC)(l2:List IOp)(dst:Option Nat)(φ2:J4)(os2:J7)(ρ:W0)(P1 P2 m:W2)(B:List TB)(Y:J7)(l:List (Tx×List Tx)):Bool:=
 match QJ ZId (putO φ2 dst ((D.ptr (Y.length+8) 0).ren (KN ρ os2.length (cpO P1 P2 m Y (.mpo .str false (B.map YV)) l).length))) (KU ρ os2 (cpO P1 P2 m Y (.mpo .str false (B.map YV)) l)) l2 with
 |some (true,φ4,os4)=>match ev ZId [] G 300 rest φ4 os4 with
  |some (.ret,φ5,os5)=>match QE true (λ_ _=>none) φ5 os5 res with
   |some (true,[.x (.bool true)],_)=>true
   |_=>false
  |_=>false
 |_=>false
def awC(G:FuncId->Option IFn)(res:List IRes)(rest:IC)(f:IO)(xs:List IO)(l2:List IOp)(dst:Option Nat)(φ2:J4)(os2:J7):Bool:=
 match(ZG φ2 f).val,xs.map λy=>(ZG φ2 y).val with
 | .fn g [],[.ptr t 0]=>match YX (ZJS os2 t) os2 with
  | .box _:: .box _:: .mpo _ _ P1:: .mpo _ _ P2:: .mpo _ _ m:: .mpo _ _ b::Y=>
   decide (g=19)&&((ZG φ2 f).cond&&((xs.all λy=>(ZG φ2 y).cond)&&(QC (ZJS os2 t) [.ptr t 0] os2&&(Nat.beq (inv (ZJS os2 t) t) 0&&(decide ((ZJS os2 t).length<=Y.length+6)&&
    (ZFs (YX (ZJS os2 t) os2) (Jr P1 P2 (.mpo .str true m:: .mpo .str false ((ZMN Y b).map YV)::Y))&&(ZdG Y (ZMN Y b)&&match(ZMN Y b).map YM with
     | [x,y]=>awR G res rest l2 dst φ2 os2 (ZJS os2 t) P1 P2 m (ZMN Y b) Y [x,y]&&awR G res rest l2 dst φ2 os2 (ZJS os2 t) P1 P2 m (ZMN Y b) Y [y,x]
     |_=>false)))))))
  |_=>false
 |_,_=>false
def awT(G:FuncId->Option IFn)(k:Nat):Option IFn->Bool
 |some p=>match evSeq ZId [] G 300 k p.body [] []with
  |some (φ1,os1)=>match Zct k p.body with
   | .seq (.reg (o::⟨dst,.call f xs,none⟩::l2)) rest=>match QJ ZId φ1 os1 [o]with
    |some (true,φ2,os2)=>awC G p.res rest f xs l2 dst φ2 os2
    |_=>false
   |_=>false
  |_=>false
 |none=>false
theorem ZYG{c:Ctx}{E0:Env}{n:Nat}{res:List IRes}{rest:IC}{l2:List IOp}{dst:Option Nat}{φ2:J4}{os2:J7}{ρ:W0}{P1 P2 m:W2}{B:List TB}{Y:J7}{l:List (Tx×List Tx)}(h:awR (GP Tryz.prog) res rest l2 dst φ2 os2 ρ P1 P2 m B Y l=true):
  ∃φ' os',QJ ZId (putO φ2 dst ((D.ptr (Y.length+8) 0).ren (KN ρ os2.length (cpO P1 P2 m Y (.mpo .str false (B.map YV)) l).length))) (KU ρ os2 (cpO P1 P2 m Y (.mpo .str false (B.map YV)) l)) l2=some (true,φ',os')/\
   WI Tryz.prog c E0 [] n rest (λx φ' os'=>(x= .normal\/x= .ret)/\ ∃ds os2,QE true (λ_ _=>none) φ' os' res=some (true,ds,os2)/\mkR ds= .x (.bool true)) φ' os':=by
 unfold awR at h;split at h
 .rename_i φ4 os4 h1;split at h
  .rename_i φ5 os5 h2;split at h
   .rename_i q h3;exact⟨φ4,os4,h1,WI.evE ZK3 [] (ZNt _) 300 h2 ⟨.inr rfl,_,_,h3,rfl⟩⟩
   .cases h
  .cases h
 .cases h
theorem Zap:ZL Tryz.prog 16 [] (.x (.bool true)):=by
 have h:awT (GP Tryz.prog) 6 (GP Tryz.prog 16)=true:=by kernel_rfl
 refine ZF.pure (FG.calls (fz:=true) ?_) rfl;generalize hG:GP Tryz.prog 16=q at h|-;unfold awT at h;split at h
 .rename_i p;refine FG.mk (λC0 E0=> ?_) (Kb _);split at h
  .rename_i φ1 os1 hev;split at h
   .rename_i o dst f xs l2 rest hsq;split at h
    .rename_i φ2 os2 hr;refine WI.evSeq ZK3 [] (ZNt _) 300 6 hev ?_;rw[hsq];refine WI.seq ?_;unfold awC at h;split at h
     .rename_i g t hv hx;split at h
      .rename_i P1 _ _ P2 _ _ m _ _ b Y hO;simp only[Zj,Yl]at h;obtain⟨rfl,c1,c2,k1,k2,k3,k4,k5,k6⟩:=h;have hB:=Zfq k5;have hcp:=ZZp P1 P2 m (ZMN Y b) Y hB;have hin:YA (inv (ZJS os2 t)) [D.ptr t 0]= [.ptr 0 0]:=by
        simp only[YA,D.ren,ZNH k2]
       have hcp2:=ZF.lift (P:=Tryz.prog) (ρ:=ZJS os2 t) (args:= [.ptr t 0]) (OS:=os2) (Post:=CpP P1 P2 m (ZMN Y b) Y) k1 (by rw[hin,ZHD k4];exact hcp) (λr os' ⟨l,_,_,h⟩=>by
        rw[h];refine ZEu k3 ?_;simp[cpO])
       refine WI.regF ZK3 1 rfl hr (QT 19) hv c1 c2 (by rw[hx,Kg];exact hcp2) ?_;rintro r os3 ⟨r1,os',⟨l,hl,rfl,rfl⟩,rfl,rfl⟩;split at k6
       .rename_i x y hxy;simp only[Zj]at k6;rw[hxy]at hl;rcases ZbL hl with rfl|rfl
        .exact ZYG k6.1
        .exact ZYG k6.2
       .cases k6
      .cases h
     .cases h
    .cases h
   .cases h
  .cases h
 .cases h
abbrev ZXL:=Jh (ZCF .i64) (Jh ZZ ZAL)
abbrev Zha:=Int×(ZY×Unit)
def ZMK:J8->J5
 | []=>some (true,.x (.bool true))
 |_=>none
theorem ZUl:QK Tryz.prog ZMK 16:=by
 intro args r h;unfold ZMK at h;split at h
 .obtain rfl:=Qv h;exact Zap
 .cases h
theorem ZL.nn1{P:Program}{f:FuncId}{args ds:J8}(h:ZL P f args (.agg ds)):ZL P f args (.agg (ds.map D.nn1)):=by
 intro w st vs hst hvl;refine(h w st vs hst hvl).mono ?_;rintro e w' ⟨v,st',h1,h2,h3,h4,h5⟩;refine⟨v,st',h1,h2,h3,h4,?_⟩;cases h5 with
 |agg us hl h6 hv=>
 refine .agg us UC h6 (λj d u hd hu=> ?_);rw[YI]at hd;obtain⟨d0,hd0,rfl⟩:=Zc hd;exact(hv j d0 u hd0 hu).nn1
theorem Zdf:ZL Tryz.prog 17 [] (.agg [.x (.sl [[.str [99,110],.int .i64 1,.bool false],[.str [115,110],.int .i64 1,.bool false],[.str [111,117],.int .i64 1,.bool false],[.str [100,99],.int .i64 1,.bool false],[.str [111],.int .i64 1,.bool false],[.str [100,101,115,99,114,105,112,116,105,111,110],.int .i64 1,.bool false],[.str [109,97,105,108],.int .i64 1,.bool false],[.str [111,98,106,101,99,116,99,108,97,115,115],.int .i64 1,.bool false],[.str [117,115,101,114,112,97,115,115,119,111,114,100],.int .i64 4,.bool true],[.str [117,105,100],.int .i64 1,.bool true],[.str [117,105,100,110,117,109,98,101,114],.int .i64 3,.bool true],[.str [109,101,109,98,101,114],.int .i64 5,.bool false],[.str [115,101,114,105,97,108,110,117,109,98,101,114],.int .i64 2,.bool false]]),.x (.sl [[.str [116,111,112],.sl [],.sl []],[.str [112,101,114,115,111,110],.sl [[.str [99,110]],[.str [115,110]]],.sl [[.str [100,101,115,99,114,105,112,116,105,111,110]],[.str [117,115,101,114,112,97,115,115,119,111,114,100]],[.str [109,97,105,108]],[.str [117,105,100]],[.str [117,105,100,110,117,109,98,101,114]],[.str [115,101,114,105,97,108,110,117,109,98,101,114]],[.str [109,101,109,98,101,114]]]],[.str [111,114,103,97,110,105,122,97,116,105,111,110,97,108,117,110,105,116],.sl [[.str [111,117]]],.sl [[.str [100,101,115,99,114,105,112,116,105,111,110]],[.str [109,101,109,98,101,114]]]],[.str [100,111,109,97,105,110],.sl [[.str [100,99]]],.sl [[.str [100,101,115,99,114,105,112,116,105,111,110]],[.str [111]]]],[.str [103,114,111,117,112],.sl [[.str [99,110]]],.sl [[.str [109,101,109,98,101,114]],[.str [100,101,115,99,114,105,112,116,105,111,110]]]]])]):=
 ZL.nn1 (ds:= [.x (.sl [[.str [99,110],.int .i64 1,.bool false],[.str [115,110],.int .i64 1,.bool false],[.str [111,117],.int .i64 1,.bool false],[.str [100,99],.int .i64 1,.bool false],[.str [111],.int .i64 1,.bool false],[.str [100,101,115,99,114,105,112,116,105,111,110],.int .i64 1,.bool false],[.str [109,97,105,108],.int .i64 1,.bool false],[.str [111,98,106,101,99,116,99,108,97,115,115],.int .i64 1,.bool false],[.str [117,115,101,114,112,97,115,115,119,111,114,100],.int .i64 4,.bool true],[.str [117,105,100],.int .i64 1,.bool true],[.str [117,105,100,110,117,109,98,101,114],.int .i64 3,.bool true],[.str [109,101,109,98,101,114],.int .i64 5,.bool false],[.str [115,101,114,105,97,108,110,117,109,98,101,114],.int .i64 2,.bool false]]),.x (.sl [[.str [116,111,112],.nils,.nils],[.str [112,101,114,115,111,110],.sl [[.str [99,110]],[.str [115,110]]],.sl [[.str [100,101,115,99,114,105,112,116,105,111,110]],[.str [117,115,101,114,112,97,115,115,119,111,114,100]],[.str [109,97,105,108]],[.str [117,105,100]],[.str [117,105,100,110,117,109,98,101,114]],[.str [115,101,114,105,97,108,110,117,109,98,101,114]],[.str [109,101,109,98,101,114]]]],[.str [111,114,103,97,110,105,122,97,116,105,111,110,97,108,117,110,105,116],.sl [[.str [111,117]]],.sl [[.str [100,101,115,99,114,105,112,116,105,111,110]],[.str [109,101,109,98,101,114]]]],[.str [100,111,109,97,105,110],.sl [[.str [100,99]]],.sl [[.str [100,101,115,99,114,105,112,116,105,111,110]],[.str [111]]]],[.str [103,114,111,117,112],.sl [[.str [99,110]]],.sl [[.str [109,101,109,98,101,114]],[.str [100,101,115,99,114,105,112,116,105,111,110]]]]])]) (evP 300 17 ZB [])
theorem Zbi:ZL Tryz.prog 17 [] (.agg [.x (.sl (rows Zz plT)),.x (.sl (rows YW plC))]):=Zdf
def ZND:J8->J5
 | []=>some (true,.agg [.x (.sl (rows Zz plT)),.x (.sl (rows YW plC))])
 |_=>none
theorem ZUZ:QK Tryz.prog ZND 17:=by
 intro args r h;unfold ZND at h;split at h
 .obtain rfl:=Qv h;exact Zbi
 .cases h
theorem Zih:ZBt plC:=Uu
theorem ZfV:ZEr (Zp plT):=Uu
theorem Zf7{e:ZY}(h:ZKd e=true):smE e.2.1:=by
 obtain⟨h1,h2,h3⟩:=ZYP h;exact⟨⟨J0,λa ha=>⟨HI,Hf⟩⟩,λa ha v hv=>by have:=(h3 a ha).2.2 v hv;omega⟩
set_option maxHeartbeats 8000000 in
theorem ZX8(l:List Zha):ZL Tryz.prog 4 [.x (.sl (rows ZXL l))] (.x (.bool true)):=by
 have hrl:=ZQ ZXL l;have hun:=ZKC (Zp plT) (YE plC);have huT:=ZD1 plT;have huC:=ZEq plC;refine ZF.pure (fC 4 true ?_) rfl;intro C0 E0;have uu:=ξ9 @ZCa @ZCb @ZDw @ZDt @ZAe @ZAf @ZJ8.eq_1 @ZJ8.eq_2 (ξ9 @ZRd.eq_1 @ZRd.eq_2 @ZN1.eq_1 @ZN1.eq_2 @Zc7.eq_1 @ZLl.eq_1 @ZLl.eq_2 @ZRT.eq_1 (ξ9 @ZRT.eq_2 @ZXq.eq_1 @ZND.eq_1 @ZHE.eq_1 @ZF0.eq_1 @ZF0.eq_2 @ZMK.eq_1 hrl (YB huT huC)));have tT:=aR (aR (aT (aT (aT (aT (aQ (aQ (aQ (aQ (aQ ZB ZUl) Zc5) ZUZ) ZIA) ZKp) ZP5) ZcQ) ZZj) ZfP) ZW0) Zb1;refine rg [0] ?_;refine rg [0,10] ?_;refine cd (λh0=> ?_) (λh0=> ?_)
 .refine Wy ?_
  exact Wo
 .refine rg [0,3,4] ?_;refine WI.nnA ?_;refine WI.pickA [5,0,1,2,3,4,6] ?_ (ho:=by simp (maxSteps:=10000000) (disch:=decide) only[zV,zO,Ob.mpb,frzL,ZBo,ZDG,onF,Ob.onI,mpP,Ji,Yq,Qd,D.vw,vwL,D.on,D.inP,JB,Zh,D.ren,YA,inv,YX,Ob.mp,Ob.ren,D.nn,ZEA,Nat.reduceBEq,Nat.reduceEqDiff,Nat.reduceAdd,↓reduceIte,Zi4,ZjM,ZCa,ZCb];rfl);refine WI.famT 9 Zet [_] ?_;refine rg [0,3,4,17] ?_;refine ce (λh1=> ?_) (λh1=> ?_)
  .simp at h1
  .refine rg [0,3,4,5] ?_;refine WI.loop (λφ os=> ∃(i:Nat) (m:EM) (B:BM) (L:List ZY),φ= [(0,.x (.sl (rows ZXL l))),(4,.ptr 1 0),(3,.iref 0 0),(5,.x (.int .i64 i))]/\os= [JF (Zp plT) (YE plC) m B,.box [.x (.sl (rows Zz plT)),.x (.sl (rows YW plC)),.x (.sl (rows ZZ L))]]/\i<=l.length/\RelD m B L) (ZJ l.length 5) ?_ (λφ os hI=> ?_)
   .exact⟨0,[],[],[],rfl,rfl,J0,Zcq⟩
   .obtain⟨i,m,B,L,rfl,rfl,hi,hR⟩:=hI;have hunm:=hun m B;have hLl:L.length<=1024:=by rw[hR.len];exact hR.inv.ln
    have huL:ZM ZZ (rows ZZ L)=some L:=ZS YD L;have hok0:=ZI hR.inv.ok;have uu:=Qu uu hunm huL hok0;refine rg [0,3,4,5,21] ?_;refine cd (λh2=> ?_) (λh2=> ?_)
    .have hi4:i<l.length:=VG
     have hux:ZM ZK (rows ZK l[i].2.1.2.1)=some l[i].2.1.2.1:=ZS Zf _;have uu:=YB uu hux;refine rg [0,3,4,5,30] ?_;refine cd (λh3=> ?_) (λh3=> ?_)
     .refine rg [0,3,4,5] ?_
      exact Ur
     .have hfe:ZKd (l[i].2.1.1,l[i].2.1.2.1,())=true:=HJ
      have hsm:=Zhf hfe;have hd1:decide ((smT plT/\ZBt plC/\ZEr (Zp plT)/\L.length<=100000/\Js l[i].2.1.2.1/\smE l[i].2.1.2.1)/\(okT m B/\Js l[i].2.1.2.1/\ZEG (YE plC) l[i].2.1.2.1)/\okD m B l[i].2.1.1)=true:=ZI ⟨⟨ZYO,Zih,ZfV,J0,hsm.1,Zf7 hfe⟩,⟨hR.inv.ok,hsm.1,hsm.2.2⟩,hR.inv.okDn _⟩;have uu:=YB uu hd1;refine rg [0,3,4,5,36] ?_;refine cd (λh4=> ?_) (λh4=> ?_)
      .refine rg [0,3,4,5] ?_;refine WI.pickA [2,1] ?_;refine WI.orderA [0,4,3,5] ?_;refine rg [0,3,4,5,40] ?_;refine ce (λh5=> ?_) (λh5=> ?_)
       .simp at h5
       .refine rg [0,3,4,5] ?_
        exact Ur
      .refine WI.dregL tT [] [0,3,4,5,6,7] (.box [.x .nils,.x .nils,.x .nils]) ?_;refine lFG ?_;refine lQG ?_;refine lFG ?_;refine lFG ?_;refine lQG ?_;refine lQG ?_;refine lAC ?_;refine lFG ?_;refine lFG ?_;refine lFG ?_;refine lLG ?_;refine lBG ?_;refine lFG ?_;refine lN ?_;refine rg [0,3,4,5,7] ?_;obtain⟨hR2,hcd⟩:=hR.deed l[i].1 (Zp plT) (YE plC) l[i].2.1.1 l[i].2.1.2.1 hsm.2.1;rw[show decide (dCT l[i].1 (Zp plT) (YE plC) m B l[i].2.1.1 l[i].2.1.2.1=dCR l[i].1 (Zp plT) (YE plC) L l[i].2.1.1 l[i].2.1.2.1)=true from ZI hcd];generalize dM l[i].1 (Zp plT) (YE plC) m B l[i].2.1.1 l[i].2.1.2.1=m2 at hR2|-;generalize dB l[i].1 (Zp plT) (YE plC) m B l[i].2.1.1 l[i].2.1.2.1=B2 at hR2|-;generalize dL l[i].1 (Zp plT) (YE plC) L l[i].2.1.1 l[i].2.1.2.1=L2 at hR2|-;refine WI.pickA [0,1] ?_;have g1:=hun m2 B2;have g2:L2.length<=1024:=by rw[hR2.len];exact hR2.inv.ln
       have g3:ZM ZZ (rows ZZ L2)=some L2:=ZS YD L2;have g4:=ZI hR2.same;have g5:=ZI (hR2.inv.okWn l[i].2.1.1);have g6:=hR2.below l[i].2.1.1;have g7:decide (L2.length<=100000)=true:=ZI J0;have g8:=ZS ZP (ZC6 m2 B2 40 l[i].2.1.1);have uu:=ξ8 uu g1 g3 g4 g5 g6 g7 g8;refine WI.dregB tT [0,3,4,5,79] ?_;refine X1 ?_;refine X1 ?_;refine Zd ?_;refine dQC ?_
       refine Vc ?_;refine ZU ?_;refine Vc ?_;refine Zn ?_;refine Zd ?_;refine Vc ?_;refine Zd ?_;refine dQC ?_;refine Zd ?_;refine Vc ?_;refine Zd ?_;refine Vc ?_;refine Zd ?_;refine dAC ?_;refine dAC ?_;refine Vc ?_;refine VP ?_;refine ce (λh6=> ?_) (λh6=> ?_)
       .simp at h6
       .refine rg [0,3,4,5] ?_
        exact Ur
    .refine Wy ?_
     exact Wo
end Go.Proofs.YtiogclkbccdefaaGreatDoor
end
