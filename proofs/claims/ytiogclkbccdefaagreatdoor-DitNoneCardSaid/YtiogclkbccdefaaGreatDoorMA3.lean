import Derived.Test.YtiogclkbccdefaaGreatDoorMA2
import Derived.Test.YtiogclkbccdefaaGreatDoorMA1
import Derived.Test.YtiogclkbccdefaaGreatDoorLA5
import Derived.Test.YtiogclkbccdefaaGreatDoorSh
import Derived.Test.YtiogclkbccdefaaGreatDoorProg
set_option linter.unusedSimpArgs false
set_option linter.unusedVariables false
set_option maxRecDepth 100000
section
namespace Go.Proofs.YtiogclkbccdefaaGreatDoor
open Go.RowKit Go.Bo Go.Ab
def jnc(c:UInt8):List Tx→Tx
 | []=> []
 | [x]=>x
 |x::y::r=>x++c::jnc c (y::r)
theorem ZBn(c:UInt8): ∀l,Lib.join l [c]=jnc c l
 | []=>rfl
 | [x]=>by rw[Lib.join_one];rfl
 |x::y::r=>by
  have:=ZBn c (y::r);simp only[Lib.join,List.intercalate,List.intersperse_cons_cons,ZNV,jnc]at this⊢;rw[this];rfl
theorem ZU3(c:UInt8){x:Tx}{l:List Tx}(h:l≠ []):jnc c (x::l)=x++c::jnc c l:=by
 cases l with
 |nil=>exact absurd rfl h
 |cons y r=>rfl
theorem ZIg(c:UInt8)(m:Nat): ∀l:List Tx,(∀x∈l,x.length≤m)→(jnc c l).length≤l.length*(m+1)
 | [],_=>by simp[jnc]
 | [x],h=>by have:=h x (by simp);simp[jnc];omega
 |x::y::r,h=>by
  have h1:=ZIg c m (y::r) (fun z hz=>h z (ZIL _ hz));have h2:=h x (by simp);rw[ZU3 c (by simp),Zw,Jh,Jh,Ys];omega
theorem ZKi(l:List Tx)(x:Tx):rows ZB l++ [[X.str x]]=rows ZB (l++ [x]):=by simp[rows,ZB]
def ZCD(p:Av):Tx:=p.1++ [61]++ZLW p.2
def ZAt(r:List Av):Tx:=jnc 43 (r.map ZCD)
def ZLT(d:Dn):Tx:=jnc 44 (d.map ZAt)
def ZAE(d:Dn):Tx×Int:=if Qf d≠0 then([],Qf d)else if(ZLT d).length>4096 then([],3)else(ZLT d,0)
theorem ZUT(r:List Av): ∀(n j:Nat),okP r n=true→j<n→ZAm r j=true
 |n+1,j,h,hj=>by
  rw[okP,ZQ]at h;by_cases e:j=n
  ·subst e;exact h.2
  ·exact ZUT r n j h.1 (by omega)
theorem ZG5{r:List Av}(h:Ju r=true):r.length≤8∧1≤r.length∧ ∀p∈r,p.1.length≤64∧p.2.length≤256:=by
 unfold Ju at h;rw[ZQ,Zg]at h;refine⟨h.2.2,h.2.1,fun p hp=> ?_⟩;obtain⟨j,hj,rfl⟩:=ZR1 hp;have h1:=ZUT r r.length j h.1 hj;unfold ZAm at h1;rw[ZXV,show r.getD j ([],[])=r[j] by simp[hj]]at h1;simp only[ZQ,Zg]at h1;exact⟨h1.1.1.2,h1.2.2.1⟩
theorem ZGA{d:Dn}(h:Qf d=0):d.length≤32∧ ∀r∈d,Ju r=true:=by
 unfold Qf at h;split at h
 ·cases h
 ·split at h
  ·rename_i h2;exact⟨by omega,YK.1 h2⟩
  ·cases h
theorem ZWx{p:Av}(h:p.1.length≤64∧p.2.length≤256):(ZCD p).length≤840:=by
 have:=ZGO p.2 p.2.length;unfold ZCD ZLW;simp only[Zw,Jh,ξN];omega
theorem ZOE{r:List Av}(h:Ju r=true):(ZAt r).length≤6800:=by
 obtain⟨h1,-,h2⟩:=ZG5 h;have:=ZIg 43 840 (r.map ZCD) (fun x hx=>by obtain⟨p,hp,rfl⟩:=YQ.1 hx;exact ZWx (h2 p hp));rw[YL]at this;unfold ZAt;omega
theorem ZWV{d:Dn}(h:Qf d=0):(ZLT d).length≤250000:=by
 obtain⟨h1,h2⟩:=ZGA h;have:=ZIg 44 6800 (d.map ZAt) (fun x hx=>by obtain⟨r,hr,rfl⟩:=YQ.1 hx;exact ZOE (h2 r hr));rw[YL]at this;unfold ZLT;omega
def ZCr:Tabs:=Jp (ZU (ZU (ZU (ZS) 161 ZBe) 177 ZFi) 77 QF) 77 (QX QF)
theorem ZRI:SsOk Tryz.prog ZCr:=Yx (ZH (ZH (ZH (ZF) (Zc 161) ZMQ) (Zc 177) ZUA) ZCy ZEj) ZCy (ZCo ZEj)
theorem ZTv:(∀a,ZCr.q 161 a=ZBe a)∧(∀a,ZCr.q 177 a=ZFi a)∧(∀a,ZCr.q 77 a=QF a)∧(∀a o,ZCr.t 77 a o=Ye (QX QF) a o)∧(∀f a o,ZCr.r f a o=none)∧(∀f a o,ZCr.k f a o=none):=⟨fun _=>rfl,fun _=>rfl,fun _=>rfl,fun _ _=>rfl,fun _ _ _=>rfl,fun _ _ _=>rfl⟩
set_option maxHeartbeats 1000000 in
theorem ZaP(d:Dn)(hb:smD d):ZC Tryz.prog 144 [.x (.sl (rows Kc d))] (.tup [.x (.str (ZAE d).1),.x (.int .i64 (ZAE d).2)]):=by
 rcases hq:ZAE d with⟨u,e⟩
 unfold ZAE at hq;have hsd:decide (smD d)=true:=Zd hb;refine ZJ.pure (fC 144 true ?_) rfl;intro C0 E0;have uu:=Qy @ZBe.eq_1 @ZBe.eq_2 @ZFi.eq_1 @ZFi.eq_2 @QF.eq_1 @QF.eq_2 @ZRa @ZV0 (KE hsd @ZTv @QX.eq_1);have tT:=ZRI;refine nz ?_;refine WI.regB tT [0] ?_
 iterate 2 refine oS ?_
 refine oN ?_;refine nz ?_;refine WI.regB tT [0,4] ?_;refine oS ?_;refine oC (hok:=by first|exact se|(exact Zd (by omega))|(exact Zd (by simp;omega))|exact sd) ?_;refine oS ?_;refine oN ?_;refine nz ?_;refine WI.regB tT [0,4,15] ?_;refine oS ?_;refine oG (hok:=by first|exact se|(exact Zd (by omega))|(exact Zd (by simp;omega))|exact sd) ?_;refine oN ?_;refine nz ?_;refine cd (fun h0=> ?_) (fun h0=> ?_)
 ·refine WI.regB tT [2,3] ?_
  iterate 3 refine oS ?_
  refine oN ?_;refine nz ?_;refine lf ?_;rw[if_pos (by simpa using h0)]at hq;cases hq;rfl
 ·rw[if_neg (by simpa using h0)]at hq;have hck:Qf d=0:=by simpa using h0
  obtain⟨hd32,hmay⟩:=ZGA hck;refine WI.regB tT [0,5] ?_;refine oS ?_;refine oN ?_;refine nz ?_;refine WI.regB tT [5,17,18,19] ?_;refine oS ?_;refine oG (hok:=by first|exact se|(exact Zd (by omega))|(exact Zd (by simp;omega))|exact sd) ?_;refine oS ?_;refine oN ?_;refine nz ?_;refine WI.ownA 5 9 1 ?_;refine WI.loop (fun φ os=> ∃(j:Nat),φ= [(5,.ref 0 j 0 j),(17,.x (.sl (rows Kc d))),(18,.x (.int .i64 d.length)),(19,.x (.int .i64 j))]∧os= [.rows false 9 1 (rows ZB ((d.take j).map ZAt))]∧j≤d.length) (ZV d.length 19) ?_ (fun φ os hI=> ?_)
  ·exact⟨0,rfl,rfl,by omega⟩
  ·obtain⟨j,rfl,rfl,hj⟩:=hI;refine nz ?_;refine WI.regB tT [5,17,18,19,20] ?_;refine oG (hok:=by first|exact se|(exact Zd (by omega))|(exact Zd (by simp;omega))|exact sd) ?_;refine oN ?_;refine nz ?_;refine cd (fun h1=> ?_) (fun h1=> ?_)
   ·have hj4:j<d.length:=by omega
    have hmj:Ju (d.getD j [])=true:=by rw[show d.getD j []=d[j] by simp[hj4]];exact hmay _ (YY hj4)
    obtain⟨hr8,-,hpb⟩:=ZG5 hmj;have hpl:=ZOE hmj;have hst:(d.take (j+1)).map ZAt=(d.take j).map ZAt++ [ZAt (d.getD j [])]:=by rw[KT hj4,Jq,show d.getD j []=d[j] by simp[hj4]];rfl
    have hrow:=ZLu d j hj4;generalize d.getD j []=r at hmj hr8 hpb hpl hst hrow⊢;have uu:=Yq uu hrow;refine WI.regB tT [5,7,17,18,19] ?_
    iterate 2 refine oG (hok:=by first|exact se|(exact Zd (by omega))|(exact Zd (by simp;omega))|exact sd) ?_
    refine oS ?_;refine oN ?_;refine nz ?_;refine WI.regB tT [5,7,8,17,18,19] ?_;refine oS ?_;refine oN ?_;refine nz ?_;refine WI.regB tT [5,8,17,18,19,23,24,25] ?_;refine oS ?_;refine oG (hok:=by first|exact se|(exact Zd (by omega))|(exact Zd (by simp;omega))|exact sd) ?_;refine oS ?_;refine oN ?_;refine nz ?_;refine WI.ownA 8 9 1 ?_;refine WI.orderA [5,8,17,18,19,23,24,25] ?_;refine WI.loop (fun φ os=> ∃(k:Nat),φ= [(5,.ref 0 j 0 j),(8,.ref 1 k 0 k),(17,.x (.sl (rows Kc d))),(18,.x (.int .i64 d.length)),(19,.x (.int .i64 j)),(23,.x (.sl (rows Zz r))),(24,.x (.int .i64 r.length)),(25,.x (.int .i64 k))]∧os= [.rows false 9 1 (rows ZB ((d.take j).map ZAt)),.rows false 9 1 (rows ZB ((r.take k).map ZCD))]∧k≤r.length) (ZV r.length 25) ?_ (fun φ os hI=> ?_)
    ·exact⟨0,rfl,rfl,by omega⟩
    ·obtain⟨k,rfl,rfl,hk⟩:=hI;refine nz ?_;refine WI.regB tT [5,8,17,18,19,23,24,25,26] ?_;refine oG (hok:=by first|exact se|(exact Zd (by omega))|(exact Zd (by simp;omega))|exact sd) ?_;refine oN ?_;refine nz ?_;refine cd (fun h2=> ?_) (fun h2=> ?_)
     ·have hk4:k<r.length:=by omega
      have har:=ZK8 r k hk4;have hpk:(r.getD k ([],[])).1.length≤64∧(r.getD k ([],[])).2.length≤256:=by rw[show r.getD k ([],[])=r[k] by simp[hk4]];exact hpb _ (YY hk4)
      have hel:=ZGO (r.getD k ([],[])).2 (r.getD k ([],[])).2.length;have hel2:(ZLW (r.getD k ([],[])).2).length≤800:=by unfold ZLW;omega
      have hsk:(r.take (k+1)).map ZCD=(r.take k).map ZCD++ [ZCD (r.getD k ([],[]))]:=by rw[KT hk4,Jq,show r.getD k ([],[])=r[k] by simp[hk4]];rfl
      have hsc:decide ((r.getD k ([],[])).2.length≤1000000)=true:=Zd (by omega);have uu:=KE uu har hsc;refine WI.regB tT [5,8,10,17,18,19,23,24,25] ?_
      iterate 2 refine oG (hok:=by first|exact se|(exact Zd (by omega))|(exact Zd (by simp;omega))|exact sd) ?_
      refine oG ?_;refine oG (hok:=by first|exact se|(exact Zd (by omega))|(exact Zd (by simp;omega))|exact sd) ?_;refine oN ?_;refine nz ?_;refine WI.post ?_;refine WI.dregB tT [5,8,17,18,19,23,24,25] ?_
      iterate 2 refine Yo ?_
      refine dQG (hok:=by first|exact se|(exact Zd (by omega))|(exact Zd (by simp;omega))|exact sd) ?_;refine dFG (hok:=by first|exact se|(exact Zd (by omega))|(exact Zd (by simp;omega))|exact sd) ?_;refine Yo ?_;refine dQG (hok:=by first|exact se|(exact Zd (by omega))|(exact Zd (by simp;omega))|exact sd) ?_;refine dQC (hok:=by first|exact se|(exact Zd (by omega))|(exact Zd (by simp;omega))|exact sd) ?_;refine dFG (hok:=by first|exact se|(exact Zd (by omega))|(exact Zd (by simp;omega))|exact sd) ?_
      iterate 2 refine dAG (hok:=by first|exact se|(exact Zd (by omega))|(exact Zd (by simp;omega))|exact sd) ?_
      refine Yo ?_;refine dP ?_;refine QE [0,1] ?_;refine QW ?_;refine nz ?_;refine WI.regB tT [5,8,17,18,19,23,24,25] ?_;refine oG (hok:=by first|exact se|(exact Zd (by omega))|(exact Zd (by simp;omega))|exact sd) ?_;refine oS ?_;refine oN ?_;refine nz ?_;exact⟨⟨k+1,rfl,by rw[hsk,←ZKi];first|done|rfl,by omega⟩,by simp[ZV,Ab.get,D.val,ZG];omega⟩
     ·obtain rfl:k=r.length:=by omega
      rw[Km];have hjl:decide ((Lib.join (r.map ZCD) [43]).length≤140737488355328∧(r.map ZCD).length≤140737488355328)=true:=Zd ⟨by rw[ZBn];unfold ZAt at hpl;omega,by rw[YL];omega⟩;have e1:(r.map ZCD).length=r.length:=YL ..;have e2:(r.map ZCD).take r.length=r.map ZCD:=Yp (by omega);have e3:Lib.join (r.map ZCD) [43]=ZAt r:=ZBn 43 _;have uu:=ξ5 uu e1 e2 hjl e3;refine WI.post ?_;refine WI.regB tT [5,17,18,19] ?_
      iterate 2 refine oS ?_
      refine oC (hok:=by first|exact se|(exact Zd (by omega))|(exact Zd (by simp;omega))|exact sd) ?_
      iterate 2 refine oG (hok:=by first|exact se|(exact Zd (by omega))|(exact Zd (by simp;omega))|exact sd) ?_
      refine oS ?_;refine oP ?_;refine QE [0] ?_;refine QW ?_;refine nz ?_;refine WI.orderA [5,17,18,19] ?_;refine WI.regB tT [5,17,18,19] ?_;refine oG (hok:=by first|exact se|(exact Zd (by omega))|(exact Zd (by simp;omega))|exact sd) ?_;refine oS ?_;refine oN ?_;refine nz ?_;exact⟨⟨j+1,rfl,by rw[hst,←ZKi];first|done|rfl,by omega⟩,by simp[ZV,Ab.get,D.val,ZG];omega⟩
   ·obtain rfl:j=d.length:=by omega
    rw[Km];have hnl:=ZWV hck;have hjl:decide ((Lib.join (d.map ZAt) [44]).length≤140737488355328∧(d.map ZAt).length≤140737488355328)=true:=Zd ⟨by rw[ZBn];unfold ZLT at hnl;omega,by rw[YL];omega⟩;have e1:(d.map ZAt).length=d.length:=YL ..;have e2:(d.map ZAt).take d.length=d.map ZAt:=Yp (by omega);have e3:Lib.join (d.map ZAt) [44]=ZLT d:=ZBn 44 _;have uu:=ξ5 uu e1 e2 hjl e3;refine WI.regB tT [11] ?_;refine oS ?_;refine oC (hok:=by first|exact se|(exact Zd (by omega))|(exact Zd (by simp;omega))|exact sd) ?_;refine oS ?_;refine oN ?_;refine nz ?_;refine WI.regB tT [11,50] ?_;refine oS ?_
    iterate 2 refine oG (hok:=by first|exact se|(exact Zd (by omega))|(exact Zd (by simp;omega))|exact sd) ?_
    refine oN ?_;refine nz ?_;refine cd (fun h3=> ?_) (fun h3=> ?_)
    ·refine WI.regB tT [2,3] ?_
     iterate 2 refine oS ?_
     refine oN ?_;refine nz ?_;refine lf ?_;rw[if_pos (by omega)]at hq;cases hq;rfl
    ·refine WI.regB tT [2,3] ?_
     iterate 3 refine oS ?_
     refine oN ?_;refine nz ?_;refine lf ?_;rw[if_neg (by omega)]at hq;cases hq;rfl
def Kf:List D→Option (Bool×D)
 | [.x (.sl R)]=>(ZZ Kc R).bind fun d=>some (decide (smD d),.tup [.x (.str (ZAE d).1),.x (.int .i64 (ZAE d).2)])
 |_=>none
theorem ZEn: ∀args r,Kf args=some (true,r)→ZC Tryz.prog 144 args r:=by
 intro args r h;unfold Kf at h;split at h
 ·rename_i R;obtain⟨d,hr0,h⟩:=Zt h;simp only[Za,Zb,ZQ,Zg,true_and]at h;obtain⟨h1,rfl⟩:=h;rw[←ZY ZFA hr0];exact(ZaP d h1)
 ·cases h
end Go.Proofs.YtiogclkbccdefaaGreatDoor
end
section
namespace Go.Proofs
open Go.Shelf Go.RowKit Go.Lib Go.Sort
def encAv(x:ByteArray×ByteArray):List Value:= [.string x.1,.string x.2]
def cmpS(a b:ByteArray):Int:=if Op.bytesLess a.toList b.toList=true then-1 else if Op.bytesLess b.toList a.toList=true then 1 else 0
def cmpAv(x y:ByteArray×ByteArray):Int:=cmpS x.1 y.1
theorem ZW3(s:ByteArray)(W:World):Calls Tryz.prog 129 #[.string s] W fun e w'=>e= .returned (.bool false)∧w'=W:=by
 go_enter Tryz.func129,Tryz.ntmps129
 go_wp2
 go_ret
 exact⟨by simp,rfl⟩
theorem cmpS_c(a b:ByteArray)(W:World):Calls Tryz.prog 82 #[.string a,.string b] W fun e w'=>e= .returned (.int .i64 (cmpS a b))∧w'=W:=by
 go_enter Tryz.func82,Tryz.ntmps82
 go_wp2_with (go_at_call 129;refine(ZW3 _ _).mono ?_;rintro e w' ⟨rfl,hw⟩;rw[hw])
 all_goals(go_ret;refine⟨?_,rfl⟩;unfold cmpS;(repeat' split)<;>first|rfl|(exfalso;simp_all;done)|(exfalso;rcases YtiogclkbccdefaaGreatDoor.bl_tot a.toList b.toList (by simp_all)with hh|hh<;>simp_all))
theorem ltAv(x y:ByteArray×ByteArray):ltOf cmpAv x y=Op.bytesLess x.1.toList y.1.toList:=by
 unfold ltOf cmpAv cmpS;cases h:Op.bytesLess x.1.toList y.1.toList<;>cases h2:Op.bytesLess y.1.toList x.1.toList<;>simp
theorem swoAv:SWO (ltOf cmpAv) where
 irrefl x:=by rw[ltAv];exact YtiogclkbccdefaaGreatDoor.bl_irr _
 trans x y z h1 h2:=by rw[ltAv]at*;exact YtiogclkbccdefaaGreatDoor.bl_trans _ _ _ h1 h2
 ntrans x y z h1 h2:=by
  rw[ltAv]at*;cases h:Op.bytesLess x.1.toList z.1.toList with
  |false=>rfl
  |true=>
   by_cases e1:x.1.toList=y.1.toList
   ·rw[e1]at h;rw[h]at h2;cases h2
   ·rcases YtiogclkbccdefaaGreatDoor.bl_tot _ _ e1 with h3|h3
    ·rw[h3]at h1;cases h1
    ·have:=YtiogclkbccdefaaGreatDoor.bl_trans _ _ _ h3 h;rw[this]at h2;cases h2
theorem ZaE(x y:ByteArray×ByteArray)(W:World):Calls Tryz.prog 143 #[.agg #[.string x.1,.string x.2],.agg #[.string y.1,.string y.2]] W fun e w'=>e= .returned (.int .i64 (cmpAv x y))∧ ∃q os',w'=grow (W.drewN q) os':=by
 have hcon:=fun W'=>cmpS_c x.1 y.1 W'
 unfold cmpAv;generalize cmpS x.1 y.1=r at hcon⊢
 go_enter Tryz.func143,Tryz.ntmps143
 go_wp2_with (go_at_call 82;refine(hcon _).mono ?_;rintro e w' ⟨rfl,rfl⟩)
 go_ret
 exact⟨rfl,0,_,by rw[alloc_eq_grow,alloc_eq_grow,grow_grow];rfl⟩
theorem cmpLaysAv(blk off size:Nat)(w:World):CmpLays Tryz.prog 143 #[] encAv 2 cmpAv blk off size w:=fun _ _ _ _ x y=>ZaE x y _
theorem ZRv{α:Type}[Inhabited α](enc:α→List Value)(k:Nat){w:World}{g n:Nat}{os:Array Obj}{cur:Array Value}{e:TypeId}{fr:Nat×Nat}(d:Array α)(hb:w.heap[g]? =some (.cells cur e fr)):
  (sortWorldK enc k w g 0 n d os).heap[g]? =some (.cells (putCells id 0 (flatK enc k d) cur) e fr):=by
 have hg:g<w.heap.size:=(Qb hb).1;unfold sortWorldK putRowK;rw[heap_grow_old _ _ (by simpa using hg)];simp[putRow,mapBlock,Sort.ahead,ZLc,hb,onCells]
theorem grown_sortK{α:Type}[Inhabited α](enc:α→List Value)(k:Nat){w:World}{g n:Nat}{os:Array Obj}(d:Array α):w.grownBy (sortWorldK enc k w g 0 n d os) (some g):=by
 unfold sortWorldK putRowK;refine⟨rfl,rfl,rfl,by simp,fun k hk hne=> ?_⟩;rw[heap_grow_old _ _ (by simpa using hk)];have:g≠k:=fun e=>hne (by rw[e])
 simp[putRow,mapBlock,Sort.ahead,ZLc,this]
theorem ZTA(cur F:Array Value)(h:F.size≤cur.size):(putCells id 0 F cur).toList.take F.size=F.toList:=by
 apply ZBS;intro j;by_cases hj:j<F.size
 ·rw[List.getElem?_take_of_lt hj,QH,QH];simp[putCells,hj,show j<cur.size by omega]
 ·rw[List.getElem?_take_eq_none (by omega),ZCV (by simp;omega)]
theorem own_sortK{α:Type}[Inhabited α](enc:α→List Value)(k:Nat){w:World}{g n cap:Nat}{e:TypeId}{os:Array Obj}{cur:Array Value}{d:Array α}{m:Nat}(hm:d.size=m)(hb:w.heap[g]? =some (.cells cur e (0,0)))(h1:m≤cap)(h2:cap≤maxLen)(h3:cur.size=cap*k):
  (sortWorldK enc k w g 0 n d os).ownsRow 0 e k (.slice (some ⟨g,0,none⟩) m cap) m (flatK enc k d).toList:=by
 subst hm;have hle:d.size*k≤cap*k:=Jg _ h1;exact⟨by simp,.inr ⟨g,cap,_,rfl,JA _,ZRv enc k d hb,h1,h2,by simp[putCells,h3],by
  have:=ZTA cur (flatK enc k d) (by simp;omega);rwa [size_flatK]at this⟩⟩
end Go.Proofs
end
section
namespace Go.Proofs.YtiogclkbccdefaaGreatDoor
open Go.RowKit Go.Bo Go.Ab
def ZH8(p:Av):List Av→List Av
 | []=> [p]
 |q::o=>if Op.bytesLess q.1 p.1=true then q::ZH8 p o else p::q::o
def ZA1(r:List Av):List Av:=r.foldl (fun o p=>ZH8 p o) []
theorem ZIB(p:Av): ∀o,(ZH8 p o).Perm (p::o)
 | []=>ZM9 _
 |q::o=>by
  unfold ZH8;split
  ·exact((ZIB p o).cons q).trans (List.Perm.swap p q o)
  ·exact ZM9 _
theorem ZKp: ∀(r o:List Av),(r.foldl (fun o p=>ZH8 p o) o).Perm (r++o)
 | [],o=>ZM9 _
 |p::r,o=>by
  rw[ZLf];exact(ZKp r _).trans (((ZIB p o).append_left r).trans List.perm_middle)
theorem ZEy(r:List Av):(ZA1 r).Perm r:=by have:=ZKp r [];rwa [KS]at this
theorem ZJX(r:List Av):(ZA1 r).length=r.length:=(ZEy r).length_eq
theorem ZTM(a b c:Tx)(h1:Op.bytesLess a b=false)(h2:Op.bytesLess b c=false):Op.bytesLess a c=false:=by
 cases h:Op.bytesLess a c with
 |false=>rfl
 |true=>
  by_cases e1:a=b
  ·subst e1;rw[h]at h2;cases h2
  ·rcases bl_tot _ _ e1 with h3|h3
   ·rw[h3]at h1;cases h1
   ·have:=bl_trans _ _ _ h3 h;rw[this]at h2;cases h2
abbrev SrA(l:List Av):Prop:=l.Pairwise fun a b=>Op.bytesLess b.1 a.1=false
theorem ZJA(p:Av): ∀o,SrA o→SrA (ZH8 p o)
 | [],_=>List.pairwise_singleton _ _
 |q::o,h=>by
  obtain⟨h1,h2⟩:=ZUz.1 h;unfold ZH8;split
  ·rename_i hl;refine ZUz.2 ⟨fun x hx=> ?_,ZJA p o h2⟩;rcases QI.1 ((ZIB p o).mem_iff.1 hx)with rfl|hx
   ·exact ZQc _ _ hl
   ·exact h1 x hx
  ·rename_i hl;have hl:Op.bytesLess q.1 p.1=false:=by simpa using hl
   refine ZUz.2 ⟨fun x hx=> ?_,h⟩;rcases QI.1 hx with rfl|hx
   ·exact hl
   ·exact ZTM _ _ _ (h1 x hx) hl
theorem ZHk: ∀(r o:List Av),SrA o→SrA (r.foldl (fun o p=>ZH8 p o) o)
 | [],o,h=>h
 |p::r,o,h=>by rw[ZLf];exact ZHk r _ (ZJA p o h)
theorem ZPV(r:List Av):SrA (ZA1 r):=ZHk r [] List.Pairwise.nil
theorem ZZB{r l:List Av}(hp:l.Perm r)(hs:SrA l)(hn:(r.map (·.1)).Nodup):l=ZA1 r:=by
 refine List.Perm.eq_of_pairwise (le:=fun a b=>Op.bytesLess b.1 a.1=false) (fun a b ha hb h1 h2=> ?_) hs (ZPV r) (hp.trans (ZEy r).symm);have ha':=hp.mem_iff.1 ha;have hb':=(ZEy r).mem_iff.1 hb;have he:a.1=b.1:=ZSD fun hne=>by
  rcases bl_tot _ _ hne with h|h
  ·rw[h]at h2;cases h2
  ·rw[h]at h1;cases h1
 obtain⟨i,hi,rfl⟩:=ZR1 ha';obtain⟨j,hj,rfl⟩:=ZR1 hb';have key: ∀(i j:Nat) (hi:i<r.length) (hj:j<r.length),i<j→r[i].1≠r[j].1:=fun i j hi hj hij=>by
  have:=ZJl.1 hn i j (by simpa using hi) (by simpa using hj) hij;simpa using this
 have:i=j:=by
  rcases Nat.lt_trichotomy i j with h|h|h
  ·exact absurd he (key i j hi hj h)
  ·exact h
  ·exact absurd he.symm (key j i hj hi h)
 subst this;rfl
def bsA(p:Av):ByteArray×ByteArray:=(ZK p.1,ZK p.2)
theorem ZaD(x:ByteArray×ByteArray):bsA (x.1.toList,x.2.toList)=x:=by
 have key: ∀b:ByteArray,ZK b.toList=b:=fun b=>by
  unfold ZK;rw[ByteArray.toList_eq]
 unfold bsA;rw[key,key]
theorem ZZG(r:List Av)(hn:(r.map (·.1)).Nodup)(d':Array (ByteArray×ByteArray))(hp:Sort.PermIn 0 r.length (r.map bsA).toArray d')(hs:Sort.SortedIn (Go.Proofs.ltOf Go.Proofs.cmpAv) 0 r.length d'):d'=((ZA1 r).map bsA).toArray:=by
 obtain⟨hsz,-,hpm⟩:=hp;have hsz':d'.size=r.length:=by rw[hsz];simp
 have hex:(d'.extract 0 r.length).toList=d'.toList:=by rw[←hsz'];simp
 have hex2:((r.map bsA).toArray.extract 0 r.length).toList=r.map bsA:=by simp[Yp]
 rw[hex,hex2]at hpm;have hl:d'.toList=(d'.toList.map fun x=>(x.1.toList,x.2.toList)).map bsA:=by
  rw[KP]
  conv=>lhs;rw[←ZLK d'.toList]
  exact ZBY fun x _=>(ZaD x).symm
 have hperm:(d'.toList.map fun x=>(x.1.toList,x.2.toList)).Perm r:=by
  have:=hpm.map fun x:ByteArray×ByteArray=>(x.1.toList,x.2.toList)
  rw[KP]at this;have e:(r.map ((fun x:ByteArray×ByteArray=>(x.1.toList,x.2.toList))∘bsA))=r:=by
   conv=>rhs;rw[←ZLK r]
   exact ZBY fun p _=>by simp[bsA,JJ]
  rwa [e]at this
 have hsr:SrA (d'.toList.map fun x=>(x.1.toList,x.2.toList)):=by
  show List.Pairwise _ _;rw[List.pairwise_map,ZJl];intro i j hi hj hij;have:=hs i j (JA _) hij (by rw[←hsz'];simpa using hj);rw[Go.Proofs.ltAv]at this;simp at hi hj;simp only[getElem!_pos d' i hi,getElem!_pos d' j hj]at this;simpa using this
 apply ZBo.1;rw[hl,ZZB hperm hsr hn]
theorem ZP6(r:List Av)(i:Nat)(hi:i<r.length):(Go.Sort.flatK Go.Proofs.encAv 2 (r.map bsA).toArray).toList[i*2]? =some (Value.string (ZK r[i].1))∧(Go.Sort.flatK Go.Proofs.encAv 2 (r.map bsA).toArray).toList[i*2+1]? =some (Value.string (ZK r[i].2)):=by
 have e1:i*2/2=i:=by omega
 have e2:(i*2+1)/2=i:=by omega
 have e3:i*2 % 2=0:=by omega
 have e4:(i*2+1) % 2=1:=by omega
 have hg:(r.map bsA)[i]! =bsA r[i]:=by rw[getElem!_pos _ i (by simpa using hi)];simp
 constructor
 ·simp[Go.Sort.flatK,show i*2<r.length*2 by omega,e1,e3,hg,Go.Proofs.encAv,bsA,hi]
 ·simp[Go.Sort.flatK,show i*2+1<r.length*2 by omega,e2,e4,hg,Go.Proofs.encAv,bsA,hi]
set_option maxHeartbeats 1000000 in
theorem Zax(e:Nat)(r:List Av)(hn:(r.map (·.1)).Nodup)(hne:r≠ [])(hl:r.length≤1000000)(lim:Nat)(hlim:lim≤64):ZN Tryz.prog 175 [.ref 0 r.length 0 r.length,.x (.int .i64 0),.x (.int .i64 r.length),.x (.int .i64 lim),.fn 143 []] [.rows false e 2 (rows Zz r)] (.tup []) [.rows false e 2 (rows Zz (ZA1 r))]:=by
 intro c E vs R hvl;obtain⟨hsz,hv⟩:=hvl;obtain⟨v0,v1,v2,v3,v4,rfl⟩: ∃v0 v1 v2 v3 v4,vs= #[v0,v1,v2,v3,v4]:=by
  obtain⟨vl⟩:=vs
  match vl,hsz with
  | [a,b,c,d,e],_=>exact⟨a,b,c,d,e,rfl⟩
 have h0:=hv 0 _ v0 rfl rfl;have h1:=hv 1 _ v1 rfl rfl;have h2:=hv 2 _ v2 rfl rfl;have h3:=hv 3 _ v3 rfl rfl;have h4:=hv 4 _ v4 rfl rfl;clear hv hsz;obtain rfl:v1= .int .i64 0:=by cases h1 with|x h=>cases h;rfl
 obtain rfl:v2= .int .i64 r.length:=by cases h2 with|x h=>cases h;rfl
 obtain rfl:v3= .int .i64 lim:=by cases h3 with|x h=>cases h;rfl
 obtain rfl:v4= .func (.func 143) #[] #[]:=by
  cases h4 with
  |fn vs hl _=>rw[show vs= #[]from ZZp hl.symm]
 clear h1 h2 h3 h4;have hlen:(rows Zz r).length=r.length:=YC _ _;cases h0 with
 |ref hr _=>
  have ho: [Ob.rows false e 2 (rows Zz r)][0]? =some (Ob.rows false e 2 (rows Zz r)):=rfl;obtain⟨k1,k2⟩:=hr.at ho rfl;obtain⟨k3,b,a,cap,a',cap',k4,rfl,k6,k7,k8,k9,k10,k11⟩:=k2 hlen;obtain⟨rfl,rfl⟩:=k8 rfl;obtain⟨p,hp,hok⟩:=R.at ho;rw[hp]at k4;have hpb:p=(b,.slice a' r.length cap'):=ZAb k4;subst hpb;have hpos:0<r.length:=ZOh.2 hne;obtain⟨xs,⟨q1,q2⟩,q3,q4⟩:=hok;rcases q2 with⟨q2,q5⟩|⟨g,cp,cells,fr,q5,q6,q7,q8,q9,q10,q11⟩
  ·rw[hlen]at q5;omega
  ·simp only[Value.slice.injEq]at q5;obtain⟨rfl,_,rfl⟩:=q5;rw[hlen]at q10 q7 q1;have hfr:fr=(0,0):=by
    rcases q11 with q11|⟨q11,_⟩
    ·exact q11
    ·cases q11
   subst hfr;have hxs:xs=(Go.Sort.flatK Go.Proofs.encAv 2 (r.map bsA).toArray).toList:=by
    apply List.ext_getElem (by rw[q1];simp);intro t ht ht2;have htr:t/2<r.length:=by rw[q1]at ht;omega
    obtain⟨f1,f2⟩:=ZP6 r (t/2) htr;have hrw:(rows Zz r)[t/2]? =some [X.str r[t/2].1,X.str r[t/2].2]:=by simp[rows,htr,Zz]
    apply ZAb;rw[←Zl ht2];rcases Nat.mod_two_eq_zero_or_one t with hm|hm
    ·have et:t/2*2=t:=by omega
     rw[et]at f1;rw[f1];have:=q4 (t/2) _ 0 (.str r[t/2].1) xs[t] hrw rfl (by rw[Jf,et];exact Zl ht);generalize xs[t]=u at this⊢;cases this;rfl
    ·have et:t/2*2+1=t:=by omega
     rw[et]at f2;rw[f2];have:=q4 (t/2) _ 1 (.str r[t/2].2) xs[t] hrw rfl (by rw[et];exact Zl ht);generalize xs[t]=u at this⊢;cases this;rfl
   have hglt:=(Qb q6).1;have hds:(r.map bsA).toArray.size=r.length:=by simp
   have hH:Go.Sort.HoldsK Go.Proofs.encAv 2 E.w g 0 (r.map bsA).toArray:=by
    intro j hj;rw[Go.Sort.size_flatK,hds]at hj;have hjx:cells.toList[j]? =xs[j]? :=by rw[←q10,List.getElem?_take_of_lt hj]
    refine⟨?_,by simp[World.frozen?,q6]⟩;simp only[World.cell?,q6,Option.isSome_none,Yz,if_false,Yi];rw[←QH,hjx,hxs,QH];have hjs:j<(Go.Sort.flatK Go.Proofs.encAv 2 (r.map bsA).toArray).size:=by rw[Go.Sort.size_flatK,hds];exact hj
    rw[ξJ hjs,getElem!_pos _ j hjs];rfl
   have eg: ∀args w,(callFunc 143 args).run Tryz.prog w= .ok (.enter 143 args) w:=Go.Proofs.enters_of Tryz.func143 (by kernel_rfl) rfl;have hk2: ∀x,(Go.Proofs.encAv x).length=2:=fun _=>rfl
   have h11: ∀x,∀v∈Go.Proofs.encAv x,v.oneCell'=true:=fun x v hv=>by simp[Go.Proofs.encAv]at hv;rcases hv with rfl|rfl<;>rfl
   have:=Go.Proofs.AnyQ.pdqsortCmpFunc_all Tryz.pdqAva 2 (by exact Tryz.isAgg188) (by exact Tryz.sizeOf188) Go.Proofs.encAv Go.Proofs.cmpAv 143 #[] Go.Proofs.swoAv g 0 cap' (r.map bsA).toArray E.w eg (Go.Proofs.cmpLaysAv g 0 _ E.w) ⟨hk2,h11,hH,hglt⟩ (r.length+1) 0 r.length lim (r.map bsA).toArray E.w (by omega) rfl (Go.Proofs.SWK.start hH) (JA _) (by rw[hds];exact Zh _) (by rw[hds];omega) (by omega) (Or.inl rfl);rw[hds]at this;refine this.mono ?_;rintro _ w' ⟨rfl,nn,oss,rfl⟩;have hps:=Go.Sort.pdq_sorts (Go.Proofs.ltOf Go.Proofs.cmpAv) Go.Proofs.swoAv (r.map bsA).toArray 0 r.length lim true true (JA _) (by rw[hds];exact Zh _) (Or.inl rfl);have hd':=ZZG r hn _ hps.1 hps.2;rw[hd'];have hown:=Go.Proofs.own_sortK (n:=nn) (os:=oss) Go.Proofs.encAv 2 (d:=((ZA1 r).map bsA).toArray) (m:=r.length) (by simp[ZJX]) q6 q7 q8 q9;have hg:=Go.Proofs.grown_sortK (n:=nn) (os:=oss) (w:=E.w) (g:=g) Go.Proofs.encAv 2 ((ZA1 r).map bsA).toArray;have hls:(rows Zz (ZA1 r)).length=r.length:=by rw[YC,ZJX]
   obtain⟨R',ev⟩:=R.set ho hp _ (.rows false e 2 (rows Zz (ZA1 r))) (b,.slice (some ⟨g,0,none⟩) r.length cap') ⟨hg.os,hg.tape,hg.output,hg.size,fun k hk hm=>hg.block k hk (fun e=>hm (by cases e;rfl))⟩ (fun b' hb'=> .inl hb') (fun sz rs1 h=>by
     simp only[Ob.sl?,Za,Zb]at h;obtain⟨rfl,rfl⟩:=h;exact⟨(rows Zz (ZA1 r)).length,rfl,.inl ⟨by rw[hls,hlen],rfl⟩⟩) (fun k h=>by cases h) (fun ev=>by
     refine⟨_,by rw[hls];exact Je.of_owns hown false,fun z hz=> ?_,fun i z j x v h1 h2 h3=> ?_⟩
     ·obtain⟨q,_,rfl⟩:=YQ.1 hz;rfl
     ·unfold rows at h1;rw[Zr]at h1;obtain⟨q,hq,rfl⟩:=ZT h1;have hi:=(ZP hq).1;obtain⟨f1,f2⟩:=ZP6 (ZA1 r) i hi;have hqe:(ZA1 r)[i]=q:=(ZP hq).2;rw[hqe]at f1 f2
      match j with
      |0=>
       simp only[Zz,ZBb,Za]at h2;subst h2;rw[Jf,f1]at h3;cases h3;exact .str _
      |1=>
       simp only[Zz,ZBb,ξZ,Za]at h2;subst h2;rw[f2]at h3;cases h3;exact .str _
      |j+2=>simp[Zz]at h2)
   exact⟨_,_,rfl,rfl,R',ev,.tup #[] rfl (fun j d v h=>by simp at h)⟩
end Go.Proofs.YtiogclkbccdefaaGreatDoor
end
section
namespace Go.Proofs.YtiogclkbccdefaaGreatDoor
open Go.RowKit Go.Bo Go.Ab
theorem ZUS(n:Nat)(h:n≤1000000):ZC Tryz.prog 176 [.x (.int .u64 n)] (.x (.int .i64 (Lib.bitLen n))):=by
 intro w st vs hst hvl;obtain⟨hsz,hv⟩:=hvl;obtain⟨v0,rfl⟩: ∃v0,vs= #[v0]:=by
  obtain⟨vl⟩:=vs
  match vl,hsz with
  | [a],_=>exact⟨a,rfl⟩
 have h0:=hv 0 _ v0 rfl rfl;obtain rfl:v0= .int .u64 n:=by cases h0 with|x h=>cases h;rfl
 have:=Tryz.bits_Len (n:Int) w (by omega) (by omega);rw[ZHm]at this;refine this.mono ?_;rintro e w' ⟨rfl,rfl⟩;exact⟨_,st,rfl,Kept.refl _ _,fun _ _ h=>h,fun _ _ h=> .inl h,.x (.int _ _)⟩
def ZEC:List D→Option (Bool×D)
 | [.x (.int .u64 n)]=>some (decide (0≤n∧n≤1000000),.x (.int .i64 (Lib.bitLen n.toNat)))
 |_=>none
theorem ZPb: ∀args r,ZEC args=some (true,r)→ZC Tryz.prog 176 args r:=by
 intro args r h;unfold ZEC at h;split at h
 ·rename_i n;simp only[Za,Zb,ZQ,Zg,true_and]at h;obtain⟨h1,rfl⟩:=h;exact(by obtain⟨m,rfl⟩: ∃m:Nat,n=m:=⟨n.toNat,by omega⟩;rw[ZHm];exact ZUS m (by omega))
 ·cases h
def ZX6:Tabs:=ZU (ZS) 176 ZEC
theorem ZRr:SsOk Tryz.prog ZX6:=ZH (ZF) (Zc 176) ZPb
theorem ZRH:Enters Tryz.prog 175:=Zc 175
theorem ZXY(e:Nat)(r:List Av)(hn:(r.map (·.1)).Nodup)(hne:r≠ [])(hl:r.length≤1000000):ZN Tryz.prog 142 [.ref 0 r.length 0 r.length,.fn 143 []] [.rows false e 2 (rows Zz r)] (.tup []) [.rows false e 2 (rows Zz (ZA1 r))]:=by
 have hbl:Lib.bitLen r.length≤62:=Lib.bitLen_le r.length 62 (by omega) (by omega);have hw:IntKind.u64.wrap (r.length:Int)=r.length:=by simp[IntKind.wrap,IntKind.bits,IntKind.signed];omega
 have hc:=Zax e r hn hne hl (Lib.bitLen r.length) (by omega);have hdd:decide (0≤(r.length:Int)∧(r.length:Int)≤1000000)=true:=Zd (by omega);refine ZJ.mcalls (fC 142 true ?_);intro C0 E0;have uu:=ξ8 @ZEC.eq_1 @ZEC.eq_2 hw hdd @ZIk @ZIs @ZIw @ZIh;have tT:=(ZDH ZRr ZRH hc);refine nz ?_;refine rg tT [0,1,4] ?_;refine WI.regB tT [] ?_
 iterate 3 refine oS ?_
 refine oG ?_;refine oC ?_;refine oS ?_;refine oC ?_;refine osN ?_
 first|refine lfN ?_|refine Zbi ?_|refine Zbf ?_
 exact⟨rfl,rfl⟩
theorem ZNz:Enters Tryz.prog 142:=Zc 142
def ZCn(p:Av):Av:=(ZE p.1,fld p.2)
def Qi(r:List Av):List Av:=ZA1 (r.map ZCn)
def ZCU(r:List Av):Bool:=r.all fun p=> !(fld p.2== [])
def JU(s:Tx):Tx×Int:=if(Yw s).2≠0 then([],(Yw s).2)else if(Yw s).1.all ZCU=true then ZAE ((Yw s).1.map Qi)else([],5)
theorem ZMk(r:List Av): ∀n,n≤r.length→okP r n=true→(ZAi (r.take n)).Nodup
 |0,_,_=>by simp[ZAi]
 |n+1,hn,h=>by
  rw[okP,ZQ]at h;have ih:=ZMk r n (by omega) h.1;have h2:=h.2;unfold ZAm at h2;simp only[ZQ,ZGd,decide_eq_false_iff_not]at h2;have hg:r.getD n ([],[])=r[n]:=by simp[show n<r.length by omega]
  rw[hg]at h2;unfold ZAi at ih h2⊢;rw[KT (by omega),Jq,ZGv];refine⟨ih,by simp,fun a ha b hb=> ?_⟩;simp only[Yc,ZBU,ZCC]at hb;subst hb;rintro rfl;exact h2.2.2.2 ha
theorem ZUV{r:List Av}(h:Ju r=true):((r.map ZCn).map (·.1)).Nodup:=by
 unfold Ju at h;rw[ZQ]at h;have:=ZMk r r.length (Zh _) h.1;rw[Km]at this;rw[KP];exact this
theorem ZVo(r:List Av):(Qi r).length=r.length:=by unfold Qi;rw[ZJX,YL]
def Qm(r:List Av)(k:Nat):List Av:=(r.take k).map ZCn++r.drop k
theorem ZOd(r:List Av)(k:Nat):(Qm r k).length=r.length:=by unfold Qm;simp;omega
theorem ZYC(r:List Av)(k:Nat)(h:k<r.length):(rows Zz (Qm r k))[k]? =some [X.str (r.getD k ([],[])).1,X.str (r.getD k ([],[])).2]:=by
 have e:(Qm r k)[k]? =some (r.getD k ([],[])):=by
  unfold Qm;rw[KR (by simp;omega)];simp[h,ZOR (Nat.le_of_lt h)]
 unfold rows;rw[Zr,e];rfl
theorem ZUs(r:List Av)(k:Nat)(h:k<r.length):(rows Zz (Qm r (k+1)))[k]? =some [X.str (ZE (r.getD k ([],[])).1),X.str (fld (r.getD k ([],[])).2)]:=by
 have e:(Qm r (k+1))[k]? =some (ZCn (r.getD k ([],[]))):=by
  unfold Qm;rw[Ya (by simp;omega),Zr,Yy,if_pos (by omega)];simp[h]
 unfold rows;rw[Zr,e];rfl
theorem ZWy(r:List Av)(k:Nat)(h:k<r.length):(rows Zz (Qm r k)).set k [X.str (ZE (r.getD k ([],[])).1),X.str (fld (r.getD k ([],[])).2)]=rows Zz (Qm r (k+1)):=by
 have e:(Qm r k).set k (ZCn (r.getD k ([],[])))=Qm r (k+1):=by
  unfold Qm;rw[ZIA _ _ (by simp;omega),KT h,Jq];have h1:k-((r.take k).map ZCn).length=0:=by simp;omega
  rw[h1,ZEc h,ZCJ,KJ];simp[h]
 rw[←e];unfold rows;rw[ZJn];rfl
theorem ZU9(r:List Av):Qm r r.length=r.map ZCn:=by unfold Qm;simp
theorem ZTG(r:List Av):Qm r 0=r:=by unfold Qm;simp
def ZBW(d:Dn)(j:Nat):Dn:=(d.take j).map Qi++d.drop j
theorem ZVC(d:Dn)(j:Nat):(ZBW d j).length=d.length:=by unfold ZBW;simp;omega
theorem ZXv(d:Dn)(j:Nat)(h:j<d.length):(ZBW d j).getD j []=d.getD j []:=by
 unfold ZBW;rw[ZGu,KR (by simp;omega)];simp[h,ZOR (Nat.le_of_lt h)]
theorem ZWE(d:Dn)(j:Nat)(h:j<d.length):(ZBW d j).set j (Qi (d.getD j []))=ZBW d (j+1):=by
 unfold ZBW;rw[ZIA _ _ (by simp;omega),KT h,Jq];have h1:j-((d.take j).map Qi).length=0:=by simp;omega
 rw[h1,ZEc h,ZCJ,KJ];simp[h]
theorem ZVW(d:Dn):ZBW d d.length=d.map Qi:=by unfold ZBW;simp
theorem ZTS(d:Dn):ZBW d 0=d:=by unfold ZBW;simp
end Go.Proofs.YtiogclkbccdefaaGreatDoor
end
section
namespace Go.Proofs.YtiogclkbccdefaaGreatDoor
open Go.RowKit Go.Bo Go.Ab
def ZFj:List D→Option (Bool×D)
 | [.x (.str s)]=>some (decide (s.length≤1000000),.x (.str (fld s)))
 |_=>none
theorem ZSP: ∀args r,ZFj args=some (true,r)→ZC Tryz.prog 141 args r:=by
 intro args r h;unfold ZFj at h;split at h
 ·rename_i s;simp only[Za,Zb,ZQ,Zg,true_and]at h;obtain⟨h1,rfl⟩:=h;exact(ZZR s h1)
 ·cases h
theorem ZPe:Enters Tryz.prog 121:=Zc 121
def ZEP:Tabs:=Jp (ZU (ZU (ZU (ZS) 63 Jy) 141 ZFj) 144 Kf) 144 (QX Kf)
theorem JT:SsOk Tryz.prog ZEP:=Yx (ZH (ZH (ZH (ZF) (Zc 63) ZGM) (Zc 141) ZSP) (Zc 144) ZEn) (Zc 144) (ZCo ZEn)
theorem ZVT:(∀a,ZEP.q 63 a=Jy a)∧(∀a,ZEP.q 141 a=ZFj a)∧(∀a,ZEP.q 144 a=Kf a)∧(∀a o,ZEP.t 144 a o=Ye (QX Kf) a o)∧(∀f a o,ZEP.r f a o=none)∧(∀f a o,ZEP.k f a o=none):=⟨fun _=>rfl,fun _=>rfl,fun _=>rfl,fun _ _=>rfl,fun _ _ _=>rfl,fun _ _ _=>rfl⟩
def FZ(d:Dn):List Ob:=ZDY 2 (d.map (rows Zz))
theorem Zam(d:Dn):(FZ d).length=d.length:=by unfold FZ;rw[ZEN,YL]
theorem ZYK(d:Dn):frzL (List.range' 1 d.length) (obD d)= .drw 154 1 (RF d)::FZ d:=by
 have h:=ZQk (.drw 154 1 (RF d)) 188 2 (d.map (rows Zz)) [];rw[YL]at h;exact h
theorem ZYA(d:Dn):ZBT [0] (.drw 154 1 (RF d)::FZ d)= [.drw 154 1 (JM (rows Kc d))]:=by
 have h3:=ZXX 154 2 (d.map (rows Zz));have h4:((d.map (rows Zz)).map fun rs=> [X.sl rs])=rows Kc d:=by rw[KP];rfl
 rw[h4]at h3;exact h3
set_option maxHeartbeats 4000000 in
theorem ZYY(s:Tx)(d:Dn)(hq:Yw s=(d,0))(hne:s≠ []):ZC Tryz.prog 96 [.x (.str s)] (.tup [.x (.str (JU s).1),.x (.int .i64 (JU s).2)]):=by
 obtain⟨hs4,-,hd0,-,hck⟩:=ZJ9 s d hq hne;have hsm:smD d:=by
  have:=ZGl s (by omega);unfold ZBJ ZC3 at this;rw[KP]at this;rw[hd0];exact this
 obtain⟨hd32,hmay⟩:=ZGA hck;have hn:JU s=if d.all ZCU=true then ZAE (d.map Qi)else([],5):=by
  unfold JU;rw[hq];simp
 have hread:=ZY4 s d hq hne;clear hq hne hs4 hd0 hck;rcases hu:JU s with⟨u,e⟩
 rw[hn]at hu;clear hn;refine ZJ.pure (fC 96 true ?_) rfl;intro C0 E0;have uu:=Qy @Jy.eq_1 @Jy.eq_2 @ZFj.eq_1 @ZFj.eq_2 @Kf.eq_1 @Kf.eq_2 @ZIk @ZIs (ξ4 @ZIw @ZIh @ZVT @QX.eq_1);refine WI.seq ?_;refine WI.regB JT [0] ?_
 iterate 2 refine oS ?_
 refine oN ?_;refine ZD ?_;refine WI.seq ?_;refine WI.regB (ZDH ZF ZPe hread) [4,5] ?_;refine oS ?_;refine oC ?_;refine oS ?_
 iterate 2 refine oG ?_
 iterate 2 refine oS ?_
 refine oN ?_;refine ZD ?_;refine WI.seq ?_;refine WI.seq ?_;refine WI.regB JT [4,5,16] ?_;refine oS ?_;refine oG ?_;refine oN ?_;refine ZD ?_;refine WI.cond (b:=_) rfl rfl (fun h0=> ?_) (fun h0=> ?_)
 ·exfalso;simp at h0
 ·try simp only[zB]at h0
  refine WI.skip ?_;refine ZD ?_;refine WI.seq ?_;refine WI.seq ?_;have uu:=Yq uu (ZKH d);refine WI.regB JT [4,18,19,20] ?_;refine oS ?_;refine oG ?_;refine oS ?_;refine oN ?_;refine ZD ?_;refine WI.block ?_;refine WI.loop (fun φ os=> ∃(j:Nat) (M:Dn),φ= [(4,.ref 0 d.length 0 d.length),(18,.ref 0 d.length 0 d.length),(19,.x (.int .i64 d.length)),(20,.x (.int .i64 j))]∧os=obD M∧j≤d.length∧M=ZBW d j∧(d.take j).all ZCU=true) (ZV d.length 20) ?_ (fun φ os hI=> ?_)
  ·exact⟨0,d,rfl,rfl,by omega,(ZTS d).symm,rfl⟩
  ·obtain⟨j,M,rfl,rfl,hj,hM,hall⟩:=hI;have hMl:M.length=d.length:=by rw[hM,ZVC]
   have hRl:=ZKH M;have hFl:=ZHc M;rw[hMl]at hRl hFl;refine WI.seq ?_;refine WI.regB JT [4,18,19,20,21] ?_;refine oG ?_;refine oN ?_;refine ZD ?_;refine WI.seq ?_;refine WI.cond (b:=_) rfl rfl (fun h1=> ?_) (fun h1=> ?_)
   ·try simp only[zB]at h1
    refine WI.skip ?_;refine ZD ?_;refine WI.seq ?_;refine WI.block ?_;refine WI.seq ?_;have hj4:j<d.length:=by omega
    have hMj:M.getD j []=d.getD j []:=by rw[hM];exact ZXv d j hj4
    have hrf:=ZT5 M j (by omega);have hfm:=ZIc M j (by omega);rw[hMj]at hrf hfm;have hdj:d[j]=d.getD j []:=by simp[hj4]
    have hmr:Ju (d.getD j [])=true:=by rw[←hdj];exact hmay _ (YY hj4)
    have hM2:ZBW d (j+1)=M.set j (Qi (d.getD j [])):=by rw[hM];exact(ZWE d j hj4).symm
    have hM0:M=M.set j (Qm (d.getD j []) 0):=by rw[ZTG,←hMj];exact(ZMF M j).symm
    have hall3:(d.take (j+1)).all ZCU=((d.take j).all ZCU&&ZCU (d.getD j [])):=by rw[Jx _ d j hj4,hdj]
    have hnf:ZCU (d.getD j [])=false→d.all ZCU=false:=fun h=>YH ZCU d j hj4 (by rw[hdj];exact h)
    generalize hr:d.getD j []=r at hMj hrf hfm hmr hM2 hM0 hall3 hnf;obtain⟨hr8,hr1,hpb⟩:=ZG5 hmr;have uu:=ξ4 uu hrf hfm hRl;refine WI.regB JT [4,7,18,19,20] ?_
    iterate 2 refine oG ?_
    refine oS ?_;refine oN ?_;refine ZD ?_;refine WI.seq ?_;refine WI.seq ?_;refine WI.regB JT [4,7,18,19,20,24,25,26] ?_;refine oS ?_;refine oG ?_;refine oS ?_;refine oN ?_;refine ZD ?_;refine WI.block ?_;refine WI.orderA [4,7,18,19,20,24,25,26] ?_;have hFs: ∀x:List Av,(FM (M.set j x)).length=d.length:=fun x=>by rw[ZHc,ZGg,hMl]
    have hFb: ∀(x:List Av) (y:Ob),(FM (M.set j x)++ [y])[d.length]? =some y:=fun x y=>by rw[KR (by rw[hFs];exact Zh _),hFs,ZGw];rfl
    have hFc: ∀(x:List Av) (y z:Ob),(FM (M.set j x)++ [y]).set d.length z=FM (M.set j x)++ [z]:=fun x y z=>by rw[ZIA _ _ (by rw[hFs];exact Zh _),hFs,ZGw];rfl
    have hFg: ∀(x:List Av) (Y:List Ob),(FM (M.set j x)++Y)[j]? =some (.rows false 188 2 (rows Zz x)):=fun x Y=>by rw[ZTX _ _ j (by rw[ZGg];omega),show(M.set j x).getD j []=x by simp[hMl,hj4]]
    have hFg': ∀(x:List Av),(FM (M.set j x))[j]? =some (.rows false 188 2 (rows Zz x)):=fun x=>by have:=hFg x [];rwa [KS]at this
    have hFt: ∀(x z:List Av) (Y:List Ob),(FM (M.set j x)++Y).set j (.rows false 188 2 (rows Zz z))=FM (M.set j z)++Y:=fun x z Y=>by rw[ZTH _ _ j (by rw[ZGg];omega),List.set_set]
    have hIn: ∀x:List Av,x.length=r.length→(Ob.drw 154 1 (RF M)::FM (M.set j x)).all (Ob.inP (fun i=>decide (i<(Ob.drw 154 1 (RF M)::FM (M.set j x)).length)))=true:=fun x hx=>by rw[←ZS3 M j x (by rw[hMj];exact hx)];exact ZQP _
    have uu:=ξ7 uu hFs hFb hFc hFg hFg' hFt;refine WI.loop (fun φ os=> ∃(k:Nat),φ= [(4,.ref 0 d.length 0 d.length),(7,.ref (j+1) r.length 0 r.length),(18,.ref 0 d.length 0 d.length),(19,.x (.int .i64 d.length)),(20,.x (.int .i64 j)),(24,.ref (j+1) r.length 0 r.length),(25,.x (.int .i64 r.length)),(26,.x (.int .i64 k))]∧os= .drw 154 1 (RF M)::FM (M.set j (Qm r k))∧k≤r.length∧(r.take k).all (fun p=> !(fld p.2== []))=true) (ZV r.length 26) ?_ (fun φ os hI=> ?_)
    ·exact⟨0,rfl,by rw[←hM0],by omega,rfl⟩
    ·obtain⟨k,rfl,rfl,hk,hkall⟩:=hI;refine WI.seq ?_;refine WI.regB JT [4,7,18,19,20,24,25,26,27] ?_;refine oG ?_;refine oN ?_;refine ZD ?_;refine WI.seq ?_;refine WI.cond (b:=_) rfl rfl (fun h2=> ?_) (fun h2=> ?_)
     ·try simp only[zB]at h2
      refine WI.skip ?_;refine ZD ?_;refine WI.seq ?_;refine WI.block ?_;refine WI.seq ?_;have hk4:k<r.length:=by omega
      have hka:=ZYC r k hk4;have hka2:=ZUs r k hk4;have hks:=ZWy r k hk4;have hml:=ZOd r k;have hml2:=ZOd r (k+1);have hpk:(r.getD k ([],[])).1.length≤64∧(r.getD k ([],[])).2.length≤256:=by rw[show r.getD k ([],[])=r[k] by simp[hk4]];exact hpb _ (YY hk4)
      have hka3:(r.take (k+1)).all (fun p=> !(fld p.2== []))=((r.take k).all (fun p=> !(fld p.2== []))&& !(fld (r.getD k ([],[])).2== [])):=by rw[Jx _ r k hk4,show r.getD k ([],[])=r[k] by simp[hk4]]
      have hnk:fld (r.getD k ([],[])).2= []→ZCU r=false:=fun h=>YH _ r k hk4 (by rw[show r[k]=r.getD k ([],[]) by simp[hk4],h];rfl)
      generalize r.getD k ([],[])=p at hka hka2 hks hpk hka3 hnk;have hs1:decide (p.1.length≤1000000)=true:=Zd (by omega);have hs2:decide (p.2.length≤1000000)=true:=Zd (by omega);have uu:=ξ8 uu hka hml hs1 hs2 hka2 hml2 hks;refine WI.regB JT [4,7,8,9,18,19,20,24,25,26] ?_;refine oS ?_
      iterate 3 refine oG ?_
      refine oS ?_;refine oG ?_;refine oN ?_;refine ZD ?_;refine WI.seq ?_;refine WI.post ?_;refine WI.dregB JT [4,7,8,18,19,20,24,25,26] ?_
      iterate 3 refine Yo ?_
      refine dQG ?_;refine dQC ?_;refine Yo ?_;refine dQG ?_;refine dAC ?_;refine dFG ?_
      iterate 2 refine dAG ?_
      refine dP ?_;refine ZJ6 (.drw 154 1 (RF M)::FM (M.set j (Qm r (k+1)))) _ rfl (JA _) (hIn _ hml2) (by simp only[ZBr,ZJa,D.inP,Jh,hFs];simp;omega) ?_;refine QW ?_;refine ZD ?_;refine WI.seq ?_;refine WI.regB JT [4,7,18,19,20,24,25,26,46] ?_
      iterate 2 refine oS ?_
      refine oG ?_;refine oS ?_
      iterate 2 refine oG ?_
      refine oN ?_;refine ZD ?_;refine WI.cond (b:=_) rfl rfl (fun h3=> ?_) (fun h3=> ?_)
      ·try simp only[zB]at h3
       have hfe:fld p.2= []:=by simpa using h3
       rw[if_neg (by rw[hnf (hnk hfe)];decide)]at hu;cases hu;refine WI.seq ?_;refine WI.regB JT [2,3] ?_
       iterate 2 refine oS ?_
       refine oN ?_;refine ZD ?_;refine WI.ret ?_;refine ZAK ?_;refine KZ ?_;refine KZ ?_;refine ZAK ?_;refine KZ ?_;refine ZAK ?_;refine KZ ?_;refine KZ ?_;refine ZAK ?_;refine KZ ?_
       first|refine lfR ?_|refine ZIQ ?_|refine ZGc ?_|refine ZIU ?_
       rfl
      ·try simp only[zB]at h3
       have hkall2:(r.take (k+1)).all (fun p=> !(fld p.2== []))=true:=by rw[hka3,hkall];simpa using h3
       refine WI.skip ?_;refine Kj ?_;refine ZD ?_;refine WI.orderA [4,7,18,19,20,24,25,26] ?_;refine WI.regB JT [4,7,18,19,20,24,25,26] ?_;refine oG ?_;refine oS ?_;refine oN ?_;refine ZD ?_;exact⟨⟨k+1,rfl,rfl,by omega,hkall2⟩,by simp[ZV,Ab.get,D.val,ZG];omega⟩
     ·try simp only[zB]at h2
      refine WI.exit ?_;refine Jt ?_;refine Jt ?_;refine ZBE ?_;refine ZD ?_;obtain rfl:k=r.length:=by omega
      rw[Km]at hkall;rw[ZU9];have hrn:(r.map ZCn).length=r.length:=YL ..;have hsc:=ZXY 188 (r.map ZCn) (ZUV hmr) (by intro hh;rw[hh]at hrn;simp at hrn;omega) (by omega);rw[hrn]at hsc;have hsr:=ZN.row (args:= [.ref (j+1) r.length 0 r.length,.fn 143 []]) (OS:= .drw 154 1 (RF M)::FM (M.set j (r.map ZCn))) (j+1) (by rw[show Zs (YN [j+1]) [D.ref (j+1) r.length 0 r.length,.fn 143 []]= [D.ref 0 r.length 0 r.length,.fn 143 []] by simp only[Zs,D.ren,YN,if_true]];exact hsc) (by rw[ξZ];exact hFg' _) rfl (by simp[YR,D.inP,Zq]) (fun f=>rfl);have hft2:=hFt (r.map ZCn) (ZA1 (r.map ZCn)) [];rw[KS,KS]at hft2;rw[ZBu,hft2]at hsr;have hM3:RF M=RF (ZBW d (j+1)):=by rw[hM2];exact(ZS3 M j _ (by rw[ZVo,hMj])).symm
      have hM4:FM (M.set j (ZA1 (r.map ZCn)))=FM (ZBW d (j+1)):=by rw[hM2];rfl
      rw[hM4]at hsr;rw[hM3]at hsr⊢;have hall2:(d.take (j+1)).all ZCU=true:=by rw[hall3,hall];exact hkall
      have uu:=Yq uu hrn;refine WI.regB (ZDH ZF ZNz hsr) [4,18,19,20] ?_;refine oS ?_;refine oC ?_;refine oN ?_;refine Kj ?_;refine ZD ?_;refine WI.orderA [4,18,19,20] ?_;refine WI.regB JT [4,18,19,20] ?_;refine oG ?_;refine oS ?_;refine oN ?_;refine ZD ?_;exact⟨⟨j+1,ZBW d (j+1),rfl,rfl,by omega,rfl,hall2⟩,by simp[ZV,Ab.get,D.val,ZG];omega⟩
   ·try simp only[zB]at h1
    refine WI.exit ?_;refine Jt ?_;refine Jt ?_;refine ZBE ?_;refine ZD ?_;refine WI.seq ?_;obtain rfl:j=d.length:=by omega
    rw[Km]at hall;rw[if_pos hall]at hu;rw[ZVW]at hM;subst hM;have hdl:(d.map Qi).length=d.length:=YL ..;rw[←hdl];refine WI.orderA [4] ?_;refine WI.freeze (List.range' 1 (d.map Qi).length) ?_;rw[ZYK];refine WI.pickA [0] (φ':= [(4,.ref 0 (d.map Qi).length 0 (d.map Qi).length)]) ?_ (hok:=by rw[Jh,Zam];simp[ZLI,QD,Zq]) (hp:=rfl) (ho:=ZYA (d.map Qi));refine WI.toXA 0 ?_;have hsn:smD (d.map Qi):=by
     intro r hr p hp;obtain⟨q,hq,rfl⟩:=YQ.1 hr;obtain⟨x,hx,rfl⟩:=YQ.1 ((ZEy _).mem_iff.1 hp);have:=((ZG5 (hmay q hq)).2.2 x hx).1;show(ZE x.1).length≤900000;unfold ZE;rw[YL];omega
    have hsnd:decide (smD (d.map Qi))=true:=Zd hsn;have htk:(d.map Qi).take (d.map Qi).length=d.map Qi:=Km;have uu:=ξ4 uu hsnd (ZRa (d.map Qi)) htk;refine WI.regB JT [2,3] ?_;refine oS ?_;refine oC ?_
    iterate 2 refine oG ?_
    iterate 2 refine oS ?_
    refine oN ?_;refine ZD ?_;refine WI.ret ?_
    first|refine lfR ?_|refine ZIQ ?_|refine ZGc ?_|refine ZIU ?_
    rw[hu]
end Go.Proofs.YtiogclkbccdefaaGreatDoor
end
section
namespace Go.Proofs.YtiogclkbccdefaaGreatDoor
open Go.RowKit Go.Bo Go.Ab
theorem ZSr:Yw []=([],0):=by unfold Yw;simp
def ZH2:Tabs:=ZU (ZU (ZS) 121 Qk) 144 Kf
theorem ZL9:SsOk Tryz.prog ZH2:=ZH (ZH (ZF) (Zc 121) ZII) (Zc 144) ZEn
theorem ZOp:(∀a,ZH2.q 121 a=Qk a)∧(∀a,ZH2.q 144 a=Kf a)∧(∀f a o,ZH2.r f a o=none)∧(∀f a o,ZH2.k f a o=none):=⟨fun _=>rfl,fun _=>rfl,fun _ _ _=>rfl,fun _ _ _=>rfl⟩
theorem ZYF(s:Tx)(h:(Yw s).2≠0):ZC Tryz.prog 96 [.x (.str s)] (.tup [.x (.str (JU s).1),.x (.int .i64 (JU s).2)]):=by
 rcases hu:JU s with⟨u,e⟩
 unfold JU at hu;rw[if_pos h]at hu;cases hu;refine ZJ.pure (fC 96 true ?_) rfl;intro C0 E0;have uu:=ξ5 @Qk.eq_1 @Qk.eq_2 @ZOp @Kf.eq_1 @Kf.eq_2;have tT:=ZL9;refine nz ?_;refine rg tT [0] ?_;refine rg tT [4,5] ?_;refine rg tT [4,5,16] ?_;refine cd (fun h0=> ?_) (fun h0=> ?_)
 ·refine rg tT [2,3] ?_;refine lf ?_
  first|rfl|exact⟨rfl,rfl⟩|trivial
 ·exact absurd (by simpa using h0) h
theorem ZYJ:ZC Tryz.prog 96 [.x (.str [])] (.tup [.x (.str (JU []).1),.x (.int .i64 (JU []).2)]):=by
 have h1:Yw []=([],0):=ZSr;have h2:JU []=ZAE []:=by unfold JU;rw[h1];simp
 have h3:decide (smD [])=true:=by decide
 have h4:ZZ Kc (rows Kc [])=some []:=ZRa [];rw[h2];refine ZJ.pure (fC 96 true ?_) rfl;intro C0 E0;have uu:=ξ8 @Qk.eq_1 @Qk.eq_2 @Kf.eq_1 @Kf.eq_2 h1 h3 h4 @ZOp;have tT:=ZL9;refine nz ?_;refine rg tT [0] ?_;refine rg tT [4,5] ?_;refine rg tT [4,5,16] ?_;refine ce (fun h0=> ?_) (fun h0=> ?_)
 ·simp at h0
 ·refine rg tT [4,18,19,20] ?_;refine WI.loop (fun φ os=>φ= [(4,.x (.sl (rows Kc []))),(18,.x (.sl (rows Kc []))),(19,.x (.int .i64 0)),(20,.x (.int .i64 0))]∧os= []) (ZV 0 20) ?_ (fun φ os hI=> ?_)
  ·exact⟨rfl,rfl⟩
  ·obtain⟨rfl,rfl⟩:=hI;refine nz ?_;refine rg tT [4,18,19,20,21] ?_;refine ce (fun h1=> ?_) (fun h1=> ?_)
   ·simp at h1
   ·refine rg tT [2,3] ?_;refine lf ?_
    first|rfl|exact⟨rfl,rfl⟩|trivial
theorem ZXu(s:Tx):ZC Tryz.prog 96 [.x (.str s)] (.tup [.x (.str (JU s).1),.x (.int .i64 (JU s).2)]):=by
 by_cases h:(Yw s).2=0
 ·by_cases hs:s= []
  ·subst hs;exact ZYJ
  ·exact ZYY s (Yw s).1 (by rw[←h]) hs
 ·exact ZYF s h
end Go.Proofs.YtiogclkbccdefaaGreatDoor
end
section
namespace Go.Proofs.YtiogclkbccdefaaGreatDoor
open Go.RowKit Go.Bo Go.Ab
theorem ZP7(c:UInt8):Ko c=32↔c=32:=by
 by_cases h:65≤c.toNat∧c.toNat≤90
 ·have h1:=ZLs h;constructor
  ·intro e;rw[e]at h1;simp at h1;omega
  ·rintro rfl;simp at h
 ·rw[ZQV h]
theorem ZP0: ∀s,Kn 32 (ZE s)=(Kn 32 s).map ZE
 | []=>rfl
 |b::l=>by
  have ih:=ZP0 l;show Kn 32 (Ko b::ZE l)=_;unfold Kn;by_cases h:b=32
  ·rw[if_pos ((ZP7 b).2 h),if_pos h,ih];rfl
  ·rw[if_neg (fun k=>h ((ZP7 b).1 k)),if_neg h,ih];cases Kn 32 l with
   |nil=>rfl
   |cons x r=>rfl
theorem ZUH(s:List UInt8):ZCG (ZE s)=(ZCG s).map ZE:=by
 unfold ZCG;rw[ZP0,List.filter_map];congr 1;refine ZUu fun x _=> ?_
 simp[ZE]
theorem ZUL: ∀l:List (List UInt8),jn (l.map ZE)=ZE (jn l)
 | []=>rfl
 | [x]=>rfl
 |x::y::r=>by
  have:=ZUL (y::r);show ZE x++32::jn ((y::r).map ZE)=ZE (x++32::jn (y::r));rw[this];unfold ZE;rw[Jq,Yc];rfl
theorem ZYq(s:Tx):blk (ZE s)=ZE (blk s):=by
 show jn (ZCG (ZE s))=ZE (jn (ZCG s));rw[ZUH,ZUL]
end Go.Proofs.YtiogclkbccdefaaGreatDoor
end
section
namespace Go.Proofs.YtiogclkbccdefaaGreatDoor
open Go.RowKit Go.Bo Go.Ab
end Go.Proofs.YtiogclkbccdefaaGreatDoor
end
section
namespace Go.Proofs.YtiogclkbccdefaaGreatDoor
open Go.RowKit Go.Bo Go.Ab
end Go.Proofs.YtiogclkbccdefaaGreatDoor
end
section
namespace Go.Proofs.YtiogclkbccdefaaGreatDoor
open Go.RowKit Go.Bo Go.Ab
def Jd(k:Int)(s:Tx):Tx×Bool:=
 if s.length>4096 then([],false)else if k=1 then(fld s,!(fld s== []))else if k=2 then(blk s,!(blk s== []))else if k=3 then ZDt s
 else if k=4 then(s,true)else if k=5 then((JU s).1,(JU s).2==0)else([],false)
def ZAa:List D→Option (Bool×D)
 | [.x (.str s)]=>some (true,.tup [.x (.str (JU s).1),.x (.int .i64 (JU s).2)])
 |_=>none
theorem ZKN: ∀args r,ZAa args=some (true,r)→ZC Tryz.prog 96 args r:=by
 intro args r h;unfold ZAa at h;split at h
 ·rename_i s;simp only[Za,Zb,ZQ,Zg,true_and]at h;obtain rfl:=h;exact(ZXu s)
 ·cases h
def ZIZ:List D→Option (Bool×D)
 | [.x (.str s)]=>some (decide (s.length≤1000000),.x (.str (blk s)))
 |_=>none
theorem ZXB: ∀args r,ZIZ args=some (true,r)→ZC Tryz.prog 174 args r:=by
 intro args r h;unfold ZIZ at h;split at h
 ·rename_i s;simp only[Za,Zb,ZQ,Zg,true_and]at h;obtain⟨h1,rfl⟩:=h;exact(ZOL s h1)
 ·cases h
def ZIj:List D→Option (Bool×D)
 | [.x (.str s)]=>some (true,.tup [.x (.str (ZDt s).1),.x (.bool (ZDt s).2)])
 |_=>none
theorem ZUo: ∀args r,ZIj args=some (true,r)→ZC Tryz.prog 182 args r:=by
 intro args r h;unfold ZIj at h;split at h
 ·rename_i s;simp only[Za,Zb,ZQ,Zg,true_and]at h;obtain rfl:=h;exact(Za8 s)
 ·cases h
def ZEg:Tabs:=ZU (ZU (ZU (ZU (ZS) 63 Jy) 174 ZIZ) 182 ZIj) 96 ZAa
theorem ZTo:SsOk Tryz.prog ZEg:=ZH (ZH (ZH (ZH (ZF) (Zc 63) ZGM) (Zc 174) ZXB) (Zc 182) ZUo) (Zc 96) ZKN
theorem ZVZ:(∀a,ZEg.q 63 a=Jy a)∧(∀a,ZEg.q 174 a=ZIZ a)∧(∀a,ZEg.q 182 a=ZIj a)∧(∀a,ZEg.q 96 a=ZAa a)∧(∀f a o,ZEg.r f a o=none)∧(∀f a o,ZEg.k f a o=none):=⟨fun _=>rfl,fun _=>rfl,fun _=>rfl,fun _=>rfl,fun _ _ _=>rfl,fun _ _ _=>rfl⟩
theorem ZX3(k:Int)(s:Tx):ZC Tryz.prog 154 [.x (.int .i64 k),.x (.str s)] (.tup [.x (.str (Jd k s).1),.x (.bool (Jd k s).2)]):=by
 rcases hu:Jd k s with⟨u,b⟩
 unfold Jd at hu;have hbl:=ZYq s;have hfl:fld s=ZE (blk s):=rfl;have hll:(ZE s).length=s.length:=by unfold ZE;rw[YL]
 refine ZJ.pure (fC 154 true ?_) rfl;intro C0 E0;have uu:=Qy @Jy.eq_1 @Jy.eq_2 @ZIZ.eq_1 @ZIZ.eq_2 @ZIj.eq_1 @ZIj.eq_2 @ZAa.eq_1 @ZAa.eq_2 (KE hbl hll @ZVZ);have tT:=ZTo;refine nz ?_;refine rg tT [0,1] ?_;refine rg tT [0,1,11] ?_;refine cd (fun h0=> ?_) (fun h0=> ?_)
 ·refine rg tT [4,5] ?_;refine lf ?_
  (clear uu;grind)
 ·refine rg tT [0,1,6] ?_;refine rg tT [1,6,13] ?_;refine rg tT [1,6,13,14] ?_;refine cd (fun h1=> ?_) (fun h1=> ?_)
  ·refine rg tT [6] ?_;refine rg tT [6] ?_;refine rg tT [4,5] ?_;refine lf ?_
   (clear uu;grind)
  ·refine rg tT [1,6,13,16] ?_;refine cd (fun h2=> ?_) (fun h2=> ?_)
   ·refine rg tT [6] ?_;refine rg tT [4,5] ?_;refine lf ?_
    (clear uu;grind)
   ·refine rg tT [1,13,18] ?_;refine cd (fun h3=> ?_) (fun h3=> ?_)
    ·refine rg tT [4,5] ?_;refine lf ?_
     (clear uu;grind)
    ·refine rg tT [1,13,20] ?_;refine cd (fun h4=> ?_) (fun h4=> ?_)
     ·refine rg tT [4,5] ?_;refine lf ?_
      (clear uu;grind)
     ·refine rg tT [1,22] ?_;refine cd (fun h5=> ?_) (fun h5=> ?_)
      ·refine rg tT [7,8] ?_;refine rg tT [4,5] ?_;refine lf ?_
       (clear uu;grind)
      ·refine rg tT [4,5] ?_;refine lf ?_
       (clear uu;grind)
def Jk:List D→Option (Bool×D)
 | [.x (.int .i64 k),.x (.str s)]=>some (true,.tup [.x (.str (Jd k s).1),.x (.bool (Jd k s).2)])
 |_=>none
theorem ZHW: ∀args r,Jk args=some (true,r)→ZC Tryz.prog 154 args r:=by
 intro args r h;unfold Jk at h;split at h
 ·rename_i k s;simp only[Za,Zb,ZQ,Zg,true_and]at h;obtain rfl:=h;exact(ZX3 k s)
 ·cases h
def eqV(k:Int)(a b:Tx):Int:=if(Jd k a).2=true∧(Jd k b).2=true then(if(Jd k a).1=(Jd k b).1 then 1 else 0)else 2
end Go.Proofs.YtiogclkbccdefaaGreatDoor
end
section
namespace Go.Proofs.YtiogclkbccdefaaGreatDoor
open Go.RowKit Go.Bo Go.Ab
abbrev Zn:=Tx×(Int×(Bool×Unit))
abbrev YU:RC Zn:=Yl ZB (Yl (ZAc .i64) (Yl ZKV QY))
theorem JR:YU.Good:=Yk ZO (Yk (Qx .i64) (Yk ZQ6 ZB8))
abbrev YA:=Tx×(List Tx×(List Tx×Unit))
abbrev Ka:RC YA:=Yl ZB (Yl (rSl ZB) (Yl (rSl ZB) QY))
theorem KD:Ka.Good:=Yk ZO (Yk (ZCi ZO) (Yk (ZCi ZO) ZB8))
def ZaS(t:Zn):Zn:=(ZE t.1,t.2)
def ZDu(c:YA):YA:=(ZE c.1,c.2.1.map ZE,c.2.2.1.map ZE,())
def tyL(T:List Zn):List (Tx×Zn):=T.map fun t=>(ZE t.1,ZaS t)
def clL(C:List YA):List (Tx×YA):=C.map fun c=>(ZE c.1,ZDu c)
def tyM(L:List (Tx×Zn)):List Pr:=YG Jj YU.enc L
def clM(M:List (Tx×YA)):List Pr:=YG Jj Ka.enc M
abbrev scO(L:List (Tx×Zn))(M:List (Tx×YA)):List Ob:= [.box [.mref 1,.mref 2],.mpo .str true (tyM L),.mpo .str true (clM M)]
def tyV(L:List (Tx×Zn))(k:Tx):Zn:=(ZR L k).getD ([],0,false,())
def clV(M:List (Tx×YA))(k:Tx):YA:=(ZR M k).getD ([],[],[],())
def tyD(t:Zn):D:= .agg [.x (.str t.1),.x (.int .i64 t.2.1),.x (.bool t.2.2.1)]
def clD(c:YA):D:= .agg [.x (.str c.1),.x (.sl (rows ZB c.2.1)),.x (.sl (rows ZB c.2.2.1))]
theorem ZZd(L:List (Tx×Zn))(k:Tx):JB (tyM L) [X.str k]=(ZR L k).map fun t=> [.x (.str t.1),.x (.int .i64 t.2.1),.x (.bool t.2.2.1)]:=by
 unfold tyM;rw[ZEd Jj YU.enc hkS L k];rfl
theorem ZZm(M:List (Tx×YA))(k:Tx):JB (clM M) [X.str k]=(ZR M k).map fun c=> [.x (.str c.1),.x (.sl (rows ZB c.2.1)),.x (.sl (rows ZB c.2.2.1))]:=by
 unfold clM;rw[ZEd Jj Ka.enc hkS M k];rfl
theorem ZaM(L:List (Tx×Zn))(k:Tx)(t:Zn):YI (tyM L) [X.str k] [.x (.str t.1),.x (.int .i64 t.2.1),.x (.bool t.2.2.1)]=tyM (JE L k t):=ZCg Jj YU.enc hkS L k t
theorem ZaA(M:List (Tx×YA))(k:Tx)(c:YA):YI (clM M) [X.str k] [.x (.str c.1),.x (.sl (rows ZB c.2.1)),.x (.sl (rows ZB c.2.2.1))]=clM (JE M k c):=ZCg Jj Ka.enc hkS M k c
theorem ZEb(f:Nat→Nat)(L:List (Tx×Zn)):(tyM L).map (Yu f)=tyM L:=QA _ _ _ _
theorem ZEr(f:Nat→Nat)(M:List (Tx×YA)):(clM M).map (Yu f)=clM M:=QA _ _ _ _
theorem ZEl(L:List (Tx×Zn)):ZBa (tyM L)= []:=ZAo _ _ _
theorem ZEk(M:List (Tx×YA)):ZBa (clM M)= []:=ZAo _ _ _
theorem ZAO(p:Nat→Bool)(L:List (Tx×Zn)):(tyM L).all (QJ p)=true:=Kk _ _ _ _
theorem ZAW(p:Nat→Bool)(M:List (Tx×YA)):(clM M).all (QJ p)=true:=Kk _ _ _ _
theorem ZIt(L:List (Tx×Zn)):Qn ZB YU (tyM L)=some L:=ZRX ZO JR L
theorem ZIq(M:List (Tx×YA)):Qn ZB Ka (clM M)=some M:=ZRX ZO KD M
theorem ZAX(L:List (Tx×Zn))(M:List (Tx×YA)):(scO L M).all (Ob.inP (fun i=>decide (i<(scO L M).length)))=true:=by
 simp[Ob.inP,YR,D.inP,ZAO,ZAW]
def Zk:List D→Option (Bool×D)
 | [.x (.str s)]=>some (decide (s.length≤140737488355328),.x (.str (ZE s)))
 |_=>none
theorem QR: ∀args r,Zk args=some (true,r)→ZC Tryz.prog 63 args r:=by
 intro args r h;unfold Zk at h;split at h
 ·rename_i s;simp only[Za,Zb,ZQ,Zg,true_and]at h;obtain⟨h1,rfl⟩:=h;exact(ZLF s h1)
 ·cases h
def ZJs:Tabs:=ZU (ZS) 63 Zk
theorem ZMb:SsOk Tryz.prog ZJs:=ZH (ZF) (Zc 63) QR
theorem ZOY:(∀a,ZJs.q 63 a=Zk a)∧(∀f a o,ZJs.r f a o=none)∧(∀f a o,ZJs.k f a o=none):=⟨fun _=>rfl,fun _ _ _=>rfl,fun _ _ _=>rfl⟩
theorem ZS0(L:List (Tx×Zn))(M:List (Tx×YA))(n:Tx)(hn:n.length≤140737488355328):ZN Tryz.prog 74 [.ptr 0 0,.x (.str n)] (scO L M) (.tup [tyD (tyV L (ZE n)),.x (.bool (ZR L (ZE n)).isSome)]) (scO L M):=by
 have hg:=ZZd L (ZE n);have hO:=ZAX L M;unfold tyV;rcases hm:ZR L (ZE n)with _|⟨a,k,b,u⟩
 ·rw[hm,ZA7]at hg;refine ZJ.mcallsX (fC 74 true ?_) (by first|decide|(simp;done)) hO (by first|rfl|exact hR);intro C0 E0;have uu:=ξ4 @Zk.eq_1 @Zk.eq_2 hg @ZOY;have tT:=ZMb;refine nz ?_;refine rg tT [0,1,4] ?_;refine WI.dregB tT [4,6,7] ?_
  iterate 3 refine Yo ?_
  refine dQG ?_;refine Yo ?_;refine dQC ?_;refine dQG ?_;refine Yo ?_
  iterate 2 refine dFG ?_
  refine dKG ?_;refine dAG ?_;refine Yo ?_;refine dN ?_;refine nz ?_;refine rg tT [4,5] ?_;refine lf ?_;exact⟨rfl,_,rfl⟩
 ·rw[hm,Yd]at hg;refine ZJ.mcallsX (fC 74 true ?_) (by first|decide|(simp;done)) hO (by first|rfl|exact hR);intro C0 E0;have uu:=ξ4 @Zk.eq_1 @Zk.eq_2 hg @ZOY;have tT:=ZMb;refine nz ?_;refine rg tT [0,1,4] ?_;refine WI.dregB tT [4,6,7] ?_
  iterate 3 refine Yo ?_
  refine dQG ?_;refine Yo ?_;refine dQC ?_;refine dQG ?_;refine Yo ?_
  iterate 2 refine dFG ?_
  refine dKG ?_;refine dAG ?_;refine Yo ?_;refine dN ?_;refine nz ?_;refine rg tT [4,5] ?_;refine lf ?_;exact⟨rfl,_,rfl⟩
def ZC7:List D→List Ob→Option (Bool×D×List Ob)
 | [.ptr 0 0,.x (.str n)],[.box [.mref 1,.mref 2],.mpo .str true P1,.mpo .str true P2]=>(Qn ZB YU P1).bind fun L=>(Qn ZB Ka P2).bind fun M=>some (decide (n.length≤140737488355328),.tup [tyD (tyV L (ZE n)),.x (.bool (ZR L (ZE n)).isSome)],[.box [.mref 1,.mref 2],.mpo .str true (tyM L),.mpo .str true (clM M)])
 |_,_=>none
theorem ZO8: ∀args os r os',ZC7 args os=some (true,r,os')→ZN Tryz.prog 74 args os r os':=by
 intro args os r os' h;unfold ZC7 at h;split at h
 ·rename_i n P1 P2;obtain⟨L,hm0,h⟩:=Zt h;obtain⟨M,hm1,h⟩:=Zt h;simp only[Za,Zb,ZQ,Zg,true_and]at h;obtain⟨h1,rfl,rfl⟩:=h;rw[JO ZO JR hm0];rw[JO ZO KD hm1];exact ZS0 L M n h1
 ·cases h
def ZAU:List D→List Ob→Option (Bool×D)
 | [.ptr 0 0,.x (.str n)],[.box [.mref 1,.mref 2],.mpo .str true P1,.mpo .str true P2]=>(Qn ZB YU P1).bind fun L=>(Qn ZB Ka P2).bind fun M=>some (decide (n.length≤140737488355328),.tup [tyD (tyV L (ZE n)),.x (.bool (ZR L (ZE n)).isSome)])
 |_,_=>none
theorem ZMf: ∀args os r,ZAU args os=some (true,r)→r.clean=true∧ ∃X,ZN Tryz.prog 74 args os r (os++X):=by
 intro args os r h;unfold ZAU at h;split at h
 ·rename_i n P1 P2;obtain⟨L,hm0,h⟩:=Zt h;obtain⟨M,hm1,h⟩:=Zt h;simp only[Za,Zb,ZQ,Zg,true_and]at h;obtain⟨h1,rfl⟩:=h;rw[JO ZO JR hm0];rw[JO ZO KD hm1];exact⟨rfl,[],by rw[KS];exact ZS0 L M n h1⟩
 ·cases h
def ZIV:Tabs:=ZJe (ZS) 74 ZAU
theorem QQ:SsOk Tryz.prog ZIV:=ZIa (ZF) (Zc 74) ZMf
theorem ZW8:(∀a,ZIV.q 74 a=none)∧(∀a o,ZIV.t 74 a o=(Qd ZAU a o).map fun r=>(r.1,r.2,o))∧(∀a o,ZIV.r 74 a o=Qd ZAU a o)∧(∀f a o,ZIV.k f a o=none):=⟨fun _=>rfl,fun _ _=>rfl,fun _ _=>rfl,fun _ _ _=>rfl⟩
def ZH0:Tabs:=Jp (ZS) 74 ZC7
theorem ZUM:SsOk Tryz.prog ZH0:=Yx (ZF) (Zc 74) ZO8
theorem ZWD:(∀a,ZH0.q 74 a=none)∧(∀a o,ZH0.t 74 a o=Ye ZC7 a o)∧(∀f a o,ZH0.r f a o=none)∧(∀f a o,ZH0.k f a o=none):=⟨fun _=>rfl,fun _ _=>rfl,fun _ _ _=>rfl,fun _ _ _=>rfl⟩
theorem ZZx(L:List (Tx×Zn))(M:List (Tx×YA))(n:Tx)(hn:n.length≤140737488355328):ZN Tryz.prog 122 [.ptr 0 0,.x (.str n)] (scO L M) (.tup [tyD (tyV L (ZE n)),.x (.bool (ZR L (ZE n)).isSome)]) (scO L M):=by
 have hO:=ZAX L M;have h1:=ZIt L;have h2:=ZIq M;unfold tyD;refine ZJ.mcallsX (fC 122 true ?_) (by first|decide|(simp;done)) hO (by first|rfl|exact hR);intro C0 E0;have uu:=Qy @ZC7.eq_1 @ZC7.eq_2 h1 h2 @tyD.eq_1 @ZEb @ZEr @ZEl (ξ4 @ZEk @ZAO @ZAW @ZWD);have tT:=ZUM;refine nz ?_;refine rg tT [0,1,4] ?_;refine rg tT [0,1,4,7] ?_;refine ce (fun h0=> ?_) (fun h0=> ?_)
 ·simp at h0
 ·refine rg tT [4,5] ?_;refine lf ?_;exact⟨rfl,_,rfl⟩
def ZKt:Tabs:=ZU (ZS) 63 Zk
theorem ZMN:SsOk Tryz.prog ZKt:=ZH (ZF) (Zc 63) QR
theorem ZN8:(∀a,ZKt.q 63 a=Zk a)∧(∀f a o,ZKt.r f a o=none)∧(∀f a o,ZKt.k f a o=none):=⟨fun _=>rfl,fun _ _ _=>rfl,fun _ _ _=>rfl⟩
theorem ZXq(L:List (Tx×Zn))(M:List (Tx×YA))(n:Tx)(hn:n.length≤140737488355328):ZN Tryz.prog 119 [.ptr 0 0,.x (.str n)] (scO L M) (.tup [clD (clV M (ZE n)),.x (.bool (ZR M (ZE n)).isSome)]) (scO L M):=by
 have hg:=ZZm M (ZE n);have hO:=ZAX L M;unfold clV;rcases hm:ZR M (ZE n)with _|⟨a,m,y,u⟩
 ·rw[hm,ZA7]at hg;refine ZJ.mcallsX (fC 119 true ?_) (by first|decide|(simp;done)) hO (by first|rfl|exact hR);intro C0 E0;have uu:=ξ4 @Zk.eq_1 @Zk.eq_2 hg @ZN8;have tT:=ZMN;refine nz ?_;refine rg tT [0,1,4] ?_;refine rg tT [0,1,4,9] ?_;refine ce (fun h0=> ?_) (fun h0=> ?_)
  ·simp at h0
  ·refine WI.dregB tT [4,6,7] ?_
   iterate 4 refine Yo ?_
   refine dQG ?_;refine Yo ?_;refine dQC ?_;refine dQG ?_;refine Yo ?_
   iterate 2 refine dFG ?_
   refine dKG ?_;refine dAG ?_;refine Yo ?_;refine dN ?_;refine nz ?_;refine rg tT [4,5] ?_;refine WI.nnA ?_;refine lf ?_;exact⟨rfl,_,rfl⟩
 ·rw[hm,Yd]at hg;refine ZJ.mcallsX (fC 119 true ?_) (by first|decide|(simp;done)) hO (by first|rfl|exact hR);intro C0 E0;have uu:=ξ4 @Zk.eq_1 @Zk.eq_2 hg @ZN8;have tT:=ZMN;refine nz ?_;refine rg tT [0,1,4] ?_;refine rg tT [0,1,4,9] ?_;refine ce (fun h0=> ?_) (fun h0=> ?_)
  ·simp at h0
  ·refine WI.dregB tT [4,6,7] ?_
   iterate 4 refine Yo ?_
   refine dQG ?_;refine Yo ?_;refine dQC ?_;refine dQG ?_;refine Yo ?_
   iterate 2 refine dFG ?_
   refine dKG ?_;refine dAG ?_;refine Yo ?_;refine dN ?_;refine nz ?_;refine rg tT [4,5] ?_;refine lf ?_;exact⟨rfl,_,rfl⟩
def ZGF:List D→List Ob→Option (Bool×D×List Ob)
 | [.ptr 0 0,.x (.str n)],[.box [.mref 1,.mref 2],.mpo .str true P1,.mpo .str true P2]=>(Qn ZB YU P1).bind fun L=>(Qn ZB Ka P2).bind fun M=>some (decide (n.length≤140737488355328),.tup [clD (clV M (ZE n)),.x (.bool (ZR M (ZE n)).isSome)],[.box [.mref 1,.mref 2],.mpo .str true (tyM L),.mpo .str true (clM M)])
 |_,_=>none
theorem ZTs: ∀args os r os',ZGF args os=some (true,r,os')→ZN Tryz.prog 119 args os r os':=by
 intro args os r os' h;unfold ZGF at h;split at h
 ·rename_i n P1 P2;obtain⟨L,hm0,h⟩:=Zt h;obtain⟨M,hm1,h⟩:=Zt h;simp only[Za,Zb,ZQ,Zg,true_and]at h;obtain⟨h1,rfl,rfl⟩:=h;rw[JO ZO JR hm0];rw[JO ZO KD hm1];exact ZXq L M n h1
 ·cases h
end Go.Proofs.YtiogclkbccdefaaGreatDoor
end
section
namespace Go.Proofs.YtiogclkbccdefaaGreatDoor
open Go.RowKit Go.Bo Go.Ab
def ZIm:List D→List Ob→Option (Bool×D×List Ob)
 | [.ref 0 n 0 n',.x (.int .i64 i),.ref 1 1 0 1],[.rows false e 2 rs,.rows false e' 2 [r]]=>some (decide (n=rs.length∧n'=rs.length∧0≤i∧i≤rs.length∧rs.length≤1000000∧e=94∧e'=94),.ref 0 (n+1) 0 (n+1),[.rows false e 2 (YD rs i.toNat [r]),.rows false e' 2 [r]])
 |_,_=>none
theorem ZVr: ∀args os r os',ZIm args os=some (true,r,os')→ZN Tryz.prog 126 args os r os':=by
 intro args os r os' h;unfold ZIm at h;split at h
 ·rename_i n n' i e rs e' r0;simp only[Za,Zb,Zg]at h;obtain⟨⟨rfl,rfl,h0,h1,h2,rfl,rfl⟩,rfl,rfl⟩:=h;have h:=ZaU rs r0 i.toNat (by omega) h2;rwa [show((i.toNat:Nat):Int)=i by omega]at h
 ·cases h
def ZBi:List D→Option (Bool×D)
 | [.x (.sl [[.nils],[.sl R]])]=>(ZZ ZB R).map fun b=>(decide (b.length≤100000),.x (.sl (rows ZB b)))
 | [.x (.sl [[.sl R],[.sl R']])]=>(ZZ ZB R).bind fun a=>(ZZ ZB R').map fun b=>(decide (a.length≤100000∧b.length≤100000),.x (.sl (rows ZB (a++b))))
 |_=>none
theorem ZNf: ∀args r,ZBi args=some (true,r)→ZC Tryz.prog 73 args r:=by
 intro args r h;unfold ZBi at h;split at h
 ·rename_i R;obtain⟨b,h1,h2⟩:=ZT h;simp only[Zb,Zg]at h2;obtain⟨h3,rfl⟩:=h2;rw[←ZY ZO h1];exact ZR3 b h3
 ·rename_i R R';obtain⟨a,h1,h⟩:=Zt h;obtain⟨b,h2,h3⟩:=ZT h;simp only[Zb,Zg]at h3;obtain⟨h4,rfl⟩:=h3;rw[←ZY ZO h1,←ZY ZO h2];exact ZNj a b h4.1 h4.2
 ·cases h
def ZAe(l:List ZX)(n:List UInt8)(vs:List (List UInt8)):List ZX:=if vs= []then l else l.take (Zj l n)++ [(n,ZB9 [] (Jm l n++vs),())]++ZBF l n
theorem ZEf{l:List ZX}{n:List UInt8}(h:ZAx l n=true):Zj l n<l.length:=by
 unfold ZAx at h;split at h
 ·rename_i a ha;exact(ZP ha).1
 ·cases h
theorem ZF5{l:List ZX}{n:List UInt8}(h:ZAx l n=true):(rows Zi l)[Zj l n]? =some [.str n,.sl (rows ZB (Jm l n))]∧ ∀out,(rows Zi l).set (Zj l n) [.str n,.sl (rows ZB out)]=rows Zi (l.take (Zj l n)++ [(n,out,())]++ZBF l n):=by
 have hp:=ZEf h;have he:=ZQH l n hp h;constructor
 ·rw[ZKe l _ hp];unfold Jm;have e:(l.getD (Zj l n) ([],[],())).1=n:=by rw[show l.getD (Zj l n) ([],[],())=l[Zj l n] by simp[hp]];exact he
  rw[if_pos h,e]
 ·intro out;unfold ZBF;rw[if_pos h];have e: [X.str n,.sl (rows ZB out)]=Zi.enc (n,out,()):=rfl;rw[e];unfold rows;rw[←ZJn,List.set_eq_take_append_cons_drop,if_pos hp];simp
theorem ZKI{l:List ZX}{n:List UInt8}(h:ZAx l n=false):(YD (rows Zi l) (Zj l n) [[.str n,.nils]])[Zj l n]? =some [.str n,.nils]∧ ∀out,(YD (rows Zi l) (Zj l n) [[.str n,.nils]]).set (Zj l n) [.str n,.sl (rows ZB out)]=rows Zi (l.take (Zj l n)++ [(n,out,())]++ZBF l n):=by
 have hp:=ZEs l n;have hl:((rows Zi l).take (Zj l n)).length=Zj l n:=by rw[Yv,YC];omega
 constructor
 ·unfold YD;rw[KJ,KR (by omega),hl,ZGw];rfl
 ·intro out;unfold ZBF YD;rw[if_neg (by rw[h];decide),KJ,ZIA _ _ (by omega),hl,ZGw];unfold rows;rw[←List.map_take,←List.map_drop,Jq,Jq];simp[Zi,Yl,ZB,rSl,QY,rows]
theorem ZPk(l:List (List UInt8))(x:List UInt8):rows ZB (l++ [x])=rows ZB l++ [[X.str x]]:=by simp[rows,ZB]
theorem ZON{l:List ZX}{n:List UInt8}(hb: ∀a∈l,a.2.1.length≤50000):(Jm l n).length≤50000:=by
 unfold Jm;split
 ·rename_i h;have hp:=ZEf h;rw[show l.getD (Zj l n) ([],[],())=l[Zj l n] by simp[hp]];exact hb _ (YY hp)
 ·simp
theorem ZXR(acc:List (List UInt8))(v:List UInt8):ZLO acc v=if v∈acc then acc else acc++ [v]:=rfl
def ZAp:Tabs:=Jp (ZU (Jp (ZU (Jp (ZU (ZU (ZS) 63 Zk) 124 ZFX) 126 ZIm) 73 ZBi) 73 (QX ZBi)) 127 ZE6) 127 (QX ZE6)
theorem Yj:SsOk Tryz.prog ZAp:=Yx (ZH (Yx (ZH (Yx (ZH (ZH (ZF) (Zc 63) QR) (Zc 124) ZQX) (Zc 126) ZVr) (Zc 73) ZNf) (Zc 73) (ZCo ZNf)) ZI9 ZNq) ZI9 (ZCo ZNq)
theorem ZVb:(∀a,ZAp.q 63 a=Zk a)∧(∀a,ZAp.q 124 a=ZFX a)∧(∀a,ZAp.q 126 a=none)∧(∀a o,ZAp.t 126 a o=Ye ZIm a o)∧(∀a,ZAp.q 73 a=ZBi a)∧(∀a o,ZAp.t 73 a o=Ye (QX ZBi) a o)∧(∀a,ZAp.q 127 a=ZE6 a)∧(∀a o,ZAp.t 127 a o=Ye (QX ZE6) a o)∧(∀f a o,ZAp.r f a o=none)∧(∀f a o,ZAp.k f a o=none):=⟨fun _=>rfl,fun _=>rfl,fun _=>rfl,fun _ _=>rfl,fun _=>rfl,fun _ _=>rfl,fun _=>rfl,fun _ _=>rfl,fun _ _ _=>rfl,fun _ _ _=>rfl⟩
set_option maxHeartbeats 4000000 in
theorem Zaq(l:List ZX)(attr:List UInt8)(vs:List (List UInt8))(hs:SoA l)(hl:l.length≤100000)(ha:attr.length≤140737488355328)(hv:vs.length≤50000)(hb: ∀a∈l,a.2.1.length≤50000):ZN Tryz.prog 80 [.ref 0 l.length 0 l.length,.x (.str attr),.x (.sl (rows ZB vs))] [.rows false 94 2 (rows Zi l)] (.ref 0 (ZAe l (ZE attr) vs).length 0 (ZAe l (ZE attr) vs).length) [.rows false 94 2 (rows Zi (ZAe l (ZE attr) vs))]:=by
 have hO: [Ob.rows false 94 2 (rows Zi (ZAe l (ZE attr) vs))].all (Ob.inP (fun i=>decide (i< [Ob.rows false 94 2 (rows Zi (ZAe l (ZE attr) vs))].length)))=true:=rfl;have hda:=Zd ha;have hds:decide (SoA l∧l.length≤1000000)=true:=Zd ⟨hs,by omega⟩;have hul:ZZ Zi (rows Zi l)=some l:=Zv YV l;obtain⟨n,hn⟩: ∃n,ZE attr=n:=⟨_,rfl⟩;rw[hn]at hO⊢;have hpl:=ZEs l n;rcases hres:ZAe l n vs with res
 unfold ZAe at hres;have htl:l.take l.length=l:=Km;have hbl:(Jm l n).length≤50000:=ZON hb;have hcn:ZAx l n=false→ZBi [.x (.sl [[.nils],[.sl (rows ZB vs)]])]=some (true,.x (.sl (rows ZB (Jm l n++vs)))):=fun h=>by
  show((ZZ ZB (rows ZB vs)).map fun b=>(decide (b.length≤100000),D.x (.sl (rows ZB b))))=_;rw[Zv ZO,show Jm l n= [] by unfold Jm;rw[if_neg (by rw[h];decide)]];simp;omega
 have hcy:ZBi [.x (.sl [[.sl (rows ZB (Jm l n))],[.sl (rows ZB vs)]])]=some (true,.x (.sl (rows ZB (Jm l n++vs)))):=by
  show((ZZ ZB (rows ZB (Jm l n))).bind fun a=>(ZZ ZB (rows ZB vs)).map fun b=>(decide (a.length≤100000∧b.length≤100000),D.x (.sl (rows ZB (a++b)))))=_;rw[Zv ZO,Zv ZO];simp;omega
 refine ZJ.mcallsX (fC 80 false ?_) (by first|decide|(simp;done)) hO (by first|rfl|exact hR);intro C0 E0;have uu:=Qy @Zk.eq_1 @Zk.eq_2 @ZFX.eq_1 @ZFX.eq_2 @ZIm.eq_1 @ZIm.eq_2 @ZBi.eq_1 @ZBi.eq_2 (Qy @ZBi.eq_3 @ZE6.eq_1 @ZE6.eq_2 hul hda hds hn htl (Yq @ZVb @QX.eq_1));refine WI.seq ?_;refine WI.regB Yj [0,1,2] ?_;refine oS ?_;refine oN ?_;refine ZD ?_;refine WI.seq ?_;refine WI.regB Yj [0,2,7] ?_;refine oS ?_;refine oC ?_;refine oS ?_;refine oN ?_;refine ZD ?_;refine WI.seq ?_;refine WI.seq ?_;refine WI.regB Yj [0,2,7,17] ?_;refine oS ?_
 iterate 2 refine oG ?_
 refine oN ?_;refine ZD ?_;refine WI.cond (b:=_) rfl rfl (fun h0=> ?_) (fun h0=> ?_)
 ·try simp only[zB]at h0
  have hv0:vs= []:=ξO (by simpa using h0);rw[if_pos hv0]at hres;refine WI.seq ?_;refine WI.regB Yj [6] ?_
  iterate 2 refine oS ?_
  refine oN ?_;refine ZD ?_;refine WI.ret ?_;refine KZ ?_
  first|refine lfR ?_|refine ZIQ ?_|refine ZGc ?_|refine ZIU ?_
  subst hres;exact⟨rfl,_,rfl⟩
 ·try simp only[zB]at h0
  have hv0:vs≠ []:=fun e=>by subst e;simp at h0
  rw[if_neg hv0]at hres;refine WI.skip ?_;refine ZD ?_;refine WI.seq ?_;refine WI.regB Yj [0,2,7,8,9] ?_
  iterate 2 refine oS ?_
  refine oC ?_;refine oS ?_
  iterate 2 refine oG ?_
  iterate 2 refine oS ?_
  refine oN ?_;refine ZD ?_;refine WI.join (fun φ os=> ∃(m:Nat) (RS:List (List X)) (V:X),φ= [(0,.ref 0 m 0 m),(2,.x (.sl (rows ZB vs))),(8,.x (.int .i64 (Zj l n)))]∧os= [.rows false 94 2 RS]∧RS.length=m∧Zj l n<m∧RS[Zj l n]? =some [.str n,V]∧(∀out,RS.set (Zj l n) [.str n,.sl (rows ZB out)]=rows Zi (l.take (Zj l n)++ [(n,out,())]++ZBF l n))∧ZBi [.x (.sl [[V],[.sl (rows ZB vs)]])]=some (true,.x (.sl (rows ZB (Jm l n++vs))))) ?_ (fun φ os hJ=> ?_)
  ·refine WI.seq ?_;refine WI.regB Yj [0,2,7,8,26] ?_;refine oS ?_;refine oG ?_;refine oN ?_;refine ZD ?_;refine WI.cond (b:=_) rfl rfl (fun h1=> ?_) (fun h1=> ?_)
   ·try simp only[zB]at h1
    have hh:ZAx l n=false:=by simpa using h1
    refine WI.post ?_;refine WI.regB Yj [0,2,8] ?_
    iterate 3 refine oS ?_
    iterate 2 refine oG ?_
    refine oC ?_;refine oS ?_;refine oP ?_;refine QE [0] ?_;refine QW ?_;refine ZD ?_
    first|exact⟨l.length+1,_,.nils,rfl,rfl,by rw[ZHY _ _ _ (by rw[YC];exact hpl),YC];rfl,by omega,(ZKI hh).1,(ZKI hh).2,hcn hh⟩|exact⟨l.length,_,.sl (rows ZB (Jm l n)),rfl,rfl,YC _ _,ZEf hh,(ZF5 hh).1,(ZF5 hh).2,hcy⟩
   ·try simp only[zB]at h1
    have hh:ZAx l n=true:=by simpa using h1
    refine WI.orderA [0,2,8] ?_;refine WI.skip ?_;refine ZD ?_
    first|exact⟨l.length+1,_,.nils,rfl,rfl,by rw[ZHY _ _ _ (by rw[YC];exact hpl),YC];rfl,by omega,(ZKI hh).1,(ZKI hh).2,hcn hh⟩|exact⟨l.length,_,.sl (rows ZB (Jm l n)),rfl,rfl,YC _ _,ZEf hh,(ZF5 hh).1,(ZF5 hh).2,hcy⟩
  ·obtain⟨m,RS,V,rfl,rfl,hRl,hpm,hRp,hRs,hcv⟩:=hJ;refine WI.seq ?_;refine WI.regB Yj [0,2,8,10] ?_;refine oS ?_;refine oN ?_;refine ZD ?_;refine WI.seq ?_;refine WI.seq ?_;have hcl:(Jm l n++vs).length≤100000:=by rw[Zw];omega
   generalize Jm l n++vs=W at hres hcv hcl;have uu:=ξ4 uu hRp hRl hcv;refine WI.regB Yj [0,8,10,40,41,42] ?_
   iterate 2 refine oS ?_
   refine oG ?_;refine oS ?_;refine oG ?_;refine oS ?_;refine oG ?_;refine oC ?_;refine oG ?_;refine oS ?_;refine oN ?_;refine ZD ?_;refine WI.block ?_;refine WI.pickA [0] ?_;refine WI.ownA 10 9 1 ?_;refine WI.orderA [0,8,10,40,41,42] ?_;refine WI.loop (fun φ os=> ∃(j:Nat),φ= [(0,.ref 0 m 0 m),(8,.x (.int .i64 (Zj l n))),(10,.ref 1 (ZB9 [] (W.take j)).length 0 (ZB9 [] (W.take j)).length),(40,.x (.sl (rows ZB W))),(41,.x (.int .i64 W.length)),(42,.x (.int .i64 j))]∧os= [.rows false 94 2 RS,.rows false 9 1 (rows ZB (ZB9 [] (W.take j)))]∧j≤W.length) (ZV W.length 42) ?_ (fun φ os hI=> ?_)
   ·exact⟨0,rfl,rfl,by omega⟩
   ·obtain⟨j,rfl,rfl,hj⟩:=hI;refine WI.seq ?_;refine WI.regB Yj [0,8,10,40,41,42,43] ?_;refine oG ?_;refine oN ?_;refine ZD ?_;refine WI.seq ?_;refine WI.cond (b:=_) rfl rfl (fun h2=> ?_) (fun h2=> ?_)
    ·try simp only[zB]at h2
     refine WI.skip ?_;refine ZD ?_;refine WI.seq ?_;refine WI.block ?_;refine WI.seq ?_;refine WI.regB Yj [0,8,10,12,40,41,42] ?_
     iterate 2 refine oG ?_
     refine oS ?_;refine oN ?_;refine ZD ?_;refine WI.seq ?_;have hj4:j<W.length:=by omega
     have hsn:=ZSM [] W j hj4;have hle:=ZPJ [] (W.take j);rw[Yv,ξN]at hle;generalize ZB9 [] (W.take j)=acc at hsn hle⊢;have hta:acc.take acc.length=acc:=Km;have hd2:decide (acc.length≤1000000)=true:=Zd (by omega);have hua:ZZ ZB (rows ZB acc)=some acc:=Zv ZO acc;have uu:=ξ4 uu hta hd2 hua;refine WI.regB Yj [0,8,10,12,40,41,42,49] ?_
     iterate 2 refine oS ?_
     refine oC ?_;refine oG ?_;refine oN ?_;refine ZD ?_;refine WI.cond (b:=_) rfl rfl (fun h3=> ?_) (fun h3=> ?_)
     ·try simp only[zB]at h3
      have hst:ZB9 [] (W.take (j+1))=acc++ [W[j]]:=by rw[hsn,ZXR,if_neg (by simpa using h3)]
      refine WI.regB Yj [0,8,10,40,41,42] ?_
      iterate 2 refine oS ?_
      iterate 2 refine oG ?_
      refine oS ?_;refine oN ?_;refine Kj ?_;refine ZD ?_;refine WI.pickA [0,1] ?_;refine WI.regB Yj [0,8,10,40,41,42] ?_;refine oG ?_;refine oS ?_;refine oN ?_;refine ZD ?_
      first|exact⟨⟨j+1,by rw[hst,Zw];rfl,by rw[hst,ZPk],by omega⟩,by simp[ZV,Ab.get,D.val,ZG];omega⟩|exact⟨⟨j+1,by rw[hst];rfl,by rw[hst],by omega⟩,by simp[ZV,Ab.get,D.val,ZG];omega⟩
     ·try simp only[zB]at h3
      have hst:ZB9 [] (W.take (j+1))=acc:=by rw[hsn,ZXR,if_pos (by simpa using h3)]
      refine WI.skip ?_;refine Kj ?_;refine ZD ?_;refine WI.pickA [0,1] ?_;refine WI.regB Yj [0,8,10,40,41,42] ?_;refine oG ?_;refine oS ?_;refine oN ?_;refine ZD ?_
      first|exact⟨⟨j+1,by rw[hst,Zw];rfl,by rw[hst,ZPk],by omega⟩,by simp[ZV,Ab.get,D.val,ZG];omega⟩|exact⟨⟨j+1,by rw[hst];rfl,by rw[hst],by omega⟩,by simp[ZV,Ab.get,D.val,ZG];omega⟩
    ·try simp only[zB]at h2
     refine WI.exit ?_;refine Jt ?_;refine Jt ?_;refine ZBE ?_;refine ZD ?_;refine WI.seq ?_;obtain rfl:j=W.length:=by omega
     rw[Km];refine WI.regB Yj [0] ?_
     iterate 3 refine oS ?_
     refine oG ?_;refine oS ?_;refine oG ?_;refine oN ?_;refine ZD ?_;refine WI.seq ?_;refine WI.regB Yj [6] ?_
     iterate 2 refine oS ?_
     refine oN ?_;refine ZD ?_;refine WI.ret ?_
     first|refine lfR ?_|refine ZIQ ?_|refine ZGc ?_|refine ZIU ?_
     have hm:m=res.length:=by rw[←hres,←YC Zi,←hRs,ZGg,hRl]
     rw[hRs,hres,hm];exact⟨rfl,_,rfl⟩
end Go.Proofs.YtiogclkbccdefaaGreatDoor
end
section
namespace Go.Proofs.YtiogclkbccdefaaGreatDoor
open Go.RowKit Go.Bo Go.Ab
theorem ZUl{l:List ZX}{n:List UInt8}{a:ZX}(h:a∈ZBF l n):a∈l:=by
 unfold ZBF at h;split at h<;>exact ZBQ h
theorem ZVR(l:List ZX)(n:List UInt8)(vs:List (List UInt8)):(ZAe l n vs).length≤l.length+1:=by
 have:=ZEs l n;unfold ZAe ZBF;split
 ·omega
 ·split<;>simp<;>omega
theorem ZSJ(l:List ZX)(n:List UInt8)(vs:List (List UInt8))(B C:Nat)(hb: ∀a∈l,a.2.1.length≤B)(hv:vs.length≤C): ∀a∈ZAe l n vs,a.2.1.length≤B+C:=by
 intro a ha;unfold ZAe at ha;split at ha
 ·have:=hb a ha;omega
 ·rcases KN.1 ha with ha|ha
  ·rcases KN.1 ha with ha|ha
   ·have:=hb a (ZCM ha);omega
   ·rw[ZCC]at ha;subst ha;have h1:=ZPJ [] (Jm l n++vs);have h2:(Jm l n).length≤B:=by
     unfold Jm;split
     ·rename_i h;have hp:=ZEf h;rw[show l.getD (Zj l n) ([],[],())=l[Zj l n] by simp[hp]];exact hb _ (YY hp)
     ·simp
    rw[Zw,ξN]at h1;show(ZB9 [] (Jm l n++vs)).length≤B+C;omega
  ·have:=hb a (ZUl ha);omega
theorem ZXx{l:List ZX}(hs:SoA l){n:List UInt8}{a:ZX}(h:a∈ZBF l n):Op.bytesLess n a.1=true:=by
 unfold ZBF at h;split at h
 ·rename_i hh;have hp:=ZEf hh;have he:=ZQH l n hp hh;obtain⟨j,hj,rfl⟩:=ZRY.1 h;rw[List.getElem_drop];rw[KC]at hj;have:=ZJl.1 hs (Zj l n) (Zj l n+1+j) hp (by omega) (by omega);rwa [he]at this
 ·rename_i hh;obtain⟨j,hj,rfl⟩:=ZRY.1 h;rw[List.getElem_drop];rw[KC]at hj;have hp:Zj l n<l.length:=by omega
  have hst:=ZJ8 l n hp;have hne:l[Zj l n].1≠n:=fun e=>hh (by unfold ZAx;rw[Zl hp];simpa using e)
  have h1:Op.bytesLess n l[Zj l n].1=true:=(bl_tot _ _ hne).resolve_left (by rw[hst];decide);rcases ZLQ j with h0|h0
  ·subst h0;exact h1
  ·exact bl_trans _ _ _ h1 (ZJl.1 hs (Zj l n) (Zj l n+j) hp (by omega) (by omega))
theorem ZX5{l:List ZX}(hs:SoA l)(n:List UInt8)(vs:List (List UInt8)):SoA (ZAe l n vs):=by
 unfold ZAe;split
 ·exact hs
 ·have h1: ∀a∈l.take (Zj l n),Op.bytesLess a.1 n=true:=fun a ha=>by
   obtain⟨j,hj,rfl⟩:=List.mem_take_iff_getElem.1 ha;exact ZKh l n j (by omega)
  have h2: ∀a∈ZBF l n,Op.bytesLess n a.1=true:=fun a ha=>ZXx hs ha
  rw[SoA,List.pairwise_append,List.pairwise_append];refine⟨⟨hs.sublist (List.take_sublist _ _),List.pairwise_singleton _ _,fun a ha b hb=> ?_⟩,?_,fun a ha b hb=> ?_⟩
  ·rw[ZCC]at hb;subst hb;exact h1 a ha
  ·unfold ZBF;split<;>exact hs.sublist (List.drop_sublist _ _)
  ·rcases KN.1 ha with ha|ha
   ·exact bl_trans _ _ _ (h1 a ha) (h2 b hb)
   ·rw[ZCC]at ha;subst ha;exact h2 b hb
def YP(l:List ZX):List ZX:=l.foldl (fun acc a=>ZAe acc (ZE a.1) a.2.1) []
theorem ZC1(l:List ZX)(j:Nat)(h:j<l.length):YP (l.take (j+1))=ZAe (YP (l.take j)) (ZE (l.getD j ([],[],())).1) (l.getD j ([],[],())).2.1:=by
 unfold YP;rw[KT h,ZRU];simp[h]
theorem ZH3(l:List ZX): ∀j,j≤l.length→SoA (YP (l.take j))
 |0,_=>by simp[YP,SoA]
 |j+1,h=>by rw[ZC1 l j (by omega)];exact ZX5 (ZH3 l j (by omega)) _ _
theorem ZGx(l:List ZX): ∀j,j≤l.length→(YP (l.take j)).length≤j
 |0,_=>by simp[YP]
 |j+1,h=>by
  rw[ZC1 l j (by omega)];have:=ZVR (YP (l.take j)) (ZE (l.getD j ([],[],())).1) (l.getD j ([],[],())).2.1;have:=ZGx l j (by omega);omega
theorem ZFU(l:List ZX)(hb: ∀a∈l,a.2.1.length≤400): ∀j,j≤l.length→ ∀a∈YP (l.take j),a.2.1.length≤j*400
 |0,_=>by simp[YP]
 |j+1,h=>by
  rw[ZC1 l j (by omega)];have:=ZSJ (YP (l.take j)) (ZE (l.getD j ([],[],())).1) (l.getD j ([],[],())).2.1 (j*400) 400 (ZFU l hb j (by omega)) (by rw[show l.getD j ([],[],())=l[j] by simp[show j<l.length by omega]];exact hb _ (YY _));intro a ha;have:=this a ha;omega
def ZPP:List D→List Ob→Option (Bool×D×List Ob)
 | [.ref 0 n 0 n',.x (.str t),.x (.sl R)],[.rows false e 2 rs]=>(ZZ Zi rs).bind fun l=>(ZZ ZB R).map fun vs=>(decide (n=l.length∧n'=l.length∧e=94)&&decide (SoA l∧l.length≤100000∧t.length≤140737488355328∧vs.length≤50000∧ ∀a∈l,a.2.1.length≤50000),.ref 0 (ZAe l (ZE t) vs).length 0 (ZAe l (ZE t) vs).length,[.rows false e 2 (rows Zi (ZAe l (ZE t) vs))])
 |_,_=>none
theorem ZXW: ∀args os r os',ZPP args os=some (true,r,os')→ZN Tryz.prog 80 args os r os':=by
 intro args os r os' h;unfold ZPP at h;split at h
 ·rename_i n n' t R e rs;obtain⟨l,h1,h⟩:=Zt h;obtain⟨vs,h2,h⟩:=ZT h;simp only[Zb,ZQ,Zg]at h;obtain⟨⟨⟨rfl,rfl,rfl⟩,h3,h4,h5,h6,h7⟩,rfl,rfl⟩:=h;rw[←ZY YV h1,←ZY ZO h2];exact Zaq l t vs h3 h4 h5 h6 h7
 ·cases h
def ZHu:Tabs:=Jp (ZS) 80 ZPP
theorem ZUP:SsOk Tryz.prog ZHu:=Yx (ZF) (Zc 80) ZXW
theorem ZV5:(∀a,ZHu.q 80 a=none)∧(∀a o,ZHu.t 80 a o=Ye ZPP a o)∧(∀f a o,ZHu.r f a o=none)∧(∀f a o,ZHu.k f a o=none):=⟨fun _=>rfl,fun _ _=>rfl,fun _ _ _=>rfl,fun _ _ _=>rfl⟩
theorem ZYS(dn:List UInt8)(l:List ZX)(hl:l.length≤100)(ht: ∀a∈l,a.1.length≤1000000)(hb: ∀a∈l,a.2.1.length≤400):ZC Tryz.prog 41 [.agg [.x (.str dn),.x (.sl (rows Zi l))]] (.agg [.x (.str dn),.x (.sl (rows Zi (YP l)))]):=by
 refine ZJ.pure (fC 41 true ?_) rfl;intro C0 E0;have uu:=Yq @ZPP.eq_1 @ZV5;have tT:=ZUP;refine nz ?_;refine rg tT [1,2] ?_;refine rg tT [1,2,3] ?_;refine rg tT [2,3,10,11,12] ?_;refine WI.ownBox 2 1 94 2 rfl rfl ?_;dsimp only[List.set_cons_succ,List.set_cons_zero,Jh,ξN,List.cons_append,List.nil_append,Nat.reduceAdd,Nat.zero_add];refine WI.pickA [1,2,3] ?_;refine WI.loop (fun φ os=> ∃(j:Nat),φ= [(2,.ptr 0 0),(3,.ptr 1 0),(10,.x (.sl (rows Zi l))),(11,.x (.int .i64 l.length)),(12,.x (.int .i64 j))]∧os= [.box [.x (.str []),.x .nils],.box [.x (.str dn),.ref 2 (YP (l.take j)).length 0 (YP (l.take j)).length],.rows false 94 2 (rows Zi (YP (l.take j)))]∧j≤l.length) (ZV l.length 12) ?_ (fun φ os hI=> ?_)
 ·exact⟨0,rfl,rfl,by omega⟩
 ·obtain⟨j,rfl,rfl,hj⟩:=hI;refine nz ?_;refine rg tT [2,3,10,11,12,13] ?_;refine cd (fun h0=> ?_) (fun h0=> ?_)
  ·have hj4:j<l.length:=by omega
   have hrw:=ZKe l j hj4;have hst:=ZC1 l j hj4;have hso:=ZH3 l j (by omega);have hcl:=ZGx l j (by omega);have hcv: ∀a∈YP (l.take j),a.2.1.length≤50000:=fun a ha=>by have:=ZFU l hb j (by omega) a ha;omega
   have hg:l.getD j ([],[],())=l[j]:=by simp[hj4]
   have hxl:=ht l[j] (YY hj4);have hxv:=hb l[j] (YY hj4);rw[←hg]at hxl hxv;generalize l.getD j ([],[],())=x at hrw hst hxl hxv;generalize YP (l.take j)=acc at hst hso hcl hcv⊢;have hua:ZZ Zi (rows Zi acc)=some acc:=Zv YV acc;have hux:ZZ ZB (rows ZB x.2.1)=some x.2.1:=Zv ZO x.2.1;have hdd:decide (SoA acc∧acc.length≤100000∧x.1.length≤140737488355328∧x.2.1.length≤50000∧ ∀a∈acc,a.2.1.length≤50000)=true:=Zd ⟨hso,by omega,by omega,by omega,hcv⟩;have uu:=ξ5 uu hrw hua hux hdd;refine rg tT [2,3,5,10,11,12] ?_;refine rg tT [2,3,10,11,12] ?_;refine WI.pickA [0,1,2] ?_;refine rg tT [2,3,10,11,12] ?_;exact⟨⟨j+1,rfl,by rw[hst],by omega⟩,by simp[ZV,Ab.get,D.val,ZG];omega⟩
  ·obtain rfl:j=l.length:=by omega
   rw[Km];refine rg tT [2] ?_;refine lf ?_
   first|rfl|exact⟨rfl,rfl⟩|trivial
def ZCm:List D→Option (Bool×D)
 | [.agg [.x (.str dn),.x (.sl R)]]=>(ZZ Zi R).bind fun l=>some (decide (l.length≤100∧(∀a∈l,a.1.length≤1000000)∧ ∀a∈l,a.2.1.length≤400),.agg [.x (.str dn),.x (.sl (rows Zi (YP l)))])
 |_=>none
theorem ZKJ: ∀args r,ZCm args=some (true,r)→ZC Tryz.prog 41 args r:=by
 intro args r h;unfold ZCm at h;split at h
 ·rename_i dn R;obtain⟨l,hr0,h⟩:=Zt h;simp only[Za,Zb,ZQ,Zg,true_and]at h;obtain⟨h1,rfl⟩:=h;rw[←ZY YV hr0];exact(ZYS dn l h1.1 h1.2.1 h1.2.2)
 ·cases h
end Go.Proofs.YtiogclkbccdefaaGreatDoor
end
section
namespace Go.Proofs.YtiogclkbccdefaaGreatDoor
open Go.RowKit Go.Bo Go.Ab
theorem ZVe(b:Bool):ZC Tryz.prog 186 [.x (.bool b)] (.x (.int .i64 (if b=true then 1 else 0))):=by
 refine ZJ.pure (fC 186 true ?_) rfl;intro C0 E0;have uu:=trivial;have tT:=(ZF:SsOk Tryz.prog ZS);refine nz ?_;refine rg tT [0] ?_;refine rg tT [3] ?_;refine cd (fun h0=> ?_) (fun h0=> ?_)
 ·refine rg tT [2] ?_;refine lf ?_
  (clear uu;grind)
 ·refine rg tT [2] ?_;refine lf ?_
  (clear uu;grind)
def ZAZ:List D→Option (Bool×D)
 | [.x (.bool b)]=>some (true,.x (.int .i64 (if b=true then 1 else 0)))
 |_=>none
theorem ZJx: ∀args r,ZAZ args=some (true,r)→ZC Tryz.prog 186 args r:=by
 intro args r h;unfold ZAZ at h;split at h
 ·rename_i b;simp only[Za,Zb,ZQ,Zg,true_and]at h;obtain rfl:=h;exact(ZVe b)
 ·cases h
def ZHq:Tabs:=ZU (ZU (ZS) 154 Jk) 186 ZAZ
theorem ZUW:SsOk Tryz.prog ZHq:=ZH (ZH (ZF) (Zc 154) ZHW) (Zc 186) ZJx
theorem ZWo:(∀a,ZHq.q 154 a=Jk a)∧(∀a,ZHq.q 186 a=ZAZ a)∧(∀f a o,ZHq.r f a o=none)∧(∀f a o,ZHq.k f a o=none):=⟨fun _=>rfl,fun _=>rfl,fun _ _ _=>rfl,fun _ _ _=>rfl⟩
theorem ZaJ(k:Int)(a b:Tx):ZC Tryz.prog 185 [.x (.int .i64 k),.x (.str a),.x (.str b)] (.tup [.x (.str (Jd k a).1),.x (.str (Jd k b).1),.x (.bool ((Jd k a).2&&(Jd k b).2))]):=by
 refine ZJ.pure (fC 185 true ?_) rfl;intro C0 E0;have uu:=ξ5 @Jk.eq_1 @Jk.eq_2 @ZWo @ZAZ.eq_1 @ZAZ.eq_2;have tT:=ZUW;refine nz ?_;refine rg tT [0,1,2] ?_;refine rg tT [0,2,9,10] ?_;refine rg tT [9,10,11,12] ?_;refine rg tT [6,7,8] ?_;refine lf ?_
 first|rfl|exact⟨rfl,rfl⟩|trivial
def ZIu:List D→Option (Bool×D)
 | [.x (.int .i64 k),.x (.str a),.x (.str b)]=>some (true,.tup [.x (.str (Jd k a).1),.x (.str (Jd k b).1),.x (.bool ((Jd k a).2&&(Jd k b).2))])
 |_=>none
theorem ZUq: ∀args r,ZIu args=some (true,r)→ZC Tryz.prog 185 args r:=by
 intro args r h;unfold ZIu at h;split at h
 ·rename_i k a b;simp only[Za,Zb,ZQ,Zg,true_and]at h;obtain rfl:=h;exact(ZaJ k a b)
 ·cases h
def ZIR:Tabs:=ZU (ZU (ZS) 185 ZIu) 186 ZAZ
theorem ZS7:SsOk Tryz.prog ZIR:=ZH (ZH (ZF) (Zc 185) ZUq) (Zc 186) ZJx
theorem ZU1:(∀a,ZIR.q 185 a=ZIu a)∧(∀a,ZIR.q 186 a=ZAZ a)∧(∀f a o,ZIR.r f a o=none)∧(∀f a o,ZIR.k f a o=none):=⟨fun _=>rfl,fun _=>rfl,fun _ _ _=>rfl,fun _ _ _=>rfl⟩
theorem ZVh(k:Int)(a b:Tx):ZC Tryz.prog 162 [.x (.int .i64 k),.x (.str a),.x (.str b)] (.x (.int .i64 (eqV k a b))):=by
 rcases hu:eqV k a b with u
 unfold eqV at hu;refine ZJ.pure (fC 162 true ?_) rfl;intro C0 E0;have uu:=ξ5 @ZIu.eq_1 @ZIu.eq_2 @ZAZ.eq_1 @ZAZ.eq_2 @ZU1;have tT:=ZS7;refine nz ?_;refine rg tT [0,1,2] ?_;refine rg tT [7,8,9] ?_;refine rg tT [7,8,19] ?_;refine cd (fun h0=> ?_) (fun h0=> ?_)
 ·refine rg tT [6] ?_;refine lf ?_
  (clear uu;grind)
 ·refine rg tT [6] ?_;refine lf ?_
  (clear uu;grind)
def ZD2:List D→Option (Bool×D)
 | [.x (.int .i64 k),.x (.str a),.x (.str b)]=>some (true,.x (.int .i64 (eqV k a b)))
 |_=>none
theorem ZRB: ∀args r,ZD2 args=some (true,r)→ZC Tryz.prog 162 args r:=by
 intro args r h;unfold ZD2 at h;split at h
 ·rename_i k a b;simp only[Za,Zb,ZQ,Zg,true_and]at h;obtain rfl:=h;exact(ZVh k a b)
 ·cases h
def smL(l:List ZX):Prop:=l.length≤100∧(∀a∈l,a.1.length≤1000000)∧ ∀a∈l,a.2.1.length≤400
instance (l:List ZX):Decidable (smL l):=inferInstanceAs (Decidable (_∧_∧_))
def ZJO(l:List ZX)(n:Tx):List Tx:=Jm (YP l) (ZE n)
def ZFp:Tabs:=ZU (ZU (ZU (ZS) 63 Zk) 41 ZCm) 124 ZFX
theorem ZSm:SsOk Tryz.prog ZFp:=ZH (ZH (ZH (ZF) (Zc 63) QR) (Zc 41) ZKJ) (Zc 124) ZQX
theorem ZW6:(∀a,ZFp.q 63 a=Zk a)∧(∀a,ZFp.q 41 a=ZCm a)∧(∀a,ZFp.q 124 a=ZFX a)∧(∀f a o,ZFp.r f a o=none)∧(∀f a o,ZFp.k f a o=none):=⟨fun _=>rfl,fun _=>rfl,fun _=>rfl,fun _ _ _=>rfl,fun _ _ _=>rfl⟩
theorem ZGe(l:List ZX):YP (l.take l.length)=YP l:=by rw[Km]
theorem Zas(dn:Tx)(l:List ZX)(n:Tx)(h:smL l)(hn:n.length≤140737488355328):ZC Tryz.prog 95 [.agg [.x (.str dn),.x (.sl (rows Zi l))],.x (.str n)] (.x (.sl (rows ZB (ZJO l n)))):=by
 have hd1:decide (l.length≤100∧(∀a∈l,a.1.length≤1000000)∧ ∀a∈l,a.2.1.length≤400)=true:=Zd h;have hdn:=Zd hn;have hso:SoA (YP l):=by have:=ZH3 l l.length (Zh _);rwa [ZGe]at this
 have hcl:(YP l).length≤100:=by have:=ZGx l l.length (Zh _);rw[ZGe]at this;have:=h.1;omega
 have hul:ZZ Zi (rows Zi l)=some l:=Zv YV l;have huc:ZZ Zi (rows Zi (YP l))=some (YP l):=Zv YV _;have hds:decide (SoA (YP l)∧(YP l).length≤1000000)=true:=Zd ⟨hso,by omega⟩;unfold ZJO;rcases hb:Jm (YP l) (ZE n)with V
 refine ZJ.pure (fC 95 true ?_) rfl;intro C0 E0;have uu:=Qy @Zk.eq_1 @Zk.eq_2 @ZCm.eq_1 @ZCm.eq_2 @ZFX.eq_1 @ZFX.eq_2 hd1 hdn (ξ4 hul huc hds @ZW6);have tT:=ZSm;refine nz ?_;refine rg tT [1,2] ?_;refine rg tT [1,5] ?_;refine WI.dregB tT [5,6,7] ?_;refine Yo ?_;refine dQG ?_;refine Yo ?_;refine dQC ?_;refine dAC ?_;refine Yo ?_
 iterate 2 refine dFG ?_
 iterate 2 refine Yo ?_
 refine dN ?_;refine nz ?_;refine rg tT [5,6,19] ?_;refine cd (fun h0=> ?_) (fun h0=> ?_)
 ·have hh:ZAx (YP l) (ZE n)=false:=by simpa using h0
  have hb0:V= []:=by rw[←hb];unfold Jm;rw[if_neg (by rw[hh];decide)]
  subst hb0;refine rg tT [4] ?_;refine WI.nnA ?_;refine lf ?_
  first|rfl|exact⟨rfl,rfl⟩|trivial
 ·have hh:ZAx (YP l) (ZE n)=true:=by simpa using h0
  have hrw:=(ZF5 hh).1;rw[hb]at hrw;have hlt:=ZEf hh;have hd5:=Zd (show((Zj (YP l) (ZE n):Nat):Int)<((YP l).length:Int) by omega);have uu:=KE uu hrw hd5;refine rg tT [4] ?_;refine WI.nnA ?_;refine lf ?_
  first|rfl|exact⟨rfl,rfl⟩|trivial
def ZLD:List D→Option (Bool×D)
 | [.agg [.x (.str dn),.x (.sl R)],.x (.str n)]=>(ZZ Zi R).bind fun l=>some (decide (smL l∧n.length≤140737488355328),.x (.sl (rows ZB (ZJO l n))))
 |_=>none
theorem ZYW: ∀args r,ZLD args=some (true,r)→ZC Tryz.prog 95 args r:=by
 intro args r h;unfold ZLD at h;split at h
 ·rename_i dn R n;obtain⟨l,hr0,h⟩:=Zt h;simp only[Za,Zb,ZQ,Zg,true_and]at h;obtain⟨h1,rfl⟩:=h;rw[←ZY YV hr0];exact(Zas dn l n h1.1 h1.2)
 ·cases h
def ZWa(l:List ZX)(n v:Tx)(k:Int):Bool:=(ZJO l n).any fun x=>decide (eqV k x v=1)
def ZIT:Tabs:=ZU (ZU (ZS) 95 ZLD) 162 ZD2
theorem ZTk:SsOk Tryz.prog ZIT:=ZH (ZH (ZF) (Zc 95) ZYW) (Zc 162) ZRB
theorem ZVx:(∀a,ZIT.q 95 a=ZLD a)∧(∀a,ZIT.q 162 a=ZD2 a)∧(∀f a o,ZIT.r f a o=none)∧(∀f a o,ZIT.k f a o=none):=⟨fun _=>rfl,fun _=>rfl,fun _ _ _=>rfl,fun _ _ _=>rfl⟩
theorem ZPX(p:Tx→Bool)(l:List Tx)(j:Nat)(h:j<l.length):(l.take (j+1)).any p=((l.take j).any p||p (l.getD j [])):=by
 rw[KT h,List.any_append];simp[h]
theorem ZWr(l:List ZX)(n:Tx)(h:smL l):(ZJO l n).length≤50000:=by
 unfold ZJO;refine ZON (fun a ha=> ?_);have h1:=ZFU l h.2.2 l.length (Zh _) a (by rw[ZGe];exact ha);have:=h.1;omega
theorem Za5(dn:Tx)(l:List ZX)(n v:Tx)(k:Int)(h:smL l)(hn:n.length≤140737488355328):ZC Tryz.prog 123 [.agg [.x (.str dn),.x (.sl (rows Zi l))],.x (.str n),.x (.str v),.x (.int .i64 k)] (.x (.bool (ZWa l n v k))):=by
 have hd1:decide (smL l∧n.length≤140737488355328)=true:=Zd ⟨h,hn⟩;have hul:ZZ Zi (rows Zi l)=some l:=Zv YV l;have hgl:=ZWr l n h;unfold ZWa;rcases hg:ZJO l n with V
 rw[hg]at hgl;refine ZJ.pure (fC 123 true ?_) rfl;intro C0 E0;have uu:=ξ8 @ZLD.eq_1 @ZLD.eq_2 @ZD2.eq_1 @ZD2.eq_2 hd1 hul hg @ZVx;have tT:=ZTk;refine nz ?_;refine rg tT [1,2,3,4] ?_;refine rg tT [2,3,13,14,15] ?_;refine WI.pickA [] ?_;refine WI.orderA [2,3,13,14,15] ?_;refine WI.loop (fun φ os=> ∃(j:Nat),φ= [(2,.x (.str v)),(3,.x (.int .i64 k)),(13,.x (.sl (rows ZB V))),(14,.x (.int .i64 V.length)),(15,.x (.int .i64 j))]∧os= []∧j≤V.length∧(V.take j).any (fun x=>decide (eqV k x v=1))=false) (ZV V.length 15) ?_ (fun φ os hI=> ?_)
 ·exact⟨0,rfl,rfl,by omega,rfl⟩
 ·obtain⟨j,rfl,rfl,hj,hno⟩:=hI;refine nz ?_;refine rg tT [2,3,13,14,15,16] ?_;refine cd (fun h0=> ?_) (fun h0=> ?_)
  ·have hj4:j<V.length:=by omega
   have hrw:(rows ZB V)[j]? =some [X.str (V.getD j [])]:=by simp[rows,hj4,ZB]
   have hat:=ZPX (fun x=>decide (eqV k x v=1)) V j hj4;have hmem:V.getD j []∈V:=by rw[show V.getD j []=V[j] by simp[hj4]];exact YY hj4
   generalize V.getD j []=x at hrw hat hmem;have uu:=Yq uu hrw;refine rg tT [2,3,10,13,14,15] ?_;refine rg tT [2,3,13,14,15,23] ?_;refine cd (fun h1=> ?_) (fun h1=> ?_)
   ·have hx:eqV k x v=1:=by simpa using h1
    refine rg tT [8] ?_;refine lf ?_;rw[List.any_eq_true.2 ⟨x,hmem,Zd hx⟩]
   ·have hx:decide (eqV k x v=1)=false:=by simpa using h1
    refine rg tT [2,3,13,14,15] ?_;exact⟨⟨j+1,rfl,rfl,by omega,by rw[hat,hno,hx];rfl⟩,by simp[ZV,Ab.get,D.val,ZG];omega⟩
  ·refine rg tT [8] ?_;refine lf ?_;rw[Yp (by omega)]at hno;rw[hno]
def ZVa:List D→Option (Bool×D)
 | [.agg [.x (.str dn),.x (.sl R)],.x (.str n),.x (.str v),.x (.int .i64 k)]=>(ZZ Zi R).bind fun l=>some (decide (smL l∧n.length≤140737488355328),.x (.bool (ZWa l n v k)))
 |_=>none
theorem ZYm: ∀args r,ZVa args=some (true,r)→ZC Tryz.prog 123 args r:=by
 intro args r h;unfold ZVa at h;split at h
 ·rename_i dn R n v k;obtain⟨l,hr0,h⟩:=Zt h;simp only[Za,Zb,ZQ,Zg,true_and]at h;obtain⟨h1,rfl⟩:=h;rw[←ZY YV hr0];exact(Za5 dn l n v k h1.1 h1.2)
 ·cases h
end Go.Proofs.YtiogclkbccdefaaGreatDoor
end
section
namespace Go.Proofs.YtiogclkbccdefaaGreatDoor
open Go.RowKit Go.Bo Go.Ab
def okS(s:Tx):Bool:=decide (JU s=(s,0))
def ZAP(s:Tx):List Tx:=if okS s=true then(Yw s).1.map fun r=>(ZAE [r]).1 else []
theorem ZXj(s:Tx)(h:(Yw s).2=0):smD (Yw s).1:=by
 unfold Yw at h⊢;split
 ·intro r hr;cases hr
 ·rename_i h1;split
  ·intro r hr;cases hr
  ·split
   ·rename_i h2;split
    ·intro r hr;cases hr
    ·split
     ·intro r hr;cases hr
     ·exact ZGl s (by omega)
   ·intro r hr;cases hr
theorem ZP1(s:Tx)(h:(Yw s).2=0):Qf (Yw s).1=0:=by
 unfold Yw at h⊢;split
 ·rename_i h1;rw[if_pos h1]at h;cases h
 ·rename_i h1;rw[if_neg h1]at h;split
  ·rfl
  ·rename_i h2;rw[if_neg h2]at h;split
   ·rename_i h3;rw[if_pos h3]at h;split
    ·rename_i h4;rw[if_pos h4]at h;cases h
    ·rename_i h4;rw[if_neg h4]at h;split
     ·rename_i h5;rw[if_pos h5]at h;exact absurd h h5
     ·rename_i h5;exact ZRZ.1 h5
   ·rename_i h3;rw[if_neg h3]at h;cases h
def ZEp:Tabs:=Jp (ZU (ZU (ZU (ZS) 96 ZAa) 121 Qk) 144 Kf) 144 (QX Kf)
theorem ZSw:SsOk Tryz.prog ZEp:=Yx (ZH (ZH (ZH (ZF) (Zc 96) ZKN) (Zc 121) ZII) (Zc 144) ZEn) (Zc 144) (ZCo ZEn)
theorem ZV2:(∀a,ZEp.q 96 a=ZAa a)∧(∀a,ZEp.q 121 a=Qk a)∧(∀a,ZEp.q 144 a=Kf a)∧(∀a o,ZEp.t 144 a o=Ye (QX Kf) a o)∧(∀f a o,ZEp.r f a o=none)∧(∀f a o,ZEp.k f a o=none):=⟨fun _=>rfl,fun _=>rfl,fun _=>rfl,fun _ _=>rfl,fun _ _ _=>rfl,fun _ _ _=>rfl⟩
theorem ZXa(s:Tx):ZC Tryz.prog 114 [.x (.str s)] (.tup [.x (.sl (rows ZB (ZAP s))),.x (.bool (okS s))]):=by
 obtain⟨d,hd⟩: ∃d,(Yw s).1=d:=⟨_,rfl⟩;rcases hres:ZAP s with out
 unfold ZAP at hres;rw[hd]at hres;refine ZJ.pure (fC 114 true ?_) rfl;intro C0 E0;have uu:=Qy @ZAa.eq_1 @ZAa.eq_2 @Qk.eq_1 @Qk.eq_2 @Kf.eq_1 @Kf.eq_2 hd @ZV2 @QX.eq_1;have tT:=ZSw;refine nz ?_;refine rg tT [0] ?_;refine rg tT [0,4,5] ?_;refine rg tT [0,24] ?_;refine cd (fun h0=> ?_) (fun h0=> ?_)
 ·have hok:okS s=false:=by unfold okS;exact decide_eq_false (fun e=>by rw[e]at h0;simp at h0)
  rw[hok]at hres;refine rg tT [2,3] ?_;refine WI.nnA ?_;refine lf ?_;subst hres;rw[hok];rfl
 ·have hno:JU s=(s,0):=by
   have h1:(JU s).2=0∧(JU s).1=s:=by clear uu;grind
   exact ZDb h1.2 h1.1
  have hok:okS s=true:=Zd hno;rw[if_pos hok]at hres;have hr0:(Yw s).2=0:=by
   unfold JU at hno;split at hno
   ·rename_i h;exact absurd (congrArg Prod.snd hno) h
   ·rename_i h;exact ZRZ.1 h
  have hsm:smD d:=by rw[←hd];exact ZXj s hr0
  have hdl:d.length≤32:=by rw[←hd];exact(ZGA (ZP1 s hr0)).1
  refine rg tT [6] ?_;refine rg tT [6,8] ?_;refine rg tT [8,30,31,32] ?_;refine WI.ownA 8 9 1 ?_;refine WI.loop (fun φ os=> ∃(j:Nat),φ= [(8,.ref 0 ((d.take j).map fun r=>(ZAE [r]).1).length 0 ((d.take j).map fun r=>(ZAE [r]).1).length),(30,.x (.sl (rows Kc d))),(31,.x (.int .i64 d.length)),(32,.x (.int .i64 j))]∧os= [.rows false 9 1 (rows ZB ((d.take j).map fun r=>(ZAE [r]).1))]∧j≤d.length) (ZV d.length 32) ?_ (fun φ os hI=> ?_)
  ·exact⟨0,rfl,rfl,by omega⟩
  ·obtain⟨j,rfl,rfl,hj⟩:=hI;refine nz ?_;refine rg tT [8,30,31,32,33] ?_;refine cd (fun h1=> ?_) (fun h1=> ?_)
   ·have hj4:j<d.length:=by omega
    have hrw:=ZLu d j hj4;have htk:(d.take (j+1)).map (fun r=>(ZAE [r]).1)=(d.take j).map (fun r=>(ZAE [r]).1)++ [(ZAE [d.getD j []]).1]:=by rw[KT hj4,Jq];simp[hj4]
    have hs1:decide (smD [d.getD j []])=true:=Zd (fun r hr p hp=>by
     rw[ZCC]at hr;subst hr;exact hsm _ (by rw[show d.getD j []=d[j] by simp[hj4]];exact YY hj4) p hp)
    have hlen2:((d.take j).map fun r=>(ZAE [r]).1).length≤1000000:=by rw[YL,Yv];omega
    generalize d.getD j []=r at hrw htk hs1;have hur:ZZ Kc [[X.sl (rows Zz r)]]=some [r]:=Zv ZFA [r];have uu:=ξ4 uu hrw hs1 hur;refine rg tT [8,10,30,31,32] ?_;refine rg tT [8,11,30,31,32] ?_;refine rg tT [8,30,31,32] ?_;refine WI.pickA [0] ?_;refine rg tT [8,30,31,32] ?_;exact⟨⟨j+1,by rw[htk,Zw];rfl,by rw[htk];simp[rows,ZB],by omega⟩,by simp[ZV,Ab.get,D.val,ZG];omega⟩
   ·obtain rfl:j=d.length:=by omega
    rw[Km,hres];refine rg tT [2,3] ?_;refine WI.nnA ?_;refine lf ?_;rw[hok]
def ZDQ:List D→Option (Bool×D)
 | [.x (.str s)]=>some (true,.tup [.x (.sl (rows ZB (ZAP s))),.x (.bool (okS s))])
 |_=>none
theorem ZSx: ∀args r,ZDQ args=some (true,r)→ZC Tryz.prog 114 args r:=by
 intro args r h;unfold ZDQ at h;split at h
 ·rename_i s;simp only[Za,Zb,ZQ,Zg,true_and]at h;obtain rfl:=h;exact(ZXa s)
 ·cases h
theorem ZUr{s:Tx}(h:okS s=true):(Yw s).2=0:=by
 have hno:JU s=(s,0):=of_decide_eq_true h;unfold JU at hno;split at hno
 ·rename_i h;exact absurd (congrArg Prod.snd hno) h
 ·rename_i h;exact ZRZ.1 h
theorem ZWU(d:Dn):(ZAE d).1.length≤4096:=by
 unfold ZAE;split
 ·simp
 ·split
  ·simp
  ·rename_i h;simpa using h
theorem ZMT(s:Tx):(ZAP s).length≤32∧ ∀x∈ZAP s,x.length≤4096:=by
 unfold ZAP;split
 ·rename_i h;refine⟨by rw[YL];exact(ZGA (ZP1 s (ZUr h))).1,fun x hx=> ?_⟩;obtain⟨r,_,rfl⟩:=YQ.1 hx;exact ZWU _
 ·simp
def ZK4:Tabs:=ZU (ZS) 77 QF
theorem ZSq:SsOk Tryz.prog ZK4:=ZH (ZF) (Zc 77) ZEj
theorem ZWN:(∀a,ZK4.q 77 a=QF a)∧(∀f a o,ZK4.r f a o=none)∧(∀f a o,ZK4.k f a o=none):=⟨fun _=>rfl,fun _ _ _=>rfl,fun _ _ _=>rfl⟩
theorem Zal(l:List Tx)(hl:l.length≤32)(hb: ∀x∈l,x.length≤4096)(h0:l≠ []):ZC Tryz.prog 76 [.x (.sl (rows ZB l))] (.x (.str (jnc 44 (l.drop 1)))):=by
 have hpos:0<l.length:=ZOh.2 h0;have hjl:=ZIg 44 4096 (l.drop 1) (fun x hx=>hb x (ZBQ hx));rw[KC]at hjl;have hd1:decide ((Lib.join (l.drop 1) [44]).length≤140737488355328∧(l.drop 1).length≤140737488355328)=true:=Zd ⟨by rw[ZBn];omega,by rw[KC];omega⟩;have hj:Lib.join (l.drop 1) [44]=jnc 44 (l.drop 1):=ZBn 44 _;refine ZJ.pure (fC 76 true ?_) rfl;intro C0 E0;have uu:=ξ5 @QF.eq_1 @QF.eq_2 hd1 hj @ZWN;have tT:=ZSq;refine nz ?_;refine rg tT [0] ?_;refine rg tT [2] ?_;refine lf ?_
 first|rfl|exact⟨rfl,rfl⟩|trivial
theorem ZXf(l:List Tx)(h0:l≠ [])(hl:l.length≤32):ZC Tryz.prog 128 [.x (.sl (rows ZB l))] (.x (.str (l.headD []))):=by
 obtain⟨x,l,rfl⟩:=List.exists_cons_of_ne_nil h0;have hrw:(rows ZB (x::l))[0]? =some [X.str x]:=rfl;refine ZJ.pure (fC 128 true ?_) rfl;intro C0 E0;have uu:=hrw;have tT:=(ZF:SsOk Tryz.prog ZS);refine nz ?_;refine rg tT [0] ?_;refine rg tT [2] ?_;refine lf ?_
 first|rfl|exact⟨rfl,rfl⟩|trivial
def ZFK:List D→Option (Bool×D)
 | [.x (.sl R)]=>(ZZ ZB R).bind fun l=>some (decide (l.length≤32∧(∀x∈l,x.length≤4096)∧l≠ []),.x (.str (jnc 44 (l.drop 1))))
 |_=>none
theorem ZUh: ∀args r,ZFK args=some (true,r)→ZC Tryz.prog 76 args r:=by
 intro args r h;unfold ZFK at h;split at h
 ·rename_i R;obtain⟨l,hr0,h⟩:=Zt h;simp only[Za,Zb,ZQ,Zg,true_and]at h;obtain⟨h1,rfl⟩:=h;rw[←ZY ZO hr0];exact(Zal l h1.1 h1.2.1 h1.2.2)
 ·cases h
def ZDD:List D→Option (Bool×D)
 | [.x (.sl R)]=>(ZZ ZB R).bind fun l=>some (decide (l≠ []∧l.length≤32),.x (.str (l.headD [])))
 |_=>none
theorem ZSv: ∀args r,ZDD args=some (true,r)→ZC Tryz.prog 128 args r:=by
 intro args r h;unfold ZDD at h;split at h
 ·rename_i R;obtain⟨l,hr0,h⟩:=Zt h;simp only[Za,Zb,ZQ,Zg,true_and]at h;obtain⟨h1,rfl⟩:=h;rw[←ZY ZO hr0];exact(ZXf l h1.1 h1.2)
 ·cases h
def ZFq:Tabs:=ZU (ZU (ZU (ZS) 114 ZDQ) 76 ZFK) 128 ZDD
theorem ZLx:SsOk Tryz.prog ZFq:=ZH (ZH (ZH (ZF) (Zc 114) ZSx) (Zc 76) ZUh) (Zc 128) ZSv
theorem ZO4:(∀a,ZFq.q 114 a=ZDQ a)∧(∀a,ZFq.q 76 a=ZFK a)∧(∀a,ZFq.q 128 a=ZDD a)∧(∀f a o,ZFq.r f a o=none)∧(∀f a o,ZFq.k f a o=none):=⟨fun _=>rfl,fun _=>rfl,fun _=>rfl,fun _ _ _=>rfl,fun _ _ _=>rfl⟩
def ZPG(s:Tx):Tx:=jnc 44 ((ZAP s).drop 1)
def Yf(s:Tx):Tx:=(ZAP s).headD []
def ZFV(s:Tx):Bool:=decide (ZAP s≠ [])
theorem Za3(s:Tx):ZC Tryz.prog 75 [.x (.str s),.fn 76 []] (.tup [.x (.str (ZPG s)),.x (.bool (ZFV s))]):=by
 obtain⟨hl,hb⟩:=ZMT s;unfold ZPG ZFV;generalize hp:ZAP s=l at hl hb⊢;have hul:ZZ ZB (rows ZB l)=some l:=Zv ZO l;refine ZJ.pure (fC 75 true ?_) rfl;intro C0 E0;have uu:=Qy @ZDQ.eq_1 @ZDQ.eq_2 @ZFK.eq_1 @ZFK.eq_2 hul hp @ZO4 @ZDD.eq_1 @ZDD.eq_2;have tT:=ZLx;refine nz ?_;refine rg tT [0,1] ?_;refine rg tT [1,6] ?_;refine rg tT [1,6,15] ?_;refine cd (fun h0=> ?_) (fun h0=> ?_)
 ·obtain rfl:l= []:=ξO (by simpa using h0);refine rg tT [4,5] ?_;refine lf ?_
  first|rfl|exact⟨rfl,rfl⟩|trivial
 ·have h0:l≠ []:=fun e=>by subst e;simp at h0
  have hd1:decide (l.length≤32∧(∀x∈l,x.length≤4096)∧l≠ [])=true:=Zd ⟨hl,hb,h0⟩;have uu:=Yq uu hd1;refine rg tT [4,5] ?_;refine lf ?_;rw[Zd h0]
theorem Za4(s:Tx):ZC Tryz.prog 75 [.x (.str s),.fn 128 []] (.tup [.x (.str (Yf s)),.x (.bool (ZFV s))]):=by
 obtain⟨hl,hb⟩:=ZMT s;unfold Yf ZFV;generalize hp:ZAP s=l at hl hb⊢;have hul:ZZ ZB (rows ZB l)=some l:=Zv ZO l;refine ZJ.pure (fC 75 true ?_) rfl;intro C0 E0;have uu:=Qy @ZDQ.eq_1 @ZDQ.eq_2 @ZDD.eq_1 @ZDD.eq_2 hul hp @ZO4 @ZFK.eq_1 @ZFK.eq_2;have tT:=ZLx;refine nz ?_;refine rg tT [0,1] ?_;refine rg tT [1,6] ?_;refine rg tT [1,6,15] ?_;refine cd (fun h0=> ?_) (fun h0=> ?_)
 ·obtain rfl:l= []:=ξO (by simpa using h0);refine rg tT [4,5] ?_;refine lf ?_
  first|rfl|exact⟨rfl,rfl⟩|trivial
 ·have h0:l≠ []:=fun e=>by subst e;simp at h0
  have hd1:decide (l≠ []∧l.length≤32)=true:=Zd ⟨h0,hl⟩;have uu:=Yq uu hd1;refine rg tT [4,5] ?_;refine lf ?_;rw[Zd h0]
def ZLt:List D→Option (Bool×D)
 | [.x (.str s),.fn 76 []]=>some (true,.tup [.x (.str (ZPG s)),.x (.bool (ZFV s))])
 |_=>none
theorem ZX0: ∀args r,ZLt args=some (true,r)→ZC Tryz.prog 75 args r:=by
 intro args r h;unfold ZLt at h;split at h
 ·rename_i s;simp only[Za,Zb,ZQ,Zg,true_and]at h;obtain rfl:=h;exact(Za3 s)
 ·cases h
def ZLi:List D→Option (Bool×D)
 | [.x (.str s),.fn 128 []]=>some (true,.tup [.x (.str (Yf s)),.x (.bool (ZFV s))])
 |_=>none
theorem ZX8: ∀args r,ZLi args=some (true,r)→ZC Tryz.prog 75 args r:=by
 intro args r h;unfold ZLi at h;split at h
 ·rename_i s;simp only[Za,Zb,ZQ,Zg,true_and]at h;obtain rfl:=h;exact(Za4 s)
 ·cases h
def ZKL:Tabs:=ZU (ZS) 75 ZLt
theorem ZTW:SsOk Tryz.prog ZKL:=ZH (ZF) (Zc 75) ZX0
theorem ZVz:(∀a,ZKL.q 75 a=ZLt a)∧(∀f a o,ZKL.r f a o=none)∧(∀f a o,ZKL.k f a o=none):=⟨fun _=>rfl,fun _ _ _=>rfl,fun _ _ _=>rfl⟩
def ZKX:Tabs:=ZU (ZS) 75 ZLi
theorem ZTd:SsOk Tryz.prog ZKX:=ZH (ZF) (Zc 75) ZX8
theorem ZVp:(∀a,ZKX.q 75 a=ZLi a)∧(∀f a o,ZKX.r f a o=none)∧(∀f a o,ZKX.k f a o=none):=⟨fun _=>rfl,fun _ _ _=>rfl,fun _ _ _=>rfl⟩
theorem ZVg(s:Tx):ZC Tryz.prog 39 [.x (.str s)] (.tup [.x (.str (ZPG s)),.x (.bool (ZFV s))]):=by
 refine ZJ.pure (fC 39 true ?_) rfl;intro C0 E0;have uu:=KE @ZLt.eq_1 @ZLt.eq_2 @ZVz;have tT:=ZTW;refine nz ?_;refine rg tT [0] ?_;refine rg tT [2,3] ?_;refine lf ?_
 first|rfl|exact⟨rfl,rfl⟩|trivial
theorem Zak(s:Tx):ZC Tryz.prog 81 [.x (.str s)] (.tup [.x (.str (Yf s)),.x (.bool (ZFV s))]):=by
 refine ZJ.pure (fC 81 true ?_) rfl;intro C0 E0;have uu:=KE @ZLi.eq_1 @ZLi.eq_2 @ZVp;have tT:=ZTd;refine nz ?_;refine rg tT [0] ?_;refine rg tT [2,3] ?_;refine lf ?_
 first|rfl|exact⟨rfl,rfl⟩|trivial
def ZLC:List D→Option (Bool×D)
 | [.x (.str s)]=>some (true,.tup [.x (.str (ZPG s)),.x (.bool (ZFV s))])
 |_=>none
theorem ZRP: ∀args r,ZLC args=some (true,r)→ZC Tryz.prog 39 args r:=by
 intro args r h;unfold ZLC at h;split at h
 ·rename_i s;simp only[Za,Zb,ZQ,Zg,true_and]at h;obtain rfl:=h;exact(ZVg s)
 ·cases h
def ZHC:List D→Option (Bool×D)
 | [.x (.str s)]=>some (true,.tup [.x (.str (Yf s)),.x (.bool (ZFV s))])
 |_=>none
theorem ZNT: ∀args r,ZHC args=some (true,r)→ZC Tryz.prog 81 args r:=by
 intro args r h;unfold ZHC at h;split at h
 ·rename_i s;simp only[Za,Zb,ZQ,Zg,true_and]at h;obtain rfl:=h;exact(Zak s)
 ·cases h
end Go.Proofs.YtiogclkbccdefaaGreatDoor
end
section
namespace Go.Proofs.YtiogclkbccdefaaGreatDoor
open Go.RowKit Go.Bo Go.Ab
theorem Zaj(b:Bool)(c:Int):ZC Tryz.prog 120 [.x (.bool b),.x (.int .i64 c)] (.x (.int .i64 (if b=true then c else 0))):=by
 refine ZJ.pure (fC 120 true ?_) rfl;intro C0 E0;have uu:=trivial;have tT:=(ZF:SsOk Tryz.prog ZS);refine nz ?_;refine rg tT [0,1] ?_;refine rg tT [1,5] ?_;refine cd (fun h0=> ?_) (fun h0=> ?_)
 ·refine rg tT [4] ?_;refine lf ?_
  (clear uu;grind)
 ·refine rg tT [4] ?_;refine lf ?_
  (clear uu;grind)
def KH:List D→Option (Bool×D)
 | [.x (.bool b),.x (.int .i64 c)]=>some (true,.x (.int .i64 (if b=true then c else 0)))
 |_=>none
theorem ZJS: ∀args r,KH args=some (true,r)→ZC Tryz.prog 120 args r:=by
 intro args r h;unfold KH at h;split at h
 ·rename_i b c;simp only[Za,Zb,ZQ,Zg,true_and]at h;obtain rfl:=h;exact(Zaj b c)
 ·cases h
def Qo(k:Int)(v:Tx):Tx:=(Jd k v).1
def ZAG(k:Int)(l:List Tx):List (Tx×Int):=l.map fun v=>(Qo k v,(1:Int))
def twV(k:Int)(l:List Tx):Bool:= !decide (l.map (Qo k)).Nodup
theorem ZGt(k:Int): ∀(l:List Tx) (x:Tx),ZR (ZAG k l) x=if x∈l.map (Qo k)then some 1 else none
 | [],x=>by simp[ZAG,ZR]
 |v::l,x=>by
  have ih:=ZGt k l x;by_cases h:x=Qo k v
  ·simp[ZAG,ZR,h]
  ·have e:(x∈(v::l).map (Qo k))=(x∈l.map (Qo k)):=by simp[h]
   have e2:ZR (ZAG k (v::l)) x=ZR (ZAG k l) x:=by simp[ZAG,ZR,h]
   rw[e2,ih];simp only[e]
theorem ZSs(k:Int)(l:List Tx)(x:Tx):JB (YG Jj Kx (ZAG k l)) [X.str x]=if x∈l.map (Qo k)then some [D.x (X.int .i64 1)]else none:=by
 rw[ZEd Jj Kx hkS (ZAG k l) x,ZGt];split<;>rfl
theorem ZSz(k:Int)(l:List Tx)(v:Tx)(h:Qo k v∉l.map (Qo k)):YI (YG Jj Kx (ZAG k l)) [X.str (Qo k v)] [D.x (X.int .i64 1)]=YG Jj Kx (ZAG k (l++ [v])):=by
 have e:=ZCg Jj Kx hkS (ZAG k l) (Qo k v) 1;rw[ZGY (by rw[ZGt,if_neg h])]at e;have e2:ZAG k (l++ [v])=ZAG k l++ [(Qo k v,1)]:=by simp[ZAG]
 rw[e2];exact e
theorem QM(l:List Tx)(j:Nat)(h:j<l.length):(rows ZB l)[j]? =some [X.str (l.getD j [])]:=by
 simp[rows,h,ZB]
theorem ZZ8(k:Int)(l:List Tx)(j:Nat)(h:j<l.length)(hin:Qo k (l.getD j [])∈(l.take j).map (Qo k)):twV k l=true:=by
 unfold twV;rw[ZGd,decide_eq_false_iff_not];intro hn;have e:l=l.take j++l.getD j []::l.drop (j+1):=by
  have:=ZDX j l;rw[ZEc h]at this;rw[show l.getD j []=l[j] by simp[h]];exact this.symm
 rw[e,Jq,Yc]at hn;have:=(ZGv.1 hn).2.2 _ hin _ (ZDa);exact this rfl
def ZJz:Tabs:=ZU (ZS) 154 Jk
theorem ZTB:SsOk Tryz.prog ZJz:=ZH (ZF) (Zc 154) ZHW
theorem ZWh:(∀a,ZJz.q 154 a=Jk a)∧(∀f a o,ZJz.r f a o=none)∧(∀f a o,ZJz.k f a o=none):=⟨fun _=>rfl,fun _ _ _=>rfl,fun _ _ _=>rfl⟩
theorem ZYQ(k:Int)(l:List Tx)(hl:l.length≤1000000):ZC Tryz.prog 156 [.x (.int .i64 k),.x (.sl (rows ZB l))] (.x (.bool (twV k l))):=by
 refine ZJ.pure (fC 156 true ?_) rfl;intro C0 E0;have uu:=KE @Jk.eq_1 @Jk.eq_2 @ZWh;have tT:=ZTB;refine nz ?_;refine rg tT [0,1] ?_;refine rg tT [0,1,5] ?_;refine rg tT [0,5,11,12,13] ?_;refine WI.loop (fun φ os=> ∃(j:Nat),φ= [(0,.x (.int .i64 k)),(5,.mref 0),(11,.x (.sl (rows ZB l))),(12,.x (.int .i64 l.length)),(13,.x (.int .i64 j))]∧os= [.mpo .str false (YG Jj Kx (ZAG k (l.take j)))]∧j≤l.length∧((l.take j).map (Qo k)).Nodup) (ZV l.length 13) ?_ (fun φ os hI=> ?_)
 ·exact⟨0,rfl,rfl,by omega,by simp⟩
 ·obtain⟨j,rfl,rfl,hj,hnd⟩:=hI;refine nz ?_;refine rg tT [0,5,11,12,13,14] ?_;refine cd (fun h0=> ?_) (fun h0=> ?_)
  ·have hj4:j<l.length:=by omega
   have hrw:=QM l j hj4;have hgt:=ZSs k (l.take j) (Qo k (l.getD j []));have htk:l.take (j+1)=l.take j++ [l.getD j []]:=by rw[KT hj4];simp[hj4]
   have hnk:(Jd k (l.getD j [])).1=Qo k (l.getD j []):=rfl;have uu:=KE uu hrw hnk;refine rg tT [0,5,7,11,12,13] ?_;refine rg tT [0,5,8,11,12,13] ?_;by_cases hin:Qo k (l.getD j [])∈(l.take j).map (Qo k)
   ·rw[if_pos hin]at hgt;have uu:=Yq uu hgt;refine rg tT [0,5,8,11,12,13,26] ?_;refine ct (fun h1=> ?_) (fun h1=> ?_)
    ·refine rg tT [4] ?_;refine lf ?_;rw[ZZ8 k l j hj4 hin]
    ·simp at h1
   ·rw[if_neg hin]at hgt;have hset:=ZSz k (l.take j) (l.getD j []) hin;have uu:=KE uu hgt hset;refine rg tT [0,5,8,11,12,13,26] ?_;refine ce (fun h1=> ?_) (fun h1=> ?_)
    ·simp at h1
    ·refine WI.post ?_;refine WI.regB tT [0,5,11,12,13] ?_
     iterate 2 refine oS ?_
     iterate 3 refine oG ?_
     refine oP ?_;refine QE [0] ?_ (ho:=by simp (disch:=decide) only[zV,zO,Ob.mpb,frzL,ZAI,ZBT,Qu,Ob.onI,mpP,Yu,Yd,ZA7,D.vw,vwL,D.on,D.inP,YR,Zq,D.ren,Zs,YN,YF,Ob.mp,Ob.ren,D.nn,ZCK,Nat.reduceBEq,Nat.reduceEqDiff,Nat.reduceAdd,↓reduceIte,ZFo,QA];rfl);refine QW ?_;refine nz ?_;have hnd2:((l.take (j+1)).map (Qo k)).Nodup:=by
      rw[htk,Jq,ZGv];exact⟨hnd,by simp,fun a ha b hb=>by simp only[Yc,ZBU,ZCC]at hb;subst hb;rintro rfl;exact hin ha⟩
     refine rg tT [0,5,11,12,13] ?_;exact⟨⟨j+1,rfl,by rw[htk],by omega,hnd2⟩,by simp[ZV,Ab.get,D.val,ZG];omega⟩
  ·refine rg tT [4] ?_;refine lf ?_;rw[Yp (by omega)]at hnd;unfold twV;rw[Zd hnd];rfl
def ZC9:List D→Option (Bool×D)
 | [.x (.int .i64 k),.x (.sl R)]=>(ZZ ZB R).bind fun l=>some (decide (l.length≤1000000),.x (.bool (twV k l)))
 |_=>none
theorem ZSN: ∀args r,ZC9 args=some (true,r)→ZC Tryz.prog 156 args r:=by
 intro args r h;unfold ZC9 at h;split at h
 ·rename_i k R;obtain⟨l,hr0,h⟩:=Zt h;simp only[Za,Zb,ZQ,Zg,true_and]at h;obtain⟨h1,rfl⟩:=h;rw[←ZY ZO hr0];exact(ZYQ k l h1)
 ·cases h
def atD(a:ZX):D:= .agg [.x (.str a.1),.x (.sl (rows ZB a.2.1))]
def w1(t:Zn)(_:ZX):Int:=if t.1= []then 17 else 0
def w2(_:Zn)(a:ZX):Int:=if a.2.1.length=0 then 19 else 0
def w3(t:Zn)(a:ZX):Int:=if a.2.1.all (fun v=>(Jd t.2.1 v).2)=true then 0 else 21
def w5(t:Zn)(a:ZX):Int:=if t.2.2.1=true∧1<a.2.1.length then 19 else 0
def ZHQ:Tabs:=ZU (ZU (ZS) 120 KH) 154 Jk
theorem ZFE:SsOk Tryz.prog ZHQ:=ZH (ZH (ZF) (Zc 120) ZJS) (Zc 154) ZHW
theorem ZGL:(∀a,ZHQ.q 120 a=KH a)∧(∀a,ZHQ.q 154 a=Jk a)∧(∀f a o,ZHQ.r f a o=none)∧(∀f a o,ZHQ.k f a o=none):=⟨fun _=>rfl,fun _=>rfl,fun _ _ _=>rfl,fun _ _ _=>rfl⟩
theorem Zbr(t:Zn)(a:ZX):ZC Tryz.prog 151 [tyD t,atD a] (.x (.int .i64 (w1 t a))):=by
 unfold w1 tyD atD;refine ZJ.pure (fC 151 true ?_) rfl;intro C0 E0;have uu:=ξ5 @KH.eq_1 @KH.eq_2 @ZGL @Jk.eq_1 @Jk.eq_2;have tT:=ZFE;refine nz ?_;refine rg tT [2] ?_;refine rg tT [4] ?_;refine lf ?_
 (clear uu;grind)
theorem Zbs(t:Zn)(a:ZX):ZC Tryz.prog 152 [tyD t,atD a] (.x (.int .i64 (w2 t a))):=by
 unfold w2 tyD atD;refine ZJ.pure (fC 152 true ?_) rfl;intro C0 E0;have uu:=ξ5 @KH.eq_1 @KH.eq_2 @ZGL @Jk.eq_1 @Jk.eq_2;have tT:=ZFE;refine nz ?_;refine rg tT [3] ?_;refine rg tT [4] ?_;refine lf ?_
 (clear uu;grind)
theorem Zbm(t:Zn)(a:ZX)(hl:a.2.1.length≤1000000):ZC Tryz.prog 153 [tyD t,atD a] (.x (.int .i64 (w3 t a))):=by
 unfold w3 tyD atD;obtain⟨n,l,u⟩:=a;simp only at hl⊢;refine ZJ.pure (fC 153 true ?_) rfl;intro C0 E0;have uu:=ξ5 @Jk.eq_1 @Jk.eq_2 @ZGL @KH.eq_1 @KH.eq_2;have tT:=ZFE;refine nz ?_;refine rg tT [2,3] ?_;refine rg tT [2,10,11,12] ?_;refine WI.pickA [0] ?_;refine WI.orderA [2,10,11,12] ?_;refine WI.loop (fun φ os=> ∃(j:Nat),φ= [(2,.ptr 0 0),(10,.x (.sl (rows ZB l))),(11,.x (.int .i64 l.length)),(12,.x (.int .i64 j))]∧os= [.box [.x (.str t.1),.x (.int .i64 t.2.1),.x (.bool t.2.2.1)]]∧j≤l.length∧(l.take j).all (fun v=>(Jd t.2.1 v).2)=true) (ZV l.length 12) ?_ (fun φ os hI=> ?_)
 ·exact⟨0,rfl,rfl,by omega,rfl⟩
 ·obtain⟨j,rfl,rfl,hj,hall⟩:=hI;refine nz ?_;refine rg tT [2,10,11,12,13] ?_;refine cd (fun h0=> ?_) (fun h0=> ?_)
  ·have hj4:j<l.length:=by omega
   have hrw:=QM l j hj4;have hgj:l[j]=l.getD j []:=by simp[hj4]
   have hal:=Jx (fun v=>(Jd t.2.1 v).2) l j hj4;rw[hgj]at hal;have uu:=Yq uu hrw;refine rg tT [2,6,10,11,12] ?_;refine rg tT [2,8,10,11,12] ?_;refine rg tT [2,10,11,12,24] ?_;refine cd (fun h1=> ?_) (fun h1=> ?_)
   ·refine rg tT [4] ?_;refine lf ?_;rw[if_neg (by rw[YH (fun v=>(Jd t.2.1 v).2) l j hj4 (by rw[hgj];simpa using h1)];decide)]
   ·have hall2:(l.take (j+1)).all (fun v=>(Jd t.2.1 v).2)=true:=by rw[hal,hall];simpa using h1
    refine rg tT [2,10,11,12] ?_;exact⟨⟨j+1,rfl,rfl,by omega,hall2⟩,by simp[ZV,Ab.get,D.val,ZG];omega⟩
  ·refine rg tT [4] ?_;refine lf ?_;rw[Yp (by omega)]at hall;rw[if_pos hall]
theorem Zbj(t:Zn)(a:ZX):ZC Tryz.prog 157 [tyD t,atD a] (.x (.int .i64 (w5 t a))):=by
 unfold w5 tyD atD;refine ZJ.pure (fC 157 true ?_) rfl;intro C0 E0;have uu:=ξ5 @KH.eq_1 @KH.eq_2 @ZGL @Jk.eq_1 @Jk.eq_2;have tT:=ZFE;refine nz ?_;refine rg tT [2,3] ?_;refine rg tT [4] ?_;refine lf ?_
 (clear uu;grind)
end Go.Proofs.YtiogclkbccdefaaGreatDoor
end
