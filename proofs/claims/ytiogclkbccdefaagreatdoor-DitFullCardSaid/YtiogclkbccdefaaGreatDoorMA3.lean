import Derived.Test.YtiogclkbccdefaaGreatDoorMA2
import Derived.Test.YtiogclkbccdefaaGreatDoorMA1
import Derived.Test.YtiogclkbccdefaaGreatDoorLA5
import Derived.Test.YtiogclkbccdefaaGreatDoorSh
import Derived.Test.YtiogclkbccdefaaGreatDoorProg
set_option linter.unusedSimpArgs false
set_option linter.unusedVariables false
set_option maxRecDepth 100000
section
namespace Go.Proofs.YtiogclkbccdefaaGreatDoor
open Go.RowKit Go.Bo Go.Ab
def jnc(c:UInt8):List Tx→Tx
 | []=> []
 | [x]=>x
 |x::y::r=>x++c::jnc c (y::r)
theorem ZCl(c:UInt8): ∀l,Lib.join l [c]=jnc c l
 | []=>rfl
 | [x]=>by rw[Lib.join_one];rfl
 |x::y::r=>by
  have:=ZCl c (y::r);simp only[Lib.join,List.intercalate,List.intersperse_cons_cons,ZO9,jnc]at this⊢;rw[this];rfl
theorem ZW6(c:UInt8){x:Tx}{l:List Tx}(h:l≠ []):jnc c (x::l)=x++c::jnc c l:=by
 cases l with
 |nil=>exact absurd rfl h
 |cons y r=>rfl
theorem ZJ0(c:UInt8)(m:Nat): ∀l:List Tx,(∀x∈l,x.length≤m)→(jnc c l).length≤l.length*(m+1)
 | [],_=>by simp[jnc]
 | [x],h=>by have:=h x (by simp);simp[jnc];omega
 |x::y::r,h=>by
  have h1:=ZJ0 c m (y::r) (fun z hz=>h z (ZGo _ hz));have h2:=h x (by simp);rw[ZW6 c (by simp),Zx,JJ,JJ,JL];omega
theorem ZLW(l:List Tx)(x:Tx):rows ZB l++ [[X.str x]]=rows ZB (l++ [x]):=by simp[rows,ZB]
def ZDN(p:Av):Tx:=p.1++ [61]++ZMb p.2
def ZBb(r:List Av):Tx:=jnc 43 (r.map ZDN)
def ZM4(d:Dn):Tx:=jnc 44 (d.map ZBb)
def ZAl(d:Dn):Tx×Int:=if ZAO d≠0 then([],ZAO d)else if(ZM4 d).length>4096 then([],3)else(ZM4 d,0)
theorem ZV8(r:List Av): ∀(n j:Nat),okP r n=true→j<n→ZBT r j=true
 |n+1,j,h,hj=>by
  rw[okP,ZS]at h;by_cases e:j=n
  ·subst e;exact h.2
  ·exact ZV8 r n j h.1 (by omega)
theorem ZFL{r:List Av}(h:KH r=true):r.length≤8∧1≤r.length∧ ∀p∈r,p.1.length≤64∧p.2.length≤256:=by
 unfold KH at h;rw[ZS,Zi]at h;refine⟨h.2.2,h.2.1,fun p hp=> ?_⟩;obtain⟨j,hj,rfl⟩:=ZSl hp;have h1:=ZV8 r r.length j h.1 hj;unfold ZBT at h1;rw[ZbM,show r.getD j ([],[])=r[j] by simp[hj]]at h1;simp only[ZS,Zi]at h1;exact⟨h1.1.1.2,h1.2.2.1⟩
theorem ZFH{d:Dn}(h:ZAO d=0):d.length≤32∧ ∀r∈d,KH r=true:=by
 unfold ZAO at h;split at h
 ·cases h
 ·split at h
  ·rename_i h2;exact⟨by omega,YQ.1 h2⟩
  ·cases h
theorem ZXh{p:Av}(h:p.1.length≤64∧p.2.length≤256):(ZDN p).length≤840:=by
 have:=ZIO p.2 p.2.length;unfold ZDN ZMb;simp only[Zx,JJ,ξN];omega
theorem ZOi{r:List Av}(h:KH r=true):(ZBb r).length≤6800:=by
 obtain⟨h1,-,h2⟩:=ZFL h;have:=ZJ0 43 840 (r.map ZDN) (fun x hx=>by obtain⟨p,hp,rfl⟩:=YW.1 hx;exact ZXh (h2 p hp));rw[Yf]at this;unfold ZBb;omega
theorem ZWq{d:Dn}(h:ZAO d=0):(ZM4 d).length≤250000:=by
 obtain⟨h1,h2⟩:=ZFH h;have:=ZJ0 44 6800 (d.map ZBb) (fun x hx=>by obtain⟨r,hr,rfl⟩:=YW.1 hx;exact ZOi (h2 r hr));rw[Yf]at this;unfold ZM4;omega
def ZDt:Tabs:=Jc (ZW (ZW (ZW (ZQ) 161 ZCI) 177 ZHF) 77 Qn) 77 (ZAK Qn)
theorem ZS2:SsOk Tryz.prog ZDt:=Ys (ZJ (ZJ (ZJ (ZE) (ZZ 161) ZN0) (ZZ 177) ZUt) ZD9 ZF3) ZD9 (ZDm ZF3)
theorem ZWT:(∀a,ZDt.q 161 a=ZCI a)∧(∀a,ZDt.q 177 a=ZHF a)∧(∀a,ZDt.q 77 a=Qn a)∧(∀a o,ZDt.t 77 a o=Ym (ZAK Qn) a o)∧(∀f a o,ZDt.r f a o=none)∧(∀f a o,ZDt.k f a o=none):=⟨fun _=>rfl,fun _=>rfl,fun _=>rfl,fun _ _=>rfl,fun _ _ _=>rfl,fun _ _ _=>rfl⟩
set_option maxHeartbeats 1000000 in
theorem Zcn(d:Dn)(hb:smD d):ZD Tryz.prog 144 [.x (.sl (rows QA d))] (.tup [.x (.str (ZAl d).1),.x (.int .i64 (ZAl d).2)]):=by
 rcases hq:ZAl d with⟨u,e⟩
 unfold ZAl at hq;have hsd:decide (smD d)=true:=Zc hb;refine ZG.pure (fC 144 true ?_) rfl;intro C0 E0;have uu:=Km @ZCI.eq_1 @ZCI.eq_2 @ZHF.eq_1 @ZHF.eq_2 @Qn.eq_1 @Qn.eq_2 @ZTW @ZYr (Jz hsd @ZWT @ZAK.eq_1);have tT:=ZS2;refine nz ?_;refine WI.regB tT [0] ?_
 iterate 2 refine oS ?_
 refine oN ?_;refine nz ?_;refine WI.regB tT [0,4] ?_;refine oS ?_;refine oC (hok:=by first|exact se|(exact Zc (by omega))|(exact Zc (by simp;omega))|exact sd) ?_;refine oS ?_;refine oN ?_;refine nz ?_;refine WI.regB tT [0,4,15] ?_;refine oS ?_;refine oG (hok:=by first|exact se|(exact Zc (by omega))|(exact Zc (by simp;omega))|exact sd) ?_;refine oN ?_;refine nz ?_;refine cd (fun h0=> ?_) (fun h0=> ?_)
 ·refine WI.regB tT [2,3] ?_
  iterate 3 refine oS ?_
  refine oN ?_;refine nz ?_;refine lf ?_;rw[if_pos (by simpa using h0)]at hq;cases hq;rfl
 ·rw[if_neg (by simpa using h0)]at hq;have hck:ZAO d=0:=by simpa using h0
  obtain⟨hd32,hmay⟩:=ZFH hck;refine WI.regB tT [0,5] ?_;refine oS ?_;refine oN ?_;refine nz ?_;refine WI.regB tT [5,17,18,19] ?_;refine oS ?_;refine oG (hok:=by first|exact se|(exact Zc (by omega))|(exact Zc (by simp;omega))|exact sd) ?_;refine oS ?_;refine oN ?_;refine nz ?_;refine WI.ownA 5 9 1 ?_;refine WI.loop (fun φ os=> ∃(j:Nat),φ= [(5,.ref 0 j 0 j),(17,.x (.sl (rows QA d))),(18,.x (.int .i64 d.length)),(19,.x (.int .i64 j))]∧os= [.rows false 9 1 (rows ZB ((d.take j).map ZBb))]∧j≤d.length) (ZX d.length 19) ?_ (fun φ os hI=> ?_)
  ·exact⟨0,rfl,rfl,by omega⟩
  ·obtain⟨j,rfl,rfl,hj⟩:=hI;refine nz ?_;refine WI.regB tT [5,17,18,19,20] ?_;refine oG (hok:=by first|exact se|(exact Zc (by omega))|(exact Zc (by simp;omega))|exact sd) ?_;refine oN ?_;refine nz ?_;refine cd (fun h1=> ?_) (fun h1=> ?_)
   ·have hj4:j<d.length:=by omega
    have hmj:KH (d.getD j [])=true:=by rw[show d.getD j []=d[j] by simp[hj4]];exact hmay _ (Yl hj4)
    obtain⟨hr8,-,hpb⟩:=ZFL hmj;have hpl:=ZOi hmj;have hst:(d.take (j+1)).map ZBb=(d.take j).map ZBb++ [ZBb (d.getD j [])]:=by rw[Ko hj4,KC,show d.getD j []=d[j] by simp[hj4]];rfl
    have hrow:=ZNI d j hj4;generalize d.getD j []=r at hmj hr8 hpb hpl hst hrow⊢;have uu:=Yq uu hrow;refine WI.regB tT [5,7,17,18,19] ?_
    iterate 2 refine oG (hok:=by first|exact se|(exact Zc (by omega))|(exact Zc (by simp;omega))|exact sd) ?_
    refine oS ?_;refine oN ?_;refine nz ?_;refine WI.regB tT [5,7,8,17,18,19] ?_;refine oS ?_;refine oN ?_;refine nz ?_;refine WI.regB tT [5,8,17,18,19,23,24,25] ?_;refine oS ?_;refine oG (hok:=by first|exact se|(exact Zc (by omega))|(exact Zc (by simp;omega))|exact sd) ?_;refine oS ?_;refine oN ?_;refine nz ?_;refine WI.ownA 8 9 1 ?_;refine WI.orderA [5,8,17,18,19,23,24,25] ?_;refine WI.loop (fun φ os=> ∃(k:Nat),φ= [(5,.ref 0 j 0 j),(8,.ref 1 k 0 k),(17,.x (.sl (rows QA d))),(18,.x (.int .i64 d.length)),(19,.x (.int .i64 j)),(23,.x (.sl (rows YE r))),(24,.x (.int .i64 r.length)),(25,.x (.int .i64 k))]∧os= [.rows false 9 1 (rows ZB ((d.take j).map ZBb)),.rows false 9 1 (rows ZB ((r.take k).map ZDN))]∧k≤r.length) (ZX r.length 25) ?_ (fun φ os hI=> ?_)
    ·exact⟨0,rfl,rfl,by omega⟩
    ·obtain⟨k,rfl,rfl,hk⟩:=hI;refine nz ?_;refine WI.regB tT [5,8,17,18,19,23,24,25,26] ?_;refine oG (hok:=by first|exact se|(exact Zc (by omega))|(exact Zc (by simp;omega))|exact sd) ?_;refine oN ?_;refine nz ?_;refine cd (fun h2=> ?_) (fun h2=> ?_)
     ·have hk4:k<r.length:=by omega
      have har:=ZKE r k hk4;have hpk:(r.getD k ([],[])).1.length≤64∧(r.getD k ([],[])).2.length≤256:=by rw[show r.getD k ([],[])=r[k] by simp[hk4]];exact hpb _ (Yl hk4)
      have hel:=ZIO (r.getD k ([],[])).2 (r.getD k ([],[])).2.length;have hel2:(ZMb (r.getD k ([],[])).2).length≤800:=by unfold ZMb;omega
      have hsk:(r.take (k+1)).map ZDN=(r.take k).map ZDN++ [ZDN (r.getD k ([],[]))]:=by rw[Ko hk4,KC,show r.getD k ([],[])=r[k] by simp[hk4]];rfl
      have hsc:decide ((r.getD k ([],[])).2.length≤1000000)=true:=Zc (by omega);have uu:=Jz uu har hsc;refine WI.regB tT [5,8,10,17,18,19,23,24,25] ?_
      iterate 2 refine oG (hok:=by first|exact se|(exact Zc (by omega))|(exact Zc (by simp;omega))|exact sd) ?_
      refine oG ?_;refine oG (hok:=by first|exact se|(exact Zc (by omega))|(exact Zc (by simp;omega))|exact sd) ?_;refine oN ?_;refine nz ?_;refine WI.post ?_;refine WI.dregB tT [5,8,17,18,19,23,24,25] ?_
      iterate 2 refine Yd ?_
      refine QH (hok:=by first|exact se|(exact Zc (by omega))|(exact Zc (by simp;omega))|exact sd) ?_;refine dFG (hok:=by first|exact se|(exact Zc (by omega))|(exact Zc (by simp;omega))|exact sd) ?_;refine Yd ?_;refine QH (hok:=by first|exact se|(exact Zc (by omega))|(exact Zc (by simp;omega))|exact sd) ?_;refine dQC (hok:=by first|exact se|(exact Zc (by omega))|(exact Zc (by simp;omega))|exact sd) ?_;refine dFG (hok:=by first|exact se|(exact Zc (by omega))|(exact Zc (by simp;omega))|exact sd) ?_
      iterate 2 refine dAG (hok:=by first|exact se|(exact Zc (by omega))|(exact Zc (by simp;omega))|exact sd) ?_
      refine Yd ?_;refine dP ?_;refine Qm [0,1] ?_;refine ZAL ?_;refine nz ?_;refine WI.regB tT [5,8,17,18,19,23,24,25] ?_;refine oG (hok:=by first|exact se|(exact Zc (by omega))|(exact Zc (by simp;omega))|exact sd) ?_;refine oS ?_;refine oN ?_;refine nz ?_;exact⟨⟨k+1,rfl,by rw[hsk,←ZLW];first|done|rfl,by omega⟩,by simp[ZX,Ab.get,D.val,ZH];omega⟩
     ·obtain rfl:k=r.length:=by omega
      rw[KW];have hjl:decide ((Lib.join (r.map ZDN) [43]).length≤140737488355328∧(r.map ZDN).length≤140737488355328)=true:=Zc ⟨by rw[ZCl];unfold ZBb at hpl;omega,by rw[Yf];omega⟩;have e1:(r.map ZDN).length=r.length:=Yf ..;have e2:(r.map ZDN).take r.length=r.map ZDN:=JH (by omega);have e3:Lib.join (r.map ZDN) [43]=ZBb r:=ZCl 43 _;have uu:=ξ5 uu e1 e2 hjl e3;refine WI.post ?_;refine WI.regB tT [5,17,18,19] ?_
      iterate 2 refine oS ?_
      refine oC (hok:=by first|exact se|(exact Zc (by omega))|(exact Zc (by simp;omega))|exact sd) ?_
      iterate 2 refine oG (hok:=by first|exact se|(exact Zc (by omega))|(exact Zc (by simp;omega))|exact sd) ?_
      refine oS ?_;refine oP ?_;refine Qm [0] ?_;refine ZAL ?_;refine nz ?_;refine WI.orderA [5,17,18,19] ?_;refine WI.regB tT [5,17,18,19] ?_;refine oG (hok:=by first|exact se|(exact Zc (by omega))|(exact Zc (by simp;omega))|exact sd) ?_;refine oS ?_;refine oN ?_;refine nz ?_;exact⟨⟨j+1,rfl,by rw[hst,←ZLW];first|done|rfl,by omega⟩,by simp[ZX,Ab.get,D.val,ZH];omega⟩
   ·obtain rfl:j=d.length:=by omega
    rw[KW];have hnl:=ZWq hck;have hjl:decide ((Lib.join (d.map ZBb) [44]).length≤140737488355328∧(d.map ZBb).length≤140737488355328)=true:=Zc ⟨by rw[ZCl];unfold ZM4 at hnl;omega,by rw[Yf];omega⟩;have e1:(d.map ZBb).length=d.length:=Yf ..;have e2:(d.map ZBb).take d.length=d.map ZBb:=JH (by omega);have e3:Lib.join (d.map ZBb) [44]=ZM4 d:=ZCl 44 _;have uu:=ξ5 uu e1 e2 hjl e3;refine WI.regB tT [11] ?_;refine oS ?_;refine oC (hok:=by first|exact se|(exact Zc (by omega))|(exact Zc (by simp;omega))|exact sd) ?_;refine oS ?_;refine oN ?_;refine nz ?_;refine WI.regB tT [11,50] ?_;refine oS ?_
    iterate 2 refine oG (hok:=by first|exact se|(exact Zc (by omega))|(exact Zc (by simp;omega))|exact sd) ?_
    refine oN ?_;refine nz ?_;refine cd (fun h3=> ?_) (fun h3=> ?_)
    ·refine WI.regB tT [2,3] ?_
     iterate 2 refine oS ?_
     refine oN ?_;refine nz ?_;refine lf ?_;rw[if_pos (by omega)]at hq;cases hq;rfl
    ·refine WI.regB tT [2,3] ?_
     iterate 3 refine oS ?_
     refine oN ?_;refine nz ?_;refine lf ?_;rw[if_neg (by omega)]at hq;cases hq;rfl
def QE:List D→Option (Bool×D)
 | [.x (.sl R)]=>(ZY QA R).bind fun d=>some (decide (smD d),.tup [.x (.str (ZAl d).1),.x (.int .i64 (ZAl d).2)])
 |_=>none
theorem ZFY: ∀args r,QE args=some (true,r)→ZD Tryz.prog 144 args r:=by
 intro args r h;unfold QE at h;split at h
 ·rename_i R;obtain⟨d,hr0,h⟩:=Zv h;simp only[Ze,Za,ZS,Zi,true_and]at h;obtain⟨h1,rfl⟩:=h;rw[←Zb ZGO hr0];exact(Zcn d h1)
 ·cases h
end Go.Proofs.YtiogclkbccdefaaGreatDoor
end
section
namespace Go.Proofs
open Go.Shelf Go.RowKit Go.Lib Go.Sort
def encAv(x:ByteArray×ByteArray):List Value:= [.string x.1,.string x.2]
def cmpS(a b:ByteArray):Int:=if Op.bytesLess a.toList b.toList=true then-1 else if Op.bytesLess b.toList a.toList=true then 1 else 0
def cmpAv(x y:ByteArray×ByteArray):Int:=cmpS x.1 y.1
theorem ZXm(s:ByteArray)(W:World):Calls Tryz.prog 129 #[.string s] W fun e w'=>e= .returned (.bool false)∧w'=W:=by
 go_enter Tryz.func129,Tryz.ntmps129
 go_wp2
 go_ret
 exact⟨by simp,rfl⟩
theorem cmpS_c(a b:ByteArray)(W:World):Calls Tryz.prog 82 #[.string a,.string b] W fun e w'=>e= .returned (.int .i64 (cmpS a b))∧w'=W:=by
 go_enter Tryz.func82,Tryz.ntmps82
 go_wp2_with (go_at_call 129;refine(ZXm _ _).mono ?_;rintro e w' ⟨rfl,hw⟩;rw[hw])
 all_goals(go_ret;refine⟨?_,rfl⟩;unfold cmpS;(repeat' split)<;>first|rfl|(exfalso;simp_all;done)|(exfalso;rcases YtiogclkbccdefaaGreatDoor.bl_tot a.toList b.toList (by simp_all)with hh|hh<;>simp_all))
theorem ltAv(x y:ByteArray×ByteArray):ltOf cmpAv x y=Op.bytesLess x.1.toList y.1.toList:=by
 unfold ltOf cmpAv cmpS;cases h:Op.bytesLess x.1.toList y.1.toList<;>cases h2:Op.bytesLess y.1.toList x.1.toList<;>simp
theorem swoAv:SWO (ltOf cmpAv) where
 irrefl x:=by rw[ltAv];exact YtiogclkbccdefaaGreatDoor.bl_irr _
 trans x y z h1 h2:=by rw[ltAv]at*;exact YtiogclkbccdefaaGreatDoor.bl_trans _ _ _ h1 h2
 ntrans x y z h1 h2:=by
  rw[ltAv]at*;cases h:Op.bytesLess x.1.toList z.1.toList with
  |false=>rfl
  |true=>
   by_cases e1:x.1.toList=y.1.toList
   ·rw[e1]at h;rw[h]at h2;cases h2
   ·rcases YtiogclkbccdefaaGreatDoor.bl_tot _ _ e1 with h3|h3
    ·rw[h3]at h1;cases h1
    ·have:=YtiogclkbccdefaaGreatDoor.bl_trans _ _ _ h3 h;rw[this]at h2;cases h2
theorem Zba(x y:ByteArray×ByteArray)(W:World):Calls Tryz.prog 143 #[.agg #[.string x.1,.string x.2],.agg #[.string y.1,.string y.2]] W fun e w'=>e= .returned (.int .i64 (cmpAv x y))∧ ∃q os',w'=grow (W.drewN q) os':=by
 have hcon:=fun W'=>cmpS_c x.1 y.1 W'
 unfold cmpAv;generalize cmpS x.1 y.1=r at hcon⊢
 go_enter Tryz.func143,Tryz.ntmps143
 go_wp2_with (go_at_call 82;refine(hcon _).mono ?_;rintro e w' ⟨rfl,rfl⟩)
 go_ret
 exact⟨rfl,0,_,by rw[alloc_eq_grow,alloc_eq_grow,grow_grow];rfl⟩
theorem cmpLaysAv(blk off size:Nat)(w:World):CmpLays Tryz.prog 143 #[] encAv 2 cmpAv blk off size w:=fun _ _ _ _ x y=>Zba x y _
theorem ZSd{α:Type}[Inhabited α](enc:α→List Value)(k:Nat){w:World}{g n:Nat}{os:Array Obj}{cur:Array Value}{e:TypeId}{fr:Nat×Nat}(d:Array α)(hb:w.heap[g]? =some (.cells cur e fr)):
  (sortWorldK enc k w g 0 n d os).heap[g]? =some (.cells (putCells id 0 (flatK enc k d) cur) e fr):=by
 have hg:g<w.heap.size:=(ξH hb).1;unfold sortWorldK putRowK;rw[heap_grow_old _ _ (by simpa using hg)];simp[putRow,mapBlock,Sort.ahead,ZMn,hb,onCells]
theorem grown_sortK{α:Type}[Inhabited α](enc:α→List Value)(k:Nat){w:World}{g n:Nat}{os:Array Obj}(d:Array α):w.grownBy (sortWorldK enc k w g 0 n d os) (some g):=by
 unfold sortWorldK putRowK;refine⟨rfl,rfl,rfl,by simp,fun k hk hne=> ?_⟩;rw[heap_grow_old _ _ (by simpa using hk)];have:g≠k:=fun e=>hne (by rw[e])
 simp[putRow,mapBlock,Sort.ahead,ZMn,this]
theorem ZUv(cur F:Array Value)(h:F.size≤cur.size):(putCells id 0 F cur).toList.take F.size=F.toList:=by
 apply ZAq;intro j;by_cases hj:j<F.size
 ·rw[List.getElem?_take_of_lt hj,Qp,Qp];simp[putCells,hj,show j<cur.size by omega]
 ·rw[List.getElem?_take_eq_none (by omega),ξZ (by simp;omega)]
theorem own_sortK{α:Type}[Inhabited α](enc:α→List Value)(k:Nat){w:World}{g n cap:Nat}{e:TypeId}{os:Array Obj}{cur:Array Value}{d:Array α}{m:Nat}(hm:d.size=m)(hb:w.heap[g]? =some (.cells cur e (0,0)))(h1:m≤cap)(h2:cap≤maxLen)(h3:cur.size=cap*k):
  (sortWorldK enc k w g 0 n d os).ownsRow 0 e k (.slice (some ⟨g,0,none⟩) m cap) m (flatK enc k d).toList:=by
 subst hm;have hle:d.size*k≤cap*k:=KB _ h1;exact⟨by simp,.inr ⟨g,cap,_,rfl,Je _,ZSd enc k d hb,h1,h2,by simp[putCells,h3],by
  have:=ZUv cur (flatK enc k d) (by simp;omega);rwa [size_flatK]at this⟩⟩
end Go.Proofs
end
section
namespace Go.Proofs.YtiogclkbccdefaaGreatDoor
open Go.RowKit Go.Bo Go.Ab
def ZJb(p:Av):List Av→List Av
 | []=> [p]
 |q::o=>if Op.bytesLess q.1 p.1=true then q::ZJb p o else p::q::o
def ZBd(r:List Av):List Av:=r.foldl (fun o p=>ZJb p o) []
theorem ZIw(p:Av): ∀o,(ZJb p o).Perm (p::o)
 | []=>ZJk _
 |q::o=>by
  unfold ZJb;split
  ·exact((ZIw p o).cons q).trans (List.Perm.swap p q o)
  ·exact ZJk _
theorem ZL2: ∀(r o:List Av),(r.foldl (fun o p=>ZJb p o) o).Perm (r++o)
 | [],o=>ZJk _
 |p::r,o=>by
  rw[ZMl];exact(ZL2 r _).trans (((ZIw p o).append_left r).trans List.perm_middle)
theorem ZGS(r:List Av):(ZBd r).Perm r:=by have:=ZL2 r [];rwa [Kg]at this
theorem ZK4(r:List Av):(ZBd r).length=r.length:=(ZGS r).length_eq
theorem ZUj(a b c:Tx)(h1:Op.bytesLess a b=false)(h2:Op.bytesLess b c=false):Op.bytesLess a c=false:=by
 cases h:Op.bytesLess a c with
 |false=>rfl
 |true=>
  by_cases e1:a=b
  ·subst e1;rw[h]at h2;cases h2
  ·rcases bl_tot _ _ e1 with h3|h3
   ·rw[h3]at h1;cases h1
   ·have:=bl_trans _ _ _ h3 h;rw[this]at h2;cases h2
abbrev SrA(l:List Av):Prop:=l.Pairwise fun a b=>Op.bytesLess b.1 a.1=false
theorem ZKY(p:Av): ∀o,SrA o→SrA (ZJb p o)
 | [],_=>List.pairwise_singleton _ _
 |q::o,h=>by
  obtain⟨h1,h2⟩:=ZTY.1 h;unfold ZJb;split
  ·rename_i hl;refine ZTY.2 ⟨fun x hx=> ?_,ZKY p o h2⟩;rcases QM.1 ((ZIw p o).mem_iff.1 hx)with rfl|hx
   ·exact ZRj _ _ hl
   ·exact h1 x hx
  ·rename_i hl;have hl:Op.bytesLess q.1 p.1=false:=by simpa using hl
   refine ZTY.2 ⟨fun x hx=> ?_,h⟩;rcases QM.1 hx with rfl|hx
   ·exact hl
   ·exact ZUj _ _ _ (h1 x hx) hl
theorem ZJU: ∀(r o:List Av),SrA o→SrA (r.foldl (fun o p=>ZJb p o) o)
 | [],o,h=>h
 |p::r,o,h=>by rw[ZMl];exact ZJU r _ (ZKY p o h)
theorem ZQy(r:List Av):SrA (ZBd r):=ZJU r [] List.Pairwise.nil
theorem Za0{r l:List Av}(hp:l.Perm r)(hs:SrA l)(hn:(r.map (·.1)).Nodup):l=ZBd r:=by
 refine List.Perm.eq_of_pairwise (le:=fun a b=>Op.bytesLess b.1 a.1=false) (fun a b ha hb h1 h2=> ?_) hs (ZQy r) (hp.trans (ZGS r).symm);have ha':=hp.mem_iff.1 ha;have hb':=(ZGS r).mem_iff.1 hb;have he:a.1=b.1:=ZQo fun hne=>by
  rcases bl_tot _ _ hne with h|h
  ·rw[h]at h2;cases h2
  ·rw[h]at h1;cases h1
 obtain⟨i,hi,rfl⟩:=ZSl ha';obtain⟨j,hj,rfl⟩:=ZSl hb';have key: ∀(i j:Nat) (hi:i<r.length) (hj:j<r.length),i<j→r[i].1≠r[j].1:=fun i j hi hj hij=>by
  have:=ZLD.1 hn i j (by simpa using hi) (by simpa using hj) hij;simpa using this
 have:i=j:=by
  rcases Nat.lt_trichotomy i j with h|h|h
  ·exact absurd he (key i j hi hj h)
  ·exact h
  ·exact absurd he.symm (key j i hj hi h)
 subst this;rfl
def bsA(p:Av):ByteArray×ByteArray:=(ZN p.1,ZN p.2)
theorem ZdD(x:ByteArray×ByteArray):bsA (x.1.toList,x.2.toList)=x:=by
 have key: ∀b:ByteArray,ZN b.toList=b:=fun b=>by
  unfold ZN;rw[ByteArray.toList_eq]
 unfold bsA;rw[key,key]
theorem Zbw(r:List Av)(hn:(r.map (·.1)).Nodup)(d':Array (ByteArray×ByteArray))(hp:Sort.PermIn 0 r.length (r.map bsA).toArray d')(hs:Sort.SortedIn (Go.Proofs.ltOf Go.Proofs.cmpAv) 0 r.length d'):d'=((ZBd r).map bsA).toArray:=by
 obtain⟨hsz,-,hpm⟩:=hp;have hsz':d'.size=r.length:=by rw[hsz];simp
 have hex:(d'.extract 0 r.length).toList=d'.toList:=by rw[←hsz'];simp
 have hex2:((r.map bsA).toArray.extract 0 r.length).toList=r.map bsA:=by simp[JH]
 rw[hex,hex2]at hpm;have hl:d'.toList=(d'.toList.map fun x=>(x.1.toList,x.2.toList)).map bsA:=by
  rw[Jq]
  conv=>lhs;rw[←ZM2 d'.toList]
  exact ZB4 fun x _=>(ZdD x).symm
 have hperm:(d'.toList.map fun x=>(x.1.toList,x.2.toList)).Perm r:=by
  have:=hpm.map fun x:ByteArray×ByteArray=>(x.1.toList,x.2.toList)
  rw[Jq]at this;have e:(r.map ((fun x:ByteArray×ByteArray=>(x.1.toList,x.2.toList))∘bsA))=r:=by
   conv=>rhs;rw[←ZM2 r]
   exact ZB4 fun p _=>by simp[bsA,Jb]
  rwa [e]at this
 have hsr:SrA (d'.toList.map fun x=>(x.1.toList,x.2.toList)):=by
  show List.Pairwise _ _;rw[List.pairwise_map,ZLD];intro i j hi hj hij;have:=hs i j (Je _) hij (by rw[←hsz'];simpa using hj);rw[Go.Proofs.ltAv]at this;simp at hi hj;simp only[getElem!_pos d' i hi,getElem!_pos d' j hj]at this;simpa using this
 apply ZCf.1;rw[hl,Za0 hperm hsr hn]
theorem ZSB(r:List Av)(i:Nat)(hi:i<r.length):(Go.Sort.flatK Go.Proofs.encAv 2 (r.map bsA).toArray).toList[i*2]? =some (Value.string (ZN r[i].1))∧(Go.Sort.flatK Go.Proofs.encAv 2 (r.map bsA).toArray).toList[i*2+1]? =some (Value.string (ZN r[i].2)):=by
 have e1:i*2/2=i:=by omega
 have e2:(i*2+1)/2=i:=by omega
 have e3:i*2 % 2=0:=by omega
 have e4:(i*2+1) % 2=1:=by omega
 have hg:(r.map bsA)[i]! =bsA r[i]:=by rw[getElem!_pos _ i (by simpa using hi)];simp
 constructor
 ·simp[Go.Sort.flatK,show i*2<r.length*2 by omega,e1,e3,hg,Go.Proofs.encAv,bsA,hi]
 ·simp[Go.Sort.flatK,show i*2+1<r.length*2 by omega,e2,e4,hg,Go.Proofs.encAv,bsA,hi]
set_option maxHeartbeats 1000000 in
theorem ZdF(e:Nat)(r:List Av)(hn:(r.map (·.1)).Nodup)(hne:r≠ [])(hl:r.length≤1000000)(lim:Nat)(hlim:lim≤64):ZL Tryz.prog 175 [.ref 0 r.length 0 r.length,.x (.int .i64 0),.x (.int .i64 r.length),.x (.int .i64 lim),.fn 143 []] [.rows false e 2 (rows YE r)] (.tup []) [.rows false e 2 (rows YE (ZBd r))]:=by
 intro c E vs R hvl;obtain⟨hsz,hv⟩:=hvl;obtain⟨v0,v1,v2,v3,v4,rfl⟩: ∃v0 v1 v2 v3 v4,vs= #[v0,v1,v2,v3,v4]:=by
  obtain⟨vl⟩:=vs
  match vl,hsz with
  | [a,b,c,d,e],_=>exact⟨a,b,c,d,e,rfl⟩
 have h0:=hv 0 _ v0 rfl rfl;have h1:=hv 1 _ v1 rfl rfl;have h2:=hv 2 _ v2 rfl rfl;have h3:=hv 3 _ v3 rfl rfl;have h4:=hv 4 _ v4 rfl rfl;clear hv hsz;obtain rfl:v1= .int .i64 0:=by cases h1 with|x h=>cases h;rfl
 obtain rfl:v2= .int .i64 r.length:=by cases h2 with|x h=>cases h;rfl
 obtain rfl:v3= .int .i64 lim:=by cases h3 with|x h=>cases h;rfl
 obtain rfl:v4= .func (.func 143) #[] #[]:=by
  cases h4 with
  |fn vs hl _=>rw[show vs= #[]from ZcW hl.symm]
 clear h1 h2 h3 h4;have hlen:(rows YE r).length=r.length:=Zo _ _;cases h0 with
 |ref hr _=>
  have ho: [Ob.rows false e 2 (rows YE r)][0]? =some (Ob.rows false e 2 (rows YE r)):=rfl;obtain⟨k1,k2⟩:=hr.at ho rfl;obtain⟨k3,b,a,cap,a',cap',k4,rfl,k6,k7,k8,k9,k10,k11⟩:=k2 hlen;obtain⟨rfl,rfl⟩:=k8 rfl;obtain⟨p,hp,hok⟩:=R.at ho;rw[hp]at k4;have hpb:p=(b,.slice a' r.length cap'):=ZA6 k4;subst hpb;have hpos:0<r.length:=ZMh.2 hne;obtain⟨xs,⟨q1,q2⟩,q3,q4⟩:=hok;rcases q2 with⟨q2,q5⟩|⟨g,cp,cells,fr,q5,q6,q7,q8,q9,q10,q11⟩
  ·rw[hlen]at q5;omega
  ·simp only[Value.slice.injEq]at q5;obtain⟨rfl,_,rfl⟩:=q5;rw[hlen]at q10 q7 q1;have hfr:fr=(0,0):=by
    rcases q11 with q11|⟨q11,_⟩
    ·exact q11
    ·cases q11
   subst hfr;have hxs:xs=(Go.Sort.flatK Go.Proofs.encAv 2 (r.map bsA).toArray).toList:=by
    apply List.ext_getElem (by rw[q1];simp);intro t ht ht2;have htr:t/2<r.length:=by rw[q1]at ht;omega
    obtain⟨f1,f2⟩:=ZSB r (t/2) htr;have hrw:(rows YE r)[t/2]? =some [X.str r[t/2].1,X.str r[t/2].2]:=by simp[rows,htr,YE]
    apply ZA6;rw[←Zu ht2];rcases Nat.mod_two_eq_zero_or_one t with hm|hm
    ·have et:t/2*2=t:=by omega
     rw[et]at f1;rw[f1];have:=q4 (t/2) _ 0 (.str r[t/2].1) xs[t] hrw rfl (by rw[Jw,et];exact Zu ht);generalize xs[t]=u at this⊢;cases this;rfl
    ·have et:t/2*2+1=t:=by omega
     rw[et]at f2;rw[f2];have:=q4 (t/2) _ 1 (.str r[t/2].2) xs[t] hrw rfl (by rw[et];exact Zu ht);generalize xs[t]=u at this⊢;cases this;rfl
   have hglt:=(ξH q6).1;have hds:(r.map bsA).toArray.size=r.length:=by simp
   have hH:Go.Sort.HoldsK Go.Proofs.encAv 2 E.w g 0 (r.map bsA).toArray:=by
    intro j hj;rw[Go.Sort.size_flatK,hds]at hj;have hjx:cells.toList[j]? =xs[j]? :=by rw[←q10,List.getElem?_take_of_lt hj]
    refine⟨?_,by simp[World.frozen?,q6]⟩;simp only[World.cell?,q6,ZXS,Yt,if_false,Yy];rw[←Qp,hjx,hxs,Qp];have hjs:j<(Go.Sort.flatK Go.Proofs.encAv 2 (r.map bsA).toArray).size:=by rw[Go.Sort.size_flatK,hds];exact hj
    rw[ξK hjs,getElem!_pos _ j hjs];rfl
   have eg: ∀args w,(callFunc 143 args).run Tryz.prog w= .ok (.enter 143 args) w:=Go.Proofs.enters_of Tryz.func143 (by kernel_rfl) rfl;have hk2: ∀x,(Go.Proofs.encAv x).length=2:=fun _=>rfl
   have h11: ∀x,∀v∈Go.Proofs.encAv x,v.oneCell'=true:=fun x v hv=>by simp[Go.Proofs.encAv]at hv;rcases hv with rfl|rfl<;>rfl
   have:=Go.Proofs.AnyQ.pdqsortCmpFunc_all Tryz.pdqAva 2 (by exact Tryz.isAgg188) (by exact Tryz.sizeOf188) Go.Proofs.encAv Go.Proofs.cmpAv 143 #[] Go.Proofs.swoAv g 0 cap' (r.map bsA).toArray E.w eg (Go.Proofs.cmpLaysAv g 0 _ E.w) ⟨hk2,h11,hH,hglt⟩ (r.length+1) 0 r.length lim (r.map bsA).toArray E.w (by omega) rfl (Go.Proofs.SWK.start hH) (Je _) (by rw[hds];exact Zl _) (by rw[hds];omega) (by omega) (Or.inl rfl);rw[hds]at this;refine this.mono ?_;rintro _ w' ⟨rfl,nn,oss,rfl⟩;have hps:=Go.Sort.pdq_sorts (Go.Proofs.ltOf Go.Proofs.cmpAv) Go.Proofs.swoAv (r.map bsA).toArray 0 r.length lim true true (Je _) (by rw[hds];exact Zl _) (Or.inl rfl);have hd':=Zbw r hn _ hps.1 hps.2;rw[hd'];have hown:=Go.Proofs.own_sortK (n:=nn) (os:=oss) Go.Proofs.encAv 2 (d:=((ZBd r).map bsA).toArray) (m:=r.length) (by simp[ZK4]) q6 q7 q8 q9;have hg:=Go.Proofs.grown_sortK (n:=nn) (os:=oss) (w:=E.w) (g:=g) Go.Proofs.encAv 2 ((ZBd r).map bsA).toArray;have hls:(rows YE (ZBd r)).length=r.length:=by rw[Zo,ZK4]
   obtain⟨R',ev⟩:=R.set ho hp _ (.rows false e 2 (rows YE (ZBd r))) (b,.slice (some ⟨g,0,none⟩) r.length cap') ⟨hg.os,hg.tape,hg.output,hg.size,fun k hk hm=>hg.block k hk (fun e=>hm (by cases e;rfl))⟩ (fun b' hb'=> .inl hb') (fun sz rs1 h=>by
     simp only[Ob.sl?,Ze,Za]at h;obtain⟨rfl,rfl⟩:=h;exact⟨(rows YE (ZBd r)).length,rfl,.inl ⟨by rw[hls,hlen],rfl⟩⟩) (fun k h=>by cases h) (fun ev=>by
     refine⟨_,by rw[hls];exact KA.of_owns hown false,fun z hz=> ?_,fun i z j x v h1 h2 h3=> ?_⟩
     ·obtain⟨q,_,rfl⟩:=YW.1 hz;rfl
     ·unfold rows at h1;rw[Zw]at h1;obtain⟨q,hq,rfl⟩:=ZT h1;have hi:=(ZR hq).1;obtain⟨f1,f2⟩:=ZSB (ZBd r) i hi;have hqe:(ZBd r)[i]=q:=(ZR hq).2;rw[hqe]at f1 f2
      match j with
      |0=>
       simp only[YE,ZBW,Ze]at h2;subst h2;rw[Jw,f1]at h3;cases h3;exact .str _
      |1=>
       simp only[YE,ZBW,ZBe,Ze]at h2;subst h2;rw[f2]at h3;cases h3;exact .str _
      |j+2=>simp[YE]at h2)
   exact⟨_,_,rfl,rfl,R',ev,.tup #[] rfl (fun j d v h=>by simp at h)⟩
end Go.Proofs.YtiogclkbccdefaaGreatDoor
end
section
namespace Go.Proofs.YtiogclkbccdefaaGreatDoor
open Go.RowKit Go.Bo Go.Ab
theorem ZV0(n:Nat)(h:n≤1000000):ZD Tryz.prog 176 [.x (.int .u64 n)] (.x (.int .i64 (Lib.bitLen n))):=by
 intro w st vs hst hvl;obtain⟨hsz,hv⟩:=hvl;obtain⟨v0,rfl⟩: ∃v0,vs= #[v0]:=by
  obtain⟨vl⟩:=vs
  match vl,hsz with
  | [a],_=>exact⟨a,rfl⟩
 have h0:=hv 0 _ v0 rfl rfl;obtain rfl:v0= .int .u64 n:=by cases h0 with|x h=>cases h;rfl
 have:=Tryz.bits_Len (n:Int) w (by omega) (by omega);rw[ZJo]at this;refine this.mono ?_;rintro e w' ⟨rfl,rfl⟩;exact⟨_,st,rfl,Kept.refl _ _,fun _ _ h=>h,fun _ _ h=> .inl h,.x (.int _ _)⟩
def ZFh:List D→Option (Bool×D)
 | [.x (.int .u64 n)]=>some (decide (0≤n∧n≤1000000),.x (.int .i64 (Lib.bitLen n.toNat)))
 |_=>none
theorem ZQ4: ∀args r,ZFh args=some (true,r)→ZD Tryz.prog 176 args r:=by
 intro args r h;unfold ZFh at h;split at h
 ·rename_i n;simp only[Ze,Za,ZS,Zi,true_and]at h;obtain⟨h1,rfl⟩:=h;exact(by obtain⟨m,rfl⟩: ∃m:Nat,n=m:=⟨n.toNat,by omega⟩;rw[ZJo];exact ZV0 m (by omega))
 ·cases h
def ZbC:Tabs:=ZW (ZQ) 176 ZFh
theorem ZSo:SsOk Tryz.prog ZbC:=ZJ (ZE) (ZZ 176) ZQ4
theorem ZSm:Enters Tryz.prog 175:=ZZ 175
theorem Zal(e:Nat)(r:List Av)(hn:(r.map (·.1)).Nodup)(hne:r≠ [])(hl:r.length≤1000000):ZL Tryz.prog 142 [.ref 0 r.length 0 r.length,.fn 143 []] [.rows false e 2 (rows YE r)] (.tup []) [.rows false e 2 (rows YE (ZBd r))]:=by
 have hbl:Lib.bitLen r.length≤62:=Lib.bitLen_le r.length 62 (by omega) (by omega);have hw:IntKind.u64.wrap (r.length:Int)=r.length:=by simp[IntKind.wrap,IntKind.bits,IntKind.signed];omega
 have hc:=ZdF e r hn hne hl (Lib.bitLen r.length) (by omega);have hdd:decide (0≤(r.length:Int)∧(r.length:Int)≤1000000)=true:=Zc (by omega);refine ZG.mcalls (fC 142 true ?_);intro C0 E0;have uu:=ξ8 @ZFh.eq_1 @ZFh.eq_2 hw hdd @ZIK @ZHt @ZHd @ZHf;have tT:=(ZCQ ZSo ZSm hc);refine nz ?_;refine rg tT [0,1,4] ?_;refine WI.regB tT [] ?_
 iterate 3 refine oS ?_
 refine oG ?_;refine oC ?_;refine oS ?_;refine oC ?_;refine osN ?_
 first|refine lfN ?_|refine ZeU ?_|refine ZeH ?_
 exact⟨rfl,rfl⟩
theorem ZPh:Enters Tryz.prog 142:=ZZ 142
def ZDc(p:Av):Av:=(ZF p.1,fld p.2)
def ZAY(r:List Av):List Av:=ZBd (r.map ZDc)
def ZDP(r:List Av):Bool:=r.all fun p=> !(fld p.2== [])
def Jn(s:Tx):Tx×Int:=if(Yp s).2≠0 then([],(Yp s).2)else if(Yp s).1.all ZDP=true then ZAl ((Yp s).1.map ZAY)else([],5)
theorem ZNn(r:List Av): ∀n,n≤r.length→okP r n=true→(ZBE (r.take n)).Nodup
 |0,_,_=>by simp[ZBE]
 |n+1,hn,h=>by
  rw[okP,ZS]at h;have ih:=ZNn r n (by omega) h.1;have h2:=h.2;unfold ZBT at h2;simp only[ZS,ZHg,decide_eq_false_iff_not]at h2;have hg:r.getD n ([],[])=r[n]:=by simp[show n<r.length by omega]
  rw[hg]at h2;unfold ZBE at ih h2⊢;rw[Ko (by omega),KC,ZFW];refine⟨ih,by simp,fun a ha b hb=> ?_⟩;simp only[YL,Qv,ZBP]at hb;subst hb;rintro rfl;exact h2.2.2.2 ha
theorem ZUJ{r:List Av}(h:KH r=true):((r.map ZDc).map (·.1)).Nodup:=by
 unfold KH at h;rw[ZS]at h;have:=ZNn r r.length (Zl _) h.1;rw[KW]at this;rw[Jq];exact this
theorem ZWx(r:List Av):(ZAY r).length=r.length:=by unfold ZAY;rw[ZK4,Yf]
def ZAU(r:List Av)(k:Nat):List Av:=(r.take k).map ZDc++r.drop k
theorem ZPq(r:List Av)(k:Nat):(ZAU r k).length=r.length:=by unfold ZAU;simp;omega
theorem ZbJ(r:List Av)(k:Nat)(h:k<r.length):(rows YE (ZAU r k))[k]? =some [X.str (r.getD k ([],[])).1,X.str (r.getD k ([],[])).2]:=by
 have e:(ZAU r k)[k]? =some (r.getD k ([],[])):=by
  unfold ZAU;rw[Ki (by simp;omega)];simp[h,ZQH (Nat.le_of_lt h)]
 unfold rows;rw[Zw,e];rfl
theorem ZXj(r:List Av)(k:Nat)(h:k<r.length):(rows YE (ZAU r (k+1)))[k]? =some [X.str (ZF (r.getD k ([],[])).1),X.str (fld (r.getD k ([],[])).2)]:=by
 have e:(ZAU r (k+1))[k]? =some (ZDc (r.getD k ([],[]))):=by
  unfold ZAU;rw[YR (by simp;omega),Zw,JQ,if_pos (by omega)];simp[h]
 unfold rows;rw[Zw,e];rfl
theorem ZXW(r:List Av)(k:Nat)(h:k<r.length):(rows YE (ZAU r k)).set k [X.str (ZF (r.getD k ([],[])).1),X.str (fld (r.getD k ([],[])).2)]=rows YE (ZAU r (k+1)):=by
 have e:(ZAU r k).set k (ZDc (r.getD k ([],[])))=ZAU r (k+1):=by
  unfold ZAU;rw[ZDD _ _ (by simp;omega),Ko h,KC];have h1:k-((r.take k).map ZDc).length=0:=by simp;omega
  rw[h1,ZFd h,ZCk,Yk];simp[h]
 rw[←e];unfold rows;rw[ZLA];rfl
theorem ZYw(r:List Av):ZAU r r.length=r.map ZDc:=by unfold ZAU;simp
theorem ZT8(r:List Av):ZAU r 0=r:=by unfold ZAU;simp
def ZCC(d:Dn)(j:Nat):Dn:=(d.take j).map ZAY++d.drop j
theorem ZWp(d:Dn)(j:Nat):(ZCC d j).length=d.length:=by unfold ZCC;simp;omega
theorem ZaA(d:Dn)(j:Nat)(h:j<d.length):(ZCC d j).getD j []=d.getD j []:=by
 unfold ZCC;rw[ZGe,Ki (by simp;omega)];simp[h,ZQH (Nat.le_of_lt h)]
theorem ZWk(d:Dn)(j:Nat)(h:j<d.length):(ZCC d j).set j (ZAY (d.getD j []))=ZCC d (j+1):=by
 unfold ZCC;rw[ZDD _ _ (by simp;omega),Ko h,KC];have h1:j-((d.take j).map ZAY).length=0:=by simp;omega
 rw[h1,ZFd h,ZCk,Yk];simp[h]
theorem ZXw(d:Dn):ZCC d d.length=d.map ZAY:=by unfold ZCC;simp
theorem ZT4(d:Dn):ZCC d 0=d:=by unfold ZCC;simp
end Go.Proofs.YtiogclkbccdefaaGreatDoor
end
section
namespace Go.Proofs.YtiogclkbccdefaaGreatDoor
open Go.RowKit Go.Bo Go.Ab
def ZGx:List D→Option (Bool×D)
 | [.x (.str s)]=>some (decide (s.length≤1000000),.x (.str (fld s)))
 |_=>none
theorem ZUW: ∀args r,ZGx args=some (true,r)→ZD Tryz.prog 141 args r:=by
 intro args r h;unfold ZGx at h;split at h
 ·rename_i s;simp only[Ze,Za,ZS,Zi,true_and]at h;obtain⟨h1,rfl⟩:=h;exact(Zb0 s h1)
 ·cases h
theorem ZQw:Enters Tryz.prog 121:=ZZ 121
def ZFX:Tabs:=Jc (ZW (ZW (ZW (ZQ) 63 Kc) 141 ZGx) 144 QE) 144 (ZAK QE)
theorem Jm:SsOk Tryz.prog ZFX:=Ys (ZJ (ZJ (ZJ (ZE) (ZZ 63) ZIL) (ZZ 141) ZUW) (ZZ 144) ZFY) (ZZ 144) (ZDm ZFY)
theorem ZXn:(∀a,ZFX.q 63 a=Kc a)∧(∀a,ZFX.q 141 a=ZGx a)∧(∀a,ZFX.q 144 a=QE a)∧(∀a o,ZFX.t 144 a o=Ym (ZAK QE) a o)∧(∀f a o,ZFX.r f a o=none)∧(∀f a o,ZFX.k f a o=none):=⟨fun _=>rfl,fun _=>rfl,fun _=>rfl,fun _ _=>rfl,fun _ _ _=>rfl,fun _ _ _=>rfl⟩
def FZ(d:Dn):List Ob:=ZEh 2 (d.map (rows YE))
theorem ZcA(d:Dn):(FZ d).length=d.length:=by unfold FZ;rw[ZFU,Yf]
theorem ZaJ(d:Dn):frzL (List.range' 1 d.length) (obD d)= .drw 154 1 (RF d)::FZ d:=by
 have h:=ZRb (.drw 154 1 (RF d)) 188 2 (d.map (rows YE)) [];rw[Yf]at h;exact h
theorem ZbG(d:Dn):ZBU [0] (.drw 154 1 (RF d)::FZ d)= [.drw 154 1 (Jd (rows QA d))]:=by
 have h3:=ZbD 154 2 (d.map (rows YE));have h4:((d.map (rows YE)).map fun rs=> [X.sl rs])=rows QA d:=by rw[Jq];rfl
 rw[h4]at h3;exact h3
set_option maxHeartbeats 4000000 in
theorem ZaP(s:Tx)(d:Dn)(hq:Yp s=(d,0))(hne:s≠ []):ZD Tryz.prog 96 [.x (.str s)] (.tup [.x (.str (Jn s).1),.x (.int .i64 (Jn s).2)]):=by
 obtain⟨hs4,-,hd0,-,hck⟩:=ZLr s d hq hne;have hsm:smD d:=by
  have:=ZIT s (by omega);unfold ZB3 ZD6 at this;rw[Jq]at this;rw[hd0];exact this
 obtain⟨hd32,hmay⟩:=ZFH hck;have hn:Jn s=if d.all ZDP=true then ZAl (d.map ZAY)else([],5):=by
  unfold Jn;rw[hq];simp
 have hread:=ZZk s d hq hne;clear hq hne hs4 hd0 hck;rcases hu:Jn s with⟨u,e⟩
 rw[hn]at hu;clear hn;refine ZG.pure (fC 96 true ?_) rfl;intro C0 E0;have uu:=Km @Kc.eq_1 @Kc.eq_2 @ZGx.eq_1 @ZGx.eq_2 @QE.eq_1 @QE.eq_2 @ZIK @ZHt (ξ4 @ZHd @ZHf @ZXn @ZAK.eq_1);refine WI.seq ?_;refine WI.regB Jm [0] ?_
 iterate 2 refine oS ?_
 refine oN ?_;refine ZA ?_;refine WI.seq ?_;refine WI.regB (ZCQ ZE ZQw hread) [4,5] ?_;refine oS ?_;refine oC ?_;refine oS ?_
 iterate 2 refine oG ?_
 iterate 2 refine oS ?_
 refine oN ?_;refine ZA ?_;refine WI.seq ?_;refine WI.seq ?_;refine WI.regB Jm [4,5,16] ?_;refine oS ?_;refine oG ?_;refine oN ?_;refine ZA ?_;refine WI.cond (b:=_) rfl rfl (fun h0=> ?_) (fun h0=> ?_)
 ·exfalso;simp at h0
 ·try simp only[zB]at h0
  refine WI.skip ?_;refine ZA ?_;refine WI.seq ?_;refine WI.seq ?_;have uu:=Yq uu (ZLu d);refine WI.regB Jm [4,18,19,20] ?_;refine oS ?_;refine oG ?_;refine oS ?_;refine oN ?_;refine ZA ?_;refine WI.block ?_;refine WI.loop (fun φ os=> ∃(j:Nat) (M:Dn),φ= [(4,.ref 0 d.length 0 d.length),(18,.ref 0 d.length 0 d.length),(19,.x (.int .i64 d.length)),(20,.x (.int .i64 j))]∧os=obD M∧j≤d.length∧M=ZCC d j∧(d.take j).all ZDP=true) (ZX d.length 20) ?_ (fun φ os hI=> ?_)
  ·exact⟨0,d,rfl,rfl,by omega,(ZT4 d).symm,rfl⟩
  ·obtain⟨j,M,rfl,rfl,hj,hM,hall⟩:=hI;have hMl:M.length=d.length:=by rw[hM,ZWp]
   have hRl:=ZLu M;have hFl:=ZJD M;rw[hMl]at hRl hFl;refine WI.seq ?_;refine WI.regB Jm [4,18,19,20,21] ?_;refine oG ?_;refine oN ?_;refine ZA ?_;refine WI.seq ?_;refine WI.cond (b:=_) rfl rfl (fun h1=> ?_) (fun h1=> ?_)
   ·try simp only[zB]at h1
    refine WI.skip ?_;refine ZA ?_;refine WI.seq ?_;refine WI.block ?_;refine WI.seq ?_;have hj4:j<d.length:=by omega
    have hMj:M.getD j []=d.getD j []:=by rw[hM];exact ZaA d j hj4
    have hrf:=ZWL M j (by omega);have hfm:=ZJw M j (by omega);rw[hMj]at hrf hfm;have hdj:d[j]=d.getD j []:=by simp[hj4]
    have hmr:KH (d.getD j [])=true:=by rw[←hdj];exact hmay _ (Yl hj4)
    have hM2:ZCC d (j+1)=M.set j (ZAY (d.getD j [])):=by rw[hM];exact(ZWk d j hj4).symm
    have hM0:M=M.set j (ZAU (d.getD j []) 0):=by rw[ZT8,←hMj];exact(ZNW M j).symm
    have hall3:(d.take (j+1)).all ZDP=((d.take j).all ZDP&&ZDP (d.getD j [])):=by rw[KD _ d j hj4,hdj]
    have hnf:ZDP (d.getD j [])=false→d.all ZDP=false:=fun h=>YP ZDP d j hj4 (by rw[hdj];exact h)
    generalize hr:d.getD j []=r at hMj hrf hfm hmr hM2 hM0 hall3 hnf;obtain⟨hr8,hr1,hpb⟩:=ZFL hmr;have uu:=ξ4 uu hrf hfm hRl;refine WI.regB Jm [4,7,18,19,20] ?_
    iterate 2 refine oG ?_
    refine oS ?_;refine oN ?_;refine ZA ?_;refine WI.seq ?_;refine WI.seq ?_;refine WI.regB Jm [4,7,18,19,20,24,25,26] ?_;refine oS ?_;refine oG ?_;refine oS ?_;refine oN ?_;refine ZA ?_;refine WI.block ?_;refine WI.orderA [4,7,18,19,20,24,25,26] ?_;have hFs: ∀x:List Av,(FM (M.set j x)).length=d.length:=fun x=>by rw[ZJD,ZIH,hMl]
    have hFb: ∀(x:List Av) (y:Ob),(FM (M.set j x)++ [y])[d.length]? =some y:=fun x y=>by rw[Ki (by rw[hFs];exact Zl _),hFs,ZH2];rfl
    have hFc: ∀(x:List Av) (y z:Ob),(FM (M.set j x)++ [y]).set d.length z=FM (M.set j x)++ [z]:=fun x y z=>by rw[ZDD _ _ (by rw[hFs];exact Zl _),hFs,ZH2];rfl
    have hFg: ∀(x:List Av) (Y:List Ob),(FM (M.set j x)++Y)[j]? =some (.rows false 188 2 (rows YE x)):=fun x Y=>by rw[ZUQ _ _ j (by rw[ZIH];omega),show(M.set j x).getD j []=x by simp[hMl,hj4]]
    have hFg': ∀(x:List Av),(FM (M.set j x))[j]? =some (.rows false 188 2 (rows YE x)):=fun x=>by have:=hFg x [];rwa [Kg]at this
    have hFt: ∀(x z:List Av) (Y:List Ob),(FM (M.set j x)++Y).set j (.rows false 188 2 (rows YE z))=FM (M.set j z)++Y:=fun x z Y=>by rw[ZUL _ _ j (by rw[ZIH];omega),List.set_set]
    have hIn: ∀x:List Av,x.length=r.length→(Ob.drw 154 1 (RF M)::FM (M.set j x)).all (Ob.inP (fun i=>decide (i<(Ob.drw 154 1 (RF M)::FM (M.set j x)).length)))=true:=fun x hx=>by rw[←ZUF M j x (by rw[hMj];exact hx)];exact ZR7 _
    have uu:=ξ7 uu hFs hFb hFc hFg hFg' hFt;refine WI.loop (fun φ os=> ∃(k:Nat),φ= [(4,.ref 0 d.length 0 d.length),(7,.ref (j+1) r.length 0 r.length),(18,.ref 0 d.length 0 d.length),(19,.x (.int .i64 d.length)),(20,.x (.int .i64 j)),(24,.ref (j+1) r.length 0 r.length),(25,.x (.int .i64 r.length)),(26,.x (.int .i64 k))]∧os= .drw 154 1 (RF M)::FM (M.set j (ZAU r k))∧k≤r.length∧(r.take k).all (fun p=> !(fld p.2== []))=true) (ZX r.length 26) ?_ (fun φ os hI=> ?_)
    ·exact⟨0,rfl,by rw[←hM0],by omega,rfl⟩
    ·obtain⟨k,rfl,rfl,hk,hkall⟩:=hI;refine WI.seq ?_;refine WI.regB Jm [4,7,18,19,20,24,25,26,27] ?_;refine oG ?_;refine oN ?_;refine ZA ?_;refine WI.seq ?_;refine WI.cond (b:=_) rfl rfl (fun h2=> ?_) (fun h2=> ?_)
     ·try simp only[zB]at h2
      refine WI.skip ?_;refine ZA ?_;refine WI.seq ?_;refine WI.block ?_;refine WI.seq ?_;have hk4:k<r.length:=by omega
      have hka:=ZbJ r k hk4;have hka2:=ZXj r k hk4;have hks:=ZXW r k hk4;have hml:=ZPq r k;have hml2:=ZPq r (k+1);have hpk:(r.getD k ([],[])).1.length≤64∧(r.getD k ([],[])).2.length≤256:=by rw[show r.getD k ([],[])=r[k] by simp[hk4]];exact hpb _ (Yl hk4)
      have hka3:(r.take (k+1)).all (fun p=> !(fld p.2== []))=((r.take k).all (fun p=> !(fld p.2== []))&& !(fld (r.getD k ([],[])).2== [])):=by rw[KD _ r k hk4,show r.getD k ([],[])=r[k] by simp[hk4]]
      have hnk:fld (r.getD k ([],[])).2= []→ZDP r=false:=fun h=>YP _ r k hk4 (by rw[show r[k]=r.getD k ([],[]) by simp[hk4],h];rfl)
      generalize r.getD k ([],[])=p at hka hka2 hks hpk hka3 hnk;have hs1:decide (p.1.length≤1000000)=true:=Zc (by omega);have hs2:decide (p.2.length≤1000000)=true:=Zc (by omega);have uu:=ξ8 uu hka hml hs1 hs2 hka2 hml2 hks;refine WI.regB Jm [4,7,8,9,18,19,20,24,25,26] ?_;refine oS ?_
      iterate 3 refine oG ?_
      refine oS ?_;refine oG ?_;refine oN ?_;refine ZA ?_;refine WI.seq ?_;refine WI.post ?_;refine WI.dregB Jm [4,7,8,18,19,20,24,25,26] ?_
      iterate 3 refine Yd ?_
      refine QH ?_;refine dQC ?_;refine Yd ?_;refine QH ?_;refine dAC ?_;refine dFG ?_
      iterate 2 refine dAG ?_
      refine dP ?_;refine ZLo (.drw 154 1 (RF M)::FM (M.set j (ZAU r (k+1)))) _ rfl (Je _) (hIn _ hml2) (by simp only[ZAJ,ZFV,D.inP,JJ,hFs];simp;omega) ?_;refine ZAL ?_;refine ZA ?_;refine WI.seq ?_;refine WI.regB Jm [4,7,18,19,20,24,25,26,46] ?_
      iterate 2 refine oS ?_
      refine oG ?_;refine oS ?_
      iterate 2 refine oG ?_
      refine oN ?_;refine ZA ?_;refine WI.cond (b:=_) rfl rfl (fun h3=> ?_) (fun h3=> ?_)
      ·try simp only[zB]at h3
       have hfe:fld p.2= []:=by simpa using h3
       rw[if_neg (by rw[hnf (hnk hfe)];decide)]at hu;cases hu;refine WI.seq ?_;refine WI.regB Jm [2,3] ?_
       iterate 2 refine oS ?_
       refine oN ?_;refine ZA ?_;refine WI.ret ?_;refine ZAt ?_;refine JP ?_;refine JP ?_;refine ZAt ?_;refine JP ?_;refine ZAt ?_;refine JP ?_;refine JP ?_;refine ZAt ?_;refine JP ?_
       first|refine lfR ?_|refine ZCb ?_|refine ZCB ?_|refine ZCc ?_
       rfl
      ·try simp only[zB]at h3
       have hkall2:(r.take (k+1)).all (fun p=> !(fld p.2== []))=true:=by rw[hka3,hkall];simpa using h3
       refine WI.skip ?_;refine QI ?_;refine ZA ?_;refine WI.orderA [4,7,18,19,20,24,25,26] ?_;refine WI.regB Jm [4,7,18,19,20,24,25,26] ?_;refine oG ?_;refine oS ?_;refine oN ?_;refine ZA ?_;exact⟨⟨k+1,rfl,rfl,by omega,hkall2⟩,by simp[ZX,Ab.get,D.val,ZH];omega⟩
     ·try simp only[zB]at h2
      refine WI.exit ?_;refine Ka ?_;refine Ka ?_;refine ZB2 ?_;refine ZA ?_;obtain rfl:k=r.length:=by omega
      rw[KW]at hkall;rw[ZYw];have hrn:(r.map ZDc).length=r.length:=Yf ..;have hsc:=Zal 188 (r.map ZDc) (ZUJ hmr) (by intro hh;rw[hh]at hrn;simp at hrn;omega) (by omega);rw[hrn]at hsc;have hsr:=ZL.row (args:= [.ref (j+1) r.length 0 r.length,.fn 143 []]) (OS:= .drw 154 1 (RF M)::FM (M.set j (r.map ZDc))) (j+1) (by rw[show Zn (YO [j+1]) [D.ref (j+1) r.length 0 r.length,.fn 143 []]= [D.ref 0 r.length 0 r.length,.fn 143 []] by simp only[Zn,D.ren,YO,if_true]];exact hsc) (by rw[ZBe];exact hFg' _) rfl (by simp[Yb,D.inP,Zh]) (fun f=>rfl);have hft2:=hFt (r.map ZDc) (ZBd (r.map ZDc)) [];rw[Kg,Kg]at hft2;rw[ZBn,hft2]at hsr;have hM3:RF M=RF (ZCC d (j+1)):=by rw[hM2];exact(ZUF M j _ (by rw[ZWx,hMj])).symm
      have hM4:FM (M.set j (ZBd (r.map ZDc)))=FM (ZCC d (j+1)):=by rw[hM2];rfl
      rw[hM4]at hsr;rw[hM3]at hsr⊢;have hall2:(d.take (j+1)).all ZDP=true:=by rw[hall3,hall];exact hkall
      have uu:=Yq uu hrn;refine WI.regB (ZCQ ZE ZPh hsr) [4,18,19,20] ?_;refine oS ?_;refine oC ?_;refine oN ?_;refine QI ?_;refine ZA ?_;refine WI.orderA [4,18,19,20] ?_;refine WI.regB Jm [4,18,19,20] ?_;refine oG ?_;refine oS ?_;refine oN ?_;refine ZA ?_;exact⟨⟨j+1,ZCC d (j+1),rfl,rfl,by omega,rfl,hall2⟩,by simp[ZX,Ab.get,D.val,ZH];omega⟩
   ·try simp only[zB]at h1
    refine WI.exit ?_;refine Ka ?_;refine Ka ?_;refine ZB2 ?_;refine ZA ?_;refine WI.seq ?_;obtain rfl:j=d.length:=by omega
    rw[KW]at hall;rw[if_pos hall]at hu;rw[ZXw]at hM;subst hM;have hdl:(d.map ZAY).length=d.length:=Yf ..;rw[←hdl];refine WI.orderA [4] ?_;refine WI.freeze (List.range' 1 (d.map ZAY).length) ?_;rw[ZaJ];refine WI.pickA [0] (φ':= [(4,.ref 0 (d.map ZAY).length 0 (d.map ZAY).length)]) ?_ (hok:=by rw[JJ,ZcA];simp[ZMZ,Kn,Zh]) (hp:=rfl) (ho:=ZbG (d.map ZAY));refine WI.toXA 0 ?_;have hsn:smD (d.map ZAY):=by
     intro r hr p hp;obtain⟨q,hq,rfl⟩:=YW.1 hr;obtain⟨x,hx,rfl⟩:=YW.1 ((ZGS _).mem_iff.1 hp);have:=((ZFL (hmay q hq)).2.2 x hx).1;show(ZF x.1).length≤900000;unfold ZF;rw[Yf];omega
    have hsnd:decide (smD (d.map ZAY))=true:=Zc hsn;have htk:(d.map ZAY).take (d.map ZAY).length=d.map ZAY:=KW;have uu:=ξ4 uu hsnd (ZTW (d.map ZAY)) htk;refine WI.regB Jm [2,3] ?_;refine oS ?_;refine oC ?_
    iterate 2 refine oG ?_
    iterate 2 refine oS ?_
    refine oN ?_;refine ZA ?_;refine WI.ret ?_
    first|refine lfR ?_|refine ZCb ?_|refine ZCB ?_|refine ZCc ?_
    rw[hu]
end Go.Proofs.YtiogclkbccdefaaGreatDoor
end
section
namespace Go.Proofs.YtiogclkbccdefaaGreatDoor
open Go.RowKit Go.Bo Go.Ab
theorem ZUh:Yp []=([],0):=by unfold Yp;simp
def ZIi:Tabs:=ZW (ZW (ZQ) 121 QB) 144 QE
theorem ZNt:SsOk Tryz.prog ZIi:=ZJ (ZJ (ZE) (ZZ 121) ZGY) (ZZ 144) ZFY
theorem ZPt:(∀a,ZIi.q 121 a=QB a)∧(∀a,ZIi.q 144 a=QE a)∧(∀f a o,ZIi.r f a o=none)∧(∀f a o,ZIi.k f a o=none):=⟨fun _=>rfl,fun _=>rfl,fun _ _ _=>rfl,fun _ _ _=>rfl⟩
theorem ZZ3(s:Tx)(h:(Yp s).2≠0):ZD Tryz.prog 96 [.x (.str s)] (.tup [.x (.str (Jn s).1),.x (.int .i64 (Jn s).2)]):=by
 rcases hu:Jn s with⟨u,e⟩
 unfold Jn at hu;rw[if_pos h]at hu;cases hu;refine ZG.pure (fC 96 true ?_) rfl;intro C0 E0;have uu:=ξ5 @QB.eq_1 @QB.eq_2 @ZPt @QE.eq_1 @QE.eq_2;have tT:=ZNt;refine nz ?_;refine rg tT [0] ?_;refine rg tT [4,5] ?_;refine rg tT [4,5,16] ?_;refine cd (fun h0=> ?_) (fun h0=> ?_)
 ·refine rg tT [2,3] ?_;refine lf ?_
  first|rfl|exact⟨rfl,rfl⟩|trivial
 ·exact absurd (by simpa using h0) h
theorem ZbO:ZD Tryz.prog 96 [.x (.str [])] (.tup [.x (.str (Jn []).1),.x (.int .i64 (Jn []).2)]):=by
 have h1:Yp []=([],0):=ZUh;have h2:Jn []=ZAl []:=by unfold Jn;rw[h1];simp
 have h3:decide (smD [])=true:=by decide
 have h4:ZY QA (rows QA [])=some []:=ZTW [];rw[h2];refine ZG.pure (fC 96 true ?_) rfl;intro C0 E0;have uu:=ξ8 @QB.eq_1 @QB.eq_2 @QE.eq_1 @QE.eq_2 h1 h3 h4 @ZPt;have tT:=ZNt;refine nz ?_;refine rg tT [0] ?_;refine rg tT [4,5] ?_;refine rg tT [4,5,16] ?_;refine ce (fun h0=> ?_) (fun h0=> ?_)
 ·simp at h0
 ·refine rg tT [4,18,19,20] ?_;refine WI.loop (fun φ os=>φ= [(4,.x (.sl (rows QA []))),(18,.x (.sl (rows QA []))),(19,.x (.int .i64 0)),(20,.x (.int .i64 0))]∧os= []) (ZX 0 20) ?_ (fun φ os hI=> ?_)
  ·exact⟨rfl,rfl⟩
  ·obtain⟨rfl,rfl⟩:=hI;refine nz ?_;refine rg tT [4,18,19,20,21] ?_;refine ce (fun h1=> ?_) (fun h1=> ?_)
   ·simp at h1
   ·refine rg tT [2,3] ?_;refine lf ?_
    first|rfl|exact⟨rfl,rfl⟩|trivial
theorem Za8(s:Tx):ZD Tryz.prog 96 [.x (.str s)] (.tup [.x (.str (Jn s).1),.x (.int .i64 (Jn s).2)]):=by
 by_cases h:(Yp s).2=0
 ·by_cases hs:s= []
  ·subst hs;exact ZbO
  ·exact ZaP s (Yp s).1 (by rw[←h]) hs
 ·exact ZZ3 s h
end Go.Proofs.YtiogclkbccdefaaGreatDoor
end
section
namespace Go.Proofs.YtiogclkbccdefaaGreatDoor
open Go.RowKit Go.Bo Go.Ab
theorem ZRh(c:UInt8):QT c=32↔c=32:=by
 by_cases h:65≤c.toNat∧c.toNat≤90
 ·have h1:=ZMe h;constructor
  ·intro e;rw[e]at h1;simp at h1;omega
  ·rintro rfl;simp at h
 ·rw[ZRJ h]
theorem ZRm: ∀s,QQ 32 (ZF s)=(QQ 32 s).map ZF
 | []=>rfl
 |b::l=>by
  have ih:=ZRm l;show QQ 32 (QT b::ZF l)=_;unfold QQ;by_cases h:b=32
  ·rw[if_pos ((ZRh b).2 h),if_pos h,ih];rfl
  ·rw[if_neg (fun k=>h ((ZRh b).1 k)),if_neg h,ih];cases QQ 32 l with
   |nil=>rfl
   |cons x r=>rfl
theorem ZVq(s:List UInt8):ZDG (ZF s)=(ZDG s).map ZF:=by
 unfold ZDG;rw[ZRm,List.filter_map];congr 1;refine ZYD fun x _=> ?_
 simp[ZF]
theorem ZU2: ∀l:List (List UInt8),jn (l.map ZF)=ZF (jn l)
 | []=>rfl
 | [x]=>rfl
 |x::y::r=>by
  have:=ZU2 (y::r);show ZF x++32::jn ((y::r).map ZF)=ZF (x++32::jn (y::r));rw[this];unfold ZF;rw[KC,YL];rfl
theorem ZZ9(s:Tx):blk (ZF s)=ZF (blk s):=by
 show jn (ZDG (ZF s))=ZF (jn (ZDG s));rw[ZVq,ZU2]
end Go.Proofs.YtiogclkbccdefaaGreatDoor
end
section
namespace Go.Proofs.YtiogclkbccdefaaGreatDoor
open Go.RowKit Go.Bo Go.Ab
end Go.Proofs.YtiogclkbccdefaaGreatDoor
end
section
namespace Go.Proofs.YtiogclkbccdefaaGreatDoor
open Go.RowKit Go.Bo Go.Ab
end Go.Proofs.YtiogclkbccdefaaGreatDoor
end
section
namespace Go.Proofs.YtiogclkbccdefaaGreatDoor
open Go.RowKit Go.Bo Go.Ab
def Jy(k:Int)(s:Tx):Tx×Bool:=
 if s.length>4096 then([],false)else if k=1 then(fld s,!(fld s== []))else if k=2 then(blk s,!(blk s== []))else if k=3 then ZEx s
 else if k=4 then(s,true)else if k=5 then((Jn s).1,(Jn s).2==0)else([],false)
def ZA3:List D→Option (Bool×D)
 | [.x (.str s)]=>some (true,.tup [.x (.str (Jn s).1),.x (.int .i64 (Jn s).2)])
 |_=>none
theorem ZMG: ∀args r,ZA3 args=some (true,r)→ZD Tryz.prog 96 args r:=by
 intro args r h;unfold ZA3 at h;split at h
 ·rename_i s;simp only[Ze,Za,ZS,Zi,true_and]at h;obtain rfl:=h;exact(Za8 s)
 ·cases h
def ZJ8:List D→Option (Bool×D)
 | [.x (.str s)]=>some (decide (s.length≤1000000),.x (.str (blk s)))
 |_=>none
theorem ZWb: ∀args r,ZJ8 args=some (true,r)→ZD Tryz.prog 174 args r:=by
 intro args r h;unfold ZJ8 at h;split at h
 ·rename_i s;simp only[Ze,Za,ZS,Zi,true_and]at h;obtain⟨h1,rfl⟩:=h;exact(ZQf s h1)
 ·cases h
def ZJu:List D→Option (Bool×D)
 | [.x (.str s)]=>some (true,.tup [.x (.str (ZEx s).1),.x (.bool (ZEx s).2)])
 |_=>none
theorem ZWd: ∀args r,ZJu args=some (true,r)→ZD Tryz.prog 182 args r:=by
 intro args r h;unfold ZJu at h;split at h
 ·rename_i s;simp only[Ze,Za,ZS,Zi,true_and]at h;obtain rfl:=h;exact(ZdI s)
 ·cases h
def ZFS:Tabs:=ZW (ZW (ZW (ZW (ZQ) 63 Kc) 174 ZJ8) 182 ZJu) 96 ZA3
theorem ZWN:SsOk Tryz.prog ZFS:=ZJ (ZJ (ZJ (ZJ (ZE) (ZZ 63) ZIL) (ZZ 174) ZWb) (ZZ 182) ZWd) (ZZ 96) ZMG
theorem ZYZ:(∀a,ZFS.q 63 a=Kc a)∧(∀a,ZFS.q 174 a=ZJ8 a)∧(∀a,ZFS.q 182 a=ZJu a)∧(∀a,ZFS.q 96 a=ZA3 a)∧(∀f a o,ZFS.r f a o=none)∧(∀f a o,ZFS.k f a o=none):=⟨fun _=>rfl,fun _=>rfl,fun _=>rfl,fun _=>rfl,fun _ _ _=>rfl,fun _ _ _=>rfl⟩
theorem Zac(k:Int)(s:Tx):ZD Tryz.prog 154 [.x (.int .i64 k),.x (.str s)] (.tup [.x (.str (Jy k s).1),.x (.bool (Jy k s).2)]):=by
 rcases hu:Jy k s with⟨u,b⟩
 unfold Jy at hu;have hbl:=ZZ9 s;have hfl:fld s=ZF (blk s):=rfl;have hll:(ZF s).length=s.length:=by unfold ZF;rw[Yf]
 refine ZG.pure (fC 154 true ?_) rfl;intro C0 E0;have uu:=Km @Kc.eq_1 @Kc.eq_2 @ZJ8.eq_1 @ZJ8.eq_2 @ZJu.eq_1 @ZJu.eq_2 @ZA3.eq_1 @ZA3.eq_2 (Jz hbl hll @ZYZ);have tT:=ZWN;refine nz ?_;refine rg tT [0,1] ?_;refine rg tT [0,1,11] ?_;refine cd (fun h0=> ?_) (fun h0=> ?_)
 ·refine rg tT [4,5] ?_;refine lf ?_
  (clear uu;grind)
 ·refine rg tT [0,1,6] ?_;refine rg tT [1,6,13] ?_;refine rg tT [1,6,13,14] ?_;refine cd (fun h1=> ?_) (fun h1=> ?_)
  ·refine rg tT [6] ?_;refine rg tT [6] ?_;refine rg tT [4,5] ?_;refine lf ?_
   (clear uu;grind)
  ·refine rg tT [1,6,13,16] ?_;refine cd (fun h2=> ?_) (fun h2=> ?_)
   ·refine rg tT [6] ?_;refine rg tT [4,5] ?_;refine lf ?_
    (clear uu;grind)
   ·refine rg tT [1,13,18] ?_;refine cd (fun h3=> ?_) (fun h3=> ?_)
    ·refine rg tT [4,5] ?_;refine lf ?_
     (clear uu;grind)
    ·refine rg tT [1,13,20] ?_;refine cd (fun h4=> ?_) (fun h4=> ?_)
     ·refine rg tT [4,5] ?_;refine lf ?_
      (clear uu;grind)
     ·refine rg tT [1,22] ?_;refine cd (fun h5=> ?_) (fun h5=> ?_)
      ·refine rg tT [7,8] ?_;refine rg tT [4,5] ?_;refine lf ?_
       (clear uu;grind)
      ·refine rg tT [4,5] ?_;refine lf ?_
       (clear uu;grind)
def KL:List D→Option (Bool×D)
 | [.x (.int .i64 k),.x (.str s)]=>some (true,.tup [.x (.str (Jy k s).1),.x (.bool (Jy k s).2)])
 |_=>none
theorem ZJp: ∀args r,KL args=some (true,r)→ZD Tryz.prog 154 args r:=by
 intro args r h;unfold KL at h;split at h
 ·rename_i k s;simp only[Ze,Za,ZS,Zi,true_and]at h;obtain rfl:=h;exact(Zac k s)
 ·cases h
def eqV(k:Int)(a b:Tx):Int:=if(Jy k a).2=true∧(Jy k b).2=true then(if(Jy k a).1=(Jy k b).1 then 1 else 0)else 2
end Go.Proofs.YtiogclkbccdefaaGreatDoor
end
section
namespace Go.Proofs.YtiogclkbccdefaaGreatDoor
open Go.RowKit Go.Bo Go.Ab
abbrev Zg:=Tx×(Int×(Bool×Unit))
abbrev Yi:RC Zg:=Kz ZB (Kz (ZAp .i64) (Kz ZMF ZDi))
theorem JX:Yi.Good:=JZ ZO (JZ (ZAh .i64) (JZ ZSU ZEI))
abbrev Zs:=Tx×(List Tx×(List Tx×Unit))
abbrev Kp:RC Zs:=Kz ZB (Kz (rSl ZB) (Kz (rSl ZB) ZDi))
theorem KI:Kp.Good:=JZ ZO (JZ (ZFz ZO) (JZ (ZFz ZO) ZEI))
def Zb8(t:Zg):Zg:=(ZF t.1,t.2)
def ZE5(c:Zs):Zs:=(ZF c.1,c.2.1.map ZF,c.2.2.1.map ZF,())
def tyL(T:List Zg):List (Tx×Zg):=T.map fun t=>(ZF t.1,Zb8 t)
def clL(C:List Zs):List (Tx×Zs):=C.map fun c=>(ZF c.1,ZE5 c)
def JK(L:List (Tx×Zg)):List Pr:=YV Jo Yi.enc L
def JC(M:List (Tx×Zs)):List Pr:=YV Jo Kp.enc M
abbrev scO(L:List (Tx×Zg))(M:List (Tx×Zs)):List Ob:= [.box [.mref 1,.mref 2],.mpo .str true (JK L),.mpo .str true (JC M)]
def tyV(L:List (Tx×Zg))(k:Tx):Zg:=(ZI L k).getD ([],0,false,())
def clV(M:List (Tx×Zs))(k:Tx):Zs:=(ZI M k).getD ([],[],[],())
def tyD(t:Zg):D:= .agg [.x (.str t.1),.x (.int .i64 t.2.1),.x (.bool t.2.2.1)]
def clD(c:Zs):D:= .agg [.x (.str c.1),.x (.sl (rows ZB c.2.1)),.x (.sl (rows ZB c.2.2.1))]
theorem Zcu(L:List (Tx×Zg))(k:Tx):Yx (JK L) [X.str k]=(ZI L k).map fun t=> [.x (.str t.1),.x (.int .i64 t.2.1),.x (.bool t.2.2.1)]:=by
 unfold JK;rw[ZDp Jo Yi.enc hkS L k];rfl
theorem Zb3(M:List (Tx×Zs))(k:Tx):Yx (JC M) [X.str k]=(ZI M k).map fun c=> [.x (.str c.1),.x (.sl (rows ZB c.2.1)),.x (.sl (rows ZB c.2.2.1))]:=by
 unfold JC;rw[ZDp Jo Kp.enc hkS M k];rfl
theorem Zb4(L:List (Tx×Zg))(k:Tx)(t:Zg):YM (JK L) [X.str k] [.x (.str t.1),.x (.int .i64 t.2.1),.x (.bool t.2.2.1)]=JK (Zz L k t):=ZCg Jo Yi.enc hkS L k t
theorem Zcd(M:List (Tx×Zs))(k:Tx)(c:Zs):YM (JC M) [X.str k] [.x (.str c.1),.x (.sl (rows ZB c.2.1)),.x (.sl (rows ZB c.2.2.1))]=JC (Zz M k c):=ZCg Jo Kp.enc hkS M k c
theorem ZBm(f:Nat→Nat)(L:List (Tx×Zg)):(JK L).map (Yz f)=JK L:=Qk _ _ _ _
theorem ZBa(f:Nat→Nat)(M:List (Tx×Zs)):(JC M).map (Yz f)=JC M:=Qk _ _ _ _
theorem ZCH(L:List (Tx×Zg)):ZBY (JK L)= []:=ZBN _ _ _
theorem ZCP(M:List (Tx×Zs)):ZBY (JC M)= []:=ZBN _ _ _
theorem Qd(p:Nat→Bool)(L:List (Tx×Zg)):(JK L).all (Qh p)=true:=QN _ _ _ _
theorem Ql(p:Nat→Bool)(M:List (Tx×Zs)):(JC M).all (Qh p)=true:=QN _ _ _ _
theorem ZdN(ρ:List Nat)(os:List Ob)(L:List (Tx×Zg)):(JK L).map (mpP (Qr ρ os))=JK L:=ZDd _ _ _ _ _
theorem Zdb(ρ:List Nat)(os:List Ob)(M:List (Tx×Zs)):(JC M).map (mpP (Qr ρ os))=JC M:=ZDd _ _ _ _ _
theorem ZD8(L:List (Tx×Zg)):Qq ZB Yi (JK L)=some L:=ZQT ZO JX L
theorem ZEE(M:List (Tx×Zs)):Qq ZB Kp (JC M)=some M:=ZQT ZO KI M
theorem ZA5(L:List (Tx×Zg))(M:List (Tx×Zs)):(scO L M).all (Ob.inP (fun i=>decide (i<(scO L M).length)))=true:=by
 simp[Ob.inP,Yb,D.inP,Qd,Ql]
def Zr:List D→Option (Bool×D)
 | [.x (.str s)]=>some (decide (s.length≤140737488355328),.x (.str (ZF s)))
 |_=>none
theorem ZAA: ∀args r,Zr args=some (true,r)→ZD Tryz.prog 63 args r:=by
 intro args r h;unfold Zr at h;split at h
 ·rename_i s;simp only[Ze,Za,ZS,Zi,true_and]at h;obtain⟨h1,rfl⟩:=h;exact(ZMw s h1)
 ·cases h
def ZLT:Tabs:=ZW (ZQ) 63 Zr
theorem ZOD:SsOk Tryz.prog ZLT:=ZJ (ZE) (ZZ 63) ZAA
theorem ZQM:(∀a,ZLT.q 63 a=Zr a)∧(∀f a o,ZLT.r f a o=none)∧(∀f a o,ZLT.k f a o=none):=⟨fun _=>rfl,fun _ _ _=>rfl,fun _ _ _=>rfl⟩
theorem ZWK(L:List (Tx×Zg))(M:List (Tx×Zs))(n:Tx)(hn:n.length≤140737488355328):ZL Tryz.prog 74 [.ptr 0 0,.x (.str n)] (scO L M) (.tup [tyD (tyV L (ZF n)),.x (.bool (ZI L (ZF n)).isSome)]) (scO L M):=by
 have hg:=Zcu L (ZF n);have hO:=ZA5 L M;unfold tyV;rcases hm:ZI L (ZF n)with _|⟨a,k,b,u⟩
 ·rw[hm,Qf]at hg;refine ZG.mcallsX (fC 74 true ?_) (by first|decide|(simp;done)) hO (by first|rfl|exact hR);intro C0 E0;have uu:=ξ4 @Zr.eq_1 @Zr.eq_2 hg @ZQM;have tT:=ZOD;refine nz ?_;refine rg tT [0,1,4] ?_;refine WI.dregB tT [4,6,7] ?_
  iterate 3 refine Yd ?_
  refine QH ?_;refine Yd ?_;refine dQC ?_;refine QH ?_;refine Yd ?_
  iterate 2 refine dFG ?_
  refine dKG ?_;refine dAG ?_;refine Yd ?_;refine dN ?_;refine nz ?_;refine rg tT [4,5] ?_;refine lf ?_;exact⟨rfl,_,rfl⟩
 ·rw[hm,YS]at hg;refine ZG.mcallsX (fC 74 true ?_) (by first|decide|(simp;done)) hO (by first|rfl|exact hR);intro C0 E0;have uu:=ξ4 @Zr.eq_1 @Zr.eq_2 hg @ZQM;have tT:=ZOD;refine nz ?_;refine rg tT [0,1,4] ?_;refine WI.dregB tT [4,6,7] ?_
  iterate 3 refine Yd ?_
  refine QH ?_;refine Yd ?_;refine dQC ?_;refine QH ?_;refine Yd ?_
  iterate 2 refine dFG ?_
  refine dKG ?_;refine dAG ?_;refine Yd ?_;refine dN ?_;refine nz ?_;refine rg tT [4,5] ?_;refine lf ?_;exact⟨rfl,_,rfl⟩
def ZD3:List D→List Ob→Option (Bool×D×List Ob)
 | [.ptr 0 0,.x (.str n)],[.box [.mref 1,.mref 2],.mpo .str true P1,.mpo .str true P2]=>(Qq ZB Yi P1).bind fun L=>(Qq ZB Kp P2).bind fun M=>some (decide (n.length≤140737488355328),.tup [tyD (tyV L (ZF n)),.x (.bool (ZI L (ZF n)).isSome)],[.box [.mref 1,.mref 2],.mpo .str true (JK L),.mpo .str true (JC M)])
 |_,_=>none
theorem ZOj: ∀args os r os',ZD3 args os=some (true,r,os')→ZL Tryz.prog 74 args os r os':=by
 intro args os r os' h;unfold ZD3 at h;split at h
 ·rename_i n P1 P2;obtain⟨L,hm0,h⟩:=Zv h;obtain⟨M,hm1,h⟩:=Zv h;simp only[Ze,Za,ZS,Zi,true_and]at h;obtain⟨h1,rfl,rfl⟩:=h;rw[JD ZO JX hm0];rw[JD ZO KI hm1];exact ZWK L M n h1
 ·cases h
def ZAv:List D→List Ob→Option (Bool×D)
 | [.ptr 0 0,.x (.str n)],[.box [.mref 1,.mref 2],.mpo .str true P1,.mpo .str true P2]=>(Qq ZB Yi P1).bind fun L=>(Qq ZB Kp P2).bind fun M=>some (decide (n.length≤140737488355328),.tup [tyD (tyV L (ZF n)),.x (.bool (ZI L (ZF n)).isSome)])
 |_,_=>none
theorem ZNr: ∀args os r,ZAv args os=some (true,r)→r.clean=true∧ ∃X,ZL Tryz.prog 74 args os r (os++X):=by
 intro args os r h;unfold ZAv at h;split at h
 ·rename_i n P1 P2;obtain⟨L,hm0,h⟩:=Zv h;obtain⟨M,hm1,h⟩:=Zv h;simp only[Ze,Za,ZS,Zi,true_and]at h;obtain⟨h1,rfl⟩:=h;rw[JD ZO JX hm0];rw[JD ZO KI hm1];exact⟨rfl,[],by rw[Kg];exact ZWK L M n h1⟩
 ·cases h
def ZIf:Tabs:=ZFk (ZQ) 74 ZAv
theorem ZAD:SsOk Tryz.prog ZIf:=ZC0 (ZE) (ZZ 74) ZNr
theorem ZYT:(∀a,ZIf.q 74 a=none)∧(∀a o,ZIf.t 74 a o=(Jx ZAv a o).map fun r=>(r.1,r.2,o))∧(∀a o,ZIf.r 74 a o=Jx ZAv a o)∧(∀f a o,ZIf.k f a o=none):=⟨fun _=>rfl,fun _ _=>rfl,fun _ _=>rfl,fun _ _ _=>rfl⟩
def ZJf:Tabs:=Jc (ZQ) 74 ZD3
theorem ZVB:SsOk Tryz.prog ZJf:=Ys (ZE) (ZZ 74) ZOj
theorem ZYP:(∀a,ZJf.q 74 a=none)∧(∀a o,ZJf.t 74 a o=Ym ZD3 a o)∧(∀f a o,ZJf.r f a o=none)∧(∀f a o,ZJf.k f a o=none):=⟨fun _=>rfl,fun _ _=>rfl,fun _ _ _=>rfl,fun _ _ _=>rfl⟩
theorem ZdA(L:List (Tx×Zg))(M:List (Tx×Zs))(n:Tx)(hn:n.length≤140737488355328):ZL Tryz.prog 122 [.ptr 0 0,.x (.str n)] (scO L M) (.tup [tyD (tyV L (ZF n)),.x (.bool (ZI L (ZF n)).isSome)]) (scO L M):=by
 have hO:=ZA5 L M;have h1:=ZD8 L;have h2:=ZEE M;unfold tyD;refine ZG.mcallsX (fC 122 true ?_) (by first|decide|(simp;done)) hO (by first|rfl|exact hR);intro C0 E0;have uu:=Km @ZD3.eq_1 @ZD3.eq_2 h1 h2 @tyD.eq_1 @ZBm @ZBa @ZCH (ξ4 @ZCP @Qd @Ql @ZYP);have tT:=ZVB;refine nz ?_;refine rg tT [0,1,4] ?_;refine rg tT [0,1,4,7] ?_;refine ce (fun h0=> ?_) (fun h0=> ?_)
 ·simp at h0
 ·refine rg tT [4,5] ?_;refine lf ?_;exact⟨rfl,_,rfl⟩
def ZMD:Tabs:=ZW (ZQ) 63 Zr
theorem ZOI:SsOk Tryz.prog ZMD:=ZJ (ZE) (ZZ 63) ZAA
theorem ZP6:(∀a,ZMD.q 63 a=Zr a)∧(∀f a o,ZMD.r f a o=none)∧(∀f a o,ZMD.k f a o=none):=⟨fun _=>rfl,fun _ _ _=>rfl,fun _ _ _=>rfl⟩
theorem ZbP(L:List (Tx×Zg))(M:List (Tx×Zs))(n:Tx)(hn:n.length≤140737488355328):ZL Tryz.prog 119 [.ptr 0 0,.x (.str n)] (scO L M) (.tup [clD (clV M (ZF n)),.x (.bool (ZI M (ZF n)).isSome)]) (scO L M):=by
 have hg:=Zb3 M (ZF n);have hO:=ZA5 L M;unfold clV;rcases hm:ZI M (ZF n)with _|⟨a,m,y,u⟩
 ·rw[hm,Qf]at hg;refine ZG.mcallsX (fC 119 true ?_) (by first|decide|(simp;done)) hO (by first|rfl|exact hR);intro C0 E0;have uu:=ξ4 @Zr.eq_1 @Zr.eq_2 hg @ZP6;have tT:=ZOI;refine nz ?_;refine rg tT [0,1,4] ?_;refine rg tT [0,1,4,9] ?_;refine ce (fun h0=> ?_) (fun h0=> ?_)
  ·simp at h0
  ·refine WI.dregB tT [4,6,7] ?_
   iterate 4 refine Yd ?_
   refine QH ?_;refine Yd ?_;refine dQC ?_;refine QH ?_;refine Yd ?_
   iterate 2 refine dFG ?_
   refine dKG ?_;refine dAG ?_;refine Yd ?_;refine dN ?_;refine nz ?_;refine rg tT [4,5] ?_;refine WI.nnA ?_;refine lf ?_;exact⟨rfl,_,rfl⟩
 ·rw[hm,YS]at hg;refine ZG.mcallsX (fC 119 true ?_) (by first|decide|(simp;done)) hO (by first|rfl|exact hR);intro C0 E0;have uu:=ξ4 @Zr.eq_1 @Zr.eq_2 hg @ZP6;have tT:=ZOI;refine nz ?_;refine rg tT [0,1,4] ?_;refine rg tT [0,1,4,9] ?_;refine ce (fun h0=> ?_) (fun h0=> ?_)
  ·simp at h0
  ·refine WI.dregB tT [4,6,7] ?_
   iterate 4 refine Yd ?_
   refine QH ?_;refine Yd ?_;refine dQC ?_;refine QH ?_;refine Yd ?_
   iterate 2 refine dFG ?_
   refine dKG ?_;refine dAG ?_;refine Yd ?_;refine dN ?_;refine nz ?_;refine rg tT [4,5] ?_;refine lf ?_;exact⟨rfl,_,rfl⟩
def ZG2:List D→List Ob→Option (Bool×D×List Ob)
 | [.ptr 0 0,.x (.str n)],[.box [.mref 1,.mref 2],.mpo .str true P1,.mpo .str true P2]=>(Qq ZB Yi P1).bind fun L=>(Qq ZB Kp P2).bind fun M=>some (decide (n.length≤140737488355328),.tup [clD (clV M (ZF n)),.x (.bool (ZI M (ZF n)).isSome)],[.box [.mref 1,.mref 2],.mpo .str true (JK L),.mpo .str true (JC M)])
 |_,_=>none
theorem ZUH: ∀args os r os',ZG2 args os=some (true,r,os')→ZL Tryz.prog 119 args os r os':=by
 intro args os r os' h;unfold ZG2 at h;split at h
 ·rename_i n P1 P2;obtain⟨L,hm0,h⟩:=Zv h;obtain⟨M,hm1,h⟩:=Zv h;simp only[Ze,Za,ZS,Zi,true_and]at h;obtain⟨h1,rfl,rfl⟩:=h;rw[JD ZO JX hm0];rw[JD ZO KI hm1];exact ZbP L M n h1
 ·cases h
end Go.Proofs.YtiogclkbccdefaaGreatDoor
end
section
namespace Go.Proofs.YtiogclkbccdefaaGreatDoor
open Go.RowKit Go.Bo Go.Ab
def ZKD:List D→List Ob→Option (Bool×D×List Ob)
 | [.ref 0 n 0 n',.x (.int .i64 i),.ref 1 1 0 1],[.rows false e 2 rs,.rows false e' 2 [r]]=>some (decide (n=rs.length∧n'=rs.length∧0≤i∧i≤rs.length∧rs.length≤1000000∧e=94∧e'=94),.ref 0 (n+1) 0 (n+1),[.rows false e 2 (YB rs i.toNat [r]),.rows false e' 2 [r]])
 |_,_=>none
theorem ZXG: ∀args os r os',ZKD args os=some (true,r,os')→ZL Tryz.prog 126 args os r os':=by
 intro args os r os' h;unfold ZKD at h;split at h
 ·rename_i n n' i e rs e' r0;simp only[Ze,Za,Zi]at h;obtain⟨⟨rfl,rfl,h0,h1,h2,rfl,rfl⟩,rfl,rfl⟩:=h;have h:=Zc5 rs r0 i.toNat (by omega) h2;rwa [show((i.toNat:Nat):Int)=i by omega]at h
 ·cases h
def ZCU:List D→Option (Bool×D)
 | [.x (.sl [[.nils],[.sl R]])]=>(ZY ZB R).map fun b=>(decide (b.length≤100000),.x (.sl (rows ZB b)))
 | [.x (.sl [[.sl R],[.sl R']])]=>(ZY ZB R).bind fun a=>(ZY ZB R').map fun b=>(decide (a.length≤100000∧b.length≤100000),.x (.sl (rows ZB (a++b))))
 |_=>none
theorem ZQh: ∀args r,ZCU args=some (true,r)→ZD Tryz.prog 73 args r:=by
 intro args r h;unfold ZCU at h;split at h
 ·rename_i R;obtain⟨b,h1,h2⟩:=ZT h;simp only[Za,Zi]at h2;obtain⟨h3,rfl⟩:=h2;rw[←Zb ZO h1];exact ZSQ b h3
 ·rename_i R R';obtain⟨a,h1,h⟩:=Zv h;obtain⟨b,h2,h3⟩:=ZT h;simp only[Za,Zi]at h3;obtain⟨h4,rfl⟩:=h3;rw[←Zb ZO h1,←Zb ZO h2];exact ZQa a b h4.1 h4.2
 ·cases h
def ZA8(l:List ZU)(n:List UInt8)(vs:List (List UInt8)):List ZU:=if vs= []then l else l.take (Zm l n)++ [(n,ZDA [] (KS l n++vs),())]++ZB0 l n
theorem ZFu{l:List ZU}{n:List UInt8}(h:ZBh l n=true):Zm l n<l.length:=by
 unfold ZBh at h;split at h
 ·rename_i a ha;exact(ZR ha).1
 ·cases h
theorem ZG8{l:List ZU}{n:List UInt8}(h:ZBh l n=true):(rows ZV l)[Zm l n]? =some [.str n,.sl (rows ZB (KS l n))]∧ ∀out,(rows ZV l).set (Zm l n) [.str n,.sl (rows ZB out)]=rows ZV (l.take (Zm l n)++ [(n,out,())]++ZB0 l n):=by
 have hp:=ZFu h;have he:=ZSH l n hp h;constructor
 ·rw[ZL4 l _ hp];unfold KS;have e:(l.getD (Zm l n) ([],[],())).1=n:=by rw[show l.getD (Zm l n) ([],[],())=l[Zm l n] by simp[hp]];exact he
  rw[if_pos h,e]
 ·intro out;unfold ZB0;rw[if_pos h];have e: [X.str n,.sl (rows ZB out)]=ZV.enc (n,out,()):=rfl;rw[e];unfold rows;rw[←ZLA,List.set_eq_take_append_cons_drop,if_pos hp];simp
theorem ZMI{l:List ZU}{n:List UInt8}(h:ZBh l n=false):(YB (rows ZV l) (Zm l n) [[.str n,.nils]])[Zm l n]? =some [.str n,.nils]∧ ∀out,(YB (rows ZV l) (Zm l n) [[.str n,.nils]]).set (Zm l n) [.str n,.sl (rows ZB out)]=rows ZV (l.take (Zm l n)++ [(n,out,())]++ZB0 l n):=by
 have hp:=ZFp l n;have hl:((rows ZV l).take (Zm l n)).length=Zm l n:=by rw[JA,Zo];omega
 constructor
 ·unfold YB;rw[Yk,Ki (by omega),hl,ZH2];rfl
 ·intro out;unfold ZB0 YB;rw[if_neg (by rw[h];decide),Yk,ZDD _ _ (by omega),hl,ZH2];unfold rows;rw[←List.map_take,←List.map_drop,KC,KC];simp[ZV,Kz,ZB,rSl,ZDi,rows]
theorem ZQ6(l:List (List UInt8))(x:List UInt8):rows ZB (l++ [x])=rows ZB l++ [[X.str x]]:=by simp[rows,ZB]
theorem ZQG{l:List ZU}{n:List UInt8}(hb: ∀a∈l,a.2.1.length≤50000):(KS l n).length≤50000:=by
 unfold KS;split
 ·rename_i h;have hp:=ZFu h;rw[show l.getD (Zm l n) ([],[],())=l[Zm l n] by simp[hp]];exact hb _ (Yl hp)
 ·simp
theorem ZZJ(acc:List (List UInt8))(v:List UInt8):ZMr acc v=if v∈acc then acc else acc++ [v]:=rfl
def ZBl:Tabs:=Jc (ZW (Jc (ZW (Jc (ZW (ZW (ZQ) 63 Zr) 124 ZGd) 126 ZKD) 73 ZCU) 73 (ZAK ZCU)) 127 ZGB) 127 (ZAK ZGB)
theorem JB:SsOk Tryz.prog ZBl:=Ys (ZJ (Ys (ZJ (Ys (ZJ (ZJ (ZE) (ZZ 63) ZAA) (ZZ 124) ZSG) (ZZ 126) ZXG) (ZZ 73) ZQh) (ZZ 73) (ZDm ZQh)) ZKK ZOp) ZKK (ZDm ZOp)
theorem ZWs:(∀a,ZBl.q 63 a=Zr a)∧(∀a,ZBl.q 124 a=ZGd a)∧(∀a,ZBl.q 126 a=none)∧(∀a o,ZBl.t 126 a o=Ym ZKD a o)∧(∀a,ZBl.q 73 a=ZCU a)∧(∀a o,ZBl.t 73 a o=Ym (ZAK ZCU) a o)∧(∀a,ZBl.q 127 a=ZGB a)∧(∀a o,ZBl.t 127 a o=Ym (ZAK ZGB) a o)∧(∀f a o,ZBl.r f a o=none)∧(∀f a o,ZBl.k f a o=none):=⟨fun _=>rfl,fun _=>rfl,fun _=>rfl,fun _ _=>rfl,fun _=>rfl,fun _ _=>rfl,fun _=>rfl,fun _ _=>rfl,fun _ _ _=>rfl,fun _ _ _=>rfl⟩
set_option maxHeartbeats 4000000 in
theorem ZdM(l:List ZU)(attr:List UInt8)(vs:List (List UInt8))(hs:SoA l)(hl:l.length≤100000)(ha:attr.length≤140737488355328)(hv:vs.length≤50000)(hb: ∀a∈l,a.2.1.length≤50000):ZL Tryz.prog 80 [.ref 0 l.length 0 l.length,.x (.str attr),.x (.sl (rows ZB vs))] [.rows false 94 2 (rows ZV l)] (.ref 0 (ZA8 l (ZF attr) vs).length 0 (ZA8 l (ZF attr) vs).length) [.rows false 94 2 (rows ZV (ZA8 l (ZF attr) vs))]:=by
 have hO: [Ob.rows false 94 2 (rows ZV (ZA8 l (ZF attr) vs))].all (Ob.inP (fun i=>decide (i< [Ob.rows false 94 2 (rows ZV (ZA8 l (ZF attr) vs))].length)))=true:=rfl;have hda:=Zc ha;have hds:decide (SoA l∧l.length≤1000000)=true:=Zc ⟨hs,by omega⟩;have hul:ZY ZV (rows ZV l)=some l:=Zj YJ l;obtain⟨n,hn⟩: ∃n,ZF attr=n:=⟨_,rfl⟩;rw[hn]at hO⊢;have hpl:=ZFp l n;rcases hres:ZA8 l n vs with res
 unfold ZA8 at hres;have htl:l.take l.length=l:=KW;have hbl:(KS l n).length≤50000:=ZQG hb;have hcn:ZBh l n=false→ZCU [.x (.sl [[.nils],[.sl (rows ZB vs)]])]=some (true,.x (.sl (rows ZB (KS l n++vs)))):=fun h=>by
  show((ZY ZB (rows ZB vs)).map fun b=>(decide (b.length≤100000),D.x (.sl (rows ZB b))))=_;rw[Zj ZO,show KS l n= [] by unfold KS;rw[if_neg (by rw[h];decide)]];simp;omega
 have hcy:ZCU [.x (.sl [[.sl (rows ZB (KS l n))],[.sl (rows ZB vs)]])]=some (true,.x (.sl (rows ZB (KS l n++vs)))):=by
  show((ZY ZB (rows ZB (KS l n))).bind fun a=>(ZY ZB (rows ZB vs)).map fun b=>(decide (a.length≤100000∧b.length≤100000),D.x (.sl (rows ZB (a++b)))))=_;rw[Zj ZO,Zj ZO];simp;omega
 refine ZG.mcallsX (fC 80 false ?_) (by first|decide|(simp;done)) hO (by first|rfl|exact hR);intro C0 E0;have uu:=Km @Zr.eq_1 @Zr.eq_2 @ZGd.eq_1 @ZGd.eq_2 @ZKD.eq_1 @ZKD.eq_2 @ZCU.eq_1 @ZCU.eq_2 (Km @ZCU.eq_3 @ZGB.eq_1 @ZGB.eq_2 hul hda hds hn htl (Yq @ZWs @ZAK.eq_1));refine WI.seq ?_;refine WI.regB JB [0,1,2] ?_;refine oS ?_;refine oN ?_;refine ZA ?_;refine WI.seq ?_;refine WI.regB JB [0,2,7] ?_;refine oS ?_;refine oC ?_;refine oS ?_;refine oN ?_;refine ZA ?_;refine WI.seq ?_;refine WI.seq ?_;refine WI.regB JB [0,2,7,17] ?_;refine oS ?_
 iterate 2 refine oG ?_
 refine oN ?_;refine ZA ?_;refine WI.cond (b:=_) rfl rfl (fun h0=> ?_) (fun h0=> ?_)
 ·try simp only[zB]at h0
  have hv0:vs= []:=ξQ (by simpa using h0);rw[if_pos hv0]at hres;refine WI.seq ?_;refine WI.regB JB [6] ?_
  iterate 2 refine oS ?_
  refine oN ?_;refine ZA ?_;refine WI.ret ?_;refine JP ?_
  first|refine lfR ?_|refine ZCb ?_|refine ZCB ?_|refine ZCc ?_
  subst hres;exact⟨rfl,_,rfl⟩
 ·try simp only[zB]at h0
  have hv0:vs≠ []:=fun e=>by subst e;simp at h0
  rw[if_neg hv0]at hres;refine WI.skip ?_;refine ZA ?_;refine WI.seq ?_;refine WI.regB JB [0,2,7,8,9] ?_
  iterate 2 refine oS ?_
  refine oC ?_;refine oS ?_
  iterate 2 refine oG ?_
  iterate 2 refine oS ?_
  refine oN ?_;refine ZA ?_;refine WI.join (fun φ os=> ∃(m:Nat) (RS:List (List X)) (V:X),φ= [(0,.ref 0 m 0 m),(2,.x (.sl (rows ZB vs))),(8,.x (.int .i64 (Zm l n)))]∧os= [.rows false 94 2 RS]∧RS.length=m∧Zm l n<m∧RS[Zm l n]? =some [.str n,V]∧(∀out,RS.set (Zm l n) [.str n,.sl (rows ZB out)]=rows ZV (l.take (Zm l n)++ [(n,out,())]++ZB0 l n))∧ZCU [.x (.sl [[V],[.sl (rows ZB vs)]])]=some (true,.x (.sl (rows ZB (KS l n++vs))))) ?_ (fun φ os hJ=> ?_)
  ·refine WI.seq ?_;refine WI.regB JB [0,2,7,8,26] ?_;refine oS ?_;refine oG ?_;refine oN ?_;refine ZA ?_;refine WI.cond (b:=_) rfl rfl (fun h1=> ?_) (fun h1=> ?_)
   ·try simp only[zB]at h1
    have hh:ZBh l n=false:=by simpa using h1
    refine WI.post ?_;refine WI.regB JB [0,2,8] ?_
    iterate 3 refine oS ?_
    iterate 2 refine oG ?_
    refine oC ?_;refine oS ?_;refine oP ?_;refine Qm [0] ?_;refine ZAL ?_;refine ZA ?_
    first|exact⟨l.length+1,_,.nils,rfl,rfl,by rw[ZIg _ _ _ (by rw[Zo];exact hpl),Zo];rfl,by omega,(ZMI hh).1,(ZMI hh).2,hcn hh⟩|exact⟨l.length,_,.sl (rows ZB (KS l n)),rfl,rfl,Zo _ _,ZFu hh,(ZG8 hh).1,(ZG8 hh).2,hcy⟩
   ·try simp only[zB]at h1
    have hh:ZBh l n=true:=by simpa using h1
    refine WI.orderA [0,2,8] ?_;refine WI.skip ?_;refine ZA ?_
    first|exact⟨l.length+1,_,.nils,rfl,rfl,by rw[ZIg _ _ _ (by rw[Zo];exact hpl),Zo];rfl,by omega,(ZMI hh).1,(ZMI hh).2,hcn hh⟩|exact⟨l.length,_,.sl (rows ZB (KS l n)),rfl,rfl,Zo _ _,ZFu hh,(ZG8 hh).1,(ZG8 hh).2,hcy⟩
  ·obtain⟨m,RS,V,rfl,rfl,hRl,hpm,hRp,hRs,hcv⟩:=hJ;refine WI.seq ?_;refine WI.regB JB [0,2,8,10] ?_;refine oS ?_;refine oN ?_;refine ZA ?_;refine WI.seq ?_;refine WI.seq ?_;have hcl:(KS l n++vs).length≤100000:=by rw[Zx];omega
   generalize KS l n++vs=W at hres hcv hcl;have uu:=ξ4 uu hRp hRl hcv;refine WI.regB JB [0,8,10,40,41,42] ?_
   iterate 2 refine oS ?_
   refine oG ?_;refine oS ?_;refine oG ?_;refine oS ?_;refine oG ?_;refine oC ?_;refine oG ?_;refine oS ?_;refine oN ?_;refine ZA ?_;refine WI.block ?_;refine WI.pickA [0] ?_;refine WI.ownA 10 9 1 ?_;refine WI.orderA [0,8,10,40,41,42] ?_;refine WI.loop (fun φ os=> ∃(j:Nat),φ= [(0,.ref 0 m 0 m),(8,.x (.int .i64 (Zm l n))),(10,.ref 1 (ZDA [] (W.take j)).length 0 (ZDA [] (W.take j)).length),(40,.x (.sl (rows ZB W))),(41,.x (.int .i64 W.length)),(42,.x (.int .i64 j))]∧os= [.rows false 94 2 RS,.rows false 9 1 (rows ZB (ZDA [] (W.take j)))]∧j≤W.length) (ZX W.length 42) ?_ (fun φ os hI=> ?_)
   ·exact⟨0,rfl,rfl,by omega⟩
   ·obtain⟨j,rfl,rfl,hj⟩:=hI;refine WI.seq ?_;refine WI.regB JB [0,8,10,40,41,42,43] ?_;refine oG ?_;refine oN ?_;refine ZA ?_;refine WI.seq ?_;refine WI.cond (b:=_) rfl rfl (fun h2=> ?_) (fun h2=> ?_)
    ·try simp only[zB]at h2
     refine WI.skip ?_;refine ZA ?_;refine WI.seq ?_;refine WI.block ?_;refine WI.seq ?_;refine WI.regB JB [0,8,10,12,40,41,42] ?_
     iterate 2 refine oG ?_
     refine oS ?_;refine oN ?_;refine ZA ?_;refine WI.seq ?_;have hj4:j<W.length:=by omega
     have hsn:=ZWQ [] W j hj4;have hle:=ZPs [] (W.take j);rw[JA,ξN]at hle;generalize ZDA [] (W.take j)=acc at hsn hle⊢;have hta:acc.take acc.length=acc:=KW;have hd2:decide (acc.length≤1000000)=true:=Zc (by omega);have hua:ZY ZB (rows ZB acc)=some acc:=Zj ZO acc;have uu:=ξ4 uu hta hd2 hua;refine WI.regB JB [0,8,10,12,40,41,42,49] ?_
     iterate 2 refine oS ?_
     refine oC ?_;refine oG ?_;refine oN ?_;refine ZA ?_;refine WI.cond (b:=_) rfl rfl (fun h3=> ?_) (fun h3=> ?_)
     ·try simp only[zB]at h3
      have hst:ZDA [] (W.take (j+1))=acc++ [W[j]]:=by rw[hsn,ZZJ,if_neg (by simpa using h3)]
      refine WI.regB JB [0,8,10,40,41,42] ?_
      iterate 2 refine oS ?_
      iterate 2 refine oG ?_
      refine oS ?_;refine oN ?_;refine QI ?_;refine ZA ?_;refine WI.pickA [0,1] ?_;refine WI.regB JB [0,8,10,40,41,42] ?_;refine oG ?_;refine oS ?_;refine oN ?_;refine ZA ?_
      first|exact⟨⟨j+1,by rw[hst,Zx];rfl,by rw[hst,ZQ6],by omega⟩,by simp[ZX,Ab.get,D.val,ZH];omega⟩|exact⟨⟨j+1,by rw[hst];rfl,by rw[hst],by omega⟩,by simp[ZX,Ab.get,D.val,ZH];omega⟩
     ·try simp only[zB]at h3
      have hst:ZDA [] (W.take (j+1))=acc:=by rw[hsn,ZZJ,if_pos (by simpa using h3)]
      refine WI.skip ?_;refine QI ?_;refine ZA ?_;refine WI.pickA [0,1] ?_;refine WI.regB JB [0,8,10,40,41,42] ?_;refine oG ?_;refine oS ?_;refine oN ?_;refine ZA ?_
      first|exact⟨⟨j+1,by rw[hst,Zx];rfl,by rw[hst,ZQ6],by omega⟩,by simp[ZX,Ab.get,D.val,ZH];omega⟩|exact⟨⟨j+1,by rw[hst];rfl,by rw[hst],by omega⟩,by simp[ZX,Ab.get,D.val,ZH];omega⟩
    ·try simp only[zB]at h2
     refine WI.exit ?_;refine Ka ?_;refine Ka ?_;refine ZB2 ?_;refine ZA ?_;refine WI.seq ?_;obtain rfl:j=W.length:=by omega
     rw[KW];refine WI.regB JB [0] ?_
     iterate 3 refine oS ?_
     refine oG ?_;refine oS ?_;refine oG ?_;refine oN ?_;refine ZA ?_;refine WI.seq ?_;refine WI.regB JB [6] ?_
     iterate 2 refine oS ?_
     refine oN ?_;refine ZA ?_;refine WI.ret ?_
     first|refine lfR ?_|refine ZCb ?_|refine ZCB ?_|refine ZCc ?_
     have hm:m=res.length:=by rw[←hres,←Zo ZV,←hRs,ZIH,hRl]
     rw[hRs,hres,hm];exact⟨rfl,_,rfl⟩
end Go.Proofs.YtiogclkbccdefaaGreatDoor
end
section
namespace Go.Proofs.YtiogclkbccdefaaGreatDoor
open Go.RowKit Go.Bo Go.Ab
theorem ZYM{l:List ZU}{n:List UInt8}{a:ZU}(h:a∈ZB0 l n):a∈l:=by
 unfold ZB0 at h;split at h<;>exact ZB7 h
theorem ZY8(l:List ZU)(n:List UInt8)(vs:List (List UInt8)):(ZA8 l n vs).length≤l.length+1:=by
 have:=ZFp l n;unfold ZA8 ZB0;split
 ·omega
 ·split<;>simp<;>omega
theorem ZUP(l:List ZU)(n:List UInt8)(vs:List (List UInt8))(B C:Nat)(hb: ∀a∈l,a.2.1.length≤B)(hv:vs.length≤C): ∀a∈ZA8 l n vs,a.2.1.length≤B+C:=by
 intro a ha;unfold ZA8 at ha;split at ha
 ·have:=hb a ha;omega
 ·rcases KT.1 ha with ha|ha
  ·rcases KT.1 ha with ha|ha
   ·have:=hb a (ZDO ha);omega
   ·rw[ZBP]at ha;subst ha;have h1:=ZPs [] (KS l n++vs);have h2:(KS l n).length≤B:=by
     unfold KS;split
     ·rename_i h;have hp:=ZFu h;rw[show l.getD (Zm l n) ([],[],())=l[Zm l n] by simp[hp]];exact hb _ (Yl hp)
     ·simp
    rw[Zx,ξN]at h1;show(ZDA [] (KS l n++vs)).length≤B+C;omega
  ·have:=hb a (ZYM ha);omega
theorem Zar{l:List ZU}(hs:SoA l){n:List UInt8}{a:ZU}(h:a∈ZB0 l n):Op.bytesLess n a.1=true:=by
 unfold ZB0 at h;split at h
 ·rename_i hh;have hp:=ZFu hh;have he:=ZSH l n hp hh;obtain⟨j,hj,rfl⟩:=ZNN.1 h;rw[List.getElem_drop];rw[KU]at hj;have:=ZLD.1 hs (Zm l n) (Zm l n+1+j) hp (by omega) (by omega);rwa [he]at this
 ·rename_i hh;obtain⟨j,hj,rfl⟩:=ZNN.1 h;rw[List.getElem_drop];rw[KU]at hj;have hp:Zm l n<l.length:=by omega
  have hst:=ZLs l n hp;have hne:l[Zm l n].1≠n:=fun e=>hh (by unfold ZBh;rw[Zu hp];simpa using e)
  have h1:Op.bytesLess n l[Zm l n].1=true:=(bl_tot _ _ hne).resolve_left (by rw[hst];decide);rcases ZNH j with h0|h0
  ·subst h0;exact h1
  ·exact bl_trans _ _ _ h1 (ZLD.1 hs (Zm l n) (Zm l n+j) hp (by omega) (by omega))
theorem ZaS{l:List ZU}(hs:SoA l)(n:List UInt8)(vs:List (List UInt8)):SoA (ZA8 l n vs):=by
 unfold ZA8;split
 ·exact hs
 ·have h1: ∀a∈l.take (Zm l n),Op.bytesLess a.1 n=true:=fun a ha=>by
   obtain⟨j,hj,rfl⟩:=List.mem_take_iff_getElem.1 ha;exact ZLY l n j (by omega)
  have h2: ∀a∈ZB0 l n,Op.bytesLess n a.1=true:=fun a ha=>Zar hs ha
  rw[SoA,ZTR,ZTR];refine⟨⟨hs.sublist (List.take_sublist _ _),List.pairwise_singleton _ _,fun a ha b hb=> ?_⟩,?_,fun a ha b hb=> ?_⟩
  ·rw[ZBP]at hb;subst hb;exact h1 a ha
  ·unfold ZB0;split<;>exact hs.sublist (List.drop_sublist _ _)
  ·rcases KT.1 ha with ha|ha
   ·exact bl_trans _ _ _ (h1 a ha) (h2 b hb)
   ·rw[ZBP]at ha;subst ha;exact h2 b hb
def YF(l:List ZU):List ZU:=l.foldl (fun acc a=>ZA8 acc (ZF a.1) a.2.1) []
theorem ZD7(l:List ZU)(j:Nat)(h:j<l.length):YF (l.take (j+1))=ZA8 (YF (l.take j)) (ZF (l.getD j ([],[],())).1) (l.getD j ([],[],())).2.1:=by
 unfold YF;rw[Ko h,ZSi];simp[h]
theorem ZIk(l:List ZU): ∀j,j≤l.length→SoA (YF (l.take j))
 |0,_=>by simp[YF,SoA]
 |j+1,h=>by rw[ZD7 l j (by omega)];exact ZaS (ZIk l j (by omega)) _ _
theorem ZHv(l:List ZU): ∀j,j≤l.length→(YF (l.take j)).length≤j
 |0,_=>by simp[YF]
 |j+1,h=>by
  rw[ZD7 l j (by omega)];have:=ZY8 (YF (l.take j)) (ZF (l.getD j ([],[],())).1) (l.getD j ([],[],())).2.1;have:=ZHv l j (by omega);omega
theorem ZGt(l:List ZU)(hb: ∀a∈l,a.2.1.length≤400): ∀j,j≤l.length→ ∀a∈YF (l.take j),a.2.1.length≤j*400
 |0,_=>by simp[YF]
 |j+1,h=>by
  rw[ZD7 l j (by omega)];have:=ZUP (YF (l.take j)) (ZF (l.getD j ([],[],())).1) (l.getD j ([],[],())).2.1 (j*400) 400 (ZGt l hb j (by omega)) (by rw[show l.getD j ([],[],())=l[j] by simp[show j<l.length by omega]];exact hb _ (Yl _));intro a ha;have:=this a ha;omega
def ZOf:List D→List Ob→Option (Bool×D×List Ob)
 | [.ref 0 n 0 n',.x (.str t),.x (.sl R)],[.rows false e 2 rs]=>(ZY ZV rs).bind fun l=>(ZY ZB R).map fun vs=>(decide (n=l.length∧n'=l.length∧e=94)&&decide (SoA l∧l.length≤100000∧t.length≤140737488355328∧vs.length≤50000∧ ∀a∈l,a.2.1.length≤50000),.ref 0 (ZA8 l (ZF t) vs).length 0 (ZA8 l (ZF t) vs).length,[.rows false e 2 (rows ZV (ZA8 l (ZF t) vs))])
 |_,_=>none
theorem ZZi: ∀args os r os',ZOf args os=some (true,r,os')→ZL Tryz.prog 80 args os r os':=by
 intro args os r os' h;unfold ZOf at h;split at h
 ·rename_i n n' t R e rs;obtain⟨l,h1,h⟩:=Zv h;obtain⟨vs,h2,h⟩:=ZT h;simp only[Za,ZS,Zi]at h;obtain⟨⟨⟨rfl,rfl,rfl⟩,h3,h4,h5,h6,h7⟩,rfl,rfl⟩:=h;rw[←Zb YJ h1,←Zb ZO h2];exact ZdM l t vs h3 h4 h5 h6 h7
 ·cases h
def ZJT:Tabs:=Jc (ZQ) 80 ZOf
theorem ZV9:SsOk Tryz.prog ZJT:=Ys (ZE) (ZZ 80) ZZi
theorem ZYi:(∀a,ZJT.q 80 a=none)∧(∀a o,ZJT.t 80 a o=Ym ZOf a o)∧(∀f a o,ZJT.r f a o=none)∧(∀f a o,ZJT.k f a o=none):=⟨fun _=>rfl,fun _ _=>rfl,fun _ _ _=>rfl,fun _ _ _=>rfl⟩
theorem ZZp(dn:List UInt8)(l:List ZU)(hl:l.length≤100)(ht: ∀a∈l,a.1.length≤1000000)(hb: ∀a∈l,a.2.1.length≤400):ZD Tryz.prog 41 [.agg [.x (.str dn),.x (.sl (rows ZV l))]] (.agg [.x (.str dn),.x (.sl (rows ZV (YF l)))]):=by
 refine ZG.pure (fC 41 true ?_) rfl;intro C0 E0;have uu:=Yq @ZOf.eq_1 @ZYi;have tT:=ZV9;refine nz ?_;refine rg tT [1,2] ?_;refine rg tT [1,2,3] ?_;refine rg tT [2,3,10,11,12] ?_;refine WI.ownBox 2 1 94 2 rfl rfl ?_;dsimp only[List.set_cons_succ,List.set_cons_zero,JJ,ξN,List.cons_append,List.nil_append,Nat.reduceAdd,Nat.zero_add];refine WI.pickA [1,2,3] ?_;refine WI.loop (fun φ os=> ∃(j:Nat),φ= [(2,.ptr 0 0),(3,.ptr 1 0),(10,.x (.sl (rows ZV l))),(11,.x (.int .i64 l.length)),(12,.x (.int .i64 j))]∧os= [.box [.x (.str []),.x .nils],.box [.x (.str dn),.ref 2 (YF (l.take j)).length 0 (YF (l.take j)).length],.rows false 94 2 (rows ZV (YF (l.take j)))]∧j≤l.length) (ZX l.length 12) ?_ (fun φ os hI=> ?_)
 ·exact⟨0,rfl,rfl,by omega⟩
 ·obtain⟨j,rfl,rfl,hj⟩:=hI;refine nz ?_;refine rg tT [2,3,10,11,12,13] ?_;refine cd (fun h0=> ?_) (fun h0=> ?_)
  ·have hj4:j<l.length:=by omega
   have hrw:=ZL4 l j hj4;have hst:=ZD7 l j hj4;have hso:=ZIk l j (by omega);have hcl:=ZHv l j (by omega);have hcv: ∀a∈YF (l.take j),a.2.1.length≤50000:=fun a ha=>by have:=ZGt l hb j (by omega) a ha;omega
   have hg:l.getD j ([],[],())=l[j]:=by simp[hj4]
   have hxl:=ht l[j] (Yl hj4);have hxv:=hb l[j] (Yl hj4);rw[←hg]at hxl hxv;generalize l.getD j ([],[],())=x at hrw hst hxl hxv;generalize YF (l.take j)=acc at hst hso hcl hcv⊢;have hua:ZY ZV (rows ZV acc)=some acc:=Zj YJ acc;have hux:ZY ZB (rows ZB x.2.1)=some x.2.1:=Zj ZO x.2.1;have hdd:decide (SoA acc∧acc.length≤100000∧x.1.length≤140737488355328∧x.2.1.length≤50000∧ ∀a∈acc,a.2.1.length≤50000)=true:=Zc ⟨hso,by omega,by omega,by omega,hcv⟩;have uu:=ξ5 uu hrw hua hux hdd;refine rg tT [2,3,5,10,11,12] ?_;refine rg tT [2,3,10,11,12] ?_;refine WI.pickA [0,1,2] ?_;refine rg tT [2,3,10,11,12] ?_;exact⟨⟨j+1,rfl,by rw[hst],by omega⟩,by simp[ZX,Ab.get,D.val,ZH];omega⟩
  ·obtain rfl:j=l.length:=by omega
   rw[KW];refine rg tT [2] ?_;refine lf ?_
   first|rfl|exact⟨rfl,rfl⟩|trivial
def ZAX:List D→Option (Bool×D)
 | [.agg [.x (.str dn),.x (.sl R)]]=>(ZY ZV R).bind fun l=>some (decide (l.length≤100∧(∀a∈l,a.1.length≤1000000)∧ ∀a∈l,a.2.1.length≤400),.agg [.x (.str dn),.x (.sl (rows ZV (YF l)))])
 |_=>none
theorem ZHb: ∀args r,ZAX args=some (true,r)→ZD Tryz.prog 41 args r:=by
 intro args r h;unfold ZAX at h;split at h
 ·rename_i dn R;obtain⟨l,hr0,h⟩:=Zv h;simp only[Ze,Za,ZS,Zi,true_and]at h;obtain⟨h1,rfl⟩:=h;rw[←Zb YJ hr0];exact(ZZp dn l h1.1 h1.2.1 h1.2.2)
 ·cases h
end Go.Proofs.YtiogclkbccdefaaGreatDoor
end
section
namespace Go.Proofs.YtiogclkbccdefaaGreatDoor
open Go.RowKit Go.Bo Go.Ab
theorem ZXL(b:Bool):ZD Tryz.prog 186 [.x (.bool b)] (.x (.int .i64 (if b=true then 1 else 0))):=by
 refine ZG.pure (fC 186 true ?_) rfl;intro C0 E0;have uu:=trivial;have tT:=(ZE:SsOk Tryz.prog ZQ);refine nz ?_;refine rg tT [0] ?_;refine rg tT [3] ?_;refine cd (fun h0=> ?_) (fun h0=> ?_)
 ·refine rg tT [2] ?_;refine lf ?_
  (clear uu;grind)
 ·refine rg tT [2] ?_;refine lf ?_
  (clear uu;grind)
def ZA1:List D→Option (Bool×D)
 | [.x (.bool b)]=>some (true,.x (.int .i64 (if b=true then 1 else 0)))
 |_=>none
theorem ZMT: ∀args r,ZA1 args=some (true,r)→ZD Tryz.prog 186 args r:=by
 intro args r h;unfold ZA1 at h;split at h
 ·rename_i b;simp only[Ze,Za,ZS,Zi,true_and]at h;obtain rfl:=h;exact(ZXL b)
 ·cases h
def ZJq:Tabs:=ZW (ZW (ZQ) 154 KL) 186 ZA1
theorem ZWM:SsOk Tryz.prog ZJq:=ZJ (ZJ (ZE) (ZZ 154) ZJp) (ZZ 186) ZMT
theorem ZZC:(∀a,ZJq.q 154 a=KL a)∧(∀a,ZJq.q 186 a=ZA1 a)∧(∀f a o,ZJq.r f a o=none)∧(∀f a o,ZJq.k f a o=none):=⟨fun _=>rfl,fun _=>rfl,fun _ _ _=>rfl,fun _ _ _=>rfl⟩
theorem ZcC(k:Int)(a b:Tx):ZD Tryz.prog 185 [.x (.int .i64 k),.x (.str a),.x (.str b)] (.tup [.x (.str (Jy k a).1),.x (.str (Jy k b).1),.x (.bool ((Jy k a).2&&(Jy k b).2))]):=by
 refine ZG.pure (fC 185 true ?_) rfl;intro C0 E0;have uu:=ξ5 @KL.eq_1 @KL.eq_2 @ZZC @ZA1.eq_1 @ZA1.eq_2;have tT:=ZWM;refine nz ?_;refine rg tT [0,1,2] ?_;refine rg tT [0,2,9,10] ?_;refine rg tT [9,10,11,12] ?_;refine rg tT [6,7,8] ?_;refine lf ?_
 first|rfl|exact⟨rfl,rfl⟩|trivial
def ZKG:List D→Option (Bool×D)
 | [.x (.int .i64 k),.x (.str a),.x (.str b)]=>some (true,.tup [.x (.str (Jy k a).1),.x (.str (Jy k b).1),.x (.bool ((Jy k a).2&&(Jy k b).2))])
 |_=>none
theorem ZYB: ∀args r,ZKG args=some (true,r)→ZD Tryz.prog 185 args r:=by
 intro args r h;unfold ZKG at h;split at h
 ·rename_i k a b;simp only[Ze,Za,ZS,Zi,true_and]at h;obtain rfl:=h;exact(ZcC k a b)
 ·cases h
def ZIo:Tabs:=ZW (ZW (ZQ) 185 ZKG) 186 ZA1
theorem ZTx:SsOk Tryz.prog ZIo:=ZJ (ZJ (ZE) (ZZ 185) ZYB) (ZZ 186) ZMT
theorem ZWy:(∀a,ZIo.q 185 a=ZKG a)∧(∀a,ZIo.q 186 a=ZA1 a)∧(∀f a o,ZIo.r f a o=none)∧(∀f a o,ZIo.k f a o=none):=⟨fun _=>rfl,fun _=>rfl,fun _ _ _=>rfl,fun _ _ _=>rfl⟩
theorem ZXD(k:Int)(a b:Tx):ZD Tryz.prog 162 [.x (.int .i64 k),.x (.str a),.x (.str b)] (.x (.int .i64 (eqV k a b))):=by
 rcases hu:eqV k a b with u
 unfold eqV at hu;refine ZG.pure (fC 162 true ?_) rfl;intro C0 E0;have uu:=ξ5 @ZKG.eq_1 @ZKG.eq_2 @ZA1.eq_1 @ZA1.eq_2 @ZWy;have tT:=ZTx;refine nz ?_;refine rg tT [0,1,2] ?_;refine rg tT [7,8,9] ?_;refine rg tT [7,8,19] ?_;refine cd (fun h0=> ?_) (fun h0=> ?_)
 ·refine rg tT [6] ?_;refine lf ?_
  (clear uu;grind)
 ·refine rg tT [6] ?_;refine lf ?_
  (clear uu;grind)
def ZFG:List D→Option (Bool×D)
 | [.x (.int .i64 k),.x (.str a),.x (.str b)]=>some (true,.x (.int .i64 (eqV k a b)))
 |_=>none
theorem ZTC: ∀args r,ZFG args=some (true,r)→ZD Tryz.prog 162 args r:=by
 intro args r h;unfold ZFG at h;split at h
 ·rename_i k a b;simp only[Ze,Za,ZS,Zi,true_and]at h;obtain rfl:=h;exact(ZXD k a b)
 ·cases h
def smL(l:List ZU):Prop:=l.length≤100∧(∀a∈l,a.1.length≤1000000)∧ ∀a∈l,a.2.1.length≤400
instance (l:List ZU):Decidable (smL l):=inferInstanceAs (Decidable (_∧_∧_))
def ZKk(l:List ZU)(n:Tx):List Tx:=KS (YF l) (ZF n)
def ZG9:Tabs:=ZW (ZW (ZW (ZQ) 63 Zr) 41 ZAX) 124 ZGd
theorem ZUk:SsOk Tryz.prog ZG9:=ZJ (ZJ (ZJ (ZE) (ZZ 63) ZAA) (ZZ 41) ZHb) (ZZ 124) ZSG
theorem ZYO:(∀a,ZG9.q 63 a=Zr a)∧(∀a,ZG9.q 41 a=ZAX a)∧(∀a,ZG9.q 124 a=ZGd a)∧(∀f a o,ZG9.r f a o=none)∧(∀f a o,ZG9.k f a o=none):=⟨fun _=>rfl,fun _=>rfl,fun _=>rfl,fun _ _ _=>rfl,fun _ _ _=>rfl⟩
theorem ZID(l:List ZU):YF (l.take l.length)=YF l:=by rw[KW]
theorem Zdf(dn:Tx)(l:List ZU)(n:Tx)(h:smL l)(hn:n.length≤140737488355328):ZD Tryz.prog 95 [.agg [.x (.str dn),.x (.sl (rows ZV l))],.x (.str n)] (.x (.sl (rows ZB (ZKk l n)))):=by
 have hd1:decide (l.length≤100∧(∀a∈l,a.1.length≤1000000)∧ ∀a∈l,a.2.1.length≤400)=true:=Zc h;have hdn:=Zc hn;have hso:SoA (YF l):=by have:=ZIk l l.length (Zl _);rwa [ZID]at this
 have hcl:(YF l).length≤100:=by have:=ZHv l l.length (Zl _);rw[ZID]at this;have:=h.1;omega
 have hul:ZY ZV (rows ZV l)=some l:=Zj YJ l;have huc:ZY ZV (rows ZV (YF l))=some (YF l):=Zj YJ _;have hds:decide (SoA (YF l)∧(YF l).length≤1000000)=true:=Zc ⟨hso,by omega⟩;unfold ZKk;rcases hb:KS (YF l) (ZF n)with V
 refine ZG.pure (fC 95 true ?_) rfl;intro C0 E0;have uu:=Km @Zr.eq_1 @Zr.eq_2 @ZAX.eq_1 @ZAX.eq_2 @ZGd.eq_1 @ZGd.eq_2 hd1 hdn (ξ4 hul huc hds @ZYO);have tT:=ZUk;refine nz ?_;refine rg tT [1,2] ?_;refine rg tT [1,5] ?_;refine WI.dregB tT [5,6,7] ?_;refine Yd ?_;refine QH ?_;refine Yd ?_;refine dQC ?_;refine dAC ?_;refine Yd ?_
 iterate 2 refine dFG ?_
 iterate 2 refine Yd ?_
 refine dN ?_;refine nz ?_;refine rg tT [5,6,19] ?_;refine cd (fun h0=> ?_) (fun h0=> ?_)
 ·have hh:ZBh (YF l) (ZF n)=false:=by simpa using h0
  have hb0:V= []:=by rw[←hb];unfold KS;rw[if_neg (by rw[hh];decide)]
  subst hb0;refine rg tT [4] ?_;refine WI.nnA ?_;refine lf ?_
  first|rfl|exact⟨rfl,rfl⟩|trivial
 ·have hh:ZBh (YF l) (ZF n)=true:=by simpa using h0
  have hrw:=(ZG8 hh).1;rw[hb]at hrw;have hlt:=ZFu hh;have hd5:=Zc (show((Zm (YF l) (ZF n):Nat):Int)<((YF l).length:Int) by omega);have uu:=Jz uu hrw hd5;refine rg tT [4] ?_;refine WI.nnA ?_;refine lf ?_
  first|rfl|exact⟨rfl,rfl⟩|trivial
def ZNJ:List D→Option (Bool×D)
 | [.agg [.x (.str dn),.x (.sl R)],.x (.str n)]=>(ZY ZV R).bind fun l=>some (decide (smL l∧n.length≤140737488355328),.x (.sl (rows ZB (ZKk l n))))
 |_=>none
theorem Zay: ∀args r,ZNJ args=some (true,r)→ZD Tryz.prog 95 args r:=by
 intro args r h;unfold ZNJ at h;split at h
 ·rename_i dn R n;obtain⟨l,hr0,h⟩:=Zv h;simp only[Ze,Za,ZS,Zi,true_and]at h;obtain⟨h1,rfl⟩:=h;rw[←Zb YJ hr0];exact(Zdf dn l n h1.1 h1.2)
 ·cases h
def ZPR(l:List ZU)(n v:Tx)(k:Int):Bool:=(ZKk l n).any fun x=>decide (eqV k x v=1)
def ZIv:Tabs:=ZW (ZW (ZQ) 95 ZNJ) 162 ZFG
theorem ZVn:SsOk Tryz.prog ZIv:=ZJ (ZJ (ZE) (ZZ 95) Zay) (ZZ 162) ZTC
theorem ZW0:(∀a,ZIv.q 95 a=ZNJ a)∧(∀a,ZIv.q 162 a=ZFG a)∧(∀f a o,ZIv.r f a o=none)∧(∀f a o,ZIv.k f a o=none):=⟨fun _=>rfl,fun _=>rfl,fun _ _ _=>rfl,fun _ _ _=>rfl⟩
theorem ZQq(p:Tx→Bool)(l:List Tx)(j:Nat)(h:j<l.length):(l.take (j+1)).any p=((l.take j).any p||p (l.getD j [])):=by
 rw[Ko h,List.any_append];simp[h]
theorem ZX1(l:List ZU)(n:Tx)(h:smL l):(ZKk l n).length≤50000:=by
 unfold ZKk;refine ZQG (fun a ha=> ?_);have h1:=ZGt l h.2.2 l.length (Zl _) a (by rw[ZID];exact ha);have:=h.1;omega
theorem ZdQ(dn:Tx)(l:List ZU)(n v:Tx)(k:Int)(h:smL l)(hn:n.length≤140737488355328):ZD Tryz.prog 123 [.agg [.x (.str dn),.x (.sl (rows ZV l))],.x (.str n),.x (.str v),.x (.int .i64 k)] (.x (.bool (ZPR l n v k))):=by
 have hd1:decide (smL l∧n.length≤140737488355328)=true:=Zc ⟨h,hn⟩;have hul:ZY ZV (rows ZV l)=some l:=Zj YJ l;have hgl:=ZX1 l n h;unfold ZPR;rcases hg:ZKk l n with V
 rw[hg]at hgl;refine ZG.pure (fC 123 true ?_) rfl;intro C0 E0;have uu:=ξ8 @ZNJ.eq_1 @ZNJ.eq_2 @ZFG.eq_1 @ZFG.eq_2 hd1 hul hg @ZW0;have tT:=ZVn;refine nz ?_;refine rg tT [1,2,3,4] ?_;refine rg tT [2,3,13,14,15] ?_;refine WI.pickA [] ?_;refine WI.orderA [2,3,13,14,15] ?_;refine WI.loop (fun φ os=> ∃(j:Nat),φ= [(2,.x (.str v)),(3,.x (.int .i64 k)),(13,.x (.sl (rows ZB V))),(14,.x (.int .i64 V.length)),(15,.x (.int .i64 j))]∧os= []∧j≤V.length∧(V.take j).any (fun x=>decide (eqV k x v=1))=false) (ZX V.length 15) ?_ (fun φ os hI=> ?_)
 ·exact⟨0,rfl,rfl,by omega,rfl⟩
 ·obtain⟨j,rfl,rfl,hj,hno⟩:=hI;refine nz ?_;refine rg tT [2,3,13,14,15,16] ?_;refine cd (fun h0=> ?_) (fun h0=> ?_)
  ·have hj4:j<V.length:=by omega
   have hrw:(rows ZB V)[j]? =some [X.str (V.getD j [])]:=by simp[rows,hj4,ZB]
   have hat:=ZQq (fun x=>decide (eqV k x v=1)) V j hj4;have hmem:V.getD j []∈V:=by rw[show V.getD j []=V[j] by simp[hj4]];exact Yl hj4
   generalize V.getD j []=x at hrw hat hmem;have uu:=Yq uu hrw;refine rg tT [2,3,10,13,14,15] ?_;refine rg tT [2,3,13,14,15,23] ?_;refine cd (fun h1=> ?_) (fun h1=> ?_)
   ·have hx:eqV k x v=1:=by simpa using h1
    refine rg tT [8] ?_;refine lf ?_;rw[List.any_eq_true.2 ⟨x,hmem,Zc hx⟩]
   ·have hx:decide (eqV k x v=1)=false:=by simpa using h1
    refine rg tT [2,3,13,14,15] ?_;exact⟨⟨j+1,rfl,rfl,by omega,by rw[hat,hno,hx];rfl⟩,by simp[ZX,Ab.get,D.val,ZH];omega⟩
  ·refine rg tT [8] ?_;refine lf ?_;rw[JH (by omega)]at hno;rw[hno]
def ZK6:List D→Option (Bool×D)
 | [.agg [.x (.str dn),.x (.sl R)],.x (.str n),.x (.str v),.x (.int .i64 k)]=>(ZY ZV R).bind fun l=>some (decide (smL l∧n.length≤140737488355328),.x (.bool (ZPR l n v k)))
 |_=>none
theorem ZR3: ∀args r,ZK6 args=some (true,r)→ZD Tryz.prog 123 args r:=by
 intro args r h;unfold ZK6 at h;split at h
 ·rename_i dn R n v k;obtain⟨l,hr0,h⟩:=Zv h;simp only[Ze,Za,ZS,Zi,true_and]at h;obtain⟨h1,rfl⟩:=h;rw[←Zb YJ hr0];exact(ZdQ dn l n v k h1.1 h1.2)
 ·cases h
end Go.Proofs.YtiogclkbccdefaaGreatDoor
end
section
namespace Go.Proofs.YtiogclkbccdefaaGreatDoor
open Go.RowKit Go.Bo Go.Ab
def okS(s:Tx):Bool:=decide (Jn s=(s,0))
def ZAy(s:Tx):List Tx:=if okS s=true then(Yp s).1.map fun r=>(ZAl [r]).1 else []
theorem ZaM(s:Tx)(h:(Yp s).2=0):smD (Yp s).1:=by
 unfold Yp at h⊢;split
 ·intro r hr;cases hr
 ·rename_i h1;split
  ·intro r hr;cases hr
  ·split
   ·rename_i h2;split
    ·intro r hr;cases hr
    ·split
     ·intro r hr;cases hr
     ·exact ZIT s (by omega)
   ·intro r hr;cases hr
theorem ZMu(s:Tx)(h:(Yp s).2=0):ZAO (Yp s).1=0:=by
 unfold Yp at h⊢;split
 ·rename_i h1;rw[if_pos h1]at h;cases h
 ·rename_i h1;rw[if_neg h1]at h;split
  ·rfl
  ·rename_i h2;rw[if_neg h2]at h;split
   ·rename_i h3;rw[if_pos h3]at h;split
    ·rename_i h4;rw[if_pos h4]at h;cases h
    ·rename_i h4;rw[if_neg h4]at h;split
     ·rename_i h5;rw[if_pos h5]at h;exact absurd h h5
     ·rename_i h5;exact ZTe.1 h5
   ·rename_i h3;rw[if_neg h3]at h;cases h
def ZFN:Tabs:=Jc (ZW (ZW (ZW (ZQ) 96 ZA3) 121 QB) 144 QE) 144 (ZAK QE)
theorem ZVK:SsOk Tryz.prog ZFN:=Ys (ZJ (ZJ (ZJ (ZE) (ZZ 96) ZMG) (ZZ 121) ZGY) (ZZ 144) ZFY) (ZZ 144) (ZDm ZFY)
theorem ZWc:(∀a,ZFN.q 96 a=ZA3 a)∧(∀a,ZFN.q 121 a=QB a)∧(∀a,ZFN.q 144 a=QE a)∧(∀a o,ZFN.t 144 a o=Ym (ZAK QE) a o)∧(∀f a o,ZFN.r f a o=none)∧(∀f a o,ZFN.k f a o=none):=⟨fun _=>rfl,fun _=>rfl,fun _=>rfl,fun _ _=>rfl,fun _ _ _=>rfl,fun _ _ _=>rfl⟩
theorem Za2(s:Tx):ZD Tryz.prog 114 [.x (.str s)] (.tup [.x (.sl (rows ZB (ZAy s))),.x (.bool (okS s))]):=by
 obtain⟨d,hd⟩: ∃d,(Yp s).1=d:=⟨_,rfl⟩;rcases hres:ZAy s with out
 unfold ZAy at hres;rw[hd]at hres;refine ZG.pure (fC 114 true ?_) rfl;intro C0 E0;have uu:=Km @ZA3.eq_1 @ZA3.eq_2 @QB.eq_1 @QB.eq_2 @QE.eq_1 @QE.eq_2 hd @ZWc @ZAK.eq_1;have tT:=ZVK;refine nz ?_;refine rg tT [0] ?_;refine rg tT [0,4,5] ?_;refine rg tT [0,24] ?_;refine cd (fun h0=> ?_) (fun h0=> ?_)
 ·have hok:okS s=false:=by unfold okS;exact decide_eq_false (fun e=>by rw[e]at h0;simp at h0)
  rw[hok]at hres;refine rg tT [2,3] ?_;refine WI.nnA ?_;refine lf ?_;subst hres;rw[hok];rfl
 ·have hno:Jn s=(s,0):=by
   have h1:(Jn s).2=0∧(Jn s).1=s:=by clear uu;grind
   exact ZEl h1.2 h1.1
  have hok:okS s=true:=Zc hno;rw[if_pos hok]at hres;have hr0:(Yp s).2=0:=by
   unfold Jn at hno;split at hno
   ·rename_i h;exact absurd (congrArg Prod.snd hno) h
   ·rename_i h;exact ZTe.1 h
  have hsm:smD d:=by rw[←hd];exact ZaM s hr0
  have hdl:d.length≤32:=by rw[←hd];exact(ZFH (ZMu s hr0)).1
  refine rg tT [6] ?_;refine rg tT [6,8] ?_;refine rg tT [8,30,31,32] ?_;refine WI.ownA 8 9 1 ?_;refine WI.loop (fun φ os=> ∃(j:Nat),φ= [(8,.ref 0 ((d.take j).map fun r=>(ZAl [r]).1).length 0 ((d.take j).map fun r=>(ZAl [r]).1).length),(30,.x (.sl (rows QA d))),(31,.x (.int .i64 d.length)),(32,.x (.int .i64 j))]∧os= [.rows false 9 1 (rows ZB ((d.take j).map fun r=>(ZAl [r]).1))]∧j≤d.length) (ZX d.length 32) ?_ (fun φ os hI=> ?_)
  ·exact⟨0,rfl,rfl,by omega⟩
  ·obtain⟨j,rfl,rfl,hj⟩:=hI;refine nz ?_;refine rg tT [8,30,31,32,33] ?_;refine cd (fun h1=> ?_) (fun h1=> ?_)
   ·have hj4:j<d.length:=by omega
    have hrw:=ZNI d j hj4;have htk:(d.take (j+1)).map (fun r=>(ZAl [r]).1)=(d.take j).map (fun r=>(ZAl [r]).1)++ [(ZAl [d.getD j []]).1]:=by rw[Ko hj4,KC];simp[hj4]
    have hs1:decide (smD [d.getD j []])=true:=Zc (fun r hr p hp=>by
     rw[ZBP]at hr;subst hr;exact hsm _ (by rw[show d.getD j []=d[j] by simp[hj4]];exact Yl hj4) p hp)
    have hlen2:((d.take j).map fun r=>(ZAl [r]).1).length≤1000000:=by rw[Yf,JA];omega
    generalize d.getD j []=r at hrw htk hs1;have hur:ZY QA [[X.sl (rows YE r)]]=some [r]:=Zj ZGO [r];have uu:=ξ4 uu hrw hs1 hur;refine rg tT [8,10,30,31,32] ?_;refine rg tT [8,11,30,31,32] ?_;refine rg tT [8,30,31,32] ?_;refine WI.pickA [0] ?_;refine rg tT [8,30,31,32] ?_;exact⟨⟨j+1,by rw[htk,Zx];rfl,by rw[htk];simp[rows,ZB],by omega⟩,by simp[ZX,Ab.get,D.val,ZH];omega⟩
   ·obtain rfl:j=d.length:=by omega
    rw[KW,hres];refine rg tT [2,3] ?_;refine WI.nnA ?_;refine lf ?_;rw[hok]
def ZEV:List D→Option (Bool×D)
 | [.x (.str s)]=>some (true,.tup [.x (.sl (rows ZB (ZAy s))),.x (.bool (okS s))])
 |_=>none
theorem ZUN: ∀args r,ZEV args=some (true,r)→ZD Tryz.prog 114 args r:=by
 intro args r h;unfold ZEV at h;split at h
 ·rename_i s;simp only[Ze,Za,ZS,Zi,true_and]at h;obtain rfl:=h;exact(Za2 s)
 ·cases h
theorem ZYA{s:Tx}(h:okS s=true):(Yp s).2=0:=by
 have hno:Jn s=(s,0):=of_decide_eq_true h;unfold Jn at hno;split at hno
 ·rename_i h;exact absurd (congrArg Prod.snd hno) h
 ·rename_i h;exact ZTe.1 h
theorem ZXf(d:Dn):(ZAl d).1.length≤4096:=by
 unfold ZAl;split
 ·simp
 ·split
  ·simp
  ·rename_i h;simpa using h
theorem ZN6(s:Tx):(ZAy s).length≤32∧ ∀x∈ZAy s,x.length≤4096:=by
 unfold ZAy;split
 ·rename_i h;refine⟨by rw[Yf];exact(ZFH (ZMu s (ZYA h))).1,fun x hx=> ?_⟩;obtain⟨r,_,rfl⟩:=YW.1 hx;exact ZXf _
 ·simp
def ZL3:Tabs:=ZW (ZQ) 77 Qn
theorem ZWP:SsOk Tryz.prog ZL3:=ZJ (ZE) (ZZ 77) ZF3
theorem ZWh:(∀a,ZL3.q 77 a=Qn a)∧(∀f a o,ZL3.r f a o=none)∧(∀f a o,ZL3.k f a o=none):=⟨fun _=>rfl,fun _ _ _=>rfl,fun _ _ _=>rfl⟩
theorem Zbc(l:List Tx)(hl:l.length≤32)(hb: ∀x∈l,x.length≤4096)(h0:l≠ []):ZD Tryz.prog 76 [.x (.sl (rows ZB l))] (.x (.str (jnc 44 (l.drop 1)))):=by
 have hpos:0<l.length:=ZMh.2 h0;have hjl:=ZJ0 44 4096 (l.drop 1) (fun x hx=>hb x (ZB7 hx));rw[KU]at hjl;have hd1:decide ((Lib.join (l.drop 1) [44]).length≤140737488355328∧(l.drop 1).length≤140737488355328)=true:=Zc ⟨by rw[ZCl];omega,by rw[KU];omega⟩;have hj:Lib.join (l.drop 1) [44]=jnc 44 (l.drop 1):=ZCl 44 _;refine ZG.pure (fC 76 true ?_) rfl;intro C0 E0;have uu:=ξ5 @Qn.eq_1 @Qn.eq_2 hd1 hj @ZWh;have tT:=ZWP;refine nz ?_;refine rg tT [0] ?_;refine rg tT [2] ?_;refine lf ?_
 first|rfl|exact⟨rfl,rfl⟩|trivial
theorem Zat(l:List Tx)(h0:l≠ [])(hl:l.length≤32):ZD Tryz.prog 128 [.x (.sl (rows ZB l))] (.x (.str (l.headD []))):=by
 obtain⟨x,l,rfl⟩:=List.exists_cons_of_ne_nil h0;have hrw:(rows ZB (x::l))[0]? =some [X.str x]:=rfl;refine ZG.pure (fC 128 true ?_) rfl;intro C0 E0;have uu:=hrw;have tT:=(ZE:SsOk Tryz.prog ZQ);refine nz ?_;refine rg tT [0] ?_;refine rg tT [2] ?_;refine lf ?_
 first|rfl|exact⟨rfl,rfl⟩|trivial
def ZGZ:List D→Option (Bool×D)
 | [.x (.sl R)]=>(ZY ZB R).bind fun l=>some (decide (l.length≤32∧(∀x∈l,x.length≤4096)∧l≠ []),.x (.str (jnc 44 (l.drop 1))))
 |_=>none
theorem ZXp: ∀args r,ZGZ args=some (true,r)→ZD Tryz.prog 76 args r:=by
 intro args r h;unfold ZGZ at h;split at h
 ·rename_i R;obtain⟨l,hr0,h⟩:=Zv h;simp only[Ze,Za,ZS,Zi,true_and]at h;obtain⟨h1,rfl⟩:=h;rw[←Zb ZO hr0];exact(Zbc l h1.1 h1.2.1 h1.2.2)
 ·cases h
def ZEc:List D→Option (Bool×D)
 | [.x (.sl R)]=>(ZY ZB R).bind fun l=>some (decide (l≠ []∧l.length≤32),.x (.str (l.headD [])))
 |_=>none
theorem ZWU: ∀args r,ZEc args=some (true,r)→ZD Tryz.prog 128 args r:=by
 intro args r h;unfold ZEc at h;split at h
 ·rename_i R;obtain⟨l,hr0,h⟩:=Zv h;simp only[Ze,Za,ZS,Zi,true_and]at h;obtain⟨h1,rfl⟩:=h;rw[←Zb ZO hr0];exact(Zat l h1.1 h1.2)
 ·cases h
def ZG1:Tabs:=ZW (ZW (ZW (ZQ) 114 ZEV) 76 ZGZ) 128 ZEc
theorem ZOH:SsOk Tryz.prog ZG1:=ZJ (ZJ (ZJ (ZE) (ZZ 114) ZUN) (ZZ 76) ZXp) (ZZ 128) ZWU
theorem ZO1:(∀a,ZG1.q 114 a=ZEV a)∧(∀a,ZG1.q 76 a=ZGZ a)∧(∀a,ZG1.q 128 a=ZEc a)∧(∀f a o,ZG1.r f a o=none)∧(∀f a o,ZG1.k f a o=none):=⟨fun _=>rfl,fun _=>rfl,fun _=>rfl,fun _ _ _=>rfl,fun _ _ _=>rfl⟩
def KG(s:Tx):Tx:=jnc 44 ((ZAy s).drop 1)
def YN(s:Tx):Tx:=(ZAy s).headD []
def ZAm(s:Tx):Bool:=decide (ZAy s≠ [])
theorem ZdZ(s:Tx):ZD Tryz.prog 75 [.x (.str s),.fn 76 []] (.tup [.x (.str (KG s)),.x (.bool (ZAm s))]):=by
 obtain⟨hl,hb⟩:=ZN6 s;unfold KG ZAm;generalize hp:ZAy s=l at hl hb⊢;have hul:ZY ZB (rows ZB l)=some l:=Zj ZO l;refine ZG.pure (fC 75 true ?_) rfl;intro C0 E0;have uu:=Km @ZEV.eq_1 @ZEV.eq_2 @ZGZ.eq_1 @ZGZ.eq_2 hul hp @ZO1 @ZEc.eq_1 @ZEc.eq_2;have tT:=ZOH;refine nz ?_;refine rg tT [0,1] ?_;refine rg tT [1,6] ?_;refine rg tT [1,6,15] ?_;refine cd (fun h0=> ?_) (fun h0=> ?_)
 ·obtain rfl:l= []:=ξQ (by simpa using h0);refine rg tT [4,5] ?_;refine lf ?_
  first|rfl|exact⟨rfl,rfl⟩|trivial
 ·have h0:l≠ []:=fun e=>by subst e;simp at h0
  have hd1:decide (l.length≤32∧(∀x∈l,x.length≤4096)∧l≠ [])=true:=Zc ⟨hl,hb,h0⟩;have uu:=Yq uu hd1;refine rg tT [4,5] ?_;refine lf ?_;rw[Zc h0]
theorem ZdS(s:Tx):ZD Tryz.prog 75 [.x (.str s),.fn 128 []] (.tup [.x (.str (YN s)),.x (.bool (ZAm s))]):=by
 obtain⟨hl,hb⟩:=ZN6 s;unfold YN ZAm;generalize hp:ZAy s=l at hl hb⊢;have hul:ZY ZB (rows ZB l)=some l:=Zj ZO l;refine ZG.pure (fC 75 true ?_) rfl;intro C0 E0;have uu:=Km @ZEV.eq_1 @ZEV.eq_2 @ZEc.eq_1 @ZEc.eq_2 hul hp @ZO1 @ZGZ.eq_1 @ZGZ.eq_2;have tT:=ZOH;refine nz ?_;refine rg tT [0,1] ?_;refine rg tT [1,6] ?_;refine rg tT [1,6,15] ?_;refine cd (fun h0=> ?_) (fun h0=> ?_)
 ·obtain rfl:l= []:=ξQ (by simpa using h0);refine rg tT [4,5] ?_;refine lf ?_
  first|rfl|exact⟨rfl,rfl⟩|trivial
 ·have h0:l≠ []:=fun e=>by subst e;simp at h0
  have hd1:decide (l≠ []∧l.length≤32)=true:=Zc ⟨h0,hl⟩;have uu:=Yq uu hd1;refine rg tT [4,5] ?_;refine lf ?_;rw[Zc h0]
def ZM3:List D→Option (Bool×D)
 | [.x (.str s),.fn 76 []]=>some (true,.tup [.x (.str (KG s)),.x (.bool (ZAm s))])
 |_=>none
theorem ZaX: ∀args r,ZM3 args=some (true,r)→ZD Tryz.prog 75 args r:=by
 intro args r h;unfold ZM3 at h;split at h
 ·rename_i s;simp only[Ze,Za,ZS,Zi,true_and]at h;obtain rfl:=h;exact(ZdZ s)
 ·cases h
def ZNB:List D→Option (Bool×D)
 | [.x (.str s),.fn 128 []]=>some (true,.tup [.x (.str (YN s)),.x (.bool (ZAm s))])
 |_=>none
theorem Zax: ∀args r,ZNB args=some (true,r)→ZD Tryz.prog 75 args r:=by
 intro args r h;unfold ZNB at h;split at h
 ·rename_i s;simp only[Ze,Za,ZS,Zi,true_and]at h;obtain rfl:=h;exact(ZdS s)
 ·cases h
def ZMA:Tabs:=ZW (ZQ) 75 ZM3
theorem ZV3:SsOk Tryz.prog ZMA:=ZJ (ZE) (ZZ 75) ZaX
theorem ZWo:(∀a,ZMA.q 75 a=ZM3 a)∧(∀f a o,ZMA.r f a o=none)∧(∀f a o,ZMA.k f a o=none):=⟨fun _=>rfl,fun _ _ _=>rfl,fun _ _ _=>rfl⟩
def ZLU:Tabs:=ZW (ZQ) 75 ZNB
theorem ZVf:SsOk Tryz.prog ZLU:=ZJ (ZE) (ZZ 75) Zax
theorem ZWg:(∀a,ZLU.q 75 a=ZNB a)∧(∀f a o,ZLU.r f a o=none)∧(∀f a o,ZLU.k f a o=none):=⟨fun _=>rfl,fun _ _ _=>rfl,fun _ _ _=>rfl⟩
theorem ZXc(s:Tx):ZD Tryz.prog 39 [.x (.str s)] (.tup [.x (.str (KG s)),.x (.bool (ZAm s))]):=by
 refine ZG.pure (fC 39 true ?_) rfl;intro C0 E0;have uu:=Jz @ZM3.eq_1 @ZM3.eq_2 @ZWo;have tT:=ZV3;refine nz ?_;refine rg tT [0] ?_;refine rg tT [2,3] ?_;refine lf ?_
 first|rfl|exact⟨rfl,rfl⟩|trivial
theorem Zct(s:Tx):ZD Tryz.prog 81 [.x (.str s)] (.tup [.x (.str (YN s)),.x (.bool (ZAm s))]):=by
 refine ZG.pure (fC 81 true ?_) rfl;intro C0 E0;have uu:=Jz @ZNB.eq_1 @ZNB.eq_2 @ZWg;have tT:=ZVf;refine nz ?_;refine rg tT [0] ?_;refine rg tT [2,3] ?_;refine lf ?_
 first|rfl|exact⟨rfl,rfl⟩|trivial
def ZDx:List D→Option (Bool×D)
 | [.x (.str s)]=>some (true,.tup [.x (.str (KG s)),.x (.bool (ZAm s))])
 |_=>none
theorem ZLc: ∀args r,ZDx args=some (true,r)→ZD Tryz.prog 39 args r:=by
 intro args r h;unfold ZDx at h;split at h
 ·rename_i s;simp only[Ze,Za,ZS,Zi,true_and]at h;obtain rfl:=h;exact(ZXc s)
 ·cases h
def ZDH:List D→Option (Bool×D)
 | [.x (.str s)]=>some (true,.tup [.x (.str (YN s)),.x (.bool (ZAm s))])
 |_=>none
theorem ZKZ: ∀args r,ZDH args=some (true,r)→ZD Tryz.prog 81 args r:=by
 intro args r h;unfold ZDH at h;split at h
 ·rename_i s;simp only[Ze,Za,ZS,Zi,true_and]at h;obtain rfl:=h;exact(Zct s)
 ·cases h
end Go.Proofs.YtiogclkbccdefaaGreatDoor
end
section
namespace Go.Proofs.YtiogclkbccdefaaGreatDoor
open Go.RowKit Go.Bo Go.Ab
theorem Zc2(b:Bool)(c:Int):ZD Tryz.prog 120 [.x (.bool b),.x (.int .i64 c)] (.x (.int .i64 (if b=true then c else 0))):=by
 refine ZG.pure (fC 120 true ?_) rfl;intro C0 E0;have uu:=trivial;have tT:=(ZE:SsOk Tryz.prog ZQ);refine nz ?_;refine rg tT [0,1] ?_;refine rg tT [1,5] ?_;refine cd (fun h0=> ?_) (fun h0=> ?_)
 ·refine rg tT [4] ?_;refine lf ?_
  (clear uu;grind)
 ·refine rg tT [4] ?_;refine lf ?_
  (clear uu;grind)
def Kk:List D→Option (Bool×D)
 | [.x (.bool b),.x (.int .i64 c)]=>some (true,.x (.int .i64 (if b=true then c else 0)))
 |_=>none
theorem ZKi: ∀args r,Kk args=some (true,r)→ZD Tryz.prog 120 args r:=by
 intro args r h;unfold Kk at h;split at h
 ·rename_i b c;simp only[Ze,Za,ZS,Zi,true_and]at h;obtain rfl:=h;exact(Zc2 b c)
 ·cases h
def ZAa(k:Int)(v:Tx):Tx:=(Jy k v).1
def ZAk(k:Int)(l:List Tx):List (Tx×Int):=l.map fun v=>(ZAa k v,(1:Int))
def twV(k:Int)(l:List Tx):Bool:= !decide (l.map (ZAa k)).Nodup
theorem ZIA(k:Int): ∀(l:List Tx) (x:Tx),ZI (ZAk k l) x=if x∈l.map (ZAa k)then some 1 else none
 | [],x=>by simp[ZAk,ZI]
 |v::l,x=>by
  have ih:=ZIA k l x;by_cases h:x=ZAa k v
  ·simp[ZAk,ZI,h]
  ·have e:(x∈(v::l).map (ZAa k))=(x∈l.map (ZAa k)):=by simp[h]
   have e2:ZI (ZAk k (v::l)) x=ZI (ZAk k l) x:=by simp[ZAk,ZI,h]
   rw[e2,ih];simp only[e]
theorem ZWF(k:Int)(l:List Tx)(x:Tx):Yx (YV Jo Qb (ZAk k l)) [X.str x]=if x∈l.map (ZAa k)then some [D.x (X.int .i64 1)]else none:=by
 rw[ZDp Jo Qb hkS (ZAk k l) x,ZIA];split<;>rfl
theorem ZUi(k:Int)(l:List Tx)(v:Tx)(h:ZAa k v∉l.map (ZAa k)):YM (YV Jo Qb (ZAk k l)) [X.str (ZAa k v)] [D.x (X.int .i64 1)]=YV Jo Qb (ZAk k (l++ [v])):=by
 have e:=ZCg Jo Qb hkS (ZAk k l) (ZAa k v) 1;rw[ZBq (by rw[ZIA,if_neg h])]at e;have e2:ZAk k (l++ [v])=ZAk k l++ [(ZAa k v,1)]:=by simp[ZAk]
 rw[e2];exact e
theorem Qy(l:List Tx)(j:Nat)(h:j<l.length):(rows ZB l)[j]? =some [X.str (l.getD j [])]:=by
 simp[rows,h,ZB]
theorem Zc7(k:Int)(l:List Tx)(j:Nat)(h:j<l.length)(hin:ZAa k (l.getD j [])∈(l.take j).map (ZAa k)):twV k l=true:=by
 unfold twV;rw[ZHg,decide_eq_false_iff_not];intro hn;have e:l=l.take j++l.getD j []::l.drop (j+1):=by
  have:=ZCn j l;rw[ZFd h]at this;rw[show l.getD j []=l[j] by simp[h]];exact this.symm
 rw[e,KC,YL]at hn;have:=(ZFW.1 hn).2.2 _ hin _ (ZDn);exact this rfl
def ZLS:Tabs:=ZW (ZQ) 154 KL
theorem ZWO:SsOk Tryz.prog ZLS:=ZJ (ZE) (ZZ 154) ZJp
theorem ZWe:(∀a,ZLS.q 154 a=KL a)∧(∀f a o,ZLS.r f a o=none)∧(∀f a o,ZLS.k f a o=none):=⟨fun _=>rfl,fun _ _ _=>rfl,fun _ _ _=>rfl⟩
theorem Zap(k:Int)(l:List Tx)(hl:l.length≤1000000):ZD Tryz.prog 156 [.x (.int .i64 k),.x (.sl (rows ZB l))] (.x (.bool (twV k l))):=by
 refine ZG.pure (fC 156 true ?_) rfl;intro C0 E0;have uu:=Jz @KL.eq_1 @KL.eq_2 @ZWe;have tT:=ZWO;refine nz ?_;refine rg tT [0,1] ?_;refine rg tT [0,1,5] ?_;refine rg tT [0,5,11,12,13] ?_;refine WI.loop (fun φ os=> ∃(j:Nat),φ= [(0,.x (.int .i64 k)),(5,.mref 0),(11,.x (.sl (rows ZB l))),(12,.x (.int .i64 l.length)),(13,.x (.int .i64 j))]∧os= [.mpo .str false (YV Jo Qb (ZAk k (l.take j)))]∧j≤l.length∧((l.take j).map (ZAa k)).Nodup) (ZX l.length 13) ?_ (fun φ os hI=> ?_)
 ·exact⟨0,rfl,rfl,by omega,by simp⟩
 ·obtain⟨j,rfl,rfl,hj,hnd⟩:=hI;refine nz ?_;refine rg tT [0,5,11,12,13,14] ?_;refine cd (fun h0=> ?_) (fun h0=> ?_)
  ·have hj4:j<l.length:=by omega
   have hrw:=Qy l j hj4;have hgt:=ZWF k (l.take j) (ZAa k (l.getD j []));have htk:l.take (j+1)=l.take j++ [l.getD j []]:=by rw[Ko hj4];simp[hj4]
   have hnk:(Jy k (l.getD j [])).1=ZAa k (l.getD j []):=rfl;have uu:=Jz uu hrw hnk;refine rg tT [0,5,7,11,12,13] ?_;refine rg tT [0,5,8,11,12,13] ?_;by_cases hin:ZAa k (l.getD j [])∈(l.take j).map (ZAa k)
   ·rw[if_pos hin]at hgt;have uu:=Yq uu hgt;refine rg tT [0,5,8,11,12,13,26] ?_;refine ct (fun h1=> ?_) (fun h1=> ?_)
    ·refine rg tT [4] ?_;refine lf ?_;rw[Zc7 k l j hj4 hin]
    ·simp at h1
   ·rw[if_neg hin]at hgt;have hset:=ZUi k (l.take j) (l.getD j []) hin;have uu:=Jz uu hgt hset;refine rg tT [0,5,8,11,12,13,26] ?_;refine ce (fun h1=> ?_) (fun h1=> ?_)
    ·simp at h1
    ·refine WI.post ?_;refine WI.regB tT [0,5,11,12,13] ?_
     iterate 2 refine oS ?_
     iterate 3 refine oG ?_
     refine oP ?_;refine Qm [0] ?_ (ho:=by simp (disch:=decide) only[zV,zO,Ob.mpb,frzL,ZAQ,ZBU,Qr,Ob.onI,mpP,Yz,YS,Qf,D.vw,vwL,D.on,D.inP,Yb,Zh,D.ren,Zn,YO,YI,Ob.mp,Ob.ren,D.nn,ZCe,Nat.reduceBEq,Nat.reduceEqDiff,Nat.reduceAdd,↓reduceIte,ZDd,Qk];rfl);refine ZAL ?_;refine nz ?_;have hnd2:((l.take (j+1)).map (ZAa k)).Nodup:=by
      rw[htk,KC,ZFW];exact⟨hnd,by simp,fun a ha b hb=>by simp only[YL,Qv,ZBP]at hb;subst hb;rintro rfl;exact hin ha⟩
     refine rg tT [0,5,11,12,13] ?_;exact⟨⟨j+1,rfl,by rw[htk],by omega,hnd2⟩,by simp[ZX,Ab.get,D.val,ZH];omega⟩
  ·refine rg tT [4] ?_;refine lf ?_;rw[JH (by omega)]at hnd;unfold twV;rw[Zc hnd];rfl
def ZEa:List D→Option (Bool×D)
 | [.x (.int .i64 k),.x (.sl R)]=>(ZY ZB R).bind fun l=>some (decide (l.length≤1000000),.x (.bool (twV k l)))
 |_=>none
theorem ZVp: ∀args r,ZEa args=some (true,r)→ZD Tryz.prog 156 args r:=by
 intro args r h;unfold ZEa at h;split at h
 ·rename_i k R;obtain⟨l,hr0,h⟩:=Zv h;simp only[Ze,Za,ZS,Zi,true_and]at h;obtain⟨h1,rfl⟩:=h;rw[←Zb ZO hr0];exact(Zap k l h1)
 ·cases h
def atD(a:ZU):D:= .agg [.x (.str a.1),.x (.sl (rows ZB a.2.1))]
def w1(t:Zg)(_:ZU):Int:=if t.1= []then 17 else 0
def w2(_:Zg)(a:ZU):Int:=if a.2.1.length=0 then 19 else 0
def w3(t:Zg)(a:ZU):Int:=if a.2.1.all (fun v=>(Jy t.2.1 v).2)=true then 0 else 21
def w5(t:Zg)(a:ZU):Int:=if t.2.2.1=true∧1<a.2.1.length then 19 else 0
def ZJS:Tabs:=ZW (ZW (ZQ) 120 Kk) 154 KL
theorem ZGK:SsOk Tryz.prog ZJS:=ZJ (ZJ (ZE) (ZZ 120) ZKi) (ZZ 154) ZJp
theorem ZHZ:(∀a,ZJS.q 120 a=Kk a)∧(∀a,ZJS.q 154 a=KL a)∧(∀f a o,ZJS.r f a o=none)∧(∀f a o,ZJS.k f a o=none):=⟨fun _=>rfl,fun _=>rfl,fun _ _ _=>rfl,fun _ _ _=>rfl⟩
theorem ZeL(t:Zg)(a:ZU):ZD Tryz.prog 151 [tyD t,atD a] (.x (.int .i64 (w1 t a))):=by
 unfold w1 tyD atD;refine ZG.pure (fC 151 true ?_) rfl;intro C0 E0;have uu:=ξ5 @Kk.eq_1 @Kk.eq_2 @ZHZ @KL.eq_1 @KL.eq_2;have tT:=ZGK;refine nz ?_;refine rg tT [2] ?_;refine rg tT [4] ?_;refine lf ?_
 (clear uu;grind)
theorem ZeN(t:Zg)(a:ZU):ZD Tryz.prog 152 [tyD t,atD a] (.x (.int .i64 (w2 t a))):=by
 unfold w2 tyD atD;refine ZG.pure (fC 152 true ?_) rfl;intro C0 E0;have uu:=ξ5 @Kk.eq_1 @Kk.eq_2 @ZHZ @KL.eq_1 @KL.eq_2;have tT:=ZGK;refine nz ?_;refine rg tT [3] ?_;refine rg tT [4] ?_;refine lf ?_
 (clear uu;grind)
theorem ZeT(t:Zg)(a:ZU)(hl:a.2.1.length≤1000000):ZD Tryz.prog 153 [tyD t,atD a] (.x (.int .i64 (w3 t a))):=by
 unfold w3 tyD atD;obtain⟨n,l,u⟩:=a;simp only at hl⊢;refine ZG.pure (fC 153 true ?_) rfl;intro C0 E0;have uu:=ξ5 @KL.eq_1 @KL.eq_2 @ZHZ @Kk.eq_1 @Kk.eq_2;have tT:=ZGK;refine nz ?_;refine rg tT [2,3] ?_;refine rg tT [2,10,11,12] ?_;refine WI.pickA [0] ?_;refine WI.orderA [2,10,11,12] ?_;refine WI.loop (fun φ os=> ∃(j:Nat),φ= [(2,.ptr 0 0),(10,.x (.sl (rows ZB l))),(11,.x (.int .i64 l.length)),(12,.x (.int .i64 j))]∧os= [.box [.x (.str t.1),.x (.int .i64 t.2.1),.x (.bool t.2.2.1)]]∧j≤l.length∧(l.take j).all (fun v=>(Jy t.2.1 v).2)=true) (ZX l.length 12) ?_ (fun φ os hI=> ?_)
 ·exact⟨0,rfl,rfl,by omega,rfl⟩
 ·obtain⟨j,rfl,rfl,hj,hall⟩:=hI;refine nz ?_;refine rg tT [2,10,11,12,13] ?_;refine cd (fun h0=> ?_) (fun h0=> ?_)
  ·have hj4:j<l.length:=by omega
   have hrw:=Qy l j hj4;have hgj:l[j]=l.getD j []:=by simp[hj4]
   have hal:=KD (fun v=>(Jy t.2.1 v).2) l j hj4;rw[hgj]at hal;have uu:=Yq uu hrw;refine rg tT [2,6,10,11,12] ?_;refine rg tT [2,8,10,11,12] ?_;refine rg tT [2,10,11,12,24] ?_;refine cd (fun h1=> ?_) (fun h1=> ?_)
   ·refine rg tT [4] ?_;refine lf ?_;rw[if_neg (by rw[YP (fun v=>(Jy t.2.1 v).2) l j hj4 (by rw[hgj];simpa using h1)];decide)]
   ·have hall2:(l.take (j+1)).all (fun v=>(Jy t.2.1 v).2)=true:=by rw[hal,hall];simpa using h1
    refine rg tT [2,10,11,12] ?_;exact⟨⟨j+1,rfl,rfl,by omega,hall2⟩,by simp[ZX,Ab.get,D.val,ZH];omega⟩
  ·refine rg tT [4] ?_;refine lf ?_;rw[JH (by omega)]at hall;rw[if_pos hall]
theorem ZeI(t:Zg)(a:ZU):ZD Tryz.prog 157 [tyD t,atD a] (.x (.int .i64 (w5 t a))):=by
 unfold w5 tyD atD;refine ZG.pure (fC 157 true ?_) rfl;intro C0 E0;have uu:=ξ5 @Kk.eq_1 @Kk.eq_2 @ZHZ @KL.eq_1 @KL.eq_2;have tT:=ZGK;refine nz ?_;refine rg tT [2,3] ?_;refine rg tT [4] ?_;refine lf ?_
 (clear uu;grind)
end Go.Proofs.YtiogclkbccdefaaGreatDoor
end
