import Derived.Test.YtpjfdjcejamebaaGreatDoorMA1
import Derived.Lib.MapLaws
import Derived.Test.YtpjfdjcejamebaaGreatDoorLA5
import Derived.Test.YtpjfdjcejamebaaGreatDoorSh
import Derived.Test.YtpjfdjcejamebaaGreatDoorIc
set_option linter.unusedSimpArgs false
set_option linter.unusedVariables false
section
namespace Go.Proofs.YtpjfdjcejamebaaGreatDoor
open Go.RowKit Go.Bo Go.Ab
theorem ZOo (s:List UInt8) (i:Nat) (h:i<s.length):(Zc s).get! i=s[i]:=by
 show(Zc s).data[i]! =_;simp[Zc,h]
theorem ZKA {s:List UInt8} {i:Nat} (h:i<s.length) (hb:s[i].toNat<128):Jt s i=(s[i].toNat,1):=by
 unfold Jt;rw[Lib.decode_at,ZOo s i h];unfold Lib.decodeN;rw[if_pos hb]
theorem ZPv {s:List UInt8} {i:Nat} (h:i<s.length) (hb: ¬s[i].toNat<128):128≤(Jt s i).1∧1≤(Jt s i).2:=by
 unfold Jt;rw[Lib.decode_at,ZOo s i h];rcases Lib.decodeN_shape ((Zc s).size-i) s[i].toNat ((Zc s).get! (i+1)).toNat ((Zc s).get! (i+2)).toNat ((Zc s).get! (i+3)).toNat with⟨h1,_⟩|⟨_,_,_,h1,h2⟩|⟨_,_,_,_,h1,_,h2⟩|⟨_,_,_,_,_,h1,_,h2⟩|h2
 ·omega
 all_goals(rw[h2];simp only;omega)
theorem ZdS (s p:List UInt8):ZD Tryz.prog 138 [.x (.str s),.x (.str p)] (.tup [.x (.str (Lib.trimPrefix s p)),.x (.bool (Lib.hasPrefix s p))]):=by
 intro w st vs hst hvl;obtain⟨hsz,hv⟩:=hvl;obtain⟨v0,v1,rfl⟩: ∃v0 v1,vs= #[v0,v1]:=by
  obtain⟨vl⟩:=vs
  match vl,hsz with
  | [a,b],_=>exact⟨a,b,rfl⟩
 have h0:=hv 0 _ v0 rfl rfl;have h1:=hv 1 _ v1 rfl rfl;cases h0 with
 |x h0=>
 cases h1 with
 |x h1=>
 cases h1 with
 |str _=>
 cases h0 with
 |str _=>
 refine(Tryz.strings_CutPrefix (Zc s) (Zc p) w).mono ?_;rintro e w' ⟨rfl,rfl⟩;refine⟨_,st,rfl,Kept.refl _ _,fun _ _ h=>h,fun _ _ h=> .inl h,?_⟩;have e1:(Zc s).data.toList=s:=by simp[Zc]
 have e2:(Zc p).data.toList=p:=by simp[Zc]
 rw[e1,e2];exact V.tup2 (V.mkstr _ _ _) _
theorem ZEz:Go.Ab.Enters Tryz.prog 138:=Go.Proofs.enters_of Tryz.lays103.f103 (by kernel_rfl) rfl
def QW:List D→Option (Bool×D)
 | [.x (.str s),.x (.str p)]=>some (true,.tup [.x (.str (Lib.trimPrefix s p)),.x (.bool (Lib.hasPrefix s p))])
 |_=>none
theorem ZJB: ∀args r,QW args=some (true,r)→ZD Tryz.prog 138 args r:=by
 intro args r h;unfold QW at h;split at h
 ·rename_i s p;simp only[Zg,Ze,ZY,Zi,true_and]at h;obtain rfl:=h;exact(ZdS s p)
 ·cases h
def ZAT:List D→Option (Bool×D)
 | [.x (.sl R),.x (.str sep)]=>(Zd ZI R).bind fun l=>some (decide ((Lib.join l sep).length≤140737488355328∧l.length≤140737488355328),.x (.str (Lib.join l sep)))
 |_=>none
theorem ZGC: ∀args r,ZAT args=some (true,r)→ZD Tryz.prog 97 args r:=by
 intro args r h;unfold ZAT at h;split at h
 ·rename_i R sep;obtain⟨l,hr0,h⟩:=Zp h;simp only[Zg,Ze,ZY,Zi,true_and]at h;obtain⟨h1,rfl⟩:=h;rw[←ZR ZT hr0];exact(Zei l sep h1.1 h1.2)
 ·cases h
def ZFr:List D→Option (Bool×D)
 | [.x (.str s),.x (.str [c])]=>some (decide (s.length≤1000000),.x (.sl (rows ZI (JX c s))))
 |_=>none
theorem ZUC: ∀args r,ZFr args=some (true,r)→ZD Tryz.prog 137 args r:=by
 intro args r h;unfold ZFr at h;split at h
 ·rename_i s c;simp only[Zg,Ze,ZY,Zi,true_and]at h;obtain⟨h1,rfl⟩:=h;exact(Zca s c h1)
 ·cases h
def ZBn (s:List UInt8):List (List UInt8):=(JX 32 s).filter fun x=>decide (x≠ [])
def jn:List (List UInt8)→List UInt8
 | []=> []
 | [x]=>x
 |x::y::r=>x++32::jn (y::r)
theorem ZLD: ∀l,Lib.join l [32]=jn l
 | []=>rfl
 | [x]=>by rw[Lib.join_one];rfl
 |x::y::r=>by
  have:=ZLD (y::r);simp only[Lib.join,List.intercalate,List.intersperse_cons_cons,List.flatten_cons,jn]at this⊢;rw[this];rfl
theorem ZbQ {x:List UInt8} {l:List (List UInt8)} (h:l≠ []):jn (x::l)=x++32::jn l:=by
 cases l with
 |nil=>exact absurd rfl h
 |cons y r=>rfl
def wt (l:List (List UInt8)):Nat:=(l.map fun x=>x.length+1).sum
theorem Za7: ∀l:List (List UInt8),l≠ []→(jn l).length+1=wt l
 | [x],_=>by simp[jn,wt]
 |x::y::r,_=>by
  have:=Za7 (y::r) (by simp);show(x++32::jn (y::r)).length+1=(x.length+1)+wt (y::r);rw[Zr,Jz];omega
theorem ZNc (c:UInt8): ∀s,wt (JX c s)=s.length+1
 | []=>rfl
 |b::l=>by
  have ih:=ZNc c l;unfold JX;split
  ·show(0+1)+wt (JX c l)=_;rw[ih,Jz];omega
  ·split
   ·rename_i y r he;rw[he]at ih;have e:wt (y::r)=(y.length+1)+wt r:=rfl;have e2:wt ((b::y)::r)=(y.length+1+1)+wt r:=rfl;rw[Jz];omega
   ·rename_i he;exact absurd he (Zdn c l)
theorem ZMN (p:List UInt8→Bool): ∀l,wt (l.filter p)≤wt l
 | []=>Nat.le_refl _
 |x::l=>by
  have:=ZMN p l;have e:wt (x::l)=(x.length+1)+wt l:=rfl;rw[List.filter_cons];split
  ·have e:wt (x::l.filter p)=(x.length+1)+wt (l.filter p):=rfl;omega
  ·omega
theorem ZV0: ∀l:List (List UInt8),l.length≤wt l
 | []=>Nat.le_refl _
 |x::l=>by
  have:=ZV0 l;have e:wt (x::l)=(x.length+1)+wt l:=rfl;rw[Jz];omega
theorem ZQc (c:UInt8) (s:List UInt8):(JX c s).length≤s.length+1:=by have:=ZV0 (JX c s);rw[ZNc]at this;exact this
theorem ZWK (s:List UInt8):(ZBn s).length≤s.length+1:=Nat.le_trans (List.length_filter_le _ _) (ZQc 32 s)
theorem ZK1 (s:List UInt8):(jn (ZBn s)).length≤s.length:=by
 by_cases h:ZBn s= []
 ·rw[h];simp[jn]
 ·have h1:=Za7 _ h;have h2:wt (ZBn s)≤_:=ZMN _ _;rw[ZNc]at h2;omega
def blk (s:List UInt8):List UInt8:=jn (ZBn s)
theorem ZIx (x:List UInt8) (l:List (List UInt8)) (p:List UInt8→Bool):(l++ [x]).filter p=if p x then l.filter p++ [x]else l.filter p:=by
 rw[List.filter_append,List.filter_cons,List.filter_nil];split<;>simp
def ZD7:Tabs:=Za (Za (JT (Za (ZW) 97 ZAT) 97 (KN ZAT)) 137 ZFr) 138 QW
theorem ZWy:SsOk Tryz.prog ZD7:=ZL (ZL (Ye (ZL (ZG) ZCS ZGC) ZCS (ZAq ZGC)) ZNi ZUC) ZEz ZJB
theorem ZTA (a:List D):ZD7.q 97 a=ZAT a:=rfl
theorem ZR3 (a:List D) (o:List Ob):ZD7.t 97 a o=YW (KN ZAT) a o:=rfl
theorem ZPS (a:List D):ZD7.q 137 a=ZFr a:=rfl
theorem ZP2 (a:List D):ZD7.q 138 a=QW a:=rfl
theorem ZYJ (f:FuncId) (a:List D) (o:List Ob):ZD7.r f a o=none:=rfl
theorem ZYE (f:FuncId) (a:List D) (o:List Ob):ZD7.k f a o=none:=rfl
theorem ZNC (s:List UInt8) (hl:s.length≤1000000):ZD Tryz.prog 104 [.x (.str s)] (.x (.str (blk s))):=by
 have hsl:=ZQc 32 s;refine ZN.pure (ZO (fz:=true) ZH (p:=ZN0) rfl _ (ξ rfl) _ (fun C0 E0=> ?_)) rfl;dsimp only[ZN0,qt,qi,qs,qb,qm,qa,qh,qj,qT,qF,qe,ql,qL,qf,q2,q3,q8,qz,qp,qP,qc,qk,qx,qy,qo,qr,qC,ZQ];have uu:=ZA @ZAT.eq_1 (ZA @ZAT.eq_2 (ZA @ZFr.eq_1 (ZA @ZFr.eq_2 (ZA @ZYJ (ZA @ZYE (ZA @ZPS (ZA @ZP2 (ZA @ZTA (ZA @ZR3 (ZA @QW.eq_1 (ZA @QW.eq_2 (@KN.eq_1))))))))))));have tT:=ZWy;refine nz ?_;refine WI.regB tT [0] ?_;refine oS ?_;refine oN ?_;refine nz ?_;refine WI.regB tT [0,3] ?_;refine oS ?_;refine oN ?_;refine nz ?_;refine WI.regB tT [3,7,8,9] ?_;refine oS ?_;refine oC (hok:=by first|exact se|(rw[YL (Nat.le_refl _)];exact ZM ⟨hoj2,by omega⟩)|exact sd) ?_;refine oG (hok:=by first|exact se|(rw[YL (Nat.le_refl _)];exact ZM ⟨hoj2,by omega⟩)|exact sd) ?_;refine oS ?_;refine oN ?_;refine nz ?_;refine WI.ownA 3 9 1 ?_;refine WI.loop (fun φ os=> ∃(j:Nat) (o:List (List UInt8)),φ= [(3,.ref 0 o.length 0 o.length),(7,.x (.sl (rows ZI (JX 32 s)))),(8,.x (.int .i64 (JX 32 s).length)),(9,.x (.int .i64 j))]∧os= [.rows false 9 1 (rows ZI o)]∧j≤(JX 32 s).length∧o=((JX 32 s).take j).filter (fun x=>decide (x≠ []))∧o.length≤j) (ZK (JX 32 s).length 9) ?_ (fun φ os hI=> ?_)
 ·exact⟨0,[],rfl,rfl,by omega,rfl,by simp⟩
 ·obtain⟨j,o,rfl,rfl,hj,ho,hoj⟩:=hI;refine nz ?_;refine WI.regB tT [3,7,8,9,10] ?_;refine oG (hok:=by first|exact se|(rw[YL (Nat.le_refl _)];exact ZM ⟨hoj2,by omega⟩)|exact sd) ?_;refine oN ?_;refine nz ?_;refine cd (fun h0=> ?_) (fun h0=> ?_)
  ·have hj4:j<(JX 32 s).length:=by omega
   refine WI.regB tT [3,5,7,8,9] ?_
   iterate 2 refine oG (hok:=by first|exact se|(rw[YL (Nat.le_refl _)];exact ZM ⟨hoj2,by omega⟩)|exact sd) ?_
   refine oS ?_;refine oN ?_;refine nz ?_;refine WI.regB tT [3,5,7,8,9,14] ?_;refine oS ?_;refine oG (hok:=by first|exact se|(rw[YL (Nat.le_refl _)];exact ZM ⟨hoj2,by omega⟩)|exact sd) ?_;refine oN ?_;refine nz ?_;refine cd (fun h1=> ?_) (fun h1=> ?_)
   ·have ho2:o++ [(JX 32 s)[j]]=((JX 32 s).take (j+1)).filter (fun x=>decide (x≠ [])):=by rw[List.take_succ_eq_append_getElem hj4,ZIx,←ho,if_pos (by simpa using h1)]
    refine WI.post ?_;refine WI.regB tT [3,7,8,9] ?_
    iterate 2 refine oS ?_
    iterate 2 refine oG (hok:=by first|exact se|(rw[YL (Nat.le_refl _)];exact ZM ⟨hoj2,by omega⟩)|exact sd) ?_
    refine oS ?_;refine oP ?_;refine Yo [0] ?_;refine JR ?_;refine nz ?_;refine WI.regB tT [3,7,8,9] ?_;refine oG (hok:=by first|exact se|(rw[YL (Nat.le_refl _)];exact ZM ⟨hoj2,by omega⟩)|exact sd) ?_;refine oS ?_;refine oN ?_;refine nz ?_
    first|exact⟨⟨j+1,o++ [(JX 32 s)[j]],by first|rfl|simp,by rw[←ZOO],by omega,ho2,by simp;omega⟩,by simp[ZK,Ab.get,D.val,ZE];omega⟩|exact⟨⟨j+1,o,by first|rfl|simp,rfl,by omega,ho2,by omega⟩,by simp[ZK,Ab.get,D.val,ZE];omega⟩
   ·have ho2:o=((JX 32 s).take (j+1)).filter (fun x=>decide (x≠ [])):=by rw[List.take_succ_eq_append_getElem hj4,ZIx,←ho,if_neg (by simpa using h1)]
    refine WI.regB tT [3,7,8,9] ?_;refine oG (hok:=by first|exact se|(rw[YL (Nat.le_refl _)];exact ZM ⟨hoj2,by omega⟩)|exact sd) ?_;refine oS ?_;refine oN ?_;refine nz ?_
    first|exact⟨⟨j+1,o++ [(JX 32 s)[j]],by first|rfl|simp,by rw[←ZOO],by omega,ho2,by simp;omega⟩,by simp[ZK,Ab.get,D.val,ZE];omega⟩|exact⟨⟨j+1,o,by first|rfl|simp,rfl,by omega,ho2,by omega⟩,by simp[ZK,Ab.get,D.val,ZE];omega⟩
  ·have hoe:o=ZBn s:=by rw[ho,YL (by omega)];rfl
   have hwl:=ZWK s;have hoj2:(Lib.join o [32]).length≤140737488355328:=by rw[hoe,ZLD];have:=ZK1 s;omega
   refine WI.regB tT [2] ?_;refine oS ?_;refine oC (hok:=by first|exact se|(rw[YL (Nat.le_refl _)];exact ZM ⟨hoj2,by omega⟩)|exact sd) ?_;refine oS ?_;refine oN ?_;refine nz ?_;refine lf ?_;rw[hoe,ZLD];rfl
def ZDh:List D→Option (Bool×D)
 | [.x (.str s)]=>some (decide (s.length≤1000000),.x (.str (blk s)))
 |_=>none
theorem ZTd: ∀args r,ZDh args=some (true,r)→ZD Tryz.prog 104 args r:=by
 intro args r h;unfold ZDh at h;split at h
 ·rename_i s;simp only[Zg,Ze,ZY,Zi,true_and]at h;obtain⟨h1,rfl⟩:=h;exact(ZNC s h1)
 ·cases h
def ZFZ:Tabs:=Za (Za (Za (ZW) 37 ZAC) 104 ZDh) 138 QW
theorem ZWv:SsOk Tryz.prog ZFZ:=ZL (ZL (ZL (ZG) (ZC ZH (p:=i37) rfl) ZL0) (ZC ZH (p:=ZN0) rfl) ZTd) ZEz ZJB
theorem ZTD (a:List D):ZFZ.q 37 a=ZAC a:=rfl
theorem ZQC (a:List D):ZFZ.q 104 a=ZDh a:=rfl
theorem ZP6 (a:List D):ZFZ.q 138 a=QW a:=rfl
theorem ZZ5 (f:FuncId) (a:List D) (o:List Ob):ZFZ.r f a o=none:=rfl
theorem ZYb (f:FuncId) (a:List D) (o:List Ob):ZFZ.k f a o=none:=rfl
def fld (s:List UInt8):List UInt8:=ZB (blk s)
theorem Zec (s:List UInt8) (hl:s.length≤1000000):ZD Tryz.prog 140 [.x (.str s)] (.x (.str (fld s))):=by
 have hb:(blk s).length≤s.length:=ZK1 s;refine ZN.pure (ZO (fz:=true) ZH (p:=ZSk) rfl _ (ξ rfl) _ (fun C0 E0=> ?_)) rfl;dsimp only[ZSk,qt,qi,qs,qb,qm,qa,qh,qj,qT,qF,qe,ql,qL,qf,q2,q3,q8,qz,qp,qP,qc,qk,qx,qy,qo,qr,qC,ZQ];have uu:=ZA @ZAC.eq_1 (ZA @ZAC.eq_2 (ZA @ZDh.eq_1 (ZA @ZDh.eq_2 (ZA @ZZ5 (ZA @ZYb (ZA @ZQC (ZA @ZP6 (ZA @ZTD (ZA @QW.eq_1 (@QW.eq_2))))))))));have tT:=ZWv;refine nz ?_;refine rg tT [0] ?_;refine rg tT [2] ?_;refine lf ?_
 first|rfl|exact⟨rfl,rfl⟩|trivial
def ZA9 (b:UInt8):Bool:=decide (48≤b.toNat∧b.toNat≤57)
def dgs (s:List UInt8):Bool:=decide (s≠ []∧s.length≤32)&&s.all ZA9
theorem ZNq (s:List UInt8) (p:UInt8→Bool) (i:Nat) (h:i<s.length):(s.take (i+1)).all p=((s.take i).all p&&p s[i]):=by
 rw[List.take_succ_eq_append_getElem h,List.all_append];simp
theorem ZRn (s:List UInt8) (p:UInt8→Bool) (i:Nat) (h:i<s.length) (hp:p s[i]=false):s.all p=false:=by
 rw[List.all_eq_false];exact⟨s[i],List.getElem_mem h,by rw[hp];simp⟩
theorem ZcS {s:List UInt8} {i:Nat} (h:i<s.length) (hr:48≤((Jt s i).1:Int)∧((Jt s i).1:Int)≤57):(Jt s i).2=1∧ZA9 s[i]=true:=by
 by_cases hb:s[i].toNat<128
 ·rw[ZKA h hb]at hr⊢;simp only at hr;exact⟨rfl,ZM (by omega)⟩
 ·have:=(ZPv h hb).1;omega
theorem Zb8 {s:List UInt8} {i:Nat} (h:i<s.length) (hr: ¬(48≤((Jt s i).1:Int)∧((Jt s i).1:Int)≤57)):ZA9 s[i]=false:=by
 refine decide_eq_false (fun hd=>hr ?_);rw[ZKA h (by omega)];simp only;omega
theorem ZZL (s:List UInt8):ZD Tryz.prog 139 [.x (.str s)] (.x (.bool (dgs s))):=by
 refine ZN.pure (ZO (fz:=true) ZH (p:=ZSD) rfl _ (ξ rfl) _ (fun C0 E0=> ?_)) rfl;dsimp only[ZSD,qt,qi,qs,qb,qm,qa,qh,qj,qT,qF,qe,ql,qL,qf,q2,q3,q8,qz,qp,qP,qc,qk,qx,qy,qo,qr,qC,ZQ];have uu:=trivial;have tT:=(ZG:SsOk Tryz.prog ZW);refine nz ?_;refine rg tT [0] ?_;refine rg tT [0,6] ?_;refine WI.loop (fun φ os=> ∃(i:Nat),φ= [(0,.x (.str s)),(6,.iref 0 0)]∧os= [.sit s i]∧i≤s.length∧(s.take i).all ZA9=true) (ZeF s.length 0) ?_ (fun φ os hI=> ?_)
 ·exact⟨0,rfl,rfl,by omega,rfl⟩
 ·obtain⟨i,rfl,rfl,hi,ha⟩:=hI;refine nz ?_;refine WI.nextSA [0,6,7,8] (fun hn2=> ?_) (fun hn2=> ?_)
  ·have ha2:s.all ZA9=true:=by rw[←ha,YL (by omega)]
   have hdg:dgs s=(!(s== [])&&decide ((s.length:Int)≤32)):=by unfold dgs;rw[ha2,Bool.and_true];by_cases h1:s= []<;>by_cases h2:s.length≤32<;>simp[h1,h2]<;>omega
   refine nz ?_;refine ce (fun h0=> ?_) (fun h0=> ?_)
   ·exact absurd h0 (by decide)
   ·refine rg tT [2] ?_;refine lf ?_;rw[hdg]
  ·refine nz ?_;refine ct (fun h0=> ?_) (fun h0=> ?_)
   ·refine rg tT [0,4,6] ?_;refine rg tT [0,6,15] ?_;refine cd (fun h1=> ?_) (fun h1=> ?_) (kB:=fun h=>h.h)
    ·have hd:=ZRn s ZA9 i hn2 (Zb8 hn2 (by omega));have hdg:dgs s=false:=by unfold dgs;rw[hd,Bool.and_false]
     refine rg tT [2] ?_;refine lf ?_;rw[hdg]
    ·obtain⟨hw,hdd⟩:=ZcS hn2 (by omega);have ha2:(s.take (i+1)).all ZA9=true:=by rw[ZNq s ZA9 i hn2,ha,hdd];rfl
     refine WI.orderA [0,6] ?_;refine nz ?_;exact⟨⟨i+1,by first|rfl|simp,by first|rfl|simp[hw],by omega,ha2⟩,by simp[ZeF,hw];omega⟩
   ·exact absurd h0 (by decide)
def ZBZ:List D→Option (Bool×D)
 | [.x (.str s)]=>some (true,.x (.bool (dgs s)))
 |_=>none
theorem ZTu: ∀args r,ZBZ args=some (true,r)→ZD Tryz.prog 139 args r:=by
 intro args r h;unfold ZBZ at h;split at h
 ·rename_i s;simp only[Zg,Ze,ZY,Zi,true_and]at h;obtain rfl:=h;exact(ZZL s)
 ·cases h
def ZHx:Tabs:=Za (Za (ZW) 139 ZBZ) 138 QW
theorem ZMG:SsOk Tryz.prog ZHx:=ZL (ZL (ZG) (ZC ZH (p:=ZSD) rfl) ZTu) ZEz ZJB
theorem ZIm (a:List D):ZHx.q 139 a=ZBZ a:=rfl
theorem ZIz (a:List D):ZHx.q 138 a=QW a:=rfl
theorem ZNy (f:FuncId) (a:List D) (o:List Ob):ZHx.r f a o=none:=rfl
theorem ZPL (f:FuncId) (a:List D) (o:List Ob):ZHx.k f a o=none:=rfl
def stp:List UInt8→List UInt8
 | []=> []
 | [b]=> [b]
 |b::c::l=>if b=48 then stp (c::l)else b::c::l
theorem ZOD (s:List UInt8) (h:1<s.length) (h0:s[0]=48):stp s=stp (s.drop 1):=by
 match s,h with
 |b::c::l,_=>exact if_pos h0
theorem ZJW (s:List UInt8) (h: ¬(1<s.length∧ ∀(h:0<s.length),s[0]=48)):stp s=s:=by
 match s with
 | []=>rfl
 | [b]=>rfl
 |b::c::l=>rw[stp,if_neg];intro e;exact h ⟨by simp,fun _=>e⟩
def Yz (s:List UInt8):List UInt8:=Lib.trimPrefix s [45]
def ZCW (s:List UInt8):Bool:=Lib.hasPrefix s [45]
def QI (s:List UInt8):List UInt8×Bool:=
 if dgs (Yz s)then(if ZCW s∧stp (Yz s)≠ [48]then 45::stp (Yz s)else stp (Yz s),true)else([],false)
theorem b48 {b:UInt8}:b=48↔(b.toNat:Int)=48:=⟨fun h=>by rw[h];rfl,fun h=>UInt8.toNat_inj.1 (by show b.toNat=48;omega)⟩
theorem gd0 (t:List UInt8) (h:0<t.length):t.getD 0 0=t[0]:=by simp[h]
theorem Zey (s:List UInt8):ZD Tryz.prog 105 [.x (.str s)] (.tup [.x (.str (QI s).1),.x (.bool (QI s).2)]):=by
 cases hd:dgs (Yz s)with
 |false=>
  have hi:QI s=([],false):=by unfold QI;rw[if_neg (by rw[hd];simp)]
  rw[hi];unfold Yz at hd;refine ZN.pure (ZO (fz:=true) ZH (p:=ZK5) rfl _ (ξ rfl) _ (fun C0 E0=> ?_)) rfl;dsimp only[ZK5,qt,qi,qs,qb,qm,qa,qh,qj,qT,qF,qe,ql,qL,qf,q2,q3,q8,qz,qp,qP,qc,qk,qx,qy,qo,qr,qC,ZQ];have uu:=ZA @ZBZ.eq_1 (ZA @ZBZ.eq_2 (ZA @QW.eq_1 (ZA @QW.eq_2 (ZA hd (ZA @ZNy (ZA @ZPL (ZA @ZIz (@ZIm))))))));have tT:=ZMG;refine nz ?_;refine rg tT [0] ?_;refine rg tT [4,5] ?_;refine rg tT [4,5,13] ?_;refine ct (fun h0=> ?_) (fun h0=> ?_)
  ·refine rg tT [2,3] ?_;refine lf ?_;rfl
  ·simp at h0
 |true=>
  unfold Yz at hd;have hd32:(Lib.trimPrefix s [45]).length≤32:=by
   unfold dgs at hd;rw[ZY]at hd;exact(of_decide_eq_true hd.1).2
  have hi:QI s=(if ZCW s∧stp (Yz s)≠ [48]then 45::stp (Yz s)else stp (Yz s),true):=by have hd2:dgs (Yz s)=true:=hd;unfold QI;rw[if_pos hd2]
  unfold Yz ZCW at hi;refine ZN.pure (ZO (fz:=true) ZH (p:=ZK5) rfl _ (ξ rfl) _ (fun C0 E0=> ?_)) rfl;dsimp only[ZK5,qt,qi,qs,qb,qm,qa,qh,qj,qT,qF,qe,ql,qL,qf,q2,q3,q8,qz,qp,qP,qc,qk,qx,qy,qo,qr,qC,ZQ];have uu:=ZA @ZBZ.eq_1 (ZA @ZBZ.eq_2 (ZA @QW.eq_1 (ZA @QW.eq_2 (ZA hd (ZA @ZNy (ZA @ZPL (ZA @ZIz (@ZIm))))))));have tT:=ZMG;refine nz ?_;refine rg tT [0] ?_;refine rg tT [4,5] ?_;refine rg tT [4,5,13] ?_;refine ce (fun h0=> ?_) (fun h0=> ?_)
  ·simp at h0
  ·refine WI.orderA [4,5] ?_;refine WI.loop (fun φ os=> ∃(t:List UInt8),φ= [(4,.x (.str t)),(5,.x (.bool (Lib.hasPrefix s [45])))]∧os= []∧stp t=stp (Lib.trimPrefix s [45])∧t.length≤32) (fun φ _=>match φ with|(_,.x (.str t))::_=>t.length|_=>0) ?_ (fun φ os hI=> ?_)
   ·exact⟨_,rfl,rfl,rfl,hd32⟩
   ·obtain⟨t,rfl,rfl,ht,htl⟩:=hI;refine nz ?_;by_cases hl1:1<t.length
    ·have hk:t[0]? =some t[0]:=YC (by omega);have hdl:=ZM (show(1:Int)<(t.length:Int) by omega);have uu:=ZA uu (ZA hk hdl);refine rg tT [4,5,21] ?_;refine cd (fun h1=> ?_) (fun h1=> ?_)
     ·have ht2:stp (t.drop 1)=stp (Lib.trimPrefix s [45]):=by rw[←ht,ZOD t hl1 ((gd0 t (by omega)).symm.trans (b48.2 h1))]
      refine rg tT [4,5] ?_;exact⟨⟨t.drop 1,rfl,rfl,ht2,by rw[List.length_drop];omega⟩,by simp;omega⟩
     ·have hts:stp t=t:=ZJW t (fun hh=>h1 (b48.1 ((gd0 t (by omega)).trans (hh.2 (by omega)))));have htt:=ht.symm.trans hts;refine rg tT [4,28] ?_;refine cd (fun h2=> ?_) (fun h2=> ?_)
      ·refine rg tT [4] ?_;refine rg tT [2,3] ?_;refine lf ?_;rw[hi,htt];first|(rw[if_pos ⟨h2.1,h2.2⟩];done)|(rw[if_pos ⟨h2.1,h2.2⟩];rfl)|(rw[if_neg (by rcases h2 with h2|h2<;>simp[h2])];done)|(rw[if_neg (by rcases h2 with h2|h2<;>simp[h2])];rfl)
      ·refine rg tT [2,3] ?_;refine lf ?_;rw[hi,htt];first|(rw[if_pos ⟨h2.1,h2.2⟩];done)|(rw[if_pos ⟨h2.1,h2.2⟩];rfl)|(rw[if_neg (by rcases h2 with h2|h2<;>simp[h2])];done)|(rw[if_neg (by rcases h2 with h2|h2<;>simp[h2])];rfl)
    ·have hdl:=decide_eq_false (show ¬(1:Int)<(t.length:Int) by omega);have uu:=ZA uu hdl;refine rg tT [4,5,21] ?_;refine ce (fun h1=> ?_) (fun h1=> ?_)
     ·simp at h1
     ·have hts:stp t=t:=ZJW t (fun hh=>hl1 hh.1);have htt:=ht.symm.trans hts;refine rg tT [4,28] ?_;refine cd (fun h2=> ?_) (fun h2=> ?_)
      ·refine rg tT [4] ?_;refine rg tT [2,3] ?_;refine lf ?_;rw[hi,htt];first|(rw[if_pos ⟨h2.1,h2.2⟩];done)|(rw[if_pos ⟨h2.1,h2.2⟩];rfl)|(rw[if_neg (by rcases h2 with h2|h2<;>simp[h2])];done)|(rw[if_neg (by rcases h2 with h2|h2<;>simp[h2])];rfl)
      ·refine rg tT [2,3] ?_;refine lf ?_;rw[hi,htt];first|(rw[if_pos ⟨h2.1,h2.2⟩];done)|(rw[if_pos ⟨h2.1,h2.2⟩];rfl)|(rw[if_neg (by rcases h2 with h2|h2<;>simp[h2])];done)|(rw[if_neg (by rcases h2 with h2|h2<;>simp[h2])];rfl)
def jnc (c:UInt8):List Tx→Tx
 | []=> []
 | [x]=>x
 |x::y::r=>x++c::jnc c (y::r)
theorem ZEL (c:UInt8): ∀l,Lib.join l [c]=jnc c l
 | []=>rfl
 | [x]=>by rw[Lib.join_one];rfl
 |x::y::r=>by
  have:=ZEL c (y::r);simp only[Lib.join,List.intercalate,List.intersperse_cons_cons,List.flatten_cons,jnc]at this⊢;rw[this];rfl
theorem ZOG (c:UInt8) {x:Tx} {l:List Tx} (h:l≠ []):jnc c (x::l)=x++c::jnc c l:=by
 cases l with
 |nil=>exact absurd rfl h
 |cons y r=>rfl
theorem ZJR (c:UInt8): ∀(l:List Tx) (x:Tx),l≠ []→jnc c (l++ [x])=jnc c l++ [c]++x
 | [],x,h=>absurd rfl h
 | [y],x,_=>by simp[jnc]
 |y::z::r,x,_=>by
  have:=ZJR c (z::r) x (by simp);have e:jnc c (y::z::r)=y++c::jnc c (z::r):=rfl;have e2:jnc c (y::(z::r++ [x]))=y++c::jnc c (z::r++ [x]):=ZOG c (by simp);rw[List.cons_append,e2,this,e];simp
theorem ZFt (c:UInt8) (m:Nat): ∀l:List Tx,(∀x∈l,x.length≤m)→(jnc c l).length≤l.length*(m+1)
 | [],_=>by simp[jnc]
 | [x],h=>by have:=h x (by simp);simp[jnc];omega
 |x::y::r,h=>by
  have h1:=ZFt c m (y::r) (fun z hz=>h z (List.mem_cons_of_mem _ hz));have h2:=h x (by simp);rw[ZOG c (by simp),Zr,Jz,Jz,Nat.add_mul];omega
theorem ZKu (l:List Tx) (x:Tx):rows ZI l++ [[X.str x]]=rows ZI (l++ [x]):=by simp[rows,ZI]
def QU (p:Av):Tx:=p.1++ [61]++ZC4 p.2
def Yy (r:List Av):Tx:=jnc 43 (r.map QU)
def ZAp (d:Dn):Tx:=jnc 44 (d.map Yy)
def ZBR (d:Dn):Tx×Int:=if KH d≠0 then([],KH d)else if(ZAp d).length>4096 then([],3)else(ZAp d,0)
theorem ZXN (r:List Av): ∀(n j:Nat),okP r n=true→j<n→Kk r j=true
 |n+1,j,h,hj=>by
  rw[okP,ZY]at h;by_cases e:j=n
  ·subst e;exact h.2
  ·exact ZXN r n j h.1 (by omega)
theorem ZAe {r:List Av} (h:Yj r=true):r.length≤8∧1≤r.length∧ ∀p∈r,p.1.length≤64∧p.2.length≤256:=by
 unfold Yj at h;rw[ZY,Zi]at h;refine⟨h.2.2,h.2.1,fun p hp=> ?_⟩;obtain⟨j,hj,rfl⟩:=List.getElem_of_mem hp;have h1:=ZXN r r.length j h.1 hj;unfold Kk at h1;rw[ZK9,show r.getD j ([],[])=r[j] by simp[hj]]at h1;simp only[ZY,Zi]at h1;exact⟨h1.1.1.2,h1.2.2.1⟩
theorem ZF2 {d:Dn} (h:KH d=0):d.length≤32∧ ∀r∈d,Yj r=true:=by
 unfold KH at h;split at h
 ·cases h
 ·split at h
  ·rename_i h2;exact⟨by omega,List.all_eq_true.1 h2⟩
  ·cases h
theorem ZNW {p:Av} (h:p.1.length≤64∧p.2.length≤256):(QU p).length≤840:=by
 have:=ZB9 p.2 p.2.length;unfold QU ZC4;simp only[Zr,Jz,ξN];omega
theorem ZGg {r:List Av} (h:Yj r=true):(Yy r).length≤6800:=by
 obtain⟨h1,-,h2⟩:=ZAe h;have:=ZFt 43 840 (r.map QU) (fun x hx=>by obtain⟨p,hp,rfl⟩:=List.mem_map.1 hx;exact ZNW (h2 p hp));rw[List.length_map]at this;unfold Yy;omega
theorem ZZU {d:Dn} (h:KH d=0):(ZAp d).length≤250000:=by
 obtain⟨h1,h2⟩:=ZF2 h;have:=ZFt 44 6800 (d.map Yy) (fun x hx=>by obtain⟨r,hr,rfl⟩:=List.mem_map.1 hx;exact ZGg (h2 r hr));rw[List.length_map]at this;unfold ZAp;omega
def ZB4:Tabs:=JT (Za (Za (Za (ZW) 168 ZBJ) 176 ZFb) 97 ZAT) 97 (KN ZAT)
theorem ZRy:SsOk Tryz.prog ZB4:=Ye (ZL (ZL (ZL (ZG) (ZC ZH (p:=ZHV) rfl) ZMP) (ZC ZH (p:=ZSP) rfl) ZVm) ZCS ZGC) ZCS (ZAq ZGC)
theorem ZNI (a:List D):ZB4.q 168 a=ZBJ a:=rfl
theorem ZN7 (a:List D):ZB4.q 176 a=ZFb a:=rfl
theorem ZPp (a:List D):ZB4.q 97 a=ZAT a:=rfl
theorem ZPV (a:List D) (o:List Ob):ZB4.t 97 a o=YW (KN ZAT) a o:=rfl
theorem ZVL (f:FuncId) (a:List D) (o:List Ob):ZB4.r f a o=none:=rfl
theorem ZUv (f:FuncId) (a:List D) (o:List Ob):ZB4.k f a o=none:=rfl
set_option maxHeartbeats 1000000 in
theorem ZeL (d:Dn) (hb:smD d):ZD Tryz.prog 143 [.x (.sl (rows Ys d))] (.tup [.x (.str (ZBR d).1),.x (.int .i64 (ZBR d).2)]):=by
 rcases hq:ZBR d with⟨u,e⟩
 unfold ZBR at hq;have hsd:decide (smD d)=true:=ZM hb;refine ZN.pure (ZO (fz:=true) ZH (p:=ZK6) rfl _ (ξ rfl) _ (fun C0 E0=> ?_)) rfl;dsimp only[ZK6,qt,qi,qs,qb,qm,qa,qh,qj,qT,qF,qe,ql,qL,qf,q2,q3,q8,qz,qp,qP,qc,qk,qx,qy,qo,qr,qC,ZQ];have uu:=ZA @ZBJ.eq_1 (ZA @ZBJ.eq_2 (ZA @ZFb.eq_1 (ZA @ZFb.eq_2 (ZA @ZAT.eq_1 (ZA @ZAT.eq_2 (ZA @ZH7 (ZA @ZLQ (ZA hsd (ZA @ZVL (ZA @ZUv (ZA @ZNI (ZA @ZN7 (ZA @ZPp (ZA @ZPV (@KN.eq_1)))))))))))))));have tT:=ZRy;refine nz ?_;refine WI.regB tT [0] ?_
 iterate 2 refine oS ?_
 refine oN ?_;refine nz ?_;refine WI.regB tT [0,4] ?_;refine oS ?_;refine oC (hok:=by first|exact se|(exact ZM (by omega))|(exact ZM (by simp;omega))|exact sd) ?_;refine oS ?_;refine oN ?_;refine nz ?_;refine WI.regB tT [0,4,15] ?_;refine oS ?_;refine oG (hok:=by first|exact se|(exact ZM (by omega))|(exact ZM (by simp;omega))|exact sd) ?_;refine oN ?_;refine nz ?_;refine cd (fun h0=> ?_) (fun h0=> ?_)
 ·refine WI.regB tT [2,3] ?_
  iterate 3 refine oS ?_
  refine oN ?_;refine nz ?_;refine lf ?_;rw[if_pos (by simpa using h0)]at hq;cases hq;rfl
 ·rw[if_neg (by simpa using h0)]at hq;have hck:KH d=0:=by simpa using h0
  obtain⟨hd32,hmay⟩:=ZF2 hck;refine WI.regB tT [0,5] ?_;refine oS ?_;refine oN ?_;refine nz ?_;refine WI.regB tT [5,17,18,19] ?_;refine oS ?_;refine oG (hok:=by first|exact se|(exact ZM (by omega))|(exact ZM (by simp;omega))|exact sd) ?_;refine oS ?_;refine oN ?_;refine nz ?_;refine WI.ownA 5 9 1 ?_;refine WI.loop (fun φ os=> ∃(j:Nat),φ= [(5,.ref 0 j 0 j),(17,.x (.sl (rows Ys d))),(18,.x (.int .i64 d.length)),(19,.x (.int .i64 j))]∧os= [.rows false 9 1 (rows ZI ((d.take j).map Yy))]∧j≤d.length) (ZK d.length 19) ?_ (fun φ os hI=> ?_)
  ·exact⟨0,rfl,rfl,by omega⟩
  ·obtain⟨j,rfl,rfl,hj⟩:=hI;refine nz ?_;refine WI.regB tT [5,17,18,19,20] ?_;refine oG (hok:=by first|exact se|(exact ZM (by omega))|(exact ZM (by simp;omega))|exact sd) ?_;refine oN ?_;refine nz ?_;refine cd (fun h1=> ?_) (fun h1=> ?_)
   ·have hj4:j<d.length:=by omega
    have hmj:Yj (d.getD j [])=true:=by rw[show d.getD j []=d[j] by simp[hj4]];exact hmay _ (List.getElem_mem hj4)
    obtain⟨hr8,-,hpb⟩:=ZAe hmj;have hpl:=ZGg hmj;have hst:(d.take (j+1)).map Yy=(d.take j).map Yy++ [Yy (d.getD j [])]:=by rw[List.take_succ_eq_append_getElem hj4,List.map_append,show d.getD j []=d[j] by simp[hj4]];rfl
    have hrow:=ZFU d j hj4;generalize d.getD j []=r at hmj hr8 hpb hpl hst hrow⊢;have uu:=ZA uu hrow;refine WI.regB tT [5,7,17,18,19] ?_
    iterate 2 refine oG (hok:=by first|exact se|(exact ZM (by omega))|(exact ZM (by simp;omega))|exact sd) ?_
    refine oS ?_;refine oN ?_;refine nz ?_;refine WI.regB tT [5,7,8,17,18,19] ?_;refine oS ?_;refine oN ?_;refine nz ?_;refine WI.regB tT [5,8,17,18,19,23,24,25] ?_;refine oS ?_;refine oG (hok:=by first|exact se|(exact ZM (by omega))|(exact ZM (by simp;omega))|exact sd) ?_;refine oS ?_;refine oN ?_;refine nz ?_;refine WI.ownA 8 9 1 ?_;refine WI.orderA [5,8,17,18,19,23,24,25] ?_;refine WI.loop (fun φ os=> ∃(k:Nat),φ= [(5,.ref 0 j 0 j),(8,.ref 1 k 0 k),(17,.x (.sl (rows Ys d))),(18,.x (.int .i64 d.length)),(19,.x (.int .i64 j)),(23,.x (.sl (rows Zq r))),(24,.x (.int .i64 r.length)),(25,.x (.int .i64 k))]∧os= [.rows false 9 1 (rows ZI ((d.take j).map Yy)),.rows false 9 1 (rows ZI ((r.take k).map QU))]∧k≤r.length) (ZK r.length 25) ?_ (fun φ os hI=> ?_)
    ·exact⟨0,rfl,rfl,by omega⟩
    ·obtain⟨k,rfl,rfl,hk⟩:=hI;refine nz ?_;refine WI.regB tT [5,8,17,18,19,23,24,25,26] ?_;refine oG (hok:=by first|exact se|(exact ZM (by omega))|(exact ZM (by simp;omega))|exact sd) ?_;refine oN ?_;refine nz ?_;refine cd (fun h2=> ?_) (fun h2=> ?_)
     ·have hk4:k<r.length:=by omega
      have har:=ZBh r k hk4;have hpk:(r.getD k ([],[])).1.length≤64∧(r.getD k ([],[])).2.length≤256:=by rw[show r.getD k ([],[])=r[k] by simp[hk4]];exact hpb _ (List.getElem_mem hk4)
      have hel:=ZB9 (r.getD k ([],[])).2 (r.getD k ([],[])).2.length;have hel2:(ZC4 (r.getD k ([],[])).2).length≤800:=by unfold ZC4;omega
      have hsk:(r.take (k+1)).map QU=(r.take k).map QU++ [QU (r.getD k ([],[]))]:=by rw[List.take_succ_eq_append_getElem hk4,List.map_append,show r.getD k ([],[])=r[k] by simp[hk4]];rfl
      have hsc:decide ((r.getD k ([],[])).2.length≤1000000)=true:=ZM (by omega);have uu:=ZA uu (ZA har hsc);refine WI.regB tT [5,8,10,17,18,19,23,24,25] ?_
      iterate 2 refine oG (hok:=by first|exact se|(exact ZM (by omega))|(exact ZM (by simp;omega))|exact sd) ?_
      refine oG ?_;refine oG (hok:=by first|exact se|(exact ZM (by omega))|(exact ZM (by simp;omega))|exact sd) ?_;refine oN ?_;refine nz ?_;refine WI.post ?_;refine WI.dregB tT [5,8,17,18,19,23,24,25] ?_
      iterate 2 refine Zo ?_
      refine YK (hok:=by first|exact se|(exact ZM (by omega))|(exact ZM (by simp;omega))|exact sd) ?_;refine Ym (hok:=by first|exact se|(exact ZM (by omega))|(exact ZM (by simp;omega))|exact sd) ?_;refine Zo ?_;refine YK (hok:=by first|exact se|(exact ZM (by omega))|(exact ZM (by simp;omega))|exact sd) ?_;refine QV (hok:=by first|exact se|(exact ZM (by omega))|(exact ZM (by simp;omega))|exact sd) ?_;refine Ym (hok:=by first|exact se|(exact ZM (by omega))|(exact ZM (by simp;omega))|exact sd) ?_
      iterate 2 refine dAG (hok:=by first|exact se|(exact ZM (by omega))|(exact ZM (by simp;omega))|exact sd) ?_
      refine Zo ?_;refine dP ?_;refine Yo [0,1] ?_;refine JR ?_;refine nz ?_;refine WI.regB tT [5,8,17,18,19,23,24,25] ?_;refine oG (hok:=by first|exact se|(exact ZM (by omega))|(exact ZM (by simp;omega))|exact sd) ?_;refine oS ?_;refine oN ?_;refine nz ?_;exact⟨⟨k+1,rfl,by rw[hsk,←ZKu];first|done|rfl,by omega⟩,by simp[ZK,Ab.get,D.val,ZE];omega⟩
     ·obtain rfl:k=r.length:=by omega
      rw[List.take_length];have hjl:decide ((Lib.join (r.map QU) [43]).length≤140737488355328∧(r.map QU).length≤140737488355328)=true:=ZM ⟨by rw[ZEL];unfold Yy at hpl;omega,by rw[List.length_map];omega⟩;have e1:(r.map QU).length=r.length:=List.length_map ..;have e2:(r.map QU).take r.length=r.map QU:=YL (by omega);have e3:Lib.join (r.map QU) [43]=Yy r:=ZEL 43 _;have uu:=ZA uu (ZA e1 (ZA e2 (ZA hjl e3)));refine WI.post ?_;refine WI.regB tT [5,17,18,19] ?_
      iterate 2 refine oS ?_
      refine oC (hok:=by first|exact se|(exact ZM (by omega))|(exact ZM (by simp;omega))|exact sd) ?_
      iterate 2 refine oG (hok:=by first|exact se|(exact ZM (by omega))|(exact ZM (by simp;omega))|exact sd) ?_
      refine oS ?_;refine oP ?_;refine Yo [0] ?_;refine JR ?_;refine nz ?_;refine WI.orderA [5,17,18,19] ?_;refine WI.regB tT [5,17,18,19] ?_;refine oG (hok:=by first|exact se|(exact ZM (by omega))|(exact ZM (by simp;omega))|exact sd) ?_;refine oS ?_;refine oN ?_;refine nz ?_;exact⟨⟨j+1,rfl,by rw[hst,←ZKu];first|done|rfl,by omega⟩,by simp[ZK,Ab.get,D.val,ZE];omega⟩
   ·obtain rfl:j=d.length:=by omega
    rw[List.take_length];have hnl:=ZZU hck;have hjl:decide ((Lib.join (d.map Yy) [44]).length≤140737488355328∧(d.map Yy).length≤140737488355328)=true:=ZM ⟨by rw[ZEL];unfold ZAp at hnl;omega,by rw[List.length_map];omega⟩;have e1:(d.map Yy).length=d.length:=List.length_map ..;have e2:(d.map Yy).take d.length=d.map Yy:=YL (by omega);have e3:Lib.join (d.map Yy) [44]=ZAp d:=ZEL 44 _;have uu:=ZA uu (ZA e1 (ZA e2 (ZA hjl e3)));refine WI.regB tT [11] ?_;refine oS ?_;refine oC (hok:=by first|exact se|(exact ZM (by omega))|(exact ZM (by simp;omega))|exact sd) ?_;refine oS ?_;refine oN ?_;refine nz ?_;refine WI.regB tT [11,50] ?_;refine oS ?_
    iterate 2 refine oG (hok:=by first|exact se|(exact ZM (by omega))|(exact ZM (by simp;omega))|exact sd) ?_
    refine oN ?_;refine nz ?_;refine cd (fun h3=> ?_) (fun h3=> ?_)
    ·refine WI.regB tT [2,3] ?_
     iterate 2 refine oS ?_
     refine oN ?_;refine nz ?_;refine lf ?_;rw[if_pos (by omega)]at hq;cases hq;rfl
    ·refine WI.regB tT [2,3] ?_
     iterate 3 refine oS ?_
     refine oN ?_;refine nz ?_;refine lf ?_;rw[if_neg (by omega)]at hq;cases hq;rfl
def ZAS:List D→Option (Bool×D)
 | [.x (.sl R)]=>(Zd Ys R).bind fun d=>some (decide (smD d),.tup [.x (.str (ZBR d).1),.x (.int .i64 (ZBR d).2)])
 |_=>none
theorem ZJe: ∀args r,ZAS args=some (true,r)→ZD Tryz.prog 143 args r:=by
 intro args r h;unfold ZAS at h;split at h
 ·rename_i R;obtain⟨d,hr0,h⟩:=Zp h;simp only[Zg,Ze,ZY,Zi,true_and]at h;obtain⟨h1,rfl⟩:=h;rw[←ZR ZCh hr0];exact(ZeL d h1)
 ·cases h
def ZIg:Tabs:=Za (ZW) 182 ZFK
theorem ZR7:SsOk Tryz.prog ZIg:=ZL (ZG) (ZC ZH (p:=ZSm) rfl) ZV9
theorem ZM5 (a:List D):ZIg.q 182 a=ZFK a:=rfl
theorem ZVB (f:FuncId) (a:List D) (o:List Ob):ZIg.r f a o=none:=rfl
theorem ZXP (f:FuncId) (a:List D) (o:List Ob):ZIg.k f a o=none:=rfl
theorem ZMH (r:List Av) (k:Nat) (h:k<r.length):Yy (r.take (k+1))=(if k=0 then []else Yy (r.take k)++ [43])++QU (r.getD k ([],[])):=by
 have e:(r.take (k+1)).map QU=(r.take k).map QU++ [QU (r.getD k ([],[]))]:=by rw[List.take_succ_eq_append_getElem h,List.map_append,show r.getD k ([],[])=r[k] by simp[h]];rfl
 unfold Yy;rw[e];split
 ·rename_i h0;subst h0;simp[jnc]
 ·rw[ZJR _ _ _ (by intro hh;have:=congrArg List.length hh;rw[List.length_map,List.length_take,ξN]at this;omega)]
theorem ZcJ (r:List Av) (hr:Yj r=true):ZD Tryz.prog 157 [.x (.sl (rows Zq r))] (.x (.str (Yy r))):=by
 obtain⟨hr8,-,hpb⟩:=ZAe hr;have hpl: ∀k,(Yy (r.take k)).length≤6800:=fun k=>by
  have:=ZFt 43 840 ((r.take k).map QU) (fun x hx=>by obtain⟨p,hp,rfl⟩:=List.mem_map.1 hx;exact ZNW (hpb p (List.mem_of_mem_take hp)));rw[List.length_map,List.length_take]at this;have h2:min k r.length≤8:=by omega
  unfold Yy;omega
 refine ZN.pure (ZO (fz:=true) ZH (p:=ZSA) rfl _ (ξ rfl) _ (fun C0 E0=> ?_)) rfl;dsimp only[ZSA,qt,qi,qs,qb,qm,qa,qh,qj,qT,qF,qe,ql,qL,qf,q2,q3,q8,qz,qp,qP,qc,qk,qx,qy,qo,qr,qC,ZQ];have uu:=ZA @ZFK.eq_1 (ZA @ZFK.eq_2 (ZA @ZVB (ZA @ZXP (@ZM5))));have tT:=ZR7;refine nz ?_;refine WI.regB tT [0] ?_;refine oS ?_;refine oN ?_;refine nz ?_;refine WI.regB tT [0,3] ?_;refine oS ?_;refine oN ?_;refine nz ?_;refine WI.regB tT [0,3,4] ?_;refine oS ?_;refine oN ?_;refine nz ?_;refine WI.loop (fun φ os=> ∃(k:Nat),φ= [(0,.x (.sl (rows Zq r))),(3,.x (.str (Yy (r.take k)))),(4,.x (.int .i64 k))]∧os= []∧k≤r.length) (ZK r.length 4) ?_ (fun φ os hI=> ?_)
 ·exact⟨0,rfl,rfl,by omega⟩
 ·obtain⟨k,rfl,rfl,hk⟩:=hI;refine nz ?_;refine WI.regB tT [0,3,4,8] ?_
  iterate 2 refine oS ?_
  iterate 2 refine oG (hok:=by first|exact se|(exact ZM (by omega))|(exact ZM (by simp;omega))|exact sd) ?_
  refine oN ?_;refine nz ?_;refine cd (fun h0=> ?_) (fun h0=> ?_)
  ·have hk4:k<r.length:=by omega
   have hlk:=hpl k;have har:=ZBh r k hk4;have hpk:(r.getD k ([],[])).1.length≤64∧(r.getD k ([],[])).2.length≤256:=by rw[show r.getD k ([],[])=r[k] by simp[hk4]];exact hpb _ (List.getElem_mem hk4)
   have hel:=ZB9 (r.getD k ([],[])).2 (r.getD k ([],[])).2.length;have hel2:(ZC4 (r.getD k ([],[])).2).length≤800:=by unfold ZC4;omega
   have hsc:decide ((r.getD k ([],[])).2.length≤1000000)=true:=ZM (by omega);have uu:=ZA uu (ZA har hsc);refine WI.regB tT [0,3,4,12] ?_;refine oS ?_;refine oG (hok:=by first|exact se|(exact ZM (by omega))|(exact ZM (by simp;omega))|exact sd) ?_;refine oN ?_;refine nz ?_;refine cd (fun h1=> ?_) (fun h1=> ?_)
   ·have hst:Yy (r.take (k+1))=Yy (r.take k)++ [43]++(r.getD k ([],[])).1++ [61]++ZC4 (r.getD k ([],[])).2:=by rw[ZMH r k hk4,if_neg (by omega)];unfold QU;simp
    refine WI.regB tT [0,3,4] ?_;refine oS ?_;refine oG (hok:=by first|exact se|(exact ZM (by omega))|(exact ZM (by simp;omega))|exact sd) ?_;refine oS ?_;refine oN ?_;refine nz ?_;refine WI.dregB tT [0,3,4] ?_
    iterate 3 refine Zo ?_
    refine YK (hok:=by first|exact se|(exact ZM (by omega))|(exact ZM (by simp;omega))|exact sd) ?_;refine Zo ?_;refine YK (hok:=by first|exact se|(exact ZM (by omega))|(exact ZM (by simp;omega))|exact sd) ?_
    iterate 2 refine Ym (hok:=by first|exact se|(exact ZM (by omega))|(exact ZM (by simp;omega))|exact sd) ?_
    iterate 2 refine Zo ?_
    refine YK (hok:=by first|exact se|(exact ZM (by omega))|(exact ZM (by simp;omega))|exact sd) ?_;refine Zo ?_;refine YK (hok:=by first|exact se|(exact ZM (by omega))|(exact ZM (by simp;omega))|exact sd) ?_;refine QV (hok:=by first|exact se|(exact ZM (by omega))|(exact ZM (by simp;omega))|exact sd) ?_;refine Ym (hok:=by first|exact se|(exact ZM (by omega))|(exact ZM (by simp;omega))|exact sd) ?_;refine Zo ?_;refine dN ?_;refine nz ?_;refine WI.regB tT [0,3,4] ?_;refine oS ?_;refine oG (hok:=by first|exact se|(exact ZM (by omega))|(exact ZM (by simp;omega))|exact sd) ?_;refine oS ?_;refine oN ?_;refine nz ?_;exact⟨⟨k+1,by rw[hst];first|done|rfl,rfl,by omega⟩,by simp[ZK,Ab.get,D.val,ZE];omega⟩
   ·have hst:Yy (r.take (k+1))=Yy (r.take k)++(r.getD k ([],[])).1++ [61]++ZC4 (r.getD k ([],[])).2:=by
     rw[ZMH r k hk4,if_pos (by omega)];obtain rfl:k=0:=by omega
     unfold QU;simp[Yy,jnc]
    refine WI.dregB tT [0,3,4] ?_
    iterate 3 refine Zo ?_
    refine YK (hok:=by first|exact se|(exact ZM (by omega))|(exact ZM (by simp;omega))|exact sd) ?_;refine Zo ?_;refine YK (hok:=by first|exact se|(exact ZM (by omega))|(exact ZM (by simp;omega))|exact sd) ?_
    iterate 2 refine Ym (hok:=by first|exact se|(exact ZM (by omega))|(exact ZM (by simp;omega))|exact sd) ?_
    iterate 2 refine Zo ?_
    refine YK (hok:=by first|exact se|(exact ZM (by omega))|(exact ZM (by simp;omega))|exact sd) ?_;refine Zo ?_;refine YK (hok:=by first|exact se|(exact ZM (by omega))|(exact ZM (by simp;omega))|exact sd) ?_;refine QV (hok:=by first|exact se|(exact ZM (by omega))|(exact ZM (by simp;omega))|exact sd) ?_;refine Ym (hok:=by first|exact se|(exact ZM (by omega))|(exact ZM (by simp;omega))|exact sd) ?_;refine Zo ?_;refine dN ?_;refine nz ?_;refine WI.regB tT [0,3,4] ?_;refine oS ?_;refine oG (hok:=by first|exact se|(exact ZM (by omega))|(exact ZM (by simp;omega))|exact sd) ?_;refine oS ?_;refine oN ?_;refine nz ?_;exact⟨⟨k+1,by rw[hst];first|done|rfl,rfl,by omega⟩,by simp[ZK,Ab.get,D.val,ZE];omega⟩
  ·refine WI.regB tT [2] ?_
   iterate 2 refine oS ?_
   refine oN ?_;refine nz ?_;refine lf ?_;obtain rfl:k=r.length:=by omega
   rw[List.take_length]
def ZFo:List D→Option (Bool×D)
 | [.x (.sl R)]=>(Zd Zq R).bind fun r=>some (decide (Yj r=true),.x (.str (Yy r)))
 |_=>none
theorem ZXU: ∀args r,ZFo args=some (true,r)→ZD Tryz.prog 157 args r:=by
 intro args r h;unfold ZFo at h;split at h
 ·rename_i R;obtain⟨r,hr0,h⟩:=Zp h;simp only[Zg,Ze,ZY,Zi,true_and]at h;obtain⟨h1,rfl⟩:=h;rw[←ZR ZCx hr0];exact(ZcJ r h1)
 ·cases h
theorem ZL4 (d:Dn) (k:Nat) (h:k<d.length):ZAp (d.take (k+1))=(if k=0 then []else ZAp (d.take k)++ [44])++Yy (d.getD k []):=by
 have e:(d.take (k+1)).map Yy=(d.take k).map Yy++ [Yy (d.getD k [])]:=by rw[List.take_succ_eq_append_getElem h,List.map_append,show d.getD k []=d[k] by simp[h]];rfl
 unfold ZAp;rw[e];split
 ·rename_i h0;subst h0;simp[jnc]
 ·rw[ZJR _ _ _ (by intro hh;have:=congrArg List.length hh;rw[List.length_map,List.length_take,ξN]at this;omega)]
def ZFX:Tabs:=Za (Za (ZW) 160 ZBC) 157 ZFo
theorem ZTC:SsOk Tryz.prog ZFX:=ZL (ZL (ZG) (ZC ZH (p:=ZNF) rfl) ZML) (ZC ZH (p:=ZSA) rfl) ZXU
theorem ZO4 (a:List D):ZFX.q 160 a=ZBC a:=rfl
theorem ZNf (a:List D):ZFX.q 157 a=ZFo a:=rfl
theorem ZWR (f:FuncId) (a:List D) (o:List Ob):ZFX.r f a o=none:=rfl
theorem ZVd (f:FuncId) (a:List D) (o:List Ob):ZFX.k f a o=none:=rfl
theorem ZdF (d:Dn) (hb:smD d) (hld:d.length≤1000000) (hlr: ∀r∈d,r.length≤1000000):ZD Tryz.prog 145 [.x (.sl (rows Ys d))] (.tup [.x (.str (ZBR d).1),.x (.int .i64 (ZBR d).2)]):=by
 rcases hq:ZBR d with⟨u,e⟩
 unfold ZBR at hq;have hsd:(decide (smD d)&&(decide (d.length≤1000000)&&decide (∀r∈d,r.length≤1000000)))=true:=by rw[ZM hb,ZM hld,ZM hlr];rfl
 refine ZN.pure (ZO (fz:=true) ZH (p:=ZNG) rfl _ (ξ rfl) _ (fun C0 E0=> ?_)) rfl;dsimp only[ZNG,qt,qi,qs,qb,qm,qa,qh,qj,qT,qF,qe,ql,qL,qf,q2,q3,q8,qz,qp,qP,qc,qk,qx,qy,qo,qr,qC,ZQ];have uu:=ZA @ZBC.eq_1 (ZA @ZBC.eq_2 (ZA @ZFo.eq_1 (ZA @ZFo.eq_2 (ZA @ZH7 (ZA @ZLQ (ZA hsd (ZA @ZWR (ZA @ZVd (ZA @ZNf (@ZO4))))))))));have tT:=ZTC;refine nz ?_;refine WI.regB tT [0] ?_
 iterate 2 refine oS ?_
 refine oN ?_;refine nz ?_;refine WI.regB tT [0,4] ?_;refine oS ?_;refine oC (hok:=by first|exact se|(exact ZM (by omega))|(exact ZM (by simp;omega))|exact sd) ?_;refine oS ?_;refine oN ?_;refine nz ?_;refine WI.regB tT [0,4,10] ?_;refine oS ?_;refine oG (hok:=by first|exact se|(exact ZM (by omega))|(exact ZM (by simp;omega))|exact sd) ?_;refine oN ?_;refine nz ?_;refine cd (fun h0=> ?_) (fun h0=> ?_)
 ·refine WI.regB tT [2,3] ?_
  iterate 3 refine oS ?_
  refine oN ?_;refine nz ?_;refine lf ?_;rw[if_pos (by simpa using h0)]at hq;cases hq;rfl
 ·rw[if_neg (by simpa using h0)]at hq;have hck:KH d=0:=by simpa using h0
  obtain⟨hd32,hmay⟩:=ZF2 hck;have hpl: ∀k,(ZAp (d.take k)).length≤250000:=fun k=>by
   have:=ZFt 44 6800 ((d.take k).map Yy) (fun x hx=>by obtain⟨p,hp,rfl⟩:=List.mem_map.1 hx;exact ZGg (hmay p (List.mem_of_mem_take hp)));rw[List.length_map,List.length_take]at this;have h2:min k d.length≤32:=by omega
   unfold ZAp;omega
  refine WI.regB tT [0,5] ?_;refine oS ?_;refine oN ?_;refine nz ?_;refine WI.regB tT [0,5,6] ?_;refine oS ?_;refine oN ?_;refine nz ?_;refine WI.loop (fun φ os=> ∃(k:Nat),φ= [(0,.x (.sl (rows Ys d))),(5,.x (.str (ZAp (d.take k)))),(6,.x (.int .i64 k))]∧os= []∧k≤d.length) (ZK d.length 6) ?_ (fun φ os hI=> ?_)
  ·exact⟨0,rfl,rfl,by omega⟩
  ·obtain⟨k,rfl,rfl,hk⟩:=hI;refine nz ?_;refine WI.regB tT [0,5,6,15] ?_
   iterate 2 refine oS ?_
   iterate 2 refine oG (hok:=by first|exact se|(exact ZM (by omega))|(exact ZM (by simp;omega))|exact sd) ?_
   refine oN ?_;refine nz ?_;refine cd (fun h1=> ?_) (fun h1=> ?_)
   ·have hk4:k<d.length:=by omega
    have hlk:=hpl k;have hrow:=ZFU d k hk4;have hmk:Yj (d.getD k [])=true:=by rw[show d.getD k []=d[k] by simp[hk4]];exact hmay _ (List.getElem_mem hk4)
    have hpk:=ZGg hmk;have uu:=ZA uu (ZA hrow (ZM hmk));refine WI.regB tT [0,5,6,19] ?_;refine oS ?_;refine oG (hok:=by first|exact se|(exact ZM (by omega))|(exact ZM (by simp;omega))|exact sd) ?_;refine oN ?_;refine nz ?_;refine cd (fun h2=> ?_) (fun h2=> ?_)
    ·have hst:ZAp (d.take (k+1))=ZAp (d.take k)++ [44]++Yy (d.getD k []):=by rw[ZL4 d k hk4,if_neg (by omega)]
     refine WI.regB tT [0,5,6] ?_;refine oS ?_;refine oG (hok:=by first|exact se|(exact ZM (by omega))|(exact ZM (by simp;omega))|exact sd) ?_;refine oS ?_;refine oN ?_;refine nz ?_;refine WI.regB tT [0,5,6] ?_
     iterate 3 refine oS ?_
     iterate 2 refine oG (hok:=by first|exact se|(exact ZM (by omega))|(exact ZM (by simp;omega))|exact sd) ?_
     refine oC (hok:=by first|exact se|(exact ZM (by omega))|(exact ZM (by simp;omega))|exact sd) ?_;refine oG (hok:=by first|exact se|(exact ZM (by omega))|(exact ZM (by simp;omega))|exact sd) ?_;refine oS ?_;refine oN ?_;refine nz ?_;refine WI.regB tT [0,5,6] ?_;refine oS ?_;refine oG (hok:=by first|exact se|(exact ZM (by omega))|(exact ZM (by simp;omega))|exact sd) ?_;refine oS ?_;refine oN ?_;refine nz ?_;exact⟨⟨k+1,by rw[hst];first|done|rfl,rfl,by omega⟩,by simp[ZK,Ab.get,D.val,ZE];omega⟩
    ·have hst:ZAp (d.take (k+1))=ZAp (d.take k)++Yy (d.getD k []):=by
      rw[ZL4 d k hk4,if_pos (by omega)];obtain rfl:k=0:=by omega
      simp[ZAp,jnc]
     refine WI.regB tT [0,5,6] ?_
     iterate 3 refine oS ?_
     iterate 2 refine oG (hok:=by first|exact se|(exact ZM (by omega))|(exact ZM (by simp;omega))|exact sd) ?_
     refine oC (hok:=by first|exact se|(exact ZM (by omega))|(exact ZM (by simp;omega))|exact sd) ?_;refine oG (hok:=by first|exact se|(exact ZM (by omega))|(exact ZM (by simp;omega))|exact sd) ?_;refine oS ?_;refine oN ?_;refine nz ?_;refine WI.regB tT [0,5,6] ?_;refine oS ?_;refine oG (hok:=by first|exact se|(exact ZM (by omega))|(exact ZM (by simp;omega))|exact sd) ?_;refine oS ?_;refine oN ?_;refine nz ?_;exact⟨⟨k+1,by rw[hst];first|done|rfl,rfl,by omega⟩,by simp[ZK,Ab.get,D.val,ZE];omega⟩
   ·obtain rfl:k=d.length:=by omega
    have hlk:=hpl d.length;rw[List.take_length]at hlk⊢;refine WI.regB tT [5,31] ?_;refine oS ?_
    iterate 2 refine oG (hok:=by first|exact se|(exact ZM (by omega))|(exact ZM (by simp;omega))|exact sd) ?_
    refine oN ?_;refine nz ?_;refine cd (fun h3=> ?_) (fun h3=> ?_)
    ·refine WI.regB tT [2,3] ?_
     iterate 2 refine oS ?_
     refine oN ?_;refine nz ?_;refine lf ?_;rw[if_pos (by omega)]at hq;cases hq;rfl
    ·refine WI.regB tT [2,3] ?_
     iterate 3 refine oS ?_
     refine oN ?_;refine nz ?_;refine lf ?_;rw[if_neg (by omega)]at hq;cases hq;rfl
def ZEo:List D→Option (Bool×D)
 | [.x (.sl R)]=>(Zd Ys R).bind fun d=>some (decide (smD d)&&(decide (d.length≤1000000)&&(decide (∀r∈d,r.length≤1000000))),.tup [.x (.str (ZBR d).1),.x (.int .i64 (ZBR d).2)])
 |_=>none
theorem ZOd: ∀args r,ZEo args=some (true,r)→ZD Tryz.prog 145 args r:=by
 intro args r h;unfold ZEo at h;split at h
 ·rename_i R;obtain⟨d,hr0,h⟩:=Zp h;simp only[Zg,Ze,ZY,Zi,true_and]at h;obtain⟨⟨h1,h2,h3⟩,rfl⟩:=h;rw[←ZR ZCh hr0];exact(ZdF d h1 h2 h3)
 ·cases h
theorem bl_irr: ∀a,Op.bytesLess a a=false
 | []=>rfl
 |x::a=>by rw[Op.bytesLess,bl_irr a];simp
theorem ZLY: ∀a b,Op.bytesLess a b=true→Op.bytesLess b a=false
 |_,[],h=>by simp[Op.bytesLess]at h
 | [],_::_,_=>by simp[Op.bytesLess]
 |x::a,y::b,h=>by
  rw[Op.bytesLess,Bool.or_eq_true,ZY,Zi,beq_iff_eq]at h;rw[Op.bytesLess,Bool.or_eq_false_iff,Bool.and_eq_false_imp,decide_eq_false_iff_not,beq_iff_eq];rcases h with h|⟨rfl,h⟩
  ·exact⟨UInt8.lt_asymm h,fun e=>by subst e;exact absurd h (UInt8.lt_irrefl _)⟩
  ·exact⟨UInt8.lt_irrefl _,fun _=>ZLY a b h⟩
theorem bl_trans: ∀a b c,Op.bytesLess a b=true→Op.bytesLess b c=true→Op.bytesLess a c=true
 |_,[],_,h,_=>by simp[Op.bytesLess]at h
 |_,_::_,[],_,h=>by simp[Op.bytesLess]at h
 | [],_::_,_::_,_,_=>by simp[Op.bytesLess]
 |x::a,y::b,z::c,h,k=>by
  rw[Op.bytesLess,Bool.or_eq_true,ZY,Zi,beq_iff_eq]at h k⊢;rcases h with h|⟨rfl,h⟩<;>rcases k with k|⟨rfl,k⟩
  ·exact .inl (UInt8.lt_trans h k)
  ·exact .inl h
  ·exact .inl k
  ·exact .inr ⟨rfl,bl_trans a b c h k⟩
theorem bl_tot: ∀a b,a≠b→Op.bytesLess a b=true∨Op.bytesLess b a=true
 | [],[],h=>absurd rfl h
 |_::_,[],_=> .inr (by simp[Op.bytesLess])
 | [],_::_,_=> .inl (by simp[Op.bytesLess])
 |x::a,y::b,h=>by
  simp only[Op.bytesLess,Bool.or_eq_true,ZY,Zi,beq_iff_eq];by_cases e:x=y
  ·subst e;rcases bl_tot a b (fun k=>h (by rw[k]))with k|k
   ·exact .inl (.inr ⟨rfl,k⟩)
   ·exact .inr (.inr ⟨rfl,k⟩)
  ·rcases UInt8.lt_or_lt_of_ne e with k|k
   ·exact .inl (.inl k)
   ·exact .inr (.inl k)
end Go.Proofs.YtpjfdjcejamebaaGreatDoor
end
section
namespace Go.Proofs
open Go.Shelf Go.RowKit Go.Lib Go.Sort
def encAv (x:ByteArray×ByteArray):List Value:= [.string x.1,.string x.2]
def ZNO (a b:ByteArray):Int:=if Op.bytesLess a.toList b.toList=true then-1 else if Op.bytesLess b.toList a.toList=true then 1 else 0
def cmpAv (x y:ByteArray×ByteArray):Int:=ZNO x.1 y.1
theorem ZXj (s:ByteArray) (W:World):Calls Tryz.prog 135 #[.string s] W fun e w'=>e= .returned (.bool false)∧w'=W:=by
 go_enter Tryz.func135,Tryz.ntmps135
 go_wp2
 go_ret
 exact⟨by simp,rfl⟩
theorem Zd2 (a b:ByteArray) (W:World):Calls Tryz.prog 101 #[.string a,.string b] W fun e w'=>e= .returned (.int .i64 (ZNO a b))∧w'=W:=by
 go_enter Tryz.func101,Tryz.ntmps101
 go_wp2_with (go_at_call 135;refine(ZXj _ _).mono ?_;rintro e w' ⟨rfl,hw⟩;rw[hw])
 all_goals(go_ret;refine⟨?_,rfl⟩;unfold ZNO;(repeat' split)<;>first|rfl|(exfalso;simp_all;done)|(exfalso;rcases YtpjfdjcejamebaaGreatDoor.bl_tot a.toList b.toList (by simp_all)with hh|hh<;>simp_all))
theorem ltAv (x y:ByteArray×ByteArray):ltOf cmpAv x y=Op.bytesLess x.1.toList y.1.toList:=by
 unfold ltOf cmpAv ZNO;cases h:Op.bytesLess x.1.toList y.1.toList<;>cases h2:Op.bytesLess y.1.toList x.1.toList<;>simp
theorem swoAv:SWO (ltOf cmpAv) where
 irrefl x:=by rw[ltAv];exact YtpjfdjcejamebaaGreatDoor.bl_irr _
 trans x y z h1 h2:=by rw[ltAv]at*;exact YtpjfdjcejamebaaGreatDoor.bl_trans _ _ _ h1 h2
 ntrans x y z h1 h2:=by
  rw[ltAv]at*;cases h:Op.bytesLess x.1.toList z.1.toList with
  |false=>rfl
  |true=>
   by_cases e1:x.1.toList=y.1.toList
   ·rw[e1]at h;rw[h]at h2;cases h2
   ·rcases YtpjfdjcejamebaaGreatDoor.bl_tot _ _ e1 with h3|h3
    ·rw[h3]at h1;cases h1
    ·have:=YtpjfdjcejamebaaGreatDoor.bl_trans _ _ _ h3 h;rw[this]at h2;cases h2
theorem ZdV (x y:ByteArray×ByteArray) (W:World):Calls Tryz.prog 142 #[.agg #[.string x.1,.string x.2],.agg #[.string y.1,.string y.2]] W fun e w'=>e= .returned (.int .i64 (cmpAv x y))∧ ∃q os',w'=grow (W.drewN q) os':=by
 have hcon:=fun W'=>Zd2 x.1 y.1 W'
 unfold cmpAv;generalize ZNO x.1 y.1=r at hcon⊢
 go_enter Tryz.func142,Tryz.ntmps142
 go_wp2_with (go_at_call 101;refine(hcon _).mono ?_;rintro e w' ⟨rfl,rfl⟩)
 go_ret
 exact⟨rfl,0,_,by rw[alloc_eq_grow,alloc_eq_grow,grow_grow];rfl⟩
theorem cmpLaysAv (blk off size:Nat) (w:World):CmpLays Tryz.prog 142 #[] encAv 2 cmpAv blk off size w:=fun _ _ _ _ x y=>ZdV x y _
theorem ZTS {α:Type} [Inhabited α] (enc:α→List Value) (k:Nat) {w:World} {g n:Nat} {os:Array Obj} {cur:Array Value} {e:TypeId} {fr:Nat×Nat} (d:Array α) (hb:w.heap[g]? =some (.cells cur e fr)):
  (sortWorldK enc k w g 0 n d os).heap[g]? =some (.cells (putCells id 0 (flatK enc k d) cur) e fr):=by
 have hg:g<w.heap.size:=(Ql hb).1;unfold sortWorldK putRowK;rw[heap_grow_old _ _ (by simpa using hg)];simp[putRow,mapBlock,Sort.ahead,Array.getElem?_modify,hb,onCells]
theorem grown_sortK {α:Type} [Inhabited α] (enc:α→List Value) (k:Nat) {w:World} {g n:Nat} {os:Array Obj} (d:Array α):w.grownBy (sortWorldK enc k w g 0 n d os) (some g):=by
 unfold sortWorldK putRowK;refine⟨rfl,rfl,rfl,by simp,fun k hk hne=> ?_⟩;rw[heap_grow_old _ _ (by simpa using hk)];have:g≠k:=fun e=>hne (by rw[e])
 simp[putRow,mapBlock,Sort.ahead,Array.getElem?_modify,this]
theorem ZUN (cur F:Array Value) (h:F.size≤cur.size):(putCells id 0 F cur).toList.take F.size=F.toList:=by
 apply List.ext_getElem?;intro j;by_cases hj:j<F.size
 ·rw[List.getElem?_take_of_lt hj,Array.getElem?_toList,Array.getElem?_toList];simp[putCells,hj,show j<cur.size by omega]
 ·rw[List.getElem?_take_eq_none (by omega),List.getElem?_eq_none (by simp;omega)]
theorem own_sortK {α:Type} [Inhabited α] (enc:α→List Value) (k:Nat) {w:World} {g n cap:Nat} {e:TypeId} {os:Array Obj} {cur:Array Value} {d:Array α} {m:Nat} (hm:d.size=m) (hb:w.heap[g]? =some (.cells cur e (0,0))) (h1:m≤cap) (h2:cap≤maxLen) (h3:cur.size=cap*k):
  (sortWorldK enc k w g 0 n d os).ownsRow 0 e k (.slice (some ⟨g,0,none⟩) m cap) m (flatK enc k d).toList:=by
 subst hm;have hle:d.size*k≤cap*k:=Nat.mul_le_mul_right _ h1;exact⟨by simp,.inr ⟨g,cap,_,rfl,Nat.zero_le _,ZTS enc k d hb,h1,h2,by simp[putCells,h3],by
  have:=ZUN cur (flatK enc k d) (by simp;omega);rwa [size_flatK]at this⟩⟩
end Go.Proofs
end
section
namespace Go.Proofs.YtpjfdjcejamebaaGreatDoor
open Go.RowKit Go.Bo Go.Ab
def ZA5 (p:Av):List Av→List Av
 | []=> [p]
 |q::o=>if Op.bytesLess q.1 p.1=true then q::ZA5 p o else p::q::o
def Ky (r:List Av):List Av:=r.foldl (fun o p=>ZA5 p o) []
theorem ZHM (p:Av): ∀o,(ZA5 p o).Perm (p::o)
 | []=>List.Perm.refl _
 |q::o=>by
  unfold ZA5;split
  ·exact((ZHM p o).cons q).trans (List.Perm.swap p q o)
  ·exact List.Perm.refl _
theorem ZKZ: ∀(r o:List Av),(r.foldl (fun o p=>ZA5 p o) o).Perm (r++o)
 | [],o=>List.Perm.refl _
 |p::r,o=>by
  rw[List.foldl_cons];exact(ZKZ r _).trans (((ZHM p o).append_left r).trans List.perm_middle)
theorem ZCs (r:List Av):(Ky r).Perm r:=by have:=ZKZ r [];rwa [List.append_nil]at this
theorem ZGx (r:List Av):(Ky r).length=r.length:=(ZCs r).length_eq
theorem ZW1 (r:List Av) (p:Av):Ky (r++ [p])=ZA5 p (Ky r):=by unfold Ky;rw[List.foldl_append];rfl
theorem ZMY (a b c:Tx) (h1:Op.bytesLess a b=false) (h2:Op.bytesLess b c=false):Op.bytesLess a c=false:=by
 cases h:Op.bytesLess a c with
 |false=>rfl
 |true=>
  by_cases e1:a=b
  ·subst e1;rw[h]at h2;cases h2
  ·rcases bl_tot _ _ e1 with h3|h3
   ·rw[h3]at h1;cases h1
   ·have:=bl_trans _ _ _ h3 h;rw[this]at h2;cases h2
abbrev SrA (l:List Av):Prop:=l.Pairwise fun a b=>Op.bytesLess b.1 a.1=false
theorem ZI3 (p:Av): ∀o,SrA o→SrA (ZA5 p o)
 | [],_=>List.pairwise_singleton _ _
 |q::o,h=>by
  obtain⟨h1,h2⟩:=List.pairwise_cons.1 h;unfold ZA5;split
  ·rename_i hl;refine List.pairwise_cons.2 ⟨fun x hx=> ?_,ZI3 p o h2⟩;rcases List.mem_cons.1 ((ZHM p o).mem_iff.1 hx)with rfl|hx
   ·exact ZLY _ _ hl
   ·exact h1 x hx
  ·rename_i hl;have hl:Op.bytesLess q.1 p.1=false:=by simpa using hl
   refine List.pairwise_cons.2 ⟨fun x hx=> ?_,h⟩;rcases List.mem_cons.1 hx with rfl|hx
   ·exact hl
   ·exact ZMY _ _ _ (h1 x hx) hl
theorem ZHj: ∀(r o:List Av),SrA o→SrA (r.foldl (fun o p=>ZA5 p o) o)
 | [],o,h=>h
 |p::r,o,h=>by rw[List.foldl_cons];exact ZHj r _ (ZI3 p o h)
theorem ZQJ (r:List Av):SrA (Ky r):=ZHj r [] List.Pairwise.nil
theorem ZcC {r l:List Av} (hp:l.Perm r) (hs:SrA l) (hn:(r.map (·.1)).Nodup):l=Ky r:=by
 refine List.Perm.eq_of_pairwise (le:=fun a b=>Op.bytesLess b.1 a.1=false) (fun a b ha hb h1 h2=> ?_) hs (ZQJ r) (hp.trans (ZCs r).symm);have ha':=hp.mem_iff.1 ha;have hb':=(ZCs r).mem_iff.1 hb;have he:a.1=b.1:=Classical.byContradiction fun hne=>by
  rcases bl_tot _ _ hne with h|h
  ·rw[h]at h2;cases h2
  ·rw[h]at h1;cases h1
 obtain⟨i,hi,rfl⟩:=List.getElem_of_mem ha';obtain⟨j,hj,rfl⟩:=List.getElem_of_mem hb';have key: ∀(i j:Nat) (hi:i<r.length) (hj:j<r.length),i<j→r[i].1≠r[j].1:=fun i j hi hj hij=>by
  have:=List.pairwise_iff_getElem.1 hn i j (by simpa using hi) (by simpa using hj) hij;simpa using this
 have:i=j:=by
  rcases Nat.lt_trichotomy i j with h|h|h
  ·exact absurd he (key i j hi hj h)
  ·exact h
  ·exact absurd he.symm (key j i hj hi h)
 subst this;rfl
def bsA (p:Av):ByteArray×ByteArray:=(Zc p.1,Zc p.2)
theorem ZeX (x:ByteArray×ByteArray):bsA (x.1.toList,x.2.toList)=x:=by
 have key: ∀b:ByteArray,Zc b.toList=b:=fun b=>by
  unfold Zc;rw[ByteArray.toList_eq]
 unfold bsA;rw[key,key]
theorem Zdt (r:List Av) (hn:(r.map (·.1)).Nodup) (d':Array (ByteArray×ByteArray)) (hp:Sort.PermIn 0 r.length (r.map bsA).toArray d') (hs:Sort.SortedIn (Go.Proofs.ltOf Go.Proofs.cmpAv) 0 r.length d'):d'=((Ky r).map bsA).toArray:=by
 obtain⟨hsz,-,hpm⟩:=hp;have hsz':d'.size=r.length:=by rw[hsz];simp
 have hex:(d'.extract 0 r.length).toList=d'.toList:=by rw[←hsz'];simp
 have hex2:((r.map bsA).toArray.extract 0 r.length).toList=r.map bsA:=by simp[YL]
 rw[hex,hex2]at hpm;have hl:d'.toList=(d'.toList.map fun x=>(x.1.toList,x.2.toList)).map bsA:=by
  rw[List.map_map]
  conv=>lhs;rw[←List.map_id d'.toList]
  exact List.map_congr_left fun x _=>(ZeX x).symm
 have hperm:(d'.toList.map fun x=>(x.1.toList,x.2.toList)).Perm r:=by
  have:=hpm.map fun x:ByteArray×ByteArray=>(x.1.toList,x.2.toList)
  rw[List.map_map]at this;have e:(r.map ((fun x:ByteArray×ByteArray=>(x.1.toList,x.2.toList))∘bsA))=r:=by
   conv=>rhs;rw[←List.map_id r]
   exact List.map_congr_left fun p _=>by simp[bsA,Jl]
  rwa [e]at this
 have hsr:SrA (d'.toList.map fun x=>(x.1.toList,x.2.toList)):=by
  show List.Pairwise _ _;rw[List.pairwise_map,List.pairwise_iff_getElem];intro i j hi hj hij;have:=hs i j (Nat.zero_le _) hij (by rw[←hsz'];simpa using hj);rw[Go.Proofs.ltAv]at this;simp at hi hj;simp only[getElem!_pos d' i hi,getElem!_pos d' j hj]at this;simpa using this
 apply Array.toList_inj.1;rw[hl,ZcC hperm hsr hn]
theorem ZQw (r:List Av) (i:Nat) (hi:i<r.length):(Go.Sort.flatK Go.Proofs.encAv 2 (r.map bsA).toArray).toList[i*2]? =some (Value.string (Zc r[i].1))∧(Go.Sort.flatK Go.Proofs.encAv 2 (r.map bsA).toArray).toList[i*2+1]? =some (Value.string (Zc r[i].2)):=by
 have e1:i*2/2=i:=by omega
 have e2:(i*2+1)/2=i:=by omega
 have e3:i*2 % 2=0:=by omega
 have e4:(i*2+1) % 2=1:=by omega
 have hg:(r.map bsA)[i]! =bsA r[i]:=by rw[getElem!_pos _ i (by simpa using hi)];simp
 constructor
 ·simp[Go.Sort.flatK,show i*2<r.length*2 by omega,e1,e3,hg,Go.Proofs.encAv,bsA,hi]
 ·simp[Go.Sort.flatK,show i*2+1<r.length*2 by omega,e2,e4,hg,Go.Proofs.encAv,bsA,hi]
set_option maxHeartbeats 1000000 in
theorem Zev (e:Nat) (r:List Av) (hn:(r.map (·.1)).Nodup) (hne:r≠ []) (hl:r.length≤1000000) (lim:Nat) (hlim:lim≤64):ZV Tryz.prog 175 [.ref 0 r.length 0 r.length,.x (.int .i64 0),.x (.int .i64 r.length),.x (.int .i64 lim),.fn 142 []] [.rows false e 2 (rows Zq r)] (.tup []) [.rows false e 2 (rows Zq (Ky r))]:=by
 intro c E vs R hvl;obtain⟨hsz,hv⟩:=hvl;obtain⟨v0,v1,v2,v3,v4,rfl⟩: ∃v0 v1 v2 v3 v4,vs= #[v0,v1,v2,v3,v4]:=by
  obtain⟨vl⟩:=vs
  match vl,hsz with
  | [a,b,c,d,e],_=>exact⟨a,b,c,d,e,rfl⟩
 have h0:=hv 0 _ v0 rfl rfl;have h1:=hv 1 _ v1 rfl rfl;have h2:=hv 2 _ v2 rfl rfl;have h3:=hv 3 _ v3 rfl rfl;have h4:=hv 4 _ v4 rfl rfl;clear hv hsz;obtain rfl:v1= .int .i64 0:=by cases h1 with|x h=>cases h;rfl
 obtain rfl:v2= .int .i64 r.length:=by cases h2 with|x h=>cases h;rfl
 obtain rfl:v3= .int .i64 lim:=by cases h3 with|x h=>cases h;rfl
 obtain rfl:v4= .func (.func 142) #[] #[]:=by
  cases h4 with
  |fn vs hl _=>rw[show vs= #[]from Array.eq_empty_of_size_eq_zero hl.symm]
 clear h1 h2 h3 h4;have hlen:(rows Zq r).length=r.length:=YE _ _;cases h0 with
 |ref hr _=>
  have ho: [Ob.rows false e 2 (rows Zq r)][0]? =some (Ob.rows false e 2 (rows Zq r)):=rfl;obtain⟨k1,k2⟩:=hr.at ho rfl;obtain⟨k3,b,a,cap,a',cap',k4,rfl,k6,k7,k8,k9,k10,k11⟩:=k2 hlen;obtain⟨rfl,rfl⟩:=k8 rfl;obtain⟨p,hp,hok⟩:=R.at ho;rw[hp]at k4;have hpb:p=(b,.slice a' r.length cap'):=Option.some.inj k4;subst hpb;have hpos:0<r.length:=List.length_pos_iff.2 hne;obtain⟨xs,⟨q1,q2⟩,q3,q4⟩:=hok;rcases q2 with⟨q2,q5⟩|⟨g,cp,cells,fr,q5,q6,q7,q8,q9,q10,q11⟩
  ·rw[hlen]at q5;omega
  ·simp only[Value.slice.injEq]at q5;obtain⟨rfl,_,rfl⟩:=q5;rw[hlen]at q10 q7 q1;have hfr:fr=(0,0):=by
    rcases q11 with q11|⟨q11,_⟩
    ·exact q11
    ·cases q11
   subst hfr;have hxs:xs=(Go.Sort.flatK Go.Proofs.encAv 2 (r.map bsA).toArray).toList:=by
    apply List.ext_getElem (by rw[q1];simp);intro t ht ht2;have htr:t/2<r.length:=by rw[q1]at ht;omega
    obtain⟨f1,f2⟩:=ZQw r (t/2) htr;have hrw:(rows Zq r)[t/2]? =some [X.str r[t/2].1,X.str r[t/2].2]:=by simp[rows,htr,Zq]
    apply Option.some.inj;rw[←YC ht2];rcases Nat.mod_two_eq_zero_or_one t with hm|hm
    ·have et:t/2*2=t:=by omega
     rw[et]at f1;rw[f1];have:=q4 (t/2) _ 0 (.str r[t/2].1) xs[t] hrw rfl (by rw[Nat.add_zero,et];exact YC ht);generalize xs[t]=u at this⊢;cases this;rfl
    ·have et:t/2*2+1=t:=by omega
     rw[et]at f2;rw[f2];have:=q4 (t/2) _ 1 (.str r[t/2].2) xs[t] hrw rfl (by rw[et];exact YC ht);generalize xs[t]=u at this⊢;cases this;rfl
   have hglt:=(Ql q6).1;have hds:(r.map bsA).toArray.size=r.length:=by simp
   have hH:Go.Sort.HoldsK Go.Proofs.encAv 2 E.w g 0 (r.map bsA).toArray:=by
    intro j hj;rw[Go.Sort.size_flatK,hds]at hj;have hjx:cells.toList[j]? =xs[j]? :=by rw[←q10,List.getElem?_take_of_lt hj]
    refine⟨?_,by simp[World.frozen?,q6]⟩;simp only[World.cell?,q6,Option.isSome_none,Bool.false_eq_true,if_false,Nat.zero_add];rw[←Array.getElem?_toList,hjx,hxs,Array.getElem?_toList];have hjs:j<(Go.Sort.flatK Go.Proofs.encAv 2 (r.map bsA).toArray).size:=by rw[Go.Sort.size_flatK,hds];exact hj
    rw[Array.getElem?_eq_getElem hjs,getElem!_pos _ j hjs];rfl
   have eg: ∀args w,(callFunc 142 args).run Tryz.prog w= .ok (.enter 142 args) w:=Go.Proofs.enters_of Tryz.func142 (by kernel_rfl) rfl;have hk2: ∀x,(Go.Proofs.encAv x).length=2:=fun _=>rfl
   have h11: ∀x,∀v∈Go.Proofs.encAv x,v.oneCell'=true:=fun x v hv=>by simp[Go.Proofs.encAv]at hv;rcases hv with rfl|rfl<;>rfl
   have:=Go.Proofs.AnyQ.pdqsortCmpFunc_all Tryz.pdqAva 2 (by exact Tryz.isAgg161) (by exact Tryz.sizeOf161) Go.Proofs.encAv Go.Proofs.cmpAv 142 #[] Go.Proofs.swoAv g 0 cap' (r.map bsA).toArray E.w eg (Go.Proofs.cmpLaysAv g 0 _ E.w) ⟨hk2,h11,hH,hglt⟩ (r.length+1) 0 r.length lim (r.map bsA).toArray E.w (by omega) rfl (Go.Proofs.SWK.start hH) (Nat.zero_le _) (by rw[hds];exact Nat.le_refl _) (by rw[hds];omega) (by omega) (Or.inl rfl);rw[hds]at this;refine this.mono ?_;rintro _ w' ⟨rfl,nn,oss,rfl⟩;have hps:=Go.Sort.pdq_sorts (Go.Proofs.ltOf Go.Proofs.cmpAv) Go.Proofs.swoAv (r.map bsA).toArray 0 r.length lim true true (Nat.zero_le _) (by rw[hds];exact Nat.le_refl _) (Or.inl rfl);have hd':=Zdt r hn _ hps.1 hps.2;rw[hd'];have hown:=Go.Proofs.own_sortK (n:=nn) (os:=oss) Go.Proofs.encAv 2 (d:=((Ky r).map bsA).toArray) (m:=r.length) (by simp[ZGx]) q6 q7 q8 q9;have hg:=Go.Proofs.grown_sortK (n:=nn) (os:=oss) (w:=E.w) (g:=g) Go.Proofs.encAv 2 ((Ky r).map bsA).toArray;have hls:(rows Zq (Ky r)).length=r.length:=by rw[YE,ZGx]
   obtain⟨R',ev⟩:=R.set ho hp _ (.rows false e 2 (rows Zq (Ky r))) (b,.slice (some ⟨g,0,none⟩) r.length cap') ⟨hg.os,hg.tape,hg.output,hg.size,fun k hk hm=>hg.block k hk (fun e=>hm (by cases e;rfl))⟩ (fun b' hb'=> .inl hb') (fun sz rs1 h=>by
     simp only[Ob.sl?,Zg,Ze]at h;obtain⟨rfl,rfl⟩:=h;exact⟨(rows Zq (Ky r)).length,rfl,.inl ⟨by rw[hls,hlen],rfl⟩⟩) (fun k h=>by cases h) (fun ev=>by
     refine⟨_,by rw[hls];exact KL.of_owns hown false,fun z hz=> ?_,fun i z j x v h1 h2 h3=> ?_⟩
     ·obtain⟨q,_,rfl⟩:=List.mem_map.1 hz;rfl
     ·unfold rows at h1;rw[YA]at h1;obtain⟨q,hq,rfl⟩:=Zh h1;have hi:=(Zf hq).1;obtain⟨f1,f2⟩:=ZQw (Ky r) i hi;have hqe:(Ky r)[i]=q:=(Zf hq).2;rw[hqe]at f1 f2
      match j with
      |0=>
       simp only[Zq,List.getElem?_cons_zero,Zg]at h2;subst h2;rw[Nat.add_zero,f1]at h3;cases h3;exact .str _
      |1=>
       simp only[Zq,List.getElem?_cons_zero,List.getElem?_cons_succ,Zg]at h2;subst h2;rw[f2]at h3;cases h3;exact .str _
      |j+2=>simp[Zq]at h2)
   exact⟨_,_,rfl,rfl,R',ev,.tup #[] rfl (fun j d v h=>by simp at h)⟩
theorem ZVR (n:Nat) (h:n≤1000000):ZD Tryz.prog 113 [.x (.int .u64 n)] (.x (.int .i64 (Lib.bitLen n))):=by
 intro w st vs hst hvl;obtain⟨hsz,hv⟩:=hvl;obtain⟨v0,rfl⟩: ∃v0,vs= #[v0]:=by
  obtain⟨vl⟩:=vs
  match vl,hsz with
  | [a],_=>exact⟨a,rfl⟩
 have h0:=hv 0 _ v0 rfl rfl;obtain rfl:v0= .int .u64 n:=by cases h0 with|x h=>cases h;rfl
 have:=Tryz.bits_Len (n:Int) w (by omega) (by omega);rw[Int.toNat_natCast]at this;refine this.mono ?_;rintro e w' ⟨rfl,rfl⟩;exact⟨_,st,rfl,Kept.refl _ _,fun _ _ h=>h,fun _ _ h=> .inl h,.x (.int _ _)⟩
def ZEN:List D→Option (Bool×D)
 | [.x (.int .u64 n)]=>some (decide (0≤n∧n≤1000000),.x (.int .i64 (Lib.bitLen n.toNat)))
 |_=>none
theorem ZP9: ∀args r,ZEN args=some (true,r)→ZD Tryz.prog 113 args r:=by
 intro args r h;unfold ZEN at h;split at h
 ·rename_i n;simp only[Zg,Ze,ZY,Zi,true_and]at h;obtain⟨h1,rfl⟩:=h;exact(by obtain⟨m,rfl⟩: ∃m:Nat,n=m:=⟨n.toNat,by omega⟩;rw[Int.toNat_natCast];exact ZVR m (by omega))
 ·cases h
def Zbs:Tabs:=Za (ZW) 113 ZEN
theorem ZTs:SsOk Tryz.prog Zbs:=ZL (ZG) (ZC ZH (p:=ZeH) rfl) ZP9
theorem ZTc:Enters Tryz.prog 175:=ZC ZH (p:=Zd1) rfl
theorem Zbg (e:Nat) (r:List Av) (hn:(r.map (·.1)).Nodup) (hne:r≠ []) (hl:r.length≤1000000):ZV Tryz.prog 141 [.ref 0 r.length 0 r.length,.fn 142 []] [.rows false e 2 (rows Zq r)] (.tup []) [.rows false e 2 (rows Zq (Ky r))]:=by
 have hbl:Lib.bitLen r.length≤62:=Lib.bitLen_le r.length 62 (by omega) (by omega);have hw:IntKind.u64.wrap (r.length:Int)=r.length:=by simp[IntKind.wrap,IntKind.bits,IntKind.signed];omega
 have hc:=Zev e r hn hne hl (Lib.bitLen r.length) (by omega);have hdd:decide (0≤(r.length:Int)∧(r.length:Int)≤1000000)=true:=ZM (by omega);refine ZN.mcalls (ZO (fz:=true) ZH (p:=ZSe) rfl _ (ξ rfl) _ (fun C0 E0=> ?_));dsimp only[ZSe,qt,qi,qs,qb,qm,qa,qh,qj,qT,qF,qe,ql,qL,qf,q2,q3,q8,qz,qp,qP,qc,qk,qx,qy,qo,qr,qC,ZQ];have uu:=ZA @ZEN.eq_1 (ZA @ZEN.eq_2 (ZA hw (ZA hdd (ZA @ZGI (ZA @ZGz (ZA @ZGh (@ZF7)))))));have tT:=(ZBp ZTs ZTc hc);refine nz ?_;refine rg tT [0,1,4] ?_;refine WI.regB tT [] ?_
 iterate 3 refine oS ?_
 refine oG ?_;refine oC ?_;refine oS ?_;refine oC ?_;refine osN ?_
 first|refine lfN ?_|refine Zff ?_
 exact⟨rfl,rfl⟩
theorem ZM9:Enters Tryz.prog 141:=ZC ZH (p:=ZSe) rfl
def ZAc (p:Av):Av:=(ZB p.1,fld p.2)
def JF (r:List Av):List Av:=Ky (r.map ZAc)
def JM (r:List Av):Bool:=r.all fun p=> !(fld p.2== [])
def Jc (s:Tx):Tx×Int:=if(JN s).2≠0 then([],(JN s).2)else if(JN s).1.all JM=true then ZBR ((JN s).1.map JF)else([],5)
theorem ZMj (r:List Av): ∀n,n≤r.length→okP r n=true→(KE (r.take n)).Nodup
 |0,_,_=>by simp[KE]
 |n+1,hn,h=>by
  rw[okP,ZY]at h;have ih:=ZMj r n (by omega) h.1;have h2:=h.2;unfold Kk at h2;simp only[ZY,Bool.not_eq_true',decide_eq_false_iff_not]at h2;have hg:r.getD n ([],[])=r[n]:=by simp[show n<r.length by omega]
  rw[hg]at h2;unfold KE at ih h2⊢;rw[List.take_succ_eq_append_getElem (by omega),List.map_append,List.nodup_append];refine⟨ih,by simp,fun a ha b hb=> ?_⟩;simp only[List.map_cons,List.map_nil,List.mem_singleton]at hb;subst hb;rintro rfl;exact h2.2.2.2 ha
theorem ZUD {r:List Av} (h:Yj r=true):((r.map ZAc).map (·.1)).Nodup:=by
 unfold Yj at h;rw[ZY]at h;have:=ZMj r r.length (Nat.le_refl _) h.1;rw[List.take_length]at this;rw[List.map_map];exact this
theorem ZNZ (r:List Av):(JF r).length=r.length:=by unfold JF;rw[ZGx,List.length_map]
def Qf (r:List Av) (k:Nat):List Av:=(r.take k).map ZAc++r.drop k
theorem ZOA (r:List Av) (k:Nat):(Qf r k).length=r.length:=by unfold Qf;simp;omega
theorem ZcN (r:List Av) (k:Nat) (h:k<r.length):(rows Zq (Qf r k))[k]? =some [X.str (r.getD k ([],[])).1,X.str (r.getD k ([],[])).2]:=by
 have e:(Qf r k)[k]? =some (r.getD k ([],[])):=by
  unfold Qf;rw[List.getElem?_append_right (by simp;omega)];simp[h,Nat.min_eq_left (Nat.le_of_lt h)]
 unfold rows;rw[YA,e];rfl
theorem ZYR (r:List Av) (k:Nat) (h:k<r.length):(rows Zq (Qf r (k+1)))[k]? =some [X.str (ZB (r.getD k ([],[])).1),X.str (fld (r.getD k ([],[])).2)]:=by
 have e:(Qf r (k+1))[k]? =some (ZAc (r.getD k ([],[]))):=by
  unfold Qf;rw[Yr (by simp;omega),YA,List.getElem?_take,if_pos (by omega)];simp[h]
 unfold rows;rw[YA,e];rfl
theorem ZZH (r:List Av) (k:Nat) (h:k<r.length):(rows Zq (Qf r k)).set k [X.str (ZB (r.getD k ([],[])).1),X.str (fld (r.getD k ([],[])).2)]=rows Zq (Qf r (k+1)):=by
 have e:(Qf r k).set k (ZAc (r.getD k ([],[])))=Qf r (k+1):=by
  unfold Qf;rw[List.set_append_right _ _ (by simp;omega),List.take_succ_eq_append_getElem h,List.map_append];have h1:k-((r.take k).map ZAc).length=0:=by simp;omega
  rw[h1,List.drop_eq_getElem_cons h,List.set_cons_zero,List.append_assoc];simp[h]
 rw[←e];unfold rows;rw[List.map_set];rfl
theorem ZYi (r:List Av):Qf r r.length=r.map ZAc:=by unfold Qf;simp
theorem ZW6 (r:List Av):Qf r 0=r:=by unfold Qf;simp
def ZA7 (d:Dn) (j:Nat):Dn:=(d.take j).map JF++d.drop j
theorem ZXy (d:Dn) (j:Nat):(ZA7 d j).length=d.length:=by unfold ZA7;simp;omega
theorem ZbA (d:Dn) (j:Nat) (h:j<d.length):(ZA7 d j).getD j []=d.getD j []:=by
 unfold ZA7;rw[List.getD_eq_getElem?_getD,List.getElem?_append_right (by simp;omega)];simp[h,Nat.min_eq_left (Nat.le_of_lt h)]
theorem ZXq (d:Dn) (j:Nat) (h:j<d.length):(ZA7 d j).set j (JF (d.getD j []))=ZA7 d (j+1):=by
 unfold ZA7;rw[List.set_append_right _ _ (by simp;omega),List.take_succ_eq_append_getElem h,List.map_append];have h1:j-((d.take j).map JF).length=0:=by simp;omega
 rw[h1,List.drop_eq_getElem_cons h,List.set_cons_zero,List.append_assoc];simp[h]
theorem ZY3 (d:Dn):ZA7 d d.length=d.map JF:=by unfold ZA7;simp
theorem ZXK (d:Dn):ZA7 d 0=d:=by unfold ZA7;simp
def ZFf:List D→Option (Bool×D)
 | [.x (.str s)]=>some (decide (s.length≤1000000),.x (.str (fld s)))
 |_=>none
theorem ZVz: ∀args r,ZFf args=some (true,r)→ZD Tryz.prog 140 args r:=by
 intro args r h;unfold ZFf at h;split at h
 ·rename_i s;simp only[Zg,Ze,ZY,Zi,true_and]at h;obtain⟨h1,rfl⟩:=h;exact(Zec s h1)
 ·cases h
theorem ZPY:Enters Tryz.prog 131:=ZC ZH (p:=ZJV) rfl
def ZD3:Tabs:=JT (Za (Za (Za (ZW) 37 Jv) 140 ZFf) 143 ZAS) 143 (KN ZAS)
theorem JV:SsOk Tryz.prog ZD3:=Ye (ZL (ZL (ZL (ZG) (ZC ZH (p:=i37) rfl) ZGf) (ZC ZH (p:=ZSk) rfl) ZVz) (ZC ZH (p:=ZK6) rfl) ZJe) (ZC ZH (p:=ZK6) rfl) (ZAq ZJe)
theorem ZS8 (a:List D):ZD3.q 37 a=Jv a:=rfl
theorem ZPs (a:List D):ZD3.q 140 a=ZFf a:=rfl
theorem ZPa (a:List D):ZD3.q 143 a=ZAS a:=rfl
theorem ZPb (a:List D) (o:List Ob):ZD3.t 143 a o=YW (KN ZAS) a o:=rfl
theorem ZZw (f:FuncId) (a:List D) (o:List Ob):ZD3.r f a o=none:=rfl
theorem ZZY (f:FuncId) (a:List D) (o:List Ob):ZD3.k f a o=none:=rfl
def FZ (d:Dn):List Ob:=ZC3 2 (d.map (rows Zq))
theorem ZeD (d:Dn):(FZ d).length=d.length:=by unfold FZ;rw[ZDt,List.length_map]
theorem ZbR (d:Dn):frzL (List.range' 1 d.length) (obD d)= .drw 159 1 (RF d)::FZ d:=by
 have h:=ZRP (.drw 159 1 (RF d)) 161 2 (d.map (rows Zq)) [];rw[List.length_map]at h;exact h
theorem Zcf (d:Dn):ZAO [0] (.drw 159 1 (RF d)::FZ d)= [.drw 159 1 (JI (rows Ys d))]:=by
 have h3:=ZbN 159 2 (d.map (rows Zq));have h4:((d.map (rows Zq)).map fun rs=> [X.sl rs])=rows Ys d:=by rw[List.map_map];rfl
 rw[h4]at h3;exact h3
set_option maxHeartbeats 4000000 in
theorem Za8 (s:Tx) (d:Dn) (hq:JN s=(d,0)) (hne:s≠ []):ZD Tryz.prog 106 [.x (.str s)] (.tup [.x (.str (Jc s).1),.x (.int .i64 (Jc s).2)]):=by
 obtain⟨hs4,-,hd0,-,hck⟩:=ZGc s d hq hne;have hsm:smD d:=by
  have:=ZGX s (by omega);unfold Qx ZBO at this;rw[List.map_map]at this;rw[hd0];exact this
 obtain⟨hd32,hmay⟩:=ZF2 hck;have hn:Jc s=if d.all JM=true then ZBR (d.map JF)else([],5):=by
  unfold Jc;rw[hq];simp
 have hread:=Zc4 s d hq hne;clear hq hne hs4 hd0 hck;rcases hu:Jc s with⟨u,e⟩
 rw[hn]at hu;clear hn;refine ZN.pure (ZO (fz:=true) ZH (p:=ZIE) rfl _ (ξ rfl) _ (fun C0 E0=> ?_)) rfl;dsimp only[ZIE,qt,qi,qs,qb,qm,qa,qh,qj,qT,qF,qe,ql,qL,qf,q2,q3,q8,qz,qp,qP,qc,qk,qx,qy,qo,qr,qC,ZQ];have uu:=ZA @Jv.eq_1 (ZA @Jv.eq_2 (ZA @ZFf.eq_1 (ZA @ZFf.eq_2 (ZA @ZAS.eq_1 (ZA @ZAS.eq_2 (ZA @ZGI (ZA @ZGz (ZA @ZGh (ZA @ZF7 (ZA @ZZw (ZA @ZZY (ZA @ZPs (ZA @ZPa (ZA @ZS8 (ZA @ZPb (@KN.eq_1))))))))))))))));refine WI.seq ?_;refine WI.regB JV [0] ?_
 iterate 2 refine oS ?_
 refine oN ?_;refine ZJ ?_;refine WI.seq ?_;refine WI.regB (ZBp ZG ZPY hread) [4,5] ?_;refine oS ?_;refine oC ?_;refine oS ?_
 iterate 2 refine oG ?_
 iterate 2 refine oS ?_
 refine oN ?_;refine ZJ ?_;refine WI.seq ?_;refine WI.seq ?_;refine WI.regB JV [4,5,16] ?_;refine oS ?_;refine oG ?_;refine oN ?_;refine ZJ ?_;refine WI.cond (b:=_) rfl rfl (fun h0=> ?_) (fun h0=> ?_)
 ·exfalso;simp at h0
 ·try simp only[zB]at h0
  refine WI.skip ?_;refine ZJ ?_;refine WI.seq ?_;refine WI.seq ?_;have uu:=ZA uu (ZKR d);refine WI.regB JV [4,18,19,20] ?_;refine oS ?_;refine oG ?_;refine oS ?_;refine oN ?_;refine ZJ ?_;refine WI.block ?_;refine WI.loop (fun φ os=> ∃(j:Nat) (M:Dn),φ= [(4,.ref 0 d.length 0 d.length),(18,.ref 0 d.length 0 d.length),(19,.x (.int .i64 d.length)),(20,.x (.int .i64 j))]∧os=obD M∧j≤d.length∧M=ZA7 d j∧(d.take j).all JM=true) (ZK d.length 20) ?_ (fun φ os hI=> ?_)
  ·exact⟨0,d,rfl,rfl,by omega,(ZXK d).symm,rfl⟩
  ·obtain⟨j,M,rfl,rfl,hj,hM,hall⟩:=hI;have hMl:M.length=d.length:=by rw[hM,ZXy]
   have hRl:=ZKR M;have hFl:=ZHL M;rw[hMl]at hRl hFl;refine WI.seq ?_;refine WI.regB JV [4,18,19,20,21] ?_;refine oG ?_;refine oN ?_;refine ZJ ?_;refine WI.seq ?_;refine WI.cond (b:=_) rfl rfl (fun h1=> ?_) (fun h1=> ?_)
   ·try simp only[zB]at h1
    refine WI.skip ?_;refine ZJ ?_;refine WI.seq ?_;refine WI.block ?_;refine WI.seq ?_;have hj4:j<d.length:=by omega
    have hMj:M.getD j []=d.getD j []:=by rw[hM];exact ZbA d j hj4
    have hrf:=ZUF M j (by omega);have hfm:=ZIM M j (by omega);rw[hMj]at hrf hfm;have hdj:d[j]=d.getD j []:=by simp[hj4]
    have hmr:Yj (d.getD j [])=true:=by rw[←hdj];exact hmay _ (List.getElem_mem hj4)
    have hM2:ZA7 d (j+1)=M.set j (JF (d.getD j [])):=by rw[hM];exact(ZXq d j hj4).symm
    have hM0:M=M.set j (Qf (d.getD j []) 0):=by rw[ZW6,←hMj];exact(ZLv M j).symm
    have hall3:(d.take (j+1)).all JM=((d.take j).all JM&&JM (d.getD j [])):=by rw[Zx _ d j hj4,hdj]
    have hnf:JM (d.getD j [])=false→d.all JM=false:=fun h=>ZZ JM d j hj4 (by rw[hdj];exact h)
    generalize hr:d.getD j []=r at hMj hrf hfm hmr hM2 hM0 hall3 hnf;obtain⟨hr8,hr1,hpb⟩:=ZAe hmr;have uu:=ZA uu (ZA hrf (ZA hfm hRl));refine WI.regB JV [4,7,18,19,20] ?_
    iterate 2 refine oG ?_
    refine oS ?_;refine oN ?_;refine ZJ ?_;refine WI.seq ?_;refine WI.seq ?_;refine WI.regB JV [4,7,18,19,20,24,25,26] ?_;refine oS ?_;refine oG ?_;refine oS ?_;refine oN ?_;refine ZJ ?_;refine WI.block ?_;refine WI.orderA [4,7,18,19,20,24,25,26] ?_;have hFs: ∀x:List Av,(FM (M.set j x)).length=d.length:=fun x=>by rw[ZHL,List.length_set,hMl]
    have hFb: ∀(x:List Av) (y:Ob),(FM (M.set j x)++ [y])[d.length]? =some y:=fun x y=>by rw[List.getElem?_append_right (by rw[hFs];exact Nat.le_refl _),hFs,Nat.sub_self];rfl
    have hFc: ∀(x:List Av) (y z:Ob),(FM (M.set j x)++ [y]).set d.length z=FM (M.set j x)++ [z]:=fun x y z=>by rw[List.set_append_right _ _ (by rw[hFs];exact Nat.le_refl _),hFs,Nat.sub_self];rfl
    have hFg: ∀(x:List Av) (Y:List Ob),(FM (M.set j x)++Y)[j]? =some (.rows false 161 2 (rows Zq x)):=fun x Y=>by rw[ZUn _ _ j (by rw[List.length_set];omega),show(M.set j x).getD j []=x by simp[hMl,hj4]]
    have hFg': ∀(x:List Av),(FM (M.set j x))[j]? =some (.rows false 161 2 (rows Zq x)):=fun x=>by have:=hFg x [];rwa [List.append_nil]at this
    have hFt: ∀(x z:List Av) (Y:List Ob),(FM (M.set j x)++Y).set j (.rows false 161 2 (rows Zq z))=FM (M.set j z)++Y:=fun x z Y=>by rw[ZVY _ _ j (by rw[List.length_set];omega),List.set_set]
    have hIn: ∀x:List Av,x.length=r.length→(Ob.drw 159 1 (RF M)::FM (M.set j x)).all (Ob.inP (fun i=>decide (i<(Ob.drw 159 1 (RF M)::FM (M.set j x)).length)))=true:=fun x hx=>by rw[←ZXI M j x (by rw[hMj];exact hx)];exact ZRD _
    have uu:=ZA uu (ZA hFs (ZA hFb (ZA hFc (ZA hFg (ZA hFg' hFt)))));refine WI.loop (fun φ os=> ∃(k:Nat),φ= [(4,.ref 0 d.length 0 d.length),(7,.ref (j+1) r.length 0 r.length),(18,.ref 0 d.length 0 d.length),(19,.x (.int .i64 d.length)),(20,.x (.int .i64 j)),(24,.ref (j+1) r.length 0 r.length),(25,.x (.int .i64 r.length)),(26,.x (.int .i64 k))]∧os= .drw 159 1 (RF M)::FM (M.set j (Qf r k))∧k≤r.length∧(r.take k).all (fun p=> !(fld p.2== []))=true) (ZK r.length 26) ?_ (fun φ os hI=> ?_)
    ·exact⟨0,rfl,by rw[←hM0],by omega,rfl⟩
    ·obtain⟨k,rfl,rfl,hk,hkall⟩:=hI;refine WI.seq ?_;refine WI.regB JV [4,7,18,19,20,24,25,26,27] ?_;refine oG ?_;refine oN ?_;refine ZJ ?_;refine WI.seq ?_;refine WI.cond (b:=_) rfl rfl (fun h2=> ?_) (fun h2=> ?_)
     ·try simp only[zB]at h2
      refine WI.skip ?_;refine ZJ ?_;refine WI.seq ?_;refine WI.block ?_;refine WI.seq ?_;have hk4:k<r.length:=by omega
      have hka:=ZcN r k hk4;have hka2:=ZYR r k hk4;have hks:=ZZH r k hk4;have hml:=ZOA r k;have hml2:=ZOA r (k+1);have hpk:(r.getD k ([],[])).1.length≤64∧(r.getD k ([],[])).2.length≤256:=by rw[show r.getD k ([],[])=r[k] by simp[hk4]];exact hpb _ (List.getElem_mem hk4)
      have hka3:(r.take (k+1)).all (fun p=> !(fld p.2== []))=((r.take k).all (fun p=> !(fld p.2== []))&& !(fld (r.getD k ([],[])).2== [])):=by rw[Zx _ r k hk4,show r.getD k ([],[])=r[k] by simp[hk4]]
      have hnk:fld (r.getD k ([],[])).2= []→JM r=false:=fun h=>ZZ _ r k hk4 (by rw[show r[k]=r.getD k ([],[]) by simp[hk4],h];rfl)
      generalize r.getD k ([],[])=p at hka hka2 hks hpk hka3 hnk;have hs1:decide (p.1.length≤1000000)=true:=ZM (by omega);have hs2:decide (p.2.length≤1000000)=true:=ZM (by omega);have uu:=ZA uu (ZA hka (ZA hml (ZA hs1 (ZA hs2 (ZA hka2 (ZA hml2 hks))))));refine WI.regB JV [4,7,8,9,18,19,20,24,25,26] ?_;refine oS ?_
      iterate 3 refine oG ?_
      refine oS ?_;refine oG ?_;refine oN ?_;refine ZJ ?_;refine WI.seq ?_;refine WI.post ?_;refine WI.dregB JV [4,7,8,18,19,20,24,25,26] ?_
      iterate 3 refine Zo ?_
      refine YK ?_;refine QV ?_;refine Zo ?_;refine YK ?_;refine dAC ?_;refine Ym ?_
      iterate 2 refine dAG ?_
      refine dP ?_;refine ZKS (.drw 159 1 (RF M)::FM (M.set j (Qf r (k+1)))) _ rfl (Nat.zero_le _) (hIn _ hml2) (by simp only[List.all_cons,List.all_nil,D.inP,Jz,hFs];simp;omega) ?_;refine JR ?_;refine ZJ ?_;refine WI.seq ?_;refine WI.regB JV [4,7,18,19,20,24,25,26,46] ?_
      iterate 2 refine oS ?_
      refine oG ?_;refine oS ?_
      iterate 2 refine oG ?_
      refine oN ?_;refine ZJ ?_;refine WI.cond (b:=_) rfl rfl (fun h3=> ?_) (fun h3=> ?_)
      ·try simp only[zB]at h3
       have hfe:fld p.2= []:=by simpa using h3
       rw[if_neg (by rw[hnf (hnk hfe)];decide)]at hu;cases hu;refine WI.seq ?_;refine WI.regB JV [2,3] ?_
       iterate 2 refine oS ?_
       refine oN ?_;refine ZJ ?_;refine WI.ret ?_;refine Ke ?_;refine JE ?_;refine JE ?_;refine Ke ?_;refine JE ?_;refine Ke ?_;refine JE ?_;refine JE ?_;refine Ke ?_;refine JE ?_
       first|refine lfR ?_|refine ZE4 ?_|refine ZD1 ?_
       rfl
      ·try simp only[zB]at h3
       have hkall2:(r.take (k+1)).all (fun p=> !(fld p.2== []))=true:=by rw[hka3,hkall];simpa using h3
       refine WI.skip ?_;refine QB ?_;refine ZJ ?_;refine WI.orderA [4,7,18,19,20,24,25,26] ?_;refine WI.regB JV [4,7,18,19,20,24,25,26] ?_;refine oG ?_;refine oS ?_;refine oN ?_;refine ZJ ?_;exact⟨⟨k+1,rfl,rfl,by omega,hkall2⟩,by simp[ZK,Ab.get,D.val,ZE];omega⟩
     ·try simp only[zB]at h2
      refine WI.exit ?_;refine Jp ?_;refine Jp ?_;refine ZAu ?_;refine ZJ ?_;obtain rfl:k=r.length:=by omega
      rw[List.take_length]at hkall;rw[ZYi];have hrn:(r.map ZAc).length=r.length:=List.length_map ..;have hsc:=Zbg 161 (r.map ZAc) (ZUD hmr) (by intro hh;rw[hh]at hrn;simp at hrn;omega) (by omega);rw[hrn]at hsc;have hsr:=ZV.row (args:= [.ref (j+1) r.length 0 r.length,.fn 142 []]) (OS:= .drw 159 1 (RF M)::FM (M.set j (r.map ZAc))) (j+1) (by rw[show Zy (Yb [j+1]) [D.ref (j+1) r.length 0 r.length,.fn 142 []]= [D.ref 0 r.length 0 r.length,.fn 142 []] by simp only[Zy,D.ren,Yb,if_true]];exact hsc) (by rw[List.getElem?_cons_succ];exact hFg' _) rfl (by simp[YY,D.inP,YH]) (fun f=>rfl);have hft2:=hFt (r.map ZAc) (Ky (r.map ZAc)) [];rw[List.append_nil,List.append_nil]at hft2;rw[List.set_cons_succ,hft2]at hsr;have hM3:RF M=RF (ZA7 d (j+1)):=by rw[hM2];exact(ZXI M j _ (by rw[ZNZ,hMj])).symm
      have hM4:FM (M.set j (Ky (r.map ZAc)))=FM (ZA7 d (j+1)):=by rw[hM2];rfl
      rw[hM4]at hsr;rw[hM3]at hsr⊢;have hall2:(d.take (j+1)).all JM=true:=by rw[hall3,hall];exact hkall
      have uu:=ZA uu hrn;refine WI.regB (ZBp ZG ZM9 hsr) [4,18,19,20] ?_;refine oS ?_;refine oC ?_;refine oN ?_;refine QB ?_;refine ZJ ?_;refine WI.orderA [4,18,19,20] ?_;refine WI.regB JV [4,18,19,20] ?_;refine oG ?_;refine oS ?_;refine oN ?_;refine ZJ ?_;exact⟨⟨j+1,ZA7 d (j+1),rfl,rfl,by omega,rfl,hall2⟩,by simp[ZK,Ab.get,D.val,ZE];omega⟩
   ·try simp only[zB]at h1
    refine WI.exit ?_;refine Jp ?_;refine Jp ?_;refine ZAu ?_;refine ZJ ?_;refine WI.seq ?_;obtain rfl:j=d.length:=by omega
    rw[List.take_length]at hall;rw[if_pos hall]at hu;rw[ZY3]at hM;subst hM;have hdl:(d.map JF).length=d.length:=List.length_map ..;rw[←hdl];refine WI.orderA [4] ?_;refine WI.freeze (List.range' 1 (d.map JF).length) ?_;rw[ZbR];refine WI.pickA [0] (φ':= [(4,.ref 0 (d.map JF).length 0 (d.map JF).length)]) ?_ (hok:=by rw[Jz,ZeD];simp[ZLd,Qb,YH]) (hp:=rfl) (ho:=Zcf (d.map JF));refine WI.toXA 0 ?_;have hsn:smD (d.map JF):=by
     intro r hr p hp;obtain⟨q,hq,rfl⟩:=List.mem_map.1 hr;obtain⟨x,hx,rfl⟩:=List.mem_map.1 ((ZCs _).mem_iff.1 hp);have:=((ZAe (hmay q hq)).2.2 x hx).1;show(ZB x.1).length≤900000;unfold ZB;rw[List.length_map];omega
    have hsnd:decide (smD (d.map JF))=true:=ZM hsn;have htk:(d.map JF).take (d.map JF).length=d.map JF:=List.take_length;have uu:=ZA uu (ZA hsnd (ZA (ZH7 (d.map JF)) htk));refine WI.regB JV [2,3] ?_;refine oS ?_;refine oC ?_
    iterate 2 refine oG ?_
    iterate 2 refine oS ?_
    refine oN ?_;refine ZJ ?_;refine WI.ret ?_
    first|refine lfR ?_|refine ZE4 ?_|refine ZD1 ?_
    rw[hu]
theorem ZMT:JN []=([],0):=by unfold JN;simp
def ZHK:Tabs:=Za (Za (ZW) 131 ZCg) 143 ZAS
theorem ZMm:SsOk Tryz.prog ZHK:=ZL (ZL (ZG) (ZC ZH (p:=ZJV) rfl) ZU5) (ZC ZH (p:=ZK6) rfl) ZJe
theorem ZIr (a:List D):ZHK.q 131 a=ZCg a:=rfl
theorem ZIq (a:List D):ZHK.q 143 a=ZAS a:=rfl
theorem ZNS (f:FuncId) (a:List D) (o:List Ob):ZHK.r f a o=none:=rfl
theorem ZOx (f:FuncId) (a:List D) (o:List Ob):ZHK.k f a o=none:=rfl
theorem Zc2 (s:Tx) (h:(JN s).2≠0):ZD Tryz.prog 106 [.x (.str s)] (.tup [.x (.str (Jc s).1),.x (.int .i64 (Jc s).2)]):=by
 rcases hu:Jc s with⟨u,e⟩
 unfold Jc at hu;rw[if_pos h]at hu;cases hu;refine ZN.pure (ZO (fz:=true) ZH (p:=ZIE) rfl _ (ξ rfl) _ (fun C0 E0=> ?_)) rfl;dsimp only[ZIE,qt,qi,qs,qb,qm,qa,qh,qj,qT,qF,qe,ql,qL,qf,q2,q3,q8,qz,qp,qP,qc,qk,qx,qy,qo,qr,qC,ZQ];have uu:=ZA @ZCg.eq_1 (ZA @ZCg.eq_2 (ZA @ZNS (ZA @ZOx (ZA @ZIr (ZA @ZIq (ZA @ZAS.eq_1 (@ZAS.eq_2)))))));have tT:=ZMm;refine nz ?_;refine rg tT [0] ?_;refine rg tT [4,5] ?_;refine rg tT [4,5,16] ?_;refine cd (fun h0=> ?_) (fun h0=> ?_)
 ·refine rg tT [2,3] ?_;refine lf ?_
  first|rfl|exact⟨rfl,rfl⟩|trivial
 ·exact absurd (by simpa using h0) h
theorem ZbE:ZD Tryz.prog 106 [.x (.str [])] (.tup [.x (.str (Jc []).1),.x (.int .i64 (Jc []).2)]):=by
 have h1:JN []=([],0):=ZMT;have h2:Jc []=ZBR []:=by unfold Jc;rw[h1];simp
 have h3:decide (smD [])=true:=by decide
 have h4:Zd Ys (rows Ys [])=some []:=ZH7 [];rw[h2];refine ZN.pure (ZO (fz:=true) ZH (p:=ZIE) rfl _ (ξ rfl) _ (fun C0 E0=> ?_)) rfl;dsimp only[ZIE,qt,qi,qs,qb,qm,qa,qh,qj,qT,qF,qe,ql,qL,qf,q2,q3,q8,qz,qp,qP,qc,qk,qx,qy,qo,qr,qC,ZQ];have uu:=ZA @ZCg.eq_1 (ZA @ZCg.eq_2 (ZA @ZAS.eq_1 (ZA @ZAS.eq_2 (ZA h1 (ZA h3 (ZA h4 (ZA @ZNS (ZA @ZOx (ZA @ZIr (@ZIq))))))))));have tT:=ZMm;refine nz ?_;refine rg tT [0] ?_;refine rg tT [4,5] ?_;refine rg tT [4,5,16] ?_;refine ce (fun h0=> ?_) (fun h0=> ?_)
 ·simp at h0
 ·refine rg tT [4,18,19,20] ?_;refine WI.loop (fun φ os=>φ= [(4,.x (.sl (rows Ys []))),(18,.x (.sl (rows Ys []))),(19,.x (.int .i64 0)),(20,.x (.int .i64 0))]∧os= []) (ZK 0 20) ?_ (fun φ os hI=> ?_)
  ·exact⟨rfl,rfl⟩
  ·obtain⟨rfl,rfl⟩:=hI;refine nz ?_;refine rg tT [4,18,19,20,21] ?_;refine ce (fun h1=> ?_) (fun h1=> ?_)
   ·simp at h1
   ·refine rg tT [2,3] ?_;refine lf ?_
    first|rfl|exact⟨rfl,rfl⟩|trivial
theorem ZbK (s:Tx):ZD Tryz.prog 106 [.x (.str s)] (.tup [.x (.str (Jc s).1),.x (.int .i64 (Jc s).2)]):=by
 by_cases h:(JN s).2=0
 ·by_cases hs:s= []
  ·subst hs;exact ZbE
  ·exact Za8 s (JN s).1 (by rw[←h]) hs
 ·exact Zc2 s h
def ZAf (p:Av):List Av→Nat
 | []=>0
 |q::o=>if Op.bytesLess q.1 p.1=true then ZAf p o+1 else 0
theorem ZRX (p:Av): ∀o,ZAf p o≤o.length
 | []=>by simp[ZAf]
 |q::o=>by have:=ZRX p o;unfold ZAf;split<;>simp;omega
theorem ZRU (p:Av): ∀o,ZA5 p o=o.take (ZAf p o)++p::o.drop (ZAf p o)
 | []=>rfl
 |q::o=>by
  unfold ZA5 ZAf;split
  ·rw[ZRU p o];rfl
  ·rfl
theorem ZRM (p:Av): ∀(o:List Av) (k:Nat),k≤ZAf p o→ ∀h:k<o.length,Op.bytesLess o[k].1 p.1=true→k+1≤ZAf p o
 |q::o,0,_,_,hb=>by unfold ZAf;rw[if_pos (by simpa using hb)];omega
 |q::o,k+1,hk,h,hb=>by
  unfold ZAf at hk⊢;split at hk
  ·rename_i hl;rw[if_pos hl];have:=ZRM p o k (by omega) (by simpa using h) (by simpa using hb);omega
  ·omega
theorem ZHN (p:Av): ∀(o:List Av) (k:Nat),k≤ZAf p o→(∀h:k<o.length,Op.bytesLess o[k].1 p.1=false)→k=ZAf p o
 | [],k,hk,_=>by simp[ZAf]at hk⊢;omega
 |q::o,0,_,h=>by
  unfold ZAf;have:=h (by simp);rw[if_neg (by simpa using this)]
 |q::o,k+1,hk,h=>by
  unfold ZAf at hk⊢;split at hk
  ·rename_i hl;rw[if_pos hl];have:=ZHN p o k (by omega) (fun h2=>h (Nat.succ_lt_succ h2));omega
  ·omega
theorem Zce (s:List UInt8):ZB (ZB s)=ZB s:=by
 unfold ZB;rw[List.map_map];refine List.map_congr_left fun c _=> ?_
 show Js (Js c)=Js c;by_cases h:65≤c.toNat∧c.toNat≤90
 ·have:=ZFj h;exact ZCH (by omega)
 ·rw[ZCH h,ZCH h]
theorem ZQt (c:UInt8):Js c=32↔c=32:=by
 by_cases h:65≤c.toNat∧c.toNat≤90
 ·have h1:=ZFj h;constructor
  ·intro e;rw[e]at h1;simp at h1;omega
  ·rintro rfl;simp at h
 ·rw[ZCH h]
theorem ZQ2: ∀s,JX 32 (ZB s)=(JX 32 s).map ZB
 | []=>rfl
 |b::l=>by
  have ih:=ZQ2 l;show JX 32 (Js b::ZB l)=_;unfold JX;by_cases h:b=32
  ·rw[if_pos ((ZQt b).2 h),if_pos h,ih];rfl
  ·rw[if_neg (fun k=>h ((ZQt b).1 k)),if_neg h,ih];cases JX 32 l with
   |nil=>rfl
   |cons x r=>rfl
theorem ZWe (s:List UInt8):ZBn (ZB s)=(ZBn s).map ZB:=by
 unfold ZBn;rw[ZQ2,List.filter_map];congr 1;refine List.filter_congr fun x _=> ?_
 simp[ZB]
theorem ZT8: ∀l:List (List UInt8),jn (l.map ZB)=ZB (jn l)
 | []=>rfl
 | [x]=>rfl
 |x::y::r=>by
  have:=ZT8 (y::r);show ZB x++32::jn ((y::r).map ZB)=ZB (x++32::jn (y::r));rw[this];unfold ZB;rw[List.map_append,List.map_cons];rfl
theorem Zb2 (s:Tx):blk (ZB s)=ZB (blk s):=by
 show jn (ZBn (ZB s))=ZB (jn (ZBn s));rw[ZWe,ZT8]
def stW:Tx→Bool
 | []=>false
 |c::_=> !decide (c=32)
def gB:Bool→Tx→Tx
 |_,[]=> []
 |st,c::r=>if c=32 then(if(st&&stW r)=true then 32::gB st r else gB st r)else c::gB true r
def jW (l:List Tx):Tx:=if l= []then []else 32::jn l
theorem ZQp (x:Tx) (l:List Tx):jn (x::l)=x++jW l:=by
 unfold jW;split
 ·rename_i h;subst h;simp[jn]
 ·rename_i h;rw[ZbQ h]
theorem ZRJ (r:Tx): ∃h t,JX 32 r=h::t∧(stW r=true↔h≠ []):=by
 rcases r with _|⟨c,r⟩
 ·exact⟨[],[],rfl,by simp[stW]⟩
 ·unfold JX;by_cases hc:c=32
  ·exact⟨[],JX 32 r,by rw[if_pos hc],by simp[stW,hc]⟩
  ·rw[if_neg hc];split
   ·rename_i x l _;exact⟨c::x,l,rfl,by simp[stW,hc]⟩
   ·exact⟨[c],[],rfl,by simp[stW,hc]⟩
theorem ZRl: ∀(s:Tx) (h:Tx) (t:List Tx),JX 32 s=h::t→gB true s=h++jW (t.filter fun x=>decide (x≠ []))∧gB false s=jn ((h::t).filter fun x=>decide (x≠ []))
 | [],h,t,e=>by
  simp only[JX,List.cons.injEq]at e;obtain⟨rfl,rfl⟩:=e;simp[gB,jW,jn]
 |c::r,h,t,e=>by
  obtain⟨h',t',e',hst⟩:=ZRJ r;obtain⟨ih1,ih2⟩:=ZRl r h' t' e';by_cases hc:c=32
  ·have e2:JX 32 (c::r)= []::JX 32 r:=by rw[JX,if_pos hc]
   rw[e2,e',List.cons.injEq]at e;obtain⟨rfl,rfl⟩:=e;unfold gB;rw[if_pos hc,if_pos hc];refine⟨?_,?_⟩
   ·by_cases hs:stW r=true
    ·have hn:=hst.1 hs;rw[hs,Bool.true_and,if_pos rfl,ih1,List.nil_append,List.filter_cons,if_pos (by simpa using hn)]
     conv=>rhs;unfold jW
     rw[if_neg (by simp),ZQp]
    ·have hn:h'= []:=by by_cases hh:h'= [];exact hh;exact absurd (hst.2 hh) hs
     subst hn;rw[if_neg (by simp[hs]),ih1,List.filter_cons];simp
   ·rw[Bool.false_and,if_neg (by decide),ih2];exact congrArg jn (by conv=>rhs;rw[List.filter_cons,if_neg (by simp)])
  ·have e2:JX 32 (c::r)=(c::h')::t':=by rw[JX,if_neg hc,e']
   rw[e2,List.cons.injEq]at e;obtain⟨rfl,rfl⟩:=e;unfold gB;rw[if_neg hc,if_neg hc,ih1];refine⟨rfl,?_⟩;rw[List.filter_cons,if_pos (by simp),ZQp];rfl
theorem ZdH (s:Tx):gB false s=blk s:=by
 obtain⟨h,t,e,-⟩:=ZRJ s;rw[(ZRl s h t e).2,←e];rfl
theorem ZRS (s:Tx) (j:Nat) (h:j<s.length):s.drop j=s.getD j 0::s.drop (j+1):=by
 rw[List.drop_eq_getElem_cons h];simp[h]
theorem ZeC (s:Tx) (j:Nat):stW (s.drop j)=decide (j<s.length∧s.getD j 0≠32):=by
 by_cases h:j<s.length
 ·rw[ZRS s j h];simp[stW,h]
 ·rw[List.drop_of_length_le (by omega)];simp[stW];intro hh;omega
theorem Zcz (s:Tx) (j:Nat) (h:j<s.length):List.drop j (List.take ((j:Int)+1).toNat s)= [s.getD j 0]:=by
 rw[show((j:Int)+1).toNat=j+1 by omega,List.take_succ_eq_append_getElem h,List.drop_append_of_le_length (by simp;omega),List.drop_of_length_le (by simp;omega)];simp[h]
theorem ZTJ {c:UInt8}:c≠32↔(c.toNat:Int)≠32:=⟨fun h e=>h (UInt8.toNat_inj.1 (by show c.toNat=32;omega)),fun h e=>h (by rw[e];rfl)⟩
theorem ZQm (o:Tx) (c:UInt8):((o++ [c])== [])=false:=by cases o<;>rfl
theorem Zdh (s:Tx) (hl:s.length≤1000000):ZD Tryz.prog 108 [.x (.str s)] (.x (.str (blk s))):=by
 refine ZN.pure (ZO (fz:=true) ZH (p:=ZNP) rfl _ (ξ rfl) _ (fun C0 E0=> ?_)) rfl;dsimp only[ZNP,qt,qi,qs,qb,qm,qa,qh,qj,qT,qF,qe,ql,qL,qf,q2,q3,q8,qz,qp,qP,qc,qk,qx,qy,qo,qr,qC,ZQ];have uu:=trivial;have tT:=(ZG:SsOk Tryz.prog ZW);refine nz ?_;refine rg tT [0] ?_;refine rg tT [0,3] ?_;refine rg tT [0,3,4] ?_;refine WI.loop (fun φ os=> ∃(j:Nat) (o:Tx),φ= [(0,.x (.str s)),(3,.x (.str o)),(4,.x (.int .i64 j))]∧os= []∧j≤s.length∧o.length≤j∧o++gB (!(o== [])) (s.drop j)=blk s) (ZK s.length 4) ?_ (fun φ os hI=> ?_)
 ·exact⟨0,[],rfl,rfl,by omega,Nat.le_refl _,by rw[List.drop_zero];exact ZdH s⟩
 ·obtain⟨j,o,rfl,rfl,hj,hol,hso⟩:=hI;refine nz ?_;refine rg tT [0,3,4,8] ?_;refine cd (fun h0=> ?_) (fun h0=> ?_)
  ·have hj4:j<s.length:=by omega
   have hda:=ZRS s j hj4;rw[hda]at hso;have hsl:=Zcz s j hj4;have hw:=ZeC s (j+1);have uu:=ZA uu hsl;refine rg tT [0,3,4,14] ?_;refine cd (fun h1=> ?_) (fun h1=> ?_)
   ·have hc:s.getD j 0≠32:=ZTJ.2 (by simpa using h1);have hs2:(o++ [s.getD j 0])++gB (!((o++ [s.getD j 0])== [])) (s.drop (j+1))=blk s:=by
     rw[←hso]
     conv=>rhs;unfold gB
     rw[if_neg hc,ZQm];simp
    refine rg tT [0,3,4] ?_;refine rg tT [0,3,4] ?_;exact⟨⟨j+1,_,rfl,rfl,by omega,by first|omega|(rw[Zr];simp;omega),hs2⟩,by simp[ZK,Ab.get,D.val,ZE];omega⟩
   ·have hc:s.getD j 0=32:=Classical.byContradiction fun hh=>ZTJ.1 hh (by simpa using h1)
    refine rg tT [0,3,4,37] ?_;refine cd (fun h2=> ?_) (fun h2=> ?_)
    ·have hs2:(o++ [32])++gB (!((o++ [32])== [])) (s.drop (j+1))=blk s:=by
      rw[←hso]
      conv=>rhs;unfold gB
      have hst:((!(o== []))&&stW (s.drop (j+1)))=true:=by rw[hw];have:= @ZTJ (s.getD (j+1) 0);clear uu hso hda hsl;grind
      have ho:(!(o== []))=true:=by rw[ZY]at hst;exact hst.1
      rw[if_pos hc,if_pos hst,ho,ZQm];simp
     refine rg tT [0,3,4] ?_;refine rg tT [0,3,4] ?_;exact⟨⟨j+1,_,rfl,rfl,by omega,by first|omega|(rw[Zr];simp;omega),hs2⟩,by simp[ZK,Ab.get,D.val,ZE];omega⟩
    ·have hs2:o++gB (!(o== [])) (s.drop (j+1))=blk s:=by
      rw[←hso]
      conv=>rhs;unfold gB
      have hst: ¬((!(o== []))&&stW (s.drop (j+1)))=true:=by rw[hw];have:= @ZTJ (s.getD (j+1) 0);clear uu hso hda hsl;grind
      rw[if_pos hc,if_neg hst]
     refine rg tT [0,3,4] ?_;exact⟨⟨j+1,_,rfl,rfl,by omega,by first|omega|(rw[Zr];simp;omega),hs2⟩,by simp[ZK,Ab.get,D.val,ZE];omega⟩
  ·refine rg tT [2] ?_;refine lf ?_;rw[List.drop_of_length_le (by omega)]at hso;simp only[gB,List.append_nil]at hso;rw[hso]
def ZCa:List D→Option (Bool×D)
 | [.x (.str s)]=>some (decide (s.length≤1000000),.x (.str (blk s)))
 |_=>none
theorem ZOm: ∀args r,ZCa args=some (true,r)→ZD Tryz.prog 108 args r:=by
 intro args r h;unfold ZCa at h;split at h
 ·rename_i s;simp only[Zg,Ze,ZY,Zi,true_and]at h;obtain⟨h1,rfl⟩:=h;exact(Zdh s h1)
 ·cases h
def ZBI:List D→Option (Bool×D)
 | [.x (.str s)]=>some (decide (s.length≤1000000),.x (.str (ZB s)))
 |_=>none
theorem ZMn: ∀args r,ZBI args=some (true,r)→ZD Tryz.prog 32 args r:=by
 intro args r h;unfold ZBI at h;split at h
 ·rename_i s;simp only[Zg,Ze,ZY,Zi,true_and]at h;obtain⟨h1,rfl⟩:=h;exact(ZG4 s (by omega))
 ·cases h
def ZIF:Tabs:=Za (Za (ZW) 108 ZCa) 32 ZBI
theorem ZXL:SsOk Tryz.prog ZIF:=ZL (ZL (ZG) (ZC ZH (p:=ZNP) rfl) ZOm) (ZC ZH (p:=i32) rfl) ZMn
theorem ZPd (a:List D):ZIF.q 108 a=ZCa a:=rfl
theorem ZTm (a:List D):ZIF.q 32 a=ZBI a:=rfl
theorem ZY1 (f:FuncId) (a:List D) (o:List Ob):ZIF.r f a o=none:=rfl
theorem ZXw (f:FuncId) (a:List D) (o:List Ob):ZIF.k f a o=none:=rfl
theorem ZeT (s:Tx) (hl:s.length≤1000000):ZD Tryz.prog 107 [.x (.str s)] (.x (.str (fld s))):=by
 have hb:=ZK1 s;have hb2:decide ((blk s).length≤1000000)=true:=ZM (by unfold blk;omega);refine ZN.pure (ZO (fz:=true) ZH (p:=ZN4) rfl _ (ξ rfl) _ (fun C0 E0=> ?_)) rfl;dsimp only[ZN4,qt,qi,qs,qb,qm,qa,qh,qj,qT,qF,qe,ql,qL,qf,q2,q3,q8,qz,qp,qP,qc,qk,qx,qy,qo,qr,qC,ZQ];have uu:=ZA @ZCa.eq_1 (ZA @ZCa.eq_2 (ZA @ZBI.eq_1 (ZA @ZBI.eq_2 (ZA hb2 (ZA @ZY1 (ZA @ZXw (ZA @ZPd (@ZTm))))))));have tT:=ZXL;refine nz ?_;refine rg tT [0] ?_;refine rg tT [2] ?_;refine lf ?_
 first|rfl|exact⟨rfl,rfl⟩|trivial
def ZCQ:List D→Option (Bool×D)
 | [.x (.str s)]=>some (decide (s.length≤1000000),.x (.str (fld s)))
 |_=>none
theorem ZPE: ∀args r,ZCQ args=some (true,r)→ZD Tryz.prog 107 args r:=by
 intro args r h;unfold ZCQ at h;split at h
 ·rename_i s;simp only[Zg,Ze,ZY,Zi,true_and]at h;obtain⟨h1,rfl⟩:=h;exact(ZeT s h1)
 ·cases h
theorem ZZc (l:List Av):((rows Zq l).all fun r=>decide (r.length=2))=true:=by
 unfold rows;rw[List.all_map];exact List.all_eq_true.2 fun _ _=>rfl
def ZH2:Tabs:=Za (Za (ZW) 32 ZBI) 107 ZCQ
theorem ZT3:SsOk Tryz.prog ZH2:=ZL (ZL (ZG) (ZC ZH (p:=i32) rfl) ZMn) (ZC ZH (p:=ZN4) rfl) ZPE
theorem ZTv (a:List D):ZH2.q 32 a=ZBI a:=rfl
theorem ZPR (a:List D):ZH2.q 107 a=ZCQ a:=rfl
theorem ZX5 (f:FuncId) (a:List D) (o:List Ob):ZH2.r f a o=none:=rfl
theorem ZYN (f:FuncId) (a:List D) (o:List Ob):ZH2.k f a o=none:=rfl
set_option maxHeartbeats 1000000 in
theorem Zbq (r:List Av) (hr:Yj r=true):ZD Tryz.prog 144 [.x (.sl (rows Zq r))] (.tup [.x (.sl (rows Zq (if JM r=true then JF r else []))),.x (.bool (JM r))]):=by
 obtain⟨hr8,hr1,hpb⟩:=ZAe hr;have hcr: ∀(T:FuncId→List D→List Ob→Option (Bool×D)) (φ:List (Nat×D)) (os:List Ob) (n:Nat) (ag:Bool) (x:IO),ZDO T φ os (.ld n ag x)=none:=fun _ _ _ _ _ _=>rfl
 refine ZN.pure (ZO (fz:=true) ZH (p:=ZSf) rfl _ (ξ rfl) _ (fun C0 E0=> ?_)) rfl;dsimp only[ZSf,qt,qi,qs,qb,qm,qa,qh,qj,qT,qF,qe,ql,qL,qf,q2,q3,q8,qz,qp,qP,qc,qk,qx,qy,qo,qr,qC,ZQ];have uu:=ZA @ZBI.eq_1 (ZA @ZBI.eq_2 (ZA @ZCQ.eq_1 (ZA @ZCQ.eq_2 (ZA @ZZc (ZA hcr (ZA @ZX5 (ZA @ZYN (ZA @ZPR (@ZTv)))))))));have tT:=ZT3;refine nz ?_;refine rg tT [0] ?_;refine rg tT [0,4] ?_;refine rg tT [0,4,5] ?_;refine WI.ownA 4 161 2 ?_;refine WI.loop (fun φ os=> ∃(i:Nat) (o:List Av),φ= [(0,.x (.sl (rows Zq r))),(4,.ref 0 i 0 i),(5,.x (.int .i64 i))]∧os= [.rows false 161 2 (rows Zq o)]∧i≤r.length∧o=Ky ((r.take i).map ZAc)∧(r.take i).all (fun p=> !(fld p.2== []))=true) (ZK r.length 5) ?_ (fun φ os hI=> ?_)
 ·exact⟨0,[],rfl,rfl,by omega,rfl,rfl⟩
 ·obtain⟨i,o,rfl,rfl,hi,ho,hall⟩:=hI;have hol:o.length=i:=by rw[ho,ZGx,List.length_map,List.length_take];omega
  refine nz ?_;refine rg tT [0,4,5,12] ?_;refine cd (fun h0=> ?_) (fun h0=> ?_)
  ·have hi4:i<r.length:=by omega
   have hia:=ZBh r i hi4;have hpi:(r.getD i ([],[])).1.length≤64∧(r.getD i ([],[])).2.length≤256:=by rw[show r.getD i ([],[])=r[i] by simp[hi4]];exact hpb _ (List.getElem_mem hi4)
   have hka3:(r.take (i+1)).all (fun p=> !(fld p.2== []))=((r.take i).all (fun p=> !(fld p.2== []))&& !(fld (r.getD i ([],[])).2== [])):=by rw[Zx _ r i hi4,show r.getD i ([],[])=r[i] by simp[hi4]]
   have hnk:fld (r.getD i ([],[])).2= []→JM r=false:=fun h=>ZZ _ r i hi4 (by rw[show r[i]=r.getD i ([],[]) by simp[hi4],h];rfl)
   have hso:ZA5 (ZAc (r.getD i ([],[]))) o=Ky ((r.take (i+1)).map ZAc):=by rw[List.take_succ_eq_append_getElem hi4,List.map_append,List.map_singleton,ZW1,←ho,show r.getD i ([],[])=r[i] by simp[hi4]]
   generalize r.getD i ([],[])=p at hia hpi hka3 hnk hso;have hs1:decide (p.1.length≤1000000)=true:=ZM (by omega);have hs2:decide (p.2.length≤1000000)=true:=ZM (by omega);obtain⟨P,hP⟩: ∃P:Av,P=ZAc p:=⟨_,rfl⟩;have hP1:ZB p.1=P.1:=by rw[hP];rfl
   have hP2:fld p.2=P.2:=by rw[hP];rfl
   rw[←hP]at hso;have hins:=ZRU P o;have hpl:=ZRX P o;have uu:=ZA uu (ZA hia (ZA hs1 (ZA hs2 (ZA hP1 hP2))));refine WI.dregB tT [0,4,5,6] ?_
   iterate 2 refine Zo ?_
   refine YK ?_;refine Zo ?_;refine YK ?_;refine QV ?_
   iterate 2 refine Zo ?_
   refine YK ?_;refine Zo ?_;refine YK ?_;refine QV ?_;refine Ym ?_;refine dKG ?_;refine dAG ?_;refine dN ?_;refine nz ?_;refine rg tT [0,4,5,6,30] ?_;refine cd (fun h1=> ?_) (fun h1=> ?_)
   ·have hfe:fld p.2= []:=by rw[hP2];simpa using h1
    refine rg tT [2,3] ?_;refine WI.nnA ?_;refine lf ?_;rw[hnk hfe];rfl
   ·have hall2:(r.take (i+1)).all (fun p=> !(fld p.2== []))=true:=by rw[hka3,hall,hP2];simpa using h1
    refine rg tT [0,4,5,6,7] ?_;refine WI.loop (fun φ os=> ∃(k:Nat),φ= [(0,.x (.sl (rows Zq r))),(4,.ref 0 i 0 i),(5,.x (.int .i64 i)),(6,.ptr 1 0),(7,.x (.int .i64 k))]∧os= [.rows false 161 2 (rows Zq o),.box [.x (.str P.1),.x (.str P.2)]]∧k≤ZAf P o) (ZK i 7) ?_ (fun φ os hI=> ?_)
    ·exact⟨0,rfl,rfl,by omega⟩
    ·obtain⟨k,rfl,rfl,hk⟩:=hI;refine nz ?_;by_cases hko:k<i
     ·have hka:=ZBh o k (by omega);have hdl:=ZM (show(k:Int)<(i:Int) by omega);have hgo:o.getD k ([],[])=o[k]:=by simp[show k<o.length by omega]
      have uu:=ZA uu (ZA hka (ZA hdl hol));refine WI.dregB tT [0,4,5,6,7,44] ?_
      iterate 2 refine Zo ?_
      refine YK ?_;refine Ym ?_;refine Zo ?_
      iterate 2 refine Ym ?_
      refine YK ?_;refine Ym ?_;refine YK ?_;refine Ym ?_;refine YK ?_
      iterate 2 refine Ym ?_
      refine dN ?_;refine nz ?_;refine cd (fun h2=> ?_) (fun h2=> ?_)
      ·have hk2:=ZRM P o k hk (by omega) (by rw[←hgo];clear uu;grind);refine rg tT [0,4,5,6,7] ?_;exact⟨⟨k+1,rfl,rfl,hk2⟩,by simp[ZK,Ab.get,D.val,ZE];omega⟩
      ·have hkp:=ZHN P o k hk (fun hh=>by rw[←hgo];clear uu;grind);have hki:k≤i:=by omega
       rw[←hkp]at hins;have e1:(o.take k).length=k:=by rw[List.length_take];omega
       have e2:(o.drop k).take (i-k)=o.drop k:=YL (by rw[List.length_drop];omega);have e3:(o.drop k).length=i-k:=by rw[List.length_drop];omega
       have e4:(rows Zq (o.take k)++ [[X.str P.1,X.str P.2]]).length=k+1:=by rw[Zr,YE,e1];rfl
       have uu:=ZA uu (ZA e1 (ZA e2 (ZA e3 (ZA e4 hol))));refine rg tT [0,4,5,6,7,8] ?_;refine rg tT [0,4,5,6,7,8] ?_;refine rg tT [0,4,5,7,8] ?_;refine rg tT [0,5,8] ?_;refine rgp tT [0,4,5] ?_;refine Yo [2] ?_;refine JR ?_;refine nz ?_;have hfr:rows Zq (o.take k)++ [[X.str P.1,X.str P.2]]++rows Zq (o.drop k)=rows Zq (ZA5 P o):=by rw[hins];unfold rows;simp[Zq]
       rw[hfr,show k+1+(i-k)=i+1 by omega];refine WI.orderA [0,4,5] ?_;refine rg tT [0,4,5] ?_;exact⟨⟨i+1,ZA5 P o,rfl,rfl,by omega,hso,hall2⟩,by simp[ZK,Ab.get,D.val,ZE];omega⟩
     ·have hdl:=decide_eq_false (show ¬(k:Int)<(i:Int) by omega);have hka:(rows Zq o)[k]? =none:=List.getElem?_eq_none (by rw[YE];omega);have uu:=ZA uu (ZA hdl (ZA hol hka));refine WI.dregB tT [0,4,5,6,7,44] ?_
      iterate 2 refine Zo ?_
      refine YK ?_;refine Ym ?_;refine Zo ?_
      iterate 2 refine Ym ?_
      refine YK ?_;refine Ym ?_;refine YK ?_;refine Ym ?_;refine YK ?_
      iterate 2 refine Ym ?_
      refine dN ?_;refine nz ?_;refine ce (fun h2=> ?_) (fun h2=> ?_)
      ·simp at h2
      ·have hkp:=ZHN P o k hk (fun hh=>by omega);have hki:k≤i:=by omega
       rw[←hkp]at hins;have e1:(o.take k).length=k:=by rw[List.length_take];omega
       have e2:(o.drop k).take (i-k)=o.drop k:=YL (by rw[List.length_drop];omega);have e3:(o.drop k).length=i-k:=by rw[List.length_drop];omega
       have e4:(rows Zq (o.take k)++ [[X.str P.1,X.str P.2]]).length=k+1:=by rw[Zr,YE,e1];rfl
       have uu:=ZA uu (ZA e1 (ZA e2 (ZA e3 (ZA e4 hol))));refine rg tT [0,4,5,6,7,8] ?_;refine rg tT [0,4,5,6,7,8] ?_;refine rg tT [0,4,5,7,8] ?_;refine rg tT [0,5,8] ?_;refine rgp tT [0,4,5] ?_;refine Yo [2] ?_;refine JR ?_;refine nz ?_;have hfr:rows Zq (o.take k)++ [[X.str P.1,X.str P.2]]++rows Zq (o.drop k)=rows Zq (ZA5 P o):=by rw[hins];unfold rows;simp[Zq]
       rw[hfr,show k+1+(i-k)=i+1 by omega];refine WI.orderA [0,4,5] ?_;refine rg tT [0,4,5] ?_;exact⟨⟨i+1,ZA5 P o,rfl,rfl,by omega,hso,hall2⟩,by simp[ZK,Ab.get,D.val,ZE];omega⟩
  ·obtain rfl:i=r.length:=by omega
   rw[List.take_length]at ho hall;have hf:JM r=true:=hall;have ho2:JF r=o:=ho.symm;rw[hf,if_pos rfl,ho2];have e5:(rows Zq o).take r.length=rows Zq o:=YL (by rw[YE];omega);have e6:o.take r.length=o:=YL (by omega);have uu:=ZA uu (ZA e5 (ZA e6 hol));refine rg tT [2,3] ?_;refine WI.nnA ?_;refine lf ?_
   first|rfl|exact⟨rfl,rfl⟩|trivial
def ZFl:List D→Option (Bool×D)
 | [.x (.sl R)]=>(Zd Zq R).bind fun r=>some (decide (Yj r=true),.tup [.x (.sl (rows Zq (if JM r=true then JF r else []))),.x (.bool (JM r))])
 |_=>none
theorem ZW8: ∀args r,ZFl args=some (true,r)→ZD Tryz.prog 144 args r:=by
 intro args r h;unfold ZFl at h;split at h
 ·rename_i R;obtain⟨r,hr0,h⟩:=Zp h;simp only[Zg,Ze,ZY,Zi,true_and]at h;obtain⟨h1,rfl⟩:=h;rw[←ZR ZCx hr0];exact(Zbq r h1)
 ·cases h
def ZB7:Tabs:=JT (Za (Za (Za (ZW) 119 ZDY) 144 ZFl) 145 ZEo) 145 (KN ZEo)
theorem ZS9:SsOk Tryz.prog ZB7:=Ye (ZL (ZL (ZL (ZG) (ZC ZH (p:=ZSv) rfl) ZSI) (ZC ZH (p:=ZSf) rfl) ZW8) (ZC ZH (p:=ZNG) rfl) ZOd) (ZC ZH (p:=ZNG) rfl) (ZAq ZOd)
theorem ZPF (a:List D):ZB7.q 119 a=ZDY a:=rfl
theorem ZOQ (a:List D):ZB7.q 144 a=ZFl a:=rfl
theorem ZM1 (a:List D):ZB7.q 145 a=ZEo a:=rfl
theorem ZNo (a:List D) (o:List Ob):ZB7.t 145 a o=YW (KN ZEo) a o:=rfl
theorem ZWU (f:FuncId) (a:List D) (o:List Ob):ZB7.r f a o=none:=rfl
theorem ZUa (f:FuncId) (a:List D) (o:List Ob):ZB7.k f a o=none:=rfl
theorem ZWb {d:Dn} (hmay: ∀r∈d,Yj r=true):smD (d.map JF)∧ ∀r∈d.map JF,r.length≤1000000:=by
 refine⟨fun r hr p hp=> ?_,fun r hr=> ?_⟩
 ·obtain⟨q,hq,rfl⟩:=List.mem_map.1 hr;obtain⟨x,hx,rfl⟩:=List.mem_map.1 ((ZCs _).mem_iff.1 hp);have:=((ZAe (hmay q hq)).2.2 x hx).1;show(ZB x.1).length≤900000;unfold ZB;rw[List.length_map];omega
 ·obtain⟨q,hq,rfl⟩:=List.mem_map.1 hr;have:=(ZAe (hmay q hq)).1;rw[ZNZ];omega
set_option maxHeartbeats 1000000 in
theorem Zcp (s:Tx):ZD Tryz.prog 110 [.x (.str s)] (.tup [.x (.str (Jc s).1),.x (.int .i64 (Jc s).2)]):=by
 rcases hu:Jc s with⟨u,e⟩
 unfold Jc at hu;rcases hq:JN s with⟨d,e0⟩
 rw[hq]at hu;simp only at hu;refine ZN.pure (ZO (fz:=true) ZH (p:=ZSq) rfl _ (ξ rfl) _ (fun C0 E0=> ?_)) rfl;dsimp only[ZSq,qt,qi,qs,qb,qm,qa,qh,qj,qT,qF,qe,ql,qL,qf,q2,q3,q8,qz,qp,qP,qc,qk,qx,qy,qo,qr,qC,ZQ];have uu:=ZA @ZDY.eq_1 (ZA @ZDY.eq_2 (ZA @ZFl.eq_1 (ZA @ZFl.eq_2 (ZA @ZEo.eq_1 (ZA @ZEo.eq_2 (ZA @ZH7 (ZA @ZLQ (ZA hq (ZA @ZWU (ZA @ZUa (ZA @ZPF (ZA @ZOQ (ZA @ZM1 (ZA @ZNo (@KN.eq_1)))))))))))))));have tT:=ZS9;refine nz ?_;refine rg tT [0] ?_;refine rg tT [4,5] ?_;refine rg tT [4,5,16] ?_;refine cd (fun h0=> ?_) (fun h0=> ?_)
 ·refine rg tT [2,3] ?_;refine WI.nnA ?_;refine lf ?_;rw[if_pos (by simpa using h0)]at hu;cases hu;rfl
 ·obtain rfl:e0=0:=by simpa using h0
  rw[if_neg (by simp)]at hu;have hck:KH d=0:=by
   by_cases hs:s= []
   ·subst hs;rw[ZMT]at hq;cases hq;rfl
   ·exact(ZGc s d hq hs).2.2.2.2
  obtain⟨hd32,hmay⟩:=ZF2 hck;refine rg tT [4,6] ?_;refine rg tT [4,6,7] ?_;refine WI.ownA 6 159 1 ?_;refine WI.loop (fun φ os=> ∃(j:Nat),φ= [(4,.x (.sl (rows Ys d))),(6,.ref 0 j 0 j),(7,.x (.int .i64 j))]∧os= [.rows false 159 1 (rows Ys ((d.take j).map JF))]∧j≤d.length∧(d.take j).all JM=true) (ZK d.length 7) ?_ (fun φ os hI=> ?_)
  ·exact⟨0,rfl,rfl,by omega,rfl⟩
  ·obtain⟨j,rfl,rfl,hj,hall⟩:=hI;refine nz ?_;refine rg tT [4,6,7,21] ?_;refine cd (fun h1=> ?_) (fun h1=> ?_)
   ·have hj4:j<d.length:=by omega
    have hdj:d[j]=d.getD j []:=by simp[hj4]
    have hmr:Yj (d.getD j [])=true:=by rw[←hdj];exact hmay _ (List.getElem_mem hj4)
    have hst:(d.take (j+1)).map JF=(d.take j).map JF++ [JF (d.getD j [])]:=by rw[List.take_succ_eq_append_getElem hj4,List.map_append,hdj];rfl
    have hall3:(d.take (j+1)).all JM=((d.take j).all JM&&JM (d.getD j [])):=by rw[Zx _ d j hj4,hdj]
    have hnf:JM (d.getD j [])=false→d.all JM=false:=fun h=>ZZ JM d j hj4 (by rw[hdj];exact h)
    have hmd:=ZM hmr;have uu:=ZA uu (ZA (ZFU d j hj4) hmd);refine rg tT [4,6,7,8,9] ?_;refine rg tT [4,6,7,8,33] ?_;refine cd (fun h2=> ?_) (fun h2=> ?_)
    ·have hff:JM (d.getD j [])=false:=by simpa using h2
     rw[if_neg (by rw[hnf hff];decide)]at hu;refine rg tT [2,3] ?_;refine WI.nnA ?_;refine lf ?_;cases hu;rfl
    ·have hff:JM (d.getD j [])=true:=by simpa using h2
     have hall2:(d.take (j+1)).all JM=true:=by rw[hall3,hall,hff];rfl
     rw[hff,if_pos rfl];refine rgp tT [4,6,7] ?_;refine Yo [0] ?_;refine JR ?_;refine nz ?_;refine WI.orderA [4,6,7] ?_;refine rg tT [4,6,7] ?_;exact⟨⟨j+1,rfl,by rw[hst,←ZGO];first|done|rfl,by omega,hall2⟩,by simp[ZK,Ab.get,D.val,ZE];omega⟩
   ·obtain rfl:j=d.length:=by omega
    rw[List.take_length]at hall⊢;rw[if_pos hall]at hu;obtain⟨hn1,hn2⟩:=ZWb hmay;have hnl:(d.map JF).length=d.length:=List.length_map ..;have hcc:(decide (smD (d.map JF))&&(decide ((d.map JF).length≤1000000)&&decide (∀r∈d.map JF,r.length≤1000000)))=true:=by rw[ZM hn1,ZM hn2,ZM (show(d.map JF).length≤1000000 by omega)];rfl
    generalize d.map JF=M at hu hnl hcc⊢;rw[←hnl];have uu:=ZA uu (ZA hcc (ZA (ZH7 M) (@List.take_length _ M)));refine rg tT [2,3] ?_;refine WI.nnA ?_;refine lf ?_;rw[hu]
def ZFN:List D→Option (Bool×D)
 | [.x (.str s)]=>some (true,.tup [.x (.str (Jc s).1),.x (.int .i64 (Jc s).2)])
 |_=>none
theorem ZV2: ∀args r,ZFN args=some (true,r)→ZD Tryz.prog 110 args r:=by
 intro args r h;unfold ZFN at h;split at h
 ·rename_i s;simp only[Zg,Ze,ZY,Zi,true_and]at h;obtain rfl:=h;exact(Zcp s)
 ·cases h
theorem ZH8 (c:UInt8) (r:Tx):Yz (c::r)=(if c=45 then r else c::r)∧ZCW (c::r)=decide (c=45):=by
 by_cases h:c=45
 ·subst h;simp[Yz,ZCW,Lib.trimPrefix,Lib.hasPrefix,List.isPrefixOf]
 ·have h2: ¬45=c:=fun e=>h e.symm
  simp[Yz,ZCW,Lib.trimPrefix,Lib.hasPrefix,List.isPrefixOf,h,h2]
theorem ZdU {c:UInt8}:c=45↔(c.toNat:Int)=45:=⟨fun h=>by rw[h];rfl,fun h=>UInt8.toNat_inj.1 (by show c.toNat=45;omega)⟩
theorem ZWu (c:UInt8):ZA9 c=false↔((c.toNat:Int)<48∨(c.toNat:Int)>57):=by
 unfold ZA9;rw[decide_eq_false_iff_not];omega
theorem ZRF {s:Tx} (h:dgs (Yz s)=true):QI s=(if ZCW s=true∧stp (Yz s)≠ [48]then 45::stp (Yz s)else stp (Yz s),true):=by unfold QI;rw[if_pos h]
theorem ZVj {s:Tx} (h:dgs (Yz s)=false):QI s=([],false):=by unfold QI;rw[if_neg (by rw[h];simp)]
theorem Zed (s:Tx) (hl:s.length≤1000000):ZD Tryz.prog 109 [.x (.str s)] (.tup [.x (.str (QI s).1),.x (.bool (QI s).2)]):=by
 obtain⟨T,hT⟩: ∃T,Yz s=T:=⟨_,rfl⟩;obtain⟨sg,hsg⟩: ∃sg:Tx,sg=if ZCW s=true then [45]else []:=⟨_,rfl⟩
 refine ZN.pure (ZO (fz:=true) ZH (p:=ZSU) rfl _ (ξ rfl) _ (fun C0 E0=> ?_)) rfl;dsimp only[ZSU,qt,qi,qs,qb,qm,qa,qh,qj,qT,qF,qe,ql,qL,qf,q2,q3,q8,qz,qp,qP,qc,qk,qx,qy,qo,qr,qC,ZQ];have uu:=trivial;refine WI.seq ?_;refine WI.regB ZG [0] ?_
 iterate 2 refine oS ?_
 refine oN ?_;refine ZJ ?_;refine WI.seq ?_;refine WI.regB ZG [0,4] ?_;refine oS ?_;refine oN ?_;refine ZJ ?_;refine WI.join (fun φ os=>φ= [(0,.x (.str T)),(4,.x (.str sg))]∧os= []) ?_ (fun φ os hJ=> ?_)
 ·refine WI.seq ?_;refine WI.regB ZG [0,4,12] ?_;refine oS ?_;refine oG (hok:=by first|exact se|(clear uu;grind)|(rcases s with _|⟨c,r⟩<;>simp;done)|exact sd) ?_;refine oS ?_
  iterate 4 refine oG (hok:=by first|exact se|(clear uu;grind)|(rcases s with _|⟨c,r⟩<;>simp;done)|exact sd) ?_
  refine oN ?_;refine ZJ ?_;refine WI.cond (b:=_) rfl rfl (fun h0=> ?_) (fun h0=> ?_)
  ·try simp only[zB]at h0
   have hse:s=s.getD 0 0::s.drop 1:=by rcases s with _|⟨c,r⟩;simp at h0;simp
   have h45:s.getD 0 0=45:=ZdU.2 (by clear uu;grind);have htc:=ZH8 (s.getD 0 0) (s.drop 1);rw[←hse,if_pos h45,ZM h45]at htc;have hq1:T=s.drop 1:=by rw[←hT,htc.1]
   have hq2:sg= [45]:=by rw[hsg,htc.2];rfl
   refine WI.seq ?_;refine WI.regB ZG [0,4] ?_;refine oS ?_;refine oN ?_;refine ZJ ?_;refine WI.regB ZG [0,4] ?_;refine oS ?_;refine oG (hok:=by first|exact se|(clear uu;grind)|(rcases s with _|⟨c,r⟩<;>simp;done)|exact sd) ?_;refine oS ?_;refine oN ?_;refine ZJ ?_;exact⟨by rw[hq1,hq2],rfl⟩
  ·try simp only[zB]at h0
   have hq:T=s∧sg= []:=by
    rcases s with _|⟨c,r⟩
    ·rw[←hT,hsg];simp[Yz,ZCW,Lib.trimPrefix,Lib.hasPrefix]
    ·have h45: ¬c=45:=fun e=>by have:=ZdU.1 e;simp at h0;omega
     have htc:=ZH8 c r;rw[if_neg h45,decide_eq_false h45]at htc;rw[←hT,hsg,htc.1,htc.2];simp
   obtain⟨hq1,hq2⟩:=hq;refine WI.orderA [0,4] ?_;refine WI.skip ?_;refine ZJ ?_;exact⟨by rw[hq1,hq2],rfl⟩
 ·obtain⟨rfl,rfl⟩:=hJ;have hTl:T.length≤s.length:=by
   rw[←hT];rcases s with _|⟨c,r⟩
   ·simp[Yz,Lib.trimPrefix,Lib.hasPrefix]
   ·rw[(ZH8 c r).1];split<;>simp
  refine WI.seq ?_;refine WI.seq ?_;refine WI.regB ZG [0,4,22] ?_;refine oS ?_
  iterate 2 refine oG (hok:=by first|exact se|(clear uu;grind)|(rcases s with _|⟨c,r⟩<;>simp;done)|exact sd) ?_
  refine oS ?_
  iterate 4 refine oG (hok:=by first|exact se|(clear uu;grind)|(rcases s with _|⟨c,r⟩<;>simp;done)|exact sd) ?_
  refine oN ?_;refine ZJ ?_;refine WI.cond (b:=_) rfl rfl (fun h1=> ?_) (fun h1=> ?_)
  ·try simp only[zB]at h1
   refine WI.seq ?_;refine WI.regB ZG [2,3] ?_
   iterate 2 refine oS ?_
   refine oN ?_;refine ZJ ?_;refine WI.ret ?_;refine JE ?_
   first|refine lfR ?_|refine ZE4 ?_|refine ZD1 ?_
   rw[ZVj (by rw[hT];unfold dgs;rw[Bool.and_eq_false_iff];left;rw[decide_eq_false_iff_not];rintro⟨h2,h3⟩;have:=List.length_pos_iff.2 h2;omega)]
  ·try simp only[zB]at h1
   have hT1:1≤T.length∧T.length≤32:=by omega
   refine WI.skip ?_;refine ZJ ?_;refine WI.seq ?_;refine WI.seq ?_;refine WI.regB ZG [0,4,5] ?_;refine oS ?_;refine oN ?_;refine ZJ ?_;refine WI.block ?_;refine WI.loop (fun φ os=> ∃(i:Nat),φ= [(0,.x (.str T)),(4,.x (.str sg)),(5,.x (.int .i64 i))]∧os= []∧i≤T.length∧(T.take i).all ZA9=true) (ZK T.length 5) ?_ (fun φ os hI=> ?_)
   ·exact⟨0,rfl,rfl,by omega,rfl⟩
   ·obtain⟨i,rfl,rfl,hi,hall⟩:=hI;refine WI.seq ?_;refine WI.seq ?_;refine WI.regB ZG [0,4,5,26] ?_
    iterate 2 refine oS ?_
    iterate 2 refine oG (hok:=by first|exact se|(clear uu;grind)|(rcases s with _|⟨c,r⟩<;>simp;done)|exact sd) ?_
    refine oN ?_;refine ZJ ?_;refine WI.cond (b:=_) rfl rfl (fun h2=> ?_) (fun h2=> ?_)
    ·try simp only[zB]at h2
     have hi4:i<T.length:=by omega
     have hgi:T[i]=T.getD i 0:=by simp[hi4]
     refine WI.skip ?_;refine ZJ ?_;refine WI.seq ?_;refine WI.block ?_;refine WI.seq ?_;refine WI.regB ZG [0,4,5,38] ?_
     iterate 2 refine oS ?_
     iterate 2 refine oG (hok:=by first|exact se|(clear uu;grind)|(rcases s with _|⟨c,r⟩<;>simp;done)|exact sd) ?_
     refine oS ?_
     iterate 5 refine oG (hok:=by first|exact se|(clear uu;grind)|(rcases s with _|⟨c,r⟩<;>simp;done)|exact sd) ?_
     refine oN ?_;refine ZJ ?_;refine WI.cond (b:=_) rfl rfl (fun h3=> ?_) (fun h3=> ?_)
     ·try simp only[zB]at h3
      refine WI.seq ?_;refine WI.regB ZG [2,3] ?_
      iterate 2 refine oS ?_
      refine oN ?_;refine ZJ ?_;refine WI.ret ?_;refine Ke ?_;refine JE ?_;refine JE ?_;refine Ke ?_;refine JE ?_
      first|refine lfR ?_|refine ZE4 ?_|refine ZD1 ?_
      rw[ZVj (by rw[hT];unfold dgs;rw[ZRn T ZA9 i hi4 (by rw[hgi];exact(ZWu _).2 (by omega)),Bool.and_false])]
     ·try simp only[zB]at h3
      have hdg:ZA9 T[i]=true:=by rw[hgi];cases hh:ZA9 (T.getD i 0)with|true=>rfl|false=>exact absurd ((ZWu _).1 hh) (by omega)
      refine WI.skip ?_;refine QB ?_;refine ZJ ?_;refine WI.regB ZG [0,4,5] ?_;refine oS ?_;refine oG (hok:=by first|exact se|(clear uu;grind)|(rcases s with _|⟨c,r⟩<;>simp;done)|exact sd) ?_;refine oS ?_;refine oN ?_;refine ZJ ?_;exact⟨⟨i+1,rfl,rfl,by omega,by rw[ZNq T ZA9 i hi4,hall,hdg];rfl⟩,by simp[ZK,Ab.get,D.val,ZE];omega⟩
    ·try simp only[zB]at h2
     have hall2:T.all ZA9=true:=by rw[YL (by omega)]at hall;exact hall
     have hdT:dgs (Yz s)=true:=by rw[hT];unfold dgs;rw[hall2,Bool.and_true];exact ZM ⟨List.length_pos_iff.1 (by omega),by omega⟩
     refine WI.exit ?_;refine Jp ?_;refine Jp ?_;refine ZAu ?_;refine ZJ ?_;refine WI.seq ?_;refine WI.block ?_;refine WI.orderA [0,4] ?_;refine WI.loop (fun φ os=> ∃(t:Tx),φ= [(0,.x (.str t)),(4,.x (.str sg))]∧os= []∧stp t=stp T∧1≤t.length∧t.length≤32) (fun φ _=>match φ with|(_,.x (.str t))::_=>t.length|_=>0) ?_ (fun φ os hI=> ?_)
     ·exact⟨T,rfl,rfl,rfl,by omega,by omega⟩
     ·obtain⟨t,rfl,rfl,ht,htl⟩:=hI;have ht0:t.getD 0 0=t[0]:=by simp[show 0<t.length by omega]
      refine WI.seq ?_;refine WI.seq ?_;refine WI.regB ZG [0,4,46] ?_;refine oS ?_
      iterate 2 refine oG (hok:=by first|exact se|(clear uu;grind)|(rcases s with _|⟨c,r⟩<;>simp;done)|exact sd) ?_
      refine oS ?_
      iterate 4 refine oG (hok:=by first|exact se|(clear uu;grind)|(rcases s with _|⟨c,r⟩<;>simp;done)|exact sd) ?_
      refine oN ?_;refine ZJ ?_;refine WI.cond (b:=_) rfl rfl (fun h4=> ?_) (fun h4=> ?_)
      ·try simp only[zB]at h4
       have ht2:stp (t.drop 1)=stp T:=by rw[←ht,ZOD t (by clear uu;grind) (by rw[←ht0];exact b48.2 (by clear uu;grind))]
       refine WI.skip ?_;refine ZJ ?_;refine WI.block ?_;refine WI.regB ZG [0,4] ?_;refine oS ?_;refine oG (hok:=by first|exact se|(clear uu;grind)|(rcases s with _|⟨c,r⟩<;>simp;done)|exact sd) ?_;refine oS ?_;refine oN ?_;refine QB ?_;refine ZJ ?_;exact⟨⟨t.drop 1,rfl,rfl,ht2,by rw[List.length_drop];omega,by rw[List.length_drop];omega⟩,by simp;omega⟩
      ·try simp only[zB]at h4
       have hts:stp t=t:=ZJW t (fun hh=>by have:=b48.1 (hh.2 (by omega));rw[←ht0]at this;clear uu;grind);have htt:=ht.symm.trans hts;refine WI.exit ?_;refine Jp ?_;refine Jp ?_;refine ZAu ?_;refine ZJ ?_;refine WI.seq ?_;refine WI.seq ?_;refine WI.regB ZG [0,4,50] ?_;refine oS ?_;refine oG (hok:=by first|exact se|(clear uu;grind)|(rcases s with _|⟨c,r⟩<;>simp;done)|exact sd) ?_;refine oN ?_;refine ZJ ?_;refine WI.cond (b:=_) rfl rfl (fun h5=> ?_) (fun h5=> ?_)
       ·try simp only[zB]at h5
        refine WI.seq ?_;refine WI.regB ZG [2,3] ?_
        iterate 3 refine oS ?_
        refine oN ?_;refine ZJ ?_;refine WI.ret ?_;refine JE ?_
        first|refine lfR ?_|refine ZE4 ?_|refine ZD1 ?_
        have h48:t= [48]:=by simpa using h5
        rw[ZRF hdT,hT,htt,h48,if_neg (by simp)]
       ·try simp only[zB]at h5
        refine WI.skip ?_;refine ZJ ?_;refine WI.seq ?_;refine WI.regB ZG [2,3] ?_
        iterate 2 refine oS ?_
        refine oG (hok:=by first|exact se|(clear uu;grind)|(rcases s with _|⟨c,r⟩<;>simp;done)|exact sd) ?_
        iterate 2 refine oS ?_
        refine oN ?_;refine ZJ ?_;refine WI.ret ?_
        first|refine lfR ?_|refine ZE4 ?_|refine ZD1 ?_
        have h48:t≠ [48]:=by simpa using h5
        rw[ZRF hdT,hT,htt,hsg];by_cases hn:ZCW s=true
        ·simp[hn,h48]
        ·simp[hn]
def ZIP:List D→Option (Bool×D)
 | [.x (.str s)]=>some (decide (s.length≤1000000),.tup [.x (.str (QI s).1),.x (.bool (QI s).2)])
 |_=>none
theorem ZZI: ∀args r,ZIP args=some (true,r)→ZD Tryz.prog 109 args r:=by
 intro args r h;unfold ZIP at h;split at h
 ·rename_i s;simp only[Zg,Ze,ZY,Zi,true_and]at h;obtain⟨h1,rfl⟩:=h;exact(Zed s h1)
 ·cases h
def Yd (k:Int) (s:Tx):Tx×Bool:=
 if s.length>4096 then([],false)else if k=1 then(fld s,!(fld s== []))else if k=2 then(blk s,!(blk s== []))else if k=3 then QI s
 else if k=4 then(s,true)else if k=5 then((Jc s).1,(Jc s).2==0)else([],false)
def ZDU:List D→Option (Bool×D)
 | [.x (.str s)]=>some (true,.tup [.x (.str (Jc s).1),.x (.int .i64 (Jc s).2)])
 |_=>none
theorem ZTK: ∀args r,ZDU args=some (true,r)→ZD Tryz.prog 106 args r:=by
 intro args r h;unfold ZDU at h;split at h
 ·rename_i s;simp only[Zg,Ze,ZY,Zi,true_and]at h;obtain rfl:=h;exact(ZbK s)
 ·cases h
def ZIj:List D→Option (Bool×D)
 | [.x (.str s)]=>some (decide (s.length≤1000000),.x (.str (blk s)))
 |_=>none
theorem ZZo: ∀args r,ZIj args=some (true,r)→ZD Tryz.prog 104 args r:=by
 intro args r h;unfold ZIj at h;split at h
 ·rename_i s;simp only[Zg,Ze,ZY,Zi,true_and]at h;obtain⟨h1,rfl⟩:=h;exact(ZNC s h1)
 ·cases h
def ZIK:List D→Option (Bool×D)
 | [.x (.str s)]=>some (true,.tup [.x (.str (QI s).1),.x (.bool (QI s).2)])
 |_=>none
theorem ZZT: ∀args r,ZIK args=some (true,r)→ZD Tryz.prog 105 args r:=by
 intro args r h;unfold ZIK at h;split at h
 ·rename_i s;simp only[Zg,Ze,ZY,Zi,true_and]at h;obtain rfl:=h;exact(Zey s)
 ·cases h
def ZEQ:Tabs:=Za (Za (Za (Za (ZW) 37 Jv) 104 ZIj) 105 ZIK) 106 ZDU
theorem ZUX:SsOk Tryz.prog ZEQ:=ZL (ZL (ZL (ZL (ZG) (ZC ZH (p:=i37) rfl) ZGf) (ZC ZH (p:=ZN0) rfl) ZZo) (ZC ZH (p:=ZK5) rfl) ZZT) (ZC ZH (p:=ZIE) rfl) ZTK
theorem ZTY (a:List D):ZEQ.q 37 a=Jv a:=rfl
theorem ZPe (a:List D):ZEQ.q 104 a=ZIj a:=rfl
theorem ZP5 (a:List D):ZEQ.q 105 a=ZIK a:=rfl
theorem ZPu (a:List D):ZEQ.q 106 a=ZDU a:=rfl
theorem ZZX (f:FuncId) (a:List D) (o:List Ob):ZEQ.r f a o=none:=rfl
theorem ZXk (f:FuncId) (a:List D) (o:List Ob):ZEQ.k f a o=none:=rfl
theorem ZbT (k:Int) (s:Tx):ZD Tryz.prog 65 [.x (.int .i64 k),.x (.str s)] (.tup [.x (.str (Yd k s).1),.x (.bool (Yd k s).2)]):=by
 rcases hu:Yd k s with⟨u,b⟩
 unfold Yd at hu;have hbl:=Zb2 s;have hfl:fld s=ZB (blk s):=rfl;have hll:(ZB s).length=s.length:=by unfold ZB;rw[List.length_map]
 refine ZN.pure (ZO (fz:=true) ZH (p:=i65) rfl _ (ξ rfl) _ (fun C0 E0=> ?_)) rfl;dsimp only[i65,qt,qi,qs,qb,qm,qa,qh,qj,qT,qF,qe,ql,qL,qf,q2,q3,q8,qz,qp,qP,qc,qk,qx,qy,qo,qr,qC,ZQ];have uu:=ZA @Jv.eq_1 (ZA @Jv.eq_2 (ZA @ZIj.eq_1 (ZA @ZIj.eq_2 (ZA @ZIK.eq_1 (ZA @ZIK.eq_2 (ZA @ZDU.eq_1 (ZA @ZDU.eq_2 (ZA hbl (ZA hll (ZA @ZZX (ZA @ZXk (ZA @ZPe (ZA @ZP5 (ZA @ZPu (@ZTY)))))))))))))));have tT:=ZUX;refine nz ?_;refine rg tT [0,1] ?_;refine rg tT [0,1,11] ?_;refine cd (fun h0=> ?_) (fun h0=> ?_)
 ·refine rg tT [4,5] ?_;refine lf ?_
  (clear uu;grind)
 ·refine rg tT [0,1,6] ?_;refine rg tT [1,6,13] ?_;refine rg tT [1,6,13,14] ?_;refine cd (fun h1=> ?_) (fun h1=> ?_)
  ·refine rg tT [6] ?_;refine rg tT [6] ?_;refine rg tT [4,5] ?_;refine lf ?_
   (clear uu;grind)
  ·refine rg tT [1,6,13,16] ?_;refine cd (fun h2=> ?_) (fun h2=> ?_)
   ·refine rg tT [6] ?_;refine rg tT [4,5] ?_;refine lf ?_
    (clear uu;grind)
   ·refine rg tT [1,13,18] ?_;refine cd (fun h3=> ?_) (fun h3=> ?_)
    ·refine rg tT [4,5] ?_;refine lf ?_
     (clear uu;grind)
    ·refine rg tT [1,13,20] ?_;refine cd (fun h4=> ?_) (fun h4=> ?_)
     ·refine rg tT [4,5] ?_;refine lf ?_
      (clear uu;grind)
     ·refine rg tT [1,22] ?_;refine cd (fun h5=> ?_) (fun h5=> ?_)
      ·refine rg tT [7,8] ?_;refine rg tT [4,5] ?_;refine lf ?_
       (clear uu;grind)
      ·refine rg tT [4,5] ?_;refine lf ?_
       (clear uu;grind)
def KZ:List D→Option (Bool×D)
 | [.x (.int .i64 k),.x (.str s)]=>some (true,.tup [.x (.str (Yd k s).1),.x (.bool (Yd k s).2)])
 |_=>none
theorem ZLj: ∀args r,KZ args=some (true,r)→ZD Tryz.prog 65 args r:=by
 intro args r h;unfold KZ at h;split at h
 ·rename_i k s;simp only[Zg,Ze,ZY,Zi,true_and]at h;obtain rfl:=h;exact(ZbT k s)
 ·cases h
def ZDy:Tabs:=Za (Za (Za (Za (ZW) 107 ZCQ) 108 ZCa) 109 ZIP) 110 ZFN
theorem ZXb:SsOk Tryz.prog ZDy:=ZL (ZL (ZL (ZL (ZG) (ZC ZH (p:=ZN4) rfl) ZPE) (ZC ZH (p:=ZNP) rfl) ZOm) (ZC ZH (p:=ZSU) rfl) ZZI) (ZC ZH (p:=ZSq) rfl) ZV2
theorem ZPf (a:List D):ZDy.q 107 a=ZCQ a:=rfl
theorem ZPj (a:List D):ZDy.q 108 a=ZCa a:=rfl
theorem ZPT (a:List D):ZDy.q 109 a=ZIP a:=rfl
theorem ZQK (a:List D):ZDy.q 110 a=ZFN a:=rfl
theorem ZZ8 (f:FuncId) (a:List D) (o:List Ob):ZDy.r f a o=none:=rfl
theorem ZYA (f:FuncId) (a:List D) (o:List Ob):ZDy.k f a o=none:=rfl
theorem ZZW (k:Int) (s:Tx):ZD Tryz.prog 70 [.x (.int .i64 k),.x (.str s)] (.tup [.x (.str (Yd k s).1),.x (.bool (Yd k s).2)]):=by
 rcases hu:Yd k s with⟨u,b⟩
 unfold Yd at hu;refine ZN.pure (ZO (fz:=true) ZH (p:=i70) rfl _ (ξ rfl) _ (fun C0 E0=> ?_)) rfl;dsimp only[i70,qt,qi,qs,qb,qm,qa,qh,qj,qT,qF,qe,ql,qL,qf,q2,q3,q8,qz,qp,qP,qc,qk,qx,qy,qo,qr,qC,ZQ];have uu:=ZA @ZCQ.eq_1 (ZA @ZCQ.eq_2 (ZA @ZCa.eq_1 (ZA @ZCa.eq_2 (ZA @ZIP.eq_1 (ZA @ZIP.eq_2 (ZA @ZFN.eq_1 (ZA @ZFN.eq_2 (ZA @ZZ8 (ZA @ZYA (ZA @ZPf (ZA @ZPj (ZA @ZPT (@ZQK)))))))))))));have tT:=ZXb;refine nz ?_;refine rg tT [0,1] ?_;refine rg tT [0,1,12] ?_;refine cd (fun h0=> ?_) (fun h0=> ?_)
 ·refine rg tT [4,5] ?_;refine lf ?_
  (clear uu;grind)
 ·refine rg tT [1,13] ?_;refine rg tT [1,13,14] ?_;refine cd (fun h1=> ?_) (fun h1=> ?_)
  ·refine rg tT [6] ?_;refine rg tT [4,5] ?_;refine lf ?_
   (clear uu;grind)
  ·refine rg tT [1,13,21] ?_;refine cd (fun h2=> ?_) (fun h2=> ?_)
   ·refine rg tT [7] ?_;refine rg tT [4,5] ?_;refine lf ?_
    (clear uu;grind)
   ·refine rg tT [1,13,28] ?_;refine cd (fun h3=> ?_) (fun h3=> ?_)
    ·refine rg tT [4,5] ?_;refine lf ?_
     (clear uu;grind)
    ·refine rg tT [1,13,34] ?_;refine cd (fun h4=> ?_) (fun h4=> ?_)
     ·refine rg tT [4,5] ?_;refine lf ?_
      (clear uu;grind)
     ·refine rg tT [1,37] ?_;refine cd (fun h5=> ?_) (fun h5=> ?_)
      ·refine rg tT [8,9] ?_;refine rg tT [4,5] ?_;refine lf ?_
       (clear uu;grind)
      ·refine rg tT [4,5] ?_;refine lf ?_
       (clear uu;grind)
def ZAF:List D→Option (Bool×D)
 | [.x (.int .i64 k),.x (.str s)]=>some (true,.tup [.x (.str (Yd k s).1),.x (.bool (Yd k s).2)])
 |_=>none
theorem ZKt: ∀args r,ZAF args=some (true,r)→ZD Tryz.prog 70 args r:=by
 intro args r h;unfold ZAF at h;split at h
 ·rename_i k s;simp only[Zg,Ze,ZY,Zi,true_and]at h;obtain rfl:=h;exact(ZZW k s)
 ·cases h
def eqV (k:Int) (a b:Tx):Int:=if(Yd k a).2=true∧(Yd k b).2=true then(if(Yd k a).1=(Yd k b).1 then 1 else 0)else 2
theorem ZYn (b:Bool):ZD Tryz.prog 122 [.x (.bool b)] (.x (.int .i64 (if b=true then 1 else 0))):=by
 refine ZN.pure (ZO (fz:=true) ZH (p:=ZSS) rfl _ (ξ rfl) _ (fun C0 E0=> ?_)) rfl;dsimp only[ZSS,qt,qi,qs,qb,qm,qa,qh,qj,qT,qF,qe,ql,qL,qf,q2,q3,q8,qz,qp,qP,qc,qk,qx,qy,qo,qr,qC,ZQ];have uu:=trivial;have tT:=(ZG:SsOk Tryz.prog ZW);refine nz ?_;refine rg tT [0] ?_;refine rg tT [3] ?_;refine cd (fun h0=> ?_) (fun h0=> ?_)
 ·refine rg tT [2] ?_;refine lf ?_
  (clear uu;grind)
 ·refine rg tT [2] ?_;refine lf ?_
  (clear uu;grind)
def ZDc:List D→Option (Bool×D)
 | [.x (.bool b)]=>some (true,.x (.int .i64 (if b=true then 1 else 0)))
 |_=>none
theorem ZTf: ∀args r,ZDc args=some (true,r)→ZD Tryz.prog 122 args r:=by
 intro args r h;unfold ZDc at h;split at h
 ·rename_i b;simp only[Zg,Ze,ZY,Zi,true_and]at h;obtain rfl:=h;exact(ZYn b)
 ·cases h
def ZHg:Tabs:=Za (Za (ZW) 70 ZAF) 122 ZDc
theorem ZV1:SsOk Tryz.prog ZHg:=ZL (ZL (ZG) (ZC ZH (p:=i70) rfl) ZKt) (ZC ZH (p:=ZSS) rfl) ZTf
theorem ZS7 (a:List D):ZHg.q 70 a=ZAF a:=rfl
theorem ZQE (a:List D):ZHg.q 122 a=ZDc a:=rfl
theorem ZaF (f:FuncId) (a:List D) (o:List Ob):ZHg.r f a o=none:=rfl
theorem ZYp (f:FuncId) (a:List D) (o:List Ob):ZHg.k f a o=none:=rfl
theorem ZUB (k:Int) (a b:Tx):ZD Tryz.prog 91 [.x (.int .i64 k),.x (.str a),.x (.str b)] (.x (.int .i64 (eqV k a b))):=by
 rcases hu:eqV k a b with u
 unfold eqV at hu;refine ZN.pure (ZO (fz:=true) ZH (p:=i91) rfl _ (ξ rfl) _ (fun C0 E0=> ?_)) rfl;dsimp only[i91,qt,qi,qs,qb,qm,qa,qh,qj,qT,qF,qe,ql,qL,qf,q2,q3,q8,qz,qp,qP,qc,qk,qx,qy,qo,qr,qC,ZQ];have uu:=ZA @ZAF.eq_1 (ZA @ZAF.eq_2 (ZA @ZDc.eq_1 (ZA @ZDc.eq_2 (ZA @ZaF (ZA @ZYp (ZA @ZQE (@ZS7)))))));have tT:=ZV1;refine nz ?_;refine rg tT [0,1,2] ?_;refine rg tT [0,2,7,8] ?_;refine rg tT [7,8,9,10] ?_;refine rg tT [7,9,28] ?_;refine cd (fun h0=> ?_) (fun h0=> ?_)
 ·refine rg tT [6] ?_;refine lf ?_
  (clear uu;grind)
 ·refine rg tT [6] ?_;refine lf ?_
  (clear uu;grind)
def ZCF:List D→Option (Bool×D)
 | [.x (.int .i64 k),.x (.str a),.x (.str b)]=>some (true,.x (.int .i64 (eqV k a b)))
 |_=>none
theorem ZPk: ∀args r,ZCF args=some (true,r)→ZD Tryz.prog 91 args r:=by
 intro args r h;unfold ZCF at h;split at h
 ·rename_i k a b;simp only[Zg,Ze,ZY,Zi,true_and]at h;obtain rfl:=h;exact(ZUB k a b)
 ·cases h
abbrev Zb:=Tx×(Int×(Bool×Unit))
abbrev Zn:RC Zb:=YZ ZI (YZ (Qu .i64) (YZ ZDP Kw))
theorem YG:Zn.Good:=YN ZT (YN (QF .i64) (YN ZJu QK))
abbrev Zk:=Tx×(List Tx×(List Tx×Unit))
abbrev Zu:RC Zk:=YZ ZI (YZ (Qi ZI) (YZ (Qi ZI) Kw))
theorem YM:Zu.Good:=YN ZT (YN (KW ZT) (YN (KW ZT) QK))
def ZPK (t:Zb):Zb:=(ZB t.1,t.2)
def ZAx (c:Zk):Zk:=(ZB c.1,c.2.1.map ZB,c.2.2.1.map ZB,())
def Zs (T:List Zb):List (Tx×Zb):=T.map fun t=>(ZB t.1,ZPK t)
def YJ (C:List Zk):List (Tx×Zk):=C.map fun c=>(ZB c.1,ZAx c)
def Kj (L:List (Tx×Zb)):List Pr:=YU Jg Zn.enc L
def Kv (M:List (Tx×Zk)):List Pr:=YU Jg Zu.enc M
abbrev QG (L:List (Tx×Zb)) (M:List (Tx×Zk)):List Ob:= [.box [.mref 1,.mref 2],.mpo .str true (Kj L),.mpo .str true (Kv M)]
def JH (L:List (Tx×Zb)) (k:Tx):Zb:=(ZS L k).getD ([],0,false,())
def clV (M:List (Tx×Zk)) (k:Tx):Zk:=(ZS M k).getD ([],[],[],())
def Ka (t:Zb):D:= .agg [.x (.str t.1),.x (.int .i64 t.2.1),.x (.bool t.2.2.1)]
def clD (c:Zk):D:= .agg [.x (.str c.1),.x (.sl (rows ZI c.2.1)),.x (.sl (rows ZI c.2.2.1))]
theorem Zd7 (L:List (Tx×Zb)) (k:Tx):JA (Kj L) [X.str k]=(ZS L k).map fun t=> [.x (.str t.1),.x (.int .i64 t.2.1),.x (.bool t.2.2.1)]:=by
 unfold Kj;rw[ZD4 Jg Zn.enc hkS L k];rfl
theorem ZdX (M:List (Tx×Zk)) (k:Tx):JA (Kv M) [X.str k]=(ZS M k).map fun c=> [.x (.str c.1),.x (.sl (rows ZI c.2.1)),.x (.sl (rows ZI c.2.2.1))]:=by
 unfold Kv;rw[ZD4 Jg Zu.enc hkS M k];rfl
theorem ZdZ (L:List (Tx×Zb)) (k:Tx) (t:Zb):Ya (Kj L) [X.str k] [.x (.str t.1),.x (.int .i64 t.2.1),.x (.bool t.2.2.1)]=Kj (JB L k t):=ZCP Jg Zn.enc hkS L k t
theorem Zdo (M:List (Tx×Zk)) (k:Tx) (c:Zk):Ya (Kv M) [X.str k] [.x (.str c.1),.x (.sl (rows ZI c.2.1)),.x (.sl (rows ZI c.2.2.1))]=Kv (JB M k c):=ZCP Jg Zu.enc hkS M k c
theorem ZAA (f:Nat→Nat) (L:List (Tx×Zb)):(Kj L).map (Yt f)=Kj L:=KX _ _ _ _
theorem ZAE (f:Nat→Nat) (M:List (Tx×Zk)):(Kv M).map (Yt f)=Kv M:=KX _ _ _ _
theorem ZBE (L:List (Tx×Zb)):ZBv (Kj L)= []:=Qq _ _ _
theorem ZBG (M:List (Tx×Zk)):ZBv (Kv M)= []:=Qq _ _ _
theorem Km (p:Nat→Bool) (L:List (Tx×Zb)):(Kj L).all (Qj p)=true:=KM _ _ _ _
theorem Ks (p:Nat→Bool) (M:List (Tx×Zk)):(Kv M).all (Qj p)=true:=KM _ _ _ _
theorem Zam (ρ:List Nat) (os:List Ob) (L:List (Tx×Zb)):(Kj L).map (Qm (Kn ρ os))=Kj L:=ZCB _ _ _ _ _
theorem ZaW (ρ:List Nat) (os:List Ob) (M:List (Tx×Zk)):(Kv M).map (Qm (Kn ρ os))=Kv M:=ZCB _ _ _ _ _
theorem ZEd (L:List (Tx×Zb)):KY ZI Zn (Kj L)=some L:=ZS1 ZT YG L
theorem ZEj (M:List (Tx×Zk)):KY ZI Zu (Kv M)=some M:=ZS1 ZT YM M
theorem QZ (L:List (Tx×Zb)) (M:List (Tx×Zk)):(QG L M).all (Ob.inP (fun i=>decide (i<(QG L M).length)))=true:=by
 simp[Ob.inP,YY,D.inP,Km,Ks]
def YI:List D→Option (Bool×D)
 | [.x (.str s)]=>some (decide (s.length≤140737488355328),.x (.str (ZB s)))
 |_=>none
theorem ZAy: ∀args r,YI args=some (true,r)→ZD Tryz.prog 37 args r:=by
 intro args r h;unfold YI at h;split at h
 ·rename_i s;simp only[Zg,Ze,ZY,Zi,true_and]at h;obtain⟨h1,rfl⟩:=h;exact(ZLA s h1)
 ·cases h
def ZKf:Tabs:=Za (ZW) 37 YI
theorem ZMb:SsOk Tryz.prog ZKf:=ZL (ZG) (ZC ZH (p:=i37) rfl) ZAy
theorem ZKj (a:List D):ZKf.q 37 a=YI a:=rfl
theorem ZOl (f:FuncId) (a:List D) (o:List Ob):ZKf.r f a o=none:=rfl
theorem ZNK (f:FuncId) (a:List D) (o:List Ob):ZKf.k f a o=none:=rfl
theorem ZVE (L:List (Tx×Zb)) (M:List (Tx×Zk)) (n:Tx) (hn:n.length≤140737488355328):ZV Tryz.prog 36 [.ptr 0 0,.x (.str n)] (QG L M) (.tup [Ka (JH L (ZB n)),.x (.bool (ZS L (ZB n)).isSome)]) (QG L M):=by
 have hg:=Zd7 L (ZB n);have hO:=QZ L M;unfold JH;rcases hm:ZS L (ZB n)with _|⟨a,k,b,u⟩
 ·rw[hm,Option.map_none]at hg;refine ZN.mcallsX (ZO (fz:=true) ZH (p:=i36) rfl _ (ξ rfl) _ (fun C0 E0=> ?_)) (by first|decide|(simp;done)) hO (by first|rfl|exact hR);dsimp only[i36,qt,qi,qs,qb,qm,qa,qh,qj,qT,qF,qe,ql,qL,qf,q2,q3,q8,qz,qp,qP,qc,qk,qx,qy,qo,qr,qC,ZQ];have uu:=ZA @YI.eq_1 (ZA @YI.eq_2 (ZA hg (ZA @ZOl (ZA @ZNK (@ZKj)))));have tT:=ZMb;refine nz ?_;refine rg tT [0,1,4] ?_;refine WI.dregB tT [4,6,7] ?_
  iterate 3 refine Zo ?_
  refine YK ?_;refine Zo ?_;refine QV ?_;refine YK ?_;refine Zo ?_
  iterate 2 refine Ym ?_
  refine dKG ?_;refine dAG ?_;refine Zo ?_;refine dN ?_;refine nz ?_;refine rg tT [4,5] ?_;refine lf ?_;exact⟨rfl,_,rfl⟩
 ·rw[hm,Option.map_some]at hg;refine ZN.mcallsX (ZO (fz:=true) ZH (p:=i36) rfl _ (ξ rfl) _ (fun C0 E0=> ?_)) (by first|decide|(simp;done)) hO (by first|rfl|exact hR);dsimp only[i36,qt,qi,qs,qb,qm,qa,qh,qj,qT,qF,qe,ql,qL,qf,q2,q3,q8,qz,qp,qP,qc,qk,qx,qy,qo,qr,qC,ZQ];have uu:=ZA @YI.eq_1 (ZA @YI.eq_2 (ZA hg (ZA @ZOl (ZA @ZNK (@ZKj)))));have tT:=ZMb;refine nz ?_;refine rg tT [0,1,4] ?_;refine WI.dregB tT [4,6,7] ?_
  iterate 3 refine Zo ?_
  refine YK ?_;refine Zo ?_;refine QV ?_;refine YK ?_;refine Zo ?_
  iterate 2 refine Ym ?_
  refine dKG ?_;refine dAG ?_;refine Zo ?_;refine dN ?_;refine nz ?_;refine rg tT [4,5] ?_;refine lf ?_;exact⟨rfl,_,rfl⟩
def ZCV:List D→List Ob→Option (Bool×D×List Ob)
 | [.ptr 0 0,.x (.str n)],[.box [.mref 1,.mref 2],.mpo .str true P1,.mpo .str true P2]=>(KY ZI Zn P1).bind fun L=>(KY ZI Zu P2).bind fun M=>some (decide (n.length≤140737488355328),.tup [Ka (JH L (ZB n)),.x (.bool (ZS L (ZB n)).isSome)],[.box [.mref 1,.mref 2],.mpo .str true (Kj L),.mpo .str true (Kv M)])
 |_,_=>none
theorem ZNe: ∀args os r os',ZCV args os=some (true,r,os')→ZV Tryz.prog 36 args os r os':=by
 intro args os r os' h;unfold ZCV at h;split at h
 ·rename_i n P1 P2;obtain⟨L,hm0,h⟩:=Zp h;obtain⟨M,hm1,h⟩:=Zp h;simp only[Zg,Ze,ZY,Zi,true_and]at h;obtain⟨h1,rfl,rfl⟩:=h;rw[Yl ZT YG hm0];rw[Yl ZT YM hm1];exact ZVE L M n h1
 ·cases h
def ZAD:List D→List Ob→Option (Bool×D)
 | [.ptr 0 0,.x (.str n)],[.box [.mref 1,.mref 2],.mpo .str true P1,.mpo .str true P2]=>(KY ZI Zn P1).bind fun L=>(KY ZI Zu P2).bind fun M=>some (decide (n.length≤140737488355328),.tup [Ka (JH L (ZB n)),.x (.bool (ZS L (ZB n)).isSome)])
 |_,_=>none
theorem ZL9: ∀args os r,ZAD args os=some (true,r)→r.clean=true∧ ∃X,ZV Tryz.prog 36 args os r (os++X):=by
 intro args os r h;unfold ZAD at h;split at h
 ·rename_i n P1 P2;obtain⟨L,hm0,h⟩:=Zp h;obtain⟨M,hm1,h⟩:=Zp h;simp only[Zg,Ze,ZY,Zi,true_and]at h;obtain⟨h1,rfl⟩:=h;rw[Yl ZT YG hm0];rw[Yl ZT YM hm1];exact⟨rfl,[],by rw[List.append_nil];exact ZVE L M n h1⟩
 ·cases h
def ZHf:Tabs:=ZJE (ZW) 36 ZAD
theorem QD:SsOk Tryz.prog ZHf:=ZIh (ZG) (ZC ZH (p:=i36) rfl) ZL9
theorem ZSd (a:List D):ZHf.q 36 a=none:=rfl
theorem ZSu (a:List D) (o:List Ob):ZHf.t 36 a o=(Kt ZAD a o).map fun r=>(r.1,r.2,o):=rfl
theorem ZTn (a:List D) (o:List Ob):ZHf.r 36 a o=Kt ZAD a o:=rfl
theorem ZYx (f:FuncId) (a:List D) (o:List Ob):ZHf.k f a o=none:=rfl
def ZHY:Tabs:=JT (ZW) 36 ZCV
theorem ZVb:SsOk Tryz.prog ZHY:=Ye (ZG) (ZC ZH (p:=i36) rfl) ZNe
theorem ZTN (a:List D):ZHY.q 36 a=none:=rfl
theorem ZSH (a:List D) (o:List Ob):ZHY.t 36 a o=YW ZCV a o:=rfl
theorem ZZG (f:FuncId) (a:List D) (o:List Ob):ZHY.r f a o=none:=rfl
theorem ZYM (f:FuncId) (a:List D) (o:List Ob):ZHY.k f a o=none:=rfl
theorem ZeI (L:List (Tx×Zb)) (M:List (Tx×Zk)) (n:Tx) (hn:n.length≤140737488355328):ZV Tryz.prog 12 [.ptr 0 0,.x (.str n)] (QG L M) (.tup [Ka (JH L (ZB n)),.x (.bool (ZS L (ZB n)).isSome)]) (QG L M):=by
 have hO:=QZ L M;have h1:=ZEd L;have h2:=ZEj M;unfold Ka;refine ZN.mcallsX (ZO (fz:=true) ZH (p:=i12) rfl _ (ξ rfl) _ (fun C0 E0=> ?_)) (by first|decide|(simp;done)) hO (by first|rfl|exact hR);dsimp only[i12,qt,qi,qs,qb,qm,qa,qh,qj,qT,qF,qe,ql,qL,qf,q2,q3,q8,qz,qp,qP,qc,qk,qx,qy,qo,qr,qC,ZQ];have uu:=ZA @ZCV.eq_1 (ZA @ZCV.eq_2 (ZA h1 (ZA h2 (ZA @Ka.eq_1 (ZA @ZAA (ZA @ZAE (ZA @ZBE (ZA @ZBG (ZA @Km (ZA @Ks (ZA @ZZG (ZA @ZYM (ZA @ZTN (@ZSH))))))))))))));have tT:=ZVb;refine nz ?_;refine rg tT [0,1,4] ?_;refine rg tT [0,1,4,7] ?_;refine ce (fun h0=> ?_) (fun h0=> ?_)
 ·simp at h0
 ·refine rg tT [4,5] ?_;refine lf ?_;exact⟨rfl,_,rfl⟩
def ZIR:List D→List Ob→Option (Bool×D×List Ob)
 | [.ptr 0 0,.x (.str n)],[.box [.mref 1,.mref 2],.mpo .str true P1,.mpo .str true P2]=>(KY ZI Zn P1).bind fun L=>(KY ZI Zu P2).bind fun M=>some (decide (n.length≤140737488355328),.tup [Ka (JH L (ZB n)),.x (.bool (ZS L (ZB n)).isSome)],[.box [.mref 1,.mref 2],.mpo .str true (Kj L),.mpo .str true (Kv M)])
 |_,_=>none
theorem ZX4: ∀args os r os',ZIR args os=some (true,r,os')→ZV Tryz.prog 12 args os r os':=by
 intro args os r os' h;unfold ZIR at h;split at h
 ·rename_i n P1 P2;obtain⟨L,hm0,h⟩:=Zp h;obtain⟨M,hm1,h⟩:=Zp h;simp only[Zg,Ze,ZY,Zi,true_and]at h;obtain⟨h1,rfl,rfl⟩:=h;rw[Yl ZT YG hm0];rw[Yl ZT YM hm1];exact ZeI L M n h1
 ·cases h
def ZJw:Tabs:=Za (ZW) 37 YI
theorem ZLk:SsOk Tryz.prog ZJw:=ZL (ZG) (ZC ZH (p:=i37) rfl) ZAy
theorem ZKP (a:List D):ZJw.q 37 a=YI a:=rfl
theorem ZNT (f:FuncId) (a:List D) (o:List Ob):ZJw.r f a o=none:=rfl
theorem ZOJ (f:FuncId) (a:List D) (o:List Ob):ZJw.k f a o=none:=rfl
theorem Zc3 (L:List (Tx×Zb)) (M:List (Tx×Zk)) (n:Tx) (hn:n.length≤140737488355328):ZV Tryz.prog 14 [.ptr 0 0,.x (.str n)] (QG L M) (.tup [clD (clV M (ZB n)),.x (.bool (ZS M (ZB n)).isSome)]) (QG L M):=by
 have hg:=ZdX M (ZB n);have hO:=QZ L M;unfold clV;rcases hm:ZS M (ZB n)with _|⟨a,m,y,u⟩
 ·rw[hm,Option.map_none]at hg;refine ZN.mcallsX (ZO (fz:=true) ZH (p:=i14) rfl _ (ξ rfl) _ (fun C0 E0=> ?_)) (by first|decide|(simp;done)) hO (by first|rfl|exact hR);dsimp only[i14,qt,qi,qs,qb,qm,qa,qh,qj,qT,qF,qe,ql,qL,qf,q2,q3,q8,qz,qp,qP,qc,qk,qx,qy,qo,qr,qC,ZQ];have uu:=ZA @YI.eq_1 (ZA @YI.eq_2 (ZA hg (ZA @ZNT (ZA @ZOJ (@ZKP)))));have tT:=ZLk;refine nz ?_;refine rg tT [0,1,4] ?_;refine rg tT [0,1,4,9] ?_;refine ce (fun h0=> ?_) (fun h0=> ?_)
  ·simp at h0
  ·refine WI.dregB tT [4,6,7] ?_
   iterate 4 refine Zo ?_
   refine YK ?_;refine Zo ?_;refine QV ?_;refine YK ?_;refine Zo ?_
   iterate 2 refine Ym ?_
   refine dKG ?_;refine dAG ?_;refine Zo ?_;refine dN ?_;refine nz ?_;refine rg tT [4,5] ?_;refine WI.nnA ?_;refine lf ?_;exact⟨rfl,_,rfl⟩
 ·rw[hm,Option.map_some]at hg;refine ZN.mcallsX (ZO (fz:=true) ZH (p:=i14) rfl _ (ξ rfl) _ (fun C0 E0=> ?_)) (by first|decide|(simp;done)) hO (by first|rfl|exact hR);dsimp only[i14,qt,qi,qs,qb,qm,qa,qh,qj,qT,qF,qe,ql,qL,qf,q2,q3,q8,qz,qp,qP,qc,qk,qx,qy,qo,qr,qC,ZQ];have uu:=ZA @YI.eq_1 (ZA @YI.eq_2 (ZA hg (ZA @ZNT (ZA @ZOJ (@ZKP)))));have tT:=ZLk;refine nz ?_;refine rg tT [0,1,4] ?_;refine rg tT [0,1,4,9] ?_;refine ce (fun h0=> ?_) (fun h0=> ?_)
  ·simp at h0
  ·refine WI.dregB tT [4,6,7] ?_
   iterate 4 refine Zo ?_
   refine YK ?_;refine Zo ?_;refine QV ?_;refine YK ?_;refine Zo ?_
   iterate 2 refine Ym ?_
   refine dKG ?_;refine dAG ?_;refine Zo ?_;refine dN ?_;refine nz ?_;refine rg tT [4,5] ?_;refine lf ?_;exact⟨rfl,_,rfl⟩
def ZBF:List D→List Ob→Option (Bool×D×List Ob)
 | [.ptr 0 0,.x (.str n)],[.box [.mref 1,.mref 2],.mpo .str true P1,.mpo .str true P2]=>(KY ZI Zn P1).bind fun L=>(KY ZI Zu P2).bind fun M=>some (decide (n.length≤140737488355328),.tup [clD (clV M (ZB n)),.x (.bool (ZS M (ZB n)).isSome)],[.box [.mref 1,.mref 2],.mpo .str true (Kj L),.mpo .str true (Kv M)])
 |_,_=>none
theorem ZL6: ∀args os r os',ZBF args os=some (true,r,os')→ZV Tryz.prog 14 args os r os':=by
 intro args os r os' h;unfold ZBF at h;split at h
 ·rename_i n P1 P2;obtain⟨L,hm0,h⟩:=Zp h;obtain⟨M,hm1,h⟩:=Zp h;simp only[Zg,Ze,ZY,Zi,true_and]at h;obtain⟨h1,rfl,rfl⟩:=h;rw[Yl ZT YG hm0];rw[Yl ZT YM hm1];exact Zc3 L M n h1
 ·cases h
theorem Zek (b:Bool) (c:Int):ZD Tryz.prog 40 [.x (.bool b),.x (.int .i64 c)] (.x (.int .i64 (if b=true then c else 0))):=by
 refine ZN.pure (ZO (fz:=true) ZH (p:=i40) rfl _ (ξ rfl) _ (fun C0 E0=> ?_)) rfl;dsimp only[i40,qt,qi,qs,qb,qm,qa,qh,qj,qT,qF,qe,ql,qL,qf,q2,q3,q8,qz,qp,qP,qc,qk,qx,qy,qo,qr,qC,ZQ];have uu:=trivial;have tT:=(ZG:SsOk Tryz.prog ZW);refine nz ?_;refine rg tT [0,1] ?_;refine rg tT [1,5] ?_;refine cd (fun h0=> ?_) (fun h0=> ?_)
 ·refine rg tT [4] ?_;refine lf ?_
  (clear uu;grind)
 ·refine rg tT [4] ?_;refine lf ?_
  (clear uu;grind)
def KG:List D→Option (Bool×D)
 | [.x (.bool b),.x (.int .i64 c)]=>some (true,.x (.int .i64 (if b=true then c else 0)))
 |_=>none
theorem ZJT: ∀args r,KG args=some (true,r)→ZD Tryz.prog 40 args r:=by
 intro args r h;unfold KG at h;split at h
 ·rename_i b c;simp only[Zg,Ze,ZY,Zi,true_and]at h;obtain rfl:=h;exact(Zek b c)
 ·cases h
def QY (k:Int) (v:Tx):Tx:=(Yd k v).1
def Qv (k:Int) (l:List Tx):List (Tx×Int):=l.map fun v=>(QY k v,(1:Int))
def twV (k:Int) (l:List Tx):Bool:= !decide (l.map (QY k)).Nodup
theorem ZG3 (k:Int): ∀(l:List Tx) (x:Tx),ZS (Qv k l) x=if x∈l.map (QY k)then some 1 else none
 | [],x=>by simp[Qv,ZS]
 |v::l,x=>by
  have ih:=ZG3 k l x;by_cases h:x=QY k v
  ·simp[Qv,ZS,h]
  ·have e:(x∈(v::l).map (QY k))=(x∈l.map (QY k)):=by simp[h]
   have e2:ZS (Qv k (v::l)) x=ZS (Qv k l) x:=by simp[Qv,ZS,h]
   rw[e2,ih];simp only[e]
theorem ZVS (k:Int) (l:List Tx) (x:Tx):JA (YU Jg Kg (Qv k l)) [X.str x]=if x∈l.map (QY k)then some [D.x (X.int .i64 1)]else none:=by
 rw[ZD4 Jg Kg hkS (Qv k l) x,ZG3];split<;>rfl
theorem ZU2 (k:Int) (l:List Tx) (v:Tx) (h:QY k v∉l.map (QY k)):Ya (YU Jg Kg (Qv k l)) [X.str (QY k v)] [D.x (X.int .i64 1)]=YU Jg Kg (Qv k (l++ [v])):=by
 have e:=ZCP Jg Kg hkS (Qv k l) (QY k v) 1;rw[ZGq (by rw[ZG3,if_neg h])]at e;have e2:Qv k (l++ [v])=Qv k l++ [(QY k v,1)]:=by simp[Qv]
 rw[e2];exact e
theorem Yg (l:List Tx) (j:Nat) (h:j<l.length):(rows ZI l)[j]? =some [X.str (l.getD j [])]:=by
 simp[rows,h,ZI]
theorem ZdR (k:Int) (l:List Tx) (j:Nat) (h:j<l.length) (hin:QY k (l.getD j [])∈(l.take j).map (QY k)):twV k l=true:=by
 unfold twV;rw[Bool.not_eq_true',decide_eq_false_iff_not];intro hn;have e:l=l.take j++l.getD j []::l.drop (j+1):=by
  have:=List.take_append_drop j l;rw[List.drop_eq_getElem_cons h]at this;rw[show l.getD j []=l[j] by simp[h]];exact this.symm
 rw[e,List.map_append,List.map_cons]at hn;have:=(List.nodup_append.1 hn).2.2 _ hin _ (List.mem_cons_self);exact this rfl
def ZJ4:Tabs:=Za (ZW) 65 KZ
theorem ZUA:SsOk Tryz.prog ZJ4:=ZL (ZG) (ZC ZH (p:=i65) rfl) ZLj
theorem ZTP (a:List D):ZJ4.q 65 a=KZ a:=rfl
theorem ZZN (f:FuncId) (a:List D) (o:List Ob):ZJ4.r f a o=none:=rfl
theorem ZZC (f:FuncId) (a:List D) (o:List Ob):ZJ4.k f a o=none:=rfl
theorem Zbo (k:Int) (l:List Tx) (hl:l.length≤1000000):ZD Tryz.prog 67 [.x (.int .i64 k),.x (.sl (rows ZI l))] (.x (.bool (twV k l))):=by
 refine ZN.pure (ZO (fz:=true) ZH (p:=i67) rfl _ (ξ rfl) _ (fun C0 E0=> ?_)) rfl;dsimp only[i67,qt,qi,qs,qb,qm,qa,qh,qj,qT,qF,qe,ql,qL,qf,q2,q3,q8,qz,qp,qP,qc,qk,qx,qy,qo,qr,qC,ZQ];have uu:=ZA @KZ.eq_1 (ZA @KZ.eq_2 (ZA @ZZN (ZA @ZZC (@ZTP))));have tT:=ZUA;refine nz ?_;refine rg tT [0,1] ?_;refine rg tT [0,1,5] ?_;refine rg tT [0,5,11,12,13] ?_;refine WI.loop (fun φ os=> ∃(j:Nat),φ= [(0,.x (.int .i64 k)),(5,.mref 0),(11,.x (.sl (rows ZI l))),(12,.x (.int .i64 l.length)),(13,.x (.int .i64 j))]∧os= [.mpo .str false (YU Jg Kg (Qv k (l.take j)))]∧j≤l.length∧((l.take j).map (QY k)).Nodup) (ZK l.length 13) ?_ (fun φ os hI=> ?_)
 ·exact⟨0,rfl,rfl,by omega,by simp⟩
 ·obtain⟨j,rfl,rfl,hj,hnd⟩:=hI;refine nz ?_;refine rg tT [0,5,11,12,13,14] ?_;refine cd (fun h0=> ?_) (fun h0=> ?_)
  ·have hj4:j<l.length:=by omega
   have hrw:=Yg l j hj4;have hgt:=ZVS k (l.take j) (QY k (l.getD j []));have htk:l.take (j+1)=l.take j++ [l.getD j []]:=by rw[List.take_succ_eq_append_getElem hj4];simp[hj4]
   have hnk:(Yd k (l.getD j [])).1=QY k (l.getD j []):=rfl;have uu:=ZA uu (ZA hrw hnk);refine rg tT [0,5,7,11,12,13] ?_;refine rg tT [0,5,8,11,12,13] ?_;by_cases hin:QY k (l.getD j [])∈(l.take j).map (QY k)
   ·rw[if_pos hin]at hgt;have uu:=ZA uu hgt;refine rg tT [0,5,8,11,12,13,26] ?_;refine ct (fun h1=> ?_) (fun h1=> ?_)
    ·refine rg tT [4] ?_;refine lf ?_;rw[ZdR k l j hj4 hin]
    ·simp at h1
   ·rw[if_neg hin]at hgt;have hset:=ZU2 k (l.take j) (l.getD j []) hin;have uu:=ZA uu (ZA hgt hset);refine rg tT [0,5,8,11,12,13,26] ?_;refine ce (fun h1=> ?_) (fun h1=> ?_)
    ·simp at h1
    ·refine WI.post ?_;refine WI.regB tT [0,5,11,12,13] ?_
     iterate 2 refine oS ?_
     iterate 3 refine oG ?_
     refine oP ?_;refine Yo [0] ?_ (ho:=by simp (disch:=decide) only[zV,zO,Ob.mpb,frzL,QH,ZAO,Kn,Ob.onI,Qm,Yt,Option.map_some,Option.map_none,D.vw,vwL,D.on,D.inP,YY,YH,D.ren,Zy,Yb,YS,Ob.mp,Ob.ren,D.nn,ZA6,Nat.reduceBEq,Nat.reduceEqDiff,Nat.reduceAdd,↓reduceIte,ZCB,KX];rfl);refine JR ?_;refine nz ?_;have hnd2:((l.take (j+1)).map (QY k)).Nodup:=by
      rw[htk,List.map_append,List.nodup_append];exact⟨hnd,by simp,fun a ha b hb=>by simp only[List.map_cons,List.map_nil,List.mem_singleton]at hb;subst hb;rintro rfl;exact hin ha⟩
     refine rg tT [0,5,11,12,13] ?_;exact⟨⟨j+1,rfl,by rw[htk],by omega,hnd2⟩,by simp[ZK,Ab.get,D.val,ZE];omega⟩
  ·refine rg tT [4] ?_;refine lf ?_;rw[YL (by omega)]at hnd;unfold twV;rw[ZM hnd];rfl
def ZCt:List D→Option (Bool×D)
 | [.x (.int .i64 k),.x (.sl R)]=>(Zd ZI R).bind fun l=>some (decide (l.length≤1000000),.x (.bool (twV k l)))
 |_=>none
theorem ZWN: ∀args r,ZCt args=some (true,r)→ZD Tryz.prog 67 args r:=by
 intro args r h;unfold ZCt at h;split at h
 ·rename_i k R;obtain⟨l,hr0,h⟩:=Zp h;simp only[Zg,Ze,ZY,Zi,true_and]at h;obtain⟨h1,rfl⟩:=h;rw[←ZR ZT hr0];exact(Zbo k l h1)
 ·cases h
def atD (a:Zt):D:= .agg [.x (.str a.1),.x (.sl (rows ZI a.2.1))]
def w1 (t:Zb) (_:Zt):Int:=if t.1= []then 17 else 0
def w2 (_:Zb) (a:Zt):Int:=if a.2.1.length=0 then 19 else 0
def w3 (t:Zb) (a:Zt):Int:=if a.2.1.all (fun v=>(Yd t.2.1 v).2)=true then 0 else 21
def w5 (t:Zb) (a:Zt):Int:=if t.2.2.1=true∧1<a.2.1.length then 19 else 0
def ZHS:Tabs:=Za (Za (ZW) 40 KG) 65 KZ
theorem ZEk:SsOk Tryz.prog ZHS:=ZL (ZL (ZG) (ZC ZH (p:=i40) rfl) ZJT) (ZC ZH (p:=i65) rfl) ZLj
theorem ZDH (a:List D):ZHS.q 40 a=KG a:=rfl
theorem ZDG (a:List D):ZHS.q 65 a=KZ a:=rfl
theorem ZGl (f:FuncId) (a:List D) (o:List Ob):ZHS.r f a o=none:=rfl
theorem ZG2 (f:FuncId) (a:List D) (o:List Ob):ZHS.k f a o=none:=rfl
theorem Zfb (t:Zb) (a:Zt):ZD Tryz.prog 62 [Ka t,atD a] (.x (.int .i64 (w1 t a))):=by
 unfold w1 Ka atD;refine ZN.pure (ZO (fz:=true) ZH (p:=i62) rfl _ (ξ rfl) _ (fun C0 E0=> ?_)) rfl;dsimp only[i62,qt,qi,qs,qb,qm,qa,qh,qj,qT,qF,qe,ql,qL,qf,q2,q3,q8,qz,qp,qP,qc,qk,qx,qy,qo,qr,qC,ZQ];have uu:=ZA @KG.eq_1 (ZA @KG.eq_2 (ZA @ZGl (ZA @ZG2 (ZA @ZDH (ZA @ZDG (ZA @KZ.eq_1 (@KZ.eq_2)))))));have tT:=ZEk;refine nz ?_;refine rg tT [2] ?_;refine rg tT [4] ?_;refine lf ?_
 (clear uu;grind)
theorem Zfd (t:Zb) (a:Zt):ZD Tryz.prog 63 [Ka t,atD a] (.x (.int .i64 (w2 t a))):=by
 unfold w2 Ka atD;refine ZN.pure (ZO (fz:=true) ZH (p:=i63) rfl _ (ξ rfl) _ (fun C0 E0=> ?_)) rfl;dsimp only[i63,qt,qi,qs,qb,qm,qa,qh,qj,qT,qF,qe,ql,qL,qf,q2,q3,q8,qz,qp,qP,qc,qk,qx,qy,qo,qr,qC,ZQ];have uu:=ZA @KG.eq_1 (ZA @KG.eq_2 (ZA @ZGl (ZA @ZG2 (ZA @ZDH (ZA @ZDG (ZA @KZ.eq_1 (@KZ.eq_2)))))));have tT:=ZEk;refine nz ?_;refine rg tT [3] ?_;refine rg tT [4] ?_;refine lf ?_
 (clear uu;grind)
theorem Zfn (t:Zb) (a:Zt) (hl:a.2.1.length≤1000000):ZD Tryz.prog 64 [Ka t,atD a] (.x (.int .i64 (w3 t a))):=by
 unfold w3 Ka atD;obtain⟨n,l,u⟩:=a;simp only at hl⊢;refine ZN.pure (ZO (fz:=true) ZH (p:=i64) rfl _ (ξ rfl) _ (fun C0 E0=> ?_)) rfl;dsimp only[i64,qt,qi,qs,qb,qm,qa,qh,qj,qT,qF,qe,ql,qL,qf,q2,q3,q8,qz,qp,qP,qc,qk,qx,qy,qo,qr,qC,ZQ];have uu:=ZA @KZ.eq_1 (ZA @KZ.eq_2 (ZA @ZGl (ZA @ZG2 (ZA @ZDH (ZA @ZDG (ZA @KG.eq_1 (@KG.eq_2)))))));have tT:=ZEk;refine nz ?_;refine rg tT [2,3] ?_;refine rg tT [2,10,11,12] ?_;refine WI.pickA [0] ?_;refine WI.orderA [2,10,11,12] ?_;refine WI.loop (fun φ os=> ∃(j:Nat),φ= [(2,.ptr 0 0),(10,.x (.sl (rows ZI l))),(11,.x (.int .i64 l.length)),(12,.x (.int .i64 j))]∧os= [.box [.x (.str t.1),.x (.int .i64 t.2.1),.x (.bool t.2.2.1)]]∧j≤l.length∧(l.take j).all (fun v=>(Yd t.2.1 v).2)=true) (ZK l.length 12) ?_ (fun φ os hI=> ?_)
 ·exact⟨0,rfl,rfl,by omega,rfl⟩
 ·obtain⟨j,rfl,rfl,hj,hall⟩:=hI;refine nz ?_;refine rg tT [2,10,11,12,13] ?_;refine cd (fun h0=> ?_) (fun h0=> ?_)
  ·have hj4:j<l.length:=by omega
   have hrw:=Yg l j hj4;have hgj:l[j]=l.getD j []:=by simp[hj4]
   have hal:=Zx (fun v=>(Yd t.2.1 v).2) l j hj4;rw[hgj]at hal;have uu:=ZA uu hrw;refine rg tT [2,6,10,11,12] ?_;refine rg tT [2,8,10,11,12] ?_;refine rg tT [2,10,11,12,24] ?_;refine cd (fun h1=> ?_) (fun h1=> ?_)
   ·refine rg tT [4] ?_;refine lf ?_;rw[if_neg (by rw[ZZ (fun v=>(Yd t.2.1 v).2) l j hj4 (by rw[hgj];simpa using h1)];decide)]
   ·have hall2:(l.take (j+1)).all (fun v=>(Yd t.2.1 v).2)=true:=by rw[hal,hall];simpa using h1
    refine rg tT [2,10,11,12] ?_;exact⟨⟨j+1,rfl,rfl,by omega,hall2⟩,by simp[ZK,Ab.get,D.val,ZE];omega⟩
  ·refine rg tT [4] ?_;refine lf ?_;rw[YL (by omega)]at hall;rw[if_pos hall]
theorem Zfs (t:Zb) (a:Zt):ZD Tryz.prog 68 [Ka t,atD a] (.x (.int .i64 (w5 t a))):=by
 unfold w5 Ka atD;refine ZN.pure (ZO (fz:=true) ZH (p:=i68) rfl _ (ξ rfl) _ (fun C0 E0=> ?_)) rfl;dsimp only[i68,qt,qi,qs,qb,qm,qa,qh,qj,qT,qF,qe,ql,qL,qf,q2,q3,q8,qz,qp,qP,qc,qk,qx,qy,qo,qr,qC,ZQ];have uu:=ZA @KG.eq_1 (ZA @KG.eq_2 (ZA @ZGl (ZA @ZG2 (ZA @ZDH (ZA @ZDG (ZA @KZ.eq_1 (@KZ.eq_2)))))));have tT:=ZEk;refine nz ?_;refine rg tT [2,3] ?_;refine rg tT [4] ?_;refine lf ?_
 (clear uu;grind)
abbrev Sn:=List (Tx×Int)
def Ki (S:Sn) (k:Tx):Int:=(ZS S k).getD 0
def snS (S:Sn) (k:Tx):Sn:=JB S k (Ki S k+1)
theorem ZN1 (S:Sn) (k:Tx):(JA (YU Jg Kg S) [X.str k])=(ZS S k).map fun n=> [D.x (X.int .i64 n)]:=by
 rw[ZD4 Jg Kg hkS S k];rfl
theorem ZKI (S:Sn) (k:Tx) (n:Int):Ya (YU Jg Kg S) [X.str k] [D.x (X.int .i64 n)]=YU Jg Kg (JB S k n):=ZCP Jg Kg hkS S k n
def w4 (S:Sn) (t:Zb) (a:Zt):Int:=if 0<Ki S t.1∨twV t.2.1 a.2.1=true then 20 else 0
def ZH4:Tabs:=Za (Za (ZW) 40 KG) 67 ZCt
theorem ZMV:SsOk Tryz.prog ZH4:=ZL (ZL (ZG) (ZC ZH (p:=i40) rfl) ZJT) (ZC ZH (p:=i67) rfl) ZWN
theorem ZJz (a:List D):ZH4.q 40 a=KG a:=rfl
theorem ZKD (a:List D):ZH4.q 67 a=ZCt a:=rfl
theorem ZNJ (f:FuncId) (a:List D) (o:List Ob):ZH4.r f a o=none:=rfl
theorem ZPM (f:FuncId) (a:List D) (o:List Ob):ZH4.k f a o=none:=rfl
theorem Zfh (S:Sn) (t:Zb) (a:Zt) (hs:0≤Ki S t.1∧Ki S t.1≤1000000) (hl:a.2.1.length≤1000000):ZV Tryz.prog 66 [Ka t,atD a,.ptr 0 0] [.box [.mref 1],.mpo .str false (YU Jg Kg S)] (.x (.int .i64 (w4 S t a))) [.box [.mref 1],.mpo .str false (YU Jg Kg (snS S t.1))]:=by
 have hO:([.box [.mref 1],.mpo .str false (YU Jg Kg (snS S t.1))]:List Ob).all (Ob.inP (fun i=>decide (i<([.box [.mref 1],.mpo .str false (YU Jg Kg (snS S t.1))]:List Ob).length)))=true:=by simp[Ob.inP,YY,D.inP,KM]
 have hla:decide (a.2.1.length≤1000000)=true:=ZM hl;have hg:=ZN1 S t.1;unfold w4 Ka atD snS;unfold snS at hO;unfold Ki at hs hO⊢;rcases hm:ZS S t.1 with _|n
 ·rw[hm]at hg hO;simp only[Option.getD_none,Option.map_none]at hg hO⊢;have hst:Ya (YU Jg Kg S) [X.str t.1] [D.x (X.int .i64 1)]=YU Jg Kg (JB S t.1 (0+1)):=ZKI S t.1 1;refine ZN.mcallsX (ZO (fz:=true) ZH (p:=i66) rfl _ (ξ rfl) _ (fun C0 E0=> ?_)) (by first|decide|(simp;done)) hO (by first|rfl|exact hR);dsimp only[i66,qt,qi,qs,qb,qm,qa,qh,qj,qT,qF,qe,ql,qL,qf,q2,q3,q8,qz,qp,qP,qc,qk,qx,qy,qo,qr,qC,ZQ];have uu:=ZA @KG.eq_1 (ZA @KG.eq_2 (ZA @ZCt.eq_1 (ZA @ZCt.eq_2 (ZA hg (ZA hst (ZA hla (ZA @ZNJ (ZA @ZPM (ZA @ZJz (@ZKD))))))))));have tT:=ZMV;refine nz ?_;refine rg tT [2,3,4] ?_;refine rg tT [2,3,6] ?_;refine rg tT [6] ?_;refine rg tT [5] ?_;refine lf ?_;refine⟨?_,_,rfl⟩;clear uu;grind
 ·rw[hm]at hg hO hs;simp only[Option.getD_some,Option.map_some]at hg hO hs⊢;have hst:=ZKI S t.1 (n+1);refine ZN.mcallsX (ZO (fz:=true) ZH (p:=i66) rfl _ (ξ rfl) _ (fun C0 E0=> ?_)) (by first|decide|(simp;done)) hO (by first|rfl|exact hR);dsimp only[i66,qt,qi,qs,qb,qm,qa,qh,qj,qT,qF,qe,ql,qL,qf,q2,q3,q8,qz,qp,qP,qc,qk,qx,qy,qo,qr,qC,ZQ];have uu:=ZA @KG.eq_1 (ZA @KG.eq_2 (ZA @ZCt.eq_1 (ZA @ZCt.eq_2 (ZA hg (ZA hst (ZA hla (ZA @ZNJ (ZA @ZPM (ZA @ZJz (@ZKD))))))))));have tT:=ZMV;refine nz ?_;refine rg tT [2,3,4] ?_;refine rg tT [2,3,6] ?_;refine rg tT [6] ?_;refine rg tT [5] ?_;refine lf ?_;refine⟨?_,_,rfl⟩;clear uu;grind
def w4T:List D→List Ob→Option (Bool×D×List Ob)
 | [.agg [.x (.str n),.x (.int .i64 k),.x (.bool b)],.agg [.x (.str nm),.x (.sl R)],.ptr 0 0],[.box [.mref 1],.mpo .str false P1]=>(KY ZI (Qu .i64) P1).bind fun S=>(Zd ZI R).bind fun l=>some (decide ((0≤Ki S n∧Ki S n≤1000000)∧l.length≤1000000),.x (.int .i64 (w4 S (n,k,b,()) (nm,l,()))),[.box [.mref 1],.mpo .str false (YU Jg Kg (snS S n))])
 |_,_=>none
theorem ZdK: ∀args os r os',w4T args os=some (true,r,os')→ZV Tryz.prog 66 args os r os':=by
 intro args os r os' h;unfold w4T at h;split at h
 ·rename_i n k b nm R P1;obtain⟨S,hm0,h⟩:=Zp h;obtain⟨l,hr0,h⟩:=Zp h;simp only[Zg,Ze,ZY,Zi,true_and]at h;obtain⟨h1,rfl,rfl⟩:=h;rw[Yl ZT (QF .i64) hm0];rw[←ZR ZT hr0];exact Zfh S (n,k,b,()) (nm,l,()) h1.1 h1.2
 ·cases h
def ZAM (e:Kl):D:= .agg [.x (.str e.1),.x (.sl (rows YR e.2.1))]
def goA (g:Zb→Zt→Int) (L:List (Tx×Zb)):List Zt→Int
 | []=>0
 |a::l=>if g (JH L (ZB a.1)) a≠0 then g (JH L (ZB a.1)) a else goA g L l
theorem ZBD (l:List Zt) (j:Nat) (h:j<l.length):(rows YR l)[j]? =some [X.str (l.getD j ([],[],())).1,X.sl (rows ZI (l.getD j ([],[],())).2.1)]:=by
 simp[rows,h,YR,YZ,ZI,Qi,Kw]
theorem ZHU {α:Type} (l:List α) (z:α) (j:Nat) (h:j<l.length):l.drop j=l.getD j z::l.drop (j+1):=by
 rw[List.drop_eq_getElem_cons h];simp[h]
theorem ZX7 (L:List (Tx×Zb)) (M:List (Tx×Zk)) (e:Kl) (f:FuncId) (g:Zb→Zt→Int) (hen:Enters Tryz.prog f) (hg: ∀t,∀a∈e.2.1,ZD Tryz.prog f [Ka t,atD a] (.x (.int .i64 (g t a)))) (hl:e.2.1.length≤1000000) (hn: ∀a∈e.2.1,a.1.length≤1000000):
  ZV Tryz.prog 69 [.ptr 0 0,ZAM e,.fn f []] (QG L M) (.x (.int .i64 (goA g L e.2.1))) (QG L M):=by
 obtain⟨dn,l,u⟩:=e;simp only at hg hl hn⊢;have hO:=QZ L M;have h1:=ZEd L;have h2:=ZEj M;unfold ZAM;refine ZN.mcallsX (ZO (fz:=true) ZH (p:=i69) rfl _ (ξ rfl) _ (fun C0 E0=> ?_)) (by first|decide|(simp;done)) hO (by first|rfl|exact hR);dsimp only[i69,qt,qi,qs,qb,qm,qa,qh,qj,qT,qF,qe,ql,qL,qf,q2,q3,q8,qz,qp,qP,qc,qk,qx,qy,qo,qr,qC,ZQ];have uu:=ZA @ZAD.eq_1 (ZA @ZAD.eq_2 (ZA h1 (ZA h2 (ZA @ZAA (ZA @ZAE (ZA @ZBE (ZA @ZBG (ZA @Km (ZA @Ks (ZA @ZGI (ZA @ZGz (ZA @ZGh (ZA @ZF7 (ZA @ZTn (ZA @ZYx (ZA @ZSd (@ZSu)))))))))))))))));refine WI.seq ?_;refine WI.regB QD [0,2,4] ?_;refine oG ?_;refine oS ?_;refine oN ?_;refine ZJ ?_;refine WI.seq ?_;refine WI.seq ?_;refine WI.regB QD [0,2,13,14,15] ?_;refine oS ?_
 iterate 2 refine oG ?_
 refine oS ?_;refine oN ?_;refine ZJ ?_;refine WI.block ?_;refine WI.dropT (QG L M) _ rfl (by simp) hO (by simp[D.inP,YY]) ?_;refine WI.orderA [0,2,13,14,15] ?_;refine WI.loop (fun φ os=> ∃(i:Nat),φ= [(0,.ptr 0 0),(2,.fn f []),(13,.x (.sl (rows YR l))),(14,.x (.int .i64 l.length)),(15,.x (.int .i64 i))]∧os=QG L M∧i≤l.length∧goA g L (l.drop i)=goA g L l) (ZK l.length 15) ?_ (fun φ os hI=> ?_)
 ·exact⟨0,rfl,rfl,by omega,rfl⟩
 ·obtain⟨i,rfl,rfl,hi,hgo⟩:=hI;refine WI.seq ?_;refine WI.regB QD [0,2,13,14,15,16] ?_;refine oG ?_;refine oN ?_;refine ZJ ?_;refine WI.seq ?_;refine WI.cond (b:=_) rfl rfl (fun h0=> ?_) (fun h0=> ?_)
  ·try simp only[zB]at h0
   refine WI.skip ?_;refine ZJ ?_;refine WI.seq ?_;refine WI.block ?_;refine WI.seq ?_;have hi4:i<l.length:=by omega
   have hrw:=ZBD l i hi4;have hdr:=ZHU l ([],[],()) i hi4;have hma:l.getD i ([],[],())∈l:=by rw[show l.getD i ([],[],())=l[i] by simp[hi4]];exact List.getElem_mem hi4
   generalize l.getD i ([],[],())=a at hrw hdr hma;have hna:=hn a hma;have hga:=hg (JH L (ZB a.1)) a hma;rw[hdr,goA]at hgo;obtain⟨t,ht⟩: ∃t,t=JH L (ZB a.1):=⟨_,rfl⟩;rw[←ht]at hga hgo;have hmc:ZV Tryz.prog f [.agg [.x (.str t.1),.x (.int .i64 t.2.1),.x (.bool t.2.2.1)],.agg [.x (.str a.1),.x (.sl (rows ZI a.2.1))]] [.box [.mref 1,.mref 2],.mpo .str true (Kj L),.mpo .str true (Kv M),.box [.x (.str a.1),.x (.sl (rows ZI a.2.1))],.box [.x (.str t.1),.x (.int .i64 t.2.1),.x (.bool t.2.2.1)]] (.x (.int .i64 (g t a))) [.box [.mref 1,.mref 2],.mpo .str true (Kj L),.mpo .str true (Kv M),.box [.x (.str a.1),.x (.sl (rows ZI a.2.1))],.box [.x (.str t.1),.x (.int .i64 t.2.1),.x (.bool t.2.2.1)]]:=ZD.mc hga _;have uu:=ZA uu (ZA hrw (ZA ht.symm (@Ka.eq_1)));refine WI.regB QD [0,2,8,13,14,15] ?_
   iterate 4 refine oG ?_
   refine oN ?_;refine ZJ ?_;refine WI.seq ?_;refine WI.dregB QD [0,2,8,9,13,14,15] ?_
   iterate 5 refine Zo ?_
   refine YK ?_;refine QV ?_;refine Zo ?_
   iterate 2 refine Ym ?_
   refine dKG ?_;refine dAG ?_;refine Zo ?_;refine dN ?_;refine ZJ ?_;refine WI.seq ?_;refine WI.regB (ZBp ZG hen hmc) [0,2,11,13,14,15] ?_;refine oS ?_
   iterate 2 refine oG ?_
   refine oC ?_;refine oS ?_;refine oN ?_;refine ZJ ?_;refine WI.seq ?_;refine WI.post ?_;refine WI.regB QD [0,2,11,13,14,15,34] ?_;refine oS ?_;refine oG ?_;refine oP ?_;refine ZKS (QG L M) _ rfl (by simp) hO (by simp[D.inP,YY]) ?_;refine JR ?_;refine ZJ ?_;refine WI.cond (b:=_) rfl rfl (fun h1=> ?_) (fun h1=> ?_)
   ·try simp only[zB]at h1
    refine WI.seq ?_;refine WI.regB QD [6] ?_
    iterate 2 refine oS ?_
    refine oN ?_;refine ZJ ?_;refine WI.ret ?_;refine Ke ?_;refine JE ?_;refine JE ?_;refine Ke ?_;refine JE ?_
    first|refine lfR ?_|refine ZE4 ?_|refine ZD1 ?_
    refine⟨?_,_,rfl⟩;rw[←hgo,if_pos (by simpa using h1)]
   ·try simp only[zB]at h1
    rw[if_neg (by simpa using h1)]at hgo;have hgo2:=hgo;refine WI.skip ?_;refine QB ?_;refine ZJ ?_;refine WI.regB QD [0,2,13,14,15] ?_;refine oG ?_;refine oS ?_;refine oN ?_;refine ZJ ?_;exact⟨⟨i+1,rfl,rfl,by omega,hgo2⟩,by simp[ZK,Ab.get,D.val,ZE];omega⟩
  ·try simp only[zB]at h0
   refine WI.exit ?_;refine Jp ?_;refine Jp ?_;refine ZAu ?_;refine ZJ ?_;refine WI.seq ?_;refine WI.regB QD [6] ?_;refine oS ?_;refine oN ?_;refine ZJ ?_;refine WI.ret ?_
   first|refine lfR ?_|refine ZE4 ?_|refine ZD1 ?_
   rw[List.drop_of_length_le (by omega)]at hgo;refine⟨?_,[],by simp⟩;rw[←hgo];rfl
def goS (L:List (Tx×Zb)):Sn→List Zt→Int×Sn
 |S,[]=>(0,S)
 |S,a::l=>if w4 S (JH L (ZB a.1)) a≠0 then(w4 S (JH L (ZB a.1)) a,snS S (JH L (ZB a.1)).1)else goS L (snS S (JH L (ZB a.1)).1) l
abbrev sc5 (L:List (Tx×Zb)) (M:List (Tx×Zk)) (S:Sn):List Ob:= [.box [.mref 1,.mref 2],.mpo .str true (Kj L),.mpo .str true (Kv M),.box [.mref 4],.mpo .str false (YU Jg Kg S)]
theorem ZLa (L:List (Tx×Zb)) (M:List (Tx×Zk)) (S:Sn):(sc5 L M S).all (Ob.inP (fun i=>decide (i<(sc5 L M S).length)))=true:=by
 simp[Ob.inP,YY,D.inP,Km,Ks,KM]
theorem ZKd (S:Sn) (k:Tx) (v:Int) (k':Tx):ZS (JB S k v) k'=if k'=k then some v else ZS S k':=by
 induction S with
 |nil=>by_cases h:k'=k<;>simp[JB,ZS,h]
 |cons p S ih=>
  by_cases h1:k=p.1
  ·subst h1;by_cases h:k'=p.1<;>simp[JB,ZS,h]
  ·by_cases h:k'=p.1
   ·have hne: ¬p.1=k:=fun e=>h1 e.symm
    subst h;simp[JB,ZS,h1,hne]
   ·simp only[JB,ZS,h1,h,if_false,List.find?_cons,decide_false]at ih⊢;exact ih
theorem ZRH (S:Sn) (k k':Tx):Ki (snS S k) k'=if k'=k then Ki S k+1 else Ki S k':=by
 unfold Ki snS;rw[ZKd];split<;>rfl
theorem Zao (S:Sn):KY ZI (Qu .i64) (YU Jg Kg S)=some S:=ZS1 ZT (QF .i64) S
def ZCr:Tabs:=JT (ZJE (ZW) 36 ZAD) 66 w4T
theorem ZXa:SsOk Tryz.prog ZCr:=Ye (ZIh (ZG) (ZC ZH (p:=i36) rfl) ZL9) (ZC ZH (p:=i66) rfl) ZdK
theorem ZSy (a:List D):ZCr.q 36 a=none:=rfl
theorem ZSs (a:List D) (o:List Ob):ZCr.t 36 a o=(Kt ZAD a o).map fun r=>(r.1,r.2,o):=rfl
theorem ZRs (a:List D) (o:List Ob):ZCr.r 36 a o=Kt ZAD a o:=rfl
theorem ZR2 (a:List D):ZCr.q 66 a=none:=rfl
theorem ZSQ (a:List D) (o:List Ob):ZCr.t 66 a o=YW w4T a o:=rfl
theorem ZRx (a:List D) (o:List Ob):ZCr.r 66 a o=none:=rfl
theorem ZZ2 (f:FuncId) (a:List D) (o:List Ob):ZCr.k f a o=none:=rfl
theorem ZZB (L:List (Tx×Zb)) (M:List (Tx×Zk)) (e:Kl) (S0:Sn) (hS0: ∀k,0≤Ki S0 k∧Ki S0 k≤1) (hl:e.2.1.length≤1000000) (hn: ∀a∈e.2.1,a.1.length≤1000000∧a.2.1.length≤1000000):
  ZV Tryz.prog 69 [.ptr 0 0,ZAM e,.fn 66 [.ptr 3 0]] (sc5 L M S0) (.x (.int .i64 (goS L S0 e.2.1).1)) (sc5 L M (goS L S0 e.2.1).2):=by
 obtain⟨dn,l,u⟩:=e;simp only at hl hn⊢;have hO:=ZLa L M (goS L S0 l).2;have h1:=ZEd L;have h2:=ZEj M;unfold ZAM;refine ZN.mcallsX (ZO (fz:=true) ZH (p:=i69) rfl _ (ξ rfl) _ (fun C0 E0=> ?_)) (by first|decide|(simp;done)) hO (by first|rfl|exact hR);dsimp only[i69,qt,qi,qs,qb,qm,qa,qh,qj,qT,qF,qe,ql,qL,qf,q2,q3,q8,qz,qp,qP,qc,qk,qx,qy,qo,qr,qC,ZQ];have uu:=ZA @ZAD.eq_1 (ZA @ZAD.eq_2 (ZA @w4T.eq_1 (ZA @w4T.eq_2 (ZA h1 (ZA h2 (ZA @Zao (ZA @ZAA (ZA @ZAE (ZA @ZBE (ZA @ZBG (ZA @Km (ZA @Ks (ZA @KX (ZA @Qq (ZA @KM (ZA @ZRs (ZA @ZRx (ZA @ZZ2 (ZA @ZSy (ZA @ZR2 (ZA @ZSs (@ZSQ))))))))))))))))))))));have tT:=ZXa;refine nz ?_;refine rg tT [0,2,4] ?_;refine rg tT [0,2,13,14,15] ?_;refine WI.dropT (sc5 L M S0) _ rfl (by simp) (ZLa L M S0) (by simp[D.inP,YY]) ?_;refine WI.orderA [0,2,13,14,15] ?_;refine WI.loop (fun φ os=> ∃(i:Nat) (S:Sn),φ= [(0,.ptr 0 0),(2,.fn 66 [.ptr 3 0]),(13,.x (.sl (rows YR l))),(14,.x (.int .i64 l.length)),(15,.x (.int .i64 i))]∧os=sc5 L M S∧i≤l.length∧(∀k,0≤Ki S k∧Ki S k≤1)∧goS L S (l.drop i)=goS L S0 l) (ZK l.length 15) ?_ (fun φ os hI=> ?_)
 ·exact⟨0,S0,rfl,rfl,by omega,hS0,rfl⟩
 ·obtain⟨i,S,rfl,rfl,hi,hSi,hgo⟩:=hI;refine nz ?_;refine rg tT [0,2,13,14,15,16] ?_;refine cd (fun h0=> ?_) (fun h0=> ?_)
  ·have hi4:i<l.length:=by omega
   have hrw:=ZBD l i hi4;have hdr:=ZHU l ([],[],()) i hi4;have hma:l.getD i ([],[],())∈l:=by rw[show l.getD i ([],[],())=l[i] by simp[hi4]];exact List.getElem_mem hi4
   generalize l.getD i ([],[],())=a at hrw hdr hma;obtain⟨hna,hna2⟩:=hn a hma;rw[hdr,goS]at hgo;obtain⟨t,ht⟩: ∃t,t=JH L (ZB a.1):=⟨_,rfl⟩;rw[←ht]at hgo;have hdd:decide ((0≤Ki S t.1∧Ki S t.1≤1000000)∧a.2.1.length≤1000000)=true:=ZM ⟨⟨(hSi t.1).1,by have:=(hSi t.1).2;omega⟩,hna2⟩;obtain⟨tn,tk,tb,tu⟩:=t;obtain⟨an,al,au⟩:=a;have uu:=ZA uu (ZA hrw (ZA ht.symm (ZA (@Ka.eq_1) hdd)));refine rg tT [0,2,8,13,14,15] ?_;refine WI.dregB tT [0,2,8,9,13,14,15] ?_
   iterate 5 refine Zo ?_
   refine YK ?_;refine QV ?_;refine Zo ?_
   iterate 2 refine Ym ?_
   refine dKG ?_;refine dAG ?_;refine Zo ?_;refine dN ?_;refine nz ?_;refine rg tT [0,2,11,13,14,15] ?_;refine WI.post ?_;refine WI.regB tT [0,2,11,13,14,15,34] ?_;refine oS ?_;refine oG ?_;refine oP ?_;refine ZKS (sc5 L M (snS S tn)) _ rfl (by simp) (ZLa L M _) (by simp[D.inP,YY]) ?_;refine JR ?_;refine nz ?_;refine cd (fun h1=> ?_) (fun h1=> ?_)
   ·refine rg tT [6] ?_;refine lf ?_;rw[if_pos (by simpa using h1)]at hgo;rw[←hgo];exact⟨rfl,_,rfl⟩
   ·rw[if_neg (by simpa using h1)]at hgo;have hgo2:=hgo;have hw0:w4 S (tn,tk,tb,tu) (an,al,au)=0:=by simpa using h1
    have hSn: ∀k,0≤Ki (snS S tn) k∧Ki (snS S tn) k≤1:=fun k=>by
     rw[ZRH];have hz: ¬0<Ki S tn:=fun hh=>by unfold w4 at hw0;rw[if_pos (.inl hh)]at hw0;simp at hw0
     have:=hSi k;have:=hSi tn;split<;>omega
    refine rg tT [0,2,13,14,15] ?_;exact⟨⟨i+1,_,rfl,rfl,by omega,hSn,hgo2⟩,by simp[ZK,Ab.get,D.val,ZE];omega⟩
  ·refine rg tT [6] ?_;refine lf ?_;rw[List.drop_of_length_le (by omega)]at hgo;rw[←hgo];exact⟨rfl,[],by simp[goS]⟩
def smA (l:List Zt):Prop:=l.length≤1000000∧ ∀a∈l,a.1.length≤1000000∧a.2.1.length≤1000000
instance (l:List Zt):Decidable (smA l):=by unfold smA;infer_instance
def ZD5 (g:Zb→Zt→Int) (dn:Tx) (A:List (List X)) (P1 P2:List Pr):Option (Bool×D×List Ob):=
 (KY ZI Zn P1).bind fun L=>(KY ZI Zu P2).bind fun M=>(Zd YR A).bind fun l=>some (decide (smA l),.x (.int .i64 (goA g L l)),QG L M)
def ZNs (dn:Tx) (A:List (List X)) (P1 P2 P3:List Pr):Option (Bool×D×List Ob):=
 (KY ZI Zn P1).bind fun L=>(KY ZI Zu P2).bind fun M=>(KY ZI (Qu .i64) P3).bind fun S=>(Zd YR A).bind fun l=>some (decide (smA l)&&decide (S.length=0),.x (.int .i64 (goS L S l).1),sc5 L M (goS L S l).2)
def ZBL:List D→List Ob→Option (Bool×D×List Ob)
 | [.ptr 0 0,.agg [.x (.str dn),.x (.sl A)],.fn 62 []],[.box [.mref 1,.mref 2],.mpo .str true P1,.mpo .str true P2]=>ZD5 w1 dn A P1 P2
 | [.ptr 0 0,.agg [.x (.str dn),.x (.sl A)],.fn 63 []],[.box [.mref 1,.mref 2],.mpo .str true P1,.mpo .str true P2]=>ZD5 w2 dn A P1 P2
 | [.ptr 0 0,.agg [.x (.str dn),.x (.sl A)],.fn 64 []],[.box [.mref 1,.mref 2],.mpo .str true P1,.mpo .str true P2]=>ZD5 w3 dn A P1 P2
 | [.ptr 0 0,.agg [.x (.str dn),.x (.sl A)],.fn 66 [.ptr 3 0]],[.box [.mref 1,.mref 2],.mpo .str true P1,.mpo .str true P2,.box [.mref 4],.mpo .str false P3]=>ZNs dn A P1 P2 P3
 | [.ptr 0 0,.agg [.x (.str dn),.x (.sl A)],.fn 68 []],[.box [.mref 1,.mref 2],.mpo .str true P1,.mpo .str true P2]=>ZD5 w5 dn A P1 P2
 |_,_=>none
theorem ZUt:Enters Tryz.prog 62:=ZC ZH (p:=i62) rfl
theorem ZXO:Enters Tryz.prog 63:=ZC ZH (p:=i63) rfl
theorem ZWF:Enters Tryz.prog 64:=ZC ZH (p:=i64) rfl
theorem ZXD:Enters Tryz.prog 68:=ZC ZH (p:=i68) rfl
theorem ZEa {f:FuncId} {g:Zb→Zt→Int} (hen:Enters Tryz.prog f) (hg: ∀t (a:Zt),a.2.1.length≤1000000→ZD Tryz.prog f [Ka t,atD a] (.x (.int .i64 (g t a)))) {dn:Tx} {A:List (List X)} {P1 P2:List Pr} {r:D} {os':List Ob} (h:ZD5 g dn A P1 P2=some (true,r,os')):
  ZV Tryz.prog 69 [.ptr 0 0,.agg [.x (.str dn),.x (.sl A)],.fn f []] [.box [.mref 1,.mref 2],.mpo .str true P1,.mpo .str true P2] r os':=by
 unfold ZD5 at h;obtain⟨L,k1,h⟩:=Zp h;obtain⟨M,k2,h⟩:=Zp h;obtain⟨l,k3,h⟩:=Zp h;simp only[Zg,Ze,Zi]at h;obtain⟨⟨hl,hn⟩,rfl,rfl⟩:=h;rw[Yl ZT YG k1,Yl ZT YM k2,←ZR JK k3];exact ZX7 L M (dn,l,()) f g hen (fun t a ha=>hg t a (hn a ha).2) hl (fun a ha=>(hn a ha).1)
theorem ZT4: ∀args os r os',ZBL args os=some (true,r,os')→ZV Tryz.prog 69 args os r os':=by
 intro args os r os' h;unfold ZBL at h;split at h
 ·exact ZEa ZUt (fun t a _=>Zfb t a) h
 ·exact ZEa ZXO (fun t a _=>Zfd t a) h
 ·exact ZEa ZWF (fun t a hl=>Zfn t a hl) h
 ·unfold ZNs at h;obtain⟨L,k1,h⟩:=Zp h;obtain⟨M,k2,h⟩:=Zp h;obtain⟨S,k4,h⟩:=Zp h;obtain⟨l,k3,h⟩:=Zp h;simp only[Zg,Ze,ZY,Zi]at h;obtain⟨⟨⟨hl,hn⟩,hS⟩,rfl,rfl⟩:=h;rw[Yl ZT YG k1,Yl ZT YM k2,Yl ZT (QF .i64) k4,←ZR JK k3];obtain rfl:=List.eq_nil_of_length_eq_zero hS;exact ZZB L M (_,l,()) [] (fun k=>by simp[Ki,ZS]) hl hn
 ·exact ZEa ZXD (fun t a _=>Zfs t a) h
 ·cases h
def ZEV (L:List (Tx×Zb)) (l:List Zt):Int:=
 if goA w1 L l≠0 then goA w1 L l else if goA w2 L l≠0 then goA w2 L l else if goA w3 L l≠0 then goA w3 L l else if(goS L [] l).1≠0 then(goS L [] l).1 else goA w5 L l
theorem ZJ7 (l:List Zt):Zd YR (rows YR l)=some l:=JG JK l
def ZHG:Tabs:=JT (ZW) 69 ZBL
theorem ZT0:SsOk Tryz.prog ZHG:=Ye (ZG) (ZC ZH (p:=i69) rfl) ZT4
theorem ZSn (a:List D):ZHG.q 69 a=none:=rfl
theorem ZS5 (a:List D) (o:List Ob):ZHG.t 69 a o=YW ZBL a o:=rfl
theorem ZZs (f:FuncId) (a:List D) (o:List Ob):ZHG.r f a o=none:=rfl
theorem ZYP (f:FuncId) (a:List D) (o:List Ob):ZHG.k f a o=none:=rfl
theorem ZYz (L:List (Tx×Zb)) (M:List (Tx×Zk)) (e:Kl) (he:smA e.2.1):ZV Tryz.prog 39 [.ptr 0 0,ZAM e] (QG L M) (.x (.int .i64 (ZEV L e.2.1))) (QG L M):=by
 obtain⟨dn,l,u⟩:=e;simp only at he⊢;have hsm:=ZM he;have hO:=QZ L M;have h1:=ZEd L;have h2:=ZEj M;have h3:KY ZI (Qu .i64) []=some []:=rfl;rcases hv:ZEV L l with v
 unfold ZEV at hv;unfold ZAM;refine ZN.mcallsX (ZO (fz:=true) ZH (p:=i39) rfl _ (ξ rfl) _ (fun C0 E0=> ?_)) (by first|decide|(simp;done)) hO (by first|rfl|exact hR);dsimp only[i39,qt,qi,qs,qb,qm,qa,qh,qj,qT,qF,qe,ql,qL,qf,q2,q3,q8,qz,qp,qP,qc,qk,qx,qy,qo,qr,qC,ZQ];have uu:=ZA @ZBL.eq_1 (ZA @ZBL.eq_2 (ZA @ZBL.eq_3 (ZA @ZBL.eq_4 (ZA @ZBL.eq_5 (ZA @ZBL.eq_6 (ZA @ZD5.eq_1 (ZA @ZNs.eq_1 (ZA h1 (ZA h2 (ZA h3 (ZA @Zao (ZA @ZJ7 (ZA hsm (ZA @ZAA (ZA @ZAE (ZA @ZBE (ZA @ZBG (ZA @Km (ZA @Ks (ZA @KX (ZA @Qq (ZA @KM (ZA @ZZs (ZA @ZYP (ZA @ZSn (@ZS5))))))))))))))))))))))))));have tT:=ZT0;refine nz ?_;refine rg tT [0,3] ?_;refine rg tT [0,3,5] ?_;refine rg tT [0,3,11,12] ?_;refine WI.loopN 6 ?_;refine WI.round ?_;refine nz ?_;refine rg tT [0,3,11,12,13] ?_;refine ct (fun h0=> ?_) (fun h0=> ?_)
 ·refine rg tT [0,3,7,11,12] ?_;refine rg tT [0,3,8,11,12] ?_;refine rg tT [0,3,8,11,12,20] ?_;refine cd (fun h1=> ?_) (fun h1=> ?_)
  ·refine rg tT [4] ?_;refine lf ?_;refine⟨?_,_,rfl⟩;clear uu;grind
  ·refine rg tT [0,3,11,12] ?_;refine WI.round ?_;refine nz ?_;refine rg tT [0,3,11,12,13] ?_;refine ct (fun h0=> ?_) (fun h0=> ?_)
   ·refine rg tT [0,3,7,11,12] ?_;refine rg tT [0,3,8,11,12] ?_;refine rg tT [0,3,8,11,12,20] ?_;refine cd (fun h1=> ?_) (fun h1=> ?_)
    ·refine rg tT [4] ?_;refine lf ?_;refine⟨?_,_,rfl⟩;clear uu;grind
    ·refine rg tT [0,3,11,12] ?_;refine WI.round ?_;refine nz ?_;refine rg tT [0,3,11,12,13] ?_;refine ct (fun h0=> ?_) (fun h0=> ?_)
     ·refine rg tT [0,3,7,11,12] ?_;refine rg tT [0,3,8,11,12] ?_;refine rg tT [0,3,8,11,12,20] ?_;refine cd (fun h1=> ?_) (fun h1=> ?_)
      ·refine rg tT [4] ?_;refine lf ?_;refine⟨?_,_,rfl⟩;clear uu;grind
      ·refine rg tT [0,3,11,12] ?_;refine WI.round ?_;refine nz ?_;refine rg tT [0,3,11,12,13] ?_;refine ct (fun h0=> ?_) (fun h0=> ?_)
       ·refine rg tT [0,3,7,11,12] ?_;refine rg tT [0,3,8,11,12] ?_;refine rg tT [0,3,8,11,12,20] ?_;refine cd (fun h1=> ?_) (fun h1=> ?_)
        ·refine rg tT [4] ?_;refine lf ?_;refine⟨?_,_,rfl⟩;clear uu;grind
        ·refine rg tT [0,3,11,12] ?_;refine WI.round ?_;refine nz ?_;refine rg tT [0,3,11,12,13] ?_;refine ct (fun h0=> ?_) (fun h0=> ?_)
         ·refine rg tT [0,3,7,11,12] ?_;refine rg tT [0,3,8,11,12] ?_;refine rg tT [0,3,8,11,12,20] ?_;refine cd (fun h1=> ?_) (fun h1=> ?_)
          ·refine rg tT [4] ?_;refine lf ?_;refine⟨?_,_,rfl⟩;clear uu;grind
          ·refine rg tT [0,3,11,12] ?_;refine WI.round ?_;refine nz ?_;refine rg tT [0,3,11,12,13] ?_;refine ce (fun h0=> ?_) (fun h0=> ?_)
           ·exact absurd h0 (by decide)
           ·refine rg tT [4] ?_;refine lf ?_;refine⟨?_,_,rfl⟩;clear uu;grind
         ·exact absurd h0 (by decide)
       ·exact absurd h0 (by decide)
     ·exact absurd h0 (by decide)
   ·exact absurd h0 (by decide)
 ·exact absurd h0 (by decide)
def ZDR:List D→List Ob→Option (Bool×D×List Ob)
 | [.ptr 0 0,.agg [.x (.str dn),.x (.sl R)]],[.box [.mref 1,.mref 2],.mpo .str true P1,.mpo .str true P2]=>(KY ZI Zn P1).bind fun L=>(KY ZI Zu P2).bind fun M=>(Zd YR R).bind fun l=>some (decide (smA l),.x (.int .i64 (ZEV L l)),[.box [.mref 1,.mref 2],.mpo .str true (Kj L),.mpo .str true (Kv M)])
 |_,_=>none
theorem ZSg: ∀args os r os',ZDR args os=some (true,r,os')→ZV Tryz.prog 39 args os r os':=by
 intro args os r os' h;unfold ZDR at h;split at h
 ·rename_i dn R P1 P2;obtain⟨L,hm0,h⟩:=Zp h;obtain⟨M,hm1,h⟩:=Zp h;obtain⟨l,hr0,h⟩:=Zp h;simp only[Zg,Ze,ZY,Zi,true_and]at h;obtain⟨h1,rfl,rfl⟩:=h;rw[Yl ZT YG hm0];rw[Yl ZT YM hm1];rw[←ZR JK hr0];exact ZYz L M (dn,l,()) h1
 ·cases h
end Go.Proofs.YtpjfdjcejamebaaGreatDoor
end
