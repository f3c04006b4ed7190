import Derived.Test.YtpjfdjcejamebaaGreatDoorMA1
import Derived.Lib.MapLaws
import Derived.Test.YtpjfdjcejamebaaGreatDoorLA5
import Derived.Test.YtpjfdjcejamebaaGreatDoorSh
import Derived.Test.YtpjfdjcejamebaaGreatDoorIc
set_option linter.unusedSimpArgs false
set_option linter.unusedVariables false
section
namespace Go.Proofs.YtpjfdjcejamebaaGreatDoor
open Go.RowKit Go.Bo Go.Ab
theorem ZNd (s:List UInt8) (i:Nat) (h:i<s.length):(ZZ s).get! i=s[i]:=by
 show(ZZ s).data[i]! =_;simp[ZZ,h]
theorem ZJ0 {s:List UInt8} {i:Nat} (h:i<s.length) (hb:s[i].toNat<128):KA s i=(s[i].toNat,1):=by
 unfold KA;rw[Lib.decode_at,ZNd s i h];unfold Lib.decodeN;rw[if_pos hb]
theorem ZPb {s:List UInt8} {i:Nat} (h:i<s.length) (hb: ¬s[i].toNat<128):128≤(KA s i).1∧1≤(KA s i).2:=by
 unfold KA;rw[Lib.decode_at,ZNd s i h];rcases Lib.decodeN_shape ((ZZ s).size-i) s[i].toNat ((ZZ s).get! (i+1)).toNat ((ZZ s).get! (i+2)).toNat ((ZZ s).get! (i+3)).toNat with⟨h1,_⟩|⟨_,_,_,h1,h2⟩|⟨_,_,_,_,h1,_,h2⟩|⟨_,_,_,_,_,h1,_,h2⟩|h2
 ·omega
 all_goals(rw[h2];simp only;omega)
theorem Zch (s p:List UInt8):ZC Tryz.prog 138 [.x (.str s),.x (.str p)] (.tup [.x (.str (Lib.trimPrefix s p)),.x (.bool (Lib.hasPrefix s p))]):=by
 intro w st vs hst hvl;obtain⟨hsz,hv⟩:=hvl;obtain⟨v0,v1,rfl⟩: ∃v0 v1,vs= #[v0,v1]:=by
  obtain⟨vl⟩:=vs
  match vl,hsz with
  | [a,b],_=>exact⟨a,b,rfl⟩
 have h0:=hv 0 _ v0 rfl rfl;have h1:=hv 1 _ v1 rfl rfl;cases h0 with
 |x h0=>
 cases h1 with
 |x h1=>
 cases h1 with
 |str _=>
 cases h0 with
 |str _=>
 refine(Tryz.strings_CutPrefix (ZZ s) (ZZ p) w).mono ?_;rintro e w' ⟨rfl,rfl⟩;refine⟨_,st,rfl,Kept.refl _ _,fun _ _ h=>h,fun _ _ h=> .inl h,?_⟩;have e1:(ZZ s).data.toList=s:=by simp[ZZ]
 have e2:(ZZ p).data.toList=p:=by simp[ZZ]
 rw[e1,e2];exact V.tup2 (V.mkstr _ _ _) _
theorem ZE3:Go.Ab.Enters Tryz.prog 138:=Go.Proofs.enters_of Tryz.lays103.f103 (by kernel_rfl) rfl
def Qd:List D→Option (Bool×D)
 | [.x (.str s),.x (.str p)]=>some (true,.tup [.x (.str (Lib.trimPrefix s p)),.x (.bool (Lib.hasPrefix s p))])
 |_=>none
theorem ZJT: ∀args r,Qd args=some (true,r)→ZC Tryz.prog 138 args r:=by
 intro args r h;unfold Qd at h;split at h
 ·rename_i s p;simp only[Zf,Zc,ZW,Zj,true_and]at h;obtain rfl:=h;exact(Zch s p)
 ·cases h
def ZAZ:List D→Option (Bool×D)
 | [.x (.sl R),.x (.str sep)]=>(Zg ZJ R).bind fun l=>some (decide ((Lib.join l sep).length≤140737488355328∧l.length≤140737488355328),.x (.str (Lib.join l sep)))
 |_=>none
theorem ZGk: ∀args r,ZAZ args=some (true,r)→ZC Tryz.prog 97 args r:=by
 intro args r h;unfold ZAZ at h;split at h
 ·rename_i R sep;obtain⟨l,hr0,h⟩:=Zr h;simp only[Zf,Zc,ZW,Zj,true_and]at h;obtain⟨h1,rfl⟩:=h;rw[←ZX Zb hr0];exact(ZdJ l sep h1.1 h1.2)
 ·cases h
def ZFg:List D→Option (Bool×D)
 | [.x (.str s),.x (.str [c])]=>some (decide (s.length≤1000000),.x (.sl (rows ZJ (Jh c s))))
 |_=>none
theorem ZVJ: ∀args r,ZFg args=some (true,r)→ZC Tryz.prog 137 args r:=by
 intro args r h;unfold ZFg at h;split at h
 ·rename_i s c;simp only[Zf,Zc,ZW,Zj,true_and]at h;obtain⟨h1,rfl⟩:=h;exact(ZbO s c h1)
 ·cases h
def ZB5 (s:List UInt8):List (List UInt8):=(Jh 32 s).filter fun x=>decide (x≠ [])
def jn:List (List UInt8)→List UInt8
 | []=> []
 | [x]=>x
 |x::y::r=>x++32::jn (y::r)
theorem ZK3: ∀l,Lib.join l [32]=jn l
 | []=>rfl
 | [x]=>by rw[Lib.join_one];rfl
 |x::y::r=>by
  have:=ZK3 (y::r);simp only[Lib.join,List.intercalate,List.intersperse_cons_cons,List.flatten_cons,jn]at this⊢;rw[this];rfl
theorem Zbi {x:List UInt8} {l:List (List UInt8)} (h:l≠ []):jn (x::l)=x++32::jn l:=by
 cases l with
 |nil=>exact absurd rfl h
 |cons y r=>rfl
def wt (l:List (List UInt8)):Nat:=(l.map fun x=>x.length+1).sum
theorem ZZx: ∀l:List (List UInt8),l≠ []→(jn l).length+1=wt l
 | [x],_=>by simp[jn,wt]
 |x::y::r,_=>by
  have:=ZZx (y::r) (by simp);show(x++32::jn (y::r)).length+1=(x.length+1)+wt (y::r);rw[Zs,KR];omega
theorem ZNw (c:UInt8): ∀s,wt (Jh c s)=s.length+1
 | []=>rfl
 |b::l=>by
  have ih:=ZNw c l;unfold Jh;split
  ·show(0+1)+wt (Jh c l)=_;rw[ih,KR];omega
  ·split
   ·rename_i y r he;rw[he]at ih;have e:wt (y::r)=(y.length+1)+wt r:=rfl;have e2:wt ((b::y)::r)=(y.length+1+1)+wt r:=rfl;rw[KR];omega
   ·rename_i he;exact absurd he (ZcP c l)
theorem ZMK (p:List UInt8→Bool): ∀l,wt (l.filter p)≤wt l
 | []=>Nat.le_refl _
 |x::l=>by
  have:=ZMK p l;have e:wt (x::l)=(x.length+1)+wt l:=rfl;rw[List.filter_cons];split
  ·have e:wt (x::l.filter p)=(x.length+1)+wt (l.filter p):=rfl;omega
  ·omega
theorem ZUa: ∀l:List (List UInt8),l.length≤wt l
 | []=>Nat.le_refl _
 |x::l=>by
  have:=ZUa l;have e:wt (x::l)=(x.length+1)+wt l:=rfl;rw[KR];omega
theorem ZQe (c:UInt8) (s:List UInt8):(Jh c s).length≤s.length+1:=by have:=ZUa (Jh c s);rw[ZNw]at this;exact this
theorem ZT0 (s:List UInt8):(ZB5 s).length≤s.length+1:=Nat.le_trans (List.length_filter_le _ _) (ZQe 32 s)
theorem ZK8 (s:List UInt8):(jn (ZB5 s)).length≤s.length:=by
 by_cases h:ZB5 s= []
 ·rw[h];simp[jn]
 ·have h1:=ZZx _ h;have h2:wt (ZB5 s)≤_:=ZMK _ _;rw[ZNw]at h2;omega
def blk (s:List UInt8):List UInt8:=jn (ZB5 s)
theorem ZIi (x:List UInt8) (l:List (List UInt8)) (p:List UInt8→Bool):(l++ [x]).filter p=if p x then l.filter p++ [x]else l.filter p:=by
 rw[List.filter_append,List.filter_cons,List.filter_nil];split<;>simp
def ZD6:Tabs:=ZY (ZY (JR (ZY (ZV) 97 ZAZ) 97 (QE ZAZ)) 137 ZFg) 138 Qd
theorem ZVf:SsOk Tryz.prog ZD6:=ZL (ZL (Yl (ZL (ZG) ZCr ZGk) ZCr (ZCR ZGk)) ZNs ZVJ) ZE3 ZJT
theorem ZST (a:List D):ZD6.q 97 a=ZAZ a:=rfl
theorem ZSe (a:List D) (o:List Ob):ZD6.t 97 a o=YU (QE ZAZ) a o:=rfl
theorem ZP2 (a:List D):ZD6.q 137 a=ZFg a:=rfl
theorem ZPN (a:List D):ZD6.q 138 a=Qd a:=rfl
theorem ZXs (f:FuncId) (a:List D) (o:List Ob):ZD6.r f a o=none:=rfl
theorem ZY4 (f:FuncId) (a:List D) (o:List Ob):ZD6.k f a o=none:=rfl
theorem ZN5 (s:List UInt8) (hl:s.length≤1000000):ZC Tryz.prog 104 [.x (.str s)] (.x (.str (blk s))):=by
 have hsl:=ZQe 32 s;refine ZN.pure (ZP (fz:=true) ZH (p:=ZON) rfl _ (ξ rfl) _ (fun C0 E0=> ?_)) rfl;dsimp only[ZON,qt,qi,qs,qb,qm,qa,qh,qj,qT,qF,qe,ql,qL,qf,q2,q3,q8,qz,qp,qP,qc,qk,qx,qy,qo,qr,qC,ZQ];have uu:=ZA @ZAZ.eq_1 (ZA @ZAZ.eq_2 (ZA @ZFg.eq_1 (ZA @ZFg.eq_2 (ZA @ZXs (ZA @ZY4 (ZA @ZP2 (ZA @ZPN (ZA @ZST (ZA @ZSe (ZA @Qd.eq_1 (ZA @Qd.eq_2 (@QE.eq_1))))))))))));have tT:=ZVf;refine nz ?_;refine WI.regB tT [0] ?_;refine oS ?_;refine oN ?_;refine nz ?_;refine WI.regB tT [0,3] ?_;refine oS ?_;refine oN ?_;refine nz ?_;refine WI.regB tT [3,7,8,9] ?_;refine oS ?_;refine oC (hok:=by first|exact se|(rw[YN (Nat.le_refl _)];exact ZM ⟨hoj2,by omega⟩)|exact sd) ?_;refine oG (hok:=by first|exact se|(rw[YN (Nat.le_refl _)];exact ZM ⟨hoj2,by omega⟩)|exact sd) ?_;refine oS ?_;refine oN ?_;refine nz ?_;refine WI.ownA 3 9 1 ?_;refine WI.loop (fun φ os=> ∃(j:Nat) (o:List (List UInt8)),φ= [(3,.ref 0 o.length 0 o.length),(7,.x (.sl (rows ZJ (Jh 32 s)))),(8,.x (.int .i64 (Jh 32 s).length)),(9,.x (.int .i64 j))]∧os= [.rows false 9 1 (rows ZJ o)]∧j≤(Jh 32 s).length∧o=((Jh 32 s).take j).filter (fun x=>decide (x≠ []))∧o.length≤j) (ZK (Jh 32 s).length 9) ?_ (fun φ os hI=> ?_)
 ·exact⟨0,[],rfl,rfl,by omega,rfl,by simp⟩
 ·obtain⟨j,o,rfl,rfl,hj,ho,hoj⟩:=hI;refine nz ?_;refine WI.regB tT [3,7,8,9,10] ?_;refine oG (hok:=by first|exact se|(rw[YN (Nat.le_refl _)];exact ZM ⟨hoj2,by omega⟩)|exact sd) ?_;refine oN ?_;refine nz ?_;refine cd (fun h0=> ?_) (fun h0=> ?_)
  ·have hj4:j<(Jh 32 s).length:=by omega
   refine WI.regB tT [3,5,7,8,9] ?_
   iterate 2 refine oG (hok:=by first|exact se|(rw[YN (Nat.le_refl _)];exact ZM ⟨hoj2,by omega⟩)|exact sd) ?_
   refine oS ?_;refine oN ?_;refine nz ?_;refine WI.regB tT [3,5,7,8,9,14] ?_;refine oS ?_;refine oG (hok:=by first|exact se|(rw[YN (Nat.le_refl _)];exact ZM ⟨hoj2,by omega⟩)|exact sd) ?_;refine oN ?_;refine nz ?_;refine cd (fun h1=> ?_) (fun h1=> ?_)
   ·have ho2:o++ [(Jh 32 s)[j]]=((Jh 32 s).take (j+1)).filter (fun x=>decide (x≠ [])):=by rw[List.take_succ_eq_append_getElem hj4,ZIi,←ho,if_pos (by simpa using h1)]
    refine WI.post ?_;refine WI.regB tT [3,7,8,9] ?_
    iterate 2 refine oS ?_
    iterate 2 refine oG (hok:=by first|exact se|(rw[YN (Nat.le_refl _)];exact ZM ⟨hoj2,by omega⟩)|exact sd) ?_
    refine oS ?_;refine oP ?_;refine JA [0] ?_;refine Je ?_;refine nz ?_;refine WI.regB tT [3,7,8,9] ?_;refine oG (hok:=by first|exact se|(rw[YN (Nat.le_refl _)];exact ZM ⟨hoj2,by omega⟩)|exact sd) ?_;refine oS ?_;refine oN ?_;refine nz ?_
    first|exact⟨⟨j+1,o++ [(Jh 32 s)[j]],by first|rfl|simp,by rw[←ZOM],by omega,ho2,by simp;omega⟩,by simp[ZK,Ab.get,D.val,ZF];omega⟩|exact⟨⟨j+1,o,by first|rfl|simp,rfl,by omega,ho2,by omega⟩,by simp[ZK,Ab.get,D.val,ZF];omega⟩
   ·have ho2:o=((Jh 32 s).take (j+1)).filter (fun x=>decide (x≠ [])):=by rw[List.take_succ_eq_append_getElem hj4,ZIi,←ho,if_neg (by simpa using h1)]
    refine WI.regB tT [3,7,8,9] ?_;refine oG (hok:=by first|exact se|(rw[YN (Nat.le_refl _)];exact ZM ⟨hoj2,by omega⟩)|exact sd) ?_;refine oS ?_;refine oN ?_;refine nz ?_
    first|exact⟨⟨j+1,o++ [(Jh 32 s)[j]],by first|rfl|simp,by rw[←ZOM],by omega,ho2,by simp;omega⟩,by simp[ZK,Ab.get,D.val,ZF];omega⟩|exact⟨⟨j+1,o,by first|rfl|simp,rfl,by omega,ho2,by omega⟩,by simp[ZK,Ab.get,D.val,ZF];omega⟩
  ·have hoe:o=ZB5 s:=by rw[ho,YN (by omega)];rfl
   have hwl:=ZT0 s;have hoj2:(Lib.join o [32]).length≤140737488355328:=by rw[hoe,ZK3];have:=ZK8 s;omega
   refine WI.regB tT [2] ?_;refine oS ?_;refine oC (hok:=by first|exact se|(rw[YN (Nat.le_refl _)];exact ZM ⟨hoj2,by omega⟩)|exact sd) ?_;refine oS ?_;refine oN ?_;refine nz ?_;refine lf ?_;rw[hoe,ZK3];rfl
def ZDq:List D→Option (Bool×D)
 | [.x (.str s)]=>some (decide (s.length≤1000000),.x (.str (blk s)))
 |_=>none
theorem ZSh: ∀args r,ZDq args=some (true,r)→ZC Tryz.prog 104 args r:=by
 intro args r h;unfold ZDq at h;split at h
 ·rename_i s;simp only[Zf,Zc,ZW,Zj,true_and]at h;obtain⟨h1,rfl⟩:=h;exact(ZN5 s h1)
 ·cases h
def ZFZ:Tabs:=ZY (ZY (ZY (ZV) 37 ZAN) 104 ZDq) 138 Qd
theorem ZWX:SsOk Tryz.prog ZFZ:=ZL (ZL (ZL (ZG) (ZB ZH (p:=i37) rfl) ZMG) (ZB ZH (p:=ZON) rfl) ZSh) ZE3 ZJT
theorem ZSP (a:List D):ZFZ.q 37 a=ZAN a:=rfl
theorem ZP6 (a:List D):ZFZ.q 104 a=ZDq a:=rfl
theorem ZP3 (a:List D):ZFZ.q 138 a=Qd a:=rfl
theorem ZZC (f:FuncId) (a:List D) (o:List Ob):ZFZ.r f a o=none:=rfl
theorem ZXi (f:FuncId) (a:List D) (o:List Ob):ZFZ.k f a o=none:=rfl
def fld (s:List UInt8):List UInt8:=ZD (blk s)
theorem ZdA (s:List UInt8) (hl:s.length≤1000000):ZC Tryz.prog 140 [.x (.str s)] (.x (.str (fld s))):=by
 have hb:(blk s).length≤s.length:=ZK8 s;refine ZN.pure (ZP (fz:=true) ZH (p:=ZRX) rfl _ (ξ rfl) _ (fun C0 E0=> ?_)) rfl;dsimp only[ZRX,qt,qi,qs,qb,qm,qa,qh,qj,qT,qF,qe,ql,qL,qf,q2,q3,q8,qz,qp,qP,qc,qk,qx,qy,qo,qr,qC,ZQ];have uu:=ZA @ZAN.eq_1 (ZA @ZAN.eq_2 (ZA @ZDq.eq_1 (ZA @ZDq.eq_2 (ZA @ZZC (ZA @ZXi (ZA @ZP6 (ZA @ZP3 (ZA @ZSP (ZA @Qd.eq_1 (@Qd.eq_2))))))))));have tT:=ZWX;refine nz ?_;refine rg tT [0] ?_;refine rg tT [2] ?_;refine lf ?_
 first|rfl|exact⟨rfl,rfl⟩|trivial
def ZBG (b:UInt8):Bool:=decide (48≤b.toNat∧b.toNat≤57)
def dgs (s:List UInt8):Bool:=decide (s≠ []∧s.length≤32)&&s.all ZBG
theorem ZNC (s:List UInt8) (p:UInt8→Bool) (i:Nat) (h:i<s.length):(s.take (i+1)).all p=((s.take i).all p&&p s[i]):=by
 rw[List.take_succ_eq_append_getElem h,List.all_append];simp
theorem ZQt (s:List UInt8) (p:UInt8→Bool) (i:Nat) (h:i<s.length) (hp:p s[i]=false):s.all p=false:=by
 rw[List.all_eq_false];exact⟨s[i],List.getElem_mem h,by rw[hp];simp⟩
theorem Zbf {s:List UInt8} {i:Nat} (h:i<s.length) (hr:48≤((KA s i).1:Int)∧((KA s i).1:Int)≤57):(KA s i).2=1∧ZBG s[i]=true:=by
 by_cases hb:s[i].toNat<128
 ·rw[ZJ0 h hb]at hr⊢;simp only at hr;exact⟨rfl,ZM (by omega)⟩
 ·have:=(ZPb h hb).1;omega
theorem Zae {s:List UInt8} {i:Nat} (h:i<s.length) (hr: ¬(48≤((KA s i).1:Int)∧((KA s i).1:Int)≤57)):ZBG s[i]=false:=by
 refine decide_eq_false (fun hd=>hr ?_);rw[ZJ0 h (by omega)];simp only;omega
theorem ZYu (s:List UInt8):ZC Tryz.prog 139 [.x (.str s)] (.x (.bool (dgs s))):=by
 refine ZN.pure (ZP (fz:=true) ZH (p:=ZSy) rfl _ (ξ rfl) _ (fun C0 E0=> ?_)) rfl;dsimp only[ZSy,qt,qi,qs,qb,qm,qa,qh,qj,qT,qF,qe,ql,qL,qf,q2,q3,q8,qz,qp,qP,qc,qk,qx,qy,qo,qr,qC,ZQ];have uu:=trivial;have tT:=(ZG:SsOk Tryz.prog ZV);refine nz ?_;refine rg tT [0] ?_;refine rg tT [0,6] ?_;refine WI.loop (fun φ os=> ∃(i:Nat),φ= [(0,.x (.str s)),(6,.iref 0 0)]∧os= [.sit s i]∧i≤s.length∧(s.take i).all ZBG=true) (ZcX s.length 0) ?_ (fun φ os hI=> ?_)
 ·exact⟨0,rfl,rfl,by omega,rfl⟩
 ·obtain⟨i,rfl,rfl,hi,ha⟩:=hI;refine nz ?_;refine WI.nextSA [0,6,7,8] (fun hn2=> ?_) (fun hn2=> ?_)
  ·have ha2:s.all ZBG=true:=by rw[←ha,YN (by omega)]
   have hdg:dgs s=(!(s== [])&&decide ((s.length:Int)≤32)):=by unfold dgs;rw[ha2,Bool.and_true];by_cases h1:s= []<;>by_cases h2:s.length≤32<;>simp[h1,h2]<;>omega
   refine nz ?_;refine ce (fun h0=> ?_) (fun h0=> ?_)
   ·exact absurd h0 (by decide)
   ·refine rg tT [2] ?_;refine lf ?_;rw[hdg]
  ·refine nz ?_;refine ct (fun h0=> ?_) (fun h0=> ?_)
   ·refine rg tT [0,4,6] ?_;refine rg tT [0,6,15] ?_;refine cd (fun h1=> ?_) (fun h1=> ?_) (kB:=fun h=>h.h)
    ·have hd:=ZQt s ZBG i hn2 (Zae hn2 (by omega));have hdg:dgs s=false:=by unfold dgs;rw[hd,Bool.and_false]
     refine rg tT [2] ?_;refine lf ?_;rw[hdg]
    ·obtain⟨hw,hdd⟩:=Zbf hn2 (by omega);have ha2:(s.take (i+1)).all ZBG=true:=by rw[ZNC s ZBG i hn2,ha,hdd];rfl
     refine WI.orderA [0,6] ?_;refine nz ?_;exact⟨⟨i+1,by first|rfl|simp,by first|rfl|simp[hw],by omega,ha2⟩,by simp[ZcX,hw];omega⟩
   ·exact absurd h0 (by decide)
def ZBl:List D→Option (Bool×D)
 | [.x (.str s)]=>some (true,.x (.bool (dgs s)))
 |_=>none
theorem ZRs: ∀args r,ZBl args=some (true,r)→ZC Tryz.prog 139 args r:=by
 intro args r h;unfold ZBl at h;split at h
 ·rename_i s;simp only[Zf,Zc,ZW,Zj,true_and]at h;obtain rfl:=h;exact(ZYu s)
 ·cases h
def ZHO:Tabs:=ZY (ZY (ZV) 139 ZBl) 138 Qd
theorem ZLr:SsOk Tryz.prog ZHO:=ZL (ZL (ZG) (ZB ZH (p:=ZSy) rfl) ZRs) ZE3 ZJT
theorem ZIn (a:List D):ZHO.q 139 a=ZBl a:=rfl
theorem ZIp (a:List D):ZHO.q 138 a=Qd a:=rfl
theorem ZMr (f:FuncId) (a:List D) (o:List Ob):ZHO.r f a o=none:=rfl
theorem ZNf (f:FuncId) (a:List D) (o:List Ob):ZHO.k f a o=none:=rfl
def stp:List UInt8→List UInt8
 | []=> []
 | [b]=> [b]
 |b::c::l=>if b=48 then stp (c::l)else b::c::l
theorem ZOb (s:List UInt8) (h:1<s.length) (h0:s[0]=48):stp s=stp (s.drop 1):=by
 match s,h with
 |b::c::l,_=>exact if_pos h0
theorem ZJR (s:List UInt8) (h: ¬(1<s.length∧ ∀(h:0<s.length),s[0]=48)):stp s=s:=by
 match s with
 | []=>rfl
 | [b]=>rfl
 |b::c::l=>rw[stp,if_neg];intro e;exact h ⟨by simp,fun _=>e⟩
def JM (s:List UInt8):List UInt8:=Lib.trimPrefix s [45]
def ZCv (s:List UInt8):Bool:=Lib.hasPrefix s [45]
def QU (s:List UInt8):List UInt8×Bool:=
 if dgs (JM s)then(if ZCv s∧stp (JM s)≠ [48]then 45::stp (JM s)else stp (JM s),true)else([],false)
theorem b48 {b:UInt8}:b=48↔(b.toNat:Int)=48:=⟨fun h=>by rw[h];rfl,fun h=>UInt8.toNat_inj.1 (by show b.toNat=48;omega)⟩
theorem gd0 (t:List UInt8) (h:0<t.length):t.getD 0 0=t[0]:=by simp[h]
theorem Zd4 (s:List UInt8):ZC Tryz.prog 105 [.x (.str s)] (.tup [.x (.str (QU s).1),.x (.bool (QU s).2)]):=by
 cases hd:dgs (JM s)with
 |false=>
  have hi:QU s=([],false):=by unfold QU;rw[if_neg (by rw[hd];simp)]
  rw[hi];unfold JM at hd;refine ZN.pure (ZP (fz:=true) ZH (p:=ZLD) rfl _ (ξ rfl) _ (fun C0 E0=> ?_)) rfl;dsimp only[ZLD,qt,qi,qs,qb,qm,qa,qh,qj,qT,qF,qe,ql,qL,qf,q2,q3,q8,qz,qp,qP,qc,qk,qx,qy,qo,qr,qC,ZQ];have uu:=ZA @ZBl.eq_1 (ZA @ZBl.eq_2 (ZA @Qd.eq_1 (ZA @Qd.eq_2 (ZA hd (ZA @ZMr (ZA @ZNf (ZA @ZIp (@ZIn))))))));have tT:=ZLr;refine nz ?_;refine rg tT [0] ?_;refine rg tT [4,5] ?_;refine rg tT [4,5,13] ?_;refine ct (fun h0=> ?_) (fun h0=> ?_)
  ·refine rg tT [2,3] ?_;refine lf ?_;rfl
  ·simp at h0
 |true=>
  unfold JM at hd;have hd32:(Lib.trimPrefix s [45]).length≤32:=by
   unfold dgs at hd;rw[ZW]at hd;exact(of_decide_eq_true hd.1).2
  have hi:QU s=(if ZCv s∧stp (JM s)≠ [48]then 45::stp (JM s)else stp (JM s),true):=by have hd2:dgs (JM s)=true:=hd;unfold QU;rw[if_pos hd2]
  unfold JM ZCv at hi;refine ZN.pure (ZP (fz:=true) ZH (p:=ZLD) rfl _ (ξ rfl) _ (fun C0 E0=> ?_)) rfl;dsimp only[ZLD,qt,qi,qs,qb,qm,qa,qh,qj,qT,qF,qe,ql,qL,qf,q2,q3,q8,qz,qp,qP,qc,qk,qx,qy,qo,qr,qC,ZQ];have uu:=ZA @ZBl.eq_1 (ZA @ZBl.eq_2 (ZA @Qd.eq_1 (ZA @Qd.eq_2 (ZA hd (ZA @ZMr (ZA @ZNf (ZA @ZIp (@ZIn))))))));have tT:=ZLr;refine nz ?_;refine rg tT [0] ?_;refine rg tT [4,5] ?_;refine rg tT [4,5,13] ?_;refine ce (fun h0=> ?_) (fun h0=> ?_)
  ·simp at h0
  ·refine WI.orderA [4,5] ?_;refine WI.loop (fun φ os=> ∃(t:List UInt8),φ= [(4,.x (.str t)),(5,.x (.bool (Lib.hasPrefix s [45])))]∧os= []∧stp t=stp (Lib.trimPrefix s [45])∧t.length≤32) (fun φ _=>match φ with|(_,.x (.str t))::_=>t.length|_=>0) ?_ (fun φ os hI=> ?_)
   ·exact⟨_,rfl,rfl,rfl,hd32⟩
   ·obtain⟨t,rfl,rfl,ht,htl⟩:=hI;refine nz ?_;by_cases hl1:1<t.length
    ·have hk:t[0]? =some t[0]:=YE (by omega);have hdl:=ZM (show(1:Int)<(t.length:Int) by omega);have uu:=ZA uu (ZA hk hdl);refine rg tT [4,5,21] ?_;refine cd (fun h1=> ?_) (fun h1=> ?_)
     ·have ht2:stp (t.drop 1)=stp (Lib.trimPrefix s [45]):=by rw[←ht,ZOb t hl1 ((gd0 t (by omega)).symm.trans (b48.2 h1))]
      refine rg tT [4,5] ?_;exact⟨⟨t.drop 1,rfl,rfl,ht2,by rw[List.length_drop];omega⟩,by simp;omega⟩
     ·have hts:stp t=t:=ZJR t (fun hh=>h1 (b48.1 ((gd0 t (by omega)).trans (hh.2 (by omega)))));have htt:=ht.symm.trans hts;refine rg tT [4,28] ?_;refine cd (fun h2=> ?_) (fun h2=> ?_)
      ·refine rg tT [4] ?_;refine rg tT [2,3] ?_;refine lf ?_;rw[hi,htt];first|(rw[if_pos ⟨h2.1,h2.2⟩];done)|(rw[if_pos ⟨h2.1,h2.2⟩];rfl)|(rw[if_neg (by rcases h2 with h2|h2<;>simp[h2])];done)|(rw[if_neg (by rcases h2 with h2|h2<;>simp[h2])];rfl)
      ·refine rg tT [2,3] ?_;refine lf ?_;rw[hi,htt];first|(rw[if_pos ⟨h2.1,h2.2⟩];done)|(rw[if_pos ⟨h2.1,h2.2⟩];rfl)|(rw[if_neg (by rcases h2 with h2|h2<;>simp[h2])];done)|(rw[if_neg (by rcases h2 with h2|h2<;>simp[h2])];rfl)
    ·have hdl:=decide_eq_false (show ¬(1:Int)<(t.length:Int) by omega);have uu:=ZA uu hdl;refine rg tT [4,5,21] ?_;refine ce (fun h1=> ?_) (fun h1=> ?_)
     ·simp at h1
     ·have hts:stp t=t:=ZJR t (fun hh=>hl1 hh.1);have htt:=ht.symm.trans hts;refine rg tT [4,28] ?_;refine cd (fun h2=> ?_) (fun h2=> ?_)
      ·refine rg tT [4] ?_;refine rg tT [2,3] ?_;refine lf ?_;rw[hi,htt];first|(rw[if_pos ⟨h2.1,h2.2⟩];done)|(rw[if_pos ⟨h2.1,h2.2⟩];rfl)|(rw[if_neg (by rcases h2 with h2|h2<;>simp[h2])];done)|(rw[if_neg (by rcases h2 with h2|h2<;>simp[h2])];rfl)
      ·refine rg tT [2,3] ?_;refine lf ?_;rw[hi,htt];first|(rw[if_pos ⟨h2.1,h2.2⟩];done)|(rw[if_pos ⟨h2.1,h2.2⟩];rfl)|(rw[if_neg (by rcases h2 with h2|h2<;>simp[h2])];done)|(rw[if_neg (by rcases h2 with h2|h2<;>simp[h2])];rfl)
def jnc (c:UInt8):List Tx→Tx
 | []=> []
 | [x]=>x
 |x::y::r=>x++c::jnc c (y::r)
theorem ZDy (c:UInt8): ∀l,Lib.join l [c]=jnc c l
 | []=>rfl
 | [x]=>by rw[Lib.join_one];rfl
 |x::y::r=>by
  have:=ZDy c (y::r);simp only[Lib.join,List.intercalate,List.intersperse_cons_cons,List.flatten_cons,jnc]at this⊢;rw[this];rfl
theorem ZN4 (c:UInt8) {x:Tx} {l:List Tx} (h:l≠ []):jnc c (x::l)=x++c::jnc c l:=by
 cases l with
 |nil=>exact absurd rfl h
 |cons y r=>rfl
theorem ZJI (c:UInt8): ∀(l:List Tx) (x:Tx),l≠ []→jnc c (l++ [x])=jnc c l++ [c]++x
 | [],x,h=>absurd rfl h
 | [y],x,_=>by simp[jnc]
 |y::z::r,x,_=>by
  have:=ZJI c (z::r) x (by simp);have e:jnc c (y::z::r)=y++c::jnc c (z::r):=rfl;have e2:jnc c (y::(z::r++ [x]))=y++c::jnc c (z::r++ [x]):=ZN4 c (by simp);rw[List.cons_append,e2,this,e];simp
theorem ZFU (c:UInt8) (m:Nat): ∀l:List Tx,(∀x∈l,x.length≤m)→(jnc c l).length≤l.length*(m+1)
 | [],_=>by simp[jnc]
 | [x],h=>by have:=h x (by simp);simp[jnc];omega
 |x::y::r,h=>by
  have h1:=ZFU c m (y::r) (fun z hz=>h z (List.mem_cons_of_mem _ hz));have h2:=h x (by simp);rw[ZN4 c (by simp),Zs,KR,KR,Nat.add_mul];omega
theorem ZKm (l:List Tx) (x:Tx):rows ZJ l++ [[X.str x]]=rows ZJ (l++ [x]):=by simp[rows,ZJ]
def QX (p:Av):Tx:=p.1++ [61]++ZDM p.2
def JG (r:List Av):Tx:=jnc 43 (r.map QX)
def ZAp (d:Dn):Tx:=jnc 44 (d.map JG)
def ZBa (d:Dn):Tx×Int:=if KJ d≠0 then([],KJ d)else if(ZAp d).length>4096 then([],3)else(ZAp d,0)
theorem ZWE (r:List Av): ∀(n j:Nat),okP r n=true→j<n→Kq r j=true
 |n+1,j,h,hj=>by
  rw[okP,ZW]at h;by_cases e:j=n
  ·subst e;exact h.2
  ·exact ZWE r n j h.1 (by omega)
theorem ZAi {r:List Av} (h:Yn r=true):r.length≤8∧1≤r.length∧ ∀p∈r,p.1.length≤64∧p.2.length≤256:=by
 unfold Yn at h;rw[ZW,Zj]at h;refine⟨h.2.2,h.2.1,fun p hp=> ?_⟩;obtain⟨j,hj,rfl⟩:=List.getElem_of_mem hp;have h1:=ZWE r r.length j h.1 hj;unfold Kq at h1;rw[ZLI,show r.getD j ([],[])=r[j] by simp[hj]]at h1;simp only[ZW,Zj]at h1;exact⟨h1.1.1.2,h1.2.2.1⟩
theorem ZFV {d:Dn} (h:KJ d=0):d.length≤32∧ ∀r∈d,Yn r=true:=by
 unfold KJ at h;split at h
 ·cases h
 ·split at h
  ·rename_i h2;exact⟨by omega,List.all_eq_true.1 h2⟩
  ·cases h
theorem ZNI {p:Av} (h:p.1.length≤64∧p.2.length≤256):(QX p).length≤840:=by
 have:=ZCK p.2 p.2.length;unfold QX ZDM;simp only[Zs,KR,ξN];omega
theorem ZGf {r:List Av} (h:Yn r=true):(JG r).length≤6800:=by
 obtain⟨h1,-,h2⟩:=ZAi h;have:=ZFU 43 840 (r.map QX) (fun x hx=>by obtain⟨p,hp,rfl⟩:=List.mem_map.1 hx;exact ZNI (h2 p hp));rw[List.length_map]at this;unfold JG;omega
theorem ZXY {d:Dn} (h:KJ d=0):(ZAp d).length≤250000:=by
 obtain⟨h1,h2⟩:=ZFV h;have:=ZFU 44 6800 (d.map JG) (fun x hx=>by obtain⟨r,hr,rfl⟩:=List.mem_map.1 hx;exact ZGf (h2 r hr));rw[List.length_map]at this;unfold ZAp;omega
def ZCP:Tabs:=JR (ZY (ZY (ZY (ZV) 168 ZBM) 176 ZFo) 97 ZAZ) 97 (QE ZAZ)
theorem ZSD:SsOk Tryz.prog ZCP:=Yl (ZL (ZL (ZL (ZG) (ZB ZH (p:=ZHs) rfl) ZLq) (ZB ZH (p:=ZTI) rfl) ZWk) ZCr ZGk) ZCr (ZCR ZGk)
theorem ZMz (a:List D):ZCP.q 168 a=ZBM a:=rfl
theorem ZOz (a:List D):ZCP.q 176 a=ZFo a:=rfl
theorem ZPr (a:List D):ZCP.q 97 a=ZAZ a:=rfl
theorem ZPD (a:List D) (o:List Ob):ZCP.t 97 a o=YU (QE ZAZ) a o:=rfl
theorem ZT5 (f:FuncId) (a:List D) (o:List Ob):ZCP.r f a o=none:=rfl
theorem ZUE (f:FuncId) (a:List D) (o:List Ob):ZCP.k f a o=none:=rfl
set_option maxHeartbeats 1000000 in
theorem ZdG (d:Dn) (hb:smD d):ZC Tryz.prog 143 [.x (.sl (rows JE d))] (.tup [.x (.str (ZBa d).1),.x (.int .i64 (ZBa d).2)]):=by
 rcases hq:ZBa d with⟨u,e⟩
 unfold ZBa at hq;have hsd:decide (smD d)=true:=ZM hb;refine ZN.pure (ZP (fz:=true) ZH (p:=ZK4) rfl _ (ξ rfl) _ (fun C0 E0=> ?_)) rfl;dsimp only[ZK4,qt,qi,qs,qb,qm,qa,qh,qj,qT,qF,qe,ql,qL,qf,q2,q3,q8,qz,qp,qP,qc,qk,qx,qy,qo,qr,qC,ZQ];have uu:=ZA @ZBM.eq_1 (ZA @ZBM.eq_2 (ZA @ZFo.eq_1 (ZA @ZFo.eq_2 (ZA @ZAZ.eq_1 (ZA @ZAZ.eq_2 (ZA @ZHB (ZA @ZKu (ZA hsd (ZA @ZT5 (ZA @ZUE (ZA @ZMz (ZA @ZOz (ZA @ZPr (ZA @ZPD (@QE.eq_1)))))))))))))));have tT:=ZSD;refine nz ?_;refine WI.regB tT [0] ?_
 iterate 2 refine oS ?_
 refine oN ?_;refine nz ?_;refine WI.regB tT [0,4] ?_;refine oS ?_;refine oC (hok:=by first|exact se|(exact ZM (by omega))|(exact ZM (by simp;omega))|exact sd) ?_;refine oS ?_;refine oN ?_;refine nz ?_;refine WI.regB tT [0,4,15] ?_;refine oS ?_;refine oG (hok:=by first|exact se|(exact ZM (by omega))|(exact ZM (by simp;omega))|exact sd) ?_;refine oN ?_;refine nz ?_;refine cd (fun h0=> ?_) (fun h0=> ?_)
 ·refine WI.regB tT [2,3] ?_
  iterate 3 refine oS ?_
  refine oN ?_;refine nz ?_;refine lf ?_;rw[if_pos (by simpa using h0)]at hq;cases hq;rfl
 ·rw[if_neg (by simpa using h0)]at hq;have hck:KJ d=0:=by simpa using h0
  obtain⟨hd32,hmay⟩:=ZFV hck;refine WI.regB tT [0,5] ?_;refine oS ?_;refine oN ?_;refine nz ?_;refine WI.regB tT [5,17,18,19] ?_;refine oS ?_;refine oG (hok:=by first|exact se|(exact ZM (by omega))|(exact ZM (by simp;omega))|exact sd) ?_;refine oS ?_;refine oN ?_;refine nz ?_;refine WI.ownA 5 9 1 ?_;refine WI.loop (fun φ os=> ∃(j:Nat),φ= [(5,.ref 0 j 0 j),(17,.x (.sl (rows JE d))),(18,.x (.int .i64 d.length)),(19,.x (.int .i64 j))]∧os= [.rows false 9 1 (rows ZJ ((d.take j).map JG))]∧j≤d.length) (ZK d.length 19) ?_ (fun φ os hI=> ?_)
  ·exact⟨0,rfl,rfl,by omega⟩
  ·obtain⟨j,rfl,rfl,hj⟩:=hI;refine nz ?_;refine WI.regB tT [5,17,18,19,20] ?_;refine oG (hok:=by first|exact se|(exact ZM (by omega))|(exact ZM (by simp;omega))|exact sd) ?_;refine oN ?_;refine nz ?_;refine cd (fun h1=> ?_) (fun h1=> ?_)
   ·have hj4:j<d.length:=by omega
    have hmj:Yn (d.getD j [])=true:=by rw[show d.getD j []=d[j] by simp[hj4]];exact hmay _ (List.getElem_mem hj4)
    obtain⟨hr8,-,hpb⟩:=ZAi hmj;have hpl:=ZGf hmj;have hst:(d.take (j+1)).map JG=(d.take j).map JG++ [JG (d.getD j [])]:=by rw[List.take_succ_eq_append_getElem hj4,List.map_append,show d.getD j []=d[j] by simp[hj4]];rfl
    have hrow:=ZFn d j hj4;generalize d.getD j []=r at hmj hr8 hpb hpl hst hrow⊢;have uu:=ZA uu hrow;refine WI.regB tT [5,7,17,18,19] ?_
    iterate 2 refine oG (hok:=by first|exact se|(exact ZM (by omega))|(exact ZM (by simp;omega))|exact sd) ?_
    refine oS ?_;refine oN ?_;refine nz ?_;refine WI.regB tT [5,7,8,17,18,19] ?_;refine oS ?_;refine oN ?_;refine nz ?_;refine WI.regB tT [5,8,17,18,19,23,24,25] ?_;refine oS ?_;refine oG (hok:=by first|exact se|(exact ZM (by omega))|(exact ZM (by simp;omega))|exact sd) ?_;refine oS ?_;refine oN ?_;refine nz ?_;refine WI.ownA 8 9 1 ?_;refine WI.orderA [5,8,17,18,19,23,24,25] ?_;refine WI.loop (fun φ os=> ∃(k:Nat),φ= [(5,.ref 0 j 0 j),(8,.ref 1 k 0 k),(17,.x (.sl (rows JE d))),(18,.x (.int .i64 d.length)),(19,.x (.int .i64 j)),(23,.x (.sl (rows Zm r))),(24,.x (.int .i64 r.length)),(25,.x (.int .i64 k))]∧os= [.rows false 9 1 (rows ZJ ((d.take j).map JG)),.rows false 9 1 (rows ZJ ((r.take k).map QX))]∧k≤r.length) (ZK r.length 25) ?_ (fun φ os hI=> ?_)
    ·exact⟨0,rfl,rfl,by omega⟩
    ·obtain⟨k,rfl,rfl,hk⟩:=hI;refine nz ?_;refine WI.regB tT [5,8,17,18,19,23,24,25,26] ?_;refine oG (hok:=by first|exact se|(exact ZM (by omega))|(exact ZM (by simp;omega))|exact sd) ?_;refine oN ?_;refine nz ?_;refine cd (fun h2=> ?_) (fun h2=> ?_)
     ·have hk4:k<r.length:=by omega
      have har:=ZBn r k hk4;have hpk:(r.getD k ([],[])).1.length≤64∧(r.getD k ([],[])).2.length≤256:=by rw[show r.getD k ([],[])=r[k] by simp[hk4]];exact hpb _ (List.getElem_mem hk4)
      have hel:=ZCK (r.getD k ([],[])).2 (r.getD k ([],[])).2.length;have hel2:(ZDM (r.getD k ([],[])).2).length≤800:=by unfold ZDM;omega
      have hsk:(r.take (k+1)).map QX=(r.take k).map QX++ [QX (r.getD k ([],[]))]:=by rw[List.take_succ_eq_append_getElem hk4,List.map_append,show r.getD k ([],[])=r[k] by simp[hk4]];rfl
      have hsc:decide ((r.getD k ([],[])).2.length≤1000000)=true:=ZM (by omega);have uu:=ZA uu (ZA har hsc);refine WI.regB tT [5,8,10,17,18,19,23,24,25] ?_
      iterate 2 refine oG (hok:=by first|exact se|(exact ZM (by omega))|(exact ZM (by simp;omega))|exact sd) ?_
      refine oG ?_;refine oG (hok:=by first|exact se|(exact ZM (by omega))|(exact ZM (by simp;omega))|exact sd) ?_;refine oN ?_;refine nz ?_;refine WI.post ?_;refine WI.dregB tT [5,8,17,18,19,23,24,25] ?_
      iterate 2 refine Zn ?_
      refine YG (hok:=by first|exact se|(exact ZM (by omega))|(exact ZM (by simp;omega))|exact sd) ?_;refine Ye (hok:=by first|exact se|(exact ZM (by omega))|(exact ZM (by simp;omega))|exact sd) ?_;refine Zn ?_;refine YG (hok:=by first|exact se|(exact ZM (by omega))|(exact ZM (by simp;omega))|exact sd) ?_;refine Qi (hok:=by first|exact se|(exact ZM (by omega))|(exact ZM (by simp;omega))|exact sd) ?_;refine Ye (hok:=by first|exact se|(exact ZM (by omega))|(exact ZM (by simp;omega))|exact sd) ?_
      iterate 2 refine dAG (hok:=by first|exact se|(exact ZM (by omega))|(exact ZM (by simp;omega))|exact sd) ?_
      refine Zn ?_;refine dP ?_;refine JA [0,1] ?_;refine Je ?_;refine nz ?_;refine WI.regB tT [5,8,17,18,19,23,24,25] ?_;refine oG (hok:=by first|exact se|(exact ZM (by omega))|(exact ZM (by simp;omega))|exact sd) ?_;refine oS ?_;refine oN ?_;refine nz ?_;exact⟨⟨k+1,rfl,by rw[hsk,←ZKm];first|done|rfl,by omega⟩,by simp[ZK,Ab.get,D.val,ZF];omega⟩
     ·obtain rfl:k=r.length:=by omega
      rw[List.take_length];have hjl:decide ((Lib.join (r.map QX) [43]).length≤140737488355328∧(r.map QX).length≤140737488355328)=true:=ZM ⟨by rw[ZDy];unfold JG at hpl;omega,by rw[List.length_map];omega⟩;have e1:(r.map QX).length=r.length:=List.length_map ..;have e2:(r.map QX).take r.length=r.map QX:=YN (by omega);have e3:Lib.join (r.map QX) [43]=JG r:=ZDy 43 _;have uu:=ZA uu (ZA e1 (ZA e2 (ZA hjl e3)));refine WI.post ?_;refine WI.regB tT [5,17,18,19] ?_
      iterate 2 refine oS ?_
      refine oC (hok:=by first|exact se|(exact ZM (by omega))|(exact ZM (by simp;omega))|exact sd) ?_
      iterate 2 refine oG (hok:=by first|exact se|(exact ZM (by omega))|(exact ZM (by simp;omega))|exact sd) ?_
      refine oS ?_;refine oP ?_;refine JA [0] ?_;refine Je ?_;refine nz ?_;refine WI.orderA [5,17,18,19] ?_;refine WI.regB tT [5,17,18,19] ?_;refine oG (hok:=by first|exact se|(exact ZM (by omega))|(exact ZM (by simp;omega))|exact sd) ?_;refine oS ?_;refine oN ?_;refine nz ?_;exact⟨⟨j+1,rfl,by rw[hst,←ZKm];first|done|rfl,by omega⟩,by simp[ZK,Ab.get,D.val,ZF];omega⟩
   ·obtain rfl:j=d.length:=by omega
    rw[List.take_length];have hnl:=ZXY hck;have hjl:decide ((Lib.join (d.map JG) [44]).length≤140737488355328∧(d.map JG).length≤140737488355328)=true:=ZM ⟨by rw[ZDy];unfold ZAp at hnl;omega,by rw[List.length_map];omega⟩;have e1:(d.map JG).length=d.length:=List.length_map ..;have e2:(d.map JG).take d.length=d.map JG:=YN (by omega);have e3:Lib.join (d.map JG) [44]=ZAp d:=ZDy 44 _;have uu:=ZA uu (ZA e1 (ZA e2 (ZA hjl e3)));refine WI.regB tT [11] ?_;refine oS ?_;refine oC (hok:=by first|exact se|(exact ZM (by omega))|(exact ZM (by simp;omega))|exact sd) ?_;refine oS ?_;refine oN ?_;refine nz ?_;refine WI.regB tT [11,50] ?_;refine oS ?_
    iterate 2 refine oG (hok:=by first|exact se|(exact ZM (by omega))|(exact ZM (by simp;omega))|exact sd) ?_
    refine oN ?_;refine nz ?_;refine cd (fun h3=> ?_) (fun h3=> ?_)
    ·refine WI.regB tT [2,3] ?_
     iterate 2 refine oS ?_
     refine oN ?_;refine nz ?_;refine lf ?_;rw[if_pos (by omega)]at hq;cases hq;rfl
    ·refine WI.regB tT [2,3] ?_
     iterate 3 refine oS ?_
     refine oN ?_;refine nz ?_;refine lf ?_;rw[if_neg (by omega)]at hq;cases hq;rfl
def ZAY:List D→Option (Bool×D)
 | [.x (.sl R)]=>(Zg JE R).bind fun d=>some (decide (smD d),.tup [.x (.str (ZBa d).1),.x (.int .i64 (ZBa d).2)])
 |_=>none
theorem ZJY: ∀args r,ZAY args=some (true,r)→ZC Tryz.prog 143 args r:=by
 intro args r h;unfold ZAY at h;split at h
 ·rename_i R;obtain⟨d,hr0,h⟩:=Zr h;simp only[Zf,Zc,ZW,Zj,true_and]at h;obtain⟨h1,rfl⟩:=h;rw[←ZX ZC7 hr0];exact(ZdG d h1)
 ·cases h
def ZIb:Tabs:=ZY (ZV) 182 ZF0
theorem ZR8:SsOk Tryz.prog ZIb:=ZL (ZG) (ZB ZH (p:=ZSj) rfl) ZWW
theorem ZM0 (a:List D):ZIb.q 182 a=ZF0 a:=rfl
theorem ZU5 (f:FuncId) (a:List D) (o:List Ob):ZIb.r f a o=none:=rfl
theorem ZV0 (f:FuncId) (a:List D) (o:List Ob):ZIb.k f a o=none:=rfl
theorem ZL6 (r:List Av) (k:Nat) (h:k<r.length):JG (r.take (k+1))=(if k=0 then []else JG (r.take k)++ [43])++QX (r.getD k ([],[])):=by
 have e:(r.take (k+1)).map QX=(r.take k).map QX++ [QX (r.getD k ([],[]))]:=by rw[List.take_succ_eq_append_getElem h,List.map_append,show r.getD k ([],[])=r[k] by simp[h]];rfl
 unfold JG;rw[e];split
 ·rename_i h0;subst h0;simp[jnc]
 ·rw[ZJI _ _ _ (by intro hh;have:=congrArg List.length hh;rw[List.length_map,List.length_take,ξN]at this;omega)]
theorem Zbx (r:List Av) (hr:Yn r=true):ZC Tryz.prog 157 [.x (.sl (rows Zm r))] (.x (.str (JG r))):=by
 obtain⟨hr8,-,hpb⟩:=ZAi hr;have hpl: ∀k,(JG (r.take k)).length≤6800:=fun k=>by
  have:=ZFU 43 840 ((r.take k).map QX) (fun x hx=>by obtain⟨p,hp,rfl⟩:=List.mem_map.1 hx;exact ZNI (hpb p (List.mem_of_mem_take hp)));rw[List.length_map,List.length_take]at this;have h2:min k r.length≤8:=by omega
  unfold JG;omega
 refine ZN.pure (ZP (fz:=true) ZH (p:=ZS3) rfl _ (ξ rfl) _ (fun C0 E0=> ?_)) rfl;dsimp only[ZS3,qt,qi,qs,qb,qm,qa,qh,qj,qT,qF,qe,ql,qL,qf,q2,q3,q8,qz,qp,qP,qc,qk,qx,qy,qo,qr,qC,ZQ];have uu:=ZA @ZF0.eq_1 (ZA @ZF0.eq_2 (ZA @ZU5 (ZA @ZV0 (@ZM0))));have tT:=ZR8;refine nz ?_;refine WI.regB tT [0] ?_;refine oS ?_;refine oN ?_;refine nz ?_;refine WI.regB tT [0,3] ?_;refine oS ?_;refine oN ?_;refine nz ?_;refine WI.regB tT [0,3,4] ?_;refine oS ?_;refine oN ?_;refine nz ?_;refine WI.loop (fun φ os=> ∃(k:Nat),φ= [(0,.x (.sl (rows Zm r))),(3,.x (.str (JG (r.take k)))),(4,.x (.int .i64 k))]∧os= []∧k≤r.length) (ZK r.length 4) ?_ (fun φ os hI=> ?_)
 ·exact⟨0,rfl,rfl,by omega⟩
 ·obtain⟨k,rfl,rfl,hk⟩:=hI;refine nz ?_;refine WI.regB tT [0,3,4,8] ?_
  iterate 2 refine oS ?_
  iterate 2 refine oG (hok:=by first|exact se|(exact ZM (by omega))|(exact ZM (by simp;omega))|exact sd) ?_
  refine oN ?_;refine nz ?_;refine cd (fun h0=> ?_) (fun h0=> ?_)
  ·have hk4:k<r.length:=by omega
   have hlk:=hpl k;have har:=ZBn r k hk4;have hpk:(r.getD k ([],[])).1.length≤64∧(r.getD k ([],[])).2.length≤256:=by rw[show r.getD k ([],[])=r[k] by simp[hk4]];exact hpb _ (List.getElem_mem hk4)
   have hel:=ZCK (r.getD k ([],[])).2 (r.getD k ([],[])).2.length;have hel2:(ZDM (r.getD k ([],[])).2).length≤800:=by unfold ZDM;omega
   have hsc:decide ((r.getD k ([],[])).2.length≤1000000)=true:=ZM (by omega);have uu:=ZA uu (ZA har hsc);refine WI.regB tT [0,3,4,12] ?_;refine oS ?_;refine oG (hok:=by first|exact se|(exact ZM (by omega))|(exact ZM (by simp;omega))|exact sd) ?_;refine oN ?_;refine nz ?_;refine cd (fun h1=> ?_) (fun h1=> ?_)
   ·have hst:JG (r.take (k+1))=JG (r.take k)++ [43]++(r.getD k ([],[])).1++ [61]++ZDM (r.getD k ([],[])).2:=by rw[ZL6 r k hk4,if_neg (by omega)];unfold QX;simp
    refine WI.regB tT [0,3,4] ?_;refine oS ?_;refine oG (hok:=by first|exact se|(exact ZM (by omega))|(exact ZM (by simp;omega))|exact sd) ?_;refine oS ?_;refine oN ?_;refine nz ?_;refine WI.dregB tT [0,3,4] ?_
    iterate 3 refine Zn ?_
    refine YG (hok:=by first|exact se|(exact ZM (by omega))|(exact ZM (by simp;omega))|exact sd) ?_;refine Zn ?_;refine YG (hok:=by first|exact se|(exact ZM (by omega))|(exact ZM (by simp;omega))|exact sd) ?_
    iterate 2 refine Ye (hok:=by first|exact se|(exact ZM (by omega))|(exact ZM (by simp;omega))|exact sd) ?_
    iterate 2 refine Zn ?_
    refine YG (hok:=by first|exact se|(exact ZM (by omega))|(exact ZM (by simp;omega))|exact sd) ?_;refine Zn ?_;refine YG (hok:=by first|exact se|(exact ZM (by omega))|(exact ZM (by simp;omega))|exact sd) ?_;refine Qi (hok:=by first|exact se|(exact ZM (by omega))|(exact ZM (by simp;omega))|exact sd) ?_;refine Ye (hok:=by first|exact se|(exact ZM (by omega))|(exact ZM (by simp;omega))|exact sd) ?_;refine Zn ?_;refine dN ?_;refine nz ?_;refine WI.regB tT [0,3,4] ?_;refine oS ?_;refine oG (hok:=by first|exact se|(exact ZM (by omega))|(exact ZM (by simp;omega))|exact sd) ?_;refine oS ?_;refine oN ?_;refine nz ?_;exact⟨⟨k+1,by rw[hst];first|done|rfl,rfl,by omega⟩,by simp[ZK,Ab.get,D.val,ZF];omega⟩
   ·have hst:JG (r.take (k+1))=JG (r.take k)++(r.getD k ([],[])).1++ [61]++ZDM (r.getD k ([],[])).2:=by
     rw[ZL6 r k hk4,if_pos (by omega)];obtain rfl:k=0:=by omega
     unfold QX;simp[JG,jnc]
    refine WI.dregB tT [0,3,4] ?_
    iterate 3 refine Zn ?_
    refine YG (hok:=by first|exact se|(exact ZM (by omega))|(exact ZM (by simp;omega))|exact sd) ?_;refine Zn ?_;refine YG (hok:=by first|exact se|(exact ZM (by omega))|(exact ZM (by simp;omega))|exact sd) ?_
    iterate 2 refine Ye (hok:=by first|exact se|(exact ZM (by omega))|(exact ZM (by simp;omega))|exact sd) ?_
    iterate 2 refine Zn ?_
    refine YG (hok:=by first|exact se|(exact ZM (by omega))|(exact ZM (by simp;omega))|exact sd) ?_;refine Zn ?_;refine YG (hok:=by first|exact se|(exact ZM (by omega))|(exact ZM (by simp;omega))|exact sd) ?_;refine Qi (hok:=by first|exact se|(exact ZM (by omega))|(exact ZM (by simp;omega))|exact sd) ?_;refine Ye (hok:=by first|exact se|(exact ZM (by omega))|(exact ZM (by simp;omega))|exact sd) ?_;refine Zn ?_;refine dN ?_;refine nz ?_;refine WI.regB tT [0,3,4] ?_;refine oS ?_;refine oG (hok:=by first|exact se|(exact ZM (by omega))|(exact ZM (by simp;omega))|exact sd) ?_;refine oS ?_;refine oN ?_;refine nz ?_;exact⟨⟨k+1,by rw[hst];first|done|rfl,rfl,by omega⟩,by simp[ZK,Ab.get,D.val,ZF];omega⟩
  ·refine WI.regB tT [2] ?_
   iterate 2 refine oS ?_
   refine oN ?_;refine nz ?_;refine lf ?_;obtain rfl:k=r.length:=by omega
   rw[List.take_length]
def ZFw:List D→Option (Bool×D)
 | [.x (.sl R)]=>(Zg Zm R).bind fun r=>some (decide (Yn r=true),.x (.str (JG r)))
 |_=>none
theorem ZTi: ∀args r,ZFw args=some (true,r)→ZC Tryz.prog 157 args r:=by
 intro args r h;unfold ZFw at h;split at h
 ·rename_i R;obtain⟨r,hr0,h⟩:=Zr h;simp only[Zf,Zc,ZW,Zj,true_and]at h;obtain⟨h1,rfl⟩:=h;rw[←ZX ZDF hr0];exact(Zbx r h1)
 ·cases h
theorem ZLR (d:Dn) (k:Nat) (h:k<d.length):ZAp (d.take (k+1))=(if k=0 then []else ZAp (d.take k)++ [44])++JG (d.getD k []):=by
 have e:(d.take (k+1)).map JG=(d.take k).map JG++ [JG (d.getD k [])]:=by rw[List.take_succ_eq_append_getElem h,List.map_append,show d.getD k []=d[k] by simp[h]];rfl
 unfold ZAp;rw[e];split
 ·rename_i h0;subst h0;simp[jnc]
 ·rw[ZJI _ _ _ (by intro hh;have:=congrArg List.length hh;rw[List.length_map,List.length_take,ξN]at this;omega)]
def ZFH:Tabs:=ZY (ZY (ZV) 160 ZBU) 157 ZFw
theorem ZSW:SsOk Tryz.prog ZFH:=ZL (ZL (ZG) (ZB ZH (p:=ZNB) rfl) ZLV) (ZB ZH (p:=ZS3) rfl) ZTi
theorem ZOa (a:List D):ZFH.q 160 a=ZBU a:=rfl
theorem ZNY (a:List D):ZFH.q 157 a=ZFw a:=rfl
theorem ZU9 (f:FuncId) (a:List D) (o:List Ob):ZFH.r f a o=none:=rfl
theorem ZUP (f:FuncId) (a:List D) (o:List Ob):ZFH.k f a o=none:=rfl
theorem Zca (d:Dn) (hb:smD d) (hld:d.length≤1000000) (hlr: ∀r∈d,r.length≤1000000):ZC Tryz.prog 145 [.x (.sl (rows JE d))] (.tup [.x (.str (ZBa d).1),.x (.int .i64 (ZBa d).2)]):=by
 rcases hq:ZBa d with⟨u,e⟩
 unfold ZBa at hq;have hsd:(decide (smD d)&&(decide (d.length≤1000000)&&decide (∀r∈d,r.length≤1000000)))=true:=by rw[ZM hb,ZM hld,ZM hlr];rfl
 refine ZN.pure (ZP (fz:=true) ZH (p:=ZOO) rfl _ (ξ rfl) _ (fun C0 E0=> ?_)) rfl;dsimp only[ZOO,qt,qi,qs,qb,qm,qa,qh,qj,qT,qF,qe,ql,qL,qf,q2,q3,q8,qz,qp,qP,qc,qk,qx,qy,qo,qr,qC,ZQ];have uu:=ZA @ZBU.eq_1 (ZA @ZBU.eq_2 (ZA @ZFw.eq_1 (ZA @ZFw.eq_2 (ZA @ZHB (ZA @ZKu (ZA hsd (ZA @ZU9 (ZA @ZUP (ZA @ZNY (@ZOa))))))))));have tT:=ZSW;refine nz ?_;refine WI.regB tT [0] ?_
 iterate 2 refine oS ?_
 refine oN ?_;refine nz ?_;refine WI.regB tT [0,4] ?_;refine oS ?_;refine oC (hok:=by first|exact se|(exact ZM (by omega))|(exact ZM (by simp;omega))|exact sd) ?_;refine oS ?_;refine oN ?_;refine nz ?_;refine WI.regB tT [0,4,10] ?_;refine oS ?_;refine oG (hok:=by first|exact se|(exact ZM (by omega))|(exact ZM (by simp;omega))|exact sd) ?_;refine oN ?_;refine nz ?_;refine cd (fun h0=> ?_) (fun h0=> ?_)
 ·refine WI.regB tT [2,3] ?_
  iterate 3 refine oS ?_
  refine oN ?_;refine nz ?_;refine lf ?_;rw[if_pos (by simpa using h0)]at hq;cases hq;rfl
 ·rw[if_neg (by simpa using h0)]at hq;have hck:KJ d=0:=by simpa using h0
  obtain⟨hd32,hmay⟩:=ZFV hck;have hpl: ∀k,(ZAp (d.take k)).length≤250000:=fun k=>by
   have:=ZFU 44 6800 ((d.take k).map JG) (fun x hx=>by obtain⟨p,hp,rfl⟩:=List.mem_map.1 hx;exact ZGf (hmay p (List.mem_of_mem_take hp)));rw[List.length_map,List.length_take]at this;have h2:min k d.length≤32:=by omega
   unfold ZAp;omega
  refine WI.regB tT [0,5] ?_;refine oS ?_;refine oN ?_;refine nz ?_;refine WI.regB tT [0,5,6] ?_;refine oS ?_;refine oN ?_;refine nz ?_;refine WI.loop (fun φ os=> ∃(k:Nat),φ= [(0,.x (.sl (rows JE d))),(5,.x (.str (ZAp (d.take k)))),(6,.x (.int .i64 k))]∧os= []∧k≤d.length) (ZK d.length 6) ?_ (fun φ os hI=> ?_)
  ·exact⟨0,rfl,rfl,by omega⟩
  ·obtain⟨k,rfl,rfl,hk⟩:=hI;refine nz ?_;refine WI.regB tT [0,5,6,15] ?_
   iterate 2 refine oS ?_
   iterate 2 refine oG (hok:=by first|exact se|(exact ZM (by omega))|(exact ZM (by simp;omega))|exact sd) ?_
   refine oN ?_;refine nz ?_;refine cd (fun h1=> ?_) (fun h1=> ?_)
   ·have hk4:k<d.length:=by omega
    have hlk:=hpl k;have hrow:=ZFn d k hk4;have hmk:Yn (d.getD k [])=true:=by rw[show d.getD k []=d[k] by simp[hk4]];exact hmay _ (List.getElem_mem hk4)
    have hpk:=ZGf hmk;have uu:=ZA uu (ZA hrow (ZM hmk));refine WI.regB tT [0,5,6,19] ?_;refine oS ?_;refine oG (hok:=by first|exact se|(exact ZM (by omega))|(exact ZM (by simp;omega))|exact sd) ?_;refine oN ?_;refine nz ?_;refine cd (fun h2=> ?_) (fun h2=> ?_)
    ·have hst:ZAp (d.take (k+1))=ZAp (d.take k)++ [44]++JG (d.getD k []):=by rw[ZLR d k hk4,if_neg (by omega)]
     refine WI.regB tT [0,5,6] ?_;refine oS ?_;refine oG (hok:=by first|exact se|(exact ZM (by omega))|(exact ZM (by simp;omega))|exact sd) ?_;refine oS ?_;refine oN ?_;refine nz ?_;refine WI.regB tT [0,5,6] ?_
     iterate 3 refine oS ?_
     iterate 2 refine oG (hok:=by first|exact se|(exact ZM (by omega))|(exact ZM (by simp;omega))|exact sd) ?_
     refine oC (hok:=by first|exact se|(exact ZM (by omega))|(exact ZM (by simp;omega))|exact sd) ?_;refine oG (hok:=by first|exact se|(exact ZM (by omega))|(exact ZM (by simp;omega))|exact sd) ?_;refine oS ?_;refine oN ?_;refine nz ?_;refine WI.regB tT [0,5,6] ?_;refine oS ?_;refine oG (hok:=by first|exact se|(exact ZM (by omega))|(exact ZM (by simp;omega))|exact sd) ?_;refine oS ?_;refine oN ?_;refine nz ?_;exact⟨⟨k+1,by rw[hst];first|done|rfl,rfl,by omega⟩,by simp[ZK,Ab.get,D.val,ZF];omega⟩
    ·have hst:ZAp (d.take (k+1))=ZAp (d.take k)++JG (d.getD k []):=by
      rw[ZLR d k hk4,if_pos (by omega)];obtain rfl:k=0:=by omega
      simp[ZAp,jnc]
     refine WI.regB tT [0,5,6] ?_
     iterate 3 refine oS ?_
     iterate 2 refine oG (hok:=by first|exact se|(exact ZM (by omega))|(exact ZM (by simp;omega))|exact sd) ?_
     refine oC (hok:=by first|exact se|(exact ZM (by omega))|(exact ZM (by simp;omega))|exact sd) ?_;refine oG (hok:=by first|exact se|(exact ZM (by omega))|(exact ZM (by simp;omega))|exact sd) ?_;refine oS ?_;refine oN ?_;refine nz ?_;refine WI.regB tT [0,5,6] ?_;refine oS ?_;refine oG (hok:=by first|exact se|(exact ZM (by omega))|(exact ZM (by simp;omega))|exact sd) ?_;refine oS ?_;refine oN ?_;refine nz ?_;exact⟨⟨k+1,by rw[hst];first|done|rfl,rfl,by omega⟩,by simp[ZK,Ab.get,D.val,ZF];omega⟩
   ·obtain rfl:k=d.length:=by omega
    have hlk:=hpl d.length;rw[List.take_length]at hlk⊢;refine WI.regB tT [5,31] ?_;refine oS ?_
    iterate 2 refine oG (hok:=by first|exact se|(exact ZM (by omega))|(exact ZM (by simp;omega))|exact sd) ?_
    refine oN ?_;refine nz ?_;refine cd (fun h3=> ?_) (fun h3=> ?_)
    ·refine WI.regB tT [2,3] ?_
     iterate 2 refine oS ?_
     refine oN ?_;refine nz ?_;refine lf ?_;rw[if_pos (by omega)]at hq;cases hq;rfl
    ·refine WI.regB tT [2,3] ?_
     iterate 3 refine oS ?_
     refine oN ?_;refine nz ?_;refine lf ?_;rw[if_neg (by omega)]at hq;cases hq;rfl
def ZEl:List D→Option (Bool×D)
 | [.x (.sl R)]=>(Zg JE R).bind fun d=>some (decide (smD d)&&(decide (d.length≤1000000)&&(decide (∀r∈d,r.length≤1000000))),.tup [.x (.str (ZBa d).1),.x (.int .i64 (ZBa d).2)])
 |_=>none
theorem ZOu: ∀args r,ZEl args=some (true,r)→ZC Tryz.prog 145 args r:=by
 intro args r h;unfold ZEl at h;split at h
 ·rename_i R;obtain⟨d,hr0,h⟩:=Zr h;simp only[Zf,Zc,ZW,Zj,true_and]at h;obtain⟨⟨h1,h2,h3⟩,rfl⟩:=h;rw[←ZX ZC7 hr0];exact(Zca d h1 h2 h3)
 ·cases h
theorem bl_irr: ∀a,Op.bytesLess a a=false
 | []=>rfl
 |x::a=>by rw[Op.bytesLess,bl_irr a];simp
theorem ZQz: ∀a b,Op.bytesLess a b=true→Op.bytesLess b a=false
 |_,[],h=>by simp[Op.bytesLess]at h
 | [],_::_,_=>by simp[Op.bytesLess]
 |x::a,y::b,h=>by
  rw[Op.bytesLess,Bool.or_eq_true,ZW,Zj,beq_iff_eq]at h;rw[Op.bytesLess,Bool.or_eq_false_iff,Bool.and_eq_false_imp,decide_eq_false_iff_not,beq_iff_eq];rcases h with h|⟨rfl,h⟩
  ·exact⟨UInt8.lt_asymm h,fun e=>by subst e;exact absurd h (UInt8.lt_irrefl _)⟩
  ·exact⟨UInt8.lt_irrefl _,fun _=>ZQz a b h⟩
theorem bl_trans: ∀a b c,Op.bytesLess a b=true→Op.bytesLess b c=true→Op.bytesLess a c=true
 |_,[],_,h,_=>by simp[Op.bytesLess]at h
 |_,_::_,[],_,h=>by simp[Op.bytesLess]at h
 | [],_::_,_::_,_,_=>by simp[Op.bytesLess]
 |x::a,y::b,z::c,h,k=>by
  rw[Op.bytesLess,Bool.or_eq_true,ZW,Zj,beq_iff_eq]at h k⊢;rcases h with h|⟨rfl,h⟩<;>rcases k with k|⟨rfl,k⟩
  ·exact .inl (UInt8.lt_trans h k)
  ·exact .inl h
  ·exact .inl k
  ·exact .inr ⟨rfl,bl_trans a b c h k⟩
theorem bl_tot: ∀a b,a≠b→Op.bytesLess a b=true∨Op.bytesLess b a=true
 | [],[],h=>absurd rfl h
 |_::_,[],_=> .inr (by simp[Op.bytesLess])
 | [],_::_,_=> .inl (by simp[Op.bytesLess])
 |x::a,y::b,h=>by
  simp only[Op.bytesLess,Bool.or_eq_true,ZW,Zj,beq_iff_eq];by_cases e:x=y
  ·subst e;rcases bl_tot a b (fun k=>h (by rw[k]))with k|k
   ·exact .inl (.inr ⟨rfl,k⟩)
   ·exact .inr (.inr ⟨rfl,k⟩)
  ·rcases UInt8.lt_or_lt_of_ne e with k|k
   ·exact .inl (.inl k)
   ·exact .inr (.inl k)
end Go.Proofs.YtpjfdjcejamebaaGreatDoor
end
section
namespace Go.Proofs
open Go.Shelf Go.RowKit Go.Lib Go.Sort
def encAv (x:ByteArray×ByteArray):List Value:= [.string x.1,.string x.2]
def ZOc (a b:ByteArray):Int:=if Op.bytesLess a.toList b.toList=true then-1 else if Op.bytesLess b.toList a.toList=true then 1 else 0
def cmpAv (x y:ByteArray×ByteArray):Int:=ZOc x.1 y.1
theorem ZZm (s:ByteArray) (W:World):Calls Tryz.prog 135 #[.string s] W fun e w'=>e= .returned (.bool false)∧w'=W:=by
 go_enter Tryz.func135,Tryz.ntmps135
 go_wp2
 go_ret
 exact⟨by simp,rfl⟩
theorem Zdf (a b:ByteArray) (W:World):Calls Tryz.prog 101 #[.string a,.string b] W fun e w'=>e= .returned (.int .i64 (ZOc a b))∧w'=W:=by
 go_enter Tryz.func101,Tryz.ntmps101
 go_wp2_with (go_at_call 135;refine(ZZm _ _).mono ?_;rintro e w' ⟨rfl,hw⟩;rw[hw])
 all_goals(go_ret;refine⟨?_,rfl⟩;unfold ZOc;(repeat' split)<;>first|rfl|(exfalso;simp_all;done)|(exfalso;rcases YtpjfdjcejamebaaGreatDoor.bl_tot a.toList b.toList (by simp_all)with hh|hh<;>simp_all))
theorem ltAv (x y:ByteArray×ByteArray):ltOf cmpAv x y=Op.bytesLess x.1.toList y.1.toList:=by
 unfold ltOf cmpAv ZOc;cases h:Op.bytesLess x.1.toList y.1.toList<;>cases h2:Op.bytesLess y.1.toList x.1.toList<;>simp
theorem swoAv:SWO (ltOf cmpAv) where
 irrefl x:=by rw[ltAv];exact YtpjfdjcejamebaaGreatDoor.bl_irr _
 trans x y z h1 h2:=by rw[ltAv]at*;exact YtpjfdjcejamebaaGreatDoor.bl_trans _ _ _ h1 h2
 ntrans x y z h1 h2:=by
  rw[ltAv]at*;cases h:Op.bytesLess x.1.toList z.1.toList with
  |false=>rfl
  |true=>
   by_cases e1:x.1.toList=y.1.toList
   ·rw[e1]at h;rw[h]at h2;cases h2
   ·rcases YtpjfdjcejamebaaGreatDoor.bl_tot _ _ e1 with h3|h3
    ·rw[h3]at h1;cases h1
    ·have:=YtpjfdjcejamebaaGreatDoor.bl_trans _ _ _ h3 h;rw[this]at h2;cases h2
theorem Zc5 (x y:ByteArray×ByteArray) (W:World):Calls Tryz.prog 142 #[.agg #[.string x.1,.string x.2],.agg #[.string y.1,.string y.2]] W fun e w'=>e= .returned (.int .i64 (cmpAv x y))∧ ∃q os',w'=grow (W.drewN q) os':=by
 have hcon:=fun W'=>Zdf x.1 y.1 W'
 unfold cmpAv;generalize ZOc x.1 y.1=r at hcon⊢
 go_enter Tryz.func142,Tryz.ntmps142
 go_wp2_with (go_at_call 101;refine(hcon _).mono ?_;rintro e w' ⟨rfl,rfl⟩)
 go_ret
 exact⟨rfl,0,_,by rw[alloc_eq_grow,alloc_eq_grow,grow_grow];rfl⟩
theorem cmpLaysAv (blk off size:Nat) (w:World):CmpLays Tryz.prog 142 #[] encAv 2 cmpAv blk off size w:=fun _ _ _ _ x y=>Zc5 x y _
theorem ZTR {α:Type} [Inhabited α] (enc:α→List Value) (k:Nat) {w:World} {g n:Nat} {os:Array Obj} {cur:Array Value} {e:TypeId} {fr:Nat×Nat} (d:Array α) (hb:w.heap[g]? =some (.cells cur e fr)):
  (sortWorldK enc k w g 0 n d os).heap[g]? =some (.cells (putCells id 0 (flatK enc k d) cur) e fr):=by
 have hg:g<w.heap.size:=(ξH hb).1;unfold sortWorldK putRowK;rw[heap_grow_old _ _ (by simpa using hg)];simp[putRow,mapBlock,Sort.ahead,Array.getElem?_modify,hb,onCells]
theorem grown_sortK {α:Type} [Inhabited α] (enc:α→List Value) (k:Nat) {w:World} {g n:Nat} {os:Array Obj} (d:Array α):w.grownBy (sortWorldK enc k w g 0 n d os) (some g):=by
 unfold sortWorldK putRowK;refine⟨rfl,rfl,rfl,by simp,fun k hk hne=> ?_⟩;rw[heap_grow_old _ _ (by simpa using hk)];have:g≠k:=fun e=>hne (by rw[e])
 simp[putRow,mapBlock,Sort.ahead,Array.getElem?_modify,this]
theorem ZVy (cur F:Array Value) (h:F.size≤cur.size):(putCells id 0 F cur).toList.take F.size=F.toList:=by
 apply List.ext_getElem?;intro j;by_cases hj:j<F.size
 ·rw[List.getElem?_take_of_lt hj,Array.getElem?_toList,Array.getElem?_toList];simp[putCells,hj,show j<cur.size by omega]
 ·rw[List.getElem?_take_eq_none (by omega),List.getElem?_eq_none (by simp;omega)]
theorem own_sortK {α:Type} [Inhabited α] (enc:α→List Value) (k:Nat) {w:World} {g n cap:Nat} {e:TypeId} {os:Array Obj} {cur:Array Value} {d:Array α} {m:Nat} (hm:d.size=m) (hb:w.heap[g]? =some (.cells cur e (0,0))) (h1:m≤cap) (h2:cap≤maxLen) (h3:cur.size=cap*k):
  (sortWorldK enc k w g 0 n d os).ownsRow 0 e k (.slice (some ⟨g,0,none⟩) m cap) m (flatK enc k d).toList:=by
 subst hm;have hle:d.size*k≤cap*k:=Nat.mul_le_mul_right _ h1;exact⟨by simp,.inr ⟨g,cap,_,rfl,Nat.zero_le _,ZTR enc k d hb,h1,h2,by simp[putCells,h3],by
  have:=ZVy cur (flatK enc k d) (by simp;omega);rwa [size_flatK]at this⟩⟩
end Go.Proofs
end
section
namespace Go.Proofs.YtpjfdjcejamebaaGreatDoor
open Go.RowKit Go.Bo Go.Ab
def ZBD (p:Av):List Av→List Av
 | []=> [p]
 |q::o=>if Op.bytesLess q.1 p.1=true then q::ZBD p o else p::q::o
def QC (r:List Av):List Av:=r.foldl (fun o p=>ZBD p o) []
theorem ZH5 (p:Av): ∀o,(ZBD p o).Perm (p::o)
 | []=>List.Perm.refl _
 |q::o=>by
  unfold ZBD;split
  ·exact((ZH5 p o).cons q).trans (List.Perm.swap p q o)
  ·exact List.Perm.refl _
theorem ZJr: ∀(r o:List Av),(r.foldl (fun o p=>ZBD p o) o).Perm (r++o)
 | [],o=>List.Perm.refl _
 |p::r,o=>by
  rw[List.foldl_cons];exact(ZJr r _).trans (((ZH5 p o).append_left r).trans List.perm_middle)
theorem ZDH (r:List Av):(QC r).Perm r:=by have:=ZJr r [];rwa [List.append_nil]at this
theorem ZGb (r:List Av):(QC r).length=r.length:=(ZDH r).length_eq
theorem ZUk (r:List Av) (p:Av):QC (r++ [p])=ZBD p (QC r):=by unfold QC;rw[List.foldl_append];rfl
theorem ZUJ (a b c:Tx) (h1:Op.bytesLess a b=false) (h2:Op.bytesLess b c=false):Op.bytesLess a c=false:=by
 cases h:Op.bytesLess a c with
 |false=>rfl
 |true=>
  by_cases e1:a=b
  ·subst e1;rw[h]at h2;cases h2
  ·rcases bl_tot _ _ e1 with h3|h3
   ·rw[h3]at h1;cases h1
   ·have:=bl_trans _ _ _ h3 h;rw[this]at h2;cases h2
abbrev SrA (l:List Av):Prop:=l.Pairwise fun a b=>Op.bytesLess b.1 a.1=false
theorem ZIj (p:Av): ∀o,SrA o→SrA (ZBD p o)
 | [],_=>List.pairwise_singleton _ _
 |q::o,h=>by
  obtain⟨h1,h2⟩:=List.pairwise_cons.1 h;unfold ZBD;split
  ·rename_i hl;refine List.pairwise_cons.2 ⟨fun x hx=> ?_,ZIj p o h2⟩;rcases List.mem_cons.1 ((ZH5 p o).mem_iff.1 hx)with rfl|hx
   ·exact ZQz _ _ hl
   ·exact h1 x hx
  ·rename_i hl;have hl:Op.bytesLess q.1 p.1=false:=by simpa using hl
   refine List.pairwise_cons.2 ⟨fun x hx=> ?_,h⟩;rcases List.mem_cons.1 hx with rfl|hx
   ·exact hl
   ·exact ZUJ _ _ _ (h1 x hx) hl
theorem ZHj: ∀(r o:List Av),SrA o→SrA (r.foldl (fun o p=>ZBD p o) o)
 | [],o,h=>h
 |p::r,o,h=>by rw[List.foldl_cons];exact ZHj r _ (ZIj p o h)
theorem ZP7 (r:List Av):SrA (QC r):=ZHj r [] List.Pairwise.nil
theorem Zad {r l:List Av} (hp:l.Perm r) (hs:SrA l) (hn:(r.map (·.1)).Nodup):l=QC r:=by
 refine List.Perm.eq_of_pairwise (le:=fun a b=>Op.bytesLess b.1 a.1=false) (fun a b ha hb h1 h2=> ?_) hs (ZP7 r) (hp.trans (ZDH r).symm);have ha':=hp.mem_iff.1 ha;have hb':=(ZDH r).mem_iff.1 hb;have he:a.1=b.1:=Classical.byContradiction fun hne=>by
  rcases bl_tot _ _ hne with h|h
  ·rw[h]at h2;cases h2
  ·rw[h]at h1;cases h1
 obtain⟨i,hi,rfl⟩:=List.getElem_of_mem ha';obtain⟨j,hj,rfl⟩:=List.getElem_of_mem hb';have key: ∀(i j:Nat) (hi:i<r.length) (hj:j<r.length),i<j→r[i].1≠r[j].1:=fun i j hi hj hij=>by
  have:=List.pairwise_iff_getElem.1 hn i j (by simpa using hi) (by simpa using hj) hij;simpa using this
 have:i=j:=by
  rcases Nat.lt_trichotomy i j with h|h|h
  ·exact absurd he (key i j hi hj h)
  ·exact h
  ·exact absurd he.symm (key j i hj hi h)
 subst this;rfl
def bsA (p:Av):ByteArray×ByteArray:=(ZZ p.1,ZZ p.2)
theorem Zcy (x:ByteArray×ByteArray):bsA (x.1.toList,x.2.toList)=x:=by
 have key: ∀b:ByteArray,ZZ b.toList=b:=fun b=>by
  unfold ZZ;rw[ByteArray.toList_eq]
 unfold bsA;rw[key,key]
theorem Zci (r:List Av) (hn:(r.map (·.1)).Nodup) (d':Array (ByteArray×ByteArray)) (hp:Sort.PermIn 0 r.length (r.map bsA).toArray d') (hs:Sort.SortedIn (Go.Proofs.ltOf Go.Proofs.cmpAv) 0 r.length d'):d'=((QC r).map bsA).toArray:=by
 obtain⟨hsz,-,hpm⟩:=hp;have hsz':d'.size=r.length:=by rw[hsz];simp
 have hex:(d'.extract 0 r.length).toList=d'.toList:=by rw[←hsz'];simp
 have hex2:((r.map bsA).toArray.extract 0 r.length).toList=r.map bsA:=by simp[YN]
 rw[hex,hex2]at hpm;have hl:d'.toList=(d'.toList.map fun x=>(x.1.toList,x.2.toList)).map bsA:=by
  rw[List.map_map]
  conv=>lhs;rw[←List.map_id d'.toList]
  exact List.map_congr_left fun x _=>(Zcy x).symm
 have hperm:(d'.toList.map fun x=>(x.1.toList,x.2.toList)).Perm r:=by
  have:=hpm.map fun x:ByteArray×ByteArray=>(x.1.toList,x.2.toList)
  rw[List.map_map]at this;have e:(r.map ((fun x:ByteArray×ByteArray=>(x.1.toList,x.2.toList))∘bsA))=r:=by
   conv=>rhs;rw[←List.map_id r]
   exact List.map_congr_left fun p _=>by simp[bsA,Jt]
  rwa [e]at this
 have hsr:SrA (d'.toList.map fun x=>(x.1.toList,x.2.toList)):=by
  show List.Pairwise _ _;rw[List.pairwise_map,List.pairwise_iff_getElem];intro i j hi hj hij;have:=hs i j (Nat.zero_le _) hij (by rw[←hsz'];simpa using hj);rw[Go.Proofs.ltAv]at this;simp at hi hj;simp only[getElem!_pos d' i hi,getElem!_pos d' j hj]at this;simpa using this
 apply Array.toList_inj.1;rw[hl,Zad hperm hsr hn]
theorem ZQm (r:List Av) (i:Nat) (hi:i<r.length):(Go.Sort.flatK Go.Proofs.encAv 2 (r.map bsA).toArray).toList[i*2]? =some (Value.string (ZZ r[i].1))∧(Go.Sort.flatK Go.Proofs.encAv 2 (r.map bsA).toArray).toList[i*2+1]? =some (Value.string (ZZ r[i].2)):=by
 have e1:i*2/2=i:=by omega
 have e2:(i*2+1)/2=i:=by omega
 have e3:i*2 % 2=0:=by omega
 have e4:(i*2+1) % 2=1:=by omega
 have hg:(r.map bsA)[i]! =bsA r[i]:=by rw[getElem!_pos _ i (by simpa using hi)];simp
 constructor
 ·simp[Go.Sort.flatK,show i*2<r.length*2 by omega,e1,e3,hg,Go.Proofs.encAv,bsA,hi]
 ·simp[Go.Sort.flatK,show i*2+1<r.length*2 by omega,e2,e4,hg,Go.Proofs.encAv,bsA,hi]
set_option maxHeartbeats 1000000 in
theorem Zdz (e:Nat) (r:List Av) (hn:(r.map (·.1)).Nodup) (hne:r≠ []) (hl:r.length≤1000000) (lim:Nat) (hlim:lim≤64):ZU Tryz.prog 175 [.ref 0 r.length 0 r.length,.x (.int .i64 0),.x (.int .i64 r.length),.x (.int .i64 lim),.fn 142 []] [.rows false e 2 (rows Zm r)] (.tup []) [.rows false e 2 (rows Zm (QC r))]:=by
 intro c E vs R hvl;obtain⟨hsz,hv⟩:=hvl;obtain⟨v0,v1,v2,v3,v4,rfl⟩: ∃v0 v1 v2 v3 v4,vs= #[v0,v1,v2,v3,v4]:=by
  obtain⟨vl⟩:=vs
  match vl,hsz with
  | [a,b,c,d,e],_=>exact⟨a,b,c,d,e,rfl⟩
 have h0:=hv 0 _ v0 rfl rfl;have h1:=hv 1 _ v1 rfl rfl;have h2:=hv 2 _ v2 rfl rfl;have h3:=hv 3 _ v3 rfl rfl;have h4:=hv 4 _ v4 rfl rfl;clear hv hsz;obtain rfl:v1= .int .i64 0:=by cases h1 with|x h=>cases h;rfl
 obtain rfl:v2= .int .i64 r.length:=by cases h2 with|x h=>cases h;rfl
 obtain rfl:v3= .int .i64 lim:=by cases h3 with|x h=>cases h;rfl
 obtain rfl:v4= .func (.func 142) #[] #[]:=by
  cases h4 with
  |fn vs hl _=>rw[show vs= #[]from Array.eq_empty_of_size_eq_zero hl.symm]
 clear h1 h2 h3 h4;have hlen:(rows Zm r).length=r.length:=YR _ _;cases h0 with
 |ref hr _=>
  have ho: [Ob.rows false e 2 (rows Zm r)][0]? =some (Ob.rows false e 2 (rows Zm r)):=rfl;obtain⟨k1,k2⟩:=hr.at ho rfl;obtain⟨k3,b,a,cap,a',cap',k4,rfl,k6,k7,k8,k9,k10,k11⟩:=k2 hlen;obtain⟨rfl,rfl⟩:=k8 rfl;obtain⟨p,hp,hok⟩:=R.at ho;rw[hp]at k4;have hpb:p=(b,.slice a' r.length cap'):=Option.some.inj k4;subst hpb;have hpos:0<r.length:=List.length_pos_iff.2 hne;obtain⟨xs,⟨q1,q2⟩,q3,q4⟩:=hok;rcases q2 with⟨q2,q5⟩|⟨g,cp,cells,fr,q5,q6,q7,q8,q9,q10,q11⟩
  ·rw[hlen]at q5;omega
  ·simp only[Value.slice.injEq]at q5;obtain⟨rfl,_,rfl⟩:=q5;rw[hlen]at q10 q7 q1;have hfr:fr=(0,0):=by
    rcases q11 with q11|⟨q11,_⟩
    ·exact q11
    ·cases q11
   subst hfr;have hxs:xs=(Go.Sort.flatK Go.Proofs.encAv 2 (r.map bsA).toArray).toList:=by
    apply List.ext_getElem (by rw[q1];simp);intro t ht ht2;have htr:t/2<r.length:=by rw[q1]at ht;omega
    obtain⟨f1,f2⟩:=ZQm r (t/2) htr;have hrw:(rows Zm r)[t/2]? =some [X.str r[t/2].1,X.str r[t/2].2]:=by simp[rows,htr,Zm]
    apply Option.some.inj;rw[←YE ht2];rcases Nat.mod_two_eq_zero_or_one t with hm|hm
    ·have et:t/2*2=t:=by omega
     rw[et]at f1;rw[f1];have:=q4 (t/2) _ 0 (.str r[t/2].1) xs[t] hrw rfl (by rw[Nat.add_zero,et];exact YE ht);generalize xs[t]=u at this⊢;cases this;rfl
    ·have et:t/2*2+1=t:=by omega
     rw[et]at f2;rw[f2];have:=q4 (t/2) _ 1 (.str r[t/2].2) xs[t] hrw rfl (by rw[et];exact YE ht);generalize xs[t]=u at this⊢;cases this;rfl
   have hglt:=(ξH q6).1;have hds:(r.map bsA).toArray.size=r.length:=by simp
   have hH:Go.Sort.HoldsK Go.Proofs.encAv 2 E.w g 0 (r.map bsA).toArray:=by
    intro j hj;rw[Go.Sort.size_flatK,hds]at hj;have hjx:cells.toList[j]? =xs[j]? :=by rw[←q10,List.getElem?_take_of_lt hj]
    refine⟨?_,by simp[World.frozen?,q6]⟩;simp only[World.cell?,q6,Option.isSome_none,Bool.false_eq_true,if_false,Nat.zero_add];rw[←Array.getElem?_toList,hjx,hxs,Array.getElem?_toList];have hjs:j<(Go.Sort.flatK Go.Proofs.encAv 2 (r.map bsA).toArray).size:=by rw[Go.Sort.size_flatK,hds];exact hj
    rw[Array.getElem?_eq_getElem hjs,getElem!_pos _ j hjs];rfl
   have eg: ∀args w,(callFunc 142 args).run Tryz.prog w= .ok (.enter 142 args) w:=Go.Proofs.enters_of Tryz.func142 (by kernel_rfl) rfl;have hk2: ∀x,(Go.Proofs.encAv x).length=2:=fun _=>rfl
   have h11: ∀x,∀v∈Go.Proofs.encAv x,v.oneCell'=true:=fun x v hv=>by simp[Go.Proofs.encAv]at hv;rcases hv with rfl|rfl<;>rfl
   have:=Go.Proofs.AnyQ.pdqsortCmpFunc_all Tryz.pdqAva 2 (by exact Tryz.isAgg161) (by exact Tryz.sizeOf161) Go.Proofs.encAv Go.Proofs.cmpAv 142 #[] Go.Proofs.swoAv g 0 cap' (r.map bsA).toArray E.w eg (Go.Proofs.cmpLaysAv g 0 _ E.w) ⟨hk2,h11,hH,hglt⟩ (r.length+1) 0 r.length lim (r.map bsA).toArray E.w (by omega) rfl (Go.Proofs.SWK.start hH) (Nat.zero_le _) (by rw[hds];exact Nat.le_refl _) (by rw[hds];omega) (by omega) (Or.inl rfl);rw[hds]at this;refine this.mono ?_;rintro _ w' ⟨rfl,nn,oss,rfl⟩;have hps:=Go.Sort.pdq_sorts (Go.Proofs.ltOf Go.Proofs.cmpAv) Go.Proofs.swoAv (r.map bsA).toArray 0 r.length lim true true (Nat.zero_le _) (by rw[hds];exact Nat.le_refl _) (Or.inl rfl);have hd':=Zci r hn _ hps.1 hps.2;rw[hd'];have hown:=Go.Proofs.own_sortK (n:=nn) (os:=oss) Go.Proofs.encAv 2 (d:=((QC r).map bsA).toArray) (m:=r.length) (by simp[ZGb]) q6 q7 q8 q9;have hg:=Go.Proofs.grown_sortK (n:=nn) (os:=oss) (w:=E.w) (g:=g) Go.Proofs.encAv 2 ((QC r).map bsA).toArray;have hls:(rows Zm (QC r)).length=r.length:=by rw[YR,ZGb]
   obtain⟨R',ev⟩:=R.set ho hp _ (.rows false e 2 (rows Zm (QC r))) (b,.slice (some ⟨g,0,none⟩) r.length cap') ⟨hg.os,hg.tape,hg.output,hg.size,fun k hk hm=>hg.block k hk (fun e=>hm (by cases e;rfl))⟩ (fun b' hb'=> .inl hb') (fun sz rs1 h=>by
     simp only[Ob.sl?,Zf,Zc]at h;obtain⟨rfl,rfl⟩:=h;exact⟨(rows Zm (QC r)).length,rfl,.inl ⟨by rw[hls,hlen],rfl⟩⟩) (fun k h=>by cases h) (fun ev=>by
     refine⟨_,by rw[hls];exact KM.of_owns hown false,fun z hz=> ?_,fun i z j x v h1 h2 h3=> ?_⟩
     ·obtain⟨q,_,rfl⟩:=List.mem_map.1 hz;rfl
     ·unfold rows at h1;rw[YC]at h1;obtain⟨q,hq,rfl⟩:=Zd h1;have hi:=(Za hq).1;obtain⟨f1,f2⟩:=ZQm (QC r) i hi;have hqe:(QC r)[i]=q:=(Za hq).2;rw[hqe]at f1 f2
      match j with
      |0=>
       simp only[Zm,List.getElem?_cons_zero,Zf]at h2;subst h2;rw[Nat.add_zero,f1]at h3;cases h3;exact .str _
      |1=>
       simp only[Zm,List.getElem?_cons_zero,List.getElem?_cons_succ,Zf]at h2;subst h2;rw[f2]at h3;cases h3;exact .str _
      |j+2=>simp[Zm]at h2)
   exact⟨_,_,rfl,rfl,R',ev,.tup #[] rfl (fun j d v h=>by simp at h)⟩
theorem ZWL (n:Nat) (h:n≤1000000):ZC Tryz.prog 113 [.x (.int .u64 n)] (.x (.int .i64 (Lib.bitLen n))):=by
 intro w st vs hst hvl;obtain⟨hsz,hv⟩:=hvl;obtain⟨v0,rfl⟩: ∃v0,vs= #[v0]:=by
  obtain⟨vl⟩:=vs
  match vl,hsz with
  | [a],_=>exact⟨a,rfl⟩
 have h0:=hv 0 _ v0 rfl rfl;obtain rfl:v0= .int .u64 n:=by cases h0 with|x h=>cases h;rfl
 have:=Tryz.bits_Len (n:Int) w (by omega) (by omega);rw[Int.toNat_natCast]at this;refine this.mono ?_;rintro e w' ⟨rfl,rfl⟩;exact⟨_,st,rfl,Kept.refl _ _,fun _ _ h=>h,fun _ _ h=> .inl h,.x (.int _ _)⟩
def ZD3:List D→Option (Bool×D)
 | [.x (.int .u64 n)]=>some (decide (0≤n∧n≤1000000),.x (.int .i64 (Lib.bitLen n.toNat)))
 |_=>none
theorem ZPd: ∀args r,ZD3 args=some (true,r)→ZC Tryz.prog 113 args r:=by
 intro args r h;unfold ZD3 at h;split at h
 ·rename_i n;simp only[Zf,Zc,ZW,Zj,true_and]at h;obtain⟨h1,rfl⟩:=h;exact(by obtain⟨m,rfl⟩: ∃m:Nat,n=m:=⟨n.toNat,by omega⟩;rw[Int.toNat_natCast];exact ZWL m (by omega))
 ·cases h
def ZcF:Tabs:=ZY (ZV) 113 ZD3
theorem ZSv:SsOk Tryz.prog ZcF:=ZL (ZG) (ZB ZH (p:=Zdd) rfl) ZPd
theorem ZRx:Enters Tryz.prog 175:=ZB ZH (p:=ZcY) rfl
theorem Zb5 (e:Nat) (r:List Av) (hn:(r.map (·.1)).Nodup) (hne:r≠ []) (hl:r.length≤1000000):ZU Tryz.prog 141 [.ref 0 r.length 0 r.length,.fn 142 []] [.rows false e 2 (rows Zm r)] (.tup []) [.rows false e 2 (rows Zm (QC r))]:=by
 have hbl:Lib.bitLen r.length≤62:=Lib.bitLen_le r.length 62 (by omega) (by omega);have hw:IntKind.u64.wrap (r.length:Int)=r.length:=by simp[IntKind.wrap,IntKind.bits,IntKind.signed];omega
 have hc:=Zdz e r hn hne hl (Lib.bitLen r.length) (by omega);have hdd:decide (0≤(r.length:Int)∧(r.length:Int)≤1000000)=true:=ZM (by omega);refine ZN.mcalls (ZP (fz:=true) ZH (p:=ZR1) rfl _ (ξ rfl) _ (fun C0 E0=> ?_));dsimp only[ZR1,qt,qi,qs,qb,qm,qa,qh,qj,qT,qF,qe,ql,qL,qf,q2,q3,q8,qz,qp,qP,qc,qk,qx,qy,qo,qr,qC,ZQ];have uu:=ZA @ZD3.eq_1 (ZA @ZD3.eq_2 (ZA hw (ZA hdd (ZA @ZGZ (ZA @ZF7 (ZA @ZF6 (@ZGB)))))));have tT:=(ZCA ZSv ZRx hc);refine nz ?_;refine rg tT [0,1,4] ?_;refine WI.regB tT [] ?_
 iterate 3 refine oS ?_
 refine oG ?_;refine oC ?_;refine oS ?_;refine oC ?_;refine osN ?_
 first|refine lfN ?_|refine Zez ?_
 exact⟨rfl,rfl⟩
theorem ZNz:Enters Tryz.prog 141:=ZB ZH (p:=ZR1) rfl
def ZAh (p:Av):Av:=(ZD p.1,fld p.2)
def JP (r:List Av):List Av:=QC (r.map ZAh)
def JX (r:List Av):Bool:=r.all fun p=> !(fld p.2== [])
def Jj (s:Tx):Tx×Int:=if(JT s).2≠0 then([],(JT s).2)else if(JT s).1.all JX=true then ZBa ((JT s).1.map JP)else([],5)
theorem ZLl (r:List Av): ∀n,n≤r.length→okP r n=true→(KL (r.take n)).Nodup
 |0,_,_=>by simp[KL]
 |n+1,hn,h=>by
  rw[okP,ZW]at h;have ih:=ZLl r n (by omega) h.1;have h2:=h.2;unfold Kq at h2;simp only[ZW,Bool.not_eq_true',decide_eq_false_iff_not]at h2;have hg:r.getD n ([],[])=r[n]:=by simp[show n<r.length by omega]
  rw[hg]at h2;unfold KL at ih h2⊢;rw[List.take_succ_eq_append_getElem (by omega),List.map_append,List.nodup_append];refine⟨ih,by simp,fun a ha b hb=> ?_⟩;simp only[List.map_cons,List.map_nil,List.mem_singleton]at hb;subst hb;rintro rfl;exact h2.2.2.2 ha
theorem ZWw {r:List Av} (h:Yn r=true):((r.map ZAh).map (·.1)).Nodup:=by
 unfold Yn at h;rw[ZW]at h;have:=ZLl r r.length (Nat.le_refl _) h.1;rw[List.take_length]at this;rw[List.map_map];exact this
theorem ZNg (r:List Av):(JP r).length=r.length:=by unfold JP;rw[ZGb,List.length_map]
def Qp (r:List Av) (k:Nat):List Av:=(r.take k).map ZAh++r.drop k
theorem ZOA (r:List Av) (k:Nat):(Qp r k).length=r.length:=by unfold Qp;simp;omega
theorem Zap (r:List Av) (k:Nat) (h:k<r.length):(rows Zm (Qp r k))[k]? =some [X.str (r.getD k ([],[])).1,X.str (r.getD k ([],[])).2]:=by
 have e:(Qp r k)[k]? =some (r.getD k ([],[])):=by
  unfold Qp;rw[List.getElem?_append_right (by simp;omega)];simp[h,Nat.min_eq_left (Nat.le_of_lt h)]
 unfold rows;rw[YC,e];rfl
theorem ZZO (r:List Av) (k:Nat) (h:k<r.length):(rows Zm (Qp r (k+1)))[k]? =some [X.str (ZD (r.getD k ([],[])).1),X.str (fld (r.getD k ([],[])).2)]:=by
 have e:(Qp r (k+1))[k]? =some (ZAh (r.getD k ([],[]))):=by
  unfold Qp;rw[Yt (by simp;omega),YC,List.getElem?_take,if_pos (by omega)];simp[h]
 unfold rows;rw[YC,e];rfl
theorem ZYQ (r:List Av) (k:Nat) (h:k<r.length):(rows Zm (Qp r k)).set k [X.str (ZD (r.getD k ([],[])).1),X.str (fld (r.getD k ([],[])).2)]=rows Zm (Qp r (k+1)):=by
 have e:(Qp r k).set k (ZAh (r.getD k ([],[])))=Qp r (k+1):=by
  unfold Qp;rw[List.set_append_right _ _ (by simp;omega),List.take_succ_eq_append_getElem h,List.map_append];have h1:k-((r.take k).map ZAh).length=0:=by simp;omega
  rw[h1,List.drop_eq_getElem_cons h,List.set_cons_zero,List.append_assoc];simp[h]
 rw[←e];unfold rows;rw[List.map_set];rfl
theorem ZYO (r:List Av):Qp r r.length=r.map ZAh:=by unfold Qp;simp
theorem ZVQ (r:List Av):Qp r 0=r:=by unfold Qp;simp
def ZBB (d:Dn) (j:Nat):Dn:=(d.take j).map JP++d.drop j
theorem ZYX (d:Dn) (j:Nat):(ZBB d j).length=d.length:=by unfold ZBB;simp;omega
theorem Zb2 (d:Dn) (j:Nat) (h:j<d.length):(ZBB d j).getD j []=d.getD j []:=by
 unfold ZBB;rw[List.getD_eq_getElem?_getD,List.getElem?_append_right (by simp;omega)];simp[h,Nat.min_eq_left (Nat.le_of_lt h)]
theorem ZXl (d:Dn) (j:Nat) (h:j<d.length):(ZBB d j).set j (JP (d.getD j []))=ZBB d (j+1):=by
 unfold ZBB;rw[List.set_append_right _ _ (by simp;omega),List.take_succ_eq_append_getElem h,List.map_append];have h1:j-((d.take j).map JP).length=0:=by simp;omega
 rw[h1,List.drop_eq_getElem_cons h,List.set_cons_zero,List.append_assoc];simp[h]
theorem ZZi (d:Dn):ZBB d d.length=d.map JP:=by unfold ZBB;simp
theorem ZVW (d:Dn):ZBB d 0=d:=by unfold ZBB;simp
def ZFb:List D→Option (Bool×D)
 | [.x (.str s)]=>some (decide (s.length≤1000000),.x (.str (fld s)))
 |_=>none
theorem ZTn: ∀args r,ZFb args=some (true,r)→ZC Tryz.prog 140 args r:=by
 intro args r h;unfold ZFb at h;split at h
 ·rename_i s;simp only[Zf,Zc,ZW,Zj,true_and]at h;obtain⟨h1,rfl⟩:=h;exact(ZdA s h1)
 ·cases h
theorem ZPT:Enters Tryz.prog 131:=ZB ZH (p:=ZI9) rfl
def ZES:Tabs:=JR (ZY (ZY (ZY (ZV) 37 KB) 140 ZFb) 143 ZAY) 143 (QE ZAY)
theorem Jf:SsOk Tryz.prog ZES:=Yl (ZL (ZL (ZL (ZG) (ZB ZH (p:=i37) rfl) ZGJ) (ZB ZH (p:=ZRX) rfl) ZTn) (ZB ZH (p:=ZK4) rfl) ZJY) (ZB ZH (p:=ZK4) rfl) (ZCR ZJY)
theorem ZSn (a:List D):ZES.q 37 a=KB a:=rfl
theorem ZPP (a:List D):ZES.q 140 a=ZFb a:=rfl
theorem ZPh (a:List D):ZES.q 143 a=ZAY a:=rfl
theorem ZPS (a:List D) (o:List Ob):ZES.t 143 a o=YU (QE ZAY) a o:=rfl
theorem ZXT (f:FuncId) (a:List D) (o:List Ob):ZES.r f a o=none:=rfl
theorem ZZT (f:FuncId) (a:List D) (o:List Ob):ZES.k f a o=none:=rfl
def FZ (d:Dn):List Ob:=ZDL 2 (d.map (rows Zm))
theorem Zcl (d:Dn):(FZ d).length=d.length:=by unfold FZ;rw[ZEA,List.length_map]
theorem Za1 (d:Dn):frzL (List.range' 1 d.length) (obD d)= .drw 159 1 (RF d)::FZ d:=by
 have h:=ZRL (.drw 159 1 (RF d)) 161 2 (d.map (rows Zm)) [];rw[List.length_map]at h;exact h
theorem Zab (d:Dn):ZAW [0] (.drw 159 1 (RF d)::FZ d)= [.drw 159 1 (JY (rows JE d))]:=by
 have h3:=Zau 159 2 (d.map (rows Zm));have h4:((d.map (rows Zm)).map fun rs=> [X.sl rs])=rows JE d:=by rw[List.map_map];rfl
 rw[h4]at h3;exact h3
theorem ZLv (e sz:Nat) (b:Ob): ∀(l l':List (List (List X))),l.length=l'.length→KW (fam e sz l++ [b]) (fam e sz l'++ [b])=true
 | [],[],_=>by cases b<;>simp[fam,KW,Ob.beq_refl]
 | [],_::_,h=>by simp at h
 |_::_,[],h=>by simp at h
 |x::l,y::l',h=>by
  have ih:=ZLv e sz b l l' (by simpa using h);unfold fam at ih⊢;rw[List.map_cons,List.map_cons,List.cons_append,List.cons_append];exact ih
set_option maxHeartbeats 4000000 in
theorem ZcD (s:Tx) (d:Dn) (hq:JT s=(d,0)) (hne:s≠ []):ZC Tryz.prog 106 [.x (.str s)] (.tup [.x (.str (Jj s).1),.x (.int .i64 (Jj s).2)]):=by
 obtain⟨hs4,-,hd0,-,hck⟩:=ZGW s d hq hne;have hsm:smD d:=by
  have:=ZGR s (by omega);unfold Qy ZBV at this;rw[List.map_map]at this;rw[hd0];exact this
 obtain⟨hd32,hmay⟩:=ZFV hck;have hn:Jj s=if d.all JX=true then ZBa (d.map JP)else([],5):=by
  unfold Jj;rw[hq];simp
 have hread:=ZbN s d hq hne;clear hq hne hs4 hd0 hck;rcases hu:Jj s with⟨u,e⟩
 rw[hn]at hu;clear hn;refine ZN.pure (ZP (fz:=true) ZH (p:=ZHb) rfl _ (ξ rfl) _ (fun C0 E0=> ?_)) rfl;dsimp only[ZHb,qt,qi,qs,qb,qm,qa,qh,qj,qT,qF,qe,ql,qL,qf,q2,q3,q8,qz,qp,qP,qc,qk,qx,qy,qo,qr,qC,ZQ];have uu:=ZA @KB.eq_1 (ZA @KB.eq_2 (ZA @ZFb.eq_1 (ZA @ZFb.eq_2 (ZA @ZAY.eq_1 (ZA @ZAY.eq_2 (ZA @ZGZ (ZA @ZF7 (ZA @ZF6 (ZA @ZGB (ZA @ZXT (ZA @ZZT (ZA @ZPP (ZA @ZPh (ZA @ZSn (ZA @ZPS (@QE.eq_1))))))))))))))));refine WI.seq ?_;refine WI.regB Jf [0] ?_
 iterate 2 refine oS ?_
 refine oN ?_;refine ZI ?_;refine WI.seq ?_;refine WI.regB (ZCA ZG ZPT hread) [4,5] ?_;refine oS ?_;refine oC ?_;refine oS ?_
 iterate 2 refine oG ?_
 iterate 2 refine oS ?_
 refine oN ?_;refine ZI ?_;refine WI.seq ?_;refine WI.seq ?_;refine WI.regB Jf [4,5,16] ?_;refine oS ?_;refine oG ?_;refine oN ?_;refine ZI ?_;refine WI.cond (b:=_) rfl rfl (fun h0=> ?_) (fun h0=> ?_)
 ·exfalso;simp at h0
 ·try simp only[zB]at h0
  refine WI.skip ?_;refine ZI ?_;refine WI.seq ?_;refine WI.seq ?_;have uu:=ZA uu (ZJ7 d);refine WI.regB Jf [4,18,19,20] ?_;refine oS ?_;refine oG ?_;refine oS ?_;refine oN ?_;refine ZI ?_;refine WI.block ?_;refine WI.loop (fun φ os=> ∃(j:Nat) (M:Dn),φ= [(4,.ref 0 d.length 0 d.length),(18,.ref 0 d.length 0 d.length),(19,.x (.int .i64 d.length)),(20,.x (.int .i64 j))]∧os=obD M∧j≤d.length∧M=ZBB d j∧(d.take j).all JX=true) (ZK d.length 20) ?_ (fun φ os hI=> ?_)
  ·exact⟨0,d,rfl,rfl,by omega,(ZVW d).symm,rfl⟩
  ·obtain⟨j,M,rfl,rfl,hj,hM,hall⟩:=hI;have hMl:M.length=d.length:=by rw[hM,ZYX]
   have hRl:=ZJ7 M;have hFl:=ZH4 M;rw[hMl]at hRl hFl;refine WI.seq ?_;refine WI.regB Jf [4,18,19,20,21] ?_;refine oG ?_;refine oN ?_;refine ZI ?_;refine WI.seq ?_;refine WI.cond (b:=_) rfl rfl (fun h1=> ?_) (fun h1=> ?_)
   ·try simp only[zB]at h1
    refine WI.skip ?_;refine ZI ?_;refine WI.seq ?_;refine WI.block ?_;refine WI.seq ?_;have hj4:j<d.length:=by omega
    have hMj:M.getD j []=d.getD j []:=by rw[hM];exact Zb2 d j hj4
    have hrf:=ZVS M j (by omega);have hfm:=ZIG M j (by omega);rw[hMj]at hrf hfm;have hdj:d[j]=d.getD j []:=by simp[hj4]
    have hmr:Yn (d.getD j [])=true:=by rw[←hdj];exact hmay _ (List.getElem_mem hj4)
    have hM2:ZBB d (j+1)=M.set j (JP (d.getD j [])):=by rw[hM];exact(ZXl d j hj4).symm
    have hM0:M=M.set j (Qp (d.getD j []) 0):=by rw[ZVQ,←hMj];exact(ZLf M j).symm
    have hall3:(d.take (j+1)).all JX=((d.take j).all JX&&JX (d.getD j [])):=by rw[YJ _ d j hj4,hdj]
    have hnf:JX (d.getD j [])=false→d.all JX=false:=fun h=>Ze JX d j hj4 (by rw[hdj];exact h)
    generalize hr:d.getD j []=r at hMj hrf hfm hmr hM2 hM0 hall3 hnf;obtain⟨hr8,hr1,hpb⟩:=ZAi hmr;have uu:=ZA uu (ZA hrf (ZA hfm hRl));refine WI.regB Jf [4,7,18,19,20] ?_
    iterate 2 refine oG ?_
    refine oS ?_;refine oN ?_;refine ZI ?_;refine WI.seq ?_;refine WI.seq ?_;refine WI.regB Jf [4,7,18,19,20,24,25,26] ?_;refine oS ?_;refine oG ?_;refine oS ?_;refine oN ?_;refine ZI ?_;refine WI.block ?_;refine WI.orderA [4,7,18,19,20,24,25,26] ?_;have hFs: ∀x:List Av,(FM (M.set j x)).length=d.length:=fun x=>by rw[ZH4,List.length_set,hMl]
    have hFb: ∀(x:List Av) (y:Ob),(FM (M.set j x)++ [y])[d.length]? =some y:=fun x y=>by rw[List.getElem?_append_right (by rw[hFs];exact Nat.le_refl _),hFs,Nat.sub_self];rfl
    have hFc: ∀(x:List Av) (y z:Ob),(FM (M.set j x)++ [y]).set d.length z=FM (M.set j x)++ [z]:=fun x y z=>by rw[List.set_append_right _ _ (by rw[hFs];exact Nat.le_refl _),hFs,Nat.sub_self];rfl
    have hFg: ∀(x:List Av) (Y:List Ob),(FM (M.set j x)++Y)[j]? =some (.rows false 161 2 (rows Zm x)):=fun x Y=>by rw[ZT6 _ _ j (by rw[List.length_set];omega),show(M.set j x).getD j []=x by simp[hMl,hj4]]
    have hFg': ∀(x:List Av),(FM (M.set j x))[j]? =some (.rows false 161 2 (rows Zm x)):=fun x=>by have:=hFg x [];rwa [List.append_nil]at this
    have hFt: ∀(x z:List Av) (Y:List Ob),(FM (M.set j x)++Y).set j (.rows false 161 2 (rows Zm z))=FM (M.set j z)++Y:=fun x z Y=>by rw[ZTq _ _ j (by rw[List.length_set];omega),List.set_set]
    have hBx: ∀(x y:List Av) (b:Ob),KW (FM (M.set j x)++ [b]) (FM (M.set j y)++ [b])=true:=fun x y b=>ZLv _ _ b _ _ (by simp)
    have hIn: ∀x:List Av,x.length=r.length→(Ob.drw 159 1 (RF M)::FM (M.set j x)).all (Ob.inP (fun i=>decide (i<(Ob.drw 159 1 (RF M)::FM (M.set j x)).length)))=true:=fun x hx=>by rw[←ZWt M j x (by rw[hMj];exact hx)];exact ZQb _
    have uu:=ZA uu (ZA hFs (ZA hFb (ZA hFc (ZA hFg (ZA hFg' (ZA hFt hBx))))));refine WI.loop (fun φ os=> ∃(k:Nat),φ= [(4,.ref 0 d.length 0 d.length),(7,.ref (j+1) r.length 0 r.length),(18,.ref 0 d.length 0 d.length),(19,.x (.int .i64 d.length)),(20,.x (.int .i64 j)),(24,.ref (j+1) r.length 0 r.length),(25,.x (.int .i64 r.length)),(26,.x (.int .i64 k))]∧os= .drw 159 1 (RF M)::FM (M.set j (Qp r k))∧k≤r.length∧(r.take k).all (fun p=> !(fld p.2== []))=true) (ZK r.length 26) ?_ (fun φ os hI=> ?_)
    ·exact⟨0,rfl,by rw[←hM0],by omega,rfl⟩
    ·obtain⟨k,rfl,rfl,hk,hkall⟩:=hI;refine WI.seq ?_;refine WI.regB Jf [4,7,18,19,20,24,25,26,27] ?_;refine oG ?_;refine oN ?_;refine ZI ?_;refine WI.seq ?_;refine WI.cond (b:=_) rfl rfl (fun h2=> ?_) (fun h2=> ?_)
     ·try simp only[zB]at h2
      refine WI.skip ?_;refine ZI ?_;refine WI.seq ?_;refine WI.block ?_;refine WI.seq ?_;have hk4:k<r.length:=by omega
      have hka:=Zap r k hk4;have hka2:=ZZO r k hk4;have hks:=ZYQ r k hk4;have hml:=ZOA r k;have hml2:=ZOA r (k+1);have hpk:(r.getD k ([],[])).1.length≤64∧(r.getD k ([],[])).2.length≤256:=by rw[show r.getD k ([],[])=r[k] by simp[hk4]];exact hpb _ (List.getElem_mem hk4)
      have hka3:(r.take (k+1)).all (fun p=> !(fld p.2== []))=((r.take k).all (fun p=> !(fld p.2== []))&& !(fld (r.getD k ([],[])).2== [])):=by rw[YJ _ r k hk4,show r.getD k ([],[])=r[k] by simp[hk4]]
      have hnk:fld (r.getD k ([],[])).2= []→JX r=false:=fun h=>Ze _ r k hk4 (by rw[show r[k]=r.getD k ([],[]) by simp[hk4],h];rfl)
      generalize r.getD k ([],[])=p at hka hka2 hks hpk hka3 hnk;have hs1:decide (p.1.length≤1000000)=true:=ZM (by omega);have hs2:decide (p.2.length≤1000000)=true:=ZM (by omega);have uu:=ZA uu (ZA hka (ZA hml (ZA hs1 (ZA hs2 (ZA hka2 (ZA hml2 hks))))));refine WI.regB Jf [4,7,8,9,18,19,20,24,25,26] ?_;refine oS ?_
      iterate 3 refine oG ?_
      refine oS ?_;refine oG ?_;refine oN ?_;refine ZI ?_;refine WI.seq ?_;refine WI.post ?_;refine WI.dregX Jf [] [4,7,8,18,19,20,24,25,26] ?_
      iterate 3 refine xFS ?_
      refine xQG ?_;refine xQC ?_;refine xFS ?_;refine xQG ?_;refine xAC ?_;refine xFG ?_
      iterate 2 refine xAG ?_
      refine xP ?_;refine ZKL (.drw 159 1 (RF M)::FM (M.set j (Qp r (k+1)))) _ rfl (Nat.zero_le _) (hIn _ hml2) (by simp only[List.all_cons,List.all_nil,D.inP,KR,hFs];simp;omega) ?_;refine Je ?_;refine ZI ?_;refine WI.seq ?_;refine WI.regB Jf [4,7,18,19,20,24,25,26,46] ?_
      iterate 2 refine oS ?_
      refine oG ?_;refine oS ?_
      iterate 2 refine oG ?_
      refine oN ?_;refine ZI ?_;refine WI.cond (b:=_) rfl rfl (fun h3=> ?_) (fun h3=> ?_)
      ·try simp only[zB]at h3
       have hfe:fld p.2= []:=by simpa using h3
       rw[if_neg (by rw[hnf (hnk hfe)];decide)]at hu;cases hu;refine WI.seq ?_;refine WI.regB Jf [2,3] ?_
       iterate 2 refine oS ?_
       refine oN ?_;refine ZI ?_;refine WI.ret ?_;refine Kk ?_;refine JO ?_;refine JO ?_;refine Kk ?_;refine JO ?_;refine Kk ?_;refine JO ?_;refine JO ?_;refine Kk ?_;refine JO ?_
       first|refine lfR ?_|refine ZE5 ?_|refine ZDv ?_
       rfl
      ·try simp only[zB]at h3
       have hkall2:(r.take (k+1)).all (fun p=> !(fld p.2== []))=true:=by rw[hka3,hkall];simpa using h3
       refine WI.skip ?_;refine QJ ?_;refine ZI ?_;refine WI.orderA [4,7,18,19,20,24,25,26] ?_;refine WI.regB Jf [4,7,18,19,20,24,25,26] ?_;refine oG ?_;refine oS ?_;refine oN ?_;refine ZI ?_;exact⟨⟨k+1,rfl,rfl,by omega,hkall2⟩,by simp[ZK,Ab.get,D.val,ZF];omega⟩
     ·try simp only[zB]at h2
      refine WI.exit ?_;refine Jv ?_;refine Jv ?_;refine ZA2 ?_;refine ZI ?_;obtain rfl:k=r.length:=by omega
      rw[List.take_length]at hkall;rw[ZYO];have hrn:(r.map ZAh).length=r.length:=List.length_map ..;have hsc:=Zb5 161 (r.map ZAh) (ZWw hmr) (by intro hh;rw[hh]at hrn;simp at hrn;omega) (by omega);rw[hrn]at hsc;have hsr:=ZU.row (args:= [.ref (j+1) r.length 0 r.length,.fn 142 []]) (OS:= .drw 159 1 (RF M)::FM (M.set j (r.map ZAh))) (j+1) (by rw[show Zx (Yb [j+1]) [D.ref (j+1) r.length 0 r.length,.fn 142 []]= [D.ref 0 r.length 0 r.length,.fn 142 []] by simp only[Zx,D.ren,Yb,if_true]];exact hsc) (by rw[List.getElem?_cons_succ];exact hFg' _) rfl (by simp[YY,D.inP,Zo]) (fun f=>rfl);have hft2:=hFt (r.map ZAh) (QC (r.map ZAh)) [];rw[List.append_nil,List.append_nil]at hft2;rw[List.set_cons_succ,hft2]at hsr;have hM3:RF M=RF (ZBB d (j+1)):=by rw[hM2];exact(ZWt M j _ (by rw[ZNg,hMj])).symm
      have hM4:FM (M.set j (QC (r.map ZAh)))=FM (ZBB d (j+1)):=by rw[hM2];rfl
      rw[hM4]at hsr;rw[hM3]at hsr⊢;have hall2:(d.take (j+1)).all JX=true:=by rw[hall3,hall];exact hkall
      have uu:=ZA uu hrn;refine WI.regB (ZCA ZG ZNz hsr) [4,18,19,20] ?_;refine oS ?_;refine oC ?_;refine oN ?_;refine QJ ?_;refine ZI ?_;refine WI.orderA [4,18,19,20] ?_;refine WI.regB Jf [4,18,19,20] ?_;refine oG ?_;refine oS ?_;refine oN ?_;refine ZI ?_;exact⟨⟨j+1,ZBB d (j+1),rfl,rfl,by omega,rfl,hall2⟩,by simp[ZK,Ab.get,D.val,ZF];omega⟩
   ·try simp only[zB]at h1
    refine WI.exit ?_;refine Jv ?_;refine Jv ?_;refine ZA2 ?_;refine ZI ?_;refine WI.seq ?_;obtain rfl:j=d.length:=by omega
    rw[List.take_length]at hall;rw[if_pos hall]at hu;rw[ZZi]at hM;subst hM;have hdl:(d.map JP).length=d.length:=List.length_map ..;rw[←hdl];refine WI.orderA [4] ?_;refine WI.freeze (List.range' 1 (d.map JP).length) ?_;rw[Za1];refine WI.pickA [0] (φ':= [(4,.ref 0 (d.map JP).length 0 (d.map JP).length)]) ?_ (hok:=by rw[KR,Zcl];simp[ZK9,Ks,Zo]) (hp:=rfl) (ho:=Zab (d.map JP));refine WI.toXA 0 ?_;have hsn:smD (d.map JP):=by
     intro r hr p hp;obtain⟨q,hq,rfl⟩:=List.mem_map.1 hr;obtain⟨x,hx,rfl⟩:=List.mem_map.1 ((ZDH _).mem_iff.1 hp);have:=((ZAi (hmay q hq)).2.2 x hx).1;show(ZD x.1).length≤900000;unfold ZD;rw[List.length_map];omega
    have hsnd:decide (smD (d.map JP))=true:=ZM hsn;have htk:(d.map JP).take (d.map JP).length=d.map JP:=List.take_length;have uu:=ZA uu (ZA hsnd (ZA (ZHB (d.map JP)) htk));refine WI.regB Jf [2,3] ?_;refine oS ?_;refine oC ?_
    iterate 2 refine oG ?_
    iterate 2 refine oS ?_
    refine oN ?_;refine ZI ?_;refine WI.ret ?_
    first|refine lfR ?_|refine ZE5 ?_|refine ZDv ?_
    rw[hu]
theorem ZL3:JT []=([],0):=by unfold JT;simp
def ZH8:Tabs:=ZY (ZY (ZV) 131 ZC6) 143 ZAY
theorem ZMW:SsOk Tryz.prog ZH8:=ZL (ZL (ZG) (ZB ZH (p:=ZI9) rfl) ZW6) (ZB ZH (p:=ZK4) rfl) ZJY
theorem ZIs (a:List D):ZH8.q 131 a=ZC6 a:=rfl
theorem ZIo (a:List D):ZH8.q 143 a=ZAY a:=rfl
theorem ZMm (f:FuncId) (a:List D) (o:List Ob):ZH8.r f a o=none:=rfl
theorem ZO2 (f:FuncId) (a:List D) (o:List Ob):ZH8.k f a o=none:=rfl
theorem ZbM (s:Tx) (h:(JT s).2≠0):ZC Tryz.prog 106 [.x (.str s)] (.tup [.x (.str (Jj s).1),.x (.int .i64 (Jj s).2)]):=by
 rcases hu:Jj s with⟨u,e⟩
 unfold Jj at hu;rw[if_pos h]at hu;cases hu;refine ZN.pure (ZP (fz:=true) ZH (p:=ZHb) rfl _ (ξ rfl) _ (fun C0 E0=> ?_)) rfl;dsimp only[ZHb,qt,qi,qs,qb,qm,qa,qh,qj,qT,qF,qe,ql,qL,qf,q2,q3,q8,qz,qp,qP,qc,qk,qx,qy,qo,qr,qC,ZQ];have uu:=ZA @ZC6.eq_1 (ZA @ZC6.eq_2 (ZA @ZMm (ZA @ZO2 (ZA @ZIs (ZA @ZIo (ZA @ZAY.eq_1 (@ZAY.eq_2)))))));have tT:=ZMW;refine nz ?_;refine rg tT [0] ?_;refine rg tT [4,5] ?_;refine rg tT [4,5,16] ?_;refine cd (fun h0=> ?_) (fun h0=> ?_)
 ·refine rg tT [2,3] ?_;refine lf ?_
  first|rfl|exact⟨rfl,rfl⟩|trivial
 ·exact absurd (by simpa using h0) h
theorem Za9:ZC Tryz.prog 106 [.x (.str [])] (.tup [.x (.str (Jj []).1),.x (.int .i64 (Jj []).2)]):=by
 have h1:JT []=([],0):=ZL3;have h2:Jj []=ZBa []:=by unfold Jj;rw[h1];simp
 have h3:decide (smD [])=true:=by decide
 have h4:Zg JE (rows JE [])=some []:=ZHB [];rw[h2];refine ZN.pure (ZP (fz:=true) ZH (p:=ZHb) rfl _ (ξ rfl) _ (fun C0 E0=> ?_)) rfl;dsimp only[ZHb,qt,qi,qs,qb,qm,qa,qh,qj,qT,qF,qe,ql,qL,qf,q2,q3,q8,qz,qp,qP,qc,qk,qx,qy,qo,qr,qC,ZQ];have uu:=ZA @ZC6.eq_1 (ZA @ZC6.eq_2 (ZA @ZAY.eq_1 (ZA @ZAY.eq_2 (ZA h1 (ZA h3 (ZA h4 (ZA @ZMm (ZA @ZO2 (ZA @ZIs (@ZIo))))))))));have tT:=ZMW;refine nz ?_;refine rg tT [0] ?_;refine rg tT [4,5] ?_;refine rg tT [4,5,16] ?_;refine ce (fun h0=> ?_) (fun h0=> ?_)
 ·simp at h0
 ·refine rg tT [4,18,19,20] ?_;refine WI.loop (fun φ os=>φ= [(4,.x (.sl (rows JE []))),(18,.x (.sl (rows JE []))),(19,.x (.int .i64 0)),(20,.x (.int .i64 0))]∧os= []) (ZK 0 20) ?_ (fun φ os hI=> ?_)
  ·exact⟨rfl,rfl⟩
  ·obtain⟨rfl,rfl⟩:=hI;refine nz ?_;refine rg tT [4,18,19,20,21] ?_;refine ce (fun h1=> ?_) (fun h1=> ?_)
   ·simp at h1
   ·refine rg tT [2,3] ?_;refine lf ?_
    first|rfl|exact⟨rfl,rfl⟩|trivial
theorem Zb1 (s:Tx):ZC Tryz.prog 106 [.x (.str s)] (.tup [.x (.str (Jj s).1),.x (.int .i64 (Jj s).2)]):=by
 by_cases h:(JT s).2=0
 ·by_cases hs:s= []
  ·subst hs;exact Za9
  ·exact ZcD s (JT s).1 (by rw[←h]) hs
 ·exact ZbM s h
def ZAr (p:Av):List Av→Nat
 | []=>0
 |q::o=>if Op.bytesLess q.1 p.1=true then ZAr p o+1 else 0
theorem ZRQ (p:Av): ∀o,ZAr p o≤o.length
 | []=>by simp[ZAr]
 |q::o=>by have:=ZRQ p o;unfold ZAr;split<;>simp;omega
theorem ZRD (p:Av): ∀o,ZBD p o=o.take (ZAr p o)++p::o.drop (ZAr p o)
 | []=>rfl
 |q::o=>by
  unfold ZBD ZAr;split
  ·rw[ZRD p o];rfl
  ·rfl
theorem ZQH (p:Av): ∀(o:List Av) (k:Nat),k≤ZAr p o→ ∀h:k<o.length,Op.bytesLess o[k].1 p.1=true→k+1≤ZAr p o
 |q::o,0,_,_,hb=>by unfold ZAr;rw[if_pos (by simpa using hb)];omega
 |q::o,k+1,hk,h,hb=>by
  unfold ZAr at hk⊢;split at hk
  ·rename_i hl;rw[if_pos hl];have:=ZQH p o k (by omega) (by simpa using h) (by simpa using hb);omega
  ·omega
theorem ZHm (p:Av): ∀(o:List Av) (k:Nat),k≤ZAr p o→(∀h:k<o.length,Op.bytesLess o[k].1 p.1=false)→k=ZAr p o
 | [],k,hk,_=>by simp[ZAr]at hk⊢;omega
 |q::o,0,_,h=>by
  unfold ZAr;have:=h (by simp);rw[if_neg (by simpa using this)]
 |q::o,k+1,hk,h=>by
  unfold ZAr at hk⊢;split at hk
  ·rename_i hl;rw[if_pos hl];have:=ZHm p o k (by omega) (fun h2=>h (Nat.succ_lt_succ h2));omega
  ·omega
theorem ZRR (c:UInt8):KU c=32↔c=32:=by
 by_cases h:65≤c.toNat∧c.toNat≤90
 ·have h1:=ZIL h;constructor
  ·intro e;rw[e]at h1;simp at h1;omega
  ·rintro rfl;simp at h
 ·rw[ZIF h]
theorem ZQG: ∀s,Jh 32 (ZD s)=(Jh 32 s).map ZD
 | []=>rfl
 |b::l=>by
  have ih:=ZQG l;show Jh 32 (KU b::ZD l)=_;unfold Jh;by_cases h:b=32
  ·rw[if_pos ((ZRR b).2 h),if_pos h,ih];rfl
  ·rw[if_neg (fun k=>h ((ZRR b).1 k)),if_neg h,ih];cases Jh 32 l with
   |nil=>rfl
   |cons x r=>rfl
theorem ZUp (s:List UInt8):ZB5 (ZD s)=(ZB5 s).map ZD:=by
 unfold ZB5;rw[ZQG,List.filter_map];congr 1;refine List.filter_congr fun x _=> ?_
 simp[ZD]
theorem ZUV: ∀l:List (List UInt8),jn (l.map ZD)=ZD (jn l)
 | []=>rfl
 | [x]=>rfl
 |x::y::r=>by
  have:=ZUV (y::r);show ZD x++32::jn ((y::r).map ZD)=ZD (x++32::jn (y::r));rw[this];unfold ZD;rw[List.map_append,List.map_cons];rfl
theorem ZbE (s:Tx):blk (ZD s)=ZD (blk s):=by
 show jn (ZB5 (ZD s))=ZD (jn (ZB5 s));rw[ZUp,ZUV]
def stW:Tx→Bool
 | []=>false
 |c::_=> !decide (c=32)
def gB:Bool→Tx→Tx
 |_,[]=> []
 |st,c::r=>if c=32 then(if(st&&stW r)=true then 32::gB st r else gB st r)else c::gB true r
def jW (l:List Tx):Tx:=if l= []then []else 32::jn l
theorem ZRT (x:Tx) (l:List Tx):jn (x::l)=x++jW l:=by
 unfold jW;split
 ·rename_i h;subst h;simp[jn]
 ·rename_i h;rw[Zbi h]
theorem ZQO (r:Tx): ∃h t,Jh 32 r=h::t∧(stW r=true↔h≠ []):=by
 rcases r with _|⟨c,r⟩
 ·exact⟨[],[],rfl,by simp[stW]⟩
 ·unfold Jh;by_cases hc:c=32
  ·exact⟨[],Jh 32 r,by rw[if_pos hc],by simp[stW,hc]⟩
  ·rw[if_neg hc];split
   ·rename_i x l _;exact⟨c::x,l,rfl,by simp[stW,hc]⟩
   ·exact⟨[c],[],rfl,by simp[stW,hc]⟩
theorem ZQ0: ∀(s:Tx) (h:Tx) (t:List Tx),Jh 32 s=h::t→gB true s=h++jW (t.filter fun x=>decide (x≠ []))∧gB false s=jn ((h::t).filter fun x=>decide (x≠ []))
 | [],h,t,e=>by
  simp only[Jh,List.cons.injEq]at e;obtain⟨rfl,rfl⟩:=e;simp[gB,jW,jn]
 |c::r,h,t,e=>by
  obtain⟨h',t',e',hst⟩:=ZQO r;obtain⟨ih1,ih2⟩:=ZQ0 r h' t' e';by_cases hc:c=32
  ·have e2:Jh 32 (c::r)= []::Jh 32 r:=by rw[Jh,if_pos hc]
   rw[e2,e',List.cons.injEq]at e;obtain⟨rfl,rfl⟩:=e;unfold gB;rw[if_pos hc,if_pos hc];refine⟨?_,?_⟩
   ·by_cases hs:stW r=true
    ·have hn:=hst.1 hs;rw[hs,Bool.true_and,if_pos rfl,ih1,List.nil_append,List.filter_cons,if_pos (by simpa using hn)]
     conv=>rhs;unfold jW
     rw[if_neg (by simp),ZRT]
    ·have hn:h'= []:=by by_cases hh:h'= [];exact hh;exact absurd (hst.2 hh) hs
     subst hn;rw[if_neg (by simp[hs]),ih1,List.filter_cons];simp
   ·rw[Bool.false_and,if_neg (by decide),ih2];exact congrArg jn (by conv=>rhs;rw[List.filter_cons,if_neg (by simp)])
  ·have e2:Jh 32 (c::r)=(c::h')::t':=by rw[Jh,if_neg hc,e']
   rw[e2,List.cons.injEq]at e;obtain⟨rfl,rfl⟩:=e;unfold gB;rw[if_neg hc,if_neg hc,ih1];refine⟨rfl,?_⟩;rw[List.filter_cons,if_pos (by simp),ZRT];rfl
theorem Zcf (s:Tx):gB false s=blk s:=by
 obtain⟨h,t,e,-⟩:=ZQO s;rw[(ZQ0 s h t e).2,←e];rfl
theorem ZRA (s:Tx) (j:Nat) (h:j<s.length):s.drop j=s.getD j 0::s.drop (j+1):=by
 rw[List.drop_eq_getElem_cons h];simp[h]
theorem ZdQ (s:Tx) (j:Nat):stW (s.drop j)=decide (j<s.length∧s.getD j 0≠32):=by
 by_cases h:j<s.length
 ·rw[ZRA s j h];simp[stW,h]
 ·rw[List.drop_of_length_le (by omega)];simp[stW];intro hh;omega
theorem Zax (s:Tx) (j:Nat) (h:j<s.length):List.drop j (List.take ((j:Int)+1).toNat s)= [s.getD j 0]:=by
 rw[show((j:Int)+1).toNat=j+1 by omega,List.take_succ_eq_append_getElem h,List.drop_append_of_le_length (by simp;omega),List.drop_of_length_le (by simp;omega)];simp[h]
theorem ZTB {c:UInt8}:c≠32↔(c.toNat:Int)≠32:=⟨fun h e=>h (UInt8.toNat_inj.1 (by show c.toNat=32;omega)),fun h e=>h (by rw[e];rfl)⟩
theorem ZQd (o:Tx) (c:UInt8):((o++ [c])== [])=false:=by cases o<;>rfl
theorem Zc9 (s:Tx) (hl:s.length≤1000000):ZC Tryz.prog 108 [.x (.str s)] (.x (.str (blk s))):=by
 refine ZN.pure (ZP (fz:=true) ZH (p:=ZNF) rfl _ (ξ rfl) _ (fun C0 E0=> ?_)) rfl;dsimp only[ZNF,qt,qi,qs,qb,qm,qa,qh,qj,qT,qF,qe,ql,qL,qf,q2,q3,q8,qz,qp,qP,qc,qk,qx,qy,qo,qr,qC,ZQ];have uu:=trivial;have tT:=(ZG:SsOk Tryz.prog ZV);refine nz ?_;refine rg tT [0] ?_;refine rg tT [0,3] ?_;refine rg tT [0,3,4] ?_;refine WI.loop (fun φ os=> ∃(j:Nat) (o:Tx),φ= [(0,.x (.str s)),(3,.x (.str o)),(4,.x (.int .i64 j))]∧os= []∧j≤s.length∧o.length≤j∧o++gB (!(o== [])) (s.drop j)=blk s) (ZK s.length 4) ?_ (fun φ os hI=> ?_)
 ·exact⟨0,[],rfl,rfl,by omega,Nat.le_refl _,by rw[List.drop_zero];exact Zcf s⟩
 ·obtain⟨j,o,rfl,rfl,hj,hol,hso⟩:=hI;refine nz ?_;refine rg tT [0,3,4,8] ?_;refine cd (fun h0=> ?_) (fun h0=> ?_)
  ·have hj4:j<s.length:=by omega
   have hda:=ZRA s j hj4;rw[hda]at hso;have hsl:=Zax s j hj4;have hw:=ZdQ s (j+1);have uu:=ZA uu hsl;refine rg tT [0,3,4,14] ?_;refine cd (fun h1=> ?_) (fun h1=> ?_)
   ·have hc:s.getD j 0≠32:=ZTB.2 (by simpa using h1);have hs2:(o++ [s.getD j 0])++gB (!((o++ [s.getD j 0])== [])) (s.drop (j+1))=blk s:=by
     rw[←hso]
     conv=>rhs;unfold gB
     rw[if_neg hc,ZQd];simp
    refine rg tT [0,3,4] ?_;refine rg tT [0,3,4] ?_;exact⟨⟨j+1,_,rfl,rfl,by omega,by first|omega|(rw[Zs];simp;omega),hs2⟩,by simp[ZK,Ab.get,D.val,ZF];omega⟩
   ·have hc:s.getD j 0=32:=Classical.byContradiction fun hh=>ZTB.1 hh (by simpa using h1)
    refine rg tT [0,3,4,37] ?_;refine cd (fun h2=> ?_) (fun h2=> ?_)
    ·have hs2:(o++ [32])++gB (!((o++ [32])== [])) (s.drop (j+1))=blk s:=by
      rw[←hso]
      conv=>rhs;unfold gB
      have hst:((!(o== []))&&stW (s.drop (j+1)))=true:=by rw[hw];have:= @ZTB (s.getD (j+1) 0);clear uu hso hda hsl;grind
      have ho:(!(o== []))=true:=by rw[ZW]at hst;exact hst.1
      rw[if_pos hc,if_pos hst,ho,ZQd];simp
     refine rg tT [0,3,4] ?_;refine rg tT [0,3,4] ?_;exact⟨⟨j+1,_,rfl,rfl,by omega,by first|omega|(rw[Zs];simp;omega),hs2⟩,by simp[ZK,Ab.get,D.val,ZF];omega⟩
    ·have hs2:o++gB (!(o== [])) (s.drop (j+1))=blk s:=by
      rw[←hso]
      conv=>rhs;unfold gB
      have hst: ¬((!(o== []))&&stW (s.drop (j+1)))=true:=by rw[hw];have:= @ZTB (s.getD (j+1) 0);clear uu hso hda hsl;grind
      rw[if_pos hc,if_neg hst]
     refine rg tT [0,3,4] ?_;exact⟨⟨j+1,_,rfl,rfl,by omega,by first|omega|(rw[Zs];simp;omega),hs2⟩,by simp[ZK,Ab.get,D.val,ZF];omega⟩
  ·refine rg tT [2] ?_;refine lf ?_;rw[List.drop_of_length_le (by omega)]at hso;simp only[gB,List.append_nil]at hso;rw[hso]
def ZCk:List D→Option (Bool×D)
 | [.x (.str s)]=>some (decide (s.length≤1000000),.x (.str (blk s)))
 |_=>none
theorem ZOV: ∀args r,ZCk args=some (true,r)→ZC Tryz.prog 108 args r:=by
 intro args r h;unfold ZCk at h;split at h
 ·rename_i s;simp only[Zf,Zc,ZW,Zj,true_and]at h;obtain⟨h1,rfl⟩:=h;exact(Zc9 s h1)
 ·cases h
def ZBO:List D→Option (Bool×D)
 | [.x (.str s)]=>some (decide (s.length≤1000000),.x (.str (ZD s)))
 |_=>none
theorem ZL0: ∀args r,ZBO args=some (true,r)→ZC Tryz.prog 32 args r:=by
 intro args r h;unfold ZBO at h;split at h
 ·rename_i s;simp only[Zf,Zc,ZW,Zj,true_and]at h;obtain⟨h1,rfl⟩:=h;exact(ZGU s (by omega))
 ·cases h
def ZHD:Tabs:=ZY (ZY (ZV) 108 ZCk) 32 ZBO
theorem ZWU:SsOk Tryz.prog ZHD:=ZL (ZL (ZG) (ZB ZH (p:=ZNF) rfl) ZOV) (ZB ZH (p:=i32) rfl) ZL0
theorem ZPj (a:List D):ZHD.q 108 a=ZCk a:=rfl
theorem ZTA (a:List D):ZHD.q 32 a=ZBO a:=rfl
theorem ZYs (f:FuncId) (a:List D) (o:List Ob):ZHD.r f a o=none:=rfl
theorem ZYy (f:FuncId) (a:List D) (o:List Ob):ZHD.k f a o=none:=rfl
theorem ZcN (s:Tx) (hl:s.length≤1000000):ZC Tryz.prog 107 [.x (.str s)] (.x (.str (fld s))):=by
 have hb:=ZK8 s;have hb2:decide ((blk s).length≤1000000)=true:=ZM (by unfold blk;omega);refine ZN.pure (ZP (fz:=true) ZH (p:=ZOU) rfl _ (ξ rfl) _ (fun C0 E0=> ?_)) rfl;dsimp only[ZOU,qt,qi,qs,qb,qm,qa,qh,qj,qT,qF,qe,ql,qL,qf,q2,q3,q8,qz,qp,qP,qc,qk,qx,qy,qo,qr,qC,ZQ];have uu:=ZA @ZCk.eq_1 (ZA @ZCk.eq_2 (ZA @ZBO.eq_1 (ZA @ZBO.eq_2 (ZA hb2 (ZA @ZYs (ZA @ZYy (ZA @ZPj (@ZTA))))))));have tT:=ZWU;refine nz ?_;refine rg tT [0] ?_;refine rg tT [2] ?_;refine lf ?_
 first|rfl|exact⟨rfl,rfl⟩|trivial
def ZCl:List D→Option (Bool×D)
 | [.x (.str s)]=>some (decide (s.length≤1000000),.x (.str (fld s)))
 |_=>none
theorem ZOm: ∀args r,ZCl args=some (true,r)→ZC Tryz.prog 107 args r:=by
 intro args r h;unfold ZCl at h;split at h
 ·rename_i s;simp only[Zf,Zc,ZW,Zj,true_and]at h;obtain⟨h1,rfl⟩:=h;exact(ZcN s h1)
 ·cases h
theorem ZZl (l:List Av):((rows Zm l).all fun r=>decide (r.length=2))=true:=by
 unfold rows;rw[List.all_map];exact List.all_eq_true.2 fun _ _=>rfl
def ZHz:Tabs:=ZY (ZY (ZV) 32 ZBO) 107 ZCl
theorem ZU6:SsOk Tryz.prog ZHz:=ZL (ZL (ZG) (ZB ZH (p:=i32) rfl) ZL0) (ZB ZH (p:=ZOU) rfl) ZOm
theorem ZRv (a:List D):ZHz.q 32 a=ZBO a:=rfl
theorem ZQA (a:List D):ZHz.q 107 a=ZCl a:=rfl
theorem ZX4 (f:FuncId) (a:List D) (o:List Ob):ZHz.r f a o=none:=rfl
theorem ZYH (f:FuncId) (a:List D) (o:List Ob):ZHz.k f a o=none:=rfl
set_option maxHeartbeats 1000000 in
theorem Zbn (r:List Av) (hr:Yn r=true):ZC Tryz.prog 144 [.x (.sl (rows Zm r))] (.tup [.x (.sl (rows Zm (if JX r=true then JP r else []))),.x (.bool (JX r))]):=by
 obtain⟨hr8,hr1,hpb⟩:=ZAi hr;have hcr: ∀(T:FuncId→List D→List Ob→Option (Bool×D)) (φ:List (Nat×D)) (os:List Ob) (n:Nat) (ag:Bool) (x:IO),ZAe T φ os (.ld n ag x)=none:=fun _ _ _ _ _ _=>rfl
 refine ZN.pure (ZP (fz:=true) ZH (p:=ZSf) rfl _ (ξ rfl) _ (fun C0 E0=> ?_)) rfl;dsimp only[ZSf,qt,qi,qs,qb,qm,qa,qh,qj,qT,qF,qe,ql,qL,qf,q2,q3,q8,qz,qp,qP,qc,qk,qx,qy,qo,qr,qC,ZQ];have uu:=ZA @ZBO.eq_1 (ZA @ZBO.eq_2 (ZA @ZCl.eq_1 (ZA @ZCl.eq_2 (ZA @ZZl (ZA hcr (ZA @ZX4 (ZA @ZYH (ZA @ZQA (@ZRv)))))))));have tT:=ZU6;refine nz ?_;refine rg tT [0] ?_;refine rg tT [0,4] ?_;refine rg tT [0,4,5] ?_;refine WI.ownA 4 161 2 ?_;refine WI.loop (fun φ os=> ∃(i:Nat) (o:List Av),φ= [(0,.x (.sl (rows Zm r))),(4,.ref 0 i 0 i),(5,.x (.int .i64 i))]∧os= [.rows false 161 2 (rows Zm o)]∧i≤r.length∧o=QC ((r.take i).map ZAh)∧(r.take i).all (fun p=> !(fld p.2== []))=true) (ZK r.length 5) ?_ (fun φ os hI=> ?_)
 ·exact⟨0,[],rfl,rfl,by omega,rfl,rfl⟩
 ·obtain⟨i,o,rfl,rfl,hi,ho,hall⟩:=hI;have hol:o.length=i:=by rw[ho,ZGb,List.length_map,List.length_take];omega
  refine nz ?_;refine rg tT [0,4,5,12] ?_;refine cd (fun h0=> ?_) (fun h0=> ?_)
  ·have hi4:i<r.length:=by omega
   have hia:=ZBn r i hi4;have hpi:(r.getD i ([],[])).1.length≤64∧(r.getD i ([],[])).2.length≤256:=by rw[show r.getD i ([],[])=r[i] by simp[hi4]];exact hpb _ (List.getElem_mem hi4)
   have hka3:(r.take (i+1)).all (fun p=> !(fld p.2== []))=((r.take i).all (fun p=> !(fld p.2== []))&& !(fld (r.getD i ([],[])).2== [])):=by rw[YJ _ r i hi4,show r.getD i ([],[])=r[i] by simp[hi4]]
   have hnk:fld (r.getD i ([],[])).2= []→JX r=false:=fun h=>Ze _ r i hi4 (by rw[show r[i]=r.getD i ([],[]) by simp[hi4],h];rfl)
   have hso:ZBD (ZAh (r.getD i ([],[]))) o=QC ((r.take (i+1)).map ZAh):=by rw[List.take_succ_eq_append_getElem hi4,List.map_append,List.map_singleton,ZUk,←ho,show r.getD i ([],[])=r[i] by simp[hi4]]
   generalize r.getD i ([],[])=p at hia hpi hka3 hnk hso;have hs1:decide (p.1.length≤1000000)=true:=ZM (by omega);have hs2:decide (p.2.length≤1000000)=true:=ZM (by omega);obtain⟨P,hP⟩: ∃P:Av,P=ZAh p:=⟨_,rfl⟩;have hP1:ZD p.1=P.1:=by rw[hP];rfl
   have hP2:fld p.2=P.2:=by rw[hP];rfl
   rw[←hP]at hso;have hins:=ZRD P o;have hpl:=ZRQ P o;have uu:=ZA uu (ZA hia (ZA hs1 (ZA hs2 (ZA hP1 hP2))));refine WI.dregB tT [0,4,5,6] ?_
   iterate 2 refine Zn ?_
   refine YG ?_;refine Zn ?_;refine YG ?_;refine Qi ?_
   iterate 2 refine Zn ?_
   refine YG ?_;refine Zn ?_;refine YG ?_;refine Qi ?_;refine Ye ?_;refine dKG ?_;refine dAG ?_;refine dN ?_;refine nz ?_;refine rg tT [0,4,5,6,30] ?_;refine cd (fun h1=> ?_) (fun h1=> ?_)
   ·have hfe:fld p.2= []:=by rw[hP2];simpa using h1
    refine rg tT [2,3] ?_;refine WI.nnA ?_;refine lf ?_;rw[hnk hfe];rfl
   ·have hall2:(r.take (i+1)).all (fun p=> !(fld p.2== []))=true:=by rw[hka3,hall,hP2];simpa using h1
    refine rg tT [0,4,5,6,7] ?_;refine WI.loop (fun φ os=> ∃(k:Nat),φ= [(0,.x (.sl (rows Zm r))),(4,.ref 0 i 0 i),(5,.x (.int .i64 i)),(6,.ptr 1 0),(7,.x (.int .i64 k))]∧os= [.rows false 161 2 (rows Zm o),.box [.x (.str P.1),.x (.str P.2)]]∧k≤ZAr P o) (ZK i 7) ?_ (fun φ os hI=> ?_)
    ·exact⟨0,rfl,rfl,by omega⟩
    ·obtain⟨k,rfl,rfl,hk⟩:=hI;refine nz ?_;by_cases hko:k<i
     ·have hka:=ZBn o k (by omega);have hdl:=ZM (show(k:Int)<(i:Int) by omega);have hgo:o.getD k ([],[])=o[k]:=by simp[show k<o.length by omega]
      have uu:=ZA uu (ZA hka (ZA hdl hol));refine WI.dregB tT [0,4,5,6,7,44] ?_
      iterate 2 refine Zn ?_
      refine YG ?_;refine Ye ?_;refine Zn ?_
      iterate 2 refine Ye ?_
      refine YG ?_;refine Ye ?_;refine YG ?_;refine Ye ?_;refine YG ?_
      iterate 2 refine Ye ?_
      refine dN ?_;refine nz ?_;refine cd (fun h2=> ?_) (fun h2=> ?_)
      ·have hk2:=ZQH P o k hk (by omega) (by rw[←hgo];clear uu;grind);refine rg tT [0,4,5,6,7] ?_;exact⟨⟨k+1,rfl,rfl,hk2⟩,by simp[ZK,Ab.get,D.val,ZF];omega⟩
      ·have hkp:=ZHm P o k hk (fun hh=>by rw[←hgo];clear uu;grind);have hki:k≤i:=by omega
       rw[←hkp]at hins;have e1:(o.take k).length=k:=by rw[List.length_take];omega
       have e2:(o.drop k).take (i-k)=o.drop k:=YN (by rw[List.length_drop];omega);have e3:(o.drop k).length=i-k:=by rw[List.length_drop];omega
       have e4:(rows Zm (o.take k)++ [[X.str P.1,X.str P.2]]).length=k+1:=by rw[Zs,YR,e1];rfl
       have uu:=ZA uu (ZA e1 (ZA e2 (ZA e3 (ZA e4 hol))));refine rg tT [0,4,5,6,7,8] ?_;refine rg tT [0,4,5,6,7,8] ?_;refine rg tT [0,4,5,7,8] ?_;refine rg tT [0,5,8] ?_;refine rgp tT [0,4,5] ?_;refine JA [2] ?_;refine Je ?_;refine nz ?_;have hfr:rows Zm (o.take k)++ [[X.str P.1,X.str P.2]]++rows Zm (o.drop k)=rows Zm (ZBD P o):=by rw[hins];unfold rows;simp[Zm]
       rw[hfr,show k+1+(i-k)=i+1 by omega];refine WI.orderA [0,4,5] ?_;refine rg tT [0,4,5] ?_;exact⟨⟨i+1,ZBD P o,rfl,rfl,by omega,hso,hall2⟩,by simp[ZK,Ab.get,D.val,ZF];omega⟩
     ·have hdl:=decide_eq_false (show ¬(k:Int)<(i:Int) by omega);have hka:(rows Zm o)[k]? =none:=List.getElem?_eq_none (by rw[YR];omega);have uu:=ZA uu (ZA hdl (ZA hol hka));refine WI.dregB tT [0,4,5,6,7,44] ?_
      iterate 2 refine Zn ?_
      refine YG ?_;refine Ye ?_;refine Zn ?_
      iterate 2 refine Ye ?_
      refine YG ?_;refine Ye ?_;refine YG ?_;refine Ye ?_;refine YG ?_
      iterate 2 refine Ye ?_
      refine dN ?_;refine nz ?_;refine ce (fun h2=> ?_) (fun h2=> ?_)
      ·simp at h2
      ·have hkp:=ZHm P o k hk (fun hh=>by omega);have hki:k≤i:=by omega
       rw[←hkp]at hins;have e1:(o.take k).length=k:=by rw[List.length_take];omega
       have e2:(o.drop k).take (i-k)=o.drop k:=YN (by rw[List.length_drop];omega);have e3:(o.drop k).length=i-k:=by rw[List.length_drop];omega
       have e4:(rows Zm (o.take k)++ [[X.str P.1,X.str P.2]]).length=k+1:=by rw[Zs,YR,e1];rfl
       have uu:=ZA uu (ZA e1 (ZA e2 (ZA e3 (ZA e4 hol))));refine rg tT [0,4,5,6,7,8] ?_;refine rg tT [0,4,5,6,7,8] ?_;refine rg tT [0,4,5,7,8] ?_;refine rg tT [0,5,8] ?_;refine rgp tT [0,4,5] ?_;refine JA [2] ?_;refine Je ?_;refine nz ?_;have hfr:rows Zm (o.take k)++ [[X.str P.1,X.str P.2]]++rows Zm (o.drop k)=rows Zm (ZBD P o):=by rw[hins];unfold rows;simp[Zm]
       rw[hfr,show k+1+(i-k)=i+1 by omega];refine WI.orderA [0,4,5] ?_;refine rg tT [0,4,5] ?_;exact⟨⟨i+1,ZBD P o,rfl,rfl,by omega,hso,hall2⟩,by simp[ZK,Ab.get,D.val,ZF];omega⟩
  ·obtain rfl:i=r.length:=by omega
   rw[List.take_length]at ho hall;have hf:JX r=true:=hall;have ho2:JP r=o:=ho.symm;rw[hf,if_pos rfl,ho2];have e5:(rows Zm o).take r.length=rows Zm o:=YN (by rw[YR];omega);have e6:o.take r.length=o:=YN (by omega);have uu:=ZA uu (ZA e5 (ZA e6 hol));refine rg tT [2,3] ?_;refine WI.nnA ?_;refine lf ?_
   first|rfl|exact⟨rfl,rfl⟩|trivial
def ZFt:List D→Option (Bool×D)
 | [.x (.sl R)]=>(Zg Zm R).bind fun r=>some (decide (Yn r=true),.tup [.x (.sl (rows Zm (if JX r=true then JP r else []))),.x (.bool (JX r))])
 |_=>none
theorem ZWV: ∀args r,ZFt args=some (true,r)→ZC Tryz.prog 144 args r:=by
 intro args r h;unfold ZFt at h;split at h
 ·rename_i R;obtain⟨r,hr0,h⟩:=Zr h;simp only[Zf,Zc,ZW,Zj,true_and]at h;obtain⟨h1,rfl⟩:=h;rw[←ZX ZDF hr0];exact(Zbn r h1)
 ·cases h
def ZCV:Tabs:=JR (ZY (ZY (ZY (ZV) 119 ZDu) 144 ZFt) 145 ZEl) 145 (QE ZEl)
theorem ZSs:SsOk Tryz.prog ZCV:=Yl (ZL (ZL (ZL (ZG) (ZB ZH (p:=ZS6) rfl) ZRr) (ZB ZH (p:=ZSf) rfl) ZWV) (ZB ZH (p:=ZOO) rfl) ZOu) (ZB ZH (p:=ZOO) rfl) (ZCR ZOu)
theorem ZNK (a:List D):ZCV.q 119 a=ZDu a:=rfl
theorem ZNb (a:List D):ZCV.q 144 a=ZFt a:=rfl
theorem ZNU (a:List D):ZCV.q 145 a=ZEl a:=rfl
theorem ZO0 (a:List D) (o:List Ob):ZCV.t 145 a o=YU (QE ZEl) a o:=rfl
theorem ZXE (f:FuncId) (a:List D) (o:List Ob):ZCV.r f a o=none:=rfl
theorem ZWQ (f:FuncId) (a:List D) (o:List Ob):ZCV.k f a o=none:=rfl
theorem ZWn {d:Dn} (hmay: ∀r∈d,Yn r=true):smD (d.map JP)∧ ∀r∈d.map JP,r.length≤1000000:=by
 refine⟨fun r hr p hp=> ?_,fun r hr=> ?_⟩
 ·obtain⟨q,hq,rfl⟩:=List.mem_map.1 hr;obtain⟨x,hx,rfl⟩:=List.mem_map.1 ((ZDH _).mem_iff.1 hp);have:=((ZAi (hmay q hq)).2.2 x hx).1;show(ZD x.1).length≤900000;unfold ZD;rw[List.length_map];omega
 ·obtain⟨q,hq,rfl⟩:=List.mem_map.1 hr;have:=(ZAi (hmay q hq)).1;rw[ZNg];omega
set_option maxHeartbeats 1000000 in
theorem Zbq (s:Tx):ZC Tryz.prog 110 [.x (.str s)] (.tup [.x (.str (Jj s).1),.x (.int .i64 (Jj s).2)]):=by
 rcases hu:Jj s with⟨u,e⟩
 unfold Jj at hu;rcases hq:JT s with⟨d,e0⟩
 rw[hq]at hu;simp only at hu;refine ZN.pure (ZP (fz:=true) ZH (p:=ZR4) rfl _ (ξ rfl) _ (fun C0 E0=> ?_)) rfl;dsimp only[ZR4,qt,qi,qs,qb,qm,qa,qh,qj,qT,qF,qe,ql,qL,qf,q2,q3,q8,qz,qp,qP,qc,qk,qx,qy,qo,qr,qC,ZQ];have uu:=ZA @ZDu.eq_1 (ZA @ZDu.eq_2 (ZA @ZFt.eq_1 (ZA @ZFt.eq_2 (ZA @ZEl.eq_1 (ZA @ZEl.eq_2 (ZA @ZHB (ZA @ZKu (ZA hq (ZA @ZXE (ZA @ZWQ (ZA @ZNK (ZA @ZNb (ZA @ZNU (ZA @ZO0 (@QE.eq_1)))))))))))))));have tT:=ZSs;refine nz ?_;refine rg tT [0] ?_;refine rg tT [4,5] ?_;refine rg tT [4,5,16] ?_;refine cd (fun h0=> ?_) (fun h0=> ?_)
 ·refine rg tT [2,3] ?_;refine WI.nnA ?_;refine lf ?_;rw[if_pos (by simpa using h0)]at hu;cases hu;rfl
 ·obtain rfl:e0=0:=by simpa using h0
  rw[if_neg (by simp)]at hu;have hck:KJ d=0:=by
   by_cases hs:s= []
   ·subst hs;rw[ZL3]at hq;cases hq;rfl
   ·exact(ZGW s d hq hs).2.2.2.2
  obtain⟨hd32,hmay⟩:=ZFV hck;refine rg tT [4,6] ?_;refine rg tT [4,6,7] ?_;refine WI.ownA 6 159 1 ?_;refine WI.loop (fun φ os=> ∃(j:Nat),φ= [(4,.x (.sl (rows JE d))),(6,.ref 0 j 0 j),(7,.x (.int .i64 j))]∧os= [.rows false 159 1 (rows JE ((d.take j).map JP))]∧j≤d.length∧(d.take j).all JX=true) (ZK d.length 7) ?_ (fun φ os hI=> ?_)
  ·exact⟨0,rfl,rfl,by omega,rfl⟩
  ·obtain⟨j,rfl,rfl,hj,hall⟩:=hI;refine nz ?_;refine rg tT [4,6,7,21] ?_;refine cd (fun h1=> ?_) (fun h1=> ?_)
   ·have hj4:j<d.length:=by omega
    have hdj:d[j]=d.getD j []:=by simp[hj4]
    have hmr:Yn (d.getD j [])=true:=by rw[←hdj];exact hmay _ (List.getElem_mem hj4)
    have hst:(d.take (j+1)).map JP=(d.take j).map JP++ [JP (d.getD j [])]:=by rw[List.take_succ_eq_append_getElem hj4,List.map_append,hdj];rfl
    have hall3:(d.take (j+1)).all JX=((d.take j).all JX&&JX (d.getD j [])):=by rw[YJ _ d j hj4,hdj]
    have hnf:JX (d.getD j [])=false→d.all JX=false:=fun h=>Ze JX d j hj4 (by rw[hdj];exact h)
    have hmd:=ZM hmr;have uu:=ZA uu (ZA (ZFn d j hj4) hmd);refine rg tT [4,6,7,8,9] ?_;refine rg tT [4,6,7,8,33] ?_;refine cd (fun h2=> ?_) (fun h2=> ?_)
    ·have hff:JX (d.getD j [])=false:=by simpa using h2
     rw[if_neg (by rw[hnf hff];decide)]at hu;refine rg tT [2,3] ?_;refine WI.nnA ?_;refine lf ?_;cases hu;rfl
    ·have hff:JX (d.getD j [])=true:=by simpa using h2
     have hall2:(d.take (j+1)).all JX=true:=by rw[hall3,hall,hff];rfl
     rw[hff,if_pos rfl];refine rgp tT [4,6,7] ?_;refine JA [0] ?_;refine Je ?_;refine nz ?_;refine WI.orderA [4,6,7] ?_;refine rg tT [4,6,7] ?_;exact⟨⟨j+1,rfl,by rw[hst,←ZF4];first|done|rfl,by omega,hall2⟩,by simp[ZK,Ab.get,D.val,ZF];omega⟩
   ·obtain rfl:j=d.length:=by omega
    rw[List.take_length]at hall⊢;rw[if_pos hall]at hu;obtain⟨hn1,hn2⟩:=ZWn hmay;have hnl:(d.map JP).length=d.length:=List.length_map ..;have hcc:(decide (smD (d.map JP))&&(decide ((d.map JP).length≤1000000)&&decide (∀r∈d.map JP,r.length≤1000000)))=true:=by rw[ZM hn1,ZM hn2,ZM (show(d.map JP).length≤1000000 by omega)];rfl
    generalize d.map JP=M at hu hnl hcc⊢;rw[←hnl];have uu:=ZA uu (ZA hcc (ZA (ZHB M) (@List.take_length _ M)));refine rg tT [2,3] ?_;refine WI.nnA ?_;refine lf ?_;rw[hu]
def ZFj:List D→Option (Bool×D)
 | [.x (.str s)]=>some (true,.tup [.x (.str (Jj s).1),.x (.int .i64 (Jj s).2)])
 |_=>none
theorem ZTl: ∀args r,ZFj args=some (true,r)→ZC Tryz.prog 110 args r:=by
 intro args r h;unfold ZFj at h;split at h
 ·rename_i s;simp only[Zf,Zc,ZW,Zj,true_and]at h;obtain rfl:=h;exact(Zbq s)
 ·cases h
theorem ZHP (c:UInt8) (r:Tx):JM (c::r)=(if c=45 then r else c::r)∧ZCv (c::r)=decide (c=45):=by
 by_cases h:c=45
 ·subst h;simp[JM,ZCv,Lib.trimPrefix,Lib.hasPrefix,List.isPrefixOf]
 ·have h2: ¬45=c:=fun e=>h e.symm
  simp[JM,ZCv,Lib.trimPrefix,Lib.hasPrefix,List.isPrefixOf,h,h2]
theorem ZdE {c:UInt8}:c=45↔(c.toNat:Int)=45:=⟨fun h=>by rw[h];rfl,fun h=>UInt8.toNat_inj.1 (by show c.toNat=45;omega)⟩
theorem ZT2 (c:UInt8):ZBG c=false↔((c.toNat:Int)<48∨(c.toNat:Int)>57):=by
 unfold ZBG;rw[decide_eq_false_iff_not];omega
theorem ZQv {s:Tx} (h:dgs (JM s)=true):QU s=(if ZCv s=true∧stp (JM s)≠ [48]then 45::stp (JM s)else stp (JM s),true):=by unfold QU;rw[if_pos h]
theorem ZWM {s:Tx} (h:dgs (JM s)=false):QU s=([],false):=by unfold QU;rw[if_neg (by rw[h];simp)]
theorem Zdp (s:Tx) (hl:s.length≤1000000):ZC Tryz.prog 109 [.x (.str s)] (.tup [.x (.str (QU s).1),.x (.bool (QU s).2)]):=by
 obtain⟨T,hT⟩: ∃T,JM s=T:=⟨_,rfl⟩;obtain⟨sg,hsg⟩: ∃sg:Tx,sg=if ZCv s=true then [45]else []:=⟨_,rfl⟩
 refine ZN.pure (ZP (fz:=true) ZH (p:=ZSK) rfl _ (ξ rfl) _ (fun C0 E0=> ?_)) rfl;dsimp only[ZSK,qt,qi,qs,qb,qm,qa,qh,qj,qT,qF,qe,ql,qL,qf,q2,q3,q8,qz,qp,qP,qc,qk,qx,qy,qo,qr,qC,ZQ];have uu:=trivial;refine WI.seq ?_;refine WI.regB ZG [0] ?_
 iterate 2 refine oS ?_
 refine oN ?_;refine ZI ?_;refine WI.seq ?_;refine WI.regB ZG [0,4] ?_;refine oS ?_;refine oN ?_;refine ZI ?_;refine WI.join (fun φ os=>φ= [(0,.x (.str T)),(4,.x (.str sg))]∧os= []) ?_ (fun φ os hJ=> ?_)
 ·refine WI.seq ?_;refine WI.regB ZG [0,4,12] ?_;refine oS ?_;refine oG (hok:=by first|exact se|(clear uu;grind)|(rcases s with _|⟨c,r⟩<;>simp;done)|exact sd) ?_;refine oS ?_
  iterate 4 refine oG (hok:=by first|exact se|(clear uu;grind)|(rcases s with _|⟨c,r⟩<;>simp;done)|exact sd) ?_
  refine oN ?_;refine ZI ?_;refine WI.cond (b:=_) rfl rfl (fun h0=> ?_) (fun h0=> ?_)
  ·try simp only[zB]at h0
   have hse:s=s.getD 0 0::s.drop 1:=by rcases s with _|⟨c,r⟩;simp at h0;simp
   have h45:s.getD 0 0=45:=ZdE.2 (by clear uu;grind);have htc:=ZHP (s.getD 0 0) (s.drop 1);rw[←hse,if_pos h45,ZM h45]at htc;have hq1:T=s.drop 1:=by rw[←hT,htc.1]
   have hq2:sg= [45]:=by rw[hsg,htc.2];rfl
   refine WI.seq ?_;refine WI.regB ZG [0,4] ?_;refine oS ?_;refine oN ?_;refine ZI ?_;refine WI.regB ZG [0,4] ?_;refine oS ?_;refine oG (hok:=by first|exact se|(clear uu;grind)|(rcases s with _|⟨c,r⟩<;>simp;done)|exact sd) ?_;refine oS ?_;refine oN ?_;refine ZI ?_;exact⟨by rw[hq1,hq2],rfl⟩
  ·try simp only[zB]at h0
   have hq:T=s∧sg= []:=by
    rcases s with _|⟨c,r⟩
    ·rw[←hT,hsg];simp[JM,ZCv,Lib.trimPrefix,Lib.hasPrefix]
    ·have h45: ¬c=45:=fun e=>by have:=ZdE.1 e;simp at h0;omega
     have htc:=ZHP c r;rw[if_neg h45,decide_eq_false h45]at htc;rw[←hT,hsg,htc.1,htc.2];simp
   obtain⟨hq1,hq2⟩:=hq;refine WI.orderA [0,4] ?_;refine WI.skip ?_;refine ZI ?_;exact⟨by rw[hq1,hq2],rfl⟩
 ·obtain⟨rfl,rfl⟩:=hJ;have hTl:T.length≤s.length:=by
   rw[←hT];rcases s with _|⟨c,r⟩
   ·simp[JM,Lib.trimPrefix,Lib.hasPrefix]
   ·rw[(ZHP c r).1];split<;>simp
  refine WI.seq ?_;refine WI.seq ?_;refine WI.regB ZG [0,4,22] ?_;refine oS ?_
  iterate 2 refine oG (hok:=by first|exact se|(clear uu;grind)|(rcases s with _|⟨c,r⟩<;>simp;done)|exact sd) ?_
  refine oS ?_
  iterate 4 refine oG (hok:=by first|exact se|(clear uu;grind)|(rcases s with _|⟨c,r⟩<;>simp;done)|exact sd) ?_
  refine oN ?_;refine ZI ?_;refine WI.cond (b:=_) rfl rfl (fun h1=> ?_) (fun h1=> ?_)
  ·try simp only[zB]at h1
   refine WI.seq ?_;refine WI.regB ZG [2,3] ?_
   iterate 2 refine oS ?_
   refine oN ?_;refine ZI ?_;refine WI.ret ?_;refine JO ?_
   first|refine lfR ?_|refine ZE5 ?_|refine ZDv ?_
   rw[ZWM (by rw[hT];unfold dgs;rw[Bool.and_eq_false_iff];left;rw[decide_eq_false_iff_not];rintro⟨h2,h3⟩;have:=List.length_pos_iff.2 h2;omega)]
  ·try simp only[zB]at h1
   have hT1:1≤T.length∧T.length≤32:=by omega
   refine WI.skip ?_;refine ZI ?_;refine WI.seq ?_;refine WI.seq ?_;refine WI.regB ZG [0,4,5] ?_;refine oS ?_;refine oN ?_;refine ZI ?_;refine WI.block ?_;refine WI.loop (fun φ os=> ∃(i:Nat),φ= [(0,.x (.str T)),(4,.x (.str sg)),(5,.x (.int .i64 i))]∧os= []∧i≤T.length∧(T.take i).all ZBG=true) (ZK T.length 5) ?_ (fun φ os hI=> ?_)
   ·exact⟨0,rfl,rfl,by omega,rfl⟩
   ·obtain⟨i,rfl,rfl,hi,hall⟩:=hI;refine WI.seq ?_;refine WI.seq ?_;refine WI.regB ZG [0,4,5,26] ?_
    iterate 2 refine oS ?_
    iterate 2 refine oG (hok:=by first|exact se|(clear uu;grind)|(rcases s with _|⟨c,r⟩<;>simp;done)|exact sd) ?_
    refine oN ?_;refine ZI ?_;refine WI.cond (b:=_) rfl rfl (fun h2=> ?_) (fun h2=> ?_)
    ·try simp only[zB]at h2
     have hi4:i<T.length:=by omega
     have hgi:T[i]=T.getD i 0:=by simp[hi4]
     refine WI.skip ?_;refine ZI ?_;refine WI.seq ?_;refine WI.block ?_;refine WI.seq ?_;refine WI.regB ZG [0,4,5,38] ?_
     iterate 2 refine oS ?_
     iterate 2 refine oG (hok:=by first|exact se|(clear uu;grind)|(rcases s with _|⟨c,r⟩<;>simp;done)|exact sd) ?_
     refine oS ?_
     iterate 5 refine oG (hok:=by first|exact se|(clear uu;grind)|(rcases s with _|⟨c,r⟩<;>simp;done)|exact sd) ?_
     refine oN ?_;refine ZI ?_;refine WI.cond (b:=_) rfl rfl (fun h3=> ?_) (fun h3=> ?_)
     ·try simp only[zB]at h3
      refine WI.seq ?_;refine WI.regB ZG [2,3] ?_
      iterate 2 refine oS ?_
      refine oN ?_;refine ZI ?_;refine WI.ret ?_;refine Kk ?_;refine JO ?_;refine JO ?_;refine Kk ?_;refine JO ?_
      first|refine lfR ?_|refine ZE5 ?_|refine ZDv ?_
      rw[ZWM (by rw[hT];unfold dgs;rw[ZQt T ZBG i hi4 (by rw[hgi];exact(ZT2 _).2 (by omega)),Bool.and_false])]
     ·try simp only[zB]at h3
      have hdg:ZBG T[i]=true:=by rw[hgi];cases hh:ZBG (T.getD i 0)with|true=>rfl|false=>exact absurd ((ZT2 _).1 hh) (by omega)
      refine WI.skip ?_;refine QJ ?_;refine ZI ?_;refine WI.regB ZG [0,4,5] ?_;refine oS ?_;refine oG (hok:=by first|exact se|(clear uu;grind)|(rcases s with _|⟨c,r⟩<;>simp;done)|exact sd) ?_;refine oS ?_;refine oN ?_;refine ZI ?_;exact⟨⟨i+1,rfl,rfl,by omega,by rw[ZNC T ZBG i hi4,hall,hdg];rfl⟩,by simp[ZK,Ab.get,D.val,ZF];omega⟩
    ·try simp only[zB]at h2
     have hall2:T.all ZBG=true:=by rw[YN (by omega)]at hall;exact hall
     have hdT:dgs (JM s)=true:=by rw[hT];unfold dgs;rw[hall2,Bool.and_true];exact ZM ⟨List.length_pos_iff.1 (by omega),by omega⟩
     refine WI.exit ?_;refine Jv ?_;refine Jv ?_;refine ZA2 ?_;refine ZI ?_;refine WI.seq ?_;refine WI.block ?_;refine WI.orderA [0,4] ?_;refine WI.loop (fun φ os=> ∃(t:Tx),φ= [(0,.x (.str t)),(4,.x (.str sg))]∧os= []∧stp t=stp T∧1≤t.length∧t.length≤32) (fun φ _=>match φ with|(_,.x (.str t))::_=>t.length|_=>0) ?_ (fun φ os hI=> ?_)
     ·exact⟨T,rfl,rfl,rfl,by omega,by omega⟩
     ·obtain⟨t,rfl,rfl,ht,htl⟩:=hI;have ht0:t.getD 0 0=t[0]:=by simp[show 0<t.length by omega]
      refine WI.seq ?_;refine WI.seq ?_;refine WI.regB ZG [0,4,46] ?_;refine oS ?_
      iterate 2 refine oG (hok:=by first|exact se|(clear uu;grind)|(rcases s with _|⟨c,r⟩<;>simp;done)|exact sd) ?_
      refine oS ?_
      iterate 4 refine oG (hok:=by first|exact se|(clear uu;grind)|(rcases s with _|⟨c,r⟩<;>simp;done)|exact sd) ?_
      refine oN ?_;refine ZI ?_;refine WI.cond (b:=_) rfl rfl (fun h4=> ?_) (fun h4=> ?_)
      ·try simp only[zB]at h4
       have ht2:stp (t.drop 1)=stp T:=by rw[←ht,ZOb t (by clear uu;grind) (by rw[←ht0];exact b48.2 (by clear uu;grind))]
       refine WI.skip ?_;refine ZI ?_;refine WI.block ?_;refine WI.regB ZG [0,4] ?_;refine oS ?_;refine oG (hok:=by first|exact se|(clear uu;grind)|(rcases s with _|⟨c,r⟩<;>simp;done)|exact sd) ?_;refine oS ?_;refine oN ?_;refine QJ ?_;refine ZI ?_;exact⟨⟨t.drop 1,rfl,rfl,ht2,by rw[List.length_drop];omega,by rw[List.length_drop];omega⟩,by simp;omega⟩
      ·try simp only[zB]at h4
       have hts:stp t=t:=ZJR t (fun hh=>by have:=b48.1 (hh.2 (by omega));rw[←ht0]at this;clear uu;grind);have htt:=ht.symm.trans hts;refine WI.exit ?_;refine Jv ?_;refine Jv ?_;refine ZA2 ?_;refine ZI ?_;refine WI.seq ?_;refine WI.seq ?_;refine WI.regB ZG [0,4,50] ?_;refine oS ?_;refine oG (hok:=by first|exact se|(clear uu;grind)|(rcases s with _|⟨c,r⟩<;>simp;done)|exact sd) ?_;refine oN ?_;refine ZI ?_;refine WI.cond (b:=_) rfl rfl (fun h5=> ?_) (fun h5=> ?_)
       ·try simp only[zB]at h5
        refine WI.seq ?_;refine WI.regB ZG [2,3] ?_
        iterate 3 refine oS ?_
        refine oN ?_;refine ZI ?_;refine WI.ret ?_;refine JO ?_
        first|refine lfR ?_|refine ZE5 ?_|refine ZDv ?_
        have h48:t= [48]:=by simpa using h5
        rw[ZQv hdT,hT,htt,h48,if_neg (by simp)]
       ·try simp only[zB]at h5
        refine WI.skip ?_;refine ZI ?_;refine WI.seq ?_;refine WI.regB ZG [2,3] ?_
        iterate 2 refine oS ?_
        refine oG (hok:=by first|exact se|(clear uu;grind)|(rcases s with _|⟨c,r⟩<;>simp;done)|exact sd) ?_
        iterate 2 refine oS ?_
        refine oN ?_;refine ZI ?_;refine WI.ret ?_
        first|refine lfR ?_|refine ZE5 ?_|refine ZDv ?_
        have h48:t≠ [48]:=by simpa using h5
        rw[ZQv hdT,hT,htt,hsg];by_cases hn:ZCv s=true
        ·simp[hn,h48]
        ·simp[hn]
def ZIc:List D→Option (Bool×D)
 | [.x (.str s)]=>some (decide (s.length≤1000000),.tup [.x (.str (QU s).1),.x (.bool (QU s).2)])
 |_=>none
theorem ZZB: ∀args r,ZIc args=some (true,r)→ZC Tryz.prog 109 args r:=by
 intro args r h;unfold ZIc at h;split at h
 ·rename_i s;simp only[Zf,Zc,ZW,Zj,true_and]at h;obtain⟨h1,rfl⟩:=h;exact(Zdp s h1)
 ·cases h
def Yh (k:Int) (s:Tx):Tx×Bool:=
 if s.length>4096 then([],false)else if k=1 then(fld s,!(fld s== []))else if k=2 then(blk s,!(blk s== []))else if k=3 then QU s
 else if k=4 then(s,true)else if k=5 then((Jj s).1,(Jj s).2==0)else([],false)
def ZDl:List D→Option (Bool×D)
 | [.x (.str s)]=>some (true,.tup [.x (.str (Jj s).1),.x (.int .i64 (Jj s).2)])
 |_=>none
theorem ZSM: ∀args r,ZDl args=some (true,r)→ZC Tryz.prog 106 args r:=by
 intro args r h;unfold ZDl at h;split at h
 ·rename_i s;simp only[Zf,Zc,ZW,Zj,true_and]at h;obtain rfl:=h;exact(Zb1 s)
 ·cases h
def ZID:List D→Option (Bool×D)
 | [.x (.str s)]=>some (decide (s.length≤1000000),.x (.str (blk s)))
 |_=>none
theorem ZYT: ∀args r,ZID args=some (true,r)→ZC Tryz.prog 104 args r:=by
 intro args r h;unfold ZID at h;split at h
 ·rename_i s;simp only[Zf,Zc,ZW,Zj,true_and]at h;obtain⟨h1,rfl⟩:=h;exact(ZN5 s h1)
 ·cases h
def ZIU:List D→Option (Bool×D)
 | [.x (.str s)]=>some (true,.tup [.x (.str (QU s).1),.x (.bool (QU s).2)])
 |_=>none
theorem ZYP: ∀args r,ZIU args=some (true,r)→ZC Tryz.prog 105 args r:=by
 intro args r h;unfold ZIU at h;split at h
 ·rename_i s;simp only[Zf,Zc,ZW,Zj,true_and]at h;obtain rfl:=h;exact(Zd4 s)
 ·cases h
def ZEI:Tabs:=ZY (ZY (ZY (ZY (ZV) 37 KB) 104 ZID) 105 ZIU) 106 ZDl
theorem ZV5:SsOk Tryz.prog ZEI:=ZL (ZL (ZL (ZL (ZG) (ZB ZH (p:=i37) rfl) ZGJ) (ZB ZH (p:=ZON) rfl) ZYT) (ZB ZH (p:=ZLD) rfl) ZYP) (ZB ZH (p:=ZHb) rfl) ZSM
theorem ZRw (a:List D):ZEI.q 37 a=KB a:=rfl
theorem ZP5 (a:List D):ZEI.q 104 a=ZID a:=rfl
theorem ZPB (a:List D):ZEI.q 105 a=ZIU a:=rfl
theorem ZPl (a:List D):ZEI.q 106 a=ZDl a:=rfl
theorem ZZk (f:FuncId) (a:List D) (o:List Ob):ZEI.r f a o=none:=rfl
theorem ZXP (f:FuncId) (a:List D) (o:List Ob):ZEI.k f a o=none:=rfl
theorem ZbR (k:Int) (s:Tx):ZC Tryz.prog 65 [.x (.int .i64 k),.x (.str s)] (.tup [.x (.str (Yh k s).1),.x (.bool (Yh k s).2)]):=by
 rcases hu:Yh k s with⟨u,b⟩
 unfold Yh at hu;have hbl:=ZbE s;have hfl:fld s=ZD (blk s):=rfl;have hll:(ZD s).length=s.length:=by unfold ZD;rw[List.length_map]
 refine ZN.pure (ZP (fz:=true) ZH (p:=i65) rfl _ (ξ rfl) _ (fun C0 E0=> ?_)) rfl;dsimp only[i65,qt,qi,qs,qb,qm,qa,qh,qj,qT,qF,qe,ql,qL,qf,q2,q3,q8,qz,qp,qP,qc,qk,qx,qy,qo,qr,qC,ZQ];have uu:=ZA @KB.eq_1 (ZA @KB.eq_2 (ZA @ZID.eq_1 (ZA @ZID.eq_2 (ZA @ZIU.eq_1 (ZA @ZIU.eq_2 (ZA @ZDl.eq_1 (ZA @ZDl.eq_2 (ZA hbl (ZA hll (ZA @ZZk (ZA @ZXP (ZA @ZP5 (ZA @ZPB (ZA @ZPl (@ZRw)))))))))))))));have tT:=ZV5;refine nz ?_;refine rg tT [0,1] ?_;refine rg tT [0,1,11] ?_;refine cd (fun h0=> ?_) (fun h0=> ?_)
 ·refine rg tT [4,5] ?_;refine lf ?_
  (clear uu;grind)
 ·refine rg tT [0,1,6] ?_;refine rg tT [1,6,13] ?_;refine rg tT [1,6,13,14] ?_;refine cd (fun h1=> ?_) (fun h1=> ?_)
  ·refine rg tT [6] ?_;refine rg tT [6] ?_;refine rg tT [4,5] ?_;refine lf ?_
   (clear uu;grind)
  ·refine rg tT [1,6,13,16] ?_;refine cd (fun h2=> ?_) (fun h2=> ?_)
   ·refine rg tT [6] ?_;refine rg tT [4,5] ?_;refine lf ?_
    (clear uu;grind)
   ·refine rg tT [1,13,18] ?_;refine cd (fun h3=> ?_) (fun h3=> ?_)
    ·refine rg tT [4,5] ?_;refine lf ?_
     (clear uu;grind)
    ·refine rg tT [1,13,20] ?_;refine cd (fun h4=> ?_) (fun h4=> ?_)
     ·refine rg tT [4,5] ?_;refine lf ?_
      (clear uu;grind)
     ·refine rg tT [1,22] ?_;refine cd (fun h5=> ?_) (fun h5=> ?_)
      ·refine rg tT [7,8] ?_;refine rg tT [4,5] ?_;refine lf ?_
       (clear uu;grind)
      ·refine rg tT [4,5] ?_;refine lf ?_
       (clear uu;grind)
def Kf:List D→Option (Bool×D)
 | [.x (.int .i64 k),.x (.str s)]=>some (true,.tup [.x (.str (Yh k s).1),.x (.bool (Yh k s).2)])
 |_=>none
theorem ZLn: ∀args r,Kf args=some (true,r)→ZC Tryz.prog 65 args r:=by
 intro args r h;unfold Kf at h;split at h
 ·rename_i k s;simp only[Zf,Zc,ZW,Zj,true_and]at h;obtain rfl:=h;exact(ZbR k s)
 ·cases h
def ZD2:Tabs:=ZY (ZY (ZY (ZY (ZV) 107 ZCl) 108 ZCk) 109 ZIc) 110 ZFj
theorem ZWN:SsOk Tryz.prog ZD2:=ZL (ZL (ZL (ZL (ZG) (ZB ZH (p:=ZOU) rfl) ZOm) (ZB ZH (p:=ZNF) rfl) ZOV) (ZB ZH (p:=ZSK) rfl) ZZB) (ZB ZH (p:=ZR4) rfl) ZTl
theorem ZPt (a:List D):ZD2.q 107 a=ZCl a:=rfl
theorem ZPz (a:List D):ZD2.q 108 a=ZCk a:=rfl
theorem ZPW (a:List D):ZD2.q 109 a=ZIc a:=rfl
theorem ZPw (a:List D):ZD2.q 110 a=ZFj a:=rfl
theorem ZYV (f:FuncId) (a:List D) (o:List Ob):ZD2.r f a o=none:=rfl
theorem ZXg (f:FuncId) (a:List D) (o:List Ob):ZD2.k f a o=none:=rfl
theorem ZZa (k:Int) (s:Tx):ZC Tryz.prog 70 [.x (.int .i64 k),.x (.str s)] (.tup [.x (.str (Yh k s).1),.x (.bool (Yh k s).2)]):=by
 rcases hu:Yh k s with⟨u,b⟩
 unfold Yh at hu;refine ZN.pure (ZP (fz:=true) ZH (p:=i70) rfl _ (ξ rfl) _ (fun C0 E0=> ?_)) rfl;dsimp only[i70,qt,qi,qs,qb,qm,qa,qh,qj,qT,qF,qe,ql,qL,qf,q2,q3,q8,qz,qp,qP,qc,qk,qx,qy,qo,qr,qC,ZQ];have uu:=ZA @ZCl.eq_1 (ZA @ZCl.eq_2 (ZA @ZCk.eq_1 (ZA @ZCk.eq_2 (ZA @ZIc.eq_1 (ZA @ZIc.eq_2 (ZA @ZFj.eq_1 (ZA @ZFj.eq_2 (ZA @ZYV (ZA @ZXg (ZA @ZPt (ZA @ZPz (ZA @ZPW (@ZPw)))))))))))));have tT:=ZWN;refine nz ?_;refine rg tT [0,1] ?_;refine rg tT [0,1,12] ?_;refine cd (fun h0=> ?_) (fun h0=> ?_)
 ·refine rg tT [4,5] ?_;refine lf ?_
  (clear uu;grind)
 ·refine rg tT [1,13] ?_;refine rg tT [1,13,14] ?_;refine cd (fun h1=> ?_) (fun h1=> ?_)
  ·refine rg tT [6] ?_;refine rg tT [4,5] ?_;refine lf ?_
   (clear uu;grind)
  ·refine rg tT [1,13,21] ?_;refine cd (fun h2=> ?_) (fun h2=> ?_)
   ·refine rg tT [7] ?_;refine rg tT [4,5] ?_;refine lf ?_
    (clear uu;grind)
   ·refine rg tT [1,13,28] ?_;refine cd (fun h3=> ?_) (fun h3=> ?_)
    ·refine rg tT [4,5] ?_;refine lf ?_
     (clear uu;grind)
    ·refine rg tT [1,13,34] ?_;refine cd (fun h4=> ?_) (fun h4=> ?_)
     ·refine rg tT [4,5] ?_;refine lf ?_
      (clear uu;grind)
     ·refine rg tT [1,37] ?_;refine cd (fun h5=> ?_) (fun h5=> ?_)
      ·refine rg tT [8,9] ?_;refine rg tT [4,5] ?_;refine lf ?_
       (clear uu;grind)
      ·refine rg tT [4,5] ?_;refine lf ?_
       (clear uu;grind)
def ZAR:List D→Option (Bool×D)
 | [.x (.int .i64 k),.x (.str s)]=>some (true,.tup [.x (.str (Yh k s).1),.x (.bool (Yh k s).2)])
 |_=>none
theorem ZJl: ∀args r,ZAR args=some (true,r)→ZC Tryz.prog 70 args r:=by
 intro args r h;unfold ZAR at h;split at h
 ·rename_i k s;simp only[Zf,Zc,ZW,Zj,true_and]at h;obtain rfl:=h;exact(ZZa k s)
 ·cases h
def eqV (k:Int) (a b:Tx):Int:=if(Yh k a).2=true∧(Yh k b).2=true then(if(Yh k a).1=(Yh k b).1 then 1 else 0)else 2
theorem ZYM (b:Bool):ZC Tryz.prog 122 [.x (.bool b)] (.x (.int .i64 (if b=true then 1 else 0))):=by
 refine ZN.pure (ZP (fz:=true) ZH (p:=ZSb) rfl _ (ξ rfl) _ (fun C0 E0=> ?_)) rfl;dsimp only[ZSb,qt,qi,qs,qb,qm,qa,qh,qj,qT,qF,qe,ql,qL,qf,q2,q3,q8,qz,qp,qP,qc,qk,qx,qy,qo,qr,qC,ZQ];have uu:=trivial;have tT:=(ZG:SsOk Tryz.prog ZV);refine nz ?_;refine rg tT [0] ?_;refine rg tT [3] ?_;refine cd (fun h0=> ?_) (fun h0=> ?_)
 ·refine rg tT [2] ?_;refine lf ?_
  (clear uu;grind)
 ·refine rg tT [2] ?_;refine lf ?_
  (clear uu;grind)
def ZDh:List D→Option (Bool×D)
 | [.x (.bool b)]=>some (true,.x (.int .i64 (if b=true then 1 else 0)))
 |_=>none
theorem ZTG: ∀args r,ZDh args=some (true,r)→ZC Tryz.prog 122 args r:=by
 intro args r h;unfold ZDh at h;split at h
 ·rename_i b;simp only[Zf,Zc,ZW,Zj,true_and]at h;obtain rfl:=h;exact(ZYM b)
 ·cases h
def ZG6:Tabs:=ZY (ZY (ZV) 70 ZAR) 122 ZDh
theorem ZUD:SsOk Tryz.prog ZG6:=ZL (ZL (ZG) (ZB ZH (p:=i70) rfl) ZJl) (ZB ZH (p:=ZSb) rfl) ZTG
theorem ZR2 (a:List D):ZG6.q 70 a=ZAR a:=rfl
theorem ZP9 (a:List D):ZG6.q 122 a=ZDh a:=rfl
theorem ZXN (f:FuncId) (a:List D) (o:List Ob):ZG6.r f a o=none:=rfl
theorem ZY9 (f:FuncId) (a:List D) (o:List Ob):ZG6.k f a o=none:=rfl
theorem ZVx (k:Int) (a b:Tx):ZC Tryz.prog 91 [.x (.int .i64 k),.x (.str a),.x (.str b)] (.x (.int .i64 (eqV k a b))):=by
 rcases hu:eqV k a b with u
 unfold eqV at hu;refine ZN.pure (ZP (fz:=true) ZH (p:=i91) rfl _ (ξ rfl) _ (fun C0 E0=> ?_)) rfl;dsimp only[i91,qt,qi,qs,qb,qm,qa,qh,qj,qT,qF,qe,ql,qL,qf,q2,q3,q8,qz,qp,qP,qc,qk,qx,qy,qo,qr,qC,ZQ];have uu:=ZA @ZAR.eq_1 (ZA @ZAR.eq_2 (ZA @ZDh.eq_1 (ZA @ZDh.eq_2 (ZA @ZXN (ZA @ZY9 (ZA @ZP9 (@ZR2)))))));have tT:=ZUD;refine nz ?_;refine rg tT [0,1,2] ?_;refine rg tT [0,2,7,8] ?_;refine rg tT [7,8,9,10] ?_;refine rg tT [7,9,28] ?_;refine cd (fun h0=> ?_) (fun h0=> ?_)
 ·refine rg tT [6] ?_;refine lf ?_
  (clear uu;grind)
 ·refine rg tT [6] ?_;refine lf ?_
  (clear uu;grind)
def ZCZ:List D→Option (Bool×D)
 | [.x (.int .i64 k),.x (.str a),.x (.str b)]=>some (true,.x (.int .i64 (eqV k a b)))
 |_=>none
theorem ZPf: ∀args r,ZCZ args=some (true,r)→ZC Tryz.prog 91 args r:=by
 intro args r h;unfold ZCZ at h;split at h
 ·rename_i k a b;simp only[Zf,Zc,ZW,Zj,true_and]at h;obtain rfl:=h;exact(ZVx k a b)
 ·cases h
abbrev Zi:=Tx×(Int×(Bool×Unit))
abbrev Zw:RC Zi:=Jc ZJ (Jc (ZBZ .i64) (Jc ZJh ZAy))
theorem YM:Zw.Good:=Yz Zb (Yz (Qq .i64) (Yz ZTK ZBj))
abbrev Zt:=Tx×(List Tx×(List Tx×Unit))
abbrev YW:RC Zt:=Jc ZJ (Jc (rSl ZJ) (Jc (rSl ZJ) ZAy))
theorem Yc:YW.Good:=Yz Zb (Yz (ZCc Zb) (Yz (ZCc Zb) ZBj))
def ZN6 (t:Zi):Zi:=(ZD t.1,t.2)
def ZA8 (c:Zt):Zt:=(ZD c.1,c.2.1.map ZD,c.2.2.1.map ZD,())
def YA (T:List Zi):List (Tx×Zi):=T.map fun t=>(ZD t.1,ZN6 t)
def YH (C:List Zt):List (Tx×Zt):=C.map fun c=>(ZD c.1,ZA8 c)
def Km (L:List (Tx×Zi)):List Pr:=YS Jo Zw.enc L
def Kz (M:List (Tx×Zt)):List Pr:=YS Jo YW.enc M
abbrev Qa (L:List (Tx×Zi)) (M:List (Tx×Zt)):List Ob:= [.box [.mref 1,.mref 2],.mpo .str true (Km L),.mpo .str true (Kz M)]
def Ja (L:List (Tx×Zi)) (k:Tx):Zi:=(ZR L k).getD ([],0,false,())
def clV (M:List (Tx×Zt)) (k:Tx):Zt:=(ZR M k).getD ([],[],[],())
def QA (t:Zi):D:= .agg [.x (.str t.1),.x (.int .i64 t.2.1),.x (.bool t.2.2.1)]
def clD (c:Zt):D:= .agg [.x (.str c.1),.x (.sl (rows ZJ c.2.1)),.x (.sl (rows ZJ c.2.2.1))]
theorem Zdi (L:List (Tx×Zi)) (k:Tx):JL (Km L) [X.str k]=(ZR L k).map fun t=> [.x (.str t.1),.x (.int .i64 t.2.1),.x (.bool t.2.2.1)]:=by
 unfold Km;rw[ZER Jo Zw.enc hkS L k];rfl
theorem Zcd (M:List (Tx×Zt)) (k:Tx):JL (Kz M) [X.str k]=(ZR M k).map fun c=> [.x (.str c.1),.x (.sl (rows ZJ c.2.1)),.x (.sl (rows ZJ c.2.2.1))]:=by
 unfold Kz;rw[ZER Jo YW.enc hkS M k];rfl
theorem Zdr (L:List (Tx×Zi)) (k:Tx) (t:Zi):Yf (Km L) [X.str k] [.x (.str t.1),.x (.int .i64 t.2.1),.x (.bool t.2.2.1)]=Km (JN L k t):=ZCg Jo Zw.enc hkS L k t
theorem Zct (M:List (Tx×Zt)) (k:Tx) (c:Zt):Yf (Kz M) [X.str k] [.x (.str c.1),.x (.sl (rows ZJ c.2.1)),.x (.sl (rows ZJ c.2.2.1))]=Kz (JN M k c):=ZCg Jo YW.enc hkS M k c
theorem ZAK (f:Nat→Nat) (L:List (Tx×Zi)):(Km L).map (Yy f)=Km L:=Ka _ _ _ _
theorem ZAG (f:Nat→Nat) (M:List (Tx×Zt)):(Kz M).map (Yy f)=Kz M:=Ka _ _ _ _
theorem ZBP (L:List (Tx×Zi)):ZBF (Km L)= []:=ZAE _ _ _
theorem ZBK (M:List (Tx×Zt)):ZBF (Kz M)= []:=ZAE _ _ _
theorem Ko (p:Nat→Bool) (L:List (Tx×Zi)):(Km L).all (QD p)=true:=KN _ _ _ _
theorem Kp (p:Nat→Bool) (M:List (Tx×Zt)):(Kz M).all (QD p)=true:=KN _ _ _ _
theorem ZaK (ρ:List Nat) (os:List Ob) (L:List (Tx×Zi)):(Km L).map (Qt (Kr ρ os))=Km L:=ZCQ _ _ _ _ _
theorem ZZ9 (ρ:List Nat) (os:List Ob) (M:List (Tx×Zt)):(Kz M).map (Qt (Kr ρ os))=Kz M:=ZCQ _ _ _ _ _
theorem ZEd (L:List (Tx×Zi)):Ke ZJ Zw (Km L)=some L:=ZSN Zb YM L
theorem ZEr (M:List (Tx×Zt)):Ke ZJ YW (Kz M)=some M:=ZSN Zb Yc M
theorem Ql (L:List (Tx×Zi)) (M:List (Tx×Zt)):(Qa L M).all (Ob.inP (fun i=>decide (i<(Qa L M).length)))=true:=by
 simp[Ob.inP,YY,D.inP,Ko,Kp]
def YF:List D→Option (Bool×D)
 | [.x (.str s)]=>some (decide (s.length≤140737488355328),.x (.str (ZD s)))
 |_=>none
theorem ZA4: ∀args r,YF args=some (true,r)→ZC Tryz.prog 37 args r:=by
 intro args r h;unfold YF at h;split at h
 ·rename_i s;simp only[Zf,Zc,ZW,Zj,true_and]at h;obtain⟨h1,rfl⟩:=h;exact(ZLO s h1)
 ·cases h
def ZKl:Tabs:=ZY (ZV) 37 YF
theorem ZL1:SsOk Tryz.prog ZKl:=ZL (ZG) (ZB ZH (p:=i37) rfl) ZA4
theorem ZKS (a:List D):ZKl.q 37 a=YF a:=rfl
theorem ZOx (f:FuncId) (a:List D) (o:List Ob):ZKl.r f a o=none:=rfl
theorem ZNZ (f:FuncId) (a:List D) (o:List Ob):ZKl.k f a o=none:=rfl
theorem ZWI (L:List (Tx×Zi)) (M:List (Tx×Zt)) (n:Tx) (hn:n.length≤140737488355328):ZU Tryz.prog 36 [.ptr 0 0,.x (.str n)] (Qa L M) (.tup [QA (Ja L (ZD n)),.x (.bool (ZR L (ZD n)).isSome)]) (Qa L M):=by
 have hg:=Zdi L (ZD n);have hO:=Ql L M;unfold Ja;rcases hm:ZR L (ZD n)with _|⟨a,k,b,u⟩
 ·rw[hm,Option.map_none]at hg;refine ZN.mcallsX (ZP (fz:=true) ZH (p:=i36) rfl _ (ξ rfl) _ (fun C0 E0=> ?_)) (by first|decide|(simp;done)) hO (by first|rfl|exact hR);dsimp only[i36,qt,qi,qs,qb,qm,qa,qh,qj,qT,qF,qe,ql,qL,qf,q2,q3,q8,qz,qp,qP,qc,qk,qx,qy,qo,qr,qC,ZQ];have uu:=ZA @YF.eq_1 (ZA @YF.eq_2 (ZA hg (ZA @ZOx (ZA @ZNZ (@ZKS)))));have tT:=ZL1;refine nz ?_;refine rg tT [0,1,4] ?_;refine WI.dregB tT [4,6,7] ?_
  iterate 3 refine Zn ?_
  refine YG ?_;refine Zn ?_;refine Qi ?_;refine YG ?_;refine Zn ?_
  iterate 2 refine Ye ?_
  refine dKG ?_;refine dAG ?_;refine Zn ?_;refine dN ?_;refine nz ?_;refine rg tT [4,5] ?_;refine lf ?_;exact⟨rfl,_,rfl⟩
 ·rw[hm,Option.map_some]at hg;refine ZN.mcallsX (ZP (fz:=true) ZH (p:=i36) rfl _ (ξ rfl) _ (fun C0 E0=> ?_)) (by first|decide|(simp;done)) hO (by first|rfl|exact hR);dsimp only[i36,qt,qi,qs,qb,qm,qa,qh,qj,qT,qF,qe,ql,qL,qf,q2,q3,q8,qz,qp,qP,qc,qk,qx,qy,qo,qr,qC,ZQ];have uu:=ZA @YF.eq_1 (ZA @YF.eq_2 (ZA hg (ZA @ZOx (ZA @ZNZ (@ZKS)))));have tT:=ZL1;refine nz ?_;refine rg tT [0,1,4] ?_;refine WI.dregB tT [4,6,7] ?_
  iterate 3 refine Zn ?_
  refine YG ?_;refine Zn ?_;refine Qi ?_;refine YG ?_;refine Zn ?_
  iterate 2 refine Ye ?_
  refine dKG ?_;refine dAG ?_;refine Zn ?_;refine dN ?_;refine nz ?_;refine rg tT [4,5] ?_;refine lf ?_;exact⟨rfl,_,rfl⟩
def ZCm:List D→List Ob→Option (Bool×D×List Ob)
 | [.ptr 0 0,.x (.str n)],[.box [.mref 1,.mref 2],.mpo .str true P1,.mpo .str true P2]=>(Ke ZJ Zw P1).bind fun L=>(Ke ZJ YW P2).bind fun M=>some (decide (n.length≤140737488355328),.tup [QA (Ja L (ZD n)),.x (.bool (ZR L (ZD n)).isSome)],[.box [.mref 1,.mref 2],.mpo .str true (Km L),.mpo .str true (Kz M)])
 |_,_=>none
theorem ZOQ: ∀args os r os',ZCm args os=some (true,r,os')→ZU Tryz.prog 36 args os r os':=by
 intro args os r os' h;unfold ZCm at h;split at h
 ·rename_i n P1 P2;obtain⟨L,hm0,h⟩:=Zr h;obtain⟨M,hm1,h⟩:=Zr h;simp only[Zf,Zc,ZW,Zj,true_and]at h;obtain⟨h1,rfl,rfl⟩:=h;rw[Yo Zb YM hm0];rw[Yo Zb Yc hm1];exact ZWI L M n h1
 ·cases h
def ZAI:List D→List Ob→Option (Bool×D)
 | [.ptr 0 0,.x (.str n)],[.box [.mref 1,.mref 2],.mpo .str true P1,.mpo .str true P2]=>(Ke ZJ Zw P1).bind fun L=>(Ke ZJ YW P2).bind fun M=>some (decide (n.length≤140737488355328),.tup [QA (Ja L (ZD n)),.x (.bool (ZR L (ZD n)).isSome)])
 |_,_=>none
theorem ZLm: ∀args os r,ZAI args os=some (true,r)→r.clean=true∧ ∃X,ZU Tryz.prog 36 args os r (os++X):=by
 intro args os r h;unfold ZAI at h;split at h
 ·rename_i n P1 P2;obtain⟨L,hm0,h⟩:=Zr h;obtain⟨M,hm1,h⟩:=Zr h;simp only[Zf,Zc,ZW,Zj,true_and]at h;obtain⟨h1,rfl⟩:=h;rw[Yo Zb YM hm0];rw[Yo Zb Yc hm1];exact⟨rfl,[],by rw[List.append_nil];exact ZWI L M n h1⟩
 ·cases h
def ZHK:Tabs:=ZJV (ZV) 36 ZAI
theorem QT:SsOk Tryz.prog ZHK:=ZIS (ZG) (ZB ZH (p:=i36) rfl) ZLm
theorem ZR3 (a:List D):ZHK.q 36 a=none:=rfl
theorem ZTJ (a:List D) (o:List Ob):ZHK.t 36 a o=(KV ZAI a o).map fun r=>(r.1,r.2,o):=rfl
theorem ZSV (a:List D) (o:List Ob):ZHK.r 36 a o=KV ZAI a o:=rfl
theorem ZXx (f:FuncId) (a:List D) (o:List Ob):ZHK.k f a o=none:=rfl
def ZHE:Tabs:=JR (ZV) 36 ZCm
theorem ZWS:SsOk Tryz.prog ZHE:=Yl (ZG) (ZB ZH (p:=i36) rfl) ZOQ
theorem ZSJ (a:List D):ZHE.q 36 a=none:=rfl
theorem ZTZ (a:List D) (o:List Ob):ZHE.t 36 a o=YU ZCm a o:=rfl
theorem ZY0 (f:FuncId) (a:List D) (o:List Ob):ZHE.r f a o=none:=rfl
theorem ZXX (f:FuncId) (a:List D) (o:List Ob):ZHE.k f a o=none:=rfl
theorem ZcS (L:List (Tx×Zi)) (M:List (Tx×Zt)) (n:Tx) (hn:n.length≤140737488355328):ZU Tryz.prog 12 [.ptr 0 0,.x (.str n)] (Qa L M) (.tup [QA (Ja L (ZD n)),.x (.bool (ZR L (ZD n)).isSome)]) (Qa L M):=by
 have hO:=Ql L M;have h1:=ZEd L;have h2:=ZEr M;unfold QA;refine ZN.mcallsX (ZP (fz:=true) ZH (p:=i12) rfl _ (ξ rfl) _ (fun C0 E0=> ?_)) (by first|decide|(simp;done)) hO (by first|rfl|exact hR);dsimp only[i12,qt,qi,qs,qb,qm,qa,qh,qj,qT,qF,qe,ql,qL,qf,q2,q3,q8,qz,qp,qP,qc,qk,qx,qy,qo,qr,qC,ZQ];have uu:=ZA @ZCm.eq_1 (ZA @ZCm.eq_2 (ZA h1 (ZA h2 (ZA @QA.eq_1 (ZA @ZAK (ZA @ZAG (ZA @ZBP (ZA @ZBK (ZA @Ko (ZA @Kp (ZA @ZY0 (ZA @ZXX (ZA @ZSJ (@ZTZ))))))))))))));have tT:=ZWS;refine nz ?_;refine rg tT [0,1,4] ?_;refine rg tT [0,1,4,7] ?_;refine ce (fun h0=> ?_) (fun h0=> ?_)
 ·simp at h0
 ·refine rg tT [4,5] ?_;refine lf ?_;exact⟨rfl,_,rfl⟩
def ZCt:List D→List Ob→Option (Bool×D×List Ob)
 | [.ptr 0 0,.x (.str n)],[.box [.mref 1,.mref 2],.mpo .str true P1,.mpo .str true P2]=>(Ke ZJ Zw P1).bind fun L=>(Ke ZJ YW P2).bind fun M=>some (decide (n.length≤140737488355328),.tup [QA (Ja L (ZD n)),.x (.bool (ZR L (ZD n)).isSome)],[.box [.mref 1,.mref 2],.mpo .str true (Km L),.mpo .str true (Kz M)])
 |_,_=>none
theorem ZM9: ∀args os r os',ZCt args os=some (true,r,os')→ZU Tryz.prog 12 args os r os':=by
 intro args os r os' h;unfold ZCt at h;split at h
 ·rename_i n P1 P2;obtain⟨L,hm0,h⟩:=Zr h;obtain⟨M,hm1,h⟩:=Zr h;simp only[Zf,Zc,ZW,Zj,true_and]at h;obtain⟨h1,rfl,rfl⟩:=h;rw[Yo Zb YM hm0];rw[Yo Zb Yc hm1];exact ZcS L M n h1
 ·cases h
def ZKN:Tabs:=ZY (ZV) 37 YF
theorem ZLd:SsOk Tryz.prog ZKN:=ZL (ZG) (ZB ZH (p:=i37) rfl) ZA4
theorem ZKB (a:List D):ZKN.q 37 a=YF a:=rfl
theorem ZN8 (f:FuncId) (a:List D) (o:List Ob):ZKN.r f a o=none:=rfl
theorem ZOZ (f:FuncId) (a:List D) (o:List Ob):ZKN.k f a o=none:=rfl
theorem ZbU (L:List (Tx×Zi)) (M:List (Tx×Zt)) (n:Tx) (hn:n.length≤140737488355328):ZU Tryz.prog 14 [.ptr 0 0,.x (.str n)] (Qa L M) (.tup [clD (clV M (ZD n)),.x (.bool (ZR M (ZD n)).isSome)]) (Qa L M):=by
 have hg:=Zcd M (ZD n);have hO:=Ql L M;unfold clV;rcases hm:ZR M (ZD n)with _|⟨a,m,y,u⟩
 ·rw[hm,Option.map_none]at hg;refine ZN.mcallsX (ZP (fz:=true) ZH (p:=i14) rfl _ (ξ rfl) _ (fun C0 E0=> ?_)) (by first|decide|(simp;done)) hO (by first|rfl|exact hR);dsimp only[i14,qt,qi,qs,qb,qm,qa,qh,qj,qT,qF,qe,ql,qL,qf,q2,q3,q8,qz,qp,qP,qc,qk,qx,qy,qo,qr,qC,ZQ];have uu:=ZA @YF.eq_1 (ZA @YF.eq_2 (ZA hg (ZA @ZN8 (ZA @ZOZ (@ZKB)))));have tT:=ZLd;refine nz ?_;refine rg tT [0,1,4] ?_;refine rg tT [0,1,4,9] ?_;refine ce (fun h0=> ?_) (fun h0=> ?_)
  ·simp at h0
  ·refine WI.dregB tT [4,6,7] ?_
   iterate 4 refine Zn ?_
   refine YG ?_;refine Zn ?_;refine Qi ?_;refine YG ?_;refine Zn ?_
   iterate 2 refine Ye ?_
   refine dKG ?_;refine dAG ?_;refine Zn ?_;refine dN ?_;refine nz ?_;refine rg tT [4,5] ?_;refine WI.nnA ?_;refine lf ?_;exact⟨rfl,_,rfl⟩
 ·rw[hm,Option.map_some]at hg;refine ZN.mcallsX (ZP (fz:=true) ZH (p:=i14) rfl _ (ξ rfl) _ (fun C0 E0=> ?_)) (by first|decide|(simp;done)) hO (by first|rfl|exact hR);dsimp only[i14,qt,qi,qs,qb,qm,qa,qh,qj,qT,qF,qe,ql,qL,qf,q2,q3,q8,qz,qp,qP,qc,qk,qx,qy,qo,qr,qC,ZQ];have uu:=ZA @YF.eq_1 (ZA @YF.eq_2 (ZA hg (ZA @ZN8 (ZA @ZOZ (@ZKB)))));have tT:=ZLd;refine nz ?_;refine rg tT [0,1,4] ?_;refine rg tT [0,1,4,9] ?_;refine ce (fun h0=> ?_) (fun h0=> ?_)
  ·simp at h0
  ·refine WI.dregB tT [4,6,7] ?_
   iterate 4 refine Zn ?_
   refine YG ?_;refine Zn ?_;refine Qi ?_;refine YG ?_;refine Zn ?_
   iterate 2 refine Ye ?_
   refine dKG ?_;refine dAG ?_;refine Zn ?_;refine dN ?_;refine nz ?_;refine rg tT [4,5] ?_;refine lf ?_;exact⟨rfl,_,rfl⟩
def QS:List D→List Ob→Option (Bool×D×List Ob)
 | [.ptr 0 0,.x (.str n)],[.box [.mref 1,.mref 2],.mpo .str true P1,.mpo .str true P2]=>(Ke ZJ Zw P1).bind fun L=>(Ke ZJ YW P2).bind fun M=>some (decide (n.length≤140737488355328),.tup [clD (clV M (ZD n)),.x (.bool (ZR M (ZD n)).isSome)],[.box [.mref 1,.mref 2],.mpo .str true (Km L),.mpo .str true (Kz M)])
 |_,_=>none
theorem ZHw: ∀args os r os',QS args os=some (true,r,os')→ZU Tryz.prog 14 args os r os':=by
 intro args os r os' h;unfold QS at h;split at h
 ·rename_i n P1 P2;obtain⟨L,hm0,h⟩:=Zr h;obtain⟨M,hm1,h⟩:=Zr h;simp only[Zf,Zc,ZW,Zj,true_and]at h;obtain⟨h1,rfl,rfl⟩:=h;rw[Yo Zb YM hm0];rw[Yo Zb Yc hm1];exact ZbU L M n h1
 ·cases h
theorem ZdZ (b:Bool) (c:Int):ZC Tryz.prog 40 [.x (.bool b),.x (.int .i64 c)] (.x (.int .i64 (if b=true then c else 0))):=by
 refine ZN.pure (ZP (fz:=true) ZH (p:=i40) rfl _ (ξ rfl) _ (fun C0 E0=> ?_)) rfl;dsimp only[i40,qt,qi,qs,qb,qm,qa,qh,qj,qT,qF,qe,ql,qL,qf,q2,q3,q8,qz,qp,qP,qc,qk,qx,qy,qo,qr,qC,ZQ];have uu:=trivial;have tT:=(ZG:SsOk Tryz.prog ZV);refine nz ?_;refine rg tT [0,1] ?_;refine rg tT [1,5] ?_;refine cd (fun h0=> ?_) (fun h0=> ?_)
 ·refine rg tT [4] ?_;refine lf ?_
  (clear uu;grind)
 ·refine rg tT [4] ?_;refine lf ?_
  (clear uu;grind)
def KI:List D→Option (Bool×D)
 | [.x (.bool b),.x (.int .i64 c)]=>some (true,.x (.int .i64 (if b=true then c else 0)))
 |_=>none
theorem ZJX: ∀args r,KI args=some (true,r)→ZC Tryz.prog 40 args r:=by
 intro args r h;unfold KI at h;split at h
 ·rename_i b c;simp only[Zf,Zc,ZW,Zj,true_and]at h;obtain rfl:=h;exact(ZdZ b c)
 ·cases h
def Qk (k:Int) (v:Tx):Tx:=(Yh k v).1
def ZAD (k:Int) (l:List Tx):List (Tx×Int):=l.map fun v=>(Qk k v,(1:Int))
def twV (k:Int) (l:List Tx):Bool:= !decide (l.map (Qk k)).Nodup
theorem ZF5 (k:Int): ∀(l:List Tx) (x:Tx),ZR (ZAD k l) x=if x∈l.map (Qk k)then some 1 else none
 | [],x=>by simp[ZAD,ZR]
 |v::l,x=>by
  have ih:=ZF5 k l x;by_cases h:x=Qk k v
  ·simp[ZAD,ZR,h]
  ·have e:(x∈(v::l).map (Qk k))=(x∈l.map (Qk k)):=by simp[h]
   have e2:ZR (ZAD k (v::l)) x=ZR (ZAD k l) x:=by simp[ZAD,ZR,h]
   rw[e2,ih];simp only[e]
theorem ZVX (k:Int) (l:List Tx) (x:Tx):JL (YS Jo Kl (ZAD k l)) [X.str x]=if x∈l.map (Qk k)then some [D.x (X.int .i64 1)]else none:=by
 rw[ZER Jo Kl hkS (ZAD k l) x,ZF5];split<;>rfl
theorem ZVg (k:Int) (l:List Tx) (v:Tx) (h:Qk k v∉l.map (Qk k)):Yf (YS Jo Kl (ZAD k l)) [X.str (Qk k v)] [D.x (X.int .i64 1)]=YS Jo Kl (ZAD k (l++ [v])):=by
 have e:=ZCg Jo Kl hkS (ZAD k l) (Qk k v) 1;rw[ZGF (by rw[ZF5,if_neg h])]at e;have e2:ZAD k (l++ [v])=ZAD k l++ [(Qk k v,1)]:=by simp[ZAD]
 rw[e2];exact e
theorem JF (l:List Tx) (j:Nat) (h:j<l.length):(rows ZJ l)[j]? =some [X.str (l.getD j [])]:=by
 simp[rows,h,ZJ]
theorem Zdq (k:Int) (l:List Tx) (j:Nat) (h:j<l.length) (hin:Qk k (l.getD j [])∈(l.take j).map (Qk k)):twV k l=true:=by
 unfold twV;rw[Bool.not_eq_true',decide_eq_false_iff_not];intro hn;have e:l=l.take j++l.getD j []::l.drop (j+1):=by
  have:=List.take_append_drop j l;rw[List.drop_eq_getElem_cons h]at this;rw[show l.getD j []=l[j] by simp[h]];exact this.symm
 rw[e,List.map_append,List.map_cons]at hn;have:=(List.nodup_append.1 hn).2.2 _ hin _ (List.mem_cons_self);exact this rfl
def ZJ1:Tabs:=ZY (ZV) 65 Kf
theorem ZV2:SsOk Tryz.prog ZJ1:=ZL (ZG) (ZB ZH (p:=i65) rfl) ZLn
theorem ZSQ (a:List D):ZJ1.q 65 a=Kf a:=rfl
theorem ZYZ (f:FuncId) (a:List D) (o:List Ob):ZJ1.r f a o=none:=rfl
theorem ZZY (f:FuncId) (a:List D) (o:List Ob):ZJ1.k f a o=none:=rfl
theorem Za6 (k:Int) (l:List Tx) (hl:l.length≤1000000):ZC Tryz.prog 67 [.x (.int .i64 k),.x (.sl (rows ZJ l))] (.x (.bool (twV k l))):=by
 refine ZN.pure (ZP (fz:=true) ZH (p:=i67) rfl _ (ξ rfl) _ (fun C0 E0=> ?_)) rfl;dsimp only[i67,qt,qi,qs,qb,qm,qa,qh,qj,qT,qF,qe,ql,qL,qf,q2,q3,q8,qz,qp,qP,qc,qk,qx,qy,qo,qr,qC,ZQ];have uu:=ZA @Kf.eq_1 (ZA @Kf.eq_2 (ZA @ZYZ (ZA @ZZY (@ZSQ))));have tT:=ZV2;refine nz ?_;refine rg tT [0,1] ?_;refine rg tT [0,1,5] ?_;refine rg tT [0,5,11,12,13] ?_;refine WI.loop (fun φ os=> ∃(j:Nat),φ= [(0,.x (.int .i64 k)),(5,.mref 0),(11,.x (.sl (rows ZJ l))),(12,.x (.int .i64 l.length)),(13,.x (.int .i64 j))]∧os= [.mpo .str false (YS Jo Kl (ZAD k (l.take j)))]∧j≤l.length∧((l.take j).map (Qk k)).Nodup) (ZK l.length 13) ?_ (fun φ os hI=> ?_)
 ·exact⟨0,rfl,rfl,by omega,by simp⟩
 ·obtain⟨j,rfl,rfl,hj,hnd⟩:=hI;refine nz ?_;refine rg tT [0,5,11,12,13,14] ?_;refine cd (fun h0=> ?_) (fun h0=> ?_)
  ·have hj4:j<l.length:=by omega
   have hrw:=JF l j hj4;have hgt:=ZVX k (l.take j) (Qk k (l.getD j []));have htk:l.take (j+1)=l.take j++ [l.getD j []]:=by rw[List.take_succ_eq_append_getElem hj4];simp[hj4]
   have hnk:(Yh k (l.getD j [])).1=Qk k (l.getD j []):=rfl;have uu:=ZA uu (ZA hrw hnk);refine rg tT [0,5,7,11,12,13] ?_;refine rg tT [0,5,8,11,12,13] ?_;by_cases hin:Qk k (l.getD j [])∈(l.take j).map (Qk k)
   ·rw[if_pos hin]at hgt;have uu:=ZA uu hgt;refine rg tT [0,5,8,11,12,13,26] ?_;refine ct (fun h1=> ?_) (fun h1=> ?_)
    ·refine rg tT [4] ?_;refine lf ?_;rw[Zdq k l j hj4 hin]
    ·simp at h1
   ·rw[if_neg hin]at hgt;have hset:=ZVg k (l.take j) (l.getD j []) hin;have uu:=ZA uu (ZA hgt hset);refine rg tT [0,5,8,11,12,13,26] ?_;refine ce (fun h1=> ?_) (fun h1=> ?_)
    ·simp at h1
    ·refine WI.post ?_;refine WI.regB tT [0,5,11,12,13] ?_
     iterate 2 refine oS ?_
     iterate 3 refine oG ?_
     refine oP ?_;refine JA [0] ?_ (ho:=by simp (disch:=decide) only[zV,zO,Ob.mpb,frzL,QK,ZAW,Kr,Ob.onI,Qt,Yy,Option.map_some,Option.map_none,D.vw,vwL,D.on,D.inP,YY,Zo,D.ren,Zx,Yb,YO,Ob.mp,Ob.ren,D.nn,ZBE,Nat.reduceBEq,Nat.reduceEqDiff,Nat.reduceAdd,↓reduceIte,ZCQ,Ka];rfl);refine Je ?_;refine nz ?_;have hnd2:((l.take (j+1)).map (Qk k)).Nodup:=by
      rw[htk,List.map_append,List.nodup_append];exact⟨hnd,by simp,fun a ha b hb=>by simp only[List.map_cons,List.map_nil,List.mem_singleton]at hb;subst hb;rintro rfl;exact hin ha⟩
     refine rg tT [0,5,11,12,13] ?_;exact⟨⟨j+1,rfl,by rw[htk],by omega,hnd2⟩,by simp[ZK,Ab.get,D.val,ZF];omega⟩
  ·refine rg tT [4] ?_;refine lf ?_;rw[YN (by omega)]at hnd;unfold twV;rw[ZM hnd];rfl
def ZDC:List D→Option (Bool×D)
 | [.x (.int .i64 k),.x (.sl R)]=>(Zg ZJ R).bind fun l=>some (decide (l.length≤1000000),.x (.bool (twV k l)))
 |_=>none
theorem ZW1: ∀args r,ZDC args=some (true,r)→ZC Tryz.prog 67 args r:=by
 intro args r h;unfold ZDC at h;split at h
 ·rename_i k R;obtain⟨l,hr0,h⟩:=Zr h;simp only[Zf,Zc,ZW,Zj,true_and]at h;obtain⟨h1,rfl⟩:=h;rw[←ZX Zb hr0];exact(Za6 k l h1)
 ·cases h
def atD (a:Zv):D:= .agg [.x (.str a.1),.x (.sl (rows ZJ a.2.1))]
def w1 (t:Zi) (_:Zv):Int:=if t.1= []then 17 else 0
def w2 (_:Zi) (a:Zv):Int:=if a.2.1.length=0 then 19 else 0
def w3 (t:Zi) (a:Zv):Int:=if a.2.1.all (fun v=>(Yh t.2.1 v).2)=true then 0 else 21
def w5 (t:Zi) (a:Zv):Int:=if t.2.2.1=true∧1<a.2.1.length then 19 else 0
def ZHd:Tabs:=ZY (ZY (ZV) 40 KI) 65 Kf
theorem ZEm:SsOk Tryz.prog ZHd:=ZL (ZL (ZG) (ZB ZH (p:=i40) rfl) ZJX) (ZB ZH (p:=i65) rfl) ZLn
theorem ZDa (a:List D):ZHd.q 40 a=KI a:=rfl
theorem ZDT (a:List D):ZHd.q 65 a=Kf a:=rfl
theorem ZGV (f:FuncId) (a:List D) (o:List Ob):ZHd.r f a o=none:=rfl
theorem ZF9 (f:FuncId) (a:List D) (o:List Ob):ZHd.k f a o=none:=rfl
theorem Zeo (t:Zi) (a:Zv):ZC Tryz.prog 62 [QA t,atD a] (.x (.int .i64 (w1 t a))):=by
 unfold w1 QA atD;refine ZN.pure (ZP (fz:=true) ZH (p:=i62) rfl _ (ξ rfl) _ (fun C0 E0=> ?_)) rfl;dsimp only[i62,qt,qi,qs,qb,qm,qa,qh,qj,qT,qF,qe,ql,qL,qf,q2,q3,q8,qz,qp,qP,qc,qk,qx,qy,qo,qr,qC,ZQ];have uu:=ZA @KI.eq_1 (ZA @KI.eq_2 (ZA @ZGV (ZA @ZF9 (ZA @ZDa (ZA @ZDT (ZA @Kf.eq_1 (@Kf.eq_2)))))));have tT:=ZEm;refine nz ?_;refine rg tT [2] ?_;refine rg tT [4] ?_;refine lf ?_
 (clear uu;grind)
theorem Zet (t:Zi) (a:Zv):ZC Tryz.prog 63 [QA t,atD a] (.x (.int .i64 (w2 t a))):=by
 unfold w2 QA atD;refine ZN.pure (ZP (fz:=true) ZH (p:=i63) rfl _ (ξ rfl) _ (fun C0 E0=> ?_)) rfl;dsimp only[i63,qt,qi,qs,qb,qm,qa,qh,qj,qT,qF,qe,ql,qL,qf,q2,q3,q8,qz,qp,qP,qc,qk,qx,qy,qo,qr,qC,ZQ];have uu:=ZA @KI.eq_1 (ZA @KI.eq_2 (ZA @ZGV (ZA @ZF9 (ZA @ZDa (ZA @ZDT (ZA @Kf.eq_1 (@Kf.eq_2)))))));have tT:=ZEm;refine nz ?_;refine rg tT [3] ?_;refine rg tT [4] ?_;refine lf ?_
 (clear uu;grind)
theorem Ze3 (t:Zi) (a:Zv) (hl:a.2.1.length≤1000000):ZC Tryz.prog 64 [QA t,atD a] (.x (.int .i64 (w3 t a))):=by
 unfold w3 QA atD;obtain⟨n,l,u⟩:=a;simp only at hl⊢;refine ZN.pure (ZP (fz:=true) ZH (p:=i64) rfl _ (ξ rfl) _ (fun C0 E0=> ?_)) rfl;dsimp only[i64,qt,qi,qs,qb,qm,qa,qh,qj,qT,qF,qe,ql,qL,qf,q2,q3,q8,qz,qp,qP,qc,qk,qx,qy,qo,qr,qC,ZQ];have uu:=ZA @Kf.eq_1 (ZA @Kf.eq_2 (ZA @ZGV (ZA @ZF9 (ZA @ZDa (ZA @ZDT (ZA @KI.eq_1 (@KI.eq_2)))))));have tT:=ZEm;refine nz ?_;refine rg tT [2,3] ?_;refine rg tT [2,10,11,12] ?_;refine WI.pickA [0] ?_;refine WI.orderA [2,10,11,12] ?_;refine WI.loop (fun φ os=> ∃(j:Nat),φ= [(2,.ptr 0 0),(10,.x (.sl (rows ZJ l))),(11,.x (.int .i64 l.length)),(12,.x (.int .i64 j))]∧os= [.box [.x (.str t.1),.x (.int .i64 t.2.1),.x (.bool t.2.2.1)]]∧j≤l.length∧(l.take j).all (fun v=>(Yh t.2.1 v).2)=true) (ZK l.length 12) ?_ (fun φ os hI=> ?_)
 ·exact⟨0,rfl,rfl,by omega,rfl⟩
 ·obtain⟨j,rfl,rfl,hj,hall⟩:=hI;refine nz ?_;refine rg tT [2,10,11,12,13] ?_;refine cd (fun h0=> ?_) (fun h0=> ?_)
  ·have hj4:j<l.length:=by omega
   have hrw:=JF l j hj4;have hgj:l[j]=l.getD j []:=by simp[hj4]
   have hal:=YJ (fun v=>(Yh t.2.1 v).2) l j hj4;rw[hgj]at hal;have uu:=ZA uu hrw;refine rg tT [2,6,10,11,12] ?_;refine rg tT [2,8,10,11,12] ?_;refine rg tT [2,10,11,12,24] ?_;refine cd (fun h1=> ?_) (fun h1=> ?_)
   ·refine rg tT [4] ?_;refine lf ?_;rw[if_neg (by rw[Ze (fun v=>(Yh t.2.1 v).2) l j hj4 (by rw[hgj];simpa using h1)];decide)]
   ·have hall2:(l.take (j+1)).all (fun v=>(Yh t.2.1 v).2)=true:=by rw[hal,hall];simpa using h1
    refine rg tT [2,10,11,12] ?_;exact⟨⟨j+1,rfl,rfl,by omega,hall2⟩,by simp[ZK,Ab.get,D.val,ZF];omega⟩
  ·refine rg tT [4] ?_;refine lf ?_;rw[YN (by omega)]at hall;rw[if_pos hall]
theorem Zew (t:Zi) (a:Zv):ZC Tryz.prog 68 [QA t,atD a] (.x (.int .i64 (w5 t a))):=by
 unfold w5 QA atD;refine ZN.pure (ZP (fz:=true) ZH (p:=i68) rfl _ (ξ rfl) _ (fun C0 E0=> ?_)) rfl;dsimp only[i68,qt,qi,qs,qb,qm,qa,qh,qj,qT,qF,qe,ql,qL,qf,q2,q3,q8,qz,qp,qP,qc,qk,qx,qy,qo,qr,qC,ZQ];have uu:=ZA @KI.eq_1 (ZA @KI.eq_2 (ZA @ZGV (ZA @ZF9 (ZA @ZDa (ZA @ZDT (ZA @Kf.eq_1 (@Kf.eq_2)))))));have tT:=ZEm;refine nz ?_;refine rg tT [2,3] ?_;refine rg tT [4] ?_;refine lf ?_
 (clear uu;grind)
abbrev Sn:=List (Tx×Int)
def Kn (S:Sn) (k:Tx):Int:=(ZR S k).getD 0
def snS (S:Sn) (k:Tx):Sn:=JN S k (Kn S k+1)
theorem ZO3 (S:Sn) (k:Tx):(JL (YS Jo Kl S) [X.str k])=(ZR S k).map fun n=> [D.x (X.int .i64 n)]:=by
 rw[ZER Jo Kl hkS S k];rfl
theorem ZJx (S:Sn) (k:Tx) (n:Int):Yf (YS Jo Kl S) [X.str k] [D.x (X.int .i64 n)]=YS Jo Kl (JN S k n):=ZCg Jo Kl hkS S k n
def w4 (S:Sn) (t:Zi) (a:Zv):Int:=if 0<Kn S t.1∨twV t.2.1 a.2.1=true then 20 else 0
def ZHq:Tabs:=ZY (ZY (ZV) 40 KI) 67 ZDC
theorem ZL5:SsOk Tryz.prog ZHq:=ZL (ZL (ZG) (ZB ZH (p:=i40) rfl) ZJX) (ZB ZH (p:=i67) rfl) ZW1
theorem ZJ3 (a:List D):ZHq.q 40 a=KI a:=rfl
theorem ZKG (a:List D):ZHq.q 67 a=ZDC a:=rfl
theorem ZOf (f:FuncId) (a:List D) (o:List Ob):ZHq.r f a o=none:=rfl
theorem ZOR (f:FuncId) (a:List D) (o:List Ob):ZHq.k f a o=none:=rfl
theorem Zer (S:Sn) (t:Zi) (a:Zv) (hs:0≤Kn S t.1∧Kn S t.1≤1000000) (hl:a.2.1.length≤1000000):ZU Tryz.prog 66 [QA t,atD a,.ptr 0 0] [.box [.mref 1],.mpo .str false (YS Jo Kl S)] (.x (.int .i64 (w4 S t a))) [.box [.mref 1],.mpo .str false (YS Jo Kl (snS S t.1))]:=by
 have hO:([.box [.mref 1],.mpo .str false (YS Jo Kl (snS S t.1))]:List Ob).all (Ob.inP (fun i=>decide (i<([.box [.mref 1],.mpo .str false (YS Jo Kl (snS S t.1))]:List Ob).length)))=true:=by simp[Ob.inP,YY,D.inP,KN]
 have hla:decide (a.2.1.length≤1000000)=true:=ZM hl;have hg:=ZO3 S t.1;unfold w4 QA atD snS;unfold snS at hO;unfold Kn at hs hO⊢;rcases hm:ZR S t.1 with _|n
 ·rw[hm]at hg hO;simp only[Option.getD_none,Option.map_none]at hg hO⊢;have hst:Yf (YS Jo Kl S) [X.str t.1] [D.x (X.int .i64 1)]=YS Jo Kl (JN S t.1 (0+1)):=ZJx S t.1 1;refine ZN.mcallsX (ZP (fz:=true) ZH (p:=i66) rfl _ (ξ rfl) _ (fun C0 E0=> ?_)) (by first|decide|(simp;done)) hO (by first|rfl|exact hR);dsimp only[i66,qt,qi,qs,qb,qm,qa,qh,qj,qT,qF,qe,ql,qL,qf,q2,q3,q8,qz,qp,qP,qc,qk,qx,qy,qo,qr,qC,ZQ];have uu:=ZA @KI.eq_1 (ZA @KI.eq_2 (ZA @ZDC.eq_1 (ZA @ZDC.eq_2 (ZA hg (ZA hst (ZA hla (ZA @ZOf (ZA @ZOR (ZA @ZJ3 (@ZKG))))))))));have tT:=ZL5;refine nz ?_;refine rg tT [2,3,4] ?_;refine rg tT [2,3,6] ?_;refine rg tT [6] ?_;refine rg tT [5] ?_;refine lf ?_;refine⟨?_,_,rfl⟩;clear uu;grind
 ·rw[hm]at hg hO hs;simp only[Option.getD_some,Option.map_some]at hg hO hs⊢;have hst:=ZJx S t.1 (n+1);refine ZN.mcallsX (ZP (fz:=true) ZH (p:=i66) rfl _ (ξ rfl) _ (fun C0 E0=> ?_)) (by first|decide|(simp;done)) hO (by first|rfl|exact hR);dsimp only[i66,qt,qi,qs,qb,qm,qa,qh,qj,qT,qF,qe,ql,qL,qf,q2,q3,q8,qz,qp,qP,qc,qk,qx,qy,qo,qr,qC,ZQ];have uu:=ZA @KI.eq_1 (ZA @KI.eq_2 (ZA @ZDC.eq_1 (ZA @ZDC.eq_2 (ZA hg (ZA hst (ZA hla (ZA @ZOf (ZA @ZOR (ZA @ZJ3 (@ZKG))))))))));have tT:=ZL5;refine nz ?_;refine rg tT [2,3,4] ?_;refine rg tT [2,3,6] ?_;refine rg tT [6] ?_;refine rg tT [5] ?_;refine lf ?_;refine⟨?_,_,rfl⟩;clear uu;grind
def w4T:List D→List Ob→Option (Bool×D×List Ob)
 | [.agg [.x (.str n),.x (.int .i64 k),.x (.bool b)],.agg [.x (.str nm),.x (.sl R)],.ptr 0 0],[.box [.mref 1],.mpo .str false P1]=>(Ke ZJ (ZBZ .i64) P1).bind fun S=>(Zg ZJ R).bind fun l=>some (decide ((0≤Kn S n∧Kn S n≤1000000)∧l.length≤1000000),.x (.int .i64 (w4 S (n,k,b,()) (nm,l,()))),[.box [.mref 1],.mpo .str false (YS Jo Kl (snS S n))])
 |_,_=>none
theorem ZcV: ∀args os r os',w4T args os=some (true,r,os')→ZU Tryz.prog 66 args os r os':=by
 intro args os r os' h;unfold w4T at h;split at h
 ·rename_i n k b nm R P1;obtain⟨S,hm0,h⟩:=Zr h;obtain⟨l,hr0,h⟩:=Zr h;simp only[Zf,Zc,ZW,Zj,true_and]at h;obtain⟨h1,rfl,rfl⟩:=h;rw[Yo Zb (Qq .i64) hm0];rw[←ZX Zb hr0];exact Zer S (n,k,b,()) (nm,l,()) h1.1 h1.2
 ·cases h
def ZAT (e:Ky):D:= .agg [.x (.str e.1),.x (.sl (rows YP e.2.1))]
def goA (g:Zi→Zv→Int) (L:List (Tx×Zi)):List Zv→Int
 | []=>0
 |a::l=>if g (Ja L (ZD a.1)) a≠0 then g (Ja L (ZD a.1)) a else goA g L l
theorem ZBT (l:List Zv) (j:Nat) (h:j<l.length):(rows YP l)[j]? =some [X.str (l.getD j ([],[],())).1,X.sl (rows ZJ (l.getD j ([],[],())).2.1)]:=by
 simp[rows,h,YP,Jc,ZJ,rSl,ZAy]
theorem ZH1 {α:Type} (l:List α) (z:α) (j:Nat) (h:j<l.length):l.drop j=l.getD j z::l.drop (j+1):=by
 rw[List.drop_eq_getElem_cons h];simp[h]
theorem ZYw (L:List (Tx×Zi)) (M:List (Tx×Zt)) (e:Ky) (f:FuncId) (g:Zi→Zv→Int) (hen:Enters Tryz.prog f) (hg: ∀t,∀a∈e.2.1,ZC Tryz.prog f [QA t,atD a] (.x (.int .i64 (g t a)))) (hl:e.2.1.length≤1000000) (hn: ∀a∈e.2.1,a.1.length≤1000000):
  ZU Tryz.prog 69 [.ptr 0 0,ZAT e,.fn f []] (Qa L M) (.x (.int .i64 (goA g L e.2.1))) (Qa L M):=by
 obtain⟨dn,l,u⟩:=e;simp only at hg hl hn⊢;have hO:=Ql L M;have h1:=ZEd L;have h2:=ZEr M;unfold ZAT;refine ZN.mcallsX (ZP (fz:=true) ZH (p:=i69) rfl _ (ξ rfl) _ (fun C0 E0=> ?_)) (by first|decide|(simp;done)) hO (by first|rfl|exact hR);dsimp only[i69,qt,qi,qs,qb,qm,qa,qh,qj,qT,qF,qe,ql,qL,qf,q2,q3,q8,qz,qp,qP,qc,qk,qx,qy,qo,qr,qC,ZQ];have uu:=ZA @ZAI.eq_1 (ZA @ZAI.eq_2 (ZA h1 (ZA h2 (ZA @ZAK (ZA @ZAG (ZA @ZBP (ZA @ZBK (ZA @Ko (ZA @Kp (ZA @ZGZ (ZA @ZF7 (ZA @ZF6 (ZA @ZGB (ZA @ZSV (ZA @ZXx (ZA @ZR3 (@ZTJ)))))))))))))))));refine WI.seq ?_;refine WI.regB QT [0,2,4] ?_;refine oG ?_;refine oS ?_;refine oN ?_;refine ZI ?_;refine WI.seq ?_;refine WI.seq ?_;refine WI.regB QT [0,2,13,14,15] ?_;refine oS ?_
 iterate 2 refine oG ?_
 refine oS ?_;refine oN ?_;refine ZI ?_;refine WI.block ?_;refine WI.dropT (Qa L M) _ rfl (by simp) hO (by simp[D.inP,YY]) ?_;refine WI.orderA [0,2,13,14,15] ?_;refine WI.loop (fun φ os=> ∃(i:Nat),φ= [(0,.ptr 0 0),(2,.fn f []),(13,.x (.sl (rows YP l))),(14,.x (.int .i64 l.length)),(15,.x (.int .i64 i))]∧os=Qa L M∧i≤l.length∧goA g L (l.drop i)=goA g L l) (ZK l.length 15) ?_ (fun φ os hI=> ?_)
 ·exact⟨0,rfl,rfl,by omega,rfl⟩
 ·obtain⟨i,rfl,rfl,hi,hgo⟩:=hI;refine WI.seq ?_;refine WI.regB QT [0,2,13,14,15,16] ?_;refine oG ?_;refine oN ?_;refine ZI ?_;refine WI.seq ?_;refine WI.cond (b:=_) rfl rfl (fun h0=> ?_) (fun h0=> ?_)
  ·try simp only[zB]at h0
   refine WI.skip ?_;refine ZI ?_;refine WI.seq ?_;refine WI.block ?_;refine WI.seq ?_;have hi4:i<l.length:=by omega
   have hrw:=ZBT l i hi4;have hdr:=ZH1 l ([],[],()) i hi4;have hma:l.getD i ([],[],())∈l:=by rw[show l.getD i ([],[],())=l[i] by simp[hi4]];exact List.getElem_mem hi4
   generalize l.getD i ([],[],())=a at hrw hdr hma;have hna:=hn a hma;have hga:=hg (Ja L (ZD a.1)) a hma;rw[hdr,goA]at hgo;obtain⟨t,ht⟩: ∃t,t=Ja L (ZD a.1):=⟨_,rfl⟩;rw[←ht]at hga hgo;have hmc:ZU Tryz.prog f [.agg [.x (.str t.1),.x (.int .i64 t.2.1),.x (.bool t.2.2.1)],.agg [.x (.str a.1),.x (.sl (rows ZJ a.2.1))]] [.box [.mref 1,.mref 2],.mpo .str true (Km L),.mpo .str true (Kz M),.box [.x (.str a.1),.x (.sl (rows ZJ a.2.1))],.box [.x (.str t.1),.x (.int .i64 t.2.1),.x (.bool t.2.2.1)]] (.x (.int .i64 (g t a))) [.box [.mref 1,.mref 2],.mpo .str true (Km L),.mpo .str true (Kz M),.box [.x (.str a.1),.x (.sl (rows ZJ a.2.1))],.box [.x (.str t.1),.x (.int .i64 t.2.1),.x (.bool t.2.2.1)]]:=ZC.mc hga _;have uu:=ZA uu (ZA hrw (ZA ht.symm (@QA.eq_1)));refine WI.regB QT [0,2,8,13,14,15] ?_
   iterate 4 refine oG ?_
   refine oN ?_;refine ZI ?_;refine WI.seq ?_;refine WI.dregB QT [0,2,8,9,13,14,15] ?_
   iterate 5 refine Zn ?_
   refine YG ?_;refine Qi ?_;refine Zn ?_
   iterate 2 refine Ye ?_
   refine dKG ?_;refine dAG ?_;refine Zn ?_;refine dN ?_;refine ZI ?_;refine WI.seq ?_;refine WI.regB (ZCA ZG hen hmc) [0,2,11,13,14,15] ?_;refine oS ?_
   iterate 2 refine oG ?_
   refine oC ?_;refine oS ?_;refine oN ?_;refine ZI ?_;refine WI.seq ?_;refine WI.post ?_;refine WI.regB QT [0,2,11,13,14,15,34] ?_;refine oS ?_;refine oG ?_;refine oP ?_;refine ZKL (Qa L M) _ rfl (by simp) hO (by simp[D.inP,YY]) ?_;refine Je ?_;refine ZI ?_;refine WI.cond (b:=_) rfl rfl (fun h1=> ?_) (fun h1=> ?_)
   ·try simp only[zB]at h1
    refine WI.seq ?_;refine WI.regB QT [6] ?_
    iterate 2 refine oS ?_
    refine oN ?_;refine ZI ?_;refine WI.ret ?_;refine Kk ?_;refine JO ?_;refine JO ?_;refine Kk ?_;refine JO ?_
    first|refine lfR ?_|refine ZE5 ?_|refine ZDv ?_
    refine⟨?_,_,rfl⟩;rw[←hgo,if_pos (by simpa using h1)]
   ·try simp only[zB]at h1
    rw[if_neg (by simpa using h1)]at hgo;have hgo2:=hgo;refine WI.skip ?_;refine QJ ?_;refine ZI ?_;refine WI.regB QT [0,2,13,14,15] ?_;refine oG ?_;refine oS ?_;refine oN ?_;refine ZI ?_;exact⟨⟨i+1,rfl,rfl,by omega,hgo2⟩,by simp[ZK,Ab.get,D.val,ZF];omega⟩
  ·try simp only[zB]at h0
   refine WI.exit ?_;refine Jv ?_;refine Jv ?_;refine ZA2 ?_;refine ZI ?_;refine WI.seq ?_;refine WI.regB QT [6] ?_;refine oS ?_;refine oN ?_;refine ZI ?_;refine WI.ret ?_
   first|refine lfR ?_|refine ZE5 ?_|refine ZDv ?_
   rw[List.drop_of_length_le (by omega)]at hgo;refine⟨?_,[],by simp⟩;rw[←hgo];rfl
def goS (L:List (Tx×Zi)):Sn→List Zv→Int×Sn
 |S,[]=>(0,S)
 |S,a::l=>if w4 S (Ja L (ZD a.1)) a≠0 then(w4 S (Ja L (ZD a.1)) a,snS S (Ja L (ZD a.1)).1)else goS L (snS S (Ja L (ZD a.1)).1) l
abbrev sc5 (L:List (Tx×Zi)) (M:List (Tx×Zt)) (S:Sn):List Ob:= [.box [.mref 1,.mref 2],.mpo .str true (Km L),.mpo .str true (Kz M),.box [.mref 4],.mpo .str false (YS Jo Kl S)]
theorem ZLP (L:List (Tx×Zi)) (M:List (Tx×Zt)) (S:Sn):(sc5 L M S).all (Ob.inP (fun i=>decide (i<(sc5 L M S).length)))=true:=by
 simp[Ob.inP,YY,D.inP,Ko,Kp,KN]
theorem ZJz (S:Sn) (k:Tx) (v:Int) (k':Tx):ZR (JN S k v) k'=if k'=k then some v else ZR S k':=by
 induction S with
 |nil=>by_cases h:k'=k<;>simp[JN,ZR,h]
 |cons p S ih=>
  by_cases h1:k=p.1
  ·subst h1;by_cases h:k'=p.1<;>simp[JN,ZR,h]
  ·by_cases h:k'=p.1
   ·have hne: ¬p.1=k:=fun e=>h1 e.symm
    subst h;simp[JN,ZR,h1,hne]
   ·simp only[JN,ZR,h1,h,if_false,List.find?_cons,decide_false]at ih⊢;exact ih
theorem ZRH (S:Sn) (k k':Tx):Kn (snS S k) k'=if k'=k then Kn S k+1 else Kn S k':=by
 unfold Kn snS;rw[ZJz];split<;>rfl
theorem ZZw (S:Sn):Ke ZJ (ZBZ .i64) (YS Jo Kl S)=some S:=ZSN Zb (Qq .i64) S
def ZC1:Tabs:=JR (ZJV (ZV) 36 ZAI) 66 w4T
theorem ZVY:SsOk Tryz.prog ZC1:=Yl (ZIS (ZG) (ZB ZH (p:=i36) rfl) ZLm) (ZB ZH (p:=i66) rfl) ZcV
theorem ZTQ (a:List D):ZC1.q 36 a=none:=rfl
theorem ZSi (a:List D) (o:List Ob):ZC1.t 36 a o=(KV ZAI a o).map fun r=>(r.1,r.2,o):=rfl
theorem ZSY (a:List D) (o:List Ob):ZC1.r 36 a o=KV ZAI a o:=rfl
theorem ZTE (a:List D):ZC1.q 66 a=none:=rfl
theorem ZTP (a:List D) (o:List Ob):ZC1.t 66 a o=YU w4T a o:=rfl
theorem ZSF (a:List D) (o:List Ob):ZC1.r 66 a o=none:=rfl
theorem ZXL (f:FuncId) (a:List D) (o:List Ob):ZC1.k f a o=none:=rfl
theorem ZY3 (L:List (Tx×Zi)) (M:List (Tx×Zt)) (e:Ky) (S0:Sn) (hS0: ∀k,0≤Kn S0 k∧Kn S0 k≤1) (hl:e.2.1.length≤1000000) (hn: ∀a∈e.2.1,a.1.length≤1000000∧a.2.1.length≤1000000):
  ZU Tryz.prog 69 [.ptr 0 0,ZAT e,.fn 66 [.ptr 3 0]] (sc5 L M S0) (.x (.int .i64 (goS L S0 e.2.1).1)) (sc5 L M (goS L S0 e.2.1).2):=by
 obtain⟨dn,l,u⟩:=e;simp only at hl hn⊢;have hO:=ZLP L M (goS L S0 l).2;have h1:=ZEd L;have h2:=ZEr M;unfold ZAT;refine ZN.mcallsX (ZP (fz:=true) ZH (p:=i69) rfl _ (ξ rfl) _ (fun C0 E0=> ?_)) (by first|decide|(simp;done)) hO (by first|rfl|exact hR);dsimp only[i69,qt,qi,qs,qb,qm,qa,qh,qj,qT,qF,qe,ql,qL,qf,q2,q3,q8,qz,qp,qP,qc,qk,qx,qy,qo,qr,qC,ZQ];have uu:=ZA @ZAI.eq_1 (ZA @ZAI.eq_2 (ZA @w4T.eq_1 (ZA @w4T.eq_2 (ZA h1 (ZA h2 (ZA @ZZw (ZA @ZAK (ZA @ZAG (ZA @ZBP (ZA @ZBK (ZA @Ko (ZA @Kp (ZA @Ka (ZA @ZAE (ZA @KN (ZA @ZSY (ZA @ZSF (ZA @ZXL (ZA @ZTQ (ZA @ZTE (ZA @ZSi (@ZTP))))))))))))))))))))));have tT:=ZVY;refine nz ?_;refine rg tT [0,2,4] ?_;refine rg tT [0,2,13,14,15] ?_;refine WI.dropT (sc5 L M S0) _ rfl (by simp) (ZLP L M S0) (by simp[D.inP,YY]) ?_;refine WI.orderA [0,2,13,14,15] ?_;refine WI.loop (fun φ os=> ∃(i:Nat) (S:Sn),φ= [(0,.ptr 0 0),(2,.fn 66 [.ptr 3 0]),(13,.x (.sl (rows YP l))),(14,.x (.int .i64 l.length)),(15,.x (.int .i64 i))]∧os=sc5 L M S∧i≤l.length∧(∀k,0≤Kn S k∧Kn S k≤1)∧goS L S (l.drop i)=goS L S0 l) (ZK l.length 15) ?_ (fun φ os hI=> ?_)
 ·exact⟨0,S0,rfl,rfl,by omega,hS0,rfl⟩
 ·obtain⟨i,S,rfl,rfl,hi,hSi,hgo⟩:=hI;refine nz ?_;refine rg tT [0,2,13,14,15,16] ?_;refine cd (fun h0=> ?_) (fun h0=> ?_)
  ·have hi4:i<l.length:=by omega
   have hrw:=ZBT l i hi4;have hdr:=ZH1 l ([],[],()) i hi4;have hma:l.getD i ([],[],())∈l:=by rw[show l.getD i ([],[],())=l[i] by simp[hi4]];exact List.getElem_mem hi4
   generalize l.getD i ([],[],())=a at hrw hdr hma;obtain⟨hna,hna2⟩:=hn a hma;rw[hdr,goS]at hgo;obtain⟨t,ht⟩: ∃t,t=Ja L (ZD a.1):=⟨_,rfl⟩;rw[←ht]at hgo;have hdd:decide ((0≤Kn S t.1∧Kn S t.1≤1000000)∧a.2.1.length≤1000000)=true:=ZM ⟨⟨(hSi t.1).1,by have:=(hSi t.1).2;omega⟩,hna2⟩;obtain⟨tn,tk,tb,tu⟩:=t;obtain⟨an,al,au⟩:=a;have uu:=ZA uu (ZA hrw (ZA ht.symm (ZA (@QA.eq_1) hdd)));refine rg tT [0,2,8,13,14,15] ?_;refine WI.dregB tT [0,2,8,9,13,14,15] ?_
   iterate 5 refine Zn ?_
   refine YG ?_;refine Qi ?_;refine Zn ?_
   iterate 2 refine Ye ?_
   refine dKG ?_;refine dAG ?_;refine Zn ?_;refine dN ?_;refine nz ?_;refine rg tT [0,2,11,13,14,15] ?_;refine WI.post ?_;refine WI.regB tT [0,2,11,13,14,15,34] ?_;refine oS ?_;refine oG ?_;refine oP ?_;refine ZKL (sc5 L M (snS S tn)) _ rfl (by simp) (ZLP L M _) (by simp[D.inP,YY]) ?_;refine Je ?_;refine nz ?_;refine cd (fun h1=> ?_) (fun h1=> ?_)
   ·refine rg tT [6] ?_;refine lf ?_;rw[if_pos (by simpa using h1)]at hgo;rw[←hgo];exact⟨rfl,_,rfl⟩
   ·rw[if_neg (by simpa using h1)]at hgo;have hgo2:=hgo;have hw0:w4 S (tn,tk,tb,tu) (an,al,au)=0:=by simpa using h1
    have hSn: ∀k,0≤Kn (snS S tn) k∧Kn (snS S tn) k≤1:=fun k=>by
     rw[ZRH];have hz: ¬0<Kn S tn:=fun hh=>by unfold w4 at hw0;rw[if_pos (.inl hh)]at hw0;simp at hw0
     have:=hSi k;have:=hSi tn;split<;>omega
    refine rg tT [0,2,13,14,15] ?_;exact⟨⟨i+1,_,rfl,rfl,by omega,hSn,hgo2⟩,by simp[ZK,Ab.get,D.val,ZF];omega⟩
  ·refine rg tT [6] ?_;refine lf ?_;rw[List.drop_of_length_le (by omega)]at hgo;rw[←hgo];exact⟨rfl,[],by simp[goS]⟩
end Go.Proofs.YtpjfdjcejamebaaGreatDoor
end
