import Derived.Test.YtpjfdjcejamebaaGreatDoorLA5
import Derived.Test.YtpjfdjcejamebaaGreatDoorIc
import Derived.Test.YtpjfdjcejamebaaGreatDoorSh
import Derived.Handy
import Derived.Lib.SlBytesConst
import Derived.Shelf.Strings.Cut
import Derived.Lib.SplitLaws
import Derived.Lib.Join
set_option linter.unusedSimpArgs false
set_option linter.unusedVariables false
section
namespace Go.Proofs.YtpjfdjcejamebaaGreatDoor
open Go.RowKit Go.Bo Go.Ab
def Js (c:UInt8):UInt8:=if 65≤c.toNat∧c.toNat≤90 then UInt8.ofNat (c.toNat+32)else c
theorem ZFj {c:UInt8} (h:65≤c.toNat∧c.toNat≤90):((Js c).toNat:Int)=(c.toNat:Int)-65+97:=by
 unfold Js;rw[if_pos h];simp;omega
def ZB (s:List UInt8):List UInt8:=s.map Js
def Qd (s:List UInt8) (i:Nat):List UInt8:=(s.take i).map Js++s.drop i
theorem ZGj (s:List UInt8) (i:Nat):(Qd s i).length=s.length:=by simp[Qd];omega
theorem ZUP (s:List UInt8):Qd s 0=s:=by simp[Qd]
theorem ZYy (s:List UInt8) (i:Nat) (h:s.length≤i):Qd s i=ZB s:=by simp[Qd,ZB,YL h,List.drop_of_length_le h]
theorem ZYt (s:List UInt8) (i:Nat) (h:i<s.length):(Qd s i)[i]'(by rw[ZGj];exact h)=s[i]:=by
 simp[Qd,List.getElem_append,Nat.min_eq_left (Nat.le_of_lt h)]
theorem ZYo (s:List UInt8) (i:Nat) (h:i<s.length) (c:UInt8) (hc:c=Js s[i]):(Qd s i).set i c=Qd s (i+1):=by
 subst hc;unfold Qd;rw[List.take_succ_eq_append_getElem h,List.drop_eq_getElem_cons h,List.set_append_right _ _ (by simp;omega)];have hm:i-((s.take i).map Js).length=0:=by simp;omega
 rw[hm,List.set_cons_zero,List.map_append,List.append_assoc];rfl
theorem ZaM (s:List UInt8) (i:Nat) (h:i<s.length):((Qd s i).map Zl)[i]? =some [X.int .u8 s[i].toNat]:=by
 have h2:i<(Qd s i).length:=by rw[ZGj];exact h
 rw[YA,YC h2,ZYt s i h];rfl
theorem ZUz (s:List UInt8) (i:Nat) (h:i<s.length) (hc:65≤s[i].toNat∧s[i].toNat≤90):((Qd s i).map Zl).set i [X.int .u8 (IntKind.u8.wrap (IntKind.u8.wrap ((s[i].toNat:Int)-65)+97))]=(Qd s (i+1)).map Zl:=by
 have e1:IntKind.u8.wrap ((s[i].toNat:Int)-65)=(s[i].toNat:Int)-65:=IntWalk.u8_in _ (by omega);have e2:IntKind.u8.wrap ((s[i].toNat:Int)-65+97)=((Js s[i]).toNat:Int):=by rw[IntWalk.u8_in _ (by omega),ZFj hc]
 rw[e1,e2,←ZYo s i h _ rfl,List.map_set];rfl
theorem ZUL (s:List UInt8) (i:Nat) (h:i<s.length) (hc:Js s[i]=s[i]):Qd s i=Qd s (i+1):=by
 unfold Qd;rw[List.take_succ_eq_append_getElem h,List.map_append,List.append_assoc,List.drop_eq_getElem_cons h];simp[hc]
theorem ZCH {c:UInt8} (h: ¬(65≤c.toNat∧c.toNat≤90)):Js c=c:=if_neg h
theorem ZLA (s:List UInt8) (hl:s.length≤140737488355328):ZD Tryz.prog 37 [.x (.str s)] (.x (.str (ZB s))):=by
 refine ZN.pure (ZO (fz:=true) ZH (p:=i37) rfl _ (ξ rfl) _ (fun C0 E0=> ?_)) rfl;dsimp only[i37,qt,qi,qs,qb,qm,qa,qh,qj,qT,qF,qe,ql,qL,qf,q2,q3,q8,qz,qp,qP,qc,qk,qx,qy,qo,qr,qC,ZQ];have uu:=ZA @ZGj (ZA @YV (@Jh));have tT:=(ZG:SsOk Tryz.prog ZW);refine nz ?_;refine rg tT [0] ?_;refine rg tT [3] ?_;refine rg tT [3,8,9,10] ?_;refine WI.loop (fun φ os=> ∃(i:Nat),φ= [(3,.ref 0 s.length 0 s.length),(8,.ref 0 s.length 0 s.length),(9,.x (.int .i64 s.length)),(10,.x (.int .i64 i))]∧os= [.rows true 5 1 ((Qd s i).map Zl)]∧i≤s.length) (ZK s.length 10) ?_ (fun φ os hI=> ?_)
 ·exact⟨0,rfl,by rw[ZUP],by omega⟩
 ·obtain⟨i,rfl,rfl,hi⟩:=hI;refine nz ?_;refine rg tT [3,8,9,10,11] ?_;refine cd (fun h0=> ?_) (fun h0=> ?_)
  ·have hi4:i<s.length:=by omega
   have uu:=ZA uu (ZaM s i hi4);have hb8:s[i].toNat<256:=UInt8.toNat_lt _;refine rg tT [3,4,5,8,9,10] ?_;refine rg tT [3,4,5,8,9,10,20] ?_;refine cd (fun h1=> ?_) (fun h1=> ?_)
   ·have hcs:65≤s[i].toNat∧s[i].toNat≤90:=by omega
    have uu:=ZA uu (ZUz s i hi4 hcs);refine rg tT [3,8,9,10] ?_;refine rg tT [3,8,9,10] ?_;exact⟨⟨i+1,by first|rfl|simp,by first|rfl|rw[←hset],by omega⟩,by simp[ZK,Ab.get,D.val,ZE];omega⟩
   ·have hcs: ¬(65≤s[i].toNat∧s[i].toNat≤90):=by omega
    have hset:=ZUL s i hi4 (ZCH hcs);refine rg tT [3,8,9,10] ?_;exact⟨⟨i+1,by first|rfl|simp,by first|rfl|rw[←hset],by omega⟩,by simp[ZK,Ab.get,D.val,ZE];omega⟩
  ·have e8:((Qd s i).map Zl).take s.length=(ZB s).map Zl:=by rw[YL (by simp[ZGj]),ZYy s i (by omega)]
   have uu:=ZA uu e8;refine rg tT [2] ?_;refine lf ?_
   first|rfl|exact⟨rfl,rfl⟩|trivial
def ZAC:List D→Option (Bool×D)
 | [.x (.str s)]=>some (decide (s.length≤1000000),.x (.str (ZB s)))
 |_=>none
theorem ZL0: ∀args r,ZAC args=some (true,r)→ZD Tryz.prog 37 args r:=by
 intro args r h;unfold ZAC at h;split at h
 ·rename_i s;simp only[Zg,Ze,ZY,Zi,true_and]at h;obtain⟨h1,rfl⟩:=h;exact(ZLA s (by omega))
 ·cases h
theorem Qp (s:List UInt8):(ZB s).length=s.length:=by simp[ZB]
theorem ZVG (s:List UInt8) (i:Nat) (h:i<s.length):ZB (s.take (i+1))=ZB (s.take i)++ [Js (s.getD i 0)]:=by
 rw[show s.getD i 0=s[i] by simp[h]];unfold ZB;rw[List.take_succ_eq_append_getElem h,List.map_append];rfl
theorem YB (l:List UInt8) (c:UInt8):(l++ [c]).map Zl=l.map Zl++ [[X.int .u8 c.toNat]]:=by rw[List.map_append];rfl
theorem ZWd {c:UInt8} (h:65≤c.toNat∧c.toNat≤90):IntKind.u8.wrap ((c.toNat:Int)+32)=((Js c).toNat:Int):=by
 have:=UInt8.toNat_lt c;rw[IntWalk.u8_in _ (by omega),ZFj h];omega
theorem ZG4 (s:List UInt8) (hl:s.length≤140737488355328):ZD Tryz.prog 32 [.x (.str s)] (.x (.str (ZB s))):=by
 refine ZN.pure (ZO (fz:=true) ZH (p:=i32) rfl _ (ξ rfl) _ (fun C0 E0=> ?_)) rfl;dsimp only[i32,qt,qi,qs,qb,qm,qa,qh,qj,qT,qF,qe,ql,qL,qf,q2,q3,q8,qz,qp,qP,qc,qk,qx,qy,qo,qr,qC,ZQ];have uu:=ZA @YV (@Jh);have tT:=(ZG:SsOk Tryz.prog ZW);refine nz ?_;refine WI.regB tT [0] ?_;refine oS ?_;refine oN ?_;refine nz ?_;refine WI.regB tT [0,3] ?_;refine oS ?_;refine oN ?_;refine nz ?_;refine WI.regB tT [0,3,4] ?_;refine oS ?_;refine oN ?_;refine nz ?_;refine WI.ownA 3 5 1 ?_;refine WI.loop (fun φ os=> ∃(i:Nat),φ= [(0,.x (.str s)),(3,.ref 0 (ZB (s.take i)).length 0 (ZB (s.take i)).length),(4,.x (.int .i64 i))]∧os= [.rows false 5 1 ((ZB (s.take i)).map Zl)]∧i≤s.length) (ZK s.length 4) ?_ (fun φ os hI=> ?_)
 ·exact⟨0,rfl,rfl,by omega⟩
 ·obtain⟨i,rfl,rfl,hi⟩:=hI;refine nz ?_;refine WI.regB tT [0,3,4,9] ?_
  iterate 2 refine oS ?_
  iterate 2 refine oG (hok:=by first|exact se|(exact ZM (by omega))|(rw[YL (by simp)];exact YV _)|exact sd) ?_
  refine oN ?_;refine nz ?_;refine cd (fun h0=> ?_) (fun h0=> ?_)
  ·have hi4:i<s.length:=by omega
   have hlt:(ZB (s.take i)).length+1≤140737488355328:=by rw[Qp,List.length_take];omega
   have hst:=ZVG s i hi4;have hb8:(s.getD i 0).toNat<256:=UInt8.toNat_lt _;refine WI.regB tT [0,3,4,5] ?_
   iterate 2 refine oS ?_
   refine oG (hok:=by first|exact se|(exact ZM (by omega))|(rw[YL (by simp)];exact YV _)|exact sd) ?_;refine oS ?_;refine oN ?_;refine nz ?_;refine WI.regB tT [0,3,4,5,20] ?_;refine oS ?_;refine oG (hok:=by first|exact se|(exact ZM (by omega))|(rw[YL (by simp)];exact YV _)|exact sd) ?_;refine oS ?_
   iterate 3 refine oG (hok:=by first|exact se|(exact ZM (by omega))|(rw[YL (by simp)];exact YV _)|exact sd) ?_
   refine oN ?_;refine nz ?_;refine cd (fun h1=> ?_) (fun h1=> ?_)
   ·have hcs:65≤(s.getD i 0).toNat∧(s.getD i 0).toNat≤90:=by omega
    refine WI.regB tT [0,3,4,5] ?_;refine oS ?_;refine oG (hok:=by first|exact se|(exact ZM (by omega))|(rw[YL (by simp)];exact YV _)|exact sd) ?_;refine oS ?_;refine oN ?_;refine nz ?_;refine WI.regB tT [0,3,4] ?_
    iterate 2 refine oS ?_
    iterate 2 refine oG (hok:=by first|exact se|(exact ZM (by omega))|(rw[YL (by simp)];exact YV _)|exact sd) ?_
    refine oS ?_;refine oN ?_;refine nz ?_;refine WI.post ?_;refine WI.regB tT [0,3,4] ?_;refine oS ?_;refine oG (hok:=by first|exact se|(exact ZM (by omega))|(rw[YL (by simp)];exact YV _)|exact sd) ?_;refine oS ?_;refine oP ?_;refine Yo [0] ?_;refine JR ?_;refine nz ?_;exact⟨⟨i+1,by rw[hst,Zr];rfl,by rw[hst,YB];first|rfl|rw[ZCH hcs]|rw[ZWd hcs],by omega⟩,by simp[ZK,Ab.get,D.val,ZE];omega⟩
   ·have hcs: ¬(65≤(s.getD i 0).toNat∧(s.getD i 0).toNat≤90):=by omega
    refine WI.regB tT [0,3,4] ?_
    iterate 2 refine oS ?_
    iterate 2 refine oG (hok:=by first|exact se|(exact ZM (by omega))|(rw[YL (by simp)];exact YV _)|exact sd) ?_
    refine oS ?_;refine oN ?_;refine nz ?_;refine WI.post ?_;refine WI.regB tT [0,3,4] ?_;refine oS ?_;refine oG (hok:=by first|exact se|(exact ZM (by omega))|(rw[YL (by simp)];exact YV _)|exact sd) ?_;refine oS ?_;refine oP ?_;refine Yo [0] ?_;refine JR ?_;refine nz ?_;exact⟨⟨i+1,by rw[hst,Zr];rfl,by rw[hst,YB];first|rfl|rw[ZCH hcs]|rw[ZWd hcs],by omega⟩,by simp[ZK,Ab.get,D.val,ZE];omega⟩
  ·have e8:((ZB (s.take i)).map Zl).take (ZB (s.take i)).length=(ZB s).map Zl:=by rw[YL (by simp),YL (by omega)]
   have uu:=ZA uu e8;refine WI.regB tT [2] ?_;refine oS ?_;refine oG (hok:=by first|exact se|(exact ZM (by omega))|(rw[YL (by simp)];exact YV _)|exact sd) ?_;refine oS ?_;refine oN ?_;refine nz ?_;refine lf ?_
   first|rfl|exact⟨rfl,rfl⟩|trivial
def ZAI:List D→Option (Bool×D)
 | [.x (.str s)]=>some (decide (s.length≤1000000),.x (.str (ZB s)))
 |_=>none
theorem ZJy: ∀args r,ZAI args=some (true,r)→ZD Tryz.prog 32 args r:=by
 intro args r h;unfold ZAI at h;split at h
 ·rename_i s;simp only[Zg,Ze,ZY,Zi,true_and]at h;obtain⟨h1,rfl⟩:=h;exact(ZG4 s (by omega))
 ·cases h
abbrev Tx:=List UInt8
def inB (s:Tx) (n:Nat):Bool:=s.any fun x=>x.toNat==n
theorem ZOz (s:Tx) (i:Nat) (h:i<s.length):(s.map Zl)[i]? =some [X.int .u8 (s.getD i 0).toNat]:=by
 simp[h,Zl]
theorem ZdP (s:Tx) (n:Nat) (hl:s.length≤1000000):ZD Tryz.prog 202 [.x (.str s),.x (.int .u8 n)] (.x (.bool (inB s n))):=by
 refine ZN.pure (ZO (fz:=true) ZH (p:=ZLC) rfl _ (ξ rfl) _ (fun C0 E0=> ?_)) rfl;dsimp only[ZLC,qt,qi,qs,qb,qm,qa,qh,qj,qT,qF,qe,ql,qL,qf,q2,q3,q8,qz,qp,qP,qc,qk,qx,qy,qo,qr,qC,ZQ];have uu:=ZA @YV (@Jh);have tT:=(ZG:SsOk Tryz.prog ZW);refine nz ?_;refine rg tT [0,1] ?_;refine rg tT [1,8,9,10] ?_;refine WI.loop (fun φ os=> ∃(j:Nat),φ= [(1,.x (.int .u8 n)),(8,.ref 0 s.length 0 s.length),(9,.x (.int .i64 s.length)),(10,.x (.int .i64 j))]∧os= [.rows true 5 1 (s.map Zl)]∧j≤s.length∧inB (s.take j) n=false) (ZK s.length 10) ?_ (fun φ os hI=> ?_)
 ·exact⟨0,rfl,rfl,by omega,rfl⟩
 ·obtain⟨j,rfl,rfl,hj,hno⟩:=hI;refine nz ?_;refine rg tT [1,8,9,10,11] ?_;refine cd (fun h0=> ?_) (fun h0=> ?_)
  ·have hj4:j<s.length:=by omega
   have hst:inB (s.take (j+1)) n=(inB (s.take j) n||((s.getD j 0).toNat==n)):=by unfold inB;rw[List.take_succ_eq_append_getElem hj4,List.any_append];simp[hj4]
   have uu:=ZA uu (ZOz s j hj4);refine rg tT [1,6,8,9,10] ?_;refine rg tT [1,8,9,10,16] ?_;refine cd (fun h1=> ?_) (fun h1=> ?_)
   ·refine rg tT [4] ?_;refine lf ?_;have hz:((s.getD j 0).toNat:Int)=n:=by first|exact h1|simpa only[beq_iff_eq]using h1
    have hy:(s.getD j 0).toNat=n:=by omega
    rw[show inB s n=true from List.any_eq_true.2 ⟨s[j],List.getElem_mem hj4,by rw[show s[j]=s.getD j 0 by simp[hj4]];simpa using hy⟩]
   ·refine rg tT [1,8,9,10] ?_;exact⟨⟨j+1,rfl,rfl,by omega,by rw[hst,hno];exact beq_false_of_ne (fun e=>h1 (by rw[e]))⟩,by simp[ZK,Ab.get,D.val,ZE];omega⟩
  ·refine rg tT [4] ?_;refine lf ?_;rw[YL (by omega)]at hno;rw[hno]
def ZAQ:List D→Option (Bool×D)
 | [.x (.str s),.x (.int .u8 n)]=>some (decide (s.length≤1000000)&&(decide (0≤n)),.x (.bool (inB s n.toNat)))
 |_=>none
theorem ZI8: ∀args r,ZAQ args=some (true,r)→ZD Tryz.prog 202 args r:=by
 intro args r h;unfold ZAQ at h;split at h
 ·rename_i s n;simp only[Zg,Ze,ZY,Zi,true_and]at h;obtain⟨⟨h1,h2⟩,rfl⟩:=h;exact(by obtain⟨m,rfl⟩: ∃m:Nat,n=m:=⟨n.toNat,by omega⟩;rw[Int.toNat_natCast];exact ZdP s m h1)
 ·cases h
def KP (n:Nat):Nat:=if 48≤n∧n≤57 then n-48 else if 97≤n∧n≤102 then n-97+10 else if 65≤n∧n≤70 then n-65+10 else 16
def Qz (n:Nat):Nat×Bool:=if KP n<16 then(KP n,true)else(0,false)
def ZCG:List UInt8:= [48,49,50,51,52,53,54,55,56,57,97,98,99,100,101,102]
def ZJK (d c:Nat):Bool:=d==c||(decide (65≤c∧c≤70)&&d==c+32)
theorem Zb1: ∀(k:Fin 16) (c:Fin 256),ZJK (ZCG.getD k.val 0).toNat c.val=true→Qz c.val=(k.val,true):=by decide+kernel
theorem ZYr: ∀c:Fin 256,(∀k:Fin 16,ZJK (ZCG.getD k.val 0).toNat c.val=false)→Qz c.val=(0,false):=by decide+kernel
theorem Zbi (c:Nat) (hc:c<256) (h: ∀k,k<16→ZJK (ZCG.getD k 0).toNat c=false):Qz c=(0,false):=ZYr ⟨c,hc⟩ (fun k=>h k.val k.isLt)
theorem Ze8 (n:Nat) (hn:n<256):ZD Tryz.prog 205 [.x (.int .u8 n)] (.x (.int .i64 (KP n))):=by
 refine ZN.pure (ZO (fz:=true) ZH (p:=ZTh) rfl _ (ξ rfl) _ (fun C0 E0=> ?_)) rfl;dsimp only[ZTh,qt,qi,qs,qb,qm,qa,qh,qj,qT,qF,qe,ql,qL,qf,q2,q3,q8,qz,qp,qP,qc,qk,qx,qy,qo,qr,qC,ZQ];have uu:=trivial;have tT:=(ZG:SsOk Tryz.prog ZW);refine nz ?_;refine rg tT [0] ?_;refine rg tT [0,3] ?_;refine cd (fun h0=> ?_) (fun h0=> ?_)
 ·refine rg tT [2] ?_;refine lf ?_;rw[KP,if_pos (by omega)];congr 2;omega
 ·refine rg tT [0,13] ?_;refine cd (fun h1=> ?_) (fun h1=> ?_)
  ·refine rg tT [2] ?_;refine lf ?_;rw[KP,if_neg (by omega),if_pos (by omega)];congr 2;omega
  ·refine rg tT [0,24] ?_;refine cd (fun h2=> ?_) (fun h2=> ?_)
   ·refine rg tT [2] ?_;refine lf ?_;rw[KP,if_neg (by omega),if_neg (by omega),if_pos (by omega)];congr 2;omega
   ·refine rg tT [2] ?_;refine lf ?_;rw[KP,if_neg (by omega),if_neg (by omega),if_neg (by omega)];rfl
def ZLR:List D→Option (Bool×D)
 | [.x (.int .u8 n)]=>some (decide (0≤n∧n<256),.x (.int .i64 (KP n.toNat)))
 |_=>none
theorem Zcm: ∀args r,ZLR args=some (true,r)→ZD Tryz.prog 205 args r:=by
 intro args r h;unfold ZLR at h;split at h
 ·rename_i n;simp only[Zg,Ze,ZY,Zi,true_and]at h;obtain⟨h1,rfl⟩:=h;exact(by obtain⟨m,rfl⟩: ∃m:Nat,n=m:=⟨n.toNat,by omega⟩;rw[Int.toNat_natCast];exact Ze8 m (by omega))
 ·cases h
def Zdg:Tx:= [44,43,34,92,60,62,59,61]
def spc (n:Nat):Bool:=inB Zdg n
theorem Zdz (n:Nat):spc n=(decide ((n:Int)=44)||(decide ((n:Int)=43)||(decide ((n:Int)=34)||(decide ((n:Int)=92)||(decide ((n:Int)=60)||(decide ((n:Int)=62)||(decide ((n:Int)=59)||decide ((n:Int)=61)))))))):=by
 unfold spc inB Zdg;rw[Bool.eq_iff_iff];simp only[List.any_cons,List.any_nil,Bool.or_eq_true,beq_iff_eq,Zi,Bool.or_false,UInt8.reduceToNat];omega
theorem ZUZ (n:Nat):ZD Tryz.prog 204 [.x (.int .u8 n)] (.x (.bool (spc n))):=by
 have hq:=Zdz n;refine ZN.pure (ZO (fz:=true) ZH (p:=ZPH) rfl _ (ξ rfl) _ (fun C0 E0=> ?_)) rfl;dsimp only[ZPH,qt,qi,qs,qb,qm,qa,qh,qj,qT,qF,qe,ql,qL,qf,q2,q3,q8,qz,qp,qP,qc,qk,qx,qy,qo,qr,qC,ZQ];have uu:=trivial;have tT:=(ZG:SsOk Tryz.prog ZW);refine nz ?_;refine rg tT [0] ?_;refine rg tT [2] ?_;refine lf ?_;clear uu;congr 2;rw[hq];grind
def QS:List D→Option (Bool×D)
 | [.x (.int .u8 n)]=>some (decide (0≤n),.x (.bool (spc n.toNat)))
 |_=>none
theorem ZI2: ∀args r,QS args=some (true,r)→ZD Tryz.prog 204 args r:=by
 intro args r h;unfold QS at h;split at h
 ·rename_i n;simp only[Zg,Ze,ZY,Zi,true_and]at h;obtain⟨h1,rfl⟩:=h;exact(by obtain⟨m,rfl⟩: ∃m:Nat,n=m:=⟨n.toNat,by omega⟩;rw[Int.toNat_natCast];exact ZUZ m)
 ·cases h
def ZIG (n:Nat) (first:Bool):Bool:=decide (n<32)||decide (n=127)||(decide (n≠61)&&spc n)||(first&&decide (n=35))
def ZKX:Tabs:=Za (ZW) 202 ZAQ
theorem ZUW:SsOk Tryz.prog ZKX:=ZL (ZG) (ZC ZH (p:=ZLC) rfl) ZI8
theorem ZPQ (a:List D):ZKX.q 202 a=ZAQ a:=rfl
theorem ZXv (f:FuncId) (a:List D) (o:List Ob):ZKX.r f a o=none:=rfl
theorem ZZS (f:FuncId) (a:List D) (o:List Ob):ZKX.k f a o=none:=rfl
theorem ZZ9 (n:Nat) (b:Bool):ZD Tryz.prog 228 [.x (.int .u8 n),.x (.bool b)] (.x (.bool (ZIG n b))):=by
 have hq:inB [44,43,34,92,60,62,59,61] n=spc n:=rfl;refine ZN.pure (ZO (fz:=true) ZH (p:=ZRv) rfl _ (ξ rfl) _ (fun C0 E0=> ?_)) rfl;dsimp only[ZRv,qt,qi,qs,qb,qm,qa,qh,qj,qT,qF,qe,ql,qL,qf,q2,q3,q8,qz,qp,qP,qc,qk,qx,qy,qo,qr,qC,ZQ];have uu:=ZA @ZAQ.eq_1 (ZA @ZAQ.eq_2 (ZA hq (ZA @ZXv (ZA @ZZS (@ZPQ)))));have tT:=ZUW;refine nz ?_;refine rg tT [0,1] ?_;refine rg tT [4] ?_;refine lf ?_;clear uu;unfold ZIG;congr 2;grind
def ZDg:List D→Option (Bool×D)
 | [.x (.int .u8 n),.x (.bool b)]=>some (decide (0≤n),.x (.bool (ZIG n.toNat b)))
 |_=>none
theorem ZRu: ∀args r,ZDg args=some (true,r)→ZD Tryz.prog 228 args r:=by
 intro args r h;unfold ZDg at h;split at h
 ·rename_i n b;simp only[Zg,Ze,ZY,Zi,true_and]at h;obtain⟨h1,rfl⟩:=h;exact(by obtain⟨m,rfl⟩: ∃m:Nat,n=m:=⟨n.toNat,by omega⟩;rw[Int.toNat_natCast];exact ZZ9 m b)
 ·cases h
def ZMw:Value→Int
 | .int _ n=>n
 |_=>0
def ZSi:Array Value:= #[.int .u8 48,.int .u8 49,.int .u8 50,.int .u8 51,.int .u8 52,.int .u8 53,.int .u8 54,.int .u8 55,.int .u8 56,.int .u8 57,.int .u8 97,.int .u8 98,.int .u8 99,.int .u8 100,.int .u8 101,.int .u8 102]
theorem Zak (c:Nat) (h1:65≤c) (h2:c≤70):IntKind.u8.wrap (IntKind.u8.wrap ((c:Int)-65)+97)=((c+32:Nat):Int):=by
 rw[IntWalk.u8_in ((c:Int)-65) (by omega),IntWalk.u8_in _ (by omega)];omega
set_option maxHeartbeats 4000000 in
set_option maxRecDepth 100000 in
theorem ZTZ (c:Nat) (w:World) (hc:c<256):
  Calls Tryz.prog 238 #[.int .u8 c] w fun e w'=>e= .returned (.tuple #[.int .u8 (Qz c).1,.bool (Qz c).2])∧Below w.heap.size w w':=by
 have kc:=fun(w:World) (C:Array Value) (n c:Nat)=>Lib.run_convert_bytes_const (P:=Tryz.prog) w 114 5 C n c Tryz.underlying114 Tryz.underlying5
 go_enter Tryz.func238,Tryz.ntmps238
 go_wp2_with fail
 go_loopw [9] (fun i wr=> ∃(k:Nat),k≤16∧i= .int .i64 k∧wr=w.alloc (.cells ZSi 5 (16,17))∧ ∀m,m<k→ZJK (ZCG.getD m 0).toNat c=false) (fun i _=>16-(ZMw i).toNat)
 case atStart=>exact⟨0,by omega,rfl,rfl,by intro m hm;omega⟩
 case round=>
  obtain⟨k,hk,rfl,rfl,hno⟩:=hrel;have hcell: ∀m:Fin 16,(w.alloc (.cells ZSi 5 (16,17))).cell? ⟨w.heap.size,m.val,none⟩=some (.int .u8 (ZCG.getD m.val 0).toNat):=by
   intro m;have hb:(w.alloc (.cells ZSi 5 (16,17))).heap[w.heap.size]? =some (.cells ZSi 5 (16,17)):=by
    show(w.heap.push _)[w.heap.size]? =_;simp
   rw[Lib.cell_of_heap hb]
   revert m;intro m;rcases m with⟨m,hm⟩;(repeat(rcases m with _|m;rfl));omega
  by_cases hlt:k<16
  ·have hc1:=hcell ⟨k,hlt⟩;have hat:=Zb1 ⟨k,hlt⟩ ⟨c,hc⟩;simp only at hc1 hat;cases hq:ZJK (ZCG.getD k 0).toNat c with
   |true=>
    have hat:=hat hq;have hk1:IntKind.u8.wrap (k:Int)=(k:Int):=IntWalk.u8_in _ (by omega);clear hno hcell;unfold ZJK at hq;generalize(ZCG.getD k 0).toNat=d at hc1 hq;by_cases h1:d=c
    ·subst h1
     go_wp2_with fail
     all_goals first|exact bodyPost_ret (v:= .tuple #[.int .u8 (k:Int),.bool true]) (by simp[results,Tryz.results238,go_sem]) rfl ⟨by rw[hat],(Below.refl _ w).alloc (Nat.le_refl _) _⟩|(exfalso;rename_i hx;revert hx;simp<;>omega)|(exfalso;revert q1;simp;done)|(exfalso;revert q4;simp only[hw]at*;simp_all<;>omega)|(exfalso;revert hq;simp<;>omega)
    ·have h2:65≤c∧c≤70∧d=c+32:=by simp[h1]at hq;omega
     obtain⟨h21,h22,rfl⟩:=h2;have hw:=Zak c h21 h22;have q1:decide (((c+32:Nat):Int)=(c:Int))=false:=decide_eq_false (by omega);have q2:decide ((c:Int)≥65)=true:=ZM (by omega);have q3:decide ((c:Int)≤70)=true:=ZM (by omega)
     go_wp2_with fail
     all_goals first|exact bodyPost_ret (v:= .tuple #[.int .u8 (k:Int),.bool true]) (by simp[results,Tryz.results238,go_sem]) rfl ⟨by rw[hat],(Below.refl _ w).alloc (Nat.le_refl _) _⟩|(exfalso;rename_i hx;revert hx;simp<;>omega)|(exfalso;revert q1;simp;done)|(exfalso;revert q4;simp only[hw]at*;simp_all<;>omega)|(exfalso;revert hq;simp<;>omega)
   |false=>
    have hq':=hq;unfold ZJK at hq;generalize(ZCG.getD k 0).toNat=d at hc1 hq;have q1:decide ((d:Int)=(c:Int))=false:=decide_eq_false (by simp at hq;omega);clear hcell hat;by_cases h1:65≤c
    ·by_cases h2:c≤70
     ·have hw:=Zak c h1 h2;have q2:decide ((c:Int)≥65)=true:=ZM (by omega);have q3:decide ((c:Int)≤70)=true:=ZM (by omega);have q4:decide ((d:Int)=((c+32:Nat):Int))=false:=decide_eq_false (by simp[h1,h2]at hq;omega)
      go_wp2_with fail
      all_goals first|exact⟨⟨k+1,by omega,by first|rfl|simp,trivial,fun m hm=>if h:m=k then by subst h;exact hq' else hno m (by omega)⟩,by simp[ZMw];omega⟩|(exfalso;rename_i hx;revert hx;simp<;>omega)|(exfalso;revert q1;simp;done)|(exfalso;revert q4;simp only[hw]at*;simp_all<;>omega)|(exfalso;revert hq;simp<;>omega)
     ·have q2:decide ((c:Int)≥65)=true:=ZM (by omega);have q3:decide ((c:Int)≤70)=false:=decide_eq_false (by omega)
      go_wp2_with fail
      all_goals first|exact⟨⟨k+1,by omega,by first|rfl|simp,trivial,fun m hm=>if h:m=k then by subst h;exact hq' else hno m (by omega)⟩,by simp[ZMw];omega⟩|(exfalso;rename_i hx;revert hx;simp<;>omega)|(exfalso;revert q1;simp;done)|(exfalso;revert q4;simp only[hw]at*;simp_all<;>omega)|(exfalso;revert hq;simp<;>omega)
    ·have q2:decide ((c:Int)≥65)=false:=decide_eq_false (by omega)
     go_wp2_with fail
     all_goals first|exact⟨⟨k+1,by omega,by first|rfl|simp,trivial,fun m hm=>if h:m=k then by subst h;exact hq' else hno m (by omega)⟩,by simp[ZMw];omega⟩|(exfalso;rename_i hx;revert hx;simp<;>omega)|(exfalso;revert q1;simp;done)|(exfalso;revert q4;simp only[hw]at*;simp_all<;>omega)|(exfalso;revert hq;simp<;>omega)
  ·obtain rfl:k=16:=by omega
   have hnn:=Zbi c hc hno;clear hno hcell
   go_wp2_with fail
   exact bodyPost_ret (v:= .tuple #[.int .u8 0,.bool false]) (by simp[results,Tryz.results238,go_sem]) rfl ⟨by rw[hnn];rfl,(Below.refl _ w).alloc (Nat.le_refl _) _⟩
theorem Zb7 (n:Nat) (hn:n<256):ZD Tryz.prog 238 [.x (.int .u8 n)] (.tup [.x (.int .u8 (Qz n).1),.x (.bool (Qz n).2)]):=by
 intro w st vs hst hvl;obtain⟨hsz,hv⟩:=hvl;obtain⟨v0,rfl⟩: ∃v0,vs= #[v0]:=by
  obtain⟨vl⟩:=vs
  match vl,hsz with
  | [a],_=>exact⟨a,rfl⟩
 have h0:=hv 0 _ v0 rfl rfl;cases h0 with
 |x h0=>
 cases h0 with
 |int _ _=>
 refine(ZTZ n w hn).mono ?_;rintro e w' ⟨rfl,hb⟩;exact⟨_,st,rfl,⟨hb.os,hb.tape,hb.output,hb.size,fun k hk _=>hb.block k hk⟩,fun _ _ h=>h,fun _ _ h=> .inl h,V.tup2 (.x (.int _ _)) _⟩
theorem ZNQ:Go.Ab.Enters Tryz.prog 238:=enters_of Tryz.func238 (by kernel_rfl) rfl
def ZFG:List D→Option (Bool×D)
 | [.x (.int .u8 n)]=>some (decide (0≤n∧n<256),.tup [.x (.int .u8 (Qz n.toNat).1),.x (.bool (Qz n.toNat).2)])
 |_=>none
theorem ZW5: ∀args r,ZFG args=some (true,r)→ZD Tryz.prog 238 args r:=by
 intro args r h;unfold ZFG at h;split at h
 ·rename_i n;simp only[Zg,Ze,ZY,Zi,true_and]at h;obtain⟨h1,rfl⟩:=h;exact(by obtain⟨m,rfl⟩: ∃m:Nat,n=m:=⟨n.toNat,by omega⟩;rw[Int.toNat_natCast];exact Zb7 m (by omega))
 ·cases h
def QE (s:Tx):Tx:=s.dropWhile (· ==32)
def trR (s:Tx):Tx:=(s.reverse.dropWhile (· ==32)).reverse
theorem ZKw: ∀l:Tx,l.dropWhile (· ==32)= []↔ ∀x∈l,x=32
 | []=>by simp
 |c::l=>by
  rw[List.dropWhile_cons];by_cases h:c=32
  ·simp[h,ZKw l]
  ·simp[h]
theorem ZF0 (r:Tx):(r== [])=decide (r.length=0):=by rcases r with _|⟨c,r⟩<;>simp
theorem ZJP {c:UInt8} (h:(c.toNat:Int)=32):c=32:=by
 apply UInt8.toNat_inj.1;show c.toNat=32;omega
theorem ZDs (c:UInt8) (s:Tx):QE (c::s)=if c=32 then QE s else c::s:=by
 unfold QE;rw[List.dropWhile_cons];simp
theorem ZLE (s:Tx):(QE s).length≤s.length:=List.Sublist.length_le (List.dropWhile_sublist _)
theorem ZRV (s:Tx):(trR s).length≤s.length:=by
 unfold trR;rw[List.length_reverse];exact Nat.le_trans (List.Sublist.length_le (List.dropWhile_sublist _)) (by simp)
theorem ZNE (s:Tx) (c:UInt8):trR (s++ [c])=if c=32 then trR s else s++ [c]:=by
 unfold trR;rw[List.reverse_append,List.reverse_cons,List.reverse_nil,List.nil_append,List.singleton_append,List.dropWhile_cons];split<;>simp_all
theorem Zer (s:Tx) (h:0<s.length):s=s.getD 0 0::s.drop 1:=by
 rcases s with _|⟨c,s⟩
 ·simp at h
 ·rfl
theorem ZRq (s:Tx) (h:0<s.length):s=s.take (s.length-1)++ [s.getD (s.length-1) 0]:=by
 obtain⟨b,c,rfl⟩: ∃b c,s=b++ [c]:=⟨s.dropLast,s.getLast (by intro e;subst e;simp at h),(List.dropLast_concat_getLast _).symm⟩;simp
theorem ZJZ (s:Tx) (h:0<s.length) (hc:s.getD 0 0=32):QE s=QE (s.drop 1):=by
 conv=>lhs;rw[Zer s h]
 rw[ZDs,if_pos hc]
theorem ZJQ (s:Tx) (h: ¬(0<s.length∧s.getD 0 0=32)):QE s=s:=by
 rcases s with _|⟨c,s⟩
 ·rfl
 ·rw[ZDs,if_neg (fun e:c=32=>h ⟨by simp,e⟩)]
theorem ZNl (s:Tx) (h:0<s.length) (hc:s.getD (s.length-1) 0=32):trR s=trR (s.take (s.length-1)):=by
 conv=>lhs;rw[ZRq s h]
 rw[ZNE,if_pos hc]
theorem ZNt (s:Tx) (h: ¬(0<s.length∧s.getD (s.length-1) 0=32)):trR s=s:=by
 by_cases h0:0<s.length
 ·conv=>lhs;rw[ZRq s h0]
  rw[ZNE,if_neg (fun e=>h ⟨h0,e⟩)];exact(ZRq s h0).symm
 ·rw[show s= []from List.length_eq_zero_iff.1 (by omega)];rfl
theorem ZZD (s:Tx) (hl:s.length≤1000000):ZD Tryz.prog 219 [.x (.str s),.x (.int .u8 32)] (.x (.str (QE s))):=by
 refine ZN.pure (ZO (fz:=true) ZH (p:=ZTH) rfl _ (ξ rfl) _ (fun C0 E0=> ?_)) rfl;dsimp only[ZTH,qt,qi,qs,qb,qm,qa,qh,qj,qT,qF,qe,ql,qL,qf,q2,q3,q8,qz,qp,qP,qc,qk,qx,qy,qo,qr,qC,ZQ];have uu:=trivial;have tT:=(ZG:SsOk Tryz.prog ZW);refine nz ?_;refine rg tT [0,1] ?_;refine WI.loop (fun φ os=> ∃(r:Tx),φ= [(0,.x (.str r)),(1,.x (.int .u8 32))]∧os= []∧r.length≤s.length∧QE s=QE r) ((fun φ _=>match get φ 0 with| .x (.str r)=>r.length|_=>0)) ?_ (fun φ os hI=> ?_)
 ·exact⟨s,rfl,rfl,by omega,rfl⟩
 ·obtain⟨r,rfl,rfl,hr,he⟩:=hI;refine nz ?_;refine rg tT [0,1,13] ?_;refine cd (fun h0=> ?_) (fun h0=> ?_)
  ·have h0p:0<r.length:=by omega
   have h0c:r.getD 0 0=32:=ZJP (by omega);refine rg tT [0,1] ?_;exact⟨⟨r.drop 1,rfl,rfl,by simp;omega,by rw[he,ZJZ r h0p h0c]⟩,by show(r.drop 1).length<r.length;rw[List.length_drop];omega⟩
  ·have h0n: ¬(0<r.length∧r.getD 0 0=32):=fun hh=>by
    have h2:((r.getD 0 0).toNat:Int)=32:=by rw[hh.2];rfl
    have h1:=hh.1;omega
   refine rg tT [4] ?_;refine lf ?_;rw[he,ZJQ r h0n]
def ZBc:List D→Option (Bool×D)
 | [.x (.str s),.x (.int .u8 32)]=>some (decide (s.length≤1000000),.x (.str (QE s)))
 |_=>none
theorem ZSp: ∀args r,ZBc args=some (true,r)→ZD Tryz.prog 219 args r:=by
 intro args r h;unfold ZBc at h;split at h
 ·rename_i s;simp only[Zg,Ze,ZY,Zi,true_and]at h;obtain⟨h1,rfl⟩:=h;exact(ZZD s h1)
 ·cases h
theorem ZXo (s:Tx) (hl:s.length≤1000000):ZD Tryz.prog 220 [.x (.str s),.x (.int .u8 32)] (.x (.str (trR s))):=by
 refine ZN.pure (ZO (fz:=true) ZH (p:=ZRr) rfl _ (ξ rfl) _ (fun C0 E0=> ?_)) rfl;dsimp only[ZRr,qt,qi,qs,qb,qm,qa,qh,qj,qT,qF,qe,ql,qL,qf,q2,q3,q8,qz,qp,qP,qc,qk,qx,qy,qo,qr,qC,ZQ];have uu:=trivial;have tT:=(ZG:SsOk Tryz.prog ZW);refine nz ?_;refine rg tT [0,1] ?_;refine WI.loop (fun φ os=> ∃(r:Tx),φ= [(0,.x (.str r)),(1,.x (.int .u8 32))]∧os= []∧r.length≤s.length∧trR s=trR r) ((fun φ _=>match get φ 0 with| .x (.str r)=>r.length|_=>0)) ?_ (fun φ os hI=> ?_)
 ·exact⟨s,rfl,rfl,by omega,rfl⟩
 ·obtain⟨r,rfl,rfl,hr,he⟩:=hI;have e1:((r.length:Int)-1).toNat=r.length-1:=by omega
  have uu:=ZA uu e1;refine nz ?_;refine rg tT [0,1,16] ?_;refine cd (fun h0=> ?_) (fun h0=> ?_)
  ·have h0p:0<r.length:=by omega
   have h0c:r.getD (r.length-1) 0=32:=ZJP (by omega);refine rg tT [0,1] ?_;exact⟨⟨r.take (r.length-1),rfl,rfl,by simp;omega,by rw[he,ZNl r h0p h0c]⟩,by show(r.take (r.length-1)).length<r.length;rw[List.length_take];omega⟩
  ·have h0n: ¬(0<r.length∧r.getD (r.length-1) 0=32):=fun hh=>by
    have h2:((r.getD (r.length-1) 0).toNat:Int)=32:=by rw[hh.2];rfl
    have h1:=hh.1;omega
   refine rg tT [4] ?_;refine lf ?_;rw[he,ZNt r h0n]
def ZBd:List D→Option (Bool×D)
 | [.x (.str s),.x (.int .u8 32)]=>some (decide (s.length≤1000000),.x (.str (trR s)))
 |_=>none
theorem ZTG: ∀args r,ZBd args=some (true,r)→ZD Tryz.prog 220 args r:=by
 intro args r h;unfold ZBd at h;split at h
 ·rename_i s;simp only[Zg,Ze,ZY,Zi,true_and]at h;obtain⟨h1,rfl⟩:=h;exact(ZXo s h1)
 ·cases h
def ZHT:Tabs:=Za (Za (ZW) 219 ZBc) 220 ZBd
theorem ZLt:SsOk Tryz.prog ZHT:=ZL (ZL (ZG) (ZC ZH (p:=ZTH) rfl) ZSp) (ZC ZH (p:=ZRr) rfl) ZTG
theorem ZI4 (a:List D):ZHT.q 219 a=ZBc a:=rfl
theorem ZI5 (a:List D):ZHT.q 220 a=ZBd a:=rfl
theorem ZM8 (f:FuncId) (a:List D) (o:List Ob):ZHT.r f a o=none:=rfl
theorem ZOb (f:FuncId) (a:List D) (o:List Ob):ZHT.k f a o=none:=rfl
theorem ZSN (s:Tx) (hl:s.length≤1000000):ZD Tryz.prog 226 [.x (.str s),.x (.str [32])] (.x (.str (QE s))):=by
 refine ZN.pure (ZO (fz:=true) ZH (p:=ZTk) rfl _ (ξ rfl) _ (fun C0 E0=> ?_)) rfl;dsimp only[ZTk,qt,qi,qs,qb,qm,qa,qh,qj,qT,qF,qe,ql,qL,qf,q2,q3,q8,qz,qp,qP,qc,qk,qx,qy,qo,qr,qC,ZQ];have uu:=ZA @ZBc.eq_1 (ZA @ZBc.eq_2 (ZA @ZBd.eq_1 (ZA @ZBd.eq_2 (ZA @ZM8 (ZA @ZOb (ZA @ZI4 (@ZI5)))))));have tT:=ZLt;refine nz ?_;refine rg tT [0,1] ?_;refine rg tT [0,1,12] ?_;refine cd (fun h0=> ?_) (fun h0=> ?_)
 ·refine rg tT [4] ?_;refine lf ?_;rw[show s= [] by simpa using h0];rfl
 ·refine rg tT [0,1,21] ?_;refine ct (fun h1=> ?_) (fun h1=> ?_)
  ·refine rg tT [4] ?_;refine lf ?_
   first|rfl|exact⟨rfl,rfl⟩|trivial
  ·simp at h1
def ZBY:List D→Option (Bool×D)
 | [.x (.str s),.x (.str [32])]=>some (decide (s.length≤1000000),.x (.str (QE s)))
 |_=>none
theorem ZOU: ∀args r,ZBY args=some (true,r)→ZD Tryz.prog 226 args r:=by
 intro args r h;unfold ZBY at h;split at h
 ·rename_i s;simp only[Zg,Ze,ZY,Zi,true_and]at h;obtain⟨h1,rfl⟩:=h;exact(ZSN s h1)
 ·cases h
def ZD6 (s:Tx):Tx:=QE (trR s)
theorem ZeE (s:Tx) (hl:s.length≤1000000):ZD Tryz.prog 207 [.x (.str s),.x (.str [32])] (.x (.str (ZD6 s))):=by
 have hrl:=ZRV s;refine ZN.pure (ZO (fz:=true) ZH (p:=ZSR) rfl _ (ξ rfl) _ (fun C0 E0=> ?_)) rfl;dsimp only[ZSR,qt,qi,qs,qb,qm,qa,qh,qj,qT,qF,qe,ql,qL,qf,q2,q3,q8,qz,qp,qP,qc,qk,qx,qy,qo,qr,qC,ZQ];have uu:=ZA @ZBc.eq_1 (ZA @ZBc.eq_2 (ZA @ZBd.eq_1 (ZA @ZBd.eq_2 (ZA @ZM8 (ZA @ZOb (ZA @ZI4 (@ZI5)))))));have tT:=ZLt;refine nz ?_;refine rg tT [0,1] ?_;refine rg tT [0,1,12] ?_;refine cd (fun h0=> ?_) (fun h0=> ?_)
 ·refine rg tT [4] ?_;refine lf ?_;rw[show s= [] by simpa using h0];rfl
 ·refine rg tT [0,1,21] ?_;refine ct (fun h1=> ?_) (fun h1=> ?_)
  ·refine WI.dregB tT [4] ?_
   iterate 2 refine Zo ?_
   refine Ym ?_;refine dAC ?_;refine Zo ?_;refine Ym ?_;refine dAC ?_;refine Zo ?_;refine dN ?_;refine nz ?_;refine lf ?_
   first|rfl|exact⟨rfl,rfl⟩|trivial
  ·simp at h1
def ZIO:List D→Option (Bool×D)
 | [.x (.str s),.x (.str [32])]=>some (decide (s.length≤1000000),.x (.str (ZD6 s)))
 |_=>none
theorem ZXl: ∀args r,ZIO args=some (true,r)→ZD Tryz.prog 207 args r:=by
 intro args r h;unfold ZIO at h;split at h
 ·rename_i s;simp only[Zg,Ze,ZY,Zi,true_and]at h;obtain⟨h1,rfl⟩:=h;exact(ZeE s h1)
 ·cases h
theorem ZXS (s:Tx):trR (QE s)=ZD6 s:=by
 unfold ZD6;by_cases h: ∀x∈s,x=32
 ·have h1:QE s= []:=by unfold QE;rw[ZKw];intro x hx;exact h x hx
  have h2:trR s= []:=by unfold trR;rw[List.reverse_eq_nil_iff,ZKw];intro x hx;exact h x (by simpa using hx)
  rw[h1,h2];rfl
 ·have key: ∀s:Tx,(∃x∈s,x≠32)→trR (QE s)=QE (trR s):=by
   intro s
   induction s with
   |nil=>rintro⟨x,hx,_⟩;simp at hx
   |cons c s ih=>
    intro hx;rw[ZDs];by_cases hc:c=32
    ·subst hc;rw[if_pos rfl];have hx': ∃x∈s,x≠32:=by
      obtain⟨x,h1,h2⟩:=hx;rcases List.mem_cons.1 h1 with rfl|h1
      ·exact absurd rfl h2
      ·exact⟨x,h1,h2⟩
     rw[ih hx'];have e:trR (32::s)=32::trR s:=by
      unfold trR;obtain⟨x,h1,h2⟩:=hx';rw[List.reverse_cons,List.dropWhile_append];rw[if_neg (by rw[List.isEmpty_iff,ZKw];intro hh;exact h2 (hh x (by simpa using h1)))];simp
     rw[e,ZDs,if_pos rfl]
    ·rw[if_neg hc];have e: ∃t,trR (c::s)=c::t:=by
      unfold trR;rw[List.reverse_cons,List.dropWhile_append];split
      ·exact⟨[],by simp[hc]⟩
      ·exact⟨(s.reverse.dropWhile (· ==32)).reverse,by simp⟩
     obtain⟨t,e⟩:=e;rw[e,ZDs,if_neg hc]
  exact key s (by simpa using h)
theorem Zc6 (s:Tx) (hl:s.length≤1000000):ZD Tryz.prog 183 [.x (.str s)] (.x (.str (ZD6 s))):=by
 rw[←ZXS];refine ZN.pure (ZO (fz:=true) ZH (p:=ZRz) rfl _ (ξ rfl) _ (fun C0 E0=> ?_)) rfl;dsimp only[ZRz,qt,qi,qs,qb,qm,qa,qh,qj,qT,qF,qe,ql,qL,qf,q2,q3,q8,qz,qp,qP,qc,qk,qx,qy,qo,qr,qC,ZQ];have uu:=trivial;have tT:=(ZG:SsOk Tryz.prog ZW);refine nz ?_;refine WI.regB tT [0] ?_;refine oS ?_;refine oN ?_;refine nz ?_;refine WI.loop (fun φ os=> ∃(r:Tx),φ= [(0,.x (.str r))]∧os= []∧r.length≤s.length∧QE s=QE r) ((fun φ _=>match get φ 0 with| .x (.str r)=>r.length|_=>0)) ?_ (fun φ os hI=> ?_)
 ·exact⟨s,rfl,rfl,by omega,rfl⟩
 ·obtain⟨r,rfl,rfl,hr,he⟩:=hI;have hem:=ZF0 r;refine nz ?_;refine WI.regB tT [0,9] ?_;refine oS ?_;refine oG (hok:=by first|exact se|(clear uu;grind)|exact sd) ?_;refine oS ?_
  iterate 4 refine oG (hok:=by first|exact se|(clear uu;grind)|exact sd) ?_
  refine oN ?_;refine nz ?_;refine cd (fun h0=> ?_) (fun h0=> ?_)
  ·have h0p:0<r.length:=by rcases r with _|⟨c,r⟩;simp at h0;simp
   have h0c:r.getD 0 0=32:=by rcases r with _|⟨c,r⟩;simp at h0;exact ZJP (by simpa using h0)
   refine WI.regB tT [0] ?_;refine oS ?_;refine oG (hok:=by first|exact se|(clear uu;grind)|exact sd) ?_;refine oS ?_;refine oN ?_;refine nz ?_;exact⟨⟨r.drop 1,rfl,rfl,by simp;omega,by rw[he,ZJZ r h0p h0c]⟩,by show(r.drop 1).length<r.length;rw[List.length_drop];omega⟩
  ·have h0n: ¬(0<r.length∧r.getD 0 0=32):=fun hh=>by
    have h2:((r.getD 0 0).toNat:Int)=32:=by rw[hh.2];rfl
    have h3:r≠ []:=by rintro rfl;simp at hh
    grind
   refine WI.orderA [0] ?_;refine WI.loop (fun φ os=> ∃(q:Tx),φ= [(0,.x (.str q))]∧os= []∧q.length≤s.length∧trR (QE s)=trR q) ((fun φ _=>match get φ 0 with| .x (.str r)=>r.length|_=>0)) ?_ (fun φ os hI=> ?_)
   ·exact⟨r,rfl,rfl,by omega,by rw[he,ZJQ r h0n]⟩
   ·obtain⟨q,rfl,rfl,hq,hee⟩:=hI;have e1:((q.length:Int)-1).toNat=q.length-1:=by omega
    have hem2:=ZF0 q;have uu:=ZA uu e1;refine nz ?_;refine WI.regB tT [0,21] ?_;refine oS ?_;refine oG (hok:=by first|exact se|(clear uu;grind)|exact sd) ?_;refine oS ?_
    iterate 7 refine oG (hok:=by first|exact se|(clear uu;grind)|exact sd) ?_
    refine oN ?_;refine nz ?_;refine cd (fun h1=> ?_) (fun h1=> ?_)
    ·have h1p:0<q.length:=by rcases q with _|⟨c,q⟩;simp at h1;simp
     have h1c:q.getD (q.length-1) 0=32:=ZJP (by have:=h1.2;omega);refine WI.regB tT [0] ?_
     iterate 2 refine oS ?_
     iterate 3 refine oG (hok:=by first|exact se|(clear uu;grind)|exact sd) ?_
     refine oS ?_;refine oN ?_;refine nz ?_;exact⟨⟨q.take (q.length-1),rfl,rfl,by simp;omega,by rw[hee,ZNl q h1p h1c]⟩,by show(q.take (q.length-1)).length<q.length;rw[List.length_take];omega⟩
    ·have h1n: ¬(0<q.length∧q.getD (q.length-1) 0=32):=fun hh=>by
      have h2:((q.getD (q.length-1) 0).toNat:Int)=32:=by rw[hh.2];rfl
      have h3:q≠ []:=by rintro rfl;simp at hh
      grind
     refine WI.regB tT [2] ?_
     iterate 2 refine oS ?_
     refine oN ?_;refine nz ?_;refine lf ?_;rw[hee,ZNt q h1n]
def ZFd:List D→Option (Bool×D)
 | [.x (.str s)]=>some (decide (s.length≤1000000),.x (.str (ZD6 s)))
 |_=>none
theorem ZUi: ∀args r,ZFd args=some (true,r)→ZD Tryz.prog 183 args r:=by
 intro args r h;unfold ZFd at h;split at h
 ·rename_i s;simp only[Zg,Ze,ZY,Zi,true_and]at h;obtain⟨h1,rfl⟩:=h;exact(Zc6 s h1)
 ·cases h
theorem Zfj: ∀(a b:Fin 16),IntKind.u8.wrap ((BitVec.ofInt IntKind.u8.bits (IntKind.u8.wrap ((a.val:Int)*2^min 4 IntKind.u8.bits))|||BitVec.ofInt IntKind.u8.bits (b.val:Int)).toNat:Int)=((UInt8.ofNat (16*a.val+b.val)).toNat:Int):=by decide+kernel
def orB (h l:Nat):UInt8:=UInt8.ofNat (16*h+l)
theorem Zfe (h l:Nat) (h1:h<16) (h2:l<16):IntKind.u8.wrap ((BitVec.ofInt IntKind.u8.bits (IntKind.u8.wrap ((h:Int)*2^min 4 IntKind.u8.bits))|||BitVec.ofInt IntKind.u8.bits (l:Int)).toNat:Int)=((orB h l).toNat:Int):=Zfj ⟨_,h1⟩ ⟨_,h2⟩
theorem ZQU (n:Nat):(Qz n).1<16:=by unfold Qz;split<;>simp_all
def ZH1 (a:UInt8):Bool:=spc a.toNat||decide (a.toNat=32)||decide (a.toNat=35)
def Jr (s:Tx):UInt8×Nat×Bool:=
 if s= []then(0,0,false)
 else if ZH1 (s.getD 0 0)=true then(s.getD 0 0,1,true)
 else if(Qz (s.getD 0 0).toNat).2=false∨s.length<2 then(0,0,false)
 else(orB (Qz (s.getD 0 0).toNat).1 (Qz (s.getD 1 0).toNat).1,2,(Qz (s.getD 1 0).toNat).2)
def ZHd:Tabs:=Za (Za (ZW) 202 ZAQ) 238 ZFG
theorem ZXH:SsOk Tryz.prog ZHd:=ZL (ZL (ZG) (ZC ZH (p:=ZLC) rfl) ZI8) ZNQ ZW5
theorem ZPU (a:List D):ZHd.q 202 a=ZAQ a:=rfl
theorem ZQB (a:List D):ZHd.q 238 a=ZFG a:=rfl
theorem ZYZ (f:FuncId) (a:List D) (o:List Ob):ZHd.r f a o=none:=rfl
theorem ZYl (f:FuncId) (a:List D) (o:List Ob):ZHd.k f a o=none:=rfl
theorem Zej (s:Tx) (hl:s.length≤1000000):ZD Tryz.prog 227 [.x (.str s)] (.tup [.x (.int .u8 (Jr s).1.toNat),.x (.int .i64 (Jr s).2.1),.x (.bool (Jr s).2.2)]):=by
 have hq: ∀n,inB [44,43,34,92,60,62,59,61] n=spc n:=fun n=>rfl
 have hem:=ZF0 s;have hb0:(s.getD 0 0).toNat<256:=UInt8.toNat_lt _;have hb1:(s.getD 1 0).toNat<256:=UInt8.toNat_lt _;have hor:=Zfe _ _ (ZQU (s.getD 0 0).toNat) (ZQU (s.getD 1 0).toNat);rcases he:Jr s with⟨x,n,b⟩
 unfold Jr at he;have hfr:ZH1 (s.getD 0 0)=(spc (s.getD 0 0).toNat||decide ((s.getD 0 0).toNat=32)||decide ((s.getD 0 0).toNat=35)):=rfl;refine ZN.pure (ZO (fz:=true) ZH (p:=ZTQ) rfl _ (ξ rfl) _ (fun C0 E0=> ?_)) rfl;dsimp only[ZTQ,qt,qi,qs,qb,qm,qa,qh,qj,qT,qF,qe,ql,qL,qf,q2,q3,q8,qz,qp,qP,qc,qk,qx,qy,qo,qr,qC,ZQ];have uu:=ZA @ZAQ.eq_1 (ZA @ZAQ.eq_2 (ZA @ZFG.eq_1 (ZA @ZFG.eq_2 (ZA hq (ZA hor (ZA @ZYZ (ZA @ZYl (ZA @ZPU (@ZQB)))))))));have tT:=ZXH;refine nz ?_;refine WI.regB tT [0] ?_
 iterate 3 refine oS ?_
 refine oN ?_;refine nz ?_;refine WI.regB tT [0,9] ?_;refine oS ?_;refine oG (hok:=by first|exact se|(clear uu;grind)|exact sd) ?_;refine oN ?_;refine nz ?_;refine cd (fun h0=> ?_) (fun h0=> ?_)
 ·refine WI.regB tT [2,3,4] ?_
  iterate 3 refine oS ?_
  refine oN ?_;refine nz ?_;refine lf ?_;rw[if_pos (by simpa using h0)]at he;cases he;rfl
 ·have hne:s≠ []:=by simpa using h0
  rw[if_neg hne]at he;have hl1:0<s.length:=List.length_pos_iff.2 hne;refine WI.regB tT [0,22] ?_;refine oS ?_;refine oG (hok:=by first|exact se|(clear uu;grind)|exact sd) ?_;refine oC (hok:=by first|exact se|(clear uu;grind)|exact sd) ?_;refine oS ?_
  iterate 4 refine oG (hok:=by first|exact se|(clear uu;grind)|exact sd) ?_
  refine oS ?_
  iterate 4 refine oG (hok:=by first|exact se|(clear uu;grind)|exact sd) ?_
  refine oN ?_;refine nz ?_;refine cd (fun h1=> ?_) (fun h1=> ?_)
  ·refine WI.regB tT [2,3,4] ?_;refine oS ?_;refine oG (hok:=by first|exact se|(clear uu;grind)|exact sd) ?_
   iterate 3 refine oS ?_
   refine oN ?_;refine nz ?_;refine lf ?_;rw[if_pos (by rw[hfr];clear uu;grind)]at he;cases he;rfl
  ·rw[if_neg (by rw[hfr];clear uu;grind)]at he;refine WI.regB tT [0,5,6] ?_;refine oS ?_;refine oG (hok:=by first|exact se|(clear uu;grind)|exact sd) ?_;refine oC (hok:=by first|exact se|(clear uu;grind)|exact sd) ?_;refine oS ?_
   iterate 2 refine oG ?_
   iterate 2 refine oS ?_
   refine oN ?_;refine nz ?_;refine WI.regB tT [0,5,37] ?_;refine oS ?_;refine oG (hok:=by first|exact se|(clear uu;grind)|exact sd) ?_;refine oS ?_
   iterate 4 refine oG (hok:=by first|exact se|(clear uu;grind)|exact sd) ?_
   refine oN ?_;refine nz ?_;refine cd (fun h2=> ?_) (fun h2=> ?_)
   ·refine WI.regB tT [2,3,4] ?_
    iterate 3 refine oS ?_
    refine oN ?_;refine nz ?_;refine lf ?_;rw[if_pos (by clear uu;grind)]at he;cases he;rfl
   ·rw[if_neg (by clear uu;grind)]at he;have hl2:2≤s.length:=by clear uu;grind
    refine WI.regB tT [5,6,7] ?_;refine oS ?_;refine oG (hok:=by first|exact se|(clear uu;grind)|exact sd) ?_;refine oC (hok:=by first|exact se|(clear uu;grind)|exact sd) ?_;refine oS ?_
    iterate 2 refine oG ?_
    iterate 2 refine oS ?_
    refine oN ?_;refine nz ?_;refine WI.regB tT [2,3,4] ?_;refine oS ?_;refine oG (hok:=by first|exact se|(clear uu;grind)|exact sd) ?_;refine oS ?_;refine oG (hok:=by first|exact se|(clear uu;grind)|exact sd) ?_
    iterate 4 refine oS ?_
    refine oN ?_;refine nz ?_;refine lf ?_;cases he;rfl
def ZIc:List D→Option (Bool×D)
 | [.x (.str s)]=>some (decide (s.length≤1000000),.tup [.x (.int .u8 (Jr s).1.toNat),.x (.int .i64 (Jr s).2.1),.x (.bool (Jr s).2.2)])
 |_=>none
theorem ZZe: ∀args r,ZIc args=some (true,r)→ZD Tryz.prog 227 args r:=by
 intro args r h;unfold ZIc at h;split at h
 ·rename_i s;simp only[Zg,Ze,ZY,Zi,true_and]at h;obtain⟨h1,rfl⟩:=h;exact(Zej s h1)
 ·cases h
def Jd:Nat→Tx→Tx→Nat→Option (Tx×Nat)
 |0,_,_,_=>none
 |_+1,[],b,e=>some (b,e)
 |n+1,c::r,b,e=>
  if c=92 then(if(Jr r).2.2=true then Jd n (r.drop (Jr r).2.1) (b++ [(Jr r).1]) (b.length+1)else none)
  else if ZIG c.toNat (decide (b.length=0))=true then none
  else if c=32 then Jd n r (b++ [c]) e else Jd n r (b++ [c]) (b.length+1)
theorem Zdc (s:Tx):(Jr s).2.1≤s.length:=by
 unfold Jr;split
 ·simp
 ·rename_i h;have:0<s.length:=List.length_pos_iff.2 h;split
  ·simp;omega
  ·split
   ·simp
   ·rename_i h2;simp only[not_or]at h2;simp;omega
def ZEw (s:Tx):Tx×Bool:=match Jd (s.length+1) (QE s) [] 0 with
 |none=>([],false)
 |some (b,e)=>(b.take e,decide (e>0))
def ZE0 (s:Tx):Tx×Bool:=match Jd (s.length+1) (QE s) [] 0 with
 |none=>([],false)
 |some (b,e)=>(b.take e,true)
theorem ZOa {c:UInt8} (h:(c.toNat:Int)=92):c=92:=by
 apply UInt8.toNat_inj.1;show c.toNat=92;omega
def ZFQ:Tabs:=Za (Za (Za (ZW) 226 ZBY) 227 ZIc) 228 ZDg
theorem ZUU:SsOk Tryz.prog ZFQ:=ZL (ZL (ZL (ZG) (ZC ZH (p:=ZTk) rfl) ZOU) (ZC ZH (p:=ZTQ) rfl) ZZe) (ZC ZH (p:=ZRv) rfl) ZRu
theorem ZQA (a:List D):ZFQ.q 226 a=ZBY a:=rfl
theorem ZPy (a:List D):ZFQ.q 227 a=ZIc a:=rfl
theorem ZQI (a:List D):ZFQ.q 228 a=ZDg a:=rfl
theorem ZZl (f:FuncId) (a:List D) (o:List Ob):ZFQ.r f a o=none:=rfl
theorem ZZj (f:FuncId) (a:List D) (o:List Ob):ZFQ.k f a o=none:=rfl
set_option maxHeartbeats 1000000 in
theorem ZeQ (s:Tx) (hl:s.length≤900000):ZD Tryz.prog 209 [.x (.str s)] (.tup [.x (.str (ZEw s).1),.x (.bool (ZEw s).2)]):=by
 have htl:=ZLE s;rcases hq:ZEw s with⟨v,ok⟩
 unfold ZEw at hq;refine ZN.pure (ZO (fz:=true) ZH (p:=ZSW) rfl _ (ξ rfl) _ (fun C0 E0=> ?_)) rfl;dsimp only[ZSW,qt,qi,qs,qb,qm,qa,qh,qj,qT,qF,qe,ql,qL,qf,q2,q3,q8,qz,qp,qP,qc,qk,qx,qy,qo,qr,qC,ZQ];have uu:=ZA @ZBY.eq_1 (ZA @ZBY.eq_2 (ZA @ZIc.eq_1 (ZA @ZIc.eq_2 (ZA @ZDg.eq_1 (ZA @ZDg.eq_2 (ZA @YV (ZA @Jh (ZA @List.getD_cons_zero.{0} (ZA @ZZl (ZA @ZZj (ZA @ZQA (ZA @ZPy (@ZQI)))))))))))));have tT:=ZUU;refine nz ?_;refine rg tT [0] ?_;refine WI.scope 0 rfl (fun φ os=>False) (fun φ _=>0) ?_ (fun φ os hI=> ?_)
 ·refine nz ?_;refine rg tT [0] ?_;refine rg tT [0,4] ?_;refine rg tT [0,4,5] ?_;refine WI.label ?_;refine nz ?_;refine WI.ownA 4 5 1 ?_;refine WI.loop (fun φ os=> ∃(r b:Tx) (e n:Nat),φ= [(0,.x (.str r)),(4,.ref 0 b.length 0 b.length),(5,.x (.int .i64 e))]∧os= [.rows false 5 1 (b.map Zl)]∧r.length<n∧b.length+r.length≤s.length∧e≤b.length∧Jd (s.length+1) (QE s) [] 0=Jd n r b e) ((fun φ _=>match get φ 0 with| .x (.str r)=>r.length|_=>0)) ?_ (fun φ os hI=> ?_)
  ·exact⟨QE s,[],0,s.length+1,rfl,rfl,by omega,by simp;omega,by simp,rfl⟩
  ·obtain⟨r,b,e,n,rfl,rfl,hn,hb,he,hv⟩:=hI;obtain⟨n,rfl⟩: ∃m,n=m+1:=⟨n-1,by omega⟩;refine nz ?_;refine rg tT [0,4,5,13] ?_;refine cd (fun h0=> ?_) (fun h0=> ?_)
   ·rcases r with _|⟨c,r⟩
    ·simp at h0
    have hn':r.length+1<n+1:=hn;have hb':b.length+(r.length+1)≤s.length:=hb;have hen:=Zdc r;have hb8:c.toNat<256:=UInt8.toNat_lt _;have hsc:decide (r.length≤1000000)=true:=ZM (by omega);have uu:=ZA uu hsc;refine rg tT [0,4,5,6] ?_;refine rg tT [0,4,5,6] ?_;refine rg tT [0,4,5,6,24] ?_;refine cd (fun h1=> ?_) (fun h1=> ?_)
    ·have hc:c=92:=ZOa (by first|exact h1|simpa using h1);refine rg tT [0,4,7,8,9] ?_;refine rg tT [0,4,7,8,34] ?_;refine cd (fun h2=> ?_) (fun h2=> ?_)
     ·refine rg tT [2,3] ?_;refine lf ?_;rw[hv,Jd,if_pos hc,if_neg (by simpa using h2)]at hq;cases hq;rfl
     ·have hst:Jd (n+1) (c::r) b e=Jd n (r.drop (Jr r).2.1) (b++ [(Jr r).1]) (b.length+1):=by rw[Jd,if_pos hc,if_pos (by simpa using h2)]
      refine WI.post ?_;refine WI.dregB tT [0,4] ?_
      iterate 2 refine Zo ?_
      iterate 2 refine dAG ?_
      iterate 2 refine Zo ?_
      refine Ym ?_
      iterate 2 refine Zo ?_
      refine dP ?_;refine Yo [0] ?_;refine JR ?_;refine nz ?_;refine rg tT [0,4,5] ?_
      first|exact⟨⟨r.drop (Jr r).2.1,b++ [(Jr r).1],b.length+1,n,by rw[Zr];first|done|rfl,by rw[YB];first|done|rfl,by rw[List.length_drop];omega,by rw[Zr,List.length_drop];simp;omega,by simp,by rw[hv,hst]⟩,by show(r.drop (Jr r).2.1).length<r.length+1;rw[List.length_drop];omega⟩|exact⟨⟨r,b++ [c],e,n,by rw[Zr];first|done|rfl,by rw[YB];first|done|rfl,by omega,by rw[Zr];simp;omega,by simp;omega,by rw[hv,hst]⟩,by show r.length<r.length+1;omega⟩|exact⟨⟨r,b++ [c],b.length+1,n,by rw[Zr];first|done|rfl,by rw[YB];first|done|rfl,by omega,by rw[Zr];simp;omega,by simp,by rw[hv,hst]⟩,by show r.length<r.length+1;omega⟩
    ·have hc:c≠92:=by rintro rfl;exact absurd h1 (by decide)
     have hz:((b.length:Int)==0)=decide (b.length=0):=by rw[Bool.eq_iff_iff];simp<;>omega
     have uu:=ZA uu hz;refine rg tT [0,4,5,6,42] ?_;refine cd (fun h3=> ?_) (fun h3=> ?_)
     ·refine rg tT [2,3] ?_;refine lf ?_;rw[hv,Jd,if_neg hc,if_pos (by simpa using h3)]at hq;cases hq;rfl
     ·refine rgp tT [0,4,5,6] ?_;refine Yo [0] ?_;refine JR ?_;refine nz ?_;refine rg tT [0,4,5,23] ?_;refine cd (fun h4=> ?_) (fun h4=> ?_) (kA:=fun h=>h.h)
      ·refine WI.orderA [0,4,5] ?_;have hst:Jd (n+1) (c::r) b e=Jd n r (b++ [c]) e:=by rw[Jd,if_neg hc,if_neg (by simpa using h3),if_pos (ZJP (by first|exact h4|simpa using h4))]
       refine nz ?_
       first|exact⟨⟨r.drop (Jr r).2.1,b++ [(Jr r).1],b.length+1,n,by rw[Zr];first|done|rfl,by rw[YB];first|done|rfl,by rw[List.length_drop];omega,by rw[Zr,List.length_drop];simp;omega,by simp,by rw[hv,hst]⟩,by show(r.drop (Jr r).2.1).length<r.length+1;rw[List.length_drop];omega⟩|exact⟨⟨r,b++ [c],e,n,by rw[Zr];first|done|rfl,by rw[YB];first|done|rfl,by omega,by rw[Zr];simp;omega,by simp;omega,by rw[hv,hst]⟩,by show r.length<r.length+1;omega⟩|exact⟨⟨r,b++ [c],b.length+1,n,by rw[Zr];first|done|rfl,by rw[YB];first|done|rfl,by omega,by rw[Zr];simp;omega,by simp,by rw[hv,hst]⟩,by show r.length<r.length+1;omega⟩
      ·have hst:Jd (n+1) (c::r) b e=Jd n r (b++ [c]) (b.length+1):=by rw[Jd,if_neg hc,if_neg (by simpa using h3),if_neg (by rintro rfl;exact absurd h4 (by decide))]
       refine rg tT [0,4,5] ?_
       first|exact⟨⟨r.drop (Jr r).2.1,b++ [(Jr r).1],b.length+1,n,by rw[Zr];first|done|rfl,by rw[YB];first|done|rfl,by rw[List.length_drop];omega,by rw[Zr,List.length_drop];simp;omega,by simp,by rw[hv,hst]⟩,by show(r.drop (Jr r).2.1).length<r.length+1;rw[List.length_drop];omega⟩|exact⟨⟨r,b++ [c],e,n,by rw[Zr];first|done|rfl,by rw[YB];first|done|rfl,by omega,by rw[Zr];simp;omega,by simp;omega,by rw[hv,hst]⟩,by show r.length<r.length+1;omega⟩|exact⟨⟨r,b++ [c],b.length+1,n,by rw[Zr];first|done|rfl,by rw[YB];first|done|rfl,by omega,by rw[Zr];simp;omega,by simp,by rw[hv,hst]⟩,by show r.length<r.length+1;omega⟩
   ·obtain rfl:r= []:=by simpa using h0
    have hv2:Jd (s.length+1) (QE s) [] 0=some (b,e):=by rw[hv];rfl
    rw[hv2]at hq;have e1:(List.map Zl b).take e=(b.take e).map Zl:=by rw[List.map_take]
    have uu:=ZA uu e1;refine rg tT [2,3] ?_;refine lf ?_;cases hq;rw[show decide ((e:Int)>0)=decide (e>0) by rw[Bool.eq_iff_iff];simp]
 ·exact hI.elim
def ZIT:List D→Option (Bool×D)
 | [.x (.str s)]=>some (decide (s.length≤900000),.tup [.x (.str (ZEw s).1),.x (.bool (ZEw s).2)])
 |_=>none
theorem ZZ7: ∀args r,ZIT args=some (true,r)→ZD Tryz.prog 209 args r:=by
 intro args r h;unfold ZIT at h;split at h
 ·rename_i s;simp only[Zg,Ze,ZY,Zi,true_and]at h;obtain⟨h1,rfl⟩:=h;exact(ZeQ s h1)
 ·cases h
theorem ZLJ (n:Nat):(Qz n).2=decide (KP n<16)∧(KP n<16→(Qz n).1=KP n):=by
 unfold Qz;split
 ·rename_i h;exact⟨by simp[h],fun _=>rfl⟩
 ·rename_i h;exact⟨by simp[h],fun h'=>absurd h' h⟩
theorem ZLm (s:Tx) (i j:Nat):(s.drop i).getD j 0=s.getD (i+j) 0:=by simp
theorem ZLe (s:Tx) (i:Nat):Jr (s.drop i)=if s.length≤i then(0,0,false)else if ZH1 (s.getD i 0)=true then(s.getD i 0,1,true)else if ¬KP (s.getD i 0).toNat<16∨s.length<i+2 then(0,0,false)else(orB (KP (s.getD i 0).toNat) (Qz (s.getD (i+1) 0).toNat).1,2,decide (KP (s.getD (i+1) 0).toNat<16)):=by
 unfold Jr;rw[ZLm,ZLm,Nat.add_zero];have h1:=ZLJ (s.getD i 0).toNat;have h2:=ZLJ (s.getD (i+1) 0).toNat;by_cases h:s.length≤i
 ·rw[if_pos (List.drop_of_length_le h),if_pos h]
 ·rw[if_neg (by intro e;have:=congrArg List.length e;simp at this;omega),if_neg h];split
  ·rfl
  ·rw[h1.1,h2.1];have e1:(decide (KP (s.getD i 0).toNat<16)=false∨(s.drop i).length<2)↔(¬KP (s.getD i 0).toNat<16∨s.length<i+2):=by
    rw[decide_eq_false_iff_not,List.length_drop];constructor<;>(intro h;rcases h with h|h;exact .inl h;exact .inr (by omega))
   by_cases h3: ¬KP (s.getD i 0).toNat<16∨s.length<i+2
   ·rw[if_pos h3,if_pos (e1.2 h3)]
   ·rw[if_neg h3,if_neg (fun h=>h3 (e1.1 h)),h1.2 (Decidable.not_not.1 fun h=>h3 (.inl h))]
theorem Zew: ∀(a b:Fin 16),IntKind.u8.wrap (16*(a.val:Int)+(b.val:Int))=((UInt8.ofNat (16*a.val+b.val)).toNat:Int):=by decide+kernel
theorem ZfX (h l:Nat) (h1:h<16) (h2:l<16):IntKind.u8.wrap (16*(h:Int)+(l:Int))=((orB h l).toNat:Int):=Zew ⟨_,h1⟩ ⟨_,h2⟩
theorem Zbn (c:UInt8):ZH1 c=(spc c.toNat||(decide ((c.toNat:Int)=32)||decide ((c.toNat:Int)=35))):=by
 have e1:decide (c.toNat=32)=decide ((c.toNat:Int)=32):=by rw[Bool.eq_iff_iff,Zi,Zi];omega
 have e2:decide (c.toNat=35)=decide ((c.toNat:Int)=35):=by rw[Bool.eq_iff_iff,Zi,Zi];omega
 unfold ZH1;rw[e1,e2,Bool.or_assoc]
theorem KA (s:Tx) (j:Nat) (h:j<s.length):s.drop j=s.getD j 0::s.drop (j+1):=by
 rw[List.drop_eq_getElem_cons h];simp[h]
theorem ZXn (n:Nat) (r b:Tx) (j e:Nat) (hc:r.getD j 0=92) (h1:j+1<r.length) (hf:ZH1 (r.getD (j+1) 0)=true):Jd (n+1) (r.drop j) b e=Jd n (r.drop (j+2)) (b++ [r.getD (j+1) 0]) (b.length+1):=by
 have hE:Jr (r.drop (j+1))=(r.getD (j+1) 0,1,true):=by rw[ZLe,if_neg (by omega),if_pos hf]
 rw[KA r j (by omega),Jd,if_pos hc,hE,if_pos rfl,List.drop_drop];first|done|rfl
theorem ZcG (n:Nat) (r b:Tx) (j e:Nat) (hc:r.getD j 0=92) (h1:j+2<r.length) (hf:ZH1 (r.getD (j+1) 0)=false) (hx:KP (r.getD (j+1) 0).toNat<16) (hy:KP (r.getD (j+2) 0).toNat<16):Jd (n+1) (r.drop j) b e=Jd n (r.drop (j+3)) (b++ [orB (KP (r.getD (j+1) 0).toNat) (KP (r.getD (j+2) 0).toNat)]) (b.length+1):=by
 have hE:Jr (r.drop (j+1))=(orB (KP (r.getD (j+1) 0).toNat) (KP (r.getD (j+2) 0).toNat),2,true):=by
  rw[ZLe,if_neg (by omega),if_neg (by rw[hf];decide),if_neg (by rintro(h|h);exact h hx;omega),(ZLJ (r.getD (j+1+1) 0).toNat).2 hy,ZM hy]
 rw[KA r j (by omega),Jd,if_pos hc,hE,if_pos rfl,List.drop_drop];first|done|rfl
theorem ZbX (n:Nat) (r b:Tx) (j e:Nat) (hj:j<r.length) (hc:r.getD j 0=92) (hf: ¬(j+1<r.length∧ZH1 (r.getD (j+1) 0)=true)) (hx: ¬(j+2<r.length∧KP (r.getD (j+1) 0).toNat<16∧KP (r.getD (j+2) 0).toNat<16)):Jd (n+1) (r.drop j) b e=none:=by
 have hE:(Jr (r.drop (j+1))).2.2=false:=by
  rw[ZLe];by_cases h1:r.length≤j+1
  ·rw[if_pos h1]
  ·rw[if_neg h1,if_neg (fun h=>hf ⟨by omega,h⟩)];by_cases h2: ¬KP (r.getD (j+1) 0).toNat<16∨r.length<j+1+2
   ·rw[if_pos h2]
   ·rw[if_neg h2];simp only[not_or,Decidable.not_not]at h2;exact decide_eq_false (fun h=>hx ⟨by omega,h2.1,h⟩)
 rw[KA r j hj,Jd,if_pos hc,hE,if_neg (by decide)]
theorem ZbY (n:Nat) (r b:Tx) (j e:Nat) (hj:j<r.length) (hc:r.getD j 0≠92) (hb:ZIG (r.getD j 0).toNat (decide (b.length=0))=true):Jd (n+1) (r.drop j) b e=none:=by
 rw[KA r j hj,Jd,if_neg hc,if_pos hb]
theorem ZUM (n:Nat) (r b:Tx) (j e:Nat) (hj:j<r.length) (hc:r.getD j 0=32):Jd (n+1) (r.drop j) b e=Jd n (r.drop (j+1)) (b++ [r.getD j 0]) e:=by
 rw[KA r j hj,Jd,if_neg (by rw[hc];decide),if_neg (by rw[hc];cases decide (b.length=0)<;>decide),if_pos hc]
theorem ZUl (n:Nat) (r b:Tx) (j e:Nat) (hj:j<r.length) (hc:r.getD j 0≠92) (hb: ¬ZIG (r.getD j 0).toNat (decide (b.length=0))=true) (h3:r.getD j 0≠32):Jd (n+1) (r.drop j) b e=Jd n (r.drop (j+1)) (b++ [r.getD j 0]) (b.length+1):=by
 rw[KA r j hj,Jd,if_neg hc,if_neg hb,if_neg h3]
theorem neD {c:UInt8} {k:Nat} (hk:k<256) (h: ¬(c.toNat:Int)=k):c≠UInt8.ofNat k:=fun e=>h (by rw[e];simp;omega)
theorem ZbS (n:Nat) (f:Bool):ZIG n f=(((decide ((n:Int)<32)||decide ((n:Int)=127))||(spc n&&decide ((n:Int)≠61)))||(decide ((n:Int)=35)&&f)):=by
 unfold ZIG;rw[Bool.eq_iff_iff];simp only[Bool.or_eq_true,ZY,Zi];grind
theorem Ze1:spc 92=true:=by decide
def ZHF:Tabs:=Za (Za (ZW) 204 QS) 205 ZLR
theorem ZWV:SsOk Tryz.prog ZHF:=ZL (ZL (ZG) (ZC ZH (p:=ZPH) rfl) ZI2) (ZC ZH (p:=ZTh) rfl) Zcm
theorem ZQP (a:List D):ZHF.q 204 a=QS a:=rfl
theorem ZPo (a:List D):ZHF.q 205 a=ZLR a:=rfl
theorem ZXr (f:FuncId) (a:List D) (o:List Ob):ZHF.r f a o=none:=rfl
theorem ZZ6 (f:FuncId) (a:List D) (o:List Ob):ZHF.k f a o=none:=rfl
set_option maxHeartbeats 2000000 in
theorem ZeW (s:Tx) (hl:s.length≤900000):ZD Tryz.prog 184 [.x (.str s)] (.tup [.x (.str (ZE0 s).1),.x (.bool (ZE0 s).2)]):=by
 have htl:=ZLE s;rcases hq:ZE0 s with⟨v,ok⟩
 unfold ZE0 at hq;refine ZN.pure (ZO (fz:=true) ZH (p:=ZTI) rfl _ (ξ rfl) _ (fun C0 E0=> ?_)) rfl;dsimp only[ZTI,qt,qi,qs,qb,qm,qa,qh,qj,qT,qF,qe,ql,qL,qf,q2,q3,q8,qz,qp,qP,qc,qk,qx,qy,qo,qr,qC,ZQ];have uu:=ZA @QS.eq_1 (ZA @QS.eq_2 (ZA @ZLR.eq_1 (ZA @ZLR.eq_2 (ZA @YV (ZA @Jh (ZA @ZXr (ZA @ZZ6 (ZA @ZQP (@ZPo)))))))));have tT:=ZWV;refine nz ?_;refine WI.regB tT [0] ?_
 iterate 2 refine oS ?_
 refine oN ?_;refine nz ?_;refine WI.loop (fun φ os=> ∃(r:Tx),φ= [(0,.x (.str r))]∧os= []∧r.length≤s.length∧QE s=QE r) ((fun φ _=>match get φ 0 with| .x (.str r)=>r.length|_=>0)) ?_ (fun φ os hI=> ?_)
 ·exact⟨s,rfl,rfl,by omega,rfl⟩
 ·obtain⟨r,rfl,rfl,hr,he⟩:=hI;have hem:=ZF0 r;refine nz ?_;refine WI.regB tT [0,14] ?_;refine oS ?_;refine oG (hok:=by first|exact se|(clear uu;grind)|exact sd) ?_;refine oS ?_
  iterate 4 refine oG (hok:=by first|exact se|(clear uu;grind)|exact sd) ?_
  refine oN ?_;refine nz ?_;refine cd (fun h0=> ?_) (fun h0=> ?_)
  ·have h0p:0<r.length:=by rcases r with _|⟨c,r⟩;simp at h0;simp
   have h0c:r.getD 0 0=32:=by rcases r with _|⟨c,r⟩;simp at h0;exact ZJP (by simpa using h0)
   refine WI.regB tT [0] ?_;refine oS ?_;refine oG (hok:=by first|exact se|(clear uu;grind)|exact sd) ?_;refine oS ?_;refine oN ?_;refine nz ?_;exact⟨⟨r.drop 1,rfl,rfl,by simp;omega,by rw[he,ZJZ r h0p h0c]⟩,by show(r.drop 1).length<r.length;rw[List.length_drop];omega⟩
  ·have h0n: ¬(0<r.length∧r.getD 0 0=32):=fun hh=>by
    have h2:((r.getD 0 0).toNat:Int)=32:=by rw[hh.2];rfl
    have h3:r≠ []:=by rintro rfl;simp at hh
    grind
   rw[he,ZJQ r h0n]at hq htl;clear he h0 h0n hem;refine WI.regB tT [0,4] ?_;refine oS ?_;refine oN ?_;refine nz ?_;refine WI.regB tT [0,4,5] ?_;refine oS ?_;refine oN ?_;refine nz ?_;refine WI.regB tT [0,4,5,6] ?_;refine oS ?_;refine oN ?_;refine nz ?_;refine WI.ownA 4 5 1 ?_;refine WI.loop (fun φ os=> ∃(j e n:Nat) (b:Tx),φ= [(0,.x (.str r)),(4,.ref 0 b.length 0 b.length),(5,.x (.int .i64 e)),(6,.x (.int .i64 j))]∧os= [.rows false 5 1 (b.map Zl)]∧j≤r.length∧r.length-j<n∧b.length≤j∧e≤b.length∧Jd (s.length+1) r [] 0=Jd n (r.drop j) b e) (ZK r.length 6) ?_ (fun φ os hI=> ?_)
   ·exact⟨0,0,s.length+1,[],rfl,rfl,by omega,by omega,by simp,by simp,rfl⟩
   ·obtain⟨j,e,n,b,rfl,rfl,hj,hn,hb,hee,hv⟩:=hI;obtain⟨n,rfl⟩: ∃m,n=m+1:=⟨n-1,by omega⟩;refine nz ?_;refine WI.regB tT [0,4,5,6,20] ?_
    iterate 2 refine oS ?_
    iterate 2 refine oG (hok:=by first|exact se|(clear uu;grind)|exact sd) ?_
    refine oN ?_;refine nz ?_;refine cd (fun h1=> ?_) (fun h1=> ?_)
    ·have hj4:j<r.length:=by omega
     have e1:((j:Int)+1).toNat=j+1:=by omega
     have e2:((j:Int)+2).toNat=j+2:=by omega
     have hb8:(r.getD j 0).toNat<256:=UInt8.toNat_lt _;have hb81:(r.getD (j+1) 0).toNat<256:=UInt8.toNat_lt _;have hb82:(r.getD (j+2) 0).toNat<256:=UInt8.toNat_lt _;have hfe:=Zbn (r.getD (j+1) 0);have hbe:=ZbS (r.getD j 0).toNat (decide (b.length=0));have uu:=ZA uu (ZA e1 e2);refine WI.regB tT [0,4,5,6,7] ?_
     iterate 2 refine oS ?_
     refine oG (hok:=by first|exact se|(clear uu;grind)|exact sd) ?_;refine oS ?_;refine oN ?_;refine nz ?_;refine WI.regB tT [0,4,5,6,7,32] ?_;refine oS ?_;refine oG (hok:=by first|exact se|(clear uu;grind)|exact sd) ?_;refine oS ?_
     iterate 6 refine oG (hok:=by first|exact se|(clear uu;grind)|exact sd) ?_
     refine oS ?_
     iterate 4 refine oG (hok:=by first|exact se|(clear uu;grind)|exact sd) ?_
     refine oC (hok:=by first|exact se|(clear uu;grind)|exact sd) ?_
     iterate 15 refine oG (hok:=by first|exact se|(clear uu;grind)|exact sd) ?_
     refine oS ?_;refine oN ?_;refine nz ?_;refine cd (fun h2=> ?_) (fun h2=> ?_)
     ·have hst:=ZXn n r b j e (ZOa (by clear uu;grind)) (by clear uu;grind) (by rw[hfe];clear uu;grind);refine WI.post ?_;refine WI.regB tT [0,4,6] ?_
      iterate 3 refine oS ?_
      iterate 4 refine oG (hok:=by first|exact se|(clear uu;grind)|exact sd) ?_
      refine oS ?_;refine oP ?_;refine Yo [0] ?_;refine JR ?_;refine nz ?_;refine WI.regB tT [0,4,6] ?_;refine oS ?_;refine oG (hok:=by first|exact se|(clear uu;grind)|exact sd) ?_;refine oS ?_;refine oN ?_;refine nz ?_;refine WI.regB tT [0,4,5,6] ?_;refine oS ?_;refine oG (hok:=by first|exact se|(clear uu;grind)|exact sd) ?_;refine oS ?_;refine oN ?_;refine nz ?_;refine WI.orderA [0,4,5,6] ?_;refine WI.regB tT [0,4,5,6] ?_;refine oS ?_;refine oG (hok:=by first|exact se|(clear uu;grind)|exact sd) ?_;refine oS ?_;refine oN ?_;refine nz ?_
      first|exact⟨⟨j+2,b.length+1,n,b++ [r.getD (j+1) 0],by rw[Zr];first|done|rfl,by rw[YB];first|done|rfl,by omega,by omega,by rw[Zr];simp;omega,by simp,by rw[hv,hst]⟩,by simp[ZK,Ab.get,D.val,ZE];omega⟩|exact⟨⟨j+3,b.length+1,n,b++ [orB (KP (r.getD (j+1) 0).toNat) (KP (r.getD (j+2) 0).toNat)],by rw[Zr];first|done|rfl,by rw[YB];first|done|rfl,by omega,by omega,by rw[Zr];simp;omega,by simp,by rw[hv,hst]⟩,by simp[ZK,Ab.get,D.val,ZE];omega⟩|exact⟨⟨j+1,e,n,b++ [r.getD j 0],by rw[Zr];first|done|rfl,by rw[YB];first|done|rfl,by omega,by omega,by rw[Zr];simp;omega,by simp;omega,by rw[hv,hst]⟩,by simp[ZK,Ab.get,D.val,ZE];omega⟩|exact⟨⟨j+1,b.length+1,n,b++ [r.getD j 0],by rw[Zr];first|done|rfl,by rw[YB];first|done|rfl,by omega,by omega,by rw[Zr];simp;omega,by simp,by rw[hv,hst]⟩,by simp[ZK,Ab.get,D.val,ZE];omega⟩
     ·refine WI.regB tT [0,4,5,6,7,74] ?_;refine oS ?_;refine oG (hok:=by first|exact se|(clear uu;grind)|exact sd) ?_;refine oS ?_
      iterate 6 refine oG (hok:=by first|exact se|(clear uu;grind)|exact sd) ?_
      refine oS ?_
      iterate 4 refine oG (hok:=by first|exact se|(clear uu;grind)|exact sd) ?_
      refine oC (hok:=by first|exact se|(clear uu;grind)|exact sd) ?_
      iterate 2 refine oG (hok:=by first|exact se|(clear uu;grind)|exact sd) ?_
      refine oS ?_
      iterate 4 refine oG (hok:=by first|exact se|(clear uu;grind)|exact sd) ?_
      refine oC (hok:=by first|exact se|(clear uu;grind)|exact sd) ?_
      iterate 2 refine oG (hok:=by first|exact se|(clear uu;grind)|exact sd) ?_
      refine oS ?_;refine oN ?_;refine nz ?_;refine cd (fun h3=> ?_) (fun h3=> ?_)
      ·have hx1:KP (r.getD (j+1) 0).toNat<16:=by clear uu;grind
       have hx2:KP (r.getD (j+2) 0).toNat<16:=by clear uu;grind
       have hst:=ZcG n r b j e (ZOa (by clear uu;grind)) (by clear uu;grind) (by rw[hfe];clear uu;grind) hx1 hx2;have uu:=ZA uu (ZfX _ _ hx1 hx2);refine WI.post ?_;refine WI.dregB tT [0,4,6] ?_
       iterate 3 refine Zo ?_
       iterate 2 refine Ym (hok:=by first|exact se|(clear uu;grind)|exact sd) ?_
       refine dAC (hok:=by first|exact se|(clear uu;grind)|exact sd) ?_;refine Ym (hok:=by first|exact se|(clear uu;grind)|exact sd) ?_
       iterate 2 refine Zo ?_
       iterate 2 refine Ym (hok:=by first|exact se|(clear uu;grind)|exact sd) ?_
       refine dAC (hok:=by first|exact se|(clear uu;grind)|exact sd) ?_
       iterate 2 refine Ym (hok:=by first|exact se|(clear uu;grind)|exact sd) ?_
       iterate 2 refine dAG (hok:=by first|exact se|(clear uu;grind)|exact sd) ?_
       refine Zo ?_;refine dP ?_;refine Yo [0] ?_;refine JR ?_;refine nz ?_;refine WI.regB tT [0,4,6] ?_;refine oS ?_;refine oG (hok:=by first|exact se|(clear uu;grind)|exact sd) ?_;refine oS ?_;refine oN ?_;refine nz ?_;refine WI.regB tT [0,4,5,6] ?_;refine oS ?_;refine oG (hok:=by first|exact se|(clear uu;grind)|exact sd) ?_;refine oS ?_;refine oN ?_;refine nz ?_;refine WI.orderA [0,4,5,6] ?_;refine WI.regB tT [0,4,5,6] ?_;refine oS ?_;refine oG (hok:=by first|exact se|(clear uu;grind)|exact sd) ?_;refine oS ?_;refine oN ?_;refine nz ?_
       first|exact⟨⟨j+2,b.length+1,n,b++ [r.getD (j+1) 0],by rw[Zr];first|done|rfl,by rw[YB];first|done|rfl,by omega,by omega,by rw[Zr];simp;omega,by simp,by rw[hv,hst]⟩,by simp[ZK,Ab.get,D.val,ZE];omega⟩|exact⟨⟨j+3,b.length+1,n,b++ [orB (KP (r.getD (j+1) 0).toNat) (KP (r.getD (j+2) 0).toNat)],by rw[Zr];first|done|rfl,by rw[YB];first|done|rfl,by omega,by omega,by rw[Zr];simp;omega,by simp,by rw[hv,hst]⟩,by simp[ZK,Ab.get,D.val,ZE];omega⟩|exact⟨⟨j+1,e,n,b++ [r.getD j 0],by rw[Zr];first|done|rfl,by rw[YB];first|done|rfl,by omega,by omega,by rw[Zr];simp;omega,by simp;omega,by rw[hv,hst]⟩,by simp[ZK,Ab.get,D.val,ZE];omega⟩|exact⟨⟨j+1,b.length+1,n,b++ [r.getD j 0],by rw[Zr];first|done|rfl,by rw[YB];first|done|rfl,by omega,by omega,by rw[Zr];simp;omega,by simp,by rw[hv,hst]⟩,by simp[ZK,Ab.get,D.val,ZE];omega⟩
      ·refine WI.regB tT [0,4,5,6,7,120] ?_;refine oS ?_;refine oG (hok:=by first|exact se|(clear uu;grind)|exact sd) ?_;refine oS ?_;refine oN ?_;refine nz ?_;refine cd (fun h4=> ?_) (fun h4=> ?_)
       ·have hst:=ZUM n r b j e hj4 (ZJP (by first|exact h4|simpa using h4));refine WI.post ?_;refine WI.regB tT [0,4,5,6] ?_
        iterate 2 refine oS ?_
        iterate 2 refine oG (hok:=by first|exact se|(clear uu;grind)|exact sd) ?_
        refine oS ?_;refine oP ?_;refine Yo [0] ?_;refine JR ?_;refine nz ?_;refine WI.orderA [0,4,5,6] ?_;refine WI.regB tT [0,4,5,6] ?_;refine oS ?_;refine oG (hok:=by first|exact se|(clear uu;grind)|exact sd) ?_;refine oS ?_;refine oN ?_;refine nz ?_
        first|exact⟨⟨j+2,b.length+1,n,b++ [r.getD (j+1) 0],by rw[Zr];first|done|rfl,by rw[YB];first|done|rfl,by omega,by omega,by rw[Zr];simp;omega,by simp,by rw[hv,hst]⟩,by simp[ZK,Ab.get,D.val,ZE];omega⟩|exact⟨⟨j+3,b.length+1,n,b++ [orB (KP (r.getD (j+1) 0).toNat) (KP (r.getD (j+2) 0).toNat)],by rw[Zr];first|done|rfl,by rw[YB];first|done|rfl,by omega,by omega,by rw[Zr];simp;omega,by simp,by rw[hv,hst]⟩,by simp[ZK,Ab.get,D.val,ZE];omega⟩|exact⟨⟨j+1,e,n,b++ [r.getD j 0],by rw[Zr];first|done|rfl,by rw[YB];first|done|rfl,by omega,by omega,by rw[Zr];simp;omega,by simp;omega,by rw[hv,hst]⟩,by simp[ZK,Ab.get,D.val,ZE];omega⟩|exact⟨⟨j+1,b.length+1,n,b++ [r.getD j 0],by rw[Zr];first|done|rfl,by rw[YB];first|done|rfl,by omega,by omega,by rw[Zr];simp;omega,by simp,by rw[hv,hst]⟩,by simp[ZK,Ab.get,D.val,ZE];omega⟩
       ·refine WI.regB tT [0,4,6,7,127] ?_;refine oS ?_;refine oG (hok:=by first|exact se|(clear uu;grind)|exact sd) ?_;refine oS ?_
        iterate 3 refine oG (hok:=by first|exact se|(clear uu;grind)|exact sd) ?_
        refine oS ?_;refine oG (hok:=by first|exact se|(clear uu;grind)|exact sd) ?_;refine oC (hok:=by first|exact se|(clear uu;grind)|exact sd) ?_
        iterate 5 refine oG (hok:=by first|exact se|(clear uu;grind)|exact sd) ?_
        refine oS ?_
        iterate 8 refine oG (hok:=by first|exact se|(clear uu;grind)|exact sd) ?_
        refine oS ?_;refine oN ?_;refine nz ?_;refine cd (fun h5=> ?_) (fun h5=> ?_)
        ·refine WI.regB tT [2,3] ?_
         iterate 2 refine oS ?_
         refine oN ?_;refine nz ?_;refine lf ?_;have hno:Jd (n+1) (r.drop j) b e=none:=by
          by_cases hc:r.getD j 0=92
          ·have hc':((r.getD j 0).toNat:Int)=92:=by rw[hc];rfl
           exact ZbX n r b j e hj4 hc (by rw[hfe];clear uu;grind) (by clear uu;grind)
          ·exact ZbY n r b j e hj4 hc (by rw[hbe];clear uu;grind)
         rw[hv,hno]at hq;cases hq;rfl
        ·have hc9:r.getD j 0≠92:=by
          intro hc;have hc':((r.getD j 0).toNat:Int)=92:=by rw[hc];rfl
          have hs9:spc (r.getD j 0).toNat=true:=by rw[hc];exact Ze1
          clear uu;grind
         have hst:=ZUl n r b j e hj4 hc9 (by rw[hbe];clear uu;grind) (neD (k:=32) (by decide) (by clear uu;grind));refine WI.post ?_;refine WI.regB tT [0,4,6] ?_
         iterate 2 refine oS ?_
         iterate 2 refine oG (hok:=by first|exact se|(clear uu;grind)|exact sd) ?_
         refine oS ?_;refine oP ?_;refine Yo [0] ?_;refine JR ?_;refine nz ?_;refine WI.regB tT [0,4,5,6] ?_;refine oS ?_;refine oG (hok:=by first|exact se|(clear uu;grind)|exact sd) ?_;refine oS ?_;refine oN ?_;refine nz ?_;refine WI.orderA [0,4,5,6] ?_;refine WI.regB tT [0,4,5,6] ?_;refine oS ?_;refine oG (hok:=by first|exact se|(clear uu;grind)|exact sd) ?_;refine oS ?_;refine oN ?_;refine nz ?_
         first|exact⟨⟨j+2,b.length+1,n,b++ [r.getD (j+1) 0],by rw[Zr];first|done|rfl,by rw[YB];first|done|rfl,by omega,by omega,by rw[Zr];simp;omega,by simp,by rw[hv,hst]⟩,by simp[ZK,Ab.get,D.val,ZE];omega⟩|exact⟨⟨j+3,b.length+1,n,b++ [orB (KP (r.getD (j+1) 0).toNat) (KP (r.getD (j+2) 0).toNat)],by rw[Zr];first|done|rfl,by rw[YB];first|done|rfl,by omega,by omega,by rw[Zr];simp;omega,by simp,by rw[hv,hst]⟩,by simp[ZK,Ab.get,D.val,ZE];omega⟩|exact⟨⟨j+1,e,n,b++ [r.getD j 0],by rw[Zr];first|done|rfl,by rw[YB];first|done|rfl,by omega,by omega,by rw[Zr];simp;omega,by simp;omega,by rw[hv,hst]⟩,by simp[ZK,Ab.get,D.val,ZE];omega⟩|exact⟨⟨j+1,b.length+1,n,b++ [r.getD j 0],by rw[Zr];first|done|rfl,by rw[YB];first|done|rfl,by omega,by omega,by rw[Zr];simp;omega,by simp,by rw[hv,hst]⟩,by simp[ZK,Ab.get,D.val,ZE];omega⟩
    ·have hv2:Jd (s.length+1) r [] 0=some (b,e):=by rw[hv,List.drop_of_length_le (by omega)];rfl
     rw[hv2]at hq;have e1:(List.map Zl b).take e=(b.take e).map Zl:=by rw[List.map_take]
     have uu:=ZA uu e1;refine WI.regB tT [2,3] ?_
     iterate 2 refine oS ?_
     iterate 2 refine oG (hok:=by first|exact se|(clear uu;grind)|exact sd) ?_
     iterate 2 refine oS ?_
     refine oN ?_;refine nz ?_;refine lf ?_;cases hq;rfl
def ZIS:List D→Option (Bool×D)
 | [.x (.str s)]=>some (decide (s.length≤900000),.tup [.x (.str (ZE0 s).1),.x (.bool (ZE0 s).2)])
 |_=>none
theorem ZXz: ∀args r,ZIS args=some (true,r)→ZD Tryz.prog 184 args r:=by
 intro args r h;unfold ZIS at h;split at h
 ·rename_i s;simp only[Zg,Ze,ZY,Zi,true_and]at h;obtain⟨h1,rfl⟩:=h;exact(ZeW s h1)
 ·cases h
def KC (p:Tx):List Tx→List Tx
 | []=> [p]
 |x::l=>(p++x)::l
def YT (a:UInt8):Tx→List Tx
 | []=> [[]]
 |c::r=>if c=92 then(match r with
   | []=> [[c]]
   |d::r'=>KC [c,d] (YT a r'))else if c=a then []::YT a r else KC [c] (YT a r)
theorem ZUb (p:Tx) (l:List Tx):KC p l≠ []:=by cases l<;>simp[KC]
theorem ZKa (a:UInt8) (s:Tx):YT a s≠ []:=by
 unfold YT;split
 ·simp
 ·split
  ·split
   ·simp
   ·exact ZUb _ _
  ·split
   ·simp
   ·exact ZUb _ _
theorem ZRZ (p q:Tx) (l:List Tx) (h:l≠ []):KC p (KC q l)=KC (p++q) l:=by
 rcases l with _|⟨x,l⟩
 ·exact absurd rfl h
 ·simp[KC]
theorem ZQy (l:List Tx) (h:l≠ []):KC [] l=l:=by
 rcases l with _|⟨x,l⟩
 ·exact absurd rfl h
 ·simp[KC]
theorem ZUg (a:UInt8) (s:Tx) (j:Nat) (h:j<s.length) (hc:s.getD j 0=92):YT a (s.drop j)=KC ((s.drop j).take 2) (YT a (s.drop (j+2))):=by
 rw[KA s j h,hc];rcases hr:s.drop (j+1)with _|⟨d,r⟩
 ·have:s.drop (j+2)= []:=by rw[←List.drop_drop,show s.drop j=s.drop (j+0)from rfl];have:=congrArg (List.drop 1) hr;rw[List.drop_drop]at this;simpa using this
  rw[this];rfl
 ·have:s.drop (j+2)=r:=by have:=congrArg (List.drop 1) hr;rw[List.drop_drop]at this;simpa using this
  rw[this]
  conv=>lhs;unfold YT
  rw[if_pos rfl];rfl
theorem ZcZ (a:UInt8) (ha:a≠92) (s:Tx) (j:Nat) (h:j<s.length) (hc:s.getD j 0=a):YT a (s.drop j)= []::YT a (s.drop (j+1)):=by
 rw[KA s j h,hc]
 conv=>lhs;unfold YT
 rw[if_neg ha,if_pos rfl]
theorem ZWo (a:UInt8) (s:Tx) (j:Nat) (h:j<s.length) (h1:s.getD j 0≠92) (h2:s.getD j 0≠a):YT a (s.drop j)=KC [s.getD j 0] (YT a (s.drop (j+1))):=by
 rw[KA s j h]
 conv=>lhs;unfold YT
 rw[if_neg h1,if_neg h2]
theorem ZJs (s:Tx) (f j k:Nat) (h:f≤j) (hj:j≤s.length):(s.take (j+k)).drop f=(s.take j).drop f++(s.drop j).take k:=by
 rw[List.take_add,List.drop_append_of_le_length (by simp;omega)]
theorem Zdm (s:Tx) (j:Nat) (h:j<s.length):(s.drop j).take 1= [s.getD j 0]:=by rw[KA s j h];rfl
structure SpI (a:UInt8) (s:Tx) (f j:Nat) (ps:List Tx):Prop where
 fj:f≤j
 jl:j≤s.length+1
 fl:f≤s.length
 pl:ps.length≤f
 eq:YT a s=ps++KC ((s.take j).drop f) (YT a (s.drop j))
theorem SpI.start (a:UInt8) (s:Tx):SpI a s 0 0 []:=⟨Nat.le_refl _,by omega,by omega,by simp,by show YT a s=KC [] (YT a s);rw[ZQy _ (ZKa a s)]⟩
theorem SpI.slash {a:UInt8} {s:Tx} {f j:Nat} {ps:List Tx} (I:SpI a s f j ps) (h:j<s.length) (hc:s.getD j 0=92):SpI a s f (j+2) ps:=
 ⟨by have:=I.fj;omega,by omega,I.fl,I.pl,by rw[I.eq,ZUg a s j h hc,ZRZ _ _ _ (ZKa _ _),ZJs s f j 2 I.fj (by omega)]⟩
theorem SpI.hit {a:UInt8} (ha:a≠92) {s:Tx} {f j:Nat} {ps:List Tx} (I:SpI a s f j ps) (h:j<s.length) (hc:s.getD j 0=a):SpI a s (j+1) (j+1) (ps++ [(s.take j).drop f]):=
 ⟨Nat.le_refl _,by omega,by omega,by have:=I.pl;have:=I.fj;simp;omega,by
  rw[I.eq,ZcZ a ha s j h hc,List.drop_of_length_le (l:=s.take (j+1)) (by simp;omega),ZQy _ (ZKa _ _)];simp[KC]⟩
theorem SpI.plain {a:UInt8} {s:Tx} {f j:Nat} {ps:List Tx} (I:SpI a s f j ps) (h:j<s.length) (h1:s.getD j 0≠92) (h2:s.getD j 0≠a):SpI a s f (j+1) ps:=
 ⟨by have:=I.fj;omega,by omega,I.fl,I.pl,by rw[I.eq,ZWo a s j h h1 h2,ZRZ _ _ _ (ZKa _ _),ZJs s f j 1 I.fj (by omega),Zdm s j h]⟩
theorem SpI.fin {a:UInt8} {s:Tx} {f j:Nat} {ps:List Tx} (I:SpI a s f j ps) (h:s.length≤j):YT a s=ps++ [s.drop f]:=by
 rw[I.eq,List.drop_of_length_le h,YL h];simp[YT,KC]
theorem QQ (l:List Tx) (x:Tx):rows ZI l++ [[X.str x]]=rows ZI (l++ [x]):=by simp[rows,ZI]
theorem cD {c a:UInt8} (h:(c.toNat:Int)=a.toNat):c=a:=UInt8.toNat_inj.1 (by omega)
theorem nD {c a:UInt8} (h: ¬(c.toNat:Int)=a.toNat):c≠a:=fun e=>h (by rw[e])
theorem ZNp (a:UInt8) (ha:a≠92) (s:Tx) (hl:s.length≤1000000):ZD Tryz.prog 166 [.x (.str s),.x (.int .u8 a.toNat)] (.x (.sl (rows ZI (YT a s)))):=by
 refine ZN.pure (ZO (fz:=true) ZH (p:=ZLU) rfl _ (ξ rfl) _ (fun C0 E0=> ?_)) rfl;dsimp only[ZLU,qt,qi,qs,qb,qm,qa,qh,qj,qT,qF,qe,ql,qL,qf,q2,q3,q8,qz,qp,qP,qc,qk,qx,qy,qo,qr,qC,ZQ];have uu:=trivial;have tT:=(ZG:SsOk Tryz.prog ZW);refine nz ?_;refine rg tT [0,1] ?_;refine rg tT [0,1,5] ?_;refine rg tT [0,1,5,6] ?_;refine rg tT [0,1,5,6,7] ?_;refine WI.ownA 5 9 1 ?_;refine WI.loop (fun φ os=> ∃(f j:Nat) (ps:List Tx),φ= [(0,.x (.str s)),(1,.x (.int .u8 a.toNat)),(5,.ref 0 ps.length 0 ps.length),(6,.x (.int .i64 f)),(7,.x (.int .i64 j))]∧os= [.rows false 9 1 (rows ZI ps)]∧SpI a s f j ps) (ZK (s.length+1) 7) ?_ (fun φ os hI=> ?_)
 ·exact⟨0,0,[],rfl,rfl,SpI.start a s⟩
 ·obtain⟨f,j,ps,rfl,rfl,I⟩:=hI;have i1:=I.fj;have i2:=I.jl;have i3:=I.fl;have i4:=I.pl;refine nz ?_;refine rg tT [0,1,5,6,7,11] ?_;refine cd (fun h0=> ?_) (fun h0=> ?_)
  ·have hj4:j<s.length:=by omega
   refine rg tT [0,1,5,6,7,16] ?_;refine rg tT [0,1,5,6,7,16,17] ?_;refine cd (fun h1=> ?_) (fun h1=> ?_)
   ·have hc:s.getD j 0=92:=ZOa (by first|exact h1|simpa using h1);refine rg tT [0,1,5,6,7] ?_;refine WI.orderA [0,1,5,6,7] ?_;refine rg tT [0,1,5,6,7] ?_
    first|exact⟨⟨f,j+2,ps,rfl,rfl,I.slash hj4 hc⟩,by simp[ZK,Ab.get,D.val,ZE];omega⟩|exact⟨⟨j+1,j+1,ps++ [(s.take j).drop f],by rw[Zr];first|done|rfl,by rw[←QQ];first|done|rfl,I.hit ha hj4 hc⟩,by simp[ZK,Ab.get,D.val,ZE];omega⟩|exact⟨⟨f,j+1,ps,rfl,rfl,I.plain hj4 hc1 hc2⟩,by simp[ZK,Ab.get,D.val,ZE];omega⟩
   ·have hc1:s.getD j 0≠92:=neD (k:=92) (by decide) (by first|exact h1|simpa using h1);refine rg tT [0,1,5,6,7,21] ?_;refine cd (fun h2=> ?_) (fun h2=> ?_)
    ·have hc:s.getD j 0=a:=cD (by first|exact h2|simpa using h2);refine rgp tT [0,1,5,7] ?_;refine Yo [0] ?_;refine JR ?_;refine nz ?_;refine rg tT [0,1,5,6,7] ?_;refine WI.orderA [0,1,5,6,7] ?_;refine rg tT [0,1,5,6,7] ?_
     first|exact⟨⟨f,j+2,ps,rfl,rfl,I.slash hj4 hc⟩,by simp[ZK,Ab.get,D.val,ZE];omega⟩|exact⟨⟨j+1,j+1,ps++ [(s.take j).drop f],by rw[Zr];first|done|rfl,by rw[←QQ];first|done|rfl,I.hit ha hj4 hc⟩,by simp[ZK,Ab.get,D.val,ZE];omega⟩|exact⟨⟨f,j+1,ps,rfl,rfl,I.plain hj4 hc1 hc2⟩,by simp[ZK,Ab.get,D.val,ZE];omega⟩
    ·have hc2:s.getD j 0≠a:=nD (by first|exact h2|simpa using h2);refine WI.orderA [0,1,5,6,7] ?_;refine rg tT [0,1,5,6,7] ?_
     first|exact⟨⟨f,j+2,ps,rfl,rfl,I.slash hj4 hc⟩,by simp[ZK,Ab.get,D.val,ZE];omega⟩|exact⟨⟨j+1,j+1,ps++ [(s.take j).drop f],by rw[Zr];first|done|rfl,by rw[←QQ];first|done|rfl,I.hit ha hj4 hc⟩,by simp[ZK,Ab.get,D.val,ZE];omega⟩|exact⟨⟨f,j+1,ps,rfl,rfl,I.plain hj4 hc1 hc2⟩,by simp[ZK,Ab.get,D.val,ZE];omega⟩
  ·refine rg tT [4] ?_;refine lf ?_;rw[QQ,I.fin (by omega),YL (by simp[rows])]
def Jw:List D→Option (Bool×D)
 | [.x (.str s),.x (.int .u8 n)]=>some (decide (s.length≤1000000)&&(decide (n=43∨n=44)),.x (.sl (rows ZI (YT (UInt8.ofNat n.toNat) s))))
 |_=>none
theorem ZGS: ∀args r,Jw args=some (true,r)→ZD Tryz.prog 166 args r:=by
 intro args r h;unfold Jw at h;split at h
 ·rename_i s n;simp only[Zg,Ze,ZY,Zi,true_and]at h;obtain⟨⟨h1,h2⟩,rfl⟩:=h;exact(by rcases h2 with rfl|rfl;exact ZNp 43 (by decide) s h1;exact ZNp 44 (by decide) s h1)
 ·cases h
theorem ZOk (a:UInt8) (ha:a≠92) (s:Tx) (hl:s.length≤1000000):ZD Tryz.prog 158 [.x (.str s),.x (.int .u8 a.toNat)] (.x (.sl (rows ZI (YT a s)))):=by
 refine ZN.pure (ZO (fz:=true) ZH (p:=ZR0) rfl _ (ξ rfl) _ (fun C0 E0=> ?_)) rfl;dsimp only[ZR0,qt,qi,qs,qb,qm,qa,qh,qj,qT,qF,qe,ql,qL,qf,q2,q3,q8,qz,qp,qP,qc,qk,qx,qy,qo,qr,qC,ZQ];have uu:=trivial;have tT:=(ZG:SsOk Tryz.prog ZW);refine nz ?_;refine rg tT [0,1] ?_;refine rg tT [0,1,5] ?_;refine rg tT [0,1,5,6] ?_;refine rg tT [0,1,5,6,7] ?_;refine WI.ownA 5 9 1 ?_;refine WI.loop (fun φ os=> ∃(f j:Nat) (ps:List Tx),φ= [(0,.x (.str s)),(1,.x (.int .u8 a.toNat)),(5,.ref 0 ps.length 0 ps.length),(6,.x (.int .i64 f)),(7,.x (.int .i64 j))]∧os= [.rows false 9 1 (rows ZI ps)]∧SpI a s f j ps) (ZK (s.length+1) 7) ?_ (fun φ os hI=> ?_)
 ·exact⟨0,0,[],rfl,rfl,SpI.start a s⟩
 ·obtain⟨f,j,ps,rfl,rfl,I⟩:=hI;have i1:=I.fj;have i2:=I.jl;have i3:=I.fl;have i4:=I.pl;refine nz ?_;refine rg tT [0,1,5,6,7,11] ?_;refine cd (fun h0=> ?_) (fun h0=> ?_)
  ·have hj4:j<s.length:=by omega
   refine rg tT [0,1,5,6,7,17] ?_;refine cd (fun h1=> ?_) (fun h1=> ?_)
   ·have hc:s.getD j 0=92:=ZOa (by first|exact h1|simpa using h1);refine rg tT [0,1,5,6,7] ?_;refine WI.orderA [0,1,5,6,7] ?_;refine rg tT [0,1,5,6,7] ?_
    first|exact⟨⟨f,j+2,ps,rfl,rfl,I.slash hj4 hc⟩,by simp[ZK,Ab.get,D.val,ZE];omega⟩|exact⟨⟨j+1,j+1,ps++ [(s.take j).drop f],by rw[Zr];first|done|rfl,by rw[←QQ];first|done|rfl,I.hit ha hj4 hc⟩,by simp[ZK,Ab.get,D.val,ZE];omega⟩|exact⟨⟨f,j+1,ps,rfl,rfl,I.plain hj4 hc1 hc2⟩,by simp[ZK,Ab.get,D.val,ZE];omega⟩
   ·have hc1:s.getD j 0≠92:=neD (k:=92) (by decide) (by first|exact h1|simpa using h1);refine rg tT [0,1,5,6,7,24] ?_;refine cd (fun h2=> ?_) (fun h2=> ?_)
    ·have hc:s.getD j 0=a:=cD (by first|exact h2|simpa using h2);refine rgp tT [0,1,5,7] ?_;refine Yo [0] ?_;refine JR ?_;refine nz ?_;refine rg tT [0,1,5,6,7] ?_;refine WI.orderA [0,1,5,6,7] ?_;refine rg tT [0,1,5,6,7] ?_
     first|exact⟨⟨f,j+2,ps,rfl,rfl,I.slash hj4 hc⟩,by simp[ZK,Ab.get,D.val,ZE];omega⟩|exact⟨⟨j+1,j+1,ps++ [(s.take j).drop f],by rw[Zr];first|done|rfl,by rw[←QQ];first|done|rfl,I.hit ha hj4 hc⟩,by simp[ZK,Ab.get,D.val,ZE];omega⟩|exact⟨⟨f,j+1,ps,rfl,rfl,I.plain hj4 hc1 hc2⟩,by simp[ZK,Ab.get,D.val,ZE];omega⟩
    ·have hc2:s.getD j 0≠a:=nD (by first|exact h2|simpa using h2);refine WI.orderA [0,1,5,6,7] ?_;refine rg tT [0,1,5,6,7] ?_
     first|exact⟨⟨f,j+2,ps,rfl,rfl,I.slash hj4 hc⟩,by simp[ZK,Ab.get,D.val,ZE];omega⟩|exact⟨⟨j+1,j+1,ps++ [(s.take j).drop f],by rw[Zr];first|done|rfl,by rw[←QQ];first|done|rfl,I.hit ha hj4 hc⟩,by simp[ZK,Ab.get,D.val,ZE];omega⟩|exact⟨⟨f,j+1,ps,rfl,rfl,I.plain hj4 hc1 hc2⟩,by simp[ZK,Ab.get,D.val,ZE];omega⟩
  ·refine rg tT [4] ?_;refine lf ?_;rw[QQ,I.fin (by omega),YL (by simp[rows])]
def ZDe:List D→Option (Bool×D)
 | [.x (.str s),.x (.int .u8 n)]=>some (decide (s.length≤1000000)&&(decide (n=43∨n=44)),.x (.sl (rows ZI (YT (UInt8.ofNat n.toNat) s))))
 |_=>none
theorem ZS4: ∀args r,ZDe args=some (true,r)→ZD Tryz.prog 158 args r:=by
 intro args r h;unfold ZDe at h;split at h
 ·rename_i s n;simp only[Zg,Ze,ZY,Zi,true_and]at h;obtain⟨⟨h1,h2⟩,rfl⟩:=h;exact(by rcases h2 with rfl|rfl;exact ZOk 43 (by decide) s h1;exact ZOk 44 (by decide) s h1)
 ·cases h
def ZaB (n:Nat):Bool:=decide (97≤n∧n≤122)||decide (65≤n∧n≤90)
def ZaA (n:Nat):Bool:=decide (48≤n∧n≤57)||decide (n=45)
def tyC (i:Nat) (c:UInt8):Bool:=ZaB c.toNat||(decide (0<i)&&ZaA c.toNat)
def tyU (s:List UInt8):Nat→Bool
 |0=>true
 |j+1=>tyU s j&&tyC j (s.getD j 0)
def tyA (s:List UInt8) (j:Nat):Bool:=(decide (s≠ [])&&decide (s.length≤64))&&tyU s j
def YO (s:List UInt8):Bool:=tyA s s.length
theorem ZK9 (s:List UInt8):YO s=(decide (1≤s.length∧s.length≤64)&&tyU s s.length):=by
 unfold YO tyA;congr 1;rcases s with _|⟨c,s⟩<;>simp
theorem ZUe (s:List UInt8): ∀(n j:Nat),j<n→tyC j (s.getD j 0)=false→tyU s n=false
 |n+1,j,hj,h=>by
  rw[tyU];by_cases e:j=n
  ·subst e;rw[h,Bool.and_false]
  ·rw[ZUe s n j (by omega) h,Bool.false_and]
theorem Zcs (j:Nat) (c:UInt8):(((decide ((Js c).toNat≥97)&&decide ((Js c).toNat≤122))||(decide (j>0)&&((decide ((Js c).toNat≥48)&&decide ((Js c).toNat≤57))||decide ((Js c).toNat=45)))))=tyC j c:=by
 have h8:=UInt8.toNat_lt c;unfold tyC ZaB ZaA;by_cases h:65≤c.toNat∧c.toNat≤90
 ·have e:(Js c).toNat=c.toNat+32:=by have:=ZFj h;omega
  rw[e,Bool.eq_iff_iff];simp only[Bool.or_eq_true,ZY,Zi];omega
 ·have e:Js c=c:=if_neg h;rw[e,Bool.eq_iff_iff];simp only[Bool.or_eq_true,ZY,Zi];omega
theorem ZQX (s:List UInt8):(!s== []&&decide ((s.length:Int)≤64))=tyA s 0:=by
 unfold tyA;rw[tyU,Bool.and_true,Bool.eq_iff_iff];simp;omega
theorem ZRL (s:List UInt8) (j:Nat):(tyA s j&&(decide (((Js (s.getD j 0)).toNat:Int)≥97)&&decide (((Js (s.getD j 0)).toNat:Int)≤122)||decide ((j:Int)>0)&&(decide (((Js (s.getD j 0)).toNat:Int)≥48)&&decide (((Js (s.getD j 0)).toNat:Int)≤57)||((Js (s.getD j 0)).toNat:Int)==45)))=tyA s (j+1):=by
 have h:=Zcs j (s.getD j 0);unfold tyA;rw[tyU,←h,←Bool.and_assoc];congr 1;rw[Bool.eq_iff_iff];simp only[Bool.or_eq_true,ZY,Zi,beq_iff_eq];omega
theorem ZRE (s:List UInt8) (i:Nat) (h:i<s.length):((ZB s).map Zl)[i]? =some [X.int .u8 (Js (s.getD i 0)).toNat]:=by
 simp[ZB,h,Zl]
def ZKy:Tabs:=Za (ZW) 37 ZAC
theorem ZMQ:SsOk Tryz.prog ZKy:=ZL (ZG) (ZC ZH (p:=i37) rfl) ZL0
theorem ZJx (a:List D):ZKy.q 37 a=ZAC a:=rfl
theorem ZM3 (f:FuncId) (a:List D) (o:List Ob):ZKy.r f a o=none:=rfl
theorem ZN8 (f:FuncId) (a:List D) (o:List Ob):ZKy.k f a o=none:=rfl
theorem ZVV (j:Nat) (c:UInt8):tyC j c=((decide (((c.toNat:Int))≥97)&&decide ((c.toNat:Int)≤122)||decide ((c.toNat:Int)≥65)&&decide ((c.toNat:Int)≤90))||(decide ((j:Int)≠0)&&(decide ((c.toNat:Int)≥48)&&decide ((c.toNat:Int)≤57)||decide ((c.toNat:Int)=45)))):=by
 unfold tyC ZaB ZaA;rw[Bool.eq_iff_iff];simp only[Bool.or_eq_true,ZY,Zi];omega
theorem Zb4 (s:List UInt8) (hl:s.length≤1000000):ZD Tryz.prog 115 [.x (.str s)] (.x (.bool (YO s))):=by
 refine ZN.pure (ZO (fz:=true) ZH (p:=ZLP) rfl _ (ξ rfl) _ (fun C0 E0=> ?_)) rfl;dsimp only[ZLP,qt,qi,qs,qb,qm,qa,qh,qj,qT,qF,qe,ql,qL,qf,q2,q3,q8,qz,qp,qP,qc,qk,qx,qy,qo,qr,qC,ZQ];have uu:=trivial;have tT:=(ZG:SsOk Tryz.prog ZW);refine nz ?_;refine rg tT [0] ?_;refine rg tT [0,3] ?_;refine WI.loop (fun φ os=> ∃(j:Nat),φ= [(0,.x (.str s)),(3,.x (.int .i64 j))]∧os= []∧j≤s.length∧tyU s j=true) (ZK s.length 3) ?_ (fun φ os hI=> ?_)
 ·exact⟨0,rfl,rfl,by omega,rfl⟩
 ·obtain⟨j,rfl,rfl,hj,hu⟩:=hI;refine nz ?_;refine rg tT [0,3,9] ?_;refine cd (fun h0=> ?_) (fun h0=> ?_)
  ·refine rg tT [0,3,4] ?_;refine rg tT [0,3,4,5] ?_;refine rg tT [0,3,47] ?_;refine cd (fun h1=> ?_) (fun h1=> ?_)
   ·have hc:tyC j (s.getD j 0)=false:=by rw[ZVV];grind
    refine rg tT [2] ?_;refine lf ?_;rw[ZK9,ZUe s s.length j (by omega) hc,Bool.and_false]
   ·have hc:tyC j (s.getD j 0)=true:=by rw[ZVV];grind
    refine rg tT [0,3] ?_;exact⟨⟨j+1,rfl,rfl,by omega,by rw[tyU,hu,hc];rfl⟩,by simp[ZK,Ab.get,D.val,ZE];omega⟩
  ·refine rg tT [2] ?_;refine lf ?_;rw[ZK9,show s.length=j by omega,hu,Bool.and_true];congr 2;rw[Bool.eq_iff_iff];simp;omega
def Kb:List D→Option (Bool×D)
 | [.x (.str s)]=>some (decide (s.length≤1000000),.x (.bool (YO s)))
 |_=>none
theorem ZH0: ∀args r,Kb args=some (true,r)→ZD Tryz.prog 115 args r:=by
 intro args r h;unfold Kb at h;split at h
 ·rename_i s;simp only[Zg,Ze,ZY,Zi,true_and]at h;obtain⟨h1,rfl⟩:=h;exact(Zb4 s h1)
 ·cases h
theorem ZZ3 (s:List UInt8) (hl:s.length≤1000000):ZD Tryz.prog 208 [.x (.str s)] (.x (.bool (YO s))):=by
 refine ZN.pure (ZO (fz:=true) ZH (p:=ZNR) rfl _ (ξ rfl) _ (fun C0 E0=> ?_)) rfl;dsimp only[ZNR,qt,qi,qs,qb,qm,qa,qh,qj,qT,qF,qe,ql,qL,qf,q2,q3,q8,qz,qp,qP,qc,qk,qx,qy,qo,qr,qC,ZQ];have uu:=ZA @ZAC.eq_1 (ZA @ZAC.eq_2 (ZA @Qp (ZA @YV (ZA @Jh (ZA @ZM3 (ZA @ZN8 (@ZJx)))))));have tT:=ZMQ;refine nz ?_;refine rg tT [0] ?_;refine rg tT [0,3] ?_;refine rg tT [3,16,17,18] ?_;refine WI.loop (fun φ os=> ∃(j:Nat),φ= [(3,.x (.bool (tyA s j))),(16,.ref 0 s.length 0 s.length),(17,.x (.int .i64 s.length)),(18,.x (.int .i64 j))]∧os= [.rows true 5 1 ((ZB s).map Zl)]∧j≤s.length) (ZK s.length 18) ?_ (fun φ os hI=> ?_)
 ·exact⟨0,by rw[←ZQX];rfl,rfl,by omega⟩
 ·obtain⟨j,rfl,rfl,hj⟩:=hI;refine nz ?_;refine rg tT [3,16,17,18,19] ?_;refine cd (fun h0=> ?_) (fun h0=> ?_)
  ·have hj4:j<s.length:=by omega
   have uu:=ZA uu (ZRE s j hj4);refine rg tT [3,4,5,16,17,18] ?_;refine rg tT [3,4,5,6,16,17,18] ?_;refine rg tT [3,16,17,18] ?_;refine rg tT [3,16,17,18] ?_;exact⟨⟨j+1,by rw[←ZRL];rfl,rfl,by omega⟩,by simp[ZK,Ab.get,D.val,ZE];omega⟩
  ·refine rg tT [2] ?_;refine lf ?_;rw[show YO s=tyA s j from by rw[show j=s.length by omega];rfl]
def QC:List D→Option (Bool×D)
 | [.x (.str s)]=>some (decide (s.length≤1000000),.x (.bool (YO s)))
 |_=>none
theorem ZJn: ∀args r,QC args=some (true,r)→ZD Tryz.prog 208 args r:=by
 intro args r h;unfold QC at h;split at h
 ·rename_i s;simp only[Zg,Ze,ZY,Zi,true_and]at h;obtain⟨h1,rfl⟩:=h;exact(ZZ3 s h1)
 ·cases h
theorem ZZF (s:List UInt8) (hl:s.length≤1000000):ZD Tryz.prog 114 [.x (.str s)] (.x (.bool (YO s))):=by
 refine ZN.pure (ZO (fz:=true) ZH (p:=ZSz) rfl _ (ξ rfl) _ (fun C0 E0=> ?_)) rfl;dsimp only[ZSz,qt,qi,qs,qb,qm,qa,qh,qj,qT,qF,qe,ql,qL,qf,q2,q3,q8,qz,qp,qP,qc,qk,qx,qy,qo,qr,qC,ZQ];have uu:=ZA @ZAC.eq_1 (ZA @ZAC.eq_2 (ZA @Qp (ZA @YV (ZA @Jh (ZA @ZM3 (ZA @ZN8 (@ZJx)))))));have tT:=ZMQ;refine nz ?_;refine rg tT [0] ?_;refine rg tT [0,3] ?_;refine rg tT [3,16,17,18] ?_;refine WI.loop (fun φ os=> ∃(j:Nat),φ= [(3,.x (.bool (tyA s j))),(16,.ref 0 s.length 0 s.length),(17,.x (.int .i64 s.length)),(18,.x (.int .i64 j))]∧os= [.rows true 5 1 ((ZB s).map Zl)]∧j≤s.length) (ZK s.length 18) ?_ (fun φ os hI=> ?_)
 ·exact⟨0,by rw[←ZQX];rfl,rfl,by omega⟩
 ·obtain⟨j,rfl,rfl,hj⟩:=hI;refine nz ?_;refine rg tT [3,16,17,18,19] ?_;refine cd (fun h0=> ?_) (fun h0=> ?_)
  ·have hj4:j<s.length:=by omega
   have uu:=ZA uu (ZRE s j hj4);refine rg tT [3,4,5,16,17,18] ?_;refine rg tT [3,4,5,6,16,17,18] ?_;refine rg tT [3,16,17,18] ?_;refine rg tT [3,16,17,18] ?_;exact⟨⟨j+1,by rw[←ZRL];rfl,rfl,by omega⟩,by simp[ZK,Ab.get,D.val,ZE];omega⟩
  ·refine rg tT [2] ?_;refine lf ?_;rw[show YO s=tyA s j from by rw[show j=s.length by omega];rfl]
def ZBW:List D→Option (Bool×D)
 | [.x (.str s)]=>some (decide (s.length≤1000000),.x (.bool (YO s)))
 |_=>none
theorem ZSV: ∀args r,ZBW args=some (true,r)→ZD Tryz.prog 114 args r:=by
 intro args r h;unfold ZBW at h;split at h
 ·rename_i s;simp only[Zg,Ze,ZY,Zi,true_and]at h;obtain⟨h1,rfl⟩:=h;exact(ZZF s h1)
 ·cases h
end Go.Proofs.YtpjfdjcejamebaaGreatDoor
end
section
namespace Go.Proofs
open Go.Shelf Go.RowKit Go.Lib
variable {P:Program} {ρ:Ren}
set_option maxHeartbeats 2000000 in
set_option maxRecDepth 100000 in
theorem Any1.stringslite_Cut_one (L:Lays.n220 P ρ) (s:ByteArray) (b:UInt8) (w:World) (hs:s.size<4294967281):
  Calls P (ρ.f 220) #[.string s,.string ⟨#[b]⟩] w fun e w'=>e= .returned (.tuple #[.string ⟨(Lib.cut s.data.toList [b]).1.toArray⟩,.string ⟨(Lib.cut s.data.toList [b]).2.1.toArray⟩,.bool (Lib.cut s.data.toList [b]).2.2])∧ ∃n,w'=w.drewN n:=by
 rcases Lib.indexB_cases s ⟨#[b]⟩with hix|⟨i,hix,hroom⟩
 ·obtain⟨e1,e2,e3⟩:=Lib.cutB_miss s ⟨#[b]⟩ hix;rw[show [b]=(⟨#[b]⟩:ByteArray).data.toList from rfl,e1,e2,e3];have t3:=L.t3;have t4:=L.t4;have t9:=L.t9;have a3: ∀w,(isAgg (ρ.t 3)).run P w= .ok false w:=run_isAgg_plain L.t3 rfl;have a4: ∀w,(isAgg (ρ.t 4)).run P w= .ok false w:=run_isAgg_plain L.t4 rfl;have a9: ∀w,(isAgg (ρ.t 9)).run P w= .ok false w:=run_isAgg_plain L.t9 rfl;have e219: ∀args w,(callFunc (ρ.f 219) args).run P w= .ok (.enter (ρ.f 219) args) w:=enters_of L.f219 (by kernel_rfl) rfl;have mixed:=L.mixed;have z3:=L.z3;have v3:=L.v3;have z4:=L.z4;have v4:=L.v4;have z9:=L.z9;have v9:=L.v9
  go_enter L.f220,Body.n220_ntmps ρ
  go_wp2_with (go_at_fn (ρ.f 219);refine(Any.stringslite_Index_one {L with} _ _ _).mono ?_;rintro e w' ⟨rfl,rfl⟩;rw[←Lib.index_one,show Lib.index s.data.toList [b]=_ from hix])
  go_ret3
  exact⟨rfl,0,rfl⟩
 ·obtain⟨e1,e2,e3⟩:=Lib.cutB_hit s ⟨#[b]⟩ i hix;rw[show [b]=(⟨#[b]⟩:ByteArray).data.toList from rfl,e1,e2,e3];have hb1:(⟨#[b]⟩:ByteArray).size=1:=rfl;have c1:(0:Int)≤ ↑i:=by omega
  have c2:(↑i:Int)≤ ↑s.size:=by omega
  have c3:(0:Int)≤ ↑i+1:=by omega
  have c4:(↑i+1:Int)≤ ↑s.size:=by omega
  have t3:=L.t3;have t4:=L.t4;have t9:=L.t9;have a3: ∀w,(isAgg (ρ.t 3)).run P w= .ok false w:=run_isAgg_plain L.t3 rfl;have a4: ∀w,(isAgg (ρ.t 4)).run P w= .ok false w:=run_isAgg_plain L.t4 rfl;have a9: ∀w,(isAgg (ρ.t 9)).run P w= .ok false w:=run_isAgg_plain L.t9 rfl;have e219: ∀args w,(callFunc (ρ.f 219) args).run P w= .ok (.enter (ρ.f 219) args) w:=enters_of L.f219 (by kernel_rfl) rfl;have mixed:=L.mixed;have z3:=L.z3;have v3:=L.v3;have z4:=L.z4;have v4:=L.v4;have z9:=L.z9;have v9:=L.v9
  go_enter L.f220,Body.n220_ntmps ρ
  go_wp2_with (go_at_fn (ρ.f 219);refine(Any.stringslite_Index_one {L with} _ _ _).mono ?_;rintro e w' ⟨rfl,rfl⟩;rw[←Lib.index_one,show Lib.index s.data.toList [b]=_ from hix])
  go_region_o
  go_wp2
  go_ret3
  exact⟨rfl,1,rfl⟩
set_option maxHeartbeats 1000000 in
theorem Any1.strings_Cut_one (L:Lays.n145 P ρ) (s:ByteArray) (b:UInt8) (w:World) (hs:s.size<4294967281):
  Calls P (ρ.f 145) #[.string s,.string ⟨#[b]⟩] w fun e w'=>e= .returned (.tuple #[.string ⟨(Lib.cut s.data.toList [b]).1.toArray⟩,.string ⟨(Lib.cut s.data.toList [b]).2.1.toArray⟩,.bool (Lib.cut s.data.toList [b]).2.2])∧ ∃n,w'=w.drewN n:=by
 have t4:=L.t4;have t9:=L.t9;have t59:=L.t59;have a4: ∀w,(isAgg (ρ.t 4)).run P w= .ok false w:=run_isAgg_plain L.t4 rfl;have a9: ∀w,(isAgg (ρ.t 9)).run P w= .ok false w:=run_isAgg_plain L.t9 rfl;have a59: ∀w,(isAgg (ρ.t 59)).run P w= .ok false w:=run_isAgg_plain L.t59 rfl;have e220: ∀args w,(callFunc (ρ.f 220) args).run P w= .ok (.enter (ρ.f 220) args) w:=enters_of L.f220 (by kernel_rfl) rfl;have mixed:=L.mixed;have z4:=L.z4;have v4:=L.v4;have z9:=L.z9;have v9:=L.v9;have z59:=L.z59;have v59:=L.v59
 go_enter L.f145,Body.n145_ntmps ρ
 go_wp2_with (go_at_fn (ρ.f 220);refine(Any1.stringslite_Cut_one {L with} _ _ _ hs).mono ?_;rintro e w' ⟨rfl,n,rfl⟩)
 go_ret3
 exact⟨rfl,n,rfl⟩
end Go.Proofs
namespace Go.Proofs.YtpjfdjcejamebaaGreatDoor
open Go.RowKit Go.Bo Go.Ab
def Jn (c:UInt8):List UInt8→List UInt8×List UInt8×Bool
 | []=>([],[],false)
 |b::l=>if b=c then([],l,true)else(b::(Jn c l).1,(Jn c l).2.1,(Jn c l).2.2)
theorem ZRg (c:UInt8): ∀s,Lib.cut s [c]=Jn c s
 | []=>by simp[Lib.cut,Jn,Lib.index]
 |b::l=>by
  have ih:=ZRg c l;unfold Lib.cut at ih⊢;by_cases h:b=c
  ·subst h;have hp: [b].isPrefixOf (b::l)=true:=by simp[List.isPrefixOf]
   simp[Lib.index,hp,Jn]
  ·have hp: [c].isPrefixOf (b::l)=false:=by simp[List.isPrefixOf];exact fun e=>h e.symm
   rw[Jn,if_neg h,←ih];have hn:=Lib.index_ge l [c];by_cases hi:Lib.index l [c]= -1
   ·simp[Lib.index,hp,hi]
   ·obtain⟨n,hn⟩: ∃n:Nat,Lib.index l [c]=n:=⟨(Lib.index l [c]).toNat,by omega⟩;simp only[Lib.index,hp,hn,Jz,ξN];simp;omega
theorem ZfC (s:List UInt8) (c:UInt8) (hl:s.length≤1000000):ZD Tryz.prog 206 [.x (.str s),.x (.str [c])] (.tup [.x (.str (Jn c s).1),.x (.str (Jn c s).2.1),.x (.bool (Jn c s).2.2)]):=by
 intro w st vs hst hvl;obtain⟨hsz,hv⟩:=hvl;obtain⟨v0,v1,rfl⟩: ∃v0 v1,vs= #[v0,v1]:=by
  obtain⟨vl⟩:=vs
  match vl,hsz with
  | [a,b],_=>exact⟨a,b,rfl⟩
 have h0:=hv 0 _ v0 rfl rfl;have h1:=hv 1 _ v1 rfl rfl;cases h0 with
 |x h0=>
 cases h1 with
 |x h1=>
 cases h1 with
 |str _=>
 cases h0 with
 |str _=>
 have hbs:(Zc s).size=s.length:=by simp[Zc,ByteArray.size]
 refine(Any1.strings_Cut_one Tryz.lays145 (Zc s) c w (by omega)).mono ?_;rintro e w' ⟨rfl,n,rfl⟩;refine⟨_,st,rfl,⟨rfl,rfl,rfl,by simp[World.drewN],fun _ _ _=>rfl⟩,fun _ _ h=>h,fun _ _ h=> .inl h,?_⟩;have e1:(Zc s).data.toList=s:=by simp[Zc]
 rw[e1,ZRg];exact V.tup3 (V.mkstr _ _ _) (V.mkstr _ _ _) (.x (.bool _))
theorem ZS6:Go.Ab.Enters Tryz.prog 206:=Go.Proofs.enters_of Tryz.lays145.f145 (by kernel_rfl) rfl
def cutG:List D→Option (Bool×D)
 | [.x (.str s),.x (.str [c])]=>some (decide (s.length≤1000000),.tup [.x (.str (Jn c s).1),.x (.str (Jn c s).2.1),.x (.bool (Jn c s).2.2)])
 |_=>none
theorem ZcR: ∀args r,cutG args=some (true,r)→ZD Tryz.prog 206 args r:=by
 intro args r h;unfold cutG at h;split at h
 ·rename_i s c;simp only[Zg,Ze,ZY,Zi,true_and]at h;obtain⟨h1,rfl⟩:=h;exact(ZfC s c h1)
 ·cases h
abbrev Av:=Tx×Tx
def Zq:RC Av:=⟨2,fun p=> [.str p.1,.str p.2],fun
 | [.str a,.str b]=>some (a,b)
 |_=>none⟩
theorem ZCx:Zq.Good:=⟨fun _=>rfl,fun _=>rfl,fun r x h=>by
 simp only[Zq]at h;split at h
 ·cases h;rfl
 ·cases h⟩
abbrev Ys:RC (List Av):=Qi Zq
theorem ZCh:Ys.Good:=KW ZCx
theorem ZLQ (l:List Av):Zd Zq (rows Zq l)=some l:=JG ZCx l
theorem ZH7 (l:List (List Av)):Zd Ys (rows Ys l)=some l:=JG ZCh l
theorem ZF9 (l:List Av) (a b:Tx):rows Zq l++ [[X.str a,X.str b]]=rows Zq (l++ [(a,b)]):=by simp[rows,Zq]
theorem ZGO (l:List (List Av)) (x:List Av):rows Ys l++ [[X.sl (rows Zq x)]]=rows Ys (l++ [x]):=by simp[rows,Ys,Qi]
def Yc (s:Tx):Av×Bool:=
 if(Jn 61 s).2.2=false∨YO (ZD6 (Jn 61 s).1)=false then(([],[]),false)
 else((ZD6 (Jn 61 s).1,(ZEw (Jn 61 s).2.1).1),(ZEw (Jn 61 s).2.1).2)
theorem ZHn (c:UInt8): ∀s,(Jn c s).1.length≤s.length∧(Jn c s).2.1.length≤s.length
 | []=>by simp[Jn]
 |b::l=>by
  obtain⟨h1,h2⟩:=ZHn c l;unfold Jn;split
  ·simp
  ·simp;omega
theorem ZJI (s:Tx):(ZD6 s).length≤s.length:=Nat.le_trans (ZLE _) (ZRV _)
def ZED:Tabs:=Za (Za (Za (Za (ZW) 206 cutG) 207 ZIO) 208 QC) 209 ZIT
theorem ZVe:SsOk Tryz.prog ZED:=ZL (ZL (ZL (ZL (ZG) ZS6 ZcR) (ZC ZH (p:=ZSR) rfl) ZXl) (ZC ZH (p:=ZNR) rfl) ZJn) (ZC ZH (p:=ZSW) rfl) ZZ7
theorem ZP1 (a:List D):ZED.q 206 a=cutG a:=rfl
theorem ZP7 (a:List D):ZED.q 207 a=ZIO a:=rfl
theorem ZPm (a:List D):ZED.q 208 a=QC a:=rfl
theorem ZQG (a:List D):ZED.q 209 a=ZIT a:=rfl
theorem ZaK (f:FuncId) (a:List D) (o:List Ob):ZED.r f a o=none:=rfl
theorem ZYu (f:FuncId) (a:List D) (o:List Ob):ZED.k f a o=none:=rfl
theorem Zbw (s:Tx) (hl:s.length≤900000):ZD Tryz.prog 187 [.x (.str s)] (.tup [.agg [.x (.str (Yc s).1.1),.x (.str (Yc s).1.2)],.x (.bool (Yc s).2)]):=by
 have h1:=ZHn 61 s;have h2:=ZJI (Jn 61 s).1;rcases hq:Yc s with⟨⟨a,v⟩,ok⟩
 unfold Yc at hq;refine ZN.pure (ZO (fz:=true) ZH (p:=ZTb) rfl _ (ξ rfl) _ (fun C0 E0=> ?_)) rfl;dsimp only[ZTb,qt,qi,qs,qb,qm,qa,qh,qj,qT,qF,qe,ql,qL,qf,q2,q3,q8,qz,qp,qP,qc,qk,qx,qy,qo,qr,qC,ZQ];have uu:=ZA @cutG.eq_1 (ZA @cutG.eq_2 (ZA @ZIO.eq_1 (ZA @ZIO.eq_2 (ZA @QC.eq_1 (ZA @QC.eq_2 (ZA @ZIT.eq_1 (ZA @ZIT.eq_2 (ZA @ZaK (ZA @ZYu (ZA @ZP1 (ZA @ZP7 (ZA @ZPm (@ZQG)))))))))))));have tT:=ZVe;refine nz ?_;refine rg tT [0,2] ?_;refine rg tT [2,4,5,6] ?_;refine rg tT [2,4,5,6] ?_;refine rg tT [2,4,5,22] ?_;refine cd (fun h0=> ?_) (fun h0=> ?_)
 ·refine rg tT [2,3] ?_;refine lf ?_;rw[if_pos (by clear uu;grind)]at hq;cases hq;rfl
 ·refine rg tT [2,4,6,7] ?_;refine rg tT [2,3] ?_;refine lf ?_;rw[if_neg (by clear uu;grind)]at hq;cases hq;rfl
def ZCp:List D→Option (Bool×D)
 | [.x (.str s)]=>some (decide (s.length≤900000),.tup [.agg [.x (.str (Yc s).1.1),.x (.str (Yc s).1.2)],.x (.bool (Yc s).2)])
 |_=>none
theorem ZWI: ∀args r,ZCp args=some (true,r)→ZD Tryz.prog 187 args r:=by
 intro args r h;unfold ZCp at h;split at h
 ·rename_i s;simp only[Zg,Ze,ZY,Zi,true_and]at h;obtain⟨h1,rfl⟩:=h;exact(Zbw s h1)
 ·cases h
theorem ZaL (s:Tx):ZEw s=((ZE0 s).1,(ZE0 s).2&& !((ZE0 s).1== [])):=by
 have key: ∀(n:Nat) (r b:Tx) (e:Nat) (x:Tx×Nat),e≤b.length→Jd n r b e=some x→x.2≤x.1.length:=by
  intro n
  induction n with
  |zero=>intro r b e x _ h;cases h
  |succ n ih=>
   intro r b e x he h;rcases r with _|⟨c,r⟩
   ·rw[Jd]at h;cases h;exact he
   ·rw[Jd]at h;split at h
    ·split at h
     ·exact ih _ _ _ _ (by simp) h
     ·cases h
    ·split at h
     ·cases h
     ·split at h
      ·exact ih _ _ _ _ (by simp;omega) h
      ·exact ih _ _ _ _ (by simp) h
 unfold ZEw ZE0;split
 ·rfl
 ·rename_i b e h;have hk:=key _ _ _ _ _ (by simp) h;simp only at hk;rw[Bool.true_and];congr 1;rcases b with _|⟨c,b⟩
  ·simp at hk;simp;omega
  ·rcases e with _|e
   ·simp
   ·simp
def eqI:Tx→Nat
 | []=>0
 |c::s=>if c=61 then 0 else eqI s+1
theorem ZQ5: ∀s:Tx,(eqI s=s.length→Jn 61 s=(s,[],false))∧(eqI s≠s.length→Jn 61 s=(s.take (eqI s),s.drop (eqI s+1),true))
 | []=>⟨fun _=>rfl,fun h=>absurd rfl h⟩
 |c::s=>by
  obtain⟨h1,h2⟩:=ZQ5 s;unfold eqI Jn;by_cases h:c=61
  ·rw[if_pos h,if_pos h];simp
  ·rw[if_neg h,if_neg h];refine⟨fun e=> ?_,fun e=> ?_⟩
   ·rw[h1 (by simpa using e)]
   ·rw[h2 (by simpa using e)];simp
theorem ZZr (s:Tx) (j:Nat) (h:j<s.length) (hc:s.getD j 0≠61):j+eqI (s.drop j)=j+1+eqI (s.drop (j+1)):=by
 rw[KA s j h]
 conv=>lhs;unfold eqI
 rw[if_neg hc];omega
theorem ZZ1 (s:Tx) (j:Nat) (h:j<s.length) (hc:s.getD j 0=61):eqI (s.drop j)=0:=by
 rw[KA s j h,hc];rfl
def ZFc:Tabs:=Za (Za (Za (ZW) 183 ZFd) 115 Kb) 184 ZIS
theorem ZUE:SsOk Tryz.prog ZFc:=ZL (ZL (ZL (ZG) (ZC ZH (p:=ZRz) rfl) ZUi) (ZC ZH (p:=ZLP) rfl) ZH0) (ZC ZH (p:=ZTI) rfl) ZXz
theorem ZPh (a:List D):ZFc.q 183 a=ZFd a:=rfl
theorem ZPg (a:List D):ZFc.q 115 a=Kb a:=rfl
theorem ZPz (a:List D):ZFc.q 184 a=ZIS a:=rfl
theorem ZZu (f:FuncId) (a:List D) (o:List Ob):ZFc.r f a o=none:=rfl
theorem ZZx (f:FuncId) (a:List D) (o:List Ob):ZFc.k f a o=none:=rfl
theorem ZcY (s:Tx) (hl:s.length≤900000):ZD Tryz.prog 159 [.x (.str s)] (.tup [.agg [.x (.str (Yc s).1.1),.x (.str (Yc s).1.2)],.x (.bool (Yc s).2)]):=by
 have hcut:=ZQ5 s;rcases hq:Yc s with⟨⟨a,v⟩,ok⟩
 unfold Yc at hq;rw[ZaL]at hq;refine ZN.pure (ZO (fz:=true) ZH (p:=ZSh) rfl _ (ξ rfl) _ (fun C0 E0=> ?_)) rfl;dsimp only[ZSh,qt,qi,qs,qb,qm,qa,qh,qj,qT,qF,qe,ql,qL,qf,q2,q3,q8,qz,qp,qP,qc,qk,qx,qy,qo,qr,qC,ZQ];have uu:=ZA @ZFd.eq_1 (ZA @ZFd.eq_2 (ZA @Kb.eq_1 (ZA @Kb.eq_2 (ZA @ZIS.eq_1 (ZA @ZIS.eq_2 (ZA @ZZu (ZA @ZZx (ZA @ZPg (ZA @ZPh (@ZPz))))))))));have tT:=ZUE;refine nz ?_;refine rg tT [0,2] ?_;refine rg tT [0,2,4] ?_;refine WI.loop (fun φ os=> ∃(j:Nat),φ= [(0,.x (.str s)),(2,.ptr 0 0),(4,.x (.int .i64 j))]∧os= [.box [.x (.str []),.x (.str [])]]∧j≤s.length∧eqI s=j+eqI (s.drop j)) (ZK s.length 4) ?_ (fun φ os hI=> ?_)
 ·exact⟨0,rfl,rfl,by omega,by simp⟩
 ·obtain⟨j,rfl,rfl,hj,hat⟩:=hI;refine nz ?_;refine rg tT [0,2,4,16] ?_;refine cd (fun h0=> ?_) (fun h0=> ?_)
  ·have hj4:j<s.length:=by clear uu;grind
   have hst:=ZZr s j hj4 (neD (k:=61) (by decide) (by clear uu;grind));refine rg tT [0,2,4] ?_;exact⟨⟨j+1,rfl,rfl,by omega,by rw[hat,hst]⟩,by simp[ZK,Ab.get,D.val,ZE];omega⟩
  ·have hej:eqI s=j:=by
    by_cases hj4:j<s.length
    ·rw[hat,ZZ1 s j hj4 (cD (a:=61) (by clear uu;show((s.getD j 0).toNat:Int)=61;grind))];rfl
    ·rw[hat,List.drop_of_length_le (by omega)];rfl
   clear hat;rw[hej]at hcut;have e1:((j:Int)+1).toNat=j+1:=by omega
   have hl1:decide ((s.take j).length≤1000000)=true:=ZM (by rw[List.length_take];omega);have htl:=ZJI (s.take j);have hl2:decide ((ZD6 (s.take j)).length≤1000000)=true:=ZM (by rw[List.length_take]at htl;omega);have hl3:decide ((s.drop (j+1)).length≤900000)=true:=ZM (by rw[List.length_drop];omega);have uu:=ZA uu (ZA e1 (ZA hl1 (ZA hl2 hl3)));refine rg tT [0,2,4,30] ?_;refine cd (fun h1=> ?_) (fun h1=> ?_)
   ·refine rg tT [2,3] ?_;refine lf ?_;have h3:(Jn 61 s).2.2=false∨YO (ZD6 (Jn 61 s).1)=false:=by
     by_cases hz:j=s.length
     ·rw[hcut.1 hz];exact .inl rfl
     ·rw[hcut.2 hz];right;clear uu;grind
    rw[if_pos h3]at hq;cases hq;rfl
   ·refine rg tT [0,2,4,5,6] ?_;refine rg tT [2,3] ?_;refine lf ?_;have hz:j≠s.length:=by clear uu;grind
    rw[hcut.2 hz]at hq;rw[if_neg (by clear uu;grind)]at hq;cases hq;rfl
def ZFS:List D→Option (Bool×D)
 | [.x (.str s)]=>some (decide (s.length≤900000),.tup [.agg [.x (.str (Yc s).1.1),.x (.str (Yc s).1.2)],.x (.bool (Yc s).2)])
 |_=>none
theorem ZWi: ∀args r,ZFS args=some (true,r)→ZD Tryz.prog 159 args r:=by
 intro args r h;unfold ZFS at h;split at h
 ·rename_i s;simp only[Zg,Ze,ZY,Zi,true_and]at h;obtain⟨h1,rfl⟩:=h;exact(ZcY s h1)
 ·cases h
theorem ZQk (p:Tx) (l:List Tx) (n:Nat) (h: ∀x∈l,x.length+p.length≤n) (hp:p.length≤n): ∀x∈KC p l,x.length≤n:=by
 rcases l with _|⟨y,l⟩
 ·intro x hx;simp[KC]at hx;subst hx;exact hp
 ·intro x hx;simp only[KC,List.mem_cons]at hx;rcases hx with rfl|hx
  ·have:=h y (by simp);simp;omega
  ·have:=h x (by simp[hx]);omega
theorem ZRc (p:Tx) (l:List Tx) (n:Nat) (h:l.length≤n) (h1:1≤n):(KC p l).length≤n:=by
 rcases l with _|⟨y,l⟩
 ·exact h1
 ·exact h
theorem Zex {a c:UInt8} {r:Tx} (h1:c≠92) (h2:c=a):YT a (c::r)= []::YT a r:=by
 conv=>lhs;unfold YT
 rw[if_neg h1,if_pos h2]
theorem Ze2 {a c:UInt8} {r:Tx} (h1:c≠92) (h2:c≠a):YT a (c::r)=KC [c] (YT a r):=by
 conv=>lhs;unfold YT
 rw[if_neg h1,if_neg h2]
theorem Qa (a:UInt8): ∀(n:Nat) (s:Tx),s.length≤n→(∀x∈YT a s,x.length≤s.length)∧(YT a s).length≤s.length+1
 |_,[],_=>by simp[YT]
 |n+1,c::r,hn=>by
  have hn':r.length≤n:=by simpa using hn
  by_cases h1:c=92
  ·rcases r with _|⟨d,r⟩
   ·subst h1;simp[YT]
   ·obtain⟨h2,h3⟩:=Qa a n r (by simp at hn';omega);have e:YT a (c::d::r)=KC [c,d] (YT a r):=by subst h1;rfl
    rw[e];exact⟨ZQk _ _ _ (fun x hx=>by have:=h2 x hx;simp;omega) (by simp),ZRc _ _ _ (by simp;omega) (by simp)⟩
  ·obtain⟨h2,h3⟩:=Qa a n r hn';by_cases h4:c=a
   ·have e:YT a (c::r)= []::YT a r:=Zex h1 h4;rw[e];refine⟨fun x hx=> ?_,by simp;omega⟩;rcases List.mem_cons.1 hx with rfl|hx
    ·simp
    ·have:=h2 x hx;simp;omega
   ·have e:YT a (c::r)=KC [c] (YT a r):=Ze2 h1 h4;rw[e];exact⟨ZQk _ _ _ (fun x hx=>by have:=h2 x hx;simp;omega) (by simp),ZRc _ _ _ (by simp;omega) (by simp)⟩
def ZEh (s:Tx):List (Av×Bool):=(YT 43 s).map Yc
def Zm (s:Tx):List Av×Bool:=if(ZEh s).all (·.2)=true then((ZEh s).map (·.1),true)else([],false)
theorem ZZ {α:Type} (p:α→Bool) (l:List α) (j:Nat) (h:j<l.length) (hp:p l[j]=false):l.all p=false:=by
 rw[Bool.eq_false_iff];intro hh;have:=List.all_eq_true.1 hh l[j] (List.getElem_mem h);rw[hp]at this;cases this
theorem Zx {α:Type} (p:α→Bool) (l:List α) (j:Nat) (h:j<l.length):(l.take (j+1)).all p=((l.take j).all p&&p l[j]):=by
 rw[List.take_succ_eq_append_getElem h,List.all_append];simp
def ZHt:Tabs:=Za (Za (ZW) 166 Jw) 187 ZCp
theorem ZMK:SsOk Tryz.prog ZHt:=ZL (ZL (ZG) (ZC ZH (p:=ZLU) rfl) ZGS) (ZC ZH (p:=ZTb) rfl) ZWI
theorem ZIv (a:List D):ZHt.q 166 a=Jw a:=rfl
theorem ZIu (a:List D):ZHt.q 187 a=ZCp a:=rfl
theorem ZOS (f:FuncId) (a:List D) (o:List Ob):ZHt.r f a o=none:=rfl
theorem ZO5 (f:FuncId) (a:List D) (o:List Ob):ZHt.k f a o=none:=rfl
theorem Zcw (s:Tx) (hl:s.length≤900000):ZD Tryz.prog 167 [.x (.str s)] (.tup [.x (.sl (rows Zq (Zm s).1)),.x (.bool (Zm s).2)]):=by
 obtain⟨hb1,hb2⟩:=Qa 43 _ s (Nat.le_refl _);rcases hq:Zm s with⟨d,ok⟩
 unfold Zm ZEh at hq;have hsp:YT (UInt8.ofNat (43:Int).toNat) s=YT 43 s:=rfl;refine ZN.pure (ZO (fz:=true) ZH (p:=ZJb) rfl _ (ξ rfl) _ (fun C0 E0=> ?_)) rfl;dsimp only[ZJb,qt,qi,qs,qb,qm,qa,qh,qj,qT,qF,qe,ql,qL,qf,q2,q3,q8,qz,qp,qP,qc,qk,qx,qy,qo,qr,qC,ZQ];have uu:=ZA @Jw.eq_1 (ZA @Jw.eq_2 (ZA @ZCp.eq_1 (ZA @ZCp.eq_2 (ZA hsp (ZA @ZOS (ZA @ZO5 (ZA @ZIv (@ZIu))))))));have tT:=ZMK;refine nz ?_;refine rg tT [0] ?_;refine rg tT [0,4] ?_;refine rg tT [4,10,11,12] ?_;refine WI.ownA 4 161 2 ?_;generalize YT 43 s=l at hq hb1 hb2⊢;refine WI.loop (fun φ os=> ∃(j:Nat),φ= [(4,.ref 0 j 0 j),(10,.x (.sl (rows ZI l))),(11,.x (.int .i64 l.length)),(12,.x (.int .i64 j))]∧os= [.rows false 161 2 (rows Zq ((l.take j).map fun x=>(Yc x).1))]∧j≤l.length∧(l.take j).all (fun x=>(Yc x).2)=true) (ZK l.length 12) ?_ (fun φ os hI=> ?_)
 ·exact⟨0,rfl,rfl,by omega,rfl⟩
 ·obtain⟨j,rfl,rfl,hj,hall⟩:=hI;refine nz ?_;refine rg tT [4,10,11,12,13] ?_;refine cd (fun h0=> ?_) (fun h0=> ?_)
  ·have hj4:j<l.length:=by omega
   have hbj:=hb1 _ (List.getElem_mem hj4);have hsc:decide (l[j].length≤900000)=true:=ZM (by omega);have uu:=ZA uu hsc;refine rg tT [4,6,10,11,12] ?_;refine rg tT [4,7,8,10,11,12] ?_;refine rg tT [4,7,10,11,12,22] ?_;refine cd (fun h1=> ?_) (fun h1=> ?_)
   ·have hf:(l.map Yc).all (·.2)=false:=by rw[List.all_map];exact ZZ _ l j hj4 (by simpa using h1)
    rw[if_neg (by rw[hf];decide)]at hq;refine rg tT [2,3] ?_;refine WI.nnA ?_;refine lf ?_;cases hq;rfl
   ·refine rgp tT [4,10,11,12] ?_;refine Yo [0] ?_;refine JR ?_;refine nz ?_;refine WI.orderA [4,10,11,12] ?_;refine rg tT [4,10,11,12] ?_;exact⟨⟨j+1,rfl,by rw[List.take_succ_eq_append_getElem hj4,List.map_append,List.map_singleton,←ZF9],by omega,by rw[Zx _ l j hj4,hall];simpa using h1⟩,by simp[ZK,Ab.get,D.val,ZE];omega⟩
  ·have e1:(rows Zq ((l.take j).map fun x=>(Yc x).1)).length=j:=by simp[rows];omega
   have e2:(l.take j).length=j:=by simp;omega
   have uu:=ZA uu (ZA e1 e2);refine rg tT [2,3] ?_;refine WI.nnA ?_;refine lf ?_;have hf:(l.map Yc).all (·.2)=true:=by rw[List.all_map];rw[YL (by omega)]at hall;exact hall
   rw[if_pos hf]at hq;cases hq;rw[YL (l:=l) (by omega),YL (by simp[rows];omega),List.map_map];rfl
def ZFk:List D→Option (Bool×D)
 | [.x (.str s)]=>some (decide (s.length≤900000),.tup [.x (.sl (rows Zq (Zm s).1)),.x (.bool (Zm s).2)])
 |_=>none
theorem ZUc: ∀args r,ZFk args=some (true,r)→ZD Tryz.prog 167 args r:=by
 intro args r h;unfold ZFk at h;split at h
 ·rename_i s;simp only[Zg,Ze,ZY,Zi,true_and]at h;obtain⟨h1,rfl⟩:=h;exact(Zcw s h1)
 ·cases h
def KE (r:List Av):List Tx:=r.map fun p=>ZB p.1
def Kk (r:List Av) (j:Nat):Bool:=YO (r.getD j ([],[])).1&&(!((r.getD j ([],[])).2== [])&&(decide ((r.getD j ([],[])).2.length≤256)&& !decide (ZB (r.getD j ([],[])).1∈KE (r.take j))))
def okP (r:List Av):Nat→Bool
 |0=>true
 |j+1=>okP r j&&Kk r j
def Yj (r:List Av):Bool:=okP r r.length&&decide (1≤r.length∧r.length≤8)
theorem ZEB (r:List Av): ∀(n j:Nat),j<n→Kk r j=false→okP r n=false
 |n+1,j,hj,h=>by
  rw[okP];by_cases e:j=n
  ·subst e;rw[h,Bool.and_false]
  ·rw[ZEB r n j (by omega) h,Bool.false_and]
def ZAY (r:List Av) (j:Nat):List (Tx×Int):=(r.take j).map fun p=>(ZB p.1,(1:Int))
theorem ZLN: ∀(l:List Av) (k:Tx),ZS (l.map fun p=>(ZB p.1,(1:Int))) k=if k∈KE l then some 1 else none
 | [],k=>by simp[KE,ZS]
 |p::l,k=>by
  have ih:=ZLN l k;by_cases h:k=ZB p.1
  ·simp[ZS,h,KE]
  ·have e:(k∈KE (p::l))=(k∈KE l):=by simp[KE,h]
   have e2:ZS ((p::l).map fun p=>(ZB p.1,(1:Int))) k=ZS (l.map fun p=>(ZB p.1,(1:Int))) k:=by simp[ZS,h]
   rw[e2,ih];simp only[e]
theorem ZNA (r:List Av) (j:Nat) (h:j<r.length) (hn:ZB (r.getD j ([],[])).1∉KE (r.take j)):JB (ZAY r j) (ZB (r.getD j ([],[])).1) 1=ZAY r (j+1):=by
 unfold ZAY;rw[ZGq (by rw[ZLN,if_neg hn]),List.take_succ_eq_append_getElem h,List.map_append];simp[h]
theorem ZNh (r:List Av) (j:Nat) (k:Tx):JA (YU Jg Kg (ZAY r j)) [X.str k]=if k∈KE (r.take j)then some [D.x (X.int .i64 1)]else none:=by
 rw[ZD4 Jg Kg hkS (ZAY r j) k];unfold ZAY;rw[ZLN];split<;>rfl
theorem ZBh (r:List Av) (j:Nat) (h:j<r.length):(rows Zq r)[j]? =some [X.str (r.getD j ([],[])).1,X.str (r.getD j ([],[])).2]:=by
 simp[rows,h,Zq]
def Jv:List D→Option (Bool×D)
 | [.x (.str s)]=>some (decide (s.length≤1000000),.x (.str (ZB s)))
 |_=>none
theorem ZGf: ∀args r,Jv args=some (true,r)→ZD Tryz.prog 37 args r:=by
 intro args r h;unfold Jv at h;split at h
 ·rename_i s;simp only[Zg,Ze,ZY,Zi,true_and]at h;obtain⟨h1,rfl⟩:=h;exact(ZLA s (by omega))
 ·cases h
def ZFv:Tabs:=Za (Za (ZW) 37 Jv) 208 QC
theorem ZKi:SsOk Tryz.prog ZFv:=ZL (ZL (ZG) (ZC ZH (p:=i37) rfl) ZGf) (ZC ZH (p:=ZNR) rfl) ZJn
theorem ZIt (a:List D):ZFv.q 37 a=Jv a:=rfl
theorem ZHw (a:List D):ZFv.q 208 a=QC a:=rfl
theorem ZLq (f:FuncId) (a:List D) (o:List Ob):ZFv.r f a o=none:=rfl
theorem ZLl (f:FuncId) (a:List D) (o:List Ob):ZFv.k f a o=none:=rfl
theorem Ze7 (r:List Av) (hb: ∀p∈r,p.1.length≤900000):ZD Tryz.prog 188 [.x (.sl (rows Zq r))] (.x (.bool (Yj r))):=by
 refine ZD.wf (fun hw=> ?_);have hl:r.length≤maxLen:=by have:=(hw _ (List.mem_cons_self)).1;rwa [YE]at this
 clear hw;simp only[maxLen]at hl;refine ZN.pure (ZO (fz:=true) ZH (p:=ZJh) rfl _ (ξ rfl) _ (fun C0 E0=> ?_)) rfl;dsimp only[ZJh,qt,qi,qs,qb,qm,qa,qh,qj,qT,qF,qe,ql,qL,qf,q2,q3,q8,qz,qp,qP,qc,qk,qx,qy,qo,qr,qC,ZQ];have uu:=ZA @Jv.eq_1 (ZA @Jv.eq_2 (ZA @QC.eq_1 (ZA @QC.eq_2 (ZA @ZLq (ZA @ZLl (ZA @ZHw (@ZIt)))))));have tT:=ZKi;refine nz ?_;refine rg tT [0] ?_;refine rg tT [0,3] ?_;refine rg tT [0,3,8,9,10] ?_;refine WI.loop (fun φ os=> ∃(j:Nat),φ= [(0,.x (.sl (rows Zq r))),(3,.mref 0),(8,.x (.sl (rows Zq r))),(9,.x (.int .i64 r.length)),(10,.x (.int .i64 j))]∧os= [.mpo .str false (YU Jg Kg (ZAY r j))]∧j≤r.length∧okP r j=true) (ZK r.length 10) ?_ (fun φ os hI=> ?_)
 ·exact⟨0,rfl,rfl,by omega,rfl⟩
 ·obtain⟨j,rfl,rfl,hj,hok⟩:=hI;refine nz ?_;refine rg tT [0,3,8,9,10,11] ?_;refine cd (fun h0=> ?_) (fun h0=> ?_)
  ·have hj4:j<r.length:=by omega
   have har:=ZBh r j hj4;have hbj:(r.getD j ([],[])).1.length≤900000:=by rw[show r.getD j ([],[])=r[j] by simp[hj4]];exact hb _ (List.getElem_mem hj4)
   have hgt:=ZNh r j (ZB (r.getD j ([],[])).1);have uu:=ZA uu har;refine rg tT [0,3,5,8,9,10] ?_;refine rg tT [0,3,5,6,8,9,10] ?_;by_cases hin:ZB (r.getD j ([],[])).1∈KE (r.take j)
   ·rw[if_pos hin]at hgt;have uu:=ZA uu hgt;refine rg tT [0,3,6,8,9,10,37] ?_;refine ct (fun h1=> ?_) (fun h1=> ?_)
    ·refine rg tT [2] ?_;refine lf ?_;have hno:Kk r j=false:=by unfold Kk;rw[ZM hin];simp
     rw[show Yj r=false by unfold Yj;rw[ZEB r r.length j hj4 hno];rfl]
    ·clear uu;simp at h1
   ·rw[if_neg hin]at hgt;have uu:=ZA uu hgt;have hset:=ZCP Jg Kg hkS (ZAY r j) (ZB (r.getD j ([],[])).1) 1;rw[ZNA r j hj4 hin]at hset;have hset':Ya (YU Jg Kg (ZAY r j)) [X.str (ZB (r.getD j ([],[])).1)] [D.x (X.int .i64 1)]=YU Jg Kg (ZAY r (j+1)):=hset;have uu:=ZA uu hset';refine rg tT [0,3,6,8,9,10,37] ?_;refine cd (fun h1=> ?_) (fun h1=> ?_)
    ·refine rg tT [2] ?_;refine lf ?_;have hno:Kk r j=false:=by unfold Kk;clear uu;grind
     rw[show Yj r=false by unfold Yj;rw[ZEB r r.length j hj4 hno];rfl]
    ·have hone:Kk r j=true:=by unfold Kk;rw[decide_eq_false hin];clear uu;grind
     refine WI.post ?_;refine WI.regB tT [0,3,8,9,10] ?_
     iterate 2 refine oS ?_
     iterate 3 refine oG ?_
     refine oP ?_;refine Yo [0] ?_ (ho:=by simp (disch:=decide) only[zV,zO,Ob.mpb,frzL,QH,ZAO,Kn,Ob.onI,Qm,Yt,Option.map_some,Option.map_none,D.vw,vwL,D.on,D.inP,YY,YH,D.ren,Zy,Yb,YS,Ob.mp,Ob.ren,D.nn,ZA6,Nat.reduceBEq,Nat.reduceEqDiff,Nat.reduceAdd,↓reduceIte,ZCB,KX];rfl);refine JR ?_;refine nz ?_;refine rg tT [0,3,8,9,10] ?_;exact⟨⟨j+1,rfl,by first|done|rfl,by omega,by rw[okP,hok,hone];rfl⟩,by simp[ZK,Ab.get,D.val,ZE];omega⟩
  ·refine rg tT [2] ?_;refine lf ?_;have hz:r.length=j:=by omega
   rw[show Yj r=decide (1≤r.length∧r.length≤8) by unfold Yj;rw[hz,hok,Bool.true_and]];congr 2;rw[Bool.eq_iff_iff];simp;omega
def ZLS:List D→Option (Bool×D)
 | [.x (.sl R)]=>(Zd Zq R).bind fun r=>some (decide (∀p∈r,p.1.length≤900000),.x (.bool (Yj r)))
 |_=>none
theorem Zbr: ∀args r,ZLS args=some (true,r)→ZD Tryz.prog 188 args r:=by
 intro args r h;unfold ZLS at h;split at h
 ·rename_i R;obtain⟨r,hr0,h⟩:=Zp h;simp only[Zg,Ze,ZY,Zi,true_and]at h;obtain⟨h1,rfl⟩:=h;rw[←ZR ZCx hr0];exact(Ze7 r h1)
 ·cases h
abbrev Dn:=List (List Av)
def smD (d:Dn):Prop:= ∀r∈d,∀p∈r,p.1.length≤900000
instance (d:Dn):Decidable (smD d):=by unfold smD;infer_instance
def KH (d:Dn):Int:=if d.length>32 then 3 else if d.all Yj=true then 0 else 5
theorem ZFU (d:Dn) (j:Nat) (h:j<d.length):(rows Ys d)[j]? =some [X.sl (rows Zq (d.getD j []))]:=by
 simp[rows,h,Ys,Qi]
def ZIb:Tabs:=Za (ZW) 188 ZLS
theorem ZSj:SsOk Tryz.prog ZIb:=ZL (ZG) (ZC ZH (p:=ZJh) rfl) Zbr
theorem ZNV (a:List D):ZIb.q 188 a=ZLS a:=rfl
theorem ZVo (f:FuncId) (a:List D) (o:List Ob):ZIb.r f a o=none:=rfl
theorem ZWk (f:FuncId) (a:List D) (o:List Ob):ZIb.k f a o=none:=rfl
theorem Zcg (d:Dn) (hb:smD d):ZD Tryz.prog 168 [.x (.sl (rows Ys d))] (.x (.int .i64 (KH d))):=by
 unfold KH;refine ZN.pure (ZO (fz:=true) ZH (p:=ZHV) rfl _ (ξ rfl) _ (fun C0 E0=> ?_)) rfl;dsimp only[ZHV,qt,qi,qs,qb,qm,qa,qh,qj,qT,qF,qe,ql,qL,qf,q2,q3,q8,qz,qp,qP,qc,qk,qx,qy,qo,qr,qC,ZQ];have uu:=ZA @ZLS.eq_1 (ZA @ZLS.eq_2 (ZA @ZLQ (ZA @ZVo (ZA @ZWk (@ZNV)))));have tT:=ZSj;refine nz ?_;refine rg tT [0] ?_;refine rg tT [0,7] ?_;refine cd (fun h0=> ?_) (fun h0=> ?_)
 ·refine rg tT [2] ?_;refine lf ?_;rw[if_pos (by omega)]
 ·refine rg tT [8,9,10] ?_;refine WI.loop (fun φ os=> ∃(j:Nat),φ= [(8,.x (.sl (rows Ys d))),(9,.x (.int .i64 d.length)),(10,.x (.int .i64 j))]∧os= []∧j≤d.length∧(d.take j).all Yj=true) (ZK d.length 10) ?_ (fun φ os hI=> ?_)
  ·exact⟨0,rfl,rfl,by omega,rfl⟩
  ·obtain⟨j,rfl,rfl,hj,hall⟩:=hI;refine nz ?_;refine rg tT [8,9,10,11] ?_;refine cd (fun h1=> ?_) (fun h1=> ?_)
   ·have hj4:j<d.length:=by omega
    have hdj:d[j]=d.getD j []:=by simp[hj4]
    have hsm:decide (∀p∈d.getD j [],p.1.length≤900000)=true:=ZM (by rw[←hdj];exact hb _ (List.getElem_mem hj4));have uu:=ZA uu (ZA (ZFU d j hj4) hsm);refine rg tT [4,8,9,10] ?_;refine rg tT [8,9,10,16] ?_;refine cd (fun h2=> ?_) (fun h2=> ?_)
    ·refine rg tT [2] ?_;refine lf ?_;rw[if_neg (by omega),if_neg (by rw[ZZ Yj d j hj4 (by rw[hdj];simpa using h2)];decide)]
    ·refine rg tT [8,9,10] ?_;exact⟨⟨j+1,rfl,rfl,by omega,by rw[Zx _ d j hj4,hall,hdj];simpa using h2⟩,by simp[ZK,Ab.get,D.val,ZE];omega⟩
   ·refine rg tT [2] ?_;refine lf ?_;rw[YL (by omega)]at hall;rw[if_neg (by omega),if_pos hall]
def ZBJ:List D→Option (Bool×D)
 | [.x (.sl R)]=>(Zd Ys R).bind fun d=>some (decide (smD d),.x (.int .i64 (KH d)))
 |_=>none
theorem ZMP: ∀args r,ZBJ args=some (true,r)→ZD Tryz.prog 168 args r:=by
 intro args r h;unfold ZBJ at h;split at h
 ·rename_i R;obtain⟨d,hr0,h⟩:=Zp h;simp only[Zg,Ze,ZY,Zi,true_and]at h;obtain⟨h1,rfl⟩:=h;rw[←ZR ZCh hr0];exact(Zcg d h1)
 ·cases h
def mxD:Dn→Nat
 | []=>0
 |r::d=>max r.length (mxD d)
theorem ZJC: ∀(d:Dn) (r:List Av),mxD (d++ [r])=max (mxD d) r.length
 | [],r=>by simp[mxD]
 |x::d,r=>by rw[List.cons_append,mxD,mxD,ZJC d r];omega
theorem ZVM (a b:Nat):(if(a:Int)>(b:Int)then(a:Int)else(b:Int))=((max b a:Nat):Int):=by split<;>omega
def ZBO (s:Tx):List (List Av×Bool):=(YT 44 s).map Zm
def Qx (s:Tx):Dn:=(ZBO s).map (·.1)
def JN (s:Tx):Dn×Int:=
 if s.length>4096 then([],3)else if s= []then([],0)
 else if(ZBO s).all (·.2)=true then(if mxD (Qx s)>8 then([],3)else if KH (Qx s)≠0 then([],KH (Qx s))else(Qx s,0))
 else([],5)
theorem ZT6 (s:Tx):(Yc s).1.1.length≤s.length:=by
 unfold Yc;have h1:=(ZHn 61 s).1;have h2:=ZJI (Jn 61 s).1;split
 ·simp
 ·simp;omega
theorem ZZJ (s:Tx) (hs:s.length≤900000): ∀p∈(Zm s).1,p.1.length≤900000:=by
 unfold Zm ZEh;split
 ·intro p hp;obtain⟨q,h1,rfl⟩:=List.mem_map.1 hp;obtain⟨x,h2,rfl⟩:=List.mem_map.1 h1;have:=(Qa 43 _ s (Nat.le_refl _)).1 x h2;have:=ZT6 x;omega
 ·intro p hp;simp at hp
theorem ZEp (s:Tx) (hs:s.length≤900000):(Zm s).1.length≤900001:=by
 unfold Zm ZEh;split
 ·have:=(Qa 43 _ s (Nat.le_refl _)).2;simp;omega
 ·simp
theorem ZGX (s:Tx) (hs:s.length≤900000):smD (Qx s):=by
 intro r hr;unfold Qx ZBO at hr;obtain⟨q,h1,rfl⟩:=List.mem_map.1 hr;obtain⟨x,h2,rfl⟩:=List.mem_map.1 h1;have:=(Qa 44 _ s (Nat.le_refl _)).1 x h2;exact ZZJ x (by omega)
def ZDT:Tabs:=Za (Za (Za (ZW) 166 Jw) 167 ZFk) 168 ZBJ
theorem ZSb:SsOk Tryz.prog ZDT:=ZL (ZL (ZL (ZG) (ZC ZH (p:=ZLU) rfl) ZGS) (ZC ZH (p:=ZJb) rfl) ZUc) (ZC ZH (p:=ZHV) rfl) ZMP
theorem ZO8 (a:List D):ZDT.q 166 a=Jw a:=rfl
theorem ZNz (a:List D):ZDT.q 167 a=ZFk a:=rfl
theorem ZNn (a:List D):ZDT.q 168 a=ZBJ a:=rfl
theorem ZUO (f:FuncId) (a:List D) (o:List Ob):ZDT.r f a o=none:=rfl
theorem ZU1 (f:FuncId) (a:List D) (o:List Ob):ZDT.k f a o=none:=rfl
theorem ZbW (s:Tx):ZD Tryz.prog 131 [.x (.str s)] (.tup [.x (.sl (rows Ys (JN s).1)),.x (.int .i64 (JN s).2)]):=by
 rcases hq:JN s with⟨d,e⟩
 unfold JN at hq;have hsp:YT (UInt8.ofNat (44:Int).toNat) s=YT 44 s:=rfl;refine ZN.pure (ZO (fz:=true) ZH (p:=ZJV) rfl _ (ξ rfl) _ (fun C0 E0=> ?_)) rfl;dsimp only[ZJV,qt,qi,qs,qb,qm,qa,qh,qj,qT,qF,qe,ql,qL,qf,q2,q3,q8,qz,qp,qP,qc,qk,qx,qy,qo,qr,qC,ZQ];have uu:=ZA @Jw.eq_1 (ZA @Jw.eq_2 (ZA @ZFk.eq_1 (ZA @ZFk.eq_2 (ZA @ZBJ.eq_1 (ZA @ZBJ.eq_2 (ZA hsp (ZA @ZH7 (ZA @ZLQ (ZA @ZUO (ZA @ZU1 (ZA @ZO8 (ZA @ZNz (@ZNn)))))))))))));have tT:=ZSb;refine nz ?_;refine rg tT [0] ?_;refine rg tT [0,11] ?_;refine cd (fun h0=> ?_) (fun h0=> ?_)
 ·refine rg tT [2,3] ?_;refine WI.nnA ?_;refine lf ?_;rw[if_pos (by omega)]at hq;cases hq;rfl
 ·refine rg tT [0,15] ?_;refine cd (fun h1=> ?_) (fun h1=> ?_)
  ·refine rg tT [2,3] ?_;refine WI.nnA ?_;refine lf ?_;rw[if_neg (by omega),if_pos (by simpa using h1)]at hq;cases hq;rfl
  ·have hne:s≠ []:=by simpa using h1
   rw[if_neg (by omega),if_neg hne]at hq;have hs:s.length≤900000:=by omega
   obtain⟨hb1,hb2⟩:=Qa 44 _ s (Nat.le_refl _);have hsm:=ZGX s hs;refine rg tT [0,4] ?_;refine rg tT [0,4,5] ?_;refine rg tT [4,5,19,20,21] ?_;refine WI.ownA 4 159 1 ?_;have hrl:ZBO s=(YT 44 s).map Zm:=rfl;have hnl:Qx s=((YT 44 s).map Zm).map (·.1):=rfl;generalize YT 44 s=l at hb1 hb2 hrl hnl⊢;generalize ZBO s=rl at hq hrl;generalize Qx s=nl at hq hnl hsm;subst hrl hnl;refine WI.loop (fun φ os=> ∃(j:Nat),φ= [(4,.ref 0 j 0 j),(5,.x (.int .i64 (mxD ((l.take j).map fun x=>(Zm x).1)))),(19,.x (.sl (rows ZI l))),(20,.x (.int .i64 l.length)),(21,.x (.int .i64 j))]∧os= [.rows false 159 1 (rows Ys ((l.take j).map fun x=>(Zm x).1))]∧j≤l.length∧(l.take j).all (fun x=>(Zm x).2)=true) (ZK l.length 21) ?_ (fun φ os hI=> ?_)
   ·exact⟨0,rfl,rfl,by omega,rfl⟩
   ·obtain⟨j,rfl,rfl,hj,hall⟩:=hI;refine nz ?_;refine rg tT [4,5,19,20,21,22] ?_;refine cd (fun h2=> ?_) (fun h2=> ?_)
    ·have hj4:j<l.length:=by omega
     have hbj:=hb1 _ (List.getElem_mem hj4);have hpc:=ZEp l[j] (by omega);have hsc:decide (l[j].length≤900000)=true:=ZM (by omega);have hmt:(l.take (j+1)).map (fun x=>(Zm x).1)=(l.take j).map (fun x=>(Zm x).1)++ [(Zm l[j]).1]:=by rw[List.take_succ_eq_append_getElem hj4,List.map_append];rfl
     have hmx:mxD ((l.take (j+1)).map fun x=>(Zm x).1)=max (mxD ((l.take j).map fun x=>(Zm x).1)) (Zm l[j]).1.length:=by rw[hmt,ZJC]
     have uu:=ZA uu hsc;refine rg tT [4,5,7,19,20,21] ?_;refine rg tT [4,5,8,9,19,20,21] ?_;refine rg tT [4,5,8,19,20,21,31] ?_;refine cd (fun h3=> ?_) (fun h3=> ?_)
     ·have hf:(l.map Zm).all (·.2)=false:=by rw[List.all_map];exact ZZ _ l j hj4 (by simpa using h3)
      rw[if_neg (by rw[hf];decide)]at hq;refine rg tT [2,3] ?_;refine WI.nnA ?_;refine lf ?_;cases hq;rfl
     ·refine rg tT [4,5,8,19,20,21] ?_;refine rgp tT [4,5,19,20,21] ?_;refine Yo [0] ?_;refine JR ?_;refine nz ?_;refine WI.orderA [4,5,19,20,21] ?_;refine rg tT [4,5,19,20,21] ?_;exact⟨⟨j+1,by rw[hmx,ZVM];first|done|rfl,by rw[hmt,←ZGO];first|done|rfl,by omega,by rw[Zx _ l j hj4,hall];simpa using h3⟩,by simp[ZK,Ab.get,D.val,ZE];omega⟩
    ·obtain rfl:j=l.length:=by omega
     rw[List.take_length]at hall⊢;have hf:(l.map Zm).all (·.2)=true:=by rw[List.all_map];exact hall
     rw[if_pos hf]at hq;have hmm:(l.map Zm).map (·.1)=l.map (fun x=>(Zm x).1):=by rw[List.map_map];rfl
     rw[hmm]at hq hsm;have hml:(l.map fun x=>(Zm x).1).length=l.length:=List.length_map ..;generalize(l.map fun x=>(Zm x).1)=m at hq hsm hml⊢;have e1:m.take l.length=m:=YL (by omega);have e2:decide (smD m)=true:=ZM hsm;have uu:=ZA uu (ZA hml (ZA e1 e2));refine rg tT [4,42] ?_;refine cd (fun h4=> ?_) (fun h4=> ?_)
     ·refine rg tT [2,3] ?_;refine WI.nnA ?_;refine lf ?_;rw[if_pos (by omega)]at hq;cases hq;rfl
     ·rw[if_neg (by omega)]at hq;refine rg tT [4,10] ?_;refine rg tT [4,10,46] ?_;refine cd (fun h5=> ?_) (fun h5=> ?_)
      ·refine rg tT [2,3] ?_;refine WI.nnA ?_;refine lf ?_;rw[if_pos (by simpa using h5)]at hq;cases hq;rfl
      ·refine rg tT [2,3] ?_;refine WI.nnA ?_;refine lf ?_;rw[if_neg (by simpa using h5)]at hq;cases hq;first|rfl|rw[e1]
def ZCg:List D→Option (Bool×D)
 | [.x (.str s)]=>some (true,.tup [.x (.sl (rows Ys (JN s).1)),.x (.int .i64 (JN s).2)])
 |_=>none
theorem ZU5: ∀args r,ZCg args=some (true,r)→ZD Tryz.prog 131 args r:=by
 intro args r h;unfold ZCg at h;split at h
 ·rename_i s;simp only[Zg,Ze,ZY,Zi,true_and]at h;obtain rfl:=h;exact(ZbW s)
 ·cases h
theorem ZcH (r:List Av) (j:Nat) (h:j<r.length) (x:Tx):x∈KE (r.take (j+1))↔x∈KE (r.take j)∨x=ZB (r.getD j ([],[])).1:=by
 unfold KE;rw[List.take_succ_eq_append_getElem h,List.map_append,List.mem_append];simp[h]
theorem ZbC (r:List Av) (j k:Nat) (h:j<k) (hk:k≤r.length):ZB (r.getD j ([],[])).1∈KE (r.take k):=by
 unfold KE;refine List.mem_map.2 ⟨r[j]'(by omega),?_,by simp[show j<r.length by omega]⟩;exact List.mem_take_iff_getElem.2 ⟨j,by omega,rfl⟩
def ZB3:List D→Option (Bool×D)
 | [.x (.str s)]=>some (decide (s.length≤1000000),.x (.str (ZB s)))
 |_=>none
theorem ZQN: ∀args r,ZB3 args=some (true,r)→ZD Tryz.prog 32 args r:=by
 intro args r h;unfold ZB3 at h;split at h
 ·rename_i s;simp only[Zg,Ze,ZY,Zi,true_and]at h;obtain⟨h1,rfl⟩:=h;exact(ZG4 s (by omega))
 ·cases h
def ZFR:Tabs:=Za (Za (ZW) 115 Kb) 32 ZB3
theorem ZTF:SsOk Tryz.prog ZFR:=ZL (ZL (ZG) (ZC ZH (p:=ZLP) rfl) ZH0) (ZC ZH (p:=i32) rfl) ZQN
theorem ZPI (a:List D):ZFR.q 115 a=Kb a:=rfl
theorem ZPi (a:List D):ZFR.q 32 a=ZB3 a:=rfl
theorem ZVk (f:FuncId) (a:List D) (o:List Ob):ZFR.r f a o=none:=rfl
theorem ZWp (f:FuncId) (a:List D) (o:List Ob):ZFR.k f a o=none:=rfl
set_option maxHeartbeats 1000000 in
theorem ZcV (d:Dn) (hb:smD d) (hld:d.length≤1000000) (hlr: ∀r∈d,r.length≤1000000):ZD Tryz.prog 160 [.x (.sl (rows Ys d))] (.x (.int .i64 (KH d))):=by
 unfold KH;refine ZN.pure (ZO (fz:=true) ZH (p:=ZNF) rfl _ (ξ rfl) _ (fun C0 E0=> ?_)) rfl;dsimp only[ZNF,qt,qi,qs,qb,qm,qa,qh,qj,qT,qF,qe,ql,qL,qf,q2,q3,q8,qz,qp,qP,qc,qk,qx,qy,qo,qr,qC,ZQ];have uu:=ZA @Kb.eq_1 (ZA @Kb.eq_2 (ZA @ZB3.eq_1 (ZA @ZB3.eq_2 (ZA @ZVk (ZA @ZWp (ZA @ZPI (@ZPi)))))));have tT:=ZTF;refine nz ?_;refine rg tT [0] ?_;refine rg tT [0,9] ?_;refine cd (fun h0=> ?_) (fun h0=> ?_)
 ·refine rg tT [2] ?_;refine lf ?_;rw[if_pos (by omega)]
 ·refine rg tT [0,3] ?_;refine WI.loop (fun φ os=> ∃(i:Nat),φ= [(0,.x (.sl (rows Ys d))),(3,.x (.int .i64 i))]∧os= []∧i≤d.length∧(d.take i).all Yj=true) (ZK d.length 3) ?_ (fun φ os hI=> ?_)
  ·exact⟨0,rfl,rfl,by omega,rfl⟩
  ·obtain⟨i,rfl,rfl,hi,hall⟩:=hI;refine nz ?_;refine rg tT [0,3,13] ?_;refine cd (fun h1=> ?_) (fun h1=> ?_)
   ·have hi4:i<d.length:=by omega
    have hdi:d[i]=d.getD i []:=by simp[hi4]
    have hrw:=ZFU d i hi4;have hri: ∀p∈d.getD i [],p.1.length≤900000:=by rw[←hdi];exact hb _ (List.getElem_mem hi4)
    have hrl:(d.getD i []).length≤1000000:=by rw[←hdi];exact hlr _ (List.getElem_mem hi4)
    rcases hdr:d.getD i []with r0
    obtain⟨r,hr0⟩: ∃r,r=r0:=⟨r0,rfl⟩;subst hr0;rw[hdr]at hri hrl hrw;have uu:=ZA uu hrw;refine rg tT [0,3,29] ?_;refine cd (fun h2=> ?_) (fun h2=> ?_)
    ·refine rg tT [2] ?_;refine lf ?_;rw[if_neg (by omega),if_neg (by rw[ZZ Yj d i hi4 (by rw[hdi,hdr];unfold Yj;rw[decide_eq_false (by omega),Bool.and_false])];decide)]
    ·refine rg tT [0,3,4] ?_;refine WI.loop (fun φ os=> ∃(k:Nat),φ= [(0,.x (.sl (rows Ys d))),(3,.x (.int .i64 i)),(4,.x (.int .i64 k))]∧os= []∧k≤r.length∧okP r k=true) (ZK r.length 4) ?_ (fun φ os hI=> ?_)
     ·exact⟨0,rfl,rfl,by omega,rfl⟩
     ·obtain⟨k,rfl,rfl,hk,hok⟩:=hI;refine nz ?_;refine rg tT [0,3,4,36] ?_;refine cd (fun h3=> ?_) (fun h3=> ?_)
      ·have hk4:k<r.length:=by omega
       have hka:=ZBh r k hk4;have hem:=ZF0 (r.getD k ([],[])).2;have hkl:(r.getD k ([],[])).1.length≤900000:=by rw[show r.getD k ([],[])=r[k] by simp[hk4]];exact hri _ (List.getElem_mem hk4)
       have hsc:decide ((r.getD k ([],[])).1.length≤1000000)=true:=ZM (by omega);have uu:=ZA uu (ZA hka hsc);refine rg tT [0,3,4,5] ?_;refine rg tT [0,3,4,5,61] ?_;refine cd (fun h4=> ?_) (fun h4=> ?_)
       ·refine rg tT [2] ?_;refine lf ?_;have hno:Kk r k=false:=by unfold Kk;clear uu;grind
        rw[if_neg (by omega),if_neg (by rw[ZZ Yj d i hi4 (by rw[hdi,hdr];unfold Yj;rw[ZEB r r.length k hk4 hno];rfl)];decide)]
       ·refine rg tT [0,3,4,5,6] ?_;refine WI.loop (fun φ os=> ∃(j:Nat),φ= [(0,.x (.sl (rows Ys d))),(3,.x (.int .i64 i)),(4,.x (.int .i64 k)),(5,.ptr 0 0),(6,.x (.int .i64 j))]∧os= [.box [.x (.str (r.getD k ([],[])).1),.x (.str (r.getD k ([],[])).2)]]∧j≤k∧ZB (r.getD k ([],[])).1∉KE (r.take j)) (ZK k 6) ?_ (fun φ os hI=> ?_)
        ·exact⟨0,rfl,rfl,by omega,by simp[KE]⟩
        ·obtain⟨j,rfl,rfl,hj,hnin⟩:=hI;refine nz ?_;refine rg tT [0,3,4,5,6,64] ?_;refine cd (fun h5=> ?_) (fun h5=> ?_)
         ·have hj4:j<k:=by omega
          have hja:=ZBh r j (by omega);have hjl:(r.getD j ([],[])).1.length≤900000:=by rw[show r.getD j ([],[])=r[j] by simp[show j<r.length by omega]];exact hri _ (List.getElem_mem _)
          have hsj:decide ((r.getD j ([],[])).1.length≤1000000)=true:=ZM (by omega);have uu:=ZA uu (ZA hja hsj);refine WI.dregB tT [0,3,4,5,6,79] ?_
          iterate 2 refine Zo ?_
          iterate 2 refine YK ?_
          refine Zo ?_;refine YK ?_;refine Zo ?_;refine YK ?_;refine QV ?_;refine Zo ?_;refine YK ?_;refine dAC ?_;refine Ym ?_;refine dN ?_;refine nz ?_;refine cd (fun h6=> ?_) (fun h6=> ?_)
          ·refine rg tT [2] ?_;refine lf ?_;have hin:ZB (r.getD k ([],[])).1∈KE (r.take k):=by rw[←show ZB (r.getD j ([],[])).1=ZB (r.getD k ([],[])).1 by simpa using h6];exact ZbC r j k hj4 (by omega)
           have hno:Kk r k=false:=by unfold Kk;rw[ZM hin];simp
           rw[if_neg (by omega),if_neg (by rw[ZZ Yj d i hi4 (by rw[hdi,hdr];unfold Yj;rw[ZEB r r.length k hk4 hno];rfl)];decide)]
          ·refine rg tT [0,3,4,5,6] ?_;exact⟨⟨j+1,rfl,rfl,by omega,fun hh=>by rcases(ZcH r j (by omega) _).1 hh with h|h;exact hnin h;exact h6 h.symm⟩,by simp[ZK,Ab.get,D.val,ZE];omega⟩
         ·have hone:Kk r k=true:=by
           have hjk:j=k:=by omega
           rw[hjk]at hnin;unfold Kk;rw[decide_eq_false hnin,hem];clear uu hall hdi hrw hka;grind
          refine rgp tT [0,3,4] ?_;refine Yo [] ?_;refine JR ?_;refine nz ?_;exact⟨⟨k+1,rfl,rfl,by omega,by rw[okP,hok,Bool.true_and];exact hone⟩,by simp[ZK,Ab.get,D.val,ZE];omega⟩
      ·refine rg tT [0,3] ?_;exact⟨⟨i+1,rfl,rfl,by omega,by rw[Zx _ d i hi4,hall,hdi];show Yj (d.getD i [])=true;rw[hdr];unfold Yj;rw[show r.length=k by omega,hok];exact ZM ⟨by omega,by omega⟩⟩,by simp[ZK,Ab.get,D.val,ZE];omega⟩
   ·refine rg tT [2] ?_;refine lf ?_;rw[if_neg (by omega),if_pos (by rw[YL (by omega)]at hall;exact hall)]
def ZBC:List D→Option (Bool×D)
 | [.x (.sl R)]=>(Zd Ys R).bind fun d=>some (decide (smD d)&&(decide (d.length≤1000000)&&(decide (∀r∈d,r.length≤1000000))),.x (.int .i64 (KH d)))
 |_=>none
theorem ZML: ∀args r,ZBC args=some (true,r)→ZD Tryz.prog 160 args r:=by
 intro args r h;unfold ZBC at h;split at h
 ·rename_i R;obtain⟨d,hr0,h⟩:=Zp h;simp only[Zg,Ze,ZY,Zi,true_and]at h;obtain⟨⟨h1,h2,h3⟩,rfl⟩:=h;rw[←ZR ZCh hr0];exact(ZcV d h1 h2 h3)
 ·cases h
def ZGW (d:Dn):Bool:=d.any fun r=>decide (r.length>8)
theorem ZSE (d:Dn) (r:List Av):ZGW (d++ [r])=(ZGW d||decide (r.length>8)):=by simp[ZGW]
theorem ZNY: ∀d:Dn,ZGW d=decide (mxD d>8)
 | []=>rfl
 |r::d=>by
  have:=ZNY d;unfold ZGW at this⊢;rw[List.any_cons,this,mxD,Bool.eq_iff_iff];simp only[Bool.or_eq_true,Zi];omega
theorem ZYm (x:Tx) (h:(YT 43 x).all (fun y=>(Yc y).2)=true):Zm x=((YT 43 x).map (fun y=>(Yc y).1),true):=by
 unfold Zm ZEh;rw[if_pos (by rw[List.all_map];exact h),List.map_map];rfl
theorem ZWs (x:Tx) (h:(YT 43 x).all (fun y=>(Yc y).2)=false):Zm x=([],false):=by
 unfold Zm ZEh;rw[if_neg (by rw[List.all_map];show ¬(YT 43 x).all (fun y=>(Yc y).2)=true;rw[h];decide)]
def ZDS:Tabs:=Za (Za (Za (ZW) 158 ZDe) 159 ZFS) 160 ZBC
theorem ZR9:SsOk Tryz.prog ZDS:=ZL (ZL (ZL (ZG) (ZC ZH (p:=ZR0) rfl) ZS4) (ZC ZH (p:=ZSh) rfl) ZWi) (ZC ZH (p:=ZNF) rfl) ZML
theorem ZOR (a:List D):ZDS.q 158 a=ZDe a:=rfl
theorem ZPJ (a:List D):ZDS.q 159 a=ZFS a:=rfl
theorem ZOE (a:List D):ZDS.q 160 a=ZBC a:=rfl
theorem ZVh (f:FuncId) (a:List D) (o:List Ob):ZDS.r f a o=none:=rfl
theorem ZU8 (f:FuncId) (a:List D) (o:List Ob):ZDS.k f a o=none:=rfl
set_option maxHeartbeats 1000000 in
theorem ZY4 (s:Tx):ZD Tryz.prog 119 [.x (.str s)] (.tup [.x (.sl (rows Ys (JN s).1)),.x (.int .i64 (JN s).2)]):=by
 rcases hq:JN s with⟨d,e⟩
 unfold JN at hq;have hsp: ∀t,YT (UInt8.ofNat (44:Int).toNat) t=YT 44 t:=fun t=>rfl
 have hsq: ∀t,YT (UInt8.ofNat (43:Int).toNat) t=YT 43 t:=fun t=>rfl
 refine ZN.pure (ZO (fz:=true) ZH (p:=ZSv) rfl _ (ξ rfl) _ (fun C0 E0=> ?_)) rfl;dsimp only[ZSv,qt,qi,qs,qb,qm,qa,qh,qj,qT,qF,qe,ql,qL,qf,q2,q3,q8,qz,qp,qP,qc,qk,qx,qy,qo,qr,qC,ZQ];have uu:=ZA @ZDe.eq_1 (ZA @ZDe.eq_2 (ZA @ZFS.eq_1 (ZA @ZFS.eq_2 (ZA @ZBC.eq_1 (ZA @ZBC.eq_2 (ZA hsp (ZA hsq (ZA @ZH7 (ZA @ZLQ (ZA @ZVh (ZA @ZU8 (ZA @ZOR (ZA @ZPJ (@ZOE))))))))))))));have tT:=ZR9;refine nz ?_;refine rg tT [0] ?_;refine rg tT [0,16] ?_;refine cd (fun h0=> ?_) (fun h0=> ?_)
 ·refine rg tT [2,3] ?_;refine WI.nnA ?_;refine lf ?_;rw[if_pos (by omega)]at hq;cases hq;rfl
 ·refine rg tT [0,18] ?_;refine cd (fun h1=> ?_) (fun h1=> ?_)
  ·refine rg tT [2,3] ?_;refine WI.nnA ?_;refine lf ?_;rw[if_neg (by omega),if_pos (by simpa using h1)]at hq;cases hq;rfl
  ·have hne:s≠ []:=by simpa using h1
   rw[if_neg (by omega),if_neg hne]at hq;have hs:s.length≤900000:=by omega
   obtain⟨hb1,hb2⟩:=Qa 44 _ s (Nat.le_refl _);have hsm:=ZGX s hs;refine rg tT [0,4] ?_;refine rg tT [0,4,5] ?_;refine rg tT [4,5,6] ?_;refine rg tT [4,5,6,7] ?_;refine WI.ownA 4 159 1 ?_;have hrl:ZBO s=(YT 44 s).map Zm:=rfl;have hnl:Qx s=((YT 44 s).map Zm).map (·.1):=rfl;generalize YT 44 s=l at hb1 hb2 hrl hnl⊢;generalize ZBO s=rl at hq hrl;generalize Qx s=nl at hq hnl hsm;subst hrl hnl;refine WI.loop (fun φ os=> ∃(i:Nat),φ= [(4,.ref 0 i 0 i),(5,.x (.bool (ZGW ((l.take i).map fun x=>(Zm x).1)))),(6,.x (.sl (rows ZI l))),(7,.x (.int .i64 i))]∧os= [.rows false 159 1 (rows Ys ((l.take i).map fun x=>(Zm x).1))]∧i≤l.length∧(l.take i).all (fun x=>(Zm x).2)=true) (ZK l.length 7) ?_ (fun φ os hI=> ?_)
   ·exact⟨0,rfl,rfl,by omega,rfl⟩
   ·obtain⟨i,rfl,rfl,hi,hall⟩:=hI;refine nz ?_;refine rg tT [4,5,6,7,24] ?_;refine cd (fun h2=> ?_) (fun h2=> ?_)
    ·have hi4:i<l.length:=by omega
     have hbi:=hb1 _ (List.getElem_mem hi4);have hsc:decide (l[i].length≤1000000)=true:=ZM (by omega);obtain⟨hc1,hc2⟩:=Qa 43 _ l[i] (Nat.le_refl _);have hmt:(l.take (i+1)).map (fun x=>(Zm x).1)=(l.take i).map (fun x=>(Zm x).1)++ [(Zm l[i]).1]:=by rw[List.take_succ_eq_append_getElem hi4,List.map_append];rfl
     have hpo:=ZYm l[i];have hpb:=ZWs l[i];have uu:=ZA uu hsc;refine rg tT [4,5,6,7,8] ?_;refine rg tT [4,5,6,7,8,9] ?_;refine rg tT [4,5,6,7,8,9,10] ?_;refine WI.ownA 9 161 2 ?_;generalize YT 43 l[i]=m at hc1 hc2 hpo hpb⊢;refine WI.loop (fun φ os=> ∃(k:Nat),φ= [(4,.ref 0 i 0 i),(5,.x (.bool (ZGW ((l.take i).map fun x=>(Zm x).1)))),(6,.x (.sl (rows ZI l))),(7,.x (.int .i64 i)),(8,.x (.sl (rows ZI m))),(9,.ref 1 k 0 k),(10,.x (.int .i64 k))]∧os= [.rows false 159 1 (rows Ys ((l.take i).map fun x=>(Zm x).1)),.rows false 161 2 (rows Zq ((m.take k).map fun x=>(Yc x).1))]∧k≤m.length∧(m.take k).all (fun x=>(Yc x).2)=true) (ZK m.length 10) ?_ (fun φ os hI=> ?_)
     ·exact⟨0,rfl,rfl,by omega,rfl⟩
     ·obtain⟨k,rfl,rfl,hk,hok⟩:=hI;refine nz ?_;refine rg tT [4,5,6,7,8,9,10,35] ?_;refine cd (fun h3=> ?_) (fun h3=> ?_)
      ·have hk4:k<m.length:=by omega
       have hbk:=hc1 _ (List.getElem_mem hk4);have hsd:decide (m[k].length≤900000)=true:=ZM (by omega);have uu:=ZA uu hsd;refine rg tT [4,5,6,7,8,9,10,11,12] ?_;refine rg tT [4,5,6,7,8,9,10,11,47] ?_;refine cd (fun h4=> ?_) (fun h4=> ?_)
       ·have hbad:=hpb (ZZ _ m k hk4 (by simpa using h4));have hf:(l.map Zm).all (·.2)=false:=by rw[List.all_map];exact ZZ _ l i hi4 (by show(Zm l[i]).2=false;rw[hbad])
        rw[if_neg (by rw[hf];decide)]at hq;refine rg tT [2,3] ?_;refine WI.nnA ?_;refine lf ?_;cases hq;rfl
       ·refine rgp tT [4,5,6,7,8,9,10] ?_;refine Yo [0,1] ?_;refine JR ?_;refine nz ?_;refine rg tT [4,5,6,7,8,9,10] ?_;exact⟨⟨k+1,rfl,by rw[List.take_succ_eq_append_getElem hk4,List.map_append,List.map_singleton,←ZF9],by omega,by rw[Zx _ m k hk4,hok];simpa using h4⟩,by simp[ZK,Ab.get,D.val,ZE];omega⟩
      ·obtain rfl:k=m.length:=by omega
       rw[List.take_length]at hok⊢;have hpx:=hpo hok;have hql:(m.map fun x=>(Yc x).1).length=m.length:=List.length_map ..;generalize(m.map fun x=>(Yc x).1)=q at hpx hql⊢;have hpx1:(Zm l[i]).1=q:=by rw[hpx]
       have hpx2:(Zm l[i]).2=true:=by rw[hpx]
       rw[←hql];have e1:q.take q.length=q:=List.take_length;have uu:=ZA uu e1;refine rg tT [4,5,6,7,9] ?_;refine rgp tT [4,5,6,7] ?_;refine Yo [0] ?_;refine JR ?_;refine nz ?_;refine WI.orderA [4,5,6,7] ?_;refine rg tT [4,5,6,7] ?_;exact⟨⟨i+1,by rw[hmt,ZSE,hpx1,←show decide ((q.length:Int)>8)=decide (q.length>8) by rw[Bool.eq_iff_iff,Zi,Zi];omega];first|done|rfl,by rw[hmt,←ZGO,hpx1];first|done|rfl,by omega,by rw[Zx _ l i hi4,hall,hpx2];rfl⟩,by simp[ZK,Ab.get,D.val,ZE];omega⟩
    ·obtain rfl:i=l.length:=by omega
     rw[List.take_length]at hall⊢;have hf:(l.map Zm).all (·.2)=true:=by rw[List.all_map];exact hall
     rw[if_pos hf]at hq;have hmm:(l.map Zm).map (·.1)=l.map (fun x=>(Zm x).1):=by rw[List.map_map];rfl
     rw[hmm]at hq hsm;have hml:(l.map fun x=>(Zm x).1).length=l.length:=List.length_map ..;have hcnt: ∀r∈(l.map fun x=>(Zm x).1),r.length≤1000000:=by
      intro r hr;obtain⟨x,h1,rfl⟩:=List.mem_map.1 hr;have:=ZEp x (by have:=hb1 x h1;omega);omega
     generalize(l.map fun x=>(Zm x).1)=m at hq hsm hml hcnt⊢;have e1:m.take l.length=m:=YL (by omega);have e2:(decide (smD m)&&(decide (m.length≤1000000)&&decide (∀r∈m,r.length≤1000000)))=true:=by rw[ZM hsm,ZM hcnt,ZM (show m.length≤1000000 by omega)];rfl
     have hlm:=ZNY m;have uu:=ZA uu (ZA hml (ZA e1 e2));refine rg tT [4,67] ?_;refine cd (fun h5=> ?_) (fun h5=> ?_)
     ·refine rg tT [2,3] ?_;refine WI.nnA ?_;refine lf ?_;have hz:mxD m>8∨m.length>32:=by rw[hlm]at h5;clear uu;grind
      by_cases hm8:mxD m>8
      ·rw[if_pos hm8]at hq;cases hq;rfl
      ·have h32:KH m=3:=by unfold KH;rw[if_pos (by omega)]
       rw[if_neg hm8,h32,if_pos (by decide)]at hq;cases hq;rfl
     ·have hm8: ¬mxD m>8:=by rw[hlm]at h5;intro hh;rw[ZM hh]at h5;simp at h5
      rw[if_neg hm8]at hq;refine rg tT [4,13] ?_;refine rg tT [4,13,71] ?_;refine cd (fun h6=> ?_) (fun h6=> ?_)
      ·refine rg tT [2,3] ?_;refine WI.nnA ?_;refine lf ?_;rw[if_pos (by simpa using h6)]at hq;cases hq;rfl
      ·refine rg tT [2,3] ?_;refine WI.nnA ?_;refine lf ?_;rw[if_neg (by simpa using h6)]at hq;cases hq;first|rfl|rw[e1]
def ZDY:List D→Option (Bool×D)
 | [.x (.str s)]=>some (true,.tup [.x (.sl (rows Ys (JN s).1)),.x (.int .i64 (JN s).2)])
 |_=>none
theorem ZSI: ∀args r,ZDY args=some (true,r)→ZD Tryz.prog 119 args r:=by
 intro args r h;unfold ZDY at h;split at h
 ·rename_i s;simp only[Zg,Ze,ZY,Zi,true_and]at h;obtain rfl:=h;exact(ZY4 s)
 ·cases h
theorem ZdN (r:List Av) (hb: ∀p∈r,p.1.length≤900000) (hl:r.length≤1000000):ZV Tryz.prog 188 [.ref 0 r.length 0 r.length] [.rows false 161 2 (rows Zq r)] (.x (.bool (Yj r))) [.rows false 161 2 (rows Zq r)]:=by
 refine ZN.mcalls (ZO (fz:=true) ZH (p:=ZJh) rfl _ (ξ rfl) _ (fun C0 E0=> ?_));dsimp only[ZJh,qt,qi,qs,qb,qm,qa,qh,qj,qT,qF,qe,ql,qL,qf,q2,q3,q8,qz,qp,qP,qc,qk,qx,qy,qo,qr,qC,ZQ];have uu:=ZA @Jv.eq_1 (ZA @Jv.eq_2 (ZA @QC.eq_1 (ZA @QC.eq_2 (ZA @ZLq (ZA @ZLl (ZA @ZHw (@ZIt)))))));have tT:=ZKi;refine nz ?_;refine rg tT [0] ?_;refine rg tT [0,3] ?_;refine rg tT [0,3,8,9,10] ?_;refine WI.loop (fun φ os=> ∃(j:Nat),φ= [(0,.ref 0 r.length 0 r.length),(3,.mref 1),(8,.ref 0 r.length 0 r.length),(9,.x (.int .i64 r.length)),(10,.x (.int .i64 j))]∧os= [.rows false 161 2 (rows Zq r),.mpo .str false (YU Jg Kg (ZAY r j))]∧j≤r.length∧okP r j=true) (ZK r.length 10) ?_ (fun φ os hI=> ?_)
 ·exact⟨0,rfl,rfl,by omega,rfl⟩
 ·obtain⟨j,rfl,rfl,hj,hok⟩:=hI;refine nz ?_;refine rg tT [0,3,8,9,10,11] ?_;refine cd (fun h0=> ?_) (fun h0=> ?_)
  ·have hj4:j<r.length:=by omega
   have har:=ZBh r j hj4;have hbj:(r.getD j ([],[])).1.length≤900000:=by rw[show r.getD j ([],[])=r[j] by simp[hj4]];exact hb _ (List.getElem_mem hj4)
   have hgt:=ZNh r j (ZB (r.getD j ([],[])).1);have uu:=ZA uu har;refine rg tT [0,3,5,8,9,10] ?_;refine rg tT [0,3,5,6,8,9,10] ?_;by_cases hin:ZB (r.getD j ([],[])).1∈KE (r.take j)
   ·rw[if_pos hin]at hgt;have uu:=ZA uu hgt;refine rg tT [0,3,6,8,9,10,37] ?_;refine ct (fun h1=> ?_) (fun h1=> ?_)
    ·refine rg tT [2] ?_;refine WI.pickA [0] ?_;refine lf ?_;have hno:Kk r j=false:=by unfold Kk;rw[ZM hin];simp
     rw[show Yj r=false by unfold Yj;rw[ZEB r r.length j hj4 hno];rfl];first|rfl|exact⟨rfl,rfl⟩
    ·clear uu;simp at h1
   ·rw[if_neg hin]at hgt;have uu:=ZA uu hgt;have hset:=ZCP Jg Kg hkS (ZAY r j) (ZB (r.getD j ([],[])).1) 1;rw[ZNA r j hj4 hin]at hset;have hset':Ya (YU Jg Kg (ZAY r j)) [X.str (ZB (r.getD j ([],[])).1)] [D.x (X.int .i64 1)]=YU Jg Kg (ZAY r (j+1)):=hset;have uu:=ZA uu hset';refine rg tT [0,3,6,8,9,10,37] ?_;refine cd (fun h1=> ?_) (fun h1=> ?_)
    ·refine rg tT [2] ?_;refine WI.pickA [0] ?_;refine lf ?_;have hno:Kk r j=false:=by unfold Kk;clear uu;grind
     rw[show Yj r=false by unfold Yj;rw[ZEB r r.length j hj4 hno];rfl];first|rfl|exact⟨rfl,rfl⟩
    ·have hone:Kk r j=true:=by unfold Kk;rw[decide_eq_false hin];clear uu;grind
     refine WI.post ?_;refine WI.regB tT [0,3,8,9,10] ?_
     iterate 2 refine oS ?_
     iterate 3 refine oG ?_
     refine oP ?_;refine Yo [0,1] ?_ (ho:=by simp (disch:=decide) only[zV,zO,Ob.mpb,frzL,QH,ZAO,Kn,Ob.onI,Qm,Yt,Option.map_some,Option.map_none,D.vw,vwL,D.on,D.inP,YY,YH,D.ren,Zy,Yb,YS,Ob.mp,Ob.ren,D.nn,ZA6,Nat.reduceBEq,Nat.reduceEqDiff,Nat.reduceAdd,↓reduceIte,ZCB,KX];rfl);refine JR ?_;refine nz ?_;refine rg tT [0,3,8,9,10] ?_;exact⟨⟨j+1,rfl,by first|done|rfl,by omega,by rw[okP,hok,hone];rfl⟩,by simp[ZK,Ab.get,D.val,ZE];omega⟩
  ·refine rg tT [2] ?_;refine WI.pickA [0] ?_;refine lf ?_;have hz:r.length=j:=by omega
   rw[show Yj r=decide (1≤r.length∧r.length≤8) by unfold Yj;rw[hz,hok,Bool.true_and]];refine⟨?_,rfl⟩;congr 2;rw[Bool.eq_iff_iff];simp;omega
def RF (d:Dn):List (List D):=KR 1 (d.map (rows Zq))
def FM (d:Dn):List Ob:=fam 161 2 (d.map (rows Zq))
abbrev obD (d:Dn):List Ob:= .drw 159 1 (RF d)::FM d
theorem ZKR (d:Dn):(RF d).length=d.length:=by unfold RF;rw[ZMR,List.length_map]
theorem ZHL (d:Dn):(FM d).length=d.length:=by unfold FM;rw[ZIN,List.length_map]
theorem ZaU (d:Dn) (j:Nat) (h:j<d.length):(d.map (rows Zq))[j]? =some (rows Zq (d.getD j [])):=by simp[h]
theorem ZUF (d:Dn) (j:Nat) (h:j<d.length):(RF d)[j]? =some [.ref (j+1) (d.getD j []).length 0 (d.getD j []).length]:=by
 unfold RF;rw[ZMi _ 1 j _ (ZaU d j h),YE,Nat.add_comm]
theorem ZUn (d:Dn) (Y:List Ob) (j:Nat) (h:j<d.length):(FM d++Y)[j]? =some (.rows false 161 2 (rows Zq (d.getD j []))):=ZdO _ _ _ Y j _ (ZaU d j h)
theorem ZIM (d:Dn) (j:Nat) (h:j<d.length):(FM d)[j]? =some (.rows false 161 2 (rows Zq (d.getD j []))):=by rw[←ZUn d [] j h,List.append_nil]
theorem ZVY (d:Dn) (Y:List Ob) (j:Nat) (h:j<d.length) (r:List Av):(FM d++Y).set j (.rows false 161 2 (rows Zq r))=FM (d.set j r)++Y:=by
 unfold FM;rw[Zby _ _ _ Y j _ (by rw[List.length_map];exact h),List.map_set]
theorem Zbz (d:Dn) (j:Nat) (h:j<d.length) (r:List Av):(FM d).set j (.rows false 161 2 (rows Zq r))=FM (d.set j r):=by
 have:=ZVY d [] j h r;rwa [List.append_nil,List.append_nil]at this
theorem ZXI (d:Dn) (j:Nat) (r:List Av) (h:r.length=(d.getD j []).length):RF (d.set j r)=RF d:=by
 unfold RF;refine ZIs _ _ _ ?_;rw[List.map_set,List.map_set,YE];apply List.ext_getElem?;intro i;rw[List.getElem?_set];split
 ·rename_i hij;subst hij;rw[YA,YA];by_cases hj:j<d.length
  ·simp[hj,YE]at h⊢;rw[h]
  ·simp[hj]
 ·rfl
theorem Zcr (d:Dn) (r:List Av):RF (d++ [r])=RF d++ [[.ref (d.length+1) r.length 0 r.length]]:=by
 unfold RF;rw[List.map_append,List.map_singleton,ZKg,List.length_map,YE,Nat.add_comm]
theorem ZcU (d:Dn) (r:List Av):FM (d++ [r])=FM d++ [.rows false 161 2 (rows Zq r)]:=by
 unfold FM;rw[List.map_append,List.map_singleton,ZX8]
theorem ZRD (d:Dn):(obD d).all (Ob.inP (fun i=>decide (i<(obD d).length)))=true:=ZZP 159 161 2 (d.map (rows Zq))
theorem ZTt:Enters Tryz.prog 188:=ZC ZH (p:=ZJh) rfl
theorem ZLv (d:Dn) (j:Nat):d.set j (d.getD j [])=d:=by
 by_cases h:j<d.length
 ·rw[show d.getD j []=d[j] by simp[h]];simp
 ·rw[List.set_eq_of_length_le (by omega)]
theorem ZeZ (d:Dn) (j:Nat) (hj:j<d.length) (hb:smD d) (hl:(d.getD j []).length≤1000000):ZV Tryz.prog 188 [.ref (j+1) (d.getD j []).length 0 (d.getD j []).length] (obD d) (.x (.bool (Yj (d.getD j [])))) (obD d):=by
 have hbj: ∀p∈d.getD j [],p.1.length≤900000:=by rw[show d.getD j []=d[j] by simp[hj]];exact hb _ (List.getElem_mem hj)
 have hc:=ZdN (d.getD j []) hbj hl;have:=ZV.row (args:= [.ref (j+1) (d.getD j []).length 0 (d.getD j []).length]) (OS:=obD d) (j+1) (by rw[show Zy (Yb [j+1]) [D.ref (j+1) (d.getD j []).length 0 (d.getD j []).length]= [D.ref 0 (d.getD j []).length 0 (d.getD j []).length] by simp only[Zy,D.ren,Yb,if_true]];exact hc) (by rw[List.getElem?_cons_succ];exact ZIM d j hj) rfl (by simp[YY,D.inP,YH]) (fun f=>rfl);rw[List.set_cons_succ,Zbz d j hj,ZLv]at this;exact this
theorem ZeB (d:Dn) (hb:smD d) (hl: ∀r∈d,r.length≤1000000) (hld:d.length≤1000000):ZV Tryz.prog 168 [.ref 0 d.length 0 d.length] (obD d) (.x (.int .i64 (KH d))) (obD d):=by
 have hRl:=ZKR d;have hFl:=ZHL d;unfold KH;refine ZN.mcalls (ZO (fz:=true) ZH (p:=ZHV) rfl _ (ξ rfl) _ (fun C0 E0=> ?_));dsimp only[ZHV,qt,qi,qs,qb,qm,qa,qh,qj,qT,qF,qe,ql,qL,qf,q2,q3,q8,qz,qp,qP,qc,qk,qx,qy,qo,qr,qC,ZQ];have uu:=ZA hRl (ZA hFl (ZA @ZGI (ZA @ZGz (ZA @ZGh (@ZF7)))));have tT:=(ZG:SsOk Tryz.prog ZW);refine nz ?_;refine rg tT [0] ?_;refine rg tT [0,7] ?_;refine cd (fun h0=> ?_) (fun h0=> ?_)
 ·refine rg tT [2] ?_;refine lf ?_;rw[if_pos (by omega)];exact⟨rfl,rfl⟩
 ·refine rg tT [8,9,10] ?_;refine WI.loop (fun φ os=> ∃(j:Nat),φ= [(8,.ref 0 d.length 0 d.length),(9,.x (.int .i64 d.length)),(10,.x (.int .i64 j))]∧os=obD d∧j≤d.length∧(d.take j).all Yj=true) (ZK d.length 10) ?_ (fun φ os hI=> ?_)
  ·exact⟨0,rfl,rfl,by omega,rfl⟩
  ·obtain⟨j,rfl,rfl,hj,hall⟩:=hI;refine nz ?_;refine rg tT [8,9,10,11] ?_;refine cd (fun h1=> ?_) (fun h1=> ?_)
   ·have hj4:j<d.length:=by omega
    have hdj:d[j]=d.getD j []:=by simp[hj4]
    have hlj:(d.getD j []).length≤1000000:=by rw[←hdj];exact hl _ (List.getElem_mem hj4)
    have hrf:=ZUF d j hj4;have hfm:=ZIM d j hj4;have uu:=ZA uu (ZA hrf hfm);refine rg tT [4,8,9,10] ?_;refine rg (ZBp ZG ZTt (ZeZ d j hj4 hb hlj)) [8,9,10,16] ?_;refine cd (fun h2=> ?_) (fun h2=> ?_)
    ·refine rg tT [2] ?_;refine lf ?_;rw[if_neg (by omega),if_neg (by rw[ZZ Yj d j hj4 (by rw[hdj];simpa using h2)];decide)];exact⟨rfl,rfl⟩
    ·refine rg tT [8,9,10] ?_;exact⟨⟨j+1,rfl,rfl,by omega,by rw[Zx _ d j hj4,hall,hdj];simpa using h2⟩,by simp[ZK,Ab.get,D.val,ZE];omega⟩
   ·refine rg tT [2] ?_;refine lf ?_;rw[YL (by omega)]at hall;rw[if_neg (by omega),if_pos hall];exact⟨rfl,rfl⟩
theorem ZbP (s:Tx) (hl:s.length≤900000) (hok:(Zm s).2=true):ZV Tryz.prog 167 [.x (.str s)] [] (.tup [.ref 0 (Zm s).1.length 0 (Zm s).1.length,.x (.bool true)]) [.rows false 161 2 (rows Zq (Zm s).1)]:=by
 obtain⟨hb1,hb2⟩:=Qa 43 _ s (Nat.le_refl _);have hpl:(Zm s).1=(YT 43 s).map (fun x=>(Yc x).1)∧(YT 43 s).all (fun x=>(Yc x).2)=true:=by
  unfold Zm ZEh at hok⊢;split at hok
  ·rename_i h;rw[if_pos h];rw[List.all_map]at h;exact⟨by rw[List.map_map];rfl,h⟩
  ·cases hok
 obtain⟨hpl,hpa⟩:=hpl;rw[hpl];clear hok hpl;have hsp:YT (UInt8.ofNat (43:Int).toNat) s=YT 43 s:=rfl;refine ZN.mcalls (ZO (fz:=false) ZH (p:=ZJb) rfl _ (ξ rfl) _ (fun C0 E0=> ?_));dsimp only[ZJb,qt,qi,qs,qb,qm,qa,qh,qj,qT,qF,qe,ql,qL,qf,q2,q3,q8,qz,qp,qP,qc,qk,qx,qy,qo,qr,qC,ZQ];have uu:=ZA @Jw.eq_1 (ZA @Jw.eq_2 (ZA @ZCp.eq_1 (ZA @ZCp.eq_2 (ZA hsp (ZA @ZOS (ZA @ZO5 (ZA @ZIv (@ZIu))))))));have tT:=ZMK;refine nz ?_;refine rg tT [0] ?_;refine rg tT [0,4] ?_;refine rg tT [4,10,11,12] ?_;refine WI.ownA 4 161 2 ?_;generalize YT 43 s=l at hpa hb1 hb2⊢;refine WI.loop (fun φ os=> ∃(j:Nat),φ= [(4,.ref 0 j 0 j),(10,.x (.sl (rows ZI l))),(11,.x (.int .i64 l.length)),(12,.x (.int .i64 j))]∧os= [.rows false 161 2 (rows Zq ((l.take j).map fun x=>(Yc x).1))]∧j≤l.length) (ZK l.length 12) ?_ (fun φ os hI=> ?_)
 ·exact⟨0,rfl,rfl,by omega⟩
 ·obtain⟨j,rfl,rfl,hj⟩:=hI;refine nz ?_;refine rg tT [4,10,11,12,13] ?_;refine cd (fun h0=> ?_) (fun h0=> ?_)
  ·have hj4:j<l.length:=by omega
   have hbj:=hb1 _ (List.getElem_mem hj4);have hpj:(Yc l[j]).2=true:=List.all_eq_true.1 hpa _ (List.getElem_mem hj4);have hsc:decide (l[j].length≤900000)=true:=ZM (by omega);have uu:=ZA uu hsc;refine rg tT [4,6,10,11,12] ?_;refine rg tT [4,7,8,10,11,12] ?_;refine rg tT [4,7,10,11,12,22] ?_;refine ce (fun h1=> ?_) (fun h1=> ?_)
   ·rw[hpj]at h1;simp at h1
   ·refine rgp tT [4,10,11,12] ?_;refine Yo [0] ?_;refine JR ?_;refine nz ?_;refine WI.orderA [4,10,11,12] ?_;refine rg tT [4,10,11,12] ?_;exact⟨⟨j+1,rfl,by rw[List.take_succ_eq_append_getElem hj4,List.map_append,List.map_singleton,←ZF9],by omega⟩,by simp[ZK,Ab.get,D.val,ZE];omega⟩
  ·have e1:(rows Zq ((l.take j).map fun x=>(Yc x).1)).length=j:=by simp[rows];omega
   have e2:(l.take j).length=j:=by simp;omega
   have uu:=ZA uu (ZA e1 e2);refine rg tT [2,3] ?_;refine lf ?_;have hz:l.length=j:=by omega
   rw[YL (l:=l) (by omega),List.length_map,hz];exact⟨rfl,rfl⟩
theorem ZQM:Enters Tryz.prog 167:=ZC ZH (p:=ZJb) rfl
theorem ZbH (d:Dn) (s:Tx) (hl:s.length≤900000) (hok:(Zm s).2=true):ZV Tryz.prog 167 [.x (.str s)] (obD d) (.tup [.ref (d.length+1) (Zm s).1.length 0 (Zm s).1.length,.x (.bool true)]) (.drw 159 1 (RF d)::FM (d++ [(Zm s).1])):=by
 have:=ZV.new (OS:=obD d) (ZbP s hl hok) rfl (fun p=>rfl);rw[List.map_singleton,Jz,ZHL]at this;rw[ZcU];exact this
theorem ZO1:Enters Tryz.prog 168:=ZC ZH (p:=ZHV) rfl
theorem ZGc (s:Tx) (d:Dn) (hq:JN s=(d,0)) (hne:s≠ []):s.length≤4096∧(YT 44 s).all (fun x=>(Zm x).2)=true∧d=(YT 44 s).map (fun x=>(Zm x).1)∧mxD d≤8∧KH d=0:=by
 unfold JN at hq;by_cases h1:s.length>4096
 ·rw[if_pos h1]at hq;cases hq
 rw[if_neg h1,if_neg hne]at hq;by_cases h2:(ZBO s).all (·.2)=true
 ·rw[if_pos h2]at hq;by_cases h3:mxD (Qx s)>8
  ·rw[if_pos h3]at hq;cases hq
  rw[if_neg h3]at hq;by_cases h4:KH (Qx s)≠0
  ·rw[if_pos h4]at hq;simp only[Ze]at hq;exact absurd hq.2 h4
  rw[if_neg h4]at hq;simp only[Ze]at hq;obtain⟨rfl,-⟩:=hq;refine⟨by omega,?_,?_,by omega,Classical.not_not.1 h4⟩
  ·unfold ZBO at h2;rw[List.all_map]at h2;exact h2
  ·unfold Qx ZBO;rw[List.map_map];rfl
 ·rw[if_neg h2]at hq;cases hq
def ZKz:Tabs:=Za (ZW) 166 Jw
theorem ZWx:SsOk Tryz.prog ZKz:=ZL (ZG) (ZC ZH (p:=ZLU) rfl) ZGS
theorem ZQD (a:List D):ZKz.q 166 a=Jw a:=rfl
theorem ZaJ (f:FuncId) (a:List D) (o:List Ob):ZKz.r f a o=none:=rfl
theorem ZYX (f:FuncId) (a:List D) (o:List Ob):ZKz.k f a o=none:=rfl
set_option maxHeartbeats 1000000 in
theorem Zc4 (s:Tx) (d:Dn) (hq:JN s=(d,0)) (hne:s≠ []):ZV Tryz.prog 131 [.x (.str s)] [] (.tup [.ref 0 d.length 0 d.length,.x (.int .i64 0)]) (obD d):=by
 obtain⟨hs4,hall,hd,hmx8,hck⟩:=ZGc s d hq hne;clear hq;obtain⟨hb1,hb2⟩:=Qa 44 _ s (Nat.le_refl _);have hsm:smD d:=by
  have:=ZGX s (by omega);unfold Qx ZBO at this;rw[List.map_map]at this;rw[hd];exact this
 have hsp:YT (UInt8.ofNat (44:Int).toNat) s=YT 44 s:=rfl;refine ZN.mcalls (ZO (fz:=false) ZH (p:=ZJV) rfl _ (ξ rfl) _ (fun C0 E0=> ?_));dsimp only[ZJV,qt,qi,qs,qb,qm,qa,qh,qj,qT,qF,qe,ql,qL,qf,q2,q3,q8,qz,qp,qP,qc,qk,qx,qy,qo,qr,qC,ZQ];have uu:=ZA @Jw.eq_1 (ZA @Jw.eq_2 (ZA hsp (ZA @ZGI (ZA @ZGz (ZA @ZGh (ZA @ZF7 (ZA @ZaJ (ZA @ZYX (@ZQD)))))))));have tT:=ZWx;refine nz ?_;refine rg tT [0] ?_;refine rg tT [0,11] ?_;refine ce (fun h0=> ?_) (fun h0=> ?_)
 ·simp at h0;omega
 ·refine rg tT [0,15] ?_;refine ce (fun h1=> ?_) (fun h1=> ?_)
  ·exact hne (by simpa using h1)
  ·refine rg tT [0,4] ?_;refine rg tT [0,4,5] ?_;refine rg tT [4,5,19,20,21] ?_;refine WI.ownA 4 159 1 ?_;refine WI.toDA 0 ?_;generalize YT 44 s=l at hb1 hb2 hall hd⊢;refine WI.loop (fun φ os=> ∃(j:Nat),φ= [(4,.ref 0 j 0 j),(5,.x (.int .i64 (mxD ((l.take j).map fun x=>(Zm x).1)))),(19,.x (.sl (rows ZI l))),(20,.x (.int .i64 l.length)),(21,.x (.int .i64 j))]∧os=obD ((l.take j).map fun x=>(Zm x).1)∧j≤l.length) (ZK l.length 21) ?_ (fun φ os hI=> ?_)
   ·exact⟨0,rfl,rfl,by omega⟩
   ·obtain⟨j,rfl,rfl,hj⟩:=hI;refine nz ?_;refine rg tT [4,5,19,20,21,22] ?_;refine cd (fun h2=> ?_) (fun h2=> ?_)
    ·have hj4:j<l.length:=by omega
     have hbj:=hb1 _ (List.getElem_mem hj4);have hpc:=ZEp l[j] (by omega);have hpj:(Zm l[j]).2=true:=List.all_eq_true.1 hall _ (List.getElem_mem hj4);have hmt:(l.take (j+1)).map (fun x=>(Zm x).1)=(l.take j).map (fun x=>(Zm x).1)++ [(Zm l[j]).1]:=by rw[List.take_succ_eq_append_getElem hj4,List.map_append];rfl
     have hmx:mxD ((l.take (j+1)).map fun x=>(Zm x).1)=max (mxD ((l.take j).map fun x=>(Zm x).1)) (Zm l[j]).1.length:=by rw[hmt,ZJC]
     have hml:((l.take j).map fun x=>(Zm x).1).length=j:=by rw[List.length_map,List.length_take];omega
     have hcall:=ZbH ((l.take j).map fun x=>(Zm x).1) l[j] (by omega) hpj;rw[hml]at hcall;generalize hM:(l.take j).map (fun x=>(Zm x).1)=M at hmt hmx hml hcall⊢;generalize hR:(Zm l[j]).1=r at hmt hmx hcall hpc⊢;have hrl:=ZKR M;have hfl:=ZHL (M++ [r]);rw[Zr,List.length_singleton,hml]at hfl;have hfg: ∀x:Ob,(FM (M++ [r])++ [x])[j+1]? =some x:=fun x=>by rw[List.getElem?_append_right (by omega),hfl,Nat.sub_self];rfl
     rw[hml]at hrl;have hsn:=Zcr M r;rw[hml]at hsn;have hfm:(FM (M++ [r]))[j]? =some (.rows false 161 2 (rows Zq r)):=by rw[ZIM (M++ [r]) j (by simp;omega)];simp[hml]
     have uu:=ZA uu (ZA hrl (ZA hfl (ZA hfg hfm)));refine rg tT [4,5,7,19,20,21] ?_;refine rg (ZBp ZG ZQM hcall) [4,5,8,9,19,20,21] ?_;refine rg tT [4,5,8,19,20,21,31] ?_;refine ce (fun h3=> ?_) (fun h3=> ?_)
     ·simp at h3
     ·refine rg tT [4,5,8,19,20,21] ?_;refine WI.post ?_;refine WI.regB tT [4,5,19,20,21] ?_
      iterate 2 refine oS ?_
      iterate 2 refine oG ?_
      refine oS ?_;refine oP ?_;refine ZKS (obD (M++ [r])) _ (by rw[obD,hsn];rfl) (Nat.zero_le _) (ZRD _) (by simp only[List.all_cons,List.all_nil,D.inP,Jz,hfl];simp) ?_;refine JR ?_;refine nz ?_;refine WI.orderA [4,5,19,20,21] ?_;refine rg tT [4,5,19,20,21] ?_;exact⟨⟨j+1,by rw[hmx,ZVM];first|done|rfl,by rw[hmt],by omega⟩,by simp[ZK,Ab.get,D.val,ZE];omega⟩
    ·obtain rfl:j=l.length:=by omega
     rw[List.take_length,←hd];have hdl:d.length=l.length:=by rw[hd,List.length_map]
     rw[←hdl];have hcc:=ZeB d hsm (fun r hr=>by rw[hd]at hr;obtain⟨x,h1,rfl⟩:=List.mem_map.1 hr;have:=ZEp x (by have:=hb1 x h1;omega);omega) (by omega);rw[hck]at hcc;refine rg tT [4,42] ?_;refine ce (fun h4=> ?_) (fun h4=> ?_)
     ·simp at h4;omega
     ·refine rg (ZBp ZG ZO1 hcc) [4,10] ?_;refine rg tT [4,10,46] ?_;refine ce (fun h5=> ?_) (fun h5=> ?_)
      ·simp at h5
      ·refine rg tT [2,3] ?_;refine lf ?_;exact⟨rfl,rfl⟩
def dgD (n:Nat):UInt8:=ZCG.getD n 0
def ZJN (c:UInt8):Bool:=decide ((c.toNat:Int)<32)||decide ((c.toNat:Int)=127)
def slD (c:UInt8) (f l:Bool):Bool:=spc c.toNat||(f&&(decide ((c.toNat:Int)=32)||decide ((c.toNat:Int)=35))||l&&decide ((c.toNat:Int)=32))
def ZGe (c:UInt8) (f l:Bool):Tx:=if ZJN c=true then [92,dgD (c.toNat/16),dgD (c.toNat % 16)]else if slD c f l=true then [92,c]else [c]
def Kx (s:Tx) (j:Nat):Tx:=ZGe (s.getD j 0) (decide (j=0)) (decide (j+1=s.length))
def Qg (s:Tx):Nat→Tx
 |0=> []
 |j+1=>Qg s j++Kx s j
def ZC4 (s:Tx):Tx:=Qg s s.length
theorem ZZp (c:UInt8) (f l:Bool):(ZGe c f l).length≤3:=by unfold ZGe;split;simp;split<;>simp
theorem ZB9 (s:Tx): ∀j,(Qg s j).length≤3*j
 |0=>by simp[Qg]
 |j+1=>by
  have h1:=ZB9 s j;have h2:=ZZp (s.getD j 0) (decide (j=0)) (decide (j+1=s.length));rw[Qg,Zr];unfold Kx;omega
theorem Zaa (n:Nat) (h:n<256):IntKind.u8.wrap ((n:Int).tdiv 16)=((n/16:Nat):Int):=by
 rw[show(n:Int).tdiv 16=((n/16:Nat):Int)from rfl,IntWalk.u8_in _ (by omega)]
theorem ZaS (n:Nat):(n:Int).tmod 16=((n % 16:Nat):Int):=rfl
theorem Zcj (b:Tx) (c d e:UInt8):b.map Zl++ [[X.int .u8 (c.toNat:Int)],[X.int .u8 (d.toNat:Int)],[X.int .u8 (e.toNat:Int)]]=(b++ [c,d,e]).map Zl:=by rw[List.map_append];rfl
theorem ZbG (b:Tx) (c:UInt8):b.map Zl++ [[X.int .u8 (c.toNat:Int)]]=(b++ [c]).map Zl:=by rw[List.map_append];rfl
def ZKs:Tabs:=Za (ZW) 202 ZAQ
theorem ZWY:SsOk Tryz.prog ZKs:=ZL (ZG) (ZC ZH (p:=ZLC) rfl) ZI8
theorem ZQL (a:List D):ZKs.q 202 a=ZAQ a:=rfl
theorem ZYa (f:FuncId) (a:List D) (o:List Ob):ZKs.r f a o=none:=rfl
theorem ZZt (f:FuncId) (a:List D) (o:List Ob):ZKs.k f a o=none:=rfl
theorem Zbv (s:Tx) (hl:s.length≤1000000):ZD Tryz.prog 176 [.x (.str s)] (.x (.str (ZC4 s))):=by
 have hsl: ∀n,inB [44,43,34,92,60,62,59,61] n=spc n:=fun n=>rfl
 have hud: ∀n:Nat,([48,49,50,51,52,53,54,55,56,57,97,98,99,100,101,102]:Tx).getD n 0=dgD n:=fun n=>rfl
 refine ZN.pure (ZO (fz:=true) ZH (p:=ZSP) rfl _ (ξ rfl) _ (fun C0 E0=> ?_)) rfl;dsimp only[ZSP,qt,qi,qs,qb,qm,qa,qh,qj,qT,qF,qe,ql,qL,qf,q2,q3,q8,qz,qp,qP,qc,qk,qx,qy,qo,qr,qC,ZQ];have uu:=ZA @ZAQ.eq_1 (ZA @ZAQ.eq_2 (ZA hsl (ZA hud (ZA @YV (ZA @Jh (ZA @ZYa (ZA @ZZt (@ZQL))))))));have tT:=ZWY;refine nz ?_;refine rg tT [0] ?_;refine rg tT [0,3] ?_;refine rg tT [0,3,9,10,11] ?_;refine WI.ownA 3 5 1 ?_;refine WI.loop (fun φ os=> ∃(j:Nat),φ= [(0,.x (.str s)),(3,.ref 1 (Qg s j).length 0 (Qg s j).length),(9,.ref 0 s.length 0 s.length),(10,.x (.int .i64 s.length)),(11,.x (.int .i64 j))]∧os= [.rows true 5 1 (s.map Zl),.rows false 5 1 ((Qg s j).map Zl)]∧j≤s.length) (ZK s.length 11) ?_ (fun φ os hI=> ?_)
 ·exact⟨0,rfl,rfl,by omega⟩
 ·obtain⟨j,rfl,rfl,hj⟩:=hI;have hle:=ZB9 s j;refine nz ?_;refine rg tT [0,3,9,10,11,12] ?_;refine cd (fun h0=> ?_) (fun h0=> ?_)
  ·have hj4:j<s.length:=by omega
   have hst:Qg s (j+1)=Qg s j++Kx s j:=rfl;have hb8:(s.getD j 0).toNat<256:=UInt8.toNat_lt _;have q0:(decide (0≤((s.getD j 0).toNat:Int)))=true:=ZM (by omega);have q1:=Zaa _ hb8;have q2:=ZaS (s.getD j 0).toNat;have q3:decide (((s.getD j 0).toNat/16:Nat)<(16:Int))=true:=ZM (by omega);have q4:decide (((s.getD j 0).toNat % 16:Nat)<(16:Int))=true:=ZM (by omega);have uu:=ZA uu (ZA (ZOz s j hj4) (ZA q0 (ZA q1 (ZA q2 (ZA q3 q4)))));refine rg tT [0,3,4,5,9,10,11] ?_;refine rg tT [0,3,5,6,7,9,10,11] ?_;refine rg tT [0,3,5,6,7,9,10,11,23] ?_;refine cd (fun h1=> ?_) (fun h1=> ?_)
   ·have hA:Kx s j= [92,dgD ((s.getD j 0).toNat/16),dgD ((s.getD j 0).toNat % 16)]:=by unfold Kx ZGe ZJN;rw[if_pos (by clear uu;grind)]
    have hn:(Kx s j).length=3:=by rw[hA];rfl
    have hrow:(Qg s j).map Zl++ [[X.int .u8 92],[X.int .u8 ((dgD ((s.getD j 0).toNat/16)).toNat:Int)],[X.int .u8 ((dgD ((s.getD j 0).toNat % 16)).toNat:Int)]]=(Qg s j++Kx s j).map Zl:=by rw[hA];exact Zcj _ 92 _ _
    refine WI.post ?_;refine WI.dregB tT [0,3,9,10,11] ?_
    iterate 2 refine Zo ?_
    iterate 2 refine Ym ?_
    refine Zo ?_
    iterate 2 refine Ym ?_
    iterate 2 refine dAG ?_
    refine Zo ?_;refine dP ?_;refine Yo [0,1] ?_;refine JR ?_;refine nz ?_;refine WI.orderA [0,3,9,10,11] ?_;refine rg tT [0,3,9,10,11] ?_;exact⟨⟨j+1,by rw[hst,Zr,hn];first|done|rfl,by rw[hst,←hrow];first|done|rfl,by omega⟩,by simp[ZK,Ab.get,D.val,ZE];omega⟩
   ·refine rg tT [0,3,5,9,10,11,39] ?_;refine cd (fun h2=> ?_) (fun h2=> ?_)
    ·have hA:Kx s j= [92,s.getD j 0]:=by unfold Kx ZGe ZJN slD;rw[if_neg (by clear uu;grind),if_pos (by clear uu;grind)]
     have hn:(Kx s j).length=1+1:=by rw[hA];rfl
     have hrow:(Qg s j).map Zl++ [[X.int .u8 92]]++ [[X.int .u8 ((s.getD j 0).toNat:Int)]]=(Qg s j++Kx s j).map Zl:=by rw[hA,List.append_assoc,List.map_append];rfl
     refine rgp tT [0,3,5,9,10,11] ?_;refine Yo [0,1] ?_;refine JR ?_;refine nz ?_;refine rgp tT [0,3,9,10,11] ?_;refine Yo [0,1] ?_;refine JR ?_;refine nz ?_;refine WI.orderA [0,3,9,10,11] ?_;refine rg tT [0,3,9,10,11] ?_;exact⟨⟨j+1,by rw[hst,Zr,hn];first|done|rfl,by rw[hst,←hrow];first|done|rfl,by omega⟩,by simp[ZK,Ab.get,D.val,ZE];omega⟩
    ·have hA:Kx s j= [s.getD j 0]:=by unfold Kx ZGe ZJN slD;rw[if_neg (by clear uu;grind),if_neg (by clear uu;grind)]
     have hn:(Kx s j).length=1:=by rw[hA];rfl
     have hrow:(Qg s j).map Zl++ [[X.int .u8 ((s.getD j 0).toNat:Int)]]=(Qg s j++Kx s j).map Zl:=by rw[hA];exact ZbG _ _
     refine rgp tT [0,3,9,10,11] ?_;refine Yo [0,1] ?_;refine JR ?_;refine nz ?_;refine WI.orderA [0,3,9,10,11] ?_;refine rg tT [0,3,9,10,11] ?_;exact⟨⟨j+1,by rw[hst,Zr,hn];first|done|rfl,by rw[hst,←hrow];first|done|rfl,by omega⟩,by simp[ZK,Ab.get,D.val,ZE];omega⟩
  ·have uu:=ZA uu (ZKv (Qg s j));refine rg tT [2] ?_;refine lf ?_;obtain rfl:j=s.length:=by omega
   first|rfl|(simp only[Jh,ZKv];first|done|rfl)
def ZFb:List D→Option (Bool×D)
 | [.x (.str s)]=>some (decide (s.length≤1000000),.x (.str (ZC4 s)))
 |_=>none
theorem ZVm: ∀args r,ZFb args=some (true,r)→ZD Tryz.prog 176 args r:=by
 intro args r h;unfold ZFb at h;split at h
 ·rename_i s;simp only[Zg,Ze,ZY,Zi,true_and]at h;obtain⟨h1,rfl⟩:=h;exact(Zbv s h1)
 ·cases h
theorem Zbk: ∀m:Fin 16,(ZCG.take (m.val+1)).drop m.val= [dgD m.val]:=by decide+kernel
theorem ZWH (m:Nat) (h:m<16):(ZCG.take (m+1)).drop m= [dgD m]:=Zbk ⟨m,h⟩
theorem ZW0 (m:Nat) (h:m<16):IntKind.u8.wrap ((m:Int)+1)=((m+1:Nat):Int):=by rw[IntWalk.u8_in _ (by omega)];rfl
theorem ZQ6 (s:Tx) (j:Nat) (h:j<s.length):List.drop j (List.take ((j:Int)+1).toNat s)= [s.getD j 0]:=by
 rw[show((j:Int)+1).toNat=j+1 by omega,List.take_succ_eq_append_getElem h,List.drop_append_of_le_length (by simp;omega),List.drop_of_length_le (by simp;omega)];simp[h]
theorem ZYO:ZCG.length=16:=rfl
def ZKr:Tabs:=Za (ZW) 204 QS
theorem ZUG:SsOk Tryz.prog ZKr:=ZL (ZG) (ZC ZH (p:=ZPH) rfl) ZI2
theorem ZPx (a:List D):ZKr.q 204 a=QS a:=rfl
theorem ZaH (f:FuncId) (a:List D) (o:List Ob):ZKr.r f a o=none:=rfl
theorem ZYG (f:FuncId) (a:List D) (o:List Ob):ZKr.k f a o=none:=rfl
theorem Zb3 (s:Tx) (hl:s.length≤1000000):ZD Tryz.prog 182 [.x (.str s)] (.x (.str (ZC4 s))):=by
 refine ZN.pure (ZO (fz:=true) ZH (p:=ZSm) rfl _ (ξ rfl) _ (fun C0 E0=> ?_)) rfl;dsimp only[ZSm,qt,qi,qs,qb,qm,qa,qh,qj,qT,qF,qe,ql,qL,qf,q2,q3,q8,qz,qp,qP,qc,qk,qx,qy,qo,qr,qC,ZQ];have uu:=ZA @QS.eq_1 (ZA @QS.eq_2 (ZA @ZaH (ZA @ZYG (@ZPx))));have tT:=ZUG;refine nz ?_;refine rg tT [0] ?_;refine rg tT [0,3] ?_;refine rg tT [0,3,4] ?_;refine rg tT [0,3,4,5] ?_;refine WI.loop (fun φ os=> ∃(j:Nat),φ= [(0,.x (.str s)),(3,.x (.str ZCG)),(4,.x (.str (Qg s j))),(5,.x (.int .i64 j))]∧os= []∧j≤s.length) (ZK s.length 5) ?_ (fun φ os hI=> ?_)
 ·exact⟨0,rfl,rfl,by omega⟩
 ·obtain⟨j,rfl,rfl,hj⟩:=hI;have hle:=ZB9 s j;refine nz ?_;refine rg tT [0,3,4,5,10] ?_;refine cd (fun h0=> ?_) (fun h0=> ?_)
  ·have hj4:j<s.length:=by omega
   have hst:Qg s (j+1)=Qg s j++Kx s j:=rfl;have hb8:(s.getD j 0).toNat<256:=UInt8.toNat_lt _;have q0:(decide (0≤((s.getD j 0).toNat:Int)))=true:=ZM (by omega);have uu:=ZA uu q0;refine rg tT [0,3,4,5,6] ?_;refine rg tT [0,3,4,5,6,23] ?_;refine cd (fun h1=> ?_) (fun h1=> ?_)
   ·have hA:Kx s j= [92,dgD ((s.getD j 0).toNat/16),dgD ((s.getD j 0).toNat % 16)]:=by unfold Kx ZGe ZJN;rw[if_pos (by clear uu;grind)]
    have uu:=ZA uu (ZA (show decide (((s.getD j 0).toNat/16:Nat)≤(((s.getD j 0).toNat/16+1:Nat):Int))=true from ZM (by omega)) (ZA (show decide (((s.getD j 0).toNat/16+1:Nat)≤((16:Nat):Int))=true from ZM (by omega)) (ZA (Zaa _ hb8) (ZA (ZaS (s.getD j 0).toNat) (ZA (ZWH ((s.getD j 0).toNat/16) (by omega)) (ZA (ZWH ((s.getD j 0).toNat % 16) (by omega)) (ZA (ZW0 ((s.getD j 0).toNat/16) (by omega)) (ZA (ZW0 ((s.getD j 0).toNat % 16) (by omega)) ZYO))))))));refine WI.dregB tT [0,3,4,5] ?_;refine Zo ?_;refine Ym ?_
    iterate 2 refine Zo ?_
    refine Ym ?_;refine Zo ?_
    iterate 4 refine Ym ?_
    iterate 2 refine Zo ?_
    refine Ym ?_;refine Zo ?_
    iterate 4 refine Ym ?_
    refine Zo ?_;refine dN ?_;refine nz ?_;refine rg tT [0,3,4,5] ?_;exact⟨⟨j+1,by rw[hst,hA];first|done|rfl|simp,rfl,by omega⟩,by simp[ZK,Ab.get,D.val,ZE];omega⟩
   ·refine rg tT [0,3,4,5,48] ?_;refine cd (fun h2=> ?_) (fun h2=> ?_)
    ·have hA:Kx s j= [92,s.getD j 0]:=by unfold Kx ZGe ZJN slD;rw[if_neg (by clear uu;grind),if_pos (by clear uu;grind)]
     have uu:=ZA uu (ZQ6 s j hj4);refine rg tT [0,3,4,5] ?_;refine rg tT [0,3,4,5] ?_;exact⟨⟨j+1,by rw[hst,hA];first|done|rfl|simp,rfl,by omega⟩,by simp[ZK,Ab.get,D.val,ZE];omega⟩
    ·have hA:Kx s j= [s.getD j 0]:=by unfold Kx ZGe ZJN slD;rw[if_neg (by clear uu;grind),if_neg (by clear uu;grind)]
     have uu:=ZA uu (ZQ6 s j hj4);refine rg tT [0,3,4,5] ?_;refine rg tT [0,3,4,5] ?_;exact⟨⟨j+1,by rw[hst,hA];first|done|rfl|simp,rfl,by omega⟩,by simp[ZK,Ab.get,D.val,ZE];omega⟩
  ·refine rg tT [2] ?_;refine lf ?_;obtain rfl:j=s.length:=by omega
   rfl
def ZFK:List D→Option (Bool×D)
 | [.x (.str s)]=>some (decide (s.length≤1000000),.x (.str (ZC4 s)))
 |_=>none
theorem ZV9: ∀args r,ZFK args=some (true,r)→ZD Tryz.prog 182 args r:=by
 intro args r h;unfold ZFK at h;split at h
 ·rename_i s;simp only[Zg,Ze,ZY,Zi,true_and]at h;obtain⟨h1,rfl⟩:=h;exact(Zb3 s h1)
 ·cases h
end Go.Proofs.YtpjfdjcejamebaaGreatDoor
end
section
namespace Go.Proofs
open Go.Shelf Go.RowKit Go.Lib
set_option maxHeartbeats 1000000 in
theorem Any1.strings_Split_one {P:Program} {ρ:Ren} (L:Lays.n146 P ρ) (hi9:(P.info? (ρ.t 9)).map (fun i=>(i.zero,i.size,i.bytes))=some (some (.string ByteArray.empty),1,16)) (s:ByteArray) (b:UInt8) (w:World) (hs:s.size<4294967281):
  Calls P (ρ.f 146) #[.string s,.string ⟨#[b]⟩] w fun e w'=>
   e= .returned (.slice (some ⟨w.heap.size,0,none⟩) (Lib.countB s ⟨#[b]⟩+1) (Lib.countB s ⟨#[b]⟩+1))∧w'=w.alloc (.cells ((Lib.splitB ⟨#[b]⟩ 0 (Lib.countB s ⟨#[b]⟩) s).map Value.string).toArray (ρ.t 9)):=by
 have h1:1≤(⟨#[b]⟩:ByteArray).size:=Nat.le_refl _;have hle:=Lib.countB_le ⟨#[b]⟩ h1 s.size s (Nat.le_refl _);have hlen:=Lib.splitB_all ⟨#[b]⟩ h1 0 _ s rfl;have hI: ∀(x:ByteArray) (c:Array Value),x.size≤s.size→Calls P (ρ.f 143) #[.string x,.string ⟨#[b]⟩] (w.alloc (.cells c (ρ.t 9))) fun e w'=>e= .returned (.int .i64 (Lib.indexB x ⟨#[b]⟩))∧w'=w.alloc (.cells c (ρ.t 9)):=fun x c hx=>by
  refine(Any.strings_Index_one {L with} x b _).mono fun e w' ⟨he,hw⟩=>⟨?_,hw⟩
  rw[he,Lib.indexB,Lib.index_one]
 have hC:Calls P (ρ.f 138) #[.string s,.string ⟨#[b]⟩] w fun e w'=>e= .returned (.int .i64 (Lib.countB s ⟨#[b]⟩))∧w'=w:=by
  refine(Any.strings_Count_one {L with} s b w).mono fun e w' ⟨he,hw⟩=>⟨?_,hw⟩
  rw[he];show _=Ending.returned (Value.int .i64 ((Lib.count s.data.toList [b]:Nat):Int));rw[Lib.count_one];rfl
 have c:=Any.strings_genSplit_core {L with} hi9 s ⟨#[b]⟩ 0 (-1) (Lib.countB s ⟨#[b]⟩+1) w hs h1 (Nat.zero_le _) hI hC (by decide) (by decide) (by rw[if_pos (by decide)];omega);rw[Nat.add_sub_cancel,hlen]at c;have e2:Lib.cellsOf (Lib.splitB ⟨#[b]⟩ 0 (Lib.countB s ⟨#[b]⟩) s) (Lib.countB s ⟨#[b]⟩+1)=((Lib.splitB ⟨#[b]⟩ 0 (Lib.countB s ⟨#[b]⟩) s).map Value.string).toArray:=by rw[←hlen];exact Lib.cellsOf_full _
 rw[e2]at c;have t3:=L.t3;have t9:=L.t9;have t31:=L.t31;have a3:=L.a3;have a9:=L.a9;have a31:=L.a31;have z3:=L.z3;have v3:=L.v3;have z9:=L.z9;have v9:=L.v9;have z31:=L.z31;have v31:=L.v31;have e221: ∀args w,(callFunc (ρ.f 221) args).run P w= .ok (.enter (ρ.f 221) args) w:=enters_of L.f221 (by kernel_rfl) rfl
 go_enter L.f146,Body.n146_ntmps ρ
 go_wp2_with (go_at_fn (ρ.f 221);refine c.mono ?_;rintro e w' ⟨rfl,hw⟩;rw[hw])
 go_ret
 exact⟨rfl,rfl⟩
end Go.Proofs
namespace Go.Proofs.YtpjfdjcejamebaaGreatDoor
open Go.RowKit Go.Bo Go.Ab
def JX (c:UInt8):List UInt8→List (List UInt8)
 | []=> [[]]
 |b::l=>if b=c then []::JX c l else match JX c l with
  |x::r=>(b::x)::r
  | []=> [[b]]
theorem Zdn (c:UInt8): ∀s,JX c s≠ []
 | []=>by simp[JX]
 |b::l=>by unfold JX;split;simp;split<;>simp
theorem ZcQ (c b:UInt8) (l:List UInt8) (h:b≠c): ∀k,Lib.splitK [c] 0 k (b::l)=match Lib.splitK [c] 0 k l with
  |x::r=>(b::x)::r
  | []=> [[b]]
 |0=>rfl
 |k+1=>by
  have hp: [c].isPrefixOf (b::l)=false:=by simp[List.isPrefixOf];exact fun e=>h e.symm
  simp only[Lib.splitK,Lib.index,hp,Bool.false_eq_true,if_false];by_cases hi:(Lib.index l [c]== -1)=true
  ·simp[hi]
  ·have hn:=Lib.index_ge l [c];simp only[hi,Bool.false_eq_true,if_false];simp at hi;have h1:(Lib.index l [c]+1== -1)=false:=by simp;omega
   obtain⟨n,hn⟩: ∃n:Nat,Lib.index l [c]=n:=⟨(Lib.index l [c]).toNat,by omega⟩;simp[hn,h1];intro h;omega
theorem ZXT (c:UInt8): ∀s,Lib.splitK [c] 0 (Lib.count s [c]) s=JX c s
 | []=>by
  have:Lib.count [] [c]=0:=by rw[Lib.count_one];rfl
  rw[this];rfl
 |b::l=>by
  have ih:=ZXT c l;by_cases h:b=c
  ·subst h;rw[Lib.count_cons_eq,Nat.add_comm];have hp: [b].isPrefixOf (b::l)=true:=by simp[List.isPrefixOf]
   simp only[Lib.splitK,Lib.index,hp,if_true,JX];simp[ih]
  ·rw[Lib.count_cons_ne _ _ _ h,ZcQ _ _ _ h,ih,JX,if_neg h]
theorem Zca (s:List UInt8) (c:UInt8) (h:s.length≤1000000):ZD Tryz.prog 137 [.x (.str s),.x (.str [c])] (.x (.sl (rows ZI (JX c s)))):=by
 intro w st vs hst hvl;obtain⟨hsz,hv⟩:=hvl;obtain⟨v0,v1,rfl⟩: ∃v0 v1,vs= #[v0,v1]:=by
  obtain⟨vl⟩:=vs
  match vl,hsz with
  | [a,b],_=>exact⟨a,b,rfl⟩
 have h0:=hv 0 _ v0 rfl rfl;have h1:=hv 1 _ v1 rfl rfl;clear hv hsz;cases h0 with
 |x h0=>
 cases h1 with
 |x h1=>
 cases h1 with
 |str _=>
 cases h0 with
 |str _=>
 have hlen:=Lib.splitB_all ⟨#[c]⟩ (Nat.le_refl _) 0 _ (Zc s) rfl;have hD:(Lib.splitB ⟨#[c]⟩ 0 (Lib.countB (Zc s) ⟨#[c]⟩) (Zc s)).map (·.data.toList)=JX c s:=by
  rw[Lib.splitB_data];have e:(Zc s).data.toList=s:=by simp[Zc]
  show Lib.splitK [c] 0 (Lib.count (Zc s).data.toList [c]) (Zc s).data.toList=_;rw[e];exact ZXT c s
 have hle:=Lib.countB_le ⟨#[c]⟩ (Nat.le_refl _) (Zc s).size (Zc s) (Nat.le_refl _);have hbs:(Zc s).size=s.length:=by simp[Zc,ByteArray.size]
 refine(Any1.strings_Split_one Tryz.lays146 (by kernel_rfl) (Zc s) c w (by omega)).mono ?_;generalize Lib.splitB ⟨#[c]⟩ 0 (Lib.countB (Zc s) ⟨#[c]⟩) (Zc s)=ps at hlen hD⊢;generalize Lib.countB (Zc s) ⟨#[c]⟩=k at hlen hle⊢;rintro e w' ⟨rfl,rfl⟩;refine⟨_,fun b o=>st b o∨(b=w.heap.size∧o<k+1),rfl,?_,fun _ _ h=> .inl h,?_,?_⟩
 ·exact JO w _
 ·rintro b o (h|⟨rfl,h⟩)
  ·exact .inl h
  ·exact .inr ⟨Nat.le_refl _,by simp⟩
 ·rw[←hD];refine .x (.sl _ _ _ _ 1 (fun i _=> .string (ps[i]?.getD default)) ?_ (Nat.le_refl _) ?_ ?_ ?_ (fun h=>by cases h) (fun _ ad h=>by cases h;rfl) ?_)
  ·rw[YE,List.length_map];exact hlen
  ·show k+1≤maxLen;simp only[maxLen];omega
  ·intro r hr;simp only[rows,List.mem_map]at hr;obtain⟨x,_,rfl⟩:=hr;rfl
  ·intro i j hi hj;have hj0:j=0:=by omega
   subst hj0;refine⟨_,_,rfl,.inr ⟨rfl,by omega⟩,?_⟩;have hip:i<ps.length:=by omega
   rw[show 0+i*1+0=i by omega,World.cell?_alloc_at _ _ _ _ rfl];simp only[List.getElem?_toArray,YA,YC hip,Option.map_some,Option.getD_some]
  ·intro i j r x hr hx;simp only[rows,YA,Option.map_map,Kh]at hr;obtain⟨y,hy,rfl⟩:=hr;simp only[Function.comp,ZI,RC.enc]at hx;rcases j with _|j
   ·simp at hx;subst hx;simp only[hy,Option.getD_some];have:y=Zc y.data.toList:=by simp[Zc]
    conv=>rhs;rw[this]
    exact .str _
   ·simp at hx
theorem ZNi:Go.Ab.Enters Tryz.prog 137:=Go.Proofs.enters_of Tryz.lays146.f146 (by kernel_rfl) rfl
theorem ZNr (l:List (List UInt8)):(l.map Zc).map (·.data.toList)=l:=by
 rw[List.map_map]
 conv=>rhs;rw[←List.map_id l]
 exact List.map_congr_left fun x _=>by simp[Zc]
theorem Zei (l:List (List UInt8)) (sep:List UInt8) (h:(Lib.join l sep).length≤140737488355328) (hl:l.length≤140737488355328):ZD Tryz.prog 97 [.x (.sl (rows ZI l)),.x (.str sep)] (.x (.str (Lib.join l sep))):=by
 intro w st vs hst hvl;obtain⟨hsz,hv⟩:=hvl;obtain⟨v0,v1,rfl⟩: ∃v0 v1,vs= #[v0,v1]:=by
  obtain⟨vl⟩:=vs
  match vl,hsz with
  | [a,b],_=>exact⟨a,b,rfl⟩
 have h0:=hv 0 _ v0 rfl rfl;have h1:=hv 1 _ v1 rfl rfl;clear hv hsz;cases h0 with
 |x h0=>
 cases h1 with
 |x h1=>
 cases h1 with
 |str _=>
 cases h0 with
 |sl _ a n c sz val hn hc hm hsz hcell hnil hsp hval=>
  rw[YE]at hn;subst hn
  match l,h,hl,hc,hsz,hcell,hval with
  | [],_,_,_,_,_,_=>
   refine(Tryz.strings_Join_none a c (Zc sep) w).mono ?_;rintro e w' ⟨rfl,rfl⟩;exact⟨_,st,rfl,Kept.refl _ _,fun _ _ h=>h,fun _ _ h=> .inl h,.x (.str [])⟩
  |x::r,h,hl,hc,hsz,hcell,hval=>
   obtain rfl:1=sz:=hsz [.str x] (by simp[rows,ZI]);obtain⟨b,off,rfl,hs0,_⟩:=hcell 0 0 (by simp) (by omega);have hcells: ∀(j:Nat) y,((x::r).map Zc)[j]? =some y→w.cell? ⟨b,off+j,none⟩=some (.string y):=by
    intro j y hy;rw[YA]at hy;obtain⟨z,hz,rfl⟩:=Zh hy;have hj:j<(x::r).length:=(Zf hz).1;obtain⟨b',off',e,_,hw⟩:=hcell j 0 hj (by omega);simp only[Zg,Addr.mk.injEq]at e;obtain⟨rfl,rfl,_⟩:=e;have hx:=hval j 0 [.str z] (.str z) (by simp only[rows,YA,hz];rfl) rfl;rw[show off+j=off+j*1+0 by omega,hw];generalize val j 0=u at hx;cases hx with
    |str _=>rfl
   have hlen:(Lib.join (((x::r).map Zc).map (·.data.toList)) (Zc sep).data.toList).length≤140737488355328:=by
    rw[ZNr];simpa[Zc]using h
   have hc':((x::r).map Zc).length≤c:=by rw[List.length_map];exact hc
   have:=Tryz.strings_Join b off c ((x::r).map Zc) (Zc sep) w hcells (hst _ _ hs0) (by rw[List.length_map];exact hl) hc' hlen;rw[List.length_map,ZNr]at this;refine this.mono ?_;rintro e w' ⟨rfl,hb⟩;refine⟨_,st,rfl,Kept.of_none (KO.grown hb none),fun _ _ h=>h,fun _ _ h=> .inl h,?_⟩;have:(Zc sep).data.toList=sep:=by simp[Zc]
   rw[this];exact .x (.str _)
theorem ZCS:Go.Ab.Enters Tryz.prog 97:=Go.Proofs.enters_of Tryz.lays156.f156 (by kernel_rfl) rfl
end Go.Proofs.YtpjfdjcejamebaaGreatDoor
end
