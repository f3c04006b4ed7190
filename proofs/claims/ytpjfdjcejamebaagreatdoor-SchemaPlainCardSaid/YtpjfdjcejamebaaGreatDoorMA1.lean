import Derived.Test.YtpjfdjcejamebaaGreatDoorLA5
import Derived.Test.YtpjfdjcejamebaaGreatDoorIc
import Derived.Test.YtpjfdjcejamebaaGreatDoorSh
import Derived.Handy
import Derived.Lib.SlBytesConst
import Derived.Shelf.Strings.Cut
import Derived.Lib.SplitLaws
import Derived.Lib.Join
set_option linter.unusedSimpArgs false
set_option linter.unusedVariables false
section
namespace Go.Proofs.YtpjfdjcejamebaaGreatDoor
open Go.RowKit Go.Bo Go.Ab
def KU (c:UInt8):UInt8:=if 65≤c.toNat∧c.toNat≤90 then UInt8.ofNat (c.toNat+32)else c
theorem ZIL {c:UInt8} (h:65≤c.toNat∧c.toNat≤90):((KU c).toNat:Int)=(c.toNat:Int)-65+97:=by
 unfold KU;rw[if_pos h];simp;omega
def ZD (s:List UInt8):List UInt8:=s.map KU
def Qn (s:List UInt8) (i:Nat):List UInt8:=(s.take i).map KU++s.drop i
theorem ZGS (s:List UInt8) (i:Nat):(Qn s i).length=s.length:=by simp[Qn];omega
theorem ZWO (s:List UInt8):Qn s 0=s:=by simp[Qn]
theorem ZZj (s:List UInt8) (i:Nat) (h:s.length≤i):Qn s i=ZD s:=by simp[Qn,ZD,YN h,List.drop_of_length_le h]
theorem ZXJ (s:List UInt8) (i:Nat) (h:i<s.length):(Qn s i)[i]'(by rw[ZGS];exact h)=s[i]:=by
 simp[Qn,List.getElem_append,Nat.min_eq_left (Nat.le_of_lt h)]
theorem ZYv (s:List UInt8) (i:Nat) (h:i<s.length) (c:UInt8) (hc:c=KU s[i]):(Qn s i).set i c=Qn s (i+1):=by
 subst hc;unfold Qn;rw[List.take_succ_eq_append_getElem h,List.drop_eq_getElem_cons h,List.set_append_right _ _ (by simp;omega)];have hm:i-((s.take i).map KU).length=0:=by simp;omega
 rw[hm,List.set_cons_zero,List.map_append,List.append_assoc];rfl
theorem ZXz (s:List UInt8) (i:Nat) (h:i<s.length):((Qn s i).map Zk)[i]? =some [X.int .u8 s[i].toNat]:=by
 have h2:i<(Qn s i).length:=by rw[ZGS];exact h
 rw[YC,YE h2,ZXJ s i h];rfl
theorem ZWz (s:List UInt8) (i:Nat) (h:i<s.length) (hc:65≤s[i].toNat∧s[i].toNat≤90):((Qn s i).map Zk).set i [X.int .u8 (IntKind.u8.wrap (IntKind.u8.wrap ((s[i].toNat:Int)-65)+97))]=(Qn s (i+1)).map Zk:=by
 have e1:IntKind.u8.wrap ((s[i].toNat:Int)-65)=(s[i].toNat:Int)-65:=IntWalk.u8_in _ (by omega);have e2:IntKind.u8.wrap ((s[i].toNat:Int)-65+97)=((KU s[i]).toNat:Int):=by rw[IntWalk.u8_in _ (by omega),ZIL hc]
 rw[e1,e2,←ZYv s i h _ rfl,List.map_set];rfl
theorem ZTh (s:List UInt8) (i:Nat) (h:i<s.length) (hc:KU s[i]=s[i]):Qn s i=Qn s (i+1):=by
 unfold Qn;rw[List.take_succ_eq_append_getElem h,List.map_append,List.append_assoc,List.drop_eq_getElem_cons h];simp[hc]
theorem ZIF {c:UInt8} (h: ¬(65≤c.toNat∧c.toNat≤90)):KU c=c:=if_neg h
theorem ZLO (s:List UInt8) (hl:s.length≤140737488355328):ZC Tryz.prog 37 [.x (.str s)] (.x (.str (ZD s))):=by
 refine ZN.pure (ZP (fz:=true) ZH (p:=i37) rfl _ (ξ rfl) _ (fun C0 E0=> ?_)) rfl;dsimp only[i37,qt,qi,qs,qb,qm,qa,qh,qj,qT,qF,qe,ql,qL,qf,q2,q3,q8,qz,qp,qP,qc,qk,qx,qy,qo,qr,qC,ZQ];have uu:=ZA @ZGS (ZA @YX (@Jn));have tT:=(ZG:SsOk Tryz.prog ZV);refine nz ?_;refine rg tT [0] ?_;refine rg tT [3] ?_;refine rg tT [3,8,9,10] ?_;refine WI.loop (fun φ os=> ∃(i:Nat),φ= [(3,.ref 0 s.length 0 s.length),(8,.ref 0 s.length 0 s.length),(9,.x (.int .i64 s.length)),(10,.x (.int .i64 i))]∧os= [.rows true 5 1 ((Qn s i).map Zk)]∧i≤s.length) (ZK s.length 10) ?_ (fun φ os hI=> ?_)
 ·exact⟨0,rfl,by rw[ZWO],by omega⟩
 ·obtain⟨i,rfl,rfl,hi⟩:=hI;refine nz ?_;refine rg tT [3,8,9,10,11] ?_;refine cd (fun h0=> ?_) (fun h0=> ?_)
  ·have hi4:i<s.length:=by omega
   have uu:=ZA uu (ZXz s i hi4);have hb8:s[i].toNat<256:=UInt8.toNat_lt _;refine rg tT [3,4,5,8,9,10] ?_;refine rg tT [3,4,5,8,9,10,20] ?_;refine cd (fun h1=> ?_) (fun h1=> ?_)
   ·have hcs:65≤s[i].toNat∧s[i].toNat≤90:=by omega
    have uu:=ZA uu (ZWz s i hi4 hcs);refine rg tT [3,8,9,10] ?_;refine rg tT [3,8,9,10] ?_;exact⟨⟨i+1,by first|rfl|simp,by first|rfl|rw[←hset],by omega⟩,by simp[ZK,Ab.get,D.val,ZF];omega⟩
   ·have hcs: ¬(65≤s[i].toNat∧s[i].toNat≤90):=by omega
    have hset:=ZTh s i hi4 (ZIF hcs);refine rg tT [3,8,9,10] ?_;exact⟨⟨i+1,by first|rfl|simp,by first|rfl|rw[←hset],by omega⟩,by simp[ZK,Ab.get,D.val,ZF];omega⟩
  ·have e8:((Qn s i).map Zk).take s.length=(ZD s).map Zk:=by rw[YN (by simp[ZGS]),ZZj s i (by omega)]
   have uu:=ZA uu e8;refine rg tT [2] ?_;refine lf ?_
   first|rfl|exact⟨rfl,rfl⟩|trivial
def ZAN:List D→Option (Bool×D)
 | [.x (.str s)]=>some (decide (s.length≤1000000),.x (.str (ZD s)))
 |_=>none
theorem ZMG: ∀args r,ZAN args=some (true,r)→ZC Tryz.prog 37 args r:=by
 intro args r h;unfold ZAN at h;split at h
 ·rename_i s;simp only[Zf,Zc,ZW,Zj,true_and]at h;obtain⟨h1,rfl⟩:=h;exact(ZLO s (by omega))
 ·cases h
theorem ZDx (s:List UInt8):(ZD s).length=s.length:=by simp[ZD]
theorem ZV7 (s:List UInt8) (i:Nat) (h:i<s.length):ZD (s.take (i+1))=ZD (s.take i)++ [KU (s.getD i 0)]:=by
 rw[show s.getD i 0=s[i] by simp[h]];unfold ZD;rw[List.take_succ_eq_append_getElem h,List.map_append];rfl
theorem YD (l:List UInt8) (c:UInt8):(l++ [c]).map Zk=l.map Zk++ [[X.int .u8 c.toNat]]:=by rw[List.map_append];rfl
theorem ZVn {c:UInt8} (h:65≤c.toNat∧c.toNat≤90):IntKind.u8.wrap ((c.toNat:Int)+32)=((KU c).toNat:Int):=by
 have:=UInt8.toNat_lt c;rw[IntWalk.u8_in _ (by omega),ZIL h];omega
theorem ZGU (s:List UInt8) (hl:s.length≤140737488355328):ZC Tryz.prog 32 [.x (.str s)] (.x (.str (ZD s))):=by
 refine ZN.pure (ZP (fz:=true) ZH (p:=i32) rfl _ (ξ rfl) _ (fun C0 E0=> ?_)) rfl;dsimp only[i32,qt,qi,qs,qb,qm,qa,qh,qj,qT,qF,qe,ql,qL,qf,q2,q3,q8,qz,qp,qP,qc,qk,qx,qy,qo,qr,qC,ZQ];have uu:=ZA @YX (@Jn);have tT:=(ZG:SsOk Tryz.prog ZV);refine nz ?_;refine WI.regB tT [0] ?_;refine oS ?_;refine oN ?_;refine nz ?_;refine WI.regB tT [0,3] ?_;refine oS ?_;refine oN ?_;refine nz ?_;refine WI.regB tT [0,3,4] ?_;refine oS ?_;refine oN ?_;refine nz ?_;refine WI.ownA 3 5 1 ?_;refine WI.loop (fun φ os=> ∃(i:Nat),φ= [(0,.x (.str s)),(3,.ref 0 (ZD (s.take i)).length 0 (ZD (s.take i)).length),(4,.x (.int .i64 i))]∧os= [.rows false 5 1 ((ZD (s.take i)).map Zk)]∧i≤s.length) (ZK s.length 4) ?_ (fun φ os hI=> ?_)
 ·exact⟨0,rfl,rfl,by omega⟩
 ·obtain⟨i,rfl,rfl,hi⟩:=hI;refine nz ?_;refine WI.regB tT [0,3,4,9] ?_
  iterate 2 refine oS ?_
  iterate 2 refine oG (hok:=by first|exact se|(exact ZM (by omega))|(rw[YN (by simp)];exact YX _)|exact sd) ?_
  refine oN ?_;refine nz ?_;refine cd (fun h0=> ?_) (fun h0=> ?_)
  ·have hi4:i<s.length:=by omega
   have hlt:(ZD (s.take i)).length+1≤140737488355328:=by rw[ZDx,List.length_take];omega
   have hst:=ZV7 s i hi4;have hb8:(s.getD i 0).toNat<256:=UInt8.toNat_lt _;refine WI.regB tT [0,3,4,5] ?_
   iterate 2 refine oS ?_
   refine oG (hok:=by first|exact se|(exact ZM (by omega))|(rw[YN (by simp)];exact YX _)|exact sd) ?_;refine oS ?_;refine oN ?_;refine nz ?_;refine WI.regB tT [0,3,4,5,20] ?_;refine oS ?_;refine oG (hok:=by first|exact se|(exact ZM (by omega))|(rw[YN (by simp)];exact YX _)|exact sd) ?_;refine oS ?_
   iterate 3 refine oG (hok:=by first|exact se|(exact ZM (by omega))|(rw[YN (by simp)];exact YX _)|exact sd) ?_
   refine oN ?_;refine nz ?_;refine cd (fun h1=> ?_) (fun h1=> ?_)
   ·have hcs:65≤(s.getD i 0).toNat∧(s.getD i 0).toNat≤90:=by omega
    refine WI.regB tT [0,3,4,5] ?_;refine oS ?_;refine oG (hok:=by first|exact se|(exact ZM (by omega))|(rw[YN (by simp)];exact YX _)|exact sd) ?_;refine oS ?_;refine oN ?_;refine nz ?_;refine WI.regB tT [0,3,4] ?_
    iterate 2 refine oS ?_
    iterate 2 refine oG (hok:=by first|exact se|(exact ZM (by omega))|(rw[YN (by simp)];exact YX _)|exact sd) ?_
    refine oS ?_;refine oN ?_;refine nz ?_;refine WI.post ?_;refine WI.regB tT [0,3,4] ?_;refine oS ?_;refine oG (hok:=by first|exact se|(exact ZM (by omega))|(rw[YN (by simp)];exact YX _)|exact sd) ?_;refine oS ?_;refine oP ?_;refine JA [0] ?_;refine Je ?_;refine nz ?_;exact⟨⟨i+1,by rw[hst,Zs];rfl,by rw[hst,YD];first|rfl|rw[ZIF hcs]|rw[ZVn hcs],by omega⟩,by simp[ZK,Ab.get,D.val,ZF];omega⟩
   ·have hcs: ¬(65≤(s.getD i 0).toNat∧(s.getD i 0).toNat≤90):=by omega
    refine WI.regB tT [0,3,4] ?_
    iterate 2 refine oS ?_
    iterate 2 refine oG (hok:=by first|exact se|(exact ZM (by omega))|(rw[YN (by simp)];exact YX _)|exact sd) ?_
    refine oS ?_;refine oN ?_;refine nz ?_;refine WI.post ?_;refine WI.regB tT [0,3,4] ?_;refine oS ?_;refine oG (hok:=by first|exact se|(exact ZM (by omega))|(rw[YN (by simp)];exact YX _)|exact sd) ?_;refine oS ?_;refine oP ?_;refine JA [0] ?_;refine Je ?_;refine nz ?_;exact⟨⟨i+1,by rw[hst,Zs];rfl,by rw[hst,YD];first|rfl|rw[ZIF hcs]|rw[ZVn hcs],by omega⟩,by simp[ZK,Ab.get,D.val,ZF];omega⟩
  ·have e8:((ZD (s.take i)).map Zk).take (ZD (s.take i)).length=(ZD s).map Zk:=by rw[YN (by simp),YN (by omega)]
   have uu:=ZA uu e8;refine WI.regB tT [2] ?_;refine oS ?_;refine oG (hok:=by first|exact se|(exact ZM (by omega))|(rw[YN (by simp)];exact YX _)|exact sd) ?_;refine oS ?_;refine oN ?_;refine nz ?_;refine lf ?_
   first|rfl|exact⟨rfl,rfl⟩|trivial
def ZAO:List D→Option (Bool×D)
 | [.x (.str s)]=>some (decide (s.length≤1000000),.x (.str (ZD s)))
 |_=>none
theorem ZJw: ∀args r,ZAO args=some (true,r)→ZC Tryz.prog 32 args r:=by
 intro args r h;unfold ZAO at h;split at h
 ·rename_i s;simp only[Zf,Zc,ZW,Zj,true_and]at h;obtain⟨h1,rfl⟩:=h;exact(ZGU s (by omega))
 ·cases h
abbrev Tx:=List UInt8
def inB (s:Tx) (n:Nat):Bool:=s.any fun x=>x.toNat==n
theorem ZOl (s:Tx) (i:Nat) (h:i<s.length):(s.map Zk)[i]? =some [X.int .u8 (s.getD i 0).toNat]:=by
 simp[h,Zk]
theorem ZdO (s:Tx) (n:Nat) (hl:s.length≤1000000):ZC Tryz.prog 202 [.x (.str s),.x (.int .u8 n)] (.x (.bool (inB s n))):=by
 refine ZN.pure (ZP (fz:=true) ZH (p:=ZKt) rfl _ (ξ rfl) _ (fun C0 E0=> ?_)) rfl;dsimp only[ZKt,qt,qi,qs,qb,qm,qa,qh,qj,qT,qF,qe,ql,qL,qf,q2,q3,q8,qz,qp,qP,qc,qk,qx,qy,qo,qr,qC,ZQ];have uu:=ZA @YX (@Jn);have tT:=(ZG:SsOk Tryz.prog ZV);refine nz ?_;refine rg tT [0,1] ?_;refine rg tT [1,8,9,10] ?_;refine WI.loop (fun φ os=> ∃(j:Nat),φ= [(1,.x (.int .u8 n)),(8,.ref 0 s.length 0 s.length),(9,.x (.int .i64 s.length)),(10,.x (.int .i64 j))]∧os= [.rows true 5 1 (s.map Zk)]∧j≤s.length∧inB (s.take j) n=false) (ZK s.length 10) ?_ (fun φ os hI=> ?_)
 ·exact⟨0,rfl,rfl,by omega,rfl⟩
 ·obtain⟨j,rfl,rfl,hj,hno⟩:=hI;refine nz ?_;refine rg tT [1,8,9,10,11] ?_;refine cd (fun h0=> ?_) (fun h0=> ?_)
  ·have hj4:j<s.length:=by omega
   have hst:inB (s.take (j+1)) n=(inB (s.take j) n||((s.getD j 0).toNat==n)):=by unfold inB;rw[List.take_succ_eq_append_getElem hj4,List.any_append];simp[hj4]
   have uu:=ZA uu (ZOl s j hj4);refine rg tT [1,6,8,9,10] ?_;refine rg tT [1,8,9,10,16] ?_;refine cd (fun h1=> ?_) (fun h1=> ?_)
   ·refine rg tT [4] ?_;refine lf ?_;have hz:((s.getD j 0).toNat:Int)=n:=by first|exact h1|simpa only[beq_iff_eq]using h1
    have hy:(s.getD j 0).toNat=n:=by omega
    rw[show inB s n=true from List.any_eq_true.2 ⟨s[j],List.getElem_mem hj4,by rw[show s[j]=s.getD j 0 by simp[hj4]];simpa using hy⟩]
   ·refine rg tT [1,8,9,10] ?_;exact⟨⟨j+1,rfl,rfl,by omega,by rw[hst,hno];exact beq_false_of_ne (fun e=>h1 (by rw[e]))⟩,by simp[ZK,Ab.get,D.val,ZF];omega⟩
  ·refine rg tT [4] ?_;refine lf ?_;rw[YN (by omega)]at hno;rw[hno]
def ZAc:List D→Option (Bool×D)
 | [.x (.str s),.x (.int .u8 n)]=>some (decide (s.length≤1000000)&&(decide (0≤n)),.x (.bool (inB s n.toNat)))
 |_=>none
theorem ZJG: ∀args r,ZAc args=some (true,r)→ZC Tryz.prog 202 args r:=by
 intro args r h;unfold ZAc at h;split at h
 ·rename_i s n;simp only[Zf,Zc,ZW,Zj,true_and]at h;obtain⟨⟨h1,h2⟩,rfl⟩:=h;exact(by obtain⟨m,rfl⟩: ∃m:Nat,n=m:=⟨n.toNat,by omega⟩;rw[Int.toNat_natCast];exact ZdO s m h1)
 ·cases h
def KQ (n:Nat):Nat:=if 48≤n∧n≤57 then n-48 else if 97≤n∧n≤102 then n-97+10 else if 65≤n∧n≤70 then n-65+10 else 16
def Qz (n:Nat):Nat×Bool:=if KQ n<16 then(KQ n,true)else(0,false)
def ZCL:List UInt8:= [48,49,50,51,52,53,54,55,56,57,97,98,99,100,101,102]
def ZJE (d c:Nat):Bool:=d==c||(decide (65≤c∧c≤70)&&d==c+32)
theorem ZbF: ∀(k:Fin 16) (c:Fin 256),ZJE (ZCL.getD k.val 0).toNat c.val=true→Qz c.val=(k.val,true):=by decide+kernel
theorem ZXW: ∀c:Fin 256,(∀k:Fin 16,ZJE (ZCL.getD k.val 0).toNat c.val=false)→Qz c.val=(0,false):=by decide+kernel
theorem Zaf (c:Nat) (hc:c<256) (h: ∀k,k<16→ZJE (ZCL.getD k 0).toNat c=false):Qz c=(0,false):=ZXW ⟨c,hc⟩ (fun k=>h k.val k.isLt)
theorem Zdu (n:Nat) (hn:n<256):ZC Tryz.prog 205 [.x (.int .u8 n)] (.x (.int .i64 (KQ n))):=by
 refine ZN.pure (ZP (fz:=true) ZH (p:=ZRa) rfl _ (ξ rfl) _ (fun C0 E0=> ?_)) rfl;dsimp only[ZRa,qt,qi,qs,qb,qm,qa,qh,qj,qT,qF,qe,ql,qL,qf,q2,q3,q8,qz,qp,qP,qc,qk,qx,qy,qo,qr,qC,ZQ];have uu:=trivial;have tT:=(ZG:SsOk Tryz.prog ZV);refine nz ?_;refine rg tT [0] ?_;refine rg tT [0,3] ?_;refine cd (fun h0=> ?_) (fun h0=> ?_)
 ·refine rg tT [2] ?_;refine lf ?_;rw[KQ,if_pos (by omega)];congr 2;omega
 ·refine rg tT [0,13] ?_;refine cd (fun h1=> ?_) (fun h1=> ?_)
  ·refine rg tT [2] ?_;refine lf ?_;rw[KQ,if_neg (by omega),if_pos (by omega)];congr 2;omega
  ·refine rg tT [0,24] ?_;refine cd (fun h2=> ?_) (fun h2=> ?_)
   ·refine rg tT [2] ?_;refine lf ?_;rw[KQ,if_neg (by omega),if_neg (by omega),if_pos (by omega)];congr 2;omega
   ·refine rg tT [2] ?_;refine lf ?_;rw[KQ,if_neg (by omega),if_neg (by omega),if_neg (by omega)];rfl
def ZK7:List D→Option (Bool×D)
 | [.x (.int .u8 n)]=>some (decide (0≤n∧n<256),.x (.int .i64 (KQ n.toNat)))
 |_=>none
theorem Zbc: ∀args r,ZK7 args=some (true,r)→ZC Tryz.prog 205 args r:=by
 intro args r h;unfold ZK7 at h;split at h
 ·rename_i n;simp only[Zf,Zc,ZW,Zj,true_and]at h;obtain⟨h1,rfl⟩:=h;exact(by obtain⟨m,rfl⟩: ∃m:Nat,n=m:=⟨n.toNat,by omega⟩;rw[Int.toNat_natCast];exact Zdu m (by omega))
 ·cases h
def Zdn:Tx:= [44,43,34,92,60,62,59,61]
def spc (n:Nat):Bool:=inB Zdn n
theorem Zco (n:Nat):spc n=(decide ((n:Int)=44)||(decide ((n:Int)=43)||(decide ((n:Int)=34)||(decide ((n:Int)=92)||(decide ((n:Int)=60)||(decide ((n:Int)=62)||(decide ((n:Int)=59)||decide ((n:Int)=61)))))))):=by
 unfold spc inB Zdn;rw[Bool.eq_iff_iff];simp only[List.any_cons,List.any_nil,Bool.or_eq_true,beq_iff_eq,Zj,Bool.or_false,UInt8.reduceToNat];omega
theorem ZTy (n:Nat):ZC Tryz.prog 204 [.x (.int .u8 n)] (.x (.bool (spc n))):=by
 have hq:=Zco n;refine ZN.pure (ZP (fz:=true) ZH (p:=ZN2) rfl _ (ξ rfl) _ (fun C0 E0=> ?_)) rfl;dsimp only[ZN2,qt,qi,qs,qb,qm,qa,qh,qj,qT,qF,qe,ql,qL,qf,q2,q3,q8,qz,qp,qP,qc,qk,qx,qy,qo,qr,qC,ZQ];have uu:=trivial;have tT:=(ZG:SsOk Tryz.prog ZV);refine nz ?_;refine rg tT [0] ?_;refine rg tT [2] ?_;refine lf ?_;clear uu;congr 2;rw[hq];grind
def QZ:List D→Option (Bool×D)
 | [.x (.int .u8 n)]=>some (decide (0≤n),.x (.bool (spc n.toNat)))
 |_=>none
theorem ZIr: ∀args r,QZ args=some (true,r)→ZC Tryz.prog 204 args r:=by
 intro args r h;unfold QZ at h;split at h
 ·rename_i n;simp only[Zf,Zc,ZW,Zj,true_and]at h;obtain⟨h1,rfl⟩:=h;exact(by obtain⟨m,rfl⟩: ∃m:Nat,n=m:=⟨n.toNat,by omega⟩;rw[Int.toNat_natCast];exact ZTy m)
 ·cases h
def ZHl (n:Nat) (first:Bool):Bool:=decide (n<32)||decide (n=127)||(decide (n≠61)&&spc n)||(first&&decide (n=35))
def ZKY:Tabs:=ZY (ZV) 202 ZAc
theorem ZVk:SsOk Tryz.prog ZKY:=ZL (ZG) (ZB ZH (p:=ZKt) rfl) ZJG
theorem ZPY (a:List D):ZKY.q 202 a=ZAc a:=rfl
theorem ZZJ (f:FuncId) (a:List D) (o:List Ob):ZKY.r f a o=none:=rfl
theorem ZXw (f:FuncId) (a:List D) (o:List Ob):ZKY.k f a o=none:=rfl
theorem ZYo (n:Nat) (b:Bool):ZC Tryz.prog 228 [.x (.int .u8 n),.x (.bool b)] (.x (.bool (ZHl n b))):=by
 have hq:inB [44,43,34,92,60,62,59,61] n=spc n:=rfl;refine ZN.pure (ZP (fz:=true) ZH (p:=ZRe) rfl _ (ξ rfl) _ (fun C0 E0=> ?_)) rfl;dsimp only[ZRe,qt,qi,qs,qb,qm,qa,qh,qj,qT,qF,qe,ql,qL,qf,q2,q3,q8,qz,qp,qP,qc,qk,qx,qy,qo,qr,qC,ZQ];have uu:=ZA @ZAc.eq_1 (ZA @ZAc.eq_2 (ZA hq (ZA @ZZJ (ZA @ZXw (@ZPY)))));have tT:=ZVk;refine nz ?_;refine rg tT [0,1] ?_;refine rg tT [4] ?_;refine lf ?_;clear uu;unfold ZHl;congr 2;grind
def ZDj:List D→Option (Bool×D)
 | [.x (.int .u8 n),.x (.bool b)]=>some (decide (0≤n),.x (.bool (ZHl n.toNat b)))
 |_=>none
theorem ZRu: ∀args r,ZDj args=some (true,r)→ZC Tryz.prog 228 args r:=by
 intro args r h;unfold ZDj at h;split at h
 ·rename_i n b;simp only[Zf,Zc,ZW,Zj,true_and]at h;obtain⟨h1,rfl⟩:=h;exact(by obtain⟨m,rfl⟩: ∃m:Nat,n=m:=⟨n.toNat,by omega⟩;rw[Int.toNat_natCast];exact ZYo m b)
 ·cases h
def ZMf:Value→Int
 | .int _ n=>n
 |_=>0
def ZR7:Array Value:= #[.int .u8 48,.int .u8 49,.int .u8 50,.int .u8 51,.int .u8 52,.int .u8 53,.int .u8 54,.int .u8 55,.int .u8 56,.int .u8 57,.int .u8 97,.int .u8 98,.int .u8 99,.int .u8 100,.int .u8 101,.int .u8 102]
theorem ZZs (c:Nat) (h1:65≤c) (h2:c≤70):IntKind.u8.wrap (IntKind.u8.wrap ((c:Int)-65)+97)=((c+32:Nat):Int):=by
 rw[IntWalk.u8_in ((c:Int)-65) (by omega),IntWalk.u8_in _ (by omega)];omega
set_option maxHeartbeats 4000000 in
set_option maxRecDepth 100000 in
theorem ZRg (c:Nat) (w:World) (hc:c<256):
  Calls Tryz.prog 238 #[.int .u8 c] w fun e w'=>e= .returned (.tuple #[.int .u8 (Qz c).1,.bool (Qz c).2])∧Below w.heap.size w w':=by
 have kc:=fun(w:World) (C:Array Value) (n c:Nat)=>Lib.run_convert_bytes_const (P:=Tryz.prog) w 114 5 C n c Tryz.underlying114 Tryz.underlying5
 go_enter Tryz.func238,Tryz.ntmps238
 go_wp2_with fail
 go_loopw [9] (fun i wr=> ∃(k:Nat),k≤16∧i= .int .i64 k∧wr=w.alloc (.cells ZR7 5 (16,17))∧ ∀m,m<k→ZJE (ZCL.getD m 0).toNat c=false) (fun i _=>16-(ZMf i).toNat)
 case atStart=>exact⟨0,by omega,rfl,rfl,by intro m hm;omega⟩
 case round=>
  obtain⟨k,hk,rfl,rfl,hno⟩:=hrel;have hcell: ∀m:Fin 16,(w.alloc (.cells ZR7 5 (16,17))).cell? ⟨w.heap.size,m.val,none⟩=some (.int .u8 (ZCL.getD m.val 0).toNat):=by
   intro m;have hb:(w.alloc (.cells ZR7 5 (16,17))).heap[w.heap.size]? =some (.cells ZR7 5 (16,17)):=by
    show(w.heap.push _)[w.heap.size]? =_;simp
   rw[Lib.cell_of_heap hb]
   revert m;intro m;rcases m with⟨m,hm⟩;(repeat(rcases m with _|m;rfl));omega
  by_cases hlt:k<16
  ·have hc1:=hcell ⟨k,hlt⟩;have hat:=ZbF ⟨k,hlt⟩ ⟨c,hc⟩;simp only at hc1 hat;cases hq:ZJE (ZCL.getD k 0).toNat c with
   |true=>
    have hat:=hat hq;have hk1:IntKind.u8.wrap (k:Int)=(k:Int):=IntWalk.u8_in _ (by omega);clear hno hcell;unfold ZJE at hq;generalize(ZCL.getD k 0).toNat=d at hc1 hq;by_cases h1:d=c
    ·subst h1
     go_wp2_with fail
     all_goals first|exact bodyPost_ret (v:= .tuple #[.int .u8 (k:Int),.bool true]) (by simp[results,Tryz.results238,go_sem]) rfl ⟨by rw[hat],(Below.refl _ w).alloc (Nat.le_refl _) _⟩|(exfalso;rename_i hx;revert hx;simp<;>omega)|(exfalso;revert q1;simp;done)|(exfalso;revert q4;simp only[hw]at*;simp_all<;>omega)|(exfalso;revert hq;simp<;>omega)
    ·have h2:65≤c∧c≤70∧d=c+32:=by simp[h1]at hq;omega
     obtain⟨h21,h22,rfl⟩:=h2;have hw:=ZZs c h21 h22;have q1:decide (((c+32:Nat):Int)=(c:Int))=false:=decide_eq_false (by omega);have q2:decide ((c:Int)≥65)=true:=ZM (by omega);have q3:decide ((c:Int)≤70)=true:=ZM (by omega)
     go_wp2_with fail
     all_goals first|exact bodyPost_ret (v:= .tuple #[.int .u8 (k:Int),.bool true]) (by simp[results,Tryz.results238,go_sem]) rfl ⟨by rw[hat],(Below.refl _ w).alloc (Nat.le_refl _) _⟩|(exfalso;rename_i hx;revert hx;simp<;>omega)|(exfalso;revert q1;simp;done)|(exfalso;revert q4;simp only[hw]at*;simp_all<;>omega)|(exfalso;revert hq;simp<;>omega)
   |false=>
    have hq':=hq;unfold ZJE at hq;generalize(ZCL.getD k 0).toNat=d at hc1 hq;have q1:decide ((d:Int)=(c:Int))=false:=decide_eq_false (by simp at hq;omega);clear hcell hat;by_cases h1:65≤c
    ·by_cases h2:c≤70
     ·have hw:=ZZs c h1 h2;have q2:decide ((c:Int)≥65)=true:=ZM (by omega);have q3:decide ((c:Int)≤70)=true:=ZM (by omega);have q4:decide ((d:Int)=((c+32:Nat):Int))=false:=decide_eq_false (by simp[h1,h2]at hq;omega)
      go_wp2_with fail
      all_goals first|exact⟨⟨k+1,by omega,by first|rfl|simp,trivial,fun m hm=>if h:m=k then by subst h;exact hq' else hno m (by omega)⟩,by simp[ZMf];omega⟩|(exfalso;rename_i hx;revert hx;simp<;>omega)|(exfalso;revert q1;simp;done)|(exfalso;revert q4;simp only[hw]at*;simp_all<;>omega)|(exfalso;revert hq;simp<;>omega)
     ·have q2:decide ((c:Int)≥65)=true:=ZM (by omega);have q3:decide ((c:Int)≤70)=false:=decide_eq_false (by omega)
      go_wp2_with fail
      all_goals first|exact⟨⟨k+1,by omega,by first|rfl|simp,trivial,fun m hm=>if h:m=k then by subst h;exact hq' else hno m (by omega)⟩,by simp[ZMf];omega⟩|(exfalso;rename_i hx;revert hx;simp<;>omega)|(exfalso;revert q1;simp;done)|(exfalso;revert q4;simp only[hw]at*;simp_all<;>omega)|(exfalso;revert hq;simp<;>omega)
    ·have q2:decide ((c:Int)≥65)=false:=decide_eq_false (by omega)
     go_wp2_with fail
     all_goals first|exact⟨⟨k+1,by omega,by first|rfl|simp,trivial,fun m hm=>if h:m=k then by subst h;exact hq' else hno m (by omega)⟩,by simp[ZMf];omega⟩|(exfalso;rename_i hx;revert hx;simp<;>omega)|(exfalso;revert q1;simp;done)|(exfalso;revert q4;simp only[hw]at*;simp_all<;>omega)|(exfalso;revert hq;simp<;>omega)
  ·obtain rfl:k=16:=by omega
   have hnn:=Zaf c hc hno;clear hno hcell
   go_wp2_with fail
   exact bodyPost_ret (v:= .tuple #[.int .u8 0,.bool false]) (by simp[results,Tryz.results238,go_sem]) rfl ⟨by rw[hnn];rfl,(Below.refl _ w).alloc (Nat.le_refl _) _⟩
theorem Za3 (n:Nat) (hn:n<256):ZC Tryz.prog 238 [.x (.int .u8 n)] (.tup [.x (.int .u8 (Qz n).1),.x (.bool (Qz n).2)]):=by
 intro w st vs hst hvl;obtain⟨hsz,hv⟩:=hvl;obtain⟨v0,rfl⟩: ∃v0,vs= #[v0]:=by
  obtain⟨vl⟩:=vs
  match vl,hsz with
  | [a],_=>exact⟨a,rfl⟩
 have h0:=hv 0 _ v0 rfl rfl;cases h0 with
 |x h0=>
 cases h0 with
 |int _ _=>
 refine(ZRg n w hn).mono ?_;rintro e w' ⟨rfl,hb⟩;exact⟨_,st,rfl,⟨hb.os,hb.tape,hb.output,hb.size,fun k hk _=>hb.block k hk⟩,fun _ _ h=>h,fun _ _ h=> .inl h,V.tup2 (.x (.int _ _)) _⟩
theorem ZOj:Go.Ab.Enters Tryz.prog 238:=enters_of Tryz.func238 (by kernel_rfl) rfl
def ZFG:List D→Option (Bool×D)
 | [.x (.int .u8 n)]=>some (decide (0≤n∧n<256),.tup [.x (.int .u8 (Qz n.toNat).1),.x (.bool (Qz n.toNat).2)])
 |_=>none
theorem ZWx: ∀args r,ZFG args=some (true,r)→ZC Tryz.prog 238 args r:=by
 intro args r h;unfold ZFG at h;split at h
 ·rename_i n;simp only[Zf,Zc,ZW,Zj,true_and]at h;obtain⟨h1,rfl⟩:=h;exact(by obtain⟨m,rfl⟩: ∃m:Nat,n=m:=⟨n.toNat,by omega⟩;rw[Int.toNat_natCast];exact Za3 m (by omega))
 ·cases h
def QO (s:Tx):Tx:=s.dropWhile (· ==32)
def trR (s:Tx):Tx:=(s.reverse.dropWhile (· ==32)).reverse
theorem ZKq: ∀l:Tx,l.dropWhile (· ==32)= []↔ ∀x∈l,x=32
 | []=>by simp
 |c::l=>by
  rw[List.dropWhile_cons];by_cases h:c=32
  ·simp[h,ZKq l]
  ·simp[h]
theorem ZFT (r:Tx):(r== [])=decide (r.length=0):=by rcases r with _|⟨c,r⟩<;>simp
theorem ZJK {c:UInt8} (h:(c.toNat:Int)=32):c=32:=by
 apply UInt8.toNat_inj.1;show c.toNat=32;omega
theorem ZEJ (c:UInt8) (s:Tx):QO (c::s)=if c=32 then QO s else c::s:=by
 unfold QO;rw[List.dropWhile_cons];simp
theorem ZLB (s:Tx):(QO s).length≤s.length:=List.Sublist.length_le (List.dropWhile_sublist _)
theorem ZRF (s:Tx):(trR s).length≤s.length:=by
 unfold trR;rw[List.length_reverse];exact Nat.le_trans (List.Sublist.length_le (List.dropWhile_sublist _)) (by simp)
theorem ZOo (s:Tx) (c:UInt8):trR (s++ [c])=if c=32 then trR s else s++ [c]:=by
 unfold trR;rw[List.reverse_append,List.reverse_cons,List.reverse_nil,List.nil_append,List.singleton_append,List.dropWhile_cons];split<;>simp_all
theorem Zdt (s:Tx) (h:0<s.length):s=s.getD 0 0::s.drop 1:=by
 rcases s with _|⟨c,s⟩
 ·simp at h
 ·rfl
theorem ZRt (s:Tx) (h:0<s.length):s=s.take (s.length-1)++ [s.getD (s.length-1) 0]:=by
 obtain⟨b,c,rfl⟩: ∃b c,s=b++ [c]:=⟨s.dropLast,s.getLast (by intro e;subst e;simp at h),(List.dropLast_concat_getLast _).symm⟩;simp
theorem ZJH (s:Tx) (h:0<s.length) (hc:s.getD 0 0=32):QO s=QO (s.drop 1):=by
 conv=>lhs;rw[Zdt s h]
 rw[ZEJ,if_pos hc]
theorem ZJc (s:Tx) (h: ¬(0<s.length∧s.getD 0 0=32)):QO s=s:=by
 rcases s with _|⟨c,s⟩
 ·rfl
 ·rw[ZEJ,if_neg (fun e:c=32=>h ⟨by simp,e⟩)]
theorem ZNr (s:Tx) (h:0<s.length) (hc:s.getD (s.length-1) 0=32):trR s=trR (s.take (s.length-1)):=by
 conv=>lhs;rw[ZRt s h]
 rw[ZOo,if_pos hc]
theorem ZOF (s:Tx) (h: ¬(0<s.length∧s.getD (s.length-1) 0=32)):trR s=s:=by
 by_cases h0:0<s.length
 ·conv=>lhs;rw[ZRt s h0]
  rw[ZOo,if_neg (fun e=>h ⟨h0,e⟩)];exact(ZRt s h0).symm
 ·rw[show s= []from List.length_eq_zero_iff.1 (by omega)];rfl
theorem ZZH (s:Tx) (hl:s.length≤1000000):ZC Tryz.prog 219 [.x (.str s),.x (.int .u8 32)] (.x (.str (QO s))):=by
 refine ZN.pure (ZP (fz:=true) ZH (p:=ZSx) rfl _ (ξ rfl) _ (fun C0 E0=> ?_)) rfl;dsimp only[ZSx,qt,qi,qs,qb,qm,qa,qh,qj,qT,qF,qe,ql,qL,qf,q2,q3,q8,qz,qp,qP,qc,qk,qx,qy,qo,qr,qC,ZQ];have uu:=trivial;have tT:=(ZG:SsOk Tryz.prog ZV);refine nz ?_;refine rg tT [0,1] ?_;refine WI.loop (fun φ os=> ∃(r:Tx),φ= [(0,.x (.str r)),(1,.x (.int .u8 32))]∧os= []∧r.length≤s.length∧QO s=QO r) ((fun φ _=>match get φ 0 with| .x (.str r)=>r.length|_=>0)) ?_ (fun φ os hI=> ?_)
 ·exact⟨s,rfl,rfl,by omega,rfl⟩
 ·obtain⟨r,rfl,rfl,hr,he⟩:=hI;refine nz ?_;refine rg tT [0,1,13] ?_;refine cd (fun h0=> ?_) (fun h0=> ?_)
  ·have h0p:0<r.length:=by omega
   have h0c:r.getD 0 0=32:=ZJK (by omega);refine rg tT [0,1] ?_;exact⟨⟨r.drop 1,rfl,rfl,by simp;omega,by rw[he,ZJH r h0p h0c]⟩,by show(r.drop 1).length<r.length;rw[List.length_drop];omega⟩
  ·have h0n: ¬(0<r.length∧r.getD 0 0=32):=fun hh=>by
    have h2:((r.getD 0 0).toNat:Int)=32:=by rw[hh.2];rfl
    have h1:=hh.1;omega
   refine rg tT [4] ?_;refine lf ?_;rw[he,ZJc r h0n]
def ZBf:List D→Option (Bool×D)
 | [.x (.str s),.x (.int .u8 32)]=>some (decide (s.length≤1000000),.x (.str (QO s)))
 |_=>none
theorem ZTD: ∀args r,ZBf args=some (true,r)→ZC Tryz.prog 219 args r:=by
 intro args r h;unfold ZBf at h;split at h
 ·rename_i s;simp only[Zf,Zc,ZW,Zj,true_and]at h;obtain⟨h1,rfl⟩:=h;exact(ZZH s h1)
 ·cases h
theorem ZYY (s:Tx) (hl:s.length≤1000000):ZC Tryz.prog 220 [.x (.str s),.x (.int .u8 32)] (.x (.str (trR s))):=by
 refine ZN.pure (ZP (fz:=true) ZH (p:=ZSp) rfl _ (ξ rfl) _ (fun C0 E0=> ?_)) rfl;dsimp only[ZSp,qt,qi,qs,qb,qm,qa,qh,qj,qT,qF,qe,ql,qL,qf,q2,q3,q8,qz,qp,qP,qc,qk,qx,qy,qo,qr,qC,ZQ];have uu:=trivial;have tT:=(ZG:SsOk Tryz.prog ZV);refine nz ?_;refine rg tT [0,1] ?_;refine WI.loop (fun φ os=> ∃(r:Tx),φ= [(0,.x (.str r)),(1,.x (.int .u8 32))]∧os= []∧r.length≤s.length∧trR s=trR r) ((fun φ _=>match get φ 0 with| .x (.str r)=>r.length|_=>0)) ?_ (fun φ os hI=> ?_)
 ·exact⟨s,rfl,rfl,by omega,rfl⟩
 ·obtain⟨r,rfl,rfl,hr,he⟩:=hI;have e1:((r.length:Int)-1).toNat=r.length-1:=by omega
  have uu:=ZA uu e1;refine nz ?_;refine rg tT [0,1,16] ?_;refine cd (fun h0=> ?_) (fun h0=> ?_)
  ·have h0p:0<r.length:=by omega
   have h0c:r.getD (r.length-1) 0=32:=ZJK (by omega);refine rg tT [0,1] ?_;exact⟨⟨r.take (r.length-1),rfl,rfl,by simp;omega,by rw[he,ZNr r h0p h0c]⟩,by show(r.take (r.length-1)).length<r.length;rw[List.length_take];omega⟩
  ·have h0n: ¬(0<r.length∧r.getD (r.length-1) 0=32):=fun hh=>by
    have h2:((r.getD (r.length-1) 0).toNat:Int)=32:=by rw[hh.2];rfl
    have h1:=hh.1;omega
   refine rg tT [4] ?_;refine lf ?_;rw[he,ZOF r h0n]
def ZBs:List D→Option (Bool×D)
 | [.x (.str s),.x (.int .u8 32)]=>some (decide (s.length≤1000000),.x (.str (trR s)))
 |_=>none
theorem ZS2: ∀args r,ZBs args=some (true,r)→ZC Tryz.prog 220 args r:=by
 intro args r h;unfold ZBs at h;split at h
 ·rename_i s;simp only[Zf,Zc,ZW,Zj,true_and]at h;obtain⟨h1,rfl⟩:=h;exact(ZYY s h1)
 ·cases h
def ZHr:Tabs:=ZY (ZY (ZV) 219 ZBf) 220 ZBs
theorem ZMT:SsOk Tryz.prog ZHr:=ZL (ZL (ZG) (ZB ZH (p:=ZSx) rfl) ZTD) (ZB ZH (p:=ZSp) rfl) ZS2
theorem ZI1 (a:List D):ZHr.q 219 a=ZBf a:=rfl
theorem ZIl (a:List D):ZHr.q 220 a=ZBs a:=rfl
theorem ZOv (f:FuncId) (a:List D) (o:List Ob):ZHr.r f a o=none:=rfl
theorem ZM2 (f:FuncId) (a:List D) (o:List Ob):ZHr.k f a o=none:=rfl
theorem ZTO (s:Tx) (hl:s.length≤1000000):ZC Tryz.prog 226 [.x (.str s),.x (.str [32])] (.x (.str (QO s))):=by
 refine ZN.pure (ZP (fz:=true) ZH (p:=ZSZ) rfl _ (ξ rfl) _ (fun C0 E0=> ?_)) rfl;dsimp only[ZSZ,qt,qi,qs,qb,qm,qa,qh,qj,qT,qF,qe,ql,qL,qf,q2,q3,q8,qz,qp,qP,qc,qk,qx,qy,qo,qr,qC,ZQ];have uu:=ZA @ZBf.eq_1 (ZA @ZBf.eq_2 (ZA @ZBs.eq_1 (ZA @ZBs.eq_2 (ZA @ZOv (ZA @ZM2 (ZA @ZI1 (@ZIl)))))));have tT:=ZMT;refine nz ?_;refine rg tT [0,1] ?_;refine rg tT [0,1,12] ?_;refine cd (fun h0=> ?_) (fun h0=> ?_)
 ·refine rg tT [4] ?_;refine lf ?_;rw[show s= [] by simpa using h0];rfl
 ·refine rg tT [0,1,21] ?_;refine ct (fun h1=> ?_) (fun h1=> ?_)
  ·refine rg tT [4] ?_;refine lf ?_
   first|rfl|exact⟨rfl,rfl⟩|trivial
  ·simp at h1
def ZBw:List D→Option (Bool×D)
 | [.x (.str s),.x (.str [32])]=>some (decide (s.length≤1000000),.x (.str (QO s)))
 |_=>none
theorem ZOX: ∀args r,ZBw args=some (true,r)→ZC Tryz.prog 226 args r:=by
 intro args r h;unfold ZBw at h;split at h
 ·rename_i s;simp only[Zf,Zc,ZW,Zj,true_and]at h;obtain⟨h1,rfl⟩:=h;exact(ZTO s h1)
 ·cases h
def ZED (s:Tx):Tx:=QO (trR s)
theorem Zck (s:Tx) (hl:s.length≤1000000):ZC Tryz.prog 207 [.x (.str s),.x (.str [32])] (.x (.str (ZED s))):=by
 have hrl:=ZRF s;refine ZN.pure (ZP (fz:=true) ZH (p:=ZTM) rfl _ (ξ rfl) _ (fun C0 E0=> ?_)) rfl;dsimp only[ZTM,qt,qi,qs,qb,qm,qa,qh,qj,qT,qF,qe,ql,qL,qf,q2,q3,q8,qz,qp,qP,qc,qk,qx,qy,qo,qr,qC,ZQ];have uu:=ZA @ZBf.eq_1 (ZA @ZBf.eq_2 (ZA @ZBs.eq_1 (ZA @ZBs.eq_2 (ZA @ZOv (ZA @ZM2 (ZA @ZI1 (@ZIl)))))));have tT:=ZMT;refine nz ?_;refine rg tT [0,1] ?_;refine rg tT [0,1,12] ?_;refine cd (fun h0=> ?_) (fun h0=> ?_)
 ·refine rg tT [4] ?_;refine lf ?_;rw[show s= [] by simpa using h0];rfl
 ·refine rg tT [0,1,21] ?_;refine ct (fun h1=> ?_) (fun h1=> ?_)
  ·refine WI.dregB tT [4] ?_
   iterate 2 refine Zn ?_
   refine Ye ?_;refine dAC ?_;refine Zn ?_;refine Ye ?_;refine dAC ?_;refine Zn ?_;refine dN ?_;refine nz ?_;refine lf ?_
   first|rfl|exact⟨rfl,rfl⟩|trivial
  ·simp at h1
def ZIV:List D→Option (Bool×D)
 | [.x (.str s),.x (.str [32])]=>some (decide (s.length≤1000000),.x (.str (ZED s)))
 |_=>none
theorem ZX8: ∀args r,ZIV args=some (true,r)→ZC Tryz.prog 207 args r:=by
 intro args r h;unfold ZIV at h;split at h
 ·rename_i s;simp only[Zf,Zc,ZW,Zj,true_and]at h;obtain⟨h1,rfl⟩:=h;exact(Zck s h1)
 ·cases h
theorem ZUS (s:Tx):trR (QO s)=ZED s:=by
 unfold ZED;by_cases h: ∀x∈s,x=32
 ·have h1:QO s= []:=by unfold QO;rw[ZKq];intro x hx;exact h x hx
  have h2:trR s= []:=by unfold trR;rw[List.reverse_eq_nil_iff,ZKq];intro x hx;exact h x (by simpa using hx)
  rw[h1,h2];rfl
 ·have key: ∀s:Tx,(∃x∈s,x≠32)→trR (QO s)=QO (trR s):=by
   intro s
   induction s with
   |nil=>rintro⟨x,hx,_⟩;simp at hx
   |cons c s ih=>
    intro hx;rw[ZEJ];by_cases hc:c=32
    ·subst hc;rw[if_pos rfl];have hx': ∃x∈s,x≠32:=by
      obtain⟨x,h1,h2⟩:=hx;rcases List.mem_cons.1 h1 with rfl|h1
      ·exact absurd rfl h2
      ·exact⟨x,h1,h2⟩
     rw[ih hx'];have e:trR (32::s)=32::trR s:=by
      unfold trR;obtain⟨x,h1,h2⟩:=hx';rw[List.reverse_cons,List.dropWhile_append];rw[if_neg (by rw[List.isEmpty_iff,ZKq];intro hh;exact h2 (hh x (by simpa using h1)))];simp
     rw[e,ZEJ,if_pos rfl]
    ·rw[if_neg hc];have e: ∃t,trR (c::s)=c::t:=by
      unfold trR;rw[List.reverse_cons,List.dropWhile_append];split
      ·exact⟨[],by simp[hc]⟩
      ·exact⟨(s.reverse.dropWhile (· ==32)).reverse,by simp⟩
     obtain⟨t,e⟩:=e;rw[e,ZEJ,if_neg hc]
  exact key s (by simpa using h)
theorem ZaY (s:Tx) (hl:s.length≤1000000):ZC Tryz.prog 183 [.x (.str s)] (.x (.str (ZED s))):=by
 rw[←ZUS];refine ZN.pure (ZP (fz:=true) ZH (p:=ZRz) rfl _ (ξ rfl) _ (fun C0 E0=> ?_)) rfl;dsimp only[ZRz,qt,qi,qs,qb,qm,qa,qh,qj,qT,qF,qe,ql,qL,qf,q2,q3,q8,qz,qp,qP,qc,qk,qx,qy,qo,qr,qC,ZQ];have uu:=trivial;have tT:=(ZG:SsOk Tryz.prog ZV);refine nz ?_;refine WI.regB tT [0] ?_;refine oS ?_;refine oN ?_;refine nz ?_;refine WI.loop (fun φ os=> ∃(r:Tx),φ= [(0,.x (.str r))]∧os= []∧r.length≤s.length∧QO s=QO r) ((fun φ _=>match get φ 0 with| .x (.str r)=>r.length|_=>0)) ?_ (fun φ os hI=> ?_)
 ·exact⟨s,rfl,rfl,by omega,rfl⟩
 ·obtain⟨r,rfl,rfl,hr,he⟩:=hI;have hem:=ZFT r;refine nz ?_;refine WI.regB tT [0,9] ?_;refine oS ?_;refine oG (hok:=by first|exact se|(clear uu;grind)|exact sd) ?_;refine oS ?_
  iterate 4 refine oG (hok:=by first|exact se|(clear uu;grind)|exact sd) ?_
  refine oN ?_;refine nz ?_;refine cd (fun h0=> ?_) (fun h0=> ?_)
  ·have h0p:0<r.length:=by rcases r with _|⟨c,r⟩;simp at h0;simp
   have h0c:r.getD 0 0=32:=by rcases r with _|⟨c,r⟩;simp at h0;exact ZJK (by simpa using h0)
   refine WI.regB tT [0] ?_;refine oS ?_;refine oG (hok:=by first|exact se|(clear uu;grind)|exact sd) ?_;refine oS ?_;refine oN ?_;refine nz ?_;exact⟨⟨r.drop 1,rfl,rfl,by simp;omega,by rw[he,ZJH r h0p h0c]⟩,by show(r.drop 1).length<r.length;rw[List.length_drop];omega⟩
  ·have h0n: ¬(0<r.length∧r.getD 0 0=32):=fun hh=>by
    have h2:((r.getD 0 0).toNat:Int)=32:=by rw[hh.2];rfl
    have h3:r≠ []:=by rintro rfl;simp at hh
    grind
   refine WI.orderA [0] ?_;refine WI.loop (fun φ os=> ∃(q:Tx),φ= [(0,.x (.str q))]∧os= []∧q.length≤s.length∧trR (QO s)=trR q) ((fun φ _=>match get φ 0 with| .x (.str r)=>r.length|_=>0)) ?_ (fun φ os hI=> ?_)
   ·exact⟨r,rfl,rfl,by omega,by rw[he,ZJc r h0n]⟩
   ·obtain⟨q,rfl,rfl,hq,hee⟩:=hI;have e1:((q.length:Int)-1).toNat=q.length-1:=by omega
    have hem2:=ZFT q;have uu:=ZA uu e1;refine nz ?_;refine WI.regB tT [0,21] ?_;refine oS ?_;refine oG (hok:=by first|exact se|(clear uu;grind)|exact sd) ?_;refine oS ?_
    iterate 7 refine oG (hok:=by first|exact se|(clear uu;grind)|exact sd) ?_
    refine oN ?_;refine nz ?_;refine cd (fun h1=> ?_) (fun h1=> ?_)
    ·have h1p:0<q.length:=by rcases q with _|⟨c,q⟩;simp at h1;simp
     have h1c:q.getD (q.length-1) 0=32:=ZJK (by have:=h1.2;omega);refine WI.regB tT [0] ?_
     iterate 2 refine oS ?_
     iterate 3 refine oG (hok:=by first|exact se|(clear uu;grind)|exact sd) ?_
     refine oS ?_;refine oN ?_;refine nz ?_;exact⟨⟨q.take (q.length-1),rfl,rfl,by simp;omega,by rw[hee,ZNr q h1p h1c]⟩,by show(q.take (q.length-1)).length<q.length;rw[List.length_take];omega⟩
    ·have h1n: ¬(0<q.length∧q.getD (q.length-1) 0=32):=fun hh=>by
      have h2:((q.getD (q.length-1) 0).toNat:Int)=32:=by rw[hh.2];rfl
      have h3:q≠ []:=by rintro rfl;simp at hh
      grind
     refine WI.regB tT [2] ?_
     iterate 2 refine oS ?_
     refine oN ?_;refine nz ?_;refine lf ?_;rw[hee,ZOF q h1n]
def ZFi:List D→Option (Bool×D)
 | [.x (.str s)]=>some (decide (s.length≤1000000),.x (.str (ZED s)))
 |_=>none
theorem ZW7: ∀args r,ZFi args=some (true,r)→ZC Tryz.prog 183 args r:=by
 intro args r h;unfold ZFi at h;split at h
 ·rename_i s;simp only[Zf,Zc,ZW,Zj,true_and]at h;obtain⟨h1,rfl⟩:=h;exact(ZaY s h1)
 ·cases h
theorem Zeh: ∀(a b:Fin 16),IntKind.u8.wrap ((BitVec.ofInt IntKind.u8.bits (IntKind.u8.wrap ((a.val:Int)*2^min 4 IntKind.u8.bits))|||BitVec.ofInt IntKind.u8.bits (b.val:Int)).toNat:Int)=((UInt8.ofNat (16*a.val+b.val)).toNat:Int):=by decide+kernel
def orB (h l:Nat):UInt8:=UInt8.ofNat (16*h+l)
theorem Zee (h l:Nat) (h1:h<16) (h2:l<16):IntKind.u8.wrap ((BitVec.ofInt IntKind.u8.bits (IntKind.u8.wrap ((h:Int)*2^min 4 IntKind.u8.bits))|||BitVec.ofInt IntKind.u8.bits (l:Int)).toNat:Int)=((orB h l).toNat:Int):=Zeh ⟨_,h1⟩ ⟨_,h2⟩
theorem ZQi (n:Nat):(Qz n).1<16:=by unfold Qz;split<;>simp_all
def ZHC (a:UInt8):Bool:=spc a.toNat||decide (a.toNat=32)||decide (a.toNat=35)
def Ju (s:Tx):UInt8×Nat×Bool:=
 if s= []then(0,0,false)
 else if ZHC (s.getD 0 0)=true then(s.getD 0 0,1,true)
 else if(Qz (s.getD 0 0).toNat).2=false∨s.length<2 then(0,0,false)
 else(orB (Qz (s.getD 0 0).toNat).1 (Qz (s.getD 1 0).toNat).1,2,(Qz (s.getD 1 0).toNat).2)
def ZHT:Tabs:=ZY (ZY (ZV) 202 ZAc) 238 ZFG
theorem ZVl:SsOk Tryz.prog ZHT:=ZL (ZL (ZG) (ZB ZH (p:=ZKt) rfl) ZJG) ZOj ZWx
theorem ZPG (a:List D):ZHT.q 202 a=ZAc a:=rfl
theorem ZPm (a:List D):ZHT.q 238 a=ZFG a:=rfl
theorem ZXa (f:FuncId) (a:List D) (o:List Ob):ZHT.r f a o=none:=rfl
theorem ZYp (f:FuncId) (a:List D) (o:List Ob):ZHT.k f a o=none:=rfl
theorem ZcI (s:Tx) (hl:s.length≤1000000):ZC Tryz.prog 227 [.x (.str s)] (.tup [.x (.int .u8 (Ju s).1.toNat),.x (.int .i64 (Ju s).2.1),.x (.bool (Ju s).2.2)]):=by
 have hq: ∀n,inB [44,43,34,92,60,62,59,61] n=spc n:=fun n=>rfl
 have hem:=ZFT s;have hb0:(s.getD 0 0).toNat<256:=UInt8.toNat_lt _;have hb1:(s.getD 1 0).toNat<256:=UInt8.toNat_lt _;have hor:=Zee _ _ (ZQi (s.getD 0 0).toNat) (ZQi (s.getD 1 0).toNat);rcases he:Ju s with⟨x,n,b⟩
 unfold Ju at he;have hfr:ZHC (s.getD 0 0)=(spc (s.getD 0 0).toNat||decide ((s.getD 0 0).toNat=32)||decide ((s.getD 0 0).toNat=35)):=rfl;refine ZN.pure (ZP (fz:=true) ZH (p:=ZRy) rfl _ (ξ rfl) _ (fun C0 E0=> ?_)) rfl;dsimp only[ZRy,qt,qi,qs,qb,qm,qa,qh,qj,qT,qF,qe,ql,qL,qf,q2,q3,q8,qz,qp,qP,qc,qk,qx,qy,qo,qr,qC,ZQ];have uu:=ZA @ZAc.eq_1 (ZA @ZAc.eq_2 (ZA @ZFG.eq_1 (ZA @ZFG.eq_2 (ZA hq (ZA hor (ZA @ZXa (ZA @ZYp (ZA @ZPG (@ZPm)))))))));have tT:=ZVl;refine nz ?_;refine WI.regB tT [0] ?_
 iterate 3 refine oS ?_
 refine oN ?_;refine nz ?_;refine WI.regB tT [0,9] ?_;refine oS ?_;refine oG (hok:=by first|exact se|(clear uu;grind)|exact sd) ?_;refine oN ?_;refine nz ?_;refine cd (fun h0=> ?_) (fun h0=> ?_)
 ·refine WI.regB tT [2,3,4] ?_
  iterate 3 refine oS ?_
  refine oN ?_;refine nz ?_;refine lf ?_;rw[if_pos (by simpa using h0)]at he;cases he;rfl
 ·have hne:s≠ []:=by simpa using h0
  rw[if_neg hne]at he;have hl1:0<s.length:=List.length_pos_iff.2 hne;refine WI.regB tT [0,22] ?_;refine oS ?_;refine oG (hok:=by first|exact se|(clear uu;grind)|exact sd) ?_;refine oC (hok:=by first|exact se|(clear uu;grind)|exact sd) ?_;refine oS ?_
  iterate 4 refine oG (hok:=by first|exact se|(clear uu;grind)|exact sd) ?_
  refine oS ?_
  iterate 4 refine oG (hok:=by first|exact se|(clear uu;grind)|exact sd) ?_
  refine oN ?_;refine nz ?_;refine cd (fun h1=> ?_) (fun h1=> ?_)
  ·refine WI.regB tT [2,3,4] ?_;refine oS ?_;refine oG (hok:=by first|exact se|(clear uu;grind)|exact sd) ?_
   iterate 3 refine oS ?_
   refine oN ?_;refine nz ?_;refine lf ?_;rw[if_pos (by rw[hfr];clear uu;grind)]at he;cases he;rfl
  ·rw[if_neg (by rw[hfr];clear uu;grind)]at he;refine WI.regB tT [0,5,6] ?_;refine oS ?_;refine oG (hok:=by first|exact se|(clear uu;grind)|exact sd) ?_;refine oC (hok:=by first|exact se|(clear uu;grind)|exact sd) ?_;refine oS ?_
   iterate 2 refine oG ?_
   iterate 2 refine oS ?_
   refine oN ?_;refine nz ?_;refine WI.regB tT [0,5,37] ?_;refine oS ?_;refine oG (hok:=by first|exact se|(clear uu;grind)|exact sd) ?_;refine oS ?_
   iterate 4 refine oG (hok:=by first|exact se|(clear uu;grind)|exact sd) ?_
   refine oN ?_;refine nz ?_;refine cd (fun h2=> ?_) (fun h2=> ?_)
   ·refine WI.regB tT [2,3,4] ?_
    iterate 3 refine oS ?_
    refine oN ?_;refine nz ?_;refine lf ?_;rw[if_pos (by clear uu;grind)]at he;cases he;rfl
   ·rw[if_neg (by clear uu;grind)]at he;have hl2:2≤s.length:=by clear uu;grind
    refine WI.regB tT [5,6,7] ?_;refine oS ?_;refine oG (hok:=by first|exact se|(clear uu;grind)|exact sd) ?_;refine oC (hok:=by first|exact se|(clear uu;grind)|exact sd) ?_;refine oS ?_
    iterate 2 refine oG ?_
    iterate 2 refine oS ?_
    refine oN ?_;refine nz ?_;refine WI.regB tT [2,3,4] ?_;refine oS ?_;refine oG (hok:=by first|exact se|(clear uu;grind)|exact sd) ?_;refine oS ?_;refine oG (hok:=by first|exact se|(clear uu;grind)|exact sd) ?_
    iterate 4 refine oS ?_
    refine oN ?_;refine nz ?_;refine lf ?_;cases he;rfl
def ZIE:List D→Option (Bool×D)
 | [.x (.str s)]=>some (decide (s.length≤1000000),.tup [.x (.int .u8 (Ju s).1.toNat),.x (.int .i64 (Ju s).2.1),.x (.bool (Ju s).2.2)])
 |_=>none
theorem ZZA: ∀args r,ZIE args=some (true,r)→ZC Tryz.prog 227 args r:=by
 intro args r h;unfold ZIE at h;split at h
 ·rename_i s;simp only[Zf,Zc,ZW,Zj,true_and]at h;obtain⟨h1,rfl⟩:=h;exact(ZcI s h1)
 ·cases h
def Jl:Nat→Tx→Tx→Nat→Option (Tx×Nat)
 |0,_,_,_=>none
 |_+1,[],b,e=>some (b,e)
 |n+1,c::r,b,e=>
  if c=92 then(if(Ju r).2.2=true then Jl n (r.drop (Ju r).2.1) (b++ [(Ju r).1]) (b.length+1)else none)
  else if ZHl c.toNat (decide (b.length=0))=true then none
  else if c=32 then Jl n r (b++ [c]) e else Jl n r (b++ [c]) (b.length+1)
theorem Zds (s:Tx):(Ju s).2.1≤s.length:=by
 unfold Ju;split
 ·simp
 ·rename_i h;have:0<s.length:=List.length_pos_iff.2 h;split
  ·simp;omega
  ·split
   ·simp
   ·rename_i h2;simp only[not_or]at h2;simp;omega
def ZE2 (s:Tx):Tx×Bool:=match Jl (s.length+1) (QO s) [] 0 with
 |none=>([],false)
 |some (b,e)=>(b.take e,decide (e>0))
def ZEx (s:Tx):Tx×Bool:=match Jl (s.length+1) (QO s) [] 0 with
 |none=>([],false)
 |some (b,e)=>(b.take e,true)
theorem ZMk {c:UInt8} (h:(c.toNat:Int)=92):c=92:=by
 apply UInt8.toNat_inj.1;show c.toNat=92;omega
def ZFv:Tabs:=ZY (ZY (ZY (ZV) 226 ZBw) 227 ZIE) 228 ZDj
theorem ZVR:SsOk Tryz.prog ZFv:=ZL (ZL (ZL (ZG) (ZB ZH (p:=ZSZ) rfl) ZOX) (ZB ZH (p:=ZRy) rfl) ZZA) (ZB ZH (p:=ZRe) rfl) ZRu
theorem ZPp (a:List D):ZFv.q 226 a=ZBw a:=rfl
theorem ZPk (a:List D):ZFv.q 227 a=ZIE a:=rfl
theorem ZPc (a:List D):ZFv.q 228 a=ZDj a:=rfl
theorem ZZN (f:FuncId) (a:List D) (o:List Ob):ZFv.r f a o=none:=rfl
theorem ZXU (f:FuncId) (a:List D) (o:List Ob):ZFv.k f a o=none:=rfl
set_option maxHeartbeats 1000000 in
theorem ZcZ (s:Tx) (hl:s.length≤900000):ZC Tryz.prog 209 [.x (.str s)] (.tup [.x (.str (ZE2 s).1),.x (.bool (ZE2 s).2)]):=by
 have htl:=ZLB s;rcases hq:ZE2 s with⟨v,ok⟩
 unfold ZE2 at hq;refine ZN.pure (ZP (fz:=true) ZH (p:=ZSc) rfl _ (ξ rfl) _ (fun C0 E0=> ?_)) rfl;dsimp only[ZSc,qt,qi,qs,qb,qm,qa,qh,qj,qT,qF,qe,ql,qL,qf,q2,q3,q8,qz,qp,qP,qc,qk,qx,qy,qo,qr,qC,ZQ];have uu:=ZA @ZBw.eq_1 (ZA @ZBw.eq_2 (ZA @ZIE.eq_1 (ZA @ZIE.eq_2 (ZA @ZDj.eq_1 (ZA @ZDj.eq_2 (ZA @YX (ZA @Jn (ZA @List.getD_cons_zero.{0} (ZA @ZZN (ZA @ZXU (ZA @ZPp (ZA @ZPk (@ZPc)))))))))))));have tT:=ZVR;refine nz ?_;refine rg tT [0] ?_;refine WI.scope 0 rfl (fun φ os=>False) (fun φ _=>0) ?_ (fun φ os hI=> ?_)
 ·refine nz ?_;refine rg tT [0] ?_;refine rg tT [0,4] ?_;refine rg tT [0,4,5] ?_;refine WI.label ?_;refine nz ?_;refine WI.ownA 4 5 1 ?_;refine WI.loop (fun φ os=> ∃(r b:Tx) (e n:Nat),φ= [(0,.x (.str r)),(4,.ref 0 b.length 0 b.length),(5,.x (.int .i64 e))]∧os= [.rows false 5 1 (b.map Zk)]∧r.length<n∧b.length+r.length≤s.length∧e≤b.length∧Jl (s.length+1) (QO s) [] 0=Jl n r b e) ((fun φ _=>match get φ 0 with| .x (.str r)=>r.length|_=>0)) ?_ (fun φ os hI=> ?_)
  ·exact⟨QO s,[],0,s.length+1,rfl,rfl,by omega,by simp;omega,by simp,rfl⟩
  ·obtain⟨r,b,e,n,rfl,rfl,hn,hb,he,hv⟩:=hI;obtain⟨n,rfl⟩: ∃m,n=m+1:=⟨n-1,by omega⟩;refine nz ?_;refine rg tT [0,4,5,13] ?_;refine cd (fun h0=> ?_) (fun h0=> ?_)
   ·rcases r with _|⟨c,r⟩
    ·simp at h0
    have hn':r.length+1<n+1:=hn;have hb':b.length+(r.length+1)≤s.length:=hb;have hen:=Zds r;have hb8:c.toNat<256:=UInt8.toNat_lt _;have hsc:decide (r.length≤1000000)=true:=ZM (by omega);have uu:=ZA uu hsc;refine rg tT [0,4,5,6] ?_;refine rg tT [0,4,5,6] ?_;refine rg tT [0,4,5,6,24] ?_;refine cd (fun h1=> ?_) (fun h1=> ?_)
    ·have hc:c=92:=ZMk (by first|exact h1|simpa using h1);refine rg tT [0,4,7,8,9] ?_;refine rg tT [0,4,7,8,34] ?_;refine cd (fun h2=> ?_) (fun h2=> ?_)
     ·refine rg tT [2,3] ?_;refine lf ?_;rw[hv,Jl,if_pos hc,if_neg (by simpa using h2)]at hq;cases hq;rfl
     ·have hst:Jl (n+1) (c::r) b e=Jl n (r.drop (Ju r).2.1) (b++ [(Ju r).1]) (b.length+1):=by rw[Jl,if_pos hc,if_pos (by simpa using h2)]
      refine WI.post ?_;refine WI.dregB tT [0,4] ?_
      iterate 2 refine Zn ?_
      iterate 2 refine dAG ?_
      iterate 2 refine Zn ?_
      refine Ye ?_
      iterate 2 refine Zn ?_
      refine dP ?_;refine JA [0] ?_;refine Je ?_;refine nz ?_;refine rg tT [0,4,5] ?_
      first|exact⟨⟨r.drop (Ju r).2.1,b++ [(Ju r).1],b.length+1,n,by rw[Zs];first|done|rfl,by rw[YD];first|done|rfl,by rw[List.length_drop];omega,by rw[Zs,List.length_drop];simp;omega,by simp,by rw[hv,hst]⟩,by show(r.drop (Ju r).2.1).length<r.length+1;rw[List.length_drop];omega⟩|exact⟨⟨r,b++ [c],e,n,by rw[Zs];first|done|rfl,by rw[YD];first|done|rfl,by omega,by rw[Zs];simp;omega,by simp;omega,by rw[hv,hst]⟩,by show r.length<r.length+1;omega⟩|exact⟨⟨r,b++ [c],b.length+1,n,by rw[Zs];first|done|rfl,by rw[YD];first|done|rfl,by omega,by rw[Zs];simp;omega,by simp,by rw[hv,hst]⟩,by show r.length<r.length+1;omega⟩
    ·have hc:c≠92:=by rintro rfl;exact absurd h1 (by decide)
     have hz:((b.length:Int)==0)=decide (b.length=0):=by rw[Bool.eq_iff_iff];simp<;>omega
     have uu:=ZA uu hz;refine rg tT [0,4,5,6,42] ?_;refine cd (fun h3=> ?_) (fun h3=> ?_)
     ·refine rg tT [2,3] ?_;refine lf ?_;rw[hv,Jl,if_neg hc,if_pos (by simpa using h3)]at hq;cases hq;rfl
     ·refine rgp tT [0,4,5,6] ?_;refine JA [0] ?_;refine Je ?_;refine nz ?_;refine rg tT [0,4,5,23] ?_;refine cd (fun h4=> ?_) (fun h4=> ?_) (kA:=fun h=>h.h)
      ·refine WI.orderA [0,4,5] ?_;have hst:Jl (n+1) (c::r) b e=Jl n r (b++ [c]) e:=by rw[Jl,if_neg hc,if_neg (by simpa using h3),if_pos (ZJK (by first|exact h4|simpa using h4))]
       refine nz ?_
       first|exact⟨⟨r.drop (Ju r).2.1,b++ [(Ju r).1],b.length+1,n,by rw[Zs];first|done|rfl,by rw[YD];first|done|rfl,by rw[List.length_drop];omega,by rw[Zs,List.length_drop];simp;omega,by simp,by rw[hv,hst]⟩,by show(r.drop (Ju r).2.1).length<r.length+1;rw[List.length_drop];omega⟩|exact⟨⟨r,b++ [c],e,n,by rw[Zs];first|done|rfl,by rw[YD];first|done|rfl,by omega,by rw[Zs];simp;omega,by simp;omega,by rw[hv,hst]⟩,by show r.length<r.length+1;omega⟩|exact⟨⟨r,b++ [c],b.length+1,n,by rw[Zs];first|done|rfl,by rw[YD];first|done|rfl,by omega,by rw[Zs];simp;omega,by simp,by rw[hv,hst]⟩,by show r.length<r.length+1;omega⟩
      ·have hst:Jl (n+1) (c::r) b e=Jl n r (b++ [c]) (b.length+1):=by rw[Jl,if_neg hc,if_neg (by simpa using h3),if_neg (by rintro rfl;exact absurd h4 (by decide))]
       refine rg tT [0,4,5] ?_
       first|exact⟨⟨r.drop (Ju r).2.1,b++ [(Ju r).1],b.length+1,n,by rw[Zs];first|done|rfl,by rw[YD];first|done|rfl,by rw[List.length_drop];omega,by rw[Zs,List.length_drop];simp;omega,by simp,by rw[hv,hst]⟩,by show(r.drop (Ju r).2.1).length<r.length+1;rw[List.length_drop];omega⟩|exact⟨⟨r,b++ [c],e,n,by rw[Zs];first|done|rfl,by rw[YD];first|done|rfl,by omega,by rw[Zs];simp;omega,by simp;omega,by rw[hv,hst]⟩,by show r.length<r.length+1;omega⟩|exact⟨⟨r,b++ [c],b.length+1,n,by rw[Zs];first|done|rfl,by rw[YD];first|done|rfl,by omega,by rw[Zs];simp;omega,by simp,by rw[hv,hst]⟩,by show r.length<r.length+1;omega⟩
   ·obtain rfl:r= []:=by simpa using h0
    have hv2:Jl (s.length+1) (QO s) [] 0=some (b,e):=by rw[hv];rfl
    rw[hv2]at hq;have e1:(List.map Zk b).take e=(b.take e).map Zk:=by rw[List.map_take]
    have uu:=ZA uu e1;refine rg tT [2,3] ?_;refine lf ?_;cases hq;rw[show decide ((e:Int)>0)=decide (e>0) by rw[Bool.eq_iff_iff];simp]
 ·exact hI.elim
def ZIO:List D→Option (Bool×D)
 | [.x (.str s)]=>some (decide (s.length≤900000),.tup [.x (.str (ZE2 s).1),.x (.bool (ZE2 s).2)])
 |_=>none
theorem ZZQ: ∀args r,ZIO args=some (true,r)→ZC Tryz.prog 209 args r:=by
 intro args r h;unfold ZIO at h;split at h
 ·rename_i s;simp only[Zf,Zc,ZW,Zj,true_and]at h;obtain⟨h1,rfl⟩:=h;exact(ZcZ s h1)
 ·cases h
theorem ZK0 (n:Nat):(Qz n).2=decide (KQ n<16)∧(KQ n<16→(Qz n).1=KQ n):=by
 unfold Qz;split
 ·rename_i h;exact⟨by simp[h],fun _=>rfl⟩
 ·rename_i h;exact⟨by simp[h],fun h'=>absurd h' h⟩
theorem ZMH (s:Tx) (i j:Nat):(s.drop i).getD j 0=s.getD (i+j) 0:=by simp
theorem ZKy (s:Tx) (i:Nat):Ju (s.drop i)=if s.length≤i then(0,0,false)else if ZHC (s.getD i 0)=true then(s.getD i 0,1,true)else if ¬KQ (s.getD i 0).toNat<16∨s.length<i+2 then(0,0,false)else(orB (KQ (s.getD i 0).toNat) (Qz (s.getD (i+1) 0).toNat).1,2,decide (KQ (s.getD (i+1) 0).toNat<16)):=by
 unfold Ju;rw[ZMH,ZMH,Nat.add_zero];have h1:=ZK0 (s.getD i 0).toNat;have h2:=ZK0 (s.getD (i+1) 0).toNat;by_cases h:s.length≤i
 ·rw[if_pos (List.drop_of_length_le h),if_pos h]
 ·rw[if_neg (by intro e;have:=congrArg List.length e;simp at this;omega),if_neg h];split
  ·rfl
  ·rw[h1.1,h2.1];have e1:(decide (KQ (s.getD i 0).toNat<16)=false∨(s.drop i).length<2)↔(¬KQ (s.getD i 0).toNat<16∨s.length<i+2):=by
    rw[decide_eq_false_iff_not,List.length_drop];constructor<;>(intro h;rcases h with h|h;exact .inl h;exact .inr (by omega))
   by_cases h3: ¬KQ (s.getD i 0).toNat<16∨s.length<i+2
   ·rw[if_pos h3,if_pos (e1.2 h3)]
   ·rw[if_neg h3,if_neg (fun h=>h3 (e1.1 h)),h1.2 (Decidable.not_not.1 fun h=>h3 (.inl h))]
theorem ZeB: ∀(a b:Fin 16),IntKind.u8.wrap (16*(a.val:Int)+(b.val:Int))=((UInt8.ofNat (16*a.val+b.val)).toNat:Int):=by decide+kernel
theorem Zek (h l:Nat) (h1:h<16) (h2:l<16):IntKind.u8.wrap (16*(h:Int)+(l:Int))=((orB h l).toNat:Int):=ZeB ⟨_,h1⟩ ⟨_,h2⟩
theorem Za2 (c:UInt8):ZHC c=(spc c.toNat||(decide ((c.toNat:Int)=32)||decide ((c.toNat:Int)=35))):=by
 have e1:decide (c.toNat=32)=decide ((c.toNat:Int)=32):=by rw[Bool.eq_iff_iff,Zj,Zj];omega
 have e2:decide (c.toNat=35)=decide ((c.toNat:Int)=35):=by rw[Bool.eq_iff_iff,Zj,Zj];omega
 unfold ZHC;rw[e1,e2,Bool.or_assoc]
theorem KE (s:Tx) (j:Nat) (h:j<s.length):s.drop j=s.getD j 0::s.drop (j+1):=by
 rw[List.drop_eq_getElem_cons h];simp[h]
theorem ZX1 (n:Nat) (r b:Tx) (j e:Nat) (hc:r.getD j 0=92) (h1:j+1<r.length) (hf:ZHC (r.getD (j+1) 0)=true):Jl (n+1) (r.drop j) b e=Jl n (r.drop (j+2)) (b++ [r.getD (j+1) 0]) (b.length+1):=by
 have hE:Ju (r.drop (j+1))=(r.getD (j+1) 0,1,true):=by rw[ZKy,if_neg (by omega),if_pos hf]
 rw[KE r j (by omega),Jl,if_pos hc,hE,if_pos rfl,List.drop_drop];first|done|rfl
theorem Zbo (n:Nat) (r b:Tx) (j e:Nat) (hc:r.getD j 0=92) (h1:j+2<r.length) (hf:ZHC (r.getD (j+1) 0)=false) (hx:KQ (r.getD (j+1) 0).toNat<16) (hy:KQ (r.getD (j+2) 0).toNat<16):Jl (n+1) (r.drop j) b e=Jl n (r.drop (j+3)) (b++ [orB (KQ (r.getD (j+1) 0).toNat) (KQ (r.getD (j+2) 0).toNat)]) (b.length+1):=by
 have hE:Ju (r.drop (j+1))=(orB (KQ (r.getD (j+1) 0).toNat) (KQ (r.getD (j+2) 0).toNat),2,true):=by
  rw[ZKy,if_neg (by omega),if_neg (by rw[hf];decide),if_neg (by rintro(h|h);exact h hx;omega),(ZK0 (r.getD (j+1+1) 0).toNat).2 hy,ZM hy]
 rw[KE r j (by omega),Jl,if_pos hc,hE,if_pos rfl,List.drop_drop];first|done|rfl
theorem Zb7 (n:Nat) (r b:Tx) (j e:Nat) (hj:j<r.length) (hc:r.getD j 0=92) (hf: ¬(j+1<r.length∧ZHC (r.getD (j+1) 0)=true)) (hx: ¬(j+2<r.length∧KQ (r.getD (j+1) 0).toNat<16∧KQ (r.getD (j+2) 0).toNat<16)):Jl (n+1) (r.drop j) b e=none:=by
 have hE:(Ju (r.drop (j+1))).2.2=false:=by
  rw[ZKy];by_cases h1:r.length≤j+1
  ·rw[if_pos h1]
  ·rw[if_neg h1,if_neg (fun h=>hf ⟨by omega,h⟩)];by_cases h2: ¬KQ (r.getD (j+1) 0).toNat<16∨r.length<j+1+2
   ·rw[if_pos h2]
   ·rw[if_neg h2];simp only[not_or,Decidable.not_not]at h2;exact decide_eq_false (fun h=>hx ⟨by omega,h2.1,h⟩)
 rw[KE r j hj,Jl,if_pos hc,hE,if_neg (by decide)]
theorem Za0 (n:Nat) (r b:Tx) (j e:Nat) (hj:j<r.length) (hc:r.getD j 0≠92) (hb:ZHl (r.getD j 0).toNat (decide (b.length=0))=true):Jl (n+1) (r.drop j) b e=none:=by
 rw[KE r j hj,Jl,if_neg hc,if_pos hb]
theorem ZTz (n:Nat) (r b:Tx) (j e:Nat) (hj:j<r.length) (hc:r.getD j 0=32):Jl (n+1) (r.drop j) b e=Jl n (r.drop (j+1)) (b++ [r.getD j 0]) e:=by
 rw[KE r j hj,Jl,if_neg (by rw[hc];decide),if_neg (by rw[hc];cases decide (b.length=0)<;>decide),if_pos hc]
theorem ZWb (n:Nat) (r b:Tx) (j e:Nat) (hj:j<r.length) (hc:r.getD j 0≠92) (hb: ¬ZHl (r.getD j 0).toNat (decide (b.length=0))=true) (h3:r.getD j 0≠32):Jl (n+1) (r.drop j) b e=Jl n (r.drop (j+1)) (b++ [r.getD j 0]) (b.length+1):=by
 rw[KE r j hj,Jl,if_neg hc,if_neg hb,if_neg h3]
theorem neD {c:UInt8} {k:Nat} (hk:k<256) (h: ¬(c.toNat:Int)=k):c≠UInt8.ofNat k:=fun e=>h (by rw[e];simp;omega)
theorem Zbj (n:Nat) (f:Bool):ZHl n f=(((decide ((n:Int)<32)||decide ((n:Int)=127))||(spc n&&decide ((n:Int)≠61)))||(decide ((n:Int)=35)&&f)):=by
 unfold ZHl;rw[Bool.eq_iff_iff];simp only[Bool.or_eq_true,ZW,Zj];grind
theorem Zdx:spc 92=true:=by decide
def ZHY:Tabs:=ZY (ZY (ZV) 204 QZ) 205 ZK7
theorem ZU3:SsOk Tryz.prog ZHY:=ZL (ZL (ZG) (ZB ZH (p:=ZN2) rfl) ZIr) (ZB ZH (p:=ZRa) rfl) Zbc
theorem ZPO (a:List D):ZHY.q 204 a=QZ a:=rfl
theorem ZPZ (a:List D):ZHY.q 205 a=ZK7 a:=rfl
theorem ZX9 (f:FuncId) (a:List D) (o:List Ob):ZHY.r f a o=none:=rfl
theorem ZXM (f:FuncId) (a:List D) (o:List Ob):ZHY.k f a o=none:=rfl
set_option maxHeartbeats 2000000 in
theorem ZcQ (s:Tx) (hl:s.length≤900000):ZC Tryz.prog 184 [.x (.str s)] (.tup [.x (.str (ZEx s).1),.x (.bool (ZEx s).2)]):=by
 have htl:=ZLB s;rcases hq:ZEx s with⟨v,ok⟩
 unfold ZEx at hq;refine ZN.pure (ZP (fz:=true) ZH (p:=ZRq) rfl _ (ξ rfl) _ (fun C0 E0=> ?_)) rfl;dsimp only[ZRq,qt,qi,qs,qb,qm,qa,qh,qj,qT,qF,qe,ql,qL,qf,q2,q3,q8,qz,qp,qP,qc,qk,qx,qy,qo,qr,qC,ZQ];have uu:=ZA @QZ.eq_1 (ZA @QZ.eq_2 (ZA @ZK7.eq_1 (ZA @ZK7.eq_2 (ZA @YX (ZA @Jn (ZA @ZX9 (ZA @ZXM (ZA @ZPO (@ZPZ)))))))));have tT:=ZU3;refine nz ?_;refine WI.regB tT [0] ?_
 iterate 2 refine oS ?_
 refine oN ?_;refine nz ?_;refine WI.loop (fun φ os=> ∃(r:Tx),φ= [(0,.x (.str r))]∧os= []∧r.length≤s.length∧QO s=QO r) ((fun φ _=>match get φ 0 with| .x (.str r)=>r.length|_=>0)) ?_ (fun φ os hI=> ?_)
 ·exact⟨s,rfl,rfl,by omega,rfl⟩
 ·obtain⟨r,rfl,rfl,hr,he⟩:=hI;have hem:=ZFT r;refine nz ?_;refine WI.regB tT [0,14] ?_;refine oS ?_;refine oG (hok:=by first|exact se|(clear uu;grind)|exact sd) ?_;refine oS ?_
  iterate 4 refine oG (hok:=by first|exact se|(clear uu;grind)|exact sd) ?_
  refine oN ?_;refine nz ?_;refine cd (fun h0=> ?_) (fun h0=> ?_)
  ·have h0p:0<r.length:=by rcases r with _|⟨c,r⟩;simp at h0;simp
   have h0c:r.getD 0 0=32:=by rcases r with _|⟨c,r⟩;simp at h0;exact ZJK (by simpa using h0)
   refine WI.regB tT [0] ?_;refine oS ?_;refine oG (hok:=by first|exact se|(clear uu;grind)|exact sd) ?_;refine oS ?_;refine oN ?_;refine nz ?_;exact⟨⟨r.drop 1,rfl,rfl,by simp;omega,by rw[he,ZJH r h0p h0c]⟩,by show(r.drop 1).length<r.length;rw[List.length_drop];omega⟩
  ·have h0n: ¬(0<r.length∧r.getD 0 0=32):=fun hh=>by
    have h2:((r.getD 0 0).toNat:Int)=32:=by rw[hh.2];rfl
    have h3:r≠ []:=by rintro rfl;simp at hh
    grind
   rw[he,ZJc r h0n]at hq htl;clear he h0 h0n hem;refine WI.regB tT [0,4] ?_;refine oS ?_;refine oN ?_;refine nz ?_;refine WI.regB tT [0,4,5] ?_;refine oS ?_;refine oN ?_;refine nz ?_;refine WI.regB tT [0,4,5,6] ?_;refine oS ?_;refine oN ?_;refine nz ?_;refine WI.ownA 4 5 1 ?_;refine WI.loop (fun φ os=> ∃(j e n:Nat) (b:Tx),φ= [(0,.x (.str r)),(4,.ref 0 b.length 0 b.length),(5,.x (.int .i64 e)),(6,.x (.int .i64 j))]∧os= [.rows false 5 1 (b.map Zk)]∧j≤r.length∧r.length-j<n∧b.length≤j∧e≤b.length∧Jl (s.length+1) r [] 0=Jl n (r.drop j) b e) (ZK r.length 6) ?_ (fun φ os hI=> ?_)
   ·exact⟨0,0,s.length+1,[],rfl,rfl,by omega,by omega,by simp,by simp,rfl⟩
   ·obtain⟨j,e,n,b,rfl,rfl,hj,hn,hb,hee,hv⟩:=hI;obtain⟨n,rfl⟩: ∃m,n=m+1:=⟨n-1,by omega⟩;refine nz ?_;refine WI.regB tT [0,4,5,6,20] ?_
    iterate 2 refine oS ?_
    iterate 2 refine oG (hok:=by first|exact se|(clear uu;grind)|exact sd) ?_
    refine oN ?_;refine nz ?_;refine cd (fun h1=> ?_) (fun h1=> ?_)
    ·have hj4:j<r.length:=by omega
     have e1:((j:Int)+1).toNat=j+1:=by omega
     have e2:((j:Int)+2).toNat=j+2:=by omega
     have hb8:(r.getD j 0).toNat<256:=UInt8.toNat_lt _;have hb81:(r.getD (j+1) 0).toNat<256:=UInt8.toNat_lt _;have hb82:(r.getD (j+2) 0).toNat<256:=UInt8.toNat_lt _;have hfe:=Za2 (r.getD (j+1) 0);have hbe:=Zbj (r.getD j 0).toNat (decide (b.length=0));have uu:=ZA uu (ZA e1 e2);refine WI.regB tT [0,4,5,6,7] ?_
     iterate 2 refine oS ?_
     refine oG (hok:=by first|exact se|(clear uu;grind)|exact sd) ?_;refine oS ?_;refine oN ?_;refine nz ?_;refine WI.regB tT [0,4,5,6,7,32] ?_;refine oS ?_;refine oG (hok:=by first|exact se|(clear uu;grind)|exact sd) ?_;refine oS ?_
     iterate 6 refine oG (hok:=by first|exact se|(clear uu;grind)|exact sd) ?_
     refine oS ?_
     iterate 4 refine oG (hok:=by first|exact se|(clear uu;grind)|exact sd) ?_
     refine oC (hok:=by first|exact se|(clear uu;grind)|exact sd) ?_
     iterate 15 refine oG (hok:=by first|exact se|(clear uu;grind)|exact sd) ?_
     refine oS ?_;refine oN ?_;refine nz ?_;refine cd (fun h2=> ?_) (fun h2=> ?_)
     ·have hst:=ZX1 n r b j e (ZMk (by clear uu;grind)) (by clear uu;grind) (by rw[hfe];clear uu;grind);refine WI.post ?_;refine WI.regB tT [0,4,6] ?_
      iterate 3 refine oS ?_
      iterate 4 refine oG (hok:=by first|exact se|(clear uu;grind)|exact sd) ?_
      refine oS ?_;refine oP ?_;refine JA [0] ?_;refine Je ?_;refine nz ?_;refine WI.regB tT [0,4,6] ?_;refine oS ?_;refine oG (hok:=by first|exact se|(clear uu;grind)|exact sd) ?_;refine oS ?_;refine oN ?_;refine nz ?_;refine WI.regB tT [0,4,5,6] ?_;refine oS ?_;refine oG (hok:=by first|exact se|(clear uu;grind)|exact sd) ?_;refine oS ?_;refine oN ?_;refine nz ?_;refine WI.orderA [0,4,5,6] ?_;refine WI.regB tT [0,4,5,6] ?_;refine oS ?_;refine oG (hok:=by first|exact se|(clear uu;grind)|exact sd) ?_;refine oS ?_;refine oN ?_;refine nz ?_
      first|exact⟨⟨j+2,b.length+1,n,b++ [r.getD (j+1) 0],by rw[Zs];first|done|rfl,by rw[YD];first|done|rfl,by omega,by omega,by rw[Zs];simp;omega,by simp,by rw[hv,hst]⟩,by simp[ZK,Ab.get,D.val,ZF];omega⟩|exact⟨⟨j+3,b.length+1,n,b++ [orB (KQ (r.getD (j+1) 0).toNat) (KQ (r.getD (j+2) 0).toNat)],by rw[Zs];first|done|rfl,by rw[YD];first|done|rfl,by omega,by omega,by rw[Zs];simp;omega,by simp,by rw[hv,hst]⟩,by simp[ZK,Ab.get,D.val,ZF];omega⟩|exact⟨⟨j+1,e,n,b++ [r.getD j 0],by rw[Zs];first|done|rfl,by rw[YD];first|done|rfl,by omega,by omega,by rw[Zs];simp;omega,by simp;omega,by rw[hv,hst]⟩,by simp[ZK,Ab.get,D.val,ZF];omega⟩|exact⟨⟨j+1,b.length+1,n,b++ [r.getD j 0],by rw[Zs];first|done|rfl,by rw[YD];first|done|rfl,by omega,by omega,by rw[Zs];simp;omega,by simp,by rw[hv,hst]⟩,by simp[ZK,Ab.get,D.val,ZF];omega⟩
     ·refine WI.regB tT [0,4,5,6,7,74] ?_;refine oS ?_;refine oG (hok:=by first|exact se|(clear uu;grind)|exact sd) ?_;refine oS ?_
      iterate 6 refine oG (hok:=by first|exact se|(clear uu;grind)|exact sd) ?_
      refine oS ?_
      iterate 4 refine oG (hok:=by first|exact se|(clear uu;grind)|exact sd) ?_
      refine oC (hok:=by first|exact se|(clear uu;grind)|exact sd) ?_
      iterate 2 refine oG (hok:=by first|exact se|(clear uu;grind)|exact sd) ?_
      refine oS ?_
      iterate 4 refine oG (hok:=by first|exact se|(clear uu;grind)|exact sd) ?_
      refine oC (hok:=by first|exact se|(clear uu;grind)|exact sd) ?_
      iterate 2 refine oG (hok:=by first|exact se|(clear uu;grind)|exact sd) ?_
      refine oS ?_;refine oN ?_;refine nz ?_;refine cd (fun h3=> ?_) (fun h3=> ?_)
      ·have hx1:KQ (r.getD (j+1) 0).toNat<16:=by clear uu;grind
       have hx2:KQ (r.getD (j+2) 0).toNat<16:=by clear uu;grind
       have hst:=Zbo n r b j e (ZMk (by clear uu;grind)) (by clear uu;grind) (by rw[hfe];clear uu;grind) hx1 hx2;have uu:=ZA uu (Zek _ _ hx1 hx2);refine WI.post ?_;refine WI.dregB tT [0,4,6] ?_
       iterate 3 refine Zn ?_
       iterate 2 refine Ye (hok:=by first|exact se|(clear uu;grind)|exact sd) ?_
       refine dAC (hok:=by first|exact se|(clear uu;grind)|exact sd) ?_;refine Ye (hok:=by first|exact se|(clear uu;grind)|exact sd) ?_
       iterate 2 refine Zn ?_
       iterate 2 refine Ye (hok:=by first|exact se|(clear uu;grind)|exact sd) ?_
       refine dAC (hok:=by first|exact se|(clear uu;grind)|exact sd) ?_
       iterate 2 refine Ye (hok:=by first|exact se|(clear uu;grind)|exact sd) ?_
       iterate 2 refine dAG (hok:=by first|exact se|(clear uu;grind)|exact sd) ?_
       refine Zn ?_;refine dP ?_;refine JA [0] ?_;refine Je ?_;refine nz ?_;refine WI.regB tT [0,4,6] ?_;refine oS ?_;refine oG (hok:=by first|exact se|(clear uu;grind)|exact sd) ?_;refine oS ?_;refine oN ?_;refine nz ?_;refine WI.regB tT [0,4,5,6] ?_;refine oS ?_;refine oG (hok:=by first|exact se|(clear uu;grind)|exact sd) ?_;refine oS ?_;refine oN ?_;refine nz ?_;refine WI.orderA [0,4,5,6] ?_;refine WI.regB tT [0,4,5,6] ?_;refine oS ?_;refine oG (hok:=by first|exact se|(clear uu;grind)|exact sd) ?_;refine oS ?_;refine oN ?_;refine nz ?_
       first|exact⟨⟨j+2,b.length+1,n,b++ [r.getD (j+1) 0],by rw[Zs];first|done|rfl,by rw[YD];first|done|rfl,by omega,by omega,by rw[Zs];simp;omega,by simp,by rw[hv,hst]⟩,by simp[ZK,Ab.get,D.val,ZF];omega⟩|exact⟨⟨j+3,b.length+1,n,b++ [orB (KQ (r.getD (j+1) 0).toNat) (KQ (r.getD (j+2) 0).toNat)],by rw[Zs];first|done|rfl,by rw[YD];first|done|rfl,by omega,by omega,by rw[Zs];simp;omega,by simp,by rw[hv,hst]⟩,by simp[ZK,Ab.get,D.val,ZF];omega⟩|exact⟨⟨j+1,e,n,b++ [r.getD j 0],by rw[Zs];first|done|rfl,by rw[YD];first|done|rfl,by omega,by omega,by rw[Zs];simp;omega,by simp;omega,by rw[hv,hst]⟩,by simp[ZK,Ab.get,D.val,ZF];omega⟩|exact⟨⟨j+1,b.length+1,n,b++ [r.getD j 0],by rw[Zs];first|done|rfl,by rw[YD];first|done|rfl,by omega,by omega,by rw[Zs];simp;omega,by simp,by rw[hv,hst]⟩,by simp[ZK,Ab.get,D.val,ZF];omega⟩
      ·refine WI.regB tT [0,4,5,6,7,120] ?_;refine oS ?_;refine oG (hok:=by first|exact se|(clear uu;grind)|exact sd) ?_;refine oS ?_;refine oN ?_;refine nz ?_;refine cd (fun h4=> ?_) (fun h4=> ?_)
       ·have hst:=ZTz n r b j e hj4 (ZJK (by first|exact h4|simpa using h4));refine WI.post ?_;refine WI.regB tT [0,4,5,6] ?_
        iterate 2 refine oS ?_
        iterate 2 refine oG (hok:=by first|exact se|(clear uu;grind)|exact sd) ?_
        refine oS ?_;refine oP ?_;refine JA [0] ?_;refine Je ?_;refine nz ?_;refine WI.orderA [0,4,5,6] ?_;refine WI.regB tT [0,4,5,6] ?_;refine oS ?_;refine oG (hok:=by first|exact se|(clear uu;grind)|exact sd) ?_;refine oS ?_;refine oN ?_;refine nz ?_
        first|exact⟨⟨j+2,b.length+1,n,b++ [r.getD (j+1) 0],by rw[Zs];first|done|rfl,by rw[YD];first|done|rfl,by omega,by omega,by rw[Zs];simp;omega,by simp,by rw[hv,hst]⟩,by simp[ZK,Ab.get,D.val,ZF];omega⟩|exact⟨⟨j+3,b.length+1,n,b++ [orB (KQ (r.getD (j+1) 0).toNat) (KQ (r.getD (j+2) 0).toNat)],by rw[Zs];first|done|rfl,by rw[YD];first|done|rfl,by omega,by omega,by rw[Zs];simp;omega,by simp,by rw[hv,hst]⟩,by simp[ZK,Ab.get,D.val,ZF];omega⟩|exact⟨⟨j+1,e,n,b++ [r.getD j 0],by rw[Zs];first|done|rfl,by rw[YD];first|done|rfl,by omega,by omega,by rw[Zs];simp;omega,by simp;omega,by rw[hv,hst]⟩,by simp[ZK,Ab.get,D.val,ZF];omega⟩|exact⟨⟨j+1,b.length+1,n,b++ [r.getD j 0],by rw[Zs];first|done|rfl,by rw[YD];first|done|rfl,by omega,by omega,by rw[Zs];simp;omega,by simp,by rw[hv,hst]⟩,by simp[ZK,Ab.get,D.val,ZF];omega⟩
       ·refine WI.regB tT [0,4,6,7,127] ?_;refine oS ?_;refine oG (hok:=by first|exact se|(clear uu;grind)|exact sd) ?_;refine oS ?_
        iterate 3 refine oG (hok:=by first|exact se|(clear uu;grind)|exact sd) ?_
        refine oS ?_;refine oG (hok:=by first|exact se|(clear uu;grind)|exact sd) ?_;refine oC (hok:=by first|exact se|(clear uu;grind)|exact sd) ?_
        iterate 5 refine oG (hok:=by first|exact se|(clear uu;grind)|exact sd) ?_
        refine oS ?_
        iterate 8 refine oG (hok:=by first|exact se|(clear uu;grind)|exact sd) ?_
        refine oS ?_;refine oN ?_;refine nz ?_;refine cd (fun h5=> ?_) (fun h5=> ?_)
        ·refine WI.regB tT [2,3] ?_
         iterate 2 refine oS ?_
         refine oN ?_;refine nz ?_;refine lf ?_;have hno:Jl (n+1) (r.drop j) b e=none:=by
          by_cases hc:r.getD j 0=92
          ·have hc':((r.getD j 0).toNat:Int)=92:=by rw[hc];rfl
           exact Zb7 n r b j e hj4 hc (by rw[hfe];clear uu;grind) (by clear uu;grind)
          ·exact Za0 n r b j e hj4 hc (by rw[hbe];clear uu;grind)
         rw[hv,hno]at hq;cases hq;rfl
        ·have hc9:r.getD j 0≠92:=by
          intro hc;have hc':((r.getD j 0).toNat:Int)=92:=by rw[hc];rfl
          have hs9:spc (r.getD j 0).toNat=true:=by rw[hc];exact Zdx
          clear uu;grind
         have hst:=ZWb n r b j e hj4 hc9 (by rw[hbe];clear uu;grind) (neD (k:=32) (by decide) (by clear uu;grind));refine WI.post ?_;refine WI.regB tT [0,4,6] ?_
         iterate 2 refine oS ?_
         iterate 2 refine oG (hok:=by first|exact se|(clear uu;grind)|exact sd) ?_
         refine oS ?_;refine oP ?_;refine JA [0] ?_;refine Je ?_;refine nz ?_;refine WI.regB tT [0,4,5,6] ?_;refine oS ?_;refine oG (hok:=by first|exact se|(clear uu;grind)|exact sd) ?_;refine oS ?_;refine oN ?_;refine nz ?_;refine WI.orderA [0,4,5,6] ?_;refine WI.regB tT [0,4,5,6] ?_;refine oS ?_;refine oG (hok:=by first|exact se|(clear uu;grind)|exact sd) ?_;refine oS ?_;refine oN ?_;refine nz ?_
         first|exact⟨⟨j+2,b.length+1,n,b++ [r.getD (j+1) 0],by rw[Zs];first|done|rfl,by rw[YD];first|done|rfl,by omega,by omega,by rw[Zs];simp;omega,by simp,by rw[hv,hst]⟩,by simp[ZK,Ab.get,D.val,ZF];omega⟩|exact⟨⟨j+3,b.length+1,n,b++ [orB (KQ (r.getD (j+1) 0).toNat) (KQ (r.getD (j+2) 0).toNat)],by rw[Zs];first|done|rfl,by rw[YD];first|done|rfl,by omega,by omega,by rw[Zs];simp;omega,by simp,by rw[hv,hst]⟩,by simp[ZK,Ab.get,D.val,ZF];omega⟩|exact⟨⟨j+1,e,n,b++ [r.getD j 0],by rw[Zs];first|done|rfl,by rw[YD];first|done|rfl,by omega,by omega,by rw[Zs];simp;omega,by simp;omega,by rw[hv,hst]⟩,by simp[ZK,Ab.get,D.val,ZF];omega⟩|exact⟨⟨j+1,b.length+1,n,b++ [r.getD j 0],by rw[Zs];first|done|rfl,by rw[YD];first|done|rfl,by omega,by omega,by rw[Zs];simp;omega,by simp,by rw[hv,hst]⟩,by simp[ZK,Ab.get,D.val,ZF];omega⟩
    ·have hv2:Jl (s.length+1) r [] 0=some (b,e):=by rw[hv,List.drop_of_length_le (by omega)];rfl
     rw[hv2]at hq;have e1:(List.map Zk b).take e=(b.take e).map Zk:=by rw[List.map_take]
     have uu:=ZA uu e1;refine WI.regB tT [2,3] ?_
     iterate 2 refine oS ?_
     iterate 2 refine oG (hok:=by first|exact se|(clear uu;grind)|exact sd) ?_
     iterate 2 refine oS ?_
     refine oN ?_;refine nz ?_;refine lf ?_;cases hq;rfl
def ZIT:List D→Option (Bool×D)
 | [.x (.str s)]=>some (decide (s.length≤900000),.tup [.x (.str (ZEx s).1),.x (.bool (ZEx s).2)])
 |_=>none
theorem ZX2: ∀args r,ZIT args=some (true,r)→ZC Tryz.prog 184 args r:=by
 intro args r h;unfold ZIT at h;split at h
 ·rename_i s;simp only[Zf,Zc,ZW,Zj,true_and]at h;obtain⟨h1,rfl⟩:=h;exact(ZcQ s h1)
 ·cases h
def pre (p:Tx):List Tx→List Tx
 | []=> [p]
 |x::l=>(p++x)::l
def YQ (a:UInt8):Tx→List Tx
 | []=> [[]]
 |c::r=>if c=92 then(match r with
   | []=> [[c]]
   |d::r'=>pre [c,d] (YQ a r'))else if c=a then []::YQ a r else pre [c] (YQ a r)
theorem ZVr (p:Tx) (l:List Tx):pre p l≠ []:=by cases l<;>simp[pre]
theorem ZKr (a:UInt8) (s:Tx):YQ a s≠ []:=by
 unfold YQ;split
 ·simp
 ·split
  ·split
   ·simp
   ·exact ZVr _ _
  ·split
   ·simp
   ·exact ZVr _ _
theorem ZQJ (p q:Tx) (l:List Tx) (h:l≠ []):pre p (pre q l)=pre (p++q) l:=by
 rcases l with _|⟨x,l⟩
 ·exact absurd rfl h
 ·simp[pre]
theorem ZQk (l:List Tx) (h:l≠ []):pre [] l=l:=by
 rcases l with _|⟨x,l⟩
 ·exact absurd rfl h
 ·simp[pre]
theorem ZUq (a:UInt8) (s:Tx) (j:Nat) (h:j<s.length) (hc:s.getD j 0=92):YQ a (s.drop j)=pre ((s.drop j).take 2) (YQ a (s.drop (j+2))):=by
 rw[KE s j h,hc];rcases hr:s.drop (j+1)with _|⟨d,r⟩
 ·have:s.drop (j+2)= []:=by rw[←List.drop_drop,show s.drop j=s.drop (j+0)from rfl];have:=congrArg (List.drop 1) hr;rw[List.drop_drop]at this;simpa using this
  rw[this];rfl
 ·have:s.drop (j+2)=r:=by have:=congrArg (List.drop 1) hr;rw[List.drop_drop]at this;simpa using this
  rw[this]
  conv=>lhs;unfold YQ
  rw[if_pos rfl];rfl
theorem Zbz (a:UInt8) (ha:a≠92) (s:Tx) (j:Nat) (h:j<s.length) (hc:s.getD j 0=a):YQ a (s.drop j)= []::YQ a (s.drop (j+1)):=by
 rw[KE s j h,hc]
 conv=>lhs;unfold YQ
 rw[if_neg ha,if_pos rfl]
theorem ZUb (a:UInt8) (s:Tx) (j:Nat) (h:j<s.length) (h1:s.getD j 0≠92) (h2:s.getD j 0≠a):YQ a (s.drop j)=pre [s.getD j 0] (YQ a (s.drop (j+1))):=by
 rw[KE s j h]
 conv=>lhs;unfold YQ
 rw[if_neg h1,if_neg h2]
theorem ZJ4 (s:Tx) (f j k:Nat) (h:f≤j) (hj:j≤s.length):(s.take (j+k)).drop f=(s.take j).drop f++(s.drop j).take k:=by
 rw[List.take_add,List.drop_append_of_le_length (by simp;omega)]
theorem ZdP (s:Tx) (j:Nat) (h:j<s.length):(s.drop j).take 1= [s.getD j 0]:=by rw[KE s j h];rfl
structure SpI (a:UInt8) (s:Tx) (f j:Nat) (ps:List Tx):Prop where
 fj:f≤j
 jl:j≤s.length+1
 fl:f≤s.length
 pl:ps.length≤f
 eq:YQ a s=ps++pre ((s.take j).drop f) (YQ a (s.drop j))
theorem SpI.start (a:UInt8) (s:Tx):SpI a s 0 0 []:=⟨Nat.le_refl _,by omega,by omega,by simp,by show YQ a s=pre [] (YQ a s);rw[ZQk _ (ZKr a s)]⟩
theorem SpI.slash {a:UInt8} {s:Tx} {f j:Nat} {ps:List Tx} (I:SpI a s f j ps) (h:j<s.length) (hc:s.getD j 0=92):SpI a s f (j+2) ps:=
 ⟨by have:=I.fj;omega,by omega,I.fl,I.pl,by rw[I.eq,ZUq a s j h hc,ZQJ _ _ _ (ZKr _ _),ZJ4 s f j 2 I.fj (by omega)]⟩
theorem SpI.hit {a:UInt8} (ha:a≠92) {s:Tx} {f j:Nat} {ps:List Tx} (I:SpI a s f j ps) (h:j<s.length) (hc:s.getD j 0=a):SpI a s (j+1) (j+1) (ps++ [(s.take j).drop f]):=
 ⟨Nat.le_refl _,by omega,by omega,by have:=I.pl;have:=I.fj;simp;omega,by
  rw[I.eq,Zbz a ha s j h hc,List.drop_of_length_le (l:=s.take (j+1)) (by simp;omega),ZQk _ (ZKr _ _)];simp[pre]⟩
theorem SpI.plain {a:UInt8} {s:Tx} {f j:Nat} {ps:List Tx} (I:SpI a s f j ps) (h:j<s.length) (h1:s.getD j 0≠92) (h2:s.getD j 0≠a):SpI a s f (j+1) ps:=
 ⟨by have:=I.fj;omega,by omega,I.fl,I.pl,by rw[I.eq,ZUb a s j h h1 h2,ZQJ _ _ _ (ZKr _ _),ZJ4 s f j 1 I.fj (by omega),ZdP s j h]⟩
theorem SpI.fin {a:UInt8} {s:Tx} {f j:Nat} {ps:List Tx} (I:SpI a s f j ps) (h:s.length≤j):YQ a s=ps++ [s.drop f]:=by
 rw[I.eq,List.drop_of_length_le h,YN h];simp[YQ,pre]
theorem QW (l:List Tx) (x:Tx):rows ZJ l++ [[X.str x]]=rows ZJ (l++ [x]):=by simp[rows,ZJ]
theorem cD {c a:UInt8} (h:(c.toNat:Int)=a.toNat):c=a:=UInt8.toNat_inj.1 (by omega)
theorem nD {c a:UInt8} (h: ¬(c.toNat:Int)=a.toNat):c≠a:=fun e=>h (by rw[e])
theorem ZOH (a:UInt8) (ha:a≠92) (s:Tx) (hl:s.length≤1000000):ZC Tryz.prog 166 [.x (.str s),.x (.int .u8 a.toNat)] (.x (.sl (rows ZJ (YQ a s)))):=by
 refine ZN.pure (ZP (fz:=true) ZH (p:=ZLC) rfl _ (ξ rfl) _ (fun C0 E0=> ?_)) rfl;dsimp only[ZLC,qt,qi,qs,qb,qm,qa,qh,qj,qT,qF,qe,ql,qL,qf,q2,q3,q8,qz,qp,qP,qc,qk,qx,qy,qo,qr,qC,ZQ];have uu:=trivial;have tT:=(ZG:SsOk Tryz.prog ZV);refine nz ?_;refine rg tT [0,1] ?_;refine rg tT [0,1,5] ?_;refine rg tT [0,1,5,6] ?_;refine rg tT [0,1,5,6,7] ?_;refine WI.ownA 5 9 1 ?_;refine WI.loop (fun φ os=> ∃(f j:Nat) (ps:List Tx),φ= [(0,.x (.str s)),(1,.x (.int .u8 a.toNat)),(5,.ref 0 ps.length 0 ps.length),(6,.x (.int .i64 f)),(7,.x (.int .i64 j))]∧os= [.rows false 9 1 (rows ZJ ps)]∧SpI a s f j ps) (ZK (s.length+1) 7) ?_ (fun φ os hI=> ?_)
 ·exact⟨0,0,[],rfl,rfl,SpI.start a s⟩
 ·obtain⟨f,j,ps,rfl,rfl,I⟩:=hI;have i1:=I.fj;have i2:=I.jl;have i3:=I.fl;have i4:=I.pl;refine nz ?_;refine rg tT [0,1,5,6,7,11] ?_;refine cd (fun h0=> ?_) (fun h0=> ?_)
  ·have hj4:j<s.length:=by omega
   refine rg tT [0,1,5,6,7,16] ?_;refine rg tT [0,1,5,6,7,16,17] ?_;refine cd (fun h1=> ?_) (fun h1=> ?_)
   ·have hc:s.getD j 0=92:=ZMk (by first|exact h1|simpa using h1);refine rg tT [0,1,5,6,7] ?_;refine WI.orderA [0,1,5,6,7] ?_;refine rg tT [0,1,5,6,7] ?_
    first|exact⟨⟨f,j+2,ps,rfl,rfl,I.slash hj4 hc⟩,by simp[ZK,Ab.get,D.val,ZF];omega⟩|exact⟨⟨j+1,j+1,ps++ [(s.take j).drop f],by rw[Zs];first|done|rfl,by rw[←QW];first|done|rfl,I.hit ha hj4 hc⟩,by simp[ZK,Ab.get,D.val,ZF];omega⟩|exact⟨⟨f,j+1,ps,rfl,rfl,I.plain hj4 hc1 hc2⟩,by simp[ZK,Ab.get,D.val,ZF];omega⟩
   ·have hc1:s.getD j 0≠92:=neD (k:=92) (by decide) (by first|exact h1|simpa using h1);refine rg tT [0,1,5,6,7,21] ?_;refine cd (fun h2=> ?_) (fun h2=> ?_)
    ·have hc:s.getD j 0=a:=cD (by first|exact h2|simpa using h2);refine rgp tT [0,1,5,7] ?_;refine JA [0] ?_;refine Je ?_;refine nz ?_;refine rg tT [0,1,5,6,7] ?_;refine WI.orderA [0,1,5,6,7] ?_;refine rg tT [0,1,5,6,7] ?_
     first|exact⟨⟨f,j+2,ps,rfl,rfl,I.slash hj4 hc⟩,by simp[ZK,Ab.get,D.val,ZF];omega⟩|exact⟨⟨j+1,j+1,ps++ [(s.take j).drop f],by rw[Zs];first|done|rfl,by rw[←QW];first|done|rfl,I.hit ha hj4 hc⟩,by simp[ZK,Ab.get,D.val,ZF];omega⟩|exact⟨⟨f,j+1,ps,rfl,rfl,I.plain hj4 hc1 hc2⟩,by simp[ZK,Ab.get,D.val,ZF];omega⟩
    ·have hc2:s.getD j 0≠a:=nD (by first|exact h2|simpa using h2);refine WI.orderA [0,1,5,6,7] ?_;refine rg tT [0,1,5,6,7] ?_
     first|exact⟨⟨f,j+2,ps,rfl,rfl,I.slash hj4 hc⟩,by simp[ZK,Ab.get,D.val,ZF];omega⟩|exact⟨⟨j+1,j+1,ps++ [(s.take j).drop f],by rw[Zs];first|done|rfl,by rw[←QW];first|done|rfl,I.hit ha hj4 hc⟩,by simp[ZK,Ab.get,D.val,ZF];omega⟩|exact⟨⟨f,j+1,ps,rfl,rfl,I.plain hj4 hc1 hc2⟩,by simp[ZK,Ab.get,D.val,ZF];omega⟩
  ·refine rg tT [4] ?_;refine lf ?_;rw[QW,I.fin (by omega),YN (by simp[rows])]
def KC:List D→Option (Bool×D)
 | [.x (.str s),.x (.int .u8 n)]=>some (decide (s.length≤1000000)&&(decide (n=43∨n=44)),.x (.sl (rows ZJ (YQ (UInt8.ofNat n.toNat) s))))
 |_=>none
theorem ZGm: ∀args r,KC args=some (true,r)→ZC Tryz.prog 166 args r:=by
 intro args r h;unfold KC at h;split at h
 ·rename_i s n;simp only[Zf,Zc,ZW,Zj,true_and]at h;obtain⟨⟨h1,h2⟩,rfl⟩:=h;exact(by rcases h2 with rfl|rfl;exact ZOH 43 (by decide) s h1;exact ZOH 44 (by decide) s h1)
 ·cases h
theorem ZN1 (a:UInt8) (ha:a≠92) (s:Tx) (hl:s.length≤1000000):ZC Tryz.prog 158 [.x (.str s),.x (.int .u8 a.toNat)] (.x (.sl (rows ZJ (YQ a s)))):=by
 refine ZN.pure (ZP (fz:=true) ZH (p:=ZRo) rfl _ (ξ rfl) _ (fun C0 E0=> ?_)) rfl;dsimp only[ZRo,qt,qi,qs,qb,qm,qa,qh,qj,qT,qF,qe,ql,qL,qf,q2,q3,q8,qz,qp,qP,qc,qk,qx,qy,qo,qr,qC,ZQ];have uu:=trivial;have tT:=(ZG:SsOk Tryz.prog ZV);refine nz ?_;refine rg tT [0,1] ?_;refine rg tT [0,1,5] ?_;refine rg tT [0,1,5,6] ?_;refine rg tT [0,1,5,6,7] ?_;refine WI.ownA 5 9 1 ?_;refine WI.loop (fun φ os=> ∃(f j:Nat) (ps:List Tx),φ= [(0,.x (.str s)),(1,.x (.int .u8 a.toNat)),(5,.ref 0 ps.length 0 ps.length),(6,.x (.int .i64 f)),(7,.x (.int .i64 j))]∧os= [.rows false 9 1 (rows ZJ ps)]∧SpI a s f j ps) (ZK (s.length+1) 7) ?_ (fun φ os hI=> ?_)
 ·exact⟨0,0,[],rfl,rfl,SpI.start a s⟩
 ·obtain⟨f,j,ps,rfl,rfl,I⟩:=hI;have i1:=I.fj;have i2:=I.jl;have i3:=I.fl;have i4:=I.pl;refine nz ?_;refine rg tT [0,1,5,6,7,11] ?_;refine cd (fun h0=> ?_) (fun h0=> ?_)
  ·have hj4:j<s.length:=by omega
   refine rg tT [0,1,5,6,7,17] ?_;refine cd (fun h1=> ?_) (fun h1=> ?_)
   ·have hc:s.getD j 0=92:=ZMk (by first|exact h1|simpa using h1);refine rg tT [0,1,5,6,7] ?_;refine WI.orderA [0,1,5,6,7] ?_;refine rg tT [0,1,5,6,7] ?_
    first|exact⟨⟨f,j+2,ps,rfl,rfl,I.slash hj4 hc⟩,by simp[ZK,Ab.get,D.val,ZF];omega⟩|exact⟨⟨j+1,j+1,ps++ [(s.take j).drop f],by rw[Zs];first|done|rfl,by rw[←QW];first|done|rfl,I.hit ha hj4 hc⟩,by simp[ZK,Ab.get,D.val,ZF];omega⟩|exact⟨⟨f,j+1,ps,rfl,rfl,I.plain hj4 hc1 hc2⟩,by simp[ZK,Ab.get,D.val,ZF];omega⟩
   ·have hc1:s.getD j 0≠92:=neD (k:=92) (by decide) (by first|exact h1|simpa using h1);refine rg tT [0,1,5,6,7,24] ?_;refine cd (fun h2=> ?_) (fun h2=> ?_)
    ·have hc:s.getD j 0=a:=cD (by first|exact h2|simpa using h2);refine rgp tT [0,1,5,7] ?_;refine JA [0] ?_;refine Je ?_;refine nz ?_;refine rg tT [0,1,5,6,7] ?_;refine WI.orderA [0,1,5,6,7] ?_;refine rg tT [0,1,5,6,7] ?_
     first|exact⟨⟨f,j+2,ps,rfl,rfl,I.slash hj4 hc⟩,by simp[ZK,Ab.get,D.val,ZF];omega⟩|exact⟨⟨j+1,j+1,ps++ [(s.take j).drop f],by rw[Zs];first|done|rfl,by rw[←QW];first|done|rfl,I.hit ha hj4 hc⟩,by simp[ZK,Ab.get,D.val,ZF];omega⟩|exact⟨⟨f,j+1,ps,rfl,rfl,I.plain hj4 hc1 hc2⟩,by simp[ZK,Ab.get,D.val,ZF];omega⟩
    ·have hc2:s.getD j 0≠a:=nD (by first|exact h2|simpa using h2);refine WI.orderA [0,1,5,6,7] ?_;refine rg tT [0,1,5,6,7] ?_
     first|exact⟨⟨f,j+2,ps,rfl,rfl,I.slash hj4 hc⟩,by simp[ZK,Ab.get,D.val,ZF];omega⟩|exact⟨⟨j+1,j+1,ps++ [(s.take j).drop f],by rw[Zs];first|done|rfl,by rw[←QW];first|done|rfl,I.hit ha hj4 hc⟩,by simp[ZK,Ab.get,D.val,ZF];omega⟩|exact⟨⟨f,j+1,ps,rfl,rfl,I.plain hj4 hc1 hc2⟩,by simp[ZK,Ab.get,D.val,ZF];omega⟩
  ·refine rg tT [4] ?_;refine lf ?_;rw[QW,I.fin (by omega),YN (by simp[rows])]
def ZDg:List D→Option (Bool×D)
 | [.x (.str s),.x (.int .u8 n)]=>some (decide (s.length≤1000000)&&(decide (n=43∨n=44)),.x (.sl (rows ZJ (YQ (UInt8.ofNat n.toNat) s))))
 |_=>none
theorem ZSC: ∀args r,ZDg args=some (true,r)→ZC Tryz.prog 158 args r:=by
 intro args r h;unfold ZDg at h;split at h
 ·rename_i s n;simp only[Zf,Zc,ZW,Zj,true_and]at h;obtain⟨⟨h1,h2⟩,rfl⟩:=h;exact(by rcases h2 with rfl|rfl;exact ZN1 43 (by decide) s h1;exact ZN1 44 (by decide) s h1)
 ·cases h
def ZZR (n:Nat):Bool:=decide (97≤n∧n≤122)||decide (65≤n∧n≤90)
def ZXv (n:Nat):Bool:=decide (48≤n∧n≤57)||decide (n=45)
def tyC (i:Nat) (c:UInt8):Bool:=ZZR c.toNat||(decide (0<i)&&ZXv c.toNat)
def tyU (s:List UInt8):Nat→Bool
 |0=>true
 |j+1=>tyU s j&&tyC j (s.getD j 0)
def tyA (s:List UInt8) (j:Nat):Bool:=(decide (s≠ [])&&decide (s.length≤64))&&tyU s j
def JB (s:List UInt8):Bool:=tyA s s.length
theorem ZLI (s:List UInt8):JB s=(decide (1≤s.length∧s.length≤64)&&tyU s s.length):=by
 unfold JB tyA;congr 1;rcases s with _|⟨c,s⟩<;>simp
theorem ZTc (s:List UInt8): ∀(n j:Nat),j<n→tyC j (s.getD j 0)=false→tyU s n=false
 |n+1,j,hj,h=>by
  rw[tyU];by_cases e:j=n
  ·subst e;rw[h,Bool.and_false]
  ·rw[ZTc s n j (by omega) h,Bool.false_and]
theorem Zbb (j:Nat) (c:UInt8):(((decide ((KU c).toNat≥97)&&decide ((KU c).toNat≤122))||(decide (j>0)&&((decide ((KU c).toNat≥48)&&decide ((KU c).toNat≤57))||decide ((KU c).toNat=45)))))=tyC j c:=by
 have h8:=UInt8.toNat_lt c;unfold tyC ZZR ZXv;by_cases h:65≤c.toNat∧c.toNat≤90
 ·have e:(KU c).toNat=c.toNat+32:=by have:=ZIL h;omega
  rw[e,Bool.eq_iff_iff];simp only[Bool.or_eq_true,ZW,Zj];omega
 ·have e:KU c=c:=if_neg h;rw[e,Bool.eq_iff_iff];simp only[Bool.or_eq_true,ZW,Zj];omega
theorem ZQ7 (s:List UInt8):(!s== []&&decide ((s.length:Int)≤64))=tyA s 0:=by
 unfold tyA;rw[tyU,Bool.and_true,Bool.eq_iff_iff];simp;omega
theorem ZQj (s:List UInt8) (j:Nat):(tyA s j&&(decide (((KU (s.getD j 0)).toNat:Int)≥97)&&decide (((KU (s.getD j 0)).toNat:Int)≤122)||decide ((j:Int)>0)&&(decide (((KU (s.getD j 0)).toNat:Int)≥48)&&decide (((KU (s.getD j 0)).toNat:Int)≤57)||((KU (s.getD j 0)).toNat:Int)==45)))=tyA s (j+1):=by
 have h:=Zbb j (s.getD j 0);unfold tyA;rw[tyU,←h,←Bool.and_assoc];congr 1;rw[Bool.eq_iff_iff];simp only[Bool.or_eq_true,ZW,Zj,beq_iff_eq];omega
theorem ZQs (s:List UInt8) (i:Nat) (h:i<s.length):((ZD s).map Zk)[i]? =some [X.int .u8 (KU (s.getD i 0)).toNat]:=by
 simp[ZD,h,Zk]
def ZKa:Tabs:=ZY (ZV) 37 ZAN
theorem ZLb:SsOk Tryz.prog ZKa:=ZL (ZG) (ZB ZH (p:=i37) rfl) ZMG
theorem ZKV (a:List D):ZKa.q 37 a=ZAN a:=rfl
theorem ZMl (f:FuncId) (a:List D) (o:List Ob):ZKa.r f a o=none:=rfl
theorem ZM5 (f:FuncId) (a:List D) (o:List Ob):ZKa.k f a o=none:=rfl
theorem ZTg (j:Nat) (c:UInt8):tyC j c=((decide (((c.toNat:Int))≥97)&&decide ((c.toNat:Int)≤122)||decide ((c.toNat:Int)≥65)&&decide ((c.toNat:Int)≤90))||(decide ((j:Int)≠0)&&(decide ((c.toNat:Int)≥48)&&decide ((c.toNat:Int)≤57)||decide ((c.toNat:Int)=45)))):=by
 unfold tyC ZZR ZXv;rw[Bool.eq_iff_iff];simp only[Bool.or_eq_true,ZW,Zj];omega
theorem ZbV (s:List UInt8) (hl:s.length≤1000000):ZC Tryz.prog 115 [.x (.str s)] (.x (.bool (JB s))):=by
 refine ZN.pure (ZP (fz:=true) ZH (p:=ZNX) rfl _ (ξ rfl) _ (fun C0 E0=> ?_)) rfl;dsimp only[ZNX,qt,qi,qs,qb,qm,qa,qh,qj,qT,qF,qe,ql,qL,qf,q2,q3,q8,qz,qp,qP,qc,qk,qx,qy,qo,qr,qC,ZQ];have uu:=trivial;have tT:=(ZG:SsOk Tryz.prog ZV);refine nz ?_;refine rg tT [0] ?_;refine rg tT [0,3] ?_;refine WI.loop (fun φ os=> ∃(j:Nat),φ= [(0,.x (.str s)),(3,.x (.int .i64 j))]∧os= []∧j≤s.length∧tyU s j=true) (ZK s.length 3) ?_ (fun φ os hI=> ?_)
 ·exact⟨0,rfl,rfl,by omega,rfl⟩
 ·obtain⟨j,rfl,rfl,hj,hu⟩:=hI;refine nz ?_;refine rg tT [0,3,9] ?_;refine cd (fun h0=> ?_) (fun h0=> ?_)
  ·refine rg tT [0,3,4] ?_;refine rg tT [0,3,4,5] ?_;refine rg tT [0,3,47] ?_;refine cd (fun h1=> ?_) (fun h1=> ?_)
   ·have hc:tyC j (s.getD j 0)=false:=by rw[ZTg];grind
    refine rg tT [2] ?_;refine lf ?_;rw[ZLI,ZTc s s.length j (by omega) hc,Bool.and_false]
   ·have hc:tyC j (s.getD j 0)=true:=by rw[ZTg];grind
    refine rg tT [0,3] ?_;exact⟨⟨j+1,rfl,rfl,by omega,by rw[tyU,hu,hc];rfl⟩,by simp[ZK,Ab.get,D.val,ZF];omega⟩
  ·refine rg tT [2] ?_;refine lf ?_;rw[ZLI,show s.length=j by omega,hu,Bool.and_true];congr 2;rw[Bool.eq_iff_iff];simp;omega
def ZBI:List D→Option (Bool×D)
 | [.x (.str s)]=>some (decide (s.length≤1000000),.x (.bool (JB s)))
 |_=>none
theorem ZMX: ∀args r,ZBI args=some (true,r)→ZC Tryz.prog 115 args r:=by
 intro args r h;unfold ZBI at h;split at h
 ·rename_i s;simp only[Zf,Zc,ZW,Zj,true_and]at h;obtain⟨h1,rfl⟩:=h;exact(ZbV s h1)
 ·cases h
theorem ZXd (s:List UInt8) (hl:s.length≤1000000):ZC Tryz.prog 208 [.x (.str s)] (.x (.bool (JB s))):=by
 refine ZN.pure (ZP (fz:=true) ZH (p:=ZNu) rfl _ (ξ rfl) _ (fun C0 E0=> ?_)) rfl;dsimp only[ZNu,qt,qi,qs,qb,qm,qa,qh,qj,qT,qF,qe,ql,qL,qf,q2,q3,q8,qz,qp,qP,qc,qk,qx,qy,qo,qr,qC,ZQ];have uu:=ZA @ZAN.eq_1 (ZA @ZAN.eq_2 (ZA @ZDx (ZA @YX (ZA @Jn (ZA @ZMl (ZA @ZM5 (@ZKV)))))));have tT:=ZLb;refine nz ?_;refine rg tT [0] ?_;refine rg tT [0,3] ?_;refine rg tT [3,16,17,18] ?_;refine WI.loop (fun φ os=> ∃(j:Nat),φ= [(3,.x (.bool (tyA s j))),(16,.ref 0 s.length 0 s.length),(17,.x (.int .i64 s.length)),(18,.x (.int .i64 j))]∧os= [.rows true 5 1 ((ZD s).map Zk)]∧j≤s.length) (ZK s.length 18) ?_ (fun φ os hI=> ?_)
 ·exact⟨0,by rw[←ZQ7];rfl,rfl,by omega⟩
 ·obtain⟨j,rfl,rfl,hj⟩:=hI;refine nz ?_;refine rg tT [3,16,17,18,19] ?_;refine cd (fun h0=> ?_) (fun h0=> ?_)
  ·have hj4:j<s.length:=by omega
   have uu:=ZA uu (ZQs s j hj4);refine rg tT [3,4,5,16,17,18] ?_;refine rg tT [3,4,5,6,16,17,18] ?_;refine rg tT [3,16,17,18] ?_;refine rg tT [3,16,17,18] ?_;exact⟨⟨j+1,by rw[←ZQj];rfl,rfl,by omega⟩,by simp[ZK,Ab.get,D.val,ZF];omega⟩
  ·refine rg tT [2] ?_;refine lf ?_;rw[show JB s=tyA s j from by rw[show j=s.length by omega];rfl]
def QI:List D→Option (Bool×D)
 | [.x (.str s)]=>some (decide (s.length≤1000000),.x (.bool (JB s)))
 |_=>none
theorem ZJ8: ∀args r,QI args=some (true,r)→ZC Tryz.prog 208 args r:=by
 intro args r h;unfold QI at h;split at h
 ·rename_i s;simp only[Zf,Zc,ZW,Zj,true_and]at h;obtain⟨h1,rfl⟩:=h;exact(ZXd s h1)
 ·cases h
theorem ZZe (s:List UInt8) (hl:s.length≤1000000):ZC Tryz.prog 114 [.x (.str s)] (.x (.bool (JB s))):=by
 refine ZN.pure (ZP (fz:=true) ZH (p:=ZRk) rfl _ (ξ rfl) _ (fun C0 E0=> ?_)) rfl;dsimp only[ZRk,qt,qi,qs,qb,qm,qa,qh,qj,qT,qF,qe,ql,qL,qf,q2,q3,q8,qz,qp,qP,qc,qk,qx,qy,qo,qr,qC,ZQ];have uu:=ZA @ZAN.eq_1 (ZA @ZAN.eq_2 (ZA @ZDx (ZA @YX (ZA @Jn (ZA @ZMl (ZA @ZM5 (@ZKV)))))));have tT:=ZLb;refine nz ?_;refine rg tT [0] ?_;refine rg tT [0,3] ?_;refine rg tT [3,16,17,18] ?_;refine WI.loop (fun φ os=> ∃(j:Nat),φ= [(3,.x (.bool (tyA s j))),(16,.ref 0 s.length 0 s.length),(17,.x (.int .i64 s.length)),(18,.x (.int .i64 j))]∧os= [.rows true 5 1 ((ZD s).map Zk)]∧j≤s.length) (ZK s.length 18) ?_ (fun φ os hI=> ?_)
 ·exact⟨0,by rw[←ZQ7];rfl,rfl,by omega⟩
 ·obtain⟨j,rfl,rfl,hj⟩:=hI;refine nz ?_;refine rg tT [3,16,17,18,19] ?_;refine cd (fun h0=> ?_) (fun h0=> ?_)
  ·have hj4:j<s.length:=by omega
   have uu:=ZA uu (ZQs s j hj4);refine rg tT [3,4,5,16,17,18] ?_;refine rg tT [3,4,5,6,16,17,18] ?_;refine rg tT [3,16,17,18] ?_;refine rg tT [3,16,17,18] ?_;exact⟨⟨j+1,by rw[←ZQj];rfl,rfl,by omega⟩,by simp[ZK,Ab.get,D.val,ZF];omega⟩
  ·refine rg tT [2] ?_;refine lf ?_;rw[show JB s=tyA s j from by rw[show j=s.length by omega];rfl]
def ZBv:List D→Option (Bool×D)
 | [.x (.str s)]=>some (decide (s.length≤1000000),.x (.bool (JB s)))
 |_=>none
theorem ZS8: ∀args r,ZBv args=some (true,r)→ZC Tryz.prog 114 args r:=by
 intro args r h;unfold ZBv at h;split at h
 ·rename_i s;simp only[Zf,Zc,ZW,Zj,true_and]at h;obtain⟨h1,rfl⟩:=h;exact(ZZe s h1)
 ·cases h
end Go.Proofs.YtpjfdjcejamebaaGreatDoor
end
section
namespace Go.Proofs
open Go.Shelf Go.RowKit Go.Lib
variable {P:Program} {ρ:Ren}
set_option maxHeartbeats 2000000 in
set_option maxRecDepth 100000 in
theorem Any1.stringslite_Cut_one (L:Lays.n220 P ρ) (s:ByteArray) (b:UInt8) (w:World) (hs:s.size<4294967281):
  Calls P (ρ.f 220) #[.string s,.string ⟨#[b]⟩] w fun e w'=>e= .returned (.tuple #[.string ⟨(Lib.cut s.data.toList [b]).1.toArray⟩,.string ⟨(Lib.cut s.data.toList [b]).2.1.toArray⟩,.bool (Lib.cut s.data.toList [b]).2.2])∧ ∃n,w'=w.drewN n:=by
 rcases Lib.indexB_cases s ⟨#[b]⟩with hix|⟨i,hix,hroom⟩
 ·obtain⟨e1,e2,e3⟩:=Lib.cutB_miss s ⟨#[b]⟩ hix;rw[show [b]=(⟨#[b]⟩:ByteArray).data.toList from rfl,e1,e2,e3];have t3:=L.t3;have t4:=L.t4;have t9:=L.t9;have a3: ∀w,(isAgg (ρ.t 3)).run P w= .ok false w:=run_isAgg_plain L.t3 rfl;have a4: ∀w,(isAgg (ρ.t 4)).run P w= .ok false w:=run_isAgg_plain L.t4 rfl;have a9: ∀w,(isAgg (ρ.t 9)).run P w= .ok false w:=run_isAgg_plain L.t9 rfl;have e219: ∀args w,(callFunc (ρ.f 219) args).run P w= .ok (.enter (ρ.f 219) args) w:=enters_of L.f219 (by kernel_rfl) rfl;have mixed:=L.mixed;have z3:=L.z3;have v3:=L.v3;have z4:=L.z4;have v4:=L.v4;have z9:=L.z9;have v9:=L.v9
  go_enter L.f220,Body.n220_ntmps ρ
  go_wp2_with (go_at_fn (ρ.f 219);refine(Any.stringslite_Index_one {L with} _ _ _).mono ?_;rintro e w' ⟨rfl,rfl⟩;rw[←Lib.index_one,show Lib.index s.data.toList [b]=_ from hix])
  go_ret3
  exact⟨rfl,0,rfl⟩
 ·obtain⟨e1,e2,e3⟩:=Lib.cutB_hit s ⟨#[b]⟩ i hix;rw[show [b]=(⟨#[b]⟩:ByteArray).data.toList from rfl,e1,e2,e3];have hb1:(⟨#[b]⟩:ByteArray).size=1:=rfl;have c1:(0:Int)≤ ↑i:=by omega
  have c2:(↑i:Int)≤ ↑s.size:=by omega
  have c3:(0:Int)≤ ↑i+1:=by omega
  have c4:(↑i+1:Int)≤ ↑s.size:=by omega
  have t3:=L.t3;have t4:=L.t4;have t9:=L.t9;have a3: ∀w,(isAgg (ρ.t 3)).run P w= .ok false w:=run_isAgg_plain L.t3 rfl;have a4: ∀w,(isAgg (ρ.t 4)).run P w= .ok false w:=run_isAgg_plain L.t4 rfl;have a9: ∀w,(isAgg (ρ.t 9)).run P w= .ok false w:=run_isAgg_plain L.t9 rfl;have e219: ∀args w,(callFunc (ρ.f 219) args).run P w= .ok (.enter (ρ.f 219) args) w:=enters_of L.f219 (by kernel_rfl) rfl;have mixed:=L.mixed;have z3:=L.z3;have v3:=L.v3;have z4:=L.z4;have v4:=L.v4;have z9:=L.z9;have v9:=L.v9
  go_enter L.f220,Body.n220_ntmps ρ
  go_wp2_with (go_at_fn (ρ.f 219);refine(Any.stringslite_Index_one {L with} _ _ _).mono ?_;rintro e w' ⟨rfl,rfl⟩;rw[←Lib.index_one,show Lib.index s.data.toList [b]=_ from hix])
  go_region_o
  go_wp2
  go_ret3
  exact⟨rfl,1,rfl⟩
set_option maxHeartbeats 1000000 in
theorem Any1.strings_Cut_one (L:Lays.n145 P ρ) (s:ByteArray) (b:UInt8) (w:World) (hs:s.size<4294967281):
  Calls P (ρ.f 145) #[.string s,.string ⟨#[b]⟩] w fun e w'=>e= .returned (.tuple #[.string ⟨(Lib.cut s.data.toList [b]).1.toArray⟩,.string ⟨(Lib.cut s.data.toList [b]).2.1.toArray⟩,.bool (Lib.cut s.data.toList [b]).2.2])∧ ∃n,w'=w.drewN n:=by
 have t4:=L.t4;have t9:=L.t9;have t59:=L.t59;have a4: ∀w,(isAgg (ρ.t 4)).run P w= .ok false w:=run_isAgg_plain L.t4 rfl;have a9: ∀w,(isAgg (ρ.t 9)).run P w= .ok false w:=run_isAgg_plain L.t9 rfl;have a59: ∀w,(isAgg (ρ.t 59)).run P w= .ok false w:=run_isAgg_plain L.t59 rfl;have e220: ∀args w,(callFunc (ρ.f 220) args).run P w= .ok (.enter (ρ.f 220) args) w:=enters_of L.f220 (by kernel_rfl) rfl;have mixed:=L.mixed;have z4:=L.z4;have v4:=L.v4;have z9:=L.z9;have v9:=L.v9;have z59:=L.z59;have v59:=L.v59
 go_enter L.f145,Body.n145_ntmps ρ
 go_wp2_with (go_at_fn (ρ.f 220);refine(Any1.stringslite_Cut_one {L with} _ _ _ hs).mono ?_;rintro e w' ⟨rfl,n,rfl⟩)
 go_ret3
 exact⟨rfl,n,rfl⟩
end Go.Proofs
namespace Go.Proofs.YtpjfdjcejamebaaGreatDoor
open Go.RowKit Go.Bo Go.Ab
def Jx (c:UInt8):List UInt8→List UInt8×List UInt8×Bool
 | []=>([],[],false)
 |b::l=>if b=c then([],l,true)else(b::(Jx c l).1,(Jx c l).2.1,(Jx c l).2.2)
theorem ZQN (c:UInt8): ∀s,Lib.cut s [c]=Jx c s
 | []=>by simp[Lib.cut,Jx,Lib.index]
 |b::l=>by
  have ih:=ZQN c l;unfold Lib.cut at ih⊢;by_cases h:b=c
  ·subst h;have hp: [b].isPrefixOf (b::l)=true:=by simp[List.isPrefixOf]
   simp[Lib.index,hp,Jx]
  ·have hp: [c].isPrefixOf (b::l)=false:=by simp[List.isPrefixOf];exact fun e=>h e.symm
   rw[Jx,if_neg h,←ih];have hn:=Lib.index_ge l [c];by_cases hi:Lib.index l [c]= -1
   ·simp[Lib.index,hp,hi]
   ·obtain⟨n,hn⟩: ∃n:Nat,Lib.index l [c]=n:=⟨(Lib.index l [c]).toNat,by omega⟩;simp only[Lib.index,hp,hn,KR,ξN];simp;omega
theorem Zdv (s:List UInt8) (c:UInt8) (hl:s.length≤1000000):ZC Tryz.prog 206 [.x (.str s),.x (.str [c])] (.tup [.x (.str (Jx c s).1),.x (.str (Jx c s).2.1),.x (.bool (Jx c s).2.2)]):=by
 intro w st vs hst hvl;obtain⟨hsz,hv⟩:=hvl;obtain⟨v0,v1,rfl⟩: ∃v0 v1,vs= #[v0,v1]:=by
  obtain⟨vl⟩:=vs
  match vl,hsz with
  | [a,b],_=>exact⟨a,b,rfl⟩
 have h0:=hv 0 _ v0 rfl rfl;have h1:=hv 1 _ v1 rfl rfl;cases h0 with
 |x h0=>
 cases h1 with
 |x h1=>
 cases h1 with
 |str _=>
 cases h0 with
 |str _=>
 have hbs:(ZZ s).size=s.length:=by simp[ZZ,ByteArray.size]
 refine(Any1.strings_Cut_one Tryz.lays145 (ZZ s) c w (by omega)).mono ?_;rintro e w' ⟨rfl,n,rfl⟩;refine⟨_,st,rfl,⟨rfl,rfl,rfl,by simp[World.drewN],fun _ _ _=>rfl⟩,fun _ _ h=>h,fun _ _ h=> .inl h,?_⟩;have e1:(ZZ s).data.toList=s:=by simp[ZZ]
 rw[e1,ZQN];exact V.tup3 (V.mkstr _ _ _) (V.mkstr _ _ _) (.x (.bool _))
theorem ZTX:Go.Ab.Enters Tryz.prog 206:=Go.Proofs.enters_of Tryz.lays145.f145 (by kernel_rfl) rfl
def cutG:List D→Option (Bool×D)
 | [.x (.str s),.x (.str [c])]=>some (decide (s.length≤1000000),.tup [.x (.str (Jx c s).1),.x (.str (Jx c s).2.1),.x (.bool (Jx c s).2.2)])
 |_=>none
theorem Zb8: ∀args r,cutG args=some (true,r)→ZC Tryz.prog 206 args r:=by
 intro args r h;unfold cutG at h;split at h
 ·rename_i s c;simp only[Zf,Zc,ZW,Zj,true_and]at h;obtain⟨h1,rfl⟩:=h;exact(Zdv s c h1)
 ·cases h
abbrev Av:=Tx×Tx
def Zm:RC Av:=⟨2,fun p=> [.str p.1,.str p.2],fun
 | [.str a,.str b]=>some (a,b)
 |_=>none⟩
theorem ZDF:Zm.Good:=⟨fun _=>rfl,fun _=>rfl,fun r x h=>by
 simp only[Zm]at h;split at h
 ·cases h;rfl
 ·cases h⟩
abbrev JE:RC (List Av):=rSl Zm
theorem ZC7:JE.Good:=ZCc ZDF
theorem ZKu (l:List Av):Zg Zm (rows Zm l)=some l:=JS ZDF l
theorem ZHB (l:List (List Av)):Zg JE (rows JE l)=some l:=JS ZC7 l
theorem ZGN (l:List Av) (a b:Tx):rows Zm l++ [[X.str a,X.str b]]=rows Zm (l++ [(a,b)]):=by simp[rows,Zm]
theorem ZF4 (l:List (List Av)) (x:List Av):rows JE l++ [[X.sl (rows Zm x)]]=rows JE (l++ [x]):=by simp[rows,JE,rSl]
def Yg (s:Tx):Av×Bool:=
 if(Jx 61 s).2.2=false∨JB (ZED (Jx 61 s).1)=false then(([],[]),false)
 else((ZED (Jx 61 s).1,(ZE2 (Jx 61 s).2.1).1),(ZE2 (Jx 61 s).2.1).2)
theorem ZHy (c:UInt8): ∀s,(Jx c s).1.length≤s.length∧(Jx c s).2.1.length≤s.length
 | []=>by simp[Jx]
 |b::l=>by
  obtain⟨h1,h2⟩:=ZHy c l;unfold Jx;split
  ·simp
  ·simp;omega
theorem ZI4 (s:Tx):(ZED s).length≤s.length:=Nat.le_trans (ZLB _) (ZRF _)
def ZEC:Tabs:=ZY (ZY (ZY (ZY (ZV) 206 cutG) 207 ZIV) 208 QI) 209 ZIO
theorem ZT3:SsOk Tryz.prog ZEC:=ZL (ZL (ZL (ZL (ZG) ZTX Zb8) (ZB ZH (p:=ZTM) rfl) ZX8) (ZB ZH (p:=ZNu) rfl) ZJ8) (ZB ZH (p:=ZSc) rfl) ZZQ
theorem ZPV (a:List D):ZEC.q 206 a=cutG a:=rfl
theorem ZO9 (a:List D):ZEC.q 207 a=ZIV a:=rfl
theorem ZPE (a:List D):ZEC.q 208 a=QI a:=rfl
theorem ZPL (a:List D):ZEC.q 209 a=ZIO a:=rfl
theorem ZXp (f:FuncId) (a:List D) (o:List Ob):ZEC.r f a o=none:=rfl
theorem ZYJ (f:FuncId) (a:List D) (o:List Ob):ZEC.k f a o=none:=rfl
theorem Zbr (s:Tx) (hl:s.length≤900000):ZC Tryz.prog 187 [.x (.str s)] (.tup [.agg [.x (.str (Yg s).1.1),.x (.str (Yg s).1.2)],.x (.bool (Yg s).2)]):=by
 have h1:=ZHy 61 s;have h2:=ZI4 (Jx 61 s).1;rcases hq:Yg s with⟨⟨a,v⟩,ok⟩
 unfold Yg at hq;refine ZN.pure (ZP (fz:=true) ZH (p:=ZRc) rfl _ (ξ rfl) _ (fun C0 E0=> ?_)) rfl;dsimp only[ZRc,qt,qi,qs,qb,qm,qa,qh,qj,qT,qF,qe,ql,qL,qf,q2,q3,q8,qz,qp,qP,qc,qk,qx,qy,qo,qr,qC,ZQ];have uu:=ZA @cutG.eq_1 (ZA @cutG.eq_2 (ZA @ZIV.eq_1 (ZA @ZIV.eq_2 (ZA @QI.eq_1 (ZA @QI.eq_2 (ZA @ZIO.eq_1 (ZA @ZIO.eq_2 (ZA @ZXp (ZA @ZYJ (ZA @ZPV (ZA @ZO9 (ZA @ZPE (@ZPL)))))))))))));have tT:=ZT3;refine nz ?_;refine rg tT [0,2] ?_;refine rg tT [2,4,5,6] ?_;refine rg tT [2,4,5,6] ?_;refine rg tT [2,4,5,22] ?_;refine cd (fun h0=> ?_) (fun h0=> ?_)
 ·refine rg tT [2,3] ?_;refine lf ?_;rw[if_pos (by clear uu;grind)]at hq;cases hq;rfl
 ·refine rg tT [2,4,6,7] ?_;refine rg tT [2,3] ?_;refine lf ?_;rw[if_neg (by clear uu;grind)]at hq;cases hq;rfl
def ZC4:List D→Option (Bool×D)
 | [.x (.str s)]=>some (decide (s.length≤900000),.tup [.agg [.x (.str (Yg s).1.1),.x (.str (Yg s).1.2)],.x (.bool (Yg s).2)])
 |_=>none
theorem ZUZ: ∀args r,ZC4 args=some (true,r)→ZC Tryz.prog 187 args r:=by
 intro args r h;unfold ZC4 at h;split at h
 ·rename_i s;simp only[Zf,Zc,ZW,Zj,true_and]at h;obtain⟨h1,rfl⟩:=h;exact(Zbr s h1)
 ·cases h
theorem ZYj (s:Tx):ZE2 s=((ZEx s).1,(ZEx s).2&& !((ZEx s).1== [])):=by
 have key: ∀(n:Nat) (r b:Tx) (e:Nat) (x:Tx×Nat),e≤b.length→Jl n r b e=some x→x.2≤x.1.length:=by
  intro n
  induction n with
  |zero=>intro r b e x _ h;cases h
  |succ n ih=>
   intro r b e x he h;rcases r with _|⟨c,r⟩
   ·rw[Jl]at h;cases h;exact he
   ·rw[Jl]at h;split at h
    ·split at h
     ·exact ih _ _ _ _ (by simp) h
     ·cases h
    ·split at h
     ·cases h
     ·split at h
      ·exact ih _ _ _ _ (by simp;omega) h
      ·exact ih _ _ _ _ (by simp) h
 unfold ZE2 ZEx;split
 ·rfl
 ·rename_i b e h;have hk:=key _ _ _ _ _ (by simp) h;simp only at hk;rw[Bool.true_and];congr 1;rcases b with _|⟨c,b⟩
  ·simp at hk;simp;omega
  ·rcases e with _|e
   ·simp
   ·simp
def eqI:Tx→Nat
 | []=>0
 |c::s=>if c=61 then 0 else eqI s+1
theorem ZQB: ∀s:Tx,(eqI s=s.length→Jx 61 s=(s,[],false))∧(eqI s≠s.length→Jx 61 s=(s.take (eqI s),s.drop (eqI s+1),true))
 | []=>⟨fun _=>rfl,fun h=>absurd rfl h⟩
 |c::s=>by
  obtain⟨h1,h2⟩:=ZQB s;unfold eqI Jx;by_cases h:c=61
  ·rw[if_pos h,if_pos h];simp
  ·rw[if_neg h,if_neg h];refine⟨fun e=> ?_,fun e=> ?_⟩
   ·rw[h1 (by simpa using e)]
   ·rw[h2 (by simpa using e)];simp
theorem ZYL (s:Tx) (j:Nat) (h:j<s.length) (hc:s.getD j 0≠61):j+eqI (s.drop j)=j+1+eqI (s.drop (j+1)):=by
 rw[KE s j h]
 conv=>lhs;unfold eqI
 rw[if_neg hc];omega
theorem ZYc (s:Tx) (j:Nat) (h:j<s.length) (hc:s.getD j 0=61):eqI (s.drop j)=0:=by
 rw[KE s j h,hc];rfl
def ZFm:Tabs:=ZY (ZY (ZY (ZV) 183 ZFi) 115 ZBI) 184 ZIT
theorem ZVI:SsOk Tryz.prog ZFm:=ZL (ZL (ZL (ZG) (ZB ZH (p:=ZRz) rfl) ZW7) (ZB ZH (p:=ZNX) rfl) ZMX) (ZB ZH (p:=ZRq) rfl) ZX2
theorem ZPI (a:List D):ZFm.q 183 a=ZFi a:=rfl
theorem ZP4 (a:List D):ZFm.q 115 a=ZBI a:=rfl
theorem ZPF (a:List D):ZFm.q 184 a=ZIT a:=rfl
theorem ZZd (f:FuncId) (a:List D) (o:List Ob):ZFm.r f a o=none:=rfl
theorem ZYR (f:FuncId) (a:List D) (o:List Ob):ZFm.k f a o=none:=rfl
theorem Zbh (s:Tx) (hl:s.length≤900000):ZC Tryz.prog 159 [.x (.str s)] (.tup [.agg [.x (.str (Yg s).1.1),.x (.str (Yg s).1.2)],.x (.bool (Yg s).2)]):=by
 have hcut:=ZQB s;rcases hq:Yg s with⟨⟨a,v⟩,ok⟩
 unfold Yg at hq;rw[ZYj]at hq;refine ZN.pure (ZP (fz:=true) ZH (p:=ZSu) rfl _ (ξ rfl) _ (fun C0 E0=> ?_)) rfl;dsimp only[ZSu,qt,qi,qs,qb,qm,qa,qh,qj,qT,qF,qe,ql,qL,qf,q2,q3,q8,qz,qp,qP,qc,qk,qx,qy,qo,qr,qC,ZQ];have uu:=ZA @ZFi.eq_1 (ZA @ZFi.eq_2 (ZA @ZBI.eq_1 (ZA @ZBI.eq_2 (ZA @ZIT.eq_1 (ZA @ZIT.eq_2 (ZA @ZZd (ZA @ZYR (ZA @ZP4 (ZA @ZPI (@ZPF))))))))));have tT:=ZVI;refine nz ?_;refine rg tT [0,2] ?_;refine rg tT [0,2,4] ?_;refine WI.loop (fun φ os=> ∃(j:Nat),φ= [(0,.x (.str s)),(2,.ptr 0 0),(4,.x (.int .i64 j))]∧os= [.box [.x (.str []),.x (.str [])]]∧j≤s.length∧eqI s=j+eqI (s.drop j)) (ZK s.length 4) ?_ (fun φ os hI=> ?_)
 ·exact⟨0,rfl,rfl,by omega,by simp⟩
 ·obtain⟨j,rfl,rfl,hj,hat⟩:=hI;refine nz ?_;refine rg tT [0,2,4,16] ?_;refine cd (fun h0=> ?_) (fun h0=> ?_)
  ·have hj4:j<s.length:=by clear uu;grind
   have hst:=ZYL s j hj4 (neD (k:=61) (by decide) (by clear uu;grind));refine rg tT [0,2,4] ?_;exact⟨⟨j+1,rfl,rfl,by omega,by rw[hat,hst]⟩,by simp[ZK,Ab.get,D.val,ZF];omega⟩
  ·have hej:eqI s=j:=by
    by_cases hj4:j<s.length
    ·rw[hat,ZYc s j hj4 (cD (a:=61) (by clear uu;show((s.getD j 0).toNat:Int)=61;grind))];rfl
    ·rw[hat,List.drop_of_length_le (by omega)];rfl
   clear hat;rw[hej]at hcut;have e1:((j:Int)+1).toNat=j+1:=by omega
   have hl1:decide ((s.take j).length≤1000000)=true:=ZM (by rw[List.length_take];omega);have htl:=ZI4 (s.take j);have hl2:decide ((ZED (s.take j)).length≤1000000)=true:=ZM (by rw[List.length_take]at htl;omega);have hl3:decide ((s.drop (j+1)).length≤900000)=true:=ZM (by rw[List.length_drop];omega);have uu:=ZA uu (ZA e1 (ZA hl1 (ZA hl2 hl3)));refine rg tT [0,2,4,30] ?_;refine cd (fun h1=> ?_) (fun h1=> ?_)
   ·refine rg tT [2,3] ?_;refine lf ?_;have h3:(Jx 61 s).2.2=false∨JB (ZED (Jx 61 s).1)=false:=by
     by_cases hz:j=s.length
     ·rw[hcut.1 hz];exact .inl rfl
     ·rw[hcut.2 hz];right;clear uu;grind
    rw[if_pos h3]at hq;cases hq;rfl
   ·refine rg tT [0,2,4,5,6] ?_;refine rg tT [2,3] ?_;refine lf ?_;have hz:j≠s.length:=by clear uu;grind
    rw[hcut.2 hz]at hq;rw[if_neg (by clear uu;grind)]at hq;cases hq;rfl
def ZFR:List D→Option (Bool×D)
 | [.x (.str s)]=>some (decide (s.length≤900000),.tup [.agg [.x (.str (Yg s).1.1),.x (.str (Yg s).1.2)],.x (.bool (Yg s).2)])
 |_=>none
theorem ZUj: ∀args r,ZFR args=some (true,r)→ZC Tryz.prog 159 args r:=by
 intro args r h;unfold ZFR at h;split at h
 ·rename_i s;simp only[Zf,Zc,ZW,Zj,true_and]at h;obtain⟨h1,rfl⟩:=h;exact(Zbh s h1)
 ·cases h
theorem ZRM (p:Tx) (l:List Tx) (n:Nat) (h: ∀x∈l,x.length+p.length≤n) (hp:p.length≤n): ∀x∈pre p l,x.length≤n:=by
 rcases l with _|⟨y,l⟩
 ·intro x hx;simp[pre]at hx;subst hx;exact hp
 ·intro x hx;simp only[pre,List.mem_cons]at hx;rcases hx with rfl|hx
  ·have:=h y (by simp);simp;omega
  ·have:=h x (by simp[hx]);omega
theorem ZQP (p:Tx) (l:List Tx) (n:Nat) (h:l.length≤n) (h1:1≤n):(pre p l).length≤n:=by
 rcases l with _|⟨y,l⟩
 ·exact h1
 ·exact h
theorem Zd1 {a c:UInt8} {r:Tx} (h1:c≠92) (h2:c=a):YQ a (c::r)= []::YQ a r:=by
 conv=>lhs;unfold YQ
 rw[if_neg h1,if_pos h2]
theorem ZeF {a c:UInt8} {r:Tx} (h1:c≠92) (h2:c≠a):YQ a (c::r)=pre [c] (YQ a r):=by
 conv=>lhs;unfold YQ
 rw[if_neg h1,if_neg h2]
theorem Qj (a:UInt8): ∀(n:Nat) (s:Tx),s.length≤n→(∀x∈YQ a s,x.length≤s.length)∧(YQ a s).length≤s.length+1
 |_,[],_=>by simp[YQ]
 |n+1,c::r,hn=>by
  have hn':r.length≤n:=by simpa using hn
  by_cases h1:c=92
  ·rcases r with _|⟨d,r⟩
   ·subst h1;simp[YQ]
   ·obtain⟨h2,h3⟩:=Qj a n r (by simp at hn';omega);have e:YQ a (c::d::r)=pre [c,d] (YQ a r):=by subst h1;rfl
    rw[e];exact⟨ZRM _ _ _ (fun x hx=>by have:=h2 x hx;simp;omega) (by simp),ZQP _ _ _ (by simp;omega) (by simp)⟩
  ·obtain⟨h2,h3⟩:=Qj a n r hn';by_cases h4:c=a
   ·have e:YQ a (c::r)= []::YQ a r:=Zd1 h1 h4;rw[e];refine⟨fun x hx=> ?_,by simp;omega⟩;rcases List.mem_cons.1 hx with rfl|hx
    ·simp
    ·have:=h2 x hx;simp;omega
   ·have e:YQ a (c::r)=pre [c] (YQ a r):=ZeF h1 h4;rw[e];exact⟨ZRM _ _ _ (fun x hx=>by have:=h2 x hx;simp;omega) (by simp),ZQP _ _ _ (by simp;omega) (by simp)⟩
def ZEn (s:Tx):List (Av×Bool):=(YQ 43 s).map Yg
def Zl (s:Tx):List Av×Bool:=if(ZEn s).all (·.2)=true then((ZEn s).map (·.1),true)else([],false)
theorem Ze {α:Type} (p:α→Bool) (l:List α) (j:Nat) (h:j<l.length) (hp:p l[j]=false):l.all p=false:=by
 rw[Bool.eq_false_iff];intro hh;have:=List.all_eq_true.1 hh l[j] (List.getElem_mem h);rw[hp]at this;cases this
theorem YJ {α:Type} (p:α→Bool) (l:List α) (j:Nat) (h:j<l.length):(l.take (j+1)).all p=((l.take j).all p&&p l[j]):=by
 rw[List.take_succ_eq_append_getElem h,List.all_append];simp
def ZHp:Tabs:=ZY (ZY (ZV) 166 KC) 187 ZC4
theorem ZMU:SsOk Tryz.prog ZHp:=ZL (ZL (ZG) (ZB ZH (p:=ZLC) rfl) ZGm) (ZB ZH (p:=ZRc) rfl) ZUZ
theorem ZIm (a:List D):ZHp.q 166 a=KC a:=rfl
theorem ZIw (a:List D):ZHp.q 187 a=ZC4 a:=rfl
theorem ZOt (f:FuncId) (a:List D) (o:List Ob):ZHp.r f a o=none:=rfl
theorem ZMt (f:FuncId) (a:List D) (o:List Ob):ZHp.k f a o=none:=rfl
theorem Zbp (s:Tx) (hl:s.length≤900000):ZC Tryz.prog 167 [.x (.str s)] (.tup [.x (.sl (rows Zm (Zl s).1)),.x (.bool (Zl s).2)]):=by
 obtain⟨hb1,hb2⟩:=Qj 43 _ s (Nat.le_refl _);rcases hq:Zl s with⟨d,ok⟩
 unfold Zl ZEn at hq;have hsp:YQ (UInt8.ofNat (43:Int).toNat) s=YQ 43 s:=rfl;refine ZN.pure (ZP (fz:=true) ZH (p:=ZJN) rfl _ (ξ rfl) _ (fun C0 E0=> ?_)) rfl;dsimp only[ZJN,qt,qi,qs,qb,qm,qa,qh,qj,qT,qF,qe,ql,qL,qf,q2,q3,q8,qz,qp,qP,qc,qk,qx,qy,qo,qr,qC,ZQ];have uu:=ZA @KC.eq_1 (ZA @KC.eq_2 (ZA @ZC4.eq_1 (ZA @ZC4.eq_2 (ZA hsp (ZA @ZOt (ZA @ZMt (ZA @ZIm (@ZIw))))))));have tT:=ZMU;refine nz ?_;refine rg tT [0] ?_;refine rg tT [0,4] ?_;refine rg tT [4,10,11,12] ?_;refine WI.ownA 4 161 2 ?_;generalize YQ 43 s=l at hq hb1 hb2⊢;refine WI.loop (fun φ os=> ∃(j:Nat),φ= [(4,.ref 0 j 0 j),(10,.x (.sl (rows ZJ l))),(11,.x (.int .i64 l.length)),(12,.x (.int .i64 j))]∧os= [.rows false 161 2 (rows Zm ((l.take j).map fun x=>(Yg x).1))]∧j≤l.length∧(l.take j).all (fun x=>(Yg x).2)=true) (ZK l.length 12) ?_ (fun φ os hI=> ?_)
 ·exact⟨0,rfl,rfl,by omega,rfl⟩
 ·obtain⟨j,rfl,rfl,hj,hall⟩:=hI;refine nz ?_;refine rg tT [4,10,11,12,13] ?_;refine cd (fun h0=> ?_) (fun h0=> ?_)
  ·have hj4:j<l.length:=by omega
   have hbj:=hb1 _ (List.getElem_mem hj4);have hsc:decide (l[j].length≤900000)=true:=ZM (by omega);have uu:=ZA uu hsc;refine rg tT [4,6,10,11,12] ?_;refine rg tT [4,7,8,10,11,12] ?_;refine rg tT [4,7,10,11,12,22] ?_;refine cd (fun h1=> ?_) (fun h1=> ?_)
   ·have hf:(l.map Yg).all (·.2)=false:=by rw[List.all_map];exact Ze _ l j hj4 (by simpa using h1)
    rw[if_neg (by rw[hf];decide)]at hq;refine rg tT [2,3] ?_;refine WI.nnA ?_;refine lf ?_;cases hq;rfl
   ·refine rgp tT [4,10,11,12] ?_;refine JA [0] ?_;refine Je ?_;refine nz ?_;refine WI.orderA [4,10,11,12] ?_;refine rg tT [4,10,11,12] ?_;exact⟨⟨j+1,rfl,by rw[List.take_succ_eq_append_getElem hj4,List.map_append,List.map_singleton,←ZGN],by omega,by rw[YJ _ l j hj4,hall];simpa using h1⟩,by simp[ZK,Ab.get,D.val,ZF];omega⟩
  ·have e1:(rows Zm ((l.take j).map fun x=>(Yg x).1)).length=j:=by simp[rows];omega
   have e2:(l.take j).length=j:=by simp;omega
   have uu:=ZA uu (ZA e1 e2);refine rg tT [2,3] ?_;refine WI.nnA ?_;refine lf ?_;have hf:(l.map Yg).all (·.2)=true:=by rw[List.all_map];rw[YN (by omega)]at hall;exact hall
   rw[if_pos hf]at hq;cases hq;rw[YN (l:=l) (by omega),YN (by simp[rows];omega),List.map_map];rfl
def ZFa:List D→Option (Bool×D)
 | [.x (.str s)]=>some (decide (s.length≤900000),.tup [.x (.sl (rows Zm (Zl s).1)),.x (.bool (Zl s).2)])
 |_=>none
theorem ZVE: ∀args r,ZFa args=some (true,r)→ZC Tryz.prog 167 args r:=by
 intro args r h;unfold ZFa at h;split at h
 ·rename_i s;simp only[Zf,Zc,ZW,Zj,true_and]at h;obtain⟨h1,rfl⟩:=h;exact(Zbp s h1)
 ·cases h
def KL (r:List Av):List Tx:=r.map fun p=>ZD p.1
def Kq (r:List Av) (j:Nat):Bool:=JB (r.getD j ([],[])).1&&(!((r.getD j ([],[])).2== [])&&(decide ((r.getD j ([],[])).2.length≤256)&& !decide (ZD (r.getD j ([],[])).1∈KL (r.take j))))
def okP (r:List Av):Nat→Bool
 |0=>true
 |j+1=>okP r j&&Kq r j
def Yn (r:List Av):Bool:=okP r r.length&&decide (1≤r.length∧r.length≤8)
theorem ZEM (r:List Av): ∀(n j:Nat),j<n→Kq r j=false→okP r n=false
 |n+1,j,hj,h=>by
  rw[okP];by_cases e:j=n
  ·subst e;rw[h,Bool.and_false]
  ·rw[ZEM r n j (by omega) h,Bool.false_and]
def ZAf (r:List Av) (j:Nat):List (Tx×Int):=(r.take j).map fun p=>(ZD p.1,(1:Int))
theorem ZK2: ∀(l:List Av) (k:Tx),ZR (l.map fun p=>(ZD p.1,(1:Int))) k=if k∈KL l then some 1 else none
 | [],k=>by simp[KL,ZR]
 |p::l,k=>by
  have ih:=ZK2 l k;by_cases h:k=ZD p.1
  ·simp[ZR,h,KL]
  ·have e:(k∈KL (p::l))=(k∈KL l):=by simp[KL,h]
   have e2:ZR ((p::l).map fun p=>(ZD p.1,(1:Int))) k=ZR (l.map fun p=>(ZD p.1,(1:Int))) k:=by simp[ZR,h]
   rw[e2,ih];simp only[e]
theorem ZOs (r:List Av) (j:Nat) (h:j<r.length) (hn:ZD (r.getD j ([],[])).1∉KL (r.take j)):JN (ZAf r j) (ZD (r.getD j ([],[])).1) 1=ZAf r (j+1):=by
 unfold ZAf;rw[ZGF (by rw[ZK2,if_neg hn]),List.take_succ_eq_append_getElem h,List.map_append];simp[h]
theorem ZOY (r:List Av) (j:Nat) (k:Tx):JL (YS Jo Kl (ZAf r j)) [X.str k]=if k∈KL (r.take j)then some [D.x (X.int .i64 1)]else none:=by
 rw[ZER Jo Kl hkS (ZAf r j) k];unfold ZAf;rw[ZK2];split<;>rfl
theorem ZBn (r:List Av) (j:Nat) (h:j<r.length):(rows Zm r)[j]? =some [X.str (r.getD j ([],[])).1,X.str (r.getD j ([],[])).2]:=by
 simp[rows,h,Zm]
def KB:List D→Option (Bool×D)
 | [.x (.str s)]=>some (decide (s.length≤1000000),.x (.str (ZD s)))
 |_=>none
theorem ZGJ: ∀args r,KB args=some (true,r)→ZC Tryz.prog 37 args r:=by
 intro args r h;unfold KB at h;split at h
 ·rename_i s;simp only[Zf,Zc,ZW,Zj,true_and]at h;obtain⟨h1,rfl⟩:=h;exact(ZLO s (by omega))
 ·cases h
def ZFk:Tabs:=ZY (ZY (ZV) 37 KB) 208 QI
theorem ZJt:SsOk Tryz.prog ZFk:=ZL (ZL (ZG) (ZB ZH (p:=i37) rfl) ZGJ) (ZB ZH (p:=ZNu) rfl) ZJ8
theorem ZIk (a:List D):ZFk.q 37 a=KB a:=rfl
theorem ZHu (a:List D):ZFk.q 208 a=QI a:=rfl
theorem ZMQ (f:FuncId) (a:List D) (o:List Ob):ZFk.r f a o=none:=rfl
theorem ZLo (f:FuncId) (a:List D) (o:List Ob):ZFk.k f a o=none:=rfl
theorem ZeJ (r:List Av) (hb: ∀p∈r,p.1.length≤900000):ZC Tryz.prog 188 [.x (.sl (rows Zm r))] (.x (.bool (Yn r))):=by
 refine ZC.wf (fun hw=> ?_);have hl:r.length≤maxLen:=by have:=(hw _ (List.mem_cons_self)).1;rwa [YR]at this
 clear hw;simp only[maxLen]at hl;refine ZN.pure (ZP (fz:=true) ZH (p:=ZJF) rfl _ (ξ rfl) _ (fun C0 E0=> ?_)) rfl;dsimp only[ZJF,qt,qi,qs,qb,qm,qa,qh,qj,qT,qF,qe,ql,qL,qf,q2,q3,q8,qz,qp,qP,qc,qk,qx,qy,qo,qr,qC,ZQ];have uu:=ZA @KB.eq_1 (ZA @KB.eq_2 (ZA @QI.eq_1 (ZA @QI.eq_2 (ZA @ZMQ (ZA @ZLo (ZA @ZHu (@ZIk)))))));have tT:=ZJt;refine nz ?_;refine rg tT [0] ?_;refine rg tT [0,3] ?_;refine rg tT [0,3,8,9,10] ?_;refine WI.loop (fun φ os=> ∃(j:Nat),φ= [(0,.x (.sl (rows Zm r))),(3,.mref 0),(8,.x (.sl (rows Zm r))),(9,.x (.int .i64 r.length)),(10,.x (.int .i64 j))]∧os= [.mpo .str false (YS Jo Kl (ZAf r j))]∧j≤r.length∧okP r j=true) (ZK r.length 10) ?_ (fun φ os hI=> ?_)
 ·exact⟨0,rfl,rfl,by omega,rfl⟩
 ·obtain⟨j,rfl,rfl,hj,hok⟩:=hI;refine nz ?_;refine rg tT [0,3,8,9,10,11] ?_;refine cd (fun h0=> ?_) (fun h0=> ?_)
  ·have hj4:j<r.length:=by omega
   have har:=ZBn r j hj4;have hbj:(r.getD j ([],[])).1.length≤900000:=by rw[show r.getD j ([],[])=r[j] by simp[hj4]];exact hb _ (List.getElem_mem hj4)
   have hgt:=ZOY r j (ZD (r.getD j ([],[])).1);have uu:=ZA uu har;refine rg tT [0,3,5,8,9,10] ?_;refine rg tT [0,3,5,6,8,9,10] ?_;by_cases hin:ZD (r.getD j ([],[])).1∈KL (r.take j)
   ·rw[if_pos hin]at hgt;have uu:=ZA uu hgt;refine rg tT [0,3,6,8,9,10,37] ?_;refine ct (fun h1=> ?_) (fun h1=> ?_)
    ·refine rg tT [2] ?_;refine lf ?_;have hno:Kq r j=false:=by unfold Kq;rw[ZM hin];simp
     rw[show Yn r=false by unfold Yn;rw[ZEM r r.length j hj4 hno];rfl]
    ·clear uu;simp at h1
   ·rw[if_neg hin]at hgt;have uu:=ZA uu hgt;have hset:=ZCg Jo Kl hkS (ZAf r j) (ZD (r.getD j ([],[])).1) 1;rw[ZOs r j hj4 hin]at hset;have hset':Yf (YS Jo Kl (ZAf r j)) [X.str (ZD (r.getD j ([],[])).1)] [D.x (X.int .i64 1)]=YS Jo Kl (ZAf r (j+1)):=hset;have uu:=ZA uu hset';refine rg tT [0,3,6,8,9,10,37] ?_;refine cd (fun h1=> ?_) (fun h1=> ?_)
    ·refine rg tT [2] ?_;refine lf ?_;have hno:Kq r j=false:=by unfold Kq;clear uu;grind
     rw[show Yn r=false by unfold Yn;rw[ZEM r r.length j hj4 hno];rfl]
    ·have hone:Kq r j=true:=by unfold Kq;rw[decide_eq_false hin];clear uu;grind
     refine WI.post ?_;refine WI.regB tT [0,3,8,9,10] ?_
     iterate 2 refine oS ?_
     iterate 3 refine oG ?_
     refine oP ?_;refine JA [0] ?_ (ho:=by simp (disch:=decide) only[zV,zO,Ob.mpb,frzL,QK,ZAW,Kr,Ob.onI,Qt,Yy,Option.map_some,Option.map_none,D.vw,vwL,D.on,D.inP,YY,Zo,D.ren,Zx,Yb,YO,Ob.mp,Ob.ren,D.nn,ZBE,Nat.reduceBEq,Nat.reduceEqDiff,Nat.reduceAdd,↓reduceIte,ZCQ,Ka];rfl);refine Je ?_;refine nz ?_;refine rg tT [0,3,8,9,10] ?_;exact⟨⟨j+1,rfl,by first|done|rfl,by omega,by rw[okP,hok,hone];rfl⟩,by simp[ZK,Ab.get,D.val,ZF];omega⟩
  ·refine rg tT [2] ?_;refine lf ?_;have hz:r.length=j:=by omega
   rw[show Yn r=decide (1≤r.length∧r.length≤8) by unfold Yn;rw[hz,hok,Bool.true_and]];congr 2;rw[Bool.eq_iff_iff];simp;omega
def ZLE:List D→Option (Bool×D)
 | [.x (.sl R)]=>(Zg Zm R).bind fun r=>some (decide (∀p∈r,p.1.length≤900000),.x (.bool (Yn r)))
 |_=>none
theorem Zal: ∀args r,ZLE args=some (true,r)→ZC Tryz.prog 188 args r:=by
 intro args r h;unfold ZLE at h;split at h
 ·rename_i R;obtain⟨r,hr0,h⟩:=Zr h;simp only[Zf,Zc,ZW,Zj,true_and]at h;obtain⟨h1,rfl⟩:=h;rw[←ZX ZDF hr0];exact(ZeJ r h1)
 ·cases h
abbrev Dn:=List (List Av)
def smD (d:Dn):Prop:= ∀r∈d,∀p∈r,p.1.length≤900000
instance (d:Dn):Decidable (smD d):=by unfold smD;infer_instance
def KJ (d:Dn):Int:=if d.length>32 then 3 else if d.all Yn=true then 0 else 5
theorem ZFn (d:Dn) (j:Nat) (h:j<d.length):(rows JE d)[j]? =some [X.sl (rows Zm (d.getD j []))]:=by
 simp[rows,h,JE,rSl]
def ZII:Tabs:=ZY (ZV) 188 ZLE
theorem ZSa:SsOk Tryz.prog ZII:=ZL (ZG) (ZB ZH (p:=ZJF) rfl) Zal
theorem ZOe (a:List D):ZII.q 188 a=ZLE a:=rfl
theorem ZVG (f:FuncId) (a:List D) (o:List Ob):ZII.r f a o=none:=rfl
theorem ZUx (f:FuncId) (a:List D) (o:List Ob):ZII.k f a o=none:=rfl
theorem Zbm (d:Dn) (hb:smD d):ZC Tryz.prog 168 [.x (.sl (rows JE d))] (.x (.int .i64 (KJ d))):=by
 unfold KJ;refine ZN.pure (ZP (fz:=true) ZH (p:=ZHs) rfl _ (ξ rfl) _ (fun C0 E0=> ?_)) rfl;dsimp only[ZHs,qt,qi,qs,qb,qm,qa,qh,qj,qT,qF,qe,ql,qL,qf,q2,q3,q8,qz,qp,qP,qc,qk,qx,qy,qo,qr,qC,ZQ];have uu:=ZA @ZLE.eq_1 (ZA @ZLE.eq_2 (ZA @ZKu (ZA @ZVG (ZA @ZUx (@ZOe)))));have tT:=ZSa;refine nz ?_;refine rg tT [0] ?_;refine rg tT [0,7] ?_;refine cd (fun h0=> ?_) (fun h0=> ?_)
 ·refine rg tT [2] ?_;refine lf ?_;rw[if_pos (by omega)]
 ·refine rg tT [8,9,10] ?_;refine WI.loop (fun φ os=> ∃(j:Nat),φ= [(8,.x (.sl (rows JE d))),(9,.x (.int .i64 d.length)),(10,.x (.int .i64 j))]∧os= []∧j≤d.length∧(d.take j).all Yn=true) (ZK d.length 10) ?_ (fun φ os hI=> ?_)
  ·exact⟨0,rfl,rfl,by omega,rfl⟩
  ·obtain⟨j,rfl,rfl,hj,hall⟩:=hI;refine nz ?_;refine rg tT [8,9,10,11] ?_;refine cd (fun h1=> ?_) (fun h1=> ?_)
   ·have hj4:j<d.length:=by omega
    have hdj:d[j]=d.getD j []:=by simp[hj4]
    have hsm:decide (∀p∈d.getD j [],p.1.length≤900000)=true:=ZM (by rw[←hdj];exact hb _ (List.getElem_mem hj4));have uu:=ZA uu (ZA (ZFn d j hj4) hsm);refine rg tT [4,8,9,10] ?_;refine rg tT [8,9,10,16] ?_;refine cd (fun h2=> ?_) (fun h2=> ?_)
    ·refine rg tT [2] ?_;refine lf ?_;rw[if_neg (by omega),if_neg (by rw[Ze Yn d j hj4 (by rw[hdj];simpa using h2)];decide)]
    ·refine rg tT [8,9,10] ?_;exact⟨⟨j+1,rfl,rfl,by omega,by rw[YJ _ d j hj4,hall,hdj];simpa using h2⟩,by simp[ZK,Ab.get,D.val,ZF];omega⟩
   ·refine rg tT [2] ?_;refine lf ?_;rw[YN (by omega)]at hall;rw[if_neg (by omega),if_pos hall]
def ZBM:List D→Option (Bool×D)
 | [.x (.sl R)]=>(Zg JE R).bind fun d=>some (decide (smD d),.x (.int .i64 (KJ d)))
 |_=>none
theorem ZLq: ∀args r,ZBM args=some (true,r)→ZC Tryz.prog 168 args r:=by
 intro args r h;unfold ZBM at h;split at h
 ·rename_i R;obtain⟨d,hr0,h⟩:=Zr h;simp only[Zf,Zc,ZW,Zj,true_and]at h;obtain⟨h1,rfl⟩:=h;rw[←ZX ZC7 hr0];exact(Zbm d h1)
 ·cases h
def mxD:Dn→Nat
 | []=>0
 |r::d=>max r.length (mxD d)
theorem ZJQ: ∀(d:Dn) (r:List Av),mxD (d++ [r])=max (mxD d) r.length
 | [],r=>by simp[mxD]
 |x::d,r=>by rw[List.cons_append,mxD,mxD,ZJQ d r];omega
theorem ZUB (a b:Nat):(if(a:Int)>(b:Int)then(a:Int)else(b:Int))=((max b a:Nat):Int):=by split<;>omega
def ZBV (s:Tx):List (List Av×Bool):=(YQ 44 s).map Zl
def Qy (s:Tx):Dn:=(ZBV s).map (·.1)
def JT (s:Tx):Dn×Int:=
 if s.length>4096 then([],3)else if s= []then([],0)
 else if(ZBV s).all (·.2)=true then(if mxD (Qy s)>8 then([],3)else if KJ (Qy s)≠0 then([],KJ (Qy s))else(Qy s,0))
 else([],5)
theorem ZT4 (s:Tx):(Yg s).1.1.length≤s.length:=by
 unfold Yg;have h1:=(ZHy 61 s).1;have h2:=ZI4 (Jx 61 s).1;split
 ·simp
 ·simp;omega
theorem ZYg (s:Tx) (hs:s.length≤900000): ∀p∈(Zl s).1,p.1.length≤900000:=by
 unfold Zl ZEn;split
 ·intro p hp;obtain⟨q,h1,rfl⟩:=List.mem_map.1 hp;obtain⟨x,h2,rfl⟩:=List.mem_map.1 h1;have:=(Qj 43 _ s (Nat.le_refl _)).1 x h2;have:=ZT4 x;omega
 ·intro p hp;simp at hp
theorem ZEW (s:Tx) (hs:s.length≤900000):(Zl s).1.length≤900001:=by
 unfold Zl ZEn;split
 ·have:=(Qj 43 _ s (Nat.le_refl _)).2;simp;omega
 ·simp
theorem ZGR (s:Tx) (hs:s.length≤900000):smD (Qy s):=by
 intro r hr;unfold Qy ZBV at hr;obtain⟨q,h1,rfl⟩:=List.mem_map.1 hr;obtain⟨x,h2,rfl⟩:=List.mem_map.1 h1;have:=(Qj 44 _ s (Nat.le_refl _)).1 x h2;exact ZYg x (by omega)
def ZDm:Tabs:=ZY (ZY (ZY (ZV) 166 KC) 167 ZFa) 168 ZBM
theorem ZSX:SsOk Tryz.prog ZDm:=ZL (ZL (ZL (ZG) (ZB ZH (p:=ZLC) rfl) ZGm) (ZB ZH (p:=ZJN) rfl) ZVE) (ZB ZH (p:=ZHs) rfl) ZLq
theorem ZO4 (a:List D):ZDm.q 166 a=KC a:=rfl
theorem ZOC (a:List D):ZDm.q 167 a=ZFa a:=rfl
theorem ZMq (a:List D):ZDm.q 168 a=ZBM a:=rfl
theorem ZV6 (f:FuncId) (a:List D) (o:List Ob):ZDm.r f a o=none:=rfl
theorem ZTm (f:FuncId) (a:List D) (o:List Ob):ZDm.k f a o=none:=rfl
theorem ZbA (s:Tx):ZC Tryz.prog 131 [.x (.str s)] (.tup [.x (.sl (rows JE (JT s).1)),.x (.int .i64 (JT s).2)]):=by
 rcases hq:JT s with⟨d,e⟩
 unfold JT at hq;have hsp:YQ (UInt8.ofNat (44:Int).toNat) s=YQ 44 s:=rfl;refine ZN.pure (ZP (fz:=true) ZH (p:=ZI9) rfl _ (ξ rfl) _ (fun C0 E0=> ?_)) rfl;dsimp only[ZI9,qt,qi,qs,qb,qm,qa,qh,qj,qT,qF,qe,ql,qL,qf,q2,q3,q8,qz,qp,qP,qc,qk,qx,qy,qo,qr,qC,ZQ];have uu:=ZA @KC.eq_1 (ZA @KC.eq_2 (ZA @ZFa.eq_1 (ZA @ZFa.eq_2 (ZA @ZBM.eq_1 (ZA @ZBM.eq_2 (ZA hsp (ZA @ZHB (ZA @ZKu (ZA @ZV6 (ZA @ZTm (ZA @ZO4 (ZA @ZOC (@ZMq)))))))))))));have tT:=ZSX;refine nz ?_;refine rg tT [0] ?_;refine rg tT [0,11] ?_;refine cd (fun h0=> ?_) (fun h0=> ?_)
 ·refine rg tT [2,3] ?_;refine WI.nnA ?_;refine lf ?_;rw[if_pos (by omega)]at hq;cases hq;rfl
 ·refine rg tT [0,15] ?_;refine cd (fun h1=> ?_) (fun h1=> ?_)
  ·refine rg tT [2,3] ?_;refine WI.nnA ?_;refine lf ?_;rw[if_neg (by omega),if_pos (by simpa using h1)]at hq;cases hq;rfl
  ·have hne:s≠ []:=by simpa using h1
   rw[if_neg (by omega),if_neg hne]at hq;have hs:s.length≤900000:=by omega
   obtain⟨hb1,hb2⟩:=Qj 44 _ s (Nat.le_refl _);have hsm:=ZGR s hs;refine rg tT [0,4] ?_;refine rg tT [0,4,5] ?_;refine rg tT [4,5,19,20,21] ?_;refine WI.ownA 4 159 1 ?_;have hrl:ZBV s=(YQ 44 s).map Zl:=rfl;have hnl:Qy s=((YQ 44 s).map Zl).map (·.1):=rfl;generalize YQ 44 s=l at hb1 hb2 hrl hnl⊢;generalize ZBV s=rl at hq hrl;generalize Qy s=nl at hq hnl hsm;subst hrl hnl;refine WI.loop (fun φ os=> ∃(j:Nat),φ= [(4,.ref 0 j 0 j),(5,.x (.int .i64 (mxD ((l.take j).map fun x=>(Zl x).1)))),(19,.x (.sl (rows ZJ l))),(20,.x (.int .i64 l.length)),(21,.x (.int .i64 j))]∧os= [.rows false 159 1 (rows JE ((l.take j).map fun x=>(Zl x).1))]∧j≤l.length∧(l.take j).all (fun x=>(Zl x).2)=true) (ZK l.length 21) ?_ (fun φ os hI=> ?_)
   ·exact⟨0,rfl,rfl,by omega,rfl⟩
   ·obtain⟨j,rfl,rfl,hj,hall⟩:=hI;refine nz ?_;refine rg tT [4,5,19,20,21,22] ?_;refine cd (fun h2=> ?_) (fun h2=> ?_)
    ·have hj4:j<l.length:=by omega
     have hbj:=hb1 _ (List.getElem_mem hj4);have hpc:=ZEW l[j] (by omega);have hsc:decide (l[j].length≤900000)=true:=ZM (by omega);have hmt:(l.take (j+1)).map (fun x=>(Zl x).1)=(l.take j).map (fun x=>(Zl x).1)++ [(Zl l[j]).1]:=by rw[List.take_succ_eq_append_getElem hj4,List.map_append];rfl
     have hmx:mxD ((l.take (j+1)).map fun x=>(Zl x).1)=max (mxD ((l.take j).map fun x=>(Zl x).1)) (Zl l[j]).1.length:=by rw[hmt,ZJQ]
     have uu:=ZA uu hsc;refine rg tT [4,5,7,19,20,21] ?_;refine rg tT [4,5,8,9,19,20,21] ?_;refine rg tT [4,5,8,19,20,21,31] ?_;refine cd (fun h3=> ?_) (fun h3=> ?_)
     ·have hf:(l.map Zl).all (·.2)=false:=by rw[List.all_map];exact Ze _ l j hj4 (by simpa using h3)
      rw[if_neg (by rw[hf];decide)]at hq;refine rg tT [2,3] ?_;refine WI.nnA ?_;refine lf ?_;cases hq;rfl
     ·refine rg tT [4,5,8,19,20,21] ?_;refine rgp tT [4,5,19,20,21] ?_;refine JA [0] ?_;refine Je ?_;refine nz ?_;refine WI.orderA [4,5,19,20,21] ?_;refine rg tT [4,5,19,20,21] ?_;exact⟨⟨j+1,by rw[hmx,ZUB];first|done|rfl,by rw[hmt,←ZF4];first|done|rfl,by omega,by rw[YJ _ l j hj4,hall];simpa using h3⟩,by simp[ZK,Ab.get,D.val,ZF];omega⟩
    ·obtain rfl:j=l.length:=by omega
     rw[List.take_length]at hall⊢;have hf:(l.map Zl).all (·.2)=true:=by rw[List.all_map];exact hall
     rw[if_pos hf]at hq;have hmm:(l.map Zl).map (·.1)=l.map (fun x=>(Zl x).1):=by rw[List.map_map];rfl
     rw[hmm]at hq hsm;have hml:(l.map fun x=>(Zl x).1).length=l.length:=List.length_map ..;generalize(l.map fun x=>(Zl x).1)=m at hq hsm hml⊢;have e1:m.take l.length=m:=YN (by omega);have e2:decide (smD m)=true:=ZM hsm;have uu:=ZA uu (ZA hml (ZA e1 e2));refine rg tT [4,42] ?_;refine cd (fun h4=> ?_) (fun h4=> ?_)
     ·refine rg tT [2,3] ?_;refine WI.nnA ?_;refine lf ?_;rw[if_pos (by omega)]at hq;cases hq;rfl
     ·rw[if_neg (by omega)]at hq;refine rg tT [4,10] ?_;refine rg tT [4,10,46] ?_;refine cd (fun h5=> ?_) (fun h5=> ?_)
      ·refine rg tT [2,3] ?_;refine WI.nnA ?_;refine lf ?_;rw[if_pos (by simpa using h5)]at hq;cases hq;rfl
      ·refine rg tT [2,3] ?_;refine WI.nnA ?_;refine lf ?_;rw[if_neg (by simpa using h5)]at hq;cases hq;first|rfl|rw[e1]
def ZC6:List D→Option (Bool×D)
 | [.x (.str s)]=>some (true,.tup [.x (.sl (rows JE (JT s).1)),.x (.int .i64 (JT s).2)])
 |_=>none
theorem ZW6: ∀args r,ZC6 args=some (true,r)→ZC Tryz.prog 131 args r:=by
 intro args r h;unfold ZC6 at h;split at h
 ·rename_i s;simp only[Zf,Zc,ZW,Zj,true_and]at h;obtain rfl:=h;exact(ZbA s)
 ·cases h
theorem ZcG (r:List Av) (j:Nat) (h:j<r.length) (x:Tx):x∈KL (r.take (j+1))↔x∈KL (r.take j)∨x=ZD (r.getD j ([],[])).1:=by
 unfold KL;rw[List.take_succ_eq_append_getElem h,List.map_append,List.mem_append];simp[h]
theorem ZcC (r:List Av) (j k:Nat) (h:j<k) (hk:k≤r.length):ZD (r.getD j ([],[])).1∈KL (r.take k):=by
 unfold KL;refine List.mem_map.2 ⟨r[j]'(by omega),?_,by simp[show j<r.length by omega]⟩;exact List.mem_take_iff_getElem.2 ⟨j,by omega,rfl⟩
def ZCO:List D→Option (Bool×D)
 | [.x (.str s)]=>some (decide (s.length≤1000000),.x (.str (ZD s)))
 |_=>none
theorem ZO8: ∀args r,ZCO args=some (true,r)→ZC Tryz.prog 32 args r:=by
 intro args r h;unfold ZCO at h;split at h
 ·rename_i s;simp only[Zf,Zc,ZW,Zj,true_and]at h;obtain⟨h1,rfl⟩:=h;exact(ZGU s (by omega))
 ·cases h
def ZFJ:Tabs:=ZY (ZY (ZV) 115 ZBI) 32 ZCO
theorem ZRn:SsOk Tryz.prog ZFJ:=ZL (ZL (ZG) (ZB ZH (p:=ZNX) rfl) ZMX) (ZB ZH (p:=i32) rfl) ZO8
theorem ZO7 (a:List D):ZFJ.q 115 a=ZBI a:=rfl
theorem ZP1 (a:List D):ZFJ.q 32 a=ZCO a:=rfl
theorem ZVP (f:FuncId) (a:List D) (o:List Ob):ZFJ.r f a o=none:=rfl
theorem ZUC (f:FuncId) (a:List D) (o:List Ob):ZFJ.k f a o=none:=rfl
set_option maxHeartbeats 1000000 in
theorem Zay (d:Dn) (hb:smD d) (hld:d.length≤1000000) (hlr: ∀r∈d,r.length≤1000000):ZC Tryz.prog 160 [.x (.sl (rows JE d))] (.x (.int .i64 (KJ d))):=by
 unfold KJ;refine ZN.pure (ZP (fz:=true) ZH (p:=ZNB) rfl _ (ξ rfl) _ (fun C0 E0=> ?_)) rfl;dsimp only[ZNB,qt,qi,qs,qb,qm,qa,qh,qj,qT,qF,qe,ql,qL,qf,q2,q3,q8,qz,qp,qP,qc,qk,qx,qy,qo,qr,qC,ZQ];have uu:=ZA @ZBI.eq_1 (ZA @ZBI.eq_2 (ZA @ZCO.eq_1 (ZA @ZCO.eq_2 (ZA @ZVP (ZA @ZUC (ZA @ZO7 (@ZP1)))))));have tT:=ZRn;refine nz ?_;refine rg tT [0] ?_;refine rg tT [0,9] ?_;refine cd (fun h0=> ?_) (fun h0=> ?_)
 ·refine rg tT [2] ?_;refine lf ?_;rw[if_pos (by omega)]
 ·refine rg tT [0,3] ?_;refine WI.loop (fun φ os=> ∃(i:Nat),φ= [(0,.x (.sl (rows JE d))),(3,.x (.int .i64 i))]∧os= []∧i≤d.length∧(d.take i).all Yn=true) (ZK d.length 3) ?_ (fun φ os hI=> ?_)
  ·exact⟨0,rfl,rfl,by omega,rfl⟩
  ·obtain⟨i,rfl,rfl,hi,hall⟩:=hI;refine nz ?_;refine rg tT [0,3,13] ?_;refine cd (fun h1=> ?_) (fun h1=> ?_)
   ·have hi4:i<d.length:=by omega
    have hdi:d[i]=d.getD i []:=by simp[hi4]
    have hrw:=ZFn d i hi4;have hri: ∀p∈d.getD i [],p.1.length≤900000:=by rw[←hdi];exact hb _ (List.getElem_mem hi4)
    have hrl:(d.getD i []).length≤1000000:=by rw[←hdi];exact hlr _ (List.getElem_mem hi4)
    rcases hdr:d.getD i []with r0
    obtain⟨r,hr0⟩: ∃r,r=r0:=⟨r0,rfl⟩;subst hr0;rw[hdr]at hri hrl hrw;have uu:=ZA uu hrw;refine rg tT [0,3,29] ?_;refine cd (fun h2=> ?_) (fun h2=> ?_)
    ·refine rg tT [2] ?_;refine lf ?_;rw[if_neg (by omega),if_neg (by rw[Ze Yn d i hi4 (by rw[hdi,hdr];unfold Yn;rw[decide_eq_false (by omega),Bool.and_false])];decide)]
    ·refine rg tT [0,3,4] ?_;refine WI.loop (fun φ os=> ∃(k:Nat),φ= [(0,.x (.sl (rows JE d))),(3,.x (.int .i64 i)),(4,.x (.int .i64 k))]∧os= []∧k≤r.length∧okP r k=true) (ZK r.length 4) ?_ (fun φ os hI=> ?_)
     ·exact⟨0,rfl,rfl,by omega,rfl⟩
     ·obtain⟨k,rfl,rfl,hk,hok⟩:=hI;refine nz ?_;refine rg tT [0,3,4,36] ?_;refine cd (fun h3=> ?_) (fun h3=> ?_)
      ·have hk4:k<r.length:=by omega
       have hka:=ZBn r k hk4;have hem:=ZFT (r.getD k ([],[])).2;have hkl:(r.getD k ([],[])).1.length≤900000:=by rw[show r.getD k ([],[])=r[k] by simp[hk4]];exact hri _ (List.getElem_mem hk4)
       have hsc:decide ((r.getD k ([],[])).1.length≤1000000)=true:=ZM (by omega);have uu:=ZA uu (ZA hka hsc);refine rg tT [0,3,4,5] ?_;refine rg tT [0,3,4,5,61] ?_;refine cd (fun h4=> ?_) (fun h4=> ?_)
       ·refine rg tT [2] ?_;refine lf ?_;have hno:Kq r k=false:=by unfold Kq;clear uu;grind
        rw[if_neg (by omega),if_neg (by rw[Ze Yn d i hi4 (by rw[hdi,hdr];unfold Yn;rw[ZEM r r.length k hk4 hno];rfl)];decide)]
       ·refine rg tT [0,3,4,5,6] ?_;refine WI.loop (fun φ os=> ∃(j:Nat),φ= [(0,.x (.sl (rows JE d))),(3,.x (.int .i64 i)),(4,.x (.int .i64 k)),(5,.ptr 0 0),(6,.x (.int .i64 j))]∧os= [.box [.x (.str (r.getD k ([],[])).1),.x (.str (r.getD k ([],[])).2)]]∧j≤k∧ZD (r.getD k ([],[])).1∉KL (r.take j)) (ZK k 6) ?_ (fun φ os hI=> ?_)
        ·exact⟨0,rfl,rfl,by omega,by simp[KL]⟩
        ·obtain⟨j,rfl,rfl,hj,hnin⟩:=hI;refine nz ?_;refine rg tT [0,3,4,5,6,64] ?_;refine cd (fun h5=> ?_) (fun h5=> ?_)
         ·have hj4:j<k:=by omega
          have hja:=ZBn r j (by omega);have hjl:(r.getD j ([],[])).1.length≤900000:=by rw[show r.getD j ([],[])=r[j] by simp[show j<r.length by omega]];exact hri _ (List.getElem_mem _)
          have hsj:decide ((r.getD j ([],[])).1.length≤1000000)=true:=ZM (by omega);have uu:=ZA uu (ZA hja hsj);refine WI.dregB tT [0,3,4,5,6,79] ?_
          iterate 2 refine Zn ?_
          iterate 2 refine YG ?_
          refine Zn ?_;refine YG ?_;refine Zn ?_;refine YG ?_;refine Qi ?_;refine Zn ?_;refine YG ?_;refine dAC ?_;refine Ye ?_;refine dN ?_;refine nz ?_;refine cd (fun h6=> ?_) (fun h6=> ?_)
          ·refine rg tT [2] ?_;refine lf ?_;have hin:ZD (r.getD k ([],[])).1∈KL (r.take k):=by rw[←show ZD (r.getD j ([],[])).1=ZD (r.getD k ([],[])).1 by simpa using h6];exact ZcC r j k hj4 (by omega)
           have hno:Kq r k=false:=by unfold Kq;rw[ZM hin];simp
           rw[if_neg (by omega),if_neg (by rw[Ze Yn d i hi4 (by rw[hdi,hdr];unfold Yn;rw[ZEM r r.length k hk4 hno];rfl)];decide)]
          ·refine rg tT [0,3,4,5,6] ?_;exact⟨⟨j+1,rfl,rfl,by omega,fun hh=>by rcases(ZcG r j (by omega) _).1 hh with h|h;exact hnin h;exact h6 h.symm⟩,by simp[ZK,Ab.get,D.val,ZF];omega⟩
         ·have hone:Kq r k=true:=by
           have hjk:j=k:=by omega
           rw[hjk]at hnin;unfold Kq;rw[decide_eq_false hnin,hem];clear uu hall hdi hrw hka;grind
          refine rgp tT [0,3,4] ?_;refine JA [] ?_;refine Je ?_;refine nz ?_;exact⟨⟨k+1,rfl,rfl,by omega,by rw[okP,hok,Bool.true_and];exact hone⟩,by simp[ZK,Ab.get,D.val,ZF];omega⟩
      ·refine rg tT [0,3] ?_;exact⟨⟨i+1,rfl,rfl,by omega,by rw[YJ _ d i hi4,hall,hdi];show Yn (d.getD i [])=true;rw[hdr];unfold Yn;rw[show r.length=k by omega,hok];exact ZM ⟨by omega,by omega⟩⟩,by simp[ZK,Ab.get,D.val,ZF];omega⟩
   ·refine rg tT [2] ?_;refine lf ?_;rw[if_neg (by omega),if_pos (by rw[YN (by omega)]at hall;exact hall)]
def ZBU:List D→Option (Bool×D)
 | [.x (.sl R)]=>(Zg JE R).bind fun d=>some (decide (smD d)&&(decide (d.length≤1000000)&&(decide (∀r∈d,r.length≤1000000))),.x (.int .i64 (KJ d)))
 |_=>none
theorem ZLV: ∀args r,ZBU args=some (true,r)→ZC Tryz.prog 160 args r:=by
 intro args r h;unfold ZBU at h;split at h
 ·rename_i R;obtain⟨d,hr0,h⟩:=Zr h;simp only[Zf,Zc,ZW,Zj,true_and]at h;obtain⟨⟨h1,h2,h3⟩,rfl⟩:=h;rw[←ZX ZC7 hr0];exact(Zay d h1 h2 h3)
 ·cases h
def ZGq (d:Dn):Bool:=d.any fun r=>decide (r.length>8)
theorem ZRj (d:Dn) (r:List Av):ZGq (d++ [r])=(ZGq d||decide (r.length>8)):=by simp[ZGq]
theorem ZMp: ∀d:Dn,ZGq d=decide (mxD d>8)
 | []=>rfl
 |r::d=>by
  have:=ZMp d;unfold ZGq at this⊢;rw[List.any_cons,this,mxD,Bool.eq_iff_iff];simp only[Bool.or_eq_true,Zj];omega
theorem ZYG (x:Tx) (h:(YQ 43 x).all (fun y=>(Yg y).2)=true):Zl x=((YQ 43 x).map (fun y=>(Yg y).1),true):=by
 unfold Zl ZEn;rw[if_pos (by rw[List.all_map];exact h),List.map_map];rfl
theorem ZXF (x:Tx) (h:(YQ 43 x).all (fun y=>(Yg y).2)=false):Zl x=([],false):=by
 unfold Zl ZEn;rw[if_neg (by rw[List.all_map];show ¬(YQ 43 x).all (fun y=>(Yg y).2)=true;rw[h];decide)]
def ZDi:Tabs:=ZY (ZY (ZY (ZV) 158 ZDg) 159 ZFR) 160 ZBU
theorem ZSA:SsOk Tryz.prog ZDi:=ZL (ZL (ZL (ZG) (ZB ZH (p:=ZRo) rfl) ZSC) (ZB ZH (p:=ZSu) rfl) ZUj) (ZB ZH (p:=ZNB) rfl) ZLV
theorem ZMy (a:List D):ZDi.q 158 a=ZDg a:=rfl
theorem ZOk (a:List D):ZDi.q 159 a=ZFR a:=rfl
theorem ZNe (a:List D):ZDi.q 160 a=ZBU a:=rfl
theorem ZVj (f:FuncId) (a:List D) (o:List Ob):ZDi.r f a o=none:=rfl
theorem ZUL (f:FuncId) (a:List D) (o:List Ob):ZDi.k f a o=none:=rfl
set_option maxHeartbeats 1000000 in
theorem ZY5 (s:Tx):ZC Tryz.prog 119 [.x (.str s)] (.tup [.x (.sl (rows JE (JT s).1)),.x (.int .i64 (JT s).2)]):=by
 rcases hq:JT s with⟨d,e⟩
 unfold JT at hq;have hsp: ∀t,YQ (UInt8.ofNat (44:Int).toNat) t=YQ 44 t:=fun t=>rfl
 have hsq: ∀t,YQ (UInt8.ofNat (43:Int).toNat) t=YQ 43 t:=fun t=>rfl
 refine ZN.pure (ZP (fz:=true) ZH (p:=ZS6) rfl _ (ξ rfl) _ (fun C0 E0=> ?_)) rfl;dsimp only[ZS6,qt,qi,qs,qb,qm,qa,qh,qj,qT,qF,qe,ql,qL,qf,q2,q3,q8,qz,qp,qP,qc,qk,qx,qy,qo,qr,qC,ZQ];have uu:=ZA @ZDg.eq_1 (ZA @ZDg.eq_2 (ZA @ZFR.eq_1 (ZA @ZFR.eq_2 (ZA @ZBU.eq_1 (ZA @ZBU.eq_2 (ZA hsp (ZA hsq (ZA @ZHB (ZA @ZKu (ZA @ZVj (ZA @ZUL (ZA @ZMy (ZA @ZOk (@ZNe))))))))))))));have tT:=ZSA;refine nz ?_;refine rg tT [0] ?_;refine rg tT [0,16] ?_;refine cd (fun h0=> ?_) (fun h0=> ?_)
 ·refine rg tT [2,3] ?_;refine WI.nnA ?_;refine lf ?_;rw[if_pos (by omega)]at hq;cases hq;rfl
 ·refine rg tT [0,18] ?_;refine cd (fun h1=> ?_) (fun h1=> ?_)
  ·refine rg tT [2,3] ?_;refine WI.nnA ?_;refine lf ?_;rw[if_neg (by omega),if_pos (by simpa using h1)]at hq;cases hq;rfl
  ·have hne:s≠ []:=by simpa using h1
   rw[if_neg (by omega),if_neg hne]at hq;have hs:s.length≤900000:=by omega
   obtain⟨hb1,hb2⟩:=Qj 44 _ s (Nat.le_refl _);have hsm:=ZGR s hs;refine rg tT [0,4] ?_;refine rg tT [0,4,5] ?_;refine rg tT [4,5,6] ?_;refine rg tT [4,5,6,7] ?_;refine WI.ownA 4 159 1 ?_;have hrl:ZBV s=(YQ 44 s).map Zl:=rfl;have hnl:Qy s=((YQ 44 s).map Zl).map (·.1):=rfl;generalize YQ 44 s=l at hb1 hb2 hrl hnl⊢;generalize ZBV s=rl at hq hrl;generalize Qy s=nl at hq hnl hsm;subst hrl hnl;refine WI.loop (fun φ os=> ∃(i:Nat),φ= [(4,.ref 0 i 0 i),(5,.x (.bool (ZGq ((l.take i).map fun x=>(Zl x).1)))),(6,.x (.sl (rows ZJ l))),(7,.x (.int .i64 i))]∧os= [.rows false 159 1 (rows JE ((l.take i).map fun x=>(Zl x).1))]∧i≤l.length∧(l.take i).all (fun x=>(Zl x).2)=true) (ZK l.length 7) ?_ (fun φ os hI=> ?_)
   ·exact⟨0,rfl,rfl,by omega,rfl⟩
   ·obtain⟨i,rfl,rfl,hi,hall⟩:=hI;refine nz ?_;refine rg tT [4,5,6,7,24] ?_;refine cd (fun h2=> ?_) (fun h2=> ?_)
    ·have hi4:i<l.length:=by omega
     have hbi:=hb1 _ (List.getElem_mem hi4);have hsc:decide (l[i].length≤1000000)=true:=ZM (by omega);obtain⟨hc1,hc2⟩:=Qj 43 _ l[i] (Nat.le_refl _);have hmt:(l.take (i+1)).map (fun x=>(Zl x).1)=(l.take i).map (fun x=>(Zl x).1)++ [(Zl l[i]).1]:=by rw[List.take_succ_eq_append_getElem hi4,List.map_append];rfl
     have hpo:=ZYG l[i];have hpb:=ZXF l[i];have uu:=ZA uu hsc;refine rg tT [4,5,6,7,8] ?_;refine rg tT [4,5,6,7,8,9] ?_;refine rg tT [4,5,6,7,8,9,10] ?_;refine WI.ownA 9 161 2 ?_;generalize YQ 43 l[i]=m at hc1 hc2 hpo hpb⊢;refine WI.loop (fun φ os=> ∃(k:Nat),φ= [(4,.ref 0 i 0 i),(5,.x (.bool (ZGq ((l.take i).map fun x=>(Zl x).1)))),(6,.x (.sl (rows ZJ l))),(7,.x (.int .i64 i)),(8,.x (.sl (rows ZJ m))),(9,.ref 1 k 0 k),(10,.x (.int .i64 k))]∧os= [.rows false 159 1 (rows JE ((l.take i).map fun x=>(Zl x).1)),.rows false 161 2 (rows Zm ((m.take k).map fun x=>(Yg x).1))]∧k≤m.length∧(m.take k).all (fun x=>(Yg x).2)=true) (ZK m.length 10) ?_ (fun φ os hI=> ?_)
     ·exact⟨0,rfl,rfl,by omega,rfl⟩
     ·obtain⟨k,rfl,rfl,hk,hok⟩:=hI;refine nz ?_;refine rg tT [4,5,6,7,8,9,10,35] ?_;refine cd (fun h3=> ?_) (fun h3=> ?_)
      ·have hk4:k<m.length:=by omega
       have hbk:=hc1 _ (List.getElem_mem hk4);have hsd:decide (m[k].length≤900000)=true:=ZM (by omega);have uu:=ZA uu hsd;refine rg tT [4,5,6,7,8,9,10,11,12] ?_;refine rg tT [4,5,6,7,8,9,10,11,47] ?_;refine cd (fun h4=> ?_) (fun h4=> ?_)
       ·have hbad:=hpb (Ze _ m k hk4 (by simpa using h4));have hf:(l.map Zl).all (·.2)=false:=by rw[List.all_map];exact Ze _ l i hi4 (by show(Zl l[i]).2=false;rw[hbad])
        rw[if_neg (by rw[hf];decide)]at hq;refine rg tT [2,3] ?_;refine WI.nnA ?_;refine lf ?_;cases hq;rfl
       ·refine rgp tT [4,5,6,7,8,9,10] ?_;refine JA [0,1] ?_;refine Je ?_;refine nz ?_;refine rg tT [4,5,6,7,8,9,10] ?_;exact⟨⟨k+1,rfl,by rw[List.take_succ_eq_append_getElem hk4,List.map_append,List.map_singleton,←ZGN],by omega,by rw[YJ _ m k hk4,hok];simpa using h4⟩,by simp[ZK,Ab.get,D.val,ZF];omega⟩
      ·obtain rfl:k=m.length:=by omega
       rw[List.take_length]at hok⊢;have hpx:=hpo hok;have hql:(m.map fun x=>(Yg x).1).length=m.length:=List.length_map ..;generalize(m.map fun x=>(Yg x).1)=q at hpx hql⊢;have hpx1:(Zl l[i]).1=q:=by rw[hpx]
       have hpx2:(Zl l[i]).2=true:=by rw[hpx]
       rw[←hql];have e1:q.take q.length=q:=List.take_length;have uu:=ZA uu e1;refine rg tT [4,5,6,7,9] ?_;refine rgp tT [4,5,6,7] ?_;refine JA [0] ?_;refine Je ?_;refine nz ?_;refine WI.orderA [4,5,6,7] ?_;refine rg tT [4,5,6,7] ?_;exact⟨⟨i+1,by rw[hmt,ZRj,hpx1,←show decide ((q.length:Int)>8)=decide (q.length>8) by rw[Bool.eq_iff_iff,Zj,Zj];omega];first|done|rfl,by rw[hmt,←ZF4,hpx1];first|done|rfl,by omega,by rw[YJ _ l i hi4,hall,hpx2];rfl⟩,by simp[ZK,Ab.get,D.val,ZF];omega⟩
    ·obtain rfl:i=l.length:=by omega
     rw[List.take_length]at hall⊢;have hf:(l.map Zl).all (·.2)=true:=by rw[List.all_map];exact hall
     rw[if_pos hf]at hq;have hmm:(l.map Zl).map (·.1)=l.map (fun x=>(Zl x).1):=by rw[List.map_map];rfl
     rw[hmm]at hq hsm;have hml:(l.map fun x=>(Zl x).1).length=l.length:=List.length_map ..;have hcnt: ∀r∈(l.map fun x=>(Zl x).1),r.length≤1000000:=by
      intro r hr;obtain⟨x,h1,rfl⟩:=List.mem_map.1 hr;have:=ZEW x (by have:=hb1 x h1;omega);omega
     generalize(l.map fun x=>(Zl x).1)=m at hq hsm hml hcnt⊢;have e1:m.take l.length=m:=YN (by omega);have e2:(decide (smD m)&&(decide (m.length≤1000000)&&decide (∀r∈m,r.length≤1000000)))=true:=by rw[ZM hsm,ZM hcnt,ZM (show m.length≤1000000 by omega)];rfl
     have hlm:=ZMp m;have uu:=ZA uu (ZA hml (ZA e1 e2));refine rg tT [4,67] ?_;refine cd (fun h5=> ?_) (fun h5=> ?_)
     ·refine rg tT [2,3] ?_;refine WI.nnA ?_;refine lf ?_;have hz:mxD m>8∨m.length>32:=by rw[hlm]at h5;clear uu;grind
      by_cases hm8:mxD m>8
      ·rw[if_pos hm8]at hq;cases hq;rfl
      ·have h32:KJ m=3:=by unfold KJ;rw[if_pos (by omega)]
       rw[if_neg hm8,h32,if_pos (by decide)]at hq;cases hq;rfl
     ·have hm8: ¬mxD m>8:=by rw[hlm]at h5;intro hh;rw[ZM hh]at h5;simp at h5
      rw[if_neg hm8]at hq;refine rg tT [4,13] ?_;refine rg tT [4,13,71] ?_;refine cd (fun h6=> ?_) (fun h6=> ?_)
      ·refine rg tT [2,3] ?_;refine WI.nnA ?_;refine lf ?_;rw[if_pos (by simpa using h6)]at hq;cases hq;rfl
      ·refine rg tT [2,3] ?_;refine WI.nnA ?_;refine lf ?_;rw[if_neg (by simpa using h6)]at hq;cases hq;first|rfl|rw[e1]
def ZDu:List D→Option (Bool×D)
 | [.x (.str s)]=>some (true,.tup [.x (.sl (rows JE (JT s).1)),.x (.int .i64 (JT s).2)])
 |_=>none
theorem ZRr: ∀args r,ZDu args=some (true,r)→ZC Tryz.prog 119 args r:=by
 intro args r h;unfold ZDu at h;split at h
 ·rename_i s;simp only[Zf,Zc,ZW,Zj,true_and]at h;obtain rfl:=h;exact(ZY5 s)
 ·cases h
theorem Zdo (r:List Av) (hb: ∀p∈r,p.1.length≤900000) (hl:r.length≤1000000):ZU Tryz.prog 188 [.ref 0 r.length 0 r.length] [.rows false 161 2 (rows Zm r)] (.x (.bool (Yn r))) [.rows false 161 2 (rows Zm r)]:=by
 refine ZN.mcalls (ZP (fz:=true) ZH (p:=ZJF) rfl _ (ξ rfl) _ (fun C0 E0=> ?_));dsimp only[ZJF,qt,qi,qs,qb,qm,qa,qh,qj,qT,qF,qe,ql,qL,qf,q2,q3,q8,qz,qp,qP,qc,qk,qx,qy,qo,qr,qC,ZQ];have uu:=ZA @KB.eq_1 (ZA @KB.eq_2 (ZA @QI.eq_1 (ZA @QI.eq_2 (ZA @ZMQ (ZA @ZLo (ZA @ZHu (@ZIk)))))));have tT:=ZJt;refine nz ?_;refine rg tT [0] ?_;refine rg tT [0,3] ?_;refine rg tT [0,3,8,9,10] ?_;refine WI.loop (fun φ os=> ∃(j:Nat),φ= [(0,.ref 0 r.length 0 r.length),(3,.mref 1),(8,.ref 0 r.length 0 r.length),(9,.x (.int .i64 r.length)),(10,.x (.int .i64 j))]∧os= [.rows false 161 2 (rows Zm r),.mpo .str false (YS Jo Kl (ZAf r j))]∧j≤r.length∧okP r j=true) (ZK r.length 10) ?_ (fun φ os hI=> ?_)
 ·exact⟨0,rfl,rfl,by omega,rfl⟩
 ·obtain⟨j,rfl,rfl,hj,hok⟩:=hI;refine nz ?_;refine rg tT [0,3,8,9,10,11] ?_;refine cd (fun h0=> ?_) (fun h0=> ?_)
  ·have hj4:j<r.length:=by omega
   have har:=ZBn r j hj4;have hbj:(r.getD j ([],[])).1.length≤900000:=by rw[show r.getD j ([],[])=r[j] by simp[hj4]];exact hb _ (List.getElem_mem hj4)
   have hgt:=ZOY r j (ZD (r.getD j ([],[])).1);have uu:=ZA uu har;refine rg tT [0,3,5,8,9,10] ?_;refine rg tT [0,3,5,6,8,9,10] ?_;by_cases hin:ZD (r.getD j ([],[])).1∈KL (r.take j)
   ·rw[if_pos hin]at hgt;have uu:=ZA uu hgt;refine rg tT [0,3,6,8,9,10,37] ?_;refine ct (fun h1=> ?_) (fun h1=> ?_)
    ·refine rg tT [2] ?_;refine WI.pickA [0] ?_;refine lf ?_;have hno:Kq r j=false:=by unfold Kq;rw[ZM hin];simp
     rw[show Yn r=false by unfold Yn;rw[ZEM r r.length j hj4 hno];rfl];first|rfl|exact⟨rfl,rfl⟩
    ·clear uu;simp at h1
   ·rw[if_neg hin]at hgt;have uu:=ZA uu hgt;have hset:=ZCg Jo Kl hkS (ZAf r j) (ZD (r.getD j ([],[])).1) 1;rw[ZOs r j hj4 hin]at hset;have hset':Yf (YS Jo Kl (ZAf r j)) [X.str (ZD (r.getD j ([],[])).1)] [D.x (X.int .i64 1)]=YS Jo Kl (ZAf r (j+1)):=hset;have uu:=ZA uu hset';refine rg tT [0,3,6,8,9,10,37] ?_;refine cd (fun h1=> ?_) (fun h1=> ?_)
    ·refine rg tT [2] ?_;refine WI.pickA [0] ?_;refine lf ?_;have hno:Kq r j=false:=by unfold Kq;clear uu;grind
     rw[show Yn r=false by unfold Yn;rw[ZEM r r.length j hj4 hno];rfl];first|rfl|exact⟨rfl,rfl⟩
    ·have hone:Kq r j=true:=by unfold Kq;rw[decide_eq_false hin];clear uu;grind
     refine WI.post ?_;refine WI.regB tT [0,3,8,9,10] ?_
     iterate 2 refine oS ?_
     iterate 3 refine oG ?_
     refine oP ?_;refine JA [0,1] ?_ (ho:=by simp (disch:=decide) only[zV,zO,Ob.mpb,frzL,QK,ZAW,Kr,Ob.onI,Qt,Yy,Option.map_some,Option.map_none,D.vw,vwL,D.on,D.inP,YY,Zo,D.ren,Zx,Yb,YO,Ob.mp,Ob.ren,D.nn,ZBE,Nat.reduceBEq,Nat.reduceEqDiff,Nat.reduceAdd,↓reduceIte,ZCQ,Ka];rfl);refine Je ?_;refine nz ?_;refine rg tT [0,3,8,9,10] ?_;exact⟨⟨j+1,rfl,by first|done|rfl,by omega,by rw[okP,hok,hone];rfl⟩,by simp[ZK,Ab.get,D.val,ZF];omega⟩
  ·refine rg tT [2] ?_;refine WI.pickA [0] ?_;refine lf ?_;have hz:r.length=j:=by omega
   rw[show Yn r=decide (1≤r.length∧r.length≤8) by unfold Yn;rw[hz,hok,Bool.true_and]];refine⟨?_,rfl⟩;congr 2;rw[Bool.eq_iff_iff];simp;omega
def RF (d:Dn):List (List D):=KS 1 (d.map (rows Zm))
def FM (d:Dn):List Ob:=fam 161 2 (d.map (rows Zm))
abbrev obD (d:Dn):List Ob:= .drw 159 1 (RF d)::FM d
theorem ZJ7 (d:Dn):(RF d).length=d.length:=by unfold RF;rw[ZMJ,List.length_map]
theorem ZH4 (d:Dn):(FM d).length=d.length:=by unfold FM;rw[ZIC,List.length_map]
theorem ZaN (d:Dn) (j:Nat) (h:j<d.length):(d.map (rows Zm))[j]? =some (rows Zm (d.getD j [])):=by simp[h]
theorem ZVS (d:Dn) (j:Nat) (h:j<d.length):(RF d)[j]? =some [.ref (j+1) (d.getD j []).length 0 (d.getD j []).length]:=by
 unfold RF;rw[ZMR _ 1 j _ (ZaN d j h),YR,Nat.add_comm]
theorem ZT6 (d:Dn) (Y:List Ob) (j:Nat) (h:j<d.length):(FM d++Y)[j]? =some (.rows false 161 2 (rows Zm (d.getD j []))):=Zcn _ _ _ Y j _ (ZaN d j h)
theorem ZIG (d:Dn) (j:Nat) (h:j<d.length):(FM d)[j]? =some (.rows false 161 2 (rows Zm (d.getD j []))):=by rw[←ZT6 d [] j h,List.append_nil]
theorem ZTq (d:Dn) (Y:List Ob) (j:Nat) (h:j<d.length) (r:List Av):(FM d++Y).set j (.rows false 161 2 (rows Zm r))=FM (d.set j r)++Y:=by
 unfold FM;rw[Zaq _ _ _ Y j _ (by rw[List.length_map];exact h),List.map_set]
theorem Zb4 (d:Dn) (j:Nat) (h:j<d.length) (r:List Av):(FM d).set j (.rows false 161 2 (rows Zm r))=FM (d.set j r):=by
 have:=ZTq d [] j h r;rwa [List.append_nil,List.append_nil]at this
theorem ZWt (d:Dn) (j:Nat) (r:List Av) (h:r.length=(d.getD j []).length):RF (d.set j r)=RF d:=by
 unfold RF;refine ZIy _ _ _ ?_;rw[List.map_set,List.map_set,YR];apply List.ext_getElem?;intro i;rw[List.getElem?_set];split
 ·rename_i hij;subst hij;rw[YC,YC];by_cases hj:j<d.length
  ·simp[hj,YR]at h⊢;rw[h]
  ·simp[hj]
 ·rfl
theorem ZbJ (d:Dn) (r:List Av):RF (d++ [r])=RF d++ [[.ref (d.length+1) r.length 0 r.length]]:=by
 unfold RF;rw[List.map_append,List.map_singleton,ZKc,List.length_map,YR,Nat.add_comm]
theorem Zag (d:Dn) (r:List Av):FM (d++ [r])=FM d++ [.rows false 161 2 (rows Zm r)]:=by
 unfold FM;rw[List.map_append,List.map_singleton,ZX6]
theorem ZQb (d:Dn):(obD d).all (Ob.inP (fun i=>decide (i<(obD d).length)))=true:=ZZG 159 161 2 (d.map (rows Zm))
theorem ZTU:Enters Tryz.prog 188:=ZB ZH (p:=ZJF) rfl
theorem ZLf (d:Dn) (j:Nat):d.set j (d.getD j [])=d:=by
 by_cases h:j<d.length
 ·rw[show d.getD j []=d[j] by simp[h]];simp
 ·rw[List.set_eq_of_length_le (by omega)]
theorem ZdK (d:Dn) (j:Nat) (hj:j<d.length) (hb:smD d) (hl:(d.getD j []).length≤1000000):ZU Tryz.prog 188 [.ref (j+1) (d.getD j []).length 0 (d.getD j []).length] (obD d) (.x (.bool (Yn (d.getD j [])))) (obD d):=by
 have hbj: ∀p∈d.getD j [],p.1.length≤900000:=by rw[show d.getD j []=d[j] by simp[hj]];exact hb _ (List.getElem_mem hj)
 have hc:=Zdo (d.getD j []) hbj hl;have:=ZU.row (args:= [.ref (j+1) (d.getD j []).length 0 (d.getD j []).length]) (OS:=obD d) (j+1) (by rw[show Zx (Yb [j+1]) [D.ref (j+1) (d.getD j []).length 0 (d.getD j []).length]= [D.ref 0 (d.getD j []).length 0 (d.getD j []).length] by simp only[Zx,D.ren,Yb,if_true]];exact hc) (by rw[List.getElem?_cons_succ];exact ZIG d j hj) rfl (by simp[YY,D.inP,Zo]) (fun f=>rfl);rw[List.set_cons_succ,Zb4 d j hj,ZLf]at this;exact this
theorem ZcM (d:Dn) (hb:smD d) (hl: ∀r∈d,r.length≤1000000) (hld:d.length≤1000000):ZU Tryz.prog 168 [.ref 0 d.length 0 d.length] (obD d) (.x (.int .i64 (KJ d))) (obD d):=by
 have hRl:=ZJ7 d;have hFl:=ZH4 d;unfold KJ;refine ZN.mcalls (ZP (fz:=true) ZH (p:=ZHs) rfl _ (ξ rfl) _ (fun C0 E0=> ?_));dsimp only[ZHs,qt,qi,qs,qb,qm,qa,qh,qj,qT,qF,qe,ql,qL,qf,q2,q3,q8,qz,qp,qP,qc,qk,qx,qy,qo,qr,qC,ZQ];have uu:=ZA hRl (ZA hFl (ZA @ZGZ (ZA @ZF7 (ZA @ZF6 (@ZGB)))));have tT:=(ZG:SsOk Tryz.prog ZV);refine nz ?_;refine rg tT [0] ?_;refine rg tT [0,7] ?_;refine cd (fun h0=> ?_) (fun h0=> ?_)
 ·refine rg tT [2] ?_;refine lf ?_;rw[if_pos (by omega)];exact⟨rfl,rfl⟩
 ·refine rg tT [8,9,10] ?_;refine WI.loop (fun φ os=> ∃(j:Nat),φ= [(8,.ref 0 d.length 0 d.length),(9,.x (.int .i64 d.length)),(10,.x (.int .i64 j))]∧os=obD d∧j≤d.length∧(d.take j).all Yn=true) (ZK d.length 10) ?_ (fun φ os hI=> ?_)
  ·exact⟨0,rfl,rfl,by omega,rfl⟩
  ·obtain⟨j,rfl,rfl,hj,hall⟩:=hI;refine nz ?_;refine rg tT [8,9,10,11] ?_;refine cd (fun h1=> ?_) (fun h1=> ?_)
   ·have hj4:j<d.length:=by omega
    have hdj:d[j]=d.getD j []:=by simp[hj4]
    have hlj:(d.getD j []).length≤1000000:=by rw[←hdj];exact hl _ (List.getElem_mem hj4)
    have hrf:=ZVS d j hj4;have hfm:=ZIG d j hj4;have uu:=ZA uu (ZA hrf hfm);refine rg tT [4,8,9,10] ?_;refine rg (ZCA ZG ZTU (ZdK d j hj4 hb hlj)) [8,9,10,16] ?_;refine cd (fun h2=> ?_) (fun h2=> ?_)
    ·refine rg tT [2] ?_;refine lf ?_;rw[if_neg (by omega),if_neg (by rw[Ze Yn d j hj4 (by rw[hdj];simpa using h2)];decide)];exact⟨rfl,rfl⟩
    ·refine rg tT [8,9,10] ?_;exact⟨⟨j+1,rfl,rfl,by omega,by rw[YJ _ d j hj4,hall,hdj];simpa using h2⟩,by simp[ZK,Ab.get,D.val,ZF];omega⟩
   ·refine rg tT [2] ?_;refine lf ?_;rw[YN (by omega)]at hall;rw[if_neg (by omega),if_pos hall];exact⟨rfl,rfl⟩
theorem ZbY (s:Tx) (hl:s.length≤900000) (hok:(Zl s).2=true):ZU Tryz.prog 167 [.x (.str s)] [] (.tup [.ref 0 (Zl s).1.length 0 (Zl s).1.length,.x (.bool true)]) [.rows false 161 2 (rows Zm (Zl s).1)]:=by
 obtain⟨hb1,hb2⟩:=Qj 43 _ s (Nat.le_refl _);have hpl:(Zl s).1=(YQ 43 s).map (fun x=>(Yg x).1)∧(YQ 43 s).all (fun x=>(Yg x).2)=true:=by
  unfold Zl ZEn at hok⊢;split at hok
  ·rename_i h;rw[if_pos h];rw[List.all_map]at h;exact⟨by rw[List.map_map];rfl,h⟩
  ·cases hok
 obtain⟨hpl,hpa⟩:=hpl;rw[hpl];clear hok hpl;have hsp:YQ (UInt8.ofNat (43:Int).toNat) s=YQ 43 s:=rfl;refine ZN.mcalls (ZP (fz:=false) ZH (p:=ZJN) rfl _ (ξ rfl) _ (fun C0 E0=> ?_));dsimp only[ZJN,qt,qi,qs,qb,qm,qa,qh,qj,qT,qF,qe,ql,qL,qf,q2,q3,q8,qz,qp,qP,qc,qk,qx,qy,qo,qr,qC,ZQ];have uu:=ZA @KC.eq_1 (ZA @KC.eq_2 (ZA @ZC4.eq_1 (ZA @ZC4.eq_2 (ZA hsp (ZA @ZOt (ZA @ZMt (ZA @ZIm (@ZIw))))))));have tT:=ZMU;refine nz ?_;refine rg tT [0] ?_;refine rg tT [0,4] ?_;refine rg tT [4,10,11,12] ?_;refine WI.ownA 4 161 2 ?_;generalize YQ 43 s=l at hpa hb1 hb2⊢;refine WI.loop (fun φ os=> ∃(j:Nat),φ= [(4,.ref 0 j 0 j),(10,.x (.sl (rows ZJ l))),(11,.x (.int .i64 l.length)),(12,.x (.int .i64 j))]∧os= [.rows false 161 2 (rows Zm ((l.take j).map fun x=>(Yg x).1))]∧j≤l.length) (ZK l.length 12) ?_ (fun φ os hI=> ?_)
 ·exact⟨0,rfl,rfl,by omega⟩
 ·obtain⟨j,rfl,rfl,hj⟩:=hI;refine nz ?_;refine rg tT [4,10,11,12,13] ?_;refine cd (fun h0=> ?_) (fun h0=> ?_)
  ·have hj4:j<l.length:=by omega
   have hbj:=hb1 _ (List.getElem_mem hj4);have hpj:(Yg l[j]).2=true:=List.all_eq_true.1 hpa _ (List.getElem_mem hj4);have hsc:decide (l[j].length≤900000)=true:=ZM (by omega);have uu:=ZA uu hsc;refine rg tT [4,6,10,11,12] ?_;refine rg tT [4,7,8,10,11,12] ?_;refine rg tT [4,7,10,11,12,22] ?_;refine ce (fun h1=> ?_) (fun h1=> ?_)
   ·rw[hpj]at h1;simp at h1
   ·refine rgp tT [4,10,11,12] ?_;refine JA [0] ?_;refine Je ?_;refine nz ?_;refine WI.orderA [4,10,11,12] ?_;refine rg tT [4,10,11,12] ?_;exact⟨⟨j+1,rfl,by rw[List.take_succ_eq_append_getElem hj4,List.map_append,List.map_singleton,←ZGN],by omega⟩,by simp[ZK,Ab.get,D.val,ZF];omega⟩
  ·have e1:(rows Zm ((l.take j).map fun x=>(Yg x).1)).length=j:=by simp[rows];omega
   have e2:(l.take j).length=j:=by simp;omega
   have uu:=ZA uu (ZA e1 e2);refine rg tT [2,3] ?_;refine lf ?_;have hz:l.length=j:=by omega
   rw[YN (l:=l) (by omega),List.length_map,hz];exact⟨rfl,rfl⟩
theorem ZP8:Enters Tryz.prog 167:=ZB ZH (p:=ZJN) rfl
theorem ZbC (d:Dn) (s:Tx) (hl:s.length≤900000) (hok:(Zl s).2=true):ZU Tryz.prog 167 [.x (.str s)] (obD d) (.tup [.ref (d.length+1) (Zl s).1.length 0 (Zl s).1.length,.x (.bool true)]) (.drw 159 1 (RF d)::FM (d++ [(Zl s).1])):=by
 have:=ZU.new (OS:=obD d) (ZbY s hl hok) rfl (fun p=>rfl);rw[List.map_singleton,KR,ZH4]at this;rw[Zag];exact this
theorem ZNW:Enters Tryz.prog 168:=ZB ZH (p:=ZHs) rfl
theorem ZGW (s:Tx) (d:Dn) (hq:JT s=(d,0)) (hne:s≠ []):s.length≤4096∧(YQ 44 s).all (fun x=>(Zl x).2)=true∧d=(YQ 44 s).map (fun x=>(Zl x).1)∧mxD d≤8∧KJ d=0:=by
 unfold JT at hq;by_cases h1:s.length>4096
 ·rw[if_pos h1]at hq;cases hq
 rw[if_neg h1,if_neg hne]at hq;by_cases h2:(ZBV s).all (·.2)=true
 ·rw[if_pos h2]at hq;by_cases h3:mxD (Qy s)>8
  ·rw[if_pos h3]at hq;cases hq
  rw[if_neg h3]at hq;by_cases h4:KJ (Qy s)≠0
  ·rw[if_pos h4]at hq;simp only[Zc]at hq;exact absurd hq.2 h4
  rw[if_neg h4]at hq;simp only[Zc]at hq;obtain⟨rfl,-⟩:=hq;refine⟨by omega,?_,?_,by omega,Classical.not_not.1 h4⟩
  ·unfold ZBV at h2;rw[List.all_map]at h2;exact h2
  ·unfold Qy ZBV;rw[List.map_map];rfl
 ·rw[if_neg h2]at hq;cases hq
def ZKe:Tabs:=ZY (ZV) 166 KC
theorem ZVC:SsOk Tryz.prog ZKe:=ZL (ZG) (ZB ZH (p:=ZLC) rfl) ZGm
theorem ZPv (a:List D):ZKe.q 166 a=KC a:=rfl
theorem ZXS (f:FuncId) (a:List D) (o:List Ob):ZKe.r f a o=none:=rfl
theorem ZYK (f:FuncId) (a:List D) (o:List Ob):ZKe.k f a o=none:=rfl
set_option maxHeartbeats 1000000 in
theorem ZbN (s:Tx) (d:Dn) (hq:JT s=(d,0)) (hne:s≠ []):ZU Tryz.prog 131 [.x (.str s)] [] (.tup [.ref 0 d.length 0 d.length,.x (.int .i64 0)]) (obD d):=by
 obtain⟨hs4,hall,hd,hmx8,hck⟩:=ZGW s d hq hne;clear hq;obtain⟨hb1,hb2⟩:=Qj 44 _ s (Nat.le_refl _);have hsm:smD d:=by
  have:=ZGR s (by omega);unfold Qy ZBV at this;rw[List.map_map]at this;rw[hd];exact this
 have hsp:YQ (UInt8.ofNat (44:Int).toNat) s=YQ 44 s:=rfl;refine ZN.mcalls (ZP (fz:=false) ZH (p:=ZI9) rfl _ (ξ rfl) _ (fun C0 E0=> ?_));dsimp only[ZI9,qt,qi,qs,qb,qm,qa,qh,qj,qT,qF,qe,ql,qL,qf,q2,q3,q8,qz,qp,qP,qc,qk,qx,qy,qo,qr,qC,ZQ];have uu:=ZA @KC.eq_1 (ZA @KC.eq_2 (ZA hsp (ZA @ZGZ (ZA @ZF7 (ZA @ZF6 (ZA @ZGB (ZA @ZXS (ZA @ZYK (@ZPv)))))))));have tT:=ZVC;refine nz ?_;refine rg tT [0] ?_;refine rg tT [0,11] ?_;refine ce (fun h0=> ?_) (fun h0=> ?_)
 ·simp at h0;omega
 ·refine rg tT [0,15] ?_;refine ce (fun h1=> ?_) (fun h1=> ?_)
  ·exact hne (by simpa using h1)
  ·refine rg tT [0,4] ?_;refine rg tT [0,4,5] ?_;refine rg tT [4,5,19,20,21] ?_;refine WI.ownA 4 159 1 ?_;refine WI.toDA 0 ?_;generalize YQ 44 s=l at hb1 hb2 hall hd⊢;refine WI.loop (fun φ os=> ∃(j:Nat),φ= [(4,.ref 0 j 0 j),(5,.x (.int .i64 (mxD ((l.take j).map fun x=>(Zl x).1)))),(19,.x (.sl (rows ZJ l))),(20,.x (.int .i64 l.length)),(21,.x (.int .i64 j))]∧os=obD ((l.take j).map fun x=>(Zl x).1)∧j≤l.length) (ZK l.length 21) ?_ (fun φ os hI=> ?_)
   ·exact⟨0,rfl,rfl,by omega⟩
   ·obtain⟨j,rfl,rfl,hj⟩:=hI;refine nz ?_;refine rg tT [4,5,19,20,21,22] ?_;refine cd (fun h2=> ?_) (fun h2=> ?_)
    ·have hj4:j<l.length:=by omega
     have hbj:=hb1 _ (List.getElem_mem hj4);have hpc:=ZEW l[j] (by omega);have hpj:(Zl l[j]).2=true:=List.all_eq_true.1 hall _ (List.getElem_mem hj4);have hmt:(l.take (j+1)).map (fun x=>(Zl x).1)=(l.take j).map (fun x=>(Zl x).1)++ [(Zl l[j]).1]:=by rw[List.take_succ_eq_append_getElem hj4,List.map_append];rfl
     have hmx:mxD ((l.take (j+1)).map fun x=>(Zl x).1)=max (mxD ((l.take j).map fun x=>(Zl x).1)) (Zl l[j]).1.length:=by rw[hmt,ZJQ]
     have hml:((l.take j).map fun x=>(Zl x).1).length=j:=by rw[List.length_map,List.length_take];omega
     have hcall:=ZbC ((l.take j).map fun x=>(Zl x).1) l[j] (by omega) hpj;rw[hml]at hcall;generalize hM:(l.take j).map (fun x=>(Zl x).1)=M at hmt hmx hml hcall⊢;generalize hR:(Zl l[j]).1=r at hmt hmx hcall hpc⊢;have hrl:=ZJ7 M;have hfl:=ZH4 (M++ [r]);rw[Zs,List.length_singleton,hml]at hfl;have hfg: ∀x:Ob,(FM (M++ [r])++ [x])[j+1]? =some x:=fun x=>by rw[List.getElem?_append_right (by omega),hfl,Nat.sub_self];rfl
     rw[hml]at hrl;have hsn:=ZbJ M r;rw[hml]at hsn;have hfm:(FM (M++ [r]))[j]? =some (.rows false 161 2 (rows Zm r)):=by rw[ZIG (M++ [r]) j (by simp;omega)];simp[hml]
     have uu:=ZA uu (ZA hrl (ZA hfl (ZA hfg hfm)));refine rg tT [4,5,7,19,20,21] ?_;refine rg (ZCA ZG ZP8 hcall) [4,5,8,9,19,20,21] ?_;refine rg tT [4,5,8,19,20,21,31] ?_;refine ce (fun h3=> ?_) (fun h3=> ?_)
     ·simp at h3
     ·refine rg tT [4,5,8,19,20,21] ?_;refine WI.post ?_;refine WI.regB tT [4,5,19,20,21] ?_
      iterate 2 refine oS ?_
      iterate 2 refine oG ?_
      refine oS ?_;refine oP ?_;refine ZKL (obD (M++ [r])) _ (by rw[obD,hsn];rfl) (Nat.zero_le _) (ZQb _) (by simp only[List.all_cons,List.all_nil,D.inP,KR,hfl];simp) ?_;refine Je ?_;refine nz ?_;refine WI.orderA [4,5,19,20,21] ?_;refine rg tT [4,5,19,20,21] ?_;exact⟨⟨j+1,by rw[hmx,ZUB];first|done|rfl,by rw[hmt],by omega⟩,by simp[ZK,Ab.get,D.val,ZF];omega⟩
    ·obtain rfl:j=l.length:=by omega
     rw[List.take_length,←hd];have hdl:d.length=l.length:=by rw[hd,List.length_map]
     rw[←hdl];have hcc:=ZcM d hsm (fun r hr=>by rw[hd]at hr;obtain⟨x,h1,rfl⟩:=List.mem_map.1 hr;have:=ZEW x (by have:=hb1 x h1;omega);omega) (by omega);rw[hck]at hcc;refine rg tT [4,42] ?_;refine ce (fun h4=> ?_) (fun h4=> ?_)
     ·simp at h4;omega
     ·refine rg (ZCA ZG ZNW hcc) [4,10] ?_;refine rg tT [4,10,46] ?_;refine ce (fun h5=> ?_) (fun h5=> ?_)
      ·simp at h5
      ·refine rg tT [2,3] ?_;refine lf ?_;exact⟨rfl,rfl⟩
def dgD (n:Nat):UInt8:=ZCL.getD n 0
def ZJa (c:UInt8):Bool:=decide ((c.toNat:Int)<32)||decide ((c.toNat:Int)=127)
def slD (c:UInt8) (f l:Bool):Bool:=spc c.toNat||(f&&(decide ((c.toNat:Int)=32)||decide ((c.toNat:Int)=35))||l&&decide ((c.toNat:Int)=32))
def ZGO (c:UInt8) (f l:Bool):Tx:=if ZJa c=true then [92,dgD (c.toNat/16),dgD (c.toNat % 16)]else if slD c f l=true then [92,c]else [c]
def QH (s:Tx) (j:Nat):Tx:=ZGO (s.getD j 0) (decide (j=0)) (decide (j+1=s.length))
def Qh (s:Tx):Nat→Tx
 |0=> []
 |j+1=>Qh s j++QH s j
def ZDM (s:Tx):Tx:=Qh s s.length
theorem ZYS (c:UInt8) (f l:Bool):(ZGO c f l).length≤3:=by unfold ZGO;split;simp;split<;>simp
theorem ZCK (s:Tx): ∀j,(Qh s j).length≤3*j
 |0=>by simp[Qh]
 |j+1=>by
  have h1:=ZCK s j;have h2:=ZYS (s.getD j 0) (decide (j=0)) (decide (j+1=s.length));rw[Qh,Zs];unfold QH;omega
theorem ZaE (n:Nat) (h:n<256):IntKind.u8.wrap ((n:Int).tdiv 16)=((n/16:Nat):Int):=by
 rw[show(n:Int).tdiv 16=((n/16:Nat):Int)from rfl,IntWalk.u8_in _ (by omega)]
theorem ZZz (n:Nat):(n:Int).tmod 16=((n % 16:Nat):Int):=rfl
theorem Zac (b:Tx) (c d e:UInt8):b.map Zk++ [[X.int .u8 (c.toNat:Int)],[X.int .u8 (d.toNat:Int)],[X.int .u8 (e.toNat:Int)]]=(b++ [c,d,e]).map Zk:=by rw[List.map_append];rfl
theorem Zbu (b:Tx) (c:UInt8):b.map Zk++ [[X.int .u8 (c.toNat:Int)]]=(b++ [c]).map Zk:=by rw[List.map_append];rfl
def ZKd:Tabs:=ZY (ZV) 202 ZAc
theorem ZVa:SsOk Tryz.prog ZKd:=ZL (ZG) (ZB ZH (p:=ZKt) rfl) ZJG
theorem ZPy (a:List D):ZKd.q 202 a=ZAc a:=rfl
theorem ZYz (f:FuncId) (a:List D) (o:List Ob):ZKd.r f a o=none:=rfl
theorem ZY8 (f:FuncId) (a:List D) (o:List Ob):ZKd.k f a o=none:=rfl
theorem Zao (s:Tx) (hl:s.length≤1000000):ZC Tryz.prog 176 [.x (.str s)] (.x (.str (ZDM s))):=by
 have hsl: ∀n,inB [44,43,34,92,60,62,59,61] n=spc n:=fun n=>rfl
 have hud: ∀n:Nat,([48,49,50,51,52,53,54,55,56,57,97,98,99,100,101,102]:Tx).getD n 0=dgD n:=fun n=>rfl
 refine ZN.pure (ZP (fz:=true) ZH (p:=ZTI) rfl _ (ξ rfl) _ (fun C0 E0=> ?_)) rfl;dsimp only[ZTI,qt,qi,qs,qb,qm,qa,qh,qj,qT,qF,qe,ql,qL,qf,q2,q3,q8,qz,qp,qP,qc,qk,qx,qy,qo,qr,qC,ZQ];have uu:=ZA @ZAc.eq_1 (ZA @ZAc.eq_2 (ZA hsl (ZA hud (ZA @YX (ZA @Jn (ZA @ZYz (ZA @ZY8 (@ZPy))))))));have tT:=ZVa;refine nz ?_;refine rg tT [0] ?_;refine rg tT [0,3] ?_;refine rg tT [0,3,9,10,11] ?_;refine WI.ownA 3 5 1 ?_;refine WI.loop (fun φ os=> ∃(j:Nat),φ= [(0,.x (.str s)),(3,.ref 1 (Qh s j).length 0 (Qh s j).length),(9,.ref 0 s.length 0 s.length),(10,.x (.int .i64 s.length)),(11,.x (.int .i64 j))]∧os= [.rows true 5 1 (s.map Zk),.rows false 5 1 ((Qh s j).map Zk)]∧j≤s.length) (ZK s.length 11) ?_ (fun φ os hI=> ?_)
 ·exact⟨0,rfl,rfl,by omega⟩
 ·obtain⟨j,rfl,rfl,hj⟩:=hI;have hle:=ZCK s j;refine nz ?_;refine rg tT [0,3,9,10,11,12] ?_;refine cd (fun h0=> ?_) (fun h0=> ?_)
  ·have hj4:j<s.length:=by omega
   have hst:Qh s (j+1)=Qh s j++QH s j:=rfl;have hb8:(s.getD j 0).toNat<256:=UInt8.toNat_lt _;have q0:(decide (0≤((s.getD j 0).toNat:Int)))=true:=ZM (by omega);have q1:=ZaE _ hb8;have q2:=ZZz (s.getD j 0).toNat;have q3:decide (((s.getD j 0).toNat/16:Nat)<(16:Int))=true:=ZM (by omega);have q4:decide (((s.getD j 0).toNat % 16:Nat)<(16:Int))=true:=ZM (by omega);have uu:=ZA uu (ZA (ZOl s j hj4) (ZA q0 (ZA q1 (ZA q2 (ZA q3 q4)))));refine rg tT [0,3,4,5,9,10,11] ?_;refine rg tT [0,3,5,6,7,9,10,11] ?_;refine rg tT [0,3,5,6,7,9,10,11,23] ?_;refine cd (fun h1=> ?_) (fun h1=> ?_)
   ·have hA:QH s j= [92,dgD ((s.getD j 0).toNat/16),dgD ((s.getD j 0).toNat % 16)]:=by unfold QH ZGO ZJa;rw[if_pos (by clear uu;grind)]
    have hn:(QH s j).length=3:=by rw[hA];rfl
    have hrow:(Qh s j).map Zk++ [[X.int .u8 92],[X.int .u8 ((dgD ((s.getD j 0).toNat/16)).toNat:Int)],[X.int .u8 ((dgD ((s.getD j 0).toNat % 16)).toNat:Int)]]=(Qh s j++QH s j).map Zk:=by rw[hA];exact Zac _ 92 _ _
    refine WI.post ?_;refine WI.dregB tT [0,3,9,10,11] ?_
    iterate 2 refine Zn ?_
    iterate 2 refine Ye ?_
    refine Zn ?_
    iterate 2 refine Ye ?_
    iterate 2 refine dAG ?_
    refine Zn ?_;refine dP ?_;refine JA [0,1] ?_;refine Je ?_;refine nz ?_;refine WI.orderA [0,3,9,10,11] ?_;refine rg tT [0,3,9,10,11] ?_;exact⟨⟨j+1,by rw[hst,Zs,hn];first|done|rfl,by rw[hst,←hrow];first|done|rfl,by omega⟩,by simp[ZK,Ab.get,D.val,ZF];omega⟩
   ·refine rg tT [0,3,5,9,10,11,39] ?_;refine cd (fun h2=> ?_) (fun h2=> ?_)
    ·have hA:QH s j= [92,s.getD j 0]:=by unfold QH ZGO ZJa slD;rw[if_neg (by clear uu;grind),if_pos (by clear uu;grind)]
     have hn:(QH s j).length=1+1:=by rw[hA];rfl
     have hrow:(Qh s j).map Zk++ [[X.int .u8 92]]++ [[X.int .u8 ((s.getD j 0).toNat:Int)]]=(Qh s j++QH s j).map Zk:=by rw[hA,List.append_assoc,List.map_append];rfl
     refine rgp tT [0,3,5,9,10,11] ?_;refine JA [0,1] ?_;refine Je ?_;refine nz ?_;refine rgp tT [0,3,9,10,11] ?_;refine JA [0,1] ?_;refine Je ?_;refine nz ?_;refine WI.orderA [0,3,9,10,11] ?_;refine rg tT [0,3,9,10,11] ?_;exact⟨⟨j+1,by rw[hst,Zs,hn];first|done|rfl,by rw[hst,←hrow];first|done|rfl,by omega⟩,by simp[ZK,Ab.get,D.val,ZF];omega⟩
    ·have hA:QH s j= [s.getD j 0]:=by unfold QH ZGO ZJa slD;rw[if_neg (by clear uu;grind),if_neg (by clear uu;grind)]
     have hn:(QH s j).length=1:=by rw[hA];rfl
     have hrow:(Qh s j).map Zk++ [[X.int .u8 ((s.getD j 0).toNat:Int)]]=(Qh s j++QH s j).map Zk:=by rw[hA];exact Zbu _ _
     refine rgp tT [0,3,9,10,11] ?_;refine JA [0,1] ?_;refine Je ?_;refine nz ?_;refine WI.orderA [0,3,9,10,11] ?_;refine rg tT [0,3,9,10,11] ?_;exact⟨⟨j+1,by rw[hst,Zs,hn];first|done|rfl,by rw[hst,←hrow];first|done|rfl,by omega⟩,by simp[ZK,Ab.get,D.val,ZF];omega⟩
  ·have uu:=ZA uu (ZJy (Qh s j));refine rg tT [2] ?_;refine lf ?_;obtain rfl:j=s.length:=by omega
   first|rfl|(simp only[Jn,ZJy];first|done|rfl)
def ZFo:List D→Option (Bool×D)
 | [.x (.str s)]=>some (decide (s.length≤1000000),.x (.str (ZDM s)))
 |_=>none
theorem ZWk: ∀args r,ZFo args=some (true,r)→ZC Tryz.prog 176 args r:=by
 intro args r h;unfold ZFo at h;split at h
 ·rename_i s;simp only[Zf,Zc,ZW,Zj,true_and]at h;obtain⟨h1,rfl⟩:=h;exact(Zao s h1)
 ·cases h
theorem Zbd: ∀m:Fin 16,(ZCL.take (m.val+1)).drop m.val= [dgD m.val]:=by decide+kernel
theorem ZUn (m:Nat) (h:m<16):(ZCL.take (m+1)).drop m= [dgD m]:=Zbd ⟨m,h⟩
theorem ZWC (m:Nat) (h:m<16):IntKind.u8.wrap ((m:Int)+1)=((m+1:Nat):Int):=by rw[IntWalk.u8_in _ (by omega)];rfl
theorem ZQW (s:Tx) (j:Nat) (h:j<s.length):List.drop j (List.take ((j:Int)+1).toNat s)= [s.getD j 0]:=by
 rw[show((j:Int)+1).toNat=j+1 by omega,List.take_succ_eq_append_getElem h,List.drop_append_of_le_length (by simp;omega),List.drop_of_length_le (by simp;omega)];simp[h]
theorem ZXk:ZCL.length=16:=rfl
def ZJe:Tabs:=ZY (ZV) 204 QZ
theorem ZTs:SsOk Tryz.prog ZJe:=ZL (ZG) (ZB ZH (p:=ZN2) rfl) ZIr
theorem ZPo (a:List D):ZJe.q 204 a=QZ a:=rfl
theorem ZYl (f:FuncId) (a:List D) (o:List Ob):ZJe.r f a o=none:=rfl
theorem ZYt (f:FuncId) (a:List D) (o:List Ob):ZJe.k f a o=none:=rfl
theorem ZbL (s:Tx) (hl:s.length≤1000000):ZC Tryz.prog 182 [.x (.str s)] (.x (.str (ZDM s))):=by
 refine ZN.pure (ZP (fz:=true) ZH (p:=ZSj) rfl _ (ξ rfl) _ (fun C0 E0=> ?_)) rfl;dsimp only[ZSj,qt,qi,qs,qb,qm,qa,qh,qj,qT,qF,qe,ql,qL,qf,q2,q3,q8,qz,qp,qP,qc,qk,qx,qy,qo,qr,qC,ZQ];have uu:=ZA @QZ.eq_1 (ZA @QZ.eq_2 (ZA @ZYl (ZA @ZYt (@ZPo))));have tT:=ZTs;refine nz ?_;refine rg tT [0] ?_;refine rg tT [0,3] ?_;refine rg tT [0,3,4] ?_;refine rg tT [0,3,4,5] ?_;refine WI.loop (fun φ os=> ∃(j:Nat),φ= [(0,.x (.str s)),(3,.x (.str ZCL)),(4,.x (.str (Qh s j))),(5,.x (.int .i64 j))]∧os= []∧j≤s.length) (ZK s.length 5) ?_ (fun φ os hI=> ?_)
 ·exact⟨0,rfl,rfl,by omega⟩
 ·obtain⟨j,rfl,rfl,hj⟩:=hI;have hle:=ZCK s j;refine nz ?_;refine rg tT [0,3,4,5,10] ?_;refine cd (fun h0=> ?_) (fun h0=> ?_)
  ·have hj4:j<s.length:=by omega
   have hst:Qh s (j+1)=Qh s j++QH s j:=rfl;have hb8:(s.getD j 0).toNat<256:=UInt8.toNat_lt _;have q0:(decide (0≤((s.getD j 0).toNat:Int)))=true:=ZM (by omega);have uu:=ZA uu q0;refine rg tT [0,3,4,5,6] ?_;refine rg tT [0,3,4,5,6,23] ?_;refine cd (fun h1=> ?_) (fun h1=> ?_)
   ·have hA:QH s j= [92,dgD ((s.getD j 0).toNat/16),dgD ((s.getD j 0).toNat % 16)]:=by unfold QH ZGO ZJa;rw[if_pos (by clear uu;grind)]
    have uu:=ZA uu (ZA (show decide (((s.getD j 0).toNat/16:Nat)≤(((s.getD j 0).toNat/16+1:Nat):Int))=true from ZM (by omega)) (ZA (show decide (((s.getD j 0).toNat/16+1:Nat)≤((16:Nat):Int))=true from ZM (by omega)) (ZA (ZaE _ hb8) (ZA (ZZz (s.getD j 0).toNat) (ZA (ZUn ((s.getD j 0).toNat/16) (by omega)) (ZA (ZUn ((s.getD j 0).toNat % 16) (by omega)) (ZA (ZWC ((s.getD j 0).toNat/16) (by omega)) (ZA (ZWC ((s.getD j 0).toNat % 16) (by omega)) ZXk))))))));refine WI.dregB tT [0,3,4,5] ?_;refine Zn ?_;refine Ye ?_
    iterate 2 refine Zn ?_
    refine Ye ?_;refine Zn ?_
    iterate 4 refine Ye ?_
    iterate 2 refine Zn ?_
    refine Ye ?_;refine Zn ?_
    iterate 4 refine Ye ?_
    refine Zn ?_;refine dN ?_;refine nz ?_;refine rg tT [0,3,4,5] ?_;exact⟨⟨j+1,by rw[hst,hA];first|done|rfl|simp,rfl,by omega⟩,by simp[ZK,Ab.get,D.val,ZF];omega⟩
   ·refine rg tT [0,3,4,5,48] ?_;refine cd (fun h2=> ?_) (fun h2=> ?_)
    ·have hA:QH s j= [92,s.getD j 0]:=by unfold QH ZGO ZJa slD;rw[if_neg (by clear uu;grind),if_pos (by clear uu;grind)]
     have uu:=ZA uu (ZQW s j hj4);refine rg tT [0,3,4,5] ?_;refine rg tT [0,3,4,5] ?_;exact⟨⟨j+1,by rw[hst,hA];first|done|rfl|simp,rfl,by omega⟩,by simp[ZK,Ab.get,D.val,ZF];omega⟩
    ·have hA:QH s j= [s.getD j 0]:=by unfold QH ZGO ZJa slD;rw[if_neg (by clear uu;grind),if_neg (by clear uu;grind)]
     have uu:=ZA uu (ZQW s j hj4);refine rg tT [0,3,4,5] ?_;refine rg tT [0,3,4,5] ?_;exact⟨⟨j+1,by rw[hst,hA];first|done|rfl|simp,rfl,by omega⟩,by simp[ZK,Ab.get,D.val,ZF];omega⟩
  ·refine rg tT [2] ?_;refine lf ?_;obtain rfl:j=s.length:=by omega
   rfl
def ZF0:List D→Option (Bool×D)
 | [.x (.str s)]=>some (decide (s.length≤1000000),.x (.str (ZDM s)))
 |_=>none
theorem ZWW: ∀args r,ZF0 args=some (true,r)→ZC Tryz.prog 182 args r:=by
 intro args r h;unfold ZF0 at h;split at h
 ·rename_i s;simp only[Zf,Zc,ZW,Zj,true_and]at h;obtain⟨h1,rfl⟩:=h;exact(ZbL s h1)
 ·cases h
end Go.Proofs.YtpjfdjcejamebaaGreatDoor
end
section
namespace Go.Proofs
open Go.Shelf Go.RowKit Go.Lib
set_option maxHeartbeats 1000000 in
theorem Any1.strings_Split_one {P:Program} {ρ:Ren} (L:Lays.n146 P ρ) (hi9:(P.info? (ρ.t 9)).map (fun i=>(i.zero,i.size,i.bytes))=some (some (.string ByteArray.empty),1,16)) (s:ByteArray) (b:UInt8) (w:World) (hs:s.size<4294967281):
  Calls P (ρ.f 146) #[.string s,.string ⟨#[b]⟩] w fun e w'=>
   e= .returned (.slice (some ⟨w.heap.size,0,none⟩) (Lib.countB s ⟨#[b]⟩+1) (Lib.countB s ⟨#[b]⟩+1))∧w'=w.alloc (.cells ((Lib.splitB ⟨#[b]⟩ 0 (Lib.countB s ⟨#[b]⟩) s).map Value.string).toArray (ρ.t 9)):=by
 have h1:1≤(⟨#[b]⟩:ByteArray).size:=Nat.le_refl _;have hle:=Lib.countB_le ⟨#[b]⟩ h1 s.size s (Nat.le_refl _);have hlen:=Lib.splitB_all ⟨#[b]⟩ h1 0 _ s rfl;have hI: ∀(x:ByteArray) (c:Array Value),x.size≤s.size→Calls P (ρ.f 143) #[.string x,.string ⟨#[b]⟩] (w.alloc (.cells c (ρ.t 9))) fun e w'=>e= .returned (.int .i64 (Lib.indexB x ⟨#[b]⟩))∧w'=w.alloc (.cells c (ρ.t 9)):=fun x c hx=>by
  refine(Any.strings_Index_one {L with} x b _).mono fun e w' ⟨he,hw⟩=>⟨?_,hw⟩
  rw[he,Lib.indexB,Lib.index_one]
 have hC:Calls P (ρ.f 138) #[.string s,.string ⟨#[b]⟩] w fun e w'=>e= .returned (.int .i64 (Lib.countB s ⟨#[b]⟩))∧w'=w:=by
  refine(Any.strings_Count_one {L with} s b w).mono fun e w' ⟨he,hw⟩=>⟨?_,hw⟩
  rw[he];show _=Ending.returned (Value.int .i64 ((Lib.count s.data.toList [b]:Nat):Int));rw[Lib.count_one];rfl
 have c:=Any.strings_genSplit_core {L with} hi9 s ⟨#[b]⟩ 0 (-1) (Lib.countB s ⟨#[b]⟩+1) w hs h1 (Nat.zero_le _) hI hC (by decide) (by decide) (by rw[if_pos (by decide)];omega);rw[Nat.add_sub_cancel,hlen]at c;have e2:Lib.cellsOf (Lib.splitB ⟨#[b]⟩ 0 (Lib.countB s ⟨#[b]⟩) s) (Lib.countB s ⟨#[b]⟩+1)=((Lib.splitB ⟨#[b]⟩ 0 (Lib.countB s ⟨#[b]⟩) s).map Value.string).toArray:=by rw[←hlen];exact Lib.cellsOf_full _
 rw[e2]at c;have t3:=L.t3;have t9:=L.t9;have t31:=L.t31;have a3:=L.a3;have a9:=L.a9;have a31:=L.a31;have z3:=L.z3;have v3:=L.v3;have z9:=L.z9;have v9:=L.v9;have z31:=L.z31;have v31:=L.v31;have e221: ∀args w,(callFunc (ρ.f 221) args).run P w= .ok (.enter (ρ.f 221) args) w:=enters_of L.f221 (by kernel_rfl) rfl
 go_enter L.f146,Body.n146_ntmps ρ
 go_wp2_with (go_at_fn (ρ.f 221);refine c.mono ?_;rintro e w' ⟨rfl,hw⟩;rw[hw])
 go_ret
 exact⟨rfl,rfl⟩
end Go.Proofs
namespace Go.Proofs.YtpjfdjcejamebaaGreatDoor
open Go.RowKit Go.Bo Go.Ab
def Jh (c:UInt8):List UInt8→List (List UInt8)
 | []=> [[]]
 |b::l=>if b=c then []::Jh c l else match Jh c l with
  |x::r=>(b::x)::r
  | []=> [[b]]
theorem ZcP (c:UInt8): ∀s,Jh c s≠ []
 | []=>by simp[Jh]
 |b::l=>by unfold Jh;split;simp;split<;>simp
theorem ZaV (c b:UInt8) (l:List UInt8) (h:b≠c): ∀k,Lib.splitK [c] 0 k (b::l)=match Lib.splitK [c] 0 k l with
  |x::r=>(b::x)::r
  | []=> [[b]]
 |0=>rfl
 |k+1=>by
  have hp: [c].isPrefixOf (b::l)=false:=by simp[List.isPrefixOf];exact fun e=>h e.symm
  simp only[Lib.splitK,Lib.index,hp,Bool.false_eq_true,if_false];by_cases hi:(Lib.index l [c]== -1)=true
  ·simp[hi]
  ·have hn:=Lib.index_ge l [c];simp only[hi,Bool.false_eq_true,if_false];simp at hi;have h1:(Lib.index l [c]+1== -1)=false:=by simp;omega
   obtain⟨n,hn⟩: ∃n:Nat,Lib.index l [c]=n:=⟨(Lib.index l [c]).toNat,by omega⟩;simp[hn,h1];intro h;omega
theorem ZXI (c:UInt8): ∀s,Lib.splitK [c] 0 (Lib.count s [c]) s=Jh c s
 | []=>by
  have:Lib.count [] [c]=0:=by rw[Lib.count_one];rfl
  rw[this];rfl
 |b::l=>by
  have ih:=ZXI c l;by_cases h:b=c
  ·subst h;rw[Lib.count_cons_eq,Nat.add_comm];have hp: [b].isPrefixOf (b::l)=true:=by simp[List.isPrefixOf]
   simp only[Lib.splitK,Lib.index,hp,if_true,Jh];simp[ih]
  ·rw[Lib.count_cons_ne _ _ _ h,ZaV _ _ _ h,ih,Jh,if_neg h]
theorem ZbO (s:List UInt8) (c:UInt8) (h:s.length≤1000000):ZC Tryz.prog 137 [.x (.str s),.x (.str [c])] (.x (.sl (rows ZJ (Jh c s)))):=by
 intro w st vs hst hvl;obtain⟨hsz,hv⟩:=hvl;obtain⟨v0,v1,rfl⟩: ∃v0 v1,vs= #[v0,v1]:=by
  obtain⟨vl⟩:=vs
  match vl,hsz with
  | [a,b],_=>exact⟨a,b,rfl⟩
 have h0:=hv 0 _ v0 rfl rfl;have h1:=hv 1 _ v1 rfl rfl;clear hv hsz;cases h0 with
 |x h0=>
 cases h1 with
 |x h1=>
 cases h1 with
 |str _=>
 cases h0 with
 |str _=>
 have hlen:=Lib.splitB_all ⟨#[c]⟩ (Nat.le_refl _) 0 _ (ZZ s) rfl;have hD:(Lib.splitB ⟨#[c]⟩ 0 (Lib.countB (ZZ s) ⟨#[c]⟩) (ZZ s)).map (·.data.toList)=Jh c s:=by
  rw[Lib.splitB_data];have e:(ZZ s).data.toList=s:=by simp[ZZ]
  show Lib.splitK [c] 0 (Lib.count (ZZ s).data.toList [c]) (ZZ s).data.toList=_;rw[e];exact ZXI c s
 have hle:=Lib.countB_le ⟨#[c]⟩ (Nat.le_refl _) (ZZ s).size (ZZ s) (Nat.le_refl _);have hbs:(ZZ s).size=s.length:=by simp[ZZ,ByteArray.size]
 refine(Any1.strings_Split_one Tryz.lays146 (by kernel_rfl) (ZZ s) c w (by omega)).mono ?_;generalize Lib.splitB ⟨#[c]⟩ 0 (Lib.countB (ZZ s) ⟨#[c]⟩) (ZZ s)=ps at hlen hD⊢;generalize Lib.countB (ZZ s) ⟨#[c]⟩=k at hlen hle⊢;rintro e w' ⟨rfl,rfl⟩;refine⟨_,fun b o=>st b o∨(b=w.heap.size∧o<k+1),rfl,?_,fun _ _ h=> .inl h,?_,?_⟩
 ·exact JU w _
 ·rintro b o (h|⟨rfl,h⟩)
  ·exact .inl h
  ·exact .inr ⟨Nat.le_refl _,by simp⟩
 ·rw[←hD];refine .x (.sl _ _ _ _ 1 (fun i _=> .string (ps[i]?.getD default)) ?_ (Nat.le_refl _) ?_ ?_ ?_ (fun h=>by cases h) (fun _ ad h=>by cases h;rfl) ?_)
  ·rw[YR,List.length_map];exact hlen
  ·show k+1≤maxLen;simp only[maxLen];omega
  ·intro r hr;simp only[rows,List.mem_map]at hr;obtain⟨x,_,rfl⟩:=hr;rfl
  ·intro i j hi hj;have hj0:j=0:=by omega
   subst hj0;refine⟨_,_,rfl,.inr ⟨rfl,by omega⟩,?_⟩;have hip:i<ps.length:=by omega
   rw[show 0+i*1+0=i by omega,World.cell?_alloc_at _ _ _ _ rfl];simp only[List.getElem?_toArray,YC,YE hip,Option.map_some,Option.getD_some]
  ·intro i j r x hr hx;simp only[rows,YC,Option.map_map,Kh]at hr;obtain⟨y,hy,rfl⟩:=hr;simp only[Function.comp,ZJ,RC.enc]at hx;rcases j with _|j
   ·simp at hx;subst hx;simp only[hy,Option.getD_some];have:y=ZZ y.data.toList:=by simp[ZZ]
    conv=>rhs;rw[this]
    exact .str _
   ·simp at hx
theorem ZNs:Go.Ab.Enters Tryz.prog 137:=Go.Proofs.enters_of Tryz.lays146.f146 (by kernel_rfl) rfl
theorem ZMo (l:List (List UInt8)):(l.map ZZ).map (·.data.toList)=l:=by
 rw[List.map_map]
 conv=>rhs;rw[←List.map_id l]
 exact List.map_congr_left fun x _=>by simp[ZZ]
theorem ZdJ (l:List (List UInt8)) (sep:List UInt8) (h:(Lib.join l sep).length≤140737488355328) (hl:l.length≤140737488355328):ZC Tryz.prog 97 [.x (.sl (rows ZJ l)),.x (.str sep)] (.x (.str (Lib.join l sep))):=by
 intro w st vs hst hvl;obtain⟨hsz,hv⟩:=hvl;obtain⟨v0,v1,rfl⟩: ∃v0 v1,vs= #[v0,v1]:=by
  obtain⟨vl⟩:=vs
  match vl,hsz with
  | [a,b],_=>exact⟨a,b,rfl⟩
 have h0:=hv 0 _ v0 rfl rfl;have h1:=hv 1 _ v1 rfl rfl;clear hv hsz;cases h0 with
 |x h0=>
 cases h1 with
 |x h1=>
 cases h1 with
 |str _=>
 cases h0 with
 |sl _ a n c sz val hn hc hm hsz hcell hnil hsp hval=>
  rw[YR]at hn;subst hn
  match l,h,hl,hc,hsz,hcell,hval with
  | [],_,_,_,_,_,_=>
   refine(Tryz.strings_Join_none a c (ZZ sep) w).mono ?_;rintro e w' ⟨rfl,rfl⟩;exact⟨_,st,rfl,Kept.refl _ _,fun _ _ h=>h,fun _ _ h=> .inl h,.x (.str [])⟩
  |x::r,h,hl,hc,hsz,hcell,hval=>
   obtain rfl:1=sz:=hsz [.str x] (by simp[rows,ZJ]);obtain⟨b,off,rfl,hs0,_⟩:=hcell 0 0 (by simp) (by omega);have hcells: ∀(j:Nat) y,((x::r).map ZZ)[j]? =some y→w.cell? ⟨b,off+j,none⟩=some (.string y):=by
    intro j y hy;rw[YC]at hy;obtain⟨z,hz,rfl⟩:=Zd hy;have hj:j<(x::r).length:=(Za hz).1;obtain⟨b',off',e,_,hw⟩:=hcell j 0 hj (by omega);simp only[Zf,Addr.mk.injEq]at e;obtain⟨rfl,rfl,_⟩:=e;have hx:=hval j 0 [.str z] (.str z) (by simp only[rows,YC,hz];rfl) rfl;rw[show off+j=off+j*1+0 by omega,hw];generalize val j 0=u at hx;cases hx with
    |str _=>rfl
   have hlen:(Lib.join (((x::r).map ZZ).map (·.data.toList)) (ZZ sep).data.toList).length≤140737488355328:=by
    rw[ZMo];simpa[ZZ]using h
   have hc':((x::r).map ZZ).length≤c:=by rw[List.length_map];exact hc
   have:=Tryz.strings_Join b off c ((x::r).map ZZ) (ZZ sep) w hcells (hst _ _ hs0) (by rw[List.length_map];exact hl) hc' hlen;rw[List.length_map,ZMo]at this;refine this.mono ?_;rintro e w' ⟨rfl,hb⟩;refine⟨_,st,rfl,Kept.of_none (KP.grown hb none),fun _ _ h=>h,fun _ _ h=> .inl h,?_⟩;have:(ZZ sep).data.toList=sep:=by simp[ZZ]
   rw[this];exact .x (.str _)
theorem ZCr:Go.Ab.Enters Tryz.prog 97:=Go.Proofs.enters_of Tryz.lays156.f156 (by kernel_rfl) rfl
end Go.Proofs.YtpjfdjcejamebaaGreatDoor
end
