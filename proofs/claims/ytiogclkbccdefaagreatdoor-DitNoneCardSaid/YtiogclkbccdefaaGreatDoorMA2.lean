import Derived.Test.YtiogclkbccdefaaGreatDoorMA1
import Derived.Test.YtiogclkbccdefaaGreatDoorLA5
import Derived.Test.YtiogclkbccdefaaGreatDoorProg
import Derived.Shelf.Spec.SlicesGrow
import Derived.Test.YtiogclkbccdefaaGreatDoorSh
import Derived.Handy
import Derived.Lib.SlBytesConst
import Derived.Shelf.Strings.Cut
set_option linter.unusedSimpArgs false
set_option linter.unusedVariables false
set_option maxRecDepth 100000
section
namespace Go.Proofs.YtiogclkbccdefaaGreatDoor
open Go.RowKit Go.Bo Go.Ab
def cmpS(a b:List UInt8):Int:=if Op.bytesLess a b=true then-1 else if Op.bytesLess b a=true then 1 else 0
theorem ZYf(s:List UInt8):ZC Tryz.prog 129 [.x (.str s)] (.x (.bool false)):=by
 have hbs: ∀x:List UInt8,(x !=x)=false:=fun x=>by simp
 refine ZJ.pure (fC 129 true ?_) rfl;intro C0 E0;have uu:=hbs;have tT:=(ZF:SsOk Tryz.prog ZS);refine nz ?_;refine rg tT [0] ?_;refine rg tT [2] ?_;refine lf ?_
 first|rfl|exact⟨rfl,rfl⟩|trivial
def ZFw:List D→Option (Bool×D)
 | [.x (.str s)]=>some (true,.x (.bool false))
 |_=>none
theorem ZSX: ∀args r,ZFw args=some (true,r)→ZC Tryz.prog 129 args r:=by
 intro args r h;unfold ZFw at h;split at h
 ·rename_i s;simp only[Za,Zb,ZQ,Zg,true_and]at h;obtain rfl:=h;exact(ZYf s)
 ·cases h
def ZKa:Tabs:=ZU (ZS) 129 ZFw
theorem ZUQ:SsOk Tryz.prog ZKa:=ZH (ZF) (Zc 129) ZSX
theorem ZWR:(∀a,ZKa.q 129 a=ZFw a)∧(∀f a o,ZKa.r f a o=none)∧(∀f a o,ZKa.k f a o=none):=⟨fun _=>rfl,fun _ _ _=>rfl,fun _ _ _=>rfl⟩
theorem cmpS_c(a b:List UInt8):ZC Tryz.prog 82 [.x (.str a),.x (.str b)] (.x (.int .i64 (cmpS a b))):=by
 unfold cmpS;refine ZJ.pure (fC 82 true ?_) rfl;intro C0 E0;have uu:=KE @ZFw.eq_1 @ZFw.eq_2 @ZWR;have tT:=ZUQ;refine nz ?_;refine rg tT [0,1] ?_;refine rg tT [0,1,5] ?_;refine rg tT [0,1,5,6] ?_;refine rg tT [0,1,6,11] ?_;refine cd (fun h0=> ?_) (fun h0=> ?_)
 ·refine rg tT [12] ?_;refine cd (fun h1=> ?_) (fun h1=> ?_)
  ·refine rg tT [4] ?_;refine lf ?_
   first|rfl|exact⟨rfl,rfl⟩|trivial
  ·refine rg tT [4] ?_;refine lf ?_
   first|rfl|exact⟨rfl,rfl⟩|trivial
 ·refine rg tT [0,1,13] ?_;refine cd (fun h2=> ?_) (fun h2=> ?_)
  ·refine rg tT [4] ?_;refine lf ?_
   first|rfl|exact⟨rfl,rfl⟩|trivial
  ·refine rg tT [0,1,16] ?_;refine cd (fun h3=> ?_) (fun h3=> ?_)
   ·refine rg tT [4] ?_;refine lf ?_;rw[if_pos (by clear uu;grind)]
   ·refine rg tT [19] ?_;refine cd (fun h4=> ?_) (fun h4=> ?_)
    ·refine rg tT [4] ?_;refine lf ?_;rw[if_neg (by clear uu;grind),if_pos ((bl_tot a b (by clear uu;grind)).resolve_left (by clear uu;grind))]
    ·refine rg tT [4] ?_;refine lf ?_;obtain rfl:a=b:=by clear uu;grind
     rw[bl_irr];rfl
def ZC2:List D→Option (Bool×D)
 | [.x (.str a),.x (.str b)]=>some (true,.x (.int .i64 (cmpS a b)))
 |_=>none
theorem ZPE: ∀args r,ZC2 args=some (true,r)→ZC Tryz.prog 82 args r:=by
 intro args r h;unfold ZC2 at h;split at h
 ·rename_i a b;simp only[Za,Zb,ZQ,Zg,true_and]at h;obtain rfl:=h;exact(cmpS_c a b)
 ·cases h
def ZKc:Tabs:=ZU (ZS) 82 ZC2
theorem ZS4:SsOk Tryz.prog ZKc:=ZH (ZF) (Zc 82) ZPE
theorem ZWO:(∀a,ZKc.q 82 a=ZC2 a)∧(∀f a o,ZKc.r f a o=none)∧(∀f a o,ZKc.k f a o=none):=⟨fun _=>rfl,fun _ _ _=>rfl,fun _ _ _=>rfl⟩
theorem ZY0(n t:List UInt8)(R:List (List X)):ZC Tryz.prog 125 [.agg [.x (.str n),.x (.sl R)],.x (.str t)] (.x (.int .i64 (cmpS n t))):=by
 refine ZJ.pure (fC 125 true ?_) rfl;intro C0 E0;have uu:=KE @ZC2.eq_1 @ZC2.eq_2 @ZWO;have tT:=ZS4;refine nz ?_;refine rg tT [1,2] ?_;refine rg tT [4] ?_;refine lf ?_
 first|rfl|exact⟨rfl,rfl⟩|trivial
def ZFs:List D→Option (Bool×D)
 | [.agg [.x (.str n),.x (.sl R)],.x (.str t)]=>some (true,.x (.int .i64 (cmpS n t)))
 |_=>none
theorem ZUB: ∀args r,ZFs args=some (true,r)→ZC Tryz.prog 125 args r:=by
 intro args r h;unfold ZFs at h;split at h
 ·rename_i n R t;simp only[Za,Zb,ZQ,Zg,true_and]at h;obtain rfl:=h;exact(ZY0 n t R)
 ·cases h
theorem ZKe(l:List ZX)(j:Nat)(h:j<l.length):(rows Zi l)[j]? =some [X.str (l.getD j ([],[],())).1,X.sl (rows ZB (l.getD j ([],[],())).2.1)]:=by
 simp[rows,h,Zi,Yl,ZB,rSl,QY]
abbrev SoA(l:List ZX):Prop:=l.Pairwise fun a b=>Op.bytesLess a.1 b.1=true
theorem ZX9{l:List ZX}(hs:SoA l)(n:List UInt8)(h:Nat)(hl:h<l.length):Op.bytesLess l[h].1 n=true↔h<Zj l n:=by
 constructor
 ·intro hb;apply ZSD;intro hc;have hle:Zj l n≤h:=by omega
  have hpl:Zj l n<l.length:=by omega
  have hst:=ZJ8 l n hpl;rcases Nat.lt_or_eq_of_le hle with hlt|heq
  ·have:=ZJl.1 hs _ _ hpl hl hlt;rw[bl_trans _ _ _ this hb]at hst;cases hst
  ·have:l[Zj l n].1=l[h].1:=by congr 2
   rw[this,hb]at hst;cases hst
 ·intro hb;exact ZKh l n h hb
theorem ZNF(a b:List UInt8):cmpS a b<0↔Op.bytesLess a b=true:=by
 unfold cmpS;split
 ·rename_i h;simp[h]
 ·rename_i h;split<;>simp[h]
theorem ZMW(a b:List UInt8):cmpS a b=0↔a=b:=by
 unfold cmpS;split
 ·rename_i h;constructor
  ·intro k;cases k
  ·intro k;subst k;rw[bl_irr]at h;cases h
 ·rename_i h;split
  ·rename_i h2;constructor
   ·intro k;cases k
   ·intro k;subst k;rw[bl_irr]at h2;cases h2
  ·rename_i h2;constructor
   ·intro _;apply ZSD;intro hne;rcases bl_tot a b hne with k|k
    ·exact h k
    ·exact h2 k
   ·intro _;rfl
theorem ZXT(i j:Nat)(h:i+j≤4000000):IntKind.i64.wrap ((IntKind.u64.wrap ((i:Int)+(j:Int))).fdiv (2^min 1 IntKind.u64.bits))=(((i+j)/2:Nat):Int):=by
 have e1:IntKind.u64.wrap ((i:Int)+(j:Int))=((i+j:Nat):Int):=by
  rw[show((i:Int)+(j:Int))=((i+j:Nat):Int) by omega];simp[IntKind.wrap,IntKind.bits,IntKind.signed];omega
 have e2:(2^min 1 IntKind.u64.bits:Int)=2:=rfl;rw[e1,e2];have e3:((i+j:Nat):Int).fdiv 2=(((i+j)/2:Nat):Int):=by
  rw[Int.fdiv_eq_ediv_of_nonneg _ (by omega)];omega
 rw[e3,IntKind.wrap_i64];omega
def dif(φ:List (Nat×D))(_:List Ob):Nat:=((ZG (Go.Ab.get φ 10).val).getD 0-(ZG (Go.Ab.get φ 9).val).getD 0).toNat
def ZKv:Tabs:=ZU (ZS) 125 ZFs
theorem ZS9:SsOk Tryz.prog ZKv:=ZH (ZF) (Zc 125) ZUB
theorem ZWe:(∀a,ZKv.q 125 a=ZFs a)∧(∀f a o,ZKv.r f a o=none)∧(∀f a o,ZKv.k f a o=none):=⟨fun _=>rfl,fun _ _ _=>rfl,fun _ _ _=>rfl⟩
theorem ZbB(l:List ZX)(n:List UInt8)(hs:SoA l)(hl:l.length≤1000000):ZC Tryz.prog 124 [.x (.sl (rows Zi l)),.x (.str n),.fn 125 []] (.tup [.x (.int .i64 (Zj l n)),.x (.bool (ZAx l n))]):=by
 have hpl:=ZEs l n;have hhit:ZAx l n=match l[Zj l n]? with|some a=>a.1==n|none=>false:=rfl
 refine ZJ.pure (fC 124 true ?_) rfl;intro C0 E0;have uu:=KE @ZFs.eq_1 @ZFs.eq_2 @ZWe;have tT:=ZS9;refine nz ?_;refine rg tT [0,1,2] ?_;refine rg tT [0,1,2,8] ?_;refine rg tT [0,1,2,8,9,10] ?_;refine WI.loop (fun φ os=> ∃(i j:Nat),φ= [(0,.x (.sl (rows Zi l))),(1,.x (.str n)),(2,.fn 125 []),(8,.x (.int .i64 l.length)),(9,.x (.int .i64 i)),(10,.x (.int .i64 j))]∧os= []∧i≤Zj l n∧Zj l n≤j∧j≤l.length) (dif) ?_ (fun φ os hI=> ?_)
 ·exact⟨0,l.length,rfl,rfl,by omega,hpl,by omega⟩
 ·obtain⟨i,j,rfl,rfl,hi,hj,hjl⟩:=hI;refine nz ?_;refine rg tT [0,1,2,8,9,10,17] ?_;refine cd (fun h0=> ?_) (fun h0=> ?_)
  ·refine rg tT [0,1,2,8,9,10,11] ?_;have hij:i<j:=by omega
   rw[ZXT i j (by omega)];obtain⟨M,hM⟩: ∃M,M=(i+j)/2:=⟨_,rfl⟩;rw[←hM];have hMl:M<l.length:=by omega
   have hrw:=ZKe l M hMl;have hiff:=ZX9 hs n M hMl;rw[show l[M]=l.getD M ([],[],()) by simp[hMl],←ZNF]at hiff;generalize l.getD M ([],[],())=x at hrw hiff;have uu:=Yq uu hrw;refine rg tT [0,1,2,8,9,10,11,31] ?_;refine cd (fun h1=> ?_) (fun h1=> ?_)
   ·have hlt:M<Zj l n:=hiff.1 (by simpa using h1);refine rg tT [0,1,2,8,9,10] ?_
    first|exact⟨⟨M+1,j,rfl,rfl,by omega,by omega,by omega⟩,by simp[dif,Ab.get,D.val,ZG];omega⟩|exact⟨⟨i,M,rfl,rfl,by omega,by omega,by omega⟩,by simp[dif,Ab.get,D.val,ZG];omega⟩
   ·have hlt: ¬M<Zj l n:=fun h=>absurd (hiff.2 h) (by simpa using h1)
    refine rg tT [0,1,2,8,9,10] ?_
    first|exact⟨⟨M+1,j,rfl,rfl,by omega,by omega,by omega⟩,by simp[dif,Ab.get,D.val,ZG];omega⟩|exact⟨⟨i,M,rfl,rfl,by omega,by omega,by omega⟩,by simp[dif,Ab.get,D.val,ZG];omega⟩
  ·obtain rfl:Zj l n=i:=by omega
   by_cases hk:Zj l n<l.length
   ·have hrw:=ZKe l (Zj l n) hk;rw[Zl hk,show l[Zj l n]=l.getD (Zj l n) ([],[],()) by simp[hk]]at hhit;generalize l.getD (Zj l n) ([],[],())=x at hrw hhit;have hd:=Zd (show((Zj l n:Nat):Int)<(l.length:Int) by omega);have uu:=KE uu hrw hd;refine rg tT [6,7] ?_;refine lf ?_;have hcb:(cmpS x.1 n==0)=(x.1==n):=by rw[ZAs];simp[ZMW]
    rw[hhit,hcb]
   ·have hrw:(rows Zi l)[Zj l n]? =none:=ZCV (by rw[YC];omega);rw[ZCV (by omega)]at hhit;have hd:=decide_eq_false (show ¬((Zj l n:Nat):Int)<(l.length:Int) by omega);have uu:=KE uu hrw hd;refine rg tT [6,7] ?_;refine lf ?_;rw[hhit]
def ZFX:List D→Option (Bool×D)
 | [.x (.sl R),.x (.str n),.fn 125 []]=>(ZZ Zi R).bind fun l=>some (decide (SoA l∧l.length≤1000000),.tup [.x (.int .i64 (Zj l n)),.x (.bool (ZAx l n))])
 |_=>none
theorem ZQX: ∀args r,ZFX args=some (true,r)→ZC Tryz.prog 124 args r:=by
 intro args r h;unfold ZFX at h;split at h
 ·rename_i R n;obtain⟨l,hr0,h⟩:=Zt h;simp only[Za,Zb,ZQ,Zg,true_and]at h;obtain⟨h1,rfl⟩:=h;rw[←ZY YV hr0];exact(ZbB l n h1.1 h1.2)
 ·cases h
end Go.Proofs.YtiogclkbccdefaaGreatDoor
end
section
namespace Go.Ab
open Go.RowKit Go.Bo
section
variable {P:Program} {c:Ctx} {E0:Env} {os0 os:List Ob} {n:Nat} {Q:Exit→List (Nat×D)→List Ob→Prop} {φ:List (Nat×D)}
theorem Rel.reob{E:Env}(R:Rel c E os){i:Nat}{o o':Ob}(ho:os[i]? =some o)(hk: ∀k,o.kd=some k→o'.kd=some k)(hs: ∀sz n,o.sl? =some (sz,n)→o'.sl? =some (sz,n))(hm: ∀p b,o'.mb p b→o.mb p b)
  (hok: ∀p,E.ob[i]? =some p→OK E os o p→Evo E os E (os.set i o')→OK E (os.set i o') o' p):Rel c E (os.set i o')∧Evo E os E (os.set i o'):=by
 obtain⟨p,hp,hok0⟩:=R.at ho;have hset:E.ob.set i p=E.ob:=by
  apply ZBS;intro j;rw[ZAu];split
  ·rename_i h;subst h;rw[hp];simp[(ZP hp).1]
  ·rfl
 have hE:(⟨E.w,E.st,E.ob.set i p⟩:Env)=E:=by rw[hset]
 obtain⟨R',ev⟩:=R.set ho hp E.w o' p (Kept.refl _ _) (fun b hb=> .inl (hm p b hb)) (fun sz n h=>⟨n,hs sz n h,.inl ⟨rfl,rfl⟩⟩) (fun k h=>⟨rfl,hk k h⟩) (fun ev=>by
  rw[hE]at ev⊢;exact hok p hp hok0 ev)
 rw[hE]at R' ev;exact⟨R',ev⟩
theorem WI.ownBox(b j e sz:Nat){ds:List D}(hb:os[b]? =some (.box ds))(hj:ds[j]? =some (.x .nils)){ic:IC}(h:WI P c E0 os0 n ic Q φ (os.set b (.box (ds.set j (.ref os.length 0 0 0)))++ [.rows false e sz []])):WI P c E0 os0 n ic Q φ os:=by
 refine WI.weak (fun E a R hf=> ?_) h;obtain⟨E',k1,k2,k3,k4⟩:=Kl (fz:=false) (e:=e) (sz:=sz) (rs:= []) (cu:= .slice none 0 0) (xs:= []) R.rel (Kept.refl _ E.w) ⟨by simp,.inl ⟨rfl,rfl⟩⟩ (fun b hb=>by cases hb) (fun r hr=>by cases hr) (fun i r j x v h=>by simp at h);have hbl:=(ZP hb).1;have hb':(os++ [Ob.rows false e sz []])[b]? =some (.box ds):=by rw[Ya hbl];exact hb
 obtain⟨R2,e2⟩:=k2.reob (o':= .box (ds.set j (.ref os.length 0 0 0))) hb' (fun k h=>h) (fun sz n h=>by cases h) (fun p b h=>h) (fun p hp hok ev=>by
  obtain⟨cs,ty,g1,g2,g3⟩:=hok;refine⟨cs,ty,g1,by rw[ZGg];exact g2,fun k d v hd hv=> ?_⟩;rw[ZAu]at hd;split at hd
  ·rename_i hjk;subst hjk;split at hd
   ·cases hd;have h1:=g3 j _ v hj hv;have h2:=V.nils h1.1;subst h2;exact⟨k4.mono ev,h1.2⟩
   ·cases hd
  ·exact⟨(g3 k d v hd hv).1.mono ev,(g3 k d v hd hv).2⟩)
 rw[ZRK _ _ hbl]at R2 e2;exact⟨E',k1,⟨R2,(R.evo.trans k3).trans e2⟩,hf.size,hf.defers,fun u=>((hf.slot u).mono k3).mono e2⟩
end
end Go.Ab
end
section
namespace Go.Proofs.YtiogclkbccdefaaGreatDoor
open Go.RowKit Go.Bo Go.Ab Go.Shelf
def ZPm:Ren:=⟨fun|4=>113|n=>n,fun|22=>34|25=>9|n=>n,fun n=>n⟩
theorem ZJj:Go.Proofs.Lays8.n4 Tryz.prog ZPm where
 mixed:=by kernel_rfl
 f4:=⟨"slices.Grow[[]string,string]",by decide,by kernel_rfl⟩
 t0:=by kernel_rfl
 a0:=fun w=>by kernel_rfl
 z0:=fun w=>by kernel_rfl
 v0:=fun w=>by kernel_rfl
 t3:=by kernel_rfl
 a3:=fun w=>by kernel_rfl
 z3:=fun w=>by kernel_rfl
 v3:=fun w=>by kernel_rfl
 t4:=by kernel_rfl
 a4:=fun w=>by kernel_rfl
 z4:=fun w=>by kernel_rfl
 v4:=fun w=>by kernel_rfl
 t9:=by kernel_rfl
 a9:=fun w=>by kernel_rfl
 z9:=fun w=>by kernel_rfl
 v9:=fun w=>by kernel_rfl
 t20:=by kernel_rfl
 a20:=fun w=>by kernel_rfl
 z20:=fun w=>by kernel_rfl
 v20:=fun w=>by kernel_rfl
 t22:=by kernel_rfl
 a22:=fun w=>by kernel_rfl
 z22:=fun w=>by kernel_rfl
 v22:=fun w=>by kernel_rfl
theorem ZPS:Go.Ab.Enters Tryz.prog 113:=ZJj.f4.enters rfl
theorem ZZw(n:Nat)(hn:n≤1000000):ZN Tryz.prog 113 [.x .nils,.x (.int .i64 n)] [] (.ref 0 0 0 0) [.rows false 9 1 []]:=by
 intro c E vs R hvl;obtain⟨hsz,hv⟩:=hvl;obtain⟨v0,v1,rfl⟩: ∃v0 v1,vs= #[v0,v1]:=by
  obtain⟨vl⟩:=vs
  match vl,hsz with
  | [a,b],_=>exact⟨a,b,rfl⟩
 have h0:=hv 0 _ v0 rfl rfl;have h1:=hv 1 _ v1 rfl rfl;cases h0 with
 |x h0=>
 cases h1 with
 |x h1=>
 cases h1 with
 |int _ _=>
 cases h0 with
 |nils=>
 by_cases hz:n=0
 ·subst hz;refine(Go.Proofs.Any8.slices_Grow_room ZJj none 0 0 0 E.w (Zh _) (by omega) (by omega) (Zh _)).mono ?_;rintro e w' ⟨rfl,rfl⟩;obtain⟨E',h1,h2,h3,h4⟩:=Kl R (fz:=false) (e:=9) (sz:=1) (rs:= []) (cu:= .slice none 0 0) (xs:= []) (Kept.refl _ _) ⟨rfl,.inl ⟨rfl,rfl⟩⟩ (fun b hb=>by simp[Value.ownBlock]at hb) (fun r hr=>by cases hr) (fun i r j x v h=>by simp at h);exact⟨_,E',rfl,h1,h2,h3,h4⟩
 ·have hi:(Tryz.prog.info? 9).map (fun i=>(i.zero,i.size,i.bytes))=some (some (.string ByteArray.empty),1,16):=by kernel_rfl
  obtain⟨i0,hi0,hi1⟩:=ZT hi;simp only[Zb]at hi1;obtain⟨hz0,hs0,hb0⟩:=hi1;refine(Go.Proofs.Any8.slices_Grow_grow ZJj i0 (.string ByteArray.empty) hi0 hz0 (by omega) none 0 0 n [] E.w (Zh _) (by omega) (by rw[hb0];omega) (by omega) (by simp) (fun _=>rfl) (fun a h=>by cases h)).mono ?_;rintro e w' ⟨rfl,rfl⟩;have hG:=grownCap_le_maxLen E.w (0+n) 0 9 (by unfold maxLen;omega);have hGn:0+n≤grownCap E.w (0+n) 0 9:=grownCap_ge E.w _ _ _;have hgr:ZPm.t 25=9:=rfl;rw[hgr];generalize grownCap E.w (0+n) 0 9=G at hG hGn⊢;have hcs:(([]:List Value).toArray++Builtin.zeroCells (Value.string ByteArray.empty).cells (0+n-0)++Builtin.zeroCells (Value.string ByteArray.empty).cells (G-(0+n))).size=G*1:=by
   simp[Builtin.zeroCells,Value.cells]<;>omega
  obtain⟨E',h1,h2,h3,h4⟩:=Kl R (fz:=false) (e:=9) (sz:=1) (rs:= []) (cu:= .slice (some ⟨E.w.heap.size,0,none⟩) 0 G) (xs:= [])
   (Kept.of_none (((KU.refl E.w).dr.al (.cells (([]:List Value).toArray++Builtin.zeroCells (Value.string ByteArray.empty).cells (0+n-0)++Builtin.zeroCells (Value.string ByteArray.empty).cells (G-(0+n))) 9)).grown none))
   ⟨rfl,.inr ⟨E.w.heap.size,G,_,(0,0),rfl,heap_alloc_new _ _,JA _,hG,hcs,by simp,.inl rfl⟩⟩ (fun b hb=>by simp[Value.ownBlock]at hb;omega) (fun r hr=>by cases hr) (fun i r j x v h=>by simp at h)
  exact⟨_,E',rfl,h1,h2,h3,h4⟩
def ZE4:List D→List Ob→Option (Bool×D×List Ob)
 | [.x .nils,.x (.int .i64 n)],[]=>some (decide (0≤n∧n.toNat≤1000000),.ref 0 0 0 0,[.rows false 9 1 []])
 |_,_=>none
theorem ZVj: ∀args os r os',ZE4 args os=some (true,r,os')→ZN Tryz.prog 113 args os r os':=by
 intro args os r os' h;unfold ZE4 at h;split at h
 ·rename_i n;simp only[Za,Zb,Zg]at h;obtain⟨⟨h1,h2⟩,rfl,rfl⟩:=h;have:=ZZw n.toNat h2;rwa [Int.toNat_of_nonneg h1]at this
 ·cases h
def ZFm:Tabs:=Jp (ZS) 113 ZE4
theorem ZKf:SsOk Tryz.prog ZFm:=Yx (ZF) ZPS ZVj
theorem ZMI:(∀a,ZFm.q 113 a=none)∧(∀a o,ZFm.t 113 a o=Ye ZE4 a o)∧(∀f a o,ZFm.r f a o=none)∧(∀f a o,ZFm.k f a o=none):=⟨fun _=>rfl,fun _ _=>rfl,fun _ _ _=>rfl,fun _ _ _=>rfl⟩
theorem ZNj(a b:List (List UInt8))(ha:a.length≤100000)(hb:b.length≤100000):ZC Tryz.prog 73 [.x (.sl [[.sl (rows ZB a)],[.sl (rows ZB b)]])] (.x (.sl (rows ZB (a++b)))):=by
 refine ZJ.pure (fC 73 true ?_) rfl;intro C0 E0;have uu:=KE @ZE4.eq_1 @ZE4.eq_2 @ZMI;have tT:=ZKf;refine nz ?_;refine rg tT [0] ?_;refine rg tT [0,3] ?_;refine rg tT [0,3,9,10,11] ?_;refine WI.loopN 3 ?_;refine WI.round ?_;refine nz ?_;refine rg tT [0,3,9,10,11,12] ?_;refine ct (fun h0=> ?_) (fun h0=> ?_)
 ·refine rg tT [0,3,5,9,10,11] ?_;refine rg tT [0,3,9,10,11] ?_;refine rg tT [0,3,9,10,11,20] ?_;refine ce (fun h1=> ?_) (fun h1=> ?_)
  ·first|omega|(simp at h1;done)|(simp at h1;omega)
  ·refine rg tT [0,3,9,10,11] ?_;refine WI.round ?_;refine nz ?_;refine rg tT [0,3,9,10,11,12] ?_;refine ct (fun h0=> ?_) (fun h0=> ?_)
   ·refine rg tT [0,3,5,9,10,11] ?_;refine rg tT [0,3,9,10,11] ?_;refine rg tT [0,3,9,10,11,20] ?_;refine ce (fun h1=> ?_) (fun h1=> ?_)
    ·first|omega|(simp at h1;done)|(simp at h1;omega)
    ·refine rg tT [0,3,9,10,11] ?_;refine WI.round ?_;refine nz ?_;refine rg tT [0,3,9,10,11,12] ?_;refine ce (fun h0=> ?_) (fun h0=> ?_)
     ·exact absurd h0 (by decide)
     ·refine rg tT [0,6] ?_;refine rg tT [6,25,26,27] ?_;refine WI.loopN 3 ?_;refine WI.round ?_;refine nz ?_;refine rg tT [6,25,26,27,28] ?_;refine ct (fun h2=> ?_) (fun h2=> ?_)
      ·refine rg tT [6,8,25,26,27] ?_;refine rg tT [6,25,26,27] ?_;refine rg tT [6,25,26,27] ?_;refine WI.round ?_;refine nz ?_;refine rg tT [6,25,26,27,28] ?_;refine ct (fun h2=> ?_) (fun h2=> ?_)
       ·refine rg tT [6,8,25,26,27] ?_;refine rg tT [6,25,26,27] ?_;refine rg tT [6,25,26,27] ?_;refine WI.round ?_;refine nz ?_;refine rg tT [6,25,26,27,28] ?_;refine ce (fun h2=> ?_) (fun h2=> ?_)
        ·exact absurd h2 (by decide)
        ·refine rg tT [2] ?_;refine lf ?_;rw[Yp (by simp)]
       ·exact absurd h2 (by decide)
      ·exact absurd h2 (by decide)
   ·exact absurd h0 (by decide)
 ·exact absurd h0 (by decide)
theorem ZR3(b:List (List UInt8))(hb:b.length≤100000):ZC Tryz.prog 73 [.x (.sl [[.nils],[.sl (rows ZB b)]])] (.x (.sl (rows ZB b))):=by
 refine ZJ.pure (fC 73 true ?_) rfl;intro C0 E0;have uu:=KE @ZE4.eq_1 @ZE4.eq_2 @ZMI;have tT:=ZKf;refine nz ?_;refine rg tT [0] ?_;refine rg tT [0,3] ?_;refine rg tT [0,3,9,10,11] ?_;refine WI.loopN 3 ?_;refine WI.round ?_;refine nz ?_;refine rg tT [0,3,9,10,11,12] ?_;refine ct (fun h0=> ?_) (fun h0=> ?_)
 ·refine rg tT [0,3,5,9,10,11] ?_;refine rg tT [0,3,9,10,11] ?_;refine rg tT [0,3,9,10,11,20] ?_;refine ce (fun h1=> ?_) (fun h1=> ?_)
  ·first|omega|(simp at h1;done)|(simp at h1;omega)
  ·refine rg tT [0,3,9,10,11] ?_;refine WI.round ?_;refine nz ?_;refine rg tT [0,3,9,10,11,12] ?_;refine ct (fun h0=> ?_) (fun h0=> ?_)
   ·refine rg tT [0,3,5,9,10,11] ?_;refine rg tT [0,3,9,10,11] ?_;refine rg tT [0,3,9,10,11,20] ?_;refine ce (fun h1=> ?_) (fun h1=> ?_)
    ·first|omega|(simp at h1;done)|(simp at h1;omega)
    ·refine rg tT [0,3,9,10,11] ?_;refine WI.round ?_;refine nz ?_;refine rg tT [0,3,9,10,11,12] ?_;refine ce (fun h0=> ?_) (fun h0=> ?_)
     ·exact absurd h0 (by decide)
     ·refine rg tT [0,6] ?_;refine rg tT [6,25,26,27] ?_;refine WI.loopN 3 ?_;refine WI.round ?_;refine nz ?_;refine rg tT [6,25,26,27,28] ?_;refine ct (fun h2=> ?_) (fun h2=> ?_)
      ·refine rg tT [6,8,25,26,27] ?_;refine rg tT [6,25,26,27] ?_;refine rg tT [6,25,26,27] ?_;refine WI.round ?_;refine nz ?_;refine rg tT [6,25,26,27,28] ?_;refine ct (fun h2=> ?_) (fun h2=> ?_)
       ·refine rg tT [6,8,25,26,27] ?_;refine rg tT [6,25,26,27] ?_;refine rg tT [6,25,26,27] ?_;refine WI.round ?_;refine nz ?_;refine rg tT [6,25,26,27,28] ?_;refine ce (fun h2=> ?_) (fun h2=> ?_)
        ·exact absurd h2 (by decide)
        ·refine rg tT [2] ?_;refine lf ?_
         first|rfl|(rw[Yp (by simp)])
       ·exact absurd h2 (by decide)
      ·exact absurd h2 (by decide)
   ·exact absurd h0 (by decide)
 ·exact absurd h0 (by decide)
open Go.RowKit Go.Bo Go.Ab
theorem ZWu{a b:List UInt8}(h:ZK a=ZK b):a=b:=by
 have:=congrArg (fun x=>x.data.toList) h;simpa[ZK]using this
theorem Za1(l:List (List UInt8))(s:List UInt8):Lib.containsS (l.map ZK) (ZK s)=decide (s∈l):=by
 rw[ZAs,Lib.containsS_iff,Zg,YQ];exact⟨fun⟨a,h1,h2⟩=>ZWu h2▸h1,fun h=>⟨s,h,rfl⟩⟩
theorem ZZV(l:List (List UInt8))(s:List UInt8)(hl:l.length≤1000000):ZC Tryz.prog 127 [.x (.sl (rows ZB l)),.x (.str s)] (.x (.bool (decide (s∈l)))):=by
 intro w st vs hst hvl;obtain⟨hsz,hv⟩:=hvl;obtain⟨v0,v1,rfl⟩: ∃v0 v1,vs= #[v0,v1]:=by
  obtain⟨vl⟩:=vs
  match vl,hsz with
  | [a,b],_=>exact⟨a,b,rfl⟩
 have h0:=hv 0 _ v0 rfl rfl;have h1:=hv 1 _ v1 rfl rfl;clear hv hsz;cases h0 with
 |x h0=>
 cases h1 with
 |x h1=>
 cases h1 with
 |str _=>
 cases h0 with
 |sl _ a n c sz val hn hc hm hsz hcell hnil hsp hval=>
  rw[YC]at hn;subst hn
  match l,hl,hc,hsz,hcell,hval with
  | [],_,_,_,_,_=>
   refine(Tryz.slices_Contains_string_empty a c (ZK s) w).mono ?_;rintro e w' ⟨rfl,rfl⟩;exact⟨_,st,rfl,Kept.refl _ _,fun _ _ h=>h,fun _ _ h=> .inl h,.x (.bool _)⟩
  |x::r,hl,hc,hsz,hcell,hval=>
   obtain rfl:1=sz:=hsz [.str x] (by simp[rows,ZB]);obtain⟨b,off,rfl,hs0,_⟩:=hcell 0 0 (by simp) (by omega);have hcells: ∀j,j<((x::r).map ZK).length→w.cell? ⟨b,off+j,none⟩=some (.string (((x::r).map ZK).getD j ByteArray.empty)):=by
    intro j hj;rw[YL]at hj;obtain⟨b',off',e,_,hw⟩:=hcell j 0 hj (by omega);simp only[Za,Addr.mk.injEq]at e;obtain⟨rfl,rfl,_⟩:=e;have hx:=hval j 0 [.str (x::r)[j]] (.str (x::r)[j]) (by simp only[rows,Zr,Zl hj];rfl) rfl;have hd:((x::r).map ZK).getD j ByteArray.empty=ZK (x::r)[j]:=by rw[ZGu,Zr,Zl hj];rfl
    rw[show off+j=off+j*1+0 by omega,hw,hd];generalize val j 0=u at hx;cases hx with
    |str _=>rfl
   have:=Tryz.slices_Contains_string b off (x::r).length c ((x::r).map ZK) (ZK s) w (by simp) (by omega) hcells;rw[Yp (by simp),Za1]at this;refine this.mono ?_;rintro e w' ⟨rfl,rfl⟩;exact⟨_,st,rfl,Kept.refl _ _,fun _ _ h=>h,fun _ _ h=> .inl h,.x (.bool _)⟩
theorem ZI9:Go.Ab.Enters Tryz.prog 127:=Go.Proofs.enters_of Tryz.lays110.f110 (by kernel_rfl) rfl
def ZE6:List D→Option (Bool×D)
 | [.x (.sl R),.x (.str s)]=>(ZZ ZB R).bind fun l=>some (decide (l.length≤1000000),.x (.bool (decide (s∈l))))
 |_=>none
theorem ZNq: ∀args r,ZE6 args=some (true,r)→ZC Tryz.prog 127 args r:=by
 intro args r h;unfold ZE6 at h;split at h
 ·rename_i R s;obtain⟨l,hr0,h⟩:=Zt h;simp only[Za,Zb,ZQ,Zg,true_and]at h;obtain⟨h1,rfl⟩:=h;rw[←ZY ZO hr0];exact(ZZV l s h1)
 ·cases h
end Go.Proofs.YtiogclkbccdefaaGreatDoor
end
section
namespace Go.Proofs.YtiogclkbccdefaaGreatDoor
open Go.RowKit Go.Bo Go.Ab
def inB(s:Tx)(n:Nat):Bool:=s.any fun x=>x.toNat==n
theorem ZNt(s:Tx)(i:Nat)(h:i<s.length):(s.map Zf)[i]? =some [X.int .u8 (s.getD i 0).toNat]:=by
 simp[h,Zf]
theorem ZaN(s:Tx)(n:Nat)(hl:s.length≤1000000):ZC Tryz.prog 200 [.x (.str s),.x (.int .u8 n)] (.x (.bool (inB s n))):=by
 refine ZJ.pure (fC 200 true ?_) rfl;intro C0 E0;have uu:=Yq @Kv @Kb;have tT:=(ZF:SsOk Tryz.prog ZS);refine nz ?_;refine rg tT [0,1] ?_;refine rg tT [1,8,9,10] ?_;refine WI.loop (fun φ os=> ∃(j:Nat),φ= [(1,.x (.int .u8 n)),(8,.ref 0 s.length 0 s.length),(9,.x (.int .i64 s.length)),(10,.x (.int .i64 j))]∧os= [.rows true 5 1 (s.map Zf)]∧j≤s.length∧inB (s.take j) n=false) (ZV s.length 10) ?_ (fun φ os hI=> ?_)
 ·exact⟨0,rfl,rfl,by omega,rfl⟩
 ·obtain⟨j,rfl,rfl,hj,hno⟩:=hI;refine nz ?_;refine rg tT [1,8,9,10,11] ?_;refine cd (fun h0=> ?_) (fun h0=> ?_)
  ·have hj4:j<s.length:=by omega
   have hst:inB (s.take (j+1)) n=(inB (s.take j) n||((s.getD j 0).toNat==n)):=by unfold inB;rw[KT hj4,List.any_append];simp[hj4]
   have uu:=Yq uu (ZNt s j hj4);refine rg tT [1,6,8,9,10] ?_;refine rg tT [1,8,9,10,16] ?_;refine cd (fun h1=> ?_) (fun h1=> ?_)
   ·refine rg tT [4] ?_;refine lf ?_;have hz:((s.getD j 0).toNat:Int)=n:=by first|exact h1|simpa only[beq_iff_eq]using h1
    have hy:(s.getD j 0).toNat=n:=by omega
    rw[show inB s n=true from List.any_eq_true.2 ⟨s[j],YY hj4,by rw[show s[j]=s.getD j 0 by simp[hj4]];simpa using hy⟩]
   ·refine rg tT [1,8,9,10] ?_;exact⟨⟨j+1,rfl,rfl,by omega,by rw[hst,hno];exact beq_false_of_ne (fun e=>h1 (by rw[e]))⟩,by simp[ZV,Ab.get,D.val,ZG];omega⟩
  ·refine rg tT [4] ?_;refine lf ?_;rw[Yp (by omega)]at hno;rw[hno]
def ZAj:List D→Option (Bool×D)
 | [.x (.str s),.x (.int .u8 n)]=>some (decide (s.length≤1000000)&&(decide (0≤n)),.x (.bool (inB s n.toNat)))
 |_=>none
theorem ZJq: ∀args r,ZAj args=some (true,r)→ZC Tryz.prog 200 args r:=by
 intro args r h;unfold ZAj at h;split at h
 ·rename_i s n;simp only[Za,Zb,ZQ,Zg,true_and]at h;obtain⟨⟨h1,h2⟩,rfl⟩:=h;exact(by obtain⟨m,rfl⟩: ∃m:Nat,n=m:=⟨n.toNat,by omega⟩;rw[ZHm];exact ZaN s m h1)
 ·cases h
def hxD(n:Nat):Nat:=if 48≤n∧n≤57 then n-48 else if 97≤n∧n≤102 then n-97+10 else if 65≤n∧n≤70 then n-65+10 else 16
def ZBs(n:Nat):Nat×Bool:=if hxD n<16 then(hxD n,true)else(0,false)
def ZHD:List UInt8:= [48,49,50,51,52,53,54,55,56,57,97,98,99,100,101,102]
def ZJT(d c:Nat):Bool:=d==c||(decide (65≤c∧c≤70)&&d==c+32)
theorem ZXi: ∀(k:Fin 16) (c:Fin 256),ZJT (ZHD.getD k.val 0).toNat c.val=true→ZBs c.val=(k.val,true):=by decide+kernel
theorem ZW4: ∀c:Fin 256,(∀k:Fin 16,ZJT (ZHD.getD k.val 0).toNat c.val=false)→ZBs c.val=(0,false):=by decide+kernel
theorem ZYl(c:Nat)(hc:c<256)(h: ∀k,k<16→ZJT (ZHD.getD k 0).toNat c=false):ZBs c=(0,false):=ZW4 ⟨c,hc⟩ (fun k=>h k.val k.isLt)
def Zbn:Tx:= [44,43,34,92,60,62,59,61]
def spc(n:Nat):Bool:=inB Zbn n
def ZSF(n:Nat)(first:Bool):Bool:=decide (n<32)||decide (n=127)||(decide (n≠61)&&spc n)||(first&&decide (n=35))
def ZKg:Tabs:=ZU (ZS) 200 ZAj
theorem ZUd:SsOk Tryz.prog ZKg:=ZH (ZF) (Zc 200) ZJq
theorem ZUn:(∀a,ZKg.q 200 a=ZAj a)∧(∀f a o,ZKg.r f a o=none)∧(∀f a o,ZKg.k f a o=none):=⟨fun _=>rfl,fun _ _ _=>rfl,fun _ _ _=>rfl⟩
theorem ZUy(n:Nat)(b:Bool):ZC Tryz.prog 225 [.x (.int .u8 n),.x (.bool b)] (.x (.bool (ZSF n b))):=by
 have hq:inB [44,43,34,92,60,62,59,61] n=spc n:=rfl;refine ZJ.pure (fC 225 true ?_) rfl;intro C0 E0;have uu:=ξ4 @ZAj.eq_1 @ZAj.eq_2 hq @ZUn;have tT:=ZUd;refine nz ?_;refine rg tT [0,1] ?_;refine rg tT [4] ?_;refine lf ?_;clear uu;unfold ZSF;congr 2;grind
def ZD6:List D→Option (Bool×D)
 | [.x (.int .u8 n),.x (.bool b)]=>some (decide (0≤n),.x (.bool (ZSF n.toNat b)))
 |_=>none
theorem ZRA: ∀args r,ZD6 args=some (true,r)→ZC Tryz.prog 225 args r:=by
 intro args r h;unfold ZD6 at h;split at h
 ·rename_i n b;simp only[Za,Zb,ZQ,Zg,true_and]at h;obtain⟨h1,rfl⟩:=h;exact(by obtain⟨m,rfl⟩: ∃m:Nat,n=m:=⟨n.toNat,by omega⟩;rw[ZHm];exact ZUy m b)
 ·cases h
def ZM5:Value→Int
 | .int _ n=>n
 |_=>0
def ZQ5:Array Value:= #[.int .u8 48,.int .u8 49,.int .u8 50,.int .u8 51,.int .u8 52,.int .u8 53,.int .u8 54,.int .u8 55,.int .u8 56,.int .u8 57,.int .u8 97,.int .u8 98,.int .u8 99,.int .u8 100,.int .u8 101,.int .u8 102]
theorem ZXD(c:Nat)(h1:65≤c)(h2:c≤70):IntKind.u8.wrap (IntKind.u8.wrap ((c:Int)-65)+97)=((c+32:Nat):Int):=by
 rw[IntWalk.u8_in ((c:Int)-65) (by omega),IntWalk.u8_in _ (by omega)];omega
set_option maxHeartbeats 4000000 in
set_option maxRecDepth 100000 in
theorem ZR6(c:Nat)(w:World)(hc:c<256):
  Calls Tryz.prog 236 #[.int .u8 c] w fun e w'=>e= .returned (.tuple #[.int .u8 (ZBs c).1,.bool (ZBs c).2])∧Below w.heap.size w w':=by
 have kc:=fun(w:World) (C:Array Value) (n c:Nat)=>Lib.run_convert_bytes_const (P:=Tryz.prog) w 27 5 C n c Tryz.underlying27 Tryz.underlying5
 go_enter Tryz.func236,Tryz.ntmps236
 go_wp2_with fail
 go_loopw [9] (fun i wr=> ∃(k:Nat),k≤16∧i= .int .i64 k∧wr=w.alloc (.cells ZQ5 5 (16,17))∧ ∀m,m<k→ZJT (ZHD.getD m 0).toNat c=false) (fun i _=>16-(ZM5 i).toNat)
 case atStart=>exact⟨0,by omega,rfl,rfl,by intro m hm;omega⟩
 case round=>
  obtain⟨k,hk,rfl,rfl,hno⟩:=hrel;have hcell: ∀m:Fin 16,(w.alloc (.cells ZQ5 5 (16,17))).cell? ⟨w.heap.size,m.val,none⟩=some (.int .u8 (ZHD.getD m.val 0).toNat):=by
   intro m;have hb:(w.alloc (.cells ZQ5 5 (16,17))).heap[w.heap.size]? =some (.cells ZQ5 5 (16,17)):=by
    show(w.heap.push _)[w.heap.size]? =_;simp
   rw[Lib.cell_of_heap hb]
   revert m;intro m;rcases m with⟨m,hm⟩;(repeat(rcases m with _|m;rfl));omega
  by_cases hlt:k<16
  ·have hc1:=hcell ⟨k,hlt⟩;have hat:=ZXi ⟨k,hlt⟩ ⟨c,hc⟩;simp only at hc1 hat;cases hq:ZJT (ZHD.getD k 0).toNat c with
   |true=>
    have hat:=hat hq;have hk1:IntKind.u8.wrap (k:Int)=(k:Int):=IntWalk.u8_in _ (by omega);clear hno hcell;unfold ZJT at hq;generalize(ZHD.getD k 0).toNat=d at hc1 hq;by_cases h1:d=c
    ·subst h1
     go_wp2_with fail
     all_goals first|exact bodyPost_ret (v:= .tuple #[.int .u8 (k:Int),.bool true]) (by simp[results,Tryz.results236,go_sem]) rfl ⟨by rw[hat],(Below.refl _ w).alloc (Zh _) _⟩|(exfalso;rename_i hx;revert hx;simp<;>omega)|(exfalso;revert q1;simp;done)|(exfalso;revert q4;simp only[hw]at*;simp_all<;>omega)|(exfalso;revert hq;simp<;>omega)
    ·have h2:65≤c∧c≤70∧d=c+32:=by simp[h1]at hq;omega
     obtain⟨h21,h22,rfl⟩:=h2;have hw:=ZXD c h21 h22;have q1:decide (((c+32:Nat):Int)=(c:Int))=false:=decide_eq_false (by omega);have q2:decide ((c:Int)≥65)=true:=Zd (by omega);have q3:decide ((c:Int)≤70)=true:=Zd (by omega)
     go_wp2_with fail
     all_goals first|exact bodyPost_ret (v:= .tuple #[.int .u8 (k:Int),.bool true]) (by simp[results,Tryz.results236,go_sem]) rfl ⟨by rw[hat],(Below.refl _ w).alloc (Zh _) _⟩|(exfalso;rename_i hx;revert hx;simp<;>omega)|(exfalso;revert q1;simp;done)|(exfalso;revert q4;simp only[hw]at*;simp_all<;>omega)|(exfalso;revert hq;simp<;>omega)
   |false=>
    have hq':=hq;unfold ZJT at hq;generalize(ZHD.getD k 0).toNat=d at hc1 hq;have q1:decide ((d:Int)=(c:Int))=false:=decide_eq_false (by simp at hq;omega);clear hcell hat;by_cases h1:65≤c
    ·by_cases h2:c≤70
     ·have hw:=ZXD c h1 h2;have q2:decide ((c:Int)≥65)=true:=Zd (by omega);have q3:decide ((c:Int)≤70)=true:=Zd (by omega);have q4:decide ((d:Int)=((c+32:Nat):Int))=false:=decide_eq_false (by simp[h1,h2]at hq;omega)
      go_wp2_with fail
      all_goals first|exact⟨⟨k+1,by omega,by first|rfl|simp,trivial,fun m hm=>if h:m=k then by subst h;exact hq' else hno m (by omega)⟩,by simp[ZM5];omega⟩|(exfalso;rename_i hx;revert hx;simp<;>omega)|(exfalso;revert q1;simp;done)|(exfalso;revert q4;simp only[hw]at*;simp_all<;>omega)|(exfalso;revert hq;simp<;>omega)
     ·have q2:decide ((c:Int)≥65)=true:=Zd (by omega);have q3:decide ((c:Int)≤70)=false:=decide_eq_false (by omega)
      go_wp2_with fail
      all_goals first|exact⟨⟨k+1,by omega,by first|rfl|simp,trivial,fun m hm=>if h:m=k then by subst h;exact hq' else hno m (by omega)⟩,by simp[ZM5];omega⟩|(exfalso;rename_i hx;revert hx;simp<;>omega)|(exfalso;revert q1;simp;done)|(exfalso;revert q4;simp only[hw]at*;simp_all<;>omega)|(exfalso;revert hq;simp<;>omega)
    ·have q2:decide ((c:Int)≥65)=false:=decide_eq_false (by omega)
     go_wp2_with fail
     all_goals first|exact⟨⟨k+1,by omega,by first|rfl|simp,trivial,fun m hm=>if h:m=k then by subst h;exact hq' else hno m (by omega)⟩,by simp[ZM5];omega⟩|(exfalso;rename_i hx;revert hx;simp<;>omega)|(exfalso;revert q1;simp;done)|(exfalso;revert q4;simp only[hw]at*;simp_all<;>omega)|(exfalso;revert hq;simp<;>omega)
  ·obtain rfl:k=16:=by omega
   have hnn:=ZYl c hc hno;clear hno hcell
   go_wp2_with fail
   exact bodyPost_ret (v:= .tuple #[.int .u8 0,.bool false]) (by simp[results,Tryz.results236,go_sem]) rfl ⟨by rw[hnn];rfl,(Below.refl _ w).alloc (Zh _) _⟩
theorem ZX7(n:Nat)(hn:n<256):ZC Tryz.prog 236 [.x (.int .u8 n)] (.tup [.x (.int .u8 (ZBs n).1),.x (.bool (ZBs n).2)]):=by
 intro w st vs hst hvl;obtain⟨hsz,hv⟩:=hvl;obtain⟨v0,rfl⟩: ∃v0,vs= #[v0]:=by
  obtain⟨vl⟩:=vs
  match vl,hsz with
  | [a],_=>exact⟨a,rfl⟩
 have h0:=hv 0 _ v0 rfl rfl;cases h0 with
 |x h0=>
 cases h0 with
 |int _ _=>
 refine(ZR6 n w hn).mono ?_;rintro e w' ⟨rfl,hb⟩;exact⟨_,st,rfl,⟨hb.os,hb.tape,hb.output,hb.size,fun k hk _=>hb.block k hk⟩,fun _ _ h=>h,fun _ _ h=> .inl h,V.tup2 (.x (.int _ _)) _⟩
theorem ZN9:Go.Ab.Enters Tryz.prog 236:=enters_of Tryz.func236 (by kernel_rfl) rfl
def ZGH:List D→Option (Bool×D)
 | [.x (.int .u8 n)]=>some (decide (0≤n∧n<256),.tup [.x (.int .u8 (ZBs n.toNat).1),.x (.bool (ZBs n.toNat).2)])
 |_=>none
theorem ZTw: ∀args r,ZGH args=some (true,r)→ZC Tryz.prog 236 args r:=by
 intro args r h;unfold ZGH at h;split at h
 ·rename_i n;simp only[Za,Zb,ZQ,Zg,true_and]at h;obtain⟨h1,rfl⟩:=h;exact(by obtain⟨m,rfl⟩: ∃m:Nat,n=m:=⟨n.toNat,by omega⟩;rw[ZHm];exact ZX7 m (by omega))
 ·cases h
end Go.Proofs.YtiogclkbccdefaaGreatDoor
end
section
namespace Go.Proofs.YtiogclkbccdefaaGreatDoor
open Go.RowKit Go.Bo Go.Ab
def trL(s:Tx):Tx:=s.dropWhile (· ==32)
def trR(s:Tx):Tx:=(s.reverse.dropWhile (· ==32)).reverse
theorem ZYz(r:Tx):(r== [])=decide (r.length=0):=by rcases r with _|⟨c,r⟩<;>simp
theorem ZVl{c:UInt8}(h:(c.toNat:Int)=32):c=32:=by
 apply ZRl.1;show c.toNat=32;omega
theorem ZO9(c:UInt8)(s:Tx):trL (c::s)=if c=32 then trL s else c::s:=by
 unfold trL;rw[List.dropWhile_cons];simp
theorem ZPo(s:Tx):(trL s).length≤s.length:=List.Sublist.length_le (List.dropWhile_sublist _)
theorem ZQL(s:Tx):(trR s).length≤s.length:=by
 unfold trR;rw[List.length_reverse];exact ZHz (List.Sublist.length_le (List.dropWhile_sublist _)) (by simp)
theorem ZPA(s:Tx)(c:UInt8):trR (s++ [c])=if c=32 then trR s else s++ [c]:=by
 unfold trR;rw[List.reverse_append,ZOW,ZNl,ZAJ,List.singleton_append,List.dropWhile_cons];split<;>simp_all
theorem Za2(s:Tx)(h:0<s.length):s=s.getD 0 0::s.drop 1:=by
 rcases s with _|⟨c,s⟩
 ·simp at h
 ·rfl
theorem ZRG(s:Tx)(h:0<s.length):s=s.take (s.length-1)++ [s.getD (s.length-1) 0]:=by
 obtain⟨b,c,rfl⟩: ∃b c,s=b++ [c]:=⟨s.dropLast,s.getLast (by intro e;subst e;simp at h),(List.dropLast_concat_getLast _).symm⟩;simp
theorem ZWC(s:Tx)(h:0<s.length)(hc:s.getD 0 0=32):trL s=trL (s.drop 1):=by
 conv=>lhs;rw[Za2 s h]
 rw[ZO9,if_pos hc]
theorem ZWv(s:Tx)(h: ¬(0<s.length∧s.getD 0 0=32)):trL s=s:=by
 rcases s with _|⟨c,s⟩
 ·rfl
 ·rw[ZO9,if_neg (fun e:c=32=>h ⟨by simp,e⟩)]
theorem ZWB(s:Tx)(h:0<s.length)(hc:s.getD (s.length-1) 0=32):trR s=trR (s.take (s.length-1)):=by
 conv=>lhs;rw[ZRG s h]
 rw[ZPA,if_pos hc]
theorem ZXC(s:Tx)(h: ¬(0<s.length∧s.getD (s.length-1) 0=32)):trR s=s:=by
 by_cases h0:0<s.length
 ·conv=>lhs;rw[ZRG s h0]
  rw[ZPA,if_neg (fun e=>h ⟨h0,e⟩)];exact(ZRG s h0).symm
 ·rw[show s= []from List.length_eq_zero_iff.1 (by omega)];rfl
theorem ZVJ(s:Tx)(hl:s.length≤1000000):ZC Tryz.prog 216 [.x (.str s),.x (.int .u8 32)] (.x (.str (trL s))):=by
 refine ZJ.pure (fC 216 true ?_) rfl;intro C0 E0;have uu:=trivial;have tT:=(ZF:SsOk Tryz.prog ZS);refine nz ?_;refine rg tT [0,1] ?_;refine WI.loop (fun φ os=> ∃(r:Tx),φ= [(0,.x (.str r)),(1,.x (.int .u8 32))]∧os= []∧r.length≤s.length∧trL s=trL r) ((fun φ _=>match get φ 0 with| .x (.str r)=>r.length|_=>0)) ?_ (fun φ os hI=> ?_)
 ·exact⟨s,rfl,rfl,by omega,rfl⟩
 ·obtain⟨r,rfl,rfl,hr,he⟩:=hI;refine nz ?_;refine rg tT [0,1,13] ?_;refine cd (fun h0=> ?_) (fun h0=> ?_)
  ·have h0p:0<r.length:=by omega
   have h0c:r.getD 0 0=32:=ZVl (by omega);refine rg tT [0,1] ?_;exact⟨⟨r.drop 1,rfl,rfl,by simp;omega,by rw[he,ZWC r h0p h0c]⟩,by show(r.drop 1).length<r.length;rw[KC];omega⟩
  ·have h0n: ¬(0<r.length∧r.getD 0 0=32):=fun hh=>by
    have h2:((r.getD 0 0).toNat:Int)=32:=by rw[hh.2];rfl
    have h1:=hh.1;omega
   refine rg tT [4] ?_;refine lf ?_;rw[he,ZWv r h0n]
def ZBw:List D→Option (Bool×D)
 | [.x (.str s),.x (.int .u8 32)]=>some (decide (s.length≤1000000),.x (.str (trL s)))
 |_=>none
theorem ZSG: ∀args r,ZBw args=some (true,r)→ZC Tryz.prog 216 args r:=by
 intro args r h;unfold ZBw at h;split at h
 ·rename_i s;simp only[Za,Zb,ZQ,Zg,true_and]at h;obtain⟨h1,rfl⟩:=h;exact(ZVJ s h1)
 ·cases h
theorem ZVA(s:Tx)(hl:s.length≤1000000):ZC Tryz.prog 217 [.x (.str s),.x (.int .u8 32)] (.x (.str (trR s))):=by
 refine ZJ.pure (fC 217 true ?_) rfl;intro C0 E0;have uu:=trivial;have tT:=(ZF:SsOk Tryz.prog ZS);refine nz ?_;refine rg tT [0,1] ?_;refine WI.loop (fun φ os=> ∃(r:Tx),φ= [(0,.x (.str r)),(1,.x (.int .u8 32))]∧os= []∧r.length≤s.length∧trR s=trR r) ((fun φ _=>match get φ 0 with| .x (.str r)=>r.length|_=>0)) ?_ (fun φ os hI=> ?_)
 ·exact⟨s,rfl,rfl,by omega,rfl⟩
 ·obtain⟨r,rfl,rfl,hr,he⟩:=hI;have e1:((r.length:Int)-1).toNat=r.length-1:=by omega
  have uu:=Yq uu e1;refine nz ?_;refine rg tT [0,1,16] ?_;refine cd (fun h0=> ?_) (fun h0=> ?_)
  ·have h0p:0<r.length:=by omega
   have h0c:r.getD (r.length-1) 0=32:=ZVl (by omega);refine rg tT [0,1] ?_;exact⟨⟨r.take (r.length-1),rfl,rfl,by simp;omega,by rw[he,ZWB r h0p h0c]⟩,by show(r.take (r.length-1)).length<r.length;rw[Yv];omega⟩
  ·have h0n: ¬(0<r.length∧r.getD (r.length-1) 0=32):=fun hh=>by
    have h2:((r.getD (r.length-1) 0).toNat:Int)=32:=by rw[hh.2];rfl
    have h1:=hh.1;omega
   refine rg tT [4] ?_;refine lf ?_;rw[he,ZXC r h0n]
def ZB7:List D→Option (Bool×D)
 | [.x (.str s),.x (.int .u8 32)]=>some (decide (s.length≤1000000),.x (.str (trR s)))
 |_=>none
theorem ZSA: ∀args r,ZB7 args=some (true,r)→ZC Tryz.prog 217 args r:=by
 intro args r h;unfold ZB7 at h;split at h
 ·rename_i s;simp only[Za,Zb,ZQ,Zg,true_and]at h;obtain⟨h1,rfl⟩:=h;exact(ZVA s h1)
 ·cases h
def ZIC:Tabs:=ZU (ZU (ZS) 216 ZBw) 217 ZB7
theorem ZMG:SsOk Tryz.prog ZIC:=ZH (ZH (ZF) (Zc 216) ZSG) (Zc 217) ZSA
theorem ZPN:(∀a,ZIC.q 216 a=ZBw a)∧(∀a,ZIC.q 217 a=ZB7 a)∧(∀f a o,ZIC.r f a o=none)∧(∀f a o,ZIC.k f a o=none):=⟨fun _=>rfl,fun _=>rfl,fun _ _ _=>rfl,fun _ _ _=>rfl⟩
theorem ZRw(s:Tx)(hl:s.length≤1000000):ZC Tryz.prog 223 [.x (.str s),.x (.str [32])] (.x (.str (trL s))):=by
 refine ZJ.pure (fC 223 true ?_) rfl;intro C0 E0;have uu:=ξ5 @ZBw.eq_1 @ZBw.eq_2 @ZB7.eq_1 @ZB7.eq_2 @ZPN;have tT:=ZMG;refine nz ?_;refine rg tT [0,1] ?_;refine rg tT [0,1,12] ?_;refine cd (fun h0=> ?_) (fun h0=> ?_)
 ·refine rg tT [4] ?_;refine lf ?_;rw[show s= [] by simpa using h0];rfl
 ·refine rg tT [0,1,21] ?_;refine ct (fun h1=> ?_) (fun h1=> ?_)
  ·refine rg tT [4] ?_;refine lf ?_
   first|rfl|exact⟨rfl,rfl⟩|trivial
  ·simp at h1
def ZB0:List D→Option (Bool×D)
 | [.x (.str s),.x (.str [32])]=>some (decide (s.length≤1000000),.x (.str (trL s)))
 |_=>none
theorem ZO6: ∀args r,ZB0 args=some (true,r)→ZC Tryz.prog 223 args r:=by
 intro args r h;unfold ZB0 at h;split at h
 ·rename_i s;simp only[Za,Zb,ZQ,Zg,true_and]at h;obtain⟨h1,rfl⟩:=h;exact(ZRw s h1)
 ·cases h
def ZN3(s:Tx):Tx:=trL (trR s)
theorem ZZ9(s:Tx)(hl:s.length≤1000000):ZC Tryz.prog 204 [.x (.str s),.x (.str [32])] (.x (.str (ZN3 s))):=by
 have hrl:=ZQL s;refine ZJ.pure (fC 204 true ?_) rfl;intro C0 E0;have uu:=ξ5 @ZBw.eq_1 @ZBw.eq_2 @ZB7.eq_1 @ZB7.eq_2 @ZPN;have tT:=ZMG;refine nz ?_;refine rg tT [0,1] ?_;refine rg tT [0,1,12] ?_;refine cd (fun h0=> ?_) (fun h0=> ?_)
 ·refine rg tT [4] ?_;refine lf ?_;rw[show s= [] by simpa using h0];rfl
 ·refine rg tT [0,1,21] ?_;refine ct (fun h1=> ?_) (fun h1=> ?_)
  ·refine WI.dregB tT [4] ?_
   iterate 2 refine Yo ?_
   refine dFG ?_;refine dAC ?_;refine Yo ?_;refine dFG ?_;refine dAC ?_;refine Yo ?_;refine dN ?_;refine nz ?_;refine lf ?_
   first|rfl|exact⟨rfl,rfl⟩|trivial
  ·simp at h1
def ZIf:List D→Option (Bool×D)
 | [.x (.str s),.x (.str [32])]=>some (decide (s.length≤1000000),.x (.str (ZN3 s)))
 |_=>none
theorem ZVt: ∀args r,ZIf args=some (true,r)→ZC Tryz.prog 204 args r:=by
 intro args r h;unfold ZIf at h;split at h
 ·rename_i s;simp only[Za,Zb,ZQ,Zg,true_and]at h;obtain⟨h1,rfl⟩:=h;exact(ZZ9 s h1)
 ·cases h
end Go.Proofs.YtiogclkbccdefaaGreatDoor
end
section
namespace Go.Proofs.YtiogclkbccdefaaGreatDoor
open Go.RowKit Go.Bo Go.Ab
theorem Zbe: ∀(a b:Fin 16),IntKind.u8.wrap ((BitVec.ofInt IntKind.u8.bits (IntKind.u8.wrap ((a.val:Int)*2^min 4 IntKind.u8.bits))|||BitVec.ofInt IntKind.u8.bits (b.val:Int)).toNat:Int)=((UInt8.ofNat (16*a.val+b.val)).toNat:Int):=by decide+kernel
def orB(h l:Nat):UInt8:=UInt8.ofNat (16*h+l)
theorem Zbv(h l:Nat)(h1:h<16)(h2:l<16):IntKind.u8.wrap ((BitVec.ofInt IntKind.u8.bits (IntKind.u8.wrap ((h:Int)*2^min 4 IntKind.u8.bits))|||BitVec.ofInt IntKind.u8.bits (l:Int)).toNat:Int)=((orB h l).toNat:Int):=Zbe ⟨_,h1⟩ ⟨_,h2⟩
theorem ZQC(n:Nat):(ZBs n).1<16:=by unfold ZBs;split<;>simp_all
def Zaf(a:UInt8):Bool:=spc a.toNat||decide (a.toNat=32)||decide (a.toNat=35)
def Kp(s:Tx):UInt8×Nat×Bool:=
 if s= []then(0,0,false)
 else if Zaf (s.getD 0 0)=true then(s.getD 0 0,1,true)
 else if(ZBs (s.getD 0 0).toNat).2=false∨s.length<2 then(0,0,false)
 else(orB (ZBs (s.getD 0 0).toNat).1 (ZBs (s.getD 1 0).toNat).1,2,(ZBs (s.getD 1 0).toNat).2)
def ZHi:Tabs:=ZU (ZU (ZS) 200 ZAj) 236 ZGH
theorem ZUF:SsOk Tryz.prog ZHi:=ZH (ZH (ZF) (Zc 200) ZJq) ZN9 ZTw
theorem ZWd:(∀a,ZHi.q 200 a=ZAj a)∧(∀a,ZHi.q 236 a=ZGH a)∧(∀f a o,ZHi.r f a o=none)∧(∀f a o,ZHi.k f a o=none):=⟨fun _=>rfl,fun _=>rfl,fun _ _ _=>rfl,fun _ _ _=>rfl⟩
theorem ZZc(s:Tx)(hl:s.length≤1000000):ZC Tryz.prog 224 [.x (.str s)] (.tup [.x (.int .u8 (Kp s).1.toNat),.x (.int .i64 (Kp s).2.1),.x (.bool (Kp s).2.2)]):=by
 have hq: ∀n,inB [44,43,34,92,60,62,59,61] n=spc n:=fun n=>rfl
 have hem:=ZYz s;have hb0:(s.getD 0 0).toNat<256:=ZLJ _;have hb1:(s.getD 1 0).toNat<256:=ZLJ _;have hor:=Zbv _ _ (ZQC (s.getD 0 0).toNat) (ZQC (s.getD 1 0).toNat);rcases he:Kp s with⟨x,n,b⟩
 unfold Kp at he;have hfr:Zaf (s.getD 0 0)=(spc (s.getD 0 0).toNat||decide ((s.getD 0 0).toNat=32)||decide ((s.getD 0 0).toNat=35)):=rfl;refine ZJ.pure (fC 224 true ?_) rfl;intro C0 E0;have uu:=ξ7 @ZAj.eq_1 @ZAj.eq_2 @ZGH.eq_1 @ZGH.eq_2 hq hor @ZWd;have tT:=ZUF;refine nz ?_;refine WI.regB tT [0] ?_
 iterate 3 refine oS ?_
 refine oN ?_;refine nz ?_;refine WI.regB tT [0,9] ?_;refine oS ?_;refine oG (hok:=by first|exact se|(clear uu;grind)|exact sd) ?_;refine oN ?_;refine nz ?_;refine cd (fun h0=> ?_) (fun h0=> ?_)
 ·refine WI.regB tT [2,3,4] ?_
  iterate 3 refine oS ?_
  refine oN ?_;refine nz ?_;refine lf ?_;rw[if_pos (by simpa using h0)]at he;cases he;rfl
 ·have hne:s≠ []:=by simpa using h0
  rw[if_neg hne]at he;have hl1:0<s.length:=ZOh.2 hne;refine WI.regB tT [0,22] ?_;refine oS ?_;refine oG (hok:=by first|exact se|(clear uu;grind)|exact sd) ?_;refine oC (hok:=by first|exact se|(clear uu;grind)|exact sd) ?_;refine oS ?_
  iterate 4 refine oG (hok:=by first|exact se|(clear uu;grind)|exact sd) ?_
  refine oS ?_
  iterate 4 refine oG (hok:=by first|exact se|(clear uu;grind)|exact sd) ?_
  refine oN ?_;refine nz ?_;refine cd (fun h1=> ?_) (fun h1=> ?_)
  ·refine WI.regB tT [2,3,4] ?_;refine oS ?_;refine oG (hok:=by first|exact se|(clear uu;grind)|exact sd) ?_
   iterate 3 refine oS ?_
   refine oN ?_;refine nz ?_;refine lf ?_;rw[if_pos (by rw[hfr];clear uu;grind)]at he;cases he;rfl
  ·rw[if_neg (by rw[hfr];clear uu;grind)]at he;refine WI.regB tT [0,5,6] ?_;refine oS ?_;refine oG (hok:=by first|exact se|(clear uu;grind)|exact sd) ?_;refine oC (hok:=by first|exact se|(clear uu;grind)|exact sd) ?_;refine oS ?_
   iterate 2 refine oG ?_
   iterate 2 refine oS ?_
   refine oN ?_;refine nz ?_;refine WI.regB tT [0,5,37] ?_;refine oS ?_;refine oG (hok:=by first|exact se|(clear uu;grind)|exact sd) ?_;refine oS ?_
   iterate 4 refine oG (hok:=by first|exact se|(clear uu;grind)|exact sd) ?_
   refine oN ?_;refine nz ?_;refine cd (fun h2=> ?_) (fun h2=> ?_)
   ·refine WI.regB tT [2,3,4] ?_
    iterate 3 refine oS ?_
    refine oN ?_;refine nz ?_;refine lf ?_;rw[if_pos (by clear uu;grind)]at he;cases he;rfl
   ·rw[if_neg (by clear uu;grind)]at he;have hl2:2≤s.length:=by clear uu;grind
    refine WI.regB tT [5,6,7] ?_;refine oS ?_;refine oG (hok:=by first|exact se|(clear uu;grind)|exact sd) ?_;refine oC (hok:=by first|exact se|(clear uu;grind)|exact sd) ?_;refine oS ?_
    iterate 2 refine oG ?_
    iterate 2 refine oS ?_
    refine oN ?_;refine nz ?_;refine WI.regB tT [2,3,4] ?_;refine oS ?_;refine oG (hok:=by first|exact se|(clear uu;grind)|exact sd) ?_;refine oS ?_;refine oG (hok:=by first|exact se|(clear uu;grind)|exact sd) ?_
    iterate 4 refine oS ?_
    refine oN ?_;refine nz ?_;refine lf ?_;cases he;rfl
def ZIz:List D→Option (Bool×D)
 | [.x (.str s)]=>some (decide (s.length≤1000000),.tup [.x (.int .u8 (Kp s).1.toNat),.x (.int .i64 (Kp s).2.1),.x (.bool (Kp s).2.2)])
 |_=>none
theorem ZW9: ∀args r,ZIz args=some (true,r)→ZC Tryz.prog 224 args r:=by
 intro args r h;unfold ZIz at h;split at h
 ·rename_i s;simp only[Za,Zb,ZQ,Zg,true_and]at h;obtain⟨h1,rfl⟩:=h;exact(ZZc s h1)
 ·cases h
end Go.Proofs.YtiogclkbccdefaaGreatDoor
end
section
namespace Go.Proofs.YtiogclkbccdefaaGreatDoor
open Go.RowKit Go.Bo Go.Ab
def vlp:Nat→Tx→Tx→Nat→Option (Tx×Nat)
 |0,_,_,_=>none
 |_+1,[],b,e=>some (b,e)
 |n+1,c::r,b,e=>
  if c=92 then(if(Kp r).2.2=true then vlp n (r.drop (Kp r).2.1) (b++ [(Kp r).1]) (b.length+1)else none)
  else if ZSF c.toNat (decide (b.length=0))=true then none
  else if c=32 then vlp n r (b++ [c]) e else vlp n r (b++ [c]) (b.length+1)
theorem ZZk(s:Tx):(Kp s).2.1≤s.length:=by
 unfold Kp;split
 ·simp
 ·rename_i h;have:0<s.length:=ZOh.2 h;split
  ·simp;omega
  ·split
   ·simp
   ·rename_i h2;simp only[not_or]at h2;simp;omega
def ZIN(s:Tx):Tx×Bool:=match vlp (s.length+1) (trL s) [] 0 with
 |none=>([],false)
 |some (b,e)=>(b.take e,decide (e>0))
theorem ZZX{c:UInt8}(h:(c.toNat:Int)=92):c=92:=by
 apply ZRl.1;show c.toNat=92;omega
def ZGD:Tabs:=ZU (ZU (ZU (ZS) 223 ZB0) 224 ZIz) 225 ZD6
theorem ZTg:SsOk Tryz.prog ZGD:=ZH (ZH (ZH (ZF) (Zc 223) ZO6) (Zc 224) ZW9) (Zc 225) ZRA
theorem ZEY:(∀a,ZGD.q 223 a=ZB0 a)∧(∀a,ZGD.q 224 a=ZIz a)∧(∀a,ZGD.q 225 a=ZD6 a)∧(∀f a o,ZGD.r f a o=none)∧(∀f a o,ZGD.k f a o=none):=⟨fun _=>rfl,fun _=>rfl,fun _=>rfl,fun _ _ _=>rfl,fun _ _ _=>rfl⟩
set_option maxHeartbeats 1000000 in
theorem ZZz(s:Tx)(hl:s.length≤900000):ZC Tryz.prog 206 [.x (.str s)] (.tup [.x (.str (ZIN s).1),.x (.bool (ZIN s).2)]):=by
 have htl:=ZPo s;rcases hq:ZIN s with⟨v,ok⟩
 unfold ZIN at hq;refine ZJ.pure (fC 206 true ?_) rfl;intro C0 E0;have uu:=ξn @ZB0.eq_1 (ξn @ZB0.eq_2 (ξn @ZIz.eq_1 (ξn @ZIz.eq_2 (ξn @ZD6.eq_1 (ξn @ZD6.eq_2 (ξn @Kv (ξn @Kb (ξn @ZLq.{0} (ξn ZEY.2.2.2.1 (ξn ZEY.2.2.2.2 (ξn ZEY.1 (ξn ZEY.2.1 (ZEY.2.2.1)))))))))))));have tT:=ZTg;refine nz ?_;refine rg tT [0] ?_;refine WI.scope 0 rfl (fun φ os=>False) (fun φ _=>0) ?_ (fun φ os hI=> ?_)
 ·refine nz ?_;refine rg tT [0] ?_;refine rg tT [0,4] ?_;refine rg tT [0,4,5] ?_;refine WI.label ?_;refine nz ?_;refine WI.ownA 4 5 1 ?_;refine WI.loop (fun φ os=> ∃(r b:Tx) (e n:Nat),φ= [(0,.x (.str r)),(4,.ref 0 b.length 0 b.length),(5,.x (.int .i64 e))]∧os= [.rows false 5 1 (b.map Zf)]∧r.length<n∧b.length+r.length≤s.length∧e≤b.length∧vlp (s.length+1) (trL s) [] 0=vlp n r b e) ((fun φ _=>match get φ 0 with| .x (.str r)=>r.length|_=>0)) ?_ (fun φ os hI=> ?_)
  ·exact⟨trL s,[],0,s.length+1,rfl,rfl,by omega,by simp;omega,by simp,rfl⟩
  ·obtain⟨r,b,e,n,rfl,rfl,hn,hb,he,hv⟩:=hI;obtain⟨n,rfl⟩: ∃m,n=m+1:=⟨n-1,by omega⟩;refine nz ?_;refine rg tT [0,4,5,13] ?_;refine cd (fun h0=> ?_) (fun h0=> ?_)
   ·rcases r with _|⟨c,r⟩
    ·simp at h0
    have hn':r.length+1<n+1:=hn;have hb':b.length+(r.length+1)≤s.length:=hb;have hen:=ZZk r;have hb8:c.toNat<256:=ZLJ _;have hsc:decide (r.length≤1000000)=true:=Zd (by omega);have uu:=Yq uu hsc;refine rg tT [0,4,5,6] ?_;refine rg tT [0,4,5,6] ?_;refine rg tT [0,4,5,6,24] ?_;refine cd (fun h1=> ?_) (fun h1=> ?_)
    ·have hc:c=92:=ZZX (by first|exact h1|simpa using h1);refine rg tT [0,4,7,8,9] ?_;refine rg tT [0,4,7,8,34] ?_;refine cd (fun h2=> ?_) (fun h2=> ?_)
     ·refine rg tT [2,3] ?_;refine lf ?_;rw[hv,vlp,if_pos hc,if_neg (by simpa using h2)]at hq;cases hq;rfl
     ·have hst:vlp (n+1) (c::r) b e=vlp n (r.drop (Kp r).2.1) (b++ [(Kp r).1]) (b.length+1):=by rw[vlp,if_pos hc,if_pos (by simpa using h2)]
      refine WI.post ?_;refine WI.dregB tT [0,4] ?_
      iterate 2 refine Yo ?_
      iterate 2 refine dAG ?_
      iterate 2 refine Yo ?_
      refine dFG ?_
      iterate 2 refine Yo ?_
      refine dP ?_;refine QE [0] ?_;refine QW ?_;refine nz ?_;refine rg tT [0,4,5] ?_
      first|exact⟨⟨r.drop (Kp r).2.1,b++ [(Kp r).1],b.length+1,n,by rw[Zw];first|done|rfl,by rw[Kq];first|done|rfl,by rw[KC];omega,by rw[Zw,KC];simp;omega,by simp,by rw[hv,hst]⟩,by show(r.drop (Kp r).2.1).length<r.length+1;rw[KC];omega⟩|exact⟨⟨r,b++ [c],e,n,by rw[Zw];first|done|rfl,by rw[Kq];first|done|rfl,by omega,by rw[Zw];simp;omega,by simp;omega,by rw[hv,hst]⟩,by show r.length<r.length+1;omega⟩|exact⟨⟨r,b++ [c],b.length+1,n,by rw[Zw];first|done|rfl,by rw[Kq];first|done|rfl,by omega,by rw[Zw];simp;omega,by simp,by rw[hv,hst]⟩,by show r.length<r.length+1;omega⟩
    ·have hc:c≠92:=by rintro rfl;exact absurd h1 (by decide)
     have hz:((b.length:Int)==0)=decide (b.length=0):=by rw[ZAs];simp<;>omega
     have uu:=Yq uu hz;refine rg tT [0,4,5,6,42] ?_;refine cd (fun h3=> ?_) (fun h3=> ?_)
     ·refine rg tT [2,3] ?_;refine lf ?_;rw[hv,vlp,if_neg hc,if_pos (by simpa using h3)]at hq;cases hq;rfl
     ·refine rgp tT [0,4,5,6] ?_;refine QE [0] ?_;refine QW ?_;refine nz ?_;refine rg tT [0,4,5,23] ?_;refine cd (fun h4=> ?_) (fun h4=> ?_) (kA:=fun h=>h.h)
      ·refine WI.orderA [0,4,5] ?_;have hst:vlp (n+1) (c::r) b e=vlp n r (b++ [c]) e:=by rw[vlp,if_neg hc,if_neg (by simpa using h3),if_pos (ZVl (by first|exact h4|simpa using h4))]
       refine nz ?_
       first|exact⟨⟨r.drop (Kp r).2.1,b++ [(Kp r).1],b.length+1,n,by rw[Zw];first|done|rfl,by rw[Kq];first|done|rfl,by rw[KC];omega,by rw[Zw,KC];simp;omega,by simp,by rw[hv,hst]⟩,by show(r.drop (Kp r).2.1).length<r.length+1;rw[KC];omega⟩|exact⟨⟨r,b++ [c],e,n,by rw[Zw];first|done|rfl,by rw[Kq];first|done|rfl,by omega,by rw[Zw];simp;omega,by simp;omega,by rw[hv,hst]⟩,by show r.length<r.length+1;omega⟩|exact⟨⟨r,b++ [c],b.length+1,n,by rw[Zw];first|done|rfl,by rw[Kq];first|done|rfl,by omega,by rw[Zw];simp;omega,by simp,by rw[hv,hst]⟩,by show r.length<r.length+1;omega⟩
      ·have hst:vlp (n+1) (c::r) b e=vlp n r (b++ [c]) (b.length+1):=by rw[vlp,if_neg hc,if_neg (by simpa using h3),if_neg (by rintro rfl;exact absurd h4 (by decide))]
       refine rg tT [0,4,5] ?_
       first|exact⟨⟨r.drop (Kp r).2.1,b++ [(Kp r).1],b.length+1,n,by rw[Zw];first|done|rfl,by rw[Kq];first|done|rfl,by rw[KC];omega,by rw[Zw,KC];simp;omega,by simp,by rw[hv,hst]⟩,by show(r.drop (Kp r).2.1).length<r.length+1;rw[KC];omega⟩|exact⟨⟨r,b++ [c],e,n,by rw[Zw];first|done|rfl,by rw[Kq];first|done|rfl,by omega,by rw[Zw];simp;omega,by simp;omega,by rw[hv,hst]⟩,by show r.length<r.length+1;omega⟩|exact⟨⟨r,b++ [c],b.length+1,n,by rw[Zw];first|done|rfl,by rw[Kq];first|done|rfl,by omega,by rw[Zw];simp;omega,by simp,by rw[hv,hst]⟩,by show r.length<r.length+1;omega⟩
   ·obtain rfl:r= []:=by simpa using h0
    have hv2:vlp (s.length+1) (trL s) [] 0=some (b,e):=by rw[hv];rfl
    rw[hv2]at hq;have e1:(List.map Zf b).take e=(b.take e).map Zf:=by rw[List.map_take]
    have uu:=Yq uu e1;refine rg tT [2,3] ?_;refine lf ?_;cases hq;rw[show decide ((e:Int)>0)=decide (e>0) by rw[ZAs];simp]
 ·exact hI.elim
def ZIr:List D→Option (Bool×D)
 | [.x (.str s)]=>some (decide (s.length≤900000),.tup [.x (.str (ZIN s).1),.x (.bool (ZIN s).2)])
 |_=>none
theorem ZWL: ∀args r,ZIr args=some (true,r)→ZC Tryz.prog 206 args r:=by
 intro args r h;unfold ZIr at h;split at h
 ·rename_i s;simp only[Za,Zb,ZQ,Zg,true_and]at h;obtain⟨h1,rfl⟩:=h;exact(ZZz s h1)
 ·cases h
theorem ZFB(s:Tx)(j:Nat)(h:j<s.length):s.drop j=s.getD j 0::s.drop (j+1):=by
 rw[ZEc h];simp[h]
theorem neD{c:UInt8}{k:Nat}(hk:k<256)(h: ¬(c.toNat:Int)=k):c≠UInt8.ofNat k:=fun e=>h (by rw[e];simp;omega)
end Go.Proofs.YtiogclkbccdefaaGreatDoor
end
section
namespace Go.Proofs.YtiogclkbccdefaaGreatDoor
open Go.RowKit Go.Bo Go.Ab
def pre(p:Tx):List Tx→List Tx
 | []=> [p]
 |x::l=>(p++x)::l
def Yb(a:UInt8):Tx→List Tx
 | []=> [[]]
 |c::r=>if c=92 then(match r with
   | []=> [[c]]
   |d::r'=>pre [c,d] (Yb a r'))else if c=a then []::Yb a r else pre [c] (Yb a r)
theorem ZUY(p:Tx)(l:List Tx):pre p l≠ []:=by cases l<;>simp[pre]
theorem ZK0(a:UInt8)(s:Tx):Yb a s≠ []:=by
 unfold Yb;split
 ·simp
 ·split
  ·split
   ·simp
   ·exact ZUY _ _
  ·split
   ·simp
   ·exact ZUY _ _
theorem ZQm(p q:Tx)(l:List Tx)(h:l≠ []):pre p (pre q l)=pre (p++q) l:=by
 rcases l with _|⟨x,l⟩
 ·exact absurd rfl h
 ·simp[pre]
theorem ZQR(l:List Tx)(h:l≠ []):pre [] l=l:=by
 rcases l with _|⟨x,l⟩
 ·exact absurd rfl h
 ·simp[pre]
theorem ZSI(a:UInt8)(s:Tx)(j:Nat)(h:j<s.length)(hc:s.getD j 0=92):Yb a (s.drop j)=pre ((s.drop j).take 2) (Yb a (s.drop (j+2))):=by
 rw[ZFB s j h,hc];rcases hr:s.drop (j+1)with _|⟨d,r⟩
 ·have:s.drop (j+2)= []:=by rw[←ZNJ,show s.drop j=s.drop (j+0)from rfl];have:=congrArg (List.drop 1) hr;rw[ZNJ]at this;simpa using this
  rw[this];rfl
 ·have:s.drop (j+2)=r:=by have:=congrArg (List.drop 1) hr;rw[ZNJ]at this;simpa using this
  rw[this]
  conv=>lhs;unfold Yb
  rw[if_pos rfl];rfl
theorem ZYw(a:UInt8)(ha:a≠92)(s:Tx)(j:Nat)(h:j<s.length)(hc:s.getD j 0=a):Yb a (s.drop j)= []::Yb a (s.drop (j+1)):=by
 rw[ZFB s j h,hc]
 conv=>lhs;unfold Yb
 rw[if_neg ha,if_pos rfl]
theorem ZT2(a:UInt8)(s:Tx)(j:Nat)(h:j<s.length)(h1:s.getD j 0≠92)(h2:s.getD j 0≠a):Yb a (s.drop j)=pre [s.getD j 0] (Yb a (s.drop (j+1))):=by
 rw[ZFB s j h]
 conv=>lhs;unfold Yb
 rw[if_neg h1,if_neg h2]
theorem ZJy(s:Tx)(f j k:Nat)(h:f≤j)(hj:j≤s.length):(s.take (j+k)).drop f=(s.take j).drop f++(s.drop j).take k:=by
 rw[List.take_add,List.drop_append_of_le_length (by simp;omega)]
theorem ZZ4(s:Tx)(j:Nat)(h:j<s.length):(s.drop j).take 1= [s.getD j 0]:=by rw[ZFB s j h];rfl
structure SpI (a:UInt8) (s:Tx) (f j:Nat) (ps:List Tx):Prop where
 fj:f≤j
 jl:j≤s.length+1
 fl:f≤s.length
 pl:ps.length≤f
 eq:Yb a s=ps++pre ((s.take j).drop f) (Yb a (s.drop j))
theorem SpI.start(a:UInt8)(s:Tx):SpI a s 0 0 []:=⟨Zh _,by omega,by omega,by simp,by show Yb a s=pre [] (Yb a s);rw[ZQR _ (ZK0 a s)]⟩
theorem SpI.slash{a:UInt8}{s:Tx}{f j:Nat}{ps:List Tx}(I:SpI a s f j ps)(h:j<s.length)(hc:s.getD j 0=92):SpI a s f (j+2) ps:=
 ⟨by have:=I.fj;omega,by omega,I.fl,I.pl,by rw[I.eq,ZSI a s j h hc,ZQm _ _ _ (ZK0 _ _),ZJy s f j 2 I.fj (by omega)]⟩
theorem SpI.hit{a:UInt8}(ha:a≠92){s:Tx}{f j:Nat}{ps:List Tx}(I:SpI a s f j ps)(h:j<s.length)(hc:s.getD j 0=a):SpI a s (j+1) (j+1) (ps++ [(s.take j).drop f]):=
 ⟨Zh _,by omega,by omega,by have:=I.pl;have:=I.fj;simp;omega,by
  rw[I.eq,ZYw a ha s j h hc,ZED (l:=s.take (j+1)) (by simp;omega),ZQR _ (ZK0 _ _)];simp[pre]⟩
theorem SpI.plain{a:UInt8}{s:Tx}{f j:Nat}{ps:List Tx}(I:SpI a s f j ps)(h:j<s.length)(h1:s.getD j 0≠92)(h2:s.getD j 0≠a):SpI a s f (j+1) ps:=
 ⟨by have:=I.fj;omega,by omega,I.fl,I.pl,by rw[I.eq,ZT2 a s j h h1 h2,ZQm _ _ _ (ZK0 _ _),ZJy s f j 1 I.fj (by omega),ZZ4 s j h]⟩
theorem SpI.fin{a:UInt8}{s:Tx}{f j:Nat}{ps:List Tx}(I:SpI a s f j ps)(h:s.length≤j):Yb a s=ps++ [s.drop f]:=by
 rw[I.eq,ZED h,Yp h];simp[Yb,pre]
theorem ZDp(l:List Tx)(x:Tx):rows ZB l++ [[X.str x]]=rows ZB (l++ [x]):=by simp[rows,ZB]
theorem cD{c a:UInt8}(h:(c.toNat:Int)=a.toNat):c=a:=ZRl.1 (by omega)
theorem nD{c a:UInt8}(h: ¬(c.toNat:Int)=a.toNat):c≠a:=fun e=>h (by rw[e])
theorem ZN2(a:UInt8)(ha:a≠92)(s:Tx)(hl:s.length≤1000000):ZC Tryz.prog 159 [.x (.str s),.x (.int .u8 a.toNat)] (.x (.sl (rows ZB (Yb a s)))):=by
 refine ZJ.pure (fC 159 true ?_) rfl;intro C0 E0;have uu:=trivial;have tT:=(ZF:SsOk Tryz.prog ZS);refine nz ?_;refine rg tT [0,1] ?_;refine rg tT [0,1,5] ?_;refine rg tT [0,1,5,6] ?_;refine rg tT [0,1,5,6,7] ?_;refine WI.ownA 5 9 1 ?_;refine WI.loop (fun φ os=> ∃(f j:Nat) (ps:List Tx),φ= [(0,.x (.str s)),(1,.x (.int .u8 a.toNat)),(5,.ref 0 ps.length 0 ps.length),(6,.x (.int .i64 f)),(7,.x (.int .i64 j))]∧os= [.rows false 9 1 (rows ZB ps)]∧SpI a s f j ps) (ZV (s.length+1) 7) ?_ (fun φ os hI=> ?_)
 ·exact⟨0,0,[],rfl,rfl,SpI.start a s⟩
 ·obtain⟨f,j,ps,rfl,rfl,I⟩:=hI;have i1:=I.fj;have i2:=I.jl;have i3:=I.fl;have i4:=I.pl;refine nz ?_;refine rg tT [0,1,5,6,7,11] ?_;refine cd (fun h0=> ?_) (fun h0=> ?_)
  ·have hj4:j<s.length:=by omega
   refine rg tT [0,1,5,6,7,16] ?_;refine rg tT [0,1,5,6,7,16,17] ?_;refine cd (fun h1=> ?_) (fun h1=> ?_)
   ·have hc:s.getD j 0=92:=ZZX (by first|exact h1|simpa using h1);refine rg tT [0,1,5,6,7] ?_;refine WI.orderA [0,1,5,6,7] ?_;refine rg tT [0,1,5,6,7] ?_
    first|exact⟨⟨f,j+2,ps,rfl,rfl,I.slash hj4 hc⟩,by simp[ZV,Ab.get,D.val,ZG];omega⟩|exact⟨⟨j+1,j+1,ps++ [(s.take j).drop f],by rw[Zw];first|done|rfl,by rw[←ZDp];first|done|rfl,I.hit ha hj4 hc⟩,by simp[ZV,Ab.get,D.val,ZG];omega⟩|exact⟨⟨f,j+1,ps,rfl,rfl,I.plain hj4 hc1 hc2⟩,by simp[ZV,Ab.get,D.val,ZG];omega⟩
   ·have hc1:s.getD j 0≠92:=neD (k:=92) (by decide) (by first|exact h1|simpa using h1);refine rg tT [0,1,5,6,7,21] ?_;refine cd (fun h2=> ?_) (fun h2=> ?_)
    ·have hc:s.getD j 0=a:=cD (by first|exact h2|simpa using h2);refine rgp tT [0,1,5,7] ?_;refine QE [0] ?_;refine QW ?_;refine nz ?_;refine rg tT [0,1,5,6,7] ?_;refine WI.orderA [0,1,5,6,7] ?_;refine rg tT [0,1,5,6,7] ?_
     first|exact⟨⟨f,j+2,ps,rfl,rfl,I.slash hj4 hc⟩,by simp[ZV,Ab.get,D.val,ZG];omega⟩|exact⟨⟨j+1,j+1,ps++ [(s.take j).drop f],by rw[Zw];first|done|rfl,by rw[←ZDp];first|done|rfl,I.hit ha hj4 hc⟩,by simp[ZV,Ab.get,D.val,ZG];omega⟩|exact⟨⟨f,j+1,ps,rfl,rfl,I.plain hj4 hc1 hc2⟩,by simp[ZV,Ab.get,D.val,ZG];omega⟩
    ·have hc2:s.getD j 0≠a:=nD (by first|exact h2|simpa using h2);refine WI.orderA [0,1,5,6,7] ?_;refine rg tT [0,1,5,6,7] ?_
     first|exact⟨⟨f,j+2,ps,rfl,rfl,I.slash hj4 hc⟩,by simp[ZV,Ab.get,D.val,ZG];omega⟩|exact⟨⟨j+1,j+1,ps++ [(s.take j).drop f],by rw[Zw];first|done|rfl,by rw[←ZDp];first|done|rfl,I.hit ha hj4 hc⟩,by simp[ZV,Ab.get,D.val,ZG];omega⟩|exact⟨⟨f,j+1,ps,rfl,rfl,I.plain hj4 hc1 hc2⟩,by simp[ZV,Ab.get,D.val,ZG];omega⟩
  ·refine rg tT [4] ?_;refine lf ?_;rw[ZDp,I.fin (by omega),Yp (by simp[rows])]
def Jz:List D→Option (Bool×D)
 | [.x (.str s),.x (.int .u8 n)]=>some (decide (s.length≤1000000)&&(decide (n=43∨n=44)),.x (.sl (rows ZB (Yb (UInt8.ofNat n.toNat) s))))
 |_=>none
theorem ZGb: ∀args r,Jz args=some (true,r)→ZC Tryz.prog 159 args r:=by
 intro args r h;unfold Jz at h;split at h
 ·rename_i s n;simp only[Za,Zb,ZQ,Zg,true_and]at h;obtain⟨⟨h1,h2⟩,rfl⟩:=h;exact(by rcases h2 with rfl|rfl;exact ZN2 43 (by decide) s h1;exact ZN2 44 (by decide) s h1)
 ·cases h
end Go.Proofs.YtiogclkbccdefaaGreatDoor
end
section
namespace Go.Proofs.YtiogclkbccdefaaGreatDoor
open Go.RowKit Go.Bo Go.Ab
def ZZu(n:Nat):Bool:=decide (97≤n∧n≤122)||decide (65≤n∧n≤90)
def ZZy(n:Nat):Bool:=decide (48≤n∧n≤57)||decide (n=45)
def tyC(i:Nat)(c:UInt8):Bool:=ZZu c.toNat||(decide (0<i)&&ZZy c.toNat)
def tyU(s:List UInt8):Nat→Bool
 |0=>true
 |j+1=>tyU s j&&tyC j (s.getD j 0)
def tyA(s:List UInt8)(j:Nat):Bool:=(decide (s≠ [])&&decide (s.length≤64))&&tyU s j
def JD(s:List UInt8):Bool:=tyA s s.length
theorem ZXV(s:List UInt8):JD s=(decide (1≤s.length∧s.length≤64)&&tyU s s.length):=by
 unfold JD tyA;congr 1;rcases s with _|⟨c,s⟩<;>simp
theorem ZXp(j:Nat)(c:UInt8):(((decide ((Ko c).toNat≥97)&&decide ((Ko c).toNat≤122))||(decide (j>0)&&((decide ((Ko c).toNat≥48)&&decide ((Ko c).toNat≤57))||decide ((Ko c).toNat=45)))))=tyC j c:=by
 have h8:=ZLJ c;unfold tyC ZZu ZZy;by_cases h:65≤c.toNat∧c.toNat≤90
 ·have e:(Ko c).toNat=c.toNat+32:=by have:=ZLs h;omega
  rw[e,ZAs];simp only[ZDc,ZQ,Zg];omega
 ·have e:Ko c=c:=if_neg h;rw[e,ZAs];simp only[ZDc,ZQ,Zg];omega
theorem ZQI(s:List UInt8):(!s== []&&decide ((s.length:Int)≤64))=tyA s 0:=by
 unfold tyA;rw[tyU,ZAD,ZAs];simp;omega
theorem ZQl(s:List UInt8)(j:Nat):(tyA s j&&(decide (((Ko (s.getD j 0)).toNat:Int)≥97)&&decide (((Ko (s.getD j 0)).toNat:Int)≤122)||decide ((j:Int)>0)&&(decide (((Ko (s.getD j 0)).toNat:Int)≥48)&&decide (((Ko (s.getD j 0)).toNat:Int)≤57)||((Ko (s.getD j 0)).toNat:Int)==45)))=tyA s (j+1):=by
 have h:=ZXp j (s.getD j 0);unfold tyA;rw[tyU,←h,←ZHb];congr 1;rw[ZAs];simp only[ZDc,ZQ,Zg,beq_iff_eq];omega
theorem ZPl(s:List UInt8)(i:Nat)(h:i<s.length):((ZE s).map Zf)[i]? =some [X.int .u8 (Ko (s.getD i 0)).toNat]:=by
 simp[ZE,h,Zf]
def ZKO:Tabs:=ZU (ZS) 63 ZAM
theorem ZMl:SsOk Tryz.prog ZKO:=ZH (ZF) (Zc 63) ZLz
theorem ZNR:(∀a,ZKO.q 63 a=ZAM a)∧(∀f a o,ZKO.r f a o=none)∧(∀f a o,ZKO.k f a o=none):=⟨fun _=>rfl,fun _ _ _=>rfl,fun _ _ _=>rfl⟩
theorem ZUi(s:List UInt8)(hl:s.length≤1000000):ZC Tryz.prog 205 [.x (.str s)] (.x (.bool (JD s))):=by
 refine ZJ.pure (fC 205 true ?_) rfl;intro C0 E0;have uu:=ξ6 @ZAM.eq_1 @ZAM.eq_2 @ZG9 @Kv @Kb @ZNR;have tT:=ZMl;refine nz ?_;refine rg tT [0] ?_;refine rg tT [0,3] ?_;refine rg tT [3,16,17,18] ?_;refine WI.loop (fun φ os=> ∃(j:Nat),φ= [(3,.x (.bool (tyA s j))),(16,.ref 0 s.length 0 s.length),(17,.x (.int .i64 s.length)),(18,.x (.int .i64 j))]∧os= [.rows true 5 1 ((ZE s).map Zf)]∧j≤s.length) (ZV s.length 18) ?_ (fun φ os hI=> ?_)
 ·exact⟨0,by rw[←ZQI];rfl,rfl,by omega⟩
 ·obtain⟨j,rfl,rfl,hj⟩:=hI;refine nz ?_;refine rg tT [3,16,17,18,19] ?_;refine cd (fun h0=> ?_) (fun h0=> ?_)
  ·have hj4:j<s.length:=by omega
   have uu:=Yq uu (ZPl s j hj4);refine rg tT [3,4,5,16,17,18] ?_;refine rg tT [3,4,5,6,16,17,18] ?_;refine rg tT [3,16,17,18] ?_;refine rg tT [3,16,17,18] ?_;exact⟨⟨j+1,by rw[←ZQl];rfl,rfl,by omega⟩,by simp[ZV,Ab.get,D.val,ZG];omega⟩
  ·refine rg tT [2] ?_;refine lf ?_;rw[show JD s=tyA s j from by rw[show j=s.length by omega];rfl]
def QL:List D→Option (Bool×D)
 | [.x (.str s)]=>some (decide (s.length≤1000000),.x (.bool (JD s)))
 |_=>none
theorem ZKE: ∀args r,QL args=some (true,r)→ZC Tryz.prog 205 args r:=by
 intro args r h;unfold QL at h;split at h
 ·rename_i s;simp only[Za,Zb,ZQ,Zg,true_and]at h;obtain⟨h1,rfl⟩:=h;exact(ZUi s h1)
 ·cases h
theorem ZU0(s:List UInt8)(hl:s.length≤1000000):ZC Tryz.prog 148 [.x (.str s)] (.x (.bool (JD s))):=by
 refine ZJ.pure (fC 148 true ?_) rfl;intro C0 E0;have uu:=ξ6 @ZAM.eq_1 @ZAM.eq_2 @ZG9 @Kv @Kb @ZNR;have tT:=ZMl;refine nz ?_;refine rg tT [0] ?_;refine rg tT [0,3] ?_;refine rg tT [3,16,17,18] ?_;refine WI.loop (fun φ os=> ∃(j:Nat),φ= [(3,.x (.bool (tyA s j))),(16,.ref 0 s.length 0 s.length),(17,.x (.int .i64 s.length)),(18,.x (.int .i64 j))]∧os= [.rows true 5 1 ((ZE s).map Zf)]∧j≤s.length) (ZV s.length 18) ?_ (fun φ os hI=> ?_)
 ·exact⟨0,by rw[←ZQI];rfl,rfl,by omega⟩
 ·obtain⟨j,rfl,rfl,hj⟩:=hI;refine nz ?_;refine rg tT [3,16,17,18,19] ?_;refine cd (fun h0=> ?_) (fun h0=> ?_)
  ·have hj4:j<s.length:=by omega
   have uu:=Yq uu (ZPl s j hj4);refine rg tT [3,4,5,16,17,18] ?_;refine rg tT [3,4,5,6,16,17,18] ?_;refine rg tT [3,16,17,18] ?_;refine rg tT [3,16,17,18] ?_;exact⟨⟨j+1,by rw[←ZQl];rfl,rfl,by omega⟩,by simp[ZV,Ab.get,D.val,ZG];omega⟩
  ·refine rg tT [2] ?_;refine lf ?_;rw[show JD s=tyA s j from by rw[show j=s.length by omega];rfl]
def ZB6:List D→Option (Bool×D)
 | [.x (.str s)]=>some (decide (s.length≤1000000),.x (.bool (JD s)))
 |_=>none
theorem ZQv: ∀args r,ZB6 args=some (true,r)→ZC Tryz.prog 148 args r:=by
 intro args r h;unfold ZB6 at h;split at h
 ·rename_i s;simp only[Za,Zb,ZQ,Zg,true_and]at h;obtain⟨h1,rfl⟩:=h;exact(ZU0 s h1)
 ·cases h
end Go.Proofs.YtiogclkbccdefaaGreatDoor
end
section
namespace Go.Proofs
open Go.Shelf Go.RowKit Go.Lib
variable {P:Program} {ρ:Ren}
set_option maxHeartbeats 2000000 in
set_option maxRecDepth 100000 in
theorem Any1.stringslite_Cut_one(L:Lays.n220 P ρ)(s:ByteArray)(b:UInt8)(w:World)(hs:s.size<4294967281):
  Calls P (ρ.f 220) #[.string s,.string ⟨#[b]⟩] w fun e w'=>e= .returned (.tuple #[.string ⟨(Lib.cut s.data.toList [b]).1.toArray⟩,.string ⟨(Lib.cut s.data.toList [b]).2.1.toArray⟩,.bool (Lib.cut s.data.toList [b]).2.2])∧ ∃n,w'=w.drewN n:=by
 rcases Lib.indexB_cases s ⟨#[b]⟩with hix|⟨i,hix,hroom⟩
 ·obtain⟨e1,e2,e3⟩:=Lib.cutB_miss s ⟨#[b]⟩ hix;rw[show [b]=(⟨#[b]⟩:ByteArray).data.toList from rfl,e1,e2,e3];have t3:=L.t3;have t4:=L.t4;have t9:=L.t9;have a3: ∀w,(isAgg (ρ.t 3)).run P w= .ok false w:=run_isAgg_plain L.t3 rfl;have a4: ∀w,(isAgg (ρ.t 4)).run P w= .ok false w:=run_isAgg_plain L.t4 rfl;have a9: ∀w,(isAgg (ρ.t 9)).run P w= .ok false w:=run_isAgg_plain L.t9 rfl;have e219: ∀args w,(callFunc (ρ.f 219) args).run P w= .ok (.enter (ρ.f 219) args) w:=enters_of L.f219 (by kernel_rfl) rfl;have mixed:=L.mixed;have z3:=L.z3;have v3:=L.v3;have z4:=L.z4;have v4:=L.v4;have z9:=L.z9;have v9:=L.v9
  go_enter L.f220,Body.n220_ntmps ρ
  go_wp2_with (go_at_fn (ρ.f 219);refine(Any.stringslite_Index_one {L with} _ _ _).mono ?_;rintro e w' ⟨rfl,rfl⟩;rw[←Lib.index_one,show Lib.index s.data.toList [b]=_ from hix])
  go_ret3
  exact⟨rfl,0,rfl⟩
 ·obtain⟨e1,e2,e3⟩:=Lib.cutB_hit s ⟨#[b]⟩ i hix;rw[show [b]=(⟨#[b]⟩:ByteArray).data.toList from rfl,e1,e2,e3];have hb1:(⟨#[b]⟩:ByteArray).size=1:=rfl;have c1:(0:Int)≤ ↑i:=by omega
  have c2:(↑i:Int)≤ ↑s.size:=by omega
  have c3:(0:Int)≤ ↑i+1:=by omega
  have c4:(↑i+1:Int)≤ ↑s.size:=by omega
  have t3:=L.t3;have t4:=L.t4;have t9:=L.t9;have a3: ∀w,(isAgg (ρ.t 3)).run P w= .ok false w:=run_isAgg_plain L.t3 rfl;have a4: ∀w,(isAgg (ρ.t 4)).run P w= .ok false w:=run_isAgg_plain L.t4 rfl;have a9: ∀w,(isAgg (ρ.t 9)).run P w= .ok false w:=run_isAgg_plain L.t9 rfl;have e219: ∀args w,(callFunc (ρ.f 219) args).run P w= .ok (.enter (ρ.f 219) args) w:=enters_of L.f219 (by kernel_rfl) rfl;have mixed:=L.mixed;have z3:=L.z3;have v3:=L.v3;have z4:=L.z4;have v4:=L.v4;have z9:=L.z9;have v9:=L.v9
  go_enter L.f220,Body.n220_ntmps ρ
  go_wp2_with (go_at_fn (ρ.f 219);refine(Any.stringslite_Index_one {L with} _ _ _).mono ?_;rintro e w' ⟨rfl,rfl⟩;rw[←Lib.index_one,show Lib.index s.data.toList [b]=_ from hix])
  go_region_o
  go_wp2
  go_ret3
  exact⟨rfl,1,rfl⟩
set_option maxHeartbeats 1000000 in
theorem Any1.strings_Cut_one(L:Lays.n145 P ρ)(s:ByteArray)(b:UInt8)(w:World)(hs:s.size<4294967281):
  Calls P (ρ.f 145) #[.string s,.string ⟨#[b]⟩] w fun e w'=>e= .returned (.tuple #[.string ⟨(Lib.cut s.data.toList [b]).1.toArray⟩,.string ⟨(Lib.cut s.data.toList [b]).2.1.toArray⟩,.bool (Lib.cut s.data.toList [b]).2.2])∧ ∃n,w'=w.drewN n:=by
 have t4:=L.t4;have t9:=L.t9;have t59:=L.t59;have a4: ∀w,(isAgg (ρ.t 4)).run P w= .ok false w:=run_isAgg_plain L.t4 rfl;have a9: ∀w,(isAgg (ρ.t 9)).run P w= .ok false w:=run_isAgg_plain L.t9 rfl;have a59: ∀w,(isAgg (ρ.t 59)).run P w= .ok false w:=run_isAgg_plain L.t59 rfl;have e220: ∀args w,(callFunc (ρ.f 220) args).run P w= .ok (.enter (ρ.f 220) args) w:=enters_of L.f220 (by kernel_rfl) rfl;have mixed:=L.mixed;have z4:=L.z4;have v4:=L.v4;have z9:=L.z9;have v9:=L.v9;have z59:=L.z59;have v59:=L.v59
 go_enter L.f145,Body.n145_ntmps ρ
 go_wp2_with (go_at_fn (ρ.f 220);refine(Any1.stringslite_Cut_one {L with} _ _ _ hs).mono ?_;rintro e w' ⟨rfl,n,rfl⟩)
 go_ret3
 exact⟨rfl,n,rfl⟩
end Go.Proofs
namespace Go.Proofs.YtiogclkbccdefaaGreatDoor
open Go.RowKit Go.Bo Go.Ab
def Kt(c:UInt8):List UInt8→List UInt8×List UInt8×Bool
 | []=>([],[],false)
 |b::l=>if b=c then([],l,true)else(b::(Kt c l).1,(Kt c l).2.1,(Kt c l).2.2)
theorem ZPh(c:UInt8): ∀s,Lib.cut s [c]=Kt c s
 | []=>by simp[Lib.cut,Kt,Lib.index]
 |b::l=>by
  have ih:=ZPh c l;unfold Lib.cut at ih⊢;by_cases h:b=c
  ·subst h;have hp: [b].isPrefixOf (b::l)=true:=by simp[List.isPrefixOf]
   simp[Lib.index,hp,Kt]
  ·have hp: [c].isPrefixOf (b::l)=false:=by simp[List.isPrefixOf];exact fun e=>h e.symm
   rw[Kt,if_neg h,←ih];have hn:=Lib.index_ge l [c];by_cases hi:Lib.index l [c]= -1
   ·simp[Lib.index,hp,hi]
   ·obtain⟨n,hn⟩: ∃n:Nat,Lib.index l [c]=n:=⟨(Lib.index l [c]).toNat,by omega⟩;simp only[Lib.index,hp,hn,Jh,ξN];simp;omega
theorem Za9(s:List UInt8)(c:UInt8)(hl:s.length≤1000000):ZC Tryz.prog 203 [.x (.str s),.x (.str [c])] (.tup [.x (.str (Kt c s).1),.x (.str (Kt c s).2.1),.x (.bool (Kt c s).2.2)]):=by
 intro w st vs hst hvl;obtain⟨hsz,hv⟩:=hvl;obtain⟨v0,v1,rfl⟩: ∃v0 v1,vs= #[v0,v1]:=by
  obtain⟨vl⟩:=vs
  match vl,hsz with
  | [a,b],_=>exact⟨a,b,rfl⟩
 have h0:=hv 0 _ v0 rfl rfl;have h1:=hv 1 _ v1 rfl rfl;cases h0 with
 |x h0=>
 cases h1 with
 |x h1=>
 cases h1 with
 |str _=>
 cases h0 with
 |str _=>
 have hbs:(ZK s).size=s.length:=by simp[ZK,ByteArray.size]
 refine(Any1.strings_Cut_one Tryz.lays145 (ZK s) c w (by omega)).mono ?_;rintro e w' ⟨rfl,n,rfl⟩;refine⟨_,st,rfl,⟨rfl,rfl,rfl,by simp[World.drewN],fun _ _ _=>rfl⟩,fun _ _ h=>h,fun _ _ h=> .inl h,?_⟩;have e1:(ZK s).data.toList=s:=by simp[ZK]
 rw[e1,ZPh];exact V.tup3 (V.mkstr _ _ _) (V.mkstr _ _ _) (.x (.bool _))
theorem ZR8:Go.Ab.Enters Tryz.prog 203:=Go.Proofs.enters_of Tryz.lays145.f145 (by kernel_rfl) rfl
def cutG:List D→Option (Bool×D)
 | [.x (.str s),.x (.str [c])]=>some (decide (s.length≤1000000),.tup [.x (.str (Kt c s).1),.x (.str (Kt c s).2.1),.x (.bool (Kt c s).2.2)])
 |_=>none
theorem ZY5: ∀args r,cutG args=some (true,r)→ZC Tryz.prog 203 args r:=by
 intro args r h;unfold cutG at h;split at h
 ·rename_i s c;simp only[Za,Zb,ZQ,Zg,true_and]at h;obtain⟨h1,rfl⟩:=h;exact(Za9 s c h1)
 ·cases h
end Go.Proofs.YtiogclkbccdefaaGreatDoor
end
section
namespace Go.Proofs.YtiogclkbccdefaaGreatDoor
open Go.RowKit Go.Bo Go.Ab
abbrev Av:=Tx×Tx
def Zz:RC Av:=⟨2,fun p=> [.str p.1,.str p.2],fun
 | [.str a,.str b]=>some (a,b)
 |_=>none⟩
theorem ZHj:Zz.Good:=⟨fun _=>rfl,fun _=>rfl,fun r x h=>by
 simp only[Zz]at h;split at h
 ·cases h;rfl
 ·cases h⟩
abbrev Kc:RC (List Av):=rSl Zz
theorem ZFA:Kc.Good:=ZCi ZHj
theorem ZV0(l:List Av):ZZ Zz (rows Zz l)=some l:=Zv ZHj l
theorem ZRa(l:List (List Av)):ZZ Kc (rows Kc l)=some l:=Zv ZFA l
theorem ZKs(l:List Av)(a b:Tx):rows Zz l++ [[X.str a,X.str b]]=rows Zz (l++ [(a,b)]):=by simp[rows,Zz]
theorem ZR0(l:List (List Av))(x:List Av):rows Kc l++ [[X.sl (rows Zz x)]]=rows Kc (l++ [x]):=by simp[rows,Kc,rSl]
def KW(s:Tx):Av×Bool:=
 if(Kt 61 s).2.2=false∨JD (ZN3 (Kt 61 s).1)=false then(([],[]),false)
 else((ZN3 (Kt 61 s).1,(ZIN (Kt 61 s).2.1).1),(ZIN (Kt 61 s).2.1).2)
theorem ZHa(c:UInt8): ∀s,(Kt c s).1.length≤s.length∧(Kt c s).2.1.length≤s.length
 | []=>by simp[Kt]
 |b::l=>by
  obtain⟨h1,h2⟩:=ZHa c l;unfold Kt;split
  ·simp
  ·simp;omega
theorem ZO2(s:Tx):(ZN3 s).length≤s.length:=ZHz (ZPo _) (ZQL _)
def ZEI:Tabs:=ZU (ZU (ZU (ZU (ZS) 203 cutG) 204 ZIf) 205 QL) 206 ZIr
theorem ZUN:SsOk Tryz.prog ZEI:=ZH (ZH (ZH (ZH (ZF) ZR8 ZY5) (Zc 204) ZVt) (Zc 205) ZKE) (Zc 206) ZWL
theorem ZUm:(∀a,ZEI.q 203 a=cutG a)∧(∀a,ZEI.q 204 a=ZIf a)∧(∀a,ZEI.q 205 a=QL a)∧(∀a,ZEI.q 206 a=ZIr a)∧(∀f a o,ZEI.r f a o=none)∧(∀f a o,ZEI.k f a o=none):=⟨fun _=>rfl,fun _=>rfl,fun _=>rfl,fun _=>rfl,fun _ _ _=>rfl,fun _ _ _=>rfl⟩
theorem ZYi(s:Tx)(hl:s.length≤900000):ZC Tryz.prog 183 [.x (.str s)] (.tup [.agg [.x (.str (KW s).1.1),.x (.str (KW s).1.2)],.x (.bool (KW s).2)]):=by
 have h1:=ZHa 61 s;have h2:=ZO2 (Kt 61 s).1;rcases hq:KW s with⟨⟨a,v⟩,ok⟩
 unfold KW at hq;refine ZJ.pure (fC 183 true ?_) rfl;intro C0 E0;have uu:=Qy @cutG.eq_1 @cutG.eq_2 @ZIf.eq_1 @ZIf.eq_2 @QL.eq_1 @QL.eq_2 @ZIr.eq_1 @ZIr.eq_2 @ZUm;have tT:=ZUN;refine nz ?_;refine rg tT [0,2] ?_;refine rg tT [2,4,5,6] ?_;refine rg tT [2,4,5,6] ?_;refine rg tT [2,4,5,22] ?_;refine cd (fun h0=> ?_) (fun h0=> ?_)
 ·refine rg tT [2,3] ?_;refine lf ?_;rw[if_pos (by clear uu;grind)]at hq;cases hq;rfl
 ·refine rg tT [2,4,6,7] ?_;refine rg tT [2,3] ?_;refine lf ?_;rw[if_neg (by clear uu;grind)]at hq;cases hq;rfl
end Go.Proofs.YtiogclkbccdefaaGreatDoor
end
section
namespace Go.Proofs.YtiogclkbccdefaaGreatDoor
open Go.RowKit Go.Bo Go.Ab
def ZDK:List D→Option (Bool×D)
 | [.x (.str s)]=>some (decide (s.length≤900000),.tup [.agg [.x (.str (KW s).1.1),.x (.str (KW s).1.2)],.x (.bool (KW s).2)])
 |_=>none
theorem ZTm: ∀args r,ZDK args=some (true,r)→ZC Tryz.prog 183 args r:=by
 intro args r h;unfold ZDK at h;split at h
 ·rename_i s;simp only[Za,Zb,ZQ,Zg,true_and]at h;obtain⟨h1,rfl⟩:=h;exact(ZYi s h1)
 ·cases h
theorem ZQO(p:Tx)(l:List Tx)(n:Nat)(h: ∀x∈l,x.length+p.length≤n)(hp:p.length≤n): ∀x∈pre p l,x.length≤n:=by
 rcases l with _|⟨y,l⟩
 ·intro x hx;simp[pre]at hx;subst hx;exact hp
 ·intro x hx;simp only[pre,QI]at hx;rcases hx with rfl|hx
  ·have:=h y (by simp);simp;omega
  ·have:=h x (by simp[hx]);omega
theorem ZPt(p:Tx)(l:List Tx)(n:Nat)(h:l.length≤n)(h1:1≤n):(pre p l).length≤n:=by
 rcases l with _|⟨y,l⟩
 ·exact h1
 ·exact h
theorem ZbF{a c:UInt8}{r:Tx}(h1:c≠92)(h2:c=a):Yb a (c::r)= []::Yb a r:=by
 conv=>lhs;unfold Yb
 rw[if_neg h1,if_pos h2]
theorem Zay{a c:UInt8}{r:Tx}(h1:c≠92)(h2:c≠a):Yb a (c::r)=pre [c] (Yb a r):=by
 conv=>lhs;unfold Yb
 rw[if_neg h1,if_neg h2]
theorem ZBK(a:UInt8): ∀(n:Nat) (s:Tx),s.length≤n→(∀x∈Yb a s,x.length≤s.length)∧(Yb a s).length≤s.length+1
 |_,[],_=>by simp[Yb]
 |n+1,c::r,hn=>by
  have hn':r.length≤n:=by simpa using hn
  by_cases h1:c=92
  ·rcases r with _|⟨d,r⟩
   ·subst h1;simp[Yb]
   ·obtain⟨h2,h3⟩:=ZBK a n r (by simp at hn';omega);have e:Yb a (c::d::r)=pre [c,d] (Yb a r):=by subst h1;rfl
    rw[e];exact⟨ZQO _ _ _ (fun x hx=>by have:=h2 x hx;simp;omega) (by simp),ZPt _ _ _ (by simp;omega) (by simp)⟩
  ·obtain⟨h2,h3⟩:=ZBK a n r hn';by_cases h4:c=a
   ·have e:Yb a (c::r)= []::Yb a r:=ZbF h1 h4;rw[e];refine⟨fun x hx=> ?_,by simp;omega⟩;rcases QI.1 hx with rfl|hx
    ·simp
    ·have:=h2 x hx;simp;omega
   ·have e:Yb a (c::r)=pre [c] (Yb a r):=Zay h1 h4;rw[e];exact⟨ZQO _ _ _ (fun x hx=>by have:=h2 x hx;simp;omega) (by simp),ZPt _ _ _ (by simp;omega) (by simp)⟩
def ZId(s:Tx):List (Av×Bool):=(Yb 43 s).map KW
def Zy(s:Tx):List Av×Bool:=if(ZId s).all (·.2)=true then((ZId s).map (·.1),true)else([],false)
theorem YH{α:Type}(p:α→Bool)(l:List α)(j:Nat)(h:j<l.length)(hp:p l[j]=false):l.all p=false:=by
 rw[Bool.eq_false_iff];intro hh;have:=YK.1 hh l[j] (YY h);rw[hp]at this;cases this
theorem Jx{α:Type}(p:α→Bool)(l:List α)(j:Nat)(h:j<l.length):(l.take (j+1)).all p=((l.take j).all p&&p l[j]):=by
 rw[KT h,List.all_append];simp
def ZHt:Tabs:=ZU (ZU (ZS) 159 Jz) 183 ZDK
theorem ZMa:SsOk Tryz.prog ZHt:=ZH (ZH (ZF) (Zc 159) ZGb) (Zc 183) ZTm
theorem ZNr:(∀a,ZHt.q 159 a=Jz a)∧(∀a,ZHt.q 183 a=ZDK a)∧(∀f a o,ZHt.r f a o=none)∧(∀f a o,ZHt.k f a o=none):=⟨fun _=>rfl,fun _=>rfl,fun _ _ _=>rfl,fun _ _ _=>rfl⟩
theorem ZXn(s:Tx)(hl:s.length≤900000):ZC Tryz.prog 160 [.x (.str s)] (.tup [.x (.sl (rows Zz (Zy s).1)),.x (.bool (Zy s).2)]):=by
 obtain⟨hb1,hb2⟩:=ZBK 43 _ s (Zh _);rcases hq:Zy s with⟨d,ok⟩
 unfold Zy ZId at hq;have hsp:Yb (UInt8.ofNat (43:Int).toNat) s=Yb 43 s:=rfl;refine ZJ.pure (fC 160 true ?_) rfl;intro C0 E0;have uu:=ξ6 @Jz.eq_1 @Jz.eq_2 @ZDK.eq_1 @ZDK.eq_2 hsp @ZNr;have tT:=ZMa;refine nz ?_;refine rg tT [0] ?_;refine rg tT [0,4] ?_;refine rg tT [4,10,11,12] ?_;refine WI.ownA 4 188 2 ?_;generalize Yb 43 s=l at hq hb1 hb2⊢;refine WI.loop (fun φ os=> ∃(j:Nat),φ= [(4,.ref 0 j 0 j),(10,.x (.sl (rows ZB l))),(11,.x (.int .i64 l.length)),(12,.x (.int .i64 j))]∧os= [.rows false 188 2 (rows Zz ((l.take j).map fun x=>(KW x).1))]∧j≤l.length∧(l.take j).all (fun x=>(KW x).2)=true) (ZV l.length 12) ?_ (fun φ os hI=> ?_)
 ·exact⟨0,rfl,rfl,by omega,rfl⟩
 ·obtain⟨j,rfl,rfl,hj,hall⟩:=hI;refine nz ?_;refine rg tT [4,10,11,12,13] ?_;refine cd (fun h0=> ?_) (fun h0=> ?_)
  ·have hj4:j<l.length:=by omega
   have hbj:=hb1 _ (YY hj4);have hsc:decide (l[j].length≤900000)=true:=Zd (by omega);have uu:=Yq uu hsc;refine rg tT [4,6,10,11,12] ?_;refine rg tT [4,7,8,10,11,12] ?_;refine rg tT [4,7,10,11,12,22] ?_;refine cd (fun h1=> ?_) (fun h1=> ?_)
   ·have hf:(l.map KW).all (·.2)=false:=by rw[ZJV];exact YH _ l j hj4 (by simpa using h1)
    rw[if_neg (by rw[hf];decide)]at hq;refine rg tT [2,3] ?_;refine WI.nnA ?_;refine lf ?_;cases hq;rfl
   ·refine rgp tT [4,10,11,12] ?_;refine QE [0] ?_;refine QW ?_;refine nz ?_;refine WI.orderA [4,10,11,12] ?_;refine rg tT [4,10,11,12] ?_;exact⟨⟨j+1,rfl,by rw[KT hj4,Jq,ZOq,←ZKs],by omega,by rw[Jx _ l j hj4,hall];simpa using h1⟩,by simp[ZV,Ab.get,D.val,ZG];omega⟩
  ·have e1:(rows Zz ((l.take j).map fun x=>(KW x).1)).length=j:=by simp[rows];omega
   have e2:(l.take j).length=j:=by simp;omega
   have uu:=KE uu e1 e2;refine rg tT [2,3] ?_;refine WI.nnA ?_;refine lf ?_;have hf:(l.map KW).all (·.2)=true:=by rw[ZJV];rw[Yp (by omega)]at hall;exact hall
   rw[if_pos hf]at hq;cases hq;rw[Yp (l:=l) (by omega),Yp (by simp[rows];omega),KP];rfl
def ZFy:List D→Option (Bool×D)
 | [.x (.str s)]=>some (decide (s.length≤900000),.tup [.x (.sl (rows Zz (Zy s).1)),.x (.bool (Zy s).2)])
 |_=>none
theorem ZST: ∀args r,ZFy args=some (true,r)→ZC Tryz.prog 160 args r:=by
 intro args r h;unfold ZFy at h;split at h
 ·rename_i s;simp only[Za,Zb,ZQ,Zg,true_and]at h;obtain⟨h1,rfl⟩:=h;exact(ZXn s h1)
 ·cases h
end Go.Proofs.YtiogclkbccdefaaGreatDoor
end
section
namespace Go.Proofs.YtiogclkbccdefaaGreatDoor
open Go.RowKit Go.Bo Go.Ab
def ZAi(r:List Av):List Tx:=r.map fun p=>ZE p.1
def ZAm(r:List Av)(j:Nat):Bool:=JD (r.getD j ([],[])).1&&(!((r.getD j ([],[])).2== [])&&(decide ((r.getD j ([],[])).2.length≤256)&& !decide (ZE (r.getD j ([],[])).1∈ZAi (r.take j))))
def okP(r:List Av):Nat→Bool
 |0=>true
 |j+1=>okP r j&&ZAm r j
def Ju(r:List Av):Bool:=okP r r.length&&decide (1≤r.length∧r.length≤8)
theorem ZIP(r:List Av): ∀(n j:Nat),j<n→ZAm r j=false→okP r n=false
 |n+1,j,hj,h=>by
  rw[okP];by_cases e:j=n
  ·subst e;rw[h,ZK9]
  ·rw[ZIP r n j (by omega) h,ZHn]
def ZAf(r:List Av)(j:Nat):List (Tx×Int):=(r.take j).map fun p=>(ZE p.1,(1:Int))
theorem ZLo: ∀(l:List Av) (k:Tx),ZR (l.map fun p=>(ZE p.1,(1:Int))) k=if k∈ZAi l then some 1 else none
 | [],k=>by simp[ZAi,ZR]
 |p::l,k=>by
  have ih:=ZLo l k;by_cases h:k=ZE p.1
  ·simp[ZR,h,ZAi]
  ·have e:(k∈ZAi (p::l))=(k∈ZAi l):=by simp[ZAi,h]
   have e2:ZR ((p::l).map fun p=>(ZE p.1,(1:Int))) k=ZR (l.map fun p=>(ZE p.1,(1:Int))) k:=by simp[ZR,h]
   rw[e2,ih];simp only[e]
theorem ZPO(r:List Av)(j:Nat)(h:j<r.length)(hn:ZE (r.getD j ([],[])).1∉ZAi (r.take j)):JE (ZAf r j) (ZE (r.getD j ([],[])).1) 1=ZAf r (j+1):=by
 unfold ZAf;rw[ZGY (by rw[ZLo,if_neg hn]),KT h,Jq];simp[h]
theorem ZNO(r:List Av)(j:Nat)(k:Tx):JB (YG Jj Kx (ZAf r j)) [X.str k]=if k∈ZAi (r.take j)then some [D.x (X.int .i64 1)]else none:=by
 rw[ZEd Jj Kx hkS (ZAf r j) k];unfold ZAf;rw[ZLo];split<;>rfl
theorem ZK8(r:List Av)(j:Nat)(h:j<r.length):(rows Zz r)[j]? =some [X.str (r.getD j ([],[])).1,X.str (r.getD j ([],[])).2]:=by
 simp[rows,h,Zz]
def Jy:List D→Option (Bool×D)
 | [.x (.str s)]=>some (decide (s.length≤1000000),.x (.str (ZE s)))
 |_=>none
theorem ZGM: ∀args r,Jy args=some (true,r)→ZC Tryz.prog 63 args r:=by
 intro args r h;unfold Jy at h;split at h
 ·rename_i s;simp only[Za,Zb,ZQ,Zg,true_and]at h;obtain⟨h1,rfl⟩:=h;exact(ZLF s (by omega))
 ·cases h
def ZF7:Tabs:=ZU (ZU (ZS) 63 Jy) 205 QL
theorem ZKb:SsOk Tryz.prog ZF7:=ZH (ZH (ZF) (Zc 63) ZGM) (Zc 205) ZKE
theorem ZMZ:(∀a,ZF7.q 63 a=Jy a)∧(∀a,ZF7.q 205 a=QL a)∧(∀f a o,ZF7.r f a o=none)∧(∀f a o,ZF7.k f a o=none):=⟨fun _=>rfl,fun _=>rfl,fun _ _ _=>rfl,fun _ _ _=>rfl⟩
theorem Zau(r:List Av)(hb: ∀p∈r,p.1.length≤900000):ZC Tryz.prog 184 [.x (.sl (rows Zz r))] (.x (.bool (Ju r))):=by
 refine ZC.wf (fun hw=> ?_);have hl:r.length≤maxLen:=by have:=(hw _ (ZDa)).1;rwa [YC]at this
 clear hw;simp only[maxLen]at hl;refine ZJ.pure (fC 184 true ?_) rfl;intro C0 E0;have uu:=ξ5 @Jy.eq_1 @Jy.eq_2 @QL.eq_1 @QL.eq_2 @ZMZ;have tT:=ZKb;refine nz ?_;refine rg tT [0] ?_;refine rg tT [0,3] ?_;refine rg tT [0,3,8,9,10] ?_;refine WI.loop (fun φ os=> ∃(j:Nat),φ= [(0,.x (.sl (rows Zz r))),(3,.mref 0),(8,.x (.sl (rows Zz r))),(9,.x (.int .i64 r.length)),(10,.x (.int .i64 j))]∧os= [.mpo .str false (YG Jj Kx (ZAf r j))]∧j≤r.length∧okP r j=true) (ZV r.length 10) ?_ (fun φ os hI=> ?_)
 ·exact⟨0,rfl,rfl,by omega,rfl⟩
 ·obtain⟨j,rfl,rfl,hj,hok⟩:=hI;refine nz ?_;refine rg tT [0,3,8,9,10,11] ?_;refine cd (fun h0=> ?_) (fun h0=> ?_)
  ·have hj4:j<r.length:=by omega
   have har:=ZK8 r j hj4;have hbj:(r.getD j ([],[])).1.length≤900000:=by rw[show r.getD j ([],[])=r[j] by simp[hj4]];exact hb _ (YY hj4)
   have hgt:=ZNO r j (ZE (r.getD j ([],[])).1);have uu:=Yq uu har;refine rg tT [0,3,5,8,9,10] ?_;refine rg tT [0,3,5,6,8,9,10] ?_;by_cases hin:ZE (r.getD j ([],[])).1∈ZAi (r.take j)
   ·rw[if_pos hin]at hgt;have uu:=Yq uu hgt;refine rg tT [0,3,6,8,9,10,37] ?_;refine ct (fun h1=> ?_) (fun h1=> ?_)
    ·refine rg tT [2] ?_;refine lf ?_;have hno:ZAm r j=false:=by unfold ZAm;rw[Zd hin];simp
     rw[show Ju r=false by unfold Ju;rw[ZIP r r.length j hj4 hno];rfl]
    ·clear uu;simp at h1
   ·rw[if_neg hin]at hgt;have uu:=Yq uu hgt;have hset:=ZCg Jj Kx hkS (ZAf r j) (ZE (r.getD j ([],[])).1) 1;rw[ZPO r j hj4 hin]at hset;have hset':YI (YG Jj Kx (ZAf r j)) [X.str (ZE (r.getD j ([],[])).1)] [D.x (X.int .i64 1)]=YG Jj Kx (ZAf r (j+1)):=hset;have uu:=Yq uu hset';refine rg tT [0,3,6,8,9,10,37] ?_;refine cd (fun h1=> ?_) (fun h1=> ?_)
    ·refine rg tT [2] ?_;refine lf ?_;have hno:ZAm r j=false:=by unfold ZAm;clear uu;grind
     rw[show Ju r=false by unfold Ju;rw[ZIP r r.length j hj4 hno];rfl]
    ·have hone:ZAm r j=true:=by unfold ZAm;rw[decide_eq_false hin];clear uu;grind
     refine WI.post ?_;refine WI.regB tT [0,3,8,9,10] ?_
     iterate 2 refine oS ?_
     iterate 3 refine oG ?_
     refine oP ?_;refine QE [0] ?_ (ho:=by simp (disch:=decide) only[zV,zO,Ob.mpb,frzL,ZAI,ZBT,Qu,Ob.onI,mpP,Yu,Yd,ZA7,D.vw,vwL,D.on,D.inP,YR,Zq,D.ren,Zs,YN,YF,Ob.mp,Ob.ren,D.nn,ZCK,Nat.reduceBEq,Nat.reduceEqDiff,Nat.reduceAdd,↓reduceIte,ZFo,QA];rfl);refine QW ?_;refine nz ?_;refine rg tT [0,3,8,9,10] ?_;exact⟨⟨j+1,rfl,by first|done|rfl,by omega,by rw[okP,hok,hone];rfl⟩,by simp[ZV,Ab.get,D.val,ZG];omega⟩
  ·refine rg tT [2] ?_;refine lf ?_;have hz:r.length=j:=by omega
   rw[show Ju r=decide (1≤r.length∧r.length≤8) by unfold Ju;rw[hz,hok,ZDU]];congr 2;rw[ZAs];simp;omega
def ZLp:List D→Option (Bool×D)
 | [.x (.sl R)]=>(ZZ Zz R).bind fun r=>some (decide (∀p∈r,p.1.length≤900000),.x (.bool (Ju r)))
 |_=>none
theorem ZYH: ∀args r,ZLp args=some (true,r)→ZC Tryz.prog 184 args r:=by
 intro args r h;unfold ZLp at h;split at h
 ·rename_i R;obtain⟨r,hr0,h⟩:=Zt h;simp only[Za,Zb,ZQ,Zg,true_and]at h;obtain⟨h1,rfl⟩:=h;rw[←ZY ZHj hr0];exact(Zau r h1)
 ·cases h
end Go.Proofs.YtiogclkbccdefaaGreatDoor
end
section
namespace Go.Proofs.YtiogclkbccdefaaGreatDoor
open Go.RowKit Go.Bo Go.Ab
abbrev Dn:=List (List Av)
def smD(d:Dn):Prop:= ∀r∈d,∀p∈r,p.1.length≤900000
instance (d:Dn):Decidable (smD d):=by unfold smD;infer_instance
def Qf(d:Dn):Int:=if d.length>32 then 3 else if d.all Ju=true then 0 else 5
theorem ZLu(d:Dn)(j:Nat)(h:j<d.length):(rows Kc d)[j]? =some [X.sl (rows Zz (d.getD j []))]:=by
 simp[rows,h,Kc,rSl]
def ZIo:Tabs:=ZU (ZS) 184 ZLp
theorem ZQt:SsOk Tryz.prog ZIo:=ZH (ZF) (Zc 184) ZYH
theorem ZSi:(∀a,ZIo.q 184 a=ZLp a)∧(∀f a o,ZIo.r f a o=none)∧(∀f a o,ZIo.k f a o=none):=⟨fun _=>rfl,fun _ _ _=>rfl,fun _ _ _=>rfl⟩
theorem ZYe(d:Dn)(hb:smD d):ZC Tryz.prog 161 [.x (.sl (rows Kc d))] (.x (.int .i64 (Qf d))):=by
 unfold Qf;refine ZJ.pure (fC 161 true ?_) rfl;intro C0 E0;have uu:=ξ4 @ZLp.eq_1 @ZLp.eq_2 @ZV0 @ZSi;have tT:=ZQt;refine nz ?_;refine rg tT [0] ?_;refine rg tT [0,7] ?_;refine cd (fun h0=> ?_) (fun h0=> ?_)
 ·refine rg tT [2] ?_;refine lf ?_;rw[if_pos (by omega)]
 ·refine rg tT [8,9,10] ?_;refine WI.loop (fun φ os=> ∃(j:Nat),φ= [(8,.x (.sl (rows Kc d))),(9,.x (.int .i64 d.length)),(10,.x (.int .i64 j))]∧os= []∧j≤d.length∧(d.take j).all Ju=true) (ZV d.length 10) ?_ (fun φ os hI=> ?_)
  ·exact⟨0,rfl,rfl,by omega,rfl⟩
  ·obtain⟨j,rfl,rfl,hj,hall⟩:=hI;refine nz ?_;refine rg tT [8,9,10,11] ?_;refine cd (fun h1=> ?_) (fun h1=> ?_)
   ·have hj4:j<d.length:=by omega
    have hdj:d[j]=d.getD j []:=by simp[hj4]
    have hsm:decide (∀p∈d.getD j [],p.1.length≤900000)=true:=Zd (by rw[←hdj];exact hb _ (YY hj4));have uu:=KE uu (ZLu d j hj4) hsm;refine rg tT [4,8,9,10] ?_;refine rg tT [8,9,10,16] ?_;refine cd (fun h2=> ?_) (fun h2=> ?_)
    ·refine rg tT [2] ?_;refine lf ?_;rw[if_neg (by omega),if_neg (by rw[YH Ju d j hj4 (by rw[hdj];simpa using h2)];decide)]
    ·refine rg tT [8,9,10] ?_;exact⟨⟨j+1,rfl,rfl,by omega,by rw[Jx _ d j hj4,hall,hdj];simpa using h2⟩,by simp[ZV,Ab.get,D.val,ZG];omega⟩
   ·refine rg tT [2] ?_;refine lf ?_;rw[Yp (by omega)]at hall;rw[if_neg (by omega),if_pos hall]
def ZBe:List D→Option (Bool×D)
 | [.x (.sl R)]=>(ZZ Kc R).bind fun d=>some (decide (smD d),.x (.int .i64 (Qf d)))
 |_=>none
theorem ZMQ: ∀args r,ZBe args=some (true,r)→ZC Tryz.prog 161 args r:=by
 intro args r h;unfold ZBe at h;split at h
 ·rename_i R;obtain⟨d,hr0,h⟩:=Zt h;simp only[Za,Zb,ZQ,Zg,true_and]at h;obtain⟨h1,rfl⟩:=h;rw[←ZY ZFA hr0];exact(ZYe d h1)
 ·cases h
def mxD:Dn→Nat
 | []=>0
 |r::d=>max r.length (mxD d)
theorem ZJH: ∀(d:Dn) (r:List Av),mxD (d++ [r])=max (mxD d) r.length
 | [],r=>by simp[mxD]
 |x::d,r=>by rw[ZBR,mxD,mxD,ZJH d r];omega
theorem ZUJ(a b:Nat):(if(a:Int)>(b:Int)then(a:Int)else(b:Int))=((max b a:Nat):Int):=by split<;>omega
def ZC3(s:Tx):List (List Av×Bool):=(Yb 44 s).map Zy
def ZBJ(s:Tx):Dn:=(ZC3 s).map (·.1)
def Yw(s:Tx):Dn×Int:=
 if s.length>4096 then([],3)else if s= []then([],0)
 else if(ZC3 s).all (·.2)=true then(if mxD (ZBJ s)>8 then([],3)else if Qf (ZBJ s)≠0 then([],Qf (ZBJ s))else(ZBJ s,0))
 else([],5)
theorem ZTJ(s:Tx):(KW s).1.1.length≤s.length:=by
 unfold KW;have h1:=(ZHa 61 s).1;have h2:=ZO2 (Kt 61 s).1;split
 ·simp
 ·simp;omega
theorem ZUf(s:Tx)(hs:s.length≤900000): ∀p∈(Zy s).1,p.1.length≤900000:=by
 unfold Zy ZId;split
 ·intro p hp;obtain⟨q,h1,rfl⟩:=YQ.1 hp;obtain⟨x,h2,rfl⟩:=YQ.1 h1;have:=(ZBK 43 _ s (Zh _)).1 x h2;have:=ZTJ x;omega
 ·intro p hp;simp at hp
theorem ZIM(s:Tx)(hs:s.length≤900000):(Zy s).1.length≤900001:=by
 unfold Zy ZId;split
 ·have:=(ZBK 43 _ s (Zh _)).2;simp;omega
 ·simp
theorem ZGl(s:Tx)(hs:s.length≤900000):smD (ZBJ s):=by
 intro r hr;unfold ZBJ ZC3 at hr;obtain⟨q,h1,rfl⟩:=YQ.1 hr;obtain⟨x,h2,rfl⟩:=YQ.1 h1;have:=(ZBK 44 _ s (Zh _)).1 x h2;exact ZUf x (by omega)
def ZD0:Tabs:=ZU (ZU (ZU (ZS) 159 Jz) 160 ZFy) 161 ZBe
theorem ZQ1:SsOk Tryz.prog ZD0:=ZH (ZH (ZH (ZF) (Zc 159) ZGb) (Zc 160) ZST) (Zc 161) ZMQ
theorem ZTL:(∀a,ZD0.q 159 a=Jz a)∧(∀a,ZD0.q 160 a=ZFy a)∧(∀a,ZD0.q 161 a=ZBe a)∧(∀f a o,ZD0.r f a o=none)∧(∀f a o,ZD0.k f a o=none):=⟨fun _=>rfl,fun _=>rfl,fun _=>rfl,fun _ _ _=>rfl,fun _ _ _=>rfl⟩
theorem ZYk(s:Tx):ZC Tryz.prog 121 [.x (.str s)] (.tup [.x (.sl (rows Kc (Yw s).1)),.x (.int .i64 (Yw s).2)]):=by
 rcases hq:Yw s with⟨d,e⟩
 unfold Yw at hq;have hsp:Yb (UInt8.ofNat (44:Int).toNat) s=Yb 44 s:=rfl;refine ZJ.pure (fC 121 true ?_) rfl;intro C0 E0;have uu:=Qy @Jz.eq_1 @Jz.eq_2 @ZFy.eq_1 @ZFy.eq_2 @ZBe.eq_1 @ZBe.eq_2 hsp @ZRa (Yq @ZV0 @ZTL);have tT:=ZQ1;refine nz ?_;refine rg tT [0] ?_;refine rg tT [0,11] ?_;refine cd (fun h0=> ?_) (fun h0=> ?_)
 ·refine rg tT [2,3] ?_;refine WI.nnA ?_;refine lf ?_;rw[if_pos (by omega)]at hq;cases hq;rfl
 ·refine rg tT [0,15] ?_;refine cd (fun h1=> ?_) (fun h1=> ?_)
  ·refine rg tT [2,3] ?_;refine WI.nnA ?_;refine lf ?_;rw[if_neg (by omega),if_pos (by simpa using h1)]at hq;cases hq;rfl
  ·have hne:s≠ []:=by simpa using h1
   rw[if_neg (by omega),if_neg hne]at hq;have hs:s.length≤900000:=by omega
   obtain⟨hb1,hb2⟩:=ZBK 44 _ s (Zh _);have hsm:=ZGl s hs;refine rg tT [0,4] ?_;refine rg tT [0,4,5] ?_;refine rg tT [4,5,19,20,21] ?_;refine WI.ownA 4 154 1 ?_;have hrl:ZC3 s=(Yb 44 s).map Zy:=rfl;have hnl:ZBJ s=((Yb 44 s).map Zy).map (·.1):=rfl;generalize Yb 44 s=l at hb1 hb2 hrl hnl⊢;generalize ZC3 s=rl at hq hrl;generalize ZBJ s=nl at hq hnl hsm;subst hrl hnl;refine WI.loop (fun φ os=> ∃(j:Nat),φ= [(4,.ref 0 j 0 j),(5,.x (.int .i64 (mxD ((l.take j).map fun x=>(Zy x).1)))),(19,.x (.sl (rows ZB l))),(20,.x (.int .i64 l.length)),(21,.x (.int .i64 j))]∧os= [.rows false 154 1 (rows Kc ((l.take j).map fun x=>(Zy x).1))]∧j≤l.length∧(l.take j).all (fun x=>(Zy x).2)=true) (ZV l.length 21) ?_ (fun φ os hI=> ?_)
   ·exact⟨0,rfl,rfl,by omega,rfl⟩
   ·obtain⟨j,rfl,rfl,hj,hall⟩:=hI;refine nz ?_;refine rg tT [4,5,19,20,21,22] ?_;refine cd (fun h2=> ?_) (fun h2=> ?_)
    ·have hj4:j<l.length:=by omega
     have hbj:=hb1 _ (YY hj4);have hpc:=ZIM l[j] (by omega);have hsc:decide (l[j].length≤900000)=true:=Zd (by omega);have hmt:(l.take (j+1)).map (fun x=>(Zy x).1)=(l.take j).map (fun x=>(Zy x).1)++ [(Zy l[j]).1]:=by rw[KT hj4,Jq];rfl
     have hmx:mxD ((l.take (j+1)).map fun x=>(Zy x).1)=max (mxD ((l.take j).map fun x=>(Zy x).1)) (Zy l[j]).1.length:=by rw[hmt,ZJH]
     have uu:=Yq uu hsc;refine rg tT [4,5,7,19,20,21] ?_;refine rg tT [4,5,8,9,19,20,21] ?_;refine rg tT [4,5,8,19,20,21,31] ?_;refine cd (fun h3=> ?_) (fun h3=> ?_)
     ·have hf:(l.map Zy).all (·.2)=false:=by rw[ZJV];exact YH _ l j hj4 (by simpa using h3)
      rw[if_neg (by rw[hf];decide)]at hq;refine rg tT [2,3] ?_;refine WI.nnA ?_;refine lf ?_;cases hq;rfl
     ·refine rg tT [4,5,8,19,20,21] ?_;refine rgp tT [4,5,19,20,21] ?_;refine QE [0] ?_;refine QW ?_;refine nz ?_;refine WI.orderA [4,5,19,20,21] ?_;refine rg tT [4,5,19,20,21] ?_;exact⟨⟨j+1,by rw[hmx,ZUJ];first|done|rfl,by rw[hmt,←ZR0];first|done|rfl,by omega,by rw[Jx _ l j hj4,hall];simpa using h3⟩,by simp[ZV,Ab.get,D.val,ZG];omega⟩
    ·obtain rfl:j=l.length:=by omega
     rw[Km]at hall⊢;have hf:(l.map Zy).all (·.2)=true:=by rw[ZJV];exact hall
     rw[if_pos hf]at hq;have hmm:(l.map Zy).map (·.1)=l.map (fun x=>(Zy x).1):=by rw[KP];rfl
     rw[hmm]at hq hsm;have hml:(l.map fun x=>(Zy x).1).length=l.length:=YL ..;generalize(l.map fun x=>(Zy x).1)=m at hq hsm hml⊢;have e1:m.take l.length=m:=Yp (by omega);have e2:decide (smD m)=true:=Zd hsm;have uu:=ξ4 uu hml e1 e2;refine rg tT [4,42] ?_;refine cd (fun h4=> ?_) (fun h4=> ?_)
     ·refine rg tT [2,3] ?_;refine WI.nnA ?_;refine lf ?_;rw[if_pos (by omega)]at hq;cases hq;rfl
     ·rw[if_neg (by omega)]at hq;refine rg tT [4,10] ?_;refine rg tT [4,10,46] ?_;refine cd (fun h5=> ?_) (fun h5=> ?_)
      ·refine rg tT [2,3] ?_;refine WI.nnA ?_;refine lf ?_;rw[if_pos (by simpa using h5)]at hq;cases hq;rfl
      ·refine rg tT [2,3] ?_;refine WI.nnA ?_;refine lf ?_;rw[if_neg (by simpa using h5)]at hq;cases hq;first|rfl|rw[e1]
def Qk:List D→Option (Bool×D)
 | [.x (.str s)]=>some (true,.tup [.x (.sl (rows Kc (Yw s).1)),.x (.int .i64 (Yw s).2)])
 |_=>none
theorem ZII: ∀args r,Qk args=some (true,r)→ZC Tryz.prog 121 args r:=by
 intro args r h;unfold Qk at h;split at h
 ·rename_i s;simp only[Za,Zb,ZQ,Zg,true_and]at h;obtain rfl:=h;exact(ZYk s)
 ·cases h
end Go.Proofs.YtiogclkbccdefaaGreatDoor
end
section
namespace Go.Proofs.YtiogclkbccdefaaGreatDoor
open Go.RowKit Go.Bo Go.Ab
end Go.Proofs.YtiogclkbccdefaaGreatDoor
end
section
namespace Go.Proofs.YtiogclkbccdefaaGreatDoor
open Go.RowKit Go.Bo Go.Ab
theorem ZaI(r:List Av)(hb: ∀p∈r,p.1.length≤900000)(hl:r.length≤1000000):ZN Tryz.prog 184 [.ref 0 r.length 0 r.length] [.rows false 188 2 (rows Zz r)] (.x (.bool (Ju r))) [.rows false 188 2 (rows Zz r)]:=by
 refine ZJ.mcalls (fC 184 true ?_);intro C0 E0;have uu:=ξ5 @Jy.eq_1 @Jy.eq_2 @QL.eq_1 @QL.eq_2 @ZMZ;have tT:=ZKb;refine nz ?_;refine rg tT [0] ?_;refine rg tT [0,3] ?_;refine rg tT [0,3,8,9,10] ?_;refine WI.loop (fun φ os=> ∃(j:Nat),φ= [(0,.ref 0 r.length 0 r.length),(3,.mref 1),(8,.ref 0 r.length 0 r.length),(9,.x (.int .i64 r.length)),(10,.x (.int .i64 j))]∧os= [.rows false 188 2 (rows Zz r),.mpo .str false (YG Jj Kx (ZAf r j))]∧j≤r.length∧okP r j=true) (ZV r.length 10) ?_ (fun φ os hI=> ?_)
 ·exact⟨0,rfl,rfl,by omega,rfl⟩
 ·obtain⟨j,rfl,rfl,hj,hok⟩:=hI;refine nz ?_;refine rg tT [0,3,8,9,10,11] ?_;refine cd (fun h0=> ?_) (fun h0=> ?_)
  ·have hj4:j<r.length:=by omega
   have har:=ZK8 r j hj4;have hbj:(r.getD j ([],[])).1.length≤900000:=by rw[show r.getD j ([],[])=r[j] by simp[hj4]];exact hb _ (YY hj4)
   have hgt:=ZNO r j (ZE (r.getD j ([],[])).1);have uu:=Yq uu har;refine rg tT [0,3,5,8,9,10] ?_;refine rg tT [0,3,5,6,8,9,10] ?_;by_cases hin:ZE (r.getD j ([],[])).1∈ZAi (r.take j)
   ·rw[if_pos hin]at hgt;have uu:=Yq uu hgt;refine rg tT [0,3,6,8,9,10,37] ?_;refine ct (fun h1=> ?_) (fun h1=> ?_)
    ·refine rg tT [2] ?_;refine WI.pickA [0] ?_;refine lf ?_;have hno:ZAm r j=false:=by unfold ZAm;rw[Zd hin];simp
     rw[show Ju r=false by unfold Ju;rw[ZIP r r.length j hj4 hno];rfl];first|rfl|exact⟨rfl,rfl⟩
    ·clear uu;simp at h1
   ·rw[if_neg hin]at hgt;have uu:=Yq uu hgt;have hset:=ZCg Jj Kx hkS (ZAf r j) (ZE (r.getD j ([],[])).1) 1;rw[ZPO r j hj4 hin]at hset;have hset':YI (YG Jj Kx (ZAf r j)) [X.str (ZE (r.getD j ([],[])).1)] [D.x (X.int .i64 1)]=YG Jj Kx (ZAf r (j+1)):=hset;have uu:=Yq uu hset';refine rg tT [0,3,6,8,9,10,37] ?_;refine cd (fun h1=> ?_) (fun h1=> ?_)
    ·refine rg tT [2] ?_;refine WI.pickA [0] ?_;refine lf ?_;have hno:ZAm r j=false:=by unfold ZAm;clear uu;grind
     rw[show Ju r=false by unfold Ju;rw[ZIP r r.length j hj4 hno];rfl];first|rfl|exact⟨rfl,rfl⟩
    ·have hone:ZAm r j=true:=by unfold ZAm;rw[decide_eq_false hin];clear uu;grind
     refine WI.post ?_;refine WI.regB tT [0,3,8,9,10] ?_
     iterate 2 refine oS ?_
     iterate 3 refine oG ?_
     refine oP ?_;refine QE [0,1] ?_ (ho:=by simp (disch:=decide) only[zV,zO,Ob.mpb,frzL,ZAI,ZBT,Qu,Ob.onI,mpP,Yu,Yd,ZA7,D.vw,vwL,D.on,D.inP,YR,Zq,D.ren,Zs,YN,YF,Ob.mp,Ob.ren,D.nn,ZCK,Nat.reduceBEq,Nat.reduceEqDiff,Nat.reduceAdd,↓reduceIte,ZFo,QA];rfl);refine QW ?_;refine nz ?_;refine rg tT [0,3,8,9,10] ?_;exact⟨⟨j+1,rfl,by first|done|rfl,by omega,by rw[okP,hok,hone];rfl⟩,by simp[ZV,Ab.get,D.val,ZG];omega⟩
  ·refine rg tT [2] ?_;refine WI.pickA [0] ?_;refine lf ?_;have hz:r.length=j:=by omega
   rw[show Ju r=decide (1≤r.length∧r.length≤8) by unfold Ju;rw[hz,hok,ZDU]];refine⟨?_,rfl⟩;congr 2;rw[ZAs];simp;omega
def RF(d:Dn):List (List D):=KV 1 (d.map (rows Zz))
def FM(d:Dn):List Ob:=fam 188 2 (d.map (rows Zz))
abbrev obD(d:Dn):List Ob:= .drw 154 1 (RF d)::FM d
theorem ZKH(d:Dn):(RF d).length=d.length:=by unfold RF;rw[ZLw,YL]
theorem ZHc(d:Dn):(FM d).length=d.length:=by unfold FM;rw[ZIv,YL]
theorem ZXS(d:Dn)(j:Nat)(h:j<d.length):(d.map (rows Zz))[j]? =some (rows Zz (d.getD j [])):=by simp[h]
theorem ZT5(d:Dn)(j:Nat)(h:j<d.length):(RF d)[j]? =some [.ref (j+1) (d.getD j []).length 0 (d.getD j []).length]:=by
 unfold RF;rw[ZMC _ 1 j _ (ZXS d j h),YC,ZK7]
theorem ZTX(d:Dn)(Y:List Ob)(j:Nat)(h:j<d.length):(FM d++Y)[j]? =some (.rows false 188 2 (rows Zz (d.getD j []))):=ZaH _ _ _ Y j _ (ZXS d j h)
theorem ZIc(d:Dn)(j:Nat)(h:j<d.length):(FM d)[j]? =some (.rows false 188 2 (rows Zz (d.getD j []))):=by rw[←ZTX d [] j h,KS]
theorem ZTH(d:Dn)(Y:List Ob)(j:Nat)(h:j<d.length)(r:List Av):(FM d++Y).set j (.rows false 188 2 (rows Zz r))=FM (d.set j r)++Y:=by
 unfold FM;rw[ZYB _ _ _ Y j _ (by rw[YL];exact h),ZJn]
theorem ZXk(d:Dn)(j:Nat)(h:j<d.length)(r:List Av):(FM d).set j (.rows false 188 2 (rows Zz r))=FM (d.set j r):=by
 have:=ZTH d [] j h r;rwa [KS,KS]at this
theorem ZS3(d:Dn)(j:Nat)(r:List Av)(h:r.length=(d.getD j []).length):RF (d.set j r)=RF d:=by
 unfold RF;refine ZJD _ _ _ ?_;rw[ZJn,ZJn,YC];apply ZBS;intro i;rw[ZAu];split
 ·rename_i hij;subst hij;rw[Zr,Zr];by_cases hj:j<d.length
  ·simp[hj,YC]at h⊢;rw[h]
  ·simp[hj]
 ·rfl
theorem ZXw(d:Dn)(r:List Av):RF (d++ [r])=RF d++ [[.ref (d.length+1) r.length 0 r.length]]:=by
 unfold RF;rw[Jq,ZOq,ZJ7,YL,YC,ZK7]
theorem ZYZ(d:Dn)(r:List Av):FM (d++ [r])=FM d++ [.rows false 188 2 (rows Zz r)]:=by
 unfold FM;rw[Jq,ZOq,ZUx]
theorem ZQP(d:Dn):(obD d).all (Ob.inP (fun i=>decide (i<(obD d).length)))=true:=ZVX 154 188 2 (d.map (rows Zz))
theorem ZRC:Enters Tryz.prog 184:=Zc 184
theorem ZMF(d:Dn)(j:Nat):d.set j (d.getD j [])=d:=by
 by_cases h:j<d.length
 ·rw[show d.getD j []=d[j] by simp[h]];simp
 ·rw[List.set_eq_of_length_le (by omega)]
theorem ZZU(d:Dn)(j:Nat)(hj:j<d.length)(hb:smD d)(hl:(d.getD j []).length≤1000000):ZN Tryz.prog 184 [.ref (j+1) (d.getD j []).length 0 (d.getD j []).length] (obD d) (.x (.bool (Ju (d.getD j [])))) (obD d):=by
 have hbj: ∀p∈d.getD j [],p.1.length≤900000:=by rw[show d.getD j []=d[j] by simp[hj]];exact hb _ (YY hj)
 have hc:=ZaI (d.getD j []) hbj hl;have:=ZN.row (args:= [.ref (j+1) (d.getD j []).length 0 (d.getD j []).length]) (OS:=obD d) (j+1) (by rw[show Zs (YN [j+1]) [D.ref (j+1) (d.getD j []).length 0 (d.getD j []).length]= [D.ref 0 (d.getD j []).length 0 (d.getD j []).length] by simp only[Zs,D.ren,YN,if_true]];exact hc) (by rw[ξZ];exact ZIc d j hj) rfl (by simp[YR,D.inP,Zq]) (fun f=>rfl);rw[ZBu,ZXk d j hj,ZMF]at this;exact this
theorem ZZL(d:Dn)(hb:smD d)(hl: ∀r∈d,r.length≤1000000)(hld:d.length≤1000000):ZN Tryz.prog 161 [.ref 0 d.length 0 d.length] (obD d) (.x (.int .i64 (Qf d))) (obD d):=by
 have hRl:=ZKH d;have hFl:=ZHc d;unfold Qf;refine ZJ.mcalls (fC 161 true ?_);intro C0 E0;have uu:=ξ6 hRl hFl @ZIk @ZIs @ZIw @ZIh;have tT:=(ZF:SsOk Tryz.prog ZS);refine nz ?_;refine rg tT [0] ?_;refine rg tT [0,7] ?_;refine cd (fun h0=> ?_) (fun h0=> ?_)
 ·refine rg tT [2] ?_;refine lf ?_;rw[if_pos (by omega)];exact⟨rfl,rfl⟩
 ·refine rg tT [8,9,10] ?_;refine WI.loop (fun φ os=> ∃(j:Nat),φ= [(8,.ref 0 d.length 0 d.length),(9,.x (.int .i64 d.length)),(10,.x (.int .i64 j))]∧os=obD d∧j≤d.length∧(d.take j).all Ju=true) (ZV d.length 10) ?_ (fun φ os hI=> ?_)
  ·exact⟨0,rfl,rfl,by omega,rfl⟩
  ·obtain⟨j,rfl,rfl,hj,hall⟩:=hI;refine nz ?_;refine rg tT [8,9,10,11] ?_;refine cd (fun h1=> ?_) (fun h1=> ?_)
   ·have hj4:j<d.length:=by omega
    have hdj:d[j]=d.getD j []:=by simp[hj4]
    have hlj:(d.getD j []).length≤1000000:=by rw[←hdj];exact hl _ (YY hj4)
    have hrf:=ZT5 d j hj4;have hfm:=ZIc d j hj4;have uu:=KE uu hrf hfm;refine rg tT [4,8,9,10] ?_;refine rg (ZDH ZF ZRC (ZZU d j hj4 hb hlj)) [8,9,10,16] ?_;refine cd (fun h2=> ?_) (fun h2=> ?_)
    ·refine rg tT [2] ?_;refine lf ?_;rw[if_neg (by omega),if_neg (by rw[YH Ju d j hj4 (by rw[hdj];simpa using h2)];decide)];exact⟨rfl,rfl⟩
    ·refine rg tT [8,9,10] ?_;exact⟨⟨j+1,rfl,rfl,by omega,by rw[Jx _ d j hj4,hall,hdj];simpa using h2⟩,by simp[ZV,Ab.get,D.val,ZG];omega⟩
   ·refine rg tT [2] ?_;refine lf ?_;rw[Yp (by omega)]at hall;rw[if_neg (by omega),if_pos hall];exact⟨rfl,rfl⟩
end Go.Proofs.YtiogclkbccdefaaGreatDoor
end
section
namespace Go.Proofs.YtiogclkbccdefaaGreatDoor
open Go.RowKit Go.Bo Go.Ab
theorem ZYG(s:Tx)(hl:s.length≤900000)(hok:(Zy s).2=true):ZN Tryz.prog 160 [.x (.str s)] [] (.tup [.ref 0 (Zy s).1.length 0 (Zy s).1.length,.x (.bool true)]) [.rows false 188 2 (rows Zz (Zy s).1)]:=by
 obtain⟨hb1,hb2⟩:=ZBK 43 _ s (Zh _);have hpl:(Zy s).1=(Yb 43 s).map (fun x=>(KW x).1)∧(Yb 43 s).all (fun x=>(KW x).2)=true:=by
  unfold Zy ZId at hok⊢;split at hok
  ·rename_i h;rw[if_pos h];rw[ZJV]at h;exact⟨by rw[KP];rfl,h⟩
  ·cases hok
 obtain⟨hpl,hpa⟩:=hpl;rw[hpl];clear hok hpl;have hsp:Yb (UInt8.ofNat (43:Int).toNat) s=Yb 43 s:=rfl;refine ZJ.mcalls (fC 160 false ?_);intro C0 E0;have uu:=ξ6 @Jz.eq_1 @Jz.eq_2 @ZDK.eq_1 @ZDK.eq_2 hsp @ZNr;have tT:=ZMa;refine nz ?_;refine rg tT [0] ?_;refine rg tT [0,4] ?_;refine rg tT [4,10,11,12] ?_;refine WI.ownA 4 188 2 ?_;generalize Yb 43 s=l at hpa hb1 hb2⊢;refine WI.loop (fun φ os=> ∃(j:Nat),φ= [(4,.ref 0 j 0 j),(10,.x (.sl (rows ZB l))),(11,.x (.int .i64 l.length)),(12,.x (.int .i64 j))]∧os= [.rows false 188 2 (rows Zz ((l.take j).map fun x=>(KW x).1))]∧j≤l.length) (ZV l.length 12) ?_ (fun φ os hI=> ?_)
 ·exact⟨0,rfl,rfl,by omega⟩
 ·obtain⟨j,rfl,rfl,hj⟩:=hI;refine nz ?_;refine rg tT [4,10,11,12,13] ?_;refine cd (fun h0=> ?_) (fun h0=> ?_)
  ·have hj4:j<l.length:=by omega
   have hbj:=hb1 _ (YY hj4);have hpj:(KW l[j]).2=true:=YK.1 hpa _ (YY hj4);have hsc:decide (l[j].length≤900000)=true:=Zd (by omega);have uu:=Yq uu hsc;refine rg tT [4,6,10,11,12] ?_;refine rg tT [4,7,8,10,11,12] ?_;refine rg tT [4,7,10,11,12,22] ?_;refine ce (fun h1=> ?_) (fun h1=> ?_)
   ·rw[hpj]at h1;simp at h1
   ·refine rgp tT [4,10,11,12] ?_;refine QE [0] ?_;refine QW ?_;refine nz ?_;refine WI.orderA [4,10,11,12] ?_;refine rg tT [4,10,11,12] ?_;exact⟨⟨j+1,rfl,by rw[KT hj4,Jq,ZOq,←ZKs],by omega⟩,by simp[ZV,Ab.get,D.val,ZG];omega⟩
  ·have e1:(rows Zz ((l.take j).map fun x=>(KW x).1)).length=j:=by simp[rows];omega
   have e2:(l.take j).length=j:=by simp;omega
   have uu:=KE uu e1 e2;refine rg tT [2,3] ?_;refine lf ?_;have hz:l.length=j:=by omega
   rw[Yp (l:=l) (by omega),YL,hz];exact⟨rfl,rfl⟩
theorem ZPa:Enters Tryz.prog 160:=Zc 160
theorem ZXb(d:Dn)(s:Tx)(hl:s.length≤900000)(hok:(Zy s).2=true):ZN Tryz.prog 160 [.x (.str s)] (obD d) (.tup [.ref (d.length+1) (Zy s).1.length 0 (Zy s).1.length,.x (.bool true)]) (.drw 154 1 (RF d)::FM (d++ [(Zy s).1])):=by
 have:=ZN.new (OS:=obD d) (ZYG s hl hok) rfl (fun p=>rfl);rw[ZOq,Jh,ZHc]at this;rw[ZYZ];exact this
theorem ZOj:Enters Tryz.prog 161:=Zc 161
theorem ZJ9(s:Tx)(d:Dn)(hq:Yw s=(d,0))(hne:s≠ []):s.length≤4096∧(Yb 44 s).all (fun x=>(Zy x).2)=true∧d=(Yb 44 s).map (fun x=>(Zy x).1)∧mxD d≤8∧Qf d=0:=by
 unfold Yw at hq;by_cases h1:s.length>4096
 ·rw[if_pos h1]at hq;cases hq
 rw[if_neg h1,if_neg hne]at hq;by_cases h2:(ZC3 s).all (·.2)=true
 ·rw[if_pos h2]at hq;by_cases h3:mxD (ZBJ s)>8
  ·rw[if_pos h3]at hq;cases hq
  rw[if_neg h3]at hq;by_cases h4:Qf (ZBJ s)≠0
  ·rw[if_pos h4]at hq;simp only[Zb]at hq;exact absurd hq.2 h4
  rw[if_neg h4]at hq;simp only[Zb]at hq;obtain⟨rfl,-⟩:=hq;refine⟨by omega,?_,?_,by omega,Classical.not_not.1 h4⟩
  ·unfold ZC3 at h2;rw[ZJV]at h2;exact h2
  ·unfold ZBJ ZC3;rw[KP];rfl
 ·rw[if_neg h2]at hq;cases hq
def ZKB:Tabs:=ZU (ZS) 159 Jz
theorem ZSS:SsOk Tryz.prog ZKB:=ZH (ZF) (Zc 159) ZGb
theorem ZV1:(∀a,ZKB.q 159 a=Jz a)∧(∀f a o,ZKB.r f a o=none)∧(∀f a o,ZKB.k f a o=none):=⟨fun _=>rfl,fun _ _ _=>rfl,fun _ _ _=>rfl⟩
set_option maxHeartbeats 1000000 in
theorem ZY4(s:Tx)(d:Dn)(hq:Yw s=(d,0))(hne:s≠ []):ZN Tryz.prog 121 [.x (.str s)] [] (.tup [.ref 0 d.length 0 d.length,.x (.int .i64 0)]) (obD d):=by
 obtain⟨hs4,hall,hd,hmx8,hck⟩:=ZJ9 s d hq hne;clear hq;obtain⟨hb1,hb2⟩:=ZBK 44 _ s (Zh _);have hsm:smD d:=by
  have:=ZGl s (by omega);unfold ZBJ ZC3 at this;rw[KP]at this;rw[hd];exact this
 have hsp:Yb (UInt8.ofNat (44:Int).toNat) s=Yb 44 s:=rfl;refine ZJ.mcalls (fC 121 false ?_);intro C0 E0;have uu:=ξ8 @Jz.eq_1 @Jz.eq_2 hsp @ZIk @ZIs @ZIw @ZIh @ZV1;have tT:=ZSS;refine nz ?_;refine rg tT [0] ?_;refine rg tT [0,11] ?_;refine ce (fun h0=> ?_) (fun h0=> ?_)
 ·simp at h0;omega
 ·refine rg tT [0,15] ?_;refine ce (fun h1=> ?_) (fun h1=> ?_)
  ·exact hne (by simpa using h1)
  ·refine rg tT [0,4] ?_;refine rg tT [0,4,5] ?_;refine rg tT [4,5,19,20,21] ?_;refine WI.ownA 4 154 1 ?_;refine WI.toDA 0 ?_;generalize Yb 44 s=l at hb1 hb2 hall hd⊢;refine WI.loop (fun φ os=> ∃(j:Nat),φ= [(4,.ref 0 j 0 j),(5,.x (.int .i64 (mxD ((l.take j).map fun x=>(Zy x).1)))),(19,.x (.sl (rows ZB l))),(20,.x (.int .i64 l.length)),(21,.x (.int .i64 j))]∧os=obD ((l.take j).map fun x=>(Zy x).1)∧j≤l.length) (ZV l.length 21) ?_ (fun φ os hI=> ?_)
   ·exact⟨0,rfl,rfl,by omega⟩
   ·obtain⟨j,rfl,rfl,hj⟩:=hI;refine nz ?_;refine rg tT [4,5,19,20,21,22] ?_;refine cd (fun h2=> ?_) (fun h2=> ?_)
    ·have hj4:j<l.length:=by omega
     have hbj:=hb1 _ (YY hj4);have hpc:=ZIM l[j] (by omega);have hpj:(Zy l[j]).2=true:=YK.1 hall _ (YY hj4);have hmt:(l.take (j+1)).map (fun x=>(Zy x).1)=(l.take j).map (fun x=>(Zy x).1)++ [(Zy l[j]).1]:=by rw[KT hj4,Jq];rfl
     have hmx:mxD ((l.take (j+1)).map fun x=>(Zy x).1)=max (mxD ((l.take j).map fun x=>(Zy x).1)) (Zy l[j]).1.length:=by rw[hmt,ZJH]
     have hml:((l.take j).map fun x=>(Zy x).1).length=j:=by rw[YL,Yv];omega
     have hcall:=ZXb ((l.take j).map fun x=>(Zy x).1) l[j] (by omega) hpj;rw[hml]at hcall;generalize hM:(l.take j).map (fun x=>(Zy x).1)=M at hmt hmx hml hcall⊢;generalize hR:(Zy l[j]).1=r at hmt hmx hcall hpc⊢;have hrl:=ZKH M;have hfl:=ZHc (M++ [r]);rw[Zw,ZVd,hml]at hfl;have hfg: ∀x:Ob,(FM (M++ [r])++ [x])[j+1]? =some x:=fun x=>by rw[KR (by omega),hfl,ZGw];rfl
     rw[hml]at hrl;have hsn:=ZXw M r;rw[hml]at hsn;have hfm:(FM (M++ [r]))[j]? =some (.rows false 188 2 (rows Zz r)):=by rw[ZIc (M++ [r]) j (by simp;omega)];simp[hml]
     have uu:=ξ5 uu hrl hfl hfg hfm;refine rg tT [4,5,7,19,20,21] ?_;refine rg (ZDH ZF ZPa hcall) [4,5,8,9,19,20,21] ?_;refine rg tT [4,5,8,19,20,21,31] ?_;refine ce (fun h3=> ?_) (fun h3=> ?_)
     ·simp at h3
     ·refine rg tT [4,5,8,19,20,21] ?_;refine WI.post ?_;refine WI.regB tT [4,5,19,20,21] ?_
      iterate 2 refine oS ?_
      iterate 2 refine oG ?_
      refine oS ?_;refine oP ?_;refine ZJ6 (obD (M++ [r])) _ (by rw[obD,hsn];rfl) (JA _) (ZQP _) (by simp only[ZBr,ZJa,D.inP,Jh,hfl];simp) ?_;refine QW ?_;refine nz ?_;refine WI.orderA [4,5,19,20,21] ?_;refine rg tT [4,5,19,20,21] ?_;exact⟨⟨j+1,by rw[hmx,ZUJ];first|done|rfl,by rw[hmt],by omega⟩,by simp[ZV,Ab.get,D.val,ZG];omega⟩
    ·obtain rfl:j=l.length:=by omega
     rw[Km,←hd];have hdl:d.length=l.length:=by rw[hd,YL]
     rw[←hdl];have hcc:=ZZL d hsm (fun r hr=>by rw[hd]at hr;obtain⟨x,h1,rfl⟩:=YQ.1 hr;have:=ZIM x (by have:=hb1 x h1;omega);omega) (by omega);rw[hck]at hcc;refine rg tT [4,42] ?_;refine ce (fun h4=> ?_) (fun h4=> ?_)
     ·simp at h4;omega
     ·refine rg (ZDH ZF ZOj hcc) [4,10] ?_;refine rg tT [4,10,46] ?_;refine ce (fun h5=> ?_) (fun h5=> ?_)
      ·simp at h5
      ·refine rg tT [2,3] ?_;refine lf ?_;exact⟨rfl,rfl⟩
end Go.Proofs.YtiogclkbccdefaaGreatDoor
end
section
namespace Go.Proofs.YtiogclkbccdefaaGreatDoor
open Go.RowKit Go.Bo Go.Ab
def dgD(n:Nat):UInt8:=ZHD.getD n 0
def ZR2(c:UInt8):Bool:=decide ((c.toNat:Int)<32)||decide ((c.toNat:Int)=127)
def slD(c:UInt8)(f l:Bool):Bool:=spc c.toNat||(f&&(decide ((c.toNat:Int)=32)||decide ((c.toNat:Int)=35))||l&&decide ((c.toNat:Int)=32))
def ZLa(c:UInt8)(f l:Bool):Tx:=if ZR2 c=true then [92,dgD (c.toNat/16),dgD (c.toNat % 16)]else if slD c f l=true then [92,c]else [c]
def ZBt(s:Tx)(j:Nat):Tx:=ZLa (s.getD j 0) (decide (j=0)) (decide (j+1=s.length))
def ZAr(s:Tx):Nat→Tx
 |0=> []
 |j+1=>ZAr s j++ZBt s j
def ZLW(s:Tx):Tx:=ZAr s s.length
theorem ZUg(c:UInt8)(f l:Bool):(ZLa c f l).length≤3:=by unfold ZLa;split;simp;split<;>simp
theorem ZGO(s:Tx): ∀j,(ZAr s j).length≤3*j
 |0=>by simp[ZAr]
 |j+1=>by
  have h1:=ZGO s j;have h2:=ZUg (s.getD j 0) (decide (j=0)) (decide (j+1=s.length));rw[ZAr,Zw];unfold ZBt;omega
theorem ZbA(n:Nat)(h:n<256):IntKind.u8.wrap ((n:Int).tdiv 16)=((n/16:Nat):Int):=by
 rw[show(n:Int).tdiv 16=((n/16:Nat):Int)from rfl,IntWalk.u8_in _ (by omega)]
theorem Zaw(n:Nat):(n:Int).tmod 16=((n % 16:Nat):Int):=rfl
theorem ZYr(b:Tx)(c d e:UInt8):b.map Zf++ [[X.int .u8 (c.toNat:Int)],[X.int .u8 (d.toNat:Int)],[X.int .u8 (e.toNat:Int)]]=(b++ [c,d,e]).map Zf:=by rw[Jq];rfl
theorem ZY7(b:Tx)(c:UInt8):b.map Zf++ [[X.int .u8 (c.toNat:Int)]]=(b++ [c]).map Zf:=by rw[Jq];rfl
def ZJ3:Tabs:=ZU (ZS) 200 ZAj
theorem ZUG:SsOk Tryz.prog ZJ3:=ZH (ZF) (Zc 200) ZJq
theorem ZWi:(∀a,ZJ3.q 200 a=ZAj a)∧(∀f a o,ZJ3.r f a o=none)∧(∀f a o,ZJ3.k f a o=none):=⟨fun _=>rfl,fun _ _ _=>rfl,fun _ _ _=>rfl⟩
theorem ZYc(s:Tx)(hl:s.length≤1000000):ZC Tryz.prog 177 [.x (.str s)] (.x (.str (ZLW s))):=by
 have hsl: ∀n,inB [44,43,34,92,60,62,59,61] n=spc n:=fun n=>rfl
 have hud: ∀n:Nat,([48,49,50,51,52,53,54,55,56,57,97,98,99,100,101,102]:Tx).getD n 0=dgD n:=fun n=>rfl
 refine ZJ.pure (fC 177 true ?_) rfl;intro C0 E0;have uu:=ξ7 @ZAj.eq_1 @ZAj.eq_2 hsl hud @Kv @Kb @ZWi;have tT:=ZUG;refine nz ?_;refine rg tT [0] ?_;refine rg tT [0,3] ?_;refine rg tT [0,3,9,10,11] ?_;refine WI.ownA 3 5 1 ?_;refine WI.loop (fun φ os=> ∃(j:Nat),φ= [(0,.x (.str s)),(3,.ref 1 (ZAr s j).length 0 (ZAr s j).length),(9,.ref 0 s.length 0 s.length),(10,.x (.int .i64 s.length)),(11,.x (.int .i64 j))]∧os= [.rows true 5 1 (s.map Zf),.rows false 5 1 ((ZAr s j).map Zf)]∧j≤s.length) (ZV s.length 11) ?_ (fun φ os hI=> ?_)
 ·exact⟨0,rfl,rfl,by omega⟩
 ·obtain⟨j,rfl,rfl,hj⟩:=hI;have hle:=ZGO s j;refine nz ?_;refine rg tT [0,3,9,10,11,12] ?_;refine cd (fun h0=> ?_) (fun h0=> ?_)
  ·have hj4:j<s.length:=by omega
   have hst:ZAr s (j+1)=ZAr s j++ZBt s j:=rfl;have hb8:(s.getD j 0).toNat<256:=ZLJ _;have q0:(decide (0≤((s.getD j 0).toNat:Int)))=true:=Zd (by omega);have q1:=ZbA _ hb8;have q2:=Zaw (s.getD j 0).toNat;have q3:decide (((s.getD j 0).toNat/16:Nat)<(16:Int))=true:=Zd (by omega);have q4:decide (((s.getD j 0).toNat % 16:Nat)<(16:Int))=true:=Zd (by omega);have uu:=ξ7 uu (ZNt s j hj4) q0 q1 q2 q3 q4;refine rg tT [0,3,4,5,9,10,11] ?_;refine rg tT [0,3,5,6,7,9,10,11] ?_;refine rg tT [0,3,5,6,7,9,10,11,23] ?_;refine cd (fun h1=> ?_) (fun h1=> ?_)
   ·have hA:ZBt s j= [92,dgD ((s.getD j 0).toNat/16),dgD ((s.getD j 0).toNat % 16)]:=by unfold ZBt ZLa ZR2;rw[if_pos (by clear uu;grind)]
    have hn:(ZBt s j).length=3:=by rw[hA];rfl
    have hrow:(ZAr s j).map Zf++ [[X.int .u8 92],[X.int .u8 ((dgD ((s.getD j 0).toNat/16)).toNat:Int)],[X.int .u8 ((dgD ((s.getD j 0).toNat % 16)).toNat:Int)]]=(ZAr s j++ZBt s j).map Zf:=by rw[hA];exact ZYr _ 92 _ _
    refine WI.post ?_;refine WI.dregB tT [0,3,9,10,11] ?_
    iterate 2 refine Yo ?_
    iterate 2 refine dFG ?_
    refine Yo ?_
    iterate 2 refine dFG ?_
    iterate 2 refine dAG ?_
    refine Yo ?_;refine dP ?_;refine QE [0,1] ?_;refine QW ?_;refine nz ?_;refine WI.orderA [0,3,9,10,11] ?_;refine rg tT [0,3,9,10,11] ?_;exact⟨⟨j+1,by rw[hst,Zw,hn];first|done|rfl,by rw[hst,←hrow];first|done|rfl,by omega⟩,by simp[ZV,Ab.get,D.val,ZG];omega⟩
   ·refine rg tT [0,3,5,9,10,11,39] ?_;refine cd (fun h2=> ?_) (fun h2=> ?_)
    ·have hA:ZBt s j= [92,s.getD j 0]:=by unfold ZBt ZLa ZR2 slD;rw[if_neg (by clear uu;grind),if_pos (by clear uu;grind)]
     have hn:(ZBt s j).length=1+1:=by rw[hA];rfl
     have hrow:(ZAr s j).map Zf++ [[X.int .u8 92]]++ [[X.int .u8 ((s.getD j 0).toNat:Int)]]=(ZAr s j++ZBt s j).map Zf:=by rw[hA,KJ,Jq];rfl
     refine rgp tT [0,3,5,9,10,11] ?_;refine QE [0,1] ?_;refine QW ?_;refine nz ?_;refine rgp tT [0,3,9,10,11] ?_;refine QE [0,1] ?_;refine QW ?_;refine nz ?_;refine WI.orderA [0,3,9,10,11] ?_;refine rg tT [0,3,9,10,11] ?_;exact⟨⟨j+1,by rw[hst,Zw,hn];first|done|rfl,by rw[hst,←hrow];first|done|rfl,by omega⟩,by simp[ZV,Ab.get,D.val,ZG];omega⟩
    ·have hA:ZBt s j= [s.getD j 0]:=by unfold ZBt ZLa ZR2 slD;rw[if_neg (by clear uu;grind),if_neg (by clear uu;grind)]
     have hn:(ZBt s j).length=1:=by rw[hA];rfl
     have hrow:(ZAr s j).map Zf++ [[X.int .u8 ((s.getD j 0).toNat:Int)]]=(ZAr s j++ZBt s j).map Zf:=by rw[hA];exact ZY7 _ _
     refine rgp tT [0,3,9,10,11] ?_;refine QE [0,1] ?_;refine QW ?_;refine nz ?_;refine WI.orderA [0,3,9,10,11] ?_;refine rg tT [0,3,9,10,11] ?_;exact⟨⟨j+1,by rw[hst,Zw,hn];first|done|rfl,by rw[hst,←hrow];first|done|rfl,by omega⟩,by simp[ZV,Ab.get,D.val,ZG];omega⟩
  ·have uu:=Yq uu (ZKS (ZAr s j));refine rg tT [2] ?_;refine lf ?_;obtain rfl:j=s.length:=by omega
   first|rfl|(simp only[Kb,ZKS];first|done|rfl)
def ZFi:List D→Option (Bool×D)
 | [.x (.str s)]=>some (decide (s.length≤1000000),.x (.str (ZLW s)))
 |_=>none
theorem ZUA: ∀args r,ZFi args=some (true,r)→ZC Tryz.prog 177 args r:=by
 intro args r h;unfold ZFi at h;split at h
 ·rename_i s;simp only[Za,Zb,ZQ,Zg,true_and]at h;obtain⟨h1,rfl⟩:=h;exact(ZYc s h1)
 ·cases h
end Go.Proofs.YtiogclkbccdefaaGreatDoor
end
