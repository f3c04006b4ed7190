import Derived.Test.YtiogclkbccdefaaGreatDoorMA1
import Derived.Test.YtiogclkbccdefaaGreatDoorLA5
import Derived.Test.YtiogclkbccdefaaGreatDoorProg
import Derived.Shelf.Spec.SlicesGrow
import Derived.Test.YtiogclkbccdefaaGreatDoorSh
import Derived.Handy
import Derived.Lib.SlBytesConst
import Derived.Shelf.Strings.Cut
set_option linter.unusedSimpArgs false
set_option linter.unusedVariables false
set_option maxRecDepth 100000
section
namespace Go.Proofs.YtiogclkbccdefaaGreatDoor
open Go.RowKit Go.Bo Go.Ab
def cmpS(a b:List UInt8):Int:=if Op.bytesLess a b=true then-1 else if Op.bytesLess b a=true then 1 else 0
theorem ZbA(s:List UInt8):ZD Tryz.prog 129 [.x (.str s)] (.x (.bool false)):=by
 have hbs: ∀x:List UInt8,(x !=x)=false:=fun x=>by simp
 refine ZG.pure (fC 129 true ?_) rfl;intro C0 E0;have uu:=hbs;have tT:=(ZE:SsOk Tryz.prog ZQ);refine nz ?_;refine rg tT [0] ?_;refine rg tT [2] ?_;refine lf ?_
 first|rfl|exact⟨rfl,rfl⟩|trivial
def ZHK:List D→Option (Bool×D)
 | [.x (.str s)]=>some (true,.x (.bool false))
 |_=>none
theorem ZUy: ∀args r,ZHK args=some (true,r)→ZD Tryz.prog 129 args r:=by
 intro args r h;unfold ZHK at h;split at h
 ·rename_i s;simp only[Ze,Za,ZS,Zi,true_and]at h;obtain rfl:=h;exact(ZbA s)
 ·cases h
def ZMV:Tabs:=ZW (ZQ) 129 ZHK
theorem ZV4:SsOk Tryz.prog ZMV:=ZJ (ZE) (ZZ 129) ZUy
theorem ZWW:(∀a,ZMV.q 129 a=ZHK a)∧(∀f a o,ZMV.r f a o=none)∧(∀f a o,ZMV.k f a o=none):=⟨fun _=>rfl,fun _ _ _=>rfl,fun _ _ _=>rfl⟩
theorem cmpS_c(a b:List UInt8):ZD Tryz.prog 82 [.x (.str a),.x (.str b)] (.x (.int .i64 (cmpS a b))):=by
 unfold cmpS;refine ZG.pure (fC 82 true ?_) rfl;intro C0 E0;have uu:=Jz @ZHK.eq_1 @ZHK.eq_2 @ZWW;have tT:=ZV4;refine nz ?_;refine rg tT [0,1] ?_;refine rg tT [0,1,5] ?_;refine rg tT [0,1,5,6] ?_;refine rg tT [0,1,6,11] ?_;refine cd (fun h0=> ?_) (fun h0=> ?_)
 ·refine rg tT [12] ?_;refine cd (fun h1=> ?_) (fun h1=> ?_)
  ·refine rg tT [4] ?_;refine lf ?_
   first|rfl|exact⟨rfl,rfl⟩|trivial
  ·refine rg tT [4] ?_;refine lf ?_
   first|rfl|exact⟨rfl,rfl⟩|trivial
 ·refine rg tT [0,1,13] ?_;refine cd (fun h2=> ?_) (fun h2=> ?_)
  ·refine rg tT [4] ?_;refine lf ?_
   first|rfl|exact⟨rfl,rfl⟩|trivial
  ·refine rg tT [0,1,16] ?_;refine cd (fun h3=> ?_) (fun h3=> ?_)
   ·refine rg tT [4] ?_;refine lf ?_;rw[if_pos (by clear uu;grind)]
   ·refine rg tT [19] ?_;refine cd (fun h4=> ?_) (fun h4=> ?_)
    ·refine rg tT [4] ?_;refine lf ?_;rw[if_neg (by clear uu;grind),if_pos ((bl_tot a b (by clear uu;grind)).resolve_left (by clear uu;grind))]
    ·refine rg tT [4] ?_;refine lf ?_;obtain rfl:a=b:=by clear uu;grind
     rw[bl_irr];rfl
def ZD2:List D→Option (Bool×D)
 | [.x (.str a),.x (.str b)]=>some (true,.x (.int .i64 (cmpS a b)))
 |_=>none
theorem ZPz: ∀args r,ZD2 args=some (true,r)→ZD Tryz.prog 82 args r:=by
 intro args r h;unfold ZD2 at h;split at h
 ·rename_i a b;simp only[Ze,Za,ZS,Zi,true_and]at h;obtain rfl:=h;exact(cmpS_c a b)
 ·cases h
def ZLE:Tabs:=ZW (ZQ) 82 ZD2
theorem ZWB:SsOk Tryz.prog ZLE:=ZJ (ZE) (ZZ 82) ZPz
theorem ZWn:(∀a,ZLE.q 82 a=ZD2 a)∧(∀f a o,ZLE.r f a o=none)∧(∀f a o,ZLE.k f a o=none):=⟨fun _=>rfl,fun _ _ _=>rfl,fun _ _ _=>rfl⟩
theorem ZaC(n t:List UInt8)(R:List (List X)):ZD Tryz.prog 125 [.agg [.x (.str n),.x (.sl R)],.x (.str t)] (.x (.int .i64 (cmpS n t))):=by
 refine ZG.pure (fC 125 true ?_) rfl;intro C0 E0;have uu:=Jz @ZD2.eq_1 @ZD2.eq_2 @ZWn;have tT:=ZWB;refine nz ?_;refine rg tT [1,2] ?_;refine rg tT [4] ?_;refine lf ?_
 first|rfl|exact⟨rfl,rfl⟩|trivial
def ZHR:List D→Option (Bool×D)
 | [.agg [.x (.str n),.x (.sl R)],.x (.str t)]=>some (true,.x (.int .i64 (cmpS n t)))
 |_=>none
theorem ZU9: ∀args r,ZHR args=some (true,r)→ZD Tryz.prog 125 args r:=by
 intro args r h;unfold ZHR at h;split at h
 ·rename_i n R t;simp only[Ze,Za,ZS,Zi,true_and]at h;obtain rfl:=h;exact(ZaC n t R)
 ·cases h
theorem ZL4(l:List ZU)(j:Nat)(h:j<l.length):(rows ZV l)[j]? =some [X.str (l.getD j ([],[],())).1,X.sl (rows ZB (l.getD j ([],[],())).2.1)]:=by
 simp[rows,h,ZV,Kz,ZB,rSl,ZDi]
abbrev SoA(l:List ZU):Prop:=l.Pairwise fun a b=>Op.bytesLess a.1 b.1=true
theorem Zak{l:List ZU}(hs:SoA l)(n:List UInt8)(h:Nat)(hl:h<l.length):Op.bytesLess l[h].1 n=true↔h<Zm l n:=by
 constructor
 ·intro hb;apply ZQo;intro hc;have hle:Zm l n≤h:=by omega
  have hpl:Zm l n<l.length:=by omega
  have hst:=ZLs l n hpl;rcases Nat.lt_or_eq_of_le hle with hlt|heq
  ·have:=ZLD.1 hs _ _ hpl hl hlt;rw[bl_trans _ _ _ this hb]at hst;cases hst
  ·have:l[Zm l n].1=l[h].1:=by congr 2
   rw[this,hb]at hst;cases hst
 ·intro hb;exact ZLY l n h hb
theorem ZQg(a b:List UInt8):cmpS a b<0↔Op.bytesLess a b=true:=by
 unfold cmpS;split
 ·rename_i h;simp[h]
 ·rename_i h;split<;>simp[h]
theorem ZNe(a b:List UInt8):cmpS a b=0↔a=b:=by
 unfold cmpS;split
 ·rename_i h;constructor
  ·intro k;cases k
  ·intro k;subst k;rw[bl_irr]at h;cases h
 ·rename_i h;split
  ·rename_i h2;constructor
   ·intro k;cases k
   ·intro k;subst k;rw[bl_irr]at h2;cases h2
  ·rename_i h2;constructor
   ·intro _;apply ZQo;intro hne;rcases bl_tot a b hne with k|k
    ·exact h k
    ·exact h2 k
   ·intro _;rfl
theorem ZZT(i j:Nat)(h:i+j≤4000000):IntKind.i64.wrap ((IntKind.u64.wrap ((i:Int)+(j:Int))).fdiv (2^min 1 IntKind.u64.bits))=(((i+j)/2:Nat):Int):=by
 have e1:IntKind.u64.wrap ((i:Int)+(j:Int))=((i+j:Nat):Int):=by
  rw[show((i:Int)+(j:Int))=((i+j:Nat):Int) by omega];simp[IntKind.wrap,IntKind.bits,IntKind.signed];omega
 have e2:(2^min 1 IntKind.u64.bits:Int)=2:=rfl;rw[e1,e2];have e3:((i+j:Nat):Int).fdiv 2=(((i+j)/2:Nat):Int):=by
  rw[Int.fdiv_eq_ediv_of_nonneg _ (by omega)];omega
 rw[e3,IntKind.wrap_i64];omega
def dif(φ:List (Nat×D))(_:List Ob):Nat:=((ZH (Go.Ab.get φ 10).val).getD 0-(ZH (Go.Ab.get φ 9).val).getD 0).toNat
def ZME:Tabs:=ZW (ZQ) 125 ZHR
theorem ZVI:SsOk Tryz.prog ZME:=ZJ (ZE) (ZZ 125) ZU9
theorem ZWi:(∀a,ZME.q 125 a=ZHR a)∧(∀f a o,ZME.r f a o=none)∧(∀f a o,ZME.k f a o=none):=⟨fun _=>rfl,fun _ _ _=>rfl,fun _ _ _=>rfl⟩
theorem ZdJ(l:List ZU)(n:List UInt8)(hs:SoA l)(hl:l.length≤1000000):ZD Tryz.prog 124 [.x (.sl (rows ZV l)),.x (.str n),.fn 125 []] (.tup [.x (.int .i64 (Zm l n)),.x (.bool (ZBh l n))]):=by
 have hpl:=ZFp l n;have hhit:ZBh l n=match l[Zm l n]? with|some a=>a.1==n|none=>false:=rfl
 refine ZG.pure (fC 124 true ?_) rfl;intro C0 E0;have uu:=Jz @ZHR.eq_1 @ZHR.eq_2 @ZWi;have tT:=ZVI;refine nz ?_;refine rg tT [0,1,2] ?_;refine rg tT [0,1,2,8] ?_;refine rg tT [0,1,2,8,9,10] ?_;refine WI.loop (fun φ os=> ∃(i j:Nat),φ= [(0,.x (.sl (rows ZV l))),(1,.x (.str n)),(2,.fn 125 []),(8,.x (.int .i64 l.length)),(9,.x (.int .i64 i)),(10,.x (.int .i64 j))]∧os= []∧i≤Zm l n∧Zm l n≤j∧j≤l.length) (dif) ?_ (fun φ os hI=> ?_)
 ·exact⟨0,l.length,rfl,rfl,by omega,hpl,by omega⟩
 ·obtain⟨i,j,rfl,rfl,hi,hj,hjl⟩:=hI;refine nz ?_;refine rg tT [0,1,2,8,9,10,17] ?_;refine cd (fun h0=> ?_) (fun h0=> ?_)
  ·refine rg tT [0,1,2,8,9,10,11] ?_;have hij:i<j:=by omega
   rw[ZZT i j (by omega)];obtain⟨M,hM⟩: ∃M,M=(i+j)/2:=⟨_,rfl⟩;rw[←hM];have hMl:M<l.length:=by omega
   have hrw:=ZL4 l M hMl;have hiff:=Zak hs n M hMl;rw[show l[M]=l.getD M ([],[],()) by simp[hMl],←ZQg]at hiff;generalize l.getD M ([],[],())=x at hrw hiff;have uu:=Yq uu hrw;refine rg tT [0,1,2,8,9,10,11,31] ?_;refine cd (fun h1=> ?_) (fun h1=> ?_)
   ·have hlt:M<Zm l n:=hiff.1 (by simpa using h1);refine rg tT [0,1,2,8,9,10] ?_
    first|exact⟨⟨M+1,j,rfl,rfl,by omega,by omega,by omega⟩,by simp[dif,Ab.get,D.val,ZH];omega⟩|exact⟨⟨i,M,rfl,rfl,by omega,by omega,by omega⟩,by simp[dif,Ab.get,D.val,ZH];omega⟩
   ·have hlt: ¬M<Zm l n:=fun h=>absurd (hiff.2 h) (by simpa using h1)
    refine rg tT [0,1,2,8,9,10] ?_
    first|exact⟨⟨M+1,j,rfl,rfl,by omega,by omega,by omega⟩,by simp[dif,Ab.get,D.val,ZH];omega⟩|exact⟨⟨i,M,rfl,rfl,by omega,by omega,by omega⟩,by simp[dif,Ab.get,D.val,ZH];omega⟩
  ·obtain rfl:Zm l n=i:=by omega
   by_cases hk:Zm l n<l.length
   ·have hrw:=ZL4 l (Zm l n) hk;rw[Zu hk,show l[Zm l n]=l.getD (Zm l n) ([],[],()) by simp[hk]]at hhit;generalize l.getD (Zm l n) ([],[],())=x at hrw hhit;have hd:=Zc (show((Zm l n:Nat):Int)<(l.length:Int) by omega);have uu:=Jz uu hrw hd;refine rg tT [6,7] ?_;refine lf ?_;have hcb:(cmpS x.1 n==0)=(x.1==n):=by rw[ZBc];simp[ZNe]
    rw[hhit,hcb]
   ·have hrw:(rows ZV l)[Zm l n]? =none:=ξZ (by rw[Zo];omega);rw[ξZ (by omega)]at hhit;have hd:=decide_eq_false (show ¬((Zm l n:Nat):Int)<(l.length:Int) by omega);have uu:=Jz uu hrw hd;refine rg tT [6,7] ?_;refine lf ?_;rw[hhit]
def ZGd:List D→Option (Bool×D)
 | [.x (.sl R),.x (.str n),.fn 125 []]=>(ZY ZV R).bind fun l=>some (decide (SoA l∧l.length≤1000000),.tup [.x (.int .i64 (Zm l n)),.x (.bool (ZBh l n))])
 |_=>none
theorem ZSG: ∀args r,ZGd args=some (true,r)→ZD Tryz.prog 124 args r:=by
 intro args r h;unfold ZGd at h;split at h
 ·rename_i R n;obtain⟨l,hr0,h⟩:=Zv h;simp only[Ze,Za,ZS,Zi,true_and]at h;obtain⟨h1,rfl⟩:=h;rw[←Zb YJ hr0];exact(ZdJ l n h1.1 h1.2)
 ·cases h
end Go.Proofs.YtiogclkbccdefaaGreatDoor
end
section
namespace Go.Ab
open Go.RowKit Go.Bo
section
variable {P:Program} {c:Ctx} {E0:Env} {os0 os:List Ob} {n:Nat} {Q:Exit→List (Nat×D)→List Ob→Prop} {φ:List (Nat×D)}
theorem Rel.reob{E:Env}(R:Rel c E os){i:Nat}{o o':Ob}(ho:os[i]? =some o)(hk: ∀k,o.kd=some k→o'.kd=some k)(hs: ∀sz n,o.sl? =some (sz,n)→o'.sl? =some (sz,n))(hm: ∀p b,o'.mb p b→o.mb p b)
  (hok: ∀p,E.ob[i]? =some p→OK E os o p→Evo E os E (os.set i o')→OK E (os.set i o') o' p):Rel c E (os.set i o')∧Evo E os E (os.set i o'):=by
 obtain⟨p,hp,hok0⟩:=R.at ho;have hset:E.ob.set i p=E.ob:=by
  apply ZAq;intro j;rw[ZBj];split
  ·rename_i h;subst h;rw[hp];simp[(ZR hp).1]
  ·rfl
 have hE:(⟨E.w,E.st,E.ob.set i p⟩:Env)=E:=by rw[hset]
 obtain⟨R',ev⟩:=R.set ho hp E.w o' p (Kept.refl _ _) (fun b hb=> .inl (hm p b hb)) (fun sz n h=>⟨n,hs sz n h,.inl ⟨rfl,rfl⟩⟩) (fun k h=>⟨rfl,hk k h⟩) (fun ev=>by
  rw[hE]at ev⊢;exact hok p hp hok0 ev)
 rw[hE]at R' ev;exact⟨R',ev⟩
theorem WI.ownBox(b j e sz:Nat){ds:List D}(hb:os[b]? =some (.box ds))(hj:ds[j]? =some (.x .nils)){ic:IC}(h:WI P c E0 os0 n ic Q φ (os.set b (.box (ds.set j (.ref os.length 0 0 0)))++ [.rows false e sz []])):WI P c E0 os0 n ic Q φ os:=by
 refine WI.weak (fun E a R hf=> ?_) h;obtain⟨E',k1,k2,k3,k4⟩:=QO (fz:=false) (e:=e) (sz:=sz) (rs:= []) (cu:= .slice none 0 0) (xs:= []) R.rel (Kept.refl _ E.w) ⟨by simp,.inl ⟨rfl,rfl⟩⟩ (fun b hb=>by cases hb) (fun r hr=>by cases hr) (fun i r j x v h=>by simp at h);have hbl:=(ZR hb).1;have hb':(os++ [Ob.rows false e sz []])[b]? =some (.box ds):=by rw[YR hbl];exact hb
 obtain⟨R2,e2⟩:=k2.reob (o':= .box (ds.set j (.ref os.length 0 0 0))) hb' (fun k h=>h) (fun sz n h=>by cases h) (fun p b h=>h) (fun p hp hok ev=>by
  obtain⟨cs,ty,g1,g2,g3⟩:=hok;refine⟨cs,ty,g1,by rw[ZIH];exact g2,fun k d v hd hv=> ?_⟩;rw[ZBj]at hd;split at hd
  ·rename_i hjk;subst hjk;split at hd
   ·cases hd;have h1:=g3 j _ v hj hv;have h2:=V.nils h1.1;subst h2;exact⟨k4.mono ev,h1.2⟩
   ·cases hd
  ·exact⟨(g3 k d v hd hv).1.mono ev,(g3 k d v hd hv).2⟩)
 rw[ZMz _ _ hbl]at R2 e2;exact⟨E',k1,⟨R2,(R.evo.trans k3).trans e2⟩,hf.size,hf.defers,fun u=>((hf.slot u).mono k3).mono e2⟩
end
end Go.Ab
end
section
namespace Go.Proofs.YtiogclkbccdefaaGreatDoor
open Go.RowKit Go.Bo Go.Ab Go.Shelf
def ZRV:Ren:=⟨fun|4=>113|n=>n,fun|22=>34|25=>9|n=>n,fun n=>n⟩
theorem ZLC:Go.Proofs.Lays8.n4 Tryz.prog ZRV where
 mixed:=by kernel_rfl
 f4:=⟨"slices.Grow[[]string,string]",by decide,by kernel_rfl⟩
 t0:=by kernel_rfl
 a0:=fun w=>by kernel_rfl
 z0:=fun w=>by kernel_rfl
 v0:=fun w=>by kernel_rfl
 t3:=by kernel_rfl
 a3:=fun w=>by kernel_rfl
 z3:=fun w=>by kernel_rfl
 v3:=fun w=>by kernel_rfl
 t4:=by kernel_rfl
 a4:=fun w=>by kernel_rfl
 z4:=fun w=>by kernel_rfl
 v4:=fun w=>by kernel_rfl
 t9:=by kernel_rfl
 a9:=fun w=>by kernel_rfl
 z9:=fun w=>by kernel_rfl
 v9:=fun w=>by kernel_rfl
 t20:=by kernel_rfl
 a20:=fun w=>by kernel_rfl
 z20:=fun w=>by kernel_rfl
 v20:=fun w=>by kernel_rfl
 t22:=by kernel_rfl
 a22:=fun w=>by kernel_rfl
 z22:=fun w=>by kernel_rfl
 v22:=fun w=>by kernel_rfl
theorem ZQp:Go.Ab.Enters Tryz.prog 113:=ZLC.f4.enters rfl
theorem Zbr(n:Nat)(hn:n≤1000000):ZL Tryz.prog 113 [.x .nils,.x (.int .i64 n)] [] (.ref 0 0 0 0) [.rows false 9 1 []]:=by
 intro c E vs R hvl;obtain⟨hsz,hv⟩:=hvl;obtain⟨v0,v1,rfl⟩: ∃v0 v1,vs= #[v0,v1]:=by
  obtain⟨vl⟩:=vs
  match vl,hsz with
  | [a,b],_=>exact⟨a,b,rfl⟩
 have h0:=hv 0 _ v0 rfl rfl;have h1:=hv 1 _ v1 rfl rfl;cases h0 with
 |x h0=>
 cases h1 with
 |x h1=>
 cases h1 with
 |int _ _=>
 cases h0 with
 |nils=>
 by_cases hz:n=0
 ·subst hz;refine(Go.Proofs.Any8.slices_Grow_room ZLC none 0 0 0 E.w (Zl _) (by omega) (by omega) (Zl _)).mono ?_;rintro e w' ⟨rfl,rfl⟩;obtain⟨E',h1,h2,h3,h4⟩:=QO R (fz:=false) (e:=9) (sz:=1) (rs:= []) (cu:= .slice none 0 0) (xs:= []) (Kept.refl _ _) ⟨rfl,.inl ⟨rfl,rfl⟩⟩ (fun b hb=>by simp[Value.ownBlock]at hb) (fun r hr=>by cases hr) (fun i r j x v h=>by simp at h);exact⟨_,E',rfl,h1,h2,h3,h4⟩
 ·have hi:(Tryz.prog.info? 9).map (fun i=>(i.zero,i.size,i.bytes))=some (some (.string ByteArray.empty),1,16):=by kernel_rfl
  obtain⟨i0,hi0,hi1⟩:=ZT hi;simp only[Za]at hi1;obtain⟨hz0,hs0,hb0⟩:=hi1;refine(Go.Proofs.Any8.slices_Grow_grow ZLC i0 (.string ByteArray.empty) hi0 hz0 (by omega) none 0 0 n [] E.w (Zl _) (by omega) (by rw[hb0];omega) (by omega) (by simp) (fun _=>rfl) (fun a h=>by cases h)).mono ?_;rintro e w' ⟨rfl,rfl⟩;have hG:=grownCap_le_maxLen E.w (0+n) 0 9 (by unfold maxLen;omega);have hGn:0+n≤grownCap E.w (0+n) 0 9:=grownCap_ge E.w _ _ _;have hgr:ZRV.t 25=9:=rfl;rw[hgr];generalize grownCap E.w (0+n) 0 9=G at hG hGn⊢;have hcs:(([]:List Value).toArray++Builtin.zeroCells (Value.string ByteArray.empty).cells (0+n-0)++Builtin.zeroCells (Value.string ByteArray.empty).cells (G-(0+n))).size=G*1:=by
   simp[Builtin.zeroCells,Value.cells]<;>omega
  obtain⟨E',h1,h2,h3,h4⟩:=QO R (fz:=false) (e:=9) (sz:=1) (rs:= []) (cu:= .slice (some ⟨E.w.heap.size,0,none⟩) 0 G) (xs:= [])
   (Kept.of_none (((Kt.refl E.w).dr.al (.cells (([]:List Value).toArray++Builtin.zeroCells (Value.string ByteArray.empty).cells (0+n-0)++Builtin.zeroCells (Value.string ByteArray.empty).cells (G-(0+n))) 9)).grown none))
   ⟨rfl,.inr ⟨E.w.heap.size,G,_,(0,0),rfl,heap_alloc_new _ _,Je _,hG,hcs,by simp,.inl rfl⟩⟩ (fun b hb=>by simp[Value.ownBlock]at hb;omega) (fun r hr=>by cases hr) (fun i r j x v h=>by simp at h)
  exact⟨_,E',rfl,h1,h2,h3,h4⟩
def ZGF:List D→List Ob→Option (Bool×D×List Ob)
 | [.x .nils,.x (.int .i64 n)],[]=>some (decide (0≤n∧n.toNat≤1000000),.ref 0 0 0 0,[.rows false 9 1 []])
 |_,_=>none
theorem ZW9: ∀args os r os',ZGF args os=some (true,r,os')→ZL Tryz.prog 113 args os r os':=by
 intro args os r os' h;unfold ZGF at h;split at h
 ·rename_i n;simp only[Ze,Za,Zi]at h;obtain⟨⟨h1,h2⟩,rfl,rfl⟩:=h;have:=Zbr n.toNat h2;rwa [Int.toNat_of_nonneg h1]at this
 ·cases h
def ZHC:Tabs:=Jc (ZQ) 113 ZGF
theorem ZML:SsOk Tryz.prog ZHC:=Ys (ZE) ZQp ZW9
theorem ZOA:(∀a,ZHC.q 113 a=none)∧(∀a o,ZHC.t 113 a o=Ym ZGF a o)∧(∀f a o,ZHC.r f a o=none)∧(∀f a o,ZHC.k f a o=none):=⟨fun _=>rfl,fun _ _=>rfl,fun _ _ _=>rfl,fun _ _ _=>rfl⟩
theorem ZQa(a b:List (List UInt8))(ha:a.length≤100000)(hb:b.length≤100000):ZD Tryz.prog 73 [.x (.sl [[.sl (rows ZB a)],[.sl (rows ZB b)]])] (.x (.sl (rows ZB (a++b)))):=by
 refine ZG.pure (fC 73 true ?_) rfl;intro C0 E0;have uu:=Jz @ZGF.eq_1 @ZGF.eq_2 @ZOA;have tT:=ZML;refine nz ?_;refine rg tT [0] ?_;refine rg tT [0,3] ?_;refine rg tT [0,3,9,10,11] ?_;refine WI.loopN 3 ?_;refine WI.round ?_;refine nz ?_;refine rg tT [0,3,9,10,11,12] ?_;refine ct (fun h0=> ?_) (fun h0=> ?_)
 ·refine rg tT [0,3,5,9,10,11] ?_;refine rg tT [0,3,9,10,11] ?_;refine rg tT [0,3,9,10,11,20] ?_;refine ce (fun h1=> ?_) (fun h1=> ?_)
  ·first|omega|(simp at h1;done)|(simp at h1;omega)
  ·refine rg tT [0,3,9,10,11] ?_;refine WI.round ?_;refine nz ?_;refine rg tT [0,3,9,10,11,12] ?_;refine ct (fun h0=> ?_) (fun h0=> ?_)
   ·refine rg tT [0,3,5,9,10,11] ?_;refine rg tT [0,3,9,10,11] ?_;refine rg tT [0,3,9,10,11,20] ?_;refine ce (fun h1=> ?_) (fun h1=> ?_)
    ·first|omega|(simp at h1;done)|(simp at h1;omega)
    ·refine rg tT [0,3,9,10,11] ?_;refine WI.round ?_;refine nz ?_;refine rg tT [0,3,9,10,11,12] ?_;refine ce (fun h0=> ?_) (fun h0=> ?_)
     ·exact absurd h0 (by decide)
     ·refine rg tT [0,6] ?_;refine rg tT [6,25,26,27] ?_;refine WI.loopN 3 ?_;refine WI.round ?_;refine nz ?_;refine rg tT [6,25,26,27,28] ?_;refine ct (fun h2=> ?_) (fun h2=> ?_)
      ·refine rg tT [6,8,25,26,27] ?_;refine rg tT [6,25,26,27] ?_;refine rg tT [6,25,26,27] ?_;refine WI.round ?_;refine nz ?_;refine rg tT [6,25,26,27,28] ?_;refine ct (fun h2=> ?_) (fun h2=> ?_)
       ·refine rg tT [6,8,25,26,27] ?_;refine rg tT [6,25,26,27] ?_;refine rg tT [6,25,26,27] ?_;refine WI.round ?_;refine nz ?_;refine rg tT [6,25,26,27,28] ?_;refine ce (fun h2=> ?_) (fun h2=> ?_)
        ·exact absurd h2 (by decide)
        ·refine rg tT [2] ?_;refine lf ?_;rw[JH (by simp)]
       ·exact absurd h2 (by decide)
      ·exact absurd h2 (by decide)
   ·exact absurd h0 (by decide)
 ·exact absurd h0 (by decide)
theorem ZSQ(b:List (List UInt8))(hb:b.length≤100000):ZD Tryz.prog 73 [.x (.sl [[.nils],[.sl (rows ZB b)]])] (.x (.sl (rows ZB b))):=by
 refine ZG.pure (fC 73 true ?_) rfl;intro C0 E0;have uu:=Jz @ZGF.eq_1 @ZGF.eq_2 @ZOA;have tT:=ZML;refine nz ?_;refine rg tT [0] ?_;refine rg tT [0,3] ?_;refine rg tT [0,3,9,10,11] ?_;refine WI.loopN 3 ?_;refine WI.round ?_;refine nz ?_;refine rg tT [0,3,9,10,11,12] ?_;refine ct (fun h0=> ?_) (fun h0=> ?_)
 ·refine rg tT [0,3,5,9,10,11] ?_;refine rg tT [0,3,9,10,11] ?_;refine rg tT [0,3,9,10,11,20] ?_;refine ce (fun h1=> ?_) (fun h1=> ?_)
  ·first|omega|(simp at h1;done)|(simp at h1;omega)
  ·refine rg tT [0,3,9,10,11] ?_;refine WI.round ?_;refine nz ?_;refine rg tT [0,3,9,10,11,12] ?_;refine ct (fun h0=> ?_) (fun h0=> ?_)
   ·refine rg tT [0,3,5,9,10,11] ?_;refine rg tT [0,3,9,10,11] ?_;refine rg tT [0,3,9,10,11,20] ?_;refine ce (fun h1=> ?_) (fun h1=> ?_)
    ·first|omega|(simp at h1;done)|(simp at h1;omega)
    ·refine rg tT [0,3,9,10,11] ?_;refine WI.round ?_;refine nz ?_;refine rg tT [0,3,9,10,11,12] ?_;refine ce (fun h0=> ?_) (fun h0=> ?_)
     ·exact absurd h0 (by decide)
     ·refine rg tT [0,6] ?_;refine rg tT [6,25,26,27] ?_;refine WI.loopN 3 ?_;refine WI.round ?_;refine nz ?_;refine rg tT [6,25,26,27,28] ?_;refine ct (fun h2=> ?_) (fun h2=> ?_)
      ·refine rg tT [6,8,25,26,27] ?_;refine rg tT [6,25,26,27] ?_;refine rg tT [6,25,26,27] ?_;refine WI.round ?_;refine nz ?_;refine rg tT [6,25,26,27,28] ?_;refine ct (fun h2=> ?_) (fun h2=> ?_)
       ·refine rg tT [6,8,25,26,27] ?_;refine rg tT [6,25,26,27] ?_;refine rg tT [6,25,26,27] ?_;refine WI.round ?_;refine nz ?_;refine rg tT [6,25,26,27,28] ?_;refine ce (fun h2=> ?_) (fun h2=> ?_)
        ·exact absurd h2 (by decide)
        ·refine rg tT [2] ?_;refine lf ?_
         first|rfl|(rw[JH (by simp)])
       ·exact absurd h2 (by decide)
      ·exact absurd h2 (by decide)
   ·exact absurd h0 (by decide)
 ·exact absurd h0 (by decide)
open Go.RowKit Go.Bo Go.Ab
theorem ZYL{a b:List UInt8}(h:ZN a=ZN b):a=b:=by
 have:=congrArg (fun x=>x.data.toList) h;simpa[ZN]using this
theorem Zdk(l:List (List UInt8))(s:List UInt8):Lib.containsS (l.map ZN) (ZN s)=decide (s∈l):=by
 rw[ZBc,Lib.containsS_iff,Zi,YW];exact⟨fun⟨a,h1,h2⟩=>ZYL h2▸h1,fun h=>⟨s,h,rfl⟩⟩
theorem ZcN(l:List (List UInt8))(s:List UInt8)(hl:l.length≤1000000):ZD Tryz.prog 127 [.x (.sl (rows ZB l)),.x (.str s)] (.x (.bool (decide (s∈l)))):=by
 intro w st vs hst hvl;obtain⟨hsz,hv⟩:=hvl;obtain⟨v0,v1,rfl⟩: ∃v0 v1,vs= #[v0,v1]:=by
  obtain⟨vl⟩:=vs
  match vl,hsz with
  | [a,b],_=>exact⟨a,b,rfl⟩
 have h0:=hv 0 _ v0 rfl rfl;have h1:=hv 1 _ v1 rfl rfl;clear hv hsz;cases h0 with
 |x h0=>
 cases h1 with
 |x h1=>
 cases h1 with
 |str _=>
 cases h0 with
 |sl _ a n c sz val hn hc hm hsz hcell hnil hsp hval=>
  rw[Zo]at hn;subst hn
  match l,hl,hc,hsz,hcell,hval with
  | [],_,_,_,_,_=>
   refine(Tryz.slices_Contains_string_empty a c (ZN s) w).mono ?_;rintro e w' ⟨rfl,rfl⟩;exact⟨_,st,rfl,Kept.refl _ _,fun _ _ h=>h,fun _ _ h=> .inl h,.x (.bool _)⟩
  |x::r,hl,hc,hsz,hcell,hval=>
   obtain rfl:1=sz:=hsz [.str x] (by simp[rows,ZB]);obtain⟨b,off,rfl,hs0,_⟩:=hcell 0 0 (by simp) (by omega);have hcells: ∀j,j<((x::r).map ZN).length→w.cell? ⟨b,off+j,none⟩=some (.string (((x::r).map ZN).getD j ByteArray.empty)):=by
    intro j hj;rw[Yf]at hj;obtain⟨b',off',e,_,hw⟩:=hcell j 0 hj (by omega);simp only[Ze,Addr.mk.injEq]at e;obtain⟨rfl,rfl,_⟩:=e;have hx:=hval j 0 [.str (x::r)[j]] (.str (x::r)[j]) (by simp only[rows,Zw,Zu hj];rfl) rfl;have hd:((x::r).map ZN).getD j ByteArray.empty=ZN (x::r)[j]:=by rw[ZGe,Zw,Zu hj];rfl
    rw[show off+j=off+j*1+0 by omega,hw,hd];generalize val j 0=u at hx;cases hx with
    |str _=>rfl
   have:=Tryz.slices_Contains_string b off (x::r).length c ((x::r).map ZN) (ZN s) w (by simp) (by omega) hcells;rw[JH (by simp),Zdk]at this;refine this.mono ?_;rintro e w' ⟨rfl,rfl⟩;exact⟨_,st,rfl,Kept.refl _ _,fun _ _ h=>h,fun _ _ h=> .inl h,.x (.bool _)⟩
theorem ZKK:Go.Ab.Enters Tryz.prog 127:=Go.Proofs.enters_of Tryz.lays110.f110 (by kernel_rfl) rfl
def ZGB:List D→Option (Bool×D)
 | [.x (.sl R),.x (.str s)]=>(ZY ZB R).bind fun l=>some (decide (l.length≤1000000),.x (.bool (decide (s∈l))))
 |_=>none
theorem ZOp: ∀args r,ZGB args=some (true,r)→ZD Tryz.prog 127 args r:=by
 intro args r h;unfold ZGB at h;split at h
 ·rename_i R s;obtain⟨l,hr0,h⟩:=Zv h;simp only[Ze,Za,ZS,Zi,true_and]at h;obtain⟨h1,rfl⟩:=h;rw[←Zb ZO hr0];exact(ZcN l s h1)
 ·cases h
end Go.Proofs.YtiogclkbccdefaaGreatDoor
end
section
namespace Go.Proofs.YtiogclkbccdefaaGreatDoor
open Go.RowKit Go.Bo Go.Ab
def inB(s:Tx)(n:Nat):Bool:=s.any fun x=>x.toNat==n
theorem ZPl(s:Tx)(i:Nat)(h:i<s.length):(s.map Zk)[i]? =some [X.int .u8 (s.getD i 0).toNat]:=by
 simp[h,Zk]
theorem ZcY(s:Tx)(n:Nat)(hl:s.length≤1000000):ZD Tryz.prog 200 [.x (.str s),.x (.int .u8 n)] (.x (.bool (inB s n))):=by
 refine ZG.pure (fC 200 true ?_) rfl;intro C0 E0;have uu:=Yq @Qa @Ky;have tT:=(ZE:SsOk Tryz.prog ZQ);refine nz ?_;refine rg tT [0,1] ?_;refine rg tT [1,8,9,10] ?_;refine WI.loop (fun φ os=> ∃(j:Nat),φ= [(1,.x (.int .u8 n)),(8,.ref 0 s.length 0 s.length),(9,.x (.int .i64 s.length)),(10,.x (.int .i64 j))]∧os= [.rows true 5 1 (s.map Zk)]∧j≤s.length∧inB (s.take j) n=false) (ZX s.length 10) ?_ (fun φ os hI=> ?_)
 ·exact⟨0,rfl,rfl,by omega,rfl⟩
 ·obtain⟨j,rfl,rfl,hj,hno⟩:=hI;refine nz ?_;refine rg tT [1,8,9,10,11] ?_;refine cd (fun h0=> ?_) (fun h0=> ?_)
  ·have hj4:j<s.length:=by omega
   have hst:inB (s.take (j+1)) n=(inB (s.take j) n||((s.getD j 0).toNat==n)):=by unfold inB;rw[Ko hj4,List.any_append];simp[hj4]
   have uu:=Yq uu (ZPl s j hj4);refine rg tT [1,6,8,9,10] ?_;refine rg tT [1,8,9,10,16] ?_;refine cd (fun h1=> ?_) (fun h1=> ?_)
   ·refine rg tT [4] ?_;refine lf ?_;have hz:((s.getD j 0).toNat:Int)=n:=by first|exact h1|simpa only[beq_iff_eq]using h1
    have hy:(s.getD j 0).toNat=n:=by omega
    rw[show inB s n=true from List.any_eq_true.2 ⟨s[j],Yl hj4,by rw[show s[j]=s.getD j 0 by simp[hj4]];simpa using hy⟩]
   ·refine rg tT [1,8,9,10] ?_;exact⟨⟨j+1,rfl,rfl,by omega,by rw[hst,hno];exact beq_false_of_ne (fun e=>h1 (by rw[e]))⟩,by simp[ZX,Ab.get,D.val,ZH];omega⟩
  ·refine rg tT [4] ?_;refine lf ?_;rw[JH (by omega)]at hno;rw[hno]
def ZBG:List D→Option (Bool×D)
 | [.x (.str s),.x (.int .u8 n)]=>some (decide (s.length≤1000000)&&(decide (0≤n)),.x (.bool (inB s n.toNat)))
 |_=>none
theorem ZKa: ∀args r,ZBG args=some (true,r)→ZD Tryz.prog 200 args r:=by
 intro args r h;unfold ZBG at h;split at h
 ·rename_i s n;simp only[Ze,Za,ZS,Zi,true_and]at h;obtain⟨⟨h1,h2⟩,rfl⟩:=h;exact(by obtain⟨m,rfl⟩: ∃m:Nat,n=m:=⟨n.toNat,by omega⟩;rw[ZJo];exact ZcY s m h1)
 ·cases h
def hxD(n:Nat):Nat:=if 48≤n∧n≤57 then n-48 else if 97≤n∧n≤102 then n-97+10 else if 65≤n∧n≤70 then n-65+10 else 16
def ZCh(n:Nat):Nat×Bool:=if hxD n<16 then(hxD n,true)else(0,false)
def ZIV:List UInt8:= [48,49,50,51,52,53,54,55,56,57,97,98,99,100,101,102]
def ZKm(d c:Nat):Bool:=d==c||(decide (65≤c∧c≤70)&&d==c+32)
theorem ZZe: ∀(k:Fin 16) (c:Fin 256),ZKm (ZIV.getD k.val 0).toNat c.val=true→ZCh c.val=(k.val,true):=by decide+kernel
theorem ZXZ: ∀c:Fin 256,(∀k:Fin 16,ZKm (ZIV.getD k.val 0).toNat c.val=false)→ZCh c.val=(0,false):=by decide+kernel
theorem ZbF(c:Nat)(hc:c<256)(h: ∀k,k<16→ZKm (ZIV.getD k 0).toNat c=false):ZCh c=(0,false):=ZXZ ⟨c,hc⟩ (fun k=>h k.val k.isLt)
def ZeO:Tx:= [44,43,34,92,60,62,59,61]
def spc(n:Nat):Bool:=inB ZeO n
def ZTZ(n:Nat)(first:Bool):Bool:=decide (n<32)||decide (n=127)||(decide (n≠61)&&spc n)||(first&&decide (n=35))
def ZLg:Tabs:=ZW (ZQ) 200 ZBG
theorem ZVM:SsOk Tryz.prog ZLg:=ZJ (ZE) (ZZ 200) ZKa
theorem ZWt:(∀a,ZLg.q 200 a=ZBG a)∧(∀f a o,ZLg.r f a o=none)∧(∀f a o,ZLg.k f a o=none):=⟨fun _=>rfl,fun _ _ _=>rfl,fun _ _ _=>rfl⟩
theorem ZYW(n:Nat)(b:Bool):ZD Tryz.prog 225 [.x (.int .u8 n),.x (.bool b)] (.x (.bool (ZTZ n b))):=by
 have hq:inB [44,43,34,92,60,62,59,61] n=spc n:=rfl;refine ZG.pure (fC 225 true ?_) rfl;intro C0 E0;have uu:=ξ4 @ZBG.eq_1 @ZBG.eq_2 hq @ZWt;have tT:=ZVM;refine nz ?_;refine rg tT [0,1] ?_;refine rg tT [4] ?_;refine lf ?_;clear uu;unfold ZTZ;congr 2;grind
def ZFB:List D→Option (Bool×D)
 | [.x (.int .u8 n),.x (.bool b)]=>some (decide (0≤n),.x (.bool (ZTZ n.toNat b)))
 |_=>none
theorem ZTH: ∀args r,ZFB args=some (true,r)→ZD Tryz.prog 225 args r:=by
 intro args r h;unfold ZFB at h;split at h
 ·rename_i n b;simp only[Ze,Za,ZS,Zi,true_and]at h;obtain⟨h1,rfl⟩:=h;exact(by obtain⟨m,rfl⟩: ∃m:Nat,n=m:=⟨n.toNat,by omega⟩;rw[ZJo];exact ZYW m b)
 ·cases h
def ZOX:Value→Int
 | .int _ n=>n
 |_=>0
def ZTM:Array Value:= #[.int .u8 48,.int .u8 49,.int .u8 50,.int .u8 51,.int .u8 52,.int .u8 53,.int .u8 54,.int .u8 55,.int .u8 56,.int .u8 57,.int .u8 97,.int .u8 98,.int .u8 99,.int .u8 100,.int .u8 101,.int .u8 102]
theorem ZZP(c:Nat)(h1:65≤c)(h2:c≤70):IntKind.u8.wrap (IntKind.u8.wrap ((c:Int)-65)+97)=((c+32:Nat):Int):=by
 rw[IntWalk.u8_in ((c:Int)-65) (by omega),IntWalk.u8_in _ (by omega)];omega
set_option maxHeartbeats 4000000 in
set_option maxRecDepth 100000 in
theorem ZSq(c:Nat)(w:World)(hc:c<256):
  Calls Tryz.prog 236 #[.int .u8 c] w fun e w'=>e= .returned (.tuple #[.int .u8 (ZCh c).1,.bool (ZCh c).2])∧Below w.heap.size w w':=by
 have kc:=fun(w:World) (C:Array Value) (n c:Nat)=>Lib.run_convert_bytes_const (P:=Tryz.prog) w 27 5 C n c Tryz.underlying27 Tryz.underlying5
 go_enter Tryz.func236,Tryz.ntmps236
 go_wp2_with fail
 go_loopw [9] (fun i wr=> ∃(k:Nat),k≤16∧i= .int .i64 k∧wr=w.alloc (.cells ZTM 5 (16,17))∧ ∀m,m<k→ZKm (ZIV.getD m 0).toNat c=false) (fun i _=>16-(ZOX i).toNat)
 case atStart=>exact⟨0,by omega,rfl,rfl,by intro m hm;omega⟩
 case round=>
  obtain⟨k,hk,rfl,rfl,hno⟩:=hrel;have hcell: ∀m:Fin 16,(w.alloc (.cells ZTM 5 (16,17))).cell? ⟨w.heap.size,m.val,none⟩=some (.int .u8 (ZIV.getD m.val 0).toNat):=by
   intro m;have hb:(w.alloc (.cells ZTM 5 (16,17))).heap[w.heap.size]? =some (.cells ZTM 5 (16,17)):=by
    show(w.heap.push _)[w.heap.size]? =_;simp
   rw[Lib.cell_of_heap hb]
   revert m;intro m;rcases m with⟨m,hm⟩;(repeat(rcases m with _|m;rfl));omega
  by_cases hlt:k<16
  ·have hc1:=hcell ⟨k,hlt⟩;have hat:=ZZe ⟨k,hlt⟩ ⟨c,hc⟩;simp only at hc1 hat;cases hq:ZKm (ZIV.getD k 0).toNat c with
   |true=>
    have hat:=hat hq;have hk1:IntKind.u8.wrap (k:Int)=(k:Int):=IntWalk.u8_in _ (by omega);clear hno hcell;unfold ZKm at hq;generalize(ZIV.getD k 0).toNat=d at hc1 hq;by_cases h1:d=c
    ·subst h1
     go_wp2_with fail
     all_goals first|exact bodyPost_ret (v:= .tuple #[.int .u8 (k:Int),.bool true]) (by simp[results,Tryz.results236,go_sem]) rfl ⟨by rw[hat],(Below.refl _ w).alloc (Zl _) _⟩|(exfalso;rename_i hx;revert hx;simp<;>omega)|(exfalso;revert q1;simp;done)|(exfalso;revert q4;simp only[hw]at*;simp_all<;>omega)|(exfalso;revert hq;simp<;>omega)
    ·have h2:65≤c∧c≤70∧d=c+32:=by simp[h1]at hq;omega
     obtain⟨h21,h22,rfl⟩:=h2;have hw:=ZZP c h21 h22;have q1:decide (((c+32:Nat):Int)=(c:Int))=false:=decide_eq_false (by omega);have q2:decide ((c:Int)≥65)=true:=Zc (by omega);have q3:decide ((c:Int)≤70)=true:=Zc (by omega)
     go_wp2_with fail
     all_goals first|exact bodyPost_ret (v:= .tuple #[.int .u8 (k:Int),.bool true]) (by simp[results,Tryz.results236,go_sem]) rfl ⟨by rw[hat],(Below.refl _ w).alloc (Zl _) _⟩|(exfalso;rename_i hx;revert hx;simp<;>omega)|(exfalso;revert q1;simp;done)|(exfalso;revert q4;simp only[hw]at*;simp_all<;>omega)|(exfalso;revert hq;simp<;>omega)
   |false=>
    have hq':=hq;unfold ZKm at hq;generalize(ZIV.getD k 0).toNat=d at hc1 hq;have q1:decide ((d:Int)=(c:Int))=false:=decide_eq_false (by simp at hq;omega);clear hcell hat;by_cases h1:65≤c
    ·by_cases h2:c≤70
     ·have hw:=ZZP c h1 h2;have q2:decide ((c:Int)≥65)=true:=Zc (by omega);have q3:decide ((c:Int)≤70)=true:=Zc (by omega);have q4:decide ((d:Int)=((c+32:Nat):Int))=false:=decide_eq_false (by simp[h1,h2]at hq;omega)
      go_wp2_with fail
      all_goals first|exact⟨⟨k+1,by omega,by first|rfl|simp,trivial,fun m hm=>if h:m=k then by subst h;exact hq' else hno m (by omega)⟩,by simp[ZOX];omega⟩|(exfalso;rename_i hx;revert hx;simp<;>omega)|(exfalso;revert q1;simp;done)|(exfalso;revert q4;simp only[hw]at*;simp_all<;>omega)|(exfalso;revert hq;simp<;>omega)
     ·have q2:decide ((c:Int)≥65)=true:=Zc (by omega);have q3:decide ((c:Int)≤70)=false:=decide_eq_false (by omega)
      go_wp2_with fail
      all_goals first|exact⟨⟨k+1,by omega,by first|rfl|simp,trivial,fun m hm=>if h:m=k then by subst h;exact hq' else hno m (by omega)⟩,by simp[ZOX];omega⟩|(exfalso;rename_i hx;revert hx;simp<;>omega)|(exfalso;revert q1;simp;done)|(exfalso;revert q4;simp only[hw]at*;simp_all<;>omega)|(exfalso;revert hq;simp<;>omega)
    ·have q2:decide ((c:Int)≥65)=false:=decide_eq_false (by omega)
     go_wp2_with fail
     all_goals first|exact⟨⟨k+1,by omega,by first|rfl|simp,trivial,fun m hm=>if h:m=k then by subst h;exact hq' else hno m (by omega)⟩,by simp[ZOX];omega⟩|(exfalso;rename_i hx;revert hx;simp<;>omega)|(exfalso;revert q1;simp;done)|(exfalso;revert q4;simp only[hw]at*;simp_all<;>omega)|(exfalso;revert hq;simp<;>omega)
  ·obtain rfl:k=16:=by omega
   have hnn:=ZbF c hc hno;clear hno hcell
   go_wp2_with fail
   exact bodyPost_ret (v:= .tuple #[.int .u8 0,.bool false]) (by simp[results,Tryz.results236,go_sem]) rfl ⟨by rw[hnn];rfl,(Below.refl _ w).alloc (Zl _) _⟩
theorem ZaI(n:Nat)(hn:n<256):ZD Tryz.prog 236 [.x (.int .u8 n)] (.tup [.x (.int .u8 (ZCh n).1),.x (.bool (ZCh n).2)]):=by
 intro w st vs hst hvl;obtain⟨hsz,hv⟩:=hvl;obtain⟨v0,rfl⟩: ∃v0,vs= #[v0]:=by
  obtain⟨vl⟩:=vs
  match vl,hsz with
  | [a],_=>exact⟨a,rfl⟩
 have h0:=hv 0 _ v0 rfl rfl;cases h0 with
 |x h0=>
 cases h0 with
 |int _ _=>
 refine(ZSq n w hn).mono ?_;rintro e w' ⟨rfl,hb⟩;exact⟨_,st,rfl,⟨hb.os,hb.tape,hb.output,hb.size,fun k hk _=>hb.block k hk⟩,fun _ _ h=>h,fun _ _ h=> .inl h,V.tup2 (.x (.int _ _)) _⟩
theorem ZOk:Go.Ab.Enters Tryz.prog 236:=enters_of Tryz.func236 (by kernel_rfl) rfl
def ZGw:List D→Option (Bool×D)
 | [.x (.int .u8 n)]=>some (decide (0≤n∧n<256),.tup [.x (.int .u8 (ZCh n.toNat).1),.x (.bool (ZCh n.toNat).2)])
 |_=>none
theorem ZVP: ∀args r,ZGw args=some (true,r)→ZD Tryz.prog 236 args r:=by
 intro args r h;unfold ZGw at h;split at h
 ·rename_i n;simp only[Ze,Za,ZS,Zi,true_and]at h;obtain⟨h1,rfl⟩:=h;exact(by obtain⟨m,rfl⟩: ∃m:Nat,n=m:=⟨n.toNat,by omega⟩;rw[ZJo];exact ZaI m (by omega))
 ·cases h
end Go.Proofs.YtiogclkbccdefaaGreatDoor
end
section
namespace Go.Proofs.YtiogclkbccdefaaGreatDoor
open Go.RowKit Go.Bo Go.Ab
def trL(s:Tx):Tx:=s.dropWhile (· ==32)
def trR(s:Tx):Tx:=(s.reverse.dropWhile (· ==32)).reverse
theorem ZaY(r:Tx):(r== [])=decide (r.length=0):=by rcases r with _|⟨c,r⟩<;>simp
theorem ZYR{c:UInt8}(h:(c.toNat:Int)=32):c=32:=by
 apply ZTk.1;show c.toNat=32;omega
theorem ZOs(c:UInt8)(s:Tx):trL (c::s)=if c=32 then trL s else c::s:=by
 unfold trL;rw[List.dropWhile_cons];simp
theorem ZRv(s:Tx):(trL s).length≤s.length:=List.Sublist.length_le (List.dropWhile_sublist _)
theorem ZRN(s:Tx):(trR s).length≤s.length:=by
 unfold trR;rw[List.length_reverse];exact ZJK (List.Sublist.length_le (List.dropWhile_sublist _)) (by simp)
theorem ZPS(s:Tx)(c:UInt8):trR (s++ [c])=if c=32 then trR s else s++ [c]:=by
 unfold trR;rw[List.reverse_append,ZQZ,ZP9,Qw,List.singleton_append,List.dropWhile_cons];split<;>simp_all
theorem ZdV(s:Tx)(h:0<s.length):s=s.getD 0 0::s.drop 1:=by
 rcases s with _|⟨c,s⟩
 ·simp at h
 ·rfl
theorem ZTJ(s:Tx)(h:0<s.length):s=s.take (s.length-1)++ [s.getD (s.length-1) 0]:=by
 obtain⟨b,c,rfl⟩: ∃b c,s=b++ [c]:=⟨s.dropLast,s.getLast (by intro e;subst e;simp at h),(List.dropLast_concat_getLast _).symm⟩;simp
theorem ZWu(s:Tx)(h:0<s.length)(hc:s.getD 0 0=32):trL s=trL (s.drop 1):=by
 conv=>lhs;rw[ZdV s h]
 rw[ZOs,if_pos hc]
theorem ZYJ(s:Tx)(h: ¬(0<s.length∧s.getD 0 0=32)):trL s=s:=by
 rcases s with _|⟨c,s⟩
 ·rfl
 ·rw[ZOs,if_neg (fun e:c=32=>h ⟨by simp,e⟩)]
theorem ZWZ(s:Tx)(h:0<s.length)(hc:s.getD (s.length-1) 0=32):trR s=trR (s.take (s.length-1)):=by
 conv=>lhs;rw[ZTJ s h]
 rw[ZPS,if_pos hc]
theorem ZXV(s:Tx)(h: ¬(0<s.length∧s.getD (s.length-1) 0=32)):trR s=s:=by
 by_cases h0:0<s.length
 ·conv=>lhs;rw[ZTJ s h0]
  rw[ZPS,if_neg (fun e=>h ⟨h0,e⟩)];exact(ZTJ s h0).symm
 ·rw[show s= []from List.length_eq_zero_iff.1 (by omega)];rfl
theorem ZXP(s:Tx)(hl:s.length≤1000000):ZD Tryz.prog 216 [.x (.str s),.x (.int .u8 32)] (.x (.str (trL s))):=by
 refine ZG.pure (fC 216 true ?_) rfl;intro C0 E0;have uu:=trivial;have tT:=(ZE:SsOk Tryz.prog ZQ);refine nz ?_;refine rg tT [0,1] ?_;refine WI.loop (fun φ os=> ∃(r:Tx),φ= [(0,.x (.str r)),(1,.x (.int .u8 32))]∧os= []∧r.length≤s.length∧trL s=trL r) ((fun φ _=>match get φ 0 with| .x (.str r)=>r.length|_=>0)) ?_ (fun φ os hI=> ?_)
 ·exact⟨s,rfl,rfl,by omega,rfl⟩
 ·obtain⟨r,rfl,rfl,hr,he⟩:=hI;refine nz ?_;refine rg tT [0,1,13] ?_;refine cd (fun h0=> ?_) (fun h0=> ?_)
  ·have h0p:0<r.length:=by omega
   have h0c:r.getD 0 0=32:=ZYR (by omega);refine rg tT [0,1] ?_;exact⟨⟨r.drop 1,rfl,rfl,by simp;omega,by rw[he,ZWu r h0p h0c]⟩,by show(r.drop 1).length<r.length;rw[KU];omega⟩
  ·have h0n: ¬(0<r.length∧r.getD 0 0=32):=fun hh=>by
    have h2:((r.getD 0 0).toNat:Int)=32:=by rw[hh.2];rfl
    have h1:=hh.1;omega
   refine rg tT [4] ?_;refine lf ?_;rw[he,ZYJ r h0n]
def ZC5:List D→Option (Bool×D)
 | [.x (.str s),.x (.int .u8 32)]=>some (decide (s.length≤1000000),.x (.str (trL s)))
 |_=>none
theorem ZS8: ∀args r,ZC5 args=some (true,r)→ZD Tryz.prog 216 args r:=by
 intro args r h;unfold ZC5 at h;split at h
 ·rename_i s;simp only[Ze,Za,ZS,Zi,true_and]at h;obtain⟨h1,rfl⟩:=h;exact(ZXP s h1)
 ·cases h
theorem ZWY(s:Tx)(hl:s.length≤1000000):ZD Tryz.prog 217 [.x (.str s),.x (.int .u8 32)] (.x (.str (trR s))):=by
 refine ZG.pure (fC 217 true ?_) rfl;intro C0 E0;have uu:=trivial;have tT:=(ZE:SsOk Tryz.prog ZQ);refine nz ?_;refine rg tT [0,1] ?_;refine WI.loop (fun φ os=> ∃(r:Tx),φ= [(0,.x (.str r)),(1,.x (.int .u8 32))]∧os= []∧r.length≤s.length∧trR s=trR r) ((fun φ _=>match get φ 0 with| .x (.str r)=>r.length|_=>0)) ?_ (fun φ os hI=> ?_)
 ·exact⟨s,rfl,rfl,by omega,rfl⟩
 ·obtain⟨r,rfl,rfl,hr,he⟩:=hI;have e1:((r.length:Int)-1).toNat=r.length-1:=by omega
  have uu:=Yq uu e1;refine nz ?_;refine rg tT [0,1,16] ?_;refine cd (fun h0=> ?_) (fun h0=> ?_)
  ·have h0p:0<r.length:=by omega
   have h0c:r.getD (r.length-1) 0=32:=ZYR (by omega);refine rg tT [0,1] ?_;exact⟨⟨r.take (r.length-1),rfl,rfl,by simp;omega,by rw[he,ZWZ r h0p h0c]⟩,by show(r.take (r.length-1)).length<r.length;rw[JA];omega⟩
  ·have h0n: ¬(0<r.length∧r.getD (r.length-1) 0=32):=fun hh=>by
    have h2:((r.getD (r.length-1) 0).toNat:Int)=32:=by rw[hh.2];rfl
    have h1:=hh.1;omega
   refine rg tT [4] ?_;refine lf ?_;rw[he,ZXV r h0n]
def ZC3:List D→Option (Bool×D)
 | [.x (.str s),.x (.int .u8 32)]=>some (decide (s.length≤1000000),.x (.str (trR s)))
 |_=>none
theorem ZSb: ∀args r,ZC3 args=some (true,r)→ZD Tryz.prog 217 args r:=by
 intro args r h;unfold ZC3 at h;split at h
 ·rename_i s;simp only[Ze,Za,ZS,Zi,true_and]at h;obtain⟨h1,rfl⟩:=h;exact(ZWY s h1)
 ·cases h
def ZJg:Tabs:=ZW (ZW (ZQ) 216 ZC5) 217 ZC3
theorem ZOF:SsOk Tryz.prog ZJg:=ZJ (ZJ (ZE) (ZZ 216) ZS8) (ZZ 217) ZSb
theorem ZO5:(∀a,ZJg.q 216 a=ZC5 a)∧(∀a,ZJg.q 217 a=ZC3 a)∧(∀f a o,ZJg.r f a o=none)∧(∀f a o,ZJg.k f a o=none):=⟨fun _=>rfl,fun _=>rfl,fun _ _ _=>rfl,fun _ _ _=>rfl⟩
theorem ZSg(s:Tx)(hl:s.length≤1000000):ZD Tryz.prog 223 [.x (.str s),.x (.str [32])] (.x (.str (trL s))):=by
 refine ZG.pure (fC 223 true ?_) rfl;intro C0 E0;have uu:=ξ5 @ZC5.eq_1 @ZC5.eq_2 @ZC3.eq_1 @ZC3.eq_2 @ZO5;have tT:=ZOF;refine nz ?_;refine rg tT [0,1] ?_;refine rg tT [0,1,12] ?_;refine cd (fun h0=> ?_) (fun h0=> ?_)
 ·refine rg tT [4] ?_;refine lf ?_;rw[show s= [] by simpa using h0];rfl
 ·refine rg tT [0,1,21] ?_;refine ct (fun h1=> ?_) (fun h1=> ?_)
  ·refine rg tT [4] ?_;refine lf ?_
   first|rfl|exact⟨rfl,rfl⟩|trivial
  ·simp at h1
def ZCu:List D→Option (Bool×D)
 | [.x (.str s),.x (.str [32])]=>some (decide (s.length≤1000000),.x (.str (trL s)))
 |_=>none
theorem ZPy: ∀args r,ZCu args=some (true,r)→ZD Tryz.prog 223 args r:=by
 intro args r h;unfold ZCu at h;split at h
 ·rename_i s;simp only[Ze,Za,ZS,Zi,true_and]at h;obtain⟨h1,rfl⟩:=h;exact(ZSg s h1)
 ·cases h
def ZOu(s:Tx):Tx:=trL (trR s)
theorem Zbo(s:Tx)(hl:s.length≤1000000):ZD Tryz.prog 204 [.x (.str s),.x (.str [32])] (.x (.str (ZOu s))):=by
 have hrl:=ZRN s;refine ZG.pure (fC 204 true ?_) rfl;intro C0 E0;have uu:=ξ5 @ZC5.eq_1 @ZC5.eq_2 @ZC3.eq_1 @ZC3.eq_2 @ZO5;have tT:=ZOF;refine nz ?_;refine rg tT [0,1] ?_;refine rg tT [0,1,12] ?_;refine cd (fun h0=> ?_) (fun h0=> ?_)
 ·refine rg tT [4] ?_;refine lf ?_;rw[show s= [] by simpa using h0];rfl
 ·refine rg tT [0,1,21] ?_;refine ct (fun h1=> ?_) (fun h1=> ?_)
  ·refine WI.dregB tT [4] ?_
   iterate 2 refine Yd ?_
   refine dFG ?_;refine dAC ?_;refine Yd ?_;refine dFG ?_;refine dAC ?_;refine Yd ?_;refine dN ?_;refine nz ?_;refine lf ?_
   first|rfl|exact⟨rfl,rfl⟩|trivial
  ·simp at h1
def ZKJ:List D→Option (Bool×D)
 | [.x (.str s),.x (.str [32])]=>some (decide (s.length≤1000000),.x (.str (ZOu s)))
 |_=>none
theorem ZYQ: ∀args r,ZKJ args=some (true,r)→ZD Tryz.prog 204 args r:=by
 intro args r h;unfold ZKJ at h;split at h
 ·rename_i s;simp only[Ze,Za,ZS,Zi,true_and]at h;obtain⟨h1,rfl⟩:=h;exact(Zbo s h1)
 ·cases h
end Go.Proofs.YtiogclkbccdefaaGreatDoor
end
section
namespace Go.Proofs.YtiogclkbccdefaaGreatDoor
open Go.RowKit Go.Bo Go.Ab
theorem ZeS: ∀(a b:Fin 16),IntKind.u8.wrap ((BitVec.ofInt IntKind.u8.bits (IntKind.u8.wrap ((a.val:Int)*2^min 4 IntKind.u8.bits))|||BitVec.ofInt IntKind.u8.bits (b.val:Int)).toNat:Int)=((UInt8.ofNat (16*a.val+b.val)).toNat:Int):=by decide+kernel
def orB(h l:Nat):UInt8:=UInt8.ofNat (16*h+l)
theorem ZeX(h l:Nat)(h1:h<16)(h2:l<16):IntKind.u8.wrap ((BitVec.ofInt IntKind.u8.bits (IntKind.u8.wrap ((h:Int)*2^min 4 IntKind.u8.bits))|||BitVec.ofInt IntKind.u8.bits (l:Int)).toNat:Int)=((orB h l).toNat:Int):=ZeS ⟨_,h1⟩ ⟨_,h2⟩
theorem ZSC(n:Nat):(ZCh n).1<16:=by unfold ZCh;split<;>simp_all
def ZcV(a:UInt8):Bool:=spc a.toNat||decide (a.toNat=32)||decide (a.toNat=35)
def QW(s:Tx):UInt8×Nat×Bool:=
 if s= []then(0,0,false)
 else if ZcV (s.getD 0 0)=true then(s.getD 0 0,1,true)
 else if(ZCh (s.getD 0 0).toNat).2=false∨s.length<2 then(0,0,false)
 else(orB (ZCh (s.getD 0 0).toNat).1 (ZCh (s.getD 1 0).toNat).1,2,(ZCh (s.getD 1 0).toNat).2)
def ZJj:Tabs:=ZW (ZW (ZQ) 200 ZBG) 236 ZGw
theorem ZUE:SsOk Tryz.prog ZJj:=ZJ (ZJ (ZE) (ZZ 200) ZKa) ZOk ZVP
theorem ZWr:(∀a,ZJj.q 200 a=ZBG a)∧(∀a,ZJj.q 236 a=ZGw a)∧(∀f a o,ZJj.r f a o=none)∧(∀f a o,ZJj.k f a o=none):=⟨fun _=>rfl,fun _=>rfl,fun _ _ _=>rfl,fun _ _ _=>rfl⟩
theorem Zc1(s:Tx)(hl:s.length≤1000000):ZD Tryz.prog 224 [.x (.str s)] (.tup [.x (.int .u8 (QW s).1.toNat),.x (.int .i64 (QW s).2.1),.x (.bool (QW s).2.2)]):=by
 have hq: ∀n,inB [44,43,34,92,60,62,59,61] n=spc n:=fun n=>rfl
 have hem:=ZaY s;have hb0:(s.getD 0 0).toNat<256:=ZMm _;have hb1:(s.getD 1 0).toNat<256:=ZMm _;have hor:=ZeX _ _ (ZSC (s.getD 0 0).toNat) (ZSC (s.getD 1 0).toNat);rcases he:QW s with⟨x,n,b⟩
 unfold QW at he;have hfr:ZcV (s.getD 0 0)=(spc (s.getD 0 0).toNat||decide ((s.getD 0 0).toNat=32)||decide ((s.getD 0 0).toNat=35)):=rfl;refine ZG.pure (fC 224 true ?_) rfl;intro C0 E0;have uu:=ξ7 @ZBG.eq_1 @ZBG.eq_2 @ZGw.eq_1 @ZGw.eq_2 hq hor @ZWr;have tT:=ZUE;refine nz ?_;refine WI.regB tT [0] ?_
 iterate 3 refine oS ?_
 refine oN ?_;refine nz ?_;refine WI.regB tT [0,9] ?_;refine oS ?_;refine oG (hok:=by first|exact se|(clear uu;grind)|exact sd) ?_;refine oN ?_;refine nz ?_;refine cd (fun h0=> ?_) (fun h0=> ?_)
 ·refine WI.regB tT [2,3,4] ?_
  iterate 3 refine oS ?_
  refine oN ?_;refine nz ?_;refine lf ?_;rw[if_pos (by simpa using h0)]at he;cases he;rfl
 ·have hne:s≠ []:=by simpa using h0
  rw[if_neg hne]at he;have hl1:0<s.length:=ZMh.2 hne;refine WI.regB tT [0,22] ?_;refine oS ?_;refine oG (hok:=by first|exact se|(clear uu;grind)|exact sd) ?_;refine oC (hok:=by first|exact se|(clear uu;grind)|exact sd) ?_;refine oS ?_
  iterate 4 refine oG (hok:=by first|exact se|(clear uu;grind)|exact sd) ?_
  refine oS ?_
  iterate 4 refine oG (hok:=by first|exact se|(clear uu;grind)|exact sd) ?_
  refine oN ?_;refine nz ?_;refine cd (fun h1=> ?_) (fun h1=> ?_)
  ·refine WI.regB tT [2,3,4] ?_;refine oS ?_;refine oG (hok:=by first|exact se|(clear uu;grind)|exact sd) ?_
   iterate 3 refine oS ?_
   refine oN ?_;refine nz ?_;refine lf ?_;rw[if_pos (by rw[hfr];clear uu;grind)]at he;cases he;rfl
  ·rw[if_neg (by rw[hfr];clear uu;grind)]at he;refine WI.regB tT [0,5,6] ?_;refine oS ?_;refine oG (hok:=by first|exact se|(clear uu;grind)|exact sd) ?_;refine oC (hok:=by first|exact se|(clear uu;grind)|exact sd) ?_;refine oS ?_
   iterate 2 refine oG ?_
   iterate 2 refine oS ?_
   refine oN ?_;refine nz ?_;refine WI.regB tT [0,5,37] ?_;refine oS ?_;refine oG (hok:=by first|exact se|(clear uu;grind)|exact sd) ?_;refine oS ?_
   iterate 4 refine oG (hok:=by first|exact se|(clear uu;grind)|exact sd) ?_
   refine oN ?_;refine nz ?_;refine cd (fun h2=> ?_) (fun h2=> ?_)
   ·refine WI.regB tT [2,3,4] ?_
    iterate 3 refine oS ?_
    refine oN ?_;refine nz ?_;refine lf ?_;rw[if_pos (by clear uu;grind)]at he;cases he;rfl
   ·rw[if_neg (by clear uu;grind)]at he;have hl2:2≤s.length:=by clear uu;grind
    refine WI.regB tT [5,6,7] ?_;refine oS ?_;refine oG (hok:=by first|exact se|(clear uu;grind)|exact sd) ?_;refine oC (hok:=by first|exact se|(clear uu;grind)|exact sd) ?_;refine oS ?_
    iterate 2 refine oG ?_
    iterate 2 refine oS ?_
    refine oN ?_;refine nz ?_;refine WI.regB tT [2,3,4] ?_;refine oS ?_;refine oG (hok:=by first|exact se|(clear uu;grind)|exact sd) ?_;refine oS ?_;refine oG (hok:=by first|exact se|(clear uu;grind)|exact sd) ?_
    iterate 4 refine oS ?_
    refine oN ?_;refine nz ?_;refine lf ?_;cases he;rfl
def ZJ7:List D→Option (Bool×D)
 | [.x (.str s)]=>some (decide (s.length≤1000000),.tup [.x (.int .u8 (QW s).1.toNat),.x (.int .i64 (QW s).2.1),.x (.bool (QW s).2.2)])
 |_=>none
theorem ZYa: ∀args r,ZJ7 args=some (true,r)→ZD Tryz.prog 224 args r:=by
 intro args r h;unfold ZJ7 at h;split at h
 ·rename_i s;simp only[Ze,Za,ZS,Zi,true_and]at h;obtain⟨h1,rfl⟩:=h;exact(Zc1 s h1)
 ·cases h
end Go.Proofs.YtiogclkbccdefaaGreatDoor
end
section
namespace Go.Proofs.YtiogclkbccdefaaGreatDoor
open Go.RowKit Go.Bo Go.Ab
def vlp:Nat→Tx→Tx→Nat→Option (Tx×Nat)
 |0,_,_,_=>none
 |_+1,[],b,e=>some (b,e)
 |n+1,c::r,b,e=>
  if c=92 then(if(QW r).2.2=true then vlp n (r.drop (QW r).2.1) (b++ [(QW r).1]) (b.length+1)else none)
  else if ZTZ c.toNat (decide (b.length=0))=true then none
  else if c=32 then vlp n r (b++ [c]) e else vlp n r (b++ [c]) (b.length+1)
theorem ZcF(s:Tx):(QW s).2.1≤s.length:=by
 unfold QW;split
 ·simp
 ·rename_i h;have:0<s.length:=ZMh.2 h;split
  ·simp;omega
  ·split
   ·simp
   ·rename_i h2;simp only[not_or]at h2;simp;omega
def ZJi(s:Tx):Tx×Bool:=match vlp (s.length+1) (trL s) [] 0 with
 |none=>([],false)
 |some (b,e)=>(b.take e,decide (e>0))
theorem Zc4{c:UInt8}(h:(c.toNat:Int)=92):c=92:=by
 apply ZTk.1;show c.toNat=92;omega
def ZHP:Tabs:=ZW (ZW (ZW (ZQ) 223 ZCu) 224 ZJ7) 225 ZFB
theorem ZTy:SsOk Tryz.prog ZHP:=ZJ (ZJ (ZJ (ZE) (ZZ 223) ZPy) (ZZ 224) ZYa) (ZZ 225) ZTH
theorem ZFx:(∀a,ZHP.q 223 a=ZCu a)∧(∀a,ZHP.q 224 a=ZJ7 a)∧(∀a,ZHP.q 225 a=ZFB a)∧(∀f a o,ZHP.r f a o=none)∧(∀f a o,ZHP.k f a o=none):=⟨fun _=>rfl,fun _=>rfl,fun _=>rfl,fun _ _ _=>rfl,fun _ _ _=>rfl⟩
set_option maxHeartbeats 1000000 in
theorem Zb6(s:Tx)(hl:s.length≤900000):ZD Tryz.prog 206 [.x (.str s)] (.tup [.x (.str (ZJi s).1),.x (.bool (ZJi s).2)]):=by
 have htl:=ZRv s;rcases hq:ZJi s with⟨v,ok⟩
 unfold ZJi at hq;refine ZG.pure (fC 206 true ?_) rfl;intro C0 E0;have uu:=ξn @ZCu.eq_1 (ξn @ZCu.eq_2 (ξn @ZJ7.eq_1 (ξn @ZJ7.eq_2 (ξn @ZFB.eq_1 (ξn @ZFB.eq_2 (ξn @Qa (ξn @Ky (ξn @ZMi.{0} (ξn ZFx.2.2.2.1 (ξn ZFx.2.2.2.2 (ξn ZFx.1 (ξn ZFx.2.1 (ZFx.2.2.1)))))))))))));have tT:=ZTy;refine nz ?_;refine rg tT [0] ?_;refine WI.scope 0 rfl (fun φ os=>False) (fun φ _=>0) ?_ (fun φ os hI=> ?_)
 ·refine nz ?_;refine rg tT [0] ?_;refine rg tT [0,4] ?_;refine rg tT [0,4,5] ?_;refine WI.label ?_;refine nz ?_;refine WI.ownA 4 5 1 ?_;refine WI.loop (fun φ os=> ∃(r b:Tx) (e n:Nat),φ= [(0,.x (.str r)),(4,.ref 0 b.length 0 b.length),(5,.x (.int .i64 e))]∧os= [.rows false 5 1 (b.map Zk)]∧r.length<n∧b.length+r.length≤s.length∧e≤b.length∧vlp (s.length+1) (trL s) [] 0=vlp n r b e) ((fun φ _=>match get φ 0 with| .x (.str r)=>r.length|_=>0)) ?_ (fun φ os hI=> ?_)
  ·exact⟨trL s,[],0,s.length+1,rfl,rfl,by omega,by simp;omega,by simp,rfl⟩
  ·obtain⟨r,b,e,n,rfl,rfl,hn,hb,he,hv⟩:=hI;obtain⟨n,rfl⟩: ∃m,n=m+1:=⟨n-1,by omega⟩;refine nz ?_;refine rg tT [0,4,5,13] ?_;refine cd (fun h0=> ?_) (fun h0=> ?_)
   ·rcases r with _|⟨c,r⟩
    ·simp at h0
    have hn':r.length+1<n+1:=hn;have hb':b.length+(r.length+1)≤s.length:=hb;have hen:=ZcF r;have hb8:c.toNat<256:=ZMm _;have hsc:decide (r.length≤1000000)=true:=Zc (by omega);have uu:=Yq uu hsc;refine rg tT [0,4,5,6] ?_;refine rg tT [0,4,5,6] ?_;refine rg tT [0,4,5,6,24] ?_;refine cd (fun h1=> ?_) (fun h1=> ?_)
    ·have hc:c=92:=Zc4 (by first|exact h1|simpa using h1);refine rg tT [0,4,7,8,9] ?_;refine rg tT [0,4,7,8,34] ?_;refine cd (fun h2=> ?_) (fun h2=> ?_)
     ·refine rg tT [2,3] ?_;refine lf ?_;rw[hv,vlp,if_pos hc,if_neg (by simpa using h2)]at hq;cases hq;rfl
     ·have hst:vlp (n+1) (c::r) b e=vlp n (r.drop (QW r).2.1) (b++ [(QW r).1]) (b.length+1):=by rw[vlp,if_pos hc,if_pos (by simpa using h2)]
      refine WI.post ?_;refine WI.dregB tT [0,4] ?_
      iterate 2 refine Yd ?_
      iterate 2 refine dAG ?_
      iterate 2 refine Yd ?_
      refine dFG ?_
      iterate 2 refine Yd ?_
      refine dP ?_;refine Qm [0] ?_;refine ZAL ?_;refine nz ?_;refine rg tT [0,4,5] ?_
      first|exact⟨⟨r.drop (QW r).2.1,b++ [(QW r).1],b.length+1,n,by rw[Zx];first|done|rfl,by rw[QU];first|done|rfl,by rw[KU];omega,by rw[Zx,KU];simp;omega,by simp,by rw[hv,hst]⟩,by show(r.drop (QW r).2.1).length<r.length+1;rw[KU];omega⟩|exact⟨⟨r,b++ [c],e,n,by rw[Zx];first|done|rfl,by rw[QU];first|done|rfl,by omega,by rw[Zx];simp;omega,by simp;omega,by rw[hv,hst]⟩,by show r.length<r.length+1;omega⟩|exact⟨⟨r,b++ [c],b.length+1,n,by rw[Zx];first|done|rfl,by rw[QU];first|done|rfl,by omega,by rw[Zx];simp;omega,by simp,by rw[hv,hst]⟩,by show r.length<r.length+1;omega⟩
    ·have hc:c≠92:=by rintro rfl;exact absurd h1 (by decide)
     have hz:((b.length:Int)==0)=decide (b.length=0):=by rw[ZBc];simp<;>omega
     have uu:=Yq uu hz;refine rg tT [0,4,5,6,42] ?_;refine cd (fun h3=> ?_) (fun h3=> ?_)
     ·refine rg tT [2,3] ?_;refine lf ?_;rw[hv,vlp,if_neg hc,if_pos (by simpa using h3)]at hq;cases hq;rfl
     ·refine rgp tT [0,4,5,6] ?_;refine Qm [0] ?_;refine ZAL ?_;refine nz ?_;refine rg tT [0,4,5,23] ?_;refine cd (fun h4=> ?_) (fun h4=> ?_) (kA:=fun h=>h.h)
      ·refine WI.orderA [0,4,5] ?_;have hst:vlp (n+1) (c::r) b e=vlp n r (b++ [c]) e:=by rw[vlp,if_neg hc,if_neg (by simpa using h3),if_pos (ZYR (by first|exact h4|simpa using h4))]
       refine nz ?_
       first|exact⟨⟨r.drop (QW r).2.1,b++ [(QW r).1],b.length+1,n,by rw[Zx];first|done|rfl,by rw[QU];first|done|rfl,by rw[KU];omega,by rw[Zx,KU];simp;omega,by simp,by rw[hv,hst]⟩,by show(r.drop (QW r).2.1).length<r.length+1;rw[KU];omega⟩|exact⟨⟨r,b++ [c],e,n,by rw[Zx];first|done|rfl,by rw[QU];first|done|rfl,by omega,by rw[Zx];simp;omega,by simp;omega,by rw[hv,hst]⟩,by show r.length<r.length+1;omega⟩|exact⟨⟨r,b++ [c],b.length+1,n,by rw[Zx];first|done|rfl,by rw[QU];first|done|rfl,by omega,by rw[Zx];simp;omega,by simp,by rw[hv,hst]⟩,by show r.length<r.length+1;omega⟩
      ·have hst:vlp (n+1) (c::r) b e=vlp n r (b++ [c]) (b.length+1):=by rw[vlp,if_neg hc,if_neg (by simpa using h3),if_neg (by rintro rfl;exact absurd h4 (by decide))]
       refine rg tT [0,4,5] ?_
       first|exact⟨⟨r.drop (QW r).2.1,b++ [(QW r).1],b.length+1,n,by rw[Zx];first|done|rfl,by rw[QU];first|done|rfl,by rw[KU];omega,by rw[Zx,KU];simp;omega,by simp,by rw[hv,hst]⟩,by show(r.drop (QW r).2.1).length<r.length+1;rw[KU];omega⟩|exact⟨⟨r,b++ [c],e,n,by rw[Zx];first|done|rfl,by rw[QU];first|done|rfl,by omega,by rw[Zx];simp;omega,by simp;omega,by rw[hv,hst]⟩,by show r.length<r.length+1;omega⟩|exact⟨⟨r,b++ [c],b.length+1,n,by rw[Zx];first|done|rfl,by rw[QU];first|done|rfl,by omega,by rw[Zx];simp;omega,by simp,by rw[hv,hst]⟩,by show r.length<r.length+1;omega⟩
   ·obtain rfl:r= []:=by simpa using h0
    have hv2:vlp (s.length+1) (trL s) [] 0=some (b,e):=by rw[hv];rfl
    rw[hv2]at hq;have e1:(List.map Zk b).take e=(b.take e).map Zk:=by rw[List.map_take]
    have uu:=Yq uu e1;refine rg tT [2,3] ?_;refine lf ?_;cases hq;rw[show decide ((e:Int)>0)=decide (e>0) by rw[ZBc];simp]
 ·exact hI.elim
def ZKB:List D→Option (Bool×D)
 | [.x (.str s)]=>some (decide (s.length≤900000),.tup [.x (.str (ZJi s).1),.x (.bool (ZJi s).2)])
 |_=>none
theorem ZYm: ∀args r,ZKB args=some (true,r)→ZD Tryz.prog 206 args r:=by
 intro args r h;unfold ZKB at h;split at h
 ·rename_i s;simp only[Ze,Za,ZS,Zi,true_and]at h;obtain⟨h1,rfl⟩:=h;exact(Zb6 s h1)
 ·cases h
theorem ZGI(s:Tx)(j:Nat)(h:j<s.length):s.drop j=s.getD j 0::s.drop (j+1):=by
 rw[ZFd h];simp[h]
theorem neD{c:UInt8}{k:Nat}(hk:k<256)(h: ¬(c.toNat:Int)=k):c≠UInt8.ofNat k:=fun e=>h (by rw[e];simp;omega)
end Go.Proofs.YtiogclkbccdefaaGreatDoor
end
section
namespace Go.Proofs.YtiogclkbccdefaaGreatDoor
open Go.RowKit Go.Bo Go.Ab
def pre(p:Tx):List Tx→List Tx
 | []=> [p]
 |x::l=>(p++x)::l
def Yr(a:UInt8):Tx→List Tx
 | []=> [[]]
 |c::r=>if c=92 then(match r with
   | []=> [[c]]
   |d::r'=>pre [c,d] (Yr a r'))else if c=a then []::Yr a r else pre [c] (Yr a r)
theorem ZVA(p:Tx)(l:List Tx):pre p l≠ []:=by cases l<;>simp[pre]
theorem ZLb(a:UInt8)(s:Tx):Yr a s≠ []:=by
 unfold Yr;split
 ·simp
 ·split
  ·split
   ·simp
   ·exact ZVA _ _
  ·split
   ·simp
   ·exact ZVA _ _
theorem ZRP(p q:Tx)(l:List Tx)(h:l≠ []):pre p (pre q l)=pre (p++q) l:=by
 rcases l with _|⟨x,l⟩
 ·exact absurd rfl h
 ·simp[pre]
theorem ZRS(l:List Tx)(h:l≠ []):pre [] l=l:=by
 rcases l with _|⟨x,l⟩
 ·exact absurd rfl h
 ·simp[pre]
theorem ZVO(a:UInt8)(s:Tx)(j:Nat)(h:j<s.length)(hc:s.getD j 0=92):Yr a (s.drop j)=pre ((s.drop j).take 2) (Yr a (s.drop (j+2))):=by
 rw[ZGI s j h,hc];rcases hr:s.drop (j+1)with _|⟨d,r⟩
 ·have:s.drop (j+2)= []:=by rw[←ZSV,show s.drop j=s.drop (j+0)from rfl];have:=congrArg (List.drop 1) hr;rw[ZSV]at this;simpa using this
  rw[this];rfl
 ·have:s.drop (j+2)=r:=by have:=congrArg (List.drop 1) hr;rw[ZSV]at this;simpa using this
  rw[this]
  conv=>lhs;unfold Yr
  rw[if_pos rfl];rfl
theorem ZZt(a:UInt8)(ha:a≠92)(s:Tx)(j:Nat)(h:j<s.length)(hc:s.getD j 0=a):Yr a (s.drop j)= []::Yr a (s.drop (j+1)):=by
 rw[ZGI s j h,hc]
 conv=>lhs;unfold Yr
 rw[if_neg ha,if_pos rfl]
theorem ZUX(a:UInt8)(s:Tx)(j:Nat)(h:j<s.length)(h1:s.getD j 0≠92)(h2:s.getD j 0≠a):Yr a (s.drop j)=pre [s.getD j 0] (Yr a (s.drop (j+1))):=by
 rw[ZGI s j h]
 conv=>lhs;unfold Yr
 rw[if_neg h1,if_neg h2]
theorem ZLQ(s:Tx)(f j k:Nat)(h:f≤j)(hj:j≤s.length):(s.take (j+k)).drop f=(s.take j).drop f++(s.drop j).take k:=by
 rw[List.take_add,List.drop_append_of_le_length (by simp;omega)]
theorem ZcE(s:Tx)(j:Nat)(h:j<s.length):(s.drop j).take 1= [s.getD j 0]:=by rw[ZGI s j h];rfl
structure SpI (a:UInt8) (s:Tx) (f j:Nat) (ps:List Tx):Prop where
 fj:f≤j
 jl:j≤s.length+1
 fl:f≤s.length
 pl:ps.length≤f
 eq:Yr a s=ps++pre ((s.take j).drop f) (Yr a (s.drop j))
theorem SpI.start(a:UInt8)(s:Tx):SpI a s 0 0 []:=⟨Zl _,by omega,by omega,by simp,by show Yr a s=pre [] (Yr a s);rw[ZRS _ (ZLb a s)]⟩
theorem SpI.slash{a:UInt8}{s:Tx}{f j:Nat}{ps:List Tx}(I:SpI a s f j ps)(h:j<s.length)(hc:s.getD j 0=92):SpI a s f (j+2) ps:=
 ⟨by have:=I.fj;omega,by omega,I.fl,I.pl,by rw[I.eq,ZVO a s j h hc,ZRP _ _ _ (ZLb _ _),ZLQ s f j 2 I.fj (by omega)]⟩
theorem SpI.hit{a:UInt8}(ha:a≠92){s:Tx}{f j:Nat}{ps:List Tx}(I:SpI a s f j ps)(h:j<s.length)(hc:s.getD j 0=a):SpI a s (j+1) (j+1) (ps++ [(s.take j).drop f]):=
 ⟨Zl _,by omega,by omega,by have:=I.pl;have:=I.fj;simp;omega,by
  rw[I.eq,ZZt a ha s j h hc,ZFa (l:=s.take (j+1)) (by simp;omega),ZRS _ (ZLb _ _)];simp[pre]⟩
theorem SpI.plain{a:UInt8}{s:Tx}{f j:Nat}{ps:List Tx}(I:SpI a s f j ps)(h:j<s.length)(h1:s.getD j 0≠92)(h2:s.getD j 0≠a):SpI a s f (j+1) ps:=
 ⟨by have:=I.fj;omega,by omega,I.fl,I.pl,by rw[I.eq,ZUX a s j h h1 h2,ZRP _ _ _ (ZLb _ _),ZLQ s f j 1 I.fj (by omega),ZcE s j h]⟩
theorem SpI.fin{a:UInt8}{s:Tx}{f j:Nat}{ps:List Tx}(I:SpI a s f j ps)(h:s.length≤j):Yr a s=ps++ [s.drop f]:=by
 rw[I.eq,ZFa h,JH h];simp[Yr,pre]
theorem ZEu(l:List Tx)(x:Tx):rows ZB l++ [[X.str x]]=rows ZB (l++ [x]):=by simp[rows,ZB]
theorem cD{c a:UInt8}(h:(c.toNat:Int)=a.toNat):c=a:=ZTk.1 (by omega)
theorem nD{c a:UInt8}(h: ¬(c.toNat:Int)=a.toNat):c≠a:=fun e=>h (by rw[e])
theorem ZQi(a:UInt8)(ha:a≠92)(s:Tx)(hl:s.length≤1000000):ZD Tryz.prog 159 [.x (.str s),.x (.int .u8 a.toNat)] (.x (.sl (rows ZB (Yr a s)))):=by
 refine ZG.pure (fC 159 true ?_) rfl;intro C0 E0;have uu:=trivial;have tT:=(ZE:SsOk Tryz.prog ZQ);refine nz ?_;refine rg tT [0,1] ?_;refine rg tT [0,1,5] ?_;refine rg tT [0,1,5,6] ?_;refine rg tT [0,1,5,6,7] ?_;refine WI.ownA 5 9 1 ?_;refine WI.loop (fun φ os=> ∃(f j:Nat) (ps:List Tx),φ= [(0,.x (.str s)),(1,.x (.int .u8 a.toNat)),(5,.ref 0 ps.length 0 ps.length),(6,.x (.int .i64 f)),(7,.x (.int .i64 j))]∧os= [.rows false 9 1 (rows ZB ps)]∧SpI a s f j ps) (ZX (s.length+1) 7) ?_ (fun φ os hI=> ?_)
 ·exact⟨0,0,[],rfl,rfl,SpI.start a s⟩
 ·obtain⟨f,j,ps,rfl,rfl,I⟩:=hI;have i1:=I.fj;have i2:=I.jl;have i3:=I.fl;have i4:=I.pl;refine nz ?_;refine rg tT [0,1,5,6,7,11] ?_;refine cd (fun h0=> ?_) (fun h0=> ?_)
  ·have hj4:j<s.length:=by omega
   refine rg tT [0,1,5,6,7,16] ?_;refine rg tT [0,1,5,6,7,16,17] ?_;refine cd (fun h1=> ?_) (fun h1=> ?_)
   ·have hc:s.getD j 0=92:=Zc4 (by first|exact h1|simpa using h1);refine rg tT [0,1,5,6,7] ?_;refine WI.orderA [0,1,5,6,7] ?_;refine rg tT [0,1,5,6,7] ?_
    first|exact⟨⟨f,j+2,ps,rfl,rfl,I.slash hj4 hc⟩,by simp[ZX,Ab.get,D.val,ZH];omega⟩|exact⟨⟨j+1,j+1,ps++ [(s.take j).drop f],by rw[Zx];first|done|rfl,by rw[←ZEu];first|done|rfl,I.hit ha hj4 hc⟩,by simp[ZX,Ab.get,D.val,ZH];omega⟩|exact⟨⟨f,j+1,ps,rfl,rfl,I.plain hj4 hc1 hc2⟩,by simp[ZX,Ab.get,D.val,ZH];omega⟩
   ·have hc1:s.getD j 0≠92:=neD (k:=92) (by decide) (by first|exact h1|simpa using h1);refine rg tT [0,1,5,6,7,21] ?_;refine cd (fun h2=> ?_) (fun h2=> ?_)
    ·have hc:s.getD j 0=a:=cD (by first|exact h2|simpa using h2);refine rgp tT [0,1,5,7] ?_;refine Qm [0] ?_;refine ZAL ?_;refine nz ?_;refine rg tT [0,1,5,6,7] ?_;refine WI.orderA [0,1,5,6,7] ?_;refine rg tT [0,1,5,6,7] ?_
     first|exact⟨⟨f,j+2,ps,rfl,rfl,I.slash hj4 hc⟩,by simp[ZX,Ab.get,D.val,ZH];omega⟩|exact⟨⟨j+1,j+1,ps++ [(s.take j).drop f],by rw[Zx];first|done|rfl,by rw[←ZEu];first|done|rfl,I.hit ha hj4 hc⟩,by simp[ZX,Ab.get,D.val,ZH];omega⟩|exact⟨⟨f,j+1,ps,rfl,rfl,I.plain hj4 hc1 hc2⟩,by simp[ZX,Ab.get,D.val,ZH];omega⟩
    ·have hc2:s.getD j 0≠a:=nD (by first|exact h2|simpa using h2);refine WI.orderA [0,1,5,6,7] ?_;refine rg tT [0,1,5,6,7] ?_
     first|exact⟨⟨f,j+2,ps,rfl,rfl,I.slash hj4 hc⟩,by simp[ZX,Ab.get,D.val,ZH];omega⟩|exact⟨⟨j+1,j+1,ps++ [(s.take j).drop f],by rw[Zx];first|done|rfl,by rw[←ZEu];first|done|rfl,I.hit ha hj4 hc⟩,by simp[ZX,Ab.get,D.val,ZH];omega⟩|exact⟨⟨f,j+1,ps,rfl,rfl,I.plain hj4 hc1 hc2⟩,by simp[ZX,Ab.get,D.val,ZH];omega⟩
  ·refine rg tT [4] ?_;refine lf ?_;rw[ZEu,I.fin (by omega),JH (by simp[rows])]
def Ke:List D→Option (Bool×D)
 | [.x (.str s),.x (.int .u8 n)]=>some (decide (s.length≤1000000)&&(decide (n=43∨n=44)),.x (.sl (rows ZB (Yr (UInt8.ofNat n.toNat) s))))
 |_=>none
theorem ZHi: ∀args r,Ke args=some (true,r)→ZD Tryz.prog 159 args r:=by
 intro args r h;unfold Ke at h;split at h
 ·rename_i s n;simp only[Ze,Za,ZS,Zi,true_and]at h;obtain⟨⟨h1,h2⟩,rfl⟩:=h;exact(by rcases h2 with rfl|rfl;exact ZQi 43 (by decide) s h1;exact ZQi 44 (by decide) s h1)
 ·cases h
end Go.Proofs.YtiogclkbccdefaaGreatDoor
end
section
namespace Go.Proofs.YtiogclkbccdefaaGreatDoor
open Go.RowKit Go.Bo Go.Ab
def ZcH(n:Nat):Bool:=decide (97≤n∧n≤122)||decide (65≤n∧n≤90)
def ZcD(n:Nat):Bool:=decide (48≤n∧n≤57)||decide (n=45)
def tyC(i:Nat)(c:UInt8):Bool:=ZcH c.toNat||(decide (0<i)&&ZcD c.toNat)
def tyU(s:List UInt8):Nat→Bool
 |0=>true
 |j+1=>tyU s j&&tyC j (s.getD j 0)
def tyA(s:List UInt8)(j:Nat):Bool:=(decide (s≠ [])&&decide (s.length≤64))&&tyU s j
def JV(s:List UInt8):Bool:=tyA s s.length
theorem ZbM(s:List UInt8):JV s=(decide (1≤s.length∧s.length≤64)&&tyU s s.length):=by
 unfold JV tyA;congr 1;rcases s with _|⟨c,s⟩<;>simp
theorem Zaw(j:Nat)(c:UInt8):(((decide ((QT c).toNat≥97)&&decide ((QT c).toNat≤122))||(decide (j>0)&&((decide ((QT c).toNat≥48)&&decide ((QT c).toNat≤57))||decide ((QT c).toNat=45)))))=tyC j c:=by
 have h8:=ZMm c;unfold tyC ZcH ZcD;by_cases h:65≤c.toNat∧c.toNat≤90
 ·have e:(QT c).toNat=c.toNat+32:=by have:=ZMe h;omega
  rw[e,ZBc];simp only[ZEg,ZS,Zi];omega
 ·have e:QT c=c:=if_neg h;rw[e,ZBc];simp only[ZEg,ZS,Zi];omega
theorem ZR5(s:List UInt8):(!s== []&&decide ((s.length:Int)≤64))=tyA s 0:=by
 unfold tyA;rw[tyU,QJ,ZBc];simp;omega
theorem ZRy(s:List UInt8)(j:Nat):(tyA s j&&(decide (((QT (s.getD j 0)).toNat:Int)≥97)&&decide (((QT (s.getD j 0)).toNat:Int)≤122)||decide ((j:Int)>0)&&(decide (((QT (s.getD j 0)).toNat:Int)≥48)&&decide (((QT (s.getD j 0)).toNat:Int)≤57)||((QT (s.getD j 0)).toNat:Int)==45)))=tyA s (j+1):=by
 have h:=Zaw j (s.getD j 0);unfold tyA;rw[tyU,←h,←ZJt];congr 1;rw[ZBc];simp only[ZEg,ZS,Zi,beq_iff_eq];omega
theorem ZRB(s:List UInt8)(i:Nat)(h:i<s.length):((ZF s).map Zk)[i]? =some [X.int .u8 (QT (s.getD i 0)).toNat]:=by
 simp[ZF,h,Zk]
def ZMJ:Tabs:=ZW (ZQ) 63 ZAx
theorem ZOP:SsOk Tryz.prog ZMJ:=ZJ (ZE) (ZZ 63) ZNP
theorem ZQP:(∀a,ZMJ.q 63 a=ZAx a)∧(∀f a o,ZMJ.r f a o=none)∧(∀f a o,ZMJ.k f a o=none):=⟨fun _=>rfl,fun _ _ _=>rfl,fun _ _ _=>rfl⟩
theorem ZYE(s:List UInt8)(hl:s.length≤1000000):ZD Tryz.prog 205 [.x (.str s)] (.x (.bool (JV s))):=by
 refine ZG.pure (fC 205 true ?_) rfl;intro C0 E0;have uu:=ξ6 @ZAx.eq_1 @ZAx.eq_2 @ZHW @Qa @Ky @ZQP;have tT:=ZOP;refine nz ?_;refine rg tT [0] ?_;refine rg tT [0,3] ?_;refine rg tT [3,16,17,18] ?_;refine WI.loop (fun φ os=> ∃(j:Nat),φ= [(3,.x (.bool (tyA s j))),(16,.ref 0 s.length 0 s.length),(17,.x (.int .i64 s.length)),(18,.x (.int .i64 j))]∧os= [.rows true 5 1 ((ZF s).map Zk)]∧j≤s.length) (ZX s.length 18) ?_ (fun φ os hI=> ?_)
 ·exact⟨0,by rw[←ZR5];rfl,rfl,by omega⟩
 ·obtain⟨j,rfl,rfl,hj⟩:=hI;refine nz ?_;refine rg tT [3,16,17,18,19] ?_;refine cd (fun h0=> ?_) (fun h0=> ?_)
  ·have hj4:j<s.length:=by omega
   have uu:=Yq uu (ZRB s j hj4);refine rg tT [3,4,5,16,17,18] ?_;refine rg tT [3,4,5,6,16,17,18] ?_;refine rg tT [3,16,17,18] ?_;refine rg tT [3,16,17,18] ?_;exact⟨⟨j+1,by rw[←ZRy];rfl,rfl,by omega⟩,by simp[ZX,Ab.get,D.val,ZH];omega⟩
  ·refine rg tT [2] ?_;refine lf ?_;rw[show JV s=tyA s j from by rw[show j=s.length by omega];rfl]
def Qz:List D→Option (Bool×D)
 | [.x (.str s)]=>some (decide (s.length≤1000000),.x (.bool (JV s)))
 |_=>none
theorem ZMB: ∀args r,Qz args=some (true,r)→ZD Tryz.prog 205 args r:=by
 intro args r h;unfold Qz at h;split at h
 ·rename_i s;simp only[Ze,Za,ZS,Zi,true_and]at h;obtain⟨h1,rfl⟩:=h;exact(ZYE s h1)
 ·cases h
theorem ZXC(s:List UInt8)(hl:s.length≤1000000):ZD Tryz.prog 148 [.x (.str s)] (.x (.bool (JV s))):=by
 refine ZG.pure (fC 148 true ?_) rfl;intro C0 E0;have uu:=ξ6 @ZAx.eq_1 @ZAx.eq_2 @ZHW @Qa @Ky @ZQP;have tT:=ZOP;refine nz ?_;refine rg tT [0] ?_;refine rg tT [0,3] ?_;refine rg tT [3,16,17,18] ?_;refine WI.loop (fun φ os=> ∃(j:Nat),φ= [(3,.x (.bool (tyA s j))),(16,.ref 0 s.length 0 s.length),(17,.x (.int .i64 s.length)),(18,.x (.int .i64 j))]∧os= [.rows true 5 1 ((ZF s).map Zk)]∧j≤s.length) (ZX s.length 18) ?_ (fun φ os hI=> ?_)
 ·exact⟨0,by rw[←ZR5];rfl,rfl,by omega⟩
 ·obtain⟨j,rfl,rfl,hj⟩:=hI;refine nz ?_;refine rg tT [3,16,17,18,19] ?_;refine cd (fun h0=> ?_) (fun h0=> ?_)
  ·have hj4:j<s.length:=by omega
   have uu:=Yq uu (ZRB s j hj4);refine rg tT [3,4,5,16,17,18] ?_;refine rg tT [3,4,5,6,16,17,18] ?_;refine rg tT [3,16,17,18] ?_;refine rg tT [3,16,17,18] ?_;exact⟨⟨j+1,by rw[←ZRy];rfl,rfl,by omega⟩,by simp[ZX,Ab.get,D.val,ZH];omega⟩
  ·refine rg tT [2] ?_;refine lf ?_;rw[show JV s=tyA s j from by rw[show j=s.length by omega];rfl]
def ZCv:List D→Option (Bool×D)
 | [.x (.str s)]=>some (decide (s.length≤1000000),.x (.bool (JV s)))
 |_=>none
theorem ZTa: ∀args r,ZCv args=some (true,r)→ZD Tryz.prog 148 args r:=by
 intro args r h;unfold ZCv at h;split at h
 ·rename_i s;simp only[Ze,Za,ZS,Zi,true_and]at h;obtain⟨h1,rfl⟩:=h;exact(ZXC s h1)
 ·cases h
end Go.Proofs.YtiogclkbccdefaaGreatDoor
end
section
namespace Go.Proofs
open Go.Shelf Go.RowKit Go.Lib
variable {P:Program} {ρ:Ren}
set_option maxHeartbeats 2000000 in
set_option maxRecDepth 100000 in
theorem Any1.stringslite_Cut_one(L:Lays.n220 P ρ)(s:ByteArray)(b:UInt8)(w:World)(hs:s.size<4294967281):
  Calls P (ρ.f 220) #[.string s,.string ⟨#[b]⟩] w fun e w'=>e= .returned (.tuple #[.string ⟨(Lib.cut s.data.toList [b]).1.toArray⟩,.string ⟨(Lib.cut s.data.toList [b]).2.1.toArray⟩,.bool (Lib.cut s.data.toList [b]).2.2])∧ ∃n,w'=w.drewN n:=by
 rcases Lib.indexB_cases s ⟨#[b]⟩with hix|⟨i,hix,hroom⟩
 ·obtain⟨e1,e2,e3⟩:=Lib.cutB_miss s ⟨#[b]⟩ hix;rw[show [b]=(⟨#[b]⟩:ByteArray).data.toList from rfl,e1,e2,e3];have t3:=L.t3;have t4:=L.t4;have t9:=L.t9;have a3: ∀w,(isAgg (ρ.t 3)).run P w= .ok false w:=run_isAgg_plain L.t3 rfl;have a4: ∀w,(isAgg (ρ.t 4)).run P w= .ok false w:=run_isAgg_plain L.t4 rfl;have a9: ∀w,(isAgg (ρ.t 9)).run P w= .ok false w:=run_isAgg_plain L.t9 rfl;have e219: ∀args w,(callFunc (ρ.f 219) args).run P w= .ok (.enter (ρ.f 219) args) w:=enters_of L.f219 (by kernel_rfl) rfl;have mixed:=L.mixed;have z3:=L.z3;have v3:=L.v3;have z4:=L.z4;have v4:=L.v4;have z9:=L.z9;have v9:=L.v9
  go_enter L.f220,Body.n220_ntmps ρ
  go_wp2_with (go_at_fn (ρ.f 219);refine(Any.stringslite_Index_one {L with} _ _ _).mono ?_;rintro e w' ⟨rfl,rfl⟩;rw[←Lib.index_one,show Lib.index s.data.toList [b]=_ from hix])
  go_ret3
  exact⟨rfl,0,rfl⟩
 ·obtain⟨e1,e2,e3⟩:=Lib.cutB_hit s ⟨#[b]⟩ i hix;rw[show [b]=(⟨#[b]⟩:ByteArray).data.toList from rfl,e1,e2,e3];have hb1:(⟨#[b]⟩:ByteArray).size=1:=rfl;have c1:(0:Int)≤ ↑i:=by omega
  have c2:(↑i:Int)≤ ↑s.size:=by omega
  have c3:(0:Int)≤ ↑i+1:=by omega
  have c4:(↑i+1:Int)≤ ↑s.size:=by omega
  have t3:=L.t3;have t4:=L.t4;have t9:=L.t9;have a3: ∀w,(isAgg (ρ.t 3)).run P w= .ok false w:=run_isAgg_plain L.t3 rfl;have a4: ∀w,(isAgg (ρ.t 4)).run P w= .ok false w:=run_isAgg_plain L.t4 rfl;have a9: ∀w,(isAgg (ρ.t 9)).run P w= .ok false w:=run_isAgg_plain L.t9 rfl;have e219: ∀args w,(callFunc (ρ.f 219) args).run P w= .ok (.enter (ρ.f 219) args) w:=enters_of L.f219 (by kernel_rfl) rfl;have mixed:=L.mixed;have z3:=L.z3;have v3:=L.v3;have z4:=L.z4;have v4:=L.v4;have z9:=L.z9;have v9:=L.v9
  go_enter L.f220,Body.n220_ntmps ρ
  go_wp2_with (go_at_fn (ρ.f 219);refine(Any.stringslite_Index_one {L with} _ _ _).mono ?_;rintro e w' ⟨rfl,rfl⟩;rw[←Lib.index_one,show Lib.index s.data.toList [b]=_ from hix])
  go_region_o
  go_wp2
  go_ret3
  exact⟨rfl,1,rfl⟩
set_option maxHeartbeats 1000000 in
theorem Any1.strings_Cut_one(L:Lays.n145 P ρ)(s:ByteArray)(b:UInt8)(w:World)(hs:s.size<4294967281):
  Calls P (ρ.f 145) #[.string s,.string ⟨#[b]⟩] w fun e w'=>e= .returned (.tuple #[.string ⟨(Lib.cut s.data.toList [b]).1.toArray⟩,.string ⟨(Lib.cut s.data.toList [b]).2.1.toArray⟩,.bool (Lib.cut s.data.toList [b]).2.2])∧ ∃n,w'=w.drewN n:=by
 have t4:=L.t4;have t9:=L.t9;have t59:=L.t59;have a4: ∀w,(isAgg (ρ.t 4)).run P w= .ok false w:=run_isAgg_plain L.t4 rfl;have a9: ∀w,(isAgg (ρ.t 9)).run P w= .ok false w:=run_isAgg_plain L.t9 rfl;have a59: ∀w,(isAgg (ρ.t 59)).run P w= .ok false w:=run_isAgg_plain L.t59 rfl;have e220: ∀args w,(callFunc (ρ.f 220) args).run P w= .ok (.enter (ρ.f 220) args) w:=enters_of L.f220 (by kernel_rfl) rfl;have mixed:=L.mixed;have z4:=L.z4;have v4:=L.v4;have z9:=L.z9;have v9:=L.v9;have z59:=L.z59;have v59:=L.v59
 go_enter L.f145,Body.n145_ntmps ρ
 go_wp2_with (go_at_fn (ρ.f 220);refine(Any1.stringslite_Cut_one {L with} _ _ _ hs).mono ?_;rintro e w' ⟨rfl,n,rfl⟩)
 go_ret3
 exact⟨rfl,n,rfl⟩
end Go.Proofs
namespace Go.Proofs.YtiogclkbccdefaaGreatDoor
open Go.RowKit Go.Bo Go.Ab
def QX(c:UInt8):List UInt8→List UInt8×List UInt8×Bool
 | []=>([],[],false)
 |b::l=>if b=c then([],l,true)else(b::(QX c l).1,(QX c l).2.1,(QX c l).2.2)
theorem ZRQ(c:UInt8): ∀s,Lib.cut s [c]=QX c s
 | []=>by simp[Lib.cut,QX,Lib.index]
 |b::l=>by
  have ih:=ZRQ c l;unfold Lib.cut at ih⊢;by_cases h:b=c
  ·subst h;have hp: [b].isPrefixOf (b::l)=true:=by simp[List.isPrefixOf]
   simp[Lib.index,hp,QX]
  ·have hp: [c].isPrefixOf (b::l)=false:=by simp[List.isPrefixOf];exact fun e=>h e.symm
   rw[QX,if_neg h,←ih];have hn:=Lib.index_ge l [c];by_cases hi:Lib.index l [c]= -1
   ·simp[Lib.index,hp,hi]
   ·obtain⟨n,hn⟩: ∃n:Nat,Lib.index l [c]=n:=⟨(Lib.index l [c]).toNat,by omega⟩;simp only[Lib.index,hp,hn,JJ,ξN];simp;omega
theorem Zdg(s:List UInt8)(c:UInt8)(hl:s.length≤1000000):ZD Tryz.prog 203 [.x (.str s),.x (.str [c])] (.tup [.x (.str (QX c s).1),.x (.str (QX c s).2.1),.x (.bool (QX c s).2.2)]):=by
 intro w st vs hst hvl;obtain⟨hsz,hv⟩:=hvl;obtain⟨v0,v1,rfl⟩: ∃v0 v1,vs= #[v0,v1]:=by
  obtain⟨vl⟩:=vs
  match vl,hsz with
  | [a,b],_=>exact⟨a,b,rfl⟩
 have h0:=hv 0 _ v0 rfl rfl;have h1:=hv 1 _ v1 rfl rfl;cases h0 with
 |x h0=>
 cases h1 with
 |x h1=>
 cases h1 with
 |str _=>
 cases h0 with
 |str _=>
 have hbs:(ZN s).size=s.length:=by simp[ZN,ByteArray.size]
 refine(Any1.strings_Cut_one Tryz.lays145 (ZN s) c w (by omega)).mono ?_;rintro e w' ⟨rfl,n,rfl⟩;refine⟨_,st,rfl,⟨rfl,rfl,rfl,by simp[World.drewN],fun _ _ _=>rfl⟩,fun _ _ h=>h,fun _ _ h=> .inl h,?_⟩;have e1:(ZN s).data.toList=s:=by simp[ZN]
 rw[e1,ZRQ];exact V.tup3 (V.mkstr _ _ _) (V.mkstr _ _ _) (.x (.bool _))
theorem ZSt:Go.Ab.Enters Tryz.prog 203:=Go.Proofs.enters_of Tryz.lays145.f145 (by kernel_rfl) rfl
def cutG:List D→Option (Bool×D)
 | [.x (.str s),.x (.str [c])]=>some (decide (s.length≤1000000),.tup [.x (.str (QX c s).1),.x (.str (QX c s).2.1),.x (.bool (QX c s).2.2)])
 |_=>none
theorem Zaf: ∀args r,cutG args=some (true,r)→ZD Tryz.prog 203 args r:=by
 intro args r h;unfold cutG at h;split at h
 ·rename_i s c;simp only[Ze,Za,ZS,Zi,true_and]at h;obtain⟨h1,rfl⟩:=h;exact(Zdg s c h1)
 ·cases h
end Go.Proofs.YtiogclkbccdefaaGreatDoor
end
section
namespace Go.Proofs.YtiogclkbccdefaaGreatDoor
open Go.RowKit Go.Bo Go.Ab
abbrev Av:=Tx×Tx
def YE:RC Av:=⟨2,fun p=> [.str p.1,.str p.2],fun
 | [.str a,.str b]=>some (a,b)
 |_=>none⟩
theorem ZIy:YE.Good:=⟨fun _=>rfl,fun _=>rfl,fun r x h=>by
 simp only[YE]at h;split at h
 ·cases h;rfl
 ·cases h⟩
abbrev QA:RC (List Av):=rSl YE
theorem ZGO:QA.Good:=ZFz ZIy
theorem ZYr(l:List Av):ZY YE (rows YE l)=some l:=Zj ZIy l
theorem ZTW(l:List (List Av)):ZY QA (rows QA l)=some l:=Zj ZGO l
theorem ZL0(l:List Av)(a b:Tx):rows YE l++ [[X.str a,X.str b]]=rows YE (l++ [(a,b)]):=by simp[rows,YE]
theorem ZSw(l:List (List Av))(x:List Av):rows QA l++ [[X.sl (rows YE x)]]=rows QA (l++ [x]):=by simp[rows,QA,rSl]
def Kw(s:Tx):Av×Bool:=
 if(QX 61 s).2.2=false∨JV (ZOu (QX 61 s).1)=false then(([],[]),false)
 else((ZOu (QX 61 s).1,(ZJi (QX 61 s).2.1).1),(ZJi (QX 61 s).2.1).2)
theorem ZI0(c:UInt8): ∀s,(QX c s).1.length≤s.length∧(QX c s).2.1.length≤s.length
 | []=>by simp[QX]
 |b::l=>by
  obtain⟨h1,h2⟩:=ZI0 c l;unfold QX;split
  ·simp
  ·simp;omega
theorem ZPf(s:Tx):(ZOu s).length≤s.length:=ZJK (ZRv _) (ZRN _)
def ZF4:Tabs:=ZW (ZW (ZW (ZW (ZQ) 203 cutG) 204 ZKJ) 205 Qz) 206 ZKB
theorem ZTr:SsOk Tryz.prog ZF4:=ZJ (ZJ (ZJ (ZJ (ZE) ZSt Zaf) (ZZ 204) ZYQ) (ZZ 205) ZMB) (ZZ 206) ZYm
theorem ZX9:(∀a,ZF4.q 203 a=cutG a)∧(∀a,ZF4.q 204 a=ZKJ a)∧(∀a,ZF4.q 205 a=Qz a)∧(∀a,ZF4.q 206 a=ZKB a)∧(∀f a o,ZF4.r f a o=none)∧(∀f a o,ZF4.k f a o=none):=⟨fun _=>rfl,fun _=>rfl,fun _=>rfl,fun _=>rfl,fun _ _ _=>rfl,fun _ _ _=>rfl⟩
theorem ZbK(s:Tx)(hl:s.length≤900000):ZD Tryz.prog 183 [.x (.str s)] (.tup [.agg [.x (.str (Kw s).1.1),.x (.str (Kw s).1.2)],.x (.bool (Kw s).2)]):=by
 have h1:=ZI0 61 s;have h2:=ZPf (QX 61 s).1;rcases hq:Kw s with⟨⟨a,v⟩,ok⟩
 unfold Kw at hq;refine ZG.pure (fC 183 true ?_) rfl;intro C0 E0;have uu:=Km @cutG.eq_1 @cutG.eq_2 @ZKJ.eq_1 @ZKJ.eq_2 @Qz.eq_1 @Qz.eq_2 @ZKB.eq_1 @ZKB.eq_2 @ZX9;have tT:=ZTr;refine nz ?_;refine rg tT [0,2] ?_;refine rg tT [2,4,5,6] ?_;refine rg tT [2,4,5,6] ?_;refine rg tT [2,4,5,22] ?_;refine cd (fun h0=> ?_) (fun h0=> ?_)
 ·refine rg tT [2,3] ?_;refine lf ?_;rw[if_pos (by clear uu;grind)]at hq;cases hq;rfl
 ·refine rg tT [2,4,6,7] ?_;refine rg tT [2,3] ?_;refine lf ?_;rw[if_neg (by clear uu;grind)]at hq;cases hq;rfl
end Go.Proofs.YtiogclkbccdefaaGreatDoor
end
section
namespace Go.Proofs.YtiogclkbccdefaaGreatDoor
open Go.RowKit Go.Bo Go.Ab
def ZEQ:List D→Option (Bool×D)
 | [.x (.str s)]=>some (decide (s.length≤900000),.tup [.agg [.x (.str (Kw s).1.1),.x (.str (Kw s).1.2)],.x (.bool (Kw s).2)])
 |_=>none
theorem ZTw: ∀args r,ZEQ args=some (true,r)→ZD Tryz.prog 183 args r:=by
 intro args r h;unfold ZEQ at h;split at h
 ·rename_i s;simp only[Ze,Za,ZS,Zi,true_and]at h;obtain⟨h1,rfl⟩:=h;exact(ZbK s h1)
 ·cases h
theorem ZRA(p:Tx)(l:List Tx)(n:Nat)(h: ∀x∈l,x.length+p.length≤n)(hp:p.length≤n): ∀x∈pre p l,x.length≤n:=by
 rcases l with _|⟨y,l⟩
 ·intro x hx;simp[pre]at hx;subst hx;exact hp
 ·intro x hx;simp only[pre,QM]at hx;rcases hx with rfl|hx
  ·have:=h y (by simp);simp;omega
  ·have:=h x (by simp[hx]);omega
theorem ZRC(p:Tx)(l:List Tx)(n:Nat)(h:l.length≤n)(h1:1≤n):(pre p l).length≤n:=by
 rcases l with _|⟨y,l⟩
 ·exact h1
 ·exact h
theorem ZdG{a c:UInt8}{r:Tx}(h1:c≠92)(h2:c=a):Yr a (c::r)= []::Yr a r:=by
 conv=>lhs;unfold Yr
 rw[if_neg h1,if_pos h2]
theorem ZdR{a c:UInt8}{r:Tx}(h1:c≠92)(h2:c≠a):Yr a (c::r)=pre [c] (Yr a r):=by
 conv=>lhs;unfold Yr
 rw[if_neg h1,if_neg h2]
theorem ZBs(a:UInt8): ∀(n:Nat) (s:Tx),s.length≤n→(∀x∈Yr a s,x.length≤s.length)∧(Yr a s).length≤s.length+1
 |_,[],_=>by simp[Yr]
 |n+1,c::r,hn=>by
  have hn':r.length≤n:=by simpa using hn
  by_cases h1:c=92
  ·rcases r with _|⟨d,r⟩
   ·subst h1;simp[Yr]
   ·obtain⟨h2,h3⟩:=ZBs a n r (by simp at hn';omega);have e:Yr a (c::d::r)=pre [c,d] (Yr a r):=by subst h1;rfl
    rw[e];exact⟨ZRA _ _ _ (fun x hx=>by have:=h2 x hx;simp;omega) (by simp),ZRC _ _ _ (by simp;omega) (by simp)⟩
  ·obtain⟨h2,h3⟩:=ZBs a n r hn';by_cases h4:c=a
   ·have e:Yr a (c::r)= []::Yr a r:=ZdG h1 h4;rw[e];refine⟨fun x hx=> ?_,by simp;omega⟩;rcases QM.1 hx with rfl|hx
    ·simp
    ·have:=h2 x hx;simp;omega
   ·have e:Yr a (c::r)=pre [c] (Yr a r):=ZdR h1 h4;rw[e];exact⟨ZRA _ _ _ (fun x hx=>by have:=h2 x hx;simp;omega) (by simp),ZRC _ _ _ (by simp;omega) (by simp)⟩
def ZJ5(s:Tx):List (Av×Bool):=(Yr 43 s).map Kw
def YC(s:Tx):List Av×Bool:=if(ZJ5 s).all (·.2)=true then((ZJ5 s).map (·.1),true)else([],false)
theorem YP{α:Type}(p:α→Bool)(l:List α)(j:Nat)(h:j<l.length)(hp:p l[j]=false):l.all p=false:=by
 rw[Bool.eq_false_iff];intro hh;have:=YQ.1 hh l[j] (Yl h);rw[hp]at this;cases this
theorem KD{α:Type}(p:α→Bool)(l:List α)(j:Nat)(h:j<l.length):(l.take (j+1)).all p=((l.take j).all p&&p l[j]):=by
 rw[Ko h,ZM7];simp
def ZJB:Tabs:=ZW (ZW (ZQ) 159 Ke) 183 ZEQ
theorem ZN9:SsOk Tryz.prog ZJB:=ZJ (ZJ (ZE) (ZZ 159) ZHi) (ZZ 183) ZTw
theorem ZQK:(∀a,ZJB.q 159 a=Ke a)∧(∀a,ZJB.q 183 a=ZEQ a)∧(∀f a o,ZJB.r f a o=none)∧(∀f a o,ZJB.k f a o=none):=⟨fun _=>rfl,fun _=>rfl,fun _ _ _=>rfl,fun _ _ _=>rfl⟩
theorem ZZd(s:Tx)(hl:s.length≤900000):ZD Tryz.prog 160 [.x (.str s)] (.tup [.x (.sl (rows YE (YC s).1)),.x (.bool (YC s).2)]):=by
 obtain⟨hb1,hb2⟩:=ZBs 43 _ s (Zl _);rcases hq:YC s with⟨d,ok⟩
 unfold YC ZJ5 at hq;have hsp:Yr (UInt8.ofNat (43:Int).toNat) s=Yr 43 s:=rfl;refine ZG.pure (fC 160 true ?_) rfl;intro C0 E0;have uu:=ξ6 @Ke.eq_1 @Ke.eq_2 @ZEQ.eq_1 @ZEQ.eq_2 hsp @ZQK;have tT:=ZN9;refine nz ?_;refine rg tT [0] ?_;refine rg tT [0,4] ?_;refine rg tT [4,10,11,12] ?_;refine WI.ownA 4 188 2 ?_;generalize Yr 43 s=l at hq hb1 hb2⊢;refine WI.loop (fun φ os=> ∃(j:Nat),φ= [(4,.ref 0 j 0 j),(10,.x (.sl (rows ZB l))),(11,.x (.int .i64 l.length)),(12,.x (.int .i64 j))]∧os= [.rows false 188 2 (rows YE ((l.take j).map fun x=>(Kw x).1))]∧j≤l.length∧(l.take j).all (fun x=>(Kw x).2)=true) (ZX l.length 12) ?_ (fun φ os hI=> ?_)
 ·exact⟨0,rfl,rfl,by omega,rfl⟩
 ·obtain⟨j,rfl,rfl,hj,hall⟩:=hI;refine nz ?_;refine rg tT [4,10,11,12,13] ?_;refine cd (fun h0=> ?_) (fun h0=> ?_)
  ·have hj4:j<l.length:=by omega
   have hbj:=hb1 _ (Yl hj4);have hsc:decide (l[j].length≤900000)=true:=Zc (by omega);have uu:=Yq uu hsc;refine rg tT [4,6,10,11,12] ?_;refine rg tT [4,7,8,10,11,12] ?_;refine rg tT [4,7,10,11,12,22] ?_;refine cd (fun h1=> ?_) (fun h1=> ?_)
   ·have hf:(l.map Kw).all (·.2)=false:=by rw[ZKb];exact YP _ l j hj4 (by simpa using h1)
    rw[if_neg (by rw[hf];decide)]at hq;refine rg tT [2,3] ?_;refine WI.nnA ?_;refine lf ?_;cases hq;rfl
   ·refine rgp tT [4,10,11,12] ?_;refine Qm [0] ?_;refine ZAL ?_;refine nz ?_;refine WI.orderA [4,10,11,12] ?_;refine rg tT [4,10,11,12] ?_;exact⟨⟨j+1,rfl,by rw[Ko hj4,KC,ZQV,←ZL0],by omega,by rw[KD _ l j hj4,hall];simpa using h1⟩,by simp[ZX,Ab.get,D.val,ZH];omega⟩
  ·have e1:(rows YE ((l.take j).map fun x=>(Kw x).1)).length=j:=by simp[rows];omega
   have e2:(l.take j).length=j:=by simp;omega
   have uu:=Jz uu e1 e2;refine rg tT [2,3] ?_;refine WI.nnA ?_;refine lf ?_;have hf:(l.map Kw).all (·.2)=true:=by rw[ZKb];rw[JH (by omega)]at hall;exact hall
   rw[if_pos hf]at hq;cases hq;rw[JH (l:=l) (by omega),JH (by simp[rows];omega),Jq];rfl
def ZG4:List D→Option (Bool×D)
 | [.x (.str s)]=>some (decide (s.length≤900000),.tup [.x (.sl (rows YE (YC s).1)),.x (.bool (YC s).2)])
 |_=>none
theorem ZU3: ∀args r,ZG4 args=some (true,r)→ZD Tryz.prog 160 args r:=by
 intro args r h;unfold ZG4 at h;split at h
 ·rename_i s;simp only[Ze,Za,ZS,Zi,true_and]at h;obtain⟨h1,rfl⟩:=h;exact(ZZd s h1)
 ·cases h
end Go.Proofs.YtiogclkbccdefaaGreatDoor
end
section
namespace Go.Proofs.YtiogclkbccdefaaGreatDoor
open Go.RowKit Go.Bo Go.Ab
def ZBE(r:List Av):List Tx:=r.map fun p=>ZF p.1
def ZBT(r:List Av)(j:Nat):Bool:=JV (r.getD j ([],[])).1&&(!((r.getD j ([],[])).2== [])&&(decide ((r.getD j ([],[])).2.length≤256)&& !decide (ZF (r.getD j ([],[])).1∈ZBE (r.take j))))
def okP(r:List Av):Nat→Bool
 |0=>true
 |j+1=>okP r j&&ZBT r j
def KH(r:List Av):Bool:=okP r r.length&&decide (1≤r.length∧r.length≤8)
theorem ZIz(r:List Av): ∀(n j:Nat),j<n→ZBT r j=false→okP r n=false
 |n+1,j,hj,h=>by
  rw[okP];by_cases e:j=n
  ·subst e;rw[h,ZM1]
  ·rw[ZIz r n j (by omega) h,ZJO]
def ZBH(r:List Av)(j:Nat):List (Tx×Int):=(r.take j).map fun p=>(ZF p.1,(1:Int))
theorem ZMY: ∀(l:List Av) (k:Tx),ZI (l.map fun p=>(ZF p.1,(1:Int))) k=if k∈ZBE l then some 1 else none
 | [],k=>by simp[ZBE,ZI]
 |p::l,k=>by
  have ih:=ZMY l k;by_cases h:k=ZF p.1
  ·simp[ZI,h,ZBE]
  ·have e:(k∈ZBE (p::l))=(k∈ZBE l):=by simp[ZBE,h]
   have e2:ZI ((p::l).map fun p=>(ZF p.1,(1:Int))) k=ZI (l.map fun p=>(ZF p.1,(1:Int))) k:=by simp[ZI,h]
   rw[e2,ih];simp only[e]
theorem ZQj(r:List Av)(j:Nat)(h:j<r.length)(hn:ZF (r.getD j ([],[])).1∉ZBE (r.take j)):Zz (ZBH r j) (ZF (r.getD j ([],[])).1) 1=ZBH r (j+1):=by
 unfold ZBH;rw[ZBq (by rw[ZMY,if_neg hn]),Ko h,KC];simp[h]
theorem ZQS(r:List Av)(j:Nat)(k:Tx):Yx (YV Jo Qb (ZBH r j)) [X.str k]=if k∈ZBE (r.take j)then some [D.x (X.int .i64 1)]else none:=by
 rw[ZDp Jo Qb hkS (ZBH r j) k];unfold ZBH;rw[ZMY];split<;>rfl
theorem ZKE(r:List Av)(j:Nat)(h:j<r.length):(rows YE r)[j]? =some [X.str (r.getD j ([],[])).1,X.str (r.getD j ([],[])).2]:=by
 simp[rows,h,YE]
def Kc:List D→Option (Bool×D)
 | [.x (.str s)]=>some (decide (s.length≤1000000),.x (.str (ZF s)))
 |_=>none
theorem ZIL: ∀args r,Kc args=some (true,r)→ZD Tryz.prog 63 args r:=by
 intro args r h;unfold Kc at h;split at h
 ·rename_i s;simp only[Ze,Za,ZS,Zi,true_and]at h;obtain⟨h1,rfl⟩:=h;exact(ZMw s (by omega))
 ·cases h
def ZGy:Tabs:=ZW (ZW (ZQ) 63 Kc) 205 Qz
theorem ZL5:SsOk Tryz.prog ZGy:=ZJ (ZJ (ZE) (ZZ 63) ZIL) (ZZ 205) ZMB
theorem ZNV:(∀a,ZGy.q 63 a=Kc a)∧(∀a,ZGy.q 205 a=Qz a)∧(∀f a o,ZGy.r f a o=none)∧(∀f a o,ZGy.k f a o=none):=⟨fun _=>rfl,fun _=>rfl,fun _ _ _=>rfl,fun _ _ _=>rfl⟩
theorem ZdW(r:List Av)(hb: ∀p∈r,p.1.length≤900000):ZD Tryz.prog 184 [.x (.sl (rows YE r))] (.x (.bool (KH r))):=by
 refine ZD.wf (fun hw=> ?_);have hl:r.length≤maxLen:=by have:=(hw _ (ZDn)).1;rwa [Zo]at this
 clear hw;simp only[maxLen]at hl;refine ZG.pure (fC 184 true ?_) rfl;intro C0 E0;have uu:=ξ5 @Kc.eq_1 @Kc.eq_2 @Qz.eq_1 @Qz.eq_2 @ZNV;have tT:=ZL5;refine nz ?_;refine rg tT [0] ?_;refine rg tT [0,3] ?_;refine rg tT [0,3,8,9,10] ?_;refine WI.loop (fun φ os=> ∃(j:Nat),φ= [(0,.x (.sl (rows YE r))),(3,.mref 0),(8,.x (.sl (rows YE r))),(9,.x (.int .i64 r.length)),(10,.x (.int .i64 j))]∧os= [.mpo .str false (YV Jo Qb (ZBH r j))]∧j≤r.length∧okP r j=true) (ZX r.length 10) ?_ (fun φ os hI=> ?_)
 ·exact⟨0,rfl,rfl,by omega,rfl⟩
 ·obtain⟨j,rfl,rfl,hj,hok⟩:=hI;refine nz ?_;refine rg tT [0,3,8,9,10,11] ?_;refine cd (fun h0=> ?_) (fun h0=> ?_)
  ·have hj4:j<r.length:=by omega
   have har:=ZKE r j hj4;have hbj:(r.getD j ([],[])).1.length≤900000:=by rw[show r.getD j ([],[])=r[j] by simp[hj4]];exact hb _ (Yl hj4)
   have hgt:=ZQS r j (ZF (r.getD j ([],[])).1);have uu:=Yq uu har;refine rg tT [0,3,5,8,9,10] ?_;refine rg tT [0,3,5,6,8,9,10] ?_;by_cases hin:ZF (r.getD j ([],[])).1∈ZBE (r.take j)
   ·rw[if_pos hin]at hgt;have uu:=Yq uu hgt;refine rg tT [0,3,6,8,9,10,37] ?_;refine ct (fun h1=> ?_) (fun h1=> ?_)
    ·refine rg tT [2] ?_;refine lf ?_;have hno:ZBT r j=false:=by unfold ZBT;rw[Zc hin];simp
     rw[show KH r=false by unfold KH;rw[ZIz r r.length j hj4 hno];rfl]
    ·clear uu;simp at h1
   ·rw[if_neg hin]at hgt;have uu:=Yq uu hgt;have hset:=ZCg Jo Qb hkS (ZBH r j) (ZF (r.getD j ([],[])).1) 1;rw[ZQj r j hj4 hin]at hset;have hset':YM (YV Jo Qb (ZBH r j)) [X.str (ZF (r.getD j ([],[])).1)] [D.x (X.int .i64 1)]=YV Jo Qb (ZBH r (j+1)):=hset;have uu:=Yq uu hset';refine rg tT [0,3,6,8,9,10,37] ?_;refine cd (fun h1=> ?_) (fun h1=> ?_)
    ·refine rg tT [2] ?_;refine lf ?_;have hno:ZBT r j=false:=by unfold ZBT;clear uu;grind
     rw[show KH r=false by unfold KH;rw[ZIz r r.length j hj4 hno];rfl]
    ·have hone:ZBT r j=true:=by unfold ZBT;rw[decide_eq_false hin];clear uu;grind
     refine WI.post ?_;refine WI.regB tT [0,3,8,9,10] ?_
     iterate 2 refine oS ?_
     iterate 3 refine oG ?_
     refine oP ?_;refine Qm [0] ?_ (ho:=by simp (disch:=decide) only[zV,zO,Ob.mpb,frzL,ZAQ,ZBU,Qr,Ob.onI,mpP,Yz,YS,Qf,D.vw,vwL,D.on,D.inP,Yb,Zh,D.ren,Zn,YO,YI,Ob.mp,Ob.ren,D.nn,ZCe,Nat.reduceBEq,Nat.reduceEqDiff,Nat.reduceAdd,↓reduceIte,ZDd,Qk];rfl);refine ZAL ?_;refine nz ?_;refine rg tT [0,3,8,9,10] ?_;exact⟨⟨j+1,rfl,by first|done|rfl,by omega,by rw[okP,hok,hone];rfl⟩,by simp[ZX,Ab.get,D.val,ZH];omega⟩
  ·refine rg tT [2] ?_;refine lf ?_;have hz:r.length=j:=by omega
   rw[show KH r=decide (1≤r.length∧r.length≤8) by unfold KH;rw[hz,hok,ZCp]];congr 2;rw[ZBc];simp;omega
def ZNF:List D→Option (Bool×D)
 | [.x (.sl R)]=>(ZY YE R).bind fun r=>some (decide (∀p∈r,p.1.length≤900000),.x (.bool (KH r)))
 |_=>none
theorem ZZb: ∀args r,ZNF args=some (true,r)→ZD Tryz.prog 184 args r:=by
 intro args r h;unfold ZNF at h;split at h
 ·rename_i R;obtain⟨r,hr0,h⟩:=Zv h;simp only[Ze,Za,ZS,Zi,true_and]at h;obtain⟨h1,rfl⟩:=h;rw[←Zb ZIy hr0];exact(ZdW r h1)
 ·cases h
end Go.Proofs.YtiogclkbccdefaaGreatDoor
end
section
namespace Go.Proofs.YtiogclkbccdefaaGreatDoor
open Go.RowKit Go.Bo Go.Ab
abbrev Dn:=List (List Av)
def smD(d:Dn):Prop:= ∀r∈d,∀p∈r,p.1.length≤900000
instance (d:Dn):Decidable (smD d):=by unfold smD;infer_instance
def ZAO(d:Dn):Int:=if d.length>32 then 3 else if d.all KH=true then 0 else 5
theorem ZNI(d:Dn)(j:Nat)(h:j<d.length):(rows QA d)[j]? =some [X.sl (rows YE (d.getD j []))]:=by
 simp[rows,h,QA,rSl]
def ZJ2:Tabs:=ZW (ZQ) 184 ZNF
theorem ZTP:SsOk Tryz.prog ZJ2:=ZJ (ZE) (ZZ 184) ZZb
theorem ZWE:(∀a,ZJ2.q 184 a=ZNF a)∧(∀f a o,ZJ2.r f a o=none)∧(∀f a o,ZJ2.k f a o=none):=⟨fun _=>rfl,fun _ _ _=>rfl,fun _ _ _=>rfl⟩
theorem Zaq(d:Dn)(hb:smD d):ZD Tryz.prog 161 [.x (.sl (rows QA d))] (.x (.int .i64 (ZAO d))):=by
 unfold ZAO;refine ZG.pure (fC 161 true ?_) rfl;intro C0 E0;have uu:=ξ4 @ZNF.eq_1 @ZNF.eq_2 @ZYr @ZWE;have tT:=ZTP;refine nz ?_;refine rg tT [0] ?_;refine rg tT [0,7] ?_;refine cd (fun h0=> ?_) (fun h0=> ?_)
 ·refine rg tT [2] ?_;refine lf ?_;rw[if_pos (by omega)]
 ·refine rg tT [8,9,10] ?_;refine WI.loop (fun φ os=> ∃(j:Nat),φ= [(8,.x (.sl (rows QA d))),(9,.x (.int .i64 d.length)),(10,.x (.int .i64 j))]∧os= []∧j≤d.length∧(d.take j).all KH=true) (ZX d.length 10) ?_ (fun φ os hI=> ?_)
  ·exact⟨0,rfl,rfl,by omega,rfl⟩
  ·obtain⟨j,rfl,rfl,hj,hall⟩:=hI;refine nz ?_;refine rg tT [8,9,10,11] ?_;refine cd (fun h1=> ?_) (fun h1=> ?_)
   ·have hj4:j<d.length:=by omega
    have hdj:d[j]=d.getD j []:=by simp[hj4]
    have hsm:decide (∀p∈d.getD j [],p.1.length≤900000)=true:=Zc (by rw[←hdj];exact hb _ (Yl hj4));have uu:=Jz uu (ZNI d j hj4) hsm;refine rg tT [4,8,9,10] ?_;refine rg tT [8,9,10,16] ?_;refine cd (fun h2=> ?_) (fun h2=> ?_)
    ·refine rg tT [2] ?_;refine lf ?_;rw[if_neg (by omega),if_neg (by rw[YP KH d j hj4 (by rw[hdj];simpa using h2)];decide)]
    ·refine rg tT [8,9,10] ?_;exact⟨⟨j+1,rfl,rfl,by omega,by rw[KD _ d j hj4,hall,hdj];simpa using h2⟩,by simp[ZX,Ab.get,D.val,ZH];omega⟩
   ·refine rg tT [2] ?_;refine lf ?_;rw[JH (by omega)]at hall;rw[if_neg (by omega),if_pos hall]
def ZCI:List D→Option (Bool×D)
 | [.x (.sl R)]=>(ZY QA R).bind fun d=>some (decide (smD d),.x (.int .i64 (ZAO d)))
 |_=>none
theorem ZN0: ∀args r,ZCI args=some (true,r)→ZD Tryz.prog 161 args r:=by
 intro args r h;unfold ZCI at h;split at h
 ·rename_i R;obtain⟨d,hr0,h⟩:=Zv h;simp only[Ze,Za,ZS,Zi,true_and]at h;obtain⟨h1,rfl⟩:=h;rw[←Zb ZGO hr0];exact(Zaq d h1)
 ·cases h
def mxD:Dn→Nat
 | []=>0
 |r::d=>max r.length (mxD d)
theorem ZKz: ∀(d:Dn) (r:List Av),mxD (d++ [r])=max (mxD d) r.length
 | [],r=>by simp[mxD]
 |x::d,r=>by rw[QC,mxD,mxD,ZKz d r];omega
theorem ZWD(a b:Nat):(if(a:Int)>(b:Int)then(a:Int)else(b:Int))=((max b a:Nat):Int):=by split<;>omega
def ZD6(s:Tx):List (List Av×Bool):=(Yr 44 s).map YC
def ZB3(s:Tx):Dn:=(ZD6 s).map (·.1)
def Yp(s:Tx):Dn×Int:=
 if s.length>4096 then([],3)else if s= []then([],0)
 else if(ZD6 s).all (·.2)=true then(if mxD (ZB3 s)>8 then([],3)else if ZAO (ZB3 s)≠0 then([],ZAO (ZB3 s))else(ZB3 s,0))
 else([],5)
theorem ZUC(s:Tx):(Kw s).1.1.length≤s.length:=by
 unfold Kw;have h1:=(ZI0 61 s).1;have h2:=ZPf (QX 61 s).1;split
 ·simp
 ·simp;omega
theorem ZXA(s:Tx)(hs:s.length≤900000): ∀p∈(YC s).1,p.1.length≤900000:=by
 unfold YC ZJ5;split
 ·intro p hp;obtain⟨q,h1,rfl⟩:=YW.1 hp;obtain⟨x,h2,rfl⟩:=YW.1 h1;have:=(ZBs 43 _ s (Zl _)).1 x h2;have:=ZUC x;omega
 ·intro p hp;simp at hp
theorem ZI8(s:Tx)(hs:s.length≤900000):(YC s).1.length≤900001:=by
 unfold YC ZJ5;split
 ·have:=(ZBs 43 _ s (Zl _)).2;simp;omega
 ·simp
theorem ZIT(s:Tx)(hs:s.length≤900000):smD (ZB3 s):=by
 intro r hr;unfold ZB3 ZD6 at hr;obtain⟨q,h1,rfl⟩:=YW.1 hr;obtain⟨x,h2,rfl⟩:=YW.1 h1;have:=(ZBs 44 _ s (Zl _)).1 x h2;exact ZXA x (by omega)
def ZFD:Tabs:=ZW (ZW (ZW (ZQ) 159 Ke) 160 ZG4) 161 ZCI
theorem ZTB:SsOk Tryz.prog ZFD:=ZJ (ZJ (ZJ (ZE) (ZZ 159) ZHi) (ZZ 160) ZU3) (ZZ 161) ZN0
theorem ZUl:(∀a,ZFD.q 159 a=Ke a)∧(∀a,ZFD.q 160 a=ZG4 a)∧(∀a,ZFD.q 161 a=ZCI a)∧(∀f a o,ZFD.r f a o=none)∧(∀f a o,ZFD.k f a o=none):=⟨fun _=>rfl,fun _=>rfl,fun _=>rfl,fun _ _ _=>rfl,fun _ _ _=>rfl⟩
theorem ZaH(s:Tx):ZD Tryz.prog 121 [.x (.str s)] (.tup [.x (.sl (rows QA (Yp s).1)),.x (.int .i64 (Yp s).2)]):=by
 rcases hq:Yp s with⟨d,e⟩
 unfold Yp at hq;have hsp:Yr (UInt8.ofNat (44:Int).toNat) s=Yr 44 s:=rfl;refine ZG.pure (fC 121 true ?_) rfl;intro C0 E0;have uu:=Km @Ke.eq_1 @Ke.eq_2 @ZG4.eq_1 @ZG4.eq_2 @ZCI.eq_1 @ZCI.eq_2 hsp @ZTW (Yq @ZYr @ZUl);have tT:=ZTB;refine nz ?_;refine rg tT [0] ?_;refine rg tT [0,11] ?_;refine cd (fun h0=> ?_) (fun h0=> ?_)
 ·refine rg tT [2,3] ?_;refine WI.nnA ?_;refine lf ?_;rw[if_pos (by omega)]at hq;cases hq;rfl
 ·refine rg tT [0,15] ?_;refine cd (fun h1=> ?_) (fun h1=> ?_)
  ·refine rg tT [2,3] ?_;refine WI.nnA ?_;refine lf ?_;rw[if_neg (by omega),if_pos (by simpa using h1)]at hq;cases hq;rfl
  ·have hne:s≠ []:=by simpa using h1
   rw[if_neg (by omega),if_neg hne]at hq;have hs:s.length≤900000:=by omega
   obtain⟨hb1,hb2⟩:=ZBs 44 _ s (Zl _);have hsm:=ZIT s hs;refine rg tT [0,4] ?_;refine rg tT [0,4,5] ?_;refine rg tT [4,5,19,20,21] ?_;refine WI.ownA 4 154 1 ?_;have hrl:ZD6 s=(Yr 44 s).map YC:=rfl;have hnl:ZB3 s=((Yr 44 s).map YC).map (·.1):=rfl;generalize Yr 44 s=l at hb1 hb2 hrl hnl⊢;generalize ZD6 s=rl at hq hrl;generalize ZB3 s=nl at hq hnl hsm;subst hrl hnl;refine WI.loop (fun φ os=> ∃(j:Nat),φ= [(4,.ref 0 j 0 j),(5,.x (.int .i64 (mxD ((l.take j).map fun x=>(YC x).1)))),(19,.x (.sl (rows ZB l))),(20,.x (.int .i64 l.length)),(21,.x (.int .i64 j))]∧os= [.rows false 154 1 (rows QA ((l.take j).map fun x=>(YC x).1))]∧j≤l.length∧(l.take j).all (fun x=>(YC x).2)=true) (ZX l.length 21) ?_ (fun φ os hI=> ?_)
   ·exact⟨0,rfl,rfl,by omega,rfl⟩
   ·obtain⟨j,rfl,rfl,hj,hall⟩:=hI;refine nz ?_;refine rg tT [4,5,19,20,21,22] ?_;refine cd (fun h2=> ?_) (fun h2=> ?_)
    ·have hj4:j<l.length:=by omega
     have hbj:=hb1 _ (Yl hj4);have hpc:=ZI8 l[j] (by omega);have hsc:decide (l[j].length≤900000)=true:=Zc (by omega);have hmt:(l.take (j+1)).map (fun x=>(YC x).1)=(l.take j).map (fun x=>(YC x).1)++ [(YC l[j]).1]:=by rw[Ko hj4,KC];rfl
     have hmx:mxD ((l.take (j+1)).map fun x=>(YC x).1)=max (mxD ((l.take j).map fun x=>(YC x).1)) (YC l[j]).1.length:=by rw[hmt,ZKz]
     have uu:=Yq uu hsc;refine rg tT [4,5,7,19,20,21] ?_;refine rg tT [4,5,8,9,19,20,21] ?_;refine rg tT [4,5,8,19,20,21,31] ?_;refine cd (fun h3=> ?_) (fun h3=> ?_)
     ·have hf:(l.map YC).all (·.2)=false:=by rw[ZKb];exact YP _ l j hj4 (by simpa using h3)
      rw[if_neg (by rw[hf];decide)]at hq;refine rg tT [2,3] ?_;refine WI.nnA ?_;refine lf ?_;cases hq;rfl
     ·refine rg tT [4,5,8,19,20,21] ?_;refine rgp tT [4,5,19,20,21] ?_;refine Qm [0] ?_;refine ZAL ?_;refine nz ?_;refine WI.orderA [4,5,19,20,21] ?_;refine rg tT [4,5,19,20,21] ?_;exact⟨⟨j+1,by rw[hmx,ZWD];first|done|rfl,by rw[hmt,←ZSw];first|done|rfl,by omega,by rw[KD _ l j hj4,hall];simpa using h3⟩,by simp[ZX,Ab.get,D.val,ZH];omega⟩
    ·obtain rfl:j=l.length:=by omega
     rw[KW]at hall⊢;have hf:(l.map YC).all (·.2)=true:=by rw[ZKb];exact hall
     rw[if_pos hf]at hq;have hmm:(l.map YC).map (·.1)=l.map (fun x=>(YC x).1):=by rw[Jq];rfl
     rw[hmm]at hq hsm;have hml:(l.map fun x=>(YC x).1).length=l.length:=Yf ..;generalize(l.map fun x=>(YC x).1)=m at hq hsm hml⊢;have e1:m.take l.length=m:=JH (by omega);have e2:decide (smD m)=true:=Zc hsm;have uu:=ξ4 uu hml e1 e2;refine rg tT [4,42] ?_;refine cd (fun h4=> ?_) (fun h4=> ?_)
     ·refine rg tT [2,3] ?_;refine WI.nnA ?_;refine lf ?_;rw[if_pos (by omega)]at hq;cases hq;rfl
     ·rw[if_neg (by omega)]at hq;refine rg tT [4,10] ?_;refine rg tT [4,10,46] ?_;refine cd (fun h5=> ?_) (fun h5=> ?_)
      ·refine rg tT [2,3] ?_;refine WI.nnA ?_;refine lf ?_;rw[if_pos (by simpa using h5)]at hq;cases hq;rfl
      ·refine rg tT [2,3] ?_;refine WI.nnA ?_;refine lf ?_;rw[if_neg (by simpa using h5)]at hq;cases hq;first|rfl|rw[e1]
def QB:List D→Option (Bool×D)
 | [.x (.str s)]=>some (true,.tup [.x (.sl (rows QA (Yp s).1)),.x (.int .i64 (Yp s).2)])
 |_=>none
theorem ZGY: ∀args r,QB args=some (true,r)→ZD Tryz.prog 121 args r:=by
 intro args r h;unfold QB at h;split at h
 ·rename_i s;simp only[Ze,Za,ZS,Zi,true_and]at h;obtain rfl:=h;exact(ZaH s)
 ·cases h
end Go.Proofs.YtiogclkbccdefaaGreatDoor
end
section
namespace Go.Proofs.YtiogclkbccdefaaGreatDoor
open Go.RowKit Go.Bo Go.Ab
end Go.Proofs.YtiogclkbccdefaaGreatDoor
end
section
namespace Go.Proofs.YtiogclkbccdefaaGreatDoor
open Go.RowKit Go.Bo Go.Ab
theorem Zbb(r:List Av)(hb: ∀p∈r,p.1.length≤900000)(hl:r.length≤1000000):ZL Tryz.prog 184 [.ref 0 r.length 0 r.length] [.rows false 188 2 (rows YE r)] (.x (.bool (KH r))) [.rows false 188 2 (rows YE r)]:=by
 refine ZG.mcalls (fC 184 true ?_);intro C0 E0;have uu:=ξ5 @Kc.eq_1 @Kc.eq_2 @Qz.eq_1 @Qz.eq_2 @ZNV;have tT:=ZL5;refine nz ?_;refine rg tT [0] ?_;refine rg tT [0,3] ?_;refine rg tT [0,3,8,9,10] ?_;refine WI.loop (fun φ os=> ∃(j:Nat),φ= [(0,.ref 0 r.length 0 r.length),(3,.mref 1),(8,.ref 0 r.length 0 r.length),(9,.x (.int .i64 r.length)),(10,.x (.int .i64 j))]∧os= [.rows false 188 2 (rows YE r),.mpo .str false (YV Jo Qb (ZBH r j))]∧j≤r.length∧okP r j=true) (ZX r.length 10) ?_ (fun φ os hI=> ?_)
 ·exact⟨0,rfl,rfl,by omega,rfl⟩
 ·obtain⟨j,rfl,rfl,hj,hok⟩:=hI;refine nz ?_;refine rg tT [0,3,8,9,10,11] ?_;refine cd (fun h0=> ?_) (fun h0=> ?_)
  ·have hj4:j<r.length:=by omega
   have har:=ZKE r j hj4;have hbj:(r.getD j ([],[])).1.length≤900000:=by rw[show r.getD j ([],[])=r[j] by simp[hj4]];exact hb _ (Yl hj4)
   have hgt:=ZQS r j (ZF (r.getD j ([],[])).1);have uu:=Yq uu har;refine rg tT [0,3,5,8,9,10] ?_;refine rg tT [0,3,5,6,8,9,10] ?_;by_cases hin:ZF (r.getD j ([],[])).1∈ZBE (r.take j)
   ·rw[if_pos hin]at hgt;have uu:=Yq uu hgt;refine rg tT [0,3,6,8,9,10,37] ?_;refine ct (fun h1=> ?_) (fun h1=> ?_)
    ·refine rg tT [2] ?_;refine WI.pickA [0] ?_;refine lf ?_;have hno:ZBT r j=false:=by unfold ZBT;rw[Zc hin];simp
     rw[show KH r=false by unfold KH;rw[ZIz r r.length j hj4 hno];rfl];first|rfl|exact⟨rfl,rfl⟩
    ·clear uu;simp at h1
   ·rw[if_neg hin]at hgt;have uu:=Yq uu hgt;have hset:=ZCg Jo Qb hkS (ZBH r j) (ZF (r.getD j ([],[])).1) 1;rw[ZQj r j hj4 hin]at hset;have hset':YM (YV Jo Qb (ZBH r j)) [X.str (ZF (r.getD j ([],[])).1)] [D.x (X.int .i64 1)]=YV Jo Qb (ZBH r (j+1)):=hset;have uu:=Yq uu hset';refine rg tT [0,3,6,8,9,10,37] ?_;refine cd (fun h1=> ?_) (fun h1=> ?_)
    ·refine rg tT [2] ?_;refine WI.pickA [0] ?_;refine lf ?_;have hno:ZBT r j=false:=by unfold ZBT;clear uu;grind
     rw[show KH r=false by unfold KH;rw[ZIz r r.length j hj4 hno];rfl];first|rfl|exact⟨rfl,rfl⟩
    ·have hone:ZBT r j=true:=by unfold ZBT;rw[decide_eq_false hin];clear uu;grind
     refine WI.post ?_;refine WI.regB tT [0,3,8,9,10] ?_
     iterate 2 refine oS ?_
     iterate 3 refine oG ?_
     refine oP ?_;refine Qm [0,1] ?_ (ho:=by simp (disch:=decide) only[zV,zO,Ob.mpb,frzL,ZAQ,ZBU,Qr,Ob.onI,mpP,Yz,YS,Qf,D.vw,vwL,D.on,D.inP,Yb,Zh,D.ren,Zn,YO,YI,Ob.mp,Ob.ren,D.nn,ZCe,Nat.reduceBEq,Nat.reduceEqDiff,Nat.reduceAdd,↓reduceIte,ZDd,Qk];rfl);refine ZAL ?_;refine nz ?_;refine rg tT [0,3,8,9,10] ?_;exact⟨⟨j+1,rfl,by first|done|rfl,by omega,by rw[okP,hok,hone];rfl⟩,by simp[ZX,Ab.get,D.val,ZH];omega⟩
  ·refine rg tT [2] ?_;refine WI.pickA [0] ?_;refine lf ?_;have hz:r.length=j:=by omega
   rw[show KH r=decide (1≤r.length∧r.length≤8) by unfold KH;rw[hz,hok,ZCp]];refine⟨?_,rfl⟩;congr 2;rw[ZBc];simp;omega
def RF(d:Dn):List (List D):=Kx 1 (d.map (rows YE))
def FM(d:Dn):List Ob:=fam 188 2 (d.map (rows YE))
abbrev obD(d:Dn):List Ob:= .drw 154 1 (RF d)::FM d
theorem ZLu(d:Dn):(RF d).length=d.length:=by unfold RF;rw[ZOO,Yf]
theorem ZJD(d:Dn):(FM d).length=d.length:=by unfold FM;rw[ZJ4,Yf]
theorem ZZL(d:Dn)(j:Nat)(h:j<d.length):(d.map (rows YE))[j]? =some (rows YE (d.getD j [])):=by simp[h]
theorem ZWL(d:Dn)(j:Nat)(h:j<d.length):(RF d)[j]? =some [.ref (j+1) (d.getD j []).length 0 (d.getD j []).length]:=by
 unfold RF;rw[ZNd _ 1 j _ (ZZL d j h),Zo,ZM0]
theorem ZUQ(d:Dn)(Y:List Ob)(j:Nat)(h:j<d.length):(FM d++Y)[j]? =some (.rows false 188 2 (rows YE (d.getD j []))):=Zbk _ _ _ Y j _ (ZZL d j h)
theorem ZJw(d:Dn)(j:Nat)(h:j<d.length):(FM d)[j]? =some (.rows false 188 2 (rows YE (d.getD j []))):=by rw[←ZUQ d [] j h,Kg]
theorem ZUL(d:Dn)(Y:List Ob)(j:Nat)(h:j<d.length)(r:List Av):(FM d++Y).set j (.rows false 188 2 (rows YE r))=FM (d.set j r)++Y:=by
 unfold FM;rw[ZaW _ _ _ Y j _ (by rw[Yf];exact h),ZLA]
theorem ZbR(d:Dn)(j:Nat)(h:j<d.length)(r:List Av):(FM d).set j (.rows false 188 2 (rows YE r))=FM (d.set j r):=by
 have:=ZUL d [] j h r;rwa [Kg,Kg]at this
theorem ZUF(d:Dn)(j:Nat)(r:List Av)(h:r.length=(d.getD j []).length):RF (d.set j r)=RF d:=by
 unfold RF;refine ZKM _ _ _ ?_;rw[ZLA,ZLA,Zo];apply ZAq;intro i;rw[ZBj];split
 ·rename_i hij;subst hij;rw[Zw,Zw];by_cases hj:j<d.length
  ·simp[hj,Zo]at h⊢;rw[h]
  ·simp[hj]
 ·rfl
theorem ZaL(d:Dn)(r:List Av):RF (d++ [r])=RF d++ [[.ref (d.length+1) r.length 0 r.length]]:=by
 unfold RF;rw[KC,ZQV,ZLq,Yf,Zo,ZM0]
theorem ZZu(d:Dn)(r:List Av):FM (d++ [r])=FM d++ [.rows false 188 2 (rows YE r)]:=by
 unfold FM;rw[KC,ZQV,ZYG]
theorem ZR7(d:Dn):(obD d).all (Ob.inP (fun i=>decide (i<(obD d).length)))=true:=ZYq 154 188 2 (d.map (rows YE))
theorem ZTX:Enters Tryz.prog 184:=ZZ 184
theorem ZNW(d:Dn)(j:Nat):d.set j (d.getD j [])=d:=by
 by_cases h:j<d.length
 ·rw[show d.getD j []=d[j] by simp[h]];simp
 ·rw[List.set_eq_of_length_le (by omega)]
theorem ZcL(d:Dn)(j:Nat)(hj:j<d.length)(hb:smD d)(hl:(d.getD j []).length≤1000000):ZL Tryz.prog 184 [.ref (j+1) (d.getD j []).length 0 (d.getD j []).length] (obD d) (.x (.bool (KH (d.getD j [])))) (obD d):=by
 have hbj: ∀p∈d.getD j [],p.1.length≤900000:=by rw[show d.getD j []=d[j] by simp[hj]];exact hb _ (Yl hj)
 have hc:=Zbb (d.getD j []) hbj hl;have:=ZL.row (args:= [.ref (j+1) (d.getD j []).length 0 (d.getD j []).length]) (OS:=obD d) (j+1) (by rw[show Zn (YO [j+1]) [D.ref (j+1) (d.getD j []).length 0 (d.getD j []).length]= [D.ref 0 (d.getD j []).length 0 (d.getD j []).length] by simp only[Zn,D.ren,YO,if_true]];exact hc) (by rw[ZBe];exact ZJw d j hj) rfl (by simp[Yb,D.inP,Zh]) (fun f=>rfl);rw[ZBn,ZbR d j hj,ZNW]at this;exact this
theorem Zbm(d:Dn)(hb:smD d)(hl: ∀r∈d,r.length≤1000000)(hld:d.length≤1000000):ZL Tryz.prog 161 [.ref 0 d.length 0 d.length] (obD d) (.x (.int .i64 (ZAO d))) (obD d):=by
 have hRl:=ZLu d;have hFl:=ZJD d;unfold ZAO;refine ZG.mcalls (fC 161 true ?_);intro C0 E0;have uu:=ξ6 hRl hFl @ZIK @ZHt @ZHd @ZHf;have tT:=(ZE:SsOk Tryz.prog ZQ);refine nz ?_;refine rg tT [0] ?_;refine rg tT [0,7] ?_;refine cd (fun h0=> ?_) (fun h0=> ?_)
 ·refine rg tT [2] ?_;refine lf ?_;rw[if_pos (by omega)];exact⟨rfl,rfl⟩
 ·refine rg tT [8,9,10] ?_;refine WI.loop (fun φ os=> ∃(j:Nat),φ= [(8,.ref 0 d.length 0 d.length),(9,.x (.int .i64 d.length)),(10,.x (.int .i64 j))]∧os=obD d∧j≤d.length∧(d.take j).all KH=true) (ZX d.length 10) ?_ (fun φ os hI=> ?_)
  ·exact⟨0,rfl,rfl,by omega,rfl⟩
  ·obtain⟨j,rfl,rfl,hj,hall⟩:=hI;refine nz ?_;refine rg tT [8,9,10,11] ?_;refine cd (fun h1=> ?_) (fun h1=> ?_)
   ·have hj4:j<d.length:=by omega
    have hdj:d[j]=d.getD j []:=by simp[hj4]
    have hlj:(d.getD j []).length≤1000000:=by rw[←hdj];exact hl _ (Yl hj4)
    have hrf:=ZWL d j hj4;have hfm:=ZJw d j hj4;have uu:=Jz uu hrf hfm;refine rg tT [4,8,9,10] ?_;refine rg (ZCQ ZE ZTX (ZcL d j hj4 hb hlj)) [8,9,10,16] ?_;refine cd (fun h2=> ?_) (fun h2=> ?_)
    ·refine rg tT [2] ?_;refine lf ?_;rw[if_neg (by omega),if_neg (by rw[YP KH d j hj4 (by rw[hdj];simpa using h2)];decide)];exact⟨rfl,rfl⟩
    ·refine rg tT [8,9,10] ?_;exact⟨⟨j+1,rfl,rfl,by omega,by rw[KD _ d j hj4,hall,hdj];simpa using h2⟩,by simp[ZX,Ab.get,D.val,ZH];omega⟩
   ·refine rg tT [2] ?_;refine lf ?_;rw[JH (by omega)]at hall;rw[if_neg (by omega),if_pos hall];exact⟨rfl,rfl⟩
end Go.Proofs.YtiogclkbccdefaaGreatDoor
end
section
namespace Go.Proofs.YtiogclkbccdefaaGreatDoor
open Go.RowKit Go.Bo Go.Ab
theorem ZbX(s:Tx)(hl:s.length≤900000)(hok:(YC s).2=true):ZL Tryz.prog 160 [.x (.str s)] [] (.tup [.ref 0 (YC s).1.length 0 (YC s).1.length,.x (.bool true)]) [.rows false 188 2 (rows YE (YC s).1)]:=by
 obtain⟨hb1,hb2⟩:=ZBs 43 _ s (Zl _);have hpl:(YC s).1=(Yr 43 s).map (fun x=>(Kw x).1)∧(Yr 43 s).all (fun x=>(Kw x).2)=true:=by
  unfold YC ZJ5 at hok⊢;split at hok
  ·rename_i h;rw[if_pos h];rw[ZKb]at h;exact⟨by rw[Jq];rfl,h⟩
  ·cases hok
 obtain⟨hpl,hpa⟩:=hpl;rw[hpl];clear hok hpl;have hsp:Yr (UInt8.ofNat (43:Int).toNat) s=Yr 43 s:=rfl;refine ZG.mcalls (fC 160 false ?_);intro C0 E0;have uu:=ξ6 @Ke.eq_1 @Ke.eq_2 @ZEQ.eq_1 @ZEQ.eq_2 hsp @ZQK;have tT:=ZN9;refine nz ?_;refine rg tT [0] ?_;refine rg tT [0,4] ?_;refine rg tT [4,10,11,12] ?_;refine WI.ownA 4 188 2 ?_;generalize Yr 43 s=l at hpa hb1 hb2⊢;refine WI.loop (fun φ os=> ∃(j:Nat),φ= [(4,.ref 0 j 0 j),(10,.x (.sl (rows ZB l))),(11,.x (.int .i64 l.length)),(12,.x (.int .i64 j))]∧os= [.rows false 188 2 (rows YE ((l.take j).map fun x=>(Kw x).1))]∧j≤l.length) (ZX l.length 12) ?_ (fun φ os hI=> ?_)
 ·exact⟨0,rfl,rfl,by omega⟩
 ·obtain⟨j,rfl,rfl,hj⟩:=hI;refine nz ?_;refine rg tT [4,10,11,12,13] ?_;refine cd (fun h0=> ?_) (fun h0=> ?_)
  ·have hj4:j<l.length:=by omega
   have hbj:=hb1 _ (Yl hj4);have hpj:(Kw l[j]).2=true:=YQ.1 hpa _ (Yl hj4);have hsc:decide (l[j].length≤900000)=true:=Zc (by omega);have uu:=Yq uu hsc;refine rg tT [4,6,10,11,12] ?_;refine rg tT [4,7,8,10,11,12] ?_;refine rg tT [4,7,10,11,12,22] ?_;refine ce (fun h1=> ?_) (fun h1=> ?_)
   ·rw[hpj]at h1;simp at h1
   ·refine rgp tT [4,10,11,12] ?_;refine Qm [0] ?_;refine ZAL ?_;refine nz ?_;refine WI.orderA [4,10,11,12] ?_;refine rg tT [4,10,11,12] ?_;exact⟨⟨j+1,rfl,by rw[Ko hj4,KC,ZQV,←ZL0],by omega⟩,by simp[ZX,Ab.get,D.val,ZH];omega⟩
  ·have e1:(rows YE ((l.take j).map fun x=>(Kw x).1)).length=j:=by simp[rows];omega
   have e2:(l.take j).length=j:=by simp;omega
   have uu:=Jz uu e1 e2;refine rg tT [2,3] ?_;refine lf ?_;have hz:l.length=j:=by omega
   rw[JH (l:=l) (by omega),Yf,hz];exact⟨rfl,rfl⟩
theorem ZQs:Enters Tryz.prog 160:=ZZ 160
theorem ZZ6(d:Dn)(s:Tx)(hl:s.length≤900000)(hok:(YC s).2=true):ZL Tryz.prog 160 [.x (.str s)] (obD d) (.tup [.ref (d.length+1) (YC s).1.length 0 (YC s).1.length,.x (.bool true)]) (.drw 154 1 (RF d)::FM (d++ [(YC s).1])):=by
 have:=ZL.new (OS:=obD d) (ZbX s hl hok) rfl (fun p=>rfl);rw[ZQV,JJ,ZJD]at this;rw[ZZu];exact this
theorem ZQJ:Enters Tryz.prog 161:=ZZ 161
theorem ZLr(s:Tx)(d:Dn)(hq:Yp s=(d,0))(hne:s≠ []):s.length≤4096∧(Yr 44 s).all (fun x=>(YC x).2)=true∧d=(Yr 44 s).map (fun x=>(YC x).1)∧mxD d≤8∧ZAO d=0:=by
 unfold Yp at hq;by_cases h1:s.length>4096
 ·rw[if_pos h1]at hq;cases hq
 rw[if_neg h1,if_neg hne]at hq;by_cases h2:(ZD6 s).all (·.2)=true
 ·rw[if_pos h2]at hq;by_cases h3:mxD (ZB3 s)>8
  ·rw[if_pos h3]at hq;cases hq
  rw[if_neg h3]at hq;by_cases h4:ZAO (ZB3 s)≠0
  ·rw[if_pos h4]at hq;simp only[Za]at hq;exact absurd hq.2 h4
  rw[if_neg h4]at hq;simp only[Za]at hq;obtain⟨rfl,-⟩:=hq;refine⟨by omega,?_,?_,by omega,Classical.not_not.1 h4⟩
  ·unfold ZD6 at h2;rw[ZKb]at h2;exact h2
  ·unfold ZB3 ZD6;rw[Jq];rfl
 ·rw[if_neg h2]at hq;cases hq
def ZLv:Tabs:=ZW (ZQ) 159 Ke
theorem ZUK:SsOk Tryz.prog ZLv:=ZJ (ZE) (ZZ 159) ZHi
theorem ZWw:(∀a,ZLv.q 159 a=Ke a)∧(∀f a o,ZLv.r f a o=none)∧(∀f a o,ZLv.k f a o=none):=⟨fun _=>rfl,fun _ _ _=>rfl,fun _ _ _=>rfl⟩
set_option maxHeartbeats 1000000 in
theorem ZZk(s:Tx)(d:Dn)(hq:Yp s=(d,0))(hne:s≠ []):ZL Tryz.prog 121 [.x (.str s)] [] (.tup [.ref 0 d.length 0 d.length,.x (.int .i64 0)]) (obD d):=by
 obtain⟨hs4,hall,hd,hmx8,hck⟩:=ZLr s d hq hne;clear hq;obtain⟨hb1,hb2⟩:=ZBs 44 _ s (Zl _);have hsm:smD d:=by
  have:=ZIT s (by omega);unfold ZB3 ZD6 at this;rw[Jq]at this;rw[hd];exact this
 have hsp:Yr (UInt8.ofNat (44:Int).toNat) s=Yr 44 s:=rfl;refine ZG.mcalls (fC 121 false ?_);intro C0 E0;have uu:=ξ8 @Ke.eq_1 @Ke.eq_2 hsp @ZIK @ZHt @ZHd @ZHf @ZWw;have tT:=ZUK;refine nz ?_;refine rg tT [0] ?_;refine rg tT [0,11] ?_;refine ce (fun h0=> ?_) (fun h0=> ?_)
 ·simp at h0;omega
 ·refine rg tT [0,15] ?_;refine ce (fun h1=> ?_) (fun h1=> ?_)
  ·exact hne (by simpa using h1)
  ·refine rg tT [0,4] ?_;refine rg tT [0,4,5] ?_;refine rg tT [4,5,19,20,21] ?_;refine WI.ownA 4 154 1 ?_;refine WI.toDA 0 ?_;generalize Yr 44 s=l at hb1 hb2 hall hd⊢;refine WI.loop (fun φ os=> ∃(j:Nat),φ= [(4,.ref 0 j 0 j),(5,.x (.int .i64 (mxD ((l.take j).map fun x=>(YC x).1)))),(19,.x (.sl (rows ZB l))),(20,.x (.int .i64 l.length)),(21,.x (.int .i64 j))]∧os=obD ((l.take j).map fun x=>(YC x).1)∧j≤l.length) (ZX l.length 21) ?_ (fun φ os hI=> ?_)
   ·exact⟨0,rfl,rfl,by omega⟩
   ·obtain⟨j,rfl,rfl,hj⟩:=hI;refine nz ?_;refine rg tT [4,5,19,20,21,22] ?_;refine cd (fun h2=> ?_) (fun h2=> ?_)
    ·have hj4:j<l.length:=by omega
     have hbj:=hb1 _ (Yl hj4);have hpc:=ZI8 l[j] (by omega);have hpj:(YC l[j]).2=true:=YQ.1 hall _ (Yl hj4);have hmt:(l.take (j+1)).map (fun x=>(YC x).1)=(l.take j).map (fun x=>(YC x).1)++ [(YC l[j]).1]:=by rw[Ko hj4,KC];rfl
     have hmx:mxD ((l.take (j+1)).map fun x=>(YC x).1)=max (mxD ((l.take j).map fun x=>(YC x).1)) (YC l[j]).1.length:=by rw[hmt,ZKz]
     have hml:((l.take j).map fun x=>(YC x).1).length=j:=by rw[Yf,JA];omega
     have hcall:=ZZ6 ((l.take j).map fun x=>(YC x).1) l[j] (by omega) hpj;rw[hml]at hcall;generalize hM:(l.take j).map (fun x=>(YC x).1)=M at hmt hmx hml hcall⊢;generalize hR:(YC l[j]).1=r at hmt hmx hcall hpc⊢;have hrl:=ZLu M;have hfl:=ZJD (M++ [r]);rw[Zx,ZS0,hml]at hfl;have hfg: ∀x:Ob,(FM (M++ [r])++ [x])[j+1]? =some x:=fun x=>by rw[Ki (by omega),hfl,ZH2];rfl
     rw[hml]at hrl;have hsn:=ZaL M r;rw[hml]at hsn;have hfm:(FM (M++ [r]))[j]? =some (.rows false 188 2 (rows YE r)):=by rw[ZJw (M++ [r]) j (by simp;omega)];simp[hml]
     have uu:=ξ5 uu hrl hfl hfg hfm;refine rg tT [4,5,7,19,20,21] ?_;refine rg (ZCQ ZE ZQs hcall) [4,5,8,9,19,20,21] ?_;refine rg tT [4,5,8,19,20,21,31] ?_;refine ce (fun h3=> ?_) (fun h3=> ?_)
     ·simp at h3
     ·refine rg tT [4,5,8,19,20,21] ?_;refine WI.post ?_;refine WI.regB tT [4,5,19,20,21] ?_
      iterate 2 refine oS ?_
      iterate 2 refine oG ?_
      refine oS ?_;refine oP ?_;refine ZLo (obD (M++ [r])) _ (by rw[obD,hsn];rfl) (Je _) (ZR7 _) (by simp only[ZAJ,ZFV,D.inP,JJ,hfl];simp) ?_;refine ZAL ?_;refine nz ?_;refine WI.orderA [4,5,19,20,21] ?_;refine rg tT [4,5,19,20,21] ?_;exact⟨⟨j+1,by rw[hmx,ZWD];first|done|rfl,by rw[hmt],by omega⟩,by simp[ZX,Ab.get,D.val,ZH];omega⟩
    ·obtain rfl:j=l.length:=by omega
     rw[KW,←hd];have hdl:d.length=l.length:=by rw[hd,Yf]
     rw[←hdl];have hcc:=Zbm d hsm (fun r hr=>by rw[hd]at hr;obtain⟨x,h1,rfl⟩:=YW.1 hr;have:=ZI8 x (by have:=hb1 x h1;omega);omega) (by omega);rw[hck]at hcc;refine rg tT [4,42] ?_;refine ce (fun h4=> ?_) (fun h4=> ?_)
     ·simp at h4;omega
     ·refine rg (ZCQ ZE ZQJ hcc) [4,10] ?_;refine rg tT [4,10,46] ?_;refine ce (fun h5=> ?_) (fun h5=> ?_)
      ·simp at h5
      ·refine rg tT [2,3] ?_;refine lf ?_;exact⟨rfl,rfl⟩
end Go.Proofs.YtiogclkbccdefaaGreatDoor
end
section
namespace Go.Proofs.YtiogclkbccdefaaGreatDoor
open Go.RowKit Go.Bo Go.Ab
def dgD(n:Nat):UInt8:=ZIV.getD n 0
def ZSN(c:UInt8):Bool:=decide ((c.toNat:Int)<32)||decide ((c.toNat:Int)=127)
def slD(c:UInt8)(f l:Bool):Bool:=spc c.toNat||(f&&(decide ((c.toNat:Int)=32)||decide ((c.toNat:Int)=35))||l&&decide ((c.toNat:Int)=32))
def ZMx(c:UInt8)(f l:Bool):Tx:=if ZSN c=true then [92,dgD (c.toNat/16),dgD (c.toNat % 16)]else if slD c f l=true then [92,c]else [c]
def ZCZ(s:Tx)(j:Nat):Tx:=ZMx (s.getD j 0) (decide (j=0)) (decide (j+1=s.length))
def ZBO(s:Tx):Nat→Tx
 |0=> []
 |j+1=>ZBO s j++ZCZ s j
def ZMb(s:Tx):Tx:=ZBO s s.length
theorem ZYs(c:UInt8)(f l:Bool):(ZMx c f l).length≤3:=by unfold ZMx;split;simp;split<;>simp
theorem ZIO(s:Tx): ∀j,(ZBO s j).length≤3*j
 |0=>by simp[ZBO]
 |j+1=>by
  have h1:=ZIO s j;have h2:=ZYs (s.getD j 0) (decide (j=0)) (decide (j+1=s.length));rw[ZBO,Zx];unfold ZCZ;omega
theorem ZdX(n:Nat)(h:n<256):IntKind.u8.wrap ((n:Int).tdiv 16)=((n/16:Nat):Int):=by
 rw[show(n:Int).tdiv 16=((n/16:Nat):Int)from rfl,IntWalk.u8_in _ (by omega)]
theorem Zdh(n:Nat):(n:Int).tmod 16=((n % 16:Nat):Int):=rfl
theorem Zaa(b:Tx)(c d e:UInt8):b.map Zk++ [[X.int .u8 (c.toNat:Int)],[X.int .u8 (d.toNat:Int)],[X.int .u8 (e.toNat:Int)]]=(b++ [c,d,e]).map Zk:=by rw[KC];rfl
theorem ZZa(b:Tx)(c:UInt8):b.map Zk++ [[X.int .u8 (c.toNat:Int)]]=(b++ [c]).map Zk:=by rw[KC];rfl
def ZLI:Tabs:=ZW (ZQ) 200 ZBG
theorem ZVX:SsOk Tryz.prog ZLI:=ZJ (ZE) (ZZ 200) ZKa
theorem ZXE:(∀a,ZLI.q 200 a=ZBG a)∧(∀f a o,ZLI.r f a o=none)∧(∀f a o,ZLI.k f a o=none):=⟨fun _=>rfl,fun _ _ _=>rfl,fun _ _ _=>rfl⟩
theorem Zag(s:Tx)(hl:s.length≤1000000):ZD Tryz.prog 177 [.x (.str s)] (.x (.str (ZMb s))):=by
 have hsl: ∀n,inB [44,43,34,92,60,62,59,61] n=spc n:=fun n=>rfl
 have hud: ∀n:Nat,([48,49,50,51,52,53,54,55,56,57,97,98,99,100,101,102]:Tx).getD n 0=dgD n:=fun n=>rfl
 refine ZG.pure (fC 177 true ?_) rfl;intro C0 E0;have uu:=ξ7 @ZBG.eq_1 @ZBG.eq_2 hsl hud @Qa @Ky @ZXE;have tT:=ZVX;refine nz ?_;refine rg tT [0] ?_;refine rg tT [0,3] ?_;refine rg tT [0,3,9,10,11] ?_;refine WI.ownA 3 5 1 ?_;refine WI.loop (fun φ os=> ∃(j:Nat),φ= [(0,.x (.str s)),(3,.ref 1 (ZBO s j).length 0 (ZBO s j).length),(9,.ref 0 s.length 0 s.length),(10,.x (.int .i64 s.length)),(11,.x (.int .i64 j))]∧os= [.rows true 5 1 (s.map Zk),.rows false 5 1 ((ZBO s j).map Zk)]∧j≤s.length) (ZX s.length 11) ?_ (fun φ os hI=> ?_)
 ·exact⟨0,rfl,rfl,by omega⟩
 ·obtain⟨j,rfl,rfl,hj⟩:=hI;have hle:=ZIO s j;refine nz ?_;refine rg tT [0,3,9,10,11,12] ?_;refine cd (fun h0=> ?_) (fun h0=> ?_)
  ·have hj4:j<s.length:=by omega
   have hst:ZBO s (j+1)=ZBO s j++ZCZ s j:=rfl;have hb8:(s.getD j 0).toNat<256:=ZMm _;have q0:(decide (0≤((s.getD j 0).toNat:Int)))=true:=Zc (by omega);have q1:=ZdX _ hb8;have q2:=Zdh (s.getD j 0).toNat;have q3:decide (((s.getD j 0).toNat/16:Nat)<(16:Int))=true:=Zc (by omega);have q4:decide (((s.getD j 0).toNat % 16:Nat)<(16:Int))=true:=Zc (by omega);have uu:=ξ7 uu (ZPl s j hj4) q0 q1 q2 q3 q4;refine rg tT [0,3,4,5,9,10,11] ?_;refine rg tT [0,3,5,6,7,9,10,11] ?_;refine rg tT [0,3,5,6,7,9,10,11,23] ?_;refine cd (fun h1=> ?_) (fun h1=> ?_)
   ·have hA:ZCZ s j= [92,dgD ((s.getD j 0).toNat/16),dgD ((s.getD j 0).toNat % 16)]:=by unfold ZCZ ZMx ZSN;rw[if_pos (by clear uu;grind)]
    have hn:(ZCZ s j).length=3:=by rw[hA];rfl
    have hrow:(ZBO s j).map Zk++ [[X.int .u8 92],[X.int .u8 ((dgD ((s.getD j 0).toNat/16)).toNat:Int)],[X.int .u8 ((dgD ((s.getD j 0).toNat % 16)).toNat:Int)]]=(ZBO s j++ZCZ s j).map Zk:=by rw[hA];exact Zaa _ 92 _ _
    refine WI.post ?_;refine WI.dregB tT [0,3,9,10,11] ?_
    iterate 2 refine Yd ?_
    iterate 2 refine dFG ?_
    refine Yd ?_
    iterate 2 refine dFG ?_
    iterate 2 refine dAG ?_
    refine Yd ?_;refine dP ?_;refine Qm [0,1] ?_;refine ZAL ?_;refine nz ?_;refine WI.orderA [0,3,9,10,11] ?_;refine rg tT [0,3,9,10,11] ?_;exact⟨⟨j+1,by rw[hst,Zx,hn];first|done|rfl,by rw[hst,←hrow];first|done|rfl,by omega⟩,by simp[ZX,Ab.get,D.val,ZH];omega⟩
   ·refine rg tT [0,3,5,9,10,11,39] ?_;refine cd (fun h2=> ?_) (fun h2=> ?_)
    ·have hA:ZCZ s j= [92,s.getD j 0]:=by unfold ZCZ ZMx ZSN slD;rw[if_neg (by clear uu;grind),if_pos (by clear uu;grind)]
     have hn:(ZCZ s j).length=1+1:=by rw[hA];rfl
     have hrow:(ZBO s j).map Zk++ [[X.int .u8 92]]++ [[X.int .u8 ((s.getD j 0).toNat:Int)]]=(ZBO s j++ZCZ s j).map Zk:=by rw[hA,Yk,KC];rfl
     refine rgp tT [0,3,5,9,10,11] ?_;refine Qm [0,1] ?_;refine ZAL ?_;refine nz ?_;refine rgp tT [0,3,9,10,11] ?_;refine Qm [0,1] ?_;refine ZAL ?_;refine nz ?_;refine WI.orderA [0,3,9,10,11] ?_;refine rg tT [0,3,9,10,11] ?_;exact⟨⟨j+1,by rw[hst,Zx,hn];first|done|rfl,by rw[hst,←hrow];first|done|rfl,by omega⟩,by simp[ZX,Ab.get,D.val,ZH];omega⟩
    ·have hA:ZCZ s j= [s.getD j 0]:=by unfold ZCZ ZMx ZSN slD;rw[if_neg (by clear uu;grind),if_neg (by clear uu;grind)]
     have hn:(ZCZ s j).length=1:=by rw[hA];rfl
     have hrow:(ZBO s j).map Zk++ [[X.int .u8 ((s.getD j 0).toNat:Int)]]=(ZBO s j++ZCZ s j).map Zk:=by rw[hA];exact ZZa _ _
     refine rgp tT [0,3,9,10,11] ?_;refine Qm [0,1] ?_;refine ZAL ?_;refine nz ?_;refine WI.orderA [0,3,9,10,11] ?_;refine rg tT [0,3,9,10,11] ?_;exact⟨⟨j+1,by rw[hst,Zx,hn];first|done|rfl,by rw[hst,←hrow];first|done|rfl,by omega⟩,by simp[ZX,Ab.get,D.val,ZH];omega⟩
  ·have uu:=Yq uu (ZLa (ZBO s j));refine rg tT [2] ?_;refine lf ?_;obtain rfl:j=s.length:=by omega
   first|rfl|(simp only[Ky,ZLa];first|done|rfl)
def ZHF:List D→Option (Bool×D)
 | [.x (.str s)]=>some (decide (s.length≤1000000),.x (.str (ZMb s)))
 |_=>none
theorem ZUt: ∀args r,ZHF args=some (true,r)→ZD Tryz.prog 177 args r:=by
 intro args r h;unfold ZHF at h;split at h
 ·rename_i s;simp only[Ze,Za,ZS,Zi,true_and]at h;obtain⟨h1,rfl⟩:=h;exact(Zag s h1)
 ·cases h
end Go.Proofs.YtiogclkbccdefaaGreatDoor
end
