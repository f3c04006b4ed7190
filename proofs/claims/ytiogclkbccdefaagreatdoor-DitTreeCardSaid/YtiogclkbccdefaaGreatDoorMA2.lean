import Derived.Test.YtiogclkbccdefaaGreatDoorMA1
import Derived.Test.YtiogclkbccdefaaGreatDoorLA5
import Derived.Test.YtiogclkbccdefaaGreatDoorProg
import Derived.Shelf.Spec.SlicesGrow
import Derived.Test.YtiogclkbccdefaaGreatDoorSh
import Derived.Handy
import Derived.Lib.SlBytesConst
import Derived.Shelf.Strings.Cut
set_option linter.unusedSimpArgs false
set_option linter.unusedVariables false
set_option maxRecDepth 100000
section
namespace Go.Proofs.YtiogclkbccdefaaGreatDoor
open Go.RowKit Go.Bo Go.Ab
def cmpS(a b:List UInt8):Int:=if Op.bytesLess a b=true then-1 else if Op.bytesLess b a=true then 1 else 0
theorem ZeS(s:List UInt8):ZC Tryz.prog 129 [.x (.str s)] (.x (.bool false)):=by
 have hbs: ∀x:List UInt8,(x !=x)=false:=λx=>by simp
 refine ZI.pure (fC 129 true ?_) rfl;intro C0 E0;have uu:=hbs;have tT:=(ZF:SsOk Tryz.prog ZO);refine nz ?_;refine rg tT [0] ?_;refine rg tT [2] ?_;refine lf ?_
 first|rfl|exact⟨rfl,rfl⟩|trivial
def ZIZ:J8->J5
 | [.x (.str s)]=>some (true,.x (.bool false))
 |_=>none
theorem ZYe: ∀args r,ZIZ args=some (true,r)->ZC Tryz.prog 129 args r:=by
 intro args r h;unfold ZIZ at h;split at h
 .rename_i s;simp only[Ze,ZZ,ZS,Zd,true_and]at h;obtain rfl:=h;exact(ZeS s)
 .cases h
def ZN5:Tabs:=ZT (ZO) 129 ZIZ
theorem ZXk:SsOk Tryz.prog ZN5:=ZH (ZF) (ZW 129) ZYe
theorem Zbw:(∀a,ZN5.q 129 a=ZIZ a)/\(∀f a o,ZN5.r f a o=none)/\(∀f a o,ZN5.k f a o=none):=⟨λ_=>rfl,λ_ _ _=>rfl,λ_ _ _=>rfl⟩
theorem cmpS_c(a b:List UInt8):ZC Tryz.prog 82 [.x (.str a),.x (.str b)] (.x (.int .i64 (cmpS a b))):=by
 unfold cmpS;refine ZI.pure (fC 82 true ?_) rfl;intro C0 E0;have uu:=JX @ZIZ.eq_1 @ZIZ.eq_2 @Zbw;have tT:=ZXk;refine nz ?_;refine rg tT [0,1] ?_;refine rg tT [0,1,5] ?_;refine rg tT [0,1,5,6] ?_;refine rg tT [0,1,6,11] ?_;refine cd (λh0=> ?_) (λh0=> ?_)
 .refine rg tT [12] ?_;refine cd (λh1=> ?_) (λh1=> ?_)
  .refine rg tT [4] ?_;refine lf ?_
   first|rfl|exact⟨rfl,rfl⟩|trivial
  .refine rg tT [4] ?_;refine lf ?_
   first|rfl|exact⟨rfl,rfl⟩|trivial
 .refine rg tT [0,1,13] ?_;refine cd (λh2=> ?_) (λh2=> ?_)
  .refine rg tT [4] ?_;refine lf ?_
   first|rfl|exact⟨rfl,rfl⟩|trivial
  .refine rg tT [0,1,16] ?_;refine cd (λh3=> ?_) (λh3=> ?_)
   .refine rg tT [4] ?_;refine lf ?_;rw[if_pos (by clear uu;grind)]
   .refine rg tT [19] ?_;refine cd (λh4=> ?_) (λh4=> ?_)
    .refine rg tT [4] ?_;refine lf ?_;rw[if_neg (by clear uu;grind),if_pos ((bl_tot a b (by clear uu;grind)).resolve_left (by clear uu;grind))]
    .refine rg tT [4] ?_;refine lf ?_;obtain rfl:a=b:=by clear uu;grind
     rw[bl_irr];rfl
def ZE8:J8->J5
 | [.x (.str a),.x (.str b)]=>some (true,.x (.int .i64 (cmpS a b)))
 |_=>none
theorem ZTD: ∀args r,ZE8 args=some (true,r)->ZC Tryz.prog 82 args r:=by
 intro args r h;unfold ZE8 at h;split at h
 .rename_i a b;simp only[Ze,ZZ,ZS,Zd,true_and]at h;obtain rfl:=h;exact(cmpS_c a b)
 .cases h
def ZOS:Tabs:=ZT (ZO) 82 ZE8
theorem ZXv:SsOk Tryz.prog ZOS:=ZH (ZF) (ZW 82) ZTD
theorem Zbi:(∀a,ZOS.q 82 a=ZE8 a)/\(∀f a o,ZOS.r f a o=none)/\(∀f a o,ZOS.k f a o=none):=⟨λ_=>rfl,λ_ _ _=>rfl,λ_ _ _=>rfl⟩
theorem ZdV(n t:List UInt8)(R:J6):ZC Tryz.prog 125 [.agg [.x (.str n),.x (.sl R)],.x (.str t)] (.x (.int .i64 (cmpS n t))):=by
 refine ZI.pure (fC 125 true ?_) rfl;intro C0 E0;have uu:=JX @ZE8.eq_1 @ZE8.eq_2 @Zbi;have tT:=ZXv;refine nz ?_;refine rg tT [1,2] ?_;refine rg tT [4] ?_;refine lf ?_
 first|rfl|exact⟨rfl,rfl⟩|trivial
def ZII:J8->J5
 | [.agg [.x (.str n),.x (.sl R)],.x (.str t)]=>some (true,.x (.int .i64 (cmpS n t)))
 |_=>none
theorem ZY7: ∀args r,ZII args=some (true,r)->ZC Tryz.prog 125 args r:=by
 intro args r h;unfold ZII at h;split at h
 .rename_i n R t;simp only[Ze,ZZ,ZS,Zd,true_and]at h;obtain rfl:=h;exact(ZdV n t R)
 .cases h
theorem ZOE(l:List ZY)(j:Nat)(h:j<l.length):(rows ZX l)[j]? =some [X.str (l.getD j ([],[],())).1,X.sl (rows ZB (l.getD j ([],[],())).2.1)]:=by
 simp[rows,h,ZX,JT,ZB,rSl,ZAg]
abbrev SoA(l:List ZY):Prop:=l.Pairwise λa b=>Op.bytesLess a.1 b.1=true
theorem Zdd{l:List ZY}(hs:SoA l)(n:List UInt8)(h:Nat)(hl:h<l.length):Op.bytesLess l[h].1 n=true↔h<Zx l n:=by
 constructor
 .intro hb;apply ZM0;intro hc;have hle:Zx l n<=h:=by omega
  have hpl:Zx l n<l.length:=by omega
  have hst:=ZNW l n hpl;rcases Nat.lt_or_eq_of_le hle with hlt|heq
  .have:=ZJa.1 hs _ _ hpl hl hlt;rw[bl_trans _ _ _ this hb]at hst;cases hst
  .have:l[Zx l n].1=l[h].1:=by congr 2
   rw[this,hb]at hst;cases hst
 .intro hb;exact ZNE l n h hb
theorem ZRW(a b:List UInt8):cmpS a b<0↔Op.bytesLess a b=true:=by
 unfold cmpS;split
 .rename_i h;simp[h]
 .rename_i h;split<;>simp[h]
theorem ZQm(a b:List UInt8):cmpS a b=0↔a=b:=by
 unfold cmpS;split
 .rename_i h;constructor
  .intro k;cases k
  .intro k;subst k;rw[bl_irr]at h;cases h
 .rename_i h;split
  .rename_i h2;constructor
   .intro k;cases k
   .intro k;subst k;rw[bl_irr]at h2;cases h2
  .rename_i h2;constructor
   .intro _;apply ZM0;intro hne;rcases bl_tot a b hne with k|k
    .exact h k
    .exact h2 k
   .intro _;rfl
theorem ZdI(i j:Nat)(h:i+j<=4000000):IntKind.i64.wrap ((IntKind.u64.wrap ((i:Int)+(j:Int))).fdiv (2^min 1 IntKind.u64.bits))=(((i+j)/2:Nat):Int):=by
 have e1:IntKind.u64.wrap ((i:Int)+(j:Int))=((i+j:Nat):Int):=by
  rw[show((i:Int)+(j:Int))=((i+j:Nat):Int) by omega];simp[IntKind.wrap,IntKind.bits,IntKind.signed];omega
 have e2:(2^min 1 IntKind.u64.bits:Int)=2:=rfl;rw[e1,e2];have e3:((i+j:Nat):Int).fdiv 2=(((i+j)/2:Nat):Int):=by
  rw[Int.fdiv_eq_ediv_of_nonneg _ J0];omega
 rw[e3,IntKind.wrap_i64];omega
def dif(φ:J4)(_:J7):Nat:=((ZD (Go.Ab.get φ 10).val).getD 0-(ZD (Go.Ab.get φ 9).val).getD 0).toNat
def ZNF:Tabs:=ZT (ZO) 125 ZII
theorem ZXo:SsOk Tryz.prog ZNF:=ZH (ZF) (ZW 125) ZY7
theorem ZbM:(∀a,ZNF.q 125 a=ZII a)/\(∀f a o,ZNF.r f a o=none)/\(∀f a o,ZNF.k f a o=none):=⟨λ_=>rfl,λ_ _ _=>rfl,λ_ _ _=>rfl⟩
theorem Zhh(l:List ZY)(n:List UInt8)(hs:SoA l)(hl:l.length<=1000000):ZC Tryz.prog 124 [.x (.sl (rows ZX l)),.x (.str n),.fn 125 []] (.tup [.x (.int .i64 (Zx l n)),.x (.bool (ZCS l n))]):=by
 have hpl:=ZGb l n;have hhit:ZCS l n=match l[Zx l n]? with|some a=>a.1==n|none=>false:=rfl
 refine ZI.pure (fC 124 true ?_) rfl;intro C0 E0;have uu:=JX @ZII.eq_1 @ZII.eq_2 @ZbM;have tT:=ZXo;refine nz ?_;refine rg tT [0,1,2] ?_;refine rg tT [0,1,2,8] ?_;refine rg tT [0,1,2,8,9,10] ?_;refine WI.loop (λφ os=> ∃(i j:Nat),φ= [(0,.x (.sl (rows ZX l))),(1,.x (.str n)),(2,.fn 125 []),(8,.x (.int .i64 l.length)),(9,.x (.int .i64 i)),(10,.x (.int .i64 j))]/\os= []/\i<=Zx l n/\Zx l n<=j/\j<=l.length) (dif) ?_ (λφ os hI=> ?_)
 .exact⟨0,l.length,rfl,rfl,J0,hpl,J0⟩
 .obtain⟨i,j,rfl,rfl,hi,hj,hjl⟩:=hI;refine nz ?_;refine rg tT [0,1,2,8,9,10,17] ?_;refine cd (λh0=> ?_) (λh0=> ?_)
  .refine rg tT [0,1,2,8,9,10,11] ?_;have hij:i<j:=by omega
   rw[ZdI i j J0];obtain⟨M,hM⟩: ∃M,M=(i+j)/2:=⟨_,rfl⟩;rw[<-hM];have hMl:M<l.length:=by omega
   have hrw:=ZOE l M hMl;have hiff:=Zdd hs n M hMl;rw[show l[M]=l.getD M ([],[],()) by simp[hMl],<-ZRW]at hiff;generalize l.getD M ([],[],())=x at hrw hiff;have uu:=Ya uu hrw;refine rg tT [0,1,2,8,9,10,11,31] ?_;refine cd (λh1=> ?_) (λh1=> ?_)
   .have hlt:M<Zx l n:=hiff.1 (by simpa using h1);refine rg tT [0,1,2,8,9,10] ?_
    first|exact⟨⟨M+1,j,rfl,rfl,J0,J0,J0⟩,by simp[dif,Ab.get,D.val,ZD];omega⟩|exact⟨⟨i,M,rfl,rfl,J0,J0,J0⟩,by simp[dif,Ab.get,D.val,ZD];omega⟩
   .have hlt: ¬M<Zx l n:=λh=>absurd (hiff.2 h) (by simpa using h1)
    refine rg tT [0,1,2,8,9,10] ?_
    first|exact⟨⟨M+1,j,rfl,rfl,J0,J0,J0⟩,by simp[dif,Ab.get,D.val,ZD];omega⟩|exact⟨⟨i,M,rfl,rfl,J0,J0,J0⟩,by simp[dif,Ab.get,D.val,ZD];omega⟩
  .obtain rfl:Zx l n=i:=by omega
   by_cases hk:Zx l n<l.length
   .have hrw:=ZOE l (Zx l n) hk;rw[YA hk,show l[Zx l n]=l.getD (Zx l n) ([],[],()) by simp[hk]]at hhit;generalize l.getD (Zx l n) ([],[],())=x at hrw hhit;have hd:=ZL (show((Zx l n:Nat):Int)<(l.length:Int) by omega);have uu:=JX uu hrw hd;refine rg tT [6,7] ?_;refine lf ?_;have hcb:(cmpS x.1 n==0)=(x.1==n):=by rw[Qq];simp[ZQm]
    rw[hhit,hcb]
   .have hrw:(rows ZX l)[Zx l n]? =none:=ZA2 (by rw[Zh];omega);rw[ZA2 J0]at hhit;have hd:=decide_eq_false (show ¬((Zx l n:Nat):Int)<(l.length:Int) by omega);have uu:=JX uu hrw hd;refine rg tT [6,7] ?_;refine lf ?_;rw[hhit]
def ZHy:J8->J5
 | [.x (.sl R),.x (.str n),.fn 125 []]=>(Zb ZX R).bind λl=>some (decide (SoA l/\l.length<=1000000),.tup [.x (.int .i64 (Zx l n)),.x (.bool (ZCS l n))])
 |_=>none
theorem ZUr: ∀args r,ZHy args=some (true,r)->ZC Tryz.prog 124 args r:=by
 intro args r h;unfold ZHy at h;split at h
 .rename_i R n;obtain⟨l,hr0,h⟩:=Zv h;simp only[Ze,ZZ,ZS,Zd,true_and]at h;obtain⟨h1,rfl⟩:=h;rw[<-Za YR hr0];exact(Zhh l n h1.1 h1.2)
 .cases h
end Go.Proofs.YtiogclkbccdefaaGreatDoor
end
section
namespace Go.Ab
open Go.RowKit Go.Bo
section
variable {P:Program} {c:Ctx} {E0:Env} {os0 os:J7} {n:Nat} {Q:Exit->J4->J7->Prop} {φ:J4}
theorem Rel.reob{E:Env}(R:Rel c E os){i:Nat}{o o':Ob}(ho:os[i]? =some o)(hk: ∀k,o.kd=some k->o'.kd=some k)(hs: ∀sz n,o.sl? =some (sz,n)->o'.sl? =some (sz,n))(hm: ∀p b,o'.mb p b->o.mb p b)
  (hok: ∀p,E.ob[i]? =some p->OK E os o p->Evo E os E (os.set i o')->OK E (os.set i o') o' p):Rel c E (os.set i o')/\Evo E os E (os.set i o'):=by
 obtain⟨p,hp,hok0⟩:=R.at ho;have hset:E.ob.set i p=E.ob:=by
  apply ZBG;intro j;rw[ZB3];split
  .rename_i h;subst h;rw[hp];simp[(ZV hp).1]
  .rfl
 have hE:(⟨E.w,E.st,E.ob.set i p⟩:Env)=E:=by rw[hset]
 obtain⟨R',ev⟩:=R.set ho hp E.w o' p (Kept.refl _ _) (λb hb=> .inl (hm p b hb)) (λsz n h=>⟨n,hs sz n h,.inl ⟨rfl,rfl⟩⟩) (λk h=>⟨rfl,hk k h⟩) (λev=>by
  rw[hE]at ev|-;exact hok p hp hok0 ev)
 rw[hE]at R' ev;exact⟨R',ev⟩
theorem WI.ownBox(b j e sz:Nat){ds:J8}(hb:os[b]? =some (.box ds))(hj:ds[j]? =some (.x .nils)){ic:IC}(h:WI P c E0 os0 n ic Q φ (os.set b (.box (ds.set j (.ref os.length 0 0 0)))++ [.rows false e sz []])):WI P c E0 os0 n ic Q φ os:=by
 refine WI.weak (λE a R hf=> ?_) h;obtain⟨E',k1,k2,k3,k4⟩:=Qu (fz:=false) (e:=e) (sz:=sz) (rs:= []) (cu:= .slice none 0 0) (xs:= []) R.rel (Kept.refl _ E.w) ⟨J1,.inl ⟨rfl,rfl⟩⟩ (λb hb=>by cases hb) (λr hr=>by cases hr) (λi r j x v h=>by simp at h);have hbl:=(ZV hb).1;have hb':(os++ [Ob.rows false e sz []])[b]? =some (.box ds):=by rw[Yc hbl];exact hb
 obtain⟨R2,e2⟩:=k2.reob (o':= .box (ds.set j (.ref os.length 0 0 0))) hb' (λk h=>h) (λsz n h=>by cases h) (λp b h=>h) (λp hp hok ev=>by
  obtain⟨cs,ty,g1,g2,g3⟩:=hok;refine⟨cs,ty,g1,by rw[ZJA];exact g2,λk d v hd hv=> ?_⟩;rw[ZB3]at hd;split at hd
  .rename_i hjk;subst hjk;split at hd
   .cases hd;have h1:=g3 j _ v hj hv;have h2:=V.nils h1.1;subst h2;exact⟨k4.mono ev,h1.2⟩
   .cases hd
  .exact⟨(g3 k d v hd hv).1.mono ev,(g3 k d v hd hv).2⟩)
 rw[ZMn _ _ hbl]at R2 e2;exact⟨E',k1,⟨R2,(R.evo.trans k3).trans e2⟩,hf.size,hf.defers,λu=>((hf.slot u).mono k3).mono e2⟩
end
end Go.Ab
end
section
namespace Go.Proofs.YtiogclkbccdefaaGreatDoor
open Go.RowKit Go.Bo Go.Ab Go.Shelf
def ZUx:Ren:=⟨λ|4=>113|n=>n,λ|22=>34|25=>9|n=>n,λn=>n⟩
theorem ZM4:Go.Proofs.Lays8.n4 Tryz.prog ZUx where
 mixed:=by kernel_rfl
 f4:=⟨"slices.Grow[[]string,string]",by decide,J3⟩
 t0:=by kernel_rfl
 a0:=λw=>by kernel_rfl
 z0:=λw=>by kernel_rfl
 v0:=λw=>by kernel_rfl
 t3:=by kernel_rfl
 a3:=λw=>by kernel_rfl
 z3:=λw=>by kernel_rfl
 v3:=λw=>by kernel_rfl
 t4:=by kernel_rfl
 a4:=λw=>by kernel_rfl
 z4:=λw=>by kernel_rfl
 v4:=λw=>by kernel_rfl
 t9:=by kernel_rfl
 a9:=λw=>by kernel_rfl
 z9:=λw=>by kernel_rfl
 v9:=λw=>by kernel_rfl
 t20:=by kernel_rfl
 a20:=λw=>by kernel_rfl
 z20:=λw=>by kernel_rfl
 v20:=λw=>by kernel_rfl
 t22:=by kernel_rfl
 a22:=λw=>by kernel_rfl
 z22:=λw=>by kernel_rfl
 v22:=λw=>by kernel_rfl
theorem ZTY:Go.Ab.Enters Tryz.prog 113:=ZM4.f4.enters rfl
theorem Zfw(n:Nat)(hn:n<=1000000):ZN Tryz.prog 113 [.x .nils,.x (.int .i64 n)] [] (.ref 0 0 0 0) [.rows false 9 1 []]:=by
 intro c E vs R hvl;obtain⟨hsz,hv⟩:=hvl;obtain⟨v0,v1,rfl⟩: ∃v0 v1,vs= #[v0,v1]:=by
  obtain⟨vl⟩:=vs
  match vl,hsz with
  | [a,b],_=>exact⟨a,b,rfl⟩
 have h0:=hv 0 _ v0 rfl rfl;have h1:=hv 1 _ v1 rfl rfl;cases h0 with
 |x h0=>
 cases h1 with
 |x h1=>
 cases h1 with
 |int _ _=>
 cases h0 with
 |nils=>
 by_cases hz:n=0
 .subst hz;refine(Go.Proofs.Any8.slices_Grow_room ZM4 none 0 0 0 E.w (Zm _) J0 J0 (Zm _)).mono ?_;rintro e w' ⟨rfl,rfl⟩;obtain⟨E',h1,h2,h3,h4⟩:=Qu R (fz:=false) (e:=9) (sz:=1) (rs:= []) (cu:= .slice none 0 0) (xs:= []) (Kept.refl _ _) ⟨rfl,.inl ⟨rfl,rfl⟩⟩ (λb hb=>by simp[Value.ownBlock]at hb) (λr hr=>by cases hr) (λi r j x v h=>by simp at h);exact⟨_,E',rfl,h1,h2,h3,h4⟩
 .have hi:(Tryz.prog.info? 9).map (λi=>(i.zero,i.size,i.bytes))=some (some (.string ByteArray.empty),1,16):=by kernel_rfl
  obtain⟨i0,hi0,hi1⟩:=Zc hi;simp only[ZZ]at hi1;obtain⟨hz0,hs0,hb0⟩:=hi1;refine(Go.Proofs.Any8.slices_Grow_grow ZM4 i0 (.string ByteArray.empty) hi0 hz0 J0 none 0 0 n [] E.w (Zm _) J0 (by rw[hb0];omega) J0 J1 (λ_=>rfl) (λa h=>by cases h)).mono ?_;rintro e w' ⟨rfl,rfl⟩;have hG:=grownCap_le_maxLen E.w (0+n) 0 9 (by unfold maxLen;omega);have hGn:0+n<=grownCap E.w (0+n) 0 9:=grownCap_ge E.w _ _ _;have hgr:ZUx.t 25=9:=rfl;rw[hgr];generalize grownCap E.w (0+n) 0 9=G at hG hGn|-;have hcs:(([]:List Value).toArray++Builtin.zeroCells (Value.string ByteArray.empty).cells (0+n-0)++Builtin.zeroCells (Value.string ByteArray.empty).cells (G-(0+n))).size=G*1:=by
   simp[Builtin.zeroCells,Value.cells]<;>omega
  obtain⟨E',h1,h2,h3,h4⟩:=Qu R (fz:=false) (e:=9) (sz:=1) (rs:= []) (cu:= .slice (some ⟨E.w.heap.size,0,none⟩) 0 G) (xs:= [])
   (Kept.of_none (((Qd.refl E.w).dr.al (.cells (([]:List Value).toArray++Builtin.zeroCells (Value.string ByteArray.empty).cells (0+n-0)++Builtin.zeroCells (Value.string ByteArray.empty).cells (G-(0+n))) 9)).grown none))
   ⟨rfl,.inr ⟨E.w.heap.size,G,_,(0,0),rfl,heap_alloc_new _ _,Jy _,hG,hcs,J1,.inl rfl⟩⟩ (λb hb=>by simp[Value.ownBlock]at hb;omega) (λr hr=>by cases hr) (λi r j x v h=>by simp at h)
  exact⟨_,E',rfl,h1,h2,h3,h4⟩
def ZHQ:J8->J7->Option (Bool×D×J7)
 | [.x .nils,.x (.int .i64 n)],[]=>some (decide (0<=n/\n.toNat<=1000000),.ref 0 0 0 0,[.rows false 9 1 []])
 |_,_=>none
theorem ZaI: ∀args os r os',ZHQ args os=some (true,r,os')->ZN Tryz.prog 113 args os r os':=by
 intro args os r os' h;unfold ZHQ at h;split at h
 .rename_i n;simp only[Ze,ZZ,Zd]at h;obtain⟨⟨h1,h2⟩,rfl,rfl⟩:=h;have:=Zfw n.toNat h2;rwa [Int.toNat_of_nonneg h1]at this
 .cases h
def ZIg:Tabs:=Jz (ZO) 113 ZHQ
theorem ZOT:SsOk Tryz.prog ZIg:=JE (ZF) ZTY ZaI
theorem ZQO:(∀a,ZIg.q 113 a=none)/\(∀a o,ZIg.t 113 a o=Yx ZHQ a o)/\(∀f a o,ZIg.r f a o=none)/\(∀f a o,ZIg.k f a o=none):=⟨λ_=>rfl,λ_ _=>rfl,λ_ _ _=>rfl,λ_ _ _=>rfl⟩
theorem ZSz(a b:List (List UInt8))(ha:a.length<=100000)(hb:b.length<=100000):ZC Tryz.prog 73 [.x (.sl [[.sl (rows ZB a)],[.sl (rows ZB b)]])] (.x (.sl (rows ZB (a++b)))):=by
 refine ZI.pure (fC 73 true ?_) rfl;intro C0 E0;have uu:=JX @ZHQ.eq_1 @ZHQ.eq_2 @ZQO;have tT:=ZOT;refine nz ?_;refine rg tT [0] ?_;refine rg tT [0,3] ?_;refine rg tT [0,3,9,10,11] ?_;refine WI.loopN 3 ?_;refine WI.round ?_;refine nz ?_;refine rg tT [0,3,9,10,11,12] ?_;refine ct (λh0=> ?_) (λh0=> ?_)
 .refine rg tT [0,3,5,9,10,11] ?_;refine rg tT [0,3,9,10,11] ?_;refine rg tT [0,3,9,10,11,20] ?_;refine ce (λh1=> ?_) (λh1=> ?_)
  .first|omega|(simp at h1;done)|(simp at h1;omega)
  .refine rg tT [0,3,9,10,11] ?_;refine WI.round ?_;refine nz ?_;refine rg tT [0,3,9,10,11,12] ?_;refine ct (λh0=> ?_) (λh0=> ?_)
   .refine rg tT [0,3,5,9,10,11] ?_;refine rg tT [0,3,9,10,11] ?_;refine rg tT [0,3,9,10,11,20] ?_;refine ce (λh1=> ?_) (λh1=> ?_)
    .first|omega|(simp at h1;done)|(simp at h1;omega)
    .refine rg tT [0,3,9,10,11] ?_;refine WI.round ?_;refine nz ?_;refine rg tT [0,3,9,10,11,12] ?_;refine ce (λh0=> ?_) (λh0=> ?_)
     .exact absurd h0 (by decide)
     .refine rg tT [0,6] ?_;refine rg tT [6,25,26,27] ?_;refine WI.loopN 3 ?_;refine WI.round ?_;refine nz ?_;refine rg tT [6,25,26,27,28] ?_;refine ct (λh2=> ?_) (λh2=> ?_)
      .refine rg tT [6,8,25,26,27] ?_;refine rg tT [6,25,26,27] ?_;refine rg tT [6,25,26,27] ?_;refine WI.round ?_;refine nz ?_;refine rg tT [6,25,26,27,28] ?_;refine ct (λh2=> ?_) (λh2=> ?_)
       .refine rg tT [6,8,25,26,27] ?_;refine rg tT [6,25,26,27] ?_;refine rg tT [6,25,26,27] ?_;refine WI.round ?_;refine nz ?_;refine rg tT [6,25,26,27,28] ?_;refine ce (λh2=> ?_) (λh2=> ?_)
        .exact absurd h2 (by decide)
        .refine rg tT [2] ?_;refine lf ?_;rw[Yi J1]
       .exact absurd h2 (by decide)
      .exact absurd h2 (by decide)
   .exact absurd h0 (by decide)
 .exact absurd h0 (by decide)
theorem ZU3(b:List (List UInt8))(hb:b.length<=100000):ZC Tryz.prog 73 [.x (.sl [[.nils],[.sl (rows ZB b)]])] (.x (.sl (rows ZB b))):=by
 refine ZI.pure (fC 73 true ?_) rfl;intro C0 E0;have uu:=JX @ZHQ.eq_1 @ZHQ.eq_2 @ZQO;have tT:=ZOT;refine nz ?_;refine rg tT [0] ?_;refine rg tT [0,3] ?_;refine rg tT [0,3,9,10,11] ?_;refine WI.loopN 3 ?_;refine WI.round ?_;refine nz ?_;refine rg tT [0,3,9,10,11,12] ?_;refine ct (λh0=> ?_) (λh0=> ?_)
 .refine rg tT [0,3,5,9,10,11] ?_;refine rg tT [0,3,9,10,11] ?_;refine rg tT [0,3,9,10,11,20] ?_;refine ce (λh1=> ?_) (λh1=> ?_)
  .first|omega|(simp at h1;done)|(simp at h1;omega)
  .refine rg tT [0,3,9,10,11] ?_;refine WI.round ?_;refine nz ?_;refine rg tT [0,3,9,10,11,12] ?_;refine ct (λh0=> ?_) (λh0=> ?_)
   .refine rg tT [0,3,5,9,10,11] ?_;refine rg tT [0,3,9,10,11] ?_;refine rg tT [0,3,9,10,11,20] ?_;refine ce (λh1=> ?_) (λh1=> ?_)
    .first|omega|(simp at h1;done)|(simp at h1;omega)
    .refine rg tT [0,3,9,10,11] ?_;refine WI.round ?_;refine nz ?_;refine rg tT [0,3,9,10,11,12] ?_;refine ce (λh0=> ?_) (λh0=> ?_)
     .exact absurd h0 (by decide)
     .refine rg tT [0,6] ?_;refine rg tT [6,25,26,27] ?_;refine WI.loopN 3 ?_;refine WI.round ?_;refine nz ?_;refine rg tT [6,25,26,27,28] ?_;refine ct (λh2=> ?_) (λh2=> ?_)
      .refine rg tT [6,8,25,26,27] ?_;refine rg tT [6,25,26,27] ?_;refine rg tT [6,25,26,27] ?_;refine WI.round ?_;refine nz ?_;refine rg tT [6,25,26,27,28] ?_;refine ct (λh2=> ?_) (λh2=> ?_)
       .refine rg tT [6,8,25,26,27] ?_;refine rg tT [6,25,26,27] ?_;refine rg tT [6,25,26,27] ?_;refine WI.round ?_;refine nz ?_;refine rg tT [6,25,26,27,28] ?_;refine ce (λh2=> ?_) (λh2=> ?_)
        .exact absurd h2 (by decide)
        .refine rg tT [2] ?_;refine lf ?_
         first|rfl|(rw[Yi J1])
       .exact absurd h2 (by decide)
      .exact absurd h2 (by decide)
   .exact absurd h0 (by decide)
 .exact absurd h0 (by decide)
open Go.RowKit Go.Bo Go.Ab
theorem Zao{a b:List UInt8}(h:ZR a=ZR b):a=b:=by
 have:=congrArg (λx=>x.data.toList) h;simpa[ZR]using this
theorem Zhi(l:List (List UInt8))(s:List UInt8):Lib.containsS (l.map ZR) (ZR s)=decide (s∈l):=by
 rw[Qq,Lib.containsS_iff,Zd,YO];exact⟨λ⟨a,h1,h2⟩=>Zao h2▸h1,λh=>⟨s,h,rfl⟩⟩
theorem Zfh(l:List (List UInt8))(s:List UInt8)(hl:l.length<=1000000):ZC Tryz.prog 127 [.x (.sl (rows ZB l)),.x (.str s)] (.x (.bool (decide (s∈l)))):=by
 intro w st vs hst hvl;obtain⟨hsz,hv⟩:=hvl;obtain⟨v0,v1,rfl⟩: ∃v0 v1,vs= #[v0,v1]:=by
  obtain⟨vl⟩:=vs
  match vl,hsz with
  | [a,b],_=>exact⟨a,b,rfl⟩
 have h0:=hv 0 _ v0 rfl rfl;have h1:=hv 1 _ v1 rfl rfl;clear hv hsz;cases h0 with
 |x h0=>
 cases h1 with
 |x h1=>
 cases h1 with
 |str _=>
 cases h0 with
 |sl _ a n c sz val hn hc hm hsz hcell hnil hsp hval=>
  rw[Zh]at hn;subst hn
  match l,hl,hc,hsz,hcell,hval with
  | [],_,_,_,_,_=>
   refine(Tryz.slices_Contains_string_empty a c (ZR s) w).mono ?_;rintro e w' ⟨rfl,rfl⟩;exact⟨_,st,rfl,Kept.refl _ _,λ_ _ h=>h,λ_ _ h=> .inl h,.x (.bool _)⟩
  |x::r,hl,hc,hsz,hcell,hval=>
   obtain rfl:1=sz:=hsz [.str x] (by simp[rows,ZB]);obtain⟨b,off,rfl,hs0,_⟩:=hcell 0 0 J1 J0;have hcells: ∀j,j<((x::r).map ZR).length->w.cell? ⟨b,off+j,none⟩=some (.string (((x::r).map ZR).getD j ByteArray.empty)):=by
    intro j hj;rw[YX]at hj;obtain⟨b',off',e,_,hw⟩:=hcell j 0 hj J0;simp only[Ze,Addr.mk.injEq]at e;obtain⟨rfl,rfl,_⟩:=e;have hx:=hval j 0 [.str (x::r)[j]] (.str (x::r)[j]) (by simp only[rows,YG,YA hj];rfl) rfl;have hd:((x::r).map ZR).getD j ByteArray.empty=ZR (x::r)[j]:=by rw[ZFm,YG,YA hj];rfl
    rw[show off+j=off+j*1+0 by omega,hw,hd];generalize val j 0=u at hx;cases hx with
    |str _=>rfl
   have:=Tryz.slices_Contains_string b off (x::r).length c ((x::r).map ZR) (ZR s) w J1 J0 hcells;rw[Yi J1,Zhi]at this;refine this.mono ?_;rintro e w' ⟨rfl,rfl⟩;exact⟨_,st,rfl,Kept.refl _ _,λ_ _ h=>h,λ_ _ h=> .inl h,.x (.bool _)⟩
theorem ZL9:Go.Ab.Enters Tryz.prog 127:=Go.Proofs.enters_of Tryz.lays110.f110 J3 rfl
def ZHe:J8->J5
 | [.x (.sl R),.x (.str s)]=>(Zb ZB R).bind λl=>some (decide (l.length<=1000000),.x (.bool (decide (s∈l))))
 |_=>none
theorem ZRF: ∀args r,ZHe args=some (true,r)->ZC Tryz.prog 127 args r:=by
 intro args r h;unfold ZHe at h;split at h
 .rename_i R s;obtain⟨l,hr0,h⟩:=Zv h;simp only[Ze,ZZ,ZS,Zd,true_and]at h;obtain⟨h1,rfl⟩:=h;rw[<-Za ZP hr0];exact(Zfh l s h1)
 .cases h
def inB(s:Tx)(n:Nat):Bool:=s.any λx=>x.toNat==n
theorem ZSM(s:Tx)(i:Nat)(h:i<s.length):(s.map Zk)[i]? =some [X.int .u8 (s.getD i 0).toNat]:=by
 simp[h,Zk]
theorem ZhJ(s:Tx)(n:Nat)(hl:s.length<=1000000):ZC Tryz.prog 200 [.x (.str s),.x (.int .u8 n)] (.x (.bool (inB s n))):=by
 refine ZI.pure (fC 200 true ?_) rfl;intro C0 E0;have uu:=Ya @Yv @Kt;have tT:=(ZF:SsOk Tryz.prog ZO);refine nz ?_;refine rg tT [0,1] ?_;refine rg tT [1,8,9,10] ?_;refine WI.loop (λφ os=> ∃(j:Nat),φ= [(1,.x (.int .u8 n)),(8,.ref 0 s.length 0 s.length),(9,.x (.int .i64 s.length)),(10,.x (.int .i64 j))]/\os= [.rows true 5 1 (s.map Zk)]/\j<=s.length/\inB (s.take j) n=false) (ZK s.length 10) ?_ (λφ os hI=> ?_)
 .exact⟨0,rfl,rfl,J0,rfl⟩
 .obtain⟨j,rfl,rfl,hj,hno⟩:=hI;refine nz ?_;refine rg tT [1,8,9,10,11] ?_;refine cd (λh0=> ?_) (λh0=> ?_)
  .have hj4:j<s.length:=by omega
   have hst:inB (s.take (j+1)) n=(inB (s.take j) n||((s.getD j 0).toNat==n)):=by unfold inB;rw[Jk hj4,List.any_append];simp[hj4]
   have uu:=Ya uu (ZSM s j hj4);refine rg tT [1,6,8,9,10] ?_;refine rg tT [1,8,9,10,16] ?_;refine cd (λh1=> ?_) (λh1=> ?_)
   .refine rg tT [4] ?_;refine lf ?_;have hz:((s.getD j 0).toNat:Int)=n:=by first|exact h1|simpa only[beq_iff_eq]using h1
    have hy:(s.getD j 0).toNat=n:=by omega
    rw[show inB s n=true from List.any_eq_true.2 ⟨s[j],YZ hj4,by rw[show s[j]=s.getD j 0 by simp[hj4]];simpa using hy⟩]
   .refine rg tT [1,8,9,10] ?_;exact⟨⟨j+1,rfl,rfl,J0,by rw[hst,hno];exact beq_false_of_ne (λe=>h1 (by rw[e]))⟩,by simp[ZK,Ab.get,D.val,ZD];omega⟩
  .refine rg tT [4] ?_;refine lf ?_;rw[Yi J0]at hno;rw[hno]
def ZCQ:J8->J5
 | [.x (.str s),.x (.int .u8 n)]=>some (decide (s.length<=1000000)&&(decide (0<=n)),.x (.bool (inB s n.toNat)))
 |_=>none
theorem ZMR: ∀args r,ZCQ args=some (true,r)->ZC Tryz.prog 200 args r:=by
 intro args r h;unfold ZCQ at h;split at h
 .rename_i s n;simp only[Ze,ZZ,ZS,Zd,true_and]at h;obtain⟨⟨h1,h2⟩,rfl⟩:=h;exact(by obtain⟨m,rfl⟩: ∃m:Nat,n=m:=⟨n.toNat,J0⟩;rw[ZH1];exact ZhJ s m h1)
 .cases h
def Qb(n:Nat):Nat:=if 48<=n/\n<=57 then n-48 else if 97<=n/\n<=102 then n-97+10 else if 65<=n/\n<=70 then n-65+10 else 16
def ZBL(n:Nat):Nat×Bool:=if Qb n<16 then(Qb n,true)else(0,false)
def ZEl:List UInt8:= [48,49,50,51,52,53,54,55,56,57,97,98,99,100,101,102]
def ZMN(d c:Nat):Bool:=d==c||(decide (65<=c/\c<=70)&&d==c+32)
theorem Zdo: ∀(k:Fin 16) (c:Fin 256),ZMN (ZEl.getD k.val 0).toNat c.val=true->ZBL c.val=(k.val,true):=by decide+kernel
theorem Zaf: ∀c:Fin 256,(∀k:Fin 16,ZMN (ZEl.getD k.val 0).toNat c.val=false)->ZBL c.val=(0,false):=by decide+kernel
theorem Zdy(c:Nat)(hc:c<256)(h: ∀k,k<16->ZMN (ZEl.getD k 0).toNat c=false):ZBL c=(0,false):=Zaf ⟨c,hc⟩ (λk=>h k.val k.isLt)
theorem Zhg(n:Nat)(hn:n<256):ZC Tryz.prog 188 [.x (.int .u8 n)] (.x (.int .i64 (Qb n))):=by
 refine ZI.pure (fC 188 true ?_) rfl;intro C0 E0;have uu:=trivial;have tT:=(ZF:SsOk Tryz.prog ZO);refine nz ?_;refine rg tT [0] ?_;refine rg tT [0,3] ?_;refine cd (λh0=> ?_) (λh0=> ?_)
 .refine rg tT [2] ?_;refine lf ?_;rw[Qb,if_pos J0];congr 2;omega
 .refine rg tT [0,13] ?_;refine cd (λh1=> ?_) (λh1=> ?_)
  .refine rg tT [2] ?_;refine lf ?_;rw[Qb,if_neg J0,if_pos J0];congr 2;omega
  .refine rg tT [0,24] ?_;refine cd (λh2=> ?_) (λh2=> ?_)
   .refine rg tT [2] ?_;refine lf ?_;rw[Qb,if_neg J0,if_neg J0,if_pos J0];congr 2;omega
   .refine rg tT [2] ?_;refine lf ?_;rw[Qb,if_neg J0,if_neg J0,if_neg J0];rfl
def ZPH:J8->J5
 | [.x (.int .u8 n)]=>some (decide (0<=n/\n<256),.x (.int .i64 (Qb n.toNat)))
 |_=>none
theorem Zda: ∀args r,ZPH args=some (true,r)->ZC Tryz.prog 188 args r:=by
 intro args r h;unfold ZPH at h;split at h
 .rename_i n;simp only[Ze,ZZ,ZS,Zd,true_and]at h;obtain⟨h1,rfl⟩:=h;exact(by obtain⟨m,rfl⟩: ∃m:Nat,n=m:=⟨n.toNat,J0⟩;rw[ZH1];exact Zhg m J0)
 .cases h
def Zf7:Tx:= [44,43,34,92,60,62,59,61]
def spc(n:Nat):Bool:=inB Zf7 n
theorem Zf5(n:Nat):spc n=(decide ((n:Int)=44)||(decide ((n:Int)=43)||(decide ((n:Int)=34)||(decide ((n:Int)=92)||(decide ((n:Int)=60)||(decide ((n:Int)=62)||(decide ((n:Int)=59)||decide ((n:Int)=61)))))))):=by
 unfold spc inB Zf7;rw[Qq];simp only[List.any_cons,List.any_nil,ZBJ,beq_iff_eq,Zd,ZEZ,UInt8.reduceToNat];omega
theorem ZXN(n:Nat):ZC Tryz.prog 173 [.x (.int .u8 n)] (.x (.bool (spc n))):=by
 have hq:=Zf5 n;refine ZI.pure (fC 173 true ?_) rfl;intro C0 E0;have uu:=trivial;have tT:=(ZF:SsOk Tryz.prog ZO);refine nz ?_;refine rg tT [0] ?_;refine rg tT [2] ?_;refine lf ?_;clear uu;congr 2;rw[hq];grind
def ZAz:J8->J5
 | [.x (.int .u8 n)]=>some (decide (0<=n),.x (.bool (spc n.toNat)))
 |_=>none
theorem ZL5: ∀args r,ZAz args=some (true,r)->ZC Tryz.prog 173 args r:=by
 intro args r h;unfold ZAz at h;split at h
 .rename_i n;simp only[Ze,ZZ,ZS,Zd,true_and]at h;obtain⟨h1,rfl⟩:=h;exact(by obtain⟨m,rfl⟩: ∃m:Nat,n=m:=⟨n.toNat,J0⟩;rw[ZH1];exact ZXN m)
 .cases h
def ZHq(n:Nat)(first:Bool):Bool:=decide (n<32)||decide (n=127)||(decide (n≠61)&&spc n)||(first&&decide (n=35))
def ZNU:Tabs:=ZT (ZO) 200 ZCQ
theorem ZWq:SsOk Tryz.prog ZNU:=ZH (ZF) (ZW 200) ZMR
theorem Zae:(∀a,ZNU.q 200 a=ZCQ a)/\(∀f a o,ZNU.r f a o=none)/\(∀f a o,ZNU.k f a o=none):=⟨λ_=>rfl,λ_ _ _=>rfl,λ_ _ _=>rfl⟩
theorem ZbF(n:Nat)(b:Bool):ZC Tryz.prog 225 [.x (.int .u8 n),.x (.bool b)] (.x (.bool (ZHq n b))):=by
 have hq:inB [44,43,34,92,60,62,59,61] n=spc n:=rfl;refine ZI.pure (fC 225 true ?_) rfl;intro C0 E0;have uu:=ξ4 @ZCQ.eq_1 @ZCQ.eq_2 hq @Zae;have tT:=ZWq;refine nz ?_;refine rg tT [0,1] ?_;refine rg tT [4] ?_;refine lf ?_;clear uu;unfold ZHq;congr 2;grind
def ZGG:J8->J5
 | [.x (.int .u8 n),.x (.bool b)]=>some (decide (0<=n),.x (.bool (ZHq n.toNat b)))
 |_=>none
theorem ZVu: ∀args r,ZGG args=some (true,r)->ZC Tryz.prog 225 args r:=by
 intro args r h;unfold ZGG at h;split at h
 .rename_i n b;simp only[Ze,ZZ,ZS,Zd,true_and]at h;obtain⟨h1,rfl⟩:=h;exact(by obtain⟨m,rfl⟩: ∃m:Nat,n=m:=⟨n.toNat,J0⟩;rw[ZH1];exact ZbF m b)
 .cases h
def ZQt:Value->Int
 | .int _ n=>n
 |_=>0
def ZVz:Array Value:= #[.int .u8 48,.int .u8 49,.int .u8 50,.int .u8 51,.int .u8 52,.int .u8 53,.int .u8 54,.int .u8 55,.int .u8 56,.int .u8 57,.int .u8 97,.int .u8 98,.int .u8 99,.int .u8 100,.int .u8 101,.int .u8 102]
theorem Zcy(c:Nat)(h1:65<=c)(h2:c<=70):IntKind.u8.wrap (IntKind.u8.wrap ((c:Int)-65)+97)=((c+32:Nat):Int):=by
 rw[IntWalk.u8_in ((c:Int)-65) J0,IntWalk.u8_in _ J0];omega
set_option maxHeartbeats 4000000 in
set_option maxRecDepth 100000 in
theorem ZVE(c:Nat)(w:World)(hc:c<256):
  Calls Tryz.prog 236 #[.int .u8 c] w λe w'=>e= .returned (.tuple #[.int .u8 (ZBL c).1,.bool (ZBL c).2])/\Below w.heap.size w w':=by
 have kc:=λ(w:World) (C:Array Value) (n c:Nat)=>Lib.run_convert_bytes_const (P:=Tryz.prog) w 27 5 C n c Tryz.underlying27 Tryz.underlying5
 go_enter Tryz.func236,Tryz.ntmps236
 go_wp2_with fail
 go_loopw [9] (λi wr=> ∃(k:Nat),k<=16/\i= .int .i64 k/\wr=w.alloc (.cells ZVz 5 (16,17))/\ ∀m,m<k->ZMN (ZEl.getD m 0).toNat c=false) (λi _=>16-(ZQt i).toNat)
 case atStart=>exact⟨0,J0,rfl,rfl,by intro m hm;omega⟩
 case round=>
  obtain⟨k,hk,rfl,rfl,hno⟩:=hrel;have hcell: ∀m:Fin 16,(w.alloc (.cells ZVz 5 (16,17))).cell? ⟨w.heap.size,m.val,none⟩=some (.int .u8 (ZEl.getD m.val 0).toNat):=by
   intro m;have hb:(w.alloc (.cells ZVz 5 (16,17))).heap[w.heap.size]? =some (.cells ZVz 5 (16,17)):=by
    show(w.heap.push _)[w.heap.size]? =_;simp
   rw[Lib.cell_of_heap hb]
   revert m;intro m;rcases m with⟨m,hm⟩;(repeat(rcases m with _|m;rfl));omega
  by_cases hlt:k<16
  .have hc1:=hcell ⟨k,hlt⟩;have hat:=Zdo ⟨k,hlt⟩ ⟨c,hc⟩;simp only at hc1 hat;cases hq:ZMN (ZEl.getD k 0).toNat c with
   |true=>
    have hat:=hat hq;have hk1:IntKind.u8.wrap (k:Int)=(k:Int):=IntWalk.u8_in _ J0;clear hno hcell;unfold ZMN at hq;generalize(ZEl.getD k 0).toNat=d at hc1 hq;by_cases h1:d=c
    .subst h1
     go_wp2_with fail
     all_goals first|exact bodyPost_ret (v:= .tuple #[.int .u8 (k:Int),.bool true]) (by simp[results,Tryz.results236,go_sem]) rfl ⟨by rw[hat],(Below.refl _ w).alloc (Zm _) _⟩|(exfalso;rename_i hx;revert hx;simp<;>omega)|(exfalso;revert q1;simp;done)|(exfalso;revert q4;simp only[hw]at*;simp_all<;>omega)|(exfalso;revert hq;simp<;>omega)
    .have h2:65<=c/\c<=70/\d=c+32:=by simp[h1]at hq;omega
     obtain⟨h21,h22,rfl⟩:=h2;have hw:=Zcy c h21 h22;have q1:decide (((c+32:Nat):Int)=(c:Int))=false:=decide_eq_false J0;have q2:decide ((c:Int)>=65)=true:=ZL J0;have q3:decide ((c:Int)<=70)=true:=ZL J0
     go_wp2_with fail
     all_goals first|exact bodyPost_ret (v:= .tuple #[.int .u8 (k:Int),.bool true]) (by simp[results,Tryz.results236,go_sem]) rfl ⟨by rw[hat],(Below.refl _ w).alloc (Zm _) _⟩|(exfalso;rename_i hx;revert hx;simp<;>omega)|(exfalso;revert q1;simp;done)|(exfalso;revert q4;simp only[hw]at*;simp_all<;>omega)|(exfalso;revert hq;simp<;>omega)
   |false=>
    have hq':=hq;unfold ZMN at hq;generalize(ZEl.getD k 0).toNat=d at hc1 hq;have q1:decide ((d:Int)=(c:Int))=false:=decide_eq_false (by simp at hq;omega);clear hcell hat;by_cases h1:65<=c
    .by_cases h2:c<=70
     .have hw:=Zcy c h1 h2;have q2:decide ((c:Int)>=65)=true:=ZL J0;have q3:decide ((c:Int)<=70)=true:=ZL J0;have q4:decide ((d:Int)=((c+32:Nat):Int))=false:=decide_eq_false (by simp[h1,h2]at hq;omega)
      go_wp2_with fail
      all_goals first|exact⟨⟨k+1,J0,by first|rfl|simp,trivial,λm hm=>if h:m=k then by subst h;exact hq' else hno m J0⟩,by simp[ZQt];omega⟩|(exfalso;rename_i hx;revert hx;simp<;>omega)|(exfalso;revert q1;simp;done)|(exfalso;revert q4;simp only[hw]at*;simp_all<;>omega)|(exfalso;revert hq;simp<;>omega)
     .have q2:decide ((c:Int)>=65)=true:=ZL J0;have q3:decide ((c:Int)<=70)=false:=decide_eq_false J0
      go_wp2_with fail
      all_goals first|exact⟨⟨k+1,J0,by first|rfl|simp,trivial,λm hm=>if h:m=k then by subst h;exact hq' else hno m J0⟩,by simp[ZQt];omega⟩|(exfalso;rename_i hx;revert hx;simp<;>omega)|(exfalso;revert q1;simp;done)|(exfalso;revert q4;simp only[hw]at*;simp_all<;>omega)|(exfalso;revert hq;simp<;>omega)
    .have q2:decide ((c:Int)>=65)=false:=decide_eq_false J0
     go_wp2_with fail
     all_goals first|exact⟨⟨k+1,J0,by first|rfl|simp,trivial,λm hm=>if h:m=k then by subst h;exact hq' else hno m J0⟩,by simp[ZQt];omega⟩|(exfalso;rename_i hx;revert hx;simp<;>omega)|(exfalso;revert q1;simp;done)|(exfalso;revert q4;simp only[hw]at*;simp_all<;>omega)|(exfalso;revert hq;simp<;>omega)
  .obtain rfl:k=16:=by omega
   have hnn:=Zdy c hc hno;clear hno hcell
   go_wp2_with fail
   exact bodyPost_ret (v:= .tuple #[.int .u8 0,.bool false]) (by simp[results,Tryz.results236,go_sem]) rfl ⟨by rw[hnn];rfl,(Below.refl _ w).alloc (Zm _) _⟩
theorem Zdx(n:Nat)(hn:n<256):ZC Tryz.prog 236 [.x (.int .u8 n)] (.tup [.x (.int .u8 (ZBL n).1),.x (.bool (ZBL n).2)]):=by
 intro w st vs hst hvl;obtain⟨hsz,hv⟩:=hvl;obtain⟨v0,rfl⟩: ∃v0,vs= #[v0]:=by
  obtain⟨vl⟩:=vs
  match vl,hsz with
  | [a],_=>exact⟨a,rfl⟩
 have h0:=hv 0 _ v0 rfl rfl;cases h0 with
 |x h0=>
 cases h0 with
 |int _ _=>
 refine(ZVE n w hn).mono ?_;rintro e w' ⟨rfl,hb⟩;exact⟨_,st,rfl,⟨hb.os,hb.tape,hb.output,hb.size,λk hk _=>hb.block k hk⟩,λ_ _ h=>h,λ_ _ h=> .inl h,V.tup2 (.x (.int _ _)) _⟩
theorem ZTC:Go.Ab.Enters Tryz.prog 236:=enters_of Tryz.func236 J3 rfl
def ZId:J8->J5
 | [.x (.int .u8 n)]=>some (decide (0<=n/\n<256),.tup [.x (.int .u8 (ZBL n.toNat).1),.x (.bool (ZBL n.toNat).2)])
 |_=>none
theorem ZXG: ∀args r,ZId args=some (true,r)->ZC Tryz.prog 236 args r:=by
 intro args r h;unfold ZId at h;split at h
 .rename_i n;simp only[Ze,ZZ,ZS,Zd,true_and]at h;obtain⟨h1,rfl⟩:=h;exact(by obtain⟨m,rfl⟩: ∃m:Nat,n=m:=⟨n.toNat,J0⟩;rw[ZH1];exact Zdx m J0)
 .cases h
def trL(s:Tx):Tx:=s.dropWhile (· ==32)
def trR(s:Tx):Tx:=(s.reverse.dropWhile (· ==32)).reverse
theorem ZNs: ∀l:Tx,l.dropWhile (· ==32)= []↔ ∀x∈l,x=32
 | []=>by simp
 |c::l=>by
  rw[ZVI];by_cases h:c=32
  .simp[h,ZNs l]
  .simp[h]
theorem ZIe(r:Tx):(r== [])=decide (r.length=0):=by rcases r with _|⟨c,r⟩<;>simp
theorem ZMp{c:UInt8}(h:(c.toNat:Int)=32):c=32:=by
 apply ZO8.1;show c.toNat=32;omega
theorem ZCW(c:UInt8)(s:Tx):trL (c::s)=if c=32 then trL s else c::s:=by
 unfold trL;rw[ZVI];simp
theorem ZOf(s:Tx):(trL s).length<=s.length:=List.Sublist.length_le (List.dropWhile_sublist _)
theorem ZUg(s:Tx):(trR s).length<=s.length:=by
 unfold trR;rw[List.length_reverse];exact ZKz (List.Sublist.length_le (List.dropWhile_sublist _)) J1
theorem ZTG(s:Tx)(c:UInt8):trR (s++ [c])=if c=32 then trR s else s++ [c]:=by
 unfold trR;rw[List.reverse_append,ZK0,ZRy,ZAR,List.singleton_append,ZVI];split<;>simp_all
theorem ZhZ(s:Tx)(h:0<s.length):s=s.getD 0 0::s.drop 1:=by
 rcases s with _|⟨c,s⟩
 .simp at h
 .rfl
theorem ZVS(s:Tx)(h:0<s.length):s=s.take (s.length-1)++ [s.getD (s.length-1) 0]:=by
 obtain⟨b,c,rfl⟩: ∃b c,s=b++ [c]:=⟨s.dropLast,s.getLast (by intro e;subst e;simp at h),(List.dropLast_concat_getLast _).symm⟩;simp
theorem ZM1(s:Tx)(h:0<s.length)(hc:s.getD 0 0=32):trL s=trL (s.drop 1):=by
 conv=>lhs;rw[ZhZ s h]
 rw[ZCW,if_pos hc]
theorem ZMM(s:Tx)(h: ¬(0<s.length/\s.getD 0 0=32)):trL s=s:=by
 rcases s with _|⟨c,s⟩
 .rfl
 .rw[ZCW,if_neg (λe:c=32=>h ⟨J1,e⟩)]
theorem ZTK(s:Tx)(h:0<s.length)(hc:s.getD (s.length-1) 0=32):trR s=trR (s.take (s.length-1)):=by
 conv=>lhs;rw[ZVS s h]
 rw[ZTG,if_pos hc]
theorem ZRD(s:Tx)(h: ¬(0<s.length/\s.getD (s.length-1) 0=32)):trR s=s:=by
 by_cases h0:0<s.length
 .conv=>lhs;rw[ZVS s h0]
  rw[ZTG,if_neg (λe=>h ⟨h0,e⟩)];exact(ZVS s h0).symm
 .rw[show s= []from ZaY.1 J0];rfl
theorem ZaW(s:Tx)(hl:s.length<=1000000):ZC Tryz.prog 216 [.x (.str s),.x (.int .u8 32)] (.x (.str (trL s))):=by
 refine ZI.pure (fC 216 true ?_) rfl;intro C0 E0;have uu:=trivial;have tT:=(ZF:SsOk Tryz.prog ZO);refine nz ?_;refine rg tT [0,1] ?_;refine WI.loop (λφ os=> ∃(r:Tx),φ= [(0,.x (.str r)),(1,.x (.int .u8 32))]/\os= []/\r.length<=s.length/\trL s=trL r) ((λφ _=>match get φ 0 with| .x (.str r)=>r.length|_=>0)) ?_ (λφ os hI=> ?_)
 .exact⟨s,rfl,rfl,J0,rfl⟩
 .obtain⟨r,rfl,rfl,hr,he⟩:=hI;refine nz ?_;refine rg tT [0,1,13] ?_;refine cd (λh0=> ?_) (λh0=> ?_)
  .have h0p:0<r.length:=by omega
   have h0c:r.getD 0 0=32:=ZMp J0;refine rg tT [0,1] ?_;exact⟨⟨r.drop 1,rfl,rfl,by simp;omega,by rw[he,ZM1 r h0p h0c]⟩,by show(r.drop 1).length<r.length;rw[KD];omega⟩
  .have h0n: ¬(0<r.length/\r.getD 0 0=32):=λhh=>by
    have h2:((r.getD 0 0).toNat:Int)=32:=by rw[hh.2];rfl
    have h1:=hh.1;omega
   refine rg tT [4] ?_;refine lf ?_;rw[he,ZMM r h0n]
def ZDz:J8->J5
 | [.x (.str s),.x (.int .u8 32)]=>some (decide (s.length<=1000000),.x (.str (trL s)))
 |_=>none
theorem ZWB: ∀args r,ZDz args=some (true,r)->ZC Tryz.prog 216 args r:=by
 intro args r h;unfold ZDz at h;split at h
 .rename_i s;simp only[Ze,ZZ,ZS,Zd,true_and]at h;obtain⟨h1,rfl⟩:=h;exact(ZaW s h1)
 .cases h
theorem ZbK(s:Tx)(hl:s.length<=1000000):ZC Tryz.prog 217 [.x (.str s),.x (.int .u8 32)] (.x (.str (trR s))):=by
 refine ZI.pure (fC 217 true ?_) rfl;intro C0 E0;have uu:=trivial;have tT:=(ZF:SsOk Tryz.prog ZO);refine nz ?_;refine rg tT [0,1] ?_;refine WI.loop (λφ os=> ∃(r:Tx),φ= [(0,.x (.str r)),(1,.x (.int .u8 32))]/\os= []/\r.length<=s.length/\trR s=trR r) ((λφ _=>match get φ 0 with| .x (.str r)=>r.length|_=>0)) ?_ (λφ os hI=> ?_)
 .exact⟨s,rfl,rfl,J0,rfl⟩
 .obtain⟨r,rfl,rfl,hr,he⟩:=hI;have e1:((r.length:Int)-1).toNat=r.length-1:=by omega
  have uu:=Ya uu e1;refine nz ?_;refine rg tT [0,1,16] ?_;refine cd (λh0=> ?_) (λh0=> ?_)
  .have h0p:0<r.length:=by omega
   have h0c:r.getD (r.length-1) 0=32:=ZMp J0;refine rg tT [0,1] ?_;exact⟨⟨r.take (r.length-1),rfl,rfl,by simp;omega,by rw[he,ZTK r h0p h0c]⟩,by show(r.take (r.length-1)).length<r.length;rw[JA];omega⟩
  .have h0n: ¬(0<r.length/\r.getD (r.length-1) 0=32):=λhh=>by
    have h2:((r.getD (r.length-1) 0).toNat:Int)=32:=by rw[hh.2];rfl
    have h1:=hh.1;omega
   refine rg tT [4] ?_;refine lf ?_;rw[he,ZRD r h0n]
def ZDw:J8->J5
 | [.x (.str s),.x (.int .u8 32)]=>some (decide (s.length<=1000000),.x (.str (trR s)))
 |_=>none
theorem ZV8: ∀args r,ZDw args=some (true,r)->ZC Tryz.prog 217 args r:=by
 intro args r h;unfold ZDw at h;split at h
 .rename_i s;simp only[Ze,ZZ,ZS,Zd,true_and]at h;obtain⟨h1,rfl⟩:=h;exact(ZbK s h1)
 .cases h
def ZLI:Tabs:=ZT (ZT (ZO) 216 ZDz) 217 ZDw
theorem ZQW:SsOk Tryz.prog ZLI:=ZH (ZH (ZF) (ZW 216) ZWB) (ZW 217) ZV8
theorem ZRa:(∀a,ZLI.q 216 a=ZDz a)/\(∀a,ZLI.q 217 a=ZDw a)/\(∀f a o,ZLI.r f a o=none)/\(∀f a o,ZLI.k f a o=none):=⟨λ_=>rfl,λ_=>rfl,λ_ _ _=>rfl,λ_ _ _=>rfl⟩
theorem ZU8(s:Tx)(hl:s.length<=1000000):ZC Tryz.prog 223 [.x (.str s),.x (.str [32])] (.x (.str (trL s))):=by
 refine ZI.pure (fC 223 true ?_) rfl;intro C0 E0;have uu:=ξ5 @ZDz.eq_1 @ZDz.eq_2 @ZDw.eq_1 @ZDw.eq_2 @ZRa;have tT:=ZQW;refine nz ?_;refine rg tT [0,1] ?_;refine rg tT [0,1,12] ?_;refine cd (λh0=> ?_) (λh0=> ?_)
 .refine rg tT [4] ?_;refine lf ?_;rw[show s= [] by simpa using h0];rfl
 .refine rg tT [0,1,21] ?_;refine ct (λh1=> ?_) (λh1=> ?_)
  .refine rg tT [4] ?_;refine lf ?_
   first|rfl|exact⟨rfl,rfl⟩|trivial
  .simp at h1
def ZD0:J8->J5
 | [.x (.str s),.x (.str [32])]=>some (decide (s.length<=1000000),.x (.str (trL s)))
 |_=>none
theorem ZTH: ∀args r,ZD0 args=some (true,r)->ZC Tryz.prog 223 args r:=by
 intro args r h;unfold ZD0 at h;split at h
 .rename_i s;simp only[Ze,ZZ,ZS,Zd,true_and]at h;obtain⟨h1,rfl⟩:=h;exact(ZU8 s h1)
 .cases h
def ZEF(s:Tx):Tx:=trL (trR s)
theorem Zgb(s:Tx)(hl:s.length<=1000000):ZC Tryz.prog 204 [.x (.str s),.x (.str [32])] (.x (.str (ZEF s))):=by
 have hrl:=ZUg s;refine ZI.pure (fC 204 true ?_) rfl;intro C0 E0;have uu:=ξ5 @ZDz.eq_1 @ZDz.eq_2 @ZDw.eq_1 @ZDw.eq_2 @ZRa;have tT:=ZQW;refine nz ?_;refine rg tT [0,1] ?_;refine rg tT [0,1,12] ?_;refine cd (λh0=> ?_) (λh0=> ?_)
 .refine rg tT [4] ?_;refine lf ?_;rw[show s= [] by simpa using h0];rfl
 .refine rg tT [0,1,21] ?_;refine ct (λh1=> ?_) (λh1=> ?_)
  .refine WI.dregB tT [4] ?_
   iterate 2 refine Zs ?_
   refine Jq ?_;refine dAC ?_;refine Zs ?_;refine Jq ?_;refine dAC ?_;refine Zs ?_;refine dN ?_;refine nz ?_;refine lf ?_
   first|rfl|exact⟨rfl,rfl⟩|trivial
  .simp at h1
def ZLj:J8->J5
 | [.x (.str s),.x (.str [32])]=>some (decide (s.length<=1000000),.x (.str (ZEF s)))
 |_=>none
theorem Za3: ∀args r,ZLj args=some (true,r)->ZC Tryz.prog 204 args r:=by
 intro args r h;unfold ZLj at h;split at h
 .rename_i s;simp only[Ze,ZZ,ZS,Zd,true_and]at h;obtain⟨h1,rfl⟩:=h;exact(Zgb s h1)
 .cases h
theorem ZXT(s:Tx):trR (trL s)=ZEF s:=by
 unfold ZEF;by_cases h: ∀x∈s,x=32
 .have h1:trL s= []:=by unfold trL;rw[ZNs];intro x hx;exact h x hx
  have h2:trR s= []:=by unfold trR;rw[List.reverse_eq_nil_iff,ZNs];intro x hx;exact h x (by simpa using hx)
  rw[h1,h2];rfl
 .have key: ∀s:Tx,(∃x∈s,x≠32)->trR (trL s)=trL (trR s):=by
   intro s
   induction s with
   |nil=>rintro⟨x,hx,_⟩;simp at hx
   |cons c s ih=>
    intro hx;rw[ZCW];by_cases hc:c=32
    .subst hc;rw[if_pos rfl];have hx': ∃x∈s,x≠32:=by
      obtain⟨x,h1,h2⟩:=hx;rcases KB.1 h1 with rfl|h1
      .exact absurd rfl h2
      .exact⟨x,h1,h2⟩
     rw[ih hx'];have e:trR (32::s)=32::trR s:=by
      unfold trR;obtain⟨x,h1,h2⟩:=hx';rw[ZK0,List.dropWhile_append];rw[if_neg (by rw[List.isEmpty_iff,ZNs];intro hh;exact h2 (hh x (by simpa using h1)))];simp
     rw[e,ZCW,if_pos rfl]
    .rw[if_neg hc];have e: ∃t,trR (c::s)=c::t:=by
      unfold trR;rw[ZK0,List.dropWhile_append];split
      .exact⟨[],by simp[hc]⟩
      .exact⟨(s.reverse.dropWhile (· ==32)).reverse,J1⟩
     obtain⟨t,e⟩:=e;rw[e,ZCW,if_neg hc]
  exact key s (by simpa using h)
theorem ZfF(s:Tx)(hl:s.length<=1000000):ZC Tryz.prog 171 [.x (.str s)] (.x (.str (ZEF s))):=by
 rw[<-ZXT];refine ZI.pure (fC 171 true ?_) rfl;intro C0 E0;have uu:=trivial;have tT:=(ZF:SsOk Tryz.prog ZO);refine nz ?_;refine WI.regB tT [0] ?_;refine oS ?_;refine oN ?_;refine nz ?_;refine WI.loop (λφ os=> ∃(r:Tx),φ= [(0,.x (.str r))]/\os= []/\r.length<=s.length/\trL s=trL r) ((λφ _=>match get φ 0 with| .x (.str r)=>r.length|_=>0)) ?_ (λφ os hI=> ?_)
 .exact⟨s,rfl,rfl,J0,rfl⟩
 .obtain⟨r,rfl,rfl,hr,he⟩:=hI;have hem:=ZIe r;refine nz ?_;refine WI.regB tT [0,9] ?_;refine oS ?_;refine oG (hok:=by first|exact se|(clear uu;grind)|exact sd) ?_;refine oS ?_
  iterate 4 refine oG (hok:=by first|exact se|(clear uu;grind)|exact sd) ?_
  refine oN ?_;refine nz ?_;refine cd (λh0=> ?_) (λh0=> ?_)
  .have h0p:0<r.length:=by rcases r with _|⟨c,r⟩;simp at h0;simp
   have h0c:r.getD 0 0=32:=by rcases r with _|⟨c,r⟩;simp at h0;exact ZMp (by simpa using h0)
   refine WI.regB tT [0] ?_;refine oS ?_;refine oG (hok:=by first|exact se|(clear uu;grind)|exact sd) ?_;refine oS ?_;refine oN ?_;refine nz ?_;exact⟨⟨r.drop 1,rfl,rfl,by simp;omega,by rw[he,ZM1 r h0p h0c]⟩,by show(r.drop 1).length<r.length;rw[KD];omega⟩
  .have h0n: ¬(0<r.length/\r.getD 0 0=32):=λhh=>by
    have h2:((r.getD 0 0).toNat:Int)=32:=by rw[hh.2];rfl
    have h3:r≠ []:=by rintro rfl;simp at hh
    grind
   refine WI.orderA [0] ?_;refine WI.loop (λφ os=> ∃(q:Tx),φ= [(0,.x (.str q))]/\os= []/\q.length<=s.length/\trR (trL s)=trR q) ((λφ _=>match get φ 0 with| .x (.str r)=>r.length|_=>0)) ?_ (λφ os hI=> ?_)
   .exact⟨r,rfl,rfl,J0,by rw[he,ZMM r h0n]⟩
   .obtain⟨q,rfl,rfl,hq,hee⟩:=hI;have e1:((q.length:Int)-1).toNat=q.length-1:=by omega
    have hem2:=ZIe q;have uu:=Ya uu e1;refine nz ?_;refine WI.regB tT [0,21] ?_;refine oS ?_;refine oG (hok:=by first|exact se|(clear uu;grind)|exact sd) ?_;refine oS ?_
    iterate 7 refine oG (hok:=by first|exact se|(clear uu;grind)|exact sd) ?_
    refine oN ?_;refine nz ?_;refine cd (λh1=> ?_) (λh1=> ?_)
    .have h1p:0<q.length:=by rcases q with _|⟨c,q⟩;simp at h1;simp
     have h1c:q.getD (q.length-1) 0=32:=ZMp (by have:=h1.2;omega);refine WI.regB tT [0] ?_
     iterate 2 refine oS ?_
     iterate 3 refine oG (hok:=by first|exact se|(clear uu;grind)|exact sd) ?_
     refine oS ?_;refine oN ?_;refine nz ?_;exact⟨⟨q.take (q.length-1),rfl,rfl,by simp;omega,by rw[hee,ZTK q h1p h1c]⟩,by show(q.take (q.length-1)).length<q.length;rw[JA];omega⟩
    .have h1n: ¬(0<q.length/\q.getD (q.length-1) 0=32):=λhh=>by
      have h2:((q.getD (q.length-1) 0).toNat:Int)=32:=by rw[hh.2];rfl
      have h3:q≠ []:=by rintro rfl;simp at hh
      grind
     refine WI.regB tT [2] ?_
     iterate 2 refine oS ?_
     refine oN ?_;refine nz ?_;refine lf ?_;rw[hee,ZRD q h1n]
def ZIU:J8->J5
 | [.x (.str s)]=>some (decide (s.length<=1000000),.x (.str (ZEF s)))
 |_=>none
theorem ZW9: ∀args r,ZIU args=some (true,r)->ZC Tryz.prog 171 args r:=by
 intro args r h;unfold ZIU at h;split at h
 .rename_i s;simp only[Ze,ZZ,ZS,Zd,true_and]at h;obtain⟨h1,rfl⟩:=h;exact(ZfF s h1)
 .cases h
theorem Zif: ∀(a b:Fin 16),IntKind.u8.wrap ((BitVec.ofInt IntKind.u8.bits (IntKind.u8.wrap ((a.val:Int)*2^min 4 IntKind.u8.bits))|||BitVec.ofInt IntKind.u8.bits (b.val:Int)).toNat:Int)=((UInt8.ofNat (16*a.val+b.val)).toNat:Int):=by decide+kernel
def orB(h l:Nat):UInt8:=UInt8.ofNat (16*h+l)
theorem ZiV(h l:Nat)(h1:h<16)(h2:l<16):IntKind.u8.wrap ((BitVec.ofInt IntKind.u8.bits (IntKind.u8.wrap ((h:Int)*2^min 4 IntKind.u8.bits))|||BitVec.ofInt IntKind.u8.bits (l:Int)).toNat:Int)=((orB h l).toNat:Int):=Zif ⟨_,h1⟩ ⟨_,h2⟩
theorem ZUY(n:Nat):(ZBL n).1<16:=by unfold ZBL;split<;>simp_all
def ZGa(a:UInt8):Bool:=spc a.toNat||decide (a.toNat=32)||decide (a.toNat=35)
def KG(s:Tx):UInt8×Nat×Bool:=
 if s= []then(0,0,false)
 else if ZGa (s.getD 0 0)=true then(s.getD 0 0,1,true)
 else if(ZBL (s.getD 0 0).toNat).2=false\/s.length<2 then(0,0,false)
 else(orB (ZBL (s.getD 0 0).toNat).1 (ZBL (s.getD 1 0).toNat).1,2,(ZBL (s.getD 1 0).toNat).2)
def ZLD:Tabs:=ZT (ZT (ZO) 200 ZCQ) 236 ZId
theorem ZXe:SsOk Tryz.prog ZLD:=ZH (ZH (ZF) (ZW 200) ZMR) ZTC ZXG
theorem Zb6:(∀a,ZLD.q 200 a=ZCQ a)/\(∀a,ZLD.q 236 a=ZId a)/\(∀f a o,ZLD.r f a o=none)/\(∀f a o,ZLD.k f a o=none):=⟨λ_=>rfl,λ_=>rfl,λ_ _ _=>rfl,λ_ _ _=>rfl⟩
theorem Zfp(s:Tx)(hl:s.length<=1000000):ZC Tryz.prog 224 [.x (.str s)] (.tup [.x (.int .u8 (KG s).1.toNat),.x (.int .i64 (KG s).2.1),.x (.bool (KG s).2.2)]):=by
 have hq: ∀n,inB [44,43,34,92,60,62,59,61] n=spc n:=λn=>rfl
 have hem:=ZIe s;have hb0:(s.getD 0 0).toNat<256:=ZDm _;have hb1:(s.getD 1 0).toNat<256:=ZDm _;have hor:=ZiV _ _ (ZUY (s.getD 0 0).toNat) (ZUY (s.getD 1 0).toNat);rcases he:KG s with⟨x,n,b⟩
 unfold KG at he;have hfr:ZGa (s.getD 0 0)=(spc (s.getD 0 0).toNat||decide ((s.getD 0 0).toNat=32)||decide ((s.getD 0 0).toNat=35)):=rfl;refine ZI.pure (fC 224 true ?_) rfl;intro C0 E0;have uu:=ξ7 @ZCQ.eq_1 @ZCQ.eq_2 @ZId.eq_1 @ZId.eq_2 hq hor @Zb6;have tT:=ZXe;refine nz ?_;refine WI.regB tT [0] ?_
 iterate 3 refine oS ?_
 refine oN ?_;refine nz ?_;refine WI.regB tT [0,9] ?_;refine oS ?_;refine oG (hok:=by first|exact se|(clear uu;grind)|exact sd) ?_;refine oN ?_;refine nz ?_;refine cd (λh0=> ?_) (λh0=> ?_)
 .refine WI.regB tT [2,3,4] ?_
  iterate 3 refine oS ?_
  refine oN ?_;refine nz ?_;refine lf ?_;rw[if_pos (by simpa using h0)]at he;cases he;rfl
 .have hne:s≠ []:=by simpa using h0
  rw[if_neg hne]at he;have hl1:0<s.length:=ZPF.2 hne;refine WI.regB tT [0,22] ?_;refine oS ?_;refine oG (hok:=by first|exact se|(clear uu;grind)|exact sd) ?_;refine oC (hok:=by first|exact se|(clear uu;grind)|exact sd) ?_;refine oS ?_
  iterate 4 refine oG (hok:=by first|exact se|(clear uu;grind)|exact sd) ?_
  refine oS ?_
  iterate 4 refine oG (hok:=by first|exact se|(clear uu;grind)|exact sd) ?_
  refine oN ?_;refine nz ?_;refine cd (λh1=> ?_) (λh1=> ?_)
  .refine WI.regB tT [2,3,4] ?_;refine oS ?_;refine oG (hok:=by first|exact se|(clear uu;grind)|exact sd) ?_
   iterate 3 refine oS ?_
   refine oN ?_;refine nz ?_;refine lf ?_;rw[if_pos (by rw[hfr];clear uu;grind)]at he;cases he;rfl
  .rw[if_neg (by rw[hfr];clear uu;grind)]at he;refine WI.regB tT [0,5,6] ?_;refine oS ?_;refine oG (hok:=by first|exact se|(clear uu;grind)|exact sd) ?_;refine oC (hok:=by first|exact se|(clear uu;grind)|exact sd) ?_;refine oS ?_
   iterate 2 refine oG ?_
   iterate 2 refine oS ?_
   refine oN ?_;refine nz ?_;refine WI.regB tT [0,5,37] ?_;refine oS ?_;refine oG (hok:=by first|exact se|(clear uu;grind)|exact sd) ?_;refine oS ?_
   iterate 4 refine oG (hok:=by first|exact se|(clear uu;grind)|exact sd) ?_
   refine oN ?_;refine nz ?_;refine cd (λh2=> ?_) (λh2=> ?_)
   .refine WI.regB tT [2,3,4] ?_
    iterate 3 refine oS ?_
    refine oN ?_;refine nz ?_;refine lf ?_;rw[if_pos (by clear uu;grind)]at he;cases he;rfl
   .rw[if_neg (by clear uu;grind)]at he;have hl2:2<=s.length:=by clear uu;grind
    refine WI.regB tT [5,6,7] ?_;refine oS ?_;refine oG (hok:=by first|exact se|(clear uu;grind)|exact sd) ?_;refine oC (hok:=by first|exact se|(clear uu;grind)|exact sd) ?_;refine oS ?_
    iterate 2 refine oG ?_
    iterate 2 refine oS ?_
    refine oN ?_;refine nz ?_;refine WI.regB tT [2,3,4] ?_;refine oS ?_;refine oG (hok:=by first|exact se|(clear uu;grind)|exact sd) ?_;refine oS ?_;refine oG (hok:=by first|exact se|(clear uu;grind)|exact sd) ?_
    iterate 4 refine oS ?_
    refine oN ?_;refine nz ?_;refine lf ?_;cases he;rfl
def ZLf:J8->J5
 | [.x (.str s)]=>some (decide (s.length<=1000000),.tup [.x (.int .u8 (KG s).1.toNat),.x (.int .i64 (KG s).2.1),.x (.bool (KG s).2.2)])
 |_=>none
theorem Za4: ∀args r,ZLf args=some (true,r)->ZC Tryz.prog 224 args r:=by
 intro args r h;unfold ZLf at h;split at h
 .rename_i s;simp only[Ze,ZZ,ZS,Zd,true_and]at h;obtain⟨h1,rfl⟩:=h;exact(Zfp s h1)
 .cases h
def JS:Nat->Tx->Tx->Nat->Option (Tx×Nat)
 |0,_,_,_=>none
 |_+1,[],b,e=>some (b,e)
 |n+1,c::r,b,e=>
  if c=92 then(if(KG r).2.2=true then JS n (r.drop (KG r).2.1) (b++ [(KG r).1]) (b.length+1)else none)
  else if ZHq c.toNat (decide (b.length=0))=true then none
  else if c=32 then JS n r (b++ [c]) e else JS n r (b++ [c]) (b.length+1)
theorem Zfi(s:Tx):(KG s).2.1<=s.length:=by
 unfold KG;split
 .simp
 .rename_i h;have:0<s.length:=ZPF.2 h;split
  .simp;omega
  .split
   .simp
   .rename_i h2;simp only[not_or]at h2;simp;omega
theorem ZJY: ∀(n m:Nat) (r b:Tx) (e:Nat),r.length<n->r.length<m->JS n r b e=JS m r b e
 |n+1,m+1,[],b,e,_,_=>rfl
 |n+1,m+1,c::r,b,e,h1,h2=>by
  have hn:r.length<n:=by simp at h1;omega
  have hm:r.length<m:=by simp at h2;omega
  have h3:(r.drop (KG r).2.1).length<=r.length:=by simp
  rw[JS,JS,ZJY n m r _ _ hn hm,ZJY n m r _ _ hn hm,ZJY n m (r.drop (KG r).2.1) _ _ J0 J0]
def ZFn(s:Tx):Tx×Bool:=match JS (s.length+1) (trL s) [] 0 with
 |none=>([],false)
 |some (b,e)=>(b.take e,decide (e>0))
def ZH6(s:Tx):Tx×Bool:=match JS (s.length+1) (trL s) [] 0 with
 |none=>([],false)
 |some (b,e)=>(b.take e,true)
theorem ZTI{c:UInt8}(h:(c.toNat:Int)=92):c=92:=by
 apply ZO8.1;show c.toNat=92;omega
def ZIa:Tabs:=ZT (ZT (ZT (ZO) 223 ZD0) 224 ZLf) 225 ZGG
theorem ZYn:SsOk Tryz.prog ZIa:=ZH (ZH (ZH (ZF) (ZW 223) ZTH) (ZW 224) Za4) (ZW 225) ZVu
theorem ZGz:(∀a,ZIa.q 223 a=ZD0 a)/\(∀a,ZIa.q 224 a=ZLf a)/\(∀a,ZIa.q 225 a=ZGG a)/\(∀f a o,ZIa.r f a o=none)/\(∀f a o,ZIa.k f a o=none):=⟨λ_=>rfl,λ_=>rfl,λ_=>rfl,λ_ _ _=>rfl,λ_ _ _=>rfl⟩
set_option maxHeartbeats 1000000 in
theorem ZhR(s:Tx)(hl:s.length<=900000):ZC Tryz.prog 206 [.x (.str s)] (.tup [.x (.str (ZFn s).1),.x (.bool (ZFn s).2)]):=by
 have htl:=ZOf s;rcases hq:ZFn s with⟨v,ok⟩
 unfold ZFn at hq;refine ZI.pure (fC 206 true ?_) rfl;intro C0 E0;have uu:=ξn @ZD0.eq_1 (ξn @ZD0.eq_2 (ξn @ZLf.eq_1 (ξn @ZLf.eq_2 (ξn @ZGG.eq_1 (ξn @ZGG.eq_2 (ξn @Yv (ξn @Kt (ξn @ZKp.{0} (ξn ZGz.2.2.2.1 (ξn ZGz.2.2.2.2 (ξn ZGz.1 (ξn ZGz.2.1 (ZGz.2.2.1)))))))))))));have tT:=ZYn;refine nz ?_;refine rg tT [0] ?_;refine WI.scope 0 rfl (λφ os=>False) (λφ _=>0) ?_ (λφ os hI=> ?_)
 .refine nz ?_;refine rg tT [0] ?_;refine rg tT [0,4] ?_;refine rg tT [0,4,5] ?_;refine WI.label ?_;refine nz ?_;refine WI.ownA 4 5 1 ?_;refine WI.loop (λφ os=> ∃(r b:Tx) (e n:Nat),φ= [(0,.x (.str r)),(4,.ref 0 b.length 0 b.length),(5,.x (.int .i64 e))]/\os= [.rows false 5 1 (b.map Zk)]/\r.length<n/\b.length+r.length<=s.length/\e<=b.length/\JS (s.length+1) (trL s) [] 0=JS n r b e) ((λφ _=>match get φ 0 with| .x (.str r)=>r.length|_=>0)) ?_ (λφ os hI=> ?_)
  .exact⟨trL s,[],0,s.length+1,rfl,rfl,J0,by simp;omega,J1,rfl⟩
  .obtain⟨r,b,e,n,rfl,rfl,hn,hb,he,hv⟩:=hI;obtain⟨n,rfl⟩: ∃m,n=m+1:=⟨n-1,J0⟩;refine nz ?_;refine rg tT [0,4,5,13] ?_;refine cd (λh0=> ?_) (λh0=> ?_)
   .rcases r with _|⟨c,r⟩
    .simp at h0
    have hn':r.length+1<n+1:=hn;have hb':b.length+(r.length+1)<=s.length:=hb;have hen:=Zfi r;have hb8:c.toNat<256:=ZDm _;have hsc:decide (r.length<=1000000)=true:=ZL J0;have uu:=Ya uu hsc;refine rg tT [0,4,5,6] ?_;refine rg tT [0,4,5,6] ?_;refine rg tT [0,4,5,6,24] ?_;refine cd (λh1=> ?_) (λh1=> ?_)
    .have hc:c=92:=ZTI (by first|exact h1|simpa using h1);refine rg tT [0,4,7,8,9] ?_;refine rg tT [0,4,7,8,34] ?_;refine cd (λh2=> ?_) (λh2=> ?_)
     .refine rg tT [2,3] ?_;refine lf ?_;rw[hv,JS,if_pos hc,if_neg (by simpa using h2)]at hq;cases hq;rfl
     .have hst:JS (n+1) (c::r) b e=JS n (r.drop (KG r).2.1) (b++ [(KG r).1]) (b.length+1):=by rw[JS,if_pos hc,if_pos (by simpa using h2)]
      refine WI.post ?_;refine WI.dregB tT [0,4] ?_
      iterate 2 refine Zs ?_
      iterate 2 refine dAG ?_
      iterate 2 refine Zs ?_
      refine Jq ?_
      iterate 2 refine Zs ?_
      refine dP ?_;refine Jf [0] ?_;refine KR ?_;refine nz ?_;refine rg tT [0,4,5] ?_
      first|exact⟨⟨r.drop (KG r).2.1,b++ [(KG r).1],b.length+1,n,by rw[Zf];first|done|rfl,by rw[YM];first|done|rfl,by rw[KD];omega,by rw[Zf,KD];simp;omega,J1,by rw[hv,hst]⟩,by show(r.drop (KG r).2.1).length<r.length+1;rw[KD];omega⟩|exact⟨⟨r,b++ [c],e,n,by rw[Zf];first|done|rfl,by rw[YM];first|done|rfl,J0,by rw[Zf];simp;omega,by simp;omega,by rw[hv,hst]⟩,by show r.length<r.length+1;omega⟩|exact⟨⟨r,b++ [c],b.length+1,n,by rw[Zf];first|done|rfl,by rw[YM];first|done|rfl,J0,by rw[Zf];simp;omega,J1,by rw[hv,hst]⟩,by show r.length<r.length+1;omega⟩
    .have hc:c≠92:=by rintro rfl;exact absurd h1 (by decide)
     have hz:((b.length:Int)==0)=decide (b.length=0):=by rw[Qq];simp<;>omega
     have uu:=Ya uu hz;refine rg tT [0,4,5,6,42] ?_;refine cd (λh3=> ?_) (λh3=> ?_)
     .refine rg tT [2,3] ?_;refine lf ?_;rw[hv,JS,if_neg hc,if_pos (by simpa using h3)]at hq;cases hq;rfl
     .refine rgp tT [0,4,5,6] ?_;refine Jf [0] ?_;refine KR ?_;refine nz ?_;refine rg tT [0,4,5,23] ?_;refine cd (λh4=> ?_) (λh4=> ?_) (kA:=λh=>h.h)
      .refine WI.orderA [0,4,5] ?_;have hst:JS (n+1) (c::r) b e=JS n r (b++ [c]) e:=by rw[JS,if_neg hc,if_neg (by simpa using h3),if_pos (ZMp (by first|exact h4|simpa using h4))]
       refine nz ?_
       first|exact⟨⟨r.drop (KG r).2.1,b++ [(KG r).1],b.length+1,n,by rw[Zf];first|done|rfl,by rw[YM];first|done|rfl,by rw[KD];omega,by rw[Zf,KD];simp;omega,J1,by rw[hv,hst]⟩,by show(r.drop (KG r).2.1).length<r.length+1;rw[KD];omega⟩|exact⟨⟨r,b++ [c],e,n,by rw[Zf];first|done|rfl,by rw[YM];first|done|rfl,J0,by rw[Zf];simp;omega,by simp;omega,by rw[hv,hst]⟩,by show r.length<r.length+1;omega⟩|exact⟨⟨r,b++ [c],b.length+1,n,by rw[Zf];first|done|rfl,by rw[YM];first|done|rfl,J0,by rw[Zf];simp;omega,J1,by rw[hv,hst]⟩,by show r.length<r.length+1;omega⟩
      .have hst:JS (n+1) (c::r) b e=JS n r (b++ [c]) (b.length+1):=by rw[JS,if_neg hc,if_neg (by simpa using h3),if_neg (by rintro rfl;exact absurd h4 (by decide))]
       refine rg tT [0,4,5] ?_
       first|exact⟨⟨r.drop (KG r).2.1,b++ [(KG r).1],b.length+1,n,by rw[Zf];first|done|rfl,by rw[YM];first|done|rfl,by rw[KD];omega,by rw[Zf,KD];simp;omega,J1,by rw[hv,hst]⟩,by show(r.drop (KG r).2.1).length<r.length+1;rw[KD];omega⟩|exact⟨⟨r,b++ [c],e,n,by rw[Zf];first|done|rfl,by rw[YM];first|done|rfl,J0,by rw[Zf];simp;omega,by simp;omega,by rw[hv,hst]⟩,by show r.length<r.length+1;omega⟩|exact⟨⟨r,b++ [c],b.length+1,n,by rw[Zf];first|done|rfl,by rw[YM];first|done|rfl,J0,by rw[Zf];simp;omega,J1,by rw[hv,hst]⟩,by show r.length<r.length+1;omega⟩
   .obtain rfl:r= []:=by simpa using h0
    have hv2:JS (s.length+1) (trL s) [] 0=some (b,e):=by rw[hv];rfl
    rw[hv2]at hq;have e1:(List.map Zk b).take e=(b.take e).map Zk:=by rw[ZVM]
    have uu:=Ya uu e1;refine rg tT [2,3] ?_;refine lf ?_;cases hq;rw[show decide ((e:Int)>0)=decide (e>0) by rw[Qq];simp]
 .exact hI.elim
def ZLZ:J8->J5
 | [.x (.str s)]=>some (decide (s.length<=900000),.tup [.x (.str (ZFn s).1),.x (.bool (ZFn s).2)])
 |_=>none
theorem ZaD: ∀args r,ZLZ args=some (true,r)->ZC Tryz.prog 206 args r:=by
 intro args r h;unfold ZLZ at h;split at h
 .rename_i s;simp only[Ze,ZZ,ZS,Zd,true_and]at h;obtain⟨h1,rfl⟩:=h;exact(ZhR s h1)
 .cases h
theorem ZPB(n:Nat):(ZBL n).2=decide (Qb n<16)/\(Qb n<16->(ZBL n).1=Qb n):=by
 unfold ZBL;split
 .rename_i h;exact⟨by simp[h],λ_=>rfl⟩
 .rename_i h;exact⟨by simp[h],λh'=>absurd h' h⟩
theorem ZQG(s:Tx)(i j:Nat):(s.drop i).getD j 0=s.getD (i+j) 0:=by simp
theorem ZO2(s:Tx)(i:Nat):KG (s.drop i)=if s.length<=i then(0,0,false)else if ZGa (s.getD i 0)=true then(s.getD i 0,1,true)else if ¬Qb (s.getD i 0).toNat<16\/s.length<i+2 then(0,0,false)else(orB (Qb (s.getD i 0).toNat) (ZBL (s.getD (i+1) 0).toNat).1,2,decide (Qb (s.getD (i+1) 0).toNat<16)):=by
 unfold KG;rw[ZQG,ZQG,JK];have h1:=ZPB (s.getD i 0).toNat;have h2:=ZPB (s.getD (i+1) 0).toNat;by_cases h:s.length<=i
 .rw[if_pos (ZB2 h),if_pos h]
 .rw[if_neg (by intro e;have:=congrArg List.length e;simp at this;omega),if_neg h];split
  .rfl
  .rw[h1.1,h2.1];have e1:(decide (Qb (s.getD i 0).toNat<16)=false\/(s.drop i).length<2)↔(¬Qb (s.getD i 0).toNat<16\/s.length<i+2):=by
    rw[decide_eq_false_iff_not,KD];constructor<;>(intro h;rcases h with h|h;exact .inl h;exact .inr J0)
   by_cases h3: ¬Qb (s.getD i 0).toNat<16\/s.length<i+2
   .rw[if_pos h3,if_pos (e1.2 h3)]
   .rw[if_neg h3,if_neg (λh=>h3 (e1.1 h)),h1.2 (ZJC.1 λh=>h3 (.inl h))]
theorem Zhb: ∀(a b:Fin 16),IntKind.u8.wrap (16*(a.val:Int)+(b.val:Int))=((UInt8.ofNat (16*a.val+b.val)).toNat:Int):=by decide+kernel
theorem ZiR(h l:Nat)(h1:h<16)(h2:l<16):IntKind.u8.wrap (16*(h:Int)+(l:Int))=((orB h l).toNat:Int):=Zhb ⟨_,h1⟩ ⟨_,h2⟩
theorem Zex(c:UInt8):ZGa c=(spc c.toNat||(decide ((c.toNat:Int)=32)||decide ((c.toNat:Int)=35))):=by
 have e1:decide (c.toNat=32)=decide ((c.toNat:Int)=32):=by rw[Qq,Zd,Zd];omega
 have e2:decide (c.toNat=35)=decide ((c.toNat:Int)=35):=by rw[Qq,Zd,Zd];omega
 unfold ZGa;rw[e1,e2,Bool.or_assoc]
theorem Kr(s:Tx)(j:Nat)(h:j<s.length):s.drop j=s.getD j 0::s.drop (j+1):=by
 rw[ZFj h];simp[h]
theorem Zam(n:Nat)(r b:Tx)(j e:Nat)(hc:r.getD j 0=92)(h1:j+1<r.length)(hf:ZGa (r.getD (j+1) 0)=true):JS (n+1) (r.drop j) b e=JS n (r.drop (j+2)) (b++ [r.getD (j+1) 0]) (b.length+1):=by
 have hE:KG (r.drop (j+1))=(r.getD (j+1) 0,1,true):=by rw[ZO2,if_neg J0,if_pos hf]
 rw[Kr r j J0,JS,if_pos hc,hE,if_pos rfl,ZMa];first|done|rfl
theorem ZfO(n:Nat)(r b:Tx)(j e:Nat)(hc:r.getD j 0=92)(h1:j+2<r.length)(hf:ZGa (r.getD (j+1) 0)=false)(hx:Qb (r.getD (j+1) 0).toNat<16)(hy:Qb (r.getD (j+2) 0).toNat<16):JS (n+1) (r.drop j) b e=JS n (r.drop (j+3)) (b++ [orB (Qb (r.getD (j+1) 0).toNat) (Qb (r.getD (j+2) 0).toNat)]) (b.length+1):=by
 have hE:KG (r.drop (j+1))=(orB (Qb (r.getD (j+1) 0).toNat) (Qb (r.getD (j+2) 0).toNat),2,true):=by
  rw[ZO2,if_neg J0,if_neg (by rw[hf];decide),if_neg (by rintro(h|h);exact h hx;omega),(ZPB (r.getD (j+1+1) 0).toNat).2 hy,ZL hy]
 rw[Kr r j J0,JS,if_pos hc,hE,if_pos rfl,ZMa];first|done|rfl
theorem ZeQ(n:Nat)(r b:Tx)(j e:Nat)(hj:j<r.length)(hc:r.getD j 0=92)(hf: ¬(j+1<r.length/\ZGa (r.getD (j+1) 0)=true))(hx: ¬(j+2<r.length/\Qb (r.getD (j+1) 0).toNat<16/\Qb (r.getD (j+2) 0).toNat<16)):JS (n+1) (r.drop j) b e=none:=by
 have hE:(KG (r.drop (j+1))).2.2=false:=by
  rw[ZO2];by_cases h1:r.length<=j+1
  .rw[if_pos h1]
  .rw[if_neg h1,if_neg (λh=>hf ⟨J0,h⟩)];by_cases h2: ¬Qb (r.getD (j+1) 0).toNat<16\/r.length<j+1+2
   .rw[if_pos h2]
   .rw[if_neg h2];simp only[not_or,ZJC]at h2;exact decide_eq_false (λh=>hx ⟨J0,h2.1,h⟩)
 rw[Kr r j hj,JS,if_pos hc,hE,if_neg (by decide)]
theorem Zdc(n:Nat)(r b:Tx)(j e:Nat)(hj:j<r.length)(hc:r.getD j 0≠92)(hb:ZHq (r.getD j 0).toNat (decide (b.length=0))=true):JS (n+1) (r.drop j) b e=none:=by
 rw[Kr r j hj,JS,if_neg hc,if_pos hb]
theorem ZX9(n:Nat)(r b:Tx)(j e:Nat)(hj:j<r.length)(hc:r.getD j 0=32):JS (n+1) (r.drop j) b e=JS n (r.drop (j+1)) (b++ [r.getD j 0]) e:=by
 rw[Kr r j hj,JS,if_neg (by rw[hc];decide),if_neg (by rw[hc];cases decide (b.length=0)<;>decide),if_pos hc]
theorem ZWt(n:Nat)(r b:Tx)(j e:Nat)(hj:j<r.length)(hc:r.getD j 0≠92)(hb: ¬ZHq (r.getD j 0).toNat (decide (b.length=0))=true)(h3:r.getD j 0≠32):JS (n+1) (r.drop j) b e=JS n (r.drop (j+1)) (b++ [r.getD j 0]) (b.length+1):=by
 rw[Kr r j hj,JS,if_neg hc,if_neg hb,if_neg h3]
theorem neD{c:UInt8}{k:Nat}(hk:k<256)(h: ¬(c.toNat:Int)=k):c≠UInt8.ofNat k:=λe=>h (by rw[e];simp;omega)
theorem Zd3(n:Nat)(f:Bool):ZHq n f=(((decide ((n:Int)<32)||decide ((n:Int)=127))||(spc n&&decide ((n:Int)≠61)))||(decide ((n:Int)=35)&&f)):=by
 unfold ZHq;rw[Qq];simp only[ZBJ,ZS,Zd];grind
theorem Zhm:spc 92=true:=by decide
def ZK6:Tabs:=ZT (ZT (ZO) 173 ZAz) 188 ZPH
theorem ZZh:SsOk Tryz.prog ZK6:=ZH (ZH (ZF) (ZW 173) ZL5) (ZW 188) Zda
theorem ZZ0:(∀a,ZK6.q 173 a=ZAz a)/\(∀a,ZK6.q 188 a=ZPH a)/\(∀f a o,ZK6.r f a o=none)/\(∀f a o,ZK6.k f a o=none):=⟨λ_=>rfl,λ_=>rfl,λ_ _ _=>rfl,λ_ _ _=>rfl⟩
set_option maxHeartbeats 2000000 in
theorem ZhB(s:Tx)(hl:s.length<=900000):ZC Tryz.prog 172 [.x (.str s)] (.tup [.x (.str (ZH6 s).1),.x (.bool (ZH6 s).2)]):=by
 have htl:=ZOf s;rcases hq:ZH6 s with⟨v,ok⟩
 unfold ZH6 at hq;refine ZI.pure (fC 172 true ?_) rfl;intro C0 E0;have uu:=ξ7 @ZAz.eq_1 @ZAz.eq_2 @ZPH.eq_1 @ZPH.eq_2 @Yv @Kt @ZZ0;have tT:=ZZh;refine nz ?_;refine WI.regB tT [0] ?_
 iterate 2 refine oS ?_
 refine oN ?_;refine nz ?_;refine WI.loop (λφ os=> ∃(r:Tx),φ= [(0,.x (.str r))]/\os= []/\r.length<=s.length/\trL s=trL r) ((λφ _=>match get φ 0 with| .x (.str r)=>r.length|_=>0)) ?_ (λφ os hI=> ?_)
 .exact⟨s,rfl,rfl,J0,rfl⟩
 .obtain⟨r,rfl,rfl,hr,he⟩:=hI;have hem:=ZIe r;refine nz ?_;refine WI.regB tT [0,14] ?_;refine oS ?_;refine oG (hok:=by first|exact se|(clear uu;grind)|exact sd) ?_;refine oS ?_
  iterate 4 refine oG (hok:=by first|exact se|(clear uu;grind)|exact sd) ?_
  refine oN ?_;refine nz ?_;refine cd (λh0=> ?_) (λh0=> ?_)
  .have h0p:0<r.length:=by rcases r with _|⟨c,r⟩;simp at h0;simp
   have h0c:r.getD 0 0=32:=by rcases r with _|⟨c,r⟩;simp at h0;exact ZMp (by simpa using h0)
   refine WI.regB tT [0] ?_;refine oS ?_;refine oG (hok:=by first|exact se|(clear uu;grind)|exact sd) ?_;refine oS ?_;refine oN ?_;refine nz ?_;exact⟨⟨r.drop 1,rfl,rfl,by simp;omega,by rw[he,ZM1 r h0p h0c]⟩,by show(r.drop 1).length<r.length;rw[KD];omega⟩
  .have h0n: ¬(0<r.length/\r.getD 0 0=32):=λhh=>by
    have h2:((r.getD 0 0).toNat:Int)=32:=by rw[hh.2];rfl
    have h3:r≠ []:=by rintro rfl;simp at hh
    grind
   rw[he,ZMM r h0n]at hq htl;clear he h0 h0n hem;refine WI.regB tT [0,4] ?_;refine oS ?_;refine oN ?_;refine nz ?_;refine WI.regB tT [0,4,5] ?_;refine oS ?_;refine oN ?_;refine nz ?_;refine WI.regB tT [0,4,5,6] ?_;refine oS ?_;refine oN ?_;refine nz ?_;refine WI.ownA 4 5 1 ?_;refine WI.loop (λφ os=> ∃(j e n:Nat) (b:Tx),φ= [(0,.x (.str r)),(4,.ref 0 b.length 0 b.length),(5,.x (.int .i64 e)),(6,.x (.int .i64 j))]/\os= [.rows false 5 1 (b.map Zk)]/\j<=r.length/\r.length-j<n/\b.length<=j/\e<=b.length/\JS (s.length+1) r [] 0=JS n (r.drop j) b e) (ZK r.length 6) ?_ (λφ os hI=> ?_)
   .exact⟨0,0,s.length+1,[],rfl,rfl,J0,J0,J1,J1,rfl⟩
   .obtain⟨j,e,n,b,rfl,rfl,hj,hn,hb,hee,hv⟩:=hI;obtain⟨n,rfl⟩: ∃m,n=m+1:=⟨n-1,J0⟩;refine nz ?_;refine WI.regB tT [0,4,5,6,20] ?_
    iterate 2 refine oS ?_
    iterate 2 refine oG (hok:=by first|exact se|(clear uu;grind)|exact sd) ?_
    refine oN ?_;refine nz ?_;refine cd (λh1=> ?_) (λh1=> ?_)
    .have hj4:j<r.length:=by omega
     have e1:((j:Int)+1).toNat=j+1:=by omega
     have e2:((j:Int)+2).toNat=j+2:=by omega
     have hb8:(r.getD j 0).toNat<256:=ZDm _;have hb81:(r.getD (j+1) 0).toNat<256:=ZDm _;have hb82:(r.getD (j+2) 0).toNat<256:=ZDm _;have hfe:=Zex (r.getD (j+1) 0);have hbe:=Zd3 (r.getD j 0).toNat (decide (b.length=0));have uu:=JX uu e1 e2;refine WI.regB tT [0,4,5,6,7] ?_
     iterate 2 refine oS ?_
     refine oG (hok:=by first|exact se|(clear uu;grind)|exact sd) ?_;refine oS ?_;refine oN ?_;refine nz ?_;refine WI.regB tT [0,4,5,6,7,32] ?_;refine oS ?_;refine oG (hok:=by first|exact se|(clear uu;grind)|exact sd) ?_;refine oS ?_
     iterate 6 refine oG (hok:=by first|exact se|(clear uu;grind)|exact sd) ?_
     refine oS ?_
     iterate 4 refine oG (hok:=by first|exact se|(clear uu;grind)|exact sd) ?_
     refine oC (hok:=by first|exact se|(clear uu;grind)|exact sd) ?_
     iterate 15 refine oG (hok:=by first|exact se|(clear uu;grind)|exact sd) ?_
     refine oS ?_;refine oN ?_;refine nz ?_;refine cd (λh2=> ?_) (λh2=> ?_)
     .have hst:=Zam n r b j e (ZTI (by clear uu;grind)) (by clear uu;grind) (by rw[hfe];clear uu;grind);refine WI.post ?_;refine WI.regB tT [0,4,6] ?_
      iterate 3 refine oS ?_
      iterate 4 refine oG (hok:=by first|exact se|(clear uu;grind)|exact sd) ?_
      refine oS ?_;refine oP ?_;refine Jf [0] ?_;refine KR ?_;refine nz ?_;refine WI.regB tT [0,4,6] ?_;refine oS ?_;refine oG (hok:=by first|exact se|(clear uu;grind)|exact sd) ?_;refine oS ?_;refine oN ?_;refine nz ?_;refine WI.regB tT [0,4,5,6] ?_;refine oS ?_;refine oG (hok:=by first|exact se|(clear uu;grind)|exact sd) ?_;refine oS ?_;refine oN ?_;refine nz ?_;refine WI.orderA [0,4,5,6] ?_;refine WI.regB tT [0,4,5,6] ?_;refine oS ?_;refine oG (hok:=by first|exact se|(clear uu;grind)|exact sd) ?_;refine oS ?_;refine oN ?_;refine nz ?_
      first|exact⟨⟨j+2,b.length+1,n,b++ [r.getD (j+1) 0],by rw[Zf];first|done|rfl,by rw[YM];first|done|rfl,J0,J0,by rw[Zf];simp;omega,J1,by rw[hv,hst]⟩,by simp[ZK,Ab.get,D.val,ZD];omega⟩|exact⟨⟨j+3,b.length+1,n,b++ [orB (Qb (r.getD (j+1) 0).toNat) (Qb (r.getD (j+2) 0).toNat)],by rw[Zf];first|done|rfl,by rw[YM];first|done|rfl,J0,J0,by rw[Zf];simp;omega,J1,by rw[hv,hst]⟩,by simp[ZK,Ab.get,D.val,ZD];omega⟩|exact⟨⟨j+1,e,n,b++ [r.getD j 0],by rw[Zf];first|done|rfl,by rw[YM];first|done|rfl,J0,J0,by rw[Zf];simp;omega,by simp;omega,by rw[hv,hst]⟩,by simp[ZK,Ab.get,D.val,ZD];omega⟩|exact⟨⟨j+1,b.length+1,n,b++ [r.getD j 0],by rw[Zf];first|done|rfl,by rw[YM];first|done|rfl,J0,J0,by rw[Zf];simp;omega,J1,by rw[hv,hst]⟩,by simp[ZK,Ab.get,D.val,ZD];omega⟩
     .refine WI.regB tT [0,4,5,6,7,74] ?_;refine oS ?_;refine oG (hok:=by first|exact se|(clear uu;grind)|exact sd) ?_;refine oS ?_
      iterate 6 refine oG (hok:=by first|exact se|(clear uu;grind)|exact sd) ?_
      refine oS ?_
      iterate 4 refine oG (hok:=by first|exact se|(clear uu;grind)|exact sd) ?_
      refine oC (hok:=by first|exact se|(clear uu;grind)|exact sd) ?_
      iterate 2 refine oG (hok:=by first|exact se|(clear uu;grind)|exact sd) ?_
      refine oS ?_
      iterate 4 refine oG (hok:=by first|exact se|(clear uu;grind)|exact sd) ?_
      refine oC (hok:=by first|exact se|(clear uu;grind)|exact sd) ?_
      iterate 2 refine oG (hok:=by first|exact se|(clear uu;grind)|exact sd) ?_
      refine oS ?_;refine oN ?_;refine nz ?_;refine cd (λh3=> ?_) (λh3=> ?_)
      .have hx1:Qb (r.getD (j+1) 0).toNat<16:=by clear uu;grind
       have hx2:Qb (r.getD (j+2) 0).toNat<16:=by clear uu;grind
       have hst:=ZfO n r b j e (ZTI (by clear uu;grind)) (by clear uu;grind) (by rw[hfe];clear uu;grind) hx1 hx2;have uu:=Ya uu (ZiR _ _ hx1 hx2);refine WI.post ?_;refine WI.dregB tT [0,4,6] ?_
       iterate 3 refine Zs ?_
       iterate 2 refine Jq (hok:=by first|exact se|(clear uu;grind)|exact sd) ?_
       refine dAC (hok:=by first|exact se|(clear uu;grind)|exact sd) ?_;refine Jq (hok:=by first|exact se|(clear uu;grind)|exact sd) ?_
       iterate 2 refine Zs ?_
       iterate 2 refine Jq (hok:=by first|exact se|(clear uu;grind)|exact sd) ?_
       refine dAC (hok:=by first|exact se|(clear uu;grind)|exact sd) ?_
       iterate 2 refine Jq (hok:=by first|exact se|(clear uu;grind)|exact sd) ?_
       iterate 2 refine dAG (hok:=by first|exact se|(clear uu;grind)|exact sd) ?_
       refine Zs ?_;refine dP ?_;refine Jf [0] ?_;refine KR ?_;refine nz ?_;refine WI.regB tT [0,4,6] ?_;refine oS ?_;refine oG (hok:=by first|exact se|(clear uu;grind)|exact sd) ?_;refine oS ?_;refine oN ?_;refine nz ?_;refine WI.regB tT [0,4,5,6] ?_;refine oS ?_;refine oG (hok:=by first|exact se|(clear uu;grind)|exact sd) ?_;refine oS ?_;refine oN ?_;refine nz ?_;refine WI.orderA [0,4,5,6] ?_;refine WI.regB tT [0,4,5,6] ?_;refine oS ?_;refine oG (hok:=by first|exact se|(clear uu;grind)|exact sd) ?_;refine oS ?_;refine oN ?_;refine nz ?_
       first|exact⟨⟨j+2,b.length+1,n,b++ [r.getD (j+1) 0],by rw[Zf];first|done|rfl,by rw[YM];first|done|rfl,J0,J0,by rw[Zf];simp;omega,J1,by rw[hv,hst]⟩,by simp[ZK,Ab.get,D.val,ZD];omega⟩|exact⟨⟨j+3,b.length+1,n,b++ [orB (Qb (r.getD (j+1) 0).toNat) (Qb (r.getD (j+2) 0).toNat)],by rw[Zf];first|done|rfl,by rw[YM];first|done|rfl,J0,J0,by rw[Zf];simp;omega,J1,by rw[hv,hst]⟩,by simp[ZK,Ab.get,D.val,ZD];omega⟩|exact⟨⟨j+1,e,n,b++ [r.getD j 0],by rw[Zf];first|done|rfl,by rw[YM];first|done|rfl,J0,J0,by rw[Zf];simp;omega,by simp;omega,by rw[hv,hst]⟩,by simp[ZK,Ab.get,D.val,ZD];omega⟩|exact⟨⟨j+1,b.length+1,n,b++ [r.getD j 0],by rw[Zf];first|done|rfl,by rw[YM];first|done|rfl,J0,J0,by rw[Zf];simp;omega,J1,by rw[hv,hst]⟩,by simp[ZK,Ab.get,D.val,ZD];omega⟩
      .refine WI.regB tT [0,4,5,6,7,120] ?_;refine oS ?_;refine oG (hok:=by first|exact se|(clear uu;grind)|exact sd) ?_;refine oS ?_;refine oN ?_;refine nz ?_;refine cd (λh4=> ?_) (λh4=> ?_)
       .have hst:=ZX9 n r b j e hj4 (ZMp (by first|exact h4|simpa using h4));refine WI.post ?_;refine WI.regB tT [0,4,5,6] ?_
        iterate 2 refine oS ?_
        iterate 2 refine oG (hok:=by first|exact se|(clear uu;grind)|exact sd) ?_
        refine oS ?_;refine oP ?_;refine Jf [0] ?_;refine KR ?_;refine nz ?_;refine WI.orderA [0,4,5,6] ?_;refine WI.regB tT [0,4,5,6] ?_;refine oS ?_;refine oG (hok:=by first|exact se|(clear uu;grind)|exact sd) ?_;refine oS ?_;refine oN ?_;refine nz ?_
        first|exact⟨⟨j+2,b.length+1,n,b++ [r.getD (j+1) 0],by rw[Zf];first|done|rfl,by rw[YM];first|done|rfl,J0,J0,by rw[Zf];simp;omega,J1,by rw[hv,hst]⟩,by simp[ZK,Ab.get,D.val,ZD];omega⟩|exact⟨⟨j+3,b.length+1,n,b++ [orB (Qb (r.getD (j+1) 0).toNat) (Qb (r.getD (j+2) 0).toNat)],by rw[Zf];first|done|rfl,by rw[YM];first|done|rfl,J0,J0,by rw[Zf];simp;omega,J1,by rw[hv,hst]⟩,by simp[ZK,Ab.get,D.val,ZD];omega⟩|exact⟨⟨j+1,e,n,b++ [r.getD j 0],by rw[Zf];first|done|rfl,by rw[YM];first|done|rfl,J0,J0,by rw[Zf];simp;omega,by simp;omega,by rw[hv,hst]⟩,by simp[ZK,Ab.get,D.val,ZD];omega⟩|exact⟨⟨j+1,b.length+1,n,b++ [r.getD j 0],by rw[Zf];first|done|rfl,by rw[YM];first|done|rfl,J0,J0,by rw[Zf];simp;omega,J1,by rw[hv,hst]⟩,by simp[ZK,Ab.get,D.val,ZD];omega⟩
       .refine WI.regB tT [0,4,6,7,127] ?_;refine oS ?_;refine oG (hok:=by first|exact se|(clear uu;grind)|exact sd) ?_;refine oS ?_
        iterate 3 refine oG (hok:=by first|exact se|(clear uu;grind)|exact sd) ?_
        refine oS ?_;refine oG (hok:=by first|exact se|(clear uu;grind)|exact sd) ?_;refine oC (hok:=by first|exact se|(clear uu;grind)|exact sd) ?_
        iterate 5 refine oG (hok:=by first|exact se|(clear uu;grind)|exact sd) ?_
        refine oS ?_
        iterate 8 refine oG (hok:=by first|exact se|(clear uu;grind)|exact sd) ?_
        refine oS ?_;refine oN ?_;refine nz ?_;refine cd (λh5=> ?_) (λh5=> ?_)
        .refine WI.regB tT [2,3] ?_
         iterate 2 refine oS ?_
         refine oN ?_;refine nz ?_;refine lf ?_;have hno:JS (n+1) (r.drop j) b e=none:=by
          by_cases hc:r.getD j 0=92
          .have hc':((r.getD j 0).toNat:Int)=92:=by rw[hc];rfl
           exact ZeQ n r b j e hj4 hc (by rw[hfe];clear uu;grind) (by clear uu;grind)
          .exact Zdc n r b j e hj4 hc (by rw[hbe];clear uu;grind)
         rw[hv,hno]at hq;cases hq;rfl
        .have hc9:r.getD j 0≠92:=by
          intro hc;have hc':((r.getD j 0).toNat:Int)=92:=by rw[hc];rfl
          have hs9:spc (r.getD j 0).toNat=true:=by rw[hc];exact Zhm
          clear uu;grind
         have hst:=ZWt n r b j e hj4 hc9 (by rw[hbe];clear uu;grind) (neD (k:=32) (by decide) (by clear uu;grind));refine WI.post ?_;refine WI.regB tT [0,4,6] ?_
         iterate 2 refine oS ?_
         iterate 2 refine oG (hok:=by first|exact se|(clear uu;grind)|exact sd) ?_
         refine oS ?_;refine oP ?_;refine Jf [0] ?_;refine KR ?_;refine nz ?_;refine WI.regB tT [0,4,5,6] ?_;refine oS ?_;refine oG (hok:=by first|exact se|(clear uu;grind)|exact sd) ?_;refine oS ?_;refine oN ?_;refine nz ?_;refine WI.orderA [0,4,5,6] ?_;refine WI.regB tT [0,4,5,6] ?_;refine oS ?_;refine oG (hok:=by first|exact se|(clear uu;grind)|exact sd) ?_;refine oS ?_;refine oN ?_;refine nz ?_
         first|exact⟨⟨j+2,b.length+1,n,b++ [r.getD (j+1) 0],by rw[Zf];first|done|rfl,by rw[YM];first|done|rfl,J0,J0,by rw[Zf];simp;omega,J1,by rw[hv,hst]⟩,by simp[ZK,Ab.get,D.val,ZD];omega⟩|exact⟨⟨j+3,b.length+1,n,b++ [orB (Qb (r.getD (j+1) 0).toNat) (Qb (r.getD (j+2) 0).toNat)],by rw[Zf];first|done|rfl,by rw[YM];first|done|rfl,J0,J0,by rw[Zf];simp;omega,J1,by rw[hv,hst]⟩,by simp[ZK,Ab.get,D.val,ZD];omega⟩|exact⟨⟨j+1,e,n,b++ [r.getD j 0],by rw[Zf];first|done|rfl,by rw[YM];first|done|rfl,J0,J0,by rw[Zf];simp;omega,by simp;omega,by rw[hv,hst]⟩,by simp[ZK,Ab.get,D.val,ZD];omega⟩|exact⟨⟨j+1,b.length+1,n,b++ [r.getD j 0],by rw[Zf];first|done|rfl,by rw[YM];first|done|rfl,J0,J0,by rw[Zf];simp;omega,J1,by rw[hv,hst]⟩,by simp[ZK,Ab.get,D.val,ZD];omega⟩
    .have hv2:JS (s.length+1) r [] 0=some (b,e):=by rw[hv,ZB2 J0];rfl
     rw[hv2]at hq;have e1:(List.map Zk b).take e=(b.take e).map Zk:=by rw[ZVM]
     have uu:=Ya uu e1;refine WI.regB tT [2,3] ?_
     iterate 2 refine oS ?_
     iterate 2 refine oG (hok:=by first|exact se|(clear uu;grind)|exact sd) ?_
     iterate 2 refine oS ?_
     refine oN ?_;refine nz ?_;refine lf ?_;cases hq;rfl
def ZLh:J8->J5
 | [.x (.str s)]=>some (decide (s.length<=900000),.tup [.x (.str (ZH6 s).1),.x (.bool (ZH6 s).2)])
 |_=>none
theorem Zaq: ∀args r,ZLh args=some (true,r)->ZC Tryz.prog 172 args r:=by
 intro args r h;unfold ZLh at h;split at h
 .rename_i s;simp only[Ze,ZZ,ZS,Zd,true_and]at h;obtain⟨h1,rfl⟩:=h;exact(ZhB s h1)
 .cases h
def pre(p:Tx):List Tx->List Tx
 | []=> [p]
 |x::l=>(p++x)::l
def YT(a:UInt8):Tx->List Tx
 | []=> [[]]
 |c::r=>if c=92 then(match r with
   | []=> [[c]]
   |d::r'=>pre [c,d] (YT a r'))else if c=a then []::YT a r else pre [c] (YT a r)
theorem ZZe(p:Tx)(l:List Tx):pre p l≠ []:=by cases l<;>simp[pre]
theorem ZIm(a:UInt8)(s:Tx):YT a s≠ []:=by
 unfold YT;split
 .simp
 .split
  .split
   .simp
   .exact ZZe _ _
  .split
   .simp
   .exact ZZe _ _
theorem ZPD(p q:Tx)(l:List Tx)(h:l≠ []):pre p (pre q l)=pre (p++q) l:=by
 rcases l with _|⟨x,l⟩
 .exact absurd rfl h
 .simp[pre]
theorem ZOh(l:List Tx)(h:l≠ []):pre [] l=l:=by
 rcases l with _|⟨x,l⟩
 .exact absurd rfl h
 .simp[pre]
theorem ZXU(a:UInt8)(s:Tx)(j:Nat)(h:j<s.length)(hc:s.getD j 0=92):YT a (s.drop j)=pre ((s.drop j).take 2) (YT a (s.drop (j+2))):=by
 rw[Kr s j h,hc];rcases hr:s.drop (j+1)with _|⟨d,r⟩
 .have:s.drop (j+2)= []:=by rw[<-ZMa,show s.drop j=s.drop (j+0)from rfl];have:=congrArg (List.drop 1) hr;rw[ZMa]at this;simpa using this
  rw[this];rfl
 .have:s.drop (j+2)=r:=by have:=congrArg (List.drop 1) hr;rw[ZMa]at this;simpa using this
  rw[this]
  conv=>lhs;unfold YT
  rw[if_pos rfl];rfl
theorem ZfB(a:UInt8)(ha:a≠92)(s:Tx)(j:Nat)(h:j<s.length)(hc:s.getD j 0=a):YT a (s.drop j)= []::YT a (s.drop (j+1)):=by
 rw[Kr s j h,hc]
 conv=>lhs;unfold YT
 rw[if_neg ha,if_pos rfl]
theorem ZZD(a:UInt8)(s:Tx)(j:Nat)(h:j<s.length)(h1:s.getD j 0≠92)(h2:s.getD j 0≠a):YT a (s.drop j)=pre [s.getD j 0] (YT a (s.drop (j+1))):=by
 rw[Kr s j h]
 conv=>lhs;unfold YT
 rw[if_neg h1,if_neg h2]
theorem ZNH(s:Tx)(f j k:Nat)(h:f<=j)(hj:j<=s.length):(s.take (j+k)).drop f=(s.take j).drop f++(s.drop j).take k:=by
 rw[List.take_add,ZcL (by simp;omega)]
theorem ZgN(s:Tx)(j:Nat)(h:j<s.length):(s.drop j).take 1= [s.getD j 0]:=by rw[Kr s j h];rfl
structure SpI (a:UInt8) (s:Tx) (f j:Nat) (ps:List Tx):Prop where
 fj:f<=j
 jl:j<=s.length+1
 fl:f<=s.length
 pl:ps.length<=f
 eq:YT a s=ps++pre ((s.take j).drop f) (YT a (s.drop j))
theorem SpI.start(a:UInt8)(s:Tx):SpI a s 0 0 []:=⟨Zm _,J0,J0,J1,by show YT a s=pre [] (YT a s);rw[ZOh _ (ZIm a s)]⟩
theorem SpI.slash{a:UInt8}{s:Tx}{f j:Nat}{ps:List Tx}(I:SpI a s f j ps)(h:j<s.length)(hc:s.getD j 0=92):SpI a s f (j+2) ps:=
 ⟨by have:=I.fj;omega,J0,I.fl,I.pl,by rw[I.eq,ZXU a s j h hc,ZPD _ _ _ (ZIm _ _),ZNH s f j 2 I.fj J0]⟩
theorem SpI.hit{a:UInt8}(ha:a≠92){s:Tx}{f j:Nat}{ps:List Tx}(I:SpI a s f j ps)(h:j<s.length)(hc:s.getD j 0=a):SpI a s (j+1) (j+1) (ps++ [(s.take j).drop f]):=
 ⟨Zm _,J0,J0,by have:=I.pl;have:=I.fj;simp;omega,by
  rw[I.eq,ZfB a ha s j h hc,ZB2 (l:=s.take (j+1)) (by simp;omega),ZOh _ (ZIm _ _)];simp[pre]⟩
theorem SpI.plain{a:UInt8}{s:Tx}{f j:Nat}{ps:List Tx}(I:SpI a s f j ps)(h:j<s.length)(h1:s.getD j 0≠92)(h2:s.getD j 0≠a):SpI a s f (j+1) ps:=
 ⟨by have:=I.fj;omega,J0,I.fl,I.pl,by rw[I.eq,ZZD a s j h h1 h2,ZPD _ _ _ (ZIm _ _),ZNH s f j 1 I.fj J0,ZgN s j h]⟩
theorem SpI.fin{a:UInt8}{s:Tx}{f j:Nat}{ps:List Tx}(I:SpI a s f j ps)(h:s.length<=j):YT a s=ps++ [s.drop f]:=by
 rw[I.eq,ZB2 h,Yi h];simp[YT,pre]
theorem ZAp(l:List Tx)(x:Tx):rows ZB l++ [[X.str x]]=rows ZB (l++ [x]):=by simp[rows,ZB]
theorem cD{c a:UInt8}(h:(c.toNat:Int)=a.toNat):c=a:=ZO8.1 J0
theorem nD{c a:UInt8}(h: ¬(c.toNat:Int)=a.toNat):c≠a:=λe=>h (by rw[e])
theorem ZSF(a:UInt8)(ha:a≠92)(s:Tx)(hl:s.length<=1000000):ZC Tryz.prog 159 [.x (.str s),.x (.int .u8 a.toNat)] (.x (.sl (rows ZB (YT a s)))):=by
 refine ZI.pure (fC 159 true ?_) rfl;intro C0 E0;have uu:=trivial;have tT:=(ZF:SsOk Tryz.prog ZO);refine nz ?_;refine rg tT [0,1] ?_;refine rg tT [0,1,5] ?_;refine rg tT [0,1,5,6] ?_;refine rg tT [0,1,5,6,7] ?_;refine WI.ownA 5 9 1 ?_;refine WI.loop (λφ os=> ∃(f j:Nat) (ps:List Tx),φ= [(0,.x (.str s)),(1,.x (.int .u8 a.toNat)),(5,.ref 0 ps.length 0 ps.length),(6,.x (.int .i64 f)),(7,.x (.int .i64 j))]/\os= [.rows false 9 1 (rows ZB ps)]/\SpI a s f j ps) (ZK (s.length+1) 7) ?_ (λφ os hI=> ?_)
 .exact⟨0,0,[],rfl,rfl,SpI.start a s⟩
 .obtain⟨f,j,ps,rfl,rfl,I⟩:=hI;have i1:=I.fj;have i2:=I.jl;have i3:=I.fl;have i4:=I.pl;refine nz ?_;refine rg tT [0,1,5,6,7,11] ?_;refine cd (λh0=> ?_) (λh0=> ?_)
  .have hj4:j<s.length:=by omega
   refine rg tT [0,1,5,6,7,16] ?_;refine rg tT [0,1,5,6,7,16,17] ?_;refine cd (λh1=> ?_) (λh1=> ?_)
   .have hc:s.getD j 0=92:=ZTI (by first|exact h1|simpa using h1);refine rg tT [0,1,5,6,7] ?_;refine WI.orderA [0,1,5,6,7] ?_;refine rg tT [0,1,5,6,7] ?_
    first|exact⟨⟨f,j+2,ps,rfl,rfl,I.slash hj4 hc⟩,by simp[ZK,Ab.get,D.val,ZD];omega⟩|exact⟨⟨j+1,j+1,ps++ [(s.take j).drop f],by rw[Zf];first|done|rfl,by rw[<-ZAp];first|done|rfl,I.hit ha hj4 hc⟩,by simp[ZK,Ab.get,D.val,ZD];omega⟩|exact⟨⟨f,j+1,ps,rfl,rfl,I.plain hj4 hc1 hc2⟩,by simp[ZK,Ab.get,D.val,ZD];omega⟩
   .have hc1:s.getD j 0≠92:=neD (k:=92) (by decide) (by first|exact h1|simpa using h1);refine rg tT [0,1,5,6,7,21] ?_;refine cd (λh2=> ?_) (λh2=> ?_)
    .have hc:s.getD j 0=a:=cD (by first|exact h2|simpa using h2);refine rgp tT [0,1,5,7] ?_;refine Jf [0] ?_;refine KR ?_;refine nz ?_;refine rg tT [0,1,5,6,7] ?_;refine WI.orderA [0,1,5,6,7] ?_;refine rg tT [0,1,5,6,7] ?_
     first|exact⟨⟨f,j+2,ps,rfl,rfl,I.slash hj4 hc⟩,by simp[ZK,Ab.get,D.val,ZD];omega⟩|exact⟨⟨j+1,j+1,ps++ [(s.take j).drop f],by rw[Zf];first|done|rfl,by rw[<-ZAp];first|done|rfl,I.hit ha hj4 hc⟩,by simp[ZK,Ab.get,D.val,ZD];omega⟩|exact⟨⟨f,j+1,ps,rfl,rfl,I.plain hj4 hc1 hc2⟩,by simp[ZK,Ab.get,D.val,ZD];omega⟩
    .have hc2:s.getD j 0≠a:=nD (by first|exact h2|simpa using h2);refine WI.orderA [0,1,5,6,7] ?_;refine rg tT [0,1,5,6,7] ?_
     first|exact⟨⟨f,j+2,ps,rfl,rfl,I.slash hj4 hc⟩,by simp[ZK,Ab.get,D.val,ZD];omega⟩|exact⟨⟨j+1,j+1,ps++ [(s.take j).drop f],by rw[Zf];first|done|rfl,by rw[<-ZAp];first|done|rfl,I.hit ha hj4 hc⟩,by simp[ZK,Ab.get,D.val,ZD];omega⟩|exact⟨⟨f,j+1,ps,rfl,rfl,I.plain hj4 hc1 hc2⟩,by simp[ZK,Ab.get,D.val,ZD];omega⟩
  .refine rg tT [4] ?_;refine lf ?_;rw[ZAp,I.fin J0,Yi (by simp[rows])]
def QM:J8->J5
 | [.x (.str s),.x (.int .u8 n)]=>some (decide (s.length<=1000000)&&(decide (n=43\/n=44)),.x (.sl (rows ZB (YT (UInt8.ofNat n.toNat) s))))
 |_=>none
theorem ZJE: ∀args r,QM args=some (true,r)->ZC Tryz.prog 159 args r:=by
 intro args r h;unfold QM at h;split at h
 .rename_i s n;simp only[Ze,ZZ,ZS,Zd,true_and]at h;obtain⟨⟨h1,h2⟩,rfl⟩:=h;exact(by rcases h2 with rfl|rfl;exact ZSF 43 (by decide) s h1;exact ZSF 44 (by decide) s h1)
 .cases h
theorem ZRz(a:UInt8)(ha:a≠92)(s:Tx)(hl:s.length<=1000000):ZC Tryz.prog 137 [.x (.str s),.x (.int .u8 a.toNat)] (.x (.sl (rows ZB (YT a s)))):=by
 refine ZI.pure (fC 137 true ?_) rfl;intro C0 E0;have uu:=trivial;have tT:=(ZF:SsOk Tryz.prog ZO);refine nz ?_;refine rg tT [0,1] ?_;refine rg tT [0,1,5] ?_;refine rg tT [0,1,5,6] ?_;refine rg tT [0,1,5,6,7] ?_;refine WI.ownA 5 9 1 ?_;refine WI.loop (λφ os=> ∃(f j:Nat) (ps:List Tx),φ= [(0,.x (.str s)),(1,.x (.int .u8 a.toNat)),(5,.ref 0 ps.length 0 ps.length),(6,.x (.int .i64 f)),(7,.x (.int .i64 j))]/\os= [.rows false 9 1 (rows ZB ps)]/\SpI a s f j ps) (ZK (s.length+1) 7) ?_ (λφ os hI=> ?_)
 .exact⟨0,0,[],rfl,rfl,SpI.start a s⟩
 .obtain⟨f,j,ps,rfl,rfl,I⟩:=hI;have i1:=I.fj;have i2:=I.jl;have i3:=I.fl;have i4:=I.pl;refine nz ?_;refine rg tT [0,1,5,6,7,11] ?_;refine cd (λh0=> ?_) (λh0=> ?_)
  .have hj4:j<s.length:=by omega
   refine rg tT [0,1,5,6,7,17] ?_;refine cd (λh1=> ?_) (λh1=> ?_)
   .have hc:s.getD j 0=92:=ZTI (by first|exact h1|simpa using h1);refine rg tT [0,1,5,6,7] ?_;refine WI.orderA [0,1,5,6,7] ?_;refine rg tT [0,1,5,6,7] ?_
    first|exact⟨⟨f,j+2,ps,rfl,rfl,I.slash hj4 hc⟩,by simp[ZK,Ab.get,D.val,ZD];omega⟩|exact⟨⟨j+1,j+1,ps++ [(s.take j).drop f],by rw[Zf];first|done|rfl,by rw[<-ZAp];first|done|rfl,I.hit ha hj4 hc⟩,by simp[ZK,Ab.get,D.val,ZD];omega⟩|exact⟨⟨f,j+1,ps,rfl,rfl,I.plain hj4 hc1 hc2⟩,by simp[ZK,Ab.get,D.val,ZD];omega⟩
   .have hc1:s.getD j 0≠92:=neD (k:=92) (by decide) (by first|exact h1|simpa using h1);refine rg tT [0,1,5,6,7,24] ?_;refine cd (λh2=> ?_) (λh2=> ?_)
    .have hc:s.getD j 0=a:=cD (by first|exact h2|simpa using h2);refine rgp tT [0,1,5,7] ?_;refine Jf [0] ?_;refine KR ?_;refine nz ?_;refine rg tT [0,1,5,6,7] ?_;refine WI.orderA [0,1,5,6,7] ?_;refine rg tT [0,1,5,6,7] ?_
     first|exact⟨⟨f,j+2,ps,rfl,rfl,I.slash hj4 hc⟩,by simp[ZK,Ab.get,D.val,ZD];omega⟩|exact⟨⟨j+1,j+1,ps++ [(s.take j).drop f],by rw[Zf];first|done|rfl,by rw[<-ZAp];first|done|rfl,I.hit ha hj4 hc⟩,by simp[ZK,Ab.get,D.val,ZD];omega⟩|exact⟨⟨f,j+1,ps,rfl,rfl,I.plain hj4 hc1 hc2⟩,by simp[ZK,Ab.get,D.val,ZD];omega⟩
    .have hc2:s.getD j 0≠a:=nD (by first|exact h2|simpa using h2);refine WI.orderA [0,1,5,6,7] ?_;refine rg tT [0,1,5,6,7] ?_
     first|exact⟨⟨f,j+2,ps,rfl,rfl,I.slash hj4 hc⟩,by simp[ZK,Ab.get,D.val,ZD];omega⟩|exact⟨⟨j+1,j+1,ps++ [(s.take j).drop f],by rw[Zf];first|done|rfl,by rw[<-ZAp];first|done|rfl,I.hit ha hj4 hc⟩,by simp[ZK,Ab.get,D.val,ZD];omega⟩|exact⟨⟨f,j+1,ps,rfl,rfl,I.plain hj4 hc1 hc2⟩,by simp[ZK,Ab.get,D.val,ZD];omega⟩
  .refine rg tT [4] ?_;refine lf ?_;rw[ZAp,I.fin J0,Yi (by simp[rows])]
def ZGN:J8->J5
 | [.x (.str s),.x (.int .u8 n)]=>some (decide (s.length<=1000000)&&(decide (n=43\/n=44)),.x (.sl (rows ZB (YT (UInt8.ofNat n.toNat) s))))
 |_=>none
theorem ZVX: ∀args r,ZGN args=some (true,r)->ZC Tryz.prog 137 args r:=by
 intro args r h;unfold ZGN at h;split at h
 .rename_i s n;simp only[Ze,ZZ,ZS,Zd,true_and]at h;obtain⟨⟨h1,h2⟩,rfl⟩:=h;exact(by rcases h2 with rfl|rfl;exact ZRz 43 (by decide) s h1;exact ZRz 44 (by decide) s h1)
 .cases h
def ZOp(n:Nat):Bool:=decide (97<=n/\n<=122)||decide (65<=n/\n<=90)
def ZOm(n:Nat):Bool:=decide (48<=n/\n<=57)||decide (n=45)
def tyC(i:Nat)(c:UInt8):Bool:=ZOp c.toNat||(decide (0<i)&&ZOm c.toNat)
def tyU(s:List UInt8):Nat->Bool
 |0=>true
 |j+1=>tyU s j&&tyC j (s.getD j 0)
def tyA(s:List UInt8)(j:Nat):Bool:=(decide (s≠ [])&&decide (s.length<=64))&&tyU s j
def JJ(s:List UInt8):Bool:=tyA s s.length
theorem ZPR(s:List UInt8):JJ s=(decide (1<=s.length/\s.length<=64)&&tyU s s.length):=by
 unfold JJ tyA;congr 1;rcases s with _|⟨c,s⟩<;>simp
theorem ZY6(s:List UInt8): ∀(n j:Nat),j<n->tyC j (s.getD j 0)=false->tyU s n=false
 |n+1,j,hj,h=>by
  rw[tyU];by_cases e:j=n
  .subst e;rw[h,ZFg]
  .rw[ZY6 s n j J0 h,ZH4]
theorem Zee(j:Nat)(c:UInt8):(((decide ((Ql c).toNat>=97)&&decide ((Ql c).toNat<=122))||(decide (j>0)&&((decide ((Ql c).toNat>=48)&&decide ((Ql c).toNat<=57))||decide ((Ql c).toNat=45)))))=tyC j c:=by
 have h8:=ZDm c;unfold tyC ZOp ZOm;by_cases h:65<=c.toNat/\c.toNat<=90
 .have e:(Ql c).toNat=c.toNat+32:=by have:=ZL2 h;omega
  rw[e,Qq];simp only[ZBJ,ZS,Zd];omega
 .have e:Ql c=c:=if_neg h;rw[e,Qq];simp only[ZBJ,ZS,Zd];omega
theorem ZUu(s:List UInt8):(!s== []&&decide ((s.length:Int)<=64))=tyA s 0:=by
 unfold tyA;rw[tyU,QS,Qq];simp;omega
theorem ZUw(s:List UInt8)(j:Nat):(tyA s j&&(decide (((Ql (s.getD j 0)).toNat:Int)>=97)&&decide (((Ql (s.getD j 0)).toNat:Int)<=122)||decide ((j:Int)>0)&&(decide (((Ql (s.getD j 0)).toNat:Int)>=48)&&decide (((Ql (s.getD j 0)).toNat:Int)<=57)||((Ql (s.getD j 0)).toNat:Int)==45)))=tyA s (j+1):=by
 have h:=Zee j (s.getD j 0);unfold tyA;rw[tyU,<-h,<-ZKe];congr 1;rw[Qq];simp only[ZBJ,ZS,Zd,beq_iff_eq];omega
theorem ZTt(s:List UInt8)(i:Nat)(h:i<s.length):((ZJ s).map Zk)[i]? =some [X.int .u8 (Ql (s.getD i 0)).toNat]:=by
 simp[ZJ,h,Zk]
def ZNY:Tabs:=ZT (ZO) 63 ZBm
theorem ZP3:SsOk Tryz.prog ZNY:=ZH (ZF) (ZW 63) ZPe
theorem ZSE:(∀a,ZNY.q 63 a=ZBm a)/\(∀f a o,ZNY.r f a o=none)/\(∀f a o,ZNY.k f a o=none):=⟨λ_=>rfl,λ_ _ _=>rfl,λ_ _ _=>rfl⟩
theorem ZX3(j:Nat)(c:UInt8):tyC j c=((decide (((c.toNat:Int))>=97)&&decide ((c.toNat:Int)<=122)||decide ((c.toNat:Int)>=65)&&decide ((c.toNat:Int)<=90))||(decide ((j:Int)≠0)&&(decide ((c.toNat:Int)>=48)&&decide ((c.toNat:Int)<=57)||decide ((c.toNat:Int)=45)))):=by
 unfold tyC ZOp ZOm;rw[Qq];simp only[ZBJ,ZS,Zd];omega
theorem Zea(s:List UInt8)(hl:s.length<=1000000):ZC Tryz.prog 170 [.x (.str s)] (.x (.bool (JJ s))):=by
 refine ZI.pure (fC 170 true ?_) rfl;intro C0 E0;have uu:=trivial;have tT:=(ZF:SsOk Tryz.prog ZO);refine nz ?_;refine rg tT [0] ?_;refine rg tT [0,3] ?_;refine WI.loop (λφ os=> ∃(j:Nat),φ= [(0,.x (.str s)),(3,.x (.int .i64 j))]/\os= []/\j<=s.length/\tyU s j=true) (ZK s.length 3) ?_ (λφ os hI=> ?_)
 .exact⟨0,rfl,rfl,J0,rfl⟩
 .obtain⟨j,rfl,rfl,hj,hu⟩:=hI;refine nz ?_;refine rg tT [0,3,9] ?_;refine cd (λh0=> ?_) (λh0=> ?_)
  .refine rg tT [0,3,4] ?_;refine rg tT [0,3,4,5] ?_;refine rg tT [0,3,47] ?_;refine cd (λh1=> ?_) (λh1=> ?_)
   .have hc:tyC j (s.getD j 0)=false:=by rw[ZX3];grind
    refine rg tT [2] ?_;refine lf ?_;rw[ZPR,ZY6 s s.length j J0 hc,ZFg]
   .have hc:tyC j (s.getD j 0)=true:=by rw[ZX3];grind
    refine rg tT [0,3] ?_;exact⟨⟨j+1,rfl,rfl,J0,by rw[tyU,hu,hc];rfl⟩,by simp[ZK,Ab.get,D.val,ZD];omega⟩
  .refine rg tT [2] ?_;refine lf ?_;rw[ZPR,show s.length=j by omega,hu,QS];congr 2;rw[Qq];simp;omega
def ZDH:J8->J5
 | [.x (.str s)]=>some (decide (s.length<=1000000),.x (.bool (JJ s)))
 |_=>none
theorem ZQR: ∀args r,ZDH args=some (true,r)->ZC Tryz.prog 170 args r:=by
 intro args r h;unfold ZDH at h;split at h
 .rename_i s;simp only[Ze,ZZ,ZS,Zd,true_and]at h;obtain⟨h1,rfl⟩:=h;exact(Zea s h1)
 .cases h
theorem ZZ7(s:List UInt8)(hl:s.length<=1000000):ZC Tryz.prog 205 [.x (.str s)] (.x (.bool (JJ s))):=by
 refine ZI.pure (fC 205 true ?_) rfl;intro C0 E0;have uu:=ξ6 @ZBm.eq_1 @ZBm.eq_2 @ZEv @Yv @Kt @ZSE;have tT:=ZP3;refine nz ?_;refine rg tT [0] ?_;refine rg tT [0,3] ?_;refine rg tT [3,16,17,18] ?_;refine WI.loop (λφ os=> ∃(j:Nat),φ= [(3,.x (.bool (tyA s j))),(16,.ref 0 s.length 0 s.length),(17,.x (.int .i64 s.length)),(18,.x (.int .i64 j))]/\os= [.rows true 5 1 ((ZJ s).map Zk)]/\j<=s.length) (ZK s.length 18) ?_ (λφ os hI=> ?_)
 .exact⟨0,by rw[<-ZUu];rfl,rfl,J0⟩
 .obtain⟨j,rfl,rfl,hj⟩:=hI;refine nz ?_;refine rg tT [3,16,17,18,19] ?_;refine cd (λh0=> ?_) (λh0=> ?_)
  .have hj4:j<s.length:=by omega
   have uu:=Ya uu (ZTt s j hj4);refine rg tT [3,4,5,16,17,18] ?_;refine rg tT [3,4,5,6,16,17,18] ?_;refine rg tT [3,16,17,18] ?_;refine rg tT [3,16,17,18] ?_;exact⟨⟨j+1,by rw[<-ZUw];rfl,rfl,J0⟩,by simp[ZK,Ab.get,D.val,ZD];omega⟩
  .refine rg tT [2] ?_;refine lf ?_;rw[show JJ s=tyA s j from by rw[show j=s.length by omega];rfl]
def ZAh:J8->J5
 | [.x (.str s)]=>some (decide (s.length<=1000000),.x (.bool (JJ s)))
 |_=>none
theorem ZOL: ∀args r,ZAh args=some (true,r)->ZC Tryz.prog 205 args r:=by
 intro args r h;unfold ZAh at h;split at h
 .rename_i s;simp only[Ze,ZZ,ZS,Zd,true_and]at h;obtain⟨h1,rfl⟩:=h;exact(ZZ7 s h1)
 .cases h
theorem ZcA(s:List UInt8)(hl:s.length<=1000000):ZC Tryz.prog 148 [.x (.str s)] (.x (.bool (JJ s))):=by
 refine ZI.pure (fC 148 true ?_) rfl;intro C0 E0;have uu:=ξ6 @ZBm.eq_1 @ZBm.eq_2 @ZEv @Yv @Kt @ZSE;have tT:=ZP3;refine nz ?_;refine rg tT [0] ?_;refine rg tT [0,3] ?_;refine rg tT [3,16,17,18] ?_;refine WI.loop (λφ os=> ∃(j:Nat),φ= [(3,.x (.bool (tyA s j))),(16,.ref 0 s.length 0 s.length),(17,.x (.int .i64 s.length)),(18,.x (.int .i64 j))]/\os= [.rows true 5 1 ((ZJ s).map Zk)]/\j<=s.length) (ZK s.length 18) ?_ (λφ os hI=> ?_)
 .exact⟨0,by rw[<-ZUu];rfl,rfl,J0⟩
 .obtain⟨j,rfl,rfl,hj⟩:=hI;refine nz ?_;refine rg tT [3,16,17,18,19] ?_;refine cd (λh0=> ?_) (λh0=> ?_)
  .have hj4:j<s.length:=by omega
   have uu:=Ya uu (ZTt s j hj4);refine rg tT [3,4,5,16,17,18] ?_;refine rg tT [3,4,5,6,16,17,18] ?_;refine rg tT [3,16,17,18] ?_;refine rg tT [3,16,17,18] ?_;exact⟨⟨j+1,by rw[<-ZUw];rfl,rfl,J0⟩,by simp[ZK,Ab.get,D.val,ZD];omega⟩
  .refine rg tT [2] ?_;refine lf ?_;rw[show JJ s=tyA s j from by rw[show j=s.length by omega];rfl]
def ZD1:J8->J5
 | [.x (.str s)]=>some (decide (s.length<=1000000),.x (.bool (JJ s)))
 |_=>none
theorem ZWH: ∀args r,ZD1 args=some (true,r)->ZC Tryz.prog 148 args r:=by
 intro args r h;unfold ZD1 at h;split at h
 .rename_i s;simp only[Ze,ZZ,ZS,Zd,true_and]at h;obtain⟨h1,rfl⟩:=h;exact(ZcA s h1)
 .cases h
end Go.Proofs.YtiogclkbccdefaaGreatDoor
end
section
namespace Go.Proofs
open Go.Shelf Go.RowKit Go.Lib
variable {P:Program} {ρ:Ren}
set_option maxHeartbeats 2000000 in
set_option maxRecDepth 100000 in
theorem Any1.stringslite_Cut_one(L:Lays.n220 P ρ)(s:ByteArray)(b:UInt8)(w:World)(hs:s.size<4294967281):
  Calls P (ρ.f 220) #[.string s,.string ⟨#[b]⟩] w λe w'=>e= .returned (.tuple #[.string ⟨(Lib.cut s.data.toList [b]).1.toArray⟩,.string ⟨(Lib.cut s.data.toList [b]).2.1.toArray⟩,.bool (Lib.cut s.data.toList [b]).2.2])/\ ∃n,w'=w.drewN n:=by
 rcases Lib.indexB_cases s ⟨#[b]⟩with hix|⟨i,hix,hroom⟩
 .obtain⟨e1,e2,e3⟩:=Lib.cutB_miss s ⟨#[b]⟩ hix;rw[show [b]=(⟨#[b]⟩:ByteArray).data.toList from rfl,e1,e2,e3];have t3:=L.t3;have t4:=L.t4;have t9:=L.t9;have a3: ∀w,(isAgg (ρ.t 3)).run P w= .ok false w:=run_isAgg_plain L.t3 rfl;have a4: ∀w,(isAgg (ρ.t 4)).run P w= .ok false w:=run_isAgg_plain L.t4 rfl;have a9: ∀w,(isAgg (ρ.t 9)).run P w= .ok false w:=run_isAgg_plain L.t9 rfl;have e219: ∀args w,(callFunc (ρ.f 219) args).run P w= .ok (.enter (ρ.f 219) args) w:=enters_of L.f219 J3 rfl;have mixed:=L.mixed;have z3:=L.z3;have v3:=L.v3;have z4:=L.z4;have v4:=L.v4;have z9:=L.z9;have v9:=L.v9
  go_enter L.f220,Body.n220_ntmps ρ
  go_wp2_with (go_at_fn (ρ.f 219);refine(Any.stringslite_Index_one {L with} _ _ _).mono ?_;rintro e w' ⟨rfl,rfl⟩;rw[<-Lib.index_one,show Lib.index s.data.toList [b]=_ from hix])
  go_ret3
  exact⟨rfl,0,rfl⟩
 .obtain⟨e1,e2,e3⟩:=Lib.cutB_hit s ⟨#[b]⟩ i hix;rw[show [b]=(⟨#[b]⟩:ByteArray).data.toList from rfl,e1,e2,e3];have hb1:(⟨#[b]⟩:ByteArray).size=1:=rfl;have c1:(0:Int)<= ↑i:=by omega
  have c2:(↑i:Int)<= ↑s.size:=by omega
  have c3:(0:Int)<= ↑i+1:=by omega
  have c4:(↑i+1:Int)<= ↑s.size:=by omega
  have t3:=L.t3;have t4:=L.t4;have t9:=L.t9;have a3: ∀w,(isAgg (ρ.t 3)).run P w= .ok false w:=run_isAgg_plain L.t3 rfl;have a4: ∀w,(isAgg (ρ.t 4)).run P w= .ok false w:=run_isAgg_plain L.t4 rfl;have a9: ∀w,(isAgg (ρ.t 9)).run P w= .ok false w:=run_isAgg_plain L.t9 rfl;have e219: ∀args w,(callFunc (ρ.f 219) args).run P w= .ok (.enter (ρ.f 219) args) w:=enters_of L.f219 J3 rfl;have mixed:=L.mixed;have z3:=L.z3;have v3:=L.v3;have z4:=L.z4;have v4:=L.v4;have z9:=L.z9;have v9:=L.v9
  go_enter L.f220,Body.n220_ntmps ρ
  go_wp2_with (go_at_fn (ρ.f 219);refine(Any.stringslite_Index_one {L with} _ _ _).mono ?_;rintro e w' ⟨rfl,rfl⟩;rw[<-Lib.index_one,show Lib.index s.data.toList [b]=_ from hix])
  go_region_o
  go_wp2
  go_ret3
  exact⟨rfl,1,rfl⟩
set_option maxHeartbeats 1000000 in
theorem Any1.strings_Cut_one(L:Lays.n145 P ρ)(s:ByteArray)(b:UInt8)(w:World)(hs:s.size<4294967281):
  Calls P (ρ.f 145) #[.string s,.string ⟨#[b]⟩] w λe w'=>e= .returned (.tuple #[.string ⟨(Lib.cut s.data.toList [b]).1.toArray⟩,.string ⟨(Lib.cut s.data.toList [b]).2.1.toArray⟩,.bool (Lib.cut s.data.toList [b]).2.2])/\ ∃n,w'=w.drewN n:=by
 have t4:=L.t4;have t9:=L.t9;have t59:=L.t59;have a4: ∀w,(isAgg (ρ.t 4)).run P w= .ok false w:=run_isAgg_plain L.t4 rfl;have a9: ∀w,(isAgg (ρ.t 9)).run P w= .ok false w:=run_isAgg_plain L.t9 rfl;have a59: ∀w,(isAgg (ρ.t 59)).run P w= .ok false w:=run_isAgg_plain L.t59 rfl;have e220: ∀args w,(callFunc (ρ.f 220) args).run P w= .ok (.enter (ρ.f 220) args) w:=enters_of L.f220 J3 rfl;have mixed:=L.mixed;have z4:=L.z4;have v4:=L.v4;have z9:=L.z9;have v9:=L.v9;have z59:=L.z59;have v59:=L.v59
 go_enter L.f145,Body.n145_ntmps ρ
 go_wp2_with (go_at_fn (ρ.f 220);refine(Any1.stringslite_Cut_one {L with} _ _ _ hs).mono ?_;rintro e w' ⟨rfl,n,rfl⟩)
 go_ret3
 exact⟨rfl,n,rfl⟩
end Go.Proofs
namespace Go.Proofs.YtiogclkbccdefaaGreatDoor
open Go.RowKit Go.Bo Go.Ab
def KV(c:UInt8):List UInt8->List UInt8×List UInt8×Bool
 | []=>([],[],false)
 |b::l=>if b=c then([],l,true)else(b::(KV c l).1,(KV c l).2.1,(KV c l).2.2)
theorem ZTj(c:UInt8): ∀s,Lib.cut s [c]=KV c s
 | []=>by simp[Lib.cut,KV,Lib.index]
 |b::l=>by
  have ih:=ZTj c l;unfold Lib.cut at ih|-;by_cases h:b=c
  .subst h;have hp: [b].isPrefixOf (b::l)=true:=by simp[List.isPrefixOf]
   simp[Lib.index,hp,KV]
  .have hp: [c].isPrefixOf (b::l)=false:=by simp[List.isPrefixOf];exactλe=>h e.symm
   rw[KV,if_neg h,<-ih];have hn:=Lib.index_ge l [c];by_cases hi:Lib.index l [c]= -1
   .simp[Lib.index,hp,hi]
   .obtain⟨n,hn⟩: ∃n:Nat,Lib.index l [c]=n:=⟨(Lib.index l [c]).toNat,J0⟩;simp only[Lib.index,hp,hn,JD,ξN];simp;omega
theorem Zhr(s:List UInt8)(c:UInt8)(hl:s.length<=1000000):ZC Tryz.prog 203 [.x (.str s),.x (.str [c])] (.tup [.x (.str (KV c s).1),.x (.str (KV c s).2.1),.x (.bool (KV c s).2.2)]):=by
 intro w st vs hst hvl;obtain⟨hsz,hv⟩:=hvl;obtain⟨v0,v1,rfl⟩: ∃v0 v1,vs= #[v0,v1]:=by
  obtain⟨vl⟩:=vs
  match vl,hsz with
  | [a,b],_=>exact⟨a,b,rfl⟩
 have h0:=hv 0 _ v0 rfl rfl;have h1:=hv 1 _ v1 rfl rfl;cases h0 with
 |x h0=>
 cases h1 with
 |x h1=>
 cases h1 with
 |str _=>
 cases h0 with
 |str _=>
 have hbs:(ZR s).size=s.length:=by simp[ZR,ByteArray.size]
 refine(Any1.strings_Cut_one Tryz.lays145 (ZR s) c w J0).mono ?_;rintro e w' ⟨rfl,n,rfl⟩;refine⟨_,st,rfl,⟨rfl,rfl,rfl,by simp[World.drewN],λ_ _ _=>rfl⟩,λ_ _ h=>h,λ_ _ h=> .inl h,?_⟩;have e1:(ZR s).data.toList=s:=by simp[ZR]
 rw[e1,ZTj];exact V.tup3 (V.mkstr _ _ _) (V.mkstr _ _ _) (.x (.bool _))
theorem ZWU:Go.Ab.Enters Tryz.prog 203:=Go.Proofs.enters_of Tryz.lays145.f145 J3 rfl
def cutG:J8->J5
 | [.x (.str s),.x (.str [c])]=>some (decide (s.length<=1000000),.tup [.x (.str (KV c s).1),.x (.str (KV c s).2.1),.x (.bool (KV c s).2.2)])
 |_=>none
theorem ZeZ: ∀args r,cutG args=some (true,r)->ZC Tryz.prog 203 args r:=by
 intro args r h;unfold cutG at h;split at h
 .rename_i s c;simp only[Ze,ZZ,ZS,Zd,true_and]at h;obtain⟨h1,rfl⟩:=h;exact(Zhr s c h1)
 .cases h
abbrev Av:=Tx×Tx
def Zo:RC Av:=⟨2,λp=> [.str p.1,.str p.2],λ
 | [.str a,.str b]=>some (a,b)
 |_=>none⟩
theorem ZDx:Zo.Good:=⟨λ_=>rfl,λ_=>rfl,λr x h=>by
 simp only[Zo]at h;split at h
 .cases h;rfl
 .cases h⟩
abbrev JU:RC (List Av):=rSl Zo
theorem ZD5:JU.Good:=ZCZ ZDx
theorem ZOb(l:List Av):Zb Zo (rows Zo l)=some l:=Zr ZDx l
theorem ZLK(l:List (List Av)):Zb JU (rows JU l)=some l:=Zr ZD5 l
theorem ZI6(l:List Av)(a b:Tx):rows Zo l++ [[X.str a,X.str b]]=rows Zo (l++ [(a,b)]):=by simp[rows,Zo]
theorem ZJg(l:List (List Av))(x:List Av):rows JU l++ [[X.sl (rows Zo x)]]=rows JU (l++ [x]):=by simp[rows,JU,rSl]
def JC(s:Tx):Av×Bool:=
 if(KV 61 s).2.2=false\/JJ (ZEF (KV 61 s).1)=false then(([],[]),false)
 else((ZEF (KV 61 s).1,(ZFn (KV 61 s).2.1).1),(ZFn (KV 61 s).2.1).2)
theorem ZLN(c:UInt8): ∀s,(KV c s).1.length<=s.length/\(KV c s).2.1.length<=s.length
 | []=>by simp[KV]
 |b::l=>by
  obtain⟨h1,h2⟩:=ZLN c l;unfold KV;split
  .simp
  .simp;omega
theorem ZMY(s:Tx):(ZEF s).length<=s.length:=ZKz (ZOf _) (ZUg _)
def ZG8:Tabs:=ZT (ZT (ZT (ZT (ZO) 203 cutG) 204 ZLj) 205 ZAh) 206 ZLZ
theorem ZWl:SsOk Tryz.prog ZG8:=ZH (ZH (ZH (ZH (ZF) ZWU ZeZ) (ZW 204) Za3) (ZW 205) ZOL) (ZW 206) ZaD
theorem Zbs:(∀a,ZG8.q 203 a=cutG a)/\(∀a,ZG8.q 204 a=ZLj a)/\(∀a,ZG8.q 205 a=ZAh a)/\(∀a,ZG8.q 206 a=ZLZ a)/\(∀f a o,ZG8.r f a o=none)/\(∀f a o,ZG8.k f a o=none):=⟨λ_=>rfl,λ_=>rfl,λ_=>rfl,λ_=>rfl,λ_ _ _=>rfl,λ_ _ _=>rfl⟩
theorem Zd8(s:Tx)(hl:s.length<=900000):ZC Tryz.prog 183 [.x (.str s)] (.tup [.agg [.x (.str (JC s).1.1),.x (.str (JC s).1.2)],.x (.bool (JC s).2)]):=by
 have h1:=ZLN 61 s;have h2:=ZMY (KV 61 s).1;rcases hq:JC s with⟨⟨a,v⟩,ok⟩
 unfold JC at hq;refine ZI.pure (fC 183 true ?_) rfl;intro C0 E0;have uu:=KT @cutG.eq_1 @cutG.eq_2 @ZLj.eq_1 @ZLj.eq_2 @ZAh.eq_1 @ZAh.eq_2 @ZLZ.eq_1 @ZLZ.eq_2 @Zbs;have tT:=ZWl;refine nz ?_;refine rg tT [0,2] ?_;refine rg tT [2,4,5,6] ?_;refine rg tT [2,4,5,6] ?_;refine rg tT [2,4,5,22] ?_;refine cd (λh0=> ?_) (λh0=> ?_)
 .refine rg tT [2,3] ?_;refine lf ?_;rw[if_pos (by clear uu;grind)]at hq;cases hq;rfl
 .refine rg tT [2,4,6,7] ?_;refine rg tT [2,3] ?_;refine lf ?_;rw[if_neg (by clear uu;grind)]at hq;cases hq;rfl
def ZFK:J8->J5
 | [.x (.str s)]=>some (decide (s.length<=900000),.tup [.agg [.x (.str (JC s).1.1),.x (.str (JC s).1.2)],.x (.bool (JC s).2)])
 |_=>none
theorem ZYW: ∀args r,ZFK args=some (true,r)->ZC Tryz.prog 183 args r:=by
 intro args r h;unfold ZFK at h;split at h
 .rename_i s;simp only[Ze,ZZ,ZS,Zd,true_and]at h;obtain⟨h1,rfl⟩:=h;exact(Zd8 s h1)
 .cases h
theorem Zak(s:Tx):ZFn s=((ZH6 s).1,(ZH6 s).2&& !((ZH6 s).1== [])):=by
 have key: ∀(n:Nat) (r b:Tx) (e:Nat) (x:Tx×Nat),e<=b.length->JS n r b e=some x->x.2<=x.1.length:=by
  intro n
  induction n with
  |zero=>intro r b e x _ h;cases h
  |succ n ih=>
   intro r b e x he h;rcases r with _|⟨c,r⟩
   .rw[JS]at h;cases h;exact he
   .rw[JS]at h;split at h
    .split at h
     .exact ih _ _ _ _ J1 h
     .cases h
    .split at h
     .cases h
     .split at h
      .exact ih _ _ _ _ (by simp;omega) h
      .exact ih _ _ _ _ J1 h
 unfold ZFn ZH6;split
 .rfl
 .rename_i b e h;have hk:=key _ _ _ _ _ J1 h;simp only at hk;rw[ZCB];congr 1;rcases b with _|⟨c,b⟩
  .simp at hk;simp;omega
  .rcases e with _|e
   .simp
   .simp
def eqI:Tx->Nat
 | []=>0
 |c::s=>if c=61 then 0 else eqI s+1
theorem ZUV: ∀s:Tx,(eqI s=s.length->KV 61 s=(s,[],false))/\(eqI s≠s.length->KV 61 s=(s.take (eqI s),s.drop (eqI s+1),true))
 | []=>⟨λ_=>rfl,λh=>absurd rfl h⟩
 |c::s=>by
  obtain⟨h1,h2⟩:=ZUV s;unfold eqI KV;by_cases h:c=61
  .rw[if_pos h,if_pos h];simp
  .rw[if_neg h,if_neg h];refine⟨λe=> ?_,λe=> ?_⟩
   .rw[h1 (by simpa using e)]
   .rw[h2 (by simpa using e)];simp
theorem ZcO(s:Tx)(j:Nat)(h:j<s.length)(hc:s.getD j 0≠61):j+eqI (s.drop j)=j+1+eqI (s.drop (j+1)):=by
 rw[Kr s j h]
 conv=>lhs;unfold eqI
 rw[if_neg hc];omega
theorem Zas(s:Tx)(j:Nat)(h:j<s.length)(hc:s.getD j 0=61):eqI (s.drop j)=0:=by
 rw[Kr s j h,hc];rfl
def ZIT:Tabs:=ZT (ZT (ZT (ZO) 171 ZIU) 170 ZDH) 172 ZLh
theorem ZWp:SsOk Tryz.prog ZIT:=ZH (ZH (ZH (ZF) (ZW 171) ZW9) (ZW 170) ZQR) (ZW 172) Zaq
theorem ZZ3:(∀a,ZIT.q 171 a=ZIU a)/\(∀a,ZIT.q 170 a=ZDH a)/\(∀a,ZIT.q 172 a=ZLh a)/\(∀f a o,ZIT.r f a o=none)/\(∀f a o,ZIT.k f a o=none):=⟨λ_=>rfl,λ_=>rfl,λ_=>rfl,λ_ _ _=>rfl,λ_ _ _=>rfl⟩
theorem ZdL(s:Tx)(hl:s.length<=900000):ZC Tryz.prog 138 [.x (.str s)] (.tup [.agg [.x (.str (JC s).1.1),.x (.str (JC s).1.2)],.x (.bool (JC s).2)]):=by
 have hcut:=ZUV s;rcases hq:JC s with⟨⟨a,v⟩,ok⟩
 unfold JC at hq;rw[Zak]at hq;refine ZI.pure (fC 138 true ?_) rfl;intro C0 E0;have uu:=ξ7 @ZIU.eq_1 @ZIU.eq_2 @ZDH.eq_1 @ZDH.eq_2 @ZLh.eq_1 @ZLh.eq_2 @ZZ3;have tT:=ZWp;refine nz ?_;refine rg tT [0,2] ?_;refine rg tT [0,2,4] ?_;refine WI.loop (λφ os=> ∃(j:Nat),φ= [(0,.x (.str s)),(2,.ptr 0 0),(4,.x (.int .i64 j))]/\os= [.box [.x (.str []),.x (.str [])]]/\j<=s.length/\eqI s=j+eqI (s.drop j)) (ZK s.length 4) ?_ (λφ os hI=> ?_)
 .exact⟨0,rfl,rfl,J0,J1⟩
 .obtain⟨j,rfl,rfl,hj,hat⟩:=hI;refine nz ?_;refine rg tT [0,2,4,16] ?_;refine cd (λh0=> ?_) (λh0=> ?_)
  .have hj4:j<s.length:=by clear uu;grind
   have hst:=ZcO s j hj4 (neD (k:=61) (by decide) (by clear uu;grind));refine rg tT [0,2,4] ?_;exact⟨⟨j+1,rfl,rfl,J0,by rw[hat,hst]⟩,by simp[ZK,Ab.get,D.val,ZD];omega⟩
  .have hej:eqI s=j:=by
    by_cases hj4:j<s.length
    .rw[hat,Zas s j hj4 (cD (a:=61) (by clear uu;show((s.getD j 0).toNat:Int)=61;grind))];rfl
    .rw[hat,ZB2 J0];rfl
   clear hat;rw[hej]at hcut;have e1:((j:Int)+1).toNat=j+1:=by omega
   have hl1:decide ((s.take j).length<=1000000)=true:=ZL (by rw[JA];omega);have htl:=ZMY (s.take j);have hl2:decide ((ZEF (s.take j)).length<=1000000)=true:=ZL (by rw[JA]at htl;omega);have hl3:decide ((s.drop (j+1)).length<=900000)=true:=ZL (by rw[KD];omega);have uu:=ξ5 uu e1 hl1 hl2 hl3;refine rg tT [0,2,4,30] ?_;refine cd (λh1=> ?_) (λh1=> ?_)
   .refine rg tT [2,3] ?_;refine lf ?_;have h3:(KV 61 s).2.2=false\/JJ (ZEF (KV 61 s).1)=false:=by
     by_cases hz:j=s.length
     .rw[hcut.1 hz];exact .inl rfl
     .rw[hcut.2 hz];right;clear uu;grind
    rw[if_pos h3]at hq;cases hq;rfl
   .refine rg tT [0,2,4,5,6] ?_;refine rg tT [2,3] ?_;refine lf ?_;have hz:j≠s.length:=by clear uu;grind
    rw[hcut.2 hz]at hq;rw[if_neg (by clear uu;grind)]at hq;cases hq;rfl
def ZIn:J8->J5
 | [.x (.str s)]=>some (decide (s.length<=900000),.tup [.agg [.x (.str (JC s).1.1),.x (.str (JC s).1.2)],.x (.bool (JC s).2)])
 |_=>none
theorem ZZg: ∀args r,ZIn args=some (true,r)->ZC Tryz.prog 138 args r:=by
 intro args r h;unfold ZIn at h;split at h
 .rename_i s;simp only[Ze,ZZ,ZS,Zd,true_and]at h;obtain⟨h1,rfl⟩:=h;exact(ZdL s h1)
 .cases h
theorem ZTi(p:Tx)(l:List Tx)(n:Nat)(h: ∀x∈l,x.length+p.length<=n)(hp:p.length<=n): ∀x∈pre p l,x.length<=n:=by
 rcases l with _|⟨y,l⟩
 .intro x hx;simp[pre]at hx;subst hx;exact hp
 .intro x hx;simp only[pre,KB]at hx;rcases hx with rfl|hx
  .have:=h y J1;simp;omega
  .have:=h x (by simp[hx]);omega
theorem ZT4(p:Tx)(l:List Tx)(n:Nat)(h:l.length<=n)(h1:1<=n):(pre p l).length<=n:=by
 rcases l with _|⟨y,l⟩
 .exact h1
 .exact h
theorem Zhd{a c:UInt8}{r:Tx}(h1:c≠92)(h2:c=a):YT a (c::r)= []::YT a r:=by
 conv=>lhs;unfold YT
 rw[if_neg h1,if_pos h2]
theorem Zha{a c:UInt8}{r:Tx}(h1:c≠92)(h2:c≠a):YT a (c::r)=pre [c] (YT a r):=by
 conv=>lhs;unfold YT
 rw[if_neg h1,if_neg h2]
theorem ZBF(a:UInt8): ∀(n:Nat) (s:Tx),s.length<=n->(∀x∈YT a s,x.length<=s.length)/\(YT a s).length<=s.length+1
 |_,[],_=>by simp[YT]
 |n+1,c::r,hn=>by
  have hn':r.length<=n:=by simpa using hn
  by_cases h1:c=92
  .rcases r with _|⟨d,r⟩
   .subst h1;simp[YT]
   .obtain⟨h2,h3⟩:=ZBF a n r (by simp at hn';omega);have e:YT a (c::d::r)=pre [c,d] (YT a r):=by subst h1;rfl
    rw[e];exact⟨ZTi _ _ _ (λx hx=>by have:=h2 x hx;simp;omega) J1,ZT4 _ _ _ (by simp;omega) J1⟩
  .obtain⟨h2,h3⟩:=ZBF a n r hn';by_cases h4:c=a
   .have e:YT a (c::r)= []::YT a r:=Zhd h1 h4;rw[e];refine⟨λx hx=> ?_,by simp;omega⟩;rcases KB.1 hx with rfl|hx
    .simp
    .have:=h2 x hx;simp;omega
   .have e:YT a (c::r)=pre [c] (YT a r):=Zha h1 h4;rw[e];exact⟨ZTi _ _ _ (λx hx=>by have:=h2 x hx;simp;omega) J1,ZT4 _ _ _ (by simp;omega) J1⟩
def ZFE(s:Tx):List (Av×Bool):=(YT 43 s).map JC
def Zj(s:Tx):List Av×Bool:=if(ZFE s).all (·.2)=true then((ZFE s).map (·.1),true)else([],false)
theorem YB{α:Type}(p:α->Bool)(l:List α)(j:Nat)(h:j<l.length)(hp:p l[j]=false):l.all p=false:=by
 rw[Bool.eq_false_iff];intro hh;have:=Yd.1 hh l[j] (YZ h);rw[hp]at this;cases this
theorem JV{α:Type}(p:α->Bool)(l:List α)(j:Nat)(h:j<l.length):(l.take (j+1)).all p=((l.take j).all p&&p l[j]):=by
 rw[Jk h,ZJ1];simp
def ZKG:Tabs:=ZT (ZT (ZO) 159 QM) 183 ZFK
theorem ZPV:SsOk Tryz.prog ZKG:=ZH (ZH (ZF) (ZW 159) ZJE) (ZW 183) ZYW
theorem ZSG:(∀a,ZKG.q 159 a=QM a)/\(∀a,ZKG.q 183 a=ZFK a)/\(∀f a o,ZKG.r f a o=none)/\(∀f a o,ZKG.k f a o=none):=⟨λ_=>rfl,λ_=>rfl,λ_ _ _=>rfl,λ_ _ _=>rfl⟩
theorem Ze5(s:Tx)(hl:s.length<=900000):ZC Tryz.prog 160 [.x (.str s)] (.tup [.x (.sl (rows Zo (Zj s).1)),.x (.bool (Zj s).2)]):=by
 obtain⟨hb1,hb2⟩:=ZBF 43 _ s (Zm _);rcases hq:Zj s with⟨d,ok⟩
 unfold Zj ZFE at hq;have hsp:YT (UInt8.ofNat (43:Int).toNat) s=YT 43 s:=rfl;refine ZI.pure (fC 160 true ?_) rfl;intro C0 E0;have uu:=ξ6 @QM.eq_1 @QM.eq_2 @ZFK.eq_1 @ZFK.eq_2 hsp @ZSG;have tT:=ZPV;refine nz ?_;refine rg tT [0] ?_;refine rg tT [0,4] ?_;refine rg tT [4,10,11,12] ?_;refine WI.ownA 4 188 2 ?_;generalize YT 43 s=l at hq hb1 hb2|-;refine WI.loop (λφ os=> ∃(j:Nat),φ= [(4,.ref 0 j 0 j),(10,.x (.sl (rows ZB l))),(11,.x (.int .i64 l.length)),(12,.x (.int .i64 j))]/\os= [.rows false 188 2 (rows Zo ((l.take j).map λx=>(JC x).1))]/\j<=l.length/\(l.take j).all (λx=>(JC x).2)=true) (ZK l.length 12) ?_ (λφ os hI=> ?_)
 .exact⟨0,rfl,rfl,J0,rfl⟩
 .obtain⟨j,rfl,rfl,hj,hall⟩:=hI;refine nz ?_;refine rg tT [4,10,11,12,13] ?_;refine cd (λh0=> ?_) (λh0=> ?_)
  .have hj4:j<l.length:=by omega
   have hbj:=hb1 _ (YZ hj4);have hsc:decide (l[j].length<=900000)=true:=ZL J0;have uu:=Ya uu hsc;refine rg tT [4,6,10,11,12] ?_;refine rg tT [4,7,8,10,11,12] ?_;refine rg tT [4,7,10,11,12,22] ?_;refine cd (λh1=> ?_) (λh1=> ?_)
   .have hf:(l.map JC).all (·.2)=false:=by rw[ZFi];exact YB _ l j hj4 (by simpa using h1)
    rw[if_neg (by rw[hf];decide)]at hq;refine rg tT [2,3] ?_;refine WI.nnA ?_;refine lf ?_;cases hq;rfl
   .refine rgp tT [4,10,11,12] ?_;refine Jf [0] ?_;refine KR ?_;refine nz ?_;refine WI.orderA [4,10,11,12] ?_;refine rg tT [4,10,11,12] ?_;exact⟨⟨j+1,rfl,by rw[Jk hj4,Jt,ZMe,<-ZI6],J0,by rw[JV _ l j hj4,hall];simpa using h1⟩,by simp[ZK,Ab.get,D.val,ZD];omega⟩
  .have e1:(rows Zo ((l.take j).map λx=>(JC x).1)).length=j:=by simp[rows];omega
   have e2:(l.take j).length=j:=by simp;omega
   have uu:=JX uu e1 e2;refine rg tT [2,3] ?_;refine WI.nnA ?_;refine lf ?_;have hf:(l.map JC).all (·.2)=true:=by rw[ZFi];rw[Yi J0]at hall;exact hall
   rw[if_pos hf]at hq;cases hq;rw[Yi (l:=l) J0,Yi (by simp[rows];omega),Js];rfl
def ZIj:J8->J5
 | [.x (.str s)]=>some (decide (s.length<=900000),.tup [.x (.sl (rows Zo (Zj s).1)),.x (.bool (Zj s).2)])
 |_=>none
theorem ZWg: ∀args r,ZIj args=some (true,r)->ZC Tryz.prog 160 args r:=by
 intro args r h;unfold ZIj at h;split at h
 .rename_i s;simp only[Ze,ZZ,ZS,Zd,true_and]at h;obtain⟨h1,rfl⟩:=h;exact(Ze5 s h1)
 .cases h
def QV(r:List Av):List Tx:=r.map λp=>ZJ p.1
def ZAB(r:List Av)(j:Nat):Bool:=JJ (r.getD j ([],[])).1&&(!((r.getD j ([],[])).2== [])&&(decide ((r.getD j ([],[])).2.length<=256)&& !decide (ZJ (r.getD j ([],[])).1∈QV (r.take j))))
def okP(r:List Av):Nat->Bool
 |0=>true
 |j+1=>okP r j&&ZAB r j
def Yk(r:List Av):Bool:=okP r r.length&&decide (1<=r.length/\r.length<=8)
theorem ZGn(r:List Av): ∀(n j:Nat),j<n->ZAB r j=false->okP r n=false
 |n+1,j,hj,h=>by
  rw[okP];by_cases e:j=n
  .subst e;rw[h,ZFg]
  .rw[ZGn r n j J0 h,ZH4]
def ZCE(r:List Av)(j:Nat):List (Tx×Int):=(r.take j).map λp=>(ZJ p.1,(1:Int))
theorem ZPJ: ∀(l:List Av) (k:Tx),ZG (l.map λp=>(ZJ p.1,(1:Int))) k=if k∈QV l then some 1 else none
 | [],k=>by simp[QV,ZG]
 |p::l,k=>by
  have ih:=ZPJ l k;by_cases h:k=ZJ p.1
  .simp[ZG,h,QV]
  .have e:(k∈QV (p::l))=(k∈QV l):=by simp[QV,h]
   have e2:ZG ((p::l).map λp=>(ZJ p.1,(1:Int))) k=ZG (l.map λp=>(ZJ p.1,(1:Int))) k:=by simp[ZG,h]
   rw[e2,ih];simp only[e]
theorem ZRJ(r:List Av)(j:Nat)(h:j<r.length)(hn:ZJ (r.getD j ([],[])).1∉QV (r.take j)):Zt (ZCE r j) (ZJ (r.getD j ([],[])).1) 1=ZCE r (j+1):=by
 unfold ZCE;rw[ZCb (by rw[ZPJ,if_neg hn]),Jk h,Jt];simp[h]
theorem ZRM(r:List Av)(j:Nat)(k:Tx):JZ (Yg KU kcI (ZCE r j)) [X.str k]=if k∈QV (r.take j)then some [D.x (X.int .i64 1)]else none:=by
 rw[ZEp KU kcI hkS (ZCE r j) k];unfold ZCE;rw[ZPJ];split<;>rfl
theorem ZCw(r:List Av)(j:Nat)(h:j<r.length):(rows Zo r)[j]? =some [X.str (r.getD j ([],[])).1,X.str (r.getD j ([],[])).2]:=by
 simp[rows,h,Zo]
def QO:J8->J5
 | [.x (.str s)]=>some (decide (s.length<=1000000),.x (.str (ZJ s)))
 |_=>none
theorem ZJv: ∀args r,QO args=some (true,r)->ZC Tryz.prog 63 args r:=by
 intro args r h;unfold QO at h;split at h
 .rename_i s;simp only[Ze,ZZ,ZS,Zd,true_and]at h;obtain⟨h1,rfl⟩:=h;exact(ZO3 s J0)
 .cases h
def ZIX:Tabs:=ZT (ZT (ZO) 63 QO) 205 ZAh
theorem ZNa:SsOk Tryz.prog ZIX:=ZH (ZH (ZF) (ZW 63) ZJv) (ZW 205) ZOL
theorem ZP7:(∀a,ZIX.q 63 a=QO a)/\(∀a,ZIX.q 205 a=ZAh a)/\(∀f a o,ZIX.r f a o=none)/\(∀f a o,ZIX.k f a o=none):=⟨λ_=>rfl,λ_=>rfl,λ_ _ _=>rfl,λ_ _ _=>rfl⟩
theorem Zhj(r:List Av)(hb: ∀p∈r,p.1.length<=900000):ZC Tryz.prog 184 [.x (.sl (rows Zo r))] (.x (.bool (Yk r))):=by
 refine ZC.wf (λhw=> ?_);have hl:r.length<=maxLen:=by have:=(hw _ (ZDB)).1;rwa [Zh]at this
 clear hw;simp only[maxLen]at hl;refine ZI.pure (fC 184 true ?_) rfl;intro C0 E0;have uu:=ξ5 @QO.eq_1 @QO.eq_2 @ZAh.eq_1 @ZAh.eq_2 @ZP7;have tT:=ZNa;refine nz ?_;refine rg tT [0] ?_;refine rg tT [0,3] ?_;refine rg tT [0,3,8,9,10] ?_;refine WI.loop (λφ os=> ∃(j:Nat),φ= [(0,.x (.sl (rows Zo r))),(3,.mref 0),(8,.x (.sl (rows Zo r))),(9,.x (.int .i64 r.length)),(10,.x (.int .i64 j))]/\os= [.mpo .str false (Yg KU kcI (ZCE r j))]/\j<=r.length/\okP r j=true) (ZK r.length 10) ?_ (λφ os hI=> ?_)
 .exact⟨0,rfl,rfl,J0,rfl⟩
 .obtain⟨j,rfl,rfl,hj,hok⟩:=hI;refine nz ?_;refine rg tT [0,3,8,9,10,11] ?_;refine cd (λh0=> ?_) (λh0=> ?_)
  .have hj4:j<r.length:=by omega
   have har:=ZCw r j hj4;have hbj:(r.getD j ([],[])).1.length<=900000:=by rw[show r.getD j ([],[])=r[j] by simp[hj4]];exact hb _ (YZ hj4)
   have hgt:=ZRM r j (ZJ (r.getD j ([],[])).1);have uu:=Ya uu har;refine rg tT [0,3,5,8,9,10] ?_;refine rg tT [0,3,5,6,8,9,10] ?_;by_cases hin:ZJ (r.getD j ([],[])).1∈QV (r.take j)
   .rw[if_pos hin]at hgt;have uu:=Ya uu hgt;refine rg tT [0,3,6,8,9,10,37] ?_;refine ct (λh1=> ?_) (λh1=> ?_)
    .refine rg tT [2] ?_;refine lf ?_;have hno:ZAB r j=false:=by unfold ZAB;rw[ZL hin];simp
     rw[show Yk r=false by unfold Yk;rw[ZGn r r.length j hj4 hno];rfl]
    .clear uu;simp at h1
   .rw[if_neg hin]at hgt;have uu:=Ya uu hgt;have hset:=ZDd KU kcI hkS (ZCE r j) (ZJ (r.getD j ([],[])).1) 1;rw[ZRJ r j hj4 hin]at hset;have hset':Yb (Yg KU kcI (ZCE r j)) [X.str (ZJ (r.getD j ([],[])).1)] [D.x (X.int .i64 1)]=Yg KU kcI (ZCE r (j+1)):=hset;have uu:=Ya uu hset';refine rg tT [0,3,6,8,9,10,37] ?_;refine cd (λh1=> ?_) (λh1=> ?_)
    .refine rg tT [2] ?_;refine lf ?_;have hno:ZAB r j=false:=by unfold ZAB;clear uu;grind
     rw[show Yk r=false by unfold Yk;rw[ZGn r r.length j hj4 hno];rfl]
    .have hone:ZAB r j=true:=by unfold ZAB;rw[decide_eq_false hin];clear uu;grind
     refine WI.post ?_;refine WI.regB tT [0,3,8,9,10] ?_
     iterate 2 refine oS ?_
     iterate 3 refine oG ?_
     refine oP ?_;refine Jf [0] ?_ (ho:=by simp (disch:=decide) only[zV,zO,Ob.mpb,frzL,ZA6,ZCf,onF,Ob.onI,mpP,Jb,Yf,Qg,D.vw,vwL,D.on,D.inP,Yo,Zn,D.ren,Zu,Ye,YS,Ob.mp,Ob.ren,D.nn,ZDn,Nat.reduceBEq,Nat.reduceEqDiff,Nat.reduceAdd,↓reduceIte,ZEj,ZAM];rfl);refine KR ?_;refine nz ?_;refine rg tT [0,3,8,9,10] ?_;exact⟨⟨j+1,rfl,by first|done|rfl,J0,by rw[okP,hok,hone];rfl⟩,by simp[ZK,Ab.get,D.val,ZD];omega⟩
  .refine rg tT [2] ?_;refine lf ?_;have hz:r.length=j:=by omega
   rw[show Yk r=decide (1<=r.length/\r.length<=8) by unfold Yk;rw[hz,hok,ZCB]];congr 2;rw[Qq];simp;omega
def ZOt:J8->J5
 | [.x (.sl R)]=>(Zb Zo R).bind λr=>some (decide (∀p∈r,p.1.length<=900000),.x (.bool (Yk r)))
 |_=>none
theorem ZdJ: ∀args r,ZOt args=some (true,r)->ZC Tryz.prog 184 args r:=by
 intro args r h;unfold ZOt at h;split at h
 .rename_i R;obtain⟨r,hr0,h⟩:=Zv h;simp only[Ze,ZZ,ZS,Zd,true_and]at h;obtain⟨h1,rfl⟩:=h;rw[<-Za ZDx hr0];exact(Zhj r h1)
 .cases h
abbrev Dn:=List (List Av)
def smD(d:Dn):Prop:= ∀r∈d,∀p∈r,p.1.length<=900000
instance (d:Dn):Decidable (smD d):=by unfold smD;infer_instance
def Je(d:Dn):Int:=if d.length>32 then 3 else if d.all Yk=true then 0 else 5
theorem ZEc(d:Dn)(j:Nat)(h:j<d.length):(rows JU d)[j]? =some [X.sl (rows Zo (d.getD j []))]:=by
 simp[rows,h,JU,rSl]
def ZLq:Tabs:=ZT (ZO) 184 ZOt
theorem ZVe:SsOk Tryz.prog ZLq:=ZH (ZF) (ZW 184) ZdJ
theorem ZX5:(∀a,ZLq.q 184 a=ZOt a)/\(∀f a o,ZLq.r f a o=none)/\(∀f a o,ZLq.k f a o=none):=⟨λ_=>rfl,λ_ _ _=>rfl,λ_ _ _=>rfl⟩
theorem ZeP(d:Dn)(hb:smD d):ZC Tryz.prog 161 [.x (.sl (rows JU d))] (.x (.int .i64 (Je d))):=by
 unfold Je;refine ZI.pure (fC 161 true ?_) rfl;intro C0 E0;have uu:=ξ4 @ZOt.eq_1 @ZOt.eq_2 @ZOb @ZX5;have tT:=ZVe;refine nz ?_;refine rg tT [0] ?_;refine rg tT [0,7] ?_;refine cd (λh0=> ?_) (λh0=> ?_)
 .refine rg tT [2] ?_;refine lf ?_;rw[if_pos J0]
 .refine rg tT [8,9,10] ?_;refine WI.loop (λφ os=> ∃(j:Nat),φ= [(8,.x (.sl (rows JU d))),(9,.x (.int .i64 d.length)),(10,.x (.int .i64 j))]/\os= []/\j<=d.length/\(d.take j).all Yk=true) (ZK d.length 10) ?_ (λφ os hI=> ?_)
  .exact⟨0,rfl,rfl,J0,rfl⟩
  .obtain⟨j,rfl,rfl,hj,hall⟩:=hI;refine nz ?_;refine rg tT [8,9,10,11] ?_;refine cd (λh1=> ?_) (λh1=> ?_)
   .have hj4:j<d.length:=by omega
    have hdj:d[j]=d.getD j []:=by simp[hj4]
    have hsm:decide (∀p∈d.getD j [],p.1.length<=900000)=true:=ZL (by rw[<-hdj];exact hb _ (YZ hj4));have uu:=JX uu (ZEc d j hj4) hsm;refine rg tT [4,8,9,10] ?_;refine rg tT [8,9,10,16] ?_;refine cd (λh2=> ?_) (λh2=> ?_)
    .refine rg tT [2] ?_;refine lf ?_;rw[if_neg J0,if_neg (by rw[YB Yk d j hj4 (by rw[hdj];simpa using h2)];decide)]
    .refine rg tT [8,9,10] ?_;exact⟨⟨j+1,rfl,rfl,J0,by rw[JV _ d j hj4,hall,hdj];simpa using h2⟩,by simp[ZK,Ab.get,D.val,ZD];omega⟩
   .refine rg tT [2] ?_;refine lf ?_;rw[Yi J0]at hall;rw[if_neg J0,if_pos hall]
def ZDS:J8->J5
 | [.x (.sl R)]=>(Zb JU R).bind λd=>some (decide (smD d),.x (.int .i64 (Je d)))
 |_=>none
theorem ZPv: ∀args r,ZDS args=some (true,r)->ZC Tryz.prog 161 args r:=by
 intro args r h;unfold ZDS at h;split at h
 .rename_i R;obtain⟨d,hr0,h⟩:=Zv h;simp only[Ze,ZZ,ZS,Zd,true_and]at h;obtain⟨h1,rfl⟩:=h;rw[<-Za ZD5 hr0];exact(ZeP d h1)
 .cases h
def mxD:Dn->Nat
 | []=>0
 |r::d=>max r.length (mxD d)
theorem ZM2: ∀(d:Dn) (r:List Av),mxD (d++ [r])=max (mxD d) r.length
 | [],r=>by simp[mxD]
 |x::d,r=>by rw[Qx,mxD,mxD,ZM2 d r];omega
theorem ZWm(a b:Nat):(if(a:Int)>(b:Int)then(a:Int)else(b:Int))=((max b a:Nat):Int):=by split<;>omega
def ZCK(s:Tx):List (List Av×Bool):=(YT 44 s).map Zj
def ZAq(s:Tx):Dn:=(ZCK s).map (·.1)
def YQ(s:Tx):Dn×Int:=
 if s.length>4096 then([],3)else if s= []then([],0)
 else if(ZCK s).all (·.2)=true then(if mxD (ZAq s)>8 then([],3)else if Je (ZAq s)≠0 then([],Je (ZAq s))else(ZAq s,0))
 else([],5)
theorem ZXP(s:Tx):(JC s).1.1.length<=s.length:=by
 unfold JC;have h1:=(ZLN 61 s).1;have h2:=ZMY (KV 61 s).1;split
 .simp
 .simp;omega
theorem Zab(s:Tx)(hs:s.length<=900000): ∀p∈(Zj s).1,p.1.length<=900000:=by
 unfold Zj ZFE;split
 .intro p hp;obtain⟨q,h1,rfl⟩:=YO.1 hp;obtain⟨x,h2,rfl⟩:=YO.1 h1;have:=(ZBF 43 _ s (Zm _)).1 x h2;have:=ZXP x;omega
 .intro p hp;simp at hp
theorem ZHl(s:Tx)(hs:s.length<=900000):(Zj s).1.length<=900001:=by
 unfold Zj ZFE;split
 .have:=(ZBF 43 _ s (Zm _)).2;simp;omega
 .simp
theorem ZGY(s:Tx)(hs:s.length<=900000):smD (ZAq s):=by
 intro r hr;unfold ZAq ZCK at hr;obtain⟨q,h1,rfl⟩:=YO.1 hr;obtain⟨x,h2,rfl⟩:=YO.1 h1;have:=(ZBF 44 _ s (Zm _)).1 x h2;exact Zab x J0
def ZGM:Tabs:=ZT (ZT (ZT (ZO) 159 QM) 160 ZIj) 161 ZDS
theorem ZVt:SsOk Tryz.prog ZGM:=ZH (ZH (ZH (ZF) (ZW 159) ZJE) (ZW 160) ZWg) (ZW 161) ZPv
theorem ZYT:(∀a,ZGM.q 159 a=QM a)/\(∀a,ZGM.q 160 a=ZIj a)/\(∀a,ZGM.q 161 a=ZDS a)/\(∀f a o,ZGM.r f a o=none)/\(∀f a o,ZGM.k f a o=none):=⟨λ_=>rfl,λ_=>rfl,λ_=>rfl,λ_ _ _=>rfl,λ_ _ _=>rfl⟩
theorem Zdm(s:Tx):ZC Tryz.prog 121 [.x (.str s)] (.tup [.x (.sl (rows JU (YQ s).1)),.x (.int .i64 (YQ s).2)]):=by
 rcases hq:YQ s with⟨d,e⟩
 unfold YQ at hq;have hsp:YT (UInt8.ofNat (44:Int).toNat) s=YT 44 s:=rfl;refine ZI.pure (fC 121 true ?_) rfl;intro C0 E0;have uu:=KT @QM.eq_1 @QM.eq_2 @ZIj.eq_1 @ZIj.eq_2 @ZDS.eq_1 @ZDS.eq_2 hsp @ZLK (Ya @ZOb @ZYT);have tT:=ZVt;refine nz ?_;refine rg tT [0] ?_;refine rg tT [0,11] ?_;refine cd (λh0=> ?_) (λh0=> ?_)
 .refine rg tT [2,3] ?_;refine WI.nnA ?_;refine lf ?_;rw[if_pos J0]at hq;cases hq;rfl
 .refine rg tT [0,15] ?_;refine cd (λh1=> ?_) (λh1=> ?_)
  .refine rg tT [2,3] ?_;refine WI.nnA ?_;refine lf ?_;rw[if_neg J0,if_pos (by simpa using h1)]at hq;cases hq;rfl
  .have hne:s≠ []:=by simpa using h1
   rw[if_neg J0,if_neg hne]at hq;have hs:s.length<=900000:=by omega
   obtain⟨hb1,hb2⟩:=ZBF 44 _ s (Zm _);have hsm:=ZGY s hs;refine rg tT [0,4] ?_;refine rg tT [0,4,5] ?_;refine rg tT [4,5,19,20,21] ?_;refine WI.ownA 4 154 1 ?_;have hrl:ZCK s=(YT 44 s).map Zj:=rfl;have hnl:ZAq s=((YT 44 s).map Zj).map (·.1):=rfl;generalize YT 44 s=l at hb1 hb2 hrl hnl|-;generalize ZCK s=rl at hq hrl;generalize ZAq s=nl at hq hnl hsm;subst hrl hnl;refine WI.loop (λφ os=> ∃(j:Nat),φ= [(4,.ref 0 j 0 j),(5,.x (.int .i64 (mxD ((l.take j).map λx=>(Zj x).1)))),(19,.x (.sl (rows ZB l))),(20,.x (.int .i64 l.length)),(21,.x (.int .i64 j))]/\os= [.rows false 154 1 (rows JU ((l.take j).map λx=>(Zj x).1))]/\j<=l.length/\(l.take j).all (λx=>(Zj x).2)=true) (ZK l.length 21) ?_ (λφ os hI=> ?_)
   .exact⟨0,rfl,rfl,J0,rfl⟩
   .obtain⟨j,rfl,rfl,hj,hall⟩:=hI;refine nz ?_;refine rg tT [4,5,19,20,21,22] ?_;refine cd (λh2=> ?_) (λh2=> ?_)
    .have hj4:j<l.length:=by omega
     have hbj:=hb1 _ (YZ hj4);have hpc:=ZHl l[j] J0;have hsc:decide (l[j].length<=900000)=true:=ZL J0;have hmt:(l.take (j+1)).map (λx=>(Zj x).1)=(l.take j).map (λx=>(Zj x).1)++ [(Zj l[j]).1]:=by rw[Jk hj4,Jt];rfl
     have hmx:mxD ((l.take (j+1)).map λx=>(Zj x).1)=max (mxD ((l.take j).map λx=>(Zj x).1)) (Zj l[j]).1.length:=by rw[hmt,ZM2]
     have uu:=Ya uu hsc;refine rg tT [4,5,7,19,20,21] ?_;refine rg tT [4,5,8,9,19,20,21] ?_;refine rg tT [4,5,8,19,20,21,31] ?_;refine cd (λh3=> ?_) (λh3=> ?_)
     .have hf:(l.map Zj).all (·.2)=false:=by rw[ZFi];exact YB _ l j hj4 (by simpa using h3)
      rw[if_neg (by rw[hf];decide)]at hq;refine rg tT [2,3] ?_;refine WI.nnA ?_;refine lf ?_;cases hq;rfl
     .refine rg tT [4,5,8,19,20,21] ?_;refine rgp tT [4,5,19,20,21] ?_;refine Jf [0] ?_;refine KR ?_;refine nz ?_;refine WI.orderA [4,5,19,20,21] ?_;refine rg tT [4,5,19,20,21] ?_;exact⟨⟨j+1,by rw[hmx,ZWm];first|done|rfl,by rw[hmt,<-ZJg];first|done|rfl,J0,by rw[JV _ l j hj4,hall];simpa using h3⟩,by simp[ZK,Ab.get,D.val,ZD];omega⟩
    .obtain rfl:j=l.length:=by omega
     rw[Jm]at hall|-;have hf:(l.map Zj).all (·.2)=true:=by rw[ZFi];exact hall
     rw[if_pos hf]at hq;have hmm:(l.map Zj).map (·.1)=l.map (λx=>(Zj x).1):=by rw[Js];rfl
     rw[hmm]at hq hsm;have hml:(l.map λx=>(Zj x).1).length=l.length:=YX ..;generalize(l.map λx=>(Zj x).1)=m at hq hsm hml|-;have e1:m.take l.length=m:=Yi J0;have e2:decide (smD m)=true:=ZL hsm;have uu:=ξ4 uu hml e1 e2;refine rg tT [4,42] ?_;refine cd (λh4=> ?_) (λh4=> ?_)
     .refine rg tT [2,3] ?_;refine WI.nnA ?_;refine lf ?_;rw[if_pos J0]at hq;cases hq;rfl
     .rw[if_neg J0]at hq;refine rg tT [4,10] ?_;refine rg tT [4,10,46] ?_;refine cd (λh5=> ?_) (λh5=> ?_)
      .refine rg tT [2,3] ?_;refine WI.nnA ?_;refine lf ?_;rw[if_pos (by simpa using h5)]at hq;cases hq;rfl
      .refine rg tT [2,3] ?_;refine WI.nnA ?_;refine lf ?_;rw[if_neg (by simpa using h5)]at hq;cases hq;first|rfl|rw[e1]
def Qi:J8->J5
 | [.x (.str s)]=>some (true,.tup [.x (.sl (rows JU (YQ s).1)),.x (.int .i64 (YQ s).2)])
 |_=>none
theorem ZHo: ∀args r,Qi args=some (true,r)->ZC Tryz.prog 121 args r:=by
 intro args r h;unfold Qi at h;split at h
 .rename_i s;simp only[Ze,ZZ,ZS,Zd,true_and]at h;obtain rfl:=h;exact(Zdm s)
 .cases h
theorem ZdZ(r:List Av)(j:Nat)(h:j<r.length)(x:Tx):x∈QV (r.take (j+1))↔x∈QV (r.take j)\/x=ZJ (r.getD j ([],[])).1:=by
 unfold QV;rw[Jk h,Jt,Qc];simp[h]
theorem ZeB(r:List Av)(j k:Nat)(h:j<k)(hk:k<=r.length):ZJ (r.getD j ([],[])).1∈QV (r.take k):=by
 unfold QV;refine YO.2 ⟨r[j]' J0,?_,by simp[show j<r.length by omega]⟩;exact List.mem_take_iff_getElem.2 ⟨j,J0,rfl⟩
def ZE3:J8->J5
 | [.x (.str s)]=>some (decide (s.length<=1000000),.x (.str (ZJ s)))
 |_=>none
theorem ZTU: ∀args r,ZE3 args=some (true,r)->ZC Tryz.prog 97 args r:=by
 intro args r h;unfold ZE3 at h;split at h
 .rename_i s;simp only[Ze,ZZ,ZS,Zd,true_and]at h;obtain⟨h1,rfl⟩:=h;exact(ZSx s J0)
 .cases h
def ZIE:Tabs:=ZT (ZT (ZO) 170 ZDH) 97 ZE3
theorem ZV0:SsOk Tryz.prog ZIE:=ZH (ZH (ZF) (ZW 170) ZQR) (ZW 97) ZTU
theorem ZXb:(∀a,ZIE.q 170 a=ZDH a)/\(∀a,ZIE.q 97 a=ZE3 a)/\(∀f a o,ZIE.r f a o=none)/\(∀f a o,ZIE.k f a o=none):=⟨λ_=>rfl,λ_=>rfl,λ_ _ _=>rfl,λ_ _ _=>rfl⟩
set_option maxHeartbeats 1000000 in
theorem ZeE(d:Dn)(hb:smD d)(hld:d.length<=1000000)(hlr: ∀r∈d,r.length<=1000000):ZC Tryz.prog 139 [.x (.sl (rows JU d))] (.x (.int .i64 (Je d))):=by
 unfold Je;refine ZI.pure (fC 139 true ?_) rfl;intro C0 E0;have uu:=ξ5 @ZDH.eq_1 @ZDH.eq_2 @ZE3.eq_1 @ZE3.eq_2 @ZXb;have tT:=ZV0;refine nz ?_;refine rg tT [0] ?_;refine rg tT [0,9] ?_;refine cd (λh0=> ?_) (λh0=> ?_)
 .refine rg tT [2] ?_;refine lf ?_;rw[if_pos J0]
 .refine rg tT [0,3] ?_;refine WI.loop (λφ os=> ∃(i:Nat),φ= [(0,.x (.sl (rows JU d))),(3,.x (.int .i64 i))]/\os= []/\i<=d.length/\(d.take i).all Yk=true) (ZK d.length 3) ?_ (λφ os hI=> ?_)
  .exact⟨0,rfl,rfl,J0,rfl⟩
  .obtain⟨i,rfl,rfl,hi,hall⟩:=hI;refine nz ?_;refine rg tT [0,3,13] ?_;refine cd (λh1=> ?_) (λh1=> ?_)
   .have hi4:i<d.length:=by omega
    have hdi:d[i]=d.getD i []:=by simp[hi4]
    have hrw:=ZEc d i hi4;have hri: ∀p∈d.getD i [],p.1.length<=900000:=by rw[<-hdi];exact hb _ (YZ hi4)
    have hrl:(d.getD i []).length<=1000000:=by rw[<-hdi];exact hlr _ (YZ hi4)
    rcases hdr:d.getD i []with r0
    obtain⟨r,hr0⟩: ∃r,r=r0:=⟨r0,rfl⟩;subst hr0;rw[hdr]at hri hrl hrw;have uu:=Ya uu hrw;refine rg tT [0,3,29] ?_;refine cd (λh2=> ?_) (λh2=> ?_)
    .refine rg tT [2] ?_;refine lf ?_;rw[if_neg J0,if_neg (by rw[YB Yk d i hi4 (by rw[hdi,hdr];unfold Yk;rw[decide_eq_false J0,ZFg])];decide)]
    .refine rg tT [0,3,4] ?_;refine WI.loop (λφ os=> ∃(k:Nat),φ= [(0,.x (.sl (rows JU d))),(3,.x (.int .i64 i)),(4,.x (.int .i64 k))]/\os= []/\k<=r.length/\okP r k=true) (ZK r.length 4) ?_ (λφ os hI=> ?_)
     .exact⟨0,rfl,rfl,J0,rfl⟩
     .obtain⟨k,rfl,rfl,hk,hok⟩:=hI;refine nz ?_;refine rg tT [0,3,4,36] ?_;refine cd (λh3=> ?_) (λh3=> ?_)
      .have hk4:k<r.length:=by omega
       have hka:=ZCw r k hk4;have hem:=ZIe (r.getD k ([],[])).2;have hkl:(r.getD k ([],[])).1.length<=900000:=by rw[show r.getD k ([],[])=r[k] by simp[hk4]];exact hri _ (YZ hk4)
       have hsc:decide ((r.getD k ([],[])).1.length<=1000000)=true:=ZL J0;have uu:=JX uu hka hsc;refine rg tT [0,3,4,5] ?_;refine rg tT [0,3,4,5,61] ?_;refine cd (λh4=> ?_) (λh4=> ?_)
       .refine rg tT [2] ?_;refine lf ?_;have hno:ZAB r k=false:=by unfold ZAB;clear uu;grind
        rw[if_neg J0,if_neg (by rw[YB Yk d i hi4 (by rw[hdi,hdr];unfold Yk;rw[ZGn r r.length k hk4 hno];rfl)];decide)]
       .refine rg tT [0,3,4,5,6] ?_;refine WI.loop (λφ os=> ∃(j:Nat),φ= [(0,.x (.sl (rows JU d))),(3,.x (.int .i64 i)),(4,.x (.int .i64 k)),(5,.ptr 0 0),(6,.x (.int .i64 j))]/\os= [.box [.x (.str (r.getD k ([],[])).1),.x (.str (r.getD k ([],[])).2)]]/\j<=k/\ZJ (r.getD k ([],[])).1∉QV (r.take j)) (ZK k 6) ?_ (λφ os hI=> ?_)
        .exact⟨0,rfl,rfl,J0,by simp[QV]⟩
        .obtain⟨j,rfl,rfl,hj,hnin⟩:=hI;refine nz ?_;refine rg tT [0,3,4,5,6,64] ?_;refine cd (λh5=> ?_) (λh5=> ?_)
         .have hj4:j<k:=by omega
          have hja:=ZCw r j J0;have hjl:(r.getD j ([],[])).1.length<=900000:=by rw[show r.getD j ([],[])=r[j] by simp[show j<r.length by omega]];exact hri _ (YZ _)
          have hsj:decide ((r.getD j ([],[])).1.length<=1000000)=true:=ZL J0;have uu:=JX uu hja hsj;refine WI.dregB tT [0,3,4,5,6,79] ?_
          iterate 2 refine Zs ?_
          iterate 2 refine Yp ?_
          refine Zs ?_;refine Yp ?_;refine Zs ?_;refine Yp ?_;refine dQC ?_;refine Zs ?_;refine Yp ?_;refine dAC ?_;refine Jq ?_;refine dN ?_;refine nz ?_;refine cd (λh6=> ?_) (λh6=> ?_)
          .refine rg tT [2] ?_;refine lf ?_;have hin:ZJ (r.getD k ([],[])).1∈QV (r.take k):=by rw[<-show ZJ (r.getD j ([],[])).1=ZJ (r.getD k ([],[])).1 by simpa using h6];exact ZeB r j k hj4 J0
           have hno:ZAB r k=false:=by unfold ZAB;rw[ZL hin];simp
           rw[if_neg J0,if_neg (by rw[YB Yk d i hi4 (by rw[hdi,hdr];unfold Yk;rw[ZGn r r.length k hk4 hno];rfl)];decide)]
          .refine rg tT [0,3,4,5,6] ?_;exact⟨⟨j+1,rfl,rfl,J0,λhh=>by rcases(ZdZ r j J0 _).1 hh with h|h;exact hnin h;exact h6 h.symm⟩,by simp[ZK,Ab.get,D.val,ZD];omega⟩
         .have hone:ZAB r k=true:=by
           have hjk:j=k:=by omega
           rw[hjk]at hnin;unfold ZAB;rw[decide_eq_false hnin,hem];clear uu hall hdi hrw hka;grind
          refine rgp tT [0,3,4] ?_;refine Jf [] ?_;refine KR ?_;refine nz ?_;exact⟨⟨k+1,rfl,rfl,J0,by rw[okP,hok,ZCB];exact hone⟩,by simp[ZK,Ab.get,D.val,ZD];omega⟩
      .refine rg tT [0,3] ?_;exact⟨⟨i+1,rfl,rfl,J0,by rw[JV _ d i hi4,hall,hdi];show Yk (d.getD i [])=true;rw[hdr];unfold Yk;rw[show r.length=k by omega,hok];exact ZL ⟨J0,J0⟩⟩,by simp[ZK,Ab.get,D.val,ZD];omega⟩
   .refine rg tT [2] ?_;refine lf ?_;rw[if_neg J0,if_pos (by rw[Yi J0]at hall;exact hall)]
def ZDW:J8->J5
 | [.x (.sl R)]=>(Zb JU R).bind λd=>some (decide (smD d)&&(decide (d.length<=1000000)&&(decide (∀r∈d,r.length<=1000000))),.x (.int .i64 (Je d)))
 |_=>none
theorem ZQZ: ∀args r,ZDW args=some (true,r)->ZC Tryz.prog 139 args r:=by
 intro args r h;unfold ZDW at h;split at h
 .rename_i R;obtain⟨d,hr0,h⟩:=Zv h;simp only[Ze,ZZ,ZS,Zd,true_and]at h;obtain⟨⟨h1,h2,h3⟩,rfl⟩:=h;rw[<-Za ZD5 hr0];exact(ZeE d h1 h2 h3)
 .cases h
def ZJj(d:Dn):Bool:=d.any λr=>decide (r.length>8)
theorem ZVf(d:Dn)(r:List Av):ZJj (d++ [r])=(ZJj d||decide (r.length>8)):=by simp[ZJj]
theorem ZSj: ∀d:Dn,ZJj d=decide (mxD d>8)
 | []=>rfl
 |r::d=>by
  have:=ZSj d;unfold ZJj at this|-;rw[List.any_cons,this,mxD,Qq];simp only[ZBJ,Zd];omega
theorem ZcJ(x:Tx)(h:(YT 43 x).all (λy=>(JC y).2)=true):Zj x=((YT 43 x).map (λy=>(JC y).1),true):=by
 unfold Zj ZFE;rw[if_pos (by rw[ZFi];exact h),Js];rfl
theorem ZXm(x:Tx)(h:(YT 43 x).all (λy=>(JC y).2)=false):Zj x=([],false):=by
 unfold Zj ZFE;rw[if_neg (by rw[ZFi];show ¬(YT 43 x).all (λy=>(JC y).2)=true;rw[h];decide)]
def ZGI:Tabs:=ZT (ZT (ZT (ZO) 137 ZGN) 138 ZIn) 139 ZDW
theorem ZU6:SsOk Tryz.prog ZGI:=ZH (ZH (ZH (ZF) (ZW 137) ZVX) (ZW 138) ZZg) (ZW 139) ZQZ
theorem ZZU:(∀a,ZGI.q 137 a=ZGN a)/\(∀a,ZGI.q 138 a=ZIn a)/\(∀a,ZGI.q 139 a=ZDW a)/\(∀f a o,ZGI.r f a o=none)/\(∀f a o,ZGI.k f a o=none):=⟨λ_=>rfl,λ_=>rfl,λ_=>rfl,λ_ _ _=>rfl,λ_ _ _=>rfl⟩
set_option maxHeartbeats 1000000 in
theorem Zb5(s:Tx):ZC Tryz.prog 93 [.x (.str s)] (.tup [.x (.sl (rows JU (YQ s).1)),.x (.int .i64 (YQ s).2)]):=by
 rcases hq:YQ s with⟨d,e⟩
 unfold YQ at hq;have hsp: ∀t,YT (UInt8.ofNat (44:Int).toNat) t=YT 44 t:=λt=>rfl
 have hsq: ∀t,YT (UInt8.ofNat (43:Int).toNat) t=YT 43 t:=λt=>rfl
 refine ZI.pure (fC 93 true ?_) rfl;intro C0 E0;have uu:=KT @ZGN.eq_1 @ZGN.eq_2 @ZIn.eq_1 @ZIn.eq_2 @ZDW.eq_1 @ZDW.eq_2 hsp hsq (JX @ZLK @ZOb @ZZU);have tT:=ZU6;refine nz ?_;refine rg tT [0] ?_;refine rg tT [0,16] ?_;refine cd (λh0=> ?_) (λh0=> ?_)
 .refine rg tT [2,3] ?_;refine WI.nnA ?_;refine lf ?_;rw[if_pos J0]at hq;cases hq;rfl
 .refine rg tT [0,18] ?_;refine cd (λh1=> ?_) (λh1=> ?_)
  .refine rg tT [2,3] ?_;refine WI.nnA ?_;refine lf ?_;rw[if_neg J0,if_pos (by simpa using h1)]at hq;cases hq;rfl
  .have hne:s≠ []:=by simpa using h1
   rw[if_neg J0,if_neg hne]at hq;have hs:s.length<=900000:=by omega
   obtain⟨hb1,hb2⟩:=ZBF 44 _ s (Zm _);have hsm:=ZGY s hs;refine rg tT [0,4] ?_;refine rg tT [0,4,5] ?_;refine rg tT [4,5,6] ?_;refine rg tT [4,5,6,7] ?_;refine WI.ownA 4 154 1 ?_;have hrl:ZCK s=(YT 44 s).map Zj:=rfl;have hnl:ZAq s=((YT 44 s).map Zj).map (·.1):=rfl;generalize YT 44 s=l at hb1 hb2 hrl hnl|-;generalize ZCK s=rl at hq hrl;generalize ZAq s=nl at hq hnl hsm;subst hrl hnl;refine WI.loop (λφ os=> ∃(i:Nat),φ= [(4,.ref 0 i 0 i),(5,.x (.bool (ZJj ((l.take i).map λx=>(Zj x).1)))),(6,.x (.sl (rows ZB l))),(7,.x (.int .i64 i))]/\os= [.rows false 154 1 (rows JU ((l.take i).map λx=>(Zj x).1))]/\i<=l.length/\(l.take i).all (λx=>(Zj x).2)=true) (ZK l.length 7) ?_ (λφ os hI=> ?_)
   .exact⟨0,rfl,rfl,J0,rfl⟩
   .obtain⟨i,rfl,rfl,hi,hall⟩:=hI;refine nz ?_;refine rg tT [4,5,6,7,24] ?_;refine cd (λh2=> ?_) (λh2=> ?_)
    .have hi4:i<l.length:=by omega
     have hbi:=hb1 _ (YZ hi4);have hsc:decide (l[i].length<=1000000)=true:=ZL J0;obtain⟨hc1,hc2⟩:=ZBF 43 _ l[i] (Zm _);have hmt:(l.take (i+1)).map (λx=>(Zj x).1)=(l.take i).map (λx=>(Zj x).1)++ [(Zj l[i]).1]:=by rw[Jk hi4,Jt];rfl
     have hpo:=ZcJ l[i];have hpb:=ZXm l[i];have uu:=Ya uu hsc;refine rg tT [4,5,6,7,8] ?_;refine rg tT [4,5,6,7,8,9] ?_;refine rg tT [4,5,6,7,8,9,10] ?_;refine WI.ownA 9 188 2 ?_;generalize YT 43 l[i]=m at hc1 hc2 hpo hpb|-;refine WI.loop (λφ os=> ∃(k:Nat),φ= [(4,.ref 0 i 0 i),(5,.x (.bool (ZJj ((l.take i).map λx=>(Zj x).1)))),(6,.x (.sl (rows ZB l))),(7,.x (.int .i64 i)),(8,.x (.sl (rows ZB m))),(9,.ref 1 k 0 k),(10,.x (.int .i64 k))]/\os= [.rows false 154 1 (rows JU ((l.take i).map λx=>(Zj x).1)),.rows false 188 2 (rows Zo ((m.take k).map λx=>(JC x).1))]/\k<=m.length/\(m.take k).all (λx=>(JC x).2)=true) (ZK m.length 10) ?_ (λφ os hI=> ?_)
     .exact⟨0,rfl,rfl,J0,rfl⟩
     .obtain⟨k,rfl,rfl,hk,hok⟩:=hI;refine nz ?_;refine rg tT [4,5,6,7,8,9,10,35] ?_;refine cd (λh3=> ?_) (λh3=> ?_)
      .have hk4:k<m.length:=by omega
       have hbk:=hc1 _ (YZ hk4);have hsd:decide (m[k].length<=900000)=true:=ZL J0;have uu:=Ya uu hsd;refine rg tT [4,5,6,7,8,9,10,11,12] ?_;refine rg tT [4,5,6,7,8,9,10,11,47] ?_;refine cd (λh4=> ?_) (λh4=> ?_)
       .have hbad:=hpb (YB _ m k hk4 (by simpa using h4));have hf:(l.map Zj).all (·.2)=false:=by rw[ZFi];exact YB _ l i hi4 (by show(Zj l[i]).2=false;rw[hbad])
        rw[if_neg (by rw[hf];decide)]at hq;refine rg tT [2,3] ?_;refine WI.nnA ?_;refine lf ?_;cases hq;rfl
       .refine rgp tT [4,5,6,7,8,9,10] ?_;refine Jf [0,1] ?_;refine KR ?_;refine nz ?_;refine rg tT [4,5,6,7,8,9,10] ?_;exact⟨⟨k+1,rfl,by rw[Jk hk4,Jt,ZMe,<-ZI6],J0,by rw[JV _ m k hk4,hok];simpa using h4⟩,by simp[ZK,Ab.get,D.val,ZD];omega⟩
      .obtain rfl:k=m.length:=by omega
       rw[Jm]at hok|-;have hpx:=hpo hok;have hql:(m.map λx=>(JC x).1).length=m.length:=YX ..;generalize(m.map λx=>(JC x).1)=q at hpx hql|-;have hpx1:(Zj l[i]).1=q:=by rw[hpx]
       have hpx2:(Zj l[i]).2=true:=by rw[hpx]
       rw[<-hql];have e1:q.take q.length=q:=Jm;have uu:=Ya uu e1;refine rg tT [4,5,6,7,9] ?_;refine rgp tT [4,5,6,7] ?_;refine Jf [0] ?_;refine KR ?_;refine nz ?_;refine WI.orderA [4,5,6,7] ?_;refine rg tT [4,5,6,7] ?_;exact⟨⟨i+1,by rw[hmt,ZVf,hpx1,<-show decide ((q.length:Int)>8)=decide (q.length>8) by rw[Qq,Zd,Zd];omega];first|done|rfl,by rw[hmt,<-ZJg,hpx1];first|done|rfl,J0,by rw[JV _ l i hi4,hall,hpx2];rfl⟩,by simp[ZK,Ab.get,D.val,ZD];omega⟩
    .obtain rfl:i=l.length:=by omega
     rw[Jm]at hall|-;have hf:(l.map Zj).all (·.2)=true:=by rw[ZFi];exact hall
     rw[if_pos hf]at hq;have hmm:(l.map Zj).map (·.1)=l.map (λx=>(Zj x).1):=by rw[Js];rfl
     rw[hmm]at hq hsm;have hml:(l.map λx=>(Zj x).1).length=l.length:=YX ..;have hcnt: ∀r∈(l.map λx=>(Zj x).1),r.length<=1000000:=by
      intro r hr;obtain⟨x,h1,rfl⟩:=YO.1 hr;have:=ZHl x (by have:=hb1 x h1;omega);omega
     generalize(l.map λx=>(Zj x).1)=m at hq hsm hml hcnt|-;have e1:m.take l.length=m:=Yi J0;have e2:(decide (smD m)&&(decide (m.length<=1000000)&&decide (∀r∈m,r.length<=1000000)))=true:=by rw[ZL hsm,ZL hcnt,ZL (show m.length<=1000000 by omega)];rfl
     have hlm:=ZSj m;have uu:=ξ4 uu hml e1 e2;refine rg tT [4,67] ?_;refine cd (λh5=> ?_) (λh5=> ?_)
     .refine rg tT [2,3] ?_;refine WI.nnA ?_;refine lf ?_;have hz:mxD m>8\/m.length>32:=by rw[hlm]at h5;clear uu;grind
      by_cases hm8:mxD m>8
      .rw[if_pos hm8]at hq;cases hq;rfl
      .have h32:Je m=3:=by unfold Je;rw[if_pos J0]
       rw[if_neg hm8,h32,if_pos (by decide)]at hq;cases hq;rfl
     .have hm8: ¬mxD m>8:=by rw[hlm]at h5;intro hh;rw[ZL hh]at h5;simp at h5
      rw[if_neg hm8]at hq;refine rg tT [4,13] ?_;refine rg tT [4,13,71] ?_;refine cd (λh6=> ?_) (λh6=> ?_)
      .refine rg tT [2,3] ?_;refine WI.nnA ?_;refine lf ?_;rw[if_pos (by simpa using h6)]at hq;cases hq;rfl
      .refine rg tT [2,3] ?_;refine WI.nnA ?_;refine lf ?_;rw[if_neg (by simpa using h6)]at hq;cases hq;first|rfl|rw[e1]
def ZBx:J8->J5
 | [.x (.str s)]=>some (true,.tup [.x (.sl (rows JU (YQ s).1)),.x (.int .i64 (YQ s).2)])
 |_=>none
theorem ZN0: ∀args r,ZBx args=some (true,r)->ZC Tryz.prog 93 args r:=by
 intro args r h;unfold ZBx at h;split at h
 .rename_i s;simp only[Ze,ZZ,ZS,Zd,true_and]at h;obtain rfl:=h;exact(Zb5 s)
 .cases h
theorem ZgL(r:List Av)(hb: ∀p∈r,p.1.length<=900000)(hl:r.length<=1000000):ZN Tryz.prog 184 [.ref 0 r.length 0 r.length] [.rows false 188 2 (rows Zo r)] (.x (.bool (Yk r))) [.rows false 188 2 (rows Zo r)]:=by
 refine ZI.mcalls (fC 184 true ?_);intro C0 E0;have uu:=ξ5 @QO.eq_1 @QO.eq_2 @ZAh.eq_1 @ZAh.eq_2 @ZP7;have tT:=ZNa;refine nz ?_;refine rg tT [0] ?_;refine rg tT [0,3] ?_;refine rg tT [0,3,8,9,10] ?_;refine WI.loop (λφ os=> ∃(j:Nat),φ= [(0,.ref 0 r.length 0 r.length),(3,.mref 1),(8,.ref 0 r.length 0 r.length),(9,.x (.int .i64 r.length)),(10,.x (.int .i64 j))]/\os= [.rows false 188 2 (rows Zo r),.mpo .str false (Yg KU kcI (ZCE r j))]/\j<=r.length/\okP r j=true) (ZK r.length 10) ?_ (λφ os hI=> ?_)
 .exact⟨0,rfl,rfl,J0,rfl⟩
 .obtain⟨j,rfl,rfl,hj,hok⟩:=hI;refine nz ?_;refine rg tT [0,3,8,9,10,11] ?_;refine cd (λh0=> ?_) (λh0=> ?_)
  .have hj4:j<r.length:=by omega
   have har:=ZCw r j hj4;have hbj:(r.getD j ([],[])).1.length<=900000:=by rw[show r.getD j ([],[])=r[j] by simp[hj4]];exact hb _ (YZ hj4)
   have hgt:=ZRM r j (ZJ (r.getD j ([],[])).1);have uu:=Ya uu har;refine rg tT [0,3,5,8,9,10] ?_;refine rg tT [0,3,5,6,8,9,10] ?_;by_cases hin:ZJ (r.getD j ([],[])).1∈QV (r.take j)
   .rw[if_pos hin]at hgt;have uu:=Ya uu hgt;refine rg tT [0,3,6,8,9,10,37] ?_;refine ct (λh1=> ?_) (λh1=> ?_)
    .refine rg tT [2] ?_;refine WI.pickA [0] ?_;refine lf ?_;have hno:ZAB r j=false:=by unfold ZAB;rw[ZL hin];simp
     rw[show Yk r=false by unfold Yk;rw[ZGn r r.length j hj4 hno];rfl];first|rfl|exact⟨rfl,rfl⟩
    .clear uu;simp at h1
   .rw[if_neg hin]at hgt;have uu:=Ya uu hgt;have hset:=ZDd KU kcI hkS (ZCE r j) (ZJ (r.getD j ([],[])).1) 1;rw[ZRJ r j hj4 hin]at hset;have hset':Yb (Yg KU kcI (ZCE r j)) [X.str (ZJ (r.getD j ([],[])).1)] [D.x (X.int .i64 1)]=Yg KU kcI (ZCE r (j+1)):=hset;have uu:=Ya uu hset';refine rg tT [0,3,6,8,9,10,37] ?_;refine cd (λh1=> ?_) (λh1=> ?_)
    .refine rg tT [2] ?_;refine WI.pickA [0] ?_;refine lf ?_;have hno:ZAB r j=false:=by unfold ZAB;clear uu;grind
     rw[show Yk r=false by unfold Yk;rw[ZGn r r.length j hj4 hno];rfl];first|rfl|exact⟨rfl,rfl⟩
    .have hone:ZAB r j=true:=by unfold ZAB;rw[decide_eq_false hin];clear uu;grind
     refine WI.post ?_;refine WI.regB tT [0,3,8,9,10] ?_
     iterate 2 refine oS ?_
     iterate 3 refine oG ?_
     refine oP ?_;refine Jf [0,1] ?_ (ho:=by simp (disch:=decide) only[zV,zO,Ob.mpb,frzL,ZA6,ZCf,onF,Ob.onI,mpP,Jb,Yf,Qg,D.vw,vwL,D.on,D.inP,Yo,Zn,D.ren,Zu,Ye,YS,Ob.mp,Ob.ren,D.nn,ZDn,Nat.reduceBEq,Nat.reduceEqDiff,Nat.reduceAdd,↓reduceIte,ZEj,ZAM];rfl);refine KR ?_;refine nz ?_;refine rg tT [0,3,8,9,10] ?_;exact⟨⟨j+1,rfl,by first|done|rfl,J0,by rw[okP,hok,hone];rfl⟩,by simp[ZK,Ab.get,D.val,ZD];omega⟩
  .refine rg tT [2] ?_;refine WI.pickA [0] ?_;refine lf ?_;have hz:r.length=j:=by omega
   rw[show Yk r=decide (1<=r.length/\r.length<=8) by unfold Yk;rw[hz,hok,ZCB]];refine⟨?_,rfl⟩;congr 2;rw[Qq];simp;omega
def RF(d:Dn):List J8:=Qe 1 (d.map (rows Zo))
def FM(d:Dn):J7:=fam 188 2 (d.map (rows Zo))
abbrev obD(d:Dn):J7:= .drw 154 1 (RF d)::FM d
theorem ZM9(d:Dn):(RF d).length=d.length:=by unfold RF;rw[ZPg,YX]
theorem ZKu(d:Dn):(FM d).length=d.length:=by unfold FM;rw[ZLy,YX]
theorem ZdB(d:Dn)(j:Nat)(h:j<d.length):(d.map (rows Zo))[j]? =some (rows Zo (d.getD j [])):=by simp[h]
theorem ZXD(d:Dn)(j:Nat)(h:j<d.length):(RF d)[j]? =some [.ref (j+1) (d.getD j []).length 0 (d.getD j []).length]:=by
 unfold RF;rw[ZQH _ 1 j _ (ZdB d j h),Zh,ZO0]
theorem ZX0(d:Dn)(Y:J7)(j:Nat)(h:j<d.length):(FM d++Y)[j]? =some (.rows false 188 2 (rows Zo (d.getD j []))):=ZgS _ _ _ Y j _ (ZdB d j h)
theorem ZLr(d:Dn)(j:Nat)(h:j<d.length):(FM d)[j]? =some (.rows false 188 2 (rows Zo (d.getD j []))):=by rw[<-ZX0 d [] j h,Ku]
theorem ZWf(d:Dn)(Y:J7)(j:Nat)(h:j<d.length)(r:List Av):(FM d++Y).set j (.rows false 188 2 (rows Zo r))=FM (d.set j r)++Y:=by
 unfold FM;rw[ZfA _ _ _ Y j _ (by rw[YX];exact h),ZMz]
theorem Zds(d:Dn)(j:Nat)(h:j<d.length)(r:List Av):(FM d).set j (.rows false 188 2 (rows Zo r))=FM (d.set j r):=by
 have:=ZWf d [] j h r;rwa [Ku,Ku]at this
theorem ZZS(d:Dn)(j:Nat)(r:List Av)(h:r.length=(d.getD j []).length):RF (d.set j r)=RF d:=by
 unfold RF;refine ZML _ _ _ ?_;rw[ZMz,ZMz,Zh];apply ZBG;intro i;rw[ZB3];split
 .rename_i hij;subst hij;rw[YG,YG];by_cases hj:j<d.length
  .simp[hj,Zh]at h|-;rw[h]
  .simp[hj]
 .rfl
theorem ZdQ(d:Dn)(r:List Av):RF (d++ [r])=RF d++ [[.ref (d.length+1) r.length 0 r.length]]:=by
 unfold RF;rw[Jt,ZMe,ZNg,YX,Zh,ZO0]
theorem Zdp(d:Dn)(r:List Av):FM (d++ [r])=FM d++ [.rows false 188 2 (rows Zo r)]:=by
 unfold FM;rw[Jt,ZMe,ZaF]
theorem ZUs(d:Dn):(obD d).all (Ob.inP (λi=>decide (i<(obD d).length)))=true:=ZbA 154 188 2 (d.map (rows Zo))
theorem ZVO:Enters Tryz.prog 184:=ZW 184
theorem ZPl(d:Dn)(j:Nat):d.set j (d.getD j [])=d:=by
 by_cases h:j<d.length
 .rw[show d.getD j []=d[j] by simp[h]];simp
 .rw[List.set_eq_of_length_le J0]
theorem ZhH(d:Dn)(j:Nat)(hj:j<d.length)(hb:smD d)(hl:(d.getD j []).length<=1000000):ZN Tryz.prog 184 [.ref (j+1) (d.getD j []).length 0 (d.getD j []).length] (obD d) (.x (.bool (Yk (d.getD j [])))) (obD d):=by
 have hbj: ∀p∈d.getD j [],p.1.length<=900000:=by rw[show d.getD j []=d[j] by simp[hj]];exact hb _ (YZ hj)
 have hc:=ZgL (d.getD j []) hbj hl;have:=ZN.row (args:= [.ref (j+1) (d.getD j []).length 0 (d.getD j []).length]) (OS:=obD d) (j+1) (by rw[show Zu (Ye [j+1]) [D.ref (j+1) (d.getD j []).length 0 (d.getD j []).length]= [D.ref 0 (d.getD j []).length 0 (d.getD j []).length] by simp only[Zu,D.ren,Ye,if_true]];exact hc) (by rw[ZCk];exact ZLr d j hj) rfl (by simp[Yo,D.inP,Zn]) (λf=>rfl);rw[ZBX,Zds d j hj,ZPl]at this;exact this
theorem Zf3(d:Dn)(hb:smD d)(hl: ∀r∈d,r.length<=1000000)(hld:d.length<=1000000):ZN Tryz.prog 161 [.ref 0 d.length 0 d.length] (obD d) (.x (.int .i64 (Je d))) (obD d):=by
 have hRl:=ZM9 d;have hFl:=ZKu d;unfold Je;refine ZI.mcalls (fC 161 true ?_);intro C0 E0;have uu:=ξ6 hRl hFl @ZHZ @ZHc @ZHX @ZHg;have tT:=(ZF:SsOk Tryz.prog ZO);refine nz ?_;refine rg tT [0] ?_;refine rg tT [0,7] ?_;refine cd (λh0=> ?_) (λh0=> ?_)
 .refine rg tT [2] ?_;refine lf ?_;rw[if_pos J0];exact⟨rfl,rfl⟩
 .refine rg tT [8,9,10] ?_;refine WI.loop (λφ os=> ∃(j:Nat),φ= [(8,.ref 0 d.length 0 d.length),(9,.x (.int .i64 d.length)),(10,.x (.int .i64 j))]/\os=obD d/\j<=d.length/\(d.take j).all Yk=true) (ZK d.length 10) ?_ (λφ os hI=> ?_)
  .exact⟨0,rfl,rfl,J0,rfl⟩
  .obtain⟨j,rfl,rfl,hj,hall⟩:=hI;refine nz ?_;refine rg tT [8,9,10,11] ?_;refine cd (λh1=> ?_) (λh1=> ?_)
   .have hj4:j<d.length:=by omega
    have hdj:d[j]=d.getD j []:=by simp[hj4]
    have hlj:(d.getD j []).length<=1000000:=by rw[<-hdj];exact hl _ (YZ hj4)
    have hrf:=ZXD d j hj4;have hfm:=ZLr d j hj4;have uu:=JX uu hrf hfm;refine rg tT [4,8,9,10] ?_;refine rg (ZCV ZF ZVO (ZhH d j hj4 hb hlj)) [8,9,10,16] ?_;refine cd (λh2=> ?_) (λh2=> ?_)
    .refine rg tT [2] ?_;refine lf ?_;rw[if_neg J0,if_neg (by rw[YB Yk d j hj4 (by rw[hdj];simpa using h2)];decide)];exact⟨rfl,rfl⟩
    .refine rg tT [8,9,10] ?_;exact⟨⟨j+1,rfl,rfl,J0,by rw[JV _ d j hj4,hall,hdj];simpa using h2⟩,by simp[ZK,Ab.get,D.val,ZD];omega⟩
   .refine rg tT [2] ?_;refine lf ?_;rw[Yi J0]at hall;rw[if_neg J0,if_pos hall];exact⟨rfl,rfl⟩
theorem ZfC(s:Tx)(hl:s.length<=900000)(hok:(Zj s).2=true):ZN Tryz.prog 160 [.x (.str s)] [] (.tup [.ref 0 (Zj s).1.length 0 (Zj s).1.length,.x (.bool true)]) [.rows false 188 2 (rows Zo (Zj s).1)]:=by
 obtain⟨hb1,hb2⟩:=ZBF 43 _ s (Zm _);have hpl:(Zj s).1=(YT 43 s).map (λx=>(JC x).1)/\(YT 43 s).all (λx=>(JC x).2)=true:=by
  unfold Zj ZFE at hok|-;split at hok
  .rename_i h;rw[if_pos h];rw[ZFi]at h;exact⟨by rw[Js];rfl,h⟩
  .cases hok
 obtain⟨hpl,hpa⟩:=hpl;rw[hpl];clear hok hpl;have hsp:YT (UInt8.ofNat (43:Int).toNat) s=YT 43 s:=rfl;refine ZI.mcalls (fC 160 false ?_);intro C0 E0;have uu:=ξ6 @QM.eq_1 @QM.eq_2 @ZFK.eq_1 @ZFK.eq_2 hsp @ZSG;have tT:=ZPV;refine nz ?_;refine rg tT [0] ?_;refine rg tT [0,4] ?_;refine rg tT [4,10,11,12] ?_;refine WI.ownA 4 188 2 ?_;generalize YT 43 s=l at hpa hb1 hb2|-;refine WI.loop (λφ os=> ∃(j:Nat),φ= [(4,.ref 0 j 0 j),(10,.x (.sl (rows ZB l))),(11,.x (.int .i64 l.length)),(12,.x (.int .i64 j))]/\os= [.rows false 188 2 (rows Zo ((l.take j).map λx=>(JC x).1))]/\j<=l.length) (ZK l.length 12) ?_ (λφ os hI=> ?_)
 .exact⟨0,rfl,rfl,J0⟩
 .obtain⟨j,rfl,rfl,hj⟩:=hI;refine nz ?_;refine rg tT [4,10,11,12,13] ?_;refine cd (λh0=> ?_) (λh0=> ?_)
  .have hj4:j<l.length:=by omega
   have hbj:=hb1 _ (YZ hj4);have hpj:(JC l[j]).2=true:=Yd.1 hpa _ (YZ hj4);have hsc:decide (l[j].length<=900000)=true:=ZL J0;have uu:=Ya uu hsc;refine rg tT [4,6,10,11,12] ?_;refine rg tT [4,7,8,10,11,12] ?_;refine rg tT [4,7,10,11,12,22] ?_;refine ce (λh1=> ?_) (λh1=> ?_)
   .rw[hpj]at h1;simp at h1
   .refine rgp tT [4,10,11,12] ?_;refine Jf [0] ?_;refine KR ?_;refine nz ?_;refine WI.orderA [4,10,11,12] ?_;refine rg tT [4,10,11,12] ?_;exact⟨⟨j+1,rfl,by rw[Jk hj4,Jt,ZMe,<-ZI6],J0⟩,by simp[ZK,Ab.get,D.val,ZD];omega⟩
  .have e1:(rows Zo ((l.take j).map λx=>(JC x).1)).length=j:=by simp[rows];omega
   have e2:(l.take j).length=j:=by simp;omega
   have uu:=JX uu e1 e2;refine rg tT [2,3] ?_;refine lf ?_;have hz:l.length=j:=by omega
   rw[Yi (l:=l) J0,YX,hz];exact⟨rfl,rfl⟩
theorem ZTW:Enters Tryz.prog 160:=ZW 160
theorem Zdk(d:Dn)(s:Tx)(hl:s.length<=900000)(hok:(Zj s).2=true):ZN Tryz.prog 160 [.x (.str s)] (obD d) (.tup [.ref (d.length+1) (Zj s).1.length 0 (Zj s).1.length,.x (.bool true)]) (.drw 154 1 (RF d)::FM (d++ [(Zj s).1])):=by
 have:=ZN.new (OS:=obD d) (ZfC s hl hok) rfl (λp=>rfl);rw[ZMe,JD,ZKu]at this;rw[Zdp];exact this
theorem ZQ1:Enters Tryz.prog 161:=ZW 161
theorem ZJK(s:Tx)(d:Dn)(hq:YQ s=(d,0))(hne:s≠ []):s.length<=4096/\(YT 44 s).all (λx=>(Zj x).2)=true/\d=(YT 44 s).map (λx=>(Zj x).1)/\mxD d<=8/\Je d=0:=by
 unfold YQ at hq;by_cases h1:s.length>4096
 .rw[if_pos h1]at hq;cases hq
 rw[if_neg h1,if_neg hne]at hq;by_cases h2:(ZCK s).all (·.2)=true
 .rw[if_pos h2]at hq;by_cases h3:mxD (ZAq s)>8
  .rw[if_pos h3]at hq;cases hq
  rw[if_neg h3]at hq;by_cases h4:Je (ZAq s)≠0
  .rw[if_pos h4]at hq;simp only[ZZ]at hq;exact absurd hq.2 h4
  rw[if_neg h4]at hq;simp only[ZZ]at hq;obtain⟨rfl,-⟩:=hq;refine⟨J0,?_,?_,J0,Classical.not_not.1 h4⟩
  .unfold ZCK at h2;rw[ZFi]at h2;exact h2
  .unfold ZAq ZCK;rw[Js];rfl
 .rw[if_neg h2]at hq;cases hq
def ZND:Tabs:=ZT (ZO) 159 QM
theorem ZZc:SsOk Tryz.prog ZND:=ZH (ZF) (ZW 159) ZJE
theorem ZbN:(∀a,ZND.q 159 a=QM a)/\(∀f a o,ZND.r f a o=none)/\(∀f a o,ZND.k f a o=none):=⟨λ_=>rfl,λ_ _ _=>rfl,λ_ _ _=>rfl⟩
set_option maxHeartbeats 1000000 in
theorem Zed(s:Tx)(d:Dn)(hq:YQ s=(d,0))(hne:s≠ []):ZN Tryz.prog 121 [.x (.str s)] [] (.tup [.ref 0 d.length 0 d.length,.x (.int .i64 0)]) (obD d):=by
 obtain⟨hs4,hall,hd,hmx8,hck⟩:=ZJK s d hq hne;clear hq;obtain⟨hb1,hb2⟩:=ZBF 44 _ s (Zm _);have hsm:smD d:=by
  have:=ZGY s J0;unfold ZAq ZCK at this;rw[Js]at this;rw[hd];exact this
 have hsp:YT (UInt8.ofNat (44:Int).toNat) s=YT 44 s:=rfl;refine ZI.mcalls (fC 121 false ?_);intro C0 E0;have uu:=ξ8 @QM.eq_1 @QM.eq_2 hsp @ZHZ @ZHc @ZHX @ZHg @ZbN;have tT:=ZZc;refine nz ?_;refine rg tT [0] ?_;refine rg tT [0,11] ?_;refine ce (λh0=> ?_) (λh0=> ?_)
 .simp at h0;omega
 .refine rg tT [0,15] ?_;refine ce (λh1=> ?_) (λh1=> ?_)
  .exact hne (by simpa using h1)
  .refine rg tT [0,4] ?_;refine rg tT [0,4,5] ?_;refine rg tT [4,5,19,20,21] ?_;refine WI.ownA 4 154 1 ?_;refine WI.toDA 0 ?_;generalize YT 44 s=l at hb1 hb2 hall hd|-;refine WI.loop (λφ os=> ∃(j:Nat),φ= [(4,.ref 0 j 0 j),(5,.x (.int .i64 (mxD ((l.take j).map λx=>(Zj x).1)))),(19,.x (.sl (rows ZB l))),(20,.x (.int .i64 l.length)),(21,.x (.int .i64 j))]/\os=obD ((l.take j).map λx=>(Zj x).1)/\j<=l.length) (ZK l.length 21) ?_ (λφ os hI=> ?_)
   .exact⟨0,rfl,rfl,J0⟩
   .obtain⟨j,rfl,rfl,hj⟩:=hI;refine nz ?_;refine rg tT [4,5,19,20,21,22] ?_;refine cd (λh2=> ?_) (λh2=> ?_)
    .have hj4:j<l.length:=by omega
     have hbj:=hb1 _ (YZ hj4);have hpc:=ZHl l[j] J0;have hpj:(Zj l[j]).2=true:=Yd.1 hall _ (YZ hj4);have hmt:(l.take (j+1)).map (λx=>(Zj x).1)=(l.take j).map (λx=>(Zj x).1)++ [(Zj l[j]).1]:=by rw[Jk hj4,Jt];rfl
     have hmx:mxD ((l.take (j+1)).map λx=>(Zj x).1)=max (mxD ((l.take j).map λx=>(Zj x).1)) (Zj l[j]).1.length:=by rw[hmt,ZM2]
     have hml:((l.take j).map λx=>(Zj x).1).length=j:=by rw[YX,JA];omega
     have hcall:=Zdk ((l.take j).map λx=>(Zj x).1) l[j] J0 hpj;rw[hml]at hcall;generalize hM:(l.take j).map (λx=>(Zj x).1)=M at hmt hmx hml hcall|-;generalize hR:(Zj l[j]).1=r at hmt hmx hcall hpc|-;have hrl:=ZM9 M;have hfl:=ZKu (M++ [r]);rw[Zf,ZVn,hml]at hfl;have hfg: ∀x:Ob,(FM (M++ [r])++ [x])[j+1]? =some x:=λx=>by rw[QP J0,hfl,ZJR];rfl
     rw[hml]at hrl;have hsn:=ZdQ M r;rw[hml]at hsn;have hfm:(FM (M++ [r]))[j]? =some (.rows false 188 2 (rows Zo r)):=by rw[ZLr (M++ [r]) j (by simp;omega)];simp[hml]
     have uu:=ξ5 uu hrl hfl hfg hfm;refine rg tT [4,5,7,19,20,21] ?_;refine rg (ZCV ZF ZTW hcall) [4,5,8,9,19,20,21] ?_;refine rg tT [4,5,8,19,20,21,31] ?_;refine ce (λh3=> ?_) (λh3=> ?_)
     .simp at h3
     .refine rg tT [4,5,8,19,20,21] ?_;refine WI.post ?_;refine WI.regB tT [4,5,19,20,21] ?_
      iterate 2 refine oS ?_
      iterate 2 refine oG ?_
      refine oS ?_;refine oP ?_;refine ZN7 (obD (M++ [r])) _ (by rw[obD,hsn];rfl) (Jy _) (ZUs _) (by simp only[Qz,ZEz,D.inP,JD,hfl];simp) ?_;refine KR ?_;refine nz ?_;refine WI.orderA [4,5,19,20,21] ?_;refine rg tT [4,5,19,20,21] ?_;exact⟨⟨j+1,by rw[hmx,ZWm];first|done|rfl,by rw[hmt],J0⟩,by simp[ZK,Ab.get,D.val,ZD];omega⟩
    .obtain rfl:j=l.length:=by omega
     rw[Jm,<-hd];have hdl:d.length=l.length:=by rw[hd,YX]
     rw[<-hdl];have hcc:=Zf3 d hsm (λr hr=>by rw[hd]at hr;obtain⟨x,h1,rfl⟩:=YO.1 hr;have:=ZHl x (by have:=hb1 x h1;omega);omega) J0;rw[hck]at hcc;refine rg tT [4,42] ?_;refine ce (λh4=> ?_) (λh4=> ?_)
     .simp at h4;omega
     .refine rg (ZCV ZF ZQ1 hcc) [4,10] ?_;refine rg tT [4,10,46] ?_;refine ce (λh5=> ?_) (λh5=> ?_)
      .simp at h5
      .refine rg tT [2,3] ?_;refine lf ?_;exact⟨rfl,rfl⟩
def dgD(n:Nat):UInt8:=ZEl.getD n 0
def ZJe(c:UInt8):Bool:=decide ((c.toNat:Int)<32)||decide ((c.toNat:Int)=127)
def slD(c:UInt8)(f l:Bool):Bool:=spc c.toNat||(f&&(decide ((c.toNat:Int)=32)||decide ((c.toNat:Int)=35))||l&&decide ((c.toNat:Int)=32))
def ZDc(c:UInt8)(f l:Bool):Tx:=if ZJe c=true then [92,dgD (c.toNat/16),dgD (c.toNat % 16)]else if slD c f l=true then [92,c]else [c]
def ZAO(s:Tx)(j:Nat):Tx:=ZDc (s.getD j 0) (decide (j=0)) (decide (j+1=s.length))
def ZAf(s:Tx):Nat->Tx
 |0=> []
 |j+1=>ZAf s j++ZAO s j
def ZC8(s:Tx):Tx:=ZAf s s.length
theorem Zcb(c:UInt8)(f l:Bool):(ZDc c f l).length<=3:=by unfold ZDc;split;simp;split<;>simp
theorem ZEx(s:Tx): ∀j,(ZAf s j).length<=3*j
 |0=>by simp[ZAf]
 |j+1=>by
  have h1:=ZEx s j;have h2:=Zcb (s.getD j 0) (decide (j=0)) (decide (j+1=s.length));rw[ZAf,Zf];unfold ZAO;omega
theorem ZdD(n:Nat)(h:n<256):IntKind.u8.wrap ((n:Int).tdiv 16)=((n/16:Nat):Int):=by
 rw[show(n:Int).tdiv 16=((n/16:Nat):Int)from rfl,IntWalk.u8_in _ J0]
theorem Zc9(n:Nat):(n:Int).tmod 16=((n % 16:Nat):Int):=rfl
theorem ZfH(b:Tx)(c d e:UInt8):b.map Zk++ [[X.int .u8 (c.toNat:Int)],[X.int .u8 (d.toNat:Int)],[X.int .u8 (e.toNat:Int)]]=(b++ [c,d,e]).map Zk:=by rw[Jt];rfl
theorem ZdP(b:Tx)(c:UInt8):b.map Zk++ [[X.int .u8 (c.toNat:Int)]]=(b++ [c]).map Zk:=by rw[Jt];rfl
def ZNn:Tabs:=ZT (ZO) 200 ZCQ
theorem ZX7:SsOk Tryz.prog ZNn:=ZH (ZF) (ZW 200) ZMR
theorem Zch:(∀a,ZNn.q 200 a=ZCQ a)/\(∀f a o,ZNn.r f a o=none)/\(∀f a o,ZNn.k f a o=none):=⟨λ_=>rfl,λ_ _ _=>rfl,λ_ _ _=>rfl⟩
theorem ZeY(s:Tx)(hl:s.length<=1000000):ZC Tryz.prog 177 [.x (.str s)] (.x (.str (ZC8 s))):=by
 have hsl: ∀n,inB [44,43,34,92,60,62,59,61] n=spc n:=λn=>rfl
 have hud: ∀n:Nat,([48,49,50,51,52,53,54,55,56,57,97,98,99,100,101,102]:Tx).getD n 0=dgD n:=λn=>rfl
 refine ZI.pure (fC 177 true ?_) rfl;intro C0 E0;have uu:=ξ7 @ZCQ.eq_1 @ZCQ.eq_2 hsl hud @Yv @Kt @Zch;have tT:=ZX7;refine nz ?_;refine rg tT [0] ?_;refine rg tT [0,3] ?_;refine rg tT [0,3,9,10,11] ?_;refine WI.ownA 3 5 1 ?_;refine WI.loop (λφ os=> ∃(j:Nat),φ= [(0,.x (.str s)),(3,.ref 1 (ZAf s j).length 0 (ZAf s j).length),(9,.ref 0 s.length 0 s.length),(10,.x (.int .i64 s.length)),(11,.x (.int .i64 j))]/\os= [.rows true 5 1 (s.map Zk),.rows false 5 1 ((ZAf s j).map Zk)]/\j<=s.length) (ZK s.length 11) ?_ (λφ os hI=> ?_)
 .exact⟨0,rfl,rfl,J0⟩
 .obtain⟨j,rfl,rfl,hj⟩:=hI;have hle:=ZEx s j;refine nz ?_;refine rg tT [0,3,9,10,11,12] ?_;refine cd (λh0=> ?_) (λh0=> ?_)
  .have hj4:j<s.length:=by omega
   have hst:ZAf s (j+1)=ZAf s j++ZAO s j:=rfl;have hb8:(s.getD j 0).toNat<256:=ZDm _;have q0:(decide (0<=((s.getD j 0).toNat:Int)))=true:=ZL J0;have q1:=ZdD _ hb8;have q2:=Zc9 (s.getD j 0).toNat;have q3:decide (((s.getD j 0).toNat/16:Nat)<(16:Int))=true:=ZL J0;have q4:decide (((s.getD j 0).toNat % 16:Nat)<(16:Int))=true:=ZL J0;have uu:=ξ7 uu (ZSM s j hj4) q0 q1 q2 q3 q4;refine rg tT [0,3,4,5,9,10,11] ?_;refine rg tT [0,3,5,6,7,9,10,11] ?_;refine rg tT [0,3,5,6,7,9,10,11,23] ?_;refine cd (λh1=> ?_) (λh1=> ?_)
   .have hA:ZAO s j= [92,dgD ((s.getD j 0).toNat/16),dgD ((s.getD j 0).toNat % 16)]:=by unfold ZAO ZDc ZJe;rw[if_pos (by clear uu;grind)]
    have hn:(ZAO s j).length=3:=by rw[hA];rfl
    have hrow:(ZAf s j).map Zk++ [[X.int .u8 92],[X.int .u8 ((dgD ((s.getD j 0).toNat/16)).toNat:Int)],[X.int .u8 ((dgD ((s.getD j 0).toNat % 16)).toNat:Int)]]=(ZAf s j++ZAO s j).map Zk:=by rw[hA];exact ZfH _ 92 _ _
    refine WI.post ?_;refine WI.dregB tT [0,3,9,10,11] ?_
    iterate 2 refine Zs ?_
    iterate 2 refine Jq ?_
    refine Zs ?_
    iterate 2 refine Jq ?_
    iterate 2 refine dAG ?_
    refine Zs ?_;refine dP ?_;refine Jf [0,1] ?_;refine KR ?_;refine nz ?_;refine WI.orderA [0,3,9,10,11] ?_;refine rg tT [0,3,9,10,11] ?_;exact⟨⟨j+1,by rw[hst,Zf,hn];first|done|rfl,by rw[hst,<-hrow];first|done|rfl,J0⟩,by simp[ZK,Ab.get,D.val,ZD];omega⟩
   .refine rg tT [0,3,5,9,10,11,39] ?_;refine cd (λh2=> ?_) (λh2=> ?_)
    .have hA:ZAO s j= [92,s.getD j 0]:=by unfold ZAO ZDc ZJe slD;rw[if_neg (by clear uu;grind),if_pos (by clear uu;grind)]
     have hn:(ZAO s j).length=1+1:=by rw[hA];rfl
     have hrow:(ZAf s j).map Zk++ [[X.int .u8 92]]++ [[X.int .u8 ((s.getD j 0).toNat:Int)]]=(ZAf s j++ZAO s j).map Zk:=by rw[hA,Yh,Jt];rfl
     refine rgp tT [0,3,5,9,10,11] ?_;refine Jf [0,1] ?_;refine KR ?_;refine nz ?_;refine rgp tT [0,3,9,10,11] ?_;refine Jf [0,1] ?_;refine KR ?_;refine nz ?_;refine WI.orderA [0,3,9,10,11] ?_;refine rg tT [0,3,9,10,11] ?_;exact⟨⟨j+1,by rw[hst,Zf,hn];first|done|rfl,by rw[hst,<-hrow];first|done|rfl,J0⟩,by simp[ZK,Ab.get,D.val,ZD];omega⟩
    .have hA:ZAO s j= [s.getD j 0]:=by unfold ZAO ZDc ZJe slD;rw[if_neg (by clear uu;grind),if_neg (by clear uu;grind)]
     have hn:(ZAO s j).length=1:=by rw[hA];rfl
     have hrow:(ZAf s j).map Zk++ [[X.int .u8 ((s.getD j 0).toNat:Int)]]=(ZAf s j++ZAO s j).map Zk:=by rw[hA];exact ZdP _ _
     refine rgp tT [0,3,9,10,11] ?_;refine Jf [0,1] ?_;refine KR ?_;refine nz ?_;refine WI.orderA [0,3,9,10,11] ?_;refine rg tT [0,3,9,10,11] ?_;exact⟨⟨j+1,by rw[hst,Zf,hn];first|done|rfl,by rw[hst,<-hrow];first|done|rfl,J0⟩,by simp[ZK,Ab.get,D.val,ZD];omega⟩
  .have uu:=Ya uu (ZOG (ZAf s j));refine rg tT [2] ?_;refine lf ?_;obtain rfl:j=s.length:=by omega
   first|rfl|(simp only[Kt,ZOG];first|done|rfl)
def ZIp:J8->J5
 | [.x (.str s)]=>some (decide (s.length<=1000000),.x (.str (ZC8 s)))
 |_=>none
theorem ZYP: ∀args r,ZIp args=some (true,r)->ZC Tryz.prog 177 args r:=by
 intro args r h;unfold ZIp at h;split at h
 .rename_i s;simp only[Ze,ZZ,ZS,Zd,true_and]at h;obtain⟨h1,rfl⟩:=h;exact(ZeY s h1)
 .cases h
theorem Zen: ∀m:Fin 16,(ZEl.take (m.val+1)).drop m.val= [dgD m.val]:=by decide+kernel
theorem ZW6(m:Nat)(h:m<16):(ZEl.take (m+1)).drop m= [dgD m]:=Zen ⟨m,h⟩
theorem ZZb(m:Nat)(h:m<16):IntKind.u8.wrap ((m:Int)+1)=((m+1:Nat):Int):=by rw[IntWalk.u8_in _ J0];rfl
theorem ZTu(s:Tx)(j:Nat)(h:j<s.length):List.drop j (List.take ((j:Int)+1).toNat s)= [s.getD j 0]:=by
 rw[show((j:Int)+1).toNat=j+1 by omega,Jk h,ZcL (by simp;omega),ZB2 (by simp;omega)];simp[h]
theorem Zbj:ZEl.length=16:=rfl
def ZOF:Tabs:=ZT (ZO) 173 ZAz
theorem ZXF:SsOk Tryz.prog ZOF:=ZH (ZF) (ZW 173) ZL5
theorem ZbP:(∀a,ZOF.q 173 a=ZAz a)/\(∀f a o,ZOF.r f a o=none)/\(∀f a o,ZOF.k f a o=none):=⟨λ_=>rfl,λ_ _ _=>rfl,λ_ _ _=>rfl⟩
theorem ZeR(s:Tx)(hl:s.length<=1000000):ZC Tryz.prog 140 [.x (.str s)] (.x (.str (ZC8 s))):=by
 refine ZI.pure (fC 140 true ?_) rfl;intro C0 E0;have uu:=JX @ZAz.eq_1 @ZAz.eq_2 @ZbP;have tT:=ZXF;refine nz ?_;refine rg tT [0] ?_;refine rg tT [0,3] ?_;refine rg tT [0,3,4] ?_;refine rg tT [0,3,4,5] ?_;refine WI.loop (λφ os=> ∃(j:Nat),φ= [(0,.x (.str s)),(3,.x (.str ZEl)),(4,.x (.str (ZAf s j))),(5,.x (.int .i64 j))]/\os= []/\j<=s.length) (ZK s.length 5) ?_ (λφ os hI=> ?_)
 .exact⟨0,rfl,rfl,J0⟩
 .obtain⟨j,rfl,rfl,hj⟩:=hI;have hle:=ZEx s j;refine nz ?_;refine rg tT [0,3,4,5,10] ?_;refine cd (λh0=> ?_) (λh0=> ?_)
  .have hj4:j<s.length:=by omega
   have hst:ZAf s (j+1)=ZAf s j++ZAO s j:=rfl;have hb8:(s.getD j 0).toNat<256:=ZDm _;have q0:(decide (0<=((s.getD j 0).toNat:Int)))=true:=ZL J0;have uu:=Ya uu q0;refine rg tT [0,3,4,5,6] ?_;refine rg tT [0,3,4,5,6,23] ?_;refine cd (λh1=> ?_) (λh1=> ?_)
   .have hA:ZAO s j= [92,dgD ((s.getD j 0).toNat/16),dgD ((s.getD j 0).toNat % 16)]:=by unfold ZAO ZDc ZJe;rw[if_pos (by clear uu;grind)]
    have uu:=ξn uu (ξn (show decide (((s.getD j 0).toNat/16:Nat)<=(((s.getD j 0).toNat/16+1:Nat):Int))=true from ZL J0) (ξn (show decide (((s.getD j 0).toNat/16+1:Nat)<=((16:Nat):Int))=true from ZL J0) (ξn (ZdD _ hb8) (ξn (Zc9 (s.getD j 0).toNat) (ξn (ZW6 ((s.getD j 0).toNat/16) J0) (ξn (ZW6 ((s.getD j 0).toNat % 16) J0) (ξn (ZZb ((s.getD j 0).toNat/16) J0) (ξn (ZZb ((s.getD j 0).toNat % 16) J0) Zbj))))))));refine WI.dregB tT [0,3,4,5] ?_;refine Zs ?_;refine Jq ?_
    iterate 2 refine Zs ?_
    refine Jq ?_;refine Zs ?_
    iterate 4 refine Jq ?_
    iterate 2 refine Zs ?_
    refine Jq ?_;refine Zs ?_
    iterate 4 refine Jq ?_
    refine Zs ?_;refine dN ?_;refine nz ?_;refine rg tT [0,3,4,5] ?_;exact⟨⟨j+1,by rw[hst,hA];first|done|rfl|simp,rfl,J0⟩,by simp[ZK,Ab.get,D.val,ZD];omega⟩
   .refine rg tT [0,3,4,5,48] ?_;refine cd (λh2=> ?_) (λh2=> ?_)
    .have hA:ZAO s j= [92,s.getD j 0]:=by unfold ZAO ZDc ZJe slD;rw[if_neg (by clear uu;grind),if_pos (by clear uu;grind)]
     have uu:=Ya uu (ZTu s j hj4);refine rg tT [0,3,4,5] ?_;refine rg tT [0,3,4,5] ?_;exact⟨⟨j+1,by rw[hst,hA];first|done|rfl|simp,rfl,J0⟩,by simp[ZK,Ab.get,D.val,ZD];omega⟩
    .have hA:ZAO s j= [s.getD j 0]:=by unfold ZAO ZDc ZJe slD;rw[if_neg (by clear uu;grind),if_neg (by clear uu;grind)]
     have uu:=Ya uu (ZTu s j hj4);refine rg tT [0,3,4,5] ?_;refine rg tT [0,3,4,5] ?_;exact⟨⟨j+1,by rw[hst,hA];first|done|rfl|simp,rfl,J0⟩,by simp[ZK,Ab.get,D.val,ZD];omega⟩
  .refine rg tT [2] ?_;refine lf ?_;obtain rfl:j=s.length:=by omega
   rfl
def ZIN:J8->J5
 | [.x (.str s)]=>some (decide (s.length<=1000000),.x (.str (ZC8 s)))
 |_=>none
theorem ZYV: ∀args r,ZIN args=some (true,r)->ZC Tryz.prog 140 args r:=by
 intro args r h;unfold ZIN at h;split at h
 .rename_i s;simp only[Ze,ZZ,ZS,Zd,true_and]at h;obtain⟨h1,rfl⟩:=h;exact(ZeR s h1)
 .cases h
end Go.Proofs.YtiogclkbccdefaaGreatDoor
end
