import Derived.Test.YtiogclkbccdefaaGreatDoorLA4
import Derived.Test.YtiogclkbccdefaaGreatDoorLA1
import Derived.LoopN
import Derived.Lib.SlKeysI
set_option linter.unusedSimpArgs false
set_option linter.unusedVariables false
set_option maxRecDepth 100000
theorem Wb{p:Prop}(h:p:=by simp (disch:=omega) only[uu,zM,Ye,KO,KE,KW,Ob.beq_refl,JM,ZT,ZG,Ab.get,Ab.put,putO,Nat.reduceEqDiff,↓reduceIte,D.val,D.cond,reduceCtorEq,YF,Qq,Ob.isDrw,Ja,Qh,Kc,ZA4,apm,QV,IE.isCall,D.cells?,Nat.reduceAdd,Nat.reduceLeDiff,Ob.slice?,Ob.dsl?,Ob.drw?,Nat.reduceSub,Nat.reduceMul,Int.reduceToNat,Int.reduceLE,Int.reduceLT,Int.reduceAdd,Int.reduceSub,Int.reduceMul,Int.reduceNeg,Int.reduceEq,Zx,ZCC,KS,ZD,JZ,YZ,Yh,Jb,KD,Ko,ZAD,KH,eqR,eqD,ZAC,eqX,nzD,ZAn,unD,ZAr,QB,evC,QW,QP,Nat.reduceLT,zO];rfl):p:=h
theorem Wd{p:Prop}(h:p:=by simp (disch:=omega) only[uu,zS,zW,zO,ZEZ,ZDr,D.nn,D.na,zQ,IE.isCall,Nat.reduceAdd,Nat.reduceSub,Nat.reduceMul,Nat.reduceLeDiff,Nat.reduceLT,Nat.reduceBEq,Int.reduceToNat,Int.reduceLE,Int.reduceLT,Int.reduceAdd,Int.reduceSub,Int.reduceMul,Int.reduceNeg,Int.reduceEq,Nat.reduceEqDiff,YN,Yj,JM,ZT,YF,Qq,Ob.isDrw,Ja,Qh,Kc,ZA4,apm,ZG,Ab.get,Ab.put,putO,keep,QD,D.val,D.cond,D.cells?,D.scalar,X.scalar,D.plain,D.isX,ZAn,ZBn,eqD,ZAC,eqX,unD,ZD,ZAr,KS,Zx,Qs,Jo,Yh,YZ,JZ,Jb,KD,Ko,Ob.slice?,↓reduceIte,reduceCtorEq,Ye,QB,evC,QW,QP,KO,KE,KW,eqR,nzD,QV,ZCT,ZCZ,ZCS,ZBl,ZAd,ZAD,YH,IE.frame,Zh,KH,IntWalk.i64_in,ZAl,Jx,ZFa,Jw,ZGI,ZCJ,Qz,Ji,QC,QH,JB,D.inP,Ob.inP,YA,D.ren,inv,YX,Ob.ren,KN,KU,KR,ZEB,ZBY];rfl):p:=h
theorem Wg{p:Prop}(h:p:=by first|with_reducible rfl|omega|(simp;done)|(simp;omega)|rfl|((repeat clear hZ);clear uu;grind)|(clear h;(repeat clear hZ);clear uu;grind)):p:=h
theorem Wr{p:Prop}(h:p:=by simp (disch:=omega) only[uu,zF,keep,QD,Je,if_false,QE,ZH6,ZGu,ZDq,Yh,YZ,ZT,ZG,Ab.get,Nat.reduceEqDiff,↓reduceIte,D.val,D.cond,Nat.reduceAdd,Nat.reduceLeDiff,Ob.slice?,Ob.dsl?,Ob.drw?,ZHN];rfl):p:=h
theorem WB{p:Prop}(h:p:=by simp (disch:=omega) only[uu,zS,zW,zO,ZEZ,ZDr,D.nn,D.na,zQ,IE.isCall,Nat.reduceAdd,Nat.reduceSub,Nat.reduceMul,Nat.reduceLeDiff,Nat.reduceLT,Nat.reduceBEq,Int.reduceToNat,Int.reduceLE,Int.reduceLT,Int.reduceAdd,Int.reduceSub,Int.reduceMul,Int.reduceNeg,Int.reduceEq,Nat.reduceEqDiff,YN,Yj,JM,ZT,YF,Qq,Ob.isDrw,Ja,Qh,Kc,ZA4,apm,ZG,Ab.get,Ab.put,putO,keep,QD,D.val,D.cond,D.cells?,D.scalar,X.scalar,D.plain,D.isX,ZAn,ZBn,eqD,ZAC,eqX,unD,ZD,ZAr,KS,Zx,Qs,Jo,Yh,YZ,JZ,Jb,KD,Ko,Ob.slice?,↓reduceIte,reduceCtorEq,Ye,QB,evC,QW,QP,KO,KE,KW,eqR,nzD,QV,ZCT,ZCZ,ZCS,ZBl,ZAd,ZAD,YH,IE.frame,Zh,KH,IntWalk.i64_in,ZAl,Jx,ZFa,Jw,ZGI,ZCJ,Qz,Ji,QC,QH,JB,D.inP,Ob.inP,YA,D.ren,inv,YX,Ob.ren,KN,KU,KR,ZEB,ZBY]):p:=h
theorem WD{p:Prop}(h:p:=by simp (disch:=decide) only[zV,zO,Ob.mpb,frzL,ZBo,ZDG,onF,Ob.onI,mpP,Ji,Yq,Qd,D.vw,vwL,D.on,D.inP,JB,Zh,D.ren,YA,inv,YX,Ob.mp,Ob.ren,D.nn,ZEA,Nat.reduceBEq,Nat.reduceEqDiff,Nat.reduceAdd,↓reduceIte];rfl):p:=h
theorem Vp{p:Prop}(h:p:=by simp only[keep,QD,Nat.reduceEqDiff,if_true,if_false,↓reduceIte,Je];rfl):p:=h
theorem VT{p:Prop}(h:p:=by simp only[put,keep,QD,Nat.reduceEqDiff,if_true,if_false,↓reduceIte,Je];rfl):p:=h
theorem Uj{p:Prop}(h:p:=by simp only[Yq,bxR,ZFf,Yb,Yd,Jy];congr 1;simp only[YP,and_true];ac_rfl):p:=h
theorem Uo{p:Prop}(h:p:=by simp only[zV,zO,Ob.mpb,frzL,ZBo,ZDG,onF,Ob.onI,mpP,Ji,Yq,Qd,D.vw,vwL,D.on,D.inP,JB,Zh,D.ren,YA,inv,YX,Ob.mp,Ob.ren,D.nn,ZEA,Nat.reduceBEq,Nat.reduceEqDiff,Nat.reduceAdd,↓reduceIte];rfl):p:=h
theorem UZ{p:Prop}(h:p:=by simp only[zC,Ye,KO,KE,KW,Ob.beq_refl,JM,ZT,ZG,Ab.get,Ab.put,putO,Nat.reduceEqDiff,↓reduceIte,D.val,D.cond,reduceCtorEq,Nat.reduceAdd,KB,Jk];rfl):p:=h
theorem Ti{p:Prop}(h:p:=by obtain⟨cu2,ds2,k3,kd2,k4⟩:=e2.bl id b cu1 ds1 k (by rw[ZCL];exact ZI J0) k1 kd1 k2;rw[ZC9 J0]at k3 k4;exact⟨cu2,ds2,k3,kd2,k4⟩):p:=h
theorem Tr{p:Prop}(h:p:=by (intro h;first|(simp only[zB]at h;exact h)|exact h)):p:=h
theorem Tt{p:Prop}(h:p:=by rename_i hh;obtain⟨rfl,h2,h3⟩:=hh;rw[D.beqL_eq h2,ZHD h3];simp only[Yu,YP,true_and]at h;obtain⟨rfl,rfl⟩:=h;exact⟨he,hm⟩):p:=h
theorem Gz{p:Prop}(h:p:=by rw[hr];exact h):p:=h
theorem Nb{p:Prop}(h:p:=by have:=Nat.ble_eq_true_of_le h;rw[Nat.succ_eq_add_one,hk]at this;cases this):p:=h
theorem Nz{p:Prop}(h:p:=by simp[D.beq]):p:=h
theorem NX{p:Prop}(h:p:=by simp[rows]):p:=h
theorem Xh{p:Prop}(h:p:=by simp only[Yq,ZKW,Yb,Yd,ZF6,Jy]):p:=h
theorem XB{p:Prop}(h:p:=by generalize(ZG φ _).val=u;cases u<;>rfl):p:=h
theorem Ha{p:Prop}(h:p:=by simp[Zk,e]):p:=h
theorem He{p:Prop}(h:p:=by have:=ZFX.1 hr;simp;omega):p:=h
theorem Hp{p:Prop}(h:p:=by congr 1;simp only[YP,and_true];ac_rfl):p:=h
section
namespace Go.Ab
open Go.RowKit Go.Bo
structure RC (α:Type) where
 n:Nat
 enc:α->J9
 dec:J9->Option α
structure RC.Good {α:Type} (c:RC α):Prop where
 len: ∀a,(c.enc a).length=c.n
 de: ∀a,c.dec (c.enc a)=some a
 ed: ∀r a,c.dec r=some a->c.enc a=r
def ZCF(k:IntKind):RC Int:=⟨1,λx=> [.int k x],λ| [.int k' x]=>if k'=k then some x else none|_=>none⟩
def ZC:RC (List UInt8):=⟨1,λs=> [.str s],λ| [.str s]=>some s|_=>none⟩
def ZNR:RC Bool:=⟨1,λs=> [.bool s],λ| [.bool s]=>some s|_=>none⟩
def ZAL:RC Unit:=⟨0,λ_=> [],λ| []=>some ()|_=>none⟩
def Jh{α β:Type}(c:RC α)(d:RC β):RC (α×β):=⟨c.n+d.n,λp=>c.enc p.1++d.enc p.2,λr=>(c.dec (r.take c.n)).bind λa=>(d.dec (r.drop c.n)).map λb=>(a,b)⟩
def Zj5{α β:Type}(c:RC α)(f:β->α)(g:α->β):RC β:=⟨c.n,λb=>c.enc (f b),λr=>(c.dec r).map g⟩
def rows{α:Type}(c:RC α)(l:List α):J6:=l.map c.enc
def ZM{α:Type}(c:RC α)(rs:J6):Option (List α):=rs.mapM c.dec
def rSl{α:Type}(c:RC α):RC (List α):=⟨1,λl=> [.sl (rows c l)],λ| [.sl rs]=>ZM c rs|_=>none⟩
theorem ZD4{α β:Type}{f:α->Option β}: ∀ {l:List α} {m:List β},l.mapM f=some m↔l.length=m.length/\ ∀(i:Nat) (h:i<l.length) (h':i<m.length),f l[i]=some m[i]
 | [],m=>by
  cases m<;>simp
 |x::l,m=>by
  simp only[ZAV,KL,YG,ZBA,Yu];constructor
  .rintro⟨y,hy,ys,hys,rfl⟩;obtain⟨h1,h2⟩:=ZD4.1 hys;refine⟨by simp[h1],λi h h'=> ?_⟩;cases i with
   |zero=>exact hy
   |succ i=>simpa using h2 i WM (by simpa using h')
  .rintro⟨h1,h2⟩;cases m with
   |nil=>simp at h1
   |cons y ys=>
    refine⟨y,h2 0 J1 J1,ys,ZD4.2 ⟨WC,λi h h'=> ?_⟩,rfl⟩;exact h2 (i+1) Wx Wx
section
variable {α β:Type} {c:RC α} {d:RC β}
theorem ZQ(c:RC α)(l:List α):(rows c l).length=l.length:=NX
theorem ZTZ(c:RC α)(l:List α)(i:Nat)(h:i<l.length):(rows c l)[i]? =some (c.enc l[i]):=by simp[rows,h]
theorem ZCA(c:RC α)(l:List α)(k:Nat):(rows c l).drop k=rows c (l.drop k):=NX
theorem ZB8(c:RC α)(l:List α)(k:Nat):(rows c l).take k=rows c (l.take k):=NX
theorem ZCD(c:RC α)(l m:List α):rows c l++rows c m=rows c (l++m):=NX
theorem ZHH(h:c.Good)(l:List α)(sz:Nat)(hs:c.n=sz):((rows c l).all λr=>decide (r.length=sz))=true:=by
 subst hs;rw[Yg];intro r hr;obtain⟨a,_,rfl⟩:=YS.1 hr;simp[h.len]
theorem ZS(h:c.Good)(l:List α):ZM c (rows c l)=some l:=by
 unfold ZM;rw[ZD4];exact⟨NX,λi h1 h2=>by simp[rows,h.de]⟩
theorem Yo(h:c.Good){rs:J6}{l:List α}(hu:ZM c rs=some l):rows c l=rs:=by
 unfold ZM at hu;rw[ZD4]at hu;refine List.ext_getElem (by simp[rows,hu.1]) (λi h1 h2=> ?_);have:=hu.2 i h2 (by simpa[rows]using h1);simpa[rows]using h.ed _ _ this
theorem ZRk(k:IntKind)(n:Int):(ZCF k).enc n= [.int k n]:=rfl
theorem ZS6(s:List UInt8):ZC.enc s= [.str s]:=rfl
theorem ZQs(b:Bool):ZNR.enc b= [.bool b]:=rfl
theorem ZTr(u:Unit):ZAL.enc u= []:=rfl
theorem ZVQ(c:RC α)(l:List α):(rSl c).enc l= [.sl (rows c l)]:=rfl
theorem ZTt(c:RC α)(d:RC β)(p:α×β):(Jh c d).enc p=c.enc p.1++d.enc p.2:=rfl
theorem ZTm(c:RC α)(f:β->α)(g:α->β)(b:β):(Zj5 c f g).enc b=c.enc (f b):=rfl
theorem ZBL(k:IntKind):(ZCF k).Good:=⟨λ_=>rfl,λa=>by simp[ZCF],λr a h=>by
 simp only[ZCF]at h|-;split at h
 .split at h
  .rename_i hk;cases h;rw[hk]
  .cases h
 .cases h⟩
theorem ZP:ZC.Good:=⟨λ_=>rfl,λa=>rfl,λr a h=>by
 simp only[ZC]at h|-;split at h
 .cases h;rfl
 .cases h⟩
theorem ZX6:ZNR.Good:=⟨λ_=>rfl,λa=>rfl,λr a h=>by
 simp only[ZNR]at h|-;split at h
 .cases h;rfl
 .cases h⟩
theorem ZBX:ZAL.Good:=⟨λ_=>rfl,λa=>rfl,λr a h=>by
 simp only[ZAL]at h|-;split at h
 .rfl
 .cases h⟩
theorem JJ(hc:c.Good)(hd:d.Good):(Jh c d).Good:=⟨λp=>by simp[Jh,hc.len,hd.len],λp=>by
  have h1:(c.enc p.1++d.enc p.2).take c.n=c.enc p.1:=by rw[ZM5 (by rw[hc.len];exact Zr _),YR (by rw[hc.len];exact Zr _)]
  have h2:(c.enc p.1++d.enc p.2).drop c.n=d.enc p.2:=by rw[<-hc.len p.1];exact ZYB
  simp[Jh,h1,h2,hc.de,hd.de],λr p h=>by
  simp only[Jh,YG,Kq]at h;obtain⟨a,h1,b,h2,rfl⟩:=h;simp only[Jh,hc.ed _ _ h1,hd.ed _ _ h2,ZBb]⟩
theorem ZDN(hc:c.Good):(rSl c).Good:=⟨λ_=>rfl,λl=>ZS hc l,λr l h=>by
 simp only[rSl]at h|-;split at h
 .rw[Yo hc h]
 .cases h⟩
end
mutual
def X.wf:X->Prop
 | .sl rs=>rs.length<=maxLen/\X.wfR rs
 | .int _ _=>True
 | .bool _=>True
 | .str _=>True
 | .nilp=>True
 | .nils=>True
def X.wfR:J6->Prop
 | []=>True
 |r::l=>X.wfL r/\X.wfR l
def X.wfL:J9->Prop
 | []=>True
 |x::l=>x.wf/\X.wfL l
end
theorem X.wfL_iff: ∀ {l:J9},X.wfL l↔ ∀x∈l,x.wf
 | []=>by simp[X.wfL]
 |x::l=>by simp[X.wfL,X.wfL_iff (l:=l)]
theorem X.wfR_iff: ∀ {rs:J6},X.wfR rs↔ ∀r∈rs,X.wfL r
 | []=>by simp[X.wfR]
 |r::l=>by simp[X.wfR,X.wfR_iff (rs:=l)]
theorem VX.wf{w:World}{st:Nat->Nat->Prop}{x:X}{v:Value}(h:VX w st x v):x.wf:=by
 induction h with
 |sl rs a n c sz val hn hc hm hsz hcell hnil hsp hval ih=>
  refine⟨J0,X.wfR_iff.2 (λr hr=>X.wfL_iff.2 (λx hx=> ?_))⟩;obtain⟨i,hi⟩:=ZFA.1 hr;obtain⟨j,hj⟩:=ZFA.1 hx;exact ih i j r x hi hj
 |_=>trivial
section
variable {P:Program}
theorem ZL.wf{f:FuncId}{args:J8}{r:D}(h:(∀x,D.x x∈args->x.wf)->ZL P f args r):ZL P f args r:=by
 intro w st vs hst hvl;refine h (λx hx=> ?_) w st vs hst hvl;obtain⟨j,hj⟩:=ZFA.1 hx;have hl:=(ZX hj).1;have hv:vs[j]? =some (vs[j]'(by rw[<-hvl.1];exact hl)):=ξJ _;exact(hvl.2 j _ _ hj hv).xx.wf
theorem ZL.wfA{f:FuncId}{args:J8}{r:D}(h:(∀(i j:Nat) x,(args[i]?).bind (λd=>match d with| .agg ds=>ds[j]? |_=>none)=some (D.x x)->x.wf)->ZL P f args r):ZL P f args r:=by
 intro w st vs hst hvl;refine h (λi j x hx=> ?_) w st vs hst hvl;obtain⟨d,hd,h2⟩:=Zg hx;have hl:=(ZX hd).1;have hv:vs[i]? =some (vs[i]'(by rw[<-hvl.1];exact hl)):=ξJ _;have hvd:=hvl.2 i d _ hd hv;cases d with
 |agg ds=>
  generalize vs[i]'(by rw[<-hvl.1];exact hl)=u at hvd;cases hvd with
  |agg us hl2 h1 hv2=>
   have hj:=(ZX h2).1;exact(hv2 j _ _ h2 (ξJ J0)).xx.wf
 |_=>cases h2
theorem WI.wf{c:Ctx}{E0:Env}{os0 os:J7}{n:Nat}{Q:Exit->J4->J7->Prop}{φ:J4}{ic:IC}(t:Nat){x:X}(ht:get φ t= .x x)(h:x.wf->WI P c E0 os0 n ic Q φ os):WI P c E0 os0 n ic Q φ os:=by
 intro code hc E a R hf;have:=hf.slot t;rw[ht]at this;exact h this.xx.wf code hc E a R hf
mutual
def X.ok:X->Prop
 | .sl rs=>rs.length<=maxLen/\X.okR rs
 | .int k n=>(Lit.int k n).wf=true
 | .bool _=>True
 | .str s=>s.length<=maxLen
 | .nilp=>True
 | .nils=>True
def X.okR:J6->Prop
 | []=>True
 |r::l=>X.okL r/\X.okR l
def X.okL:J9->Prop
 | []=>True
 |x::l=>x.ok/\X.okL l
end
theorem X.okL_iff: ∀ {l:J9},X.okL l↔ ∀x∈l,x.ok
 | []=>by simp[X.okL]
 |x::l=>by simp[X.okL,X.okL_iff (l:=l)]
theorem X.okR_iff: ∀ {rs:J6},X.okR rs↔ ∀r∈rs,X.okL r
 | []=>by simp[X.okR]
 |r::l=>by simp[X.okR,X.okR_iff (rs:=l)]
theorem X.okL_append{l m:J9}:X.okL (l++m)↔X.okL l/\X.okL m:=by
 simp only[X.okL_iff,KT];exact⟨λh=>⟨λx hx=>h x (.inl hx),λx hx=>h x (.inr hx)⟩,λh x hx=>hx.elim (h.1 x) (h.2 x)⟩
def ZBC(w:World)(xs:J9)(cs:List Value):Prop:=cs.length=xs.length/\ ∀(j:Nat) (x:X) (v:Value),xs[j]? =some x->cs[j]? =some v->VX w (λb _=>b<w.heap.size) x v
def ZHp(P:Program)(T:TypeId){α:Type}(c:RC α):Prop:=
 P.cellsOf T=c.n/\ ∀ {H:Type} (enc:TypeId×Value->H) (w:World) (fuel:Nat) (cs:List Value) (x:DataW H×List MemPlace),DataW.trod enc P w 0 (λ_=>true) true fuel T cs=some x-> ∃y,ZBC w (c.enc y) cs/\X.okL (c.enc y)
theorem ZBC.one{w:World}{x:X}{v:Value}(h:VX w (λb _=>b<w.heap.size) x v):ZBC w [x] [v]:=⟨rfl,λj y u h1 h2=>by
 cases j with
 |zero=>simp at h1 h2;subst h1;subst h2;exact h
 |succ j=>simp at h1⟩
variable {T:TypeId}
theorem ZZd{k:IntKind}(hT:P.underlying T=some (.int k))(hc:P.cellsOf T=1):ZHp P T (ZCF k):=
 ⟨hc,λ_ _ _ _ _ h=>let⟨n,h1,_,h3⟩:=DataW.trod_int hT h;⟨n,by rw[h1];exact ZBC.one (.int k n),h3,trivial⟩⟩
theorem Ze8(s:ByteArray):ZV s.toList=s:=by
 apply ByteArray.ext;apply Array.ext';rw[ByteArray.toList_eq];simp[ZV]
theorem ZKw(hT:P.underlying T=some .string)(hc:P.cellsOf T=1):ZHp P T ZC:=by
 refine⟨hc,λ{H} enc w fuel cs x h=> ?_⟩;obtain⟨s,rfl,_,h3⟩:=DataW.trod_string hT h;have h4:VX w (λb _=>b<w.heap.size) (.str s.toList) (.string (ZV s.toList)):= .str _;rw[Ze8]at h4;refine⟨s.toList,ZBC.one h4,?_,trivial⟩;show s.toList.length<=maxLen;rw[ByteArray.toList_eq];simpa using h3
def ZO1(P:Program)(fuel:Nat)(T:TypeId){α:Type}(c:RC α):Prop:= ∀ {H:Type} (enc:TypeId×Value->H) (w:World) (cs:List Value) (x:DataW H×List MemPlace),DataW.trod enc P w 0 (λ_=>true) true fuel T cs=some x-> ∃y,ZBC w (c.enc y) cs/\X.okL (c.enc y)
theorem ZHp.at'{α:Type}{c:RC α}(h:ZHp P T c)(n:Nat):ZO1 P n T c:=λenc w cs x hx=>h.2 enc w n cs x hx
theorem ZWw{α:Type}{c:RC α}{e:TypeId}{fuel:Nat}(hG:c.Good)(hT:P.underlying T=some (.slice e))(hce:P.cellsOf e=c.n)(he: ∀n,n<fuel->ZO1 P n e c)(h0:0<c.n):ZO1 P fuel T (rSl c):=by
 intro H enc w cs x h;rcases DataW.trod_slice hT h with⟨rfl,_⟩|⟨a,len,cap,elems,rest,n,hfuel,rfl,_,_,hl,hm,hlen,hel,hsp,_⟩
 .exact⟨[],ZBC.one (VX.nn .nils),⟨Kb _,trivial⟩,trivial⟩
 .have key: ∀i,i<len-> ∃(y:α) (cs':List Value),ZBC w (c.enc y) cs'/\X.okL (c.enc y)/\ ∀j,j<c.n->w.cell? (a.add (i*c.n+j))=cs'[j]? :=by
   intro i hi;have h1:=hel i hi;rw[Zw J0]at h1;obtain⟨cs',h2,h3⟩:=Zg h1;obtain⟨y,hy,hy2⟩:=he n J0 enc w cs' _ h3;obtain⟨_,hcl,hcc⟩:=World.cells?_some h2;rw[hce]at hcl hcc;refine⟨y,cs',hy,hy2,λj hj=> ?_⟩;rw[<-hcc j hj];congr 1;unfold Addr.add;by_cases h4:i*c.n=0<;>by_cases h5:j=0<;>simp[h4,h5,ZFe]
  have spot:0<cap->a.spot=none:=by
   intro hcap;have one: ∀(z:DataW H×List MemPlace),(w.cells? 0 (a.add (0*P.cellsOf e)) (P.cellsOf e)).bind (DataW.trod enc P w 0 (λ_=>true) true n e)=some z->a.spot=none:=by
    intro z hz;obtain⟨cs',h2,h3⟩:=Zg hz;obtain⟨_,hcl,hcc⟩:=World.cells?_some h2;rw[hce]at hcl hcc;have h5:=hcc 0 h0;rw[Zw J0]at h5;have:=World.cell?_spot h5;simpa[Addr.add]using this
   by_cases hz:0<len
   .have h1:=hel 0 hz;rw[Zw J0]at h1;exact one _ h1
   .obtain⟨r1,r2⟩:=hsp rfl;have h1:=r2 0 J0;rw[Zw J0,show len+0=0 by omega]at h1;exact one _ h1
  classical
  by_cases hz:len=0
  .subst hz;refine⟨[],ZBC.one (.sl [] (some a) 0 cap 0 (λ_ _=>undef) rfl (Kb _) hm (λr hr=>TI) (λi j hi=>J0) (λh=>W6) (λhc ad had=> ?_) (λi j r x hr=>Hc)),⟨Kb _,trivial⟩,trivial⟩;cases had;exact spot hc
  .have hne:Nonempty α:=let⟨y,_⟩:=key 0 J0;⟨y⟩
   let f:Nat->α:=λi=>if hi:i<len then Classical.choose (key i hi)else Classical.choice hne
   have hsp0:=spot J0;obtain⟨b,off,sp⟩:=a;simp only at hsp0;subst hsp0
   let V':Nat->Nat->Value:=λi j=>if hi:i<len then(Classical.choose (ZWe (key i hi))).getD j undef else undef
   have hf: ∀i (hi:i<len),∃cs',ZBC w (c.enc (f i)) cs'/\X.okL (c.enc (f i))/\(∀j,j<c.n->w.cell? ⟨b,off+i*c.n+j,none⟩=cs'[j]?)/\ ∀j,V' i j=cs'.getD j undef:=by
    intro i hi;obtain⟨h1,h2,h3⟩:=ZWe (ZWe (key i hi));refine⟨_,by simpa only[f,dif_pos hi]using h1,by simpa only[f,dif_pos hi]using h2,λj hj=> ?_,λj=>by simp only[V',dif_pos hi]⟩;rw[<-h3 j hj];congr 1;rw[JT];simp only[ZFe]
   have hgl:((List.range len).map f).length=len:=TG
   have hgi: ∀(i:Nat) (r:J9),(rows c ((List.range len).map f))[i]? =some r->i<len/\r=c.enc (f i):=by
    intro i r hr;simp only[rows,YI,Kq]at hr;obtain⟨y,⟨k,hk,rfl⟩,rfl⟩:=hr;have hk1:=(ZX hk).1;simp only[List.length_range]at hk1;rw[ZMs hk1]at hk;cases hk;exact⟨hk1,rfl⟩
   refine⟨(List.range len).map f,ZBC.one (.sl _ (some ⟨b,off,none⟩) len cap c.n V' (by rw[ZQ,hgl]) hl hm (λr hr=> ?_) (λi j hi hj=> ?_) (λh=>W6) (λ_ ad had=>by cases had;rfl) (λi j r x hr hx=> ?_)),⟨by rw[ZQ,hgl];omega,X.okR_iff.2 (λr hr=> ?_)⟩,trivial⟩
   .obtain⟨y,_,rfl⟩:=YS.1 hr;exact hG.len _
   .obtain⟨cs',h1,h2,h3,h4⟩:=hf i hi;have hlc:cs'.length=c.n:=by rw[h1.1,hG.len]
    have h5:=h3 j hj;rw[Zw J0]at h5;refine⟨b,off,rfl,World.block_lt_of_cell? _ _ h5,?_⟩;rw[h5,h4];simp[List.getD,hlc,hj]
   .obtain⟨hi,rfl⟩:=hgi i r hr;obtain⟨cs',h1,h2,h3,h4⟩:=hf i hi;have hj:=(ZX hx).1;have hlc:cs'.length=c.n:=by rw[h1.1,hG.len]
    rw[hG.len]at hj;rw[h4];have h5:cs'[j]? =some (cs'[j]' J0):=Zw _;simp only[List.getD,h5,ξY];exact h1.2 j x _ hx h5
   .obtain⟨i,hi⟩:=ZFA.1 hr;obtain⟨hi2,rfl⟩:=hgi i r hi;obtain⟨cs',h1,h2,h3,h4⟩:=hf i hi2;exact h2
theorem ZMI{α:Type}{c:RC α}{e:TypeId}(hG:c.Good)(hT:P.underlying T=some (.slice e))(hc:P.cellsOf T=1)(he:ZHp P e c)(h0:0<c.n):ZHp P T (rSl c):=
 ⟨hc,λenc w fuel cs x h=>ZWw (fuel:=fuel) hG hT he.1 (λn _=>he.at' n) h0 enc w cs x h⟩
def ZEZ(g:J8->J5)(args:J8):J5:=g (args.map D.na)
theorem ZBe{f:FuncId}{g:J8->J5}(h: ∀args r,g args=some (true,r)->ZL P f args r): ∀args r,ZEZ g args=some (true,r)->ZL P f args r:=λ_ r hg=>ZL.na (h _ r hg)
def ZDr(g:J8->J7->Option (Bool×D×J7))(args:J8)(os:J7):Option (Bool×D×J7):=g (args.map D.nn) (os.map (Ob.mpb D.nn))
end
abbrev ZK:=Jh ZC (Jh (rSl ZC) ZAL)
abbrev ZZ:=Jh ZC (Jh (rSl ZK) ZAL)
abbrev ZLG:=Jh (ZCF .i64) (Jh (ZCF .i64) (Jh ZZ (Jh ZZ (Jh ZC ZAL))))
abbrev ZN:=List UInt8×(List (List UInt8)×Unit)
abbrev ZY:=List UInt8×(List ZN×Unit)
abbrev ZfJ:=Int×(Int×(ZY×(ZY×(List UInt8×Unit))))
instance decAttr:DecidableEq ZN:=λa b=>decidable_of_iff (a.1=b.1/\a.2.1=b.2.1) ⟨λh=>ZCQ h.1 (ZCQ h.2 rfl),λh=>h▸⟨rfl,rfl⟩⟩
instance decEntry:DecidableEq ZY:=λa b=>decidable_of_iff (a.1=b.1/\a.2.1=b.2.1) ⟨λh=>ZCQ h.1 (ZCQ h.2 rfl),λh=>h▸⟨rfl,rfl⟩⟩
instance decChange:DecidableEq ZfJ:=λa b=>decidable_of_iff ((a.1=b.1/\a.2.1=b.2.1)/\(a.2.2.1=b.2.2.1/\a.2.2.2.1=b.2.2.2.1)/\a.2.2.2.2.1=b.2.2.2.2.1)
 ⟨λh=>ZCQ h.1.1 (ZCQ h.1.2 (ZCQ h.2.1.1 (ZCQ h.2.1.2 (ZCQ h.2.2 rfl)))),λh=>h▸⟨⟨rfl,rfl⟩,⟨rfl,rfl⟩,rfl⟩⟩
theorem Zf:ZK.Good:=JJ ZP (JJ (ZDN ZP) ZBX)
theorem YD:ZZ.Good:=JJ ZP (JJ (ZDN Zf) ZBX)
theorem ZKY:ZLG.Good:=JJ (ZBL _) (JJ (ZBL _) (JJ YD (JJ YD (JJ ZP ZBX))))
theorem ZU7(l:List (List UInt8)):ZM ZC (rows ZC l)=some l:=ZS ZP l
theorem ZVr(k:IntKind)(l:List Int):ZM (ZCF k) (rows (ZCF k) l)=some l:=ZS (ZBL k) l
theorem ZSx(l):ZM ZK (rows ZK l)=some l:=ZS Zf l
theorem ZP8(l):ZM ZZ (rows ZZ l)=some l:=ZS YD l
theorem ZOU(l):ZM ZLG (rows ZLG l)=some l:=ZS ZKY l
theorem ZJI(l):((rows ZC l).all λr=>decide (r.length=1))=true:=ZHH ZP l 1 rfl
theorem ZJO(k)(l):((rows (ZCF k) l).all λr=>decide (r.length=1))=true:=ZHH (ZBL k) l 1 rfl
theorem ZHb(l):((rows ZK l).all λr=>decide (r.length=2))=true:=ZHH Zf l 2 rfl
theorem ZGf(l):((rows ZZ l).all λr=>decide (r.length=2))=true:=ZHH YD l 2 rfl
theorem ZFl(l):((rows ZLG l).all λr=>decide (r.length=7))=true:=ZHH ZKY l 7 rfl
section
variable {P:Program} {T:TypeId} {w:World}
theorem ZBC.append{xs ys:J9}{cs ds:List Value}(h:ZBC w xs cs)(k:ZBC w ys ds):ZBC w (xs++ys) (cs++ds):=by
 refine⟨by simp[h.1,k.1],λj x v hx hv=> ?_⟩;by_cases hj:j<xs.length
 .rw[Yk hj]at hx;rw[Yk (by rw[h.1];exact hj)]at hv;exact h.2 j x v hx hv
 .rw[QI J0]at hx;rw[QI (by rw[h.1];omega),h.1]at hv;exact k.2 _ x v hx hv
theorem ZBC.nil:ZBC w [] []:=⟨rfl,λj x v h=>WE⟩
inductive FieldsO (P:Program):List Field->Nat-> {α:Type}->RC α->Prop
 |nil (off:Nat):FieldsO P [] off ZAL
 |cons {f:Field} {fs:List Field} {off:Nat} {α β:Type} {c:RC α} {d:RC β} (ho:f.offset=off) (hE:ZHp P f.type c) (hF:FieldsO P fs (off+c.n) d):FieldsO P (f::fs) off (Jh c d)
theorem ZSh{fs:List Field}{off:Nat}{α:Type}{c:RC α}(hf:FieldsO P fs off c){H:Type}(enc:TypeId×Value->H)(w:World)(fuel:Nat)(cs:List Value)
  (h: ∀f∈fs,∃x,DataW.trod enc P w 0 (λ_=>true) true fuel f.type ((cs.drop f.offset).take (P.cellsOf f.type))=some x):
  ∃y,ZBC w (c.enc y) ((cs.drop off).take c.n)/\X.okL (c.enc y):=by
 induction hf with
 |nil off=>exact⟨(),by simpa[ZAL]using ZBC.nil,trivial⟩
 | @cons f fs off α β c d ho hE hF ih=>
  obtain⟨y,hy,hy2⟩:=ih (λg hg=>h g (ξU _ hg));obtain⟨x,hx⟩:=h f ZAm;obtain⟨z,hz,hz2⟩:=hE.2 enc w fuel _ _ hx;rw[hE.1,ho]at hz;refine⟨(z,y),?_,X.okL_append.2 ⟨hz2,hy2⟩⟩;show ZBC w (c.enc z++d.enc y) ((cs.drop off).take (c.n+d.n));rw[List.take_add,ZMR];exact hz.append hy
theorem ZGt{α:Type}{c:RC α}{fs:Array Field}(hT:P.underlying T=some (.struct fs))(hc:P.cellsOf T=c.n)(hf:FieldsO P fs.toList 0 c):ZHp P T c:=by
 refine⟨hc,λ{H} enc w fuel cs x h=> ?_⟩;obtain⟨xs,n,rfl,_,hl,hxl,hx⟩:=DataW.trod_struct hT h;obtain⟨y,hy⟩:=ZSh hf enc w n cs (λf hf=>by
  obtain⟨i,hi⟩:=ZFA.1 hf;have hi':fs[i]? =some f:=Um
  have h1:=hx i f hi';have hlt:i<xs.length:=by rw[hxl];exact(ξH hi').1
  rw[Zw hlt]at h1;exact⟨_,h1⟩)
 refine⟨y,?_⟩;rw[ZCG,YR J0]at hy;exact hy
inductive VF (E:Env) (os:J7):J8->List Value->Prop
 |nil:VF E os [] []
 |cons {d:D} {v:Value} {ds:J8} {l:List Value} (h:V E os d v) (t:VF E os ds l):VF E os (d::ds) (v::l)
theorem VL.mk{E:Env}{os:J7}: ∀ {ds:J8} {l:List Value},VF E os ds l->VL E os ds l.toArray
 |_,_,.nil=>⟨rfl,λj d v h=>WE⟩
 |_,_,.cons (d:=d) (v:=v) (ds:=ds) (l:=l) h t=>by
  have ih:=VL.mk t;refine⟨by have:=ih.1;simp at this|-;exact this,λj d' v' hd hv=> ?_⟩;cases j with
  |zero=>simp at hd hv;subst hd;subst hv;exact h
  |succ j=>exact ih.2 j d' v' (by simpa using hd) UB
abbrev Zin(w:World):Env:=⟨w,λb _=>b<w.heap.size,[]⟩
theorem V.lies1{x:X}{v:Value}(h:ZBC w [x] [v]):V (Zin w) [] (.x x) v:= .x (h.2 0 x v rfl rfl)
theorem ZL.law{f:FuncId}{args:J8}(h:ZL P f args (.x (.bool true))){vs:List Value}(hvl:VF (Zin w) [] args vs):Calls P f vs.toArray w λe w'=>e= .returned (.bool true)/\Ext w w':=by
 refine(h w (λb _=>b<w.heap.size) vs.toArray (λ_ _ hb=>hb) (VL.mk hvl)).mono ?_;rintro e w' ⟨v,st',rfl,hk,_,_,hv⟩;rw[V.bool hv];exact⟨rfl,hk.os,hk.tape,hk.output,hk.size,λk hb=>hk.block k hb (λh=>h)⟩
end
def YN(S:Tabs):Bool->J4->J7->List IOp->Option (Bool×List (Nat×D)×J7)
 |b,φ,os,[]=>some (b,φ,os)
 |b,φ,os,o::l=>match JM S φ os o with
  |some r=>YN S (b&&r.1) r.2.1 r.2.2 l
  |none=>none
theorem ZGc(S:Tabs): ∀(l:List IOp) (b:Bool) (φ:J4) (os:J7),YN S b φ os l=(QJ S φ os l).map λq=>(b&&q.1,q.2)
 | [],b,φ,os=>by simp[YN,QJ]
 |o::l,b,φ,os=>by
  simp only[YN,QJ];cases JM S φ os o with
  |none=>rfl
  |some r=>
   simp only[ZA9,ZGc S l];cases QJ S r.2.1 r.2.2 l with
   |none=>rfl
   |some q=>simp[ZKW]
def Yj(S:Tabs)(os0:J7)(k:Nat)(rs:W0):Nat->Bool->J4->Nat->J7->J7->Option J7->List IOp->Option (Bool×List (Nat×D)×J7)
 |_,b,φ,_,_,C,last,[]=>some (b,φ,last.getD (os0++C))
 |i,b,φ,id,os,C,last,o::l=>
  if o.e.frame then match Ye S φ [] o with
   |some r=>Yj S os0 k rs (i+1) (b&&r.1) (putO φ o.dst r.2) id os C last l
   |none=>none
  else if Zh i rs then match Ye S φ os0 o with
   |some r=>Yj S os0 k rs (i+1) (b&&r.1) (putO φ o.dst r.2) id os C last l
   |none=>none
  else if i<k then match Ye S φ os0 o with
   |some r=>Yj S os0 k rs (i+1) (b&&r.1) (putO φ o.dst r.2) id os C last l
   |none=>match ZFk φ os o with
    |some r=>Yj S os0 k rs (i+1) (b&&r.1) (putO φ o.dst r.2) id os C last l
    |none=>match QB S φ os0 id o with
     |some r=>Yj S os0 k rs (i+1) (b&&r.1) (putO φ o.dst r.2.1) (id+1) (os++ [r.2.2]) (C++ [r.2.2]) last l
     |none=>none
  else match KO S φ os o with
   |some r=>Yj S os0 k rs (i+1) (b&&(r.1&&(match rs with| []=>true|_=>KW os0 r.2.2))) (putO φ o.dst r.2.1) id r.2.2 C (some r.2.2) l
   |none=>none
theorem ZF6(rs:W0)(os0:J7)(G):ZMy rs os0 (none::G)=ZMy rs os0 G:=by cases rs<;>rfl
theorem Zao(rs:W0)(os0:J7)(x:J7)(G):ZMy rs os0 (some x::G)=((match rs with| []=>true|_=>KW os0 x)&&ZMy rs os0 G):=by cases rs<;>rfl
theorem Jy(G:List (Option J7))(i:Nat)(b:J7):Zs (none::G) (λ_=>true) i b=Zs G (λ_=>true) 0 b:=by
 simp only[Zs];exact ZAt _ _ _ _ _ (λ_ _ _=>rfl)|>.trans (by
  have: ∀(G:List (Option J7)) (i j:Nat) (b:J7),Zs G (λ_=>true) i b=Zs G (λ_=>true) j b:=by
   intro G
   induction G with
   |nil=>intro i j b;rfl
   |cons x G ih=>intro i j b;cases x<;>simp only[Zs]<;>exact ih _ _ _
  exact this _ _ _ _)
theorem ZHk(G:List (Option J7))(i:Nat)(b x:J7):Zs (some x::G) (λ_=>true) i b=Zs G (λ_=>true) 0 x:=by
 have: ∀(G:List (Option J7)) (i j:Nat) (b:J7),Zs G (λ_=>true) i b=Zs G (λ_=>true) j b:=by
  intro G
  induction G with
  |nil=>intro i j b;rfl
  |cons x G ih=>intro i j b;cases x<;>simp only[Zs]<;>exact ih _ _ _
 simp only[Zs,if_true];exact this _ _ _ _
theorem ZEC(S:Tabs)(os0:J7)(k:Nat)(rs:W0): ∀(l:List IOp) (i:Nat) (b:Bool) (φ:J4) (id:Nat) (os C:J7) (last:Option J7),
  Yj S os0 k rs i b φ id os C last l=(Ku S os0 k rs i φ id os l).map λq=>(b&&(q.1&&ZMy rs os0 q.2.2),Yb φ q.2.1,Zs q.2.2 (λ_=>true) 0 (last.getD (os0++C++Yd q.2.1)))
 | [],i,b,φ,id,os,C,last=>by
  have:ZMy rs os0 []=true:=by cases rs<;>rfl
  simp[Yj,Ku,Yb,Yd,Zs,this]
 |o::l,i,b,φ,id,os,C,last=>by
  simp only[Yj,Ku];split
  .cases Ye S φ [] o with
   |none=>rfl
   |some r=>
    simp only[ZA9,ZEC S os0 k rs l];cases Ku S os0 k rs (i+1) (putO φ o.dst r.2) id os l with
    |none=>rfl
    |some q=>exact Xh
  .split
   .cases Ye S φ os0 o with
    |none=>rfl
    |some r=>
     simp only[ZA9,ZEC S os0 k rs l];cases Ku S os0 k rs (i+1) (putO φ o.dst r.2) id os l with
     |none=>rfl
     |some q=>exact Xh
   .split
    .cases Ye S φ os0 o with
     |some r=>
      simp only[ZEC S os0 k rs l];cases Ku S os0 k rs (i+1) (putO φ o.dst r.2) id os l with
      |none=>rfl
      |some q=>exact Xh
     |none=>
      cases ZFk φ os o with
      |some r=>
       simp only[ZEC S os0 k rs l];cases Ku S os0 k rs (i+1) (putO φ o.dst r.2) id os l with
       |none=>rfl
       |some q=>exact Xh
      |none=>
       cases QB S φ os0 id o with
       |none=>rfl
       |some r=>
        simp only[ZA9,ZEC S os0 k rs l];cases Ku S os0 k rs (i+1) (putO φ o.dst r.2.1) (id+1) (os++ [r.2.2]) l with
        |none=>rfl
        |some q=>simp only[Yq,ZKW,Yb,Yd,ZF6,Jy,Ys,ξZ,QY]
    .cases KO S φ os o with
     |none=>rfl
     |some r=>
      simp only[ZA9,ZEC S os0 k rs l];cases Ku S os0 k rs (i+1) (putO φ o.dst r.2.1) id r.2.2 l with
      |none=>rfl
      |some q=>simp only[Yq,ZKW,Yb,Yd,Zao,ZHk,ξY];exact Hp
section
variable {P:Program} {c:Ctx} {E0:Env} {os0 os:J7} {n:Nat} {Q:Exit->J4->J7->Prop} {φ:J4}
theorem WI.regA{S:Tabs}(hS:SsOk P S)(ks:W0){l:List IOp}(h: ∀K:J4->J7->Prop,(∀φ' os',Q .normal φ' os'->K φ' os')->Ym (YN S true φ os l) (λφ' os'=>K (Go.Ab.keep ks φ') os')):WI P c E0 os0 n (.reg l) Q φ os:=
 WI.regK hS ks (λK hK=>by
  have:=h K hK;rw[ZGc]at this;obtain⟨ok,φ',os',h1,h2,h3⟩:=this;obtain⟨⟨ok2,q⟩,h4,h5⟩:=Zc h1;simp at h5;obtain⟨rfl,rfl⟩:=h5;exact⟨_,_,_,h4,h2,h3⟩)
theorem WI.dregA{S:Tabs}(hS:SsOk P S)(ks:W0){k k2:Nat}{rs rs2:W0}{l:List IOp}(h: ∀K:J4->J7->Prop,(∀φ' os',Q .normal φ' os'->K φ' os')->Ym (Yj S os k rs 0 true φ os.length os [] none l) (λφ' os'=>K (Go.Ab.keep ks φ') os')):WI P c E0 os0 n (.dreg k rs k2 rs2 l) Q φ os:=by
 have:=h _ (λ_ _ h=>h);rw[ZEC]at this;obtain⟨ok,φ',os',h1,h2,h3⟩:=this;obtain⟨q,h4,h5⟩:=Zc h1;simp at h5;obtain⟨h5,rfl,rfl⟩:=h5;exact WI.dreg' (m:=none) hS (.inl (by simp only[ZHZ,ZNQ,h4,Yq])) (h5.trans h2) h3 (λ_ _ f=>f.keep ks)
end
theorem ZQh(φ:J4): ∀(ts:W0) (t:Nat),get (ts.map λu=>(u,get φ u)) t=get φ t\/get (ts.map λu=>(u,get φ u)) t= .und
 | [],t=> .inr rfl
 |u::ts,t=>by
  simp only[YO,get];split
  .rename_i h;subst h;exact NK
  .exact ZQh φ ts t
theorem WI.order{P:Program}{c:Ctx}{E0:Env}{os0 os:J7}{n:Nat}{Q:Exit->J4->J7->Prop}{φ:J4}{ic:IC}(ts:W0)(h:WI P c E0 os0 n ic Q (ts.map λu=>(u,get φ u)) os):WI P c E0 os0 n ic Q φ os:=
 WI.weak (λE _ R hf=>⟨E,rfl,R,hf.size,hf.defers,λt=>by
  rcases ZQh φ ts t with h|h
  .rw[h];exact hf.slot t
  .rw[h];exact .und _⟩) h
mutual
theorem X.beq_refl: ∀x:X,X.beq x x=true
 | .int k n=>by simp[X.beq]
 | .bool a=>by simp[X.beq]
 | .str s=>by simp[X.beq]
 | .nilp=>rfl
 | .nils=>rfl
 | .sl a=>by simp only[X.beq];exact X.beqR_refl a
theorem X.beqR_refl: ∀a:J6,X.beqR a a=true
 | []=>rfl
 |r::l=>by simp only[X.beqR,Zj];exact⟨X.beqL_refl r,X.beqR_refl l⟩
theorem X.beqL_refl: ∀a:J9,X.beqL a a=true
 | []=>rfl
 |x::l=>by simp only[X.beqL,Zj];exact⟨X.beq_refl x,X.beqL_refl l⟩
end
mutual
theorem D.beq_refl: ∀d:D,D.beq d d=true
 | .x a=>by simp only[D.beq];exact X.beq_refl a
 | .ref a b c d=>Nz
 | .ptr a b=>Nz
 | .eptr a b c d=>Nz
 | .vptr a=>by simp only[D.beq];exact X.beqL_refl a
 | .mref a=>Nz
 | .mnil=>rfl
 | .iref a b=>Nz
 | .stk a b=>Nz
 | .bref a b c=>Nz
 | .agg a=>by simp only[D.beq];exact D.beqL_refl a
 | .tup a=>by simp only[D.beq];exact D.beqL_refl a
 | .full a=>by simp only[D.beq];exact X.beqR_refl a
 | .nz a=>by simp only[D.beq];exact X.beqR_refl a
 | .fn f a=>by simp only[D.beq,Zj];exact⟨J1,D.beqL_refl a⟩
 | .opt a d=>by simp only[D.beq,Zj];exact⟨J1,D.beq_refl d⟩
 | .und=>rfl
theorem D.beqL_refl: ∀a:J8,D.beqL a a=true
 | []=>rfl
 |e::l=>by simp only[D.beqL,Zj];exact⟨D.beq_refl e,D.beqL_refl l⟩
end
theorem beqR_refl: ∀a:List J8,beqR a a=true
 | []=>rfl
 |r::l=>by simp only[beqR,Zj];exact⟨D.beqL_refl r,beqR_refl l⟩
theorem ZQW(p:Pr):ZPv p p=true:=by simp only[ZPv,Zj];exact⟨X.beqL_refl p.1,D.beqL_refl p.2⟩
theorem ZEW: ∀a:W2,ZHG a a=true
 | []=>rfl
 |p::l=>by simp only[ZHG,Zj];exact⟨ZQW p,ZEW l⟩
theorem Zam: ∀a:Option Pr,ZbK a a=true
 |none=>rfl
 |some p=>ZQW p
theorem ZNz: ∀a:List W2,ZI7 a a=true
 | []=>rfl
 |p::l=>by simp only[ZI7,Zj];exact⟨ZEW p,ZNz l⟩
theorem ZPy: ∀a:List (X×J6),ZMe a a=true
 | []=>rfl
 |p::l=>by simp only[ZMe,Zj];exact⟨X.beq_refl p.1,X.beqR_refl p.2,ZPy l⟩
theorem Ob.beq_refl(o:Ob):Ob.beq o o=true:=by
 cases o with
 |box ds=>simp only[Ob.beq];exact D.beqL_refl ds
 |rows f e s rs=>simp only[Ob.beq,Zj];exact⟨J1,ZEa e,ZEa s,X.beqR_refl rs⟩
 |drw e s rs=>simp only[Ob.beq,Zj];exact⟨ZEa e,ZEa s,beqR_refl rs⟩
 |frz s rs=>simp only[Ob.beq,Zj];exact⟨ZEa s,X.beqR_refl rs⟩
 |mpo dk ag l=>simp only[Ob.beq,Zj];exact⟨J1,J1,ZEW l⟩
 |mit dk ag l it R cur=>simp only[Ob.beq,Zj];exact⟨J1,J1,ZEW l,ZEa it,ZEW R,Zam cur⟩
 |mpn dk ag l key sid=>simp only[Ob.beq,Zj];exact⟨J1,J1,ZEW l,X.beqL_refl key,ZEa sid⟩
 |itr=>rfl
 |stp=>rfl
 |nit=>rfl
 |sit s pos=>simp only[Ob.beq,Zj];exact⟨J1,ZEa pos⟩
 |old s n=>simp only[Ob.beq,Zj];exact⟨ZEa s,ZEa n⟩
 |fam k P B=>simp only[Ob.beq,Zj];exact⟨ZEa k,ZNz P,ZPy B⟩
 |dead=>rfl
def ZAD(φ:J4):Option IO->Option D
 |none=>none
 |some l=>some (ZG φ l)
def KD(dx:D)(lo hi mx:Option D):J5:=
 match dx.val with
 | .x (.str s)=>match lo,hi,mx with
  |none,none,none=>some (dx.cond,.x (.str s))
  |some l,none,none=>(ZD l.val).map λ(n:Int)=>(dx.cond&&(l.cond&&(decide (0<=n)&&decide (n<=s.length))),.x (.str (s.drop n.toNat)))
  |none,some h,none=>(ZD h.val).map λ(m:Int)=>(dx.cond&&(h.cond&&(decide (0<=m)&&decide (m<=s.length))),.x (.str (s.take m.toNat)))
  |some l,some h,none=>(ZD l.val).bind λ(n:Int)=>(ZD h.val).map λ(m:Int)=>(dx.cond&&((l.cond&&h.cond)&&(decide (0<=n)&&(decide (n<=m)&&decide (m<=s.length)))),.x (.str ((s.take m.toNat).drop n.toNat)))
  |_,_,_=>none
 |_=>none
def Ko(os:J7)(sz:Nat)(dx:D)(lo hi mx:Option D):J5:=
 match dx.val with
 | .x .nils=>(KH (lo)).bind λp=>(KH (hi)).bind λq=>(KH (mx)).map λr=>(dx.cond&&((mx.isNone||hi.isSome)&&(p&&(q&&r))),.x .nils)
 | .x (.sl rs)=>match lo,hi,mx with
  |none,none,none=>some (dx.cond,.x (.sl rs))
  |some l,none,none=>(ZD l.val).map λ(n:Int)=>(dx.cond&&(l.cond&&(decide (0<=n)&&(decide (n<=rs.length)&&rs.all λr=>decide (r.length=sz)))),.x (.sl (rs.drop n.toNat)))
  |none,some h,none=>(ZD h.val).map λ(m:Int)=>(dx.cond&&(h.cond&&(decide (0<=m)&&(decide (m<=rs.length)&&rs.all λr=>decide (r.length=sz)))),.x (.sl (rs.take m.toNat)))
  |some l,some h,none=>(ZD l.val).bind λ(n:Int)=>(ZD h.val).map λ(m:Int)=>(dx.cond&&((l.cond&&h.cond)&&(decide (0<=n)&&(decide (n<=m)&&(decide (m<=rs.length)&&rs.all λr=>decide (r.length=sz))))),.x (.sl ((rs.take m.toNat).drop n.toNat)))
  |l,some h,some mi=>(KH l).bind λz=>(ZD h.val).bind λ(n:Int)=>(ZD mi.val).map λ(m:Int)=>(dx.cond&&(z&&(h.cond&&(mi.cond&&(decide (0<=n)&&(decide (n<=rs.length)&&(decide (n=m)&&rs.all λr=>decide (r.length=sz))))))),.full (rs.take n.toNat))
  |_,_,_=>none
 | .ref id ext off len=>match os[id]? with
  |some o=>match o.slice? with
   |some (sz',rs)=>match lo,hi,mx with
    |some l,none,none=>(ZD l.val).map λ(n:Int)=>(dx.cond&&(l.cond&&(decide (sz'=sz)&&(decide (rs.length=ext)&&(decide (0<=n)&&decide (n<=len))))),.ref id ext (off+n.toNat) (len-n.toNat))
    |none,some h,none=>(ZD h.val).map λ(m:Int)=>(dx.cond&&(h.cond&&(decide (sz'=sz)&&(decide (rs.length=ext)&&(decide (0<=m)&&decide (m<=len))))),.ref id ext off m.toNat)
    |some l,some h,none=>(ZD l.val).bind λ(n:Int)=>(ZD h.val).map λ(m:Int)=>(dx.cond&&((l.cond&&h.cond)&&(decide (sz'=sz)&&(decide (rs.length=ext)&&(decide (0<=n)&&(decide (n<=m)&&decide (m<=len)))))),.ref id ext (off+n.toNat) (m.toNat-n.toNat))
    |_,_,_=>none
   |none=>none
  |none=>none
 |_=>none
theorem ZHi(φ:J4)(x:IO)(lo hi mx:Option IO):ZIf φ x lo hi mx=KD (ZG φ x) (ZAD φ lo) (ZAD φ hi) (ZAD φ mx):=by
 cases lo<;>cases hi<;>cases mx<;>rfl
theorem ZJF(φ:J4)(os:J7)(sz:Nat)(x:IO)(lo hi mx:Option IO):ZJX φ os sz x lo hi mx=Ko os sz (ZG φ x) (ZAD φ lo) (ZAD φ hi) (ZAD φ mx):=by
 cases lo<;>cases hi<;>cases mx<;>rfl
def ZBl(φ:J4):List IO->J8
 | []=> []
 |y::ys=>(ZG φ y).val::ZBl φ ys
def ZAd(φ:J4):List IO->Bool
 | []=>true
 |y::ys=>(ZG φ y).cond&&ZAd φ ys
theorem ZHT(φ:J4): ∀l,(l.map λy=>(ZG φ y).val)=ZBl φ l
 | []=>rfl
 |y::ys=>by simp[ZBl,ZHT φ ys]
theorem ZGZ(φ:J4): ∀l:List IO,(l.all λy=>(ZG φ y).cond)=ZAd φ l
 | []=>rfl
 |y::ys=>by simp[ZAd,ZGZ φ ys]
def ZCT(T:FuncId->J8->J7->Option (Bool×D×J7))(df:D)(vs:J8)(cs:Bool)(os:J7):Option (Bool×D×J7):=match df.val with
 | .fn g caps=>(T g (vs++caps) os).map λr=>(df.cond&&(cs&&r.1),r.2)
 |_=>none
def ZCZ(T:FuncId->J8->J7->J5)(df:D)(vs:J8)(cs:Bool)(os:J7):J5:=match df.val with
 | .fn g caps=>(T g (vs++caps) os).map λr=>(df.cond&&(cs&&r.1),r.2)
 |_=>none
def ZCS(T:FuncId->J8->J7->Option (Bool×(Nat->D)×Ob))(df:D)(vs:J8)(cs:Bool)(os:J7)(id:Nat):Option (Bool×D×Ob):=match df.val with
 | .fn g caps=>(T g (vs++caps) os).map λr=>(df.cond&&(cs&&r.1),r.2.1 id,r.2.2)
 |_=>none
theorem ZS8(T:FuncId->J8->J7->Option (Bool×D×J7))(φ:J4)(os:J7)(e:IE):ZHu T φ os e=match e with
  | .call f xs=>ZCT T (ZG φ f) (ZBl φ xs) (ZAd φ xs) os
  |_=>none:=by
 cases e<;>first|rfl|skip
 simp only[ZHu,ZHT,ZGZ,ZCT];exact XB
theorem ZSr(T:FuncId->J8->J7->J5)(φ:J4)(os:J7)(e:IE):ZC0 T φ os e=match e with
  | .call f xs=>ZCZ T (ZG φ f) (ZBl φ xs) (ZAd φ xs) os
  |_=>none:=by
 cases e<;>first|rfl|skip
 simp only[ZC0,ZHT,ZGZ,ZCZ];exact XB
theorem ZRy(T:FuncId->J8->J7->Option (Bool×(Nat->D)×Ob))(φ:J4)(os:J7)(id:Nat)(e:IE):ZFm T φ os id e=match e with
  | .call f xs=>ZCS T (ZG φ f) (ZBl φ xs) (ZAd φ xs) os id
  |_=>none:=by
 cases e<;>first|rfl|skip
 simp only[ZFm,ZHT,ZGZ,ZCS];exact XB
section
variable {S:Tabs} {os0 os C:J7} {k i id:Nat} {rs:W0} {φ φ':J4} {os':J7} {last:Option J7} {o:IOp} {l:List IOp} {ok:Bool} {d:D} {ob:Ob} {K:J4->J7->Prop}
theorem ZOl(s:List UInt8):(s.map Zv).take s.length=s.map Zv:=YR J1
theorem ZSn(l:List (List UInt8))(w:List UInt8):rows ZC l++ [[X.str w]]=rows ZC (l++ [w]):=ZCD ZC l [w]
theorem ZRA(s:List UInt8)(i:Nat)(h:i<s.length):(s.map Zv)[i]? =some [X.int .u8 (s[i].toNat:Int)]:=by simp[Zv,h]
theorem ZQS(s:List UInt8):(s.map Zv).length=s.length:=Yc ..
theorem QQ(s:List UInt8):(s.map Zv).map ZFS=s:=by
 rw[Jv]
 conv=>rhs;rw[<-ZPA s]
 refine ZBz (λb _=> ?_);simp[ZFS,Zv]
theorem JO(s:List UInt8):((s.map Zv).all ZGE)=true:=by
 rw[Yg];intro r hr;obtain⟨b,_,rfl⟩:=YS.1 hr;rfl
theorem ZaR{α:Type}(c:RC α):ZM c []=some []:=rfl
theorem ZIm(n:Nat):Nat.beq n n=true:=ZEa n
theorem ZNT(m n:Nat)(h:m≠n):Nat.beq m n=false:=by
 cases hb:Nat.beq m n with
 |false=>rfl
 |true=>exact absurd (ZNH hb) h
theorem ZZz(b:Bool):(b||b==false)=true:=by cases b<;>rfl
theorem ZVj(dk:KK)(ag:Bool)(l:W2):(Ob.mpo dk ag l).map? =some (dk,ag,l):=rfl
theorem ZVw(dk:KK)(ag:Bool)(l:W2)(it:Nat)(R:W2)(cur:Option Pr):(Ob.mit dk ag l it R cur).map? =some (dk,ag,l):=rfl
theorem ZU1(dk:KK)(ag:Bool)(l:W2)(key:J9)(sid:Nat):(Ob.mpn dk ag l key sid).map? =some (dk,ag,l):=rfl
theorem ZV9(dk:KK)(ag:Bool)(l:W2):(Ob.mpo dk ag l).upd? =some (dk,ag,l):=rfl
theorem ZWI(dk:KK)(ag:Bool)(l:W2)(key:J9)(sid:Nat):(Ob.mpn dk ag l key sid).upd? =some (dk,ag,l):=rfl
theorem ZV2(k:IntKind)(n:Int):QU (.int k) (.x (.int k n))=some [.int k n]:=by simp[QU]
theorem ZWM(s:List UInt8):QU .str (.x (.str s))=some [.str s]:=rfl
theorem ZTb(k:IntKind)(n:Int):keyD (.int k) [.int k n]= .x (.int k n):=rfl
theorem ZRq(s:List UInt8):keyD .str [.str s]= .x (.str s):=rfl
theorem ZUF(d:D):ZFq false [d]=d:=rfl
theorem ZVN(ds:J8):ZFq true ds= .agg ds:=rfl
theorem ZiJ(y:X):agD (.x y)=false:=rfl
theorem ZaG(ds:J8):agD (.agg ds)=true:=rfl
theorem Zai(a b c d:Nat):agD (.ref a b c d)=false:=rfl
theorem ZYq(a b:Nat):agD (.ptr a b)=false:=rfl
theorem ZWR(a:Nat):agD (.mref a)=false:=rfl
theorem Zh9(k:KK):(k=k)=True:=eq_self k
theorem ZiW(b:Bool):(b=b)=True:=eq_self b
theorem ZiY(b:Nat):(b=b)=True:=eq_self b
theorem ZTf(k:J9):Jz [] k=none:=rfl
def Zhz(N it:Nat)(_:J4)(os:J7):Nat:=match os[it]? with|some (.sit _ p)=>N-p|_=>0
def ZO4(mid:Nat)(_:J4)(os:J7):Nat:=match os[mid]? with|some (.mit _ _ _ _ R _)=>R.length|_=>0
theorem osN(h:K φ os):Ym (YN S true φ os []) K:=⟨true,φ,os,rfl,rfl,h⟩
theorem osS(he:JM S φ os o=some (ok,φ',os'))(hok:ok=true)(h:Ym (YN S true φ' os' l) K):Ym (YN S true φ os (o::l)) K:=by
 subst hok;simp only[YN,he,QX];exact h
theorem dsN(h:K φ (last.getD (os0++C))):Ym (Yj S os0 k rs i true φ id os C last []) K:=⟨true,φ,_,rfl,rfl,h⟩
theorem dsF(hf:o.e.frame=true)(he:(Ye S φ [] o).map (λr=>(r.1,putO φ o.dst r.2))=some (ok,φ'))(hok:ok=true)(h:Ym (Yj S os0 k rs (i+1) true φ' id os C last l) K):Ym (Yj S os0 k rs i true φ id os C last (o::l)) K:=by
 subst hok;obtain⟨r,h1,h2⟩:=Zc he;simp only[YP]at h2;obtain⟨h2,rfl⟩:=h2;simp only[Yj,hf,if_true,h1,h2,QX];exact h
theorem dsQ(hf:o.e.frame=false)(hm:Zh i rs=false)(hk:Nat.ble (i+1) k=true)(he:(Ye S φ os0 o).map (λr=>(r.1,putO φ o.dst r.2))=some (ok,φ'))(hok:ok=true)(h:Ym (Yj S os0 k rs (i+1) true φ' id os C last l) K):Ym (Yj S os0 k rs i true φ id os C last (o::l)) K:=by
 subst hok;obtain⟨r,h1,h2⟩:=Zc he;simp only[YP]at h2;obtain⟨h2,rfl⟩:=h2;have hk':i<k:=ξ hk;simp only[Yj,hf,hm,if_true,h1,h2,hk',QX,Je,if_false];exact h
theorem ZZB{S:Tabs}{φ:J4}{os0 os:J7}{id:Nat}{o:IOp}{r:Bool×D×Ob}(h:QB S φ os0 id o=some r):ZFk φ os o=none:=by
 obtain⟨dst,e,g⟩:=o;cases g with
 |some p=>rfl
 |none=>
  cases e with
  |b2s x=>simp[QB,evC,QW,ZFm]at h
  |_=>rfl
theorem dsK(hf:o.e.frame=false)(hm:Zh i rs=false)(hk:Nat.ble (i+1) k=true)(hn:Ye S φ os0 o=none)(he:(QB S φ os0 id o).map (λr=>(r.1,putO φ o.dst r.2.1,r.2.2))=some (ok,φ',ob))(hok:ok=true)(h:Ym (Yj S os0 k rs (i+1) true φ' (id+1) (os++ [ob]) (C++ [ob]) last l) K):Ym (Yj S os0 k rs i true φ id os C last (o::l)) K:=by
 subst hok;obtain⟨r,h1,h2⟩:=Zc he;simp only[YP]at h2;obtain⟨h2,rfl,rfl⟩:=h2;have hk':i<k:=ξ hk;simp only[Yj,hf,hm,if_true,hn,ZZB h1,h1,h2,hk',QX,Je,if_false];exact h
theorem dsA(hf:o.e.frame=false)(hm:Zh i rs=false)(hk:Nat.ble (i+1) k=false)(he:(KO S φ os o).map (λr=>(r.1&&(match rs with| []=>true|_=>KW os0 r.2.2),putO φ o.dst r.2.1,r.2.2))=some (ok,φ',os'))(hok:ok=true)(h:Ym (Yj S os0 k rs (i+1) true φ' id os' C (some os') l) K):Ym (Yj S os0 k rs i true φ id os C last (o::l)) K:=by
 subst hok;obtain⟨r,h1,h2⟩:=Zc he;simp only[YP]at h2;obtain⟨h2,rfl,rfl⟩:=h2;have hk': ¬i<k:=λh=>Nb
 simp only[Yj,hf,hm,h1,h2,hk',ZAk,Je,if_false];exact h
end
section
variable {κ β:Type} (kc:κ->J9) (vc:β->J9)
def Yw(L:List (κ×β)):W2:=L.map λp=>(kc p.1,(vc p.2).map D.x)
theorem ZI9(L:List (κ×β)):(Yw kc vc L).length=L.length:=by simp[Yw]
theorem Zf3(L:List (κ×β))(i:Nat):(Yw kc vc L)[i]? =(L[i]?).map λp=>(kc p.1,(vc p.2).map D.x):=by simp[Yw]
theorem Zgr(f:Nat->Nat)(l:J9):YA f (l.map D.x)=l.map D.x:=by
 rw[QO,Jv];rfl
theorem Zjd(p:Nat->Bool)(l:J9):JB p (l.map D.x)=true:=by
 rw[ZBv,Yg];intro d hd;obtain⟨x,_,rfl⟩:=YS.1 hd;rfl
theorem ZhI(l:J9):Jw (l.map D.x)= []:=by
 induction l with
 |nil=>rfl
 |cons x l ih=>simp only[YO,Jw,ZFa,ih];rfl
theorem ZkI(ρ:W0)(os:J7)(l:J9):(l.map D.x).map (onF ρ os)=l.map D.x:=by
 rw[Jv];refine ZBz λx _=> ?_
 simp only[Function.comp,onF,D.vw,D.on,D.inP,if_true]
theorem ZAX(f:Nat->Nat)(L:List (κ×β)):(Yw kc vc L).map (Ji f)=Yw kc vc L:=by
 rw[Yw,Jv];refine ZBz λp _=> ?_
 simp only[Function.comp,Ji,Zgr]
theorem ZDP(L:List (κ×β)):ZCJ (Yw kc vc L)= []:=by
 induction L with
 |nil=>rfl
 |cons p L ih=>simp only[Yw,YO,ZCJ,ZhI]at ih|-;exact ih
theorem Qy(p:Nat->Bool)(L:List (κ×β)):(Yw kc vc L).all (Qz p)=true:=by
 rw[Yg];intro q hq;obtain⟨r,_,rfl⟩:=YS.1 hq;exact Zjd p _
theorem ZFT(ρ:W0)(os:J7)(L:List (κ×β)):(Yw kc vc L).map (mpP (onF ρ os))=Yw kc vc L:=by
 rw[Yw,Jv];refine ZBz λp _=> ?_
 simp only[Function.comp,mpP,ZkI]
theorem ZJl(L:List (κ×β))(i:Nat):(Yw kc vc L).eraseIdx i=Yw kc vc (L.eraseIdx i):=by
 induction L generalizing i with
 |nil=>rfl
 |cons p L ih=>cases i with
  |zero=>rfl
  |succ i=>simp only[Yw,YO,Zcw]at ih|-;rw[ih]
variable [DecidableEq κ] (hk: ∀a b:κ,ZCq (kc a) (kc b)=decide (a=b))
include hk
theorem ZFG(L:List (κ×β))(c:κ):Jz (Yw kc vc L) (kc c)=(ZH L c).map λv=>(vc v).map D.x:=by
 induction L with
 |nil=>rfl
 |cons p L ih=>
  simp only[Yw,YO,Jz,hk]at ih|-;by_cases h:c=p.1
  .simp[ZH,h]
  .simp only[h,decide_false,Je,if_false];rw[ih];simp[ZH,h]
theorem ZEK(L:List (κ×β))(c:κ)(v:β):Yp (Yw kc vc L) (kc c) ((vc v).map D.x)=Yw kc vc (Zy L c v):=by
 induction L with
 |nil=>rfl
 |cons p L ih=>
  simp only[Yw,YO,Yp,hk,Zy]at ih|-;by_cases h:c=p.1
  .simp[h]
  .simp only[h,decide_false,Je,if_false];rw[ih];simp
theorem Zb4(L:List (κ×β))(c:κ):ZCO (Yw kc vc L) (kc c)=Yw kc vc (Zk L c):=by
 induction L with
 |nil=>rfl
 |cons p L ih=>
  simp only[Yw,YO,ZCO,hk,Zk]at ih|-;by_cases h:c=p.1
  .simp[h]
  .simp only[h,decide_false,Je,if_false];rw[ih];simp
end
def unM{κ β:Type}(c:RC κ)(d:RC β):W2->Option (List (κ×β))
 | []=>some []
 |q::M=>(c.dec q.1).bind λa=>(ZEY q.2).bind λxs=>(d.dec xs).bind λb=>(unM c d M).map λL=>(a,b)::L
theorem ZL7: ∀l:J9,ZEY (l.map D.x)=some l
 | []=>rfl
 |x::l=>by simp only[YO,ZEY,ZL7 l,Yq]
theorem ZUP{κ β:Type}{c:RC κ}{d:RC β}(hc:c.Good)(hd:d.Good): ∀L:List (κ×β),unM c d (Yw c.enc d.enc L)=some L
 | []=>rfl
 |p::L=>by
  have ih:=ZUP hc hd L;simp only[Yw,YO,unM,hc.de,hd.de,ZL7,ZA9]at ih|-;rw[ih];rfl
theorem ZCj{κ β:Type}{c:RC κ}{d:RC β}(hc:c.Good)(hd:d.Good): ∀ {M:W2} {L:List (κ×β)},unM c d M=some L->M=Yw c.enc d.enc L
 | [],L,h=>N1
 |q::M,L,h=>by
  simp only[unM]at h;obtain⟨a,h1,h⟩:=Zg h;obtain⟨xs,h2,h⟩:=Zg h;obtain⟨b,h3,h⟩:=Zg h;obtain⟨L',h4,rfl⟩:=Zc h;have e:=ZCj hc hd h4;obtain⟨q1,q2⟩:=q;simp only at h1 h2;rw[e,ZH5 h2];rw[<-hc.ed _ _ h1,<-hd.ed _ _ h3];rfl
abbrev kcI(n:Int):J9:= [.int .i64 n]
abbrev Ks(s:List UInt8):J9:= [.str s]
theorem hkS(a b:List UInt8):ZCq (Ks a) (Ks b)=decide (a=b):=by
 simp only[Ks,ZCq,X.keq,QX];rw[QZ];simp
section
variable {κ β:Type} [DecidableEq κ]
def ZIa(L:List (κ×β)):Prop:=(L.map (·.1)).Nodup
theorem ZHS{A:List (κ×β)}(hn:ZIa A)(c:κ)(v:β):ZH A c=some v↔(c,v)∈A:=by
 refine⟨JD,λh=>ZEl hn h⟩
theorem ZXf{A B:List (κ×β)}(h:A.Perm B)(hn:ZIa A)(c:κ):ZH A c=ZH B c:=by
 have hn':ZIa B:=(h.map _).nodup_iff.1 hn;cases hA:ZH A c with
 |some v=>exact((ZHS hn' c v).2 (h.mem_iff.1 ((ZHS hn c v).1 hA))).symm
 |none=>
  cases hB:ZH B c with
  |none=>rfl
  |some v=>rw[(ZHS hn c v).2 (h.mem_iff.2 ((ZHS hn' c v).1 hB))]at hA;cases hA
theorem ZK6{A:List (κ×β)}{c:κ}{v:β}(h:ZH A c=some v):A.Perm ((c,v)::Zk A c):=by
 induction A with
 |nil=>simp[ZH]at h
 |cons p A ih=>
  by_cases e:c=p.1
  .have:ZH (p::A) c=some p.2:=by simp[ZH,e]
   rw[this]at h;cases h;have hd:Zk (p::A) c=A:=Ha
   rw[hd,e]
  .have hl:ZH (p::A) c=ZH A c:=by simp[ZH,e]
   rw[hl]at h;have hd:Zk (p::A) c=p::Zk A c:=Ha
   rw[hd];exact((ih h).cons p).trans (List.Perm.swap _ _ _)
theorem ZQK{A:List (κ×β)}{c:κ}(h:ZH A c=none):Zk A c=A:=by
 induction A with
 |nil=>rfl
 |cons p A ih=>
  by_cases e:c=p.1
  .simp[ZH,e]at h
  .have hl:ZH (p::A) c=ZH A c:=by simp[ZH,e]
   rw[hl]at h;simp[Zk,e,ih h]
theorem ZL0{A:List (κ×β)}(hn:ZIa A)(c:κ):Zk A c=A.filter λp=>decide (p.1≠c):=by
 induction A with
 |nil=>rfl
 |cons p A ih=>
  unfold ZIa at hn ih;simp only[YO,ZBE]at hn;by_cases e:c=p.1
  .have hd:Zk (p::A) c=A:=Ha
   rw[hd,ZG1,if_neg (by simp[e]),eq_comm,Zcu];intro q hq;simp only[ne_eq,Yl];intro h2;exact hn.1 (YS.2 ⟨q,hq,by rw[h2,e]⟩)
  .have hd:Zk (p::A) c=p::Zk A c:=Ha
   rw[hd,ZG1,if_pos (by simp[Ne.symm e]),ih hn.2]
theorem ZDK{A:List (κ×β)}{c:κ}{w:β}(h:ZH A c=none):Zy A c w=A++ [(c,w)]:=by
 induction A with
 |nil=>rfl
 |cons p A ih=>
  by_cases e:c=p.1
  .simp[ZH,e]at h
  .have hl:ZH (p::A) c=ZH A c:=by simp[ZH,e]
   rw[hl]at h;simp[Zy,e,ih h]
theorem ZSp{A:List (κ×β)}{c:κ}{v w:β}(h:ZH A c=some v):(Zy A c w).Perm ((c,w)::Zk A c):=by
 induction A with
 |nil=>simp[ZH]at h
 |cons p A ih=>
  by_cases e:c=p.1
  .have h1:Zy (p::A) c w=(c,w)::A:=by simp[Zy,e]
   have h2:Zk (p::A) c=A:=Ha
   rw[h1,h2]
  .have hl:ZH (p::A) c=ZH A c:=by simp[ZH,e]
   rw[hl]at h;have h1:Zy (p::A) c w=p::Zy A c w:=by simp[Zy,e]
   have h2:Zk (p::A) c=p::Zk A c:=Ha
   rw[h1,h2];exact((ih h).cons p).trans (List.Perm.swap _ _ _)
theorem ZBV(A:List (κ×β))(c:κ)(w:β):(Zy A c w).Perm ((c,w)::Zk A c):=by
 cases h:ZH A c with
 |some v=>exact ZSp h
 |none=>rw[ZDK h,ZQK h];exact List.perm_append_singleton _ _
theorem ZKy{A B:List (κ×β)}(h:A.Perm B)(hn:ZIa A)(c:κ):(Zk A c).Perm (Zk B c):=by
 rw[ZL0 hn,ZL0 ((h.map _).nodup_iff.1 hn)];exact h.filter _
theorem ZSU{A:List (κ×β)}{c:κ}{v:β}(h:ZH A c=some v):A.length=(Zk A c).length+1:=by
 have:=(ZK6 h).length_eq;exact V3
theorem Zgg(A:List (κ×β))(c:κ):(Zk A c).length<=A.length:=by
 cases h:ZH A c with
 |none=>rw[ZQK h];exact Zr _
 |some v=>have:=ZSU h;omega
end
abbrev QK(P:Program)(g:J8->J5)(f:FuncId):Prop:= ∀args r,g args=some (true,r)->ZL P f args r
abbrev TK(P:Program)(g:J8->J7->Option (Bool×D×J7))(f:FuncId):Prop:= ∀args os r os',g args os=some (true,r,os')->ZO P f args os r os'
abbrev RK(P:Program)(g:J8->J7->J5)(f:FuncId):Prop:= ∀args os r,g args os=some (true,r)->r.clean=true/\ ∃X,ZO P f args os r (os++X)
theorem un{α γ:Type}{c:RC α}(hc:c.Good){R:J6}{k:List α->Option γ}{z:γ}(h:(ZM c R).bind k=some z): ∃l,R=rows c l/\k l=some z:=by
 obtain⟨l,h1,h2⟩:=Zg h;exact⟨l,(Yo hc h1).symm,h2⟩
theorem um{κ β γ:Type}{c:RC κ}{d:RC β}(hc:c.Good)(hd:d.Good){R:W2}{k:List (κ×β)->Option γ}{z:γ}(h:(unM c d R).bind k=some z): ∃l,R=Yw c.enc d.enc l/\k l=some z:=by
 obtain⟨l,h1,h2⟩:=Zg h;exact⟨l,ZCj hc hd h1,h2⟩
section
variable {γ:Type} {z w:γ} {r0 r:D} {o0 o:J7} {p q s t:Prop} [Decidable p] [Decidable q] [Decidable s] [Decidable t]
theorem Qv(h:some (true,z)=some (true,w)):z=w:=WM
theorem Yn(h:some (decide p,z)=some (true,w)):p/\z=w:=WM
theorem fn2(h:some (decide p&&decide q,z)=some (true,w)):p/\q/\z=w:=HD
theorem fn3(h:some (decide p&&(decide q&&decide s),z)=some (true,w)):p/\q/\s/\z=w:=HD
theorem tn1(h:some (decide p,r0,o0)=some (true,r,o)):p/\r0=r/\o0=o:=WM
end
theorem zQ:(∀S f g h a,(ZEE S f g).q h a=if h=f then g a else S.q h a)/\(∀S f g,(ZEE S f g).t=S.t)/\(∀S f g,(ZEE S f g).r=S.r)/\(∀S f g,(ZEE S f g).k=S.k)/\
  (∀S f g h a o,(ZIE S f g).t h a o=if h=f then ZAl g a o else S.t h a o)/\(∀S f g,(ZIE S f g).q=S.q)/\(∀S f g,(ZIE S f g).r=S.r)/\(∀S f g,(ZIE S f g).k=S.k)/\
  (∀S f g h a o,(ZH1 S f g).t h a o=if h=f then(ZBY g a o).map λr=>(r.1,r.2,o)else S.t h a o)/\(∀S f g h a o,(ZH1 S f g).r h a o=if h=f then ZBY g a o else S.r h a o)/\(∀S f g,(ZH1 S f g).q=S.q)/\(∀S f g,(ZH1 S f g).k=S.k)/\
  (∀S f g h a o,(ZKb S f g).t h a o=if h=f then ZAl (λargs os=>(g args os).map λq=>(q.1,q.2.1,os++ [q.2.2])) a o else S.t h a o)/\(∀S f g h a o,(ZKb S f g).k h a o=if h=f then ZEB g a o else S.k h a o)/\(∀S f g,(ZKb S f g).q=S.q)/\(∀S f g,(ZKb S f g).r=S.r):=
 ⟨λ_ _ _ _ _=>rfl,λ_ _ _=>rfl,λ_ _ _=>rfl,λ_ _ _=>rfl,λ_ _ _ _ _ _=>rfl,λ_ _ _=>rfl,λ_ _ _=>rfl,λ_ _ _=>rfl,λ_ _ _ _ _ _=>rfl,λ_ _ _ _ _ _=>rfl,λ_ _ _=>rfl,λ_ _ _=>rfl,λ_ _ _ _ _ _=>rfl,λ_ _ _ _ _ _=>rfl,λ_ _ _=>rfl,λ_ _ _=>rfl⟩
theorem rk{P:Program}{f:FuncId}{args:J8}{os:J7}{r:D}(h:ZO P f args os r os)(hc:r.clean=true:=by rfl):r.clean=true/\ ∃X,ZO P f args os r (os++X):=⟨hc,[],by rw[Kg];exact h⟩
open Go Go.RowKit Go.Bo
theorem zC:type_of% @Yq.{0,0}/\type_of% @ZA9.{0,0}/\type_of% @QX/\type_of% @ZAk/\type_of% @Je:=
 ⟨@Yq.{0,0},@ZA9.{0,0},@QX,@ZAk,@Je⟩
theorem zG:type_of% @ZOy/\type_of% @ZM9/\type_of% @ZEs/\type_of% @ZGK/\type_of% @ZD5/\type_of% @ZFN/\type_of% @ZFc/\type_of% @ZFD/\type_of% @beq_self_eq_true.{0}/\type_of% @ZZz/\type_of% @ZLC/\type_of% @Bool.not_or_self/\type_of% @Bool.or_not_self/\type_of% @beq_true/\type_of% @beq_false/\type_of% @Bool.not_not:=
 ⟨@ZOy,@ZM9,@ZEs,@ZGK,@ZD5,@ZFN,@ZFc,@ZFD,@beq_self_eq_true.{0},@ZZz,@ZLC,@Bool.not_or_self,@Bool.or_not_self,@beq_true,@beq_false,@Bool.not_not⟩
theorem zL:type_of% @ZC5.{0}/\type_of% @ZBd.{0}/\type_of% @ZCG.{0}/\type_of% @ZB0.{0}/\type_of% @ZEH.{0}/\type_of% @Qm.{0}/\type_of% @List.drop_nil.{0}/\type_of% @List.take_nil.{0}/\type_of% @Yx.{0}/\type_of% @Qw.{0}/\type_of% @YO.{0,0}/\type_of% @ZAa.{0,0}/\type_of% @ξZ.{0}/\type_of% @QY.{0}/\type_of% @ZDp.{0}/\type_of% @ZCM.{0}/\type_of% @KB/\type_of% @Jk/\type_of% @if_true.{1}/\type_of% @decide_true:=
 ⟨@ZC5.{0},@ZBd.{0},@ZCG.{0},@ZB0.{0},@ZEH.{0},@Qm.{0},@List.drop_nil.{0},@List.take_nil.{0},@Yx.{0},@Qw.{0},@YO.{0,0},@ZAa.{0,0},@ξZ.{0},@QY.{0},@ZDp.{0},@ZCM.{0},@KB,@Jk,@if_true.{1},@decide_true⟩
theorem zR:type_of% @ZQ/\type_of% @ZTZ/\type_of% @ZRA/\type_of% @ZQS/\type_of% @ZRk/\type_of% @ZS6/\type_of% @ZQs/\type_of% @ZTr/\type_of% @ZVQ/\type_of% @ZTt/\type_of% @ZTm/\type_of% @ZIC/\type_of% @Int.natCast_nonneg:=
 ⟨@ZQ,@ZTZ,@ZRA,@ZQS,@ZRk,@ZS6,@ZQs,@ZTr,@ZVQ,@ZTt,@ZTm,@ZIC,@Int.natCast_nonneg⟩
theorem zB:type_of% @ZBc/\type_of% @Zj/\type_of% @ZG8/\type_of% @ZT6/\type_of% @ZWj/\type_of% @Bool.not_eq_false'/\type_of% @Yl/\type_of% @decide_eq_false_iff_not/\type_of% @ZKJ/\type_of% @gt_iff_lt.{0}/\type_of% @ge_iff_le.{0}/\type_of% @Int.not_lt/\type_of% @Int.not_le/\type_of% @bne_iff_ne.{0}/\type_of% @ne_eq.{1}/\type_of% @beq_iff_eq.{0}/\type_of% @bne_eq_false_iff_eq.{0}/\type_of% @beq_eq_false_iff_ne.{0}:=
 ⟨@ZBc,@Zj,@ZG8,@ZT6,@ZWj,@Bool.not_eq_false',@Yl,@decide_eq_false_iff_not,@ZKJ,@gt_iff_lt.{0},@ge_iff_le.{0},@Int.not_lt,@Int.not_le,@bne_iff_ne.{0},@ne_eq.{1},@beq_iff_eq.{0},@bne_eq_false_iff_eq.{0},@beq_eq_false_iff_ne.{0}⟩
theorem zF:type_of% @zL/\type_of% @zR/\type_of% @Yq.{0,0}/\type_of% @ZA9.{0,0}/\type_of% @QX/\type_of% @ZAk/\type_of% @ZCA/\type_of% @ZB8/\type_of% @ZCD/\type_of% @ZW.{0}/\type_of% @JX.{0}:=
 ⟨@zL,@zR,@Yq.{0,0},@ZA9.{0,0},@QX,@ZAk,@ZCA,@ZB8,@ZCD,@ZW.{0},@JX.{0}⟩
theorem zV:type_of% @YO.{0,0}/\type_of% @ZAa.{0,0}/\type_of% @ZC5.{0}/\type_of% @ZBd.{0}/\type_of% @ZDp.{0}/\type_of% @ZCM.{0}/\type_of% @ZH8.{0}/\type_of% @ZNB.{0}/\type_of% @KB/\type_of% @Jk/\type_of% @ZEs/\type_of% @ZGK/\type_of% @ZD5/\type_of% @ZFN/\type_of% @QX/\type_of% @ZAk/\type_of% @ZFc/\type_of% @ZFD/\type_of% @if_true.{1}/\type_of% @if_false.{1}/\type_of% @ZQ/\type_of% @ZCA/\type_of% @ZB8/\type_of% @ZCD/\type_of% @ZW.{0}/\type_of% @Yx.{0}/\type_of% @Qw.{0}/\type_of% @beq_self_eq_true.{0}/\type_of% @Je/\type_of% @ZCG.{0}/\type_of% @Nat.beq_eq/\type_of% @ZIm/\type_of% @ZNT:=
 ⟨@YO.{0,0},@ZAa.{0,0},@ZC5.{0},@ZBd.{0},@ZDp.{0},@ZCM.{0},@ZH8.{0},@ZNB.{0},@KB,@Jk,@ZEs,@ZGK,@ZD5,@ZFN,@QX,@ZAk,@ZFc,@ZFD,@if_true.{1},@if_false.{1},@ZQ,@ZCA,@ZB8,@ZCD,@ZW.{0},@Yx.{0},@Qw.{0},@beq_self_eq_true.{0},@Je,@ZCG.{0},@Nat.beq_eq,@ZIm,@ZNT⟩
theorem zW:type_of% @ZH8.{0}/\type_of% @ZNB.{0}/\type_of% @ZIm/\type_of% @ZNT/\type_of% @ZIK/\type_of% @Kg.{0}/\type_of% @Zr:=
 ⟨@ZH8.{0},@ZNB.{0},@ZIm,@ZNT,@ZIK,@Kg.{0},@Zr⟩
theorem zM:type_of% @zL/\type_of% @zG/\type_of% @zR/\type_of% @zC/\type_of% @decide_false/\type_of% @IntWalk.i64_in/\type_of% @ZHi/\type_of% @ZJF/\type_of% @ZCA/\type_of% @ZB8/\type_of% @ZCD/\type_of% @ZJI/\type_of% @ZJO/\type_of% @ZHb/\type_of% @ZGf/\type_of% @ZFl/\type_of% @QQ/\type_of% @JO/\type_of% @ZK5.{0}/\type_of% @Qd.{0,0}/\type_of% @ZHN.{0,0}/\type_of% @ZX1/\type_of% @ZXN/\type_of% @ZMh.{0}/\type_of% @ZTS.{0}/\type_of% @ZAV.{0,0,0}/\type_of% @ZOq.{0,0,0}/\type_of% @ZBA.{0}/\type_of% @KL.{0}/\type_of% @true_and/\type_of% @and_true/\type_of% @if_false.{1}/\type_of% @bne_self_eq_false.{0}/\type_of% @Qa.{0}/\type_of% @ZEM.{0}:=
 ⟨@zL,@zG,@zR,@zC,@decide_false,@IntWalk.i64_in,@ZHi,@ZJF,@ZCA,@ZB8,@ZCD,@ZJI,@ZJO,@ZHb,@ZGf,@ZFl,@QQ,@JO,@ZK5.{0},@Qd.{0,0},@ZHN.{0,0},@ZX1,@ZXN,@ZMh.{0},@ZTS.{0},@ZAV.{0,0,0},@ZOq.{0,0,0},@ZBA.{0},@KL.{0},@true_and,@and_true,@if_false.{1},@bne_self_eq_false.{0},@Qa.{0},@ZEM.{0}⟩
theorem zS:type_of% @zL/\type_of% @zG/\type_of% @zR/\type_of% @zC/\type_of% @Ob.beq_refl/\type_of% @ZMh.{0}/\type_of% @ZTS.{0}/\type_of% @QQ/\type_of% @JO/\type_of% @ZaR/\type_of% @ZJI/\type_of% @ZJO/\type_of% @ZHb/\type_of% @ZGf/\type_of% @ZFl/\type_of% @ZK5.{0}/\type_of% @ZCA/\type_of% @ZB8/\type_of% @ZCD/\type_of% @ZU7/\type_of% @ZVr/\type_of% @ZSx/\type_of% @ZP8/\type_of% @ZOU/\type_of% @ZM1.{0}/\type_of% @ξY.{0}/\type_of% @ZHi/\type_of% @ZJF/\type_of% @ZHN.{0,0}/\type_of% @Qd.{0,0}/\type_of% @Ym.some_iff/\type_of% @true_and/\type_of% @and_true/\type_of% @if_false.{1}/\type_of% @Qa.{0}/\type_of% @ZEM.{0}/\type_of% @ZAV.{0,0,0}/\type_of% @ZOq.{0,0,0}/\type_of% @ZBA.{0}/\type_of% @KL.{0}/\type_of% @decide_false/\type_of% @ZX1/\type_of% @ZXN/\type_of% @ZG8/\type_of% @ZS8/\type_of% @ZSr/\type_of% @ZRy/\type_of% @bne_self_eq_false.{0}/\type_of% @Bool.bne_false/\type_of% @Bool.bne_true:=
 ⟨@zL,@zG,@zR,@zC,@Ob.beq_refl,@ZMh.{0},@ZTS.{0},@QQ,@JO,@ZaR,@ZJI,@ZJO,@ZHb,@ZGf,@ZFl,@ZK5.{0},@ZCA,@ZB8,@ZCD,@ZU7,@ZVr,@ZSx,@ZP8,@ZOU,@ZM1.{0},@ξY.{0},@ZHi,@ZJF,@ZHN.{0,0},@Qd.{0,0},@Ym.some_iff,@true_and,@and_true,@if_false.{1},@Qa.{0},@ZEM.{0},@ZAV.{0,0,0},@ZOq.{0,0,0},@ZBA.{0},@KL.{0},@decide_false,@ZX1,@ZXN,@ZG8,@ZS8,@ZSr,@ZRy,@bne_self_eq_false.{0},@Bool.bne_false,@Bool.bne_true⟩
theorem zO:type_of% @ZVj/\type_of% @ZVw/\type_of% @ZU1/\type_of% @ZV9/\type_of% @ZWI/\type_of% @ZV2/\type_of% @ZWM/\type_of% @ZTb/\type_of% @ZRq/\type_of% @ZUF/\type_of% @ZVN/\type_of% @ZiJ/\type_of% @ZaG/\type_of% @Zai/\type_of% @ZYq/\type_of% @ZWR/\type_of% @Zh9/\type_of% @ZiW/\type_of% @ZiY/\type_of% @ZTf/\type_of% @ZAX/\type_of% @ZDP/\type_of% @Qy/\type_of% @ZFT/\type_of% @ZI9/\type_of% @ZJl:=
 ⟨@ZVj,@ZVw,@ZU1,@ZV9,@ZWI,@ZV2,@ZWM,@ZTb,@ZRq,@ZUF,@ZVN,@ZiJ,@ZaG,@Zai,@ZYq,@ZWR,@Zh9,@ZiW,@ZiY,@ZTf,@ZAX,@ZDP,@Qy,@ZFT,@ZI9,@ZJl⟩
section
variable {P:Program} {c:Ctx} {E0:Env} {os0 os:J7} {n:Nat} {Q:Exit->J4->J7->Prop} {φ:J4}
theorem WI.regB{S:Tabs}(hS:SsOk P S)(ks:W0){l:List IOp}(h:Ym (YN S true φ os l) (λφ' os'=>Q .normal (Go.Ab.keep ks φ') os')):WI P c E0 os0 n (.reg l) Q φ os:=
 WI.regA hS ks (λK hK=>by
  obtain⟨ok,φ',os',h1,h2,h3⟩:=h;exact⟨ok,φ',os',h1,h2,hK _ _ h3⟩)
theorem WI.dregB{S:Tabs}(hS:SsOk P S)(ks:W0){k k2:Nat}{rs rs2:W0}{l:List IOp}(h:Ym (Yj S os k rs 0 true φ os.length os [] none l) (λφ' os'=>Q .normal (Go.Ab.keep ks φ') os')):WI P c E0 os0 n (.dreg k rs k2 rs2 l) Q φ os:=
 WI.dregA hS ks (λK hK=>by
  obtain⟨ok,φ',os',h1,h2,h3⟩:=h;exact⟨ok,φ',os',h1,h2,hK _ _ h3⟩)
theorem WI.post{ic:IC}(h:WI P c E0 os0 n ic (λx φ os=> ∃φ2 os2,Wk c E0 os0 n φ os φ2 os2/\Q x φ2 os2) φ os):WI P c E0 os0 n ic Q φ os:=by
 intro code hc E a R hf;refine wp_mono (h code hc E a R hf) ?_;rintro x a' w' ⟨E',φ',os',rfl,R',hf',φ2,os2,hw,hq⟩;obtain⟨E2,e2,R2,f2⟩:=hw E' a' R' hf';exact⟨E2,φ2,os2,e2,R2,f2,hq⟩
theorem Wk.refl:Wk c E0 os0 n φ os φ os:=λE a R hf=>⟨E,rfl,R,hf⟩
theorem Wk.trans{φ1 φ2:J4}{os1 os2:J7}(h:Wk c E0 os0 n φ os φ1 os1)(h':Wk c E0 os0 n φ1 os1 φ2 os2):Wk c E0 os0 n φ os φ2 os2:=λE a R hf=>by
 obtain⟨E1,e1,R1,f1⟩:=h E a R hf;obtain⟨E2,e2,R2,f2⟩:=h' E1 a R1 f1;exact⟨E2,e2.trans e1,R2,f2⟩
theorem oP{S:Tabs}{ks:W0}{φ':J4}(h: ∃φ2 os2,Wk c E0 os0 n φ' os φ2 os2/\Q .normal φ2 os2)(hk:keep ks φ=φ':=by exact Vp):Ym (YN S true φ os []) (λφ' os'=> ∃φ2 os2,Wk c E0 os0 n (keep ks φ') os' φ2 os2/\Q .normal φ2 os2):=osN (by rw[hk];exact h)
theorem dP{S:Tabs}{ks rs:W0}{k i id:Nat}{C os1 os':J7}{last:Option J7}{φ':J4}(h: ∃φ2 os2,Wk c E0 os0 n φ' os' φ2 os2/\Q .normal φ2 os2)(hk:keep ks φ=φ':=by exact Vp)(hl:last.getD (os1++C)=os':=by simp only[ZM1,ξY,Kg,ξZ,QY];rfl):Ym (Yj S os1 k rs i true φ id os C last []) (λφ' os'=> ∃φ2 os2,Wk c E0 os0 n (keep ks φ') os' φ2 os2/\Q .normal φ2 os2):=dsN (by rw[hk,hl];exact h)
theorem KI(h:Q .normal φ os): ∃φ2 os2,Wk c E0 os0 n φ os φ2 os2/\Q .normal φ2 os2:=⟨φ,os,Wk.refl,h⟩
theorem Jg(ρ:W0){φ':J4}{os':J7}(h: ∃φ2 os2,Wk c E0 os0 n φ' os' φ2 os2/\Q .normal φ2 os2)(hok:ZO8 ρ os0.length os.length=true:=by rfl)(hp:ZBo ρ os φ=φ':=by exact WD)(ho:ZDG ρ os=os':=by exact WD): ∃φ2 os2,Wk c E0 os0 n φ os φ2 os2/\Q .normal φ2 os2:=by
 obtain⟨φ2,os2,h1,h2⟩:=h;subst hp ho;exact⟨φ2,os2,(Wk.pick ρ hok).trans h1,h2⟩
theorem Zeu(l:W0){os':J7}(h: ∃φ2 os2,Wk c E0 os0 n φ os' φ2 os2/\Q .normal φ2 os2)(ho:frzL l os=os':=by simp only[frzL,ZC5,ZBd,ZDp,ZCM];rfl): ∃φ2 os2,Wk c E0 os0 n φ os φ2 os2/\Q .normal φ2 os2:=by
 obtain⟨φ2,os2,h1,h2⟩:=h;subst ho;exact⟨φ2,os2,(Wk.freeze l).trans h1,h2⟩
theorem WI.nnA{ic:IC}{φ':J4}{os':J7}(h:WI P c E0 os0 n ic Q φ' os')(hp:ZEA φ=φ':=by exact Uo)(ho:os.map (Ob.mpb D.nn)=os':=by exact Uo):WI P c E0 os0 n ic Q φ os:=WI.nn (by rw[hp,ho];exact h)
theorem WI.pickA(ρ:W0){ic:IC}{φ':J4}{os':J7}(h:WI P c E0 os0 n ic Q φ' os')(hok:ZO8 ρ os0.length os.length=true:=by rfl)(hp:ZBo ρ os φ=φ':=by exact WD)(ho:ZDG ρ os=os':=by exact WD):WI P c E0 os0 n ic Q φ os:=WI.pick ρ hok (by rw[hp,ho];exact h)
theorem WI.freezeA(l:W0){ic:IC}{os':J7}(h:WI P c E0 os0 n ic Q φ os')(ho:frzL l os=os':=by simp only[frzL,ZC5,ZBd,ZDp,ZCM];rfl):WI P c E0 os0 n ic Q φ os:=WI.freeze l (by rw[ho];exact h)
theorem WI.ownA(t e sz:Nat){ic:IC}{φ':J4}{os':J7}(h:WI P c E0 os0 n ic Q φ' os')(ht:get φ t= .x .nils:=by rfl)(hp:put φ t (.ref os.length 0 0 0)=φ':=by simp only[put,Nat.reduceEqDiff,↓reduceIte,Qw,Yx,Nat.reduceAdd];rfl)(ho:os++ [.rows false e sz []]=os':=by simp only[QY,ξZ];rfl):WI P c E0 os0 n ic Q φ os:=WI.own t e sz ht (by rw[hp,ho];exact h)
theorem WI.thawA(mid:Nat){it:Nat}{dk:KK}{ag:Bool}{l R0:W2}{cur:Option Pr}{ic:IC}{os':J7}(h:WI P c E0 os0 n ic Q φ os')(ho:os[mid]? =some (.mit dk ag l it R0 cur):=by rfl)(hs:os.set mid (.mpo dk ag l)=os':=by simp only[ZDp,ZCM];rfl):WI P c E0 os0 n ic Q φ os:=WI.thaw mid ho (by rw[hs];exact h)
theorem WI.nextSA{t t2 it m:Nat}{x:IO}{s:List UInt8}{pos:Nat}(ks:W0){φ1 φ2:J4}{os2:J7}(hend: ¬pos<s.length->Q .normal φ1 os)(hgo:pos<s.length->Q .normal φ2 os2)(hx:(ZG φ x).val= .iref m it:=by rfl)(hcd:(ZG φ x).cond=true:=by rfl)(ho:os[it]? =some (.sit s pos):=by rfl)
  (h1:Go.Ab.keep ks (Go.Ab.put (Go.Ab.put φ t (.tup [.x (.bool false)])) t2 (.x (.bool false)))=φ1:=by exact VT) (h2:Go.Ab.keep ks (Go.Ab.put (Go.Ab.put φ t (.tup [.x (.bool true),.x (.int .i64 pos),.x (.int .i32 (Qb s pos).1)])) t2 (.x (.bool true)))=φ2:=by exact VT)
  (h3:os.set it (.sit s (pos+(Qb s pos).2))=os2:=by simp only[ZDp,ZCM];rfl):WI P c E0 os0 n (.reg [⟨some t,.nxt true x,none⟩,⟨some t2,.ext (.t t) 0,none⟩]) Q φ os:=WI.nextS ks hx hcd ho (by rw[h1];exact hend) (by rw[h2,h3];exact hgo)
theorem WI.nextMA{t t2 it mid:Nat}{x:IO}{dk:KK}{ag:Bool}{l R0:W2}{cur:Option Pr}(ks:W0){φ1 φ2:J4}{os2:Nat->Pr->J7}(hend:R0= []->Q .normal φ1 os)(hgo: ∀(i:Nat) (q:Pr),R0[i]? =some q->Q .normal φ2 (os2 i q))(hx:(ZG φ x).val= .iref mid it:=by rfl)(hcd:(ZG φ x).cond=true:=by rfl)(ho:os[mid]? =some (.mit dk ag l it R0 cur):=by rfl)
  (h1:Go.Ab.keep ks (Go.Ab.put (Go.Ab.put φ t (.tup [.x (.bool false)])) t2 (.x (.bool false)))=φ1:=by exact VT) (h2:Go.Ab.keep ks (Go.Ab.put (Go.Ab.put φ t .und) t2 (.x (.bool true)))=φ2:=by exact VT)
  (h3: ∀i q,os.set mid (.mit dk ag l it (R0.eraseIdx i) (some q))=os2 i q:=by intro i q;simp only[ZDp,ZCM];rfl):WI P c E0 os0 n (.reg [⟨some t,.nxt false x,none⟩,⟨some t2,.ext (.t t) 0,none⟩]) Q φ os:=WI.nextM ks hx hcd ho (by rw[h1];exact hend) (by rw[h2];intro i q h;rw[h3];exact hgo i q h)
theorem WI.orderA(ts:W0){ic:IC}{φ':J4}(h:WI P c E0 os0 n ic Q φ' os)(hp:ts.map (λu=>(u,get φ u))=φ':=by simp only[YO,ZAa,Ab.get,Nat.reduceEqDiff,↓reduceIte,if_true,if_false];rfl):WI P c E0 os0 n ic Q φ os:=WI.order ts (by rw[hp];exact h)
end
section
variable {S:Tabs} {os0 os C:J7} {k i id:Nat} {rs:W0} {φ φ':J4} {os':J7} {last:Option J7} {o:IOp} {l:List IOp} {ok:Bool} {d:D} {ob:Ob} {K:J4->J7->Prop} {Q:Exit->J4->J7->Prop} {ks:W0}
theorem oN(h:Q .normal φ' os)(hk:keep ks φ=φ':=by exact Vp):Ym (YN S true φ os []) (λφ' os'=>Q .normal (keep ks φ') os'):=osN (by rw[hk];exact h)
theorem dN(h:Q .normal φ' os')(hk:keep ks φ=φ':=by exact Vp)(hl:last.getD (os0++C)=os':=by simp only[ZM1,ξY,Kg,ξZ,QY];rfl):Ym (Yj S os0 k rs i true φ id os C last []) (λφ' os'=>Q .normal (keep ks φ') os'):=dsN (by rw[hk,hl];exact h)
theorem oS(h:Ym (YN S true φ' os' l) K)(he:JM S φ os o=some (ok,φ',os'):=by simp only[zC,JM,ZT,ZG,Ab.get,Ab.put,putO,Nat.reduceEqDiff,↓reduceIte,D.val,D.cond,reduceCtorEq,Nat.reduceAdd,KB,Jk];rfl)(hok:ok=true:=by rfl):Ym (YN S true φ os (o::l)) K:=osS he hok h
theorem oG(h:Ym (YN S true φ' os' l) K)(he:JM S φ os o=some (ok,φ',os'):=by simp (disch:=omega) only[uu,zM,JM,ZT,ZG,Ab.get,Ab.put,putO,Nat.reduceEqDiff,↓reduceIte,D.val,D.cond,reduceCtorEq,YF,Qq,Ob.isDrw,Ja,Qh,Kc,ZA4,apm,QV,IE.isCall,D.cells?,Nat.reduceAdd,Nat.reduceLeDiff,Ob.slice?,Ob.dsl?,Ob.drw?,Nat.reduceSub,Nat.reduceMul,Int.reduceToNat,Int.reduceLE,Int.reduceLT,Int.reduceAdd,Int.reduceSub,Int.reduceMul,Int.reduceNeg,Int.reduceEq,Zx,ZCC,KS,ZD,JZ,YZ,Yh,Jb,KD,Ko,ZAD,KH,eqR,eqD,ZAC,eqX,nzD,ZAn,unD,ZAr,QB,evC,QW,QP,Nat.reduceLT,zO];rfl)(hok:ok=true:=by exact Wg):Ym (YN S true φ os (o::l)) K:=osS he hok h
theorem oC(h:Ym (YN S true φ' os' l) K)(he:JM S φ os o=some (ok,φ',os'):=by exact Wd)(hok:ok=true:=by exact Wg):Ym (YN S true φ os (o::l)) K:=osS he hok h
theorem ZU(h:Ym (Yj S os0 k rs (i+1) true φ' id os C last l) K)(hf:o.e.frame=true:=by rfl)(he:(Ye S φ [] o).map (λr=>(r.1,putO φ o.dst r.2))=some (ok,φ'):=by exact UZ)(hok:ok=true:=by rfl):Ym (Yj S os0 k rs i true φ id os C last (o::l)) K:=dsF hf he hok h
theorem Zn(h:Ym (Yj S os0 k rs (i+1) true φ' id os C last l) K)(hf:o.e.frame=true:=by rfl)(he:(Ye S φ [] o).map (λr=>(r.1,putO φ o.dst r.2))=some (ok,φ'):=by exact Wb)(hok:ok=true:=by exact Wg):Ym (Yj S os0 k rs i true φ id os C last (o::l)) K:=dsF hf he hok h
theorem Zd(h:Ym (Yj S os0 k rs (i+1) true φ' id os C last l) K)(hf:o.e.frame=false:=by rfl)(hm:Zh i rs=false:=by rfl)(hk:Nat.ble (i+1) k=true:=by rfl)(he:(Ye S φ os0 o).map (λr=>(r.1,putO φ o.dst r.2))=some (ok,φ'):=by exact Wb)(hok:ok=true:=by exact Wg):Ym (Yj S os0 k rs i true φ id os C last (o::l)) K:=dsQ hf hm hk he hok h
theorem dKG(h:Ym (Yj S os0 k rs (i+1) true φ' (id+1) (os++ [ob]) (C++ [ob]) last l) K)(hf:o.e.frame=false:=by rfl)(hm:Zh i rs=false:=by rfl)(hk:Nat.ble (i+1) k=true:=by rfl)(hn:Ye S φ os0 o=none:=by exact WB)(he:(QB S φ os0 id o).map (λr=>(r.1,putO φ o.dst r.2.1,r.2.2))=some (ok,φ',ob):=by exact Wd)(hok:ok=true:=by exact Wg):Ym (Yj S os0 k rs i true φ id os C last (o::l)) K:=dsK hf hm hk hn he hok h
theorem Qj(h:Ym (Yj S os0 k rs (i+1) true φ' id os' C (some os') l) K)(hf:o.e.frame=false:=by rfl)(hm:Zh i rs=false:=by rfl)(hk:Nat.ble (i+1) k=false:=by rfl)(he:(KO S φ os o).map (λr=>(r.1&&(match rs with| []=>true|_=>KW os0 r.2.2),putO φ o.dst r.2.1,r.2.2))=some (ok,φ',os'):=by exact Wb)(hok:ok=true:=by exact Wg):Ym (Yj S os0 k rs i true φ id os C last (o::l)) K:=dsA hf hm hk he hok h
theorem dQC(h:Ym (Yj S os0 k rs (i+1) true φ' id os C last l) K)(hf:o.e.frame=false:=by rfl)(hm:Zh i rs=false:=by rfl)(hk:Nat.ble (i+1) k=true:=by rfl)(he:(Ye S φ os0 o).map (λr=>(r.1,putO φ o.dst r.2))=some (ok,φ'):=by exact Wd)(hok:ok=true:=by exact Wg):Ym (Yj S os0 k rs i true φ id os C last (o::l)) K:=dsQ hf hm hk he hok h
theorem dKC(h:Ym (Yj S os0 k rs (i+1) true φ' (id+1) (os++ [ob]) (C++ [ob]) last l) K)(hf:o.e.frame=false:=by rfl)(hm:Zh i rs=false:=by rfl)(hk:Nat.ble (i+1) k=true:=by rfl)(hn:Ye S φ os0 o=none:=by exact WB)(he:(QB S φ os0 id o).map (λr=>(r.1,putO φ o.dst r.2.1,r.2.2))=some (ok,φ',ob):=by exact Wd)(hok:ok=true:=by exact Wg):Ym (Yj S os0 k rs i true φ id os C last (o::l)) K:=dsK hf hm hk hn he hok h
theorem dAC(h:Ym (Yj S os0 k rs (i+1) true φ' id os' C (some os') l) K)(hf:o.e.frame=false:=by rfl)(hm:Zh i rs=false:=by rfl)(hk:Nat.ble (i+1) k=false:=by rfl)(he:(KO S φ os o).map (λr=>(r.1&&(match rs with| []=>true|_=>KW os0 r.2.2),putO φ o.dst r.2.1,r.2.2))=some (ok,φ',os'):=by exact Wd)(hok:ok=true:=by exact Wg):Ym (Yj S os0 k rs i true φ id os C last (o::l)) K:=dsA hf hm hk he hok h
end
theorem lfN{fz:Bool}{T:Tab}{φ:J4}{os os2:J7}{rs:List IRes}{ds:J8}{r R:D}(h:r=R)(he:QE fz T φ os rs=some (true,ds,os2):=by exact Wr)(hr:mkR ds=r:=by simp only[mkR];rfl):((Exit.normal:Exit)= .normal\/(Exit.normal:Exit)= .ret)/\ ∃ds os2,QE fz T φ os rs=some (true,ds,os2)/\mkR ds=R:=⟨.inl rfl,ds,os2,he,Gz⟩
theorem ZkH{fz:Bool}{T:Tab}{φ:J4}{os os2 OS:J7}{rs:List IRes}{ds:J8}{r R:D}(h:r=R/\os2=OS)(he:QE fz T φ os rs=some (true,ds,os2):=by exact Wr)(hr:mkR ds=r:=by simp only[mkR];rfl):((Exit.normal:Exit)= .normal\/(Exit.normal:Exit)= .ret)/\ ∃ds os2,QE fz T φ os rs=some (true,ds,os2)/\mkR ds=R/\os2=OS:=⟨.inl rfl,ds,os2,he,Gz⟩
theorem lfR{fz:Bool}{T:Tab}{φ:J4}{os os2:J7}{rs:List IRes}{ds:J8}{r R:D}(h:r=R)(he:QE fz T φ os rs=some (true,ds,os2):=by exact Wr)(hr:mkR ds=r:=by simp only[mkR];rfl):((Exit.ret:Exit)= .normal\/(Exit.ret:Exit)= .ret)/\ ∃ds os2,QE fz T φ os rs=some (true,ds,os2)/\mkR ds=R:=⟨.inr rfl,ds,os2,he,Gz⟩
theorem ZAs{fz:Bool}{T:Tab}{φ:J4}{os os2 OS:J7}{rs:List IRes}{ds:J8}{r R:D}(h:r=R/\os2=OS)(he:QE fz T φ os rs=some (true,ds,os2):=by exact Wr)(hr:mkR ds=r:=by simp only[mkR];rfl):((Exit.ret:Exit)= .normal\/(Exit.ret:Exit)= .ret)/\ ∃ds os2,QE fz T φ os rs=some (true,ds,os2)/\mkR ds=R/\os2=OS:=⟨.inr rfl,ds,os2,he,Gz⟩
theorem ZAY{fz:Bool}{T:Tab}{φ:J4}{os os2 OS:J7}{rs:List IRes}{ds:J8}{r R:D}(h:r=R/\ ∃Y,os2=OS++Y)(he:QE fz T φ os rs=some (true,ds,os2):=by exact Wr)(hr:mkR ds=r:=by simp only[mkR];rfl):((Exit.ret:Exit)= .normal\/(Exit.ret:Exit)= .ret)/\ ∃ds os2,QE fz T φ os rs=some (true,ds,os2)/\mkR ds=R/\ ∃Y,os2=OS++Y:=⟨.inr rfl,ds,os2,he,Gz⟩
theorem ZkF{fz:Bool}{T:Tab}{φ:J4}{os os2:J7}{rs:List IRes}{ds:J8}{r:D}{K:D->J7->Prop}(h:K r os2)(he:QE fz T φ os rs=some (true,ds,os2):=by exact Wr)(hr:mkR ds=r:=by simp only[mkR];rfl):((Exit.normal:Exit)= .normal\/(Exit.normal:Exit)= .ret)/\ ∃ds os2,QE fz T φ os rs=some (true,ds,os2)/\K (mkR ds) os2:=⟨.inl rfl,ds,os2,he,Gz⟩
theorem ZAi{fz:Bool}{T:Tab}{φ:J4}{os os2:J7}{rs:List IRes}{ds:J8}{r:D}{K:D->J7->Prop}(h:K r os2)(he:QE fz T φ os rs=some (true,ds,os2):=by exact Wr)(hr:mkR ds=r:=by simp only[mkR];rfl):((Exit.ret:Exit)= .normal\/(Exit.ret:Exit)= .ret)/\ ∃ds os2,QE fz T φ os rs=some (true,ds,os2)/\K (mkR ds) os2:=⟨.inr rfl,ds,os2,he,Gz⟩
variable {P:Program}
def ZIJ(g:J8->J5)(args:J8)(os:J7):Option (Bool×D×J7):=
 (YZ os args).bind λp=>(g (p.1.map .x)).map λr=>(r.1,r.2,p.2)
theorem ZCh{f:FuncId}{g:J8->J5}(h: ∀args r,g args=some (true,r)->ZL P f args r): ∀args os r os',ZIJ g args os=some (true,r,os')->ZO P f args os r os':=by
 intro args os r os' hh;obtain⟨p,hp,hh⟩:=Zg hh;obtain⟨⟨q1,q2⟩,hq,e⟩:=Zc hh;simp only[YP]at e;obtain⟨rfl,rfl,rfl⟩:=e;have hc:=h _ _ hq;intro c E vs R hvl;obtain⟨hlen,hv0⟩:=hvl;obtain⟨st',R1,ev1,hl1,hv1⟩:=ZCN (vs:=vs.toList) R (λj d v hd hv=>hv0 j d v hd UB) (by simpa using hlen) hp;have hvl':VL ⟨E.w,st',[]⟩ [] (p.1.map D.x) vs:=by
  refine⟨by simpa using hl1,λj d v hd hv=> ?_⟩;rw[YI]at hd;obtain⟨y,hy,rfl⟩:=Zc hd;exact .x (hv1 j y v hy UB)
 refine(hc E.w st' vs (λb o hb=>(R1.stm b o hb).1) hvl').mono ?_;rintro e w' ⟨v,st2,rfl,hk,hs1,hs2,hv⟩;obtain⟨R2,ev2⟩:=R1.world w' st2 hk hs1 hs2;refine⟨v,_,rfl,rfl,R2,ev1.trans ev2,hv.mono (E:=⟨w',st2,[]⟩) (os:= []) ?_⟩;exact⟨λ_ _ h=>⟨h,rfl⟩,λ_ _ _ _ _ h=>WE,λ_ _ _ _ h=>WE⟩
section
variable {c:Ctx} {E0:Env} {os0:J7} {n:Nat}
def ZOC(P:Program)(c:Ctx)(E0:Env)(os0:J7)(n:Nat)(b:IC)(Q:Exit->J4->J7->Prop):Nat->J4->J7->Prop
 |0,_,_=>False
 |k+1,φ,os=>WI P c E0 os0 n b (ZHz (ZOC P c E0 os0 n b Q k) Q) φ os
theorem WI.loopN{b:IC}{Q:Exit->J4->J7->Prop}(k:Nat){φ:J4}{os:J7}(h:ZOC P c E0 os0 n b Q k φ os):WI P c E0 os0 n (.loop b) Q φ os:=by
 intro code hc E a R hf;obtain⟨cb,rfl,h1⟩:=ZJo hc;refine wp_loop_rounds k ?_;clear hc
 induction k generalizing φ os E a with
 |zero=>exact h.elim
 |succ k ih=>
  rw[rounds_succ];refine wp_mono (h cb h1 E a R hf) ?_;rintro e a' w' ⟨E',φ',os',rfl,k2,k3,k4⟩;cases e with
  |normal=>exact ih k4 E' a' k2 k3
  |_=>exact⟨E',φ',os',rfl,k2,k3,k4⟩
theorem WI.round{b:IC}{Q:Exit->J4->J7->Prop}{k:Nat}{φ:J4}{os:J7}(h:WI P c E0 os0 n b (ZHz (ZOC P c E0 os0 n b Q k) Q) φ os):ZOC P c E0 os0 n b Q (k+1) φ os:=h
end
section
variable {P:Program}
theorem ZO.turn{α:Type}(enc:α->X)(val:α->Value)(hvx: ∀w st a,VX w st (enc a) (val a))(hinv: ∀w st a v,VX w st (enc a) v->v=val a){f:FuncId}{e:Nat}{zs ys:List α}(hl:ys.length=zs.length)(h00:zs= []->ys= [])
  (h0:zs= []-> ∀p cap w,Calls P f #[.slice p 0 cap] w λe w'=>e= .returned (.tuple #[])/\w'=w)
  (h1: ∀(g cap:Nat) (w:World) (cells:Array Value),zs≠ []->w.heap[g]? =some (.cells cells e (0,0))->cells.toList.take zs.length=zs.map val->zs.length<=cap->cap<=maxLen->cells.size=cap*1->
   Calls P f #[.slice (some ⟨g,0,none⟩) zs.length cap] w λe' w'=>e'= .returned (.tuple #[])/\w.grownBy w' (some g)/\w'.ownsRow 0 e 1 (.slice (some ⟨g,0,none⟩) zs.length cap) zs.length (ys.map val)):
  ZO P f [.ref 0 zs.length 0 zs.length] [.rows false e 1 (zs.map λa=> [enc a])] (.tup []) [.rows false e 1 (ys.map λa=> [enc a])]:=by
 intro c E vs R hvl;obtain⟨hsz,hv⟩:=hvl;obtain⟨v0,rfl⟩: ∃v0,vs= #[v0]:=by
  obtain⟨vl⟩:=vs
  match vl,hsz with
  | [a],_=>exact⟨a,rfl⟩
 have h:=hv 0 _ v0 rfl rfl;cases h with
 |ref hr _=>
  have ho: [Ob.rows false e 1 (zs.map λa=> [enc a])][0]? =some (Ob.rows false e 1 (zs.map λa=> [enc a])):=rfl;obtain⟨k1,k2⟩:=hr.at ho rfl;obtain⟨k3,b,a,cap,a',cap',k4,rfl,k6,k7,k8,k9,k10,k11⟩:=k2 J1;obtain⟨rfl,rfl⟩:=k8 rfl;obtain⟨p,hp,hok⟩:=R.at ho;rw[hp]at k4;have hpb:p=(b,.slice a' zs.length cap'):=ZCn k4;subst hpb;by_cases hz:zs= []
  .subst hz;obtain rfl:=h00 rfl;refine(h0 rfl a' cap' E.w).mono ?_;rintro _ w' ⟨rfl,rfl⟩;exact⟨_,E,rfl,rfl,R,Evo.refl _ _,.tup #[] rfl (λj d v h=>WE)⟩
  .have hpos:0<zs.length:=ZKV.2 hz;obtain⟨xs,⟨q1,q2⟩,q3,q4⟩:=hok;rcases q2 with⟨q2,q5⟩|⟨g,cp,cells,fr,q5,q6,q7,q8,q9,q10,q11⟩
   .simp only[Yc]at q5;omega
   .simp only[Value.slice.injEq]at q5;obtain⟨rfl,_,rfl⟩:=q5;simp only[Yc,Ql]at q10 q7 q1;have hfr:fr=(0,0):=by
     rcases q11 with q11|⟨q11,_⟩
     .exact q11
     .cases q11
    subst hfr;have hxs:xs=zs.map val:=by
     apply List.ext_getElem (by rw[q1];simp);intro i hi hi2;have hiz:i<zs.length:=by rw[q1]at hi;exact hi
     have:=q4 i [enc zs[i]] 0 (enc zs[i]) xs[i] (by rw[YI,Zw hiz];rfl) rfl (by rw[Ql,KB];exact Zw hi);rw[hinv _ _ _ _ this];simp
    refine(h1 g cap' E.w cells hz q6 (by rw[q10,hxs]) q7 q8 q9).mono ?_;rintro _ w' ⟨rfl,hg,hown⟩;obtain⟨R',ev⟩:=R.set ho hp w' (.rows false e 1 (ys.map λa=> [enc a])) (b,.slice (some ⟨g,0,none⟩) zs.length cap') ⟨hg.os,hg.tape,hg.output,hg.size,λk hk hm=>hg.block k hk (λe=>hm (by cases e;rfl))⟩ (λb' hb'=> .inl hb') (λsz rs1 h=>by
      simp only[Ob.sl?,Yu,YP]at h;obtain⟨rfl,rfl⟩:=h;exact⟨(ys.map λa=> [enc a]).length,rfl,.inl ⟨by simp[hl],rfl⟩⟩) (λk h=>W6) (λev=>by
      refine⟨ys.map val,?_,λr hr=> ?_,λi r j x v h1 h2 h3=> ?_⟩
      .have:=QM.of_owns hown false;simpa[hl]using this
      .obtain⟨a,_,rfl⟩:=YS.1 hr;rfl
      .rw[YI]at h1;obtain⟨a,ha,rfl⟩:=Zc h1
       match j with
       |0=>
        simp only[ZC5,Yu]at h2;subst h2;rw[Ql,KB,YI,ha]at h3;simp only[Yq,Yu]at h3;subst h3;exact hvx _ _ a
       |j+1=>simp at h2)
    exact⟨_,_,rfl,rfl,R',ev,.tup #[] rfl (λj d v h=>WE)⟩
end
variable {P:Program} {c:Ctx} {E0:Env} {os0:J7} {n:Nat} {Q:Exit->J4->J7->Prop} {φ:J4} {os:J7}
theorem WI.join{x y:IC}(J:J4->J7->Prop)(h:WI P c E0 os0 n x (ZHz J Q) φ os)(h2: ∀φ' os',J φ' os'->WI P c E0 os0 n y Q φ' os'):WI P c E0 os0 n (.seq x y) Q φ os:=by
 refine WI.seq (h.mono λe φ' os' hh=> ?_);cases e with
 |normal=>exact h2 φ' os' hh
 |_=>exact hh
def Jq(kp:W0)(S:Tabs)(os0:J7)(k:Nat)(rs:W0):Nat->Bool->J4->Nat->J7->J7->Option J7->List IOp->Option (Bool×List (Nat×D)×J7)
 |_,b,φ,_,_,C,last,[]=>some (b,φ,last.getD (os0++C))
 |i,b,φ,id,os,C,last,o::l=>
  if o.e.frame then match Ye S φ [] o with
   |some r=>Jq kp S os0 k rs (i+1) (b&&(r.1&&(!Zh i rs||ZCK kp φ o))) (putO φ o.dst r.2) id os C last l
   |none=>none
  else if Zh i rs then match Ye S φ os0 o with
   |some r=>Jq kp S os0 k rs (i+1) (b&&(r.1&&(!Zh i rs||ZCK kp φ o))) (putO φ o.dst r.2) id os C last l
   |none=>none
  else if i<k then match Ye S φ os0 o with
   |some r=>Jq kp S os0 k rs (i+1) (b&&(r.1&&(!Zh i rs||ZCK kp φ o))) (putO φ o.dst r.2) id os C last l
   |none=>match ZFk φ os o with
    |some r=>Jq kp S os0 k rs (i+1) (b&&(r.1&&(!Zh i rs||ZCK kp φ o))) (putO φ o.dst r.2) id os C last l
    |none=>match QB S φ os0 id o with
     |some r=>Jq kp S os0 k rs (i+1) (b&&(r.1&&(!Zh i rs||ZCK kp φ o))) (putO φ o.dst r.2.1) (id+1) (os++ [r.2.2]) (C++ [r.2.2]) last l
     |none=>none
  else match KO S φ os o with
   |some r=>Jq kp S os0 k rs (i+1) (b&&(r.1&&((!Zh i rs||ZCK kp φ o)&&QS kp os0 r.2.2))) (putO φ o.dst r.2.1) id r.2.2 C (some r.2.2) l
   |none=>none
theorem ZD8{kp:W0}(S:Tabs)(os0:J7)(k:Nat)(rs:W0): ∀(l:List IOp) (i:Nat) (b:Bool) (φ:J4) (id:Nat) (os C:J7) (last:Option J7),
  Jq kp S os0 k rs i b φ id os C last l=(Ku S os0 k rs i φ id os l).map λq=>(b&&(q.1&&(bxR kp rs i φ q.2.1 l&&ZFf kp os0 q.2.2)),Yb φ q.2.1,Zs q.2.2 (λ_=>true) 0 (last.getD (os0++C++Yd q.2.1)))
 | [],i,b,φ,id,os,C,last=>by
  simp[Jq,Ku,Yb,Yd,Zs,bxR,ZFf]
 |o::l,i,b,φ,id,os,C,last=>by
  simp only[Jq,Ku];split
  .cases Ye S φ [] o with
   |none=>rfl
   |some r=>
    simp only[ZA9,ZD8 S os0 k rs l];cases Ku S os0 k rs (i+1) (putO φ o.dst r.2) id os l with
    |none=>rfl
    |some q=>exact Uj
  .split
   .cases Ye S φ os0 o with
    |none=>rfl
    |some r=>
     simp only[ZA9,ZD8 S os0 k rs l];cases Ku S os0 k rs (i+1) (putO φ o.dst r.2) id os l with
     |none=>rfl
     |some q=>exact Uj
   .split
    .cases Ye S φ os0 o with
     |some r=>
      simp only[ZD8 S os0 k rs l];cases Ku S os0 k rs (i+1) (putO φ o.dst r.2) id os l with
      |none=>rfl
      |some q=>exact Uj
     |none=>
      cases ZFk φ os o with
      |some r=>
       simp only[ZD8 S os0 k rs l];cases Ku S os0 k rs (i+1) (putO φ o.dst r.2) id os l with
       |none=>rfl
       |some q=>exact Uj
      |none=>
       cases QB S φ os0 id o with
       |none=>rfl
       |some r=>
        simp only[ZA9,ZD8 S os0 k rs l];cases Ku S os0 k rs (i+1) (putO φ o.dst r.2.1) (id+1) (os++ [r.2.2]) l with
        |none=>rfl
        |some q=>simp only[Yq,bxR,ZFf,Yb,Yd,Jy,Ys,ξZ,QY];exact Hp
    .cases KO S φ os o with
     |none=>rfl
     |some r=>
      simp only[ZA9,ZD8 S os0 k rs l];cases Ku S os0 k rs (i+1) (putO φ o.dst r.2.1) id r.2.2 l with
      |none=>rfl
      |some q=>simp only[Yq,bxR,ZFf,Yb,Yd,ZHk,ξY];exact Hp
section
variable {P:Program} {c:Ctx} {E0:Env} {os0 os:J7} {n:Nat} {Q:Exit->J4->J7->Prop} {φ:J4}
theorem WI.dregY{S:Tabs}(hS:SsOk P S)(kp ks:W0){k k2:Nat}{rs rs2:W0}{l:List IOp}(h:Ym (Jq kp S os k2 rs2 0 true φ os.length os [] none l) (λφ' os'=>Q .normal (Go.Ab.keep ks φ') os')):WI P c E0 os0 n (.dreg k rs k2 rs2 l) Q φ os:=by
 obtain⟨ok,φ',os',h1,rfl,h3⟩:=h;rw[ZD8]at h1;refine WI.dreg' (m:=some kp) hS (.inr ?_) rfl h3 (λ_ _ f=>f.keep ks);rw[<-h1];unfold ZHZ;cases Ku S os k2 rs2 0 φ os.length os l with
 |none=>rfl
 |some q=>simp[ZNQ]
end
section
variable {S:Tabs} {os0 os C:J7} {k i id:Nat} {rs kp:W0} {φ φ':J4} {os':J7} {last:Option J7} {o:IOp} {l:List IOp} {ok:Bool} {d:D} {ob:Ob} {K:J4->J7->Prop} {Q:Exit->J4->J7->Prop} {ks:W0}
theorem xsN(h:K φ (last.getD (os0++C))):Ym (Jq kp S os0 k rs i true φ id os C last []) K:=⟨true,φ,_,rfl,rfl,h⟩
theorem xsF(hf:o.e.frame=true)(hm:Zh i rs=false)(he:(Ye S φ [] o).map (λr=>(r.1,putO φ o.dst r.2))=some (ok,φ'))(hok:ok=true)(h:Ym (Jq kp S os0 k rs (i+1) true φ' id os C last l) K):Ym (Jq kp S os0 k rs i true φ id os C last (o::l)) K:=by
 subst hok;obtain⟨r,h1,h2⟩:=Zc he;simp only[YP]at h2;obtain⟨h2,rfl⟩:=h2;simp only[Jq,hf,hm,if_true,h1,h2,QX,ZM9,ZGK];exact h
theorem xsR(hf:o.e.frame=false)(hm:Zh i rs=true)(hbl:ZCK kp φ o=true)(he:(Ye S φ os0 o).map (λr=>(r.1,putO φ o.dst r.2))=some (ok,φ'))(hok:ok=true)(h:Ym (Jq kp S os0 k rs (i+1) true φ' id os C last l) K):Ym (Jq kp S os0 k rs i true φ id os C last (o::l)) K:=by
 subst hok;obtain⟨r,h1,h2⟩:=Zc he;simp only[YP]at h2;obtain⟨h2,rfl⟩:=h2;simp only[Jq,hf,hm,hbl,if_true,h1,h2,QX,ZEs,Je,if_false];exact h
theorem xsA(hf:o.e.frame=false)(hm:Zh i rs=false)(hk:Nat.ble (i+1) k=false)(he:(KO S φ os o).map (λr=>(r.1&&QS kp os0 r.2.2,putO φ o.dst r.2.1,r.2.2))=some (ok,φ',os'))(hok:ok=true)(h:Ym (Jq kp S os0 k rs (i+1) true φ' id os' C (some os') l) K):Ym (Jq kp S os0 k rs i true φ id os C last (o::l)) K:=by
 subst hok;obtain⟨r,h1,h2⟩:=Zc he;simp only[YP]at h2;obtain⟨h2,rfl,rfl⟩:=h2;have hk': ¬i<k:=λh=>Nb
 simp only[Jq,hf,hm,h1,h2,hk',ZAk,ZM9,ZGK,Je,if_false];exact h
theorem xN(h:Q .normal φ' os')(hk:keep ks φ=φ':=by exact Vp)(hl:last.getD (os0++C)=os':=by simp only[ZM1,ξY,Kg,ξZ,QY];rfl):Ym (Jq kp S os0 k rs i true φ id os C last []) (λφ' os'=>Q .normal (keep ks φ') os'):=xsN (by rw[hk,hl];exact h)
theorem xFS(h:Ym (Jq kp S os0 k rs (i+1) true φ' id os C last l) K)(hf:o.e.frame=true:=by rfl)(hm:Zh i rs=false:=by rfl)(he:(Ye S φ [] o).map (λr=>(r.1,putO φ o.dst r.2))=some (ok,φ'):=by exact UZ)(hok:ok=true:=by rfl):Ym (Jq kp S os0 k rs i true φ id os C last (o::l)) K:=xsF hf hm he hok h
theorem xFG(h:Ym (Jq kp S os0 k rs (i+1) true φ' id os C last l) K)(hf:o.e.frame=true:=by rfl)(hm:Zh i rs=false:=by rfl)(he:(Ye S φ [] o).map (λr=>(r.1,putO φ o.dst r.2))=some (ok,φ'):=by exact Wb)(hok:ok=true:=by exact Wg):Ym (Jq kp S os0 k rs i true φ id os C last (o::l)) K:=xsF hf hm he hok h
theorem xRG(h:Ym (Jq kp S os0 k rs (i+1) true φ' id os C last l) K)(hf:o.e.frame=false:=by rfl)(hm:Zh i rs=true:=by rfl)(hbl:ZCK kp φ o=true:=by rfl)(he:(Ye S φ os0 o).map (λr=>(r.1,putO φ o.dst r.2))=some (ok,φ'):=by exact Wb)(hok:ok=true:=by exact Wg):Ym (Jq kp S os0 k rs i true φ id os C last (o::l)) K:=xsR hf hm hbl he hok h
theorem xAG(h:Ym (Jq kp S os0 k rs (i+1) true φ' id os' C (some os') l) K)(hf:o.e.frame=false:=by rfl)(hm:Zh i rs=false:=by rfl)(hk:Nat.ble (i+1) k=false:=by rfl)(he:(KO S φ os o).map (λr=>(r.1&&QS kp os0 r.2.2,putO φ o.dst r.2.1,r.2.2))=some (ok,φ',os'):=by simp (disch:=omega) only[uu,zM,Ye,KO,KE,QS,Jd,ZHt,ZKT,Zh,ZIm,List.getElem?_nil,Ob.beq_refl,JM,ZT,ZG,Ab.get,Ab.put,putO,Nat.reduceEqDiff,↓reduceIte,D.val,D.cond,reduceCtorEq,YF,Qq,Ob.isDrw,Ja,Qh,Kc,ZA4,apm,QV,IE.isCall,D.cells?,Nat.reduceAdd,Nat.reduceLeDiff,Ob.slice?,Ob.dsl?,Ob.drw?,Nat.reduceSub,Nat.reduceMul,Int.reduceToNat,Int.reduceLE,Int.reduceLT,Int.reduceAdd,Int.reduceSub,Int.reduceMul,Int.reduceNeg,Int.reduceEq,Zx,ZCC,KS,ZD,JZ,YZ,Yh,Jb,KD,Ko,ZAD,KH,eqR,eqD,ZAC,eqX,nzD,ZAn,unD,ZAr,QB,evC,QW,QP,Nat.reduceLT,zO];rfl)(hok:ok=true:=by exact Wg):Ym (Jq kp S os0 k rs i true φ id os C last (o::l)) K:=xsA hf hm hk he hok h
theorem xAC(h:Ym (Jq kp S os0 k rs (i+1) true φ' id os' C (some os') l) K)(hf:o.e.frame=false:=by rfl)(hm:Zh i rs=false:=by rfl)(hk:Nat.ble (i+1) k=false:=by rfl)(he:(KO S φ os o).map (λr=>(r.1&&QS kp os0 r.2.2,putO φ o.dst r.2.1,r.2.2))=some (ok,φ',os'):=by simp (disch:=omega) only[uu,zS,zW,zO,ZEZ,ZDr,D.nn,D.na,zQ,IE.isCall,Nat.reduceAdd,Nat.reduceSub,Nat.reduceMul,Nat.reduceLeDiff,Nat.reduceLT,Nat.reduceBEq,Int.reduceToNat,Int.reduceLE,Int.reduceLT,Int.reduceAdd,Int.reduceSub,Int.reduceMul,Int.reduceNeg,Int.reduceEq,Nat.reduceEqDiff,YN,Jq,JM,ZT,YF,Qq,Ob.isDrw,Ja,Qh,Kc,ZA4,apm,ZG,Ab.get,Ab.put,putO,keep,QD,D.val,D.cond,D.cells?,D.scalar,X.scalar,D.plain,D.isX,ZAn,ZBn,eqD,ZAC,eqX,unD,ZD,ZAr,KS,Zx,Qs,Jo,Yh,YZ,JZ,Jb,KD,Ko,Ob.slice?,↓reduceIte,reduceCtorEq,Ye,QB,evC,QW,QP,KO,KE,QS,Jd,ZHt,ZKT,ZIm,List.getElem?_nil,eqR,nzD,QV,ZCT,ZCZ,ZCS,ZBl,ZAd,ZAD,YH,IE.frame,Zh,KH,IntWalk.i64_in,ZAl,Jx,ZFa,Jw,ZGI,ZCJ,Qz,Ji,QC,QH,JB,D.inP,Ob.inP,YA,D.ren,inv,YX,Ob.ren,KN,KU,KR,ZEB,ZBY];rfl)(hok:ok=true:=by exact Wg):Ym (Jq kp S os0 k rs i true φ id os C last (o::l)) K:=xsA hf hm hk he hok h
end
section
variable {P:Program} {c:Ctx} {E0:Env} {os0 os:J7} {n:Nat} {Q:Exit->J4->J7->Prop} {φ:J4}
end
structure Bx (B:Prop):Prop where
 h:B
theorem sd{p:Bool}(h:p=true:=by exact Wg):p=true:=h
theorem se{p:Bool}(h:p=true:=by first|with_reducible rfl|omega):p=true:=h
section
variable {S:Tabs} {os:J7} {φ:J4} {l:List IOp} {K:J4->J7->Prop} {d:Option Nat} {g:Option (Nat×Bool)}
theorem oMk{x:IO}(h:Ym (YN S true φ os (⟨d,.mv x,none⟩::l)) K):Ym (YN S true φ os (⟨d,.mv x,none⟩::l)) K:=h
theorem oKk{x:IO}(h:Ym (YN S true φ os (⟨d,.nck x,none⟩::l)) K):Ym (YN S true φ os (⟨d,.nck x,none⟩::l)) K:=h
theorem oFk{a:Nat}{x:IO}(h:Ym (YN S true φ os (⟨d,.fad a x,none⟩::l)) K):Ym (YN S true φ os (⟨d,.fad a x,none⟩::l)) K:=h
theorem oGk{o:IOp}(h:Ym (YN S true φ os (o::l)) K):Ym (YN S true φ os (o::l)) K:=h
theorem oCk{f:IO}{xs:List IO}(h:Ym (YN S true φ os (⟨d,.call f xs,g⟩::l)) K):Ym (YN S true φ os (⟨d,.call f xs,g⟩::l)) K:=h
end
section
variable {P:Program} {c:Ctx} {E0:Env} {os0 os:J7} {n:Nat} {Q:Exit->J4->J7->Prop} {φ:J4}
theorem nz{A B:Prop}(h:A)(k:Bx A->B:=by(intro h;(repeat first|with_reducible refine ZA ?_|with_reducible refine WI.seq ?_|with_reducible refine WI.block ?_|with_reducible refine WI.skip ?_|with_reducible refine Jl ?_|with_reducible refine ZSy ?_|with_reducible refine WI.exit ?_|with_reducible refine QL ?_|((with_reducible refine ZUd ?_ ?_);(focus decide))|with_reducible refine Yr ?_|with_reducible refine ZWn ?_);exact h.h)):B:=k ⟨h⟩
theorem rg{S:Tabs}(ks:W0){l:List IOp}{A B C:Prop}(h:A)(k0:Bx (WI P c E0 os0 n (.reg l) Q φ os)->C:=by(intro h;refine nz ?_;exact h.h))(hS:SsOk P S:=by assumption)(k:Bx B->Ym (YN S true φ os l) (λφ' os'=>Q .normal (Go.Ab.keep ks φ') os'):=by(intro h;(repeat first|((with_reducible refine oMk ?_);refine oS ?_)|((with_reducible refine oKk ?_);refine oS ?_)|((with_reducible refine oFk ?_);refine oS ?_)|((with_reducible refine oGk ?_);(fail_if_success (with_reducible refine oCk ?_));refine oG ?_)|((with_reducible refine oCk ?_);refine oC ?_));refine oN ?_;exact h.h))(k2:Bx A->B:=by(intro h;refine nz ?_;exact h.h)):C:=k0 ⟨WI.regB hS ks (k ⟨k2 ⟨h⟩⟩)⟩
theorem rgp{S:Tabs}(ks:W0){l:List IOp}{A C:Prop}(h:A)(k0:Bx (WI P c E0 os0 n (.reg l) Q φ os)->C:=by(intro h;refine nz ?_;exact h.h))(hS:SsOk P S:=by assumption)(k:Bx A->Ym (YN S true φ os l) (λφ' os'=> ∃φ2 os2,Wk c E0 os0 n (Go.Ab.keep ks φ') os' φ2 os2/\Q .normal φ2 os2):=by(intro h;(repeat first|((with_reducible refine oMk ?_);refine oS ?_)|((with_reducible refine oKk ?_);refine oS ?_)|((with_reducible refine oFk ?_);refine oS ?_)|((with_reducible refine oGk ?_);(fail_if_success (with_reducible refine oCk ?_));refine oG ?_)|((with_reducible refine oCk ?_);refine oC ?_));refine oP ?_;exact h.h)):C:=k0 ⟨WI.post (WI.regB hS ks (k ⟨h⟩))⟩
theorem cd{x:IO}{y z:IC}{b:Bool}{p q A B:Prop}(ht:p->A)(he:q->B)(hv:(ZG φ x).val= .x (.bool b):=by exact rfl)(hcd:(ZG φ x).cond=true:=by exact rfl)(hp:b=true->p:=by exact Tr)(hq:b=false->q:=by exact Tr)(kA:Bx A->WI P c E0 os0 n y Q φ os:=by(intro h;refine nz ?_;exact h.h))(kB:Bx B->WI P c E0 os0 n z Q φ os:=by(intro h;refine nz ?_;exact h.h)):WI P c E0 os0 n (.cond x y z) Q φ os:=
 WI.cond hv hcd (λh=>kA ⟨ht (hp h)⟩) (λh=>kB ⟨he (hq h)⟩)
theorem ce{x:IO}{y z:IC}{b:Bool}{q B:Prop}(ht:b=true->False)(he:q->B)(hv:(ZG φ x).val= .x (.bool b):=by exact rfl)(hcd:(ZG φ x).cond=true:=by exact rfl)(hq:b=false->q:=by exact Tr)(kB:Bx B->WI P c E0 os0 n z Q φ os:=by(intro h;refine nz ?_;exact h.h)):WI P c E0 os0 n (.cond x y z) Q φ os:=
 WI.cond hv hcd (λh=>(ht h).elim) (λh=>kB ⟨he (hq h)⟩)
theorem ct{x:IO}{y z:IC}{b:Bool}{p A:Prop}(ht:p->A)(he:b=false->False)(hv:(ZG φ x).val= .x (.bool b):=by exact rfl)(hcd:(ZG φ x).cond=true:=by exact rfl)(hp:b=true->p:=by exact Tr)(kA:Bx A->WI P c E0 os0 n y Q φ os:=by(intro h;refine nz ?_;exact h.h)):WI P c E0 os0 n (.cond x y z) Q φ os:=
 WI.cond hv hcd (λh=>kA ⟨ht (hp h)⟩) (λh=>(he h).elim)
theorem lf{A:Prop}(h:A)(k:Bx A->WI P c E0 os0 n .ret Q φ os:=by(intro h;refine WI.ret ?_;(repeat first|with_reducible refine JK ?_|with_reducible refine ZAq ?_|with_reducible refine ZZ2 ?_);(first|refine lfR ?_|refine ZAs ?_|refine ZAY ?_|refine ZAi ?_);exact h.h)):WI P c E0 os0 n .ret Q φ os:=k ⟨h⟩
end
section
variable {P:Program} {c:Ctx} {E E0:Env} {os os0:J7} {n:Nat} {Q:Exit->J4->J7->Prop} {φ:J4}
theorem Zc2{α:Type}(l:List α)(i:Nat)(x:α)(h:l[i]? =some x):l.set i x=l:=by
 apply ZBg;intro j;rw[ZCr];by_cases hj:i=j
 .subst hj;rw[if_pos rfl,h];simp[(ZX h).1]
 .simp[hj]
theorem Rel.swap(R:Rel c E os){i:Nat}{o o':Ob}(ho:os[i]? =some o)(hs:o'.sl? =o.sl?)(hk:o.kd=none)(hm: ∀p b,o'.mb p b->o.mb p b)(hok: ∀(E':Env) (os':J7) p,Evo E os E' os'->E'.w=E.w->OK E os o p->OK E' os' o' p):Rel c E (os.set i o')/\Evo E os E (os.set i o'):=by
 obtain⟨p,hp,h⟩:=R.at ho;have:=R.set ho hp E.w o' p (Kept.refl _ _) (λb hb=> .inl (hm p b hb)) (λsz m hm=>⟨m,by rw[hs];exact hm,.inl ⟨rfl,rfl⟩⟩) (λk h=>by rw[hk]at h;cases h) (λev=>hok _ _ p ev rfl h);rw[Zc2 _ _ _ hp]at this;exact this
theorem Rel.toD(R:Rel c E os){i e sz:Nat}{rs:J6}(ho:os[i]? =some (.rows false e sz rs)):Rel c E (os.set i (.drw e sz (Kj rs)))/\Evo E os E (os.set i (.drw e sz (Kj rs))):=by
 refine R.swap ho (by simp[Ob.sl?,ZB6]) rfl (λp b h=>h) (λE' os' p ev hw h=> ?_);obtain⟨xs,h1,h2,h3⟩:=h;refine⟨xs,by rw[hw,ZB6];exact h1,λr hr=> ?_,λi r j d v hr hd hv=> ?_⟩
 .obtain⟨r0,h0,rfl⟩:=YS.1 hr;rw[Yc];exact h2 r0 h0
 .obtain⟨r0,x,g1,g2,rfl⟩:=ZR0 hr hd;have:=h3 i r0 j x v g1 g2 hv;exact⟨.x (this.mono ev.st),this.one⟩
theorem Rel.toX(R:Rel c E os){i e sz:Nat}{rs:J6}(ho:os[i]? =some (.drw e sz (Kj rs))):Rel c E (os.set i (.rows false e sz rs))/\Evo E os E (os.set i (.rows false e sz rs)):=by
 refine R.swap ho (by simp[Ob.sl?,ZB6]) rfl (λp b h=>h) (λE' os' p ev hw h=> ?_);obtain⟨xs,h1,h2,h3⟩:=h;refine⟨xs,by rw[hw];rw[ZB6]at h1;exact h1,λr hr=> ?_,λi r j x v hr hx hv=> ?_⟩
 .have:=h2 (r.map D.x) (YS.2 ⟨r,hr,rfl⟩);rwa [Yc]at this
 .have hr':(Kj rs)[i]? =some (r.map D.x):=by unfold Kj;rw[YI,hr];rfl
  exact(h3 i _ j (.x x) v hr' (by rw[YI,hx];rfl) hv).1.xx.mono ev.st
theorem Wk.toD{i e sz:Nat}{rs:J6}(ho:os[i]? =some (.rows false e sz rs)):Wk c E0 os0 n φ os φ (os.set i (.drw e sz (Kj rs))):=λE a R hf=>by
 obtain⟨R1,e1⟩:=R.rel.toD ho;exact⟨E,rfl,⟨R1,R.evo.trans e1⟩,hf.mono e1⟩
theorem Wk.toX{i e sz:Nat}{rs:J6}(ho:os[i]? =some (.drw e sz (Kj rs))):Wk c E0 os0 n φ os φ (os.set i (.rows false e sz rs)):=λE a R hf=>by
 obtain⟨R1,e1⟩:=R.rel.toX ho;exact⟨E,rfl,⟨R1,R.evo.trans e1⟩,hf.mono e1⟩
theorem WI.toDA(i:Nat){e sz:Nat}{rs:J6}{ic:IC}{os':J7}(h:WI P c E0 os0 n ic Q φ os')(ho:os[i]? =some (.rows false e sz rs):=by rfl)(hs:os.set i (.drw e sz (Kj rs))=os':=by simp only[ZDp,ZCM];rfl):WI P c E0 os0 n ic Q φ os:=WI.weak (Wk.toD ho) (by rw[hs];exact h)
theorem WI.toXA(i:Nat){e sz:Nat}{rs:J6}{ic:IC}{os':J7}(h:WI P c E0 os0 n ic Q φ os')(ho:os[i]? =some (.drw e sz (Kj rs)):=by rfl)(hs:os.set i (.rows false e sz rs)=os':=by simp only[ZDp,ZCM];rfl):WI P c E0 os0 n ic Q φ os:=WI.weak (Wk.toX ho) (by rw[hs];exact h)
end
section
variable {P:Program} {c:Ctx} {E E0:Env} {os os0:J7} {n:Nat} {Q:Exit->J4->J7->Prop} {φ:J4}
end
section
variable {P:Program} {c:Ctx} {E0:Env} {os os0:J7} {n:Nat} {Q:Exit->J4->J7->Prop} {φ:J4}
end
section
variable {P:Program} {c:Ctx} {E0:Env} {os os0:J7} {n:Nat} {Q:Exit->J4->J7->Prop} {φ:J4}
def kN(K:J4->J7->Prop):Exit->J4->J7->Prop:=λ_ φ os=>K φ os
theorem ZHw{K:J4->J7->Prop}(h:K φ os): ∃φ2 os2,Wk c E0 os0 n φ os φ2 os2/\kN K .normal φ2 os2:=⟨φ,os,Wk.refl,h⟩
end
def ZFs:J7->J7->Bool
 | [],[]=>true
 |x::l,y::l'=>Ob.beq x y&&ZFs l l'
 |_,_=>false
theorem ZHD: ∀ {a b:J7},ZFs a b=true->a=b
 | [],b,h=>by cases b<;>simp[ZFs]at h;rfl
 |x::l,b,h=>by
  cases b<;>simp[ZFs]at h
  rw[Ob.beq_eq h.1,ZHD h.2]
theorem ZGj: ∀a:J7,ZFs a a=true
 | []=>rfl
 |x::l=>by simp only[ZFs,Zj];exact⟨Ob.beq_refl x,ZGj l⟩
def ptT(S:Tabs)(f:FuncId)(A:J8)(O:J7)(r:D)(O':J7):Tabs:=⟨S.q,λf' args os=>if f'=f/\D.beqL args A=true/\ZFs os O=true then some (true,r,O')else S.t f' args os,S.r,S.k⟩
theorem ZDC{P:Program}{S:Tabs}(hS:SsOk P S){f:FuncId}{A:J8}{O O':J7}{r:D}(he:Enters P f)(hm:ZO P f A O r O'):SsOk P (ptT S f A O r O'):=by
 refine⟨hS.q,λf' args os r' os' h=> ?_,hS.r,hS.k⟩;simp only[ptT]at h;split at h
 .exact Tt
 .exact hS.t f' args os r' os' h
theorem ZHd(S:Tabs)(f:FuncId)(A:J8)(O:J7)(r:D)(O':J7):(ptT S f A O r O').t f A O=some (true,r,O'):=if_pos ⟨rfl,D.beqL_refl A,ZGj O⟩
theorem ZHh(S:Tabs)(f:FuncId)(A:J8)(O:J7)(r:D)(O':J7):(ptT S f A O r O').q=S.q:=rfl
theorem ZHj(S:Tabs)(f:FuncId)(A:J8)(O:J7)(r:D)(O':J7):(ptT S f A O r O').r=S.r:=rfl
theorem ZHe(S:Tabs)(f:FuncId)(A:J8)(O:J7)(r:D)(O':J7):(ptT S f A O r O').k=S.k:=rfl
theorem D.ren_id(f:Nat->Nat)(h: ∀i,f i=i)(d:D):d.ren f=d:=by
 refine D.rec (motive_1:=λd=>d.ren f=d) (motive_2:=λl=>YA f l=l) ?_ ?_ ?_ ?_ ?_ ?_ ?_ ?_ ?_ ?_ ?_ ?_ ?_ ?_ ?_ ?_ ?_ ?_ ?_ d
 all_goals intros
 all_goals first|rfl|(simp only[D.ren,YA,h];done)|(simp only[D.ren,YA,h];simp_all)
theorem ZIj(f:Nat->Nat)(h: ∀i,f i=i): ∀l:J8,YA f l=l
 | []=>rfl
 |d::l=>by rw[YA,D.ren_id f h,ZIj f h l]
theorem ZVi(f:Nat->Nat)(h: ∀i,f i=i)(p:Pr):Ji f p=p:=by
 unfold Ji;rw[ZIj f h]
theorem ZTN{α:Type}(f:α->α)(h: ∀x,f x=x)(l:List α):l.map f=l:=by
 induction l with
 |nil=>rfl
 |cons a l ih=>rw[YO,h,ih]
theorem Ob.ren_id(f:Nat->Nat)(h: ∀i,f i=i)(o:Ob):o.ren f=o:=by
 cases o<;>simp only[Ob.ren,h,ZIj f h,ZTN (Ji f) (ZVi f h),ZTN (YA f) (ZIj f h)]
 rename_i cur;cases cur<;>simp only[Qd,Yq,ZVi f h]
theorem ZZP(h:J8->J7->Option (Bool×D×J7))(args:J8)(OS:J7)(i:Nat)(fz:Bool)(e sz:Nat)(rs:J6)(fz':Bool)(e' sz':Nat)(rs':J6)(ok:Bool)(r:D)
  (hi:Jw args= [i]) (hn:JB (λj=>Zh j [i]) args=true) (ho:OS[i]? =some (.rows fz e sz rs)) (hr: ∀f,r.ren f=r)
  (hh:h (YA (inv [i]) args) [.rows fz e sz rs]=some (ok,r,[.rows fz' e' sz' rs'])):ZAl h args OS=some (ok,r,OS.set i (.rows fz' e' sz' rs')):=by
 have hlt:i<OS.length:=(ZX ho).1;have hg:OS.getD i .dead= .rows fz e sz rs:=by rw[ZCB,ho];rfl
 have hm:Zh i []=false:=rfl;have hre:Jx OS 64 (Jw args) []= [i]:=by
  rw[hi];simp only[Jx,hm,hg,ZGI];rfl
 have hfp:YX [i] OS= [.rows fz e sz rs]:=by
  unfold YX;simp only[YO,ZAa,hg];rfl
 unfold ZAl;rw[hre,hfp,hh,if_pos (by
  unfold QC;simp only[Qa,ZEM,hg,hn,ZI hlt,QH];rfl)]
 rw[ZA9,if_pos J1,hr];congr 3;unfold KU;simp only[YO,ZAa,KR,ZEH,ZCG,Yx,Qw,Kg];rfl
def fam(e sz:Nat)(l:List J6):J7:=l.map λrs=> .rows false e sz rs
def ZGH(sz:Nat)(l:List J6):J7:=l.map λrs=> .frz sz rs
theorem ZLo(e sz:Nat)(l:List J6):(fam e sz l).length=l.length:=by simp[fam]
theorem ZG3(sz:Nat)(l:List J6):(ZGH sz l).length=l.length:=by simp[ZGH]
theorem ZU9(o:Ob)(e sz:Nat): ∀(l A:List J6),frzL (List.range' (A.length+1) l.length) (o::(ZGH sz A++fam e sz l))=o::ZGH sz (A++l)
 | [],A=>by simp[frzL,fam]
 |r::l,A=>by
  have ih:=ZU9 o e sz l (A++ [r]);have hg:(o::(ZGH sz A++fam e sz (r::l)))[A.length+1]? =some (.rows false e sz r):=by
   rw[ZBd,QI (by rw[ZG3];exact Zr _),ZG3,ZIK];rfl
  have hs:(o::(ZGH sz A++fam e sz (r::l))).set (A.length+1) (.frz sz r)=o::(ZGH sz (A++ [r])++fam e sz l):=by
   rw[ZCM,ZDm _ _ (by rw[ZG3];exact Zr _),ZG3,ZIK];simp[ZGH,fam]
  rw[Yx,List.range'_succ,frzL,hg];dsimp only;rw[hs];rw[ZW,Kh,Ys]at ih;exact ih
def ZAK:Nat->List J6->List J8
 |_,[]=> []
 |k,rs::l=> [.ref k rs.length 0 rs.length]::ZAK (k+1) l
theorem ZVJ(sz:Nat)(os:J7): ∀(l:List J6) (k:Nat),(∀i r,l[i]? =some r->os[k+i]? =some (.frz sz r))->((ZAK k l).map (List.map (onF [0] os))).map (YA (inv [0]))=Kj (l.map λrs=> [.sl rs])
 | [],k,_=>rfl
 |r::l,k,h=>by
  have h0:=h 0 r rfl;have ih:=ZVJ sz os l (k+1) (λi x hx=>by rw[show k+1+i=k+(i+1) by omega];exact h (i+1) x hx);have hv:onF [0] os (.ref k r.length 0 r.length)= .x (.sl r):=by
   unfold onF;rw[D.vw,show os[k]? =some (.frz sz r)from h0];dsimp only;rw[if_pos rfl,ZCG,JX];rfl
  rw[ZAK,YO,YO,ih,YO,ZAa,hv];rfl
theorem Zfo(e sz:Nat)(l:List J6):ZDG [0] (.drw e 1 (ZAK 1 l)::ZGH sz l)= [.drw e 1 (Kj (l.map λrs=> [.sl rs]))]:=by
 have h:=ZVJ sz (.drw e 1 (ZAK 1 l)::ZGH sz l) l 1 (λi r hr=>by rw[ZPa,ZBd];unfold ZGH;rw[YI,hr];rfl);unfold ZDG YX;simp only[YO,ZAa,ZH8,Ob.mp,Ob.onI,Ob.ren];rw[h]
theorem ZCL(k i:Nat):Zh i (List.range k)=decide (i<k):=by
 rw[QZ,ZA3,ZFX,Yl]
theorem ZC9{k i:Nat}(h:i<k):inv (List.range k) i=i:=ZIT ZUO (by rw[ZMs h])
theorem ZKk{OS X:J7}(hO:OS.all (Ob.inP (λi=>decide (i<OS.length)))=true):YX (List.range OS.length) (OS++X)=OS:=by
 apply ZBg;intro i;unfold YX;rw[YI];by_cases h:i<OS.length
 .rw[ZMs h,Yq,ZCB,Yk h,Zw h,ξY];have hp:=Yg.1 hO _ (YK h);have:=Ob.ren_ren (F:=λi=>i) (g:=inv (List.range OS.length)) (p:=λi=>decide (i<OS.length)) (λj hj=>ZC9 (of_decide_eq_true hj)) OS[i] hp;rw[Ob.ren_id _ (λ_=>rfl)]at this;rw[this]
 .rw[ξV Wx,ξV J0];rfl
section
variable {P:Program} {c:Ctx} {E0:Env} {os0:J7} {n:Nat} {Q:Exit->J4->J7->Prop} {φ:J4}
theorem ZUr(p:Nat->Bool): ∀(φ:J4),φ.all (λq=>q.2.inP p)=true-> ∀t,(get φ t).inP p=true
 | [],_,t=>rfl
 |(s,d)::φ,h,t=>by
  rw[Qa,Zj]at h;unfold Go.Ab.get;split
  .exact h.1
  .exact ZUr p φ h.2 t
theorem Wk.dropT{OS X:J7}(h0:os0.length<=OS.length)(hO:OS.all (Ob.inP (λi=>decide (i<OS.length)))=true)(hφ:φ.all (λp=>p.2.inP (λi=>decide (i<OS.length)))=true):Wk c E0 os0 n φ (OS++X) φ OS:=by
 intro E a R hf;have hn:(List.range OS.length).Nodup:=ZUO;have hlt: ∀r∈List.range OS.length,r<(OS++X).length:=λr hr=>He
 have hm:(λi=>Zh i (List.range OS.length))=λi=>decide (i<OS.length):=funext (ZCL _)
 have R2:=R.rel.pickO hn hlt (λr hr=>by
  have h:=ZFX.1 hr;rw[ZCB,Yk h,Zw h,ξY,hm];exact Yg.1 hO _ (YK h))
 have e2:=ZKc (ρ:=List.range OS.length) R.rel hlt;rw[ZKk hO]at R2 e2;refine⟨fpE (List.range OS.length) E,rfl,⟨R2,?_⟩,hf.size,hf.defers,λt=> ?_⟩
 .have e01:=R.evo;refine⟨e01.st,λid b cu ds k ho hkd hb=> ?_,λid o sz rs ho hs=> ?_⟩
  .have hi:=(ZX ho).1;obtain⟨cu1,ds1,k1,kd1,k2⟩:=e01.bl id b cu ds k ho hkd hb;exact Ti
  .have hi:=(ZX ho).1;obtain⟨o1,rs1,k1,k2,k3⟩:=e01.rf id o sz rs ho hs;obtain⟨o2,rs2,k4,k5,k6⟩:=e2.rf id o1 sz rs1 (by rw[ZCL];exact ZI J0) k1 k2;rw[ZC9 J0]at k4 k6;refine⟨o2,rs2,k4,k5,?_⟩;rcases k3 with⟨k3,k3'⟩|k3<;>rcases k6 with⟨k6,k6'⟩|k6
   .exact Xb
   .exact XW
   .exact XW
   .exact XW
 .have hp:=ZUr _ φ hφ t;have h1:V (fpE (List.range OS.length) E) OS ((get φ t).ren (inv (List.range OS.length))) (a.tmps.getD t undef):=(hf.slot t).monoR e2 (by rw[hm];exact hp);have h2:=D.ren_ren (F:=λi=>i) (g:=inv (List.range OS.length)) (p:=λi=>decide (i<OS.length)) (λj hj=>ZC9 (of_decide_eq_true hj)) (get φ t) hp;rw[D.ren_id _ (λ_=>rfl)]at h2;rwa [h2]at h1
theorem ZNf(OS X:J7){os:J7}(e:os=OS++X)(h0:os0.length<=OS.length)(hO:OS.all (Ob.inP (λi=>decide (i<OS.length)))=true)(hφ:φ.all (λp=>p.2.inP (λi=>decide (i<OS.length)))=true)(h: ∃φ2 os2,Wk c E0 os0 n φ OS φ2 os2/\Q .normal φ2 os2): ∃φ2 os2,Wk c E0 os0 n φ os φ2 os2/\Q .normal φ2 os2:=by
 subst e;obtain⟨φ2,os2,h1,h2⟩:=h;exact⟨φ2,os2,(Wk.dropT h0 hO hφ).trans h1,h2⟩
theorem WI.dropT(OS X:J7){os:J7}{ic:IC}(e:os=OS++X)(h0:os0.length<=OS.length)(hO:OS.all (Ob.inP (λi=>decide (i<OS.length)))=true)(hφ:φ.all (λp=>p.2.inP (λi=>decide (i<OS.length)))=true)(h:WI P c E0 os0 n ic Q φ OS):WI P c E0 os0 n ic Q φ os:=by
 subst e;exact WI.weak (Wk.dropT h0 hO hφ) h
end
theorem Zc0(p:Nat->Bool)(e sz:Nat)(l:List J6):(fam e sz l).all (Ob.inP p)=true:=by
 unfold fam;rw[ZGJ];exact Yg.2 λ_ _=>rfl
theorem ZP4: ∀(l:List J6) (k:Nat),(ZAK k l).length=l.length
 | [],_=>rfl
 |r::l,k=>by rw[ZAK,Yx,ZP4 l,Yx]
theorem ZQU: ∀(l:List J6) (k i:Nat) (r:J6),l[i]? =some r->(ZAK k l)[i]? =some [.ref (k+i) r.length 0 r.length]
 | [],_,i,r,h=>WE
 |r::l,k,0,x,h=>by simp at h;subst h;rfl
 |r::l,k,i+1,x,h=>by
  rw[ZAK,ZBd,ZQU l (k+1) i x WM,show k+1+i=k+(i+1) by omega]
theorem ZOB: ∀(l:List J6) (k:Nat) (r:J6),ZAK k (l++ [r])=ZAK k l++ [[.ref (k+l.length) r.length 0 r.length]]
 | [],k,r=>rfl
 |x::l,k,r=>by rw[ξZ,ZAK,ZOB l,ZAK,Yx,show k+1+l.length=k+(l.length+1) by omega];rfl
theorem ZMC: ∀(l l':List J6) (k:Nat),l.map List.length=l'.map List.length->ZAK k l=ZAK k l'
 | [],[],_,_=>rfl
 | [],_::_,_,h=>WE
 |_::_,[],_,h=>WE
 |x::l,y::l',k,h=>by
  rw[YO,YO,ZEt]at h;rw[ZAK,ZAK,h.1,ZMC l l' _ h.2]
theorem ZQp(n:Nat): ∀(l:List J6) (k:Nat),k+l.length<=n->(ZAK k l).all (JB (λi=>decide (i<n)))=true
 | [],_,_=>rfl
 |r::l,k,h=>by
  rw[Yx]at h;rw[ZAK,Qa,ZQp n l (k+1) J0,QX];simp only[JB,D.inP,QX,Yl];omega
def Zg8(e:Nat)(l:List J6):Ob:= .drw e 1 (ZAK 1 l)
theorem Zc6(e e2 sz:Nat)(l:List J6):(Zg8 e l::fam e2 sz l).all (Ob.inP (λi=>decide (i<(Zg8 e l::fam e2 sz l).length)))=true:=by
 rw[Qa,Zc0,QX,Yx,ZLo];exact ZQp _ l 1 J0
theorem ZhR(e sz:Nat)(l:List J6)(Y:J7)(i:Nat)(r:J6)(h:l[i]? =some r):(fam e sz l++Y)[i]? =some (.rows false e sz r):=by
 have hi:=(ZX h).1;rw[Yk (by rw[ZLo];exact hi)];unfold fam;rw[YI,h];rfl
theorem ZfD(e sz:Nat)(l:List J6)(Y:J7)(i:Nat)(r:J6)(h:i<l.length):(fam e sz l++Y).set i (.rows false e sz r)=fam e sz (l.set i r)++Y:=by
 rw[ZMc _ _ (by rw[ZLo];exact h)];unfold fam;rw[ZM8]
theorem ZcP(e sz:Nat)(l:List J6)(r:J6):fam e sz (l++ [r])=fam e sz l++ [.rows false e sz r]:=by simp[fam]
def ZWo(A:J8)(O:J7)(r:D)(O':J7)(args:J8)(os:J7):Option (Bool×D×J7):=if D.beqL args A=true/\ZFs os O=true then some (true,r,O')else none
theorem ZUv{P:Program}{f:FuncId}{A:J8}{O O':J7}{r:D}(hc:ZO P f A O r O'): ∀args os r' os',ZWo A O r O' args os=some (true,r',os')->ZO P f args os r' os':=by
 intro args os r' os' h;unfold ZWo at h;split at h
 .rename_i hh;rw[D.beqL_eq hh.1,ZHD hh.2];simp only[Yu,YP,true_and]at h;obtain⟨rfl,rfl⟩:=h;exact hc
 .cases h
theorem ZWO(A:J8)(O:J7)(r:D)(O':J7):ZWo A O r O' A O=some (true,r,O'):=if_pos ⟨D.beqL_refl A,ZGj O⟩
theorem ZO.row{P:Program}{f:FuncId}{args:J8}{OS:J7}{r:D}(i:Nat){fz fz':Bool}{e sz e' sz':Nat}{rs rs':J6}(hc:ZO P f (YA (inv [i]) args) [.rows fz e sz rs] r [.rows fz' e' sz' rs'])
  (ho:OS[i]? =some (.rows fz e sz rs)) (hi:Jw args= [i]) (hn:JB (λj=>Zh j [i]) args=true) (hr: ∀f,r.ren f=r):ZO P f args OS r (OS.set i (.rows fz' e' sz' rs')):=
 ZO.lift (ZUv hc) _ _ _ _ (ZZP _ _ _ i fz e sz rs fz' e' sz' rs' true _ hi hn ho hr (ZWO _ _ _ _))
theorem ZO.new{P:Program}{f:FuncId}{args:J8}{OS os':J7}{r:D}(hc:ZO P f args [] r os')(hi:Jw args= [])(hn: ∀p,JB p args=true):ZO P f args OS (r.ren (λi=>OS.length+i)) (OS++os'.map (Ob.ren (λi=>OS.length+i))):=by
 have hren: ∀g,YA g args=args:=λg=>by
  have:=ZJV (F:=λi=>i) (g:=g) (p:=λ_=>false) (λi h=>W6) args (hn _);rwa [ZIj _ (λ_=>rfl)]at this
 refine ZO.lift (h:=ZWo args [] r os') (ZUv hc) _ _ _ _ ?_;have hre:Jx OS 64 (Jw args) []= []:=by rw[hi];rfl
 have hf:KN [] OS.length os'.length=λi=>OS.length+i:=funext λi=>by simp[KN]
 unfold ZAl;rw[hre,if_pos (by simp[QC,hn,QH]),hren,show YX [] OS= []from rfl,ZWO,ZA9];dsimp only;rw[if_pos (show([]:W0).length<=os'.length from Kb _)];unfold KU;rw[hf];cases os'<;>rfl
section
variable {P:Program}
theorem ZF.mcallsX{f:FuncId}{args:J8}{r:D}{os os':J7}(h:ZF P f args os (λr' os2=>r'=r/\ ∃X,os2=os'++X))(h0:os.length<=os'.length)(hO:os'.all (Ob.inP (λi=>decide (i<os'.length)))=true)(hr:r.inP (λi=>decide (i<os'.length))=true):ZO P f args os r os':=by
 intro c E vs R hvl;refine(h c E vs R hvl).mono ?_;rintro e w' ⟨v,E',r',os2,rfl,rfl,R',ev,hv,rfl,X,rfl⟩;have hn:(List.range os'.length).Nodup:=ZUO;have hlt: ∀r∈List.range os'.length,r<(os'++X).length:=λr hr=>He
 have hm:(λi=>Zh i (List.range os'.length))=λi=>decide (i<os'.length):=funext (ZCL _)
 have R2:=R'.pickO hn hlt (λr hr=>by
  have h:=ZFX.1 hr;rw[ZCB,Yk h,Zw h,ξY,hm];exact Yg.1 hO _ (YK h))
 have e2:=ZKc (ρ:=List.range os'.length) R' hlt;rw[ZKk hO]at R2 e2;refine⟨v,fpE (List.range os'.length) E',rfl,rfl,R2,?_,?_⟩
 .refine⟨ev.st,λid b cu ds k ho hkd hb=> ?_,λid o sz rs ho hs=> ?_⟩
  .have hi:=(ZX ho).1;obtain⟨cu1,ds1,k1,kd1,k2⟩:=ev.bl id b cu ds k ho hkd hb;exact Ti
  .have hi:=(ZX ho).1;obtain⟨o1,rs1,k1,k2,k3⟩:=ev.rf id o sz rs ho hs;obtain⟨o2,rs2,k4,k5,k6⟩:=e2.rf id o1 sz rs1 (by rw[ZCL];exact ZI J0) k1 k2;rw[ZC9 J0]at k4 k6;refine⟨o2,rs2,k4,k5,?_⟩;rcases k3 with⟨k3,k3'⟩|k3<;>rcases k6 with⟨k6,k6'⟩|k6
   .exact Xb
   .exact XW
   .exact XW
   .exact XW
 .have h1:V (fpE (List.range os'.length) E') os' (r'.ren (inv (List.range os'.length))) v:=hv.monoR e2 (by rw[hm];exact hr);have h2:=D.ren_ren (F:=λi=>i) (g:=inv (List.range os'.length)) (p:=λi=>decide (i<os'.length)) (λj hj=>ZC9 (of_decide_eq_true hj)) r' hr;rw[D.ren_id _ (λ_=>rfl)]at h2;rwa [h2]at h1
end
theorem ZL.mc{P:Program}{f:FuncId}{args:J8}{r:D}(h:ZL P f args r)(OS:J7)(hi:Jw args= []:=by rfl)(hn: ∀p,JB p args=true:=by intro p;rfl)(hr: ∀g,r.ren g=r:=by intro g;rfl):ZO P f args OS r OS:=by
 have h0:ZO P f args [] r []:=by
  intro c E vs R hvl;have hob:E.ob= []:=ξS (by have:=R.len;simpa using this);obtain⟨w,st,ob⟩:=E;simp only at hob;subst hob;refine(h w st vs (λb o h=>(R.stm b o h).1) hvl).mono ?_;rintro e w' ⟨v,st',rfl,hk,h1,h2,hv⟩;obtain⟨R',ev⟩:=R.world w' st' hk h1 h2;exact⟨v,_,rfl,rfl,R',ev,hv⟩
 have:=ZO.new (OS:=OS) h0 hi hn;rw[hr,ZAa,Kg]at this;exact this
variable {P:Program} {c:Ctx} {E0:Env} {os0:J7} {n:Nat} {Q:Exit->J4->J7->Prop} {φ:J4} {os:J7}
def WR(P:Program)(c:Ctx)(E0:Env)(os0:J7)(n:Nat)(l:List IOp)(Q:Exit->J4->J7->Prop)(φ:J4)(os:J7):Prop:=
 ∀(ops:Array Oper) (lo:List Oper),lo.mapM (JG P n ops)=some l-> ∀(E:Env) (a:Act),Run c E0 os0 E os->Fr n E os φ a->
  wpList P ops (λx a' w'=> ∃E' φ' os',E'.w=w'/\Run c E0 os0 E' os'/\Fr n E' os' φ' a'/\Q x φ' os') lo a E.w
theorem WR.reg{l:List IOp}(h:WR P c E0 os0 n l Q φ os):WI P c E0 os0 n (.reg l) Q φ os:=by
 intro code hc E a R hf;obtain⟨id,ops,rfl,h1⟩:=ZGm hc;exact wp_region_list (h ops _ h1 E a R hf)
theorem WR.regB{S:Tabs}(hS:SsOk P S)(ks:W0){l:List IOp}(h:Ym (YN S true φ os l) (λφ' os'=>Q .normal (Go.Ab.keep ks φ') os')):WR P c E0 os0 n l Q φ os:=by
 intro ops lo h1 E a R hf;rw[ZGc]at h;obtain⟨ok,φ',os',h2,rfl,h3⟩:=h;obtain⟨⟨ok2,q⟩,h4,h5⟩:=Zc h2;simp at h5;obtain⟨rfl,rfl⟩:=h5;exact ZLE hS R.rel hf h1 h4 (λE' a' R' e' f'=>⟨E',_,_,rfl,⟨R',R.evo.trans e'⟩,f'.keep ks,h3⟩)
theorem ZOO{α β:Type}(f:α->Option β): ∀(k:Nat) (lo:List α) (l:List β),lo.mapM f=some l->(lo.take k).mapM f=some (l.take k)/\(lo.drop k).mapM f=some (l.drop k)
 |0,lo,l,h=>WM
 |k+1,[],l,h=>by simp at h;subst h;simp
 |k+1,x::lo,l,h=>by
  simp only[ZAV,KL,YG,ZBA]at h;obtain⟨y,h1,l',h2,h3⟩:=h;cases h3;obtain⟨i1,i2⟩:=ZOO f k lo l' h2;refine⟨?_,by simpa using i2⟩;simp only[Qm,ZAV,h1,i1,KL,ZA9,ZBA]
theorem ZVE{S:Tabs}(hS:SsOk P S){ops:Array Oper}{Q:Exit->Act->World->Prop}{lo2:List Oper}: ∀ {l:List Oper} {il:List IOp} {E:Env} {os:J7} {φ:J4} {a:Act},Rel c E os->Fr n E os φ a->l.mapM (JG P n ops)=some il-> ∀ {φ':J4} {os':J7},QJ S φ os il=some (true,φ',os')->
  (∀E' a',Rel c E' os'->Evo E os E' os'->Fr n E' os' φ' a'->wpList P ops Q lo2 a' E'.w)->wpList P ops Q (l++lo2) a E.w
 | [],il,E,os,φ,a,R,hf,hm,φ',os',h,hQ=>by
  simp at hm;subst hm;cases h;exact hQ E a R (Evo.refl _ _) hf
 |o::l,il,E,os,φ,a,R,hf,hm,φ',os',h,hQ=>by
  simp only[ZAV,KL,YG,ZBA]at hm;obtain⟨io,hio,il',hil,hm⟩:=hm;cases hm;simp only[QJ,YG,Kq]at h;obtain⟨⟨ok,φ1,os1⟩,h1,⟨ok2,φ2,os2⟩,h2,h3⟩:=h;simp at h3;obtain⟨⟨rfl,rfl⟩,rfl,rfl⟩:=h3;rw[ξZ];refine wpList_step λK hK=>ZPZ hS R hf hio h1 (λE1 a1 R1 e1 f1=> ?_)
  exact hK _ _ (ZVE hS R1 f1 hil h2 (λE' a' R' e' f'=>hQ E' a' R' (e1.trans e') f'))
theorem WR.cut{S:Tabs}(hS:SsOk P S)(ks:W0)(k:Nat){l:List IOp}(h:Ym (YN S true φ os (l.take k)) (λφ1 os1=> ∃φ2 os2,Wk c E0 os0 n (Go.Ab.keep ks φ1) os1 φ2 os2/\kN (λφ2 os2=>WR P c E0 os0 n (l.drop k) Q φ2 os2) .normal φ2 os2)):WR P c E0 os0 n l Q φ os:=by
 intro ops lo h1 E a R hf;rw[ZGc]at h;obtain⟨ok,φ',os',h2,rfl,φ2,os2,hw,h3⟩:=h;obtain⟨⟨ok2,q⟩,h4,h5⟩:=Zc h2;simp at h5;obtain⟨rfl,rfl⟩:=h5;obtain⟨i1,i2⟩:=ZOO _ k lo l h1;rw[<-ZBb k lo];refine ZVE hS R.rel hf i1 h4 (λE' a' R' e' f'=> ?_);obtain⟨E2,hE,R2,f2⟩:=hw E' a' ⟨R',R.evo.trans e'⟩ (f'.keep ks);rw[<-hE];exact h3 ops _ i2 E2 a' R2 f2
theorem WI.cutA{S:Tabs}(hS:SsOk P S)(ks:W0)(k:Nat){l:List IOp}(h:Ym (YN S true φ os (l.take k)) (λφ1 os1=> ∃φ2 os2,Wk c E0 os0 n (Go.Ab.keep ks φ1) os1 φ2 os2/\kN (λφ2 os2=>WR P c E0 os0 n (l.drop k) Q φ2 os2) .normal φ2 os2)):WI P c E0 os0 n (.reg l) Q φ os:=
 WR.reg (WR.cut hS ks k h)
def X.nn0:X->X
 | .nils=> .sl []
 |x=>x
theorem VX.nn0{w:World}{st:Nat->Nat->Prop}{x:X}{v:Value}(h:VX w st x v):VX w st x.nn0 v:=by
 unfold X.nn0;split
 .exact h.nn
 .exact h
def D.nn1:D->D
 | .x (.sl rs)=> .x (.sl (rs.map (List.map X.nn0)))
 |d=>d
theorem V.nn1{E:Env}{os:J7}{d:D}{v:Value}(h:V E os d v):V E os d.nn1 v:=by
 unfold D.nn1;split
 .cases h with
  |x h=>
  cases h with
  |sl _ a n c sz val hn hc hm hsz hcell hnil hsp hval=>
   refine .x (.sl _ a n c sz val (by simpa using hn) hc hm (λr hr=> ?_) hcell hnil hsp (λi j r x hr hx=> ?_))
   .obtain⟨r0,h0,rfl⟩:=YS.1 hr;rw[Yc];exact hsz r0 h0
   .rw[YI]at hr;obtain⟨r0,h0,rfl⟩:=Zc hr;rw[YI]at hx;obtain⟨x0,hx0,rfl⟩:=Zc hx;exact(hval i j r0 x0 h0 hx0).nn0
 .exact h
def ZNs(φ:J4):J4:=φ.map λp=>(p.1,p.2.nn1)
theorem ZgG(φ:J4)(t:Nat):get (ZNs φ) t=(get φ t).nn1:=by
 induction φ with
 |nil=>rfl
 |cons p φ ih=>
  obtain⟨u,d⟩:=p;simp only[ZNs,YO,get];split
  .rfl
  .exact ih
theorem Wk.nn1:Wk c E0 os0 n φ os (ZNs φ) os:=λE a R hf=>⟨E,rfl,R,hf.size,hf.defers,λt=>by rw[ZgG];exact(hf.slot t).nn1⟩
theorem Zj9{φ':J4}(h: ∃φ2 os2,Wk c E0 os0 n φ' os φ2 os2/\Q .normal φ2 os2)(hp:ZNs φ=φ':=by simp only[ZNs,D.nn1,X.nn0,YO,ZAa];rfl): ∃φ2 os2,Wk c E0 os0 n φ os φ2 os2/\Q .normal φ2 os2:=by
 obtain⟨φ2,os2,h1,h2⟩:=h;subst hp;exact⟨φ2,os2,Wk.nn1.trans h1,h2⟩
def GP(P:Program)(f:FuncId):Option IFn:=((P.funcs[f]?).filter λfn=> !(fn.name== "runtime.NumGoroutine")).bind (ZFv P)
theorem ZNt(P:Program):GOk P (GP P):=by
 intro f p h;obtain⟨fn,h1,h2⟩:=Zg h;obtain⟨h3,h4⟩:=Option.filter_eq_some_iff.1 h1;exact⟨fn,h3,Ta,h2⟩
theorem QT{P:Program}(f:FuncId)(h:(GP P f).isSome=true:=by kernel_rfl):Enters P f:=by
 obtain⟨p,hp⟩:=ZbP.1 h;exact Zbo (ZNt P) hp
theorem aQ{P:Program}{S:Tabs}{f:FuncId}{g:J8->J5}(hS:SsOk P S)(hg:QK P g f)(he:Enters P f:=by exact QT _):SsOk P (ZEE S f g):=ZDW hS he hg
theorem aT{P:Program}{S:Tabs}{f:FuncId}{g:J8->J7->Option (Bool×D×J7)}(hS:SsOk P S)(hg:TK P g f)(he:Enters P f:=by exact QT _):SsOk P (ZIE S f g):=ZLg hS he hg
theorem aR{P:Program}{S:Tabs}{f:FuncId}{g:J8->J7->J5}(hS:SsOk P S)(hg:RK P g f)(he:Enters P f:=by exact QT _):SsOk P (ZH1 S f g):=ZOz hS he hg
theorem aK{P:Program}{S:Tabs}{f:FuncId}{g:J8->J7->Option (Bool×D×Ob)}(hS:SsOk P S)(hg: ∀args os r ob,g args os=some (true,r,ob)->(∃fz e sz rs,ob= .rows fz e sz rs)/\ZO P f args os r (os++ [ob]))(he:Enters P f:=by exact QT _):SsOk P (ZKb S f g):=Zfy hS he hg
def FG(P:Program)(fz:Bool)(args:J8)(os:J7)(Post:D->J7->Prop):Option IFn->Prop
 |some p=>args.length<=p.n/\ ∀(c:Ctx) (E0:Env),WI P c E0 os p.n p.body (λx φ' os'=>(x= .normal\/x= .ret)/\ ∃ds os2,QE fz (λ_ _=>none) φ' os' p.res=some (true,ds,os2)/\Post (mkR ds) os2) (ZDQ 0 args) os
 |none=>False
theorem FG.mk{P:Program}{fz:Bool}{args:J8}{os:J7}{Post:D->J7->Prop}{p:IFn}(h: ∀(c:Ctx) (E0:Env),WI P c E0 os p.n p.body (λx φ' os'=>(x= .normal\/x= .ret)/\ ∃ds os2,QE fz (λ_ _=>none) φ' os' p.res=some (true,ds,os2)/\Post (mkR ds) os2) (ZDQ 0 args) os)(h1:args.length<=p.n:=by exact ξ rfl):FG P fz args os Post (some p):=⟨h1,h⟩
theorem FG.calls{P:Program}{fz:Bool}{f:FuncId}{args:J8}{os:J7}{Post:D->J7->Prop}(h:FG P fz args os Post (GP P f)):ZF P f args os Post:=by
 rcases hp:GP P f with _|p
 .rw[hp]at h;exact h.elim
 .rw[hp]at h;exact Zf5 (ZNt P) hp args h.1 os h.2
theorem u8L(n:Nat)(h:n<2^8):UInt8.ofBitVec (BitVec.ofFin (Fin.mk n h))=UInt8.ofNatLT n h:=rfl
theorem fC{P:Program}{os:J7}{args:J8}{A:Prop}(f:FuncId)(z:Bool){Post:D->J7->Prop}(h:A)(k:Bx A->FG P z args os Post (GP P f):=by(intro h;(conv=>arg 6;reduce);refine FG.mk ?_;dsimp only[Int.reduceOfNat,Int.reduceNegSucc,u8L,UInt8.reduceOfNatLT,ZDQ];exact h.h)):ZF P f args os Post:=FG.calls (k ⟨h⟩)
theorem evP{P:Program}(m:Nat)(f:FuncId){S0:Tabs}(h0:SsOk P S0)(nq:List FuncId){args:J8}{r:D}(h:((GP P f).bind λp=>(ZGa true (ev S0 nq (GP P) m) p args []).map (·.1))=some r:=by kernel_rfl)(hcl:r.clean=true:=by rfl):ZL P f args r:=by
 obtain⟨p,hp,h⟩:=Zg h;exact ZX5 (ZNt P) m hp h0 nq h hcl
end Go.Ab
end
