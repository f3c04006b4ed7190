import Derived.Test.YtiogclkbccdefaaGreatDoorLA4
import Derived.Test.YtiogclkbccdefaaGreatDoorLA1
import Derived.LoopN
import Derived.Lib.SlKeysI
set_option linter.unusedSimpArgs false
set_option linter.unusedVariables false
set_option maxRecDepth 100000
theorem Wb{p:Prop}(h:p:=by simp (disch:=omega) only[uu,zM,Yd,KN,KD,KT,Ob.beq_refl,JK,ZS,ZG,Ab.get,Ab.put,putO,Nat.reduceEqDiff,↓reduceIte,D.val,D.cond,reduceCtorEq,YD,Qr,Ob.isDrw,Ja,Qb,KY,ZAt,apm,QX,IE.isCall,D.cells?,Nat.reduceAdd,Nat.reduceLeDiff,Ob.slice?,Ob.dsl?,Ob.drw?,Nat.reduceSub,Nat.reduceMul,Int.reduceToNat,Int.reduceLE,Int.reduceLT,Int.reduceAdd,Int.reduceSub,Int.reduceMul,Int.reduceNeg,Int.reduceEq,Zy,ZCD,KP,ZD,JZ,YW,Yh,JY,Jx,Kk,ZAD,KB,eqR,eqD,Qz,eqX,nzD,ZAZ,unD,ZAg,QB,evC,QY,QN,Nat.reduceLT,zO];rfl):p:=h
theorem Wd{p:Prop}(h:p:=by simp (disch:=omega) only[uu,zS,zW,zO,ZEh,ZDc,D.nn,D.na,zQ,IE.isCall,Nat.reduceAdd,Nat.reduceSub,Nat.reduceMul,Nat.reduceLeDiff,Nat.reduceLT,Nat.reduceBEq,Int.reduceToNat,Int.reduceLE,Int.reduceLT,Int.reduceAdd,Int.reduceSub,Int.reduceMul,Int.reduceNeg,Int.reduceEq,Nat.reduceEqDiff,YK,Yi,JK,ZS,YD,Qr,Ob.isDrw,Ja,Qb,KY,ZAt,apm,ZG,Ab.get,Ab.put,putO,keep,QA,D.val,D.cond,D.cells?,D.scalar,X.scalar,D.plain,D.isX,ZAZ,ZBf,eqD,Qz,eqX,unD,ZD,ZAg,KP,Zy,Qq,Jh,Yh,YW,JZ,JY,Jx,Kk,Ob.slice?,↓reduceIte,reduceCtorEq,Yd,QB,evC,QY,QN,KN,KD,KT,eqR,nzD,QX,ZCM,ZCP,ZCR,ZBe,ZAU,ZAD,YH,IE.frame,Zi,KB,IntWalk.i64_in,ZAa,Jv,ZE7,Jq,ZF2,ZB9,ZAS,Jn,Kx,Kw,JE,D.inP,Ob.inP,YA,D.ren,inv,Yb,Ob.ren,KH,KS,KI,ZDp,ZBP];rfl):p:=h
theorem Wg{p:Prop}(h:p:=by first|with_reducible rfl|omega|(simp;done)|(simp;omega)|rfl|((repeat clear hZ);clear uu;grind)|(clear h;(repeat clear hZ);clear uu;grind)):p:=h
theorem Ws{p:Prop}(h:p:=by simp (disch:=omega) only[uu,zF,keep,QA,JV,if_false,QG,ZHp,ZGh,ZDd,Yh,YW,ZS,ZG,Ab.get,Nat.reduceEqDiff,↓reduceIte,D.val,D.cond,Nat.reduceAdd,Nat.reduceLeDiff,Ob.slice?,Ob.dsl?,Ob.drw?,ZGv];rfl):p:=h
theorem WB{p:Prop}(h:p:=by simp (disch:=omega) only[uu,zS,zW,zO,ZEh,ZDc,D.nn,D.na,zQ,IE.isCall,Nat.reduceAdd,Nat.reduceSub,Nat.reduceMul,Nat.reduceLeDiff,Nat.reduceLT,Nat.reduceBEq,Int.reduceToNat,Int.reduceLE,Int.reduceLT,Int.reduceAdd,Int.reduceSub,Int.reduceMul,Int.reduceNeg,Int.reduceEq,Nat.reduceEqDiff,YK,Yi,JK,ZS,YD,Qr,Ob.isDrw,Ja,Qb,KY,ZAt,apm,ZG,Ab.get,Ab.put,putO,keep,QA,D.val,D.cond,D.cells?,D.scalar,X.scalar,D.plain,D.isX,ZAZ,ZBf,eqD,Qz,eqX,unD,ZD,ZAg,KP,Zy,Qq,Jh,Yh,YW,JZ,JY,Jx,Kk,Ob.slice?,↓reduceIte,reduceCtorEq,Yd,QB,evC,QY,QN,KN,KD,KT,eqR,nzD,QX,ZCM,ZCP,ZCR,ZBe,ZAU,ZAD,YH,IE.frame,Zi,KB,IntWalk.i64_in,ZAa,Jv,ZE7,Jq,ZF2,ZB9,ZAS,Jn,Kx,Kw,JE,D.inP,Ob.inP,YA,D.ren,inv,Yb,Ob.ren,KH,KS,KI,ZDp,ZBP]):p:=h
theorem WD{p:Prop}(h:p:=by simp (disch:=decide) only[zV,zO,Ob.mpb,frzL,ZBg,ZCs,onF,Ob.onI,mpP,Jn,Yr,ZAC,D.vw,vwL,D.on,D.inP,JE,Zi,D.ren,YA,inv,Yb,Ob.mp,Ob.ren,D.nn,ZDv,Nat.reduceBEq,Nat.reduceEqDiff,Nat.reduceAdd,↓reduceIte];rfl):p:=h
theorem Vj{p:Prop}(h:p:=by simp only[keep,QA,Nat.reduceEqDiff,if_true,if_false,↓reduceIte,JV];rfl):p:=h
theorem VR{p:Prop}(h:p:=by simp only[put,keep,QA,Nat.reduceEqDiff,if_true,if_false,↓reduceIte,JV];rfl):p:=h
theorem Uh{p:Prop}(h:p:=by simp only[Yr,bxR,ZEu,YY,Ya,Jt];congr 1;simp only[YN,and_true];ac_rfl):p:=h
theorem Uk{p:Prop}(h:p:=by simp only[zV,zO,Ob.mpb,frzL,ZBg,ZCs,onF,Ob.onI,mpP,Jn,Yr,ZAC,D.vw,vwL,D.on,D.inP,JE,Zi,D.ren,YA,inv,Yb,Ob.mp,Ob.ren,D.nn,ZDv,Nat.reduceBEq,Nat.reduceEqDiff,Nat.reduceAdd,↓reduceIte];rfl):p:=h
theorem UW{p:Prop}(h:p:=by simp only[zC,Yd,KN,KD,KT,Ob.beq_refl,JK,ZS,ZG,Ab.get,Ab.put,putO,Nat.reduceEqDiff,↓reduceIte,D.val,D.cond,reduceCtorEq,Nat.reduceAdd,JP,Je];rfl):p:=h
theorem Tf{p:Prop}(h:p:=by obtain⟨cu2,ds2,k3,kd2,k4⟩:=e2.bl id b cu1 ds1 k (by rw[ZB5];exact ZI J0) k1 kd1 k2;rw[ZDB J0]at k3 k4;exact⟨cu2,ds2,k3,kd2,k4⟩):p:=h
theorem To{p:Prop}(h:p:=by (intro h;first|(simp only[zB]at h;exact h)|exact h)):p:=h
theorem Tq{p:Prop}(h:p:=by rename_i hh;obtain⟨rfl,h2,h3⟩:=hh;rw[D.beqL_eq h2,ZG5 h3];simp only[Yj,YN,true_and]at h;obtain⟨rfl,rfl⟩:=h;exact⟨he,hm⟩):p:=h
theorem Gy{p:Prop}(h:p:=by rw[hr];exact h):p:=h
theorem GY{p:Prop}(h:p:=by have:=Nat.ble_eq_true_of_le h;rw[Nat.succ_eq_add_one,hk]at this;cases this):p:=h
theorem N1{p:Prop}(h:p:=by simp[D.beq]):p:=h
theorem NX{p:Prop}(h:p:=by simp[rows]):p:=h
section
namespace Go.Ab
open Go.RowKit Go.Bo
structure RC (α:Type) where
 n:Nat
 enc:α->J9
 dec:J9->Option α
structure RC.Good {α:Type} (c:RC α):Prop where
 len: ∀a,(c.enc a).length=c.n
 de: ∀a,c.dec (c.enc a)=some a
 ed: ∀r a,c.dec r=some a->c.enc a=r
def ZCL(k:IntKind):RC Int:=⟨1,λx=> [.int k x],λ| [.int k' x]=>if k'=k then some x else none|_=>none⟩
def ZC:RC (List UInt8):=⟨1,λs=> [.str s],λ| [.str s]=>some s|_=>none⟩
def ZND:RC Bool:=⟨1,λs=> [.bool s],λ| [.bool s]=>some s|_=>none⟩
def QV:RC Unit:=⟨0,λ_=> [],λ| []=>some ()|_=>none⟩
def JF{α β:Type}(c:RC α)(d:RC β):RC (α×β):=⟨c.n+d.n,λp=>c.enc p.1++d.enc p.2,λr=>(c.dec (r.take c.n)).bind λa=>(d.dec (r.drop c.n)).map λb=>(a,b)⟩
def ZjU{α β:Type}(c:RC α)(f:β->α)(g:α->β):RC β:=⟨c.n,λb=>c.enc (f b),λr=>(c.dec r).map g⟩
def rows{α:Type}(c:RC α)(l:List α):J6:=l.map c.enc
def ZM{α:Type}(c:RC α)(rs:J6):Option (List α):=rs.mapM c.dec
def rSl{α:Type}(c:RC α):RC (List α):=⟨1,λl=> [.sl (rows c l)],λ| [.sl rs]=>ZM c rs|_=>none⟩
theorem ZDk{α β:Type}{f:α->Option β}: ∀ {l:List α} {m:List β},l.mapM f=some m↔l.length=m.length/\ ∀(i:Nat) (h:i<l.length) (h':i<m.length),f l[i]=some m[i]
 | [],m=>by
  cases m<;>simp
 |x::l,m=>by
  simp only[ZAQ,KE,YF,ZBD,Yj];constructor
  .rintro⟨y,hy,ys,hys,rfl⟩;obtain⟨h1,h2⟩:=ZDk.1 hys;refine⟨by simp[h1],λi h h'=> ?_⟩;cases i with
   |zero=>exact hy
   |succ i=>simpa using h2 i WJ (by simpa using h')
  .rintro⟨h1,h2⟩;cases m with
   |nil=>simp at h1
   |cons y ys=>
    refine⟨y,h2 0 J1 J1,ys,ZDk.2 ⟨WC,λi h h'=> ?_⟩,rfl⟩;exact h2 (i+1) W3 W3
section
variable {α β:Type} {c:RC α} {d:RC β}
theorem ZP(c:RC α)(l:List α):(rows c l).length=l.length:=NX
theorem ZTI(c:RC α)(l:List α)(i:Nat)(h:i<l.length):(rows c l)[i]? =some (c.enc l[i]):=by simp[rows,h]
theorem ZB1(c:RC α)(l:List α)(k:Nat):(rows c l).drop k=rows c (l.drop k):=NX
theorem ZB0(c:RC α)(l:List α)(k:Nat):(rows c l).take k=rows c (l.take k):=NX
theorem ZCC(c:RC α)(l m:List α):rows c l++rows c m=rows c (l++m):=NX
theorem ZGZ(h:c.Good)(l:List α)(sz:Nat)(hs:c.n=sz):((rows c l).all λr=>decide (r.length=sz))=true:=by
 subst hs;rw[Yg];intro r hr;obtain⟨a,_,rfl⟩:=YR.1 hr;simp[h.len]
theorem ZX(h:c.Good)(l:List α):ZM c (rows c l)=some l:=by
 unfold ZM;rw[ZDk];exact⟨NX,λi h1 h2=>by simp[rows,h.de]⟩
theorem YU(h:c.Good){rs:J6}{l:List α}(hu:ZM c rs=some l):rows c l=rs:=by
 unfold ZM at hu;rw[ZDk]at hu;refine List.ext_getElem (by simp[rows,hu.1]) (λi h1 h2=> ?_);have:=hu.2 i h2 (by simpa[rows]using h1);simpa[rows]using h.ed _ _ this
theorem ZRA(k:IntKind)(n:Int):(ZCL k).enc n= [.int k n]:=rfl
theorem ZTm(s:List UInt8):ZC.enc s= [.str s]:=rfl
theorem ZQP(b:Bool):ZND.enc b= [.bool b]:=rfl
theorem ZR3(u:Unit):QV.enc u= []:=rfl
theorem ZVH(c:RC α)(l:List α):(rSl c).enc l= [.sl (rows c l)]:=rfl
theorem ZRN(c:RC α)(d:RC β)(p:α×β):(JF c d).enc p=c.enc p.1++d.enc p.2:=rfl
theorem ZRv(c:RC α)(f:β->α)(g:α->β)(b:β):(ZjU c f g).enc b=c.enc (f b):=rfl
theorem ZBK(k:IntKind):(ZCL k).Good:=⟨λ_=>rfl,λa=>by simp[ZCL],λr a h=>by
 simp only[ZCL]at h|-;split at h
 .split at h
  .rename_i hk;cases h;rw[hk]
  .cases h
 .cases h⟩
theorem ZO:ZC.Good:=⟨λ_=>rfl,λa=>rfl,λr a h=>by
 simp only[ZC]at h|-;split at h
 .cases h;rfl
 .cases h⟩
theorem ZXP:ZND.Good:=⟨λ_=>rfl,λa=>rfl,λr a h=>by
 simp only[ZND]at h|-;split at h
 .cases h;rfl
 .cases h⟩
theorem ZAp:QV.Good:=⟨λ_=>rfl,λa=>rfl,λr a h=>by
 simp only[QV]at h|-;split at h
 .rfl
 .cases h⟩
theorem Yt(hc:c.Good)(hd:d.Good):(JF c d).Good:=⟨λp=>by simp[JF,hc.len,hd.len],λp=>by
  have h1:(c.enc p.1++d.enc p.2).take c.n=c.enc p.1:=by rw[ZLx (by rw[hc.len];exact Zp _),YO (by rw[hc.len];exact Zp _)]
  have h2:(c.enc p.1++d.enc p.2).drop c.n=d.enc p.2:=by rw[<-hc.len p.1];exact List.drop_left
  simp[JF,h1,h2,hc.de,hd.de],λr p h=>by
  simp only[JF,YF,Kj]at h;obtain⟨a,h1,b,h2,rfl⟩:=h;simp only[JF,hc.ed _ _ h1,hd.ed _ _ h2,ZBx]⟩
theorem ZCG(hc:c.Good):(rSl c).Good:=⟨λ_=>rfl,λl=>ZX hc l,λr l h=>by
 simp only[rSl]at h|-;split at h
 .rw[YU hc h]
 .cases h⟩
end
mutual
def X.wf:X->Prop
 | .sl rs=>rs.length<=maxLen/\X.wfR rs
 | .int _ _=>True
 | .bool _=>True
 | .str _=>True
 | .nilp=>True
 | .nils=>True
def X.wfR:J6->Prop
 | []=>True
 |r::l=>X.wfL r/\X.wfR l
def X.wfL:J9->Prop
 | []=>True
 |x::l=>x.wf/\X.wfL l
end
theorem X.wfL_iff: ∀ {l:J9},X.wfL l↔ ∀x∈l,x.wf
 | []=>by simp[X.wfL]
 |x::l=>by simp[X.wfL,X.wfL_iff (l:=l)]
theorem X.wfR_iff: ∀ {rs:J6},X.wfR rs↔ ∀r∈rs,X.wfL r
 | []=>by simp[X.wfR]
 |r::l=>by simp[X.wfR,X.wfR_iff (rs:=l)]
theorem VX.wf{w:World}{st:Nat->Nat->Prop}{x:X}{v:Value}(h:VX w st x v):x.wf:=by
 induction h with
 |sl rs a n c sz val hn hc hm hsz hcell hnil hsp hval ih=>
  refine⟨J0,X.wfR_iff.2 (λr hr=>X.wfL_iff.2 (λx hx=> ?_))⟩;obtain⟨i,hi⟩:=ZEi.1 hr;obtain⟨j,hj⟩:=ZEi.1 hx;exact ih i j r x hi hj
 |_=>trivial
section
variable {P:Program}
theorem ZK.wf{f:FuncId}{args:J8}{r:D}(h:(∀x,D.x x∈args->x.wf)->ZK P f args r):ZK P f args r:=by
 intro w st vs hst hvl;refine h (λx hx=> ?_) w st vs hst hvl;obtain⟨j,hj⟩:=ZEi.1 hx;have hl:=(ZV hj).1;have hv:vs[j]? =some (vs[j]'(by rw[<-hvl.1];exact hl)):=ξJ _;exact(hvl.2 j _ _ hj hv).xx.wf
theorem ZK.wfA{f:FuncId}{args:J8}{r:D}(h:(∀(i j:Nat) x,(args[i]?).bind (λd=>match d with| .agg ds=>ds[j]? |_=>none)=some (D.x x)->x.wf)->ZK P f args r):ZK P f args r:=by
 intro w st vs hst hvl;refine h (λi j x hx=> ?_) w st vs hst hvl;obtain⟨d,hd,h2⟩:=Zf hx;have hl:=(ZV hd).1;have hv:vs[i]? =some (vs[i]'(by rw[<-hvl.1];exact hl)):=ξJ _;have hvd:=hvl.2 i d _ hd hv;cases d with
 |agg ds=>
  generalize vs[i]'(by rw[<-hvl.1];exact hl)=u at hvd;cases hvd with
  |agg us hl2 h1 hv2=>
   have hj:=(ZV h2).1;exact(hv2 j _ _ h2 (ξJ J0)).xx.wf
 |_=>cases h2
theorem WI.wf{c:Ctx}{E0:Env}{os0 os:J7}{n:Nat}{Q:Exit->J4->J7->Prop}{φ:J4}{ic:IC}(t:Nat){x:X}(ht:get φ t= .x x)(h:x.wf->WI P c E0 os0 n ic Q φ os):WI P c E0 os0 n ic Q φ os:=by
 intro code hc E a R hf;have:=hf.slot t;rw[ht]at this;exact h this.xx.wf code hc E a R hf
mutual
def X.ok:X->Prop
 | .sl rs=>rs.length<=maxLen/\X.okR rs
 | .int k n=>(Lit.int k n).wf=true
 | .bool _=>True
 | .str s=>s.length<=maxLen
 | .nilp=>True
 | .nils=>True
def X.okR:J6->Prop
 | []=>True
 |r::l=>X.okL r/\X.okR l
def X.okL:J9->Prop
 | []=>True
 |x::l=>x.ok/\X.okL l
end
theorem X.okL_iff: ∀ {l:J9},X.okL l↔ ∀x∈l,x.ok
 | []=>by simp[X.okL]
 |x::l=>by simp[X.okL,X.okL_iff (l:=l)]
theorem X.okR_iff: ∀ {rs:J6},X.okR rs↔ ∀r∈rs,X.okL r
 | []=>by simp[X.okR]
 |r::l=>by simp[X.okR,X.okR_iff (rs:=l)]
theorem X.okL_append{l m:J9}:X.okL (l++m)↔X.okL l/\X.okL m:=by
 simp only[X.okL_iff,KV];exact⟨λh=>⟨λx hx=>h x (.inl hx),λx hx=>h x (.inr hx)⟩,λh x hx=>hx.elim (h.1 x) (h.2 x)⟩
def ZAk(w:World)(xs:J9)(cs:List Value):Prop:=cs.length=xs.length/\ ∀(j:Nat) (x:X) (v:Value),xs[j]? =some x->cs[j]? =some v->VX w (λb _=>b<w.heap.size) x v
def ZHW(P:Program)(T:TypeId){α:Type}(c:RC α):Prop:=
 P.cellsOf T=c.n/\ ∀ {H:Type} (enc:TypeId×Value->H) (w:World) (fuel:Nat) (cs:List Value) (x:DataW H×List MemPlace),DataW.trod enc P w 0 (λ_=>true) true fuel T cs=some x-> ∃y,ZAk w (c.enc y) cs/\X.okL (c.enc y)
theorem ZAk.one{w:World}{x:X}{v:Value}(h:VX w (λb _=>b<w.heap.size) x v):ZAk w [x] [v]:=⟨rfl,λj y u h1 h2=>by
 cases j with
 |zero=>simp at h1 h2;subst h1;subst h2;exact h
 |succ j=>simp at h1⟩
variable {T:TypeId}
theorem ZaC{k:IntKind}(hT:P.underlying T=some (.int k))(hc:P.cellsOf T=1):ZHW P T (ZCL k):=
 ⟨hc,λ_ _ _ _ _ h=>let⟨n,h1,_,h3⟩:=DataW.trod_int hT h;⟨n,by rw[h1];exact ZAk.one (.int k n),h3,trivial⟩⟩
theorem ZeU(s:ByteArray):ZT s.toList=s:=by
 apply ByteArray.ext;apply Array.ext';rw[ByteArray.toList_eq];simp[ZT]
theorem ZD5(hT:P.underlying T=some .string)(hc:P.cellsOf T=1):ZHW P T ZC:=by
 refine⟨hc,λ{H} enc w fuel cs x h=> ?_⟩;obtain⟨s,rfl,_,h3⟩:=DataW.trod_string hT h;have h4:VX w (λb _=>b<w.heap.size) (.str s.toList) (.string (ZT s.toList)):= .str _;rw[ZeU]at h4;refine⟨s.toList,ZAk.one h4,?_,trivial⟩;show s.toList.length<=maxLen;rw[ByteArray.toList_eq];simpa using h3
def ZPO(P:Program)(fuel:Nat)(T:TypeId){α:Type}(c:RC α):Prop:= ∀ {H:Type} (enc:TypeId×Value->H) (w:World) (cs:List Value) (x:DataW H×List MemPlace),DataW.trod enc P w 0 (λ_=>true) true fuel T cs=some x-> ∃y,ZAk w (c.enc y) cs/\X.okL (c.enc y)
theorem ZHW.at'{α:Type}{c:RC α}(h:ZHW P T c)(n:Nat):ZPO P n T c:=λenc w cs x hx=>h.2 enc w n cs x hx
theorem ZXX{α:Type}{c:RC α}{e:TypeId}{fuel:Nat}(hG:c.Good)(hT:P.underlying T=some (.slice e))(hce:P.cellsOf e=c.n)(he: ∀n,n<fuel->ZPO P n e c)(h0:0<c.n):ZPO P fuel T (rSl c):=by
 intro H enc w cs x h;rcases DataW.trod_slice hT h with⟨rfl,_⟩|⟨a,len,cap,elems,rest,n,hfuel,rfl,_,_,hl,hm,hlen,hel,hsp,_⟩
 .exact⟨[],ZAk.one (VX.nn .nils),⟨KG _,trivial⟩,trivial⟩
 .have key: ∀i,i<len-> ∃(y:α) (cs':List Value),ZAk w (c.enc y) cs'/\X.okL (c.enc y)/\ ∀j,j<c.n->w.cell? (a.add (i*c.n+j))=cs'[j]? :=by
   intro i hi;have h1:=hel i hi;rw[Zx J0]at h1;obtain⟨cs',h2,h3⟩:=Zf h1;obtain⟨y,hy,hy2⟩:=he n J0 enc w cs' _ h3;obtain⟨_,hcl,hcc⟩:=World.cells?_some h2;rw[hce]at hcl hcc;refine⟨y,cs',hy,hy2,λj hj=> ?_⟩;rw[<-hcc j hj];congr 1;unfold Addr.add;by_cases h4:i*c.n=0<;>by_cases h5:j=0<;>simp[h4,h5,ZEq]
  have spot:0<cap->a.spot=none:=by
   intro hcap;have one: ∀(z:DataW H×List MemPlace),(w.cells? 0 (a.add (0*P.cellsOf e)) (P.cellsOf e)).bind (DataW.trod enc P w 0 (λ_=>true) true n e)=some z->a.spot=none:=by
    intro z hz;obtain⟨cs',h2,h3⟩:=Zf hz;obtain⟨_,hcl,hcc⟩:=World.cells?_some h2;rw[hce]at hcl hcc;have h5:=hcc 0 h0;rw[Zx J0]at h5;have:=World.cell?_spot h5;simpa[Addr.add]using this
   by_cases hz:0<len
   .have h1:=hel 0 hz;rw[Zx J0]at h1;exact one _ h1
   .obtain⟨r1,r2⟩:=hsp rfl;have h1:=r2 0 J0;rw[Zx J0,show len+0=0 by omega]at h1;exact one _ h1
  classical
  by_cases hz:len=0
  .subst hz;refine⟨[],ZAk.one (.sl [] (some a) 0 cap 0 (λ_ _=>undef) rfl (KG _) hm (λr hr=>TD) (λi j hi=>J0) (λh=>W6) (λhc ad had=> ?_) (λi j r x hr=>by simp at hr)),⟨KG _,trivial⟩,trivial⟩;cases had;exact spot hc
  .have hne:Nonempty α:=let⟨y,_⟩:=key 0 J0;⟨y⟩
   let f:Nat->α:=λi=>if hi:i<len then Classical.choose (key i hi)else Classical.choice hne
   have hsp0:=spot J0;obtain⟨b,off,sp⟩:=a;simp only at hsp0;subst hsp0
   let V':Nat->Nat->Value:=λi j=>if hi:i<len then(Classical.choose (ZVz (key i hi))).getD j undef else undef
   have hf: ∀i (hi:i<len),∃cs',ZAk w (c.enc (f i)) cs'/\X.okL (c.enc (f i))/\(∀j,j<c.n->w.cell? ⟨b,off+i*c.n+j,none⟩=cs'[j]?)/\ ∀j,V' i j=cs'.getD j undef:=by
    intro i hi;obtain⟨h1,h2,h3⟩:=ZVz (ZVz (key i hi));refine⟨_,by simpa only[f,dif_pos hi]using h1,by simpa only[f,dif_pos hi]using h2,λj hj=> ?_,λj=>by simp only[V',dif_pos hi]⟩;rw[<-h3 j hj];congr 1;rw[JQ];simp only[ZEq]
   have hgl:((List.range len).map f).length=len:=TC
   have hgi: ∀(i:Nat) (r:J9),(rows c ((List.range len).map f))[i]? =some r->i<len/\r=c.enc (f i):=by
    intro i r hr;simp only[rows,YE,Kj]at hr;obtain⟨y,⟨k,hk,rfl⟩,rfl⟩:=hr;have hk1:=(ZV hk).1;simp only[List.length_range]at hk1;rw[ZMQ hk1]at hk;cases hk;exact⟨hk1,rfl⟩
   refine⟨(List.range len).map f,ZAk.one (.sl _ (some ⟨b,off,none⟩) len cap c.n V' (by rw[ZP,hgl]) hl hm (λr hr=> ?_) (λi j hi hj=> ?_) (λh=>W6) (λ_ ad had=>by cases had;rfl) (λi j r x hr hx=> ?_)),⟨by rw[ZP,hgl];omega,X.okR_iff.2 (λr hr=> ?_)⟩,trivial⟩
   .obtain⟨y,_,rfl⟩:=YR.1 hr;exact hG.len _
   .obtain⟨cs',h1,h2,h3,h4⟩:=hf i hi;have hlc:cs'.length=c.n:=by rw[h1.1,hG.len]
    have h5:=h3 j hj;rw[Zx J0]at h5;refine⟨b,off,rfl,World.block_lt_of_cell? _ _ h5,?_⟩;rw[h5,h4];simp[List.getD,hlc,hj]
   .obtain⟨hi,rfl⟩:=hgi i r hr;obtain⟨cs',h1,h2,h3,h4⟩:=hf i hi;have hj:=(ZV hx).1;have hlc:cs'.length=c.n:=by rw[h1.1,hG.len]
    rw[hG.len]at hj;rw[h4];have h5:cs'[j]? =some (cs'[j]' J0):=Zx _;simp only[List.getD,h5,Qu];exact h1.2 j x _ hx h5
   .obtain⟨i,hi⟩:=ZEi.1 hr;obtain⟨hi2,rfl⟩:=hgi i r hi;obtain⟨cs',h1,h2,h3,h4⟩:=hf i hi2;exact h2
theorem ZG3{α:Type}{c:RC α}{e:TypeId}(hG:c.Good)(hT:P.underlying T=some (.slice e))(hc:P.cellsOf T=1)(he:ZHW P e c)(h0:0<c.n):ZHW P T (rSl c):=
 ⟨hc,λenc w fuel cs x h=>ZXX (fuel:=fuel) hG hT he.1 (λn _=>he.at' n) h0 enc w cs x h⟩
def ZEh(g:J8->J5)(args:J8):J5:=g (args.map D.na)
theorem ZCx{f:FuncId}{g:J8->J5}(h: ∀args r,g args=some (true,r)->ZK P f args r): ∀args r,ZEh g args=some (true,r)->ZK P f args r:=λ_ r hg=>ZK.na (h _ r hg)
def ZDc(g:J8->J7->Option (Bool×D×J7))(args:J8)(os:J7):Option (Bool×D×J7):=g (args.map D.nn) (os.map (Ob.mpb D.nn))
end
abbrev ZL:=JF ZC (JF (rSl ZC) QV)
abbrev Zn:=JF ZC (JF (rSl ZL) QV)
abbrev ZKy:=JF (ZCL .i64) (JF (ZCL .i64) (JF Zn (JF Zn (JF ZC QV))))
abbrev ZN:=List UInt8×(List (List UInt8)×Unit)
abbrev Zc:=List UInt8×(List ZN×Unit)
abbrev Ze2:=Int×(Int×(Zc×(Zc×(List UInt8×Unit))))
instance decAttr:DecidableEq ZN:=λa b=>decidable_of_iff (a.1=b.1/\a.2.1=b.2.1) ⟨λh=>ZCE h.1 (ZCE h.2 rfl),λh=>h▸⟨rfl,rfl⟩⟩
instance decEntry:DecidableEq Zc:=λa b=>decidable_of_iff (a.1=b.1/\a.2.1=b.2.1) ⟨λh=>ZCE h.1 (ZCE h.2 rfl),λh=>h▸⟨rfl,rfl⟩⟩
instance decChange:DecidableEq Ze2:=λa b=>decidable_of_iff ((a.1=b.1/\a.2.1=b.2.1)/\(a.2.2.1=b.2.2.1/\a.2.2.2.1=b.2.2.2.1)/\a.2.2.2.2.1=b.2.2.2.2.1)
 ⟨λh=>ZCE h.1.1 (ZCE h.1.2 (ZCE h.2.1.1 (ZCE h.2.1.2 (ZCE h.2.2 rfl)))),λh=>h▸⟨⟨rfl,rfl⟩,⟨rfl,rfl⟩,rfl⟩⟩
theorem Ze:ZL.Good:=Yt ZO (Yt (ZCG ZO) ZAp)
theorem Yn:Zn.Good:=Yt ZO (Yt (ZCG Ze) ZAp)
theorem ZKS:ZKy.Good:=Yt (ZBK _) (Yt (ZBK _) (Yt Yn (Yt Yn (Yt ZO ZAp))))
theorem ZU2(l:List (List UInt8)):ZM ZC (rows ZC l)=some l:=ZX ZO l
theorem ZVE(k:IntKind)(l:List Int):ZM (ZCL k) (rows (ZCL k) l)=some l:=ZX (ZBK k) l
theorem ZRk(l):ZM ZL (rows ZL l)=some l:=ZX Ze l
theorem ZPV(l):ZM Zn (rows Zn l)=some l:=ZX Yn l
theorem ZNu(l):ZM ZKy (rows ZKy l)=some l:=ZX ZKS l
theorem ZJc(l):((rows ZC l).all λr=>decide (r.length=1))=true:=ZGZ ZO l 1 rfl
theorem ZI7(k)(l):((rows (ZCL k) l).all λr=>decide (r.length=1))=true:=ZGZ (ZBK k) l 1 rfl
theorem ZHF(l):((rows ZL l).all λr=>decide (r.length=2))=true:=ZGZ Ze l 2 rfl
theorem ZGM(l):((rows Zn l).all λr=>decide (r.length=2))=true:=ZGZ Yn l 2 rfl
theorem ZFV(l):((rows ZKy l).all λr=>decide (r.length=7))=true:=ZGZ ZKS l 7 rfl
section
variable {P:Program} {T:TypeId} {w:World}
theorem ZAk.append{xs ys:J9}{cs ds:List Value}(h:ZAk w xs cs)(k:ZAk w ys ds):ZAk w (xs++ys) (cs++ds):=by
 refine⟨by simp[h.1,k.1],λj x v hx hv=> ?_⟩;by_cases hj:j<xs.length
 .rw[Yc hj]at hx;rw[Yc (by rw[h.1];exact hj)]at hv;exact h.2 j x v hx hv
 .rw[QL J0]at hx;rw[QL (by rw[h.1];omega),h.1]at hv;exact k.2 _ x v hx hv
theorem ZAk.nil:ZAk w [] []:=⟨rfl,λj x v h=>WG⟩
inductive FieldsO (P:Program):List Field->Nat-> {α:Type}->RC α->Prop
 |nil (off:Nat):FieldsO P [] off QV
 |cons {f:Field} {fs:List Field} {off:Nat} {α β:Type} {c:RC α} {d:RC β} (ho:f.offset=off) (hE:ZHW P f.type c) (hF:FieldsO P fs (off+c.n) d):FieldsO P (f::fs) off (JF c d)
theorem ZRz{fs:List Field}{off:Nat}{α:Type}{c:RC α}(hf:FieldsO P fs off c){H:Type}(enc:TypeId×Value->H)(w:World)(fuel:Nat)(cs:List Value)
  (h: ∀f∈fs,∃x,DataW.trod enc P w 0 (λ_=>true) true fuel f.type ((cs.drop f.offset).take (P.cellsOf f.type))=some x):
  ∃y,ZAk w (c.enc y) ((cs.drop off).take c.n)/\X.okL (c.enc y):=by
 induction hf with
 |nil off=>exact⟨(),by simpa[QV]using ZAk.nil,trivial⟩
 | @cons f fs off α β c d ho hE hF ih=>
  obtain⟨y,hy,hy2⟩:=ih (λg hg=>h g (ξW _ hg));obtain⟨x,hx⟩:=h f ZAw;obtain⟨z,hz,hz2⟩:=hE.2 enc w fuel _ _ hx;rw[hE.1,ho]at hz;refine⟨(z,y),?_,X.okL_append.2 ⟨hz2,hy2⟩⟩;show ZAk w (c.enc z++d.enc y) ((cs.drop off).take (c.n+d.n));rw[List.take_add,ZMg];exact hz.append hy
theorem ZC5{α:Type}{c:RC α}{fs:Array Field}(hT:P.underlying T=some (.struct fs))(hc:P.cellsOf T=c.n)(hf:FieldsO P fs.toList 0 c):ZHW P T c:=by
 refine⟨hc,λ{H} enc w fuel cs x h=> ?_⟩;obtain⟨xs,n,rfl,_,hl,hxl,hx⟩:=DataW.trod_struct hT h;obtain⟨y,hy⟩:=ZRz hf enc w n cs (λf hf=>by
  obtain⟨i,hi⟩:=ZEi.1 hf;have hi':fs[i]? =some f:=U8
  have h1:=hx i f hi';have hlt:i<xs.length:=by rw[hxl];exact(ξH hi').1
  rw[Zx hlt]at h1;exact⟨_,h1⟩)
 refine⟨y,?_⟩;rw[ZCa,YO J0]at hy;exact hy
inductive VF (E:Env) (os:J7):J8->List Value->Prop
 |nil:VF E os [] []
 |cons {d:D} {v:Value} {ds:J8} {l:List Value} (h:V E os d v) (t:VF E os ds l):VF E os (d::ds) (v::l)
theorem VL.mk{E:Env}{os:J7}: ∀ {ds:J8} {l:List Value},VF E os ds l->VL E os ds l.toArray
 |_,_,.nil=>⟨rfl,λj d v h=>WG⟩
 |_,_,.cons (d:=d) (v:=v) (ds:=ds) (l:=l) h t=>by
  have ih:=VL.mk t;refine⟨by have:=ih.1;simp at this|-;exact this,λj d' v' hd hv=> ?_⟩;cases j with
  |zero=>simp at hd hv;subst hd;subst hv;exact h
  |succ j=>exact ih.2 j d' v' (by simpa using hd) Ur
abbrev ZcU(w:World):Env:=⟨w,λb _=>b<w.heap.size,[]⟩
theorem V.lies1{x:X}{v:Value}(h:ZAk w [x] [v]):V (ZcU w) [] (.x x) v:= .x (h.2 0 x v rfl rfl)
theorem V.liesA{xs:J9}{cs:Array Value}(h:ZAk w xs cs.toList):V (ZcU w) [] (.agg (xs.map .x)) (.agg cs):=by
 have hl:xs.length=cs.size:=by rw[<-h.1];simp
 refine .agg cs Us (λv hv=> ?_) (λj d v hd hv=> ?_)
 .obtain⟨j,hj⟩:=ZEi.1 hv;have hlt:=(ZV hj).1;exact(h.2 j _ v (Zx (by simpa[hl]using hlt)) hj).one
 .rw[YE]at hd;obtain⟨x,hx,rfl⟩:=Za hd;exact .x (h.2 j x v hx Ur)
theorem ZK.law{f:FuncId}{args:J8}(h:ZK P f args (.x (.bool true))){vs:List Value}(hvl:VF (ZcU w) [] args vs):Calls P f vs.toArray w λe w'=>e= .returned (.bool true)/\Ext w w':=by
 refine(h w (λb _=>b<w.heap.size) vs.toArray (λ_ _ hb=>hb) (VL.mk hvl)).mono ?_;rintro e w' ⟨v,st',rfl,hk,_,_,hv⟩;rw[V.bool hv];exact⟨rfl,hk.os,hk.tape,hk.output,hk.size,λk hb=>hk.block k hb (λh=>h)⟩
end
def YK(S:Tabs):Bool->J4->J7->List IOp->Option (Bool×List (Nat×D)×J7)
 |b,φ,os,[]=>some (b,φ,os)
 |b,φ,os,o::l=>match JK S φ os o with
  |some r=>YK S (b&&r.1) r.2.1 r.2.2 l
  |none=>none
theorem ZGG(S:Tabs): ∀(l:List IOp) (b:Bool) (φ:J4) (os:J7),YK S b φ os l=(QC S φ os l).map λq=>(b&&q.1,q.2)
 | [],b,φ,os=>by simp[YK,QC]
 |o::l,b,φ,os=>by
  simp only[YK,QC];cases JK S φ os o with
  |none=>rfl
  |some r=>
   simp only[ZBA,ZGG S l];cases QC S r.2.1 r.2.2 l with
   |none=>rfl
   |some q=>simp[ZKc]
def Yi(S:Tabs)(os0:J7)(k:Nat)(rs:W0):Nat->Bool->J4->Nat->J7->J7->Option J7->List IOp->Option (Bool×List (Nat×D)×J7)
 |_,b,φ,_,_,C,last,[]=>some (b,φ,last.getD (os0++C))
 |i,b,φ,id,os,C,last,o::l=>
  if o.e.frame then match Yd S φ [] o with
   |some r=>Yi S os0 k rs (i+1) (b&&r.1) (putO φ o.dst r.2) id os C last l
   |none=>none
  else if Zi i rs then match Yd S φ os0 o with
   |some r=>Yi S os0 k rs (i+1) (b&&r.1) (putO φ o.dst r.2) id os C last l
   |none=>none
  else if i<k then match Yd S φ os0 o with
   |some r=>Yi S os0 k rs (i+1) (b&&r.1) (putO φ o.dst r.2) id os C last l
   |none=>match ZFY φ os o with
    |some r=>Yi S os0 k rs (i+1) (b&&r.1) (putO φ o.dst r.2) id os C last l
    |none=>match QB S φ os0 id o with
     |some r=>Yi S os0 k rs (i+1) (b&&r.1) (putO φ o.dst r.2.1) (id+1) (os++ [r.2.2]) (C++ [r.2.2]) last l
     |none=>none
  else match KN S φ os o with
   |some r=>Yi S os0 k rs (i+1) (b&&(r.1&&(match rs with| []=>true|_=>KT os0 r.2.2))) (putO φ o.dst r.2.1) id r.2.2 C (some r.2.2) l
   |none=>none
theorem ZFg(rs:W0)(os0:J7)(G):ZMR rs os0 (none::G)=ZMR rs os0 G:=by cases rs<;>rfl
theorem ZZk(rs:W0)(os0:J7)(x:J7)(G):ZMR rs os0 (some x::G)=((match rs with| []=>true|_=>KT os0 x)&&ZMR rs os0 G):=by cases rs<;>rfl
theorem Jt(G:List (Option J7))(i:Nat)(b:J7):Zq (none::G) (λ_=>true) i b=Zq G (λ_=>true) 0 b:=by
 simp only[Zq];exact ZAm _ _ _ _ _ (λ_ _ _=>rfl)|>.trans (by
  have: ∀(G:List (Option J7)) (i j:Nat) (b:J7),Zq G (λ_=>true) i b=Zq G (λ_=>true) j b:=by
   intro G
   induction G with
   |nil=>intro i j b;rfl
   |cons x G ih=>intro i j b;cases x<;>simp only[Zq]<;>exact ih _ _ _
  exact this _ _ _ _)
theorem ZHe(G:List (Option J7))(i:Nat)(b x:J7):Zq (some x::G) (λ_=>true) i b=Zq G (λ_=>true) 0 x:=by
 have: ∀(G:List (Option J7)) (i j:Nat) (b:J7),Zq G (λ_=>true) i b=Zq G (λ_=>true) j b:=by
  intro G
  induction G with
  |nil=>intro i j b;rfl
  |cons x G ih=>intro i j b;cases x<;>simp only[Zq]<;>exact ih _ _ _
 simp only[Zq,if_true];exact this _ _ _ _
theorem ZDm(S:Tabs)(os0:J7)(k:Nat)(rs:W0): ∀(l:List IOp) (i:Nat) (b:Bool) (φ:J4) (id:Nat) (os C:J7) (last:Option J7),
  Yi S os0 k rs i b φ id os C last l=(Kr S os0 k rs i φ id os l).map λq=>(b&&(q.1&&ZMR rs os0 q.2.2),YY φ q.2.1,Zq q.2.2 (λ_=>true) 0 (last.getD (os0++C++Ya q.2.1)))
 | [],i,b,φ,id,os,C,last=>by
  have:ZMR rs os0 []=true:=by cases rs<;>rfl
  simp[Yi,Kr,YY,Ya,Zq,this]
 |o::l,i,b,φ,id,os,C,last=>by
  simp only[Yi,Kr];split
  .cases Yd S φ [] o with
   |none=>rfl
   |some r=>
    simp only[ZBA,ZDm S os0 k rs l];cases Kr S os0 k rs (i+1) (putO φ o.dst r.2) id os l with
    |none=>rfl
    |some q=>simp only[Yr,ZKc,YY,Ya,ZFg,Jt]
  .split
   .cases Yd S φ os0 o with
    |none=>rfl
    |some r=>
     simp only[ZBA,ZDm S os0 k rs l];cases Kr S os0 k rs (i+1) (putO φ o.dst r.2) id os l with
     |none=>rfl
     |some q=>simp only[Yr,ZKc,YY,Ya,ZFg,Jt]
   .split
    .cases Yd S φ os0 o with
     |some r=>
      simp only[ZDm S os0 k rs l];cases Kr S os0 k rs (i+1) (putO φ o.dst r.2) id os l with
      |none=>rfl
      |some q=>simp only[Yr,ZKc,YY,Ya,ZFg,Jt]
     |none=>
      cases ZFY φ os o with
      |some r=>
       simp only[ZDm S os0 k rs l];cases Kr S os0 k rs (i+1) (putO φ o.dst r.2) id os l with
       |none=>rfl
       |some q=>simp only[Yr,ZKc,YY,Ya,ZFg,Jt]
      |none=>
       cases QB S φ os0 id o with
       |none=>rfl
       |some r=>
        simp only[ZBA,ZDm S os0 k rs l];cases Kr S os0 k rs (i+1) (putO φ o.dst r.2.1) (id+1) (os++ [r.2.2]) l with
        |none=>rfl
        |some q=>simp only[Yr,ZKc,YY,Ya,ZFg,Jt,Yw,ξX,QW]
    .cases KN S φ os o with
     |none=>rfl
     |some r=>
      simp only[ZBA,ZDm S os0 k rs l];cases Kr S os0 k rs (i+1) (putO φ o.dst r.2.1) id r.2.2 l with
      |none=>rfl
      |some q=>simp only[Yr,ZKc,YY,Ya,ZZk,ZHe,Qu];congr 1;simp only[YN,and_true];ac_rfl
section
variable {P:Program} {c:Ctx} {E0:Env} {os0 os:J7} {n:Nat} {Q:Exit->J4->J7->Prop} {φ:J4}
theorem WI.regA{S:Tabs}(hS:SsOk P S)(ks:W0){l:List IOp}(h: ∀K:J4->J7->Prop,(∀φ' os',Q .normal φ' os'->K φ' os')->Yk (YK S true φ os l) (λφ' os'=>K (Go.Ab.keep ks φ') os')):WI P c E0 os0 n (.reg l) Q φ os:=
 WI.regK hS ks (λK hK=>by
  have:=h K hK;rw[ZGG]at this;obtain⟨ok,φ',os',h1,h2,h3⟩:=this;obtain⟨⟨ok2,q⟩,h4,h5⟩:=Za h1;simp at h5;obtain⟨rfl,rfl⟩:=h5;exact⟨_,_,_,h4,h2,h3⟩)
theorem WI.dregA{S:Tabs}(hS:SsOk P S)(ks:W0){k k2:Nat}{rs rs2:W0}{l:List IOp}(h: ∀K:J4->J7->Prop,(∀φ' os',Q .normal φ' os'->K φ' os')->Yk (Yi S os k rs 0 true φ os.length os [] none l) (λφ' os'=>K (Go.Ab.keep ks φ') os')):WI P c E0 os0 n (.dreg k rs k2 rs2 l) Q φ os:=by
 have:=h _ (λ_ _ h=>h);rw[ZDm]at this;obtain⟨ok,φ',os',h1,h2,h3⟩:=this;obtain⟨q,h4,h5⟩:=Za h1;simp at h5;obtain⟨h5,rfl,rfl⟩:=h5;exact WI.dreg' (m:=none) hS (.inl (by simp only[ZHZ,ZM2,h4,Yr])) (h5.trans h2) h3 (λ_ _ f=>f.keep ks)
end
theorem ZPs(φ:J4): ∀(ts:W0) (t:Nat),get (ts.map λu=>(u,get φ u)) t=get φ t\/get (ts.map λu=>(u,get φ u)) t= .und
 | [],t=> .inr rfl
 |u::ts,t=>by
  simp only[YM,get];split
  .rename_i h;subst h;exact .inl rfl
  .exact ZPs φ ts t
theorem WI.order{P:Program}{c:Ctx}{E0:Env}{os0 os:J7}{n:Nat}{Q:Exit->J4->J7->Prop}{φ:J4}{ic:IC}(ts:W0)(h:WI P c E0 os0 n ic Q (ts.map λu=>(u,get φ u)) os):WI P c E0 os0 n ic Q φ os:=
 WI.weak (λE _ R hf=>⟨E,rfl,R,hf.size,hf.defers,λt=>by
  rcases ZPs φ ts t with h|h
  .rw[h];exact hf.slot t
  .rw[h];exact .und _⟩) h
mutual
theorem X.beq_refl: ∀x:X,X.beq x x=true
 | .int k n=>by simp[X.beq]
 | .bool a=>by simp[X.beq]
 | .str s=>by simp[X.beq]
 | .nilp=>rfl
 | .nils=>rfl
 | .sl a=>by simp only[X.beq];exact X.beqR_refl a
theorem X.beqR_refl: ∀a:J6,X.beqR a a=true
 | []=>rfl
 |r::l=>by simp only[X.beqR,Zk];exact⟨X.beqL_refl r,X.beqR_refl l⟩
theorem X.beqL_refl: ∀a:J9,X.beqL a a=true
 | []=>rfl
 |x::l=>by simp only[X.beqL,Zk];exact⟨X.beq_refl x,X.beqL_refl l⟩
end
mutual
theorem D.beq_refl: ∀d:D,D.beq d d=true
 | .x a=>by simp only[D.beq];exact X.beq_refl a
 | .ref a b c d=>N1
 | .ptr a b=>N1
 | .eptr a b c d=>N1
 | .vptr a=>by simp only[D.beq];exact X.beqL_refl a
 | .mref a=>N1
 | .mnil=>rfl
 | .iref a b=>N1
 | .stk a b=>N1
 | .bref a b c=>N1
 | .agg a=>by simp only[D.beq];exact D.beqL_refl a
 | .tup a=>by simp only[D.beq];exact D.beqL_refl a
 | .full a=>by simp only[D.beq];exact X.beqR_refl a
 | .nz a=>by simp only[D.beq];exact X.beqR_refl a
 | .fn f a=>by simp only[D.beq,Zk];exact⟨J1,D.beqL_refl a⟩
 | .opt a d=>by simp only[D.beq,Zk];exact⟨J1,D.beq_refl d⟩
 | .und=>rfl
theorem D.beqL_refl: ∀a:J8,D.beqL a a=true
 | []=>rfl
 |e::l=>by simp only[D.beqL,Zk];exact⟨D.beq_refl e,D.beqL_refl l⟩
end
theorem beqR_refl: ∀a:List J8,beqR a a=true
 | []=>rfl
 |r::l=>by simp only[beqR,Zk];exact⟨D.beqL_refl r,beqR_refl l⟩
theorem ZPY(p:Pr):ZOt p p=true:=by simp only[ZOt,Zk];exact⟨X.beqL_refl p.1,D.beqL_refl p.2⟩
theorem ZEI: ∀a:W2,ZHA a a=true
 | []=>rfl
 |p::l=>by simp only[ZHA,Zk];exact⟨ZPY p,ZEI l⟩
theorem ZYL: ∀a:Option Pr,ZbM a a=true
 |none=>rfl
 |some p=>ZPY p
theorem ZN3: ∀a:List W2,ZJT a a=true
 | []=>rfl
 |p::l=>by simp only[ZJT,Zk];exact⟨ZEI p,ZN3 l⟩
theorem ZQi: ∀a:List (X×J6),ZL8 a a=true
 | []=>rfl
 |p::l=>by simp only[ZL8,Zk];exact⟨X.beq_refl p.1,X.beqR_refl p.2,ZQi l⟩
theorem Ob.beq_refl(o:Ob):Ob.beq o o=true:=by
 cases o with
 |box ds=>simp only[Ob.beq];exact D.beqL_refl ds
 |rows f e s rs=>simp only[Ob.beq,Zk];exact⟨J1,ZET e,ZET s,X.beqR_refl rs⟩
 |drw e s rs=>simp only[Ob.beq,Zk];exact⟨ZET e,ZET s,beqR_refl rs⟩
 |frz s rs=>simp only[Ob.beq,Zk];exact⟨ZET s,X.beqR_refl rs⟩
 |mpo dk ag l=>simp only[Ob.beq,Zk];exact⟨J1,J1,ZEI l⟩
 |mit dk ag l it R cur=>simp only[Ob.beq,Zk];exact⟨J1,J1,ZEI l,ZET it,ZEI R,ZYL cur⟩
 |mpn dk ag l key sid=>simp only[Ob.beq,Zk];exact⟨J1,J1,ZEI l,X.beqL_refl key,ZET sid⟩
 |itr=>rfl
 |stp=>rfl
 |nit=>rfl
 |sit s pos=>simp only[Ob.beq,Zk];exact⟨J1,ZET pos⟩
 |old s n=>simp only[Ob.beq,Zk];exact⟨ZET s,ZET n⟩
 |fam k P B=>simp only[Ob.beq,Zk];exact⟨ZET k,ZN3 P,ZQi B⟩
 |dead=>rfl
def ZAD(φ:J4):Option IO->Option D
 |none=>none
 |some l=>some (ZG φ l)
def Jx(dx:D)(lo hi mx:Option D):J5:=
 match dx.val with
 | .x (.str s)=>match lo,hi,mx with
  |none,none,none=>some (dx.cond,.x (.str s))
  |some l,none,none=>(ZD l.val).map λ(n:Int)=>(dx.cond&&(l.cond&&(decide (0<=n)&&decide (n<=s.length))),.x (.str (s.drop n.toNat)))
  |none,some h,none=>(ZD h.val).map λ(m:Int)=>(dx.cond&&(h.cond&&(decide (0<=m)&&decide (m<=s.length))),.x (.str (s.take m.toNat)))
  |some l,some h,none=>(ZD l.val).bind λ(n:Int)=>(ZD h.val).map λ(m:Int)=>(dx.cond&&((l.cond&&h.cond)&&(decide (0<=n)&&(decide (n<=m)&&decide (m<=s.length)))),.x (.str ((s.take m.toNat).drop n.toNat)))
  |_,_,_=>none
 |_=>none
def Kk(os:J7)(sz:Nat)(dx:D)(lo hi mx:Option D):J5:=
 match dx.val with
 | .x .nils=>(KB (lo)).bind λp=>(KB (hi)).bind λq=>(KB (mx)).map λr=>(dx.cond&&((mx.isNone||hi.isSome)&&(p&&(q&&r))),.x .nils)
 | .x (.sl rs)=>match lo,hi,mx with
  |none,none,none=>some (dx.cond,.x (.sl rs))
  |some l,none,none=>(ZD l.val).map λ(n:Int)=>(dx.cond&&(l.cond&&(decide (0<=n)&&(decide (n<=rs.length)&&rs.all λr=>decide (r.length=sz)))),.x (.sl (rs.drop n.toNat)))
  |none,some h,none=>(ZD h.val).map λ(m:Int)=>(dx.cond&&(h.cond&&(decide (0<=m)&&(decide (m<=rs.length)&&rs.all λr=>decide (r.length=sz)))),.x (.sl (rs.take m.toNat)))
  |some l,some h,none=>(ZD l.val).bind λ(n:Int)=>(ZD h.val).map λ(m:Int)=>(dx.cond&&((l.cond&&h.cond)&&(decide (0<=n)&&(decide (n<=m)&&(decide (m<=rs.length)&&rs.all λr=>decide (r.length=sz))))),.x (.sl ((rs.take m.toNat).drop n.toNat)))
  |l,some h,some mi=>(KB l).bind λz=>(ZD h.val).bind λ(n:Int)=>(ZD mi.val).map λ(m:Int)=>(dx.cond&&(z&&(h.cond&&(mi.cond&&(decide (0<=n)&&(decide (n<=rs.length)&&(decide (n=m)&&rs.all λr=>decide (r.length=sz))))))),.full (rs.take n.toNat))
  |_,_,_=>none
 | .ref id ext off len=>match os[id]? with
  |some o=>match o.slice? with
   |some (sz',rs)=>match lo,hi,mx with
    |some l,none,none=>(ZD l.val).map λ(n:Int)=>(dx.cond&&(l.cond&&(decide (sz'=sz)&&(decide (rs.length=ext)&&(decide (0<=n)&&decide (n<=len))))),.ref id ext (off+n.toNat) (len-n.toNat))
    |none,some h,none=>(ZD h.val).map λ(m:Int)=>(dx.cond&&(h.cond&&(decide (sz'=sz)&&(decide (rs.length=ext)&&(decide (0<=m)&&decide (m<=len))))),.ref id ext off m.toNat)
    |some l,some h,none=>(ZD l.val).bind λ(n:Int)=>(ZD h.val).map λ(m:Int)=>(dx.cond&&((l.cond&&h.cond)&&(decide (sz'=sz)&&(decide (rs.length=ext)&&(decide (0<=n)&&(decide (n<=m)&&decide (m<=len)))))),.ref id ext (off+n.toNat) (m.toNat-n.toNat))
    |_,_,_=>none
   |none=>none
  |none=>none
 |_=>none
theorem ZHh(φ:J4)(x:IO)(lo hi mx:Option IO):ZIG φ x lo hi mx=Jx (ZG φ x) (ZAD φ lo) (ZAD φ hi) (ZAD φ mx):=by
 cases lo<;>cases hi<;>cases mx<;>rfl
theorem ZIz(φ:J4)(os:J7)(sz:Nat)(x:IO)(lo hi mx:Option IO):ZJb φ os sz x lo hi mx=Kk os sz (ZG φ x) (ZAD φ lo) (ZAD φ hi) (ZAD φ mx):=by
 cases lo<;>cases hi<;>cases mx<;>rfl
def ZBe(φ:J4):List IO->J8
 | []=> []
 |y::ys=>(ZG φ y).val::ZBe φ ys
def ZAU(φ:J4):List IO->Bool
 | []=>true
 |y::ys=>(ZG φ y).cond&&ZAU φ ys
theorem ZHO(φ:J4): ∀l,(l.map λy=>(ZG φ y).val)=ZBe φ l
 | []=>rfl
 |y::ys=>by simp[ZBe,ZHO φ ys]
theorem ZGO(φ:J4): ∀l:List IO,(l.all λy=>(ZG φ y).cond)=ZAU φ l
 | []=>rfl
 |y::ys=>by simp[ZAU,ZGO φ ys]
def ZCM(T:FuncId->J8->J7->Option (Bool×D×J7))(df:D)(vs:J8)(cs:Bool)(os:J7):Option (Bool×D×J7):=match df.val with
 | .fn g caps=>(T g (vs++caps) os).map λr=>(df.cond&&(cs&&r.1),r.2)
 |_=>none
def ZCP(T:FuncId->J8->J7->J5)(df:D)(vs:J8)(cs:Bool)(os:J7):J5:=match df.val with
 | .fn g caps=>(T g (vs++caps) os).map λr=>(df.cond&&(cs&&r.1),r.2)
 |_=>none
def ZCR(T:FuncId->J8->J7->Option (Bool×(Nat->D)×Ob))(df:D)(vs:J8)(cs:Bool)(os:J7)(id:Nat):Option (Bool×D×Ob):=match df.val with
 | .fn g caps=>(T g (vs++caps) os).map λr=>(df.cond&&(cs&&r.1),r.2.1 id,r.2.2)
 |_=>none
theorem ZTD(T:FuncId->J8->J7->Option (Bool×D×J7))(φ:J4)(os:J7)(e:IE):ZHa T φ os e=match e with
  | .call f xs=>ZCM T (ZG φ f) (ZBe φ xs) (ZAU φ xs) os
  |_=>none:=by
 cases e<;>first|rfl|skip
 simp only[ZHa,ZHO,ZGO,ZCM];generalize(ZG φ _).val=u;cases u<;>rfl
theorem ZS4(T:FuncId->J8->J7->J5)(φ:J4)(os:J7)(e:IE):ZCi T φ os e=match e with
  | .call f xs=>ZCP T (ZG φ f) (ZBe φ xs) (ZAU φ xs) os
  |_=>none:=by
 cases e<;>first|rfl|skip
 simp only[ZCi,ZHO,ZGO,ZCP];generalize(ZG φ _).val=u;cases u<;>rfl
theorem ZR5(T:FuncId->J8->J7->Option (Bool×(Nat->D)×Ob))(φ:J4)(os:J7)(id:Nat)(e:IE):ZFQ T φ os id e=match e with
  | .call f xs=>ZCR T (ZG φ f) (ZBe φ xs) (ZAU φ xs) os id
  |_=>none:=by
 cases e<;>first|rfl|skip
 simp only[ZFQ,ZHO,ZGO,ZCR];generalize(ZG φ _).val=u;cases u<;>rfl
section
variable {S:Tabs} {os0 os C:J7} {k i id:Nat} {rs:W0} {φ φ':J4} {os':J7} {last:Option J7} {o:IOp} {l:List IOp} {ok:Bool} {d:D} {ob:Ob} {K:J4->J7->Prop}
theorem ZM9(s:List UInt8):(s.map Zs).take s.length=s.map Zs:=YO J1
theorem ZRJ(l:List (List UInt8))(w:List UInt8):rows ZC l++ [[X.str w]]=rows ZC (l++ [w]):=ZCC ZC l [w]
theorem ZPw(s:List UInt8)(i:Nat)(h:i<s.length):(s.map Zs)[i]? =some [X.int .u8 (s[i].toNat:Int)]:=by simp[Zs,h]
theorem ZP2(s:List UInt8):(s.map Zs).length=s.length:=YZ ..
theorem QR(s:List UInt8):(s.map Zs).map ZFI=s:=by
 rw[Jz]
 conv=>rhs;rw[<-ZO7 s]
 refine ZBu (λb _=> ?_);simp[ZFI,Zs]
theorem JM(s:List UInt8):((s.map Zs).all ZFh)=true:=by
 rw[Yg];intro r hr;obtain⟨b,_,rfl⟩:=YR.1 hr;rfl
theorem ZZK{α:Type}(c:RC α):ZM c []=some []:=rfl
theorem ZIW(n:Nat):Nat.beq n n=true:=ZET n
theorem ZMz(m n:Nat)(h:m≠n):Nat.beq m n=false:=by
 cases hb:Nat.beq m n with
 |false=>rfl
 |true=>exact absurd (ZL5 hb) h
theorem ZYE(b:Bool):(b||b==false)=true:=by cases b<;>rfl
theorem ZUu(dk:KK)(ag:Bool)(l:W2):(Ob.mpo dk ag l).map? =some (dk,ag,l):=rfl
theorem ZU9(dk:KK)(ag:Bool)(l:W2)(it:Nat)(R:W2)(cur:Option Pr):(Ob.mit dk ag l it R cur).map? =some (dk,ag,l):=rfl
theorem ZVP(dk:KK)(ag:Bool)(l:W2)(key:J9)(sid:Nat):(Ob.mpn dk ag l key sid).map? =some (dk,ag,l):=rfl
theorem ZVR(dk:KK)(ag:Bool)(l:W2):(Ob.mpo dk ag l).upd? =some (dk,ag,l):=rfl
theorem ZU3(dk:KK)(ag:Bool)(l:W2)(key:J9)(sid:Nat):(Ob.mpn dk ag l key sid).upd? =some (dk,ag,l):=rfl
theorem ZVZ(k:IntKind)(n:Int):QU (.int k) (.x (.int k n))=some [.int k n]:=by simp[QU]
theorem ZU8(s:List UInt8):QU .str (.x (.str s))=some [.str s]:=rfl
theorem ZR9(k:IntKind)(n:Int):keyD (.int k) [.int k n]= .x (.int k n):=rfl
theorem ZSb(s:List UInt8):keyD .str [.str s]= .x (.str s):=rfl
theorem ZRS(d:D):ZFU false [d]=d:=rfl
theorem ZVp(ds:J8):ZFU true ds= .agg ds:=rfl
theorem Zge(y:X):agD (.x y)=false:=rfl
theorem ZZW(ds:J8):agD (.agg ds)=true:=rfl
theorem ZYI(a b c d:Nat):agD (.ref a b c d)=false:=rfl
theorem ZZC(a b:Nat):agD (.ptr a b)=false:=rfl
theorem ZVe(a:Nat):agD (.mref a)=false:=rfl
theorem Zgp(k:KK):(k=k)=True:=eq_self k
theorem Zgz(b:Bool):(b=b)=True:=eq_self b
theorem Zga(b:Nat):(b=b)=True:=eq_self b
theorem ZRw(k:J9):Ju [] k=none:=rfl
def Zgm(N it:Nat)(_:J4)(os:J7):Nat:=match os[it]? with|some (.sit _ p)=>N-p|_=>0
def ZO1(mid:Nat)(_:J4)(os:J7):Nat:=match os[mid]? with|some (.mit _ _ _ _ R _)=>R.length|_=>0
theorem osN(h:K φ os):Yk (YK S true φ os []) K:=⟨true,φ,os,rfl,rfl,h⟩
theorem osS(he:JK S φ os o=some (ok,φ',os'))(hok:ok=true)(h:Yk (YK S true φ' os' l) K):Yk (YK S true φ os (o::l)) K:=by
 subst hok;simp only[YK,he,Qh];exact h
theorem dsN(h:K φ (last.getD (os0++C))):Yk (Yi S os0 k rs i true φ id os C last []) K:=⟨true,φ,_,rfl,rfl,h⟩
theorem dsF(hf:o.e.frame=true)(he:(Yd S φ [] o).map (λr=>(r.1,putO φ o.dst r.2))=some (ok,φ'))(hok:ok=true)(h:Yk (Yi S os0 k rs (i+1) true φ' id os C last l) K):Yk (Yi S os0 k rs i true φ id os C last (o::l)) K:=by
 subst hok;obtain⟨r,h1,h2⟩:=Za he;simp only[YN]at h2;obtain⟨h2,rfl⟩:=h2;simp only[Yi,hf,if_true,h1,h2,Qh];exact h
theorem dsQ(hf:o.e.frame=false)(hm:Zi i rs=false)(hk:Nat.ble (i+1) k=true)(he:(Yd S φ os0 o).map (λr=>(r.1,putO φ o.dst r.2))=some (ok,φ'))(hok:ok=true)(h:Yk (Yi S os0 k rs (i+1) true φ' id os C last l) K):Yk (Yi S os0 k rs i true φ id os C last (o::l)) K:=by
 subst hok;obtain⟨r,h1,h2⟩:=Za he;simp only[YN]at h2;obtain⟨h2,rfl⟩:=h2;have hk':i<k:=ξ hk;simp only[Yi,hf,hm,if_true,h1,h2,hk',Qh,JV,if_false];exact h
theorem ZYx{S:Tabs}{φ:J4}{os0 os:J7}{id:Nat}{o:IOp}{r:Bool×D×Ob}(h:QB S φ os0 id o=some r):ZFY φ os o=none:=by
 obtain⟨dst,e,g⟩:=o;cases g with
 |some p=>rfl
 |none=>
  cases e with
  |b2s x=>simp[QB,evC,QY,ZFQ]at h
  |_=>rfl
theorem dsK(hf:o.e.frame=false)(hm:Zi i rs=false)(hk:Nat.ble (i+1) k=true)(hn:Yd S φ os0 o=none)(he:(QB S φ os0 id o).map (λr=>(r.1,putO φ o.dst r.2.1,r.2.2))=some (ok,φ',ob))(hok:ok=true)(h:Yk (Yi S os0 k rs (i+1) true φ' (id+1) (os++ [ob]) (C++ [ob]) last l) K):Yk (Yi S os0 k rs i true φ id os C last (o::l)) K:=by
 subst hok;obtain⟨r,h1,h2⟩:=Za he;simp only[YN]at h2;obtain⟨h2,rfl,rfl⟩:=h2;have hk':i<k:=ξ hk;simp only[Yi,hf,hm,if_true,hn,ZYx h1,h1,h2,hk',Qh,JV,if_false];exact h
theorem dsA(hf:o.e.frame=false)(hm:Zi i rs=false)(hk:Nat.ble (i+1) k=false)(he:(KN S φ os o).map (λr=>(r.1&&(match rs with| []=>true|_=>KT os0 r.2.2),putO φ o.dst r.2.1,r.2.2))=some (ok,φ',os'))(hok:ok=true)(h:Yk (Yi S os0 k rs (i+1) true φ' id os' C (some os') l) K):Yk (Yi S os0 k rs i true φ id os C last (o::l)) K:=by
 subst hok;obtain⟨r,h1,h2⟩:=Za he;simp only[YN]at h2;obtain⟨h2,rfl,rfl⟩:=h2;have hk': ¬i<k:=λh=>GY
 simp only[Yi,hf,hm,h1,h2,hk',ZA0,JV,if_false];exact h
end
section
variable {κ β:Type} (kc:κ->J9) (vc:β->J9)
def Yv(L:List (κ×β)):W2:=L.map λp=>(kc p.1,(vc p.2).map D.x)
theorem ZJP(L:List (κ×β)):(Yv kc vc L).length=L.length:=by simp[Yv]
theorem Zd4(L:List (κ×β))(i:Nat):(Yv kc vc L)[i]? =(L[i]?).map λp=>(kc p.1,(vc p.2).map D.x):=by simp[Yv]
theorem Zgy(f:Nat->Nat)(l:J9):YA f (l.map D.x)=l.map D.x:=by
 rw[QP,Jz];rfl
theorem ZiT(p:Nat->Bool)(l:J9):JE p (l.map D.x)=true:=by
 rw[ZBw,Yg];intro d hd;obtain⟨x,_,rfl⟩:=YR.1 hd;rfl
theorem Zgd(l:J9):Jq (l.map D.x)= []:=by
 induction l with
 |nil=>rfl
 |cons x l ih=>simp only[YM,Jq,ZE7,ih];rfl
theorem ZjS(ρ:W0)(os:J7)(l:J9):(l.map D.x).map (onF ρ os)=l.map D.x:=by
 rw[Jz];refine ZBu λx _=> ?_
 simp only[Function.comp,onF,D.vw,D.on,D.inP,if_true]
theorem ZAv(f:Nat->Nat)(L:List (κ×β)):(Yv kc vc L).map (Jn f)=Yv kc vc L:=by
 rw[Yv,Jz];refine ZBu λp _=> ?_
 simp only[Function.comp,Jn,Zgy]
theorem ZDC(L:List (κ×β)):ZB9 (Yv kc vc L)= []:=by
 induction L with
 |nil=>rfl
 |cons p L ih=>simp only[Yv,YM,ZB9,Zgd]at ih|-;exact ih
theorem ZAR(p:Nat->Bool)(L:List (κ×β)):(Yv kc vc L).all (ZAS p)=true:=by
 rw[Yg];intro q hq;obtain⟨r,_,rfl⟩:=YR.1 hq;exact ZiT p _
theorem ZFL(ρ:W0)(os:J7)(L:List (κ×β)):(Yv kc vc L).map (mpP (onF ρ os))=Yv kc vc L:=by
 rw[Yv,Jz];refine ZBu λp _=> ?_
 simp only[Function.comp,mpP,ZjS]
theorem ZIf(L:List (κ×β))(i:Nat):(Yv kc vc L).eraseIdx i=Yv kc vc (L.eraseIdx i):=by
 induction L generalizing i with
 |nil=>rfl
 |cons p L ih=>cases i with
  |zero=>rfl
  |succ i=>simp only[Yv,YM,Za2]at ih|-;rw[ih]
variable [DecidableEq κ] (hk: ∀a b:κ,ZCc (kc a) (kc b)=decide (a=b))
include hk
theorem ZE5(L:List (κ×β))(c:κ):Ju (Yv kc vc L) (kc c)=(ZF L c).map λv=>(vc v).map D.x:=by
 induction L with
 |nil=>rfl
 |cons p L ih=>
  simp only[Yv,YM,Ju,hk]at ih|-;by_cases h:c=p.1
  .simp[ZF,h]
  .simp only[h,decide_false,JV,if_false];rw[ih];simp[ZF,h]
theorem ZDq(L:List (κ×β))(c:κ)(v:β):Yo (Yv kc vc L) (kc c) ((vc v).map D.x)=Yv kc vc (Zu L c v):=by
 induction L with
 |nil=>rfl
 |cons p L ih=>
  simp only[Yv,YM,Yo,hk,Zu]at ih|-;by_cases h:c=p.1
  .simp[h]
  .simp only[h,decide_false,JV,if_false];rw[ih];simp
theorem ZcX(L:List (κ×β))(c:κ):ZCH (Yv kc vc L) (kc c)=Yv kc vc (Zh L c):=by
 induction L with
 |nil=>rfl
 |cons p L ih=>
  simp only[Yv,YM,ZCH,hk,Zh]at ih|-;by_cases h:c=p.1
  .simp[h]
  .simp only[h,decide_false,JV,if_false];rw[ih];simp
end
def unM{κ β:Type}(c:RC κ)(d:RC β):W2->Option (List (κ×β))
 | []=>some []
 |q::M=>(c.dec q.1).bind λa=>(ZED q.2).bind λxs=>(d.dec xs).bind λb=>(unM c d M).map λL=>(a,b)::L
theorem ZLV: ∀l:J9,ZED (l.map D.x)=some l
 | []=>rfl
 |x::l=>by simp only[YM,ZED,ZLV l,Yr]
theorem ZTW{κ β:Type}{c:RC κ}{d:RC β}(hc:c.Good)(hd:d.Good): ∀L:List (κ×β),unM c d (Yv c.enc d.enc L)=some L
 | []=>rfl
 |p::L=>by
  have ih:=ZTW hc hd L;simp only[Yv,YM,unM,hc.de,hd.de,ZLV,ZBA]at ih|-;rw[ih];rfl
theorem ZCW{κ β:Type}{c:RC κ}{d:RC β}(hc:c.Good)(hd:d.Good): ∀ {M:W2} {L:List (κ×β)},unM c d M=some L->M=Yv c.enc d.enc L
 | [],L,h=>Gi
 |q::M,L,h=>by
  simp only[unM]at h;obtain⟨a,h1,h⟩:=Zf h;obtain⟨xs,h2,h⟩:=Zf h;obtain⟨b,h3,h⟩:=Zf h;obtain⟨L',h4,rfl⟩:=Za h;have e:=ZCW hc hd h4;obtain⟨q1,q2⟩:=q;simp only at h1 h2;rw[e,ZHz h2];rw[<-hc.ed _ _ h1,<-hd.ed _ _ h3];rfl
abbrev kcI(n:Int):J9:= [.int .i64 n]
abbrev Km(s:List UInt8):J9:= [.str s]
theorem hkS(a b:List UInt8):ZCc (Km a) (Km b)=decide (a=b):=by
 simp only[Km,ZCc,X.keq,Qh];rw[Qg];simp
section
variable {κ β:Type} [DecidableEq κ]
def ZIE(L:List (κ×β)):Prop:=(L.map (·.1)).Nodup
theorem ZHU{A:List (κ×β)}(hn:ZIE A)(c:κ)(v:β):ZF A c=some v↔(c,v)∈A:=by
 refine⟨JS,λh=>ZEO hn h⟩
theorem ZWJ{A B:List (κ×β)}(h:A.Perm B)(hn:ZIE A)(c:κ):ZF A c=ZF B c:=by
 have hn':ZIE B:=(h.map _).nodup_iff.1 hn;cases hA:ZF A c with
 |some v=>exact((ZHU hn' c v).2 (h.mem_iff.1 ((ZHU hn c v).1 hA))).symm
 |none=>
  cases hB:ZF B c with
  |none=>rfl
  |some v=>rw[(ZHU hn c v).2 (h.mem_iff.2 ((ZHU hn' c v).1 hB))]at hA;cases hA
theorem ZKO{A:List (κ×β)}{c:κ}{v:β}(h:ZF A c=some v):A.Perm ((c,v)::Zh A c):=by
 induction A with
 |nil=>simp[ZF]at h
 |cons p A ih=>
  by_cases e:c=p.1
  .have:ZF (p::A) c=some p.2:=Nj
   rw[this]at h;cases h;have hd:Zh (p::A) c=A:=by simp[Zh,e]
   rw[hd,e]
  .have hl:ZF (p::A) c=ZF A c:=Nj
   rw[hl]at h;have hd:Zh (p::A) c=p::Zh A c:=by simp[Zh,e]
   rw[hd];exact((ih h).cons p).trans (List.Perm.swap _ _ _)
theorem ZQZ{A:List (κ×β)}{c:κ}(h:ZF A c=none):Zh A c=A:=by
 induction A with
 |nil=>rfl
 |cons p A ih=>
  by_cases e:c=p.1
  .simp[ZF,e]at h
  .have hl:ZF (p::A) c=ZF A c:=Nj
   rw[hl]at h;simp[Zh,e,ih h]
theorem ZLh{A:List (κ×β)}(hn:ZIE A)(c:κ):Zh A c=A.filter λp=>decide (p.1≠c):=by
 induction A with
 |nil=>rfl
 |cons p A ih=>
  unfold ZIE at hn ih;simp only[YM,ZBE]at hn;by_cases e:c=p.1
  .have hd:Zh (p::A) c=A:=by simp[Zh,e]
   rw[hd,ZGu,if_neg (by simp[e]),eq_comm,Zct];intro q hq;simp only[ne_eq,Ym];intro h2;exact hn.1 (YR.2 ⟨q,hq,by rw[h2,e]⟩)
  .have hd:Zh (p::A) c=p::Zh A c:=by simp[Zh,e]
   rw[hd,ZGu,if_pos (by simp[Ne.symm e]),ih hn.2]
theorem ZBR{A:List (κ×β)}{c:κ}{w:β}(h:ZF A c=none):Zu A c w=A++ [(c,w)]:=by
 induction A with
 |nil=>rfl
 |cons p A ih=>
  by_cases e:c=p.1
  .simp[ZF,e]at h
  .have hl:ZF (p::A) c=ZF A c:=Nj
   rw[hl]at h;simp[Zu,e,ih h]
theorem ZcL{A:List (κ×β)}{c:κ}{v w:β}(h:ZF A c=some v):(Zu A c w).Perm ((c,w)::Zh A c):=by
 induction A with
 |nil=>simp[ZF]at h
 |cons p A ih=>
  by_cases e:c=p.1
  .have h1:Zu (p::A) c w=(c,w)::A:=by simp[Zu,e]
   have h2:Zh (p::A) c=A:=by simp[Zh,e]
   rw[h1,h2]
  .have hl:ZF (p::A) c=ZF A c:=Nj
   rw[hl]at h;have h1:Zu (p::A) c w=p::Zu A c w:=by simp[Zu,e]
   have h2:Zh (p::A) c=p::Zh A c:=by simp[Zh,e]
   rw[h1,h2];exact((ih h).cons p).trans (List.Perm.swap _ _ _)
theorem ZBz(A:List (κ×β))(c:κ)(w:β):(Zu A c w).Perm ((c,w)::Zh A c):=by
 cases h:ZF A c with
 |some v=>exact ZcL h
 |none=>rw[ZBR h,ZQZ h];exact List.perm_append_singleton _ _
theorem ZKZ{A B:List (κ×β)}(h:A.Perm B)(hn:ZIE A)(c:κ):(Zh A c).Perm (Zh B c):=by
 rw[ZLh hn,ZLh ((h.map _).nodup_iff.1 hn)];exact h.filter _
theorem Zba{A:List (κ×β)}{c:κ}{v:β}(h:ZF A c=some v):A.length=(Zh A c).length+1:=by
 have:=(ZKO h).length_eq;exact V4
theorem Zfa(A:List (κ×β))(c:κ):(Zh A c).length<=A.length:=by
 cases h:ZF A c with
 |none=>rw[ZQZ h];exact Zp _
 |some v=>have:=Zba h;omega
end
abbrev QK(P:Program)(g:J8->J5)(f:FuncId):Prop:= ∀args r,g args=some (true,r)->ZK P f args r
abbrev TK(P:Program)(g:J8->J7->Option (Bool×D×J7))(f:FuncId):Prop:= ∀args os r os',g args os=some (true,r,os')->ZQ P f args os r os'
abbrev RK(P:Program)(g:J8->J7->J5)(f:FuncId):Prop:= ∀args os r,g args os=some (true,r)->r.clean=true/\ ∃X,ZQ P f args os r (os++X)
theorem un{α γ:Type}{c:RC α}(hc:c.Good){R:J6}{k:List α->Option γ}{z:γ}(h:(ZM c R).bind k=some z): ∃l,R=rows c l/\k l=some z:=by
 obtain⟨l,h1,h2⟩:=Zf h;exact⟨l,(YU hc h1).symm,h2⟩
theorem um{κ β γ:Type}{c:RC κ}{d:RC β}(hc:c.Good)(hd:d.Good){R:W2}{k:List (κ×β)->Option γ}{z:γ}(h:(unM c d R).bind k=some z): ∃l,R=Yv c.enc d.enc l/\k l=some z:=by
 obtain⟨l,h1,h2⟩:=Zf h;exact⟨l,ZCW hc hd h1,h2⟩
section
variable {γ:Type} {z w:γ} {r0 r:D} {o0 o:J7} {p q s t:Prop} [Decidable p] [Decidable q] [Decidable s] [Decidable t]
theorem Qv(h:some (true,z)=some (true,w)):z=w:=WJ
theorem Yu(h:some (decide p,z)=some (true,w)):p/\z=w:=WJ
theorem fn2(h:some (decide p&&decide q,z)=some (true,w)):p/\q/\z=w:=by simpa[and_assoc]using h
theorem fn3(h:some (decide p&&(decide q&&decide s),z)=some (true,w)):p/\q/\s/\z=w:=by simpa[and_assoc]using h
theorem tn1(h:some (decide p,r0,o0)=some (true,r,o)):p/\r0=r/\o0=o:=WJ
end
theorem zQ:(∀S f g h a,(ZDy S f g).q h a=if h=f then g a else S.q h a)/\(∀S f g,(ZDy S f g).t=S.t)/\(∀S f g,(ZDy S f g).r=S.r)/\(∀S f g,(ZDy S f g).k=S.k)/\
  (∀S f g h a o,(ZHs S f g).t h a o=if h=f then ZAa g a o else S.t h a o)/\(∀S f g,(ZHs S f g).q=S.q)/\(∀S f g,(ZHs S f g).r=S.r)/\(∀S f g,(ZHs S f g).k=S.k)/\
  (∀S f g h a o,(ZHw S f g).t h a o=if h=f then(ZBP g a o).map λr=>(r.1,r.2,o)else S.t h a o)/\(∀S f g h a o,(ZHw S f g).r h a o=if h=f then ZBP g a o else S.r h a o)/\(∀S f g,(ZHw S f g).q=S.q)/\(∀S f g,(ZHw S f g).k=S.k)/\
  (∀S f g h a o,(ZKf S f g).t h a o=if h=f then ZAa (λargs os=>(g args os).map λq=>(q.1,q.2.1,os++ [q.2.2])) a o else S.t h a o)/\(∀S f g h a o,(ZKf S f g).k h a o=if h=f then ZDp g a o else S.k h a o)/\(∀S f g,(ZKf S f g).q=S.q)/\(∀S f g,(ZKf S f g).r=S.r):=
 ⟨λ_ _ _ _ _=>rfl,λ_ _ _=>rfl,λ_ _ _=>rfl,λ_ _ _=>rfl,λ_ _ _ _ _ _=>rfl,λ_ _ _=>rfl,λ_ _ _=>rfl,λ_ _ _=>rfl,λ_ _ _ _ _ _=>rfl,λ_ _ _ _ _ _=>rfl,λ_ _ _=>rfl,λ_ _ _=>rfl,λ_ _ _ _ _ _=>rfl,λ_ _ _ _ _ _=>rfl,λ_ _ _=>rfl,λ_ _ _=>rfl⟩
theorem rk{P:Program}{f:FuncId}{args:J8}{os:J7}{r:D}(h:ZQ P f args os r os)(hc:r.clean=true:=by rfl):r.clean=true/\ ∃X,ZQ P f args os r (os++X):=⟨hc,[],by rw[Ks];exact h⟩
open Go Go.RowKit Go.Bo
theorem zC:type_of% @Yr.{0,0}/\type_of% @ZBA.{0,0}/\type_of% @Qh/\type_of% @ZA0/\type_of% @JV:=
 ⟨@Yr.{0,0},@ZBA.{0,0},@Qh,@ZA0,@JV⟩
theorem zG:type_of% @ZOU/\type_of% @ZMU/\type_of% @ZEL/\type_of% @ZFu/\type_of% @ZD3/\type_of% @ZEv/\type_of% @ZE0/\type_of% @ZFA/\type_of% @beq_self_eq_true.{0}/\type_of% @ZYE/\type_of% @ZOb/\type_of% @Bool.not_or_self/\type_of% @Bool.or_not_self/\type_of% @beq_true/\type_of% @beq_false/\type_of% @Bool.not_not:=
 ⟨@ZOU,@ZMU,@ZEL,@ZFu,@ZD3,@ZEv,@ZE0,@ZFA,@beq_self_eq_true.{0},@ZYE,@ZOb,@Bool.not_or_self,@Bool.or_not_self,@beq_true,@beq_false,@Bool.not_not⟩
theorem zL:type_of% @ZC2.{0}/\type_of% @ZBn.{0}/\type_of% @ZCa.{0}/\type_of% @ZB6.{0}/\type_of% @ZEb.{0}/\type_of% @Qy.{0}/\type_of% @List.drop_nil.{0}/\type_of% @List.take_nil.{0}/\type_of% @JB.{0}/\type_of% @ξN.{0}/\type_of% @YM.{0,0}/\type_of% @ZAf.{0,0}/\type_of% @ξX.{0}/\type_of% @QW.{0}/\type_of% @ZDX.{0}/\type_of% @ZCJ.{0}/\type_of% @JP/\type_of% @Je/\type_of% @if_true.{1}/\type_of% @decide_true:=
 ⟨@ZC2.{0},@ZBn.{0},@ZCa.{0},@ZB6.{0},@ZEb.{0},@Qy.{0},@List.drop_nil.{0},@List.take_nil.{0},@JB.{0},@ξN.{0},@YM.{0,0},@ZAf.{0,0},@ξX.{0},@QW.{0},@ZDX.{0},@ZCJ.{0},@JP,@Je,@if_true.{1},@decide_true⟩
theorem zR:type_of% @ZP/\type_of% @ZTI/\type_of% @ZPw/\type_of% @ZP2/\type_of% @ZRA/\type_of% @ZTm/\type_of% @ZQP/\type_of% @ZR3/\type_of% @ZVH/\type_of% @ZRN/\type_of% @ZRv/\type_of% @ZHi/\type_of% @Int.natCast_nonneg:=
 ⟨@ZP,@ZTI,@ZPw,@ZP2,@ZRA,@ZTm,@ZQP,@ZR3,@ZVH,@ZRN,@ZRv,@ZHi,@Int.natCast_nonneg⟩
theorem zB:type_of% @ZBW/\type_of% @Zk/\type_of% @ZGo/\type_of% @ZTx/\type_of% @ZWC/\type_of% @Bool.not_eq_false'/\type_of% @Ym/\type_of% @decide_eq_false_iff_not/\type_of% @ZMj/\type_of% @gt_iff_lt.{0}/\type_of% @ge_iff_le.{0}/\type_of% @Int.not_lt/\type_of% @Int.not_le/\type_of% @bne_iff_ne.{0}/\type_of% @ne_eq.{1}/\type_of% @beq_iff_eq.{0}/\type_of% @bne_eq_false_iff_eq.{0}/\type_of% @beq_eq_false_iff_ne.{0}:=
 ⟨@ZBW,@Zk,@ZGo,@ZTx,@ZWC,@Bool.not_eq_false',@Ym,@decide_eq_false_iff_not,@ZMj,@gt_iff_lt.{0},@ge_iff_le.{0},@Int.not_lt,@Int.not_le,@bne_iff_ne.{0},@ne_eq.{1},@beq_iff_eq.{0},@bne_eq_false_iff_eq.{0},@beq_eq_false_iff_ne.{0}⟩
theorem zF:type_of% @zL/\type_of% @zR/\type_of% @Yr.{0,0}/\type_of% @ZBA.{0,0}/\type_of% @Qh/\type_of% @ZA0/\type_of% @ZB1/\type_of% @ZB0/\type_of% @ZCC/\type_of% @ZW.{0}/\type_of% @JX.{0}:=
 ⟨@zL,@zR,@Yr.{0,0},@ZBA.{0,0},@Qh,@ZA0,@ZB1,@ZB0,@ZCC,@ZW.{0},@JX.{0}⟩
theorem zV:type_of% @YM.{0,0}/\type_of% @ZAf.{0,0}/\type_of% @ZC2.{0}/\type_of% @ZBn.{0}/\type_of% @ZDX.{0}/\type_of% @ZCJ.{0}/\type_of% @ZJu.{0}/\type_of% @ZTs.{0}/\type_of% @JP/\type_of% @Je/\type_of% @ZEL/\type_of% @ZFu/\type_of% @ZD3/\type_of% @ZEv/\type_of% @Qh/\type_of% @ZA0/\type_of% @ZE0/\type_of% @ZFA/\type_of% @if_true.{1}/\type_of% @if_false.{1}/\type_of% @ZP/\type_of% @ZB1/\type_of% @ZB0/\type_of% @ZCC/\type_of% @ZW.{0}/\type_of% @JB.{0}/\type_of% @ξN.{0}/\type_of% @beq_self_eq_true.{0}/\type_of% @JV/\type_of% @ZCa.{0}/\type_of% @Nat.beq_eq/\type_of% @ZIW/\type_of% @ZMz:=
 ⟨@YM.{0,0},@ZAf.{0,0},@ZC2.{0},@ZBn.{0},@ZDX.{0},@ZCJ.{0},@ZJu.{0},@ZTs.{0},@JP,@Je,@ZEL,@ZFu,@ZD3,@ZEv,@Qh,@ZA0,@ZE0,@ZFA,@if_true.{1},@if_false.{1},@ZP,@ZB1,@ZB0,@ZCC,@ZW.{0},@JB.{0},@ξN.{0},@beq_self_eq_true.{0},@JV,@ZCa.{0},@Nat.beq_eq,@ZIW,@ZMz⟩
theorem zW:type_of% @ZJu.{0}/\type_of% @ZTs.{0}/\type_of% @ZIW/\type_of% @ZMz/\type_of% @ZH2/\type_of% @Ks.{0}/\type_of% @Zp:=
 ⟨@ZJu.{0},@ZTs.{0},@ZIW,@ZMz,@ZH2,@Ks.{0},@Zp⟩
theorem zM:type_of% @zL/\type_of% @zG/\type_of% @zR/\type_of% @zC/\type_of% @decide_false/\type_of% @IntWalk.i64_in/\type_of% @ZHh/\type_of% @ZIz/\type_of% @ZB1/\type_of% @ZB0/\type_of% @ZCC/\type_of% @ZJc/\type_of% @ZI7/\type_of% @ZHF/\type_of% @ZGM/\type_of% @ZFV/\type_of% @QR/\type_of% @JM/\type_of% @ZJ9.{0}/\type_of% @ZAC.{0,0}/\type_of% @ZGv.{0,0}/\type_of% @ZWb/\type_of% @ZWI/\type_of% @ZME.{0}/\type_of% @ZRK.{0}/\type_of% @ZAQ.{0,0,0}/\type_of% @ZOs.{0,0,0}/\type_of% @ZBD.{0}/\type_of% @KE.{0}/\type_of% @true_and/\type_of% @and_true/\type_of% @if_false.{1}/\type_of% @bne_self_eq_false.{0}/\type_of% @ZAL.{0}/\type_of% @ZFG.{0}:=
 ⟨@zL,@zG,@zR,@zC,@decide_false,@IntWalk.i64_in,@ZHh,@ZIz,@ZB1,@ZB0,@ZCC,@ZJc,@ZI7,@ZHF,@ZGM,@ZFV,@QR,@JM,@ZJ9.{0},@ZAC.{0,0},@ZGv.{0,0},@ZWb,@ZWI,@ZME.{0},@ZRK.{0},@ZAQ.{0,0,0},@ZOs.{0,0,0},@ZBD.{0},@KE.{0},@true_and,@and_true,@if_false.{1},@bne_self_eq_false.{0},@ZAL.{0},@ZFG.{0}⟩
theorem zS:type_of% @zL/\type_of% @zG/\type_of% @zR/\type_of% @zC/\type_of% @Ob.beq_refl/\type_of% @ZME.{0}/\type_of% @ZRK.{0}/\type_of% @QR/\type_of% @JM/\type_of% @ZZK/\type_of% @ZJc/\type_of% @ZI7/\type_of% @ZHF/\type_of% @ZGM/\type_of% @ZFV/\type_of% @ZJ9.{0}/\type_of% @ZB1/\type_of% @ZB0/\type_of% @ZCC/\type_of% @ZU2/\type_of% @ZVE/\type_of% @ZRk/\type_of% @ZPV/\type_of% @ZNu/\type_of% @ZMH.{0}/\type_of% @Qu.{0}/\type_of% @ZHh/\type_of% @ZIz/\type_of% @ZGv.{0,0}/\type_of% @ZAC.{0,0}/\type_of% @Yk.some_iff/\type_of% @true_and/\type_of% @and_true/\type_of% @if_false.{1}/\type_of% @ZAL.{0}/\type_of% @ZFG.{0}/\type_of% @ZAQ.{0,0,0}/\type_of% @ZOs.{0,0,0}/\type_of% @ZBD.{0}/\type_of% @KE.{0}/\type_of% @decide_false/\type_of% @ZWb/\type_of% @ZWI/\type_of% @ZGo/\type_of% @ZTD/\type_of% @ZS4/\type_of% @ZR5/\type_of% @bne_self_eq_false.{0}/\type_of% @Bool.bne_false/\type_of% @Bool.bne_true:=
 ⟨@zL,@zG,@zR,@zC,@Ob.beq_refl,@ZME.{0},@ZRK.{0},@QR,@JM,@ZZK,@ZJc,@ZI7,@ZHF,@ZGM,@ZFV,@ZJ9.{0},@ZB1,@ZB0,@ZCC,@ZU2,@ZVE,@ZRk,@ZPV,@ZNu,@ZMH.{0},@Qu.{0},@ZHh,@ZIz,@ZGv.{0,0},@ZAC.{0,0},@Yk.some_iff,@true_and,@and_true,@if_false.{1},@ZAL.{0},@ZFG.{0},@ZAQ.{0,0,0},@ZOs.{0,0,0},@ZBD.{0},@KE.{0},@decide_false,@ZWb,@ZWI,@ZGo,@ZTD,@ZS4,@ZR5,@bne_self_eq_false.{0},@Bool.bne_false,@Bool.bne_true⟩
theorem zO:type_of% @ZUu/\type_of% @ZU9/\type_of% @ZVP/\type_of% @ZVR/\type_of% @ZU3/\type_of% @ZVZ/\type_of% @ZU8/\type_of% @ZR9/\type_of% @ZSb/\type_of% @ZRS/\type_of% @ZVp/\type_of% @Zge/\type_of% @ZZW/\type_of% @ZYI/\type_of% @ZZC/\type_of% @ZVe/\type_of% @Zgp/\type_of% @Zgz/\type_of% @Zga/\type_of% @ZRw/\type_of% @ZAv/\type_of% @ZDC/\type_of% @ZAR/\type_of% @ZFL/\type_of% @ZJP/\type_of% @ZIf:=
 ⟨@ZUu,@ZU9,@ZVP,@ZVR,@ZU3,@ZVZ,@ZU8,@ZR9,@ZSb,@ZRS,@ZVp,@Zge,@ZZW,@ZYI,@ZZC,@ZVe,@Zgp,@Zgz,@Zga,@ZRw,@ZAv,@ZDC,@ZAR,@ZFL,@ZJP,@ZIf⟩
section
variable {P:Program} {c:Ctx} {E0:Env} {os0 os:J7} {n:Nat} {Q:Exit->J4->J7->Prop} {φ:J4}
theorem WI.regB{S:Tabs}(hS:SsOk P S)(ks:W0){l:List IOp}(h:Yk (YK S true φ os l) (λφ' os'=>Q .normal (Go.Ab.keep ks φ') os')):WI P c E0 os0 n (.reg l) Q φ os:=
 WI.regA hS ks (λK hK=>by
  obtain⟨ok,φ',os',h1,h2,h3⟩:=h;exact⟨ok,φ',os',h1,h2,hK _ _ h3⟩)
theorem WI.dregB{S:Tabs}(hS:SsOk P S)(ks:W0){k k2:Nat}{rs rs2:W0}{l:List IOp}(h:Yk (Yi S os k rs 0 true φ os.length os [] none l) (λφ' os'=>Q .normal (Go.Ab.keep ks φ') os')):WI P c E0 os0 n (.dreg k rs k2 rs2 l) Q φ os:=
 WI.dregA hS ks (λK hK=>by
  obtain⟨ok,φ',os',h1,h2,h3⟩:=h;exact⟨ok,φ',os',h1,h2,hK _ _ h3⟩)
theorem WI.post{ic:IC}(h:WI P c E0 os0 n ic (λx φ os=> ∃φ2 os2,Wk c E0 os0 n φ os φ2 os2/\Q x φ2 os2) φ os):WI P c E0 os0 n ic Q φ os:=by
 intro code hc E a R hf;refine wp_mono (h code hc E a R hf) ?_;rintro x a' w' ⟨E',φ',os',rfl,R',hf',φ2,os2,hw,hq⟩;obtain⟨E2,e2,R2,f2⟩:=hw E' a' R' hf';exact⟨E2,φ2,os2,e2,R2,f2,hq⟩
theorem Wk.refl:Wk c E0 os0 n φ os φ os:=λE a R hf=>⟨E,rfl,R,hf⟩
theorem Wk.trans{φ1 φ2:J4}{os1 os2:J7}(h:Wk c E0 os0 n φ os φ1 os1)(h':Wk c E0 os0 n φ1 os1 φ2 os2):Wk c E0 os0 n φ os φ2 os2:=λE a R hf=>by
 obtain⟨E1,e1,R1,f1⟩:=h E a R hf;obtain⟨E2,e2,R2,f2⟩:=h' E1 a R1 f1;exact⟨E2,e2.trans e1,R2,f2⟩
theorem oP{S:Tabs}{ks:W0}{φ':J4}(h: ∃φ2 os2,Wk c E0 os0 n φ' os φ2 os2/\Q .normal φ2 os2)(hk:keep ks φ=φ':=by exact Vj):Yk (YK S true φ os []) (λφ' os'=> ∃φ2 os2,Wk c E0 os0 n (keep ks φ') os' φ2 os2/\Q .normal φ2 os2):=osN (by rw[hk];exact h)
theorem dP{S:Tabs}{ks rs:W0}{k i id:Nat}{C os1 os':J7}{last:Option J7}{φ':J4}(h: ∃φ2 os2,Wk c E0 os0 n φ' os' φ2 os2/\Q .normal φ2 os2)(hk:keep ks φ=φ':=by exact Vj)(hl:last.getD (os1++C)=os':=by simp only[ZMH,Qu,Ks,ξX,QW];rfl):Yk (Yi S os1 k rs i true φ id os C last []) (λφ' os'=> ∃φ2 os2,Wk c E0 os0 n (keep ks φ') os' φ2 os2/\Q .normal φ2 os2):=dsN (by rw[hk,hl];exact h)
theorem KR(h:Q .normal φ os): ∃φ2 os2,Wk c E0 os0 n φ os φ2 os2/\Q .normal φ2 os2:=⟨φ,os,Wk.refl,h⟩
theorem Jm(ρ:W0){φ':J4}{os':J7}(h: ∃φ2 os2,Wk c E0 os0 n φ' os' φ2 os2/\Q .normal φ2 os2)(hok:ZPI ρ os0.length os.length=true:=by rfl)(hp:ZBg ρ os φ=φ':=by exact WD)(ho:ZCs ρ os=os':=by exact WD): ∃φ2 os2,Wk c E0 os0 n φ os φ2 os2/\Q .normal φ2 os2:=by
 obtain⟨φ2,os2,h1,h2⟩:=h;subst hp ho;exact⟨φ2,os2,(Wk.pick ρ hok).trans h1,h2⟩
theorem Zec(l:W0){os':J7}(h: ∃φ2 os2,Wk c E0 os0 n φ os' φ2 os2/\Q .normal φ2 os2)(ho:frzL l os=os':=by simp only[frzL,ZC2,ZBn,ZDX,ZCJ];rfl): ∃φ2 os2,Wk c E0 os0 n φ os φ2 os2/\Q .normal φ2 os2:=by
 obtain⟨φ2,os2,h1,h2⟩:=h;subst ho;exact⟨φ2,os2,(Wk.freeze l).trans h1,h2⟩
theorem WI.nnA{ic:IC}{φ':J4}{os':J7}(h:WI P c E0 os0 n ic Q φ' os')(hp:ZDv φ=φ':=by exact Uk)(ho:os.map (Ob.mpb D.nn)=os':=by exact Uk):WI P c E0 os0 n ic Q φ os:=WI.nn (by rw[hp,ho];exact h)
theorem WI.pickA(ρ:W0){ic:IC}{φ':J4}{os':J7}(h:WI P c E0 os0 n ic Q φ' os')(hok:ZPI ρ os0.length os.length=true:=by rfl)(hp:ZBg ρ os φ=φ':=by exact WD)(ho:ZCs ρ os=os':=by exact WD):WI P c E0 os0 n ic Q φ os:=WI.pick ρ hok (by rw[hp,ho];exact h)
theorem WI.freezeA(l:W0){ic:IC}{os':J7}(h:WI P c E0 os0 n ic Q φ os')(ho:frzL l os=os':=by simp only[frzL,ZC2,ZBn,ZDX,ZCJ];rfl):WI P c E0 os0 n ic Q φ os:=WI.freeze l (by rw[ho];exact h)
theorem WI.ownA(t e sz:Nat){ic:IC}{φ':J4}{os':J7}(h:WI P c E0 os0 n ic Q φ' os')(ht:get φ t= .x .nils:=by rfl)(hp:put φ t (.ref os.length 0 0 0)=φ':=by simp only[put,Nat.reduceEqDiff,↓reduceIte,ξN,JB,Nat.reduceAdd];rfl)(ho:os++ [.rows false e sz []]=os':=by simp only[QW,ξX];rfl):WI P c E0 os0 n ic Q φ os:=WI.own t e sz ht (by rw[hp,ho];exact h)
theorem WI.thawA(mid:Nat){it:Nat}{dk:KK}{ag:Bool}{l R0:W2}{cur:Option Pr}{ic:IC}{os':J7}(h:WI P c E0 os0 n ic Q φ os')(ho:os[mid]? =some (.mit dk ag l it R0 cur):=by rfl)(hs:os.set mid (.mpo dk ag l)=os':=by simp only[ZDX,ZCJ];rfl):WI P c E0 os0 n ic Q φ os:=WI.thaw mid ho (by rw[hs];exact h)
theorem WI.nextSA{t t2 it m:Nat}{x:IO}{s:List UInt8}{pos:Nat}(ks:W0){φ1 φ2:J4}{os2:J7}(hend: ¬pos<s.length->Q .normal φ1 os)(hgo:pos<s.length->Q .normal φ2 os2)(hx:(ZG φ x).val= .iref m it:=by rfl)(hcd:(ZG φ x).cond=true:=by rfl)(ho:os[it]? =some (.sit s pos):=by rfl)
  (h1:Go.Ab.keep ks (Go.Ab.put (Go.Ab.put φ t (.tup [.x (.bool false)])) t2 (.x (.bool false)))=φ1:=by exact VR) (h2:Go.Ab.keep ks (Go.Ab.put (Go.Ab.put φ t (.tup [.x (.bool true),.x (.int .i64 pos),.x (.int .i32 (Qc s pos).1)])) t2 (.x (.bool true)))=φ2:=by exact VR)
  (h3:os.set it (.sit s (pos+(Qc s pos).2))=os2:=by simp only[ZDX,ZCJ];rfl):WI P c E0 os0 n (.reg [⟨some t,.nxt true x,none⟩,⟨some t2,.ext (.t t) 0,none⟩]) Q φ os:=WI.nextS ks hx hcd ho (by rw[h1];exact hend) (by rw[h2,h3];exact hgo)
theorem WI.nextMA{t t2 it mid:Nat}{x:IO}{dk:KK}{ag:Bool}{l R0:W2}{cur:Option Pr}(ks:W0){φ1 φ2:J4}{os2:Nat->Pr->J7}(hend:R0= []->Q .normal φ1 os)(hgo: ∀(i:Nat) (q:Pr),R0[i]? =some q->Q .normal φ2 (os2 i q))(hx:(ZG φ x).val= .iref mid it:=by rfl)(hcd:(ZG φ x).cond=true:=by rfl)(ho:os[mid]? =some (.mit dk ag l it R0 cur):=by rfl)
  (h1:Go.Ab.keep ks (Go.Ab.put (Go.Ab.put φ t (.tup [.x (.bool false)])) t2 (.x (.bool false)))=φ1:=by exact VR) (h2:Go.Ab.keep ks (Go.Ab.put (Go.Ab.put φ t .und) t2 (.x (.bool true)))=φ2:=by exact VR)
  (h3: ∀i q,os.set mid (.mit dk ag l it (R0.eraseIdx i) (some q))=os2 i q:=by intro i q;simp only[ZDX,ZCJ];rfl):WI P c E0 os0 n (.reg [⟨some t,.nxt false x,none⟩,⟨some t2,.ext (.t t) 0,none⟩]) Q φ os:=WI.nextM ks hx hcd ho (by rw[h1];exact hend) (by rw[h2];intro i q h;rw[h3];exact hgo i q h)
theorem WI.orderA(ts:W0){ic:IC}{φ':J4}(h:WI P c E0 os0 n ic Q φ' os)(hp:ts.map (λu=>(u,get φ u))=φ':=by simp only[YM,ZAf,Ab.get,Nat.reduceEqDiff,↓reduceIte,if_true,if_false];rfl):WI P c E0 os0 n ic Q φ os:=WI.order ts (by rw[hp];exact h)
end
section
variable {S:Tabs} {os0 os C:J7} {k i id:Nat} {rs:W0} {φ φ':J4} {os':J7} {last:Option J7} {o:IOp} {l:List IOp} {ok:Bool} {d:D} {ob:Ob} {K:J4->J7->Prop} {Q:Exit->J4->J7->Prop} {ks:W0}
theorem oN(h:Q .normal φ' os)(hk:keep ks φ=φ':=by exact Vj):Yk (YK S true φ os []) (λφ' os'=>Q .normal (keep ks φ') os'):=osN (by rw[hk];exact h)
theorem dN(h:Q .normal φ' os')(hk:keep ks φ=φ':=by exact Vj)(hl:last.getD (os0++C)=os':=by simp only[ZMH,Qu,Ks,ξX,QW];rfl):Yk (Yi S os0 k rs i true φ id os C last []) (λφ' os'=>Q .normal (keep ks φ') os'):=dsN (by rw[hk,hl];exact h)
theorem oS(h:Yk (YK S true φ' os' l) K)(he:JK S φ os o=some (ok,φ',os'):=by simp only[zC,JK,ZS,ZG,Ab.get,Ab.put,putO,Nat.reduceEqDiff,↓reduceIte,D.val,D.cond,reduceCtorEq,Nat.reduceAdd,JP,Je];rfl)(hok:ok=true:=by rfl):Yk (YK S true φ os (o::l)) K:=osS he hok h
theorem oG(h:Yk (YK S true φ' os' l) K)(he:JK S φ os o=some (ok,φ',os'):=by simp (disch:=omega) only[uu,zM,JK,ZS,ZG,Ab.get,Ab.put,putO,Nat.reduceEqDiff,↓reduceIte,D.val,D.cond,reduceCtorEq,YD,Qr,Ob.isDrw,Ja,Qb,KY,ZAt,apm,QX,IE.isCall,D.cells?,Nat.reduceAdd,Nat.reduceLeDiff,Ob.slice?,Ob.dsl?,Ob.drw?,Nat.reduceSub,Nat.reduceMul,Int.reduceToNat,Int.reduceLE,Int.reduceLT,Int.reduceAdd,Int.reduceSub,Int.reduceMul,Int.reduceNeg,Int.reduceEq,Zy,ZCD,KP,ZD,JZ,YW,Yh,JY,Jx,Kk,ZAD,KB,eqR,eqD,Qz,eqX,nzD,ZAZ,unD,ZAg,QB,evC,QY,QN,Nat.reduceLT,zO];rfl)(hok:ok=true:=by exact Wg):Yk (YK S true φ os (o::l)) K:=osS he hok h
theorem oC(h:Yk (YK S true φ' os' l) K)(he:JK S φ os o=some (ok,φ',os'):=by exact Wd)(hok:ok=true:=by exact Wg):Yk (YK S true φ os (o::l)) K:=osS he hok h
theorem ZU(h:Yk (Yi S os0 k rs (i+1) true φ' id os C last l) K)(hf:o.e.frame=true:=by rfl)(he:(Yd S φ [] o).map (λr=>(r.1,putO φ o.dst r.2))=some (ok,φ'):=by exact UW)(hok:ok=true:=by rfl):Yk (Yi S os0 k rs i true φ id os C last (o::l)) K:=dsF hf he hok h
theorem Zm(h:Yk (Yi S os0 k rs (i+1) true φ' id os C last l) K)(hf:o.e.frame=true:=by rfl)(he:(Yd S φ [] o).map (λr=>(r.1,putO φ o.dst r.2))=some (ok,φ'):=by exact Wb)(hok:ok=true:=by exact Wg):Yk (Yi S os0 k rs i true φ id os C last (o::l)) K:=dsF hf he hok h
theorem Zb(h:Yk (Yi S os0 k rs (i+1) true φ' id os C last l) K)(hf:o.e.frame=false:=by rfl)(hm:Zi i rs=false:=by rfl)(hk:Nat.ble (i+1) k=true:=by rfl)(he:(Yd S φ os0 o).map (λr=>(r.1,putO φ o.dst r.2))=some (ok,φ'):=by exact Wb)(hok:ok=true:=by exact Wg):Yk (Yi S os0 k rs i true φ id os C last (o::l)) K:=dsQ hf hm hk he hok h
theorem dKG(h:Yk (Yi S os0 k rs (i+1) true φ' (id+1) (os++ [ob]) (C++ [ob]) last l) K)(hf:o.e.frame=false:=by rfl)(hm:Zi i rs=false:=by rfl)(hk:Nat.ble (i+1) k=true:=by rfl)(hn:Yd S φ os0 o=none:=by exact WB)(he:(QB S φ os0 id o).map (λr=>(r.1,putO φ o.dst r.2.1,r.2.2))=some (ok,φ',ob):=by exact Wd)(hok:ok=true:=by exact Wg):Yk (Yi S os0 k rs i true φ id os C last (o::l)) K:=dsK hf hm hk hn he hok h
theorem Qx(h:Yk (Yi S os0 k rs (i+1) true φ' id os' C (some os') l) K)(hf:o.e.frame=false:=by rfl)(hm:Zi i rs=false:=by rfl)(hk:Nat.ble (i+1) k=false:=by rfl)(he:(KN S φ os o).map (λr=>(r.1&&(match rs with| []=>true|_=>KT os0 r.2.2),putO φ o.dst r.2.1,r.2.2))=some (ok,φ',os'):=by exact Wb)(hok:ok=true:=by exact Wg):Yk (Yi S os0 k rs i true φ id os C last (o::l)) K:=dsA hf hm hk he hok h
theorem dQC(h:Yk (Yi S os0 k rs (i+1) true φ' id os C last l) K)(hf:o.e.frame=false:=by rfl)(hm:Zi i rs=false:=by rfl)(hk:Nat.ble (i+1) k=true:=by rfl)(he:(Yd S φ os0 o).map (λr=>(r.1,putO φ o.dst r.2))=some (ok,φ'):=by exact Wd)(hok:ok=true:=by exact Wg):Yk (Yi S os0 k rs i true φ id os C last (o::l)) K:=dsQ hf hm hk he hok h
theorem dKC(h:Yk (Yi S os0 k rs (i+1) true φ' (id+1) (os++ [ob]) (C++ [ob]) last l) K)(hf:o.e.frame=false:=by rfl)(hm:Zi i rs=false:=by rfl)(hk:Nat.ble (i+1) k=true:=by rfl)(hn:Yd S φ os0 o=none:=by exact WB)(he:(QB S φ os0 id o).map (λr=>(r.1,putO φ o.dst r.2.1,r.2.2))=some (ok,φ',ob):=by exact Wd)(hok:ok=true:=by exact Wg):Yk (Yi S os0 k rs i true φ id os C last (o::l)) K:=dsK hf hm hk hn he hok h
theorem dAC(h:Yk (Yi S os0 k rs (i+1) true φ' id os' C (some os') l) K)(hf:o.e.frame=false:=by rfl)(hm:Zi i rs=false:=by rfl)(hk:Nat.ble (i+1) k=false:=by rfl)(he:(KN S φ os o).map (λr=>(r.1&&(match rs with| []=>true|_=>KT os0 r.2.2),putO φ o.dst r.2.1,r.2.2))=some (ok,φ',os'):=by exact Wd)(hok:ok=true:=by exact Wg):Yk (Yi S os0 k rs i true φ id os C last (o::l)) K:=dsA hf hm hk he hok h
end
theorem lfN{fz:Bool}{T:Tab}{φ:J4}{os os2:J7}{rs:List IRes}{ds:J8}{r R:D}(h:r=R)(he:QG fz T φ os rs=some (true,ds,os2):=by exact Ws)(hr:mkR ds=r:=by simp only[mkR];rfl):((Exit.normal:Exit)= .normal\/(Exit.normal:Exit)= .ret)/\ ∃ds os2,QG fz T φ os rs=some (true,ds,os2)/\mkR ds=R:=⟨.inl rfl,ds,os2,he,Gy⟩
theorem ZjW{fz:Bool}{T:Tab}{φ:J4}{os os2 OS:J7}{rs:List IRes}{ds:J8}{r R:D}(h:r=R/\os2=OS)(he:QG fz T φ os rs=some (true,ds,os2):=by exact Ws)(hr:mkR ds=r:=by simp only[mkR];rfl):((Exit.normal:Exit)= .normal\/(Exit.normal:Exit)= .ret)/\ ∃ds os2,QG fz T φ os rs=some (true,ds,os2)/\mkR ds=R/\os2=OS:=⟨.inl rfl,ds,os2,he,Gy⟩
theorem lfR{fz:Bool}{T:Tab}{φ:J4}{os os2:J7}{rs:List IRes}{ds:J8}{r R:D}(h:r=R)(he:QG fz T φ os rs=some (true,ds,os2):=by exact Ws)(hr:mkR ds=r:=by simp only[mkR];rfl):((Exit.ret:Exit)= .normal\/(Exit.ret:Exit)= .ret)/\ ∃ds os2,QG fz T φ os rs=some (true,ds,os2)/\mkR ds=R:=⟨.inr rfl,ds,os2,he,Gy⟩
theorem ZAi{fz:Bool}{T:Tab}{φ:J4}{os os2 OS:J7}{rs:List IRes}{ds:J8}{r R:D}(h:r=R/\os2=OS)(he:QG fz T φ os rs=some (true,ds,os2):=by exact Ws)(hr:mkR ds=r:=by simp only[mkR];rfl):((Exit.ret:Exit)= .normal\/(Exit.ret:Exit)= .ret)/\ ∃ds os2,QG fz T φ os rs=some (true,ds,os2)/\mkR ds=R/\os2=OS:=⟨.inr rfl,ds,os2,he,Gy⟩
theorem ZAT{fz:Bool}{T:Tab}{φ:J4}{os os2 OS:J7}{rs:List IRes}{ds:J8}{r R:D}(h:r=R/\ ∃Y,os2=OS++Y)(he:QG fz T φ os rs=some (true,ds,os2):=by exact Ws)(hr:mkR ds=r:=by simp only[mkR];rfl):((Exit.ret:Exit)= .normal\/(Exit.ret:Exit)= .ret)/\ ∃ds os2,QG fz T φ os rs=some (true,ds,os2)/\mkR ds=R/\ ∃Y,os2=OS++Y:=⟨.inr rfl,ds,os2,he,Gy⟩
theorem Zje{fz:Bool}{T:Tab}{φ:J4}{os os2:J7}{rs:List IRes}{ds:J8}{r:D}{K:D->J7->Prop}(h:K r os2)(he:QG fz T φ os rs=some (true,ds,os2):=by exact Ws)(hr:mkR ds=r:=by simp only[mkR];rfl):((Exit.normal:Exit)= .normal\/(Exit.normal:Exit)= .ret)/\ ∃ds os2,QG fz T φ os rs=some (true,ds,os2)/\K (mkR ds) os2:=⟨.inl rfl,ds,os2,he,Gy⟩
theorem ZAc{fz:Bool}{T:Tab}{φ:J4}{os os2:J7}{rs:List IRes}{ds:J8}{r:D}{K:D->J7->Prop}(h:K r os2)(he:QG fz T φ os rs=some (true,ds,os2):=by exact Ws)(hr:mkR ds=r:=by simp only[mkR];rfl):((Exit.ret:Exit)= .normal\/(Exit.ret:Exit)= .ret)/\ ∃ds os2,QG fz T φ os rs=some (true,ds,os2)/\K (mkR ds) os2:=⟨.inr rfl,ds,os2,he,Gy⟩
variable {P:Program}
def ZH0(g:J8->J5)(args:J8)(os:J7):Option (Bool×D×J7):=
 (YW os args).bind λp=>(g (p.1.map .x)).map λr=>(r.1,r.2,p.2)
theorem ZCV{f:FuncId}{g:J8->J5}(h: ∀args r,g args=some (true,r)->ZK P f args r): ∀args os r os',ZH0 g args os=some (true,r,os')->ZQ P f args os r os':=by
 intro args os r os' hh;obtain⟨p,hp,hh⟩:=Zf hh;obtain⟨⟨q1,q2⟩,hq,e⟩:=Za hh;simp only[YN]at e;obtain⟨rfl,rfl,rfl⟩:=e;have hc:=h _ _ hq;intro c E vs R hvl;obtain⟨hlen,hv0⟩:=hvl;obtain⟨st',R1,ev1,hl1,hv1⟩:=ZCA (vs:=vs.toList) R (λj d v hd hv=>hv0 j d v hd Ur) (by simpa using hlen) hp;have hvl':VL ⟨E.w,st',[]⟩ [] (p.1.map D.x) vs:=by
  refine⟨by simpa using hl1,λj d v hd hv=> ?_⟩;rw[YE]at hd;obtain⟨y,hy,rfl⟩:=Za hd;exact .x (hv1 j y v hy Ur)
 refine(hc E.w st' vs (λb o hb=>(R1.stm b o hb).1) hvl').mono ?_;rintro e w' ⟨v,st2,rfl,hk,hs1,hs2,hv⟩;obtain⟨R2,ev2⟩:=R1.world w' st2 hk hs1 hs2;refine⟨v,_,rfl,rfl,R2,ev1.trans ev2,hv.mono (E:=⟨w',st2,[]⟩) (os:= []) ?_⟩;exact⟨λ_ _ h=>⟨h,rfl⟩,λ_ _ _ _ _ h=>WG,λ_ _ _ _ h=>WG⟩
section
variable {c:Ctx} {E0:Env} {os0:J7} {n:Nat}
def ZNi(P:Program)(c:Ctx)(E0:Env)(os0:J7)(n:Nat)(b:IC)(Q:Exit->J4->J7->Prop):Nat->J4->J7->Prop
 |0,_,_=>False
 |k+1,φ,os=>WI P c E0 os0 n b (ZHC (ZNi P c E0 os0 n b Q k) Q) φ os
theorem WI.loopN{b:IC}{Q:Exit->J4->J7->Prop}(k:Nat){φ:J4}{os:J7}(h:ZNi P c E0 os0 n b Q k φ os):WI P c E0 os0 n (.loop b) Q φ os:=by
 intro code hc E a R hf;obtain⟨cb,rfl,h1⟩:=ZJM hc;refine wp_loop_rounds k ?_;clear hc
 induction k generalizing φ os E a with
 |zero=>exact h.elim
 |succ k ih=>
  rw[rounds_succ];refine wp_mono (h cb h1 E a R hf) ?_;rintro e a' w' ⟨E',φ',os',rfl,k2,k3,k4⟩;cases e with
  |normal=>exact ih k4 E' a' k2 k3
  |_=>exact⟨E',φ',os',rfl,k2,k3,k4⟩
theorem WI.round{b:IC}{Q:Exit->J4->J7->Prop}{k:Nat}{φ:J4}{os:J7}(h:WI P c E0 os0 n b (ZHC (ZNi P c E0 os0 n b Q k) Q) φ os):ZNi P c E0 os0 n b Q (k+1) φ os:=h
end
section
variable {P:Program}
theorem ZQ.turn{α:Type}(enc:α->X)(val:α->Value)(hvx: ∀w st a,VX w st (enc a) (val a))(hinv: ∀w st a v,VX w st (enc a) v->v=val a){f:FuncId}{e:Nat}{zs ys:List α}(hl:ys.length=zs.length)(h00:zs= []->ys= [])
  (h0:zs= []-> ∀p cap w,Calls P f #[.slice p 0 cap] w λe w'=>e= .returned (.tuple #[])/\w'=w)
  (h1: ∀(g cap:Nat) (w:World) (cells:Array Value),zs≠ []->w.heap[g]? =some (.cells cells e (0,0))->cells.toList.take zs.length=zs.map val->zs.length<=cap->cap<=maxLen->cells.size=cap*1->
   Calls P f #[.slice (some ⟨g,0,none⟩) zs.length cap] w λe' w'=>e'= .returned (.tuple #[])/\w.grownBy w' (some g)/\w'.ownsRow 0 e 1 (.slice (some ⟨g,0,none⟩) zs.length cap) zs.length (ys.map val)):
  ZQ P f [.ref 0 zs.length 0 zs.length] [.rows false e 1 (zs.map λa=> [enc a])] (.tup []) [.rows false e 1 (ys.map λa=> [enc a])]:=by
 intro c E vs R hvl;obtain⟨hsz,hv⟩:=hvl;obtain⟨v0,rfl⟩: ∃v0,vs= #[v0]:=by
  obtain⟨vl⟩:=vs
  match vl,hsz with
  | [a],_=>exact⟨a,rfl⟩
 have h:=hv 0 _ v0 rfl rfl;cases h with
 |ref hr _=>
  have ho: [Ob.rows false e 1 (zs.map λa=> [enc a])][0]? =some (Ob.rows false e 1 (zs.map λa=> [enc a])):=rfl;obtain⟨k1,k2⟩:=hr.at ho rfl;obtain⟨k3,b,a,cap,a',cap',k4,rfl,k6,k7,k8,k9,k10,k11⟩:=k2 J1;obtain⟨rfl,rfl⟩:=k8 rfl;obtain⟨p,hp,hok⟩:=R.at ho;rw[hp]at k4;have hpb:p=(b,.slice a' zs.length cap'):=ZCf k4;subst hpb;by_cases hz:zs= []
  .subst hz;obtain rfl:=h00 rfl;refine(h0 rfl a' cap' E.w).mono ?_;rintro _ w' ⟨rfl,rfl⟩;exact⟨_,E,rfl,rfl,R,Evo.refl _ _,.tup #[] rfl (λj d v h=>WG)⟩
  .have hpos:0<zs.length:=ZJs.2 hz;obtain⟨xs,⟨q1,q2⟩,q3,q4⟩:=hok;rcases q2 with⟨q2,q5⟩|⟨g,cp,cells,fr,q5,q6,q7,q8,q9,q10,q11⟩
   .simp only[YZ]at q5;omega
   .simp only[Value.slice.injEq]at q5;obtain⟨rfl,_,rfl⟩:=q5;simp only[YZ,Qo]at q10 q7 q1;have hfr:fr=(0,0):=by
     rcases q11 with q11|⟨q11,_⟩
     .exact q11
     .cases q11
    subst hfr;have hxs:xs=zs.map val:=by
     apply List.ext_getElem (by rw[q1];simp);intro i hi hi2;have hiz:i<zs.length:=by rw[q1]at hi;exact hi
     have:=q4 i [enc zs[i]] 0 (enc zs[i]) xs[i] (by rw[YE,Zx hiz];rfl) rfl (by rw[Qo,JP];exact Zx hi);rw[hinv _ _ _ _ this];simp
    refine(h1 g cap' E.w cells hz q6 (by rw[q10,hxs]) q7 q8 q9).mono ?_;rintro _ w' ⟨rfl,hg,hown⟩;obtain⟨R',ev⟩:=R.set ho hp w' (.rows false e 1 (ys.map λa=> [enc a])) (b,.slice (some ⟨g,0,none⟩) zs.length cap') ⟨hg.os,hg.tape,hg.output,hg.size,λk hk hm=>hg.block k hk (λe=>hm (by cases e;rfl))⟩ (λb' hb'=> .inl hb') (λsz rs1 h=>by
      simp only[Ob.sl?,Yj,YN]at h;obtain⟨rfl,rfl⟩:=h;exact⟨(ys.map λa=> [enc a]).length,rfl,.inl ⟨by simp[hl],rfl⟩⟩) (λk h=>W6) (λev=>by
      refine⟨ys.map val,?_,λr hr=> ?_,λi r j x v h1 h2 h3=> ?_⟩
      .have:=QJ.of_owns hown false;simpa[hl]using this
      .obtain⟨a,_,rfl⟩:=YR.1 hr;rfl
      .rw[YE]at h1;obtain⟨a,ha,rfl⟩:=Za h1
       match j with
       |0=>
        simp only[ZC2,Yj]at h2;subst h2;rw[Qo,JP,YE,ha]at h3;simp only[Yr,Yj]at h3;subst h3;exact hvx _ _ a
       |j+1=>simp at h2)
    exact⟨_,_,rfl,rfl,R',ev,.tup #[] rfl (λj d v h=>WG)⟩
end
variable {P:Program} {c:Ctx} {E0:Env} {os0:J7} {n:Nat} {Q:Exit->J4->J7->Prop} {φ:J4} {os:J7}
theorem WI.join{x y:IC}(J:J4->J7->Prop)(h:WI P c E0 os0 n x (ZHC J Q) φ os)(h2: ∀φ' os',J φ' os'->WI P c E0 os0 n y Q φ' os'):WI P c E0 os0 n (.seq x y) Q φ os:=by
 refine WI.seq (h.mono λe φ' os' hh=> ?_);cases e with
 |normal=>exact h2 φ' os' hh
 |_=>exact hh
def Jl(kp:W0)(S:Tabs)(os0:J7)(k:Nat)(rs:W0):Nat->Bool->J4->Nat->J7->J7->Option J7->List IOp->Option (Bool×List (Nat×D)×J7)
 |_,b,φ,_,_,C,last,[]=>some (b,φ,last.getD (os0++C))
 |i,b,φ,id,os,C,last,o::l=>
  if o.e.frame then match Yd S φ [] o with
   |some r=>Jl kp S os0 k rs (i+1) (b&&(r.1&&(!Zi i rs||ZCI kp φ o))) (putO φ o.dst r.2) id os C last l
   |none=>none
  else if Zi i rs then match Yd S φ os0 o with
   |some r=>Jl kp S os0 k rs (i+1) (b&&(r.1&&(!Zi i rs||ZCI kp φ o))) (putO φ o.dst r.2) id os C last l
   |none=>none
  else if i<k then match Yd S φ os0 o with
   |some r=>Jl kp S os0 k rs (i+1) (b&&(r.1&&(!Zi i rs||ZCI kp φ o))) (putO φ o.dst r.2) id os C last l
   |none=>match ZFY φ os o with
    |some r=>Jl kp S os0 k rs (i+1) (b&&(r.1&&(!Zi i rs||ZCI kp φ o))) (putO φ o.dst r.2) id os C last l
    |none=>match QB S φ os0 id o with
     |some r=>Jl kp S os0 k rs (i+1) (b&&(r.1&&(!Zi i rs||ZCI kp φ o))) (putO φ o.dst r.2.1) (id+1) (os++ [r.2.2]) (C++ [r.2.2]) last l
     |none=>none
  else match KN S φ os o with
   |some r=>Jl kp S os0 k rs (i+1) (b&&(r.1&&((!Zi i rs||ZCI kp φ o)&&QS kp os0 r.2.2))) (putO φ o.dst r.2.1) id r.2.2 C (some r.2.2) l
   |none=>none
theorem ZD4{kp:W0}(S:Tabs)(os0:J7)(k:Nat)(rs:W0): ∀(l:List IOp) (i:Nat) (b:Bool) (φ:J4) (id:Nat) (os C:J7) (last:Option J7),
  Jl kp S os0 k rs i b φ id os C last l=(Kr S os0 k rs i φ id os l).map λq=>(b&&(q.1&&(bxR kp rs i φ q.2.1 l&&ZEu kp os0 q.2.2)),YY φ q.2.1,Zq q.2.2 (λ_=>true) 0 (last.getD (os0++C++Ya q.2.1)))
 | [],i,b,φ,id,os,C,last=>by
  simp[Jl,Kr,YY,Ya,Zq,bxR,ZEu]
 |o::l,i,b,φ,id,os,C,last=>by
  simp only[Jl,Kr];split
  .cases Yd S φ [] o with
   |none=>rfl
   |some r=>
    simp only[ZBA,ZD4 S os0 k rs l];cases Kr S os0 k rs (i+1) (putO φ o.dst r.2) id os l with
    |none=>rfl
    |some q=>exact Uh
  .split
   .cases Yd S φ os0 o with
    |none=>rfl
    |some r=>
     simp only[ZBA,ZD4 S os0 k rs l];cases Kr S os0 k rs (i+1) (putO φ o.dst r.2) id os l with
     |none=>rfl
     |some q=>exact Uh
   .split
    .cases Yd S φ os0 o with
     |some r=>
      simp only[ZD4 S os0 k rs l];cases Kr S os0 k rs (i+1) (putO φ o.dst r.2) id os l with
      |none=>rfl
      |some q=>exact Uh
     |none=>
      cases ZFY φ os o with
      |some r=>
       simp only[ZD4 S os0 k rs l];cases Kr S os0 k rs (i+1) (putO φ o.dst r.2) id os l with
       |none=>rfl
       |some q=>exact Uh
      |none=>
       cases QB S φ os0 id o with
       |none=>rfl
       |some r=>
        simp only[ZBA,ZD4 S os0 k rs l];cases Kr S os0 k rs (i+1) (putO φ o.dst r.2.1) (id+1) (os++ [r.2.2]) l with
        |none=>rfl
        |some q=>simp only[Yr,bxR,ZEu,YY,Ya,Jt,Yw,ξX,QW];congr 1;simp only[YN,and_true];ac_rfl
    .cases KN S φ os o with
     |none=>rfl
     |some r=>
      simp only[ZBA,ZD4 S os0 k rs l];cases Kr S os0 k rs (i+1) (putO φ o.dst r.2.1) id r.2.2 l with
      |none=>rfl
      |some q=>simp only[Yr,bxR,ZEu,YY,Ya,ZHe,Qu];congr 1;simp only[YN,and_true];ac_rfl
section
variable {P:Program} {c:Ctx} {E0:Env} {os0 os:J7} {n:Nat} {Q:Exit->J4->J7->Prop} {φ:J4}
theorem WI.dregY{S:Tabs}(hS:SsOk P S)(kp ks:W0){k k2:Nat}{rs rs2:W0}{l:List IOp}(h:Yk (Jl kp S os k2 rs2 0 true φ os.length os [] none l) (λφ' os'=>Q .normal (Go.Ab.keep ks φ') os')):WI P c E0 os0 n (.dreg k rs k2 rs2 l) Q φ os:=by
 obtain⟨ok,φ',os',h1,rfl,h3⟩:=h;rw[ZD4]at h1;refine WI.dreg' (m:=some kp) hS (.inr ?_) rfl h3 (λ_ _ f=>f.keep ks);rw[<-h1];unfold ZHZ;cases Kr S os k2 rs2 0 φ os.length os l with
 |none=>rfl
 |some q=>simp[ZM2]
end
section
variable {S:Tabs} {os0 os C:J7} {k i id:Nat} {rs kp:W0} {φ φ':J4} {os':J7} {last:Option J7} {o:IOp} {l:List IOp} {ok:Bool} {d:D} {ob:Ob} {K:J4->J7->Prop} {Q:Exit->J4->J7->Prop} {ks:W0}
theorem xsN(h:K φ (last.getD (os0++C))):Yk (Jl kp S os0 k rs i true φ id os C last []) K:=⟨true,φ,_,rfl,rfl,h⟩
theorem xsF(hf:o.e.frame=true)(hm:Zi i rs=false)(he:(Yd S φ [] o).map (λr=>(r.1,putO φ o.dst r.2))=some (ok,φ'))(hok:ok=true)(h:Yk (Jl kp S os0 k rs (i+1) true φ' id os C last l) K):Yk (Jl kp S os0 k rs i true φ id os C last (o::l)) K:=by
 subst hok;obtain⟨r,h1,h2⟩:=Za he;simp only[YN]at h2;obtain⟨h2,rfl⟩:=h2;simp only[Jl,hf,hm,if_true,h1,h2,Qh,ZMU,ZFu];exact h
theorem xsR(hf:o.e.frame=false)(hm:Zi i rs=true)(hbl:ZCI kp φ o=true)(he:(Yd S φ os0 o).map (λr=>(r.1,putO φ o.dst r.2))=some (ok,φ'))(hok:ok=true)(h:Yk (Jl kp S os0 k rs (i+1) true φ' id os C last l) K):Yk (Jl kp S os0 k rs i true φ id os C last (o::l)) K:=by
 subst hok;obtain⟨r,h1,h2⟩:=Za he;simp only[YN]at h2;obtain⟨h2,rfl⟩:=h2;simp only[Jl,hf,hm,hbl,if_true,h1,h2,Qh,ZEL,JV,if_false];exact h
theorem xsA(hf:o.e.frame=false)(hm:Zi i rs=false)(hk:Nat.ble (i+1) k=false)(he:(KN S φ os o).map (λr=>(r.1&&QS kp os0 r.2.2,putO φ o.dst r.2.1,r.2.2))=some (ok,φ',os'))(hok:ok=true)(h:Yk (Jl kp S os0 k rs (i+1) true φ' id os' C (some os') l) K):Yk (Jl kp S os0 k rs i true φ id os C last (o::l)) K:=by
 subst hok;obtain⟨r,h1,h2⟩:=Za he;simp only[YN]at h2;obtain⟨h2,rfl,rfl⟩:=h2;have hk': ¬i<k:=λh=>GY
 simp only[Jl,hf,hm,h1,h2,hk',ZA0,ZMU,ZFu,JV,if_false];exact h
theorem xN(h:Q .normal φ' os')(hk:keep ks φ=φ':=by exact Vj)(hl:last.getD (os0++C)=os':=by simp only[ZMH,Qu,Ks,ξX,QW];rfl):Yk (Jl kp S os0 k rs i true φ id os C last []) (λφ' os'=>Q .normal (keep ks φ') os'):=xsN (by rw[hk,hl];exact h)
theorem xFS(h:Yk (Jl kp S os0 k rs (i+1) true φ' id os C last l) K)(hf:o.e.frame=true:=by rfl)(hm:Zi i rs=false:=by rfl)(he:(Yd S φ [] o).map (λr=>(r.1,putO φ o.dst r.2))=some (ok,φ'):=by exact UW)(hok:ok=true:=by rfl):Yk (Jl kp S os0 k rs i true φ id os C last (o::l)) K:=xsF hf hm he hok h
theorem xFG(h:Yk (Jl kp S os0 k rs (i+1) true φ' id os C last l) K)(hf:o.e.frame=true:=by rfl)(hm:Zi i rs=false:=by rfl)(he:(Yd S φ [] o).map (λr=>(r.1,putO φ o.dst r.2))=some (ok,φ'):=by exact Wb)(hok:ok=true:=by exact Wg):Yk (Jl kp S os0 k rs i true φ id os C last (o::l)) K:=xsF hf hm he hok h
theorem xRG(h:Yk (Jl kp S os0 k rs (i+1) true φ' id os C last l) K)(hf:o.e.frame=false:=by rfl)(hm:Zi i rs=true:=by rfl)(hbl:ZCI kp φ o=true:=by rfl)(he:(Yd S φ os0 o).map (λr=>(r.1,putO φ o.dst r.2))=some (ok,φ'):=by exact Wb)(hok:ok=true:=by exact Wg):Yk (Jl kp S os0 k rs i true φ id os C last (o::l)) K:=xsR hf hm hbl he hok h
theorem xAG(h:Yk (Jl kp S os0 k rs (i+1) true φ' id os' C (some os') l) K)(hf:o.e.frame=false:=by rfl)(hm:Zi i rs=false:=by rfl)(hk:Nat.ble (i+1) k=false:=by rfl)(he:(KN S φ os o).map (λr=>(r.1&&QS kp os0 r.2.2,putO φ o.dst r.2.1,r.2.2))=some (ok,φ',os'):=by simp (disch:=omega) only[uu,zM,Yd,KN,KD,QS,Jc,ZHH,ZKd,Zi,ZIW,List.getElem?_nil,Ob.beq_refl,JK,ZS,ZG,Ab.get,Ab.put,putO,Nat.reduceEqDiff,↓reduceIte,D.val,D.cond,reduceCtorEq,YD,Qr,Ob.isDrw,Ja,Qb,KY,ZAt,apm,QX,IE.isCall,D.cells?,Nat.reduceAdd,Nat.reduceLeDiff,Ob.slice?,Ob.dsl?,Ob.drw?,Nat.reduceSub,Nat.reduceMul,Int.reduceToNat,Int.reduceLE,Int.reduceLT,Int.reduceAdd,Int.reduceSub,Int.reduceMul,Int.reduceNeg,Int.reduceEq,Zy,ZCD,KP,ZD,JZ,YW,Yh,JY,Jx,Kk,ZAD,KB,eqR,eqD,Qz,eqX,nzD,ZAZ,unD,ZAg,QB,evC,QY,QN,Nat.reduceLT,zO];rfl)(hok:ok=true:=by exact Wg):Yk (Jl kp S os0 k rs i true φ id os C last (o::l)) K:=xsA hf hm hk he hok h
theorem xAC(h:Yk (Jl kp S os0 k rs (i+1) true φ' id os' C (some os') l) K)(hf:o.e.frame=false:=by rfl)(hm:Zi i rs=false:=by rfl)(hk:Nat.ble (i+1) k=false:=by rfl)(he:(KN S φ os o).map (λr=>(r.1&&QS kp os0 r.2.2,putO φ o.dst r.2.1,r.2.2))=some (ok,φ',os'):=by simp (disch:=omega) only[uu,zS,zW,zO,ZEh,ZDc,D.nn,D.na,zQ,IE.isCall,Nat.reduceAdd,Nat.reduceSub,Nat.reduceMul,Nat.reduceLeDiff,Nat.reduceLT,Nat.reduceBEq,Int.reduceToNat,Int.reduceLE,Int.reduceLT,Int.reduceAdd,Int.reduceSub,Int.reduceMul,Int.reduceNeg,Int.reduceEq,Nat.reduceEqDiff,YK,Jl,JK,ZS,YD,Qr,Ob.isDrw,Ja,Qb,KY,ZAt,apm,ZG,Ab.get,Ab.put,putO,keep,QA,D.val,D.cond,D.cells?,D.scalar,X.scalar,D.plain,D.isX,ZAZ,ZBf,eqD,Qz,eqX,unD,ZD,ZAg,KP,Zy,Qq,Jh,Yh,YW,JZ,JY,Jx,Kk,Ob.slice?,↓reduceIte,reduceCtorEq,Yd,QB,evC,QY,QN,KN,KD,QS,Jc,ZHH,ZKd,ZIW,List.getElem?_nil,eqR,nzD,QX,ZCM,ZCP,ZCR,ZBe,ZAU,ZAD,YH,IE.frame,Zi,KB,IntWalk.i64_in,ZAa,Jv,ZE7,Jq,ZF2,ZB9,ZAS,Jn,Kx,Kw,JE,D.inP,Ob.inP,YA,D.ren,inv,Yb,Ob.ren,KH,KS,KI,ZDp,ZBP];rfl)(hok:ok=true:=by exact Wg):Yk (Jl kp S os0 k rs i true φ id os C last (o::l)) K:=xsA hf hm hk he hok h
end
section
variable {P:Program} {c:Ctx} {E0:Env} {os0 os:J7} {n:Nat} {Q:Exit->J4->J7->Prop} {φ:J4}
end
structure Bx (B:Prop):Prop where
 h:B
theorem sd{p:Bool}(h:p=true:=by exact Wg):p=true:=h
theorem se{p:Bool}(h:p=true:=by first|with_reducible rfl|omega):p=true:=h
section
variable {S:Tabs} {os:J7} {φ:J4} {l:List IOp} {K:J4->J7->Prop} {d:Option Nat} {g:Option (Nat×Bool)}
theorem oMk{x:IO}(h:Yk (YK S true φ os (⟨d,.mv x,none⟩::l)) K):Yk (YK S true φ os (⟨d,.mv x,none⟩::l)) K:=h
theorem oKk{x:IO}(h:Yk (YK S true φ os (⟨d,.nck x,none⟩::l)) K):Yk (YK S true φ os (⟨d,.nck x,none⟩::l)) K:=h
theorem oFk{a:Nat}{x:IO}(h:Yk (YK S true φ os (⟨d,.fad a x,none⟩::l)) K):Yk (YK S true φ os (⟨d,.fad a x,none⟩::l)) K:=h
theorem oGk{o:IOp}(h:Yk (YK S true φ os (o::l)) K):Yk (YK S true φ os (o::l)) K:=h
theorem oCk{f:IO}{xs:List IO}(h:Yk (YK S true φ os (⟨d,.call f xs,g⟩::l)) K):Yk (YK S true φ os (⟨d,.call f xs,g⟩::l)) K:=h
end
section
variable {P:Program} {c:Ctx} {E0:Env} {os0 os:J7} {n:Nat} {Q:Exit->J4->J7->Prop} {φ:J4}
theorem nz{A B:Prop}(h:A)(k:Bx A->B:=by(intro h;(repeat first|with_reducible refine ZA ?_|with_reducible refine WI.seq ?_|with_reducible refine WI.block ?_|with_reducible refine WI.skip ?_|with_reducible refine Jf ?_|with_reducible refine ZSi ?_|with_reducible refine WI.exit ?_|with_reducible refine QH ?_|((with_reducible refine ZT5 ?_ ?_);(focus decide))|with_reducible refine Yp ?_|with_reducible refine ZV4 ?_);exact h.h)):B:=k ⟨h⟩
theorem rg{S:Tabs}(ks:W0){l:List IOp}{A B C:Prop}(h:A)(k0:Bx (WI P c E0 os0 n (.reg l) Q φ os)->C:=by(intro h;refine nz ?_;exact h.h))(hS:SsOk P S:=by assumption)(k:Bx B->Yk (YK S true φ os l) (λφ' os'=>Q .normal (Go.Ab.keep ks φ') os'):=by(intro h;(repeat first|((with_reducible refine oMk ?_);refine oS ?_)|((with_reducible refine oKk ?_);refine oS ?_)|((with_reducible refine oFk ?_);refine oS ?_)|((with_reducible refine oGk ?_);(fail_if_success (with_reducible refine oCk ?_));refine oG ?_)|((with_reducible refine oCk ?_);refine oC ?_));refine oN ?_;exact h.h))(k2:Bx A->B:=by(intro h;refine nz ?_;exact h.h)):C:=k0 ⟨WI.regB hS ks (k ⟨k2 ⟨h⟩⟩)⟩
theorem rgp{S:Tabs}(ks:W0){l:List IOp}{A C:Prop}(h:A)(k0:Bx (WI P c E0 os0 n (.reg l) Q φ os)->C:=by(intro h;refine nz ?_;exact h.h))(hS:SsOk P S:=by assumption)(k:Bx A->Yk (YK S true φ os l) (λφ' os'=> ∃φ2 os2,Wk c E0 os0 n (Go.Ab.keep ks φ') os' φ2 os2/\Q .normal φ2 os2):=by(intro h;(repeat first|((with_reducible refine oMk ?_);refine oS ?_)|((with_reducible refine oKk ?_);refine oS ?_)|((with_reducible refine oFk ?_);refine oS ?_)|((with_reducible refine oGk ?_);(fail_if_success (with_reducible refine oCk ?_));refine oG ?_)|((with_reducible refine oCk ?_);refine oC ?_));refine oP ?_;exact h.h)):C:=k0 ⟨WI.post (WI.regB hS ks (k ⟨h⟩))⟩
theorem cd{x:IO}{y z:IC}{b:Bool}{p q A B:Prop}(ht:p->A)(he:q->B)(hv:(ZG φ x).val= .x (.bool b):=by exact rfl)(hcd:(ZG φ x).cond=true:=by exact rfl)(hp:b=true->p:=by exact To)(hq:b=false->q:=by exact To)(kA:Bx A->WI P c E0 os0 n y Q φ os:=by(intro h;refine nz ?_;exact h.h))(kB:Bx B->WI P c E0 os0 n z Q φ os:=by(intro h;refine nz ?_;exact h.h)):WI P c E0 os0 n (.cond x y z) Q φ os:=
 WI.cond hv hcd (λh=>kA ⟨ht (hp h)⟩) (λh=>kB ⟨he (hq h)⟩)
theorem ce{x:IO}{y z:IC}{b:Bool}{q B:Prop}(ht:b=true->False)(he:q->B)(hv:(ZG φ x).val= .x (.bool b):=by exact rfl)(hcd:(ZG φ x).cond=true:=by exact rfl)(hq:b=false->q:=by exact To)(kB:Bx B->WI P c E0 os0 n z Q φ os:=by(intro h;refine nz ?_;exact h.h)):WI P c E0 os0 n (.cond x y z) Q φ os:=
 WI.cond hv hcd (λh=>(ht h).elim) (λh=>kB ⟨he (hq h)⟩)
theorem ct{x:IO}{y z:IC}{b:Bool}{p A:Prop}(ht:p->A)(he:b=false->False)(hv:(ZG φ x).val= .x (.bool b):=by exact rfl)(hcd:(ZG φ x).cond=true:=by exact rfl)(hp:b=true->p:=by exact To)(kA:Bx A->WI P c E0 os0 n y Q φ os:=by(intro h;refine nz ?_;exact h.h)):WI P c E0 os0 n (.cond x y z) Q φ os:=
 WI.cond hv hcd (λh=>kA ⟨ht (hp h)⟩) (λh=>(he h).elim)
theorem lf{A:Prop}(h:A)(k:Bx A->WI P c E0 os0 n .ret Q φ os:=by(intro h;refine WI.ret ?_;(repeat first|with_reducible refine JH ?_|with_reducible refine ZAb ?_|with_reducible refine ZXu ?_);(first|refine lfR ?_|refine ZAi ?_|refine ZAT ?_|refine ZAc ?_);exact h.h)):WI P c E0 os0 n .ret Q φ os:=k ⟨h⟩
end
section
variable {P:Program} {c:Ctx} {E E0:Env} {os os0:J7} {n:Nat} {Q:Exit->J4->J7->Prop} {φ:J4}
theorem ZbB{α:Type}(l:List α)(i:Nat)(x:α)(h:l[i]? =some x):l.set i x=l:=by
 apply ZBj;intro j;rw[ZCe];by_cases hj:i=j
 .subst hj;rw[if_pos rfl,h];simp[(ZV h).1]
 .simp[hj]
theorem Rel.swap(R:Rel c E os){i:Nat}{o o':Ob}(ho:os[i]? =some o)(hs:o'.sl? =o.sl?)(hk:o.kd=none)(hm: ∀p b,o'.mb p b->o.mb p b)(hok: ∀(E':Env) (os':J7) p,Evo E os E' os'->E'.w=E.w->OK E os o p->OK E' os' o' p):Rel c E (os.set i o')/\Evo E os E (os.set i o'):=by
 obtain⟨p,hp,h⟩:=R.at ho;have:=R.set ho hp E.w o' p (Kept.refl _ _) (λb hb=> .inl (hm p b hb)) (λsz m hm=>⟨m,by rw[hs];exact hm,.inl ⟨rfl,rfl⟩⟩) (λk h=>by rw[hk]at h;cases h) (λev=>hok _ _ p ev rfl h);rw[ZbB _ _ _ hp]at this;exact this
theorem Rel.toD(R:Rel c E os){i e sz:Nat}{rs:J6}(ho:os[i]? =some (.rows false e sz rs)):Rel c E (os.set i (.drw e sz (Ki rs)))/\Evo E os E (os.set i (.drw e sz (Ki rs))):=by
 refine R.swap ho (by simp[Ob.sl?,ZB2]) rfl (λp b h=>h) (λE' os' p ev hw h=> ?_);obtain⟨xs,h1,h2,h3⟩:=h;refine⟨xs,by rw[hw,ZB2];exact h1,λr hr=> ?_,λi r j d v hr hd hv=> ?_⟩
 .obtain⟨r0,h0,rfl⟩:=YR.1 hr;rw[YZ];exact h2 r0 h0
 .obtain⟨r0,x,g1,g2,rfl⟩:=ZSQ hr hd;have:=h3 i r0 j x v g1 g2 hv;exact⟨.x (this.mono ev.st),this.one⟩
theorem Rel.toX(R:Rel c E os){i e sz:Nat}{rs:J6}(ho:os[i]? =some (.drw e sz (Ki rs))):Rel c E (os.set i (.rows false e sz rs))/\Evo E os E (os.set i (.rows false e sz rs)):=by
 refine R.swap ho (by simp[Ob.sl?,ZB2]) rfl (λp b h=>h) (λE' os' p ev hw h=> ?_);obtain⟨xs,h1,h2,h3⟩:=h;refine⟨xs,by rw[hw];rw[ZB2]at h1;exact h1,λr hr=> ?_,λi r j x v hr hx hv=> ?_⟩
 .have:=h2 (r.map D.x) (YR.2 ⟨r,hr,rfl⟩);rwa [YZ]at this
 .have hr':(Ki rs)[i]? =some (r.map D.x):=by unfold Ki;rw[YE,hr];rfl
  exact(h3 i _ j (.x x) v hr' (by rw[YE,hx];rfl) hv).1.xx.mono ev.st
theorem Wk.toD{i e sz:Nat}{rs:J6}(ho:os[i]? =some (.rows false e sz rs)):Wk c E0 os0 n φ os φ (os.set i (.drw e sz (Ki rs))):=λE a R hf=>by
 obtain⟨R1,e1⟩:=R.rel.toD ho;exact⟨E,rfl,⟨R1,R.evo.trans e1⟩,hf.mono e1⟩
theorem Wk.toX{i e sz:Nat}{rs:J6}(ho:os[i]? =some (.drw e sz (Ki rs))):Wk c E0 os0 n φ os φ (os.set i (.rows false e sz rs)):=λE a R hf=>by
 obtain⟨R1,e1⟩:=R.rel.toX ho;exact⟨E,rfl,⟨R1,R.evo.trans e1⟩,hf.mono e1⟩
theorem WI.toDA(i:Nat){e sz:Nat}{rs:J6}{ic:IC}{os':J7}(h:WI P c E0 os0 n ic Q φ os')(ho:os[i]? =some (.rows false e sz rs):=by rfl)(hs:os.set i (.drw e sz (Ki rs))=os':=by simp only[ZDX,ZCJ];rfl):WI P c E0 os0 n ic Q φ os:=WI.weak (Wk.toD ho) (by rw[hs];exact h)
theorem WI.toXA(i:Nat){e sz:Nat}{rs:J6}{ic:IC}{os':J7}(h:WI P c E0 os0 n ic Q φ os')(ho:os[i]? =some (.drw e sz (Ki rs)):=by rfl)(hs:os.set i (.rows false e sz rs)=os':=by simp only[ZDX,ZCJ];rfl):WI P c E0 os0 n ic Q φ os:=WI.weak (Wk.toX ho) (by rw[hs];exact h)
end
section
variable {P:Program} {c:Ctx} {E E0:Env} {os os0:J7} {n:Nat} {Q:Exit->J4->J7->Prop} {φ:J4}
end
section
variable {P:Program} {c:Ctx} {E0:Env} {os os0:J7} {n:Nat} {Q:Exit->J4->J7->Prop} {φ:J4}
end
section
variable {P:Program} {c:Ctx} {E0:Env} {os os0:J7} {n:Nat} {Q:Exit->J4->J7->Prop} {φ:J4}
def kN(K:J4->J7->Prop):Exit->J4->J7->Prop:=λ_ φ os=>K φ os
theorem ZIc{K:J4->J7->Prop}(h:K φ os): ∃φ2 os2,Wk c E0 os0 n φ os φ2 os2/\kN K .normal φ2 os2:=⟨φ,os,Wk.refl,h⟩
end
def ZFa:J7->J7->Bool
 | [],[]=>true
 |x::l,y::l'=>Ob.beq x y&&ZFa l l'
 |_,_=>false
theorem ZG5: ∀ {a b:J7},ZFa a b=true->a=b
 | [],b,h=>by cases b<;>simp[ZFa]at h;rfl
 |x::l,b,h=>by
  cases b<;>simp[ZFa]at h
  rw[Ob.beq_eq h.1,ZG5 h.2]
theorem ZGJ: ∀a:J7,ZFa a a=true
 | []=>rfl
 |x::l=>by simp only[ZFa,Zk];exact⟨Ob.beq_refl x,ZGJ l⟩
def ptT(S:Tabs)(f:FuncId)(A:J8)(O:J7)(r:D)(O':J7):Tabs:=⟨S.q,λf' args os=>if f'=f/\D.beqL args A=true/\ZFa os O=true then some (true,r,O')else S.t f' args os,S.r,S.k⟩
theorem ZCz{P:Program}{S:Tabs}(hS:SsOk P S){f:FuncId}{A:J8}{O O':J7}{r:D}(he:Enters P f)(hm:ZQ P f A O r O'):SsOk P (ptT S f A O r O'):=by
 refine⟨hS.q,λf' args os r' os' h=> ?_,hS.r,hS.k⟩;simp only[ptT]at h;split at h
 .exact Tq
 .exact hS.t f' args os r' os' h
theorem ZHT(S:Tabs)(f:FuncId)(A:J8)(O:J7)(r:D)(O':J7):(ptT S f A O r O').t f A O=some (true,r,O'):=if_pos ⟨rfl,D.beqL_refl A,ZGJ O⟩
theorem ZHB(S:Tabs)(f:FuncId)(A:J8)(O:J7)(r:D)(O':J7):(ptT S f A O r O').q=S.q:=rfl
theorem ZHI(S:Tabs)(f:FuncId)(A:J8)(O:J7)(r:D)(O':J7):(ptT S f A O r O').r=S.r:=rfl
theorem ZHP(S:Tabs)(f:FuncId)(A:J8)(O:J7)(r:D)(O':J7):(ptT S f A O r O').k=S.k:=rfl
theorem D.ren_id(f:Nat->Nat)(h: ∀i,f i=i)(d:D):d.ren f=d:=by
 refine D.rec (motive_1:=λd=>d.ren f=d) (motive_2:=λl=>YA f l=l) ?_ ?_ ?_ ?_ ?_ ?_ ?_ ?_ ?_ ?_ ?_ ?_ ?_ ?_ ?_ ?_ ?_ ?_ ?_ d
 all_goals intros
 all_goals first|rfl|(simp only[D.ren,YA,h];done)|(simp only[D.ren,YA,h];simp_all)
theorem ZIA(f:Nat->Nat)(h: ∀i,f i=i): ∀l:J8,YA f l=l
 | []=>rfl
 |d::l=>by rw[YA,D.ren_id f h,ZIA f h l]
theorem ZUY(f:Nat->Nat)(h: ∀i,f i=i)(p:Pr):Jn f p=p:=by
 unfold Jn;rw[ZIA f h]
theorem ZTy{α:Type}(f:α->α)(h: ∀x,f x=x)(l:List α):l.map f=l:=by
 induction l with
 |nil=>rfl
 |cons a l ih=>rw[YM,h,ih]
theorem Ob.ren_id(f:Nat->Nat)(h: ∀i,f i=i)(o:Ob):o.ren f=o:=by
 cases o<;>simp only[Ob.ren,h,ZIA f h,ZTy (Jn f) (ZUY f h),ZTy (YA f) (ZIA f h)]
 rename_i cur;cases cur<;>simp only[ZAC,Yr,ZUY f h]
theorem ZZ3(h:J8->J7->Option (Bool×D×J7))(args:J8)(OS:J7)(i:Nat)(fz:Bool)(e sz:Nat)(rs:J6)(fz':Bool)(e' sz':Nat)(rs':J6)(ok:Bool)(r:D)
  (hi:Jq args= [i]) (hn:JE (λj=>Zi j [i]) args=true) (ho:OS[i]? =some (.rows fz e sz rs)) (hr: ∀f,r.ren f=r)
  (hh:h (YA (inv [i]) args) [.rows fz e sz rs]=some (ok,r,[.rows fz' e' sz' rs'])):ZAa h args OS=some (ok,r,OS.set i (.rows fz' e' sz' rs')):=by
 have hlt:i<OS.length:=(ZV ho).1;have hg:OS.getD i .dead= .rows fz e sz rs:=by rw[ZDx,ho];rfl
 have hm:Zi i []=false:=rfl;have hre:Jv OS 64 (Jq args) []= [i]:=by
  rw[hi];simp only[Jv,hm,hg,ZF2];rfl
 have hfp:Yb [i] OS= [.rows fz e sz rs]:=by
  unfold Yb;simp only[YM,ZAf,hg];rfl
 unfold ZAa;rw[hre,hfp,hh,if_pos (by
  unfold Kx;simp only[ZAL,ZFG,hg,hn,ZI hlt,Kw];rfl)]
 rw[ZBA,if_pos J1,hr];congr 3;unfold KS;simp only[YM,ZAf,KI,ZEb,ZCa,JB,ξN,Ks];rfl
def fam(e sz:Nat)(l:List J6):J7:=l.map λrs=> .rows false e sz rs
def ZFx(sz:Nat)(l:List J6):J7:=l.map λrs=> .frz sz rs
theorem ZLG(e sz:Nat)(l:List J6):(fam e sz l).length=l.length:=by simp[fam]
theorem ZGj(sz:Nat)(l:List J6):(ZFx sz l).length=l.length:=by simp[ZFx]
theorem ZU7(o:Ob)(e sz:Nat): ∀(l A:List J6),frzL (List.range' (A.length+1) l.length) (o::(ZFx sz A++fam e sz l))=o::ZFx sz (A++l)
 | [],A=>by simp[frzL,fam]
 |r::l,A=>by
  have ih:=ZU7 o e sz l (A++ [r]);have hg:(o::(ZFx sz A++fam e sz (r::l)))[A.length+1]? =some (.rows false e sz r):=by
   rw[ZBn,QL (by rw[ZGj];exact Zp _),ZGj,ZH2];rfl
  have hs:(o::(ZFx sz A++fam e sz (r::l))).set (A.length+1) (.frz sz r)=o::(ZFx sz (A++ [r])++fam e sz l):=by
   rw[ZCJ,ZDS _ _ (by rw[ZGj];exact Zp _),ZGj,ZH2];simp[ZFx,fam]
  rw[JB,List.range'_succ,frzL,hg];dsimp only;rw[hs];rw[ZW,QM,Yw]at ih;exact ih
def ZAJ:Nat->List J6->List J8
 |_,[]=> []
 |k,rs::l=> [.ref k rs.length 0 rs.length]::ZAJ (k+1) l
theorem ZVG(sz:Nat)(os:J7): ∀(l:List J6) (k:Nat),(∀i r,l[i]? =some r->os[k+i]? =some (.frz sz r))->((ZAJ k l).map (List.map (onF [0] os))).map (YA (inv [0]))=Ki (l.map λrs=> [.sl rs])
 | [],k,_=>rfl
 |r::l,k,h=>by
  have h0:=h 0 r rfl;have ih:=ZVG sz os l (k+1) (λi x hx=>by rw[show k+1+i=k+(i+1) by omega];exact h (i+1) x hx);have hv:onF [0] os (.ref k r.length 0 r.length)= .x (.sl r):=by
   unfold onF;rw[D.vw,show os[k]? =some (.frz sz r)from h0];dsimp only;rw[if_pos rfl,ZCa,JX];rfl
  rw[ZAJ,YM,YM,ih,YM,ZAf,hv];rfl
theorem Zfk(e sz:Nat)(l:List J6):ZCs [0] (.drw e 1 (ZAJ 1 l)::ZFx sz l)= [.drw e 1 (Ki (l.map λrs=> [.sl rs]))]:=by
 have h:=ZVG sz (.drw e 1 (ZAJ 1 l)::ZFx sz l) l 1 (λi r hr=>by rw[ZOk,ZBn];unfold ZFx;rw[YE,hr];rfl);unfold ZCs Yb;simp only[YM,ZAf,ZJu,Ob.mp,Ob.onI,Ob.ren];rw[h]
theorem ZB5(k i:Nat):Zi i (List.range k)=decide (i<k):=by
 rw[Qg,ZB7,ZE4,Ym]
theorem ZDB{k i:Nat}(h:i<k):inv (List.range k) i=i:=ZKq ZXB (by rw[ZMQ h])
theorem ZKt{OS X:J7}(hO:OS.all (Ob.inP (λi=>decide (i<OS.length)))=true):Yb (List.range OS.length) (OS++X)=OS:=by
 apply ZBj;intro i;unfold Yb;rw[YE];by_cases h:i<OS.length
 .rw[ZMQ h,Yr,ZDx,Yc h,Zx h,Qu];have hp:=Yg.1 hO _ (YG h);have:=Ob.ren_ren (F:=λi=>i) (g:=inv (List.range OS.length)) (p:=λi=>decide (i<OS.length)) (λj hj=>ZDB (of_decide_eq_true hj)) OS[i] hp;rw[Ob.ren_id _ (λ_=>rfl)]at this;rw[this]
 .rw[ξY W3,ξY J0];rfl
section
variable {P:Program} {c:Ctx} {E0:Env} {os0:J7} {n:Nat} {Q:Exit->J4->J7->Prop} {φ:J4}
theorem ZU4(p:Nat->Bool): ∀(φ:J4),φ.all (λq=>q.2.inP p)=true-> ∀t,(get φ t).inP p=true
 | [],_,t=>rfl
 |(s,d)::φ,h,t=>by
  rw[ZAL,Zk]at h;unfold Go.Ab.get;split
  .exact h.1
  .exact ZU4 p φ h.2 t
theorem Wk.dropT{OS X:J7}(h0:os0.length<=OS.length)(hO:OS.all (Ob.inP (λi=>decide (i<OS.length)))=true)(hφ:φ.all (λp=>p.2.inP (λi=>decide (i<OS.length)))=true):Wk c E0 os0 n φ (OS++X) φ OS:=by
 intro E a R hf;have hn:(List.range OS.length).Nodup:=ZXB;have hlt: ∀r∈List.range OS.length,r<(OS++X).length:=λr hr=>by have:=ZE4.1 hr;simp;omega
 have hm:(λi=>Zi i (List.range OS.length))=λi=>decide (i<OS.length):=funext (ZB5 _)
 have R2:=R.rel.pickO hn hlt (λr hr=>by
  have h:=ZE4.1 hr;rw[ZDx,Yc h,Zx h,Qu,hm];exact Yg.1 hO _ (YG h))
 have e2:=ZKD (ρ:=List.range OS.length) R.rel hlt;rw[ZKt hO]at R2 e2;refine⟨fpE (List.range OS.length) E,rfl,⟨R2,?_⟩,hf.size,hf.defers,λt=> ?_⟩
 .have e01:=R.evo;refine⟨e01.st,λid b cu ds k ho hkd hb=> ?_,λid o sz rs ho hs=> ?_⟩
  .have hi:=(ZV ho).1;obtain⟨cu1,ds1,k1,kd1,k2⟩:=e01.bl id b cu ds k ho hkd hb;exact Tf
  .have hi:=(ZV ho).1;obtain⟨o1,rs1,k1,k2,k3⟩:=e01.rf id o sz rs ho hs;obtain⟨o2,rs2,k4,k5,k6⟩:=e2.rf id o1 sz rs1 (by rw[ZB5];exact ZI J0) k1 k2;rw[ZDB J0]at k4 k6;refine⟨o2,rs2,k4,k5,?_⟩;rcases k3 with⟨k3,k3'⟩|k3<;>rcases k6 with⟨k6,k6'⟩|k6
   .exact Xc
   .exact N8
   .exact N8
   .exact N8
 .have hp:=ZU4 _ φ hφ t;have h1:V (fpE (List.range OS.length) E) OS ((get φ t).ren (inv (List.range OS.length))) (a.tmps.getD t undef):=(hf.slot t).monoR e2 (by rw[hm];exact hp);have h2:=D.ren_ren (F:=λi=>i) (g:=inv (List.range OS.length)) (p:=λi=>decide (i<OS.length)) (λj hj=>ZDB (of_decide_eq_true hj)) (get φ t) hp;rw[D.ren_id _ (λ_=>rfl)]at h2;rwa [h2]at h1
theorem ZNZ(OS X:J7){os:J7}(e:os=OS++X)(h0:os0.length<=OS.length)(hO:OS.all (Ob.inP (λi=>decide (i<OS.length)))=true)(hφ:φ.all (λp=>p.2.inP (λi=>decide (i<OS.length)))=true)(h: ∃φ2 os2,Wk c E0 os0 n φ OS φ2 os2/\Q .normal φ2 os2): ∃φ2 os2,Wk c E0 os0 n φ os φ2 os2/\Q .normal φ2 os2:=by
 subst e;obtain⟨φ2,os2,h1,h2⟩:=h;exact⟨φ2,os2,(Wk.dropT h0 hO hφ).trans h1,h2⟩
theorem WI.dropT(OS X:J7){os:J7}{ic:IC}(e:os=OS++X)(h0:os0.length<=OS.length)(hO:OS.all (Ob.inP (λi=>decide (i<OS.length)))=true)(hφ:φ.all (λp=>p.2.inP (λi=>decide (i<OS.length)))=true)(h:WI P c E0 os0 n ic Q φ OS):WI P c E0 os0 n ic Q φ os:=by
 subst e;exact WI.weak (Wk.dropT h0 hO hφ) h
end
theorem Za7(p:Nat->Bool)(e sz:Nat)(l:List J6):(fam e sz l).all (Ob.inP p)=true:=by
 unfold fam;rw[ZF1];exact Yg.2 λ_ _=>rfl
theorem ZP6: ∀(l:List J6) (k:Nat),(ZAJ k l).length=l.length
 | [],_=>rfl
 |r::l,k=>by rw[ZAJ,JB,ZP6 l,JB]
theorem ZQN: ∀(l:List J6) (k i:Nat) (r:J6),l[i]? =some r->(ZAJ k l)[i]? =some [.ref (k+i) r.length 0 r.length]
 | [],_,i,r,h=>WG
 |r::l,k,0,x,h=>by simp at h;subst h;rfl
 |r::l,k,i+1,x,h=>by
  rw[ZAJ,ZBn,ZQN l (k+1) i x WJ,show k+1+i=k+(i+1) by omega]
theorem ZNM: ∀(l:List J6) (k:Nat) (r:J6),ZAJ k (l++ [r])=ZAJ k l++ [[.ref (k+l.length) r.length 0 r.length]]
 | [],k,r=>rfl
 |x::l,k,r=>by rw[ξX,ZAJ,ZNM l,ZAJ,JB,show k+1+l.length=k+(l.length+1) by omega];rfl
theorem ZLn: ∀(l l':List J6) (k:Nat),l.map List.length=l'.map List.length->ZAJ k l=ZAJ k l'
 | [],[],_,_=>rfl
 | [],_::_,_,h=>WG
 |_::_,[],_,h=>WG
 |x::l,y::l',k,h=>by
  rw[YM,YM,ZEP]at h;rw[ZAJ,ZAJ,h.1,ZLn l l' _ h.2]
theorem ZQj(n:Nat): ∀(l:List J6) (k:Nat),k+l.length<=n->(ZAJ k l).all (JE (λi=>decide (i<n)))=true
 | [],_,_=>rfl
 |r::l,k,h=>by
  rw[JB]at h;rw[ZAJ,ZAL,ZQj n l (k+1) J0,Qh];simp only[JE,D.inP,Qh,Ym];omega
def ZhJ(e:Nat)(l:List J6):Ob:= .drw e 1 (ZAJ 1 l)
theorem ZbS(e e2 sz:Nat)(l:List J6):(ZhJ e l::fam e2 sz l).all (Ob.inP (λi=>decide (i<(ZhJ e l::fam e2 sz l).length)))=true:=by
 rw[ZAL,Za7,Qh,JB,ZLG];exact ZQj _ l 1 J0
theorem ZgZ(e sz:Nat)(l:List J6)(Y:J7)(i:Nat)(r:J6)(h:l[i]? =some r):(fam e sz l++Y)[i]? =some (.rows false e sz r):=by
 have hi:=(ZV h).1;rw[Yc (by rw[ZLG];exact hi)];unfold fam;rw[YE,h];rfl
theorem Zf7(e sz:Nat)(l:List J6)(Y:J7)(i:Nat)(r:J6)(h:i<l.length):(fam e sz l++Y).set i (.rows false e sz r)=fam e sz (l.set i r)++Y:=by
 rw[ZLy _ _ (by rw[ZLG];exact h)];unfold fam;rw[ZMT]
theorem Zby(e sz:Nat)(l:List J6)(r:J6):fam e sz (l++ [r])=fam e sz l++ [.rows false e sz r]:=by simp[fam]
def ZWB(A:J8)(O:J7)(r:D)(O':J7)(args:J8)(os:J7):Option (Bool×D×J7):=if D.beqL args A=true/\ZFa os O=true then some (true,r,O')else none
theorem ZVh{P:Program}{f:FuncId}{A:J8}{O O':J7}{r:D}(hc:ZQ P f A O r O'): ∀args os r' os',ZWB A O r O' args os=some (true,r',os')->ZQ P f args os r' os':=by
 intro args os r' os' h;unfold ZWB at h;split at h
 .rename_i hh;rw[D.beqL_eq hh.1,ZG5 hh.2];simp only[Yj,YN,true_and]at h;obtain⟨rfl,rfl⟩:=h;exact hc
 .cases h
theorem ZUm(A:J8)(O:J7)(r:D)(O':J7):ZWB A O r O' A O=some (true,r,O'):=if_pos ⟨D.beqL_refl A,ZGJ O⟩
theorem ZQ.row{P:Program}{f:FuncId}{args:J8}{OS:J7}{r:D}(i:Nat){fz fz':Bool}{e sz e' sz':Nat}{rs rs':J6}(hc:ZQ P f (YA (inv [i]) args) [.rows fz e sz rs] r [.rows fz' e' sz' rs'])
  (ho:OS[i]? =some (.rows fz e sz rs)) (hi:Jq args= [i]) (hn:JE (λj=>Zi j [i]) args=true) (hr: ∀f,r.ren f=r):ZQ P f args OS r (OS.set i (.rows fz' e' sz' rs')):=
 ZQ.lift (ZVh hc) _ _ _ _ (ZZ3 _ _ _ i fz e sz rs fz' e' sz' rs' true _ hi hn ho hr (ZUm _ _ _ _))
theorem ZQ.new{P:Program}{f:FuncId}{args:J8}{OS os':J7}{r:D}(hc:ZQ P f args [] r os')(hi:Jq args= [])(hn: ∀p,JE p args=true):ZQ P f args OS (r.ren (λi=>OS.length+i)) (OS++os'.map (Ob.ren (λi=>OS.length+i))):=by
 have hren: ∀g,YA g args=args:=λg=>by
  have:=ZI9 (F:=λi=>i) (g:=g) (p:=λ_=>false) (λi h=>W6) args (hn _);rwa [ZIA _ (λ_=>rfl)]at this
 refine ZQ.lift (h:=ZWB args [] r os') (ZVh hc) _ _ _ _ ?_;have hre:Jv OS 64 (Jq args) []= []:=by rw[hi];rfl
 have hf:KH [] OS.length os'.length=λi=>OS.length+i:=funext λi=>by simp[KH]
 unfold ZAa;rw[hre,if_pos (by simp[Kx,hn,Kw]),hren,show Yb [] OS= []from rfl,ZUm,ZBA];dsimp only;rw[if_pos (show([]:W0).length<=os'.length from KG _)];unfold KS;rw[hf];cases os'<;>rfl
section
variable {P:Program}
theorem ZH.mcallsX{f:FuncId}{args:J8}{r:D}{os os':J7}(h:ZH P f args os (λr' os2=>r'=r/\ ∃X,os2=os'++X))(h0:os.length<=os'.length)(hO:os'.all (Ob.inP (λi=>decide (i<os'.length)))=true)(hr:r.inP (λi=>decide (i<os'.length))=true):ZQ P f args os r os':=by
 intro c E vs R hvl;refine(h c E vs R hvl).mono ?_;rintro e w' ⟨v,E',r',os2,rfl,rfl,R',ev,hv,rfl,X,rfl⟩;have hn:(List.range os'.length).Nodup:=ZXB;have hlt: ∀r∈List.range os'.length,r<(os'++X).length:=λr hr=>by have:=ZE4.1 hr;simp;omega
 have hm:(λi=>Zi i (List.range os'.length))=λi=>decide (i<os'.length):=funext (ZB5 _)
 have R2:=R'.pickO hn hlt (λr hr=>by
  have h:=ZE4.1 hr;rw[ZDx,Yc h,Zx h,Qu,hm];exact Yg.1 hO _ (YG h))
 have e2:=ZKD (ρ:=List.range os'.length) R' hlt;rw[ZKt hO]at R2 e2;refine⟨v,fpE (List.range os'.length) E',rfl,rfl,R2,?_,?_⟩
 .refine⟨ev.st,λid b cu ds k ho hkd hb=> ?_,λid o sz rs ho hs=> ?_⟩
  .have hi:=(ZV ho).1;obtain⟨cu1,ds1,k1,kd1,k2⟩:=ev.bl id b cu ds k ho hkd hb;exact Tf
  .have hi:=(ZV ho).1;obtain⟨o1,rs1,k1,k2,k3⟩:=ev.rf id o sz rs ho hs;obtain⟨o2,rs2,k4,k5,k6⟩:=e2.rf id o1 sz rs1 (by rw[ZB5];exact ZI J0) k1 k2;rw[ZDB J0]at k4 k6;refine⟨o2,rs2,k4,k5,?_⟩;rcases k3 with⟨k3,k3'⟩|k3<;>rcases k6 with⟨k6,k6'⟩|k6
   .exact Xc
   .exact N8
   .exact N8
   .exact N8
 .have h1:V (fpE (List.range os'.length) E') os' (r'.ren (inv (List.range os'.length))) v:=hv.monoR e2 (by rw[hm];exact hr);have h2:=D.ren_ren (F:=λi=>i) (g:=inv (List.range os'.length)) (p:=λi=>decide (i<os'.length)) (λj hj=>ZDB (of_decide_eq_true hj)) r' hr;rw[D.ren_id _ (λ_=>rfl)]at h2;rwa [h2]at h1
end
theorem ZK.mc{P:Program}{f:FuncId}{args:J8}{r:D}(h:ZK P f args r)(OS:J7)(hi:Jq args= []:=by rfl)(hn: ∀p,JE p args=true:=by intro p;rfl)(hr: ∀g,r.ren g=r:=by intro g;rfl):ZQ P f args OS r OS:=by
 have h0:ZQ P f args [] r []:=by
  intro c E vs R hvl;have hob:E.ob= []:=ξS (by have:=R.len;simpa using this);obtain⟨w,st,ob⟩:=E;simp only at hob;subst hob;refine(h w st vs (λb o h=>(R.stm b o h).1) hvl).mono ?_;rintro e w' ⟨v,st',rfl,hk,h1,h2,hv⟩;obtain⟨R',ev⟩:=R.world w' st' hk h1 h2;exact⟨v,_,rfl,rfl,R',ev,hv⟩
 have:=ZQ.new (OS:=OS) h0 hi hn;rw[hr,ZAf,Ks]at this;exact this
variable {P:Program} {c:Ctx} {E0:Env} {os0:J7} {n:Nat} {Q:Exit->J4->J7->Prop} {φ:J4} {os:J7}
def WR(P:Program)(c:Ctx)(E0:Env)(os0:J7)(n:Nat)(l:List IOp)(Q:Exit->J4->J7->Prop)(φ:J4)(os:J7):Prop:=
 ∀(ops:Array Oper) (lo:List Oper),lo.mapM (JC P n ops)=some l-> ∀(E:Env) (a:Act),Run c E0 os0 E os->Fr n E os φ a->
  wpList P ops (λx a' w'=> ∃E' φ' os',E'.w=w'/\Run c E0 os0 E' os'/\Fr n E' os' φ' a'/\Q x φ' os') lo a E.w
theorem WR.reg{l:List IOp}(h:WR P c E0 os0 n l Q φ os):WI P c E0 os0 n (.reg l) Q φ os:=by
 intro code hc E a R hf;obtain⟨id,ops,rfl,h1⟩:=ZGV hc;exact wp_region_list (h ops _ h1 E a R hf)
theorem WR.regB{S:Tabs}(hS:SsOk P S)(ks:W0){l:List IOp}(h:Yk (YK S true φ os l) (λφ' os'=>Q .normal (Go.Ab.keep ks φ') os')):WR P c E0 os0 n l Q φ os:=by
 intro ops lo h1 E a R hf;rw[ZGG]at h;obtain⟨ok,φ',os',h2,rfl,h3⟩:=h;obtain⟨⟨ok2,q⟩,h4,h5⟩:=Za h2;simp at h5;obtain⟨rfl,rfl⟩:=h5;exact ZKU hS R.rel hf h1 h4 (λE' a' R' e' f'=>⟨E',_,_,rfl,⟨R',R.evo.trans e'⟩,f'.keep ks,h3⟩)
theorem ZOC{α β:Type}(f:α->Option β): ∀(k:Nat) (lo:List α) (l:List β),lo.mapM f=some l->(lo.take k).mapM f=some (l.take k)/\(lo.drop k).mapM f=some (l.drop k)
 |0,lo,l,h=>WJ
 |k+1,[],l,h=>by simp at h;subst h;simp
 |k+1,x::lo,l,h=>by
  simp only[ZAQ,KE,YF,ZBD]at h;obtain⟨y,h1,l',h2,h3⟩:=h;cases h3;obtain⟨i1,i2⟩:=ZOC f k lo l' h2;refine⟨?_,by simpa using i2⟩;simp only[Qy,ZAQ,h1,i1,KE,ZBA,ZBD]
theorem ZVf{S:Tabs}(hS:SsOk P S){ops:Array Oper}{Q:Exit->Act->World->Prop}{lo2:List Oper}: ∀ {l:List Oper} {il:List IOp} {E:Env} {os:J7} {φ:J4} {a:Act},Rel c E os->Fr n E os φ a->l.mapM (JC P n ops)=some il-> ∀ {φ':J4} {os':J7},QC S φ os il=some (true,φ',os')->
  (∀E' a',Rel c E' os'->Evo E os E' os'->Fr n E' os' φ' a'->wpList P ops Q lo2 a' E'.w)->wpList P ops Q (l++lo2) a E.w
 | [],il,E,os,φ,a,R,hf,hm,φ',os',h,hQ=>by
  simp at hm;subst hm;cases h;exact hQ E a R (Evo.refl _ _) hf
 |o::l,il,E,os,φ,a,R,hf,hm,φ',os',h,hQ=>by
  simp only[ZAQ,KE,YF,ZBD]at hm;obtain⟨io,hio,il',hil,hm⟩:=hm;cases hm;simp only[QC,YF,Kj]at h;obtain⟨⟨ok,φ1,os1⟩,h1,⟨ok2,φ2,os2⟩,h2,h3⟩:=h;simp at h3;obtain⟨⟨rfl,rfl⟩,rfl,rfl⟩:=h3;rw[ξX];refine wpList_step λK hK=>ZOr hS R hf hio h1 (λE1 a1 R1 e1 f1=> ?_)
  exact hK _ _ (ZVf hS R1 f1 hil h2 (λE' a' R' e' f'=>hQ E' a' R' (e1.trans e') f'))
theorem WR.cut{S:Tabs}(hS:SsOk P S)(ks:W0)(k:Nat){l:List IOp}(h:Yk (YK S true φ os (l.take k)) (λφ1 os1=> ∃φ2 os2,Wk c E0 os0 n (Go.Ab.keep ks φ1) os1 φ2 os2/\kN (λφ2 os2=>WR P c E0 os0 n (l.drop k) Q φ2 os2) .normal φ2 os2)):WR P c E0 os0 n l Q φ os:=by
 intro ops lo h1 E a R hf;rw[ZGG]at h;obtain⟨ok,φ',os',h2,rfl,φ2,os2,hw,h3⟩:=h;obtain⟨⟨ok2,q⟩,h4,h5⟩:=Za h2;simp at h5;obtain⟨rfl,rfl⟩:=h5;obtain⟨i1,i2⟩:=ZOC _ k lo l h1;rw[<-ZBx k lo];refine ZVf hS R.rel hf i1 h4 (λE' a' R' e' f'=> ?_);obtain⟨E2,hE,R2,f2⟩:=hw E' a' ⟨R',R.evo.trans e'⟩ (f'.keep ks);rw[<-hE];exact h3 ops _ i2 E2 a' R2 f2
theorem WI.cutA{S:Tabs}(hS:SsOk P S)(ks:W0)(k:Nat){l:List IOp}(h:Yk (YK S true φ os (l.take k)) (λφ1 os1=> ∃φ2 os2,Wk c E0 os0 n (Go.Ab.keep ks φ1) os1 φ2 os2/\kN (λφ2 os2=>WR P c E0 os0 n (l.drop k) Q φ2 os2) .normal φ2 os2)):WI P c E0 os0 n (.reg l) Q φ os:=
 WR.reg (WR.cut hS ks k h)
def X.nn0:X->X
 | .nils=> .sl []
 |x=>x
theorem VX.nn0{w:World}{st:Nat->Nat->Prop}{x:X}{v:Value}(h:VX w st x v):VX w st x.nn0 v:=by
 unfold X.nn0;split
 .exact h.nn
 .exact h
def D.nn1:D->D
 | .x (.sl rs)=> .x (.sl (rs.map (List.map X.nn0)))
 |d=>d
theorem V.nn1{E:Env}{os:J7}{d:D}{v:Value}(h:V E os d v):V E os d.nn1 v:=by
 unfold D.nn1;split
 .cases h with
  |x h=>
  cases h with
  |sl _ a n c sz val hn hc hm hsz hcell hnil hsp hval=>
   refine .x (.sl _ a n c sz val (by simpa using hn) hc hm (λr hr=> ?_) hcell hnil hsp (λi j r x hr hx=> ?_))
   .obtain⟨r0,h0,rfl⟩:=YR.1 hr;rw[YZ];exact hsz r0 h0
   .rw[YE]at hr;obtain⟨r0,h0,rfl⟩:=Za hr;rw[YE]at hx;obtain⟨x0,hx0,rfl⟩:=Za hx;exact(hval i j r0 x0 h0 hx0).nn0
 .exact h
def ZNI(φ:J4):J4:=φ.map λp=>(p.1,p.2.nn1)
theorem Ze8(φ:J4)(t:Nat):get (ZNI φ) t=(get φ t).nn1:=by
 induction φ with
 |nil=>rfl
 |cons p φ ih=>
  obtain⟨u,d⟩:=p;simp only[ZNI,YM,get];split
  .rfl
  .exact ih
theorem Wk.nn1:Wk c E0 os0 n φ os (ZNI φ) os:=λE a R hf=>⟨E,rfl,R,hf.size,hf.defers,λt=>by rw[Ze8];exact(hf.slot t).nn1⟩
theorem ZjO{φ':J4}(h: ∃φ2 os2,Wk c E0 os0 n φ' os φ2 os2/\Q .normal φ2 os2)(hp:ZNI φ=φ':=by simp only[ZNI,D.nn1,X.nn0,YM,ZAf];rfl): ∃φ2 os2,Wk c E0 os0 n φ os φ2 os2/\Q .normal φ2 os2:=by
 obtain⟨φ2,os2,h1,h2⟩:=h;subst hp;exact⟨φ2,os2,Wk.nn1.trans h1,h2⟩
def GP(P:Program)(f:FuncId):Option IFn:=((P.funcs[f]?).filter λfn=> !(fn.name== "runtime.NumGoroutine")).bind (ZFl P)
theorem ZNb(P:Program):GOk P (GP P):=by
 intro f p h;obtain⟨fn,h1,h2⟩:=Zf h;obtain⟨h3,h4⟩:=Option.filter_eq_some_iff.1 h1;exact⟨fn,h3,UY,h2⟩
theorem QZ{P:Program}(f:FuncId)(h:(GP P f).isSome=true:=by kernel_rfl):Enters P f:=by
 obtain⟨p,hp⟩:=Za3.1 h;exact Zbl (ZNb P) hp
theorem aQ{P:Program}{S:Tabs}{f:FuncId}{g:J8->J5}(hS:SsOk P S)(hg:QK P g f)(he:Enters P f:=by exact QZ _):SsOk P (ZDy S f g):=ZDF hS he hg
theorem aT{P:Program}{S:Tabs}{f:FuncId}{g:J8->J7->Option (Bool×D×J7)}(hS:SsOk P S)(hg:TK P g f)(he:Enters P f:=by exact QZ _):SsOk P (ZHs S f g):=ZLI hS he hg
theorem aR{P:Program}{S:Tabs}{f:FuncId}{g:J8->J7->J5}(hS:SsOk P S)(hg:RK P g f)(he:Enters P f:=by exact QZ _):SsOk P (ZHw S f g):=ZOW hS he hg
theorem aK{P:Program}{S:Tabs}{f:FuncId}{g:J8->J7->Option (Bool×D×Ob)}(hS:SsOk P S)(hg: ∀args os r ob,g args os=some (true,r,ob)->(∃fz e sz rs,ob= .rows fz e sz rs)/\ZQ P f args os r (os++ [ob]))(he:Enters P f:=by exact QZ _):SsOk P (ZKf S f g):=Zev hS he hg
def FG(P:Program)(fz:Bool)(args:J8)(os:J7)(Post:D->J7->Prop):Option IFn->Prop
 |some p=>args.length<=p.n/\ ∀(c:Ctx) (E0:Env),WI P c E0 os p.n p.body (λx φ' os'=>(x= .normal\/x= .ret)/\ ∃ds os2,QG fz (λ_ _=>none) φ' os' p.res=some (true,ds,os2)/\Post (mkR ds) os2) (ZC6 0 args) os
 |none=>False
theorem FG.mk{P:Program}{fz:Bool}{args:J8}{os:J7}{Post:D->J7->Prop}{p:IFn}(h: ∀(c:Ctx) (E0:Env),WI P c E0 os p.n p.body (λx φ' os'=>(x= .normal\/x= .ret)/\ ∃ds os2,QG fz (λ_ _=>none) φ' os' p.res=some (true,ds,os2)/\Post (mkR ds) os2) (ZC6 0 args) os)(h1:args.length<=p.n:=by exact ξ rfl):FG P fz args os Post (some p):=⟨h1,h⟩
theorem FG.calls{P:Program}{fz:Bool}{f:FuncId}{args:J8}{os:J7}{Post:D->J7->Prop}(h:FG P fz args os Post (GP P f)):ZH P f args os Post:=by
 rcases hp:GP P f with _|p
 .rw[hp]at h;exact h.elim
 .rw[hp]at h;exact ZeH (ZNb P) hp args h.1 os h.2
theorem u8L(n:Nat)(h:n<2^8):UInt8.ofBitVec (BitVec.ofFin (Fin.mk n h))=UInt8.ofNatLT n h:=rfl
theorem fC{P:Program}{os:J7}{args:J8}{A:Prop}(f:FuncId)(z:Bool){Post:D->J7->Prop}(h:A)(k:Bx A->FG P z args os Post (GP P f):=by(intro h;(conv=>arg 6;reduce);refine FG.mk ?_;dsimp only[Int.reduceOfNat,Int.reduceNegSucc,u8L,UInt8.reduceOfNatLT,ZC6];exact h.h)):ZH P f args os Post:=FG.calls (k ⟨h⟩)
theorem evP{P:Program}(m:Nat)(f:FuncId){S0:Tabs}(h0:SsOk P S0)(nq:List FuncId){args:J8}{r:D}(h:((GP P f).bind λp=>(ZGK true (ev S0 nq (GP P) m) p args []).map (·.1))=some r:=by kernel_rfl)(hcl:r.clean=true:=by rfl):ZK P f args r:=by
 obtain⟨p,hp,h⟩:=Zf h;exact ZXM (ZNb P) m hp h0 nq h hcl
end Go.Ab
end
