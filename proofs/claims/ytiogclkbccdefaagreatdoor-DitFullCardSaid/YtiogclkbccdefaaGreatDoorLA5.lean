import Derived.Test.YtiogclkbccdefaaGreatDoorLA4
import Derived.Test.YtiogclkbccdefaaGreatDoorLA1
import Derived.LoopN
import Derived.Lib.SlKeysI
set_option linter.unusedSimpArgs false
set_option linter.unusedVariables false
set_option maxRecDepth 100000
section
namespace Go.Ab
open Go.RowKit Go.Bo
structure RC (α:Type) where
 n:Nat
 enc:α→List X
 dec:List X→Option α
structure RC.Good {α:Type} (c:RC α):Prop where
 len: ∀a,(c.enc a).length=c.n
 de: ∀a,c.dec (c.enc a)=some a
 ed: ∀r a,c.dec r=some a→c.enc a=r
def ZAp(k:IntKind):RC Int:=⟨1,fun x=> [.int k x],fun| [.int k' x]=>if k'=k then some x else none|_=>none⟩
def ZB:RC (List UInt8):=⟨1,fun s=> [.str s],fun| [.str s]=>some s|_=>none⟩
def ZMF:RC Bool:=⟨1,fun s=> [.bool s],fun| [.bool s]=>some s|_=>none⟩
def ZDi:RC Unit:=⟨0,fun _=> [],fun| []=>some ()|_=>none⟩
def Kz{α β:Type}(c:RC α)(d:RC β):RC (α×β):=⟨c.n+d.n,fun p=>c.enc p.1++d.enc p.2,fun r=>(c.dec (r.take c.n)).bind fun a=>(d.dec (r.drop c.n)).map fun b=>(a,b)⟩
def ZeF{α β:Type}(c:RC α)(f:β→α)(g:α→β):RC β:=⟨c.n,fun b=>c.enc (f b),fun r=>(c.dec r).map g⟩
def rows{α:Type}(c:RC α)(l:List α):List (List X):=l.map c.enc
def ZY{α:Type}(c:RC α)(rs:List (List X)):Option (List α):=rs.mapM c.dec
def rSl{α:Type}(c:RC α):RC (List α):=⟨1,fun l=> [.sl (rows c l)],fun| [.sl rs]=>ZY c rs|_=>none⟩
theorem ZCX{α β:Type}{f:α→Option β}: ∀ {l:List α} {m:List β},l.mapM f=some m↔l.length=m.length∧ ∀(i:Nat) (h:i<l.length) (h':i<m.length),f l[i]=some m[i]
 | [],m=>by
  cases m<;>simp
 |x::l,m=>by
  simp only[QL,JI,Yh,Qx,Ze];constructor
  ·rintro⟨y,hy,ys,hys,rfl⟩;obtain⟨h1,h2⟩:=ZCX.1 hys;refine⟨by simp[h1],fun i h h'=> ?_⟩;cases i with
   |zero=>exact hy
   |succ i=>simpa using h2 i (by simpa using h) (by simpa using h')
  ·rintro⟨h1,h2⟩;cases m with
   |nil=>simp at h1
   |cons y ys=>
    refine⟨y,h2 0 (by simp) (by simp),ys,ZCX.2 ⟨by simpa using h1,fun i h h'=> ?_⟩,rfl⟩;exact h2 (i+1) (by simp;omega) (by simp;omega)
section
variable {α β:Type} {c:RC α} {d:RC β}
theorem Zo(c:RC α)(l:List α):(rows c l).length=l.length:=by simp[rows]
theorem ZP0(c:RC α)(l:List α)(i:Nat)(h:i<l.length):(rows c l)[i]? =some (c.enc l[i]):=by simp[rows,h]
theorem ZAd(c:RC α)(l:List α)(k:Nat):(rows c l).drop k=rows c (l.drop k):=by simp[rows]
theorem ZAe(c:RC α)(l:List α)(k:Nat):(rows c l).take k=rows c (l.take k):=by simp[rows]
theorem ZAu(c:RC α)(l m:List α):rows c l++rows c m=rows c (l++m):=by simp[rows]
theorem ZFr(h:c.Good)(l:List α)(sz:Nat)(hs:c.n=sz):((rows c l).all fun r=>decide (r.length=sz))=true:=by
 subst hs;rw[YQ];intro r hr;obtain⟨a,_,rfl⟩:=YW.1 hr;simp[h.len]
theorem Zj(h:c.Good)(l:List α):ZY c (rows c l)=some l:=by
 unfold ZY;rw[ZCX];exact⟨by simp[rows],fun i h1 h2=>by simp[rows,h.de]⟩
theorem Zb(h:c.Good){rs:List (List X)}{l:List α}(hu:ZY c rs=some l):rows c l=rs:=by
 unfold ZY at hu;rw[ZCX]at hu;refine List.ext_getElem (by simp[rows,hu.1]) (fun i h1 h2=> ?_);have:=hu.2 i h2 (by simpa[rows]using h1);simpa[rows]using h.ed _ _ this
theorem ZQd(k:IntKind)(n:Int):(ZAp k).enc n= [.int k n]:=rfl
theorem ZOx(s:List UInt8):ZB.enc s= [.str s]:=rfl
theorem ZNo(b:Bool):ZMF.enc b= [.bool b]:=rfl
theorem ZOc(u:Unit):ZDi.enc u= []:=rfl
theorem ZQ9(c:RC α)(l:List α):(rSl c).enc l= [.sl (rows c l)]:=rfl
theorem ZPV(c:RC α)(d:RC β)(p:α×β):(Kz c d).enc p=c.enc p.1++d.enc p.2:=rfl
theorem ZPp(c:RC α)(f:β→α)(g:α→β)(b:β):(ZeF c f g).enc b=c.enc (f b):=rfl
theorem ZAh(k:IntKind):(ZAp k).Good:=⟨fun _=>rfl,fun a=>by simp[ZAp],fun r a h=>by
 simp only[ZAp]at h⊢;split at h
 ·split at h
  ·rename_i hk;cases h;rw[hk]
  ·cases h
 ·cases h⟩
theorem ZO:ZB.Good:=⟨fun _=>rfl,fun a=>rfl,fun r a h=>by
 simp only[ZB]at h⊢;split at h
 ·cases h;rfl
 ·cases h⟩
theorem ZSU:ZMF.Good:=⟨fun _=>rfl,fun a=>rfl,fun r a h=>by
 simp only[ZMF]at h⊢;split at h
 ·cases h;rfl
 ·cases h⟩
theorem ZEI:ZDi.Good:=⟨fun _=>rfl,fun a=>rfl,fun r a h=>by
 simp only[ZDi]at h⊢;split at h
 ·rfl
 ·cases h⟩
theorem JZ(hc:c.Good)(hd:d.Good):(Kz c d).Good:=⟨fun p=>by simp[Kz,hc.len,hd.len],fun p=>by
  have h1:(c.enc p.1++d.enc p.2).take c.n=c.enc p.1:=by rw[ZKj (by rw[hc.len];exact Zl _),JH (by rw[hc.len];exact Zl _)]
  have h2:(c.enc p.1++d.enc p.2).drop c.n=d.enc p.2:=by rw[←hc.len p.1];exact List.drop_left
  simp[Kz,h1,h2,hc.de,hd.de],fun r p h=>by
  simp only[Kz,Yh,Qt]at h;obtain⟨a,h1,b,h2,rfl⟩:=h;simp only[Kz,hc.ed _ _ h1,hd.ed _ _ h2,ZCn]⟩
theorem ZFz(hc:c.Good):(rSl c).Good:=⟨fun _=>rfl,fun l=>Zj hc l,fun r l h=>by
 simp only[rSl]at h⊢;split at h
 ·rw[Zb hc h]
 ·cases h⟩
end
mutual
def X.wf:X→Prop
 | .sl rs=>rs.length≤maxLen∧X.wfR rs
 | .int _ _=>True
 | .bool _=>True
 | .str _=>True
 | .nilp=>True
 | .nils=>True
def X.wfR:List (List X)→Prop
 | []=>True
 |r::l=>X.wfL r∧X.wfR l
def X.wfL:List X→Prop
 | []=>True
 |x::l=>x.wf∧X.wfL l
end
theorem X.wfL_iff: ∀ {l:List X},X.wfL l↔ ∀x∈l,x.wf
 | []=>by simp[X.wfL]
 |x::l=>by simp[X.wfL,X.wfL_iff (l:=l)]
theorem X.wfR_iff: ∀ {rs:List (List X)},X.wfR rs↔ ∀r∈rs,X.wfL r
 | []=>by simp[X.wfR]
 |r::l=>by simp[X.wfR,X.wfR_iff (rs:=l)]
theorem VX.wf{w:World}{st:Nat→Nat→Prop}{x:X}{v:Value}(h:VX w st x v):x.wf:=by
 induction h with
 |sl rs a n c sz val hn hc hm hsz hcell hnil hsp hval ih=>
  refine⟨by omega,X.wfR_iff.2 (fun r hr=>X.wfL_iff.2 (fun x hx=> ?_))⟩;obtain⟨i,hi⟩:=ZFM.1 hr;obtain⟨j,hj⟩:=ZFM.1 hx;exact ih i j r x hi hj
 |_=>trivial
section
variable {P:Program}
theorem ZD.wf{f:FuncId}{args:List D}{r:D}(h:(∀x,D.x x∈args→x.wf)→ZD P f args r):ZD P f args r:=by
 intro w st vs hst hvl;refine h (fun x hx=> ?_) w st vs hst hvl;obtain⟨j,hj⟩:=ZFM.1 hx;have hl:=(ZR hj).1;have hv:vs[j]? =some (vs[j]'(by rw[←hvl.1];exact hl)):=ξK _;exact(hvl.2 j _ _ hj hv).xx.wf
theorem WI.wf{c:Ctx}{E0:Env}{os0 os:List Ob}{n:Nat}{Q:Exit→List (Nat×D)→List Ob→Prop}{φ:List (Nat×D)}{ic:IC}(t:Nat){x:X}(ht:get φ t= .x x)(h:x.wf→WI P c E0 os0 n ic Q φ os):WI P c E0 os0 n ic Q φ os:=by
 intro code hc E a R hf;have:=hf.slot t;rw[ht]at this;exact h this.xx.wf code hc E a R hf
mutual
def X.ok:X→Prop
 | .sl rs=>rs.length≤maxLen∧X.okR rs
 | .int k n=>(Lit.int k n).wf=true
 | .bool _=>True
 | .str s=>s.length≤maxLen
 | .nilp=>True
 | .nils=>True
def X.okR:List (List X)→Prop
 | []=>True
 |r::l=>X.okL r∧X.okR l
def X.okL:List X→Prop
 | []=>True
 |x::l=>x.ok∧X.okL l
end
def ZDl(w:World)(xs:List X)(cs:List Value):Prop:=cs.length=xs.length∧ ∀(j:Nat) (x:X) (v:Value),xs[j]? =some x→cs[j]? =some v→VX w (fun b _=>b<w.heap.size) x v
def ZS1(P:Program)(T:TypeId){α:Type}(c:RC α):Prop:=
 P.cellsOf T=c.n∧ ∀ {H:Type} (enc:TypeId×Value→H) (w:World) (fuel:Nat) (cs:List Value) (x:DataW H×List MemPlace),DataW.trod enc P w 0 (fun _=>true) true fuel T cs=some x→ ∃y,ZDl w (c.enc y) cs∧X.okL (c.enc y)
theorem ZDl.one{w:World}{x:X}{v:Value}(h:VX w (fun b _=>b<w.heap.size) x v):ZDl w [x] [v]:=⟨rfl,fun j y u h1 h2=>by
 cases j with
 |zero=>simp at h1 h2;subst h1;subst h2;exact h
 |succ j=>simp at h1⟩
variable {T:TypeId}
theorem ZU1{k:IntKind}(hT:P.underlying T=some (.int k))(hc:P.cellsOf T=1):ZS1 P T (ZAp k):=
 ⟨hc,fun _ _ _ _ _ h=>let⟨n,h1,_,h3⟩:=DataW.trod_int hT h;⟨n,by rw[h1];exact ZDl.one (.int k n),h3,trivial⟩⟩
def Zae(P:Program)(fuel:Nat)(T:TypeId){α:Type}(c:RC α):Prop:= ∀ {H:Type} (enc:TypeId×Value→H) (w:World) (cs:List Value) (x:DataW H×List MemPlace),DataW.trod enc P w 0 (fun _=>true) true fuel T cs=some x→ ∃y,ZDl w (c.enc y) cs∧X.okL (c.enc y)
theorem ZS1.at'{α:Type}{c:RC α}(h:ZS1 P T c)(n:Nat):Zae P n T c:=fun enc w cs x hx=>h.2 enc w n cs x hx
def ZBz(g:List D→Option (Bool×D))(args:List D):Option (Bool×D):=g (args.map D.na)
theorem ZPM{f:FuncId}{g:List D→Option (Bool×D)}(h: ∀args r,g args=some (true,r)→ZD P f args r): ∀args r,ZBz g args=some (true,r)→ZD P f args r:=fun _ r hg=>ZD.na (h _ r hg)
def ZEF(g:List D→List Ob→Option (Bool×D×List Ob))(args:List D)(os:List Ob):Option (Bool×D×List Ob):=g (args.map D.nn) (os.map (Ob.mpb D.nn))
end
abbrev ZV:=Kz ZB (Kz (rSl ZB) ZDi)
abbrev ZCJ:=Kz ZB (Kz (rSl ZV) ZDi)
abbrev ZJ1:=Kz (ZAp .i64) (Kz (ZAp .i64) (Kz ZCJ (Kz ZCJ (Kz ZB ZDi))))
abbrev ZU:=List UInt8×(List (List UInt8)×Unit)
abbrev ZCO:=List UInt8×(List ZU×Unit)
abbrev Zau:=Int×(Int×(ZCO×(ZCO×(List UInt8×Unit))))
instance decAttr:DecidableEq ZU:=fun a b=>decidable_of_iff (a.1=b.1∧a.2.1=b.2.1) ⟨fun h=>ZEl h.1 (ZEl h.2 rfl),fun h=>h▸⟨rfl,rfl⟩⟩
instance decEntry:DecidableEq ZCO:=fun a b=>decidable_of_iff (a.1=b.1∧a.2.1=b.2.1) ⟨fun h=>ZEl h.1 (ZEl h.2 rfl),fun h=>h▸⟨rfl,rfl⟩⟩
instance decChange:DecidableEq Zau:=fun a b=>decidable_of_iff ((a.1=b.1∧a.2.1=b.2.1)∧(a.2.2.1=b.2.2.1∧a.2.2.2.1=b.2.2.2.1)∧a.2.2.2.2.1=b.2.2.2.2.1)
 ⟨fun h=>ZEl h.1.1 (ZEl h.1.2 (ZEl h.2.1.1 (ZEl h.2.1.2 (ZEl h.2.2 rfl)))),fun h=>h▸⟨⟨rfl,rfl⟩,⟨rfl,rfl⟩,rfl⟩⟩
theorem YJ:ZV.Good:=JZ ZO (JZ (ZFz ZO) ZEI)
theorem ZA4:ZCJ.Good:=JZ ZO (JZ (ZFz YJ) ZEI)
theorem ZJN:ZJ1.Good:=JZ (ZAh _) (JZ (ZAh _) (JZ ZA4 (JZ ZA4 (JZ ZO ZEI))))
theorem ZR4(l:List (List UInt8)):ZY ZB (rows ZB l)=some l:=Zj ZO l
theorem ZR2(k:IntKind)(l:List Int):ZY (ZAp k) (rows (ZAp k) l)=some l:=Zj (ZAh k) l
theorem ZQQ(l):ZY ZV (rows ZV l)=some l:=Zj YJ l
theorem ZON(l):ZY ZCJ (rows ZCJ l)=some l:=Zj ZA4 l
theorem ZMC(l):ZY ZJ1 (rows ZJ1 l)=some l:=Zj ZJN l
theorem ZHa(l):((rows ZB l).all fun r=>decide (r.length=1))=true:=ZFr ZO l 1 rfl
theorem ZHy(k)(l):((rows (ZAp k) l).all fun r=>decide (r.length=1))=true:=ZFr (ZAh k) l 1 rfl
theorem ZGM(l):((rows ZV l).all fun r=>decide (r.length=2))=true:=ZFr YJ l 2 rfl
theorem ZE1(l):((rows ZCJ l).all fun r=>decide (r.length=2))=true:=ZFr ZA4 l 2 rfl
theorem ZD5(l):((rows ZJ1 l).all fun r=>decide (r.length=7))=true:=ZFr ZJN l 7 rfl
section
variable {P:Program} {T:TypeId} {w:World}
theorem ZDl.append{xs ys:List X}{cs ds:List Value}(h:ZDl w xs cs)(k:ZDl w ys ds):ZDl w (xs++ys) (cs++ds):=by
 refine⟨by simp[h.1,k.1],fun j x v hx hv=> ?_⟩;by_cases hj:j<xs.length
 ·rw[YR hj]at hx;rw[YR (by rw[h.1];exact hj)]at hv;exact h.2 j x v hx hv
 ·rw[Ki (by omega)]at hx;rw[Ki (by rw[h.1];omega),h.1]at hv;exact k.2 _ x v hx hv
theorem ZDl.nil:ZDl w [] []:=⟨rfl,fun j x v h=>by simp at h⟩
inductive VF (E:Env) (os:List Ob):List D→List Value→Prop
 |nil:VF E os [] []
 |cons {d:D} {v:Value} {ds:List D} {l:List Value} (h:V E os d v) (t:VF E os ds l):VF E os (d::ds) (v::l)
theorem VL.mk{E:Env}{os:List Ob}: ∀ {ds:List D} {l:List Value},VF E os ds l→VL E os ds l.toArray
 |_,_,.nil=>⟨rfl,fun j d v h=>by simp at h⟩
 |_,_,.cons (d:=d) (v:=v) (ds:=ds) (l:=l) h t=>by
  have ih:=VL.mk t;refine⟨by have:=ih.1;simp at this⊢;exact this,fun j d' v' hd hv=> ?_⟩;cases j with
  |zero=>simp at hd hv;subst hd;subst hv;exact h
  |succ j=>exact ih.2 j d' v' (by simpa using hd) (by simpa using hv)
abbrev ZcP(w:World):Env:=⟨w,fun b _=>b<w.heap.size,[]⟩
theorem V.lies1{x:X}{v:Value}(h:ZDl w [x] [v]):V (ZcP w) [] (.x x) v:= .x (h.2 0 x v rfl rfl)
theorem ZD.law{f:FuncId}{args:List D}(h:ZD P f args (.x (.bool true))){vs:List Value}(hvl:VF (ZcP w) [] args vs):Calls P f vs.toArray w fun e w'=>e= .returned (.bool true)∧Kt w w':=by
 refine(h w (fun b _=>b<w.heap.size) vs.toArray (fun _ _ hb=>hb) (VL.mk hvl)).mono ?_;rintro e w' ⟨v,st',rfl,hk,_,_,hv⟩;rw[V.bool hv];exact⟨rfl,hk.os,hk.tape,hk.output,hk.size,fun k hb=>hk.block k hb (fun h=>h)⟩
end
def Zy(S:Tabs):Bool→List (Nat×D)→List Ob→List IOp→Option (Bool×List (Nat×D)×List Ob)
 |b,φ,os,[]=>some (b,φ,os)
 |b,φ,os,o::l=>match Yv S φ os o with
  |some r=>Zy S (b&&r.1) r.2.1 r.2.2 l
  |none=>none
theorem ZEr(S:Tabs): ∀(l:List IOp) (b:Bool) (φ:List (Nat×D)) (os:List Ob),Zy S b φ os l=(Jr S φ os l).map fun q=>(b&&q.1,q.2)
 | [],b,φ,os=>by simp[Zy,Jr]
 |o::l,b,φ,os=>by
  simp only[Zy,Jr];cases Yv S φ os o with
  |none=>rfl
  |some r=>
   simp only[Qu,ZEr S l];cases Jr S r.2.1 r.2.2 l with
   |none=>rfl
   |some q=>simp[ZJt]
def YH(S:Tabs)(os0:List Ob)(k:Nat)(rs:List Nat):Nat→Bool→List (Nat×D)→Nat→List Ob→List Ob→Option (List Ob)→List IOp→Option (Bool×List (Nat×D)×List Ob)
 |_,b,φ,_,_,C,last,[]=>some (b,φ,last.getD (os0++C))
 |i,b,φ,id,os,C,last,o::l=>
  if o.e.frame then match Yo S φ [] o with
   |some r=>YH S os0 k rs (i+1) (b&&r.1) (putO φ o.dst r.2) id os C last l
   |none=>none
  else if Zh i rs then match Yo S φ os0 o with
   |some r=>YH S os0 k rs (i+1) (b&&r.1) (putO φ o.dst r.2) id os C last l
   |none=>none
  else if i<k then match Yo S φ os0 o with
   |some r=>YH S os0 k rs (i+1) (b&&r.1) (putO φ o.dst r.2) id os C last l
   |none=>match ZEs φ os o with
    |some r=>YH S os0 k rs (i+1) (b&&r.1) (putO φ o.dst r.2) id os C last l
    |none=>match Qo S φ os0 id o with
     |some r=>YH S os0 k rs (i+1) (b&&r.1) (putO φ o.dst r.2.1) (id+1) (os++ [r.2.2]) (C++ [r.2.2]) last l
     |none=>none
  else match QD S φ os o with
   |some r=>YH S os0 k rs (i+1) (b&&(r.1&&(match rs with| []=>true|_=>KO os0 r.2.2))) (putO φ o.dst r.2.1) id r.2.2 C (some r.2.2) l
   |none=>none
theorem ZEL(rs:List Nat)(os0:List Ob)(G):ZK7 rs os0 (none::G)=ZK7 rs os0 G:=by cases rs<;>rfl
theorem ZTt(rs:List Nat)(os0:List Ob)(x:List Ob)(G):ZK7 rs os0 (some x::G)=((match rs with| []=>true|_=>KO os0 x)&&ZK7 rs os0 G):=by cases rs<;>rfl
theorem Yw(G:List (Option (List Ob)))(i:Nat)(b:List Ob):Zq (none::G) (fun _=>true) i b=Zq G (fun _=>true) 0 b:=by
 simp only[Zq];exact Ju _ _ _ _ _ (fun _ _ _=>rfl)|>.trans (by
  have: ∀(G:List (Option (List Ob))) (i j:Nat) (b:List Ob),Zq G (fun _=>true) i b=Zq G (fun _=>true) j b:=by
   intro G
   induction G with
   |nil=>intro i j b;rfl
   |cons x G ih=>intro i j b;cases x<;>simp only[Zq]<;>exact ih _ _ _
  exact this _ _ _ _)
theorem ZGU(G:List (Option (List Ob)))(i:Nat)(b x:List Ob):Zq (some x::G) (fun _=>true) i b=Zq G (fun _=>true) 0 x:=by
 have: ∀(G:List (Option (List Ob))) (i j:Nat) (b:List Ob),Zq G (fun _=>true) i b=Zq G (fun _=>true) j b:=by
  intro G
  induction G with
  |nil=>intro i j b;rfl
  |cons x G ih=>intro i j b;cases x<;>simp only[Zq]<;>exact ih _ _ _
 simp only[Zq,if_true];exact this _ _ _ _
theorem ZCY(S:Tabs)(os0:List Ob)(k:Nat)(rs:List Nat): ∀(l:List IOp) (i:Nat) (b:Bool) (φ:List (Nat×D)) (id:Nat) (os C:List Ob) (last:Option (List Ob)),
  YH S os0 k rs i b φ id os C last l=(Jj S os0 k rs i φ id os l).map fun q=>(b&&(q.1&&ZK7 rs os0 q.2.2),Ya φ q.2.1,Zq q.2.2 (fun _=>true) 0 (last.getD (os0++C++YD q.2.1)))
 | [],i,b,φ,id,os,C,last=>by
  have:ZK7 rs os0 []=true:=by cases rs<;>rfl
  simp[YH,Jj,Ya,YD,Zq,this]
 |o::l,i,b,φ,id,os,C,last=>by
  simp only[YH,Jj];split
  ·cases Yo S φ [] o with
   |none=>rfl
   |some r=>
    simp only[Qu,ZCY S os0 k rs l];cases Jj S os0 k rs (i+1) (putO φ o.dst r.2) id os l with
    |none=>rfl
    |some q=>simp only[YS,ZJt,Ya,YD,ZEL,Yw]
  ·split
   ·cases Yo S φ os0 o with
    |none=>rfl
    |some r=>
     simp only[Qu,ZCY S os0 k rs l];cases Jj S os0 k rs (i+1) (putO φ o.dst r.2) id os l with
     |none=>rfl
     |some q=>simp only[YS,ZJt,Ya,YD,ZEL,Yw]
   ·split
    ·cases Yo S φ os0 o with
     |some r=>
      simp only[ZCY S os0 k rs l];cases Jj S os0 k rs (i+1) (putO φ o.dst r.2) id os l with
      |none=>rfl
      |some q=>simp only[YS,ZJt,Ya,YD,ZEL,Yw]
     |none=>
      cases ZEs φ os o with
      |some r=>
       simp only[ZCY S os0 k rs l];cases Jj S os0 k rs (i+1) (putO φ o.dst r.2) id os l with
       |none=>rfl
       |some q=>simp only[YS,ZJt,Ya,YD,ZEL,Yw]
      |none=>
       cases Qo S φ os0 id o with
       |none=>rfl
       |some r=>
        simp only[Qu,ZCY S os0 k rs l];cases Jj S os0 k rs (i+1) (putO φ o.dst r.2.1) (id+1) (os++ [r.2.2]) l with
        |none=>rfl
        |some q=>simp only[YS,ZJt,Ya,YD,ZEL,Yw,Yk,QC,Qw]
    ·cases QD S φ os o with
     |none=>rfl
     |some r=>
      simp only[Qu,ZCY S os0 k rs l];cases Jj S os0 k rs (i+1) (putO φ o.dst r.2.1) id r.2.2 l with
      |none=>rfl
      |some q=>simp only[YS,ZJt,Ya,YD,ZTt,ZGU,Qe];congr 1;simp only[Za,and_true];ac_rfl
section
variable {P:Program} {c:Ctx} {E0:Env} {os0 os:List Ob} {n:Nat} {Q:Exit→List (Nat×D)→List Ob→Prop} {φ:List (Nat×D)}
theorem WI.regA{S:Tabs}(hS:SsOk P S)(ks:List Nat){l:List IOp}(h: ∀K:List (Nat×D)→List Ob→Prop,(∀φ' os',Q .normal φ' os'→K φ' os')→YK (Zy S true φ os l) (fun φ' os'=>K (Go.Ab.keep ks φ') os')):WI P c E0 os0 n (.reg l) Q φ os:=
 WI.regK hS ks (fun K hK=>by
  have:=h K hK;rw[ZEr]at this;obtain⟨ok,φ',os',h1,h2,h3⟩:=this;obtain⟨⟨ok2,q⟩,h4,h5⟩:=ZT h1;simp at h5;obtain⟨rfl,rfl⟩:=h5;exact⟨_,_,_,h4,h2,h3⟩)
theorem WI.dregA{S:Tabs}(hS:SsOk P S)(ks:List Nat){k k2:Nat}{rs rs2:List Nat}{l:List IOp}(h: ∀K:List (Nat×D)→List Ob→Prop,(∀φ' os',Q .normal φ' os'→K φ' os')→YK (YH S os k rs 0 true φ os.length os [] none l) (fun φ' os'=>K (Go.Ab.keep ks φ') os')):WI P c E0 os0 n (.dreg k rs k2 rs2 l) Q φ os:=by
 have:=h _ (fun _ _ h=>h);rw[ZCY]at this;obtain⟨ok,φ',os',h1,h2,h3⟩:=this;obtain⟨q,h4,h5⟩:=ZT h1;simp at h5;obtain⟨h5,rfl,rfl⟩:=h5;exact WI.dreg' (m:=none) hS (.inl (by simp only[ZGW,ZLh,h4,YS])) (h5.trans h2) h3 (fun _ _ f=>f.keep ks)
end
theorem ZNy(φ:List (Nat×D)): ∀(ts:List Nat) (t:Nat),get (ts.map fun u=>(u,get φ u)) t=get φ t∨get (ts.map fun u=>(u,get φ u)) t= .und
 | [],t=> .inr rfl
 |u::ts,t=>by
  simp only[YL,get];split
  ·rename_i h;subst h;exact .inl rfl
  ·exact ZNy φ ts t
theorem WI.order{P:Program}{c:Ctx}{E0:Env}{os0 os:List Ob}{n:Nat}{Q:Exit→List (Nat×D)→List Ob→Prop}{φ:List (Nat×D)}{ic:IC}(ts:List Nat)(h:WI P c E0 os0 n ic Q (ts.map fun u=>(u,get φ u)) os):WI P c E0 os0 n ic Q φ os:=
 WI.weak (fun E _ R hf=>⟨E,rfl,R,hf.size,hf.defers,fun t=>by
  rcases ZNy φ ts t with h|h
  ·rw[h];exact hf.slot t
  ·rw[h];exact .und _⟩) h
mutual
theorem X.beq_refl: ∀x:X,X.beq x x=true
 | .int k n=>by simp[X.beq]
 | .bool a=>by simp[X.beq]
 | .str s=>by simp[X.beq]
 | .nilp=>rfl
 | .nils=>rfl
 | .sl a=>by simp only[X.beq];exact X.beqR_refl a
theorem X.beqR_refl: ∀a:List (List X),X.beqR a a=true
 | []=>rfl
 |r::l=>by simp only[X.beqR,ZS];exact⟨X.beqL_refl r,X.beqR_refl l⟩
theorem X.beqL_refl: ∀a:List X,X.beqL a a=true
 | []=>rfl
 |x::l=>by simp only[X.beqL,ZS];exact⟨X.beq_refl x,X.beqL_refl l⟩
end
mutual
theorem D.beq_refl: ∀d:D,D.beq d d=true
 | .x a=>by simp only[D.beq];exact X.beq_refl a
 | .ref a b c d=>by simp[D.beq]
 | .ptr a b=>by simp[D.beq]
 | .eptr a b c d=>by simp[D.beq]
 | .vptr a=>by simp only[D.beq];exact X.beqL_refl a
 | .mref a=>by simp[D.beq]
 | .mnil=>rfl
 | .iref a b=>by simp[D.beq]
 | .stk a b=>by simp[D.beq]
 | .bref a b c=>by simp[D.beq]
 | .agg a=>by simp only[D.beq];exact D.beqL_refl a
 | .tup a=>by simp only[D.beq];exact D.beqL_refl a
 | .full a=>by simp only[D.beq];exact X.beqR_refl a
 | .nz a=>by simp only[D.beq];exact X.beqR_refl a
 | .fn f a=>by simp only[D.beq,ZS];exact⟨by simp,D.beqL_refl a⟩
 | .opt a d=>by simp only[D.beq,ZS];exact⟨by simp,D.beq_refl d⟩
 | .und=>rfl
theorem D.beqL_refl: ∀a:List D,D.beqL a a=true
 | []=>rfl
 |e::l=>by simp only[D.beqL,ZS];exact⟨D.beq_refl e,D.beqL_refl l⟩
end
theorem beqR_refl: ∀a:List (List D),beqR a a=true
 | []=>rfl
 |r::l=>by simp only[beqR,ZS];exact⟨D.beqL_refl r,beqR_refl l⟩
theorem ZNf(p:Pr):ZNE p p=true:=by simp only[ZNE,ZS];exact⟨X.beqL_refl p.1,D.beqL_refl p.2⟩
theorem ZC7: ∀a:List Pr,ZFo a a=true
 | []=>rfl
 |p::l=>by simp only[ZFo,ZS];exact⟨ZNf p,ZC7 l⟩
theorem ZVL: ∀a:Option Pr,ZY5 a a=true
 |none=>rfl
 |some p=>ZNf p
theorem ZLJ: ∀a:List (List Pr),ZHz a a=true
 | []=>rfl
 |p::l=>by simp only[ZHz,ZS];exact⟨ZC7 p,ZLJ l⟩
theorem ZOM: ∀a:List (X×List (List X)),ZKt a a=true
 | []=>rfl
 |p::l=>by simp only[ZKt,ZS];exact⟨X.beq_refl p.1,X.beqR_refl p.2,ZOM l⟩
theorem Ob.beq_refl(o:Ob):Ob.beq o o=true:=by
 cases o with
 |box ds=>simp only[Ob.beq];exact D.beqL_refl ds
 |rows f e s rs=>simp only[Ob.beq,ZS];exact⟨by simp,ZDg e,ZDg s,X.beqR_refl rs⟩
 |drw e s rs=>simp only[Ob.beq,ZS];exact⟨ZDg e,ZDg s,beqR_refl rs⟩
 |frz s rs=>simp only[Ob.beq,ZS];exact⟨ZDg s,X.beqR_refl rs⟩
 |mpo dk ag l=>simp only[Ob.beq,ZS];exact⟨by simp,by simp,ZC7 l⟩
 |mit dk ag l it R cur=>simp only[Ob.beq,ZS];exact⟨by simp,by simp,ZC7 l,ZDg it,ZC7 R,ZVL cur⟩
 |mpn dk ag l key sid=>simp only[Ob.beq,ZS];exact⟨by simp,by simp,ZC7 l,X.beqL_refl key,ZDg sid⟩
 |itr=>rfl
 |stp=>rfl
 |nit=>rfl
 |sit s pos=>simp only[Ob.beq,ZS];exact⟨by simp,ZDg pos⟩
 |old s n=>simp only[Ob.beq,ZS];exact⟨ZDg s,ZDg n⟩
 |fam k P B=>simp only[Ob.beq,ZS];exact⟨ZDg k,ZLJ P,ZOM B⟩
 |dead=>rfl
def ZAT(φ:List (Nat×D)):Option IO→Option D
 |none=>none
 |some l=>some (ZC φ l)
def Kq(dx:D)(lo hi mx:Option D):Option (Bool×D):=
 match dx.val with
 | .x (.str s)=>match lo,hi,mx with
  |none,none,none=>some (dx.cond,.x (.str s))
  |some l,none,none=>(ZH l.val).map fun(n:Int)=>(dx.cond&&(l.cond&&(decide (0≤n)&&decide (n≤s.length))),.x (.str (s.drop n.toNat)))
  |none,some h,none=>(ZH h.val).map fun(m:Int)=>(dx.cond&&(h.cond&&(decide (0≤m)&&decide (m≤s.length))),.x (.str (s.take m.toNat)))
  |some l,some h,none=>(ZH l.val).bind fun(n:Int)=>(ZH h.val).map fun(m:Int)=>(dx.cond&&((l.cond&&h.cond)&&(decide (0≤n)&&(decide (n≤m)&&decide (m≤s.length)))),.x (.str ((s.take m.toNat).drop n.toNat)))
  |_,_,_=>none
 |_=>none
def Qg(os:List Ob)(sz:Nat)(dx:D)(lo hi mx:Option D):Option (Bool×D):=
 match dx.val with
 | .x .nils=>(KQ (lo)).bind fun p=>(KQ (hi)).bind fun q=>(KQ (mx)).map fun r=>(dx.cond&&((mx.isNone||hi.isSome)&&(p&&(q&&r))),.x .nils)
 | .x (.sl rs)=>match lo,hi,mx with
  |none,none,none=>some (dx.cond,.x (.sl rs))
  |some l,none,none=>(ZH l.val).map fun(n:Int)=>(dx.cond&&(l.cond&&(decide (0≤n)&&(decide (n≤rs.length)&&rs.all fun r=>decide (r.length=sz)))),.x (.sl (rs.drop n.toNat)))
  |none,some h,none=>(ZH h.val).map fun(m:Int)=>(dx.cond&&(h.cond&&(decide (0≤m)&&(decide (m≤rs.length)&&rs.all fun r=>decide (r.length=sz)))),.x (.sl (rs.take m.toNat)))
  |some l,some h,none=>(ZH l.val).bind fun(n:Int)=>(ZH h.val).map fun(m:Int)=>(dx.cond&&((l.cond&&h.cond)&&(decide (0≤n)&&(decide (n≤m)&&(decide (m≤rs.length)&&rs.all fun r=>decide (r.length=sz))))),.x (.sl ((rs.take m.toNat).drop n.toNat)))
  |l,some h,some mi=>(KQ l).bind fun z=>(ZH h.val).bind fun(n:Int)=>(ZH mi.val).map fun(m:Int)=>(dx.cond&&(z&&(h.cond&&(mi.cond&&(decide (0≤n)&&(decide (n≤rs.length)&&(decide (n=m)&&rs.all fun r=>decide (r.length=sz))))))),.full (rs.take n.toNat))
  |_,_,_=>none
 | .ref id ext off len=>match os[id]? with
  |some o=>match o.slice? with
   |some (sz',rs)=>match lo,hi,mx with
    |some l,none,none=>(ZH l.val).map fun(n:Int)=>(dx.cond&&(l.cond&&(decide (sz'=sz)&&(decide (rs.length=ext)&&(decide (0≤n)&&decide (n≤len))))),.ref id ext (off+n.toNat) (len-n.toNat))
    |none,some h,none=>(ZH h.val).map fun(m:Int)=>(dx.cond&&(h.cond&&(decide (sz'=sz)&&(decide (rs.length=ext)&&(decide (0≤m)&&decide (m≤len))))),.ref id ext off m.toNat)
    |some l,some h,none=>(ZH l.val).bind fun(n:Int)=>(ZH h.val).map fun(m:Int)=>(dx.cond&&((l.cond&&h.cond)&&(decide (sz'=sz)&&(decide (rs.length=ext)&&(decide (0≤n)&&(decide (n≤m)&&decide (m≤len)))))),.ref id ext (off+n.toNat) (m.toNat-n.toNat))
    |_,_,_=>none
   |none=>none
  |none=>none
 |_=>none
theorem ZGV(φ:List (Nat×D))(x:IO)(lo hi mx:Option IO):ZHV φ x lo hi mx=Kq (ZC φ x) (ZAT φ lo) (ZAT φ hi) (ZAT φ mx):=by
 cases lo<;>cases hi<;>cases mx<;>rfl
theorem ZHx(φ:List (Nat×D))(os:List Ob)(sz:Nat)(x:IO)(lo hi mx:Option IO):ZHq φ os sz x lo hi mx=Qg os sz (ZC φ x) (ZAT φ lo) (ZAT φ hi) (ZAT φ mx):=by
 cases lo<;>cases hi<;>cases mx<;>rfl
def ZBF(φ:List (Nat×D)):List IO→List D
 | []=> []
 |y::ys=>(ZC φ y).val::ZBF φ ys
def ZAG(φ:List (Nat×D)):List IO→Bool
 | []=>true
 |y::ys=>(ZC φ y).cond&&ZAG φ ys
theorem ZGR(φ:List (Nat×D)): ∀l,(l.map fun y=>(ZC φ y).val)=ZBF φ l
 | []=>rfl
 |y::ys=>by simp[ZBF,ZGR φ ys]
theorem ZEt(φ:List (Nat×D)): ∀l:List IO,(l.all fun y=>(ZC φ y).cond)=ZAG φ l
 | []=>rfl
 |y::ys=>by simp[ZAG,ZEt φ ys]
def ZCM(T:FuncId→List D→List Ob→Option (Bool×D×List Ob))(df:D)(vs:List D)(cs:Bool)(os:List Ob):Option (Bool×D×List Ob):=match df.val with
 | .fn g caps=>(T g (vs++caps) os).map fun r=>(df.cond&&(cs&&r.1),r.2)
 |_=>none
def ZCD(T:FuncId→List D→List Ob→Option (Bool×D))(df:D)(vs:List D)(cs:Bool)(os:List Ob):Option (Bool×D):=match df.val with
 | .fn g caps=>(T g (vs++caps) os).map fun r=>(df.cond&&(cs&&r.1),r.2)
 |_=>none
def ZCF(T:FuncId→List D→List Ob→Option (Bool×(Nat→D)×Ob))(df:D)(vs:List D)(cs:Bool)(os:List Ob)(id:Nat):Option (Bool×D×Ob):=match df.val with
 | .fn g caps=>(T g (vs++caps) os).map fun r=>(df.cond&&(cs&&r.1),r.2.1 id,r.2.2)
 |_=>none
theorem ZOl(T:FuncId→List D→List Ob→Option (Bool×D×List Ob))(φ:List (Nat×D))(os:List Ob)(e:IE):ZGA T φ os e=match e with
  | .call f xs=>ZCM T (ZC φ f) (ZBF φ xs) (ZAG φ xs) os
  |_=>none:=by
 cases e<;>first|rfl|skip
 simp only[ZGA,ZGR,ZEt,ZCM];generalize(ZC φ _).val=u;cases u<;>rfl
theorem ZOr(T:FuncId→List D→List Ob→Option (Bool×D))(φ:List (Nat×D))(os:List Ob)(e:IE):ZB1 T φ os e=match e with
  | .call f xs=>ZCD T (ZC φ f) (ZBF φ xs) (ZAG φ xs) os
  |_=>none:=by
 cases e<;>first|rfl|skip
 simp only[ZB1,ZGR,ZEt,ZCD];generalize(ZC φ _).val=u;cases u<;>rfl
theorem ZOd(T:FuncId→List D→List Ob→Option (Bool×(Nat→D)×Ob))(φ:List (Nat×D))(os:List Ob)(id:Nat)(e:IE):ZD4 T φ os id e=match e with
  | .call f xs=>ZCF T (ZC φ f) (ZBF φ xs) (ZAG φ xs) os id
  |_=>none:=by
 cases e<;>first|rfl|skip
 simp only[ZD4,ZGR,ZEt,ZCF];generalize(ZC φ _).val=u;cases u<;>rfl
section
variable {S:Tabs} {os0 os C:List Ob} {k i id:Nat} {rs:List Nat} {φ φ':List (Nat×D)} {os':List Ob} {last:Option (List Ob)} {o:IOp} {l:List IOp} {ok:Bool} {d:D} {ob:Ob} {K:List (Nat×D)→List Ob→Prop}
theorem ZLa(s:List UInt8):(s.map Zk).take s.length=s.map Zk:=JH (by simp)
theorem ZP2(l:List (List UInt8))(w:List UInt8):rows ZB l++ [[X.str w]]=rows ZB (l++ [w]):=ZAu ZB l [w]
theorem ZOB(s:List UInt8)(i:Nat)(h:i<s.length):(s.map Zk)[i]? =some [X.int .u8 (s[i].toNat:Int)]:=by simp[Zk,h]
theorem ZN7(s:List UInt8):(s.map Zk).length=s.length:=Yf ..
theorem Ky(s:List UInt8):(s.map Zk).map ZAZ=s:=by
 rw[Jq]
 conv=>rhs;rw[←ZM2 s]
 refine ZB4 (fun b _=> ?_);simp[ZAZ,Zk]
theorem Qa(s:List UInt8):((s.map Zk).all ZEX)=true:=by
 rw[YQ];intro r hr;obtain⟨b,_,rfl⟩:=YW.1 hr;rfl
theorem ZVJ{α:Type}(c:RC α):ZY c []=some []:=rfl
theorem ZMS(n:Nat):Nat.beq n n=true:=ZDg n
theorem ZLi(m n:Nat)(h:m≠n):Nat.beq m n=false:=by
 cases hb:Nat.beq m n with
 |false=>rfl
 |true=>exact absurd (ZTL hb) h
theorem ZVS(b:Bool):(b||b==false)=true:=by cases b<;>rfl
theorem ZRg(dk:KK)(ag:Bool)(l:List Pr):(Ob.mpo dk ag l).map? =some (dk,ag,l):=rfl
theorem ZSA(dk:KK)(ag:Bool)(l:List Pr)(it:Nat)(R:List Pr)(cur:Option Pr):(Ob.mit dk ag l it R cur).map? =some (dk,ag,l):=rfl
theorem ZRd(dk:KK)(ag:Bool)(l:List Pr)(key:List X)(sid:Nat):(Ob.mpn dk ag l key sid).map? =some (dk,ag,l):=rfl
theorem ZR1(dk:KK)(ag:Bool)(l:List Pr):(Ob.mpo dk ag l).upd? =some (dk,ag,l):=rfl
theorem ZRi(dk:KK)(ag:Bool)(l:List Pr)(key:List X)(sid:Nat):(Ob.mpn dk ag l key sid).upd? =some (dk,ag,l):=rfl
theorem ZR8(k:IntKind)(n:Int):KM (.int k) (.x (.int k n))=some [.int k n]:=by simp[KM]
theorem ZRY(s:List UInt8):KM .str (.x (.str s))=some [.str s]:=rfl
theorem ZPw(k:IntKind)(n:Int):keyD (.int k) [.int k n]= .x (.int k n):=rfl
theorem ZO4(s:List UInt8):keyD .str [.str s]= .x (.str s):=rfl
theorem ZPI(d:D):ZEB false [d]=d:=rfl
theorem ZRl(ds:List D):ZEB true ds= .agg ds:=rfl
theorem Zcq(y:X):agD (.x y)=false:=rfl
theorem ZUb(ds:List D):agD (.agg ds)=true:=rfl
theorem ZT6(a b c d:Nat):agD (.ref a b c d)=false:=rfl
theorem ZT3(a b:Nat):agD (.ptr a b)=false:=rfl
theorem ZQ5(a:Nat):agD (.mref a)=false:=rfl
theorem Zbe(k:KK):(k=k)=True:=eq_self k
theorem Zcm(b:Bool):(b=b)=True:=eq_self b
theorem Zbx(b:Nat):(b=b)=True:=eq_self b
theorem ZPm(k:List X):Yx [] k=none:=rfl
def Zbd(N it:Nat)(_:List (Nat×D))(os:List Ob):Nat:=match os[it]? with|some (.sit _ p)=>N-p|_=>0
def ZMa(mid:Nat)(_:List (Nat×D))(os:List Ob):Nat:=match os[mid]? with|some (.mit _ _ _ _ R _)=>R.length|_=>0
theorem osN(h:K φ os):YK (Zy S true φ os []) K:=⟨true,φ,os,rfl,rfl,h⟩
theorem osS(he:Yv S φ os o=some (ok,φ',os'))(hok:ok=true)(h:YK (Zy S true φ' os' l) K):YK (Zy S true φ os (o::l)) K:=by
 subst hok;simp only[Zy,he,QJ];exact h
theorem dsN(h:K φ (last.getD (os0++C))):YK (YH S os0 k rs i true φ id os C last []) K:=⟨true,φ,_,rfl,rfl,h⟩
theorem dsF(hf:o.e.frame=true)(he:(Yo S φ [] o).map (fun r=>(r.1,putO φ o.dst r.2))=some (ok,φ'))(hok:ok=true)(h:YK (YH S os0 k rs (i+1) true φ' id os C last l) K):YK (YH S os0 k rs i true φ id os C last (o::l)) K:=by
 subst hok;obtain⟨r,h1,h2⟩:=ZT he;simp only[Za]at h2;obtain⟨h2,rfl⟩:=h2;simp only[YH,hf,if_true,h1,h2,QJ];exact h
theorem dsQ(hf:o.e.frame=false)(hm:Zh i rs=false)(hk:Nat.ble (i+1) k=true)(he:(Yo S φ os0 o).map (fun r=>(r.1,putO φ o.dst r.2))=some (ok,φ'))(hok:ok=true)(h:YK (YH S os0 k rs (i+1) true φ' id os C last l) K):YK (YH S os0 k rs i true φ id os C last (o::l)) K:=by
 subst hok;obtain⟨r,h1,h2⟩:=ZT he;simp only[Za]at h2;obtain⟨h2,rfl⟩:=h2;have hk':i<k:=ξ hk;simp only[YH,hf,hm,if_true,h1,h2,hk',QJ,Yt,if_false];exact h
theorem ZV2{S:Tabs}{φ:List (Nat×D)}{os0 os:List Ob}{id:Nat}{o:IOp}{r:Bool×D×Ob}(h:Qo S φ os0 id o=some r):ZEs φ os o=none:=by
 obtain⟨dst,e,g⟩:=o;cases g with
 |some p=>rfl
 |none=>
  cases e with
  |b2s x=>simp[Qo,evC,Qc,ZD4]at h
  |_=>rfl
theorem dsK(hf:o.e.frame=false)(hm:Zh i rs=false)(hk:Nat.ble (i+1) k=true)(hn:Yo S φ os0 o=none)(he:(Qo S φ os0 id o).map (fun r=>(r.1,putO φ o.dst r.2.1,r.2.2))=some (ok,φ',ob))(hok:ok=true)(h:YK (YH S os0 k rs (i+1) true φ' (id+1) (os++ [ob]) (C++ [ob]) last l) K):YK (YH S os0 k rs i true φ id os C last (o::l)) K:=by
 subst hok;obtain⟨r,h1,h2⟩:=ZT he;simp only[Za]at h2;obtain⟨h2,rfl,rfl⟩:=h2;have hk':i<k:=ξ hk;simp only[YH,hf,hm,if_true,hn,ZV2 h1,h1,h2,hk',QJ,Yt,if_false];exact h
theorem dsA(hf:o.e.frame=false)(hm:Zh i rs=false)(hk:Nat.ble (i+1) k=false)(he:(QD S φ os o).map (fun r=>(r.1&&(match rs with| []=>true|_=>KO os0 r.2.2),putO φ o.dst r.2.1,r.2.2))=some (ok,φ',os'))(hok:ok=true)(h:YK (YH S os0 k rs (i+1) true φ' id os' C (some os') l) K):YK (YH S os0 k rs i true φ id os C last (o::l)) K:=by
 subst hok;obtain⟨r,h1,h2⟩:=ZT he;simp only[Za]at h2;obtain⟨h2,rfl,rfl⟩:=h2;have hk': ¬i<k:=fun h=>by have:=Nat.ble_eq_true_of_le h;rw[Nat.succ_eq_add_one,hk]at this;cases this
 simp only[YH,hf,hm,h1,h2,hk',ZCp,Yt,if_false];exact h
end
section
variable {κ β:Type} (kc:κ→List X) (vc:β→List X)
def YV(L:List (κ×β)):List Pr:=L.map fun p=>(kc p.1,(vc p.2).map D.x)
theorem ZHo(L:List (κ×β)):(YV kc vc L).length=L.length:=by simp[YV]
theorem Zas(L:List (κ×β))(i:Nat):(YV kc vc L)[i]? =(L[i]?).map fun p=>(kc p.1,(vc p.2).map D.x):=by simp[YV]
theorem ZcG(f:Nat→Nat)(l:List X):Zn f (l.map D.x)=l.map D.x:=by
 rw[KE,Jq];rfl
theorem ZdY(p:Nat→Bool)(l:List X):Yb p (l.map D.x)=true:=by
 rw[ZAR,YQ];intro d hd;obtain⟨x,_,rfl⟩:=YW.1 hd;rfl
theorem Zbt(l:List X):JE (l.map D.x)= []:=by
 induction l with
 |nil=>rfl
 |cons x l ih=>simp only[YL,JE,ZFe,ih];rfl
theorem ZeV(ρ:List Nat)(os:List Ob)(l:List X):(l.map D.x).map (Qr ρ os)=l.map D.x:=by
 rw[Jq];refine ZB4 fun x _=> ?_
 simp only[Function.comp,Qr,D.vw,D.on,D.inP,if_true]
theorem Qk(f:Nat→Nat)(L:List (κ×β)):(YV kc vc L).map (Yz f)=YV kc vc L:=by
 rw[YV,Jq];refine ZB4 fun p _=> ?_
 simp only[Function.comp,Yz,ZcG]
theorem ZBN(L:List (κ×β)):ZBY (YV kc vc L)= []:=by
 induction L with
 |nil=>rfl
 |cons p L ih=>simp only[YV,YL,ZBY,Zbt]at ih⊢;exact ih
theorem QN(p:Nat→Bool)(L:List (κ×β)):(YV kc vc L).all (Qh p)=true:=by
 rw[YQ];intro q hq;obtain⟨r,_,rfl⟩:=YW.1 hq;exact ZdY p _
theorem ZDd(ρ:List Nat)(os:List Ob)(L:List (κ×β)):(YV kc vc L).map (mpP (Qr ρ os))=YV kc vc L:=by
 rw[YV,Jq];refine ZB4 fun p _=> ?_
 simp only[Function.comp,mpP,ZeV]
theorem ZIE(L:List (κ×β))(i:Nat):(YV kc vc L).eraseIdx i=YV kc vc (L.eraseIdx i):=by
 induction L generalizing i with
 |nil=>rfl
 |cons p L ih=>cases i with
  |zero=>rfl
  |succ i=>simp only[YV,YL,ZY6]at ih⊢;rw[ih]
variable [DecidableEq κ] (hk: ∀a b:κ,ZA7 (kc a) (kc b)=decide (a=b))
include hk
theorem ZDp(L:List (κ×β))(c:κ):Yx (YV kc vc L) (kc c)=(ZI L c).map fun v=>(vc v).map D.x:=by
 induction L with
 |nil=>rfl
 |cons p L ih=>
  simp only[YV,YL,Yx,hk]at ih⊢;by_cases h:c=p.1
  ·simp[ZI,h]
  ·simp only[h,decide_false,Yt,if_false];rw[ih];simp[ZI,h]
theorem ZCg(L:List (κ×β))(c:κ)(v:β):YM (YV kc vc L) (kc c) ((vc v).map D.x)=YV kc vc (Zz L c v):=by
 induction L with
 |nil=>rfl
 |cons p L ih=>
  simp only[YV,YL,YM,hk,Zz]at ih⊢;by_cases h:c=p.1
  ·simp[h]
  ·simp only[h,decide_false,Yt,if_false];rw[ih];simp
end
def Qq{κ β:Type}(c:RC κ)(d:RC β):List Pr→Option (List (κ×β))
 | []=>some []
 |q::M=>(c.dec q.1).bind fun a=>(ZC2 q.2).bind fun xs=>(d.dec xs).bind fun b=>(Qq c d M).map fun L=>(a,b)::L
theorem ZKW: ∀l:List X,ZC2 (l.map D.x)=some l
 | []=>rfl
 |x::l=>by simp only[YL,ZC2,ZKW l,YS]
theorem ZQT{κ β:Type}{c:RC κ}{d:RC β}(hc:c.Good)(hd:d.Good): ∀L:List (κ×β),Qq c d (YV c.enc d.enc L)=some L
 | []=>rfl
 |p::L=>by
  have ih:=ZQT hc hd L;simp only[YV,YL,Qq,hc.de,hd.de,ZKW,Qu]at ih⊢;rw[ih];rfl
theorem JD{κ β:Type}{c:RC κ}{d:RC β}(hc:c.Good)(hd:d.Good): ∀ {M:List Pr} {L:List (κ×β)},Qq c d M=some L→M=YV c.enc d.enc L
 | [],L,h=>by cases h;rfl
 |q::M,L,h=>by
  simp only[Qq]at h;obtain⟨a,h1,h⟩:=Zv h;obtain⟨xs,h2,h⟩:=Zv h;obtain⟨b,h3,h⟩:=Zv h;obtain⟨L',h4,rfl⟩:=ZT h;have e:=JD hc hd h4;obtain⟨q1,q2⟩:=q;simp only at h1 h2;rw[e,ZGr h2];rw[←hc.ed _ _ h1,←hd.ed _ _ h3];rfl
abbrev Qb(n:Int):List X:= [.int .i64 n]
abbrev Jo(s:List UInt8):List X:= [.str s]
theorem hkS(a b:List UInt8):ZA7 (Jo a) (Jo b)=decide (a=b):=by
 simp only[Jo,ZA7,X.keq,QJ];rw[ZBc];simp
section
variable {κ β:Type} [DecidableEq κ]
def ZHQ(L:List (κ×β)):Prop:=(L.map (·.1)).Nodup
theorem ZGb{A:List (κ×β)}(hn:ZHQ A)(c:κ)(v:β):ZI A c=some v↔(c,v)∈A:=by
 refine⟨ZAH,fun h=>ZIm hn h⟩
theorem ZS4{A B:List (κ×β)}(h:A.Perm B)(hn:ZHQ A)(c:κ):ZI A c=ZI B c:=by
 have hn':ZHQ B:=(h.map _).nodup_iff.1 hn;cases hA:ZI A c with
 |some v=>exact((ZGb hn' c v).2 (h.mem_iff.1 ((ZGb hn c v).1 hA))).symm
 |none=>
  cases hB:ZI B c with
  |none=>rfl
  |some v=>rw[(ZGb hn c v).2 (h.mem_iff.2 ((ZGb hn' c v).1 hB))]at hA;cases hA
theorem ZWJ{A:List (κ×β)}{c:κ}{v:β}(h:ZI A c=some v):A.Perm ((c,v)::YY A c):=by
 induction A with
 |nil=>simp[ZI]at h
 |cons p A ih=>
  by_cases e:c=p.1
  ·have:ZI (p::A) c=some p.2:=by simp[ZI,e]
   rw[this]at h;cases h;have hd:YY (p::A) c=A:=by simp[YY,e]
   rw[hd,e]
  ·have hl:ZI (p::A) c=ZI A c:=by simp[ZI,e]
   rw[hl]at h;have hd:YY (p::A) c=p::YY A c:=by simp[YY,e]
   rw[hd];exact((ih h).cons p).trans (List.Perm.swap _ _ _)
theorem ZTq{A:List (κ×β)}{c:κ}(h:ZI A c=none):YY A c=A:=by
 induction A with
 |nil=>rfl
 |cons p A ih=>
  by_cases e:c=p.1
  ·simp[ZI,e]at h
  ·have hl:ZI (p::A) c=ZI A c:=by simp[ZI,e]
   rw[hl]at h;simp[YY,e,ih h]
theorem ZKQ{A:List (κ×β)}(hn:ZHQ A)(c:κ):YY A c=A.filter fun p=>decide (p.1≠c):=by
 induction A with
 |nil=>rfl
 |cons p A ih=>
  unfold ZHQ at hn ih;simp only[YL,ZCr]at hn;by_cases e:c=p.1
  ·have hd:YY (p::A) c=A:=by simp[YY,e]
   rw[hd,ZMj,if_neg (by simp[e]),eq_comm,List.filter_eq_self];intro q hq;simp only[ne_eq,Zi];intro h2;exact hn.1 (YW.2 ⟨q,hq,by rw[h2,e]⟩)
  ·have hd:YY (p::A) c=p::YY A c:=by simp[YY,e]
   rw[hd,ZMj,if_pos (by simp[Ne.symm e]),ih hn.2]
theorem ZBq{A:List (κ×β)}{c:κ}{w:β}(h:ZI A c=none):Zz A c w=A++ [(c,w)]:=by
 induction A with
 |nil=>rfl
 |cons p A ih=>
  by_cases e:c=p.1
  ·simp[ZI,e]at h
  ·have hl:ZI (p::A) c=ZI A c:=by simp[ZI,e]
   rw[hl]at h;simp[Zz,e,ih h]
theorem ZXX{A:List (κ×β)}{c:κ}{v w:β}(h:ZI A c=some v):(Zz A c w).Perm ((c,w)::YY A c):=by
 induction A with
 |nil=>simp[ZI]at h
 |cons p A ih=>
  by_cases e:c=p.1
  ·have h1:Zz (p::A) c w=(c,w)::A:=by simp[Zz,e]
   have h2:YY (p::A) c=A:=by simp[YY,e]
   rw[h1,h2]
  ·have hl:ZI (p::A) c=ZI A c:=by simp[ZI,e]
   rw[hl]at h;have h1:Zz (p::A) c w=p::Zz A c w:=by simp[Zz,e]
   have h2:YY (p::A) c=p::YY A c:=by simp[YY,e]
   rw[h1,h2];exact((ih h).cons p).trans (List.Perm.swap _ _ _)
theorem ZIq(A:List (κ×β))(c:κ)(w:β):(Zz A c w).Perm ((c,w)::YY A c):=by
 cases h:ZI A c with
 |some v=>exact ZXX h
 |none=>rw[ZBq h,ZTq h];exact List.perm_append_singleton _ _
theorem ZV1{A B:List (κ×β)}(h:A.Perm B)(hn:ZHQ A)(c:κ):(YY A c).Perm (YY B c):=by
 rw[ZKQ hn,ZKQ ((h.map _).nodup_iff.1 hn)];exact h.filter _
end
open Go Go.RowKit Go.Bo
theorem zC:type_of% @YS.{0,0}∧type_of% @Qu.{0,0}∧type_of% @QJ∧type_of% @ZCp∧type_of% @Yt:=
 ⟨@YS.{0,0},@Qu.{0,0},@QJ,@ZCp,@Yt⟩
theorem zG:type_of% @Bool.not_true∧type_of% @ZO0∧type_of% @ZKx∧type_of% @ZKh∧type_of% @ZFj∧type_of% @ZPx∧type_of% @ZM1∧type_of% @ZJO∧type_of% @beq_self_eq_true.{0}∧type_of% @ZVS∧type_of% @ZTo∧type_of% @Bool.not_or_self∧type_of% @Bool.or_not_self∧type_of% @beq_true∧type_of% @beq_false∧type_of% @Bool.not_not:=
 ⟨@Bool.not_true,@ZO0,@ZKx,@ZKh,@ZFj,@ZPx,@ZM1,@ZJO,@beq_self_eq_true.{0},@ZVS,@ZTo,@Bool.not_or_self,@Bool.or_not_self,@beq_true,@beq_false,@Bool.not_not⟩
theorem zL:type_of% @ZBW.{0}∧type_of% @ZBe.{0}∧type_of% @ZCo.{0}∧type_of% @ZBZ.{0}∧type_of% @ZDj.{0}∧type_of% @ξU.{0}∧type_of% @List.drop_nil.{0}∧type_of% @List.take_nil.{0}∧type_of% @JJ.{0}∧type_of% @ξN.{0}∧type_of% @YL.{0,0}∧type_of% @Qv.{0,0}∧type_of% @QC.{0}∧type_of% @Qw.{0}∧type_of% @ZCk.{0}∧type_of% @ZBn.{0}∧type_of% @Jw∧type_of% @Yy∧type_of% @if_true.{1}∧type_of% @decide_true:=
 ⟨@ZBW.{0},@ZBe.{0},@ZCo.{0},@ZBZ.{0},@ZDj.{0},@ξU.{0},@List.drop_nil.{0},@List.take_nil.{0},@JJ.{0},@ξN.{0},@YL.{0,0},@Qv.{0,0},@QC.{0},@Qw.{0},@ZCk.{0},@ZBn.{0},@Jw,@Yy,@if_true.{1},@decide_true⟩
theorem zR:type_of% @Zo∧type_of% @ZP0∧type_of% @ZOB∧type_of% @ZN7∧type_of% @ZQd∧type_of% @ZOx∧type_of% @ZNo∧type_of% @ZOc∧type_of% @ZQ9∧type_of% @ZPV∧type_of% @ZPp∧type_of% @ZJo∧type_of% @Int.natCast_nonneg:=
 ⟨@Zo,@ZP0,@ZOB,@ZN7,@ZQd,@ZOx,@ZNo,@ZOc,@ZQ9,@ZPV,@ZPp,@ZJo,@Int.natCast_nonneg⟩
theorem zB:type_of% @ZEg∧type_of% @ZS∧type_of% @ZHg∧type_of% @ZTD∧type_of% @Bool.and_eq_false_iff∧type_of% @Bool.not_eq_false'∧type_of% @Zi∧type_of% @decide_eq_false_iff_not∧type_of% @ZS3∧type_of% @gt_iff_lt.{0}∧type_of% @ge_iff_le.{0}∧type_of% @Int.not_lt∧type_of% @Int.not_le∧type_of% @bne_iff_ne.{0}∧type_of% @ne_eq.{1}∧type_of% @beq_iff_eq.{0}∧type_of% @bne_eq_false_iff_eq.{0}∧type_of% @beq_eq_false_iff_ne.{0}:=
 ⟨@ZEg,@ZS,@ZHg,@ZTD,@Bool.and_eq_false_iff,@Bool.not_eq_false',@Zi,@decide_eq_false_iff_not,@ZS3,@gt_iff_lt.{0},@ge_iff_le.{0},@Int.not_lt,@Int.not_le,@bne_iff_ne.{0},@ne_eq.{1},@beq_iff_eq.{0},@bne_eq_false_iff_eq.{0},@beq_eq_false_iff_ne.{0}⟩
theorem zF:type_of% @zL∧type_of% @zR∧type_of% @YS.{0,0}∧type_of% @Qu.{0,0}∧type_of% @QJ∧type_of% @ZCp∧type_of% @ZAd∧type_of% @ZAe∧type_of% @ZAu∧type_of% @Zx.{0}∧type_of% @KW.{0}:=
 ⟨@zL,@zR,@YS.{0,0},@Qu.{0,0},@QJ,@ZCp,@ZAd,@ZAe,@ZAu,@Zx.{0},@KW.{0}⟩
theorem zV:type_of% @YL.{0,0}∧type_of% @Qv.{0,0}∧type_of% @ZBW.{0}∧type_of% @ZBe.{0}∧type_of% @ZCk.{0}∧type_of% @ZBn.{0}∧type_of% @ZMi.{0}∧type_of% @ZSp.{0}∧type_of% @Jw∧type_of% @Yy∧type_of% @ZKx∧type_of% @ZKh∧type_of% @ZFj∧type_of% @ZPx∧type_of% @QJ∧type_of% @ZCp∧type_of% @ZM1∧type_of% @ZJO∧type_of% @if_true.{1}∧type_of% @if_false.{1}∧type_of% @Zo∧type_of% @ZAd∧type_of% @ZAe∧type_of% @ZAu∧type_of% @Zx.{0}∧type_of% @JJ.{0}∧type_of% @ξN.{0}∧type_of% @beq_self_eq_true.{0}∧type_of% @Yt∧type_of% @ZCo.{0}∧type_of% @Nat.beq_eq∧type_of% @ZMS∧type_of% @ZLi:=
 ⟨@YL.{0,0},@Qv.{0,0},@ZBW.{0},@ZBe.{0},@ZCk.{0},@ZBn.{0},@ZMi.{0},@ZSp.{0},@Jw,@Yy,@ZKx,@ZKh,@ZFj,@ZPx,@QJ,@ZCp,@ZM1,@ZJO,@if_true.{1},@if_false.{1},@Zo,@ZAd,@ZAe,@ZAu,@Zx.{0},@JJ.{0},@ξN.{0},@beq_self_eq_true.{0},@Yt,@ZCo.{0},@Nat.beq_eq,@ZMS,@ZLi⟩
theorem zW:type_of% @ZMi.{0}∧type_of% @ZSp.{0}∧type_of% @ZMS∧type_of% @ZLi∧type_of% @ZH2∧type_of% @Kg.{0}∧type_of% @Zl:=
 ⟨@ZMi.{0},@ZSp.{0},@ZMS,@ZLi,@ZH2,@Kg.{0},@Zl⟩
theorem zM:type_of% @zL∧type_of% @zG∧type_of% @zR∧type_of% @zC∧type_of% @decide_false∧type_of% @IntWalk.i64_in∧type_of% @ZGV∧type_of% @ZHx∧type_of% @ZAd∧type_of% @ZAe∧type_of% @ZAu∧type_of% @ZHa∧type_of% @ZHy∧type_of% @ZGM∧type_of% @ZE1∧type_of% @ZD5∧type_of% @Ky∧type_of% @Qa∧type_of% @ZJs.{0}∧type_of% @Qf.{0,0}∧type_of% @ZFg.{0,0}∧type_of% @ZTU∧type_of% @ZTI∧type_of% @ZQZ.{0}∧type_of% @ZP9.{0}∧type_of% @QL.{0,0,0}∧type_of% @ZM8.{0,0,0}∧type_of% @Qx.{0}∧type_of% @JI.{0}∧type_of% @true_and∧type_of% @and_true∧type_of% @if_false.{1}∧type_of% @bne_self_eq_false.{0}∧type_of% @ZAJ.{0}∧type_of% @ZFV.{0}:=
 ⟨@zL,@zG,@zR,@zC,@decide_false,@IntWalk.i64_in,@ZGV,@ZHx,@ZAd,@ZAe,@ZAu,@ZHa,@ZHy,@ZGM,@ZE1,@ZD5,@Ky,@Qa,@ZJs.{0},@Qf.{0,0},@ZFg.{0,0},@ZTU,@ZTI,@ZQZ.{0},@ZP9.{0},@QL.{0,0,0},@ZM8.{0,0,0},@Qx.{0},@JI.{0},@true_and,@and_true,@if_false.{1},@bne_self_eq_false.{0},@ZAJ.{0},@ZFV.{0}⟩
theorem zS:type_of% @zL∧type_of% @zG∧type_of% @zR∧type_of% @zC∧type_of% @Ob.beq_refl∧type_of% @ZQZ.{0}∧type_of% @ZP9.{0}∧type_of% @Ky∧type_of% @Qa∧type_of% @ZVJ∧type_of% @ZHa∧type_of% @ZHy∧type_of% @ZGM∧type_of% @ZE1∧type_of% @ZD5∧type_of% @ZJs.{0}∧type_of% @ZAd∧type_of% @ZAe∧type_of% @ZAu∧type_of% @ZR4∧type_of% @ZR2∧type_of% @ZQQ∧type_of% @ZON∧type_of% @ZMC∧type_of% @ZK8.{0}∧type_of% @Qe.{0}∧type_of% @ZGV∧type_of% @ZHx∧type_of% @ZFg.{0,0}∧type_of% @Qf.{0,0}∧type_of% @YK.some_iff∧type_of% @true_and∧type_of% @and_true∧type_of% @if_false.{1}∧type_of% @ZAJ.{0}∧type_of% @ZFV.{0}∧type_of% @QL.{0,0,0}∧type_of% @ZM8.{0,0,0}∧type_of% @Qx.{0}∧type_of% @JI.{0}∧type_of% @decide_false∧type_of% @ZTU∧type_of% @ZTI∧type_of% @ZHg∧type_of% @ZOl∧type_of% @ZOr∧type_of% @ZOd∧type_of% @bne_self_eq_false.{0}∧type_of% @Bool.bne_false∧type_of% @Bool.bne_true:=
 ⟨@zL,@zG,@zR,@zC,@Ob.beq_refl,@ZQZ.{0},@ZP9.{0},@Ky,@Qa,@ZVJ,@ZHa,@ZHy,@ZGM,@ZE1,@ZD5,@ZJs.{0},@ZAd,@ZAe,@ZAu,@ZR4,@ZR2,@ZQQ,@ZON,@ZMC,@ZK8.{0},@Qe.{0},@ZGV,@ZHx,@ZFg.{0,0},@Qf.{0,0},@YK.some_iff,@true_and,@and_true,@if_false.{1},@ZAJ.{0},@ZFV.{0},@QL.{0,0,0},@ZM8.{0,0,0},@Qx.{0},@JI.{0},@decide_false,@ZTU,@ZTI,@ZHg,@ZOl,@ZOr,@ZOd,@bne_self_eq_false.{0},@Bool.bne_false,@Bool.bne_true⟩
theorem zO:type_of% @ZRg∧type_of% @ZSA∧type_of% @ZRd∧type_of% @ZR1∧type_of% @ZRi∧type_of% @ZR8∧type_of% @ZRY∧type_of% @ZPw∧type_of% @ZO4∧type_of% @ZPI∧type_of% @ZRl∧type_of% @Zcq∧type_of% @ZUb∧type_of% @ZT6∧type_of% @ZT3∧type_of% @ZQ5∧type_of% @Zbe∧type_of% @Zcm∧type_of% @Zbx∧type_of% @ZPm∧type_of% @Qk∧type_of% @ZBN∧type_of% @QN∧type_of% @ZDd∧type_of% @ZHo∧type_of% @ZIE:=
 ⟨@ZRg,@ZSA,@ZRd,@ZR1,@ZRi,@ZR8,@ZRY,@ZPw,@ZO4,@ZPI,@ZRl,@Zcq,@ZUb,@ZT6,@ZT3,@ZQ5,@Zbe,@Zcm,@Zbx,@ZPm,@Qk,@ZBN,@QN,@ZDd,@ZHo,@ZIE⟩
section
variable {P:Program} {c:Ctx} {E0:Env} {os0 os:List Ob} {n:Nat} {Q:Exit→List (Nat×D)→List Ob→Prop} {φ:List (Nat×D)}
theorem WI.regB{S:Tabs}(hS:SsOk P S)(ks:List Nat){l:List IOp}(h:YK (Zy S true φ os l) (fun φ' os'=>Q .normal (Go.Ab.keep ks φ') os')):WI P c E0 os0 n (.reg l) Q φ os:=
 WI.regA hS ks (fun K hK=>by
  obtain⟨ok,φ',os',h1,h2,h3⟩:=h;exact⟨ok,φ',os',h1,h2,hK _ _ h3⟩)
theorem WI.dregB{S:Tabs}(hS:SsOk P S)(ks:List Nat){k k2:Nat}{rs rs2:List Nat}{l:List IOp}(h:YK (YH S os k rs 0 true φ os.length os [] none l) (fun φ' os'=>Q .normal (Go.Ab.keep ks φ') os')):WI P c E0 os0 n (.dreg k rs k2 rs2 l) Q φ os:=
 WI.dregA hS ks (fun K hK=>by
  obtain⟨ok,φ',os',h1,h2,h3⟩:=h;exact⟨ok,φ',os',h1,h2,hK _ _ h3⟩)
theorem WI.post{ic:IC}(h:WI P c E0 os0 n ic (fun x φ os=> ∃φ2 os2,Wk c E0 os0 n φ os φ2 os2∧Q x φ2 os2) φ os):WI P c E0 os0 n ic Q φ os:=by
 intro code hc E a R hf;refine wp_mono (h code hc E a R hf) ?_;rintro x a' w' ⟨E',φ',os',rfl,R',hf',φ2,os2,hw,hq⟩;obtain⟨E2,e2,R2,f2⟩:=hw E' a' R' hf';exact⟨E2,φ2,os2,e2,R2,f2,hq⟩
theorem Wk.refl:Wk c E0 os0 n φ os φ os:=fun E a R hf=>⟨E,rfl,R,hf⟩
theorem Wk.trans{φ1 φ2:List (Nat×D)}{os1 os2:List Ob}(h:Wk c E0 os0 n φ os φ1 os1)(h':Wk c E0 os0 n φ1 os1 φ2 os2):Wk c E0 os0 n φ os φ2 os2:=fun E a R hf=>by
 obtain⟨E1,e1,R1,f1⟩:=h E a R hf;obtain⟨E2,e2,R2,f2⟩:=h' E1 a R1 f1;exact⟨E2,e2.trans e1,R2,f2⟩
theorem oP{S:Tabs}{ks:List Nat}{φ':List (Nat×D)}(h: ∃φ2 os2,Wk c E0 os0 n φ' os φ2 os2∧Q .normal φ2 os2)(hk:keep ks φ=φ':=by simp only[keep,KZ,Nat.reduceEqDiff,if_true,if_false,↓reduceIte,Yt];rfl):YK (Zy S true φ os []) (fun φ' os'=> ∃φ2 os2,Wk c E0 os0 n (keep ks φ') os' φ2 os2∧Q .normal φ2 os2):=osN (by rw[hk];exact h)
theorem dP{S:Tabs}{ks rs:List Nat}{k i id:Nat}{C os1 os':List Ob}{last:Option (List Ob)}{φ':List (Nat×D)}(h: ∃φ2 os2,Wk c E0 os0 n φ' os' φ2 os2∧Q .normal φ2 os2)(hk:keep ks φ=φ':=by simp only[keep,KZ,Nat.reduceEqDiff,if_true,if_false,↓reduceIte,Yt];rfl)(hl:last.getD (os1++C)=os':=by simp only[ZK8,Qe,Kg,QC,Qw];rfl):YK (YH S os1 k rs i true φ id os C last []) (fun φ' os'=> ∃φ2 os2,Wk c E0 os0 n (keep ks φ') os' φ2 os2∧Q .normal φ2 os2):=dsN (by rw[hk,hl];exact h)
theorem ZAL(h:Q .normal φ os): ∃φ2 os2,Wk c E0 os0 n φ os φ2 os2∧Q .normal φ2 os2:=⟨φ,os,Wk.refl,h⟩
theorem Qm(ρ:List Nat){φ':List (Nat×D)}{os':List Ob}(h: ∃φ2 os2,Wk c E0 os0 n φ' os' φ2 os2∧Q .normal φ2 os2)(hok:ZMZ ρ os0.length os.length=true:=by rfl)(hp:ZAQ ρ os φ=φ':=by simp (disch:=decide) only[zV,zO,Ob.mpb,frzL,ZAQ,ZBU,Qr,Ob.onI,mpP,Yz,YS,Qf,D.vw,vwL,D.on,D.inP,Yb,Zh,D.ren,Zn,YO,YI,Ob.mp,Ob.ren,D.nn,ZCe,Nat.reduceBEq,Nat.reduceEqDiff,Nat.reduceAdd,↓reduceIte];rfl)(ho:ZBU ρ os=os':=by simp (disch:=decide) only[zV,zO,Ob.mpb,frzL,ZAQ,ZBU,Qr,Ob.onI,mpP,Yz,YS,Qf,D.vw,vwL,D.on,D.inP,Yb,Zh,D.ren,Zn,YO,YI,Ob.mp,Ob.ren,D.nn,ZCe,Nat.reduceBEq,Nat.reduceEqDiff,Nat.reduceAdd,↓reduceIte];rfl): ∃φ2 os2,Wk c E0 os0 n φ os φ2 os2∧Q .normal φ2 os2:=by
 obtain⟨φ2,os2,h1,h2⟩:=h;subst hp ho;exact⟨φ2,os2,(Wk.pick ρ hok).trans h1,h2⟩
theorem ZaR(l:List Nat){os':List Ob}(h: ∃φ2 os2,Wk c E0 os0 n φ os' φ2 os2∧Q .normal φ2 os2)(ho:frzL l os=os':=by simp only[frzL,ZBW,ZBe,ZCk,ZBn];rfl): ∃φ2 os2,Wk c E0 os0 n φ os φ2 os2∧Q .normal φ2 os2:=by
 obtain⟨φ2,os2,h1,h2⟩:=h;subst ho;exact⟨φ2,os2,(Wk.freeze l).trans h1,h2⟩
theorem WI.nnA{ic:IC}{φ':List (Nat×D)}{os':List Ob}(h:WI P c E0 os0 n ic Q φ' os')(hp:ZCe φ=φ':=by simp only[zV,zO,Ob.mpb,frzL,ZAQ,ZBU,Qr,Ob.onI,mpP,Yz,YS,Qf,D.vw,vwL,D.on,D.inP,Yb,Zh,D.ren,Zn,YO,YI,Ob.mp,Ob.ren,D.nn,ZCe,Nat.reduceBEq,Nat.reduceEqDiff,Nat.reduceAdd,↓reduceIte];rfl)(ho:os.map (Ob.mpb D.nn)=os':=by simp only[zV,zO,Ob.mpb,frzL,ZAQ,ZBU,Qr,Ob.onI,mpP,Yz,YS,Qf,D.vw,vwL,D.on,D.inP,Yb,Zh,D.ren,Zn,YO,YI,Ob.mp,Ob.ren,D.nn,ZCe,Nat.reduceBEq,Nat.reduceEqDiff,Nat.reduceAdd,↓reduceIte];rfl):WI P c E0 os0 n ic Q φ os:=WI.nn (by rw[hp,ho];exact h)
theorem WI.pickA(ρ:List Nat){ic:IC}{φ':List (Nat×D)}{os':List Ob}(h:WI P c E0 os0 n ic Q φ' os')(hok:ZMZ ρ os0.length os.length=true:=by rfl)(hp:ZAQ ρ os φ=φ':=by simp (disch:=decide) only[zV,zO,Ob.mpb,frzL,ZAQ,ZBU,Qr,Ob.onI,mpP,Yz,YS,Qf,D.vw,vwL,D.on,D.inP,Yb,Zh,D.ren,Zn,YO,YI,Ob.mp,Ob.ren,D.nn,ZCe,Nat.reduceBEq,Nat.reduceEqDiff,Nat.reduceAdd,↓reduceIte];rfl)(ho:ZBU ρ os=os':=by simp (disch:=decide) only[zV,zO,Ob.mpb,frzL,ZAQ,ZBU,Qr,Ob.onI,mpP,Yz,YS,Qf,D.vw,vwL,D.on,D.inP,Yb,Zh,D.ren,Zn,YO,YI,Ob.mp,Ob.ren,D.nn,ZCe,Nat.reduceBEq,Nat.reduceEqDiff,Nat.reduceAdd,↓reduceIte];rfl):WI P c E0 os0 n ic Q φ os:=WI.pick ρ hok (by rw[hp,ho];exact h)
theorem WI.freezeA(l:List Nat){ic:IC}{os':List Ob}(h:WI P c E0 os0 n ic Q φ os')(ho:frzL l os=os':=by simp only[frzL,ZBW,ZBe,ZCk,ZBn];rfl):WI P c E0 os0 n ic Q φ os:=WI.freeze l (by rw[ho];exact h)
theorem WI.ownA(t e sz:Nat){ic:IC}{φ':List (Nat×D)}{os':List Ob}(h:WI P c E0 os0 n ic Q φ' os')(ht:get φ t= .x .nils:=by rfl)(hp:put φ t (.ref os.length 0 0 0)=φ':=by simp only[put,Nat.reduceEqDiff,↓reduceIte,ξN,JJ,Nat.reduceAdd];rfl)(ho:os++ [.rows false e sz []]=os':=by simp only[Qw,QC];rfl):WI P c E0 os0 n ic Q φ os:=WI.own t e sz ht (by rw[hp,ho];exact h)
theorem WI.thawA(mid:Nat){it:Nat}{dk:KK}{ag:Bool}{l R0:List Pr}{cur:Option Pr}{ic:IC}{os':List Ob}(h:WI P c E0 os0 n ic Q φ os')(ho:os[mid]? =some (.mit dk ag l it R0 cur):=by rfl)(hs:os.set mid (.mpo dk ag l)=os':=by simp only[ZCk,ZBn];rfl):WI P c E0 os0 n ic Q φ os:=WI.thaw mid ho (by rw[hs];exact h)
theorem WI.nextSA{t t2 it m:Nat}{x:IO}{s:List UInt8}{pos:Nat}(ks:List Nat){φ1 φ2:List (Nat×D)}{os2:List Ob}(hend: ¬pos<s.length→Q .normal φ1 os)(hgo:pos<s.length→Q .normal φ2 os2)(hx:(ZC φ x).val= .iref m it:=by rfl)(hcd:(ZC φ x).cond=true:=by rfl)(ho:os[it]? =some (.sit s pos):=by rfl)
  (h1:Go.Ab.keep ks (Go.Ab.put (Go.Ab.put φ t (.tup [.x (.bool false)])) t2 (.x (.bool false)))=φ1:=by simp only[put,keep,KZ,Nat.reduceEqDiff,if_true,if_false,↓reduceIte,Yt];rfl) (h2:Go.Ab.keep ks (Go.Ab.put (Go.Ab.put φ t (.tup [.x (.bool true),.x (.int .i64 pos),.x (.int .i32 (Kb s pos).1)])) t2 (.x (.bool true)))=φ2:=by simp only[put,keep,KZ,Nat.reduceEqDiff,if_true,if_false,↓reduceIte,Yt];rfl)
  (h3:os.set it (.sit s (pos+(Kb s pos).2))=os2:=by simp only[ZCk,ZBn];rfl):WI P c E0 os0 n (.reg [⟨some t,.nxt true x,none⟩,⟨some t2,.ext (.t t) 0,none⟩]) Q φ os:=WI.nextS ks hx hcd ho (by rw[h1];exact hend) (by rw[h2,h3];exact hgo)
theorem WI.nextMA{t t2 it mid:Nat}{x:IO}{dk:KK}{ag:Bool}{l R0:List Pr}{cur:Option Pr}(ks:List Nat){φ1 φ2:List (Nat×D)}{os2:Nat→Pr→List Ob}(hend:R0= []→Q .normal φ1 os)(hgo: ∀(i:Nat) (q:Pr),R0[i]? =some q→Q .normal φ2 (os2 i q))(hx:(ZC φ x).val= .iref mid it:=by rfl)(hcd:(ZC φ x).cond=true:=by rfl)(ho:os[mid]? =some (.mit dk ag l it R0 cur):=by rfl)
  (h1:Go.Ab.keep ks (Go.Ab.put (Go.Ab.put φ t (.tup [.x (.bool false)])) t2 (.x (.bool false)))=φ1:=by simp only[put,keep,KZ,Nat.reduceEqDiff,if_true,if_false,↓reduceIte,Yt];rfl) (h2:Go.Ab.keep ks (Go.Ab.put (Go.Ab.put φ t .und) t2 (.x (.bool true)))=φ2:=by simp only[put,keep,KZ,Nat.reduceEqDiff,if_true,if_false,↓reduceIte,Yt];rfl)
  (h3: ∀i q,os.set mid (.mit dk ag l it (R0.eraseIdx i) (some q))=os2 i q:=by intro i q;simp only[ZCk,ZBn];rfl):WI P c E0 os0 n (.reg [⟨some t,.nxt false x,none⟩,⟨some t2,.ext (.t t) 0,none⟩]) Q φ os:=WI.nextM ks hx hcd ho (by rw[h1];exact hend) (by rw[h2];intro i q h;rw[h3];exact hgo i q h)
theorem WI.orderA(ts:List Nat){ic:IC}{φ':List (Nat×D)}(h:WI P c E0 os0 n ic Q φ' os)(hp:ts.map (fun u=>(u,get φ u))=φ':=by simp only[YL,Qv,Ab.get,Nat.reduceEqDiff,↓reduceIte,if_true,if_false];rfl):WI P c E0 os0 n ic Q φ os:=WI.order ts (by rw[hp];exact h)
end
section
variable {S:Tabs} {os0 os C:List Ob} {k i id:Nat} {rs:List Nat} {φ φ':List (Nat×D)} {os':List Ob} {last:Option (List Ob)} {o:IOp} {l:List IOp} {ok:Bool} {d:D} {ob:Ob} {K:List (Nat×D)→List Ob→Prop} {Q:Exit→List (Nat×D)→List Ob→Prop} {ks:List Nat}
theorem oN(h:Q .normal φ' os)(hk:keep ks φ=φ':=by simp only[keep,KZ,Nat.reduceEqDiff,if_true,if_false,↓reduceIte,Yt];rfl):YK (Zy S true φ os []) (fun φ' os'=>Q .normal (keep ks φ') os'):=osN (by rw[hk];exact h)
theorem dN(h:Q .normal φ' os')(hk:keep ks φ=φ':=by simp only[keep,KZ,Nat.reduceEqDiff,if_true,if_false,↓reduceIte,Yt];rfl)(hl:last.getD (os0++C)=os':=by simp only[ZK8,Qe,Kg,QC,Qw];rfl):YK (YH S os0 k rs i true φ id os C last []) (fun φ' os'=>Q .normal (keep ks φ') os'):=dsN (by rw[hk,hl];exact h)
theorem oS(h:YK (Zy S true φ' os' l) K)(he:Yv S φ os o=some (ok,φ',os'):=by simp only[zC,Yv,ZM,ZC,Ab.get,Ab.put,putO,Nat.reduceEqDiff,↓reduceIte,D.val,D.cond,reduceCtorEq,Nat.reduceAdd,Jw,Yy];rfl)(hok:ok=true:=by rfl):YK (Zy S true φ os (o::l)) K:=osS he hok h
theorem oG(h:YK (Zy S true φ' os' l) K)(he:Yv S φ os o=some (ok,φ',os'):=by simp (disch:=omega) only[uu,zM,Yv,ZM,ZC,Ab.get,Ab.put,putO,Nat.reduceEqDiff,↓reduceIte,D.val,D.cond,reduceCtorEq,YA,ZAj,Ob.isDrw,JS,ZAN,QP,ZCA,apm,Qi,IE.isCall,D.cells?,Nat.reduceAdd,Nat.reduceLeDiff,Ob.slice?,Ob.dsl?,Ob.drw?,Nat.reduceSub,Nat.reduceMul,Int.reduceToNat,Int.reduceLE,Int.reduceLT,Int.reduceAdd,Int.reduceSub,Int.reduceMul,Int.reduceNeg,Int.reduceEq,Zp,ZEC,KX,ZH,JR,YU,Yg,JT,Kq,Qg,ZAT,KQ,eqR,eqD,ZBA,eqX,nzD,ZBo,unD,ZBk,Qo,evC,Qc,QV,Nat.reduceLT,zO];rfl)(hok:ok=true:=by first|with_reducible rfl|omega|(simp;done)|(simp;omega)|rfl|(clear uu;grind)|(clear h;clear uu;grind)):YK (Zy S true φ os (o::l)) K:=osS he hok h
theorem oC(h:YK (Zy S true φ' os' l) K)(he:Yv S φ os o=some (ok,φ',os'):=by simp (disch:=omega) only[uu,zS,zW,zO,ZBz,ZEF,D.nn,D.na,ZW,Jc,IE.isCall,Nat.reduceAdd,Nat.reduceSub,Nat.reduceMul,Nat.reduceLeDiff,Nat.reduceLT,Nat.reduceBEq,Int.reduceToNat,Int.reduceLE,Int.reduceLT,Int.reduceAdd,Int.reduceSub,Int.reduceMul,Int.reduceNeg,Int.reduceEq,Nat.reduceEqDiff,Zy,YH,Yv,ZM,YA,ZAj,Ob.isDrw,JS,ZAN,QP,ZCA,apm,ZC,Ab.get,Ab.put,putO,keep,KZ,D.val,D.cond,D.cells?,D.scalar,X.scalar,D.plain,D.isX,ZBo,ZBB,eqD,ZBA,eqX,unD,ZH,ZBk,KX,Zp,QG,Yu,Yg,YU,JR,JT,Kq,Qg,Ob.slice?,↓reduceIte,reduceCtorEq,Yo,Qo,evC,Qc,QV,QD,KP,KO,eqR,nzD,Qi,ZCM,ZCD,ZCF,ZBF,ZAG,ZAT,ZQ,IE.frame,Zh,KQ,IntWalk.i64_in,Ym,JN,ZFe,JE,ZGn,ZBY,Qh,Yz,Kj,Kn,Yb,D.inP,Ob.inP,Zn,D.ren,YO,YI,Ob.ren,Ja,Jl,Ji,ZDr,Jx];rfl)(hok:ok=true:=by first|with_reducible rfl|omega|(simp;done)|(simp;omega)|rfl|(clear uu;grind)|(clear h;clear uu;grind)):YK (Zy S true φ os (o::l)) K:=osS he hok h
theorem Yd(h:YK (YH S os0 k rs (i+1) true φ' id os C last l) K)(hf:o.e.frame=true:=by rfl)(he:(Yo S φ [] o).map (fun r=>(r.1,putO φ o.dst r.2))=some (ok,φ'):=by simp only[zC,Yo,QD,KP,KO,Ob.beq_refl,Yv,ZM,ZC,Ab.get,Ab.put,putO,Nat.reduceEqDiff,↓reduceIte,D.val,D.cond,reduceCtorEq,Nat.reduceAdd,Jw,Yy];rfl)(hok:ok=true:=by rfl):YK (YH S os0 k rs i true φ id os C last (o::l)) K:=dsF hf he hok h
theorem dFG(h:YK (YH S os0 k rs (i+1) true φ' id os C last l) K)(hf:o.e.frame=true:=by rfl)(he:(Yo S φ [] o).map (fun r=>(r.1,putO φ o.dst r.2))=some (ok,φ'):=by simp (disch:=omega) only[uu,zM,Yo,QD,KP,KO,Ob.beq_refl,Yv,ZM,ZC,Ab.get,Ab.put,putO,Nat.reduceEqDiff,↓reduceIte,D.val,D.cond,reduceCtorEq,YA,ZAj,Ob.isDrw,JS,ZAN,QP,ZCA,apm,Qi,IE.isCall,D.cells?,Nat.reduceAdd,Nat.reduceLeDiff,Ob.slice?,Ob.dsl?,Ob.drw?,Nat.reduceSub,Nat.reduceMul,Int.reduceToNat,Int.reduceLE,Int.reduceLT,Int.reduceAdd,Int.reduceSub,Int.reduceMul,Int.reduceNeg,Int.reduceEq,Zp,ZEC,KX,ZH,JR,YU,Yg,JT,Kq,Qg,ZAT,KQ,eqR,eqD,ZBA,eqX,nzD,ZBo,unD,ZBk,Qo,evC,Qc,QV,Nat.reduceLT,zO];rfl)(hok:ok=true:=by first|with_reducible rfl|omega|(simp;done)|(simp;omega)|rfl|(clear uu;grind)|(clear h;clear uu;grind)):YK (YH S os0 k rs i true φ id os C last (o::l)) K:=dsF hf he hok h
theorem QH(h:YK (YH S os0 k rs (i+1) true φ' id os C last l) K)(hf:o.e.frame=false:=by rfl)(hm:Zh i rs=false:=by rfl)(hk:Nat.ble (i+1) k=true:=by rfl)(he:(Yo S φ os0 o).map (fun r=>(r.1,putO φ o.dst r.2))=some (ok,φ'):=by simp (disch:=omega) only[uu,zM,Yo,QD,KP,KO,Ob.beq_refl,Yv,ZM,ZC,Ab.get,Ab.put,putO,Nat.reduceEqDiff,↓reduceIte,D.val,D.cond,reduceCtorEq,YA,ZAj,Ob.isDrw,JS,ZAN,QP,ZCA,apm,Qi,IE.isCall,D.cells?,Nat.reduceAdd,Nat.reduceLeDiff,Ob.slice?,Ob.dsl?,Ob.drw?,Nat.reduceSub,Nat.reduceMul,Int.reduceToNat,Int.reduceLE,Int.reduceLT,Int.reduceAdd,Int.reduceSub,Int.reduceMul,Int.reduceNeg,Int.reduceEq,Zp,ZEC,KX,ZH,JR,YU,Yg,JT,Kq,Qg,ZAT,KQ,eqR,eqD,ZBA,eqX,nzD,ZBo,unD,ZBk,Qo,evC,Qc,QV,Nat.reduceLT,zO];rfl)(hok:ok=true:=by first|with_reducible rfl|omega|(simp;done)|(simp;omega)|rfl|(clear uu;grind)|(clear h;clear uu;grind)):YK (YH S os0 k rs i true φ id os C last (o::l)) K:=dsQ hf hm hk he hok h
theorem dKG(h:YK (YH S os0 k rs (i+1) true φ' (id+1) (os++ [ob]) (C++ [ob]) last l) K)(hf:o.e.frame=false:=by rfl)(hm:Zh i rs=false:=by rfl)(hk:Nat.ble (i+1) k=true:=by rfl)(hn:Yo S φ os0 o=none:=by simp (disch:=omega) only[uu,zS,zW,zO,ZBz,ZEF,D.nn,D.na,ZW,Jc,IE.isCall,Nat.reduceAdd,Nat.reduceSub,Nat.reduceMul,Nat.reduceLeDiff,Nat.reduceLT,Nat.reduceBEq,Int.reduceToNat,Int.reduceLE,Int.reduceLT,Int.reduceAdd,Int.reduceSub,Int.reduceMul,Int.reduceNeg,Int.reduceEq,Nat.reduceEqDiff,Zy,YH,Yv,ZM,YA,ZAj,Ob.isDrw,JS,ZAN,QP,ZCA,apm,ZC,Ab.get,Ab.put,putO,keep,KZ,D.val,D.cond,D.cells?,D.scalar,X.scalar,D.plain,D.isX,ZBo,ZBB,eqD,ZBA,eqX,unD,ZH,ZBk,KX,Zp,QG,Yu,Yg,YU,JR,JT,Kq,Qg,Ob.slice?,↓reduceIte,reduceCtorEq,Yo,Qo,evC,Qc,QV,QD,KP,KO,eqR,nzD,Qi,ZCM,ZCD,ZCF,ZBF,ZAG,ZAT,ZQ,IE.frame,Zh,KQ,IntWalk.i64_in,Ym,JN,ZFe,JE,ZGn,ZBY,Qh,Yz,Kj,Kn,Yb,D.inP,Ob.inP,Zn,D.ren,YO,YI,Ob.ren,Ja,Jl,Ji,ZDr,Jx])(he:(Qo S φ os0 id o).map (fun r=>(r.1,putO φ o.dst r.2.1,r.2.2))=some (ok,φ',ob):=by simp (disch:=omega) only[uu,zS,zW,zO,ZBz,ZEF,D.nn,D.na,ZW,Jc,IE.isCall,Nat.reduceAdd,Nat.reduceSub,Nat.reduceMul,Nat.reduceLeDiff,Nat.reduceLT,Nat.reduceBEq,Int.reduceToNat,Int.reduceLE,Int.reduceLT,Int.reduceAdd,Int.reduceSub,Int.reduceMul,Int.reduceNeg,Int.reduceEq,Nat.reduceEqDiff,Zy,YH,Yv,ZM,YA,ZAj,Ob.isDrw,JS,ZAN,QP,ZCA,apm,ZC,Ab.get,Ab.put,putO,keep,KZ,D.val,D.cond,D.cells?,D.scalar,X.scalar,D.plain,D.isX,ZBo,ZBB,eqD,ZBA,eqX,unD,ZH,ZBk,KX,Zp,QG,Yu,Yg,YU,JR,JT,Kq,Qg,Ob.slice?,↓reduceIte,reduceCtorEq,Yo,Qo,evC,Qc,QV,QD,KP,KO,eqR,nzD,Qi,ZCM,ZCD,ZCF,ZBF,ZAG,ZAT,ZQ,IE.frame,Zh,KQ,IntWalk.i64_in,Ym,JN,ZFe,JE,ZGn,ZBY,Qh,Yz,Kj,Kn,Yb,D.inP,Ob.inP,Zn,D.ren,YO,YI,Ob.ren,Ja,Jl,Ji,ZDr,Jx];rfl)(hok:ok=true:=by first|with_reducible rfl|omega|(simp;done)|(simp;omega)|rfl|(clear uu;grind)|(clear h;clear uu;grind)):YK (YH S os0 k rs i true φ id os C last (o::l)) K:=dsK hf hm hk hn he hok h
theorem dAG(h:YK (YH S os0 k rs (i+1) true φ' id os' C (some os') l) K)(hf:o.e.frame=false:=by rfl)(hm:Zh i rs=false:=by rfl)(hk:Nat.ble (i+1) k=false:=by rfl)(he:(QD S φ os o).map (fun r=>(r.1&&(match rs with| []=>true|_=>KO os0 r.2.2),putO φ o.dst r.2.1,r.2.2))=some (ok,φ',os'):=by simp (disch:=omega) only[uu,zM,Yo,QD,KP,KO,Ob.beq_refl,Yv,ZM,ZC,Ab.get,Ab.put,putO,Nat.reduceEqDiff,↓reduceIte,D.val,D.cond,reduceCtorEq,YA,ZAj,Ob.isDrw,JS,ZAN,QP,ZCA,apm,Qi,IE.isCall,D.cells?,Nat.reduceAdd,Nat.reduceLeDiff,Ob.slice?,Ob.dsl?,Ob.drw?,Nat.reduceSub,Nat.reduceMul,Int.reduceToNat,Int.reduceLE,Int.reduceLT,Int.reduceAdd,Int.reduceSub,Int.reduceMul,Int.reduceNeg,Int.reduceEq,Zp,ZEC,KX,ZH,JR,YU,Yg,JT,Kq,Qg,ZAT,KQ,eqR,eqD,ZBA,eqX,nzD,ZBo,unD,ZBk,Qo,evC,Qc,QV,Nat.reduceLT,zO];rfl)(hok:ok=true:=by first|with_reducible rfl|omega|(simp;done)|(simp;omega)|rfl|(clear uu;grind)|(clear h;clear uu;grind)):YK (YH S os0 k rs i true φ id os C last (o::l)) K:=dsA hf hm hk he hok h
theorem dQC(h:YK (YH S os0 k rs (i+1) true φ' id os C last l) K)(hf:o.e.frame=false:=by rfl)(hm:Zh i rs=false:=by rfl)(hk:Nat.ble (i+1) k=true:=by rfl)(he:(Yo S φ os0 o).map (fun r=>(r.1,putO φ o.dst r.2))=some (ok,φ'):=by simp (disch:=omega) only[uu,zS,zW,zO,ZBz,ZEF,D.nn,D.na,ZW,Jc,IE.isCall,Nat.reduceAdd,Nat.reduceSub,Nat.reduceMul,Nat.reduceLeDiff,Nat.reduceLT,Nat.reduceBEq,Int.reduceToNat,Int.reduceLE,Int.reduceLT,Int.reduceAdd,Int.reduceSub,Int.reduceMul,Int.reduceNeg,Int.reduceEq,Nat.reduceEqDiff,Zy,YH,Yv,ZM,YA,ZAj,Ob.isDrw,JS,ZAN,QP,ZCA,apm,ZC,Ab.get,Ab.put,putO,keep,KZ,D.val,D.cond,D.cells?,D.scalar,X.scalar,D.plain,D.isX,ZBo,ZBB,eqD,ZBA,eqX,unD,ZH,ZBk,KX,Zp,QG,Yu,Yg,YU,JR,JT,Kq,Qg,Ob.slice?,↓reduceIte,reduceCtorEq,Yo,Qo,evC,Qc,QV,QD,KP,KO,eqR,nzD,Qi,ZCM,ZCD,ZCF,ZBF,ZAG,ZAT,ZQ,IE.frame,Zh,KQ,IntWalk.i64_in,Ym,JN,ZFe,JE,ZGn,ZBY,Qh,Yz,Kj,Kn,Yb,D.inP,Ob.inP,Zn,D.ren,YO,YI,Ob.ren,Ja,Jl,Ji,ZDr,Jx];rfl)(hok:ok=true:=by first|with_reducible rfl|omega|(simp;done)|(simp;omega)|rfl|(clear uu;grind)|(clear h;clear uu;grind)):YK (YH S os0 k rs i true φ id os C last (o::l)) K:=dsQ hf hm hk he hok h
theorem dKC(h:YK (YH S os0 k rs (i+1) true φ' (id+1) (os++ [ob]) (C++ [ob]) last l) K)(hf:o.e.frame=false:=by rfl)(hm:Zh i rs=false:=by rfl)(hk:Nat.ble (i+1) k=true:=by rfl)(hn:Yo S φ os0 o=none:=by simp (disch:=omega) only[uu,zS,zW,zO,ZBz,ZEF,D.nn,D.na,ZW,Jc,IE.isCall,Nat.reduceAdd,Nat.reduceSub,Nat.reduceMul,Nat.reduceLeDiff,Nat.reduceLT,Nat.reduceBEq,Int.reduceToNat,Int.reduceLE,Int.reduceLT,Int.reduceAdd,Int.reduceSub,Int.reduceMul,Int.reduceNeg,Int.reduceEq,Nat.reduceEqDiff,Zy,YH,Yv,ZM,YA,ZAj,Ob.isDrw,JS,ZAN,QP,ZCA,apm,ZC,Ab.get,Ab.put,putO,keep,KZ,D.val,D.cond,D.cells?,D.scalar,X.scalar,D.plain,D.isX,ZBo,ZBB,eqD,ZBA,eqX,unD,ZH,ZBk,KX,Zp,QG,Yu,Yg,YU,JR,JT,Kq,Qg,Ob.slice?,↓reduceIte,reduceCtorEq,Yo,Qo,evC,Qc,QV,QD,KP,KO,eqR,nzD,Qi,ZCM,ZCD,ZCF,ZBF,ZAG,ZAT,ZQ,IE.frame,Zh,KQ,IntWalk.i64_in,Ym,JN,ZFe,JE,ZGn,ZBY,Qh,Yz,Kj,Kn,Yb,D.inP,Ob.inP,Zn,D.ren,YO,YI,Ob.ren,Ja,Jl,Ji,ZDr,Jx])(he:(Qo S φ os0 id o).map (fun r=>(r.1,putO φ o.dst r.2.1,r.2.2))=some (ok,φ',ob):=by simp (disch:=omega) only[uu,zS,zW,zO,ZBz,ZEF,D.nn,D.na,ZW,Jc,IE.isCall,Nat.reduceAdd,Nat.reduceSub,Nat.reduceMul,Nat.reduceLeDiff,Nat.reduceLT,Nat.reduceBEq,Int.reduceToNat,Int.reduceLE,Int.reduceLT,Int.reduceAdd,Int.reduceSub,Int.reduceMul,Int.reduceNeg,Int.reduceEq,Nat.reduceEqDiff,Zy,YH,Yv,ZM,YA,ZAj,Ob.isDrw,JS,ZAN,QP,ZCA,apm,ZC,Ab.get,Ab.put,putO,keep,KZ,D.val,D.cond,D.cells?,D.scalar,X.scalar,D.plain,D.isX,ZBo,ZBB,eqD,ZBA,eqX,unD,ZH,ZBk,KX,Zp,QG,Yu,Yg,YU,JR,JT,Kq,Qg,Ob.slice?,↓reduceIte,reduceCtorEq,Yo,Qo,evC,Qc,QV,QD,KP,KO,eqR,nzD,Qi,ZCM,ZCD,ZCF,ZBF,ZAG,ZAT,ZQ,IE.frame,Zh,KQ,IntWalk.i64_in,Ym,JN,ZFe,JE,ZGn,ZBY,Qh,Yz,Kj,Kn,Yb,D.inP,Ob.inP,Zn,D.ren,YO,YI,Ob.ren,Ja,Jl,Ji,ZDr,Jx];rfl)(hok:ok=true:=by first|with_reducible rfl|omega|(simp;done)|(simp;omega)|rfl|(clear uu;grind)|(clear h;clear uu;grind)):YK (YH S os0 k rs i true φ id os C last (o::l)) K:=dsK hf hm hk hn he hok h
theorem dAC(h:YK (YH S os0 k rs (i+1) true φ' id os' C (some os') l) K)(hf:o.e.frame=false:=by rfl)(hm:Zh i rs=false:=by rfl)(hk:Nat.ble (i+1) k=false:=by rfl)(he:(QD S φ os o).map (fun r=>(r.1&&(match rs with| []=>true|_=>KO os0 r.2.2),putO φ o.dst r.2.1,r.2.2))=some (ok,φ',os'):=by simp (disch:=omega) only[uu,zS,zW,zO,ZBz,ZEF,D.nn,D.na,ZW,Jc,IE.isCall,Nat.reduceAdd,Nat.reduceSub,Nat.reduceMul,Nat.reduceLeDiff,Nat.reduceLT,Nat.reduceBEq,Int.reduceToNat,Int.reduceLE,Int.reduceLT,Int.reduceAdd,Int.reduceSub,Int.reduceMul,Int.reduceNeg,Int.reduceEq,Nat.reduceEqDiff,Zy,YH,Yv,ZM,YA,ZAj,Ob.isDrw,JS,ZAN,QP,ZCA,apm,ZC,Ab.get,Ab.put,putO,keep,KZ,D.val,D.cond,D.cells?,D.scalar,X.scalar,D.plain,D.isX,ZBo,ZBB,eqD,ZBA,eqX,unD,ZH,ZBk,KX,Zp,QG,Yu,Yg,YU,JR,JT,Kq,Qg,Ob.slice?,↓reduceIte,reduceCtorEq,Yo,Qo,evC,Qc,QV,QD,KP,KO,eqR,nzD,Qi,ZCM,ZCD,ZCF,ZBF,ZAG,ZAT,ZQ,IE.frame,Zh,KQ,IntWalk.i64_in,Ym,JN,ZFe,JE,ZGn,ZBY,Qh,Yz,Kj,Kn,Yb,D.inP,Ob.inP,Zn,D.ren,YO,YI,Ob.ren,Ja,Jl,Ji,ZDr,Jx];rfl)(hok:ok=true:=by first|with_reducible rfl|omega|(simp;done)|(simp;omega)|rfl|(clear uu;grind)|(clear h;clear uu;grind)):YK (YH S os0 k rs i true φ id os C last (o::l)) K:=dsA hf hm hk he hok h
end
theorem lfN{fz:Bool}{T:Tab}{φ:List (Nat×D)}{os os2:List Ob}{rs:List IRes}{ds:List D}{r R:D}(h:r=R)(he:Jt fz T φ os rs=some (true,ds,os2):=by simp (disch:=omega) only[uu,zF,keep,KZ,Yt,if_false,Jt,ZGg,ZFb,ZCR,Yg,YU,ZM,ZC,Ab.get,Nat.reduceEqDiff,↓reduceIte,D.val,D.cond,Nat.reduceAdd,Nat.reduceLeDiff,Ob.slice?,Ob.dsl?,Ob.drw?,ZFg];rfl)(hr:Qj ds=r:=by simp only[Qj];rfl):((Exit.normal:Exit)= .normal∨(Exit.normal:Exit)= .ret)∧ ∃ds os2,Jt fz T φ os rs=some (true,ds,os2)∧Qj ds=R:=⟨.inl rfl,ds,os2,he,by rw[hr];exact h⟩
theorem ZeU{fz:Bool}{T:Tab}{φ:List (Nat×D)}{os os2 OS:List Ob}{rs:List IRes}{ds:List D}{r R:D}(h:r=R∧os2=OS)(he:Jt fz T φ os rs=some (true,ds,os2):=by simp (disch:=omega) only[uu,zF,keep,KZ,Yt,if_false,Jt,ZGg,ZFb,ZCR,Yg,YU,ZM,ZC,Ab.get,Nat.reduceEqDiff,↓reduceIte,D.val,D.cond,Nat.reduceAdd,Nat.reduceLeDiff,Ob.slice?,Ob.dsl?,Ob.drw?,ZFg];rfl)(hr:Qj ds=r:=by simp only[Qj];rfl):((Exit.normal:Exit)= .normal∨(Exit.normal:Exit)= .ret)∧ ∃ds os2,Jt fz T φ os rs=some (true,ds,os2)∧Qj ds=R∧os2=OS:=⟨.inl rfl,ds,os2,he,by rw[hr];exact h⟩
theorem lfR{fz:Bool}{T:Tab}{φ:List (Nat×D)}{os os2:List Ob}{rs:List IRes}{ds:List D}{r R:D}(h:r=R)(he:Jt fz T φ os rs=some (true,ds,os2):=by simp (disch:=omega) only[uu,zF,keep,KZ,Yt,if_false,Jt,ZGg,ZFb,ZCR,Yg,YU,ZM,ZC,Ab.get,Nat.reduceEqDiff,↓reduceIte,D.val,D.cond,Nat.reduceAdd,Nat.reduceLeDiff,Ob.slice?,Ob.dsl?,Ob.drw?,ZFg];rfl)(hr:Qj ds=r:=by simp only[Qj];rfl):((Exit.ret:Exit)= .normal∨(Exit.ret:Exit)= .ret)∧ ∃ds os2,Jt fz T φ os rs=some (true,ds,os2)∧Qj ds=R:=⟨.inr rfl,ds,os2,he,by rw[hr];exact h⟩
theorem ZCb{fz:Bool}{T:Tab}{φ:List (Nat×D)}{os os2 OS:List Ob}{rs:List IRes}{ds:List D}{r R:D}(h:r=R∧os2=OS)(he:Jt fz T φ os rs=some (true,ds,os2):=by simp (disch:=omega) only[uu,zF,keep,KZ,Yt,if_false,Jt,ZGg,ZFb,ZCR,Yg,YU,ZM,ZC,Ab.get,Nat.reduceEqDiff,↓reduceIte,D.val,D.cond,Nat.reduceAdd,Nat.reduceLeDiff,Ob.slice?,Ob.dsl?,Ob.drw?,ZFg];rfl)(hr:Qj ds=r:=by simp only[Qj];rfl):((Exit.ret:Exit)= .normal∨(Exit.ret:Exit)= .ret)∧ ∃ds os2,Jt fz T φ os rs=some (true,ds,os2)∧Qj ds=R∧os2=OS:=⟨.inr rfl,ds,os2,he,by rw[hr];exact h⟩
theorem ZCB{fz:Bool}{T:Tab}{φ:List (Nat×D)}{os os2 OS:List Ob}{rs:List IRes}{ds:List D}{r R:D}(h:r=R∧ ∃Y,os2=OS++Y)(he:Jt fz T φ os rs=some (true,ds,os2):=by simp (disch:=omega) only[uu,zF,keep,KZ,Yt,if_false,Jt,ZGg,ZFb,ZCR,Yg,YU,ZM,ZC,Ab.get,Nat.reduceEqDiff,↓reduceIte,D.val,D.cond,Nat.reduceAdd,Nat.reduceLeDiff,Ob.slice?,Ob.dsl?,Ob.drw?,ZFg];rfl)(hr:Qj ds=r:=by simp only[Qj];rfl):((Exit.ret:Exit)= .normal∨(Exit.ret:Exit)= .ret)∧ ∃ds os2,Jt fz T φ os rs=some (true,ds,os2)∧Qj ds=R∧ ∃Y,os2=OS++Y:=⟨.inr rfl,ds,os2,he,by rw[hr];exact h⟩
theorem ZeH{fz:Bool}{T:Tab}{φ:List (Nat×D)}{os os2:List Ob}{rs:List IRes}{ds:List D}{r:D}{K:D→List Ob→Prop}(h:K r os2)(he:Jt fz T φ os rs=some (true,ds,os2):=by simp (disch:=omega) only[uu,zF,keep,KZ,Yt,if_false,Jt,ZGg,ZFb,ZCR,Yg,YU,ZM,ZC,Ab.get,Nat.reduceEqDiff,↓reduceIte,D.val,D.cond,Nat.reduceAdd,Nat.reduceLeDiff,Ob.slice?,Ob.dsl?,Ob.drw?,ZFg];rfl)(hr:Qj ds=r:=by simp only[Qj];rfl):((Exit.normal:Exit)= .normal∨(Exit.normal:Exit)= .ret)∧ ∃ds os2,Jt fz T φ os rs=some (true,ds,os2)∧K (Qj ds) os2:=⟨.inl rfl,ds,os2,he,by rw[hr];exact h⟩
theorem ZCc{fz:Bool}{T:Tab}{φ:List (Nat×D)}{os os2:List Ob}{rs:List IRes}{ds:List D}{r:D}{K:D→List Ob→Prop}(h:K r os2)(he:Jt fz T φ os rs=some (true,ds,os2):=by simp (disch:=omega) only[uu,zF,keep,KZ,Yt,if_false,Jt,ZGg,ZFb,ZCR,Yg,YU,ZM,ZC,Ab.get,Nat.reduceEqDiff,↓reduceIte,D.val,D.cond,Nat.reduceAdd,Nat.reduceLeDiff,Ob.slice?,Ob.dsl?,Ob.drw?,ZFg];rfl)(hr:Qj ds=r:=by simp only[Qj];rfl):((Exit.ret:Exit)= .normal∨(Exit.ret:Exit)= .ret)∧ ∃ds os2,Jt fz T φ os rs=some (true,ds,os2)∧K (Qj ds) os2:=⟨.inr rfl,ds,os2,he,by rw[hr];exact h⟩
variable {P:Program}
def ZAK(g:List D→Option (Bool×D))(args:List D)(os:List Ob):Option (Bool×D×List Ob):=
 (YU os args).bind fun p=>(g (p.1.map .x)).map fun r=>(r.1,r.2,p.2)
theorem ZDm{f:FuncId}{g:List D→Option (Bool×D)}(h: ∀args r,g args=some (true,r)→ZD P f args r): ∀args os r os',ZAK g args os=some (true,r,os')→ZL P f args os r os':=by
 intro args os r os' hh;obtain⟨p,hp,hh⟩:=Zv hh;obtain⟨⟨q1,q2⟩,hq,e⟩:=ZT hh;simp only[Za]at e;obtain⟨rfl,rfl,rfl⟩:=e;have hc:=h _ _ hq;intro c E vs R hvl;obtain⟨hlen,hv0⟩:=hvl;obtain⟨st',R1,ev1,hl1,hv1⟩:=ZBt (vs:=vs.toList) R (fun j d v hd hv=>hv0 j d v hd (by simpa using hv)) (by simpa using hlen) hp;have hvl':VL ⟨E.w,st',[]⟩ [] (p.1.map D.x) vs:=by
  refine⟨by simpa using hl1,fun j d v hd hv=> ?_⟩;rw[Zw]at hd;obtain⟨y,hy,rfl⟩:=ZT hd;exact .x (hv1 j y v hy (by simpa using hv))
 refine(hc E.w st' vs (fun b o hb=>(R1.stm b o hb).1) hvl').mono ?_;rintro e w' ⟨v,st2,rfl,hk,hs1,hs2,hv⟩;obtain⟨R2,ev2⟩:=R1.world w' st2 hk hs1 hs2;refine⟨v,_,rfl,rfl,R2,ev1.trans ev2,hv.mono (E:=⟨w',st2,[]⟩) (os:= []) ?_⟩;exact⟨fun _ _ h=>⟨h,rfl⟩,fun _ _ _ _ _ h=>by simp at h,fun _ _ _ _ h=>by simp at h⟩
section
variable {c:Ctx} {E0:Env} {os0:List Ob} {n:Nat}
def ZMK(P:Program)(c:Ctx)(E0:Env)(os0:List Ob)(n:Nat)(b:IC)(Q:Exit→List (Nat×D)→List Ob→Prop):Nat→List (Nat×D)→List Ob→Prop
 |0,_,_=>False
 |k+1,φ,os=>WI P c E0 os0 n b (ZGN (ZMK P c E0 os0 n b Q k) Q) φ os
theorem WI.loopN{b:IC}{Q:Exit→List (Nat×D)→List Ob→Prop}(k:Nat){φ:List (Nat×D)}{os:List Ob}(h:ZMK P c E0 os0 n b Q k φ os):WI P c E0 os0 n (.loop b) Q φ os:=by
 intro code hc E a R hf;obtain⟨cb,rfl,h1⟩:=ZHj hc;refine wp_loop_rounds k ?_;clear hc
 induction k generalizing φ os E a with
 |zero=>exact h.elim
 |succ k ih=>
  rw[rounds_succ];refine wp_mono (h cb h1 E a R hf) ?_;rintro e a' w' ⟨E',φ',os',rfl,k2,k3,k4⟩;cases e with
  |normal=>exact ih k4 E' a' k2 k3
  |_=>exact⟨E',φ',os',rfl,k2,k3,k4⟩
theorem WI.round{b:IC}{Q:Exit→List (Nat×D)→List Ob→Prop}{k:Nat}{φ:List (Nat×D)}{os:List Ob}(h:WI P c E0 os0 n b (ZGN (ZMK P c E0 os0 n b Q k) Q) φ os):ZMK P c E0 os0 n b Q (k+1) φ os:=h
end
section
variable {P:Program}
theorem ZL.turn{α:Type}(enc:α→X)(val:α→Value)(hvx: ∀w st a,VX w st (enc a) (val a))(hinv: ∀w st a v,VX w st (enc a) v→v=val a){f:FuncId}{e:Nat}{zs ys:List α}(hl:ys.length=zs.length)(h00:zs= []→ys= [])
  (h0:zs= []→ ∀p cap w,Calls P f #[.slice p 0 cap] w fun e w'=>e= .returned (.tuple #[])∧w'=w)
  (h1: ∀(g cap:Nat) (w:World) (cells:Array Value),zs≠ []→w.heap[g]? =some (.cells cells e (0,0))→cells.toList.take zs.length=zs.map val→zs.length≤cap→cap≤maxLen→cells.size=cap*1→
   Calls P f #[.slice (some ⟨g,0,none⟩) zs.length cap] w fun e' w'=>e'= .returned (.tuple #[])∧w.grownBy w' (some g)∧w'.ownsRow 0 e 1 (.slice (some ⟨g,0,none⟩) zs.length cap) zs.length (ys.map val)):
  ZL P f [.ref 0 zs.length 0 zs.length] [.rows false e 1 (zs.map fun a=> [enc a])] (.tup []) [.rows false e 1 (ys.map fun a=> [enc a])]:=by
 intro c E vs R hvl;obtain⟨hsz,hv⟩:=hvl;obtain⟨v0,rfl⟩: ∃v0,vs= #[v0]:=by
  obtain⟨vl⟩:=vs
  match vl,hsz with
  | [a],_=>exact⟨a,rfl⟩
 have h:=hv 0 _ v0 rfl rfl;cases h with
 |ref hr _=>
  have ho: [Ob.rows false e 1 (zs.map fun a=> [enc a])][0]? =some (Ob.rows false e 1 (zs.map fun a=> [enc a])):=rfl;obtain⟨k1,k2⟩:=hr.at ho rfl;obtain⟨k3,b,a,cap,a',cap',k4,rfl,k6,k7,k8,k9,k10,k11⟩:=k2 (by simp);obtain⟨rfl,rfl⟩:=k8 rfl;obtain⟨p,hp,hok⟩:=R.at ho;rw[hp]at k4;have hpb:p=(b,.slice a' zs.length cap'):=ZA6 k4;subst hpb;by_cases hz:zs= []
  ·subst hz;obtain rfl:=h00 rfl;refine(h0 rfl a' cap' E.w).mono ?_;rintro _ w' ⟨rfl,rfl⟩;exact⟨_,E,rfl,rfl,R,Evo.refl _ _,.tup #[] rfl (fun j d v h=>by simp at h)⟩
  ·have hpos:0<zs.length:=ZMh.2 hz;obtain⟨xs,⟨q1,q2⟩,q3,q4⟩:=hok;rcases q2 with⟨q2,q5⟩|⟨g,cp,cells,fr,q5,q6,q7,q8,q9,q10,q11⟩
   ·simp only[Yf]at q5;omega
   ·simp only[Value.slice.injEq]at q5;obtain⟨rfl,_,rfl⟩:=q5;simp only[Yf,Kr]at q10 q7 q1;have hfr:fr=(0,0):=by
     rcases q11 with q11|⟨q11,_⟩
     ·exact q11
     ·cases q11
    subst hfr;have hxs:xs=zs.map val:=by
     apply List.ext_getElem (by rw[q1];simp);intro i hi hi2;have hiz:i<zs.length:=by rw[q1]at hi;exact hi
     have:=q4 i [enc zs[i]] 0 (enc zs[i]) xs[i] (by rw[Zw,Zu hiz];rfl) rfl (by rw[Kr,Jw];exact Zu hi);rw[hinv _ _ _ _ this];simp
    refine(h1 g cap' E.w cells hz q6 (by rw[q10,hxs]) q7 q8 q9).mono ?_;rintro _ w' ⟨rfl,hg,hown⟩;obtain⟨R',ev⟩:=R.set ho hp w' (.rows false e 1 (ys.map fun a=> [enc a])) (b,.slice (some ⟨g,0,none⟩) zs.length cap') ⟨hg.os,hg.tape,hg.output,hg.size,fun k hk hm=>hg.block k hk (fun e=>hm (by cases e;rfl))⟩ (fun b' hb'=> .inl hb') (fun sz rs1 h=>by
      simp only[Ob.sl?,Ze,Za]at h;obtain⟨rfl,rfl⟩:=h;exact⟨(ys.map fun a=> [enc a]).length,rfl,.inl ⟨by simp[hl],rfl⟩⟩) (fun k h=>by cases h) (fun ev=>by
      refine⟨ys.map val,?_,fun r hr=> ?_,fun i r j x v h1 h2 h3=> ?_⟩
      ·have:=KA.of_owns hown false;simpa[hl]using this
      ·obtain⟨a,_,rfl⟩:=YW.1 hr;rfl
      ·rw[Zw]at h1;obtain⟨a,ha,rfl⟩:=ZT h1
       match j with
       |0=>
        simp only[ZBW,Ze]at h2;subst h2;rw[Kr,Jw,Zw,ha]at h3;simp only[YS,Ze]at h3;subst h3;exact hvx _ _ a
       |j+1=>simp at h2)
    exact⟨_,_,rfl,rfl,R',ev,.tup #[] rfl (fun j d v h=>by simp at h)⟩
end
variable {P:Program} {c:Ctx} {E0:Env} {os0:List Ob} {n:Nat} {Q:Exit→List (Nat×D)→List Ob→Prop} {φ:List (Nat×D)} {os:List Ob}
theorem WI.join{x y:IC}(J:List (Nat×D)→List Ob→Prop)(h:WI P c E0 os0 n x (ZGN J Q) φ os)(h2: ∀φ' os',J φ' os'→WI P c E0 os0 n y Q φ' os'):WI P c E0 os0 n (.seq x y) Q φ os:=by
 refine WI.seq (h.mono fun e φ' os' hh=> ?_);cases e with
 |normal=>exact h2 φ' os' hh
 |_=>exact hh
def JM(kp:List Nat)(S:Tabs)(os0:List Ob)(k:Nat)(rs:List Nat):Nat→Bool→List (Nat×D)→Nat→List Ob→List Ob→Option (List Ob)→List IOp→Option (Bool×List (Nat×D)×List Ob)
 |_,b,φ,_,_,C,last,[]=>some (b,φ,last.getD (os0++C))
 |i,b,φ,id,os,C,last,o::l=>
  if o.e.frame then match Yo S φ [] o with
   |some r=>JM kp S os0 k rs (i+1) (b&&(r.1&&(!Zh i rs||ZCT kp φ o))) (putO φ o.dst r.2) id os C last l
   |none=>none
  else if Zh i rs then match Yo S φ os0 o with
   |some r=>JM kp S os0 k rs (i+1) (b&&(r.1&&(!Zh i rs||ZCT kp φ o))) (putO φ o.dst r.2) id os C last l
   |none=>none
  else if i<k then match Yo S φ os0 o with
   |some r=>JM kp S os0 k rs (i+1) (b&&(r.1&&(!Zh i rs||ZCT kp φ o))) (putO φ o.dst r.2) id os C last l
   |none=>match ZEs φ os o with
    |some r=>JM kp S os0 k rs (i+1) (b&&(r.1&&(!Zh i rs||ZCT kp φ o))) (putO φ o.dst r.2) id os C last l
    |none=>match Qo S φ os0 id o with
     |some r=>JM kp S os0 k rs (i+1) (b&&(r.1&&(!Zh i rs||ZCT kp φ o))) (putO φ o.dst r.2.1) (id+1) (os++ [r.2.2]) (C++ [r.2.2]) last l
     |none=>none
  else match QD S φ os o with
   |some r=>JM kp S os0 k rs (i+1) (b&&(r.1&&((!Zh i rs||ZCT kp φ o)&&ZCE kp os0 r.2.2))) (putO φ o.dst r.2.1) id r.2.2 C (some r.2.2) l
   |none=>none
theorem ZCi{kp:List Nat}(S:Tabs)(os0:List Ob)(k:Nat)(rs:List Nat): ∀(l:List IOp) (i:Nat) (b:Bool) (φ:List (Nat×D)) (id:Nat) (os C:List Ob) (last:Option (List Ob)),
  JM kp S os0 k rs i b φ id os C last l=(Jj S os0 k rs i φ id os l).map fun q=>(b&&(q.1&&(bxR kp rs i φ q.2.1 l&&ZDq kp os0 q.2.2)),Ya φ q.2.1,Zq q.2.2 (fun _=>true) 0 (last.getD (os0++C++YD q.2.1)))
 | [],i,b,φ,id,os,C,last=>by
  simp[JM,Jj,Ya,YD,Zq,bxR,ZDq]
 |o::l,i,b,φ,id,os,C,last=>by
  simp only[JM,Jj];split
  ·cases Yo S φ [] o with
   |none=>rfl
   |some r=>
    simp only[Qu,ZCi S os0 k rs l];cases Jj S os0 k rs (i+1) (putO φ o.dst r.2) id os l with
    |none=>rfl
    |some q=>simp only[YS,bxR,ZDq,Ya,YD,Yw];congr 1;simp only[Za,and_true];ac_rfl
  ·split
   ·cases Yo S φ os0 o with
    |none=>rfl
    |some r=>
     simp only[Qu,ZCi S os0 k rs l];cases Jj S os0 k rs (i+1) (putO φ o.dst r.2) id os l with
     |none=>rfl
     |some q=>simp only[YS,bxR,ZDq,Ya,YD,Yw];congr 1;simp only[Za,and_true];ac_rfl
   ·split
    ·cases Yo S φ os0 o with
     |some r=>
      simp only[ZCi S os0 k rs l];cases Jj S os0 k rs (i+1) (putO φ o.dst r.2) id os l with
      |none=>rfl
      |some q=>simp only[YS,bxR,ZDq,Ya,YD,Yw];congr 1;simp only[Za,and_true];ac_rfl
     |none=>
      cases ZEs φ os o with
      |some r=>
       simp only[ZCi S os0 k rs l];cases Jj S os0 k rs (i+1) (putO φ o.dst r.2) id os l with
       |none=>rfl
       |some q=>simp only[YS,bxR,ZDq,Ya,YD,Yw];congr 1;simp only[Za,and_true];ac_rfl
      |none=>
       cases Qo S φ os0 id o with
       |none=>rfl
       |some r=>
        simp only[Qu,ZCi S os0 k rs l];cases Jj S os0 k rs (i+1) (putO φ o.dst r.2.1) (id+1) (os++ [r.2.2]) l with
        |none=>rfl
        |some q=>simp only[YS,bxR,ZDq,Ya,YD,Yw,Yk,QC,Qw];congr 1;simp only[Za,and_true];ac_rfl
    ·cases QD S φ os o with
     |none=>rfl
     |some r=>
      simp only[Qu,ZCi S os0 k rs l];cases Jj S os0 k rs (i+1) (putO φ o.dst r.2.1) id r.2.2 l with
      |none=>rfl
      |some q=>simp only[YS,bxR,ZDq,Ya,YD,ZGU,Qe];congr 1;simp only[Za,and_true];ac_rfl
section
variable {P:Program} {c:Ctx} {E0:Env} {os0 os:List Ob} {n:Nat} {Q:Exit→List (Nat×D)→List Ob→Prop} {φ:List (Nat×D)}
theorem WI.dregY{S:Tabs}(hS:SsOk P S)(kp ks:List Nat){k k2:Nat}{rs rs2:List Nat}{l:List IOp}(h:YK (JM kp S os k2 rs2 0 true φ os.length os [] none l) (fun φ' os'=>Q .normal (Go.Ab.keep ks φ') os')):WI P c E0 os0 n (.dreg k rs k2 rs2 l) Q φ os:=by
 obtain⟨ok,φ',os',h1,rfl,h3⟩:=h;rw[ZCi]at h1;refine WI.dreg' (m:=some kp) hS (.inr ?_) rfl h3 (fun _ _ f=>f.keep ks);rw[←h1];unfold ZGW;cases Jj S os k2 rs2 0 φ os.length os l with
 |none=>rfl
 |some q=>simp[ZLh]
end
section
variable {S:Tabs} {os0 os C:List Ob} {k i id:Nat} {rs kp:List Nat} {φ φ':List (Nat×D)} {os':List Ob} {last:Option (List Ob)} {o:IOp} {l:List IOp} {ok:Bool} {d:D} {ob:Ob} {K:List (Nat×D)→List Ob→Prop} {Q:Exit→List (Nat×D)→List Ob→Prop} {ks:List Nat}
theorem xsN(h:K φ (last.getD (os0++C))):YK (JM kp S os0 k rs i true φ id os C last []) K:=⟨true,φ,_,rfl,rfl,h⟩
theorem xsF(hf:o.e.frame=true)(hm:Zh i rs=false)(he:(Yo S φ [] o).map (fun r=>(r.1,putO φ o.dst r.2))=some (ok,φ'))(hok:ok=true)(h:YK (JM kp S os0 k rs (i+1) true φ' id os C last l) K):YK (JM kp S os0 k rs i true φ id os C last (o::l)) K:=by
 subst hok;obtain⟨r,h1,h2⟩:=ZT he;simp only[Za]at h2;obtain⟨h2,rfl⟩:=h2;simp only[JM,hf,hm,if_true,h1,h2,QJ,ZO0,ZKh];exact h
theorem xsR(hf:o.e.frame=false)(hm:Zh i rs=true)(hbl:ZCT kp φ o=true)(he:(Yo S φ os0 o).map (fun r=>(r.1,putO φ o.dst r.2))=some (ok,φ'))(hok:ok=true)(h:YK (JM kp S os0 k rs (i+1) true φ' id os C last l) K):YK (JM kp S os0 k rs i true φ id os C last (o::l)) K:=by
 subst hok;obtain⟨r,h1,h2⟩:=ZT he;simp only[Za]at h2;obtain⟨h2,rfl⟩:=h2;simp only[JM,hf,hm,hbl,if_true,h1,h2,QJ,ZKx,Yt,if_false];exact h
theorem xsA(hf:o.e.frame=false)(hm:Zh i rs=false)(hk:Nat.ble (i+1) k=false)(he:(QD S φ os o).map (fun r=>(r.1&&ZCE kp os0 r.2.2,putO φ o.dst r.2.1,r.2.2))=some (ok,φ',os'))(hok:ok=true)(h:YK (JM kp S os0 k rs (i+1) true φ' id os' C (some os') l) K):YK (JM kp S os0 k rs i true φ id os C last (o::l)) K:=by
 subst hok;obtain⟨r,h1,h2⟩:=ZT he;simp only[Za]at h2;obtain⟨h2,rfl,rfl⟩:=h2;have hk': ¬i<k:=fun h=>by have:=Nat.ble_eq_true_of_le h;rw[Nat.succ_eq_add_one,hk]at this;cases this
 simp only[JM,hf,hm,h1,h2,hk',ZCp,ZO0,ZKh,Yt,if_false];exact h
theorem xN(h:Q .normal φ' os')(hk:keep ks φ=φ':=by simp only[keep,KZ,Nat.reduceEqDiff,if_true,if_false,↓reduceIte,Yt];rfl)(hl:last.getD (os0++C)=os':=by simp only[ZK8,Qe,Kg,QC,Qw];rfl):YK (JM kp S os0 k rs i true φ id os C last []) (fun φ' os'=>Q .normal (keep ks φ') os'):=xsN (by rw[hk,hl];exact h)
theorem xFS(h:YK (JM kp S os0 k rs (i+1) true φ' id os C last l) K)(hf:o.e.frame=true:=by rfl)(hm:Zh i rs=false:=by rfl)(he:(Yo S φ [] o).map (fun r=>(r.1,putO φ o.dst r.2))=some (ok,φ'):=by simp only[zC,Yo,QD,KP,KO,Ob.beq_refl,Yv,ZM,ZC,Ab.get,Ab.put,putO,Nat.reduceEqDiff,↓reduceIte,D.val,D.cond,reduceCtorEq,Nat.reduceAdd,Jw,Yy];rfl)(hok:ok=true:=by rfl):YK (JM kp S os0 k rs i true φ id os C last (o::l)) K:=xsF hf hm he hok h
theorem xRG(h:YK (JM kp S os0 k rs (i+1) true φ' id os C last l) K)(hf:o.e.frame=false:=by rfl)(hm:Zh i rs=true:=by rfl)(hbl:ZCT kp φ o=true:=by rfl)(he:(Yo S φ os0 o).map (fun r=>(r.1,putO φ o.dst r.2))=some (ok,φ'):=by simp (disch:=omega) only[uu,zM,Yo,QD,KP,KO,Ob.beq_refl,Yv,ZM,ZC,Ab.get,Ab.put,putO,Nat.reduceEqDiff,↓reduceIte,D.val,D.cond,reduceCtorEq,YA,ZAj,Ob.isDrw,JS,ZAN,QP,ZCA,apm,Qi,IE.isCall,D.cells?,Nat.reduceAdd,Nat.reduceLeDiff,Ob.slice?,Ob.dsl?,Ob.drw?,Nat.reduceSub,Nat.reduceMul,Int.reduceToNat,Int.reduceLE,Int.reduceLT,Int.reduceAdd,Int.reduceSub,Int.reduceMul,Int.reduceNeg,Int.reduceEq,Zp,ZEC,KX,ZH,JR,YU,Yg,JT,Kq,Qg,ZAT,KQ,eqR,eqD,ZBA,eqX,nzD,ZBo,unD,ZBk,Qo,evC,Qc,QV,Nat.reduceLT,zO];rfl)(hok:ok=true:=by first|with_reducible rfl|omega|(simp;done)|(simp;omega)|rfl|(clear uu;grind)|(clear h;clear uu;grind)):YK (JM kp S os0 k rs i true φ id os C last (o::l)) K:=xsR hf hm hbl he hok h
theorem xAG(h:YK (JM kp S os0 k rs (i+1) true φ' id os' C (some os') l) K)(hf:o.e.frame=false:=by rfl)(hm:Zh i rs=false:=by rfl)(hk:Nat.ble (i+1) k=false:=by rfl)(he:(QD S φ os o).map (fun r=>(r.1&&ZCE kp os0 r.2.2,putO φ o.dst r.2.1,r.2.2))=some (ok,φ',os'):=by simp (disch:=omega) only[uu,zM,Yo,QD,KP,ZCE,JO,ZJz,ZIt,Ob.beq_refl,Yv,ZM,ZC,Ab.get,Ab.put,putO,Nat.reduceEqDiff,↓reduceIte,D.val,D.cond,reduceCtorEq,YA,ZAj,Ob.isDrw,JS,ZAN,QP,ZCA,apm,Qi,IE.isCall,D.cells?,Nat.reduceAdd,Nat.reduceLeDiff,Ob.slice?,Ob.dsl?,Ob.drw?,Nat.reduceSub,Nat.reduceMul,Int.reduceToNat,Int.reduceLE,Int.reduceLT,Int.reduceAdd,Int.reduceSub,Int.reduceMul,Int.reduceNeg,Int.reduceEq,Zp,ZEC,KX,ZH,JR,YU,Yg,JT,Kq,Qg,ZAT,KQ,eqR,eqD,ZBA,eqX,nzD,ZBo,unD,ZBk,Qo,evC,Qc,QV,Nat.reduceLT,zO];rfl)(hok:ok=true:=by first|with_reducible rfl|omega|(simp;done)|(simp;omega)|rfl|(clear uu;grind)|(clear h;clear uu;grind)):YK (JM kp S os0 k rs i true φ id os C last (o::l)) K:=xsA hf hm hk he hok h
theorem xAC(h:YK (JM kp S os0 k rs (i+1) true φ' id os' C (some os') l) K)(hf:o.e.frame=false:=by rfl)(hm:Zh i rs=false:=by rfl)(hk:Nat.ble (i+1) k=false:=by rfl)(he:(QD S φ os o).map (fun r=>(r.1&&ZCE kp os0 r.2.2,putO φ o.dst r.2.1,r.2.2))=some (ok,φ',os'):=by simp (disch:=omega) only[uu,zS,zW,zO,ZBz,ZEF,D.nn,D.na,ZW,Jc,IE.isCall,Nat.reduceAdd,Nat.reduceSub,Nat.reduceMul,Nat.reduceLeDiff,Nat.reduceLT,Nat.reduceBEq,Int.reduceToNat,Int.reduceLE,Int.reduceLT,Int.reduceAdd,Int.reduceSub,Int.reduceMul,Int.reduceNeg,Int.reduceEq,Nat.reduceEqDiff,Zy,JM,Yv,ZM,YA,ZAj,Ob.isDrw,JS,ZAN,QP,ZCA,apm,ZC,Ab.get,Ab.put,putO,keep,KZ,D.val,D.cond,D.cells?,D.scalar,X.scalar,D.plain,D.isX,ZBo,ZBB,eqD,ZBA,eqX,unD,ZH,ZBk,KX,Zp,QG,Yu,Yg,YU,JR,JT,Kq,Qg,Ob.slice?,↓reduceIte,reduceCtorEq,Yo,Qo,evC,Qc,QV,QD,KP,ZCE,JO,ZJz,ZIt,eqR,nzD,Qi,ZCM,ZCD,ZCF,ZBF,ZAG,ZAT,ZQ,IE.frame,Zh,KQ,IntWalk.i64_in,Ym,JN,ZFe,JE,ZGn,ZBY,Qh,Yz,Kj,Kn,Yb,D.inP,Ob.inP,Zn,D.ren,YO,YI,Ob.ren,Ja,Jl,Ji,ZDr,Jx];rfl)(hok:ok=true:=by first|with_reducible rfl|omega|(simp;done)|(simp;omega)|rfl|(clear uu;grind)|(clear h;clear uu;grind)):YK (JM kp S os0 k rs i true φ id os C last (o::l)) K:=xsA hf hm hk he hok h
end
section
variable {P:Program} {c:Ctx} {E0:Env} {os0 os:List Ob} {n:Nat} {Q:Exit→List (Nat×D)→List Ob→Prop} {φ:List (Nat×D)}
end
structure Bx (B:Prop):Prop where
 h:B
theorem sd{p:Bool}(h:p=true:=by first|with_reducible rfl|omega|(simp;done)|(simp;omega)|rfl|(clear uu;grind)|(clear h;clear uu;grind)):p=true:=h
theorem se{p:Bool}(h:p=true:=by first|with_reducible rfl|omega):p=true:=h
section
variable {S:Tabs} {os:List Ob} {φ:List (Nat×D)} {l:List IOp} {K:List (Nat×D)→List Ob→Prop} {d:Option Nat} {g:Option (Nat×Bool)}
theorem oMk{x:IO}(h:YK (Zy S true φ os (⟨d,.mv x,none⟩::l)) K):YK (Zy S true φ os (⟨d,.mv x,none⟩::l)) K:=h
theorem oKk{x:IO}(h:YK (Zy S true φ os (⟨d,.nck x,none⟩::l)) K):YK (Zy S true φ os (⟨d,.nck x,none⟩::l)) K:=h
theorem oFk{a:Nat}{x:IO}(h:YK (Zy S true φ os (⟨d,.fad a x,none⟩::l)) K):YK (Zy S true φ os (⟨d,.fad a x,none⟩::l)) K:=h
theorem oGk{o:IOp}(h:YK (Zy S true φ os (o::l)) K):YK (Zy S true φ os (o::l)) K:=h
theorem oCk{f:IO}{xs:List IO}(h:YK (Zy S true φ os (⟨d,.call f xs,g⟩::l)) K):YK (Zy S true φ os (⟨d,.call f xs,g⟩::l)) K:=h
end
section
variable {P:Program} {c:Ctx} {E0:Env} {os0 os:List Ob} {n:Nat} {Q:Exit→List (Nat×D)→List Ob→Prop} {φ:List (Nat×D)}
theorem nz{A B:Prop}(h:A)(k:Bx A→B:=by(intro h;(repeat first|with_reducible refine ZA ?_|with_reducible refine WI.seq ?_|with_reducible refine WI.block ?_|with_reducible refine WI.skip ?_|with_reducible refine QI ?_|with_reducible refine ZOm ?_|with_reducible refine WI.exit ?_|with_reducible refine ZB2 ?_|((with_reducible refine ZQx ?_ ?_);(focus decide))|with_reducible refine Ka ?_|with_reducible refine ZTK ?_);exact h.h)):B:=k ⟨h⟩
theorem rg{S:Tabs}(hS:SsOk P S)(ks:List Nat){l:List IOp}{A B:Prop}(h:A)(k:Bx B→YK (Zy S true φ os l) (fun φ' os'=>Q .normal (Go.Ab.keep ks φ') os'):=by(intro h;(repeat first|((with_reducible refine oMk ?_);refine oS ?_)|((with_reducible refine oKk ?_);refine oS ?_)|((with_reducible refine oFk ?_);refine oS ?_)|((with_reducible refine oGk ?_);(fail_if_success (with_reducible refine oCk ?_));refine oG ?_)|((with_reducible refine oCk ?_);refine oC ?_));refine oN ?_;exact h.h))(k2:Bx A→B:=by(intro h;refine nz ?_;exact h.h)):WI P c E0 os0 n (.reg l) Q φ os:=WI.regB hS ks (k ⟨k2 ⟨h⟩⟩)
theorem rgp{S:Tabs}(hS:SsOk P S)(ks:List Nat){l:List IOp}{A:Prop}(h:A)(k:Bx A→YK (Zy S true φ os l) (fun φ' os'=> ∃φ2 os2,Wk c E0 os0 n (Go.Ab.keep ks φ') os' φ2 os2∧Q .normal φ2 os2):=by(intro h;(repeat first|((with_reducible refine oMk ?_);refine oS ?_)|((with_reducible refine oKk ?_);refine oS ?_)|((with_reducible refine oFk ?_);refine oS ?_)|((with_reducible refine oGk ?_);(fail_if_success (with_reducible refine oCk ?_));refine oG ?_)|((with_reducible refine oCk ?_);refine oC ?_));refine oP ?_;exact h.h)):WI P c E0 os0 n (.reg l) Q φ os:=WI.post (WI.regB hS ks (k ⟨h⟩))
theorem cd{x:IO}{y z:IC}{b:Bool}{p q A B:Prop}(ht:p→A)(he:q→B)(hv:(ZC φ x).val= .x (.bool b):=by exact rfl)(hcd:(ZC φ x).cond=true:=by exact rfl)(hp:b=true→p:=by(intro h;first|(simp only[zB]at h;exact h)|exact h))(hq:b=false→q:=by(intro h;first|(simp only[zB]at h;exact h)|exact h))(kA:Bx A→WI P c E0 os0 n y Q φ os:=by(intro h;refine nz ?_;exact h.h))(kB:Bx B→WI P c E0 os0 n z Q φ os:=by(intro h;refine nz ?_;exact h.h)):WI P c E0 os0 n (.cond x y z) Q φ os:=
 WI.cond hv hcd (fun h=>kA ⟨ht (hp h)⟩) (fun h=>kB ⟨he (hq h)⟩)
theorem ce{x:IO}{y z:IC}{b:Bool}{q B:Prop}(ht:b=true→False)(he:q→B)(hv:(ZC φ x).val= .x (.bool b):=by exact rfl)(hcd:(ZC φ x).cond=true:=by exact rfl)(hq:b=false→q:=by(intro h;first|(simp only[zB]at h;exact h)|exact h))(kB:Bx B→WI P c E0 os0 n z Q φ os:=by(intro h;refine nz ?_;exact h.h)):WI P c E0 os0 n (.cond x y z) Q φ os:=
 WI.cond hv hcd (fun h=>(ht h).elim) (fun h=>kB ⟨he (hq h)⟩)
theorem ct{x:IO}{y z:IC}{b:Bool}{p A:Prop}(ht:p→A)(he:b=false→False)(hv:(ZC φ x).val= .x (.bool b):=by exact rfl)(hcd:(ZC φ x).cond=true:=by exact rfl)(hp:b=true→p:=by(intro h;first|(simp only[zB]at h;exact h)|exact h))(kA:Bx A→WI P c E0 os0 n y Q φ os:=by(intro h;refine nz ?_;exact h.h)):WI P c E0 os0 n (.cond x y z) Q φ os:=
 WI.cond hv hcd (fun h=>kA ⟨ht (hp h)⟩) (fun h=>(he h).elim)
theorem lf{A:Prop}(h:A)(k:Bx A→WI P c E0 os0 n .ret Q φ os:=by(intro h;refine WI.ret ?_;(repeat first|with_reducible refine JP ?_|with_reducible refine ZAt ?_|with_reducible refine ZVY ?_);(first|refine lfR ?_|refine ZCb ?_|refine ZCB ?_|refine ZCc ?_);exact h.h)):WI P c E0 os0 n .ret Q φ os:=k ⟨h⟩
end
section
variable {P:Program} {c:Ctx} {E E0:Env} {os os0:List Ob} {n:Nat} {Q:Exit→List (Nat×D)→List Ob→Prop} {φ:List (Nat×D)}
theorem ZXt{α:Type}(l:List α)(i:Nat)(x:α)(h:l[i]? =some x):l.set i x=l:=by
 apply ZAq;intro j;rw[ZBj];by_cases hj:i=j
 ·subst hj;rw[if_pos rfl,h];simp[(ZR h).1]
 ·simp[hj]
theorem Rel.swap(R:Rel c E os){i:Nat}{o o':Ob}(ho:os[i]? =some o)(hs:o'.sl? =o.sl?)(hk:o.kd=none)(hm: ∀p b,o'.mb p b→o.mb p b)(hok: ∀(E':Env) (os':List Ob) p,Evo E os E' os'→E'.w=E.w→OK E os o p→OK E' os' o' p):Rel c E (os.set i o')∧Evo E os E (os.set i o'):=by
 obtain⟨p,hp,h⟩:=R.at ho;have:=R.set ho hp E.w o' p (Kept.refl _ _) (fun b hb=> .inl (hm p b hb)) (fun sz m hm=>⟨m,by rw[hs];exact hm,.inl ⟨rfl,rfl⟩⟩) (fun k h=>by rw[hk]at h;cases h) (fun ev=>hok _ _ p ev rfl h);rw[ZXt _ _ _ hp]at this;exact this
theorem Rel.toD(R:Rel c E os){i e sz:Nat}{rs:List (List X)}(ho:os[i]? =some (.rows false e sz rs)):Rel c E (os.set i (.drw e sz (Jd rs)))∧Evo E os E (os.set i (.drw e sz (Jd rs))):=by
 refine R.swap ho (by simp[Ob.sl?,ZAg]) rfl (fun p b h=>h) (fun E' os' p ev hw h=> ?_);obtain⟨xs,h1,h2,h3⟩:=h;refine⟨xs,by rw[hw,ZAg];exact h1,fun r hr=> ?_,fun i r j d v hr hd hv=> ?_⟩
 ·obtain⟨r0,h0,rfl⟩:=YW.1 hr;rw[Yf];exact h2 r0 h0
 ·obtain⟨r0,x,g1,g2,rfl⟩:=ZO8 hr hd;have:=h3 i r0 j x v g1 g2 hv;exact⟨.x (this.mono ev.st),this.one⟩
theorem Rel.toX(R:Rel c E os){i e sz:Nat}{rs:List (List X)}(ho:os[i]? =some (.drw e sz (Jd rs))):Rel c E (os.set i (.rows false e sz rs))∧Evo E os E (os.set i (.rows false e sz rs)):=by
 refine R.swap ho (by simp[Ob.sl?,ZAg]) rfl (fun p b h=>h) (fun E' os' p ev hw h=> ?_);obtain⟨xs,h1,h2,h3⟩:=h;refine⟨xs,by rw[hw];rw[ZAg]at h1;exact h1,fun r hr=> ?_,fun i r j x v hr hx hv=> ?_⟩
 ·have:=h2 (r.map D.x) (YW.2 ⟨r,hr,rfl⟩);rwa [Yf]at this
 ·have hr':(Jd rs)[i]? =some (r.map D.x):=by unfold Jd;rw[Zw,hr];rfl
  exact(h3 i _ j (.x x) v hr' (by rw[Zw,hx];rfl) hv).1.xx.mono ev.st
theorem Wk.toD{i e sz:Nat}{rs:List (List X)}(ho:os[i]? =some (.rows false e sz rs)):Wk c E0 os0 n φ os φ (os.set i (.drw e sz (Jd rs))):=fun E a R hf=>by
 obtain⟨R1,e1⟩:=R.rel.toD ho;exact⟨E,rfl,⟨R1,R.evo.trans e1⟩,hf.mono e1⟩
theorem Wk.toX{i e sz:Nat}{rs:List (List X)}(ho:os[i]? =some (.drw e sz (Jd rs))):Wk c E0 os0 n φ os φ (os.set i (.rows false e sz rs)):=fun E a R hf=>by
 obtain⟨R1,e1⟩:=R.rel.toX ho;exact⟨E,rfl,⟨R1,R.evo.trans e1⟩,hf.mono e1⟩
theorem WI.toDA(i:Nat){e sz:Nat}{rs:List (List X)}{ic:IC}{os':List Ob}(h:WI P c E0 os0 n ic Q φ os')(ho:os[i]? =some (.rows false e sz rs):=by rfl)(hs:os.set i (.drw e sz (Jd rs))=os':=by simp only[ZCk,ZBn];rfl):WI P c E0 os0 n ic Q φ os:=WI.weak (Wk.toD ho) (by rw[hs];exact h)
theorem WI.toXA(i:Nat){e sz:Nat}{rs:List (List X)}{ic:IC}{os':List Ob}(h:WI P c E0 os0 n ic Q φ os')(ho:os[i]? =some (.drw e sz (Jd rs)):=by rfl)(hs:os.set i (.rows false e sz rs)=os':=by simp only[ZCk,ZBn];rfl):WI P c E0 os0 n ic Q φ os:=WI.weak (Wk.toX ho) (by rw[hs];exact h)
end
section
variable {P:Program} {c:Ctx} {E E0:Env} {os os0:List Ob} {n:Nat} {Q:Exit→List (Nat×D)→List Ob→Prop} {φ:List (Nat×D)}
end
section
variable {P:Program} {c:Ctx} {E0:Env} {os os0:List Ob} {n:Nat} {Q:Exit→List (Nat×D)→List Ob→Prop} {φ:List (Nat×D)}
end
section
variable {P:Program} {c:Ctx} {E0:Env} {os os0:List Ob} {n:Nat} {Q:Exit→List (Nat×D)→List Ob→Prop} {φ:List (Nat×D)}
def kN(K:List (Nat×D)→List Ob→Prop):Exit→List (Nat×D)→List Ob→Prop:=fun _ φ os=>K φ os
theorem ZHX{K:List (Nat×D)→List Ob→Prop}(h:K φ os): ∃φ2 os2,Wk c E0 os0 n φ os φ2 os2∧kN K .normal φ2 os2:=⟨φ,os,Wk.refl,h⟩
end
def ZEA:List Ob→List Ob→Bool
 | [],[]=>true
 |x::l,y::l'=>Ob.beq x y&&ZEA l l'
 |_,_=>false
theorem ZFw: ∀ {a b:List Ob},ZEA a b=true→a=b
 | [],b,h=>by cases b<;>simp[ZEA]at h;rfl
 |x::l,b,h=>by
  cases b<;>simp[ZEA]at h
  rw[Ob.beq_eq h.1,ZFw h.2]
theorem ZEy: ∀a:List Ob,ZEA a a=true
 | []=>rfl
 |x::l=>by simp only[ZEA,ZS];exact⟨Ob.beq_refl x,ZEy l⟩
def ptT(S:Tabs)(f:FuncId)(A:List D)(O:List Ob)(r:D)(O':List Ob):Tabs:=⟨S.q,fun f' args os=>if f'=f∧D.beqL args A=true∧ZEA os O=true then some (true,r,O')else S.t f' args os,S.r,S.k⟩
theorem ZCQ{P:Program}{S:Tabs}(hS:SsOk P S){f:FuncId}{A:List D}{O O':List Ob}{r:D}(he:Enters P f)(hm:ZL P f A O r O'):SsOk P (ptT S f A O r O'):=by
 refine⟨hS.q,fun f' args os r' os' h=> ?_,hS.r,hS.k⟩;simp only[ptT]at h;split at h
 ·rename_i hh;obtain⟨rfl,h2,h3⟩:=hh;rw[D.beqL_eq h2,ZFw h3];simp only[Ze,Za,true_and]at h;obtain⟨rfl,rfl⟩:=h;exact⟨he,hm⟩
 ·exact hS.t f' args os r' os' h
theorem ZIK(S:Tabs)(f:FuncId)(A:List D)(O:List Ob)(r:D)(O':List Ob):(ptT S f A O r O').t f A O=some (true,r,O'):=if_pos ⟨rfl,D.beqL_refl A,ZEy O⟩
theorem ZHt(S:Tabs)(f:FuncId)(A:List D)(O:List Ob)(r:D)(O':List Ob):(ptT S f A O r O').q=S.q:=rfl
theorem ZHd(S:Tabs)(f:FuncId)(A:List D)(O:List Ob)(r:D)(O':List Ob):(ptT S f A O r O').r=S.r:=rfl
theorem ZHf(S:Tabs)(f:FuncId)(A:List D)(O:List Ob)(r:D)(O':List Ob):(ptT S f A O r O').k=S.k:=rfl
theorem D.ren_id(f:Nat→Nat)(h: ∀i,f i=i)(d:D):d.ren f=d:=by
 refine D.rec (motive_1:=fun d=>d.ren f=d) (motive_2:=fun l=>Zn f l=l) ?_ ?_ ?_ ?_ ?_ ?_ ?_ ?_ ?_ ?_ ?_ ?_ ?_ ?_ ?_ ?_ ?_ ?_ ?_ d
 all_goals intros
 all_goals first|rfl|(simp only[D.ren,Zn,h];done)|(simp only[D.ren,Zn,h];simp_all)
theorem ZHS(f:Nat→Nat)(h: ∀i,f i=i): ∀l:List D,Zn f l=l
 | []=>rfl
 |d::l=>by rw[Zn,D.ren_id f h,ZHS f h l]
theorem ZSD(f:Nat→Nat)(h: ∀i,f i=i)(p:Pr):Yz f p=p:=by
 unfold Yz;rw[ZHS f h]
theorem ZP5{α:Type}(f:α→α)(h: ∀x,f x=x)(l:List α):l.map f=l:=by
 induction l with
 |nil=>rfl
 |cons a l ih=>rw[YL,h,ih]
theorem Ob.ren_id(f:Nat→Nat)(h: ∀i,f i=i)(o:Ob):o.ren f=o:=by
 cases o<;>simp only[Ob.ren,h,ZHS f h,ZP5 (Yz f) (ZSD f h),ZP5 (Zn f) (ZHS f h)]
 rename_i cur;cases cur<;>simp only[Qf,YS,ZSD f h]
theorem ZUf(h:List D→List Ob→Option (Bool×D×List Ob))(args:List D)(OS:List Ob)(i:Nat)(fz:Bool)(e sz:Nat)(rs:List (List X))(fz':Bool)(e' sz':Nat)(rs':List (List X))(ok:Bool)(r:D)
  (hi:JE args= [i]) (hn:Yb (fun j=>Zh j [i]) args=true) (ho:OS[i]? =some (.rows fz e sz rs)) (hr: ∀f,r.ren f=r)
  (hh:h (Zn (YO [i]) args) [.rows fz e sz rs]=some (ok,r,[.rows fz' e' sz' rs'])):Ym h args OS=some (ok,r,OS.set i (.rows fz' e' sz' rs')):=by
 have hlt:i<OS.length:=(ZR ho).1;have hg:OS.getD i .dead= .rows fz e sz rs:=by rw[ZGe,ho];rfl
 have hm:Zh i []=false:=rfl;have hre:JN OS 64 (JE args) []= [i]:=by
  rw[hi];simp only[JN,hm,hg,ZGn];rfl
 have hfp:YI [i] OS= [.rows fz e sz rs]:=by
  unfold YI;simp only[YL,Qv,hg];rfl
 unfold Ym;rw[hre,hfp,hh,if_pos (by
  unfold Kj;simp only[ZAJ,ZFV,hg,hn,Zc hlt,Kn];rfl)]
 rw[Qu,if_pos (by simp),hr];congr 3;unfold Jl;simp only[YL,Qv,Ji,ZDj,ZCo,JJ,ξN,Kg];rfl
def fam(e sz:Nat)(l:List (List (List X))):List Ob:=l.map fun rs=> .rows false e sz rs
def ZEh(sz:Nat)(l:List (List (List X))):List Ob:=l.map fun rs=> .frz sz rs
theorem ZJ4(e sz:Nat)(l:List (List (List X))):(fam e sz l).length=l.length:=by simp[fam]
theorem ZFU(sz:Nat)(l:List (List (List X))):(ZEh sz l).length=l.length:=by simp[ZEh]
theorem ZRb(o:Ob)(e sz:Nat): ∀(l A:List (List (List X))),frzL (List.range' (A.length+1) l.length) (o::(ZEh sz A++fam e sz l))=o::ZEh sz (A++l)
 | [],A=>by simp[frzL,fam]
 |r::l,A=>by
  have ih:=ZRb o e sz l (A++ [r]);have hg:(o::(ZEh sz A++fam e sz (r::l)))[A.length+1]? =some (.rows false e sz r):=by
   rw[ZBe,Ki (by rw[ZFU];exact Zl _),ZFU,ZH2];rfl
  have hs:(o::(ZEh sz A++fam e sz (r::l))).set (A.length+1) (.frz sz r)=o::(ZEh sz (A++ [r])++fam e sz l):=by
   rw[ZBn,ZDD _ _ (by rw[ZFU];exact Zl _),ZFU,ZH2];simp[ZEh,fam]
  rw[JJ,List.range'_succ,frzL,hg];dsimp only;rw[hs];rw[Zx,ZS0,Yk]at ih;exact ih
def Kx:Nat→List (List (List X))→List (List D)
 |_,[]=> []
 |k,rs::l=> [.ref k rs.length 0 rs.length]::Kx (k+1) l
theorem ZSE(sz:Nat)(os:List Ob): ∀(l:List (List (List X))) (k:Nat),(∀i r,l[i]? =some r→os[k+i]? =some (.frz sz r))→((Kx k l).map (List.map (Qr [0] os))).map (Zn (YO [0]))=Jd (l.map fun rs=> [.sl rs])
 | [],k,_=>rfl
 |r::l,k,h=>by
  have h0:=h 0 r rfl;have ih:=ZSE sz os l (k+1) (fun i x hx=>by rw[show k+1+i=k+(i+1) by omega];exact h (i+1) x hx);have hv:Qr [0] os (.ref k r.length 0 r.length)= .x (.sl r):=by
   unfold Qr;rw[D.vw,show os[k]? =some (.frz sz r)from h0];dsimp only;rw[if_pos rfl,ZCo,KW];rfl
  rw[Kx,YL,YL,ih,YL,Qv,hv];rfl
theorem ZbD(e sz:Nat)(l:List (List (List X))):ZBU [0] (.drw e 1 (Kx 1 l)::ZEh sz l)= [.drw e 1 (Jd (l.map fun rs=> [.sl rs]))]:=by
 have h:=ZSE sz (.drw e 1 (Kx 1 l)::ZEh sz l) l 1 (fun i r hr=>by rw[ZM0,ZBe];unfold ZEh;rw[Zw,hr];rfl);unfold ZBU YI;simp only[YL,Qv,ZMi,Ob.mp,Ob.onI,Ob.ren];rw[h]
theorem ZBv(k i:Nat):Zh i (List.range k)=decide (i<k):=by
 rw[ZBc,ZAs,ZEk,Zi]
theorem ZBS{k i:Nat}(h:i<k):YO (List.range k) i=i:=ZJY List.nodup_range (by rw[ZPD h])
theorem ZNk{OS X:List Ob}(hO:OS.all (Ob.inP (fun i=>decide (i<OS.length)))=true):YI (List.range OS.length) (OS++X)=OS:=by
 apply ZAq;intro i;unfold YI;rw[Zw];by_cases h:i<OS.length
 ·rw[ZPD h,YS,ZGe,YR h,Zu h,Qe];have hp:=YQ.1 hO _ (Yl h);have:=Ob.ren_ren (F:=fun i=>i) (g:=YO (List.range OS.length)) (p:=fun i=>decide (i<OS.length)) (fun j hj=>ZBS (of_decide_eq_true hj)) OS[i] hp;rw[Ob.ren_id _ (fun _=>rfl)]at this;rw[this]
 ·rw[ξZ (by simp;omega),ξZ (by omega)];rfl
section
variable {P:Program} {c:Ctx} {E0:Env} {os0:List Ob} {n:Nat} {Q:Exit→List (Nat×D)→List Ob→Prop} {φ:List (Nat×D)}
theorem ZRf(p:Nat→Bool): ∀(φ:List (Nat×D)),φ.all (fun q=>q.2.inP p)=true→ ∀t,(get φ t).inP p=true
 | [],_,t=>rfl
 |(s,d)::φ,h,t=>by
  rw[ZAJ,ZS]at h;unfold Go.Ab.get;split
  ·exact h.1
  ·exact ZRf p φ h.2 t
theorem Wk.dropT{OS X:List Ob}(h0:os0.length≤OS.length)(hO:OS.all (Ob.inP (fun i=>decide (i<OS.length)))=true)(hφ:φ.all (fun p=>p.2.inP (fun i=>decide (i<OS.length)))=true):Wk c E0 os0 n φ (OS++X) φ OS:=by
 intro E a R hf;have hn:(List.range OS.length).Nodup:=List.nodup_range;have hlt: ∀r∈List.range OS.length,r<(OS++X).length:=fun r hr=>by have:=ZEk.1 hr;simp;omega
 have hm:(fun i=>Zh i (List.range OS.length))=fun i=>decide (i<OS.length):=funext (ZBv _)
 have R2:=R.rel.pickO hn hlt (fun r hr=>by
  have h:=ZEk.1 hr;rw[ZGe,YR h,Zu h,Qe,hm];exact YQ.1 hO _ (Yl h))
 have e2:=ZJQ (ρ:=List.range OS.length) R.rel hlt;rw[ZNk hO]at R2 e2;refine⟨fpE (List.range OS.length) E,rfl,⟨R2,?_⟩,hf.size,hf.defers,fun t=> ?_⟩
 ·have e01:=R.evo;refine⟨e01.st,fun id b cu ds k ho hkd hb=> ?_,fun id o sz rs ho hs=> ?_⟩
  ·have hi:=(ZR ho).1;obtain⟨cu1,ds1,k1,kd1,k2⟩:=e01.bl id b cu ds k ho hkd hb;obtain⟨cu2,ds2,k3,kd2,k4⟩:=e2.bl id b cu1 ds1 k (by rw[ZBv];exact Zc (by omega)) k1 kd1 k2;rw[ZBS (by omega)]at k3 k4;exact⟨cu2,ds2,k3,kd2,k4⟩
  ·have hi:=(ZR ho).1;obtain⟨o1,rs1,k1,k2,k3⟩:=e01.rf id o sz rs ho hs;obtain⟨o2,rs2,k4,k5,k6⟩:=e2.rf id o1 sz rs1 (by rw[ZBv];exact Zc (by omega)) k1 k2;rw[ZBS (by omega)]at k4 k6;refine⟨o2,rs2,k4,k5,?_⟩;rcases k3 with⟨k3,k3'⟩|k3<;>rcases k6 with⟨k6,k6'⟩|k6
   ·exact .inl ⟨k3.trans k6,k6'.trans k3'⟩
   ·exact .inr (by omega)
   ·exact .inr (by omega)
   ·exact .inr (by omega)
 ·have hp:=ZRf _ φ hφ t;have h1:V (fpE (List.range OS.length) E) OS ((get φ t).ren (YO (List.range OS.length))) (a.tmps.getD t undef):=(hf.slot t).monoR e2 (by rw[hm];exact hp);have h2:=D.ren_ren (F:=fun i=>i) (g:=YO (List.range OS.length)) (p:=fun i=>decide (i<OS.length)) (fun j hj=>ZBS (of_decide_eq_true hj)) (get φ t) hp;rw[D.ren_id _ (fun _=>rfl)]at h2;rwa [h2]at h1
theorem ZLo(OS X:List Ob){os:List Ob}(e:os=OS++X)(h0:os0.length≤OS.length)(hO:OS.all (Ob.inP (fun i=>decide (i<OS.length)))=true)(hφ:φ.all (fun p=>p.2.inP (fun i=>decide (i<OS.length)))=true)(h: ∃φ2 os2,Wk c E0 os0 n φ OS φ2 os2∧Q .normal φ2 os2): ∃φ2 os2,Wk c E0 os0 n φ os φ2 os2∧Q .normal φ2 os2:=by
 subst e;obtain⟨φ2,os2,h1,h2⟩:=h;exact⟨φ2,os2,(Wk.dropT h0 hO hφ).trans h1,h2⟩
theorem WI.dropT(OS X:List Ob){os:List Ob}{ic:IC}(e:os=OS++X)(h0:os0.length≤OS.length)(hO:OS.all (Ob.inP (fun i=>decide (i<OS.length)))=true)(hφ:φ.all (fun p=>p.2.inP (fun i=>decide (i<OS.length)))=true)(h:WI P c E0 os0 n ic Q φ OS):WI P c E0 os0 n ic Q φ os:=by
 subst e;exact WI.weak (Wk.dropT h0 hO hφ) h
end
theorem ZY9(p:Nat→Bool)(e sz:Nat)(l:List (List (List X))):(fam e sz l).all (Ob.inP p)=true:=by
 unfold fam;rw[ZKb];exact YQ.2 fun _ _=>rfl
theorem ZOO: ∀(l:List (List (List X))) (k:Nat),(Kx k l).length=l.length
 | [],_=>rfl
 |r::l,k=>by rw[Kx,JJ,ZOO l,JJ]
theorem ZNd: ∀(l:List (List (List X))) (k i:Nat) (r:List (List X)),l[i]? =some r→(Kx k l)[i]? =some [.ref (k+i) r.length 0 r.length]
 | [],_,i,r,h=>by simp at h
 |r::l,k,0,x,h=>by simp at h;subst h;rfl
 |r::l,k,i+1,x,h=>by
  rw[Kx,ZBe,ZNd l (k+1) i x (by simpa using h),show k+1+i=k+(i+1) by omega]
theorem ZLq: ∀(l:List (List (List X))) (k:Nat) (r:List (List X)),Kx k (l++ [r])=Kx k l++ [[.ref (k+l.length) r.length 0 r.length]]
 | [],k,r=>rfl
 |x::l,k,r=>by rw[QC,Kx,ZLq l,Kx,JJ,show k+1+l.length=k+(l.length+1) by omega];rfl
theorem ZKM: ∀(l l':List (List (List X))) (k:Nat),l.map List.length=l'.map List.length→Kx k l=Kx k l'
 | [],[],_,_=>rfl
 | [],_::_,_,h=>by simp at h
 |_::_,[],_,h=>by simp at h
 |x::l,y::l',k,h=>by
  rw[YL,YL,ZGf]at h;rw[Kx,Kx,h.1,ZKM l l' _ h.2]
theorem ZNj(n:Nat): ∀(l:List (List (List X))) (k:Nat),k+l.length≤n→(Kx k l).all (Yb (fun i=>decide (i<n)))=true
 | [],_,_=>rfl
 |r::l,k,h=>by
  rw[JJ]at h;rw[Kx,ZAJ,ZNj n l (k+1) (by omega),QJ];simp only[Yb,D.inP,QJ,Zi];omega
def ZdB(e:Nat)(l:List (List (List X))):Ob:= .drw e 1 (Kx 1 l)
theorem ZYq(e e2 sz:Nat)(l:List (List (List X))):(ZdB e l::fam e2 sz l).all (Ob.inP (fun i=>decide (i<(ZdB e l::fam e2 sz l).length)))=true:=by
 rw[ZAJ,ZY9,QJ,JJ,ZJ4];exact ZNj _ l 1 (by omega)
theorem Zbk(e sz:Nat)(l:List (List (List X)))(Y:List Ob)(i:Nat)(r:List (List X))(h:l[i]? =some r):(fam e sz l++Y)[i]? =some (.rows false e sz r):=by
 have hi:=(ZR h).1;rw[YR (by rw[ZJ4];exact hi)];unfold fam;rw[Zw,h];rfl
theorem ZaW(e sz:Nat)(l:List (List (List X)))(Y:List Ob)(i:Nat)(r:List (List X))(h:i<l.length):(fam e sz l++Y).set i (.rows false e sz r)=fam e sz (l.set i r)++Y:=by
 rw[ZMz _ _ (by rw[ZJ4];exact h)];unfold fam;rw[ZLA]
theorem ZYG(e sz:Nat)(l:List (List (List X)))(r:List (List X)):fam e sz (l++ [r])=fam e sz l++ [.rows false e sz r]:=by simp[fam]
def ZSf(A:List D)(O:List Ob)(r:D)(O':List Ob)(args:List D)(os:List Ob):Option (Bool×D×List Ob):=if D.beqL args A=true∧ZEA os O=true then some (true,r,O')else none
theorem ZRz{P:Program}{f:FuncId}{A:List D}{O O':List Ob}{r:D}(hc:ZL P f A O r O'): ∀args os r' os',ZSf A O r O' args os=some (true,r',os')→ZL P f args os r' os':=by
 intro args os r' os' h;unfold ZSf at h;split at h
 ·rename_i hh;rw[D.beqL_eq hh.1,ZFw hh.2];simp only[Ze,Za,true_and]at h;obtain⟨rfl,rfl⟩:=h;exact hc
 ·cases h
theorem ZRo(A:List D)(O:List Ob)(r:D)(O':List Ob):ZSf A O r O' A O=some (true,r,O'):=if_pos ⟨D.beqL_refl A,ZEy O⟩
theorem ZL.row{P:Program}{f:FuncId}{args:List D}{OS:List Ob}{r:D}(i:Nat){fz fz':Bool}{e sz e' sz':Nat}{rs rs':List (List X)}(hc:ZL P f (Zn (YO [i]) args) [.rows fz e sz rs] r [.rows fz' e' sz' rs'])
  (ho:OS[i]? =some (.rows fz e sz rs)) (hi:JE args= [i]) (hn:Yb (fun j=>Zh j [i]) args=true) (hr: ∀f,r.ren f=r):ZL P f args OS r (OS.set i (.rows fz' e' sz' rs')):=
 ZL.lift (ZRz hc) _ _ _ _ (ZUf _ _ _ i fz e sz rs fz' e' sz' rs' true _ hi hn ho hr (ZRo _ _ _ _))
theorem ZL.new{P:Program}{f:FuncId}{args:List D}{OS os':List Ob}{r:D}(hc:ZL P f args [] r os')(hi:JE args= [])(hn: ∀p,Yb p args=true):ZL P f args OS (r.ren (fun i=>OS.length+i)) (OS++os'.map (Ob.ren (fun i=>OS.length+i))):=by
 have hren: ∀g,Zn g args=args:=fun g=>by
  have:=ZH4 (F:=fun i=>i) (g:=g) (p:=fun _=>false) (fun i h=>by cases h) args (hn _);rwa [ZHS _ (fun _=>rfl)]at this
 refine ZL.lift (h:=ZSf args [] r os') (ZRz hc) _ _ _ _ ?_;have hre:JN OS 64 (JE args) []= []:=by rw[hi];rfl
 have hf:Ja [] OS.length os'.length=fun i=>OS.length+i:=funext fun i=>by simp[Ja]
 unfold Ym;rw[hre,if_pos (by simp[Kj,hn,Kn]),hren,show YI [] OS= []from rfl,ZRo,Qu];dsimp only;rw[if_pos (show([]:List Nat).length≤os'.length from Je _)];unfold Jl;rw[hf];cases os'<;>rfl
section
variable {P:Program}
theorem ZG.mcallsX{f:FuncId}{args:List D}{r:D}{os os':List Ob}(h:ZG P f args os (fun r' os2=>r'=r∧ ∃X,os2=os'++X))(h0:os.length≤os'.length)(hO:os'.all (Ob.inP (fun i=>decide (i<os'.length)))=true)(hr:r.inP (fun i=>decide (i<os'.length))=true):ZL P f args os r os':=by
 intro c E vs R hvl;refine(h c E vs R hvl).mono ?_;rintro e w' ⟨v,E',r',os2,rfl,rfl,R',ev,hv,rfl,X,rfl⟩;have hn:(List.range os'.length).Nodup:=List.nodup_range;have hlt: ∀r∈List.range os'.length,r<(os'++X).length:=fun r hr=>by have:=ZEk.1 hr;simp;omega
 have hm:(fun i=>Zh i (List.range os'.length))=fun i=>decide (i<os'.length):=funext (ZBv _)
 have R2:=R'.pickO hn hlt (fun r hr=>by
  have h:=ZEk.1 hr;rw[ZGe,YR h,Zu h,Qe,hm];exact YQ.1 hO _ (Yl h))
 have e2:=ZJQ (ρ:=List.range os'.length) R' hlt;rw[ZNk hO]at R2 e2;refine⟨v,fpE (List.range os'.length) E',rfl,rfl,R2,?_,?_⟩
 ·refine⟨ev.st,fun id b cu ds k ho hkd hb=> ?_,fun id o sz rs ho hs=> ?_⟩
  ·have hi:=(ZR ho).1;obtain⟨cu1,ds1,k1,kd1,k2⟩:=ev.bl id b cu ds k ho hkd hb;obtain⟨cu2,ds2,k3,kd2,k4⟩:=e2.bl id b cu1 ds1 k (by rw[ZBv];exact Zc (by omega)) k1 kd1 k2;rw[ZBS (by omega)]at k3 k4;exact⟨cu2,ds2,k3,kd2,k4⟩
  ·have hi:=(ZR ho).1;obtain⟨o1,rs1,k1,k2,k3⟩:=ev.rf id o sz rs ho hs;obtain⟨o2,rs2,k4,k5,k6⟩:=e2.rf id o1 sz rs1 (by rw[ZBv];exact Zc (by omega)) k1 k2;rw[ZBS (by omega)]at k4 k6;refine⟨o2,rs2,k4,k5,?_⟩;rcases k3 with⟨k3,k3'⟩|k3<;>rcases k6 with⟨k6,k6'⟩|k6
   ·exact .inl ⟨k3.trans k6,k6'.trans k3'⟩
   ·exact .inr (by omega)
   ·exact .inr (by omega)
   ·exact .inr (by omega)
 ·have h1:V (fpE (List.range os'.length) E') os' (r'.ren (YO (List.range os'.length))) v:=hv.monoR e2 (by rw[hm];exact hr);have h2:=D.ren_ren (F:=fun i=>i) (g:=YO (List.range os'.length)) (p:=fun i=>decide (i<os'.length)) (fun j hj=>ZBS (of_decide_eq_true hj)) r' hr;rw[D.ren_id _ (fun _=>rfl)]at h2;rwa [h2]at h1
end
theorem ZD.mc{P:Program}{f:FuncId}{args:List D}{r:D}(h:ZD P f args r)(OS:List Ob)(hi:JE args= []:=by rfl)(hn: ∀p,Yb p args=true:=by intro p;rfl)(hr: ∀g,r.ren g=r:=by intro g;rfl):ZL P f args OS r OS:=by
 have h0:ZL P f args [] r []:=by
  intro c E vs R hvl;have hob:E.ob= []:=ξQ (by have:=R.len;simpa using this);obtain⟨w,st,ob⟩:=E;simp only at hob;subst hob;refine(h w st vs (fun b o h=>(R.stm b o h).1) hvl).mono ?_;rintro e w' ⟨v,st',rfl,hk,h1,h2,hv⟩;obtain⟨R',ev⟩:=R.world w' st' hk h1 h2;exact⟨v,_,rfl,rfl,R',ev,hv⟩
 have:=ZL.new (OS:=OS) h0 hi hn;rw[hr,Qv,Kg]at this;exact this
variable {P:Program} {c:Ctx} {E0:Env} {os0:List Ob} {n:Nat} {Q:Exit→List (Nat×D)→List Ob→Prop} {φ:List (Nat×D)} {os:List Ob}
def WR(P:Program)(c:Ctx)(E0:Env)(os0:List Ob)(n:Nat)(l:List IOp)(Q:Exit→List (Nat×D)→List Ob→Prop)(φ:List (Nat×D))(os:List Ob):Prop:=
 ∀(ops:Array Oper) (lo:List Oper),lo.mapM (Yc P n ops)=some l→ ∀(E:Env) (a:Act),Run c E0 os0 E os→Fr n E os φ a→
  wpList P ops (fun x a' w'=> ∃E' φ' os',E'.w=w'∧Run c E0 os0 E' os'∧Fr n E' os' φ' a'∧Q x φ' os') lo a E.w
theorem WR.reg{l:List IOp}(h:WR P c E0 os0 n l Q φ os):WI P c E0 os0 n (.reg l) Q φ os:=by
 intro code hc E a R hf;obtain⟨id,ops,rfl,h1⟩:=ZFF hc;exact wp_region_list (h ops _ h1 E a R hf)
theorem WR.regB{S:Tabs}(hS:SsOk P S)(ks:List Nat){l:List IOp}(h:YK (Zy S true φ os l) (fun φ' os'=>Q .normal (Go.Ab.keep ks φ') os')):WR P c E0 os0 n l Q φ os:=by
 intro ops lo h1 E a R hf;rw[ZEr]at h;obtain⟨ok,φ',os',h2,rfl,h3⟩:=h;obtain⟨⟨ok2,q⟩,h4,h5⟩:=ZT h2;simp at h5;obtain⟨rfl,rfl⟩:=h5;exact ZJC hS R.rel hf h1 h4 (fun E' a' R' e' f'=>⟨E',_,_,rfl,⟨R',R.evo.trans e'⟩,f'.keep ks,h3⟩)
theorem ZLf{α β:Type}(f:α→Option β): ∀(k:Nat) (lo:List α) (l:List β),lo.mapM f=some l→(lo.take k).mapM f=some (l.take k)∧(lo.drop k).mapM f=some (l.drop k)
 |0,lo,l,h=>by simpa using h
 |k+1,[],l,h=>by simp at h;subst h;simp
 |k+1,x::lo,l,h=>by
  simp only[QL,JI,Yh,Qx]at h;obtain⟨y,h1,l',h2,h3⟩:=h;cases h3;obtain⟨i1,i2⟩:=ZLf f k lo l' h2;refine⟨?_,by simpa using i2⟩;simp only[ξU,QL,h1,i1,JI,Qu,Qx]
theorem ZRI{S:Tabs}(hS:SsOk P S){ops:Array Oper}{Q:Exit→Act→World→Prop}{lo2:List Oper}: ∀ {l:List Oper} {il:List IOp} {E:Env} {os:List Ob} {φ:List (Nat×D)} {a:Act},Rel c E os→Fr n E os φ a→l.mapM (Yc P n ops)=some il→ ∀ {φ':List (Nat×D)} {os':List Ob},Jr S φ os il=some (true,φ',os')→
  (∀E' a',Rel c E' os'→Evo E os E' os'→Fr n E' os' φ' a'→wpList P ops Q lo2 a' E'.w)→wpList P ops Q (l++lo2) a E.w
 | [],il,E,os,φ,a,R,hf,hm,φ',os',h,hQ=>by
  simp at hm;subst hm;cases h;exact hQ E a R (Evo.refl _ _) hf
 |o::l,il,E,os,φ,a,R,hf,hm,φ',os',h,hQ=>by
  simp only[QL,JI,Yh,Qx]at hm;obtain⟨io,hio,il',hil,hm⟩:=hm;cases hm;simp only[Jr,Yh,Qt]at h;obtain⟨⟨ok,φ1,os1⟩,h1,⟨ok2,φ2,os2⟩,h2,h3⟩:=h;simp at h3;obtain⟨⟨rfl,rfl⟩,rfl,rfl⟩:=h3;rw[QC];refine wpList_step fun K hK=>ZMc hS R hf hio h1 (fun E1 a1 R1 e1 f1=> ?_)
  exact hK _ _ (ZRI hS R1 f1 hil h2 (fun E' a' R' e' f'=>hQ E' a' R' (e1.trans e') f'))
theorem WR.cut{S:Tabs}(hS:SsOk P S)(ks:List Nat)(k:Nat){l:List IOp}(h:YK (Zy S true φ os (l.take k)) (fun φ1 os1=> ∃φ2 os2,Wk c E0 os0 n (Go.Ab.keep ks φ1) os1 φ2 os2∧kN (fun φ2 os2=>WR P c E0 os0 n (l.drop k) Q φ2 os2) .normal φ2 os2)):WR P c E0 os0 n l Q φ os:=by
 intro ops lo h1 E a R hf;rw[ZEr]at h;obtain⟨ok,φ',os',h2,rfl,φ2,os2,hw,h3⟩:=h;obtain⟨⟨ok2,q⟩,h4,h5⟩:=ZT h2;simp at h5;obtain⟨rfl,rfl⟩:=h5;obtain⟨i1,i2⟩:=ZLf _ k lo l h1;rw[←ZCn k lo];refine ZRI hS R.rel hf i1 h4 (fun E' a' R' e' f'=> ?_);obtain⟨E2,hE,R2,f2⟩:=hw E' a' ⟨R',R.evo.trans e'⟩ (f'.keep ks);rw[←hE];exact h3 ops _ i2 E2 a' R2 f2
theorem WI.cutA{S:Tabs}(hS:SsOk P S)(ks:List Nat)(k:Nat){l:List IOp}(h:YK (Zy S true φ os (l.take k)) (fun φ1 os1=> ∃φ2 os2,Wk c E0 os0 n (Go.Ab.keep ks φ1) os1 φ2 os2∧kN (fun φ2 os2=>WR P c E0 os0 n (l.drop k) Q φ2 os2) .normal φ2 os2)):WI P c E0 os0 n (.reg l) Q φ os:=
 WR.reg (WR.cut hS ks k h)
def X.nn0:X→X
 | .nils=> .sl []
 |x=>x
theorem VX.nn0{w:World}{st:Nat→Nat→Prop}{x:X}{v:Value}(h:VX w st x v):VX w st x.nn0 v:=by
 unfold X.nn0;split
 ·exact h.nn
 ·exact h
def D.nn1:D→D
 | .x (.sl rs)=> .x (.sl (rs.map (List.map X.nn0)))
 |d=>d
theorem V.nn1{E:Env}{os:List Ob}{d:D}{v:Value}(h:V E os d v):V E os d.nn1 v:=by
 unfold D.nn1;split
 ·cases h with
  |x h=>
  cases h with
  |sl _ a n c sz val hn hc hm hsz hcell hnil hsp hval=>
   refine .x (.sl _ a n c sz val (by simpa using hn) hc hm (fun r hr=> ?_) hcell hnil hsp (fun i j r x hr hx=> ?_))
   ·obtain⟨r0,h0,rfl⟩:=YW.1 hr;rw[Yf];exact hsz r0 h0
   ·rw[Zw]at hr;obtain⟨r0,h0,rfl⟩:=ZT hr;rw[Zw]at hx;obtain⟨x0,hx0,rfl⟩:=ZT hx;exact(hval i j r0 x0 h0 hx0).nn0
 ·exact h
def ZLO(φ:List (Nat×D)):List (Nat×D):=φ.map fun p=>(p.1,p.2.nn1)
theorem ZaG(φ:List (Nat×D))(t:Nat):get (ZLO φ) t=(get φ t).nn1:=by
 induction φ with
 |nil=>rfl
 |cons p φ ih=>
  obtain⟨u,d⟩:=p;simp only[ZLO,YL,get];split
  ·rfl
  ·exact ih
theorem Wk.nn1:Wk c E0 os0 n φ os (ZLO φ) os:=fun E a R hf=>⟨E,rfl,R,hf.size,hf.defers,fun t=>by rw[ZaG];exact(hf.slot t).nn1⟩
theorem ZeW{φ':List (Nat×D)}(h: ∃φ2 os2,Wk c E0 os0 n φ' os φ2 os2∧Q .normal φ2 os2)(hp:ZLO φ=φ':=by simp only[ZLO,D.nn1,X.nn0,YL,Qv];rfl): ∃φ2 os2,Wk c E0 os0 n φ os φ2 os2∧Q .normal φ2 os2:=by
 obtain⟨φ2,os2,h1,h2⟩:=h;subst hp;exact⟨φ2,os2,Wk.nn1.trans h1,h2⟩
def GP(P:Program)(f:FuncId):Option IFn:=((P.funcs[f]?).filter fun fn=> !(fn.name== "runtime.NumGoroutine")).bind (ZEM P)
theorem ZLn(P:Program):GOk P (GP P):=by
 intro f p h;obtain⟨fn,h1,h2⟩:=Zv h;obtain⟨h3,h4⟩:=Option.filter_eq_some_iff.1 h1;exact⟨fn,h3,by simpa using h4,h2⟩
theorem ZZ{P:Program}(f:FuncId)(h:(GP P f).isSome=true:=by kernel_rfl):Enters P f:=by
 obtain⟨p,hp⟩:=Option.isSome_iff_exists.1 h;exact ZX7 (ZLn P) hp
def FG(P:Program)(fz:Bool)(args:List D)(os:List Ob)(Post:D→List Ob→Prop):Option IFn→Prop
 |some p=>args.length≤p.n∧ ∀(c:Ctx) (E0:Env),WI P c E0 os p.n p.body (fun x φ' os'=>(x= .normal∨x= .ret)∧ ∃ds os2,Jt fz (fun _ _=>none) φ' os' p.res=some (true,ds,os2)∧Post (Qj ds) os2) (ZBX 0 args) os
 |none=>False
theorem FG.mk{P:Program}{fz:Bool}{args:List D}{os:List Ob}{Post:D→List Ob→Prop}{p:IFn}(h: ∀(c:Ctx) (E0:Env),WI P c E0 os p.n p.body (fun x φ' os'=>(x= .normal∨x= .ret)∧ ∃ds os2,Jt fz (fun _ _=>none) φ' os' p.res=some (true,ds,os2)∧Post (Qj ds) os2) (ZBX 0 args) os)(h1:args.length≤p.n:=by exact ξ rfl):FG P fz args os Post (some p):=⟨h1,h⟩
theorem FG.calls{P:Program}{fz:Bool}{f:FuncId}{args:List D}{os:List Ob}{Post:D→List Ob→Prop}(h:FG P fz args os Post (GP P f)):ZG P f args os Post:=by
 rcases hp:GP P f with _|p
 ·rw[hp]at h;exact h.elim
 ·rw[hp]at h;exact Zah (ZLn P) hp args h.1 os h.2
theorem u8L(n:Nat)(h:n<2^8):UInt8.ofBitVec (BitVec.ofFin (Fin.mk n h))=UInt8.ofNatLT n h:=rfl
theorem fC{P:Program}{os:List Ob}{args:List D}{A:Prop}(f:FuncId)(z:Bool){Post:D→List Ob→Prop}(h:A)(k:Bx A→FG P z args os Post (GP P f):=by(intro h;(conv=>arg 6;reduce);refine FG.mk ?_;dsimp only[Int.reduceOfNat,Int.reduceNegSucc,u8L,UInt8.reduceOfNatLT,ZBX];exact h.h)):ZG P f args os Post:=FG.calls (k ⟨h⟩)
theorem evP{P:Program}(m:Nat)(f:FuncId){S0:Tabs}(h0:SsOk P S0)(nq:List FuncId){args:List D}{r:D}(h:((GP P f).bind fun p=>(ZEw true (ev S0 nq (GP P) m) p args []).map (·.1))=some r:=by kernel_rfl)(hcl:r.clean=true:=by rfl):ZD P f args r:=by
 obtain⟨p,hp,h⟩:=Zv h;exact ZSy (ZLn P) m hp h0 nq h hcl
section
variable {P:Program} {c:Ctx} {E0:Env} {os0 os:List Ob} {n:Nat} {Q:Exit→List (Nat×D)→List Ob→Prop} {φ:List (Nat×D)}
theorem ZRT{S:Tabs}(hS:SsOk P S){ops:Array Oper}{Q:Exit→Act→World→Prop}{g:FuncId}{caps:List D}(hen:Enters P g){dst:Option Nat}{f:IO}{xs:List IO}{il2:List IOp}{K:List (Nat×D)→List Ob→Prop}{Post:D→List Ob→Prop}{φ1:List (Nat×D)}{os1:List Ob}
  (hv:(ZC φ1 f).val= .fn g caps) (c1:(ZC φ1 f).cond=true) (c2:(xs.all fun y=>(ZC φ1 y).cond)=true) (hpc:ZG P g ((xs.map fun y=>(ZC φ1 y).val)++caps) os1 Post)
  (h2: ∀r os2,Post r os2→ ∃φ' os',Jr S (putO φ1 dst r) os2 il2=some (true,φ',os')∧K φ' os'):
  ∀ {il1:List IOp} {l:List Oper} {E:Env} {os:List Ob} {φ:List (Nat×D)} {a:Act},Rel c E os→Fr n E os φ a→l.mapM (Yc P n ops)=some (il1++⟨dst,.call f xs,none⟩::il2)→Jr S φ os il1=some (true,φ1,os1)→
  (∀E' a' φ' os',K φ' os'→Rel c E' os'→Evo E os E' os'→Fr n E' os' φ' a'→Q .normal a' E'.w)→wpList P ops Q l a E.w
 |il1,[],E,os,φ,a,R,hf,hm,h1,hQ=>by
  cases il1<;>simp at hm
 | [],o::l,E,os,φ,a,R,hf,hm,h1,hQ=>by
  cases h1;simp only[QL,JI,Yh,Qx]at hm;obtain⟨io,hio,il',hil,hm⟩:=hm;simp only[Qw,Ze,ZGf]at hm;obtain⟨rfl,rfl⟩:=hm;simp only[Yc,Yh]at hio;obtain⟨e,he,hio⟩:=hio;split at hio
  ·rename_i hdst;split at hio
   ·rename_i hg;simp only[Ze,IOp.mk.injEq,and_true]at hio;obtain⟨rfl,rfl⟩:=hio;refine wpList_step fun K' hK'=> ?_
    simp only[Region.wanted,hg,if_true];refine ZEY hf he hv c1 (YQ.1 c2) hen (fun vs hvl=>(hpc c E vs R hvl).mono ?_);rintro e w' ⟨v,E',r,os2,rfl,rfl,R',ev,hvv,hpost⟩;obtain⟨φ',os',k1,k2⟩:=h2 r os2 hpost;exact⟨v,rfl,hK' _ _ (ZJC hS R' ((hf.mono ev).putO hdst hvv) hil k1 (fun E2 a2 R2 e2 f2=>hQ E2 a2 φ' os' k2 R2 (ev.trans e2) f2))⟩
   ·obtain⟨s,_,hio⟩:=ZT hio;cases hio
  ·cases hio
 |io::il1,o::l,E,os,φ,a,R,hf,hm,h1,hQ=>by
  simp only[QL,JI,Yh,Qx]at hm;obtain⟨io',hio,il',hil,hm⟩:=hm;simp only[QC,Ze,ZGf]at hm;obtain⟨rfl,rfl⟩:=hm;simp only[Jr,Yh,Qt]at h1;obtain⟨⟨ok,φ3,os3⟩,h3,⟨ok2,φ4,os4⟩,h4,h5⟩:=h1;simp at h5;obtain⟨⟨rfl,rfl⟩,rfl,rfl⟩:=h5;refine wpList_step fun K' hK'=>ZMc hS R hf hio h3 (fun E1 a1 R1 e1 f1=> ?_)
  exact hK' _ _ (ZRT hS hen hv c1 c2 hpc h2 R1 f1 hil h4 (fun E' a' φ' os' k R' e' f'=>hQ E' a' φ' os' k R' (e1.trans e') f'))
theorem WI.regF{S:Tabs}(hS:SsOk P S)(k:Nat){l:List IOp}{dst:Option Nat}{f:IO}{xs:List IO}{g:FuncId}{caps:List D}{φ1:List (Nat×D)}{os1:List Ob}{Post:D→List Ob→Prop}(hk:l[k]? =some ⟨dst,.call f xs,none⟩)(h1:Jr S φ os (l.take k)=some (true,φ1,os1))(hen:Enters P g)
  (hv:(ZC φ1 f).val= .fn g caps) (c1:(ZC φ1 f).cond=true) (c2:(xs.all fun y=>(ZC φ1 y).cond)=true) (hpc:ZG P g ((xs.map fun y=>(ZC φ1 y).val)++caps) os1 Post)
  (h2: ∀r os2,Post r os2→ ∃φ' os',Jr S (putO φ1 dst r) os2 (l.drop (k+1))=some (true,φ',os')∧Q .normal φ' os'):WI P c E0 os0 n (.reg l) Q φ os:=by
 intro code hc E a R hf;obtain⟨id,ops,rfl,h3⟩:=ZFF hc;have hl:l=l.take k++⟨dst,.call f xs,none⟩::l.drop (k+1):=by
  obtain⟨hlt,hk⟩:=ZR hk;rw[←hk,←ZFd hlt,ZCn]
 rw[hl]at h3;exact wp_region_list (ZRT hS hen hv c1 c2 hpc h2 R.rel hf h3 h1 (fun E' a' φ' os' k R' e' f'=>⟨E',φ',os',rfl,⟨R',R.evo.trans e'⟩,f',k⟩))
def ZYF:Nat→IC→IC
 |0,ic=>ic
 |k+1,.seq _ b=>ZYF k b
 |_+1,ic=>ic
def evSeq(S:Tabs)(nq:List FuncId)(G:FuncId→Option IFn)(m:Nat):Nat→IC→List (Nat×D)→List Ob→Option (List (Nat×D)×List Ob)
 |0,_,φ,os=>some (φ,os)
 |k+1,.seq a b,φ,os=>match ev S nq G m a φ os with
  |some (.normal,φ',os')=>evSeq S nq G m k b φ' os'
  |_=>none
 |_+1,_,_,_=>none
theorem WI.evSeq{S:Tabs}(hS:SsOk P S)(nq:List FuncId){G:FuncId→Option IFn}(hG:GOk P G)(m:Nat): ∀(k:Nat) {ic:IC} {φ os φ' os'},Go.Ab.evSeq S nq G m k ic φ os=some (φ',os')→WI P c E0 os0 n (ZYF k ic) Q φ' os'→WI P c E0 os0 n ic Q φ os
 |0,ic,φ,os,φ',os',h,hq=>by cases h;exact hq
 |k+1,.seq a b,φ,os,φ',os',h,hq=>by
  simp only[Go.Ab.evSeq]at h;split at h
  ·rename_i φ1 os1 h1;refine WI.seq (WI.mono ((ZTA hS hG m).1 _ _ _ _ _ _ h1 c E0 os0 n) ?_);rintro e φ2 os2 ⟨rfl,rfl,rfl⟩;exact WI.evSeq hS nq hG m k h hq
  ·cases h
 |k+1,.skip,_,_,_,_,h,_=>by cases h
 |k+1,.reg _,_,_,_,_,h,_=>by cases h
 |k+1,.dreg _ _ _ _ _,_,_,_,_,h,_=>by cases h
 |k+1,.cond _ _ _,_,_,_,_,h,_=>by cases h
 |k+1,.block _ _,_,_,_,_,h,_=>by cases h
 |k+1,.loop _,_,_,_,_,h,_=>by cases h
 |k+1,.exit _,_,_,_,_,h,_=>by cases h
 |k+1,.ret,_,_,_,_,h,_=>by cases h
 |k+1,.label _,_,_,_,_,h,_=>by cases h
 |k+1,.goto _,_,_,_,_,h,_=>by cases h
 |k+1,.scope _ _,_,_,_,_,h,_=>by cases h
 |k+1,.dead,_,_,_,_,h,_=>by cases h
theorem WI.evE{S:Tabs}(hS:SsOk P S)(nq:List FuncId){G:FuncId→Option IFn}(hG:GOk P G)(m:Nat){ic:IC}{x:Exit}{φ':List (Nat×D)}{os':List Ob}(h:ev S nq G m ic φ os=some (x,φ',os'))(hq:Q x φ' os'):WI P c E0 os0 n ic Q φ os:=by
 refine WI.mono ((ZTA hS hG m).1 _ _ _ _ _ _ h c E0 os0 n) ?_;rintro e φ2 os2 ⟨rfl,rfl,rfl⟩;exact hq
end
def ptK(S:Tabs)(f:FuncId)(A:List D)(O:List Ob)(r:Nat→D)(ob:Ob):Tabs:=⟨S.q,S.t,S.r,fun f' args os=>if f'=f∧D.beqL args A=true∧ZEA os O=true then some (true,r,ob)else S.k f' args os⟩
theorem ZWH{P:Program}{S:Tabs}(hS:SsOk P S){f:FuncId}{A:List D}{O:List Ob}{r:Nat→D}{ob:Ob}(he:Enters P f)(hm:ZBQ P f A O r ob):SsOk P (ptK S f A O r ob):=by
 refine⟨hS.q,hS.t,hS.r,fun f' args os r' ob' h=> ?_⟩;simp only[ptK]at h;split at h
 ·rename_i hh;obtain⟨rfl,h2,h3⟩:=hh;rw[D.beqL_eq h2,ZFw h3];simp only[Ze,Za,true_and]at h;obtain⟨rfl,rfl⟩:=h;exact⟨he,hm⟩
 ·exact hS.k f' args os r' ob' h
theorem ZdH(S:Tabs)(f:FuncId)(A:List D)(O:List Ob)(r:Nat→D)(ob:Ob):(ptK S f A O r ob).k f A O=some (true,r,ob):=if_pos ⟨rfl,D.beqL_refl A,ZEy O⟩
theorem Zdd(S:Tabs)(f:FuncId)(A:List D)(O:List Ob)(r:Nat→D)(ob:Ob):(ptK S f A O r ob).q=S.q:=rfl
theorem ZdP(S:Tabs)(f:FuncId)(A:List D)(O:List Ob)(r:Nat→D)(ob:Ob):(ptK S f A O r ob).r=S.r:=rfl
theorem Zda(S:Tabs)(f:FuncId)(A:List D)(O:List Ob)(r:Nat→D)(ob:Ob):(ptK S f A O r ob).t=S.t:=rfl
end Go.Ab
end
