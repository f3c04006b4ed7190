import Derived.Test.YtiogclkbccdefaaGreatDoorLA4
import Derived.Test.YtiogclkbccdefaaGreatDoorLA1
import Derived.LoopN
import Derived.Lib.SlKeysI
set_option linter.unusedSimpArgs false
set_option linter.unusedVariables false
set_option maxRecDepth 100000
section
namespace Go.Ab
open Go.RowKit Go.Bo
structure RC (α:Type) where
 n:Nat
 enc:α→List X
 dec:List X→Option α
structure RC.Good {α:Type} (c:RC α):Prop where
 len: ∀a,(c.enc a).length=c.n
 de: ∀a,c.dec (c.enc a)=some a
 ed: ∀r a,c.dec r=some a→c.enc a=r
def ZAc(k:IntKind):RC Int:=⟨1,fun x=> [.int k x],fun| [.int k' x]=>if k'=k then some x else none|_=>none⟩
def ZB:RC (List UInt8):=⟨1,fun s=> [.str s],fun| [.str s]=>some s|_=>none⟩
def ZKV:RC Bool:=⟨1,fun s=> [.bool s],fun| [.bool s]=>some s|_=>none⟩
def QY:RC Unit:=⟨0,fun _=> [],fun| []=>some ()|_=>none⟩
def Yl{α β:Type}(c:RC α)(d:RC β):RC (α×β):=⟨c.n+d.n,fun p=>c.enc p.1++d.enc p.2,fun r=>(c.dec (r.take c.n)).bind fun a=>(d.dec (r.drop c.n)).map fun b=>(a,b)⟩
def Zbl{α β:Type}(c:RC α)(f:β→α)(g:α→β):RC β:=⟨c.n,fun b=>c.enc (f b),fun r=>(c.dec r).map g⟩
def rows{α:Type}(c:RC α)(l:List α):List (List X):=l.map c.enc
def ZZ{α:Type}(c:RC α)(rs:List (List X)):Option (List α):=rs.mapM c.dec
def rSl{α:Type}(c:RC α):RC (List α):=⟨1,fun l=> [.sl (rows c l)],fun| [.sl rs]=>ZZ c rs|_=>none⟩
theorem ZBk{α β:Type}{f:α→Option β}: ∀ {l:List α} {m:List β},l.mapM f=some m↔l.length=m.length∧ ∀(i:Nat) (h:i<l.length) (h':i<m.length),f l[i]=some m[i]
 | [],m=>by
  cases m<;>simp
 |x::l,m=>by
  simp only[Ku,Yt,YT,QZ,Za];constructor
  ·rintro⟨y,hy,ys,hys,rfl⟩;obtain⟨h1,h2⟩:=ZBk.1 hys;refine⟨by simp[h1],fun i h h'=> ?_⟩;cases i with
   |zero=>exact hy
   |succ i=>simpa using h2 i (by simpa using h) (by simpa using h')
  ·rintro⟨h1,h2⟩;cases m with
   |nil=>simp at h1
   |cons y ys=>
    refine⟨y,h2 0 (by simp) (by simp),ys,ZBk.2 ⟨by simpa using h1,fun i h h'=> ?_⟩,rfl⟩;exact h2 (i+1) (by simp;omega) (by simp;omega)
section
variable {α β:Type} {c:RC α} {d:RC β}
theorem YC(c:RC α)(l:List α):(rows c l).length=l.length:=by simp[rows]
theorem ZN6(c:RC α)(l:List α)(i:Nat)(h:i<l.length):(rows c l)[i]? =some (c.enc l[i]):=by simp[rows,h]
theorem Qz(c:RC α)(l:List α)(k:Nat):(rows c l).drop k=rows c (l.drop k):=by simp[rows]
theorem Qv(c:RC α)(l:List α)(k:Nat):(rows c l).take k=rows c (l.take k):=by simp[rows]
theorem ZAF(c:RC α)(l m:List α):rows c l++rows c m=rows c (l++m):=by simp[rows]
theorem ZET(h:c.Good)(l:List α)(sz:Nat)(hs:c.n=sz):((rows c l).all fun r=>decide (r.length=sz))=true:=by
 subst hs;rw[YK];intro r hr;obtain⟨a,_,rfl⟩:=YQ.1 hr;simp[h.len]
theorem Zv(h:c.Good)(l:List α):ZZ c (rows c l)=some l:=by
 unfold ZZ;rw[ZBk];exact⟨by simp[rows],fun i h1 h2=>by simp[rows,h.de]⟩
theorem ZY(h:c.Good){rs:List (List X)}{l:List α}(hu:ZZ c rs=some l):rows c l=rs:=by
 unfold ZZ at hu;rw[ZBk]at hu;refine List.ext_getElem (by simp[rows,hu.1]) (fun i h1 h2=> ?_);have:=hu.2 i h2 (by simpa[rows]using h1);simpa[rows]using h.ed _ _ this
theorem ZPH(k:IntKind)(n:Int):(ZAc k).enc n= [.int k n]:=rfl
theorem ZPL(s:List UInt8):ZB.enc s= [.str s]:=rfl
theorem ZL4(b:Bool):ZKV.enc b= [.bool b]:=rfl
theorem ZOJ(u:Unit):QY.enc u= []:=rfl
theorem ZQJ(c:RC α)(l:List α):(rSl c).enc l= [.sl (rows c l)]:=rfl
theorem ZO5(c:RC α)(d:RC β)(p:α×β):(Yl c d).enc p=c.enc p.1++d.enc p.2:=rfl
theorem ZNb(c:RC α)(f:β→α)(g:α→β)(b:β):(Zbl c f g).enc b=c.enc (f b):=rfl
theorem Qx(k:IntKind):(ZAc k).Good:=⟨fun _=>rfl,fun a=>by simp[ZAc],fun r a h=>by
 simp only[ZAc]at h⊢;split at h
 ·split at h
  ·rename_i hk;cases h;rw[hk]
  ·cases h
 ·cases h⟩
theorem ZO:ZB.Good:=⟨fun _=>rfl,fun a=>rfl,fun r a h=>by
 simp only[ZB]at h⊢;split at h
 ·cases h;rfl
 ·cases h⟩
theorem ZQ6:ZKV.Good:=⟨fun _=>rfl,fun a=>rfl,fun r a h=>by
 simp only[ZKV]at h⊢;split at h
 ·cases h;rfl
 ·cases h⟩
theorem ZB8:QY.Good:=⟨fun _=>rfl,fun a=>rfl,fun r a h=>by
 simp only[QY]at h⊢;split at h
 ·rfl
 ·cases h⟩
theorem Yk(hc:c.Good)(hd:d.Good):(Yl c d).Good:=⟨fun p=>by simp[Yl,hc.len,hd.len],fun p=>by
  have h1:(c.enc p.1++d.enc p.2).take c.n=c.enc p.1:=by rw[ZJb (by rw[hc.len];exact Zh _),Yp (by rw[hc.len];exact Zh _)]
  have h2:(c.enc p.1++d.enc p.2).drop c.n=d.enc p.2:=by rw[←hc.len p.1];exact List.drop_left
  simp[Yl,h1,h2,hc.de,hd.de],fun r p h=>by
  simp only[Yl,YT,Ky]at h;obtain⟨a,h1,b,h2,rfl⟩:=h;simp only[Yl,hc.ed _ _ h1,hd.ed _ _ h2,ZDX]⟩
theorem ZCi(hc:c.Good):(rSl c).Good:=⟨fun _=>rfl,fun l=>Zv hc l,fun r l h=>by
 simp only[rSl]at h⊢;split at h
 ·rw[ZY hc h]
 ·cases h⟩
end
mutual
def X.wf:X→Prop
 | .sl rs=>rs.length≤maxLen∧X.wfR rs
 | .int _ _=>True
 | .bool _=>True
 | .str _=>True
 | .nilp=>True
 | .nils=>True
def X.wfR:List (List X)→Prop
 | []=>True
 |r::l=>X.wfL r∧X.wfR l
def X.wfL:List X→Prop
 | []=>True
 |x::l=>x.wf∧X.wfL l
end
theorem X.wfL_iff: ∀ {l:List X},X.wfL l↔ ∀x∈l,x.wf
 | []=>by simp[X.wfL]
 |x::l=>by simp[X.wfL,X.wfL_iff (l:=l)]
theorem X.wfR_iff: ∀ {rs:List (List X)},X.wfR rs↔ ∀r∈rs,X.wfL r
 | []=>by simp[X.wfR]
 |r::l=>by simp[X.wfR,X.wfR_iff (rs:=l)]
theorem VX.wf{w:World}{st:Nat→Nat→Prop}{x:X}{v:Value}(h:VX w st x v):x.wf:=by
 induction h with
 |sl rs a n c sz val hn hc hm hsz hcell hnil hsp hval ih=>
  refine⟨by omega,X.wfR_iff.2 (fun r hr=>X.wfL_iff.2 (fun x hx=> ?_))⟩;obtain⟨i,hi⟩:=ZCl.1 hr;obtain⟨j,hj⟩:=ZCl.1 hx;exact ih i j r x hi hj
 |_=>trivial
section
variable {P:Program}
theorem ZC.wf{f:FuncId}{args:List D}{r:D}(h:(∀x,D.x x∈args→x.wf)→ZC P f args r):ZC P f args r:=by
 intro w st vs hst hvl;refine h (fun x hx=> ?_) w st vs hst hvl;obtain⟨j,hj⟩:=ZCl.1 hx;have hl:=(ZP hj).1;have hv:vs[j]? =some (vs[j]'(by rw[←hvl.1];exact hl)):=ξJ _;exact(hvl.2 j _ _ hj hv).xx.wf
theorem WI.wf{c:Ctx}{E0:Env}{os0 os:List Ob}{n:Nat}{Q:Exit→List (Nat×D)→List Ob→Prop}{φ:List (Nat×D)}{ic:IC}(t:Nat){x:X}(ht:get φ t= .x x)(h:x.wf→WI P c E0 os0 n ic Q φ os):WI P c E0 os0 n ic Q φ os:=by
 intro code hc E a R hf;have:=hf.slot t;rw[ht]at this;exact h this.xx.wf code hc E a R hf
mutual
def X.ok:X→Prop
 | .sl rs=>rs.length≤maxLen∧X.okR rs
 | .int k n=>(Lit.int k n).wf=true
 | .bool _=>True
 | .str s=>s.length≤maxLen
 | .nilp=>True
 | .nils=>True
def X.okR:List (List X)→Prop
 | []=>True
 |r::l=>X.okL r∧X.okR l
def X.okL:List X→Prop
 | []=>True
 |x::l=>x.ok∧X.okL l
end
theorem X.okL_iff: ∀ {l:List X},X.okL l↔ ∀x∈l,x.ok
 | []=>by simp[X.okL]
 |x::l=>by simp[X.okL,X.okL_iff (l:=l)]
theorem X.okR_iff: ∀ {rs:List (List X)},X.okR rs↔ ∀r∈rs,X.okL r
 | []=>by simp[X.okR]
 |r::l=>by simp[X.okR,X.okR_iff (rs:=l)]
theorem X.okL_append{l m:List X}:X.okL (l++m)↔X.okL l∧X.okL m:=by
 simp only[X.okL_iff,KN];exact⟨fun h=>⟨fun x hx=>h x (.inl hx),fun x hx=>h x (.inr hx)⟩,fun h x hx=>hx.elim (h.1 x) (h.2 x)⟩
def QK(w:World)(xs:List X)(cs:List Value):Prop:=cs.length=xs.length∧ ∀(j:Nat) (x:X) (v:Value),xs[j]? =some x→cs[j]? =some v→VX w (fun b _=>b<w.heap.size) x v
def ZEz(P:Program)(T:TypeId){α:Type}(c:RC α):Prop:=
 P.cellsOf T=c.n∧ ∀ {H:Type} (enc:TypeId×Value→H) (w:World) (fuel:Nat) (cs:List Value) (x:DataW H×List MemPlace),DataW.trod enc P w 0 (fun _=>true) true fuel T cs=some x→ ∃y,QK w (c.enc y) cs∧X.okL (c.enc y)
theorem QK.one{w:World}{x:X}{v:Value}(h:VX w (fun b _=>b<w.heap.size) x v):QK w [x] [v]:=⟨rfl,fun j y u h1 h2=>by
 cases j with
 |zero=>simp at h1 h2;subst h1;subst h2;exact h
 |succ j=>simp at h1⟩
variable {T:TypeId}
theorem ZUD{k:IntKind}(hT:P.underlying T=some (.int k))(hc:P.cellsOf T=1):ZEz P T (ZAc k):=
 ⟨hc,fun _ _ _ _ _ h=>let⟨n,h1,_,h3⟩:=DataW.trod_int hT h;⟨n,by rw[h1];exact QK.one (.int k n),h3,trivial⟩⟩
theorem ZX2(s:ByteArray):ZK s.toList=s:=by
 apply ByteArray.ext;apply Array.ext';rw[ByteArray.toList_eq];simp[ZK]
theorem ZHe(hT:P.underlying T=some .string)(hc:P.cellsOf T=1):ZEz P T ZB:=by
 refine⟨hc,fun {H} enc w fuel cs x h=> ?_⟩;obtain⟨s,rfl,_,h3⟩:=DataW.trod_string hT h;have h4:VX w (fun b _=>b<w.heap.size) (.str s.toList) (.string (ZK s.toList)):= .str _;rw[ZX2]at h4;refine⟨s.toList,QK.one h4,?_,trivial⟩;show s.toList.length≤maxLen;rw[ByteArray.toList_eq];simpa using h3
def ZLe(P:Program)(fuel:Nat)(T:TypeId){α:Type}(c:RC α):Prop:= ∀ {H:Type} (enc:TypeId×Value→H) (w:World) (cs:List Value) (x:DataW H×List MemPlace),DataW.trod enc P w 0 (fun _=>true) true fuel T cs=some x→ ∃y,QK w (c.enc y) cs∧X.okL (c.enc y)
theorem ZEz.at'{α:Type}{c:RC α}(h:ZEz P T c)(n:Nat):ZLe P n T c:=fun enc w cs x hx=>h.2 enc w n cs x hx
theorem ZRW{α:Type}{c:RC α}{e:TypeId}{fuel:Nat}(hG:c.Good)(hT:P.underlying T=some (.slice e))(hce:P.cellsOf e=c.n)(he: ∀n,n<fuel→ZLe P n e c)(h0:0<c.n):ZLe P fuel T (rSl c):=by
 intro H enc w cs x h;rcases DataW.trod_slice hT h with⟨rfl,_⟩|⟨a,len,cap,elems,rest,n,hfuel,rfl,_,_,hl,hm,hlen,hel,hsp,_⟩
 ·exact⟨[],QK.one (VX.nn .nils),⟨JA _,trivial⟩,trivial⟩
 ·have key: ∀i,i<len→ ∃(y:α) (cs':List Value),QK w (c.enc y) cs'∧X.okL (c.enc y)∧ ∀j,j<c.n→w.cell? (a.add (i*c.n+j))=cs'[j]? :=by
   intro i hi;have h1:=hel i hi;rw[Zl (by omega)]at h1;obtain⟨cs',h2,h3⟩:=Zt h1;obtain⟨y,hy,hy2⟩:=he n (by omega) enc w cs' _ h3;obtain⟨_,hcl,hcc⟩:=World.cells?_some h2;rw[hce]at hcl hcc;refine⟨y,cs',hy,hy2,fun j hj=> ?_⟩;rw[←hcc j hj];congr 1;unfold Addr.add;by_cases h4:i*c.n=0<;>by_cases h5:j=0<;>simp[h4,h5,ZFS]
  have spot:0<cap→a.spot=none:=by
   intro hcap;have one: ∀(z:DataW H×List MemPlace),(w.cells? 0 (a.add (0*P.cellsOf e)) (P.cellsOf e)).bind (DataW.trod enc P w 0 (fun _=>true) true n e)=some z→a.spot=none:=by
    intro z hz;obtain⟨cs',h2,h3⟩:=Zt hz;obtain⟨_,hcl,hcc⟩:=World.cells?_some h2;rw[hce]at hcl hcc;have h5:=hcc 0 h0;rw[Zl (by omega)]at h5;have:=World.cell?_spot h5;simpa[Addr.add]using this
   by_cases hz:0<len
   ·have h1:=hel 0 hz;rw[Zl (by omega)]at h1;exact one _ h1
   ·obtain⟨r1,r2⟩:=hsp rfl;have h1:=r2 0 (by omega);rw[Zl (by omega),show len+0=0 by omega]at h1;exact one _ h1
  classical
  by_cases hz:len=0
  ·subst hz;refine⟨[],QK.one (.sl [] (some a) 0 cap 0 (fun _ _=>undef) rfl (JA _) hm (fun r hr=>by cases hr) (fun i j hi=>by omega) (fun h=>by cases h) (fun hc ad had=> ?_) (fun i j r x hr=>by simp at hr)),⟨JA _,trivial⟩,trivial⟩;cases had;exact spot hc
  ·have hne:Nonempty α:=let⟨y,_⟩:=key 0 (by omega);⟨y⟩
   let f:Nat→α:=fun i=>if hi:i<len then Classical.choose (key i hi)else Classical.choice hne
   have hsp0:=spot (by omega);obtain⟨b,off,sp⟩:=a;simp only at hsp0;subst hsp0
   let V':Nat→Nat→Value:=fun i j=>if hi:i<len then(Classical.choose (ZQ8 (key i hi))).getD j undef else undef
   have hf: ∀i (hi:i<len),∃cs',QK w (c.enc (f i)) cs'∧X.okL (c.enc (f i))∧(∀j,j<c.n→w.cell? ⟨b,off+i*c.n+j,none⟩=cs'[j]?)∧ ∀j,V' i j=cs'.getD j undef:=by
    intro i hi;obtain⟨h1,h2,h3⟩:=ZQ8 (ZQ8 (key i hi));refine⟨_,by simpa only[f,dif_pos hi]using h1,by simpa only[f,dif_pos hi]using h2,fun j hj=> ?_,fun j=>by simp only[V',dif_pos hi]⟩;rw[←h3 j hj];congr 1;rw[YM];simp only[ZFS]
   have hgl:((List.range len).map f).length=len:=by simp
   have hgi: ∀(i:Nat) (r:List X),(rows c ((List.range len).map f))[i]? =some r→i<len∧r=c.enc (f i):=by
    intro i r hr;simp only[rows,Zr,Ky]at hr;obtain⟨y,⟨k,hk,rfl⟩,rfl⟩:=hr;have hk1:=(ZP hk).1;simp only[List.length_range]at hk1;rw[ZLA hk1]at hk;cases hk;exact⟨hk1,rfl⟩
   refine⟨(List.range len).map f,QK.one (.sl _ (some ⟨b,off,none⟩) len cap c.n V' (by rw[YC,hgl]) hl hm (fun r hr=> ?_) (fun i j hi hj=> ?_) (fun h=>by cases h) (fun _ ad had=>by cases had;rfl) (fun i j r x hr hx=> ?_)),⟨by rw[YC,hgl];omega,X.okR_iff.2 (fun r hr=> ?_)⟩,trivial⟩
   ·obtain⟨y,_,rfl⟩:=YQ.1 hr;exact hG.len _
   ·obtain⟨cs',h1,h2,h3,h4⟩:=hf i hi;have hlc:cs'.length=c.n:=by rw[h1.1,hG.len]
    have h5:=h3 j hj;rw[Zl (by omega)]at h5;refine⟨b,off,rfl,World.block_lt_of_cell? _ _ h5,?_⟩;rw[h5,h4];simp[List.getD,hlc,hj]
   ·obtain⟨hi,rfl⟩:=hgi i r hr;obtain⟨cs',h1,h2,h3,h4⟩:=hf i hi;have hj:=(ZP hx).1;have hlc:cs'.length=c.n:=by rw[h1.1,hG.len]
    rw[hG.len]at hj;rw[h4];have h5:cs'[j]? =some (cs'[j]'(by omega)):=Zl _;simp only[List.getD,h5,QG];exact h1.2 j x _ hx h5
   ·obtain⟨i,hi⟩:=ZCl.1 hr;obtain⟨hi2,rfl⟩:=hgi i r hi;obtain⟨cs',h1,h2,h3,h4⟩:=hf i hi2;exact h2
theorem ZNK{α:Type}{c:RC α}{e:TypeId}(hG:c.Good)(hT:P.underlying T=some (.slice e))(hc:P.cellsOf T=1)(he:ZEz P e c)(h0:0<c.n):ZEz P T (rSl c):=
 ⟨hc,fun enc w fuel cs x h=>ZRW (fuel:=fuel) hG hT he.1 (fun n _=>he.at' n) h0 enc w cs x h⟩
def ZHA(g:List D→Option (Bool×D))(args:List D):Option (Bool×D):=g (args.map D.na)
def ZEV(g:List D→List Ob→Option (Bool×D×List Ob))(args:List D)(os:List Ob):Option (Bool×D×List Ob):=g (args.map D.nn) (os.map (Ob.mpb D.nn))
end
abbrev Zi:=Yl ZB (Yl (rSl ZB) QY)
abbrev ZFz:=Yl ZB (Yl (rSl Zi) QY)
abbrev ZI0:=Yl (ZAc .i64) (Yl (ZAc .i64) (Yl ZFz (Yl ZFz (Yl ZB QY))))
abbrev ZX:=List UInt8×(List (List UInt8)×Unit)
abbrev ZCP:=List UInt8×(List ZX×Unit)
abbrev ZX1:=Int×(Int×(ZCP×(ZCP×(List UInt8×Unit))))
instance decAttr:DecidableEq ZX:=fun a b=>decidable_of_iff (a.1=b.1∧a.2.1=b.2.1) ⟨fun h=>ZDb h.1 (ZDb h.2 rfl),fun h=>h▸⟨rfl,rfl⟩⟩
instance decEntry:DecidableEq ZCP:=fun a b=>decidable_of_iff (a.1=b.1∧a.2.1=b.2.1) ⟨fun h=>ZDb h.1 (ZDb h.2 rfl),fun h=>h▸⟨rfl,rfl⟩⟩
instance decChange:DecidableEq ZX1:=fun a b=>decidable_of_iff ((a.1=b.1∧a.2.1=b.2.1)∧(a.2.2.1=b.2.2.1∧a.2.2.2.1=b.2.2.2.1)∧a.2.2.2.2.1=b.2.2.2.2.1)
 ⟨fun h=>ZDb h.1.1 (ZDb h.1.2 (ZDb h.2.1.1 (ZDb h.2.1.2 (ZDb h.2.2 rfl)))),fun h=>h▸⟨⟨rfl,rfl⟩,⟨rfl,rfl⟩,rfl⟩⟩
theorem YV:Zi.Good:=Yk ZO (Yk (ZCi ZO) ZB8)
theorem ZC8:ZFz.Good:=Yk ZO (Yk (ZCi YV) ZB8)
theorem ZHp:ZI0.Good:=Yk (Qx _) (Yk (Qx _) (Yk ZC8 (Yk ZC8 (Yk ZO ZB8))))
theorem ZQj(l:List (List UInt8)):ZZ ZB (rows ZB l)=some l:=Zv ZO l
theorem ZPn(k:IntKind)(l:List Int):ZZ (ZAc k) (rows (ZAc k) l)=some l:=Zv (Qx k) l
theorem ZOV(l):ZZ Zi (rows Zi l)=some l:=Zv YV l
theorem ZMU(l):ZZ ZFz (rows ZFz l)=some l:=Zv ZC8 l
theorem ZKm(l):ZZ ZI0 (rows ZI0 l)=some l:=Zv ZHp l
theorem ZGI(l):((rows ZB l).all fun r=>decide (r.length=1))=true:=ZET ZO l 1 rfl
theorem ZG0(k)(l):((rows (ZAc k) l).all fun r=>decide (r.length=1))=true:=ZET (Qx k) l 1 rfl
theorem ZFL(l):((rows Zi l).all fun r=>decide (r.length=2))=true:=ZET YV l 2 rfl
theorem ZDy(l):((rows ZFz l).all fun r=>decide (r.length=2))=true:=ZET ZC8 l 2 rfl
theorem ZCw(l):((rows ZI0 l).all fun r=>decide (r.length=7))=true:=ZET ZHp l 7 rfl
section
variable {P:Program} {T:TypeId} {w:World}
theorem QK.append{xs ys:List X}{cs ds:List Value}(h:QK w xs cs)(k:QK w ys ds):QK w (xs++ys) (cs++ds):=by
 refine⟨by simp[h.1,k.1],fun j x v hx hv=> ?_⟩;by_cases hj:j<xs.length
 ·rw[Ya hj]at hx;rw[Ya (by rw[h.1];exact hj)]at hv;exact h.2 j x v hx hv
 ·rw[KR (by omega)]at hx;rw[KR (by rw[h.1];omega),h.1]at hv;exact k.2 _ x v hx hv
theorem QK.nil:QK w [] []:=⟨rfl,fun j x v h=>by simp at h⟩
inductive FieldsO (P:Program):List Field→Nat→ {α:Type}→RC α→Prop
 |nil (off:Nat):FieldsO P [] off QY
 |cons {f:Field} {fs:List Field} {off:Nat} {α β:Type} {c:RC α} {d:RC β} (ho:f.offset=off) (hE:ZEz P f.type c) (hF:FieldsO P fs (off+c.n) d):FieldsO P (f::fs) off (Yl c d)
theorem ZNI{fs:List Field}{off:Nat}{α:Type}{c:RC α}(hf:FieldsO P fs off c){H:Type}(enc:TypeId×Value→H)(w:World)(fuel:Nat)(cs:List Value)
  (h: ∀f∈fs,∃x,DataW.trod enc P w 0 (fun _=>true) true fuel f.type ((cs.drop f.offset).take (P.cellsOf f.type))=some x):
  ∃y,QK w (c.enc y) ((cs.drop off).take c.n)∧X.okL (c.enc y):=by
 induction hf with
 |nil off=>exact⟨(),by simpa[QY]using QK.nil,trivial⟩
 | @cons f fs off α β c d ho hE hF ih=>
  obtain⟨y,hy,hy2⟩:=ih (fun g hg=>h g (ZIL _ hg));obtain⟨x,hx⟩:=h f ZDa;obtain⟨z,hz,hz2⟩:=hE.2 enc w fuel _ _ hx;rw[hE.1,ho]at hz;refine⟨(z,y),?_,X.okL_append.2 ⟨hz2,hy2⟩⟩;show QK w (c.enc z++d.enc y) ((cs.drop off).take (c.n+d.n));rw[List.take_add,ZNJ];exact hz.append hy
theorem ZEU{α:Type}{c:RC α}{fs:Array Field}(hT:P.underlying T=some (.struct fs))(hc:P.cellsOf T=c.n)(hf:FieldsO P fs.toList 0 c):ZEz P T c:=by
 refine⟨hc,fun {H} enc w fuel cs x h=> ?_⟩;obtain⟨xs,n,rfl,_,hl,hxl,hx⟩:=DataW.trod_struct hT h;obtain⟨y,hy⟩:=ZNI hf enc w n cs (fun f hf=>by
  obtain⟨i,hi⟩:=ZCl.1 hf;have hi':fs[i]? =some f:=by simpa using hi
  have h1:=hx i f hi';have hlt:i<xs.length:=by rw[hxl];exact(Qb hi').1
  rw[Zl hlt]at h1;exact⟨_,h1⟩)
 refine⟨y,?_⟩;rw[ZHP,Yp (by omega)]at hy;exact hy
inductive VF (E:Env) (os:List Ob):List D→List Value→Prop
 |nil:VF E os [] []
 |cons {d:D} {v:Value} {ds:List D} {l:List Value} (h:V E os d v) (t:VF E os ds l):VF E os (d::ds) (v::l)
theorem VL.mk{E:Env}{os:List Ob}: ∀ {ds:List D} {l:List Value},VF E os ds l→VL E os ds l.toArray
 |_,_,.nil=>⟨rfl,fun j d v h=>by simp at h⟩
 |_,_,.cons (d:=d) (v:=v) (ds:=ds) (l:=l) h t=>by
  have ih:=VL.mk t;refine⟨by have:=ih.1;simp at this⊢;exact this,fun j d' v' hd hv=> ?_⟩;cases j with
  |zero=>simp at hd hv;subst hd;subst hv;exact h
  |succ j=>exact ih.2 j d' v' (by simpa using hd) (by simpa using hv)
abbrev ZaY(w:World):Env:=⟨w,fun b _=>b<w.heap.size,[]⟩
theorem V.liesA{xs:List X}{cs:Array Value}(h:QK w xs cs.toList):V (ZaY w) [] (.agg (xs.map .x)) (.agg cs):=by
 have hl:xs.length=cs.size:=by rw[←h.1];simp
 refine .agg cs (by simpa using hl) (fun v hv=> ?_) (fun j d v hd hv=> ?_)
 ·obtain⟨j,hj⟩:=ZCl.1 hv;have hlt:=(ZP hj).1;exact(h.2 j _ v (Zl (by simpa[hl]using hlt)) hj).one
 ·rw[Zr]at hd;obtain⟨x,hx,rfl⟩:=ZT hd;exact .x (h.2 j x v hx (by simpa using hv))
theorem ZC.law{f:FuncId}{args:List D}(h:ZC P f args (.x (.bool true))){vs:List Value}(hvl:VF (ZaY w) [] args vs):Calls P f vs.toArray w fun e w'=>e= .returned (.bool true)∧KU w w':=by
 refine(h w (fun b _=>b<w.heap.size) vs.toArray (fun _ _ hb=>hb) (VL.mk hvl)).mono ?_;rintro e w' ⟨v,st',rfl,hk,_,_,hv⟩;rw[V.bool hv];exact⟨rfl,hk.os,hk.tape,hk.output,hk.size,fun k hb=>hk.block k hb (fun h=>h)⟩
end
def Zu(S:Tabs):Bool→List (Nat×D)→List Ob→List IOp→Option (Bool×List (Nat×D)×List Ob)
 |b,φ,os,[]=>some (b,φ,os)
 |b,φ,os,o::l=>match JG S φ os o with
  |some r=>Zu S (b&&r.1) r.2.1 r.2.2 l
  |none=>none
theorem ZDq(S:Tabs): ∀(l:List IOp) (b:Bool) (φ:List (Nat×D)) (os:List Ob),Zu S b φ os l=(JX S φ os l).map fun q=>(b&&q.1,q.2)
 | [],b,φ,os=>by simp[Zu,JX]
 |o::l,b,φ,os=>by
  simp only[Zu,JX];cases JG S φ os o with
  |none=>rfl
  |some r=>
   simp only[ZBP,ZDq S l];cases JX S r.2.1 r.2.2 l with
   |none=>rfl
   |some q=>simp[ZHb]
def YB(S:Tabs)(os0:List Ob)(k:Nat)(rs:List Nat):Nat→Bool→List (Nat×D)→Nat→List Ob→List Ob→Option (List Ob)→List IOp→Option (Bool×List (Nat×D)×List Ob)
 |_,b,φ,_,_,C,last,[]=>some (b,φ,last.getD (os0++C))
 |i,b,φ,id,os,C,last,o::l=>
  if o.e.frame then match JH S φ [] o with
   |some r=>YB S os0 k rs (i+1) (b&&r.1) (putO φ o.dst r.2) id os C last l
   |none=>none
  else if Zq i rs then match JH S φ os0 o with
   |some r=>YB S os0 k rs (i+1) (b&&r.1) (putO φ o.dst r.2) id os C last l
   |none=>none
  else if i<k then match JH S φ os0 o with
   |some r=>YB S os0 k rs (i+1) (b&&r.1) (putO φ o.dst r.2) id os C last l
   |none=>match ZGp φ os o with
    |some r=>YB S os0 k rs (i+1) (b&&r.1) (putO φ o.dst r.2) id os C last l
    |none=>match evK S φ os0 id o with
     |some r=>YB S os0 k rs (i+1) (b&&r.1) (putO φ o.dst r.2.1) (id+1) (os++ [r.2.2]) (C++ [r.2.2]) last l
     |none=>none
  else match evA S φ os o with
   |some r=>YB S os0 k rs (i+1) (b&&(r.1&&(match rs with| []=>true|_=>KG os0 r.2.2))) (putO φ o.dst r.2.1) id r.2.2 C (some r.2.2) l
   |none=>none
theorem ZDO(rs:List Nat)(os0:List Ob)(G):ZJi rs os0 (none::G)=ZJi rs os0 G:=by cases rs<;>rfl
theorem ZTD(rs:List Nat)(os0:List Ob)(x:List Ob)(G):ZJi rs os0 (some x::G)=((match rs with| []=>true|_=>KG os0 x)&&ZJi rs os0 G):=by cases rs<;>rfl
theorem QT(G:List (Option (List Ob)))(i:Nat)(b:List Ob):Zp (none::G) (fun _=>true) i b=Zp G (fun _=>true) 0 b:=by
 simp only[Zp];exact Ja _ _ _ _ _ (fun _ _ _=>rfl)|>.trans (by
  have: ∀(G:List (Option (List Ob))) (i j:Nat) (b:List Ob),Zp G (fun _=>true) i b=Zp G (fun _=>true) j b:=by
   intro G
   induction G with
   |nil=>intro i j b;rfl
   |cons x G ih=>intro i j b;cases x<;>simp only[Zp]<;>exact ih _ _ _
  exact this _ _ _ _)
theorem ZKP(G:List (Option (List Ob)))(i:Nat)(b x:List Ob):Zp (some x::G) (fun _=>true) i b=Zp G (fun _=>true) 0 x:=by
 have: ∀(G:List (Option (List Ob))) (i j:Nat) (b:List Ob),Zp G (fun _=>true) i b=Zp G (fun _=>true) j b:=by
  intro G
  induction G with
  |nil=>intro i j b;rfl
  |cons x G ih=>intro i j b;cases x<;>simp only[Zp]<;>exact ih _ _ _
 simp only[Zp,if_true];exact this _ _ _ _
theorem ZBv(S:Tabs)(os0:List Ob)(k:Nat)(rs:List Nat): ∀(l:List IOp) (i:Nat) (b:Bool) (φ:List (Nat×D)) (id:Nat) (os C:List Ob) (last:Option (List Ob)),
  YB S os0 k rs i b φ id os C last l=(Kz S os0 k rs i φ id os l).map fun q=>(b&&(q.1&&ZJi rs os0 q.2.2),Yg φ q.2.1,Zp q.2.2 (fun _=>true) 0 (last.getD (os0++C++YE q.2.1)))
 | [],i,b,φ,id,os,C,last=>by
  have:ZJi rs os0 []=true:=by cases rs<;>rfl
  simp[YB,Kz,Yg,YE,Zp,this]
 |o::l,i,b,φ,id,os,C,last=>by
  simp only[YB,Kz];split
  ·cases JH S φ [] o with
   |none=>rfl
   |some r=>
    simp only[ZBP,ZBv S os0 k rs l];cases Kz S os0 k rs (i+1) (putO φ o.dst r.2) id os l with
    |none=>rfl
    |some q=>simp only[Yd,ZHb,Yg,YE,ZDO,QT]
  ·split
   ·cases JH S φ os0 o with
    |none=>rfl
    |some r=>
     simp only[ZBP,ZBv S os0 k rs l];cases Kz S os0 k rs (i+1) (putO φ o.dst r.2) id os l with
     |none=>rfl
     |some q=>simp only[Yd,ZHb,Yg,YE,ZDO,QT]
   ·split
    ·cases JH S φ os0 o with
     |some r=>
      simp only[ZBv S os0 k rs l];cases Kz S os0 k rs (i+1) (putO φ o.dst r.2) id os l with
      |none=>rfl
      |some q=>simp only[Yd,ZHb,Yg,YE,ZDO,QT]
     |none=>
      cases ZGp φ os o with
      |some r=>
       simp only[ZBv S os0 k rs l];cases Kz S os0 k rs (i+1) (putO φ o.dst r.2) id os l with
       |none=>rfl
       |some q=>simp only[Yd,ZHb,Yg,YE,ZDO,QT]
      |none=>
       cases evK S φ os0 id o with
       |none=>rfl
       |some r=>
        simp only[ZBP,ZBv S os0 k rs l];cases Kz S os0 k rs (i+1) (putO φ o.dst r.2.1) (id+1) (os++ [r.2.2]) l with
        |none=>rfl
        |some q=>simp only[Yd,ZHb,Yg,YE,ZDO,QT,KJ,ZBR,ZAJ]
    ·cases evA S φ os o with
     |none=>rfl
     |some r=>
      simp only[ZBP,ZBv S os0 k rs l];cases Kz S os0 k rs (i+1) (putO φ o.dst r.2.1) id r.2.2 l with
      |none=>rfl
      |some q=>simp only[Yd,ZHb,Yg,YE,ZTD,ZKP,QG];congr 1;simp only[Zb,and_true];ac_rfl
section
variable {P:Program} {c:Ctx} {E0:Env} {os0 os:List Ob} {n:Nat} {Q:Exit→List (Nat×D)→List Ob→Prop} {φ:List (Nat×D)}
theorem WI.regA{S:Tabs}(hS:SsOk P S)(ks:List Nat){l:List IOp}(h: ∀K:List (Nat×D)→List Ob→Prop,(∀φ' os',Q .normal φ' os'→K φ' os')→YX (Zu S true φ os l) (fun φ' os'=>K (Go.Ab.keep ks φ') os')):WI P c E0 os0 n (.reg l) Q φ os:=
 WI.regK hS ks (fun K hK=>by
  have:=h K hK;rw[ZDq]at this;obtain⟨ok,φ',os',h1,h2,h3⟩:=this;obtain⟨⟨ok2,q⟩,h4,h5⟩:=ZT h1;simp at h5;obtain⟨rfl,rfl⟩:=h5;exact⟨_,_,_,h4,h2,h3⟩)
theorem WI.dregA{S:Tabs}(hS:SsOk P S)(ks:List Nat){k k2:Nat}{rs rs2:List Nat}{l:List IOp}(h: ∀K:List (Nat×D)→List Ob→Prop,(∀φ' os',Q .normal φ' os'→K φ' os')→YX (YB S os k rs 0 true φ os.length os [] none l) (fun φ' os'=>K (Go.Ab.keep ks φ') os')):WI P c E0 os0 n (.dreg k rs k2 rs2 l) Q φ os:=by
 have:=h _ (fun _ _ h=>h);rw[ZBv]at this;obtain⟨ok,φ',os',h1,h2,h3⟩:=this;obtain⟨q,h4,h5⟩:=ZT h1;simp at h5;obtain⟨h5,rfl,rfl⟩:=h5;exact WI.dreg' (m:=none) hS (.inl (by simp only[ZGJ,ZMx,h4,Yd])) (h5.trans h2) h3 (fun _ _ f=>f.keep ks)
end
theorem ZL0(φ:List (Nat×D)): ∀(ts:List Nat) (t:Nat),get (ts.map fun u=>(u,get φ u)) t=get φ t∨get (ts.map fun u=>(u,get φ u)) t= .und
 | [],t=> .inr rfl
 |u::ts,t=>by
  simp only[Yc,get];split
  ·rename_i h;subst h;exact .inl rfl
  ·exact ZL0 φ ts t
theorem WI.order{P:Program}{c:Ctx}{E0:Env}{os0 os:List Ob}{n:Nat}{Q:Exit→List (Nat×D)→List Ob→Prop}{φ:List (Nat×D)}{ic:IC}(ts:List Nat)(h:WI P c E0 os0 n ic Q (ts.map fun u=>(u,get φ u)) os):WI P c E0 os0 n ic Q φ os:=
 WI.weak (fun E _ R hf=>⟨E,rfl,R,hf.size,hf.defers,fun t=>by
  rcases ZL0 φ ts t with h|h
  ·rw[h];exact hf.slot t
  ·rw[h];exact .und _⟩) h
mutual
theorem X.beq_refl: ∀x:X,X.beq x x=true
 | .int k n=>by simp[X.beq]
 | .bool a=>by simp[X.beq]
 | .str s=>by simp[X.beq]
 | .nilp=>rfl
 | .nils=>rfl
 | .sl a=>by simp only[X.beq];exact X.beqR_refl a
theorem X.beqR_refl: ∀a:List (List X),X.beqR a a=true
 | []=>rfl
 |r::l=>by simp only[X.beqR,ZQ];exact⟨X.beqL_refl r,X.beqR_refl l⟩
theorem X.beqL_refl: ∀a:List X,X.beqL a a=true
 | []=>rfl
 |x::l=>by simp only[X.beqL,ZQ];exact⟨X.beq_refl x,X.beqL_refl l⟩
end
mutual
theorem D.beq_refl: ∀d:D,D.beq d d=true
 | .x a=>by simp only[D.beq];exact X.beq_refl a
 | .ref a b c d=>by simp[D.beq]
 | .ptr a b=>by simp[D.beq]
 | .eptr a b c d=>by simp[D.beq]
 | .vptr a=>by simp only[D.beq];exact X.beqL_refl a
 | .mref a=>by simp[D.beq]
 | .mnil=>rfl
 | .iref a b=>by simp[D.beq]
 | .stk a b=>by simp[D.beq]
 | .bref a b c=>by simp[D.beq]
 | .agg a=>by simp only[D.beq];exact D.beqL_refl a
 | .tup a=>by simp only[D.beq];exact D.beqL_refl a
 | .full a=>by simp only[D.beq];exact X.beqR_refl a
 | .nz a=>by simp only[D.beq];exact X.beqR_refl a
 | .fn f a=>by simp only[D.beq,ZQ];exact⟨by simp,D.beqL_refl a⟩
 | .opt a d=>by simp only[D.beq,ZQ];exact⟨by simp,D.beq_refl d⟩
 | .und=>rfl
theorem D.beqL_refl: ∀a:List D,D.beqL a a=true
 | []=>rfl
 |e::l=>by simp only[D.beqL,ZQ];exact⟨D.beq_refl e,D.beqL_refl l⟩
end
theorem beqR_refl: ∀a:List (List D),beqR a a=true
 | []=>rfl
 |r::l=>by simp only[beqR,ZQ];exact⟨D.beqL_refl r,beqR_refl l⟩
theorem ZMt(p:Pr):ZLl p p=true:=by simp only[ZLl,ZQ];exact⟨X.beqL_refl p.1,D.beqL_refl p.2⟩
theorem ZB4: ∀a:List Pr,ZEM a a=true
 | []=>rfl
 |p::l=>by simp only[ZEM,ZQ];exact⟨ZMt p,ZB4 l⟩
theorem ZUK: ∀a:Option Pr,ZVF a a=true
 |none=>rfl
 |some p=>ZMt p
theorem ZKk: ∀a:List (List Pr),ZGy a a=true
 | []=>rfl
 |p::l=>by simp only[ZGy,ZQ];exact⟨ZB4 p,ZKk l⟩
theorem ZMo: ∀a:List (X×List (List X)),ZJM a a=true
 | []=>rfl
 |p::l=>by simp only[ZJM,ZQ];exact⟨X.beq_refl p.1,X.beqR_refl p.2,ZMo l⟩
theorem Ob.beq_refl(o:Ob):Ob.beq o o=true:=by
 cases o with
 |box ds=>simp only[Ob.beq];exact D.beqL_refl ds
 |rows f e s rs=>simp only[Ob.beq,ZQ];exact⟨by simp,ZDd e,ZDd s,X.beqR_refl rs⟩
 |drw e s rs=>simp only[Ob.beq,ZQ];exact⟨ZDd e,ZDd s,beqR_refl rs⟩
 |frz s rs=>simp only[Ob.beq,ZQ];exact⟨ZDd s,X.beqR_refl rs⟩
 |mpo dk ag l=>simp only[Ob.beq,ZQ];exact⟨by simp,by simp,ZB4 l⟩
 |mit dk ag l it R cur=>simp only[Ob.beq,ZQ];exact⟨by simp,by simp,ZB4 l,ZDd it,ZB4 R,ZUK cur⟩
 |mpn dk ag l key sid=>simp only[Ob.beq,ZQ];exact⟨by simp,by simp,ZB4 l,X.beqL_refl key,ZDd sid⟩
 |itr=>rfl
 |stp=>rfl
 |nit=>rfl
 |sit s pos=>simp only[Ob.beq,ZQ];exact⟨by simp,ZDd pos⟩
 |old s n=>simp only[Ob.beq,ZQ];exact⟨ZDd s,ZDd n⟩
 |fam k P B=>simp only[Ob.beq,ZQ];exact⟨ZDd k,ZKk P,ZMo B⟩
 |dead=>rfl
def ZA6(φ:List (Nat×D)):Option IO→Option D
 |none=>none
 |some l=>some (ZA φ l)
def QN(dx:D)(lo hi mx:Option D):Option (Bool×D):=
 match dx.val with
 | .x (.str s)=>match lo,hi,mx with
  |none,none,none=>some (dx.cond,.x (.str s))
  |some l,none,none=>(ZG l.val).map fun(n:Int)=>(dx.cond&&(l.cond&&(decide (0≤n)&&decide (n≤s.length))),.x (.str (s.drop n.toNat)))
  |none,some h,none=>(ZG h.val).map fun(m:Int)=>(dx.cond&&(h.cond&&(decide (0≤m)&&decide (m≤s.length))),.x (.str (s.take m.toNat)))
  |some l,some h,none=>(ZG l.val).bind fun(n:Int)=>(ZG h.val).map fun(m:Int)=>(dx.cond&&((l.cond&&h.cond)&&(decide (0≤n)&&(decide (n≤m)&&decide (m≤s.length)))),.x (.str ((s.take m.toNat).drop n.toNat)))
  |_,_,_=>none
 |_=>none
def ZAQ(os:List Ob)(sz:Nat)(dx:D)(lo hi mx:Option D):Option (Bool×D):=
 match dx.val with
 | .x .nils=>(KY (lo)).bind fun p=>(KY (hi)).bind fun q=>(KY (mx)).map fun r=>(dx.cond&&((mx.isNone||hi.isSome)&&(p&&(q&&r))),.x .nils)
 | .x (.sl rs)=>match lo,hi,mx with
  |none,none,none=>some (dx.cond,.x (.sl rs))
  |some l,none,none=>(ZG l.val).map fun(n:Int)=>(dx.cond&&(l.cond&&(decide (0≤n)&&(decide (n≤rs.length)&&rs.all fun r=>decide (r.length=sz)))),.x (.sl (rs.drop n.toNat)))
  |none,some h,none=>(ZG h.val).map fun(m:Int)=>(dx.cond&&(h.cond&&(decide (0≤m)&&(decide (m≤rs.length)&&rs.all fun r=>decide (r.length=sz)))),.x (.sl (rs.take m.toNat)))
  |some l,some h,none=>(ZG l.val).bind fun(n:Int)=>(ZG h.val).map fun(m:Int)=>(dx.cond&&((l.cond&&h.cond)&&(decide (0≤n)&&(decide (n≤m)&&(decide (m≤rs.length)&&rs.all fun r=>decide (r.length=sz))))),.x (.sl ((rs.take m.toNat).drop n.toNat)))
  |l,some h,some mi=>(KY l).bind fun z=>(ZG h.val).bind fun(n:Int)=>(ZG mi.val).map fun(m:Int)=>(dx.cond&&(z&&(h.cond&&(mi.cond&&(decide (0≤n)&&(decide (n≤rs.length)&&(decide (n=m)&&rs.all fun r=>decide (r.length=sz))))))),.full (rs.take n.toNat))
  |_,_,_=>none
 | .ref id ext off len=>match os[id]? with
  |some o=>match o.slice? with
   |some (sz',rs)=>match lo,hi,mx with
    |some l,none,none=>(ZG l.val).map fun(n:Int)=>(dx.cond&&(l.cond&&(decide (sz'=sz)&&(decide (rs.length=ext)&&(decide (0≤n)&&decide (n≤len))))),.ref id ext (off+n.toNat) (len-n.toNat))
    |none,some h,none=>(ZG h.val).map fun(m:Int)=>(dx.cond&&(h.cond&&(decide (sz'=sz)&&(decide (rs.length=ext)&&(decide (0≤m)&&decide (m≤len))))),.ref id ext off m.toNat)
    |some l,some h,none=>(ZG l.val).bind fun(n:Int)=>(ZG h.val).map fun(m:Int)=>(dx.cond&&((l.cond&&h.cond)&&(decide (sz'=sz)&&(decide (rs.length=ext)&&(decide (0≤n)&&(decide (n≤m)&&decide (m≤len)))))),.ref id ext (off+n.toNat) (m.toNat-n.toNat))
    |_,_,_=>none
   |none=>none
  |none=>none
 |_=>none
theorem ZFO(φ:List (Nat×D))(x:IO)(lo hi mx:Option IO):ZF6 φ x lo hi mx=QN (ZA φ x) (ZA6 φ lo) (ZA6 φ hi) (ZA6 φ mx):=by
 cases lo<;>cases hi<;>cases mx<;>rfl
theorem ZG3(φ:List (Nat×D))(os:List Ob)(sz:Nat)(x:IO)(lo hi mx:Option IO):ZGn φ os sz x lo hi mx=ZAQ os sz (ZA φ x) (ZA6 φ lo) (ZA6 φ hi) (ZA6 φ mx):=by
 cases lo<;>cases hi<;>cases mx<;>rfl
def ZBB(φ:List (Nat×D)):List IO→List D
 | []=> []
 |y::ys=>(ZA φ y).val::ZBB φ ys
def Qr(φ:List (Nat×D)):List IO→Bool
 | []=>true
 |y::ys=>(ZA φ y).cond&&Qr φ ys
theorem ZE7(φ:List (Nat×D)): ∀l,(l.map fun y=>(ZA φ y).val)=ZBB φ l
 | []=>rfl
 |y::ys=>by simp[ZBB,ZE7 φ ys]
theorem ZDw(φ:List (Nat×D)): ∀l:List IO,(l.all fun y=>(ZA φ y).cond)=Qr φ l
 | []=>rfl
 |y::ys=>by simp[Qr,ZDw φ ys]
def ZCQ(T:FuncId→List D→List Ob→Option (Bool×D×List Ob))(df:D)(vs:List D)(cs:Bool)(os:List Ob):Option (Bool×D×List Ob):=match df.val with
 | .fn g caps=>(T g (vs++caps) os).map fun r=>(df.cond&&(cs&&r.1),r.2)
 |_=>none
def ZCT(T:FuncId→List D→List Ob→Option (Bool×D))(df:D)(vs:List D)(cs:Bool)(os:List Ob):Option (Bool×D):=match df.val with
 | .fn g caps=>(T g (vs++caps) os).map fun r=>(df.cond&&(cs&&r.1),r.2)
 |_=>none
def ZCR(T:FuncId→List D→List Ob→Option (Bool×(Nat→D)×Ob))(df:D)(vs:List D)(cs:Bool)(os:List Ob)(id:Nat):Option (Bool×D×Ob):=match df.val with
 | .fn g caps=>(T g (vs++caps) os).map fun r=>(df.cond&&(cs&&r.1),r.2.1 id,r.2.2)
 |_=>none
theorem ZNa(T:FuncId→List D→List Ob→Option (Bool×D×List Ob))(φ:List (Nat×D))(os:List Ob)(e:IE):ZFJ T φ os e=match e with
  | .call f xs=>ZCQ T (ZA φ f) (ZBB φ xs) (Qr φ xs) os
  |_=>none:=by
 cases e<;>first|rfl|skip
 simp only[ZFJ,ZE7,ZDw,ZCQ];generalize(ZA φ _).val=u;cases u<;>rfl
theorem ZNZ(T:FuncId→List D→List Ob→Option (Bool×D))(φ:List (Nat×D))(os:List Ob)(e:IE):ZBN T φ os e=match e with
  | .call f xs=>ZCT T (ZA φ f) (ZBB φ xs) (Qr φ xs) os
  |_=>none:=by
 cases e<;>first|rfl|skip
 simp only[ZBN,ZE7,ZDw,ZCT];generalize(ZA φ _).val=u;cases u<;>rfl
theorem ZOf(T:FuncId→List D→List Ob→Option (Bool×(Nat→D)×Ob))(φ:List (Nat×D))(os:List Ob)(id:Nat)(e:IE):ZCz T φ os id e=match e with
  | .call f xs=>ZCR T (ZA φ f) (ZBB φ xs) (Qr φ xs) os id
  |_=>none:=by
 cases e<;>first|rfl|skip
 simp only[ZCz,ZE7,ZDw,ZCR];generalize(ZA φ _).val=u;cases u<;>rfl
section
variable {S:Tabs} {os0 os C:List Ob} {k i id:Nat} {rs:List Nat} {φ φ':List (Nat×D)} {os':List Ob} {last:Option (List Ob)} {o:IOp} {l:List IOp} {ok:Bool} {d:D} {ob:Ob} {K:List (Nat×D)→List Ob→Prop}
theorem ZKS(s:List UInt8):(s.map Zf).take s.length=s.map Zf:=Yp (by simp)
theorem ZM7(l:List (List UInt8))(w:List UInt8):rows ZB l++ [[X.str w]]=rows ZB (l++ [w]):=ZAF ZB l [w]
theorem ZMY(s:List UInt8)(i:Nat)(h:i<s.length):(s.map Zf)[i]? =some [X.int .u8 (s[i].toNat:Int)]:=by simp[Zf,h]
theorem ZMu(s:List UInt8):(s.map Zf).length=s.length:=YL ..
theorem Kb(s:List UInt8):(s.map Zf).map ZCk=s:=by
 rw[KP]
 conv=>rhs;rw[←ZLK s]
 refine ZBY (fun b _=> ?_);simp[ZCk,Zf]
theorem Kv(s:List UInt8):((s.map Zf).all ZDB)=true:=by
 rw[YK];intro r hr;obtain⟨b,_,rfl⟩:=YQ.1 hr;rfl
theorem ZTV{α:Type}(c:RC α):ZZ c []=some []:=rfl
theorem ZKr(n:Nat):Nat.beq n n=true:=ZDd n
theorem ZKQ(m n:Nat)(h:m≠n):Nat.beq m n=false:=by
 cases hb:Nat.beq m n with
 |false=>rfl
 |true=>exact absurd (ZWM hb) h
theorem ZSp(b:Bool):(b||b==false)=true:=by cases b<;>rfl
theorem ZP5(dk:KK)(ag:Bool)(l:List Pr):(Ob.mpo dk ag l).map? =some (dk,ag,l):=rfl
theorem ZPj(dk:KK)(ag:Bool)(l:List Pr)(it:Nat)(R:List Pr)(cur:Option Pr):(Ob.mit dk ag l it R cur).map? =some (dk,ag,l):=rfl
theorem ZPy(dk:KK)(ag:Bool)(l:List Pr)(key:List X)(sid:Nat):(Ob.mpn dk ag l key sid).map? =some (dk,ag,l):=rfl
theorem ZQM(dk:KK)(ag:Bool)(l:List Pr):(Ob.mpo dk ag l).upd? =some (dk,ag,l):=rfl
theorem ZQG(dk:KK)(ag:Bool)(l:List Pr)(key:List X)(sid:Nat):(Ob.mpn dk ag l key sid).upd? =some (dk,ag,l):=rfl
theorem ZPr(k:IntKind)(n:Int):Jo (.int k) (.x (.int k n))=some [.int k n]:=by simp[Jo]
theorem ZQo(s:List UInt8):Jo .str (.x (.str s))=some [.str s]:=rfl
theorem ZNA(k:IntKind)(n:Int):keyD (.int k) [.int k n]= .x (.int k n):=rfl
theorem ZOS(s:List UInt8):keyD .str [.str s]= .x (.str s):=rfl
theorem ZOO(d:D):ZCv false [d]=d:=rfl
theorem ZP9(ds:List D):ZCv true ds= .agg ds:=rfl
theorem ZZD(y:X):agD (.x y)=false:=rfl
theorem ZSV(ds:List D):agD (.agg ds)=true:=rfl
theorem ZT4(a b c d:Nat):agD (.ref a b c d)=false:=rfl
theorem ZSR(a b:Nat):agD (.ptr a b)=false:=rfl
theorem ZPx(a:Nat):agD (.mref a)=false:=rfl
theorem ZZT(k:KK):(k=k)=True:=eq_self k
theorem ZZQ(b:Bool):(b=b)=True:=eq_self b
theorem ZaR(b:Nat):(b=b)=True:=eq_self b
theorem ZNL(k:List X):JB [] k=none:=rfl
def ZZ6(N it:Nat)(_:List (Nat×D))(os:List Ob):Nat:=match os[it]? with|some (.sit _ p)=>N-p|_=>0
def ZLH(mid:Nat)(_:List (Nat×D))(os:List Ob):Nat:=match os[mid]? with|some (.mit _ _ _ _ R _)=>R.length|_=>0
theorem osN(h:K φ os):YX (Zu S true φ os []) K:=⟨true,φ,os,rfl,rfl,h⟩
theorem osS(he:JG S φ os o=some (ok,φ',os'))(hok:ok=true)(h:YX (Zu S true φ' os' l) K):YX (Zu S true φ os (o::l)) K:=by
 subst hok;simp only[Zu,he,ZAD];exact h
theorem dsN(h:K φ (last.getD (os0++C))):YX (YB S os0 k rs i true φ id os C last []) K:=⟨true,φ,_,rfl,rfl,h⟩
theorem dsF(hf:o.e.frame=true)(he:(JH S φ [] o).map (fun r=>(r.1,putO φ o.dst r.2))=some (ok,φ'))(hok:ok=true)(h:YX (YB S os0 k rs (i+1) true φ' id os C last l) K):YX (YB S os0 k rs i true φ id os C last (o::l)) K:=by
 subst hok;obtain⟨r,h1,h2⟩:=ZT he;simp only[Zb]at h2;obtain⟨h2,rfl⟩:=h2;simp only[YB,hf,if_true,h1,h2,ZAD];exact h
theorem dsQ(hf:o.e.frame=false)(hm:Zq i rs=false)(hk:Nat.ble (i+1) k=true)(he:(JH S φ os0 o).map (fun r=>(r.1,putO φ o.dst r.2))=some (ok,φ'))(hok:ok=true)(h:YX (YB S os0 k rs (i+1) true φ' id os C last l) K):YX (YB S os0 k rs i true φ id os C last (o::l)) K:=by
 subst hok;obtain⟨r,h1,h2⟩:=ZT he;simp only[Zb]at h2;obtain⟨h2,rfl⟩:=h2;have hk':i<k:=ξ hk;simp only[YB,hf,hm,if_true,h1,h2,hk',ZAD,Yz,if_false];exact h
theorem ZTb{S:Tabs}{φ:List (Nat×D)}{os0 os:List Ob}{id:Nat}{o:IOp}{r:Bool×D×Ob}(h:evK S φ os0 id o=some r):ZGp φ os o=none:=by
 obtain⟨dst,e,g⟩:=o;cases g with
 |some p=>rfl
 |none=>
  cases e with
  |b2s x=>simp[evK,evC,Qg,ZCz]at h
  |_=>rfl
theorem dsK(hf:o.e.frame=false)(hm:Zq i rs=false)(hk:Nat.ble (i+1) k=true)(hn:JH S φ os0 o=none)(he:(evK S φ os0 id o).map (fun r=>(r.1,putO φ o.dst r.2.1,r.2.2))=some (ok,φ',ob))(hok:ok=true)(h:YX (YB S os0 k rs (i+1) true φ' (id+1) (os++ [ob]) (C++ [ob]) last l) K):YX (YB S os0 k rs i true φ id os C last (o::l)) K:=by
 subst hok;obtain⟨r,h1,h2⟩:=ZT he;simp only[Zb]at h2;obtain⟨h2,rfl,rfl⟩:=h2;have hk':i<k:=ξ hk;simp only[YB,hf,hm,if_true,hn,ZTb h1,h1,h2,hk',ZAD,Yz,if_false];exact h
theorem dsA(hf:o.e.frame=false)(hm:Zq i rs=false)(hk:Nat.ble (i+1) k=false)(he:(evA S φ os o).map (fun r=>(r.1&&(match rs with| []=>true|_=>KG os0 r.2.2),putO φ o.dst r.2.1,r.2.2))=some (ok,φ',os'))(hok:ok=true)(h:YX (YB S os0 k rs (i+1) true φ' id os' C (some os') l) K):YX (YB S os0 k rs i true φ id os C last (o::l)) K:=by
 subst hok;obtain⟨r,h1,h2⟩:=ZT he;simp only[Zb]at h2;obtain⟨h2,rfl,rfl⟩:=h2;have hk': ¬i<k:=fun h=>by have:=Nat.ble_eq_true_of_le h;rw[Nat.succ_eq_add_one,hk]at this;cases this
 simp only[YB,hf,hm,h1,h2,hk',ZDU,Yz,if_false];exact h
end
section
variable {κ β:Type} (kc:κ→List X) (vc:β→List X)
def YG(L:List (κ×β)):List Pr:=L.map fun p=>(kc p.1,(vc p.2).map D.x)
theorem ZJZ(L:List (κ×β)):(YG kc vc L).length=L.length:=by simp[YG]
theorem ZYM(L:List (κ×β))(i:Nat):(YG kc vc L)[i]? =(L[i]?).map fun p=>(kc p.1,(vc p.2).map D.x):=by simp[YG]
theorem ZZI(f:Nat→Nat)(l:List X):Zs f (l.map D.x)=l.map D.x:=by
 rw[Ji,KP];rfl
theorem Zap(p:Nat→Bool)(l:List X):YR p (l.map D.x)=true:=by
 rw[Qp,YK];intro d hd;obtain⟨x,_,rfl⟩:=YQ.1 hd;rfl
theorem ZaW(l:List X):Yr (l.map D.x)= []:=by
 induction l with
 |nil=>rfl
 |cons x l ih=>simp only[Yc,Yr,ZFf,ih];rfl
theorem Zbk(ρ:List Nat)(os:List Ob)(l:List X):(l.map D.x).map (Qu ρ os)=l.map D.x:=by
 rw[KP];refine ZBY fun x _=> ?_
 simp only[Function.comp,Qu,D.vw,D.on,D.inP,if_true]
theorem QA(f:Nat→Nat)(L:List (κ×β)):(YG kc vc L).map (Yu f)=YG kc vc L:=by
 rw[YG,KP];refine ZBY fun p _=> ?_
 simp only[Function.comp,Yu,ZZI]
theorem ZAo(L:List (κ×β)):ZBa (YG kc vc L)= []:=by
 induction L with
 |nil=>rfl
 |cons p L ih=>simp only[YG,Yc,ZBa,ZaW]at ih⊢;exact ih
theorem Kk(p:Nat→Bool)(L:List (κ×β)):(YG kc vc L).all (QJ p)=true:=by
 rw[YK];intro q hq;obtain⟨r,_,rfl⟩:=YQ.1 hq;exact Zap p _
theorem ZFo(ρ:List Nat)(os:List Ob)(L:List (κ×β)):(YG kc vc L).map (mpP (Qu ρ os))=YG kc vc L:=by
 rw[YG,KP];refine ZBY fun p _=> ?_
 simp only[Function.comp,mpP,Zbk]
theorem ZHB(L:List (κ×β))(i:Nat):(YG kc vc L).eraseIdx i=YG kc vc (L.eraseIdx i):=by
 induction L generalizing i with
 |nil=>rfl
 |cons p L ih=>cases i with
  |zero=>rfl
  |succ i=>simp only[YG,Yc,ZWw]at ih⊢;rw[ih]
variable [DecidableEq κ] (hk: ∀a b:κ,ZAn (kc a) (kc b)=decide (a=b))
include hk
theorem ZEd(L:List (κ×β))(c:κ):JB (YG kc vc L) (kc c)=(ZR L c).map fun v=>(vc v).map D.x:=by
 induction L with
 |nil=>rfl
 |cons p L ih=>
  simp only[YG,Yc,JB,hk]at ih⊢;by_cases h:c=p.1
  ·simp[ZR,h]
  ·simp only[h,decide_false,Yz,if_false];rw[ih];simp[ZR,h]
theorem ZCg(L:List (κ×β))(c:κ)(v:β):YI (YG kc vc L) (kc c) ((vc v).map D.x)=YG kc vc (JE L c v):=by
 induction L with
 |nil=>rfl
 |cons p L ih=>
  simp only[YG,Yc,YI,hk,JE]at ih⊢;by_cases h:c=p.1
  ·simp[h]
  ·simp only[h,decide_false,Yz,if_false];rw[ih];simp
end
def Qn{κ β:Type}(c:RC κ)(d:RC β):List Pr→Option (List (κ×β))
 | []=>some []
 |q::M=>(c.dec q.1).bind fun a=>(ZB5 q.2).bind fun xs=>(d.dec xs).bind fun b=>(Qn c d M).map fun L=>(a,b)::L
theorem ZJC: ∀l:List X,ZB5 (l.map D.x)=some l
 | []=>rfl
 |x::l=>by simp only[Yc,ZB5,ZJC l,Yd]
theorem ZRX{κ β:Type}{c:RC κ}{d:RC β}(hc:c.Good)(hd:d.Good): ∀L:List (κ×β),Qn c d (YG c.enc d.enc L)=some L
 | []=>rfl
 |p::L=>by
  have ih:=ZRX hc hd L;simp only[YG,Yc,Qn,hc.de,hd.de,ZJC,ZBP]at ih⊢;rw[ih];rfl
theorem JO{κ β:Type}{c:RC κ}{d:RC β}(hc:c.Good)(hd:d.Good): ∀ {M:List Pr} {L:List (κ×β)},Qn c d M=some L→M=YG c.enc d.enc L
 | [],L,h=>by cases h;rfl
 |q::M,L,h=>by
  simp only[Qn]at h;obtain⟨a,h1,h⟩:=Zt h;obtain⟨xs,h2,h⟩:=Zt h;obtain⟨b,h3,h⟩:=Zt h;obtain⟨L',h4,rfl⟩:=ZT h;have e:=JO hc hd h4;obtain⟨q1,q2⟩:=q;simp only at h1 h2;rw[e,ZFb h2];rw[←hc.ed _ _ h1,←hd.ed _ _ h3];rfl
abbrev Kx(n:Int):List X:= [.int .i64 n]
abbrev Jj(s:List UInt8):List X:= [.str s]
theorem hkS(a b:List UInt8):ZAn (Jj a) (Jj b)=decide (a=b):=by
 simp only[Jj,ZAn,X.keq,ZAD];rw[ZAs];simp
section
variable {κ β:Type} [DecidableEq κ]
theorem ZGY{A:List (κ×β)}{c:κ}{w:β}(h:ZR A c=none):JE A c w=A++ [(c,w)]:=by
 induction A with
 |nil=>rfl
 |cons p A ih=>
  by_cases e:c=p.1
  ·simp[ZR,e]at h
  ·have hl:ZR (p::A) c=ZR A c:=by simp[ZR,e]
   rw[hl]at h;simp[JE,e,ih h]
end
open Go Go.RowKit Go.Bo
theorem zC:type_of% @Yd.{0,0}∧type_of% @ZBP.{0,0}∧type_of% @ZAD∧type_of% @ZDU∧type_of% @Yz:=
 ⟨@Yd.{0,0},@ZBP.{0,0},@ZAD,@ZDU,@Yz⟩
theorem zG:type_of% @Bool.not_true∧type_of% @Bool.not_false∧type_of% @ZOZ∧type_of% @Bool.true_or∧type_of% @ZFa∧type_of% @ZOT∧type_of% @ZK9∧type_of% @ZHn∧type_of% @beq_self_eq_true.{0}∧type_of% @ZSp∧type_of% @Bool.and_self∧type_of% @Bool.not_or_self∧type_of% @Bool.or_not_self∧type_of% @beq_true∧type_of% @beq_false∧type_of% @Bool.not_not:=
 ⟨@Bool.not_true,@Bool.not_false,@ZOZ,@Bool.true_or,@ZFa,@ZOT,@ZK9,@ZHn,@beq_self_eq_true.{0},@ZSp,@Bool.and_self,@Bool.not_or_self,@Bool.or_not_self,@beq_true,@beq_false,@Bool.not_not⟩
theorem zL:type_of% @ZBb.{0}∧type_of% @ξZ.{0}∧type_of% @ZHP.{0}∧type_of% @ZEG.{0}∧type_of% @ZNh.{0}∧type_of% @Qq.{0}∧type_of% @List.drop_nil.{0}∧type_of% @List.take_nil.{0}∧type_of% @Jh.{0}∧type_of% @ξN.{0}∧type_of% @Yc.{0,0}∧type_of% @ZBU.{0,0}∧type_of% @ZBR.{0}∧type_of% @ZAJ.{0}∧type_of% @ZCJ.{0}∧type_of% @ZBu.{0}∧type_of% @Jf∧type_of% @Yi∧type_of% @if_true.{1}∧type_of% @decide_true:=
 ⟨@ZBb.{0},@ξZ.{0},@ZHP.{0},@ZEG.{0},@ZNh.{0},@Qq.{0},@List.drop_nil.{0},@List.take_nil.{0},@Jh.{0},@ξN.{0},@Yc.{0,0},@ZBU.{0,0},@ZBR.{0},@ZAJ.{0},@ZCJ.{0},@ZBu.{0},@Jf,@Yi,@if_true.{1},@decide_true⟩
theorem zR:type_of% @YC∧type_of% @ZN6∧type_of% @ZMY∧type_of% @ZMu∧type_of% @ZPH∧type_of% @ZPL∧type_of% @ZL4∧type_of% @ZOJ∧type_of% @ZQJ∧type_of% @ZO5∧type_of% @ZNb∧type_of% @ZHm∧type_of% @Int.natCast_nonneg:=
 ⟨@YC,@ZN6,@ZMY,@ZMu,@ZPH,@ZPL,@ZL4,@ZOJ,@ZQJ,@ZO5,@ZNb,@ZHm,@Int.natCast_nonneg⟩
theorem zB:type_of% @ZDc∧type_of% @ZQ∧type_of% @ZGd∧type_of% @ZRc∧type_of% @Bool.and_eq_false_iff∧type_of% @Bool.not_eq_false'∧type_of% @Zg∧type_of% @decide_eq_false_iff_not∧type_of% @Bool.not_eq_true∧type_of% @gt_iff_lt.{0}∧type_of% @ge_iff_le.{0}∧type_of% @Int.not_lt∧type_of% @Int.not_le∧type_of% @bne_iff_ne.{0}∧type_of% @ne_eq.{1}∧type_of% @beq_iff_eq.{0}∧type_of% @bne_eq_false_iff_eq.{0}∧type_of% @beq_eq_false_iff_ne.{0}:=
 ⟨@ZDc,@ZQ,@ZGd,@ZRc,@Bool.and_eq_false_iff,@Bool.not_eq_false',@Zg,@decide_eq_false_iff_not,@Bool.not_eq_true,@gt_iff_lt.{0},@ge_iff_le.{0},@Int.not_lt,@Int.not_le,@bne_iff_ne.{0},@ne_eq.{1},@beq_iff_eq.{0},@bne_eq_false_iff_eq.{0},@beq_eq_false_iff_ne.{0}⟩
theorem zF:type_of% @zL∧type_of% @zR∧type_of% @Yd.{0,0}∧type_of% @ZBP.{0,0}∧type_of% @ZAD∧type_of% @ZDU∧type_of% @Qz∧type_of% @Qv∧type_of% @ZAF∧type_of% @Zw.{0}∧type_of% @Km.{0}:=
 ⟨@zL,@zR,@Yd.{0,0},@ZBP.{0,0},@ZAD,@ZDU,@Qz,@Qv,@ZAF,@Zw.{0},@Km.{0}⟩
theorem zV:type_of% @Yc.{0,0}∧type_of% @ZBU.{0,0}∧type_of% @ZBb.{0}∧type_of% @ξZ.{0}∧type_of% @ZCJ.{0}∧type_of% @ZBu.{0}∧type_of% @ZLq.{0}∧type_of% @ZRz.{0}∧type_of% @Jf∧type_of% @Yi∧type_of% @ZOZ∧type_of% @Bool.true_or∧type_of% @ZFa∧type_of% @ZOT∧type_of% @ZAD∧type_of% @ZDU∧type_of% @ZK9∧type_of% @ZHn∧type_of% @if_true.{1}∧type_of% @if_false.{1}∧type_of% @YC∧type_of% @Qz∧type_of% @Qv∧type_of% @ZAF∧type_of% @Zw.{0}∧type_of% @Jh.{0}∧type_of% @ξN.{0}∧type_of% @beq_self_eq_true.{0}∧type_of% @Yz∧type_of% @ZHP.{0}∧type_of% @Nat.beq_eq∧type_of% @ZKr∧type_of% @ZKQ:=
 ⟨@Yc.{0,0},@ZBU.{0,0},@ZBb.{0},@ξZ.{0},@ZCJ.{0},@ZBu.{0},@ZLq.{0},@ZRz.{0},@Jf,@Yi,@ZOZ,@Bool.true_or,@ZFa,@ZOT,@ZAD,@ZDU,@ZK9,@ZHn,@if_true.{1},@if_false.{1},@YC,@Qz,@Qv,@ZAF,@Zw.{0},@Jh.{0},@ξN.{0},@beq_self_eq_true.{0},@Yz,@ZHP.{0},@Nat.beq_eq,@ZKr,@ZKQ⟩
theorem zW:type_of% @ZLq.{0}∧type_of% @ZRz.{0}∧type_of% @ZKr∧type_of% @ZKQ∧type_of% @ZGw∧type_of% @KS.{0}∧type_of% @Zh:=
 ⟨@ZLq.{0},@ZRz.{0},@ZKr,@ZKQ,@ZGw,@KS.{0},@Zh⟩
theorem zM:type_of% @zL∧type_of% @zG∧type_of% @zR∧type_of% @zC∧type_of% @decide_false∧type_of% @IntWalk.i64_in∧type_of% @ZFO∧type_of% @ZG3∧type_of% @Qz∧type_of% @Qv∧type_of% @ZAF∧type_of% @ZGI∧type_of% @ZG0∧type_of% @ZFL∧type_of% @ZDy∧type_of% @ZCw∧type_of% @Kb∧type_of% @Kv∧type_of% @ZHS.{0}∧type_of% @ZA7.{0,0}∧type_of% @ZEL.{0,0}∧type_of% @ZQs∧type_of% @ZRb∧type_of% @ZOW.{0}∧type_of% @ZNl.{0}∧type_of% @Ku.{0,0,0}∧type_of% @ZLm.{0,0,0}∧type_of% @QZ.{0}∧type_of% @Yt.{0}∧type_of% @true_and∧type_of% @and_true∧type_of% @if_false.{1}∧type_of% @bne_self_eq_false.{0}∧type_of% @ZBr.{0}∧type_of% @ZJa.{0}:=
 ⟨@zL,@zG,@zR,@zC,@decide_false,@IntWalk.i64_in,@ZFO,@ZG3,@Qz,@Qv,@ZAF,@ZGI,@ZG0,@ZFL,@ZDy,@ZCw,@Kb,@Kv,@ZHS.{0},@ZA7.{0,0},@ZEL.{0,0},@ZQs,@ZRb,@ZOW.{0},@ZNl.{0},@Ku.{0,0,0},@ZLm.{0,0,0},@QZ.{0},@Yt.{0},@true_and,@and_true,@if_false.{1},@bne_self_eq_false.{0},@ZBr.{0},@ZJa.{0}⟩
theorem zS:type_of% @zL∧type_of% @zG∧type_of% @zR∧type_of% @zC∧type_of% @Ob.beq_refl∧type_of% @ZOW.{0}∧type_of% @ZNl.{0}∧type_of% @Kb∧type_of% @Kv∧type_of% @ZTV∧type_of% @ZGI∧type_of% @ZG0∧type_of% @ZFL∧type_of% @ZDy∧type_of% @ZCw∧type_of% @ZHS.{0}∧type_of% @Qz∧type_of% @Qv∧type_of% @ZAF∧type_of% @ZQj∧type_of% @ZPn∧type_of% @ZOV∧type_of% @ZMU∧type_of% @ZKm∧type_of% @ZLv.{0}∧type_of% @QG.{0}∧type_of% @ZFO∧type_of% @ZG3∧type_of% @ZEL.{0,0}∧type_of% @ZA7.{0,0}∧type_of% @YX.some_iff∧type_of% @true_and∧type_of% @and_true∧type_of% @if_false.{1}∧type_of% @ZBr.{0}∧type_of% @ZJa.{0}∧type_of% @Ku.{0,0,0}∧type_of% @ZLm.{0,0,0}∧type_of% @QZ.{0}∧type_of% @Yt.{0}∧type_of% @decide_false∧type_of% @ZQs∧type_of% @ZRb∧type_of% @ZGd∧type_of% @ZNa∧type_of% @ZNZ∧type_of% @ZOf∧type_of% @bne_self_eq_false.{0}∧type_of% @Bool.bne_false∧type_of% @Bool.bne_true:=
 ⟨@zL,@zG,@zR,@zC,@Ob.beq_refl,@ZOW.{0},@ZNl.{0},@Kb,@Kv,@ZTV,@ZGI,@ZG0,@ZFL,@ZDy,@ZCw,@ZHS.{0},@Qz,@Qv,@ZAF,@ZQj,@ZPn,@ZOV,@ZMU,@ZKm,@ZLv.{0},@QG.{0},@ZFO,@ZG3,@ZEL.{0,0},@ZA7.{0,0},@YX.some_iff,@true_and,@and_true,@if_false.{1},@ZBr.{0},@ZJa.{0},@Ku.{0,0,0},@ZLm.{0,0,0},@QZ.{0},@Yt.{0},@decide_false,@ZQs,@ZRb,@ZGd,@ZNa,@ZNZ,@ZOf,@bne_self_eq_false.{0},@Bool.bne_false,@Bool.bne_true⟩
theorem zO:type_of% @ZP5∧type_of% @ZPj∧type_of% @ZPy∧type_of% @ZQM∧type_of% @ZQG∧type_of% @ZPr∧type_of% @ZQo∧type_of% @ZNA∧type_of% @ZOS∧type_of% @ZOO∧type_of% @ZP9∧type_of% @ZZD∧type_of% @ZSV∧type_of% @ZT4∧type_of% @ZSR∧type_of% @ZPx∧type_of% @ZZT∧type_of% @ZZQ∧type_of% @ZaR∧type_of% @ZNL∧type_of% @QA∧type_of% @ZAo∧type_of% @Kk∧type_of% @ZFo∧type_of% @ZJZ∧type_of% @ZHB:=
 ⟨@ZP5,@ZPj,@ZPy,@ZQM,@ZQG,@ZPr,@ZQo,@ZNA,@ZOS,@ZOO,@ZP9,@ZZD,@ZSV,@ZT4,@ZSR,@ZPx,@ZZT,@ZZQ,@ZaR,@ZNL,@QA,@ZAo,@Kk,@ZFo,@ZJZ,@ZHB⟩
section
variable {P:Program} {c:Ctx} {E0:Env} {os0 os:List Ob} {n:Nat} {Q:Exit→List (Nat×D)→List Ob→Prop} {φ:List (Nat×D)}
theorem WI.regB{S:Tabs}(hS:SsOk P S)(ks:List Nat){l:List IOp}(h:YX (Zu S true φ os l) (fun φ' os'=>Q .normal (Go.Ab.keep ks φ') os')):WI P c E0 os0 n (.reg l) Q φ os:=
 WI.regA hS ks (fun K hK=>by
  obtain⟨ok,φ',os',h1,h2,h3⟩:=h;exact⟨ok,φ',os',h1,h2,hK _ _ h3⟩)
theorem WI.dregB{S:Tabs}(hS:SsOk P S)(ks:List Nat){k k2:Nat}{rs rs2:List Nat}{l:List IOp}(h:YX (YB S os k rs 0 true φ os.length os [] none l) (fun φ' os'=>Q .normal (Go.Ab.keep ks φ') os')):WI P c E0 os0 n (.dreg k rs k2 rs2 l) Q φ os:=
 WI.dregA hS ks (fun K hK=>by
  obtain⟨ok,φ',os',h1,h2,h3⟩:=h;exact⟨ok,φ',os',h1,h2,hK _ _ h3⟩)
theorem WI.post{ic:IC}(h:WI P c E0 os0 n ic (fun x φ os=> ∃φ2 os2,Wk c E0 os0 n φ os φ2 os2∧Q x φ2 os2) φ os):WI P c E0 os0 n ic Q φ os:=by
 intro code hc E a R hf;refine wp_mono (h code hc E a R hf) ?_;rintro x a' w' ⟨E',φ',os',rfl,R',hf',φ2,os2,hw,hq⟩;obtain⟨E2,e2,R2,f2⟩:=hw E' a' R' hf';exact⟨E2,φ2,os2,e2,R2,f2,hq⟩
theorem Wk.refl:Wk c E0 os0 n φ os φ os:=fun E a R hf=>⟨E,rfl,R,hf⟩
theorem Wk.trans{φ1 φ2:List (Nat×D)}{os1 os2:List Ob}(h:Wk c E0 os0 n φ os φ1 os1)(h':Wk c E0 os0 n φ1 os1 φ2 os2):Wk c E0 os0 n φ os φ2 os2:=fun E a R hf=>by
 obtain⟨E1,e1,R1,f1⟩:=h E a R hf;obtain⟨E2,e2,R2,f2⟩:=h' E1 a R1 f1;exact⟨E2,e2.trans e1,R2,f2⟩
theorem oP{S:Tabs}{ks:List Nat}{φ':List (Nat×D)}(h: ∃φ2 os2,Wk c E0 os0 n φ' os φ2 os2∧Q .normal φ2 os2)(hk:keep ks φ=φ':=by simp only[keep,KL,Nat.reduceEqDiff,if_true,if_false,↓reduceIte,Yz];rfl):YX (Zu S true φ os []) (fun φ' os'=> ∃φ2 os2,Wk c E0 os0 n (keep ks φ') os' φ2 os2∧Q .normal φ2 os2):=osN (by rw[hk];exact h)
theorem dP{S:Tabs}{ks rs:List Nat}{k i id:Nat}{C os1 os':List Ob}{last:Option (List Ob)}{φ':List (Nat×D)}(h: ∃φ2 os2,Wk c E0 os0 n φ' os' φ2 os2∧Q .normal φ2 os2)(hk:keep ks φ=φ':=by simp only[keep,KL,Nat.reduceEqDiff,if_true,if_false,↓reduceIte,Yz];rfl)(hl:last.getD (os1++C)=os':=by simp only[ZLv,QG,KS,ZBR,ZAJ];rfl):YX (YB S os1 k rs i true φ id os C last []) (fun φ' os'=> ∃φ2 os2,Wk c E0 os0 n (keep ks φ') os' φ2 os2∧Q .normal φ2 os2):=dsN (by rw[hk,hl];exact h)
theorem QW(h:Q .normal φ os): ∃φ2 os2,Wk c E0 os0 n φ os φ2 os2∧Q .normal φ2 os2:=⟨φ,os,Wk.refl,h⟩
theorem QE(ρ:List Nat){φ':List (Nat×D)}{os':List Ob}(h: ∃φ2 os2,Wk c E0 os0 n φ' os' φ2 os2∧Q .normal φ2 os2)(hok:ZLI ρ os0.length os.length=true:=by rfl)(hp:ZAI ρ os φ=φ':=by simp (disch:=decide) only[zV,zO,Ob.mpb,frzL,ZAI,ZBT,Qu,Ob.onI,mpP,Yu,Yd,ZA7,D.vw,vwL,D.on,D.inP,YR,Zq,D.ren,Zs,YN,YF,Ob.mp,Ob.ren,D.nn,ZCK,Nat.reduceBEq,Nat.reduceEqDiff,Nat.reduceAdd,↓reduceIte];rfl)(ho:ZBT ρ os=os':=by simp (disch:=decide) only[zV,zO,Ob.mpb,frzL,ZAI,ZBT,Qu,Ob.onI,mpP,Yu,Yd,ZA7,D.vw,vwL,D.on,D.inP,YR,Zq,D.ren,Zs,YN,YF,Ob.mp,Ob.ren,D.nn,ZCK,Nat.reduceBEq,Nat.reduceEqDiff,Nat.reduceAdd,↓reduceIte];rfl): ∃φ2 os2,Wk c E0 os0 n φ os φ2 os2∧Q .normal φ2 os2:=by
 obtain⟨φ2,os2,h1,h2⟩:=h;subst hp ho;exact⟨φ2,os2,(Wk.pick ρ hok).trans h1,h2⟩
theorem ZZA(l:List Nat){os':List Ob}(h: ∃φ2 os2,Wk c E0 os0 n φ os' φ2 os2∧Q .normal φ2 os2)(ho:frzL l os=os':=by simp only[frzL,ZBb,ξZ,ZCJ,ZBu];rfl): ∃φ2 os2,Wk c E0 os0 n φ os φ2 os2∧Q .normal φ2 os2:=by
 obtain⟨φ2,os2,h1,h2⟩:=h;subst ho;exact⟨φ2,os2,(Wk.freeze l).trans h1,h2⟩
theorem WI.nnA{ic:IC}{φ':List (Nat×D)}{os':List Ob}(h:WI P c E0 os0 n ic Q φ' os')(hp:ZCK φ=φ':=by simp only[zV,zO,Ob.mpb,frzL,ZAI,ZBT,Qu,Ob.onI,mpP,Yu,Yd,ZA7,D.vw,vwL,D.on,D.inP,YR,Zq,D.ren,Zs,YN,YF,Ob.mp,Ob.ren,D.nn,ZCK,Nat.reduceBEq,Nat.reduceEqDiff,Nat.reduceAdd,↓reduceIte];rfl)(ho:os.map (Ob.mpb D.nn)=os':=by simp only[zV,zO,Ob.mpb,frzL,ZAI,ZBT,Qu,Ob.onI,mpP,Yu,Yd,ZA7,D.vw,vwL,D.on,D.inP,YR,Zq,D.ren,Zs,YN,YF,Ob.mp,Ob.ren,D.nn,ZCK,Nat.reduceBEq,Nat.reduceEqDiff,Nat.reduceAdd,↓reduceIte];rfl):WI P c E0 os0 n ic Q φ os:=WI.nn (by rw[hp,ho];exact h)
theorem WI.pickA(ρ:List Nat){ic:IC}{φ':List (Nat×D)}{os':List Ob}(h:WI P c E0 os0 n ic Q φ' os')(hok:ZLI ρ os0.length os.length=true:=by rfl)(hp:ZAI ρ os φ=φ':=by simp (disch:=decide) only[zV,zO,Ob.mpb,frzL,ZAI,ZBT,Qu,Ob.onI,mpP,Yu,Yd,ZA7,D.vw,vwL,D.on,D.inP,YR,Zq,D.ren,Zs,YN,YF,Ob.mp,Ob.ren,D.nn,ZCK,Nat.reduceBEq,Nat.reduceEqDiff,Nat.reduceAdd,↓reduceIte];rfl)(ho:ZBT ρ os=os':=by simp (disch:=decide) only[zV,zO,Ob.mpb,frzL,ZAI,ZBT,Qu,Ob.onI,mpP,Yu,Yd,ZA7,D.vw,vwL,D.on,D.inP,YR,Zq,D.ren,Zs,YN,YF,Ob.mp,Ob.ren,D.nn,ZCK,Nat.reduceBEq,Nat.reduceEqDiff,Nat.reduceAdd,↓reduceIte];rfl):WI P c E0 os0 n ic Q φ os:=WI.pick ρ hok (by rw[hp,ho];exact h)
theorem WI.freezeA(l:List Nat){ic:IC}{os':List Ob}(h:WI P c E0 os0 n ic Q φ os')(ho:frzL l os=os':=by simp only[frzL,ZBb,ξZ,ZCJ,ZBu];rfl):WI P c E0 os0 n ic Q φ os:=WI.freeze l (by rw[ho];exact h)
theorem WI.ownA(t e sz:Nat){ic:IC}{φ':List (Nat×D)}{os':List Ob}(h:WI P c E0 os0 n ic Q φ' os')(ht:get φ t= .x .nils:=by rfl)(hp:put φ t (.ref os.length 0 0 0)=φ':=by simp only[put,Nat.reduceEqDiff,↓reduceIte,ξN,Jh,Nat.reduceAdd];rfl)(ho:os++ [.rows false e sz []]=os':=by simp only[ZAJ,ZBR];rfl):WI P c E0 os0 n ic Q φ os:=WI.own t e sz ht (by rw[hp,ho];exact h)
theorem WI.thawA(mid:Nat){it:Nat}{dk:KK}{ag:Bool}{l R0:List Pr}{cur:Option Pr}{ic:IC}{os':List Ob}(h:WI P c E0 os0 n ic Q φ os')(ho:os[mid]? =some (.mit dk ag l it R0 cur):=by rfl)(hs:os.set mid (.mpo dk ag l)=os':=by simp only[ZCJ,ZBu];rfl):WI P c E0 os0 n ic Q φ os:=WI.thaw mid ho (by rw[hs];exact h)
theorem WI.nextSA{t t2 it m:Nat}{x:IO}{s:List UInt8}{pos:Nat}(ks:List Nat){φ1 φ2:List (Nat×D)}{os2:List Ob}(hend: ¬pos<s.length→Q .normal φ1 os)(hgo:pos<s.length→Q .normal φ2 os2)(hx:(ZA φ x).val= .iref m it:=by rfl)(hcd:(ZA φ x).cond=true:=by rfl)(ho:os[it]? =some (.sit s pos):=by rfl)
  (h1:Go.Ab.keep ks (Go.Ab.put (Go.Ab.put φ t (.tup [.x (.bool false)])) t2 (.x (.bool false)))=φ1:=by simp only[put,keep,KL,Nat.reduceEqDiff,if_true,if_false,↓reduceIte,Yz];rfl) (h2:Go.Ab.keep ks (Go.Ab.put (Go.Ab.put φ t (.tup [.x (.bool true),.x (.int .i64 pos),.x (.int .i32 (Js s pos).1)])) t2 (.x (.bool true)))=φ2:=by simp only[put,keep,KL,Nat.reduceEqDiff,if_true,if_false,↓reduceIte,Yz];rfl)
  (h3:os.set it (.sit s (pos+(Js s pos).2))=os2:=by simp only[ZCJ,ZBu];rfl):WI P c E0 os0 n (.reg [⟨some t,.nxt true x,none⟩,⟨some t2,.ext (.t t) 0,none⟩]) Q φ os:=WI.nextS ks hx hcd ho (by rw[h1];exact hend) (by rw[h2,h3];exact hgo)
theorem WI.nextMA{t t2 it mid:Nat}{x:IO}{dk:KK}{ag:Bool}{l R0:List Pr}{cur:Option Pr}(ks:List Nat){φ1 φ2:List (Nat×D)}{os2:Nat→Pr→List Ob}(hend:R0= []→Q .normal φ1 os)(hgo: ∀(i:Nat) (q:Pr),R0[i]? =some q→Q .normal φ2 (os2 i q))(hx:(ZA φ x).val= .iref mid it:=by rfl)(hcd:(ZA φ x).cond=true:=by rfl)(ho:os[mid]? =some (.mit dk ag l it R0 cur):=by rfl)
  (h1:Go.Ab.keep ks (Go.Ab.put (Go.Ab.put φ t (.tup [.x (.bool false)])) t2 (.x (.bool false)))=φ1:=by simp only[put,keep,KL,Nat.reduceEqDiff,if_true,if_false,↓reduceIte,Yz];rfl) (h2:Go.Ab.keep ks (Go.Ab.put (Go.Ab.put φ t .und) t2 (.x (.bool true)))=φ2:=by simp only[put,keep,KL,Nat.reduceEqDiff,if_true,if_false,↓reduceIte,Yz];rfl)
  (h3: ∀i q,os.set mid (.mit dk ag l it (R0.eraseIdx i) (some q))=os2 i q:=by intro i q;simp only[ZCJ,ZBu];rfl):WI P c E0 os0 n (.reg [⟨some t,.nxt false x,none⟩,⟨some t2,.ext (.t t) 0,none⟩]) Q φ os:=WI.nextM ks hx hcd ho (by rw[h1];exact hend) (by rw[h2];intro i q h;rw[h3];exact hgo i q h)
theorem WI.orderA(ts:List Nat){ic:IC}{φ':List (Nat×D)}(h:WI P c E0 os0 n ic Q φ' os)(hp:ts.map (fun u=>(u,get φ u))=φ':=by simp only[Yc,ZBU,Ab.get,Nat.reduceEqDiff,↓reduceIte,if_true,if_false];rfl):WI P c E0 os0 n ic Q φ os:=WI.order ts (by rw[hp];exact h)
end
section
variable {S:Tabs} {os0 os C:List Ob} {k i id:Nat} {rs:List Nat} {φ φ':List (Nat×D)} {os':List Ob} {last:Option (List Ob)} {o:IOp} {l:List IOp} {ok:Bool} {d:D} {ob:Ob} {K:List (Nat×D)→List Ob→Prop} {Q:Exit→List (Nat×D)→List Ob→Prop} {ks:List Nat}
theorem oN(h:Q .normal φ' os)(hk:keep ks φ=φ':=by simp only[keep,KL,Nat.reduceEqDiff,if_true,if_false,↓reduceIte,Yz];rfl):YX (Zu S true φ os []) (fun φ' os'=>Q .normal (keep ks φ') os'):=osN (by rw[hk];exact h)
theorem dN(h:Q .normal φ' os')(hk:keep ks φ=φ':=by simp only[keep,KL,Nat.reduceEqDiff,if_true,if_false,↓reduceIte,Yz];rfl)(hl:last.getD (os0++C)=os':=by simp only[ZLv,QG,KS,ZBR,ZAJ];rfl):YX (YB S os0 k rs i true φ id os C last []) (fun φ' os'=>Q .normal (keep ks φ') os'):=dsN (by rw[hk,hl];exact h)
theorem oS(h:YX (Zu S true φ' os' l) K)(he:JG S φ os o=some (ok,φ',os'):=by simp only[zC,JG,ZL,ZA,Ab.get,Ab.put,putO,Nat.reduceEqDiff,↓reduceIte,D.val,D.cond,reduceCtorEq,Nat.reduceAdd,Jf,Yi];rfl)(hok:ok=true:=by rfl):YX (Zu S true φ os (o::l)) K:=osS he hok h
theorem oG(h:YX (Zu S true φ' os' l) K)(he:JG S φ os o=some (ok,φ',os'):=by simp (disch:=omega) only[uu,zM,JG,ZL,ZA,Ab.get,Ab.put,putO,Nat.reduceEqDiff,↓reduceIte,D.val,D.cond,reduceCtorEq,Zx,ZBh,Ob.isDrw,JW,ZA9,Qt,ZCq,apm,Qj,IE.isCall,D.cells?,Nat.reduceAdd,Nat.reduceLeDiff,Ob.slice?,Ob.dsl?,Ob.drw?,Nat.reduceSub,Nat.reduceMul,Int.reduceToNat,Int.reduceLE,Int.reduceLT,Int.reduceAdd,Int.reduceSub,Int.reduceMul,Int.reduceNeg,Int.reduceEq,Zo,ZE2,Kg,ZG,JY,YS,YZ,Jb,QN,ZAQ,ZA6,KY,eqR,eqD,ZBp,eqX,nzD,ZCN,unD,ZCF,evK,evC,Qg,QV,Nat.reduceLT,zO];rfl)(hok:ok=true:=by first|with_reducible rfl|omega|(simp;done)|(simp;omega)|rfl|(clear uu;grind)|(clear h;clear uu;grind)):YX (Zu S true φ os (o::l)) K:=osS he hok h
theorem oC(h:YX (Zu S true φ' os' l) K)(he:JG S φ os o=some (ok,φ',os'):=by simp (disch:=omega) only[uu,zS,zW,zO,ZHA,ZEV,D.nn,D.na,ZU,Jp,IE.isCall,Nat.reduceAdd,Nat.reduceSub,Nat.reduceMul,Nat.reduceLeDiff,Nat.reduceLT,Nat.reduceBEq,Int.reduceToNat,Int.reduceLE,Int.reduceLT,Int.reduceAdd,Int.reduceSub,Int.reduceMul,Int.reduceNeg,Int.reduceEq,Nat.reduceEqDiff,Zu,YB,JG,ZL,Zx,ZBh,Ob.isDrw,JW,ZA9,Qt,ZCq,apm,ZA,Ab.get,Ab.put,putO,keep,KL,D.val,D.cond,D.cells?,D.scalar,X.scalar,D.plain,D.isX,ZCN,ZBD,eqD,ZBp,eqX,unD,ZG,ZCF,Kg,Zo,Ks,Yh,YZ,YS,JY,Jb,QN,ZAQ,Ob.slice?,↓reduceIte,reduceCtorEq,JH,evK,evC,Qg,QV,evA,Ke,KG,eqR,nzD,Qj,ZCQ,ZCT,ZCR,ZBB,Qr,ZA6,ZS,IE.frame,Zq,KY,IntWalk.i64_in,Ye,JC,ZFf,Yr,ZGz,ZBa,QJ,Yu,QC,QD,YR,D.inP,Ob.inP,Zs,D.ren,YN,YF,Ob.ren,Jl,KM,Jv,ZDZ,Qd];rfl)(hok:ok=true:=by first|with_reducible rfl|omega|(simp;done)|(simp;omega)|rfl|(clear uu;grind)|(clear h;clear uu;grind)):YX (Zu S true φ os (o::l)) K:=osS he hok h
theorem Yo(h:YX (YB S os0 k rs (i+1) true φ' id os C last l) K)(hf:o.e.frame=true:=by rfl)(he:(JH S φ [] o).map (fun r=>(r.1,putO φ o.dst r.2))=some (ok,φ'):=by simp only[zC,JH,evA,Ke,KG,Ob.beq_refl,JG,ZL,ZA,Ab.get,Ab.put,putO,Nat.reduceEqDiff,↓reduceIte,D.val,D.cond,reduceCtorEq,Nat.reduceAdd,Jf,Yi];rfl)(hok:ok=true:=by rfl):YX (YB S os0 k rs i true φ id os C last (o::l)) K:=dsF hf he hok h
theorem dFG(h:YX (YB S os0 k rs (i+1) true φ' id os C last l) K)(hf:o.e.frame=true:=by rfl)(he:(JH S φ [] o).map (fun r=>(r.1,putO φ o.dst r.2))=some (ok,φ'):=by simp (disch:=omega) only[uu,zM,JH,evA,Ke,KG,Ob.beq_refl,JG,ZL,ZA,Ab.get,Ab.put,putO,Nat.reduceEqDiff,↓reduceIte,D.val,D.cond,reduceCtorEq,Zx,ZBh,Ob.isDrw,JW,ZA9,Qt,ZCq,apm,Qj,IE.isCall,D.cells?,Nat.reduceAdd,Nat.reduceLeDiff,Ob.slice?,Ob.dsl?,Ob.drw?,Nat.reduceSub,Nat.reduceMul,Int.reduceToNat,Int.reduceLE,Int.reduceLT,Int.reduceAdd,Int.reduceSub,Int.reduceMul,Int.reduceNeg,Int.reduceEq,Zo,ZE2,Kg,ZG,JY,YS,YZ,Jb,QN,ZAQ,ZA6,KY,eqR,eqD,ZBp,eqX,nzD,ZCN,unD,ZCF,evK,evC,Qg,QV,Nat.reduceLT,zO];rfl)(hok:ok=true:=by first|with_reducible rfl|omega|(simp;done)|(simp;omega)|rfl|(clear uu;grind)|(clear h;clear uu;grind)):YX (YB S os0 k rs i true φ id os C last (o::l)) K:=dsF hf he hok h
theorem dQG(h:YX (YB S os0 k rs (i+1) true φ' id os C last l) K)(hf:o.e.frame=false:=by rfl)(hm:Zq i rs=false:=by rfl)(hk:Nat.ble (i+1) k=true:=by rfl)(he:(JH S φ os0 o).map (fun r=>(r.1,putO φ o.dst r.2))=some (ok,φ'):=by simp (disch:=omega) only[uu,zM,JH,evA,Ke,KG,Ob.beq_refl,JG,ZL,ZA,Ab.get,Ab.put,putO,Nat.reduceEqDiff,↓reduceIte,D.val,D.cond,reduceCtorEq,Zx,ZBh,Ob.isDrw,JW,ZA9,Qt,ZCq,apm,Qj,IE.isCall,D.cells?,Nat.reduceAdd,Nat.reduceLeDiff,Ob.slice?,Ob.dsl?,Ob.drw?,Nat.reduceSub,Nat.reduceMul,Int.reduceToNat,Int.reduceLE,Int.reduceLT,Int.reduceAdd,Int.reduceSub,Int.reduceMul,Int.reduceNeg,Int.reduceEq,Zo,ZE2,Kg,ZG,JY,YS,YZ,Jb,QN,ZAQ,ZA6,KY,eqR,eqD,ZBp,eqX,nzD,ZCN,unD,ZCF,evK,evC,Qg,QV,Nat.reduceLT,zO];rfl)(hok:ok=true:=by first|with_reducible rfl|omega|(simp;done)|(simp;omega)|rfl|(clear uu;grind)|(clear h;clear uu;grind)):YX (YB S os0 k rs i true φ id os C last (o::l)) K:=dsQ hf hm hk he hok h
theorem dKG(h:YX (YB S os0 k rs (i+1) true φ' (id+1) (os++ [ob]) (C++ [ob]) last l) K)(hf:o.e.frame=false:=by rfl)(hm:Zq i rs=false:=by rfl)(hk:Nat.ble (i+1) k=true:=by rfl)(hn:JH S φ os0 o=none:=by simp (disch:=omega) only[uu,zS,zW,zO,ZHA,ZEV,D.nn,D.na,ZU,Jp,IE.isCall,Nat.reduceAdd,Nat.reduceSub,Nat.reduceMul,Nat.reduceLeDiff,Nat.reduceLT,Nat.reduceBEq,Int.reduceToNat,Int.reduceLE,Int.reduceLT,Int.reduceAdd,Int.reduceSub,Int.reduceMul,Int.reduceNeg,Int.reduceEq,Nat.reduceEqDiff,Zu,YB,JG,ZL,Zx,ZBh,Ob.isDrw,JW,ZA9,Qt,ZCq,apm,ZA,Ab.get,Ab.put,putO,keep,KL,D.val,D.cond,D.cells?,D.scalar,X.scalar,D.plain,D.isX,ZCN,ZBD,eqD,ZBp,eqX,unD,ZG,ZCF,Kg,Zo,Ks,Yh,YZ,YS,JY,Jb,QN,ZAQ,Ob.slice?,↓reduceIte,reduceCtorEq,JH,evK,evC,Qg,QV,evA,Ke,KG,eqR,nzD,Qj,ZCQ,ZCT,ZCR,ZBB,Qr,ZA6,ZS,IE.frame,Zq,KY,IntWalk.i64_in,Ye,JC,ZFf,Yr,ZGz,ZBa,QJ,Yu,QC,QD,YR,D.inP,Ob.inP,Zs,D.ren,YN,YF,Ob.ren,Jl,KM,Jv,ZDZ,Qd])(he:(evK S φ os0 id o).map (fun r=>(r.1,putO φ o.dst r.2.1,r.2.2))=some (ok,φ',ob):=by simp (disch:=omega) only[uu,zS,zW,zO,ZHA,ZEV,D.nn,D.na,ZU,Jp,IE.isCall,Nat.reduceAdd,Nat.reduceSub,Nat.reduceMul,Nat.reduceLeDiff,Nat.reduceLT,Nat.reduceBEq,Int.reduceToNat,Int.reduceLE,Int.reduceLT,Int.reduceAdd,Int.reduceSub,Int.reduceMul,Int.reduceNeg,Int.reduceEq,Nat.reduceEqDiff,Zu,YB,JG,ZL,Zx,ZBh,Ob.isDrw,JW,ZA9,Qt,ZCq,apm,ZA,Ab.get,Ab.put,putO,keep,KL,D.val,D.cond,D.cells?,D.scalar,X.scalar,D.plain,D.isX,ZCN,ZBD,eqD,ZBp,eqX,unD,ZG,ZCF,Kg,Zo,Ks,Yh,YZ,YS,JY,Jb,QN,ZAQ,Ob.slice?,↓reduceIte,reduceCtorEq,JH,evK,evC,Qg,QV,evA,Ke,KG,eqR,nzD,Qj,ZCQ,ZCT,ZCR,ZBB,Qr,ZA6,ZS,IE.frame,Zq,KY,IntWalk.i64_in,Ye,JC,ZFf,Yr,ZGz,ZBa,QJ,Yu,QC,QD,YR,D.inP,Ob.inP,Zs,D.ren,YN,YF,Ob.ren,Jl,KM,Jv,ZDZ,Qd];rfl)(hok:ok=true:=by first|with_reducible rfl|omega|(simp;done)|(simp;omega)|rfl|(clear uu;grind)|(clear h;clear uu;grind)):YX (YB S os0 k rs i true φ id os C last (o::l)) K:=dsK hf hm hk hn he hok h
theorem dAG(h:YX (YB S os0 k rs (i+1) true φ' id os' C (some os') l) K)(hf:o.e.frame=false:=by rfl)(hm:Zq i rs=false:=by rfl)(hk:Nat.ble (i+1) k=false:=by rfl)(he:(evA S φ os o).map (fun r=>(r.1&&(match rs with| []=>true|_=>KG os0 r.2.2),putO φ o.dst r.2.1,r.2.2))=some (ok,φ',os'):=by simp (disch:=omega) only[uu,zM,JH,evA,Ke,KG,Ob.beq_refl,JG,ZL,ZA,Ab.get,Ab.put,putO,Nat.reduceEqDiff,↓reduceIte,D.val,D.cond,reduceCtorEq,Zx,ZBh,Ob.isDrw,JW,ZA9,Qt,ZCq,apm,Qj,IE.isCall,D.cells?,Nat.reduceAdd,Nat.reduceLeDiff,Ob.slice?,Ob.dsl?,Ob.drw?,Nat.reduceSub,Nat.reduceMul,Int.reduceToNat,Int.reduceLE,Int.reduceLT,Int.reduceAdd,Int.reduceSub,Int.reduceMul,Int.reduceNeg,Int.reduceEq,Zo,ZE2,Kg,ZG,JY,YS,YZ,Jb,QN,ZAQ,ZA6,KY,eqR,eqD,ZBp,eqX,nzD,ZCN,unD,ZCF,evK,evC,Qg,QV,Nat.reduceLT,zO];rfl)(hok:ok=true:=by first|with_reducible rfl|omega|(simp;done)|(simp;omega)|rfl|(clear uu;grind)|(clear h;clear uu;grind)):YX (YB S os0 k rs i true φ id os C last (o::l)) K:=dsA hf hm hk he hok h
theorem dQC(h:YX (YB S os0 k rs (i+1) true φ' id os C last l) K)(hf:o.e.frame=false:=by rfl)(hm:Zq i rs=false:=by rfl)(hk:Nat.ble (i+1) k=true:=by rfl)(he:(JH S φ os0 o).map (fun r=>(r.1,putO φ o.dst r.2))=some (ok,φ'):=by simp (disch:=omega) only[uu,zS,zW,zO,ZHA,ZEV,D.nn,D.na,ZU,Jp,IE.isCall,Nat.reduceAdd,Nat.reduceSub,Nat.reduceMul,Nat.reduceLeDiff,Nat.reduceLT,Nat.reduceBEq,Int.reduceToNat,Int.reduceLE,Int.reduceLT,Int.reduceAdd,Int.reduceSub,Int.reduceMul,Int.reduceNeg,Int.reduceEq,Nat.reduceEqDiff,Zu,YB,JG,ZL,Zx,ZBh,Ob.isDrw,JW,ZA9,Qt,ZCq,apm,ZA,Ab.get,Ab.put,putO,keep,KL,D.val,D.cond,D.cells?,D.scalar,X.scalar,D.plain,D.isX,ZCN,ZBD,eqD,ZBp,eqX,unD,ZG,ZCF,Kg,Zo,Ks,Yh,YZ,YS,JY,Jb,QN,ZAQ,Ob.slice?,↓reduceIte,reduceCtorEq,JH,evK,evC,Qg,QV,evA,Ke,KG,eqR,nzD,Qj,ZCQ,ZCT,ZCR,ZBB,Qr,ZA6,ZS,IE.frame,Zq,KY,IntWalk.i64_in,Ye,JC,ZFf,Yr,ZGz,ZBa,QJ,Yu,QC,QD,YR,D.inP,Ob.inP,Zs,D.ren,YN,YF,Ob.ren,Jl,KM,Jv,ZDZ,Qd];rfl)(hok:ok=true:=by first|with_reducible rfl|omega|(simp;done)|(simp;omega)|rfl|(clear uu;grind)|(clear h;clear uu;grind)):YX (YB S os0 k rs i true φ id os C last (o::l)) K:=dsQ hf hm hk he hok h
theorem dKC(h:YX (YB S os0 k rs (i+1) true φ' (id+1) (os++ [ob]) (C++ [ob]) last l) K)(hf:o.e.frame=false:=by rfl)(hm:Zq i rs=false:=by rfl)(hk:Nat.ble (i+1) k=true:=by rfl)(hn:JH S φ os0 o=none:=by simp (disch:=omega) only[uu,zS,zW,zO,ZHA,ZEV,D.nn,D.na,ZU,Jp,IE.isCall,Nat.reduceAdd,Nat.reduceSub,Nat.reduceMul,Nat.reduceLeDiff,Nat.reduceLT,Nat.reduceBEq,Int.reduceToNat,Int.reduceLE,Int.reduceLT,Int.reduceAdd,Int.reduceSub,Int.reduceMul,Int.reduceNeg,Int.reduceEq,Nat.reduceEqDiff,Zu,YB,JG,ZL,Zx,ZBh,Ob.isDrw,JW,ZA9,Qt,ZCq,apm,ZA,Ab.get,Ab.put,putO,keep,KL,D.val,D.cond,D.cells?,D.scalar,X.scalar,D.plain,D.isX,ZCN,ZBD,eqD,ZBp,eqX,unD,ZG,ZCF,Kg,Zo,Ks,Yh,YZ,YS,JY,Jb,QN,ZAQ,Ob.slice?,↓reduceIte,reduceCtorEq,JH,evK,evC,Qg,QV,evA,Ke,KG,eqR,nzD,Qj,ZCQ,ZCT,ZCR,ZBB,Qr,ZA6,ZS,IE.frame,Zq,KY,IntWalk.i64_in,Ye,JC,ZFf,Yr,ZGz,ZBa,QJ,Yu,QC,QD,YR,D.inP,Ob.inP,Zs,D.ren,YN,YF,Ob.ren,Jl,KM,Jv,ZDZ,Qd])(he:(evK S φ os0 id o).map (fun r=>(r.1,putO φ o.dst r.2.1,r.2.2))=some (ok,φ',ob):=by simp (disch:=omega) only[uu,zS,zW,zO,ZHA,ZEV,D.nn,D.na,ZU,Jp,IE.isCall,Nat.reduceAdd,Nat.reduceSub,Nat.reduceMul,Nat.reduceLeDiff,Nat.reduceLT,Nat.reduceBEq,Int.reduceToNat,Int.reduceLE,Int.reduceLT,Int.reduceAdd,Int.reduceSub,Int.reduceMul,Int.reduceNeg,Int.reduceEq,Nat.reduceEqDiff,Zu,YB,JG,ZL,Zx,ZBh,Ob.isDrw,JW,ZA9,Qt,ZCq,apm,ZA,Ab.get,Ab.put,putO,keep,KL,D.val,D.cond,D.cells?,D.scalar,X.scalar,D.plain,D.isX,ZCN,ZBD,eqD,ZBp,eqX,unD,ZG,ZCF,Kg,Zo,Ks,Yh,YZ,YS,JY,Jb,QN,ZAQ,Ob.slice?,↓reduceIte,reduceCtorEq,JH,evK,evC,Qg,QV,evA,Ke,KG,eqR,nzD,Qj,ZCQ,ZCT,ZCR,ZBB,Qr,ZA6,ZS,IE.frame,Zq,KY,IntWalk.i64_in,Ye,JC,ZFf,Yr,ZGz,ZBa,QJ,Yu,QC,QD,YR,D.inP,Ob.inP,Zs,D.ren,YN,YF,Ob.ren,Jl,KM,Jv,ZDZ,Qd];rfl)(hok:ok=true:=by first|with_reducible rfl|omega|(simp;done)|(simp;omega)|rfl|(clear uu;grind)|(clear h;clear uu;grind)):YX (YB S os0 k rs i true φ id os C last (o::l)) K:=dsK hf hm hk hn he hok h
theorem dAC(h:YX (YB S os0 k rs (i+1) true φ' id os' C (some os') l) K)(hf:o.e.frame=false:=by rfl)(hm:Zq i rs=false:=by rfl)(hk:Nat.ble (i+1) k=false:=by rfl)(he:(evA S φ os o).map (fun r=>(r.1&&(match rs with| []=>true|_=>KG os0 r.2.2),putO φ o.dst r.2.1,r.2.2))=some (ok,φ',os'):=by simp (disch:=omega) only[uu,zS,zW,zO,ZHA,ZEV,D.nn,D.na,ZU,Jp,IE.isCall,Nat.reduceAdd,Nat.reduceSub,Nat.reduceMul,Nat.reduceLeDiff,Nat.reduceLT,Nat.reduceBEq,Int.reduceToNat,Int.reduceLE,Int.reduceLT,Int.reduceAdd,Int.reduceSub,Int.reduceMul,Int.reduceNeg,Int.reduceEq,Nat.reduceEqDiff,Zu,YB,JG,ZL,Zx,ZBh,Ob.isDrw,JW,ZA9,Qt,ZCq,apm,ZA,Ab.get,Ab.put,putO,keep,KL,D.val,D.cond,D.cells?,D.scalar,X.scalar,D.plain,D.isX,ZCN,ZBD,eqD,ZBp,eqX,unD,ZG,ZCF,Kg,Zo,Ks,Yh,YZ,YS,JY,Jb,QN,ZAQ,Ob.slice?,↓reduceIte,reduceCtorEq,JH,evK,evC,Qg,QV,evA,Ke,KG,eqR,nzD,Qj,ZCQ,ZCT,ZCR,ZBB,Qr,ZA6,ZS,IE.frame,Zq,KY,IntWalk.i64_in,Ye,JC,ZFf,Yr,ZGz,ZBa,QJ,Yu,QC,QD,YR,D.inP,Ob.inP,Zs,D.ren,YN,YF,Ob.ren,Jl,KM,Jv,ZDZ,Qd];rfl)(hok:ok=true:=by first|with_reducible rfl|omega|(simp;done)|(simp;omega)|rfl|(clear uu;grind)|(clear h;clear uu;grind)):YX (YB S os0 k rs i true φ id os C last (o::l)) K:=dsA hf hm hk he hok h
end
theorem lfN{fz:Bool}{T:Tab}{φ:List (Nat×D)}{os os2:List Ob}{rs:List IRes}{ds:List D}{r R:D}(h:r=R)(he:JZ fz T φ os rs=some (true,ds,os2):=by simp (disch:=omega) only[uu,zF,keep,KL,Yz,if_false,JZ,ZFR,ZEi,ZBf,YZ,YS,ZL,ZA,Ab.get,Nat.reduceEqDiff,↓reduceIte,D.val,D.cond,Nat.reduceAdd,Nat.reduceLeDiff,Ob.slice?,Ob.dsl?,Ob.drw?,ZEL];rfl)(hr:QB ds=r:=by simp only[QB];rfl):((Exit.normal:Exit)= .normal∨(Exit.normal:Exit)= .ret)∧ ∃ds os2,JZ fz T φ os rs=some (true,ds,os2)∧QB ds=R:=⟨.inl rfl,ds,os2,he,by rw[hr];exact h⟩
theorem Zbi{fz:Bool}{T:Tab}{φ:List (Nat×D)}{os os2 OS:List Ob}{rs:List IRes}{ds:List D}{r R:D}(h:r=R∧os2=OS)(he:JZ fz T φ os rs=some (true,ds,os2):=by simp (disch:=omega) only[uu,zF,keep,KL,Yz,if_false,JZ,ZFR,ZEi,ZBf,YZ,YS,ZL,ZA,Ab.get,Nat.reduceEqDiff,↓reduceIte,D.val,D.cond,Nat.reduceAdd,Nat.reduceLeDiff,Ob.slice?,Ob.dsl?,Ob.drw?,ZEL];rfl)(hr:QB ds=r:=by simp only[QB];rfl):((Exit.normal:Exit)= .normal∨(Exit.normal:Exit)= .ret)∧ ∃ds os2,JZ fz T φ os rs=some (true,ds,os2)∧QB ds=R∧os2=OS:=⟨.inl rfl,ds,os2,he,by rw[hr];exact h⟩
theorem lfR{fz:Bool}{T:Tab}{φ:List (Nat×D)}{os os2:List Ob}{rs:List IRes}{ds:List D}{r R:D}(h:r=R)(he:JZ fz T φ os rs=some (true,ds,os2):=by simp (disch:=omega) only[uu,zF,keep,KL,Yz,if_false,JZ,ZFR,ZEi,ZBf,YZ,YS,ZL,ZA,Ab.get,Nat.reduceEqDiff,↓reduceIte,D.val,D.cond,Nat.reduceAdd,Nat.reduceLeDiff,Ob.slice?,Ob.dsl?,Ob.drw?,ZEL];rfl)(hr:QB ds=r:=by simp only[QB];rfl):((Exit.ret:Exit)= .normal∨(Exit.ret:Exit)= .ret)∧ ∃ds os2,JZ fz T φ os rs=some (true,ds,os2)∧QB ds=R:=⟨.inr rfl,ds,os2,he,by rw[hr];exact h⟩
theorem ZIQ{fz:Bool}{T:Tab}{φ:List (Nat×D)}{os os2 OS:List Ob}{rs:List IRes}{ds:List D}{r R:D}(h:r=R∧os2=OS)(he:JZ fz T φ os rs=some (true,ds,os2):=by simp (disch:=omega) only[uu,zF,keep,KL,Yz,if_false,JZ,ZFR,ZEi,ZBf,YZ,YS,ZL,ZA,Ab.get,Nat.reduceEqDiff,↓reduceIte,D.val,D.cond,Nat.reduceAdd,Nat.reduceLeDiff,Ob.slice?,Ob.dsl?,Ob.drw?,ZEL];rfl)(hr:QB ds=r:=by simp only[QB];rfl):((Exit.ret:Exit)= .normal∨(Exit.ret:Exit)= .ret)∧ ∃ds os2,JZ fz T φ os rs=some (true,ds,os2)∧QB ds=R∧os2=OS:=⟨.inr rfl,ds,os2,he,by rw[hr];exact h⟩
theorem ZGc{fz:Bool}{T:Tab}{φ:List (Nat×D)}{os os2 OS:List Ob}{rs:List IRes}{ds:List D}{r R:D}(h:r=R∧ ∃Y,os2=OS++Y)(he:JZ fz T φ os rs=some (true,ds,os2):=by simp (disch:=omega) only[uu,zF,keep,KL,Yz,if_false,JZ,ZFR,ZEi,ZBf,YZ,YS,ZL,ZA,Ab.get,Nat.reduceEqDiff,↓reduceIte,D.val,D.cond,Nat.reduceAdd,Nat.reduceLeDiff,Ob.slice?,Ob.dsl?,Ob.drw?,ZEL];rfl)(hr:QB ds=r:=by simp only[QB];rfl):((Exit.ret:Exit)= .normal∨(Exit.ret:Exit)= .ret)∧ ∃ds os2,JZ fz T φ os rs=some (true,ds,os2)∧QB ds=R∧ ∃Y,os2=OS++Y:=⟨.inr rfl,ds,os2,he,by rw[hr];exact h⟩
theorem Zbf{fz:Bool}{T:Tab}{φ:List (Nat×D)}{os os2:List Ob}{rs:List IRes}{ds:List D}{r:D}{K:D→List Ob→Prop}(h:K r os2)(he:JZ fz T φ os rs=some (true,ds,os2):=by simp (disch:=omega) only[uu,zF,keep,KL,Yz,if_false,JZ,ZFR,ZEi,ZBf,YZ,YS,ZL,ZA,Ab.get,Nat.reduceEqDiff,↓reduceIte,D.val,D.cond,Nat.reduceAdd,Nat.reduceLeDiff,Ob.slice?,Ob.dsl?,Ob.drw?,ZEL];rfl)(hr:QB ds=r:=by simp only[QB];rfl):((Exit.normal:Exit)= .normal∨(Exit.normal:Exit)= .ret)∧ ∃ds os2,JZ fz T φ os rs=some (true,ds,os2)∧K (QB ds) os2:=⟨.inl rfl,ds,os2,he,by rw[hr];exact h⟩
theorem ZIU{fz:Bool}{T:Tab}{φ:List (Nat×D)}{os os2:List Ob}{rs:List IRes}{ds:List D}{r:D}{K:D→List Ob→Prop}(h:K r os2)(he:JZ fz T φ os rs=some (true,ds,os2):=by simp (disch:=omega) only[uu,zF,keep,KL,Yz,if_false,JZ,ZFR,ZEi,ZBf,YZ,YS,ZL,ZA,Ab.get,Nat.reduceEqDiff,↓reduceIte,D.val,D.cond,Nat.reduceAdd,Nat.reduceLeDiff,Ob.slice?,Ob.dsl?,Ob.drw?,ZEL];rfl)(hr:QB ds=r:=by simp only[QB];rfl):((Exit.ret:Exit)= .normal∨(Exit.ret:Exit)= .ret)∧ ∃ds os2,JZ fz T φ os rs=some (true,ds,os2)∧K (QB ds) os2:=⟨.inr rfl,ds,os2,he,by rw[hr];exact h⟩
variable {P:Program}
def QX(g:List D→Option (Bool×D))(args:List D)(os:List Ob):Option (Bool×D×List Ob):=
 (YS os args).bind fun p=>(g (p.1.map .x)).map fun r=>(r.1,r.2,p.2)
theorem ZCo{f:FuncId}{g:List D→Option (Bool×D)}(h: ∀args r,g args=some (true,r)→ZC P f args r): ∀args os r os',QX g args os=some (true,r,os')→ZN P f args os r os':=by
 intro args os r os' hh;obtain⟨p,hp,hh⟩:=Zt hh;obtain⟨⟨q1,q2⟩,hq,e⟩:=ZT hh;simp only[Zb]at e;obtain⟨rfl,rfl,rfl⟩:=e;have hc:=h _ _ hq;intro c E vs R hvl;obtain⟨hlen,hv0⟩:=hvl;obtain⟨st',R1,ev1,hl1,hv1⟩:=ZA8 (vs:=vs.toList) R (fun j d v hd hv=>hv0 j d v hd (by simpa using hv)) (by simpa using hlen) hp;have hvl':VL ⟨E.w,st',[]⟩ [] (p.1.map D.x) vs:=by
  refine⟨by simpa using hl1,fun j d v hd hv=> ?_⟩;rw[Zr]at hd;obtain⟨y,hy,rfl⟩:=ZT hd;exact .x (hv1 j y v hy (by simpa using hv))
 refine(hc E.w st' vs (fun b o hb=>(R1.stm b o hb).1) hvl').mono ?_;rintro e w' ⟨v,st2,rfl,hk,hs1,hs2,hv⟩;obtain⟨R2,ev2⟩:=R1.world w' st2 hk hs1 hs2;refine⟨v,_,rfl,rfl,R2,ev1.trans ev2,hv.mono (E:=⟨w',st2,[]⟩) (os:= []) ?_⟩;exact⟨fun _ _ h=>⟨h,rfl⟩,fun _ _ _ _ _ h=>by simp at h,fun _ _ _ _ h=>by simp at h⟩
section
variable {c:Ctx} {E0:Env} {os0:List Ob} {n:Nat}
def ZKC(P:Program)(c:Ctx)(E0:Env)(os0:List Ob)(n:Nat)(b:IC)(Q:Exit→List (Nat×D)→List Ob→Prop):Nat→List (Nat×D)→List Ob→Prop
 |0,_,_=>False
 |k+1,φ,os=>WI P c E0 os0 n b (ZFN (ZKC P c E0 os0 n b Q k) Q) φ os
theorem WI.loopN{b:IC}{Q:Exit→List (Nat×D)→List Ob→Prop}(k:Nat){φ:List (Nat×D)}{os:List Ob}(h:ZKC P c E0 os0 n b Q k φ os):WI P c E0 os0 n (.loop b) Q φ os:=by
 intro code hc E a R hf;obtain⟨cb,rfl,h1⟩:=ZGf hc;refine wp_loop_rounds k ?_;clear hc
 induction k generalizing φ os E a with
 |zero=>exact h.elim
 |succ k ih=>
  rw[rounds_succ];refine wp_mono (h cb h1 E a R hf) ?_;rintro e a' w' ⟨E',φ',os',rfl,k2,k3,k4⟩;cases e with
  |normal=>exact ih k4 E' a' k2 k3
  |_=>exact⟨E',φ',os',rfl,k2,k3,k4⟩
theorem WI.round{b:IC}{Q:Exit→List (Nat×D)→List Ob→Prop}{k:Nat}{φ:List (Nat×D)}{os:List Ob}(h:WI P c E0 os0 n b (ZFN (ZKC P c E0 os0 n b Q k) Q) φ os):ZKC P c E0 os0 n b Q (k+1) φ os:=h
end
section
variable {P:Program}
theorem ZN.turn{α:Type}(enc:α→X)(val:α→Value)(hvx: ∀w st a,VX w st (enc a) (val a))(hinv: ∀w st a v,VX w st (enc a) v→v=val a){f:FuncId}{e:Nat}{zs ys:List α}(hl:ys.length=zs.length)(h00:zs= []→ys= [])
  (h0:zs= []→ ∀p cap w,Calls P f #[.slice p 0 cap] w fun e w'=>e= .returned (.tuple #[])∧w'=w)
  (h1: ∀(g cap:Nat) (w:World) (cells:Array Value),zs≠ []→w.heap[g]? =some (.cells cells e (0,0))→cells.toList.take zs.length=zs.map val→zs.length≤cap→cap≤maxLen→cells.size=cap*1→
   Calls P f #[.slice (some ⟨g,0,none⟩) zs.length cap] w fun e' w'=>e'= .returned (.tuple #[])∧w.grownBy w' (some g)∧w'.ownsRow 0 e 1 (.slice (some ⟨g,0,none⟩) zs.length cap) zs.length (ys.map val)):
  ZN P f [.ref 0 zs.length 0 zs.length] [.rows false e 1 (zs.map fun a=> [enc a])] (.tup []) [.rows false e 1 (ys.map fun a=> [enc a])]:=by
 intro c E vs R hvl;obtain⟨hsz,hv⟩:=hvl;obtain⟨v0,rfl⟩: ∃v0,vs= #[v0]:=by
  obtain⟨vl⟩:=vs
  match vl,hsz with
  | [a],_=>exact⟨a,rfl⟩
 have h:=hv 0 _ v0 rfl rfl;cases h with
 |ref hr _=>
  have ho: [Ob.rows false e 1 (zs.map fun a=> [enc a])][0]? =some (Ob.rows false e 1 (zs.map fun a=> [enc a])):=rfl;obtain⟨k1,k2⟩:=hr.at ho rfl;obtain⟨k3,b,a,cap,a',cap',k4,rfl,k6,k7,k8,k9,k10,k11⟩:=k2 (by simp);obtain⟨rfl,rfl⟩:=k8 rfl;obtain⟨p,hp,hok⟩:=R.at ho;rw[hp]at k4;have hpb:p=(b,.slice a' zs.length cap'):=ZAb k4;subst hpb;by_cases hz:zs= []
  ·subst hz;obtain rfl:=h00 rfl;refine(h0 rfl a' cap' E.w).mono ?_;rintro _ w' ⟨rfl,rfl⟩;exact⟨_,E,rfl,rfl,R,Evo.refl _ _,.tup #[] rfl (fun j d v h=>by simp at h)⟩
  ·have hpos:0<zs.length:=ZOh.2 hz;obtain⟨xs,⟨q1,q2⟩,q3,q4⟩:=hok;rcases q2 with⟨q2,q5⟩|⟨g,cp,cells,fr,q5,q6,q7,q8,q9,q10,q11⟩
   ·simp only[YL]at q5;omega
   ·simp only[Value.slice.injEq]at q5;obtain⟨rfl,_,rfl⟩:=q5;simp only[YL,KQ]at q10 q7 q1;have hfr:fr=(0,0):=by
     rcases q11 with q11|⟨q11,_⟩
     ·exact q11
     ·cases q11
    subst hfr;have hxs:xs=zs.map val:=by
     apply List.ext_getElem (by rw[q1];simp);intro i hi hi2;have hiz:i<zs.length:=by rw[q1]at hi;exact hi
     have:=q4 i [enc zs[i]] 0 (enc zs[i]) xs[i] (by rw[Zr,Zl hiz];rfl) rfl (by rw[KQ,Jf];exact Zl hi);rw[hinv _ _ _ _ this];simp
    refine(h1 g cap' E.w cells hz q6 (by rw[q10,hxs]) q7 q8 q9).mono ?_;rintro _ w' ⟨rfl,hg,hown⟩;obtain⟨R',ev⟩:=R.set ho hp w' (.rows false e 1 (ys.map fun a=> [enc a])) (b,.slice (some ⟨g,0,none⟩) zs.length cap') ⟨hg.os,hg.tape,hg.output,hg.size,fun k hk hm=>hg.block k hk (fun e=>hm (by cases e;rfl))⟩ (fun b' hb'=> .inl hb') (fun sz rs1 h=>by
      simp only[Ob.sl?,Za,Zb]at h;obtain⟨rfl,rfl⟩:=h;exact⟨(ys.map fun a=> [enc a]).length,rfl,.inl ⟨by simp[hl],rfl⟩⟩) (fun k h=>by cases h) (fun ev=>by
      refine⟨ys.map val,?_,fun r hr=> ?_,fun i r j x v h1 h2 h3=> ?_⟩
      ·have:=Je.of_owns hown false;simpa[hl]using this
      ·obtain⟨a,_,rfl⟩:=YQ.1 hr;rfl
      ·rw[Zr]at h1;obtain⟨a,ha,rfl⟩:=ZT h1
       match j with
       |0=>
        simp only[ZBb,Za]at h2;subst h2;rw[KQ,Jf,Zr,ha]at h3;simp only[Yd,Za]at h3;subst h3;exact hvx _ _ a
       |j+1=>simp at h2)
    exact⟨_,_,rfl,rfl,R',ev,.tup #[] rfl (fun j d v h=>by simp at h)⟩
end
variable {P:Program} {c:Ctx} {E0:Env} {os0:List Ob} {n:Nat} {Q:Exit→List (Nat×D)→List Ob→Prop} {φ:List (Nat×D)} {os:List Ob}
theorem WI.join{x y:IC}(J:List (Nat×D)→List Ob→Prop)(h:WI P c E0 os0 n x (ZFN J Q) φ os)(h2: ∀φ' os',J φ' os'→WI P c E0 os0 n y Q φ' os'):WI P c E0 os0 n (.seq x y) Q φ os:=by
 refine WI.seq (h.mono fun e φ' os' hh=> ?_);cases e with
 |normal=>exact h2 φ' os' hh
 |_=>exact hh
section
variable {P:Program} {c:Ctx} {E0:Env} {os0 os:List Ob} {n:Nat} {Q:Exit→List (Nat×D)→List Ob→Prop} {φ:List (Nat×D)}
end
section
variable {S:Tabs} {os0 os C:List Ob} {k i id:Nat} {rs kp:List Nat} {φ φ':List (Nat×D)} {os':List Ob} {last:Option (List Ob)} {o:IOp} {l:List IOp} {ok:Bool} {d:D} {ob:Ob} {K:List (Nat×D)→List Ob→Prop} {Q:Exit→List (Nat×D)→List Ob→Prop} {ks:List Nat}
end
section
variable {P:Program} {c:Ctx} {E0:Env} {os0 os:List Ob} {n:Nat} {Q:Exit→List (Nat×D)→List Ob→Prop} {φ:List (Nat×D)}
end
structure Bx (B:Prop):Prop where
 h:B
theorem sd{p:Bool}(h:p=true:=by first|with_reducible rfl|omega|(simp;done)|(simp;omega)|rfl|(clear uu;grind)|(clear h;clear uu;grind)):p=true:=h
theorem se{p:Bool}(h:p=true:=by first|with_reducible rfl|omega):p=true:=h
section
variable {S:Tabs} {os:List Ob} {φ:List (Nat×D)} {l:List IOp} {K:List (Nat×D)→List Ob→Prop} {d:Option Nat} {g:Option (Nat×Bool)}
theorem oMk{x:IO}(h:YX (Zu S true φ os (⟨d,.mv x,none⟩::l)) K):YX (Zu S true φ os (⟨d,.mv x,none⟩::l)) K:=h
theorem oKk{x:IO}(h:YX (Zu S true φ os (⟨d,.nck x,none⟩::l)) K):YX (Zu S true φ os (⟨d,.nck x,none⟩::l)) K:=h
theorem oFk{a:Nat}{x:IO}(h:YX (Zu S true φ os (⟨d,.fad a x,none⟩::l)) K):YX (Zu S true φ os (⟨d,.fad a x,none⟩::l)) K:=h
theorem oGk{o:IOp}(h:YX (Zu S true φ os (o::l)) K):YX (Zu S true φ os (o::l)) K:=h
theorem oCk{f:IO}{xs:List IO}(h:YX (Zu S true φ os (⟨d,.call f xs,g⟩::l)) K):YX (Zu S true φ os (⟨d,.call f xs,g⟩::l)) K:=h
end
section
variable {P:Program} {c:Ctx} {E0:Env} {os0 os:List Ob} {n:Nat} {Q:Exit→List (Nat×D)→List Ob→Prop} {φ:List (Nat×D)}
theorem nz{A B:Prop}(h:A)(k:Bx A→B:=by(intro h;(repeat first|with_reducible refine ZD ?_|with_reducible refine WI.seq ?_|with_reducible refine WI.block ?_|with_reducible refine WI.skip ?_|with_reducible refine Kj ?_|with_reducible refine ZPK ?_|with_reducible refine WI.exit ?_|with_reducible refine ZBE ?_|((with_reducible refine ZPR ?_ ?_);(focus decide))|with_reducible refine Jt ?_|with_reducible refine ZSB ?_);exact h.h)):B:=k ⟨h⟩
theorem rg{S:Tabs}(hS:SsOk P S)(ks:List Nat){l:List IOp}{A B:Prop}(h:A)(k:Bx B→YX (Zu S true φ os l) (fun φ' os'=>Q .normal (Go.Ab.keep ks φ') os'):=by(intro h;(repeat first|((with_reducible refine oMk ?_);refine oS ?_)|((with_reducible refine oKk ?_);refine oS ?_)|((with_reducible refine oFk ?_);refine oS ?_)|((with_reducible refine oGk ?_);(fail_if_success (with_reducible refine oCk ?_));refine oG ?_)|((with_reducible refine oCk ?_);refine oC ?_));refine oN ?_;exact h.h))(k2:Bx A→B:=by(intro h;refine nz ?_;exact h.h)):WI P c E0 os0 n (.reg l) Q φ os:=WI.regB hS ks (k ⟨k2 ⟨h⟩⟩)
theorem rgp{S:Tabs}(hS:SsOk P S)(ks:List Nat){l:List IOp}{A:Prop}(h:A)(k:Bx A→YX (Zu S true φ os l) (fun φ' os'=> ∃φ2 os2,Wk c E0 os0 n (Go.Ab.keep ks φ') os' φ2 os2∧Q .normal φ2 os2):=by(intro h;(repeat first|((with_reducible refine oMk ?_);refine oS ?_)|((with_reducible refine oKk ?_);refine oS ?_)|((with_reducible refine oFk ?_);refine oS ?_)|((with_reducible refine oGk ?_);(fail_if_success (with_reducible refine oCk ?_));refine oG ?_)|((with_reducible refine oCk ?_);refine oC ?_));refine oP ?_;exact h.h)):WI P c E0 os0 n (.reg l) Q φ os:=WI.post (WI.regB hS ks (k ⟨h⟩))
theorem cd{x:IO}{y z:IC}{b:Bool}{p q A B:Prop}(ht:p→A)(he:q→B)(hv:(ZA φ x).val= .x (.bool b):=by exact rfl)(hcd:(ZA φ x).cond=true:=by exact rfl)(hp:b=true→p:=by(intro h;first|(simp only[zB]at h;exact h)|exact h))(hq:b=false→q:=by(intro h;first|(simp only[zB]at h;exact h)|exact h))(kA:Bx A→WI P c E0 os0 n y Q φ os:=by(intro h;refine nz ?_;exact h.h))(kB:Bx B→WI P c E0 os0 n z Q φ os:=by(intro h;refine nz ?_;exact h.h)):WI P c E0 os0 n (.cond x y z) Q φ os:=
 WI.cond hv hcd (fun h=>kA ⟨ht (hp h)⟩) (fun h=>kB ⟨he (hq h)⟩)
theorem ce{x:IO}{y z:IC}{b:Bool}{q B:Prop}(ht:b=true→False)(he:q→B)(hv:(ZA φ x).val= .x (.bool b):=by exact rfl)(hcd:(ZA φ x).cond=true:=by exact rfl)(hq:b=false→q:=by(intro h;first|(simp only[zB]at h;exact h)|exact h))(kB:Bx B→WI P c E0 os0 n z Q φ os:=by(intro h;refine nz ?_;exact h.h)):WI P c E0 os0 n (.cond x y z) Q φ os:=
 WI.cond hv hcd (fun h=>(ht h).elim) (fun h=>kB ⟨he (hq h)⟩)
theorem ct{x:IO}{y z:IC}{b:Bool}{p A:Prop}(ht:p→A)(he:b=false→False)(hv:(ZA φ x).val= .x (.bool b):=by exact rfl)(hcd:(ZA φ x).cond=true:=by exact rfl)(hp:b=true→p:=by(intro h;first|(simp only[zB]at h;exact h)|exact h))(kA:Bx A→WI P c E0 os0 n y Q φ os:=by(intro h;refine nz ?_;exact h.h)):WI P c E0 os0 n (.cond x y z) Q φ os:=
 WI.cond hv hcd (fun h=>kA ⟨ht (hp h)⟩) (fun h=>(he h).elim)
theorem lf{A:Prop}(h:A)(k:Bx A→WI P c E0 os0 n .ret Q φ os:=by(intro h;refine WI.ret ?_;(repeat first|with_reducible refine KZ ?_|with_reducible refine ZAK ?_|with_reducible refine ZT0 ?_);(first|refine lfR ?_|refine ZIQ ?_|refine ZGc ?_|refine ZIU ?_);exact h.h)):WI P c E0 os0 n .ret Q φ os:=k ⟨h⟩
end
section
variable {P:Program} {c:Ctx} {E E0:Env} {os os0:List Ob} {n:Nat} {Q:Exit→List (Nat×D)→List Ob→Prop} {φ:List (Nat×D)}
theorem ZV6{α:Type}(l:List α)(i:Nat)(x:α)(h:l[i]? =some x):l.set i x=l:=by
 apply ZBS;intro j;rw[ZAu];by_cases hj:i=j
 ·subst hj;rw[if_pos rfl,h];simp[(ZP h).1]
 ·simp[hj]
theorem Rel.swap(R:Rel c E os){i:Nat}{o o':Ob}(ho:os[i]? =some o)(hs:o'.sl? =o.sl?)(hk:o.kd=none)(hm: ∀p b,o'.mb p b→o.mb p b)(hok: ∀(E':Env) (os':List Ob) p,Evo E os E' os'→E'.w=E.w→OK E os o p→OK E' os' o' p):Rel c E (os.set i o')∧Evo E os E (os.set i o'):=by
 obtain⟨p,hp,h⟩:=R.at ho;have:=R.set ho hp E.w o' p (Kept.refl _ _) (fun b hb=> .inl (hm p b hb)) (fun sz m hm=>⟨m,by rw[hs];exact hm,.inl ⟨rfl,rfl⟩⟩) (fun k h=>by rw[hk]at h;cases h) (fun ev=>hok _ _ p ev rfl h);rw[ZV6 _ _ _ hp]at this;exact this
theorem Rel.toD(R:Rel c E os){i e sz:Nat}{rs:List (List X)}(ho:os[i]? =some (.rows false e sz rs)):Rel c E (os.set i (.drw e sz (JM rs)))∧Evo E os E (os.set i (.drw e sz (JM rs))):=by
 refine R.swap ho (by simp[Ob.sl?,Qw]) rfl (fun p b h=>h) (fun E' os' p ev hw h=> ?_);obtain⟨xs,h1,h2,h3⟩:=h;refine⟨xs,by rw[hw,Qw];exact h1,fun r hr=> ?_,fun i r j d v hr hd hv=> ?_⟩
 ·obtain⟨r0,h0,rfl⟩:=YQ.1 hr;rw[YL];exact h2 r0 h0
 ·obtain⟨r0,x,g1,g2,rfl⟩:=ZOr hr hd;have:=h3 i r0 j x v g1 g2 hv;exact⟨.x (this.mono ev.st),this.one⟩
theorem Rel.toX(R:Rel c E os){i e sz:Nat}{rs:List (List X)}(ho:os[i]? =some (.drw e sz (JM rs))):Rel c E (os.set i (.rows false e sz rs))∧Evo E os E (os.set i (.rows false e sz rs)):=by
 refine R.swap ho (by simp[Ob.sl?,Qw]) rfl (fun p b h=>h) (fun E' os' p ev hw h=> ?_);obtain⟨xs,h1,h2,h3⟩:=h;refine⟨xs,by rw[hw];rw[Qw]at h1;exact h1,fun r hr=> ?_,fun i r j x v hr hx hv=> ?_⟩
 ·have:=h2 (r.map D.x) (YQ.2 ⟨r,hr,rfl⟩);rwa [YL]at this
 ·have hr':(JM rs)[i]? =some (r.map D.x):=by unfold JM;rw[Zr,hr];rfl
  exact(h3 i _ j (.x x) v hr' (by rw[Zr,hx];rfl) hv).1.xx.mono ev.st
theorem Wk.toD{i e sz:Nat}{rs:List (List X)}(ho:os[i]? =some (.rows false e sz rs)):Wk c E0 os0 n φ os φ (os.set i (.drw e sz (JM rs))):=fun E a R hf=>by
 obtain⟨R1,e1⟩:=R.rel.toD ho;exact⟨E,rfl,⟨R1,R.evo.trans e1⟩,hf.mono e1⟩
theorem Wk.toX{i e sz:Nat}{rs:List (List X)}(ho:os[i]? =some (.drw e sz (JM rs))):Wk c E0 os0 n φ os φ (os.set i (.rows false e sz rs)):=fun E a R hf=>by
 obtain⟨R1,e1⟩:=R.rel.toX ho;exact⟨E,rfl,⟨R1,R.evo.trans e1⟩,hf.mono e1⟩
theorem WI.toDA(i:Nat){e sz:Nat}{rs:List (List X)}{ic:IC}{os':List Ob}(h:WI P c E0 os0 n ic Q φ os')(ho:os[i]? =some (.rows false e sz rs):=by rfl)(hs:os.set i (.drw e sz (JM rs))=os':=by simp only[ZCJ,ZBu];rfl):WI P c E0 os0 n ic Q φ os:=WI.weak (Wk.toD ho) (by rw[hs];exact h)
theorem WI.toXA(i:Nat){e sz:Nat}{rs:List (List X)}{ic:IC}{os':List Ob}(h:WI P c E0 os0 n ic Q φ os')(ho:os[i]? =some (.drw e sz (JM rs)):=by rfl)(hs:os.set i (.rows false e sz rs)=os':=by simp only[ZCJ,ZBu];rfl):WI P c E0 os0 n ic Q φ os:=WI.weak (Wk.toX ho) (by rw[hs];exact h)
end
section
variable {P:Program} {c:Ctx} {E E0:Env} {os os0:List Ob} {n:Nat} {Q:Exit→List (Nat×D)→List Ob→Prop} {φ:List (Nat×D)}
end
section
variable {P:Program} {c:Ctx} {E0:Env} {os os0:List Ob} {n:Nat} {Q:Exit→List (Nat×D)→List Ob→Prop} {φ:List (Nat×D)}
end
section
variable {P:Program} {c:Ctx} {E0:Env} {os os0:List Ob} {n:Nat} {Q:Exit→List (Nat×D)→List Ob→Prop} {φ:List (Nat×D)}
def kN(K:List (Nat×D)→List Ob→Prop):Exit→List (Nat×D)→List Ob→Prop:=fun _ φ os=>K φ os
theorem ZbC{K:List (Nat×D)→List Ob→Prop}(h:K φ os): ∃φ2 os2,Wk c E0 os0 n φ os φ2 os2∧kN K .normal φ2 os2:=⟨φ,os,Wk.refl,h⟩
end
def ZCx:List Ob→List Ob→Bool
 | [],[]=>true
 |x::l,y::l'=>Ob.beq x y&&ZCx l l'
 |_,_=>false
theorem ZES: ∀ {a b:List Ob},ZCx a b=true→a=b
 | [],b,h=>by cases b<;>simp[ZCx]at h;rfl
 |x::l,b,h=>by
  cases b<;>simp[ZCx]at h
  rw[Ob.beq_eq h.1,ZES h.2]
theorem ZDr: ∀a:List Ob,ZCx a a=true
 | []=>rfl
 |x::l=>by simp only[ZCx,ZQ];exact⟨Ob.beq_refl x,ZDr l⟩
def ptT(S:Tabs)(f:FuncId)(A:List D)(O:List Ob)(r:D)(O':List Ob):Tabs:=⟨S.q,fun f' args os=>if f'=f∧D.beqL args A=true∧ZCx os O=true then some (true,r,O')else S.t f' args os,S.r,S.k⟩
theorem ZDH{P:Program}{S:Tabs}(hS:SsOk P S){f:FuncId}{A:List D}{O O':List Ob}{r:D}(he:Enters P f)(hm:ZN P f A O r O'):SsOk P (ptT S f A O r O'):=by
 refine⟨hS.q,fun f' args os r' os' h=> ?_,hS.r,hS.k⟩;simp only[ptT]at h;split at h
 ·rename_i hh;obtain⟨rfl,h2,h3⟩:=hh;rw[D.beqL_eq h2,ZES h3];simp only[Za,Zb,true_and]at h;obtain⟨rfl,rfl⟩:=h;exact⟨he,hm⟩
 ·exact hS.t f' args os r' os' h
theorem ZIk(S:Tabs)(f:FuncId)(A:List D)(O:List Ob)(r:D)(O':List Ob):(ptT S f A O r O').t f A O=some (true,r,O'):=if_pos ⟨rfl,D.beqL_refl A,ZDr O⟩
theorem ZIs(S:Tabs)(f:FuncId)(A:List D)(O:List Ob)(r:D)(O':List Ob):(ptT S f A O r O').q=S.q:=rfl
theorem ZIw(S:Tabs)(f:FuncId)(A:List D)(O:List Ob)(r:D)(O':List Ob):(ptT S f A O r O').r=S.r:=rfl
theorem ZIh(S:Tabs)(f:FuncId)(A:List D)(O:List Ob)(r:D)(O':List Ob):(ptT S f A O r O').k=S.k:=rfl
theorem D.ren_id(f:Nat→Nat)(h: ∀i,f i=i)(d:D):d.ren f=d:=by
 refine D.rec (motive_1:=fun d=>d.ren f=d) (motive_2:=fun l=>Zs f l=l) ?_ ?_ ?_ ?_ ?_ ?_ ?_ ?_ ?_ ?_ ?_ ?_ ?_ ?_ ?_ ?_ ?_ ?_ ?_ d
 all_goals intros
 all_goals first|rfl|(simp only[D.ren,Zs,h];done)|(simp only[D.ren,Zs,h];simp_all)
theorem ZFg(f:Nat→Nat)(h: ∀i,f i=i): ∀l:List D,Zs f l=l
 | []=>rfl
 |d::l=>by rw[Zs,D.ren_id f h,ZFg f h l]
theorem ZQi(f:Nat→Nat)(h: ∀i,f i=i)(p:Pr):Yu f p=p:=by
 unfold Yu;rw[ZFg f h]
theorem ZN5{α:Type}(f:α→α)(h: ∀x,f x=x)(l:List α):l.map f=l:=by
 induction l with
 |nil=>rfl
 |cons a l ih=>rw[Yc,h,ih]
theorem Ob.ren_id(f:Nat→Nat)(h: ∀i,f i=i)(o:Ob):o.ren f=o:=by
 cases o<;>simp only[Ob.ren,h,ZFg f h,ZN5 (Yu f) (ZQi f h),ZN5 (Zs f) (ZFg f h)]
 rename_i cur;cases cur<;>simp only[ZA7,Yd,ZQi f h]
theorem ZT3(h:List D→List Ob→Option (Bool×D×List Ob))(args:List D)(OS:List Ob)(i:Nat)(fz:Bool)(e sz:Nat)(rs:List (List X))(fz':Bool)(e' sz':Nat)(rs':List (List X))(ok:Bool)(r:D)
  (hi:Yr args= [i]) (hn:YR (fun j=>Zq j [i]) args=true) (ho:OS[i]? =some (.rows fz e sz rs)) (hr: ∀f,r.ren f=r)
  (hh:h (Zs (YN [i]) args) [.rows fz e sz rs]=some (ok,r,[.rows fz' e' sz' rs'])):Ye h args OS=some (ok,r,OS.set i (.rows fz' e' sz' rs')):=by
 have hlt:i<OS.length:=(ZP ho).1;have hg:OS.getD i .dead= .rows fz e sz rs:=by rw[ZGu,ho];rfl
 have hm:Zq i []=false:=rfl;have hre:JC OS 64 (Yr args) []= [i]:=by
  rw[hi];simp only[JC,hm,hg,ZGz];rfl
 have hfp:YF [i] OS= [.rows fz e sz rs]:=by
  unfold YF;simp only[Yc,ZBU,hg];rfl
 unfold Ye;rw[hre,hfp,hh,if_pos (by
  unfold QC;simp only[ZBr,ZJa,hg,hn,Zd hlt,QD];rfl)]
 rw[ZBP,if_pos (by simp),hr];congr 3;unfold KM;simp only[Yc,ZBU,Jv,ZNh,ZHP,Jh,ξN,KS];rfl
def fam(e sz:Nat)(l:List (List (List X))):List Ob:=l.map fun rs=> .rows false e sz rs
def ZDY(sz:Nat)(l:List (List (List X))):List Ob:=l.map fun rs=> .frz sz rs
theorem ZIv(e sz:Nat)(l:List (List (List X))):(fam e sz l).length=l.length:=by simp[fam]
theorem ZEN(sz:Nat)(l:List (List (List X))):(ZDY sz l).length=l.length:=by simp[ZDY]
theorem ZQk(o:Ob)(e sz:Nat): ∀(l A:List (List (List X))),frzL (List.range' (A.length+1) l.length) (o::(ZDY sz A++fam e sz l))=o::ZDY sz (A++l)
 | [],A=>by simp[frzL,fam]
 |r::l,A=>by
  have ih:=ZQk o e sz l (A++ [r]);have hg:(o::(ZDY sz A++fam e sz (r::l)))[A.length+1]? =some (.rows false e sz r):=by
   rw[ξZ,KR (by rw[ZEN];exact Zh _),ZEN,ZGw];rfl
  have hs:(o::(ZDY sz A++fam e sz (r::l))).set (A.length+1) (.frz sz r)=o::(ZDY sz (A++ [r])++fam e sz l):=by
   rw[ZBu,ZIA _ _ (by rw[ZEN];exact Zh _),ZEN,ZGw];simp[ZDY,fam]
  rw[Jh,List.range'_succ,frzL,hg];dsimp only;rw[hs];rw[Zw,ZVd,KJ]at ih;exact ih
def KV:Nat→List (List (List X))→List (List D)
 |_,[]=> []
 |k,rs::l=> [.ref k rs.length 0 rs.length]::KV (k+1) l
theorem ZP8(sz:Nat)(os:List Ob): ∀(l:List (List (List X))) (k:Nat),(∀i r,l[i]? =some r→os[k+i]? =some (.frz sz r))→((KV k l).map (List.map (Qu [0] os))).map (Zs (YN [0]))=JM (l.map fun rs=> [.sl rs])
 | [],k,_=>rfl
 |r::l,k,h=>by
  have h0:=h 0 r rfl;have ih:=ZP8 sz os l (k+1) (fun i x hx=>by rw[show k+1+i=k+(i+1) by omega];exact h (i+1) x hx);have hv:Qu [0] os (.ref k r.length 0 r.length)= .x (.sl r):=by
   unfold Qu;rw[D.vw,show os[k]? =some (.frz sz r)from h0];dsimp only;rw[if_pos rfl,ZHP,Km];rfl
  rw[KV,Yc,Yc,ih,Yc,ZBU,hv];rfl
theorem ZXX(e sz:Nat)(l:List (List (List X))):ZBT [0] (.drw e 1 (KV 1 l)::ZDY sz l)= [.drw e 1 (JM (l.map fun rs=> [.sl rs]))]:=by
 have h:=ZP8 sz (.drw e 1 (KV 1 l)::ZDY sz l) l 1 (fun i r hr=>by rw[ZK7,ξZ];unfold ZDY;rw[Zr,hr];rfl);unfold ZBT YF;simp only[Yc,ZBU,ZLq,Ob.mp,Ob.onI,Ob.ren];rw[h]
theorem ZBG(k i:Nat):Zq i (List.range k)=decide (i<k):=by
 rw[ZAs,ZAC,ZEE,Zg]
theorem ZA3{k i:Nat}(h:i<k):YN (List.range k) i=i:=ZIS List.nodup_range (by rw[ZLA h])
theorem ZL7{OS X:List Ob}(hO:OS.all (Ob.inP (fun i=>decide (i<OS.length)))=true):YF (List.range OS.length) (OS++X)=OS:=by
 apply ZBS;intro i;unfold YF;rw[Zr];by_cases h:i<OS.length
 ·rw[ZLA h,Yd,ZGu,Ya h,Zl h,QG];have hp:=YK.1 hO _ (YY h);have:=Ob.ren_ren (F:=fun i=>i) (g:=YN (List.range OS.length)) (p:=fun i=>decide (i<OS.length)) (fun j hj=>ZA3 (of_decide_eq_true hj)) OS[i] hp;rw[Ob.ren_id _ (fun _=>rfl)]at this;rw[this]
 ·rw[ZCV (by simp;omega),ZCV (by omega)];rfl
section
variable {P:Program} {c:Ctx} {E0:Env} {os0:List Ob} {n:Nat} {Q:Exit→List (Nat×D)→List Ob→Prop} {φ:List (Nat×D)}
theorem ZPp(p:Nat→Bool): ∀(φ:List (Nat×D)),φ.all (fun q=>q.2.inP p)=true→ ∀t,(get φ t).inP p=true
 | [],_,t=>rfl
 |(s,d)::φ,h,t=>by
  rw[ZBr,ZQ]at h;unfold Go.Ab.get;split
  ·exact h.1
  ·exact ZPp p φ h.2 t
theorem Wk.dropT{OS X:List Ob}(h0:os0.length≤OS.length)(hO:OS.all (Ob.inP (fun i=>decide (i<OS.length)))=true)(hφ:φ.all (fun p=>p.2.inP (fun i=>decide (i<OS.length)))=true):Wk c E0 os0 n φ (OS++X) φ OS:=by
 intro E a R hf;have hn:(List.range OS.length).Nodup:=List.nodup_range;have hlt: ∀r∈List.range OS.length,r<(OS++X).length:=fun r hr=>by have:=ZEE.1 hr;simp;omega
 have hm:(fun i=>Zq i (List.range OS.length))=fun i=>decide (i<OS.length):=funext (ZBG _)
 have R2:=R.rel.pickO hn hlt (fun r hr=>by
  have h:=ZEE.1 hr;rw[ZGu,Ya h,Zl h,QG,hm];exact YK.1 hO _ (YY h))
 have e2:=ZIW (ρ:=List.range OS.length) R.rel hlt;rw[ZL7 hO]at R2 e2;refine⟨fpE (List.range OS.length) E,rfl,⟨R2,?_⟩,hf.size,hf.defers,fun t=> ?_⟩
 ·have e01:=R.evo;refine⟨e01.st,fun id b cu ds k ho hkd hb=> ?_,fun id o sz rs ho hs=> ?_⟩
  ·have hi:=(ZP ho).1;obtain⟨cu1,ds1,k1,kd1,k2⟩:=e01.bl id b cu ds k ho hkd hb;obtain⟨cu2,ds2,k3,kd2,k4⟩:=e2.bl id b cu1 ds1 k (by rw[ZBG];exact Zd (by omega)) k1 kd1 k2;rw[ZA3 (by omega)]at k3 k4;exact⟨cu2,ds2,k3,kd2,k4⟩
  ·have hi:=(ZP ho).1;obtain⟨o1,rs1,k1,k2,k3⟩:=e01.rf id o sz rs ho hs;obtain⟨o2,rs2,k4,k5,k6⟩:=e2.rf id o1 sz rs1 (by rw[ZBG];exact Zd (by omega)) k1 k2;rw[ZA3 (by omega)]at k4 k6;refine⟨o2,rs2,k4,k5,?_⟩;rcases k3 with⟨k3,k3'⟩|k3<;>rcases k6 with⟨k6,k6'⟩|k6
   ·exact .inl ⟨k3.trans k6,k6'.trans k3'⟩
   ·exact .inr (by omega)
   ·exact .inr (by omega)
   ·exact .inr (by omega)
 ·have hp:=ZPp _ φ hφ t;have h1:V (fpE (List.range OS.length) E) OS ((get φ t).ren (YN (List.range OS.length))) (a.tmps.getD t undef):=(hf.slot t).monoR e2 (by rw[hm];exact hp);have h2:=D.ren_ren (F:=fun i=>i) (g:=YN (List.range OS.length)) (p:=fun i=>decide (i<OS.length)) (fun j hj=>ZA3 (of_decide_eq_true hj)) (get φ t) hp;rw[D.ren_id _ (fun _=>rfl)]at h2;rwa [h2]at h1
theorem ZJ6(OS X:List Ob){os:List Ob}(e:os=OS++X)(h0:os0.length≤OS.length)(hO:OS.all (Ob.inP (fun i=>decide (i<OS.length)))=true)(hφ:φ.all (fun p=>p.2.inP (fun i=>decide (i<OS.length)))=true)(h: ∃φ2 os2,Wk c E0 os0 n φ OS φ2 os2∧Q .normal φ2 os2): ∃φ2 os2,Wk c E0 os0 n φ os φ2 os2∧Q .normal φ2 os2:=by
 subst e;obtain⟨φ2,os2,h1,h2⟩:=h;exact⟨φ2,os2,(Wk.dropT h0 hO hφ).trans h1,h2⟩
theorem WI.dropT(OS X:List Ob){os:List Ob}{ic:IC}(e:os=OS++X)(h0:os0.length≤OS.length)(hO:OS.all (Ob.inP (fun i=>decide (i<OS.length)))=true)(hφ:φ.all (fun p=>p.2.inP (fun i=>decide (i<OS.length)))=true)(h:WI P c E0 os0 n ic Q φ OS):WI P c E0 os0 n ic Q φ os:=by
 subst e;exact WI.weak (Wk.dropT h0 hO hφ) h
end
theorem ZV7(p:Nat→Bool)(e sz:Nat)(l:List (List (List X))):(fam e sz l).all (Ob.inP p)=true:=by
 unfold fam;rw[ZJV];exact YK.2 fun _ _=>rfl
theorem ZLw: ∀(l:List (List (List X))) (k:Nat),(KV k l).length=l.length
 | [],_=>rfl
 |r::l,k=>by rw[KV,Jh,ZLw l,Jh]
theorem ZMC: ∀(l:List (List (List X))) (k i:Nat) (r:List (List X)),l[i]? =some r→(KV k l)[i]? =some [.ref (k+i) r.length 0 r.length]
 | [],_,i,r,h=>by simp at h
 |r::l,k,0,x,h=>by simp at h;subst h;rfl
 |r::l,k,i+1,x,h=>by
  rw[KV,ξZ,ZMC l (k+1) i x (by simpa using h),show k+1+i=k+(i+1) by omega]
theorem ZJ7: ∀(l:List (List (List X))) (k:Nat) (r:List (List X)),KV k (l++ [r])=KV k l++ [[.ref (k+l.length) r.length 0 r.length]]
 | [],k,r=>rfl
 |x::l,k,r=>by rw[ZBR,KV,ZJ7 l,KV,Jh,show k+1+l.length=k+(l.length+1) by omega];rfl
theorem ZJD: ∀(l l':List (List (List X))) (k:Nat),l.map List.length=l'.map List.length→KV k l=KV k l'
 | [],[],_,_=>rfl
 | [],_::_,_,h=>by simp at h
 |_::_,[],_,h=>by simp at h
 |x::l,y::l',k,h=>by
  rw[Yc,Yc,ZOX]at h;rw[KV,KV,h.1,ZJD l l' _ h.2]
theorem ZLy(n:Nat): ∀(l:List (List (List X))) (k:Nat),k+l.length≤n→(KV k l).all (YR (fun i=>decide (i<n)))=true
 | [],_,_=>rfl
 |r::l,k,h=>by
  rw[Jh]at h;rw[KV,ZBr,ZLy n l (k+1) (by omega),ZAD];simp only[YR,D.inP,ZAD,Zg];omega
def ZZ0(e:Nat)(l:List (List (List X))):Ob:= .drw e 1 (KV 1 l)
theorem ZVX(e e2 sz:Nat)(l:List (List (List X))):(ZZ0 e l::fam e2 sz l).all (Ob.inP (fun i=>decide (i<(ZZ0 e l::fam e2 sz l).length)))=true:=by
 rw[ZBr,ZV7,ZAD,Jh,ZIv];exact ZLy _ l 1 (by omega)
theorem ZaH(e sz:Nat)(l:List (List (List X)))(Y:List Ob)(i:Nat)(r:List (List X))(h:l[i]? =some r):(fam e sz l++Y)[i]? =some (.rows false e sz r):=by
 have hi:=(ZP h).1;rw[Ya (by rw[ZIv];exact hi)];unfold fam;rw[Zr,h];rfl
theorem ZYB(e sz:Nat)(l:List (List (List X)))(Y:List Ob)(i:Nat)(r:List (List X))(h:i<l.length):(fam e sz l++Y).set i (.rows false e sz r)=fam e sz (l.set i r)++Y:=by
 rw[ZRK _ _ (by rw[ZIv];exact h)];unfold fam;rw[ZJn]
theorem ZUx(e sz:Nat)(l:List (List (List X)))(r:List (List X)):fam e sz (l++ [r])=fam e sz l++ [.rows false e sz r]:=by simp[fam]
def ZQp(A:List D)(O:List Ob)(r:D)(O':List Ob)(args:List D)(os:List Ob):Option (Bool×D×List Ob):=if D.beqL args A=true∧ZCx os O=true then some (true,r,O')else none
theorem ZQN{P:Program}{f:FuncId}{A:List D}{O O':List Ob}{r:D}(hc:ZN P f A O r O'): ∀args os r' os',ZQp A O r O' args os=some (true,r',os')→ZN P f args os r' os':=by
 intro args os r' os' h;unfold ZQp at h;split at h
 ·rename_i hh;rw[D.beqL_eq hh.1,ZES hh.2];simp only[Za,Zb,true_and]at h;obtain⟨rfl,rfl⟩:=h;exact hc
 ·cases h
theorem ZQA(A:List D)(O:List Ob)(r:D)(O':List Ob):ZQp A O r O' A O=some (true,r,O'):=if_pos ⟨D.beqL_refl A,ZDr O⟩
theorem ZN.row{P:Program}{f:FuncId}{args:List D}{OS:List Ob}{r:D}(i:Nat){fz fz':Bool}{e sz e' sz':Nat}{rs rs':List (List X)}(hc:ZN P f (Zs (YN [i]) args) [.rows fz e sz rs] r [.rows fz' e' sz' rs'])
  (ho:OS[i]? =some (.rows fz e sz rs)) (hi:Yr args= [i]) (hn:YR (fun j=>Zq j [i]) args=true) (hr: ∀f,r.ren f=r):ZN P f args OS r (OS.set i (.rows fz' e' sz' rs')):=
 ZN.lift (ZQN hc) _ _ _ _ (ZT3 _ _ _ i fz e sz rs fz' e' sz' rs' true _ hi hn ho hr (ZQA _ _ _ _))
theorem ZN.new{P:Program}{f:FuncId}{args:List D}{OS os':List Ob}{r:D}(hc:ZN P f args [] r os')(hi:Yr args= [])(hn: ∀p,YR p args=true):ZN P f args OS (r.ren (fun i=>OS.length+i)) (OS++os'.map (Ob.ren (fun i=>OS.length+i))):=by
 have hren: ∀g,Zs g args=args:=fun g=>by
  have:=ZG7 (F:=fun i=>i) (g:=g) (p:=fun _=>false) (fun i h=>by cases h) args (hn _);rwa [ZFg _ (fun _=>rfl)]at this
 refine ZN.lift (h:=ZQp args [] r os') (ZQN hc) _ _ _ _ ?_;have hre:JC OS 64 (Yr args) []= []:=by rw[hi];rfl
 have hf:Jl [] OS.length os'.length=fun i=>OS.length+i:=funext fun i=>by simp[Jl]
 unfold Ye;rw[hre,if_pos (by simp[QC,hn,QD]),hren,show YF [] OS= []from rfl,ZQA,ZBP];dsimp only;rw[if_pos (show([]:List Nat).length≤os'.length from JA _)];unfold KM;rw[hf];cases os'<;>rfl
section
variable {P:Program}
theorem ZJ.mcallsX{f:FuncId}{args:List D}{r:D}{os os':List Ob}(h:ZJ P f args os (fun r' os2=>r'=r∧ ∃X,os2=os'++X))(h0:os.length≤os'.length)(hO:os'.all (Ob.inP (fun i=>decide (i<os'.length)))=true)(hr:r.inP (fun i=>decide (i<os'.length))=true):ZN P f args os r os':=by
 intro c E vs R hvl;refine(h c E vs R hvl).mono ?_;rintro e w' ⟨v,E',r',os2,rfl,rfl,R',ev,hv,rfl,X,rfl⟩;have hn:(List.range os'.length).Nodup:=List.nodup_range;have hlt: ∀r∈List.range os'.length,r<(os'++X).length:=fun r hr=>by have:=ZEE.1 hr;simp;omega
 have hm:(fun i=>Zq i (List.range os'.length))=fun i=>decide (i<os'.length):=funext (ZBG _)
 have R2:=R'.pickO hn hlt (fun r hr=>by
  have h:=ZEE.1 hr;rw[ZGu,Ya h,Zl h,QG,hm];exact YK.1 hO _ (YY h))
 have e2:=ZIW (ρ:=List.range os'.length) R' hlt;rw[ZL7 hO]at R2 e2;refine⟨v,fpE (List.range os'.length) E',rfl,rfl,R2,?_,?_⟩
 ·refine⟨ev.st,fun id b cu ds k ho hkd hb=> ?_,fun id o sz rs ho hs=> ?_⟩
  ·have hi:=(ZP ho).1;obtain⟨cu1,ds1,k1,kd1,k2⟩:=ev.bl id b cu ds k ho hkd hb;obtain⟨cu2,ds2,k3,kd2,k4⟩:=e2.bl id b cu1 ds1 k (by rw[ZBG];exact Zd (by omega)) k1 kd1 k2;rw[ZA3 (by omega)]at k3 k4;exact⟨cu2,ds2,k3,kd2,k4⟩
  ·have hi:=(ZP ho).1;obtain⟨o1,rs1,k1,k2,k3⟩:=ev.rf id o sz rs ho hs;obtain⟨o2,rs2,k4,k5,k6⟩:=e2.rf id o1 sz rs1 (by rw[ZBG];exact Zd (by omega)) k1 k2;rw[ZA3 (by omega)]at k4 k6;refine⟨o2,rs2,k4,k5,?_⟩;rcases k3 with⟨k3,k3'⟩|k3<;>rcases k6 with⟨k6,k6'⟩|k6
   ·exact .inl ⟨k3.trans k6,k6'.trans k3'⟩
   ·exact .inr (by omega)
   ·exact .inr (by omega)
   ·exact .inr (by omega)
 ·have h1:V (fpE (List.range os'.length) E') os' (r'.ren (YN (List.range os'.length))) v:=hv.monoR e2 (by rw[hm];exact hr);have h2:=D.ren_ren (F:=fun i=>i) (g:=YN (List.range os'.length)) (p:=fun i=>decide (i<os'.length)) (fun j hj=>ZA3 (of_decide_eq_true hj)) r' hr;rw[D.ren_id _ (fun _=>rfl)]at h2;rwa [h2]at h1
end
theorem ZC.mc{P:Program}{f:FuncId}{args:List D}{r:D}(h:ZC P f args r)(OS:List Ob)(hi:Yr args= []:=by rfl)(hn: ∀p,YR p args=true:=by intro p;rfl)(hr: ∀g,r.ren g=r:=by intro g;rfl):ZN P f args OS r OS:=by
 have h0:ZN P f args [] r []:=by
  intro c E vs R hvl;have hob:E.ob= []:=ξO (by have:=R.len;simpa using this);obtain⟨w,st,ob⟩:=E;simp only at hob;subst hob;refine(h w st vs (fun b o h=>(R.stm b o h).1) hvl).mono ?_;rintro e w' ⟨v,st',rfl,hk,h1,h2,hv⟩;obtain⟨R',ev⟩:=R.world w' st' hk h1 h2;exact⟨v,_,rfl,rfl,R',ev,hv⟩
 have:=ZN.new (OS:=OS) h0 hi hn;rw[hr,ZBU,KS]at this;exact this
variable {P:Program} {c:Ctx} {E0:Env} {os0:List Ob} {n:Nat} {Q:Exit→List (Nat×D)→List Ob→Prop} {φ:List (Nat×D)} {os:List Ob}
def WR(P:Program)(c:Ctx)(E0:Env)(os0:List Ob)(n:Nat)(l:List IOp)(Q:Exit→List (Nat×D)→List Ob→Prop)(φ:List (Nat×D))(os:List Ob):Prop:=
 ∀(ops:Array Oper) (lo:List Oper),lo.mapM (YO P n ops)=some l→ ∀(E:Env) (a:Act),Run c E0 os0 E os→Fr n E os φ a→
  wpList P ops (fun x a' w'=> ∃E' φ' os',E'.w=w'∧Run c E0 os0 E' os'∧Fr n E' os' φ' a'∧Q x φ' os') lo a E.w
theorem WR.reg{l:List IOp}(h:WR P c E0 os0 n l Q φ os):WI P c E0 os0 n (.reg l) Q φ os:=by
 intro code hc E a R hf;obtain⟨id,ops,rfl,h1⟩:=ZD9 hc;exact wp_region_list (h ops _ h1 E a R hf)
theorem WR.regB{S:Tabs}(hS:SsOk P S)(ks:List Nat){l:List IOp}(h:YX (Zu S true φ os l) (fun φ' os'=>Q .normal (Go.Ab.keep ks φ') os')):WR P c E0 os0 n l Q φ os:=by
 intro ops lo h1 E a R hf;rw[ZDq]at h;obtain⟨ok,φ',os',h2,rfl,h3⟩:=h;obtain⟨⟨ok2,q⟩,h4,h5⟩:=ZT h2;simp at h5;obtain⟨rfl,rfl⟩:=h5;exact ZHo hS R.rel hf h1 h4 (fun E' a' R' e' f'=>⟨E',_,_,rfl,⟨R',R.evo.trans e'⟩,f'.keep ks,h3⟩)
theorem ZK2{α β:Type}(f:α→Option β): ∀(k:Nat) (lo:List α) (l:List β),lo.mapM f=some l→(lo.take k).mapM f=some (l.take k)∧(lo.drop k).mapM f=some (l.drop k)
 |0,lo,l,h=>by simpa using h
 |k+1,[],l,h=>by simp at h;subst h;simp
 |k+1,x::lo,l,h=>by
  simp only[Ku,Yt,YT,QZ]at h;obtain⟨y,h1,l',h2,h3⟩:=h;cases h3;obtain⟨i1,i2⟩:=ZK2 f k lo l' h2;refine⟨?_,by simpa using i2⟩;simp only[Qq,Ku,h1,i1,Yt,ZBP,QZ]
theorem ZQY{S:Tabs}(hS:SsOk P S){ops:Array Oper}{Q:Exit→Act→World→Prop}{lo2:List Oper}: ∀ {l:List Oper} {il:List IOp} {E:Env} {os:List Ob} {φ:List (Nat×D)} {a:Act},Rel c E os→Fr n E os φ a→l.mapM (YO P n ops)=some il→ ∀ {φ':List (Nat×D)} {os':List Ob},JX S φ os il=some (true,φ',os')→
  (∀E' a',Rel c E' os'→Evo E os E' os'→Fr n E' os' φ' a'→wpList P ops Q lo2 a' E'.w)→wpList P ops Q (l++lo2) a E.w
 | [],il,E,os,φ,a,R,hf,hm,φ',os',h,hQ=>by
  simp at hm;subst hm;cases h;exact hQ E a R (Evo.refl _ _) hf
 |o::l,il,E,os,φ,a,R,hf,hm,φ',os',h,hQ=>by
  simp only[Ku,Yt,YT,QZ]at hm;obtain⟨io,hio,il',hil,hm⟩:=hm;cases hm;simp only[JX,YT,Ky]at h;obtain⟨⟨ok,φ1,os1⟩,h1,⟨ok2,φ2,os2⟩,h2,h3⟩:=h;simp at h3;obtain⟨⟨rfl,rfl⟩,rfl,rfl⟩:=h3;rw[ZBR];refine wpList_step fun K hK=>ZLL hS R hf hio h1 (fun E1 a1 R1 e1 f1=> ?_)
  exact hK _ _ (ZQY hS R1 f1 hil h2 (fun E' a' R' e' f'=>hQ E' a' R' (e1.trans e') f'))
theorem WR.cut{S:Tabs}(hS:SsOk P S)(ks:List Nat)(k:Nat){l:List IOp}(h:YX (Zu S true φ os (l.take k)) (fun φ1 os1=> ∃φ2 os2,Wk c E0 os0 n (Go.Ab.keep ks φ1) os1 φ2 os2∧kN (fun φ2 os2=>WR P c E0 os0 n (l.drop k) Q φ2 os2) .normal φ2 os2)):WR P c E0 os0 n l Q φ os:=by
 intro ops lo h1 E a R hf;rw[ZDq]at h;obtain⟨ok,φ',os',h2,rfl,φ2,os2,hw,h3⟩:=h;obtain⟨⟨ok2,q⟩,h4,h5⟩:=ZT h2;simp at h5;obtain⟨rfl,rfl⟩:=h5;obtain⟨i1,i2⟩:=ZK2 _ k lo l h1;rw[←ZDX k lo];refine ZQY hS R.rel hf i1 h4 (fun E' a' R' e' f'=> ?_);obtain⟨E2,hE,R2,f2⟩:=hw E' a' ⟨R',R.evo.trans e'⟩ (f'.keep ks);rw[←hE];exact h3 ops _ i2 E2 a' R2 f2
theorem WI.cutA{S:Tabs}(hS:SsOk P S)(ks:List Nat)(k:Nat){l:List IOp}(h:YX (Zu S true φ os (l.take k)) (fun φ1 os1=> ∃φ2 os2,Wk c E0 os0 n (Go.Ab.keep ks φ1) os1 φ2 os2∧kN (fun φ2 os2=>WR P c E0 os0 n (l.drop k) Q φ2 os2) .normal φ2 os2)):WI P c E0 os0 n (.reg l) Q φ os:=
 WR.reg (WR.cut hS ks k h)
def X.nn0:X→X
 | .nils=> .sl []
 |x=>x
theorem VX.nn0{w:World}{st:Nat→Nat→Prop}{x:X}{v:Value}(h:VX w st x v):VX w st x.nn0 v:=by
 unfold X.nn0;split
 ·exact h.nn
 ·exact h
def D.nn1:D→D
 | .x (.sl rs)=> .x (.sl (rs.map (List.map X.nn0)))
 |d=>d
theorem V.nn1{E:Env}{os:List Ob}{d:D}{v:Value}(h:V E os d v):V E os d.nn1 v:=by
 unfold D.nn1;split
 ·cases h with
  |x h=>
  cases h with
  |sl _ a n c sz val hn hc hm hsz hcell hnil hsp hval=>
   refine .x (.sl _ a n c sz val (by simpa using hn) hc hm (fun r hr=> ?_) hcell hnil hsp (fun i j r x hr hx=> ?_))
   ·obtain⟨r0,h0,rfl⟩:=YQ.1 hr;rw[YL];exact hsz r0 h0
   ·rw[Zr]at hr;obtain⟨r0,h0,rfl⟩:=ZT hr;rw[Zr]at hx;obtain⟨x0,hx0,rfl⟩:=ZT hx;exact(hval i j r0 x0 h0 hx0).nn0
 ·exact h
def ZKj(φ:List (Nat×D)):List (Nat×D):=φ.map fun p=>(p.1,p.2.nn1)
theorem ZYO(φ:List (Nat×D))(t:Nat):get (ZKj φ) t=(get φ t).nn1:=by
 induction φ with
 |nil=>rfl
 |cons p φ ih=>
  obtain⟨u,d⟩:=p;simp only[ZKj,Yc,get];split
  ·rfl
  ·exact ih
theorem Wk.nn1:Wk c E0 os0 n φ os (ZKj φ) os:=fun E a R hf=>⟨E,rfl,R,hf.size,hf.defers,fun t=>by rw[ZYO];exact(hf.slot t).nn1⟩
theorem Zbt{φ':List (Nat×D)}(h: ∃φ2 os2,Wk c E0 os0 n φ' os φ2 os2∧Q .normal φ2 os2)(hp:ZKj φ=φ':=by simp only[ZKj,D.nn1,X.nn0,Yc,ZBU];rfl): ∃φ2 os2,Wk c E0 os0 n φ os φ2 os2∧Q .normal φ2 os2:=by
 obtain⟨φ2,os2,h1,h2⟩:=h;subst hp;exact⟨φ2,os2,Wk.nn1.trans h1,h2⟩
def GP(P:Program)(f:FuncId):Option IFn:=((P.funcs[f]?).filter fun fn=> !(fn.name== "runtime.NumGoroutine")).bind (ZDN P)
theorem ZK1(P:Program):GOk P (GP P):=by
 intro f p h;obtain⟨fn,h1,h2⟩:=Zt h;obtain⟨h3,h4⟩:=Option.filter_eq_some_iff.1 h1;exact⟨fn,h3,by simpa using h4,h2⟩
theorem Zc{P:Program}(f:FuncId)(h:(GP P f).isSome=true:=by kernel_rfl):Enters P f:=by
 obtain⟨p,hp⟩:=Option.isSome_iff_exists.1 h;exact ZWI (ZK1 P) hp
def FG(P:Program)(fz:Bool)(args:List D)(os:List Ob)(Post:D→List Ob→Prop):Option IFn→Prop
 |some p=>args.length≤p.n∧ ∀(c:Ctx) (E0:Env),WI P c E0 os p.n p.body (fun x φ' os'=>(x= .normal∨x= .ret)∧ ∃ds os2,JZ fz (fun _ _=>none) φ' os' p.res=some (true,ds,os2)∧Post (QB ds) os2) (ZAq 0 args) os
 |none=>False
theorem FG.mk{P:Program}{fz:Bool}{args:List D}{os:List Ob}{Post:D→List Ob→Prop}{p:IFn}(h: ∀(c:Ctx) (E0:Env),WI P c E0 os p.n p.body (fun x φ' os'=>(x= .normal∨x= .ret)∧ ∃ds os2,JZ fz (fun _ _=>none) φ' os' p.res=some (true,ds,os2)∧Post (QB ds) os2) (ZAq 0 args) os)(h1:args.length≤p.n:=by exact ξ rfl):FG P fz args os Post (some p):=⟨h1,h⟩
theorem FG.calls{P:Program}{fz:Bool}{f:FuncId}{args:List D}{os:List Ob}{Post:D→List Ob→Prop}(h:FG P fz args os Post (GP P f)):ZJ P f args os Post:=by
 rcases hp:GP P f with _|p
 ·rw[hp]at h;exact h.elim
 ·rw[hp]at h;exact ZXt (ZK1 P) hp args h.1 os h.2
theorem u8L(n:Nat)(h:n<2^8):UInt8.ofBitVec (BitVec.ofFin (Fin.mk n h))=UInt8.ofNatLT n h:=rfl
theorem fC{P:Program}{os:List Ob}{args:List D}{A:Prop}(f:FuncId)(z:Bool){Post:D→List Ob→Prop}(h:A)(k:Bx A→FG P z args os Post (GP P f):=by(intro h;(conv=>arg 6;reduce);refine FG.mk ?_;dsimp only[Int.reduceOfNat,Int.reduceNegSucc,u8L,UInt8.reduceOfNatLT,ZAq];exact h.h)):ZJ P f args os Post:=FG.calls (k ⟨h⟩)
theorem evP{P:Program}(m:Nat)(f:FuncId){S0:Tabs}(h0:SsOk P S0)(nq:List FuncId){args:List D}{r:D}(h:((GP P f).bind fun p=>(ZDm true (ev S0 nq (GP P) m) p args []).map (·.1))=some r:=by kernel_rfl)(hcl:r.clean=true:=by rfl):ZC P f args r:=by
 obtain⟨p,hp,h⟩:=Zt h;exact ZRe (ZK1 P) m hp h0 nq h hcl
section
variable {P:Program} {c:Ctx} {E0:Env} {os0 os:List Ob} {n:Nat} {Q:Exit→List (Nat×D)→List Ob→Prop} {φ:List (Nat×D)}
theorem ZPq{S:Tabs}(hS:SsOk P S){ops:Array Oper}{Q:Exit→Act→World→Prop}{g:FuncId}{caps:List D}(hen:Enters P g){dst:Option Nat}{f:IO}{xs:List IO}{il2:List IOp}{K:List (Nat×D)→List Ob→Prop}{Post:D→List Ob→Prop}{φ1:List (Nat×D)}{os1:List Ob}
  (hv:(ZA φ1 f).val= .fn g caps) (c1:(ZA φ1 f).cond=true) (c2:(xs.all fun y=>(ZA φ1 y).cond)=true) (hpc:ZJ P g ((xs.map fun y=>(ZA φ1 y).val)++caps) os1 Post)
  (h2: ∀r os2,Post r os2→ ∃φ' os',JX S (putO φ1 dst r) os2 il2=some (true,φ',os')∧K φ' os'):
  ∀ {il1:List IOp} {l:List Oper} {E:Env} {os:List Ob} {φ:List (Nat×D)} {a:Act},Rel c E os→Fr n E os φ a→l.mapM (YO P n ops)=some (il1++⟨dst,.call f xs,none⟩::il2)→JX S φ os il1=some (true,φ1,os1)→
  (∀E' a' φ' os',K φ' os'→Rel c E' os'→Evo E os E' os'→Fr n E' os' φ' a'→Q .normal a' E'.w)→wpList P ops Q l a E.w
 |il1,[],E,os,φ,a,R,hf,hm,h1,hQ=>by
  cases il1<;>simp at hm
 | [],o::l,E,os,φ,a,R,hf,hm,h1,hQ=>by
  cases h1;simp only[Ku,Yt,YT,QZ]at hm;obtain⟨io,hio,il',hil,hm⟩:=hm;simp only[ZAJ,Za,ZOX]at hm;obtain⟨rfl,rfl⟩:=hm;simp only[YO,YT]at hio;obtain⟨e,he,hio⟩:=hio;split at hio
  ·rename_i hdst;split at hio
   ·rename_i hg;simp only[Za,IOp.mk.injEq,and_true]at hio;obtain⟨rfl,rfl⟩:=hio;refine wpList_step fun K' hK'=> ?_
    simp only[Region.wanted,hg,if_true];refine ZE0 hf he hv c1 (YK.1 c2) hen (fun vs hvl=>(hpc c E vs R hvl).mono ?_);rintro e w' ⟨v,E',r,os2,rfl,rfl,R',ev,hvv,hpost⟩;obtain⟨φ',os',k1,k2⟩:=h2 r os2 hpost;exact⟨v,rfl,hK' _ _ (ZHo hS R' ((hf.mono ev).putO hdst hvv) hil k1 (fun E2 a2 R2 e2 f2=>hQ E2 a2 φ' os' k2 R2 (ev.trans e2) f2))⟩
   ·obtain⟨s,_,hio⟩:=ZT hio;cases hio
  ·cases hio
 |io::il1,o::l,E,os,φ,a,R,hf,hm,h1,hQ=>by
  simp only[Ku,Yt,YT,QZ]at hm;obtain⟨io',hio,il',hil,hm⟩:=hm;simp only[ZBR,Za,ZOX]at hm;obtain⟨rfl,rfl⟩:=hm;simp only[JX,YT,Ky]at h1;obtain⟨⟨ok,φ3,os3⟩,h3,⟨ok2,φ4,os4⟩,h4,h5⟩:=h1;simp at h5;obtain⟨⟨rfl,rfl⟩,rfl,rfl⟩:=h5;refine wpList_step fun K' hK'=>ZLL hS R hf hio h3 (fun E1 a1 R1 e1 f1=> ?_)
  exact hK' _ _ (ZPq hS hen hv c1 c2 hpc h2 R1 f1 hil h4 (fun E' a' φ' os' k R' e' f'=>hQ E' a' φ' os' k R' (e1.trans e') f'))
theorem WI.regF{S:Tabs}(hS:SsOk P S)(k:Nat){l:List IOp}{dst:Option Nat}{f:IO}{xs:List IO}{g:FuncId}{caps:List D}{φ1:List (Nat×D)}{os1:List Ob}{Post:D→List Ob→Prop}(hk:l[k]? =some ⟨dst,.call f xs,none⟩)(h1:JX S φ os (l.take k)=some (true,φ1,os1))(hen:Enters P g)
  (hv:(ZA φ1 f).val= .fn g caps) (c1:(ZA φ1 f).cond=true) (c2:(xs.all fun y=>(ZA φ1 y).cond)=true) (hpc:ZJ P g ((xs.map fun y=>(ZA φ1 y).val)++caps) os1 Post)
  (h2: ∀r os2,Post r os2→ ∃φ' os',JX S (putO φ1 dst r) os2 (l.drop (k+1))=some (true,φ',os')∧Q .normal φ' os'):WI P c E0 os0 n (.reg l) Q φ os:=by
 intro code hc E a R hf;obtain⟨id,ops,rfl,h3⟩:=ZD9 hc;have hl:l=l.take k++⟨dst,.call f xs,none⟩::l.drop (k+1):=by
  obtain⟨hlt,hk⟩:=ZP hk;rw[←hk,←ZEc hlt,ZDX]
 rw[hl]at h3;exact wp_region_list (ZPq hS hen hv c1 c2 hpc h2 R.rel hf h3 h1 (fun E' a' φ' os' k R' e' f'=>⟨E',φ',os',rfl,⟨R',R.evo.trans e'⟩,f',k⟩))
def ZVk:Nat→IC→IC
 |0,ic=>ic
 |k+1,.seq _ b=>ZVk k b
 |_+1,ic=>ic
def evSeq(S:Tabs)(nq:List FuncId)(G:FuncId→Option IFn)(m:Nat):Nat→IC→List (Nat×D)→List Ob→Option (List (Nat×D)×List Ob)
 |0,_,φ,os=>some (φ,os)
 |k+1,.seq a b,φ,os=>match ev S nq G m a φ os with
  |some (.normal,φ',os')=>evSeq S nq G m k b φ' os'
  |_=>none
 |_+1,_,_,_=>none
theorem WI.evSeq{S:Tabs}(hS:SsOk P S)(nq:List FuncId){G:FuncId→Option IFn}(hG:GOk P G)(m:Nat): ∀(k:Nat) {ic:IC} {φ os φ' os'},Go.Ab.evSeq S nq G m k ic φ os=some (φ',os')→WI P c E0 os0 n (ZVk k ic) Q φ' os'→WI P c E0 os0 n ic Q φ os
 |0,ic,φ,os,φ',os',h,hq=>by cases h;exact hq
 |k+1,.seq a b,φ,os,φ',os',h,hq=>by
  simp only[Go.Ab.evSeq]at h;split at h
  ·rename_i φ1 os1 h1;refine WI.seq (WI.mono ((ZRu hS hG m).1 _ _ _ _ _ _ h1 c E0 os0 n) ?_);rintro e φ2 os2 ⟨rfl,rfl,rfl⟩;exact WI.evSeq hS nq hG m k h hq
  ·cases h
 |k+1,.skip,_,_,_,_,h,_=>by cases h
 |k+1,.reg _,_,_,_,_,h,_=>by cases h
 |k+1,.dreg _ _ _ _ _,_,_,_,_,h,_=>by cases h
 |k+1,.cond _ _ _,_,_,_,_,h,_=>by cases h
 |k+1,.block _ _,_,_,_,_,h,_=>by cases h
 |k+1,.loop _,_,_,_,_,h,_=>by cases h
 |k+1,.exit _,_,_,_,_,h,_=>by cases h
 |k+1,.ret,_,_,_,_,h,_=>by cases h
 |k+1,.label _,_,_,_,_,h,_=>by cases h
 |k+1,.goto _,_,_,_,_,h,_=>by cases h
 |k+1,.scope _ _,_,_,_,_,h,_=>by cases h
 |k+1,.dead,_,_,_,_,h,_=>by cases h
theorem WI.evE{S:Tabs}(hS:SsOk P S)(nq:List FuncId){G:FuncId→Option IFn}(hG:GOk P G)(m:Nat){ic:IC}{x:Exit}{φ':List (Nat×D)}{os':List Ob}(h:ev S nq G m ic φ os=some (x,φ',os'))(hq:Q x φ' os'):WI P c E0 os0 n ic Q φ os:=by
 refine WI.mono ((ZRu hS hG m).1 _ _ _ _ _ _ h c E0 os0 n) ?_;rintro e φ2 os2 ⟨rfl,rfl,rfl⟩;exact hq
end
def ptK(S:Tabs)(f:FuncId)(A:List D)(O:List Ob)(r:Nat→D)(ob:Ob):Tabs:=⟨S.q,S.t,S.r,fun f' args os=>if f'=f∧D.beqL args A=true∧ZCx os O=true then some (true,r,ob)else S.k f' args os⟩
theorem ZS5{P:Program}{S:Tabs}(hS:SsOk P S){f:FuncId}{A:List D}{O:List Ob}{r:Nat→D}{ob:Ob}(he:Enters P f)(hm:ZAw P f A O r ob):SsOk P (ptK S f A O r ob):=by
 refine⟨hS.q,hS.t,hS.r,fun f' args os r' ob' h=> ?_⟩;simp only[ptK]at h;split at h
 ·rename_i hh;obtain⟨rfl,h2,h3⟩:=hh;rw[D.beqL_eq h2,ZES h3];simp only[Za,Zb,true_and]at h;obtain⟨rfl,rfl⟩:=h;exact⟨he,hm⟩
 ·exact hS.k f' args os r' ob' h
theorem ZbD(S:Tabs)(f:FuncId)(A:List D)(O:List Ob)(r:Nat→D)(ob:Ob):(ptK S f A O r ob).k f A O=some (true,r,ob):=if_pos ⟨rfl,D.beqL_refl A,ZDr O⟩
theorem Za6(S:Tabs)(f:FuncId)(A:List D)(O:List Ob)(r:Nat→D)(ob:Ob):(ptK S f A O r ob).q=S.q:=rfl
theorem Zaz(S:Tabs)(f:FuncId)(A:List D)(O:List Ob)(r:Nat→D)(ob:Ob):(ptK S f A O r ob).r=S.r:=rfl
theorem Za0(S:Tabs)(f:FuncId)(A:List D)(O:List Ob)(r:Nat→D)(ob:Ob):(ptK S f A O r ob).t=S.t:=rfl
end Go.Ab
end
