import Derived.Test.YtiogclkbccdefaaGreatDoorLA4
import Derived.Test.YtiogclkbccdefaaGreatDoorLA1
import Derived.LoopN
import Derived.Lib.SlKeysI
set_option linter.unusedSimpArgs false
set_option linter.unusedVariables false
set_option maxRecDepth 100000
section
namespace Go.Ab
open Go.RowKit Go.Bo
structure RC (α:Type) where
 n:Nat
 enc:α->J9
 dec:J9->Option α
structure RC.Good {α:Type} (c:RC α):Prop where
 len: ∀a,(c.enc a).length=c.n
 de: ∀a,c.dec (c.enc a)=some a
 ed: ∀r a,c.dec r=some a->c.enc a=r
def ZBZ(k:IntKind):RC Int:=⟨1,λx=> [.int k x],λ| [.int k' x]=>if k'=k then some x else none|_=>none⟩
def ZB:RC (List UInt8):=⟨1,λs=> [.str s],λ| [.str s]=>some s|_=>none⟩
def ZNv:RC Bool:=⟨1,λs=> [.bool s],λ| [.bool s]=>some s|_=>none⟩
def ZAg:RC Unit:=⟨0,λ_=> [],λ| []=>some ()|_=>none⟩
def JT{α β:Type}(c:RC α)(d:RC β):RC (α×β):=⟨c.n+d.n,λp=>c.enc p.1++d.enc p.2,λr=>(c.dec (r.take c.n)).bind λa=>(d.dec (r.drop c.n)).map λb=>(a,b)⟩
def Zic{α β:Type}(c:RC α)(f:β->α)(g:α->β):RC β:=⟨c.n,λb=>c.enc (f b),λr=>(c.dec r).map g⟩
def rows{α:Type}(c:RC α)(l:List α):J6:=l.map c.enc
def Zb{α:Type}(c:RC α)(rs:J6):Option (List α):=rs.mapM c.dec
def rSl{α:Type}(c:RC α):RC (List α):=⟨1,λl=> [.sl (rows c l)],λ| [.sl rs]=>Zb c rs|_=>none⟩
theorem ZDa{α β:Type}{f:α->Option β}: ∀ {l:List α} {m:List β},l.mapM f=some m↔l.length=m.length/\ ∀(i:Nat) (h:i<l.length) (h':i<m.length),f l[i]=some m[i]
 | [],m=>by
  cases m<;>simp
 |x::l,m=>by
  simp only[Qv,Jj,JB,ZAa,Ze];constructor
  .rintro⟨y,hy,ys,hys,rfl⟩;obtain⟨h1,h2⟩:=ZDa.1 hys;refine⟨by simp[h1],λi h h'=> ?_⟩;cases i with
   |zero=>exact hy
   |succ i=>simpa using h2 i (by simpa using h) (by simpa using h')
  .rintro⟨h1,h2⟩;cases m with
   |nil=>simp at h1
   |cons y ys=>
    refine⟨y,h2 0 J1 J1,ys,ZDa.2 ⟨by simpa using h1,λi h h'=> ?_⟩,rfl⟩;exact h2 (i+1) (by simp;omega) (by simp;omega)
section
variable {α β:Type} {c:RC α} {d:RC β}
theorem Zh(c:RC α)(l:List α):(rows c l).length=l.length:=by simp[rows]
theorem ZST(c:RC α)(l:List α)(i:Nat)(h:i<l.length):(rows c l)[i]? =some (c.enc l[i]):=by simp[rows,h]
theorem ZBS(c:RC α)(l:List α)(k:Nat):(rows c l).drop k=rows c (l.drop k):=by simp[rows]
theorem ZBR(c:RC α)(l:List α)(k:Nat):(rows c l).take k=rows c (l.take k):=by simp[rows]
theorem ZBb(c:RC α)(l m:List α):rows c l++rows c m=rows c (l++m):=by simp[rows]
theorem ZGd(h:c.Good)(l:List α)(sz:Nat)(hs:c.n=sz):((rows c l).all λr=>decide (r.length=sz))=true:=by
 subst hs;rw[Yd];intro r hr;obtain⟨a,_,rfl⟩:=YO.1 hr;simp[h.len]
theorem Zr(h:c.Good)(l:List α):Zb c (rows c l)=some l:=by
 unfold Zb;rw[ZDa];exact⟨by simp[rows],λi h1 h2=>by simp[rows,h.de]⟩
theorem Za(h:c.Good){rs:J6}{l:List α}(hu:Zb c rs=some l):rows c l=rs:=by
 unfold Zb at hu;rw[ZDa]at hu;refine List.ext_getElem (by simp[rows,hu.1]) (λi h1 h2=> ?_);have:=hu.2 i h2 (by simpa[rows]using h1);simpa[rows]using h.ed _ _ this
theorem ZRS(k:IntKind)(n:Int):(ZBZ k).enc n= [.int k n]:=rfl
theorem ZS8(s:List UInt8):ZB.enc s= [.str s]:=rfl
theorem ZQU(b:Bool):ZNv.enc b= [.bool b]:=rfl
theorem ZSf(u:Unit):ZAg.enc u= []:=rfl
theorem ZT0(c:RC α)(l:List α):(rSl c).enc l= [.sl (rows c l)]:=rfl
theorem ZSV(c:RC α)(d:RC β)(p:α×β):(JT c d).enc p=c.enc p.1++d.enc p.2:=rfl
theorem ZSq(c:RC α)(f:β->α)(g:α->β)(b:β):(Zic c f g).enc b=c.enc (f b):=rfl
theorem ZAs(k:IntKind):(ZBZ k).Good:=⟨λ_=>rfl,λa=>by simp[ZBZ],λr a h=>by
 simp only[ZBZ]at h|-;split at h
 .split at h
  .rename_i hk;cases h;rw[hk]
  .cases h
 .cases h⟩
theorem ZP:ZB.Good:=⟨λ_=>rfl,λa=>rfl,λr a h=>by
 simp only[ZB]at h|-;split at h
 .cases h;rfl
 .cases h⟩
theorem ZVb:ZNv.Good:=⟨λ_=>rfl,λa=>rfl,λr a h=>by
 simp only[ZNv]at h|-;split at h
 .cases h;rfl
 .cases h⟩
theorem ZAo:ZAg.Good:=⟨λ_=>rfl,λa=>rfl,λr a h=>by
 simp only[ZAg]at h|-;split at h
 .rfl
 .cases h⟩
theorem Ym(hc:c.Good)(hd:d.Good):(JT c d).Good:=⟨λp=>by simp[JT,hc.len,hd.len],λp=>by
  have h1:(c.enc p.1++d.enc p.2).take c.n=c.enc p.1:=by rw[ZM7 (by rw[hc.len];exact Zm _),Yi (by rw[hc.len];exact Zm _)]
  have h2:(c.enc p.1++d.enc p.2).drop c.n=d.enc p.2:=by rw[<-hc.len p.1];exact List.drop_left
  simp[JT,h1,h2,hc.de,hd.de],λr p h=>by
  simp only[JT,JB,ξm]at h;obtain⟨a,h1,b,h2,rfl⟩:=h;simp only[JT,hc.ed _ _ h1,hd.ed _ _ h2,ZDl]⟩
theorem ZCZ(hc:c.Good):(rSl c).Good:=⟨λ_=>rfl,λl=>Zr hc l,λr l h=>by
 simp only[rSl]at h|-;split at h
 .rw[Za hc h]
 .cases h⟩
end
mutual
def X.wf:X->Prop
 | .sl rs=>rs.length<=maxLen/\X.wfR rs
 | .int _ _=>True
 | .bool _=>True
 | .str _=>True
 | .nilp=>True
 | .nils=>True
def X.wfR:J6->Prop
 | []=>True
 |r::l=>X.wfL r/\X.wfR l
def X.wfL:J9->Prop
 | []=>True
 |x::l=>x.wf/\X.wfL l
end
theorem X.wfL_iff: ∀ {l:J9},X.wfL l↔ ∀x∈l,x.wf
 | []=>by simp[X.wfL]
 |x::l=>by simp[X.wfL,X.wfL_iff (l:=l)]
theorem X.wfR_iff: ∀ {rs:J6},X.wfR rs↔ ∀r∈rs,X.wfL r
 | []=>by simp[X.wfR]
 |r::l=>by simp[X.wfR,X.wfR_iff (rs:=l)]
theorem VX.wf{w:World}{st:Nat->Nat->Prop}{x:X}{v:Value}(h:VX w st x v):x.wf:=by
 induction h with
 |sl rs a n c sz val hn hc hm hsz hcell hnil hsp hval ih=>
  refine⟨J0,X.wfR_iff.2 (λr hr=>X.wfL_iff.2 (λx hx=> ?_))⟩;obtain⟨i,hi⟩:=ZEi.1 hr;obtain⟨j,hj⟩:=ZEi.1 hx;exact ih i j r x hi hj
 |_=>trivial
section
variable {P:Program}
theorem ZC.wf{f:FuncId}{args:J8}{r:D}(h:(∀x,D.x x∈args->x.wf)->ZC P f args r):ZC P f args r:=by
 intro w st vs hst hvl;refine h (λx hx=> ?_) w st vs hst hvl;obtain⟨j,hj⟩:=ZEi.1 hx;have hl:=(ZV hj).1;have hv:vs[j]? =some (vs[j]'(by rw[<-hvl.1];exact hl)):=ξO _;exact(hvl.2 j _ _ hj hv).xx.wf
theorem WI.wf{c:Ctx}{E0:Env}{os0 os:J7}{n:Nat}{Q:Exit->J4->J7->Prop}{φ:J4}{ic:IC}(t:Nat){x:X}(ht:get φ t= .x x)(h:x.wf->WI P c E0 os0 n ic Q φ os):WI P c E0 os0 n ic Q φ os:=by
 intro code hc E a R hf;have:=hf.slot t;rw[ht]at this;exact h this.xx.wf code hc E a R hf
mutual
def X.ok:X->Prop
 | .sl rs=>rs.length<=maxLen/\X.okR rs
 | .int k n=>(Lit.int k n).wf=true
 | .bool _=>True
 | .str s=>s.length<=maxLen
 | .nilp=>True
 | .nils=>True
def X.okR:J6->Prop
 | []=>True
 |r::l=>X.okL r/\X.okR l
def X.okL:J9->Prop
 | []=>True
 |x::l=>x.ok/\X.okL l
end
theorem X.okL_iff: ∀ {l:J9},X.okL l↔ ∀x∈l,x.ok
 | []=>by simp[X.okL]
 |x::l=>by simp[X.okL,X.okL_iff (l:=l)]
theorem X.okR_iff: ∀ {rs:J6},X.okR rs↔ ∀r∈rs,X.okL r
 | []=>by simp[X.okR]
 |r::l=>by simp[X.okR,X.okR_iff (rs:=l)]
theorem X.okL_append{l m:J9}:X.okL (l++m)↔X.okL l/\X.okL m:=by
 simp only[X.okL_iff,Qc];exact⟨λh=>⟨λx hx=>h x (.inl hx),λx hx=>h x (.inr hx)⟩,λh x hx=>hx.elim (h.1 x) (h.2 x)⟩
def ZAe(w:World)(xs:J9)(cs:List Value):Prop:=cs.length=xs.length/\ ∀(j:Nat) (x:X) (v:Value),xs[j]? =some x->cs[j]? =some v->VX w (λb _=>b<w.heap.size) x v
def ZHP(P:Program)(T:TypeId){α:Type}(c:RC α):Prop:=
 P.cellsOf T=c.n/\ ∀ {H:Type} (enc:TypeId×Value->H) (w:World) (fuel:Nat) (cs:List Value) (x:DataW H×List MemPlace),DataW.trod enc P w 0 (λ_=>true) true fuel T cs=some x-> ∃y,ZAe w (c.enc y) cs/\X.okL (c.enc y)
theorem ZAe.one{w:World}{x:X}{v:Value}(h:VX w (λb _=>b<w.heap.size) x v):ZAe w [x] [v]:=⟨rfl,λj y u h1 h2=>by
 cases j with
 |zero=>simp at h1 h2;subst h1;subst h2;exact h
 |succ j=>simp at h1⟩
variable {T:TypeId}
theorem ZZM{k:IntKind}(hT:P.underlying T=some (.int k))(hc:P.cellsOf T=1):ZHP P T (ZBZ k):=
 ⟨hc,λ_ _ _ _ _ h=>let⟨n,h1,_,h3⟩:=DataW.trod_int hT h;⟨n,by rw[h1];exact ZAe.one (.int k n),h3,trivial⟩⟩
theorem Zdj(s:ByteArray):ZR s.toList=s:=by
 apply ByteArray.ext;apply Array.ext';rw[ByteArray.toList_eq];simp[ZR]
theorem ZKk(hT:P.underlying T=some .string)(hc:P.cellsOf T=1):ZHP P T ZB:=by
 refine⟨hc,λ{H} enc w fuel cs x h=> ?_⟩;obtain⟨s,rfl,_,h3⟩:=DataW.trod_string hT h;have h4:VX w (λb _=>b<w.heap.size) (.str s.toList) (.string (ZR s.toList)):= .str _;rw[Zdj]at h4;refine⟨s.toList,ZAe.one h4,?_,trivial⟩;show s.toList.length<=maxLen;rw[ByteArray.toList_eq];simpa using h3
def ZOa(P:Program)(fuel:Nat)(T:TypeId){α:Type}(c:RC α):Prop:= ∀ {H:Type} (enc:TypeId×Value->H) (w:World) (cs:List Value) (x:DataW H×List MemPlace),DataW.trod enc P w 0 (λ_=>true) true fuel T cs=some x-> ∃y,ZAe w (c.enc y) cs/\X.okL (c.enc y)
theorem ZHP.at'{α:Type}{c:RC α}(h:ZHP P T c)(n:Nat):ZOa P n T c:=λenc w cs x hx=>h.2 enc w n cs x hx
theorem ZU4{α:Type}{c:RC α}{e:TypeId}{fuel:Nat}(hG:c.Good)(hT:P.underlying T=some (.slice e))(hce:P.cellsOf e=c.n)(he: ∀n,n<fuel->ZOa P n e c)(h0:0<c.n):ZOa P fuel T (rSl c):=by
 intro H enc w cs x h;rcases DataW.trod_slice hT h with⟨rfl,_⟩|⟨a,len,cap,elems,rest,n,hfuel,rfl,_,_,hl,hm,hlen,hel,hsp,_⟩
 .exact⟨[],ZAe.one (VX.nn .nils),⟨Jy _,trivial⟩,trivial⟩
 .have key: ∀i,i<len-> ∃(y:α) (cs':List Value),ZAe w (c.enc y) cs'/\X.okL (c.enc y)/\ ∀j,j<c.n->w.cell? (a.add (i*c.n+j))=cs'[j]? :=by
   intro i hi;have h1:=hel i hi;rw[YA J0]at h1;obtain⟨cs',h2,h3⟩:=Zv h1;obtain⟨y,hy,hy2⟩:=he n J0 enc w cs' _ h3;obtain⟨_,hcl,hcc⟩:=World.cells?_some h2;rw[hce]at hcl hcc;refine⟨y,cs',hy,hy2,λj hj=> ?_⟩;rw[<-hcc j hj];congr 1;unfold Addr.add;by_cases h4:i*c.n=0<;>by_cases h5:j=0<;>simp[h4,h5,ZGh]
  have spot:0<cap->a.spot=none:=by
   intro hcap;have one: ∀(z:DataW H×List MemPlace),(w.cells? 0 (a.add (0*P.cellsOf e)) (P.cellsOf e)).bind (DataW.trod enc P w 0 (λ_=>true) true n e)=some z->a.spot=none:=by
    intro z hz;obtain⟨cs',h2,h3⟩:=Zv hz;obtain⟨_,hcl,hcc⟩:=World.cells?_some h2;rw[hce]at hcl hcc;have h5:=hcc 0 h0;rw[YA J0]at h5;have:=World.cell?_spot h5;simpa[Addr.add]using this
   by_cases hz:0<len
   .have h1:=hel 0 hz;rw[YA J0]at h1;exact one _ h1
   .obtain⟨r1,r2⟩:=hsp rfl;have h1:=r2 0 J0;rw[YA J0,show len+0=0 by omega]at h1;exact one _ h1
  classical
  by_cases hz:len=0
  .subst hz;refine⟨[],ZAe.one (.sl [] (some a) 0 cap 0 (λ_ _=>undef) rfl (Jy _) hm (λr hr=>by cases hr) (λi j hi=>J0) (λh=>by cases h) (λhc ad had=> ?_) (λi j r x hr=>by simp at hr)),⟨Jy _,trivial⟩,trivial⟩;cases had;exact spot hc
  .have hne:Nonempty α:=let⟨y,_⟩:=key 0 J0;⟨y⟩
   let f:Nat->α:=λi=>if hi:i<len then Classical.choose (key i hi)else Classical.choice hne
   have hsp0:=spot J0;obtain⟨b,off,sp⟩:=a;simp only at hsp0;subst hsp0
   let V':Nat->Nat->Value:=λi j=>if hi:i<len then(Classical.choose (ZVA (key i hi))).getD j undef else undef
   have hf: ∀i (hi:i<len),∃cs',ZAe w (c.enc (f i)) cs'/\X.okL (c.enc (f i))/\(∀j,j<c.n->w.cell? ⟨b,off+i*c.n+j,none⟩=cs'[j]?)/\ ∀j,V' i j=cs'.getD j undef:=by
    intro i hi;obtain⟨h1,h2,h3⟩:=ZVA (ZVA (key i hi));refine⟨_,by simpa only[f,dif_pos hi]using h1,by simpa only[f,dif_pos hi]using h2,λj hj=> ?_,λj=>by simp only[V',dif_pos hi]⟩;rw[<-h3 j hj];congr 1;rw[Yz];simp only[ZGh]
   have hgl:((List.range len).map f).length=len:=by simp
   have hgi: ∀(i:Nat) (r:J9),(rows c ((List.range len).map f))[i]? =some r->i<len/\r=c.enc (f i):=by
    intro i r hr;simp only[rows,YG,ξm]at hr;obtain⟨y,⟨k,hk,rfl⟩,rfl⟩:=hr;have hk1:=(ZV hk).1;simp only[List.length_range]at hk1;rw[ZPC hk1]at hk;cases hk;exact⟨hk1,rfl⟩
   refine⟨(List.range len).map f,ZAe.one (.sl _ (some ⟨b,off,none⟩) len cap c.n V' (by rw[Zh,hgl]) hl hm (λr hr=> ?_) (λi j hi hj=> ?_) (λh=>by cases h) (λ_ ad had=>by cases had;rfl) (λi j r x hr hx=> ?_)),⟨by rw[Zh,hgl];omega,X.okR_iff.2 (λr hr=> ?_)⟩,trivial⟩
   .obtain⟨y,_,rfl⟩:=YO.1 hr;exact hG.len _
   .obtain⟨cs',h1,h2,h3,h4⟩:=hf i hi;have hlc:cs'.length=c.n:=by rw[h1.1,hG.len]
    have h5:=h3 j hj;rw[YA J0]at h5;refine⟨b,off,rfl,World.block_lt_of_cell? _ _ h5,?_⟩;rw[h5,h4];simp[List.getD,hlc,hj]
   .obtain⟨hi,rfl⟩:=hgi i r hr;obtain⟨cs',h1,h2,h3,h4⟩:=hf i hi;have hj:=(ZV hx).1;have hlc:cs'.length=c.n:=by rw[h1.1,hG.len]
    rw[hG.len]at hj;rw[h4];have h5:cs'[j]? =some (cs'[j]' J0):=YA _;simp only[List.getD,h5,ξX];exact h1.2 j x _ hx h5
   .obtain⟨i,hi⟩:=ZEi.1 hr;obtain⟨hi2,rfl⟩:=hgi i r hi;obtain⟨cs',h1,h2,h3,h4⟩:=hf i hi2;exact h2
theorem ZMl{α:Type}{c:RC α}{e:TypeId}(hG:c.Good)(hT:P.underlying T=some (.slice e))(hc:P.cellsOf T=1)(he:ZHP P e c)(h0:0<c.n):ZHP P T (rSl c):=
 ⟨hc,λenc w fuel cs x h=>ZU4 (fuel:=fuel) hG hT he.1 (λn _=>he.at' n) h0 enc w cs x h⟩
def ZBa(g:J8->J5)(args:J8):J5:=g (args.map D.na)
theorem ZMy{f:FuncId}{g:J8->J5}(h: ∀args r,g args=some (true,r)->ZC P f args r): ∀args r,ZBa g args=some (true,r)->ZC P f args r:=λ_ r hg=>ZC.na (h _ r hg)
def ZFN(g:J8->J7->Option (Bool×D×J7))(args:J8)(os:J7):Option (Bool×D×J7):=g (args.map D.nn) (os.map (Ob.mpb D.nn))
end
abbrev ZX:=JT ZB (JT (rSl ZB) ZAg)
abbrev ZBo:=JT ZB (JT (rSl ZX) ZAg)
abbrev ZLu:=JT (ZBZ .i64) (JT (ZBZ .i64) (JT ZBo (JT ZBo (JT ZB ZAg))))
abbrev ZY:=List UInt8×(List (List UInt8)×Unit)
abbrev Kq:=List UInt8×(List ZY×Unit)
abbrev ZeH:=Int×(Int×(Kq×(Kq×(List UInt8×Unit))))
instance decAttr:DecidableEq ZY:=λa b=>decidable_of_iff (a.1=b.1/\a.2.1=b.2.1) ⟨λh=>ZEO h.1 (ZEO h.2 rfl),λh=>h▸⟨rfl,rfl⟩⟩
instance decEntry:DecidableEq Kq:=λa b=>decidable_of_iff (a.1=b.1/\a.2.1=b.2.1) ⟨λh=>ZEO h.1 (ZEO h.2 rfl),λh=>h▸⟨rfl,rfl⟩⟩
instance decChange:DecidableEq ZeH:=λa b=>decidable_of_iff ((a.1=b.1/\a.2.1=b.2.1)/\(a.2.2.1=b.2.2.1/\a.2.2.2.1=b.2.2.2.1)/\a.2.2.2.2.1=b.2.2.2.2.1)
 ⟨λh=>ZEO h.1.1 (ZEO h.1.2 (ZEO h.2.1.1 (ZEO h.2.1.2 (ZEO h.2.2 rfl)))),λh=>h▸⟨⟨rfl,rfl⟩,⟨rfl,rfl⟩,rfl⟩⟩
theorem YR:ZX.Good:=Ym ZP (Ym (ZCZ ZP) ZAo)
theorem ZBw:ZBo.Good:=Ym ZP (Ym (ZCZ YR) ZAo)
theorem ZLV:ZLu.Good:=Ym (ZAs _) (Ym (ZAs _) (Ym ZBw (Ym ZBw (Ym ZP ZAo))))
theorem ZUQ(l:List (List UInt8)):Zb ZB (rows ZB l)=some l:=Zr ZP l
theorem ZUT(k:IntKind)(l:List Int):Zb (ZBZ k) (rows (ZBZ k) l)=some l:=Zr (ZAs k) l
theorem ZRK(l):Zb ZX (rows ZX l)=some l:=Zr YR l
theorem ZPp(l):Zb ZBo (rows ZBo l)=some l:=Zr ZBw l
theorem ZM8(l):Zb ZLu (rows ZLu l)=some l:=Zr ZLV l
theorem ZJb(l):((rows ZB l).all λr=>decide (r.length=1))=true:=ZGd ZP l 1 rfl
theorem ZJS(k)(l):((rows (ZBZ k) l).all λr=>decide (r.length=1))=true:=ZGd (ZAs k) l 1 rfl
theorem ZHn(l):((rows ZX l).all λr=>decide (r.length=2))=true:=ZGd YR l 2 rfl
theorem ZFu(l):((rows ZBo l).all λr=>decide (r.length=2))=true:=ZGd ZBw l 2 rfl
theorem ZFH(l):((rows ZLu l).all λr=>decide (r.length=7))=true:=ZGd ZLV l 7 rfl
section
variable {P:Program} {T:TypeId} {w:World}
theorem ZAe.append{xs ys:J9}{cs ds:List Value}(h:ZAe w xs cs)(k:ZAe w ys ds):ZAe w (xs++ys) (cs++ds):=by
 refine⟨by simp[h.1,k.1],λj x v hx hv=> ?_⟩;by_cases hj:j<xs.length
 .rw[Yc hj]at hx;rw[Yc (by rw[h.1];exact hj)]at hv;exact h.2 j x v hx hv
 .rw[QP J0]at hx;rw[QP (by rw[h.1];omega),h.1]at hv;exact k.2 _ x v hx hv
theorem ZAe.nil:ZAe w [] []:=⟨rfl,λj x v h=>by simp at h⟩
inductive FieldsO (P:Program):List Field->Nat-> {α:Type}->RC α->Prop
 |nil (off:Nat):FieldsO P [] off ZAg
 |cons {f:Field} {fs:List Field} {off:Nat} {α β:Type} {c:RC α} {d:RC β} (ho:f.offset=off) (hE:ZHP P f.type c) (hF:FieldsO P fs (off+c.n) d):FieldsO P (f::fs) off (JT c d)
theorem ZRN{fs:List Field}{off:Nat}{α:Type}{c:RC α}(hf:FieldsO P fs off c){H:Type}(enc:TypeId×Value->H)(w:World)(fuel:Nat)(cs:List Value)
  (h: ∀f∈fs,∃x,DataW.trod enc P w 0 (λ_=>true) true fuel f.type ((cs.drop f.offset).take (P.cellsOf f.type))=some x):
  ∃y,ZAe w (c.enc y) ((cs.drop off).take c.n)/\X.okL (c.enc y):=by
 induction hf with
 |nil off=>exact⟨(),by simpa[ZAg]using ZAe.nil,trivial⟩
 | @cons f fs off α β c d ho hE hF ih=>
  obtain⟨y,hy,hy2⟩:=ih (λg hg=>h g (ξZ _ hg));obtain⟨x,hx⟩:=h f ZDB;obtain⟨z,hz,hz2⟩:=hE.2 enc w fuel _ _ hx;rw[hE.1,ho]at hz;refine⟨(z,y),?_,X.okL_append.2 ⟨hz2,hy2⟩⟩;show ZAe w (c.enc z++d.enc y) ((cs.drop off).take (c.n+d.n));rw[List.take_add,ZMa];exact hz.append hy
theorem ZGf{α:Type}{c:RC α}{fs:Array Field}(hT:P.underlying T=some (.struct fs))(hc:P.cellsOf T=c.n)(hf:FieldsO P fs.toList 0 c):ZHP P T c:=by
 refine⟨hc,λ{H} enc w fuel cs x h=> ?_⟩;obtain⟨xs,n,rfl,_,hl,hxl,hx⟩:=DataW.trod_struct hT h;obtain⟨y,hy⟩:=ZRN hf enc w n cs (λf hf=>by
  obtain⟨i,hi⟩:=ZEi.1 hf;have hi':fs[i]? =some f:=by simpa using hi
  have h1:=hx i f hi';have hlt:i<xs.length:=by rw[hxl];exact(ξH hi').1
  rw[YA hlt]at h1;exact⟨_,h1⟩)
 refine⟨y,?_⟩;rw[ZBk,Yi J0]at hy;exact hy
inductive VF (E:Env) (os:J7):J8->List Value->Prop
 |nil:VF E os [] []
 |cons {d:D} {v:Value} {ds:J8} {l:List Value} (h:V E os d v) (t:VF E os ds l):VF E os (d::ds) (v::l)
theorem VL.mk{E:Env}{os:J7}: ∀ {ds:J8} {l:List Value},VF E os ds l->VL E os ds l.toArray
 |_,_,.nil=>⟨rfl,λj d v h=>by simp at h⟩
 |_,_,.cons (d:=d) (v:=v) (ds:=ds) (l:=l) h t=>by
  have ih:=VL.mk t;refine⟨by have:=ih.1;simp at this|-;exact this,λj d' v' hd hv=> ?_⟩;cases j with
  |zero=>simp at hd hv;subst hd;subst hv;exact h
  |succ j=>exact ih.2 j d' v' (by simpa using hd) (by simpa using hv)
abbrev ZgF(w:World):Env:=⟨w,λb _=>b<w.heap.size,[]⟩
theorem V.lies1{x:X}{v:Value}(h:ZAe w [x] [v]):V (ZgF w) [] (.x x) v:= .x (h.2 0 x v rfl rfl)
theorem ZC.law{f:FuncId}{args:J8}(h:ZC P f args (.x (.bool true))){vs:List Value}(hvl:VF (ZgF w) [] args vs):Calls P f vs.toArray w λe w'=>e= .returned (.bool true)/\Qd w w':=by
 refine(h w (λb _=>b<w.heap.size) vs.toArray (λ_ _ hb=>hb) (VL.mk hvl)).mono ?_;rintro e w' ⟨v,st',rfl,hk,_,_,hv⟩;rw[V.bool hv];exact⟨rfl,hk.os,hk.tape,hk.output,hk.size,λk hb=>hk.block k hb (λh=>h)⟩
end
def YJ(S:Tabs):Bool->J4->J7->List IOp->Option (Bool×List (Nat×D)×J7)
 |b,φ,os,[]=>some (b,φ,os)
 |b,φ,os,o::l=>match JO S φ os o with
  |some r=>YJ S (b&&r.1) r.2.1 r.2.2 l
  |none=>none
theorem ZF7(S:Tabs): ∀(l:List IOp) (b:Bool) (φ:J4) (os:J7),YJ S b φ os l=(Ke S φ os l).map λq=>(b&&q.1,q.2)
 | [],b,φ,os=>by simp[YJ,Ke]
 |o::l,b,φ,os=>by
  simp only[YJ,Ke];cases JO S φ os o with
  |none=>rfl
  |some r=>
   simp only[ZAd,ZF7 S l];cases Ke S r.2.1 r.2.2 l with
   |none=>rfl
   |some q=>simp[ZKe]
def YW(S:Tabs)(os0:J7)(k:Nat)(rs:W0):Nat->Bool->J4->Nat->J7->J7->Option J7->List IOp->Option (Bool×List (Nat×D)×J7)
 |_,b,φ,_,_,C,last,[]=>some (b,φ,last.getD (os0++C))
 |i,b,φ,id,os,C,last,o::l=>
  if o.e.frame then match JH S φ [] o with
   |some r=>YW S os0 k rs (i+1) (b&&r.1) (putO φ o.dst r.2) id os C last l
   |none=>none
  else if Zn i rs then match JH S φ os0 o with
   |some r=>YW S os0 k rs (i+1) (b&&r.1) (putO φ o.dst r.2) id os C last l
   |none=>none
  else if i<k then match JH S φ os0 o with
   |some r=>YW S os0 k rs (i+1) (b&&r.1) (putO φ o.dst r.2) id os C last l
   |none=>match ZF3 φ os o with
    |some r=>YW S os0 k rs (i+1) (b&&r.1) (putO φ o.dst r.2) id os C last l
    |none=>match evK S φ os0 id o with
     |some r=>YW S os0 k rs (i+1) (b&&r.1) (putO φ o.dst r.2.1) (id+1) (os++ [r.2.2]) (C++ [r.2.2]) last l
     |none=>none
  else match Qk S φ os o with
   |some r=>YW S os0 k rs (i+1) (b&&(r.1&&(match rs with| []=>true|_=>Km os0 r.2.2))) (putO φ o.dst r.2.1) id r.2.2 C (some r.2.2) l
   |none=>none
theorem ZFR(rs:W0)(os0:J7)(G):ZMX rs os0 (none::G)=ZMX rs os0 G:=by cases rs<;>rfl
theorem ZYZ(rs:W0)(os0:J7)(x:J7)(G):ZMX rs os0 (some x::G)=((match rs with| []=>true|_=>Km os0 x)&&ZMX rs os0 G):=by cases rs<;>rfl
theorem Ja(G:List (Option J7))(i:Nat)(b:J7):YD (none::G) (λ_=>true) i b=YD G (λ_=>true) 0 b:=by
 simp only[YD];exact Kg _ _ _ _ _ (λ_ _ _=>rfl)|>.trans (by
  have: ∀(G:List (Option J7)) (i j:Nat) (b:J7),YD G (λ_=>true) i b=YD G (λ_=>true) j b:=by
   intro G
   induction G with
   |nil=>intro i j b;rfl
   |cons x G ih=>intro i j b;cases x<;>simp only[YD]<;>exact ih _ _ _
  exact this _ _ _ _)
theorem ZHF(G:List (Option J7))(i:Nat)(b x:J7):YD (some x::G) (λ_=>true) i b=YD G (λ_=>true) 0 x:=by
 have: ∀(G:List (Option J7)) (i j:Nat) (b:J7),YD G (λ_=>true) i b=YD G (λ_=>true) j b:=by
  intro G
  induction G with
  |nil=>intro i j b;rfl
  |cons x G ih=>intro i j b;cases x<;>simp only[YD]<;>exact ih _ _ _
 simp only[YD,if_true];exact this _ _ _ _
theorem ZDp(S:Tabs)(os0:J7)(k:Nat)(rs:W0): ∀(l:List IOp) (i:Nat) (b:Bool) (φ:J4) (id:Nat) (os C:J7) (last:Option J7),
  YW S os0 k rs i b φ id os C last l=(KW S os0 k rs i φ id os l).map λq=>(b&&(q.1&&ZMX rs os0 q.2.2),Yr φ q.2.1,YD q.2.2 (λ_=>true) 0 (last.getD (os0++C++YP q.2.1)))
 | [],i,b,φ,id,os,C,last=>by
  have:ZMX rs os0 []=true:=by cases rs<;>rfl
  simp[YW,KW,Yr,YP,YD,this]
 |o::l,i,b,φ,id,os,C,last=>by
  simp only[YW,KW];split
  .cases JH S φ [] o with
   |none=>rfl
   |some r=>
    simp only[ZAd,ZDp S os0 k rs l];cases KW S os0 k rs (i+1) (putO φ o.dst r.2) id os l with
    |none=>rfl
    |some q=>simp only[Yf,ZKe,Yr,YP,ZFR,Ja]
  .split
   .cases JH S φ os0 o with
    |none=>rfl
    |some r=>
     simp only[ZAd,ZDp S os0 k rs l];cases KW S os0 k rs (i+1) (putO φ o.dst r.2) id os l with
     |none=>rfl
     |some q=>simp only[Yf,ZKe,Yr,YP,ZFR,Ja]
   .split
    .cases JH S φ os0 o with
     |some r=>
      simp only[ZDp S os0 k rs l];cases KW S os0 k rs (i+1) (putO φ o.dst r.2) id os l with
      |none=>rfl
      |some q=>simp only[Yf,ZKe,Yr,YP,ZFR,Ja]
     |none=>
      cases ZF3 φ os o with
      |some r=>
       simp only[ZDp S os0 k rs l];cases KW S os0 k rs (i+1) (putO φ o.dst r.2) id os l with
       |none=>rfl
       |some q=>simp only[Yf,ZKe,Yr,YP,ZFR,Ja]
      |none=>
       cases evK S φ os0 id o with
       |none=>rfl
       |some r=>
        simp only[ZAd,ZDp S os0 k rs l];cases KW S os0 k rs (i+1) (putO φ o.dst r.2.1) (id+1) (os++ [r.2.2]) l with
        |none=>rfl
        |some q=>simp only[Yf,ZKe,Yr,YP,ZFR,Ja,Yh,Qx,ZAR]
    .cases Qk S φ os o with
     |none=>rfl
     |some r=>
      simp only[ZAd,ZDp S os0 k rs l];cases KW S os0 k rs (i+1) (putO φ o.dst r.2.1) id r.2.2 l with
      |none=>rfl
      |some q=>simp only[Yf,ZKe,Yr,YP,ZYZ,ZHF,ξX];congr 1;simp only[ZZ,and_true];ac_rfl
section
variable {P:Program} {c:Ctx} {E0:Env} {os0 os:J7} {n:Nat} {Q:Exit->J4->J7->Prop} {φ:J4}
theorem WI.regA{S:Tabs}(hS:SsOk P S)(ks:W0){l:List IOp}(h: ∀K:J4->J7->Prop,(∀φ' os',Q .normal φ' os'->K φ' os')->YY (YJ S true φ os l) (λφ' os'=>K (Go.Ab.keep ks φ') os')):WI P c E0 os0 n (.reg l) Q φ os:=
 WI.regK hS ks (λK hK=>by
  have:=h K hK;rw[ZF7]at this;obtain⟨ok,φ',os',h1,h2,h3⟩:=this;obtain⟨⟨ok2,q⟩,h4,h5⟩:=Zc h1;simp at h5;obtain⟨rfl,rfl⟩:=h5;exact⟨_,_,_,h4,h2,h3⟩)
theorem WI.dregA{S:Tabs}(hS:SsOk P S)(ks:W0){k k2:Nat}{rs rs2:W0}{l:List IOp}(h: ∀K:J4->J7->Prop,(∀φ' os',Q .normal φ' os'->K φ' os')->YY (YW S os k rs 0 true φ os.length os [] none l) (λφ' os'=>K (Go.Ab.keep ks φ') os')):WI P c E0 os0 n (.dreg k rs k2 rs2 l) Q φ os:=by
 have:=h _ (λ_ _ h=>h);rw[ZDp]at this;obtain⟨ok,φ',os',h1,h2,h3⟩:=this;obtain⟨q,h4,h5⟩:=Zc h1;simp at h5;obtain⟨h5,rfl,rfl⟩:=h5;exact WI.dreg' (m:=none) hS (.inl (by simp only[ZHR,ZNy,h4,Yf])) (h5.trans h2) h3 (λ_ _ f=>f.keep ks)
end
theorem ZPZ(φ:J4): ∀(ts:W0) (t:Nat),get (ts.map λu=>(u,get φ u)) t=get φ t\/get (ts.map λu=>(u,get φ u)) t= .und
 | [],t=> .inr rfl
 |u::ts,t=>by
  simp only[YL,get];split
  .rename_i h;subst h;exact .inl rfl
  .exact ZPZ φ ts t
theorem WI.order{P:Program}{c:Ctx}{E0:Env}{os0 os:J7}{n:Nat}{Q:Exit->J4->J7->Prop}{φ:J4}{ic:IC}(ts:W0)(h:WI P c E0 os0 n ic Q (ts.map λu=>(u,get φ u)) os):WI P c E0 os0 n ic Q φ os:=
 WI.weak (λE _ R hf=>⟨E,rfl,R,hf.size,hf.defers,λt=>by
  rcases ZPZ φ ts t with h|h
  .rw[h];exact hf.slot t
  .rw[h];exact .und _⟩) h
mutual
theorem X.beq_refl: ∀x:X,X.beq x x=true
 | .int k n=>by simp[X.beq]
 | .bool a=>by simp[X.beq]
 | .str s=>by simp[X.beq]
 | .nilp=>rfl
 | .nils=>rfl
 | .sl a=>by simp only[X.beq];exact X.beqR_refl a
theorem X.beqR_refl: ∀a:J6,X.beqR a a=true
 | []=>rfl
 |r::l=>by simp only[X.beqR,ZS];exact⟨X.beqL_refl r,X.beqR_refl l⟩
theorem X.beqL_refl: ∀a:J9,X.beqL a a=true
 | []=>rfl
 |x::l=>by simp only[X.beqL,ZS];exact⟨X.beq_refl x,X.beqL_refl l⟩
end
mutual
theorem D.beq_refl: ∀d:D,D.beq d d=true
 | .x a=>by simp only[D.beq];exact X.beq_refl a
 | .ref a b c d=>by simp[D.beq]
 | .ptr a b=>by simp[D.beq]
 | .eptr a b c d=>by simp[D.beq]
 | .vptr a=>by simp only[D.beq];exact X.beqL_refl a
 | .mref a=>by simp[D.beq]
 | .mnil=>rfl
 | .iref a b=>by simp[D.beq]
 | .stk a b=>by simp[D.beq]
 | .bref a b c=>by simp[D.beq]
 | .agg a=>by simp only[D.beq];exact D.beqL_refl a
 | .tup a=>by simp only[D.beq];exact D.beqL_refl a
 | .full a=>by simp only[D.beq];exact X.beqR_refl a
 | .nz a=>by simp only[D.beq];exact X.beqR_refl a
 | .fn f a=>by simp only[D.beq,ZS];exact⟨J1,D.beqL_refl a⟩
 | .opt a d=>by simp only[D.beq,ZS];exact⟨J1,D.beq_refl d⟩
 | .und=>rfl
theorem D.beqL_refl: ∀a:J8,D.beqL a a=true
 | []=>rfl
 |e::l=>by simp only[D.beqL,ZS];exact⟨D.beq_refl e,D.beqL_refl l⟩
end
theorem beqR_refl: ∀a:List J8,beqR a a=true
 | []=>rfl
 |r::l=>by simp only[beqR,ZS];exact⟨D.beqL_refl r,beqR_refl l⟩
theorem ZQb(p:Pr):ZPK p p=true:=by simp only[ZPK,ZS];exact⟨X.beqL_refl p.1,D.beqL_refl p.2⟩
theorem ZDy: ∀a:W2,ZHB a a=true
 | []=>rfl
 |p::l=>by simp only[ZHB,ZS];exact⟨ZQb p,ZDy l⟩
theorem ZYR: ∀a:Option Pr,ZaN a a=true
 |none=>rfl
 |some p=>ZQb p
theorem ZOA: ∀a:List W2,ZJG a a=true
 | []=>rfl
 |p::l=>by simp only[ZJG,ZS];exact⟨ZDy p,ZOA l⟩
theorem ZQA: ∀a:List (X×J6),ZMt a a=true
 | []=>rfl
 |p::l=>by simp only[ZMt,ZS];exact⟨X.beq_refl p.1,X.beqR_refl p.2,ZQA l⟩
theorem Ob.beq_refl(o:Ob):Ob.beq o o=true:=by
 cases o with
 |box ds=>simp only[Ob.beq];exact D.beqL_refl ds
 |rows f e s rs=>simp only[Ob.beq,ZS];exact⟨J1,ZD9 e,ZD9 s,X.beqR_refl rs⟩
 |drw e s rs=>simp only[Ob.beq,ZS];exact⟨ZD9 e,ZD9 s,beqR_refl rs⟩
 |frz s rs=>simp only[Ob.beq,ZS];exact⟨ZD9 s,X.beqR_refl rs⟩
 |mpo dk ag l=>simp only[Ob.beq,ZS];exact⟨J1,J1,ZDy l⟩
 |mit dk ag l it R cur=>simp only[Ob.beq,ZS];exact⟨J1,J1,ZDy l,ZD9 it,ZDy R,ZYR cur⟩
 |mpn dk ag l key sid=>simp only[Ob.beq,ZS];exact⟨J1,J1,ZDy l,X.beqL_refl key,ZD9 sid⟩
 |itr=>rfl
 |stp=>rfl
 |nit=>rfl
 |sit s pos=>simp only[Ob.beq,ZS];exact⟨J1,ZD9 pos⟩
 |old s n=>simp only[Ob.beq,ZS];exact⟨ZD9 s,ZD9 n⟩
 |fam k P B=>simp only[Ob.beq,ZS];exact⟨ZD9 k,ZOA P,ZQA B⟩
 |dead=>rfl
def ZAy(φ:J4):Option IO->Option D
 |none=>none
 |some l=>some (ZE φ l)
def QN(dx:D)(lo hi mx:Option D):J5:=
 match dx.val with
 | .x (.str s)=>match lo,hi,mx with
  |none,none,none=>some (dx.cond,.x (.str s))
  |some l,none,none=>(ZD l.val).map λ(n:Int)=>(dx.cond&&(l.cond&&(decide (0<=n)&&decide (n<=s.length))),.x (.str (s.drop n.toNat)))
  |none,some h,none=>(ZD h.val).map λ(m:Int)=>(dx.cond&&(h.cond&&(decide (0<=m)&&decide (m<=s.length))),.x (.str (s.take m.toNat)))
  |some l,some h,none=>(ZD l.val).bind λ(n:Int)=>(ZD h.val).map λ(m:Int)=>(dx.cond&&((l.cond&&h.cond)&&(decide (0<=n)&&(decide (n<=m)&&decide (m<=s.length)))),.x (.str ((s.take m.toNat).drop n.toNat)))
  |_,_,_=>none
 |_=>none
def Qw(os:J7)(sz:Nat)(dx:D)(lo hi mx:Option D):J5:=
 match dx.val with
 | .x .nils=>(Kl (lo)).bind λp=>(Kl (hi)).bind λq=>(Kl (mx)).map λr=>(dx.cond&&((mx.isNone||hi.isSome)&&(p&&(q&&r))),.x .nils)
 | .x (.sl rs)=>match lo,hi,mx with
  |none,none,none=>some (dx.cond,.x (.sl rs))
  |some l,none,none=>(ZD l.val).map λ(n:Int)=>(dx.cond&&(l.cond&&(decide (0<=n)&&(decide (n<=rs.length)&&rs.all λr=>decide (r.length=sz)))),.x (.sl (rs.drop n.toNat)))
  |none,some h,none=>(ZD h.val).map λ(m:Int)=>(dx.cond&&(h.cond&&(decide (0<=m)&&(decide (m<=rs.length)&&rs.all λr=>decide (r.length=sz)))),.x (.sl (rs.take m.toNat)))
  |some l,some h,none=>(ZD l.val).bind λ(n:Int)=>(ZD h.val).map λ(m:Int)=>(dx.cond&&((l.cond&&h.cond)&&(decide (0<=n)&&(decide (n<=m)&&(decide (m<=rs.length)&&rs.all λr=>decide (r.length=sz))))),.x (.sl ((rs.take m.toNat).drop n.toNat)))
  |l,some h,some mi=>(Kl l).bind λz=>(ZD h.val).bind λ(n:Int)=>(ZD mi.val).map λ(m:Int)=>(dx.cond&&(z&&(h.cond&&(mi.cond&&(decide (0<=n)&&(decide (n<=rs.length)&&(decide (n=m)&&rs.all λr=>decide (r.length=sz))))))),.full (rs.take n.toNat))
  |_,_,_=>none
 | .ref id ext off len=>match os[id]? with
  |some o=>match o.slice? with
   |some (sz',rs)=>match lo,hi,mx with
    |some l,none,none=>(ZD l.val).map λ(n:Int)=>(dx.cond&&(l.cond&&(decide (sz'=sz)&&(decide (rs.length=ext)&&(decide (0<=n)&&decide (n<=len))))),.ref id ext (off+n.toNat) (len-n.toNat))
    |none,some h,none=>(ZD h.val).map λ(m:Int)=>(dx.cond&&(h.cond&&(decide (sz'=sz)&&(decide (rs.length=ext)&&(decide (0<=m)&&decide (m<=len))))),.ref id ext off m.toNat)
    |some l,some h,none=>(ZD l.val).bind λ(n:Int)=>(ZD h.val).map λ(m:Int)=>(dx.cond&&((l.cond&&h.cond)&&(decide (sz'=sz)&&(decide (rs.length=ext)&&(decide (0<=n)&&(decide (n<=m)&&decide (m<=len)))))),.ref id ext (off+n.toNat) (m.toNat-n.toNat))
    |_,_,_=>none
   |none=>none
  |none=>none
 |_=>none
theorem ZHi(φ:J4)(x:IO)(lo hi mx:Option IO):ZIC φ x lo hi mx=QN (ZE φ x) (ZAy φ lo) (ZAy φ hi) (ZAy φ mx):=by
 cases lo<;>cases hi<;>cases mx<;>rfl
theorem ZJZ(φ:J4)(os:J7)(sz:Nat)(x:IO)(lo hi mx:Option IO):ZJz φ os sz x lo hi mx=Qw os sz (ZE φ x) (ZAy φ lo) (ZAy φ hi) (ZAy φ mx):=by
 cases lo<;>cases hi<;>cases mx<;>rfl
def ZCG(φ:J4):List IO->J8
 | []=> []
 |y::ys=>(ZE φ y).val::ZCG φ ys
def ZAt(φ:J4):List IO->Bool
 | []=>true
 |y::ys=>(ZE φ y).cond&&ZAt φ ys
theorem ZHI(φ:J4): ∀l,(l.map λy=>(ZE φ y).val)=ZCG φ l
 | []=>rfl
 |y::ys=>by simp[ZCG,ZHI φ ys]
theorem ZF9(φ:J4): ∀l:List IO,(l.all λy=>(ZE φ y).cond)=ZAt φ l
 | []=>rfl
 |y::ys=>by simp[ZAt,ZF9 φ ys]
def ZDF(T:FuncId->J8->J7->Option (Bool×D×J7))(df:D)(vs:J8)(cs:Bool)(os:J7):Option (Bool×D×J7):=match df.val with
 | .fn g caps=>(T g (vs++caps) os).map λr=>(df.cond&&(cs&&r.1),r.2)
 |_=>none
def ZDO(T:FuncId->J8->J7->J5)(df:D)(vs:J8)(cs:Bool)(os:J7):J5:=match df.val with
 | .fn g caps=>(T g (vs++caps) os).map λr=>(df.cond&&(cs&&r.1),r.2)
 |_=>none
def ZDK(T:FuncId->J8->J7->Option (Bool×(Nat->D)×Ob))(df:D)(vs:J8)(cs:Bool)(os:J7)(id:Nat):Option (Bool×D×Ob):=match df.val with
 | .fn g caps=>(T g (vs++caps) os).map λr=>(df.cond&&(cs&&r.1),r.2.1 id,r.2.2)
 |_=>none
theorem ZSH(T:FuncId->J8->J7->Option (Bool×D×J7))(φ:J4)(os:J7)(e:IE):ZHJ T φ os e=match e with
  | .call f xs=>ZDF T (ZE φ f) (ZCG φ xs) (ZAt φ xs) os
  |_=>none:=by
 cases e<;>first|rfl|skip
 simp only[ZHJ,ZHI,ZF9,ZDF];generalize(ZE φ _).val=u;cases u<;>rfl
theorem ZSQ(T:FuncId->J8->J7->J5)(φ:J4)(os:J7)(e:IE):ZCF T φ os e=match e with
  | .call f xs=>ZDO T (ZE φ f) (ZCG φ xs) (ZAt φ xs) os
  |_=>none:=by
 cases e<;>first|rfl|skip
 simp only[ZCF,ZHI,ZF9,ZDO];generalize(ZE φ _).val=u;cases u<;>rfl
theorem ZQ5(T:FuncId->J8->J7->Option (Bool×(Nat->D)×Ob))(φ:J4)(os:J7)(id:Nat)(e:IE):ZE9 T φ os id e=match e with
  | .call f xs=>ZDK T (ZE φ f) (ZCG φ xs) (ZAt φ xs) os id
  |_=>none:=by
 cases e<;>first|rfl|skip
 simp only[ZE9,ZHI,ZF9,ZDK];generalize(ZE φ _).val=u;cases u<;>rfl
section
variable {S:Tabs} {os0 os C:J7} {k i id:Nat} {rs:W0} {φ φ':J4} {os':J7} {last:Option J7} {o:IOp} {l:List IOp} {ok:Bool} {d:D} {ob:Ob} {K:J4->J7->Prop}
theorem ZOG(s:List UInt8):(s.map Zk).take s.length=s.map Zk:=Yi J1
theorem ZR6(l:List (List UInt8))(w:List UInt8):rows ZB l++ [[X.str w]]=rows ZB (l++ [w]):=ZBb ZB l [w]
theorem ZPx(s:List UInt8)(i:Nat)(h:i<s.length):(s.map Zk)[i]? =some [X.int .u8 (s[i].toNat:Int)]:=by simp[Zk,h]
theorem ZPb(s:List UInt8):(s.map Zk).length=s.length:=YX ..
theorem Kt(s:List UInt8):(s.map Zk).map ZEb=s:=by
 rw[Js]
 conv=>rhs;rw[<-ZO1 s]
 refine ZBe (λb _=> ?_);simp[ZEb,Zk]
theorem Yv(s:List UInt8):((s.map Zk).all ZFO)=true:=by
 rw[Yd];intro r hr;obtain⟨b,_,rfl⟩:=YO.1 hr;rfl
theorem ZXZ{α:Type}(c:RC α):Zb c []=some []:=rfl
theorem ZNN(n:Nat):Nat.beq n n=true:=ZD9 n
theorem ZOQ(m n:Nat)(h:m≠n):Nat.beq m n=false:=by
 cases hb:Nat.beq m n with
 |false=>rfl
 |true=>exact absurd (ZRc hb) h
theorem ZX8(b:Bool):(b||b==false)=true:=by cases b<;>rfl
theorem ZUJ(dk:KK)(ag:Bool)(l:W2):(Ob.mpo dk ag l).map? =some (dk,ag,l):=rfl
theorem ZTp(dk:KK)(ag:Bool)(l:W2)(it:Nat)(R:W2)(cur:Option Pr):(Ob.mit dk ag l it R cur).map? =some (dk,ag,l):=rfl
theorem ZTq(dk:KK)(ag:Bool)(l:W2)(key:J9)(sid:Nat):(Ob.mpn dk ag l key sid).map? =some (dk,ag,l):=rfl
theorem ZT3(dk:KK)(ag:Bool)(l:W2):(Ob.mpo dk ag l).upd? =some (dk,ag,l):=rfl
theorem ZT6(dk:KK)(ag:Bool)(l:W2)(key:J9)(sid:Nat):(Ob.mpn dk ag l key sid).upd? =some (dk,ag,l):=rfl
theorem ZUH(k:IntKind)(n:Int):Kz (.int k) (.x (.int k n))=some [.int k n]:=by simp[Kz]
theorem ZUN(s:List UInt8):Kz .str (.x (.str s))=some [.str s]:=rfl
theorem ZSP(k:IntKind)(n:Int):keyD (.int k) [.int k n]= .x (.int k n):=rfl
theorem ZQ8(s:List UInt8):keyD .str [.str s]= .x (.str s):=rfl
theorem ZTF(d:D):ZFC false [d]=d:=rfl
theorem ZUa(ds:J8):ZFC true ds= .agg ds:=rfl
theorem ZgJ(y:X):agD (.x y)=false:=rfl
theorem ZWx(ds:J8):agD (.agg ds)=true:=rfl
theorem ZYS(a b c d:Nat):agD (.ref a b c d)=false:=rfl
theorem ZW8(a b:Nat):agD (.ptr a b)=false:=rfl
theorem ZTy(a:Nat):agD (.mref a)=false:=rfl
theorem Zft(k:KK):(k=k)=True:=eq_self k
theorem ZgP(b:Bool):(b=b)=True:=eq_self b
theorem Zgm(b:Nat):(b=b)=True:=eq_self b
theorem ZR2(k:J9):JZ [] k=none:=rfl
def Zgx(N it:Nat)(_:J4)(os:J7):Nat:=match os[it]? with|some (.sit _ p)=>N-p|_=>0
def ZPN(mid:Nat)(_:J4)(os:J7):Nat:=match os[mid]? with|some (.mit _ _ _ _ R _)=>R.length|_=>0
theorem osN(h:K φ os):YY (YJ S true φ os []) K:=⟨true,φ,os,rfl,rfl,h⟩
theorem osS(he:JO S φ os o=some (ok,φ',os'))(hok:ok=true)(h:YY (YJ S true φ' os' l) K):YY (YJ S true φ os (o::l)) K:=by
 subst hok;simp only[YJ,he,QS];exact h
theorem dsN(h:K φ (last.getD (os0++C))):YY (YW S os0 k rs i true φ id os C last []) K:=⟨true,φ,_,rfl,rfl,h⟩
theorem dsF(hf:o.e.frame=true)(he:(JH S φ [] o).map (λr=>(r.1,putO φ o.dst r.2))=some (ok,φ'))(hok:ok=true)(h:YY (YW S os0 k rs (i+1) true φ' id os C last l) K):YY (YW S os0 k rs i true φ id os C last (o::l)) K:=by
 subst hok;obtain⟨r,h1,h2⟩:=Zc he;simp only[ZZ]at h2;obtain⟨h2,rfl⟩:=h2;simp only[YW,hf,if_true,h1,h2,QS];exact h
theorem dsQ(hf:o.e.frame=false)(hm:Zn i rs=false)(hk:Nat.ble (i+1) k=true)(he:(JH S φ os0 o).map (λr=>(r.1,putO φ o.dst r.2))=some (ok,φ'))(hok:ok=true)(h:YY (YW S os0 k rs (i+1) true φ' id os C last l) K):YY (YW S os0 k rs i true φ id os C last (o::l)) K:=by
 subst hok;obtain⟨r,h1,h2⟩:=Zc he;simp only[ZZ]at h2;obtain⟨h2,rfl⟩:=h2;have hk':i<k:=ξ hk;simp only[YW,hf,hm,if_true,h1,h2,hk',QS,JM,if_false];exact h
theorem ZXJ{S:Tabs}{φ:J4}{os0 os:J7}{id:Nat}{o:IOp}{r:Bool×D×Ob}(h:evK S φ os0 id o=some r):ZF3 φ os o=none:=by
 obtain⟨dst,e,g⟩:=o;cases g with
 |some p=>rfl
 |none=>
  cases e with
  |b2s x=>simp[evK,evC,ZAG,ZE9]at h
  |_=>rfl
theorem dsK(hf:o.e.frame=false)(hm:Zn i rs=false)(hk:Nat.ble (i+1) k=true)(hn:JH S φ os0 o=none)(he:(evK S φ os0 id o).map (λr=>(r.1,putO φ o.dst r.2.1,r.2.2))=some (ok,φ',ob))(hok:ok=true)(h:YY (YW S os0 k rs (i+1) true φ' (id+1) (os++ [ob]) (C++ [ob]) last l) K):YY (YW S os0 k rs i true φ id os C last (o::l)) K:=by
 subst hok;obtain⟨r,h1,h2⟩:=Zc he;simp only[ZZ]at h2;obtain⟨h2,rfl,rfl⟩:=h2;have hk':i<k:=ξ hk;simp only[YW,hf,hm,if_true,hn,ZXJ h1,h1,h2,hk',QS,JM,if_false];exact h
theorem dsA(hf:o.e.frame=false)(hm:Zn i rs=false)(hk:Nat.ble (i+1) k=false)(he:(Qk S φ os o).map (λr=>(r.1&&(match rs with| []=>true|_=>Km os0 r.2.2),putO φ o.dst r.2.1,r.2.2))=some (ok,φ',os'))(hok:ok=true)(h:YY (YW S os0 k rs (i+1) true φ' id os' C (some os') l) K):YY (YW S os0 k rs i true φ id os C last (o::l)) K:=by
 subst hok;obtain⟨r,h1,h2⟩:=Zc he;simp only[ZZ]at h2;obtain⟨h2,rfl,rfl⟩:=h2;have hk': ¬i<k:=λh=>by have:=Nat.ble_eq_true_of_le h;rw[Nat.succ_eq_add_one,hk]at this;cases this
 simp only[YW,hf,hm,h1,h2,hk',ZCB,JM,if_false];exact h
end
section
variable {κ β:Type} (kc:κ->J9) (vc:β->J9)
def Yg(L:List (κ×β)):W2:=L.map λp=>(kc p.1,(vc p.2).map D.x)
theorem ZJV(L:List (κ×β)):(Yg kc vc L).length=L.length:=by simp[Yg]
theorem Zev(L:List (κ×β))(i:Nat):(Yg kc vc L)[i]? =(L[i]?).map λp=>(kc p.1,(vc p.2).map D.x):=by simp[Yg]
theorem Zfc(f:Nat->Nat)(l:J9):Zu f (l.map D.x)=l.map D.x:=by
 rw[Kp,Js];rfl
theorem Zh0(p:Nat->Bool)(l:J9):Yo p (l.map D.x)=true:=by
 rw[ZBA,Yd];intro d hd;obtain⟨x,_,rfl⟩:=YO.1 hd;rfl
theorem Zfq(l:J9):Jg (l.map D.x)= []:=by
 induction l with
 |nil=>rfl
 |cons x l ih=>simp only[YL,Jg,ZG3,ih];rfl
theorem Zia(ρ:W0)(os:J7)(l:J9):(l.map D.x).map (onF ρ os)=l.map D.x:=by
 rw[Js];refine ZBe λx _=> ?_
 simp only[Function.comp,onF,D.vw,D.on,D.inP,if_true]
theorem ZAM(f:Nat->Nat)(L:List (κ×β)):(Yg kc vc L).map (Jb f)=Yg kc vc L:=by
 rw[Yg,Js];refine ZBe λp _=> ?_
 simp only[Function.comp,Jb,Zfc]
theorem ZCe(L:List (κ×β)):ZCc (Yg kc vc L)= []:=by
 induction L with
 |nil=>rfl
 |cons p L ih=>simp only[Yg,YL,ZCc,Zfq]at ih|-;exact ih
theorem Qp(p:Nat->Bool)(L:List (κ×β)):(Yg kc vc L).all (ZAN p)=true:=by
 rw[Yd];intro q hq;obtain⟨r,_,rfl⟩:=YO.1 hq;exact Zh0 p _
theorem ZEj(ρ:W0)(os:J7)(L:List (κ×β)):(Yg kc vc L).map (mpP (onF ρ os))=Yg kc vc L:=by
 rw[Yg,Js];refine ZBe λp _=> ?_
 simp only[Function.comp,mpP,Zia]
theorem ZJD(L:List (κ×β))(i:Nat):(Yg kc vc L).eraseIdx i=Yg kc vc (L.eraseIdx i):=by
 induction L generalizing i with
 |nil=>rfl
 |cons p L ih=>cases i with
  |zero=>rfl
  |succ i=>simp only[Yg,YL,ZaU]at ih|-;rw[ih]
variable [DecidableEq κ] (hk: ∀a b:κ,ZBz (kc a) (kc b)=decide (a=b))
include hk
theorem ZEp(L:List (κ×β))(c:κ):JZ (Yg kc vc L) (kc c)=(ZG L c).map λv=>(vc v).map D.x:=by
 induction L with
 |nil=>rfl
 |cons p L ih=>
  simp only[Yg,YL,JZ,hk]at ih|-;by_cases h:c=p.1
  .simp[ZG,h]
  .simp only[h,decide_false,JM,if_false];rw[ih];simp[ZG,h]
theorem ZDd(L:List (κ×β))(c:κ)(v:β):Yb (Yg kc vc L) (kc c) ((vc v).map D.x)=Yg kc vc (Zt L c v):=by
 induction L with
 |nil=>rfl
 |cons p L ih=>
  simp only[Yg,YL,Yb,hk,Zt]at ih|-;by_cases h:c=p.1
  .simp[h]
  .simp only[h,decide_false,JM,if_false];rw[ih];simp
theorem Za9(L:List (κ×β))(c:κ):ZBU (Yg kc vc L) (kc c)=Yg kc vc (Zg L c):=by
 induction L with
 |nil=>rfl
 |cons p L ih=>
  simp only[Yg,YL,ZBU,hk,Zg]at ih|-;by_cases h:c=p.1
  .simp[h]
  .simp only[h,decide_false,JM,if_false];rw[ih];simp
end
def unM{κ β:Type}(c:RC κ)(d:RC β):W2->Option (List (κ×β))
 | []=>some []
 |q::M=>(c.dec q.1).bind λa=>(ZDs q.2).bind λxs=>(d.dec xs).bind λb=>(unM c d M).map λL=>(a,b)::L
theorem ZME: ∀l:J9,ZDs (l.map D.x)=some l
 | []=>rfl
 |x::l=>by simp only[YL,ZDs,ZME l,Yf]
theorem ZRP{κ β:Type}{c:RC κ}{d:RC β}(hc:c.Good)(hd:d.Good): ∀L:List (κ×β),unM c d (Yg c.enc d.enc L)=some L
 | []=>rfl
 |p::L=>by
  have ih:=ZRP hc hd L;simp only[Yg,YL,unM,hc.de,hd.de,ZME,ZAd]at ih|-;rw[ih];rfl
theorem Jd{κ β:Type}{c:RC κ}{d:RC β}(hc:c.Good)(hd:d.Good): ∀ {M:W2} {L:List (κ×β)},unM c d M=some L->M=Yg c.enc d.enc L
 | [],L,h=>by cases h;rfl
 |q::M,L,h=>by
  simp only[unM]at h;obtain⟨a,h1,h⟩:=Zv h;obtain⟨xs,h2,h⟩:=Zv h;obtain⟨b,h3,h⟩:=Zv h;obtain⟨L',h4,rfl⟩:=Zc h;have e:=Jd hc hd h4;obtain⟨q1,q2⟩:=q;simp only at h1 h2;rw[e,ZHr h2];rw[<-hc.ed _ _ h1,<-hd.ed _ _ h3];rfl
abbrev kcI(n:Int):J9:= [.int .i64 n]
abbrev KU(s:List UInt8):J9:= [.str s]
theorem hkS(a b:List UInt8):ZBz (KU a) (KU b)=decide (a=b):=by
 simp only[KU,ZBz,X.keq,QS];rw[Qq];simp
section
variable {κ β:Type} [DecidableEq κ]
def ZIV(L:List (κ×β)):Prop:=(L.map (·.1)).Nodup
theorem ZHH{A:List (κ×β)}(hn:ZIV A)(c:κ)(v:β):ZG A c=some v↔(c,v)∈A:=by
 refine⟨Jx,λh=>ZGt hn h⟩
theorem ZVw{A B:List (κ×β)}(h:A.Perm B)(hn:ZIV A)(c:κ):ZG A c=ZG B c:=by
 have hn':ZIV B:=(h.map _).nodup_iff.1 hn;cases hA:ZG A c with
 |some v=>exact((ZHH hn' c v).2 (h.mem_iff.1 ((ZHH hn c v).1 hA))).symm
 |none=>
  cases hB:ZG B c with
  |none=>rfl
  |some v=>rw[(ZHH hn c v).2 (h.mem_iff.2 ((ZHH hn' c v).1 hB))]at hA;cases hA
theorem ZKy{A:List (κ×β)}{c:κ}{v:β}(h:ZG A c=some v):A.Perm ((c,v)::Zg A c):=by
 induction A with
 |nil=>simp[ZG]at h
 |cons p A ih=>
  by_cases e:c=p.1
  .have:ZG (p::A) c=some p.2:=by simp[ZG,e]
   rw[this]at h;cases h;have hd:Zg (p::A) c=A:=by simp[Zg,e]
   rw[hd,e]
  .have hl:ZG (p::A) c=ZG A c:=by simp[ZG,e]
   rw[hl]at h;have hd:Zg (p::A) c=p::Zg A c:=by simp[Zg,e]
   rw[hd];exact((ih h).cons p).trans (List.Perm.swap _ _ _)
theorem ZP4{A:List (κ×β)}{c:κ}(h:ZG A c=none):Zg A c=A:=by
 induction A with
 |nil=>rfl
 |cons p A ih=>
  by_cases e:c=p.1
  .simp[ZG,e]at h
  .have hl:ZG (p::A) c=ZG A c:=by simp[ZG,e]
   rw[hl]at h;simp[Zg,e,ih h]
theorem ZMA{A:List (κ×β)}(hn:ZIV A)(c:κ):Zg A c=A.filter λp=>decide (p.1≠c):=by
 induction A with
 |nil=>rfl
 |cons p A ih=>
  unfold ZIV at hn ih;simp only[YL,ZAb]at hn;by_cases e:c=p.1
  .have hd:Zg (p::A) c=A:=by simp[Zg,e]
   rw[hd,ZH5,if_neg (by simp[e]),eq_comm,List.filter_eq_self];intro q hq;simp only[ne_eq,Zd];intro h2;exact hn.1 (YO.2 ⟨q,hq,by rw[h2,e]⟩)
  .have hd:Zg (p::A) c=p::Zg A c:=by simp[Zg,e]
   rw[hd,ZH5,if_pos (by simp[Ne.symm e]),ih hn.2]
theorem ZCb{A:List (κ×β)}{c:κ}{w:β}(h:ZG A c=none):Zt A c w=A++ [(c,w)]:=by
 induction A with
 |nil=>rfl
 |cons p A ih=>
  by_cases e:c=p.1
  .simp[ZG,e]at h
  .have hl:ZG (p::A) c=ZG A c:=by simp[ZG,e]
   rw[hl]at h;simp[Zt,e,ih h]
theorem ZSA{A:List (κ×β)}{c:κ}{v w:β}(h:ZG A c=some v):(Zt A c w).Perm ((c,w)::Zg A c):=by
 induction A with
 |nil=>simp[ZG]at h
 |cons p A ih=>
  by_cases e:c=p.1
  .have h1:Zt (p::A) c w=(c,w)::A:=by simp[Zt,e]
   have h2:Zg (p::A) c=A:=by simp[Zg,e]
   rw[h1,h2]
  .have hl:ZG (p::A) c=ZG A c:=by simp[ZG,e]
   rw[hl]at h;have h1:Zt (p::A) c w=p::Zt A c w:=by simp[Zt,e]
   have h2:Zg (p::A) c=p::Zg A c:=by simp[Zg,e]
   rw[h1,h2];exact((ih h).cons p).trans (List.Perm.swap _ _ _)
theorem ZBQ(A:List (κ×β))(c:κ)(w:β):(Zt A c w).Perm ((c,w)::Zg A c):=by
 cases h:ZG A c with
 |some v=>exact ZSA h
 |none=>rw[ZCb h,ZP4 h];exact List.perm_append_singleton _ _
theorem ZK7{A B:List (κ×β)}(h:A.Perm B)(hn:ZIV A)(c:κ):(Zg A c).Perm (Zg B c):=by
 rw[ZMA hn,ZMA ((h.map _).nodup_iff.1 hn)];exact h.filter _
theorem ZSW{A:List (κ×β)}{c:κ}{v:β}(h:ZG A c=some v):A.length=(Zg A c).length+1:=by
 have:=(ZKy h).length_eq;simpa using this
theorem ZfR(A:List (κ×β))(c:κ):(Zg A c).length<=A.length:=by
 cases h:ZG A c with
 |none=>rw[ZP4 h];exact Zm _
 |some v=>have:=ZSW h;omega
end
open Go Go.RowKit Go.Bo
theorem zC:type_of% @Yf.{0,0}/\type_of% @ZAd.{0,0}/\type_of% @QS/\type_of% @ZCB/\type_of% @JM:=
 ⟨@Yf.{0,0},@ZAd.{0,0},@QS,@ZCB,@JM⟩
theorem zG:type_of% @Bool.not_true/\type_of% @ZOy/\type_of% @ZKr/\type_of% @ZKI/\type_of% @ZEZ/\type_of% @ZS0/\type_of% @ZFg/\type_of% @ZH4/\type_of% @beq_self_eq_true.{0}/\type_of% @ZX8/\type_of% @ZVC/\type_of% @Bool.not_or_self/\type_of% @Bool.or_not_self/\type_of% @beq_true/\type_of% @beq_false/\type_of% @Bool.not_not:=
 ⟨@Bool.not_true,@ZOy,@ZKr,@ZKI,@ZEZ,@ZS0,@ZFg,@ZH4,@beq_self_eq_true.{0},@ZX8,@ZVC,@Bool.not_or_self,@Bool.or_not_self,@beq_true,@beq_false,@Bool.not_not⟩
theorem zL:type_of% @ZCs.{0}/\type_of% @ZCk.{0}/\type_of% @ZBk.{0}/\type_of% @ZB4.{0}/\type_of% @ZDe.{0}/\type_of% @ξU.{0}/\type_of% @List.drop_nil.{0}/\type_of% @List.take_nil.{0}/\type_of% @JD.{0}/\type_of% @ξN.{0}/\type_of% @YL.{0,0}/\type_of% @ZAD.{0,0}/\type_of% @Qx.{0}/\type_of% @ZAR.{0}/\type_of% @ZDC.{0}/\type_of% @ZBX.{0}/\type_of% @JK/\type_of% @JW/\type_of% @if_true.{1}/\type_of% @decide_true:=
 ⟨@ZCs.{0},@ZCk.{0},@ZBk.{0},@ZB4.{0},@ZDe.{0},@ξU.{0},@List.drop_nil.{0},@List.take_nil.{0},@JD.{0},@ξN.{0},@YL.{0,0},@ZAD.{0,0},@Qx.{0},@ZAR.{0},@ZDC.{0},@ZBX.{0},@JK,@JW,@if_true.{1},@decide_true⟩
theorem zR:type_of% @Zh/\type_of% @ZST/\type_of% @ZPx/\type_of% @ZPb/\type_of% @ZRS/\type_of% @ZS8/\type_of% @ZQU/\type_of% @ZSf/\type_of% @ZT0/\type_of% @ZSV/\type_of% @ZSq/\type_of% @ZH1/\type_of% @Int.natCast_nonneg:=
 ⟨@Zh,@ZST,@ZPx,@ZPb,@ZRS,@ZS8,@ZQU,@ZSf,@ZT0,@ZSV,@ZSq,@ZH1,@Int.natCast_nonneg⟩
theorem zB:type_of% @ZBJ/\type_of% @ZS/\type_of% @ZHz/\type_of% @ZSU/\type_of% @ZaB/\type_of% @Bool.not_eq_false'/\type_of% @Zd/\type_of% @decide_eq_false_iff_not/\type_of% @ZWL/\type_of% @gt_iff_lt.{0}/\type_of% @ge_iff_le.{0}/\type_of% @Int.not_lt/\type_of% @Int.not_le/\type_of% @bne_iff_ne.{0}/\type_of% @ne_eq.{1}/\type_of% @beq_iff_eq.{0}/\type_of% @bne_eq_false_iff_eq.{0}/\type_of% @beq_eq_false_iff_ne.{0}:=
 ⟨@ZBJ,@ZS,@ZHz,@ZSU,@ZaB,@Bool.not_eq_false',@Zd,@decide_eq_false_iff_not,@ZWL,@gt_iff_lt.{0},@ge_iff_le.{0},@Int.not_lt,@Int.not_le,@bne_iff_ne.{0},@ne_eq.{1},@beq_iff_eq.{0},@bne_eq_false_iff_eq.{0},@beq_eq_false_iff_ne.{0}⟩
theorem zF:type_of% @zL/\type_of% @zR/\type_of% @Yf.{0,0}/\type_of% @ZAd.{0,0}/\type_of% @QS/\type_of% @ZCB/\type_of% @ZBS/\type_of% @ZBR/\type_of% @ZBb/\type_of% @Zf.{0}/\type_of% @Jm.{0}:=
 ⟨@zL,@zR,@Yf.{0,0},@ZAd.{0,0},@QS,@ZCB,@ZBS,@ZBR,@ZBb,@Zf.{0},@Jm.{0}⟩
theorem zV:type_of% @YL.{0,0}/\type_of% @ZAD.{0,0}/\type_of% @ZCs.{0}/\type_of% @ZCk.{0}/\type_of% @ZDC.{0}/\type_of% @ZBX.{0}/\type_of% @ZKp.{0}/\type_of% @ZSr.{0}/\type_of% @JK/\type_of% @JW/\type_of% @ZKr/\type_of% @ZKI/\type_of% @ZEZ/\type_of% @ZS0/\type_of% @QS/\type_of% @ZCB/\type_of% @ZFg/\type_of% @ZH4/\type_of% @if_true.{1}/\type_of% @if_false.{1}/\type_of% @Zh/\type_of% @ZBS/\type_of% @ZBR/\type_of% @ZBb/\type_of% @Zf.{0}/\type_of% @JD.{0}/\type_of% @ξN.{0}/\type_of% @beq_self_eq_true.{0}/\type_of% @JM/\type_of% @ZBk.{0}/\type_of% @Nat.beq_eq/\type_of% @ZNN/\type_of% @ZOQ:=
 ⟨@YL.{0,0},@ZAD.{0,0},@ZCs.{0},@ZCk.{0},@ZDC.{0},@ZBX.{0},@ZKp.{0},@ZSr.{0},@JK,@JW,@ZKr,@ZKI,@ZEZ,@ZS0,@QS,@ZCB,@ZFg,@ZH4,@if_true.{1},@if_false.{1},@Zh,@ZBS,@ZBR,@ZBb,@Zf.{0},@JD.{0},@ξN.{0},@beq_self_eq_true.{0},@JM,@ZBk.{0},@Nat.beq_eq,@ZNN,@ZOQ⟩
theorem zW:type_of% @ZKp.{0}/\type_of% @ZSr.{0}/\type_of% @ZNN/\type_of% @ZOQ/\type_of% @ZJR/\type_of% @Ku.{0}/\type_of% @Zm:=
 ⟨@ZKp.{0},@ZSr.{0},@ZNN,@ZOQ,@ZJR,@Ku.{0},@Zm⟩
theorem zM:type_of% @zL/\type_of% @zG/\type_of% @zR/\type_of% @zC/\type_of% @decide_false/\type_of% @IntWalk.i64_in/\type_of% @ZHi/\type_of% @ZJZ/\type_of% @ZBS/\type_of% @ZBR/\type_of% @ZBb/\type_of% @ZJb/\type_of% @ZJS/\type_of% @ZHn/\type_of% @ZFu/\type_of% @ZFH/\type_of% @Kt/\type_of% @Yv/\type_of% @ZLC.{0}/\type_of% @Qg.{0,0}/\type_of% @ZGT.{0,0}/\type_of% @ZWS/\type_of% @ZVY/\type_of% @ZK0.{0}/\type_of% @ZRy.{0}/\type_of% @Qv.{0,0,0}/\type_of% @ZPS.{0,0,0}/\type_of% @ZAa.{0}/\type_of% @Jj.{0}/\type_of% @true_and/\type_of% @and_true/\type_of% @if_false.{1}/\type_of% @bne_self_eq_false.{0}/\type_of% @Qz.{0}/\type_of% @ZEz.{0}:=
 ⟨@zL,@zG,@zR,@zC,@decide_false,@IntWalk.i64_in,@ZHi,@ZJZ,@ZBS,@ZBR,@ZBb,@ZJb,@ZJS,@ZHn,@ZFu,@ZFH,@Kt,@Yv,@ZLC.{0},@Qg.{0,0},@ZGT.{0,0},@ZWS,@ZVY,@ZK0.{0},@ZRy.{0},@Qv.{0,0,0},@ZPS.{0,0,0},@ZAa.{0},@Jj.{0},@true_and,@and_true,@if_false.{1},@bne_self_eq_false.{0},@Qz.{0},@ZEz.{0}⟩
theorem zS:type_of% @zL/\type_of% @zG/\type_of% @zR/\type_of% @zC/\type_of% @Ob.beq_refl/\type_of% @ZK0.{0}/\type_of% @ZRy.{0}/\type_of% @Kt/\type_of% @Yv/\type_of% @ZXZ/\type_of% @ZJb/\type_of% @ZJS/\type_of% @ZHn/\type_of% @ZFu/\type_of% @ZFH/\type_of% @ZLC.{0}/\type_of% @ZBS/\type_of% @ZBR/\type_of% @ZBb/\type_of% @ZUQ/\type_of% @ZUT/\type_of% @ZRK/\type_of% @ZPp/\type_of% @ZM8/\type_of% @ZMT.{0}/\type_of% @ξX.{0}/\type_of% @ZHi/\type_of% @ZJZ/\type_of% @ZGT.{0,0}/\type_of% @Qg.{0,0}/\type_of% @YY.some_iff/\type_of% @true_and/\type_of% @and_true/\type_of% @if_false.{1}/\type_of% @Qz.{0}/\type_of% @ZEz.{0}/\type_of% @Qv.{0,0,0}/\type_of% @ZPS.{0,0,0}/\type_of% @ZAa.{0}/\type_of% @Jj.{0}/\type_of% @decide_false/\type_of% @ZWS/\type_of% @ZVY/\type_of% @ZHz/\type_of% @ZSH/\type_of% @ZSQ/\type_of% @ZQ5/\type_of% @bne_self_eq_false.{0}/\type_of% @Bool.bne_false/\type_of% @Bool.bne_true:=
 ⟨@zL,@zG,@zR,@zC,@Ob.beq_refl,@ZK0.{0},@ZRy.{0},@Kt,@Yv,@ZXZ,@ZJb,@ZJS,@ZHn,@ZFu,@ZFH,@ZLC.{0},@ZBS,@ZBR,@ZBb,@ZUQ,@ZUT,@ZRK,@ZPp,@ZM8,@ZMT.{0},@ξX.{0},@ZHi,@ZJZ,@ZGT.{0,0},@Qg.{0,0},@YY.some_iff,@true_and,@and_true,@if_false.{1},@Qz.{0},@ZEz.{0},@Qv.{0,0,0},@ZPS.{0,0,0},@ZAa.{0},@Jj.{0},@decide_false,@ZWS,@ZVY,@ZHz,@ZSH,@ZSQ,@ZQ5,@bne_self_eq_false.{0},@Bool.bne_false,@Bool.bne_true⟩
theorem zO:type_of% @ZUJ/\type_of% @ZTp/\type_of% @ZTq/\type_of% @ZT3/\type_of% @ZT6/\type_of% @ZUH/\type_of% @ZUN/\type_of% @ZSP/\type_of% @ZQ8/\type_of% @ZTF/\type_of% @ZUa/\type_of% @ZgJ/\type_of% @ZWx/\type_of% @ZYS/\type_of% @ZW8/\type_of% @ZTy/\type_of% @Zft/\type_of% @ZgP/\type_of% @Zgm/\type_of% @ZR2/\type_of% @ZAM/\type_of% @ZCe/\type_of% @Qp/\type_of% @ZEj/\type_of% @ZJV/\type_of% @ZJD:=
 ⟨@ZUJ,@ZTp,@ZTq,@ZT3,@ZT6,@ZUH,@ZUN,@ZSP,@ZQ8,@ZTF,@ZUa,@ZgJ,@ZWx,@ZYS,@ZW8,@ZTy,@Zft,@ZgP,@Zgm,@ZR2,@ZAM,@ZCe,@Qp,@ZEj,@ZJV,@ZJD⟩
section
variable {P:Program} {c:Ctx} {E0:Env} {os0 os:J7} {n:Nat} {Q:Exit->J4->J7->Prop} {φ:J4}
theorem WI.regB{S:Tabs}(hS:SsOk P S)(ks:W0){l:List IOp}(h:YY (YJ S true φ os l) (λφ' os'=>Q .normal (Go.Ab.keep ks φ') os')):WI P c E0 os0 n (.reg l) Q φ os:=
 WI.regA hS ks (λK hK=>by
  obtain⟨ok,φ',os',h1,h2,h3⟩:=h;exact⟨ok,φ',os',h1,h2,hK _ _ h3⟩)
theorem WI.dregB{S:Tabs}(hS:SsOk P S)(ks:W0){k k2:Nat}{rs rs2:W0}{l:List IOp}(h:YY (YW S os k rs 0 true φ os.length os [] none l) (λφ' os'=>Q .normal (Go.Ab.keep ks φ') os')):WI P c E0 os0 n (.dreg k rs k2 rs2 l) Q φ os:=
 WI.dregA hS ks (λK hK=>by
  obtain⟨ok,φ',os',h1,h2,h3⟩:=h;exact⟨ok,φ',os',h1,h2,hK _ _ h3⟩)
theorem WI.post{ic:IC}(h:WI P c E0 os0 n ic (λx φ os=> ∃φ2 os2,Wk c E0 os0 n φ os φ2 os2/\Q x φ2 os2) φ os):WI P c E0 os0 n ic Q φ os:=by
 intro code hc E a R hf;refine wp_mono (h code hc E a R hf) ?_;rintro x a' w' ⟨E',φ',os',rfl,R',hf',φ2,os2,hw,hq⟩;obtain⟨E2,e2,R2,f2⟩:=hw E' a' R' hf';exact⟨E2,φ2,os2,e2,R2,f2,hq⟩
theorem Wk.refl:Wk c E0 os0 n φ os φ os:=λE a R hf=>⟨E,rfl,R,hf⟩
theorem Wk.trans{φ1 φ2:J4}{os1 os2:J7}(h:Wk c E0 os0 n φ os φ1 os1)(h':Wk c E0 os0 n φ1 os1 φ2 os2):Wk c E0 os0 n φ os φ2 os2:=λE a R hf=>by
 obtain⟨E1,e1,R1,f1⟩:=h E a R hf;obtain⟨E2,e2,R2,f2⟩:=h' E1 a R1 f1;exact⟨E2,e2.trans e1,R2,f2⟩
theorem oP{S:Tabs}{ks:W0}{φ':J4}(h: ∃φ2 os2,Wk c E0 os0 n φ' os φ2 os2/\Q .normal φ2 os2)(hk:keep ks φ=φ':=by simp only[keep,QI,Nat.reduceEqDiff,if_true,if_false,↓reduceIte,JM];rfl):YY (YJ S true φ os []) (λφ' os'=> ∃φ2 os2,Wk c E0 os0 n (keep ks φ') os' φ2 os2/\Q .normal φ2 os2):=osN (by rw[hk];exact h)
theorem dP{S:Tabs}{ks rs:W0}{k i id:Nat}{C os1 os':J7}{last:Option J7}{φ':J4}(h: ∃φ2 os2,Wk c E0 os0 n φ' os' φ2 os2/\Q .normal φ2 os2)(hk:keep ks φ=φ':=by simp only[keep,QI,Nat.reduceEqDiff,if_true,if_false,↓reduceIte,JM];rfl)(hl:last.getD (os1++C)=os':=by simp only[ZMT,ξX,Ku,Qx,ZAR];rfl):YY (YW S os1 k rs i true φ id os C last []) (λφ' os'=> ∃φ2 os2,Wk c E0 os0 n (keep ks φ') os' φ2 os2/\Q .normal φ2 os2):=dsN (by rw[hk,hl];exact h)
theorem KR(h:Q .normal φ os): ∃φ2 os2,Wk c E0 os0 n φ os φ2 os2/\Q .normal φ2 os2:=⟨φ,os,Wk.refl,h⟩
theorem Jf(ρ:W0){φ':J4}{os':J7}(h: ∃φ2 os2,Wk c E0 os0 n φ' os' φ2 os2/\Q .normal φ2 os2)(hok:ZOu ρ os0.length os.length=true:=by rfl)(hp:ZA6 ρ os φ=φ':=by simp (disch:=decide) only[zV,zO,Ob.mpb,frzL,ZA6,ZCf,onF,Ob.onI,mpP,Jb,Yf,Qg,D.vw,vwL,D.on,D.inP,Yo,Zn,D.ren,Zu,Ye,YS,Ob.mp,Ob.ren,D.nn,ZDn,Nat.reduceBEq,Nat.reduceEqDiff,Nat.reduceAdd,↓reduceIte];rfl)(ho:ZCf ρ os=os':=by simp (disch:=decide) only[zV,zO,Ob.mpb,frzL,ZA6,ZCf,onF,Ob.onI,mpP,Jb,Yf,Qg,D.vw,vwL,D.on,D.inP,Yo,Zn,D.ren,Zu,Ye,YS,Ob.mp,Ob.ren,D.nn,ZDn,Nat.reduceBEq,Nat.reduceEqDiff,Nat.reduceAdd,↓reduceIte];rfl): ∃φ2 os2,Wk c E0 os0 n φ os φ2 os2/\Q .normal φ2 os2:=by
 obtain⟨φ2,os2,h1,h2⟩:=h;subst hp ho;exact⟨φ2,os2,(Wk.pick ρ hok).trans h1,h2⟩
theorem Zd7(l:W0){os':J7}(h: ∃φ2 os2,Wk c E0 os0 n φ os' φ2 os2/\Q .normal φ2 os2)(ho:frzL l os=os':=by simp only[frzL,ZCs,ZCk,ZDC,ZBX];rfl): ∃φ2 os2,Wk c E0 os0 n φ os φ2 os2/\Q .normal φ2 os2:=by
 obtain⟨φ2,os2,h1,h2⟩:=h;subst ho;exact⟨φ2,os2,(Wk.freeze l).trans h1,h2⟩
theorem WI.nnA{ic:IC}{φ':J4}{os':J7}(h:WI P c E0 os0 n ic Q φ' os')(hp:ZDn φ=φ':=by simp only[zV,zO,Ob.mpb,frzL,ZA6,ZCf,onF,Ob.onI,mpP,Jb,Yf,Qg,D.vw,vwL,D.on,D.inP,Yo,Zn,D.ren,Zu,Ye,YS,Ob.mp,Ob.ren,D.nn,ZDn,Nat.reduceBEq,Nat.reduceEqDiff,Nat.reduceAdd,↓reduceIte];rfl)(ho:os.map (Ob.mpb D.nn)=os':=by simp only[zV,zO,Ob.mpb,frzL,ZA6,ZCf,onF,Ob.onI,mpP,Jb,Yf,Qg,D.vw,vwL,D.on,D.inP,Yo,Zn,D.ren,Zu,Ye,YS,Ob.mp,Ob.ren,D.nn,ZDn,Nat.reduceBEq,Nat.reduceEqDiff,Nat.reduceAdd,↓reduceIte];rfl):WI P c E0 os0 n ic Q φ os:=WI.nn (by rw[hp,ho];exact h)
theorem WI.pickA(ρ:W0){ic:IC}{φ':J4}{os':J7}(h:WI P c E0 os0 n ic Q φ' os')(hok:ZOu ρ os0.length os.length=true:=by rfl)(hp:ZA6 ρ os φ=φ':=by simp (disch:=decide) only[zV,zO,Ob.mpb,frzL,ZA6,ZCf,onF,Ob.onI,mpP,Jb,Yf,Qg,D.vw,vwL,D.on,D.inP,Yo,Zn,D.ren,Zu,Ye,YS,Ob.mp,Ob.ren,D.nn,ZDn,Nat.reduceBEq,Nat.reduceEqDiff,Nat.reduceAdd,↓reduceIte];rfl)(ho:ZCf ρ os=os':=by simp (disch:=decide) only[zV,zO,Ob.mpb,frzL,ZA6,ZCf,onF,Ob.onI,mpP,Jb,Yf,Qg,D.vw,vwL,D.on,D.inP,Yo,Zn,D.ren,Zu,Ye,YS,Ob.mp,Ob.ren,D.nn,ZDn,Nat.reduceBEq,Nat.reduceEqDiff,Nat.reduceAdd,↓reduceIte];rfl):WI P c E0 os0 n ic Q φ os:=WI.pick ρ hok (by rw[hp,ho];exact h)
theorem WI.freezeA(l:W0){ic:IC}{os':J7}(h:WI P c E0 os0 n ic Q φ os')(ho:frzL l os=os':=by simp only[frzL,ZCs,ZCk,ZDC,ZBX];rfl):WI P c E0 os0 n ic Q φ os:=WI.freeze l (by rw[ho];exact h)
theorem WI.ownA(t e sz:Nat){ic:IC}{φ':J4}{os':J7}(h:WI P c E0 os0 n ic Q φ' os')(ht:get φ t= .x .nils:=by rfl)(hp:put φ t (.ref os.length 0 0 0)=φ':=by simp only[put,Nat.reduceEqDiff,↓reduceIte,ξN,JD,Nat.reduceAdd];rfl)(ho:os++ [.rows false e sz []]=os':=by simp only[ZAR,Qx];rfl):WI P c E0 os0 n ic Q φ os:=WI.own t e sz ht (by rw[hp,ho];exact h)
theorem WI.thawA(mid:Nat){it:Nat}{dk:KK}{ag:Bool}{l R0:W2}{cur:Option Pr}{ic:IC}{os':J7}(h:WI P c E0 os0 n ic Q φ os')(ho:os[mid]? =some (.mit dk ag l it R0 cur):=by rfl)(hs:os.set mid (.mpo dk ag l)=os':=by simp only[ZDC,ZBX];rfl):WI P c E0 os0 n ic Q φ os:=WI.thaw mid ho (by rw[hs];exact h)
theorem WI.nextSA{t t2 it m:Nat}{x:IO}{s:List UInt8}{pos:Nat}(ks:W0){φ1 φ2:J4}{os2:J7}(hend: ¬pos<s.length->Q .normal φ1 os)(hgo:pos<s.length->Q .normal φ2 os2)(hx:(ZE φ x).val= .iref m it:=by rfl)(hcd:(ZE φ x).cond=true:=by rfl)(ho:os[it]? =some (.sit s pos):=by rfl)
  (h1:Go.Ab.keep ks (Go.Ab.put (Go.Ab.put φ t (.tup [.x (.bool false)])) t2 (.x (.bool false)))=φ1:=by simp only[put,keep,QI,Nat.reduceEqDiff,if_true,if_false,↓reduceIte,JM];rfl) (h2:Go.Ab.keep ks (Go.Ab.put (Go.Ab.put φ t (.tup [.x (.bool true),.x (.int .i64 pos),.x (.int .i32 (QG s pos).1)])) t2 (.x (.bool true)))=φ2:=by simp only[put,keep,QI,Nat.reduceEqDiff,if_true,if_false,↓reduceIte,JM];rfl)
  (h3:os.set it (.sit s (pos+(QG s pos).2))=os2:=by simp only[ZDC,ZBX];rfl):WI P c E0 os0 n (.reg [⟨some t,.nxt true x,none⟩,⟨some t2,.ext (.t t) 0,none⟩]) Q φ os:=WI.nextS ks hx hcd ho (by rw[h1];exact hend) (by rw[h2,h3];exact hgo)
theorem WI.nextMA{t t2 it mid:Nat}{x:IO}{dk:KK}{ag:Bool}{l R0:W2}{cur:Option Pr}(ks:W0){φ1 φ2:J4}{os2:Nat->Pr->J7}(hend:R0= []->Q .normal φ1 os)(hgo: ∀(i:Nat) (q:Pr),R0[i]? =some q->Q .normal φ2 (os2 i q))(hx:(ZE φ x).val= .iref mid it:=by rfl)(hcd:(ZE φ x).cond=true:=by rfl)(ho:os[mid]? =some (.mit dk ag l it R0 cur):=by rfl)
  (h1:Go.Ab.keep ks (Go.Ab.put (Go.Ab.put φ t (.tup [.x (.bool false)])) t2 (.x (.bool false)))=φ1:=by simp only[put,keep,QI,Nat.reduceEqDiff,if_true,if_false,↓reduceIte,JM];rfl) (h2:Go.Ab.keep ks (Go.Ab.put (Go.Ab.put φ t .und) t2 (.x (.bool true)))=φ2:=by simp only[put,keep,QI,Nat.reduceEqDiff,if_true,if_false,↓reduceIte,JM];rfl)
  (h3: ∀i q,os.set mid (.mit dk ag l it (R0.eraseIdx i) (some q))=os2 i q:=by intro i q;simp only[ZDC,ZBX];rfl):WI P c E0 os0 n (.reg [⟨some t,.nxt false x,none⟩,⟨some t2,.ext (.t t) 0,none⟩]) Q φ os:=WI.nextM ks hx hcd ho (by rw[h1];exact hend) (by rw[h2];intro i q h;rw[h3];exact hgo i q h)
theorem WI.orderA(ts:W0){ic:IC}{φ':J4}(h:WI P c E0 os0 n ic Q φ' os)(hp:ts.map (λu=>(u,get φ u))=φ':=by simp only[YL,ZAD,Ab.get,Nat.reduceEqDiff,↓reduceIte,if_true,if_false];rfl):WI P c E0 os0 n ic Q φ os:=WI.order ts (by rw[hp];exact h)
end
section
variable {S:Tabs} {os0 os C:J7} {k i id:Nat} {rs:W0} {φ φ':J4} {os':J7} {last:Option J7} {o:IOp} {l:List IOp} {ok:Bool} {d:D} {ob:Ob} {K:J4->J7->Prop} {Q:Exit->J4->J7->Prop} {ks:W0}
theorem oN(h:Q .normal φ' os)(hk:keep ks φ=φ':=by simp only[keep,QI,Nat.reduceEqDiff,if_true,if_false,↓reduceIte,JM];rfl):YY (YJ S true φ os []) (λφ' os'=>Q .normal (keep ks φ') os'):=osN (by rw[hk];exact h)
theorem dN(h:Q .normal φ' os')(hk:keep ks φ=φ':=by simp only[keep,QI,Nat.reduceEqDiff,if_true,if_false,↓reduceIte,JM];rfl)(hl:last.getD (os0++C)=os':=by simp only[ZMT,ξX,Ku,Qx,ZAR];rfl):YY (YW S os0 k rs i true φ id os C last []) (λφ' os'=>Q .normal (keep ks φ') os'):=dsN (by rw[hk,hl];exact h)
theorem oS(h:YY (YJ S true φ' os' l) K)(he:JO S φ os o=some (ok,φ',os'):=by simp only[zC,JO,ZQ,ZE,Ab.get,Ab.put,putO,Nat.reduceEqDiff,↓reduceIte,D.val,D.cond,reduceCtorEq,Nat.reduceAdd,JK,JW];rfl)(hok:ok=true:=by rfl):YY (YJ S true φ os (o::l)) K:=osS he hok h
theorem oG(h:YY (YJ S true φ' os' l) K)(he:JO S φ os o=some (ok,φ',os'):=by simp (disch:=omega) only[uu,zM,JO,ZQ,ZE,Ab.get,Ab.put,putO,Nat.reduceEqDiff,↓reduceIte,D.val,D.cond,reduceCtorEq,YI,ZA9,Ob.isDrw,Ju,ZAv,Qh,ZCo,apm,ZAF,IE.isCall,D.cells?,Nat.reduceAdd,Nat.reduceLeDiff,Ob.slice?,Ob.dsl?,Ob.drw?,Nat.reduceSub,Nat.reduceMul,Int.reduceToNat,Int.reduceLE,Int.reduceLT,Int.reduceAdd,Int.reduceSub,Int.reduceMul,Int.reduceNeg,Int.reduceEq,Zw,ZEN,QA,ZD,Jn,Yj,Ys,Jo,QN,Qw,ZAy,Kl,eqR,eqD,ZBV,eqX,nzD,ZB6,unD,ZB0,evK,evC,ZAG,Qr,Nat.reduceLT,zO];rfl)(hok:ok=true:=by first|with_reducible rfl|omega|(simp;done)|(simp;omega)|rfl|(clear uu;grind)|(clear h;clear uu;grind)):YY (YJ S true φ os (o::l)) K:=osS he hok h
theorem oC(h:YY (YJ S true φ' os' l) K)(he:JO S φ os o=some (ok,φ',os'):=by simp (disch:=omega) only[uu,zS,zW,zO,ZBa,ZFN,D.nn,D.na,ZT,Jz,IE.isCall,Nat.reduceAdd,Nat.reduceSub,Nat.reduceMul,Nat.reduceLeDiff,Nat.reduceLT,Nat.reduceBEq,Int.reduceToNat,Int.reduceLE,Int.reduceLT,Int.reduceAdd,Int.reduceSub,Int.reduceMul,Int.reduceNeg,Int.reduceEq,Nat.reduceEqDiff,YJ,YW,JO,ZQ,YI,ZA9,Ob.isDrw,Ju,ZAv,Qh,ZCo,apm,ZE,Ab.get,Ab.put,putO,keep,QI,D.val,D.cond,D.cells?,D.scalar,X.scalar,D.plain,D.isX,ZB6,ZCI,eqD,ZBV,eqX,unD,ZD,ZB0,QA,Zw,Qo,JR,Ys,Yj,Jn,Jo,QN,Qw,Ob.slice?,↓reduceIte,reduceCtorEq,JH,evK,evC,ZAG,Qr,Qk,Kk,Km,eqR,nzD,ZAF,ZDF,ZDO,ZDK,ZCG,ZAt,ZAy,ZO,IE.frame,Zn,Kl,IntWalk.i64_in,Yx,Jv,ZG3,Jg,ZHv,ZCc,ZAN,Jb,QB,QD,Yo,D.inP,Ob.inP,Zu,D.ren,Ye,YS,Ob.ren,KA,KJ,KI,ZEa,QJ];rfl)(hok:ok=true:=by first|with_reducible rfl|omega|(simp;done)|(simp;omega)|rfl|(clear uu;grind)|(clear h;clear uu;grind)):YY (YJ S true φ os (o::l)) K:=osS he hok h
theorem Zs(h:YY (YW S os0 k rs (i+1) true φ' id os C last l) K)(hf:o.e.frame=true:=by rfl)(he:(JH S φ [] o).map (λr=>(r.1,putO φ o.dst r.2))=some (ok,φ'):=by simp only[zC,JH,Qk,Kk,Km,Ob.beq_refl,JO,ZQ,ZE,Ab.get,Ab.put,putO,Nat.reduceEqDiff,↓reduceIte,D.val,D.cond,reduceCtorEq,Nat.reduceAdd,JK,JW];rfl)(hok:ok=true:=by rfl):YY (YW S os0 k rs i true φ id os C last (o::l)) K:=dsF hf he hok h
theorem Jq(h:YY (YW S os0 k rs (i+1) true φ' id os C last l) K)(hf:o.e.frame=true:=by rfl)(he:(JH S φ [] o).map (λr=>(r.1,putO φ o.dst r.2))=some (ok,φ'):=by simp (disch:=omega) only[uu,zM,JH,Qk,Kk,Km,Ob.beq_refl,JO,ZQ,ZE,Ab.get,Ab.put,putO,Nat.reduceEqDiff,↓reduceIte,D.val,D.cond,reduceCtorEq,YI,ZA9,Ob.isDrw,Ju,ZAv,Qh,ZCo,apm,ZAF,IE.isCall,D.cells?,Nat.reduceAdd,Nat.reduceLeDiff,Ob.slice?,Ob.dsl?,Ob.drw?,Nat.reduceSub,Nat.reduceMul,Int.reduceToNat,Int.reduceLE,Int.reduceLT,Int.reduceAdd,Int.reduceSub,Int.reduceMul,Int.reduceNeg,Int.reduceEq,Zw,ZEN,QA,ZD,Jn,Yj,Ys,Jo,QN,Qw,ZAy,Kl,eqR,eqD,ZBV,eqX,nzD,ZB6,unD,ZB0,evK,evC,ZAG,Qr,Nat.reduceLT,zO];rfl)(hok:ok=true:=by first|with_reducible rfl|omega|(simp;done)|(simp;omega)|rfl|(clear uu;grind)|(clear h;clear uu;grind)):YY (YW S os0 k rs i true φ id os C last (o::l)) K:=dsF hf he hok h
theorem Yp(h:YY (YW S os0 k rs (i+1) true φ' id os C last l) K)(hf:o.e.frame=false:=by rfl)(hm:Zn i rs=false:=by rfl)(hk:Nat.ble (i+1) k=true:=by rfl)(he:(JH S φ os0 o).map (λr=>(r.1,putO φ o.dst r.2))=some (ok,φ'):=by simp (disch:=omega) only[uu,zM,JH,Qk,Kk,Km,Ob.beq_refl,JO,ZQ,ZE,Ab.get,Ab.put,putO,Nat.reduceEqDiff,↓reduceIte,D.val,D.cond,reduceCtorEq,YI,ZA9,Ob.isDrw,Ju,ZAv,Qh,ZCo,apm,ZAF,IE.isCall,D.cells?,Nat.reduceAdd,Nat.reduceLeDiff,Ob.slice?,Ob.dsl?,Ob.drw?,Nat.reduceSub,Nat.reduceMul,Int.reduceToNat,Int.reduceLE,Int.reduceLT,Int.reduceAdd,Int.reduceSub,Int.reduceMul,Int.reduceNeg,Int.reduceEq,Zw,ZEN,QA,ZD,Jn,Yj,Ys,Jo,QN,Qw,ZAy,Kl,eqR,eqD,ZBV,eqX,nzD,ZB6,unD,ZB0,evK,evC,ZAG,Qr,Nat.reduceLT,zO];rfl)(hok:ok=true:=by first|with_reducible rfl|omega|(simp;done)|(simp;omega)|rfl|(clear uu;grind)|(clear h;clear uu;grind)):YY (YW S os0 k rs i true φ id os C last (o::l)) K:=dsQ hf hm hk he hok h
theorem dKG(h:YY (YW S os0 k rs (i+1) true φ' (id+1) (os++ [ob]) (C++ [ob]) last l) K)(hf:o.e.frame=false:=by rfl)(hm:Zn i rs=false:=by rfl)(hk:Nat.ble (i+1) k=true:=by rfl)(hn:JH S φ os0 o=none:=by simp (disch:=omega) only[uu,zS,zW,zO,ZBa,ZFN,D.nn,D.na,ZT,Jz,IE.isCall,Nat.reduceAdd,Nat.reduceSub,Nat.reduceMul,Nat.reduceLeDiff,Nat.reduceLT,Nat.reduceBEq,Int.reduceToNat,Int.reduceLE,Int.reduceLT,Int.reduceAdd,Int.reduceSub,Int.reduceMul,Int.reduceNeg,Int.reduceEq,Nat.reduceEqDiff,YJ,YW,JO,ZQ,YI,ZA9,Ob.isDrw,Ju,ZAv,Qh,ZCo,apm,ZE,Ab.get,Ab.put,putO,keep,QI,D.val,D.cond,D.cells?,D.scalar,X.scalar,D.plain,D.isX,ZB6,ZCI,eqD,ZBV,eqX,unD,ZD,ZB0,QA,Zw,Qo,JR,Ys,Yj,Jn,Jo,QN,Qw,Ob.slice?,↓reduceIte,reduceCtorEq,JH,evK,evC,ZAG,Qr,Qk,Kk,Km,eqR,nzD,ZAF,ZDF,ZDO,ZDK,ZCG,ZAt,ZAy,ZO,IE.frame,Zn,Kl,IntWalk.i64_in,Yx,Jv,ZG3,Jg,ZHv,ZCc,ZAN,Jb,QB,QD,Yo,D.inP,Ob.inP,Zu,D.ren,Ye,YS,Ob.ren,KA,KJ,KI,ZEa,QJ])(he:(evK S φ os0 id o).map (λr=>(r.1,putO φ o.dst r.2.1,r.2.2))=some (ok,φ',ob):=by simp (disch:=omega) only[uu,zS,zW,zO,ZBa,ZFN,D.nn,D.na,ZT,Jz,IE.isCall,Nat.reduceAdd,Nat.reduceSub,Nat.reduceMul,Nat.reduceLeDiff,Nat.reduceLT,Nat.reduceBEq,Int.reduceToNat,Int.reduceLE,Int.reduceLT,Int.reduceAdd,Int.reduceSub,Int.reduceMul,Int.reduceNeg,Int.reduceEq,Nat.reduceEqDiff,YJ,YW,JO,ZQ,YI,ZA9,Ob.isDrw,Ju,ZAv,Qh,ZCo,apm,ZE,Ab.get,Ab.put,putO,keep,QI,D.val,D.cond,D.cells?,D.scalar,X.scalar,D.plain,D.isX,ZB6,ZCI,eqD,ZBV,eqX,unD,ZD,ZB0,QA,Zw,Qo,JR,Ys,Yj,Jn,Jo,QN,Qw,Ob.slice?,↓reduceIte,reduceCtorEq,JH,evK,evC,ZAG,Qr,Qk,Kk,Km,eqR,nzD,ZAF,ZDF,ZDO,ZDK,ZCG,ZAt,ZAy,ZO,IE.frame,Zn,Kl,IntWalk.i64_in,Yx,Jv,ZG3,Jg,ZHv,ZCc,ZAN,Jb,QB,QD,Yo,D.inP,Ob.inP,Zu,D.ren,Ye,YS,Ob.ren,KA,KJ,KI,ZEa,QJ];rfl)(hok:ok=true:=by first|with_reducible rfl|omega|(simp;done)|(simp;omega)|rfl|(clear uu;grind)|(clear h;clear uu;grind)):YY (YW S os0 k rs i true φ id os C last (o::l)) K:=dsK hf hm hk hn he hok h
theorem dAG(h:YY (YW S os0 k rs (i+1) true φ' id os' C (some os') l) K)(hf:o.e.frame=false:=by rfl)(hm:Zn i rs=false:=by rfl)(hk:Nat.ble (i+1) k=false:=by rfl)(he:(Qk S φ os o).map (λr=>(r.1&&(match rs with| []=>true|_=>Km os0 r.2.2),putO φ o.dst r.2.1,r.2.2))=some (ok,φ',os'):=by simp (disch:=omega) only[uu,zM,JH,Qk,Kk,Km,Ob.beq_refl,JO,ZQ,ZE,Ab.get,Ab.put,putO,Nat.reduceEqDiff,↓reduceIte,D.val,D.cond,reduceCtorEq,YI,ZA9,Ob.isDrw,Ju,ZAv,Qh,ZCo,apm,ZAF,IE.isCall,D.cells?,Nat.reduceAdd,Nat.reduceLeDiff,Ob.slice?,Ob.dsl?,Ob.drw?,Nat.reduceSub,Nat.reduceMul,Int.reduceToNat,Int.reduceLE,Int.reduceLT,Int.reduceAdd,Int.reduceSub,Int.reduceMul,Int.reduceNeg,Int.reduceEq,Zw,ZEN,QA,ZD,Jn,Yj,Ys,Jo,QN,Qw,ZAy,Kl,eqR,eqD,ZBV,eqX,nzD,ZB6,unD,ZB0,evK,evC,ZAG,Qr,Nat.reduceLT,zO];rfl)(hok:ok=true:=by first|with_reducible rfl|omega|(simp;done)|(simp;omega)|rfl|(clear uu;grind)|(clear h;clear uu;grind)):YY (YW S os0 k rs i true φ id os C last (o::l)) K:=dsA hf hm hk he hok h
theorem dQC(h:YY (YW S os0 k rs (i+1) true φ' id os C last l) K)(hf:o.e.frame=false:=by rfl)(hm:Zn i rs=false:=by rfl)(hk:Nat.ble (i+1) k=true:=by rfl)(he:(JH S φ os0 o).map (λr=>(r.1,putO φ o.dst r.2))=some (ok,φ'):=by simp (disch:=omega) only[uu,zS,zW,zO,ZBa,ZFN,D.nn,D.na,ZT,Jz,IE.isCall,Nat.reduceAdd,Nat.reduceSub,Nat.reduceMul,Nat.reduceLeDiff,Nat.reduceLT,Nat.reduceBEq,Int.reduceToNat,Int.reduceLE,Int.reduceLT,Int.reduceAdd,Int.reduceSub,Int.reduceMul,Int.reduceNeg,Int.reduceEq,Nat.reduceEqDiff,YJ,YW,JO,ZQ,YI,ZA9,Ob.isDrw,Ju,ZAv,Qh,ZCo,apm,ZE,Ab.get,Ab.put,putO,keep,QI,D.val,D.cond,D.cells?,D.scalar,X.scalar,D.plain,D.isX,ZB6,ZCI,eqD,ZBV,eqX,unD,ZD,ZB0,QA,Zw,Qo,JR,Ys,Yj,Jn,Jo,QN,Qw,Ob.slice?,↓reduceIte,reduceCtorEq,JH,evK,evC,ZAG,Qr,Qk,Kk,Km,eqR,nzD,ZAF,ZDF,ZDO,ZDK,ZCG,ZAt,ZAy,ZO,IE.frame,Zn,Kl,IntWalk.i64_in,Yx,Jv,ZG3,Jg,ZHv,ZCc,ZAN,Jb,QB,QD,Yo,D.inP,Ob.inP,Zu,D.ren,Ye,YS,Ob.ren,KA,KJ,KI,ZEa,QJ];rfl)(hok:ok=true:=by first|with_reducible rfl|omega|(simp;done)|(simp;omega)|rfl|(clear uu;grind)|(clear h;clear uu;grind)):YY (YW S os0 k rs i true φ id os C last (o::l)) K:=dsQ hf hm hk he hok h
theorem dKC(h:YY (YW S os0 k rs (i+1) true φ' (id+1) (os++ [ob]) (C++ [ob]) last l) K)(hf:o.e.frame=false:=by rfl)(hm:Zn i rs=false:=by rfl)(hk:Nat.ble (i+1) k=true:=by rfl)(hn:JH S φ os0 o=none:=by simp (disch:=omega) only[uu,zS,zW,zO,ZBa,ZFN,D.nn,D.na,ZT,Jz,IE.isCall,Nat.reduceAdd,Nat.reduceSub,Nat.reduceMul,Nat.reduceLeDiff,Nat.reduceLT,Nat.reduceBEq,Int.reduceToNat,Int.reduceLE,Int.reduceLT,Int.reduceAdd,Int.reduceSub,Int.reduceMul,Int.reduceNeg,Int.reduceEq,Nat.reduceEqDiff,YJ,YW,JO,ZQ,YI,ZA9,Ob.isDrw,Ju,ZAv,Qh,ZCo,apm,ZE,Ab.get,Ab.put,putO,keep,QI,D.val,D.cond,D.cells?,D.scalar,X.scalar,D.plain,D.isX,ZB6,ZCI,eqD,ZBV,eqX,unD,ZD,ZB0,QA,Zw,Qo,JR,Ys,Yj,Jn,Jo,QN,Qw,Ob.slice?,↓reduceIte,reduceCtorEq,JH,evK,evC,ZAG,Qr,Qk,Kk,Km,eqR,nzD,ZAF,ZDF,ZDO,ZDK,ZCG,ZAt,ZAy,ZO,IE.frame,Zn,Kl,IntWalk.i64_in,Yx,Jv,ZG3,Jg,ZHv,ZCc,ZAN,Jb,QB,QD,Yo,D.inP,Ob.inP,Zu,D.ren,Ye,YS,Ob.ren,KA,KJ,KI,ZEa,QJ])(he:(evK S φ os0 id o).map (λr=>(r.1,putO φ o.dst r.2.1,r.2.2))=some (ok,φ',ob):=by simp (disch:=omega) only[uu,zS,zW,zO,ZBa,ZFN,D.nn,D.na,ZT,Jz,IE.isCall,Nat.reduceAdd,Nat.reduceSub,Nat.reduceMul,Nat.reduceLeDiff,Nat.reduceLT,Nat.reduceBEq,Int.reduceToNat,Int.reduceLE,Int.reduceLT,Int.reduceAdd,Int.reduceSub,Int.reduceMul,Int.reduceNeg,Int.reduceEq,Nat.reduceEqDiff,YJ,YW,JO,ZQ,YI,ZA9,Ob.isDrw,Ju,ZAv,Qh,ZCo,apm,ZE,Ab.get,Ab.put,putO,keep,QI,D.val,D.cond,D.cells?,D.scalar,X.scalar,D.plain,D.isX,ZB6,ZCI,eqD,ZBV,eqX,unD,ZD,ZB0,QA,Zw,Qo,JR,Ys,Yj,Jn,Jo,QN,Qw,Ob.slice?,↓reduceIte,reduceCtorEq,JH,evK,evC,ZAG,Qr,Qk,Kk,Km,eqR,nzD,ZAF,ZDF,ZDO,ZDK,ZCG,ZAt,ZAy,ZO,IE.frame,Zn,Kl,IntWalk.i64_in,Yx,Jv,ZG3,Jg,ZHv,ZCc,ZAN,Jb,QB,QD,Yo,D.inP,Ob.inP,Zu,D.ren,Ye,YS,Ob.ren,KA,KJ,KI,ZEa,QJ];rfl)(hok:ok=true:=by first|with_reducible rfl|omega|(simp;done)|(simp;omega)|rfl|(clear uu;grind)|(clear h;clear uu;grind)):YY (YW S os0 k rs i true φ id os C last (o::l)) K:=dsK hf hm hk hn he hok h
theorem dAC(h:YY (YW S os0 k rs (i+1) true φ' id os' C (some os') l) K)(hf:o.e.frame=false:=by rfl)(hm:Zn i rs=false:=by rfl)(hk:Nat.ble (i+1) k=false:=by rfl)(he:(Qk S φ os o).map (λr=>(r.1&&(match rs with| []=>true|_=>Km os0 r.2.2),putO φ o.dst r.2.1,r.2.2))=some (ok,φ',os'):=by simp (disch:=omega) only[uu,zS,zW,zO,ZBa,ZFN,D.nn,D.na,ZT,Jz,IE.isCall,Nat.reduceAdd,Nat.reduceSub,Nat.reduceMul,Nat.reduceLeDiff,Nat.reduceLT,Nat.reduceBEq,Int.reduceToNat,Int.reduceLE,Int.reduceLT,Int.reduceAdd,Int.reduceSub,Int.reduceMul,Int.reduceNeg,Int.reduceEq,Nat.reduceEqDiff,YJ,YW,JO,ZQ,YI,ZA9,Ob.isDrw,Ju,ZAv,Qh,ZCo,apm,ZE,Ab.get,Ab.put,putO,keep,QI,D.val,D.cond,D.cells?,D.scalar,X.scalar,D.plain,D.isX,ZB6,ZCI,eqD,ZBV,eqX,unD,ZD,ZB0,QA,Zw,Qo,JR,Ys,Yj,Jn,Jo,QN,Qw,Ob.slice?,↓reduceIte,reduceCtorEq,JH,evK,evC,ZAG,Qr,Qk,Kk,Km,eqR,nzD,ZAF,ZDF,ZDO,ZDK,ZCG,ZAt,ZAy,ZO,IE.frame,Zn,Kl,IntWalk.i64_in,Yx,Jv,ZG3,Jg,ZHv,ZCc,ZAN,Jb,QB,QD,Yo,D.inP,Ob.inP,Zu,D.ren,Ye,YS,Ob.ren,KA,KJ,KI,ZEa,QJ];rfl)(hok:ok=true:=by first|with_reducible rfl|omega|(simp;done)|(simp;omega)|rfl|(clear uu;grind)|(clear h;clear uu;grind)):YY (YW S os0 k rs i true φ id os C last (o::l)) K:=dsA hf hm hk he hok h
end
theorem lfN{fz:Bool}{T:Tab}{φ:J4}{os os2:J7}{rs:List IRes}{ds:J8}{r R:D}(h:r=R)(he:Kf fz T φ os rs=some (true,ds,os2):=by simp (disch:=omega) only[uu,zF,keep,QI,JM,if_false,Kf,ZH3,ZG2,ZDG,Ys,Yj,ZQ,ZE,Ab.get,Nat.reduceEqDiff,↓reduceIte,D.val,D.cond,Nat.reduceAdd,Nat.reduceLeDiff,Ob.slice?,Ob.dsl?,Ob.drw?,ZGT];rfl)(hr:mkR ds=r:=by simp only[mkR];rfl):((Exit.normal:Exit)= .normal\/(Exit.normal:Exit)= .ret)/\ ∃ds os2,Kf fz T φ os rs=some (true,ds,os2)/\mkR ds=R:=⟨.inl rfl,ds,os2,he,by rw[hr];exact h⟩
theorem Zig{fz:Bool}{T:Tab}{φ:J4}{os os2 OS:J7}{rs:List IRes}{ds:J8}{r R:D}(h:r=R/\os2=OS)(he:Kf fz T φ os rs=some (true,ds,os2):=by simp (disch:=omega) only[uu,zF,keep,QI,JM,if_false,Kf,ZH3,ZG2,ZDG,Ys,Yj,ZQ,ZE,Ab.get,Nat.reduceEqDiff,↓reduceIte,D.val,D.cond,Nat.reduceAdd,Nat.reduceLeDiff,Ob.slice?,Ob.dsl?,Ob.drw?,ZGT];rfl)(hr:mkR ds=r:=by simp only[mkR];rfl):((Exit.normal:Exit)= .normal\/(Exit.normal:Exit)= .ret)/\ ∃ds os2,Kf fz T φ os rs=some (true,ds,os2)/\mkR ds=R/\os2=OS:=⟨.inl rfl,ds,os2,he,by rw[hr];exact h⟩
theorem lfR{fz:Bool}{T:Tab}{φ:J4}{os os2:J7}{rs:List IRes}{ds:J8}{r R:D}(h:r=R)(he:Kf fz T φ os rs=some (true,ds,os2):=by simp (disch:=omega) only[uu,zF,keep,QI,JM,if_false,Kf,ZH3,ZG2,ZDG,Ys,Yj,ZQ,ZE,Ab.get,Nat.reduceEqDiff,↓reduceIte,D.val,D.cond,Nat.reduceAdd,Nat.reduceLeDiff,Ob.slice?,Ob.dsl?,Ob.drw?,ZGT];rfl)(hr:mkR ds=r:=by simp only[mkR];rfl):((Exit.ret:Exit)= .normal\/(Exit.ret:Exit)= .ret)/\ ∃ds os2,Kf fz T φ os rs=some (true,ds,os2)/\mkR ds=R:=⟨.inr rfl,ds,os2,he,by rw[hr];exact h⟩
theorem ZB5{fz:Bool}{T:Tab}{φ:J4}{os os2 OS:J7}{rs:List IRes}{ds:J8}{r R:D}(h:r=R/\os2=OS)(he:Kf fz T φ os rs=some (true,ds,os2):=by simp (disch:=omega) only[uu,zF,keep,QI,JM,if_false,Kf,ZH3,ZG2,ZDG,Ys,Yj,ZQ,ZE,Ab.get,Nat.reduceEqDiff,↓reduceIte,D.val,D.cond,Nat.reduceAdd,Nat.reduceLeDiff,Ob.slice?,Ob.dsl?,Ob.drw?,ZGT];rfl)(hr:mkR ds=r:=by simp only[mkR];rfl):((Exit.ret:Exit)= .normal\/(Exit.ret:Exit)= .ret)/\ ∃ds os2,Kf fz T φ os rs=some (true,ds,os2)/\mkR ds=R/\os2=OS:=⟨.inr rfl,ds,os2,he,by rw[hr];exact h⟩
theorem ZBd{fz:Bool}{T:Tab}{φ:J4}{os os2 OS:J7}{rs:List IRes}{ds:J8}{r R:D}(h:r=R/\ ∃Y,os2=OS++Y)(he:Kf fz T φ os rs=some (true,ds,os2):=by simp (disch:=omega) only[uu,zF,keep,QI,JM,if_false,Kf,ZH3,ZG2,ZDG,Ys,Yj,ZQ,ZE,Ab.get,Nat.reduceEqDiff,↓reduceIte,D.val,D.cond,Nat.reduceAdd,Nat.reduceLeDiff,Ob.slice?,Ob.dsl?,Ob.drw?,ZGT];rfl)(hr:mkR ds=r:=by simp only[mkR];rfl):((Exit.ret:Exit)= .normal\/(Exit.ret:Exit)= .ret)/\ ∃ds os2,Kf fz T φ os rs=some (true,ds,os2)/\mkR ds=R/\ ∃Y,os2=OS++Y:=⟨.inr rfl,ds,os2,he,by rw[hr];exact h⟩
theorem ZiN{fz:Bool}{T:Tab}{φ:J4}{os os2:J7}{rs:List IRes}{ds:J8}{r:D}{K:D->J7->Prop}(h:K r os2)(he:Kf fz T φ os rs=some (true,ds,os2):=by simp (disch:=omega) only[uu,zF,keep,QI,JM,if_false,Kf,ZH3,ZG2,ZDG,Ys,Yj,ZQ,ZE,Ab.get,Nat.reduceEqDiff,↓reduceIte,D.val,D.cond,Nat.reduceAdd,Nat.reduceLeDiff,Ob.slice?,Ob.dsl?,Ob.drw?,ZGT];rfl)(hr:mkR ds=r:=by simp only[mkR];rfl):((Exit.normal:Exit)= .normal\/(Exit.normal:Exit)= .ret)/\ ∃ds os2,Kf fz T φ os rs=some (true,ds,os2)/\K (mkR ds) os2:=⟨.inl rfl,ds,os2,he,by rw[hr];exact h⟩
theorem ZB7{fz:Bool}{T:Tab}{φ:J4}{os os2:J7}{rs:List IRes}{ds:J8}{r:D}{K:D->J7->Prop}(h:K r os2)(he:Kf fz T φ os rs=some (true,ds,os2):=by simp (disch:=omega) only[uu,zF,keep,QI,JM,if_false,Kf,ZH3,ZG2,ZDG,Ys,Yj,ZQ,ZE,Ab.get,Nat.reduceEqDiff,↓reduceIte,D.val,D.cond,Nat.reduceAdd,Nat.reduceLeDiff,Ob.slice?,Ob.dsl?,Ob.drw?,ZGT];rfl)(hr:mkR ds=r:=by simp only[mkR];rfl):((Exit.ret:Exit)= .normal\/(Exit.ret:Exit)= .ret)/\ ∃ds os2,Kf fz T φ os rs=some (true,ds,os2)/\K (mkR ds) os2:=⟨.inr rfl,ds,os2,he,by rw[hr];exact h⟩
variable {P:Program}
def ZAE(g:J8->J5)(args:J8)(os:J7):Option (Bool×D×J7):=
 (Yj os args).bind λp=>(g (p.1.map .x)).map λr=>(r.1,r.2,p.2)
theorem ZDv{f:FuncId}{g:J8->J5}(h: ∀args r,g args=some (true,r)->ZC P f args r): ∀args os r os',ZAE g args os=some (true,r,os')->ZN P f args os r os':=by
 intro args os r os' hh;obtain⟨p,hp,hh⟩:=Zv hh;obtain⟨⟨q1,q2⟩,hq,e⟩:=Zc hh;simp only[ZZ]at e;obtain⟨rfl,rfl,rfl⟩:=e;have hc:=h _ _ hq;intro c E vs R hvl;obtain⟨hlen,hv0⟩:=hvl;obtain⟨st',R1,ev1,hl1,hv1⟩:=ZC4 (vs:=vs.toList) R (λj d v hd hv=>hv0 j d v hd (by simpa using hv)) (by simpa using hlen) hp;have hvl':VL ⟨E.w,st',[]⟩ [] (p.1.map D.x) vs:=by
  refine⟨by simpa using hl1,λj d v hd hv=> ?_⟩;rw[YG]at hd;obtain⟨y,hy,rfl⟩:=Zc hd;exact .x (hv1 j y v hy (by simpa using hv))
 refine(hc E.w st' vs (λb o hb=>(R1.stm b o hb).1) hvl').mono ?_;rintro e w' ⟨v,st2,rfl,hk,hs1,hs2,hv⟩;obtain⟨R2,ev2⟩:=R1.world w' st2 hk hs1 hs2;refine⟨v,_,rfl,rfl,R2,ev1.trans ev2,hv.mono (E:=⟨w',st2,[]⟩) (os:= []) ?_⟩;exact⟨λ_ _ h=>⟨h,rfl⟩,λ_ _ _ _ _ h=>by simp at h,λ_ _ _ _ h=>by simp at h⟩
section
variable {c:Ctx} {E0:Env} {os0:J7} {n:Nat}
def ZNo(P:Program)(c:Ctx)(E0:Env)(os0:J7)(n:Nat)(b:IC)(Q:Exit->J4->J7->Prop):Nat->J4->J7->Prop
 |0,_,_=>False
 |k+1,φ,os=>WI P c E0 os0 n b (ZHb (ZNo P c E0 os0 n b Q k) Q) φ os
theorem WI.loopN{b:IC}{Q:Exit->J4->J7->Prop}(k:Nat){φ:J4}{os:J7}(h:ZNo P c E0 os0 n b Q k φ os):WI P c E0 os0 n (.loop b) Q φ os:=by
 intro code hc E a R hf;obtain⟨cb,rfl,h1⟩:=ZJu hc;refine wp_loop_rounds k ?_;clear hc
 induction k generalizing φ os E a with
 |zero=>exact h.elim
 |succ k ih=>
  rw[rounds_succ];refine wp_mono (h cb h1 E a R hf) ?_;rintro e a' w' ⟨E',φ',os',rfl,k2,k3,k4⟩;cases e with
  |normal=>exact ih k4 E' a' k2 k3
  |_=>exact⟨E',φ',os',rfl,k2,k3,k4⟩
theorem WI.round{b:IC}{Q:Exit->J4->J7->Prop}{k:Nat}{φ:J4}{os:J7}(h:WI P c E0 os0 n b (ZHb (ZNo P c E0 os0 n b Q k) Q) φ os):ZNo P c E0 os0 n b Q (k+1) φ os:=h
end
section
variable {P:Program}
theorem ZN.turn{α:Type}(enc:α->X)(val:α->Value)(hvx: ∀w st a,VX w st (enc a) (val a))(hinv: ∀w st a v,VX w st (enc a) v->v=val a){f:FuncId}{e:Nat}{zs ys:List α}(hl:ys.length=zs.length)(h00:zs= []->ys= [])
  (h0:zs= []-> ∀p cap w,Calls P f #[.slice p 0 cap] w λe w'=>e= .returned (.tuple #[])/\w'=w)
  (h1: ∀(g cap:Nat) (w:World) (cells:Array Value),zs≠ []->w.heap[g]? =some (.cells cells e (0,0))->cells.toList.take zs.length=zs.map val->zs.length<=cap->cap<=maxLen->cells.size=cap*1->
   Calls P f #[.slice (some ⟨g,0,none⟩) zs.length cap] w λe' w'=>e'= .returned (.tuple #[])/\w.grownBy w' (some g)/\w'.ownsRow 0 e 1 (.slice (some ⟨g,0,none⟩) zs.length cap) zs.length (ys.map val)):
  ZN P f [.ref 0 zs.length 0 zs.length] [.rows false e 1 (zs.map λa=> [enc a])] (.tup []) [.rows false e 1 (ys.map λa=> [enc a])]:=by
 intro c E vs R hvl;obtain⟨hsz,hv⟩:=hvl;obtain⟨v0,rfl⟩: ∃v0,vs= #[v0]:=by
  obtain⟨vl⟩:=vs
  match vl,hsz with
  | [a],_=>exact⟨a,rfl⟩
 have h:=hv 0 _ v0 rfl rfl;cases h with
 |ref hr _=>
  have ho: [Ob.rows false e 1 (zs.map λa=> [enc a])][0]? =some (Ob.rows false e 1 (zs.map λa=> [enc a])):=rfl;obtain⟨k1,k2⟩:=hr.at ho rfl;obtain⟨k3,b,a,cap,a',cap',k4,rfl,k6,k7,k8,k9,k10,k11⟩:=k2 J1;obtain⟨rfl,rfl⟩:=k8 rfl;obtain⟨p,hp,hok⟩:=R.at ho;rw[hp]at k4;have hpb:p=(b,.slice a' zs.length cap'):=ZB9 k4;subst hpb;by_cases hz:zs= []
  .subst hz;obtain rfl:=h00 rfl;refine(h0 rfl a' cap' E.w).mono ?_;rintro _ w' ⟨rfl,rfl⟩;exact⟨_,E,rfl,rfl,R,Evo.refl _ _,.tup #[] rfl (λj d v h=>by simp at h)⟩
  .have hpos:0<zs.length:=ZPF.2 hz;obtain⟨xs,⟨q1,q2⟩,q3,q4⟩:=hok;rcases q2 with⟨q2,q5⟩|⟨g,cp,cells,fr,q5,q6,q7,q8,q9,q10,q11⟩
   .simp only[YX]at q5;omega
   .simp only[Value.slice.injEq]at q5;obtain⟨rfl,_,rfl⟩:=q5;simp only[YX,QZ]at q10 q7 q1;have hfr:fr=(0,0):=by
     rcases q11 with q11|⟨q11,_⟩
     .exact q11
     .cases q11
    subst hfr;have hxs:xs=zs.map val:=by
     apply List.ext_getElem (by rw[q1];simp);intro i hi hi2;have hiz:i<zs.length:=by rw[q1]at hi;exact hi
     have:=q4 i [enc zs[i]] 0 (enc zs[i]) xs[i] (by rw[YG,YA hiz];rfl) rfl (by rw[QZ,JK];exact YA hi);rw[hinv _ _ _ _ this];simp
    refine(h1 g cap' E.w cells hz q6 (by rw[q10,hxs]) q7 q8 q9).mono ?_;rintro _ w' ⟨rfl,hg,hown⟩;obtain⟨R',ev⟩:=R.set ho hp w' (.rows false e 1 (ys.map λa=> [enc a])) (b,.slice (some ⟨g,0,none⟩) zs.length cap') ⟨hg.os,hg.tape,hg.output,hg.size,λk hk hm=>hg.block k hk (λe=>hm (by cases e;rfl))⟩ (λb' hb'=> .inl hb') (λsz rs1 h=>by
      simp only[Ob.sl?,Ze,ZZ]at h;obtain⟨rfl,rfl⟩:=h;exact⟨(ys.map λa=> [enc a]).length,rfl,.inl ⟨by simp[hl],rfl⟩⟩) (λk h=>by cases h) (λev=>by
      refine⟨ys.map val,?_,λr hr=> ?_,λi r j x v h1 h2 h3=> ?_⟩
      .have:=Ko.of_owns hown false;simpa[hl]using this
      .obtain⟨a,_,rfl⟩:=YO.1 hr;rfl
      .rw[YG]at h1;obtain⟨a,ha,rfl⟩:=Zc h1
       match j with
       |0=>
        simp only[ZCs,Ze]at h2;subst h2;rw[QZ,JK,YG,ha]at h3;simp only[Yf,Ze]at h3;subst h3;exact hvx _ _ a
       |j+1=>simp at h2)
    exact⟨_,_,rfl,rfl,R',ev,.tup #[] rfl (λj d v h=>by simp at h)⟩
end
variable {P:Program} {c:Ctx} {E0:Env} {os0:J7} {n:Nat} {Q:Exit->J4->J7->Prop} {φ:J4} {os:J7}
theorem WI.join{x y:IC}(J:J4->J7->Prop)(h:WI P c E0 os0 n x (ZHb J Q) φ os)(h2: ∀φ' os',J φ' os'->WI P c E0 os0 n y Q φ' os'):WI P c E0 os0 n (.seq x y) Q φ os:=by
 refine WI.seq (h.mono λe φ' os' hh=> ?_);cases e with
 |normal=>exact h2 φ' os' hh
 |_=>exact hh
def JY(kp:W0)(S:Tabs)(os0:J7)(k:Nat)(rs:W0):Nat->Bool->J4->Nat->J7->J7->Option J7->List IOp->Option (Bool×List (Nat×D)×J7)
 |_,b,φ,_,_,C,last,[]=>some (b,φ,last.getD (os0++C))
 |i,b,φ,id,os,C,last,o::l=>
  if o.e.frame then match JH S φ [] o with
   |some r=>JY kp S os0 k rs (i+1) (b&&(r.1&&(!Zn i rs||ZDY kp φ o))) (putO φ o.dst r.2) id os C last l
   |none=>none
  else if Zn i rs then match JH S φ os0 o with
   |some r=>JY kp S os0 k rs (i+1) (b&&(r.1&&(!Zn i rs||ZDY kp φ o))) (putO φ o.dst r.2) id os C last l
   |none=>none
  else if i<k then match JH S φ os0 o with
   |some r=>JY kp S os0 k rs (i+1) (b&&(r.1&&(!Zn i rs||ZDY kp φ o))) (putO φ o.dst r.2) id os C last l
   |none=>match ZF3 φ os o with
    |some r=>JY kp S os0 k rs (i+1) (b&&(r.1&&(!Zn i rs||ZDY kp φ o))) (putO φ o.dst r.2) id os C last l
    |none=>match evK S φ os0 id o with
     |some r=>JY kp S os0 k rs (i+1) (b&&(r.1&&(!Zn i rs||ZDY kp φ o))) (putO φ o.dst r.2.1) (id+1) (os++ [r.2.2]) (C++ [r.2.2]) last l
     |none=>none
  else match Qk S φ os o with
   |some r=>JY kp S os0 k rs (i+1) (b&&(r.1&&((!Zn i rs||ZDY kp φ o)&&ZDR kp os0 r.2.2))) (putO φ o.dst r.2.1) id r.2.2 C (some r.2.2) l
   |none=>none
theorem ZDf{kp:W0}(S:Tabs)(os0:J7)(k:Nat)(rs:W0): ∀(l:List IOp) (i:Nat) (b:Bool) (φ:J4) (id:Nat) (os C:J7) (last:Option J7),
  JY kp S os0 k rs i b φ id os C last l=(KW S os0 k rs i φ id os l).map λq=>(b&&(q.1&&(bxR kp rs i φ q.2.1 l&&ZEn kp os0 q.2.2)),Yr φ q.2.1,YD q.2.2 (λ_=>true) 0 (last.getD (os0++C++YP q.2.1)))
 | [],i,b,φ,id,os,C,last=>by
  simp[JY,KW,Yr,YP,YD,bxR,ZEn]
 |o::l,i,b,φ,id,os,C,last=>by
  simp only[JY,KW];split
  .cases JH S φ [] o with
   |none=>rfl
   |some r=>
    simp only[ZAd,ZDf S os0 k rs l];cases KW S os0 k rs (i+1) (putO φ o.dst r.2) id os l with
    |none=>rfl
    |some q=>simp only[Yf,bxR,ZEn,Yr,YP,Ja];congr 1;simp only[ZZ,and_true];ac_rfl
  .split
   .cases JH S φ os0 o with
    |none=>rfl
    |some r=>
     simp only[ZAd,ZDf S os0 k rs l];cases KW S os0 k rs (i+1) (putO φ o.dst r.2) id os l with
     |none=>rfl
     |some q=>simp only[Yf,bxR,ZEn,Yr,YP,Ja];congr 1;simp only[ZZ,and_true];ac_rfl
   .split
    .cases JH S φ os0 o with
     |some r=>
      simp only[ZDf S os0 k rs l];cases KW S os0 k rs (i+1) (putO φ o.dst r.2) id os l with
      |none=>rfl
      |some q=>simp only[Yf,bxR,ZEn,Yr,YP,Ja];congr 1;simp only[ZZ,and_true];ac_rfl
     |none=>
      cases ZF3 φ os o with
      |some r=>
       simp only[ZDf S os0 k rs l];cases KW S os0 k rs (i+1) (putO φ o.dst r.2) id os l with
       |none=>rfl
       |some q=>simp only[Yf,bxR,ZEn,Yr,YP,Ja];congr 1;simp only[ZZ,and_true];ac_rfl
      |none=>
       cases evK S φ os0 id o with
       |none=>rfl
       |some r=>
        simp only[ZAd,ZDf S os0 k rs l];cases KW S os0 k rs (i+1) (putO φ o.dst r.2.1) (id+1) (os++ [r.2.2]) l with
        |none=>rfl
        |some q=>simp only[Yf,bxR,ZEn,Yr,YP,Ja,Yh,Qx,ZAR];congr 1;simp only[ZZ,and_true];ac_rfl
    .cases Qk S φ os o with
     |none=>rfl
     |some r=>
      simp only[ZAd,ZDf S os0 k rs l];cases KW S os0 k rs (i+1) (putO φ o.dst r.2.1) id r.2.2 l with
      |none=>rfl
      |some q=>simp only[Yf,bxR,ZEn,Yr,YP,ZHF,ξX];congr 1;simp only[ZZ,and_true];ac_rfl
section
variable {P:Program} {c:Ctx} {E0:Env} {os0 os:J7} {n:Nat} {Q:Exit->J4->J7->Prop} {φ:J4}
theorem WI.dregY{S:Tabs}(hS:SsOk P S)(kp ks:W0){k k2:Nat}{rs rs2:W0}{l:List IOp}(h:YY (JY kp S os k2 rs2 0 true φ os.length os [] none l) (λφ' os'=>Q .normal (Go.Ab.keep ks φ') os')):WI P c E0 os0 n (.dreg k rs k2 rs2 l) Q φ os:=by
 obtain⟨ok,φ',os',h1,rfl,h3⟩:=h;rw[ZDf]at h1;refine WI.dreg' (m:=some kp) hS (.inr ?_) rfl h3 (λ_ _ f=>f.keep ks);rw[<-h1];unfold ZHR;cases KW S os k2 rs2 0 φ os.length os l with
 |none=>rfl
 |some q=>simp[ZNy]
end
section
variable {S:Tabs} {os0 os C:J7} {k i id:Nat} {rs kp:W0} {φ φ':J4} {os':J7} {last:Option J7} {o:IOp} {l:List IOp} {ok:Bool} {d:D} {ob:Ob} {K:J4->J7->Prop} {Q:Exit->J4->J7->Prop} {ks:W0}
theorem xsN(h:K φ (last.getD (os0++C))):YY (JY kp S os0 k rs i true φ id os C last []) K:=⟨true,φ,_,rfl,rfl,h⟩
theorem xsF(hf:o.e.frame=true)(hm:Zn i rs=false)(he:(JH S φ [] o).map (λr=>(r.1,putO φ o.dst r.2))=some (ok,φ'))(hok:ok=true)(h:YY (JY kp S os0 k rs (i+1) true φ' id os C last l) K):YY (JY kp S os0 k rs i true φ id os C last (o::l)) K:=by
 subst hok;obtain⟨r,h1,h2⟩:=Zc he;simp only[ZZ]at h2;obtain⟨h2,rfl⟩:=h2;simp only[JY,hf,hm,if_true,h1,h2,QS,ZOy,ZKI];exact h
theorem xsR(hf:o.e.frame=false)(hm:Zn i rs=true)(hbl:ZDY kp φ o=true)(he:(JH S φ os0 o).map (λr=>(r.1,putO φ o.dst r.2))=some (ok,φ'))(hok:ok=true)(h:YY (JY kp S os0 k rs (i+1) true φ' id os C last l) K):YY (JY kp S os0 k rs i true φ id os C last (o::l)) K:=by
 subst hok;obtain⟨r,h1,h2⟩:=Zc he;simp only[ZZ]at h2;obtain⟨h2,rfl⟩:=h2;simp only[JY,hf,hm,hbl,if_true,h1,h2,QS,ZKr,JM,if_false];exact h
theorem xsA(hf:o.e.frame=false)(hm:Zn i rs=false)(hk:Nat.ble (i+1) k=false)(he:(Qk S φ os o).map (λr=>(r.1&&ZDR kp os0 r.2.2,putO φ o.dst r.2.1,r.2.2))=some (ok,φ',os'))(hok:ok=true)(h:YY (JY kp S os0 k rs (i+1) true φ' id os' C (some os') l) K):YY (JY kp S os0 k rs i true φ id os C last (o::l)) K:=by
 subst hok;obtain⟨r,h1,h2⟩:=Zc he;simp only[ZZ]at h2;obtain⟨h2,rfl,rfl⟩:=h2;have hk': ¬i<k:=λh=>by have:=Nat.ble_eq_true_of_le h;rw[Nat.succ_eq_add_one,hk]at this;cases this
 simp only[JY,hf,hm,h1,h2,hk',ZCB,ZOy,ZKI,JM,if_false];exact h
theorem xN(h:Q .normal φ' os')(hk:keep ks φ=φ':=by simp only[keep,QI,Nat.reduceEqDiff,if_true,if_false,↓reduceIte,JM];rfl)(hl:last.getD (os0++C)=os':=by simp only[ZMT,ξX,Ku,Qx,ZAR];rfl):YY (JY kp S os0 k rs i true φ id os C last []) (λφ' os'=>Q .normal (keep ks φ') os'):=xsN (by rw[hk,hl];exact h)
theorem xFS(h:YY (JY kp S os0 k rs (i+1) true φ' id os C last l) K)(hf:o.e.frame=true:=by rfl)(hm:Zn i rs=false:=by rfl)(he:(JH S φ [] o).map (λr=>(r.1,putO φ o.dst r.2))=some (ok,φ'):=by simp only[zC,JH,Qk,Kk,Km,Ob.beq_refl,JO,ZQ,ZE,Ab.get,Ab.put,putO,Nat.reduceEqDiff,↓reduceIte,D.val,D.cond,reduceCtorEq,Nat.reduceAdd,JK,JW];rfl)(hok:ok=true:=by rfl):YY (JY kp S os0 k rs i true φ id os C last (o::l)) K:=xsF hf hm he hok h
theorem xFG(h:YY (JY kp S os0 k rs (i+1) true φ' id os C last l) K)(hf:o.e.frame=true:=by rfl)(hm:Zn i rs=false:=by rfl)(he:(JH S φ [] o).map (λr=>(r.1,putO φ o.dst r.2))=some (ok,φ'):=by simp (disch:=omega) only[uu,zM,JH,Qk,Kk,Km,Ob.beq_refl,JO,ZQ,ZE,Ab.get,Ab.put,putO,Nat.reduceEqDiff,↓reduceIte,D.val,D.cond,reduceCtorEq,YI,ZA9,Ob.isDrw,Ju,ZAv,Qh,ZCo,apm,ZAF,IE.isCall,D.cells?,Nat.reduceAdd,Nat.reduceLeDiff,Ob.slice?,Ob.dsl?,Ob.drw?,Nat.reduceSub,Nat.reduceMul,Int.reduceToNat,Int.reduceLE,Int.reduceLT,Int.reduceAdd,Int.reduceSub,Int.reduceMul,Int.reduceNeg,Int.reduceEq,Zw,ZEN,QA,ZD,Jn,Yj,Ys,Jo,QN,Qw,ZAy,Kl,eqR,eqD,ZBV,eqX,nzD,ZB6,unD,ZB0,evK,evC,ZAG,Qr,Nat.reduceLT,zO];rfl)(hok:ok=true:=by first|with_reducible rfl|omega|(simp;done)|(simp;omega)|rfl|(clear uu;grind)|(clear h;clear uu;grind)):YY (JY kp S os0 k rs i true φ id os C last (o::l)) K:=xsF hf hm he hok h
theorem xRG(h:YY (JY kp S os0 k rs (i+1) true φ' id os C last l) K)(hf:o.e.frame=false:=by rfl)(hm:Zn i rs=true:=by rfl)(hbl:ZDY kp φ o=true:=by rfl)(he:(JH S φ os0 o).map (λr=>(r.1,putO φ o.dst r.2))=some (ok,φ'):=by simp (disch:=omega) only[uu,zM,JH,Qk,Kk,Km,Ob.beq_refl,JO,ZQ,ZE,Ab.get,Ab.put,putO,Nat.reduceEqDiff,↓reduceIte,D.val,D.cond,reduceCtorEq,YI,ZA9,Ob.isDrw,Ju,ZAv,Qh,ZCo,apm,ZAF,IE.isCall,D.cells?,Nat.reduceAdd,Nat.reduceLeDiff,Ob.slice?,Ob.dsl?,Ob.drw?,Nat.reduceSub,Nat.reduceMul,Int.reduceToNat,Int.reduceLE,Int.reduceLT,Int.reduceAdd,Int.reduceSub,Int.reduceMul,Int.reduceNeg,Int.reduceEq,Zw,ZEN,QA,ZD,Jn,Yj,Ys,Jo,QN,Qw,ZAy,Kl,eqR,eqD,ZBV,eqX,nzD,ZB6,unD,ZB0,evK,evC,ZAG,Qr,Nat.reduceLT,zO];rfl)(hok:ok=true:=by first|with_reducible rfl|omega|(simp;done)|(simp;omega)|rfl|(clear uu;grind)|(clear h;clear uu;grind)):YY (JY kp S os0 k rs i true φ id os C last (o::l)) K:=xsR hf hm hbl he hok h
theorem xAG(h:YY (JY kp S os0 k rs (i+1) true φ' id os' C (some os') l) K)(hf:o.e.frame=false:=by rfl)(hm:Zn i rs=false:=by rfl)(hk:Nat.ble (i+1) k=false:=by rfl)(he:(Qk S φ os o).map (λr=>(r.1&&ZDR kp os0 r.2.2,putO φ o.dst r.2.1,r.2.2))=some (ok,φ',os'):=by simp (disch:=omega) only[uu,zM,JH,Qk,Kk,ZDR,JN,ZLb,ZKW,Ob.beq_refl,JO,ZQ,ZE,Ab.get,Ab.put,putO,Nat.reduceEqDiff,↓reduceIte,D.val,D.cond,reduceCtorEq,YI,ZA9,Ob.isDrw,Ju,ZAv,Qh,ZCo,apm,ZAF,IE.isCall,D.cells?,Nat.reduceAdd,Nat.reduceLeDiff,Ob.slice?,Ob.dsl?,Ob.drw?,Nat.reduceSub,Nat.reduceMul,Int.reduceToNat,Int.reduceLE,Int.reduceLT,Int.reduceAdd,Int.reduceSub,Int.reduceMul,Int.reduceNeg,Int.reduceEq,Zw,ZEN,QA,ZD,Jn,Yj,Ys,Jo,QN,Qw,ZAy,Kl,eqR,eqD,ZBV,eqX,nzD,ZB6,unD,ZB0,evK,evC,ZAG,Qr,Nat.reduceLT,zO];rfl)(hok:ok=true:=by first|with_reducible rfl|omega|(simp;done)|(simp;omega)|rfl|(clear uu;grind)|(clear h;clear uu;grind)):YY (JY kp S os0 k rs i true φ id os C last (o::l)) K:=xsA hf hm hk he hok h
theorem xAC(h:YY (JY kp S os0 k rs (i+1) true φ' id os' C (some os') l) K)(hf:o.e.frame=false:=by rfl)(hm:Zn i rs=false:=by rfl)(hk:Nat.ble (i+1) k=false:=by rfl)(he:(Qk S φ os o).map (λr=>(r.1&&ZDR kp os0 r.2.2,putO φ o.dst r.2.1,r.2.2))=some (ok,φ',os'):=by simp (disch:=omega) only[uu,zS,zW,zO,ZBa,ZFN,D.nn,D.na,ZT,Jz,IE.isCall,Nat.reduceAdd,Nat.reduceSub,Nat.reduceMul,Nat.reduceLeDiff,Nat.reduceLT,Nat.reduceBEq,Int.reduceToNat,Int.reduceLE,Int.reduceLT,Int.reduceAdd,Int.reduceSub,Int.reduceMul,Int.reduceNeg,Int.reduceEq,Nat.reduceEqDiff,YJ,JY,JO,ZQ,YI,ZA9,Ob.isDrw,Ju,ZAv,Qh,ZCo,apm,ZE,Ab.get,Ab.put,putO,keep,QI,D.val,D.cond,D.cells?,D.scalar,X.scalar,D.plain,D.isX,ZB6,ZCI,eqD,ZBV,eqX,unD,ZD,ZB0,QA,Zw,Qo,JR,Ys,Yj,Jn,Jo,QN,Qw,Ob.slice?,↓reduceIte,reduceCtorEq,JH,evK,evC,ZAG,Qr,Qk,Kk,ZDR,JN,ZLb,ZKW,eqR,nzD,ZAF,ZDF,ZDO,ZDK,ZCG,ZAt,ZAy,ZO,IE.frame,Zn,Kl,IntWalk.i64_in,Yx,Jv,ZG3,Jg,ZHv,ZCc,ZAN,Jb,QB,QD,Yo,D.inP,Ob.inP,Zu,D.ren,Ye,YS,Ob.ren,KA,KJ,KI,ZEa,QJ];rfl)(hok:ok=true:=by first|with_reducible rfl|omega|(simp;done)|(simp;omega)|rfl|(clear uu;grind)|(clear h;clear uu;grind)):YY (JY kp S os0 k rs i true φ id os C last (o::l)) K:=xsA hf hm hk he hok h
end
section
variable {P:Program} {c:Ctx} {E0:Env} {os0 os:J7} {n:Nat} {Q:Exit->J4->J7->Prop} {φ:J4}
end
structure Bx (B:Prop):Prop where
 h:B
theorem sd{p:Bool}(h:p=true:=by first|with_reducible rfl|omega|(simp;done)|(simp;omega)|rfl|(clear uu;grind)|(clear h;clear uu;grind)):p=true:=h
theorem se{p:Bool}(h:p=true:=by first|with_reducible rfl|omega):p=true:=h
section
variable {S:Tabs} {os:J7} {φ:J4} {l:List IOp} {K:J4->J7->Prop} {d:Option Nat} {g:Option (Nat×Bool)}
theorem oMk{x:IO}(h:YY (YJ S true φ os (⟨d,.mv x,none⟩::l)) K):YY (YJ S true φ os (⟨d,.mv x,none⟩::l)) K:=h
theorem oKk{x:IO}(h:YY (YJ S true φ os (⟨d,.nck x,none⟩::l)) K):YY (YJ S true φ os (⟨d,.nck x,none⟩::l)) K:=h
theorem oFk{a:Nat}{x:IO}(h:YY (YJ S true φ os (⟨d,.fad a x,none⟩::l)) K):YY (YJ S true φ os (⟨d,.fad a x,none⟩::l)) K:=h
theorem oGk{o:IOp}(h:YY (YJ S true φ os (o::l)) K):YY (YJ S true φ os (o::l)) K:=h
theorem oCk{f:IO}{xs:List IO}(h:YY (YJ S true φ os (⟨d,.call f xs,g⟩::l)) K):YY (YJ S true φ os (⟨d,.call f xs,g⟩::l)) K:=h
end
section
variable {P:Program} {c:Ctx} {E0:Env} {os0 os:J7} {n:Nat} {Q:Exit->J4->J7->Prop} {φ:J4}
theorem nz{A B:Prop}(h:A)(k:Bx A->B:=by(intro h;(repeat first|with_reducible refine ZA ?_|with_reducible refine WI.seq ?_|with_reducible refine WI.block ?_|with_reducible refine WI.skip ?_|with_reducible refine Qs ?_|with_reducible refine ZRb ?_|with_reducible refine WI.exit ?_|with_reducible refine ZC3 ?_|((with_reducible refine ZTf ?_ ?_);(focus decide))|with_reducible refine QL ?_|with_reducible refine ZWM ?_);exact h.h)):B:=k ⟨h⟩
theorem rg{S:Tabs}(hS:SsOk P S)(ks:W0){l:List IOp}{A B:Prop}(h:A)(k:Bx B->YY (YJ S true φ os l) (λφ' os'=>Q .normal (Go.Ab.keep ks φ') os'):=by(intro h;(repeat first|((with_reducible refine oMk ?_);refine oS ?_)|((with_reducible refine oKk ?_);refine oS ?_)|((with_reducible refine oFk ?_);refine oS ?_)|((with_reducible refine oGk ?_);(fail_if_success (with_reducible refine oCk ?_));refine oG ?_)|((with_reducible refine oCk ?_);refine oC ?_));refine oN ?_;exact h.h))(k2:Bx A->B:=by(intro h;refine nz ?_;exact h.h)):WI P c E0 os0 n (.reg l) Q φ os:=WI.regB hS ks (k ⟨k2 ⟨h⟩⟩)
theorem rgp{S:Tabs}(hS:SsOk P S)(ks:W0){l:List IOp}{A:Prop}(h:A)(k:Bx A->YY (YJ S true φ os l) (λφ' os'=> ∃φ2 os2,Wk c E0 os0 n (Go.Ab.keep ks φ') os' φ2 os2/\Q .normal φ2 os2):=by(intro h;(repeat first|((with_reducible refine oMk ?_);refine oS ?_)|((with_reducible refine oKk ?_);refine oS ?_)|((with_reducible refine oFk ?_);refine oS ?_)|((with_reducible refine oGk ?_);(fail_if_success (with_reducible refine oCk ?_));refine oG ?_)|((with_reducible refine oCk ?_);refine oC ?_));refine oP ?_;exact h.h)):WI P c E0 os0 n (.reg l) Q φ os:=WI.post (WI.regB hS ks (k ⟨h⟩))
theorem cd{x:IO}{y z:IC}{b:Bool}{p q A B:Prop}(ht:p->A)(he:q->B)(hv:(ZE φ x).val= .x (.bool b):=by exact rfl)(hcd:(ZE φ x).cond=true:=by exact rfl)(hp:b=true->p:=by(intro h;first|(simp only[zB]at h;exact h)|exact h))(hq:b=false->q:=by(intro h;first|(simp only[zB]at h;exact h)|exact h))(kA:Bx A->WI P c E0 os0 n y Q φ os:=by(intro h;refine nz ?_;exact h.h))(kB:Bx B->WI P c E0 os0 n z Q φ os:=by(intro h;refine nz ?_;exact h.h)):WI P c E0 os0 n (.cond x y z) Q φ os:=
 WI.cond hv hcd (λh=>kA ⟨ht (hp h)⟩) (λh=>kB ⟨he (hq h)⟩)
theorem ce{x:IO}{y z:IC}{b:Bool}{q B:Prop}(ht:b=true->False)(he:q->B)(hv:(ZE φ x).val= .x (.bool b):=by exact rfl)(hcd:(ZE φ x).cond=true:=by exact rfl)(hq:b=false->q:=by(intro h;first|(simp only[zB]at h;exact h)|exact h))(kB:Bx B->WI P c E0 os0 n z Q φ os:=by(intro h;refine nz ?_;exact h.h)):WI P c E0 os0 n (.cond x y z) Q φ os:=
 WI.cond hv hcd (λh=>(ht h).elim) (λh=>kB ⟨he (hq h)⟩)
theorem ct{x:IO}{y z:IC}{b:Bool}{p A:Prop}(ht:p->A)(he:b=false->False)(hv:(ZE φ x).val= .x (.bool b):=by exact rfl)(hcd:(ZE φ x).cond=true:=by exact rfl)(hp:b=true->p:=by(intro h;first|(simp only[zB]at h;exact h)|exact h))(kA:Bx A->WI P c E0 os0 n y Q φ os:=by(intro h;refine nz ?_;exact h.h)):WI P c E0 os0 n (.cond x y z) Q φ os:=
 WI.cond hv hcd (λh=>kA ⟨ht (hp h)⟩) (λh=>(he h).elim)
theorem lf{A:Prop}(h:A)(k:Bx A->WI P c E0 os0 n .ret Q φ os:=by(intro h;refine WI.ret ?_;(repeat first|with_reducible refine JP ?_|with_reducible refine ZBc ?_|with_reducible refine ZXi ?_);(first|refine lfR ?_|refine ZB5 ?_|refine ZBd ?_|refine ZB7 ?_);exact h.h)):WI P c E0 os0 n .ret Q φ os:=k ⟨h⟩
end
section
variable {P:Program} {c:Ctx} {E E0:Env} {os os0:J7} {n:Nat} {Q:Exit->J4->J7->Prop} {φ:J4}
theorem Zb1{α:Type}(l:List α)(i:Nat)(x:α)(h:l[i]? =some x):l.set i x=l:=by
 apply ZBG;intro j;rw[ZB3];by_cases hj:i=j
 .subst hj;rw[if_pos rfl,h];simp[(ZV h).1]
 .simp[hj]
theorem Rel.swap(R:Rel c E os){i:Nat}{o o':Ob}(ho:os[i]? =some o)(hs:o'.sl? =o.sl?)(hk:o.kd=none)(hm: ∀p b,o'.mb p b->o.mb p b)(hok: ∀(E':Env) (os':J7) p,Evo E os E' os'->E'.w=E.w->OK E os o p->OK E' os' o' p):Rel c E (os.set i o')/\Evo E os E (os.set i o'):=by
 obtain⟨p,hp,h⟩:=R.at ho;have:=R.set ho hp E.w o' p (Kept.refl _ _) (λb hb=> .inl (hm p b hb)) (λsz m hm=>⟨m,by rw[hs];exact hm,.inl ⟨rfl,rfl⟩⟩) (λk h=>by rw[hk]at h;cases h) (λev=>hok _ _ p ev rfl h);rw[Zb1 _ _ _ hp]at this;exact this
theorem Rel.toD(R:Rel c E os){i e sz:Nat}{rs:J6}(ho:os[i]? =some (.rows false e sz rs)):Rel c E (os.set i (.drw e sz (KQ rs)))/\Evo E os E (os.set i (.drw e sz (KQ rs))):=by
 refine R.swap ho (by simp[Ob.sl?,ZBO]) rfl (λp b h=>h) (λE' os' p ev hw h=> ?_);obtain⟨xs,h1,h2,h3⟩:=h;refine⟨xs,by rw[hw,ZBO];exact h1,λr hr=> ?_,λi r j d v hr hd hv=> ?_⟩
 .obtain⟨r0,h0,rfl⟩:=YO.1 hr;rw[YX];exact h2 r0 h0
 .obtain⟨r0,x,g1,g2,rfl⟩:=ZRT hr hd;have:=h3 i r0 j x v g1 g2 hv;exact⟨.x (this.mono ev.st),this.one⟩
theorem Rel.toX(R:Rel c E os){i e sz:Nat}{rs:J6}(ho:os[i]? =some (.drw e sz (KQ rs))):Rel c E (os.set i (.rows false e sz rs))/\Evo E os E (os.set i (.rows false e sz rs)):=by
 refine R.swap ho (by simp[Ob.sl?,ZBO]) rfl (λp b h=>h) (λE' os' p ev hw h=> ?_);obtain⟨xs,h1,h2,h3⟩:=h;refine⟨xs,by rw[hw];rw[ZBO]at h1;exact h1,λr hr=> ?_,λi r j x v hr hx hv=> ?_⟩
 .have:=h2 (r.map D.x) (YO.2 ⟨r,hr,rfl⟩);rwa [YX]at this
 .have hr':(KQ rs)[i]? =some (r.map D.x):=by unfold KQ;rw[YG,hr];rfl
  exact(h3 i _ j (.x x) v hr' (by rw[YG,hx];rfl) hv).1.xx.mono ev.st
theorem Wk.toD{i e sz:Nat}{rs:J6}(ho:os[i]? =some (.rows false e sz rs)):Wk c E0 os0 n φ os φ (os.set i (.drw e sz (KQ rs))):=λE a R hf=>by
 obtain⟨R1,e1⟩:=R.rel.toD ho;exact⟨E,rfl,⟨R1,R.evo.trans e1⟩,hf.mono e1⟩
theorem Wk.toX{i e sz:Nat}{rs:J6}(ho:os[i]? =some (.drw e sz (KQ rs))):Wk c E0 os0 n φ os φ (os.set i (.rows false e sz rs)):=λE a R hf=>by
 obtain⟨R1,e1⟩:=R.rel.toX ho;exact⟨E,rfl,⟨R1,R.evo.trans e1⟩,hf.mono e1⟩
theorem WI.toDA(i:Nat){e sz:Nat}{rs:J6}{ic:IC}{os':J7}(h:WI P c E0 os0 n ic Q φ os')(ho:os[i]? =some (.rows false e sz rs):=by rfl)(hs:os.set i (.drw e sz (KQ rs))=os':=by simp only[ZDC,ZBX];rfl):WI P c E0 os0 n ic Q φ os:=WI.weak (Wk.toD ho) (by rw[hs];exact h)
theorem WI.toXA(i:Nat){e sz:Nat}{rs:J6}{ic:IC}{os':J7}(h:WI P c E0 os0 n ic Q φ os')(ho:os[i]? =some (.drw e sz (KQ rs)):=by rfl)(hs:os.set i (.rows false e sz rs)=os':=by simp only[ZDC,ZBX];rfl):WI P c E0 os0 n ic Q φ os:=WI.weak (Wk.toX ho) (by rw[hs];exact h)
end
section
variable {P:Program} {c:Ctx} {E E0:Env} {os os0:J7} {n:Nat} {Q:Exit->J4->J7->Prop} {φ:J4}
end
section
variable {P:Program} {c:Ctx} {E0:Env} {os os0:J7} {n:Nat} {Q:Exit->J4->J7->Prop} {φ:J4}
end
section
variable {P:Program} {c:Ctx} {E0:Env} {os os0:J7} {n:Nat} {Q:Exit->J4->J7->Prop} {φ:J4}
def kN(K:J4->J7->Prop):Exit->J4->J7->Prop:=λ_ φ os=>K φ os
theorem ZHk{K:J4->J7->Prop}(h:K φ os): ∃φ2 os2,Wk c E0 os0 n φ os φ2 os2/\kN K .normal φ2 os2:=⟨φ,os,Wk.refl,h⟩
end
def ZFB:J7->J7->Bool
 | [],[]=>true
 |x::l,y::l'=>Ob.beq x y&&ZFB l l'
 |_,_=>false
theorem ZGv: ∀ {a b:J7},ZFB a b=true->a=b
 | [],b,h=>by cases b<;>simp[ZFB]at h;rfl
 |x::l,b,h=>by
  cases b<;>simp[ZFB]at h
  rw[Ob.beq_eq h.1,ZGv h.2]
theorem ZGA: ∀a:J7,ZFB a a=true
 | []=>rfl
 |x::l=>by simp only[ZFB,ZS];exact⟨Ob.beq_refl x,ZGA l⟩
def ptT(S:Tabs)(f:FuncId)(A:J8)(O:J7)(r:D)(O':J7):Tabs:=⟨S.q,λf' args os=>if f'=f/\D.beqL args A=true/\ZFB os O=true then some (true,r,O')else S.t f' args os,S.r,S.k⟩
theorem ZCV{P:Program}{S:Tabs}(hS:SsOk P S){f:FuncId}{A:J8}{O O':J7}{r:D}(he:Enters P f)(hm:ZN P f A O r O'):SsOk P (ptT S f A O r O'):=by
 refine⟨hS.q,λf' args os r' os' h=> ?_,hS.r,hS.k⟩;simp only[ptT]at h;split at h
 .rename_i hh;obtain⟨rfl,h2,h3⟩:=hh;rw[D.beqL_eq h2,ZGv h3];simp only[Ze,ZZ,true_and]at h;obtain⟨rfl,rfl⟩:=h;exact⟨he,hm⟩
 .exact hS.t f' args os r' os' h
theorem ZHZ(S:Tabs)(f:FuncId)(A:J8)(O:J7)(r:D)(O':J7):(ptT S f A O r O').t f A O=some (true,r,O'):=if_pos ⟨rfl,D.beqL_refl A,ZGA O⟩
theorem ZHc(S:Tabs)(f:FuncId)(A:J8)(O:J7)(r:D)(O':J7):(ptT S f A O r O').q=S.q:=rfl
theorem ZHX(S:Tabs)(f:FuncId)(A:J8)(O:J7)(r:D)(O':J7):(ptT S f A O r O').r=S.r:=rfl
theorem ZHg(S:Tabs)(f:FuncId)(A:J8)(O:J7)(r:D)(O':J7):(ptT S f A O r O').k=S.k:=rfl
theorem D.ren_id(f:Nat->Nat)(h: ∀i,f i=i)(d:D):d.ren f=d:=by
 refine D.rec (motive_1:=λd=>d.ren f=d) (motive_2:=λl=>Zu f l=l) ?_ ?_ ?_ ?_ ?_ ?_ ?_ ?_ ?_ ?_ ?_ ?_ ?_ ?_ ?_ ?_ ?_ ?_ ?_ d
 all_goals intros
 all_goals first|rfl|(simp only[D.ren,Zu,h];done)|(simp only[D.ren,Zu,h];simp_all)
theorem ZIR(f:Nat->Nat)(h: ∀i,f i=i): ∀l:J8,Zu f l=l
 | []=>rfl
 |d::l=>by rw[Zu,D.ren_id f h,ZIR f h l]
theorem ZUe(f:Nat->Nat)(h: ∀i,f i=i)(p:Pr):Jb f p=p:=by
 unfold Jb;rw[ZIR f h]
theorem ZR7{α:Type}(f:α->α)(h: ∀x,f x=x)(l:List α):l.map f=l:=by
 induction l with
 |nil=>rfl
 |cons a l ih=>rw[YL,h,ih]
theorem Ob.ren_id(f:Nat->Nat)(h: ∀i,f i=i)(o:Ob):o.ren f=o:=by
 cases o<;>simp only[Ob.ren,h,ZIR f h,ZR7 (Jb f) (ZUe f h),ZR7 (Zu f) (ZIR f h)]
 rename_i cur;cases cur<;>simp only[Qg,Yf,ZUe f h]
theorem ZY2(h:J8->J7->Option (Bool×D×J7))(args:J8)(OS:J7)(i:Nat)(fz:Bool)(e sz:Nat)(rs:J6)(fz':Bool)(e' sz':Nat)(rs':J6)(ok:Bool)(r:D)
  (hi:Jg args= [i]) (hn:Yo (λj=>Zn j [i]) args=true) (ho:OS[i]? =some (.rows fz e sz rs)) (hr: ∀f,r.ren f=r)
  (hh:h (Zu (Ye [i]) args) [.rows fz e sz rs]=some (ok,r,[.rows fz' e' sz' rs'])):Yx h args OS=some (ok,r,OS.set i (.rows fz' e' sz' rs')):=by
 have hlt:i<OS.length:=(ZV ho).1;have hg:OS.getD i .dead= .rows fz e sz rs:=by rw[ZFm,ho];rfl
 have hm:Zn i []=false:=rfl;have hre:Jv OS 64 (Jg args) []= [i]:=by
  rw[hi];simp only[Jv,hm,hg,ZHv];rfl
 have hfp:YS [i] OS= [.rows fz e sz rs]:=by
  unfold YS;simp only[YL,ZAD,hg];rfl
 unfold Yx;rw[hre,hfp,hh,if_pos (by
  unfold QB;simp only[Qz,ZEz,hg,hn,ZL hlt,QD];rfl)]
 rw[ZAd,if_pos J1,hr];congr 3;unfold KJ;simp only[YL,ZAD,KI,ZDe,ZBk,JD,ξN,Ku];rfl
def fam(e sz:Nat)(l:List J6):J7:=l.map λrs=> .rows false e sz rs
def ZFh(sz:Nat)(l:List J6):J7:=l.map λrs=> .frz sz rs
theorem ZLy(e sz:Nat)(l:List J6):(fam e sz l).length=l.length:=by simp[fam]
theorem ZG4(sz:Nat)(l:List J6):(ZFh sz l).length=l.length:=by simp[ZFh]
theorem ZUt(o:Ob)(e sz:Nat): ∀(l A:List J6),frzL (List.range' (A.length+1) l.length) (o::(ZFh sz A++fam e sz l))=o::ZFh sz (A++l)
 | [],A=>by simp[frzL,fam]
 |r::l,A=>by
  have ih:=ZUt o e sz l (A++ [r]);have hg:(o::(ZFh sz A++fam e sz (r::l)))[A.length+1]? =some (.rows false e sz r):=by
   rw[ZCk,QP (by rw[ZG4];exact Zm _),ZG4,ZJR];rfl
  have hs:(o::(ZFh sz A++fam e sz (r::l))).set (A.length+1) (.frz sz r)=o::(ZFh sz (A++ [r])++fam e sz l):=by
   rw[ZBX,ZEH _ _ (by rw[ZG4];exact Zm _),ZG4,ZJR];simp[ZFh,fam]
  rw[JD,List.range'_succ,frzL,hg];dsimp only;rw[hs];rw[Zf,ZVn,Yh]at ih;exact ih
def Qe:Nat->List J6->List J8
 |_,[]=> []
 |k,rs::l=> [.ref k rs.length 0 rs.length]::Qe (k+1) l
theorem ZUM(sz:Nat)(os:J7): ∀(l:List J6) (k:Nat),(∀i r,l[i]? =some r->os[k+i]? =some (.frz sz r))->((Qe k l).map (List.map (onF [0] os))).map (Zu (Ye [0]))=KQ (l.map λrs=> [.sl rs])
 | [],k,_=>rfl
 |r::l,k,h=>by
  have h0:=h 0 r rfl;have ih:=ZUM sz os l (k+1) (λi x hx=>by rw[show k+1+i=k+(i+1) by omega];exact h (i+1) x hx);have hv:onF [0] os (.ref k r.length 0 r.length)= .x (.sl r):=by
   unfold onF;rw[D.vw,show os[k]? =some (.frz sz r)from h0];dsimp only;rw[if_pos rfl,ZBk,Jm];rfl
  rw[Qe,YL,YL,ih,YL,ZAD,hv];rfl
theorem Zej(e sz:Nat)(l:List J6):ZCf [0] (.drw e 1 (Qe 1 l)::ZFh sz l)= [.drw e 1 (KQ (l.map λrs=> [.sl rs]))]:=by
 have h:=ZUM sz (.drw e 1 (Qe 1 l)::ZFh sz l) l 1 (λi r hr=>by rw[ZO0,ZCk];unfold ZFh;rw[YG,hr];rfl);unfold ZCf YS;simp only[YL,ZAD,ZKp,Ob.mp,Ob.onI,Ob.ren];rw[h]
theorem ZC2(k i:Nat):Zn i (List.range k)=decide (i<k):=by
 rw[Qq,ZBj,ZG6,Zd]
theorem ZCn{k i:Nat}(h:i<k):Ye (List.range k) i=i:=ZKM List.nodup_range (by rw[ZPC h])
theorem ZPk{OS X:J7}(hO:OS.all (Ob.inP (λi=>decide (i<OS.length)))=true):YS (List.range OS.length) (OS++X)=OS:=by
 apply ZBG;intro i;unfold YS;rw[YG];by_cases h:i<OS.length
 .rw[ZPC h,Yf,ZFm,Yc h,YA h,ξX];have hp:=Yd.1 hO _ (YZ h);have:=Ob.ren_ren (F:=λi=>i) (g:=Ye (List.range OS.length)) (p:=λi=>decide (i<OS.length)) (λj hj=>ZCn (of_decide_eq_true hj)) OS[i] hp;rw[Ob.ren_id _ (λ_=>rfl)]at this;rw[this]
 .rw[ZA2 (by simp;omega),ZA2 J0];rfl
section
variable {P:Program} {c:Ctx} {E0:Env} {os0:J7} {n:Nat} {Q:Exit->J4->J7->Prop} {φ:J4}
theorem ZTv(p:Nat->Bool): ∀(φ:J4),φ.all (λq=>q.2.inP p)=true-> ∀t,(get φ t).inP p=true
 | [],_,t=>rfl
 |(s,d)::φ,h,t=>by
  rw[Qz,ZS]at h;unfold Go.Ab.get;split
  .exact h.1
  .exact ZTv p φ h.2 t
theorem Wk.dropT{OS X:J7}(h0:os0.length<=OS.length)(hO:OS.all (Ob.inP (λi=>decide (i<OS.length)))=true)(hφ:φ.all (λp=>p.2.inP (λi=>decide (i<OS.length)))=true):Wk c E0 os0 n φ (OS++X) φ OS:=by
 intro E a R hf;have hn:(List.range OS.length).Nodup:=List.nodup_range;have hlt: ∀r∈List.range OS.length,r<(OS++X).length:=λr hr=>by have:=ZG6.1 hr;simp;omega
 have hm:(λi=>Zn i (List.range OS.length))=λi=>decide (i<OS.length):=funext (ZC2 _)
 have R2:=R.rel.pickO hn hlt (λr hr=>by
  have h:=ZG6.1 hr;rw[ZFm,Yc h,YA h,ξX,hm];exact Yd.1 hO _ (YZ h))
 have e2:=ZLA (ρ:=List.range OS.length) R.rel hlt;rw[ZPk hO]at R2 e2;refine⟨fpE (List.range OS.length) E,rfl,⟨R2,?_⟩,hf.size,hf.defers,λt=> ?_⟩
 .have e01:=R.evo;refine⟨e01.st,λid b cu ds k ho hkd hb=> ?_,λid o sz rs ho hs=> ?_⟩
  .have hi:=(ZV ho).1;obtain⟨cu1,ds1,k1,kd1,k2⟩:=e01.bl id b cu ds k ho hkd hb;obtain⟨cu2,ds2,k3,kd2,k4⟩:=e2.bl id b cu1 ds1 k (by rw[ZC2];exact ZL J0) k1 kd1 k2;rw[ZCn J0]at k3 k4;exact⟨cu2,ds2,k3,kd2,k4⟩
  .have hi:=(ZV ho).1;obtain⟨o1,rs1,k1,k2,k3⟩:=e01.rf id o sz rs ho hs;obtain⟨o2,rs2,k4,k5,k6⟩:=e2.rf id o1 sz rs1 (by rw[ZC2];exact ZL J0) k1 k2;rw[ZCn J0]at k4 k6;refine⟨o2,rs2,k4,k5,?_⟩;rcases k3 with⟨k3,k3'⟩|k3<;>rcases k6 with⟨k6,k6'⟩|k6
   .exact .inl ⟨k3.trans k6,k6'.trans k3'⟩
   .exact .inr J0
   .exact .inr J0
   .exact .inr J0
 .have hp:=ZTv _ φ hφ t;have h1:V (fpE (List.range OS.length) E) OS ((get φ t).ren (Ye (List.range OS.length))) (a.tmps.getD t undef):=(hf.slot t).monoR e2 (by rw[hm];exact hp);have h2:=D.ren_ren (F:=λi=>i) (g:=Ye (List.range OS.length)) (p:=λi=>decide (i<OS.length)) (λj hj=>ZCn (of_decide_eq_true hj)) (get φ t) hp;rw[D.ren_id _ (λ_=>rfl)]at h2;rwa [h2]at h1
theorem ZN7(OS X:J7){os:J7}(e:os=OS++X)(h0:os0.length<=OS.length)(hO:OS.all (Ob.inP (λi=>decide (i<OS.length)))=true)(hφ:φ.all (λp=>p.2.inP (λi=>decide (i<OS.length)))=true)(h: ∃φ2 os2,Wk c E0 os0 n φ OS φ2 os2/\Q .normal φ2 os2): ∃φ2 os2,Wk c E0 os0 n φ os φ2 os2/\Q .normal φ2 os2:=by
 subst e;obtain⟨φ2,os2,h1,h2⟩:=h;exact⟨φ2,os2,(Wk.dropT h0 hO hφ).trans h1,h2⟩
theorem WI.dropT(OS X:J7){os:J7}{ic:IC}(e:os=OS++X)(h0:os0.length<=OS.length)(hO:OS.all (Ob.inP (λi=>decide (i<OS.length)))=true)(hφ:φ.all (λp=>p.2.inP (λi=>decide (i<OS.length)))=true)(h:WI P c E0 os0 n ic Q φ OS):WI P c E0 os0 n ic Q φ os:=by
 subst e;exact WI.weak (Wk.dropT h0 hO hφ) h
end
theorem Zax(p:Nat->Bool)(e sz:Nat)(l:List J6):(fam e sz l).all (Ob.inP p)=true:=by
 unfold fam;rw[ZFi];exact Yd.2 λ_ _=>rfl
theorem ZPg: ∀(l:List J6) (k:Nat),(Qe k l).length=l.length
 | [],_=>rfl
 |r::l,k=>by rw[Qe,JD,ZPg l,JD]
theorem ZQH: ∀(l:List J6) (k i:Nat) (r:J6),l[i]? =some r->(Qe k l)[i]? =some [.ref (k+i) r.length 0 r.length]
 | [],_,i,r,h=>by simp at h
 |r::l,k,0,x,h=>by simp at h;subst h;rfl
 |r::l,k,i+1,x,h=>by
  rw[Qe,ZCk,ZQH l (k+1) i x (by simpa using h),show k+1+i=k+(i+1) by omega]
theorem ZNg: ∀(l:List J6) (k:Nat) (r:J6),Qe k (l++ [r])=Qe k l++ [[.ref (k+l.length) r.length 0 r.length]]
 | [],k,r=>rfl
 |x::l,k,r=>by rw[Qx,Qe,ZNg l,Qe,JD,show k+1+l.length=k+(l.length+1) by omega];rfl
theorem ZML: ∀(l l':List J6) (k:Nat),l.map List.length=l'.map List.length->Qe k l=Qe k l'
 | [],[],_,_=>rfl
 | [],_::_,_,h=>by simp at h
 |_::_,[],_,h=>by simp at h
 |x::l,y::l',k,h=>by
  rw[YL,YL,ZEq]at h;rw[Qe,Qe,h.1,ZML l l' _ h.2]
theorem ZPm(n:Nat): ∀(l:List J6) (k:Nat),k+l.length<=n->(Qe k l).all (Yo (λi=>decide (i<n)))=true
 | [],_,_=>rfl
 |r::l,k,h=>by
  rw[JD]at h;rw[Qe,Qz,ZPm n l (k+1) J0,QS];simp only[Yo,D.inP,QS,Zd];omega
def Zg7(e:Nat)(l:List J6):Ob:= .drw e 1 (Qe 1 l)
theorem ZbA(e e2 sz:Nat)(l:List J6):(Zg7 e l::fam e2 sz l).all (Ob.inP (λi=>decide (i<(Zg7 e l::fam e2 sz l).length)))=true:=by
 rw[Qz,Zax,QS,JD,ZLy];exact ZPm _ l 1 J0
theorem ZgS(e sz:Nat)(l:List J6)(Y:J7)(i:Nat)(r:J6)(h:l[i]? =some r):(fam e sz l++Y)[i]? =some (.rows false e sz r):=by
 have hi:=(ZV h).1;rw[Yc (by rw[ZLy];exact hi)];unfold fam;rw[YG,h];rfl
theorem ZfA(e sz:Nat)(l:List J6)(Y:J7)(i:Nat)(r:J6)(h:i<l.length):(fam e sz l++Y).set i (.rows false e sz r)=fam e sz (l.set i r)++Y:=by
 rw[ZMn _ _ (by rw[ZLy];exact h)];unfold fam;rw[ZMz]
theorem ZaF(e sz:Nat)(l:List J6)(r:J6):fam e sz (l++ [r])=fam e sz l++ [.rows false e sz r]:=by simp[fam]
def ZVo(A:J8)(O:J7)(r:D)(O':J7)(args:J8)(os:J7):Option (Bool×D×J7):=if D.beqL args A=true/\ZFB os O=true then some (true,r,O')else none
theorem ZTl{P:Program}{f:FuncId}{A:J8}{O O':J7}{r:D}(hc:ZN P f A O r O'): ∀args os r' os',ZVo A O r O' args os=some (true,r',os')->ZN P f args os r' os':=by
 intro args os r' os' h;unfold ZVo at h;split at h
 .rename_i hh;rw[D.beqL_eq hh.1,ZGv hh.2];simp only[Ze,ZZ,true_and]at h;obtain⟨rfl,rfl⟩:=h;exact hc
 .cases h
theorem ZUP(A:J8)(O:J7)(r:D)(O':J7):ZVo A O r O' A O=some (true,r,O'):=if_pos ⟨D.beqL_refl A,ZGA O⟩
theorem ZN.row{P:Program}{f:FuncId}{args:J8}{OS:J7}{r:D}(i:Nat){fz fz':Bool}{e sz e' sz':Nat}{rs rs':J6}(hc:ZN P f (Zu (Ye [i]) args) [.rows fz e sz rs] r [.rows fz' e' sz' rs'])
  (ho:OS[i]? =some (.rows fz e sz rs)) (hi:Jg args= [i]) (hn:Yo (λj=>Zn j [i]) args=true) (hr: ∀f,r.ren f=r):ZN P f args OS r (OS.set i (.rows fz' e' sz' rs')):=
 ZN.lift (ZTl hc) _ _ _ _ (ZY2 _ _ _ i fz e sz rs fz' e' sz' rs' true _ hi hn ho hr (ZUP _ _ _ _))
theorem ZN.new{P:Program}{f:FuncId}{args:J8}{OS os':J7}{r:D}(hc:ZN P f args [] r os')(hi:Jg args= [])(hn: ∀p,Yo p args=true):ZN P f args OS (r.ren (λi=>OS.length+i)) (OS++os'.map (Ob.ren (λi=>OS.length+i))):=by
 have hren: ∀g,Zu g args=args:=λg=>by
  have:=ZI0 (F:=λi=>i) (g:=g) (p:=λ_=>false) (λi h=>by cases h) args (hn _);rwa [ZIR _ (λ_=>rfl)]at this
 refine ZN.lift (h:=ZVo args [] r os') (ZTl hc) _ _ _ _ ?_;have hre:Jv OS 64 (Jg args) []= []:=by rw[hi];rfl
 have hf:KA [] OS.length os'.length=λi=>OS.length+i:=funext λi=>by simp[KA]
 unfold Yx;rw[hre,if_pos (by simp[QB,hn,QD]),hren,show YS [] OS= []from rfl,ZUP,ZAd];dsimp only;rw[if_pos (show([]:W0).length<=os'.length from Jy _)];unfold KJ;rw[hf];cases os'<;>rfl
section
variable {P:Program}
theorem ZI.mcallsX{f:FuncId}{args:J8}{r:D}{os os':J7}(h:ZI P f args os (λr' os2=>r'=r/\ ∃X,os2=os'++X))(h0:os.length<=os'.length)(hO:os'.all (Ob.inP (λi=>decide (i<os'.length)))=true)(hr:r.inP (λi=>decide (i<os'.length))=true):ZN P f args os r os':=by
 intro c E vs R hvl;refine(h c E vs R hvl).mono ?_;rintro e w' ⟨v,E',r',os2,rfl,rfl,R',ev,hv,rfl,X,rfl⟩;have hn:(List.range os'.length).Nodup:=List.nodup_range;have hlt: ∀r∈List.range os'.length,r<(os'++X).length:=λr hr=>by have:=ZG6.1 hr;simp;omega
 have hm:(λi=>Zn i (List.range os'.length))=λi=>decide (i<os'.length):=funext (ZC2 _)
 have R2:=R'.pickO hn hlt (λr hr=>by
  have h:=ZG6.1 hr;rw[ZFm,Yc h,YA h,ξX,hm];exact Yd.1 hO _ (YZ h))
 have e2:=ZLA (ρ:=List.range os'.length) R' hlt;rw[ZPk hO]at R2 e2;refine⟨v,fpE (List.range os'.length) E',rfl,rfl,R2,?_,?_⟩
 .refine⟨ev.st,λid b cu ds k ho hkd hb=> ?_,λid o sz rs ho hs=> ?_⟩
  .have hi:=(ZV ho).1;obtain⟨cu1,ds1,k1,kd1,k2⟩:=ev.bl id b cu ds k ho hkd hb;obtain⟨cu2,ds2,k3,kd2,k4⟩:=e2.bl id b cu1 ds1 k (by rw[ZC2];exact ZL J0) k1 kd1 k2;rw[ZCn J0]at k3 k4;exact⟨cu2,ds2,k3,kd2,k4⟩
  .have hi:=(ZV ho).1;obtain⟨o1,rs1,k1,k2,k3⟩:=ev.rf id o sz rs ho hs;obtain⟨o2,rs2,k4,k5,k6⟩:=e2.rf id o1 sz rs1 (by rw[ZC2];exact ZL J0) k1 k2;rw[ZCn J0]at k4 k6;refine⟨o2,rs2,k4,k5,?_⟩;rcases k3 with⟨k3,k3'⟩|k3<;>rcases k6 with⟨k6,k6'⟩|k6
   .exact .inl ⟨k3.trans k6,k6'.trans k3'⟩
   .exact .inr J0
   .exact .inr J0
   .exact .inr J0
 .have h1:V (fpE (List.range os'.length) E') os' (r'.ren (Ye (List.range os'.length))) v:=hv.monoR e2 (by rw[hm];exact hr);have h2:=D.ren_ren (F:=λi=>i) (g:=Ye (List.range os'.length)) (p:=λi=>decide (i<os'.length)) (λj hj=>ZCn (of_decide_eq_true hj)) r' hr;rw[D.ren_id _ (λ_=>rfl)]at h2;rwa [h2]at h1
end
theorem ZC.mc{P:Program}{f:FuncId}{args:J8}{r:D}(h:ZC P f args r)(OS:J7)(hi:Jg args= []:=by rfl)(hn: ∀p,Yo p args=true:=by intro p;rfl)(hr: ∀g,r.ren g=r:=by intro g;rfl):ZN P f args OS r OS:=by
 have h0:ZN P f args [] r []:=by
  intro c E vs R hvl;have hob:E.ob= []:=ξQ (by have:=R.len;simpa using this);obtain⟨w,st,ob⟩:=E;simp only at hob;subst hob;refine(h w st vs (λb o h=>(R.stm b o h).1) hvl).mono ?_;rintro e w' ⟨v,st',rfl,hk,h1,h2,hv⟩;obtain⟨R',ev⟩:=R.world w' st' hk h1 h2;exact⟨v,_,rfl,rfl,R',ev,hv⟩
 have:=ZN.new (OS:=OS) h0 hi hn;rw[hr,ZAD,Ku]at this;exact this
variable {P:Program} {c:Ctx} {E0:Env} {os0:J7} {n:Nat} {Q:Exit->J4->J7->Prop} {φ:J4} {os:J7}
def WR(P:Program)(c:Ctx)(E0:Env)(os0:J7)(n:Nat)(l:List IOp)(Q:Exit->J4->J7->Prop)(φ:J4)(os:J7):Prop:=
 ∀(ops:Array Oper) (lo:List Oper),lo.mapM (Yu P n ops)=some l-> ∀(E:Env) (a:Act),Run c E0 os0 E os->Fr n E os φ a->
  wpList P ops (λx a' w'=> ∃E' φ' os',E'.w=w'/\Run c E0 os0 E' os'/\Fr n E' os' φ' a'/\Q x φ' os') lo a E.w
theorem WR.reg{l:List IOp}(h:WR P c E0 os0 n l Q φ os):WI P c E0 os0 n (.reg l) Q φ os:=by
 intro code hc E a R hf;obtain⟨id,ops,rfl,h1⟩:=ZGP hc;exact wp_region_list (h ops _ h1 E a R hf)
theorem WR.regB{S:Tabs}(hS:SsOk P S)(ks:W0){l:List IOp}(h:YY (YJ S true φ os l) (λφ' os'=>Q .normal (Go.Ab.keep ks φ') os')):WR P c E0 os0 n l Q φ os:=by
 intro ops lo h1 E a R hf;rw[ZF7]at h;obtain⟨ok,φ',os',h2,rfl,h3⟩:=h;obtain⟨⟨ok2,q⟩,h4,h5⟩:=Zc h2;simp at h5;obtain⟨rfl,rfl⟩:=h5;exact ZLB hS R.rel hf h1 h4 (λE' a' R' e' f'=>⟨E',_,_,rfl,⟨R',R.evo.trans e'⟩,f'.keep ks,h3⟩)
theorem ZNi{α β:Type}(f:α->Option β): ∀(k:Nat) (lo:List α) (l:List β),lo.mapM f=some l->(lo.take k).mapM f=some (l.take k)/\(lo.drop k).mapM f=some (l.drop k)
 |0,lo,l,h=>by simpa using h
 |k+1,[],l,h=>by simp at h;subst h;simp
 |k+1,x::lo,l,h=>by
  simp only[Qv,Jj,JB,ZAa]at h;obtain⟨y,h1,l',h2,h3⟩:=h;cases h3;obtain⟨i1,i2⟩:=ZNi f k lo l' h2;refine⟨?_,by simpa using i2⟩;simp only[ξU,Qv,h1,i1,Jj,ZAd,ZAa]
theorem ZUA{S:Tabs}(hS:SsOk P S){ops:Array Oper}{Q:Exit->Act->World->Prop}{lo2:List Oper}: ∀ {l:List Oper} {il:List IOp} {E:Env} {os:J7} {φ:J4} {a:Act},Rel c E os->Fr n E os φ a->l.mapM (Yu P n ops)=some il-> ∀ {φ':J4} {os':J7},Ke S φ os il=some (true,φ',os')->
  (∀E' a',Rel c E' os'->Evo E os E' os'->Fr n E' os' φ' a'->wpList P ops Q lo2 a' E'.w)->wpList P ops Q (l++lo2) a E.w
 | [],il,E,os,φ,a,R,hf,hm,φ',os',h,hQ=>by
  simp at hm;subst hm;cases h;exact hQ E a R (Evo.refl _ _) hf
 |o::l,il,E,os,φ,a,R,hf,hm,φ',os',h,hQ=>by
  simp only[Qv,Jj,JB,ZAa]at hm;obtain⟨io,hio,il',hil,hm⟩:=hm;cases hm;simp only[Ke,JB,ξm]at h;obtain⟨⟨ok,φ1,os1⟩,h1,⟨ok2,φ2,os2⟩,h2,h3⟩:=h;simp at h3;obtain⟨⟨rfl,rfl⟩,rfl,rfl⟩:=h3;rw[Qx];refine wpList_step λK hK=>ZO9 hS R hf hio h1 (λE1 a1 R1 e1 f1=> ?_)
  exact hK _ _ (ZUA hS R1 f1 hil h2 (λE' a' R' e' f'=>hQ E' a' R' (e1.trans e') f'))
theorem WR.cut{S:Tabs}(hS:SsOk P S)(ks:W0)(k:Nat){l:List IOp}(h:YY (YJ S true φ os (l.take k)) (λφ1 os1=> ∃φ2 os2,Wk c E0 os0 n (Go.Ab.keep ks φ1) os1 φ2 os2/\kN (λφ2 os2=>WR P c E0 os0 n (l.drop k) Q φ2 os2) .normal φ2 os2)):WR P c E0 os0 n l Q φ os:=by
 intro ops lo h1 E a R hf;rw[ZF7]at h;obtain⟨ok,φ',os',h2,rfl,φ2,os2,hw,h3⟩:=h;obtain⟨⟨ok2,q⟩,h4,h5⟩:=Zc h2;simp at h5;obtain⟨rfl,rfl⟩:=h5;obtain⟨i1,i2⟩:=ZNi _ k lo l h1;rw[<-ZDl k lo];refine ZUA hS R.rel hf i1 h4 (λE' a' R' e' f'=> ?_);obtain⟨E2,hE,R2,f2⟩:=hw E' a' ⟨R',R.evo.trans e'⟩ (f'.keep ks);rw[<-hE];exact h3 ops _ i2 E2 a' R2 f2
theorem WI.cutA{S:Tabs}(hS:SsOk P S)(ks:W0)(k:Nat){l:List IOp}(h:YY (YJ S true φ os (l.take k)) (λφ1 os1=> ∃φ2 os2,Wk c E0 os0 n (Go.Ab.keep ks φ1) os1 φ2 os2/\kN (λφ2 os2=>WR P c E0 os0 n (l.drop k) Q φ2 os2) .normal φ2 os2)):WI P c E0 os0 n (.reg l) Q φ os:=
 WR.reg (WR.cut hS ks k h)
def X.nn0:X->X
 | .nils=> .sl []
 |x=>x
theorem VX.nn0{w:World}{st:Nat->Nat->Prop}{x:X}{v:Value}(h:VX w st x v):VX w st x.nn0 v:=by
 unfold X.nn0;split
 .exact h.nn
 .exact h
def D.nn1:D->D
 | .x (.sl rs)=> .x (.sl (rs.map (List.map X.nn0)))
 |d=>d
theorem V.nn1{E:Env}{os:J7}{d:D}{v:Value}(h:V E os d v):V E os d.nn1 v:=by
 unfold D.nn1;split
 .cases h with
  |x h=>
  cases h with
  |sl _ a n c sz val hn hc hm hsz hcell hnil hsp hval=>
   refine .x (.sl _ a n c sz val (by simpa using hn) hc hm (λr hr=> ?_) hcell hnil hsp (λi j r x hr hx=> ?_))
   .obtain⟨r0,h0,rfl⟩:=YO.1 hr;rw[YX];exact hsz r0 h0
   .rw[YG]at hr;obtain⟨r0,h0,rfl⟩:=Zc hr;rw[YG]at hx;obtain⟨x0,hx0,rfl⟩:=Zc hx;exact(hval i j r0 x0 h0 hx0).nn0
 .exact h
def ZNq(φ:J4):J4:=φ.map λp=>(p.1,p.2.nn1)
theorem Zei(φ:J4)(t:Nat):get (ZNq φ) t=(get φ t).nn1:=by
 induction φ with
 |nil=>rfl
 |cons p φ ih=>
  obtain⟨u,d⟩:=p;simp only[ZNq,YL,get];split
  .rfl
  .exact ih
theorem Wk.nn1:Wk c E0 os0 n φ os (ZNq φ) os:=λE a R hf=>⟨E,rfl,R,hf.size,hf.defers,λt=>by rw[Zei];exact(hf.slot t).nn1⟩
theorem ZiQ{φ':J4}(h: ∃φ2 os2,Wk c E0 os0 n φ' os φ2 os2/\Q .normal φ2 os2)(hp:ZNq φ=φ':=by simp only[ZNq,D.nn1,X.nn0,YL,ZAD];rfl): ∃φ2 os2,Wk c E0 os0 n φ os φ2 os2/\Q .normal φ2 os2:=by
 obtain⟨φ2,os2,h1,h2⟩:=h;subst hp;exact⟨φ2,os2,Wk.nn1.trans h1,h2⟩
def GP(P:Program)(f:FuncId):Option IFn:=((P.funcs[f]?).filter λfn=> !(fn.name== "runtime.NumGoroutine")).bind (ZFf P)
theorem ZNB(P:Program):GOk P (GP P):=by
 intro f p h;obtain⟨fn,h1,h2⟩:=Zv h;obtain⟨h3,h4⟩:=Option.filter_eq_some_iff.1 h1;exact⟨fn,h3,by simpa using h4,h2⟩
theorem ZW{P:Program}(f:FuncId)(h:(GP P f).isSome=true:=by kernel_rfl):Enters P f:=by
 obtain⟨p,hp⟩:=ZcV.1 h;exact Zbm (ZNB P) hp
def FG(P:Program)(fz:Bool)(args:J8)(os:J7)(Post:D->J7->Prop):Option IFn->Prop
 |some p=>args.length<=p.n/\ ∀(c:Ctx) (E0:Env),WI P c E0 os p.n p.body (λx φ' os'=>(x= .normal\/x= .ret)/\ ∃ds os2,Kf fz (λ_ _=>none) φ' os' p.res=some (true,ds,os2)/\Post (mkR ds) os2) (ZCr 0 args) os
 |none=>False
theorem FG.mk{P:Program}{fz:Bool}{args:J8}{os:J7}{Post:D->J7->Prop}{p:IFn}(h: ∀(c:Ctx) (E0:Env),WI P c E0 os p.n p.body (λx φ' os'=>(x= .normal\/x= .ret)/\ ∃ds os2,Kf fz (λ_ _=>none) φ' os' p.res=some (true,ds,os2)/\Post (mkR ds) os2) (ZCr 0 args) os)(h1:args.length<=p.n:=by exact ξ rfl):FG P fz args os Post (some p):=⟨h1,h⟩
theorem FG.calls{P:Program}{fz:Bool}{f:FuncId}{args:J8}{os:J7}{Post:D->J7->Prop}(h:FG P fz args os Post (GP P f)):ZI P f args os Post:=by
 rcases hp:GP P f with _|p
 .rw[hp]at h;exact h.elim
 .rw[hp]at h;exact ZfS (ZNB P) hp args h.1 os h.2
theorem u8L(n:Nat)(h:n<2^8):UInt8.ofBitVec (BitVec.ofFin (Fin.mk n h))=UInt8.ofNatLT n h:=rfl
theorem fC{P:Program}{os:J7}{args:J8}{A:Prop}(f:FuncId)(z:Bool){Post:D->J7->Prop}(h:A)(k:Bx A->FG P z args os Post (GP P f):=by(intro h;(conv=>arg 6;reduce);refine FG.mk ?_;dsimp only[Int.reduceOfNat,Int.reduceNegSucc,u8L,UInt8.reduceOfNatLT,ZCr];exact h.h)):ZI P f args os Post:=FG.calls (k ⟨h⟩)
theorem evP{P:Program}(m:Nat)(f:FuncId){S0:Tabs}(h0:SsOk P S0)(nq:List FuncId){args:J8}{r:D}(h:((GP P f).bind λp=>(ZFv true (ev S0 nq (GP P) m) p args []).map (·.1))=some r:=by kernel_rfl)(hcl:r.clean=true:=by rfl):ZC P f args r:=by
 obtain⟨p,hp,h⟩:=Zv h;exact ZVm (ZNB P) m hp h0 nq h hcl
section
variable {P:Program} {c:Ctx} {E0:Env} {os0 os:J7} {n:Nat} {Q:Exit->J4->J7->Prop} {φ:J4}
theorem ZT5{S:Tabs}(hS:SsOk P S){ops:Array Oper}{Q:Exit->Act->World->Prop}{g:FuncId}{caps:J8}(hen:Enters P g){dst:Option Nat}{f:IO}{xs:List IO}{il2:List IOp}{K:J4->J7->Prop}{Post:D->J7->Prop}{φ1:J4}{os1:J7}
  (hv:(ZE φ1 f).val= .fn g caps) (c1:(ZE φ1 f).cond=true) (c2:(xs.all λy=>(ZE φ1 y).cond)=true) (hpc:ZI P g ((xs.map λy=>(ZE φ1 y).val)++caps) os1 Post)
  (h2: ∀r os2,Post r os2-> ∃φ' os',Ke S (putO φ1 dst r) os2 il2=some (true,φ',os')/\K φ' os'):
  ∀ {il1:List IOp} {l:List Oper} {E:Env} {os:J7} {φ:J4} {a:Act},Rel c E os->Fr n E os φ a->l.mapM (Yu P n ops)=some (il1++⟨dst,.call f xs,none⟩::il2)->Ke S φ os il1=some (true,φ1,os1)->
  (∀E' a' φ' os',K φ' os'->Rel c E' os'->Evo E os E' os'->Fr n E' os' φ' a'->Q .normal a' E'.w)->wpList P ops Q l a E.w
 |il1,[],E,os,φ,a,R,hf,hm,h1,hQ=>by
  cases il1<;>simp at hm
 | [],o::l,E,os,φ,a,R,hf,hm,h1,hQ=>by
  cases h1;simp only[Qv,Jj,JB,ZAa]at hm;obtain⟨io,hio,il',hil,hm⟩:=hm;simp only[ZAR,Ze,ZEq]at hm;obtain⟨rfl,rfl⟩:=hm;simp only[Yu,JB]at hio;obtain⟨e,he,hio⟩:=hio;split at hio
  .rename_i hdst;split at hio
   .rename_i hg;simp only[Ze,IOp.mk.injEq,and_true]at hio;obtain⟨rfl,rfl⟩:=hio;refine wpList_step λK' hK'=> ?_
    simp only[Region.wanted,hg,if_true];refine ZFW hf he hv c1 (Yd.1 c2) hen (λvs hvl=>(hpc c E vs R hvl).mono ?_);rintro e w' ⟨v,E',r,os2,rfl,rfl,R',ev,hvv,hpost⟩;obtain⟨φ',os',k1,k2⟩:=h2 r os2 hpost;exact⟨v,rfl,hK' _ _ (ZLB hS R' ((hf.mono ev).putO hdst hvv) hil k1 (λE2 a2 R2 e2 f2=>hQ E2 a2 φ' os' k2 R2 (ev.trans e2) f2))⟩
   .obtain⟨s,_,hio⟩:=Zc hio;cases hio
  .cases hio
 |io::il1,o::l,E,os,φ,a,R,hf,hm,h1,hQ=>by
  simp only[Qv,Jj,JB,ZAa]at hm;obtain⟨io',hio,il',hil,hm⟩:=hm;simp only[Qx,Ze,ZEq]at hm;obtain⟨rfl,rfl⟩:=hm;simp only[Ke,JB,ξm]at h1;obtain⟨⟨ok,φ3,os3⟩,h3,⟨ok2,φ4,os4⟩,h4,h5⟩:=h1;simp at h5;obtain⟨⟨rfl,rfl⟩,rfl,rfl⟩:=h5;refine wpList_step λK' hK'=>ZO9 hS R hf hio h3 (λE1 a1 R1 e1 f1=> ?_)
  exact hK' _ _ (ZT5 hS hen hv c1 c2 hpc h2 R1 f1 hil h4 (λE' a' φ' os' k R' e' f'=>hQ E' a' φ' os' k R' (e1.trans e') f'))
theorem WI.regF{S:Tabs}(hS:SsOk P S)(k:Nat){l:List IOp}{dst:Option Nat}{f:IO}{xs:List IO}{g:FuncId}{caps:J8}{φ1:J4}{os1:J7}{Post:D->J7->Prop}(hk:l[k]? =some ⟨dst,.call f xs,none⟩)(h1:Ke S φ os (l.take k)=some (true,φ1,os1))(hen:Enters P g)
  (hv:(ZE φ1 f).val= .fn g caps) (c1:(ZE φ1 f).cond=true) (c2:(xs.all λy=>(ZE φ1 y).cond)=true) (hpc:ZI P g ((xs.map λy=>(ZE φ1 y).val)++caps) os1 Post)
  (h2: ∀r os2,Post r os2-> ∃φ' os',Ke S (putO φ1 dst r) os2 (l.drop (k+1))=some (true,φ',os')/\Q .normal φ' os'):WI P c E0 os0 n (.reg l) Q φ os:=by
 intro code hc E a R hf;obtain⟨id,ops,rfl,h3⟩:=ZGP hc;have hl:l=l.take k++⟨dst,.call f xs,none⟩::l.drop (k+1):=by
  obtain⟨hlt,hk⟩:=ZV hk;rw[<-hk,<-ZFj hlt,ZDl]
 rw[hl]at h3;exact wp_region_list (ZT5 hS hen hv c1 c2 hpc h2 R.rel hf h3 h1 (λE' a' φ' os' k R' e' f'=>⟨E',φ',os',rfl,⟨R',R.evo.trans e'⟩,f',k⟩))
def ZcM:Nat->IC->IC
 |0,ic=>ic
 |k+1,.seq _ b=>ZcM k b
 |_+1,ic=>ic
def evSeq(S:Tabs)(nq:List FuncId)(G:FuncId->Option IFn)(m:Nat):Nat->IC->J4->J7->Option (List (Nat×D)×J7)
 |0,_,φ,os=>some (φ,os)
 |k+1,.seq a b,φ,os=>match ev S nq G m a φ os with
  |some (.normal,φ',os')=>evSeq S nq G m k b φ' os'
  |_=>none
 |_+1,_,_,_=>none
theorem WI.evSeq{S:Tabs}(hS:SsOk P S)(nq:List FuncId){G:FuncId->Option IFn}(hG:GOk P G)(m:Nat): ∀(k:Nat) {ic:IC} {φ os φ' os'},Go.Ab.evSeq S nq G m k ic φ os=some (φ',os')->WI P c E0 os0 n (ZcM k ic) Q φ' os'->WI P c E0 os0 n ic Q φ os
 |0,ic,φ,os,φ',os',h,hq=>by cases h;exact hq
 |k+1,.seq a b,φ,os,φ',os',h,hq=>by
  simp only[Go.Ab.evSeq]at h;split at h
  .rename_i φ1 os1 h1;refine WI.seq (WI.mono ((ZVW hS hG m).1 _ _ _ _ _ _ h1 c E0 os0 n) ?_);rintro e φ2 os2 ⟨rfl,rfl,rfl⟩;exact WI.evSeq hS nq hG m k h hq
  .cases h
 |k+1,.skip,_,_,_,_,h,_=>by cases h
 |k+1,.reg _,_,_,_,_,h,_=>by cases h
 |k+1,.dreg _ _ _ _ _,_,_,_,_,h,_=>by cases h
 |k+1,.cond _ _ _,_,_,_,_,h,_=>by cases h
 |k+1,.block _ _,_,_,_,_,h,_=>by cases h
 |k+1,.loop _,_,_,_,_,h,_=>by cases h
 |k+1,.exit _,_,_,_,_,h,_=>by cases h
 |k+1,.ret,_,_,_,_,h,_=>by cases h
 |k+1,.label _,_,_,_,_,h,_=>by cases h
 |k+1,.goto _,_,_,_,_,h,_=>by cases h
 |k+1,.scope _ _,_,_,_,_,h,_=>by cases h
 |k+1,.dead,_,_,_,_,h,_=>by cases h
theorem WI.evE{S:Tabs}(hS:SsOk P S)(nq:List FuncId){G:FuncId->Option IFn}(hG:GOk P G)(m:Nat){ic:IC}{x:Exit}{φ':J4}{os':J7}(h:ev S nq G m ic φ os=some (x,φ',os'))(hq:Q x φ' os'):WI P c E0 os0 n ic Q φ os:=by
 refine WI.mono ((ZVW hS hG m).1 _ _ _ _ _ _ h c E0 os0 n) ?_;rintro e φ2 os2 ⟨rfl,rfl,rfl⟩;exact hq
end
def ptK(S:Tabs)(f:FuncId)(A:J8)(O:J7)(r:Nat->D)(ob:Ob):Tabs:=⟨S.q,S.t,S.r,λf' args os=>if f'=f/\D.beqL args A=true/\ZFB os O=true then some (true,r,ob)else S.k f' args os⟩
theorem ZX1{P:Program}{S:Tabs}(hS:SsOk P S){f:FuncId}{A:J8}{O:J7}{r:Nat->D}{ob:Ob}(he:Enters P f)(hm:ZCi P f A O r ob):SsOk P (ptK S f A O r ob):=by
 refine⟨hS.q,hS.t,hS.r,λf' args os r' ob' h=> ?_⟩;simp only[ptK]at h;split at h
 .rename_i hh;obtain⟨rfl,h2,h3⟩:=hh;rw[D.beqL_eq h2,ZGv h3];simp only[Ze,ZZ,true_and]at h;obtain⟨rfl,rfl⟩:=h;exact⟨he,hm⟩
 .exact hS.k f' args os r' ob' h
theorem Zhs(S:Tabs)(f:FuncId)(A:J8)(O:J7)(r:Nat->D)(ob:Ob):(ptK S f A O r ob).k f A O=some (true,r,ob):=if_pos ⟨rfl,D.beqL_refl A,ZGA O⟩
theorem Zhx(S:Tabs)(f:FuncId)(A:J8)(O:J7)(r:Nat->D)(ob:Ob):(ptK S f A O r ob).q=S.q:=rfl
theorem Zhz(S:Tabs)(f:FuncId)(A:J8)(O:J7)(r:Nat->D)(ob:Ob):(ptK S f A O r ob).r=S.r:=rfl
theorem Zhv(S:Tabs)(f:FuncId)(A:J8)(O:J7)(r:Nat->D)(ob:Ob):(ptK S f A O r ob).t=S.t:=rfl
end Go.Ab
end
