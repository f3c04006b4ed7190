import Derived.Test.YtpjfdjcejamebaaGreatDoorLA4
import Derived.Test.YtpjfdjcejamebaaGreatDoorLA1
import Derived.LoopN
import Derived.Lib.SlKeysI
set_option linter.unusedSimpArgs false
set_option linter.unusedVariables false
set_option maxRecDepth 100000
section
namespace Go.Ab
open Go.RowKit Go.Bo
structure RC (α:Type) where
 n:Nat
 enc:α->J9
 dec:J9->Option α
structure RC.Good {α:Type} (c:RC α):Prop where
 len: ∀a,(c.enc a).length=c.n
 de: ∀a,c.dec (c.enc a)=some a
 ed: ∀r a,c.dec r=some a->c.enc a=r
def ZDq(k:IntKind):RC Int:=⟨1,λx=> [.int k x],λ| [.int k' x]=>if k'=k then some x else none|_=>none⟩
def ZA:RC (List UInt8):=⟨1,λs=> [.str s],λ| [.str s]=>some s|_=>none⟩
def ZN0:RC Bool:=⟨1,λs=> [.bool s],λ| [.bool s]=>some s|_=>none⟩
def ZA0:RC Unit:=⟨0,λ_=> [],λ| []=>some ()|_=>none⟩
def Jh{α β:Type}(c:RC α)(d:RC β):RC (α×β):=⟨c.n+d.n,λp=>c.enc p.1++d.enc p.2,λr=>(c.dec (r.take c.n)).bind λa=>(d.dec (r.drop c.n)).map λb=>(a,b)⟩
def Zi5{α β:Type}(c:RC α)(f:β->α)(g:α->β):RC β:=⟨c.n,λb=>c.enc (f b),λr=>(c.dec r).map g⟩
def rows{α:Type}(c:RC α)(l:List α):J6:=l.map c.enc
def ZV{α:Type}(c:RC α)(rs:J6):Option (List α):=rs.mapM c.dec
def rSl{α:Type}(c:RC α):RC (List α):=⟨1,λl=> [.sl (rows c l)],λ| [.sl rs]=>ZV c rs|_=>none⟩
theorem ZDn{α β:Type}{f:α->Option β}: ∀ {l:List α} {m:List β},l.mapM f=some m↔l.length=m.length/\ ∀(i:Nat) (h:i<l.length) (h':i<m.length),f l[i]=some m[i]
 | [],m=>by
  cases m<;>simp
 |x::l,m=>by
  simp only[ZAL,Jr,JD,ZBA,Ze];constructor
  .rintro⟨y,hy,ys,hys,rfl⟩;obtain⟨h1,h2⟩:=ZDn.1 hys;refine⟨by simp[h1],λi h h'=> ?_⟩;cases i with
   |zero=>exact hy
   |succ i=>simpa using h2 i (by simpa using h) (by simpa using h')
  .rintro⟨h1,h2⟩;cases m with
   |nil=>simp at h1
   |cons y ys=>
    refine⟨y,h2 0 J1 J1,ys,ZDn.2 ⟨by simpa using h1,λi h h'=> ?_⟩,rfl⟩;exact h2 (i+1) (by simp;omega) (by simp;omega)
section
variable {α β:Type} {c:RC α} {d:RC β}
theorem Zh(c:RC α)(l:List α):(rows c l).length=l.length:=by simp[rows]
theorem ZSE(c:RC α)(l:List α)(i:Nat)(h:i<l.length):(rows c l)[i]? =some (c.enc l[i]):=by simp[rows,h]
theorem ZBe(c:RC α)(l:List α)(k:Nat):(rows c l).drop k=rows c (l.drop k):=by simp[rows]
theorem ZBb(c:RC α)(l:List α)(k:Nat):(rows c l).take k=rows c (l.take k):=by simp[rows]
theorem ZBq(c:RC α)(l m:List α):rows c l++rows c m=rows c (l++m):=by simp[rows]
theorem ZHO(h:c.Good)(l:List α)(sz:Nat)(hs:c.n=sz):((rows c l).all λr=>decide (r.length=sz))=true:=by
 subst hs;rw[Yc];intro r hr;obtain⟨a,_,rfl⟩:=YT.1 hr;simp[h.len]
theorem Zf(h:c.Good)(l:List α):ZV c (rows c l)=some l:=by
 unfold ZV;rw[ZDn];exact⟨by simp[rows],λi h1 h2=>by simp[rows,h.de]⟩
theorem ZY(h:c.Good){rs:J6}{l:List α}(hu:ZV c rs=some l):rows c l=rs:=by
 unfold ZV at hu;rw[ZDn]at hu;refine List.ext_getElem (by simp[rows,hu.1]) (λi h1 h2=> ?_);have:=hu.2 i h2 (by simpa[rows]using h1);simpa[rows]using h.ed _ _ this
theorem ZSm(k:IntKind)(n:Int):(ZDq k).enc n= [.int k n]:=rfl
theorem ZSj(s:List UInt8):ZA.enc s= [.str s]:=rfl
theorem ZQG(b:Bool):ZN0.enc b= [.bool b]:=rfl
theorem ZSY(u:Unit):ZA0.enc u= []:=rfl
theorem ZUk(c:RC α)(l:List α):(rSl c).enc l= [.sl (rows c l)]:=rfl
theorem ZRS(c:RC α)(d:RC β)(p:α×β):(Jh c d).enc p=c.enc p.1++d.enc p.2:=rfl
theorem ZRz(c:RC α)(f:β->α)(g:α->β)(b:β):(Zi5 c f g).enc b=c.enc (f b):=rfl
theorem ZBd(k:IntKind):(ZDq k).Good:=⟨λ_=>rfl,λa=>by simp[ZDq],λr a h=>by
 simp only[ZDq]at h|-;split at h
 .split at h
  .rename_i hk;cases h;rw[hk]
  .cases h
 .cases h⟩
theorem ZM:ZA.Good:=⟨λ_=>rfl,λa=>rfl,λr a h=>by
 simp only[ZA]at h|-;split at h
 .cases h;rfl
 .cases h⟩
theorem ZVd:ZN0.Good:=⟨λ_=>rfl,λa=>rfl,λr a h=>by
 simp only[ZN0]at h|-;split at h
 .cases h;rfl
 .cases h⟩
theorem ZBa:ZA0.Good:=⟨λ_=>rfl,λa=>rfl,λr a h=>by
 simp only[ZA0]at h|-;split at h
 .rfl
 .cases h⟩
theorem Yx(hc:c.Good)(hd:d.Good):(Jh c d).Good:=⟨λp=>by simp[Jh,hc.len,hd.len],λp=>by
  have h1:(c.enc p.1++d.enc p.2).take c.n=c.enc p.1:=by rw[ZM3 (by rw[hc.len];exact Zm _),YX (by rw[hc.len];exact Zm _)]
  have h2:(c.enc p.1++d.enc p.2).drop c.n=d.enc p.2:=by rw[<-hc.len p.1];exact List.drop_left
  simp[Jh,h1,h2,hc.de,hd.de],λr p h=>by
  simp only[Jh,JD,ξm]at h;obtain⟨a,h1,b,h2,rfl⟩:=h;simp only[Jh,hc.ed _ _ h1,hd.ed _ _ h2,ZDA]⟩
theorem ZCf(hc:c.Good):(rSl c).Good:=⟨λ_=>rfl,λl=>Zf hc l,λr l h=>by
 simp only[rSl]at h|-;split at h
 .rw[ZY hc h]
 .cases h⟩
end
mutual
def X.wf:X->Prop
 | .sl rs=>rs.length<=maxLen/\X.wfR rs
 | .int _ _=>True
 | .bool _=>True
 | .str _=>True
 | .nilp=>True
 | .nils=>True
def X.wfR:J6->Prop
 | []=>True
 |r::l=>X.wfL r/\X.wfR l
def X.wfL:J9->Prop
 | []=>True
 |x::l=>x.wf/\X.wfL l
end
theorem X.wfL_iff: ∀ {l:J9},X.wfL l↔ ∀x∈l,x.wf
 | []=>by simp[X.wfL]
 |x::l=>by simp[X.wfL,X.wfL_iff (l:=l)]
theorem X.wfR_iff: ∀ {rs:J6},X.wfR rs↔ ∀r∈rs,X.wfL r
 | []=>by simp[X.wfR]
 |r::l=>by simp[X.wfR,X.wfR_iff (rs:=l)]
theorem VX.wf{w:World}{st:Nat->Nat->Prop}{x:X}{v:Value}(h:VX w st x v):x.wf:=by
 induction h with
 |sl rs a n c sz val hn hc hm hsz hcell hnil hsp hval ih=>
  refine⟨J0,X.wfR_iff.2 (λr hr=>X.wfL_iff.2 (λx hx=> ?_))⟩;obtain⟨i,hi⟩:=ZE7.1 hr;obtain⟨j,hj⟩:=ZE7.1 hx;exact ih i j r x hi hj
 |_=>trivial
section
variable {P:Program}
theorem ZC.wf{f:FuncId}{args:J8}{r:D}(h:(∀x,D.x x∈args->x.wf)->ZC P f args r):ZC P f args r:=by
 intro w st vs hst hvl;refine h (λx hx=> ?_) w st vs hst hvl;obtain⟨j,hj⟩:=ZE7.1 hx;have hl:=(Zb hj).1;have hv:vs[j]? =some (vs[j]'(by rw[<-hvl.1];exact hl)):=ξL _;exact(hvl.2 j _ _ hj hv).xx.wf
theorem WI.wf{c:Ctx}{E0:Env}{os0 os:J7}{n:Nat}{Q:Exit->J4->J7->Prop}{φ:J4}{ic:IC}(t:Nat){x:X}(ht:get φ t= .x x)(h:x.wf->WI P c E0 os0 n ic Q φ os):WI P c E0 os0 n ic Q φ os:=by
 intro code hc E a R hf;have:=hf.slot t;rw[ht]at this;exact h this.xx.wf code hc E a R hf
mutual
def X.ok:X->Prop
 | .sl rs=>rs.length<=maxLen/\X.okR rs
 | .int k n=>(Lit.int k n).wf=true
 | .bool _=>True
 | .str s=>s.length<=maxLen
 | .nilp=>True
 | .nils=>True
def X.okR:J6->Prop
 | []=>True
 |r::l=>X.okL r/\X.okR l
def X.okL:J9->Prop
 | []=>True
 |x::l=>x.ok/\X.okL l
end
theorem X.okL_iff: ∀ {l:J9},X.okL l↔ ∀x∈l,x.ok
 | []=>by simp[X.okL]
 |x::l=>by simp[X.okL,X.okL_iff (l:=l)]
theorem X.okR_iff: ∀ {rs:J6},X.okR rs↔ ∀r∈rs,X.okL r
 | []=>by simp[X.okR]
 |r::l=>by simp[X.okR,X.okR_iff (rs:=l)]
theorem X.okL_append{l m:J9}:X.okL (l++m)↔X.okL l/\X.okL m:=by
 simp only[X.okL_iff,Km];exact⟨λh=>⟨λx hx=>h x (.inl hx),λx hx=>h x (.inr hx)⟩,λh x hx=>hx.elim (h.1 x) (h.2 x)⟩
def ZAb(w:World)(xs:J9)(cs:List Value):Prop:=cs.length=xs.length/\ ∀(j:Nat) (x:X) (v:Value),xs[j]? =some x->cs[j]? =some v->VX w (λb _=>b<w.heap.size) x v
def ZKG(P:Program)(T:TypeId){α:Type}(c:RC α):Prop:=
 P.cellsOf T=c.n/\ ∀ {H:Type} (enc:TypeId×Value->H) (w:World) (fuel:Nat) (cs:List Value) (x:DataW H×List MemPlace),DataW.trod enc P w 0 (λ_=>true) true fuel T cs=some x-> ∃y,ZAb w (c.enc y) cs/\X.okL (c.enc y)
theorem ZAb.one{w:World}{x:X}{v:Value}(h:VX w (λb _=>b<w.heap.size) x v):ZAb w [x] [v]:=⟨rfl,λj y u h1 h2=>by
 cases j with
 |zero=>simp at h1 h2;subst h1;subst h2;exact h
 |succ j=>simp at h1⟩
variable {T:TypeId}
theorem Zeo(s:ByteArray):ZZ s.toList=s:=by
 apply ByteArray.ext;apply Array.ext';rw[ByteArray.toList_eq];simp[ZZ]
theorem ZHc(hT:P.underlying T=some .string)(hc:P.cellsOf T=1):ZKG P T ZA:=by
 refine⟨hc,λ{H} enc w fuel cs x h=> ?_⟩;obtain⟨s,rfl,_,h3⟩:=DataW.trod_string hT h;have h4:VX w (λb _=>b<w.heap.size) (.str s.toList) (.string (ZZ s.toList)):= .str _;rw[Zeo]at h4;refine⟨s.toList,ZAb.one h4,?_,trivial⟩;show s.toList.length<=maxLen;rw[ByteArray.toList_eq];simpa using h3
def ZPi(P:Program)(fuel:Nat)(T:TypeId){α:Type}(c:RC α):Prop:= ∀ {H:Type} (enc:TypeId×Value->H) (w:World) (cs:List Value) (x:DataW H×List MemPlace),DataW.trod enc P w 0 (λ_=>true) true fuel T cs=some x-> ∃y,ZAb w (c.enc y) cs/\X.okL (c.enc y)
theorem ZKG.at'{α:Type}{c:RC α}(h:ZKG P T c)(n:Nat):ZPi P n T c:=λenc w cs x hx=>h.2 enc w n cs x hx
theorem ZWt{α:Type}{c:RC α}{e:TypeId}{fuel:Nat}(hG:c.Good)(hT:P.underlying T=some (.slice e))(hce:P.cellsOf e=c.n)(he: ∀n,n<fuel->ZPi P n e c)(h0:0<c.n):ZPi P fuel T (rSl c):=by
 intro H enc w cs x h;rcases DataW.trod_slice hT h with⟨rfl,_⟩|⟨a,len,cap,elems,rest,n,hfuel,rfl,_,_,hl,hm,hlen,hel,hsp,_⟩
 .exact⟨[],ZAb.one (VX.nn .nils),⟨KE _,trivial⟩,trivial⟩
 .have key: ∀i,i<len-> ∃(y:α) (cs':List Value),ZAb w (c.enc y) cs'/\X.okL (c.enc y)/\ ∀j,j<c.n->w.cell? (a.add (i*c.n+j))=cs'[j]? :=by
   intro i hi;have h1:=hel i hi;rw[YC J0]at h1;obtain⟨cs',h2,h3⟩:=Zp h1;obtain⟨y,hy,hy2⟩:=he n J0 enc w cs' _ h3;obtain⟨_,hcl,hcc⟩:=World.cells?_some h2;rw[hce]at hcl hcc;refine⟨y,cs',hy,hy2,λj hj=> ?_⟩;rw[<-hcc j hj];congr 1;unfold Addr.add;by_cases h4:i*c.n=0<;>by_cases h5:j=0<;>simp[h4,h5,ZIU]
  have spot:0<cap->a.spot=none:=by
   intro hcap;have one: ∀(z:DataW H×List MemPlace),(w.cells? 0 (a.add (0*P.cellsOf e)) (P.cellsOf e)).bind (DataW.trod enc P w 0 (λ_=>true) true n e)=some z->a.spot=none:=by
    intro z hz;obtain⟨cs',h2,h3⟩:=Zp hz;obtain⟨_,hcl,hcc⟩:=World.cells?_some h2;rw[hce]at hcl hcc;have h5:=hcc 0 h0;rw[YC J0]at h5;have:=World.cell?_spot h5;simpa[Addr.add]using this
   by_cases hz:0<len
   .have h1:=hel 0 hz;rw[YC J0]at h1;exact one _ h1
   .obtain⟨r1,r2⟩:=hsp rfl;have h1:=r2 0 J0;rw[YC J0,show len+0=0 by omega]at h1;exact one _ h1
  classical
  by_cases hz:len=0
  .subst hz;refine⟨[],ZAb.one (.sl [] (some a) 0 cap 0 (λ_ _=>undef) rfl (KE _) hm (λr hr=>by cases hr) (λi j hi=>J0) (λh=>by cases h) (λhc ad had=> ?_) (λi j r x hr=>by simp at hr)),⟨KE _,trivial⟩,trivial⟩;cases had;exact spot hc
  .have hne:Nonempty α:=let⟨y,_⟩:=key 0 J0;⟨y⟩
   let f:Nat->α:=λi=>if hi:i<len then Classical.choose (key i hi)else Classical.choice hne
   have hsp0:=spot J0;obtain⟨b,off,sp⟩:=a;simp only at hsp0;subst hsp0
   let V':Nat->Nat->Value:=λi j=>if hi:i<len then(Classical.choose (ZWD (key i hi))).getD j undef else undef
   have hf: ∀i (hi:i<len),∃cs',ZAb w (c.enc (f i)) cs'/\X.okL (c.enc (f i))/\(∀j,j<c.n->w.cell? ⟨b,off+i*c.n+j,none⟩=cs'[j]?)/\ ∀j,V' i j=cs'.getD j undef:=by
    intro i hi;obtain⟨h1,h2,h3⟩:=ZWD (ZWD (key i hi));refine⟨_,by simpa only[f,dif_pos hi]using h1,by simpa only[f,dif_pos hi]using h2,λj hj=> ?_,λj=>by simp only[V',dif_pos hi]⟩;rw[<-h3 j hj];congr 1;rw[Yv];simp only[ZIU]
   have hgl:((List.range len).map f).length=len:=by simp
   have hgi: ∀(i:Nat) (r:J9),(rows c ((List.range len).map f))[i]? =some r->i<len/\r=c.enc (f i):=by
    intro i r hr;simp only[rows,YG,ξm]at hr;obtain⟨y,⟨k,hk,rfl⟩,rfl⟩:=hr;have hk1:=(Zb hk).1;simp only[List.length_range]at hk1;rw[ZPC hk1]at hk;cases hk;exact⟨hk1,rfl⟩
   refine⟨(List.range len).map f,ZAb.one (.sl _ (some ⟨b,off,none⟩) len cap c.n V' (by rw[Zh,hgl]) hl hm (λr hr=> ?_) (λi j hi hj=> ?_) (λh=>by cases h) (λ_ ad had=>by cases had;rfl) (λi j r x hr hx=> ?_)),⟨by rw[Zh,hgl];omega,X.okR_iff.2 (λr hr=> ?_)⟩,trivial⟩
   .obtain⟨y,_,rfl⟩:=YT.1 hr;exact hG.len _
   .obtain⟨cs',h1,h2,h3,h4⟩:=hf i hi;have hlc:cs'.length=c.n:=by rw[h1.1,hG.len]
    have h5:=h3 j hj;rw[YC J0]at h5;refine⟨b,off,rfl,World.block_lt_of_cell? _ _ h5,?_⟩;rw[h5,h4];simp[List.getD,hlc,hj]
   .obtain⟨hi,rfl⟩:=hgi i r hr;obtain⟨cs',h1,h2,h3,h4⟩:=hf i hi;have hj:=(Zb hx).1;have hlc:cs'.length=c.n:=by rw[h1.1,hG.len]
    rw[hG.len]at hj;rw[h4];have h5:cs'[j]? =some (cs'[j]' J0):=YC _;simp only[List.getD,h5,ξW];exact h1.2 j x _ hx h5
   .obtain⟨i,hi⟩:=ZE7.1 hr;obtain⟨hi2,rfl⟩:=hgi i r hi;obtain⟨cs',h1,h2,h3,h4⟩:=hf i hi2;exact h2
theorem ZNM{α:Type}{c:RC α}{e:TypeId}(hG:c.Good)(hT:P.underlying T=some (.slice e))(hc:P.cellsOf T=1)(he:ZKG P e c)(h0:0<c.n):ZKG P T (rSl c):=
 ⟨hc,λenc w fuel cs x h=>ZWt (fuel:=fuel) hG hT he.1 (λn _=>he.at' n) h0 enc w cs x h⟩
def ZBg(g:J8->J5)(args:J8):J5:=g (args.map D.na)
theorem ZM2{f:FuncId}{g:J8->J5}(h: ∀args r,g args=some (true,r)->ZC P f args r): ∀args r,ZBg g args=some (true,r)->ZC P f args r:=λ_ r hg=>ZC.na (h _ r hg)
def ZFe(g:J8->J7->Option (Bool×D×J7))(args:J8)(os:J7):Option (Bool×D×J7):=g (args.map D.nn) (os.map (Ob.mpb D.nn))
end
abbrev ZQ:=Jh ZA (Jh (rSl ZA) ZA0)
abbrev Ql:=Jh ZA (Jh (rSl ZQ) ZA0)
abbrev ZL9:=Jh (ZDq .i64) (Jh (ZDq .i64) (Jh Ql (Jh Ql (Jh ZA ZA0))))
abbrev ZX:=List UInt8×(List (List UInt8)×Unit)
abbrev KG:=List UInt8×(List ZX×Unit)
abbrev Zd7:=Int×(Int×(KG×(KG×(List UInt8×Unit))))
instance decAttr:DecidableEq ZX:=λa b=>decidable_of_iff (a.1=b.1/\a.2.1=b.2.1) ⟨λh=>ZCh h.1 (ZCh h.2 rfl),λh=>h▸⟨rfl,rfl⟩⟩
instance decEntry:DecidableEq KG:=λa b=>decidable_of_iff (a.1=b.1/\a.2.1=b.2.1) ⟨λh=>ZCh h.1 (ZCh h.2 rfl),λh=>h▸⟨rfl,rfl⟩⟩
instance decChange:DecidableEq Zd7:=λa b=>decidable_of_iff ((a.1=b.1/\a.2.1=b.2.1)/\(a.2.2.1=b.2.2.1/\a.2.2.2.1=b.2.2.2.1)/\a.2.2.2.2.1=b.2.2.2.2.1)
 ⟨λh=>ZCh h.1.1 (ZCh h.1.2 (ZCh h.2.1.1 (ZCh h.2.1.2 (ZCh h.2.2 rfl)))),λh=>h▸⟨⟨rfl,rfl⟩,⟨rfl,rfl⟩,rfl⟩⟩
theorem Zr:ZQ.Good:=Yx ZM (Yx (ZCf ZM) ZBa)
theorem ZAv:Ql.Good:=Yx ZM (Yx (ZCf Zr) ZBa)
theorem ZKd:ZL9.Good:=Yx (ZBd _) (Yx (ZBd _) (Yx ZAv (Yx ZAv (Yx ZM ZBa))))
theorem ZVI(l:List (List UInt8)):ZV ZA (rows ZA l)=some l:=Zf ZM l
theorem ZU5(k:IntKind)(l:List Int):ZV (ZDq k) (rows (ZDq k) l)=some l:=Zf (ZBd k) l
theorem ZTN(l):ZV ZQ (rows ZQ l)=some l:=Zf Zr l
theorem ZQw(l):ZV Ql (rows Ql l)=some l:=Zf ZAv l
theorem ZOS(l):ZV ZL9 (rows ZL9 l)=some l:=Zf ZKd l
theorem ZJW(l):((rows ZA l).all λr=>decide (r.length=1))=true:=ZHO ZM l 1 rfl
theorem ZJ3(k)(l):((rows (ZDq k) l).all λr=>decide (r.length=1))=true:=ZHO (ZBd k) l 1 rfl
theorem ZHz(l):((rows ZQ l).all λr=>decide (r.length=2))=true:=ZHO Zr l 2 rfl
theorem ZGP(l):((rows Ql l).all λr=>decide (r.length=2))=true:=ZHO ZAv l 2 rfl
theorem ZFY(l):((rows ZL9 l).all λr=>decide (r.length=7))=true:=ZHO ZKd l 7 rfl
section
variable {P:Program} {T:TypeId} {w:World}
theorem ZAb.append{xs ys:J9}{cs ds:List Value}(h:ZAb w xs cs)(k:ZAb w ys ds):ZAb w (xs++ys) (cs++ds):=by
 refine⟨by simp[h.1,k.1],λj x v hx hv=> ?_⟩;by_cases hj:j<xs.length
 .rw[Ym hj]at hx;rw[Ym (by rw[h.1];exact hj)]at hv;exact h.2 j x v hx hv
 .rw[Qe J0]at hx;rw[Qe (by rw[h.1];omega),h.1]at hv;exact k.2 _ x v hx hv
theorem ZAb.nil:ZAb w [] []:=⟨rfl,λj x v h=>by simp at h⟩
inductive FieldsO (P:Program):List Field->Nat-> {α:Type}->RC α->Prop
 |nil (off:Nat):FieldsO P [] off ZA0
 |cons {f:Field} {fs:List Field} {off:Nat} {α β:Type} {c:RC α} {d:RC β} (ho:f.offset=off) (hE:ZKG P f.type c) (hF:FieldsO P fs (off+c.n) d):FieldsO P (f::fs) off (Jh c d)
theorem ZRU{fs:List Field}{off:Nat}{α:Type}{c:RC α}(hf:FieldsO P fs off c){H:Type}(enc:TypeId×Value->H)(w:World)(fuel:Nat)(cs:List Value)
  (h: ∀f∈fs,∃x,DataW.trod enc P w 0 (λ_=>true) true fuel f.type ((cs.drop f.offset).take (P.cellsOf f.type))=some x):
  ∃y,ZAb w (c.enc y) ((cs.drop off).take c.n)/\X.okL (c.enc y):=by
 induction hf with
 |nil off=>exact⟨(),by simpa[ZA0]using ZAb.nil,trivial⟩
 | @cons f fs off α β c d ho hE hF ih=>
  obtain⟨y,hy,hy2⟩:=ih (λg hg=>h g (ZBB _ hg));obtain⟨x,hx⟩:=h f ZCa;obtain⟨z,hz,hz2⟩:=hE.2 enc w fuel _ _ hx;rw[hE.1,ho]at hz;refine⟨(z,y),?_,X.okL_append.2 ⟨hz2,hy2⟩⟩;show ZAb w (c.enc z++d.enc y) ((cs.drop off).take (c.n+d.n));rw[List.take_add,ZM4];exact hz.append hy
theorem ZLX{α:Type}{c:RC α}{fs:Array Field}(hT:P.underlying T=some (.struct fs))(hc:P.cellsOf T=c.n)(hf:FieldsO P fs.toList 0 c):ZKG P T c:=by
 refine⟨hc,λ{H} enc w fuel cs x h=> ?_⟩;obtain⟨xs,n,rfl,_,hl,hxl,hx⟩:=DataW.trod_struct hT h;obtain⟨y,hy⟩:=ZRU hf enc w n cs (λf hf=>by
  obtain⟨i,hi⟩:=ZE7.1 hf;have hi':fs[i]? =some f:=by simpa using hi
  have h1:=hx i f hi';have hlt:i<xs.length:=by rw[hxl];exact(ξH hi').1
  rw[YC hlt]at h1;exact⟨_,h1⟩)
 refine⟨y,?_⟩;rw[ZBy,YX J0]at hy;exact hy
inductive VF (E:Env) (os:J7):J8->List Value->Prop
 |nil:VF E os [] []
 |cons {d:D} {v:Value} {ds:J8} {l:List Value} (h:V E os d v) (t:VF E os ds l):VF E os (d::ds) (v::l)
theorem VL.mk{E:Env}{os:J7}: ∀ {ds:J8} {l:List Value},VF E os ds l->VL E os ds l.toArray
 |_,_,.nil=>⟨rfl,λj d v h=>by simp at h⟩
 |_,_,.cons (d:=d) (v:=v) (ds:=ds) (l:=l) h t=>by
  have ih:=VL.mk t;refine⟨by have:=ih.1;simp at this|-;exact this,λj d' v' hd hv=> ?_⟩;cases j with
  |zero=>simp at hd hv;subst hd;subst hv;exact h
  |succ j=>exact ih.2 j d' v' (by simpa using hd) (by simpa using hv)
abbrev Zha(w:World):Env:=⟨w,λb _=>b<w.heap.size,[]⟩
theorem V.lies1{x:X}{v:Value}(h:ZAb w [x] [v]):V (Zha w) [] (.x x) v:= .x (h.2 0 x v rfl rfl)
theorem ZC.law{f:FuncId}{args:J8}(h:ZC P f args (.x (.bool true))){vs:List Value}(hvl:VF (Zha w) [] args vs):Calls P f vs.toArray w λe w'=>e= .returned (.bool true)/\Qd w w':=by
 refine(h w (λb _=>b<w.heap.size) vs.toArray (λ_ _ hb=>hb) (VL.mk hvl)).mono ?_;rintro e w' ⟨v,st',rfl,hk,_,_,hv⟩;rw[V.bool hv];exact⟨rfl,hk.os,hk.tape,hk.output,hk.size,λk hb=>hk.block k hb (λh=>h)⟩
end
def YE(S:Tabs):Bool->J4->J7->List IOp->Option (Bool×List (Nat×D)×J7)
 |b,φ,os,[]=>some (b,φ,os)
 |b,φ,os,o::l=>match JU S φ os o with
  |some r=>YE S (b&&r.1) r.2.1 r.2.2 l
  |none=>none
theorem ZGH(S:Tabs): ∀(l:List IOp) (b:Bool) (φ:J4) (os:J7),YE S b φ os l=(ZBE S φ os l).map λq=>(b&&q.1,q.2)
 | [],b,φ,os=>by simp[YE,ZBE]
 |o::l,b,φ,os=>by
  simp only[YE,ZBE];cases JU S φ os o with
  |none=>rfl
  |some r=>
   simp only[ZAC,ZGH S l];cases ZBE S r.2.1 r.2.2 l with
   |none=>rfl
   |some q=>simp[ZLe]
def YU(S:Tabs)(os0:J7)(k:Nat)(rs:W0):Nat->Bool->J4->Nat->J7->J7->Option J7->List IOp->Option (Bool×List (Nat×D)×J7)
 |_,b,φ,_,_,C,last,[]=>some (b,φ,last.getD (os0++C))
 |i,b,φ,id,os,C,last,o::l=>
  if o.e.frame then match JF S φ [] o with
   |some r=>YU S os0 k rs (i+1) (b&&r.1) (putO φ o.dst r.2) id os C last l
   |none=>none
  else if Zq i rs then match JF S φ os0 o with
   |some r=>YU S os0 k rs (i+1) (b&&r.1) (putO φ o.dst r.2) id os C last l
   |none=>none
  else if i<k then match JF S φ os0 o with
   |some r=>YU S os0 k rs (i+1) (b&&r.1) (putO φ o.dst r.2) id os C last l
   |none=>match ZGF φ os o with
    |some r=>YU S os0 k rs (i+1) (b&&r.1) (putO φ o.dst r.2) id os C last l
    |none=>match evK S φ os0 id o with
     |some r=>YU S os0 k rs (i+1) (b&&r.1) (putO φ o.dst r.2.1) (id+1) (os++ [r.2.2]) (C++ [r.2.2]) last l
     |none=>none
  else match Qn S φ os o with
   |some r=>YU S os0 k rs (i+1) (b&&(r.1&&(match rs with| []=>true|_=>Ky os0 r.2.2))) (putO φ o.dst r.2.1) id r.2.2 C (some r.2.2) l
   |none=>none
theorem ZFb(rs:W0)(os0:J7)(G):ZMw rs os0 (none::G)=ZMw rs os0 G:=by cases rs<;>rfl
theorem ZYy(rs:W0)(os0:J7)(x:J7)(G):ZMw rs os0 (some x::G)=((match rs with| []=>true|_=>Ky os0 x)&&ZMw rs os0 G):=by cases rs<;>rfl
theorem JY(G:List (Option J7))(i:Nat)(b:J7):Zz (none::G) (λ_=>true) i b=Zz G (λ_=>true) 0 b:=by
 simp only[Zz];exact Kh _ _ _ _ _ (λ_ _ _=>rfl)|>.trans (by
  have: ∀(G:List (Option J7)) (i j:Nat) (b:J7),Zz G (λ_=>true) i b=Zz G (λ_=>true) j b:=by
   intro G
   induction G with
   |nil=>intro i j b;rfl
   |cons x G ih=>intro i j b;cases x<;>simp only[Zz]<;>exact ih _ _ _
  exact this _ _ _ _)
theorem ZHm(G:List (Option J7))(i:Nat)(b x:J7):Zz (some x::G) (λ_=>true) i b=Zz G (λ_=>true) 0 x:=by
 have: ∀(G:List (Option J7)) (i j:Nat) (b:J7),Zz G (λ_=>true) i b=Zz G (λ_=>true) j b:=by
  intro G
  induction G with
  |nil=>intro i j b;rfl
  |cons x G ih=>intro i j b;cases x<;>simp only[Zz]<;>exact ih _ _ _
 simp only[Zz,if_true];exact this _ _ _ _
theorem ZDx(S:Tabs)(os0:J7)(k:Nat)(rs:W0): ∀(l:List IOp) (i:Nat) (b:Bool) (φ:J4) (id:Nat) (os C:J7) (last:Option J7),
  YU S os0 k rs i b φ id os C last l=(KW S os0 k rs i φ id os l).map λq=>(b&&(q.1&&ZMw rs os0 q.2.2),Yq φ q.2.1,Zz q.2.2 (λ_=>true) 0 (last.getD (os0++C++YK q.2.1)))
 | [],i,b,φ,id,os,C,last=>by
  have:ZMw rs os0 []=true:=by cases rs<;>rfl
  simp[YU,KW,Yq,YK,Zz,this]
 |o::l,i,b,φ,id,os,C,last=>by
  simp only[YU,KW];split
  .cases JF S φ [] o with
   |none=>rfl
   |some r=>
    simp only[ZAC,ZDx S os0 k rs l];cases KW S os0 k rs (i+1) (putO φ o.dst r.2) id os l with
    |none=>rfl
    |some q=>simp only[Yl,ZLe,Yq,YK,ZFb,JY]
  .split
   .cases JF S φ os0 o with
    |none=>rfl
    |some r=>
     simp only[ZAC,ZDx S os0 k rs l];cases KW S os0 k rs (i+1) (putO φ o.dst r.2) id os l with
     |none=>rfl
     |some q=>simp only[Yl,ZLe,Yq,YK,ZFb,JY]
   .split
    .cases JF S φ os0 o with
     |some r=>
      simp only[ZDx S os0 k rs l];cases KW S os0 k rs (i+1) (putO φ o.dst r.2) id os l with
      |none=>rfl
      |some q=>simp only[Yl,ZLe,Yq,YK,ZFb,JY]
     |none=>
      cases ZGF φ os o with
      |some r=>
       simp only[ZDx S os0 k rs l];cases KW S os0 k rs (i+1) (putO φ o.dst r.2) id os l with
       |none=>rfl
       |some q=>simp only[Yl,ZLe,Yq,YK,ZFb,JY]
      |none=>
       cases evK S φ os0 id o with
       |none=>rfl
       |some r=>
        simp only[ZAC,ZDx S os0 k rs l];cases KW S os0 k rs (i+1) (putO φ o.dst r.2.1) (id+1) (os++ [r.2.2]) l with
        |none=>rfl
        |some q=>simp only[Yl,ZLe,Yq,YK,ZFb,JY,Yp,Qi,ZAy]
    .cases Qn S φ os o with
     |none=>rfl
     |some r=>
      simp only[ZAC,ZDx S os0 k rs l];cases KW S os0 k rs (i+1) (putO φ o.dst r.2.1) id r.2.2 l with
      |none=>rfl
      |some q=>simp only[Yl,ZLe,Yq,YK,ZYy,ZHm,ξW];congr 1;simp only[Za,and_true];ac_rfl
section
variable {P:Program} {c:Ctx} {E0:Env} {os0 os:J7} {n:Nat} {Q:Exit->J4->J7->Prop} {φ:J4}
theorem WI.regA{S:Tabs}(hS:SsOk P S)(ks:W0){l:List IOp}(h: ∀K:J4->J7->Prop,(∀φ' os',Q .normal φ' os'->K φ' os')->YY (YE S true φ os l) (λφ' os'=>K (Go.Ab.keep ks φ') os')):WI P c E0 os0 n (.reg l) Q φ os:=
 WI.regK hS ks (λK hK=>by
  have:=h K hK;rw[ZGH]at this;obtain⟨ok,φ',os',h1,h2,h3⟩:=this;obtain⟨⟨ok2,q⟩,h4,h5⟩:=Zd h1;simp at h5;obtain⟨rfl,rfl⟩:=h5;exact⟨_,_,_,h4,h2,h3⟩)
theorem WI.dregA{S:Tabs}(hS:SsOk P S)(ks:W0){k k2:Nat}{rs rs2:W0}{l:List IOp}(h: ∀K:J4->J7->Prop,(∀φ' os',Q .normal φ' os'->K φ' os')->YY (YU S os k rs 0 true φ os.length os [] none l) (λφ' os'=>K (Go.Ab.keep ks φ') os')):WI P c E0 os0 n (.dreg k rs k2 rs2 l) Q φ os:=by
 have:=h _ (λ_ _ h=>h);rw[ZDx]at this;obtain⟨ok,φ',os',h1,h2,h3⟩:=this;obtain⟨q,h4,h5⟩:=Zd h1;simp at h5;obtain⟨h5,rfl,rfl⟩:=h5;exact WI.dreg' (m:=none) hS (.inl (by simp only[ZHj,ZOl,h4,Yl])) (h5.trans h2) h3 (λ_ _ f=>f.keep ks)
end
theorem ZQC(φ:J4): ∀(ts:W0) (t:Nat),get (ts.map λu=>(u,get φ u)) t=get φ t\/get (ts.map λu=>(u,get φ u)) t= .und
 | [],t=> .inr rfl
 |u::ts,t=>by
  simp only[YO,get];split
  .rename_i h;subst h;exact .inl rfl
  .exact ZQC φ ts t
theorem WI.order{P:Program}{c:Ctx}{E0:Env}{os0 os:J7}{n:Nat}{Q:Exit->J4->J7->Prop}{φ:J4}{ic:IC}(ts:W0)(h:WI P c E0 os0 n ic Q (ts.map λu=>(u,get φ u)) os):WI P c E0 os0 n ic Q φ os:=
 WI.weak (λE _ R hf=>⟨E,rfl,R,hf.size,hf.defers,λt=>by
  rcases ZQC φ ts t with h|h
  .rw[h];exact hf.slot t
  .rw[h];exact .und _⟩) h
mutual
theorem X.beq_refl: ∀x:X,X.beq x x=true
 | .int k n=>by simp[X.beq]
 | .bool a=>by simp[X.beq]
 | .str s=>by simp[X.beq]
 | .nilp=>rfl
 | .nils=>rfl
 | .sl a=>by simp only[X.beq];exact X.beqR_refl a
theorem X.beqR_refl: ∀a:J6,X.beqR a a=true
 | []=>rfl
 |r::l=>by simp only[X.beqR,ZT];exact⟨X.beqL_refl r,X.beqR_refl l⟩
theorem X.beqL_refl: ∀a:J9,X.beqL a a=true
 | []=>rfl
 |x::l=>by simp only[X.beqL,ZT];exact⟨X.beq_refl x,X.beqL_refl l⟩
end
mutual
theorem D.beq_refl: ∀d:D,D.beq d d=true
 | .x a=>by simp only[D.beq];exact X.beq_refl a
 | .ref a b c d=>by simp[D.beq]
 | .ptr a b=>by simp[D.beq]
 | .eptr a b c d=>by simp[D.beq]
 | .vptr a=>by simp only[D.beq];exact X.beqL_refl a
 | .mref a=>by simp[D.beq]
 | .mnil=>rfl
 | .iref a b=>by simp[D.beq]
 | .stk a b=>by simp[D.beq]
 | .bref a b c=>by simp[D.beq]
 | .agg a=>by simp only[D.beq];exact D.beqL_refl a
 | .tup a=>by simp only[D.beq];exact D.beqL_refl a
 | .full a=>by simp only[D.beq];exact X.beqR_refl a
 | .nz a=>by simp only[D.beq];exact X.beqR_refl a
 | .fn f a=>by simp only[D.beq,ZT];exact⟨J1,D.beqL_refl a⟩
 | .opt a d=>by simp only[D.beq,ZT];exact⟨J1,D.beq_refl d⟩
 | .und=>rfl
theorem D.beqL_refl: ∀a:J8,D.beqL a a=true
 | []=>rfl
 |e::l=>by simp only[D.beqL,ZT];exact⟨D.beq_refl e,D.beqL_refl l⟩
end
theorem beqR_refl: ∀a:List J8,beqR a a=true
 | []=>rfl
 |r::l=>by simp only[beqR,ZT];exact⟨D.beqL_refl r,beqR_refl l⟩
theorem ZQF(p:Pr):ZPf p p=true:=by simp only[ZPf,ZT];exact⟨X.beqL_refl p.1,D.beqL_refl p.2⟩
theorem ZEC: ∀a:W2,ZGl a a=true
 | []=>rfl
 |p::l=>by simp only[ZGl,ZT];exact⟨ZQF p,ZEC l⟩
theorem ZWz: ∀a:Option Pr,ZdU a a=true
 |none=>rfl
 |some p=>ZQF p
theorem ZNy: ∀a:List W2,ZJg a a=true
 | []=>rfl
 |p::l=>by simp only[ZJg,ZT];exact⟨ZEC p,ZNy l⟩
theorem ZQt: ∀a:List (X×J6),ZMu a a=true
 | []=>rfl
 |p::l=>by simp only[ZMu,ZT];exact⟨X.beq_refl p.1,X.beqR_refl p.2,ZQt l⟩
theorem Ob.beq_refl(o:Ob):Ob.beq o o=true:=by
 cases o with
 |box ds=>simp only[Ob.beq];exact D.beqL_refl ds
 |rows f e s rs=>simp only[Ob.beq,ZT];exact⟨J1,ZFL e,ZFL s,X.beqR_refl rs⟩
 |drw e s rs=>simp only[Ob.beq,ZT];exact⟨ZFL e,ZFL s,beqR_refl rs⟩
 |frz s rs=>simp only[Ob.beq,ZT];exact⟨ZFL s,X.beqR_refl rs⟩
 |mpo dk ag l=>simp only[Ob.beq,ZT];exact⟨J1,J1,ZEC l⟩
 |mit dk ag l it R cur=>simp only[Ob.beq,ZT];exact⟨J1,J1,ZEC l,ZFL it,ZEC R,ZWz cur⟩
 |mpn dk ag l key sid=>simp only[Ob.beq,ZT];exact⟨J1,J1,ZEC l,X.beqL_refl key,ZFL sid⟩
 |itr=>rfl
 |stp=>rfl
 |nit=>rfl
 |sit s pos=>simp only[Ob.beq,ZT];exact⟨J1,ZFL pos⟩
 |old s n=>simp only[Ob.beq,ZT];exact⟨ZFL s,ZFL n⟩
 |fam k P B=>simp only[Ob.beq,ZT];exact⟨ZFL k,ZNy P,ZQt B⟩
 |dead=>rfl
def ZBN(φ:J4):Option IO->Option D
 |none=>none
 |some l=>some (ZF φ l)
def Qb(dx:D)(lo hi mx:Option D):J5:=
 match dx.val with
 | .x (.str s)=>match lo,hi,mx with
  |none,none,none=>some (dx.cond,.x (.str s))
  |some l,none,none=>(ZE l.val).map λ(n:Int)=>(dx.cond&&(l.cond&&(decide (0<=n)&&decide (n<=s.length))),.x (.str (s.drop n.toNat)))
  |none,some h,none=>(ZE h.val).map λ(m:Int)=>(dx.cond&&(h.cond&&(decide (0<=m)&&decide (m<=s.length))),.x (.str (s.take m.toNat)))
  |some l,some h,none=>(ZE l.val).bind λ(n:Int)=>(ZE h.val).map λ(m:Int)=>(dx.cond&&((l.cond&&h.cond)&&(decide (0<=n)&&(decide (n<=m)&&decide (m<=s.length)))),.x (.str ((s.take m.toNat).drop n.toNat)))
  |_,_,_=>none
 |_=>none
def ZAR(os:J7)(sz:Nat)(dx:D)(lo hi mx:Option D):J5:=
 match dx.val with
 | .x .nils=>(QB (lo)).bind λp=>(QB (hi)).bind λq=>(QB (mx)).map λr=>(dx.cond&&((mx.isNone||hi.isSome)&&(p&&(q&&r))),.x .nils)
 | .x (.sl rs)=>match lo,hi,mx with
  |none,none,none=>some (dx.cond,.x (.sl rs))
  |some l,none,none=>(ZE l.val).map λ(n:Int)=>(dx.cond&&(l.cond&&(decide (0<=n)&&(decide (n<=rs.length)&&rs.all λr=>decide (r.length=sz)))),.x (.sl (rs.drop n.toNat)))
  |none,some h,none=>(ZE h.val).map λ(m:Int)=>(dx.cond&&(h.cond&&(decide (0<=m)&&(decide (m<=rs.length)&&rs.all λr=>decide (r.length=sz)))),.x (.sl (rs.take m.toNat)))
  |some l,some h,none=>(ZE l.val).bind λ(n:Int)=>(ZE h.val).map λ(m:Int)=>(dx.cond&&((l.cond&&h.cond)&&(decide (0<=n)&&(decide (n<=m)&&(decide (m<=rs.length)&&rs.all λr=>decide (r.length=sz))))),.x (.sl ((rs.take m.toNat).drop n.toNat)))
  |l,some h,some mi=>(QB l).bind λz=>(ZE h.val).bind λ(n:Int)=>(ZE mi.val).map λ(m:Int)=>(dx.cond&&(z&&(h.cond&&(mi.cond&&(decide (0<=n)&&(decide (n<=rs.length)&&(decide (n=m)&&rs.all λr=>decide (r.length=sz))))))),.full (rs.take n.toNat))
  |_,_,_=>none
 | .ref id ext off len=>match os[id]? with
  |some o=>match o.slice? with
   |some (sz',rs)=>match lo,hi,mx with
    |some l,none,none=>(ZE l.val).map λ(n:Int)=>(dx.cond&&(l.cond&&(decide (sz'=sz)&&(decide (rs.length=ext)&&(decide (0<=n)&&decide (n<=len))))),.ref id ext (off+n.toNat) (len-n.toNat))
    |none,some h,none=>(ZE h.val).map λ(m:Int)=>(dx.cond&&(h.cond&&(decide (sz'=sz)&&(decide (rs.length=ext)&&(decide (0<=m)&&decide (m<=len))))),.ref id ext off m.toNat)
    |some l,some h,none=>(ZE l.val).bind λ(n:Int)=>(ZE h.val).map λ(m:Int)=>(dx.cond&&((l.cond&&h.cond)&&(decide (sz'=sz)&&(decide (rs.length=ext)&&(decide (0<=n)&&(decide (n<=m)&&decide (m<=len)))))),.ref id ext (off+n.toNat) (m.toNat-n.toNat))
    |_,_,_=>none
   |none=>none
  |none=>none
 |_=>none
theorem ZHl(φ:J4)(x:IO)(lo hi mx:Option IO):ZIl φ x lo hi mx=Qb (ZF φ x) (ZBN φ lo) (ZBN φ hi) (ZBN φ mx):=by
 cases lo<;>cases hi<;>cases mx<;>rfl
theorem ZJe(φ:J4)(os:J7)(sz:Nat)(x:IO)(lo hi mx:Option IO):ZKL φ os sz x lo hi mx=ZAR os sz (ZF φ x) (ZBN φ lo) (ZBN φ hi) (ZBN φ mx):=by
 cases lo<;>cases hi<;>cases mx<;>rfl
def ZCL(φ:J4):List IO->J8
 | []=> []
 |y::ys=>(ZF φ y).val::ZCL φ ys
def ZAp(φ:J4):List IO->Bool
 | []=>true
 |y::ys=>(ZF φ y).cond&&ZAp φ ys
theorem ZHg(φ:J4): ∀l,(l.map λy=>(ZF φ y).val)=ZCL φ l
 | []=>rfl
 |y::ys=>by simp[ZCL,ZHg φ ys]
theorem ZGR(φ:J4): ∀l:List IO,(l.all λy=>(ZF φ y).cond)=ZAp φ l
 | []=>rfl
 |y::ys=>by simp[ZAp,ZGR φ ys]
def ZDb(T:FuncId->J8->J7->Option (Bool×D×J7))(df:D)(vs:J8)(cs:Bool)(os:J7):Option (Bool×D×J7):=match df.val with
 | .fn g caps=>(T g (vs++caps) os).map λr=>(df.cond&&(cs&&r.1),r.2)
 |_=>none
def ZDc(T:FuncId->J8->J7->J5)(df:D)(vs:J8)(cs:Bool)(os:J7):J5:=match df.val with
 | .fn g caps=>(T g (vs++caps) os).map λr=>(df.cond&&(cs&&r.1),r.2)
 |_=>none
def ZDY(T:FuncId->J8->J7->Option (Bool×(Nat->D)×Ob))(df:D)(vs:J8)(cs:Bool)(os:J7)(id:Nat):Option (Bool×D×Ob):=match df.val with
 | .fn g caps=>(T g (vs++caps) os).map λr=>(df.cond&&(cs&&r.1),r.2.1 id,r.2.2)
 |_=>none
theorem ZSP(T:FuncId->J8->J7->Option (Bool×D×J7))(φ:J4)(os:J7)(e:IE):ZH2 T φ os e=match e with
  | .call f xs=>ZDb T (ZF φ f) (ZCL φ xs) (ZAp φ xs) os
  |_=>none:=by
 cases e<;>first|rfl|skip
 simp only[ZH2,ZHg,ZGR,ZDb];generalize(ZF φ _).val=u;cases u<;>rfl
theorem ZTk(T:FuncId->J8->J7->J5)(φ:J4)(os:J7)(e:IE):ZCJ T φ os e=match e with
  | .call f xs=>ZDc T (ZF φ f) (ZCL φ xs) (ZAp φ xs) os
  |_=>none:=by
 cases e<;>first|rfl|skip
 simp only[ZCJ,ZHg,ZGR,ZDc];generalize(ZF φ _).val=u;cases u<;>rfl
theorem ZSh(T:FuncId->J8->J7->Option (Bool×(Nat->D)×Ob))(φ:J4)(os:J7)(id:Nat)(e:IE):ZFa T φ os id e=match e with
  | .call f xs=>ZDY T (ZF φ f) (ZCL φ xs) (ZAp φ xs) os id
  |_=>none:=by
 cases e<;>first|rfl|skip
 simp only[ZFa,ZHg,ZGR,ZDY];generalize(ZF φ _).val=u;cases u<;>rfl
section
variable {S:Tabs} {os0 os C:J7} {k i id:Nat} {rs:W0} {φ φ':J4} {os':J7} {last:Option J7} {o:IOp} {l:List IOp} {ok:Bool} {d:D} {ob:Ob} {K:J4->J7->Prop}
theorem ZOL(s:List UInt8):(s.map Zl).take s.length=s.map Zl:=YX J1
theorem ZSd(l:List (List UInt8))(w:List UInt8):rows ZA l++ [[X.str w]]=rows ZA (l++ [w]):=ZBq ZA l [w]
theorem ZP1(s:List UInt8)(i:Nat)(h:i<s.length):(s.map Zl)[i]? =some [X.int .u8 (s[i].toNat:Int)]:=by simp[Zl,h]
theorem ZQB(s:List UInt8):(s.map Zl).length=s.length:=Yb ..
theorem Kw(s:List UInt8):(s.map Zl).map ZE3=s:=by
 rw[Js]
 conv=>rhs;rw[<-ZO0 s]
 refine ZBF (λb _=> ?_);simp[ZE3,Zl]
theorem Ys(s:List UInt8):((s.map Zl).all ZFf)=true:=by
 rw[Yc];intro r hr;obtain⟨b,_,rfl⟩:=YT.1 hr;rfl
theorem ZaP{α:Type}(c:RC α):ZV c []=some []:=rfl
theorem ZOR(n:Nat):Nat.beq n n=true:=ZFL n
theorem ZOF(m n:Nat)(h:m≠n):Nat.beq m n=false:=by
 cases hb:Nat.beq m n with
 |false=>rfl
 |true=>exact absurd (Zb9 hb) h
theorem ZX0(b:Bool):(b||b==false)=true:=by cases b<;>rfl
theorem ZUc(dk:KK)(ag:Bool)(l:W2):(Ob.mpo dk ag l).map? =some (dk,ag,l):=rfl
theorem ZVA(dk:KK)(ag:Bool)(l:W2)(it:Nat)(R:W2)(cur:Option Pr):(Ob.mit dk ag l it R cur).map? =some (dk,ag,l):=rfl
theorem ZU0(dk:KK)(ag:Bool)(l:W2)(key:J9)(sid:Nat):(Ob.mpn dk ag l key sid).map? =some (dk,ag,l):=rfl
theorem ZUD(dk:KK)(ag:Bool)(l:W2):(Ob.mpo dk ag l).upd? =some (dk,ag,l):=rfl
theorem ZUS(dk:KK)(ag:Bool)(l:W2)(key:J9)(sid:Nat):(Ob.mpn dk ag l key sid).upd? =some (dk,ag,l):=rfl
theorem ZUt(k:IntKind)(n:Int):Kz (.int k) (.x (.int k n))=some [.int k n]:=by simp[Kz]
theorem ZUz(s:List UInt8):Kz .str (.x (.str s))=some [.str s]:=rfl
theorem ZSL(k:IntKind)(n:Int):keyD (.int k) [.int k n]= .x (.int k n):=rfl
theorem ZSl(s:List UInt8):keyD .str [.str s]= .x (.str s):=rfl
theorem ZR3(d:D):ZGG false [d]=d:=rfl
theorem ZUv(ds:J8):ZGG true ds= .agg ds:=rfl
theorem ZhP(y:X):agD (.x y)=false:=rfl
theorem ZWy(ds:J8):agD (.agg ds)=true:=rfl
theorem ZXx(a b c d:Nat):agD (.ref a b c d)=false:=rfl
theorem ZX6(a b:Nat):agD (.ptr a b)=false:=rfl
theorem ZVL(a:Nat):agD (.mref a)=false:=rfl
theorem Zhm(k:KK):(k=k)=True:=eq_self k
theorem ZhK(b:Bool):(b=b)=True:=eq_self b
theorem ZhL(b:Nat):(b=b)=True:=eq_self b
theorem ZS5(k:J9):JX [] k=none:=rfl
def ZgX(N it:Nat)(_:J4)(os:J7):Nat:=match os[it]? with|some (.sit _ p)=>N-p|_=>0
def ZgO(mid:Nat)(_:J4)(os:J7):Nat:=match os[mid]? with|some (.mit _ _ _ _ R _)=>R.length|_=>0
theorem osN(h:K φ os):YY (YE S true φ os []) K:=⟨true,φ,os,rfl,rfl,h⟩
theorem osS(he:JU S φ os o=some (ok,φ',os'))(hok:ok=true)(h:YY (YE S true φ' os' l) K):YY (YE S true φ os (o::l)) K:=by
 subst hok;simp only[YE,he,QS];exact h
theorem dsN(h:K φ (last.getD (os0++C))):YY (YU S os0 k rs i true φ id os C last []) K:=⟨true,φ,_,rfl,rfl,h⟩
theorem dsF(hf:o.e.frame=true)(he:(JF S φ [] o).map (λr=>(r.1,putO φ o.dst r.2))=some (ok,φ'))(hok:ok=true)(h:YY (YU S os0 k rs (i+1) true φ' id os C last l) K):YY (YU S os0 k rs i true φ id os C last (o::l)) K:=by
 subst hok;obtain⟨r,h1,h2⟩:=Zd he;simp only[Za]at h2;obtain⟨h2,rfl⟩:=h2;simp only[YU,hf,if_true,h1,h2,QS];exact h
theorem dsQ(hf:o.e.frame=false)(hm:Zq i rs=false)(hk:Nat.ble (i+1) k=true)(he:(JF S φ os0 o).map (λr=>(r.1,putO φ o.dst r.2))=some (ok,φ'))(hok:ok=true)(h:YY (YU S os0 k rs (i+1) true φ' id os C last l) K):YY (YU S os0 k rs i true φ id os C last (o::l)) K:=by
 subst hok;obtain⟨r,h1,h2⟩:=Zd he;simp only[Za]at h2;obtain⟨h2,rfl⟩:=h2;have hk':i<k:=ξ hk;simp only[YU,hf,hm,if_true,h1,h2,hk',QS,JP,if_false];exact h
theorem ZXY{S:Tabs}{φ:J4}{os0 os:J7}{id:Nat}{o:IOp}{r:Bool×D×Ob}(h:evK S φ os0 id o=some r):ZGF φ os o=none:=by
 obtain⟨dst,e,g⟩:=o;cases g with
 |some p=>rfl
 |none=>
  cases e with
  |b2s x=>simp[evK,evC,ZAK,ZFa]at h
  |_=>rfl
theorem dsK(hf:o.e.frame=false)(hm:Zq i rs=false)(hk:Nat.ble (i+1) k=true)(hn:JF S φ os0 o=none)(he:(evK S φ os0 id o).map (λr=>(r.1,putO φ o.dst r.2.1,r.2.2))=some (ok,φ',ob))(hok:ok=true)(h:YY (YU S os0 k rs (i+1) true φ' (id+1) (os++ [ob]) (C++ [ob]) last l) K):YY (YU S os0 k rs i true φ id os C last (o::l)) K:=by
 subst hok;obtain⟨r,h1,h2⟩:=Zd he;simp only[Za]at h2;obtain⟨h2,rfl,rfl⟩:=h2;have hk':i<k:=ξ hk;simp only[YU,hf,hm,if_true,hn,ZXY h1,h1,h2,hk',QS,JP,if_false];exact h
theorem dsA(hf:o.e.frame=false)(hm:Zq i rs=false)(hk:Nat.ble (i+1) k=false)(he:(Qn S φ os o).map (λr=>(r.1&&(match rs with| []=>true|_=>Ky os0 r.2.2),putO φ o.dst r.2.1,r.2.2))=some (ok,φ',os'))(hok:ok=true)(h:YY (YU S os0 k rs (i+1) true φ' id os' C (some os') l) K):YY (YU S os0 k rs i true φ id os C last (o::l)) K:=by
 subst hok;obtain⟨r,h1,h2⟩:=Zd he;simp only[Za]at h2;obtain⟨h2,rfl,rfl⟩:=h2;have hk': ¬i<k:=λh=>by have:=Nat.ble_eq_true_of_le h;rw[Nat.succ_eq_add_one,hk]at this;cases this
 simp only[YU,hf,hm,h1,h2,hk',ZBP,JP,if_false];exact h
end
section
variable {κ β:Type} (kc:κ->J9) (vc:β->J9)
def Yk(L:List (κ×β)):W2:=L.map λp=>(kc p.1,(vc p.2).map D.x)
theorem ZJ0(L:List (κ×β)):(Yk kc vc L).length=L.length:=by simp[Yk]
theorem Zet(L:List (κ×β))(i:Nat):(Yk kc vc L)[i]? =(L[i]?).map λp=>(kc p.1,(vc p.2).map D.x):=by simp[Yk]
theorem Zgj(f:Nat->Nat)(l:J9):Zy f (l.map D.x)=l.map D.x:=by
 rw[Kq,Js];rfl
theorem ZiZ(p:Nat->Bool)(l:J9):Yr p (l.map D.x)=true:=by
 rw[ZBC,Yc];intro d hd;obtain⟨x,_,rfl⟩:=YT.1 hd;rfl
theorem Zg5(l:J9):Jd (l.map D.x)= []:=by
 induction l with
 |nil=>rfl
 |cons x l ih=>simp only[YO,Jd,ZHB,ih];rfl
theorem ZjI(ρ:W0)(os:J7)(l:J9):(l.map D.x).map (onF ρ os)=l.map D.x:=by
 rw[Js];refine ZBF λx _=> ?_
 simp only[Function.comp,onF,D.vw,D.on,D.inP,if_true]
theorem ZAN(f:Nat->Nat)(L:List (κ×β)):(Yk kc vc L).map (JZ f)=Yk kc vc L:=by
 rw[Yk,Js];refine ZBF λp _=> ?_
 simp only[Function.comp,JZ,Zgj]
theorem ZCc(L:List (κ×β)):ZCw (Yk kc vc L)= []:=by
 induction L with
 |nil=>rfl
 |cons p L ih=>simp only[Yk,YO,ZCw,Zg5]at ih|-;exact ih
theorem Qr(p:Nat->Bool)(L:List (κ×β)):(Yk kc vc L).all (ZAT p)=true:=by
 rw[Yc];intro q hq;obtain⟨r,_,rfl⟩:=YT.1 hq;exact ZiZ p _
theorem ZFK(ρ:W0)(os:J7)(L:List (κ×β)):(Yk kc vc L).map (mpP (onF ρ os))=Yk kc vc L:=by
 rw[Yk,Js];refine ZBF λp _=> ?_
 simp only[Function.comp,mpP,ZjI]
theorem ZKA(L:List (κ×β))(i:Nat):(Yk kc vc L).eraseIdx i=Yk kc vc (L.eraseIdx i):=by
 induction L generalizing i with
 |nil=>rfl
 |cons p L ih=>cases i with
  |zero=>rfl
  |succ i=>simp only[Yk,YO,List.eraseIdx_cons_succ]at ih|-;rw[ih]
variable [DecidableEq κ] (hk: ∀a b:κ,ZDC (kc a) (kc b)=decide (a=b))
include hk
theorem ZEq(L:List (κ×β))(c:κ):JX (Yk kc vc L) (kc c)=(ZJ L c).map λv=>(vc v).map D.x:=by
 induction L with
 |nil=>rfl
 |cons p L ih=>
  simp only[Yk,YO,JX,hk]at ih|-;by_cases h:c=p.1
  .simp[ZJ,h]
  .simp only[h,decide_false,JP,if_false];rw[ih];simp[ZJ,h]
theorem ZD3(L:List (κ×β))(c:κ)(v:β):Yg (Yk kc vc L) (kc c) ((vc v).map D.x)=Yk kc vc (Zv L c v):=by
 induction L with
 |nil=>rfl
 |cons p L ih=>
  simp only[Yk,YO,Yg,hk,Zv]at ih|-;by_cases h:c=p.1
  .simp[h]
  .simp only[h,decide_false,JP,if_false];rw[ih];simp
end
def Jz{κ β:Type}(c:RC κ)(d:RC β):W2->Option (List (κ×β))
 | []=>some []
 |q::M=>(c.dec q.1).bind λa=>(ZEB q.2).bind λxs=>(d.dec xs).bind λb=>(Jz c d M).map λL=>(a,b)::L
theorem ZMH: ∀l:J9,ZEB (l.map D.x)=some l
 | []=>rfl
 |x::l=>by simp only[YO,ZEB,ZMH l,Yl]
theorem ZRQ{κ β:Type}{c:RC κ}{d:RC β}(hc:c.Good)(hd:d.Good): ∀L:List (κ×β),Jz c d (Yk c.enc d.enc L)=some L
 | []=>rfl
 |p::L=>by
  have ih:=ZRQ hc hd L;simp only[Yk,YO,Jz,hc.de,hd.de,ZMH,ZAC]at ih|-;rw[ih];rfl
theorem Ye{κ β:Type}{c:RC κ}{d:RC β}(hc:c.Good)(hd:d.Good): ∀ {M:W2} {L:List (κ×β)},Jz c d M=some L->M=Yk c.enc d.enc L
 | [],L,h=>by cases h;rfl
 |q::M,L,h=>by
  simp only[Jz]at h;obtain⟨a,h1,h⟩:=Zp h;obtain⟨xs,h2,h⟩:=Zp h;obtain⟨b,h3,h⟩:=Zp h;obtain⟨L',h4,rfl⟩:=Zd h;have e:=Ye hc hd h4;obtain⟨q1,q2⟩:=q;simp only at h1 h2;rw[e,ZIQ h2];rw[<-hc.ed _ _ h1,<-hd.ed _ _ h3];rfl
abbrev kcI(n:Int):J9:= [.int .i64 n]
abbrev Ka(s:List UInt8):J9:= [.str s]
theorem hkS(a b:List UInt8):ZDC (Ka a) (Ka b)=decide (a=b):=by
 simp only[Ka,ZDC,X.keq,QS];rw[Qj];simp
section
variable {κ β:Type} [DecidableEq κ]
def ZJO(L:List (κ×β)):Prop:=(L.map (·.1)).Nodup
theorem ZHy{A:List (κ×β)}(hn:ZJO A)(c:κ)(v:β):ZJ A c=some v↔(c,v)∈A:=by
 refine⟨Qm,λh=>ZBO hn h⟩
theorem ZVV{A B:List (κ×β)}(h:A.Perm B)(hn:ZJO A)(c:κ):ZJ A c=ZJ B c:=by
 have hn':ZJO B:=(h.map _).nodup_iff.1 hn;cases hA:ZJ A c with
 |some v=>exact((ZHy hn' c v).2 (h.mem_iff.1 ((ZHy hn c v).1 hA))).symm
 |none=>
  cases hB:ZJ B c with
  |none=>rfl
  |some v=>rw[(ZHy hn c v).2 (h.mem_iff.2 ((ZHy hn' c v).1 hB))]at hA;cases hA
theorem ZQk{A:List (κ×β)}{c:κ}{v:β}(h:ZJ A c=some v):A.Perm ((c,v)::YH A c):=by
 induction A with
 |nil=>simp[ZJ]at h
 |cons p A ih=>
  by_cases e:c=p.1
  .have:ZJ (p::A) c=some p.2:=by simp[ZJ,e]
   rw[this]at h;cases h;have hd:YH (p::A) c=A:=by simp[YH,e]
   rw[hd,e]
  .have hl:ZJ (p::A) c=ZJ A c:=by simp[ZJ,e]
   rw[hl]at h;have hd:YH (p::A) c=p::YH A c:=by simp[YH,e]
   rw[hd];exact((ih h).cons p).trans (List.Perm.swap _ _ _)
theorem ZQL{A:List (κ×β)}{c:κ}(h:ZJ A c=none):YH A c=A:=by
 induction A with
 |nil=>rfl
 |cons p A ih=>
  by_cases e:c=p.1
  .simp[ZJ,e]at h
  .have hl:ZJ (p::A) c=ZJ A c:=by simp[ZJ,e]
   rw[hl]at h;simp[YH,e,ih h]
theorem ZMV{A:List (κ×β)}(hn:ZJO A)(c:κ):YH A c=A.filter λp=>decide (p.1≠c):=by
 induction A with
 |nil=>rfl
 |cons p A ih=>
  unfold ZJO at hn ih;simp only[YO,ZBV]at hn;by_cases e:c=p.1
  .have hd:YH (p::A) c=A:=by simp[YH,e]
   rw[hd,ZIF,if_neg (by simp[e]),eq_comm,List.filter_eq_self];intro q hq;simp only[ne_eq,Zc];intro h2;exact hn.1 (YT.2 ⟨q,hq,by rw[h2,e]⟩)
  .have hd:YH (p::A) c=p::YH A c:=by simp[YH,e]
   rw[hd,ZIF,if_pos (by simp[Ne.symm e]),ih hn.2]
theorem ZBh{A:List (κ×β)}{c:κ}{w:β}(h:ZJ A c=none):Zv A c w=A++ [(c,w)]:=by
 induction A with
 |nil=>rfl
 |cons p A ih=>
  by_cases e:c=p.1
  .simp[ZJ,e]at h
  .have hl:ZJ (p::A) c=ZJ A c:=by simp[ZJ,e]
   rw[hl]at h;simp[Zv,e,ih h]
theorem Zbf{A:List (κ×β)}{c:κ}{v w:β}(h:ZJ A c=some v):(Zv A c w).Perm ((c,w)::YH A c):=by
 induction A with
 |nil=>simp[ZJ]at h
 |cons p A ih=>
  by_cases e:c=p.1
  .have h1:Zv (p::A) c w=(c,w)::A:=by simp[Zv,e]
   have h2:YH (p::A) c=A:=by simp[YH,e]
   rw[h1,h2]
  .have hl:ZJ (p::A) c=ZJ A c:=by simp[ZJ,e]
   rw[hl]at h;have h1:Zv (p::A) c w=p::Zv A c w:=by simp[Zv,e]
   have h2:YH (p::A) c=p::YH A c:=by simp[YH,e]
   rw[h1,h2];exact((ih h).cons p).trans (List.Perm.swap _ _ _)
theorem ZD9(A:List (κ×β))(c:κ)(w:β):(Zv A c w).Perm ((c,w)::YH A c):=by
 cases h:ZJ A c with
 |some v=>exact Zbf h
 |none=>rw[ZBh h,ZQL h];exact List.perm_append_singleton _ _
theorem ZYH{A B:List (κ×β)}(h:A.Perm B)(hn:ZJO A)(c:κ):(YH A c).Perm (YH B c):=by
 rw[ZMV hn,ZMV ((h.map _).nodup_iff.1 hn)];exact h.filter _
theorem ZdR{A:List (κ×β)}{c:κ}{v:β}(h:ZJ A c=some v):A.length=(YH A c).length+1:=by
 have:=(ZQk h).length_eq;simpa using this
theorem Zeh(A:List (κ×β))(c:κ):(YH A c).length<=A.length:=by
 cases h:ZJ A c with
 |none=>rw[ZQL h];exact Zm _
 |some v=>have:=ZdR h;omega
end
open Go Go.RowKit Go.Bo
theorem zC:type_of% @Yl.{0,0}/\type_of% @ZAC.{0,0}/\type_of% @QS/\type_of% @ZBP/\type_of% @JP:=
 ⟨@Yl.{0,0},@ZAC.{0,0},@QS,@ZBP,@JP⟩
theorem zG:type_of% @Bool.not_true/\type_of% @ZTG/\type_of% @ZNN/\type_of% @ZLW/\type_of% @ZFC/\type_of% @ZSr/\type_of% @ZDv/\type_of% @ZHM/\type_of% @beq_self_eq_true.{0}/\type_of% @ZX0/\type_of% @ZVc/\type_of% @Bool.not_or_self/\type_of% @Bool.or_not_self/\type_of% @beq_true/\type_of% @beq_false/\type_of% @Bool.not_not:=
 ⟨@Bool.not_true,@ZTG,@ZNN,@ZLW,@ZFC,@ZSr,@ZDv,@ZHM,@beq_self_eq_true.{0},@ZX0,@ZVc,@Bool.not_or_self,@Bool.or_not_self,@beq_true,@beq_false,@Bool.not_not⟩
theorem zL:type_of% @ZCF.{0}/\type_of% @ZCD.{0}/\type_of% @ZBy.{0}/\type_of% @ZCV.{0}/\type_of% @ZEu.{0}/\type_of% @ξV.{0}/\type_of% @List.drop_nil.{0}/\type_of% @List.take_nil.{0}/\type_of% @JG.{0}/\type_of% @ξN.{0}/\type_of% @YO.{0,0}/\type_of% @ZAu.{0,0}/\type_of% @Qi.{0}/\type_of% @ZAy.{0}/\type_of% @ZDM.{0}/\type_of% @ZCp.{0}/\type_of% @JK/\type_of% @Jn/\type_of% @if_true.{1}/\type_of% @decide_true:=
 ⟨@ZCF.{0},@ZCD.{0},@ZBy.{0},@ZCV.{0},@ZEu.{0},@ξV.{0},@List.drop_nil.{0},@List.take_nil.{0},@JG.{0},@ξN.{0},@YO.{0,0},@ZAu.{0,0},@Qi.{0},@ZAy.{0},@ZDM.{0},@ZCp.{0},@JK,@Jn,@if_true.{1},@decide_true⟩
theorem zR:type_of% @Zh/\type_of% @ZSE/\type_of% @ZP1/\type_of% @ZQB/\type_of% @ZSm/\type_of% @ZSj/\type_of% @ZQG/\type_of% @ZSY/\type_of% @ZUk/\type_of% @ZRS/\type_of% @ZRz/\type_of% @ZIE/\type_of% @Int.natCast_nonneg:=
 ⟨@Zh,@ZSE,@ZP1,@ZQB,@ZSm,@ZSj,@ZQG,@ZSY,@ZUk,@ZRS,@ZRz,@ZIE,@Int.natCast_nonneg⟩
theorem zB:type_of% @ZBX/\type_of% @ZT/\type_of% @ZHD/\type_of% @ZTa/\type_of% @ZWX/\type_of% @Bool.not_eq_false'/\type_of% @Zc/\type_of% @decide_eq_false_iff_not/\type_of% @ZSO/\type_of% @gt_iff_lt.{0}/\type_of% @ge_iff_le.{0}/\type_of% @Int.not_lt/\type_of% @Int.not_le/\type_of% @bne_iff_ne.{0}/\type_of% @ne_eq.{1}/\type_of% @beq_iff_eq.{0}/\type_of% @bne_eq_false_iff_eq.{0}/\type_of% @beq_eq_false_iff_ne.{0}:=
 ⟨@ZBX,@ZT,@ZHD,@ZTa,@ZWX,@Bool.not_eq_false',@Zc,@decide_eq_false_iff_not,@ZSO,@gt_iff_lt.{0},@ge_iff_le.{0},@Int.not_lt,@Int.not_le,@bne_iff_ne.{0},@ne_eq.{1},@beq_iff_eq.{0},@bne_eq_false_iff_eq.{0},@beq_eq_false_iff_ne.{0}⟩
theorem zF:type_of% @zL/\type_of% @zR/\type_of% @Yl.{0,0}/\type_of% @ZAC.{0,0}/\type_of% @QS/\type_of% @ZBP/\type_of% @ZBe/\type_of% @ZBb/\type_of% @ZBq/\type_of% @Zg.{0}/\type_of% @JS.{0}:=
 ⟨@zL,@zR,@Yl.{0,0},@ZAC.{0,0},@QS,@ZBP,@ZBe,@ZBb,@ZBq,@Zg.{0},@JS.{0}⟩
theorem zV:type_of% @YO.{0,0}/\type_of% @ZAu.{0,0}/\type_of% @ZCF.{0}/\type_of% @ZCD.{0}/\type_of% @ZDM.{0}/\type_of% @ZCp.{0}/\type_of% @ZLF.{0}/\type_of% @ZSo.{0}/\type_of% @JK/\type_of% @Jn/\type_of% @ZNN/\type_of% @ZLW/\type_of% @ZFC/\type_of% @ZSr/\type_of% @QS/\type_of% @ZBP/\type_of% @ZDv/\type_of% @ZHM/\type_of% @if_true.{1}/\type_of% @if_false.{1}/\type_of% @Zh/\type_of% @ZBe/\type_of% @ZBb/\type_of% @ZBq/\type_of% @Zg.{0}/\type_of% @JG.{0}/\type_of% @ξN.{0}/\type_of% @beq_self_eq_true.{0}/\type_of% @JP/\type_of% @ZBy.{0}/\type_of% @Nat.beq_eq/\type_of% @ZOR/\type_of% @ZOF:=
 ⟨@YO.{0,0},@ZAu.{0,0},@ZCF.{0},@ZCD.{0},@ZDM.{0},@ZCp.{0},@ZLF.{0},@ZSo.{0},@JK,@Jn,@ZNN,@ZLW,@ZFC,@ZSr,@QS,@ZBP,@ZDv,@ZHM,@if_true.{1},@if_false.{1},@Zh,@ZBe,@ZBb,@ZBq,@Zg.{0},@JG.{0},@ξN.{0},@beq_self_eq_true.{0},@JP,@ZBy.{0},@Nat.beq_eq,@ZOR,@ZOF⟩
theorem zW:type_of% @ZLF.{0}/\type_of% @ZSo.{0}/\type_of% @ZOR/\type_of% @ZOF/\type_of% @ZIN/\type_of% @Kj.{0}/\type_of% @Zm:=
 ⟨@ZLF.{0},@ZSo.{0},@ZOR,@ZOF,@ZIN,@Kj.{0},@Zm⟩
theorem zM:type_of% @zL/\type_of% @zG/\type_of% @zR/\type_of% @zC/\type_of% @decide_false/\type_of% @IntWalk.i64_in/\type_of% @ZHl/\type_of% @ZJe/\type_of% @ZBe/\type_of% @ZBb/\type_of% @ZBq/\type_of% @ZJW/\type_of% @ZJ3/\type_of% @ZHz/\type_of% @ZGP/\type_of% @ZFY/\type_of% @Kw/\type_of% @Ys/\type_of% @ZLO.{0}/\type_of% @ZAD.{0,0}/\type_of% @ZGr.{0,0}/\type_of% @ZVY/\type_of% @ZWU/\type_of% @ZMz.{0}/\type_of% @ZTP.{0}/\type_of% @ZAL.{0,0,0}/\type_of% @ZPF.{0,0,0}/\type_of% @ZBA.{0}/\type_of% @Jr.{0}/\type_of% @true_and/\type_of% @and_true/\type_of% @if_false.{1}/\type_of% @bne_self_eq_false.{0}/\type_of% @ZAe.{0}/\type_of% @ZGw.{0}:=
 ⟨@zL,@zG,@zR,@zC,@decide_false,@IntWalk.i64_in,@ZHl,@ZJe,@ZBe,@ZBb,@ZBq,@ZJW,@ZJ3,@ZHz,@ZGP,@ZFY,@Kw,@Ys,@ZLO.{0},@ZAD.{0,0},@ZGr.{0,0},@ZVY,@ZWU,@ZMz.{0},@ZTP.{0},@ZAL.{0,0,0},@ZPF.{0,0,0},@ZBA.{0},@Jr.{0},@true_and,@and_true,@if_false.{1},@bne_self_eq_false.{0},@ZAe.{0},@ZGw.{0}⟩
theorem zS:type_of% @zL/\type_of% @zG/\type_of% @zR/\type_of% @zC/\type_of% @Ob.beq_refl/\type_of% @ZMz.{0}/\type_of% @ZTP.{0}/\type_of% @Kw/\type_of% @Ys/\type_of% @ZaP/\type_of% @ZJW/\type_of% @ZJ3/\type_of% @ZHz/\type_of% @ZGP/\type_of% @ZFY/\type_of% @ZLO.{0}/\type_of% @ZBe/\type_of% @ZBb/\type_of% @ZBq/\type_of% @ZVI/\type_of% @ZU5/\type_of% @ZTN/\type_of% @ZQw/\type_of% @ZOS/\type_of% @ZNI.{0}/\type_of% @ξW.{0}/\type_of% @ZHl/\type_of% @ZJe/\type_of% @ZGr.{0,0}/\type_of% @ZAD.{0,0}/\type_of% @YY.some_iff/\type_of% @true_and/\type_of% @and_true/\type_of% @if_false.{1}/\type_of% @ZAe.{0}/\type_of% @ZGw.{0}/\type_of% @ZAL.{0,0,0}/\type_of% @ZPF.{0,0,0}/\type_of% @ZBA.{0}/\type_of% @Jr.{0}/\type_of% @decide_false/\type_of% @ZVY/\type_of% @ZWU/\type_of% @ZHD/\type_of% @ZSP/\type_of% @ZTk/\type_of% @ZSh/\type_of% @bne_self_eq_false.{0}/\type_of% @Bool.bne_false/\type_of% @Bool.bne_true:=
 ⟨@zL,@zG,@zR,@zC,@Ob.beq_refl,@ZMz.{0},@ZTP.{0},@Kw,@Ys,@ZaP,@ZJW,@ZJ3,@ZHz,@ZGP,@ZFY,@ZLO.{0},@ZBe,@ZBb,@ZBq,@ZVI,@ZU5,@ZTN,@ZQw,@ZOS,@ZNI.{0},@ξW.{0},@ZHl,@ZJe,@ZGr.{0,0},@ZAD.{0,0},@YY.some_iff,@true_and,@and_true,@if_false.{1},@ZAe.{0},@ZGw.{0},@ZAL.{0,0,0},@ZPF.{0,0,0},@ZBA.{0},@Jr.{0},@decide_false,@ZVY,@ZWU,@ZHD,@ZSP,@ZTk,@ZSh,@bne_self_eq_false.{0},@Bool.bne_false,@Bool.bne_true⟩
theorem zO:type_of% @ZUc/\type_of% @ZVA/\type_of% @ZU0/\type_of% @ZUD/\type_of% @ZUS/\type_of% @ZUt/\type_of% @ZUz/\type_of% @ZSL/\type_of% @ZSl/\type_of% @ZR3/\type_of% @ZUv/\type_of% @ZhP/\type_of% @ZWy/\type_of% @ZXx/\type_of% @ZX6/\type_of% @ZVL/\type_of% @Zhm/\type_of% @ZhK/\type_of% @ZhL/\type_of% @ZS5/\type_of% @ZAN/\type_of% @ZCc/\type_of% @Qr/\type_of% @ZFK/\type_of% @ZJ0/\type_of% @ZKA:=
 ⟨@ZUc,@ZVA,@ZU0,@ZUD,@ZUS,@ZUt,@ZUz,@ZSL,@ZSl,@ZR3,@ZUv,@ZhP,@ZWy,@ZXx,@ZX6,@ZVL,@Zhm,@ZhK,@ZhL,@ZS5,@ZAN,@ZCc,@Qr,@ZFK,@ZJ0,@ZKA⟩
section
variable {P:Program} {c:Ctx} {E0:Env} {os0 os:J7} {n:Nat} {Q:Exit->J4->J7->Prop} {φ:J4}
theorem WI.regB{S:Tabs}(hS:SsOk P S)(ks:W0){l:List IOp}(h:YY (YE S true φ os l) (λφ' os'=>Q .normal (Go.Ab.keep ks φ') os')):WI P c E0 os0 n (.reg l) Q φ os:=
 WI.regA hS ks (λK hK=>by
  obtain⟨ok,φ',os',h1,h2,h3⟩:=h;exact⟨ok,φ',os',h1,h2,hK _ _ h3⟩)
theorem WI.dregB{S:Tabs}(hS:SsOk P S)(ks:W0){k k2:Nat}{rs rs2:W0}{l:List IOp}(h:YY (YU S os k rs 0 true φ os.length os [] none l) (λφ' os'=>Q .normal (Go.Ab.keep ks φ') os')):WI P c E0 os0 n (.dreg k rs k2 rs2 l) Q φ os:=
 WI.dregA hS ks (λK hK=>by
  obtain⟨ok,φ',os',h1,h2,h3⟩:=h;exact⟨ok,φ',os',h1,h2,hK _ _ h3⟩)
theorem WI.post{ic:IC}(h:WI P c E0 os0 n ic (λx φ os=> ∃φ2 os2,Wk c E0 os0 n φ os φ2 os2/\Q x φ2 os2) φ os):WI P c E0 os0 n ic Q φ os:=by
 intro code hc E a R hf;refine wp_mono (h code hc E a R hf) ?_;rintro x a' w' ⟨E',φ',os',rfl,R',hf',φ2,os2,hw,hq⟩;obtain⟨E2,e2,R2,f2⟩:=hw E' a' R' hf';exact⟨E2,φ2,os2,e2,R2,f2,hq⟩
theorem Wk.refl:Wk c E0 os0 n φ os φ os:=λE a R hf=>⟨E,rfl,R,hf⟩
theorem Wk.trans{φ1 φ2:J4}{os1 os2:J7}(h:Wk c E0 os0 n φ os φ1 os1)(h':Wk c E0 os0 n φ1 os1 φ2 os2):Wk c E0 os0 n φ os φ2 os2:=λE a R hf=>by
 obtain⟨E1,e1,R1,f1⟩:=h E a R hf;obtain⟨E2,e2,R2,f2⟩:=h' E1 a R1 f1;exact⟨E2,e2.trans e1,R2,f2⟩
theorem oP{S:Tabs}{ks:W0}{φ':J4}(h: ∃φ2 os2,Wk c E0 os0 n φ' os φ2 os2/\Q .normal φ2 os2)(hk:keep ks φ=φ':=by simp only[keep,QE,Nat.reduceEqDiff,if_true,if_false,↓reduceIte,JP];rfl):YY (YE S true φ os []) (λφ' os'=> ∃φ2 os2,Wk c E0 os0 n (keep ks φ') os' φ2 os2/\Q .normal φ2 os2):=osN (by rw[hk];exact h)
theorem dP{S:Tabs}{ks rs:W0}{k i id:Nat}{C os1 os':J7}{last:Option J7}{φ':J4}(h: ∃φ2 os2,Wk c E0 os0 n φ' os' φ2 os2/\Q .normal φ2 os2)(hk:keep ks φ=φ':=by simp only[keep,QE,Nat.reduceEqDiff,if_true,if_false,↓reduceIte,JP];rfl)(hl:last.getD (os1++C)=os':=by simp only[ZNI,ξW,Kj,Qi,ZAy];rfl):YY (YU S os1 k rs i true φ id os C last []) (λφ' os'=> ∃φ2 os2,Wk c E0 os0 n (keep ks φ') os' φ2 os2/\Q .normal φ2 os2):=dsN (by rw[hk,hl];exact h)
theorem KM(h:Q .normal φ os): ∃φ2 os2,Wk c E0 os0 n φ os φ2 os2/\Q .normal φ2 os2:=⟨φ,os,Wk.refl,h⟩
theorem Je(ρ:W0){φ':J4}{os':J7}(h: ∃φ2 os2,Wk c E0 os0 n φ' os' φ2 os2/\Q .normal φ2 os2)(hok:ZPc ρ os0.length os.length=true:=by rfl)(hp:ZA4 ρ os φ=φ':=by simp (disch:=decide) only[zV,zO,Ob.mpb,frzL,ZA4,ZCs,onF,Ob.onI,mpP,JZ,Yl,ZAD,D.vw,vwL,D.on,D.inP,Yr,Zq,D.ren,Zy,inv,YW,Ob.mp,Ob.ren,D.nn,ZDr,Nat.reduceBEq,Nat.reduceEqDiff,Nat.reduceAdd,↓reduceIte];rfl)(ho:ZCs ρ os=os':=by simp (disch:=decide) only[zV,zO,Ob.mpb,frzL,ZA4,ZCs,onF,Ob.onI,mpP,JZ,Yl,ZAD,D.vw,vwL,D.on,D.inP,Yr,Zq,D.ren,Zy,inv,YW,Ob.mp,Ob.ren,D.nn,ZDr,Nat.reduceBEq,Nat.reduceEqDiff,Nat.reduceAdd,↓reduceIte];rfl): ∃φ2 os2,Wk c E0 os0 n φ os φ2 os2/\Q .normal φ2 os2:=by
 obtain⟨φ2,os2,h1,h2⟩:=h;subst hp ho;exact⟨φ2,os2,(Wk.pick ρ hok).trans h1,h2⟩
theorem ZfU(l:W0){os':J7}(h: ∃φ2 os2,Wk c E0 os0 n φ os' φ2 os2/\Q .normal φ2 os2)(ho:frzL l os=os':=by simp only[frzL,ZCF,ZCD,ZDM,ZCp];rfl): ∃φ2 os2,Wk c E0 os0 n φ os φ2 os2/\Q .normal φ2 os2:=by
 obtain⟨φ2,os2,h1,h2⟩:=h;subst ho;exact⟨φ2,os2,(Wk.freeze l).trans h1,h2⟩
theorem WI.nnA{ic:IC}{φ':J4}{os':J7}(h:WI P c E0 os0 n ic Q φ' os')(hp:ZDr φ=φ':=by simp only[zV,zO,Ob.mpb,frzL,ZA4,ZCs,onF,Ob.onI,mpP,JZ,Yl,ZAD,D.vw,vwL,D.on,D.inP,Yr,Zq,D.ren,Zy,inv,YW,Ob.mp,Ob.ren,D.nn,ZDr,Nat.reduceBEq,Nat.reduceEqDiff,Nat.reduceAdd,↓reduceIte];rfl)(ho:os.map (Ob.mpb D.nn)=os':=by simp only[zV,zO,Ob.mpb,frzL,ZA4,ZCs,onF,Ob.onI,mpP,JZ,Yl,ZAD,D.vw,vwL,D.on,D.inP,Yr,Zq,D.ren,Zy,inv,YW,Ob.mp,Ob.ren,D.nn,ZDr,Nat.reduceBEq,Nat.reduceEqDiff,Nat.reduceAdd,↓reduceIte];rfl):WI P c E0 os0 n ic Q φ os:=WI.nn (by rw[hp,ho];exact h)
theorem WI.pickA(ρ:W0){ic:IC}{φ':J4}{os':J7}(h:WI P c E0 os0 n ic Q φ' os')(hok:ZPc ρ os0.length os.length=true:=by rfl)(hp:ZA4 ρ os φ=φ':=by simp (disch:=decide) only[zV,zO,Ob.mpb,frzL,ZA4,ZCs,onF,Ob.onI,mpP,JZ,Yl,ZAD,D.vw,vwL,D.on,D.inP,Yr,Zq,D.ren,Zy,inv,YW,Ob.mp,Ob.ren,D.nn,ZDr,Nat.reduceBEq,Nat.reduceEqDiff,Nat.reduceAdd,↓reduceIte];rfl)(ho:ZCs ρ os=os':=by simp (disch:=decide) only[zV,zO,Ob.mpb,frzL,ZA4,ZCs,onF,Ob.onI,mpP,JZ,Yl,ZAD,D.vw,vwL,D.on,D.inP,Yr,Zq,D.ren,Zy,inv,YW,Ob.mp,Ob.ren,D.nn,ZDr,Nat.reduceBEq,Nat.reduceEqDiff,Nat.reduceAdd,↓reduceIte];rfl):WI P c E0 os0 n ic Q φ os:=WI.pick ρ hok (by rw[hp,ho];exact h)
theorem WI.freezeA(l:W0){ic:IC}{os':J7}(h:WI P c E0 os0 n ic Q φ os')(ho:frzL l os=os':=by simp only[frzL,ZCF,ZCD,ZDM,ZCp];rfl):WI P c E0 os0 n ic Q φ os:=WI.freeze l (by rw[ho];exact h)
theorem WI.ownA(t e sz:Nat){ic:IC}{φ':J4}{os':J7}(h:WI P c E0 os0 n ic Q φ' os')(ht:get φ t= .x .nils:=by rfl)(hp:put φ t (.ref os.length 0 0 0)=φ':=by simp only[put,Nat.reduceEqDiff,↓reduceIte,ξN,JG,Nat.reduceAdd];rfl)(ho:os++ [.rows false e sz []]=os':=by simp only[ZAy,Qi];rfl):WI P c E0 os0 n ic Q φ os:=WI.own t e sz ht (by rw[hp,ho];exact h)
theorem WI.nextSA{t t2 it m:Nat}{x:IO}{s:List UInt8}{pos:Nat}(ks:W0){φ1 φ2:J4}{os2:J7}(hend: ¬pos<s.length->Q .normal φ1 os)(hgo:pos<s.length->Q .normal φ2 os2)(hx:(ZF φ x).val= .iref m it:=by rfl)(hcd:(ZF φ x).cond=true:=by rfl)(ho:os[it]? =some (.sit s pos):=by rfl)
  (h1:Go.Ab.keep ks (Go.Ab.put (Go.Ab.put φ t (.tup [.x (.bool false)])) t2 (.x (.bool false)))=φ1:=by simp only[put,keep,QE,Nat.reduceEqDiff,if_true,if_false,↓reduceIte,JP];rfl) (h2:Go.Ab.keep ks (Go.Ab.put (Go.Ab.put φ t (.tup [.x (.bool true),.x (.int .i64 pos),.x (.int .i32 (QM s pos).1)])) t2 (.x (.bool true)))=φ2:=by simp only[put,keep,QE,Nat.reduceEqDiff,if_true,if_false,↓reduceIte,JP];rfl)
  (h3:os.set it (.sit s (pos+(QM s pos).2))=os2:=by simp only[ZDM,ZCp];rfl):WI P c E0 os0 n (.reg [⟨some t,.nxt true x,none⟩,⟨some t2,.ext (.t t) 0,none⟩]) Q φ os:=WI.nextS ks hx hcd ho (by rw[h1];exact hend) (by rw[h2,h3];exact hgo)
theorem WI.nextMA{t t2 it mid:Nat}{x:IO}{dk:KK}{ag:Bool}{l R0:W2}{cur:Option Pr}(ks:W0){φ1 φ2:J4}{os2:Nat->Pr->J7}(hend:R0= []->Q .normal φ1 os)(hgo: ∀(i:Nat) (q:Pr),R0[i]? =some q->Q .normal φ2 (os2 i q))(hx:(ZF φ x).val= .iref mid it:=by rfl)(hcd:(ZF φ x).cond=true:=by rfl)(ho:os[mid]? =some (.mit dk ag l it R0 cur):=by rfl)
  (h1:Go.Ab.keep ks (Go.Ab.put (Go.Ab.put φ t (.tup [.x (.bool false)])) t2 (.x (.bool false)))=φ1:=by simp only[put,keep,QE,Nat.reduceEqDiff,if_true,if_false,↓reduceIte,JP];rfl) (h2:Go.Ab.keep ks (Go.Ab.put (Go.Ab.put φ t .und) t2 (.x (.bool true)))=φ2:=by simp only[put,keep,QE,Nat.reduceEqDiff,if_true,if_false,↓reduceIte,JP];rfl)
  (h3: ∀i q,os.set mid (.mit dk ag l it (R0.eraseIdx i) (some q))=os2 i q:=by intro i q;simp only[ZDM,ZCp];rfl):WI P c E0 os0 n (.reg [⟨some t,.nxt false x,none⟩,⟨some t2,.ext (.t t) 0,none⟩]) Q φ os:=WI.nextM ks hx hcd ho (by rw[h1];exact hend) (by rw[h2];intro i q h;rw[h3];exact hgo i q h)
theorem WI.orderA(ts:W0){ic:IC}{φ':J4}(h:WI P c E0 os0 n ic Q φ' os)(hp:ts.map (λu=>(u,get φ u))=φ':=by simp only[YO,ZAu,Ab.get,Nat.reduceEqDiff,↓reduceIte,if_true,if_false];rfl):WI P c E0 os0 n ic Q φ os:=WI.order ts (by rw[hp];exact h)
end
section
variable {S:Tabs} {os0 os C:J7} {k i id:Nat} {rs:W0} {φ φ':J4} {os':J7} {last:Option J7} {o:IOp} {l:List IOp} {ok:Bool} {d:D} {ob:Ob} {K:J4->J7->Prop} {Q:Exit->J4->J7->Prop} {ks:W0}
theorem oN(h:Q .normal φ' os)(hk:keep ks φ=φ':=by simp only[keep,QE,Nat.reduceEqDiff,if_true,if_false,↓reduceIte,JP];rfl):YY (YE S true φ os []) (λφ' os'=>Q .normal (keep ks φ') os'):=osN (by rw[hk];exact h)
theorem dN(h:Q .normal φ' os')(hk:keep ks φ=φ':=by simp only[keep,QE,Nat.reduceEqDiff,if_true,if_false,↓reduceIte,JP];rfl)(hl:last.getD (os0++C)=os':=by simp only[ZNI,ξW,Kj,Qi,ZAy];rfl):YY (YU S os0 k rs i true φ id os C last []) (λφ' os'=>Q .normal (keep ks φ') os'):=dsN (by rw[hk,hl];exact h)
theorem oS(h:YY (YE S true φ' os' l) K)(he:JU S φ os o=some (ok,φ',os'):=by simp only[zC,JU,ZS,ZF,Ab.get,Ab.put,putO,Nat.reduceEqDiff,↓reduceIte,D.val,D.cond,reduceCtorEq,Nat.reduceAdd,JK,Jn];rfl)(hok:ok=true:=by rfl):YY (YE S true φ os (o::l)) K:=osS he hok h
theorem oG(h:YY (YE S true φ' os' l) K)(he:JU S φ os o=some (ok,φ',os'):=by simp (disch:=omega) only[uu,zM,JU,ZS,ZF,Ab.get,Ab.put,putO,Nat.reduceEqDiff,↓reduceIte,D.val,D.cond,reduceCtorEq,YF,ZBs,Ob.isDrw,Jx,ZA5,Qv,ZDH,apm,ZAM,IE.isCall,D.cells?,Nat.reduceAdd,Nat.reduceLeDiff,Ob.slice?,Ob.dsl?,Ob.drw?,Nat.reduceSub,Nat.reduceMul,Int.reduceToNat,Int.reduceLE,Int.reduceLT,Int.reduceAdd,Int.reduceSub,Int.reduceMul,Int.reduceNeg,Int.reduceEq,Zx,ZFP,QK,ZE,Jv,Ya,Yi,Ju,Qb,ZAR,ZBN,QB,eqR,eqD,ZBW,eqX,nzD,ZCb,unD,ZCt,evK,evC,ZAK,Qx,Nat.reduceLT,zO];rfl)(hok:ok=true:=by first|with_reducible rfl|omega|(simp;done)|(simp;omega)|rfl|(clear uu;grind)|(clear h;clear uu;grind)):YY (YE S true φ os (o::l)) K:=osS he hok h
theorem oC(h:YY (YE S true φ' os' l) K)(he:JU S φ os o=some (ok,φ',os'):=by simp (disch:=omega) only[uu,zS,zW,zO,ZBg,ZFe,D.nn,D.na,ZR,Jt,IE.isCall,Nat.reduceAdd,Nat.reduceSub,Nat.reduceMul,Nat.reduceLeDiff,Nat.reduceLT,Nat.reduceBEq,Int.reduceToNat,Int.reduceLE,Int.reduceLT,Int.reduceAdd,Int.reduceSub,Int.reduceMul,Int.reduceNeg,Int.reduceEq,Nat.reduceEqDiff,YE,YU,JU,ZS,YF,ZBs,Ob.isDrw,Jx,ZA5,Qv,ZDH,apm,ZF,Ab.get,Ab.put,putO,keep,QE,D.val,D.cond,D.cells?,D.scalar,X.scalar,D.plain,D.isX,ZCb,ZCR,eqD,ZBW,eqX,unD,ZE,ZCt,QK,Zx,Qp,JQ,Yi,Ya,Jv,Ju,Qb,ZAR,Ob.slice?,↓reduceIte,reduceCtorEq,JF,evK,evC,ZAK,Qx,Qn,QA,Ky,eqR,nzD,ZAM,ZDb,ZDc,ZDY,ZCL,ZAp,ZBN,ZO,IE.frame,Zq,QB,IntWalk.i64_in,Yo,Jp,ZHB,Jd,ZIK,ZCw,ZAT,JZ,Qc,QY,Yr,D.inP,Ob.inP,Zy,D.ren,inv,YW,Ob.ren,KQ,Ko,KS,ZFB,JI];rfl)(hok:ok=true:=by first|with_reducible rfl|omega|(simp;done)|(simp;omega)|rfl|(clear uu;grind)|(clear h;clear uu;grind)):YY (YE S true φ os (o::l)) K:=osS he hok h
theorem YD(h:YY (YU S os0 k rs (i+1) true φ' id os C last l) K)(hf:o.e.frame=true:=by rfl)(he:(JF S φ [] o).map (λr=>(r.1,putO φ o.dst r.2))=some (ok,φ'):=by simp only[zC,JF,Qn,QA,Ky,Ob.beq_refl,JU,ZS,ZF,Ab.get,Ab.put,putO,Nat.reduceEqDiff,↓reduceIte,D.val,D.cond,reduceCtorEq,Nat.reduceAdd,JK,Jn];rfl)(hok:ok=true:=by rfl):YY (YU S os0 k rs i true φ id os C last (o::l)) K:=dsF hf he hok h
theorem KR(h:YY (YU S os0 k rs (i+1) true φ' id os C last l) K)(hf:o.e.frame=true:=by rfl)(he:(JF S φ [] o).map (λr=>(r.1,putO φ o.dst r.2))=some (ok,φ'):=by simp (disch:=omega) only[uu,zM,JF,Qn,QA,Ky,Ob.beq_refl,JU,ZS,ZF,Ab.get,Ab.put,putO,Nat.reduceEqDiff,↓reduceIte,D.val,D.cond,reduceCtorEq,YF,ZBs,Ob.isDrw,Jx,ZA5,Qv,ZDH,apm,ZAM,IE.isCall,D.cells?,Nat.reduceAdd,Nat.reduceLeDiff,Ob.slice?,Ob.dsl?,Ob.drw?,Nat.reduceSub,Nat.reduceMul,Int.reduceToNat,Int.reduceLE,Int.reduceLT,Int.reduceAdd,Int.reduceSub,Int.reduceMul,Int.reduceNeg,Int.reduceEq,Zx,ZFP,QK,ZE,Jv,Ya,Yi,Ju,Qb,ZAR,ZBN,QB,eqR,eqD,ZBW,eqX,nzD,ZCb,unD,ZCt,evK,evC,ZAK,Qx,Nat.reduceLT,zO];rfl)(hok:ok=true:=by first|with_reducible rfl|omega|(simp;done)|(simp;omega)|rfl|(clear uu;grind)|(clear h;clear uu;grind)):YY (YU S os0 k rs i true φ id os C last (o::l)) K:=dsF hf he hok h
theorem JO(h:YY (YU S os0 k rs (i+1) true φ' id os C last l) K)(hf:o.e.frame=false:=by rfl)(hm:Zq i rs=false:=by rfl)(hk:Nat.ble (i+1) k=true:=by rfl)(he:(JF S φ os0 o).map (λr=>(r.1,putO φ o.dst r.2))=some (ok,φ'):=by simp (disch:=omega) only[uu,zM,JF,Qn,QA,Ky,Ob.beq_refl,JU,ZS,ZF,Ab.get,Ab.put,putO,Nat.reduceEqDiff,↓reduceIte,D.val,D.cond,reduceCtorEq,YF,ZBs,Ob.isDrw,Jx,ZA5,Qv,ZDH,apm,ZAM,IE.isCall,D.cells?,Nat.reduceAdd,Nat.reduceLeDiff,Ob.slice?,Ob.dsl?,Ob.drw?,Nat.reduceSub,Nat.reduceMul,Int.reduceToNat,Int.reduceLE,Int.reduceLT,Int.reduceAdd,Int.reduceSub,Int.reduceMul,Int.reduceNeg,Int.reduceEq,Zx,ZFP,QK,ZE,Jv,Ya,Yi,Ju,Qb,ZAR,ZBN,QB,eqR,eqD,ZBW,eqX,nzD,ZCb,unD,ZCt,evK,evC,ZAK,Qx,Nat.reduceLT,zO];rfl)(hok:ok=true:=by first|with_reducible rfl|omega|(simp;done)|(simp;omega)|rfl|(clear uu;grind)|(clear h;clear uu;grind)):YY (YU S os0 k rs i true φ id os C last (o::l)) K:=dsQ hf hm hk he hok h
theorem dKG(h:YY (YU S os0 k rs (i+1) true φ' (id+1) (os++ [ob]) (C++ [ob]) last l) K)(hf:o.e.frame=false:=by rfl)(hm:Zq i rs=false:=by rfl)(hk:Nat.ble (i+1) k=true:=by rfl)(hn:JF S φ os0 o=none:=by simp (disch:=omega) only[uu,zS,zW,zO,ZBg,ZFe,D.nn,D.na,ZR,Jt,IE.isCall,Nat.reduceAdd,Nat.reduceSub,Nat.reduceMul,Nat.reduceLeDiff,Nat.reduceLT,Nat.reduceBEq,Int.reduceToNat,Int.reduceLE,Int.reduceLT,Int.reduceAdd,Int.reduceSub,Int.reduceMul,Int.reduceNeg,Int.reduceEq,Nat.reduceEqDiff,YE,YU,JU,ZS,YF,ZBs,Ob.isDrw,Jx,ZA5,Qv,ZDH,apm,ZF,Ab.get,Ab.put,putO,keep,QE,D.val,D.cond,D.cells?,D.scalar,X.scalar,D.plain,D.isX,ZCb,ZCR,eqD,ZBW,eqX,unD,ZE,ZCt,QK,Zx,Qp,JQ,Yi,Ya,Jv,Ju,Qb,ZAR,Ob.slice?,↓reduceIte,reduceCtorEq,JF,evK,evC,ZAK,Qx,Qn,QA,Ky,eqR,nzD,ZAM,ZDb,ZDc,ZDY,ZCL,ZAp,ZBN,ZO,IE.frame,Zq,QB,IntWalk.i64_in,Yo,Jp,ZHB,Jd,ZIK,ZCw,ZAT,JZ,Qc,QY,Yr,D.inP,Ob.inP,Zy,D.ren,inv,YW,Ob.ren,KQ,Ko,KS,ZFB,JI])(he:(evK S φ os0 id o).map (λr=>(r.1,putO φ o.dst r.2.1,r.2.2))=some (ok,φ',ob):=by simp (disch:=omega) only[uu,zS,zW,zO,ZBg,ZFe,D.nn,D.na,ZR,Jt,IE.isCall,Nat.reduceAdd,Nat.reduceSub,Nat.reduceMul,Nat.reduceLeDiff,Nat.reduceLT,Nat.reduceBEq,Int.reduceToNat,Int.reduceLE,Int.reduceLT,Int.reduceAdd,Int.reduceSub,Int.reduceMul,Int.reduceNeg,Int.reduceEq,Nat.reduceEqDiff,YE,YU,JU,ZS,YF,ZBs,Ob.isDrw,Jx,ZA5,Qv,ZDH,apm,ZF,Ab.get,Ab.put,putO,keep,QE,D.val,D.cond,D.cells?,D.scalar,X.scalar,D.plain,D.isX,ZCb,ZCR,eqD,ZBW,eqX,unD,ZE,ZCt,QK,Zx,Qp,JQ,Yi,Ya,Jv,Ju,Qb,ZAR,Ob.slice?,↓reduceIte,reduceCtorEq,JF,evK,evC,ZAK,Qx,Qn,QA,Ky,eqR,nzD,ZAM,ZDb,ZDc,ZDY,ZCL,ZAp,ZBN,ZO,IE.frame,Zq,QB,IntWalk.i64_in,Yo,Jp,ZHB,Jd,ZIK,ZCw,ZAT,JZ,Qc,QY,Yr,D.inP,Ob.inP,Zy,D.ren,inv,YW,Ob.ren,KQ,Ko,KS,ZFB,JI];rfl)(hok:ok=true:=by first|with_reducible rfl|omega|(simp;done)|(simp;omega)|rfl|(clear uu;grind)|(clear h;clear uu;grind)):YY (YU S os0 k rs i true φ id os C last (o::l)) K:=dsK hf hm hk hn he hok h
theorem dAG(h:YY (YU S os0 k rs (i+1) true φ' id os' C (some os') l) K)(hf:o.e.frame=false:=by rfl)(hm:Zq i rs=false:=by rfl)(hk:Nat.ble (i+1) k=false:=by rfl)(he:(Qn S φ os o).map (λr=>(r.1&&(match rs with| []=>true|_=>Ky os0 r.2.2),putO φ o.dst r.2.1,r.2.2))=some (ok,φ',os'):=by simp (disch:=omega) only[uu,zM,JF,Qn,QA,Ky,Ob.beq_refl,JU,ZS,ZF,Ab.get,Ab.put,putO,Nat.reduceEqDiff,↓reduceIte,D.val,D.cond,reduceCtorEq,YF,ZBs,Ob.isDrw,Jx,ZA5,Qv,ZDH,apm,ZAM,IE.isCall,D.cells?,Nat.reduceAdd,Nat.reduceLeDiff,Ob.slice?,Ob.dsl?,Ob.drw?,Nat.reduceSub,Nat.reduceMul,Int.reduceToNat,Int.reduceLE,Int.reduceLT,Int.reduceAdd,Int.reduceSub,Int.reduceMul,Int.reduceNeg,Int.reduceEq,Zx,ZFP,QK,ZE,Jv,Ya,Yi,Ju,Qb,ZAR,ZBN,QB,eqR,eqD,ZBW,eqX,nzD,ZCb,unD,ZCt,evK,evC,ZAK,Qx,Nat.reduceLT,zO];rfl)(hok:ok=true:=by first|with_reducible rfl|omega|(simp;done)|(simp;omega)|rfl|(clear uu;grind)|(clear h;clear uu;grind)):YY (YU S os0 k rs i true φ id os C last (o::l)) K:=dsA hf hm hk he hok h
theorem dQC(h:YY (YU S os0 k rs (i+1) true φ' id os C last l) K)(hf:o.e.frame=false:=by rfl)(hm:Zq i rs=false:=by rfl)(hk:Nat.ble (i+1) k=true:=by rfl)(he:(JF S φ os0 o).map (λr=>(r.1,putO φ o.dst r.2))=some (ok,φ'):=by simp (disch:=omega) only[uu,zS,zW,zO,ZBg,ZFe,D.nn,D.na,ZR,Jt,IE.isCall,Nat.reduceAdd,Nat.reduceSub,Nat.reduceMul,Nat.reduceLeDiff,Nat.reduceLT,Nat.reduceBEq,Int.reduceToNat,Int.reduceLE,Int.reduceLT,Int.reduceAdd,Int.reduceSub,Int.reduceMul,Int.reduceNeg,Int.reduceEq,Nat.reduceEqDiff,YE,YU,JU,ZS,YF,ZBs,Ob.isDrw,Jx,ZA5,Qv,ZDH,apm,ZF,Ab.get,Ab.put,putO,keep,QE,D.val,D.cond,D.cells?,D.scalar,X.scalar,D.plain,D.isX,ZCb,ZCR,eqD,ZBW,eqX,unD,ZE,ZCt,QK,Zx,Qp,JQ,Yi,Ya,Jv,Ju,Qb,ZAR,Ob.slice?,↓reduceIte,reduceCtorEq,JF,evK,evC,ZAK,Qx,Qn,QA,Ky,eqR,nzD,ZAM,ZDb,ZDc,ZDY,ZCL,ZAp,ZBN,ZO,IE.frame,Zq,QB,IntWalk.i64_in,Yo,Jp,ZHB,Jd,ZIK,ZCw,ZAT,JZ,Qc,QY,Yr,D.inP,Ob.inP,Zy,D.ren,inv,YW,Ob.ren,KQ,Ko,KS,ZFB,JI];rfl)(hok:ok=true:=by first|with_reducible rfl|omega|(simp;done)|(simp;omega)|rfl|(clear uu;grind)|(clear h;clear uu;grind)):YY (YU S os0 k rs i true φ id os C last (o::l)) K:=dsQ hf hm hk he hok h
theorem dKC(h:YY (YU S os0 k rs (i+1) true φ' (id+1) (os++ [ob]) (C++ [ob]) last l) K)(hf:o.e.frame=false:=by rfl)(hm:Zq i rs=false:=by rfl)(hk:Nat.ble (i+1) k=true:=by rfl)(hn:JF S φ os0 o=none:=by simp (disch:=omega) only[uu,zS,zW,zO,ZBg,ZFe,D.nn,D.na,ZR,Jt,IE.isCall,Nat.reduceAdd,Nat.reduceSub,Nat.reduceMul,Nat.reduceLeDiff,Nat.reduceLT,Nat.reduceBEq,Int.reduceToNat,Int.reduceLE,Int.reduceLT,Int.reduceAdd,Int.reduceSub,Int.reduceMul,Int.reduceNeg,Int.reduceEq,Nat.reduceEqDiff,YE,YU,JU,ZS,YF,ZBs,Ob.isDrw,Jx,ZA5,Qv,ZDH,apm,ZF,Ab.get,Ab.put,putO,keep,QE,D.val,D.cond,D.cells?,D.scalar,X.scalar,D.plain,D.isX,ZCb,ZCR,eqD,ZBW,eqX,unD,ZE,ZCt,QK,Zx,Qp,JQ,Yi,Ya,Jv,Ju,Qb,ZAR,Ob.slice?,↓reduceIte,reduceCtorEq,JF,evK,evC,ZAK,Qx,Qn,QA,Ky,eqR,nzD,ZAM,ZDb,ZDc,ZDY,ZCL,ZAp,ZBN,ZO,IE.frame,Zq,QB,IntWalk.i64_in,Yo,Jp,ZHB,Jd,ZIK,ZCw,ZAT,JZ,Qc,QY,Yr,D.inP,Ob.inP,Zy,D.ren,inv,YW,Ob.ren,KQ,Ko,KS,ZFB,JI])(he:(evK S φ os0 id o).map (λr=>(r.1,putO φ o.dst r.2.1,r.2.2))=some (ok,φ',ob):=by simp (disch:=omega) only[uu,zS,zW,zO,ZBg,ZFe,D.nn,D.na,ZR,Jt,IE.isCall,Nat.reduceAdd,Nat.reduceSub,Nat.reduceMul,Nat.reduceLeDiff,Nat.reduceLT,Nat.reduceBEq,Int.reduceToNat,Int.reduceLE,Int.reduceLT,Int.reduceAdd,Int.reduceSub,Int.reduceMul,Int.reduceNeg,Int.reduceEq,Nat.reduceEqDiff,YE,YU,JU,ZS,YF,ZBs,Ob.isDrw,Jx,ZA5,Qv,ZDH,apm,ZF,Ab.get,Ab.put,putO,keep,QE,D.val,D.cond,D.cells?,D.scalar,X.scalar,D.plain,D.isX,ZCb,ZCR,eqD,ZBW,eqX,unD,ZE,ZCt,QK,Zx,Qp,JQ,Yi,Ya,Jv,Ju,Qb,ZAR,Ob.slice?,↓reduceIte,reduceCtorEq,JF,evK,evC,ZAK,Qx,Qn,QA,Ky,eqR,nzD,ZAM,ZDb,ZDc,ZDY,ZCL,ZAp,ZBN,ZO,IE.frame,Zq,QB,IntWalk.i64_in,Yo,Jp,ZHB,Jd,ZIK,ZCw,ZAT,JZ,Qc,QY,Yr,D.inP,Ob.inP,Zy,D.ren,inv,YW,Ob.ren,KQ,Ko,KS,ZFB,JI];rfl)(hok:ok=true:=by first|with_reducible rfl|omega|(simp;done)|(simp;omega)|rfl|(clear uu;grind)|(clear h;clear uu;grind)):YY (YU S os0 k rs i true φ id os C last (o::l)) K:=dsK hf hm hk hn he hok h
theorem dAC(h:YY (YU S os0 k rs (i+1) true φ' id os' C (some os') l) K)(hf:o.e.frame=false:=by rfl)(hm:Zq i rs=false:=by rfl)(hk:Nat.ble (i+1) k=false:=by rfl)(he:(Qn S φ os o).map (λr=>(r.1&&(match rs with| []=>true|_=>Ky os0 r.2.2),putO φ o.dst r.2.1,r.2.2))=some (ok,φ',os'):=by simp (disch:=omega) only[uu,zS,zW,zO,ZBg,ZFe,D.nn,D.na,ZR,Jt,IE.isCall,Nat.reduceAdd,Nat.reduceSub,Nat.reduceMul,Nat.reduceLeDiff,Nat.reduceLT,Nat.reduceBEq,Int.reduceToNat,Int.reduceLE,Int.reduceLT,Int.reduceAdd,Int.reduceSub,Int.reduceMul,Int.reduceNeg,Int.reduceEq,Nat.reduceEqDiff,YE,YU,JU,ZS,YF,ZBs,Ob.isDrw,Jx,ZA5,Qv,ZDH,apm,ZF,Ab.get,Ab.put,putO,keep,QE,D.val,D.cond,D.cells?,D.scalar,X.scalar,D.plain,D.isX,ZCb,ZCR,eqD,ZBW,eqX,unD,ZE,ZCt,QK,Zx,Qp,JQ,Yi,Ya,Jv,Ju,Qb,ZAR,Ob.slice?,↓reduceIte,reduceCtorEq,JF,evK,evC,ZAK,Qx,Qn,QA,Ky,eqR,nzD,ZAM,ZDb,ZDc,ZDY,ZCL,ZAp,ZBN,ZO,IE.frame,Zq,QB,IntWalk.i64_in,Yo,Jp,ZHB,Jd,ZIK,ZCw,ZAT,JZ,Qc,QY,Yr,D.inP,Ob.inP,Zy,D.ren,inv,YW,Ob.ren,KQ,Ko,KS,ZFB,JI];rfl)(hok:ok=true:=by first|with_reducible rfl|omega|(simp;done)|(simp;omega)|rfl|(clear uu;grind)|(clear h;clear uu;grind)):YY (YU S os0 k rs i true φ id os C last (o::l)) K:=dsA hf hm hk he hok h
end
theorem lfN{fz:Bool}{T:Tab}{φ:J4}{os os2:J7}{rs:List IRes}{ds:J8}{r R:D}(h:r=R)(he:QC fz T φ os rs=some (true,ds,os2):=by simp (disch:=omega) only[uu,zF,keep,QE,JP,if_false,QC,ZIH,ZGo,ZDj,Yi,Ya,ZS,ZF,Ab.get,Nat.reduceEqDiff,↓reduceIte,D.val,D.cond,Nat.reduceAdd,Nat.reduceLeDiff,Ob.slice?,Ob.dsl?,Ob.drw?,ZGr];rfl)(hr:mkR ds=r:=by simp only[mkR];rfl):((Exit.normal:Exit)= .normal\/(Exit.normal:Exit)= .ret)/\ ∃ds os2,QC fz T φ os rs=some (true,ds,os2)/\mkR ds=R:=⟨.inl rfl,ds,os2,he,by rw[hr];exact h⟩
theorem Ziz{fz:Bool}{T:Tab}{φ:J4}{os os2 OS:J7}{rs:List IRes}{ds:J8}{r R:D}(h:r=R/\os2=OS)(he:QC fz T φ os rs=some (true,ds,os2):=by simp (disch:=omega) only[uu,zF,keep,QE,JP,if_false,QC,ZIH,ZGo,ZDj,Yi,Ya,ZS,ZF,Ab.get,Nat.reduceEqDiff,↓reduceIte,D.val,D.cond,Nat.reduceAdd,Nat.reduceLeDiff,Ob.slice?,Ob.dsl?,Ob.drw?,ZGr];rfl)(hr:mkR ds=r:=by simp only[mkR];rfl):((Exit.normal:Exit)= .normal\/(Exit.normal:Exit)= .ret)/\ ∃ds os2,QC fz T φ os rs=some (true,ds,os2)/\mkR ds=R/\os2=OS:=⟨.inl rfl,ds,os2,he,by rw[hr];exact h⟩
theorem lfR{fz:Bool}{T:Tab}{φ:J4}{os os2:J7}{rs:List IRes}{ds:J8}{r R:D}(h:r=R)(he:QC fz T φ os rs=some (true,ds,os2):=by simp (disch:=omega) only[uu,zF,keep,QE,JP,if_false,QC,ZIH,ZGo,ZDj,Yi,Ya,ZS,ZF,Ab.get,Nat.reduceEqDiff,↓reduceIte,D.val,D.cond,Nat.reduceAdd,Nat.reduceLeDiff,Ob.slice?,Ob.dsl?,Ob.drw?,ZGr];rfl)(hr:mkR ds=r:=by simp only[mkR];rfl):((Exit.ret:Exit)= .normal\/(Exit.ret:Exit)= .ret)/\ ∃ds os2,QC fz T φ os rs=some (true,ds,os2)/\mkR ds=R:=⟨.inr rfl,ds,os2,he,by rw[hr];exact h⟩
theorem ZCE{fz:Bool}{T:Tab}{φ:J4}{os os2 OS:J7}{rs:List IRes}{ds:J8}{r R:D}(h:r=R/\os2=OS)(he:QC fz T φ os rs=some (true,ds,os2):=by simp (disch:=omega) only[uu,zF,keep,QE,JP,if_false,QC,ZIH,ZGo,ZDj,Yi,Ya,ZS,ZF,Ab.get,Nat.reduceEqDiff,↓reduceIte,D.val,D.cond,Nat.reduceAdd,Nat.reduceLeDiff,Ob.slice?,Ob.dsl?,Ob.drw?,ZGr];rfl)(hr:mkR ds=r:=by simp only[mkR];rfl):((Exit.ret:Exit)= .normal\/(Exit.ret:Exit)= .ret)/\ ∃ds os2,QC fz T φ os rs=some (true,ds,os2)/\mkR ds=R/\os2=OS:=⟨.inr rfl,ds,os2,he,by rw[hr];exact h⟩
theorem ZBv{fz:Bool}{T:Tab}{φ:J4}{os os2 OS:J7}{rs:List IRes}{ds:J8}{r R:D}(h:r=R/\ ∃Y,os2=OS++Y)(he:QC fz T φ os rs=some (true,ds,os2):=by simp (disch:=omega) only[uu,zF,keep,QE,JP,if_false,QC,ZIH,ZGo,ZDj,Yi,Ya,ZS,ZF,Ab.get,Nat.reduceEqDiff,↓reduceIte,D.val,D.cond,Nat.reduceAdd,Nat.reduceLeDiff,Ob.slice?,Ob.dsl?,Ob.drw?,ZGr];rfl)(hr:mkR ds=r:=by simp only[mkR];rfl):((Exit.ret:Exit)= .normal\/(Exit.ret:Exit)= .ret)/\ ∃ds os2,QC fz T φ os rs=some (true,ds,os2)/\mkR ds=R/\ ∃Y,os2=OS++Y:=⟨.inr rfl,ds,os2,he,by rw[hr];exact h⟩
theorem ZjB{fz:Bool}{T:Tab}{φ:J4}{os os2:J7}{rs:List IRes}{ds:J8}{r:D}{K:D->J7->Prop}(h:K r os2)(he:QC fz T φ os rs=some (true,ds,os2):=by simp (disch:=omega) only[uu,zF,keep,QE,JP,if_false,QC,ZIH,ZGo,ZDj,Yi,Ya,ZS,ZF,Ab.get,Nat.reduceEqDiff,↓reduceIte,D.val,D.cond,Nat.reduceAdd,Nat.reduceLeDiff,Ob.slice?,Ob.dsl?,Ob.drw?,ZGr];rfl)(hr:mkR ds=r:=by simp only[mkR];rfl):((Exit.normal:Exit)= .normal\/(Exit.normal:Exit)= .ret)/\ ∃ds os2,QC fz T φ os rs=some (true,ds,os2)/\K (mkR ds) os2:=⟨.inl rfl,ds,os2,he,by rw[hr];exact h⟩
theorem ZCG{fz:Bool}{T:Tab}{φ:J4}{os os2:J7}{rs:List IRes}{ds:J8}{r:D}{K:D->J7->Prop}(h:K r os2)(he:QC fz T φ os rs=some (true,ds,os2):=by simp (disch:=omega) only[uu,zF,keep,QE,JP,if_false,QC,ZIH,ZGo,ZDj,Yi,Ya,ZS,ZF,Ab.get,Nat.reduceEqDiff,↓reduceIte,D.val,D.cond,Nat.reduceAdd,Nat.reduceLeDiff,Ob.slice?,Ob.dsl?,Ob.drw?,ZGr];rfl)(hr:mkR ds=r:=by simp only[mkR];rfl):((Exit.ret:Exit)= .normal\/(Exit.ret:Exit)= .ret)/\ ∃ds os2,QC fz T φ os rs=some (true,ds,os2)/\K (mkR ds) os2:=⟨.inr rfl,ds,os2,he,by rw[hr];exact h⟩
variable {P:Program}
def Qz(g:J8->J5)(args:J8)(os:J7):Option (Bool×D×J7):=
 (Ya os args).bind λp=>(g (p.1.map .x)).map λr=>(r.1,r.2,p.2)
theorem ZEI{f:FuncId}{g:J8->J5}(h: ∀args r,g args=some (true,r)->ZC P f args r): ∀args os r os',Qz g args os=some (true,r,os')->ZN P f args os r os':=by
 intro args os r os' hh;obtain⟨p,hp,hh⟩:=Zp hh;obtain⟨⟨q1,q2⟩,hq,e⟩:=Zd hh;simp only[Za]at e;obtain⟨rfl,rfl,rfl⟩:=e;have hc:=h _ _ hq;intro c E vs R hvl;obtain⟨hlen,hv0⟩:=hvl;obtain⟨st',R1,ev1,hl1,hv1⟩:=ZBu (vs:=vs.toList) R (λj d v hd hv=>hv0 j d v hd (by simpa using hv)) (by simpa using hlen) hp;have hvl':VL ⟨E.w,st',[]⟩ [] (p.1.map D.x) vs:=by
  refine⟨by simpa using hl1,λj d v hd hv=> ?_⟩;rw[YG]at hd;obtain⟨y,hy,rfl⟩:=Zd hd;exact .x (hv1 j y v hy (by simpa using hv))
 refine(hc E.w st' vs (λb o hb=>(R1.stm b o hb).1) hvl').mono ?_;rintro e w' ⟨v,st2,rfl,hk,hs1,hs2,hv⟩;obtain⟨R2,ev2⟩:=R1.world w' st2 hk hs1 hs2;refine⟨v,_,rfl,rfl,R2,ev1.trans ev2,hv.mono (E:=⟨w',st2,[]⟩) (os:= []) ?_⟩;exact⟨λ_ _ h=>⟨h,rfl⟩,λ_ _ _ _ _ h=>by simp at h,λ_ _ _ _ h=>by simp at h⟩
section
variable {c:Ctx} {E0:Env} {os0:J7} {n:Nat}
def ZOc(P:Program)(c:Ctx)(E0:Env)(os0:J7)(n:Nat)(b:IC)(Q:Exit->J4->J7->Prop):Nat->J4->J7->Prop
 |0,_,_=>False
 |k+1,φ,os=>WI P c E0 os0 n b (ZHt (ZOc P c E0 os0 n b Q k) Q) φ os
theorem WI.loopN{b:IC}{Q:Exit->J4->J7->Prop}(k:Nat){φ:J4}{os:J7}(h:ZOc P c E0 os0 n b Q k φ os):WI P c E0 os0 n (.loop b) Q φ os:=by
 intro code hc E a R hf;obtain⟨cb,rfl,h1⟩:=ZKJ hc;refine wp_loop_rounds k ?_;clear hc
 induction k generalizing φ os E a with
 |zero=>exact h.elim
 |succ k ih=>
  rw[rounds_succ];refine wp_mono (h cb h1 E a R hf) ?_;rintro e a' w' ⟨E',φ',os',rfl,k2,k3,k4⟩;cases e with
  |normal=>exact ih k4 E' a' k2 k3
  |_=>exact⟨E',φ',os',rfl,k2,k3,k4⟩
theorem WI.round{b:IC}{Q:Exit->J4->J7->Prop}{k:Nat}{φ:J4}{os:J7}(h:WI P c E0 os0 n b (ZHt (ZOc P c E0 os0 n b Q k) Q) φ os):ZOc P c E0 os0 n b Q (k+1) φ os:=h
end
section
variable {P:Program}
theorem ZN.turn{α:Type}(enc:α->X)(val:α->Value)(hvx: ∀w st a,VX w st (enc a) (val a))(hinv: ∀w st a v,VX w st (enc a) v->v=val a){f:FuncId}{e:Nat}{zs ys:List α}(hl:ys.length=zs.length)(h00:zs= []->ys= [])
  (h0:zs= []-> ∀p cap w,Calls P f #[.slice p 0 cap] w λe w'=>e= .returned (.tuple #[])/\w'=w)
  (h1: ∀(g cap:Nat) (w:World) (cells:Array Value),zs≠ []->w.heap[g]? =some (.cells cells e (0,0))->cells.toList.take zs.length=zs.map val->zs.length<=cap->cap<=maxLen->cells.size=cap*1->
   Calls P f #[.slice (some ⟨g,0,none⟩) zs.length cap] w λe' w'=>e'= .returned (.tuple #[])/\w.grownBy w' (some g)/\w'.ownsRow 0 e 1 (.slice (some ⟨g,0,none⟩) zs.length cap) zs.length (ys.map val)):
  ZN P f [.ref 0 zs.length 0 zs.length] [.rows false e 1 (zs.map λa=> [enc a])] (.tup []) [.rows false e 1 (ys.map λa=> [enc a])]:=by
 intro c E vs R hvl;obtain⟨hsz,hv⟩:=hvl;obtain⟨v0,rfl⟩: ∃v0,vs= #[v0]:=by
  obtain⟨vl⟩:=vs
  match vl,hsz with
  | [a],_=>exact⟨a,rfl⟩
 have h:=hv 0 _ v0 rfl rfl;cases h with
 |ref hr _=>
  have ho: [Ob.rows false e 1 (zs.map λa=> [enc a])][0]? =some (Ob.rows false e 1 (zs.map λa=> [enc a])):=rfl;obtain⟨k1,k2⟩:=hr.at ho rfl;obtain⟨k3,b,a,cap,a',cap',k4,rfl,k6,k7,k8,k9,k10,k11⟩:=k2 J1;obtain⟨rfl,rfl⟩:=k8 rfl;obtain⟨p,hp,hok⟩:=R.at ho;rw[hp]at k4;have hpb:p=(b,.slice a' zs.length cap'):=ZCX k4;subst hpb;by_cases hz:zs= []
  .subst hz;obtain rfl:=h00 rfl;refine(h0 rfl a' cap' E.w).mono ?_;rintro _ w' ⟨rfl,rfl⟩;exact⟨_,E,rfl,rfl,R,Evo.refl _ _,.tup #[] rfl (λj d v h=>by simp at h)⟩
  .have hpos:0<zs.length:=ZLa.2 hz;obtain⟨xs,⟨q1,q2⟩,q3,q4⟩:=hok;rcases q2 with⟨q2,q5⟩|⟨g,cp,cells,fr,q5,q6,q7,q8,q9,q10,q11⟩
   .simp only[Yb]at q5;omega
   .simp only[Value.slice.injEq]at q5;obtain⟨rfl,_,rfl⟩:=q5;simp only[Yb,ZCB]at q10 q7 q1;have hfr:fr=(0,0):=by
     rcases q11 with q11|⟨q11,_⟩
     .exact q11
     .cases q11
    subst hfr;have hxs:xs=zs.map val:=by
     apply List.ext_getElem (by rw[q1];simp);intro i hi hi2;have hiz:i<zs.length:=by rw[q1]at hi;exact hi
     have:=q4 i [enc zs[i]] 0 (enc zs[i]) xs[i] (by rw[YG,YC hiz];rfl) rfl (by rw[ZCB,JK];exact YC hi);rw[hinv _ _ _ _ this];simp
    refine(h1 g cap' E.w cells hz q6 (by rw[q10,hxs]) q7 q8 q9).mono ?_;rintro _ w' ⟨rfl,hg,hown⟩;obtain⟨R',ev⟩:=R.set ho hp w' (.rows false e 1 (ys.map λa=> [enc a])) (b,.slice (some ⟨g,0,none⟩) zs.length cap') ⟨hg.os,hg.tape,hg.output,hg.size,λk hk hm=>hg.block k hk (λe=>hm (by cases e;rfl))⟩ (λb' hb'=> .inl hb') (λsz rs1 h=>by
      simp only[Ob.sl?,Ze,Za]at h;obtain⟨rfl,rfl⟩:=h;exact⟨(ys.map λa=> [enc a]).length,rfl,.inl ⟨by simp[hl],rfl⟩⟩) (λk h=>by cases h) (λev=>by
      refine⟨ys.map val,?_,λr hr=> ?_,λi r j x v h1 h2 h3=> ?_⟩
      .have:=QG.of_owns hown false;simpa[hl]using this
      .obtain⟨a,_,rfl⟩:=YT.1 hr;rfl
      .rw[YG]at h1;obtain⟨a,ha,rfl⟩:=Zd h1
       match j with
       |0=>
        simp only[ZCF,Ze]at h2;subst h2;rw[ZCB,JK,YG,ha]at h3;simp only[Yl,Ze]at h3;subst h3;exact hvx _ _ a
       |j+1=>simp at h2)
    exact⟨_,_,rfl,rfl,R',ev,.tup #[] rfl (λj d v h=>by simp at h)⟩
end
variable {P:Program} {c:Ctx} {E0:Env} {os0:J7} {n:Nat} {Q:Exit->J4->J7->Prop} {φ:J4} {os:J7}
theorem WI.join{x y:IC}(J:J4->J7->Prop)(h:WI P c E0 os0 n x (ZHt J Q) φ os)(h2: ∀φ' os',J φ' os'->WI P c E0 os0 n y Q φ' os'):WI P c E0 os0 n (.seq x y) Q φ os:=by
 refine WI.seq (h.mono λe φ' os' hh=> ?_);cases e with
 |normal=>exact h2 φ' os' hh
 |_=>exact hh
def Jo(kp:W0)(S:Tabs)(os0:J7)(k:Nat)(rs:W0):Nat->Bool->J4->Nat->J7->J7->Option J7->List IOp->Option (Bool×List (Nat×D)×J7)
 |_,b,φ,_,_,C,last,[]=>some (b,φ,last.getD (os0++C))
 |i,b,φ,id,os,C,last,o::l=>
  if o.e.frame then match JF S φ [] o with
   |some r=>Jo kp S os0 k rs (i+1) (b&&(r.1&&(!Zq i rs||ZDk kp φ o))) (putO φ o.dst r.2) id os C last l
   |none=>none
  else if Zq i rs then match JF S φ os0 o with
   |some r=>Jo kp S os0 k rs (i+1) (b&&(r.1&&(!Zq i rs||ZDk kp φ o))) (putO φ o.dst r.2) id os C last l
   |none=>none
  else if i<k then match JF S φ os0 o with
   |some r=>Jo kp S os0 k rs (i+1) (b&&(r.1&&(!Zq i rs||ZDk kp φ o))) (putO φ o.dst r.2) id os C last l
   |none=>match ZGF φ os o with
    |some r=>Jo kp S os0 k rs (i+1) (b&&(r.1&&(!Zq i rs||ZDk kp φ o))) (putO φ o.dst r.2) id os C last l
    |none=>match evK S φ os0 id o with
     |some r=>Jo kp S os0 k rs (i+1) (b&&(r.1&&(!Zq i rs||ZDk kp φ o))) (putO φ o.dst r.2.1) (id+1) (os++ [r.2.2]) (C++ [r.2.2]) last l
     |none=>none
  else match Qn S φ os o with
   |some r=>Jo kp S os0 k rs (i+1) (b&&(r.1&&((!Zq i rs||ZDk kp φ o)&&ZDX kp os0 r.2.2))) (putO φ o.dst r.2.1) id r.2.2 C (some r.2.2) l
   |none=>none
theorem ZD4{kp:W0}(S:Tabs)(os0:J7)(k:Nat)(rs:W0): ∀(l:List IOp) (i:Nat) (b:Bool) (φ:J4) (id:Nat) (os C:J7) (last:Option J7),
  Jo kp S os0 k rs i b φ id os C last l=(KW S os0 k rs i φ id os l).map λq=>(b&&(q.1&&(bxR kp rs i φ q.2.1 l&&ZFG kp os0 q.2.2)),Yq φ q.2.1,Zz q.2.2 (λ_=>true) 0 (last.getD (os0++C++YK q.2.1)))
 | [],i,b,φ,id,os,C,last=>by
  simp[Jo,KW,Yq,YK,Zz,bxR,ZFG]
 |o::l,i,b,φ,id,os,C,last=>by
  simp only[Jo,KW];split
  .cases JF S φ [] o with
   |none=>rfl
   |some r=>
    simp only[ZAC,ZD4 S os0 k rs l];cases KW S os0 k rs (i+1) (putO φ o.dst r.2) id os l with
    |none=>rfl
    |some q=>simp only[Yl,bxR,ZFG,Yq,YK,JY];congr 1;simp only[Za,and_true];ac_rfl
  .split
   .cases JF S φ os0 o with
    |none=>rfl
    |some r=>
     simp only[ZAC,ZD4 S os0 k rs l];cases KW S os0 k rs (i+1) (putO φ o.dst r.2) id os l with
     |none=>rfl
     |some q=>simp only[Yl,bxR,ZFG,Yq,YK,JY];congr 1;simp only[Za,and_true];ac_rfl
   .split
    .cases JF S φ os0 o with
     |some r=>
      simp only[ZD4 S os0 k rs l];cases KW S os0 k rs (i+1) (putO φ o.dst r.2) id os l with
      |none=>rfl
      |some q=>simp only[Yl,bxR,ZFG,Yq,YK,JY];congr 1;simp only[Za,and_true];ac_rfl
     |none=>
      cases ZGF φ os o with
      |some r=>
       simp only[ZD4 S os0 k rs l];cases KW S os0 k rs (i+1) (putO φ o.dst r.2) id os l with
       |none=>rfl
       |some q=>simp only[Yl,bxR,ZFG,Yq,YK,JY];congr 1;simp only[Za,and_true];ac_rfl
      |none=>
       cases evK S φ os0 id o with
       |none=>rfl
       |some r=>
        simp only[ZAC,ZD4 S os0 k rs l];cases KW S os0 k rs (i+1) (putO φ o.dst r.2.1) (id+1) (os++ [r.2.2]) l with
        |none=>rfl
        |some q=>simp only[Yl,bxR,ZFG,Yq,YK,JY,Yp,Qi,ZAy];congr 1;simp only[Za,and_true];ac_rfl
    .cases Qn S φ os o with
     |none=>rfl
     |some r=>
      simp only[ZAC,ZD4 S os0 k rs l];cases KW S os0 k rs (i+1) (putO φ o.dst r.2.1) id r.2.2 l with
      |none=>rfl
      |some q=>simp only[Yl,bxR,ZFG,Yq,YK,ZHm,ξW];congr 1;simp only[Za,and_true];ac_rfl
section
variable {P:Program} {c:Ctx} {E0:Env} {os0 os:J7} {n:Nat} {Q:Exit->J4->J7->Prop} {φ:J4}
theorem WI.dregY{S:Tabs}(hS:SsOk P S)(kp ks:W0){k k2:Nat}{rs rs2:W0}{l:List IOp}(h:YY (Jo kp S os k2 rs2 0 true φ os.length os [] none l) (λφ' os'=>Q .normal (Go.Ab.keep ks φ') os')):WI P c E0 os0 n (.dreg k rs k2 rs2 l) Q φ os:=by
 obtain⟨ok,φ',os',h1,rfl,h3⟩:=h;rw[ZD4]at h1;refine WI.dreg' (m:=some kp) hS (.inr ?_) rfl h3 (λ_ _ f=>f.keep ks);rw[<-h1];unfold ZHj;cases KW S os k2 rs2 0 φ os.length os l with
 |none=>rfl
 |some q=>simp[ZOl]
end
section
variable {S:Tabs} {os0 os C:J7} {k i id:Nat} {rs kp:W0} {φ φ':J4} {os':J7} {last:Option J7} {o:IOp} {l:List IOp} {ok:Bool} {d:D} {ob:Ob} {K:J4->J7->Prop} {Q:Exit->J4->J7->Prop} {ks:W0}
theorem xsN(h:K φ (last.getD (os0++C))):YY (Jo kp S os0 k rs i true φ id os C last []) K:=⟨true,φ,_,rfl,rfl,h⟩
theorem xsF(hf:o.e.frame=true)(hm:Zq i rs=false)(he:(JF S φ [] o).map (λr=>(r.1,putO φ o.dst r.2))=some (ok,φ'))(hok:ok=true)(h:YY (Jo kp S os0 k rs (i+1) true φ' id os C last l) K):YY (Jo kp S os0 k rs i true φ id os C last (o::l)) K:=by
 subst hok;obtain⟨r,h1,h2⟩:=Zd he;simp only[Za]at h2;obtain⟨h2,rfl⟩:=h2;simp only[Jo,hf,hm,if_true,h1,h2,QS,ZTG,ZLW];exact h
theorem xsR(hf:o.e.frame=false)(hm:Zq i rs=true)(hbl:ZDk kp φ o=true)(he:(JF S φ os0 o).map (λr=>(r.1,putO φ o.dst r.2))=some (ok,φ'))(hok:ok=true)(h:YY (Jo kp S os0 k rs (i+1) true φ' id os C last l) K):YY (Jo kp S os0 k rs i true φ id os C last (o::l)) K:=by
 subst hok;obtain⟨r,h1,h2⟩:=Zd he;simp only[Za]at h2;obtain⟨h2,rfl⟩:=h2;simp only[Jo,hf,hm,hbl,if_true,h1,h2,QS,ZNN,JP,if_false];exact h
theorem xsA(hf:o.e.frame=false)(hm:Zq i rs=false)(hk:Nat.ble (i+1) k=false)(he:(Qn S φ os o).map (λr=>(r.1&&ZDX kp os0 r.2.2,putO φ o.dst r.2.1,r.2.2))=some (ok,φ',os'))(hok:ok=true)(h:YY (Jo kp S os0 k rs (i+1) true φ' id os' C (some os') l) K):YY (Jo kp S os0 k rs i true φ id os C last (o::l)) K:=by
 subst hok;obtain⟨r,h1,h2⟩:=Zd he;simp only[Za]at h2;obtain⟨h2,rfl,rfl⟩:=h2;have hk': ¬i<k:=λh=>by have:=Nat.ble_eq_true_of_le h;rw[Nat.succ_eq_add_one,hk]at this;cases this
 simp only[Jo,hf,hm,h1,h2,hk',ZBP,ZTG,ZLW,JP,if_false];exact h
theorem xN(h:Q .normal φ' os')(hk:keep ks φ=φ':=by simp only[keep,QE,Nat.reduceEqDiff,if_true,if_false,↓reduceIte,JP];rfl)(hl:last.getD (os0++C)=os':=by simp only[ZNI,ξW,Kj,Qi,ZAy];rfl):YY (Jo kp S os0 k rs i true φ id os C last []) (λφ' os'=>Q .normal (keep ks φ') os'):=xsN (by rw[hk,hl];exact h)
theorem xFS(h:YY (Jo kp S os0 k rs (i+1) true φ' id os C last l) K)(hf:o.e.frame=true:=by rfl)(hm:Zq i rs=false:=by rfl)(he:(JF S φ [] o).map (λr=>(r.1,putO φ o.dst r.2))=some (ok,φ'):=by simp only[zC,JF,Qn,QA,Ky,Ob.beq_refl,JU,ZS,ZF,Ab.get,Ab.put,putO,Nat.reduceEqDiff,↓reduceIte,D.val,D.cond,reduceCtorEq,Nat.reduceAdd,JK,Jn];rfl)(hok:ok=true:=by rfl):YY (Jo kp S os0 k rs i true φ id os C last (o::l)) K:=xsF hf hm he hok h
theorem xRG(h:YY (Jo kp S os0 k rs (i+1) true φ' id os C last l) K)(hf:o.e.frame=false:=by rfl)(hm:Zq i rs=true:=by rfl)(hbl:ZDk kp φ o=true:=by rfl)(he:(JF S φ os0 o).map (λr=>(r.1,putO φ o.dst r.2))=some (ok,φ'):=by simp (disch:=omega) only[uu,zM,JF,Qn,QA,Ky,Ob.beq_refl,JU,ZS,ZF,Ab.get,Ab.put,putO,Nat.reduceEqDiff,↓reduceIte,D.val,D.cond,reduceCtorEq,YF,ZBs,Ob.isDrw,Jx,ZA5,Qv,ZDH,apm,ZAM,IE.isCall,D.cells?,Nat.reduceAdd,Nat.reduceLeDiff,Ob.slice?,Ob.dsl?,Ob.drw?,Nat.reduceSub,Nat.reduceMul,Int.reduceToNat,Int.reduceLE,Int.reduceLT,Int.reduceAdd,Int.reduceSub,Int.reduceMul,Int.reduceNeg,Int.reduceEq,Zx,ZFP,QK,ZE,Jv,Ya,Yi,Ju,Qb,ZAR,ZBN,QB,eqR,eqD,ZBW,eqX,nzD,ZCb,unD,ZCt,evK,evC,ZAK,Qx,Nat.reduceLT,zO];rfl)(hok:ok=true:=by first|with_reducible rfl|omega|(simp;done)|(simp;omega)|rfl|(clear uu;grind)|(clear h;clear uu;grind)):YY (Jo kp S os0 k rs i true φ id os C last (o::l)) K:=xsR hf hm hbl he hok h
theorem xAG(h:YY (Jo kp S os0 k rs (i+1) true φ' id os' C (some os') l) K)(hf:o.e.frame=false:=by rfl)(hm:Zq i rs=false:=by rfl)(hk:Nat.ble (i+1) k=false:=by rfl)(he:(Qn S φ os o).map (λr=>(r.1&&ZDX kp os0 r.2.2,putO φ o.dst r.2.1,r.2.2))=some (ok,φ',os'):=by simp (disch:=omega) only[uu,zM,JF,Qn,QA,ZDX,Jq,ZMF,ZK1,Ob.beq_refl,JU,ZS,ZF,Ab.get,Ab.put,putO,Nat.reduceEqDiff,↓reduceIte,D.val,D.cond,reduceCtorEq,YF,ZBs,Ob.isDrw,Jx,ZA5,Qv,ZDH,apm,ZAM,IE.isCall,D.cells?,Nat.reduceAdd,Nat.reduceLeDiff,Ob.slice?,Ob.dsl?,Ob.drw?,Nat.reduceSub,Nat.reduceMul,Int.reduceToNat,Int.reduceLE,Int.reduceLT,Int.reduceAdd,Int.reduceSub,Int.reduceMul,Int.reduceNeg,Int.reduceEq,Zx,ZFP,QK,ZE,Jv,Ya,Yi,Ju,Qb,ZAR,ZBN,QB,eqR,eqD,ZBW,eqX,nzD,ZCb,unD,ZCt,evK,evC,ZAK,Qx,Nat.reduceLT,zO];rfl)(hok:ok=true:=by first|with_reducible rfl|omega|(simp;done)|(simp;omega)|rfl|(clear uu;grind)|(clear h;clear uu;grind)):YY (Jo kp S os0 k rs i true φ id os C last (o::l)) K:=xsA hf hm hk he hok h
theorem xAC(h:YY (Jo kp S os0 k rs (i+1) true φ' id os' C (some os') l) K)(hf:o.e.frame=false:=by rfl)(hm:Zq i rs=false:=by rfl)(hk:Nat.ble (i+1) k=false:=by rfl)(he:(Qn S φ os o).map (λr=>(r.1&&ZDX kp os0 r.2.2,putO φ o.dst r.2.1,r.2.2))=some (ok,φ',os'):=by simp (disch:=omega) only[uu,zS,zW,zO,ZBg,ZFe,D.nn,D.na,ZR,Jt,IE.isCall,Nat.reduceAdd,Nat.reduceSub,Nat.reduceMul,Nat.reduceLeDiff,Nat.reduceLT,Nat.reduceBEq,Int.reduceToNat,Int.reduceLE,Int.reduceLT,Int.reduceAdd,Int.reduceSub,Int.reduceMul,Int.reduceNeg,Int.reduceEq,Nat.reduceEqDiff,YE,Jo,JU,ZS,YF,ZBs,Ob.isDrw,Jx,ZA5,Qv,ZDH,apm,ZF,Ab.get,Ab.put,putO,keep,QE,D.val,D.cond,D.cells?,D.scalar,X.scalar,D.plain,D.isX,ZCb,ZCR,eqD,ZBW,eqX,unD,ZE,ZCt,QK,Zx,Qp,JQ,Yi,Ya,Jv,Ju,Qb,ZAR,Ob.slice?,↓reduceIte,reduceCtorEq,JF,evK,evC,ZAK,Qx,Qn,QA,ZDX,Jq,ZMF,ZK1,eqR,nzD,ZAM,ZDb,ZDc,ZDY,ZCL,ZAp,ZBN,ZO,IE.frame,Zq,QB,IntWalk.i64_in,Yo,Jp,ZHB,Jd,ZIK,ZCw,ZAT,JZ,Qc,QY,Yr,D.inP,Ob.inP,Zy,D.ren,inv,YW,Ob.ren,KQ,Ko,KS,ZFB,JI];rfl)(hok:ok=true:=by first|with_reducible rfl|omega|(simp;done)|(simp;omega)|rfl|(clear uu;grind)|(clear h;clear uu;grind)):YY (Jo kp S os0 k rs i true φ id os C last (o::l)) K:=xsA hf hm hk he hok h
end
section
variable {P:Program} {c:Ctx} {E0:Env} {os0 os:J7} {n:Nat} {Q:Exit->J4->J7->Prop} {φ:J4}
end
structure Bx (B:Prop):Prop where
 h:B
theorem sd{p:Bool}(h:p=true:=by first|with_reducible rfl|omega|(simp;done)|(simp;omega)|rfl|(clear uu;grind)|(clear h;clear uu;grind)):p=true:=h
theorem se{p:Bool}(h:p=true:=by first|with_reducible rfl|omega):p=true:=h
section
variable {S:Tabs} {os:J7} {φ:J4} {l:List IOp} {K:J4->J7->Prop} {d:Option Nat} {g:Option (Nat×Bool)}
theorem oMk{x:IO}(h:YY (YE S true φ os (⟨d,.mv x,none⟩::l)) K):YY (YE S true φ os (⟨d,.mv x,none⟩::l)) K:=h
theorem oKk{x:IO}(h:YY (YE S true φ os (⟨d,.nck x,none⟩::l)) K):YY (YE S true φ os (⟨d,.nck x,none⟩::l)) K:=h
theorem oFk{a:Nat}{x:IO}(h:YY (YE S true φ os (⟨d,.fad a x,none⟩::l)) K):YY (YE S true φ os (⟨d,.fad a x,none⟩::l)) K:=h
theorem oGk{o:IOp}(h:YY (YE S true φ os (o::l)) K):YY (YE S true φ os (o::l)) K:=h
theorem oCk{f:IO}{xs:List IO}(h:YY (YE S true φ os (⟨d,.call f xs,g⟩::l)) K):YY (YE S true φ os (⟨d,.call f xs,g⟩::l)) K:=h
end
section
variable {P:Program} {c:Ctx} {E0:Env} {os0 os:J7} {n:Nat} {Q:Exit->J4->J7->Prop} {φ:J4}
theorem nz{A B:Prop}(h:A)(k:Bx A->B:=by(intro h;(repeat first|with_reducible refine ZB ?_|with_reducible refine WI.seq ?_|with_reducible refine WI.block ?_|with_reducible refine WI.skip ?_|with_reducible refine QR ?_|with_reducible refine ZSX ?_|with_reducible refine WI.exit ?_|with_reducible refine ZBx ?_|((with_reducible refine ZT0 ?_ ?_);(focus decide))|with_reducible refine KP ?_|with_reducible refine ZVj ?_);exact h.h)):B:=k ⟨h⟩
theorem rg{S:Tabs}(hS:SsOk P S)(ks:W0){l:List IOp}{A B:Prop}(h:A)(k:Bx B->YY (YE S true φ os l) (λφ' os'=>Q .normal (Go.Ab.keep ks φ') os'):=by(intro h;(repeat first|((with_reducible refine oMk ?_);refine oS ?_)|((with_reducible refine oKk ?_);refine oS ?_)|((with_reducible refine oFk ?_);refine oS ?_)|((with_reducible refine oGk ?_);(fail_if_success (with_reducible refine oCk ?_));refine oG ?_)|((with_reducible refine oCk ?_);refine oC ?_));refine oN ?_;exact h.h))(k2:Bx A->B:=by(intro h;refine nz ?_;exact h.h)):WI P c E0 os0 n (.reg l) Q φ os:=WI.regB hS ks (k ⟨k2 ⟨h⟩⟩)
theorem rgp{S:Tabs}(hS:SsOk P S)(ks:W0){l:List IOp}{A:Prop}(h:A)(k:Bx A->YY (YE S true φ os l) (λφ' os'=> ∃φ2 os2,Wk c E0 os0 n (Go.Ab.keep ks φ') os' φ2 os2/\Q .normal φ2 os2):=by(intro h;(repeat first|((with_reducible refine oMk ?_);refine oS ?_)|((with_reducible refine oKk ?_);refine oS ?_)|((with_reducible refine oFk ?_);refine oS ?_)|((with_reducible refine oGk ?_);(fail_if_success (with_reducible refine oCk ?_));refine oG ?_)|((with_reducible refine oCk ?_);refine oC ?_));refine oP ?_;exact h.h)):WI P c E0 os0 n (.reg l) Q φ os:=WI.post (WI.regB hS ks (k ⟨h⟩))
theorem cd{x:IO}{y z:IC}{b:Bool}{p q A B:Prop}(ht:p->A)(he:q->B)(hv:(ZF φ x).val= .x (.bool b):=by exact rfl)(hcd:(ZF φ x).cond=true:=by exact rfl)(hp:b=true->p:=by(intro h;first|(simp only[zB]at h;exact h)|exact h))(hq:b=false->q:=by(intro h;first|(simp only[zB]at h;exact h)|exact h))(kA:Bx A->WI P c E0 os0 n y Q φ os:=by(intro h;refine nz ?_;exact h.h))(kB:Bx B->WI P c E0 os0 n z Q φ os:=by(intro h;refine nz ?_;exact h.h)):WI P c E0 os0 n (.cond x y z) Q φ os:=
 WI.cond hv hcd (λh=>kA ⟨ht (hp h)⟩) (λh=>kB ⟨he (hq h)⟩)
theorem ce{x:IO}{y z:IC}{b:Bool}{q B:Prop}(ht:b=true->False)(he:q->B)(hv:(ZF φ x).val= .x (.bool b):=by exact rfl)(hcd:(ZF φ x).cond=true:=by exact rfl)(hq:b=false->q:=by(intro h;first|(simp only[zB]at h;exact h)|exact h))(kB:Bx B->WI P c E0 os0 n z Q φ os:=by(intro h;refine nz ?_;exact h.h)):WI P c E0 os0 n (.cond x y z) Q φ os:=
 WI.cond hv hcd (λh=>(ht h).elim) (λh=>kB ⟨he (hq h)⟩)
theorem ct{x:IO}{y z:IC}{b:Bool}{p A:Prop}(ht:p->A)(he:b=false->False)(hv:(ZF φ x).val= .x (.bool b):=by exact rfl)(hcd:(ZF φ x).cond=true:=by exact rfl)(hp:b=true->p:=by(intro h;first|(simp only[zB]at h;exact h)|exact h))(kA:Bx A->WI P c E0 os0 n y Q φ os:=by(intro h;refine nz ?_;exact h.h)):WI P c E0 os0 n (.cond x y z) Q φ os:=
 WI.cond hv hcd (λh=>kA ⟨ht (hp h)⟩) (λh=>(he h).elim)
theorem lf{A:Prop}(h:A)(k:Bx A->WI P c E0 os0 n .ret Q φ os:=by(intro h;refine WI.ret ?_;(repeat first|with_reducible refine Yy ?_|with_reducible refine ZAA ?_|with_reducible refine ZZb ?_);(first|refine lfR ?_|refine ZCE ?_|refine ZBv ?_|refine ZCG ?_);exact h.h)):WI P c E0 os0 n .ret Q φ os:=k ⟨h⟩
end
section
variable {P:Program} {c:Ctx} {E E0:Env} {os os0:J7} {n:Nat} {Q:Exit->J4->J7->Prop} {φ:J4}
theorem ZdT{α:Type}(l:List α)(i:Nat)(x:α)(h:l[i]? =some x):l.set i x=l:=by
 apply ZDN;intro j;rw[ZCx];by_cases hj:i=j
 .subst hj;rw[if_pos rfl,h];simp[(Zb h).1]
 .simp[hj]
theorem Rel.swap(R:Rel c E os){i:Nat}{o o':Ob}(ho:os[i]? =some o)(hs:o'.sl? =o.sl?)(hk:o.kd=none)(hm: ∀p b,o'.mb p b->o.mb p b)(hok: ∀(E':Env) (os':J7) p,Evo E os E' os'->E'.w=E.w->OK E os o p->OK E' os' o' p):Rel c E (os.set i o')/\Evo E os E (os.set i o'):=by
 obtain⟨p,hp,h⟩:=R.at ho;have:=R.set ho hp E.w o' p (Kept.refl _ _) (λb hb=> .inl (hm p b hb)) (λsz m hm=>⟨m,by rw[hs];exact hm,.inl ⟨rfl,rfl⟩⟩) (λk h=>by rw[hk]at h;cases h) (λev=>hok _ _ p ev rfl h);rw[ZdT _ _ _ hp]at this;exact this
theorem Rel.toD(R:Rel c E os){i e sz:Nat}{rs:J6}(ho:os[i]? =some (.rows false e sz rs)):Rel c E (os.set i (.drw e sz (KN rs)))/\Evo E os E (os.set i (.drw e sz (KN rs))):=by
 refine R.swap ho (by simp[Ob.sl?,ZBZ]) rfl (λp b h=>h) (λE' os' p ev hw h=> ?_);obtain⟨xs,h1,h2,h3⟩:=h;refine⟨xs,by rw[hw,ZBZ];exact h1,λr hr=> ?_,λi r j d v hr hd hv=> ?_⟩
 .obtain⟨r0,h0,rfl⟩:=YT.1 hr;rw[Yb];exact h2 r0 h0
 .obtain⟨r0,x,g1,g2,rfl⟩:=ZRw hr hd;have:=h3 i r0 j x v g1 g2 hv;exact⟨.x (this.mono ev.st),this.one⟩
theorem Rel.toX(R:Rel c E os){i e sz:Nat}{rs:J6}(ho:os[i]? =some (.drw e sz (KN rs))):Rel c E (os.set i (.rows false e sz rs))/\Evo E os E (os.set i (.rows false e sz rs)):=by
 refine R.swap ho (by simp[Ob.sl?,ZBZ]) rfl (λp b h=>h) (λE' os' p ev hw h=> ?_);obtain⟨xs,h1,h2,h3⟩:=h;refine⟨xs,by rw[hw];rw[ZBZ]at h1;exact h1,λr hr=> ?_,λi r j x v hr hx hv=> ?_⟩
 .have:=h2 (r.map D.x) (YT.2 ⟨r,hr,rfl⟩);rwa [Yb]at this
 .have hr':(KN rs)[i]? =some (r.map D.x):=by unfold KN;rw[YG,hr];rfl
  exact(h3 i _ j (.x x) v hr' (by rw[YG,hx];rfl) hv).1.xx.mono ev.st
theorem Wk.toD{i e sz:Nat}{rs:J6}(ho:os[i]? =some (.rows false e sz rs)):Wk c E0 os0 n φ os φ (os.set i (.drw e sz (KN rs))):=λE a R hf=>by
 obtain⟨R1,e1⟩:=R.rel.toD ho;exact⟨E,rfl,⟨R1,R.evo.trans e1⟩,hf.mono e1⟩
theorem Wk.toX{i e sz:Nat}{rs:J6}(ho:os[i]? =some (.drw e sz (KN rs))):Wk c E0 os0 n φ os φ (os.set i (.rows false e sz rs)):=λE a R hf=>by
 obtain⟨R1,e1⟩:=R.rel.toX ho;exact⟨E,rfl,⟨R1,R.evo.trans e1⟩,hf.mono e1⟩
theorem WI.toDA(i:Nat){e sz:Nat}{rs:J6}{ic:IC}{os':J7}(h:WI P c E0 os0 n ic Q φ os')(ho:os[i]? =some (.rows false e sz rs):=by rfl)(hs:os.set i (.drw e sz (KN rs))=os':=by simp only[ZDM,ZCp];rfl):WI P c E0 os0 n ic Q φ os:=WI.weak (Wk.toD ho) (by rw[hs];exact h)
theorem WI.toXA(i:Nat){e sz:Nat}{rs:J6}{ic:IC}{os':J7}(h:WI P c E0 os0 n ic Q φ os')(ho:os[i]? =some (.drw e sz (KN rs)):=by rfl)(hs:os.set i (.rows false e sz rs)=os':=by simp only[ZDM,ZCp];rfl):WI P c E0 os0 n ic Q φ os:=WI.weak (Wk.toX ho) (by rw[hs];exact h)
end
section
variable {P:Program} {c:Ctx} {E E0:Env} {os os0:J7} {n:Nat} {Q:Exit->J4->J7->Prop} {φ:J4}
end
section
variable {P:Program} {c:Ctx} {E0:Env} {os os0:J7} {n:Nat} {Q:Exit->J4->J7->Prop} {φ:J4}
end
section
variable {P:Program} {c:Ctx} {E0:Env} {os os0:J7} {n:Nat} {Q:Exit->J4->J7->Prop} {φ:J4}
def kN(K:J4->J7->Prop):Exit->J4->J7->Prop:=λ_ φ os=>K φ os
theorem ZJb{K:J4->J7->Prop}(h:K φ os): ∃φ2 os2,Wk c E0 os0 n φ os φ2 os2/\kN K .normal φ2 os2:=⟨φ,os,Wk.refl,h⟩
end
def ZHp:J7->J7->Bool
 | [],[]=>true
 |x::l,y::l'=>Ob.beq x y&&ZHp l l'
 |_,_=>false
theorem ZMt: ∀ {a b:J7},ZHp a b=true->a=b
 | [],b,h=>by cases b<;>simp[ZHp]at h;rfl
 |x::l,b,h=>by
  cases b<;>simp[ZHp]at h
  rw[Ob.beq_eq h.1,ZMt h.2]
theorem ZJp: ∀a:J7,ZHp a a=true
 | []=>rfl
 |x::l=>by simp only[ZHp,ZT];exact⟨Ob.beq_refl x,ZJp l⟩
def ptT(S:Tabs)(f:FuncId)(A:J8)(O:J7)(r:D)(O':J7):Tabs:=⟨S.q,λf' args os=>if f'=f/\D.beqL args A=true/\ZHp os O=true then some (true,r,O')else S.t f' args os,S.r,S.k⟩
theorem ZDZ{P:Program}{S:Tabs}(hS:SsOk P S){f:FuncId}{A:J8}{O O':J7}{r:D}(he:Enters P f)(hm:ZN P f A O r O'):SsOk P (ptT S f A O r O'):=by
 refine⟨hS.q,λf' args os r' os' h=> ?_,hS.r,hS.k⟩;simp only[ptT]at h;split at h
 .rename_i hh;obtain⟨rfl,h2,h3⟩:=hh;rw[D.beqL_eq h2,ZMt h3];simp only[Ze,Za,true_and]at h;obtain⟨rfl,rfl⟩:=h;exact⟨he,hm⟩
 .exact hS.t f' args os r' os' h
theorem ZJR(S:Tabs)(f:FuncId)(A:J8)(O:J7)(r:D)(O':J7):(ptT S f A O r O').t f A O=some (true,r,O'):=if_pos ⟨rfl,D.beqL_refl A,ZJp O⟩
theorem ZJn(S:Tabs)(f:FuncId)(A:J8)(O:J7)(r:D)(O':J7):(ptT S f A O r O').q=S.q:=rfl
theorem ZJQ(S:Tabs)(f:FuncId)(A:J8)(O:J7)(r:D)(O':J7):(ptT S f A O r O').r=S.r:=rfl
theorem ZJj(S:Tabs)(f:FuncId)(A:J8)(O:J7)(r:D)(O':J7):(ptT S f A O r O').k=S.k:=rfl
theorem D.ren_id(f:Nat->Nat)(h: ∀i,f i=i)(d:D):d.ren f=d:=by
 refine D.rec (motive_1:=λd=>d.ren f=d) (motive_2:=λl=>Zy f l=l) ?_ ?_ ?_ ?_ ?_ ?_ ?_ ?_ ?_ ?_ ?_ ?_ ?_ ?_ ?_ ?_ ?_ ?_ ?_ d
 all_goals intros
 all_goals first|rfl|(simp only[D.ren,Zy,h];done)|(simp only[D.ren,Zy,h];simp_all)
theorem ZIg(f:Nat->Nat)(h: ∀i,f i=i): ∀l:J8,Zy f l=l
 | []=>rfl
 |d::l=>by rw[Zy,D.ren_id f h,ZIg f h l]
theorem ZU7(f:Nat->Nat)(h: ∀i,f i=i)(p:Pr):JZ f p=p:=by
 unfold JZ;rw[ZIg f h]
theorem ZRg{α:Type}(f:α->α)(h: ∀x,f x=x)(l:List α):l.map f=l:=by
 induction l with
 |nil=>rfl
 |cons a l ih=>rw[YO,h,ih]
theorem Ob.ren_id(f:Nat->Nat)(h: ∀i,f i=i)(o:Ob):o.ren f=o:=by
 cases o<;>simp only[Ob.ren,h,ZIg f h,ZRg (JZ f) (ZU7 f h),ZRg (Zy f) (ZIg f h)]
 rename_i cur;cases cur<;>simp only[ZAD,Yl,ZU7 f h]
theorem ZXA(h:J8->J7->Option (Bool×D×J7))(args:J8)(OS:J7)(i:Nat)(fz:Bool)(e sz:Nat)(rs:J6)(fz':Bool)(e' sz':Nat)(rs':J6)(ok:Bool)(r:D)
  (hi:Jd args= [i]) (hn:Yr (λj=>Zq j [i]) args=true) (ho:OS[i]? =some (.rows fz e sz rs)) (hr: ∀f,r.ren f=r)
  (hh:h (Zy (inv [i]) args) [.rows fz e sz rs]=some (ok,r,[.rows fz' e' sz' rs'])):Yo h args OS=some (ok,r,OS.set i (.rows fz' e' sz' rs')):=by
 have hlt:i<OS.length:=(Zb ho).1;have hg:OS.getD i .dead= .rows fz e sz rs:=by rw[ZIW,ho];rfl
 have hm:Zq i []=false:=rfl;have hre:Jp OS 64 (Jd args) []= [i]:=by
  rw[hi];simp only[Jp,hm,hg,ZIK];rfl
 have hfp:YW [i] OS= [.rows fz e sz rs]:=by
  unfold YW;simp only[YO,ZAu,hg];rfl
 unfold Yo;rw[hre,hfp,hh,if_pos (by
  unfold Qc;simp only[ZAe,ZGw,hg,hn,ZL hlt,QY];rfl)]
 rw[ZAC,if_pos J1,hr];congr 3;unfold Ko;simp only[YO,ZAu,KS,ZEu,ZBy,JG,ξN,Kj];rfl
def fam(e sz:Nat)(l:List J6):J7:=l.map λrs=> .rows false e sz rs
def ZF8(sz:Nat)(l:List J6):J7:=l.map λrs=> .frz sz rs
theorem ZMC(e sz:Nat)(l:List J6):(fam e sz l).length=l.length:=by simp[fam]
theorem ZHE(sz:Nat)(l:List J6):(ZF8 sz l).length=l.length:=by simp[ZF8]
theorem ZUj(o:Ob)(e sz:Nat): ∀(l A:List J6),frzL (List.range' (A.length+1) l.length) (o::(ZF8 sz A++fam e sz l))=o::ZF8 sz (A++l)
 | [],A=>by simp[frzL,fam]
 |r::l,A=>by
  have ih:=ZUj o e sz l (A++ [r]);have hg:(o::(ZF8 sz A++fam e sz (r::l)))[A.length+1]? =some (.rows false e sz r):=by
   rw[ZCD,Qe (by rw[ZHE];exact Zm _),ZHE,ZIN];rfl
  have hs:(o::(ZF8 sz A++fam e sz (r::l))).set (A.length+1) (.frz sz r)=o::(ZF8 sz (A++ [r])++fam e sz l):=by
   rw[ZCp,ZEy _ _ (by rw[ZHE];exact Zm _),ZHE,ZIN];simp[ZF8,fam]
  rw[JG,List.range'_succ,frzL,hg];dsimp only;rw[hs];rw[Zg,ZKx,Yp]at ih;exact ih
def Qh:Nat->List J6->List J8
 |_,[]=> []
 |k,rs::l=> [.ref k rs.length 0 rs.length]::Qh (k+1) l
theorem ZUH(sz:Nat)(os:J7): ∀(l:List J6) (k:Nat),(∀i r,l[i]? =some r->os[k+i]? =some (.frz sz r))->((Qh k l).map (List.map (onF [0] os))).map (Zy (inv [0]))=KN (l.map λrs=> [.sl rs])
 | [],k,_=>rfl
 |r::l,k,h=>by
  have h0:=h 0 r rfl;have ih:=ZUH sz os l (k+1) (λi x hx=>by rw[show k+1+i=k+(i+1) by omega];exact h (i+1) x hx);have hv:onF [0] os (.ref k r.length 0 r.length)= .x (.sl r):=by
   unfold onF;rw[D.vw,show os[k]? =some (.frz sz r)from h0];dsimp only;rw[if_pos rfl,ZBy,JS];rfl
  rw[Qh,YO,YO,ih,YO,ZAu,hv];rfl
theorem Zf4(e sz:Nat)(l:List J6):ZCs [0] (.drw e 1 (Qh 1 l)::ZF8 sz l)= [.drw e 1 (KN (l.map λrs=> [.sl rs]))]:=by
 have h:=ZUH sz (.drw e 1 (Qh 1 l)::ZF8 sz l) l 1 (λi r hr=>by rw[ZPe,ZCD];unfold ZF8;rw[YG,hr];rfl);unfold ZCs YW;simp only[YO,ZAu,ZLF,Ob.mp,Ob.onI,Ob.ren];rw[h]
theorem ZC6(k i:Nat):Zq i (List.range k)=decide (i<k):=by
 rw[Qj,ZBp,ZHL,Zc]
theorem ZCY{k i:Nat}(h:i<k):inv (List.range k) i=i:=ZLi List.nodup_range (by rw[ZPC h])
theorem ZQP{OS X:J7}(hO:OS.all (Ob.inP (λi=>decide (i<OS.length)))=true):YW (List.range OS.length) (OS++X)=OS:=by
 apply ZDN;intro i;unfold YW;rw[YG];by_cases h:i<OS.length
 .rw[ZPC h,Yl,ZIW,Ym h,YC h,ξW];have hp:=Yc.1 hO _ (YM h);have:=Ob.ren_ren (F:=λi=>i) (g:=inv (List.range OS.length)) (p:=λi=>decide (i<OS.length)) (λj hj=>ZCY (of_decide_eq_true hj)) OS[i] hp;rw[Ob.ren_id _ (λ_=>rfl)]at this;rw[this]
 .rw[ZCW (by simp;omega),ZCW J0];rfl
section
variable {P:Program} {c:Ctx} {E0:Env} {os0:J7} {n:Nat} {Q:Exit->J4->J7->Prop} {φ:J4}
theorem ZUE(p:Nat->Bool): ∀(φ:J4),φ.all (λq=>q.2.inP p)=true-> ∀t,(get φ t).inP p=true
 | [],_,t=>rfl
 |(s,d)::φ,h,t=>by
  rw[ZAe,ZT]at h;unfold Go.Ab.get;split
  .exact h.1
  .exact ZUE p φ h.2 t
theorem Wk.dropT{OS X:J7}(h0:os0.length<=OS.length)(hO:OS.all (Ob.inP (λi=>decide (i<OS.length)))=true)(hφ:φ.all (λp=>p.2.inP (λi=>decide (i<OS.length)))=true):Wk c E0 os0 n φ (OS++X) φ OS:=by
 intro E a R hf;have hn:(List.range OS.length).Nodup:=List.nodup_range;have hlt: ∀r∈List.range OS.length,r<(OS++X).length:=λr hr=>by have:=ZHL.1 hr;simp;omega
 have hm:(λi=>Zq i (List.range OS.length))=λi=>decide (i<OS.length):=funext (ZC6 _)
 have R2:=R.rel.pickO hn hlt (λr hr=>by
  have h:=ZHL.1 hr;rw[ZIW,Ym h,YC h,ξW,hm];exact Yc.1 hO _ (YM h))
 have e2:=ZLc (ρ:=List.range OS.length) R.rel hlt;rw[ZQP hO]at R2 e2;refine⟨fpE (List.range OS.length) E,rfl,⟨R2,?_⟩,hf.size,hf.defers,λt=> ?_⟩
 .have e01:=R.evo;refine⟨e01.st,λid b cu ds k ho hkd hb=> ?_,λid o sz rs ho hs=> ?_⟩
  .have hi:=(Zb ho).1;obtain⟨cu1,ds1,k1,kd1,k2⟩:=e01.bl id b cu ds k ho hkd hb;obtain⟨cu2,ds2,k3,kd2,k4⟩:=e2.bl id b cu1 ds1 k (by rw[ZC6];exact ZL J0) k1 kd1 k2;rw[ZCY J0]at k3 k4;exact⟨cu2,ds2,k3,kd2,k4⟩
  .have hi:=(Zb ho).1;obtain⟨o1,rs1,k1,k2,k3⟩:=e01.rf id o sz rs ho hs;obtain⟨o2,rs2,k4,k5,k6⟩:=e2.rf id o1 sz rs1 (by rw[ZC6];exact ZL J0) k1 k2;rw[ZCY J0]at k4 k6;refine⟨o2,rs2,k4,k5,?_⟩;rcases k3 with⟨k3,k3'⟩|k3<;>rcases k6 with⟨k6,k6'⟩|k6
   .exact .inl ⟨k3.trans k6,k6'.trans k3'⟩
   .exact .inr J0
   .exact .inr J0
   .exact .inr J0
 .have hp:=ZUE _ φ hφ t;have h1:V (fpE (List.range OS.length) E) OS ((get φ t).ren (inv (List.range OS.length))) (a.tmps.getD t undef):=(hf.slot t).monoR e2 (by rw[hm];exact hp);have h2:=D.ren_ren (F:=λi=>i) (g:=inv (List.range OS.length)) (p:=λi=>decide (i<OS.length)) (λj hj=>ZCY (of_decide_eq_true hj)) (get φ t) hp;rw[D.ren_id _ (λ_=>rfl)]at h2;rwa [h2]at h1
theorem ZNh(OS X:J7){os:J7}(e:os=OS++X)(h0:os0.length<=OS.length)(hO:OS.all (Ob.inP (λi=>decide (i<OS.length)))=true)(hφ:φ.all (λp=>p.2.inP (λi=>decide (i<OS.length)))=true)(h: ∃φ2 os2,Wk c E0 os0 n φ OS φ2 os2/\Q .normal φ2 os2): ∃φ2 os2,Wk c E0 os0 n φ os φ2 os2/\Q .normal φ2 os2:=by
 subst e;obtain⟨φ2,os2,h1,h2⟩:=h;exact⟨φ2,os2,(Wk.dropT h0 hO hφ).trans h1,h2⟩
theorem WI.dropT(OS X:J7){os:J7}{ic:IC}(e:os=OS++X)(h0:os0.length<=OS.length)(hO:OS.all (Ob.inP (λi=>decide (i<OS.length)))=true)(hφ:φ.all (λp=>p.2.inP (λi=>decide (i<OS.length)))=true)(h:WI P c E0 os0 n ic Q φ OS):WI P c E0 os0 n ic Q φ os:=by
 subst e;exact WI.weak (Wk.dropT h0 hO hφ) h
end
theorem ZcX(p:Nat->Bool)(e sz:Nat)(l:List J6):(fam e sz l).all (Ob.inP p)=true:=by
 unfold fam;rw[ZF6];exact Yc.2 λ_ _=>rfl
theorem ZPx: ∀(l:List J6) (k:Nat),(Qh k l).length=l.length
 | [],_=>rfl
 |r::l,k=>by rw[Qh,JG,ZPx l,JG]
theorem ZQc: ∀(l:List J6) (k i:Nat) (r:J6),l[i]? =some r->(Qh k l)[i]? =some [.ref (k+i) r.length 0 r.length]
 | [],_,i,r,h=>by simp at h
 |r::l,k,0,x,h=>by simp at h;subst h;rfl
 |r::l,k,i+1,x,h=>by
  rw[Qh,ZCD,ZQc l (k+1) i x (by simpa using h),show k+1+i=k+(i+1) by omega]
theorem ZNY: ∀(l:List J6) (k:Nat) (r:J6),Qh k (l++ [r])=Qh k l++ [[.ref (k+l.length) r.length 0 r.length]]
 | [],k,r=>rfl
 |x::l,k,r=>by rw[Qi,Qh,ZNY l,Qh,JG,show k+1+l.length=k+(l.length+1) by omega];rfl
theorem ZMU: ∀(l l':List J6) (k:Nat),l.map List.length=l'.map List.length->Qh k l=Qh k l'
 | [],[],_,_=>rfl
 | [],_::_,_,h=>by simp at h
 |_::_,[],_,h=>by simp at h
 |x::l,y::l',k,h=>by
  rw[YO,YO,ZF1]at h;rw[Qh,Qh,h.1,ZMU l l' _ h.2]
theorem ZQW(n:Nat): ∀(l:List J6) (k:Nat),k+l.length<=n->(Qh k l).all (Yr (λi=>decide (i<n)))=true
 | [],_,_=>rfl
 |r::l,k,h=>by
  rw[JG]at h;rw[Qh,ZAe,ZQW n l (k+1) J0,QS];simp only[Yr,D.inP,QS,Zc];omega
def Zgn(e:Nat)(l:List J6):Ob:= .drw e 1 (Qh 1 l)
theorem Zah(e e2 sz:Nat)(l:List J6):(Zgn e l::fam e2 sz l).all (Ob.inP (λi=>decide (i<(Zgn e l::fam e2 sz l).length)))=true:=by
 rw[ZAe,ZcX,QS,JG,ZMC];exact ZQW _ l 1 J0
theorem Zhp(e sz:Nat)(l:List J6)(Y:J7)(i:Nat)(r:J6)(h:l[i]? =some r):(fam e sz l++Y)[i]? =some (.rows false e sz r):=by
 have hi:=(Zb h).1;rw[Ym (by rw[ZMC];exact hi)];unfold fam;rw[YG,h];rfl
theorem Zfg(e sz:Nat)(l:List J6)(Y:J7)(i:Nat)(r:J6)(h:i<l.length):(fam e sz l++Y).set i (.rows false e sz r)=fam e sz (l.set i r)++Y:=by
 rw[ZPg _ _ (by rw[ZMC];exact h)];unfold fam;rw[ZMl]
theorem ZcQ(e sz:Nat)(l:List J6)(r:J6):fam e sz (l++ [r])=fam e sz l++ [.rows false e sz r]:=by simp[fam]
def ZWG(A:J8)(O:J7)(r:D)(O':J7)(args:J8)(os:J7):Option (Bool×D×J7):=if D.beqL args A=true/\ZHp os O=true then some (true,r,O')else none
theorem ZU3{P:Program}{f:FuncId}{A:J8}{O O':J7}{r:D}(hc:ZN P f A O r O'): ∀args os r' os',ZWG A O r O' args os=some (true,r',os')->ZN P f args os r' os':=by
 intro args os r' os' h;unfold ZWG at h;split at h
 .rename_i hh;rw[D.beqL_eq hh.1,ZMt hh.2];simp only[Ze,Za,true_and]at h;obtain⟨rfl,rfl⟩:=h;exact hc
 .cases h
theorem ZUJ(A:J8)(O:J7)(r:D)(O':J7):ZWG A O r O' A O=some (true,r,O'):=if_pos ⟨D.beqL_refl A,ZJp O⟩
theorem ZN.row{P:Program}{f:FuncId}{args:J8}{OS:J7}{r:D}(i:Nat){fz fz':Bool}{e sz e' sz':Nat}{rs rs':J6}(hc:ZN P f (Zy (inv [i]) args) [.rows fz e sz rs] r [.rows fz' e' sz' rs'])
  (ho:OS[i]? =some (.rows fz e sz rs)) (hi:Jd args= [i]) (hn:Yr (λj=>Zq j [i]) args=true) (hr: ∀f,r.ren f=r):ZN P f args OS r (OS.set i (.rows fz' e' sz' rs')):=
 ZN.lift (ZU3 hc) _ _ _ _ (ZXA _ _ _ i fz e sz rs fz' e' sz' rs' true _ hi hn ho hr (ZUJ _ _ _ _))
theorem ZN.new{P:Program}{f:FuncId}{args:J8}{OS os':J7}{r:D}(hc:ZN P f args [] r os')(hi:Jd args= [])(hn: ∀p,Yr p args=true):ZN P f args OS (r.ren (λi=>OS.length+i)) (OS++os'.map (Ob.ren (λi=>OS.length+i))):=by
 have hren: ∀g,Zy g args=args:=λg=>by
  have:=ZKD (F:=λi=>i) (g:=g) (p:=λ_=>false) (λi h=>by cases h) args (hn _);rwa [ZIg _ (λ_=>rfl)]at this
 refine ZN.lift (h:=ZWG args [] r os') (ZU3 hc) _ _ _ _ ?_;have hre:Jp OS 64 (Jd args) []= []:=by rw[hi];rfl
 have hf:KQ [] OS.length os'.length=λi=>OS.length+i:=funext λi=>by simp[KQ]
 unfold Yo;rw[hre,if_pos (by simp[Qc,hn,QY]),hren,show YW [] OS= []from rfl,ZUJ,ZAC];dsimp only;rw[if_pos (show([]:W0).length<=os'.length from KE _)];unfold Ko;rw[hf];cases os'<;>rfl
section
variable {P:Program}
theorem ZI.mcallsX{f:FuncId}{args:J8}{r:D}{os os':J7}(h:ZI P f args os (λr' os2=>r'=r/\ ∃X,os2=os'++X))(h0:os.length<=os'.length)(hO:os'.all (Ob.inP (λi=>decide (i<os'.length)))=true)(hr:r.inP (λi=>decide (i<os'.length))=true):ZN P f args os r os':=by
 intro c E vs R hvl;refine(h c E vs R hvl).mono ?_;rintro e w' ⟨v,E',r',os2,rfl,rfl,R',ev,hv,rfl,X,rfl⟩;have hn:(List.range os'.length).Nodup:=List.nodup_range;have hlt: ∀r∈List.range os'.length,r<(os'++X).length:=λr hr=>by have:=ZHL.1 hr;simp;omega
 have hm:(λi=>Zq i (List.range os'.length))=λi=>decide (i<os'.length):=funext (ZC6 _)
 have R2:=R'.pickO hn hlt (λr hr=>by
  have h:=ZHL.1 hr;rw[ZIW,Ym h,YC h,ξW,hm];exact Yc.1 hO _ (YM h))
 have e2:=ZLc (ρ:=List.range os'.length) R' hlt;rw[ZQP hO]at R2 e2;refine⟨v,fpE (List.range os'.length) E',rfl,rfl,R2,?_,?_⟩
 .refine⟨ev.st,λid b cu ds k ho hkd hb=> ?_,λid o sz rs ho hs=> ?_⟩
  .have hi:=(Zb ho).1;obtain⟨cu1,ds1,k1,kd1,k2⟩:=ev.bl id b cu ds k ho hkd hb;obtain⟨cu2,ds2,k3,kd2,k4⟩:=e2.bl id b cu1 ds1 k (by rw[ZC6];exact ZL J0) k1 kd1 k2;rw[ZCY J0]at k3 k4;exact⟨cu2,ds2,k3,kd2,k4⟩
  .have hi:=(Zb ho).1;obtain⟨o1,rs1,k1,k2,k3⟩:=ev.rf id o sz rs ho hs;obtain⟨o2,rs2,k4,k5,k6⟩:=e2.rf id o1 sz rs1 (by rw[ZC6];exact ZL J0) k1 k2;rw[ZCY J0]at k4 k6;refine⟨o2,rs2,k4,k5,?_⟩;rcases k3 with⟨k3,k3'⟩|k3<;>rcases k6 with⟨k6,k6'⟩|k6
   .exact .inl ⟨k3.trans k6,k6'.trans k3'⟩
   .exact .inr J0
   .exact .inr J0
   .exact .inr J0
 .have h1:V (fpE (List.range os'.length) E') os' (r'.ren (inv (List.range os'.length))) v:=hv.monoR e2 (by rw[hm];exact hr);have h2:=D.ren_ren (F:=λi=>i) (g:=inv (List.range os'.length)) (p:=λi=>decide (i<os'.length)) (λj hj=>ZCY (of_decide_eq_true hj)) r' hr;rw[D.ren_id _ (λ_=>rfl)]at h2;rwa [h2]at h1
end
theorem ZC.mc{P:Program}{f:FuncId}{args:J8}{r:D}(h:ZC P f args r)(OS:J7)(hi:Jd args= []:=by rfl)(hn: ∀p,Yr p args=true:=by intro p;rfl)(hr: ∀g,r.ren g=r:=by intro g;rfl):ZN P f args OS r OS:=by
 have h0:ZN P f args [] r []:=by
  intro c E vs R hvl;have hob:E.ob= []:=ξS (by have:=R.len;simpa using this);obtain⟨w,st,ob⟩:=E;simp only at hob;subst hob;refine(h w st vs (λb o h=>(R.stm b o h).1) hvl).mono ?_;rintro e w' ⟨v,st',rfl,hk,h1,h2,hv⟩;obtain⟨R',ev⟩:=R.world w' st' hk h1 h2;exact⟨v,_,rfl,rfl,R',ev,hv⟩
 have:=ZN.new (OS:=OS) h0 hi hn;rw[hr,ZAu,Kj]at this;exact this
variable {P:Program} {c:Ctx} {E0:Env} {os0:J7} {n:Nat} {Q:Exit->J4->J7->Prop} {φ:J4} {os:J7}
def WR(P:Program)(c:Ctx)(E0:Env)(os0:J7)(n:Nat)(l:List IOp)(Q:Exit->J4->J7->Prop)(φ:J4)(os:J7):Prop:=
 ∀(ops:Array Oper) (lo:List Oper),lo.mapM (JB P n ops)=some l-> ∀(E:Env) (a:Act),Run c E0 os0 E os->Fr n E os φ a->
  wpList P ops (λx a' w'=> ∃E' φ' os',E'.w=w'/\Run c E0 os0 E' os'/\Fr n E' os' φ' a'/\Q x φ' os') lo a E.w
theorem WR.reg{l:List IOp}(h:WR P c E0 os0 n l Q φ os):WI P c E0 os0 n (.reg l) Q φ os:=by
 intro code hc E a R hf;obtain⟨id,ops,rfl,h1⟩:=ZI3 hc;exact wp_region_list (h ops _ h1 E a R hf)
theorem WR.regB{S:Tabs}(hS:SsOk P S)(ks:W0){l:List IOp}(h:YY (YE S true φ os l) (λφ' os'=>Q .normal (Go.Ab.keep ks φ') os')):WR P c E0 os0 n l Q φ os:=by
 intro ops lo h1 E a R hf;rw[ZGH]at h;obtain⟨ok,φ',os',h2,rfl,h3⟩:=h;obtain⟨⟨ok2,q⟩,h4,h5⟩:=Zd h2;simp at h5;obtain⟨rfl,rfl⟩:=h5;exact ZOX hS R.rel hf h1 h4 (λE' a' R' e' f'=>⟨E',_,_,rfl,⟨R',R.evo.trans e'⟩,f'.keep ks,h3⟩)
theorem ZNe{α β:Type}(f:α->Option β): ∀(k:Nat) (lo:List α) (l:List β),lo.mapM f=some l->(lo.take k).mapM f=some (l.take k)/\(lo.drop k).mapM f=some (l.drop k)
 |0,lo,l,h=>by simpa using h
 |k+1,[],l,h=>by simp at h;subst h;simp
 |k+1,x::lo,l,h=>by
  simp only[ZAL,Jr,JD,ZBA]at h;obtain⟨y,h1,l',h2,h3⟩:=h;cases h3;obtain⟨i1,i2⟩:=ZNe f k lo l' h2;refine⟨?_,by simpa using i2⟩;simp only[ξV,ZAL,h1,i1,Jr,ZAC,ZBA]
theorem ZUX{S:Tabs}(hS:SsOk P S){ops:Array Oper}{Q:Exit->Act->World->Prop}{lo2:List Oper}: ∀ {l:List Oper} {il:List IOp} {E:Env} {os:J7} {φ:J4} {a:Act},Rel c E os->Fr n E os φ a->l.mapM (JB P n ops)=some il-> ∀ {φ':J4} {os':J7},ZBE S φ os il=some (true,φ',os')->
  (∀E' a',Rel c E' os'->Evo E os E' os'->Fr n E' os' φ' a'->wpList P ops Q lo2 a' E'.w)->wpList P ops Q (l++lo2) a E.w
 | [],il,E,os,φ,a,R,hf,hm,φ',os',h,hQ=>by
  simp at hm;subst hm;cases h;exact hQ E a R (Evo.refl _ _) hf
 |o::l,il,E,os,φ,a,R,hf,hm,φ',os',h,hQ=>by
  simp only[ZAL,Jr,JD,ZBA]at hm;obtain⟨io,hio,il',hil,hm⟩:=hm;cases hm;simp only[ZBE,JD,ξm]at h;obtain⟨⟨ok,φ1,os1⟩,h1,⟨ok2,φ2,os2⟩,h2,h3⟩:=h;simp at h3;obtain⟨⟨rfl,rfl⟩,rfl,rfl⟩:=h3;rw[Qi];refine wpList_step λK hK=>ZUa hS R hf hio h1 (λE1 a1 R1 e1 f1=> ?_)
  exact hK _ _ (ZUX hS R1 f1 hil h2 (λE' a' R' e' f'=>hQ E' a' R' (e1.trans e') f'))
theorem WR.cut{S:Tabs}(hS:SsOk P S)(ks:W0)(k:Nat){l:List IOp}(h:YY (YE S true φ os (l.take k)) (λφ1 os1=> ∃φ2 os2,Wk c E0 os0 n (Go.Ab.keep ks φ1) os1 φ2 os2/\kN (λφ2 os2=>WR P c E0 os0 n (l.drop k) Q φ2 os2) .normal φ2 os2)):WR P c E0 os0 n l Q φ os:=by
 intro ops lo h1 E a R hf;rw[ZGH]at h;obtain⟨ok,φ',os',h2,rfl,φ2,os2,hw,h3⟩:=h;obtain⟨⟨ok2,q⟩,h4,h5⟩:=Zd h2;simp at h5;obtain⟨rfl,rfl⟩:=h5;obtain⟨i1,i2⟩:=ZNe _ k lo l h1;rw[<-ZDA k lo];refine ZUX hS R.rel hf i1 h4 (λE' a' R' e' f'=> ?_);obtain⟨E2,hE,R2,f2⟩:=hw E' a' ⟨R',R.evo.trans e'⟩ (f'.keep ks);rw[<-hE];exact h3 ops _ i2 E2 a' R2 f2
theorem WI.cutA{S:Tabs}(hS:SsOk P S)(ks:W0)(k:Nat){l:List IOp}(h:YY (YE S true φ os (l.take k)) (λφ1 os1=> ∃φ2 os2,Wk c E0 os0 n (Go.Ab.keep ks φ1) os1 φ2 os2/\kN (λφ2 os2=>WR P c E0 os0 n (l.drop k) Q φ2 os2) .normal φ2 os2)):WI P c E0 os0 n (.reg l) Q φ os:=
 WR.reg (WR.cut hS ks k h)
def X.nn0:X->X
 | .nils=> .sl []
 |x=>x
theorem VX.nn0{w:World}{st:Nat->Nat->Prop}{x:X}{v:Value}(h:VX w st x v):VX w st x.nn0 v:=by
 unfold X.nn0;split
 .exact h.nn
 .exact h
def D.nn1:D->D
 | .x (.sl rs)=> .x (.sl (rs.map (List.map X.nn0)))
 |d=>d
theorem V.nn1{E:Env}{os:J7}{d:D}{v:Value}(h:V E os d v):V E os d.nn1 v:=by
 unfold D.nn1;split
 .cases h with
  |x h=>
  cases h with
  |sl _ a n c sz val hn hc hm hsz hcell hnil hsp hval=>
   refine .x (.sl _ a n c sz val (by simpa using hn) hc hm (λr hr=> ?_) hcell hnil hsp (λi j r x hr hx=> ?_))
   .obtain⟨r0,h0,rfl⟩:=YT.1 hr;rw[Yb];exact hsz r0 h0
   .rw[YG]at hr;obtain⟨r0,h0,rfl⟩:=Zd hr;rw[YG]at hx;obtain⟨x0,hx0,rfl⟩:=Zd hx;exact(hval i j r0 x0 h0 hx0).nn0
 .exact h
def ZNl(φ:J4):J4:=φ.map λp=>(p.1,p.2.nn1)
theorem Zfv(φ:J4)(t:Nat):get (ZNl φ) t=(get φ t).nn1:=by
 induction φ with
 |nil=>rfl
 |cons p φ ih=>
  obtain⟨u,d⟩:=p;simp only[ZNl,YO,get];split
  .rfl
  .exact ih
theorem Wk.nn1:Wk c E0 os0 n φ os (ZNl φ) os:=λE a R hf=>⟨E,rfl,R,hf.size,hf.defers,λt=>by rw[Zfv];exact(hf.slot t).nn1⟩
theorem Zi1{φ':J4}(h: ∃φ2 os2,Wk c E0 os0 n φ' os φ2 os2/\Q .normal φ2 os2)(hp:ZNl φ=φ':=by simp only[ZNl,D.nn1,X.nn0,YO,ZAu];rfl): ∃φ2 os2,Wk c E0 os0 n φ os φ2 os2/\Q .normal φ2 os2:=by
 obtain⟨φ2,os2,h1,h2⟩:=h;subst hp;exact⟨φ2,os2,Wk.nn1.trans h1,h2⟩
def GP(P:Program)(f:FuncId):Option IFn:=((P.funcs[f]?).filter λfn=> !(fn.name== "runtime.NumGoroutine")).bind (ZFg P)
theorem ZVX(P:Program):GOk P (GP P):=by
 intro f p h;obtain⟨fn,h1,h2⟩:=Zp h;obtain⟨h3,h4⟩:=Option.filter_eq_some_iff.1 h1;exact⟨fn,h3,by simpa using h4,h2⟩
theorem ZU{P:Program}(f:FuncId)(h:(GP P f).isSome=true:=by kernel_rfl):Enters P f:=by
 obtain⟨p,hp⟩:=Option.isSome_iff_exists.1 h;exact Zc1 (ZVX P) hp
def FG(P:Program)(fz:Bool)(args:J8)(os:J7)(Post:D->J7->Prop):Option IFn->Prop
 |some p=>args.length<=p.n/\ ∀(c:Ctx) (E0:Env),WI P c E0 os p.n p.body (λx φ' os'=>(x= .normal\/x= .ret)/\ ∃ds os2,QC fz (λ_ _=>none) φ' os' p.res=some (true,ds,os2)/\Post (mkR ds) os2) (ZCl 0 args) os
 |none=>False
theorem FG.mk{P:Program}{fz:Bool}{args:J8}{os:J7}{Post:D->J7->Prop}{p:IFn}(h: ∀(c:Ctx) (E0:Env),WI P c E0 os p.n p.body (λx φ' os'=>(x= .normal\/x= .ret)/\ ∃ds os2,QC fz (λ_ _=>none) φ' os' p.res=some (true,ds,os2)/\Post (mkR ds) os2) (ZCl 0 args) os)(h1:args.length<=p.n:=by exact ξ rfl):FG P fz args os Post (some p):=⟨h1,h⟩
theorem FG.calls{P:Program}{fz:Bool}{f:FuncId}{args:J8}{os:J7}{Post:D->J7->Prop}(h:FG P fz args os Post (GP P f)):ZI P f args os Post:=by
 rcases hp:GP P f with _|p
 .rw[hp]at h;exact h.elim
 .rw[hp]at h;exact ZfM (ZVX P) hp args h.1 os h.2
theorem u8L(n:Nat)(h:n<2^8):UInt8.ofBitVec (BitVec.ofFin (Fin.mk n h))=UInt8.ofNatLT n h:=rfl
theorem fC{P:Program}{os:J7}{args:J8}{A:Prop}(f:FuncId)(z:Bool){Post:D->J7->Prop}(h:A)(k:Bx A->FG P z args os Post (GP P f):=by(intro h;(conv=>arg 6;reduce);refine FG.mk ?_;dsimp only[Int.reduceOfNat,Int.reduceNegSucc,u8L,UInt8.reduceOfNatLT,ZCl];exact h.h)):ZI P f args os Post:=FG.calls (k ⟨h⟩)
theorem evP{P:Program}(m:Nat)(f:FuncId){S0:Tabs}(h0:SsOk P S0)(nq:List FuncId){args:J8}{r:D}(h:((GP P f).bind λp=>(ZGO true (ev S0 nq (GP P) m) p args []).map (·.1))=some r:=by kernel_rfl)(hcl:r.clean=true:=by rfl):ZC P f args r:=by
 obtain⟨p,hp,h⟩:=Zp h;exact ZWu (ZVX P) m hp h0 nq h hcl
section
variable {P:Program} {c:Ctx} {E0:Env} {os0 os:J7} {n:Nat} {Q:Exit->J4->J7->Prop} {φ:J4}
end
end Go.Ab
end
