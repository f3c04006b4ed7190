import Derived.Test.YtiogclkbccdefaaGreatDoorLA1
import Derived.ArgAppend
import Derived.Lib.ConvBytes
import Derived.Lib.AppendZerosOnto
set_option linter.unusedSimpArgs false
set_option linter.unusedVariables false
set_option maxRecDepth 100000
theorem WP{p:Prop}(h:p:=by obtain⟨h3,b,a0,cap,a',cap',h4,h5,h6,h7,h8,h9⟩:=h2 rfl;rw[hp]at h4;obtain⟨h10,h11⟩:=h8 rfl;rw[h10,h11]at h5;rw[h5,ZCn h4]):p:=h
theorem Vv{p:Prop}(h:p:=by rcases hrow.2 with⟨h3,h4⟩|⟨g,cap,cells,fr,h3,h4,h5,h6,h7⟩<;>subst h3<;>rfl):p:=h
theorem V5{p:Prop}(h:p:=by simp only[maxLen];omega):p:=h
theorem V6{p:Prop}(h:p:=by obtain⟨x,hx,rfl⟩:=YS.1 hv;exact(k3 x hx).1):p:=h
theorem V8{p:Prop}(h:p:=by subst h3;exact⟨none,0,none,0,by rw[hob,h4],by rw[h4],J0,Kb _,λ_=>⟨rfl,rfl⟩,λ_ ad h=>W6,λ_=>⟨h4,rfl⟩,λad h=>W6⟩):p:=h
theorem VA{p:Prop}(h:p:=by subst h3;exact⟨_,cap,_,cap,hob',rfl,h5,h6,λ_=>⟨rfl,rfl⟩,λ_ ad h=>(by cases h;simp),λh=>W6,λad h=>(by cases h;rfl)⟩):p:=h
theorem VO{p:Prop}(h:p:=by subst h3;exact⟨_,cap,_,cap,hob,rfl,h5,h6,λ_=>⟨rfl,rfl⟩,λ_ ad h=>(by cases h;simp),λh=>W6,λad h=>(by cases h;rfl)⟩):p:=h
theorem Um{p:Prop}(h:p:=by simpa using hi):p:=h
theorem Ux{p:Prop}(h:p:=by cases hb;exact Zr _):p:=h
theorem U6{p:Prop}(h:p:=by left;show p.2.ownBlock=some b;rw[<-h];exact hb'):p:=h
theorem UB{p:Prop}(h:p:=by simpa using hv):p:=h
theorem UC{p:Prop}(h:p:=by simpa using hl):p:=h
theorem UD{p:Prop}(h:p:=by rw[<-hall r (JE h1)];exact(ZX h2).1):p:=h
theorem UG{p:Prop}(h:p:=by subst h3;refine⟨_,cap,_,cap,(by rw[<-hnl];exact hob'),by rw[hnl],J0,h6,λ_=>⟨rfl,rfl⟩,λ_ ad h=>(by cases h;simp),λh=>W6,λad h=>(by cases h;rfl)⟩):p:=h
theorem UK{p:Prop}(h:p:=by simp only[KL,YG]at hc;obtain⟨x',hx,y',hy,u',hu,hc⟩:=hc;cases hc;simp[ZT]at h):p:=h
theorem UL{p:Prop}(h:p:=by rcases hr.2 with⟨h3,h4⟩|⟨g,cap,cells,fr,h3,h4,h5,h6,h7⟩<;>subst h3<;>rfl):p:=h
theorem UP{p:Prop}(h:p:=by obtain⟨x',y',hx,hy,hc⟩:=Kx hc;subst hc;simp[ZT]at h):p:=h
theorem UU{p:Prop}(h:p:=by simp[builtin]):p:=h
theorem UV{p:Prop}(h:p:=by apply ZD7.1;simpa using h1):p:=h
theorem T1{p:Prop}(h:p:=by obtain⟨y,hy,hc⟩:=Zg hc;cases hc;simp[ZT]at h):p:=h
theorem T5{p:Prop}(h:p:=by subst h3;exact⟨none,0,none,0,by rw[hob',h4],by rw[h4],J0,Kb _,λ_=>⟨rfl,rfl⟩,λ_ ad h=>W6,λ_=>⟨h4,rfl⟩,λad h=>W6⟩):p:=h
theorem TG{p:Prop}(h:p:=by simp):p:=h
theorem TH{p:Prop}(h:p:=by rw[IntKind.wrap_i64];omega):p:=h
theorem TI{p:Prop}(h:p:=by cases hr):p:=h
theorem TJ{p:Prop}(h:p:=by apply ZD7.1;simpa using h2):p:=h
theorem Gh{p:Prop}(h:p:=by rw[hva,hki];exact ZM6 ht hsz _ kk k k0 k1 E.w):p:=h
theorem Gj{p:Prop}(h:p:=by exact⟨v,Jc (s:=Instr.sliceAt t (a.eval x) (lo.map a.eval) (hi.map a.eval) (mx.map a.eval)) rfl h1,h2⟩):p:=h
theorem Gk{p:Prop}(h:p:=by simp[execOp,V.bool vx,asBool]):p:=h
theorem Gw{p:Prop}(h:p:=by simpa using hx):p:=h
theorem GR{p:Prop}(h:p:=by unfold maxLen;omega):p:=h
theorem GY{p:Prop}(h:p:=by exact sl (by simpa using hst)):p:=h
theorem Nj{p:Prop}(h:p:=by obtain⟨h1,h2⟩:=hx.ref_inv.at ho rfl;exact WP):p:=h
theorem Np{p:Prop}(h:p:=by obtain⟨x',y',hx,hy,hc⟩:=Kx hc;exact eqc (.st fs) false x' y' hfs rfl hx hy hc.symm):p:=h
theorem Nt{p:Prop}(h:p:=by obtain⟨x',y',hx,hy,hc⟩:=Kx hc;exact eqc (.st fs) true x' y' hfs rfl hx hy hc.symm):p:=h
theorem Nx{p:Prop}(h:p:=by obtain⟨y,hy,hc⟩:=Zg hc;cases hc;simp[ZT]at h;subst h;exact⟨_,rfl,V.op hf hy⟩):p:=h
theorem N0{p:Prop}(h:p:=by rw[<-k2 r (JE hk)];exact(ZX hx).1):p:=h
theorem NJ{p:Prop}(h:p:=by exact QM.of_owns ho' false):p:=h
theorem NK{p:Prop}(h:p:=by exact .inl rfl):p:=h
theorem NR{p:Prop}(h:p:=by obtain⟨k,hk⟩:=ZBQ ((V.op hf hz).strip h6) h5;exact .inr ⟨k,by simp[hk]⟩):p:=h
theorem NV{p:Prop}(h:p:=by exact⟨a.eval x,by simp[execOp,h3],this⟩):p:=h
theorem Xj{p:Prop}(h:p:=by simpa using k1):p:=h
theorem Xk{p:Prop}(h:p:=by simpa using hu):p:=h
theorem Xl{p:Prop}(h:p:=by simpa using e2):p:=h
theorem Xm{p:Prop}(h:p:=by simpa using e1):p:=h
theorem Xn{p:Prop}(h:p:=by simp[k2]):p:=h
theorem Xr{p:Prop}(h:p:=by cases hb):p:=h
theorem Xu{p:Prop}(h:p:=by rw[ZEv hlt]):p:=h
theorem Xx{p:Prop}(h:p:=by rw[h3]at vz;exact⟨a.eval z,Gk,by rw[V.bool vz];exact V.mkbool _ _ _⟩):p:=h
theorem X9{p:Prop}(h:p:=by rw[hva,hki];exact ZLb ht hsz _ len cap' kk k k2 k3 E.w):p:=h
theorem XR{p:Prop}(h:p:=by simp only[maxLen];omega):p:=h
theorem Hd{p:Prop}(h:p:=by rcases h9 with h9|h9;exact .inl h9;exact .inr h9.2):p:=h
theorem Ho{p:Prop}(h:p:=by exact k6 i r z j w v (by simpa using hr) (by simpa using hz) hw hv):p:=h
theorem H7{p:Prop}(h:p:=by subst hj;rw[if_pos rfl,ho];simp[hlt]):p:=h
theorem H9{p:Prop}(h:p:=by obtain⟨x',y',hx,hy,hc⟩:=Kx hc;exact binc x' y' hx hy hc.symm):p:=h
theorem HF{p:Prop}(h:p:=by simp at h;subst h;exact⟨rfl,λj x y h=>WE⟩):p:=h
theorem HQ{p:Prop}(h:p:=by simp[R.len,hlt]):p:=h
theorem Mk{p:Prop}(h:p:=by exact hok'.part w4 off len J0 a' cap' h6 h7 h9 h10 (λ_=>h11)):p:=h
section
namespace Go.Ab
open Go.RowKit Go.Bo
theorem ZTQ(s:List UInt8)(l h:Nat):(ZV s).extract l h=ZV ((s.take h).drop l):=by
 apply ByteArray.ext;rw[ByteArray.data_extract];apply Array.ext';simp[ZV,List.drop_take]
section
variable {P:Program} {E:Env} {os:J7} {c:Ctx}
def Bnd(lo hi:Option Value)(len l h:Nat):Prop:=
 ((lo=none/\l=0)\/ ∃k,lo=some (.int k l))/\((hi=none/\h=len)\/ ∃k,hi=some (.int k h))/\l<=h/\h<=len
theorem ZJK{lo hi:Option Value}{len cap l h:Nat}(sl:Bool)(hb:Bnd lo hi len l h)(hc:len<=cap)(w:World):(Instr.sliceBounds sl len cap lo hi none).run P w= .ok (l,h,cap) w:=by
 obtain⟨h1,h2,h3,h4⟩:=hb;have n1:h<=cap:=Wm
 rcases h1 with⟨rfl,rfl⟩|⟨k,rfl⟩<;>rcases h2 with⟨rfl,rfl⟩|⟨k2,rfl⟩
 .simp[Instr.sliceBounds]
 .simp[Instr.sliceBounds,Instr.sliceBound,asIntOf,n1]
 .simp[Instr.sliceBounds,Instr.sliceBound,asIntOf,h3]
 .simp[Instr.sliceBounds,Instr.sliceBound,asIntOf,n1,h3]
theorem ZUU{t:Nat}(ht:P.underlying t=some .string)(s:List UInt8){lo hi:Option Value}{l h:Nat}(hb:Bnd lo hi s.length l h)(w:World):
  (Instr.sliceAt t (.string (ZV s)) lo hi none).run P w= .ok (.string (ZV ((s.take h).drop l))) w:=by
 have:=ZJK (P:=P) false hb (Zr _) w;rw[<-ZAO]at this;simp[Instr.sliceAt,Instr.slice,run_underlying ht,this,ZTQ]
theorem ZJQ{t e sz:Nat}(ht:P.underlying t=some (.slice e))(hs:Kn P e=some sz)(a:Option Addr){lo hi:Option Value}{len cap l h:Nat}(hb:Bnd lo hi len l h)(hc:len<=cap)(w:World):
  (Instr.sliceAt t (.slice a len cap) lo hi none).run P w= .ok (.slice (if cap=l then a else a.map (·.add (l*sz))) (h-l) (cap-l)) w:=by
 have:=ZJK (P:=P) true hb hc w;simp[Instr.sliceAt,Instr.slice,run_underlying ht,this,Kt hs]
theorem ZVP{t e m:Nat}(ht:P.underlying t=some (.array m e))(hs:Kn P e=some 1)(ad:Addr){hi:Option Value}{h:Nat}(hb:Bnd none hi m 0 h)(w:World):
  (Instr.sliceAt t (.pointer (some ad)) none hi none).run P w= .ok (.slice (some ad) h m) w:=by
 have:=ZJK (P:=P) false hb (Zr _) w;simp[Instr.sliceAt,Instr.sureAddr,run_underlying ht,this,Kt hs,Addr.add]
theorem ZFL{ad:Addr}(h:ad.spot=none)(k:Nat):ad.add k=⟨ad.block,ad.off+k,none⟩:=by
 obtain⟨b,o,s⟩:=ad;simp only at h;subst h;exact JT b o k
theorem V.slc_sl{rs:J6}{a:Option Addr}{n cap:Nat}(hx:VX E.w E.st (.sl rs) (.slice a n cap)){sz:Nat}(hz: ∀r∈rs,r.length=sz){l h:Nat}(hl:l<=h)(hh:h<=rs.length):
  V E os (.x (.sl ((rs.take h).drop l))) (.slice (if cap=l then a else a.map (·.add (l*sz))) (h-l) (cap-l)):=by
 have hx0:=hx;cases hx0 with
 |sl _ _ _ _ sz0 val hn hc hm hsz hcell hnil hsp hval=>
  have hd:(rs.take h).drop l=(rs.drop l).take (h-l):=List.drop_take ..;rw[hd];refine .x (hx.part hz l (h-l) J0 _ _ J0 J0 (λhp ad had=> ?_) (λhn'=> ?_) (λh0 ad had=> ?_))
  .rw[if_neg J0,had];simp[ZFL (hsp J0 ad had)]
  .have:a=none:=by
    split at hn'
    .exact hn'
    .simpa using hn'
   have:=hnil this;omega
  .split at had
   .exact hsp J0 ad had
   .obtain⟨ad0,h1,rfl⟩:=Zc had;rw[ZFL (hsp J0 ad0 h1)]
theorem V.slc_ref{id ext off len:Nat}{v:Value}(hv:V E os (.ref id ext off len) v){o:Ob}{sz:Nat}{rs:J6}(ho:os[id]? =some o)(hs:o.slice? =some (sz,rs))(he:rs.length=ext){l h:Nat}(hl:l<=h)(hh:h<=len):
  ∃a cap,v= .slice a len cap/\len<=cap/\V E os (.ref id ext (off+l) (h-l)) (.slice (if cap=l then a else a.map (·.add (l*sz))) (h-l) (cap-l)):=by
 cases hv with
 |ref hr _=>
  obtain⟨h1,h2⟩:=hr.at ho hs;obtain⟨h3,b,a,cap,a',cap',h4,h5,h6,h7,h8,h9,h10,h11⟩:=h2 he;refine⟨a',cap',h5,h6,.ref ⟨o,sz,rs.length,ho,Ob.slice_sl hs,?_⟩ rfl⟩;refine⟨h1,λ_=>⟨J0,b,a,cap,_,_,h4,rfl,J0,J0,λhz=> ?_,λhp ad had=> ?_,λhn=> ?_,λad had=> ?_⟩⟩
  .have:off=0/\l=0:=Wm
   obtain⟨rfl,rfl⟩:=this;obtain⟨rfl,rfl⟩:=h8 rfl;refine⟨?_,J0⟩;split
   .rfl
   .cases a'<;>simp[Addr.add]
  .have:=h9 J0 ad had;rw[if_neg J0,this];simp only[Yq,JT];congr 2;rw[JR];omega
  .have:a'=none:=by
    split at hn
    .exact hn
    .simpa using hn
   have:=h10 this;omega
  .split at had
   .exact h11 ad had
   .obtain⟨ad0,k1,rfl⟩:=Zc had;rw[ZFL (h11 ad0 k1)]
theorem ZNA(off:Nat): ∀(l:List Value) (j0:Nat) (cs:Array Value),off+j0+l.length<=cs.size->
  ((l.zipIdx j0).foldl (λcs p=>cs.setIfInBounds (off+p.2) p.1) cs).toList=cs.toList.take (off+j0)++l++cs.toList.drop (off+j0+l.length)
 | [],j0,cs,_=>TG
 |v::l,j0,cs,h=>by
  simp only[Yx]at h;rw[List.zipIdx_cons,ZK2,ZNA off l (j0+1) _ Wx];simp only[Array.toList_setIfInBounds,Yx];rw[show off+(j0+1)=off+j0+1 by omega];have hlt:off+j0<cs.toList.length:=Wx
  rw[JW (by simpa using hlt),List.take_set_of_le (Zr _),List.getElem_set_self,List.drop_set_of_lt J0];simp only[Ys,ξZ,QY];rw[show off+j0+1+l.length=off+j0+(l.length+1) by omega]
theorem V.cells{d:D}{v:Value}(h:V E os d v){ds:J8}(hd:d.cells? =some ds):v.cells.size=ds.length/\(∀u∈v.cells.toList,u.oneCell'=true)/\ ∀(j:Nat) (d':D) (u:Value),ds[j]? =some d'->v.cells[j]? =some u->V E os d' u:=by
 have one: ∀(d0:D),V E os d0 v->v.oneCell'=true-> [d0]=ds->v.cells.size=ds.length/\(∀u∈v.cells.toList,u.oneCell'=true)/\ ∀(j:Nat) (d':D) (u:Value),ds[j]? =some d'->v.cells[j]? =some u->V E os d' u:=by
  rintro d0 hv h1 rfl;have hc:v.cells= #[v]:=by cases v<;>first|rfl|simp[Value.oneCell']at h1
  rw[hc];refine⟨rfl,λu hu=> ?_,λj d' u hj hu=> ?_⟩
  .simp at hu;subst hu;exact h1
  .cases j with
   |zero=>simp at hj hu;subst hj;subst hu;exact hv
   |succ j=>simp at hj
 cases h with
 |agg vs hl h1 hv=>simp[D.cells?]at hd;subst hd;exact⟨hl.symm,h1,hv⟩
 |tup vs hl hv=>cases hd
 |opt h1 h2=>cases hd
 |und v=>cases hd
 |x h=>simp[D.cells?]at hd;exact one _ (.x h) h.one hd
 |ref h h1=>simp[D.cells?]at hd;exact one _ (.ref h h1) h1 hd
 |ptr ho h=>simp[D.cells?]at hd;exact one _ (.ptr ho h) rfl hd
 |eptr h h1=>simp[D.cells?]at hd;exact one _ (.eptr h h1) (by obtain⟨ad,rfl⟩:=h1;rfl) hd
 |mref ho hk h=>simp[D.cells?]at hd;exact one _ (.mref ho hk h) rfl hd
 |mnil=>simp[D.cells?]at hd;exact one _ .mnil rfl hd
 |iref ho hk h=>simp[D.cells?]at hd;exact one _ (.iref ho hk h) rfl hd
 |stk ho hk h=>simp[D.cells?]at hd;exact one _ (.stk ho hk h) rfl hd
 |bref ho h hm=>simp[D.cells?]at hd;exact one _ (.bref ho h hm) rfl hd
 |vptr b off val hc hv=>simp[D.cells?]at hd;exact one _ (.vptr b off val hc hv) rfl hd
 |full n h=>simp[D.cells?]at hd;exact one _ (.full n h) rfl hd
 |nz h=>simp[D.cells?]at hd;exact one _ (.nz h) rfl hd
 |fn vs hl hv=>simp[D.cells?]at hd;exact one _ (.fn vs hl hv) rfl hd
theorem ZNe{n:Nat}{φ:J4}{a:Act}(hf:Fr n E os φ a)(Yy:Nat->Option (Nat×Nat)): ∀(parts:List (Nat×Operand)) (ps:List (Nat×Nat×IO)) (acc ds:J8) (cs:Array Value),ZDc Yy parts=some ps->V E os (.agg acc) (.agg cs)->
  Jb φ ps acc=some (true,ds)-> ∃cs',Instr.fill Yy cs (parts.map λp=>(p.1,a.eval p.2))=some cs'/\V E os (.agg ds) (.agg cs')
 | [],ps,acc,ds,cs,h,hv,hb=>by cases h;cases hb;exact⟨cs,rfl,hv⟩
 |(j,x)::l,ps,acc,ds,cs,h,hv,hb=>by
  simp only[ZDc,KL,YG]at h;obtain⟨p,hp,y,hy,r,hr,h⟩:=h;cases h;simp only[Jb,YG]at hb;obtain⟨xs,hx,hb⟩:=hb;split at hb
  .rename_i hlen;obtain⟨r',hr',hb⟩:=Zc hb;simp at hb;obtain⟨⟨hc,h1⟩,rfl⟩:=hb;have hxv:=(V.op hf hy).strip hc;obtain⟨k1,k2,k3⟩:=hxv.cells hx;cases hv with
   |agg _ hl ho hvv=>
    have hset:=ZNA p.1 (a.eval x).cells.toList 0 cs Wx;rw[KB,Qt]at hset;have hv':V E os (.agg (acc.take p.1++xs++acc.drop (p.1+p.2))) (.agg (((a.eval x).cells.toList.zipIdx 0).foldl (λcs q=>cs.setIfInBounds (p.1+q.2) q.1) cs)):=by
     refine .agg _ ?_ (λv hv=> ?_) (λi d v hd hv=> ?_)
     .rw[<-Qt,hset];simp;omega
     .rw[hset]at hv;rcases KT.1 hv with hv|hv
      .rcases KT.1 hv with hv|hv
       .exact ho v (ZCH hv)
       .exact k2 v hv
      .exact ho v (ZDD hv)
     .rw[<-ξQ,hset]at hv;have e1:(acc.take p.1).length=p.1:=Wx
      have e2:(cs.toList.take p.1).length=p.1:=Wx
      have e3:(a.eval x).cells.toList.length=xs.length:=Wx
      by_cases h1:i<p.1
      .rw[Ys,Yk J0,Kp,if_pos h1]at hd hv;exact hvv i d v hd UB
      .by_cases h2:i<p.1+xs.length
       .rw[Ys,QI J0,Yk J0]at hd hv;rw[e1]at hd;rw[e2]at hv;exact k3 _ d v hd UB
       .rw[Ys,QI J0,QI J0,ZAZ]at hd hv;rw[e1]at hd;rw[e2,e3]at hv;refine hvv _ d v hd ?_;rw[ξQ]at hv;rw[<-hv];congr 1;omega
    have hr2:Jb φ r (acc.take p.1++xs++acc.drop (p.1+p.2))=some (true,r'.2):=by rw[hr',<-h1]
    obtain⟨cs',q1,q2⟩:=ZNe hf Yy l r _ r'.2 _ hr hv' hr2;refine⟨cs',?_,q2⟩;rw[YO,Instr.fill];simp only[hp];rw[if_neg Wx];rw[<-q1];congr 1;rw[<-Array.foldl_toList];congr 1;simp[Array.toList_zipIdx]
  .cases hb
end
def IE.isCall:IE->Bool
 | .call _ _=>true
 |_=>false
section
variable {P:Program} {E:Env} {os:J7} {c:Ctx} {n:Nat} {φ:J4} {a:Act}
theorem ZBQ{d:D}{i:Int}{v:Value}(hv:V E os d v)(h:ZD d=some i): ∃k,v= .int k i:=by
 unfold ZD at h;split at h
 .rename_i k m;cases h;exact⟨k,V.int hv⟩
 .cases h
theorem Kx{α β γ:Type}{x:Option α}{y:Option β}{f:α->β->γ}{r:γ}(h:(x.bind λa=>y.bind λb=>some (f a b))=some r): ∃a b,x=some a/\y=some b/\f a b=r:=by
 cases x<;>cases y<;>simp at h;exact⟨_,_,rfl,rfl,h⟩
theorem Kz{x:Option Operand}(h:QA x=some none):x=none:=by
 cases x with
 |none=>rfl
 |some y=>simp[QA]at h
theorem ZCk{x:Option Operand}{y:IO}(h:QA x=some (some y)): ∃z,x=some z/\Zb z=some y:=by
 cases x with
 |none=>simp[QA]at h
 |some z=>refine⟨z,rfl,?_⟩;simpa[QA]using h
theorem bnd(hf:Fr n E os φ a){lo hi:Option Operand}{lo' hi':Option IO}(hl:QA lo=some lo')(hh:QA hi=some hi')(len l h:Nat)
  (h1:match lo' with|none=>l=0|some y=> ∃i,ZD (ZG φ y).val=some i/\(ZG φ y).cond=true/\i=l)
  (h2:match hi' with|none=>h=len|some y=> ∃i,ZD (ZG φ y).val=some i/\(ZG φ y).cond=true/\i=h) (h3:l<=h) (h4:h<=len):Bnd (lo.map a.eval) (hi.map a.eval) len l h:=by
 refine⟨?_,?_,h3,h4⟩
 .cases lo' with
  |none=>rw[Kz hl];exact .inl ⟨rfl,h1⟩
  |some y=>
   obtain⟨z,rfl,hz⟩:=ZCk hl;obtain⟨i,h5,h6,rfl⟩:=h1;exact NR
 .cases hi' with
  |none=>rw[Kz hh];exact .inl ⟨rfl,h2⟩
  |some y=>
   obtain⟨z,rfl,hz⟩:=ZCk hh;obtain⟨i,h5,h6,rfl⟩:=h2;exact NR
theorem ZXZ(hf:Fr n E os φ a){t:Nat}{x:Operand}{lo hi mx:Option Operand}{x':IO}{lo' hi' mx':Option IO}(ht':P.underlying t=some .string)
  (hx:Zb x=some x') (hl:QA lo=some lo') (hh:QA hi=some hi') (hm:QA mx=some mx') {d:D} (h:ZIf φ x' lo' hi' mx'=some (true,d)):
  ∃v,(Instr.sliceAt t (a.eval x) (lo.map a.eval) (hi.map a.eval) (mx.map a.eval)).run P E.w= .ok v E.w/\V E os d v:=by
 have hxv:=V.op hf hx;unfold ZIf at h;split at h
 .rename_i s hs;have fin: ∀(l m:Nat),(ZG φ x').cond=true->mx'=none->Bnd (lo.map a.eval) (hi.map a.eval) s.length l m-> ∃v,(Instr.sliceAt t (a.eval x) (lo.map a.eval) (hi.map a.eval) (mx.map a.eval)).run P E.w= .ok v E.w/\V E os (.x (.str ((s.take m).drop l))) v:=by
   intro l m hc h0 hb;subst h0;rw[Kz hm];have:=hxv.strip hc;rw[hs]at this;rw[V.str this];exact⟨_,ZUU ht' s hb _,V.mkstr _ _ _⟩
  split at h
  .rename_i e1 e2;simp at h;obtain⟨h1,rfl⟩:=h;have e1:lo'=none:=Xm
   have e2:hi'=none:=Xl
   subst e1;subst e2;have:=fin 0 s.length h1 rfl (bnd hf hl hh _ _ _ rfl rfl (Kb _) (Zr _));exact V3
  .rename_i l0 e1 e2;obtain⟨i,hi1,h⟩:=Zc h;simp at h;obtain⟨⟨h1,h2,h3,h4⟩,rfl⟩:=h;obtain⟨y,rfl,rfl⟩:=Zc e1;have e2:hi'=none:=Xl
   subst e2;obtain⟨j,rfl⟩:=ZDM h3;have:=fin j s.length h1 rfl (bnd hf hl hh _ _ _ ⟨_,hi1,h2,rfl⟩ rfl J0 (Zr _));exact V3
  .rename_i h0 e1 e2;obtain⟨i,hi1,h⟩:=Zc h;simp at h;obtain⟨⟨h1,h2,h3,h4⟩,rfl⟩:=h;obtain⟨y,rfl,rfl⟩:=Zc e2;have e1:lo'=none:=Xm
   subst e1;obtain⟨j,rfl⟩:=ZDM h3;have:=fin 0 j h1 rfl (bnd hf hl hh _ _ _ rfl ⟨_,hi1,h2,rfl⟩ J0 J0);exact V3
  .rename_i l0 h0 e1 e2;obtain⟨i,hi1,h⟩:=Zg h;obtain⟨i2,hi2,h⟩:=Zc h;simp at h;obtain⟨⟨h1,⟨h2,h3⟩,h4,h5,h6⟩,rfl⟩:=h;obtain⟨y,rfl,rfl⟩:=Zc e1;obtain⟨y2,rfl,rfl⟩:=Zc e2;obtain⟨j,rfl⟩:=ZDM h4;obtain⟨j2,rfl⟩:=ZDM (show(0:Int)<=i2 by omega);have:=fin j j2 h1 rfl (bnd hf hl hh _ _ _ ⟨_,hi1,h2,rfl⟩ ⟨_,hi2,h3,rfl⟩ J0 J0);exact V3
  .cases h
 .cases h
theorem ZJr(hf:Fr n E os φ a){lo:Option Operand}{lo':Option IO}(hl:QA lo=some lo')(h:KH (lo'.map λl=>ZG φ l)=some true):lo.map a.eval=none\/ ∃k,lo.map a.eval=some (.int k 0):=by
 cases lo' with
 |none=>rw[Kz hl];exact NK
 |some y=>
  obtain⟨z,rfl,hz⟩:=ZCk hl;simp only[KH,Yq,Kq]at h;obtain⟨i,h1,h2⟩:=h;simp at h2;obtain⟨h2,rfl⟩:=h2;obtain⟨k,hk⟩:=ZBQ ((V.op hf hz).strip h2) h1;exact .inr ⟨k,by simp[hk]⟩
theorem ZUm{t e sz:Nat}(ht:P.underlying t=some (.slice e))(hs:Kn P e=some sz){lo hi mx:Option Value}(h1:lo=none\/ ∃k,lo=some (.int k 0))(h2:hi=none\/ ∃k,hi=some (.int k 0))(h3:mx=none\/ ∃k,mx=some (.int k 0))(h4:mx=none\/hi≠none)(w:World):
  (Instr.sliceAt t (.slice none 0 0) lo hi mx).run P w= .ok (.slice none 0 0) w:=by
 have hb:(Instr.sliceBounds true 0 0 lo hi mx).run P w= .ok (0,0,0) w:=by
  rcases h1 with rfl|⟨k,rfl⟩<;>rcases h2 with rfl|⟨k2,rfl⟩<;>rcases h3 with rfl|⟨k3,rfl⟩<;>first|(rcases h4 with h4|h4<;>simp at h4;done)|simp[Instr.sliceBounds,Instr.sliceBound,asIntOf]
 simp[Instr.sliceAt,Instr.slice,run_underlying ht,hb,Kt hs]
theorem ZUR{t e sz:Nat}(ht:P.underlying t=some (.slice e))(hs:Kn P e=some sz)(a:Option Addr){lo:Option Value}{k k2:IntKind}{len cap h:Nat}(h1:lo=none\/ ∃k,lo=some (.int k 0))(hc:len<=cap)(hl:h<=len)(w:World):
  (Instr.sliceAt t (.slice a len cap) lo (some (.int k h)) (some (.int k2 h))).run P w= .ok (.slice (if h=0 then a else a.map (·.add (0*sz))) h h) w:=by
 have n1:h<=cap:=Wm
 have hb:(Instr.sliceBounds true len cap lo (some (.int k h)) (some (.int k2 h))).run P w= .ok (0,h,h) w:=by
  rcases h1 with rfl|⟨k,rfl⟩<;>simp[Instr.sliceBounds,Instr.sliceBound,asIntOf,n1]
 simp[Instr.sliceAt,Instr.slice,run_underlying ht,hb,Kt hs]
theorem ZZZ(hf:Fr n E os φ a){t e sz:Nat}{x:Operand}{lo hi mx:Option Operand}{x':IO}{lo' hi' mx':Option IO}(ht':P.underlying t=some (.slice e))(hsz:Kn P e=some sz)
  (hx:Zb x=some x') (hl:QA lo=some lo') (hh:QA hi=some hi') (hm:QA mx=some mx') {d:D} (h:ZJX φ os sz x' lo' hi' mx'=some (true,d)):
  ∃v,(Instr.sliceAt t (a.eval x) (lo.map a.eval) (hi.map a.eval) (mx.map a.eval)).run P E.w= .ok v E.w/\V E os d v:=by
 have hxv:=V.op hf hx;unfold ZJX at h;split at h
 .rename_i hs;simp only[YG,Kq]at h;obtain⟨p,hp,q,hq,r,hr,h⟩:=h;simp at h;obtain⟨⟨h1,h0,rfl,rfl,rfl⟩,rfl⟩:=h;have:=hxv.strip h1;rw[hs]at this;have hvx:=this.xx;generalize a.eval x=vx at hvx;cases hvx;have b1:=ZJr hf hl hp;have b2:=ZJr hf hh hq;have b3:=ZJr hf hm hr;refine⟨_,ZUm ht' hsz b1 b2 b3 ?_ _,.x .nils⟩;rcases h0 with h0|h0
  .subst h0;rw[Kz hm];exact NK
  .cases hi' with
   |none=>cases h0
   |some y=>obtain⟨z,rfl,_⟩:=ZCk hh;exact .inr J1
 .rename_i rs hs;have fin: ∀(l m:Nat),(ZG φ x').cond=true->mx'=none->(∀r∈rs,r.length=sz)->Bnd (lo.map a.eval) (hi.map a.eval) rs.length l m-> ∃v,(Instr.sliceAt t (a.eval x) (lo.map a.eval) (hi.map a.eval) (mx.map a.eval)).run P E.w= .ok v E.w/\V E os (.x (.sl ((rs.take m).drop l))) v:=by
   intro l m hc h0 hz hb;subst h0;rw[Kz hm];have:=hxv.strip hc;rw[hs]at this;have hvx:=this.xx;generalize a.eval x=vx at hvx;have hvx0:=hvx;cases hvx0 with
   |sl _ ad m' cp sz0 val hn hc hm hsz0 hcell hnil hsp hval=>
    subst hn;exact⟨_,ZJQ ht' hsz ad hb hc _,V.slc_sl hvx hz hb.2.2.1 hb.2.2.2⟩
  split at h
  .rename_i e1 e2 e3;have e3:mx'=none:=by simpa using e3
   subst e3;simp at h;obtain⟨h1,rfl⟩:=h;have e1:lo'=none:=Xm
   have e2:hi'=none:=Xl
   subst e1;subst e2;rw[Kz hl,Kz hh,Kz hm];have:=hxv.strip h1;rw[hs]at this;have hvx:=this.xx;generalize a.eval x=vx at hvx;have hvx0:=hvx;cases hvx0 with
   |sl _ ad m' cp sz0 val hn hc hm hsz0 hcell hnil hsp hval=>
    have hr:=ZJQ ht' hsz ad (lo:=none) (hi:=none) (len:=m') (cap:=cp) (l:=0) (h:=m') ⟨.inl ⟨rfl,rfl⟩,.inl ⟨rfl,rfl⟩,Kb _,Zr _⟩ hc E.w;have e0:(if cp=0 then ad else ad.map (·.add (0*sz)))=ad:=by
     split
     .rfl
     .cases ad<;>simp[Addr.add]
    rw[e0,Nat.sub_zero,Nat.sub_zero]at hr;exact⟨_,hr,.x hvx⟩
  .rename_i l0 e1 e2 e3;have e3:mx'=none:=by simpa using e3
   subst e3;obtain⟨i,hi1,h⟩:=Zc h;simp at h;obtain⟨⟨h1,h2,h3,h4,h5⟩,rfl⟩:=h;obtain⟨y,rfl,rfl⟩:=Zc e1;have e2:hi'=none:=Xl
   subst e2;obtain⟨j,rfl⟩:=ZDM h3;have:=fin j rs.length h1 rfl h5 (bnd hf hl hh _ _ _ ⟨_,hi1,h2,rfl⟩ rfl J0 (Zr _));exact V3
  .rename_i h0 e1 e2 e3;have e3:mx'=none:=by simpa using e3
   subst e3;obtain⟨i,hi1,h⟩:=Zc h;simp at h;obtain⟨⟨h1,h2,h3,h4,h5⟩,rfl⟩:=h;obtain⟨y,rfl,rfl⟩:=Zc e2;have e1:lo'=none:=Xm
   subst e1;obtain⟨j,rfl⟩:=ZDM h3;have:=fin 0 j h1 rfl h5 (bnd hf hl hh _ _ _ rfl ⟨_,hi1,h2,rfl⟩ J0 J0);exact V3
  .rename_i l0 h0 e1 e2 e3;have e3:mx'=none:=by simpa using e3
   subst e3;obtain⟨i,hi1,h⟩:=Zg h;obtain⟨i2,hi2,h⟩:=Zc h;simp at h;obtain⟨⟨h1,⟨h2,h3⟩,h4,h5,h6,h7⟩,rfl⟩:=h;obtain⟨y,rfl,rfl⟩:=Zc e1;obtain⟨y2,rfl,rfl⟩:=Zc e2;obtain⟨j,rfl⟩:=ZDM h4;obtain⟨j2,rfl⟩:=ZDM (show(0:Int)<=i2 by omega);have:=fin j j2 h1 rfl h7 (bnd hf hl hh _ _ _ ⟨_,hi1,h2,rfl⟩ ⟨_,hi2,h3,rfl⟩ J0 J0);exact V3
  .rename_i h0 mi e2 e3;obtain⟨m0,rfl,rfl⟩:=Zc e3;simp only[YG,Kq]at h;obtain⟨z,hz,i,hi1,i2,hi2,h⟩:=h;simp at h;obtain⟨⟨h1,rfl,h2,h3,h4,h5,rfl,h7⟩,rfl⟩:=h;obtain⟨y,rfl,rfl⟩:=Zc e2;obtain⟨j,rfl⟩:=ZDM h4;have b1:=ZJr hf hl hz;obtain⟨o1,rfl,g1⟩:=ZCk hh;obtain⟨o2,rfl,g2⟩:=ZCk hm;obtain⟨k1,q1⟩:=ZBQ ((V.op hf g1).strip h2) hi1;obtain⟨k2,q2⟩:=ZBQ ((V.op hf g2).strip h3) hi2;have:=hxv.strip h1;rw[hs]at this;have hvx:=this.xx;generalize a.eval x=vx at hvx;have hvx0:=hvx;cases hvx0 with
   |sl _ ad m' cp sz0 val hn hc hm hsz0 hcell hnil hsp hval=>
    subst hn;have hj:j<=rs.length:=Wm
    refine⟨_,by rw[Yq,Yq,q1,q2];exact ZUR ht' hsz ad b1 hc hj _,.full _ ?_⟩;have:=hvx.part (sz:=sz) h7 0 j J0 (if j=0 then ad else ad.map (·.add (0*sz))) j (Zr _) J0 (λhp ad' had=> ?_) (λhn'=> ?_) (λh0 ad' had=> ?_)
    .exact V3
    .rw[if_neg J0,had];simp[ZFL (hsp J0 ad' had)]
    .have:ad=none:=by
      split at hn'
      .exact hn'
      .simpa using hn'
     have:=hnil this;omega
    .split at had
     .exact hsp J0 ad' had
     .obtain⟨ad0,h1,rfl⟩:=Zc had;rw[ZFL (hsp J0 ad0 h1)]
  .cases h
 .rename_i id ext off len hs;split at h
  .rename_i o ho;split at h
   .rename_i sz' rs hsl;have fin: ∀(l m:Nat),(ZG φ x').cond=true->mx'=none->sz'=sz->rs.length=ext->Bnd (lo.map a.eval) (hi.map a.eval) len l m-> ∃v,(Instr.sliceAt t (a.eval x) (lo.map a.eval) (hi.map a.eval) (mx.map a.eval)).run P E.w= .ok v E.w/\V E os (.ref id ext (off+l) (m-l)) v:=by
     intro l m hc h0 hz hext hb;subst h0;subst hz;rw[Kz hm];have:=hxv.strip hc;rw[hs]at this;obtain⟨ad,cp,k1,k2,k3⟩:=V.slc_ref this ho hsl hext hb.2.2.1 hb.2.2.2;rw[k1];exact⟨_,ZJQ ht' hsz ad hb k2 _,k3⟩
    split at h
    .rename_i l0 e1 e2;obtain⟨i,hi1,h⟩:=Zc h;simp at h;obtain⟨⟨h1,h2,h3,h4,h5,h6⟩,rfl⟩:=h;obtain⟨y,rfl,rfl⟩:=Zc e1;have e2:hi'=none:=Xl
     subst e2;obtain⟨j,rfl⟩:=ZDM h5;have:=fin j len h1 rfl h3 h4 (bnd hf hl hh _ _ _ ⟨_,hi1,h2,rfl⟩ rfl J0 (Zr _));exact V3
    .rename_i h0 e1 e2;obtain⟨i,hi1,h⟩:=Zc h;simp at h;obtain⟨⟨h1,h2,h3,h4,h5,h6⟩,rfl⟩:=h;obtain⟨y,rfl,rfl⟩:=Zc e2;have e1:lo'=none:=Xm
     subst e1;obtain⟨j,rfl⟩:=ZDM h5;have:=fin 0 j h1 rfl h3 h4 (bnd hf hl hh _ _ _ rfl ⟨_,hi1,h2,rfl⟩ J0 J0);exact V3
    .rename_i l0 h0 e1 e2;obtain⟨i,hi1,h⟩:=Zg h;obtain⟨i2,hi2,h⟩:=Zc h;simp at h;obtain⟨⟨h1,⟨h2,h3⟩,h4,h5,h6,h7,h8⟩,rfl⟩:=h;obtain⟨y,rfl,rfl⟩:=Zc e1;obtain⟨y2,rfl,rfl⟩:=Zc e2;obtain⟨j,rfl⟩:=ZDM h6;obtain⟨j2,rfl⟩:=ZDM (show(0:Int)<=i2 by omega);have:=fin j j2 h1 rfl h4 h5 (bnd hf hl hh _ _ _ ⟨_,hi1,h2,rfl⟩ ⟨_,hi2,h3,rfl⟩ J0 J0);exact V3
    .cases h
   .cases h
  .cases h
 .cases h
theorem ZeG{st:Bool}{t:Nat}(ht:if st then P.underlying t=some .string else∃e,P.underlying t=some (.slice e)){d:D}{v:Value}(hv:V E os d v)(hok':KS os d=true){m:Nat}(h:ZAr st d=some m)(ty:Nat)(w:World):
  (Builtin.len_ #[t] ty #[v]).run P w= .ok (.int .i64 m) w:=by
 have hok: ∀id ext off len,d= .ref id ext off len-> ∃o sz,os[id]? =some o/\o.sl? =some (sz,ext):=by
  rintro id ext off len rfl;exact ZXs hok'
 have sl: ∀ {a n cp},st=false->(Builtin.len_ #[t] ty #[.slice a n cp]).run P w= .ok (.int .i64 n) w:=λh=>by
  subst h;obtain⟨e,ht⟩:=ht;simp[Builtin.len_,run_underlying ht,goInt]
 unfold ZAr at h;split at h
 .split at h
  .rename_i hst;cases h;subst hst;rw[V.str hv];have ht:P.underlying t=some .string:=ht;simp[Builtin.len_,run_underlying ht,goInt,ZAO]
  .cases h
 .split at h
  .cases h
  .rename_i hst;cases h;rw[V.nils hv];exact GY
 .split at h
  .cases h
  .rename_i hst;cases h;have:=hv.xx;cases this with
   |sl _ ad m' cp sz0 val hn hc hm hsz0 hcell hnil hsp hval=>rw[hn];exact GY
 .split at h
  .cases h
  .rename_i hst;cases h;cases hv with
   |full n hv=>
    cases hv with
    |sl _ ad m' cp sz0 val hn hc hm hsz0 hcell hnil hsp hval=>rw[hn];exact GY
 .split at h
  .cases h
  .rename_i hst;cases h;obtain⟨o,sz,h1,h2⟩:=hok _ _ _ _ rfl;cases hv with
   |ref hr _=>
    obtain⟨h4,b,a,cap,a',cap',h5,h6,h7⟩:=(hr.at' h1 h2).2 rfl;rw[h6];exact GY
 .split at h
  .cases h
  .rename_i hst;cases h;cases hv with
   |bref ho hb hm=>exact GY
 .cases h
end
section
variable {P:Program} {E:Env} {os:J7} {c:Ctx} {n:Nat} {φ:J4} {a:Act}
theorem Jc{o:Oper}{s:Sem Value}{v:Value}{w:World}(h:execOp a.eval o=(do pure (Next.value (<-s))))(hr:s.run P w= .ok v w):(execOp a.eval o).run P w= .ok (.value v) w:=by
 rw[h];simp[hr]
theorem ZNq(hf:Fr n E os φ a): ∀ {xs:List Operand} {ys:List IO},xs.mapM Zb=some ys->xs.length=ys.length/\ ∀(j:Nat) (x:Operand) (y:IO),xs[j]? =some x->ys[j]? =some y->V E os (ZG φ y) (a.eval x)
 | [],ys,h=>HF
 |x::xs,ys,h=>by
  simp only[ZAV,KL,YG,ZBA]at h;obtain⟨y,hy,ys',hys,h⟩:=h;cases h;obtain⟨h1,h2⟩:=ZNq hf hys;refine⟨by simp[h1],λj x' y' hx hy'=> ?_⟩;cases j with
  |zero=>simp at hx hy';subst hx;subst hy';exact V.op hf hy
  |succ j=>exact h2 j x' y' Gw (by simpa using hy')
set_option maxHeartbeats 1000000 in
theorem Zez(hf:Fr n E os φ a){o:Oper}{t e m z:Nat}{x:Operand}{lo hi mx:Option Operand}{x':IO}(ho:o.op= .slice t x lo hi mx)(ht:P.underlying t=some (.array m e))(hz:Kn P e=some z)(h1:z=1)(hm:m<=16777216)(hx:Zb x=some x')(hlo:lo=none)(hhi:hi=none)(hmx:mx=none){d:D}
  (h:(match(ZG φ x').val with
   | .ptr id o=>match os[id]? with
    |some (.box ds)=>some ((ZG φ x').cond&&(decide (0<m)&&(decide (o+m<=ds.length)&&decide (m<=16777216))),D.bref id o m)
    |_=>none
   |_=>none)=some (true,d)): ∃v,(execOp a.eval o).run P E.w= .ok (.value v) E.w/\V E os d v:=by
 obtain⟨dst,op,ty,pos,after,guard⟩:=o;simp only at ho;subst ho;subst hlo;subst hhi;subst hmx;subst h1;split at h
 .rename_i id o hv;split at h
  .rename_i ds hds;simp only[Yu,YP,Zj,Yl]at h;obtain⟨⟨c1,c2,c3,c4⟩,rfl⟩:=h;have v1:=(V.op hf hx).strip c1;rw[hv]at v1;generalize hva:a.eval x=va at v1;cases v1 with
   |ptr ho hb=>
    refine⟨_,Jc (s:=Instr.sliceAt t (a.eval x) none none none) rfl (by rw[hva];exact ZVP ht hz _ ⟨.inl ⟨rfl,rfl⟩,.inl ⟨rfl,rfl⟩,Kb _,Zr _⟩ E.w),.bref hds hb GR⟩
  .cases h
 .cases h
theorem Zb7(R:Rel c E os)(hf:Fr n E os φ a){S:FuncId->J8->J5}{o:Oper}{e:IE}(hc:Kf P o.op=some e)(hne:e.isCall=false){d:D}(h:ZT S φ os e=some (true,d)):
  ∃v,(execOp a.eval o).run P E.w= .ok (.value v) E.w/\V E os d v:=by
 obtain⟨dst,op,ty,pos,after,guard⟩:=o;simp only at hc;cases op<;>simp only[Kf]at hc<;>(try cases hc)
 case move x=>
  exact Nx
 case assign x=>
  exact Nx
 case pick x y z=>
  simp only[KL,YG]at hc;obtain⟨x',hx,y',hy,z',hz,hc⟩:=hc;cases hc;simp only[ZT]at h;split at h
  .rename_i p q r h1 h2 h3;simp at h;obtain⟨⟨k1,k2,k3⟩,rfl⟩:=h;have vx:=(V.op hf hx).strip k1;rw[h1]at vx;cases p with
   |true=>
    have vy:=(V.op hf hy).strip (by simpa using k2);rw[h2]at vy;exact⟨a.eval y,Gk,by rw[V.bool vy];exact V.mkbool _ _ _⟩
   |false=>
    have vz:=(V.op hf hz).strip (by simpa using k3);exact Xx
  .rename_i q h1 h2 h3;simp at h;obtain⟨⟨k1,k2⟩,rfl⟩:=h;have vx:=(V.op hf hx).strip k1;rw[h1]at vx;have vy:=(V.op hf hy).strip k2;rw[h2]at vy;exact⟨a.eval y,Gk,by rw[V.bool vy];exact V.mkbool _ _ _⟩
  .rename_i r h1 h3 h2;simp at h;obtain⟨⟨k1,k3⟩,rfl⟩:=h;have vx:=(V.op hf hx).strip k1;rw[h1]at vx;have vz:=(V.op hf hz).strip k3;exact Xx
  .cases h
 case alloc t=>
  simp only[YG,Kq]at hc;obtain⟨i,hi,z,hz,rfl⟩:=hc;split at h<;>simp[ZT]at h
 case box t x=>
  obtain⟨y,hy,rfl⟩:=Zc hc;split at h<;>simp[ZT]at h
 case build t parts=>
  have main: ∀(it:TypeInfo) (Yy:Nat->Option (Nat×Nat)) (z:Value) (zs:J8) (ps:List (Nat×Nat×IO)),(∀l,P.built t l=Instr.fill Yy z.cells l)->(Kr z).cells? =some zs->ZDc Yy parts.toList=some ps->e= .build zs ps->
    ∃v,(execOp a.eval {dst,op:= .build t parts,type:=ty,pos,after,guard}).run P E.w= .ok (.value v) E.w/\V E os d v:=by
   intro it Yy z zs ps hb hz hp he;subst he;simp only[ZT,Kq]at h;obtain⟨⟨b,ds⟩,h1,h2⟩:=h;simp at h2;obtain⟨rfl,rfl⟩:=h2;have hvz:=V.const E os z;obtain⟨q1,q2,q3⟩:=hvz.cells hz;have hva:V E os (.agg zs) (.agg z.cells):= .agg _ q1.symm q2 q3;obtain⟨cs',k1,k2⟩:=ZNe hf Yy parts.toList ps zs ds z.cells hp hva h1;refine⟨_,Jc (s:=Instr.build t (parts.map λ(i,x)=>(i,a.eval x))) rfl (run_build E.w t _ cs' ?_),k2⟩;rw[hb];simpa using k1
  split at hc
  .rename_i it m el h1 h2;split at hc
   .rename_i z ie hz hie;obtain⟨zs,hzs,hc⟩:=Zg hc;obtain⟨ps,hps,hc⟩:=Zc hc;exact main it _ z zs ps (λl=>by simp[Program.built,h1,h2,hz,hie]) hzs hps hc.symm
   .cases hc
  .rename_i it fs h1 h2;split at hc
   .rename_i z places hz hpl;obtain⟨zs,hzs,hc⟩:=Zg hc;obtain⟨ps,hps,hc⟩:=Zc hc;exact main it _ z zs ps (λl=>by simp[Program.built,h1,h2,hz,hpl]) hzs hps hc.symm
   .cases hc
  .cases hc
 case buildSlice t m parts=>
  split at hc
  .obtain⟨s,hs,hc⟩:=Zg hc;obtain⟨z,hz,hc⟩:=Zg hc;split at hc
   .obtain⟨ps,hps,hc⟩:=Zc hc;cases hc;simp[ZT]at h
   .cases hc
  .cases hc
 case load t x=>
  simp only[KL,YG]at hc;obtain⟨m,hm,ag,hag,y,hy,hc⟩:=hc;cases hc;obtain⟨v,h1,h2⟩:=ZYL R hm hag (V.op hf hy) h;exact⟨v,Jc (s:=Instr.loadAt t (a.eval x)) rfl h1,h2⟩
 case store t x y=>
  simp only[KL,YG]at hc;obtain⟨m,hm,x',hx,y',hy,hc⟩:=hc;cases hc;simp[ZT]at h
 case nilCheck x=>
  obtain⟨y,hy,hc⟩:=Zg hc;cases hc;simp only[ZT]at h;have hv:=V.op hf hy;split at h
  .rename_i i o h1;simp at h;obtain⟨h2,rfl⟩:=h;have:=hv.strip h2;rw[h1]at this;obtain⟨ad,h3⟩:=this.ptr_some;exact NV
  .rename_i cs h1;simp at h;obtain⟨h2,rfl⟩:=h;have:=hv.strip h2;rw[h1]at this;obtain⟨ad,h3⟩:=this.vptr_some;exact NV
  .rename_i i1 i2 i3 i4 h1;simp at h;obtain⟨h2,rfl⟩:=h;have:=hv.strip h2;rw[h1]at this;obtain⟨ad,h3⟩:=this.eptr_some;exact NV
  .cases h
 case binOp op t x y yt=>
  have eqc: ∀(k:EqK) (neg:Bool) (x' y':IO),k.ok P t->op=(if neg then .neq else .eql)->Zb x=some x'->Zb y=some y'->e= .eq k neg x' y'-> ∃v,(execOp a.eval {dst,op:= .binOp op t x y yt,type:=ty,pos,after,guard}).run P E.w= .ok (.value v) E.w/\V E os d v:=by
   intro k neg x' y' hk hop hx hy he;subst he;subst hop;simp only[ZT,Kq]at h;obtain⟨⟨ok,b⟩,h1,h2⟩:=h;simp at h2;obtain⟨⟨⟨c1,c2⟩,rfl⟩,rfl⟩:=h2;have hr:=Zec (P:=P) hk ((V.op hf hx).strip c1) ((V.op hf hy).strip c2) h1 neg x y E.w;exact⟨_,Jc (s:=do eqGuard (if neg then .neq else .eql) t x y (a.eval x) (a.eval y);binOp (if neg then .neq else .eql) t (a.eval x) (a.eval y)) rfl hr,V.mkbool _ _ _⟩
  have binc: ∀(x' y':IO),Zb x=some x'->Zb y=some y'->e= .bin op x' y'-> ∃v,(execOp a.eval {dst,op:= .binOp op t x y yt,type:=ty,pos,after,guard}).run P E.w= .ok (.value v) E.w/\V E os d v:=by
   intro x' y' hx hy he;subst he;simp only[ZT,Kq]at h;obtain⟨⟨b,r⟩,h1,h2⟩:=h;simp at h2;obtain⟨⟨c1,c2,rfl⟩,rfl⟩:=h2;obtain⟨v,hr,hv⟩:=Zf0 (P:=P) ((V.op hf hx).strip c1) ((V.op hf hy).strip c2) h1 t x y E.w;exact⟨v,Jc (s:=do eqGuard op t x y (a.eval x) (a.eval y);binOp op t (a.eval x) (a.eval y)) rfl hr,hv⟩
  split at hc
  .exact H9
  .exact H9
  .rename_i ht;split at hc
   .obtain⟨x',y',hx,hy,hc⟩:=Kx hc;exact eqc .bool false x' y' ht rfl hx hy hc.symm
   .obtain⟨x',y',hx,hy,hc⟩:=Kx hc;exact eqc .bool true x' y' ht rfl hx hy hc.symm
   .cases hc
  .rename_i e' ht;split at hc
   .obtain⟨x',y',hx,hy,hc⟩:=Kx hc;exact eqc .ptr false x' y' ⟨_,ht⟩ rfl hx hy hc.symm
   .obtain⟨x',y',hx,hy,hc⟩:=Kx hc;exact eqc .ptr true x' y' ⟨_,ht⟩ rfl hx hy hc.symm
   .cases hc
  .rename_i e' ht;split at hc
   .obtain⟨x',y',hx,hy,hc⟩:=Kx hc;exact eqc .map false x' y' ⟨_,_,ht⟩ rfl hx hy hc.symm
   .obtain⟨x',y',hx,hy,hc⟩:=Kx hc;exact eqc .map true x' y' ⟨_,_,ht⟩ rfl hx hy hc.symm
   .cases hc
  .rename_i e' ht;split at hc
   .obtain⟨x',y',hx,hy,hc⟩:=Kx hc;exact eqc .sl false x' y' ⟨_,ht⟩ rfl hx hy hc.symm
   .obtain⟨x',y',hx,hy,hc⟩:=Kx hc;exact eqc .sl true x' y' ⟨_,ht⟩ rfl hx hy hc.symm
   .cases hc
  .obtain⟨fs,hfs,hc⟩:=Zg hc;split at hc
   .exact Np
   .exact Nt
   .cases hc
  .obtain⟨fs,hfs,hc⟩:=Zg hc;split at hc
   .exact Np
   .exact Nt
   .cases hc
  .cases hc
 case unOp op t x=>
  obtain⟨y,hy,hc⟩:=Zg hc;cases hc;simp only[ZT,Kq]at h;obtain⟨r,h1,h2⟩:=h;simp at h2;obtain⟨h3,rfl⟩:=h2;obtain⟨v,h4,h5⟩:=Zhy (P:=P) ((V.op hf hy).strip h3) h1 E.w;exact⟨v,Jc (s:=Op.unary op (a.eval x)) rfl h4,h5⟩
 case convert s t x=>
  split at hc
  .rename_i j k hs ht;obtain⟨y,hy,hc⟩:=Zg hc;cases hc;simp only[ZT]at h;split at h
   .rename_i k' m h1;simp at h;obtain⟨h2,rfl⟩:=h;have:=(V.op hf hy).strip h2;rw[h1]at this;refine⟨_,Jc (s:=convert s t (a.eval x)) rfl ?_,V.mkint _ _ _ _⟩;rw[V.int this];exact Zga ⟨j,hs⟩ ht m E.w
   .cases h
  .rename_i el hs ht;split at hc
   .rename_i hel;obtain⟨y,hy,hc⟩:=Zg hc;cases hc;simp only[ZT,Kq]at h;obtain⟨rs,h1,h2⟩:=h;simp only[YP,Zj]at h2;obtain⟨⟨h3,h4⟩,rfl⟩:=h2;exact⟨_,Jc (s:=convert s t (a.eval x)) rfl (ZgJ R hs hel ht ((V.op hf hy).strip h3) h1 h4),V.mkstr _ _ _⟩
   .cases hc
  .split at hc
   .exact T1
   .cases hc
  .cases hc
 case makeSlice t l cp=>
  split at hc
  .simp only[KL,YG]at hc;obtain⟨i,hi,z,hz,zx,hzx,l',hl',c',hc',hc⟩:=hc;cases hc;simp[ZT]at h
  .cases hc
 case slice t x lo hi mx=>
  split at hc
  .rename_i ht;simp only[KL,YG]at hc;obtain⟨x',hx,lo',hl,hi',hh,mx',hm,hc⟩:=hc;cases hc;simp only[ZT,if_true]at h;obtain⟨v,h1,h2⟩:=ZXZ hf ht hx hl hh hm h;exact Gj
  .rename_i el ht;obtain⟨z,hz,hc⟩:=Zg hc;split at hc
   .cases hc
   .rename_i hz0;simp only[KL,YG]at hc;obtain⟨x',hx,lo',hl,hi',hh,mx',hm,hc⟩:=hc;cases hc;simp only[ZT,if_neg hz0]at h;obtain⟨v,h1,h2⟩:=ZZZ hf ht hz hx hl hh hm h;exact Gj
  .obtain⟨z,hz,hc⟩:=Zg hc;split at hc
   .simp only[KL,YG]at hc;obtain⟨x',hx,hi',hh,hc⟩:=hc;cases hc;rename_i hcond;cases hi' with
    |none=>
     simp only[ZT]at h;exact Zez hf rfl (by assumption) hz hcond.1 hcond.2.1 hx hcond.2.2.1 (Kz hh) hcond.2.2.2 h
    |some _=>simp[ZT]at h
   .cases hc
  .cases hc
 case fieldAddr s x f=>
  split at hc
  .rename_i fs hs;obtain⟨fd,hfd,hc⟩:=Zg hc;obtain⟨z,hz,hc⟩:=Zg hc;split at hc
   .cases hc
   .rename_i hz0;obtain⟨y,hy,hc⟩:=Zg hc;cases hc;simp only[ZT]at h;have hv:=V.op hf hy;have key: ∀ad,a.eval x= .pointer (some ad)->(execOp a.eval {dst,op:= .fieldAddr s x f,type:=ty,pos,after,guard}).run P E.w= .ok (.value (.pointer (some (ad.add fd.offset)))) E.w:=λad had=>
     Jc (s:=Instr.fieldAt s (a.eval x) f) rfl (by rw[had];exact ZeM hs hfd rfl hz hz0 ad E.w)
    split at h
    .rename_i i o h1;simp at h;obtain⟨h2,rfl⟩:=h;have:=hv.strip h2;rw[h1]at this;generalize hva:a.eval x=va at this;cases this with
     |ptr hb0 hb=>exact⟨_,key _ hva,by rw[JT];exact .ptr hb0 hb⟩
    .rename_i i ex k o h1;simp at h;obtain⟨h2,rfl⟩:=h;have:=hv.strip h2;rw[h1]at this;generalize hva:a.eval x=va at this;cases this with
     |eptr he h4=>
      obtain⟨ad,rfl⟩:=h4;obtain⟨ob,sz,rs,k1,k2,k3,k4⟩:=he;refine⟨_,key _ hva,.eptr ⟨ob,sz,rs,k1,k2,k3,λk5=> ?_⟩ ⟨_,rfl⟩⟩;obtain⟨k6,b,g,cap,k7,k8⟩:=k4 k5;simp at k8;subst k8;exact⟨k6,b,g,cap,k7,by rw[JT,ZFe]⟩
    .rename_i cs h1;simp at h;obtain⟨h2,rfl⟩:=h;have:=hv.strip h2;rw[h1]at this;generalize hva:a.eval x=va at this;cases this with
     |vptr b off val hcc hvv=>
      refine⟨_,key _ hva,?_⟩;rw[JT];refine .vptr b (off+fd.offset) (λj=>val (fd.offset+j)) (λj y hj=> ?_) (λj y hj=> ?_)
      .rw[ZAZ]at hj;rw[ZFe];exact hcc _ y hj
      .rw[ZAZ]at hj;exact hvv _ y hj
    .cases h
  .cases hc
 case field t x f=>
  split at hc
  .rename_i fs hs;simp only[KL,YG]at hc;obtain⟨fd,hfd,m,hm,ag,hag,y,hy,hc⟩:=hc;cases hc;simp only[ZT]at h;split at h
   .rename_i ds h1;have hh:(ZG φ y).cond=true/\(if ag then some (D.agg ((ds.drop fd.offset).take m))else ds[fd.offset]?)=some d:=by
     cases ag
     .rw[if_neg J1]at h;obtain⟨d',k1,k2⟩:=Zc h;simp at k2;obtain⟨k3,rfl⟩:=k2;exact⟨k3,Xj⟩
     .simp at h;exact⟨h.1,by simp[h.2]⟩
    have:=(V.op hf hy).strip hh.1;rw[h1]at this;obtain⟨v,k1,k2⟩:=Zfz (P:=P) hs hfd rfl hm hag this E.w hh.2;exact⟨v,Jc (s:=Instr.field t (a.eval x) f) rfl k1,k2⟩
   .cases h
  .cases hc
 case indexAddr t x i=>
  have idx: ∀(y:IO) (k:Int),Zb i=some y->(ZG φ y).cond=true->ZD (ZG φ y).val=some k-> ∃kk,a.eval i= .int kk k:=λy k hy hc hk=>ZBQ ((V.op hf hy).strip hc) hk
  split at hc
  .rename_i el ht;simp only[KL,YG]at hc;obtain⟨sz,hsz,x',hx,i',hi,hc⟩:=hc;cases hc;simp only[ZT]at h;have hv:=V.op hf hx;split at h
   .cases h
   .rename_i k hk;have slc: ∀(rs:J6) (r:J9),(ZG φ x').cond=true->(ZG φ i').cond=true->0<=k->rs[k.toNat]? =some r->r.length=sz->(∃b m cp,a.eval x= .slice b m cp/\VX E.w E.st (.sl rs) (.slice b m cp))->
      ∃v,(execOp a.eval {dst,op:= .indexAddr t x i,type:=ty,pos,after,guard}).run P E.w= .ok (.value v) E.w/\V E os (.vptr r) v:=by
     intro rs r c1 c2 k0 hr hrl hvx;obtain⟨b,m,cp,hva,hvx⟩:=hvx;obtain⟨kk,hki⟩:=idx i' k hi c2 hk;cases hvx with
     |sl _ _ _ _ sz0 val hn hcc hm hsz0 hcell hnil hsp hval=>
      have hlt:=(ZX hr).1;have hs0:sz0=sz:=by rw[<-hrl,hsz0 r (JE hr)]
      subst hs0;cases b with
      |none=>have:=(hnil rfl).1;omega
      |some ad=>
       refine⟨_,Jc (s:=Instr.indexAt t (a.eval x) (a.eval i)) rfl (by rw[hva,hki];exact ZLb ht hsz ad m cp kk k k0 J0 E.w),?_⟩;rw[ZFL (hsp J0 ad rfl)];have e: ∀(j:Nat) (y:X),r[j]? =some y->j<sz0:=λj y hj=>by rw[<-hrl];exact(ZX hj).1
       refine .vptr _ _ (λj=>val k.toNat j) (λj y hj=> ?_) (λj y hj=>hval _ j r y hr hj);obtain⟨b',off,k1,k2,k3⟩:=hcell k.toNat j J0 (e j y hj);cases k1;exact⟨k2,k3⟩
    split at h
    .rename_i rs h1;obtain⟨r,hr,h2⟩:=Zc h;simp at h2;obtain⟨⟨⟨c1,c2⟩,k0,k1⟩,rfl⟩:=h2;have:=hv.strip c1;rw[h1]at this;have hvx:=this.xx;refine slc rs r c1 c2 k0 hr k1 ?_;generalize a.eval x=va at hvx;have hv0:=hvx;cases hv0 with
     |sl _ ad m cp sz0 val hn hcc hm hsz0 hcell hnil hsp hval=>exact⟨_,_,_,rfl,hvx⟩
    .rename_i rs h1;obtain⟨r,hr,h2⟩:=Zc h;simp at h2;obtain⟨⟨⟨c1,c2⟩,k0,k1⟩,rfl⟩:=h2;have:=hv.strip c1;rw[h1]at this;refine slc rs r c1 c2 k0 hr k1 ?_;generalize a.eval x=va at this;cases this with
     |full m hvx=>exact⟨_,_,_,rfl,hvx⟩
    .rename_i id ext off len h1;split at h
     .rename_i o ho;split at h
      .rename_i sz' rs hsl;simp at h;obtain⟨⟨⟨c1,c2⟩,rfl,k1,k2,k3⟩,rfl⟩:=h;have:=hv.strip c1;rw[h1]at this;obtain⟨kk,hki⟩:=idx i' k hi c2 hk;generalize hva:a.eval x=va at this;cases this with
       |ref hr _=>
        obtain⟨q1,q2⟩:=hr.at ho hsl;obtain⟨q3,b,ad,cap,ad',cap',q4,q5,q6,q7,q8,q9,-,-⟩:=q2 k1;subst q5;obtain⟨p,hp,hok⟩:=R.at ho;rw[hp]at q4;cases q4;obtain⟨w1,w2,w3,w4,w5,w8⟩:=hok.cap hsl rfl;cases ad with
        |none=>have:=(w5 rfl).1;omega
        |some ad=>
         have q9:=q9 J0 ad rfl;subst q9;refine⟨_,Jc (s:=Instr.indexAt t (a.eval x) (a.eval i)) rfl X9,.eptr ⟨o,sz',rs.length,ho,Ob.slice_sl hsl,?_⟩ ⟨_,rfl⟩⟩;refine⟨q1,λ_=>⟨J0,b,ad.block,cap,?_,?_⟩⟩
         .rw[hp];rw[<-w8 ad rfl]
         .rw[JT];have h00:ad.off=0:=by rw[w8 ad rfl]
          rw[h00,JR];simp
      .split at h
       .rename_i sz' rs hsl;obtain⟨e',rfl⟩:=Ob.dsl_drw hsl;simp only[Yu,YP,Zj,Yl]at h;obtain⟨⟨⟨c1,c2⟩,k0,k1,k2,k3⟩,rfl⟩:=h;have:=hv.strip c1;rw[h1]at this;obtain⟨kk,hki⟩:=idx i' k hi c2 hk;generalize hva:a.eval x=va at this;cases this with
        |ref hr _=>
         obtain⟨q1,q2⟩:=hr.at' ho rfl;obtain⟨q3,b,ad,cap,ad',cap',q4,q5,q6,q7,q8,q9,-,-⟩:=q2 k1;subst q5;obtain⟨p,hp,hok⟩:=R.at ho;rw[hp]at q4;cases q4;obtain⟨w1,w2,w3,w4,w5,w8⟩:=ZeI hok rfl;cases ad with
         |none=>have:=(w5 rfl).1;omega
         |some ad=>
          have q9:=q9 J0 ad rfl;subst q9;subst k0;refine⟨_,Jc (s:=Instr.indexAt t (a.eval x) (a.eval i)) rfl X9,.eptr ⟨_,sz',rs.length,ho,rfl,?_⟩ ⟨_,rfl⟩⟩;refine⟨q1,λ_=>⟨J0,b,ad.block,cap,?_,?_⟩⟩
          .rw[hp];rw[<-w8 ad rfl]
          .rw[JT];have h00:ad.off=0:=by rw[w8 ad rfl]
           rw[h00,JR];simp
       .cases h
     .cases h
    .rename_i id off len h1;simp only[Yu,YP,Zj,Yl]at h;obtain⟨⟨⟨c1,c2⟩,k1,k2,k3⟩,rfl⟩:=h;have:=hv.strip c1;rw[h1]at this;obtain⟨kk,hki⟩:=idx i' k hi c2 hk;generalize hva:a.eval x=va at this;cases this with
     |bref ho hb hm=>
      refine⟨_,Jc (s:=Instr.indexAt t (a.eval x) (a.eval i)) rfl (by rw[hva,hki];exact ZLb ht hsz _ len len kk k k2 k3 E.w),?_⟩;rw[JT,k1,Ql];exact .ptr ho hb
    .cases h
  .rename_i m el ht;simp only[KL,YG]at hc;obtain⟨sz,hsz,x',hx,i',hi,hc⟩:=hc;cases hc;simp only[ZT]at h;have hv:=V.op hf hx;split at h
   .cases h
   .rename_i k hk;split at h
    .rename_i id o h1;simp at h;obtain⟨⟨⟨c1,c2⟩,k0,k1⟩,rfl⟩:=h;have:=hv.strip c1;rw[h1]at this;obtain⟨kk,hki⟩:=idx i' k hi c2 hk;generalize hva:a.eval x=va at this;cases this with
     |ptr hb0 hb=>
      refine⟨_,Jc (s:=Instr.indexAt t (a.eval x) (a.eval i)) rfl Gh,?_⟩;rw[JT];exact .ptr hb0 hb
    .rename_i cs h1;simp at h;obtain⟨⟨⟨c1,c2⟩,k0,k1⟩,rfl⟩:=h;have:=hv.strip c1;rw[h1]at this;obtain⟨kk,hki⟩:=idx i' k hi c2 hk;generalize hva:a.eval x=va at this;cases this with
     |vptr b off val hcc hvv=>
      refine⟨_,Jc (s:=Instr.indexAt t (a.eval x) (a.eval i)) rfl Gh,?_⟩;rw[JT];refine .vptr b _ (λj=>val (k.toNat*sz+j)) (λj y hj=> ?_) (λj y hj=> ?_)
      .rw[ZAZ]at hj;rw[ZFe];exact hcc _ y hj
      .rw[ZAZ]at hj;exact hvv _ y hj
    .rename_i id ext j o h1;simp at h;obtain⟨⟨⟨c1,c2⟩,k0,k1⟩,rfl⟩:=h;have:=hv.strip c1;rw[h1]at this;obtain⟨kk,hki⟩:=idx i' k hi c2 hk;generalize hva:a.eval x=va at this;cases this with
     |eptr hr h4=>
      obtain⟨o',sz',rs,q1,q2,q3,q4⟩:=hr;obtain⟨ad,rfl⟩:=h4;refine⟨_,Jc (s:=Instr.indexAt t (a.eval x) (a.eval i)) rfl Gh,.eptr ⟨o',sz',rs,q1,q2,q3,λhl=> ?_⟩ ⟨_,rfl⟩⟩;obtain⟨w1,b,g,cap,w2,w3⟩:=q4 hl;simp only[Value.pointer.injEq,Yu]at w3;subst w3;exact⟨w1,b,g,cap,w2,by rw[JT,ZFe]⟩
    .cases h
  .cases hc
 case index t x i=>
  split at hc
  .rename_i ht;simp only[KL,YG]at hc;obtain⟨x',hx,i',hi,hc⟩:=hc;cases hc;simp only[ZT]at h;split at h
   .rename_i s kk k h1 h2;simp at h;obtain⟨⟨⟨c1,c2⟩,k0,k1⟩,rfl⟩:=h;have v1:=(V.op hf hx).strip c1;have v2:=(V.op hf hi).strip c2;rw[h1]at v1;rw[h2]at v2;refine⟨_,Jc (s:=Instr.index t (a.eval x) (a.eval i)) rfl (by rw[V.str v1,V.int v2];exact ZgV ht s kk k k0 k1 E.w),?_⟩;simp only[ZCB];exact V.mkint _ _ _ _
   .cases h
  .rename_i m el ht;simp only[KL,YG]at hc;obtain⟨sz,hsz,ag,hag,x',hx,i',hi,hc⟩:=hc;cases hc;simp only[ZT]at h;split at h
   .rename_i ds kk k h1 h2;have hh:((ZG φ x').cond=true/\(ZG φ i').cond=true)/\(0<=k/\k<m)/\(if ag then some (D.agg ((ds.drop (k.toNat*sz)).take sz))else ds[k.toNat*sz]?)=some d:=by
     cases ag
     .rw[if_neg J1]at h;obtain⟨d',k1,k2⟩:=Zc h;simp at k2;obtain⟨⟨k3,k4⟩,rfl⟩:=k2;exact⟨k3,k4,Xj⟩
     .simp at h;exact⟨h.1.1,h.1.2,by simp[h.2]⟩
    obtain⟨⟨c1,c2⟩,⟨k0,k1⟩,h3⟩:=hh;have v1:=(V.op hf hx).strip c1;have v2:=(V.op hf hi).strip c2;rw[h1]at v1;rw[h2]at v2;obtain⟨v,q1,q2⟩:=ZbC (P:=P) ht hsz hag v1 kk k k0 k1 E.w h3;exact⟨v,Jc (s:=Instr.index t (a.eval x) (a.eval i)) rfl (by rw[V.int v2];exact q1),q2⟩
   .cases h
  .cases hc
 case extract x i=>
  obtain⟨y,hy,hc⟩:=Zg hc;cases hc;simp only[ZT]at h;split at h
  .rename_i ds h1;obtain⟨d',hd,h2⟩:=Zc h;simp at h2;obtain⟨h3,rfl⟩:=h2;have:=(V.op hf hy).strip h3;rw[h1]at this;generalize hva:a.eval x=va at this;cases this with
   |tup vs hl hvv=>
    have hlt:=(ZX hd).1;have hvs:vs[i]? =some vs[i]:=ξJ J0;exact⟨vs[i],Jc (s:=Instr.extract (a.eval x) i) rfl (by rw[hva];simp[Instr.extract,hvs]),hvv i d' _ hd hvs⟩
  .cases h
 case makeFunc fn first caps=>
  cases fn<;>simp only at hc<;>(try cases hc)
  rename_i f;split at hc
  .rename_i h0;obtain⟨ys,hys,hc⟩:=Zg hc;cases hc;simp[ZT]at h;subst h;obtain⟨k1,k2⟩:=ZNq hf hys;have e0:first= #[]:=Zid h0
   subst e0;refine⟨_,Jc (s:=Instr.makeFunc (.func f) ((#[]:Array Operand).map a.eval) (caps.map a.eval)) rfl (by simp[Instr.makeFunc];rfl),.fn _ (by simp;rw[<-k1];simp) (λj d v hd hv=> ?_)⟩;rw[YI]at hd;obtain⟨y,hy,rfl⟩:=Zc hd;rw[ZdU]at hv;obtain⟨x,hx,rfl⟩:=Zc hv;exact k2 j x y Gw hy
  .cases hc
 case makeMap t r=>
  split at hc
  .obtain⟨dk,hd,hc⟩:=Zg hc;obtain⟨ag,ha,rfl⟩:=Zc hc;simp[ZT]at h
  .cases hc
 case mapUpdate t x y u=>
  split at hc
  .obtain⟨dk,hd,hc⟩:=Zg hc;exact UK
  .cases hc
 case insert t x y u=>
  split at hc
  .obtain⟨dk,hd,hc⟩:=Zg hc;exact UK
  .cases hc
 case mapEntry t x y=>
  split at hc
  .obtain⟨dk,hd,hc⟩:=Zg hc;obtain⟨i,hi,hc⟩:=Zg hc;obtain⟨z,hz,hc⟩:=Zg hc;exact UP
  .cases hc
 case entryStore t x y u=>
  exact UK
 case range t x=>
  split at hc
  .exact T1
  .exact T1
  .cases hc
 case next x st=>
  exact T1
 case entry x=>
  obtain⟨y,hy,hc⟩:=Zg hc;cases hc;simp only[ZT]at h;split at h
  .rename_i mid it hv;split at h
   .rename_i dk ag l it' Rm q ho;split at h
    .rename_i hit;subst hit;simp only[Yu,YP]at h;obtain⟨c1,rfl⟩:=h;have v1:=(V.op hf hy).strip c1;rw[hv]at v1;generalize hva:a.eval x=va at v1;cases v1 with
     |iref ho' hk' hb=>
      obtain⟨p,hp,hok⟩:=R.at ho;obtain⟨_,ib,cu,es,clk,since,seen,c0,o,k1,k2,k3,k4,k5,k6,k7,k8,k9,k10,k11⟩:=hok;rw[k4]at hb;cases hb;obtain⟨rfl,seen',e,rfl,g3,g4⟩:=k11 q rfl;refine⟨_,Jc (s:=Instr.entry (a.eval x)) rfl (by rw[hva];exact run_entry_at E.w _ p.1 since seen' es _ e k5 k6 g3 k9),V.tupP ?_ (V.cell g4.2)⟩;rw[g4.1];exact V.keyD E os dk q.1
    .cases h
   .cases h
  .cases h
 case lookup t x y ok=>
  split at hc
  .rename_i key elem hT;obtain⟨dk,hd,hc⟩:=Zg hc;obtain⟨i,hi,hc⟩:=Zg hc;obtain⟨z,hz,hc⟩:=Zg hc;obtain⟨x',y',hx,hy,hc⟩:=Kx hc;subst hc;simp only[ZT]at h;split at h
   .rename_i id hv;split at h
    .rename_i dk' ag l ho;split at h
     .rename_i hdk;subst hdk;obtain⟨key',hk,h⟩:=Zc h;simp only[YP,Zj]at h;obtain⟨⟨c1,c2⟩,hd'⟩:=h;have v1:=(V.op hf hx).strip c1;rw[hv]at v1;have v2:=(V.op hf hy).strip c2;generalize hva:a.eval x=va at v1;cases v1 with
      |mref ho' hk' hb=>
       obtain⟨o,ho1,ho2⟩:=Zg ho;obtain⟨p,hp,hok0⟩:=R.at ho1;have hok:=hok0.map ho2;rw[hp]at hb;cases hb;have hz':(zeroValue elem).run P E.w= .ok z E.w:=by simp[zeroValue,ZEF hi,hz]
       rcases YL.get (P:=P) hok hk v2 hT (ZEP hd).1 hz' ok with⟨v,xs,g1,g2,g3⟩|⟨g1,g3⟩
       .refine⟨_,Jc (s:=Instr.lookup t (a.eval x) (a.eval y) ok) rfl (by rw[hva];exact g3),?_⟩;rw[g1]at hd';subst hd';cases ok with
        |true=>exact V.tup2 (V.cell g2) true
        |false=>exact V.cell g2
       .refine⟨_,Jc (s:=Instr.lookup t (a.eval x) (a.eval y) ok) rfl (by rw[hva];exact g3),?_⟩;rw[g1]at hd';subst hd';cases ok with
        |true=>exact V.tup2 (V.const E os z) false
        |false=>exact V.const E os z
     .cases h
    .cases h
   .cases h
  .cases hc
 case call cl=>
  obtain⟨callee,args,ats⟩:=cl;unfold ZCP at hc;simp only at hc;have bi: ∀(b:Builtin) (s:Sem Value) (v:Value) (k:Bool->Bool),(∀consts,builtin b ats ty consts (args.map a.eval)=(do pure (Next.value (<-s))))->callee= .builtin b->s.run P E.w= .ok v E.w->
    (execOp a.eval {dst,op:= .call ⟨callee,args,ats⟩,type:=ty,pos,after,guard}).run P E.w= .ok (.value v) E.w:=by
   intro b s v _ hb he hr;subst he;unfold execOp;simp only[resolve,Sem.run_bind,Sem.run_pure,Result.andThen_ok,invoke,hb,hr]
  split at hc
  .simp only[KL,YG]at hc;obtain⟨f',hf',ys,hys,hc⟩:=hc;cases hc;cases hne
  .split at hc
   .rename_i x t h1 h2;have h1:args= #[x]:=UV
    have h2:ats= #[t]:=TJ
    subst h1;subst h2;have fin: ∀(st:Bool),(if st then P.underlying t=some .string else∃e,P.underlying t=some (.slice e))-> ∀y,Zb x=some y->e= .len st y-> ∃v,(execOp a.eval {dst,op:= .call ⟨.builtin .len,#[x],#[t]⟩,type:=ty,pos,after,guard}).run P E.w= .ok (.value v) E.w/\V E os d v:=by
     intro st ht y hy he;subst he;simp only[ZT,Kq]at h;obtain⟨m,h1,h2⟩:=h;simp at h2;obtain⟨⟨c1,c2⟩,rfl⟩:=h2;have:=ZeG (P:=P) ht ((V.op hf hy).strip c1) c2 h1 ty E.w;exact⟨_,bi .len (Builtin.len_ #[t] ty #[a.eval x]) _ id (λ_=>UU) rfl this,V.mkint _ _ _ _⟩
    split at hc
    .rename_i ht;obtain⟨y,hy,hc⟩:=Zg hc;exact fin true ht y hy (by cases hc;rfl)
    .rename_i el ht;obtain⟨y,hy,hc⟩:=Zg hc;exact fin false ⟨el,ht⟩ y hy (by cases hc;rfl)
    .rename_i mk me ht;obtain⟨y,hy,hc⟩:=Zg hc;cases hc;simp only[ZT]at h;split at h
     .rename_i oid hv;split at h
      .rename_i dk ag l ho;simp only[Yu,YP]at h;obtain⟨c1,rfl⟩:=h;have v1:=(V.op hf hy).strip c1;rw[hv]at v1;generalize hva:a.eval x=va at v1;cases v1 with
       |mref ho' hk' hb=>
        obtain⟨o,ho1,ho2⟩:=Zg ho;obtain⟨p,hp,hok0⟩:=R.at ho1;have hok:=hok0.map ho2;rw[hp]at hb;cases hb;exact⟨_,bi .len (Builtin.len_ #[t] ty #[a.eval x]) _ id (λ_=>UU) rfl (by rw[hva];exact ZUn hok ht ty),V.mkint _ _ _ _⟩
      .cases h
     .rename_i hv;simp only[Yu,YP]at h;obtain⟨c1,rfl⟩:=h;have v1:=(V.op hf hy).strip c1;rw[hv]at v1;exact⟨_,bi .len (Builtin.len_ #[t] ty #[a.eval x]) _ id (λ_=>UU) rfl (by rw[v1.mnil_inv];exact ZUX ht ty E.w),V.mkint _ _ _ _⟩
     .cases h
    .cases hc
   .cases hc
  .split at hc
   .split at hc
    .obtain⟨i,hi,hc⟩:=Zg hc;obtain⟨z,hz,hc⟩:=Zg hc;obtain⟨zx,hzx,hc⟩:=Zg hc;exact UP
    .obtain⟨i,hi,hc⟩:=Zg hc;obtain⟨z,hz,hc⟩:=Zg hc;split at hc
     .exact UP
     .cases hc
    .cases hc
   .cases hc
  .split at hc
   .split at hc
    .simp only[KL,YG]at hc;obtain⟨z,hz,x',hx,y',hy,hc⟩:=hc;cases hc;simp[ZT]at h
    .cases hc
   .cases hc
  .split at hc
   .split at hc
    .obtain⟨dk,hdk,hc⟩:=Zg hc;exact UP
    .cases hc
   .cases hc
  .split at hc
   .split at hc
    .obtain⟨x',hx,hc⟩:=Zg hc;cases hc;simp[ZT]at h
    .cases hc
   .cases hc
  all_goals first
   |(cases hc;done)
   |(split at hc
     .rename_i x y h1;have h1:args= #[x,y]:=UV
      subst h1;obtain⟨x',y',hx,hy,hc⟩:=Kx hc;subst hc;simp only[ZT]at h;split at h
      .rename_i k m k' m' q1 q2;simp at h;obtain⟨⟨c1,c2⟩,rfl⟩:=h;have v1:=(V.op hf hx).strip c1;have v2:=(V.op hf hy).strip c2;rw[q1]at v1;rw[q2]at v2;have r1:=ZVf (P:=P) (t:=ty) false k k' m m' ats E.w;have r2:=ZVf (P:=P) (t:=ty) true k k' m m' ats E.w;simp only[Je,if_false,if_true]at r1 r2;rw[<-V.int v1,<-V.int v2]at r1 r2
       first
        |exact⟨_,bi .min (Builtin.min_ ats ty #[a.eval x,a.eval y]) _ id (λ_=>UU) rfl r1,V.mkint _ _ _ _⟩
        |exact⟨_,bi .max (Builtin.max_ ats ty #[a.eval x,a.eval y]) _ id (λ_=>UU) rfl r2,V.mkint _ _ _ _⟩
      .cases h
     .cases hc)
end
def Yh(os:J7):D->Option (X×J7)
 | .x y=>some (y,os)
 | .full rs=>some (.sl rs,os)
 | .ref id ext off len=>match os[id]? with
  |some (.rows _ _ sz rs)=>if rs.length=ext then some (.sl ((rs.drop off).take len),os.set id (.frz sz rs))else none
  |some (.frz _ rs)=>if rs.length=ext then some (.sl ((rs.drop off).take len),os)else none
  |_=>none
 |_=>none
def YZ:J7->J8->Option (List X×J7)
 |os,[]=>some ([],os)
 |os,d::ds=>(Yh os d).bind λp=>(YZ p.2 ds).map λq=>(p.1::q.1,q.2)
def JZ(φ:J4)(sz:Nat):J7->List IO->Option (Bool×List J9×J7)
 |os,[]=>some (true,[],os)
 |os,x::xs=>(ZG φ x).val.cells?.bind λcs=>(YZ os cs).bind λp=>if p.1.length=sz then
   (JZ φ sz p.2 xs).map λq=>((ZG φ x).cond&&q.1,p.1::q.2.1,q.2.2)else none
def ZCC(os:J7)(sz:Nat):D->Option J6
 | .x (.str s)=>if sz=1 then some (s.map Zv)else none
 |d=>Zx os d
def Kj(rs:J6):List J8:=rs.map (List.map D.x)
def Ob.drw? :Ob->Option (Nat×Nat×List J8)
 | .drw e sz rs=>some (e,sz,rs)
 |_=>none
theorem Ob.drw_of{o:Ob}{e sz:Nat}{rs:List J8}(h:o.drw? =some (e,sz,rs)):o= .drw e sz rs:=by
 cases o<;>simp_all[Ob.drw?]
def apm:Nat->Nat
 |1=>140737488355328
 |_=>1099511627776
theorem Zhn{n b:Nat}(h:n<=apm b)(hb:b<=128):n*b<=140737488355328/\n<=140737488355328:=by
 by_cases h1:b=1
 .subst h1;simp only[apm]at h;omega
 .have:apm b=1099511627776:=by unfold apm;split<;>simp_all
  rw[this]at h;have:n*b<=1099511627776*128:=ZMa h hb;omega
def Ob.isDrw(e:Nat):Ob->Bool
 | .drw e' _ _=>decide (e'=e)
 |_=>false
def Qq(e:Nat):J7->Bool
 | []=>false
 |o::_=>o.isDrw e
def Ja(φ:J4)(sz:Nat):List IO->Option (Bool×List J8)
 | []=>some (true,[])
 |x::xs=>(ZG φ x).val.cells?.bind λcs=>if cs.length=sz then(Ja φ sz xs).map λq=>((ZG φ x).cond&&q.1,cs::q.2)else none
def Kc(ext off len:Nat):Option Ob->Option (List J8)
 |some (.drw _ _ rs)=>if rs.length=ext/\off=0/\len=ext then some rs else none
 |_=>none
def Qh(os:J7):D->Option (List J8)
 | .ref id ext off len=>Kc ext off len os[id]?
 |_=>none
def ZA4(e sz:Nat)(os:J7)(cx:Bool)(src:List J8):D->Option (Bool×D×J7)
 | .ref id ext off len=>match os[id]? with
  |some (.drw e' sz' rs)=>if e'=e/\sz'=sz/\off=0 then
    some (cx&&(decide (rs.length=ext)&&(decide (len=ext)&&(decide (0<src.length)&&(decide (rs.length+src.length<=1099511627776)&&src.all λr=>decide (r.length=sz))))),.ref id (ext+src.length) 0 (ext+src.length),os.set id (.drw e sz (rs++src)))else none
  |_=>none
 |_=>none
def YF(φ:J4)(os:J7):IE->Option (Bool×D×J7)
 | .box x=>(ZG φ x).val.cells?.map λcs=>((ZG φ x).cond,.ptr os.length 0,os++ [.box cs])
 | .sto n p v=>(ZG φ v).val.cells?.bind λcs=>if cs.length=n then
   match(ZG φ p).val with
   | .ptr id o=>match os[id]? with
    |some (.box ds)=>if o+n<=ds.length then some ((ZG φ p).cond&&(ZG φ v).cond,.und,os.set id (.box (ds.take o++cs++ds.drop (o+n))))else none
    |_=>none
   | .eptr id ext i o=>match(os[id]?).bind Ob.drw? with
    |some (e,sz,rs)=>(rs[i]?).map λr=>((ZG φ p).cond&&(ZG φ v).cond&&(decide (rs.length=ext)&&decide (o+n<=sz)),.und,os.set id (.drw e sz (rs.set i (r.take o++cs++r.drop (o+n)))))
    |none=>(YZ os cs).bind λq=>match q.2[id]? with
     |some (.rows fz e sz rs)=>(rs[i]?).map λr=>
       ((ZG φ p).cond&&(ZG φ v).cond&&(decide (rs.length=ext)&&decide (o+n<=sz)),.und,q.2.set id (.rows fz e sz (rs.set i (r.take o++q.1++r.drop (o+n)))))
     |_=>none
   |_=>none
  else none
 | .bsl e sz n parts=>if n=parts.length then(if Qq e os=true then(Ja φ sz parts).map λq=>(q.1,.ref os.length n 0 n,os++ [.drw e sz q.2])else(JZ φ sz os parts).map λq=>(q.1,.ref q.2.2.length n 0 n,q.2.2++ [.rows false e sz q.2.1]))else none
 | .mks e sz by_ z l c=>match ZD (ZG φ l).val,ZD (ZG φ c).val with
  |some l',some c'=>if z.length=sz/\by_<=128 then some ((ZG φ l).cond&&(ZG φ c).cond&&(decide (0<=l')&&(decide (l'<=c')&&decide (c'<=1099511627776))),.ref os.length l'.toNat 0 l'.toNat,os++ [.rows false e sz (List.replicate l'.toNat z)])else none
  |_,_=>none
 | .app e sz by_ x y=>if 0<sz/\by_<=128 then match Qh os (ZG φ y).val with
  |some src=>ZA4 e sz os ((ZG φ x).cond&&(ZG φ y).cond) src (ZG φ x).val
  |none=>(Zx os (ZG φ y).val).bind λsrc=>match(ZG φ x).val with
   | .x .nils=>some ((ZG φ x).cond&&(ZG φ y).cond&&(decide (src.length<=1099511627776)&&src.all λr=>decide (r.length=sz)),.ref os.length src.length 0 src.length,os++ [.rows false e sz src])
   | .full rs0=>if src.length=0 then some ((ZG φ x).cond&&(ZG φ y).cond,.full rs0,os)else
     some ((ZG φ x).cond&&(ZG φ y).cond&&(decide (rs0.length+src.length<=1099511627776)&&((rs0.all λr=>decide (r.length=sz))&&src.all λr=>decide (r.length=sz))),.ref os.length (rs0.length+src.length) 0 (rs0.length+src.length),os++ [.rows false e sz (rs0++src)])
   | .ref id ext off len=>match os[id]? with
    |some (.rows false e' sz' rs)=>if e'=e/\sz'=sz/\off=0 then
      some ((ZG φ x).cond&&(ZG φ y).cond&&(decide (rs.length=ext)&&(decide (len=ext)&&(decide (rs.length+src.length<=apm by_)&&src.all λr=>decide (r.length=sz)))),.ref id (ext+src.length) 0 (ext+src.length),os.set id (.rows false e sz (rs++src)))else none
    |some (.drw e' sz' rs)=>if e'=e/\sz'=sz/\off=0 then
      some ((ZG φ x).cond&&(ZG φ y).cond&&(decide (rs.length=ext)&&(decide (len=ext)&&(decide (0<src.length)&&(decide (rs.length+src.length<=1099511627776)&&src.all λr=>decide (r.length=sz))))),.ref id (ext+src.length) 0 (ext+src.length),os.set id (.drw e sz (rs++Kj src)))else none
    |_=>none
   |_=>none
  else none
 | .apz e sz by_ z x y=>match ZD (ZG φ y).val with
  |some (m:Int)=>if 0<sz/\by_<=128/\z.length=sz then match(ZG φ x).val with
    | .ref id ext off len=>match os[id]? with
     |some (.rows false e' sz' rs)=>if e'=e/\sz'=sz/\off=0 then
       some ((ZG φ x).cond&&(ZG φ y).cond&&(decide (rs.length=ext)&&(decide (len=ext)&&(decide (0<m)&&decide (rs.length+m.toNat<=1099511627776)))),.ref id (ext+m.toNat) 0 (ext+m.toNat),os.set id (.rows false e sz (rs++List.replicate m.toNat z)))else none
     |_=>none
    |_=>none
   else none
  |none=>none
 | .cpy sz x y=>(ZCC os sz (ZG φ y).val).bind λsrc=>match(ZG φ x).val with
   | .ref id ext off len=>match os[id]? with
    |some (.rows fz e sz' rs)=>if sz'=sz then
      some ((ZG φ x).cond&&(ZG φ y).cond&&(decide (rs.length=ext)&&src.all λr=>decide (r.length=sz)),.x (.int .i64 (min src.length len:Nat)),os.set id (.rows fz e sz (rs.take off++src.take (min src.length len)++rs.drop (off+min src.length len))))else none
    |_=>none
   |_=>none
 | .abx t x=>(ZG φ x).val.cells?.bind λcs=>(YZ os cs).map λq=>((ZG φ x).cond,.eptr q.2.length 1 0 0,q.2++ [.rows false t q.1.length [q.1]])
 | .mkm dk ag=>some (true,.mref os.length,os++ [.mpo dk ag []])
 | .mup dk x k v=>(ZG φ v).val.cells?.bind λcs=>match(ZG φ x).val with
  | .mref id=>match(os[id]?).bind Ob.upd? with
   |some (dk',ag,l)=>if dk'=dk/\agD (ZG φ v).val=ag then(QU dk (ZG φ k).val).map λkey=>
     ((ZG φ x).cond&&((ZG φ k).cond&&(ZG φ v).cond),.und,os.set id (.mpo dk ag (Yp l key cs)))else none
   |none=>none
  |_=>none
 | .mdl dk x k=>match(ZG φ x).val with
  | .mref id=>match(os[id]?).bind Ob.upd? with
   |some (dk',ag,l)=>if dk'=dk then(QU dk (ZG φ k).val).map λkey=>((ZG φ x).cond&&(ZG φ k).cond,.tup [],os.set id (.mpo dk ag (ZCO l key)))else none
   |none=>none
  |_=>none
 | .men dk z x k=>z.cells?.bind λzs=>match(ZG φ x).val with
  | .mref id=>match(os[id]?).bind Ob.upd? with
   |some (dk',ag,l)=>if dk'=dk/\agD z=ag then(QU dk (ZG φ k).val).map λkey=>
     ((ZG φ x).cond&&(ZG φ k).cond,.tup [ZFq ag ((Jz l key).getD zs),.stk id os.length],os.set id (.mpn dk ag (Yp l key ((Jz l key).getD zs)) key os.length)++ [.stp])else none
   |none=>none
  |_=>none
 | .est x s v=>(ZG φ v).val.cells?.bind λcs=>match(ZG φ x).val,(ZG φ s).val with
  | .mref id,.stk id' sid=>match os[id]? with
   |some (.mpn dk ag l key sid')=>if id'=id/\sid'=sid/\agD (ZG φ v).val=ag then
     some ((ZG φ x).cond&&((ZG φ s).cond&&(ZG φ v).cond),.und,os.set id (.mpo dk ag (Yp l key cs)))else none
   |_=>none
  |_,_=>none
 | .mcl x=>match(ZG φ x).val with
  | .mref id=>match(os[id]?).bind Ob.upd? with
   |some (dk,ag,_)=>some ((ZG φ x).cond,.tup [],os.set id (.mpo dk ag []))
   |none=>none
  | .mnil=>some ((ZG φ x).cond,.tup [],os)
  |_=>none
 | .rgm x=>match(ZG φ x).val with
  | .mref id=>match(os[id]?).bind Ob.upd? with
   |some (dk,ag,l)=>some ((ZG φ x).cond,.iref id os.length,os.set id (.mit dk ag l os.length l none)++ [.itr])
   |none=>none
  | .mnil=>some ((ZG φ x).cond,.iref os.length os.length,os++ [.nit])
  |_=>none
 | .rgs x=>match(ZG φ x).val with
  | .x (.str s)=>some ((ZG φ x).cond,.iref os.length os.length,os++ [.sit s 0])
  |_=>none
 | .asl n x hi=>match(ZG φ x).val with
  | .eptr id ext i 0=>match os[id]? with
   |some (.rows _ _ sz rs)=>if sz=n then(rs[i]?).bind λr=>match hi with
     |none=>some ((ZG φ x).cond&&decide (rs.length=ext),.x (.sl (r.map λy=> [y])),os.set id (.frz sz rs))
     |some h=>(ZD (ZG φ h).val).map λ(m:Int)=>((ZG φ x).cond&&((ZG φ h).cond&&(decide (0<=m)&&(decide (m<=n)&&decide (rs.length=ext)))),.x (.sl ((r.take m.toNat).map λy=> [y])),os.set id (.frz sz rs))
    else none
   |_=>none
  |_=>none
 | .s2b e x=>match(ZG φ x).val with
  | .x (.str s)=>some ((ZG φ x).cond&&decide (s.length<=140737488355328),.ref os.length s.length 0 s.length,os++ [.rows true e 1 (s.map Zv)])
  |_=>none
 |_=>none
section
variable {P:Program} {E:Env} {os:J7} {c:Ctx} {n:Nat} {φ:J4} {a:Act}
theorem ZIx(R:Rel c E os){d:D}{v:Value}(hv:V E os d v){x:X}{os':J7}(h:Yh os d=some (x,os')):
  ∃st',Rel c ⟨E.w,st',E.ob⟩ os'/\Evo E os ⟨E.w,st',E.ob⟩ os'/\VX E.w st' x v:=by
 have same: ∀ {y},V E os d v->VX E.w E.st y v->os'=os->x=y-> ∃st',Rel c ⟨E.w,st',E.ob⟩ os'/\Evo E os ⟨E.w,st',E.ob⟩ os'/\VX E.w st' x v:=by
  rintro y _ h1 rfl rfl;exact⟨E.st,R,Evo.refl _ _,h1⟩
 have frz: ∀(E':Env) (os1:J7) (id ext off len sz:Nat) (rs:J6),Rel c E' os1->V E' os1 (.ref id ext off len) v->os1[id]? =some (.frz sz rs)->rs.length=ext->VX E'.w E'.st (.sl ((rs.drop off).take len)) v:=by
  intro E' os1 id ext off len sz rs R' hv' ho hl;cases hv' with
  |ref hr _=>
   obtain⟨h1,h2⟩:=hr.at ho rfl;obtain⟨h3,b,ad,cap,a',cap',h4,h5,h6,h7,h8,h9,h10,h11⟩:=h2 hl;obtain⟨p,hp,hok⟩:=R'.at ho;rw[hp]at h4;cases h4;subst h5;have hok':VX E'.w E'.st (.sl rs) (.slice ad ext cap):=hok.1;obtain⟨w1,w2,w3,w4,w5,w6⟩:=OK.cap (os:=os1) (o:= .frz sz rs) hok rfl rfl;exact Mk
 unfold Yh at h;split at h
 .cases h;exact same hv hv.xx rfl rfl
 .cases h;cases hv with
  |full m hx=>exact same (.full m hx) hx rfl rfl
 .rename_i id ext off len;split at h
  .rename_i fz e sz rs ho;split at h
   .rename_i hl;cases h;obtain⟨p,hp,hok⟩:=R.at ho;obtain⟨R',ev⟩:=R.freeze ho hp;have hlt:=(ZX ho).1;exact⟨_,R',ev,frz _ _ id ext off len sz rs R' (hv.mono ev) (by simp[hlt]) hl⟩
   .cases h
  .rename_i sz rs ho;split at h
   .rename_i hl;cases h;exact⟨E.st,R,Evo.refl _ _,frz _ _ id ext off len sz rs R hv ho hl⟩
   .cases h
  .cases h
 .cases h
theorem ZCN: ∀ {E:Env} {os:J7} {ds:J8} {vs:List Value} {xs:J9} {os':J7},Rel c E os->(∀(j:Nat) (d:D) (v:Value),ds[j]? =some d->vs[j]? =some v->V E os d v)->ds.length=vs.length->YZ os ds=some (xs,os')->
  ∃st',Rel c ⟨E.w,st',E.ob⟩ os'/\Evo E os ⟨E.w,st',E.ob⟩ os'/\xs.length=vs.length/\ ∀(j:Nat) (x:X) (v:Value),xs[j]? =some x->vs[j]? =some v->VX E.w st' x v
 |E,os,[],vs,xs,os',R,hv,hl,h=>by
  cases h;exact⟨E.st,R,Evo.refl _ _,hl,λj x v hx=>by simp at hx⟩
 |E,os,d::ds,vs,xs,os',R,hv,hl,h=>by
  cases vs with
  |nil=>simp at hl
  |cons v vs=>
  simp only[YZ,YG,Kq]at h;obtain⟨⟨x,os1⟩,h1,⟨ys,os2⟩,h2,h3⟩:=h;cases h3;obtain⟨st1,R1,e1,k1⟩:=ZIx R (hv 0 d v rfl rfl) h1;obtain⟨st2,R2,e2,k2,k3⟩:=ZCN (E:=⟨E.w,st1,E.ob⟩) R1 (λj d' v' hd hv'=>(hv (j+1) d' v' hd hv').mono e1) UC h2;refine⟨st2,R2,e1.trans e2,Xn,λj y u hy hu=> ?_⟩;cases j with
  |zero=>simp at hy hu;subst hy;subst hu;exact k1.mono (λb o hb=>⟨(e2.st b o hb).1,rfl⟩)
  |succ j=>exact k3 j y u (by simpa using hy) Xk
theorem ZQD{sz:Nat}: ∀ {E:Env} {os:J7} {xs:List Operand} {ys:List IO} {rows:J6} {os':J7},Rel c E os->Fr n E os φ a->xs.mapM Zb=some ys->JZ φ sz os ys=some (true,rows,os')->
  ∃st',Rel c ⟨E.w,st',E.ob⟩ os'/\Evo E os ⟨E.w,st',E.ob⟩ os'/\rows.length=xs.length/\(∀r∈rows,r.length=sz)/\(∀x∈xs,(a.eval x).cells.size=sz/\ ∀u∈(a.eval x).cells.toList,u.oneCell'=true)/\
   ∀(i:Nat) (r:J9) (x:Operand) (j:Nat) (y:X) (v:Value),rows[i]? =some r->xs[i]? =some x->r[j]? =some y->(a.eval x).cells[j]? =some v->VX E.w st' y v
 |E,os,[],ys,rows,os',R,hf,hm,h=>by
  simp at hm;subst hm;cases h;exact⟨E.st,R,Evo.refl _ _,rfl,λr hr=>TI,λx hx=>(by cases hx),λi r x j y v hr=>Hc⟩
 |E,os,x::xs,ys,rows,os',R,hf,hm,h=>by
  simp only[ZAV,KL,YG,ZBA]at hm;obtain⟨y,hy,ys',hys,hm⟩:=hm;cases hm;simp only[JZ,YG]at h;obtain⟨cs,hcs,⟨zs,os1⟩,h1,h⟩:=h;simp only at h;split at h
  .rename_i hlen;obtain⟨⟨b,rs,os2⟩,h2,h3⟩:=Zc h;simp at h3;obtain⟨⟨hc,rfl⟩,rfl,rfl⟩:=h3;have hv:=(V.op hf hy).strip hc;obtain⟨q1,q2,q3⟩:=hv.cells hcs;obtain⟨st1,R1,e1,k1,k2⟩:=ZCN (vs:=(a.eval x).cells.toList) R (λj d v hd hv=>q3 j d v hd UB) (by simp[q1]) h1;obtain⟨st2,R2,e2,k3,k4,k5,k6⟩:=ZQD (E:=⟨E.w,st1,E.ob⟩) R1 (hf.mono e1) hys h2;refine⟨st2,R2,e1.trans e2,by simp[k3],λr hr=> ?_,λz hz=> ?_,λi r z j w v hr hz hw hv=> ?_⟩
   .rcases Jf.1 hr with rfl|hr
    .exact hlen
    .exact k4 r hr
   .rcases Jf.1 hz with rfl|hz
    .exact⟨by simp at k1;omega,q2⟩
    .exact k5 z hz
   .cases i with
    |zero=>
     simp at hr hz;subst hr;subst hz;exact(k2 j w v hw UB).mono (λb o hb=>⟨(e2.st b o hb).1,rfl⟩)
    |succ i=>exact Ho
  .cases h
theorem ZTE(sz:Nat): ∀(l:List Value) (i0:Nat) (cs:Array Value),(∀v∈l,v.cells.size=sz)->(i0+l.length)*sz<=cs.size->
  ∃cs',Instr.fill (λi=>some (i*sz,sz)) cs ((l.zipIdx i0).map λp=>(p.2,p.1))=some cs'/\cs'.toList=cs.toList.take (i0*sz)++(l.map λv=>v.cells.toList).flatten++cs.toList.drop ((i0+l.length)*sz)
 | [],i0,cs,_,_=>⟨cs,rfl,J1⟩
 |v::l,i0,cs,h1,h2=>by
  have hv:=h1 v ZAm;have hle:i0*sz+sz<=cs.size:=by
   have:(i0+1)*sz<=(i0+(v::l).length)*sz:=Ky _ J1;rw[JR,ZM2]at this;omega
  have hset:=ZNA (i0*sz) v.cells.toList 0 cs (by simp[hv];omega);have hsz:(((v.cells.toList.zipIdx 0).foldl (λcs p=>cs.setIfInBounds (i0*sz+p.2) p.1) cs)).size=cs.size:=by
   rw[<-Qt,hset];simp[hv];omega
  obtain⟨cs',q1,q2⟩:=ZTE sz l (i0+1) ((v.cells.toList.zipIdx 0).foldl (λcs p=>cs.setIfInBounds (i0*sz+p.2) p.1) cs) (λu hu=>h1 u (ξU _ hu)) (by rw[hsz];simp only[Yx]at h2;rw[show i0+1+l.length=i0+(l.length+1) by omega];exact h2);refine⟨cs',?_,?_⟩
  .rw[List.zipIdx_cons,YO,Instr.fill];simp only;rw[if_neg (by simp[hv];omega),<-q1];congr 1;rw[<-Array.foldl_toList];simp[Array.toList_zipIdx]
  .rw[q2,hset];simp only[KB,Qt,hv,YO,ZUS,Yx];have e1:(i0+1)*sz=i0*sz+sz:=by rw[JR,ZM2]
   have e2:(cs.toList.take (i0*sz)++v.cells.toList).length=i0*sz+sz:=by simp[hv];omega
   rw[e1,ZM5 J0,YR J0,List.drop_append,ZBB (by
    rw[e2,show i0+1+l.length=(i0+1)+l.length by omega,JR,e1];omega),QY,ZMR,e2]
   simp only[Ys];congr 3;rw[show i0+1+l.length=i0+(l.length+1) by omega];have:i0*sz+sz<=(i0+(l.length+1))*sz:=by
    have:(i0+1)*sz<=(i0+(l.length+1))*sz:=Ky _ J0;omega
   congr 1;omega
theorem ZO9{t e m:Nat}{i:TypeInfo}{z:Value}(ht:P.underlying t=some (.slice e))(hi:P.info? e=some i)(hz:i.zero=some z)(l:List Value)(hl:l.length=m)(hle:m*i.size<=16777216)(h1: ∀v∈l,v.cells.size=i.size)(w:World):
  ∃cs,(Instr.buildSlice t m ((l.zipIdx 0).map λp=>(p.2,p.1)).toArray).run P w= .ok (.slice (some ⟨w.heap.size,0,none⟩) m m) (w.alloc (.cells cs e))/\cs.toList=(l.map λv=>v.cells.toList).flatten/\cs.size=m*i.size:=by
 have hs:Kn P e=some i.size:=by simp[Kn,hi]
 subst hl;have key: ∀(zc:Array Value),∃cs,Instr.fill (λj=>some (j*i.size,i.size)) ((Array.range (l.length*i.size)).map (zc[· % zc.size]!)) ((l.zipIdx 0).map λp=>(p.2,p.1))=some cs/\cs.toList=(l.map λv=>v.cells.toList).flatten/\cs.size=l.length*i.size:=by
  intro zc;obtain⟨cs,q1,q2⟩:=ZTE i.size l 0 ((Array.range (l.length*i.size)).map (zc[· % zc.size]!)) h1 J1;rw[ZKL,ZB0,QY,Jk,ZBB J1,Kg]at q2;refine⟨cs,q1,q2,?_⟩;rw[<-Qt,q2];clear q1 q2
  induction l with
  |nil=>simp
  |cons v l ih=>
   rw[YO,ZUS,ZW,Yx,JR,ZM2,ZPa];have:=ih (λu hu=>h1 u (ξU _ hu)) (by simp only[Yx]at hle;have:l.length*i.size<=(l.length+1)*i.size:=Ky _ J0;omega);rw[this];simp[h1 v ZAm]
 by_cases h0:l.length*i.size=0
 .obtain⟨cs,q1,q2,q3⟩:=key #[];refine⟨cs,?_,q2,q3⟩;simp only[h0]at q1;simp[Instr.buildSlice,run_underlying ht,Kt hs,h0,newRow];simp at q1;simp[q1]
 .obtain⟨cs,q1,q2,q3⟩:=key z.cells;refine⟨cs,?_,q2,q3⟩;have hn: ¬(16777216<l.length*i.size):=Wm
  simp[Instr.buildSlice,run_underlying ht,Kt hs,hn,newRow,zeroValue,ZEF hi,hz];rw[if_neg h0,q1];simp
inductive Yield (E':Env) (os':J7) (d:D):Next->Prop
 |value {v:Value} (h:V E' os' d v):Yield E' os' d (.value v)
 |skip (h:d= .und):Yield E' os' d .skip
def Zck(P:Program)(c:Ctx)(E:Env)(os:J7)(o:Oper)(a:Act)(d:D)(os':J7):Prop:=
 ∃r E',(execOp a.eval o).run P E.w= .ok r E'.w/\Rel c E' os'/\Evo E os E' os'/\Yield E' os' d r
theorem ZGl{o:Oper}{s:Sem Unit}{w w':World}(h:execOp a.eval o=(do s;pure .skip))(hr:s.run P w= .ok () w'):(execOp a.eval o).run P w= .ok .skip w':=by
 rw[h];simp[hr]
theorem ZHQ{o:Oper}{s:Sem Value}{v:Value}{w w':World}(h:execOp a.eval o=(do pure (Next.value (<-s))))(hr:s.run P w= .ok v w'):(execOp a.eval o).run P w= .ok (.value v) w':=by
 rw[h];simp[hr]
theorem Kk(w:World)(o:Obj):Kept (λ_=>False) w (w.alloc o):=⟨rfl,rfl,rfl,J1,λk hk _=>Below.heap_alloc w o k hk⟩
theorem ZRt(R:Rel c E os){cs:J8}(vs:Array Value)(t:Nat)(hl:vs.size=cs.length)(h1: ∀u∈vs.toList,u.oneCell'=true)(hv: ∀(j:Nat) (d:D) (u:Value),cs[j]? =some d->vs[j]? =some u->V E os d u):
  ∃E',E'.w=E.w.alloc (.cells vs t)/\Rel c E' (os++ [.box cs])/\Evo E os E' (os++ [.box cs])/\V E' (os++ [.box cs]) (.ptr os.length 0) (.pointer (some ⟨E.w.heap.size,0,none⟩)):=by
 obtain⟨R',ev⟩:=R.push (E.w.alloc (.cells vs t)) (.box cs) (E.w.heap.size,undef) (Kk _ _) (λb hb=>Ux) (λev=>by
  refine⟨vs,t,heap_alloc_new _ _,hl,λj d v hd hv'=>⟨(hv j d v hd hv').mono ev,h1 v ?_⟩⟩;rw[<-ξQ]at hv';exact JE hv')
 refine⟨_,rfl,R',ev,.ptr (cu:=undef) (ds:=cs) J1 ?_⟩;show(E.ob++ [(E.w.heap.size,undef)])[os.length]? =_;rw[<-R.len,QI (Zr _)];simp
theorem ZbT(R:Rel c E os){w':World}(hk:Kept (λ_=>False) E.w w'){e sz:Nat}{rs:List J8}{cu:Value}{xs:List Value}(hr:QM w' false e sz rs.length cu xs)(hb: ∀b,cu.ownBlock=some b->E.w.heap.size<=b)(hz: ∀r∈rs,r.length=sz)
  (hv: ∀(i:Nat) (r:J8) (j:Nat) (x:D) (v:Value),rs[i]? =some r->r[j]? =some x->xs[i*sz+j]? =some v->V E os x v/\v.oneCell'=true):
  ∃E',E'.w=w'/\Rel c E' (os++ [.drw e sz rs])/\Evo E os E' (os++ [.drw e sz rs])/\V E' (os++ [.drw e sz rs]) (.ref os.length rs.length 0 rs.length) cu:=by
 obtain⟨R',ev⟩:=R.push w' (.drw e sz rs) (0,cu) hk (λb hb'=>hb b hb') (λev=>⟨xs,hr,hz,λi r j x v h1 h2 h3=>⟨(hv i r j x v h1 h2 h3).1.mono ev,(hv i r j x v h1 h2 h3).2⟩⟩);have hob:(E.ob++ [(0,cu)])[os.length]? =some (0,cu):=by
  rw[<-R.len,QI (Zr _)];simp
 refine⟨_,rfl,R',ev,.ref ⟨.drw e sz rs,sz,rs.length,J1,rfl,?_⟩ ?_⟩
 .refine⟨Zr _,λ_=>⟨J0,0,?_⟩⟩;rcases hr.2 with⟨h3,h4⟩|⟨g,cap,cells,fr,h3,h4,h5,h6,h7⟩
  .exact V8
  .exact VO
 .exact UL
theorem ZAc(R:Rel c E os){w':World}(hk:Kept (λ_=>False) E.w w'){fz:Bool}{e sz:Nat}{rs:J6}{cu:Value}{xs:List Value}(hr:QM w' fz e sz rs.length cu xs)(hb: ∀b,cu.ownBlock=some b->E.w.heap.size<=b)(hz: ∀r∈rs,r.length=sz)
  (hv: ∀(i:Nat) (r:J9) (j:Nat) (x:X) (v:Value),rs[i]? =some r->r[j]? =some x->xs[i*sz+j]? =some v->VX E.w E.st x v):
  ∃E',E'.w=w'/\Rel c E' (os++ [.rows fz e sz rs])/\Evo E os E' (os++ [.rows fz e sz rs])/\V E' (os++ [.rows fz e sz rs]) (.ref os.length rs.length 0 rs.length) cu:=by
 obtain⟨R',ev⟩:=R.push w' (.rows fz e sz rs) (0,cu) hk (λb hb'=>hb b hb') (λev=>⟨xs,hr,hz,λi r j x v h1 h2 h3=>(hv i r j x v h1 h2 h3).mono ev.st⟩);have hob:(E.ob++ [(0,cu)])[os.length]? =some (0,cu):=by
  rw[<-R.len,QI (Zr _)];simp
 refine⟨_,rfl,R',ev,.ref ⟨.rows fz e sz rs,sz,rs.length,J1,rfl,?_⟩ ?_⟩
 .refine⟨Zr _,λ_=>⟨J0,0,?_⟩⟩;rcases hr.2 with⟨h3,h4⟩|⟨g,cap,cells,fr,h3,h4,h5,h6,h7⟩
  .exact V8
  .exact VO
 .exact UL
end
section
variable {P:Program} {E:Env} {os:J7} {c:Ctx} {n:Nat} {φ:J4} {a:Act}
theorem ZGb(g o:Nat)(t:Nat)(fr:Nat×Nat): ∀(vs:List Value) (i:Nat) (cur:Array Value) (w:World),w.heap[g]? =some (.cells cur t fr)->(fr=(0,0)\/cur.size<=fr.1)->o+i+vs.length<=cur.size->(∀v∈vs,v.oneCell'=true)->
  ∃w',(storeCells ⟨g,o,none⟩ vs i).run P w= .ok () w'/\w'.heap[g]? =some (.cells (cur.toList.take (o+i)++vs++cur.toList.drop (o+i+vs.length)).toArray t fr)/\Kept (λb=>b=g) w w'
 | [],i,cur,w,hg,hf,hl,h1=>⟨w,rfl,by rw[hg];congr 2;apply Array.ext';simp,Kept.refl _ _⟩
 |v::vs,i,cur,w,hg,hf,hl,h1=>by
  simp only[Yx]at hl;have hlt:o+i<cur.size:=Wm
  have hcell:w.cell? ((⟨g,o,none⟩:Addr).add i)=some cur[o+i]:=by rw[JT];simp[World.cell?,hg,hlt]
  have hfz:w.frozen? ((⟨g,o,none⟩:Addr).add i)=false:=by
   rw[JT];rcases hf with rfl|hf
   .simp[World.frozen?,hg]
   .obtain⟨lo,hi⟩:=fr;simp only at hf;simp[World.frozen?,hg];omega
  have hst:(store ((⟨g,o,none⟩:Addr).add i) v).run P w= .ok () (w.setCell ((⟨g,o,none⟩:Addr).add i) v):=by
   rw[run_store P w _ v .plain (h1 v ZAm),hcell,hfz];rfl
  have hg':(w.setCell ((⟨g,o,none⟩:Addr).add i) v).heap[g]? =some (.cells (cur.setIfInBounds (o+i) v) t fr):=by
   rw[JT];simp[World.setCell,ZTC,hg]
  obtain⟨w',q1,q2,q3⟩:=ZGb g o t fr vs (i+1) (cur.setIfInBounds (o+i) v) _ hg' (by simpa using hf) Wx (λu hu=>h1 u (ξU _ hu));refine⟨w',?_,?_,?_⟩
  .simp only[storeCells,Sem.run_bind,hst,Result.andThen_ok];exact q1
  .rw[q2];congr 3;simp only[Array.toList_setIfInBounds,Yx];rw[show o+(i+1)=o+i+1 by omega,JW (by simpa using hlt),List.take_set_of_le (Zr _),List.getElem_set_self,List.drop_set_of_lt J0];simp only[Ys,ξZ,QY];rw[show o+i+1+vs.length=o+i+(vs.length+1) by omega]
  .exact⟨q3.os,q3.tape,q3.output,by have:=q3.size;simpa using this,λk hk hm=>(q3.block k (by simpa using hk) hm).trans (Below.heap_setCell _ _ _ _ (by rw[JT];exact hm))⟩
theorem ZHA{w w':World}{t m:Nat}(hs:Kn P t=some m){v:Value}(hv:v.cells.size=m)(ad:Addr)(h:(storeCells ad v.cells.toList 0).run P w= .ok () w'):(Instr.storeAt t (.pointer (some ad)) v).run P w= .ok () w':=by
 simp[Instr.storeAt,Instr.sureAddr,storeVar,Kt hs,hv,h]
theorem ZCI{α:Type}(l m:List α)(o j:Nat)(h:o+m.length<=l.length):(l.take o++m++l.drop (o+m.length))[j]? =if j<o then l[j]? else if j<o+m.length then m[j-o]? else l[j]? :=by
 have e1:(l.take o).length=o:=Wx
 by_cases h1:j<o
 .rw[if_pos h1,Ys,Yk J0,Kp,if_pos h1]
 .rw[if_neg h1];by_cases h2:j<o+m.length
  .rw[if_pos h2,Ys,QI J0,Yk J0,e1]
  .rw[if_neg h2,QI Wx,ZAZ];simp only[ZW,e1];congr 1;omega
theorem Ze3(R:Rel c E os){id o:Nat}{ds cs:J8}{v:Value}{t m:Nat}(hs:Kn P t=some m)(ho:os[id]? =some (.box ds)){vp:Value}(hp:V E os (.ptr id o) vp)(hv1:v.cells.size=cs.length)(hv2: ∀u∈v.cells.toList,u.oneCell'=true)
  (hv3: ∀(j:Nat) (d:D) (u:Value),cs[j]? =some d->v.cells[j]? =some u->V E os d u) (hm:cs.length=m) (hle:o+m<=ds.length):
  ∃E',(Instr.storeAt t vp v).run P E.w= .ok () E'.w/\Rel c E' (os.set id (.box (ds.take o++cs++ds.drop (o+m))))/\Evo E os E' (os.set id (.box (ds.take o++cs++ds.drop (o+m)))):=by
 cases hp with
 |ptr hb0 hb=>
  rename_i b cu ds0;obtain⟨p,hp,hok⟩:=R.at ho;rw[hp]at hb;cases hb;obtain⟨vs,ty,h1,h2,h3⟩:=hok;obtain⟨w',q1,q2,q3⟩:=ZGb (P:=P) b o ty (0,0) v.cells.toList 0 vs E.w h1 (.inl rfl) Wx hv2;subst hm;obtain⟨R',ev⟩:=R.set ho hp w' (.box (ds.take o++cs++ds.drop (o+cs.length))) (b,cu) ⟨q3.os,q3.tape,q3.output,q3.size,λk hk hm=>q3.block k hk (λh=>hm (by rw[h];rfl))⟩ (λb' hb'=> .inl hb') (λsz rs h=>W6) (λk h=>⟨rfl,h⟩) (λev=>by
   refine⟨_,ty,q2,Wx,λj d u hd hu=> ?_⟩;simp only[KB,Qt,hv1]at hu;have hu':(vs.toList.take o++v.cells.toList++vs.toList.drop (o+v.cells.toList.length))[j]? =some u:=by simpa[hv1]using hu
   rw[ZCI _ _ _ _ Wx]at hu';rw[ZCI _ _ _ _ hle]at hd;simp only[Qt,hv1]at hu';split at hd
   .rename_i hj;rw[if_pos hj]at hu';have:=h3 j d u hd (by simpa using hu');exact⟨this.1.mono ev,this.2⟩
   .rename_i hj;rw[if_neg hj]at hu';split at hd
    .rename_i hj2;rw[if_pos hj2]at hu';exact⟨(hv3 _ d u hd (by simpa using hu')).mono ev,hv2 u (JE hu')⟩
    .rename_i hj2;rw[if_neg hj2]at hu';have:=h3 j d u hd (by simpa using hu');exact⟨this.1.mono ev,this.2⟩)
  exact⟨_,ZHA hs (by rw[hv1]) _ q1,R',ev⟩
theorem ZQj(R:Rel c E os){id:Nat}{fz:Bool}{e sz:Nat}{rs rs':J6}(ho:os[id]? =some (.rows fz e sz rs)){p:Nat×Value}(hp:E.ob[id]? =some p){g cap:Nat}(hg:p.2= .slice (some ⟨g,0,none⟩) rs.length cap)(k:Nat)(vs:List Value)(h1: ∀u∈vs,u.oneCell'=true)
  (hle:k+vs.length<=rs.length*sz) (hl:rs'.length=rs.length) (hz: ∀r∈rs',r.length=sz)
  (hv: ∀(i:Nat) (r:J9) (j:Nat) (x:X),rs'[i]? =some r->r[j]? =some x->(i*sz+j<k\/k+vs.length<=i*sz+j)-> ∃r0,rs[i]? =some r0/\r0[j]? =some x)
  (hw: ∀(i:Nat) (r:J9) (j:Nat) (x:X) (u:Value),rs'[i]? =some r->r[j]? =some x->k<=i*sz+j->i*sz+j<k+vs.length->vs[i*sz+j-k]? =some u->VX E.w E.st x u):
  ∃E',(storeCells ⟨g,k,none⟩ vs 0).run P E.w= .ok () E'.w/\Rel c E' (os.set id (.rows fz e sz rs'))/\Evo E os E' (os.set id (.rows fz e sz rs')):=by
 obtain⟨xs,q1,q2,q3⟩:=R.ok id _ p ho hp;rcases q1.2 with⟨h3,_⟩|⟨g',cap',cells,fr,h3,h4,h5,h6,h7,h8,h9⟩
 .rw[hg]at h3;cases h3
 .rw[hg]at h3;cases h3;have hcs:rs.length*sz<=cells.size:=by rw[h7];exact Ky _ h5
  obtain⟨w',k1,k2,k3⟩:=ZGb (P:=P) g k e fr vs 0 cells E.w h4 Hd J0 h1;obtain⟨R',ev⟩:=R.set ho hp w' (.rows fz e sz rs') p ⟨k3.os,k3.tape,k3.output,k3.size,λj hj hm=>k3.block j hj (λh=>hm (by rw[h];simp[Ob.mb,hg,Value.ownBlock]))⟩ (λb' hb'=> .inl hb')
   (λsz' n1 h=>by simp[Ob.sl?]at h;obtain⟨rfl,rfl⟩:=h;exact⟨rs'.length,rfl,.inl ⟨hl.symm,rfl⟩⟩) (λds h=>W6) (λev=>by
    rw[KB]at k2;have hsize:(cells.toList.take k++vs++cells.toList.drop (k+vs.length)).length=cells.size:=Wx
    refine⟨(cells.toList.take k++vs++cells.toList.drop (k+vs.length)).take (rs'.length*sz),⟨by rw[Yv,hsize,hl];omega,.inr ⟨g,cap,_,fr,by rw[hl];exact hg,k2,by rw[hl];exact h5,h6,by simp only[ZDi,hsize];exact h7,by rw[hl],?_⟩⟩,hz,λi r j x v hr hx hv'=> ?_⟩
    .rcases h9 with h9|h9
     .exact .inl h9
     .exact .inr ⟨h9.1,by simp only[ZDi,hsize];exact h9.2⟩
    .have hi:=(ZX hr).1;have hj:j<sz:=by rw[<-hz r (JE hr)];exact(ZX hx).1
     have hlt:i*sz+j<rs'.length*sz:=by
      have:(i+1)*sz<=rs'.length*sz:=Ky _ hi;exact VH
     rw[Kp,if_pos hlt,ZCI _ _ _ _ Wx]at hv';refine VX.mono (λb o hb=>ev.st b o hb) (w:=E.w) (st:=E.st) ?_;by_cases hk:i*sz+j<k
     .rw[if_pos hk]at hv';obtain⟨r0,w1,w2⟩:=hv i r j x hr hx (.inl hk);refine q3 i r0 j x v w1 w2 ?_;rw[<-h8,Kp,if_pos (by rw[<-hl];exact hlt)];exact hv'
     .rw[if_neg hk]at hv';by_cases hk2:i*sz+j<k+vs.length
      .rw[if_pos hk2]at hv';exact hw i r j x v hr hx J0 hk2 hv'
      .rw[if_neg hk2]at hv';obtain⟨r0,w1,w2⟩:=hv i r j x hr hx (.inr J0);refine q3 i r0 j x v w1 w2 ?_;rw[<-h8,Kp,if_pos (by rw[<-hl];exact hlt)];exact hv')
  exact⟨_,k1,R',ev⟩
theorem ZdW(R:Rel c E os){id ext i o:Nat}{fz:Bool}{e sz:Nat}{rs:J6}{r:J9}{xs:J9}{v:Value}{t m:Nat}(hs:Kn P t=some m)(ho:os[id]? =some (.rows fz e sz rs)){vp:Value}(hp:V E os (.eptr id ext i o) vp)(hr:rs[i]? =some r)(hext:rs.length=ext)
  (hv1:v.cells.size=m) (hv2: ∀u∈v.cells.toList,u.oneCell'=true) (hx:xs.length=m) (hv3: ∀(j:Nat) (x:X) (u:Value),xs[j]? =some x->v.cells[j]? =some u->VX E.w E.st x u) (hle:o+m<=sz):
  ∃E',(Instr.storeAt t vp v).run P E.w= .ok () E'.w/\Rel c E' (os.set id (.rows fz e sz (rs.set i (r.take o++xs++r.drop (o+m)))))/\Evo E os E' (os.set id (.rows fz e sz (rs.set i (r.take o++xs++r.drop (o+m))))):=by
 cases hp with
 |eptr h _=>
  obtain⟨h1,h2⟩:=h.at ho rfl;obtain⟨h3,b,g,cap,h4,h5⟩:=h2 hext;obtain⟨p,hp,hok⟩:=R.at ho;rw[hp]at h4;cases h4;subst h5;have hok':=hok;obtain⟨vs,k1,k2,k3⟩:=hok';have hrl:r.length=sz:=k2 r (JE hr);subst hx;have hil:i<rs.length:=Wm
  have hi1:i*sz+sz<=rs.length*sz:=by
   have:(i+1)*sz<=rs.length*sz:=Ky _ hil;exact VH
  have hnew: ∀j,(r.take o++xs++r.drop (o+xs.length))[j]? =if j<o then r[j]? else if j<o+xs.length then xs[j-o]? else r[j]? :=λj=>ZCI r xs o j J0
  have hget: ∀i',(rs.set i (r.take o++xs++r.drop (o+xs.length)))[i']? =if i=i' then some (r.take o++xs++r.drop (o+xs.length))else rs[i']? :=λi'=>by
   rw[ZCr];by_cases hii:i=i'
   .subst hii;simp[hil]
   .simp[hii]
  have hrow: ∀i' j,j<sz->i'≠i-> ¬(i*sz<=i'*sz+j/\i'*sz+j<i*sz+sz):=λi' j hj hne hh=>by
   rcases Nat.lt_or_gt_of_ne hne with hlt|hlt
   .have:(i'+1)*sz<=i*sz:=Ky _ hlt;exact VH
   .have:(i+1)*sz<=i'*sz:=Ky _ hlt;exact VH
  obtain⟨E',q1,q2,q3⟩:=ZQj (P:=P) R ho hp (by rw[hext]) (i*sz+o) v.cells.toList hv2 Wx (rs':=rs.set i (r.take o++xs++r.drop (o+xs.length))) J1 (λr' hr'=>by
    rcases ZXl hr' with h|h
    .exact k2 r' h
    .subst h;simp;omega)
   (λi' r' j x hr' hx' hj=>by
    rw[hget]at hr';by_cases hii:i=i'
    .subst hii;simp at hr';subst hr';rw[<-Ys,hnew]at hx';simp at hj;refine⟨r,hr,?_⟩;split at hx'
     .exact hx'
     .split at hx'
      .omega
      .exact hx'
    .simp[hii]at hr';exact⟨r',hr',hx'⟩)
   (λi' r' j x u hr' hx' hj1 hj2 hu=>by
    rw[hget]at hr';simp at hj2;by_cases hii:i=i'
    .subst hii;simp at hr';subst hr';rw[<-Ys,hnew,if_neg J0,if_pos J0]at hx';refine hv3 _ x u hx' ?_;have:i*sz+j-(i*sz+o)=j-o:=Wm
     rw[this]at hu;simpa using hu
    .simp[hii]at hr';have hj:j<sz:=by rw[<-k2 r' (JE hr')];exact(ZX hx').1
     exact absurd ⟨J0,J0⟩ (hrow i' j hj (Ne.symm hii)))
  exact⟨E',ZHA hs hv1 _ q1,q2,q3⟩
theorem ZRD(z:Array Value)(k sz i j:Nat)(hz:z.size=sz)(hj:j<sz)(hi:i<k):(madeCells z (k*sz)).toList[i*sz+j]? =z[j]? :=by
 have hlt:i*sz+j<k*sz:=by
  have:(i+1)*sz<=k*sz:=Ky _ hi;exact VH
 have e:(i*sz+j) % sz=j:=by rw[ZKg,Nat.mul_add_mod,Nat.mod_eq_of_lt hj]
 subst hz;rw[ξQ,ξJ (by rw[size_madeCells];exact hlt)];simp[madeCells,e,hj]
theorem ZUB{z:Value}{zx:J9}(h:ZLH z=some zx):zx.length=z.cells.size/\ ∀(j:Nat) (x:X) (u:Value),zx[j]? =some x->z.cells[j]? =some u-> ∀(w:World) (st:Nat->Nat->Prop),VX w st x u:=by
 have one: ∀(v:Value) (x:X),ZB5 v= .x x-> ∀(w:World) (st:Nat->Nat->Prop),VX w st x v:=λv x h w st=>by
  have:=V.const1 ⟨w,st,[]⟩ [] v;rw[h]at this;exact this.xx
 unfold ZLH at h;split at h
 .rename_i cs;have key: ∀(l:List Value) (zx:J9),l.mapM (λv=>match ZB5 v with| .x x=>some x|_=>none)=some zx->zx.length=l.length/\ ∀(j:Nat) (x:X) (u:Value),zx[j]? =some x->l[j]? =some u-> ∀(w:World) (st:Nat->Nat->Prop),VX w st x u:=by
   intro l
   induction l with
   |nil=>intro zx h;simp at h;subst h;exact⟨rfl,λj x u hx=>by simp at hx⟩
   |cons v l ih=>
    intro zx h;simp only[ZAV,KL,YG,ZBA]at h;obtain⟨x,hx,ys,hys,h⟩:=h;cases h;obtain⟨h1,h2⟩:=ih ys hys;refine⟨by simp[h1],λj y u hy hu=> ?_⟩;cases j with
    |zero=>
     simp at hy hu;subst hy;subst hu;split at hx
     .rename_i x' hx';cases hx;exact one v _ hx'
     .cases hx
    |succ j=>exact h2 j y u (by simpa using hy) Xk
  obtain⟨h1,h2⟩:=key cs.toList zx h;exact⟨by simpa[Value.cells]using h1,λj x u hx hu=>h2 j x u hx (by simpa[Value.cells]using hu)⟩
 .rename_i hne;split at h
  .rename_i x hx;cases h;have hc:z.cells= #[z]:=by cases z<;>first|rfl|exact absurd rfl (hne _)
   rw[hc];refine⟨rfl,λj y u hy hu=> ?_⟩;cases j with
   |zero=>simp at hy hu;subst hy;subst hu;exact one _ _ hx
   |succ j=>simp at hy
  .cases h
theorem ZiU(R:Rel c E os){t e:Nat}{i:TypeInfo}{z:Value}{zx:J9}(ht:P.underlying t=some (.slice e))(hi:P.info? e=some i)(hz:i.zero=some z)(hzx:ZLH z=some zx)(hzl:zx.length=i.size)(hby:i.bytes<=128)(kl kc:IntKind)(l cp:Nat)(hlc:l<=cp)(hcm:cp<=1099511627776):
  ∃v E',(Instr.makeSlice t (.int kl l) (.int kc cp)).run P E.w= .ok v E'.w/\Rel c E' (os++ [.rows false e i.size (List.replicate l zx)])/\Evo E os E' (os++ [.rows false e i.size (List.replicate l zx)])/\V E' (os++ [.rows false e i.size (List.replicate l zx)]) (.ref os.length l 0 l) v:=by
 obtain⟨z1,z2⟩:=ZUB hzx;have hb:(i.bytes:Int)*(cp:Int)<=281474976710656:=by
  have h:i.bytes*cp<=128*1099511627776:=ZMa hby hcm;have:((i.bytes*cp:Nat):Int)<=281474976710656:=Wm
  rwa [Int.natCast_mul]at this
 have hr:=run_make (P:=P) E.w t e i z ht hi hz kl kc l cp J0 J0 hb J0;simp only[ZIC]at hr;have hrow:QM (E.w.alloc (.cells (madeCells z.cells (cp*i.size)) e)) false e i.size (List.replicate l zx).length (.slice (some ⟨E.w.heap.size,0,none⟩) l cp) ((madeCells z.cells (cp*i.size)).toList.take (l*i.size)):=by
  have hle:l*i.size<=cp*i.size:=Ky _ hlc;refine⟨by rw[Yv,Qt,size_madeCells,ZK5];omega,.inr ⟨E.w.heap.size,cp,_,(0,0),J1,heap_alloc_new _ _,by simpa using hlc,V5,size_madeCells _ _,J1,.inl rfl⟩⟩
 obtain⟨E',h1,h2,h3,h4⟩:=ZAc (rs:=List.replicate l zx) R (Kk _ _) hrow (λb hb=>Ux) (λr hr=>by rw[(ZXU.1 hr).2];exact hzl) (λk r j x v hk hx hv=>by
  have hk':k<l:=by have:=(ZX hk).1;exact V3
  have hrz:r=zx:=by have:=JE hk;exact(ZXU.1 this).2
  subst hrz;have hj:j<i.size:=by rw[<-hzl];exact(ZX hx).1
  have hlt:k*i.size+j<l*i.size:=by
   have:(k+1)*i.size<=l*i.size:=Ky _ hk';exact VH
  rw[Kp,if_pos hlt,ZRD z.cells cp i.size k j J0 hj J0]at hv;exact z2 j x v hx hv _ _)
 rw[ZK5]at h4;exact⟨_,E',by rw[h1];exact hr,h2,h3,h4⟩
theorem ZM7(l:List Value)(sz:Nat)(h: ∀v∈l,v.cells.size=sz): ∀(i j:Nat) (v:Value),l[i]? =some v->j<sz->((l.map λv=>v.cells.toList).flatten)[i*sz+j]? =v.cells[j]? :=by
 induction l with
 |nil=>intro i j v hv;simp at hv
 |cons u l ih=>
  intro i j v hv hj;have hu:=h u ZAm;rw[YO,ZUS];cases i with
  |zero=>
   simp at hv;subst hv;rw[ZKL,Jk,Yk (by simp[hu];exact hj),ξQ]
  |succ i=>
   rw[QI (by simp[hu,JR];omega)];rw[<-ih (λv hv=>h v (ξU _ hv)) i j v UB hj];congr 1;simp[hu,JR];omega
theorem Zh1(R:Rel c E os)(hf:Fr n E os φ a){t e m:Nat}{i:TypeInfo}{z:Value}(ht:P.underlying t=some (.slice e))(hi:P.info? e=some i)(hz:i.zero=some z){xs:List Operand}{ys:List IO}(hm:xs.mapM Zb=some ys)(hl:xs.length=m)(hle:m*i.size<=16777216)(hle2:m<=16777216)
  {rs:J6} {os':J7} (h:JZ φ i.size os ys=some (true,rs,os')):
  ∃v E',(Instr.buildSlice t m (((xs.map a.eval).zipIdx 0).map λp=>(p.2,p.1)).toArray).run P E.w= .ok v E'.w/\Rel c E' (os'++ [.rows false e i.size rs])/\Evo E os E' (os'++ [.rows false e i.size rs])/\V E' (os'++ [.rows false e i.size rs]) (.ref os'.length m 0 m) v:=by
 obtain⟨st',R1,e1,k1,k2,k3,k4⟩:=ZQD R hf hm h;obtain⟨cs,q1,q2,q3⟩:=ZO9 (P:=P) ht hi hz (xs.map a.eval) UC hle (λv hv=>V6) E.w;have hrl:rs.length=m:=Wm
 have hrow:QM (E.w.alloc (.cells cs e)) false e i.size rs.length (.slice (some ⟨E.w.heap.size,0,none⟩) m m) cs.toList:=by
  refine⟨by rw[Qt,q3,hrl],.inr ⟨E.w.heap.size,m,cs,(0,0),by rw[hrl],heap_alloc_new _ _,J0,?_,q3,?_,.inl rfl⟩⟩
  .exact XR
  .rw[YR (by rw[Qt,q3,hrl];omega)]
 obtain⟨E',h1,h2,h3,h4⟩:=ZAc (E:=⟨E.w,st',E.ob⟩) R1 (Kk _ _) hrow (λb hb=>Ux) k2 (λk r j x v hk hx hv=>by
  have hk':k<xs.length:=by have:=(ZX hk).1;omega
  have hj:j<i.size:=N0
  have hxk:xs[k]? =some xs[k]:=Zw hk';rw[q2,ZM7 (xs.map a.eval) i.size (λv hv=>V6) k j (a.eval xs[k]) (by simp[hk']) hj]at hv;exact k4 k r _ j x v hk hxk hx hv)
 rw[hrl]at h4;exact⟨_,E',by rw[h1];exact q1,h2,e1.trans h3,h4⟩
theorem ZQe(hf:Fr n E os φ a): ∀ {xs:List Operand} {ys:List IO} {sz:Nat} {rs:List J8},xs.mapM Zb=some ys->Ja φ sz ys=some (true,rs)->
  rs.length=xs.length/\(∀r∈rs,r.length=sz)/\(∀x∈xs,(a.eval x).cells.size=sz/\ ∀u∈(a.eval x).cells.toList,u.oneCell'=true)/\
   ∀(i:Nat) (r:J8) (z:Operand) (j:Nat) (w:D) (v:Value),rs[i]? =some r->xs[i]? =some z->r[j]? =some w->(a.eval z).cells[j]? =some v->V E os w v
 | [],ys,sz,rs,hm,h=>by
  simp only[ZOq]at hm;cases hm;cases h;exact⟨rfl,λr hr=>TI,λx hx=>(by cases hx),λi r z j w v hr=>Hc⟩
 |x::xs,ys,sz,rs,hm,h=>by
  simp only[ZAV,ZBA,KL,YG]at hm;obtain⟨y,hy,ys',hys,hm⟩:=hm;cases hm;simp only[Ja,YG]at h;obtain⟨cs,hcs,h⟩:=h;split at h
  .rename_i hlen;obtain⟨⟨b,rs'⟩,h2,h⟩:=Zc h;simp only[YP,Zj]at h;obtain⟨⟨c1,rfl⟩,rfl⟩:=h;obtain⟨q1,q2,q3⟩:=((V.op hf hy).strip c1).cells hcs;obtain⟨k3,k4,k5,k6⟩:=ZQe hf hys h2;refine⟨by simp[k3],λr hr=> ?_,λz hz=> ?_,λi r z j w v hr hz hw hv=> ?_⟩
   .rcases Jf.1 hr with rfl|hr
    .exact hlen
    .exact k4 r hr
   .rcases Jf.1 hz with rfl|hz
    .exact⟨J0,q2⟩
    .exact k5 z hz
   .cases i with
    |zero=>
     simp at hr hz;subst hr;subst hz;exact q3 j w v hw hv
    |succ i=>exact Ho
  .cases h
theorem ZgP(R:Rel c E os)(hf:Fr n E os φ a){t e m:Nat}{i:TypeInfo}{z:Value}(ht:P.underlying t=some (.slice e))(hi:P.info? e=some i)(hz:i.zero=some z){xs:List Operand}{ys:List IO}(hm:xs.mapM Zb=some ys)(hl:xs.length=m)(hle:m*i.size<=16777216)(hle2:m<=16777216)
  {rs:List J8} (h:Ja φ i.size ys=some (true,rs)):
  ∃v E',(Instr.buildSlice t m (((xs.map a.eval).zipIdx 0).map λp=>(p.2,p.1)).toArray).run P E.w= .ok v E'.w/\Rel c E' (os++ [.drw e i.size rs])/\Evo E os E' (os++ [.drw e i.size rs])/\V E' (os++ [.drw e i.size rs]) (.ref os.length m 0 m) v:=by
 obtain⟨k1,k2,k3,k4⟩:=ZQe hf hm h;obtain⟨cs,q1,q2,q3⟩:=ZO9 (P:=P) ht hi hz (xs.map a.eval) UC hle (λv hv=>V6) E.w;have hrl:rs.length=m:=Wm
 have hrow:QM (E.w.alloc (.cells cs e)) false e i.size rs.length (.slice (some ⟨E.w.heap.size,0,none⟩) m m) cs.toList:=by
  refine⟨by rw[Qt,q3,hrl],.inr ⟨E.w.heap.size,m,cs,(0,0),by rw[hrl],heap_alloc_new _ _,J0,?_,q3,?_,.inl rfl⟩⟩
  .exact XR
  .rw[YR (by rw[Qt,q3,hrl];omega)]
 obtain⟨E',h1,h2,h3,h4⟩:=ZbT R (Kk _ _) hrow (λb hb=>Ux) k2 (λk r j x v hk hx hv=>by
  have hk':k<xs.length:=by have:=(ZX hk).1;omega
  have hj:j<i.size:=N0
  have hxk:xs[k]? =some xs[k]:=Zw hk';rw[q2,ZM7 (xs.map a.eval) i.size (λv hv=>V6) k j (a.eval xs[k]) (by simp[hk']) hj]at hv;exact⟨k4 k r _ j x v hk hxk hx hv,(k3 _ (YK hk')).2 v (by rw[<-ξQ]at hv;exact JE hv)⟩)
 rw[hrl]at h4;exact⟨_,E',by rw[h1];exact q1,h2,h3,h4⟩
end
theorem Kept.of_grown{w w':World}{r:Option Nat}(h:w.grownBy w' r):Kept (λb=>r=some b) w w':=⟨h.os,h.tape,h.output,h.size,λk hk hm=>h.block k hk (λe=>hm e.symm)⟩
theorem Kept.of_none{w w':World}(h:w.grownBy w' none):Kept (λ_=>False) w w':=⟨h.os,h.tape,h.output,h.size,λk hk _=>h.block k hk J1⟩
section
variable {P:Program} {E:Env} {os:J7} {c:Ctx} {n:Nat} {φ:J4} {a:Act}
theorem ZG4{α:Type}{T:α->Value->Prop}{sz:Nat}{rs src:List (List α)}{xs news:List Value}(hxl:xs.length=rs.length*sz)
  (h1: ∀(i:Nat) (r:List α) (j:Nat) (x:α) (v:Value),rs[i]? =some r->r[j]? =some x->xs[i*sz+j]? =some v->T x v)
  (h2: ∀(i:Nat) (r:List α) (j:Nat) (x:α),src[i]? =some r->r[j]? =some x-> ∃u,news[i*sz+j]? =some u/\T x u)
  (i:Nat) (r:List α) (j:Nat) (x:α) (v:Value) (hr:(rs++src)[i]? =some r) (hx:r[j]? =some x) (hj:j<sz) (hv:(xs++news)[i*sz+j]? =some v):T x v:=by
 by_cases hi:i<rs.length
 .rw[Yk hi]at hr;have hlt:i*sz+j<xs.length:=by
   rw[hxl];exact NC
  rw[Yk hlt]at hv;exact h1 i r j x v hr hx hv
 .rw[QI J0]at hr;have hge:rs.length*sz<=i*sz:=Ky _ J0;rw[QI J0]at hv;obtain⟨u,k1,k2⟩:=h2 _ r j x hr hx;have e:i*sz+j-xs.length=(i-rs.length)*sz+j:=by rw[hxl,Nat.sub_mul];omega
  rw[e,k1]at hv;cases hv;exact k2
theorem ZDz{sz:Nat}{rs src:J6}{xs news:List Value}{w:World}{st:Nat->Nat->Prop}(hxl:xs.length=rs.length*sz)
  (h1: ∀(i:Nat) (r:J9) (j:Nat) (x:X) (v:Value),rs[i]? =some r->r[j]? =some x->xs[i*sz+j]? =some v->VX w st x v)
  (h2: ∀(i:Nat) (r:J9) (j:Nat) (x:X),src[i]? =some r->r[j]? =some x-> ∃u,news[i*sz+j]? =some u/\VX w st x u)
  (i:Nat) (r:J9) (j:Nat) (x:X) (v:Value) (hr:(rs++src)[i]? =some r) (hx:r[j]? =some x) (hj:j<sz) (hv:(xs++news)[i*sz+j]? =some v):VX w st x v:=
 ZG4 (T:=VX w st) hxl h1 h2 i r j x v hr hx hj hv
theorem ZXx(R:Rel c E os){t ty e:Nat}{i:TypeInfo}{z:Value}(ht:P.underlying t=some (.slice e))(hi:P.info? e=some i)(hz:i.zero=some z)(hzs:z.cells.size=i.size)(hsz:0<i.size)(hby:i.bytes<=128)
  {y:D} {vy:Value} (hy:V E os y vy) {src:J6} (hr:Zx os y=some src) (hrl: ∀r∈src,r.length=i.size) (hle:src.length<=1099511627776):
  ∃v E',(Builtin.append_ #[t,t] ty #[.slice none 0 0,vy]).run P E.w= .ok v E'.w/\Rel c E' (os++ [.rows false e i.size src])/\Evo E os E' (os++ [.rows false e i.size src])/\V E' (os++ [.rows false e i.size src]) (.ref os.length src.length 0 src.length) v:=by
 obtain⟨ad,cp,news,rfl,q2,q3,q4,q5,q6,q7,q8⟩:=ZBS R hy hr hrl;cases ad with
 |none=>
  have h0:=q5 rfl;have hs:src= []:=ξS h0;subst hs;obtain⟨E',k1,k2,k3,k4⟩:=ZAc (fz:=false) (e:=e) (sz:=i.size) (rs:= []) (cu:= .slice none 0 0) (xs:= []) R (Kept.refl _ E.w) ⟨J1,.inl ⟨rfl,rfl⟩⟩ (λb hb=>Xr) (λr hr=>TI) (λi r j x v h=>WE);exact⟨_,E',by rw[k1];exact ZAQ E.w t ty e i ht hi none 0 0 (Zr _) none cp,k2,k3,k4⟩
 |some ad=>
  obtain⟨v',w',hrun,ho,hg,_⟩:=run_append_own (P:=P) E.w E.w.heap.size t ty e i z i.size i.bytes ht hi hz rfl rfl hzs hsz (.slice none 0 0) 0 [] (World.ownsRow_nil _ _ _ _) ad src.length cp news q4 (q6 ad rfl) q7 V5
   (by
    have h:src.length*i.bytes<=1099511627776*128:=ZMa hle hby
    rw[Jk];omega) (Zr _)
  rw[Jk,QY]at ho;obtain⟨E',k1,k2,k3,k4⟩:=ZAc (rs:=src) R (Kept.of_none hg) (QM.of_owns ho false) (λb hb=>(ho.lt b hb).1) hrl (λk r j x v h1 h2 h3=>by
   obtain⟨u,w1,w2⟩:=q8 k r j x h1 h2;rw[w1]at h3;cases h3;exact w2)
  exact⟨v',E',by rw[k1];exact hrun,k2,k3,k4⟩
theorem ZUo(R:Rel c E os){t ty e:Nat}{i:TypeInfo}{z:Value}(ht:P.underlying t=some (.slice e))(hi:P.info? e=some i)(hz:i.zero=some z)(hzs:z.cells.size=i.size)(hsz:0<i.size)(hby:i.bytes<=128)
  {rs0:J6} {vx:Value} (hx:V E os (.full rs0) vx) (hz0: ∀r∈rs0,r.length=i.size) {y:D} {vy:Value} (hy:V E os y vy) {src:J6} (hr:Zx os y=some src) (hrl: ∀r∈src,r.length=i.size) (hpos:src.length≠0) (hle:rs0.length+src.length<=1099511627776):
  ∃v E',(Builtin.append_ #[t,t] ty #[vx,vy]).run P E.w= .ok v E'.w/\Rel c E' (os++ [.rows false e i.size (rs0++src)])/\Evo E os E' (os++ [.rows false e i.size (rs0++src)])/\V E' (os++ [.rows false e i.size (rs0++src)]) (.ref os.length (rs0.length+src.length) 0 (rs0.length+src.length)) v:=by
 obtain⟨ad,cp,news,rfl,q2,q3,q4,q5,q6,q7,q8⟩:=ZBS R hy hr hrl;obtain⟨bd,bp,olds,rfl,p2,p3,p4,p5,p6,p7,p8⟩:=ZBS R hx (rs:=rs0) rfl hz0;have hcap:bp=rs0.length:=by
  generalize rs0.length=k at*;cases hx;rfl
 subst hcap
 .cases ad with
  |none=>exact absurd (q5 rfl) hpos
  |some ad=>
   have b1:rs0.length+src.length<=maxLen:=V5
   have b2:(rs0.length+src.length)*i.bytes<=140737488355328:=by
    have h:(rs0.length+src.length)*i.bytes<=1099511627776*128:=ZMa hle hby
    omega
   have key: ∃v' w',(Builtin.append_ #[t,t] ty #[.slice bd rs0.length rs0.length,.slice (some ad) src.length cp]).run P E.w= .ok v' w'/\w'.ownsRow E.w.heap.size e i.size v' (rs0.length+src.length) (olds++news)/\E.w.grownBy w' none:=by
    cases bd with
    |none=>
     have h0:=p5 rfl;have hs:rs0= []:=ξS h0;subst hs;have ho:olds= []:=ξS (by simpa using p4);subst ho;obtain⟨v',w',hrun,r1,r2,_⟩:=run_append_own (P:=P) E.w E.w.heap.size t ty e i z i.size i.bytes ht hi hz rfl rfl hzs hsz (.slice none 0 0) 0 [] (World.ownsRow_nil _ _ _ _) ad src.length cp news q4 (q6 ad rfl) q7 (by simpa using b1) (by simpa using b2) (Zr _);exact⟨v',w',hrun,r1,r2⟩
    |some b=>
     obtain⟨v',w',hrun,r1,r2⟩:=run_append_arg_grows (P:=P) E.w t ty e i z i.size i.bytes ht hi hz rfl rfl hzs hsz b rs0.length rs0.length olds p4 (p6 b rfl) ad src.length cp news q4 (q6 ad rfl) J0 b1 b2;exact⟨v',w',hrun,r1,r2⟩
   obtain⟨v',w',hrun,ho,hg⟩:=key;have hall: ∀r∈rs0++src,r.length=i.size:=λr hr=>by
    rcases KT.1 hr with h|h
    .exact hz0 r h
    .exact hrl r h
   have ho':QM w' false e i.size (rs0++src).length v' (olds++news):=by rw[ZW];exact QM.of_owns ho false
   obtain⟨E',k1,k2,k3,k4⟩:=ZAc (rs:=rs0++src) R (Kept.of_none hg) ho' (λb hb=>(ho.lt b hb).1) hall (λk r j x v h1 h2 h3=>
    ZDz p4 (λi r j x v g1 g2 g3=>by obtain⟨u,w1,w2⟩:=p8 i r j x g1 g2;rw[w1]at g3;cases g3;exact w2) q8 k r j x v h1 h2 UD h3)
   rw[ZW]at k4;exact⟨v',E',by rw[k1];exact hrun,k2,k3,k4⟩
theorem ZWp(R:Rel c E os){t ty e:Nat}{i:TypeInfo}{z:Value}(ht:P.underlying t=some (.slice e))(hi:P.info? e=some i)(hz:i.zero=some z)(hzs:z.cells.size=i.size)(hsz:0<i.size)(hby:i.bytes<=128)
  {id:Nat} {rs:J6} {vx:Value} (hx:V E os (.ref id rs.length 0 rs.length) vx) (ho:os[id]? =some (.rows false e i.size rs)) {y:D} {vy:Value} (hy:V E os y vy) {src:J6} (hr:Zx os y=some src) (hrl: ∀r∈src,r.length=i.size) (hle:rs.length+src.length<=apm i.bytes):
  ∃v E',(Builtin.append_ #[t,t] ty #[vx,vy]).run P E.w= .ok v E'.w/\Rel c E' (os.set id (.rows false e i.size (rs++src)))/\Evo E os E' (os.set id (.rows false e i.size (rs++src)))/\V E' (os.set id (.rows false e i.size (rs++src))) (.ref id (rs.length+src.length) 0 (rs.length+src.length)) v:=by
 obtain⟨ad,cp,news,rfl,q2,q3,q4,q5,q6,q7,q8⟩:=ZBS R hy hr hrl;obtain⟨p,hp,hok⟩:=R.at ho;obtain⟨xs,k1,k2,k3⟩:=hok;have hlt:=(ZX ho).1;have hvx:vx=p.2:=by
  exact Nj
 subst hvx;have refOf: ∀ {E':Env} {rs':J6} {cu:Value} {w':World} {xs':List Value},E'.ob=E.ob.set id (p.1,cu)->QM w' false e i.size rs'.length cu xs'->V E' (os.set id (.rows false e i.size rs')) (.ref id rs'.length 0 rs'.length) cu:=by
  intro E' rs' cu w' xs' hob hrow;have hob':E'.ob[id]? =some (p.1,cu):=by rw[hob];simp[R.len,hlt]
  refine .ref ⟨.rows false e i.size rs',i.size,rs'.length,Xu,rfl,?_⟩ ?_
  .refine⟨Zr _,λ_=>⟨J0,p.1,?_⟩⟩;rcases hrow.2 with⟨h3,h4⟩|⟨g,cap,cells,fr,h3,h4,h5,h6,h7⟩
   .exact T5
   .exact VA
  .exact Vv
 cases ad with
 |none=>
  have h0:=q5 rfl;have hs:src= []:=ξS h0;subst hs;simp only[Kg,Qw,KB];have hset:os.set id (.rows false e i.size rs)=os:=by
   apply ZBg;intro j;rw[ZCr];by_cases hj:id=j
   .exact H7
   .simp[hj]
  rw[hset];refine⟨p.2,E,?_,R,Evo.refl _ _,hx⟩;rcases k1.2 with⟨h3,h4⟩|⟨g,cap,cells,fr,h3,h4,h5,h6,h7⟩
  .rw[h3];exact ZAQ E.w t ty e i ht hi none 0 0 (Zr _) none cp
  .rw[h3];exact ZAQ E.w t ty e i ht hi _ _ _ h5 none cp
 |some ad=>
  have hown:=k1.owns;obtain⟨hle1,hle2⟩:=Zhn hle hby
  obtain⟨v',w',hrun,ho',hG⟩:=ZDY (P:=P) E.w 0 t ty e i z i.size i.bytes ht hi hz rfl rfl hzs hsz p.2 rs.length xs hown ad src.length cp news q4 (q6 ad rfl) q7 V5
   hle1 (Kb _)
  have hall: ∀r∈rs++src,r.length=i.size:=λr hr=>by
   rcases KT.1 hr with h|h
   .exact k2 r h
   .exact hrl r h
  have hrow:QM w' false e i.size (rs++src).length v' (xs++news):=by rw[ZW];exact NJ
  by_cases hpos:src.length=0
  .have hs:src= []:=ξS hpos;subst hs;have hset:os.set id (.rows false e i.size rs)=os:=by
    apply ZBg;intro j;rw[ZCr];by_cases hj:id=j
    .exact H7
    .simp[hj]
   simp only[Kg,Qw,KB];rw[hset];refine⟨p.2,E,?_,R,Evo.refl _ _,hx⟩;rcases k1.2 with⟨h3,h4⟩|⟨g,cap,cells,fr,h3,h4,h5,h6,h7⟩
   .rw[h3];exact ZAQ E.w t ty e i ht hi none 0 0 (Zr _) (some ad) cp
   .rw[h3];exact ZAQ E.w t ty e i ht hi _ _ _ h5 (some ad) cp
  .obtain⟨R',ev⟩:=R.set ho hp w' (.rows false e i.size (rs++src)) (p.1,v') (Kept.of_grown hG.grown) (λb hb=>by
    have hb':v'.ownBlock=some b:=hb;rcases hG.own with h|⟨g,h,h2⟩
    .exact U6
    .right;rw[h]at hb';cases hb';exact .inl h2) (λsz n1 h=>by
     simp[Ob.sl?]at h;obtain⟨rfl,rfl⟩:=h;exact⟨(rs++src).length,rfl,.inr Wx⟩) (λds h=>W6) (λev=>by
     refine⟨xs++news,hrow,hall,λk r j x v h1 h2 h3=> ?_⟩;refine VX.mono (w:=E.w) (st:=E.st) (λb o hb=>ev.st b o hb) ?_;exact ZDz k1.1 k3 q8 k r j x v h1 h2 UD h3)
   have:=refOf (E':=⟨w',E.st,E.ob.set id (p.1,v')⟩) rfl hrow;rw[ZW]at this;exact⟨v',_,hrun,R',ev,this⟩
theorem ZiI(R:Rel c E os){s d e:Nat}{u:TypeDesc}(hs:P.underlying s=some u)(hd:P.underlying d=some (.slice e))(he:P.underlying e=some (.int .u8))(b:List UInt8)(hb40:b.length<=140737488355328):
  ∃v E',(convert s d (.string (ZV b))).run P E.w= .ok v E'.w/\Rel c E' (os++ [.rows true e 1 (b.map Zv)])/\Evo E os E' (os++ [.rows true e 1 (b.map Zv)])/\V E' (os++ [.rows true e 1 (b.map Zv)]) (.ref os.length b.length 0 b.length) v:=by
 have hr:=Lib.run_convert_string_bytes (P:=P) E.w s d e (ZV b) hs hd he;have hk:Kept (λ_=>False) E.w (Lib.bytesWorld E.w e (ZV b)):=⟨rfl,rfl,rfl,by rw[Lib.bytesWorld_size];omega,λk hk _=>Lib.bytesWorld_at_old _ _ _ _ hk⟩;have hge:=grownCap_ge E.w (ZV b).size 0 e;have hcs:(Lib.bytesCells E.w e (ZV b)).size=grownCap E.w (ZV b).size 0 e*1:=by
  have:(ZV b).data.size=(ZV b).size:=rfl;simp[Lib.bytesCells];omega
 have hrow:QM (Lib.bytesWorld E.w e (ZV b)) true e 1 (b.map Zv).length (.slice (some ⟨E.w.heap.size,0,none⟩) (ZV b).size (grownCap E.w (ZV b).size 0 e)) ((Lib.bytesCells E.w e (ZV b)).toList.take ((b.map Zv).length*1)):=by
  have hcl:(Lib.bytesCells E.w e (ZV b)).toList.length=grownCap E.w (ZV b).size 0 e*1:=by rw[<-hcs];simp
  refine⟨by rw[Yv,hcl,Yc,<-ZAO b];omega,.inr ⟨E.w.heap.size,grownCap E.w (ZV b).size 0 e,_,_,by rw[Yc,<-ZAO b],Lib.bytesWorld_at_new _ _ _,by rw[Yc,<-ZAO b];exact hge,?_,hcs,rfl,.inr ⟨rfl,Zr _⟩⟩⟩;refine grownCap_le_maxLen E.w _ 0 e ?_;rw[ZAO];exact XR
 obtain⟨E',h1,h2,h3,h4⟩:=ZAc R hk hrow (λb hb=>Ux) (λr hr=>by obtain⟨x,_,rfl⟩:=YS.1 hr;rfl) (λi r j x v hr hx hv=>by
  rw[YI]at hr;obtain⟨y,hy,rfl⟩:=Zc hr;cases j with
  |succ j=>simp[Zv]at hx
  |zero=>
   simp[Zv]at hx;subst hx;have hi:=(ZX hy).1;rw[Kp,if_pos Wx]at hv;have hb:b[i]=y:=(ZX hy).2;simp only[Lib.bytesCells,ZV,Array.toList_append,ZS2,Ql,KB]at hv;rw[Yk Um,YI,Zw hi,hb]at hv;simp at hv;subst hv;exact .int _ _)
 rw[Yc]at h4;exact⟨_,E',by rw[h1];exact hr,h2,h3,h4⟩
end
open Go Go.RowKit Go.Bo
theorem ZJR{P:Program}(w:World)(base:Nat)(t tn ty e:TypeId)(i:TypeInfo)(z:Value)(kq kn:IntKind)(ht:P.underlying t=some (.slice e))(htn:P.underlying tn=some (.int kn))(hi:P.info? e=some i)(hz:i.zero=some z)
  (hzs:z.cells.size=i.size) (hsz:0<i.size) (hz1: ∀u∈z.cells.toList,u.oneCell'=true)
  (v:Value) (n:Nat) (xs:List Value) (hown:w.ownsRow base e i.size v n xs) (k:Nat) (h0:0<k)
  (h63:n+k<=maxLen) (hbytes:(n+k)*i.bytes<=140737488355328) (hbase:base<=w.heap.size):
  ∃v' w',(Builtin.append_ #[t,tn] ty #[v,.int kq k]).run P w= .ok v' w'/\w'.ownsRow base e i.size v' (n+k) (xs++(Builtin.zeroCells z.cells k).toList)/\Grow w w' v v':=by
 have hsmall:n+k<=9223372036854775807:=by simp only[maxLen]at h63;omega
 have hl:(Builtin.zeroCells z.cells k).toList.length=k*i.size:=by rw[Qt,size_zeroCells,hzs]
 have hlen:(xs++(Builtin.zeroCells z.cells k).toList).length=(n+k)*i.size:=by rw[ZW,hown.1,hl,JR]
 have hkb:k*i.bytes<=(n+k)*i.bytes:=Ky _ J0;have grown: ∀(old:Nat),old<n+k-> ∀(row:Option Nat),
   (w.drew.alloc (.cells (xs.toArray++Builtin.zeroCells z.cells k++Builtin.zeroCells z.cells (grownCap w (n+k) old e-(n+k))) e)).ownsRow base e i.size
    (.slice (some ⟨w.heap.size,0,none⟩) (n+k) (grownCap w (n+k) old e)) (n+k) (xs++(Builtin.zeroCells z.cells k).toList)/\
   w.grownBy (w.drew.alloc (.cells (xs.toArray++Builtin.zeroCells z.cells k++Builtin.zeroCells z.cells (grownCap w (n+k) old e-(n+k))) e)) row:=by
  intro old ho row;have hge:=grownCap_ge w (n+k) old e;have hcm:grownCap w (n+k) old e<=maxLen:=grownCap_le_maxLen w (n+k) old e h63;refine⟨⟨hlen,.inr ⟨w.heap.size,_,_,rfl,hbase,heap_alloc_new w.drew _,hge,hcm,?_,?_⟩⟩,⟨rfl,rfl,rfl,J1,λk hk _=>heap_alloc_old w.drew _ hk⟩⟩
  .simp only[Zbj,ZDi,size_zeroCells,hzs,hown.1,<-JR];congr 1;omega
  .simp only[Array.toList_append,Ys];rw[<-Ys,<-hlen];exact List.take_left
 rcases hown.2 with⟨rfl,rfl⟩|⟨g,cap,cur,rfl,hbg,hg,hnc,hcm,hcs,htake⟩
 .have hx:xs= []:=ξS (by simpa using hown.1);subst hx;have hr:=Lib.run_append_nil_zeros (P:=P) w t tn ty e i z kq kn ht htn hi hz k h0 hsz J0 J0;have hgr:=grown 0 J0 (Value.ownBlock (.slice none 0 0));simp only[Jk,QY,Array.empty_append]at hgr|-;exact⟨_,_,hr,hgr.1,hgr.2,.inr ⟨_,rfl,Zr _⟩⟩
 .by_cases hroom:n+k<=cap
  .have hfit:n*i.size+(Builtin.zeroCells z.cells k).toList.length<=cur.size:=by rw[hl,hcs,<-JR];exact Ky _ hroom
   have h1: ∀u∈(Builtin.zeroCells z.cells k).toList,u.oneCell'=true:=by
    intro u hu;simp only[Builtin.zeroCells,ZS2,Array.toList_range,YS,ZFX]at hu;obtain⟨j,hj,rfl⟩:=hu;have hm:j % z.cells.size<z.cells.size:=Nat.mod_lt _ (by rw[hzs];exact hsz);rw[getElem!_pos z.cells _ hm];exact hz1 _ J1
   have hst:=run_storeCells_at P g (n*i.size) e (Builtin.zeroCells z.cells k).toList 0 cur w hg (by simpa using hfit) h1;simp only[KB]at hst;have hw:IntKind.i64.wrap (k:Int)=k:=TH
   have hneg: ¬((k:Int)<0):=Wm
   have hns: ¬(k*i.size=0):=Nat.mul_ne_zero J0 J0;have h48i: ¬(281474976710656<(k:Int)*(i.bytes:Int)):=by rw[<-Int.natCast_mul];omega
   have hr:(Builtin.append_ #[t,tn] ty #[.slice (some ⟨g,0,none⟩) n cap,.int kq k]).run P w= .ok (.slice (some ⟨g,0,none⟩) (n+k) cap) (w.setRow g (cur.toList.take (n*i.size)++(Builtin.zeroCells z.cells k).toList++cur.toList.drop (n*i.size+(Builtin.zeroCells z.cells k).toList.length)).toArray):=by
    simp[Builtin.append_,run_underlying ht,run_underlying htn,sizeOf,typeInfo,zeroValue,hi,hz,asInt,asIntOf,hw,hneg,hns,h48i,hroom,Addr.add_lit,hst]
   refine⟨_,_,hr,⟨hlen,.inr ⟨g,cap,_,rfl,hbg,setRow_heap w g cur _ e _ hg,hroom,hcm,?_,?_⟩⟩,⟨rfl,rfl,rfl,J1,λk _ hk=>setRow_other w g k _ (λe=>hk (by simp[Value.ownBlock,e]))⟩,.inl rfl⟩
   .simp only[ZDi,ZW,Yv,KQ,Qt];simp only[Qt]at hfit;omega
   .rw[htake,<-hlen];exact List.take_left
  .have holds: ∀j u,xs[j]? =some u->w.cell? ((⟨g,0,none⟩:Addr).add j)=some u:=hown.cells (g:=g) rfl;have hf:=run_firstCells_some (P:=P) w.drew i.size n ⟨g,0,none⟩ n cap xs hown.1 (λj u h=>holds j u h);have hr:=Lib.run_append_grow_zeros (P:=P) w t tn ty e i z kq kn ht htn hi hz (some ⟨g,0,none⟩) n cap xs hf k h0 hsz J0 J0 J0 (growslice_fits J0 hbytes);have hgr:=grown cap J0 (Value.ownBlock (.slice (some ⟨g,0,none⟩) n cap));exact⟨_,_,hr,hgr.1,hgr.2,.inr ⟨_,rfl,Zr _⟩⟩
section
variable {P:Program} {E:Env} {os:J7} {c:Ctx} {n:Nat} {φ:J4} {a:Act}
theorem ZRE(z:Array Value)(k sz i j:Nat)(hz:z.size=sz)(hj:j<sz)(hi:i<k):(Builtin.zeroCells z k).toList[i*sz+j]? =z[j]? :=by
 have hlt:i*sz+j<k*z.size:=by
  have:(i+1)*sz<=k*sz:=Ky _ hi;rw[JR]at this;rw[hz];omega
 have e:(i*sz+j) % z.size=j:=by rw[hz,ZKg,Nat.mul_add_mod,Nat.mod_eq_of_lt hj]
 simp only[Builtin.zeroCells,ZS2,Array.toList_range];rw[YI,ZMs hlt];simp only[Yq,e];rw[getElem!_pos z j J0,ξJ J0]
theorem ZXw(R:Rel c E os){t tn ty e:Nat}{i:TypeInfo}{z:Value}{zx:J9}{kq kn:IntKind}(ht:P.underlying t=some (.slice e))(htn:P.underlying tn=some (.int kn))(hi:P.info? e=some i)(hz:i.zero=some z)(hzx:ZLH z=some zx)(hzl:zx.length=i.size)(hsz:0<i.size)(hby:i.bytes<=128)
  {id:Nat} {rs:J6} {vx:Value} (hx:V E os (.ref id rs.length 0 rs.length) vx) (ho:os[id]? =some (.rows false e i.size rs)) (k:Nat) (h0:0<k) (hle:rs.length+k<=1099511627776):
  ∃v E',(Builtin.append_ #[t,tn] ty #[vx,.int kq k]).run P E.w= .ok v E'.w/\Rel c E' (os.set id (.rows false e i.size (rs++List.replicate k zx)))/\Evo E os E' (os.set id (.rows false e i.size (rs++List.replicate k zx)))/\V E' (os.set id (.rows false e i.size (rs++List.replicate k zx))) (.ref id (rs.length+k) 0 (rs.length+k)) v:=by
 obtain⟨z1,z2⟩:=ZUB hzx;have hzs:z.cells.size=i.size:=by rw[<-z1,hzl]
 have hz1: ∀u∈z.cells.toList,u.oneCell'=true:=by
  intro u hu;obtain⟨j,hj⟩:=ZFA.1 hu;have hj':z.cells[j]? =some u:=by rw[<-ξQ];exact hj
  have hlt:j<z.cells.size:=(ξH hj').1;exact(z2 j (zx[j]' J0) u (Zw _) hj' E.w E.st).one
 have q8: ∀(i':Nat) (r:J9) (j:Nat) (x:X),(List.replicate k zx)[i']? =some r->r[j]? =some x-> ∃u,(Builtin.zeroCells z.cells k).toList[i'*i.size+j]? =some u/\VX E.w E.st x u:=by
  intro i' r j x hr hx;have hi':i'<k:=by have:=(ZX hr).1;exact V3
  have hrz:r=zx:=(ZXU.1 (JE hr)).2;subst hrz;have hj:j<i.size:=by rw[<-hzl];exact(ZX hx).1
  rw[ZRE z.cells k i.size i' j hzs hj hi'];exact⟨z.cells[j]' J0,ξJ _,z2 j x _ hx (ξJ _) _ _⟩
 obtain⟨p,hp,hok⟩:=R.at ho;obtain⟨xs,k1,k2,k3⟩:=hok;have hlt:=(ZX ho).1;have hvx:vx=p.2:=by
  exact Nj
 subst hvx;have refOf: ∀ {E':Env} {rs':J6} {cu:Value} {w':World} {xs':List Value},E'.ob=E.ob.set id (p.1,cu)->QM w' false e i.size rs'.length cu xs'->V E' (os.set id (.rows false e i.size rs')) (.ref id rs'.length 0 rs'.length) cu:=by
  intro E' rs' cu w' xs' hob hrow;have hob':E'.ob[id]? =some (p.1,cu):=by rw[hob];simp[R.len,hlt]
  refine .ref ⟨.rows false e i.size rs',i.size,rs'.length,Xu,rfl,?_⟩ ?_
  .refine⟨Zr _,λ_=>⟨J0,p.1,?_⟩⟩;rcases hrow.2 with⟨h3,h4⟩|⟨g,cap,cells,fr,h3,h4,h5,h6,h7⟩
   .exact T5
   .exact VA
  .exact Vv
 have hown:=k1.owns;obtain⟨v',w',hrun,ho',hG⟩:=ZJR (P:=P) E.w 0 t tn ty e i z kq kn ht htn hi hz hzs hsz hz1 p.2 rs.length xs hown k h0 V5
  (by
   have h:(rs.length+k)*i.bytes<=1099511627776*128:=ZMa hle hby
   omega) (Kb _)
 have hall: ∀r∈rs++List.replicate k zx,r.length=i.size:=λr hr=>by
  rcases KT.1 hr with h|h
  .exact k2 r h
  .rw[(ZXU.1 h).2];exact hzl
 have hrow:QM w' false e i.size (rs++List.replicate k zx).length v' (xs++(Builtin.zeroCells z.cells k).toList):=by rw[ZW,ZK5];exact NJ
 obtain⟨R',ev⟩:=R.set ho hp w' (.rows false e i.size (rs++List.replicate k zx)) (p.1,v') (Kept.of_grown hG.grown) (λb hb=>by
  have hb':v'.ownBlock=some b:=hb;rcases hG.own with h|⟨g,h,h2⟩
  .exact U6
  .right;rw[h]at hb';cases hb';exact .inl h2) (λsz n1 h=>by
   simp[Ob.sl?]at h;obtain⟨rfl,rfl⟩:=h;exact⟨(rs++List.replicate k zx).length,rfl,.inr Wx⟩) (λds h=>W6) (λev=>by
   refine⟨xs++(Builtin.zeroCells z.cells k).toList,hrow,hall,λk' r j x v h1 h2 h3=> ?_⟩;refine VX.mono (w:=E.w) (st:=E.st) (λb o hb=>ev.st b o hb) ?_;exact ZDz k1.1 k3 q8 k' r j x v h1 h2 UD h3)
 have:=refOf (E':=⟨w',E.st,E.ob.set id (p.1,v')⟩) rfl hrow;rw[ZW,ZK5]at this;exact⟨v',_,hrun,R',ev,this⟩
end
section
variable {P:Program} {E:Env} {os:J7} {c:Ctx}
theorem ZB6(rs:J6):(Kj rs).length=rs.length:=by simp[Kj]
theorem ZR0{rs:J6}{i j:Nat}{r:J8}{d:D}(hr:(Kj rs)[i]? =some r)(hd:r[j]? =some d): ∃r0 x,rs[i]? =some r0/\r0[j]? =some x/\d= .x x:=by
 unfold Kj at hr;rw[YI]at hr;obtain⟨r0,h0,rfl⟩:=Zc hr;rw[YI]at hd;obtain⟨x,hx,rfl⟩:=Zc hd;exact⟨r0,x,h0,hx,rfl⟩
theorem ZfL(R:Rel c E os){id ext i o e sz:Nat}{rs:List J8}{r cs:J8}{v:Value}{t m:Nat}(hs:Kn P t=some m)(ho:os[id]? =some (.drw e sz rs)){vp:Value}(hp:V E os (.eptr id ext i o) vp)(hr:rs[i]? =some r)(hext:rs.length=ext)
  (hv1:v.cells.size=m) (hv2: ∀u∈v.cells.toList,u.oneCell'=true) (hx:cs.length=m) (hv3: ∀(j:Nat) (d:D) (u:Value),cs[j]? =some d->v.cells[j]? =some u->V E os d u) (hle:o+m<=sz):
  ∃E',(Instr.storeAt t vp v).run P E.w= .ok () E'.w/\Rel c E' (os.set id (.drw e sz (rs.set i (r.take o++cs++r.drop (o+m)))))/\Evo E os E' (os.set id (.drw e sz (rs.set i (r.take o++cs++r.drop (o+m))))):=by
 obtain⟨hi,g,cap,p,hpp,hg,rfl,hok⟩:=ZL9 R hp ho hext;obtain⟨xs,q1,q2,q3⟩:=hok;have hrl:r.length=sz:=q2 r (JE hr);subst hx;have hi1:i*sz+sz<=rs.length*sz:=by
  exact NF
 have hnew: ∀j,(r.take o++cs++r.drop (o+cs.length))[j]? =if j<o then r[j]? else if j<o+cs.length then cs[j-o]? else r[j]? :=λj=>ZCI r cs o j J0
 have hget: ∀i',(rs.set i (r.take o++cs++r.drop (o+cs.length)))[i']? =if i=i' then some (r.take o++cs++r.drop (o+cs.length))else rs[i']? :=λi'=>by
  rw[ZCr];by_cases hii:i=i'
  .subst hii;simp;omega
  .simp[hii]
 have hrow: ∀i' j,j<sz->i'≠i-> ¬(i*sz<=i'*sz+j/\i'*sz+j<i*sz+sz):=λi' j hj hne hh=>by
  rcases Nat.lt_or_gt_of_ne hne with hlt|hlt
  .have:(i'+1)*sz<=i*sz:=Ky _ hlt;exact VH
  .have:(i+1)*sz<=i'*sz:=Ky _ hlt;exact VH
 rcases q1.2 with⟨h3,_⟩|⟨g',cap',cells,fr,h3,h4,h5,h6,h7,h8,h9⟩
 .rw[hg]at h3;cases h3
 .rw[hg]at h3;cases h3;have hcs:rs.length*sz<=cells.size:=by rw[h7];exact Ky _ h5
  have hvl:v.cells.toList.length=cs.length:=by simpa using hv1
  obtain⟨w',k1,k2,k3⟩:=ZGb (P:=P) g (i*sz+o) e fr v.cells.toList 0 cells E.w h4 Hd J0 hv2;obtain⟨R',ev⟩:=R.set ho hpp w' (.drw e sz (rs.set i (r.take o++cs++r.drop (o+cs.length)))) p ⟨k3.os,k3.tape,k3.output,k3.size,λj hj hm=>k3.block j hj (λh=>hm (by rw[h];simp[Ob.mb,hg,Value.ownBlock]))⟩ (λb' hb'=> .inl hb')
   (λsz' n1 h=>by simp[Ob.sl?]at h;obtain⟨rfl,rfl⟩:=h;exact⟨rs.length,by simp[Ob.sl?],.inl ⟨rfl,rfl⟩⟩) (λk h=>W6) (λev=>by
    rw[KB]at k2;have hsize:(cells.toList.take (i*sz+o)++v.cells.toList++cells.toList.drop (i*sz+o+v.cells.toList.length)).length=cells.size:=by simp only[ZW,Yv,KQ,Qt];omega
    refine⟨(cells.toList.take (i*sz+o)++v.cells.toList++cells.toList.drop (i*sz+o+v.cells.toList.length)).take (rs.length*sz),⟨by rw[Yv,hsize,ZJG];omega,.inr ⟨g,cap,_,fr,by rw[ZJG];rw[hg,hext],k2,by rw[ZJG];exact h5,h6,by simp only[ZDi,hsize];exact h7,by rw[ZJG],?_⟩⟩,λr' hr'=> ?_,λi' r' j d u hr' hd hu=> ?_⟩
    .rcases h9 with h9|h9
     .exact .inl h9
     .exact .inr ⟨h9.1,by simp only[ZDi,hsize];exact h9.2⟩
    .rcases ZXl hr' with h|h
     .exact q2 r' h
     .subst h;simp;omega
    .have hi':i'<rs.length:=by have:=(ZX hr').1;exact V3
     have hrl':r'.length=sz:=by
      rw[hget]at hr';split at hr'
      .cases hr';simp;omega
      .exact q2 r' (JE hr')
     have hj:j<sz:=by rw[<-hrl'];exact(ZX hd).1
     have hlt:i'*sz+j<rs.length*sz:=by
      have:(i'+1)*sz<=rs.length*sz:=Ky _ hi';exact VH
     rw[Kp,if_pos hlt,ZCI _ _ _ _ (by simp only[Qt];omega),hvl]at hu;rw[hget]at hr';have old: ∀ {r0:J8},rs[i']? =some r0->r0[j]? =some d->cells.toList[i'*sz+j]? =some u->V E os d u/\u.oneCell'=true:=λh1 h2 h3=>
      q3 i' _ j d u h1 h2 (by rw[<-h8,Kp,if_pos hlt];exact h3)
     have fin:V E os d u/\u.oneCell'=true:=by
      by_cases hii:i=i'
      .subst hii;simp only[if_true]at hr';cases hr';rw[hnew]at hd;by_cases ha:j<o
       .rw[if_pos ha]at hd;rw[if_pos J0]at hu;exact old hr hd hu
       .rw[if_neg ha]at hd;rw[if_neg J0]at hu;by_cases hb:j<o+cs.length
        .rw[if_pos hb]at hd;rw[if_pos J0]at hu;have e1:i*sz+j-(i*sz+o)=j-o:=Wm
         rw[e1]at hu;exact⟨hv3 _ d u hd Xk,hv2 u (JE hu)⟩
        .rw[if_neg hb]at hd;rw[if_neg J0]at hu;exact old hr hd hu
      .rw[if_neg hii]at hr';have hn:=hrow i' j hj (Ne.symm hii);by_cases ha:i'*sz+j<i*sz+o
       .rw[if_pos ha]at hu;exact old hr' hd hu
       .rw[if_neg ha,if_neg J0]at hu;exact old hr' hd hu
     exact⟨fin.1.mono ev,fin.2⟩)
  exact⟨_,ZHA hs hv1 _ k1,R',ev⟩
theorem ZeO(R:Rel c E os){t ty e:Nat}{i:TypeInfo}{z:Value}(ht:P.underlying t=some (.slice e))(hi:P.info? e=some i)(hz:i.zero=some z)(hzs:z.cells.size=i.size)(hsz:0<i.size)(hby:i.bytes<=128)
  {id:Nat} {rs:List J8} {vx:Value} (hx:V E os (.ref id rs.length 0 rs.length) vx) (ho:os[id]? =some (.drw e i.size rs)) {y:D} {vy:Value} (hy:V E os y vy) {src:J6} (hr:Zx os y=some src) (hrl: ∀r∈src,r.length=i.size) (hle:rs.length+src.length<=1099511627776) (hpos:0<src.length):
  ∃v E',(Builtin.append_ #[t,t] ty #[vx,vy]).run P E.w= .ok v E'.w/\Rel c E' (os.set id (.drw e i.size (rs++Kj src)))/\Evo E os E' (os.set id (.drw e i.size (rs++Kj src)))/\V E' (os.set id (.drw e i.size (rs++Kj src))) (.ref id (rs.length+src.length) 0 (rs.length+src.length)) v:=by
 obtain⟨ad,cp,news,rfl,q2,q3,q4,q5,q6,q7,q8⟩:=ZBS R hy hr hrl;obtain⟨p,hp,hok⟩:=R.at ho;obtain⟨xs,k1,k2,k3⟩:=hok;have hlt:=(ZX ho).1;have hvx:vx=p.2:=by
  obtain⟨h1,h2⟩:=hx.ref_inv.at' ho rfl;exact WP
 subst hvx;cases ad with
 |none=>have:=q5 rfl;omega
 |some ad=>
  have hown:=k1.owns;obtain⟨v',w',hrun,ho',hG⟩:=ZDY (P:=P) E.w 0 t ty e i z i.size i.bytes ht hi hz rfl rfl hzs hsz p.2 rs.length xs hown ad src.length cp news q4 (q6 ad rfl) q7 V5
   (by
    have h:(rs.length+src.length)*i.bytes<=1099511627776*128:=ZMa hle hby
    omega) (Kb _)
  have hall: ∀r∈rs++Kj src,r.length=i.size:=λr hr=>by
   rcases KT.1 hr with h|h
   .exact k2 r h
   .obtain⟨r0,h0,rfl⟩:=YS.1 h;rw[Yc];exact hrl r0 h0
  have hrow:QM w' false e i.size (rs++Kj src).length v' (xs++news):=by rw[ZW,ZB6];exact NJ
  obtain⟨R',ev⟩:=R.set ho hp w' (.drw e i.size (rs++Kj src)) (p.1,v') (Kept.of_grown hG.grown) (λb hb=>by
   have hb':v'.ownBlock=some b:=hb;rcases hG.own with h|⟨g,h,h2⟩
   .exact U6
   .right;rw[h]at hb';cases hb';exact .inl h2) (λsz n1 h=>by
    simp[Ob.sl?]at h;obtain⟨rfl,rfl⟩:=h;exact⟨(rs++Kj src).length,rfl,.inr (by simp[ZB6];omega)⟩) (λk h=>W6) (λev=>by
    refine⟨xs++news,hrow,hall,λk r j d v h1 h2 h3=> ?_⟩;have:=ZG4 (T:=λd v=>V E os d v/\v.oneCell'=true) k1.1 k3 (λi r j d hr hd=>by
     obtain⟨r0,x,g1,g2,rfl⟩:=ZR0 hr hd;obtain⟨u,g3,g4⟩:=q8 i r0 j x g1 g2;exact⟨u,g3,.x g4,g4.one⟩) k r j d v h1 h2 UD h3
    exact⟨this.1.mono ev,this.2⟩)
  refine⟨v',_,hrun,R',ev,?_⟩;refine .ref ⟨.drw e i.size (rs++Kj src),i.size,(rs++Kj src).length,Xu,rfl,?_⟩ ?_
  .refine⟨by simp[ZB6],λ_=>⟨J0,p.1,?_⟩⟩;have hob':(E.ob.set id (p.1,v'))[id]? =some (p.1,v'):=HQ
   have hnl:(rs++Kj src).length=rs.length+src.length:=by simp[ZB6]
   rcases hrow.2 with⟨h3,h4⟩|⟨g,cap,cells,fr,h3,h4,h5,h6,h7⟩
   .omega
   .exact UG
  .exact Vv
theorem Zc1(R:Rel c E os){t ty e:Nat}{i:TypeInfo}{z:Value}(ht:P.underlying t=some (.slice e))(hi:P.info? e=some i)(hz:i.zero=some z)(hzs:z.cells.size=i.size)(hsz:0<i.size)(hby:i.bytes<=128)
  {id:Nat} {rs:List J8} {vx:Value} (hx:V E os (.ref id rs.length 0 rs.length) vx) (ho:os[id]? =some (.drw e i.size rs)) {jd e2 sz2:Nat} {src:List J8} {vy:Value} (hy:V E os (.ref jd src.length 0 src.length) vy) (hj:os[jd]? =some (.drw e2 sz2 src)) (hrl: ∀r∈src,r.length=i.size) (hle:rs.length+src.length<=1099511627776) (hpos:0<src.length):
  ∃v E',(Builtin.append_ #[t,t] ty #[vx,vy]).run P E.w= .ok v E'.w/\Rel c E' (os.set id (.drw e i.size (rs++src)))/\Evo E os E' (os.set id (.drw e i.size (rs++src)))/\V E' (os.set id (.drw e i.size (rs++src))) (.ref id (rs.length+src.length) 0 (rs.length+src.length)) v:=by
 obtain⟨p,hp,hok⟩:=R.at ho;obtain⟨p2,hp2,hok2⟩:=R.at hj;have hlt:=(ZX ho).1;have hvx:vx=p.2:=by
  obtain⟨h1,h2⟩:=hx.ref_inv.at' ho rfl;exact WP
 have hvy:vy=p2.2:=by
  obtain⟨h1,h2⟩:=hy.ref_inv.at' hj rfl;obtain⟨h3,b,a0,cap,a',cap',h4,h5,h6,h7,h8,h9⟩:=h2 rfl;rw[hp2]at h4;obtain⟨h10,h11⟩:=h8 rfl;rw[h10,h11]at h5;rw[h5,ZCn h4]
 subst hvx hvy;have hsh: ∃g cap,p2.2= .slice (some ⟨g,0,none⟩) src.length cap/\src.length<=cap/\cap<=maxLen:=by
  obtain⟨xs,q1,q2,q3⟩:=hok2;rcases q1.2 with⟨_,h4⟩|⟨g,cap,cells,fr,h3,h4,h5,h6,h7⟩
  .omega
  .exact⟨g,cap,h3,h5,h6⟩
 obtain⟨g2,cp,hg2,hc1,hc2⟩:=hsh;obtain⟨-,news,q4,q6,q7,q9,q8⟩:=ZP7 hok2 hg2;have hse:sz2=i.size:=by
  have hm:src[0]'hpos∈src:=YK _;rw[<-hrl _ hm];exact(q9 _ hm).symm
 subst hse;obtain⟨xs,k1,k2,k3⟩:=hok;rw[hg2];have hown:=k1.owns;obtain⟨v',w',hrun,ho',hG⟩:=ZDY (P:=P) E.w 0 t ty e i z i.size i.bytes ht hi hz rfl rfl hzs hsz p.2 rs.length xs hown ⟨g2,0,none⟩ src.length cp news q4 (λj u hu=>by rw[JT,Jk];exact q6 j u hu) q7 V5
  (by
   have h:(rs.length+src.length)*i.bytes<=1099511627776*128:=ZMa hle hby
   omega) (Kb _)
 have hall: ∀r∈rs++src,r.length=i.size:=λr hr=>by
  rcases KT.1 hr with h|h
  .exact k2 r h
  .exact hrl r h
 have hrow:QM w' false e i.size (rs++src).length v' (xs++news):=by rw[ZW];exact NJ
 obtain⟨R',ev⟩:=R.set ho hp w' (.drw e i.size (rs++src)) (p.1,v') (Kept.of_grown hG.grown) (λb hb=>by
  have hb':v'.ownBlock=some b:=hb;rcases hG.own with h|⟨g,h,h2⟩
  .exact U6
  .right;rw[h]at hb';cases hb';exact .inl h2) (λsz n1 h=>by
   simp[Ob.sl?]at h;obtain⟨rfl,rfl⟩:=h;exact⟨(rs++src).length,rfl,.inr Wx⟩) (λk h=>W6) (λev=>by
   refine⟨xs++news,hrow,hall,λk r j d v h1 h2 h3=> ?_⟩;have:=ZG4 (T:=λd v=>V E os d v/\v.oneCell'=true) k1.1 k3 (λi r j d hr hd=>by
    obtain⟨u,g3,g4⟩:=q8 i r j d hr hd;exact⟨u,g3,g4,q7 u (JE g3)⟩) k r j d v h1 h2 UD h3
   exact⟨this.1.mono ev,this.2⟩)
 refine⟨v',_,hrun,R',ev,?_⟩;refine .ref ⟨.drw e i.size (rs++src),i.size,(rs++src).length,Xu,rfl,?_⟩ ?_
 .refine⟨J1,λ_=>⟨J0,p.1,?_⟩⟩;have hob':(E.ob.set id (p.1,v'))[id]? =some (p.1,v'):=HQ
  have hnl:(rs++src).length=rs.length+src.length:=TG
  rcases hrow.2 with⟨h3,h4⟩|⟨g,cap,cells,fr,h3,h4,h5,h6,h7⟩
  .omega
  .exact UG
 .exact Vv
end
end Go.Ab
end
