import Derived.Test.YtpjfdjcejamebaaGreatDoorLA3
import Derived.LoopN
import Derived.ScopeJumps
import Derived.IntWalk
set_option linter.unusedSimpArgs false
set_option linter.unusedVariables false
set_option maxRecDepth 100000
section
namespace Go.Ab
open Go.RowKit Go.Bo
structure Draw (ops:List Oper) (il:List IOp) (k:Nat) (rs:W0):Prop where
 back: ∀(i:Nat) (o:Oper),ops[i]? =some o-> ∀j∈aft o,j<i
 own: ∀(i j:Nat) (x y:IOp) (t:Nat),il[i]? =some x->il[j]? =some y->x.dst=some t->y.dst=some t->i=j
 reads: ∀(i j:Nat) (x y:IOp) (t:Nat) (o p:Oper),il[i]? =some x->il[j]? =some y->ops[i]? =some o->ops[j]? =some p->t∈x.reads->y.dst=some t->(j<i/\j∈aft o)\/(i<j/\i∈aft p)
 tail: ∀(i:Nat) (o:Oper) (x:IOp),k<=i->ops[i]? =some o->il[i]? =some x->x.ex rs i=false-> ∀dn,ZNj ops dn->(∀j∈aft o,dn j=true)-> ∀(j:Nat) (y:IOp),j<i->il[j]? =some y->y.ex rs j=false->dn j=true
theorem Draw.of{ops:List Oper}{il:List IOp}{k:Nat}{rs:W0}(h:ZEc ops il k rs=true):Draw ops il k rs:=by
 simp only[ZEc,ZT]at h;obtain⟨h2,h3,h4,h5⟩:=h;have back: ∀(i:Nat) (o:Oper),ops[i]? =some o-> ∀j∈aft o,j<i:=λi o ho j hj=>by
  have:=ZNU h2 i o ho j hj;omega
 have zt: ∀(i:Nat) (x:IOp) (o:Oper),il[i]? =some x->ops[i]? =some o->(il.zip ops)[i]? =some (x,o):=λi x o hx ho=>List.getElem?_zip_eq_some.2 ⟨hx,ho⟩
 refine⟨back,λi j x y t hx hy hd he=>ZQY h3 i j x y t hx hy hd he,λi j x y t o p hx hy ho hp ht hd=> ?_,λi o x hi ho hx hf dn hcl hd j y hj hy hyf=> ?_⟩
 .have:=ZP0 (ZSv h4 i x o (zt i x o hx ho)) j y p t (zt j y p hy hp) hd ht;simpa using this
 .have hlt:=(Zb ho).1;obtain⟨b1,b2⟩:=ZQU ops [] [] rfl (λi c hc=>by simp at hc) (by simpa using back);simp only[ZAy]at b1 b2;have hc:(ZBo [] ops)[i]? =some ((ZBo [] ops)[i]' J0):=YC _;have:=(ZOt h5 i _ x hc hx (by rw[Jn];exact hf) J0).2 j y hj hy (by rw[Jn];exact hyf);rw[Jn]at this;exact b2 i _ hc dn hcl (by rw[ho];exact Yc.2 hd) j this
theorem ZQ1{p q:Nat->Bool}: ∀ {l:W0} {i:Nat},i∈l->p i=true->q i=false->(∀j,q j=true->p j=true)->l.countP q<l.countP p
 | [],i,h,_,_,_=>by cases h
 |x::l,i,h,hp,hq,hqp=>by
  have hle:l.countP q<=l.countP p:=List.countP_mono_left (λj _ hj=>hqp j hj);rcases Kr.1 h with rfl|h
  .rw[Zal (by simp[hq]),ZV9 hp];omega
  .have:=ZQ1 h hp hq hqp;by_cases hx:q x=true
   .rw[ZV9 hx,ZV9 (hqp x hx)];omega
   .rw[Zal (by simpa using hx)];by_cases hx2:p x=true
    .rw[ZV9 hx2];omega
    .rw[Zal (by simpa using hx2)];exact this
theorem ZLB{c:Ctx}: ∀(F:List Rec) (i:Nat) {E:Env} {os:J7},Rel c E os-> ∃E',E'.w=E.w/\Rel c E' (os++KA F (λ_=>false) i)/\Evo E os E' (os++KA F (λ_=>false) i)
 | [],i,E,os,R=>⟨E,rfl,by simpa[KA]using R,by simpa[KA]using Evo.refl E os⟩
 |(dst,d,none)::l,i,E,os,R=>by simp only[KA];exact ZLB l (i+1) R
 |(dst,d,some ob)::l,i,E,os,R=>by
  obtain⟨R1,e1⟩:=R.push E.w .dead (0,undef) (Kept.refl _ _) (λb hb=>by cases hb) (λ_=>trivial);obtain⟨E',h1,h2,h3⟩:=ZLB l (i+1) R1;refine⟨E',h1,?_,?_⟩
  .simp only[KA,JP,if_false];rw[Yp]at h2;exact h2
  .simp only[KA,JP,if_false];rw[Yp]at h3;exact e1.trans h3
theorem ZJu(l:Array Bool)(i j:Nat)(hi:i<l.size):(l.setIfInBounds i true).getD j false=(l.getD j false||decide (j=i)):=by
 rw[ZDp,ZDp,ZVk];by_cases h:i=j
 .subst h;simp[hi]
 .have h2: ¬j=i:=λe=>h e.symm
  simp[h,h2]
section
variable {P:Program} {S:Tabs} {c:Ctx} {n:Nat} {Q:Exit->Act->World->Prop} {ops:Array Oper} {il:List IOp} {k:Nat} {rs:W0} {E0:Env} {os0:J7}
theorem ZLn{listed:Array Bool}(hsz:listed.size=ops.size){i:Nat}:i∈Region.ready .any ops listed↔listed.getD i false=false/\ ∃o,ops.toList[i]? =some o/\ ∀j∈aft o,listed.getD j false=true:=by
 rw[mem_ready];constructor
 .rintro⟨h1,o,ho,h2⟩;have hi:i<listed.size:=by rw[hsz];exact(ξH ho).1
  refine⟨?_,o,by simpa using ho,λj hj=> ?_⟩
  .simpa[ZDp,hi]using h1
  .obtain⟨e,he,rfl⟩:=YT.1 hj;have:=List.mem_filter.1 he;exact h2 e (by simpa using this.1) this.2
 .rintro⟨h1,o,ho,h2⟩;have ho':ops[i]? =some o:=by simpa using ho
  have hi:i<listed.size:=by rw[hsz];exact(ξH ho').1
  refine⟨by simpa[ZDp,hi]using h1,o,ho',λe he hb=>h2 e.on (YT.2 ⟨e,List.mem_filter.2 ⟨by simpa using he,hb⟩,rfl⟩)⟩
theorem ZeU{i:Nat}{o:Oper}(ho:ops.toList[i]? =some o){K:Act->World->Prop}{a:Act}{w:World}(h:if Region.wanted o (yielded ops a.tmps)then o.wp P a w K Q else K (a.put o.dst undef) w):wpOp P ops Q i K a w:=by
 unfold wpOp;have ho':ops[i]? =some o:=by simpa using ho
 rw[ho'];simp only;split
 .rename_i hw;rw[if_pos hw]at h;exact .inl h
 .rename_i hw;rw[if_neg hw]at h;exact h
theorem ZdS{k:Nat}{f:Nat->Bool}(h: ∃j,j<k/\f j=false): ∃j,(j<k/\f j=false)/\ ∀i,i<j->f i=true:=by
 obtain⟨j,hj⟩:=h
 induction j using Nat.strongRecOn with
 |_ j ihj=>
  by_cases h: ∃i,i<j/\f i=false
  .obtain⟨i,hi,hi2⟩:=h;exact ihj i hi ⟨J0,hi2⟩
  .exact⟨j,hj,λi hi=>by
    cases hb:f i with
    |true=>rfl
    |false=>exact absurd ⟨i,hi,hb⟩ h⟩
def KZ(os0:J7)(F:List Rec)(G:List (Option J7))(dn:Nat->Bool):J7:=Zz G dn 0 (os0++KA F dn 0)
theorem ZTQ: ∀(F:List Rec) (dn:Nat->Bool) (i:Nat),(∀(j:Nat) (t:Option Nat) (d:D) (x:Ob),F[j]? =some (t,d,some x)->dn (i+j)=true)->KA F dn i=YK F
 | [],_,_,_=>rfl
 |(dst,d,none)::l,dn,i,h=>by
  simp only[KA,YK];exact ZTQ l dn (i+1) (λj t d x hj=>by have:=h (j+1) t d x (by simpa using hj);rw[show i+1+j=i+(j+1) by omega];exact this)
 |(dst,d,some ob)::l,dn,i,h=>by
  simp only[KA,YK];have h0:=h 0 _ _ _ rfl;rw[JK]at h0;rw[h0,ZTQ l dn (i+1) (λj t d x hj=>by have:=h (j+1) t d x (by simpa using hj);rw[show i+1+j=i+(j+1) by omega];exact this)];rfl
theorem ZHi: ∀(F:List Rec) (m:Nat),(∀(j:Nat) (t:Option Nat) (d:D) (x:Ob),F[j]? =some (t,d,some x)->j<m)->YK (F.take m)=YK F
 | [],m,_=>by simp[YK]
 |(dst,d,none)::l,0,h=>by
  have:=ZHi l 0 (λj t d x hj=>by have:=h (j+1) t d x (by simpa using hj);omega);simp only[ZCV,YK]at this|-;exact this
 |(dst,d,some ob)::l,0,h=>by have:=h 0 _ _ _ rfl;omega
 |(dst,d,none)::l,m+1,h=>by
  simp only[ξV,YK];exact ZHi l m (λj t d x hj=>by have:=h (j+1) t d x (by simpa using hj);omega)
 |(dst,d,some ob)::l,m+1,h=>by
  simp only[ξV,YK];rw[ZHi l m (λj t d x hj=>by have:=h (j+1) t d x (by simpa using hj);omega)]
theorem ZGK: ∀(G:List (Option J7)) (m i:Nat) (b:J7),Zz G (λj=>decide (j<i+m)) i b=Zz (G.take m) (λ_=>true) i b
 | [],m,i,b=>by simp[Zz]
 |g::l,0,i,b=>by
  simp only[ZCV,Zz,JK];exact Qg _ _ _ _ (λj x _=>J1)
 |none::l,m+1,i,b=>by
  simp only[ξV,Zz];rw[<-ZGK l m (i+1) b];exact Kh l _ _ _ _ (λj x _=>by congr 1;simp;omega)
 |some x::l,m+1,i,b=>by
  have:decide (i<i+(m+1))=true:=by simp
  simp only[ξV,Zz,this,if_true];rw[<-ZGK l m (i+1) x];exact Kh l _ _ _ _ (λj x _=>by congr 1;simp;omega)
theorem ZaF{φ:J4}{os:J7}{o:IOp}{d:D}(h:ZGF φ os o=some (true,d)):
  ∃u id ext off len rs,o.g=none/\o.e= .b2s (.t u)/\Go.Ab.get φ u= .ref id ext off len/\Zx os (.ref id ext off len)=some rs/\rs.all ZFf=true/\d= .x (.str (rs.map ZE3)):=by
 unfold ZGF at h;split at h
 .rename_i u hg he;split at h
  .rename_i id ext off len hx;obtain⟨rs,h1,h2⟩:=Zd h;simp only[Za]at h2;exact⟨u,id,ext,off,len,rs,hg,he,hx,h1,h2.1,h2.2.symm⟩
  .cases h
 .cases h
theorem ZXc{os os':J7}{id ext off len:Nat}{r:J6}(h:os'[id]? =os[id]?)(hr:Zx os (.ref id ext off len)=some r):Zx os' (.ref id ext off len)=some r:=by
 simp only[Zx]at hr|-;rw[h];exact hr
theorem ZSc: ∀(F:List Rec) (dn:Nat->Bool) (i p:Nat) (x:Ob),(KA F dn i)[p]? =some x->x= .dead\/(YK F)[p]? =some x
 | [],_,_,p,x,h=>by simp[KA]at h
 |(dst,d,none)::l,dn,i,p,x,h=>by simp only[KA]at h;simp only[YK];exact ZSc l dn (i+1) p x h
 |(dst,d,some ob)::l,dn,i,p,x,h=>by
  simp only[KA]at h;simp only[YK];cases p with
  |zero=>
   simp at h;split at h
   .exact .inr (by simp[h])
   .exact .inl h.symm
  |succ p=>exact ZSc l dn (i+1) p x (by simpa using h)
theorem ZNO: ∀(F:List Rec) (m p:Nat) (x:Ob),(YK (F.take m))[p]? =some x->(YK F)[p]? =some x
 | [],m,p,x,h=>by simp[YK]at h
 |r::l,0,p,x,h=>by simp[YK]at h
 |(dst,d,none)::l,m+1,p,x,h=>by
  simp only[ξV,YK]at h|-;exact ZNO l m p x h
 |(dst,d,some ob)::l,m+1,p,x,h=>by
  simp only[ξV,YK]at h|-;cases p with
  |zero=>simpa using h
  |succ p=>exact ZNO l m p x (by simpa using h)
theorem ZcO(hS:SsOk P S)(D0:Draw ops.toList il k rs)(hcomp:ops.toList.mapM (JB P n ops)=some il){φ0:J4}{F:List Rec}{G:List (Option J7)}(hrun:KW S os0 k rs 0 φ0 os0.length os0 il=some (true,F,G))(hL: ∀(i:Nat) (io:IOp) (d:D),il[i]? =some io->Zq i rs=true->i<F.length->JF S (Yq φ0 (F.take i)) os0 io=some (true,d)-> ∀dn:Nat->Bool,(∃Y,KZ os0 F G dn=os0++Y)\/JF S (Yq φ0 (F.take i)) (KZ os0 F G dn) io=some (true,d))
  (hQ: ∀E' a',Rel c E' (Zz G (λ_=>true) 0 (os0++YK F))->Evo E0 os0 E' (Zz G (λ_=>true) 0 (os0++YK F))->Fr n E' (Zz G (λ_=>true) 0 (os0++YK F)) (Yq φ0 F) a'->Q .normal a' E'.w):
  ∀(fuel:Nat) (listed:Array Bool) (a:Act) (E:Env),listed.size=ops.size->ZNj ops.toList (λj=>listed.getD j false)->(List.range ops.size).countP (λj=> !listed.getD j false)<=fuel->
   Rel c E (KZ os0 F G (λj=>listed.getD j false))->Evo E0 os0 E (KZ os0 F G (λj=>listed.getD j false))->a.tmps.size=n->a.defers= []->(∀t,V E (KZ os0 F G (λj=>listed.getD j false)) (look F (λj=>listed.getD j false) 0 (Go.Ab.get φ0 t) t) (a.tmps.getD t undef))->
   wpAny P .any ops Q fuel listed a E.w:=by
 obtain⟨hlen,hat⟩:=ZD2 hcomp;simp only[QZ]at hlen;obtain⟨hFl,hGl,hF⟩:=ZE5 hrun;simp only[Jn]at hF;have rec_of: ∀(j:Nat) (r:Rec),F[j]? =some r-> ∃y,il[j]? =some y/\y.dst=r.1:=by
  intro j r hj;have hjl:=(Zb hj).1;have hy:il[j]? =some (il[j]' J0):=YC _;obtain⟨d,x,s,h1,_⟩:=hF j _ hy;rw[hj]at h1;cases h1;exact⟨_,hy,rfl⟩
 have st_of: ∀(j:Nat) (x:J7),G[j]? =some (some x)-> ∃y,il[j]? =some y/\y.ex rs j=false/\k<=j:=by
  intro j x hj;have hjl:=(Zb hj).1;have hy:il[j]? =some (il[j]' J0):=YC _;obtain⟨d,x',s,_,h2,h3⟩:=hF j _ hy;rw[hj]at h2;cases h2;cases h3 with
  |turn hf hk h=>exact⟨_,hy,hf,hk⟩
 have mk_of: ∀(j:Nat) (t:Option Nat) (d:D) (x:Ob),F[j]? =some (t,d,some x)-> ∃y,il[j]? =some y/\y.ex rs j=false/\j<k:=by
  intro j t d x hj;have hjl:=(Zb hj).1;have hy:il[j]? =some (il[j]' J0):=YC _;obtain⟨d',x',s,h1,_,h3⟩:=hF j _ hy;rw[hj]at h1;cases h1;cases h3 with
  |make hf hk h=>exact⟨_,hy,hf,hk⟩
 have oper_of: ∀j,j<ops.size-> ∃o,ops.toList[j]? =some o:=λj hj=>⟨ops[j],by simp[hj]⟩
 have fin: ∀(listed:Array Bool) (a:Act) (E:Env),listed.size=ops.size->Rel c E (KZ os0 F G (λj=>listed.getD j false))->Evo E0 os0 E (KZ os0 F G (λj=>listed.getD j false))->a.tmps.size=n->a.defers= []->(∀t,V E (KZ os0 F G (λj=>listed.getD j false)) (look F (λj=>listed.getD j false) 0 (Go.Ab.get φ0 t) t) (a.tmps.getD t undef))->
   (Region.ready .any ops listed= []->Q .normal a E.w):=by
  intro listed a E hsz R ev h1 h2 h3 hr;have all: ∀j,j<ops.size->listed.getD j false=true:=by
   intro j hj;cases hb:listed.getD j false with
   |true=>rfl
   |false=>
    exfalso;obtain⟨j0,⟨hj0,hj1⟩,hj2⟩:=ZdS (k:=ops.size) (f:=λj=>listed.getD j false) ⟨j,hj,hb⟩;have:j0∈Region.ready .any ops listed:=(ZLn hsz).2 ⟨hj1,ops[j0]' J0,J1,λj hj=>hj2 j (D0.back j0 _ J1 j hj)⟩;rw[hr]at this;cases this
  have e1:KZ os0 F G (λj=>listed.getD j false)=Zz G (λ_=>true) 0 (os0++YK F):=by
   unfold KZ;rw[ZOv F _ 0 (λj r hj=>by rw[Jn];exact all j (by have:=(Zb hj).1;omega))];exact Kh G _ _ _ _ (λj x hj=>by rw[Jn];exact all j (by have:=(Zb hj).1;omega))
  rw[e1]at R ev h3;refine hQ E a R ev ⟨h1,h2,λt=> ?_⟩;have:=ZMb F φ0 F.length 0 t;rw[JS]at this;rw[this];have e:look F (λj=>decide (j<0+F.length)) 0 (Go.Ab.get φ0 t) t=look F (λj=>listed.getD j false) 0 (Go.Ab.get φ0 t) t:=ZC0 F _ _ _ _ _ (λj d o hj=>by
   have hjl:=(Zb hj).1;simp only[Jn,hjl,decide_true,all j J0])
  rw[e];exact h3 t
 intro fuel
 induction fuel with
 |zero=>
  intro listed a E hsz hcl hfu R ev h1 h2 h3;have hr:Region.ready .any ops listed= []:=by
   apply ZhH.2;intro i hi;obtain⟨g1,o,ho,_⟩:=(ZLn hsz).1 hi;have hlt:i<ops.size:=by have:=(Zb ho).1;simpa using this
   have h0:(List.range ops.size).countP (λj=> !listed.getD j false)=0:=by omega
   have:=List.countP_eq_zero.1 h0 i (ZHL.2 hlt);rw[g1]at this;simp at this
  exact⟨hr,fin listed a E hsz R ev h1 h2 h3 hr⟩
 |succ fuel ih=>
  intro listed a E hsz hcl hfu R ev h1 h2 h3;refine⟨fin listed a E hsz R ev h1 h2 h3,λi hi=> ?_⟩;obtain⟨g1,o,ho,g2⟩:=(ZLn hsz).1 hi;have hlt:i<ops.size:=by have:=(Zb ho).1;simpa using this
  have hil:il[i]? =some (il[i]' J0):=YC _;have hio:=hat i o _ ho hil;obtain⟨d,x,s,hFi,hGi,hst⟩:=hF i _ hil;generalize hioe:il[i]' J0=io at*;have hlook: ∀t∈io.reads,Go.Ab.get (Yq φ0 (F.take i)) t=look F (λj=>listed.getD j false) 0 (Go.Ab.get φ0 t) t:=by
   intro t ht;rw[ZMb F φ0 i 0 t];refine ZC0 F _ _ _ _ _ (λj d' o' hj=> ?_);obtain⟨y,hy,hyd⟩:=rec_of j _ hj;have hjl:j<ops.size:=by have:=(Zb hy).1;omega
   obtain⟨p,hp⟩:=oper_of j hjl;simp only[Jn];rcases D0.reads i j io y t o p hil hy ho hp ht hyd with⟨w1,w2⟩|⟨w1,w2⟩
   .rw[g2 j w2];simpa using w1
   .have:listed.getD j false=false:=by
     cases hb:listed.getD j false with
     |false=>rfl
     |true=>
      have h9:listed.getD i false=true:=hcl j _ hp hb i w2;rw[g1]at h9;cases h9
    rw[this];simp;omega
  let φs:J4:=io.reads.map λt=>(t,look F (λj=>listed.getD j false) 0 (Go.Ab.get φ0 t) t)
  have hget: ∀t,Go.Ab.get φs t=look F (λj=>listed.getD j false) 0 (Go.Ab.get φ0 t) t\/(Go.Ab.get φs t= .und/\t∉io.reads):=by
   intro t;have key: ∀l:W0,Go.Ab.get (l.map λt=>(t,look F (λj=>listed.getD j false) 0 (Go.Ab.get φ0 t) t)) t=if t∈l then look F (λj=>listed.getD j false) 0 (Go.Ab.get φ0 t) t else .und:=by
    intro l
    induction l with
    |nil=>rfl
    |cons u l ihl=>
     simp only[YO,Go.Ab.get,Kr];by_cases hu:u=t
     .subst hu;simp
     .have: ¬t=u:=λe=>hu e.symm
      simp only[hu,if_false,ihl,this,false_or]
   rw[key io.reads];by_cases ht:t∈io.reads
   .rw[if_pos ht];exact .inl rfl
   .rw[if_neg ht];exact .inr ⟨rfl,ht⟩
  have hfs:Fr n E (KZ os0 F G (λj=>listed.getD j false)) φs a:=⟨h1,h2,λt=>by
   rcases hget t with h|⟨h,_⟩<;>rw[h]
   .exact h3 t
   .exact .und _⟩
  have hagree: ∀t∈io.reads,Go.Ab.get φs t=Go.Ab.get (Yq φ0 (F.take i)) t:=λt ht=>by
   rw[hlook t ht];rcases hget t with h|⟨_,h⟩
   .exact h
   .exact absurd ht h
  have hdst:io.dst=o.dst/\(o.dst.all λt=>decide (t<n))=true:=by
   simp only[JB,JD]at hio;obtain⟨e,he,hc⟩:=hio;split at hc
   .rename_i hd;split at hc
    .cases hc;exact⟨rfl,hd⟩
    .obtain⟨s,_,hc⟩:=Zd hc;cases hc;exact⟨rfl,hd⟩
   .cases hc
  have huniq: ∀(j u:Nat) (d':D) (o':Option Ob),F[j]? =some (some u,d',o')->io.dst=some u->j=i:=by
   intro j u d' o' hj hd;obtain⟨y,hy,hyd⟩:=rec_of j _ hj;exact(D0.own i j io y u hil hy hd hyd).symm
  have hnext:(λj=>(listed.setIfInBounds i true).getD j false)=λj=>listed.getD j false||decide (j=0+i):=by
   funext j;rw[ZJu _ _ _ J0,Jn]
  have step: ∀(v:Value) (E':Env) (os':J7),os'=KZ os0 F G (λj=>(listed.setIfInBounds i true).getD j false)->Rel c E' os'->Evo E (KZ os0 F G (λj=>listed.getD j false)) E' os'->V E' os' d v->
    wpAny P .any ops Q fuel (listed.setIfInBounds i true) (a.put o.dst v) E'.w:=by
   intro v E' os' hos R' e' hv;subst hos;refine ih _ _ E' (by simp[hsz]) ?_ ?_ R' (ev.trans e') ?_ (by cases hd:o.dst<;>simp[Act.put,h2]) (λt=> ?_)
   .intro q p hp hq j hj;show(listed.setIfInBounds i true).getD j false=true
    replace hq:(listed.setIfInBounds i true).getD q false=true:=hq
    rw[ZJu _ _ _ J0]at hq|-;by_cases hqi:q=i
    .subst hqi;rw[ho]at hp;cases hp;rw[g2 j hj];rfl
    .simp only[hqi,decide_false,ZFC]at hq;have h9:listed.getD j false=true:=hcl q p hp hq j hj;rw[h9];rfl
   .have hlt':(List.range ops.size).countP (λj=> !(listed.setIfInBounds i true).getD j false)<(List.range ops.size).countP (λj=> !listed.getD j false):=
     ZQ1 (ZHL.2 hlt) (by rw[g1];rfl) (by rw[ZJu _ _ _ J0];simp) (λj hj=>by
      rw[ZJu _ _ _ J0]at hj;simp only[Bool.not_or,ZT]at hj;exact hj.1)
    omega
   .cases hd:o.dst with
    |none=>exact h1
    |some t=>simp[Act.put,h1]
   .rw[hnext,ZRb F _ 0 _ i io.dst d x t hFi huniq,<-hnext];by_cases ht:io.dst=some t
    .rw[if_pos ht];rw[<-hdst.1,ht];have:(a.put (some t) v).tmps.getD t undef=v:=by
      have hb:t<n:=by have:=hdst.2;rw[<-hdst.1,ht]at this;simpa using this
      simp[Act.put,ZDp,h1,hb]
     rw[this];exact hv
    .rw[if_neg ht];have:(a.put o.dst v).tmps.getD t undef=a.tmps.getD t undef:=by
      rw[<-hdst.1];cases hd:io.dst with
      |none=>rfl
      |some u=>
       have hne:u≠t:=λe=>ht (by rw[hd,e])
       simp[Act.put,ZDp,hne]
     rw[this];exact(h3 t).mono e'
  have hsm: ∀j,listed.getD j false=true->j≠i:=λj hj e=>by subst e;rw[g1]at hj;cases hj
  refine ZeU ho ?_;have later:io.ex rs i=false-> ∀(j:Nat) (x':J7),i<j->G[j]? =some (some x')->listed.getD j false=false:=by
   intro hf j x' hij hj;obtain⟨y,hy,hyf,hkj⟩:=st_of j x' hj;have hjl:j<ops.size:=by have:=(Zb hy).1;omega
   obtain⟨p,hp⟩:=oper_of j hjl;cases hb:listed.getD j false with
   |false=>rfl
   |true=>
    have h9:listed.getD i false=true:=D0.tail j p y hkj hp hy hyf _ hcl (hcl j p hp hb) i io hij hil hf;rw[g1]at h9;cases h9
  cases hst with
  |frame hf hq=>
   have hos:KZ os0 F G (λj=>(listed.setIfInBounds i true).getD j false)=KZ os0 F G (λj=>listed.getD j false):=by
    unfold KZ;rw[hnext,ZFp F _ 0 i io.dst d hFi];refine Kh G _ _ _ _ (λj x' hj=> ?_);have:j≠i:=λe=>by subst e;rw[hGi]at hj;cases hj
    simp[this]
   rw[<-ZH4 S [] hagree]at hq;exact ZLV (os:= []) (Y:=KZ os0 F G (λj=>listed.getD j false)) hS R hfs hio hq (λv E' R' e' hv=>step v E' _ hos.symm R' e' hv)
  |look hf hq=>
   have hos:KZ os0 F G (λj=>(listed.setIfInBounds i true).getD j false)=KZ os0 F G (λj=>listed.getD j false):=by
    unfold KZ;rw[hnext,ZFp F _ 0 i io.dst d hFi];refine Kh G _ _ _ _ (λj x' hj=> ?_);have:j≠i:=λe=>by subst e;rw[hGi]at hj;cases hj
    simp[this]
   rcases hL i io d hil hf J0 hq (λj=>listed.getD j false)with⟨Y,hob⟩|hq2
   .rw[<-ZH4 S os0 hagree]at hq;rw[hob]at R hfs;exact ZLV hS R hfs hio hq (λv E' R' e' hv=>step v E' _ (by rw[hos,hob]) R' (by rw[hob];exact e') hv)
   .rw[<-ZH4 S _ hagree]at hq2;exact ZLV (os:=KZ os0 F G (λj=>listed.getD j false)) (Y:= []) hS (by rw[Kj];exact R) (by rw[Kj];exact hfs) hio hq2 (λv E' R' e' hv=>step v E' _ (by rw[hos,Kj]) R' (by rw[Kj]at e'|-;exact e') hv)
  |read hf hk hq=>
   have no: ∀(j:Nat) (x':J7),G[j]? =some (some x')->listed.getD j false=false:=λj x' hj=>by
    obtain⟨_,_,_,hkj⟩:=st_of j x' hj;exact later hf j x' J0 hj
   have hob:KZ os0 F G (λj=>listed.getD j false)=os0++KA F (λj=>listed.getD j false) 0:=Qg G _ 0 _ (λj x' hj=>by rw[Jn];exact no j x' hj);have hos:KZ os0 F G (λj=>(listed.setIfInBounds i true).getD j false)=KZ os0 F G (λj=>listed.getD j false):=by
    unfold KZ;rw[hnext,ZFp F _ 0 i io.dst d hFi];refine Kh G _ _ _ _ (λj x' hj=> ?_);have:j≠i:=λe=>by subst e;rw[hGi]at hj;cases hj
    simp[this]
   rw[<-ZH4 S os0 hagree]at hq;rw[hob]at R hfs;exact ZLV hS R hfs hio hq (λv E' R' e' hv=>step v E' _ (by rw[hos,hob]) R' (by rw[hob];exact e') hv)
  |near hf hk hq=>
   have no: ∀(j:Nat) (x':J7),G[j]? =some (some x')->listed.getD j false=false:=λj x' hj=>by
    obtain⟨_,_,_,hkj⟩:=st_of j x' hj;exact later hf j x' J0 hj
   have hob:KZ os0 F G (λj=>listed.getD j false)=os0++KA F (λj=>listed.getD j false) 0:=Qg G _ 0 _ (λj x' hj=>by rw[Jn];exact no j x' hj);have hos:KZ os0 F G (λj=>(listed.setIfInBounds i true).getD j false)=KZ os0 F G (λj=>listed.getD j false):=by
    unfold KZ;rw[hnext,ZFp F _ 0 i io.dst d hFi];refine Kh G _ _ _ _ (λj x' hj=> ?_);have:j≠i:=λe=>by subst e;rw[hGi]at hj;cases hj
    simp[this]
   have hcur:Zz (G.take i) (λ_=>true) 0 (os0++YK (F.take i))=os0++YK (F.take i):=by
    rw[<-ZGK G i 0];refine Qg G _ 0 _ (λj x' hj=> ?_);obtain⟨_,_,_,hkj⟩:=st_of j x' hj;simp;omega
   rw[hcur]at hq;obtain⟨u,id,ext,off,len,rs',hg,he,hx,hr,hb,rfl⟩:=ZaF hq;have hx':Go.Ab.get φs u= .ref id ext off len:=by
    rw[<-hx];exact hagree u (by simp[IOp.reads,he,IE.reads,IO.reads])
   have hv:=hfs.slot u;rw[hx']at hv;have hr':Zx (KZ os0 F G (λj=>listed.getD j false)) (.ref id ext off len)=some rs':=by
    cases hv with
    |ref h1 h2=>
     obtain⟨o',sz',rs2,k1,k2,k3⟩:=h1;rw[hob]at k1|-;refine ZXc ?_ hr;by_cases hid:id<os0.length
     .rw[Ym hid,Ym hid]
     .rw[Qe J0]at k1|-;rw[Qe J0];have hsome: ∃ob,(YK (F.take i))[id-os0.length]? =some ob:=by
       cases hc:(YK (F.take i))[id-os0.length]? with
       |some ob=>exact⟨ob,rfl⟩
       |none=>
        simp only[Zx]at hr;rw[Qe J0,hc]at hr;cases hr
      obtain⟨ob,hob'⟩:=hsome;rw[hob',k1];rcases ZSc F (λj=>listed.getD j false) 0 _ _ k1 with h|h
      .subst h;cases k2
      .rw[ZNO F i _ _ hob']at h;exact h.symm
   have hq2:JF S φs (KZ os0 F G (λj=>listed.getD j false)) io=some (true,.x (.str (rs'.map ZE3))):=by
    simp only[JF,hg,he,QA,ZS,ZF,hx',D.val,D.cond,hr',Yl,hb,QS]
   exact ZLV (os:=KZ os0 F G (λj=>listed.getD j false)) (Y:= []) hS (by rw[Kj];exact R) (by rw[Kj];exact hfs) hio hq2 (λv E' R' e' hv=>step v E' _ (by rw[hos,Kj]) R' (by rw[Kj]at e'|-;exact e') hv)
  |make hf hk hq=>
   rename_i ob';have no: ∀(j:Nat) (x':J7),G[j]? =some (some x')->listed.getD j false=false:=λj x' hj=>by
    obtain⟨_,_,_,hkj⟩:=st_of j x' hj;exact later hf j x' J0 hj
   have hob:KZ os0 F G (λj=>listed.getD j false)=os0++KA F (λj=>listed.getD j false) 0:=Qg G _ 0 _ (λj x' hj=>by rw[Jn];exact no j x' hj);obtain⟨m1,m2⟩:=ZTW F (λj=>listed.getD j false) 0 i io.dst d ob' hFi (by simpa using g1);have hos:KZ os0 F G (λj=>(listed.setIfInBounds i true).getD j false)=(os0++KA F (λj=>listed.getD j false) 0).set (os0.length+Jf F i) ob':=by
    unfold KZ;rw[hnext,m2,ZEy _ _ J0,ZWC];refine Qg G _ 0 _ (λj x' hj=> ?_);have:j≠i:=λe=>by subst e;rw[hGi]at hj;cases hj
    simp only[Jn,no j x' hj,this,decide_false,ZFC]
   rw[<-ZXZ S os0 _ hagree]at hq;rw[hob]at R hfs;refine ZgV hS R hfs hio (id:=os0.length+Jf F i) ?_ hq (λv E' R' e' hv=>step v E' _ hos.symm R' (by rw[hob];exact e') hv);rw[Qe J0,ZWC];exact m1
  |turn hf hk hq=>
   rename_i s';have early: ∀(j:Nat) (y:IOp),j<i->il[j]? =some y->y.ex rs j=false->listed.getD j false=true:=λj y hj hy hyf=>D0.tail i o io hk ho hil hf _ hcl g2 j y hj hy hyf
   have hcr:KA F (λj=>listed.getD j false) 0=YK F:=ZTQ F _ 0 (λj t d' x' hj=>by
    obtain⟨y,hy,hyf,hjk⟩:=mk_of j t d' x' hj;rw[Jn];exact early j y J0 hy hyf)
   have hrt:YK (F.take i)=YK F:=ZHi F i (λj t d' x' hj=>by obtain⟨_,_,_,hjk⟩:=mk_of j t d' x' hj;omega);have hob:KZ os0 F G (λj=>listed.getD j false)=Zz (G.take i) (λ_=>true) 0 (os0++YK (F.take i)):=by
    unfold KZ;rw[hcr,hrt,<-ZGK G i 0];refine Kh G _ _ _ _ (λj x' hj=> ?_);obtain⟨y,hy,hyf,hkj⟩:=st_of j x' hj;simp only[Jn];rcases Nat.lt_trichotomy j i with h|h|h
    .rw[early j y h hy hyf];simp[h]
    .subst h;rw[g1];simp
    .rw[later hf j x' h hj];simp;omega
   have hos:KZ os0 F G (λj=>(listed.setIfInBounds i true).getD j false)=s':=by
    unfold KZ;rw[hnext];refine ZKF G _ 0 _ i s' hGi J1 (λj x' hij hj=> ?_);have:j≠i:=by omega
    simp only[Jn,later hf j x' hij hj,this,decide_false,ZFC]
   rw[<-hob,<-ZWx S _ hagree]at hq;exact Zhq hS R hfs hio hq (λv E' R' e' hv=>step v E' _ hos.symm R' e' hv)
theorem Zcp{m:Option W0}{φ0:J4}{F:List Rec}{G:List (Option J7)}(h:ZOl m rs φ0 os0 il F G=true)(i:Nat)(io:IOp)(d:D)(hil:il[i]? =some io)(hm:Zq i rs=true)(hi:i<F.length)(hq:JF S (Yq φ0 (F.take i)) os0 io=some (true,d))(dn:Nat->Bool):(∃Y,KZ os0 F G dn=os0++Y)\/JF S (Yq φ0 (F.take i)) (KZ os0 F G dn) io=some (true,d):=by
 cases m with
 |none=>
  have hG: ∀(j:Nat) (x:J7),G[j]? =some (some x)-> ∃Y,x=os0++Y:=by
   cases rs with
   |nil=>cases hm
   |cons r rs=>exact ZLm h
  exact .inl (ZJi dn 0 (os0++KA F dn 0) hG ⟨_,rfl⟩)
 |some kp=>
  simp only[ZOl,ZT]at h;have hb:=ZYn h.1 i io hil hi (by rw[Jn];exact hm);refine .inr (ZeR hb hq (λid ds hid=> ?_) (λi hi o hid=> ?_))
  .unfold KZ;refine ZH1 _ 0 _ (λj x hj=>(ZMN (ZHe h.2 j x hj)).1 id ds hid) ?_;rw[Ym (Zb hid).1];exact hid
  .unfold KZ;refine ZH1 _ 0 _ (λj x hj=>(ZMN (ZHe h.2 j x hj)).2 i hi o hid) ?_;rw[Ym (Zb hid).1];exact hid
theorem ZUI(hm:P.follows .mixedOrders=true)(hS:SsOk P S)(hok:ZEc ops.toList il k rs=true)(hcomp:ops.toList.mapM (JB P n ops)=some il){id:Nat}{φ0 φ2:J4}{os2:J7}{E:Env}{a:Act}(R:Rel c E os0)(hf:Fr n E os0 φ0 a){m:Option W0}(hrun:ZHj m S φ0 os0 k rs il=some (true,φ2,os2))
  (hQ: ∀E' a',Rel c E' os2->Evo E os0 E' os2->Fr n E' os2 φ2 a'->Q .normal a' E'.w):(Code.region id ops true).wp P Q a E.w:=by
 simp only[ZHj,ξm]at hrun;obtain⟨⟨ok,F,G⟩,hrun,h3⟩:=hrun;simp at h3;obtain⟨⟨rfl,hpre⟩,rfl,rfl⟩:=h3;have D0:=Draw.of hok;obtain⟨R1,e1⟩:=R.world {E.w with drawn:=E.w.drawn+1} E.st ⟨rfl,rfl,rfl,Zm _,λ_ _ _=>rfl⟩ (λ_ _ h=>h) (λ_ _ h=> .inl h);obtain⟨E2,w2,R2,e2⟩:=ZLB F 0 R1;have hrep:(λj=>(Array.replicate ops.size false).getD j false)=λ_=>false:=by
  funext j;rw[ZDp];by_cases h:j<ops.size<;>simp[h]
 have hob:KZ os0 F G (λ_=>false)=os0++KA F (λ_=>false) 0:=Qg G _ 0 _ (λ_ _ _=>rfl);have hinit:=ZcO (E0:=E) hS D0 hcomp hrun (Zcp hpre) hQ ops.size (Array.replicate ops.size false) a E2 J1 (by rw[hrep];intro i o _ h;cases h) (by
  have:=List.countP_le_length (p:=λj=> !(Array.replicate ops.size false).getD j false) (l:=List.range ops.size);simpa using this) (by rw[hrep,hob];exact R2) (by rw[hrep,hob];exact e1.trans e2) hf.size hf.defers (λt=>by
   rw[hrep,hob,ZHs F _ 0 _ t (λj d o _=>rfl)];exact((hf.slot t).mono e1).mono e2)
 refine wp_region_any hm ?_;rw[w2]at hinit;exact hinit
end
inductive IC where
 |skip
 |reg (ops:List IOp)
 |dreg (k:Nat) (rs:W0) (k2:Nat) (rs2:W0) (ops:List IOp)
 |seq (a b:IC)
 |cond (x:IO) (a b:IC)
 |block (id:Nat) (b:IC)
 |loop (b:IC)
 |exit (id:Nat)
 |ret
 |scope (b cur:IC)
 |label (l:Nat)
 |goto (l:Nat)
 |dead
def IE.reader:IE->Bool
 | .ld _ _ _=>true
 | .iad _ _ _=>true
 | .iada _ _ _ _=>true
 | .len _ _=>true
 | .eq _ _ _ _=>true
 | .slc _ _ _ _ _=>true
 | .b2s _=>true
 | .mlk _ _ _ _ _=>true
 | .mln _=>true
 |_=>false
def IE.turner:IE->Bool
 | .sto _ _ _=>true
 | .app _ _ _ _ _=>true
 | .apz _ _ _ _ _ _=>true
 | .mup _ _ _ _=>true
 | .mdl _ _ _=>true
 | .men _ _ _ _=>true
 | .est _ _ _=>true
 | .mcl _=>true
 | .cpy _ _ _=>true
 |_=>false
def Zdi(b:Bool)(i c:Nat):Nat->W0->List IOp->Bool
 |j,d::l,o::il=>((o.e.turner||(b&&o.e.isCall))&&(!Nat.testBit c j&& !Nat.testBit d i))||Zdi b i c (j+1) l il
 |_,_,_=>false
def rsG(b:Bool)(C:W0)(il:List IOp):Nat->W0->List IOp->W0
 |i,c::l,o::il'=>if(!o.e.frame&&o.e.reader)&&Zdi b i c 0 C il then i::rsG b C il (i+1) l il' else rsG b C il (i+1) l il'
 |_,_,_=> []
def cutG(rs:W0):Nat->Nat->Nat->W0->List IOp->Nat
 |i,k,m,c::l,o::il=>cutG rs (i+1) (if o.ex rs i||Nat.beq (Nat.land c m) m then k else i+1) (if o.ex rs i then m else m|||2^i) l il
 |_,k,_,_,_=>k
def Zbl:W0->List IOp->List Bool
 |_,[]=> []
 |mk,o::il=>
  let der:=o.e.reads.any λt=>Zq t mk
  der::Zbl (match o.dst with
   |some d=>if der|| !(o.e.frame||o.e.reader)then d::mk else mk
   |none=>mk) il
def ZXr(i c:Nat):Nat->W0->List IOp->Bool
 |j,d::l,o::il=>(!o.e.frame&&(!Nat.beq i j&&(!Nat.testBit c j&& !Nat.testBit d i)))||ZXr i c (j+1) l il
 |_,_,_=>false
def ZWB(C:W0)(il:List IOp):Nat->W0->List Bool->List IOp->W0
 |i,c::l,d::dl,o::il'=>if(!o.e.frame&&o.e.reader)&&(!d&&ZXr i c 0 C il)then i::ZWB C il (i+1) l dl il' else ZWB C il (i+1) l dl il'
 |_,_,_,_=> []
def ZdY(il:List IOp):Bool:=(il.any λo=>o.g.isSome&&match o.e with
 | .bsl _ _ _ _=>true
 |_=>false)&& !(il.any λo=>o.e.turner)
def ZSA(P:Program)(ops:List Oper)(il:List IOp)(k:Nat)(rs:W0)(k2:Nat)(rs2:W0):Option (Nat×List Nat×Nat×List Nat×List IOp):=
 if P.follows .mixedOrders=true/\ZEc ops il k rs=true then if ZEc ops il k2 rs2=true then some (k,rs,k2,rs2,il)else some (k,rs,k,rs,il)else none
def ZO9(P:Program)(ops:Array Oper)(il:List IOp):Option (Nat×List Nat×Nat×List Nat×List IOp):=
 let C:=ZBo [] ops.toList
 let rs:=if ZdY il=true then ZWB C il 0 C (Zbl [] il) il else rsG false C il 0 C il
 let rs2:=if il.any (λo=>o.e.isCall)=true then rsG true C il 0 C il else rs
 ZSA P ops.toList il (cutG rs 0 0 0 C il) rs (cutG rs2 0 0 0 C il) rs2
theorem ZRY{P:Program}{ops:Array Oper}{il l:List IOp}{k k2:Nat}{rs rs2:W0}(h:ZO9 P ops il=some (k,rs,k2,rs2,l)):P.follows .mixedOrders=true/\ZEc ops.toList l k rs=true/\ZEc ops.toList l k2 rs2=true/\il=l:=by
 unfold ZO9 at h;simp only at h;generalize(if ZdY il=true then ZWB (ZBo [] ops.toList) il 0 (ZBo [] ops.toList) (Zbl [] il) il else rsG false (ZBo [] ops.toList) il 0 (ZBo [] ops.toList) il)=R at h;generalize(if il.any (λo=>o.e.isCall)=true then rsG true (ZBo [] ops.toList) il 0 (ZBo [] ops.toList) il else R)=R2 at h;unfold ZSA at h;split at h
 .rename_i h1;split at h
  .rename_i h2;simp only[Ze,Za]at h;obtain⟨rfl,rfl,rfl,rfl,rfl⟩:=h;exact⟨h1.1,h1.2,h2,rfl⟩
  .simp only[Ze,Za]at h;obtain⟨rfl,rfl,rfl,rfl,rfl⟩:=h;exact⟨h1.1,h1.2,h1.2,rfl⟩
 .cases h
def ZOE(x:Option IC):Option IC:=some (x.getD .dead)
theorem QQ{x:Option IC}{ic:IC}(h:ZOE x=some ic)(hd:ic≠ .dead):x=some ic:=by
 cases x with
 |none=>simp only[ZOE,ZNI,Ze]at h;exact absurd h.symm hd
 |some y=>simpa[ZOE]using h
def Zj(P:Program)(n:Nat):Code->Option IC
 | .skip=>some .skip
 | .region _ ops draw=>ZOE (if draw then((ops.toList.mapM (JB P n ops)).bind (ZO9 P ops)).map λp=> .dreg p.1 p.2.1 p.2.2.1 p.2.2.2.1 p.2.2.2.2
  else(ops.toList.mapM (JB P n ops)).map .reg)
 | .refuse _=>some .dead
 | .seq a b=>(Zj P n a).bind λa'=>(Zj P n b).map λb'=> .seq a' b'
 | .cond x a b=>(ZW x).bind λx'=>(Zj P n a).bind λa'=>(Zj P n b).map λb'=> .cond x' a' b'
 | .block i b=>(Zj P n b).map λb'=> .block i b'
 | .loop b=>(Zj P n b).map .loop
 | .exit i=>some (.exit i)
 | .ret=>some .ret
 | .scope b=>(Zj P n b).map λb'=> .scope b' b'
 | .label l=>some (.label l)
 | .goto l=>some (.goto l)
 |_=>none
structure Run (c:Ctx) (E0:Env) (os0:J7) (E:Env) (os:J7):Prop where
 rel:Rel c E os
 evo:Evo E0 os0 E os
def WI(P:Program)(c:Ctx)(E0:Env)(os0:J7)(n:Nat)(ic:IC)(Q:Exit->J4->J7->Prop)(φ:J4)(os:J7):Prop:=
 ∀(code:Code),Zj P n code=some ic-> ∀(E:Env) (a:Act),Run c E0 os0 E os->Fr n E os φ a->
  code.wp P (λx a' w'=> ∃E' φ' os',E'.w=w'/\Run c E0 os0 E' os'/\Fr n E' os' φ' a'/\Q x φ' os') a E.w
section
variable {P:Program} {c:Ctx} {E0:Env} {os0:J7} {n:Nat} {Q:Exit->J4->J7->Prop} {φ:J4} {os:J7}
theorem WI.mono{ic:IC}{Q':Exit->J4->J7->Prop}(h:WI P c E0 os0 n ic Q φ os)(hQ: ∀x φ os,Q x φ os->Q' x φ os):WI P c E0 os0 n ic Q' φ os:=
 λcode hc E a R hf=>wp_mono (h code hc E a R hf) (λ_ _ _ ⟨E',φ',os',h1,h2,h3,h4⟩=>⟨E',φ',os',h1,h2,h3,hQ _ _ _ h4⟩)
theorem ZSR{code:Code}(hc:Zj P n code=some .skip):code= .skip:=by
 cases code<;>simp only[Zj]at hc<;>(try replace hc:=QQ hc J1)<;>(try split at hc)<;>simp[JD]at hc|-
theorem ZVF{code:Code}{a' b':IC}(hc:Zj P n code=some (.seq a' b')): ∃a b,code= .seq a b/\Zj P n a=some a'/\Zj P n b=some b':=by
 cases code<;>simp only[Zj]at hc<;>(try replace hc:=QQ hc J1)<;>(try split at hc)<;>simp[JD]at hc|-
 exact⟨_,_,⟨rfl,rfl⟩,hc.1,hc.2⟩
theorem ZSe{code:Code}{x':IO}{a' b':IC}(hc:Zj P n code=some (.cond x' a' b')): ∃x a b,code= .cond x a b/\ZW x=some x'/\Zj P n a=some a'/\Zj P n b=some b':=by
 cases code<;>simp only[Zj]at hc<;>(try replace hc:=QQ hc J1)<;>(try split at hc)<;>simp[JD]at hc|-
 obtain⟨x,h1,y,h2,z,h3,rfl,rfl,rfl⟩:=hc;exact⟨_,_,_,⟨rfl,rfl,rfl⟩,h1,h2,h3⟩
theorem ZQN{code:Code}{i:Nat}{b':IC}(hc:Zj P n code=some (.block i b')): ∃b,code= .block i b/\Zj P n b=some b':=by
 cases code<;>simp only[Zj]at hc<;>(try replace hc:=QQ hc J1)<;>(try split at hc)<;>simp[JD]at hc|-
 exact⟨_,⟨hc.2,rfl⟩,hc.1⟩
theorem ZKJ{code:Code}{b':IC}(hc:Zj P n code=some (.loop b')): ∃b,code= .loop b/\Zj P n b=some b':=by
 cases code<;>simp only[Zj]at hc<;>(try replace hc:=QQ hc J1)<;>(try split at hc)<;>simp[JD]at hc|-
 exact hc
theorem ZRh{code:Code}{i:Nat}(hc:Zj P n code=some (.exit i)):code= .exit i:=by
 cases code<;>simp only[Zj]at hc<;>(try replace hc:=QQ hc J1)<;>(try split at hc)<;>simp[JD]at hc|-
 exact hc
theorem ZUf{code:Code}(hc:Zj P n code=some .ret):code= .ret:=by
 cases code<;>simp only[Zj]at hc<;>(try replace hc:=QQ hc J1)<;>(try split at hc)<;>simp[JD]at hc|-
theorem ZKw{code:Code}{b' c':IC}(hc:Zj P n code=some (.scope b' c')): ∃b,code= .scope b/\Zj P n b=some b'/\c'=b':=by
 cases code<;>simp only[Zj]at hc<;>(try replace hc:=QQ hc J1)<;>(try split at hc)<;>simp[JD]at hc|-
 obtain⟨h1,h2⟩:=hc;subst h2;exact⟨h1,rfl⟩
theorem ZQR{code:Code}{l:Nat}(hc:Zj P n code=some (.label l)):code= .label l:=by
 cases code<;>simp only[Zj]at hc<;>(try replace hc:=QQ hc J1)<;>(try split at hc)<;>simp[JD]at hc|-
 exact hc
theorem ZTb{code:Code}{l:Nat}(hc:Zj P n code=some (.goto l)):code= .goto l:=by
 cases code<;>simp only[Zj]at hc<;>(try replace hc:=QQ hc J1)<;>(try split at hc)<;>simp[JD]at hc|-
 exact hc
theorem ZI3{code:Code}{l:List IOp}(hc:Zj P n code=some (.reg l)): ∃id ops,code= .region id ops false/\ops.toList.mapM (JB P n ops)=some l:=by
 cases code<;>simp only[Zj]at hc<;>(try replace hc:=QQ hc J1)<;>(try split at hc)<;>simp[JD]at hc|-
 rename_i h;exact⟨_,_,⟨rfl,rfl,by simpa using h⟩,hc⟩
theorem ZTf{code:Code}{k k2:Nat}{rs rs2:W0}{l:List IOp}(hc:Zj P n code=some (.dreg k rs k2 rs2 l)): ∃id ops,code= .region id ops true/\ops.toList.mapM (JB P n ops)=some l/\P.follows .mixedOrders=true/\ZEc ops.toList l k rs=true/\ZEc ops.toList l k2 rs2=true:=by
 cases code<;>simp only[Zj]at hc<;>(try replace hc:=QQ hc J1)<;>(try split at hc)<;>simp[JD]at hc|-
 rename_i h;obtain⟨l',h1,h2⟩:=hc;obtain⟨_,_,_,_,_,h2,rfl,rfl,rfl,rfl,rfl⟩:=h2;obtain⟨h3,h4,h5,rfl⟩:=ZRY h2;exact⟨_,_,⟨rfl,rfl,by simpa using h⟩,h1,h3,h4,h5⟩
theorem Zbk{code:Code}(hc:Zj P n code=some .dead):(∃id ops d,code= .region id ops d)\/ ∃s,code= .refuse s:=by
 cases code<;>simp only[Zj]at hc<;>simp[JD]at hc|-
def ZFN:IC->Nat->Option IC
 | .seq a b,l=>match ZFN a l with
  |some r=>some (.seq r b)
  |none=>ZFN b l
 | .label l',l=>if l'==l then some .skip else none
 |_,_=>none
theorem ZHr: ∀(ic:IC) (code:Code),Zj P n code=some ic-> ∀l,(∀r,ZFN ic l=some r-> ∃rc,findLabel code l=some rc/\Zj P n rc=some r)/\(ZFN ic l=none->findLabel code l=none)
 | .seq a b,code,hc,l=>by
  obtain⟨ca,cb,rfl,h1,h2⟩:=ZVF hc;obtain⟨a1,a2⟩:=ZHr a ca h1 l;obtain⟨b1,b2⟩:=ZHr b cb h2 l;simp only[ZFN,findLabel];cases ha:ZFN a l with
  |some ra=>
   obtain⟨rc,k1,k2⟩:=a1 ra ha;refine⟨λr hr=> ?_,λh=>by cases h⟩;cases hr;rw[k1];exact⟨_,rfl,by simp only[Zj,k2,h2,ZAC,Yl]⟩
  |none=>
   rw[a2 ha];exact⟨λr hr=>b1 r hr,λh=>b2 h⟩
 | .label l',code,hc,l=>by
  rw[ZQR hc];simp only[ZFN,findLabel];split
  .exact⟨λr hr=>(by cases hr;exact⟨_,rfl,rfl⟩),λh=>(by cases h)⟩
  .exact⟨λr hr=>(by cases hr),λ_=>rfl⟩
 | .skip,code,hc,l=>by rw[ZSR hc];exact⟨λr hr=>(by cases hr),λ_=>rfl⟩
 | .reg _,code,hc,l=>by obtain⟨id,ops,rfl,_⟩:=ZI3 hc;exact⟨λr hr=>(by cases hr),λ_=>rfl⟩
 | .dreg _ _ _ _ _,code,hc,l=>by obtain⟨id,ops,rfl,_⟩:=ZTf hc;exact⟨λr hr=>(by cases hr),λ_=>rfl⟩
 | .cond _ _ _,code,hc,l=>by obtain⟨_,_,_,rfl,_⟩:=ZSe hc;exact⟨λr hr=>(by cases hr),λ_=>rfl⟩
 | .block _ _,code,hc,l=>by obtain⟨_,rfl,_⟩:=ZQN hc;exact⟨λr hr=>(by cases hr),λ_=>rfl⟩
 | .loop _,code,hc,l=>by obtain⟨_,rfl,_⟩:=ZKJ hc;exact⟨λr hr=>(by cases hr),λ_=>rfl⟩
 | .exit _,code,hc,l=>by rw[ZRh hc];exact⟨λr hr=>(by cases hr),λ_=>rfl⟩
 | .ret,code,hc,l=>by rw[ZUf hc];exact⟨λr hr=>(by cases hr),λ_=>rfl⟩
 | .scope _ _,code,hc,l=>by obtain⟨_,rfl,_⟩:=ZKw hc;exact⟨λr hr=>(by cases hr),λ_=>rfl⟩
 | .goto _,code,hc,l=>by rw[ZTb hc];exact⟨λr hr=>(by cases hr),λ_=>rfl⟩
 | .dead,code,hc,l=>by rcases Zbk hc with⟨_,_,_,rfl⟩|⟨_,rfl⟩<;>exact⟨λr hr=>(by cases hr),λ_=>rfl⟩
theorem WI.label{l:Nat}(h:Q .normal φ os):WI P c E0 os0 n (.label l) Q φ os:=by
 intro code hc E a R hf;rw[ZQR hc];exact wp_label ⟨E,φ,os,rfl,R,hf,h⟩
theorem WI.goto{l:Nat}(h:Q (.goto l) φ os):WI P c E0 os0 n (.goto l) Q φ os:=by
 intro code hc E a R hf;rw[ZTb hc];exact wp_goto ⟨E,φ,os,rfl,R,hf,h⟩
def ZNr(l:Nat)(J:J4->J7->Prop)(Q:Exit->J4->J7->Prop):Exit->J4->J7->Prop
 | .goto l',φ,os=>l'=l/\J φ os
 |x,φ,os=>Q x φ os
def ZOy(P:Program)(c rc:Code)(Q:Exit->Act->World->Prop)(a:Act)(w:World):Prop:=
 ∀b k cs,∃e a' w',Q e a' w'/\Arrives P (lone (b.at a (.code rc:: .inScope c::k)) cs w) b k cs e a' w'
theorem ZKu{c rc:Code}{Q:Exit->Act->World->Prop}{a:Act}{w:World}(h:rc.wp P (λe a' w'=>match e with| .goto l=> ∃rest,findLabel c l=some rest/\ZOy P c rest Q a' w'|e=>Q e a' w') a w):ZOy P c rc Q a w:=by
 intro b k cs;obtain⟨e,a₁,w₁,hq,harr⟩:=h b (.inScope c::k) cs;cases e with
 |normal=>exact⟨.normal,a₁,w₁,hq,Steps.trans harr (.one step_inScope)⟩
 |exit id=>exact⟨.exit id,a₁,w₁,hq,λk' hk=>harr k' (by simp[exitTo,hk])⟩
 |goto l'=>
  obtain⟨rest,hf,hn⟩:=hq;have hg:gotoIn l' (.inScope c::k)=some (.code rest:: .inScope c::k):=by simp[gotoIn,hf]
  obtain⟨e₂,a₂,w₂,hq₂,harr₂⟩:=hn b k cs;exact⟨e₂,a₂,w₂,hq₂,.of_steps (harr _ hg) harr₂⟩
 |ret=>exact⟨_,a₁,w₁,hq,harr⟩
 |panic ch=>exact⟨_,a₁,w₁,hq,harr⟩
 |outgrown=>exact⟨_,a₁,w₁,hq,harr⟩
theorem ZOj{c:Code}{Q:Exit->Act->World->Prop}{a:Act}{w:World}(h:ZOy P c c Q a w):(Code.scope c).wp P Q a w:=by
 intro b k cs;obtain⟨e,a₁,w₁,hq,harr⟩:=h b k cs;exact⟨e,a₁,w₁,hq,.of_steps (.one step_scope) harr⟩
theorem WI.skip(h:Q .normal φ os):WI P c E0 os0 n .skip Q φ os:=by
 intro code hc E a R hf;rw[ZSR hc];exact wp_skip ⟨E,φ,os,rfl,R,hf,h⟩
theorem WI.ret(h:Q .ret φ os):WI P c E0 os0 n .ret Q φ os:=by
 intro code hc E a R hf;rw[ZUf hc];exact wp_ret ⟨E,φ,os,rfl,R,hf,h⟩
theorem WI.exit{i:Nat}(h:Q (.exit i) φ os):WI P c E0 os0 n (.exit i) Q φ os:=by
 intro code hc E a R hf;rw[ZRh hc];exact wp_exit ⟨E,φ,os,rfl,R,hf,h⟩
def ZHt(next:J4->J7->Prop)(Q:Exit->J4->J7->Prop):Exit->J4->J7->Prop
 | .normal,φ,os=>next φ os
 |x,φ,os=>Q x φ os
def ZG1(i:Nat)(Q:Exit->J4->J7->Prop):Exit->J4->J7->Prop
 | .exit j,φ,os=>if j=i then Q .normal φ os else Q (.exit j) φ os
 |x,φ,os=>Q x φ os
theorem WI.seq{x y:IC}(h:WI P c E0 os0 n x (ZHt (WI P c E0 os0 n y Q) Q) φ os):WI P c E0 os0 n (.seq x y) Q φ os:=by
 intro code hc E a R hf;obtain⟨ca,cb,rfl,h1,h2⟩:=ZVF hc;refine wp_seq (wp_mono (h ca h1 E a R hf) (λe a' w' ⟨E',φ',os',k1,k2,k3,k4⟩=> ?_));subst k1;cases e with
 |normal=>exact k4 cb h2 E' a' k2 k3
 |_=>exact⟨E',φ',os',rfl,k2,k3,k4⟩
theorem WI.block{i:Nat}{b:IC}(h:WI P c E0 os0 n b (ZG1 i Q) φ os):WI P c E0 os0 n (.block i b) Q φ os:=by
 intro code hc E a R hf;obtain⟨cb,rfl,h1⟩:=ZQN hc;refine wp_block (wp_mono (h cb h1 E a R hf) (λe a' w' ⟨E',φ',os',k1,k2,k3,k4⟩=> ?_));cases e with
 |exit j=>
  simp only[Exit.inBlock];simp only[ZG1]at k4;split
  .rename_i hj;rw[if_pos hj]at k4;exact⟨E',φ',os',k1,k2,k3,k4⟩
  .rename_i hj;rw[if_neg hj]at k4;exact⟨E',φ',os',k1,k2,k3,k4⟩
 |_=>exact⟨E',φ',os',k1,k2,k3,k4⟩
theorem WI.cond{x:IO}{y z:IC}{b:Bool}(hv:(ZF φ x).val= .x (.bool b))(hcd:(ZF φ x).cond=true)(ht:b=true->WI P c E0 os0 n y Q φ os)(he:b=false->WI P c E0 os0 n z Q φ os):WI P c E0 os0 n (.cond x y z) Q φ os:=by
 intro code hc E a R hf;obtain⟨cx,ca,cb,rfl,h1,h2,h3⟩:=ZSe hc;have:=(V.op hf h1).strip hcd;rw[hv]at this;exact wp_cond_split (V.bool this) (λh=>ht h ca h2 E a R hf) (λh=>he h cb h3 E a R hf)
theorem WI.reg{S:Tabs}(hS:SsOk P S)(ks:W0){l:List IOp}{ok:Bool}{φ':J4}{os':J7}(h:ZBE S φ os l=some (ok,φ',os'))(hok:ok=true)(hq:Q .normal (keep ks φ') os'):WI P c E0 os0 n (.reg l) Q φ os:=by
 intro code hc E a R hf;subst hok;obtain⟨id,ops,rfl,h1⟩:=ZI3 hc;exact wp_region_list (ZOX hS R.rel hf h1 h (λE' a' R' e' f'=>⟨E',_,os',rfl,⟨R',R.evo.trans e'⟩,f'.keep ks,hq⟩))
def YY(r:Option (Bool×List (Nat×D)×J7))(K:J4->J7->Prop):Prop:= ∃ok φ os,r=some (ok,φ,os)/\ok=true/\K φ os
theorem YY.some_iff{ok:Bool}{φ:J4}{os:J7}{K:J4->J7->Prop}:YY (some (ok,φ,os)) K=(ok=true/\K φ os):=by
 apply propext;constructor
 .rintro⟨ok',φ',os',h,h1,h2⟩;cases h;exact⟨h1,h2⟩
 .rintro⟨h1,h2⟩;exact⟨ok,φ,os,rfl,h1,h2⟩
theorem WI.regK{S:Tabs}(hS:SsOk P S)(ks:W0){l:List IOp}(h: ∀K:J4->J7->Prop,(∀φ' os',Q .normal φ' os'->K φ' os')->YY (ZBE S φ os l) (λφ' os'=>K (Go.Ab.keep ks φ') os')):WI P c E0 os0 n (.reg l) Q φ os:=by
 obtain⟨ok,φ',os',h1,h2,h3⟩:=h _ (λ_ _ h=>h);exact WI.reg hS ks h1 h2 h3
theorem WI.reg'{S:Tabs}(hS:SsOk P S){l:List IOp}{ok:Bool}{φ':J4}{os':J7}(h:ZBE S φ os l=some (ok,φ',os'))(hok:ok=true)(hq:Q .normal φ' os'):WI P c E0 os0 n (.reg l) Q φ os:=by
 intro code hc E a R hf;subst hok;obtain⟨id,ops,rfl,h1⟩:=ZI3 hc;exact wp_region_list (ZOX hS R.rel hf h1 h (λE' a' R' e' f'=>⟨E',_,os',rfl,⟨R',R.evo.trans e'⟩,f',hq⟩))
theorem WI.dreg'{S:Tabs}(hS:SsOk P S){m:Option W0}{k k2:Nat}{rs rs2:W0}{l:List IOp}{ok:Bool}{φ' φ2:J4}{os':J7}(h:ZHj m S φ os k rs l=some (ok,φ',os')\/ZHj m S φ os k2 rs2 l=some (ok,φ',os'))(hok:ok=true)(hq:Q .normal φ2 os')(hk: ∀E a,Fr n E os' φ' a->Fr n E os' φ2 a):WI P c E0 os0 n (.dreg k rs k2 rs2 l) Q φ os:=by
 intro code hc E a R hf;subst hok;obtain⟨id,ops,rfl,h4,h5,h6,h7⟩:=ZTf hc;rcases h with h|h
 .exact ZUI h5 hS h6 h4 R.rel hf h (λE' a' R' e' f'=>⟨E',_,os',rfl,⟨R',R.evo.trans e'⟩,hk _ _ f',hq⟩)
 .exact ZUI h5 hS h7 h4 R.rel hf h (λE' a' R' e' f'=>⟨E',_,os',rfl,⟨R',R.evo.trans e'⟩,hk _ _ f',hq⟩)
theorem WI.scope{b rest:IC}(l:Nat)(hfi:ZFN b l=some rest)(J:J4->J7->Prop)(μ:J4->J7->Nat)(first:WI P c E0 os0 n b (ZNr l J Q) φ os)
  (pass: ∀φ os,J φ os->WI P c E0 os0 n rest (ZNr l (λφ' os'=>J φ' os'/\μ φ' os'<μ φ os) Q) φ os):WI P c E0 os0 n (.scope b b) Q φ os:=by
 intro code hc E a R hf;obtain⟨cb,rfl,h1,_⟩:=ZKw hc;obtain⟨rc,h2,h3⟩:=(ZHr b cb h1 l).1 rest hfi;refine ZOj ?_;have key: ∀(k:Nat) (φ:J4) (os:J7) (E:Env) (a:Act),μ φ os=k->J φ os->Run c E0 os0 E os->Fr n E os φ a->ZOy P cb rc (λx a' w'=> ∃E' φ' os',E'.w=w'/\Run c E0 os0 E' os'/\Fr n E' os' φ' a'/\Q x φ' os') a E.w:=by
  intro k
  induction k using Nat.strongRecOn with
  |_ k ih=>
   intro φ os E a hk hJ R hf;refine ZKu (wp_mono (pass φ os hJ rc h3 E a R hf) ?_);rintro e a' w' ⟨E',φ',os',rfl,R',f',hq⟩;cases e with
   |goto l'=>
    obtain⟨rfl,hJ',hlt⟩:=hq;exact⟨rc,h2,ih _ J0 φ' os' E' a' rfl hJ' R' f'⟩
   |_=>exact⟨E',φ',os',rfl,R',f',hq⟩
 refine ZKu (wp_mono (first cb h1 E a R hf) ?_);rintro e a' w' ⟨E',φ',os',rfl,R',f',hq⟩;cases e with
 |goto l'=>
  obtain⟨rfl,hJ'⟩:=hq;exact⟨rc,h2,key _ φ' os' E' a' rfl hJ' R' f'⟩
 |_=>exact⟨E',φ',os',rfl,R',f',hq⟩
theorem WI.loop{b:IC}(I:J4->J7->Prop)(μ:J4->J7->Nat)(h0:I φ os)
  (round: ∀φ os,I φ os->WI P c E0 os0 n b (ZHt (λφ' os'=>I φ' os'/\μ φ' os'<μ φ os) Q) φ os):WI P c E0 os0 n (.loop b) Q φ os:=by
 intro code hc E a R hf;obtain⟨cb,rfl,h1⟩:=ZKJ hc
 let T:Act->World->Nat->Prop:=λa w k=> ∃E φ os,E.w=w/\Run c E0 os0 E os/\Fr n E os φ a/\I φ os/\μ φ os=k
 have hT:T a E.w (μ φ os):=⟨E,φ,os,rfl,R,hf,h0,rfl⟩;have hmin: ∀(a:Act) (w:World),(∃k,T a w k)-> ∃k,T a w k/\ ∀j,T a w j->k<=j:=by
  intro a w ⟨k,hk⟩
  induction k using Nat.strongRecOn with
  |_ k ih=>
   by_cases h: ∃j,j<k/\T a w j
   .obtain⟨j,hj,hj2⟩:=h;exact ih j hj hj2
   .exact⟨k,hk,λj hj=>by
     rcases Nat.lt_or_ge j k with h2|h2
     .exact absurd ⟨j,h2,hj⟩ h
     .exact h2⟩
 classical
 let m:Act->World->Nat:=λa w=>if h: ∃k,T a w k then Classical.choose (hmin a w h)else 0
 have hm: ∀a w k,T a w k->T a w (m a w)/\m a w<=k:=by
  intro a w k hk;have hex: ∃k,T a w k:=⟨k,hk⟩;have:m a w=Classical.choose (hmin a w hex):=dif_pos hex;rw[this];obtain⟨q1,q2⟩:=ZWD (hmin a w hex);exact⟨q1,q2 k hk⟩
 refine wp_loop (λa w=> ∃k,T a w k) m ⟨_,hT⟩ (λa w ⟨k,hk⟩=> ?_);obtain⟨⟨E1,φ1,os1,rfl,R1,f1,i1,hk1⟩,_⟩:=hm a w k hk;refine wp_mono (round φ1 os1 i1 cb h1 E1 a R1 f1) (λe a' w' ⟨E',φ',os',k1,k2,k3,k4⟩=> ?_);cases e with
 |normal=>
  have ht:T a' w' (μ φ' os'):=⟨E',φ',os',k1,k2,k3,k4.1,rfl⟩;refine⟨⟨_,ht⟩,?_⟩;have:=(hm a' w' _ ht).2;have:=k4.2;omega
 |_=>exact⟨E',φ',os',k1,k2,k3,k4⟩
theorem WI.weak{ic:IC}{φ':J4}{os':J7}(hw: ∀(E:Env) (a:Act),Run c E0 os0 E os->Fr n E os φ a-> ∃E',E'.w=E.w/\Run c E0 os0 E' os'/\Fr n E' os' φ' a)(h:WI P c E0 os0 n ic Q φ' os'):WI P c E0 os0 n ic Q φ os:=by
 intro code hc E a R hf;obtain⟨E',h1,h2,h3⟩:=hw E a R hf;rw[<-h1];exact h code hc E' a h2 h3
theorem WI.keep(ks:W0){ic:IC}(h:WI P c E0 os0 n ic Q (keep ks φ) os):WI P c E0 os0 n ic Q φ os:=WI.weak (λE _ R hf=>⟨E,rfl,R,hf.keep ks⟩) h
theorem WI.own(t e sz:Nat)(ht:get φ t= .x .nils){ic:IC}(h:WI P c E0 os0 n ic Q (put φ t (.ref os.length 0 0 0)) (os++ [.rows false e sz []])):WI P c E0 os0 n ic Q φ os:=by
 refine WI.weak (λE a R hf=> ?_) h;obtain⟨E',k1,k2,k3,k4⟩:=Qt (fz:=false) (e:=e) (sz:=sz) (rs:= []) (cu:= .slice none 0 0) (xs:= []) R.rel (Kept.refl _ E.w) ⟨J1,.inl ⟨rfl,rfl⟩⟩ (λb hb=>by cases hb) (λr hr=>by cases hr) (λi r j x v h=>by simp at h);refine⟨E',k1,⟨k2,R.evo.trans k3⟩,hf.size,hf.defers,λu=> ?_⟩;rw[ZPJ];split
 .rename_i he;subst he;have:=hf.slot t;rw[ht]at this;rw[V.nils this];exact k4
 .exact(hf.slot u).mono k3
end
inductive IRes where
 |tmp (t:Nat)
 |cell (t n:Nat) (ag:Bool)
structure IFn where
 n:Nat
 res:List IRes
 body:IC
def ZPV(P:Program):ResultVar->Option IRes
 | .tmp t=>some (.tmp t)
 | .cell a t=>(KO P t).bind λn=>(ZF3 P t).map λag=> .cell a n ag
def ZFg(P:Program)(f:Func):Option IFn:=
 f.body.bind λc=>(Zj P f.ntmps c).bind λb=>(f.results.toList.mapM (ZPV P)).map λr=>⟨f.ntmps,r,b⟩
def ZCl:Nat->J8->J4
 |_,[]=> []
 |i,d::ds=>(i,d)::ZCl (i+1) ds
def ZDj(os:J7):D->Option (D×J7)
 | .agg ds=>(Ya os ds).map λp=>(.agg (p.1.map .x),p.2)
 | .fn f []=>some (.fn f [],os)
 | .ptr id off=>some (.ptr id off,os)
 |d=>(Yi os d).map λp=>(.x p.1,p.2)
def ZGo(fz:Bool)(os:J7)(d:D):Option (D×J7):=if fz then ZDj os d else some (d,os)
def ZIH(fz:Bool)(S:Tab)(φ:J4)(os:J7):IRes->Option (Bool×D×J7)
 | .tmp t=>(ZGo fz os (get φ t).val).map λp=>((get φ t).cond,p.1,p.2)
 | .cell t n ag=>(ZS S φ os (.ld n ag (.t t))).bind λr=>(ZGo fz os r.2.val).map λp=>(r.1&&r.2.cond,p.1,p.2)
def QC(fz:Bool)(S:Tab)(φ:J4):J7->List IRes->Option (Bool×List D×J7)
 |os,[]=>some (true,[],os)
 |os,r::rs=>(ZIH fz S φ os r).bind λp=>(QC fz S φ p.2.2 rs).map λq=>(p.1&&q.1,p.2.1::q.2.1,q.2.2)
def mkR:J8->D
 | [d]=>d
 |ds=> .tup ds
def ZMf(E:Env)(os:J7)(b:Nat):Prop:= ∃(i:Nat) (o:Ob) (p:Nat×Value),os[i]? =some o/\E.ob[i]? =some p/\o.mb p b
def ZI(P:Program)(f:FuncId)(args:J8)(os:J7)(Post:D->J7->Prop):Prop:=
 ∀(c:Ctx) (E:Env) (vs:Array Value),Rel c E os->VL E os args vs->
  Calls P f vs E.w λe w'=> ∃v E' r os',e= .returned v/\E'.w=w'/\Rel c E' os'/\Evo E os E' os'/\V E' os' r v/\Post r os'
def ZTA(tmps:Array Value):ResultVar->Sem Value
 | .tmp t=>pure (tmps.getD t undef)
 | .cell x t=>do loadVar t (<-asAddr (tmps.getD x undef))
section
variable {P:Program} {E:Env} {os:J7} {c:Ctx} {n:Nat} {φ:J4} {a:Act}
theorem ZaV(ds:J8): ∀(i t:Nat),get (ZCl i ds) t=if i<=t then(ds[t-i]?).getD .und else .und:=by
 induction ds with
 |nil=>intro i t;simp[ZCl,get]
 |cons d ds ih=>
  intro i t;simp only[ZCl,get,ih];by_cases h:i=t
  .subst h;simp
  .by_cases h2:i<=t
   .have h3:i+1<=t:=by omega
    have h4:t-i=(t-(i+1))+1:=by omega
    simp[h,h2,h3,h4]
   .have h3: ¬(i+1<=t):=by omega
    simp[h,h2,h3]
theorem ZZj(R:Rel c E os){d:D}{v:Value}(hv:V E os d v){d':D}{os':J7}(h:ZDj os d=some (d',os')): ∃st',Rel c ⟨E.w,st',E.ob⟩ os'/\Evo E os ⟨E.w,st',E.ob⟩ os'/\V ⟨E.w,st',E.ob⟩ os' d' v:=by
 unfold ZDj at h;split at h
 .rename_i ds;obtain⟨⟨xs,os1⟩,h1,h⟩:=Zd h;cases h;cases hv with
  |agg vs hl h1' hvv=>
   obtain⟨st',R',e',k1,k2⟩:=ZBu (vs:=vs.toList) R (λj d v hd hv=>hvv j d v hd (by simpa using hv)) (by simp[hl]) h1;refine⟨st',R',e',.agg vs (by simp[k1]) h1' (λj d v hd hv'=> ?_)⟩;rw[YG]at hd;obtain⟨y,hy,rfl⟩:=Zd hd;exact .x (k2 j y v hy (by simpa using hv'))
 .cases h;exact⟨E.st,R,Evo.refl _ _,hv⟩
 .cases h;exact⟨E.st,R,Evo.refl _ _,hv⟩
 .obtain⟨⟨x,os1⟩,h1,h⟩:=Zd h;cases h;obtain⟨st',R',e',hx⟩:=ZKO R hv h1;exact⟨st',R',e',.x hx⟩
theorem ZUp{fz:Bool}(R:Rel c E os){d:D}{v:Value}(hv:V E os d v){d':D}{os':J7}(h:ZGo fz os d=some (d',os')): ∃st',Rel c ⟨E.w,st',E.ob⟩ os'/\Evo E os ⟨E.w,st',E.ob⟩ os'/\V ⟨E.w,st',E.ob⟩ os' d' v:=by
 unfold ZGo at h;split at h
 .exact ZZj R hv h
 .cases h;exact⟨E.st,R,Evo.refl _ _,hv⟩
theorem Zh1{S:Tab}(R:Rel c E os)(hf:Fr n E os φ a){t m tt:Nat}{ag:Bool}(hs:KO P tt=some m)(ha:ZF3 P tt=some ag){d:D}(h:ZS S φ os (.ld m ag (.t t))=some (true,d)):
  ∃v,(do loadVar tt (<-asAddr (a.tmps.getD t undef)):Sem Value).run P E.w= .ok v E.w/\V E os d v:=by
 have hx:V E os (ZF φ (.t t)) (a.tmps.getD t undef):=hf.slot t;obtain⟨v,h1,h2⟩:=ZYF (P:=P) R hs ha hx h;refine⟨v,?_,h2⟩;have hp: ∃ad,a.tmps.getD t undef= .pointer (some ad):=by
  generalize a.tmps.getD t undef=u at h1;cases u with
  |pointer ad=>
   cases ad with
   |some ad=>exact⟨ad,rfl⟩
   |none=>simp[Instr.loadAt,Instr.sureAddr,stuck,Sem.run,Result.andThen]at h1
  |_=>simp[Instr.loadAt,Instr.sureAddr,stuck,Sem.run,Result.andThen]at h1
 obtain⟨ad,had⟩:=hp;rw[had]at h1|-;simpa[Instr.loadAt,Instr.sureAddr,asAddr]using h1
theorem ZUW{fz:Bool}{S:Tab}: ∀ {rs:List ResultVar} {irs:List IRes} {E:Env} {os:J7},Rel c E os->Fr n E os φ a->rs.mapM (ZPV P)=some irs-> ∀ {ds:J8} {os':J7},QC fz S φ os irs=some (true,ds,os')->
  ∃(vs:List Value) (E':Env),E'.w=E.w/\Rel c E' os'/\Evo E os E' os'/\vs.length=ds.length/\(∀(j:Nat) (d:D) (v:Value),ds[j]? =some d->vs[j]? =some v->V E' os' d v)/\
   (rs.mapM (ZTA a.tmps)).run P E.w= .ok vs E.w
 | [],irs,E,os,R,hf,hm,ds,os',h=>by
  simp at hm;subst hm;cases h;exact⟨[],E,rfl,R,Evo.refl _ _,rfl,λj d v h=>by simp at h,J1⟩
 |r::rs,irs,E,os,R,hf,hm,ds,os',h=>by
  simp only[ZAL,Jr,JD,ZBA]at hm;obtain⟨ir,hir,irs',hirs,hm⟩:=hm;cases hm;simp only[QC,JD,ξm]at h;obtain⟨⟨ok,d,os1⟩,h1,⟨ok2,ds2,os2⟩,h2,h3⟩:=h;simp at h3;obtain⟨⟨rfl,rfl⟩,rfl,rfl⟩:=h3;have one: ∃v st',Rel c ⟨E.w,st',E.ob⟩ os1/\Evo E os ⟨E.w,st',E.ob⟩ os1/\V ⟨E.w,st',E.ob⟩ os1 d v/\(ZTA a.tmps r).run P E.w= .ok v E.w:=by
   cases r with
   |tmp t=>
    cases hir;simp only[ZIH,ξm]at h1;obtain⟨⟨d',os'⟩,h4,h5⟩:=h1;simp at h5;obtain⟨h5,rfl,rfl⟩:=h5;obtain⟨st',R',e',hv⟩:=ZUp R ((hf.slot t).strip h5) h4;exact⟨_,st',R',e',hv,rfl⟩
   |cell x t=>
    simp only[ZPV,JD,ξm]at hir;obtain⟨m,hm,ag,hag,rfl⟩:=hir;simp only[ZIH,JD,ξm]at h1;obtain⟨⟨ok1,d1⟩,h4,⟨d',os'⟩,h5,h6⟩:=h1;simp at h6;obtain⟨⟨rfl,h7⟩,rfl,rfl⟩:=h6;obtain⟨v,k1,k2⟩:=Zh1 (P:=P) R hf hm hag h4;obtain⟨st',R',e',hv⟩:=ZUp R (k2.strip h7) h5;exact⟨v,st',R',e',hv,k1⟩
  obtain⟨v,st',R1,e1,hv,hrun⟩:=one;obtain⟨vs,E',g1,g2,g3,g4,g5,g6⟩:=ZUW (E:=⟨E.w,st',E.ob⟩) R1 (hf.mono e1) hirs h2;refine⟨v::vs,E',g1,g2,e1.trans g3,by simp[g4],λj d0 v0 hd hv0=> ?_,?_⟩
  .cases j with
   |zero=>simp at hd hv0;subst hd;subst hv0;exact hv.mono g3
   |succ j=>exact g5 j d0 v0 (by simpa using hd) (by simpa using hv0)
  .rw[ZAL];simp only[Sem.run_bind,hrun,Result.andThen_ok,Sem.run_pure];simp only at g6;rw[g6];rfl
theorem ZZa{fz:Bool}{S:Tab}{f:FuncId}{fn:Func}{ifn:IFn}(hfn:P.funcs[f]? =some fn)(hc:ZFg P fn=some ifn)(args:J8)(hle:args.length<=ifn.n)(os:J7){Post:D->J7->Prop}
  (h: ∀(c:Ctx) (E0:Env),WI P c E0 os ifn.n ifn.body (λx φ' os'=>(x= .normal\/x= .ret)/\ ∃ds os2,QC fz S φ' os' ifn.res=some (true,ds,os2)/\Post (mkR ds) os2) (ZCl 0 args) os):ZI P f args os Post:=by
 intro c E vs R hvl;simp only[ZFg,JD,ξm]at hc;obtain⟨code,hb,ic,hic,irs,hirs,rfl⟩:=hc;simp only at h hle;refine calls_of_wp hfn hb ?_;have hsz:vs.size=args.length:=hvl.1.symm;have hf:Fr fn.ntmps E os (ZCl 0 args) {tmps:=vs++Array.replicate (fn.ntmps-vs.size) undef,defers:= []}:=by
  refine⟨by simp;omega,rfl,λt=> ?_⟩;rw[ZaV];simp only[KE,if_true,Nat.sub_zero];cases hd:args[t]? with
  |none=>exact .und _
  |some d=>
   have ht:=(Zb hd).1;have hv:vs[t]? =some vs[t]:=ξL J0;have:(vs++Array.replicate (fn.ntmps-vs.size) undef).getD t undef=vs[t]:=by
    rw[ZDp,Zba J0,hv];rfl
   rw[this];exact hvl.2 t d _ hd hv
 refine Code.wp_mono ?_ (h c E code hic E _ ⟨R,Evo.refl _ _⟩ hf);rintro e a' w' ⟨E',φ',os',rfl,hR,hf',hx,ds,os2,hret,hpost⟩;obtain⟨us,E2,g1,g2,g3,g4,g5,g6⟩:=ZUW (P:=P) hR.rel hf' hirs hret;have hres:(results fn a'.tmps).run P E'.w= .ok (if h:us.toArray.size=1 then us.toArray[0]else .tuple us.toArray) E'.w:=by
  have e:results fn a'.tmps=(do let vs<-fn.results.mapM (ZTA a'.tmps);pure (if h:vs.size=1 then vs[0]else .tuple vs)):=by
   unfold results;congr 1
  rw[e];simp[Array.mapM_eq_mapM_toList,g6]
 have hval:V E2 os2 (mkR ds) (if h:us.toArray.size=1 then us.toArray[0]else .tuple us.toArray):=by
  by_cases h1:us.length=1
  .obtain⟨u,rfl⟩:=List.length_eq_one_iff.1 h1;obtain⟨d,rfl⟩:=List.length_eq_one_iff.1 (show ds.length=1 by omega);exact g5 0 d u rfl rfl
  .rw[dif_neg (by simpa using h1)];have hne:mkR ds= .tup ds:=by
    unfold mkR;split
    .simp at g4;omega
    .rfl
   rw[hne];exact .tup _ (by simp[g4]) (λj d v hd hv=>g5 j d v hd (by simpa using hv))
 have post:a'.defers= []/\ ∃v,(results fn a'.tmps).run P E'.w= .ok v E'.w/\ ∃v' E'' r os'',Ending.returned v= .returned v'/\E''.w=E'.w/\Rel c E'' os''/\Evo E os E'' os''/\V E'' os'' r v'/\Post r os'':=
  ⟨hf'.defers,_,hres,_,E2,_,os2,rfl,g1,g2,hR.evo.trans g3,hval,hpost⟩
 rcases hx with rfl|rfl<;>exact post
def D.clean:D->Bool
 | .tup ds=>ds.all D.plain
 |d=>d.plain
theorem V.ofPlain{E':Env}{os':J7}{d:D}{v:Value}(h:V E os d v)(hp:d.plain=true)(hx: ∀x v,VX E.w E.st x v->VX E'.w E'.st x v):V E' os' d v:=by
 cases d with
 |x y=>exact .x (hx _ _ h.xx)
 |agg ds=>
  cases h with
  |agg vs hl h1 hv=>
   refine .agg vs hl h1 (λj d v hd hv'=> ?_);have hpd:=Yc.1 hp d (Yj hd);have hvd:=hv j d v hd hv';cases d with
   |x z=>exact .x (hx _ _ hvd.xx)
   |_=>cases hpd
 |fn f caps=>
  cases caps with
  |nil=>cases h with|fn vs hl hv=>exact .fn vs hl (λj d v hd=>by simp at hd)
  |cons c cs=>cases hp
 |_=>cases hp
theorem V.ofClean{E':Env}{os':J7}{d:D}{v:Value}(h:V E os d v)(hp:d.clean=true)(hx: ∀x v,VX E.w E.st x v->VX E'.w E'.st x v):V E' os' d v:=by
 cases d with
 |tup ds=>
  cases h with
  |tup vs hl hv=>exact .tup vs hl (λj d v hd hv'=>(hv j d v hd hv').ofPlain (Yc.1 hp d (Yj hd)) hx)
 |x y=>exact h.ofPlain hp hx
 |agg ds=>exact h.ofPlain hp hx
 |fn f caps=>exact h.ofPlain hp hx
 |_=>cases hp
theorem ZI.pure{f:FuncId}{args:J8}{r:D}(h:ZI P f args [] (λr' _=>r'=r))(hp:r.clean=true):ZC P f args r:=by
 intro w st vs hst hvl;have nofoot: ∀b,¬ZMf ⟨w,st,[]⟩ [] b:=λb ⟨i,o,p,h1,_⟩=>by simp at h1
 have R:Rel ⟨w,st,ZMf ⟨w,st,[]⟩ []⟩ ⟨w,st,[]⟩ []:=⟨rfl,λi o p h=>by simp at h,λi j o o' p p' b h=>by simp at h,λb off hb=>⟨hst b off hb,λi o p h=>by simp at h⟩,Kept.refl _ _,λi o p b h=>by simp at h,λb off hb=> .inl hb⟩;refine(h _ ⟨w,st,[]⟩ vs R hvl).mono ?_;rintro e w' ⟨v,E',r',os',rfl,rfl,R',ev,hv,rfl⟩;refine⟨v,E'.st,rfl,⟨R'.kept.os,R'.kept.tape,R'.kept.output,R'.kept.size,λk hk _=>R'.kept.block k hk (nofoot k)⟩,λb o hb=>(ev.st b o hb).1,λb o hb=> ?_,hv.ofClean hp (λx v hx=>hx)⟩;rcases R'.sto b o hb with h1|h1|h1
 .exact .inl h1
 .exact absurd h1 (nofoot b)
 .exact .inr ⟨h1,(R'.stm b o hb).1⟩
theorem ZI.mcalls{f:FuncId}{args:J8}{r:D}{os':J7}(h:ZI P f args os (λr' os2=>r'=r/\os2=os')):ZN P f args os r os':=by
 intro c E vs R hvl;refine(h c E vs R hvl).mono ?_;rintro e w' ⟨v,E',r',os2,rfl,rfl,R',ev,hv,rfl,rfl⟩;exact⟨v,E',rfl,rfl,R',ev,hv⟩
theorem enters{f:FuncId}{fn:Func}{ifn:IFn}(hfn:P.funcs[f]? =some fn)(hname:(fn.name== "runtime.NumGoroutine")=false)(hc:ZFg P fn=some ifn):Enters P f:=by
 intro args w;simp only[ZFg,JD]at hc;obtain⟨code,hb,_⟩:=hc;unfold callFunc;simp only[Sem.run_bind,run_program,Result.andThen_ok,hfn,hname,hb,Option.isNone_some,JP,if_false,Sem.run_pure]
end
section
variable {P:Program} {c:Ctx} {E E0:Env} {os os0:J7} {n:Nat} {Q:Exit->J4->J7->Prop} {φ:J4}
def QM(s:List UInt8)(pos:Nat):Nat×Nat:=Utf8.decode (ZZ s) pos
def IE.isNxt:IE->Bool
 | .nxt _ _=>true
 |_=>false
def NXT(x:Option IE):Prop:= ∀e,x=some e->IE.isNxt e=false
theorem NXT.none:NXT none:=λe h=>by cases h
theorem NXT.some{e:IE}(h:IE.isNxt e=false):NXT (some e):=λe' h'=>by cases h';exact h
theorem NXT.bind{α:Type}{x:Option α}{f:α->Option IE}(h: ∀y,NXT (f y)):NXT (x.bind f):=λe he=>by
 obtain⟨y,_,h2⟩:=Zp he;exact h y e h2
theorem NXT.bind'{α:Type}{x:Option α}{f:α->Option IE}(h: ∀y,NXT (f y)):NXT (x>>=f):=NXT.bind h
theorem NXT.map{α:Type}{x:Option α}{f:α->IE}(h: ∀y,IE.isNxt (f y)=false):NXT (x.map f):=λe he=>by
 obtain⟨y,_,rfl⟩:=Zd he;exact h y
def IE.isExt:IE->Bool
 | .ext _ _=>true
 |_=>false
def EXT(x:Option IE):Prop:= ∀e,x=some e->IE.isExt e=false
theorem EXT.none:EXT none:=λe h=>by cases h
theorem EXT.some{e:IE}(h:IE.isExt e=false):EXT (some e):=λe' h'=>by cases h';exact h
theorem EXT.bind{α:Type}{x:Option α}{f:α->Option IE}(h: ∀y,EXT (f y)):EXT (x.bind f):=λe he=>by
 obtain⟨y,_,h2⟩:=Zp he;exact h y e h2
theorem EXT.bind'{α:Type}{x:Option α}{f:α->Option IE}(h: ∀y,EXT (f y)):EXT (x>>=f):=EXT.bind h
theorem EXT.map{α:Type}{x:Option α}{f:α->IE}(h: ∀y,IE.isExt (f y)=false):EXT (x.map f):=λe he=>by
 obtain⟨y,_,rfl⟩:=Zd he;exact h y
theorem Ze1{P:Program}{op:Op}{st:Bool}{x:IO}(h:KC P op=some (.nxt st x)): ∃x',op= .next x' st/\ZW x'=some x:=by
 cases op<;>simp only[KC]at h<;>(try cases h)
 case next y b=>
  obtain⟨y',hy,h⟩:=Zp h;simp only[Ze,IE.nxt.injEq]at h;obtain⟨rfl,rfl⟩:=h;exact⟨y,rfl,hy⟩
 case makeFunc fn first caps=>
  exfalso;cases fn<;>simp only at h<;>(try cases h)
  split at h
  .obtain⟨_,_,h⟩:=Zp h;cases h
  .cases h
 all_goals
  exfalso;have hna:NXT (some (.nxt st x)):=by
   rw[<-h]
   repeat first|exact NXT.none|exact NXT.some rfl|(unfold ZBi)|(refine NXT.bind (λ_=> ?_))|(refine NXT.bind' (λ_=> ?_))|(refine NXT.map (λ_=>rfl))|split
  have:=hna _ rfl;cases this
theorem Zff{P:Program}{op:Op}{t i:Nat}(h:KC P op=some (.ext (.t t) i)):op= .extract (.tmp t) i:=by
 cases op<;>simp only[KC]at h<;>(try cases h)
 case extract y b=>
  obtain⟨y',hy,h⟩:=Zp h;simp only[Ze,IE.ext.injEq]at h;obtain⟨rfl,rfl⟩:=h;cases y with
  |tmp u=>simp only[ZW,Ze,IO.t.injEq]at hy;rw[hy]
  |const v=>simp[ZW]at hy
  |global g=>simp[ZW]at hy
  |func f=>simp[ZW]at hy
 case makeFunc fn first caps=>
  exfalso;cases fn<;>simp only at h<;>(try cases h)
  split at h
  .obtain⟨_,_,h⟩:=Zp h;cases h
  .cases h
 all_goals
  exfalso;have hna:EXT (some (.ext (.t t) i)):=by
   rw[<-h]
   repeat first|exact EXT.none|exact EXT.some rfl|(unfold ZBi)|(refine EXT.bind (λ_=> ?_))|(refine EXT.bind' (λ_=> ?_))|(refine EXT.map (λ_=>rfl))|split
  have:=hna _ rfl;cases this
theorem ZTJ{t:Nat}{st:Bool}{x:IO}{t2:Nat}{code:Code}(hc:Zj P n code=some (.reg [⟨some t,.nxt st x,none⟩,⟨some t2,.ext (.t t) 0,none⟩])):
  ∃id o1 o2 x',code= .region id #[o1,o2] false/\o1.dst=some t/\o1.guard=none/\o1.op= .next x' st/\ZW x'=some x/\t<n/\o2.dst=some t2/\o2.guard=none/\o2.op= .extract (.tmp t) 0/\t2<n:=by
 obtain⟨id,ops,rfl,h1⟩:=ZI3 hc;obtain⟨l⟩:=ops
 match l,h1 with
 | [],h1=>simp at h1
 | [_],h1=>simp[ZAL,JD]at h1
 |_::_::_::_,h1=>
  simp only[ZAL,Jr,JD,ZBA]at h1;obtain⟨_,_,_,⟨_,_,_,⟨_,_,_,_,h⟩,h'⟩,h1⟩:=h1;cases h;cases h';cases h1
 | [o1,o2],h1=>
  simp only[ZAL,ZPF,Jr,JD,ZBA]at h1;obtain⟨i1,h1,l1,⟨i2,h2,l2,h3,h4⟩,h5⟩:=h1;cases h3;cases h4;cases h5;simp only[JB,JD]at h1 h2;obtain⟨e1,c1,h1⟩:=h1;obtain⟨e2,c2,h2⟩:=h2;split at h1
  .rename_i d1;split at h2
   .rename_i d2;split at h1
    .rename_i g1;split at h2
     .rename_i g2;simp only[Ze,IOp.mk.injEq,and_true]at h1 h2;obtain⟨k1,rfl⟩:=h1;obtain⟨k2,rfl⟩:=h2;rw[k1]at d1;rw[k2]at d2;have hn:=Ze1 c1;have he:=Zff c2;obtain⟨x',hx1,hx2⟩:=hn;exact⟨id,o1,o2,x',rfl,k1,g1,hx1,hx2,by simpa using d1,k2,g2,he,by simpa using d2⟩
     .rename_i g2;simp only[ξm,IOp.mk.injEq]at h2;obtain⟨_,_,_,_,h⟩:=h2;cases h
    .simp only[ξm,IOp.mk.injEq]at h1;obtain⟨_,_,_,_,h⟩:=h1;cases h
   .cases h2
  .cases h1
theorem ZLp{id:Nat}{o1 o2:Oper}{x':Operand}{st:Bool}{t t2:Nat}{a:Act}{w w':World}{vs:Array Value}{b:Bool}{Q':Exit->Act->World->Prop}(d1:o1.dst=some t)(g1:o1.guard=none)(p1:o1.op= .next x' st)(d2:o2.dst=some t2)(g2:o2.guard=none)(p2:o2.op= .extract (.tmp t) 0)
  (ht:t<a.tmps.size) (hrun:(Instr.next (a.eval x') st o1.type).run P w= .ok (.tuple vs) w') (hv:vs[0]? =some (.bool b)) (h:Q' .normal ((a.put (some t) (.tuple vs)).put (some t2) (.bool b)) w'):(Code.region id #[o1,o2] false).wp P Q' a w:=by
 refine wp_region_list ?_;refine wpList_step λK hK=> ?_
 rw[if_pos (by simp[Region.wanted,g1])];unfold Oper.wp execOp;simp only[p1,Sem.run_bind,hrun,Result.andThen_ok,Sem.run_pure];rw[Oper.upon_value];refine hK _ _ ?_;refine wpList_step λK hK=> ?_
 rw[if_pos (by simp[Region.wanted,g2])];unfold Oper.wp execOp;have he:(a.put o1.dst (.tuple vs)).eval (.tmp t)= .tuple vs:=by
  rw[d1];simp[Act.eval,Act.put,ZDp,ht]
 simp only[p2,he,Instr.extract,hv,Sem.run_bind,Sem.run_pure,Result.andThen_ok];rw[Oper.upon_value];refine hK _ _ ?_;rw[d1,d2];exact h
variable {t t2 mid it:Nat} {x:IO}
theorem WI.nextS{m s:_}{pos:Nat}(ks:W0)(hx:(ZF φ x).val= .iref m it)(hcd:(ZF φ x).cond=true)(ho:os[it]? =some (.sit s pos))
  (hend: ¬pos<s.length->Q .normal (Go.Ab.keep ks (put (put φ t (.tup [.x (.bool false)])) t2 (.x (.bool false)))) os)
  (hgo:pos<s.length->Q .normal (Go.Ab.keep ks (put (put φ t (.tup [.x (.bool true),.x (.int .i64 pos),.x (.int .i32 (QM s pos).1)])) t2 (.x (.bool true)))) (os.set it (.sit s (pos+(QM s pos).2)))):
  WI P c E0 os0 n (.reg [⟨some t,.nxt true x,none⟩,⟨some t2,.ext (.t t) 0,none⟩]) Q φ os:=by
 intro code hc E a R hf;obtain⟨id,o1,o2,x',rfl,d1,g1,p1,hxo,ht,d2,g2,p2,ht2⟩:=ZTJ hc;have hv:=(V.op hf hxo).strip hcd;rw[hx]at hv;generalize hva:a.eval x'=va at hv;cases hv with
 |iref ho' hk hb=>
  obtain⟨p,hp,hok⟩:=R.rel.at ho;have hpb:p.1=_:=congrArg Prod.fst (ZCX (hp.symm.trans hb));simp only at hpb;subst hpb;have hblk:E.w.heap[p.1]? =some (.stringIter (ZZ s) pos):=hok;by_cases hlt:pos<s.length
  .have hset: ∀(o':Obj),(setObj p.1 o').run P E.w= .ok () {E.w with heap:=E.w.heap.setIfInBounds p.1 o'}:=λo'=>by simp[setObj,Sem.run,hblk]
   have hrun:(Instr.next (.pointer (some ⟨p.1,0,none⟩)) true o1.type).run P E.w= .ok (.tuple #[.bool true,.int .i64 pos,.int .i32 (QM s pos).1]) {E.w with heap:=E.w.heap.setIfInBounds p.1 (.stringIter (ZZ s) (pos+(QM s pos).2))}:=by
    have hl:pos<(ZZ s).size:=by rw[QP];exact hlt
    simp only[Instr.next,getObj,Sem.run_bind,Sem.run,hblk,Result.andThen,hl,if_true];have e:(Utf8.decode (ZZ s) pos)=QM s pos:=rfl;rw[e];simp only[hset,Sem.run_pure];rfl
   have hplt:p.1<E.w.heap.size:=(ξH hblk).1;obtain⟨R',ev⟩:=R.rel.set ho hp {E.w with heap:=E.w.heap.setIfInBounds p.1 (.stringIter (ZZ s) (pos+(QM s pos).2))} (.sit s (pos+(QM s pos).2)) p
    ⟨rfl,rfl,rfl,J1,λk _ hm=>by simp only[ZVk];rw[if_neg (show ¬p.1=k from hm)]⟩ (λb hb=> .inl hb) (λsz rs h=>by cases h) (λk h=>⟨rfl,h⟩) (λ_=>by
     show({E.w with heap:=_}:World).heap[p.1]? =_;simp[hplt])
   refine ZLp d1 g1 p1 d2 g2 p2 (by rw[hf.size];exact ht) (by rw[hva];exact hrun) rfl ?_;refine⟨_,_,_,rfl,⟨R',R.evo.trans ev⟩,?_,hgo hlt⟩;refine Fr.keep ?_ ks;refine Fr.put (Fr.put (hf.mono ev) ht ?_) ht2 (V.mkbool _ _ _);exact V.tup3 (V.mkbool _ _ _) (V.mkint _ _ _ _) (V.mkint _ _ _ _)
  .have hrun:(Instr.next (.pointer (some ⟨p.1,0,none⟩)) true o1.type).run P E.w= .ok (.tuple #[.bool false]) E.w:=by
    have hl: ¬pos<(ZZ s).size:=by rw[QP];exact hlt
    simp only[Instr.next,getObj,Sem.run_bind,Sem.run,hblk,Result.andThen,hl,if_false,Sem.run_pure]
   refine ZLp d1 g1 p1 d2 g2 p2 (by rw[hf.size];exact ht) (by rw[hva];exact hrun) rfl ?_;refine⟨E,_,_,rfl,R,?_,hend hlt⟩;refine Fr.keep ?_ ks;exact Fr.put (Fr.put hf ht (V.tup1 (V.mkbool _ _ _))) ht2 (V.mkbool _ _ _)
theorem ZNm: ∀ {L:List MapEntry} {i:Nat} {e:MapEntry},L[i]? =some e->(L.map (·.born)).Nodup->L.filter (λx=> !(x.born==e.born))=L.eraseIdx i
 | [],i,e,h,_=>by simp at h
 |x::L,0,e,h,hn=>by
  simp only[ZCF,Ze]at h;subst h;simp only[YO,ZBV]at hn;rw[ZIF];simp only[beq_self_eq_true,Bool.not_true,JP,if_false,List.eraseIdx_cons_zero];rw[List.filter_eq_self];intro y hy;simp only[ZHD,beq_eq_false_iff_ne,ne_eq];intro he;exact hn.1 (he▸YT.2 ⟨y,hy,rfl⟩)
 |x::L,i+1,e,h,hn=>by
  simp only[ZCD]at h;simp only[YO,ZBV]at hn;have hne:x.born≠e.born:=λhe=>hn.1 (he▸YT.2 ⟨e,Yj h,rfl⟩)
  rw[ZIF,if_pos (by simpa using hne),List.eraseIdx_cons_succ,ZNm h hn.2]
theorem ZX3(es:Array MapEntry)(seen:Array Nat){i:Nat}{e:MapEntry}(h:(leftOf es seen).toList[i]? =some e)(hn:(es.toList.map (·.born)).Nodup):(leftOf es (seen.push e.born)).toList=(leftOf es seen).toList.eraseIdx i:=by
 have h1:(leftOf es (seen.push e.born)).toList=(leftOf es seen).toList.filter (λx=> !(x.born==e.born)):=by
  unfold leftOf;rw[ZbI,ZbI,List.filter_filter];refine List.filter_congr λx _=> ?_
  rw[contains_push];cases seen.contains x.born<;>cases(x.born==e.born)<;>rfl
 rw[h1];refine ZNm h ?_;have:((leftOf es seen).toList.map (·.born)).Sublist (es.toList.map (·.born)):=by
  unfold leftOf;rw[ZbI];exact List.filter_sublist.map _
 exact this.nodup hn
theorem WI.nextM{dk:KK}{ag:Bool}{l R0:W2}{cur:Option Pr}(ks:W0)(hx:(ZF φ x).val= .iref mid it)(hcd:(ZF φ x).cond=true)(ho:os[mid]? =some (.mit dk ag l it R0 cur))
  (hend:R0= []->Q .normal (Go.Ab.keep ks (put (put φ t (.tup [.x (.bool false)])) t2 (.x (.bool false)))) os)
  (hgo: ∀(i:Nat) (q:Pr),R0[i]? =some q->Q .normal (Go.Ab.keep ks (put (put φ t .und) t2 (.x (.bool true)))) (os.set mid (.mit dk ag l it (R0.eraseIdx i) (some q)))):
  WI P c E0 os0 n (.reg [⟨some t,.nxt false x,none⟩,⟨some t2,.ext (.t t) 0,none⟩]) Q φ os:=by
 intro code hc E a R hf;obtain⟨id,o1,o2,x',rfl,d1,g1,p1,hxo,ht,d2,g2,p2,ht2⟩:=ZTJ hc;have hv:=(V.op hf hxo).strip hcd;rw[hx]at hv;generalize hva:a.eval x'=va at hv;cases hv with
 |iref ho' hk hb=>
  obtain⟨p,hp,hok⟩:=R.rel.at ho;have hok0:=hok;obtain⟨hMO,ib,cu,es,clk,since,seen,c0,o,k1,k2,k3,k4,k5,k6,k7,k8,k9,k10,k11⟩:=hok;have hib:ib=_:=congrArg Prod.fst (ZCX (k4.symm.trans hb));simp only at hib;subst hib;rcases run_next_at (P:=P) E.w o1.type ib p.1 since c0 seen es clk k5 k6 k7 k8.1 with⟨hz,hrun⟩|⟨e,he,w1,hw1,hrun⟩
  .have hR:R0= []:=by
    have h1:=k10.1;rw[QZ,hz]at h1;exact ξS h1.symm
   refine ZLp d1 g1 p1 d2 g2 p2 (by rw[hf.size];exact ht) (by rw[hva];exact hrun) rfl ?_;refine⟨E,_,_,rfl,R,?_,hend hR⟩;refine Fr.keep ?_ ks;exact Fr.put (Fr.put hf ht (V.tup1 (V.mkbool _ _ _))) ht2 (V.mkbool _ _ _)
  .obtain⟨i,hi⟩:=ZE7.1 he;have hil:i<R0.length:=by rw[<-k10.1];exact(Zb hi).1
   have hq:R0[i]? =some R0[i]:=YC hil;have hpo:=k10.2 i e _ hi hq;have hwh:w1.heap=E.w.heap/\w1.os=E.w.os/\w1.tape=E.w.tape/\w1.output=E.w.output:=by rcases hw1 with rfl|rfl<;>exact⟨rfl,rfl,rfl,rfl⟩
   have hibl:ib<E.w.heap.size:=(ξH k5).1;have hne:ib≠p.1:=λe=>by rw[e,k6]at k5;cases k5
   have hsb: ∀k,(ChangeMaps.setBlock w1 ib (.mapIter (some p.1) since (seen.push e.born) clk)).heap[k]? =if k=ib then some (.mapIter (some p.1) since (seen.push e.born) clk)else E.w.heap[k]? :=λk=>by
    simp only[ChangeMaps.setBlock,ZVk,hwh.1];by_cases h:ib=k
    .subst h;simp[hibl]
    .simp[h,Ne.symm h]
   obtain⟨R',ev⟩:=R.rel.set ho hp (ChangeMaps.setBlock w1 ib (.mapIter (some p.1) since (seen.push e.born) clk)) (.mit dk ag l it (R0.eraseIdx i) (some R0[i])) p
    ⟨hwh.2.1,hwh.2.2.1,hwh.2.2.2,by simp[ChangeMaps.setBlock,hwh.1],λk _ hm=>by rw[hsb,if_neg (λe=>hm (.inr (by rw[e];exact k1)))]⟩ (λb hb=> .inl hb) (λsz rs h=>by cases h) (λk h=>⟨rfl,h⟩) (λev=>by
     obtain⟨cu',o',q1,q2,q3⟩:=ev.bl _ _ _ _ _ k2 k3 k4;refine⟨hMO.mono ev (by rw[hsb,if_neg (Ne.symm hne)]),ib,cu',es,clk,since,seen.push e.born,clk,o',k1,q1,q2,q3,by rw[hsb,if_pos rfl],by rw[hsb,if_neg (Ne.symm hne)];exact k6,k7,⟨k8.2,k8.2⟩,k9,?_,λq hq=> ?_⟩
     .rw[ZX3 es seen hi k9];refine ZGL.mono ev ⟨?_,λj y q hy hq=> ?_⟩
      .rw[Zbz,Zbz,k10.1]
      .rw[List.getElem?_eraseIdx]at hy hq;split at hy
       .rename_i hj;rw[if_pos hj]at hq;exact k10.2 j y q hy hq
       .rename_i hj;rw[if_neg hj]at hq;exact k10.2 (j+1) y q hy hq
     .cases hq;exact⟨rfl,seen,e,rfl,(mem_left he).1,hpo.mono ev⟩)
   refine ZLp d1 g1 p1 d2 g2 p2 (by rw[hf.size];exact ht) (by rw[hva];exact hrun) rfl ?_;refine⟨_,_,_,rfl,⟨R',R.evo.trans ev⟩,?_,hgo i _ hq⟩;refine Fr.keep ?_ ks;exact Fr.put (Fr.put (hf.mono ev) ht (.und _)) ht2 (V.mkbool _ _ _)
end
mutual
def D.ren(f:Nat->Nat):D->D
 | .ref id a b c=> .ref (f id) a b c
 | .ptr id o=> .ptr (f id) o
 | .eptr id a b c=> .eptr (f id) a b c
 | .agg ds=> .agg (Zy f ds)
 | .tup ds=> .tup (Zy f ds)
 | .fn g caps=> .fn g (Zy f caps)
 | .opt b d=> .opt b (d.ren f)
 | .x y=> .x y
 | .vptr cs=> .vptr cs
 | .mref id=> .mref (f id)
 | .mnil=> .mnil
 | .iref mid id=> .iref (f mid) (f id)
 | .stk mid id=> .stk (f mid) (f id)
 | .bref id o l=> .bref (f id) o l
 | .full rs=> .full rs
 | .nz rs=> .nz rs
 | .und=> .und
def Zy(f:Nat->Nat):J8->J8
 | []=> []
 |d::l=>d.ren f::Zy f l
end
mutual
def D.inP(p:Nat->Bool):D->Bool
 | .ref id _ _ _=>p id
 | .ptr id _=>p id
 | .eptr id _ _ _=>p id
 | .agg ds=>Yr p ds
 | .tup ds=>Yr p ds
 | .fn _ caps=>Yr p caps
 | .opt _ d=>d.inP p
 | .x _=>true
 | .vptr _=>true
 | .mref id=>p id
 | .mnil=>true
 | .iref mid id=>p mid&&p id
 | .stk mid id=>p mid&&p id
 | .bref id _ _=>p id
 | .full _=>true
 | .nz _=>true
 | .und=>true
def Yr(p:Nat->Bool):J8->Bool
 | []=>true
 |d::l=>d.inP p&&Yr p l
end
def JZ(f:Nat->Nat)(q:Pr):Pr:=(q.1,Zy f q.2)
def ZAT(p:Nat->Bool)(q:Pr):Bool:=Yr p q.2
def Ob.ren(f:Nat->Nat):Ob->Ob
 | .box ds=> .box (Zy f ds)
 | .rows fz e sz rs=> .rows fz e sz rs
 | .drw e sz rs=> .drw e sz (rs.map (Zy f))
 | .frz sz rs=> .frz sz rs
 | .mpo dk ag l=> .mpo dk ag (l.map (JZ f))
 | .mit dk ag l it R cur=> .mit dk ag (l.map (JZ f)) (f it) (R.map (JZ f)) (cur.map (JZ f))
 | .mpn dk ag l key sid=> .mpn dk ag (l.map (JZ f)) key (f sid)
 | .itr=> .itr
 | .stp=> .stp
 | .nit=> .nit
 | .sit s pos=> .sit s pos
 | .old s n=> .old s n
 | .fam k P B=> .fam k P B
 | .dead=> .dead
def Ob.inP(p:Nat->Bool):Ob->Bool
 | .box ds=>Yr p ds
 | .drw _ _ rs=>rs.all (Yr p)
 | .mpo _ _ l=>l.all (ZAT p)
 | .mit _ _ l it R cur=>l.all (ZAT p)&&(p it&&(R.all (ZAT p)&&cur.all (ZAT p)))
 | .mpn _ _ l _ sid=>l.all (ZAT p)&&p sid
 |_=>true
theorem Kq(f:Nat->Nat): ∀l,Zy f l=l.map (D.ren f)
 | []=>rfl
 |d::l=>by simp[Zy,Kq f l]
theorem ZBC(p:Nat->Bool): ∀l,Yr p l=l.all (D.inP p)
 | []=>rfl
 |d::l=>by simp[Yr,ZBC p l]
structure EvoR (f:Nat->Nat) (p:Nat->Bool) (E:Env) (os:J7) (E':Env) (os':J7):Prop where
 st: ∀b o,E.st b o->E'.st b o/\E'.w.cell? ⟨b,o,none⟩=E.w.cell? ⟨b,o,none⟩
 bl: ∀(id b:Nat) (cu:Value) (o:Ob) (k:Kd),p id=true->os[id]? =some o->o.kd=some k->E.ob[id]? =some (b,cu)-> ∃cu' o',os'[f id]? =some o'/\o'.kd=some k/\E'.ob[f id]? =some (b,cu')
 rf: ∀(id:Nat) (o:Ob) (sz n:Nat),p id=true->os[id]? =some o->o.sl? =some (sz,n)->
  ∃o' n',os'[f id]? =some o'/\o'.sl? =some (sz,n')/\((n=n'/\E'.ob[f id]? =E.ob[id]?)\/n<n')
theorem V.monoR{f:Nat->Nat}{p:Nat->Bool}{E E':Env}{os os':J7}(e:EvoR f p E os E' os'){d:D}{v:Value}(h:V E os d v):d.inP p=true->V E' os' (d.ren f) v:=by
 have lst: ∀ {ds:J8} {vs:Array Value},(∀(j:Nat) (d:D) (v:Value),ds[j]? =some d->vs[j]? =some v->d.inP p=true->V E' os' (d.ren f) v)->Yr p ds=true-> ∀(j:Nat) (d:D) (v:Value),(Zy f ds)[j]? =some d->vs[j]? =some v->V E' os' d v:=by
  intro ds vs ih hp j d v hd hv;rw[Kq,YG]at hd;obtain⟨d0,h0,rfl⟩:=Zd hd;rw[ZBC]at hp;exact ih j d0 v h0 hv (Yc.1 hp d0 (Yj h0))
 induction h with
 |x h=>intro _;exact .x (h.mono e.st)
 |ref h h1=>
  intro hp;obtain⟨o,sz,rs,g1,g2,g3,g4⟩:=h;obtain⟨o',rs',k1,k2,k3⟩:=e.rf _ o sz rs hp g1 g2;refine .ref ⟨o',sz,rs',k1,k2,?_⟩ h1;rcases k3 with⟨k3,k4⟩|k3
  .refine⟨J0,λhl=> ?_⟩;obtain⟨h5,b,a,cap,a',cap',h6,h7⟩:=g4 J0;exact⟨h5,b,a,cap,a',cap',k4.trans h6,h7⟩
  .exact⟨J0,λhl=>absurd hl J0⟩
 |ptr ho h=>intro hp;obtain⟨cu',o',h1,h2,h3⟩:=e.bl _ _ _ _ .box hp ho rfl h;obtain⟨ds',rfl⟩:=Ob.kd_box h2;exact .ptr h1 h3
 |mref ho hk h=>intro hp;obtain⟨cu',o',h1,h2,h3⟩:=e.bl _ _ _ _ _ hp ho hk h;exact .mref h1 h2 h3
 |mnil=>intro _;exact .mnil
 |iref ho hk h=>intro hp;simp only[D.inP,ZT]at hp;obtain⟨cu',o',h1,h2,h3⟩:=e.bl _ _ _ _ _ hp.2 ho hk h;exact .iref h1 h2 h3
 |stk ho hk h=>intro hp;simp only[D.inP,ZT]at hp;obtain⟨cu',o',h1,h2,h3⟩:=e.bl _ _ _ _ _ hp.2 ho hk h;exact .stk h1 h2 h3
 |bref ho h hm=>intro hp;obtain⟨cu',o',h1,h2,h3⟩:=e.bl _ _ _ _ .box hp ho rfl h;obtain⟨ds',rfl⟩:=Ob.kd_box h2;exact .bref h1 h3 hm
 |eptr h h1=>
  intro hp;obtain⟨o,sz,rs,g1,g2,g3,g4⟩:=h;obtain⟨o',rs',k1,k2,k3⟩:=e.rf _ o sz rs hp g1 g2;refine .eptr ⟨o',sz,rs',k1,k2,?_⟩ h1;rcases k3 with⟨k3,k4⟩|k3
  .refine⟨J0,λhl=> ?_⟩;obtain⟨h5,b,g,cap,h6,h7⟩:=g4 J0;exact⟨h5,b,g,cap,k4.trans h6,h7⟩
  .exact⟨J0,λhl=>absurd hl J0⟩
 |vptr b off val hc hv=>intro _;exact .vptr b off val (λj x hj=>⟨(e.st _ _ (hc j x hj).1).1,by rw[(e.st _ _ (hc j x hj).1).2];exact(hc j x hj).2⟩) (λj x hj=>(hv j x hj).mono e.st)
 |agg vs hl h1 _ ih=>intro hp;exact .agg vs (by rw[Kq];simpa using hl) h1 (lst ih hp)
 |tup vs hl _ ih=>intro hp;exact .tup vs (by rw[Kq];simpa using hl) (lst ih hp)
 |full n h=>intro _;exact .full n (h.mono e.st)
 |nz h=>intro _;exact .nz (h.mono e.st)
 |fn vs hl _ ih=>intro hp;exact .fn vs (by rw[Kq];simpa using hl) (lst ih hp)
 |opt _ h' ih=>intro hp;exact .opt (λhb=>ih hb hp) h'
 |und v=>intro _;exact .und v
theorem Ob.ren_sl(f:Nat->Nat)(o:Ob):(o.ren f).sl? =o.sl? :=by cases o<;>simp[Ob.ren,Ob.sl?]
theorem Ob.ren_kd(f:Nat->Nat)(o:Ob):(o.ren f).kd=o.kd:=by cases o<;>rfl
theorem Ob.ren_mb(f:Nat->Nat)(o:Ob)(q:Nat×Value):(o.ren f).mb q=o.mb q:=by cases o<;>rfl
theorem VC.monoR{f:Nat->Nat}{p:Nat->Bool}{E E':Env}{os os':J7}(e:EvoR f p E os E' os'){ag:Bool}{ds:J8}{v:Value}(h:VC E os ag ds v)(hp:Yr p ds=true):VC E' os' ag (Zy f ds) v:=by
 obtain⟨h1,h2,h3⟩:=h;refine⟨?_,by rw[Kq];simpa using h2,λj d u hd hu=> ?_⟩
 .rw[Kq];cases ag with
  |true=>exact h1
  |false=>simp only[JP,if_false,Yb]at h1|-;exact h1
 .rw[Kq,YG]at hd;obtain⟨d0,h0,rfl⟩:=Zd hd;rw[ZBC]at hp;exact⟨(h3 j d0 u h0 hu).1.monoR e (Yc.1 hp d0 (Yj h0)),(h3 j d0 u h0 hu).2⟩
theorem YB.monoR{f:Nat->Nat}{p:Nat->Bool}{E E':Env}{os os':J7}(e:EvoR f p E os E' os'){b:Nat}{dk:KK}{ag:Bool}{l:W2}(hb:E'.w.heap[b]? =E.w.heap[b]?)(h:YB E os b dk ag l)(hp:l.all (ZAT p)=true):YB E' os' b dk ag (l.map (JZ f)):=by
 have key: ∀ {κ:Type} [DecidableEq κ] {mk:κ->Value} {kx:κ->J9},ZCC mk kx E os b ag l->ZCC mk kx E' os' b ag (l.map (JZ f)):=by
  intro κ _ mk kx ⟨l',h1,h2,h3⟩;refine⟨l',h1.keep hb,by simpa using h2,λi a q ha hq=> ?_⟩;rw[YG]at hq;obtain⟨q0,hq0,rfl⟩:=Zd hq;obtain⟨k1,k2⟩:=h3 i a q0 ha hq0;exact⟨k1,k2.monoR e (Yc.1 hp q0 (Yj hq0))⟩
 cases dk with
 |int k=>exact key h
 |str=>exact key h
 |st a b=>exact h.elim
theorem ZGL.monoR{f:Nat->Nat}{p:Nat->Bool}{E E':Env}{os os':J7}(e:EvoR f p E os E' os'){dk:KK}{ag:Bool}{L:List MapEntry}{R:W2}(h:ZGL E os dk ag L R)(hp:R.all (ZAT p)=true):ZGL E' os' dk ag L (R.map (JZ f)):=by
 refine⟨by simpa using h.1,λi x q hx hq=> ?_⟩;rw[YG]at hq;obtain⟨q0,hq0,rfl⟩:=Zd hq;obtain⟨k1,k2⟩:=h.2 i x q0 hx hq0;exact⟨k1,k2.monoR e (Yc.1 hp q0 (Yj hq0))⟩
theorem OK.monoR{f:Nat->Nat}{p:Nat->Bool}{E E':Env}{os os':J7}(e:EvoR f p E os E' os'){o:Ob}{q:Nat×Value}(hb: ∀b,o.mb q b->E'.w.heap[b]? =E.w.heap[b]?)(h:OK E os o q)(hp:o.inP p=true):OK E' os' (o.ren f) q:=by
 cases o with
 |box ds=>
  obtain⟨cs,ty,h1,h2,h3⟩:=h;refine⟨cs,ty,by rw[hb _ rfl];exact h1,by rw[Kq];simpa using h2,λj d v hd hv=> ?_⟩;rw[Kq,YG]at hd;obtain⟨d0,h0,rfl⟩:=Zd hd;simp only[Ob.inP,ZBC]at hp;exact⟨(h3 j d0 v h0 hv).1.monoR e (Yc.1 hp d0 (Yj h0)),(h3 j d0 v h0 hv).2⟩
 |rows fz el sz rs=>
  obtain⟨xs,h1,h2,h3⟩:=h;exact⟨xs,h1.kept hb,h2,λi r j x v hr hx hv=>(h3 i r j x v hr hx hv).mono e.st⟩
 |drw el sz rs=>
  obtain⟨xs,h1,h2,h3⟩:=h;refine⟨xs,by rw[Yb];exact h1.kept hb,λr hr=> ?_,λi r j d v hr hd hv=> ?_⟩
  .obtain⟨r0,h0,rfl⟩:=YT.1 hr;rw[Kq,Yb];exact h2 r0 h0
  .rw[YG]at hr;obtain⟨r0,h0,rfl⟩:=Zd hr;rw[Kq,YG]at hd;obtain⟨d0,hd0,rfl⟩:=Zd hd;have hp':=Yc.1 hp r0 (Yj h0);rw[ZBC]at hp';exact⟨(h3 i r0 j d0 v h0 hd0 hv).1.monoR e (Yc.1 hp' d0 (Yj hd0)),(h3 i r0 j d0 v h0 hd0 hv).2⟩
 |frz sz rs=>exact⟨h.1.mono e.st,h.2⟩
 |mpo dk ag l=>exact YB.monoR e (hb _ rfl) h hp
 |mit dk ag l it R cur=>
  simp only[Ob.inP,ZT]at hp;obtain⟨hp1,hp2,hp3,hp4⟩:=hp;refine⟨YB.monoR e (hb _ (.inl rfl)) h.1 hp1,?_⟩;obtain⟨_,ib,cu,es,clk,since,seen,c0,o,h1,h2,h3,h4,h5,h6,h7,h8,h9,h10,h11⟩:=h;obtain⟨cu',o',k1,k2,k3⟩:=e.bl _ _ _ _ _ hp2 h2 h3 h4;refine⟨ib,cu',es,clk,since,seen,c0,o',h1,k1,k2,k3,by rw[hb ib (.inr h1)];exact h5,by rw[hb _ (.inl rfl)];exact h6,h7,h8,h9,h10.monoR e hp3,λq hq=> ?_⟩;obtain⟨q0,hq0,rfl⟩:=Zd hq;obtain⟨g1,s',x,g2,g3,g4⟩:=h11 q0 hq0;subst hq0;exact⟨g1,s',x,g2,g3,g4.1,g4.2.monoR e hp4⟩
 |mpn dk ag l key sid=>
  simp only[Ob.inP,ZT]at hp;refine⟨YB.monoR e (hb _ rfl) h.1 hp.1,?_⟩;obtain⟨_,n,cu,o,es,clk,x,h1,h2,h3,h4,h5⟩:=h;obtain⟨cu',o',k1,k2,k3⟩:=e.bl _ _ _ _ _ hp.2 h1 h2 h3;exact⟨n,cu',o',es,clk,x,k1,k2,k3,by rw[hb _ rfl];exact h4,h5⟩
 |sit s pos=>show E'.w.heap[q.1]? =_;rw[hb _ rfl];exact h
 |nit=>obtain⟨a,s,b,h⟩:=h;exact⟨a,s,b,by rw[hb _ rfl];exact h⟩
 |itr=>trivial
 |stp=>trivial
 |old _ _=>trivial
 |fam _ _ _=>exact h.imp λos' h=>h.imp λob' h=>⟨h.1,h.2.mono e.st hb⟩
 |dead=>trivial
def inv:W0->Nat->Nat
 | [],_=>0
 |r::l,i=>if i=r then 0 else inv l i+1
def KS:J7->W0->J7->J7
 |OS,r::ρ,o::os=>KS (OS.set r o) ρ os
 |OS,_,_=>OS
def ZC3:List (Nat×Value)->W0->List (Nat×Value)->List (Nat×Value)
 |l,r::ρ,o::os=>ZC3 (l.set r o) ρ os
 |l,_,_=>l
theorem ZGf: ∀ {ρ:W0} {i:Nat},i∈ρ->ρ[inv ρ i]? =some i
 |r::l,i,h=>by
  simp only[inv];split
  .rename_i h1;subst h1;rfl
  .rename_i h1;simp only[ZCD];exact ZGf (by simpa[h1]using h)
theorem ZLi: ∀ {ρ:W0},ρ.Nodup-> ∀ {i r:Nat},ρ[i]? =some r->inv ρ r=i
 | [],_,i,r,h=>by simp at h
 |q::l,hn,i,r,h=>by
  rw[ZBV]at hn;cases i with
  |zero=>simp at h;subst h;simp[inv]
  |succ i=>
   have h':l[i]? =some r:=by simpa using h
   have:r∈l:=Yj h';have hne:r≠q:=λe=>hn.1 (e▸this)
   simp only[inv,hne,if_false,ZLi hn.2 h']
theorem ZKS: ∀(ρ:W0) (os OS:J7),(KS OS ρ os).length=OS.length
 | [],os,OS=>by cases os<;>rfl
 |r::ρ,[],OS=>rfl
 |r::ρ,o::os,OS=>by simp only[KS];rw[ZKS ρ os];simp
theorem ZKB: ∀(ρ:W0) (os OS:J7) (j:Nat),j∉ρ->(KS OS ρ os)[j]? =OS[j]?
 | [],os,OS,j,_=>by cases os<;>rfl
 |r::ρ,[],OS,j,_=>rfl
 |r::ρ,o::os,OS,j,h=>by
  simp only[KS];rw[ZKB ρ os _ j (λhm=>h (by simp[hm])),ZD1 (λe=>h (by simp[e]))]
theorem ZQ4: ∀(ρ:W0) (os OS:J7),ρ.Nodup->(∀r∈ρ,r<OS.length)-> ∀(i r:Nat) (o:Ob),ρ[i]? =some r->os[i]? =some o->(KS OS ρ os)[r]? =some o
 | [],os,OS,_,_,i,r,o,h,_=>by simp at h
 |q::ρ,[],OS,_,_,i,r,o,_,h=>by simp at h
 |q::ρ,x::os,OS,hn,hl,i,r,o,h,ho=>by
  rw[ZBV]at hn;simp only[KS];cases i with
  |zero=>
   simp at h ho;subst h;subst ho;rw[ZKB ρ os _ _ hn.1,ZE8 (hl _ J1)]
  |succ i=>exact ZQ4 ρ os _ hn.2 (λr hr=>by simp;exact hl r (by simp[hr])) i r o (by simpa using h) (by simpa using ho)
theorem ZIm: ∀(ρ:W0) (os OS:List (Nat×Value)),(ZC3 OS ρ os).length=OS.length
 | [],os,OS=>by cases os<;>rfl
 |r::ρ,[],OS=>rfl
 |r::ρ,o::os,OS=>by simp only[ZC3];rw[ZIm ρ os];simp
theorem ZIJ: ∀(ρ:W0) (os OS:List (Nat×Value)) (j:Nat),j∉ρ->(ZC3 OS ρ os)[j]? =OS[j]?
 | [],os,OS,j,_=>by cases os<;>rfl
 |r::ρ,[],OS,j,_=>rfl
 |r::ρ,o::os,OS,j,h=>by
  simp only[ZC3];rw[ZIJ ρ os _ j (λhm=>h (by simp[hm])),ZD1 (λe=>h (by simp[e]))]
theorem ZN9: ∀(ρ:W0) (os OS:List (Nat×Value)),ρ.Nodup->(∀r∈ρ,r<OS.length)-> ∀(i r:Nat) (o:Nat×Value),ρ[i]? =some r->os[i]? =some o->(ZC3 OS ρ os)[r]? =some o
 | [],os,OS,_,_,i,r,o,h,_=>by simp at h
 |q::ρ,[],OS,_,_,i,r,o,_,h=>by simp at h
 |q::ρ,x::os,OS,hn,hl,i,r,o,h,ho=>by
  rw[ZBV]at hn;simp only[ZC3];cases i with
  |zero=>
   simp at h ho;subst h;subst ho;rw[ZIJ ρ os _ _ hn.1,ZE8 (hl _ J1)]
  |succ i=>exact ZN9 ρ os _ hn.2 (λr hr=>by simp;exact hl r (by simp[hr])) i r o (by simpa using h) (by simpa using ho)
def YW(ρ:W0)(OS:J7):J7:=ρ.map λr=>(OS.getD r .dead).ren (inv ρ)
def fpE(ρ:W0)(E:Env):Env:=⟨E.w,E.st,ρ.map λr=>E.ob.getD r (0,undef)⟩
def KQ(ρ:W0)(n _:Nat)(i:Nat):Nat:=if i<ρ.length then ρ.getD i 0 else n+(i-ρ.length)
def Ko(ρ:W0)(OS os':J7):J7:=KS OS ρ (os'.map (Ob.ren (KQ ρ OS.length os'.length)))++(os'.map (Ob.ren (KQ ρ OS.length os'.length))).drop ρ.length
def ZIL(ρ:W0)(E E1:Env):Env:=⟨E1.w,E1.st,ZC3 E.ob ρ E1.ob++E1.ob.drop ρ.length⟩
theorem inP_true: ∀d:D,d.inP (λ_=>true)=true:=by
 intro d;refine D.rec (motive_1:=λd=>d.inP (λ_=>true)=true) (motive_2:=λl=>Yr (λ_=>true) l=true) ?_ ?_ ?_ ?_ ?_ ?_ ?_ ?_ ?_ ?_ ?_ ?_ ?_ ?_ ?_ ?_ ?_ ?_ ?_ d
 all_goals intros
 all_goals first|rfl|(simp only[D.inP,Yr];simp_all)
theorem ZFm(q:Pr):ZAT (λ_=>true) q=true:=by
 simp only[ZAT,ZBC];exact Yc.2 (λd _=>inP_true d)
theorem Ob.inP_true(o:Ob):o.inP (λ_=>true)=true:=by
 cases o with
 |box ds=>simp only[Ob.inP,ZBC];exact Yc.2 (λd _=>Go.Ab.inP_true d)
 |drw e sz rs=>exact Yc.2 (λr _=>by rw[ZBC];exact Yc.2 (λd _=>Go.Ab.inP_true d))
 |mpo dk ag l=>exact Yc.2 (λq _=>ZFm q)
 |mit dk ag l it R cur=>
  simp only[Ob.inP,ZT];exact⟨Yc.2 (λq _=>ZFm q),trivial,Yc.2 (λq _=>ZFm q),by cases cur with|none=>rfl|some q=>exact ZFm q⟩
 |mpn dk ag l key sid=>
  simp only[Ob.inP,ZT];exact⟨Yc.2 (λq _=>ZFm q),trivial⟩
 |_=>rfl
section
variable {c:Ctx} {E:Env} {OS:J7} {ρ:W0}
theorem ZKN(R:Rel c E OS)(hlt: ∀r∈ρ,r<OS.length){i:Nat}{o:Ob}(h:(YW ρ OS)[i]? =some o): ∃r o0 p,ρ[i]? =some r/\OS[r]? =some o0/\o=o0.ren (inv ρ)/\E.ob[r]? =some p/\(fpE ρ E).ob[i]? =some p:=by
 simp only[YW,YG,ξm]at h;obtain⟨r,hr,rfl⟩:=h;have hl:=hlt r (Yj hr);have hob:E.ob[r]? =some (E.ob[r]'(by rw[R.len];exact hl)):=YC _;refine⟨r,OS[r]'hl,_,hr,YC hl,by simp[List.getD,hl],hob,?_⟩;simp only[fpE,YG,hr,Yl,List.getD,hob,ξW]
theorem ZLc(R:Rel c E OS)(_: ∀r∈ρ,r<OS.length):EvoR (inv ρ) (λi=>Zq i ρ) E OS (fpE ρ E) (YW ρ OS):=by
 have key: ∀id o,Zq id ρ=true->OS[id]? =some o->(YW ρ OS)[inv ρ id]? =some (o.ren (inv ρ))/\(fpE ρ E).ob[inv ρ id]? =E.ob[id]? :=by
  intro id o hp ho;have hr:=ZGf (ZBp.1 hp);have hl:=(Zb ho).1;have hob:E.ob[id]? =some (E.ob[id]'(by rw[R.len];exact hl)):=YC _;refine⟨by simp only[YW,YG,hr,Yl,List.getD,ho,ξW],by simp only[fpE,YG,hr,Yl,List.getD,hob,ξW]⟩
 refine⟨λb o h=>⟨h,rfl⟩,λid b cu ds k hp ho hkd hb=> ?_,λid o sz rs hp ho hs=> ?_⟩
 .obtain⟨k1,k2⟩:=key id _ hp ho;exact⟨cu,_,k1,by rw[Ob.ren_kd];exact hkd,k2.trans hb⟩
 .obtain⟨k1,k2⟩:=key id _ hp ho;exact⟨_,rs,k1,by rw[Ob.ren_sl];exact hs,.inl ⟨rfl,k2⟩⟩
theorem ZZI(R:Rel c E OS)(hn:ρ.Nodup)(hlt: ∀r∈ρ,r<OS.length)(hcl: ∀r∈ρ,(OS.getD r .dead).inP (λi=>Zq i ρ)=true):Rel ⟨E.w,E.st,ZMf (fpE ρ E) (YW ρ OS)⟩ (fpE ρ E) (YW ρ OS):=by
 have ev:=ZLc R hlt;refine⟨by simp[fpE,YW],λi o p h1 h2=> ?_,λi j o o' p p' b h1 h2 h3 h4 h5 h6=> ?_,λb off hs=>⟨(R.stm b off hs).1,λi o p h1 h2 h3=> ?_⟩,Kept.refl _ _,λi o p b h1 h2 h3=> .inl ⟨i,o,p,h1,h2,h3⟩,λb off hs=> .inl hs⟩
 .obtain⟨r,o0,p0,k1,k2,rfl,k4,k5⟩:=ZKN R hlt h1;rw[h2]at k5;cases k5;have:=hcl r (Yj k1);simp only[List.getD,k2,ξW]at this;exact(R.ok r o0 p k2 k4).monoR ev (λ_ _=>rfl) this
 .obtain⟨r,o0,p0,k1,k2,rfl,k4,k5⟩:=ZKN R hlt h1;obtain⟨r',o0',p0',k1',k2',rfl,k4',k5'⟩:=ZKN R hlt h3;rw[h2]at k5;cases k5;rw[h4]at k5';cases k5';rw[Ob.ren_mb]at h5 h6;have:=R.dis r r' o0 o0' p p' b k2 k4 k2' k4' h5 h6;subst this;rw[<-ZLi hn k1,<-ZLi hn k1']
 .obtain⟨r,o0,p0,k1,k2,rfl,k4,k5⟩:=ZKN R hlt h1;rw[h2]at k5;cases k5;rw[Ob.ren_mb]at h3;exact(R.stm b off hs).2 r o0 p k2 k4 h3
theorem ZMm(R:Rel c E OS)(hlt: ∀r∈ρ,r<OS.length){j:Nat}{o:Ob}{p:Nat×Value}{b:Nat}(ho:OS[j]? =some o)(hp:E.ob[j]? =some p)(hj:j∉ρ)(hb:o.mb p b): ¬ZMf (fpE ρ E) (YW ρ OS) b:=by
 rintro⟨i,o1,p1,h1,h2,h3⟩;obtain⟨r,o0,p0,k1,k2,rfl,k4,k5⟩:=ZKN R hlt h1;rw[h2]at k5;cases k5;rw[Ob.ren_mb]at h3;have:=R.dis j r o o0 p p1 b ho hp k2 k4 hb h3;subst this;exact hj (Yj k1)
theorem ZPB(R:Rel c E OS)(hlt: ∀r∈ρ,r<OS.length){b:Nat}(h:ZMf (fpE ρ E) (YW ρ OS) b):(c.M b\/c.w0.heap.size<=b)/\b<E.w.heap.size:=by
 obtain⟨i,o1,p1,h1,h2,h3⟩:=h;obtain⟨r,o0,p0,k1,k2,rfl,k4,k5⟩:=ZKN R hlt h1;rw[h2]at k5;cases k5;rw[Ob.ren_mb]at h3;exact⟨R.mbs r o0 p1 b k2 k4 h3,(R.ok r o0 p1 k2 k4).lt h3⟩
theorem Zeb(R:Rel c E OS)(hn:ρ.Nodup)(hlt: ∀r∈ρ,r<OS.length){E1:Env}{os':J7}(R1:Rel ⟨E.w,E.st,ZMf (fpE ρ E) (YW ρ OS)⟩ E1 os')(ev:Evo (fpE ρ E) (YW ρ OS) E1 os')(hk:ρ.length<=os'.length):
  Rel c (ZIL ρ E E1) (Ko ρ OS os')/\Evo E OS (ZIL ρ E E1) (Ko ρ OS os')/\ ∀d v,V E1 os' d v->V (ZIL ρ E E1) (Ko ρ OS os') (d.ren (KQ ρ OS.length os'.length)) v:=by
 have hlE:(ZC3 E.ob ρ E1.ob).length=OS.length:=by rw[ZIm,R.len]
 have hlO:(KS OS ρ (os'.map (Ob.ren (KQ ρ OS.length os'.length)))).length=OS.length:=ZKS _ _ _;have hltE: ∀r∈ρ,r<E.ob.length:=λr hr=>by rw[R.len];exact hlt r hr
 have cal: ∀i o',os'[i]? =some o'->(Ko ρ OS os')[KQ ρ OS.length os'.length i]? =some (o'.ren (KQ ρ OS.length os'.length))/\(ZIL ρ E E1).ob[KQ ρ OS.length os'.length i]? =E1.ob[i]? :=by
  intro i o' ho;have hi:=(Zb ho).1;have hpe:E1.ob[i]? =some (E1.ob[i]'(by rw[R1.len];exact hi)):=YC _;have hom:(os'.map (Ob.ren (KQ ρ OS.length os'.length)))[i]? =some (o'.ren (KQ ρ OS.length os'.length)):=by rw[YG,ho];rfl
  by_cases h:i<ρ.length
  .have hr:ρ[i]? =some (ρ[i]'h):=YC h;have hf:KQ ρ OS.length os'.length i=ρ[i]'h:=by simp[KQ,h,List.getD]
   have hrl:=hlt _ (YM h);rw[hf];refine⟨?_,?_⟩
   .show(_++_)[_]? =_;rw[Ym (by rw[hlO];exact hrl)];exact ZQ4 ρ _ OS hn hlt i _ _ hr hom
   .show(_++_)[_]? =_;rw[Ym (by rw[hlE];exact hrl),hpe];exact ZN9 ρ _ E.ob hn hltE i _ _ hr hpe
  .have hf:KQ ρ OS.length os'.length i=OS.length+(i-ρ.length):=by simp[KQ,h]
   rw[hf];refine⟨?_,?_⟩
   .show(_++_)[_]? =_;rw[Qe (by rw[hlO];omega),hlO,ξX,show ρ.length+(OS.length+(i-ρ.length)-OS.length)=i by omega];exact hom
   .show(_++_)[_]? =_;rw[Qe (by rw[hlE];omega),hlE,ξX,show ρ.length+(OS.length+(i-ρ.length)-OS.length)=i by omega]
 have out: ∀j,j<OS.length->j∉ρ->(Ko ρ OS os')[j]? =OS[j]? /\(ZIL ρ E E1).ob[j]? =E.ob[j]? :=by
  intro j hj hm;refine⟨?_,?_⟩
  .show(_++_)[_]? =_;rw[Ym (by rw[hlO];exact hj),ZKB ρ _ OS j hm]
  .show(_++_)[_]? =_;rw[Ym (by rw[hlE];exact hj),ZIJ ρ _ E.ob j hm]
 have hlen:(Ko ρ OS os').length=OS.length+(os'.length-ρ.length):=by
  simp only[Ko,Zg,hlO];simp
 have cls: ∀j o p,(Ko ρ OS os')[j]? =some o->(ZIL ρ E E1).ob[j]? =some p->(j∉ρ/\OS[j]? =some o/\E.ob[j]? =some p)\/ ∃i o',os'[i]? =some o'/\E1.ob[i]? =some p/\o=o'.ren (KQ ρ OS.length os'.length)/\j=KQ ρ OS.length os'.length i:=by
  intro j o p ho hp;have hj:=(Zb ho).1;rw[hlen]at hj;by_cases hjl:j<OS.length
  .by_cases hm:j∈ρ
   .have hr:=ZGf hm;have hi:=(Zb hr).1;have hio:os'[inv ρ j]? =some (os'[inv ρ j]' J0):=YC _;have hf:KQ ρ OS.length os'.length (inv ρ j)=j:=by
     simp only[KQ,hi,if_true,List.getD,hr,ξW]
    obtain⟨k1,k2⟩:=cal _ _ hio;rw[hf]at k1 k2;rw[ho]at k1;cases k1;rw[hp]at k2;exact .inr ⟨_,_,hio,k2.symm,rfl,hf.symm⟩
   .obtain⟨k1,k2⟩:=out j hjl hm;rw[k1]at ho;rw[k2]at hp;exact .inl ⟨hm,ho,hp⟩
  .have hio:os'[j-OS.length+ρ.length]? =some (os'[j-OS.length+ρ.length]' J0):=YC _;have hf:KQ ρ OS.length os'.length (j-OS.length+ρ.length)=j:=by
    have: ¬(j-OS.length+ρ.length<ρ.length):=by omega
    simp only[KQ,this,if_false];omega
   obtain⟨k1,k2⟩:=cal _ _ hio;rw[hf]at k1 k2;rw[ho]at k1;cases k1;rw[hp]at k2;exact .inr ⟨_,_,hio,k2.symm,rfl,hf.symm⟩
 have evr:EvoR (KQ ρ OS.length os'.length) (λ_=>true) E1 os' (ZIL ρ E E1) (Ko ρ OS os'):=by
  refine⟨λb o h=>⟨h,rfl⟩,λid b cu ds k _ ho hkd hb=> ?_,λid o sz rs _ ho hs=> ?_⟩
  .obtain⟨k1,k2⟩:=cal id _ ho;exact⟨cu,_,k1,by rw[Ob.ren_kd];exact hkd,k2.trans hb⟩
  .obtain⟨k1,k2⟩:=cal id _ ho;exact⟨_,rs,k1,by rw[Ob.ren_sl];exact hs,.inl ⟨rfl,k2⟩⟩
 have hkept:Kept (ZMf (fpE ρ E) (YW ρ OS)) E.w E1.w:=R1.kept;have evo:Evo E OS (ZIL ρ E E1) (Ko ρ OS os'):=by
  have fpat: ∀r o,r∈ρ->OS[r]? =some o->(YW ρ OS)[inv ρ r]? =some (o.ren (inv ρ))/\(fpE ρ E).ob[inv ρ r]? =E.ob[r]? /\KQ ρ OS.length os'.length (inv ρ r)=r:=by
   intro r o hr ho;have hg:=ZGf hr;have hi:=(Zb hg).1;have hl:=hlt r hr;have hob:E.ob[r]? =some (E.ob[r]'(by rw[R.len];exact hl)):=YC _;exact⟨by simp only[YW,YG,hg,Yl,List.getD,ho,ξW],by simp only[fpE,YG,hg,Yl,List.getD,hob,ξW],by simp only[KQ,hi,if_true,List.getD,hg,ξW]⟩
  refine⟨λb o h=>ev.st b o h,λid b cu ds k ho hkd hb=> ?_,λid o sz rs ho hs=> ?_⟩
  .by_cases hm:id∈ρ
   .obtain⟨k1,k2,k3⟩:=fpat id _ hm ho;obtain⟨cu',ds',g1,gk,g2⟩:=ev.bl (inv ρ id) b cu _ k k1 (by rw[Ob.ren_kd];exact hkd) (k2.trans hb);obtain⟨w1,w2⟩:=cal _ _ g1;rw[k3]at w1 w2;exact⟨cu',_,w1,by rw[Ob.ren_kd];exact gk,w2.trans g2⟩
   .obtain⟨k1,k2⟩:=out id (Zb ho).1 hm;exact⟨cu,ds,k1.trans ho,hkd,k2.trans hb⟩
  .by_cases hm:id∈ρ
   .obtain⟨k1,k2,k3⟩:=fpat id _ hm ho;obtain⟨o',rs',g1,g2,g3⟩:=ev.rf (inv ρ id) _ sz rs k1 (by rw[Ob.ren_sl];exact hs);obtain⟨w1,w2⟩:=cal _ _ g1;rw[k3]at w1 w2;refine⟨_,rs',w1,by rw[Ob.ren_sl];exact g2,?_⟩;rcases g3 with⟨g3,g4⟩|g3
    .exact .inl ⟨g3,w2.trans (g4.trans k2)⟩
    .exact .inr g3
   .obtain⟨k1,k2⟩:=out id (Zb ho).1 hm;exact⟨o,rs,k1.trans ho,hs,.inl ⟨rfl,k2⟩⟩
 refine⟨⟨?_,λj o p ho hp=> ?_,λi j o o' p p' b h1 h2 h3 h4 h5 h6=> ?_,λb off hs=>⟨(R1.stm b off hs).1,λj o p ho hp hb=> ?_⟩,?_,λj o p b ho hp hb=> ?_,λb off hs=> ?_⟩,evo,λd v hv=>hv.monoR evr (inP_true d)⟩
 .rw[hlen];simp only[ZIL,Zg,hlE];simp[R1.len]
 .rcases cls j o p ho hp with⟨k0,k1,k2⟩|⟨i,o',k1,k2,rfl,k4⟩
  .refine(R.ok j o p k1 k2).mono evo (λb hb=> ?_);exact hkept.block b ((R.ok j o p k1 k2).lt hb) (ZMm R hlt k1 k2 k0 hb)
  .exact(R1.ok i o' p k1 k2).monoR evr (λ_ _=>rfl) (Ob.inP_true o')
 .have mixed: ∀(i:Nat) (o:Ob) (p:Nat×Value),i∉ρ->OS[i]? =some o->E.ob[i]? =some p->o.mb p b-> ∀(q:Nat) (o':Ob) (p':Nat×Value),os'[q]? =some o'->E1.ob[q]? =some p'->o'.mb p' b->False:=by
   intro i o p k0 k1 k2 hb q o' p' k3 k4 hb';rcases R1.mbs q o' p' b k3 k4 hb' with h|h
   .exact ZMm R hlt k1 k2 k0 hb h
   .have:=(R.ok i o p k1 k2).lt hb;simp only at h;omega
  rcases cls i o p h1 h2 with⟨k0,k1,k2⟩|⟨q,o1,k1,k2,rfl,rfl⟩<;>rcases cls j o' p' h3 h4 with⟨g0,g1,g2⟩|⟨q',o2,g1,g2,rfl,rfl⟩
  .exact R.dis i j o o' p p' b k1 k2 g1 g2 h5 h6
  .rw[Ob.ren_mb]at h6;exact(mixed i o p k0 k1 k2 h5 q' o2 p' g1 g2 h6).elim
  .rw[Ob.ren_mb]at h5;exact(mixed j o' p' g0 g1 g2 h6 q o1 p k1 k2 h5).elim
  .rw[Ob.ren_mb]at h5 h6;rw[R1.dis q q' o1 o2 p p' b k1 k2 g1 g2 h5 h6]
 .rcases cls j o p ho hp with⟨k0,k1,k2⟩|⟨i,o',k1,k2,rfl,k4⟩
  .rcases R1.sto b off hs with h|h|h
   .exact(R.stm b off h).2 j o p k1 k2 hb
   .exact ZMm R hlt k1 k2 k0 hb h
   .have:=(R.ok j o p k1 k2).lt hb;simp only at h;omega
  .rw[Ob.ren_mb]at hb;exact(R1.stm b off hs).2 i o' p k1 k2 hb
 .exact R.kept.trans hkept (λi hi=>(ZPB R hlt hi).1)
 .rcases cls j o p ho hp with⟨k0,k1,k2⟩|⟨i,o',k1,k2,rfl,k4⟩
  .exact R.mbs j o p b k1 k2 hb
  .rw[Ob.ren_mb]at hb;rcases R1.mbs i o' p b k1 k2 hb with h|h
   .exact(ZPB R hlt h).1
   .have:=R.kept.size;simp only at h;exact .inr J0
 .rcases R1.sto b off hs with h|h|h
  .exact R.sto b off h
  .exact .inr (ZPB R hlt h).1
  .have:=R.kept.size;simp only at h;exact .inr (.inr J0)
end
mutual
def ZHB:D->W0
 | .ref id _ _ _=> [id]
 | .ptr id _=> [id]
 | .eptr id _ _ _=> [id]
 | .agg ds=>Jd ds
 | .tup ds=>Jd ds
 | .fn _ caps=>Jd caps
 | .opt _ d=>ZHB d
 | .x _=> []
 | .vptr _=> []
 | .mref id=> [id]
 | .mnil=> []
 | .iref mid id=> [mid,id]
 | .stk mid id=> [mid,id]
 | .bref id _ _=> [id]
 | .full _=> []
 | .nz _=> []
 | .und=> []
def Jd:J8->W0
 | []=> []
 |d::l=>ZHB d++Jd l
end
def ZCw:W2->W0
 | []=> []
 |p::l=>Jd p.2++ZCw l
def ZIK:Ob->W0
 | .box ds=>Jd ds
 | .mpo _ _ l=>ZCw l
 | .mit _ _ l it R _=>it::(ZCw l++ZCw R)
 | .mpn _ _ l _ sid=>sid::ZCw l
 |_=> []
def Jp(OS:J7):Nat->W0->W0->W0
 |0,_,acc=>acc
 |_+1,[],acc=>acc
 |n+1,i::l,acc=>if Zq i acc then Jp OS n l acc else Jp OS n (ZIK (OS.getD i .dead)++l) (acc++ [i])
def QY:W0->Bool
 | []=>true
 |i::l=> !(Zq i l)&&QY l
theorem ZIM: ∀ {l:W0},QY l=true->l.Nodup
 | [],_=>ZSg
 |i::l,h=>by
  simp only[QY,ZT,ZHD]at h;refine ZBV.2 ⟨λhm=> ?_,ZIM h.2⟩;have:=ZBp.2 hm;rw[h.1]at this;cases this
def Qc(ρ:W0)(args:J8)(OS:J7):Bool:=
 ρ.all (λr=>decide (r<OS.length))&&(Yr (λi=>Zq i ρ) args&&((ρ.all λr=>(OS.getD r .dead).inP λi=>Zq i ρ)&&QY ρ))
def Yo(h:J8->J7->Option (Bool×D×J7))(args:J8)(OS:J7):Option (Bool×D×J7):=
 if Qc (Jp OS 64 (Jd args) []) args OS=true then
  (h (Zy (inv (Jp OS 64 (Jd args) [])) args) (YW (Jp OS 64 (Jd args) []) OS)).bind λq=>
   if(Jp OS 64 (Jd args) []).length<=q.2.2.length then some (q.1,q.2.1.ren (KQ (Jp OS 64 (Jd args) []) OS.length q.2.2.length),Ko (Jp OS 64 (Jd args) []) OS q.2.2)else none
 else none
section
variable {P:Program}
theorem ZI.lift{f:FuncId}{ρ:W0}{args:J8}{OS:J7}{Post:D->J7->Prop}(hok:Qc ρ args OS=true)(h:ZI P f (Zy (inv ρ) args) (YW ρ OS) Post)(hl: ∀r os',Post r os'->ρ.length<=os'.length):
  ZI P f args OS (λr' OS'=> ∃r os',Post r os'/\r'=r.ren (KQ ρ OS.length os'.length)/\OS'=Ko ρ OS os'):=by
 simp only[Qc,ZT]at hok;obtain⟨h1,h2,h3,h4⟩:=hok;have hn:=ZIM h4;have hlt: ∀r∈ρ,r<OS.length:=λr hr=>by simpa using Yc.1 h1 r hr
 have hcl: ∀r∈ρ,(OS.getD r .dead).inP (λi=>Zq i ρ)=true:=λr hr=>Yc.1 h3 r hr
 intro c E vs R hvl;have hvl':VL (fpE ρ E) (YW ρ OS) (Zy (inv ρ) args) vs:=by
  refine⟨by rw[Kq];simpa using hvl.1,λj d v hd hv=> ?_⟩;rw[Kq,YG]at hd;obtain⟨d0,h0,rfl⟩:=Zd hd;rw[ZBC]at h2;exact(hvl.2 j d0 v h0 hv).monoR (ZLc R hlt) (Yc.1 h2 d0 (Yj h0))
 refine(h _ (fpE ρ E) vs (ZZI R hn hlt hcl) hvl').mono ?_;rintro e w' ⟨v,E1,r,os',rfl,rfl,R1,ev,hv,hp⟩;obtain⟨k1,k2,k3⟩:=Zeb R hn hlt R1 ev (hl r os' hp);exact⟨v,ZIL ρ E E1,_,_,rfl,rfl,k1,k2,k3 r v hv,r,os',hp,rfl,rfl⟩
theorem ZN.lift{f:FuncId}{h:J8->J7->Option (Bool×D×J7)}(hh: ∀args os r os',h args os=some (true,r,os')->ZN P f args os r os'):
  ∀args OS r OS',Yo h args OS=some (true,r,OS')->ZN P f args OS r OS':=by
 intro args OS r OS' hl;unfold Yo at hl;split at hl
 .rename_i hok;obtain⟨⟨b,r1,os'⟩,h1,h2⟩:=Zp hl;simp only at h2;split at h2
  .rename_i hlen;simp only[Ze,Za]at h2;obtain⟨rfl,rfl,rfl⟩:=h2;have hm:=hh _ _ _ _ h1;have hf:ZI P f (Zy (inv (Jp OS 64 (Jd args) [])) args) (YW (Jp OS 64 (Jd args) []) OS) (λr' os2=>r'=r1/\os2=os'):=by
    intro c E vs R hvl;refine(hm c E vs R hvl).mono ?_;rintro e w' ⟨v,E',rfl,rfl,R',ev,hv⟩;exact⟨v,E',_,_,rfl,rfl,R',ev,hv,rfl,rfl⟩
   refine ZI.mcalls (λc E vs R hvl=>((ZI.lift hok hf (λr os' ⟨_,h⟩=>by rw[h];exact hlen)) c E vs R hvl).mono ?_);rintro e w' ⟨v,E',r2,os2,rfl,rfl,R',ev,hv,r3,os3,⟨rfl,rfl⟩,rfl,rfl⟩;exact⟨v,E',_,_,rfl,rfl,R',ev,hv,rfl,rfl⟩
  .cases h2
 .cases hl
def ZO:Tabs:=⟨λ_ _=>none,λ_ _ _=>none,λ_ _ _=>none,λ_ _ _=>none⟩
theorem ZD:SsOk P ZO:=⟨λ_ _ _ h=>(by cases h),λ_ _ _ _ _ h=>(by cases h),λ_ _ _ _ h=>(by cases h),λ_ _ _ _ _ h=>(by cases h)⟩
def ZR(S:Tabs)(f:FuncId)(g:J8->J5):Tabs:=⟨λf' args=>if f'=f then g args else S.q f' args,S.t,S.r,S.k⟩
def Jt(S:Tabs)(f:FuncId)(h:J8->J7->Option (Bool×D×J7)):Tabs:=⟨S.q,λf' args os=>if f'=f then Yo h args os else S.t f' args os,S.r,S.k⟩
theorem ZG{S:Tabs}(hS:SsOk P S){f:FuncId}{g:J8->J5}(he:Enters P f)(hg: ∀args r,g args=some (true,r)->ZC P f args r):SsOk P (ZR S f g):=by
 refine⟨λf' args r h=> ?_,hS.t,hS.r,hS.k⟩;simp only[ZR]at h;split at h
 .rename_i hf;subst hf;exact⟨he,hg args r h⟩
 .exact hS.q f' args r h
theorem Yz{S:Tabs}(hS:SsOk P S){f:FuncId}{h:J8->J7->Option (Bool×D×J7)}(he:Enters P f)(hh: ∀args os r os',h args os=some (true,r,os')->ZN P f args os r os'):SsOk P (Jt S f h):=by
 refine⟨hS.q,λf' args os r os' hr=> ?_,hS.r,hS.k⟩;simp only[Jt]at hr;split at hr
 .rename_i hf;subst hf;exact⟨he,ZN.lift hh args os r os' hr⟩
 .exact hS.t f' args os r os' hr
end
theorem D.ren_ren{F g:Nat->Nat}{p:Nat->Bool}(h: ∀i,p i=true->F (g i)=i)(d:D):d.inP p=true->(d.ren g).ren F=d:=by
 refine D.rec (motive_1:=λd=>d.inP p=true->(d.ren g).ren F=d) (motive_2:=λl=>Yr p l=true->Zy F (Zy g l)=l) ?_ ?_ ?_ ?_ ?_ ?_ ?_ ?_ ?_ ?_ ?_ ?_ ?_ ?_ ?_ ?_ ?_ ?_ ?_ d
 all_goals intros
 all_goals first|rfl|(simp only[D.inP,Yr,D.ren,Zy,ZT]at*;simp_all)
theorem ZKD{F g:Nat->Nat}{p:Nat->Bool}(h: ∀i,p i=true->F (g i)=i)(l:J8)(hl:Yr p l=true):Zy F (Zy g l)=l:=by
 induction l with
 |nil=>rfl
 |cons d l ih=>
  simp only[Yr,ZT]at hl;simp only[Zy,D.ren_ren h d hl.1,ih hl.2]
theorem ZTC{F g:Nat->Nat}{p:Nat->Bool}(h: ∀i,p i=true->F (g i)=i)(q:Pr)(hp:ZAT p q=true):JZ F (JZ g q)=q:=by
 simp only[JZ,ZKD h q.2 hp]
theorem ZJd{F g:Nat->Nat}{p:Nat->Bool}(h: ∀i,p i=true->F (g i)=i)(l:W2)(hp:l.all (ZAT p)=true):(l.map (JZ g)).map (JZ F)=l:=by
 rw[Js]
 conv=>rhs;rw[<-ZO0 l]
 exact ZBF λq hq=>ZTC h q (Yc.1 hp q hq)
theorem Ob.ren_ren{F g:Nat->Nat}{p:Nat->Bool}(h: ∀i,p i=true->F (g i)=i)(o:Ob)(hp:o.inP p=true):(o.ren g).ren F=o:=by
 cases o with
 |box ds=>simp only[Ob.ren,ZKD h ds hp]
 |drw e sz rs=>
  have e1:(rs.map (Zy g)).map (Zy F)=rs:=by
   rw[Js]
   conv=>rhs;rw[<-ZO0 rs]
   exact ZBF λr hr=>ZKD h r (Yc.1 hp r hr)
  simp only[Ob.ren,e1]
 |mpo dk ag l=>simp only[Ob.ren,ZJd h l hp]
 |mit dk ag l it R cur=>
  simp only[Ob.inP,ZT]at hp;have hc:(cur.map (JZ g)).map (JZ F)=cur:=by
   cases cur with
   |none=>rfl
   |some q=>simp only[Yl,ZTC h q hp.2.2.2]
  simp only[Ob.ren,ZJd h l hp.1,ZJd h R hp.2.2.1,hc,h it hp.2.1]
 |mpn dk ag l key sid=>
  simp only[Ob.inP,ZT]at hp;simp only[Ob.ren,ZJd h l hp.1,h sid hp.2]
 |_=>rfl
theorem D.ren_comp{f g:Nat->Nat}(d:D):(d.ren g).ren f=d.ren (λi=>f (g i)):=by
 refine D.rec (motive_1:=λd=>(d.ren g).ren f=d.ren (λi=>f (g i))) (motive_2:=λl=>Zy f (Zy g l)=Zy (λi=>f (g i)) l) ?_ ?_ ?_ ?_ ?_ ?_ ?_ ?_ ?_ ?_ ?_ ?_ ?_ ?_ ?_ ?_ ?_ ?_ ?_ d
 all_goals intros
 all_goals first|rfl|(simp only[D.ren,Zy]at*;simp_all)
theorem D.ren_congr{f g:Nat->Nat}{p:Nat->Bool}(h: ∀i,p i=true->f i=g i)(d:D):d.inP p=true->d.ren f=d.ren g:=by
 refine D.rec (motive_1:=λd=>d.inP p=true->d.ren f=d.ren g) (motive_2:=λl=>Yr p l=true->Zy f l=Zy g l) ?_ ?_ ?_ ?_ ?_ ?_ ?_ ?_ ?_ ?_ ?_ ?_ ?_ ?_ ?_ ?_ ?_ ?_ ?_ d
 all_goals intros
 all_goals first|rfl|(simp only[D.inP,Yr,D.ren,Zy,ZT]at*;simp_all)
theorem V.cut{E0 E1 E2:Env}{OS X:J7}(hw:E2.w=E1.w)(hs:E2.st=E1.st)(hob: ∀i,i<OS.length->E2.ob[i]? =E1.ob[i]?){d:D}{v0:Value}(h:V E0 OS d v0): ∀ {v:Value},V E1 (OS++X) d v->V E2 OS d v:=by
 have hst: ∀b o,E1.st b o->E2.st b o/\E2.w.cell? ⟨b,o,none⟩=E1.w.cell? ⟨b,o,none⟩:=λb o h=>⟨by rw[hs];exact h,by rw[hw]⟩
 have sl: ∀ {id:Nat} {o0:Ob},OS[id]? =some o0-> ∀ {o:Ob},(OS++X)[id]? =some o->OS[id]? =some o/\id<OS.length:=by
  intro id o0 h0 o h1;have hl:=(Zb h0).1;rw[Ym hl]at h1;exact⟨h1,hl⟩
 have lst: ∀ {ds:J8} {vs0 vs:Array Value},ds.length=vs0.size->(∀(j:Nat) (d:D) (v:Value),ds[j]? =some d->vs0[j]? =some v-> ∀ {v:Value},V E1 (OS++X) d v->V E2 OS d v)->(∀(j:Nat) (d:D) (v:Value),ds[j]? =some d->vs[j]? =some v->V E1 (OS++X) d v)-> ∀(j:Nat) (d:D) (v:Value),ds[j]? =some d->vs[j]? =some v->V E2 OS d v:=by
  intro ds vs0 vs hl ih hv j d v hd hv';have hj:=(Zb hd).1;exact ih j d _ hd (ξL J0) (hv j d v hd hv')
 induction h with
 |x h=>intro v h2;exact .x (h2.xx.mono hst)
 |ref h h1=>
  intro v h2;obtain⟨o,sz,rs,g1,g2,g3⟩:=h;cases h2 with
  |ref hr h3=>
   obtain⟨o',sz',rs',k1,k2,k3,k4⟩:=hr;obtain⟨w1,w2⟩:=sl g1 k1;refine .ref ⟨o',sz',rs',w1,k2,k3,λhl=> ?_⟩ h3;obtain⟨h5,b,a,cap,a',cap',h6,h7⟩:=k4 hl;exact⟨h5,b,a,cap,a',cap',(hob _ w2).trans h6,h7⟩
 |ptr ho h=>
  intro v h2;cases h2 with
  |ptr ho2 hb2=>
   obtain⟨w1,w2⟩:=sl ho ho2;exact .ptr w1 ((hob _ w2).trans hb2)
 |eptr h h1=>
  intro v h2;obtain⟨o,sz,rs,g1,g2,g3⟩:=h;cases h2 with
  |eptr hr h3=>
   obtain⟨o',sz',rs',k1,k2,k3,k4⟩:=hr;obtain⟨w1,w2⟩:=sl g1 k1;refine .eptr ⟨o',sz',rs',w1,k2,k3,λhl=> ?_⟩ h3;obtain⟨h5,b,g,cap,h6,h7⟩:=k4 hl;exact⟨h5,b,g,cap,(hob _ w2).trans h6,h7⟩
 |mref ho hk h=>
  intro v h2;cases h2 with
  |mref ho2 hk2 hb2=>
   obtain⟨w1,w2⟩:=sl ho ho2;exact .mref w1 hk2 ((hob _ w2).trans hb2)
 |mnil=>intro v h2;cases h2;exact .mnil
 |iref ho hk h=>
  intro v h2;cases h2 with
  |iref ho2 hk2 hb2=>
   obtain⟨w1,w2⟩:=sl ho ho2;exact .iref w1 hk2 ((hob _ w2).trans hb2)
 |stk ho hk h=>
  intro v h2;cases h2 with
  |stk ho2 hk2 hb2=>
   obtain⟨w1,w2⟩:=sl ho ho2;exact .stk w1 hk2 ((hob _ w2).trans hb2)
 |bref ho h hm=>
  intro v h2;cases h2 with
  |bref ho2 hb2 hm2=>
   obtain⟨w1,w2⟩:=sl ho ho2;exact .bref w1 ((hob _ w2).trans hb2) hm2
 |vptr b off val hc hv=>
  intro v h2;cases h2 with
  |vptr b off val hc hv=>exact .vptr b off val (λj x hj=>⟨(hst _ _ (hc j x hj).1).1,by rw[(hst _ _ (hc j x hj).1).2];exact(hc j x hj).2⟩) (λj x hj=>(hv j x hj).mono hst)
 |agg vs hl h1 _ ih=>
  intro v h2;cases h2 with
  |agg vs' hl' h1' hv'=>exact .agg vs' hl' h1' (lst hl ih hv')
 |tup vs hl _ ih=>
  intro v h2;cases h2 with
  |tup vs' hl' hv'=>exact .tup vs' hl' (lst hl ih hv')
 |full n h=>
  intro v h2;cases h2 with
  |full n h=>exact .full n (h.mono hst)
 |nz h=>
  intro v h2;cases h2 with
  |nz h=>exact .nz (h.mono hst)
 |fn vs hl _ ih=>
  intro v h2;cases h2 with
  |fn vs' hl' hv'=>exact .fn vs' hl' (lst hl ih hv')
 |opt _ h' ih=>
  intro v h2;cases h2 with
  |opt g g'=>exact .opt (λhb=>ih hb (g hb)) g'
 |und v=>intro v h2;exact .und v
theorem VC.cut{E0 E1 E2:Env}{OS X:J7}(hw:E2.w=E1.w)(hs:E2.st=E1.st)(hob: ∀i,i<OS.length->E2.ob[i]? =E1.ob[i]?){ag:Bool}{ds:J8}{v0 v:Value}(h0:VC E0 OS ag ds v0)(h:VC E1 (OS++X) ag ds v):VC E2 OS ag ds v:=by
 refine⟨h.1,h.2.1,λj d u hd hu=>⟨?_,(h.2.2 j d u hd hu).2⟩⟩;have hj:j<v0.cells.size:=by rw[h0.2.1];exact(Zb hd).1
 exact V.cut (X:=X) hw hs hob (h0.2.2 j d _ hd (ξL hj)).1 (h.2.2 j d u hd hu).1
theorem YB.cut{E0 E1 E2:Env}{OS X:J7}(hw:E2.w=E1.w)(hs:E2.st=E1.st)(hob: ∀i,i<OS.length->E2.ob[i]? =E1.ob[i]?){b0 b:Nat}{dk:KK}{ag:Bool}{l:W2}(h0:YB E0 OS b0 dk ag l)(h:YB E1 (OS++X) b dk ag l):YB E2 OS b dk ag l:=by
 have key: ∀ {κ:Type} [DecidableEq κ] {mk:κ->Value} {kx:κ->List Go.Ab.X},ZCC mk kx E0 OS b0 ag l->ZCC mk kx E1 (OS++X) b ag l->ZCC mk kx E2 OS b ag l:=by
  intro κ _ mk kx ⟨l0,h1,h2,h3⟩ ⟨l',k1,k2,k3⟩;refine⟨l',by rw[hw];exact k1,k2,λi a q ha hq=> ?_⟩;have hi:i<l0.length:=by rw[h2];exact(Zb hq).1
  exact⟨(k3 i a q ha hq).1,VC.cut hw hs hob (h3 i _ q (YC hi) hq).2 (k3 i a q ha hq).2⟩
 cases dk with
 |int k=>exact key h0 h
 |str=>exact key h0 h
 |st _ _=>exact h.elim
theorem Rel.cut{c:Ctx}{E0 E1:Env}{OS X:J7}{c0:Ctx}(R0:Rel c0 E0 OS)(R:Rel c E1 (OS++X))(ev:Evo E0 OS E1 (OS++X)):
  Rel c ⟨E1.w,E1.st,E1.ob.take OS.length⟩ OS/\Evo E0 OS ⟨E1.w,E1.st,E1.ob.take OS.length⟩ OS:=by
 have hob: ∀i,i<OS.length->(E1.ob.take OS.length)[i]? =E1.ob[i]? :=λi hi=>by rw[KH,if_pos hi]
 have up: ∀i o,OS[i]? =some o->(OS++X)[i]? =some o:=λi o h=>by rw[Ym (Zb h).1];exact h
 have lt: ∀i o,OS[i]? =some o->i<OS.length:=λi o h=>(Zb h).1
 refine⟨⟨by simp[R.len],λi o p h1 h2=> ?_,λi j o o' p p' b h1 h2 h3 h4 h5 h6=> ?_,λb off hs=>⟨(R.stm b off hs).1,λi o p h1 h2 h3=> ?_⟩,R.kept,λi o p b h1 h2 h3=> ?_,R.sto⟩,⟨ev.st,λid b cu ds k ho hkd hb=> ?_,λid o sz rs ho hs=> ?_⟩⟩
 .have h2':E1.ob[i]? =some p:=by rw[<-hob i (lt i o h1)];exact h2
  have hok:=R.ok i o p (up i o h1) h2';obtain⟨p0,hp0,hok0⟩:=R0.at h1;cases o with
  |box ds=>
   obtain⟨cs,ty,g1,g2,g3⟩:=hok;obtain⟨cs0,ty0,k1,k2,k3⟩:=hok0;refine⟨cs,ty,g1,g2,λj d v hd hv=>⟨?_,(g3 j d v hd hv).2⟩⟩;have hj:=(Zb hd).1;exact V.cut (E1:=E1) (E2:=⟨E1.w,E1.st,E1.ob.take OS.length⟩) (X:=X) rfl rfl hob (k3 j d _ hd (ξL J0)).1 (g3 j d v hd hv).1
  |rows fz el sz rs=>exact hok
  |drw el sz rs=>
   obtain⟨xs,g1,g2,g3⟩:=hok;obtain⟨xs0,k1,k2,k3⟩:=hok0;refine⟨xs,g1,g2,λi r j d v hr hd hv=>⟨?_,(g3 i r j d v hr hd hv).2⟩⟩;have hj:i*sz+j<xs0.length:=by
    have:=(Zb hv).1;rw[g1.1]at this;rw[k1.1];exact this
   exact V.cut (E1:=E1) (E2:=⟨E1.w,E1.st,E1.ob.take OS.length⟩) (X:=X) rfl rfl hob (k3 i r j d _ hr hd (YC hj)).1 (g3 i r j d v hr hd hv).1
  |frz sz rs=>exact hok
  |mpo dk ag l=>exact YB.cut (E1:=E1) (E2:=⟨E1.w,E1.st,E1.ob.take OS.length⟩) (X:=X) rfl rfl hob hok0 hok
  |mit dk ag l it R cur=>
   refine⟨YB.cut (E1:=E1) (E2:=⟨E1.w,E1.st,E1.ob.take OS.length⟩) (X:=X) rfl rfl hob hok0.1 hok.1,?_⟩;obtain⟨_,ib,cu,es,clk,since,seen,c0,o,k1,k2,k3,k4,k5,k6,k7,k8,k9,k10,k11⟩:=hok;obtain⟨_,ib0,cu0,es0,clk0,since0,seen0,c00,o0,l1,l2,l3,l4,l5,l6,l7,l8,l9,l10,l11⟩:=hok0;have hit:=(Zb l2).1;refine⟨ib,cu,es,clk,since,seen,c0,o0,k1,l2,l3,(hob _ hit).trans k4,k5,k6,k7,k8,k9,⟨k10.1,λi x q hx hq=> ?_⟩,λq hq=> ?_⟩
   .have hl0:i<(leftOf es0 seen0).toList.length:=by rw[l10.1];exact(Zb hq).1
    obtain⟨m1,m2⟩:=k10.2 i x q hx hq;exact⟨m1,VC.cut (E1:=E1) (E2:=⟨E1.w,E1.st,E1.ob.take OS.length⟩) (X:=X) rfl rfl hob (l10.2 i _ q (YC hl0) hq).2 m2⟩
   .obtain⟨g1,s',x,g2,g3,g4⟩:=k11 q hq;obtain⟨_,_,x0,_,_,e4⟩:=l11 q hq;exact⟨g1,s',x,g2,g3,g4.1,VC.cut (E1:=E1) (E2:=⟨E1.w,E1.st,E1.ob.take OS.length⟩) (X:=X) rfl rfl hob e4.2 g4.2⟩
  |mpn dk ag l key sid=>
   refine⟨YB.cut (E1:=E1) (E2:=⟨E1.w,E1.st,E1.ob.take OS.length⟩) (X:=X) rfl rfl hob hok0.1 hok.1,?_⟩;obtain⟨_,n,cu,o,es,clk,x,k1,k2,k3,k4⟩:=hok;obtain⟨_,n0,cu0,o0,es0,clk0,x0,l1,l2,l3,l4⟩:=hok0;have hit:=(Zb l1).1;exact⟨n,cu,o0,es,clk,x,l1,l2,(hob _ hit).trans k3,k4⟩
  |sit s pos=>exact hok
  |nit=>exact hok
  |itr=>trivial
  |stp=>trivial
  |old _ _=>trivial
  |fam _ _ _=>exact hok
  |dead=>trivial
 .rw[hob i (lt i o h1)]at h2;rw[hob j (lt j o' h3)]at h4;exact R.dis i j o o' p p' b (up i o h1) h2 (up j o' h3) h4 h5 h6
 .rw[hob i (lt i o h1)]at h2;exact(R.stm b off hs).2 i o p (up i o h1) h2 h3
 .rw[hob i (lt i o h1)]at h2;exact R.mbs i o p b (up i o h1) h2 h3
 .obtain⟨cu',ds',g1,gk,g2⟩:=ev.bl id b cu ds k ho hkd hb;rw[Ym (lt id _ ho)]at g1;exact⟨cu',ds',g1,gk,(hob id (lt id _ ho)).trans g2⟩
 .obtain⟨o',rs',g1,g2,g3⟩:=ev.rf id o sz rs ho hs;rw[Ym (lt id _ ho)]at g1;refine⟨o',rs',g1,g2,?_⟩;rcases g3 with⟨g3,g4⟩|g3
  .exact .inl ⟨g3,(hob id (lt id _ ho)).trans g4⟩
  .exact .inr g3
theorem ZIO: ∀(ρ:W0) (os OS:J7),(∀(i r:Nat),ρ[i]? =some r-> ∀o:Ob,os[i]? =some o->OS[r]? =some o)->KS OS ρ os=OS
 | [],os,OS,_=>by cases os<;>rfl
 |r::ρ,[],OS,_=>rfl
 |r::ρ,o::os,OS,h=>by
  have h0:=h 0 r rfl o rfl;have hs:OS.set r o=OS:=by
   apply ZDN;intro j;rw[ZCx];split
   .rename_i hj;subst hj;rw[h0,if_pos (Zb h0).1]
   .rfl
  simp only[KS,hs];exact ZIO ρ os OS (λi r hi o ho=>h (i+1) r (by simpa using hi) o (by simpa using ho))
theorem ZP6{F:Nat->Nat}{d:D}(h:d.plain=true):d.ren F=d:=by
 cases d with
 |agg ds=>
  have: ∀l:J8,l.all D.isX=true->Zy F l=l:=by
   intro l
   induction l with
   |nil=>intro _;rfl
   |cons d l ih=>
    intro hl;simp only[ZAe,ZT]at hl;simp only[Zy,ih hl.2];cases d with
    |x y=>rfl
    |_=>exact absurd hl.1 (by simp[D.isX])
  simp only[D.ren,this ds h]
 |fn g caps=>
  cases caps with
  |nil=>rfl
  |cons=>exact absurd h (by simp[D.plain])
 |x y=>rfl
 |_=>exact absurd h (by simp[D.plain])
theorem ZZf{F:Nat->Nat}{d:D}(h:d.clean=true):d.ren F=d:=by
 cases d with
 |tup ds=>
  have: ∀l:J8,l.all D.plain=true->Zy F l=l:=by
   intro l
   induction l with
   |nil=>intro _;rfl
   |cons d l ih=>
    intro hl;simp only[ZAe,ZT]at hl;simp only[Zy,ih hl.2,ZP6 hl.1]
  simp only[D.ren,this ds h]
 |_=>exact ZP6 h
theorem ZGn.of{P:Program}{f:FuncId}{ρ:W0}{args:J8}{os X:J7}{r:D}(hok:Qc ρ args os=true)(h:ZN P f (Zy (inv ρ) args) (YW ρ os) r (YW ρ os++X))(hr:r.clean=true):ZGn P f args os r:=by
 intro Y c E vs R hvl;have hok0:=hok;simp only[Qc,ZT]at hok;obtain⟨h1,h2,h3,h4⟩:=hok;have hlt: ∀r∈ρ,r<os.length:=λr hr=>by simpa using Yc.1 h1 r hr
 have hgd: ∀r∈ρ,(os++Y).getD r .dead=os.getD r .dead:=λr hr=>by simp[List.getD,Ym (hlt r hr)]
 have hfp:YW ρ (os++Y)=YW ρ os:=ZBF (λr hr=>by rw[hgd r hr]);have hok':Qc ρ args (os++Y)=true:=by
  simp only[Qc,ZT];refine⟨Yc.2 (λr hr=>by have:=hlt r hr;simp;omega),h2,Yc.2 (λr hr=>by rw[hgd r hr];exact Yc.1 h3 r hr),h4⟩
 have hf:ZI P f (Zy (inv ρ) args) (YW ρ (os++Y)) (λr' os2=>r'=r/\os2=YW ρ os++X):=by
  intro c E vs R hvl;rw[hfp]at R hvl;refine(h c E vs R hvl).mono ?_;rintro e w' ⟨v,E',rfl,rfl,R',ev,hv⟩;exact⟨v,E',_,_,rfl,rfl,R',by rw[hfp];exact ev,hv,rfl,rfl⟩
 refine((ZI.lift hok' hf (λr os' ⟨_,h⟩=>by rw[h];simp[YW])) c E vs R hvl).mono ?_;rintro e w' ⟨v,E',r2,os2,rfl,rfl,R',ev,hv,r3,os3,⟨rfl,rfl⟩,rfl,rfl⟩;rw[ZZf hr]at hv;have hsame: ∃X',Ko ρ (os++Y) (YW ρ os++X)=(os++Y)++X':=by
  refine⟨((YW ρ os++X).map (Ob.ren (KQ ρ (os++Y).length (YW ρ os++X).length))).drop ρ.length,?_⟩;unfold Ko;rw[ZIO];intro i r hi o ho;rw[Ji,Ym (by simp[YW];exact(Zb hi).1)]at ho;simp only[YW,Js,YG,hi,Yl,Ze,Function.comp]at ho;have hm:=Yj hi;have hl:=hlt r hm;have hr':os[r]? =some (os[r]'hl):=YC _;rw[Ym hl,hr',<-ho];simp only[List.getD,hr',ξW];have hin:=Yc.1 h3 r hm;simp only[List.getD,hr',ξW]at hin;rw[Ob.ren_ren (p:=λi=>Zq i ρ) (λi hi=> ?_) _ hin];have hg:=ZGf (ZBp.1 hi);simp only[KQ,(Zb hg).1,if_true,List.getD,hg,ξW]
 obtain⟨X',hX⟩:=hsame;rw[hX]at R' ev;obtain⟨R2,e2⟩:=R.cut R' ev;exact⟨v,⟨E'.w,E'.st,E'.ob.take (os++Y).length⟩,rfl,rfl,R2,e2,hv.ofClean hr (λx v hx=>hx)⟩
theorem Rel.move{c c0:Ctx}{E0 E1:Env}{OS:J7}{ob:Ob}{id:Nat}(R0:Rel c0 E0 OS)(hd:OS[id]? =some .dead)(hrow: ∃fz e sz rs,ob= .rows fz e sz rs)(R:Rel c E1 (OS++ [ob]))(ev:Evo E0 OS E1 (OS++ [ob])):
  ∃E2,E2.w=E1.w/\Rel c E2 (OS.set id ob)/\Evo E0 OS E2 (OS.set id ob)/\ ∀d v,V E1 (OS++ [ob]) d v->V E2 (OS.set id ob) (d.ren λi=>if i=OS.length then id else i) v:=by
 obtain⟨Rc,ec⟩:=R0.cut R ev;have hidl:id<OS.length:=(Zb hd).1;have hlen:E1.ob.length=OS.length+1:=by rw[R.len];simp
 have hp:E1.ob[OS.length]? =some (E1.ob[OS.length]' J0):=YC _;generalize E1.ob[OS.length]' J0=p at hp;have htk: ∀i,i<OS.length->(E1.ob.take OS.length)[i]? =E1.ob[i]? :=λi hi=>by rw[KH,if_pos hi]
 have goS: ∀j,j≠id->(OS.set id ob)[j]? =OS[j]? :=λj hj=>ZD1 (λe=>hj e.symm)
 have goE: ∀j,j≠id->((E1.ob.take OS.length).set id p)[j]? =(E1.ob.take OS.length)[j]? :=λj hj=>ZD1 (λe=>hj e.symm)
 have atS:(OS.set id ob)[id]? =some ob:=ZE8 hidl;have atE:((E1.ob.take OS.length).set id p)[id]? =some p:=ZE8 (by simp[hlen];omega);have up: ∀(i:Nat) (o:Ob),OS[i]? =some o->(OS++ [ob])[i]? =some o:=λi o h=>by rw[Ym (Zb h).1];exact h
 have upn:(OS++ [ob])[OS.length]? =some ob:=by simp
 let E2:Env:=⟨E1.w,E1.st,(E1.ob.take OS.length).set id p⟩
 have e2:Evo ⟨E1.w,E1.st,E1.ob.take OS.length⟩ OS E2 (OS.set id ob):=by
  refine⟨λb o h=>⟨h,rfl⟩,λi b cu ds k ho hkd hb=> ?_,λi o sz rs ho hs=> ?_⟩
  .have hi:i≠id:=λe=>by subst e;rw[hd]at ho;cases ho;simp[Ob.kd]at hkd
   exact⟨cu,ds,(goS i hi).trans ho,hkd,(goE i hi).trans hb⟩
  .have hi:i≠id:=λe=>by subst e;rw[hd]at ho;cases ho;cases hs
   exact⟨o,rs,(goS i hi).trans ho,hs,.inl ⟨rfl,goE i hi⟩⟩
 have at': ∀(j:Nat) (o:Ob) (q:Nat×Value),(OS.set id ob)[j]? =some o->E2.ob[j]? =some q->(OS++ [ob])[if j=id then OS.length else j]? =some o/\E1.ob[if j=id then OS.length else j]? =some q/\(j≠id->OS[j]? =some o/\(E1.ob.take OS.length)[j]? =some q)/\j<OS.length:=by
  intro j o q ho hq;have hjl:j<OS.length:=by have:=(Zb ho).1;simpa using this
  by_cases hj:j=id
  .subst hj;rw[atS]at ho;cases ho;have:E2.ob[j]? =some p:=atE;rw[this]at hq;cases hq;exact⟨by rw[if_pos rfl];exact upn,by rw[if_pos rfl];exact hp,λh=>absurd rfl h,hjl⟩
  .rw[goS j hj]at ho;have hq':(E1.ob.take OS.length)[j]? =some q:=by rw[<-goE j hj];exact hq
   rw[if_neg hj];exact⟨up j o ho,by rw[<-htk j hjl];exact hq',λ_=>⟨ho,hq'⟩,hjl⟩
 have evr:EvoR (λi=>if i=OS.length then id else i) (λ_=>true) E1 (OS++ [ob]) E2 (OS.set id ob):=by
  refine⟨λb o h=>⟨h,rfl⟩,λi b cu ds k _ ho hkd hb=> ?_,λi o sz rs _ ho hs=> ?_⟩
  .have hil:i<OS.length:=by
    rcases Nat.lt_or_ge i OS.length with h|h
    .exact h
    .exfalso;have:=(Zb ho).1;simp at this;have:i=OS.length:=by omega
     subst this;rw[upn]at ho;obtain⟨fz,e,sz,rs,rfl⟩:=hrow;cases ho;simp[Ob.kd]at hkd
   have hne:i≠OS.length:=by omega
   rw[Ym hil]at ho;have hi:i≠id:=λe=>by subst e;rw[hd]at ho;cases ho;simp[Ob.kd]at hkd
   rw[if_neg hne];exact⟨cu,ds,(goS i hi).trans ho,hkd,(goE i hi).trans ((htk i hil).trans hb)⟩
  .by_cases hn:i=OS.length
   .subst hn;rw[if_pos rfl];rw[upn]at ho;cases ho;exact⟨ob,rs,atS,hs,.inl ⟨rfl,by rw[hp];exact atE⟩⟩
   .have hil:i<OS.length:=by
     have:=(Zb ho).1;simp at this;omega
    rw[Ym hil]at ho;have hi:i≠id:=λe=>by subst e;rw[hd]at ho;cases ho;cases hs
    rw[if_neg hn];exact⟨o,rs,(goS i hi).trans ho,hs,.inl ⟨rfl,(goE i hi).trans (htk i hil)⟩⟩
 refine⟨E2,rfl,⟨by simp[E2,hlen],λj o q h1 h2=> ?_,λi j o o' q q' b h1 h2 h3 h4 h5 h6=> ?_,λb off hs=>⟨(R.stm b off hs).1,λj o q h1 h2 h3=> ?_⟩,R.kept,λj o q b h1 h2 h3=> ?_,R.sto⟩,ec.trans e2,λd v hv=>hv.monoR evr (inP_true d)⟩
 .obtain⟨k1,k2,k3,k4⟩:=at' j o q h1 h2;by_cases hj:j=id
  .subst hj;rw[if_pos rfl]at k1 k2;have hok:=R.ok _ o q k1 k2;rw[atS]at h1;cases h1;obtain⟨fz,e,sz,rs,rfl⟩:=hrow;exact hok
  .obtain⟨g1,g2⟩:=k3 hj;exact(Rc.ok j o q g1 g2).mono e2 (λ_ _=>rfl)
 .obtain⟨k1,k2,_,k4⟩:=at' i o q h1 h2;obtain⟨g1,g2,_,g4⟩:=at' j o' q' h3 h4;have:=R.dis _ _ o o' q q' b k1 k2 g1 g2 h5 h6;by_cases hi:i=id<;>by_cases hj:j=id
  .omega
  .rw[if_pos hi,if_neg hj]at this;omega
  .rw[if_neg hi,if_pos hj]at this;omega
  .rw[if_neg hi,if_neg hj]at this;exact this
 .obtain⟨k1,k2,_,_⟩:=at' j o q h1 h2;exact(R.stm b off hs).2 _ o q k1 k2 h3
 .obtain⟨k1,k2,_,_⟩:=at' j o q h1 h2;exact R.mbs _ o q b k1 k2 h3
theorem ZDQ.of{P:Program}{f:FuncId}{ρ:W0}{args:J8}{os:J7}{ob:Ob}{r:D}(hok:Qc ρ args os=true)(hrow: ∃fz e sz rs,ob= .rows fz e sz rs)(hr:r.inP (λi=>Nat.ble i ρ.length)=true)(h:ZN P f (Zy (inv ρ) args) (YW ρ os) r (YW ρ os++ [ob])):
  ZDQ P f args os (λid=>r.ren λi=>if i<ρ.length then ρ.getD i 0 else id) ob:=by
 intro Y id c E vs hd R hvl;have hok0:=hok;simp only[Qc,ZT]at hok;obtain⟨h1,h2,h3,h4⟩:=hok;have hlt: ∀r∈ρ,r<os.length:=λr hr=>by simpa using Yc.1 h1 r hr
 have hgd: ∀r∈ρ,(os++Y).getD r .dead=os.getD r .dead:=λr hr=>by simp[List.getD,Ym (hlt r hr)]
 have hfp:YW ρ (os++Y)=YW ρ os:=ZBF (λr hr=>by rw[hgd r hr]);have hok':Qc ρ args (os++Y)=true:=by
  simp only[Qc,ZT];refine⟨Yc.2 (λr hr=>by have:=hlt r hr;simp;omega),h2,Yc.2 (λr hr=>by rw[hgd r hr];exact Yc.1 h3 r hr),h4⟩
 have hf:ZI P f (Zy (inv ρ) args) (YW ρ (os++Y)) (λr' os2=>r'=r/\os2=YW ρ os++ [ob]):=by
  intro c E vs R hvl;rw[hfp]at R hvl;refine(h c E vs R hvl).mono ?_;rintro e w' ⟨v,E',rfl,rfl,R',ev,hv⟩;exact⟨v,E',_,_,rfl,rfl,R',by rw[hfp];exact ev,hv,rfl,rfl⟩
 refine((ZI.lift hok' hf (λr os' ⟨_,h⟩=>by rw[h];simp[YW])) c E vs R hvl).mono ?_;rintro e w' ⟨v,E',r2,os2,rfl,rfl,R',ev,hv,r3,os3,⟨rfl,rfl⟩,rfl,rfl⟩;have hsame:Ko ρ (os++Y) (YW ρ os++ [ob])=(os++Y)++ [ob]:=by
  unfold Ko;rw[ZIO]
  .congr 1;have hl:((YW ρ os).map (Ob.ren (KQ ρ (os++Y).length (YW ρ os++ [ob]).length))).length=ρ.length:=by simp[YW]
   rw[Ji,<-hl,List.drop_left];obtain⟨fz,e,sz,rs,rfl⟩:=hrow;rfl
  intro i r hi o ho;rw[Ji,Ym (by simp[YW];exact(Zb hi).1)]at ho;simp only[YW,Js,YG,hi,Yl,Ze,Function.comp]at ho;have hm:=Yj hi;have hl:=hlt r hm;have hr':os[r]? =some (os[r]'hl):=YC _;rw[Ym hl,hr',<-ho];simp only[List.getD,hr',ξW];have hin:=Yc.1 h3 r hm;simp only[List.getD,hr',ξW]at hin;rw[Ob.ren_ren (p:=λi=>Zq i ρ) (λi hi=> ?_) _ hin];have hg:=ZGf (ZBp.1 hi);simp only[KQ,(Zb hg).1,if_true,List.getD,hg,ξW]
 rw[hsame]at R' ev hv;obtain⟨E2,q1,q2,q3,q4⟩:=R.move hd hrow R' ev;refine⟨v,E2,rfl,q1,q2,q3,?_⟩;have:=q4 _ v hv;rw[D.ren_comp]at this;have hfun:(λi=>(λi=>if i=(os++Y).length then id else i) (KQ ρ (os++Y).length (YW ρ os++ [ob]).length i))=λi=>if i<ρ.length then ρ.getD i 0 else(if i=ρ.length then id else(os++Y).length+(i-ρ.length)):=by
  funext i;simp only[KQ];by_cases hi:i<ρ.length
  .have hr:ρ[i]? =some (ρ[i]'hi):=YC hi;have hrl:=hlt _ (YM hi);have:ρ.getD i 0≠(os++Y).length:=by simp only[List.getD,hr,ξW];simp;omega
   simp only[hi,if_true,this,if_false]
  .simp only[hi,if_false];by_cases h2:i=ρ.length
   .subst h2;simp
   .have: ¬((os++Y).length+(i-ρ.length)=(os++Y).length):=by omega
    simp only[this,h2,if_false]
 rw[hfun,D.ren_congr (g:=λi=>if i<ρ.length then ρ.getD i 0 else id) (λi hi=> ?_) _ hr]at this
 .exact this
 .have hi:i<=ρ.length:=by simpa using hi
  by_cases h1:i<ρ.length
  .simp only[h1,if_true]
  .have h2:i=ρ.length:=by omega
   simp only[h2,if_true,Nat.lt_irrefl,if_false]
def JI(g:J8->J7->J5)(args:J8)(OS:J7):J5:=
 if Qc (Jp OS 64 (Jd args) []) args OS=true then g (Zy (inv (Jp OS 64 (Jd args) [])) args) (YW (Jp OS 64 (Jd args) []) OS)else none
theorem ZM6{P:Program}{f:FuncId}{g:J8->J7->J5}(hg: ∀args os r,g args os=some (true,r)->r.clean=true/\ ∃X,ZN P f args os r (os++X)):
  ∀args OS r,JI g args OS=some (true,r)->ZGn P f args OS r:=by
 intro args OS r h;unfold JI at h;split at h
 .rename_i hok;obtain⟨h1,X,h2⟩:=hg _ _ _ h;exact ZGn.of hok h2 h1
 .cases h
theorem ZGn.mcalls{P:Program}{f:FuncId}{args:J8}{os:J7}{r:D}(h:ZGn P f args os r):ZN P f args os r os:=by
 intro c E vs R hvl;have:=h [] c E vs (by simpa using R) (by simpa using hvl);simpa using this
def ZDB(S:Tabs)(f:FuncId)(g:J8->J7->J5):Tabs:=
 ⟨S.q,λf' args os=>if f'=f then(JI g args os).map λr=>(r.1,r.2,os)else S.t f' args os,λf' args os=>if f'=f then JI g args os else S.r f' args os,S.k⟩
theorem ZAJ{P:Program}{S:Tabs}(hS:SsOk P S){f:FuncId}{g:J8->J7->J5}(he:Enters P f)(hg: ∀args os r,g args os=some (true,r)->r.clean=true/\ ∃X,ZN P f args os r (os++X)):SsOk P (ZDB S f g):=by
 refine⟨hS.q,λf' args os r os' h=> ?_,λf' args os r h=> ?_,hS.k⟩
 .simp only[ZDB]at h;split at h
  .rename_i hf;subst hf;obtain⟨⟨b,r'⟩,h1,h2⟩:=Zd h;simp only[Za]at h2;obtain⟨rfl,rfl,rfl⟩:=h2;exact⟨he,(ZM6 hg _ _ _ h1).mcalls⟩
  .exact hS.t f' args os r os' h
 .simp only[ZDB]at h;split at h
  .rename_i hf;subst hf;exact⟨he,ZM6 hg _ _ _ h⟩
  .exact hS.r f' args os r h
def ZFB(g:J8->J7->Option (Bool×D×Ob))(args:J8)(OS:J7):Option (Bool×(Nat->D)×Ob):=
 if Qc (Jp OS 64 (Jd args) []) args OS=true then(g (Zy (inv (Jp OS 64 (Jd args) [])) args) (YW (Jp OS 64 (Jd args) []) OS)).bind λq=>
  if q.2.1.inP (λi=>Nat.ble i (Jp OS 64 (Jd args) []).length)=true then some (q.1,λid=>q.2.1.ren λi=>if i<(Jp OS 64 (Jd args) []).length then(Jp OS 64 (Jd args) []).getD i 0 else id,q.2.2)else none
 else none
theorem ZVG{P:Program}{f:FuncId}{g:J8->J7->Option (Bool×D×Ob)}(hg: ∀args os r ob,g args os=some (true,r,ob)->(∃fz e sz rs,ob= .rows fz e sz rs)/\ZN P f args os r (os++ [ob])):
  ∀args OS r ob,ZFB g args OS=some (true,r,ob)->ZDQ P f args OS r ob:=by
 intro args OS r ob h;unfold ZFB at h;split at h
 .rename_i hok;obtain⟨⟨b,d,ob'⟩,h1,h2⟩:=Zp h;simp only at h2;split at h2
  .rename_i hin;simp only[Ze,Za]at h2;obtain⟨rfl,rfl,rfl⟩:=h2;obtain⟨k1,k2⟩:=hg _ _ _ _ h1;exact ZDQ.of hok k1 hin k2
  .cases h2
 .cases h
def ZWN(S:Tabs)(f:FuncId)(g:J8->J7->Option (Bool×D×Ob)):Tabs:=
 ⟨S.q,λf' args os=>if f'=f then Yo (λargs os=>(g args os).map λq=>(q.1,q.2.1,os++ [q.2.2])) args os else S.t f' args os,S.r,λf' args os=>if f'=f then ZFB g args os else S.k f' args os⟩
theorem Zek{P:Program}{S:Tabs}(hS:SsOk P S){f:FuncId}{g:J8->J7->Option (Bool×D×Ob)}(he:Enters P f)(hg: ∀args os r ob,g args os=some (true,r,ob)->(∃fz e sz rs,ob= .rows fz e sz rs)/\ZN P f args os r (os++ [ob])):SsOk P (ZWN S f g):=by
 refine⟨hS.q,λf' args os r os' h=> ?_,hS.r,λf' args os r ob h=> ?_⟩
 .simp only[ZWN]at h;split at h
  .rename_i hf;subst hf;refine⟨he,ZN.lift (λargs os r os' h=> ?_) args os r os' h⟩;obtain⟨⟨b,d,ob⟩,h1,h2⟩:=Zd h;simp only[Za]at h2;obtain⟨rfl,rfl,rfl⟩:=h2;exact(hg _ _ _ _ h1).2
  .exact hS.t f' args os r os' h
 .simp only[ZWN]at h;split at h
  .rename_i hf;subst hf;exact⟨he,ZVG hg _ _ _ _ h⟩
  .exact hS.k f' args os r ob h
abbrev Out:=Exit×List (Nat×D)×J7
def ZGO(fz:Bool)(run:IC->J4->J7->Option Out)(f:IFn)(args:J8)(os:J7):Option (D×J7):=
 if args.length<=f.n then(run f.body (ZCl 0 args) os).bind λr=>match r.1 with
  | .normal| .ret=>(QC fz (λ_ _=>none) r.2.1 r.2.2 f.res).bind λq=>if q.1 then some (mkR q.2.1,q.2.2)else none
  |_=>none
 else none
def GOk(P:Program)(G:FuncId->Option IFn):Prop:= ∀f p,G f=some p-> ∃fn,P.funcs[f]? =some fn/\(fn.name== "runtime.NumGoroutine")=false/\ZFg P fn=some p
def Zcf(P:Program)(run:IC->J4->J7->Option Out):Prop:=
 ∀ic φ os x φ' os',run ic φ os=some (x,φ',os')-> ∀(c:Ctx) (E0:Env) (os0:J7) (n:Nat),WI P c E0 os0 n ic (λy φ2 os2=>y=x/\φ2=φ'/\os2=os') φ os
section
variable {P:Program} {G:FuncId->Option IFn}
theorem ZHP(hG:GOk P G){run:IC->J4->J7->Option Out}(hr:Zcf P run){f:FuncId}{p:IFn}(hp:G f=some p){args:J8}{os os':J7}{r:D}{fz:Bool}(h:ZGO fz run p args os=some (r,os')):
  Enters P f/\ZI P f args os (λr' os2=>r'=r/\os2=os'):=by
 obtain⟨fn,h1,h2,h3⟩:=hG f p hp;refine⟨enters h1 h2 h3,?_⟩;unfold ZGO at h;split at h
 .rename_i hle;obtain⟨⟨x,φ',os1⟩,h4,h⟩:=Zp h;have hx:(x= .normal\/x= .ret)/\(QC fz (λ_ _=>none) φ' os1 p.res).bind (λq=>if q.1 then some (mkR q.2.1,q.2.2)else none)=some (r,os'):=by
   cases x<;>simp only at h<;>first|exact⟨.inl rfl,h⟩|exact⟨.inr rfl,h⟩|cases h
  obtain⟨hx,h5⟩:=hx;obtain⟨⟨ok,ds,os2⟩,h6,h7⟩:=Zp h5;simp only at h7;split at h7
  .rename_i hok;subst hok;cases h7;refine ZZa (fz:=fz) (S:=λ_ _=>none) h1 h3 args hle os (λc E0=>WI.mono (hr _ _ _ _ _ _ h4 c E0 os p.n) ?_);rintro y φ2 os3 ⟨rfl,rfl,rfl⟩;exact⟨hx,ds,_,h6,rfl,rfl⟩
  .cases h7
 .cases h
theorem Zc1{G:FuncId->Option IFn}(hG:GOk P G){f:FuncId}{p:IFn}(hp:G f=some p):Enters P f:=by
 obtain⟨fn,h1,h2,h3⟩:=hG f p hp;exact enters h1 h2 h3
theorem ZfM{fz:Bool}{G:FuncId->Option IFn}(hG:GOk P G){f:FuncId}{p:IFn}(hp:G f=some p)(args:J8)(hle:args.length<=p.n)(os:J7){Post:D->J7->Prop}
  (h: ∀(c:Ctx) (E0:Env),WI P c E0 os p.n p.body (λx φ' os'=>(x= .normal\/x= .ret)/\ ∃ds os2,QC fz (λ_ _=>none) φ' os' p.res=some (true,ds,os2)/\Post (mkR ds) os2) (ZCl 0 args) os):ZI P f args os Post:=by
 obtain⟨fn,h1,h2,h3⟩:=hG f p hp;exact ZZa h1 h3 args hle os h
end
open Go Go.RowKit Go.Bo
@[reducible] def qt(n:Nat):IO:= .t n
@[reducible] def qi(n:Int):IO:= .c (.x (.int .i64 n))
@[reducible] def qs(s:List UInt8):IO:= .c (.x (.str s))
@[reducible] def qb(b:Bool):IO:= .c (.x (.bool b))
@[reducible] def qm(d s:Nat):IOp:=⟨some d,.mv (.t s),none⟩
@[reducible] def qn(d s g:Nat)(b:Bool):IOp:=⟨some d,.mv (.t s),some (g,b)⟩
@[reducible] def qa(d:Nat)(e:IE):IOp:=⟨some d,e,none⟩
@[reducible] def qg(d:Nat)(e:IE)(g:Nat)(b:Bool):IOp:=⟨some d,e,some (g,b)⟩
@[reducible] def qh(d s g:Nat):IOp:=⟨some d,.mv (.t s),some (g,true)⟩
@[reducible] def qj(d s g:Nat):IOp:=⟨some d,.mv (.t s),some (g,false)⟩
@[reducible] def qT(d:Nat)(e:IE)(g:Nat):IOp:=⟨some d,e,some (g,true)⟩
@[reducible] def qF(d:Nat)(e:IE)(g:Nat):IOp:=⟨some d,e,some (g,false)⟩
@[reducible] def qe(d a i:Nat):IOp:=⟨some d,.ext (.t a) i,none⟩
@[reducible] def ql(a:Nat):IE:= .ld 1 false (.t a)
@[reducible] def qL(n a:Nat):IE:= .ld n true (.t a)
@[reducible] def qf(o a:Nat):IE:= .fad o (.t a)
@[reducible] def q2(p:BinOp)(a b:Nat):IE:= .bin p (.t a) (.t b)
@[reducible] def q3(p:BinOp)(a:Nat)(n:Int):IE:= .bin p (.t a) (.c (.x (.int .i64 n)))
@[reducible] def q8(p:BinOp)(a:Nat)(n:Int):IE:= .bin p (.t a) (.c (.x (.int .u8 n)))
@[reducible] def qz(a:Nat):IE:= .un .not (.t a)
@[reducible] def qp(a b:Nat):IE:= .pick (.t a) (.c (.x (.bool true))) (.t b)
@[reducible] def qP(a b:Nat):IE:= .pick (.t a) (.t b) (.c (.x (.bool false)))
@[reducible] def qc(f:FuncId)(l:List IO):IE:= .call (.c (.fn f [])) l
@[reducible] def qk(b:Bool)(a:Nat):IE:= .len b (.t a)
@[reducible] def qx(a b:Nat):IE:= .idx (.t a) (.t b)
@[reducible] def qy(s a b:Nat):IE:= .iad s (.t a) (.t b)
@[reducible] def qo(n a b:Nat):IOp:=⟨none,.sto n (.t a) (.t b),none⟩
@[reducible] def qr(l:List IOp)(y:IC):IC:= .seq (.reg l) y
@[reducible] def qC(a:Nat)(x y:IC):IC:= .cond (.t a) x y
theorem gk{P:Program}{f:FuncId}{fn:Func}{q p:IFn}(h1:P.funcs[f]? =some fn)(h:some q=some p)(hn:(fn.name== "runtime.NumGoroutine")=false:=by decide)(hc:ZFg P fn=some q:=by kernel_rfl): ∃fn,P.funcs[f]? =some fn/\(fn.name== "runtime.NumGoroutine")=false/\ZFg P fn=some p:=by
 cases h;exact⟨fn,h1,hn,hc⟩
mutual
def D.vw(os:J7):D->D
 | .ref id ext off len=>match os[id]? with
  |some (.frz _ rs)=>if rs.length=ext then .x (.sl ((rs.drop off).take len))else .ref id ext off len
  |_=> .ref id ext off len
 | .agg ds=> .agg (vwL os ds)
 | .tup ds=> .tup (vwL os ds)
 | .fn f caps=> .fn f (vwL os caps)
 | .opt b d=> .opt b (d.vw os)
 | .ptr id o=> .ptr id o
 | .eptr id a b c=> .eptr id a b c
 | .x y=> .x y
 | .vptr cs=> .vptr cs
 | .mref id=> .mref id
 | .mnil=> .mnil
 | .iref mid id=> .iref mid id
 | .stk mid id=> .stk mid id
 | .bref id o l=> .bref id o l
 | .full rs=> .full rs
 | .nz rs=> .nz rs
 | .und=> .und
def vwL(os:J7):J8->J8
 | []=> []
 |d::l=>d.vw os::vwL os l
end
theorem ZJE(os:J7): ∀l,vwL os l=l.map (D.vw os)
 | []=>rfl
 |d::l=>by simp[vwL,ZJE os l]
def D.on(ρ:W0)(d:D):D:=if d.inP (λi=>Zq i ρ)=true then d else .und
def mpP(f:D->D)(q:Pr):Pr:=(q.1,q.2.map f)
def Ob.mp(f:D->D):Ob->Ob
 | .box ds=> .box (ds.map f)
 | .drw e sz rs=> .drw e sz (rs.map (List.map f))
 | .mpo dk ag l=> .mpo dk ag (l.map (mpP f))
 | .mit dk ag l it R cur=> .mit dk ag (l.map (mpP f)) it (R.map (mpP f)) (cur.map (mpP f))
 | .mpn dk ag l key sid=> .mpn dk ag (l.map (mpP f)) key sid
 |o=>o
def Ob.mpb(f:D->D):Ob->Ob
 | .box ds=> .box (ds.map f)
 | .drw e sz rs=> .drw e sz (rs.map (List.map f))
 |o=>o
def frzL:W0->J7->J7
 | [],os=>os
 |i::l,os=>match os[i]? with
  |some (.rows _ _ sz rs)=>frzL l (os.set i (.frz sz rs))
  |_=>frzL l os
def onF(ρ:W0)(os:J7)(d:D):D:=(d.vw os).on ρ
def Ob.onI(ρ:W0):Ob->Ob
 | .mit dk ag l it R cur=>if Zq it ρ=true then .mit dk ag l it R cur else .mpo dk ag l
 | .mpn dk ag l key sid=>if Zq sid ρ=true then .mpn dk ag l key sid else .mpo dk ag l
 |o=>o
def ZCs(ρ:W0)(os:J7):J7:=YW ρ ((os.map (Ob.mp (onF ρ os))).map (Ob.onI ρ))
def ZA4(ρ:W0)(os:J7)(φ:J4):J4:=φ.map λp=>(p.1,(onF ρ os p.2).ren (inv ρ))
def ZPc(ρ:W0)(k m:Nat):Bool:=QY ρ&&(ρ.all (λr=>decide (r<m))&&(List.range k).all λi=>decide (ρ[i]? =some i))
section
variable {P:Program} {c:Ctx} {E E0:Env} {os os0:J7} {n:Nat} {Q:Exit->J4->J7->Prop} {φ:J4}
theorem Zf1(R:Rel c E os){id ext off len sz:Nat}{rs:J6}{v:Value}(hv:V E os (.ref id ext off len) v)(ho:os[id]? =some (.frz sz rs))(hl:rs.length=ext):VX E.w E.st (.sl ((rs.drop off).take len)) v:=by
 cases hv with
 |ref hr _=>
  obtain⟨h1,h2⟩:=hr.at ho rfl;obtain⟨h3,b,ad,cap,a',cap',h4,h5,h6,h7,h8,h9,h10,h11⟩:=h2 hl;obtain⟨p,hp,hok⟩:=R.at ho;rw[hp]at h4;cases h4;subst h5;have hok':VX E.w E.st (.sl rs) (.slice ad ext cap):=hok.1;obtain⟨w1,w2,w3,w4,w5,w6⟩:=OK.cap (os:=os) (o:= .frz sz rs) hok rfl rfl;exact hok'.part w4 off len J0 a' cap' h6 h7 h9 h10 (λ_=>h11)
theorem V.vw(R:Rel c E os){d:D}{v:Value}(h:V E os d v):V E os (d.vw os) v:=by
 have lst: ∀ {ds:J8} {vs:Array Value},(∀(j:Nat) (d:D) (v:Value),ds[j]? =some d->vs[j]? =some v->V E os (d.vw os) v)-> ∀(j:Nat) (d:D) (v:Value),(vwL os ds)[j]? =some d->vs[j]? =some v->V E os d v:=by
  intro ds vs ih j d v hd hv;rw[ZJE,YG]at hd;obtain⟨d0,h0,rfl⟩:=Zd hd;exact ih j d0 v h0 hv
 induction h with
 |x h=>exact .x h
 |ref h h1=>
  simp only[D.vw];split
  .rename_i sz rs ho;split
   .rename_i hl;exact .x (Zf1 R (.ref h h1) ho hl)
   .exact .ref h h1
  .exact .ref h h1
 |ptr ho h=>exact .ptr ho h
 |eptr h h1=>exact .eptr h h1
 |mref ho hk h=>exact .mref ho hk h
 |mnil=>exact .mnil
 |iref ho hk h=>exact .iref ho hk h
 |stk ho hk h=>exact .stk ho hk h
 |bref ho h hm=>exact .bref ho h hm
 |vptr b off val hc hv=>exact .vptr b off val hc hv
 |agg vs hl h1 _ ih=>exact .agg vs (by rw[ZJE];simpa using hl) h1 (lst ih)
 |tup vs hl _ ih=>exact .tup vs (by rw[ZJE];simpa using hl) (lst ih)
 |full n h=>exact .full n h
 |nz h=>exact .nz h
 |fn vs hl _ ih=>exact .fn vs (by rw[ZJE];simpa using hl) (lst ih)
 |opt _ h' ih=>exact .opt ih h'
 |und v=>exact .und v
theorem V.on{ρ:W0}{d:D}{v:Value}(h:V E os d v):V E os (d.on ρ) v:=by
 unfold D.on;split
 .exact h
 .exact .und v
theorem Ob.mp_slice(f:D->D)(o:Ob):(o.mp f).sl? =o.sl? :=by cases o<;>simp[Ob.mp,Ob.sl?]
theorem Ob.mp_kd(f:D->D)(o:Ob):(o.mp f).kd=o.kd:=by cases o<;>rfl
theorem Ob.mp_mb(f:D->D)(o:Ob)(q:Nat×Value):(o.mp f).mb q=o.mb q:=by cases o<;>rfl
theorem VC.mp{f:D->D}(hf: ∀d v,V E os d v->V E os (f d) v){ag:Bool}{ds:J8}{v:Value}(h:VC E os ag ds v):VC E os ag (ds.map f) v:=by
 obtain⟨h1,h2,h3⟩:=h;refine⟨?_,by simpa using h2,λj d u hd hu=> ?_⟩
 .cases ag with
  |true=>exact h1
  |false=>simp only[JP,if_false,Yb]at h1|-;exact h1
 .rw[YG]at hd;obtain⟨d0,h0,rfl⟩:=Zd hd;exact⟨hf d0 u (h3 j d0 u h0 hu).1,(h3 j d0 u h0 hu).2⟩
theorem YB.mp{f:D->D}(hf: ∀d v,V E os d v->V E os (f d) v){b:Nat}{dk:KK}{ag:Bool}{l:W2}(h:YB E os b dk ag l):YB E os b dk ag (l.map (mpP f)):=by
 have key: ∀ {κ:Type} [DecidableEq κ] {mk:κ->Value} {kx:κ->J9},ZCC mk kx E os b ag l->ZCC mk kx E os b ag (l.map (mpP f)):=by
  intro κ _ mk kx ⟨l',h1,h2,h3⟩;refine⟨l',h1,by simpa using h2,λi a q ha hq=> ?_⟩;rw[YG]at hq;obtain⟨q0,hq0,rfl⟩:=Zd hq;obtain⟨k1,k2⟩:=h3 i a q0 ha hq0;exact⟨k1,k2.mp hf⟩
 cases dk with
 |int k=>exact key h
 |str=>exact key h
 |st _ _=>exact h.elim
theorem ZFh.mp{f:D->D}(hf: ∀d v,V E os d v->V E os (f d) v){dk:KK}{ag:Bool}{e:MapEntry}{q:Pr}(h:ZFh E os dk ag e q):ZFh E os dk ag e (mpP f q):=⟨h.1,h.2.mp hf⟩
theorem ZM7.mp{f:D->D}(hf: ∀d v,V E os d v->V E os (f d) v){p:Nat×Value}{dk:KK}{ag:Bool}{it:Nat}{R:W2}{cur:Option Pr}(h:ZM7 E os p dk ag it R cur):ZM7 E os p dk ag it (R.map (mpP f)) (cur.map (mpP f)):=by
 obtain⟨ib,cu,es,clk,since,seen,c0,o,h1,h2,h3,h4,h5,h6,h7,h8,h9,h10,h11⟩:=h;refine⟨ib,cu,es,clk,since,seen,c0,o,h1,h2,h3,h4,h5,h6,h7,h8,h9,⟨by simpa using h10.1,λi x q hx hq=> ?_⟩,λq hq=> ?_⟩
 .rw[YG]at hq;obtain⟨q0,hq0,rfl⟩:=Zd hq;exact(h10.2 i x q0 hx hq0).mp hf
 .obtain⟨q0,hq0,rfl⟩:=Zd hq;obtain⟨g1,s',x,g2,g3,g4⟩:=h11 q0 hq0;exact⟨g1,s',x,g2,g3,g4.mp hf⟩
theorem Rel.mp(R:Rel c E os){f:D->D}(hf: ∀d v,V E os d v->V E os (f d) v):Rel c E (os.map (Ob.mp f))/\Evo E os E (os.map (Ob.mp f)):=by
 have at': ∀ {i:Nat} {o:Ob},(os.map (Ob.mp f))[i]? =some o-> ∃o0,os[i]? =some o0/\o=o0.mp f:=λ{i o} h=>by
  rw[YG]at h;obtain⟨o0,h0,rfl⟩:=Zd h;exact⟨o0,h0,rfl⟩
 have ev:Evo E os E (os.map (Ob.mp f)):=⟨λb o h=>⟨h,rfl⟩,λid b cu o k ho hkd hb=>⟨cu,o.mp f,by rw[YG,ho];rfl,by rw[Ob.mp_kd];exact hkd,hb⟩,
  λid o sz rs ho hs=>⟨o.mp f,rs,by rw[YG,ho];rfl,by rw[Ob.mp_slice];exact hs,.inl ⟨rfl,rfl⟩⟩⟩
 refine⟨⟨by simp[R.len],λi o p h1 h2=> ?_,λi j o o' p p' b h1 h2 h3 h4 h5 h6=> ?_,λb off hs=>⟨(R.stm b off hs).1,λi o p h1 h2 h3=> ?_⟩,R.kept,λi o p b h1 h2 h3=> ?_,R.sto⟩,ev⟩
 .obtain⟨o0,h0,rfl⟩:=at' h1;have hok:=R.ok i o0 p h0 h2;cases o0 with
  |box ds=>
   obtain⟨cs,ty,g1,g2,g3⟩:=hok;refine⟨cs,ty,g1,by simpa using g2,λj d v hd hv=> ?_⟩;rw[YG]at hd;obtain⟨d0,hd0,rfl⟩:=Zd hd;exact⟨(hf d0 v (g3 j d0 v hd0 hv).1).mono ev,(g3 j d0 v hd0 hv).2⟩
  |rows fz el sz rs=>exact hok
  |drw el sz rs=>
   obtain⟨xs,g1,g2,g3⟩:=hok;refine⟨xs,by rw[Yb];exact g1,λr hr=> ?_,λi r j d v hr hd hv=> ?_⟩
   .obtain⟨r0,h0,rfl⟩:=YT.1 hr;rw[Yb];exact g2 r0 h0
   .rw[YG]at hr;obtain⟨r0,hr0,rfl⟩:=Zd hr;rw[YG]at hd;obtain⟨d0,hd0,rfl⟩:=Zd hd;exact⟨(hf d0 v (g3 i r0 j d0 v hr0 hd0 hv).1).mono ev,(g3 i r0 j d0 v hr0 hd0 hv).2⟩
  |frz sz rs=>exact hok
  |mpo dk ag l=>exact(hok.mp hf).mono ev rfl
  |mit dk ag l it R cur=>exact⟨(hok.1.mp hf).mono ev rfl,(hok.2.mp hf).mono ev (λ_ _=>rfl)⟩
  |mpn dk ag l key sid=>exact⟨(hok.1.mp hf).mono ev rfl,hok.2.mono ev rfl⟩
  |sit s pos=>exact hok
  |nit=>exact hok
  |itr=>trivial
  |stp=>trivial
  |old _ _=>trivial
  |fam _ _ _=>exact hok
  |dead=>trivial
 .obtain⟨o1,g1,rfl⟩:=at' h1;obtain⟨o2,g2,rfl⟩:=at' h3;rw[Ob.mp_mb]at h5 h6;exact R.dis i j o1 o2 p p' b g1 h2 g2 h4 h5 h6
 .obtain⟨o1,g1,rfl⟩:=at' h1;rw[Ob.mp_mb]at h3;exact(R.stm b off hs).2 i o1 p g1 h2 h3
 .obtain⟨o1,g1,rfl⟩:=at' h1;rw[Ob.mp_mb]at h3;exact R.mbs i o1 p b g1 h2 h3
theorem Ob.mpb_slice(f:D->D)(o:Ob):(o.mpb f).sl? =o.sl? :=by cases o<;>simp[Ob.mpb,Ob.sl?]
theorem Ob.mpb_kd(f:D->D)(o:Ob):(o.mpb f).kd=o.kd:=by cases o<;>rfl
theorem Ob.mpb_mb(f:D->D)(o:Ob)(q:Nat×Value):(o.mpb f).mb q=o.mb q:=by cases o<;>rfl
theorem Rel.mpb(R:Rel c E os){f:D->D}(hf: ∀d v,V E os d v->V E os (f d) v):Rel c E (os.map (Ob.mpb f))/\Evo E os E (os.map (Ob.mpb f)):=by
 have at': ∀ {i:Nat} {o:Ob},(os.map (Ob.mpb f))[i]? =some o-> ∃o0,os[i]? =some o0/\o=o0.mpb f:=λ{i o} h=>by
  rw[YG]at h;obtain⟨o0,h0,rfl⟩:=Zd h;exact⟨o0,h0,rfl⟩
 have ev:Evo E os E (os.map (Ob.mpb f)):=⟨λb o h=>⟨h,rfl⟩,λid b cu o k ho hkd hb=>⟨cu,o.mpb f,by rw[YG,ho];rfl,by rw[Ob.mpb_kd];exact hkd,hb⟩,
  λid o sz rs ho hs=>⟨o.mpb f,rs,by rw[YG,ho];rfl,by rw[Ob.mpb_slice];exact hs,.inl ⟨rfl,rfl⟩⟩⟩
 refine⟨⟨by simp[R.len],λi o p h1 h2=> ?_,λi j o o' p p' b h1 h2 h3 h4 h5 h6=> ?_,λb off hs=>⟨(R.stm b off hs).1,λi o p h1 h2 h3=> ?_⟩,R.kept,λi o p b h1 h2 h3=> ?_,R.sto⟩,ev⟩
 .obtain⟨o0,h0,rfl⟩:=at' h1;have hok:=R.ok i o0 p h0 h2;cases o0 with
  |box ds=>
   obtain⟨cs,ty,g1,g2,g3⟩:=hok;refine⟨cs,ty,g1,by simpa using g2,λj d v hd hv=> ?_⟩;rw[YG]at hd;obtain⟨d0,hd0,rfl⟩:=Zd hd;exact⟨(hf d0 v (g3 j d0 v hd0 hv).1).mono ev,(g3 j d0 v hd0 hv).2⟩
  |rows fz el sz rs=>exact hok
  |drw el sz rs=>
   obtain⟨xs,g1,g2,g3⟩:=hok;refine⟨xs,by rw[Yb];exact g1,λr hr=> ?_,λi r j d v hr hd hv=> ?_⟩
   .obtain⟨r0,h0,rfl⟩:=YT.1 hr;rw[Yb];exact g2 r0 h0
   .rw[YG]at hr;obtain⟨r0,hr0,rfl⟩:=Zd hr;rw[YG]at hd;obtain⟨d0,hd0,rfl⟩:=Zd hd;exact⟨(hf d0 v (g3 i r0 j d0 v hr0 hd0 hv).1).mono ev,(g3 i r0 j d0 v hr0 hd0 hv).2⟩
  |frz sz rs=>exact hok
  |mpo dk ag l=>exact YB.mono ev rfl hok
  |mit dk ag l it R cur=>exact⟨YB.mono ev rfl hok.1,hok.2.mono ev (λ_ _=>rfl)⟩
  |mpn dk ag l key sid=>exact⟨YB.mono ev rfl hok.1,hok.2.mono ev rfl⟩
  |sit s pos=>exact hok
  |nit=>exact hok
  |itr=>trivial
  |stp=>trivial
  |old _ _=>trivial
  |fam _ _ _=>exact hok
  |dead=>trivial
 .obtain⟨o1,g1,rfl⟩:=at' h1;obtain⟨o2,g2,rfl⟩:=at' h3;rw[Ob.mpb_mb]at h5 h6;exact R.dis i j o1 o2 p p' b g1 h2 g2 h4 h5 h6
 .obtain⟨o1,g1,rfl⟩:=at' h1;rw[Ob.mpb_mb]at h3;exact(R.stm b off hs).2 i o1 p g1 h2 h3
 .obtain⟨o1,g1,rfl⟩:=at' h1;rw[Ob.mpb_mb]at h3;exact R.mbs i o1 p b g1 h2 h3
theorem Rel.frzL: ∀(l:W0) {E:Env} {os:J7},Rel c E os-> ∃st',Rel c ⟨E.w,st',E.ob⟩ (frzL l os)/\Evo E os ⟨E.w,st',E.ob⟩ (frzL l os)/\(Go.Ab.frzL l os).length=os.length
 | [],E,os,R=>⟨E.st,R,Evo.refl _ _,rfl⟩
 |i::l,E,os,R=>by
  simp only[Go.Ab.frzL];split
  .rename_i fz e sz rs ho;obtain⟨p,hp,_⟩:=R.at ho;obtain⟨R1,e1⟩:=R.freeze ho hp;obtain⟨st',R2,e2,hl⟩:=Rel.frzL l R1;exact⟨st',R2,e1.trans e2,by simpa using hl⟩
  .exact Rel.frzL l R
theorem Rel.pickO{ρ:W0}(R:Rel c E os)(hn:ρ.Nodup)(hlt: ∀r∈ρ,r<os.length)(hcl: ∀r∈ρ,(os.getD r .dead).inP (λi=>Zq i ρ)=true):Rel c (fpE ρ E) (YW ρ os):=by
 have R1:=ZZI R hn hlt hcl;refine⟨R1.len,R1.ok,R1.dis,R1.stm,R.kept,λi o p b h1 h2 h3=> ?_,R.sto⟩;obtain⟨r,o0,p0,k1,k2,rfl,k4,k5⟩:=ZKN R hlt h1;rw[h2]at k5;cases k5;rw[Ob.ren_mb]at h3;exact R.mbs r o0 p b k2 k4 h3
theorem Ob.onI_spec(ρ:W0)(o:Ob):(o.onI ρ).kd=o.kd/\(o.onI ρ).sl? =o.sl? /\(∀p b,(o.onI ρ).mb p b->o.mb p b)/\ ∀(E:Env) (os:J7) p,OK E os o p->OK E os (o.onI ρ) p:=by
 cases o with
 |mit dk ag l it R cur=>
  simp only[Ob.onI];split
  .exact⟨rfl,rfl,λ_ _ h=>h,λ_ _ _ h=>h⟩
  .exact⟨rfl,rfl,λ_ _ h=> .inl h,λ_ _ _ h=>h.1⟩
 |mpn dk ag l key sid=>
  simp only[Ob.onI];split
  .exact⟨rfl,rfl,λ_ _ h=>h,λ_ _ _ h=>h⟩
  .exact⟨rfl,rfl,λ_ _ h=>h,λ_ _ _ h=>h.1⟩
 |_=>exact⟨rfl,rfl,λ_ _ h=>h,λ_ _ _ h=>h⟩
theorem Rel.thaws(R:Rel c E os)(ρ:W0):Rel c E (os.map (Ob.onI ρ))/\Evo E os E (os.map (Ob.onI ρ)):=by
 have at': ∀ {i:Nat} {o:Ob},(os.map (Ob.onI ρ))[i]? =some o-> ∃o0,os[i]? =some o0/\o=o0.onI ρ:=λ{i o} h=>by
  rw[YG]at h;obtain⟨o0,h0,rfl⟩:=Zd h;exact⟨o0,h0,rfl⟩
 have ev:Evo E os E (os.map (Ob.onI ρ)):=⟨λb o h=>⟨h,rfl⟩,λid b cu o k ho hkd hb=>⟨cu,o.onI ρ,by rw[YG,ho];rfl,by rw[(Ob.onI_spec ρ o).1];exact hkd,hb⟩,
  λid o sz rs ho hs=>⟨o.onI ρ,rs,by rw[YG,ho];rfl,by rw[(Ob.onI_spec ρ o).2.1];exact hs,.inl ⟨rfl,rfl⟩⟩⟩
 refine⟨⟨by simp[R.len],λi o p h1 h2=> ?_,λi j o o' p p' b h1 h2 h3 h4 h5 h6=> ?_,λb off hs=>⟨(R.stm b off hs).1,λi o p h1 h2 h3=> ?_⟩,R.kept,λi o p b h1 h2 h3=> ?_,R.sto⟩,ev⟩
 .obtain⟨o0,h0,rfl⟩:=at' h1;exact((Ob.onI_spec ρ o0).2.2.2 E os p (R.ok i o0 p h0 h2)).mono ev (λ_ _=>rfl)
 .obtain⟨o1,g1,rfl⟩:=at' h1;obtain⟨o2,g2,rfl⟩:=at' h3;exact R.dis i j o1 o2 p p' b g1 h2 g2 h4 ((Ob.onI_spec ρ o1).2.2.1 _ _ h5) ((Ob.onI_spec ρ o2).2.2.1 _ _ h6)
 .obtain⟨o1,g1,rfl⟩:=at' h1;exact(R.stm b off hs).2 i o1 p g1 h2 ((Ob.onI_spec ρ o1).2.2.1 _ _ h3)
 .obtain⟨o1,g1,rfl⟩:=at' h1;exact R.mbs i o1 p b g1 h2 ((Ob.onI_spec ρ o1).2.2.1 _ _ h3)
theorem ZW3{ρ:W0}(d:D):(d.on ρ).inP (λi=>Zq i ρ)=true:=by
 unfold D.on;split
 .assumption
 .rfl
theorem Zfr(ρ:W0)(os:J7)(φ:J4)(t:Nat):get (ZA4 ρ os φ) t=(onF ρ os (get φ t)).ren (inv ρ):=by
 induction φ with
 |nil=>rfl
 |cons p φ ih=>
  obtain⟨u,d⟩:=p;simp only[ZA4,YO,get];split
  .rfl
  .exact ih
def Wk(c:Ctx)(E0:Env)(os0:J7)(n:Nat)(φ:J4)(os:J7)(φ':J4)(os':J7):Prop:=
 ∀(E:Env) (a:Act),Run c E0 os0 E os->Fr n E os φ a-> ∃E',E'.w=E.w/\Run c E0 os0 E' os'/\Fr n E' os' φ' a
theorem Wk.pick(ρ:W0)(hok:ZPc ρ os0.length os.length=true):Wk c E0 os0 n φ os (ZA4 ρ os φ) (ZCs ρ os):=by
 simp only[ZPc,ZT]at hok;obtain⟨h1,h2,h3⟩:=hok;have hn:=ZIM h1;have hlt: ∀r∈ρ,r<os.length:=λr hr=>by simpa using Yc.1 h2 r hr
 have hpre: ∀i,i<os0.length->ρ[i]? =some i:=λi hi=>by simpa using Yc.1 h3 i (ZHL.2 hi)
 intro E a R hf;obtain⟨R0,e0⟩:=R.rel.mp (f:=onF ρ os) (λd v hd=>(hd.vw R.rel).on);obtain⟨R1,e1'⟩:=R0.thaws ρ;have e1:=e0.trans e1';have hlt1: ∀r∈ρ,r<((os.map (Ob.mp (onF ρ os))).map (Ob.onI ρ)).length:=λr hr=>by simpa using hlt r hr
 have hon: ∀ds:J8,Yr (λi=>Zq i ρ) (ds.map (onF ρ os))=true:=λds=>by
  rw[ZBC];refine Yc.2 (λd hd=> ?_);obtain⟨d0,_,rfl⟩:=YT.1 hd;exact ZW3 _
 have honM: ∀l:W2,(l.map (mpP (onF ρ os))).all (ZAT (λi=>Zq i ρ))=true:=λl=>by
  refine Yc.2 (λq hq=> ?_);obtain⟨q0,_,rfl⟩:=YT.1 hq;exact hon _
 have hcl: ∀r∈ρ,(((os.map (Ob.mp (onF ρ os))).map (Ob.onI ρ)).getD r .dead).inP (λi=>Zq i ρ)=true:=λr hr=>by
  have hl:=hlt r hr;simp only[List.getD,YG,YC hl,Yl,ξW];cases os[r]with
  |box ds=>exact hon ds
  |drw e sz rs=>
   refine Yc.2 (λr hr=> ?_);obtain⟨r0,_,rfl⟩:=YT.1 hr;exact hon r0
  |mpo dk ag l=>exact honM l
  |mit dk ag l it R cur=>
   simp only[Ob.mp,Ob.onI];split
   .rename_i hm;simp only[Ob.inP,ZT];refine⟨honM l,hm,honM R,?_⟩;cases cur with
    |none=>rfl
    |some q=>exact hon _
   .exact honM l
  |mpn dk ag l key sid=>
   simp only[Ob.mp,Ob.onI];split
   .rename_i hm;simp only[Ob.inP,ZT];exact⟨honM l,hm⟩
   .exact honM l
  |_=>rfl
 have R2:=R1.pickO hn hlt1 hcl;have e2:=ZLc (ρ:=ρ) R1 hlt1;refine⟨fpE ρ E,rfl,⟨R2,?_⟩,hf.size,hf.defers,λt=> ?_⟩
 .have e01:=R.evo.trans e1;have hl01:os0.length<=((os.map (Ob.mp (onF ρ os))).map (Ob.onI ρ)).length:=by
   rcases ZPk os0.length with h0|h0
   .omega
   .have:=hlt _ (Yj (hpre (os0.length-1) J0));simp only[Yb];omega
  have hinv: ∀i,i<os0.length->inv ρ i=i/\Zq i ρ=true:=λi hi=>⟨ZLi hn (hpre i hi),ZBp.2 (Yj (hpre i hi))⟩
  refine⟨e01.st,λid b cu ds k ho hkd hb=> ?_,λid o sz rs ho hs=> ?_⟩
  .have hi:=(Zb ho).1;obtain⟨cu1,ds1,k1,kd1,k2⟩:=e01.bl id b cu ds k ho hkd hb;obtain⟨w1,w2⟩:=hinv id hi;obtain⟨cu2,ds2,k3,kd2,k4⟩:=e2.bl id b cu1 ds1 k w2 k1 kd1 k2;rw[w1]at k3 k4;exact⟨cu2,ds2,k3,kd2,k4⟩
  .have hi:=(Zb ho).1;obtain⟨o1,rs1,k1,k2,k3⟩:=e01.rf id o sz rs ho hs;obtain⟨w1,w2⟩:=hinv id hi;obtain⟨o2,rs2,k4,k5,k6⟩:=e2.rf id o1 sz rs1 w2 k1 k2;rw[w1]at k4 k6;refine⟨o2,rs2,k4,k5,?_⟩;rcases k3 with⟨k3,k3'⟩|k3<;>rcases k6 with⟨k6,k6'⟩|k6
   .exact .inl ⟨k3.trans k6,k6'.trans k3'⟩
   .exact .inr J0
   .exact .inr J0
   .exact .inr J0
 .have h0:V E os (onF ρ os (get φ t)) (a.tmps.getD t undef):=((hf.slot t).vw R.rel).on;have h1:V (fpE ρ E) (YW ρ ((os.map (Ob.mp (onF ρ os))).map (Ob.onI ρ))) ((onF ρ os (get φ t)).ren (inv ρ)) (a.tmps.getD t undef):=(h0.mono e1).monoR e2 (ZW3 _);rw[Zfr];exact h1
theorem Wk.freeze(l:W0):Wk c E0 os0 n φ os φ (frzL l os):=by
 intro E a R hf;obtain⟨st',R1,e1,_⟩:=R.rel.frzL l;exact⟨⟨E.w,st',E.ob⟩,rfl,⟨R1,R.evo.trans e1⟩,hf.mono e1⟩
theorem WI.pick(ρ:W0){ic:IC}(hok:ZPc ρ os0.length os.length=true)(h:WI P c E0 os0 n ic Q (ZA4 ρ os φ) (ZCs ρ os)):WI P c E0 os0 n ic Q φ os:=WI.weak (Wk.pick ρ hok) h
theorem WI.freeze(l:W0){ic:IC}(h:WI P c E0 os0 n ic Q φ (frzL l os)):WI P c E0 os0 n ic Q φ os:=WI.weak (Wk.freeze l) h
theorem ZB{next:J4->J7->Prop}(h:next φ os):ZHt next Q .normal φ os:=h
theorem KP{next:J4->J7->Prop}{i:Nat}(h:Q (.exit i) φ os):ZHt next Q (.exit i) φ os:=h
theorem Yy{next:J4->J7->Prop}(h:Q .ret φ os):ZHt next Q .ret φ os:=h
theorem ZBx{i:Nat}(h:Q .normal φ os):ZG1 i Q (.exit i) φ os:=by show(if i=i then Q .normal φ os else Q (.exit i) φ os);rw[if_pos rfl];exact h
theorem ZT0{i j:Nat}(hne:j≠i)(h:Q (.exit j) φ os):ZG1 i Q (.exit j) φ os:=by show(if j=i then Q .normal φ os else Q (.exit j) φ os);rw[if_neg hne];exact h
theorem ZAA{i:Nat}(h:Q .ret φ os):ZG1 i Q .ret φ os:=h
theorem QR{i:Nat}(h:Q .normal φ os):ZG1 i Q .normal φ os:=h
theorem ZSX{l:Nat}{J:J4->J7->Prop}(h:Q .normal φ os):ZNr l J Q .normal φ os:=h
theorem ZVj{l i:Nat}{J:J4->J7->Prop}(h:Q (.exit i) φ os):ZNr l J Q (.exit i) φ os:=h
theorem ZZb{l:Nat}{J:J4->J7->Prop}(h:Q .ret φ os):ZNr l J Q .ret φ os:=h
def D.nn:D->D
 | .x .nils=> .x (.sl [])
 |d=>d
theorem VX.nn{w:World}{st:Nat->Nat->Prop}{v:Value}(h:VX w st .nils v):VX w st (.sl []) v:=by
 cases h;exact .sl [] none 0 0 0 (λ_ _=>undef) rfl (Zm _) (KE _) (λr hr=>by cases hr) (λi j hi=>J0) (λ_=>⟨rfl,rfl⟩) (λ_ ad h=>by cases h) (λi j r x hr=>by simp at hr)
theorem V.nn{d:D}{v:Value}(h:V E os d v):V E os d.nn v:=by
 unfold D.nn;split
 .exact .x h.xx.nn
 .exact h
theorem VL.nn{ds:J8}{vs:Array Value}(h:VL E os ds vs):VL E os (ds.map D.nn) vs:=by
 refine⟨by simpa using h.1,λj d v hd hv=> ?_⟩;rw[YG]at hd;obtain⟨d0,h0,rfl⟩:=Zd hd;exact(h.2 j d0 v h0 hv).nn
theorem ZC.nn{f:FuncId}{args:J8}{r:D}(h:ZC P f (args.map D.nn) r):ZC P f args r:=λw st vs hst hvl=>h w st vs hst hvl.nn
def D.na:D->D
 | .agg ds=> .agg (ds.map D.nn)
 | .x y=>D.nn (.x y)
 | .ref a b c d=> .ref a b c d
 | .ptr a b=> .ptr a b
 | .eptr a b c d=> .eptr a b c d
 | .vptr cs=> .vptr cs
 | .mref a=> .mref a
 | .mnil=> .mnil
 | .iref a b=> .iref a b
 | .stk a b=> .stk a b
 | .bref a b c=> .bref a b c
 | .tup ds=> .tup ds
 | .full rs=> .full rs
 | .nz rs=> .nz rs
 | .fn f c=> .fn f c
 | .opt b d=> .opt b d
 | .und=> .und
theorem V.na{d:D}{v:Value}(h:V E os d v):V E os d.na v:=by
 unfold D.na;split
 .cases h with
  |agg cs hl h1 hv=>exact .agg cs (by simpa using hl) h1 (λj d v hd hv'=>by
    rw[YG]at hd;obtain⟨d0,h0,rfl⟩:=Zd hd;exact(hv j d0 v h0 hv').nn)
 .exact h.nn
 all_goals exact h
theorem VL.na{ds:J8}{vs:Array Value}(h:VL E os ds vs):VL E os (ds.map D.na) vs:=by
 refine⟨by simpa using h.1,λj d v hd hv=> ?_⟩;rw[YG]at hd;obtain⟨d0,h0,rfl⟩:=Zd hd;exact(h.2 j d0 v h0 hv).na
theorem ZC.na{f:FuncId}{args:J8}{r:D}(h:ZC P f (args.map D.na) r):ZC P f args r:=λw st vs hst hvl=>h w st vs hst hvl.na
theorem ZN.nn{f:FuncId}{args:J8}{r:D}{os':J7}(h:ZN P f (args.map D.nn) (os.map (Ob.mpb D.nn)) r os'):ZN P f args os r os':=by
 intro c E vs R hvl;obtain⟨R1,e1⟩:=R.mpb (f:=D.nn) (λd v hd=>hd.nn);refine(h c E vs R1 ⟨hvl.nn.1,λj d v hd hv=>(hvl.nn.2 j d v hd hv).mono e1⟩).mono ?_;rintro e w' ⟨v,E',rfl,rfl,R',ev,hv⟩;exact⟨v,E',rfl,rfl,R',e1.trans ev,hv⟩
def ZDr(φ:J4):J4:=φ.map λp=>(p.1,p.2.nn)
theorem ZhA(φ:J4)(t:Nat):get (ZDr φ) t=(get φ t).nn:=by
 induction φ with
 |nil=>rfl
 |cons p φ ih=>
  obtain⟨u,d⟩:=p;simp only[ZDr,YO,get];split
  .rfl
  .exact ih
theorem Wk.nn:Wk c E0 os0 n φ os (ZDr φ) (os.map (Ob.mpb D.nn)):=by
 intro E a R hf;obtain⟨R1,e1⟩:=R.rel.mpb (f:=D.nn) (λd v hd=>hd.nn);exact⟨E,rfl,⟨R1,R.evo.trans e1⟩,hf.size,hf.defers,λt=>by rw[ZhA];exact((hf.slot t).nn).mono e1⟩
theorem WI.nn{ic:IC}(h:WI P c E0 os0 n ic Q (ZDr φ) (os.map (Ob.mpb D.nn))):WI P c E0 os0 n ic Q φ os:=WI.weak Wk.nn h
def ZK(N:Int)(t:Nat)(φ:J4)(_:J7):Nat:=(N-((ZE (get φ t).val).getD 0)).toNat
end
def ZFv(S T:Tabs):Tabs where
 q f args:=match S.q f args with
  |some (true,r)=>some (true,r)
  |_=>T.q f args
 t f args os:=match S.t f args os with
  |some (true,r)=>some (true,r)
  |_=>T.t f args os
 r f args os:=match S.r f args os with
  |some (true,r)=>some (true,r)
  |_=>T.r f args os
 k f args os:=match S.k f args os with
  |some (true,r)=>some (true,r)
  |_=>T.k f args os
theorem ZXH{P:Program}{S T:Tabs}(hS:SsOk P S)(hT:SsOk P T):SsOk P (ZFv S T):=by
 constructor
 .intro f args r h;simp only[ZFv]at h;split at h
  .rename_i r' h1;cases h;exact hS.q _ _ _ h1
  .exact hT.q _ _ _ h
 .intro f args os r os' h;simp only[ZFv]at h;split at h
  .rename_i r' h1;cases h;exact hS.t _ _ _ _ _ h1
  .exact hT.t _ _ _ _ _ h
 .intro f args os r h;simp only[ZFv]at h;split at h
  .rename_i r' h1;cases h;exact hS.r _ _ _ _ h1
  .exact hT.r _ _ _ _ h
 .intro f args os r ob h;simp only[ZFv]at h;split at h
  .rename_i r' h1;cases h;exact hS.k _ _ _ _ _ h1
  .exact hT.k _ _ _ _ _ h
def ZFi(nq:List FuncId)(G:FuncId->Option IFn)(run:IC->J4->J7->Option Out)(b:Bool):Tabs where
 q f args:=if(b&& !QE f nq)=true then(G f).bind λp=>(ZGO true run p args []).bind λr=>if r.1.clean then some (true,r.1)else none else none
 t f args os:=(G f).bind λp=>(ZGO false run p args os).map λr=>(true,r)
 r f args os:=if(b&& !QE f nq)=true then(G f).bind λp=>JI (λargs os=>(ZGO true run p args os).bind λq=>if q.1.clean&&Ky os q.2 then some (true,q.1)else none) args os else none
 k f args os:=if b then(G f).bind λp=>ZFB (λargs os=>(ZGO false run p args os).bind λq=>match q.2.drop os.length with
   | [.rows fz e sz rs]=>if Ky os q.2 then some (true,q.1,.rows fz e sz rs)else none
   |_=>none) args os else none
def ZjC(os:J7):Bool:=os.any λo=>match o with
 | .rows _ _ _ _=>true
 |_=>false
def ZgF(os:J7):W0:=List.range os.length
def idD:D->W0
 | .ref i _ _ _=> [i]
 | .ptr i _=> [i]
 |_=> []
def Zgf(φ:J4)(os:J7):W0:=(φ.flatMap λp=>idD p.2).flatMap λi=>match(os[i]? :Option Ob)with
 |some (.box l)=>l.flatMap idD
 |some (.rows _ _ _ _)=> [i]
 |_=> []
def ZRL(φ:J4)(f:J7->Option (Bool×List (Nat×D)×J7))(os:J7):Option Out:=match f os with
 |some (true,r)=>some (.normal,r)
 |_=>if ZjC os=true then match f (frzL (Zgf φ os) os)with
  |some (true,r)=>some (.normal,r)
  |_=>match f (frzL (ZgF os) os)with
   |some (true,r)=>some (.normal,r)
   |_=>none
  else none
theorem ZSZ{P:Program}{c:Ctx}{E0:Env}{os0 os:J7}{n:Nat}{Q:Exit->J4->J7->Prop}{φ:J4}{ic:IC}{f:J7->Option (Bool×List (Nat×D)×J7)}(hf: ∀os r,f os=some (true,r)-> ∀Q':Exit->J4->J7->Prop,Q' .normal r.1 r.2->WI P c E0 os0 n ic Q' φ os){x:Exit}{φ':J4}{os':J7}(h:ZRL φ f os=some (x,φ',os'))(hq:Q x φ' os'):WI P c E0 os0 n ic Q φ os:=by
 unfold ZRL at h;split at h
 .rename_i r hr;cases h;exact hf _ _ hr _ hq
 .split at h
  .split at h
   .rename_i r hr;cases h;exact WI.freeze (Zgf φ os) (hf _ _ hr _ hq)
   .split at h
    .rename_i r hr;cases h;exact WI.freeze (ZgF os) (hf _ _ hr _ hq)
    .cases h
  .cases h
def ev(S0:Tabs)(nq:List FuncId)(G:FuncId->Option IFn):Nat->IC->J4->J7->Option Out
 |0,_,_,_=>none
 |n+1,ic,φ,os=>match ic with
  | .skip=>some (.normal,φ,os)
  | .reg l=>ZRL φ (λos=>ZBE (ZFv S0 (ZFi nq G (ev S0 nq G n) false)) φ os l) os
  | .dreg k rs k2 rs2 l=>ZRL φ (λos=>match ZHj none (ZFv S0 (ZFi nq G (ev S0 nq G n) true)) φ os k rs l with
   |some (true,r)=>some (true,r)
   |_=>ZHj (some []) (ZFv S0 (ZFi nq G (ev S0 nq G n) true)) φ os k2 rs2 l) os
  | .seq a b=>(ev S0 nq G n a φ os).bind λr=>match r.1 with
   | .normal=>ev S0 nq G n b r.2.1 r.2.2
   |_=>some r
  | .cond x a b=>match(ZF φ x).val with
   | .x (.bool v)=>if(ZF φ x).cond then(if v then ev S0 nq G n a φ os else ev S0 nq G n b φ os)else none
   |_=>none
  | .block i b=>(ev S0 nq G n b φ os).map λr=>match r.1 with
   | .exit j=>if j=i then(.normal,r.2)else r
   |_=>r
  | .loop b=>(ev S0 nq G n b φ os).bind λr=>match r.1 with
   | .normal=>ev S0 nq G n (.loop b) r.2.1 r.2.2
   |_=>some r
  | .exit i=>some (.exit i,φ,os)
  | .ret=>some (.ret,φ,os)
  | .label _=>some (.normal,φ,os)
  | .goto l=>some (.goto l,φ,os)
  | .scope b cur=>(ev S0 nq G n cur φ os).bind λr=>match r.1 with
   | .goto l=>match ZFN b l with
    |some rest=>ev S0 nq G n (.scope b rest) r.2.1 r.2.2
    |none=>none
   |_=>some r
  | .dead=>none
section
variable {P:Program} {G:FuncId->Option IFn}
theorem ZXV{nq:List FuncId}(hG:GOk P G){run:IC->J4->J7->Option Out}(hr:Zcf P run)(b:Bool):SsOk P (ZFi nq G run b):=by
 constructor
 .intro f args r h;simp only[ZFi]at h;split at h
  .obtain⟨p,hp,h⟩:=Zp h;obtain⟨⟨r',os'⟩,h1,h⟩:=Zp h;simp only at h;split at h
   .rename_i hcl;cases h;obtain⟨k1,k2⟩:=ZHP hG hr hp h1;refine⟨k1,ZI.pure (λc E vs R hvl=>(k2 c E vs R hvl).mono ?_) hcl⟩;rintro e w' ⟨v,E',r2,os2,rfl,rfl,R',e',hv,rfl,rfl⟩;exact⟨v,E',_,_,rfl,rfl,R',e',hv,rfl⟩
   .cases h
  .cases h
 .intro f args os r os' h;simp only[ZFi,JD]at h;obtain⟨p,hp,h⟩:=h;obtain⟨⟨r',os2⟩,h1,h⟩:=Zd h;simp at h;obtain⟨rfl,rfl⟩:=h;obtain⟨k1,k2⟩:=ZHP hG hr hp h1;exact⟨k1,k2.mcalls⟩
 .intro f args os r h;simp only[ZFi]at h;split at h
  .obtain⟨p,hp,h⟩:=Zp h;obtain⟨fn,w1,w2,w3⟩:=hG f p hp;refine⟨enters w1 w2 w3,ZM6 (λargs os r hg=> ?_) args os r h⟩;obtain⟨⟨r',os'⟩,h1,h2⟩:=Zp hg;simp only at h2;split at h2
   .rename_i hcl;simp only[ZT]at hcl;cases h2;obtain⟨X,rfl⟩:=ZJa hcl.2;exact⟨hcl.1,X,(ZHP hG hr hp h1).2.mcalls⟩
   .cases h2
  .cases h
 .intro f args os r ob h;simp only[ZFi]at h;split at h
  .obtain⟨p,hp,h⟩:=Zp h;obtain⟨fn,w1,w2,w3⟩:=hG f p hp;refine⟨enters w1 w2 w3,ZVG (λargs os r ob hg=> ?_) args os r ob h⟩;obtain⟨⟨r',os'⟩,h1,h2⟩:=Zp hg;simp only at h2;split at h2
   .rename_i fz e sz rs hdrop;split at h2
    .rename_i hpre;simp only[Ze,Za,true_and]at h2;obtain⟨rfl,rfl⟩:=h2;obtain⟨X,rfl⟩:=ZJa hpre;rw[List.drop_left]at hdrop;subst hdrop;exact⟨⟨fz,e,sz,rs,rfl⟩,(ZHP hG hr hp h1).2.mcalls⟩
    .cases h2
   .cases h2
  .cases h
theorem ZiA{S0:Tabs}{nq:List FuncId}(h0:SsOk P S0)(hG:GOk P G): ∀n,Zcf P (ev S0 nq G n)/\(∀b cur φ os x φ' os',ev S0 nq G n (.scope b cur) φ os=some (x,φ',os')-> ∀(c:Ctx) (E0:Env) (os0:J7) (m:Nat) (code rc:Code),Zj P m code=some b->Zj P m rc=some cur-> ∀(E:Env) (a:Act),Run c E0 os0 E os->Fr m E os φ a->
  ZOy P code rc (λy a' w'=> ∃E2 φ2 os2,E2.w=w'/\Run c E0 os0 E2 os2/\Fr m E2 os2 φ2 a'/\y=x/\φ2=φ'/\os2=os') a E.w)/\ ∀b φ os x φ' os',ev S0 nq G n (.loop b) φ os=some (x,φ',os')-> ∀(c:Ctx) (E0:Env) (os0:J7) (m:Nat) (code:Code),Zj P m code=some b-> ∀(E:Env) (a:Act),Run c E0 os0 E os->Fr m E os φ a->
  Code.rounds P code (λy a' w'=> ∃E2 φ2 os2,E2.w=w'/\Run c E0 os0 E2 os2/\Fr m E2 os2 φ2 a'/\y=x/\φ2=φ'/\os2=os') n a E.w:=by
 intro n
 induction n with
 |zero=>exact⟨λ_ _ _ _ _ _ h=>(by cases h),λ_ _ _ _ _ _ _ h=>(by cases h),λ_ _ _ _ _ _ h=>(by cases h)⟩
 |succ n ih=>
  obtain⟨ih1,ih3,ih2⟩:=ih;have hS:=λb=>ZXH h0 (ZXV (nq:=nq) hG ih1 b)
  have B: ∀b φ os x φ' os',ev S0 nq G (n+1) (.loop b) φ os=some (x,φ',os')-> ∀(c:Ctx) (E0:Env) (os0:J7) (m:Nat) (code:Code),Zj P m code=some b-> ∀(E:Env) (a:Act),Run c E0 os0 E os->Fr m E os φ a->
    Code.rounds P code (λy a' w'=> ∃E2 φ2 os2,E2.w=w'/\Run c E0 os0 E2 os2/\Fr m E2 os2 φ2 a'/\y=x/\φ2=φ'/\os2=os') (n+1) a E.w:=by
   intro b φ os x φ' os' h c E0 os0 m code hc E a R hf;simp only[ev,JD]at h;obtain⟨⟨y,φ1,os1⟩,h1,h⟩:=h;rw[rounds_succ];refine Code.wp_mono ?_ (ih1 b φ os y φ1 os1 h1 c E0 os0 m code hc E a R hf);rintro e a' w' ⟨E',φ2,os2,rfl,R2,f2,rfl,rfl,rfl⟩;cases e<;>simp only at h<;>first
    |exact ih2 _ _ _ _ _ _ h c E0 os0 m code hc E' a' R2 f2
    |(cases h;exact⟨E',_,_,rfl,R2,f2,rfl,rfl,rfl⟩)
  have S: ∀b cur φ os x φ' os',ev S0 nq G (n+1) (.scope b cur) φ os=some (x,φ',os')-> ∀(c:Ctx) (E0:Env) (os0:J7) (m:Nat) (code rc:Code),Zj P m code=some b->Zj P m rc=some cur-> ∀(E:Env) (a:Act),Run c E0 os0 E os->Fr m E os φ a->
    ZOy P code rc (λy a' w'=> ∃E2 φ2 os2,E2.w=w'/\Run c E0 os0 E2 os2/\Fr m E2 os2 φ2 a'/\y=x/\φ2=φ'/\os2=os') a E.w:=by
   intro b cur φ os x φ' os' h c E0 os0 m code rc hcb hcc E a R hf;simp only[ev,JD]at h;obtain⟨⟨y,φ1,os1⟩,h1,h⟩:=h;refine ZKu (Code.wp_mono ?_ (ih1 cur φ os y φ1 os1 h1 c E0 os0 m rc hcc E a R hf));rintro e a' w' ⟨E',φ2,os2,rfl,R2,f2,rfl,rfl,rfl⟩;cases e with
   |goto l=>
    simp only at h|-;cases hfi:ZFN b l with
    |none=>rw[hfi]at h;cases h
    |some rest=>
     rw[hfi]at h;obtain⟨rc',k1,k2⟩:=(ZHr b code hcb l).1 rest hfi;exact⟨rc',k1,ih3 b rest _ _ _ _ _ h c E0 os0 m code rc' hcb k2 E' a' R2 f2⟩
   |_=>simp only at h;cases h;exact⟨E',_,_,rfl,R2,f2,rfl,rfl,rfl⟩
  refine⟨λic φ os x φ' os' h c E0 os0 m=> ?_,S,B⟩;cases ic with
  |skip=>simp only[ev]at h;cases h;exact WI.skip ⟨rfl,rfl,rfl⟩
  |ret=>simp only[ev]at h;cases h;exact WI.ret ⟨rfl,rfl,rfl⟩
  |exit i=>simp only[ev]at h;cases h;exact WI.exit ⟨rfl,rfl,rfl⟩
  |label l=>simp only[ev]at h;cases h;exact WI.label ⟨rfl,rfl,rfl⟩
  |goto l=>simp only[ev]at h;cases h;exact WI.goto ⟨rfl,rfl,rfl⟩
  |dead=>simp only[ev]at h;cases h
  |scope b cur=>
   intro code hc E a R hf;obtain⟨cb,rfl,h1,rfl⟩:=ZKw hc;exact ZOj (S _ _ φ os x φ' os' h c E0 os0 m cb cb h1 h1 E a R hf)
  |reg l=>
   simp only[ev]at h;exact ZSZ (λos r hr Q' hq=>WI.reg' (hS _) hr rfl hq) h ⟨rfl,rfl,rfl⟩
  |dreg k rs k2 rs2 l=>
   simp only[ev]at h;refine ZSZ (λos r hr Q' hq=> ?_) h ⟨rfl,rfl,rfl⟩;split at hr
   .rename_i h1;cases hr;exact WI.dreg' (hS _) (.inl h1) rfl hq (λ_ _ f=>f)
   .exact WI.dreg' (hS _) (.inr hr) rfl hq (λ_ _ f=>f)
  |seq a b=>
   simp only[ev,JD]at h;obtain⟨⟨y,φ1,os1⟩,h1,h⟩:=h;refine WI.seq (WI.mono (ih1 _ _ _ _ _ _ h1 c E0 os0 m) ?_);rintro e φ2 os2 ⟨rfl,rfl,rfl⟩;cases e<;>simp only at h<;>first
    |exact ih1 _ _ _ _ _ _ h c E0 os0 m
    |(cases h;exact⟨rfl,rfl,rfl⟩)
  |cond x a b=>
   simp only[ev]at h;split at h
   .rename_i v hv;split at h
    .rename_i hcd;refine WI.cond hv hcd (λhb=> ?_) (λhb=> ?_)
     .subst hb;exact ih1 _ _ _ _ _ _ h c E0 os0 m
     .subst hb;exact ih1 _ _ _ _ _ _ h c E0 os0 m
    .cases h
   .cases h
  |block i b=>
   simp only[ev,ξm]at h;obtain⟨⟨y,φ1,os1⟩,h1,h⟩:=h;refine WI.block (WI.mono (ih1 _ _ _ _ _ _ h1 c E0 os0 m) ?_);rintro e φ2 os2 ⟨rfl,rfl,rfl⟩;cases e with
   |exit j=>
    simp only at h;simp only[ZG1];split at h
    .rename_i hj;rw[if_pos hj];cases h;exact⟨rfl,rfl,rfl⟩
    .rename_i hj;rw[if_neg hj];cases h;exact⟨rfl,rfl,rfl⟩
   |_=>simp only at h;cases h;exact⟨rfl,rfl,rfl⟩
  |loop b=>
   intro code hc E a R hf;obtain⟨cb,rfl,h1⟩:=ZKJ hc;exact wp_loop_rounds (n+1) (B b φ os x φ' os' h c E0 os0 m cb h1 E a R hf)
theorem Zec{S0:Tabs}{nq:List FuncId}(h0:SsOk P S0)(hG:GOk P G)(n:Nat){f:FuncId}{p:IFn}(hp:G f=some p){args:J8}{os':J7}{r:D}(h:ZGO true (ev S0 nq G n) p args []=some (r,os'))(hcl:r.clean=true):Enters P f/\ZC P f args r:=
 let k:=ZHP hG (ZiA h0 hG n).1 hp h
 ⟨k.1,ZI.pure (λc E vs R hvl=>(k.2 c E vs R hvl).mono (by
  rintro e w' ⟨v,E',r2,os2,rfl,rfl,R',e',hv,rfl,rfl⟩;exact⟨v,E',_,_,rfl,rfl,R',e',hv,rfl⟩)) hcl⟩
theorem ZWu{P:Program}{G:FuncId->Option IFn}(hG:GOk P G)(n:Nat){f:FuncId}{p:IFn}(hp:G f=some p){S0:Tabs}(h0:SsOk P S0)(nq:List FuncId){args:J8}{r:D}(h:(ZGO true (ev S0 nq G n) p args []).map (·.1)=some r)(hcl:r.clean=true):ZC P f args r:=by
 obtain⟨⟨r',os⟩,h1,h2⟩:=Zd h;simp only at h2;subst h2;exact(Zec h0 hG n hp h1 hcl).2
end
end Go.Ab
end
