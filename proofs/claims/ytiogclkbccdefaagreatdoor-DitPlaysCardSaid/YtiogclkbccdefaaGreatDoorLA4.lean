import Derived.Test.YtiogclkbccdefaaGreatDoorLA3
import Derived.LoopN
import Derived.ScopeJumps
import Derived.IntWalk
set_option linter.unusedSimpArgs false
set_option linter.unusedVariables false
set_option maxRecDepth 100000
theorem WC{p:Prop}(h:p:=by simpa using h1):p:=h
theorem Va{p:Prop}(h:p:=by intro i r hi o ho;rw[Jj,Yk (by simp[YX];exact(ZX hi).1)]at ho;simp only[YX,Jv,YI,hi,Yq,Yu,Function.comp]at ho;have hm:=JE hi;have hl:=hlt r hm;have hr':os[r]? =some (os[r]'hl):=Zw _;rw[Yk hl,hr',<-ho];simp only[List.getD,hr',ξY];have hin:=Yg.1 h3 r hm;simp only[List.getD,hr',ξY]at hin;rw[Ob.ren_ren (p:=λi=>Zh i ρ) (λi hi=> ?_) _ hin];have hg:=ZGo (ZA3.1 hi);simp only[KN,(ZX hg).1,if_true,List.getD,hg,ξY]):p:=h
theorem Vu{p:Prop}(h:p:=by exact⟨λr hr=>(by cases hr),λ_=>rfl⟩):p:=h
theorem U1{p:Prop}(h:p:=by intro c E vs R hvl;rw[hfp]at R hvl;refine(h c E vs R hvl).mono ?_;rintro e w' ⟨v,E',rfl,rfl,R',ev,hv⟩;exact⟨v,E',_,_,rfl,rfl,R',by rw[hfp];exact ev,hv,rfl,rfl⟩):p:=h
theorem Tc{p:Prop}(h:p:=by simpa using h2):p:=h
theorem T0{p:Prop}(h:p:=by simp only[QC,Zj];refine⟨Yg.2 (λr hr=>by have:=hlt r hr;simp;omega),h2,Yg.2 (λr hr=>by rw[hgd r hr];exact Yg.1 h3 r hr),h4⟩):p:=h
theorem TD{p:Prop}(h:p:=by obtain⟨k1,k2⟩:=cal _ _ hio;rw[hf]at k1 k2;rw[ho]at k1;cases k1;rw[hp]at k2;exact .inr ⟨_,_,hio,k2.symm,rfl,hf.symm⟩):p:=h
theorem TL{p:Prop}(h:p:=by rintro e w' ⟨v,E',r2,os2,rfl,rfl,R',ev,hv,r3,os3,⟨rfl,rfl⟩,rfl,rfl⟩;exact⟨v,E',_,_,rfl,rfl,R',ev,hv,rfl,rfl⟩):p:=h
theorem Ga{p:Prop}(h:p:=by rw[YI]at h;obtain⟨o0,h0,rfl⟩:=Zc h;exact⟨o0,h0,rfl⟩):p:=h
theorem GI{p:Prop}(h:p:=by rw[YI,ho];rfl):p:=h
theorem GJ{p:Prop}(h:p:=by cases o<;>rfl):p:=h
theorem GK{p:Prop}(h:p:=by refine Fr.keep ?_ ks;exact Fr.put (Fr.put hf ht (V.tup1 (V.mkbool _ _ _))) ht2 (V.mkbool _ _ _)):p:=h
theorem Na{p:Prop}(h:p:=by subst e;rw[hd]at ho;cases ho;cases hs):p:=h
theorem Nr{p:Prop}(h:p:=by have:=hs (j+1) s WZ;rw[show i+1+j=i+(j+1) by omega];simpa using this):p:=h
theorem Nw{p:Prop}(h:p:=by rintro e w' ⟨v,E',rfl,rfl,R',ev,hv⟩;exact⟨v,E',_,_,rfl,rfl,R',ev,hv,rfl,rfl⟩):p:=h
theorem N7{p:Prop}(h:p:=by have:=h (j+1) t d x WZ;rw[show i+1+j=i+(j+1) by omega];exact this):p:=h
theorem NY{p:Prop}(h:p:=by rw[hf.size];exact ht):p:=h
theorem Xa{p:Prop}(h:p:=by exact⟨rfl,rfl,λ_ _ h=>h,λ_ _ _ h=>h⟩):p:=h
theorem Xb{p:Prop}(h:p:=by exact .inl ⟨k3.trans k6,k6'.trans k3'⟩):p:=h
theorem Xi{p:Prop}(h:p:=by cases h;exact⟨E.st,R,Evo.refl _ _,hv⟩):p:=h
theorem Xp{p:Prop}(h:p:=by have:=h (j+1) t d x WZ;omega):p:=h
theorem Xq{p:Prop}(h:p:=by cases os<;>rfl):p:=h
theorem X8{p:Prop}(h:p:=by rw[hva];exact hrun):p:=h
theorem Hh{p:Prop}(h:p:=by simp[Instr.loadAt,Instr.sureAddr,stuck,Sem.run,Result.andThen]at h1):p:=h
theorem Hj{p:Prop}(h:p:=by simp[h]):p:=h
theorem Hr{p:Prop}(h:p:=by simpa using Yg.1 h1 r hr):p:=h
theorem Hz{p:Prop}(h:p:=by have:=(ZX ho).1;exact V3):p:=h
theorem HC{p:Prop}(h:p:=by subst e;rw[hd]at ho;cases ho;simp[Ob.kd]at hkd):p:=h
theorem HH{p:Prop}(h:p:=by rw[Ob.ren_kd];exact hkd):p:=h
theorem HO{p:Prop}(h:p:=by simpa using h.1):p:=h
theorem HY{p:Prop}(h:p:=by exact⟨_,rs,k1,by rw[Ob.ren_sl];exact hs,.inl ⟨rfl,k2⟩⟩):p:=h
theorem Me{p:Prop}(h:p:=by rw[ZIU];simpa using hl):p:=h
section
namespace Go.Ab
open Go.RowKit Go.Bo
structure Draw (ops:List Oper) (il:List IOp) (k:Nat) (rs:W0) (L:Nat):Prop where
 back: ∀(i:Nat) (o:Oper),ops[i]? =some o-> ∀j∈aft o,j<i
 own: ∀(i j:Nat) (x y:IOp) (t:Nat),il[i]? =some x->il[j]? =some y->x.dst=some t->y.dst=some t->i=j
 reads: ∀(i j:Nat) (x y:IOp) (t:Nat) (o p:Oper),il[i]? =some x->il[j]? =some y->ops[i]? =some o->ops[j]? =some p->t∈x.reads->y.dst=some t->(j<i/\j∈aft o)\/(i<j/\i∈aft p)
 tail: ∀(i:Nat) (o:Oper) (x:IOp),k<=i->ops[i]? =some o->il[i]? =some x->x.ex rs i=false->i≠L-> ∀dn,ZNX ops dn->(∀j∈aft o,dn j=true)-> ∀(j:Nat) (y:IOp),j<i->il[j]? =some y->y.ex rs j=false->dn j=true
theorem Draw.of{ops:List Oper}{il:List IOp}{k:Nat}{rs:W0}{L:Nat}(h:ZDO ops il k rs L=true):Draw ops il k rs L:=by
 simp only[ZDO,Zj]at h;obtain⟨h2,h3,h4,h5⟩:=h;have back: ∀(i:Nat) (o:Oper),ops[i]? =some o-> ∀j∈aft o,j<i:=λi o ho j hj=>by
  have:=ZNp h2 i o ho j hj;omega
 have zt: ∀(i:Nat) (x:IOp) (o:Oper),il[i]? =some x->ops[i]? =some o->(il.zip ops)[i]? =some (x,o):=λi x o hx ho=>List.getElem?_zip_eq_some.2 ⟨hx,ho⟩
 refine⟨back,λi j x y t hx hy hd he=>ZQv h3 i j x y t hx hy hd he,λi j x y t o p hx hy ho hp ht hd=> ?_,λi o x hi ho hx hf hiL dn hcl hd j y hj hy hyf=> ?_⟩
 .have:=ZP1 (ZRw h4 i x o (zt i x o hx ho)) j y p t (zt j y p hy hp) hd ht;exact V3
 .have hlt:=(ZX ho).1;obtain⟨b1,b2⟩:=ZQu ops [] [] rfl (λi c hc=>by simp at hc) (by simpa using back);simp only[QY]at b1 b2;have hc:(below [] ops)[i]? =some ((below [] ops)[i]' J0):=Zw _;have:=(ZOR h5 i _ x hc hx (by rw[Jk];exact hf) J0 J0).2 j y hj hy (by rw[Jk];exact hyf);rw[Jk]at this;exact b2 i _ hc dn hcl (by rw[ho];exact Yg.2 hd) j this
theorem ZQG{p q:Nat->Bool}: ∀ {l:W0} {i:Nat},i∈l->p i=true->q i=false->(∀j,q j=true->p j=true)->l.countP q<l.countP p
 | [],i,h,_,_,_=>W6
 |x::l,i,h,hp,hq,hqp=>by
  have hle:l.countP q<=l.countP p:=List.countP_mono_left (λj _ hj=>hqp j hj);rcases Jf.1 h with rfl|h
  .rw[ZbJ (by simp[hq]),ZXH hp];omega
  .have:=ZQG h hp hq hqp;by_cases hx:q x=true
   .rw[ZXH hx,ZXH (hqp x hx)];omega
   .rw[ZbJ Gw];by_cases hx2:p x=true
    .rw[ZXH hx2];omega
    .rw[ZbJ (by simpa using hx2)];exact this
theorem ZKB{c:Ctx}: ∀(F:List Rec) (i:Nat) {E:Env} {os:J7},Rel c E os-> ∃E',E'.w=E.w/\Rel c E' (os++Jm F (λ_=>false) i)/\Evo E os E' (os++Jm F (λ_=>false) i)
 | [],i,E,os,R=>⟨E,rfl,by simpa[Jm]using R,by simpa[Jm]using Evo.refl E os⟩
 |(dst,d,none)::l,i,E,os,R=>by simp only[Jm];exact ZKB l (i+1) R
 |(dst,d,some ob)::l,i,E,os,R=>by
  obtain⟨R1,e1⟩:=R.push E.w .dead (0,undef) (Kept.refl _ _) (λb hb=>Xr) (λ_=>trivial);obtain⟨E',h1,h2,h3⟩:=ZKB l (i+1) R1;refine⟨E',h1,?_,?_⟩
  .simp only[Jm,Je,if_false];rw[Ys]at h2;exact h2
  .simp only[Jm,Je,if_false];rw[Ys]at h3;exact e1.trans h3
theorem ZIy(l:Array Bool)(i j:Nat)(hi:i<l.size):(l.setIfInBounds i true).getD j false=(l.getD j false||decide (j=i)):=by
 rw[ZEc,ZEc,ZcS];by_cases h:i=j
 .subst h;simp[hi]
 .have h2: ¬j=i:=λe=>h e.symm
  simp[h,h2]
section
variable {P:Program} {S:Tabs} {c:Ctx} {n:Nat} {Q:Exit->Act->World->Prop} {ops:Array Oper} {il:List IOp} {k:Nat} {rs:W0} {E0:Env} {os0:J7}
theorem ZK9{listed:Array Bool}(hsz:listed.size=ops.size){i:Nat}:i∈Region.ready .any ops listed↔listed.getD i false=false/\ ∃o,ops.toList[i]? =some o/\ ∀j∈aft o,listed.getD j false=true:=by
 rw[mem_ready];constructor
 .rintro⟨h1,o,ho,h2⟩;have hi:i<listed.size:=by rw[hsz];exact(ξH ho).1
  refine⟨?_,o,Gy,λj hj=> ?_⟩
  .simpa[ZEc,hi]using h1
  .obtain⟨e,he,rfl⟩:=YS.1 hj;have:=ZPI.1 he;exact h2 e (by simpa using this.1) this.2
 .rintro⟨h1,o,ho,h2⟩;have ho':ops[i]? =some o:=Gy
  have hi:i<listed.size:=by rw[hsz];exact(ξH ho').1
  refine⟨by simpa[ZEc,hi]using h1,o,ho',λe he hb=>h2 e.on (YS.2 ⟨e,ZPI.2 ⟨by simpa using he,hb⟩,rfl⟩)⟩
theorem Zfx{i:Nat}{o:Oper}(ho:ops.toList[i]? =some o){K:Act->World->Prop}{a:Act}{w:World}(h:if Region.wanted o (yielded ops a.tmps)then o.wp P a w K Q else K (a.put o.dst undef) w):wpOp P ops Q i K a w:=by
 unfold wpOp;have ho':ops[i]? =some o:=Gy
 rw[ho'];simp only;split
 .rename_i hw;rw[if_pos hw]at h;exact .inl h
 .rename_i hw;rw[if_neg hw]at h;exact h
theorem Zdp{k:Nat}{f:Nat->Bool}(h: ∃j,j<k/\f j=false): ∃j,(j<k/\f j=false)/\ ∀i,i<j->f i=true:=by
 obtain⟨j,hj⟩:=h
 induction j using Nat.strongRecOn with
 |_ j ihj=>
  by_cases h: ∃i,i<j/\f i=false
  .obtain⟨i,hi,hi2⟩:=h;exact ihj i hi ⟨J0,hi2⟩
  .exact⟨j,hj,λi hi=>by
    cases hb:f i with
    |true=>rfl
    |false=>exact absurd ⟨i,hi,hb⟩ h⟩
def QG(os0:J7)(F:List Rec)(G:Bool->List (Option J7))(L:Nat)(dn:Nat->Bool):J7:=Zs (G (dn L)) dn 0 (os0++Jm F dn 0)
theorem ZMi: ∀(F:List Rec) (dn dn':Nat->Bool) (i:Nat),(∀(j:Nat) (t:Option Nat) (d:D) (x:Ob),F[j]? =some (t,d,some x)->dn (i+j)=dn' (i+j))->Jm F dn i=Jm F dn' i
 | [],_,_,_,_=>rfl
 |(dst,d,none)::l,dn,dn',i,h=>by
  simp only[Jm];exact ZMi l dn dn' (i+1) (λj t d x hj=>N7)
 |(dst,d,some ob)::l,dn,dn',i,h=>by
  simp only[Jm];have h0:=h 0 _ _ _ rfl;rw[KB]at h0;rw[h0,ZMi l dn dn' (i+1) (λj t d x hj=>N7)]
theorem ZJt{p:Nat}{x:Ob}: ∀(G0 G1:List (Option J7)) (dn dn':Nat->Bool) (i:Nat) (b0 b1:J7),G0.length=G1.length->(∀j:Nat,G0[j]? =some none->G1[j]? =some none)->(∀(j:Nat) (s:J7),G0[j]? =some (some s)->dn (i+j)=dn' (i+j)/\ ∃s1,G1[j]? =some (some s1)/\(dn (i+j)=true->s[p]? =some .dead/\s1=s.set p x))->b0[p]? =some .dead->b1=b0.set p x->(Zs G0 dn i b0)[p]? =some .dead/\Zs G1 dn' i b1=(Zs G0 dn i b0).set p x
 | [],G1,dn,dn',i,b0,b1,hl,_,_,h0,h1=>by cases G1<;>simp at hl;exact⟨h0,h1⟩
 |g::l,[],_,_,_,_,_,hl,_,_,_,_=>by simp at hl
 |none::l,g1::l1,dn,dn',i,b0,b1,hl,hn,hs,h0,h1=>by
  have:=hn 0 rfl;simp at this;subst this;simp only[Zs];exact ZJt l l1 dn dn' (i+1) b0 b1 UC (λj hj=>by simpa using hn (j+1) WZ) (λj s hj=>Nr) h0 h1
 |some y::l,g1::l1,dn,dn',i,b0,b1,hl,hn,hs,h0,h1=>by
  obtain⟨e,y1,hy,hy1⟩:=hs 0 y rfl;simp at hy;subst hy;rw[KB]at e hy1;simp only[Zs,<-e];refine ZJt l l1 dn dn' (i+1) _ _ UC (λj hj=>by simpa using hn (j+1) WZ) (λj s hj=>Nr) ?_ ?_
  .split
   .rename_i hd;exact(hy1 hd).1
   .exact h0
  .split
   .rename_i hd;exact(hy1 hd).2
   .exact h1
inductive StepL (S:Tabs) (os0:J7) (k:Nat) (rs:W0) (L:Nat) (F:List Rec) (G:Bool->List (Option J7)) (φ:J4) (i:Nat) (io:IOp):D->Option Ob->Option (Bool->J7)->Prop
 |frame {d:D} (hf:io.e.frame=true) (h:Ye S φ [] io=some (true,d)):StepL S os0 k rs L F G φ i io d none none
 |look {d:D} (hf:Zh i rs=true) (h:Ye S φ os0 io=some (true,d)):StepL S os0 k rs L F G φ i io d none none
 |read {d:D} (hf:io.ex rs i=false) (hk:i<k) (h:Ye S φ os0 io=some (true,d)):StepL S os0 k rs L F G φ i io d none none
 |near {d:D} (hf:io.ex rs i=false) (hk:i<k) (h:ZFk φ (os0++Yd (F.take i)) io=some (true,d)):StepL S os0 k rs L F G φ i io d none none
 |make {d:D} {x:Ob} (hf:io.ex rs i=false) (hk:i<k) (h:QB S φ os0 (os0.length+Yy F i) io=some (true,d,x)):StepL S os0 k rs L F G φ i io d (some x) none
 |late {d:D} {x:Ob} (hf:io.ex rs i=false) (hi:i=L) (h:QB S φ [] (os0.length+Yy F i) io=some (true,d,x)):StepL S os0 k rs L F G φ i io d (some x) none
 |turn {d:D} {s:Bool->J7} (hf:io.ex rs i=false) (hk:k<=i) (h: ∀b,(L<i->b=true)->KO S φ (Zs ((G b).take i) (λ_=>true) 0 (os0++Jm F (λj=>b|| !decide (j=L)) 0)) io=some (true,d,s b)) (hs:i<L-> ∀(t:Option Nat) (d0:D) (x:Ob),F[L]? =some (t,d0,some x)->(s false)[os0.length+Yy F L]? =some .dead/\s true=(s false).set (os0.length+Yy F L) x):StepL S os0 k rs L F G φ i io d none (some s)
structure RunL (S:Tabs) (os0:J7) (k:Nat) (rs:W0) (L:Nat) (φ0:J4) (il:List IOp) (F:List Rec) (G:Bool->List (Option J7)):Prop where
 lf:F.length=il.length
 lg: ∀b,(G b).length=il.length
 at_: ∀(q:Nat) (io:IOp),il[q]? =some io-> ∃d x s,F[q]? =some (io.dst,d,x)/\(∀b,(G b)[q]? =some (s.map λg=>g b))/\StepL S os0 k rs L F G (Yb φ0 (F.take q)) q io d x s
 lm:L<il.length-> ∃t d x,F[L]? =some (t,d,some x)
 gc:il.length<=L-> ∀b,G b=G true
theorem ZHg: ∀(F:List Rec) (m:Nat),(∀(j:Nat) (t:Option Nat) (d:D) (x:Ob),F[j]? =some (t,d,some x)->j<m)->Yd (F.take m)=Yd F
 | [],m,_=>by simp[Yd]
 |(dst,d,none)::l,0,h=>by
  have:=ZHg l 0 (λj t d x hj=>Xp);simp only[ZB0,Yd]at this|-;exact this
 |(dst,d,some ob)::l,0,h=>by have:=h 0 _ _ _ rfl;omega
 |(dst,d,none)::l,m+1,h=>by
  simp only[Qm,Yd];exact ZHg l m (λj t d x hj=>Xp)
 |(dst,d,some ob)::l,m+1,h=>by
  simp only[Qm,Yd];rw[ZHg l m (λj t d x hj=>Xp)]
theorem ZGe: ∀(G:List (Option J7)) (m i:Nat) (b:J7),Zs G (λj=>decide (j<i+m)) i b=Zs (G.take m) (λ_=>true) i b
 | [],m,i,b=>by simp[Zs]
 |g::l,0,i,b=>by
  simp only[ZB0,Zs,KB];exact ZBT _ _ _ _ (λj x _=>J1)
 |none::l,m+1,i,b=>by
  simp only[Qm,Zs];rw[<-ZGe l m (i+1) b];exact ZAt l _ _ _ _ (λj x _=>by congr 1;simp;omega)
 |some x::l,m+1,i,b=>by
  have:decide (i<i+(m+1))=true:=TG
  simp only[Qm,Zs,this,if_true];rw[<-ZGe l m (i+1) x];exact ZAt l _ _ _ _ (λj x _=>by congr 1;simp;omega)
theorem ZZE{φ:J4}{os:J7}{o:IOp}{d:D}(h:ZFk φ os o=some (true,d)):
  ∃u id ext off len rs,o.g=none/\o.e= .b2s (.t u)/\Go.Ab.get φ u= .ref id ext off len/\Zx os (.ref id ext off len)=some rs/\rs.all ZGE=true/\d= .x (.str (rs.map ZFS)):=by
 unfold ZFk at h;split at h
 .rename_i u hg he;split at h
  .rename_i id ext off len hx;obtain⟨rs,h1,h2⟩:=Zc h;simp only[YP]at h2;exact⟨u,id,ext,off,len,rs,hg,he,hx,h1,h2.1,h2.2.symm⟩
  .cases h
 .cases h
theorem Za1{os os':J7}{id ext off len:Nat}{r:J6}(h:os'[id]? =os[id]?)(hr:Zx os (.ref id ext off len)=some r):Zx os' (.ref id ext off len)=some r:=by
 simp only[Zx]at hr|-;rw[h];exact hr
theorem ZRz: ∀(F:List Rec) (dn:Nat->Bool) (i p:Nat) (x:Ob),(Jm F dn i)[p]? =some x->x= .dead\/(Yd F)[p]? =some x
 | [],_,_,p,x,h=>by simp[Jm]at h
 |(dst,d,none)::l,dn,i,p,x,h=>by simp only[Jm]at h;simp only[Yd];exact ZRz l dn (i+1) p x h
 |(dst,d,some ob)::l,dn,i,p,x,h=>by
  simp only[Jm]at h;simp only[Yd];cases p with
  |zero=>
   simp at h;split at h
   .exact .inr Hj
   .exact .inl h.symm
  |succ p=>exact ZRz l dn (i+1) p x WM
theorem ZNE: ∀(F:List Rec) (m p:Nat) (x:Ob),(Yd (F.take m))[p]? =some x->(Yd F)[p]? =some x
 | [],m,p,x,h=>by simp[Yd]at h
 |r::l,0,p,x,h=>by simp[Yd]at h
 |(dst,d,none)::l,m+1,p,x,h=>by
  simp only[Qm,Yd]at h|-;exact ZNE l m p x h
 |(dst,d,some ob)::l,m+1,p,x,h=>by
  simp only[Qm,Yd]at h|-;cases p with
  |zero=>simpa using h
  |succ p=>exact ZNE l m p x WM
theorem Zdl{L:Nat}(hS:SsOk P S)(D0:Draw ops.toList il k rs L)(hcomp:ops.toList.mapM (JG P n ops)=some il){φ0:J4}{F:List Rec}{G:Bool->List (Option J7)}(hrun:RunL S os0 k rs L φ0 il F G)(hL: ∀(i:Nat) (io:IOp) (d:D),il[i]? =some io->Zh i rs=true->i<F.length->Ye S (Yb φ0 (F.take i)) os0 io=some (true,d)-> ∀dn:Nat->Bool,(∃Y,QG os0 F G L dn=os0++Y)\/Ye S (Yb φ0 (F.take i)) (QG os0 F G L dn) io=some (true,d))
  (hQ: ∀E' a',Rel c E' (Zs (G true) (λ_=>true) 0 (os0++Yd F))->Evo E0 os0 E' (Zs (G true) (λ_=>true) 0 (os0++Yd F))->Fr n E' (Zs (G true) (λ_=>true) 0 (os0++Yd F)) (Yb φ0 F) a'->Q .normal a' E'.w):
  ∀(fuel:Nat) (listed:Array Bool) (a:Act) (E:Env),listed.size=ops.size->ZNX ops.toList (λj=>listed.getD j false)->(List.range ops.size).countP (λj=> !listed.getD j false)<=fuel->
   Rel c E (QG os0 F G L (λj=>listed.getD j false))->Evo E0 os0 E (QG os0 F G L (λj=>listed.getD j false))->a.tmps.size=n->a.defers= []->(∀t,V E (QG os0 F G L (λj=>listed.getD j false)) (look F (λj=>listed.getD j false) 0 (Go.Ab.get φ0 t) t) (a.tmps.getD t undef))->
   wpAny P .any ops Q fuel listed a E.w:=by
 obtain⟨hlen,hat⟩:=ZD9 hcomp;simp only[Qt]at hlen;obtain⟨hFl,hGl,hF,hLm,hGc⟩:=hrun;have rec_of: ∀(j:Nat) (r:Rec),F[j]? =some r-> ∃y,il[j]? =some y/\y.dst=r.1:=by
  intro j r hj;have hjl:=(ZX hj).1;have hy:il[j]? =some (il[j]' J0):=Zw _;obtain⟨d,x,s,h1,_⟩:=hF j _ hy;rw[hj]at h1;cases h1;exact⟨_,hy,rfl⟩
 have st_of: ∀(b:Bool) (j:Nat) (x:J7),(G b)[j]? =some (some x)-> ∃(y:IOp) (g:Bool->J7),il[j]? =some y/\y.ex rs j=false/\k<=j/\j≠L/\(∀b,(G b)[j]? =some (some (g b)))/\(j<L-> ∀(t:Option Nat) (d0:D) (x:Ob),F[L]? =some (t,d0,some x)->(g false)[os0.length+Yy F L]? =some .dead/\g true=(g false).set (os0.length+Yy F L) x):=by
  intro b j x hj;have hjl:=(ZX hj).1;have hy:il[j]? =some (il[j]'(by have:=hGl b;omega)):=Zw _;obtain⟨d,x',s,h1,h2,h3⟩:=hF j _ hy;have h4:=h2 b;rw[hj]at h4;cases h3 with
  |turn hf hk h hs=>
   refine⟨_,_,hy,hf,hk,λe=> ?_,h2,hs⟩;subst e;obtain⟨t,d',x'',h5⟩:=hLm (by have:=hGl b;omega);rw[h1]at h5;cases h5
  |_=>simp at h4
 have mk_of: ∀(j:Nat) (t:Option Nat) (d:D) (x:Ob),F[j]? =some (t,d,some x)-> ∃y,il[j]? =some y/\y.ex rs j=false/\(j<k\/j=L):=by
  intro j t d x hj;have hjl:=(ZX hj).1;have hy:il[j]? =some (il[j]' J0):=Zw _;obtain⟨d',x',s,h1,_,h3⟩:=hF j _ hy;rw[hj]at h1;cases h1;cases h3 with
  |make hf hk h=>exact⟨_,hy,hf,.inl hk⟩
  |late hf hi h=>exact⟨_,hy,hf,.inr hi⟩
 have oper_of: ∀j,j<ops.size-> ∃o,ops.toList[j]? =some o:=λj hj=>⟨ops[j],by simp[hj]⟩
 have fin: ∀(listed:Array Bool) (a:Act) (E:Env),listed.size=ops.size->Rel c E (QG os0 F G L (λj=>listed.getD j false))->Evo E0 os0 E (QG os0 F G L (λj=>listed.getD j false))->a.tmps.size=n->a.defers= []->(∀t,V E (QG os0 F G L (λj=>listed.getD j false)) (look F (λj=>listed.getD j false) 0 (Go.Ab.get φ0 t) t) (a.tmps.getD t undef))->
   (Region.ready .any ops listed= []->Q .normal a E.w):=by
  intro listed a E hsz R ev h1 h2 h3 hr;have all: ∀j,j<ops.size->listed.getD j false=true:=by
   intro j hj;cases hb:listed.getD j false with
   |true=>rfl
   |false=>
    exfalso;obtain⟨j0,⟨hj0,hj1⟩,hj2⟩:=Zdp (k:=ops.size) (f:=λj=>listed.getD j false) ⟨j,hj,hb⟩;have:j0∈Region.ready .any ops listed:=(ZK9 hsz).2 ⟨hj1,ops[j0]' J0,J1,λj hj=>hj2 j (D0.back j0 _ J1 j hj)⟩;rw[hr]at this;cases this
  have e1:QG os0 F G L (λj=>listed.getD j false)=Zs (G true) (λ_=>true) 0 (os0++Yd F):=by
   unfold QG;have hG:G (listed.getD L false)=G true:=by
    by_cases hl:L<ops.size
    .rw[all L hl]
    .exact hGc J0 _
   rw[hG,ZIN F _ 0 (λj r hj=>by rw[Jk];exact all j (by have:=(ZX hj).1;omega))];exact ZAt _ _ _ _ _ (λj x hj=>by rw[Jk];exact all j (by have:=(ZX hj).1;have:=hGl true;omega))
  rw[e1]at R ev h3;refine hQ E a R ev ⟨h1,h2,λt=> ?_⟩;have:=ZMn F φ0 F.length 0 t;rw[JX]at this;rw[this];have e:look F (λj=>decide (j<0+F.length)) 0 (Go.Ab.get φ0 t) t=look F (λj=>listed.getD j false) 0 (Go.Ab.get φ0 t) t:=ZDb F _ _ _ _ _ (λj d o hj=>by
   have hjl:=(ZX hj).1;simp only[Jk,hjl,decide_true,all j J0])
  rw[e];exact h3 t
 intro fuel
 induction fuel with
 |zero=>
  intro listed a E hsz hcl hfu R ev h1 h2 h3;have hr:Region.ready .any ops listed= []:=by
   apply Zhc.2;intro i hi;obtain⟨g1,o,ho,_⟩:=(ZK9 hsz).1 hi;have hlt:i<ops.size:=Hz
   have h0:(List.range ops.size).countP (λj=> !listed.getD j false)=0:=Wm
   have:=List.countP_eq_zero.1 h0 i (ZFX.2 hlt);rw[g1]at this;simp at this
  exact⟨hr,fin listed a E hsz R ev h1 h2 h3 hr⟩
 |succ fuel ih=>
  intro listed a E hsz hcl hfu R ev h1 h2 h3;refine⟨fin listed a E hsz R ev h1 h2 h3,λi hi=> ?_⟩;obtain⟨g1,o,ho,g2⟩:=(ZK9 hsz).1 hi;have hlt:i<ops.size:=Hz
  have hil:il[i]? =some (il[i]' J0):=Zw _;have hio:=hat i o _ ho hil;obtain⟨d,x,s,hFi,hGi,hst⟩:=hF i _ hil;generalize hioe:il[i]' J0=io at*;have hlook: ∀t∈io.reads,Go.Ab.get (Yb φ0 (F.take i)) t=look F (λj=>listed.getD j false) 0 (Go.Ab.get φ0 t) t:=by
   intro t ht;rw[ZMn F φ0 i 0 t];refine ZDb F _ _ _ _ _ (λj d' o' hj=> ?_);obtain⟨y,hy,hyd⟩:=rec_of j _ hj;have hjl:j<ops.size:=by have:=(ZX hy).1;omega
   obtain⟨p,hp⟩:=oper_of j hjl;simp only[Jk];rcases D0.reads i j io y t o p hil hy ho hp ht hyd with⟨w1,w2⟩|⟨w1,w2⟩
   .rw[g2 j w2];simpa using w1
   .have:listed.getD j false=false:=by
     cases hb:listed.getD j false with
     |false=>rfl
     |true=>
      have h9:listed.getD i false=true:=hcl j _ hp hb i w2;rw[g1]at h9;cases h9
    rw[this];simp;omega
  let φs:J4:=io.reads.map λt=>(t,look F (λj=>listed.getD j false) 0 (Go.Ab.get φ0 t) t)
  have hget: ∀t,Go.Ab.get φs t=look F (λj=>listed.getD j false) 0 (Go.Ab.get φ0 t) t\/(Go.Ab.get φs t= .und/\t∉io.reads):=by
   intro t;have key: ∀l:W0,Go.Ab.get (l.map λt=>(t,look F (λj=>listed.getD j false) 0 (Go.Ab.get φ0 t) t)) t=if t∈l then look F (λj=>listed.getD j false) 0 (Go.Ab.get φ0 t) t else .und:=by
    intro l
    induction l with
    |nil=>rfl
    |cons u l ihl=>
     simp only[YO,Go.Ab.get,Jf];by_cases hu:u=t
     .subst hu;simp
     .have: ¬t=u:=λe=>hu e.symm
      simp only[hu,if_false,ihl,this,false_or]
   rw[key io.reads];by_cases ht:t∈io.reads
   .rw[if_pos ht];exact NK
   .rw[if_neg ht];exact .inr ⟨rfl,ht⟩
  have hfs:Fr n E (QG os0 F G L (λj=>listed.getD j false)) φs a:=⟨h1,h2,λt=>by
   rcases hget t with h|⟨h,_⟩<;>rw[h]
   .exact h3 t
   .exact .und _⟩
  have hagree: ∀t∈io.reads,Go.Ab.get φs t=Go.Ab.get (Yb φ0 (F.take i)) t:=λt ht=>by
   rw[hlook t ht];rcases hget t with h|⟨_,h⟩
   .exact h
   .exact absurd ht h
  have hdst:io.dst=o.dst/\(o.dst.all λt=>decide (t<n))=true:=by
   simp only[JG,YG]at hio;obtain⟨e,he,hc⟩:=hio;split at hc
   .rename_i hd;split at hc
    .cases hc;exact⟨rfl,hd⟩
    .obtain⟨s,_,hc⟩:=Zc hc;cases hc;exact⟨rfl,hd⟩
   .cases hc
  have huniq: ∀(j u:Nat) (d':D) (o':Option Ob),F[j]? =some (some u,d',o')->io.dst=some u->j=i:=by
   intro j u d' o' hj hd;obtain⟨y,hy,hyd⟩:=rec_of j _ hj;exact(D0.own i j io y u hil hy hd hyd).symm
  have hnext:(λj=>(listed.setIfInBounds i true).getD j false)=λj=>listed.getD j false||decide (j=0+i):=by
   funext j;rw[ZIy _ _ _ J0,Jk]
  have step: ∀(v:Value) (E':Env) (os':J7),os'=QG os0 F G L (λj=>(listed.setIfInBounds i true).getD j false)->Rel c E' os'->Evo E (QG os0 F G L (λj=>listed.getD j false)) E' os'->V E' os' d v->
    wpAny P .any ops Q fuel (listed.setIfInBounds i true) (a.put o.dst v) E'.w:=by
   intro v E' os' hos R' e' hv;subst hos;refine ih _ _ E' (by simp[hsz]) ?_ ?_ R' (ev.trans e') ?_ (by cases hd:o.dst<;>simp[Act.put,h2]) (λt=> ?_)
   .intro q p hp hq j hj;show(listed.setIfInBounds i true).getD j false=true
    replace hq:(listed.setIfInBounds i true).getD q false=true:=hq
    rw[ZIy _ _ _ J0]at hq|-;by_cases hqi:q=i
    .subst hqi;rw[ho]at hp;cases hp;rw[g2 j hj];rfl
    .simp only[hqi,decide_false,ZD5]at hq;have h9:listed.getD j false=true:=hcl q p hp hq j hj;rw[h9];rfl
   .have hlt':(List.range ops.size).countP (λj=> !(listed.setIfInBounds i true).getD j false)<(List.range ops.size).countP (λj=> !listed.getD j false):=
     ZQG (ZFX.2 hlt) (by rw[g1];rfl) (by rw[ZIy _ _ _ J0];simp) (λj hj=>by
      rw[ZIy _ _ _ J0]at hj;simp only[Bool.not_or,Zj]at hj;exact hj.1)
    omega
   .cases hd:o.dst with
    |none=>exact h1
    |some t=>simp[Act.put,h1]
   .rw[hnext,ZRo F _ 0 _ i io.dst d x t hFi huniq,<-hnext];by_cases ht:io.dst=some t
    .rw[if_pos ht];rw[<-hdst.1,ht];have:(a.put (some t) v).tmps.getD t undef=v:=by
      have hb:t<n:=by have:=hdst.2;rw[<-hdst.1,ht]at this;exact V3
      simp[Act.put,ZEc,h1,hb]
     rw[this];exact hv
    .rw[if_neg ht];have:(a.put o.dst v).tmps.getD t undef=a.tmps.getD t undef:=by
      rw[<-hdst.1];cases hd:io.dst with
      |none=>rfl
      |some u=>
       have hne:u≠t:=λe=>ht (by rw[hd,e])
       simp[Act.put,ZEc,hne]
     rw[this];exact(h3 t).mono e'
  refine Zfx ho ?_;have later:io.ex rs i=false-> ∀(b:Bool) (j:Nat) (x':J7),i<j->(G b)[j]? =some (some x')->listed.getD j false=false:=by
   intro hf b j x' hij hj;obtain⟨y,_,hy,hyf,hkj,hjL,_⟩:=st_of b j x' hj;have hjl:j<ops.size:=by have:=(ZX hy).1;omega
   obtain⟨p,hp⟩:=oper_of j hjl;cases hb:listed.getD j false with
   |false=>rfl
   |true=>
    have h9:listed.getD i false=true:=D0.tail j p y hkj hp hy hyf hjL _ hcl (hcl j p hp hb) i io hij hil hf;rw[g1]at h9;cases h9
  have quiet:F[i]? =some (io.dst,d,none)->(∀b,(G b)[i]? =some none)->QG os0 F G L (λj=>(listed.setIfInBounds i true).getD j false)=QG os0 F G L (λj=>listed.getD j false):=by
   intro hFi hGi;have hiL:i≠L:=λe=>by
    subst e;obtain⟨t,d',x',h5⟩:=hLm J0;rw[hFi]at h5;cases h5
   unfold QG;rw[hnext,ZQN F _ 0 i io.dst d hFi];have e:(listed.getD L false||decide (L=0+i))=listed.getD L false:=Wx
   simp only[e];refine ZAt _ _ _ _ _ (λj x' hj=> ?_);have:j≠i:=λe=>by subst e;rw[hGi]at hj;cases hj
   simp[this]
  have no:io.ex rs i=false->i<k-> ∀(b:Bool) (j:Nat) (x':J7),(G b)[j]? =some (some x')->listed.getD j false=false:=λhf hk b j x' hj=>by
   obtain⟨_,_,_,_,hkj,_⟩:=st_of b j x' hj;exact later hf b j x' J0 hj
  have hobq:io.ex rs i=false->i<k->QG os0 F G L (λj=>listed.getD j false)=os0++Jm F (λj=>listed.getD j false) 0:=λhf hk=>ZBT _ _ 0 _ (λj x' hj=>by rw[Jk];exact no hf hk _ j x' hj)
  cases hst with
  |frame hf hq=>
   have hos:=quiet hFi hGi;rw[<-ZHx S [] hagree]at hq;exact ZKI (os:= []) (Y:=QG os0 F G L (λj=>listed.getD j false)) hS R hfs hio hq (λv E' R' e' hv=>step v E' _ hos.symm R' e' hv)
  |look hf hq=>
   have hos:=quiet hFi hGi;rcases hL i io d hil hf J0 hq (λj=>listed.getD j false)with⟨Y,hob⟩|hq2
   .rw[<-ZHx S os0 hagree]at hq;rw[hob]at R hfs;exact ZKI hS R hfs hio hq (λv E' R' e' hv=>step v E' _ (by rw[hos,hob]) R' (by rw[hob];exact e') hv)
   .rw[<-ZHx S _ hagree]at hq2;exact ZKI (os:=QG os0 F G L (λj=>listed.getD j false)) (Y:= []) hS (by rw[Kg];exact R) (by rw[Kg];exact hfs) hio hq2 (λv E' R' e' hv=>step v E' _ (by rw[hos,Kg]) R' (by rw[Kg]at e'|-;exact e') hv)
  |read hf hk hq=>
   have hob:=hobq hf hk;have hos:=quiet hFi hGi;rw[<-ZHx S os0 hagree]at hq;rw[hob]at R hfs;exact ZKI hS R hfs hio hq (λv E' R' e' hv=>step v E' _ (by rw[hos,hob]) R' (by rw[hob];exact e') hv)
  |near hf hk hq=>
   have hob:=hobq hf hk;have hos:=quiet hFi hGi;obtain⟨u,id,ext,off,len,rs',hg,he,hx,hr,hb,rfl⟩:=ZZE hq;have hx':Go.Ab.get φs u= .ref id ext off len:=by
    rw[<-hx];exact hagree u (by simp[IOp.reads,he,IE.reads,IO.reads])
   have hv:=hfs.slot u;rw[hx']at hv;have hr':Zx (QG os0 F G L (λj=>listed.getD j false)) (.ref id ext off len)=some rs':=by
    cases hv with
    |ref h1 h2=>
     obtain⟨o',sz',rs2,k1,k2,k3⟩:=h1;rw[hob]at k1|-;refine Za1 ?_ hr;by_cases hid:id<os0.length
     .rw[Yk hid,Yk hid]
     .rw[QI J0]at k1|-;rw[QI J0];have hsome: ∃ob,(Yd (F.take i))[id-os0.length]? =some ob:=by
       cases hc:(Yd (F.take i))[id-os0.length]? with
       |some ob=>exact⟨ob,rfl⟩
       |none=>
        simp only[Zx]at hr;rw[QI J0,hc]at hr;cases hr
      obtain⟨ob,hob'⟩:=hsome;rw[hob',k1];rcases ZRz F (λj=>listed.getD j false) 0 _ _ k1 with h|h
      .subst h;cases k2
      .rw[ZNE F i _ _ hob']at h;exact h.symm
   have hq2:Ye S φs (QG os0 F G L (λj=>listed.getD j false)) io=some (true,.x (.str (rs'.map ZFS))):=by
    simp only[Ye,hg,he,KE,ZT,ZG,hx',D.val,D.cond,hr',Yq,hb,QX]
   exact ZKI (os:=QG os0 F G L (λj=>listed.getD j false)) (Y:= []) hS (by rw[Kg];exact R) (by rw[Kg];exact hfs) hio hq2 (λv E' R' e' hv=>step v E' _ (by rw[hos,Kg]) R' (by rw[Kg]at e'|-;exact e') hv)
  |make hf hk hq=>
   rename_i ob';have hob:=hobq hf hk;obtain⟨m1,m2⟩:=ZM4 F (λj=>listed.getD j false) 0 i io.dst d ob' hFi (by simpa using g1);have hos:QG os0 F G L (λj=>(listed.setIfInBounds i true).getD j false)=(os0++Jm F (λj=>listed.getD j false) 0).set (os0.length+Yy F i) ob':=by
    unfold QG;rw[hnext,m2,ZDm _ _ J0,ZKF];refine ZBT _ _ 0 _ (λj x' hj=> ?_);have:j≠i:=λe=>by subst e;rw[hGi]at hj;cases hj
    simp only[Jk,no hf hk _ j x' hj,this,decide_false,ZD5]
   rw[<-ZQi S os0 _ hagree]at hq;rw[hob]at R hfs;refine ZYa hS R hfs hio (id:=os0.length+Yy F i) ?_ hq (λv E' R' e' hv=>step v E' _ hos.symm R' (by rw[hob];exact e') hv);rw[QI J0,ZKF];exact m1
  |late hf hi hq=>
   subst hi;rename_i ob';obtain⟨m1,m2⟩:=ZM4 F (λj=>listed.getD j false) 0 i io.dst d ob' hFi (by simpa using g1);have key:=ZJt (p:=os0.length+Yy F i) (x:=ob') (G false) (G true) (λj=>listed.getD j false) (λj=>listed.getD j false||decide (j=0+i)) 0 (os0++Jm F (λj=>listed.getD j false) 0) (os0++Jm F (λj=>listed.getD j false||decide (j=0+i)) 0) (by rw[hGl,hGl]) (λj hj=>by
     have hjl:=(ZX hj).1;have hy:il[j]? =some (il[j]'(by have:=hGl false;omega)):=Zw _;obtain⟨_,_,s',_,h2,_⟩:=hF j _ hy;have h3:=h2 false;rw[hj]at h3;cases s' with
     |none=>exact h2 true
     |some g=>simp at h3) (λj s' hj=>by
     obtain⟨_,g,_,_,_,hjL,h2,h3⟩:=st_of false j s' hj;have h4:=h2 false;rw[hj]at h4;simp at h4;subst h4;refine⟨by simp[hjL],_,h2 true,λhd=> ?_⟩;rw[Jk]at hd;rcases ZcC j i with h|h|h
     .exact h3 h _ _ _ hFi
     .exact absurd h hjL
     .have:=later hf false j _ h (h2 false);rw[this]at hd;cases hd) (by rw[QI J0,ZKF];exact m1) (by rw[m2,ZDm _ _ J0,ZKF])
   have hob:QG os0 F G i (λj=>listed.getD j false)=Zs (G false) (λj=>listed.getD j false) 0 (os0++Jm F (λj=>listed.getD j false) 0):=by unfold QG;simp only[g1]
   have hos:QG os0 F G i (λj=>(listed.setIfInBounds i true).getD j false)=(QG os0 F G i (λj=>listed.getD j false)).set (os0.length+Yy F i) ob':=by
    rw[hob,<-key.2,hnext];unfold QG;simp
   rw[<-ZQi S [] _ hagree]at hq;refine ZYa (os:= []) (Y:=QG os0 F G i (λj=>listed.getD j false)) hS R hfs hio (id:=os0.length+Yy F i) ?_ hq (λv E' R' e' hv=>step v E' _ hos.symm R' e' hv);rw[QY,hob];exact key.1
  |turn hf hk hq hs=>
   rename_i s';have hiL:i≠L:=λe=>by
    subst e;obtain⟨t,d',x',h5⟩:=hLm J0;rw[hFi]at h5;cases h5
   have early: ∀(j:Nat) (y:IOp),j<i->il[j]? =some y->y.ex rs j=false->listed.getD j false=true:=λj y hj hy hyf=>D0.tail i o io hk ho hil hf hiL _ hcl g2 j y hj hy hyf
   have hbL:L<i->listed.getD L false=true:=λh=>by
    obtain⟨t,d',x',h5⟩:=hLm J0;obtain⟨y,hy,hyf,_⟩:=mk_of L t d' x' h5;exact early L y h hy hyf
   have hq:=hq _ hbL;have hcr:Jm F (λj=>listed.getD j false) 0=Jm F (λj=>listed.getD L false|| !decide (j=L)) 0:=ZMi F _ _ 0 (λj t d' x' hj=>by
    obtain⟨y,hy,hyf,hjk⟩:=mk_of j t d' x' hj;rw[Jk];by_cases hjL:j=L
    .subst hjL;simp
    .rw[early j y J0 hy hyf];simp[hjL])
   have hob:QG os0 F G L (λj=>listed.getD j false)=Zs ((G (listed.getD L false)).take i) (λ_=>true) 0 (os0++Jm F (λj=>listed.getD L false|| !decide (j=L)) 0):=by
    unfold QG;rw[hcr,<-ZGe _ i 0];refine ZAt _ _ _ _ _ (λj x' hj=> ?_);obtain⟨y,_,hy,hyf,hkj,_⟩:=st_of _ j x' hj;simp only[Jk];rcases ZcC j i with h|h|h
    .rw[early j y h hy hyf];simp[h]
    .subst h;rw[g1];simp
    .rw[later hf _ j x' h hj];simp;omega
   have hos:QG os0 F G L (λj=>(listed.setIfInBounds i true).getD j false)=s' (listed.getD L false):=by
    unfold QG;rw[hnext];have e:(listed.getD L false||decide (L=0+i))=listed.getD L false:=Wx
    simp only[e];refine ZJE _ _ 0 _ i _ (hGi _) J1 (λj x' hij hj=> ?_);have:j≠i:=Wm
    simp only[Jk,later hf _ j x' hij hj,this,decide_false,ZD5]
   rw[<-hob,<-ZZR S _ hagree]at hq;exact Zgs hS R hfs hio hq (λv E' R' e' hv=>step v E' _ hos.symm R' e' hv)
theorem ZhX{φ0:J4}{F:List Rec}{G:List (Option J7)}(hrun:Ku S os0 k rs 0 φ0 os0.length os0 il=some (true,F,G)):RunL S os0 k rs il.length φ0 il F (λ_=>G):=by
 obtain⟨hFl,hGl,hF⟩:=ZE9 hrun;simp only[Jk]at hF;have st_of: ∀(j:Nat) (x:J7),G[j]? =some (some x)->k<=j:=by
  intro j x hj;have hjl:=(ZX hj).1;obtain⟨d,x',s,_,h2,h3⟩:=hF j _ (Zw J0);rw[hj]at h2;cases h2;cases h3 with
  |turn hf hk h=>exact hk
 have mk_of: ∀(j:Nat) (t:Option Nat) (d:D) (x:Ob),F[j]? =some (t,d,some x)->j<k:=by
  intro j t d x hj;have hjl:=(ZX hj).1;obtain⟨d',x',s,h1,_,h3⟩:=hF j _ (Zw J0);rw[hj]at h1;cases h1;cases h3 with
  |make hf hk h=>exact hk
 refine⟨hFl,λ_=>hGl,λq io hi=> ?_,λh=>absurd h (ZW6 _),λ_ _=>rfl⟩;have hq:=(ZX hi).1;obtain⟨d,x,s,h1,h2,h3⟩:=hF q io hi;refine⟨d,x,s.map λy _=>y,h1,λb=>by rw[h2];cases s<;>rfl,?_⟩;cases h3 with
 |frame hf h=>exact .frame hf h
 |look hf h=>exact .look hf h
 |read hf hk h=>exact .read hf hk h
 |near hf hk h=>
  refine .near hf hk ?_;rw[<-ZGe G q 0]at h;rwa [ZBT G _ 0 _ (λj x' hj=>by have:=st_of j x' hj;simp;omega)]at h
 |make hf hk h=>exact .make hf hk h
 |turn hf hk h=>
  refine .turn hf hk (λb _=> ?_) (λ_ t d0 x0 h5=> ?_)
  .have e1:Yd (F.take q)=Yd F:=ZHg F q (λj t d' x' hj=>by have:=mk_of j t d' x' hj;omega);have e2:Jm F (λj=>b|| !decide (j=il.length)) 0=Yd F:=by
    refine ZIN F _ 0 (λj r hj=> ?_);have h1:=(ZX hj).1;have h2: ¬j=il.length:=Wm
    simp[h2]
   rw[e2,<-e1];exact h
  .have:=(ZX h5).1;omega
theorem Zby{m:Option W0}{φ0:J4}{F:List Rec}{G:List (Option J7)}(h:ZNQ m rs φ0 os0 il F G=true)(i:Nat)(io:IOp)(d:D)(hil:il[i]? =some io)(hm:Zh i rs=true)(hi:i<F.length)(hq:Ye S (Yb φ0 (F.take i)) os0 io=some (true,d))(L:Nat)(dn:Nat->Bool):(∃Y,QG os0 F (λ_=>G) L dn=os0++Y)\/Ye S (Yb φ0 (F.take i)) (QG os0 F (λ_=>G) L dn) io=some (true,d):=by
 cases m with
 |none=>
  have hG: ∀(j:Nat) (x:J7),G[j]? =some (some x)-> ∃Y,x=os0++Y:=by
   cases rs with
   |nil=>cases hm
   |cons r rs=>exact ZK1 h
  exact .inl (ZJY dn 0 (os0++Jm F dn 0) hG ⟨_,rfl⟩)
 |some kp=>
  simp only[ZNQ,Zj]at h;have hb:=ZYQ h.1 i io hil hi (by rw[Jk];exact hm);refine .inr (ZWL hb hq (λid ds hex hid=> ?_) (λi hi o hid=> ?_))
  .unfold QG;refine ZFx _ 0 _ (λj x hj=>(ZFj (ZHV h.2 j x hj)).1 id ds hex hid) ?_;rw[Yk (ZX hid).1];exact hid
  .unfold QG;refine ZFx _ 0 _ (λj x hj=>(ZFj (ZHV h.2 j x hj)).2 i hi o hid) ?_;rw[Yk (ZX hid).1];exact hid
theorem ZVL{L:Nat}(hm:P.follows .mixedOrders=true)(hS:SsOk P S)(D0:Draw ops.toList il k rs L)(hcomp:ops.toList.mapM (JG P n ops)=some il){id:Nat}{φ0:J4}{F:List Rec}{G:Bool->List (Option J7)}(hrun:RunL S os0 k rs L φ0 il F G)(hL: ∀(i:Nat) (io:IOp) (d:D),il[i]? =some io->Zh i rs=true->i<F.length->Ye S (Yb φ0 (F.take i)) os0 io=some (true,d)-> ∀dn:Nat->Bool,(∃Y,QG os0 F G L dn=os0++Y)\/Ye S (Yb φ0 (F.take i)) (QG os0 F G L dn) io=some (true,d)){E:Env}{a:Act}(R:Rel c E os0)(hf:Fr n E os0 φ0 a)
  (hQ: ∀E' a',Rel c E' (Zs (G true) (λ_=>true) 0 (os0++Yd F))->Evo E os0 E' (Zs (G true) (λ_=>true) 0 (os0++Yd F))->Fr n E' (Zs (G true) (λ_=>true) 0 (os0++Yd F)) (Yb φ0 F) a'->Q .normal a' E'.w):(Code.region id ops true).wp P Q a E.w:=by
 obtain⟨R1,e1⟩:=R.world {E.w with drawn:=E.w.drawn+1} E.st ⟨rfl,rfl,rfl,Zr _,λ_ _ _=>rfl⟩ (λ_ _ h=>h) (λ_ _ h=> .inl h);obtain⟨E2,w2,R2,e2⟩:=ZKB F 0 R1;have hrep:(λj=>(Array.replicate ops.size false).getD j false)=λ_=>false:=by
  funext j;rw[ZEc];by_cases h:j<ops.size<;>simp[h]
 have hob:QG os0 F G L (λ_=>false)=os0++Jm F (λ_=>false) 0:=ZBT _ _ 0 _ (λ_ _ _=>rfl);have hinit:=Zdl (E0:=E) hS D0 hcomp hrun hL hQ ops.size (Array.replicate ops.size false) a E2 J1 (by rw[hrep];intro i o _ h;cases h) (by
  have:=List.countP_le_length (p:=λj=> !(Array.replicate ops.size false).getD j false) (l:=List.range ops.size);simpa using this) (by rw[hrep,hob];exact R2) (by rw[hrep,hob];exact e1.trans e2) hf.size hf.defers (λt=>by
   rw[hrep,hob,ZHv F _ 0 _ t (λj d o _=>rfl)];exact((hf.slot t).mono e1).mono e2)
 refine wp_region_any hm ?_;rw[w2]at hinit;exact hinit
theorem ZVc(hm:P.follows .mixedOrders=true)(hS:SsOk P S)(hok:ZDO ops.toList il k rs il.length=true)(hcomp:ops.toList.mapM (JG P n ops)=some il){id:Nat}{φ0 φ2:J4}{os2:J7}{E:Env}{a:Act}(R:Rel c E os0)(hf:Fr n E os0 φ0 a){m:Option W0}(hrun:ZHZ m S φ0 os0 k rs il=some (true,φ2,os2))
  (hQ: ∀E' a',Rel c E' os2->Evo E os0 E' os2->Fr n E' os2 φ2 a'->Q .normal a' E'.w):(Code.region id ops true).wp P Q a E.w:=by
 simp only[ZHZ,Kq]at hrun;obtain⟨⟨ok,F,G⟩,hrun,h3⟩:=hrun;simp at h3;obtain⟨⟨rfl,hpre⟩,rfl,rfl⟩:=h3;exact ZVL hm hS (Draw.of hok) hcomp (ZhX hrun) (λi io d h1 h2 h3 h4 dn=>Zby hpre i io d h1 h2 h3 h4 _ dn) R hf hQ
end
inductive IC where
 |skip
 |reg (ops:List IOp)
 |dreg (k:Nat) (rs:W0) (k2:Nat) (rs2:W0) (ops:List IOp)
 |seq (a b:IC)
 |cond (x:IO) (a b:IC)
 |block (id:Nat) (b:IC)
 |loop (b:IC)
 |exit (id:Nat)
 |ret
 |scope (b cur:IC)
 |label (l:Nat)
 |goto (l:Nat)
 |dead
def IE.reader:IE->Bool
 | .ld _ _ _=>true
 | .iad _ _ _=>true
 | .iada _ _ _ _=>true
 | .len _ _=>true
 | .eq _ _ _ _=>true
 | .slc _ _ _ _ _=>true
 | .b2s _=>true
 | .mlk _ _ _ _ _=>true
 | .mln _=>true
 |_=>false
def IE.turner:IE->Bool
 | .sto _ _ _=>true
 | .app _ _ _ _ _=>true
 | .apz _ _ _ _ _ _=>true
 | .mup _ _ _ _=>true
 | .mdl _ _ _=>true
 | .men _ _ _ _=>true
 | .est _ _ _=>true
 | .mcl _=>true
 | .cpy _ _ _=>true
 |_=>false
def ZXS(b:Bool)(i c:Nat):Nat->W0->List IOp->Bool
 |j,d::l,o::il=>((o.e.turner||(b&&o.e.isCall))&&(!Nat.testBit c j&& !Nat.testBit d i))||ZXS b i c (j+1) l il
 |_,_,_=>false
def rsG(b:Bool)(C:W0)(il:List IOp):Nat->W0->List IOp->W0
 |i,c::l,o::il'=>if(!o.e.frame&&o.e.reader)&&ZXS b i c 0 C il then i::rsG b C il (i+1) l il' else rsG b C il (i+1) l il'
 |_,_,_=> []
def cutG(rs:W0)(L:Nat):Nat->Nat->Nat->W0->List IOp->Nat
 |i,k,m,c::l,o::il=>cutG rs L (i+1) (if o.ex rs i||(Nat.beq i L||Nat.beq (Nat.land c m) m)then k else i+1) (if o.ex rs i then m else m|||2^i) l il
 |_,k,_,_,_=>k
def Zbx:W0->List IOp->List Bool
 |_,[]=> []
 |mk,o::il=>
  let der:=o.e.reads.any λt=>Zh t mk
  der::Zbx (match o.dst with
   |some d=>if der|| !(o.e.frame||o.e.reader)then d::mk else mk
   |none=>mk) il
def ZaQ(i c:Nat):Nat->W0->List IOp->Bool
 |j,d::l,o::il=>(!o.e.frame&&(!Nat.beq i j&&(!Nat.testBit c j&& !Nat.testBit d i)))||ZaQ i c (j+1) l il
 |_,_,_=>false
def ZWy(C:W0)(il:List IOp):Nat->W0->List Bool->List IOp->W0
 |i,c::l,d::dl,o::il'=>if(!o.e.frame&&o.e.reader)&&(!d&&ZaQ i c 0 C il)then i::ZWy C il (i+1) l dl il' else ZWy C il (i+1) l dl il'
 |_,_,_,_=> []
def Zdv(il:List IOp):Bool:=(il.any λo=>o.g.isSome&&match o.e with
 | .bsl _ _ _ _=>true
 |_=>false)&& !(il.any λo=>o.e.turner)
def ZW7(C:W0)(il:List IOp):Nat->W0->List IOp->Nat
 |i,c::l,o::il'=>if(o.g.isNone&&match o.e with
  | .box _=>true
  |_=>false)&&ZXS true i c 0 C il then i else ZW7 C il (i+1) l il'
 |_,_,_=>1000
def ZKS(ops:List Oper)(il:List IOp)(k:Nat)(rs:W0):Bool:=Nat.blt k 1000||ZDO ops il (k % 1000) rs (k/1000-1)
def ZTk(P:Program)(ops:List Oper)(il:List IOp)(k:Nat)(rs:W0)(k2:Nat)(rs2:W0):Option (Nat×List Nat×Nat×List Nat×List IOp):=
 if P.follows .mixedOrders=true/\ZDO ops il k rs il.length=true/\Nat.blt k 1000=true then if ZDO ops il k2 rs2 il.length=true/\ZKS ops il k2 rs2=true then some (k,rs,k2,rs2,il)else some (k,rs,k,rs,il)else none
def ZPq(P:Program)(ops:Array Oper)(il:List IOp):Option (Nat×List Nat×Nat×List Nat×List IOp):=
 let C:=below [] ops.toList
 let rs:=if Zdv il=true then ZWy C il 0 C (Zbx [] il) il else rsG false C il 0 C il
 let cl:=il.any (λo=>o.e.isCall)
 let rs2:=if cl=true then rsG true C il 0 C il else rs
 let L:=if cl=true then ZW7 C il 0 C il else 1000
 let k2:=cutG rs2 L 0 0 0 C il
 ZTk P ops.toList il (cutG rs 1000 0 0 0 C il) rs (if Nat.blt L 1000=true then k2+1000*(L+1)else k2) rs2
theorem ZTz{P:Program}{ops:Array Oper}{il l:List IOp}{k k2:Nat}{rs rs2:W0}(h:ZPq P ops il=some (k,rs,k2,rs2,l)):P.follows .mixedOrders=true/\ZDO ops.toList l k rs l.length=true/\ZDO ops.toList l k2 rs2 l.length=true/\ZKS ops.toList l k2 rs2=true/\il=l:=by
 unfold ZPq at h;simp only at h;generalize(if Zdv il=true then ZWy (below [] ops.toList) il 0 (below [] ops.toList) (Zbx [] il) il else rsG false (below [] ops.toList) il 0 (below [] ops.toList) il)=R at h;generalize(if il.any (λo=>o.e.isCall)=true then rsG true (below [] ops.toList) il 0 (below [] ops.toList) il else R)=R2 at h;generalize(if il.any (λo=>o.e.isCall)=true then ZW7 (below [] ops.toList) il 0 (below [] ops.toList) il else 1000)=L at h;generalize(if Nat.blt L 1000=true then cutG R2 L 0 0 0 (below [] ops.toList) il+1000*(L+1)else cutG R2 L 0 0 0 (below [] ops.toList) il)=K2 at h;unfold ZTk at h;split at h
 .rename_i h1;split at h
  .rename_i h2;simp only[Yu,YP]at h;obtain⟨rfl,rfl,rfl,rfl,rfl⟩:=h;exact⟨h1.1,h1.2.1,h2.1,h2.2,rfl⟩
  .simp only[Yu,YP]at h;obtain⟨rfl,rfl,rfl,rfl,rfl⟩:=h;exact⟨h1.1,h1.2.1,h1.2.1,by unfold ZKS;rw[h1.2.2];rfl,rfl⟩
 .cases h
def ZNo(x:Option IC):Option IC:=some (x.getD .dead)
theorem Qi{x:Option IC}{ic:IC}(h:ZNo x=some ic)(hd:ic≠ .dead):x=some ic:=by
 cases x with
 |none=>simp only[ZNo,ZM1,Yu]at h;exact absurd h.symm hd
 |some y=>simpa[ZNo]using h
def Zo(P:Program)(n:Nat):Code->Option IC
 | .skip=>some .skip
 | .region _ ops draw=>ZNo (if draw then((ops.toList.mapM (JG P n ops)).bind (ZPq P ops)).map λp=> .dreg p.1 p.2.1 p.2.2.1 p.2.2.2.1 p.2.2.2.2
  else(ops.toList.mapM (JG P n ops)).map .reg)
 | .refuse _=>some .dead
 | .seq a b=>(Zo P n a).bind λa'=>(Zo P n b).map λb'=> .seq a' b'
 | .cond x a b=>(Zb x).bind λx'=>(Zo P n a).bind λa'=>(Zo P n b).map λb'=> .cond x' a' b'
 | .block i b=>(Zo P n b).map λb'=> .block i b'
 | .loop b=>(Zo P n b).map .loop
 | .exit i=>some (.exit i)
 | .ret=>some .ret
 | .scope b=>(Zo P n b).map λb'=> .scope b' b'
 | .label l=>some (.label l)
 | .goto l=>some (.goto l)
 |_=>none
structure Run (c:Ctx) (E0:Env) (os0:J7) (E:Env) (os:J7):Prop where
 rel:Rel c E os
 evo:Evo E0 os0 E os
def WI(P:Program)(c:Ctx)(E0:Env)(os0:J7)(n:Nat)(ic:IC)(Q:Exit->J4->J7->Prop)(φ:J4)(os:J7):Prop:=
 ∀(code:Code),Zo P n code=some ic-> ∀(E:Env) (a:Act),Run c E0 os0 E os->Fr n E os φ a->
  code.wp P (λx a' w'=> ∃E' φ' os',E'.w=w'/\Run c E0 os0 E' os'/\Fr n E' os' φ' a'/\Q x φ' os') a E.w
section
variable {P:Program} {c:Ctx} {E0:Env} {os0:J7} {n:Nat} {Q:Exit->J4->J7->Prop} {φ:J4} {os:J7}
theorem WI.mono{ic:IC}{Q':Exit->J4->J7->Prop}(h:WI P c E0 os0 n ic Q φ os)(hQ: ∀x φ os,Q x φ os->Q' x φ os):WI P c E0 os0 n ic Q' φ os:=
 λcode hc E a R hf=>wp_mono (h code hc E a R hf) (λ_ _ _ ⟨E',φ',os',h1,h2,h3,h4⟩=>⟨E',φ',os',h1,h2,h3,hQ _ _ _ h4⟩)
theorem ZTi{code:Code}(hc:Zo P n code=some .skip):code= .skip:=by
 cases code<;>simp only[Zo]at hc<;>(try replace hc:=Qi hc J1)<;>(try split at hc)<;>simp[YG]at hc|-
theorem ZWA{code:Code}{a' b':IC}(hc:Zo P n code=some (.seq a' b')): ∃a b,code= .seq a b/\Zo P n a=some a'/\Zo P n b=some b':=by
 cases code<;>simp only[Zo]at hc<;>(try replace hc:=Qi hc J1)<;>(try split at hc)<;>simp[YG]at hc|-
 exact⟨_,_,⟨rfl,rfl⟩,hc.1,hc.2⟩
theorem ZTw{code:Code}{x':IO}{a' b':IC}(hc:Zo P n code=some (.cond x' a' b')): ∃x a b,code= .cond x a b/\Zb x=some x'/\Zo P n a=some a'/\Zo P n b=some b':=by
 cases code<;>simp only[Zo]at hc<;>(try replace hc:=Qi hc J1)<;>(try split at hc)<;>simp[YG]at hc|-
 obtain⟨x,h1,y,h2,z,h3,rfl,rfl,rfl⟩:=hc;exact⟨_,_,_,⟨rfl,rfl,rfl⟩,h1,h2,h3⟩
theorem ZQn{code:Code}{i:Nat}{b':IC}(hc:Zo P n code=some (.block i b')): ∃b,code= .block i b/\Zo P n b=some b':=by
 cases code<;>simp only[Zo]at hc<;>(try replace hc:=Qi hc J1)<;>(try split at hc)<;>simp[YG]at hc|-
 exact⟨_,⟨hc.2,rfl⟩,hc.1⟩
theorem ZJo{code:Code}{b':IC}(hc:Zo P n code=some (.loop b')): ∃b,code= .loop b/\Zo P n b=some b':=by
 cases code<;>simp only[Zo]at hc<;>(try replace hc:=Qi hc J1)<;>(try split at hc)<;>simp[YG]at hc|-
 exact hc
theorem ZTH{code:Code}{i:Nat}(hc:Zo P n code=some (.exit i)):code= .exit i:=by
 cases code<;>simp only[Zo]at hc<;>(try replace hc:=Qi hc J1)<;>(try split at hc)<;>simp[YG]at hc|-
 exact hc
theorem ZV4{code:Code}(hc:Zo P n code=some .ret):code= .ret:=by
 cases code<;>simp only[Zo]at hc<;>(try replace hc:=Qi hc J1)<;>(try split at hc)<;>simp[YG]at hc|-
theorem ZKK{code:Code}{b' c':IC}(hc:Zo P n code=some (.scope b' c')): ∃b,code= .scope b/\Zo P n b=some b'/\c'=b':=by
 cases code<;>simp only[Zo]at hc<;>(try replace hc:=Qi hc J1)<;>(try split at hc)<;>simp[YG]at hc|-
 obtain⟨h1,h2⟩:=hc;subst h2;exact⟨h1,rfl⟩
theorem ZQJ{code:Code}{l:Nat}(hc:Zo P n code=some (.label l)):code= .label l:=by
 cases code<;>simp only[Zo]at hc<;>(try replace hc:=Qi hc J1)<;>(try split at hc)<;>simp[YG]at hc|-
 exact hc
theorem ZTY{code:Code}{l:Nat}(hc:Zo P n code=some (.goto l)):code= .goto l:=by
 cases code<;>simp only[Zo]at hc<;>(try replace hc:=Qi hc J1)<;>(try split at hc)<;>simp[YG]at hc|-
 exact hc
theorem ZGm{code:Code}{l:List IOp}(hc:Zo P n code=some (.reg l)): ∃id ops,code= .region id ops false/\ops.toList.mapM (JG P n ops)=some l:=by
 cases code<;>simp only[Zo]at hc<;>(try replace hc:=Qi hc J1)<;>(try split at hc)<;>simp[YG]at hc|-
 rename_i h;exact⟨_,_,⟨rfl,rfl,WM⟩,hc⟩
theorem ZMZ{code:Code}{k k2:Nat}{rs rs2:W0}{l:List IOp}(hc:Zo P n code=some (.dreg k rs k2 rs2 l)): ∃id ops,code= .region id ops true/\ops.toList.mapM (JG P n ops)=some l/\P.follows .mixedOrders=true/\ZDO ops.toList l k rs l.length=true/\ZDO ops.toList l k2 rs2 l.length=true/\ZKS ops.toList l k2 rs2=true:=by
 cases code<;>simp only[Zo]at hc<;>(try replace hc:=Qi hc J1)<;>(try split at hc)<;>simp[YG]at hc|-
 rename_i h;obtain⟨l',h1,h2⟩:=hc;obtain⟨_,_,_,_,_,h2,rfl,rfl,rfl,rfl,rfl⟩:=h2;obtain⟨h3,h4,h5,h6,rfl⟩:=ZTz h2;exact⟨_,_,⟨rfl,rfl,WM⟩,h1,h3,h4,h5,h6⟩
theorem ZdC{code:Code}(hc:Zo P n code=some .dead):(∃id ops d,code= .region id ops d)\/ ∃s,code= .refuse s:=by
 cases code<;>simp only[Zo]at hc<;>simp[YG]at hc|-
def ZFi:IC->Nat->Option IC
 | .seq a b,l=>match ZFi a l with
  |some r=>some (.seq r b)
  |none=>ZFi b l
 | .label l',l=>if l'==l then some .skip else none
 |_,_=>none
theorem ZHr: ∀(ic:IC) (code:Code),Zo P n code=some ic-> ∀l,(∀r,ZFi ic l=some r-> ∃rc,findLabel code l=some rc/\Zo P n rc=some r)/\(ZFi ic l=none->findLabel code l=none)
 | .seq a b,code,hc,l=>by
  obtain⟨ca,cb,rfl,h1,h2⟩:=ZWA hc;obtain⟨a1,a2⟩:=ZHr a ca h1 l;obtain⟨b1,b2⟩:=ZHr b cb h2 l;simp only[ZFi,findLabel];cases ha:ZFi a l with
  |some ra=>
   obtain⟨rc,k1,k2⟩:=a1 ra ha;refine⟨λr hr=> ?_,λh=>W6⟩;cases hr;rw[k1];exact⟨_,rfl,by simp only[Zo,k2,h2,ZA9,Yq]⟩
  |none=>
   rw[a2 ha];exact⟨λr hr=>b1 r hr,λh=>b2 h⟩
 | .label l',code,hc,l=>by
  rw[ZQJ hc];simp only[ZFi,findLabel];split
  .exact⟨λr hr=>(by cases hr;exact⟨_,rfl,rfl⟩),λh=>W6⟩
  .exact⟨λr hr=>TI,λ_=>rfl⟩
 | .skip,code,hc,l=>by rw[ZTi hc];exact Vu
 | .reg _,code,hc,l=>by obtain⟨id,ops,rfl,_⟩:=ZGm hc;exact Vu
 | .dreg _ _ _ _ _,code,hc,l=>by obtain⟨id,ops,rfl,_⟩:=ZMZ hc;exact Vu
 | .cond _ _ _,code,hc,l=>by obtain⟨_,_,_,rfl,_⟩:=ZTw hc;exact Vu
 | .block _ _,code,hc,l=>by obtain⟨_,rfl,_⟩:=ZQn hc;exact Vu
 | .loop _,code,hc,l=>by obtain⟨_,rfl,_⟩:=ZJo hc;exact Vu
 | .exit _,code,hc,l=>by rw[ZTH hc];exact Vu
 | .ret,code,hc,l=>by rw[ZV4 hc];exact Vu
 | .scope _ _,code,hc,l=>by obtain⟨_,rfl,_⟩:=ZKK hc;exact Vu
 | .goto _,code,hc,l=>by rw[ZTY hc];exact Vu
 | .dead,code,hc,l=>by rcases ZdC hc with⟨_,_,_,rfl⟩|⟨_,rfl⟩<;>exact⟨λr hr=>TI,λ_=>rfl⟩
theorem WI.label{l:Nat}(h:Q .normal φ os):WI P c E0 os0 n (.label l) Q φ os:=by
 intro code hc E a R hf;rw[ZQJ hc];exact wp_label ⟨E,φ,os,rfl,R,hf,h⟩
theorem WI.goto{l:Nat}(h:Q (.goto l) φ os):WI P c E0 os0 n (.goto l) Q φ os:=by
 intro code hc E a R hf;rw[ZTY hc];exact wp_goto ⟨E,φ,os,rfl,R,hf,h⟩
def ZNP(l:Nat)(J:J4->J7->Prop)(Q:Exit->J4->J7->Prop):Exit->J4->J7->Prop
 | .goto l',φ,os=>l'=l/\J φ os
 |x,φ,os=>Q x φ os
def ZPe(P:Program)(c rc:Code)(Q:Exit->Act->World->Prop)(a:Act)(w:World):Prop:=
 ∀b k cs,∃e a' w',Q e a' w'/\Arrives P (lone (b.at a (.code rc:: .inScope c::k)) cs w) b k cs e a' w'
theorem ZKr{c rc:Code}{Q:Exit->Act->World->Prop}{a:Act}{w:World}(h:rc.wp P (λe a' w'=>match e with| .goto l=> ∃rest,findLabel c l=some rest/\ZPe P c rest Q a' w'|e=>Q e a' w') a w):ZPe P c rc Q a w:=by
 intro b k cs;obtain⟨e,a₁,w₁,hq,harr⟩:=h b (.inScope c::k) cs;cases e with
 |normal=>exact⟨.normal,a₁,w₁,hq,Steps.trans harr (.one step_inScope)⟩
 |exit id=>exact⟨.exit id,a₁,w₁,hq,λk' hk=>harr k' (by simp[exitTo,hk])⟩
 |goto l'=>
  obtain⟨rest,hf,hn⟩:=hq;have hg:gotoIn l' (.inScope c::k)=some (.code rest:: .inScope c::k):=by simp[gotoIn,hf]
  obtain⟨e₂,a₂,w₂,hq₂,harr₂⟩:=hn b k cs;exact⟨e₂,a₂,w₂,hq₂,.of_steps (harr _ hg) harr₂⟩
 |ret=>exact⟨_,a₁,w₁,hq,harr⟩
 |panic ch=>exact⟨_,a₁,w₁,hq,harr⟩
 |outgrown=>exact⟨_,a₁,w₁,hq,harr⟩
theorem ZNl{c:Code}{Q:Exit->Act->World->Prop}{a:Act}{w:World}(h:ZPe P c c Q a w):(Code.scope c).wp P Q a w:=by
 intro b k cs;obtain⟨e,a₁,w₁,hq,harr⟩:=h b k cs;exact⟨e,a₁,w₁,hq,.of_steps (.one step_scope) harr⟩
theorem WI.skip(h:Q .normal φ os):WI P c E0 os0 n .skip Q φ os:=by
 intro code hc E a R hf;rw[ZTi hc];exact wp_skip ⟨E,φ,os,rfl,R,hf,h⟩
theorem WI.ret(h:Q .ret φ os):WI P c E0 os0 n .ret Q φ os:=by
 intro code hc E a R hf;rw[ZV4 hc];exact wp_ret ⟨E,φ,os,rfl,R,hf,h⟩
theorem WI.exit{i:Nat}(h:Q (.exit i) φ os):WI P c E0 os0 n (.exit i) Q φ os:=by
 intro code hc E a R hf;rw[ZTH hc];exact wp_exit ⟨E,φ,os,rfl,R,hf,h⟩
def ZHz(next:J4->J7->Prop)(Q:Exit->J4->J7->Prop):Exit->J4->J7->Prop
 | .normal,φ,os=>next φ os
 |x,φ,os=>Q x φ os
def ZHJ(i:Nat)(Q:Exit->J4->J7->Prop):Exit->J4->J7->Prop
 | .exit j,φ,os=>if j=i then Q .normal φ os else Q (.exit j) φ os
 |x,φ,os=>Q x φ os
theorem WI.seq{x y:IC}(h:WI P c E0 os0 n x (ZHz (WI P c E0 os0 n y Q) Q) φ os):WI P c E0 os0 n (.seq x y) Q φ os:=by
 intro code hc E a R hf;obtain⟨ca,cb,rfl,h1,h2⟩:=ZWA hc;refine wp_seq (wp_mono (h ca h1 E a R hf) (λe a' w' ⟨E',φ',os',k1,k2,k3,k4⟩=> ?_));subst k1;cases e with
 |normal=>exact k4 cb h2 E' a' k2 k3
 |_=>exact⟨E',φ',os',rfl,k2,k3,k4⟩
theorem WI.block{i:Nat}{b:IC}(h:WI P c E0 os0 n b (ZHJ i Q) φ os):WI P c E0 os0 n (.block i b) Q φ os:=by
 intro code hc E a R hf;obtain⟨cb,rfl,h1⟩:=ZQn hc;refine wp_block (wp_mono (h cb h1 E a R hf) (λe a' w' ⟨E',φ',os',k1,k2,k3,k4⟩=> ?_));cases e with
 |exit j=>
  simp only[Exit.inBlock];simp only[ZHJ]at k4;split
  .rename_i hj;rw[if_pos hj]at k4;exact⟨E',φ',os',k1,k2,k3,k4⟩
  .rename_i hj;rw[if_neg hj]at k4;exact⟨E',φ',os',k1,k2,k3,k4⟩
 |_=>exact⟨E',φ',os',k1,k2,k3,k4⟩
theorem WI.cond{x:IO}{y z:IC}{b:Bool}(hv:(ZG φ x).val= .x (.bool b))(hcd:(ZG φ x).cond=true)(ht:b=true->WI P c E0 os0 n y Q φ os)(he:b=false->WI P c E0 os0 n z Q φ os):WI P c E0 os0 n (.cond x y z) Q φ os:=by
 intro code hc E a R hf;obtain⟨cx,ca,cb,rfl,h1,h2,h3⟩:=ZTw hc;have:=(V.op hf h1).strip hcd;rw[hv]at this;exact wp_cond_split (V.bool this) (λh=>ht h ca h2 E a R hf) (λh=>he h cb h3 E a R hf)
theorem WI.reg{S:Tabs}(hS:SsOk P S)(ks:W0){l:List IOp}{ok:Bool}{φ':J4}{os':J7}(h:QJ S φ os l=some (ok,φ',os'))(hok:ok=true)(hq:Q .normal (keep ks φ') os'):WI P c E0 os0 n (.reg l) Q φ os:=by
 intro code hc E a R hf;subst hok;obtain⟨id,ops,rfl,h1⟩:=ZGm hc;exact wp_region_list (ZLE hS R.rel hf h1 h (λE' a' R' e' f'=>⟨E',_,os',rfl,⟨R',R.evo.trans e'⟩,f'.keep ks,hq⟩))
def Ym(r:Option (Bool×List (Nat×D)×J7))(K:J4->J7->Prop):Prop:= ∃ok φ os,r=some (ok,φ,os)/\ok=true/\K φ os
theorem Ym.some_iff{ok:Bool}{φ:J4}{os:J7}{K:J4->J7->Prop}:Ym (some (ok,φ,os)) K=(ok=true/\K φ os):=by
 apply propext;constructor
 .rintro⟨ok',φ',os',h,h1,h2⟩;cases h;exact⟨h1,h2⟩
 .rintro⟨h1,h2⟩;exact⟨ok,φ,os,rfl,h1,h2⟩
theorem WI.regK{S:Tabs}(hS:SsOk P S)(ks:W0){l:List IOp}(h: ∀K:J4->J7->Prop,(∀φ' os',Q .normal φ' os'->K φ' os')->Ym (QJ S φ os l) (λφ' os'=>K (Go.Ab.keep ks φ') os')):WI P c E0 os0 n (.reg l) Q φ os:=by
 obtain⟨ok,φ',os',h1,h2,h3⟩:=h _ (λ_ _ h=>h);exact WI.reg hS ks h1 h2 h3
theorem WI.reg'{S:Tabs}(hS:SsOk P S){l:List IOp}{ok:Bool}{φ':J4}{os':J7}(h:QJ S φ os l=some (ok,φ',os'))(hok:ok=true)(hq:Q .normal φ' os'):WI P c E0 os0 n (.reg l) Q φ os:=by
 intro code hc E a R hf;subst hok;obtain⟨id,ops,rfl,h1⟩:=ZGm hc;exact wp_region_list (ZLE hS R.rel hf h1 h (λE' a' R' e' f'=>⟨E',_,os',rfl,⟨R',R.evo.trans e'⟩,f',hq⟩))
theorem WI.dreg'{S:Tabs}(hS:SsOk P S){m:Option W0}{k k2:Nat}{rs rs2:W0}{l:List IOp}{ok:Bool}{φ' φ2:J4}{os':J7}(h:ZHZ m S φ os k rs l=some (ok,φ',os')\/ZHZ m S φ os k2 rs2 l=some (ok,φ',os'))(hok:ok=true)(hq:Q .normal φ2 os')(hk: ∀E a,Fr n E os' φ' a->Fr n E os' φ2 a):WI P c E0 os0 n (.dreg k rs k2 rs2 l) Q φ os:=by
 intro code hc E a R hf;subst hok;obtain⟨id,ops,rfl,h4,h5,h6,h7,_⟩:=ZMZ hc;rcases h with h|h
 .exact ZVc h5 hS h6 h4 R.rel hf h (λE' a' R' e' f'=>⟨E',_,os',rfl,⟨R',R.evo.trans e'⟩,hk _ _ f',hq⟩)
 .exact ZVc h5 hS h7 h4 R.rel hf h (λE' a' R' e' f'=>⟨E',_,os',rfl,⟨R',R.evo.trans e'⟩,hk _ _ f',hq⟩)
theorem WI.scope{b rest:IC}(l:Nat)(hfi:ZFi b l=some rest)(J:J4->J7->Prop)(μ:J4->J7->Nat)(first:WI P c E0 os0 n b (ZNP l J Q) φ os)
  (pass: ∀φ os,J φ os->WI P c E0 os0 n rest (ZNP l (λφ' os'=>J φ' os'/\μ φ' os'<μ φ os) Q) φ os):WI P c E0 os0 n (.scope b b) Q φ os:=by
 intro code hc E a R hf;obtain⟨cb,rfl,h1,_⟩:=ZKK hc;obtain⟨rc,h2,h3⟩:=(ZHr b cb h1 l).1 rest hfi;refine ZNl ?_;have key: ∀(k:Nat) (φ:J4) (os:J7) (E:Env) (a:Act),μ φ os=k->J φ os->Run c E0 os0 E os->Fr n E os φ a->ZPe P cb rc (λx a' w'=> ∃E' φ' os',E'.w=w'/\Run c E0 os0 E' os'/\Fr n E' os' φ' a'/\Q x φ' os') a E.w:=by
  intro k
  induction k using Nat.strongRecOn with
  |_ k ih=>
   intro φ os E a hk hJ R hf;refine ZKr (wp_mono (pass φ os hJ rc h3 E a R hf) ?_);rintro e a' w' ⟨E',φ',os',rfl,R',f',hq⟩;cases e with
   |goto l'=>
    obtain⟨rfl,hJ',hlt⟩:=hq;exact⟨rc,h2,ih _ J0 φ' os' E' a' rfl hJ' R' f'⟩
   |_=>exact⟨E',φ',os',rfl,R',f',hq⟩
 refine ZKr (wp_mono (first cb h1 E a R hf) ?_);rintro e a' w' ⟨E',φ',os',rfl,R',f',hq⟩;cases e with
 |goto l'=>
  obtain⟨rfl,hJ'⟩:=hq;exact⟨rc,h2,key _ φ' os' E' a' rfl hJ' R' f'⟩
 |_=>exact⟨E',φ',os',rfl,R',f',hq⟩
theorem WI.loop{b:IC}(I:J4->J7->Prop)(μ:J4->J7->Nat)(h0:I φ os)
  (round: ∀φ os,I φ os->WI P c E0 os0 n b (ZHz (λφ' os'=>I φ' os'/\μ φ' os'<μ φ os) Q) φ os):WI P c E0 os0 n (.loop b) Q φ os:=by
 intro code hc E a R hf;obtain⟨cb,rfl,h1⟩:=ZJo hc
 let T:Act->World->Nat->Prop:=λa w k=> ∃E φ os,E.w=w/\Run c E0 os0 E os/\Fr n E os φ a/\I φ os/\μ φ os=k
 have hT:T a E.w (μ φ os):=⟨E,φ,os,rfl,R,hf,h0,rfl⟩;have hmin: ∀(a:Act) (w:World),(∃k,T a w k)-> ∃k,T a w k/\ ∀j,T a w j->k<=j:=by
  intro a w ⟨k,hk⟩
  induction k using Nat.strongRecOn with
  |_ k ih=>
   by_cases h: ∃j,j<k/\T a w j
   .obtain⟨j,hj,hj2⟩:=h;exact ih j hj hj2
   .exact⟨k,hk,λj hj=>by
     rcases Nat.lt_or_ge j k with h2|h2
     .exact absurd ⟨j,h2,hj⟩ h
     .exact h2⟩
 classical
 let m:Act->World->Nat:=λa w=>if h: ∃k,T a w k then Classical.choose (hmin a w h)else 0
 have hm: ∀a w k,T a w k->T a w (m a w)/\m a w<=k:=by
  intro a w k hk;have hex: ∃k,T a w k:=⟨k,hk⟩;have:m a w=Classical.choose (hmin a w hex):=dif_pos hex;rw[this];obtain⟨q1,q2⟩:=ZWe (hmin a w hex);exact⟨q1,q2 k hk⟩
 refine wp_loop (λa w=> ∃k,T a w k) m ⟨_,hT⟩ (λa w ⟨k,hk⟩=> ?_);obtain⟨⟨E1,φ1,os1,rfl,R1,f1,i1,hk1⟩,_⟩:=hm a w k hk;refine wp_mono (round φ1 os1 i1 cb h1 E1 a R1 f1) (λe a' w' ⟨E',φ',os',k1,k2,k3,k4⟩=> ?_);cases e with
 |normal=>
  have ht:T a' w' (μ φ' os'):=⟨E',φ',os',k1,k2,k3,k4.1,rfl⟩;refine⟨⟨_,ht⟩,?_⟩;have:=(hm a' w' _ ht).2;have:=k4.2;omega
 |_=>exact⟨E',φ',os',k1,k2,k3,k4⟩
theorem WI.weak{ic:IC}{φ':J4}{os':J7}(hw: ∀(E:Env) (a:Act),Run c E0 os0 E os->Fr n E os φ a-> ∃E',E'.w=E.w/\Run c E0 os0 E' os'/\Fr n E' os' φ' a)(h:WI P c E0 os0 n ic Q φ' os'):WI P c E0 os0 n ic Q φ os:=by
 intro code hc E a R hf;obtain⟨E',h1,h2,h3⟩:=hw E a R hf;rw[<-h1];exact h code hc E' a h2 h3
theorem WI.keep(ks:W0){ic:IC}(h:WI P c E0 os0 n ic Q (keep ks φ) os):WI P c E0 os0 n ic Q φ os:=WI.weak (λE _ R hf=>⟨E,rfl,R,hf.keep ks⟩) h
theorem WI.own(t e sz:Nat)(ht:get φ t= .x .nils){ic:IC}(h:WI P c E0 os0 n ic Q (put φ t (.ref os.length 0 0 0)) (os++ [.rows false e sz []])):WI P c E0 os0 n ic Q φ os:=by
 refine WI.weak (λE a R hf=> ?_) h;obtain⟨E',k1,k2,k3,k4⟩:=ZAc (fz:=false) (e:=e) (sz:=sz) (rs:= []) (cu:= .slice none 0 0) (xs:= []) R.rel (Kept.refl _ E.w) ⟨J1,.inl ⟨rfl,rfl⟩⟩ (λb hb=>Xr) (λr hr=>TI) (λi r j x v h=>WE);refine⟨E',k1,⟨k2,R.evo.trans k3⟩,hf.size,hf.defers,λu=> ?_⟩;rw[ZPE];split
 .rename_i he;subst he;have:=hf.slot t;rw[ht]at this;rw[V.nils this];exact k4
 .exact(hf.slot u).mono k3
end
inductive IRes where
 |tmp (t:Nat)
 |cell (t n:Nat) (ag:Bool)
structure IFn where
 n:Nat
 res:List IRes
 body:IC
def ZPP(P:Program):ResultVar->Option IRes
 | .tmp t=>some (.tmp t)
 | .cell a t=>(Kn P t).bind λn=>(ZGF P t).map λag=> .cell a n ag
def ZFv(P:Program)(f:Func):Option IFn:=
 f.body.bind λc=>(Zo P f.ntmps c).bind λb=>(f.results.toList.mapM (ZPP P)).map λr=>⟨f.ntmps,r,b⟩
def ZDQ:Nat->J8->J4
 |_,[]=> []
 |i,d::ds=>(i,d)::ZDQ (i+1) ds
def ZDq(os:J7):D->Option (D×J7)
 | .agg ds=>(YZ os ds).map λp=>(.agg (p.1.map .x),p.2)
 | .fn f []=>some (.fn f [],os)
 | .ptr id off=>some (.ptr id off,os)
 |d=>(Yh os d).map λp=>(.x p.1,p.2)
def ZGu(fz:Bool)(os:J7)(d:D):Option (D×J7):=if fz then ZDq os d else some (d,os)
def ZH6(fz:Bool)(S:Tab)(φ:J4)(os:J7):IRes->Option (Bool×D×J7)
 | .tmp t=>(ZGu fz os (get φ t).val).map λp=>((get φ t).cond,p.1,p.2)
 | .cell t n ag=>(ZT S φ os (.ld n ag (.t t))).bind λr=>(ZGu fz os r.2.val).map λp=>(r.1&&r.2.cond,p.1,p.2)
def QE(fz:Bool)(S:Tab)(φ:J4):J7->List IRes->Option (Bool×List D×J7)
 |os,[]=>some (true,[],os)
 |os,r::rs=>(ZH6 fz S φ os r).bind λp=>(QE fz S φ p.2.2 rs).map λq=>(p.1&&q.1,p.2.1::q.2.1,q.2.2)
def mkR:J8->D
 | [d]=>d
 |ds=> .tup ds
def ZNI(E:Env)(os:J7)(b:Nat):Prop:= ∃(i:Nat) (o:Ob) (p:Nat×Value),os[i]? =some o/\E.ob[i]? =some p/\o.mb p b
def ZF(P:Program)(f:FuncId)(args:J8)(os:J7)(Post:D->J7->Prop):Prop:=
 ∀(c:Ctx) (E:Env) (vs:Array Value),Rel c E os->VL E os args vs->
  Calls P f vs E.w λe w'=> ∃v E' r os',e= .returned v/\E'.w=w'/\Rel c E' os'/\Evo E os E' os'/\V E' os' r v/\Post r os'
def ZUM(tmps:Array Value):ResultVar->Sem Value
 | .tmp t=>pure (tmps.getD t undef)
 | .cell x t=>do loadVar t (<-asAddr (tmps.getD x undef))
section
variable {P:Program} {E:Env} {os:J7} {c:Ctx} {n:Nat} {φ:J4} {a:Act}
theorem ZbM(ds:J8): ∀(i t:Nat),get (ZDQ i ds) t=if i<=t then(ds[t-i]?).getD .und else .und:=by
 induction ds with
 |nil=>intro i t;simp[ZDQ,get]
 |cons d ds ih=>
  intro i t;simp only[ZDQ,get,ih];by_cases h:i=t
  .subst h;simp
  .by_cases h2:i<=t
   .have h3:i+1<=t:=Wm
    have h4:t-i=(t-(i+1))+1:=Wm
    simp[h,h2,h3,h4]
   .have h3: ¬(i+1<=t):=Wm
    simp[h,h2,h3]
theorem ZYM(R:Rel c E os){d:D}{v:Value}(hv:V E os d v){d':D}{os':J7}(h:ZDq os d=some (d',os')): ∃st',Rel c ⟨E.w,st',E.ob⟩ os'/\Evo E os ⟨E.w,st',E.ob⟩ os'/\V ⟨E.w,st',E.ob⟩ os' d' v:=by
 unfold ZDq at h;split at h
 .rename_i ds;obtain⟨⟨xs,os1⟩,h1,h⟩:=Zc h;cases h;cases hv with
  |agg vs hl h1' hvv=>
   obtain⟨st',R',e',k1,k2⟩:=ZCN (vs:=vs.toList) R (λj d v hd hv=>hvv j d v hd UB) (by simp[hl]) h1;refine⟨st',R',e',.agg vs Hs h1' (λj d v hd hv'=> ?_)⟩;rw[YI]at hd;obtain⟨y,hy,rfl⟩:=Zc hd;exact .x (k2 j y v hy (by simpa using hv'))
 .exact Xi
 .exact Xi
 .obtain⟨⟨x,os1⟩,h1,h⟩:=Zc h;cases h;obtain⟨st',R',e',hx⟩:=ZIx R hv h1;exact⟨st',R',e',.x hx⟩
theorem ZV5{fz:Bool}(R:Rel c E os){d:D}{v:Value}(hv:V E os d v){d':D}{os':J7}(h:ZGu fz os d=some (d',os')): ∃st',Rel c ⟨E.w,st',E.ob⟩ os'/\Evo E os ⟨E.w,st',E.ob⟩ os'/\V ⟨E.w,st',E.ob⟩ os' d' v:=by
 unfold ZGu at h;split at h
 .exact ZYM R hv h
 .exact Xi
theorem Zg0{S:Tab}(R:Rel c E os)(hf:Fr n E os φ a){t m tt:Nat}{ag:Bool}(hs:Kn P tt=some m)(ha:ZGF P tt=some ag){d:D}(h:ZT S φ os (.ld m ag (.t t))=some (true,d)):
  ∃v,(do loadVar tt (<-asAddr (a.tmps.getD t undef)):Sem Value).run P E.w= .ok v E.w/\V E os d v:=by
 have hx:V E os (ZG φ (.t t)) (a.tmps.getD t undef):=hf.slot t;obtain⟨v,h1,h2⟩:=ZYL (P:=P) R hs ha hx h;refine⟨v,?_,h2⟩;have hp: ∃ad,a.tmps.getD t undef= .pointer (some ad):=by
  generalize a.tmps.getD t undef=u at h1;cases u with
  |pointer ad=>
   cases ad with
   |some ad=>exact⟨ad,rfl⟩
   |none=>exact Hh
  |_=>exact Hh
 obtain⟨ad,had⟩:=hp;rw[had]at h1|-;simpa[Instr.loadAt,Instr.sureAddr,asAddr]using h1
theorem ZWH{fz:Bool}{S:Tab}: ∀ {rs:List ResultVar} {irs:List IRes} {E:Env} {os:J7},Rel c E os->Fr n E os φ a->rs.mapM (ZPP P)=some irs-> ∀ {ds:J8} {os':J7},QE fz S φ os irs=some (true,ds,os')->
  ∃(vs:List Value) (E':Env),E'.w=E.w/\Rel c E' os'/\Evo E os E' os'/\vs.length=ds.length/\(∀(j:Nat) (d:D) (v:Value),ds[j]? =some d->vs[j]? =some v->V E' os' d v)/\
   (rs.mapM (ZUM a.tmps)).run P E.w= .ok vs E.w
 | [],irs,E,os,R,hf,hm,ds,os',h=>by
  simp at hm;subst hm;cases h;exact⟨[],E,rfl,R,Evo.refl _ _,rfl,λj d v h=>WE,J1⟩
 |r::rs,irs,E,os,R,hf,hm,ds,os',h=>by
  simp only[ZAV,KL,YG,ZBA]at hm;obtain⟨ir,hir,irs',hirs,hm⟩:=hm;cases hm;simp only[QE,YG,Kq]at h;obtain⟨⟨ok,d,os1⟩,h1,⟨ok2,ds2,os2⟩,h2,h3⟩:=h;simp at h3;obtain⟨⟨rfl,rfl⟩,rfl,rfl⟩:=h3;have one: ∃v st',Rel c ⟨E.w,st',E.ob⟩ os1/\Evo E os ⟨E.w,st',E.ob⟩ os1/\V ⟨E.w,st',E.ob⟩ os1 d v/\(ZUM a.tmps r).run P E.w= .ok v E.w:=by
   cases r with
   |tmp t=>
    cases hir;simp only[ZH6,Kq]at h1;obtain⟨⟨d',os'⟩,h4,h5⟩:=h1;simp at h5;obtain⟨h5,rfl,rfl⟩:=h5;obtain⟨st',R',e',hv⟩:=ZV5 R ((hf.slot t).strip h5) h4;exact⟨_,st',R',e',hv,rfl⟩
   |cell x t=>
    simp only[ZPP,YG,Kq]at hir;obtain⟨m,hm,ag,hag,rfl⟩:=hir;simp only[ZH6,YG,Kq]at h1;obtain⟨⟨ok1,d1⟩,h4,⟨d',os'⟩,h5,h6⟩:=h1;simp at h6;obtain⟨⟨rfl,h7⟩,rfl,rfl⟩:=h6;obtain⟨v,k1,k2⟩:=Zg0 (P:=P) R hf hm hag h4;obtain⟨st',R',e',hv⟩:=ZV5 R (k2.strip h7) h5;exact⟨v,st',R',e',hv,k1⟩
  obtain⟨v,st',R1,e1,hv,hrun⟩:=one;obtain⟨vs,E',g1,g2,g3,g4,g5,g6⟩:=ZWH (E:=⟨E.w,st',E.ob⟩) R1 (hf.mono e1) hirs h2;refine⟨v::vs,E',g1,g2,e1.trans g3,by simp[g4],λj d0 v0 hd hv0=> ?_,?_⟩
  .cases j with
   |zero=>simp at hd hv0;subst hd;subst hv0;exact hv.mono g3
   |succ j=>exact g5 j d0 v0 (by simpa using hd) (by simpa using hv0)
  .rw[ZAV];simp only[Sem.run_bind,hrun,Result.andThen_ok,Sem.run_pure];simp only at g6;rw[g6];rfl
theorem ZaU{fz:Bool}{S:Tab}{f:FuncId}{fn:Func}{ifn:IFn}(hfn:P.funcs[f]? =some fn)(hc:ZFv P fn=some ifn)(args:J8)(hle:args.length<=ifn.n)(os:J7){Post:D->J7->Prop}
  (h: ∀(c:Ctx) (E0:Env),WI P c E0 os ifn.n ifn.body (λx φ' os'=>(x= .normal\/x= .ret)/\ ∃ds os2,QE fz S φ' os' ifn.res=some (true,ds,os2)/\Post (mkR ds) os2) (ZDQ 0 args) os):ZF P f args os Post:=by
 intro c E vs R hvl;simp only[ZFv,YG,Kq]at hc;obtain⟨code,hb,ic,hic,irs,hirs,rfl⟩:=hc;simp only at h hle;refine calls_of_wp hfn hb ?_;have hsz:vs.size=args.length:=hvl.1.symm;have hf:Fr fn.ntmps E os (ZDQ 0 args) {tmps:=vs++Array.replicate (fn.ntmps-vs.size) undef,defers:= []}:=by
  refine⟨Wx,rfl,λt=> ?_⟩;rw[ZbM];simp only[Kb,if_true,Nat.sub_zero];cases hd:args[t]? with
  |none=>exact .und _
  |some d=>
   have ht:=(ZX hd).1;have hv:vs[t]? =some vs[t]:=ξJ J0;have:(vs++Array.replicate (fn.ntmps-vs.size) undef).getD t undef=vs[t]:=by
    rw[ZEc,Zbs J0,hv];rfl
   rw[this];exact hvl.2 t d _ hd hv
 refine Code.wp_mono ?_ (h c E code hic E _ ⟨R,Evo.refl _ _⟩ hf);rintro e a' w' ⟨E',φ',os',rfl,hR,hf',hx,ds,os2,hret,hpost⟩;obtain⟨us,E2,g1,g2,g3,g4,g5,g6⟩:=ZWH (P:=P) hR.rel hf' hirs hret;have hres:(results fn a'.tmps).run P E'.w= .ok (if h:us.toArray.size=1 then us.toArray[0]else .tuple us.toArray) E'.w:=by
  have e:results fn a'.tmps=(do let vs<-fn.results.mapM (ZUM a'.tmps);pure (if h:vs.size=1 then vs[0]else .tuple vs)):=by
   unfold results;congr 1
  rw[e];simp[Array.mapM_eq_mapM_toList,g6]
 have hval:V E2 os2 (mkR ds) (if h:us.toArray.size=1 then us.toArray[0]else .tuple us.toArray):=by
  by_cases h1:us.length=1
  .obtain⟨u,rfl⟩:=List.length_eq_one_iff.1 h1;obtain⟨d,rfl⟩:=List.length_eq_one_iff.1 (show ds.length=1 by omega);exact g5 0 d u rfl rfl
  .rw[dif_neg WC];have hne:mkR ds= .tup ds:=by
    unfold mkR;split
    .simp at g4;omega
    .rfl
   rw[hne];exact .tup _ (by simp[g4]) (λj d v hd hv=>g5 j d v hd UB)
 have post:a'.defers= []/\ ∃v,(results fn a'.tmps).run P E'.w= .ok v E'.w/\ ∃v' E'' r os'',Ending.returned v= .returned v'/\E''.w=E'.w/\Rel c E'' os''/\Evo E os E'' os''/\V E'' os'' r v'/\Post r os'':=
  ⟨hf'.defers,_,hres,_,E2,_,os2,rfl,g1,g2,hR.evo.trans g3,hval,hpost⟩
 rcases hx with rfl|rfl<;>exact post
def D.clean:D->Bool
 | .tup ds=>ds.all D.plain
 |d=>d.plain
theorem V.ofPlain{E':Env}{os':J7}{d:D}{v:Value}(h:V E os d v)(hp:d.plain=true)(hx: ∀x v,VX E.w E.st x v->VX E'.w E'.st x v):V E' os' d v:=by
 cases d with
 |x y=>exact .x (hx _ _ h.xx)
 |agg ds=>
  cases h with
  |agg vs hl h1 hv=>
   refine .agg vs hl h1 (λj d v hd hv'=> ?_);have hpd:=Yg.1 hp d (JE hd);have hvd:=hv j d v hd hv';cases d with
   |x z=>exact .x (hx _ _ hvd.xx)
   |_=>cases hpd
 |fn f caps=>
  cases caps with
  |nil=>cases h with|fn vs hl hv=>exact .fn vs hl (λj d v hd=>by simp at hd)
  |cons c cs=>cases hp
 |_=>cases hp
theorem V.ofClean{E':Env}{os':J7}{d:D}{v:Value}(h:V E os d v)(hp:d.clean=true)(hx: ∀x v,VX E.w E.st x v->VX E'.w E'.st x v):V E' os' d v:=by
 cases d with
 |tup ds=>
  cases h with
  |tup vs hl hv=>exact .tup vs hl (λj d v hd hv'=>(hv j d v hd hv').ofPlain (Yg.1 hp d (JE hd)) hx)
 |x y=>exact h.ofPlain hp hx
 |agg ds=>exact h.ofPlain hp hx
 |fn f caps=>exact h.ofPlain hp hx
 |_=>cases hp
theorem ZF.pure{f:FuncId}{args:J8}{r:D}(h:ZF P f args [] (λr' _=>r'=r))(hp:r.clean=true):ZL P f args r:=by
 intro w st vs hst hvl;have nofoot: ∀b,¬ZNI ⟨w,st,[]⟩ [] b:=λb ⟨i,o,p,h1,_⟩=>by simp at h1
 have R:Rel ⟨w,st,ZNI ⟨w,st,[]⟩ []⟩ ⟨w,st,[]⟩ []:=⟨rfl,λi o p h=>WE,λi j o o' p p' b h=>WE,λb off hb=>⟨hst b off hb,λi o p h=>WE⟩,Kept.refl _ _,λi o p b h=>WE,λb off hb=> .inl hb⟩;refine(h _ ⟨w,st,[]⟩ vs R hvl).mono ?_;rintro e w' ⟨v,E',r',os',rfl,rfl,R',ev,hv,rfl⟩;refine⟨v,E'.st,rfl,⟨R'.kept.os,R'.kept.tape,R'.kept.output,R'.kept.size,λk hk _=>R'.kept.block k hk (nofoot k)⟩,λb o hb=>(ev.st b o hb).1,λb o hb=> ?_,hv.ofClean hp (λx v hx=>hx)⟩;rcases R'.sto b o hb with h1|h1|h1
 .exact .inl h1
 .exact absurd h1 (nofoot b)
 .exact .inr ⟨h1,(R'.stm b o hb).1⟩
theorem ZF.mcalls{f:FuncId}{args:J8}{r:D}{os':J7}(h:ZF P f args os (λr' os2=>r'=r/\os2=os')):ZO P f args os r os':=by
 intro c E vs R hvl;refine(h c E vs R hvl).mono ?_;rintro e w' ⟨v,E',r',os2,rfl,rfl,R',ev,hv,rfl,rfl⟩;exact⟨v,E',rfl,rfl,R',ev,hv⟩
theorem enters{f:FuncId}{fn:Func}{ifn:IFn}(hfn:P.funcs[f]? =some fn)(hname:(fn.name== "runtime.NumGoroutine")=false)(hc:ZFv P fn=some ifn):Enters P f:=by
 intro args w;simp only[ZFv,YG]at hc;obtain⟨code,hb,_⟩:=hc;unfold callFunc;simp only[Sem.run_bind,run_program,Result.andThen_ok,hfn,hname,hb,Option.isNone_some,Je,if_false,Sem.run_pure]
end
section
variable {P:Program} {c:Ctx} {E E0:Env} {os os0:J7} {n:Nat} {Q:Exit->J4->J7->Prop} {φ:J4}
def Qb(s:List UInt8)(pos:Nat):Nat×Nat:=Utf8.decode (ZV s) pos
def IE.isNxt:IE->Bool
 | .nxt _ _=>true
 |_=>false
def NXT(x:Option IE):Prop:= ∀e,x=some e->IE.isNxt e=false
theorem NXT.none:NXT none:=λe h=>W6
theorem NXT.some{e:IE}(h:IE.isNxt e=false):NXT (some e):=λe' h'=>H0
theorem NXT.bind{α:Type}{x:Option α}{f:α->Option IE}(h: ∀y,NXT (f y)):NXT (x.bind f):=λe he=>by
 exact Gm
theorem NXT.bind'{α:Type}{x:Option α}{f:α->Option IE}(h: ∀y,NXT (f y)):NXT (x>>=f):=NXT.bind h
theorem NXT.map{α:Type}{x:Option α}{f:α->IE}(h: ∀y,IE.isNxt (f y)=false):NXT (x.map f):=λe he=>by
 exact GW
def IE.isExt:IE->Bool
 | .ext _ _=>true
 |_=>false
def EXT(x:Option IE):Prop:= ∀e,x=some e->IE.isExt e=false
theorem EXT.none:EXT none:=λe h=>W6
theorem EXT.some{e:IE}(h:IE.isExt e=false):EXT (some e):=λe' h'=>H0
theorem EXT.bind{α:Type}{x:Option α}{f:α->Option IE}(h: ∀y,EXT (f y)):EXT (x.bind f):=λe he=>by
 exact Gm
theorem EXT.bind'{α:Type}{x:Option α}{f:α->Option IE}(h: ∀y,EXT (f y)):EXT (x>>=f):=EXT.bind h
theorem EXT.map{α:Type}{x:Option α}{f:α->IE}(h: ∀y,IE.isExt (f y)=false):EXT (x.map f):=λe he=>by
 exact GW
theorem Zfj{P:Program}{op:Op}{st:Bool}{x:IO}(h:Kf P op=some (.nxt st x)): ∃x',op= .next x' st/\Zb x'=some x:=by
 cases op<;>simp only[Kf]at h<;>(try cases h)
 case next y b=>
  obtain⟨y',hy,h⟩:=Zg h;simp only[Yu,IE.nxt.injEq]at h;obtain⟨rfl,rfl⟩:=h;exact⟨y,rfl,hy⟩
 case makeFunc fn first caps=>
  exfalso;cases fn<;>simp only at h<;>(try cases h)
  split at h
  .obtain⟨_,_,h⟩:=Zg h;cases h
  .cases h
 all_goals
  exfalso;have hna:NXT (some (.nxt st x)):=by
   rw[<-h]
   repeat first|exact NXT.none|exact NXT.some rfl|(unfold ZCP)|(refine NXT.bind (λ_=> ?_))|(refine NXT.bind' (λ_=> ?_))|(refine NXT.map (λ_=>rfl))|split
  have:=hna _ rfl;cases this
theorem ZeV{P:Program}{op:Op}{t i:Nat}(h:Kf P op=some (.ext (.t t) i)):op= .extract (.tmp t) i:=by
 cases op<;>simp only[Kf]at h<;>(try cases h)
 case extract y b=>
  obtain⟨y',hy,h⟩:=Zg h;simp only[Yu,IE.ext.injEq]at h;obtain⟨rfl,rfl⟩:=h;cases y with
  |tmp u=>simp only[Zb,Yu,IO.t.injEq]at hy;rw[hy]
  |const v=>simp[Zb]at hy
  |global g=>simp[Zb]at hy
  |func f=>simp[Zb]at hy
 case makeFunc fn first caps=>
  exfalso;cases fn<;>simp only at h<;>(try cases h)
  split at h
  .obtain⟨_,_,h⟩:=Zg h;cases h
  .cases h
 all_goals
  exfalso;have hna:EXT (some (.ext (.t t) i)):=by
   rw[<-h]
   repeat first|exact EXT.none|exact EXT.some rfl|(unfold ZCP)|(refine EXT.bind (λ_=> ?_))|(refine EXT.bind' (λ_=> ?_))|(refine EXT.map (λ_=>rfl))|split
  have:=hna _ rfl;cases this
theorem ZSI{t:Nat}{st:Bool}{x:IO}{t2:Nat}{code:Code}(hc:Zo P n code=some (.reg [⟨some t,.nxt st x,none⟩,⟨some t2,.ext (.t t) 0,none⟩])):
  ∃id o1 o2 x',code= .region id #[o1,o2] false/\o1.dst=some t/\o1.guard=none/\o1.op= .next x' st/\Zb x'=some x/\t<n/\o2.dst=some t2/\o2.guard=none/\o2.op= .extract (.tmp t) 0/\t2<n:=by
 obtain⟨id,ops,rfl,h1⟩:=ZGm hc;obtain⟨l⟩:=ops
 match l,h1 with
 | [],h1=>simp at h1
 | [_],h1=>simp[ZAV,YG]at h1
 |_::_::_::_,h1=>
  simp only[ZAV,KL,YG,ZBA]at h1;obtain⟨_,_,_,⟨_,_,_,⟨_,_,_,_,h⟩,h'⟩,h1⟩:=h1;cases h;cases h';cases h1
 | [o1,o2],h1=>
  simp only[ZAV,ZOq,KL,YG,ZBA]at h1;obtain⟨i1,h1,l1,⟨i2,h2,l2,h3,h4⟩,h5⟩:=h1;cases h3;cases h4;cases h5;simp only[JG,YG]at h1 h2;obtain⟨e1,c1,h1⟩:=h1;obtain⟨e2,c2,h2⟩:=h2;split at h1
  .rename_i d1;split at h2
   .rename_i d2;split at h1
    .rename_i g1;split at h2
     .rename_i g2;simp only[Yu,IOp.mk.injEq,and_true]at h1 h2;obtain⟨k1,rfl⟩:=h1;obtain⟨k2,rfl⟩:=h2;rw[k1]at d1;rw[k2]at d2;have hn:=Zfj c1;have he:=ZeV c2;obtain⟨x',hx1,hx2⟩:=hn;exact⟨id,o1,o2,x',rfl,k1,g1,hx1,hx2,by simpa using d1,k2,g2,he,by simpa using d2⟩
     .rename_i g2;simp only[Kq,IOp.mk.injEq]at h2;obtain⟨_,_,_,_,h⟩:=h2;cases h
    .simp only[Kq,IOp.mk.injEq]at h1;obtain⟨_,_,_,_,h⟩:=h1;cases h
   .cases h2
  .cases h1
theorem ZLR{id:Nat}{o1 o2:Oper}{x':Operand}{st:Bool}{t t2:Nat}{a:Act}{w w':World}{vs:Array Value}{b:Bool}{Q':Exit->Act->World->Prop}(d1:o1.dst=some t)(g1:o1.guard=none)(p1:o1.op= .next x' st)(d2:o2.dst=some t2)(g2:o2.guard=none)(p2:o2.op= .extract (.tmp t) 0)
  (ht:t<a.tmps.size) (hrun:(Instr.next (a.eval x') st o1.type).run P w= .ok (.tuple vs) w') (hv:vs[0]? =some (.bool b)) (h:Q' .normal ((a.put (some t) (.tuple vs)).put (some t2) (.bool b)) w'):(Code.region id #[o1,o2] false).wp P Q' a w:=by
 refine wp_region_list ?_;refine wpList_step λK hK=> ?_
 rw[if_pos (by simp[Region.wanted,g1])];unfold Oper.wp execOp;simp only[p1,Sem.run_bind,hrun,Result.andThen_ok,Sem.run_pure];rw[Oper.upon_value];refine hK _ _ ?_;refine wpList_step λK hK=> ?_
 rw[if_pos (by simp[Region.wanted,g2])];unfold Oper.wp execOp;have he:(a.put o1.dst (.tuple vs)).eval (.tmp t)= .tuple vs:=by
  rw[d1];simp[Act.eval,Act.put,ZEc,ht]
 simp only[p2,he,Instr.extract,hv,Sem.run_bind,Sem.run_pure,Result.andThen_ok];rw[Oper.upon_value];refine hK _ _ ?_;rw[d1,d2];exact h
variable {t t2 mid it:Nat} {x:IO}
theorem WI.nextS{m s:_}{pos:Nat}(ks:W0)(hx:(ZG φ x).val= .iref m it)(hcd:(ZG φ x).cond=true)(ho:os[it]? =some (.sit s pos))
  (hend: ¬pos<s.length->Q .normal (Go.Ab.keep ks (put (put φ t (.tup [.x (.bool false)])) t2 (.x (.bool false)))) os)
  (hgo:pos<s.length->Q .normal (Go.Ab.keep ks (put (put φ t (.tup [.x (.bool true),.x (.int .i64 pos),.x (.int .i32 (Qb s pos).1)])) t2 (.x (.bool true)))) (os.set it (.sit s (pos+(Qb s pos).2)))):
  WI P c E0 os0 n (.reg [⟨some t,.nxt true x,none⟩,⟨some t2,.ext (.t t) 0,none⟩]) Q φ os:=by
 intro code hc E a R hf;obtain⟨id,o1,o2,x',rfl,d1,g1,p1,hxo,ht,d2,g2,p2,ht2⟩:=ZSI hc;have hv:=(V.op hf hxo).strip hcd;rw[hx]at hv;generalize hva:a.eval x'=va at hv;cases hv with
 |iref ho' hk hb=>
  obtain⟨p,hp,hok⟩:=R.rel.at ho;have hpb:p.1=_:=congrArg Prod.fst (ZCn (hp.symm.trans hb));simp only at hpb;subst hpb;have hblk:E.w.heap[p.1]? =some (.stringIter (ZV s) pos):=hok;by_cases hlt:pos<s.length
  .have hset: ∀(o':Obj),(setObj p.1 o').run P E.w= .ok () {E.w with heap:=E.w.heap.setIfInBounds p.1 o'}:=λo'=>by simp[setObj,Sem.run,hblk]
   have hrun:(Instr.next (.pointer (some ⟨p.1,0,none⟩)) true o1.type).run P E.w= .ok (.tuple #[.bool true,.int .i64 pos,.int .i32 (Qb s pos).1]) {E.w with heap:=E.w.heap.setIfInBounds p.1 (.stringIter (ZV s) (pos+(Qb s pos).2))}:=by
    have hl:pos<(ZV s).size:=by rw[ZAO];exact hlt
    simp only[Instr.next,getObj,Sem.run_bind,Sem.run,hblk,Result.andThen,hl,if_true];have e:(Utf8.decode (ZV s) pos)=Qb s pos:=rfl;rw[e];simp only[hset,Sem.run_pure];rfl
   have hplt:p.1<E.w.heap.size:=(ξH hblk).1;obtain⟨R',ev⟩:=R.rel.set ho hp {E.w with heap:=E.w.heap.setIfInBounds p.1 (.stringIter (ZV s) (pos+(Qb s pos).2))} (.sit s (pos+(Qb s pos).2)) p
    ⟨rfl,rfl,rfl,J1,λk _ hm=>by simp only[ZcS];rw[if_neg (show ¬p.1=k from hm)]⟩ (λb hb=> .inl hb) (λsz rs h=>W6) (λk h=>⟨rfl,h⟩) (λ_=>by
     show({E.w with heap:=_}:World).heap[p.1]? =_;simp[hplt])
   refine ZLR d1 g1 p1 d2 g2 p2 NY X8 rfl ?_;refine⟨_,_,_,rfl,⟨R',R.evo.trans ev⟩,?_,hgo hlt⟩;refine Fr.keep ?_ ks;refine Fr.put (Fr.put (hf.mono ev) ht ?_) ht2 (V.mkbool _ _ _);exact V.tup3 (V.mkbool _ _ _) (V.mkint _ _ _ _) (V.mkint _ _ _ _)
  .have hrun:(Instr.next (.pointer (some ⟨p.1,0,none⟩)) true o1.type).run P E.w= .ok (.tuple #[.bool false]) E.w:=by
    have hl: ¬pos<(ZV s).size:=by rw[ZAO];exact hlt
    simp only[Instr.next,getObj,Sem.run_bind,Sem.run,hblk,Result.andThen,hl,if_false,Sem.run_pure]
   refine ZLR d1 g1 p1 d2 g2 p2 NY X8 rfl ?_;refine⟨E,_,_,rfl,R,?_,hend hlt⟩;exact GK
theorem ZN4: ∀ {L:List MapEntry} {i:Nat} {e:MapEntry},L[i]? =some e->(L.map (·.born)).Nodup->L.filter (λx=> !(x.born==e.born))=L.eraseIdx i
 | [],i,e,h,_=>WE
 |x::L,0,e,h,hn=>by
  simp only[ZC5,Yu]at h;subst h;simp only[YO,ZBE]at hn;rw[ZG1];simp only[beq_self_eq_true,ZOy,Je,if_false,List.eraseIdx_cons_zero];rw[Zcu];intro y hy;simp only[ZG8,beq_eq_false_iff_ne,ne_eq];intro he;exact hn.1 (he▸YS.2 ⟨y,hy,rfl⟩)
 |x::L,i+1,e,h,hn=>by
  simp only[ZBd]at h;simp only[YO,ZBE]at hn;have hne:x.born≠e.born:=λhe=>hn.1 (he▸YS.2 ⟨e,JE h,rfl⟩)
  rw[ZG1,if_pos (by simpa using hne),Zcw,ZN4 h hn.2]
theorem ZaP(es:Array MapEntry)(seen:Array Nat){i:Nat}{e:MapEntry}(h:(leftOf es seen).toList[i]? =some e)(hn:(es.toList.map (·.born)).Nodup):(leftOf es (seen.push e.born)).toList=(leftOf es seen).toList.eraseIdx i:=by
 have h1:(leftOf es (seen.push e.born)).toList=(leftOf es seen).toList.filter (λx=> !(x.born==e.born)):=by
  unfold leftOf;rw[ZbU,ZbU,List.filter_filter];refine ZX2 λx _=> ?_
  rw[contains_push];cases seen.contains x.born<;>cases(x.born==e.born)<;>rfl
 rw[h1];refine ZN4 h ?_;have:((leftOf es seen).toList.map (·.born)).Sublist (es.toList.map (·.born)):=by
  unfold leftOf;rw[ZbU];exact List.filter_sublist.map _
 exact this.nodup hn
theorem WI.nextM{dk:KK}{ag:Bool}{l R0:W2}{cur:Option Pr}(ks:W0)(hx:(ZG φ x).val= .iref mid it)(hcd:(ZG φ x).cond=true)(ho:os[mid]? =some (.mit dk ag l it R0 cur))
  (hend:R0= []->Q .normal (Go.Ab.keep ks (put (put φ t (.tup [.x (.bool false)])) t2 (.x (.bool false)))) os)
  (hgo: ∀(i:Nat) (q:Pr),R0[i]? =some q->Q .normal (Go.Ab.keep ks (put (put φ t .und) t2 (.x (.bool true)))) (os.set mid (.mit dk ag l it (R0.eraseIdx i) (some q)))):
  WI P c E0 os0 n (.reg [⟨some t,.nxt false x,none⟩,⟨some t2,.ext (.t t) 0,none⟩]) Q φ os:=by
 intro code hc E a R hf;obtain⟨id,o1,o2,x',rfl,d1,g1,p1,hxo,ht,d2,g2,p2,ht2⟩:=ZSI hc;have hv:=(V.op hf hxo).strip hcd;rw[hx]at hv;generalize hva:a.eval x'=va at hv;cases hv with
 |iref ho' hk hb=>
  obtain⟨p,hp,hok⟩:=R.rel.at ho;have hok0:=hok;obtain⟨hMO,ib,cu,es,clk,since,seen,c0,o,k1,k2,k3,k4,k5,k6,k7,k8,k9,k10,k11⟩:=hok;have hib:ib=_:=congrArg Prod.fst (ZCn (k4.symm.trans hb));simp only at hib;subst hib;rcases run_next_at (P:=P) E.w o1.type ib p.1 since c0 seen es clk k5 k6 k7 k8.1 with⟨hz,hrun⟩|⟨e,he,w1,hw1,hrun⟩
  .have hR:R0= []:=by
    have h1:=k10.1;rw[Qt,hz]at h1;exact ξS h1.symm
   refine ZLR d1 g1 p1 d2 g2 p2 NY X8 rfl ?_;refine⟨E,_,_,rfl,R,?_,hend hR⟩;exact GK
  .obtain⟨i,hi⟩:=ZFA.1 he;have hil:i<R0.length:=by rw[<-k10.1];exact(ZX hi).1
   have hq:R0[i]? =some R0[i]:=Zw hil;have hpo:=k10.2 i e _ hi hq;have hwh:w1.heap=E.w.heap/\w1.os=E.w.os/\w1.tape=E.w.tape/\w1.output=E.w.output:=by rcases hw1 with rfl|rfl<;>exact⟨rfl,rfl,rfl,rfl⟩
   have hibl:ib<E.w.heap.size:=(ξH k5).1;have hne:ib≠p.1:=λe=>by rw[e,k6]at k5;cases k5
   have hsb: ∀k,(ChangeMaps.setBlock w1 ib (.mapIter (some p.1) since (seen.push e.born) clk)).heap[k]? =if k=ib then some (.mapIter (some p.1) since (seen.push e.born) clk)else E.w.heap[k]? :=λk=>by
    simp only[ChangeMaps.setBlock,ZcS,hwh.1];by_cases h:ib=k
    .subst h;simp[hibl]
    .simp[h,Ne.symm h]
   obtain⟨R',ev⟩:=R.rel.set ho hp (ChangeMaps.setBlock w1 ib (.mapIter (some p.1) since (seen.push e.born) clk)) (.mit dk ag l it (R0.eraseIdx i) (some R0[i])) p
    ⟨hwh.2.1,hwh.2.2.1,hwh.2.2.2,by simp[ChangeMaps.setBlock,hwh.1],λk _ hm=>by rw[hsb,if_neg (λe=>hm (.inr (by rw[e];exact k1)))]⟩ (λb hb=> .inl hb) (λsz rs h=>W6) (λk h=>⟨rfl,h⟩) (λev=>by
     obtain⟨cu',o',q1,q2,q3⟩:=ev.bl _ _ _ _ _ k2 k3 k4;refine⟨hMO.mono ev (by rw[hsb,if_neg (Ne.symm hne)]),ib,cu',es,clk,since,seen.push e.born,clk,o',k1,q1,q2,q3,by rw[hsb,if_pos rfl],by rw[hsb,if_neg (Ne.symm hne)];exact k6,k7,⟨k8.2,k8.2⟩,k9,?_,λq hq=> ?_⟩
     .rw[ZaP es seen hi k9];refine ZGX.mono ev ⟨?_,λj y q hy hq=> ?_⟩
      .rw[ZWT,ZWT,k10.1]
      .rw[List.getElem?_eraseIdx]at hy hq;split at hy
       .rename_i hj;rw[if_pos hj]at hq;exact k10.2 j y q hy hq
       .rename_i hj;rw[if_neg hj]at hq;exact k10.2 (j+1) y q hy hq
     .cases hq;exact⟨rfl,seen,e,rfl,(mem_left he).1,hpo.mono ev⟩)
   refine ZLR d1 g1 p1 d2 g2 p2 NY X8 rfl ?_;refine⟨_,_,_,rfl,⟨R',R.evo.trans ev⟩,?_,hgo i _ hq⟩;refine Fr.keep ?_ ks;exact Fr.put (Fr.put (hf.mono ev) ht (.und _)) ht2 (V.mkbool _ _ _)
theorem WI.thaw(mid:Nat){ic:IC}{dk:KK}{ag:Bool}{l R0:W2}{cur:Option Pr}(ho:os[mid]? =some (.mit dk ag l it R0 cur))(h:WI P c E0 os0 n ic Q φ (os.set mid (.mpo dk ag l))):WI P c E0 os0 n ic Q φ os:=by
 refine WI.weak (λE a R hf=> ?_) h;obtain⟨p,hp,hok⟩:=R.rel.at ho;obtain⟨R',ev⟩:=R.rel.set ho hp E.w (.mpo dk ag l) p (Kept.refl _ _) (λb hb=> .inl (.inl hb)) (λsz rs h=>W6) (λk h=>⟨rfl,h⟩) (λev=>hok.1.mono ev rfl);exact⟨⟨E.w,E.st,E.ob.set mid p⟩,rfl,⟨R',R.evo.trans ev⟩,hf.mono ev⟩
end
mutual
def D.ren(f:Nat->Nat):D->D
 | .ref id a b c=> .ref (f id) a b c
 | .ptr id o=> .ptr (f id) o
 | .eptr id a b c=> .eptr (f id) a b c
 | .agg ds=> .agg (YA f ds)
 | .tup ds=> .tup (YA f ds)
 | .fn g caps=> .fn g (YA f caps)
 | .opt b d=> .opt b (d.ren f)
 | .x y=> .x y
 | .vptr cs=> .vptr cs
 | .mref id=> .mref (f id)
 | .mnil=> .mnil
 | .iref mid id=> .iref (f mid) (f id)
 | .stk mid id=> .stk (f mid) (f id)
 | .bref id o l=> .bref (f id) o l
 | .full rs=> .full rs
 | .nz rs=> .nz rs
 | .und=> .und
def YA(f:Nat->Nat):J8->J8
 | []=> []
 |d::l=>d.ren f::YA f l
end
mutual
def D.inP(p:Nat->Bool):D->Bool
 | .ref id _ _ _=>p id
 | .ptr id _=>p id
 | .eptr id _ _ _=>p id
 | .agg ds=>JB p ds
 | .tup ds=>JB p ds
 | .fn _ caps=>JB p caps
 | .opt _ d=>d.inP p
 | .x _=>true
 | .vptr _=>true
 | .mref id=>p id
 | .mnil=>true
 | .iref mid id=>p mid&&p id
 | .stk mid id=>p mid&&p id
 | .bref id _ _=>p id
 | .full _=>true
 | .nz _=>true
 | .und=>true
def JB(p:Nat->Bool):J8->Bool
 | []=>true
 |d::l=>d.inP p&&JB p l
end
def Ji(f:Nat->Nat)(q:Pr):Pr:=(q.1,YA f q.2)
def Qz(p:Nat->Bool)(q:Pr):Bool:=JB p q.2
def Ob.ren(f:Nat->Nat):Ob->Ob
 | .box ds=> .box (YA f ds)
 | .rows fz e sz rs=> .rows fz e sz rs
 | .drw e sz rs=> .drw e sz (rs.map (YA f))
 | .frz sz rs=> .frz sz rs
 | .mpo dk ag l=> .mpo dk ag (l.map (Ji f))
 | .mit dk ag l it R cur=> .mit dk ag (l.map (Ji f)) (f it) (R.map (Ji f)) (cur.map (Ji f))
 | .mpn dk ag l key sid=> .mpn dk ag (l.map (Ji f)) key (f sid)
 | .itr=> .itr
 | .stp=> .stp
 | .nit=> .nit
 | .sit s pos=> .sit s pos
 | .old s n=> .old s n
 | .fam k P B=> .fam k P B
 | .dead=> .dead
def Ob.inP(p:Nat->Bool):Ob->Bool
 | .box ds=>JB p ds
 | .drw _ _ rs=>rs.all (JB p)
 | .mpo _ _ l=>l.all (Qz p)
 | .mit _ _ l it R cur=>l.all (Qz p)&&(p it&&(R.all (Qz p)&&cur.all (Qz p)))
 | .mpn _ _ l _ sid=>l.all (Qz p)&&p sid
 |_=>true
theorem QO(f:Nat->Nat): ∀l,YA f l=l.map (D.ren f)
 | []=>rfl
 |d::l=>by simp[YA,QO f l]
theorem ZBv(p:Nat->Bool): ∀l,JB p l=l.all (D.inP p)
 | []=>rfl
 |d::l=>by simp[JB,ZBv p l]
structure EvoR (f:Nat->Nat) (p:Nat->Bool) (E:Env) (os:J7) (E':Env) (os':J7):Prop where
 st: ∀b o,E.st b o->E'.st b o/\E'.w.cell? ⟨b,o,none⟩=E.w.cell? ⟨b,o,none⟩
 bl: ∀(id b:Nat) (cu:Value) (o:Ob) (k:Kd),p id=true->os[id]? =some o->o.kd=some k->E.ob[id]? =some (b,cu)-> ∃cu' o',os'[f id]? =some o'/\o'.kd=some k/\E'.ob[f id]? =some (b,cu')
 rf: ∀(id:Nat) (o:Ob) (sz n:Nat),p id=true->os[id]? =some o->o.sl? =some (sz,n)->
  ∃o' n',os'[f id]? =some o'/\o'.sl? =some (sz,n')/\((n=n'/\E'.ob[f id]? =E.ob[id]?)\/n<n')
theorem V.monoR{f:Nat->Nat}{p:Nat->Bool}{E E':Env}{os os':J7}(e:EvoR f p E os E' os'){d:D}{v:Value}(h:V E os d v):d.inP p=true->V E' os' (d.ren f) v:=by
 have lst: ∀ {ds:J8} {vs:Array Value},(∀(j:Nat) (d:D) (v:Value),ds[j]? =some d->vs[j]? =some v->d.inP p=true->V E' os' (d.ren f) v)->JB p ds=true-> ∀(j:Nat) (d:D) (v:Value),(YA f ds)[j]? =some d->vs[j]? =some v->V E' os' d v:=by
  intro ds vs ih hp j d v hd hv;rw[QO,YI]at hd;obtain⟨d0,h0,rfl⟩:=Zc hd;rw[ZBv]at hp;exact ih j d0 v h0 hv (Yg.1 hp d0 (JE h0))
 induction h with
 |x h=>intro _;exact .x (h.mono e.st)
 |ref h h1=>
  intro hp;obtain⟨o,sz,rs,g1,g2,g3,g4⟩:=h;obtain⟨o',rs',k1,k2,k3⟩:=e.rf _ o sz rs hp g1 g2;refine .ref ⟨o',sz,rs',k1,k2,?_⟩ h1;rcases k3 with⟨k3,k4⟩|k3
  .refine⟨J0,λhl=> ?_⟩;obtain⟨h5,b,a,cap,a',cap',h6,h7⟩:=g4 J0;exact⟨h5,b,a,cap,a',cap',k4.trans h6,h7⟩
  .exact⟨J0,λhl=>absurd hl J0⟩
 |ptr ho h=>intro hp;obtain⟨cu',o',h1,h2,h3⟩:=e.bl _ _ _ _ .box hp ho rfl h;obtain⟨ds',rfl⟩:=Ob.kd_box h2;exact .ptr h1 h3
 |mref ho hk h=>intro hp;obtain⟨cu',o',h1,h2,h3⟩:=e.bl _ _ _ _ _ hp ho hk h;exact .mref h1 h2 h3
 |mnil=>intro _;exact .mnil
 |iref ho hk h=>intro hp;simp only[D.inP,Zj]at hp;obtain⟨cu',o',h1,h2,h3⟩:=e.bl _ _ _ _ _ hp.2 ho hk h;exact .iref h1 h2 h3
 |stk ho hk h=>intro hp;simp only[D.inP,Zj]at hp;obtain⟨cu',o',h1,h2,h3⟩:=e.bl _ _ _ _ _ hp.2 ho hk h;exact .stk h1 h2 h3
 |bref ho h hm=>intro hp;obtain⟨cu',o',h1,h2,h3⟩:=e.bl _ _ _ _ .box hp ho rfl h;obtain⟨ds',rfl⟩:=Ob.kd_box h2;exact .bref h1 h3 hm
 |eptr h h1=>
  intro hp;obtain⟨o,sz,rs,g1,g2,g3,g4⟩:=h;obtain⟨o',rs',k1,k2,k3⟩:=e.rf _ o sz rs hp g1 g2;refine .eptr ⟨o',sz,rs',k1,k2,?_⟩ h1;rcases k3 with⟨k3,k4⟩|k3
  .refine⟨J0,λhl=> ?_⟩;obtain⟨h5,b,g,cap,h6,h7⟩:=g4 J0;exact⟨h5,b,g,cap,k4.trans h6,h7⟩
  .exact⟨J0,λhl=>absurd hl J0⟩
 |vptr b off val hc hv=>intro _;exact UJ
 |agg vs hl h1 _ ih=>intro hp;exact .agg vs (by rw[QO];simpa using hl) h1 (lst ih hp)
 |tup vs hl _ ih=>intro hp;exact .tup vs (by rw[QO];simpa using hl) (lst ih hp)
 |full n h=>intro _;exact .full n (h.mono e.st)
 |nz h=>intro _;exact .nz (h.mono e.st)
 |fn vs hl _ ih=>intro hp;exact .fn vs (by rw[QO];simpa using hl) (lst ih hp)
 |opt _ h' ih=>intro hp;exact .opt (λhb=>ih hb hp) h'
 |und v=>intro _;exact .und v
theorem Ob.ren_sl(f:Nat->Nat)(o:Ob):(o.ren f).sl? =o.sl? :=by cases o<;>simp[Ob.ren,Ob.sl?]
theorem Ob.ren_kd(f:Nat->Nat)(o:Ob):(o.ren f).kd=o.kd:=GJ
theorem Ob.ren_mb(f:Nat->Nat)(o:Ob)(q:Nat×Value):(o.ren f).mb q=o.mb q:=GJ
theorem VC.monoR{f:Nat->Nat}{p:Nat->Bool}{E E':Env}{os os':J7}(e:EvoR f p E os E' os'){ag:Bool}{ds:J8}{v:Value}(h:VC E os ag ds v)(hp:JB p ds=true):VC E' os' ag (YA f ds) v:=by
 obtain⟨h1,h2,h3⟩:=h;refine⟨?_,by rw[QO];simpa using h2,λj d u hd hu=> ?_⟩
 .rw[QO];cases ag with
  |true=>exact h1
  |false=>simp only[Je,if_false,Yc]at h1|-;exact h1
 .rw[QO,YI]at hd;obtain⟨d0,h0,rfl⟩:=Zc hd;rw[ZBv]at hp;exact⟨(h3 j d0 u h0 hu).1.monoR e (Yg.1 hp d0 (JE h0)),(h3 j d0 u h0 hu).2⟩
theorem YL.monoR{f:Nat->Nat}{p:Nat->Bool}{E E':Env}{os os':J7}(e:EvoR f p E os E' os'){b:Nat}{dk:KK}{ag:Bool}{l:W2}(hb:E'.w.heap[b]? =E.w.heap[b]?)(h:YL E os b dk ag l)(hp:l.all (Qz p)=true):YL E' os' b dk ag (l.map (Ji f)):=by
 have key: ∀ {κ:Type} [DecidableEq κ] {mk:κ->Value} {kx:κ->J9},ZCp mk kx E os b ag l->ZCp mk kx E' os' b ag (l.map (Ji f)):=by
  intro κ _ mk kx ⟨l',h1,h2,h3⟩;refine⟨l',h1.keep hb,Tc,λi a q ha hq=> ?_⟩;rw[YI]at hq;obtain⟨q0,hq0,rfl⟩:=Zc hq;obtain⟨k1,k2⟩:=h3 i a q0 ha hq0;exact⟨k1,k2.monoR e (Yg.1 hp q0 (JE hq0))⟩
 cases dk with
 |int k=>exact key h
 |str=>exact key h
 |st a b=>exact h.elim
theorem ZGX.monoR{f:Nat->Nat}{p:Nat->Bool}{E E':Env}{os os':J7}(e:EvoR f p E os E' os'){dk:KK}{ag:Bool}{L:List MapEntry}{R:W2}(h:ZGX E os dk ag L R)(hp:R.all (Qz p)=true):ZGX E' os' dk ag L (R.map (Ji f)):=by
 refine⟨HO,λi x q hx hq=> ?_⟩;rw[YI]at hq;obtain⟨q0,hq0,rfl⟩:=Zc hq;obtain⟨k1,k2⟩:=h.2 i x q0 hx hq0;exact⟨k1,k2.monoR e (Yg.1 hp q0 (JE hq0))⟩
theorem OK.monoR{f:Nat->Nat}{p:Nat->Bool}{E E':Env}{os os':J7}(e:EvoR f p E os E' os'){o:Ob}{q:Nat×Value}(hb: ∀b,o.mb q b->E'.w.heap[b]? =E.w.heap[b]?)(h:OK E os o q)(hp:o.inP p=true):OK E' os' (o.ren f) q:=by
 cases o with
 |box ds=>
  obtain⟨cs,ty,h1,h2,h3⟩:=h;refine⟨cs,ty,by rw[hb _ rfl];exact h1,by rw[QO];simpa using h2,λj d v hd hv=> ?_⟩;rw[QO,YI]at hd;obtain⟨d0,h0,rfl⟩:=Zc hd;simp only[Ob.inP,ZBv]at hp;exact⟨(h3 j d0 v h0 hv).1.monoR e (Yg.1 hp d0 (JE h0)),(h3 j d0 v h0 hv).2⟩
 |rows fz el sz rs=>
  obtain⟨xs,h1,h2,h3⟩:=h;exact⟨xs,h1.kept hb,h2,λi r j x v hr hx hv=>(h3 i r j x v hr hx hv).mono e.st⟩
 |drw el sz rs=>
  obtain⟨xs,h1,h2,h3⟩:=h;refine⟨xs,by rw[Yc];exact h1.kept hb,λr hr=> ?_,λi r j d v hr hd hv=> ?_⟩
  .obtain⟨r0,h0,rfl⟩:=YS.1 hr;rw[QO,Yc];exact h2 r0 h0
  .rw[YI]at hr;obtain⟨r0,h0,rfl⟩:=Zc hr;rw[QO,YI]at hd;obtain⟨d0,hd0,rfl⟩:=Zc hd;have hp':=Yg.1 hp r0 (JE h0);rw[ZBv]at hp';exact⟨(h3 i r0 j d0 v h0 hd0 hv).1.monoR e (Yg.1 hp' d0 (JE hd0)),(h3 i r0 j d0 v h0 hd0 hv).2⟩
 |frz sz rs=>exact⟨h.1.mono e.st,h.2⟩
 |mpo dk ag l=>exact YL.monoR e (hb _ rfl) h hp
 |mit dk ag l it R cur=>
  simp only[Ob.inP,Zj]at hp;obtain⟨hp1,hp2,hp3,hp4⟩:=hp;refine⟨YL.monoR e (hb _ (.inl rfl)) h.1 hp1,?_⟩;obtain⟨_,ib,cu,es,clk,since,seen,c0,o,h1,h2,h3,h4,h5,h6,h7,h8,h9,h10,h11⟩:=h;obtain⟨cu',o',k1,k2,k3⟩:=e.bl _ _ _ _ _ hp2 h2 h3 h4;refine⟨ib,cu',es,clk,since,seen,c0,o',h1,k1,k2,k3,by rw[hb ib (.inr h1)];exact h5,by rw[hb _ (.inl rfl)];exact h6,h7,h8,h9,h10.monoR e hp3,λq hq=> ?_⟩;obtain⟨q0,hq0,rfl⟩:=Zc hq;obtain⟨g1,s',x,g2,g3,g4⟩:=h11 q0 hq0;subst hq0;exact⟨g1,s',x,g2,g3,g4.1,g4.2.monoR e hp4⟩
 |mpn dk ag l key sid=>
  simp only[Ob.inP,Zj]at hp;refine⟨YL.monoR e (hb _ rfl) h.1 hp.1,?_⟩;obtain⟨_,n,cu,o,es,clk,x,h1,h2,h3,h4,h5⟩:=h;obtain⟨cu',o',k1,k2,k3⟩:=e.bl _ _ _ _ _ hp.2 h1 h2 h3;exact⟨n,cu',o',es,clk,x,k1,k2,k3,by rw[hb _ rfl];exact h4,h5⟩
 |sit s pos=>show E'.w.heap[q.1]? =_;rw[hb _ rfl];exact h
 |nit=>exact HM
 |itr=>trivial
 |stp=>trivial
 |old _ _=>trivial
 |fam _ _ _=>exact HZ
 |dead=>trivial
def inv:W0->Nat->Nat
 | [],_=>0
 |r::l,i=>if i=r then 0 else inv l i+1
def KR:J7->W0->J7->J7
 |OS,r::ρ,o::os=>KR (OS.set r o) ρ os
 |OS,_,_=>OS
def ZDa:List (Nat×Value)->W0->List (Nat×Value)->List (Nat×Value)
 |l,r::ρ,o::os=>ZDa (l.set r o) ρ os
 |l,_,_=>l
theorem ZGo: ∀ {ρ:W0} {i:Nat},i∈ρ->ρ[inv ρ i]? =some i
 |r::l,i,h=>by
  simp only[inv];split
  .rename_i h1;subst h1;rfl
  .rename_i h1;simp only[ZBd];exact ZGo (by simpa[h1]using h)
theorem ZIT: ∀ {ρ:W0},ρ.Nodup-> ∀ {i r:Nat},ρ[i]? =some r->inv ρ r=i
 | [],_,i,r,h=>WE
 |q::l,hn,i,r,h=>by
  rw[ZBE]at hn;cases i with
  |zero=>simp at h;subst h;simp[inv]
  |succ i=>
   have h':l[i]? =some r:=WM
   have:r∈l:=JE h';have hne:r≠q:=λe=>hn.1 (e▸this)
   simp only[inv,hne,if_false,ZIT hn.2 h']
theorem ZJy: ∀(ρ:W0) (os OS:J7),(KR OS ρ os).length=OS.length
 | [],os,OS=>Xq
 |r::ρ,[],OS=>rfl
 |r::ρ,o::os,OS=>by simp only[KR];rw[ZJy ρ os];simp
theorem ZIv: ∀(ρ:W0) (os OS:J7) (j:Nat),j∉ρ->(KR OS ρ os)[j]? =OS[j]?
 | [],os,OS,j,_=>Xq
 |r::ρ,[],OS,j,_=>rfl
 |r::ρ,o::os,OS,j,h=>by
  simp only[KR];rw[ZIv ρ os _ j (λhm=>h (by simp[hm])),ZAp (λe=>h (by simp[e]))]
theorem ZP2: ∀(ρ:W0) (os OS:J7),ρ.Nodup->(∀r∈ρ,r<OS.length)-> ∀(i r:Nat) (o:Ob),ρ[i]? =some r->os[i]? =some o->(KR OS ρ os)[r]? =some o
 | [],os,OS,_,_,i,r,o,h,_=>WE
 |q::ρ,[],OS,_,_,i,r,o,_,h=>WE
 |q::ρ,x::os,OS,hn,hl,i,r,o,h,ho=>by
  rw[ZBE]at hn;simp only[KR];cases i with
  |zero=>
   simp at h ho;subst h;subst ho;rw[ZIv ρ os _ _ hn.1,ZEv (hl _ J1)]
  |succ i=>exact ZP2 ρ os _ hn.2 (λr hr=>by simp;exact hl r (by simp[hr])) i r o WM Gy
theorem ZIi: ∀(ρ:W0) (os OS:List (Nat×Value)),(ZDa OS ρ os).length=OS.length
 | [],os,OS=>Xq
 |r::ρ,[],OS=>rfl
 |r::ρ,o::os,OS=>by simp only[ZDa];rw[ZIi ρ os];simp
theorem ZH7: ∀(ρ:W0) (os OS:List (Nat×Value)) (j:Nat),j∉ρ->(ZDa OS ρ os)[j]? =OS[j]?
 | [],os,OS,j,_=>Xq
 |r::ρ,[],OS,j,_=>rfl
 |r::ρ,o::os,OS,j,h=>by
  simp only[ZDa];rw[ZH7 ρ os _ j (λhm=>h (by simp[hm])),ZAp (λe=>h (by simp[e]))]
theorem ZOK: ∀(ρ:W0) (os OS:List (Nat×Value)),ρ.Nodup->(∀r∈ρ,r<OS.length)-> ∀(i r:Nat) (o:Nat×Value),ρ[i]? =some r->os[i]? =some o->(ZDa OS ρ os)[r]? =some o
 | [],os,OS,_,_,i,r,o,h,_=>WE
 |q::ρ,[],OS,_,_,i,r,o,_,h=>WE
 |q::ρ,x::os,OS,hn,hl,i,r,o,h,ho=>by
  rw[ZBE]at hn;simp only[ZDa];cases i with
  |zero=>
   simp at h ho;subst h;subst ho;rw[ZH7 ρ os _ _ hn.1,ZEv (hl _ J1)]
  |succ i=>exact ZOK ρ os _ hn.2 (λr hr=>by simp;exact hl r (by simp[hr])) i r o WM Gy
def YX(ρ:W0)(OS:J7):J7:=ρ.map λr=>(OS.getD r .dead).ren (inv ρ)
def fpE(ρ:W0)(E:Env):Env:=⟨E.w,E.st,ρ.map λr=>E.ob.getD r (0,undef)⟩
def KN(ρ:W0)(n _:Nat)(i:Nat):Nat:=if i<ρ.length then ρ.getD i 0 else n+(i-ρ.length)
def KU(ρ:W0)(OS os':J7):J7:=KR OS ρ (os'.map (Ob.ren (KN ρ OS.length os'.length)))++(os'.map (Ob.ren (KN ρ OS.length os'.length))).drop ρ.length
def ZIH(ρ:W0)(E E1:Env):Env:=⟨E1.w,E1.st,ZDa E.ob ρ E1.ob++E1.ob.drop ρ.length⟩
theorem inP_true: ∀d:D,d.inP (λ_=>true)=true:=by
 intro d;refine D.rec (motive_1:=λd=>d.inP (λ_=>true)=true) (motive_2:=λl=>JB (λ_=>true) l=true) ?_ ?_ ?_ ?_ ?_ ?_ ?_ ?_ ?_ ?_ ?_ ?_ ?_ ?_ ?_ ?_ ?_ ?_ ?_ d
 all_goals intros
 all_goals first|rfl|(simp only[D.inP,JB];simp_all)
theorem ZF9(q:Pr):Qz (λ_=>true) q=true:=by
 simp only[Qz,ZBv];exact Yg.2 (λd _=>inP_true d)
theorem Ob.inP_true(o:Ob):o.inP (λ_=>true)=true:=by
 cases o with
 |box ds=>simp only[Ob.inP,ZBv];exact Yg.2 (λd _=>Go.Ab.inP_true d)
 |drw e sz rs=>exact Yg.2 (λr _=>by rw[ZBv];exact Yg.2 (λd _=>Go.Ab.inP_true d))
 |mpo dk ag l=>exact Yg.2 (λq _=>ZF9 q)
 |mit dk ag l it R cur=>
  simp only[Ob.inP,Zj];exact⟨Yg.2 (λq _=>ZF9 q),trivial,Yg.2 (λq _=>ZF9 q),by cases cur with|none=>rfl|some q=>exact ZF9 q⟩
 |mpn dk ag l key sid=>
  simp only[Ob.inP,Zj];exact⟨Yg.2 (λq _=>ZF9 q),trivial⟩
 |_=>rfl
section
variable {c:Ctx} {E:Env} {OS:J7} {ρ:W0}
theorem ZJP(R:Rel c E OS)(hlt: ∀r∈ρ,r<OS.length){i:Nat}{o:Ob}(h:(YX ρ OS)[i]? =some o): ∃r o0 p,ρ[i]? =some r/\OS[r]? =some o0/\o=o0.ren (inv ρ)/\E.ob[r]? =some p/\(fpE ρ E).ob[i]? =some p:=by
 simp only[YX,YI,Kq]at h;obtain⟨r,hr,rfl⟩:=h;have hl:=hlt r (JE hr);have hob:E.ob[r]? =some (E.ob[r]'(by rw[R.len];exact hl)):=Zw _;refine⟨r,OS[r]'hl,_,hr,Zw hl,by simp[List.getD,hl],hob,?_⟩;simp only[fpE,YI,hr,Yq,List.getD,hob,ξY]
theorem ZKc(R:Rel c E OS)(_: ∀r∈ρ,r<OS.length):EvoR (inv ρ) (λi=>Zh i ρ) E OS (fpE ρ E) (YX ρ OS):=by
 have key: ∀id o,Zh id ρ=true->OS[id]? =some o->(YX ρ OS)[inv ρ id]? =some (o.ren (inv ρ))/\(fpE ρ E).ob[inv ρ id]? =E.ob[id]? :=by
  intro id o hp ho;have hr:=ZGo (ZA3.1 hp);have hl:=(ZX ho).1;have hob:E.ob[id]? =some (E.ob[id]'(by rw[R.len];exact hl)):=Zw _;refine⟨by simp only[YX,YI,hr,Yq,List.getD,ho,ξY],by simp only[fpE,YI,hr,Yq,List.getD,hob,ξY]⟩
 refine⟨λb o h=>⟨h,rfl⟩,λid b cu ds k hp ho hkd hb=> ?_,λid o sz rs hp ho hs=> ?_⟩
 .obtain⟨k1,k2⟩:=key id _ hp ho;exact⟨cu,_,k1,HH,k2.trans hb⟩
 .obtain⟨k1,k2⟩:=key id _ hp ho;exact HY
theorem ZZ5(R:Rel c E OS)(hn:ρ.Nodup)(hlt: ∀r∈ρ,r<OS.length)(hcl: ∀r∈ρ,(OS.getD r .dead).inP (λi=>Zh i ρ)=true):Rel ⟨E.w,E.st,ZNI (fpE ρ E) (YX ρ OS)⟩ (fpE ρ E) (YX ρ OS):=by
 have ev:=ZKc R hlt;refine⟨by simp[fpE,YX],λi o p h1 h2=> ?_,λi j o o' p p' b h1 h2 h3 h4 h5 h6=> ?_,λb off hs=>⟨(R.stm b off hs).1,λi o p h1 h2 h3=> ?_⟩,Kept.refl _ _,λi o p b h1 h2 h3=> .inl ⟨i,o,p,h1,h2,h3⟩,λb off hs=> .inl hs⟩
 .obtain⟨r,o0,p0,k1,k2,rfl,k4,k5⟩:=ZJP R hlt h1;rw[h2]at k5;cases k5;have:=hcl r (JE k1);simp only[List.getD,k2,ξY]at this;exact(R.ok r o0 p k2 k4).monoR ev (λ_ _=>rfl) this
 .obtain⟨r,o0,p0,k1,k2,rfl,k4,k5⟩:=ZJP R hlt h1;obtain⟨r',o0',p0',k1',k2',rfl,k4',k5'⟩:=ZJP R hlt h3;rw[h2]at k5;cases k5;rw[h4]at k5';cases k5';rw[Ob.ren_mb]at h5 h6;have:=R.dis r r' o0 o0' p p' b k2 k4 k2' k4' h5 h6;subst this;rw[<-ZIT hn k1,<-ZIT hn k1']
 .obtain⟨r,o0,p0,k1,k2,rfl,k4,k5⟩:=ZJP R hlt h1;rw[h2]at k5;cases k5;rw[Ob.ren_mb]at h3;exact(R.stm b off hs).2 r o0 p k2 k4 h3
theorem ZMJ(R:Rel c E OS)(hlt: ∀r∈ρ,r<OS.length){j:Nat}{o:Ob}{p:Nat×Value}{b:Nat}(ho:OS[j]? =some o)(hp:E.ob[j]? =some p)(hj:j∉ρ)(hb:o.mb p b): ¬ZNI (fpE ρ E) (YX ρ OS) b:=by
 rintro⟨i,o1,p1,h1,h2,h3⟩;obtain⟨r,o0,p0,k1,k2,rfl,k4,k5⟩:=ZJP R hlt h1;rw[h2]at k5;cases k5;rw[Ob.ren_mb]at h3;have:=R.dis j r o o0 p p1 b ho hp k2 k4 hb h3;subst this;exact hj (JE k1)
theorem ZPL(R:Rel c E OS)(hlt: ∀r∈ρ,r<OS.length){b:Nat}(h:ZNI (fpE ρ E) (YX ρ OS) b):(c.M b\/c.w0.heap.size<=b)/\b<E.w.heap.size:=by
 obtain⟨i,o1,p1,h1,h2,h3⟩:=h;obtain⟨r,o0,p0,k1,k2,rfl,k4,k5⟩:=ZJP R hlt h1;rw[h2]at k5;cases k5;rw[Ob.ren_mb]at h3;exact⟨R.mbs r o0 p1 b k2 k4 h3,(R.ok r o0 p1 k2 k4).lt h3⟩
theorem Zgc(R:Rel c E OS)(hn:ρ.Nodup)(hlt: ∀r∈ρ,r<OS.length){E1:Env}{os':J7}(R1:Rel ⟨E.w,E.st,ZNI (fpE ρ E) (YX ρ OS)⟩ E1 os')(ev:Evo (fpE ρ E) (YX ρ OS) E1 os')(hk:ρ.length<=os'.length):
  Rel c (ZIH ρ E E1) (KU ρ OS os')/\Evo E OS (ZIH ρ E E1) (KU ρ OS os')/\ ∀d v,V E1 os' d v->V (ZIH ρ E E1) (KU ρ OS os') (d.ren (KN ρ OS.length os'.length)) v:=by
 have hlE:(ZDa E.ob ρ E1.ob).length=OS.length:=by rw[ZIi,R.len]
 have hlO:(KR OS ρ (os'.map (Ob.ren (KN ρ OS.length os'.length)))).length=OS.length:=ZJy _ _ _;have hltE: ∀r∈ρ,r<E.ob.length:=λr hr=>by rw[R.len];exact hlt r hr
 have cal: ∀i o',os'[i]? =some o'->(KU ρ OS os')[KN ρ OS.length os'.length i]? =some (o'.ren (KN ρ OS.length os'.length))/\(ZIH ρ E E1).ob[KN ρ OS.length os'.length i]? =E1.ob[i]? :=by
  intro i o' ho;have hi:=(ZX ho).1;have hpe:E1.ob[i]? =some (E1.ob[i]'(by rw[R1.len];exact hi)):=Zw _;have hom:(os'.map (Ob.ren (KN ρ OS.length os'.length)))[i]? =some (o'.ren (KN ρ OS.length os'.length)):=GI
  by_cases h:i<ρ.length
  .have hr:ρ[i]? =some (ρ[i]'h):=Zw h;have hf:KN ρ OS.length os'.length i=ρ[i]'h:=by simp[KN,h,List.getD]
   have hrl:=hlt _ (YK h);rw[hf];refine⟨?_,?_⟩
   .show(_++_)[_]? =_;rw[Yk (by rw[hlO];exact hrl)];exact ZP2 ρ _ OS hn hlt i _ _ hr hom
   .show(_++_)[_]? =_;rw[Yk (by rw[hlE];exact hrl),hpe];exact ZOK ρ _ E.ob hn hltE i _ _ hr hpe
  .have hf:KN ρ OS.length os'.length i=OS.length+(i-ρ.length):=by simp[KN,h]
   rw[hf];refine⟨?_,?_⟩
   .show(_++_)[_]? =_;rw[QI (by rw[hlO];omega),hlO,ZAZ,show ρ.length+(OS.length+(i-ρ.length)-OS.length)=i by omega];exact hom
   .show(_++_)[_]? =_;rw[QI (by rw[hlE];omega),hlE,ZAZ,show ρ.length+(OS.length+(i-ρ.length)-OS.length)=i by omega]
 have out: ∀j,j<OS.length->j∉ρ->(KU ρ OS os')[j]? =OS[j]? /\(ZIH ρ E E1).ob[j]? =E.ob[j]? :=by
  intro j hj hm;refine⟨?_,?_⟩
  .show(_++_)[_]? =_;rw[Yk (by rw[hlO];exact hj),ZIv ρ _ OS j hm]
  .show(_++_)[_]? =_;rw[Yk (by rw[hlE];exact hj),ZH7 ρ _ E.ob j hm]
 have hlen:(KU ρ OS os').length=OS.length+(os'.length-ρ.length):=by
  simp only[KU,ZW,hlO];simp
 have cls: ∀j o p,(KU ρ OS os')[j]? =some o->(ZIH ρ E E1).ob[j]? =some p->(j∉ρ/\OS[j]? =some o/\E.ob[j]? =some p)\/ ∃i o',os'[i]? =some o'/\E1.ob[i]? =some p/\o=o'.ren (KN ρ OS.length os'.length)/\j=KN ρ OS.length os'.length i:=by
  intro j o p ho hp;have hj:=(ZX ho).1;rw[hlen]at hj;by_cases hjl:j<OS.length
  .by_cases hm:j∈ρ
   .have hr:=ZGo hm;have hi:=(ZX hr).1;have hio:os'[inv ρ j]? =some (os'[inv ρ j]' J0):=Zw _;have hf:KN ρ OS.length os'.length (inv ρ j)=j:=by
     simp only[KN,hi,if_true,List.getD,hr,ξY]
    exact TD
   .obtain⟨k1,k2⟩:=out j hjl hm;rw[k1]at ho;rw[k2]at hp;exact .inl ⟨hm,ho,hp⟩
  .have hio:os'[j-OS.length+ρ.length]? =some (os'[j-OS.length+ρ.length]' J0):=Zw _;have hf:KN ρ OS.length os'.length (j-OS.length+ρ.length)=j:=by
    have: ¬(j-OS.length+ρ.length<ρ.length):=Wm
    simp only[KN,this,if_false];omega
   exact TD
 have evr:EvoR (KN ρ OS.length os'.length) (λ_=>true) E1 os' (ZIH ρ E E1) (KU ρ OS os'):=by
  refine⟨λb o h=>⟨h,rfl⟩,λid b cu ds k _ ho hkd hb=> ?_,λid o sz rs _ ho hs=> ?_⟩
  .obtain⟨k1,k2⟩:=cal id _ ho;exact⟨cu,_,k1,HH,k2.trans hb⟩
  .obtain⟨k1,k2⟩:=cal id _ ho;exact HY
 have hkept:Kept (ZNI (fpE ρ E) (YX ρ OS)) E.w E1.w:=R1.kept;have evo:Evo E OS (ZIH ρ E E1) (KU ρ OS os'):=by
  have fpat: ∀r o,r∈ρ->OS[r]? =some o->(YX ρ OS)[inv ρ r]? =some (o.ren (inv ρ))/\(fpE ρ E).ob[inv ρ r]? =E.ob[r]? /\KN ρ OS.length os'.length (inv ρ r)=r:=by
   intro r o hr ho;have hg:=ZGo hr;have hi:=(ZX hg).1;have hl:=hlt r hr;have hob:E.ob[r]? =some (E.ob[r]'(by rw[R.len];exact hl)):=Zw _;exact⟨by simp only[YX,YI,hg,Yq,List.getD,ho,ξY],by simp only[fpE,YI,hg,Yq,List.getD,hob,ξY],by simp only[KN,hi,if_true,List.getD,hg,ξY]⟩
  refine⟨λb o h=>ev.st b o h,λid b cu ds k ho hkd hb=> ?_,λid o sz rs ho hs=> ?_⟩
  .by_cases hm:id∈ρ
   .obtain⟨k1,k2,k3⟩:=fpat id _ hm ho;obtain⟨cu',ds',g1,gk,g2⟩:=ev.bl (inv ρ id) b cu _ k k1 HH (k2.trans hb);obtain⟨w1,w2⟩:=cal _ _ g1;rw[k3]at w1 w2;exact⟨cu',_,w1,by rw[Ob.ren_kd];exact gk,w2.trans g2⟩
   .obtain⟨k1,k2⟩:=out id (ZX ho).1 hm;exact⟨cu,ds,k1.trans ho,hkd,k2.trans hb⟩
  .by_cases hm:id∈ρ
   .obtain⟨k1,k2,k3⟩:=fpat id _ hm ho;obtain⟨o',rs',g1,g2,g3⟩:=ev.rf (inv ρ id) _ sz rs k1 (by rw[Ob.ren_sl];exact hs);obtain⟨w1,w2⟩:=cal _ _ g1;rw[k3]at w1 w2;refine⟨_,rs',w1,by rw[Ob.ren_sl];exact g2,?_⟩;rcases g3 with⟨g3,g4⟩|g3
    .exact .inl ⟨g3,w2.trans (g4.trans k2)⟩
    .exact .inr g3
   .obtain⟨k1,k2⟩:=out id (ZX ho).1 hm;exact⟨o,rs,k1.trans ho,hs,.inl ⟨rfl,k2⟩⟩
 refine⟨⟨?_,λj o p ho hp=> ?_,λi j o o' p p' b h1 h2 h3 h4 h5 h6=> ?_,λb off hs=>⟨(R1.stm b off hs).1,λj o p ho hp hb=> ?_⟩,?_,λj o p b ho hp hb=> ?_,λb off hs=> ?_⟩,evo,λd v hv=>hv.monoR evr (inP_true d)⟩
 .rw[hlen];simp only[ZIH,ZW,hlE];simp[R1.len]
 .rcases cls j o p ho hp with⟨k0,k1,k2⟩|⟨i,o',k1,k2,rfl,k4⟩
  .refine(R.ok j o p k1 k2).mono evo (λb hb=> ?_);exact hkept.block b ((R.ok j o p k1 k2).lt hb) (ZMJ R hlt k1 k2 k0 hb)
  .exact(R1.ok i o' p k1 k2).monoR evr (λ_ _=>rfl) (Ob.inP_true o')
 .have mixed: ∀(i:Nat) (o:Ob) (p:Nat×Value),i∉ρ->OS[i]? =some o->E.ob[i]? =some p->o.mb p b-> ∀(q:Nat) (o':Ob) (p':Nat×Value),os'[q]? =some o'->E1.ob[q]? =some p'->o'.mb p' b->False:=by
   intro i o p k0 k1 k2 hb q o' p' k3 k4 hb';rcases R1.mbs q o' p' b k3 k4 hb' with h|h
   .exact ZMJ R hlt k1 k2 k0 hb h
   .have:=(R.ok i o p k1 k2).lt hb;simp only at h;omega
  rcases cls i o p h1 h2 with⟨k0,k1,k2⟩|⟨q,o1,k1,k2,rfl,rfl⟩<;>rcases cls j o' p' h3 h4 with⟨g0,g1,g2⟩|⟨q',o2,g1,g2,rfl,rfl⟩
  .exact R.dis i j o o' p p' b k1 k2 g1 g2 h5 h6
  .rw[Ob.ren_mb]at h6;exact(mixed i o p k0 k1 k2 h5 q' o2 p' g1 g2 h6).elim
  .rw[Ob.ren_mb]at h5;exact(mixed j o' p' g0 g1 g2 h6 q o1 p k1 k2 h5).elim
  .rw[Ob.ren_mb]at h5 h6;rw[R1.dis q q' o1 o2 p p' b k1 k2 g1 g2 h5 h6]
 .rcases cls j o p ho hp with⟨k0,k1,k2⟩|⟨i,o',k1,k2,rfl,k4⟩
  .rcases R1.sto b off hs with h|h|h
   .exact(R.stm b off h).2 j o p k1 k2 hb
   .exact ZMJ R hlt k1 k2 k0 hb h
   .have:=(R.ok j o p k1 k2).lt hb;simp only at h;omega
  .rw[Ob.ren_mb]at hb;exact(R1.stm b off hs).2 i o' p k1 k2 hb
 .exact R.kept.trans hkept (λi hi=>(ZPL R hlt hi).1)
 .rcases cls j o p ho hp with⟨k0,k1,k2⟩|⟨i,o',k1,k2,rfl,k4⟩
  .exact R.mbs j o p b k1 k2 hb
  .rw[Ob.ren_mb]at hb;rcases R1.mbs i o' p b k1 k2 hb with h|h
   .exact(ZPL R hlt h).1
   .have:=R.kept.size;simp only at h;exact XW
 .rcases R1.sto b off hs with h|h|h
  .exact R.sto b off h
  .exact .inr (ZPL R hlt h).1
  .have:=R.kept.size;simp only at h;exact .inr (.inr J0)
end
mutual
def ZFa:D->W0
 | .ref id _ _ _=> [id]
 | .ptr id _=> [id]
 | .eptr id _ _ _=> [id]
 | .agg ds=>Jw ds
 | .tup ds=>Jw ds
 | .fn _ caps=>Jw caps
 | .opt _ d=>ZFa d
 | .x _=> []
 | .vptr _=> []
 | .mref id=> [id]
 | .mnil=> []
 | .iref mid id=> [mid,id]
 | .stk mid id=> [mid,id]
 | .bref id _ _=> [id]
 | .full _=> []
 | .nz _=> []
 | .und=> []
def Jw:J8->W0
 | []=> []
 |d::l=>ZFa d++Jw l
end
def ZCJ:W2->W0
 | []=> []
 |p::l=>Jw p.2++ZCJ l
def ZGI:Ob->W0
 | .box ds=>Jw ds
 | .mpo _ _ l=>ZCJ l
 | .mit _ _ l it R _=>it::(ZCJ l++ZCJ R)
 | .mpn _ _ l _ sid=>sid::ZCJ l
 |_=> []
def Jx(OS:J7):Nat->W0->W0->W0
 |0,_,acc=>acc
 |_+1,[],acc=>acc
 |n+1,i::l,acc=>if Zh i acc then Jx OS n l acc else Jx OS n (ZGI (OS.getD i .dead)++l) (acc++ [i])
def QH:W0->Bool
 | []=>true
 |i::l=> !(Zh i l)&&QH l
theorem ZIB: ∀ {l:W0},QH l=true->l.Nodup
 | [],_=>ZPl
 |i::l,h=>by
  simp only[QH,Zj,ZG8]at h;refine ZBE.2 ⟨λhm=> ?_,ZIB h.2⟩;have:=ZA3.2 hm;rw[h.1]at this;cases this
def QC(ρ:W0)(args:J8)(OS:J7):Bool:=
 ρ.all (λr=>decide (r<OS.length))&&(JB (λi=>Zh i ρ) args&&((ρ.all λr=>(OS.getD r .dead).inP λi=>Zh i ρ)&&QH ρ))
def ZAl(h:J8->J7->Option (Bool×D×J7))(args:J8)(OS:J7):Option (Bool×D×J7):=
 if QC (Jx OS 64 (Jw args) []) args OS=true then
  (h (YA (inv (Jx OS 64 (Jw args) [])) args) (YX (Jx OS 64 (Jw args) []) OS)).bind λq=>
   if(Jx OS 64 (Jw args) []).length<=q.2.2.length then some (q.1,q.2.1.ren (KN (Jx OS 64 (Jw args) []) OS.length q.2.2.length),KU (Jx OS 64 (Jw args) []) OS q.2.2)else none
 else none
section
variable {P:Program}
theorem ZF.lift{f:FuncId}{ρ:W0}{args:J8}{OS:J7}{Post:D->J7->Prop}(hok:QC ρ args OS=true)(h:ZF P f (YA (inv ρ) args) (YX ρ OS) Post)(hl: ∀r os',Post r os'->ρ.length<=os'.length):
  ZF P f args OS (λr' OS'=> ∃r os',Post r os'/\r'=r.ren (KN ρ OS.length os'.length)/\OS'=KU ρ OS os'):=by
 simp only[QC,Zj]at hok;obtain⟨h1,h2,h3,h4⟩:=hok;have hn:=ZIB h4;have hlt: ∀r∈ρ,r<OS.length:=λr hr=>Hr
 have hcl: ∀r∈ρ,(OS.getD r .dead).inP (λi=>Zh i ρ)=true:=λr hr=>Yg.1 h3 r hr
 intro c E vs R hvl;have hvl':VL (fpE ρ E) (YX ρ OS) (YA (inv ρ) args) vs:=by
  refine⟨by rw[QO];simpa using hvl.1,λj d v hd hv=> ?_⟩;rw[QO,YI]at hd;obtain⟨d0,h0,rfl⟩:=Zc hd;rw[ZBv]at h2;exact(hvl.2 j d0 v h0 hv).monoR (ZKc R hlt) (Yg.1 h2 d0 (JE h0))
 refine(h _ (fpE ρ E) vs (ZZ5 R hn hlt hcl) hvl').mono ?_;rintro e w' ⟨v,E1,r,os',rfl,rfl,R1,ev,hv,hp⟩;obtain⟨k1,k2,k3⟩:=Zgc R hn hlt R1 ev (hl r os' hp);exact⟨v,ZIH ρ E E1,_,_,rfl,rfl,k1,k2,k3 r v hv,r,os',hp,rfl,rfl⟩
theorem ZO.lift{f:FuncId}{h:J8->J7->Option (Bool×D×J7)}(hh: ∀args os r os',h args os=some (true,r,os')->ZO P f args os r os'):
  ∀args OS r OS',ZAl h args OS=some (true,r,OS')->ZO P f args OS r OS':=by
 intro args OS r OS' hl;unfold ZAl at hl;split at hl
 .rename_i hok;obtain⟨⟨b,r1,os'⟩,h1,h2⟩:=Zg hl;simp only at h2;split at h2
  .rename_i hlen;simp only[Yu,YP]at h2;obtain⟨rfl,rfl,rfl⟩:=h2;have hm:=hh _ _ _ _ h1;have hf:ZF P f (YA (inv (Jx OS 64 (Jw args) [])) args) (YX (Jx OS 64 (Jw args) []) OS) (λr' os2=>r'=r1/\os2=os'):=by
    intro c E vs R hvl;refine(hm c E vs R hvl).mono ?_;exact Nw
   refine ZF.mcalls (λc E vs R hvl=>((ZF.lift hok hf (λr os' ⟨_,h⟩=>by rw[h];exact hlen)) c E vs R hvl).mono ?_);exact TL
  .cases h2
 .cases hl
def YH:Tabs:=⟨λ_ _=>none,λ_ _ _=>none,λ_ _ _=>none,λ_ _ _=>none⟩
theorem ZB:SsOk P YH:=⟨λ_ _ _ h=>W6,λ_ _ _ _ _ h=>W6,λ_ _ _ _ h=>W6,λ_ _ _ _ _ h=>W6⟩
def ZEE(S:Tabs)(f:FuncId)(g:J8->J5):Tabs:=⟨λf' args=>if f'=f then g args else S.q f' args,S.t,S.r,S.k⟩
def ZIE(S:Tabs)(f:FuncId)(h:J8->J7->Option (Bool×D×J7)):Tabs:=⟨S.q,λf' args os=>if f'=f then ZAl h args os else S.t f' args os,S.r,S.k⟩
theorem ZDW{S:Tabs}(hS:SsOk P S){f:FuncId}{g:J8->J5}(he:Enters P f)(hg: ∀args r,g args=some (true,r)->ZL P f args r):SsOk P (ZEE S f g):=by
 refine⟨λf' args r h=> ?_,hS.t,hS.r,hS.k⟩;simp only[ZEE]at h;split at h
 .rename_i hf;subst hf;exact⟨he,hg args r h⟩
 .exact hS.q f' args r h
theorem ZLg{S:Tabs}(hS:SsOk P S){f:FuncId}{h:J8->J7->Option (Bool×D×J7)}(he:Enters P f)(hh: ∀args os r os',h args os=some (true,r,os')->ZO P f args os r os'):SsOk P (ZIE S f h):=by
 refine⟨hS.q,λf' args os r os' hr=> ?_,hS.r,hS.k⟩;simp only[ZIE]at hr;split at hr
 .rename_i hf;subst hf;exact⟨he,ZO.lift hh args os r os' hr⟩
 .exact hS.t f' args os r os' hr
end
theorem D.ren_ren{F g:Nat->Nat}{p:Nat->Bool}(h: ∀i,p i=true->F (g i)=i)(d:D):d.inP p=true->(d.ren g).ren F=d:=by
 refine D.rec (motive_1:=λd=>d.inP p=true->(d.ren g).ren F=d) (motive_2:=λl=>JB p l=true->YA F (YA g l)=l) ?_ ?_ ?_ ?_ ?_ ?_ ?_ ?_ ?_ ?_ ?_ ?_ ?_ ?_ ?_ ?_ ?_ ?_ ?_ d
 all_goals intros
 all_goals first|rfl|(simp only[D.inP,JB,D.ren,YA,Zj]at*;simp_all)
theorem ZJV{F g:Nat->Nat}{p:Nat->Bool}(h: ∀i,p i=true->F (g i)=i)(l:J8)(hl:JB p l=true):YA F (YA g l)=l:=by
 induction l with
 |nil=>rfl
 |cons d l ih=>
  simp only[JB,Zj]at hl;simp only[YA,D.ren_ren h d hl.1,ih hl.2]
theorem ZSH{F g:Nat->Nat}{p:Nat->Bool}(h: ∀i,p i=true->F (g i)=i)(q:Pr)(hp:Qz p q=true):Ji F (Ji g q)=q:=by
 simp only[Ji,ZJV h q.2 hp]
theorem ZJW{F g:Nat->Nat}{p:Nat->Bool}(h: ∀i,p i=true->F (g i)=i)(l:W2)(hp:l.all (Qz p)=true):(l.map (Ji g)).map (Ji F)=l:=by
 rw[Jv]
 conv=>rhs;rw[<-ZPA l]
 exact ZBz λq hq=>ZSH h q (Yg.1 hp q hq)
theorem Ob.ren_ren{F g:Nat->Nat}{p:Nat->Bool}(h: ∀i,p i=true->F (g i)=i)(o:Ob)(hp:o.inP p=true):(o.ren g).ren F=o:=by
 cases o with
 |box ds=>simp only[Ob.ren,ZJV h ds hp]
 |drw e sz rs=>
  have e1:(rs.map (YA g)).map (YA F)=rs:=by
   rw[Jv]
   conv=>rhs;rw[<-ZPA rs]
   exact ZBz λr hr=>ZJV h r (Yg.1 hp r hr)
  simp only[Ob.ren,e1]
 |mpo dk ag l=>simp only[Ob.ren,ZJW h l hp]
 |mit dk ag l it R cur=>
  simp only[Ob.inP,Zj]at hp;have hc:(cur.map (Ji g)).map (Ji F)=cur:=by
   cases cur with
   |none=>rfl
   |some q=>simp only[Yq,ZSH h q hp.2.2.2]
  simp only[Ob.ren,ZJW h l hp.1,ZJW h R hp.2.2.1,hc,h it hp.2.1]
 |mpn dk ag l key sid=>
  simp only[Ob.inP,Zj]at hp;simp only[Ob.ren,ZJW h l hp.1,h sid hp.2]
 |_=>rfl
theorem D.ren_comp{f g:Nat->Nat}(d:D):(d.ren g).ren f=d.ren (λi=>f (g i)):=by
 refine D.rec (motive_1:=λd=>(d.ren g).ren f=d.ren (λi=>f (g i))) (motive_2:=λl=>YA f (YA g l)=YA (λi=>f (g i)) l) ?_ ?_ ?_ ?_ ?_ ?_ ?_ ?_ ?_ ?_ ?_ ?_ ?_ ?_ ?_ ?_ ?_ ?_ ?_ d
 all_goals intros
 all_goals first|rfl|(simp only[D.ren,YA]at*;simp_all)
theorem D.ren_congr{f g:Nat->Nat}{p:Nat->Bool}(h: ∀i,p i=true->f i=g i)(d:D):d.inP p=true->d.ren f=d.ren g:=by
 refine D.rec (motive_1:=λd=>d.inP p=true->d.ren f=d.ren g) (motive_2:=λl=>JB p l=true->YA f l=YA g l) ?_ ?_ ?_ ?_ ?_ ?_ ?_ ?_ ?_ ?_ ?_ ?_ ?_ ?_ ?_ ?_ ?_ ?_ ?_ d
 all_goals intros
 all_goals first|rfl|(simp only[D.inP,JB,D.ren,YA,Zj]at*;simp_all)
theorem V.cut{E0 E1 E2:Env}{OS X:J7}(hw:E2.w=E1.w)(hs:E2.st=E1.st)(hob: ∀i,i<OS.length->E2.ob[i]? =E1.ob[i]?){d:D}{v0:Value}(h:V E0 OS d v0): ∀ {v:Value},V E1 (OS++X) d v->V E2 OS d v:=by
 have hst: ∀b o,E1.st b o->E2.st b o/\E2.w.cell? ⟨b,o,none⟩=E1.w.cell? ⟨b,o,none⟩:=λb o h=>⟨by rw[hs];exact h,by rw[hw]⟩
 have sl: ∀ {id:Nat} {o0:Ob},OS[id]? =some o0-> ∀ {o:Ob},(OS++X)[id]? =some o->OS[id]? =some o/\id<OS.length:=by
  intro id o0 h0 o h1;have hl:=(ZX h0).1;rw[Yk hl]at h1;exact⟨h1,hl⟩
 have lst: ∀ {ds:J8} {vs0 vs:Array Value},ds.length=vs0.size->(∀(j:Nat) (d:D) (v:Value),ds[j]? =some d->vs0[j]? =some v-> ∀ {v:Value},V E1 (OS++X) d v->V E2 OS d v)->(∀(j:Nat) (d:D) (v:Value),ds[j]? =some d->vs[j]? =some v->V E1 (OS++X) d v)-> ∀(j:Nat) (d:D) (v:Value),ds[j]? =some d->vs[j]? =some v->V E2 OS d v:=by
  intro ds vs0 vs hl ih hv j d v hd hv';have hj:=(ZX hd).1;exact ih j d _ hd (ξJ J0) (hv j d v hd hv')
 induction h with
 |x h=>intro v h2;exact .x (h2.xx.mono hst)
 |ref h h1=>
  intro v h2;obtain⟨o,sz,rs,g1,g2,g3⟩:=h;cases h2 with
  |ref hr h3=>
   obtain⟨o',sz',rs',k1,k2,k3,k4⟩:=hr;obtain⟨w1,w2⟩:=sl g1 k1;refine .ref ⟨o',sz',rs',w1,k2,k3,λhl=> ?_⟩ h3;obtain⟨h5,b,a,cap,a',cap',h6,h7⟩:=k4 hl;exact⟨h5,b,a,cap,a',cap',(hob _ w2).trans h6,h7⟩
 |ptr ho h=>
  intro v h2;cases h2 with
  |ptr ho2 hb2=>
   obtain⟨w1,w2⟩:=sl ho ho2;exact .ptr w1 ((hob _ w2).trans hb2)
 |eptr h h1=>
  intro v h2;obtain⟨o,sz,rs,g1,g2,g3⟩:=h;cases h2 with
  |eptr hr h3=>
   obtain⟨o',sz',rs',k1,k2,k3,k4⟩:=hr;obtain⟨w1,w2⟩:=sl g1 k1;refine .eptr ⟨o',sz',rs',w1,k2,k3,λhl=> ?_⟩ h3;obtain⟨h5,b,g,cap,h6,h7⟩:=k4 hl;exact⟨h5,b,g,cap,(hob _ w2).trans h6,h7⟩
 |mref ho hk h=>
  intro v h2;cases h2 with
  |mref ho2 hk2 hb2=>
   obtain⟨w1,w2⟩:=sl ho ho2;exact .mref w1 hk2 ((hob _ w2).trans hb2)
 |mnil=>intro v h2;cases h2;exact .mnil
 |iref ho hk h=>
  intro v h2;cases h2 with
  |iref ho2 hk2 hb2=>
   obtain⟨w1,w2⟩:=sl ho ho2;exact .iref w1 hk2 ((hob _ w2).trans hb2)
 |stk ho hk h=>
  intro v h2;cases h2 with
  |stk ho2 hk2 hb2=>
   obtain⟨w1,w2⟩:=sl ho ho2;exact .stk w1 hk2 ((hob _ w2).trans hb2)
 |bref ho h hm=>
  intro v h2;cases h2 with
  |bref ho2 hb2 hm2=>
   obtain⟨w1,w2⟩:=sl ho ho2;exact .bref w1 ((hob _ w2).trans hb2) hm2
 |vptr b off val hc hv=>
  intro v h2;cases h2 with
  |vptr b off val hc hv=>exact .vptr b off val (λj x hj=>⟨(hst _ _ (hc j x hj).1).1,by rw[(hst _ _ (hc j x hj).1).2];exact(hc j x hj).2⟩) (λj x hj=>(hv j x hj).mono hst)
 |agg vs hl h1 _ ih=>
  intro v h2;cases h2 with
  |agg vs' hl' h1' hv'=>exact .agg vs' hl' h1' (lst hl ih hv')
 |tup vs hl _ ih=>
  intro v h2;cases h2 with
  |tup vs' hl' hv'=>exact .tup vs' hl' (lst hl ih hv')
 |full n h=>
  intro v h2;cases h2 with
  |full n h=>exact .full n (h.mono hst)
 |nz h=>
  intro v h2;cases h2 with
  |nz h=>exact .nz (h.mono hst)
 |fn vs hl _ ih=>
  intro v h2;cases h2 with
  |fn vs' hl' hv'=>exact .fn vs' hl' (lst hl ih hv')
 |opt _ h' ih=>
  intro v h2;cases h2 with
  |opt g g'=>exact .opt (λhb=>ih hb (g hb)) g'
 |und v=>intro v h2;exact .und v
theorem VC.cut{E0 E1 E2:Env}{OS X:J7}(hw:E2.w=E1.w)(hs:E2.st=E1.st)(hob: ∀i,i<OS.length->E2.ob[i]? =E1.ob[i]?){ag:Bool}{ds:J8}{v0 v:Value}(h0:VC E0 OS ag ds v0)(h:VC E1 (OS++X) ag ds v):VC E2 OS ag ds v:=by
 refine⟨h.1,h.2.1,λj d u hd hu=>⟨?_,(h.2.2 j d u hd hu).2⟩⟩;have hj:j<v0.cells.size:=by rw[h0.2.1];exact(ZX hd).1
 exact V.cut (X:=X) hw hs hob (h0.2.2 j d _ hd (ξJ hj)).1 (h.2.2 j d u hd hu).1
theorem YL.cut{E0 E1 E2:Env}{OS X:J7}(hw:E2.w=E1.w)(hs:E2.st=E1.st)(hob: ∀i,i<OS.length->E2.ob[i]? =E1.ob[i]?){b0 b:Nat}{dk:KK}{ag:Bool}{l:W2}(h0:YL E0 OS b0 dk ag l)(h:YL E1 (OS++X) b dk ag l):YL E2 OS b dk ag l:=by
 have key: ∀ {κ:Type} [DecidableEq κ] {mk:κ->Value} {kx:κ->List Go.Ab.X},ZCp mk kx E0 OS b0 ag l->ZCp mk kx E1 (OS++X) b ag l->ZCp mk kx E2 OS b ag l:=by
  intro κ _ mk kx ⟨l0,h1,h2,h3⟩ ⟨l',k1,k2,k3⟩;refine⟨l',by rw[hw];exact k1,k2,λi a q ha hq=> ?_⟩;have hi:i<l0.length:=by rw[h2];exact(ZX hq).1
  exact⟨(k3 i a q ha hq).1,VC.cut hw hs hob (h3 i _ q (Zw hi) hq).2 (k3 i a q ha hq).2⟩
 cases dk with
 |int k=>exact key h0 h
 |str=>exact key h0 h
 |st _ _=>exact h.elim
theorem Rel.cut{c:Ctx}{E0 E1:Env}{OS X:J7}{c0:Ctx}(R0:Rel c0 E0 OS)(R:Rel c E1 (OS++X))(ev:Evo E0 OS E1 (OS++X)):
  Rel c ⟨E1.w,E1.st,E1.ob.take OS.length⟩ OS/\Evo E0 OS ⟨E1.w,E1.st,E1.ob.take OS.length⟩ OS:=by
 have hob: ∀i,i<OS.length->(E1.ob.take OS.length)[i]? =E1.ob[i]? :=λi hi=>by rw[Kp,if_pos hi]
 have up: ∀i o,OS[i]? =some o->(OS++X)[i]? =some o:=λi o h=>by rw[Yk (ZX h).1];exact h
 have lt: ∀i o,OS[i]? =some o->i<OS.length:=λi o h=>(ZX h).1
 refine⟨⟨GL,λi o p h1 h2=> ?_,λi j o o' p p' b h1 h2 h3 h4 h5 h6=> ?_,λb off hs=>⟨(R.stm b off hs).1,λi o p h1 h2 h3=> ?_⟩,R.kept,λi o p b h1 h2 h3=> ?_,R.sto⟩,⟨ev.st,λid b cu ds k ho hkd hb=> ?_,λid o sz rs ho hs=> ?_⟩⟩
 .have h2':E1.ob[i]? =some p:=by rw[<-hob i (lt i o h1)];exact h2
  have hok:=R.ok i o p (up i o h1) h2';obtain⟨p0,hp0,hok0⟩:=R0.at h1;cases o with
  |box ds=>
   obtain⟨cs,ty,g1,g2,g3⟩:=hok;obtain⟨cs0,ty0,k1,k2,k3⟩:=hok0;refine⟨cs,ty,g1,g2,λj d v hd hv=>⟨?_,(g3 j d v hd hv).2⟩⟩;have hj:=(ZX hd).1;exact V.cut (E1:=E1) (E2:=⟨E1.w,E1.st,E1.ob.take OS.length⟩) (X:=X) rfl rfl hob (k3 j d _ hd (ξJ J0)).1 (g3 j d v hd hv).1
  |rows fz el sz rs=>exact hok
  |drw el sz rs=>
   obtain⟨xs,g1,g2,g3⟩:=hok;obtain⟨xs0,k1,k2,k3⟩:=hok0;refine⟨xs,g1,g2,λi r j d v hr hd hv=>⟨?_,(g3 i r j d v hr hd hv).2⟩⟩;have hj:i*sz+j<xs0.length:=by
    have:=(ZX hv).1;rw[g1.1]at this;rw[k1.1];exact this
   exact V.cut (E1:=E1) (E2:=⟨E1.w,E1.st,E1.ob.take OS.length⟩) (X:=X) rfl rfl hob (k3 i r j d _ hr hd (Zw hj)).1 (g3 i r j d v hr hd hv).1
  |frz sz rs=>exact hok
  |mpo dk ag l=>exact YL.cut (E1:=E1) (E2:=⟨E1.w,E1.st,E1.ob.take OS.length⟩) (X:=X) rfl rfl hob hok0 hok
  |mit dk ag l it R cur=>
   refine⟨YL.cut (E1:=E1) (E2:=⟨E1.w,E1.st,E1.ob.take OS.length⟩) (X:=X) rfl rfl hob hok0.1 hok.1,?_⟩;obtain⟨_,ib,cu,es,clk,since,seen,c0,o,k1,k2,k3,k4,k5,k6,k7,k8,k9,k10,k11⟩:=hok;obtain⟨_,ib0,cu0,es0,clk0,since0,seen0,c00,o0,l1,l2,l3,l4,l5,l6,l7,l8,l9,l10,l11⟩:=hok0;have hit:=(ZX l2).1;refine⟨ib,cu,es,clk,since,seen,c0,o0,k1,l2,l3,(hob _ hit).trans k4,k5,k6,k7,k8,k9,⟨k10.1,λi x q hx hq=> ?_⟩,λq hq=> ?_⟩
   .have hl0:i<(leftOf es0 seen0).toList.length:=by rw[l10.1];exact(ZX hq).1
    obtain⟨m1,m2⟩:=k10.2 i x q hx hq;exact⟨m1,VC.cut (E1:=E1) (E2:=⟨E1.w,E1.st,E1.ob.take OS.length⟩) (X:=X) rfl rfl hob (l10.2 i _ q (Zw hl0) hq).2 m2⟩
   .obtain⟨g1,s',x,g2,g3,g4⟩:=k11 q hq;obtain⟨_,_,x0,_,_,e4⟩:=l11 q hq;exact⟨g1,s',x,g2,g3,g4.1,VC.cut (E1:=E1) (E2:=⟨E1.w,E1.st,E1.ob.take OS.length⟩) (X:=X) rfl rfl hob e4.2 g4.2⟩
  |mpn dk ag l key sid=>
   refine⟨YL.cut (E1:=E1) (E2:=⟨E1.w,E1.st,E1.ob.take OS.length⟩) (X:=X) rfl rfl hob hok0.1 hok.1,?_⟩;obtain⟨_,n,cu,o,es,clk,x,k1,k2,k3,k4⟩:=hok;obtain⟨_,n0,cu0,o0,es0,clk0,x0,l1,l2,l3,l4⟩:=hok0;have hit:=(ZX l1).1;exact⟨n,cu,o0,es,clk,x,l1,l2,(hob _ hit).trans k3,k4⟩
  |sit s pos=>exact hok
  |nit=>exact hok
  |itr=>trivial
  |stp=>trivial
  |old _ _=>trivial
  |fam _ _ _=>exact hok
  |dead=>trivial
 .rw[hob i (lt i o h1)]at h2;rw[hob j (lt j o' h3)]at h4;exact R.dis i j o o' p p' b (up i o h1) h2 (up j o' h3) h4 h5 h6
 .rw[hob i (lt i o h1)]at h2;exact(R.stm b off hs).2 i o p (up i o h1) h2 h3
 .rw[hob i (lt i o h1)]at h2;exact R.mbs i o p b (up i o h1) h2 h3
 .obtain⟨cu',ds',g1,gk,g2⟩:=ev.bl id b cu ds k ho hkd hb;rw[Yk (lt id _ ho)]at g1;exact⟨cu',ds',g1,gk,(hob id (lt id _ ho)).trans g2⟩
 .obtain⟨o',rs',g1,g2,g3⟩:=ev.rf id o sz rs ho hs;rw[Yk (lt id _ ho)]at g1;refine⟨o',rs',g1,g2,?_⟩;rcases g3 with⟨g3,g4⟩|g3
  .exact .inl ⟨g3,(hob id (lt id _ ho)).trans g4⟩
  .exact .inr g3
theorem ZIL: ∀(ρ:W0) (os OS:J7),(∀(i r:Nat),ρ[i]? =some r-> ∀o:Ob,os[i]? =some o->OS[r]? =some o)->KR OS ρ os=OS
 | [],os,OS,_=>Xq
 |r::ρ,[],OS,_=>rfl
 |r::ρ,o::os,OS,h=>by
  have h0:=h 0 r rfl o rfl;have hs:OS.set r o=OS:=by
   apply ZBg;intro j;rw[ZCr];split
   .rename_i hj;subst hj;rw[h0,if_pos (ZX h0).1]
   .rfl
  simp only[KR,hs];exact ZIL ρ os OS (λi r hi o ho=>h (i+1) r Um o Gy)
theorem ZQq{F:Nat->Nat}{d:D}(h:d.plain=true):d.ren F=d:=by
 cases d with
 |agg ds=>
  have: ∀l:J8,l.all D.isX=true->YA F l=l:=by
   intro l
   induction l with
   |nil=>intro _;rfl
   |cons d l ih=>
    intro hl;simp only[Qa,Zj]at hl;simp only[YA,ih hl.2];cases d with
    |x y=>rfl
    |_=>exact absurd hl.1 (by simp[D.isX])
  simp only[D.ren,this ds h]
 |fn g caps=>
  cases caps with
  |nil=>rfl
  |cons=>exact absurd h (by simp[D.plain])
 |x y=>rfl
 |_=>exact absurd h (by simp[D.plain])
theorem ZZi{F:Nat->Nat}{d:D}(h:d.clean=true):d.ren F=d:=by
 cases d with
 |tup ds=>
  have: ∀l:J8,l.all D.plain=true->YA F l=l:=by
   intro l
   induction l with
   |nil=>intro _;rfl
   |cons d l ih=>
    intro hl;simp only[Qa,Zj]at hl;simp only[YA,ih hl.2,ZQq hl.1]
  simp only[D.ren,this ds h]
 |_=>exact ZQq h
theorem ZHP.of{P:Program}{f:FuncId}{ρ:W0}{args:J8}{os X:J7}{r:D}(hok:QC ρ args os=true)(h:ZO P f (YA (inv ρ) args) (YX ρ os) r (YX ρ os++X))(hr:r.clean=true):ZHP P f args os r:=by
 intro Y c E vs R hvl;have hok0:=hok;simp only[QC,Zj]at hok;obtain⟨h1,h2,h3,h4⟩:=hok;have hlt: ∀r∈ρ,r<os.length:=λr hr=>Hr
 have hgd: ∀r∈ρ,(os++Y).getD r .dead=os.getD r .dead:=λr hr=>by simp[List.getD,Yk (hlt r hr)]
 have hfp:YX ρ (os++Y)=YX ρ os:=ZBz (λr hr=>by rw[hgd r hr]);have hok':QC ρ args (os++Y)=true:=by
  exact T0
 have hf:ZF P f (YA (inv ρ) args) (YX ρ (os++Y)) (λr' os2=>r'=r/\os2=YX ρ os++X):=by
  exact U1
 refine((ZF.lift hok' hf (λr os' ⟨_,h⟩=>by rw[h];simp[YX])) c E vs R hvl).mono ?_;rintro e w' ⟨v,E',r2,os2,rfl,rfl,R',ev,hv,r3,os3,⟨rfl,rfl⟩,rfl,rfl⟩;rw[ZZi hr]at hv;have hsame: ∃X',KU ρ (os++Y) (YX ρ os++X)=(os++Y)++X':=by
  refine⟨((YX ρ os++X).map (Ob.ren (KN ρ (os++Y).length (YX ρ os++X).length))).drop ρ.length,?_⟩;unfold KU;rw[ZIL];exact Va
 obtain⟨X',hX⟩:=hsame;rw[hX]at R' ev;obtain⟨R2,e2⟩:=R.cut R' ev;exact⟨v,⟨E'.w,E'.st,E'.ob.take (os++Y).length⟩,rfl,rfl,R2,e2,hv.ofClean hr (λx v hx=>hx)⟩
theorem Rel.move{c c0:Ctx}{E0 E1:Env}{OS:J7}{ob:Ob}{id:Nat}(R0:Rel c0 E0 OS)(hd:OS[id]? =some .dead)(hrow: ∃fz e sz rs,ob= .rows fz e sz rs)(R:Rel c E1 (OS++ [ob]))(ev:Evo E0 OS E1 (OS++ [ob])):
  ∃E2,E2.w=E1.w/\Rel c E2 (OS.set id ob)/\Evo E0 OS E2 (OS.set id ob)/\ ∀d v,V E1 (OS++ [ob]) d v->V E2 (OS.set id ob) (d.ren λi=>if i=OS.length then id else i) v:=by
 obtain⟨Rc,ec⟩:=R0.cut R ev;have hidl:id<OS.length:=(ZX hd).1;have hlen:E1.ob.length=OS.length+1:=by rw[R.len];simp
 have hp:E1.ob[OS.length]? =some (E1.ob[OS.length]' J0):=Zw _;generalize E1.ob[OS.length]' J0=p at hp;have htk: ∀i,i<OS.length->(E1.ob.take OS.length)[i]? =E1.ob[i]? :=λi hi=>by rw[Kp,if_pos hi]
 have goS: ∀j,j≠id->(OS.set id ob)[j]? =OS[j]? :=λj hj=>ZAp (λe=>hj e.symm)
 have goE: ∀j,j≠id->((E1.ob.take OS.length).set id p)[j]? =(E1.ob.take OS.length)[j]? :=λj hj=>ZAp (λe=>hj e.symm)
 have atS:(OS.set id ob)[id]? =some ob:=ZEv hidl;have atE:((E1.ob.take OS.length).set id p)[id]? =some p:=ZEv (by simp[hlen];omega);have up: ∀(i:Nat) (o:Ob),OS[i]? =some o->(OS++ [ob])[i]? =some o:=λi o h=>by rw[Yk (ZX h).1];exact h
 have upn:(OS++ [ob])[OS.length]? =some ob:=TG
 let E2:Env:=⟨E1.w,E1.st,(E1.ob.take OS.length).set id p⟩
 have e2:Evo ⟨E1.w,E1.st,E1.ob.take OS.length⟩ OS E2 (OS.set id ob):=by
  refine⟨λb o h=>⟨h,rfl⟩,λi b cu ds k ho hkd hb=> ?_,λi o sz rs ho hs=> ?_⟩
  .have hi:i≠id:=λe=>HC
   exact⟨cu,ds,(goS i hi).trans ho,hkd,(goE i hi).trans hb⟩
  .have hi:i≠id:=λe=>Na
   exact⟨o,rs,(goS i hi).trans ho,hs,.inl ⟨rfl,goE i hi⟩⟩
 have at': ∀(j:Nat) (o:Ob) (q:Nat×Value),(OS.set id ob)[j]? =some o->E2.ob[j]? =some q->(OS++ [ob])[if j=id then OS.length else j]? =some o/\E1.ob[if j=id then OS.length else j]? =some q/\(j≠id->OS[j]? =some o/\(E1.ob.take OS.length)[j]? =some q)/\j<OS.length:=by
  intro j o q ho hq;have hjl:j<OS.length:=Hz
  by_cases hj:j=id
  .subst hj;rw[atS]at ho;cases ho;have:E2.ob[j]? =some p:=atE;rw[this]at hq;cases hq;exact⟨by rw[if_pos rfl];exact upn,by rw[if_pos rfl];exact hp,λh=>absurd rfl h,hjl⟩
  .rw[goS j hj]at ho;have hq':(E1.ob.take OS.length)[j]? =some q:=by rw[<-goE j hj];exact hq
   rw[if_neg hj];exact⟨up j o ho,by rw[<-htk j hjl];exact hq',λ_=>⟨ho,hq'⟩,hjl⟩
 have evr:EvoR (λi=>if i=OS.length then id else i) (λ_=>true) E1 (OS++ [ob]) E2 (OS.set id ob):=by
  refine⟨λb o h=>⟨h,rfl⟩,λi b cu ds k _ ho hkd hb=> ?_,λi o sz rs _ ho hs=> ?_⟩
  .have hil:i<OS.length:=by
    rcases Nat.lt_or_ge i OS.length with h|h
    .exact h
    .exfalso;have:=(ZX ho).1;simp at this;have:i=OS.length:=Wm
     subst this;rw[upn]at ho;obtain⟨fz,e,sz,rs,rfl⟩:=hrow;cases ho;simp[Ob.kd]at hkd
   have hne:i≠OS.length:=Wm
   rw[Yk hil]at ho;have hi:i≠id:=λe=>HC
   rw[if_neg hne];exact⟨cu,ds,(goS i hi).trans ho,hkd,(goE i hi).trans ((htk i hil).trans hb)⟩
  .by_cases hn:i=OS.length
   .subst hn;rw[if_pos rfl];rw[upn]at ho;cases ho;exact⟨ob,rs,atS,hs,.inl ⟨rfl,by rw[hp];exact atE⟩⟩
   .have hil:i<OS.length:=by
     have:=(ZX ho).1;simp at this;omega
    rw[Yk hil]at ho;have hi:i≠id:=λe=>Na
    rw[if_neg hn];exact⟨o,rs,(goS i hi).trans ho,hs,.inl ⟨rfl,(goE i hi).trans (htk i hil)⟩⟩
 refine⟨E2,rfl,⟨by simp[E2,hlen],λj o q h1 h2=> ?_,λi j o o' q q' b h1 h2 h3 h4 h5 h6=> ?_,λb off hs=>⟨(R.stm b off hs).1,λj o q h1 h2 h3=> ?_⟩,R.kept,λj o q b h1 h2 h3=> ?_,R.sto⟩,ec.trans e2,λd v hv=>hv.monoR evr (inP_true d)⟩
 .obtain⟨k1,k2,k3,k4⟩:=at' j o q h1 h2;by_cases hj:j=id
  .subst hj;rw[if_pos rfl]at k1 k2;have hok:=R.ok _ o q k1 k2;rw[atS]at h1;cases h1;obtain⟨fz,e,sz,rs,rfl⟩:=hrow;exact hok
  .obtain⟨g1,g2⟩:=k3 hj;exact(Rc.ok j o q g1 g2).mono e2 (λ_ _=>rfl)
 .obtain⟨k1,k2,_,k4⟩:=at' i o q h1 h2;obtain⟨g1,g2,_,g4⟩:=at' j o' q' h3 h4;have:=R.dis _ _ o o' q q' b k1 k2 g1 g2 h5 h6;by_cases hi:i=id<;>by_cases hj:j=id
  .omega
  .rw[if_pos hi,if_neg hj]at this;omega
  .rw[if_neg hi,if_pos hj]at this;omega
  .rw[if_neg hi,if_neg hj]at this;exact this
 .obtain⟨k1,k2,_,_⟩:=at' j o q h1 h2;exact(R.stm b off hs).2 _ o q k1 k2 h3
 .obtain⟨k1,k2,_,_⟩:=at' j o q h1 h2;exact R.mbs _ o q b k1 k2 h3
theorem ZBq.of{P:Program}{f:FuncId}{ρ:W0}{args:J8}{os:J7}{ob:Ob}{r:D}(hok:QC ρ args os=true)(hrow: ∃fz e sz rs,ob= .rows fz e sz rs)(hr:r.inP (λi=>Nat.ble i ρ.length)=true)(h:ZO P f (YA (inv ρ) args) (YX ρ os) r (YX ρ os++ [ob])):
  ZBq P f args os (λid=>r.ren λi=>if i<ρ.length then ρ.getD i 0 else id) ob:=by
 intro Y id c E vs hd R hvl;have hok0:=hok;simp only[QC,Zj]at hok;obtain⟨h1,h2,h3,h4⟩:=hok;have hlt: ∀r∈ρ,r<os.length:=λr hr=>Hr
 have hgd: ∀r∈ρ,(os++Y).getD r .dead=os.getD r .dead:=λr hr=>by simp[List.getD,Yk (hlt r hr)]
 have hfp:YX ρ (os++Y)=YX ρ os:=ZBz (λr hr=>by rw[hgd r hr]);have hok':QC ρ args (os++Y)=true:=by
  exact T0
 have hf:ZF P f (YA (inv ρ) args) (YX ρ (os++Y)) (λr' os2=>r'=r/\os2=YX ρ os++ [ob]):=by
  exact U1
 refine((ZF.lift hok' hf (λr os' ⟨_,h⟩=>by rw[h];simp[YX])) c E vs R hvl).mono ?_;rintro e w' ⟨v,E',r2,os2,rfl,rfl,R',ev,hv,r3,os3,⟨rfl,rfl⟩,rfl,rfl⟩;have hsame:KU ρ (os++Y) (YX ρ os++ [ob])=(os++Y)++ [ob]:=by
  unfold KU;rw[ZIL]
  .congr 1;have hl:((YX ρ os).map (Ob.ren (KN ρ (os++Y).length (YX ρ os++ [ob]).length))).length=ρ.length:=by simp[YX]
   rw[Jj,<-hl,ZYB];obtain⟨fz,e,sz,rs,rfl⟩:=hrow;rfl
  exact Va
 rw[hsame]at R' ev hv;obtain⟨E2,q1,q2,q3,q4⟩:=R.move hd hrow R' ev;refine⟨v,E2,rfl,q1,q2,q3,?_⟩;have:=q4 _ v hv;rw[D.ren_comp]at this;have hfun:(λi=>(λi=>if i=(os++Y).length then id else i) (KN ρ (os++Y).length (YX ρ os++ [ob]).length i))=λi=>if i<ρ.length then ρ.getD i 0 else(if i=ρ.length then id else(os++Y).length+(i-ρ.length)):=by
  funext i;simp only[KN];by_cases hi:i<ρ.length
  .have hr:ρ[i]? =some (ρ[i]'hi):=Zw hi;have hrl:=hlt _ (YK hi);have:ρ.getD i 0≠(os++Y).length:=by simp only[List.getD,hr,ξY];simp;omega
   simp only[hi,if_true,this,if_false]
  .simp only[hi,if_false];by_cases h2:i=ρ.length
   .subst h2;simp
   .have: ¬((os++Y).length+(i-ρ.length)=(os++Y).length):=Wm
    simp only[this,h2,if_false]
 rw[hfun,D.ren_congr (g:=λi=>if i<ρ.length then ρ.getD i 0 else id) (λi hi=> ?_) _ hr]at this
 .exact this
 .have hi:i<=ρ.length:=Um
  by_cases h1:i<ρ.length
  .simp only[h1,if_true]
  .have h2:i=ρ.length:=Wm
   simp only[h2,if_true,ZW6,if_false]
def ZBY(g:J8->J7->J5)(args:J8)(OS:J7):J5:=
 if QC (Jx OS 64 (Jw args) []) args OS=true then g (YA (inv (Jx OS 64 (Jw args) [])) args) (YX (Jx OS 64 (Jw args) []) OS)else none
theorem ZMj{P:Program}{f:FuncId}{g:J8->J7->J5}(hg: ∀args os r,g args os=some (true,r)->r.clean=true/\ ∃X,ZO P f args os r (os++X)):
  ∀args OS r,ZBY g args OS=some (true,r)->ZHP P f args OS r:=by
 intro args OS r h;unfold ZBY at h;split at h
 .rename_i hok;obtain⟨h1,X,h2⟩:=hg _ _ _ h;exact ZHP.of hok h2 h1
 .cases h
theorem ZHP.mcalls{P:Program}{f:FuncId}{args:J8}{os:J7}{r:D}(h:ZHP P f args os r):ZO P f args os r os:=by
 intro c E vs R hvl;have:=h [] c E vs (by simpa using R) (by simpa using hvl);exact V3
def ZH1(S:Tabs)(f:FuncId)(g:J8->J7->J5):Tabs:=
 ⟨S.q,λf' args os=>if f'=f then(ZBY g args os).map λr=>(r.1,r.2,os)else S.t f' args os,λf' args os=>if f'=f then ZBY g args os else S.r f' args os,S.k⟩
theorem ZOz{P:Program}{S:Tabs}(hS:SsOk P S){f:FuncId}{g:J8->J7->J5}(he:Enters P f)(hg: ∀args os r,g args os=some (true,r)->r.clean=true/\ ∃X,ZO P f args os r (os++X)):SsOk P (ZH1 S f g):=by
 refine⟨hS.q,λf' args os r os' h=> ?_,λf' args os r h=> ?_,hS.k⟩
 .simp only[ZH1]at h;split at h
  .rename_i hf;subst hf;obtain⟨⟨b,r'⟩,h1,h2⟩:=Zc h;simp only[YP]at h2;obtain⟨rfl,rfl,rfl⟩:=h2;exact⟨he,(ZMj hg _ _ _ h1).mcalls⟩
  .exact hS.t f' args os r os' h
 .simp only[ZH1]at h;split at h
  .rename_i hf;subst hf;exact⟨he,ZMj hg _ _ _ h⟩
  .exact hS.r f' args os r h
def ZEB(g:J8->J7->Option (Bool×D×Ob))(args:J8)(OS:J7):Option (Bool×(Nat->D)×Ob):=
 if QC (Jx OS 64 (Jw args) []) args OS=true then(g (YA (inv (Jx OS 64 (Jw args) [])) args) (YX (Jx OS 64 (Jw args) []) OS)).bind λq=>
  if q.2.1.inP (λi=>Nat.ble i (Jx OS 64 (Jw args) []).length)=true then some (q.1,λid=>q.2.1.ren λi=>if i<(Jx OS 64 (Jw args) []).length then(Jx OS 64 (Jw args) []).getD i 0 else id,q.2.2)else none
 else none
theorem ZVs{P:Program}{f:FuncId}{g:J8->J7->Option (Bool×D×Ob)}(hg: ∀args os r ob,g args os=some (true,r,ob)->(∃fz e sz rs,ob= .rows fz e sz rs)/\ZO P f args os r (os++ [ob])):
  ∀args OS r ob,ZEB g args OS=some (true,r,ob)->ZBq P f args OS r ob:=by
 intro args OS r ob h;unfold ZEB at h;split at h
 .rename_i hok;obtain⟨⟨b,d,ob'⟩,h1,h2⟩:=Zg h;simp only at h2;split at h2
  .rename_i hin;simp only[Yu,YP]at h2;obtain⟨rfl,rfl,rfl⟩:=h2;obtain⟨k1,k2⟩:=hg _ _ _ _ h1;exact ZBq.of hok k1 hin k2
  .cases h2
 .cases h
def ZKb(S:Tabs)(f:FuncId)(g:J8->J7->Option (Bool×D×Ob)):Tabs:=
 ⟨S.q,λf' args os=>if f'=f then ZAl (λargs os=>(g args os).map λq=>(q.1,q.2.1,os++ [q.2.2])) args os else S.t f' args os,S.r,λf' args os=>if f'=f then ZEB g args os else S.k f' args os⟩
theorem Zfy{P:Program}{S:Tabs}(hS:SsOk P S){f:FuncId}{g:J8->J7->Option (Bool×D×Ob)}(he:Enters P f)(hg: ∀args os r ob,g args os=some (true,r,ob)->(∃fz e sz rs,ob= .rows fz e sz rs)/\ZO P f args os r (os++ [ob])):SsOk P (ZKb S f g):=by
 refine⟨hS.q,λf' args os r os' h=> ?_,hS.r,λf' args os r ob h=> ?_⟩
 .simp only[ZKb]at h;split at h
  .rename_i hf;subst hf;refine⟨he,ZO.lift (λargs os r os' h=> ?_) args os r os' h⟩;obtain⟨⟨b,d,ob⟩,h1,h2⟩:=Zc h;simp only[YP]at h2;obtain⟨rfl,rfl,rfl⟩:=h2;exact(hg _ _ _ _ h1).2
  .exact hS.t f' args os r os' h
 .simp only[ZKb]at h;split at h
  .rename_i hf;subst hf;exact⟨he,ZVs hg _ _ _ _ h⟩
  .exact hS.k f' args os r ob h
abbrev Out:=Exit×List (Nat×D)×J7
def ZGa(fz:Bool)(run:IC->J4->J7->Option Out)(f:IFn)(args:J8)(os:J7):Option (D×J7):=
 if args.length<=f.n then(run f.body (ZDQ 0 args) os).bind λr=>match r.1 with
  | .normal| .ret=>(QE fz (λ_ _=>none) r.2.1 r.2.2 f.res).bind λq=>if q.1 then some (mkR q.2.1,q.2.2)else none
  |_=>none
 else none
def GOk(P:Program)(G:FuncId->Option IFn):Prop:= ∀f p,G f=some p-> ∃fn,P.funcs[f]? =some fn/\(fn.name== "runtime.NumGoroutine")=false/\ZFv P fn=some p
def Zc9(P:Program)(run:IC->J4->J7->Option Out):Prop:=
 ∀ic φ os x φ' os',run ic φ os=some (x,φ',os')-> ∀(c:Ctx) (E0:Env) (os0:J7) (n:Nat),WI P c E0 os0 n ic (λy φ2 os2=>y=x/\φ2=φ'/\os2=os') φ os
section
variable {P:Program} {G:FuncId->Option IFn}
theorem ZHC(hG:GOk P G){run:IC->J4->J7->Option Out}(hr:Zc9 P run){f:FuncId}{p:IFn}(hp:G f=some p){args:J8}{os os':J7}{r:D}{fz:Bool}(h:ZGa fz run p args os=some (r,os')):
  Enters P f/\ZF P f args os (λr' os2=>r'=r/\os2=os'):=by
 obtain⟨fn,h1,h2,h3⟩:=hG f p hp;refine⟨enters h1 h2 h3,?_⟩;unfold ZGa at h;split at h
 .rename_i hle;obtain⟨⟨x,φ',os1⟩,h4,h⟩:=Zg h;have hx:(x= .normal\/x= .ret)/\(QE fz (λ_ _=>none) φ' os1 p.res).bind (λq=>if q.1 then some (mkR q.2.1,q.2.2)else none)=some (r,os'):=by
   cases x<;>simp only at h<;>first|exact⟨.inl rfl,h⟩|exact⟨.inr rfl,h⟩|cases h
  obtain⟨hx,h5⟩:=hx;obtain⟨⟨ok,ds,os2⟩,h6,h7⟩:=Zg h5;simp only at h7;split at h7
  .rename_i hok;subst hok;cases h7;refine ZaU (fz:=fz) (S:=λ_ _=>none) h1 h3 args hle os (λc E0=>WI.mono (hr _ _ _ _ _ _ h4 c E0 os p.n) ?_);rintro y φ2 os3 ⟨rfl,rfl,rfl⟩;exact⟨hx,ds,_,h6,rfl,rfl⟩
  .cases h7
 .cases h
theorem Zbo{G:FuncId->Option IFn}(hG:GOk P G){f:FuncId}{p:IFn}(hp:G f=some p):Enters P f:=by
 obtain⟨fn,h1,h2,h3⟩:=hG f p hp;exact enters h1 h2 h3
theorem Zf5{fz:Bool}{G:FuncId->Option IFn}(hG:GOk P G){f:FuncId}{p:IFn}(hp:G f=some p)(args:J8)(hle:args.length<=p.n)(os:J7){Post:D->J7->Prop}
  (h: ∀(c:Ctx) (E0:Env),WI P c E0 os p.n p.body (λx φ' os'=>(x= .normal\/x= .ret)/\ ∃ds os2,QE fz (λ_ _=>none) φ' os' p.res=some (true,ds,os2)/\Post (mkR ds) os2) (ZDQ 0 args) os):ZF P f args os Post:=by
 obtain⟨fn,h1,h2,h3⟩:=hG f p hp;exact ZaU h1 h3 args hle os h
end
open Go Go.RowKit Go.Bo
@[reducible] def qt(n:Nat):IO:= .t n
@[reducible] def qi(n:Int):IO:= .c (.x (.int .i64 n))
@[reducible] def qs(s:List UInt8):IO:= .c (.x (.str s))
@[reducible] def qb(b:Bool):IO:= .c (.x (.bool b))
@[reducible] def qm(d s:Nat):IOp:=⟨some d,.mv (.t s),none⟩
@[reducible] def qn(d s g:Nat)(b:Bool):IOp:=⟨some d,.mv (.t s),some (g,b)⟩
@[reducible] def qa(d:Nat)(e:IE):IOp:=⟨some d,e,none⟩
@[reducible] def qg(d:Nat)(e:IE)(g:Nat)(b:Bool):IOp:=⟨some d,e,some (g,b)⟩
@[reducible] def qh(d s g:Nat):IOp:=⟨some d,.mv (.t s),some (g,true)⟩
@[reducible] def qj(d s g:Nat):IOp:=⟨some d,.mv (.t s),some (g,false)⟩
@[reducible] def qT(d:Nat)(e:IE)(g:Nat):IOp:=⟨some d,e,some (g,true)⟩
@[reducible] def qF(d:Nat)(e:IE)(g:Nat):IOp:=⟨some d,e,some (g,false)⟩
@[reducible] def qe(d a i:Nat):IOp:=⟨some d,.ext (.t a) i,none⟩
@[reducible] def ql(a:Nat):IE:= .ld 1 false (.t a)
@[reducible] def qL(n a:Nat):IE:= .ld n true (.t a)
@[reducible] def qf(o a:Nat):IE:= .fad o (.t a)
@[reducible] def q2(p:BinOp)(a b:Nat):IE:= .bin p (.t a) (.t b)
@[reducible] def q3(p:BinOp)(a:Nat)(n:Int):IE:= .bin p (.t a) (.c (.x (.int .i64 n)))
@[reducible] def q8(p:BinOp)(a:Nat)(n:Int):IE:= .bin p (.t a) (.c (.x (.int .u8 n)))
@[reducible] def qz(a:Nat):IE:= .un .not (.t a)
@[reducible] def qp(a b:Nat):IE:= .pick (.t a) (.c (.x (.bool true))) (.t b)
@[reducible] def qP(a b:Nat):IE:= .pick (.t a) (.t b) (.c (.x (.bool false)))
@[reducible] def qc(f:FuncId)(l:List IO):IE:= .call (.c (.fn f [])) l
@[reducible] def qk(b:Bool)(a:Nat):IE:= .len b (.t a)
@[reducible] def qx(a b:Nat):IE:= .idx (.t a) (.t b)
@[reducible] def qy(s a b:Nat):IE:= .iad s (.t a) (.t b)
@[reducible] def qo(n a b:Nat):IOp:=⟨none,.sto n (.t a) (.t b),none⟩
@[reducible] def qr(l:List IOp)(y:IC):IC:= .seq (.reg l) y
@[reducible] def qC(a:Nat)(x y:IC):IC:= .cond (.t a) x y
theorem gk{P:Program}{f:FuncId}{fn:Func}{q p:IFn}(h1:P.funcs[f]? =some fn)(h:some q=some p)(hn:(fn.name== "runtime.NumGoroutine")=false:=by decide)(hc:ZFv P fn=some q:=by kernel_rfl): ∃fn,P.funcs[f]? =some fn/\(fn.name== "runtime.NumGoroutine")=false/\ZFv P fn=some p:=by
 cases h;exact⟨fn,h1,hn,hc⟩
mutual
def D.vw(os:J7):D->D
 | .ref id ext off len=>match os[id]? with
  |some (.frz _ rs)=>if rs.length=ext then .x (.sl ((rs.drop off).take len))else .ref id ext off len
  |_=> .ref id ext off len
 | .agg ds=> .agg (vwL os ds)
 | .tup ds=> .tup (vwL os ds)
 | .fn f caps=> .fn f (vwL os caps)
 | .opt b d=> .opt b (d.vw os)
 | .ptr id o=> .ptr id o
 | .eptr id a b c=> .eptr id a b c
 | .x y=> .x y
 | .vptr cs=> .vptr cs
 | .mref id=> .mref id
 | .mnil=> .mnil
 | .iref mid id=> .iref mid id
 | .stk mid id=> .stk mid id
 | .bref id o l=> .bref id o l
 | .full rs=> .full rs
 | .nz rs=> .nz rs
 | .und=> .und
def vwL(os:J7):J8->J8
 | []=> []
 |d::l=>d.vw os::vwL os l
end
theorem ZIU(os:J7): ∀l,vwL os l=l.map (D.vw os)
 | []=>rfl
 |d::l=>by simp[vwL,ZIU os l]
def D.on(ρ:W0)(d:D):D:=if d.inP (λi=>Zh i ρ)=true then d else .und
def mpP(f:D->D)(q:Pr):Pr:=(q.1,q.2.map f)
def Ob.mp(f:D->D):Ob->Ob
 | .box ds=> .box (ds.map f)
 | .drw e sz rs=> .drw e sz (rs.map (List.map f))
 | .mpo dk ag l=> .mpo dk ag (l.map (mpP f))
 | .mit dk ag l it R cur=> .mit dk ag (l.map (mpP f)) it (R.map (mpP f)) (cur.map (mpP f))
 | .mpn dk ag l key sid=> .mpn dk ag (l.map (mpP f)) key sid
 |o=>o
def Ob.mpb(f:D->D):Ob->Ob
 | .box ds=> .box (ds.map f)
 | .drw e sz rs=> .drw e sz (rs.map (List.map f))
 |o=>o
def frzL:W0->J7->J7
 | [],os=>os
 |i::l,os=>match os[i]? with
  |some (.rows _ _ sz rs)=>frzL l (os.set i (.frz sz rs))
  |_=>frzL l os
def onF(ρ:W0)(os:J7)(d:D):D:=(d.vw os).on ρ
def Ob.onI(ρ:W0):Ob->Ob
 | .mit dk ag l it R cur=>if Zh it ρ=true then .mit dk ag l it R cur else .mpo dk ag l
 | .mpn dk ag l key sid=>if Zh sid ρ=true then .mpn dk ag l key sid else .mpo dk ag l
 |o=>o
def ZDG(ρ:W0)(os:J7):J7:=YX ρ ((os.map (Ob.mp (onF ρ os))).map (Ob.onI ρ))
def ZBo(ρ:W0)(os:J7)(φ:J4):J4:=φ.map λp=>(p.1,(onF ρ os p.2).ren (inv ρ))
def ZO8(ρ:W0)(k m:Nat):Bool:=QH ρ&&(ρ.all (λr=>decide (r<m))&&(List.range k).all λi=>decide (ρ[i]? =some i))
section
variable {P:Program} {c:Ctx} {E E0:Env} {os os0:J7} {n:Nat} {Q:Exit->J4->J7->Prop} {φ:J4}
theorem ZgE(R:Rel c E os){id ext off len sz:Nat}{rs:J6}{v:Value}(hv:V E os (.ref id ext off len) v)(ho:os[id]? =some (.frz sz rs))(hl:rs.length=ext):VX E.w E.st (.sl ((rs.drop off).take len)) v:=by
 cases hv with
 |ref hr _=>
  obtain⟨h1,h2⟩:=hr.at ho rfl;obtain⟨h3,b,ad,cap,a',cap',h4,h5,h6,h7,h8,h9,h10,h11⟩:=h2 hl;obtain⟨p,hp,hok⟩:=R.at ho;rw[hp]at h4;cases h4;subst h5;have hok':VX E.w E.st (.sl rs) (.slice ad ext cap):=hok.1;obtain⟨w1,w2,w3,w4,w5,w6⟩:=OK.cap (os:=os) (o:= .frz sz rs) hok rfl rfl;exact Mk
theorem V.vw(R:Rel c E os){d:D}{v:Value}(h:V E os d v):V E os (d.vw os) v:=by
 have lst: ∀ {ds:J8} {vs:Array Value},(∀(j:Nat) (d:D) (v:Value),ds[j]? =some d->vs[j]? =some v->V E os (d.vw os) v)-> ∀(j:Nat) (d:D) (v:Value),(vwL os ds)[j]? =some d->vs[j]? =some v->V E os d v:=by
  intro ds vs ih j d v hd hv;rw[ZIU,YI]at hd;obtain⟨d0,h0,rfl⟩:=Zc hd;exact ih j d0 v h0 hv
 induction h with
 |x h=>exact .x h
 |ref h h1=>
  simp only[D.vw];split
  .rename_i sz rs ho;split
   .rename_i hl;exact .x (ZgE R (.ref h h1) ho hl)
   .exact .ref h h1
  .exact .ref h h1
 |ptr ho h=>exact .ptr ho h
 |eptr h h1=>exact .eptr h h1
 |mref ho hk h=>exact .mref ho hk h
 |mnil=>exact .mnil
 |iref ho hk h=>exact .iref ho hk h
 |stk ho hk h=>exact .stk ho hk h
 |bref ho h hm=>exact .bref ho h hm
 |vptr b off val hc hv=>exact .vptr b off val hc hv
 |agg vs hl h1 _ ih=>exact .agg vs Me h1 (lst ih)
 |tup vs hl _ ih=>exact .tup vs Me (lst ih)
 |full n h=>exact .full n h
 |nz h=>exact .nz h
 |fn vs hl _ ih=>exact .fn vs Me (lst ih)
 |opt _ h' ih=>exact .opt ih h'
 |und v=>exact .und v
theorem V.on{ρ:W0}{d:D}{v:Value}(h:V E os d v):V E os (d.on ρ) v:=by
 unfold D.on;split
 .exact h
 .exact .und v
theorem Ob.mp_slice(f:D->D)(o:Ob):(o.mp f).sl? =o.sl? :=by cases o<;>simp[Ob.mp,Ob.sl?]
theorem Ob.mp_kd(f:D->D)(o:Ob):(o.mp f).kd=o.kd:=GJ
theorem Ob.mp_mb(f:D->D)(o:Ob)(q:Nat×Value):(o.mp f).mb q=o.mb q:=GJ
theorem VC.mp{f:D->D}(hf: ∀d v,V E os d v->V E os (f d) v){ag:Bool}{ds:J8}{v:Value}(h:VC E os ag ds v):VC E os ag (ds.map f) v:=by
 obtain⟨h1,h2,h3⟩:=h;refine⟨?_,Tc,λj d u hd hu=> ?_⟩
 .cases ag with
  |true=>exact h1
  |false=>simp only[Je,if_false,Yc]at h1|-;exact h1
 .rw[YI]at hd;obtain⟨d0,h0,rfl⟩:=Zc hd;exact⟨hf d0 u (h3 j d0 u h0 hu).1,(h3 j d0 u h0 hu).2⟩
theorem YL.mp{f:D->D}(hf: ∀d v,V E os d v->V E os (f d) v){b:Nat}{dk:KK}{ag:Bool}{l:W2}(h:YL E os b dk ag l):YL E os b dk ag (l.map (mpP f)):=by
 have key: ∀ {κ:Type} [DecidableEq κ] {mk:κ->Value} {kx:κ->J9},ZCp mk kx E os b ag l->ZCp mk kx E os b ag (l.map (mpP f)):=by
  intro κ _ mk kx ⟨l',h1,h2,h3⟩;refine⟨l',h1,Tc,λi a q ha hq=> ?_⟩;rw[YI]at hq;obtain⟨q0,hq0,rfl⟩:=Zc hq;obtain⟨k1,k2⟩:=h3 i a q0 ha hq0;exact⟨k1,k2.mp hf⟩
 cases dk with
 |int k=>exact key h
 |str=>exact key h
 |st _ _=>exact h.elim
theorem ZFt.mp{f:D->D}(hf: ∀d v,V E os d v->V E os (f d) v){dk:KK}{ag:Bool}{e:MapEntry}{q:Pr}(h:ZFt E os dk ag e q):ZFt E os dk ag e (mpP f q):=⟨h.1,h.2.mp hf⟩
theorem ZMq.mp{f:D->D}(hf: ∀d v,V E os d v->V E os (f d) v){p:Nat×Value}{dk:KK}{ag:Bool}{it:Nat}{R:W2}{cur:Option Pr}(h:ZMq E os p dk ag it R cur):ZMq E os p dk ag it (R.map (mpP f)) (cur.map (mpP f)):=by
 obtain⟨ib,cu,es,clk,since,seen,c0,o,h1,h2,h3,h4,h5,h6,h7,h8,h9,h10,h11⟩:=h;refine⟨ib,cu,es,clk,since,seen,c0,o,h1,h2,h3,h4,h5,h6,h7,h8,h9,⟨by simpa using h10.1,λi x q hx hq=> ?_⟩,λq hq=> ?_⟩
 .rw[YI]at hq;obtain⟨q0,hq0,rfl⟩:=Zc hq;exact(h10.2 i x q0 hx hq0).mp hf
 .obtain⟨q0,hq0,rfl⟩:=Zc hq;obtain⟨g1,s',x,g2,g3,g4⟩:=h11 q0 hq0;exact⟨g1,s',x,g2,g3,g4.mp hf⟩
theorem Rel.mp(R:Rel c E os){f:D->D}(hf: ∀d v,V E os d v->V E os (f d) v):Rel c E (os.map (Ob.mp f))/\Evo E os E (os.map (Ob.mp f)):=by
 have at': ∀ {i:Nat} {o:Ob},(os.map (Ob.mp f))[i]? =some o-> ∃o0,os[i]? =some o0/\o=o0.mp f:=λ{i o} h=>by
  exact Ga
 have ev:Evo E os E (os.map (Ob.mp f)):=⟨λb o h=>⟨h,rfl⟩,λid b cu o k ho hkd hb=>⟨cu,o.mp f,GI,by rw[Ob.mp_kd];exact hkd,hb⟩,
  λid o sz rs ho hs=>⟨o.mp f,rs,GI,by rw[Ob.mp_slice];exact hs,.inl ⟨rfl,rfl⟩⟩⟩
 refine⟨⟨GL,λi o p h1 h2=> ?_,λi j o o' p p' b h1 h2 h3 h4 h5 h6=> ?_,λb off hs=>⟨(R.stm b off hs).1,λi o p h1 h2 h3=> ?_⟩,R.kept,λi o p b h1 h2 h3=> ?_,R.sto⟩,ev⟩
 .obtain⟨o0,h0,rfl⟩:=at' h1;have hok:=R.ok i o0 p h0 h2;cases o0 with
  |box ds=>
   obtain⟨cs,ty,g1,g2,g3⟩:=hok;refine⟨cs,ty,g1,by simpa using g2,λj d v hd hv=> ?_⟩;rw[YI]at hd;obtain⟨d0,hd0,rfl⟩:=Zc hd;exact⟨(hf d0 v (g3 j d0 v hd0 hv).1).mono ev,(g3 j d0 v hd0 hv).2⟩
  |rows fz el sz rs=>exact hok
  |drw el sz rs=>
   obtain⟨xs,g1,g2,g3⟩:=hok;refine⟨xs,by rw[Yc];exact g1,λr hr=> ?_,λi r j d v hr hd hv=> ?_⟩
   .obtain⟨r0,h0,rfl⟩:=YS.1 hr;rw[Yc];exact g2 r0 h0
   .rw[YI]at hr;obtain⟨r0,hr0,rfl⟩:=Zc hr;rw[YI]at hd;obtain⟨d0,hd0,rfl⟩:=Zc hd;exact⟨(hf d0 v (g3 i r0 j d0 v hr0 hd0 hv).1).mono ev,(g3 i r0 j d0 v hr0 hd0 hv).2⟩
  |frz sz rs=>exact hok
  |mpo dk ag l=>exact(hok.mp hf).mono ev rfl
  |mit dk ag l it R cur=>exact⟨(hok.1.mp hf).mono ev rfl,(hok.2.mp hf).mono ev (λ_ _=>rfl)⟩
  |mpn dk ag l key sid=>exact⟨(hok.1.mp hf).mono ev rfl,hok.2.mono ev rfl⟩
  |sit s pos=>exact hok
  |nit=>exact hok
  |itr=>trivial
  |stp=>trivial
  |old _ _=>trivial
  |fam _ _ _=>exact hok
  |dead=>trivial
 .obtain⟨o1,g1,rfl⟩:=at' h1;obtain⟨o2,g2,rfl⟩:=at' h3;rw[Ob.mp_mb]at h5 h6;exact R.dis i j o1 o2 p p' b g1 h2 g2 h4 h5 h6
 .obtain⟨o1,g1,rfl⟩:=at' h1;rw[Ob.mp_mb]at h3;exact(R.stm b off hs).2 i o1 p g1 h2 h3
 .obtain⟨o1,g1,rfl⟩:=at' h1;rw[Ob.mp_mb]at h3;exact R.mbs i o1 p b g1 h2 h3
theorem Ob.mpb_slice(f:D->D)(o:Ob):(o.mpb f).sl? =o.sl? :=by cases o<;>simp[Ob.mpb,Ob.sl?]
theorem Ob.mpb_kd(f:D->D)(o:Ob):(o.mpb f).kd=o.kd:=GJ
theorem Ob.mpb_mb(f:D->D)(o:Ob)(q:Nat×Value):(o.mpb f).mb q=o.mb q:=GJ
theorem Rel.mpb(R:Rel c E os){f:D->D}(hf: ∀d v,V E os d v->V E os (f d) v):Rel c E (os.map (Ob.mpb f))/\Evo E os E (os.map (Ob.mpb f)):=by
 have at': ∀ {i:Nat} {o:Ob},(os.map (Ob.mpb f))[i]? =some o-> ∃o0,os[i]? =some o0/\o=o0.mpb f:=λ{i o} h=>by
  exact Ga
 have ev:Evo E os E (os.map (Ob.mpb f)):=⟨λb o h=>⟨h,rfl⟩,λid b cu o k ho hkd hb=>⟨cu,o.mpb f,GI,by rw[Ob.mpb_kd];exact hkd,hb⟩,
  λid o sz rs ho hs=>⟨o.mpb f,rs,GI,by rw[Ob.mpb_slice];exact hs,.inl ⟨rfl,rfl⟩⟩⟩
 refine⟨⟨GL,λi o p h1 h2=> ?_,λi j o o' p p' b h1 h2 h3 h4 h5 h6=> ?_,λb off hs=>⟨(R.stm b off hs).1,λi o p h1 h2 h3=> ?_⟩,R.kept,λi o p b h1 h2 h3=> ?_,R.sto⟩,ev⟩
 .obtain⟨o0,h0,rfl⟩:=at' h1;have hok:=R.ok i o0 p h0 h2;cases o0 with
  |box ds=>
   obtain⟨cs,ty,g1,g2,g3⟩:=hok;refine⟨cs,ty,g1,by simpa using g2,λj d v hd hv=> ?_⟩;rw[YI]at hd;obtain⟨d0,hd0,rfl⟩:=Zc hd;exact⟨(hf d0 v (g3 j d0 v hd0 hv).1).mono ev,(g3 j d0 v hd0 hv).2⟩
  |rows fz el sz rs=>exact hok
  |drw el sz rs=>
   obtain⟨xs,g1,g2,g3⟩:=hok;refine⟨xs,by rw[Yc];exact g1,λr hr=> ?_,λi r j d v hr hd hv=> ?_⟩
   .obtain⟨r0,h0,rfl⟩:=YS.1 hr;rw[Yc];exact g2 r0 h0
   .rw[YI]at hr;obtain⟨r0,hr0,rfl⟩:=Zc hr;rw[YI]at hd;obtain⟨d0,hd0,rfl⟩:=Zc hd;exact⟨(hf d0 v (g3 i r0 j d0 v hr0 hd0 hv).1).mono ev,(g3 i r0 j d0 v hr0 hd0 hv).2⟩
  |frz sz rs=>exact hok
  |mpo dk ag l=>exact YL.mono ev rfl hok
  |mit dk ag l it R cur=>exact⟨YL.mono ev rfl hok.1,hok.2.mono ev (λ_ _=>rfl)⟩
  |mpn dk ag l key sid=>exact⟨YL.mono ev rfl hok.1,hok.2.mono ev rfl⟩
  |sit s pos=>exact hok
  |nit=>exact hok
  |itr=>trivial
  |stp=>trivial
  |old _ _=>trivial
  |fam _ _ _=>exact hok
  |dead=>trivial
 .obtain⟨o1,g1,rfl⟩:=at' h1;obtain⟨o2,g2,rfl⟩:=at' h3;rw[Ob.mpb_mb]at h5 h6;exact R.dis i j o1 o2 p p' b g1 h2 g2 h4 h5 h6
 .obtain⟨o1,g1,rfl⟩:=at' h1;rw[Ob.mpb_mb]at h3;exact(R.stm b off hs).2 i o1 p g1 h2 h3
 .obtain⟨o1,g1,rfl⟩:=at' h1;rw[Ob.mpb_mb]at h3;exact R.mbs i o1 p b g1 h2 h3
theorem Rel.frzL: ∀(l:W0) {E:Env} {os:J7},Rel c E os-> ∃st',Rel c ⟨E.w,st',E.ob⟩ (frzL l os)/\Evo E os ⟨E.w,st',E.ob⟩ (frzL l os)/\(Go.Ab.frzL l os).length=os.length
 | [],E,os,R=>⟨E.st,R,Evo.refl _ _,rfl⟩
 |i::l,E,os,R=>by
  simp only[Go.Ab.frzL];split
  .rename_i fz e sz rs ho;obtain⟨p,hp,_⟩:=R.at ho;obtain⟨R1,e1⟩:=R.freeze ho hp;obtain⟨st',R2,e2,hl⟩:=Rel.frzL l R1;exact⟨st',R2,e1.trans e2,UC⟩
  .exact Rel.frzL l R
theorem Rel.pickO{ρ:W0}(R:Rel c E os)(hn:ρ.Nodup)(hlt: ∀r∈ρ,r<os.length)(hcl: ∀r∈ρ,(os.getD r .dead).inP (λi=>Zh i ρ)=true):Rel c (fpE ρ E) (YX ρ os):=by
 have R1:=ZZ5 R hn hlt hcl;refine⟨R1.len,R1.ok,R1.dis,R1.stm,R.kept,λi o p b h1 h2 h3=> ?_,R.sto⟩;obtain⟨r,o0,p0,k1,k2,rfl,k4,k5⟩:=ZJP R hlt h1;rw[h2]at k5;cases k5;rw[Ob.ren_mb]at h3;exact R.mbs r o0 p b k2 k4 h3
theorem Ob.onI_spec(ρ:W0)(o:Ob):(o.onI ρ).kd=o.kd/\(o.onI ρ).sl? =o.sl? /\(∀p b,(o.onI ρ).mb p b->o.mb p b)/\ ∀(E:Env) (os:J7) p,OK E os o p->OK E os (o.onI ρ) p:=by
 cases o with
 |mit dk ag l it R cur=>
  simp only[Ob.onI];split
  .exact Xa
  .exact⟨rfl,rfl,λ_ _ h=> .inl h,λ_ _ _ h=>h.1⟩
 |mpn dk ag l key sid=>
  simp only[Ob.onI];split
  .exact Xa
  .exact⟨rfl,rfl,λ_ _ h=>h,λ_ _ _ h=>h.1⟩
 |_=>exact Xa
theorem Rel.thaws(R:Rel c E os)(ρ:W0):Rel c E (os.map (Ob.onI ρ))/\Evo E os E (os.map (Ob.onI ρ)):=by
 have at': ∀ {i:Nat} {o:Ob},(os.map (Ob.onI ρ))[i]? =some o-> ∃o0,os[i]? =some o0/\o=o0.onI ρ:=λ{i o} h=>by
  exact Ga
 have ev:Evo E os E (os.map (Ob.onI ρ)):=⟨λb o h=>⟨h,rfl⟩,λid b cu o k ho hkd hb=>⟨cu,o.onI ρ,GI,by rw[(Ob.onI_spec ρ o).1];exact hkd,hb⟩,
  λid o sz rs ho hs=>⟨o.onI ρ,rs,GI,by rw[(Ob.onI_spec ρ o).2.1];exact hs,.inl ⟨rfl,rfl⟩⟩⟩
 refine⟨⟨GL,λi o p h1 h2=> ?_,λi j o o' p p' b h1 h2 h3 h4 h5 h6=> ?_,λb off hs=>⟨(R.stm b off hs).1,λi o p h1 h2 h3=> ?_⟩,R.kept,λi o p b h1 h2 h3=> ?_,R.sto⟩,ev⟩
 .obtain⟨o0,h0,rfl⟩:=at' h1;exact((Ob.onI_spec ρ o0).2.2.2 E os p (R.ok i o0 p h0 h2)).mono ev (λ_ _=>rfl)
 .obtain⟨o1,g1,rfl⟩:=at' h1;obtain⟨o2,g2,rfl⟩:=at' h3;exact R.dis i j o1 o2 p p' b g1 h2 g2 h4 ((Ob.onI_spec ρ o1).2.2.1 _ _ h5) ((Ob.onI_spec ρ o2).2.2.1 _ _ h6)
 .obtain⟨o1,g1,rfl⟩:=at' h1;exact(R.stm b off hs).2 i o1 p g1 h2 ((Ob.onI_spec ρ o1).2.2.1 _ _ h3)
 .obtain⟨o1,g1,rfl⟩:=at' h1;exact R.mbs i o1 p b g1 h2 ((Ob.onI_spec ρ o1).2.2.1 _ _ h3)
theorem ZZ8{ρ:W0}(d:D):(d.on ρ).inP (λi=>Zh i ρ)=true:=by
 unfold D.on;split
 .assumption
 .rfl
theorem ZgI(ρ:W0)(os:J7)(φ:J4)(t:Nat):get (ZBo ρ os φ) t=(onF ρ os (get φ t)).ren (inv ρ):=by
 induction φ with
 |nil=>rfl
 |cons p φ ih=>
  obtain⟨u,d⟩:=p;simp only[ZBo,YO,get];split
  .rfl
  .exact ih
def Wk(c:Ctx)(E0:Env)(os0:J7)(n:Nat)(φ:J4)(os:J7)(φ':J4)(os':J7):Prop:=
 ∀(E:Env) (a:Act),Run c E0 os0 E os->Fr n E os φ a-> ∃E',E'.w=E.w/\Run c E0 os0 E' os'/\Fr n E' os' φ' a
theorem Wk.pick(ρ:W0)(hok:ZO8 ρ os0.length os.length=true):Wk c E0 os0 n φ os (ZBo ρ os φ) (ZDG ρ os):=by
 simp only[ZO8,Zj]at hok;obtain⟨h1,h2,h3⟩:=hok;have hn:=ZIB h1;have hlt: ∀r∈ρ,r<os.length:=λr hr=>by simpa using Yg.1 h2 r hr
 have hpre: ∀i,i<os0.length->ρ[i]? =some i:=λi hi=>by simpa using Yg.1 h3 i (ZFX.2 hi)
 intro E a R hf;obtain⟨R0,e0⟩:=R.rel.mp (f:=onF ρ os) (λd v hd=>(hd.vw R.rel).on);obtain⟨R1,e1'⟩:=R0.thaws ρ;have e1:=e0.trans e1';have hlt1: ∀r∈ρ,r<((os.map (Ob.mp (onF ρ os))).map (Ob.onI ρ)).length:=λr hr=>by simpa using hlt r hr
 have hon: ∀ds:J8,JB (λi=>Zh i ρ) (ds.map (onF ρ os))=true:=λds=>by
  rw[ZBv];refine Yg.2 (λd hd=> ?_);obtain⟨d0,_,rfl⟩:=YS.1 hd;exact ZZ8 _
 have honM: ∀l:W2,(l.map (mpP (onF ρ os))).all (Qz (λi=>Zh i ρ))=true:=λl=>by
  refine Yg.2 (λq hq=> ?_);obtain⟨q0,_,rfl⟩:=YS.1 hq;exact hon _
 have hcl: ∀r∈ρ,(((os.map (Ob.mp (onF ρ os))).map (Ob.onI ρ)).getD r .dead).inP (λi=>Zh i ρ)=true:=λr hr=>by
  have hl:=hlt r hr;simp only[List.getD,YI,Zw hl,Yq,ξY];cases os[r]with
  |box ds=>exact hon ds
  |drw e sz rs=>
   refine Yg.2 (λr hr=> ?_);obtain⟨r0,_,rfl⟩:=YS.1 hr;exact hon r0
  |mpo dk ag l=>exact honM l
  |mit dk ag l it R cur=>
   simp only[Ob.mp,Ob.onI];split
   .rename_i hm;simp only[Ob.inP,Zj];refine⟨honM l,hm,honM R,?_⟩;cases cur with
    |none=>rfl
    |some q=>exact hon _
   .exact honM l
  |mpn dk ag l key sid=>
   simp only[Ob.mp,Ob.onI];split
   .rename_i hm;simp only[Ob.inP,Zj];exact⟨honM l,hm⟩
   .exact honM l
  |_=>rfl
 have R2:=R1.pickO hn hlt1 hcl;have e2:=ZKc (ρ:=ρ) R1 hlt1;refine⟨fpE ρ E,rfl,⟨R2,?_⟩,hf.size,hf.defers,λt=> ?_⟩
 .have e01:=R.evo.trans e1;have hl01:os0.length<=((os.map (Ob.mp (onF ρ os))).map (Ob.onI ρ)).length:=by
   rcases ZPs os0.length with h0|h0
   .omega
   .have:=hlt _ (JE (hpre (os0.length-1) J0));simp only[Yc];omega
  have hinv: ∀i,i<os0.length->inv ρ i=i/\Zh i ρ=true:=λi hi=>⟨ZIT hn (hpre i hi),ZA3.2 (JE (hpre i hi))⟩
  refine⟨e01.st,λid b cu ds k ho hkd hb=> ?_,λid o sz rs ho hs=> ?_⟩
  .have hi:=(ZX ho).1;obtain⟨cu1,ds1,k1,kd1,k2⟩:=e01.bl id b cu ds k ho hkd hb;obtain⟨w1,w2⟩:=hinv id hi;obtain⟨cu2,ds2,k3,kd2,k4⟩:=e2.bl id b cu1 ds1 k w2 k1 kd1 k2;rw[w1]at k3 k4;exact⟨cu2,ds2,k3,kd2,k4⟩
  .have hi:=(ZX ho).1;obtain⟨o1,rs1,k1,k2,k3⟩:=e01.rf id o sz rs ho hs;obtain⟨w1,w2⟩:=hinv id hi;obtain⟨o2,rs2,k4,k5,k6⟩:=e2.rf id o1 sz rs1 w2 k1 k2;rw[w1]at k4 k6;refine⟨o2,rs2,k4,k5,?_⟩;rcases k3 with⟨k3,k3'⟩|k3<;>rcases k6 with⟨k6,k6'⟩|k6
   .exact Xb
   .exact XW
   .exact XW
   .exact XW
 .have h0:V E os (onF ρ os (get φ t)) (a.tmps.getD t undef):=((hf.slot t).vw R.rel).on;have h1:V (fpE ρ E) (YX ρ ((os.map (Ob.mp (onF ρ os))).map (Ob.onI ρ))) ((onF ρ os (get φ t)).ren (inv ρ)) (a.tmps.getD t undef):=(h0.mono e1).monoR e2 (ZZ8 _);rw[ZgI];exact h1
theorem Wk.freeze(l:W0):Wk c E0 os0 n φ os φ (frzL l os):=by
 intro E a R hf;obtain⟨st',R1,e1,_⟩:=R.rel.frzL l;exact⟨⟨E.w,st',E.ob⟩,rfl,⟨R1,R.evo.trans e1⟩,hf.mono e1⟩
theorem WI.pick(ρ:W0){ic:IC}(hok:ZO8 ρ os0.length os.length=true)(h:WI P c E0 os0 n ic Q (ZBo ρ os φ) (ZDG ρ os)):WI P c E0 os0 n ic Q φ os:=WI.weak (Wk.pick ρ hok) h
theorem WI.freeze(l:W0){ic:IC}(h:WI P c E0 os0 n ic Q φ (frzL l os)):WI P c E0 os0 n ic Q φ os:=WI.weak (Wk.freeze l) h
theorem ZA{next:J4->J7->Prop}(h:next φ os):ZHz next Q .normal φ os:=h
theorem Yr{next:J4->J7->Prop}{i:Nat}(h:Q (.exit i) φ os):ZHz next Q (.exit i) φ os:=h
theorem JK{next:J4->J7->Prop}(h:Q .ret φ os):ZHz next Q .ret φ os:=h
theorem QL{i:Nat}(h:Q .normal φ os):ZHJ i Q (.exit i) φ os:=by show(if i=i then Q .normal φ os else Q (.exit i) φ os);rw[if_pos rfl];exact h
theorem ZUd{i j:Nat}(hne:j≠i)(h:Q (.exit j) φ os):ZHJ i Q (.exit j) φ os:=by show(if j=i then Q .normal φ os else Q (.exit j) φ os);rw[if_neg hne];exact h
theorem ZAq{i:Nat}(h:Q .ret φ os):ZHJ i Q .ret φ os:=h
theorem Jl{i:Nat}(h:Q .normal φ os):ZHJ i Q .normal φ os:=h
theorem ZSy{l:Nat}{J:J4->J7->Prop}(h:Q .normal φ os):ZNP l J Q .normal φ os:=h
theorem ZWn{l i:Nat}{J:J4->J7->Prop}(h:Q (.exit i) φ os):ZNP l J Q (.exit i) φ os:=h
theorem ZZ2{l:Nat}{J:J4->J7->Prop}(h:Q .ret φ os):ZNP l J Q .ret φ os:=h
def D.nn:D->D
 | .x .nils=> .x (.sl [])
 |d=>d
theorem VX.nn{w:World}{st:Nat->Nat->Prop}{v:Value}(h:VX w st .nils v):VX w st (.sl []) v:=by
 cases h;exact .sl [] none 0 0 0 (λ_ _=>undef) rfl (Zr _) (Kb _) (λr hr=>TI) (λi j hi=>J0) (λ_=>⟨rfl,rfl⟩) (λ_ ad h=>W6) (λi j r x hr=>Hc)
theorem V.nn{d:D}{v:Value}(h:V E os d v):V E os d.nn v:=by
 unfold D.nn;split
 .exact .x h.xx.nn
 .exact h
theorem VL.nn{ds:J8}{vs:Array Value}(h:VL E os ds vs):VL E os (ds.map D.nn) vs:=by
 refine⟨HO,λj d v hd hv=> ?_⟩;rw[YI]at hd;obtain⟨d0,h0,rfl⟩:=Zc hd;exact(h.2 j d0 v h0 hv).nn
theorem ZL.nn{f:FuncId}{args:J8}{r:D}(h:ZL P f (args.map D.nn) r):ZL P f args r:=λw st vs hst hvl=>h w st vs hst hvl.nn
def D.na:D->D
 | .agg ds=> .agg (ds.map D.nn)
 | .x y=>D.nn (.x y)
 | .ref a b c d=> .ref a b c d
 | .ptr a b=> .ptr a b
 | .eptr a b c d=> .eptr a b c d
 | .vptr cs=> .vptr cs
 | .mref a=> .mref a
 | .mnil=> .mnil
 | .iref a b=> .iref a b
 | .stk a b=> .stk a b
 | .bref a b c=> .bref a b c
 | .tup ds=> .tup ds
 | .full rs=> .full rs
 | .nz rs=> .nz rs
 | .fn f c=> .fn f c
 | .opt b d=> .opt b d
 | .und=> .und
theorem V.na{d:D}{v:Value}(h:V E os d v):V E os d.na v:=by
 unfold D.na;split
 .cases h with
  |agg cs hl h1 hv=>exact .agg cs UC h1 (λj d v hd hv'=>by
    rw[YI]at hd;obtain⟨d0,h0,rfl⟩:=Zc hd;exact(hv j d0 v h0 hv').nn)
 .exact h.nn
 all_goals exact h
theorem VL.na{ds:J8}{vs:Array Value}(h:VL E os ds vs):VL E os (ds.map D.na) vs:=by
 refine⟨HO,λj d v hd hv=> ?_⟩;rw[YI]at hd;obtain⟨d0,h0,rfl⟩:=Zc hd;exact(h.2 j d0 v h0 hv).na
theorem ZL.na{f:FuncId}{args:J8}{r:D}(h:ZL P f (args.map D.na) r):ZL P f args r:=λw st vs hst hvl=>h w st vs hst hvl.na
theorem ZO.nn{f:FuncId}{args:J8}{r:D}{os':J7}(h:ZO P f (args.map D.nn) (os.map (Ob.mpb D.nn)) r os'):ZO P f args os r os':=by
 intro c E vs R hvl;obtain⟨R1,e1⟩:=R.mpb (f:=D.nn) (λd v hd=>hd.nn);refine(h c E vs R1 ⟨hvl.nn.1,λj d v hd hv=>(hvl.nn.2 j d v hd hv).mono e1⟩).mono ?_;rintro e w' ⟨v,E',rfl,rfl,R',ev,hv⟩;exact⟨v,E',rfl,rfl,R',e1.trans ev,hv⟩
def ZEA(φ:J4):J4:=φ.map λp=>(p.1,p.2.nn)
theorem Zg7(φ:J4)(t:Nat):get (ZEA φ) t=(get φ t).nn:=by
 induction φ with
 |nil=>rfl
 |cons p φ ih=>
  obtain⟨u,d⟩:=p;simp only[ZEA,YO,get];split
  .rfl
  .exact ih
theorem Wk.nn:Wk c E0 os0 n φ os (ZEA φ) (os.map (Ob.mpb D.nn)):=by
 intro E a R hf;obtain⟨R1,e1⟩:=R.rel.mpb (f:=D.nn) (λd v hd=>hd.nn);exact⟨E,rfl,⟨R1,R.evo.trans e1⟩,hf.size,hf.defers,λt=>by rw[Zg7];exact((hf.slot t).nn).mono e1⟩
theorem WI.nn{ic:IC}(h:WI P c E0 os0 n ic Q (ZEA φ) (os.map (Ob.mpb D.nn))):WI P c E0 os0 n ic Q φ os:=WI.weak Wk.nn h
def ZJ(N:Int)(t:Nat)(φ:J4)(_:J7):Nat:=(N-((ZD (get φ t).val).getD 0)).toNat
end
def ZFz(S T:Tabs):Tabs where
 q f args:=match S.q f args with
  |some (true,r)=>some (true,r)
  |_=>T.q f args
 t f args os:=match S.t f args os with
  |some (true,r)=>some (true,r)
  |_=>T.t f args os
 r f args os:=match S.r f args os with
  |some (true,r)=>some (true,r)
  |_=>T.r f args os
 k f args os:=match S.k f args os with
  |some (true,r)=>some (true,r)
  |_=>T.k f args os
theorem Zay{P:Program}{S T:Tabs}(hS:SsOk P S)(hT:SsOk P T):SsOk P (ZFz S T):=by
 constructor
 .intro f args r h;simp only[ZFz]at h;split at h
  .rename_i r' h1;cases h;exact hS.q _ _ _ h1
  .exact hT.q _ _ _ h
 .intro f args os r os' h;simp only[ZFz]at h;split at h
  .rename_i r' h1;cases h;exact hS.t _ _ _ _ _ h1
  .exact hT.t _ _ _ _ _ h
 .intro f args os r h;simp only[ZFz]at h;split at h
  .rename_i r' h1;cases h;exact hS.r _ _ _ _ h1
  .exact hT.r _ _ _ _ h
 .intro f args os r ob h;simp only[ZFz]at h;split at h
  .rename_i r' h1;cases h;exact hS.k _ _ _ _ _ h1
  .exact hT.k _ _ _ _ _ h
def ZF8(nq:List FuncId)(G:FuncId->Option IFn)(run:IC->J4->J7->Option Out)(b:Bool):Tabs where
 q f args:=if(b&& !QD f nq)=true then(G f).bind λp=>(ZGa true run p args []).bind λr=>if r.1.clean then some (true,r.1)else none else none
 t f args os:=(G f).bind λp=>(ZGa false run p args os).map λr=>(true,r)
 r f args os:=if(b&& !QD f nq)=true then(G f).bind λp=>ZBY (λargs os=>(ZGa true run p args os).bind λq=>if q.1.clean&&KW os q.2 then some (true,q.1)else none) args os else none
 k f args os:=if b then(G f).bind λp=>ZEB (λargs os=>(ZGa false run p args os).bind λq=>match q.2.drop os.length with
   | [.rows fz e sz rs]=>if KW os q.2 then some (true,q.1,.rows fz e sz rs)else none
   |_=>none) args os else none
def ZkA(os:J7):Bool:=os.any λo=>match o with
 | .rows _ _ _ _=>true
 |_=>false
def ZhP(os:J7):W0:=List.range os.length
def idD:D->W0
 | .ref i _ _ _=> [i]
 | .ptr i _=> [i]
 |_=> []
def ZiK(φ:J4)(os:J7):W0:=(φ.flatMap λp=>idD p.2).flatMap λi=>match(os[i]? :Option Ob)with
 |some (.box l)=>l.flatMap idD
 |some (.rows _ _ _ _)=> [i]
 |_=> []
def ZRc(φ:J4)(f:J7->Option (Bool×List (Nat×D)×J7))(os:J7):Option Out:=match f os with
 |some (true,r)=>some (.normal,r)
 |_=>if ZkA os=true then match f (frzL (ZiK φ os) os)with
  |some (true,r)=>some (.normal,r)
  |_=>match f (frzL (ZhP os) os)with
   |some (true,r)=>some (.normal,r)
   |_=>none
  else none
theorem ZTO{P:Program}{c:Ctx}{E0:Env}{os0 os:J7}{n:Nat}{Q:Exit->J4->J7->Prop}{φ:J4}{ic:IC}{f:J7->Option (Bool×List (Nat×D)×J7)}(hf: ∀os r,f os=some (true,r)-> ∀Q':Exit->J4->J7->Prop,Q' .normal r.1 r.2->WI P c E0 os0 n ic Q' φ os){x:Exit}{φ':J4}{os':J7}(h:ZRc φ f os=some (x,φ',os'))(hq:Q x φ' os'):WI P c E0 os0 n ic Q φ os:=by
 unfold ZRc at h;split at h
 .rename_i r hr;cases h;exact hf _ _ hr _ hq
 .split at h
  .split at h
   .rename_i r hr;cases h;exact WI.freeze (ZiK φ os) (hf _ _ hr _ hq)
   .split at h
    .rename_i r hr;cases h;exact WI.freeze (ZhP os) (hf _ _ hr _ hq)
    .cases h
  .cases h
def ev(S0:Tabs)(nq:List FuncId)(G:FuncId->Option IFn):Nat->IC->J4->J7->Option Out
 |0,_,_,_=>none
 |n+1,ic,φ,os=>match ic with
  | .skip=>some (.normal,φ,os)
  | .reg l=>ZRc φ (λos=>QJ (ZFz S0 (ZF8 nq G (ev S0 nq G n) false)) φ os l) os
  | .dreg k rs k2 rs2 l=>ZRc φ (λos=>match ZHZ none (ZFz S0 (ZF8 nq G (ev S0 nq G n) true)) φ os k rs l with
   |some (true,r)=>some (true,r)
   |_=>ZHZ (some []) (ZFz S0 (ZF8 nq G (ev S0 nq G n) true)) φ os k2 rs2 l) os
  | .seq a b=>(ev S0 nq G n a φ os).bind λr=>match r.1 with
   | .normal=>ev S0 nq G n b r.2.1 r.2.2
   |_=>some r
  | .cond x a b=>match(ZG φ x).val with
   | .x (.bool v)=>if(ZG φ x).cond then(if v then ev S0 nq G n a φ os else ev S0 nq G n b φ os)else none
   |_=>none
  | .block i b=>(ev S0 nq G n b φ os).map λr=>match r.1 with
   | .exit j=>if j=i then(.normal,r.2)else r
   |_=>r
  | .loop b=>(ev S0 nq G n b φ os).bind λr=>match r.1 with
   | .normal=>ev S0 nq G n (.loop b) r.2.1 r.2.2
   |_=>some r
  | .exit i=>some (.exit i,φ,os)
  | .ret=>some (.ret,φ,os)
  | .label _=>some (.normal,φ,os)
  | .goto l=>some (.goto l,φ,os)
  | .scope b cur=>(ev S0 nq G n cur φ os).bind λr=>match r.1 with
   | .goto l=>match ZFi b l with
    |some rest=>ev S0 nq G n (.scope b rest) r.2.1 r.2.2
    |none=>none
   |_=>some r
  | .dead=>none
section
variable {P:Program} {G:FuncId->Option IFn}
theorem ZaK{nq:List FuncId}(hG:GOk P G){run:IC->J4->J7->Option Out}(hr:Zc9 P run)(b:Bool):SsOk P (ZF8 nq G run b):=by
 constructor
 .intro f args r h;simp only[ZF8]at h;split at h
  .obtain⟨p,hp,h⟩:=Zg h;obtain⟨⟨r',os'⟩,h1,h⟩:=Zg h;simp only at h;split at h
   .rename_i hcl;cases h;obtain⟨k1,k2⟩:=ZHC hG hr hp h1;refine⟨k1,ZF.pure (λc E vs R hvl=>(k2 c E vs R hvl).mono ?_) hcl⟩;rintro e w' ⟨v,E',r2,os2,rfl,rfl,R',e',hv,rfl,rfl⟩;exact⟨v,E',_,_,rfl,rfl,R',e',hv,rfl⟩
   .cases h
  .cases h
 .intro f args os r os' h;simp only[ZF8,YG]at h;obtain⟨p,hp,h⟩:=h;obtain⟨⟨r',os2⟩,h1,h⟩:=Zc h;simp at h;obtain⟨rfl,rfl⟩:=h;obtain⟨k1,k2⟩:=ZHC hG hr hp h1;exact⟨k1,k2.mcalls⟩
 .intro f args os r h;simp only[ZF8]at h;split at h
  .obtain⟨p,hp,h⟩:=Zg h;obtain⟨fn,w1,w2,w3⟩:=hG f p hp;refine⟨enters w1 w2 w3,ZMj (λargs os r hg=> ?_) args os r h⟩;obtain⟨⟨r',os'⟩,h1,h2⟩:=Zg hg;simp only at h2;split at h2
   .rename_i hcl;simp only[Zj]at hcl;cases h2;obtain⟨X,rfl⟩:=ZIz hcl.2;exact⟨hcl.1,X,(ZHC hG hr hp h1).2.mcalls⟩
   .cases h2
  .cases h
 .intro f args os r ob h;simp only[ZF8]at h;split at h
  .obtain⟨p,hp,h⟩:=Zg h;obtain⟨fn,w1,w2,w3⟩:=hG f p hp;refine⟨enters w1 w2 w3,ZVs (λargs os r ob hg=> ?_) args os r ob h⟩;obtain⟨⟨r',os'⟩,h1,h2⟩:=Zg hg;simp only at h2;split at h2
   .rename_i fz e sz rs hdrop;split at h2
    .rename_i hpre;simp only[Yu,YP,true_and]at h2;obtain⟨rfl,rfl⟩:=h2;obtain⟨X,rfl⟩:=ZIz hpre;rw[ZYB]at hdrop;subst hdrop;exact⟨⟨fz,e,sz,rs,rfl⟩,(ZHC hG hr hp h1).2.mcalls⟩
    .cases h2
   .cases h2
  .cases h
theorem ZW5{S0:Tabs}{nq:List FuncId}(h0:SsOk P S0)(hG:GOk P G): ∀n,Zc9 P (ev S0 nq G n)/\(∀b cur φ os x φ' os',ev S0 nq G n (.scope b cur) φ os=some (x,φ',os')-> ∀(c:Ctx) (E0:Env) (os0:J7) (m:Nat) (code rc:Code),Zo P m code=some b->Zo P m rc=some cur-> ∀(E:Env) (a:Act),Run c E0 os0 E os->Fr m E os φ a->
  ZPe P code rc (λy a' w'=> ∃E2 φ2 os2,E2.w=w'/\Run c E0 os0 E2 os2/\Fr m E2 os2 φ2 a'/\y=x/\φ2=φ'/\os2=os') a E.w)/\ ∀b φ os x φ' os',ev S0 nq G n (.loop b) φ os=some (x,φ',os')-> ∀(c:Ctx) (E0:Env) (os0:J7) (m:Nat) (code:Code),Zo P m code=some b-> ∀(E:Env) (a:Act),Run c E0 os0 E os->Fr m E os φ a->
  Code.rounds P code (λy a' w'=> ∃E2 φ2 os2,E2.w=w'/\Run c E0 os0 E2 os2/\Fr m E2 os2 φ2 a'/\y=x/\φ2=φ'/\os2=os') n a E.w:=by
 intro n
 induction n with
 |zero=>exact⟨λ_ _ _ _ _ _ h=>W6,λ_ _ _ _ _ _ _ h=>W6,λ_ _ _ _ _ _ h=>W6⟩
 |succ n ih=>
  obtain⟨ih1,ih3,ih2⟩:=ih;have hS:=λb=>Zay h0 (ZaK (nq:=nq) hG ih1 b)
  have B: ∀b φ os x φ' os',ev S0 nq G (n+1) (.loop b) φ os=some (x,φ',os')-> ∀(c:Ctx) (E0:Env) (os0:J7) (m:Nat) (code:Code),Zo P m code=some b-> ∀(E:Env) (a:Act),Run c E0 os0 E os->Fr m E os φ a->
    Code.rounds P code (λy a' w'=> ∃E2 φ2 os2,E2.w=w'/\Run c E0 os0 E2 os2/\Fr m E2 os2 φ2 a'/\y=x/\φ2=φ'/\os2=os') (n+1) a E.w:=by
   intro b φ os x φ' os' h c E0 os0 m code hc E a R hf;simp only[ev,YG]at h;obtain⟨⟨y,φ1,os1⟩,h1,h⟩:=h;rw[rounds_succ];refine Code.wp_mono ?_ (ih1 b φ os y φ1 os1 h1 c E0 os0 m code hc E a R hf);rintro e a' w' ⟨E',φ2,os2,rfl,R2,f2,rfl,rfl,rfl⟩;cases e<;>simp only at h<;>first
    |exact ih2 _ _ _ _ _ _ h c E0 os0 m code hc E' a' R2 f2
    |(cases h;exact⟨E',_,_,rfl,R2,f2,rfl,rfl,rfl⟩)
  have S: ∀b cur φ os x φ' os',ev S0 nq G (n+1) (.scope b cur) φ os=some (x,φ',os')-> ∀(c:Ctx) (E0:Env) (os0:J7) (m:Nat) (code rc:Code),Zo P m code=some b->Zo P m rc=some cur-> ∀(E:Env) (a:Act),Run c E0 os0 E os->Fr m E os φ a->
    ZPe P code rc (λy a' w'=> ∃E2 φ2 os2,E2.w=w'/\Run c E0 os0 E2 os2/\Fr m E2 os2 φ2 a'/\y=x/\φ2=φ'/\os2=os') a E.w:=by
   intro b cur φ os x φ' os' h c E0 os0 m code rc hcb hcc E a R hf;simp only[ev,YG]at h;obtain⟨⟨y,φ1,os1⟩,h1,h⟩:=h;refine ZKr (Code.wp_mono ?_ (ih1 cur φ os y φ1 os1 h1 c E0 os0 m rc hcc E a R hf));rintro e a' w' ⟨E',φ2,os2,rfl,R2,f2,rfl,rfl,rfl⟩;cases e with
   |goto l=>
    simp only at h|-;cases hfi:ZFi b l with
    |none=>rw[hfi]at h;cases h
    |some rest=>
     rw[hfi]at h;obtain⟨rc',k1,k2⟩:=(ZHr b code hcb l).1 rest hfi;exact⟨rc',k1,ih3 b rest _ _ _ _ _ h c E0 os0 m code rc' hcb k2 E' a' R2 f2⟩
   |_=>simp only at h;cases h;exact⟨E',_,_,rfl,R2,f2,rfl,rfl,rfl⟩
  refine⟨λic φ os x φ' os' h c E0 os0 m=> ?_,S,B⟩;cases ic with
  |skip=>simp only[ev]at h;cases h;exact WI.skip ⟨rfl,rfl,rfl⟩
  |ret=>simp only[ev]at h;cases h;exact WI.ret ⟨rfl,rfl,rfl⟩
  |exit i=>simp only[ev]at h;cases h;exact WI.exit ⟨rfl,rfl,rfl⟩
  |label l=>simp only[ev]at h;cases h;exact WI.label ⟨rfl,rfl,rfl⟩
  |goto l=>simp only[ev]at h;cases h;exact WI.goto ⟨rfl,rfl,rfl⟩
  |dead=>simp only[ev]at h;cases h
  |scope b cur=>
   intro code hc E a R hf;obtain⟨cb,rfl,h1,rfl⟩:=ZKK hc;exact ZNl (S _ _ φ os x φ' os' h c E0 os0 m cb cb h1 h1 E a R hf)
  |reg l=>
   simp only[ev]at h;exact ZTO (λos r hr Q' hq=>WI.reg' (hS _) hr rfl hq) h ⟨rfl,rfl,rfl⟩
  |dreg k rs k2 rs2 l=>
   simp only[ev]at h;refine ZTO (λos r hr Q' hq=> ?_) h ⟨rfl,rfl,rfl⟩;split at hr
   .rename_i h1;cases hr;exact WI.dreg' (hS _) (.inl h1) rfl hq (λ_ _ f=>f)
   .exact WI.dreg' (hS _) (.inr hr) rfl hq (λ_ _ f=>f)
  |seq a b=>
   simp only[ev,YG]at h;obtain⟨⟨y,φ1,os1⟩,h1,h⟩:=h;refine WI.seq (WI.mono (ih1 _ _ _ _ _ _ h1 c E0 os0 m) ?_);rintro e φ2 os2 ⟨rfl,rfl,rfl⟩;cases e<;>simp only at h<;>first
    |exact ih1 _ _ _ _ _ _ h c E0 os0 m
    |(cases h;exact⟨rfl,rfl,rfl⟩)
  |cond x a b=>
   simp only[ev]at h;split at h
   .rename_i v hv;split at h
    .rename_i hcd;refine WI.cond hv hcd (λhb=> ?_) (λhb=> ?_)
     .subst hb;exact ih1 _ _ _ _ _ _ h c E0 os0 m
     .subst hb;exact ih1 _ _ _ _ _ _ h c E0 os0 m
    .cases h
   .cases h
  |block i b=>
   simp only[ev,Kq]at h;obtain⟨⟨y,φ1,os1⟩,h1,h⟩:=h;refine WI.block (WI.mono (ih1 _ _ _ _ _ _ h1 c E0 os0 m) ?_);rintro e φ2 os2 ⟨rfl,rfl,rfl⟩;cases e with
   |exit j=>
    simp only at h;simp only[ZHJ];split at h
    .rename_i hj;rw[if_pos hj];cases h;exact⟨rfl,rfl,rfl⟩
    .rename_i hj;rw[if_neg hj];cases h;exact⟨rfl,rfl,rfl⟩
   |_=>simp only at h;cases h;exact⟨rfl,rfl,rfl⟩
  |loop b=>
   intro code hc E a R hf;obtain⟨cb,rfl,h1⟩:=ZJo hc;exact wp_loop_rounds (n+1) (B b φ os x φ' os' h c E0 os0 m cb h1 E a R hf)
theorem Zfc{S0:Tabs}{nq:List FuncId}(h0:SsOk P S0)(hG:GOk P G)(n:Nat){f:FuncId}{p:IFn}(hp:G f=some p){args:J8}{os':J7}{r:D}(h:ZGa true (ev S0 nq G n) p args []=some (r,os'))(hcl:r.clean=true):Enters P f/\ZL P f args r:=
 let k:=ZHC hG (ZW5 h0 hG n).1 hp h
 ⟨k.1,ZF.pure (λc E vs R hvl=>(k.2 c E vs R hvl).mono (by
  rintro e w' ⟨v,E',r2,os2,rfl,rfl,R',e',hv,rfl,rfl⟩;exact⟨v,E',_,_,rfl,rfl,R',e',hv,rfl⟩)) hcl⟩
theorem ZX5{P:Program}{G:FuncId->Option IFn}(hG:GOk P G)(n:Nat){f:FuncId}{p:IFn}(hp:G f=some p){S0:Tabs}(h0:SsOk P S0)(nq:List FuncId){args:J8}{r:D}(h:(ZGa true (ev S0 nq G n) p args []).map (·.1)=some r)(hcl:r.clean=true):ZL P f args r:=by
 obtain⟨⟨r',os⟩,h1,h2⟩:=Zc h;simp only at h2;subst h2;exact(Zfc h0 hG n hp h1 hcl).2
end
end Go.Ab
end
