import Derived.Test.YtiogclkbccdefaaGreatDoorLA3
import Derived.LoopN
import Derived.ScopeJumps
import Derived.IntWalk
set_option linter.unusedSimpArgs false
set_option linter.unusedVariables false
set_option maxRecDepth 100000
theorem WC{p:Prop}(h:p:=by simpa using h1):p:=h
theorem WY{p:Prop}(h:p:=by intro i r hi o ho;rw[Jd,Yc (by simp[Yb];exact(ZV hi).1)]at ho;simp only[Yb,Jz,YE,hi,Yr,Yj,Function.comp]at ho;have hm:=Yz hi;have hl:=hlt r hm;have hr':os[r]? =some (os[r]'hl):=Zx _;rw[Yc hl,hr',<-ho];simp only[List.getD,hr',Qu];have hin:=Yg.1 h3 r hm;simp only[List.getD,hr',Qu]at hin;rw[Ob.ren_ren (p:=λi=>Zi i ρ) (λi hi=> ?_) _ hin];have hg:=ZGU (ZB7.1 hi);simp only[KH,(ZV hg).1,if_true,List.getD,hg,Qu]):p:=h
theorem Vu{p:Prop}(h:p:=by exact⟨λr hr=>(by cases hr),λ_=>rfl⟩):p:=h
theorem Uy{p:Prop}(h:p:=by intro c E vs R hvl;rw[hfp]at R hvl;refine(h c E vs R hvl).mono ?_;rintro e w' ⟨v,E',rfl,rfl,R',ev,hv⟩;exact⟨v,E',_,_,rfl,rfl,R',by rw[hfp];exact ev,hv,rfl,rfl⟩):p:=h
theorem U9{p:Prop}(h:p:=by simpa using h2):p:=h
theorem Tw{p:Prop}(h:p:=by simp only[Kx,Zk];refine⟨Yg.2 (λr hr=>by have:=hlt r hr;simp;omega),h2,Yg.2 (λr hr=>by rw[hgd r hr];exact Yg.1 h3 r hr),h4⟩):p:=h
theorem T6{p:Prop}(h:p:=by obtain⟨k1,k2⟩:=cal _ _ hio;rw[hf]at k1 k2;rw[ho]at k1;cases k1;rw[hp]at k2;exact .inr ⟨_,_,hio,k2.symm,rfl,hf.symm⟩):p:=h
theorem TG{p:Prop}(h:p:=by rintro e w' ⟨v,E',r2,os2,rfl,rfl,R',ev,hv,r3,os3,⟨rfl,rfl⟩,rfl,rfl⟩;exact⟨v,E',_,_,rfl,rfl,R',ev,hv,rfl,rfl⟩):p:=h
theorem TZ{p:Prop}(h:p:=by rw[YE]at h;obtain⟨o0,h0,rfl⟩:=Za h;exact⟨o0,h0,rfl⟩):p:=h
theorem GG{p:Prop}(h:p:=by rw[YE,ho];rfl):p:=h
theorem GH{p:Prop}(h:p:=by cases o<;>rfl):p:=h
theorem GI{p:Prop}(h:p:=by refine Fr.keep ?_ ks;exact Fr.put (Fr.put hf ht (V.tup1 (V.mkbool _ _ _))) ht2 (V.mkbool _ _ _)):p:=h
theorem GX{p:Prop}(h:p:=by subst e;rw[hd]at ho;cases ho;cases hs):p:=h
theorem Nr{p:Prop}(h:p:=by have:=hs (j+1) s WX;rw[show i+1+j=i+(j+1) by omega];simpa using this):p:=h
theorem Ny{p:Prop}(h:p:=by rintro e w' ⟨v,E',rfl,rfl,R',ev,hv⟩;exact⟨v,E',_,_,rfl,rfl,R',ev,hv,rfl,rfl⟩):p:=h
theorem N9{p:Prop}(h:p:=by have:=h (j+1) t d x WX;rw[show i+1+j=i+(j+1) by omega];exact this):p:=h
theorem NZ{p:Prop}(h:p:=by rw[hf.size];exact ht):p:=h
theorem Xb{p:Prop}(h:p:=by exact⟨rfl,rfl,λ_ _ h=>h,λ_ _ _ h=>h⟩):p:=h
theorem Xc{p:Prop}(h:p:=by exact .inl ⟨k3.trans k6,k6'.trans k3'⟩):p:=h
section
namespace Go.Ab
open Go.RowKit Go.Bo
structure Draw (ops:List Oper) (il:List IOp) (k:Nat) (rs:W0) (L:Nat):Prop where
 back: ∀(i:Nat) (o:Oper),ops[i]? =some o-> ∀j∈aft o,j<i
 own: ∀(i j:Nat) (x y:IOp) (t:Nat),il[i]? =some x->il[j]? =some y->x.dst=some t->y.dst=some t->i=j
 reads: ∀(i j:Nat) (x y:IOp) (t:Nat) (o p:Oper),il[i]? =some x->il[j]? =some y->ops[i]? =some o->ops[j]? =some p->t∈x.reads->y.dst=some t->(j<i/\j∈aft o)\/(i<j/\i∈aft p)
 tail: ∀(i:Nat) (o:Oper) (x:IOp),k<=i->ops[i]? =some o->il[i]? =some x->x.ex rs i=false->i≠L-> ∀dn,ZNP ops dn->(∀j∈aft o,dn j=true)-> ∀(j:Nat) (y:IOp),j<i->il[j]? =some y->y.ex rs j=false->dn j=true
theorem Draw.of{ops:List Oper}{il:List IOp}{k:Nat}{rs:W0}{L:Nat}(h:ZC8 ops il k rs L=true):Draw ops il k rs L:=by
 simp only[ZC8,Zk]at h;obtain⟨h2,h3,h4,h5⟩:=h;have back: ∀(i:Nat) (o:Oper),ops[i]? =some o-> ∀j∈aft o,j<i:=λi o ho j hj=>by
  have:=ZNT h2 i o ho j hj;omega
 have zt: ∀(i:Nat) (x:IOp) (o:Oper),il[i]? =some x->ops[i]? =some o->(il.zip ops)[i]? =some (x,o):=λi x o hx ho=>List.getElem?_zip_eq_some.2 ⟨hx,ho⟩
 refine⟨back,λi j x y t hx hy hd he=>ZP4 h3 i j x y t hx hy hd he,λi j x y t o p hx hy ho hp ht hd=> ?_,λi o x hi ho hx hf hiL dn hcl hd j y hj hy hyf=> ?_⟩
 .have:=ZQQ (ZTj h4 i x o (zt i x o hx ho)) j y p t (zt j y p hy hp) hd ht;exact V4
 .have hlt:=(ZV ho).1;obtain⟨b1,b2⟩:=ZQI ops [] [] rfl (λi c hc=>by simp at hc) (by simpa using back);simp only[QW]at b1 b2;have hc:(ZAe [] ops)[i]? =some ((ZAe [] ops)[i]' J0):=Zx _;have:=(ZNt h5 i _ x hc hx (by rw[Je];exact hf) J0 J0).2 j y hj hy (by rw[Je];exact hyf);rw[Je]at this;exact b2 i _ hc dn hcl (by rw[ho];exact Yg.2 hd) j this
theorem ZQh{p q:Nat->Bool}: ∀ {l:W0} {i:Nat},i∈l->p i=true->q i=false->(∀j,q j=true->p j=true)->l.countP q<l.countP p
 | [],i,h,_,_,_=>W6
 |x::l,i,h,hp,hq,hqp=>by
  have hle:l.countP q<=l.countP p:=List.countP_mono_left (λj _ hj=>hqp j hj);rcases Kn.1 h with rfl|h
  .rw[Zbc (by simp[hq]),ZVy hp];omega
  .have:=ZQh h hp hq hqp;by_cases hx:q x=true
   .rw[ZVy hx,ZVy (hqp x hx)];omega
   .rw[Zbc Gv];by_cases hx2:p x=true
    .rw[ZVy hx2];omega
    .rw[Zbc (by simpa using hx2)];exact this
theorem ZJq{c:Ctx}: ∀(F:List Rec) (i:Nat) {E:Env} {os:J7},Rel c E os-> ∃E',E'.w=E.w/\Rel c E' (os++Ji F (λ_=>false) i)/\Evo E os E' (os++Ji F (λ_=>false) i)
 | [],i,E,os,R=>⟨E,rfl,by simpa[Ji]using R,by simpa[Ji]using Evo.refl E os⟩
 |(dst,d,none)::l,i,E,os,R=>by simp only[Ji];exact ZJq l (i+1) R
 |(dst,d,some ob)::l,i,E,os,R=>by
  obtain⟨R1,e1⟩:=R.push E.w .dead (0,undef) (Kept.refl _ _) (λb hb=>by cases hb) (λ_=>trivial);obtain⟨E',h1,h2,h3⟩:=ZJq l (i+1) R1;refine⟨E',h1,?_,?_⟩
  .simp only[Ji,JV,if_false];rw[Yw]at h2;exact h2
  .simp only[Ji,JV,if_false];rw[Yw]at h3;exact e1.trans h3
theorem ZI0(l:Array Bool)(i j:Nat)(hi:i<l.size):(l.setIfInBounds i true).getD j false=(l.getD j false||decide (j=i)):=by
 rw[ZD0,ZD0,ZWV];by_cases h:i=j
 .subst h;simp[hi]
 .have h2: ¬j=i:=λe=>h e.symm
  simp[h,h2]
section
variable {P:Program} {S:Tabs} {c:Ctx} {n:Nat} {Q:Exit->Act->World->Prop} {ops:Array Oper} {il:List IOp} {k:Nat} {rs:W0} {E0:Env} {os0:J7}
theorem ZJt{listed:Array Bool}(hsz:listed.size=ops.size){i:Nat}:i∈Region.ready .any ops listed↔listed.getD i false=false/\ ∃o,ops.toList[i]? =some o/\ ∀j∈aft o,listed.getD j false=true:=by
 rw[mem_ready];constructor
 .rintro⟨h1,o,ho,h2⟩;have hi:i<listed.size:=by rw[hsz];exact(ξH ho).1
  refine⟨?_,o,Gw,λj hj=> ?_⟩
  .simpa[ZD0,hi]using h1
  .obtain⟨e,he,rfl⟩:=YR.1 hj;have:=ZWh.1 he;exact h2 e (by simpa using this.1) this.2
 .rintro⟨h1,o,ho,h2⟩;have ho':ops[i]? =some o:=Gw
  have hi:i<listed.size:=by rw[hsz];exact(ξH ho').1
  refine⟨by simpa[ZD0,hi]using h1,o,ho',λe he hb=>h2 e.on (YR.2 ⟨e,ZWh.2 ⟨by simpa using he,hb⟩,rfl⟩)⟩
theorem Zff{i:Nat}{o:Oper}(ho:ops.toList[i]? =some o){K:Act->World->Prop}{a:Act}{w:World}(h:if Region.wanted o (yielded ops a.tmps)then o.wp P a w K Q else K (a.put o.dst undef) w):wpOp P ops Q i K a w:=by
 unfold wpOp;have ho':ops[i]? =some o:=Gw
 rw[ho'];simp only;split
 .rename_i hw;rw[if_pos hw]at h;exact .inl h
 .rename_i hw;rw[if_neg hw]at h;exact h
theorem Zai{k:Nat}{f:Nat->Bool}(h: ∃j,j<k/\f j=false): ∃j,(j<k/\f j=false)/\ ∀i,i<j->f i=true:=by
 obtain⟨j,hj⟩:=h
 induction j using Nat.strongRecOn with
 |_ j ihj=>
  by_cases h: ∃i,i<j/\f i=false
  .obtain⟨i,hi,hi2⟩:=h;exact ihj i hi ⟨J0,hi2⟩
  .exact⟨j,hj,λi hi=>by
    cases hb:f i with
    |true=>rfl
    |false=>exact absurd ⟨i,hi,hb⟩ h⟩
def QF(os0:J7)(F:List Rec)(G:Bool->List (Option J7))(L:Nat)(dn:Nat->Bool):J7:=Zq (G (dn L)) dn 0 (os0++Ji F dn 0)
theorem ZLv: ∀(F:List Rec) (dn dn':Nat->Bool) (i:Nat),(∀(j:Nat) (t:Option Nat) (d:D) (x:Ob),F[j]? =some (t,d,some x)->dn (i+j)=dn' (i+j))->Ji F dn i=Ji F dn' i
 | [],_,_,_,_=>rfl
 |(dst,d,none)::l,dn,dn',i,h=>by
  simp only[Ji];exact ZLv l dn dn' (i+1) (λj t d x hj=>N9)
 |(dst,d,some ob)::l,dn,dn',i,h=>by
  simp only[Ji];have h0:=h 0 _ _ _ rfl;rw[JP]at h0;rw[h0,ZLv l dn dn' (i+1) (λj t d x hj=>N9)]
theorem ZJW{p:Nat}{x:Ob}: ∀(G0 G1:List (Option J7)) (dn dn':Nat->Bool) (i:Nat) (b0 b1:J7),G0.length=G1.length->(∀j:Nat,G0[j]? =some none->G1[j]? =some none)->(∀(j:Nat) (s:J7),G0[j]? =some (some s)->dn (i+j)=dn' (i+j)/\ ∃s1,G1[j]? =some (some s1)/\(dn (i+j)=true->s[p]? =some .dead/\s1=s.set p x))->b0[p]? =some .dead->b1=b0.set p x->(Zq G0 dn i b0)[p]? =some .dead/\Zq G1 dn' i b1=(Zq G0 dn i b0).set p x
 | [],G1,dn,dn',i,b0,b1,hl,_,_,h0,h1=>by cases G1<;>simp at hl;exact⟨h0,h1⟩
 |g::l,[],_,_,_,_,_,hl,_,_,_,_=>by simp at hl
 |none::l,g1::l1,dn,dn',i,b0,b1,hl,hn,hs,h0,h1=>by
  have:=hn 0 rfl;simp at this;subst this;simp only[Zq];exact ZJW l l1 dn dn' (i+1) b0 b1 Us (λj hj=>by simpa using hn (j+1) WX) (λj s hj=>Nr) h0 h1
 |some y::l,g1::l1,dn,dn',i,b0,b1,hl,hn,hs,h0,h1=>by
  obtain⟨e,y1,hy,hy1⟩:=hs 0 y rfl;simp at hy;subst hy;rw[JP]at e hy1;simp only[Zq,<-e];refine ZJW l l1 dn dn' (i+1) _ _ Us (λj hj=>by simpa using hn (j+1) WX) (λj s hj=>Nr) ?_ ?_
  .split
   .rename_i hd;exact(hy1 hd).1
   .exact h0
  .split
   .rename_i hd;exact(hy1 hd).2
   .exact h1
inductive StepL (S:Tabs) (os0:J7) (k:Nat) (rs:W0) (L:Nat) (F:List Rec) (G:Bool->List (Option J7)) (φ:J4) (i:Nat) (io:IOp):D->Option Ob->Option (Bool->J7)->Prop
 |frame {d:D} (hf:io.e.frame=true) (h:Yd S φ [] io=some (true,d)):StepL S os0 k rs L F G φ i io d none none
 |look {d:D} (hf:Zi i rs=true) (h:Yd S φ os0 io=some (true,d)):StepL S os0 k rs L F G φ i io d none none
 |read {d:D} (hf:io.ex rs i=false) (hk:i<k) (h:Yd S φ os0 io=some (true,d)):StepL S os0 k rs L F G φ i io d none none
 |near {d:D} (hf:io.ex rs i=false) (hk:i<k) (h:ZFY φ (os0++Ya (F.take i)) io=some (true,d)):StepL S os0 k rs L F G φ i io d none none
 |make {d:D} {x:Ob} (hf:io.ex rs i=false) (hk:i<k) (h:QB S φ os0 (os0.length+Yx F i) io=some (true,d,x)):StepL S os0 k rs L F G φ i io d (some x) none
 |late {d:D} {x:Ob} (hf:io.ex rs i=false) (hi:i=L) (h:QB S φ [] (os0.length+Yx F i) io=some (true,d,x)):StepL S os0 k rs L F G φ i io d (some x) none
 |turn {d:D} {s:Bool->J7} (hf:io.ex rs i=false) (hk:k<=i) (h: ∀b,(L<i->b=true)->KN S φ (Zq ((G b).take i) (λ_=>true) 0 (os0++Ji F (λj=>b|| !decide (j=L)) 0)) io=some (true,d,s b)) (hs:i<L-> ∀(t:Option Nat) (d0:D) (x:Ob),F[L]? =some (t,d0,some x)->(s false)[os0.length+Yx F L]? =some .dead/\s true=(s false).set (os0.length+Yx F L) x):StepL S os0 k rs L F G φ i io d none (some s)
structure RunL (S:Tabs) (os0:J7) (k:Nat) (rs:W0) (L:Nat) (φ0:J4) (il:List IOp) (F:List Rec) (G:Bool->List (Option J7)):Prop where
 lf:F.length=il.length
 lg: ∀b,(G b).length=il.length
 at_: ∀(q:Nat) (io:IOp),il[q]? =some io-> ∃d x s,F[q]? =some (io.dst,d,x)/\(∀b,(G b)[q]? =some (s.map λg=>g b))/\StepL S os0 k rs L F G (YY φ0 (F.take q)) q io d x s
 lm:L<il.length-> ∃t d x,F[L]? =some (t,d,some x)
 gc:il.length<=L-> ∀b,G b=G true
theorem ZHR: ∀(F:List Rec) (m:Nat),(∀(j:Nat) (t:Option Nat) (d:D) (x:Ob),F[j]? =some (t,d,some x)->j<m)->Ya (F.take m)=Ya F
 | [],m,_=>by simp[Ya]
 |(dst,d,none)::l,0,h=>by
  have:=ZHR l 0 (λj t d x hj=>by have:=h (j+1) t d x WX;omega);simp only[ZB6,Ya]at this|-;exact this
 |(dst,d,some ob)::l,0,h=>by have:=h 0 _ _ _ rfl;omega
 |(dst,d,none)::l,m+1,h=>by
  simp only[Qy,Ya];exact ZHR l m (λj t d x hj=>by have:=h (j+1) t d x WX;omega)
 |(dst,d,some ob)::l,m+1,h=>by
  simp only[Qy,Ya];rw[ZHR l m (λj t d x hj=>by have:=h (j+1) t d x WX;omega)]
theorem ZGN: ∀(G:List (Option J7)) (m i:Nat) (b:J7),Zq G (λj=>decide (j<i+m)) i b=Zq (G.take m) (λ_=>true) i b
 | [],m,i,b=>by simp[Zq]
 |g::l,0,i,b=>by
  simp only[ZB6,Zq,JP];exact ZBL _ _ _ _ (λj x _=>J1)
 |none::l,m+1,i,b=>by
  simp only[Qy,Zq];rw[<-ZGN l m (i+1) b];exact ZAm l _ _ _ _ (λj x _=>by congr 1;simp;omega)
 |some x::l,m+1,i,b=>by
  have:decide (i<i+(m+1))=true:=TC
  simp only[Qy,Zq,this,if_true];rw[<-ZGN l m (i+1) x];exact ZAm l _ _ _ _ (λj x _=>by congr 1;simp;omega)
theorem ZaU{φ:J4}{os:J7}{o:IOp}{d:D}(h:ZFY φ os o=some (true,d)):
  ∃u id ext off len rs,o.g=none/\o.e= .b2s (.t u)/\Go.Ab.get φ u= .ref id ext off len/\Zy os (.ref id ext off len)=some rs/\rs.all ZFh=true/\d= .x (.str (rs.map ZFI)):=by
 unfold ZFY at h;split at h
 .rename_i u hg he;split at h
  .rename_i id ext off len hx;obtain⟨rs,h1,h2⟩:=Za h;simp only[YN]at h2;exact⟨u,id,ext,off,len,rs,hg,he,hx,h1,h2.1,h2.2.symm⟩
  .cases h
 .cases h
theorem ZYp{os os':J7}{id ext off len:Nat}{r:J6}(h:os'[id]? =os[id]?)(hr:Zy os (.ref id ext off len)=some r):Zy os' (.ref id ext off len)=some r:=by
 simp only[Zy]at hr|-;rw[h];exact hr
theorem ZTo: ∀(F:List Rec) (dn:Nat->Bool) (i p:Nat) (x:Ob),(Ji F dn i)[p]? =some x->x= .dead\/(Ya F)[p]? =some x
 | [],_,_,p,x,h=>by simp[Ji]at h
 |(dst,d,none)::l,dn,i,p,x,h=>by simp only[Ji]at h;simp only[Ya];exact ZTo l dn (i+1) p x h
 |(dst,d,some ob)::l,dn,i,p,x,h=>by
  simp only[Ji]at h;simp only[Ya];cases p with
  |zero=>
   simp at h;split at h
   .exact .inr (by simp[h])
   .exact .inl h.symm
  |succ p=>exact ZTo l dn (i+1) p x WJ
theorem ZMd: ∀(F:List Rec) (m p:Nat) (x:Ob),(Ya (F.take m))[p]? =some x->(Ya F)[p]? =some x
 | [],m,p,x,h=>by simp[Ya]at h
 |r::l,0,p,x,h=>by simp[Ya]at h
 |(dst,d,none)::l,m+1,p,x,h=>by
  simp only[Qy,Ya]at h|-;exact ZMd l m p x h
 |(dst,d,some ob)::l,m+1,p,x,h=>by
  simp only[Qy,Ya]at h|-;cases p with
  |zero=>simpa using h
  |succ p=>exact ZMd l m p x WJ
theorem ZcH{L:Nat}(hS:SsOk P S)(D0:Draw ops.toList il k rs L)(hcomp:ops.toList.mapM (JC P n ops)=some il){φ0:J4}{F:List Rec}{G:Bool->List (Option J7)}(hrun:RunL S os0 k rs L φ0 il F G)(hL: ∀(i:Nat) (io:IOp) (d:D),il[i]? =some io->Zi i rs=true->i<F.length->Yd S (YY φ0 (F.take i)) os0 io=some (true,d)-> ∀dn:Nat->Bool,(∃Y,QF os0 F G L dn=os0++Y)\/Yd S (YY φ0 (F.take i)) (QF os0 F G L dn) io=some (true,d))
  (hQ: ∀E' a',Rel c E' (Zq (G true) (λ_=>true) 0 (os0++Ya F))->Evo E0 os0 E' (Zq (G true) (λ_=>true) 0 (os0++Ya F))->Fr n E' (Zq (G true) (λ_=>true) 0 (os0++Ya F)) (YY φ0 F) a'->Q .normal a' E'.w):
  ∀(fuel:Nat) (listed:Array Bool) (a:Act) (E:Env),listed.size=ops.size->ZNP ops.toList (λj=>listed.getD j false)->(List.range ops.size).countP (λj=> !listed.getD j false)<=fuel->
   Rel c E (QF os0 F G L (λj=>listed.getD j false))->Evo E0 os0 E (QF os0 F G L (λj=>listed.getD j false))->a.tmps.size=n->a.defers= []->(∀t,V E (QF os0 F G L (λj=>listed.getD j false)) (look F (λj=>listed.getD j false) 0 (Go.Ab.get φ0 t) t) (a.tmps.getD t undef))->
   wpAny P .any ops Q fuel listed a E.w:=by
 obtain⟨hlen,hat⟩:=ZD2 hcomp;simp only[Qw]at hlen;obtain⟨hFl,hGl,hF,hLm,hGc⟩:=hrun;have rec_of: ∀(j:Nat) (r:Rec),F[j]? =some r-> ∃y,il[j]? =some y/\y.dst=r.1:=by
  intro j r hj;have hjl:=(ZV hj).1;have hy:il[j]? =some (il[j]' J0):=Zx _;obtain⟨d,x,s,h1,_⟩:=hF j _ hy;rw[hj]at h1;cases h1;exact⟨_,hy,rfl⟩
 have st_of: ∀(b:Bool) (j:Nat) (x:J7),(G b)[j]? =some (some x)-> ∃(y:IOp) (g:Bool->J7),il[j]? =some y/\y.ex rs j=false/\k<=j/\j≠L/\(∀b,(G b)[j]? =some (some (g b)))/\(j<L-> ∀(t:Option Nat) (d0:D) (x:Ob),F[L]? =some (t,d0,some x)->(g false)[os0.length+Yx F L]? =some .dead/\g true=(g false).set (os0.length+Yx F L) x):=by
  intro b j x hj;have hjl:=(ZV hj).1;have hy:il[j]? =some (il[j]'(by have:=hGl b;omega)):=Zx _;obtain⟨d,x',s,h1,h2,h3⟩:=hF j _ hy;have h4:=h2 b;rw[hj]at h4;cases h3 with
  |turn hf hk h hs=>
   refine⟨_,_,hy,hf,hk,λe=> ?_,h2,hs⟩;subst e;obtain⟨t,d',x'',h5⟩:=hLm (by have:=hGl b;omega);rw[h1]at h5;cases h5
  |_=>simp at h4
 have mk_of: ∀(j:Nat) (t:Option Nat) (d:D) (x:Ob),F[j]? =some (t,d,some x)-> ∃y,il[j]? =some y/\y.ex rs j=false/\(j<k\/j=L):=by
  intro j t d x hj;have hjl:=(ZV hj).1;have hy:il[j]? =some (il[j]' J0):=Zx _;obtain⟨d',x',s,h1,_,h3⟩:=hF j _ hy;rw[hj]at h1;cases h1;cases h3 with
  |make hf hk h=>exact⟨_,hy,hf,.inl hk⟩
  |late hf hi h=>exact⟨_,hy,hf,.inr hi⟩
 have oper_of: ∀j,j<ops.size-> ∃o,ops.toList[j]? =some o:=λj hj=>⟨ops[j],by simp[hj]⟩
 have fin: ∀(listed:Array Bool) (a:Act) (E:Env),listed.size=ops.size->Rel c E (QF os0 F G L (λj=>listed.getD j false))->Evo E0 os0 E (QF os0 F G L (λj=>listed.getD j false))->a.tmps.size=n->a.defers= []->(∀t,V E (QF os0 F G L (λj=>listed.getD j false)) (look F (λj=>listed.getD j false) 0 (Go.Ab.get φ0 t) t) (a.tmps.getD t undef))->
   (Region.ready .any ops listed= []->Q .normal a E.w):=by
  intro listed a E hsz R ev h1 h2 h3 hr;have all: ∀j,j<ops.size->listed.getD j false=true:=by
   intro j hj;cases hb:listed.getD j false with
   |true=>rfl
   |false=>
    exfalso;obtain⟨j0,⟨hj0,hj1⟩,hj2⟩:=Zai (k:=ops.size) (f:=λj=>listed.getD j false) ⟨j,hj,hb⟩;have:j0∈Region.ready .any ops listed:=(ZJt hsz).2 ⟨hj1,ops[j0]' J0,J1,λj hj=>hj2 j (D0.back j0 _ J1 j hj)⟩;rw[hr]at this;cases this
  have e1:QF os0 F G L (λj=>listed.getD j false)=Zq (G true) (λ_=>true) 0 (os0++Ya F):=by
   unfold QF;have hG:G (listed.getD L false)=G true:=by
    by_cases hl:L<ops.size
    .rw[all L hl]
    .exact hGc J0 _
   rw[hG,ZIF F _ 0 (λj r hj=>by rw[Je];exact all j (by have:=(ZV hj).1;omega))];exact ZAm _ _ _ _ _ (λj x hj=>by rw[Je];exact all j (by have:=(ZV hj).1;have:=hGl true;omega))
  rw[e1]at R ev h3;refine hQ E a R ev ⟨h1,h2,λt=> ?_⟩;have:=ZMc F φ0 F.length 0 t;rw[JX]at this;rw[this];have e:look F (λj=>decide (j<0+F.length)) 0 (Go.Ab.get φ0 t) t=look F (λj=>listed.getD j false) 0 (Go.Ab.get φ0 t) t:=ZDH F _ _ _ _ _ (λj d o hj=>by
   have hjl:=(ZV hj).1;simp only[Je,hjl,decide_true,all j J0])
  rw[e];exact h3 t
 intro fuel
 induction fuel with
 |zero=>
  intro listed a E hsz hcl hfu R ev h1 h2 h3;have hr:Region.ready .any ops listed= []:=by
   apply Zal.2;intro i hi;obtain⟨g1,o,ho,_⟩:=(ZJt hsz).1 hi;have hlt:i<ops.size:=by have:=(ZV ho).1;exact V4
   have h0:(List.range ops.size).countP (λj=> !listed.getD j false)=0:=Wl
   have:=List.countP_eq_zero.1 h0 i (ZE4.2 hlt);rw[g1]at this;simp at this
  exact⟨hr,fin listed a E hsz R ev h1 h2 h3 hr⟩
 |succ fuel ih=>
  intro listed a E hsz hcl hfu R ev h1 h2 h3;refine⟨fin listed a E hsz R ev h1 h2 h3,λi hi=> ?_⟩;obtain⟨g1,o,ho,g2⟩:=(ZJt hsz).1 hi;have hlt:i<ops.size:=by have:=(ZV ho).1;exact V4
  have hil:il[i]? =some (il[i]' J0):=Zx _;have hio:=hat i o _ ho hil;obtain⟨d,x,s,hFi,hGi,hst⟩:=hF i _ hil;generalize hioe:il[i]' J0=io at*;have hlook: ∀t∈io.reads,Go.Ab.get (YY φ0 (F.take i)) t=look F (λj=>listed.getD j false) 0 (Go.Ab.get φ0 t) t:=by
   intro t ht;rw[ZMc F φ0 i 0 t];refine ZDH F _ _ _ _ _ (λj d' o' hj=> ?_);obtain⟨y,hy,hyd⟩:=rec_of j _ hj;have hjl:j<ops.size:=by have:=(ZV hy).1;omega
   obtain⟨p,hp⟩:=oper_of j hjl;simp only[Je];rcases D0.reads i j io y t o p hil hy ho hp ht hyd with⟨w1,w2⟩|⟨w1,w2⟩
   .rw[g2 j w2];simpa using w1
   .have:listed.getD j false=false:=by
     cases hb:listed.getD j false with
     |false=>rfl
     |true=>
      have h9:listed.getD i false=true:=hcl j _ hp hb i w2;rw[g1]at h9;cases h9
    rw[this];simp;omega
  let φs:J4:=io.reads.map λt=>(t,look F (λj=>listed.getD j false) 0 (Go.Ab.get φ0 t) t)
  have hget: ∀t,Go.Ab.get φs t=look F (λj=>listed.getD j false) 0 (Go.Ab.get φ0 t) t\/(Go.Ab.get φs t= .und/\t∉io.reads):=by
   intro t;have key: ∀l:W0,Go.Ab.get (l.map λt=>(t,look F (λj=>listed.getD j false) 0 (Go.Ab.get φ0 t) t)) t=if t∈l then look F (λj=>listed.getD j false) 0 (Go.Ab.get φ0 t) t else .und:=by
    intro l
    induction l with
    |nil=>rfl
    |cons u l ihl=>
     simp only[YM,Go.Ab.get,Kn];by_cases hu:u=t
     .subst hu;simp
     .have: ¬t=u:=λe=>hu e.symm
      simp only[hu,if_false,ihl,this,false_or]
   rw[key io.reads];by_cases ht:t∈io.reads
   .rw[if_pos ht];exact .inl rfl
   .rw[if_neg ht];exact .inr ⟨rfl,ht⟩
  have hfs:Fr n E (QF os0 F G L (λj=>listed.getD j false)) φs a:=⟨h1,h2,λt=>by
   rcases hget t with h|⟨h,_⟩<;>rw[h]
   .exact h3 t
   .exact .und _⟩
  have hagree: ∀t∈io.reads,Go.Ab.get φs t=Go.Ab.get (YY φ0 (F.take i)) t:=λt ht=>by
   rw[hlook t ht];rcases hget t with h|⟨_,h⟩
   .exact h
   .exact absurd ht h
  have hdst:io.dst=o.dst/\(o.dst.all λt=>decide (t<n))=true:=by
   simp only[JC,YF]at hio;obtain⟨e,he,hc⟩:=hio;split at hc
   .rename_i hd;split at hc
    .cases hc;exact⟨rfl,hd⟩
    .obtain⟨s,_,hc⟩:=Za hc;cases hc;exact⟨rfl,hd⟩
   .cases hc
  have huniq: ∀(j u:Nat) (d':D) (o':Option Ob),F[j]? =some (some u,d',o')->io.dst=some u->j=i:=by
   intro j u d' o' hj hd;obtain⟨y,hy,hyd⟩:=rec_of j _ hj;exact(D0.own i j io y u hil hy hd hyd).symm
  have hnext:(λj=>(listed.setIfInBounds i true).getD j false)=λj=>listed.getD j false||decide (j=0+i):=by
   funext j;rw[ZI0 _ _ _ J0,Je]
  have step: ∀(v:Value) (E':Env) (os':J7),os'=QF os0 F G L (λj=>(listed.setIfInBounds i true).getD j false)->Rel c E' os'->Evo E (QF os0 F G L (λj=>listed.getD j false)) E' os'->V E' os' d v->
    wpAny P .any ops Q fuel (listed.setIfInBounds i true) (a.put o.dst v) E'.w:=by
   intro v E' os' hos R' e' hv;subst hos;refine ih _ _ E' (by simp[hsz]) ?_ ?_ R' (ev.trans e') ?_ (by cases hd:o.dst<;>simp[Act.put,h2]) (λt=> ?_)
   .intro q p hp hq j hj;show(listed.setIfInBounds i true).getD j false=true
    replace hq:(listed.setIfInBounds i true).getD q false=true:=hq
    rw[ZI0 _ _ _ J0]at hq|-;by_cases hqi:q=i
    .subst hqi;rw[ho]at hp;cases hp;rw[g2 j hj];rfl
    .simp only[hqi,decide_false,ZD3]at hq;have h9:listed.getD j false=true:=hcl q p hp hq j hj;rw[h9];rfl
   .have hlt':(List.range ops.size).countP (λj=> !(listed.setIfInBounds i true).getD j false)<(List.range ops.size).countP (λj=> !listed.getD j false):=
     ZQh (ZE4.2 hlt) (by rw[g1];rfl) (by rw[ZI0 _ _ _ J0];simp) (λj hj=>by
      rw[ZI0 _ _ _ J0]at hj;simp only[Bool.not_or,Zk]at hj;exact hj.1)
    omega
   .cases hd:o.dst with
    |none=>exact h1
    |some t=>simp[Act.put,h1]
   .rw[hnext,ZSH F _ 0 _ i io.dst d x t hFi huniq,<-hnext];by_cases ht:io.dst=some t
    .rw[if_pos ht];rw[<-hdst.1,ht];have:(a.put (some t) v).tmps.getD t undef=v:=by
      have hb:t<n:=by have:=hdst.2;rw[<-hdst.1,ht]at this;exact V4
      simp[Act.put,ZD0,h1,hb]
     rw[this];exact hv
    .rw[if_neg ht];have:(a.put o.dst v).tmps.getD t undef=a.tmps.getD t undef:=by
      rw[<-hdst.1];cases hd:io.dst with
      |none=>rfl
      |some u=>
       have hne:u≠t:=λe=>ht (by rw[hd,e])
       simp[Act.put,ZD0,hne]
     rw[this];exact(h3 t).mono e'
  refine Zff ho ?_;have later:io.ex rs i=false-> ∀(b:Bool) (j:Nat) (x':J7),i<j->(G b)[j]? =some (some x')->listed.getD j false=false:=by
   intro hf b j x' hij hj;obtain⟨y,_,hy,hyf,hkj,hjL,_⟩:=st_of b j x' hj;have hjl:j<ops.size:=by have:=(ZV hy).1;omega
   obtain⟨p,hp⟩:=oper_of j hjl;cases hb:listed.getD j false with
   |false=>rfl
   |true=>
    have h9:listed.getD i false=true:=D0.tail j p y hkj hp hy hyf hjL _ hcl (hcl j p hp hb) i io hij hil hf;rw[g1]at h9;cases h9
  have quiet:F[i]? =some (io.dst,d,none)->(∀b,(G b)[i]? =some none)->QF os0 F G L (λj=>(listed.setIfInBounds i true).getD j false)=QF os0 F G L (λj=>listed.getD j false):=by
   intro hFi hGi;have hiL:i≠L:=λe=>by
    subst e;obtain⟨t,d',x',h5⟩:=hLm J0;rw[hFi]at h5;cases h5
   unfold QF;rw[hnext,ZPf F _ 0 i io.dst d hFi];have e:(listed.getD L false||decide (L=0+i))=listed.getD L false:=W3
   simp only[e];refine ZAm _ _ _ _ _ (λj x' hj=> ?_);have:j≠i:=λe=>by subst e;rw[hGi]at hj;cases hj
   simp[this]
  have no:io.ex rs i=false->i<k-> ∀(b:Bool) (j:Nat) (x':J7),(G b)[j]? =some (some x')->listed.getD j false=false:=λhf hk b j x' hj=>by
   obtain⟨_,_,_,_,hkj,_⟩:=st_of b j x' hj;exact later hf b j x' J0 hj
  have hobq:io.ex rs i=false->i<k->QF os0 F G L (λj=>listed.getD j false)=os0++Ji F (λj=>listed.getD j false) 0:=λhf hk=>ZBL _ _ 0 _ (λj x' hj=>by rw[Je];exact no hf hk _ j x' hj)
  cases hst with
  |frame hf hq=>
   have hos:=quiet hFi hGi;rw[<-ZHY S [] hagree]at hq;exact ZKB (os:= []) (Y:=QF os0 F G L (λj=>listed.getD j false)) hS R hfs hio hq (λv E' R' e' hv=>step v E' _ hos.symm R' e' hv)
  |look hf hq=>
   have hos:=quiet hFi hGi;rcases hL i io d hil hf J0 hq (λj=>listed.getD j false)with⟨Y,hob⟩|hq2
   .rw[<-ZHY S os0 hagree]at hq;rw[hob]at R hfs;exact ZKB hS R hfs hio hq (λv E' R' e' hv=>step v E' _ (by rw[hos,hob]) R' (by rw[hob];exact e') hv)
   .rw[<-ZHY S _ hagree]at hq2;exact ZKB (os:=QF os0 F G L (λj=>listed.getD j false)) (Y:= []) hS (by rw[Ks];exact R) (by rw[Ks];exact hfs) hio hq2 (λv E' R' e' hv=>step v E' _ (by rw[hos,Ks]) R' (by rw[Ks]at e'|-;exact e') hv)
  |read hf hk hq=>
   have hob:=hobq hf hk;have hos:=quiet hFi hGi;rw[<-ZHY S os0 hagree]at hq;rw[hob]at R hfs;exact ZKB hS R hfs hio hq (λv E' R' e' hv=>step v E' _ (by rw[hos,hob]) R' (by rw[hob];exact e') hv)
  |near hf hk hq=>
   have hob:=hobq hf hk;have hos:=quiet hFi hGi;obtain⟨u,id,ext,off,len,rs',hg,he,hx,hr,hb,rfl⟩:=ZaU hq;have hx':Go.Ab.get φs u= .ref id ext off len:=by
    rw[<-hx];exact hagree u (by simp[IOp.reads,he,IE.reads,IO.reads])
   have hv:=hfs.slot u;rw[hx']at hv;have hr':Zy (QF os0 F G L (λj=>listed.getD j false)) (.ref id ext off len)=some rs':=by
    cases hv with
    |ref h1 h2=>
     obtain⟨o',sz',rs2,k1,k2,k3⟩:=h1;rw[hob]at k1|-;refine ZYp ?_ hr;by_cases hid:id<os0.length
     .rw[Yc hid,Yc hid]
     .rw[QL J0]at k1|-;rw[QL J0];have hsome: ∃ob,(Ya (F.take i))[id-os0.length]? =some ob:=by
       cases hc:(Ya (F.take i))[id-os0.length]? with
       |some ob=>exact⟨ob,rfl⟩
       |none=>
        simp only[Zy]at hr;rw[QL J0,hc]at hr;cases hr
      obtain⟨ob,hob'⟩:=hsome;rw[hob',k1];rcases ZTo F (λj=>listed.getD j false) 0 _ _ k1 with h|h
      .subst h;cases k2
      .rw[ZMd F i _ _ hob']at h;exact h.symm
   have hq2:Yd S φs (QF os0 F G L (λj=>listed.getD j false)) io=some (true,.x (.str (rs'.map ZFI))):=by
    simp only[Yd,hg,he,KD,ZS,ZG,hx',D.val,D.cond,hr',Yr,hb,Qh]
   exact ZKB (os:=QF os0 F G L (λj=>listed.getD j false)) (Y:= []) hS (by rw[Ks];exact R) (by rw[Ks];exact hfs) hio hq2 (λv E' R' e' hv=>step v E' _ (by rw[hos,Ks]) R' (by rw[Ks]at e'|-;exact e') hv)
  |make hf hk hq=>
   rename_i ob';have hob:=hobq hf hk;obtain⟨m1,m2⟩:=ZMA F (λj=>listed.getD j false) 0 i io.dst d ob' hFi (by simpa using g1);have hos:QF os0 F G L (λj=>(listed.setIfInBounds i true).getD j false)=(os0++Ji F (λj=>listed.getD j false) 0).set (os0.length+Yx F i) ob':=by
    unfold QF;rw[hnext,m2,ZDS _ _ J0,ZMq];refine ZBL _ _ 0 _ (λj x' hj=> ?_);have:j≠i:=λe=>by subst e;rw[hGi]at hj;cases hj
    simp only[Je,no hf hk _ j x' hj,this,decide_false,ZD3]
   rw[<-ZQf S os0 _ hagree]at hq;rw[hob]at R hfs;refine ZY9 hS R hfs hio (id:=os0.length+Yx F i) ?_ hq (λv E' R' e' hv=>step v E' _ hos.symm R' (by rw[hob];exact e') hv);rw[QL J0,ZMq];exact m1
  |late hf hi hq=>
   subst hi;rename_i ob';obtain⟨m1,m2⟩:=ZMA F (λj=>listed.getD j false) 0 i io.dst d ob' hFi (by simpa using g1);have key:=ZJW (p:=os0.length+Yx F i) (x:=ob') (G false) (G true) (λj=>listed.getD j false) (λj=>listed.getD j false||decide (j=0+i)) 0 (os0++Ji F (λj=>listed.getD j false) 0) (os0++Ji F (λj=>listed.getD j false||decide (j=0+i)) 0) (by rw[hGl,hGl]) (λj hj=>by
     have hjl:=(ZV hj).1;have hy:il[j]? =some (il[j]'(by have:=hGl false;omega)):=Zx _;obtain⟨_,_,s',_,h2,_⟩:=hF j _ hy;have h3:=h2 false;rw[hj]at h3;cases s' with
     |none=>exact h2 true
     |some g=>simp at h3) (λj s' hj=>by
     obtain⟨_,g,_,_,_,hjL,h2,h3⟩:=st_of false j s' hj;have h4:=h2 false;rw[hj]at h4;simp at h4;subst h4;refine⟨by simp[hjL],_,h2 true,λhd=> ?_⟩;rw[Je]at hd;rcases ZaW j i with h|h|h
     .exact h3 h _ _ _ hFi
     .exact absurd h hjL
     .have:=later hf false j _ h (h2 false);rw[this]at hd;cases hd) (by rw[QL J0,ZMq];exact m1) (by rw[m2,ZDS _ _ J0,ZMq])
   have hob:QF os0 F G i (λj=>listed.getD j false)=Zq (G false) (λj=>listed.getD j false) 0 (os0++Ji F (λj=>listed.getD j false) 0):=by unfold QF;simp only[g1]
   have hos:QF os0 F G i (λj=>(listed.setIfInBounds i true).getD j false)=(QF os0 F G i (λj=>listed.getD j false)).set (os0.length+Yx F i) ob':=by
    rw[hob,<-key.2,hnext];unfold QF;simp
   rw[<-ZQf S [] _ hagree]at hq;refine ZY9 (os:= []) (Y:=QF os0 F G i (λj=>listed.getD j false)) hS R hfs hio (id:=os0.length+Yx F i) ?_ hq (λv E' R' e' hv=>step v E' _ hos.symm R' e' hv);rw[QW,hob];exact key.1
  |turn hf hk hq hs=>
   rename_i s';have hiL:i≠L:=λe=>by
    subst e;obtain⟨t,d',x',h5⟩:=hLm J0;rw[hFi]at h5;cases h5
   have early: ∀(j:Nat) (y:IOp),j<i->il[j]? =some y->y.ex rs j=false->listed.getD j false=true:=λj y hj hy hyf=>D0.tail i o io hk ho hil hf hiL _ hcl g2 j y hj hy hyf
   have hbL:L<i->listed.getD L false=true:=λh=>by
    obtain⟨t,d',x',h5⟩:=hLm J0;obtain⟨y,hy,hyf,_⟩:=mk_of L t d' x' h5;exact early L y h hy hyf
   have hq:=hq _ hbL;have hcr:Ji F (λj=>listed.getD j false) 0=Ji F (λj=>listed.getD L false|| !decide (j=L)) 0:=ZLv F _ _ 0 (λj t d' x' hj=>by
    obtain⟨y,hy,hyf,hjk⟩:=mk_of j t d' x' hj;rw[Je];by_cases hjL:j=L
    .subst hjL;simp
    .rw[early j y J0 hy hyf];simp[hjL])
   have hob:QF os0 F G L (λj=>listed.getD j false)=Zq ((G (listed.getD L false)).take i) (λ_=>true) 0 (os0++Ji F (λj=>listed.getD L false|| !decide (j=L)) 0):=by
    unfold QF;rw[hcr,<-ZGN _ i 0];refine ZAm _ _ _ _ _ (λj x' hj=> ?_);obtain⟨y,_,hy,hyf,hkj,_⟩:=st_of _ j x' hj;simp only[Je];rcases ZaW j i with h|h|h
    .rw[early j y h hy hyf];simp[h]
    .subst h;rw[g1];simp
    .rw[later hf _ j x' h hj];simp;omega
   have hos:QF os0 F G L (λj=>(listed.setIfInBounds i true).getD j false)=s' (listed.getD L false):=by
    unfold QF;rw[hnext];have e:(listed.getD L false||decide (L=0+i))=listed.getD L false:=W3
    simp only[e];refine ZJL _ _ 0 _ i _ (hGi _) J1 (λj x' hij hj=> ?_);have:j≠i:=Wl
    simp only[Je,later hf _ j x' hij hj,this,decide_false,ZD3]
   rw[<-hob,<-ZZN S _ hagree]at hq;exact Zh1 hS R hfs hio hq (λv E' R' e' hv=>step v E' _ hos.symm R' e' hv)
theorem ZgT{φ0:J4}{F:List Rec}{G:List (Option J7)}(hrun:Kr S os0 k rs 0 φ0 os0.length os0 il=some (true,F,G)):RunL S os0 k rs il.length φ0 il F (λ_=>G):=by
 obtain⟨hFl,hGl,hF⟩:=ZEs hrun;simp only[Je]at hF;have st_of: ∀(j:Nat) (x:J7),G[j]? =some (some x)->k<=j:=by
  intro j x hj;have hjl:=(ZV hj).1;obtain⟨d,x',s,_,h2,h3⟩:=hF j _ (Zx J0);rw[hj]at h2;cases h2;cases h3 with
  |turn hf hk h=>exact hk
 have mk_of: ∀(j:Nat) (t:Option Nat) (d:D) (x:Ob),F[j]? =some (t,d,some x)->j<k:=by
  intro j t d x hj;have hjl:=(ZV hj).1;obtain⟨d',x',s,h1,_,h3⟩:=hF j _ (Zx J0);rw[hj]at h1;cases h1;cases h3 with
  |make hf hk h=>exact hk
 refine⟨hFl,λ_=>hGl,λq io hi=> ?_,λh=>absurd h (ZWU _),λ_ _=>rfl⟩;have hq:=(ZV hi).1;obtain⟨d,x,s,h1,h2,h3⟩:=hF q io hi;refine⟨d,x,s.map λy _=>y,h1,λb=>by rw[h2];cases s<;>rfl,?_⟩;cases h3 with
 |frame hf h=>exact .frame hf h
 |look hf h=>exact .look hf h
 |read hf hk h=>exact .read hf hk h
 |near hf hk h=>
  refine .near hf hk ?_;rw[<-ZGN G q 0]at h;rwa [ZBL G _ 0 _ (λj x' hj=>by have:=st_of j x' hj;simp;omega)]at h
 |make hf hk h=>exact .make hf hk h
 |turn hf hk h=>
  refine .turn hf hk (λb _=> ?_) (λ_ t d0 x0 h5=> ?_)
  .have e1:Ya (F.take q)=Ya F:=ZHR F q (λj t d' x' hj=>by have:=mk_of j t d' x' hj;omega);have e2:Ji F (λj=>b|| !decide (j=il.length)) 0=Ya F:=by
    refine ZIF F _ 0 (λj r hj=> ?_);have h1:=(ZV hj).1;have h2: ¬j=il.length:=Wl
    simp[h2]
   rw[e2,<-e1];exact h
  .have:=(ZV h5).1;omega
theorem ZcF{m:Option W0}{φ0:J4}{F:List Rec}{G:List (Option J7)}(h:ZM2 m rs φ0 os0 il F G=true)(i:Nat)(io:IOp)(d:D)(hil:il[i]? =some io)(hm:Zi i rs=true)(hi:i<F.length)(hq:Yd S (YY φ0 (F.take i)) os0 io=some (true,d))(L:Nat)(dn:Nat->Bool):(∃Y,QF os0 F (λ_=>G) L dn=os0++Y)\/Yd S (YY φ0 (F.take i)) (QF os0 F (λ_=>G) L dn) io=some (true,d):=by
 cases m with
 |none=>
  have hG: ∀(j:Nat) (x:J7),G[j]? =some (some x)-> ∃Y,x=os0++Y:=by
   cases rs with
   |nil=>cases hm
   |cons r rs=>exact ZKg h
  exact .inl (ZJU dn 0 (os0++Ji F dn 0) hG ⟨_,rfl⟩)
 |some kp=>
  simp only[ZM2,Zk]at h;have hb:=ZYi h.1 i io hil hi (by rw[Je];exact hm);refine .inr (ZUU hb hq (λid ds hex hid=> ?_) (λi hi o hid=> ?_))
  .unfold QF;refine ZFs _ 0 _ (λj x hj=>(ZFZ (ZHc h.2 j x hj)).1 id ds hex hid) ?_;rw[Yc (ZV hid).1];exact hid
  .unfold QF;refine ZFs _ 0 _ (λj x hj=>(ZFZ (ZHc h.2 j x hj)).2 i hi o hid) ?_;rw[Yc (ZV hid).1];exact hid
theorem ZVV{L:Nat}(hm:P.follows .mixedOrders=true)(hS:SsOk P S)(D0:Draw ops.toList il k rs L)(hcomp:ops.toList.mapM (JC P n ops)=some il){id:Nat}{φ0:J4}{F:List Rec}{G:Bool->List (Option J7)}(hrun:RunL S os0 k rs L φ0 il F G)(hL: ∀(i:Nat) (io:IOp) (d:D),il[i]? =some io->Zi i rs=true->i<F.length->Yd S (YY φ0 (F.take i)) os0 io=some (true,d)-> ∀dn:Nat->Bool,(∃Y,QF os0 F G L dn=os0++Y)\/Yd S (YY φ0 (F.take i)) (QF os0 F G L dn) io=some (true,d)){E:Env}{a:Act}(R:Rel c E os0)(hf:Fr n E os0 φ0 a)
  (hQ: ∀E' a',Rel c E' (Zq (G true) (λ_=>true) 0 (os0++Ya F))->Evo E os0 E' (Zq (G true) (λ_=>true) 0 (os0++Ya F))->Fr n E' (Zq (G true) (λ_=>true) 0 (os0++Ya F)) (YY φ0 F) a'->Q .normal a' E'.w):(Code.region id ops true).wp P Q a E.w:=by
 obtain⟨R1,e1⟩:=R.world {E.w with drawn:=E.w.drawn+1} E.st ⟨rfl,rfl,rfl,Zp _,λ_ _ _=>rfl⟩ (λ_ _ h=>h) (λ_ _ h=> .inl h);obtain⟨E2,w2,R2,e2⟩:=ZJq F 0 R1;have hrep:(λj=>(Array.replicate ops.size false).getD j false)=λ_=>false:=by
  funext j;rw[ZD0];by_cases h:j<ops.size<;>simp[h]
 have hob:QF os0 F G L (λ_=>false)=os0++Ji F (λ_=>false) 0:=ZBL _ _ 0 _ (λ_ _ _=>rfl);have hinit:=ZcH (E0:=E) hS D0 hcomp hrun hL hQ ops.size (Array.replicate ops.size false) a E2 J1 (by rw[hrep];intro i o _ h;cases h) (by
  have:=List.countP_le_length (p:=λj=> !(Array.replicate ops.size false).getD j false) (l:=List.range ops.size);simpa using this) (by rw[hrep,hob];exact R2) (by rw[hrep,hob];exact e1.trans e2) hf.size hf.defers (λt=>by
   rw[hrep,hob,ZHG F _ 0 _ t (λj d o _=>rfl)];exact((hf.slot t).mono e1).mono e2)
 refine wp_region_any hm ?_;rw[w2]at hinit;exact hinit
theorem ZVQ(hm:P.follows .mixedOrders=true)(hS:SsOk P S)(hok:ZC8 ops.toList il k rs il.length=true)(hcomp:ops.toList.mapM (JC P n ops)=some il){id:Nat}{φ0 φ2:J4}{os2:J7}{E:Env}{a:Act}(R:Rel c E os0)(hf:Fr n E os0 φ0 a){m:Option W0}(hrun:ZHZ m S φ0 os0 k rs il=some (true,φ2,os2))
  (hQ: ∀E' a',Rel c E' os2->Evo E os0 E' os2->Fr n E' os2 φ2 a'->Q .normal a' E'.w):(Code.region id ops true).wp P Q a E.w:=by
 simp only[ZHZ,Kj]at hrun;obtain⟨⟨ok,F,G⟩,hrun,h3⟩:=hrun;simp at h3;obtain⟨⟨rfl,hpre⟩,rfl,rfl⟩:=h3;exact ZVV hm hS (Draw.of hok) hcomp (ZgT hrun) (λi io d h1 h2 h3 h4 dn=>ZcF hpre i io d h1 h2 h3 h4 _ dn) R hf hQ
end
inductive IC where
 |skip
 |reg (ops:List IOp)
 |dreg (k:Nat) (rs:W0) (k2:Nat) (rs2:W0) (ops:List IOp)
 |seq (a b:IC)
 |cond (x:IO) (a b:IC)
 |block (id:Nat) (b:IC)
 |loop (b:IC)
 |exit (id:Nat)
 |ret
 |scope (b cur:IC)
 |label (l:Nat)
 |goto (l:Nat)
 |dead
def IE.reader:IE->Bool
 | .ld _ _ _=>true
 | .iad _ _ _=>true
 | .iada _ _ _ _=>true
 | .len _ _=>true
 | .eq _ _ _ _=>true
 | .slc _ _ _ _ _=>true
 | .b2s _=>true
 | .mlk _ _ _ _ _=>true
 | .mln _=>true
 |_=>false
def IE.turner:IE->Bool
 | .sto _ _ _=>true
 | .app _ _ _ _ _=>true
 | .apz _ _ _ _ _ _=>true
 | .mup _ _ _ _=>true
 | .mdl _ _ _=>true
 | .men _ _ _ _=>true
 | .est _ _ _=>true
 | .mcl _=>true
 | .cpy _ _ _=>true
 |_=>false
def ZXL(b:Bool)(i c:Nat):Nat->W0->List IOp->Bool
 |j,d::l,o::il=>((o.e.turner||(b&&o.e.isCall))&&(!Nat.testBit c j&& !Nat.testBit d i))||ZXL b i c (j+1) l il
 |_,_,_=>false
def rsG(b:Bool)(C:W0)(il:List IOp):Nat->W0->List IOp->W0
 |i,c::l,o::il'=>if(!o.e.frame&&o.e.reader)&&ZXL b i c 0 C il then i::rsG b C il (i+1) l il' else rsG b C il (i+1) l il'
 |_,_,_=> []
def cutG(rs:W0)(L:Nat):Nat->Nat->Nat->W0->List IOp->Nat
 |i,k,m,c::l,o::il=>cutG rs L (i+1) (if o.ex rs i||(Nat.beq i L||Nat.beq (Nat.land c m) m)then k else i+1) (if o.ex rs i then m else m|||2^i) l il
 |_,k,_,_,_=>k
def ZbH:W0->List IOp->List Bool
 |_,[]=> []
 |mk,o::il=>
  let der:=o.e.reads.any λt=>Zi t mk
  der::ZbH (match o.dst with
   |some d=>if der|| !(o.e.frame||o.e.reader)then d::mk else mk
   |none=>mk) il
def ZZ1(i c:Nat):Nat->W0->List IOp->Bool
 |j,d::l,o::il=>(!o.e.frame&&(!Nat.beq i j&&(!Nat.testBit c j&& !Nat.testBit d i)))||ZZ1 i c (j+1) l il
 |_,_,_=>false
def ZVx(C:W0)(il:List IOp):Nat->W0->List Bool->List IOp->W0
 |i,c::l,d::dl,o::il'=>if(!o.e.frame&&o.e.reader)&&(!d&&ZZ1 i c 0 C il)then i::ZVx C il (i+1) l dl il' else ZVx C il (i+1) l dl il'
 |_,_,_,_=> []
def ZdO(il:List IOp):Bool:=(il.any λo=>o.g.isSome&&match o.e with
 | .bsl _ _ _ _=>true
 |_=>false)&& !(il.any λo=>o.e.turner)
def ZW9(C:W0)(il:List IOp):Nat->W0->List IOp->Nat
 |i,c::l,o::il'=>if(o.g.isNone&&match o.e with
  | .box _=>true
  |_=>false)&&ZXL true i c 0 C il then i else ZW9 C il (i+1) l il'
 |_,_,_=>1000
def ZKX(ops:List Oper)(il:List IOp)(k:Nat)(rs:W0):Bool:=Nat.blt k 1000||ZC8 ops il (k % 1000) rs (k/1000-1)
def ZRg(P:Program)(ops:List Oper)(il:List IOp)(k:Nat)(rs:W0)(k2:Nat)(rs2:W0):Option (Nat×List Nat×Nat×List Nat×List IOp):=
 if P.follows .mixedOrders=true/\ZC8 ops il k rs il.length=true/\Nat.blt k 1000=true then if ZC8 ops il k2 rs2 il.length=true/\ZKX ops il k2 rs2=true then some (k,rs,k2,rs2,il)else some (k,rs,k,rs,il)else none
def ZPQ(P:Program)(ops:Array Oper)(il:List IOp):Option (Nat×List Nat×Nat×List Nat×List IOp):=
 let C:=ZAe [] ops.toList
 let rs:=if ZdO il=true then ZVx C il 0 C (ZbH [] il) il else rsG false C il 0 C il
 let cl:=il.any (λo=>o.e.isCall)
 let rs2:=if cl=true then rsG true C il 0 C il else rs
 let L:=if cl=true then ZW9 C il 0 C il else 1000
 let k2:=cutG rs2 L 0 0 0 C il
 ZRg P ops.toList il (cutG rs 1000 0 0 0 C il) rs (if Nat.blt L 1000=true then k2+1000*(L+1)else k2) rs2
theorem ZRD{P:Program}{ops:Array Oper}{il l:List IOp}{k k2:Nat}{rs rs2:W0}(h:ZPQ P ops il=some (k,rs,k2,rs2,l)):P.follows .mixedOrders=true/\ZC8 ops.toList l k rs l.length=true/\ZC8 ops.toList l k2 rs2 l.length=true/\ZKX ops.toList l k2 rs2=true/\il=l:=by
 unfold ZPQ at h;simp only at h;generalize(if ZdO il=true then ZVx (ZAe [] ops.toList) il 0 (ZAe [] ops.toList) (ZbH [] il) il else rsG false (ZAe [] ops.toList) il 0 (ZAe [] ops.toList) il)=R at h;generalize(if il.any (λo=>o.e.isCall)=true then rsG true (ZAe [] ops.toList) il 0 (ZAe [] ops.toList) il else R)=R2 at h;generalize(if il.any (λo=>o.e.isCall)=true then ZW9 (ZAe [] ops.toList) il 0 (ZAe [] ops.toList) il else 1000)=L at h;generalize(if Nat.blt L 1000=true then cutG R2 L 0 0 0 (ZAe [] ops.toList) il+1000*(L+1)else cutG R2 L 0 0 0 (ZAe [] ops.toList) il)=K2 at h;unfold ZRg at h;split at h
 .rename_i h1;split at h
  .rename_i h2;simp only[Yj,YN]at h;obtain⟨rfl,rfl,rfl,rfl,rfl⟩:=h;exact⟨h1.1,h1.2.1,h2.1,h2.2,rfl⟩
  .simp only[Yj,YN]at h;obtain⟨rfl,rfl,rfl,rfl,rfl⟩:=h;exact⟨h1.1,h1.2.1,h1.2.1,by unfold ZKX;rw[h1.2.2];rfl,rfl⟩
 .cases h
def ZNY(x:Option IC):Option IC:=some (x.getD .dead)
theorem Qj{x:Option IC}{ic:IC}(h:ZNY x=some ic)(hd:ic≠ .dead):x=some ic:=by
 cases x with
 |none=>simp only[ZNY,ZMH,Yj]at h;exact absurd h.symm hd
 |some y=>simpa[ZNY]using h
def Zl(P:Program)(n:Nat):Code->Option IC
 | .skip=>some .skip
 | .region _ ops draw=>ZNY (if draw then((ops.toList.mapM (JC P n ops)).bind (ZPQ P ops)).map λp=> .dreg p.1 p.2.1 p.2.2.1 p.2.2.2.1 p.2.2.2.2
  else(ops.toList.mapM (JC P n ops)).map .reg)
 | .refuse _=>some .dead
 | .seq a b=>(Zl P n a).bind λa'=>(Zl P n b).map λb'=> .seq a' b'
 | .cond x a b=>(ZY x).bind λx'=>(Zl P n a).bind λa'=>(Zl P n b).map λb'=> .cond x' a' b'
 | .block i b=>(Zl P n b).map λb'=> .block i b'
 | .loop b=>(Zl P n b).map .loop
 | .exit i=>some (.exit i)
 | .ret=>some .ret
 | .scope b=>(Zl P n b).map λb'=> .scope b' b'
 | .label l=>some (.label l)
 | .goto l=>some (.goto l)
 |_=>none
structure Run (c:Ctx) (E0:Env) (os0:J7) (E:Env) (os:J7):Prop where
 rel:Rel c E os
 evo:Evo E0 os0 E os
def WI(P:Program)(c:Ctx)(E0:Env)(os0:J7)(n:Nat)(ic:IC)(Q:Exit->J4->J7->Prop)(φ:J4)(os:J7):Prop:=
 ∀(code:Code),Zl P n code=some ic-> ∀(E:Env) (a:Act),Run c E0 os0 E os->Fr n E os φ a->
  code.wp P (λx a' w'=> ∃E' φ' os',E'.w=w'/\Run c E0 os0 E' os'/\Fr n E' os' φ' a'/\Q x φ' os') a E.w
section
variable {P:Program} {c:Ctx} {E0:Env} {os0:J7} {n:Nat} {Q:Exit->J4->J7->Prop} {φ:J4} {os:J7}
theorem WI.mono{ic:IC}{Q':Exit->J4->J7->Prop}(h:WI P c E0 os0 n ic Q φ os)(hQ: ∀x φ os,Q x φ os->Q' x φ os):WI P c E0 os0 n ic Q' φ os:=
 λcode hc E a R hf=>wp_mono (h code hc E a R hf) (λ_ _ _ ⟨E',φ',os',h1,h2,h3,h4⟩=>⟨E',φ',os',h1,h2,h3,hQ _ _ _ h4⟩)
theorem ZRQ{code:Code}(hc:Zl P n code=some .skip):code= .skip:=by
 cases code<;>simp only[Zl]at hc<;>(try replace hc:=Qj hc J1)<;>(try split at hc)<;>simp[YF]at hc|-
theorem ZUy{code:Code}{a' b':IC}(hc:Zl P n code=some (.seq a' b')): ∃a b,code= .seq a b/\Zl P n a=some a'/\Zl P n b=some b':=by
 cases code<;>simp only[Zl]at hc<;>(try replace hc:=Qj hc J1)<;>(try split at hc)<;>simp[YF]at hc|-
 exact⟨_,_,⟨rfl,rfl⟩,hc.1,hc.2⟩
theorem ZTR{code:Code}{x':IO}{a' b':IC}(hc:Zl P n code=some (.cond x' a' b')): ∃x a b,code= .cond x a b/\ZY x=some x'/\Zl P n a=some a'/\Zl P n b=some b':=by
 cases code<;>simp only[Zl]at hc<;>(try replace hc:=Qj hc J1)<;>(try split at hc)<;>simp[YF]at hc|-
 obtain⟨x,h1,y,h2,z,h3,rfl,rfl,rfl⟩:=hc;exact⟨_,_,_,⟨rfl,rfl,rfl⟩,h1,h2,h3⟩
theorem ZQW{code:Code}{i:Nat}{b':IC}(hc:Zl P n code=some (.block i b')): ∃b,code= .block i b/\Zl P n b=some b':=by
 cases code<;>simp only[Zl]at hc<;>(try replace hc:=Qj hc J1)<;>(try split at hc)<;>simp[YF]at hc|-
 exact⟨_,⟨hc.2,rfl⟩,hc.1⟩
theorem ZJM{code:Code}{b':IC}(hc:Zl P n code=some (.loop b')): ∃b,code= .loop b/\Zl P n b=some b':=by
 cases code<;>simp only[Zl]at hc<;>(try replace hc:=Qj hc J1)<;>(try split at hc)<;>simp[YF]at hc|-
 exact hc
theorem ZRp{code:Code}{i:Nat}(hc:Zl P n code=some (.exit i)):code= .exit i:=by
 cases code<;>simp only[Zl]at hc<;>(try replace hc:=Qj hc J1)<;>(try split at hc)<;>simp[YF]at hc|-
 exact hc
theorem ZVb{code:Code}(hc:Zl P n code=some .ret):code= .ret:=by
 cases code<;>simp only[Zl]at hc<;>(try replace hc:=Qj hc J1)<;>(try split at hc)<;>simp[YF]at hc|-
theorem ZKC{code:Code}{b' c':IC}(hc:Zl P n code=some (.scope b' c')): ∃b,code= .scope b/\Zl P n b=some b'/\c'=b':=by
 cases code<;>simp only[Zl]at hc<;>(try replace hc:=Qj hc J1)<;>(try split at hc)<;>simp[YF]at hc|-
 obtain⟨h1,h2⟩:=hc;subst h2;exact⟨h1,rfl⟩
theorem ZPr{code:Code}{l:Nat}(hc:Zl P n code=some (.label l)):code= .label l:=by
 cases code<;>simp only[Zl]at hc<;>(try replace hc:=Qj hc J1)<;>(try split at hc)<;>simp[YF]at hc|-
 exact hc
theorem ZRH{code:Code}{l:Nat}(hc:Zl P n code=some (.goto l)):code= .goto l:=by
 cases code<;>simp only[Zl]at hc<;>(try replace hc:=Qj hc J1)<;>(try split at hc)<;>simp[YF]at hc|-
 exact hc
theorem ZGV{code:Code}{l:List IOp}(hc:Zl P n code=some (.reg l)): ∃id ops,code= .region id ops false/\ops.toList.mapM (JC P n ops)=some l:=by
 cases code<;>simp only[Zl]at hc<;>(try replace hc:=Qj hc J1)<;>(try split at hc)<;>simp[YF]at hc|-
 rename_i h;exact⟨_,_,⟨rfl,rfl,WJ⟩,hc⟩
theorem ZMk{code:Code}{k k2:Nat}{rs rs2:W0}{l:List IOp}(hc:Zl P n code=some (.dreg k rs k2 rs2 l)): ∃id ops,code= .region id ops true/\ops.toList.mapM (JC P n ops)=some l/\P.follows .mixedOrders=true/\ZC8 ops.toList l k rs l.length=true/\ZC8 ops.toList l k2 rs2 l.length=true/\ZKX ops.toList l k2 rs2=true:=by
 cases code<;>simp only[Zl]at hc<;>(try replace hc:=Qj hc J1)<;>(try split at hc)<;>simp[YF]at hc|-
 rename_i h;obtain⟨l',h1,h2⟩:=hc;obtain⟨_,_,_,_,_,h2,rfl,rfl,rfl,rfl,rfl⟩:=h2;obtain⟨h3,h4,h5,h6,rfl⟩:=ZRD h2;exact⟨_,_,⟨rfl,rfl,WJ⟩,h1,h3,h4,h5,h6⟩
theorem Zc3{code:Code}(hc:Zl P n code=some .dead):(∃id ops d,code= .region id ops d)\/ ∃s,code= .refuse s:=by
 cases code<;>simp only[Zl]at hc<;>simp[YF]at hc|-
def ZFT:IC->Nat->Option IC
 | .seq a b,l=>match ZFT a l with
  |some r=>some (.seq r b)
  |none=>ZFT b l
 | .label l',l=>if l'==l then some .skip else none
 |_,_=>none
theorem ZHd: ∀(ic:IC) (code:Code),Zl P n code=some ic-> ∀l,(∀r,ZFT ic l=some r-> ∃rc,findLabel code l=some rc/\Zl P n rc=some r)/\(ZFT ic l=none->findLabel code l=none)
 | .seq a b,code,hc,l=>by
  obtain⟨ca,cb,rfl,h1,h2⟩:=ZUy hc;obtain⟨a1,a2⟩:=ZHd a ca h1 l;obtain⟨b1,b2⟩:=ZHd b cb h2 l;simp only[ZFT,findLabel];cases ha:ZFT a l with
  |some ra=>
   obtain⟨rc,k1,k2⟩:=a1 ra ha;refine⟨λr hr=> ?_,λh=>W6⟩;cases hr;rw[k1];exact⟨_,rfl,by simp only[Zl,k2,h2,ZBA,Yr]⟩
  |none=>
   rw[a2 ha];exact⟨λr hr=>b1 r hr,λh=>b2 h⟩
 | .label l',code,hc,l=>by
  rw[ZPr hc];simp only[ZFT,findLabel];split
  .exact⟨λr hr=>(by cases hr;exact⟨_,rfl,rfl⟩),λh=>W6⟩
  .exact⟨λr hr=>TD,λ_=>rfl⟩
 | .skip,code,hc,l=>by rw[ZRQ hc];exact Vu
 | .reg _,code,hc,l=>by obtain⟨id,ops,rfl,_⟩:=ZGV hc;exact Vu
 | .dreg _ _ _ _ _,code,hc,l=>by obtain⟨id,ops,rfl,_⟩:=ZMk hc;exact Vu
 | .cond _ _ _,code,hc,l=>by obtain⟨_,_,_,rfl,_⟩:=ZTR hc;exact Vu
 | .block _ _,code,hc,l=>by obtain⟨_,rfl,_⟩:=ZQW hc;exact Vu
 | .loop _,code,hc,l=>by obtain⟨_,rfl,_⟩:=ZJM hc;exact Vu
 | .exit _,code,hc,l=>by rw[ZRp hc];exact Vu
 | .ret,code,hc,l=>by rw[ZVb hc];exact Vu
 | .scope _ _,code,hc,l=>by obtain⟨_,rfl,_⟩:=ZKC hc;exact Vu
 | .goto _,code,hc,l=>by rw[ZRH hc];exact Vu
 | .dead,code,hc,l=>by rcases Zc3 hc with⟨_,_,_,rfl⟩|⟨_,rfl⟩<;>exact⟨λr hr=>TD,λ_=>rfl⟩
theorem WI.label{l:Nat}(h:Q .normal φ os):WI P c E0 os0 n (.label l) Q φ os:=by
 intro code hc E a R hf;rw[ZPr hc];exact wp_label ⟨E,φ,os,rfl,R,hf,h⟩
theorem WI.goto{l:Nat}(h:Q (.goto l) φ os):WI P c E0 os0 n (.goto l) Q φ os:=by
 intro code hc E a R hf;rw[ZRH hc];exact wp_goto ⟨E,φ,os,rfl,R,hf,h⟩
def ZNm(l:Nat)(J:J4->J7->Prop)(Q:Exit->J4->J7->Prop):Exit->J4->J7->Prop
 | .goto l',φ,os=>l'=l/\J φ os
 |x,φ,os=>Q x φ os
def ZPH(P:Program)(c rc:Code)(Q:Exit->Act->World->Prop)(a:Act)(w:World):Prop:=
 ∀b k cs,∃e a' w',Q e a' w'/\Arrives P (lone (b.at a (.code rc:: .inScope c::k)) cs w) b k cs e a' w'
theorem ZKl{c rc:Code}{Q:Exit->Act->World->Prop}{a:Act}{w:World}(h:rc.wp P (λe a' w'=>match e with| .goto l=> ∃rest,findLabel c l=some rest/\ZPH P c rest Q a' w'|e=>Q e a' w') a w):ZPH P c rc Q a w:=by
 intro b k cs;obtain⟨e,a₁,w₁,hq,harr⟩:=h b (.inScope c::k) cs;cases e with
 |normal=>exact⟨.normal,a₁,w₁,hq,Steps.trans harr (.one step_inScope)⟩
 |exit id=>exact⟨.exit id,a₁,w₁,hq,λk' hk=>harr k' (by simp[exitTo,hk])⟩
 |goto l'=>
  obtain⟨rest,hf,hn⟩:=hq;have hg:gotoIn l' (.inScope c::k)=some (.code rest:: .inScope c::k):=by simp[gotoIn,hf]
  obtain⟨e₂,a₂,w₂,hq₂,harr₂⟩:=hn b k cs;exact⟨e₂,a₂,w₂,hq₂,.of_steps (harr _ hg) harr₂⟩
 |ret=>exact⟨_,a₁,w₁,hq,harr⟩
 |panic ch=>exact⟨_,a₁,w₁,hq,harr⟩
 |outgrown=>exact⟨_,a₁,w₁,hq,harr⟩
theorem ZMv{c:Code}{Q:Exit->Act->World->Prop}{a:Act}{w:World}(h:ZPH P c c Q a w):(Code.scope c).wp P Q a w:=by
 intro b k cs;obtain⟨e,a₁,w₁,hq,harr⟩:=h b k cs;exact⟨e,a₁,w₁,hq,.of_steps (.one step_scope) harr⟩
theorem WI.skip(h:Q .normal φ os):WI P c E0 os0 n .skip Q φ os:=by
 intro code hc E a R hf;rw[ZRQ hc];exact wp_skip ⟨E,φ,os,rfl,R,hf,h⟩
theorem WI.ret(h:Q .ret φ os):WI P c E0 os0 n .ret Q φ os:=by
 intro code hc E a R hf;rw[ZVb hc];exact wp_ret ⟨E,φ,os,rfl,R,hf,h⟩
theorem WI.exit{i:Nat}(h:Q (.exit i) φ os):WI P c E0 os0 n (.exit i) Q φ os:=by
 intro code hc E a R hf;rw[ZRp hc];exact wp_exit ⟨E,φ,os,rfl,R,hf,h⟩
def ZHC(next:J4->J7->Prop)(Q:Exit->J4->J7->Prop):Exit->J4->J7->Prop
 | .normal,φ,os=>next φ os
 |x,φ,os=>Q x φ os
def ZGg(i:Nat)(Q:Exit->J4->J7->Prop):Exit->J4->J7->Prop
 | .exit j,φ,os=>if j=i then Q .normal φ os else Q (.exit j) φ os
 |x,φ,os=>Q x φ os
theorem WI.seq{x y:IC}(h:WI P c E0 os0 n x (ZHC (WI P c E0 os0 n y Q) Q) φ os):WI P c E0 os0 n (.seq x y) Q φ os:=by
 intro code hc E a R hf;obtain⟨ca,cb,rfl,h1,h2⟩:=ZUy hc;refine wp_seq (wp_mono (h ca h1 E a R hf) (λe a' w' ⟨E',φ',os',k1,k2,k3,k4⟩=> ?_));subst k1;cases e with
 |normal=>exact k4 cb h2 E' a' k2 k3
 |_=>exact⟨E',φ',os',rfl,k2,k3,k4⟩
theorem WI.block{i:Nat}{b:IC}(h:WI P c E0 os0 n b (ZGg i Q) φ os):WI P c E0 os0 n (.block i b) Q φ os:=by
 intro code hc E a R hf;obtain⟨cb,rfl,h1⟩:=ZQW hc;refine wp_block (wp_mono (h cb h1 E a R hf) (λe a' w' ⟨E',φ',os',k1,k2,k3,k4⟩=> ?_));cases e with
 |exit j=>
  simp only[Exit.inBlock];simp only[ZGg]at k4;split
  .rename_i hj;rw[if_pos hj]at k4;exact⟨E',φ',os',k1,k2,k3,k4⟩
  .rename_i hj;rw[if_neg hj]at k4;exact⟨E',φ',os',k1,k2,k3,k4⟩
 |_=>exact⟨E',φ',os',k1,k2,k3,k4⟩
theorem WI.cond{x:IO}{y z:IC}{b:Bool}(hv:(ZG φ x).val= .x (.bool b))(hcd:(ZG φ x).cond=true)(ht:b=true->WI P c E0 os0 n y Q φ os)(he:b=false->WI P c E0 os0 n z Q φ os):WI P c E0 os0 n (.cond x y z) Q φ os:=by
 intro code hc E a R hf;obtain⟨cx,ca,cb,rfl,h1,h2,h3⟩:=ZTR hc;have:=(V.op hf h1).strip hcd;rw[hv]at this;exact wp_cond_split (V.bool this) (λh=>ht h ca h2 E a R hf) (λh=>he h cb h3 E a R hf)
theorem WI.reg{S:Tabs}(hS:SsOk P S)(ks:W0){l:List IOp}{ok:Bool}{φ':J4}{os':J7}(h:QC S φ os l=some (ok,φ',os'))(hok:ok=true)(hq:Q .normal (keep ks φ') os'):WI P c E0 os0 n (.reg l) Q φ os:=by
 intro code hc E a R hf;subst hok;obtain⟨id,ops,rfl,h1⟩:=ZGV hc;exact wp_region_list (ZKU hS R.rel hf h1 h (λE' a' R' e' f'=>⟨E',_,os',rfl,⟨R',R.evo.trans e'⟩,f'.keep ks,hq⟩))
def Yk(r:Option (Bool×List (Nat×D)×J7))(K:J4->J7->Prop):Prop:= ∃ok φ os,r=some (ok,φ,os)/\ok=true/\K φ os
theorem Yk.some_iff{ok:Bool}{φ:J4}{os:J7}{K:J4->J7->Prop}:Yk (some (ok,φ,os)) K=(ok=true/\K φ os):=by
 apply propext;constructor
 .rintro⟨ok',φ',os',h,h1,h2⟩;cases h;exact⟨h1,h2⟩
 .rintro⟨h1,h2⟩;exact⟨ok,φ,os,rfl,h1,h2⟩
theorem WI.regK{S:Tabs}(hS:SsOk P S)(ks:W0){l:List IOp}(h: ∀K:J4->J7->Prop,(∀φ' os',Q .normal φ' os'->K φ' os')->Yk (QC S φ os l) (λφ' os'=>K (Go.Ab.keep ks φ') os')):WI P c E0 os0 n (.reg l) Q φ os:=by
 obtain⟨ok,φ',os',h1,h2,h3⟩:=h _ (λ_ _ h=>h);exact WI.reg hS ks h1 h2 h3
theorem WI.reg'{S:Tabs}(hS:SsOk P S){l:List IOp}{ok:Bool}{φ':J4}{os':J7}(h:QC S φ os l=some (ok,φ',os'))(hok:ok=true)(hq:Q .normal φ' os'):WI P c E0 os0 n (.reg l) Q φ os:=by
 intro code hc E a R hf;subst hok;obtain⟨id,ops,rfl,h1⟩:=ZGV hc;exact wp_region_list (ZKU hS R.rel hf h1 h (λE' a' R' e' f'=>⟨E',_,os',rfl,⟨R',R.evo.trans e'⟩,f',hq⟩))
theorem WI.dreg'{S:Tabs}(hS:SsOk P S){m:Option W0}{k k2:Nat}{rs rs2:W0}{l:List IOp}{ok:Bool}{φ' φ2:J4}{os':J7}(h:ZHZ m S φ os k rs l=some (ok,φ',os')\/ZHZ m S φ os k2 rs2 l=some (ok,φ',os'))(hok:ok=true)(hq:Q .normal φ2 os')(hk: ∀E a,Fr n E os' φ' a->Fr n E os' φ2 a):WI P c E0 os0 n (.dreg k rs k2 rs2 l) Q φ os:=by
 intro code hc E a R hf;subst hok;obtain⟨id,ops,rfl,h4,h5,h6,h7,_⟩:=ZMk hc;rcases h with h|h
 .exact ZVQ h5 hS h6 h4 R.rel hf h (λE' a' R' e' f'=>⟨E',_,os',rfl,⟨R',R.evo.trans e'⟩,hk _ _ f',hq⟩)
 .exact ZVQ h5 hS h7 h4 R.rel hf h (λE' a' R' e' f'=>⟨E',_,os',rfl,⟨R',R.evo.trans e'⟩,hk _ _ f',hq⟩)
theorem WI.scope{b rest:IC}(l:Nat)(hfi:ZFT b l=some rest)(J:J4->J7->Prop)(μ:J4->J7->Nat)(first:WI P c E0 os0 n b (ZNm l J Q) φ os)
  (pass: ∀φ os,J φ os->WI P c E0 os0 n rest (ZNm l (λφ' os'=>J φ' os'/\μ φ' os'<μ φ os) Q) φ os):WI P c E0 os0 n (.scope b b) Q φ os:=by
 intro code hc E a R hf;obtain⟨cb,rfl,h1,_⟩:=ZKC hc;obtain⟨rc,h2,h3⟩:=(ZHd b cb h1 l).1 rest hfi;refine ZMv ?_;have key: ∀(k:Nat) (φ:J4) (os:J7) (E:Env) (a:Act),μ φ os=k->J φ os->Run c E0 os0 E os->Fr n E os φ a->ZPH P cb rc (λx a' w'=> ∃E' φ' os',E'.w=w'/\Run c E0 os0 E' os'/\Fr n E' os' φ' a'/\Q x φ' os') a E.w:=by
  intro k
  induction k using Nat.strongRecOn with
  |_ k ih=>
   intro φ os E a hk hJ R hf;refine ZKl (wp_mono (pass φ os hJ rc h3 E a R hf) ?_);rintro e a' w' ⟨E',φ',os',rfl,R',f',hq⟩;cases e with
   |goto l'=>
    obtain⟨rfl,hJ',hlt⟩:=hq;exact⟨rc,h2,ih _ J0 φ' os' E' a' rfl hJ' R' f'⟩
   |_=>exact⟨E',φ',os',rfl,R',f',hq⟩
 refine ZKl (wp_mono (first cb h1 E a R hf) ?_);rintro e a' w' ⟨E',φ',os',rfl,R',f',hq⟩;cases e with
 |goto l'=>
  obtain⟨rfl,hJ'⟩:=hq;exact⟨rc,h2,key _ φ' os' E' a' rfl hJ' R' f'⟩
 |_=>exact⟨E',φ',os',rfl,R',f',hq⟩
theorem WI.loop{b:IC}(I:J4->J7->Prop)(μ:J4->J7->Nat)(h0:I φ os)
  (round: ∀φ os,I φ os->WI P c E0 os0 n b (ZHC (λφ' os'=>I φ' os'/\μ φ' os'<μ φ os) Q) φ os):WI P c E0 os0 n (.loop b) Q φ os:=by
 intro code hc E a R hf;obtain⟨cb,rfl,h1⟩:=ZJM hc
 let T:Act->World->Nat->Prop:=λa w k=> ∃E φ os,E.w=w/\Run c E0 os0 E os/\Fr n E os φ a/\I φ os/\μ φ os=k
 have hT:T a E.w (μ φ os):=⟨E,φ,os,rfl,R,hf,h0,rfl⟩;have hmin: ∀(a:Act) (w:World),(∃k,T a w k)-> ∃k,T a w k/\ ∀j,T a w j->k<=j:=by
  intro a w ⟨k,hk⟩
  induction k using Nat.strongRecOn with
  |_ k ih=>
   by_cases h: ∃j,j<k/\T a w j
   .obtain⟨j,hj,hj2⟩:=h;exact ih j hj hj2
   .exact⟨k,hk,λj hj=>by
     rcases Nat.lt_or_ge j k with h2|h2
     .exact absurd ⟨j,h2,hj⟩ h
     .exact h2⟩
 classical
 let m:Act->World->Nat:=λa w=>if h: ∃k,T a w k then Classical.choose (hmin a w h)else 0
 have hm: ∀a w k,T a w k->T a w (m a w)/\m a w<=k:=by
  intro a w k hk;have hex: ∃k,T a w k:=⟨k,hk⟩;have:m a w=Classical.choose (hmin a w hex):=dif_pos hex;rw[this];obtain⟨q1,q2⟩:=ZVz (hmin a w hex);exact⟨q1,q2 k hk⟩
 refine wp_loop (λa w=> ∃k,T a w k) m ⟨_,hT⟩ (λa w ⟨k,hk⟩=> ?_);obtain⟨⟨E1,φ1,os1,rfl,R1,f1,i1,hk1⟩,_⟩:=hm a w k hk;refine wp_mono (round φ1 os1 i1 cb h1 E1 a R1 f1) (λe a' w' ⟨E',φ',os',k1,k2,k3,k4⟩=> ?_);cases e with
 |normal=>
  have ht:T a' w' (μ φ' os'):=⟨E',φ',os',k1,k2,k3,k4.1,rfl⟩;refine⟨⟨_,ht⟩,?_⟩;have:=(hm a' w' _ ht).2;have:=k4.2;omega
 |_=>exact⟨E',φ',os',k1,k2,k3,k4⟩
theorem WI.weak{ic:IC}{φ':J4}{os':J7}(hw: ∀(E:Env) (a:Act),Run c E0 os0 E os->Fr n E os φ a-> ∃E',E'.w=E.w/\Run c E0 os0 E' os'/\Fr n E' os' φ' a)(h:WI P c E0 os0 n ic Q φ' os'):WI P c E0 os0 n ic Q φ os:=by
 intro code hc E a R hf;obtain⟨E',h1,h2,h3⟩:=hw E a R hf;rw[<-h1];exact h code hc E' a h2 h3
theorem WI.keep(ks:W0){ic:IC}(h:WI P c E0 os0 n ic Q (keep ks φ) os):WI P c E0 os0 n ic Q φ os:=WI.weak (λE _ R hf=>⟨E,rfl,R,hf.keep ks⟩) h
theorem WI.own(t e sz:Nat)(ht:get φ t= .x .nils){ic:IC}(h:WI P c E0 os0 n ic Q (put φ t (.ref os.length 0 0 0)) (os++ [.rows false e sz []])):WI P c E0 os0 n ic Q φ os:=by
 refine WI.weak (λE a R hf=> ?_) h;obtain⟨E',k1,k2,k3,k4⟩:=ZAO (fz:=false) (e:=e) (sz:=sz) (rs:= []) (cu:= .slice none 0 0) (xs:= []) R.rel (Kept.refl _ E.w) ⟨J1,.inl ⟨rfl,rfl⟩⟩ (λb hb=>by cases hb) (λr hr=>TD) (λi r j x v h=>WG);refine⟨E',k1,⟨k2,R.evo.trans k3⟩,hf.size,hf.defers,λu=> ?_⟩;rw[ZOx];split
 .rename_i he;subst he;have:=hf.slot t;rw[ht]at this;rw[V.nils this];exact k4
 .exact(hf.slot u).mono k3
end
inductive IRes where
 |tmp (t:Nat)
 |cell (t n:Nat) (ag:Bool)
structure IFn where
 n:Nat
 res:List IRes
 body:IC
def ZPK(P:Program):ResultVar->Option IRes
 | .tmp t=>some (.tmp t)
 | .cell a t=>(Ke P t).bind λn=>(ZF0 P t).map λag=> .cell a n ag
def ZFl(P:Program)(f:Func):Option IFn:=
 f.body.bind λc=>(Zl P f.ntmps c).bind λb=>(f.results.toList.mapM (ZPK P)).map λr=>⟨f.ntmps,r,b⟩
def ZC6:Nat->J8->J4
 |_,[]=> []
 |i,d::ds=>(i,d)::ZC6 (i+1) ds
def ZDd(os:J7):D->Option (D×J7)
 | .agg ds=>(YW os ds).map λp=>(.agg (p.1.map .x),p.2)
 | .fn f []=>some (.fn f [],os)
 | .ptr id off=>some (.ptr id off,os)
 |d=>(Yh os d).map λp=>(.x p.1,p.2)
def ZGh(fz:Bool)(os:J7)(d:D):Option (D×J7):=if fz then ZDd os d else some (d,os)
def ZHp(fz:Bool)(S:Tab)(φ:J4)(os:J7):IRes->Option (Bool×D×J7)
 | .tmp t=>(ZGh fz os (get φ t).val).map λp=>((get φ t).cond,p.1,p.2)
 | .cell t n ag=>(ZS S φ os (.ld n ag (.t t))).bind λr=>(ZGh fz os r.2.val).map λp=>(r.1&&r.2.cond,p.1,p.2)
def QG(fz:Bool)(S:Tab)(φ:J4):J7->List IRes->Option (Bool×List D×J7)
 |os,[]=>some (true,[],os)
 |os,r::rs=>(ZHp fz S φ os r).bind λp=>(QG fz S φ p.2.2 rs).map λq=>(p.1&&q.1,p.2.1::q.2.1,q.2.2)
def mkR:J8->D
 | [d]=>d
 |ds=> .tup ds
def ZL9(E:Env)(os:J7)(b:Nat):Prop:= ∃(i:Nat) (o:Ob) (p:Nat×Value),os[i]? =some o/\E.ob[i]? =some p/\o.mb p b
def ZH(P:Program)(f:FuncId)(args:J8)(os:J7)(Post:D->J7->Prop):Prop:=
 ∀(c:Ctx) (E:Env) (vs:Array Value),Rel c E os->VL E os args vs->
  Calls P f vs E.w λe w'=> ∃v E' r os',e= .returned v/\E'.w=w'/\Rel c E' os'/\Evo E os E' os'/\V E' os' r v/\Post r os'
def ZRE(tmps:Array Value):ResultVar->Sem Value
 | .tmp t=>pure (tmps.getD t undef)
 | .cell x t=>do loadVar t (<-asAddr (tmps.getD x undef))
section
variable {P:Program} {E:Env} {os:J7} {c:Ctx} {n:Nat} {φ:J4} {a:Act}
theorem Zb5(ds:J8): ∀(i t:Nat),get (ZC6 i ds) t=if i<=t then(ds[t-i]?).getD .und else .und:=by
 induction ds with
 |nil=>intro i t;simp[ZC6,get]
 |cons d ds ih=>
  intro i t;simp only[ZC6,get,ih];by_cases h:i=t
  .subst h;simp
  .by_cases h2:i<=t
   .have h3:i+1<=t:=Wl
    have h4:t-i=(t-(i+1))+1:=Wl
    simp[h,h2,h3,h4]
   .have h3: ¬(i+1<=t):=Wl
    simp[h,h2,h3]
theorem ZYb(R:Rel c E os){d:D}{v:Value}(hv:V E os d v){d':D}{os':J7}(h:ZDd os d=some (d',os')): ∃st',Rel c ⟨E.w,st',E.ob⟩ os'/\Evo E os ⟨E.w,st',E.ob⟩ os'/\V ⟨E.w,st',E.ob⟩ os' d' v:=by
 unfold ZDd at h;split at h
 .rename_i ds;obtain⟨⟨xs,os1⟩,h1,h⟩:=Za h;cases h;cases hv with
  |agg vs hl h1' hvv=>
   obtain⟨st',R',e',k1,k2⟩:=ZCA (vs:=vs.toList) R (λj d v hd hv=>hvv j d v hd Ur) (by simp[hl]) h1;refine⟨st',R',e',.agg vs (by simp[k1]) h1' (λj d v hd hv'=> ?_)⟩;rw[YE]at hd;obtain⟨y,hy,rfl⟩:=Za hd;exact .x (k2 j y v hy (by simpa using hv'))
 .cases h;exact⟨E.st,R,Evo.refl _ _,hv⟩
 .cases h;exact⟨E.st,R,Evo.refl _ _,hv⟩
 .obtain⟨⟨x,os1⟩,h1,h⟩:=Za h;cases h;obtain⟨st',R',e',hx⟩:=ZJQ R hv h1;exact⟨st',R',e',.x hx⟩
theorem ZUq{fz:Bool}(R:Rel c E os){d:D}{v:Value}(hv:V E os d v){d':D}{os':J7}(h:ZGh fz os d=some (d',os')): ∃st',Rel c ⟨E.w,st',E.ob⟩ os'/\Evo E os ⟨E.w,st',E.ob⟩ os'/\V ⟨E.w,st',E.ob⟩ os' d' v:=by
 unfold ZGh at h;split at h
 .exact ZYb R hv h
 .cases h;exact⟨E.st,R,Evo.refl _ _,hv⟩
theorem ZhW{S:Tab}(R:Rel c E os)(hf:Fr n E os φ a){t m tt:Nat}{ag:Bool}(hs:Ke P tt=some m)(ha:ZF0 P tt=some ag){d:D}(h:ZS S φ os (.ld m ag (.t t))=some (true,d)):
  ∃v,(do loadVar tt (<-asAddr (a.tmps.getD t undef)):Sem Value).run P E.w= .ok v E.w/\V E os d v:=by
 have hx:V E os (ZG φ (.t t)) (a.tmps.getD t undef):=hf.slot t;obtain⟨v,h1,h2⟩:=ZZ9 (P:=P) R hs ha hx h;refine⟨v,?_,h2⟩;have hp: ∃ad,a.tmps.getD t undef= .pointer (some ad):=by
  generalize a.tmps.getD t undef=u at h1;cases u with
  |pointer ad=>
   cases ad with
   |some ad=>exact⟨ad,rfl⟩
   |none=>simp[Instr.loadAt,Instr.sureAddr,stuck,Sem.run,Result.andThen]at h1
  |_=>simp[Instr.loadAt,Instr.sureAddr,stuck,Sem.run,Result.andThen]at h1
 obtain⟨ad,had⟩:=hp;rw[had]at h1|-;simpa[Instr.loadAt,Instr.sureAddr,asAddr]using h1
theorem ZVa{fz:Bool}{S:Tab}: ∀ {rs:List ResultVar} {irs:List IRes} {E:Env} {os:J7},Rel c E os->Fr n E os φ a->rs.mapM (ZPK P)=some irs-> ∀ {ds:J8} {os':J7},QG fz S φ os irs=some (true,ds,os')->
  ∃(vs:List Value) (E':Env),E'.w=E.w/\Rel c E' os'/\Evo E os E' os'/\vs.length=ds.length/\(∀(j:Nat) (d:D) (v:Value),ds[j]? =some d->vs[j]? =some v->V E' os' d v)/\
   (rs.mapM (ZRE a.tmps)).run P E.w= .ok vs E.w
 | [],irs,E,os,R,hf,hm,ds,os',h=>by
  simp at hm;subst hm;cases h;exact⟨[],E,rfl,R,Evo.refl _ _,rfl,λj d v h=>WG,J1⟩
 |r::rs,irs,E,os,R,hf,hm,ds,os',h=>by
  simp only[ZAQ,KE,YF,ZBD]at hm;obtain⟨ir,hir,irs',hirs,hm⟩:=hm;cases hm;simp only[QG,YF,Kj]at h;obtain⟨⟨ok,d,os1⟩,h1,⟨ok2,ds2,os2⟩,h2,h3⟩:=h;simp at h3;obtain⟨⟨rfl,rfl⟩,rfl,rfl⟩:=h3;have one: ∃v st',Rel c ⟨E.w,st',E.ob⟩ os1/\Evo E os ⟨E.w,st',E.ob⟩ os1/\V ⟨E.w,st',E.ob⟩ os1 d v/\(ZRE a.tmps r).run P E.w= .ok v E.w:=by
   cases r with
   |tmp t=>
    cases hir;simp only[ZHp,Kj]at h1;obtain⟨⟨d',os'⟩,h4,h5⟩:=h1;simp at h5;obtain⟨h5,rfl,rfl⟩:=h5;obtain⟨st',R',e',hv⟩:=ZUq R ((hf.slot t).strip h5) h4;exact⟨_,st',R',e',hv,rfl⟩
   |cell x t=>
    simp only[ZPK,YF,Kj]at hir;obtain⟨m,hm,ag,hag,rfl⟩:=hir;simp only[ZHp,YF,Kj]at h1;obtain⟨⟨ok1,d1⟩,h4,⟨d',os'⟩,h5,h6⟩:=h1;simp at h6;obtain⟨⟨rfl,h7⟩,rfl,rfl⟩:=h6;obtain⟨v,k1,k2⟩:=ZhW (P:=P) R hf hm hag h4;obtain⟨st',R',e',hv⟩:=ZUq R (k2.strip h7) h5;exact⟨v,st',R',e',hv,k1⟩
  obtain⟨v,st',R1,e1,hv,hrun⟩:=one;obtain⟨vs,E',g1,g2,g3,g4,g5,g6⟩:=ZVa (E:=⟨E.w,st',E.ob⟩) R1 (hf.mono e1) hirs h2;refine⟨v::vs,E',g1,g2,e1.trans g3,by simp[g4],λj d0 v0 hd hv0=> ?_,?_⟩
  .cases j with
   |zero=>simp at hd hv0;subst hd;subst hv0;exact hv.mono g3
   |succ j=>exact g5 j d0 v0 (by simpa using hd) (by simpa using hv0)
  .rw[ZAQ];simp only[Sem.run_bind,hrun,Result.andThen_ok,Sem.run_pure];simp only at g6;rw[g6];rfl
theorem ZZX{fz:Bool}{S:Tab}{f:FuncId}{fn:Func}{ifn:IFn}(hfn:P.funcs[f]? =some fn)(hc:ZFl P fn=some ifn)(args:J8)(hle:args.length<=ifn.n)(os:J7){Post:D->J7->Prop}
  (h: ∀(c:Ctx) (E0:Env),WI P c E0 os ifn.n ifn.body (λx φ' os'=>(x= .normal\/x= .ret)/\ ∃ds os2,QG fz S φ' os' ifn.res=some (true,ds,os2)/\Post (mkR ds) os2) (ZC6 0 args) os):ZH P f args os Post:=by
 intro c E vs R hvl;simp only[ZFl,YF,Kj]at hc;obtain⟨code,hb,ic,hic,irs,hirs,rfl⟩:=hc;simp only at h hle;refine calls_of_wp hfn hb ?_;have hsz:vs.size=args.length:=hvl.1.symm;have hf:Fr fn.ntmps E os (ZC6 0 args) {tmps:=vs++Array.replicate (fn.ntmps-vs.size) undef,defers:= []}:=by
  refine⟨W3,rfl,λt=> ?_⟩;rw[Zb5];simp only[KG,if_true,Nat.sub_zero];cases hd:args[t]? with
  |none=>exact .und _
  |some d=>
   have ht:=(ZV hd).1;have hv:vs[t]? =some vs[t]:=ξJ J0;have:(vs++Array.replicate (fn.ntmps-vs.size) undef).getD t undef=vs[t]:=by
    rw[ZD0,ZcP J0,hv];rfl
   rw[this];exact hvl.2 t d _ hd hv
 refine Code.wp_mono ?_ (h c E code hic E _ ⟨R,Evo.refl _ _⟩ hf);rintro e a' w' ⟨E',φ',os',rfl,hR,hf',hx,ds,os2,hret,hpost⟩;obtain⟨us,E2,g1,g2,g3,g4,g5,g6⟩:=ZVa (P:=P) hR.rel hf' hirs hret;have hres:(results fn a'.tmps).run P E'.w= .ok (if h:us.toArray.size=1 then us.toArray[0]else .tuple us.toArray) E'.w:=by
  have e:results fn a'.tmps=(do let vs<-fn.results.mapM (ZRE a'.tmps);pure (if h:vs.size=1 then vs[0]else .tuple vs)):=by
   unfold results;congr 1
  rw[e];simp[Array.mapM_eq_mapM_toList,g6]
 have hval:V E2 os2 (mkR ds) (if h:us.toArray.size=1 then us.toArray[0]else .tuple us.toArray):=by
  by_cases h1:us.length=1
  .obtain⟨u,rfl⟩:=List.length_eq_one_iff.1 h1;obtain⟨d,rfl⟩:=List.length_eq_one_iff.1 (show ds.length=1 by omega);exact g5 0 d u rfl rfl
  .rw[dif_neg WC];have hne:mkR ds= .tup ds:=by
    unfold mkR;split
    .simp at g4;omega
    .rfl
   rw[hne];exact .tup _ (by simp[g4]) (λj d v hd hv=>g5 j d v hd Ur)
 have post:a'.defers= []/\ ∃v,(results fn a'.tmps).run P E'.w= .ok v E'.w/\ ∃v' E'' r os'',Ending.returned v= .returned v'/\E''.w=E'.w/\Rel c E'' os''/\Evo E os E'' os''/\V E'' os'' r v'/\Post r os'':=
  ⟨hf'.defers,_,hres,_,E2,_,os2,rfl,g1,g2,hR.evo.trans g3,hval,hpost⟩
 rcases hx with rfl|rfl<;>exact post
def D.clean:D->Bool
 | .tup ds=>ds.all D.plain
 |d=>d.plain
theorem V.ofPlain{E':Env}{os':J7}{d:D}{v:Value}(h:V E os d v)(hp:d.plain=true)(hx: ∀x v,VX E.w E.st x v->VX E'.w E'.st x v):V E' os' d v:=by
 cases d with
 |x y=>exact .x (hx _ _ h.xx)
 |agg ds=>
  cases h with
  |agg vs hl h1 hv=>
   refine .agg vs hl h1 (λj d v hd hv'=> ?_);have hpd:=Yg.1 hp d (Yz hd);have hvd:=hv j d v hd hv';cases d with
   |x z=>exact .x (hx _ _ hvd.xx)
   |_=>cases hpd
 |fn f caps=>
  cases caps with
  |nil=>cases h with|fn vs hl hv=>exact .fn vs hl (λj d v hd=>by simp at hd)
  |cons c cs=>cases hp
 |_=>cases hp
theorem V.ofClean{E':Env}{os':J7}{d:D}{v:Value}(h:V E os d v)(hp:d.clean=true)(hx: ∀x v,VX E.w E.st x v->VX E'.w E'.st x v):V E' os' d v:=by
 cases d with
 |tup ds=>
  cases h with
  |tup vs hl hv=>exact .tup vs hl (λj d v hd hv'=>(hv j d v hd hv').ofPlain (Yg.1 hp d (Yz hd)) hx)
 |x y=>exact h.ofPlain hp hx
 |agg ds=>exact h.ofPlain hp hx
 |fn f caps=>exact h.ofPlain hp hx
 |_=>cases hp
theorem ZH.pure{f:FuncId}{args:J8}{r:D}(h:ZH P f args [] (λr' _=>r'=r))(hp:r.clean=true):ZK P f args r:=by
 intro w st vs hst hvl;have nofoot: ∀b,¬ZL9 ⟨w,st,[]⟩ [] b:=λb ⟨i,o,p,h1,_⟩=>by simp at h1
 have R:Rel ⟨w,st,ZL9 ⟨w,st,[]⟩ []⟩ ⟨w,st,[]⟩ []:=⟨rfl,λi o p h=>WG,λi j o o' p p' b h=>WG,λb off hb=>⟨hst b off hb,λi o p h=>WG⟩,Kept.refl _ _,λi o p b h=>WG,λb off hb=> .inl hb⟩;refine(h _ ⟨w,st,[]⟩ vs R hvl).mono ?_;rintro e w' ⟨v,E',r',os',rfl,rfl,R',ev,hv,rfl⟩;refine⟨v,E'.st,rfl,⟨R'.kept.os,R'.kept.tape,R'.kept.output,R'.kept.size,λk hk _=>R'.kept.block k hk (nofoot k)⟩,λb o hb=>(ev.st b o hb).1,λb o hb=> ?_,hv.ofClean hp (λx v hx=>hx)⟩;rcases R'.sto b o hb with h1|h1|h1
 .exact .inl h1
 .exact absurd h1 (nofoot b)
 .exact .inr ⟨h1,(R'.stm b o hb).1⟩
theorem ZH.mcalls{f:FuncId}{args:J8}{r:D}{os':J7}(h:ZH P f args os (λr' os2=>r'=r/\os2=os')):ZQ P f args os r os':=by
 intro c E vs R hvl;refine(h c E vs R hvl).mono ?_;rintro e w' ⟨v,E',r',os2,rfl,rfl,R',ev,hv,rfl,rfl⟩;exact⟨v,E',rfl,rfl,R',ev,hv⟩
theorem enters{f:FuncId}{fn:Func}{ifn:IFn}(hfn:P.funcs[f]? =some fn)(hname:(fn.name== "runtime.NumGoroutine")=false)(hc:ZFl P fn=some ifn):Enters P f:=by
 intro args w;simp only[ZFl,YF]at hc;obtain⟨code,hb,_⟩:=hc;unfold callFunc;simp only[Sem.run_bind,run_program,Result.andThen_ok,hfn,hname,hb,Option.isNone_some,JV,if_false,Sem.run_pure]
end
section
variable {P:Program} {c:Ctx} {E E0:Env} {os os0:J7} {n:Nat} {Q:Exit->J4->J7->Prop} {φ:J4}
def Qc(s:List UInt8)(pos:Nat):Nat×Nat:=Utf8.decode (ZT s) pos
def IE.isNxt:IE->Bool
 | .nxt _ _=>true
 |_=>false
def NXT(x:Option IE):Prop:= ∀e,x=some e->IE.isNxt e=false
theorem NXT.none:NXT none:=λe h=>W6
theorem NXT.some{e:IE}(h:IE.isNxt e=false):NXT (some e):=λe' h'=>by cases h';exact h
theorem NXT.bind{α:Type}{x:Option α}{f:α->Option IE}(h: ∀y,NXT (f y)):NXT (x.bind f):=λe he=>by
 exact Gm
theorem NXT.bind'{α:Type}{x:Option α}{f:α->Option IE}(h: ∀y,NXT (f y)):NXT (x>>=f):=NXT.bind h
theorem NXT.map{α:Type}{x:Option α}{f:α->IE}(h: ∀y,IE.isNxt (f y)=false):NXT (x.map f):=λe he=>by
 exact GU
def IE.isExt:IE->Bool
 | .ext _ _=>true
 |_=>false
def EXT(x:Option IE):Prop:= ∀e,x=some e->IE.isExt e=false
theorem EXT.none:EXT none:=λe h=>W6
theorem EXT.some{e:IE}(h:IE.isExt e=false):EXT (some e):=λe' h'=>by cases h';exact h
theorem EXT.bind{α:Type}{x:Option α}{f:α->Option IE}(h: ∀y,EXT (f y)):EXT (x.bind f):=λe he=>by
 exact Gm
theorem EXT.bind'{α:Type}{x:Option α}{f:α->Option IE}(h: ∀y,EXT (f y)):EXT (x>>=f):=EXT.bind h
theorem EXT.map{α:Type}{x:Option α}{f:α->IE}(h: ∀y,IE.isExt (f y)=false):EXT (x.map f):=λe he=>by
 exact GU
theorem Zf6{P:Program}{op:Op}{st:Bool}{x:IO}(h:Ka P op=some (.nxt st x)): ∃x',op= .next x' st/\ZY x'=some x:=by
 cases op<;>simp only[Ka]at h<;>(try cases h)
 case next y b=>
  obtain⟨y',hy,h⟩:=Zf h;simp only[Yj,IE.nxt.injEq]at h;obtain⟨rfl,rfl⟩:=h;exact⟨y,rfl,hy⟩
 case makeFunc fn first caps=>
  exfalso;cases fn<;>simp only at h<;>(try cases h)
  split at h
  .obtain⟨_,_,h⟩:=Zf h;cases h
  .cases h
 all_goals
  exfalso;have hna:NXT (some (.nxt st x)):=by
   rw[<-h]
   repeat first|exact NXT.none|exact NXT.some rfl|(unfold ZB4)|(refine NXT.bind (λ_=> ?_))|(refine NXT.bind' (λ_=> ?_))|(refine NXT.map (λ_=>rfl))|split
  have:=hna _ rfl;cases this
theorem Zdx{P:Program}{op:Op}{t i:Nat}(h:Ka P op=some (.ext (.t t) i)):op= .extract (.tmp t) i:=by
 cases op<;>simp only[Ka]at h<;>(try cases h)
 case extract y b=>
  obtain⟨y',hy,h⟩:=Zf h;simp only[Yj,IE.ext.injEq]at h;obtain⟨rfl,rfl⟩:=h;cases y with
  |tmp u=>simp only[ZY,Yj,IO.t.injEq]at hy;rw[hy]
  |const v=>simp[ZY]at hy
  |global g=>simp[ZY]at hy
  |func f=>simp[ZY]at hy
 case makeFunc fn first caps=>
  exfalso;cases fn<;>simp only at h<;>(try cases h)
  split at h
  .obtain⟨_,_,h⟩:=Zf h;cases h
  .cases h
 all_goals
  exfalso;have hna:EXT (some (.ext (.t t) i)):=by
   rw[<-h]
   repeat first|exact EXT.none|exact EXT.some rfl|(unfold ZB4)|(refine EXT.bind (λ_=> ?_))|(refine EXT.bind' (λ_=> ?_))|(refine EXT.map (λ_=>rfl))|split
  have:=hna _ rfl;cases this
theorem ZSq{t:Nat}{st:Bool}{x:IO}{t2:Nat}{code:Code}(hc:Zl P n code=some (.reg [⟨some t,.nxt st x,none⟩,⟨some t2,.ext (.t t) 0,none⟩])):
  ∃id o1 o2 x',code= .region id #[o1,o2] false/\o1.dst=some t/\o1.guard=none/\o1.op= .next x' st/\ZY x'=some x/\t<n/\o2.dst=some t2/\o2.guard=none/\o2.op= .extract (.tmp t) 0/\t2<n:=by
 obtain⟨id,ops,rfl,h1⟩:=ZGV hc;obtain⟨l⟩:=ops
 match l,h1 with
 | [],h1=>simp at h1
 | [_],h1=>simp[ZAQ,YF]at h1
 |_::_::_::_,h1=>
  simp only[ZAQ,KE,YF,ZBD]at h1;obtain⟨_,_,_,⟨_,_,_,⟨_,_,_,_,h⟩,h'⟩,h1⟩:=h1;cases h;cases h';cases h1
 | [o1,o2],h1=>
  simp only[ZAQ,ZOs,KE,YF,ZBD]at h1;obtain⟨i1,h1,l1,⟨i2,h2,l2,h3,h4⟩,h5⟩:=h1;cases h3;cases h4;cases h5;simp only[JC,YF]at h1 h2;obtain⟨e1,c1,h1⟩:=h1;obtain⟨e2,c2,h2⟩:=h2;split at h1
  .rename_i d1;split at h2
   .rename_i d2;split at h1
    .rename_i g1;split at h2
     .rename_i g2;simp only[Yj,IOp.mk.injEq,and_true]at h1 h2;obtain⟨k1,rfl⟩:=h1;obtain⟨k2,rfl⟩:=h2;rw[k1]at d1;rw[k2]at d2;have hn:=Zf6 c1;have he:=Zdx c2;obtain⟨x',hx1,hx2⟩:=hn;exact⟨id,o1,o2,x',rfl,k1,g1,hx1,hx2,by simpa using d1,k2,g2,he,by simpa using d2⟩
     .rename_i g2;simp only[Kj,IOp.mk.injEq]at h2;obtain⟨_,_,_,_,h⟩:=h2;cases h
    .simp only[Kj,IOp.mk.injEq]at h1;obtain⟨_,_,_,_,h⟩:=h1;cases h
   .cases h2
  .cases h1
theorem ZLQ{id:Nat}{o1 o2:Oper}{x':Operand}{st:Bool}{t t2:Nat}{a:Act}{w w':World}{vs:Array Value}{b:Bool}{Q':Exit->Act->World->Prop}(d1:o1.dst=some t)(g1:o1.guard=none)(p1:o1.op= .next x' st)(d2:o2.dst=some t2)(g2:o2.guard=none)(p2:o2.op= .extract (.tmp t) 0)
  (ht:t<a.tmps.size) (hrun:(Instr.next (a.eval x') st o1.type).run P w= .ok (.tuple vs) w') (hv:vs[0]? =some (.bool b)) (h:Q' .normal ((a.put (some t) (.tuple vs)).put (some t2) (.bool b)) w'):(Code.region id #[o1,o2] false).wp P Q' a w:=by
 refine wp_region_list ?_;refine wpList_step λK hK=> ?_
 rw[if_pos (by simp[Region.wanted,g1])];unfold Oper.wp execOp;simp only[p1,Sem.run_bind,hrun,Result.andThen_ok,Sem.run_pure];rw[Oper.upon_value];refine hK _ _ ?_;refine wpList_step λK hK=> ?_
 rw[if_pos (by simp[Region.wanted,g2])];unfold Oper.wp execOp;have he:(a.put o1.dst (.tuple vs)).eval (.tmp t)= .tuple vs:=by
  rw[d1];simp[Act.eval,Act.put,ZD0,ht]
 simp only[p2,he,Instr.extract,hv,Sem.run_bind,Sem.run_pure,Result.andThen_ok];rw[Oper.upon_value];refine hK _ _ ?_;rw[d1,d2];exact h
variable {t t2 mid it:Nat} {x:IO}
theorem WI.nextS{m s:_}{pos:Nat}(ks:W0)(hx:(ZG φ x).val= .iref m it)(hcd:(ZG φ x).cond=true)(ho:os[it]? =some (.sit s pos))
  (hend: ¬pos<s.length->Q .normal (Go.Ab.keep ks (put (put φ t (.tup [.x (.bool false)])) t2 (.x (.bool false)))) os)
  (hgo:pos<s.length->Q .normal (Go.Ab.keep ks (put (put φ t (.tup [.x (.bool true),.x (.int .i64 pos),.x (.int .i32 (Qc s pos).1)])) t2 (.x (.bool true)))) (os.set it (.sit s (pos+(Qc s pos).2)))):
  WI P c E0 os0 n (.reg [⟨some t,.nxt true x,none⟩,⟨some t2,.ext (.t t) 0,none⟩]) Q φ os:=by
 intro code hc E a R hf;obtain⟨id,o1,o2,x',rfl,d1,g1,p1,hxo,ht,d2,g2,p2,ht2⟩:=ZSq hc;have hv:=(V.op hf hxo).strip hcd;rw[hx]at hv;generalize hva:a.eval x'=va at hv;cases hv with
 |iref ho' hk hb=>
  obtain⟨p,hp,hok⟩:=R.rel.at ho;have hpb:p.1=_:=congrArg Prod.fst (ZCf (hp.symm.trans hb));simp only at hpb;subst hpb;have hblk:E.w.heap[p.1]? =some (.stringIter (ZT s) pos):=hok;by_cases hlt:pos<s.length
  .have hset: ∀(o':Obj),(setObj p.1 o').run P E.w= .ok () {E.w with heap:=E.w.heap.setIfInBounds p.1 o'}:=λo'=>by simp[setObj,Sem.run,hblk]
   have hrun:(Instr.next (.pointer (some ⟨p.1,0,none⟩)) true o1.type).run P E.w= .ok (.tuple #[.bool true,.int .i64 pos,.int .i32 (Qc s pos).1]) {E.w with heap:=E.w.heap.setIfInBounds p.1 (.stringIter (ZT s) (pos+(Qc s pos).2))}:=by
    have hl:pos<(ZT s).size:=by rw[Qk];exact hlt
    simp only[Instr.next,getObj,Sem.run_bind,Sem.run,hblk,Result.andThen,hl,if_true];have e:(Utf8.decode (ZT s) pos)=Qc s pos:=rfl;rw[e];simp only[hset,Sem.run_pure];rfl
   have hplt:p.1<E.w.heap.size:=(ξH hblk).1;obtain⟨R',ev⟩:=R.rel.set ho hp {E.w with heap:=E.w.heap.setIfInBounds p.1 (.stringIter (ZT s) (pos+(Qc s pos).2))} (.sit s (pos+(Qc s pos).2)) p
    ⟨rfl,rfl,rfl,J1,λk _ hm=>by simp only[ZWV];rw[if_neg (show ¬p.1=k from hm)]⟩ (λb hb=> .inl hb) (λsz rs h=>W6) (λk h=>⟨rfl,h⟩) (λ_=>by
     show({E.w with heap:=_}:World).heap[p.1]? =_;simp[hplt])
   refine ZLQ d1 g1 p1 d2 g2 p2 NZ (by rw[hva];exact hrun) rfl ?_;refine⟨_,_,_,rfl,⟨R',R.evo.trans ev⟩,?_,hgo hlt⟩;refine Fr.keep ?_ ks;refine Fr.put (Fr.put (hf.mono ev) ht ?_) ht2 (V.mkbool _ _ _);exact V.tup3 (V.mkbool _ _ _) (V.mkint _ _ _ _) (V.mkint _ _ _ _)
  .have hrun:(Instr.next (.pointer (some ⟨p.1,0,none⟩)) true o1.type).run P E.w= .ok (.tuple #[.bool false]) E.w:=by
    have hl: ¬pos<(ZT s).size:=by rw[Qk];exact hlt
    simp only[Instr.next,getObj,Sem.run_bind,Sem.run,hblk,Result.andThen,hl,if_false,Sem.run_pure]
   refine ZLQ d1 g1 p1 d2 g2 p2 NZ (by rw[hva];exact hrun) rfl ?_;refine⟨E,_,_,rfl,R,?_,hend hlt⟩;exact GI
theorem ZN4: ∀ {L:List MapEntry} {i:Nat} {e:MapEntry},L[i]? =some e->(L.map (·.born)).Nodup->L.filter (λx=> !(x.born==e.born))=L.eraseIdx i
 | [],i,e,h,_=>WG
 |x::L,0,e,h,hn=>by
  simp only[ZC2,Yj]at h;subst h;simp only[YM,ZBE]at hn;rw[ZGu];simp only[beq_self_eq_true,ZOU,JV,if_false,List.eraseIdx_cons_zero];rw[Zct];intro y hy;simp only[ZGo,beq_eq_false_iff_ne,ne_eq];intro he;exact hn.1 (he▸YR.2 ⟨y,hy,rfl⟩)
 |x::L,i+1,e,h,hn=>by
  simp only[ZBn]at h;simp only[YM,ZBE]at hn;have hne:x.born≠e.born:=λhe=>hn.1 (he▸YR.2 ⟨e,Yz h,rfl⟩)
  rw[ZGu,if_pos (by simpa using hne),Za2,ZN4 h hn.2]
theorem ZaT(es:Array MapEntry)(seen:Array Nat){i:Nat}{e:MapEntry}(h:(leftOf es seen).toList[i]? =some e)(hn:(es.toList.map (·.born)).Nodup):(leftOf es (seen.push e.born)).toList=(leftOf es seen).toList.eraseIdx i:=by
 have h1:(leftOf es (seen.push e.born)).toList=(leftOf es seen).toList.filter (λx=> !(x.born==e.born)):=by
  unfold leftOf;rw[ZaZ,ZaZ,List.filter_filter];refine Zck λx _=> ?_
  rw[contains_push];cases seen.contains x.born<;>cases(x.born==e.born)<;>rfl
 rw[h1];refine ZN4 h ?_;have:((leftOf es seen).toList.map (·.born)).Sublist (es.toList.map (·.born)):=by
  unfold leftOf;rw[ZaZ];exact List.filter_sublist.map _
 exact this.nodup hn
theorem WI.nextM{dk:KK}{ag:Bool}{l R0:W2}{cur:Option Pr}(ks:W0)(hx:(ZG φ x).val= .iref mid it)(hcd:(ZG φ x).cond=true)(ho:os[mid]? =some (.mit dk ag l it R0 cur))
  (hend:R0= []->Q .normal (Go.Ab.keep ks (put (put φ t (.tup [.x (.bool false)])) t2 (.x (.bool false)))) os)
  (hgo: ∀(i:Nat) (q:Pr),R0[i]? =some q->Q .normal (Go.Ab.keep ks (put (put φ t .und) t2 (.x (.bool true)))) (os.set mid (.mit dk ag l it (R0.eraseIdx i) (some q)))):
  WI P c E0 os0 n (.reg [⟨some t,.nxt false x,none⟩,⟨some t2,.ext (.t t) 0,none⟩]) Q φ os:=by
 intro code hc E a R hf;obtain⟨id,o1,o2,x',rfl,d1,g1,p1,hxo,ht,d2,g2,p2,ht2⟩:=ZSq hc;have hv:=(V.op hf hxo).strip hcd;rw[hx]at hv;generalize hva:a.eval x'=va at hv;cases hv with
 |iref ho' hk hb=>
  obtain⟨p,hp,hok⟩:=R.rel.at ho;have hok0:=hok;obtain⟨hMO,ib,cu,es,clk,since,seen,c0,o,k1,k2,k3,k4,k5,k6,k7,k8,k9,k10,k11⟩:=hok;have hib:ib=_:=congrArg Prod.fst (ZCf (k4.symm.trans hb));simp only at hib;subst hib;rcases run_next_at (P:=P) E.w o1.type ib p.1 since c0 seen es clk k5 k6 k7 k8.1 with⟨hz,hrun⟩|⟨e,he,w1,hw1,hrun⟩
  .have hR:R0= []:=by
    have h1:=k10.1;rw[Qw,hz]at h1;exact ξS h1.symm
   refine ZLQ d1 g1 p1 d2 g2 p2 NZ (by rw[hva];exact hrun) rfl ?_;refine⟨E,_,_,rfl,R,?_,hend hR⟩;exact GI
  .obtain⟨i,hi⟩:=ZEi.1 he;have hil:i<R0.length:=by rw[<-k10.1];exact(ZV hi).1
   have hq:R0[i]? =some R0[i]:=Zx hil;have hpo:=k10.2 i e _ hi hq;have hwh:w1.heap=E.w.heap/\w1.os=E.w.os/\w1.tape=E.w.tape/\w1.output=E.w.output:=by rcases hw1 with rfl|rfl<;>exact⟨rfl,rfl,rfl,rfl⟩
   have hibl:ib<E.w.heap.size:=(ξH k5).1;have hne:ib≠p.1:=λe=>by rw[e,k6]at k5;cases k5
   have hsb: ∀k,(ChangeMaps.setBlock w1 ib (.mapIter (some p.1) since (seen.push e.born) clk)).heap[k]? =if k=ib then some (.mapIter (some p.1) since (seen.push e.born) clk)else E.w.heap[k]? :=λk=>by
    simp only[ChangeMaps.setBlock,ZWV,hwh.1];by_cases h:ib=k
    .subst h;simp[hibl]
    .simp[h,Ne.symm h]
   obtain⟨R',ev⟩:=R.rel.set ho hp (ChangeMaps.setBlock w1 ib (.mapIter (some p.1) since (seen.push e.born) clk)) (.mit dk ag l it (R0.eraseIdx i) (some R0[i])) p
    ⟨hwh.2.1,hwh.2.2.1,hwh.2.2.2,by simp[ChangeMaps.setBlock,hwh.1],λk _ hm=>by rw[hsb,if_neg (λe=>hm (.inr (by rw[e];exact k1)))]⟩ (λb hb=> .inl hb) (λsz rs h=>W6) (λk h=>⟨rfl,h⟩) (λev=>by
     obtain⟨cu',o',q1,q2,q3⟩:=ev.bl _ _ _ _ _ k2 k3 k4;refine⟨hMO.mono ev (by rw[hsb,if_neg (Ne.symm hne)]),ib,cu',es,clk,since,seen.push e.born,clk,o',k1,q1,q2,q3,by rw[hsb,if_pos rfl],by rw[hsb,if_neg (Ne.symm hne)];exact k6,k7,⟨k8.2,k8.2⟩,k9,?_,λq hq=> ?_⟩
     .rw[ZaT es seen hi k9];refine ZGH.mono ev ⟨?_,λj y q hy hq=> ?_⟩
      .rw[ZWt,ZWt,k10.1]
      .rw[List.getElem?_eraseIdx]at hy hq;split at hy
       .rename_i hj;rw[if_pos hj]at hq;exact k10.2 j y q hy hq
       .rename_i hj;rw[if_neg hj]at hq;exact k10.2 (j+1) y q hy hq
     .cases hq;exact⟨rfl,seen,e,rfl,(mem_left he).1,hpo.mono ev⟩)
   refine ZLQ d1 g1 p1 d2 g2 p2 NZ (by rw[hva];exact hrun) rfl ?_;refine⟨_,_,_,rfl,⟨R',R.evo.trans ev⟩,?_,hgo i _ hq⟩;refine Fr.keep ?_ ks;exact Fr.put (Fr.put (hf.mono ev) ht (.und _)) ht2 (V.mkbool _ _ _)
theorem WI.thaw(mid:Nat){ic:IC}{dk:KK}{ag:Bool}{l R0:W2}{cur:Option Pr}(ho:os[mid]? =some (.mit dk ag l it R0 cur))(h:WI P c E0 os0 n ic Q φ (os.set mid (.mpo dk ag l))):WI P c E0 os0 n ic Q φ os:=by
 refine WI.weak (λE a R hf=> ?_) h;obtain⟨p,hp,hok⟩:=R.rel.at ho;obtain⟨R',ev⟩:=R.rel.set ho hp E.w (.mpo dk ag l) p (Kept.refl _ _) (λb hb=> .inl (.inl hb)) (λsz rs h=>W6) (λk h=>⟨rfl,h⟩) (λev=>hok.1.mono ev rfl);exact⟨⟨E.w,E.st,E.ob.set mid p⟩,rfl,⟨R',R.evo.trans ev⟩,hf.mono ev⟩
end
mutual
def D.ren(f:Nat->Nat):D->D
 | .ref id a b c=> .ref (f id) a b c
 | .ptr id o=> .ptr (f id) o
 | .eptr id a b c=> .eptr (f id) a b c
 | .agg ds=> .agg (YA f ds)
 | .tup ds=> .tup (YA f ds)
 | .fn g caps=> .fn g (YA f caps)
 | .opt b d=> .opt b (d.ren f)
 | .x y=> .x y
 | .vptr cs=> .vptr cs
 | .mref id=> .mref (f id)
 | .mnil=> .mnil
 | .iref mid id=> .iref (f mid) (f id)
 | .stk mid id=> .stk (f mid) (f id)
 | .bref id o l=> .bref (f id) o l
 | .full rs=> .full rs
 | .nz rs=> .nz rs
 | .und=> .und
def YA(f:Nat->Nat):J8->J8
 | []=> []
 |d::l=>d.ren f::YA f l
end
mutual
def D.inP(p:Nat->Bool):D->Bool
 | .ref id _ _ _=>p id
 | .ptr id _=>p id
 | .eptr id _ _ _=>p id
 | .agg ds=>JE p ds
 | .tup ds=>JE p ds
 | .fn _ caps=>JE p caps
 | .opt _ d=>d.inP p
 | .x _=>true
 | .vptr _=>true
 | .mref id=>p id
 | .mnil=>true
 | .iref mid id=>p mid&&p id
 | .stk mid id=>p mid&&p id
 | .bref id _ _=>p id
 | .full _=>true
 | .nz _=>true
 | .und=>true
def JE(p:Nat->Bool):J8->Bool
 | []=>true
 |d::l=>d.inP p&&JE p l
end
def Jn(f:Nat->Nat)(q:Pr):Pr:=(q.1,YA f q.2)
def ZAS(p:Nat->Bool)(q:Pr):Bool:=JE p q.2
def Ob.ren(f:Nat->Nat):Ob->Ob
 | .box ds=> .box (YA f ds)
 | .rows fz e sz rs=> .rows fz e sz rs
 | .drw e sz rs=> .drw e sz (rs.map (YA f))
 | .frz sz rs=> .frz sz rs
 | .mpo dk ag l=> .mpo dk ag (l.map (Jn f))
 | .mit dk ag l it R cur=> .mit dk ag (l.map (Jn f)) (f it) (R.map (Jn f)) (cur.map (Jn f))
 | .mpn dk ag l key sid=> .mpn dk ag (l.map (Jn f)) key (f sid)
 | .itr=> .itr
 | .stp=> .stp
 | .nit=> .nit
 | .sit s pos=> .sit s pos
 | .old s n=> .old s n
 | .fam k P B=> .fam k P B
 | .dead=> .dead
def Ob.inP(p:Nat->Bool):Ob->Bool
 | .box ds=>JE p ds
 | .drw _ _ rs=>rs.all (JE p)
 | .mpo _ _ l=>l.all (ZAS p)
 | .mit _ _ l it R cur=>l.all (ZAS p)&&(p it&&(R.all (ZAS p)&&cur.all (ZAS p)))
 | .mpn _ _ l _ sid=>l.all (ZAS p)&&p sid
 |_=>true
theorem QP(f:Nat->Nat): ∀l,YA f l=l.map (D.ren f)
 | []=>rfl
 |d::l=>by simp[YA,QP f l]
theorem ZBw(p:Nat->Bool): ∀l,JE p l=l.all (D.inP p)
 | []=>rfl
 |d::l=>by simp[JE,ZBw p l]
structure EvoR (f:Nat->Nat) (p:Nat->Bool) (E:Env) (os:J7) (E':Env) (os':J7):Prop where
 st: ∀b o,E.st b o->E'.st b o/\E'.w.cell? ⟨b,o,none⟩=E.w.cell? ⟨b,o,none⟩
 bl: ∀(id b:Nat) (cu:Value) (o:Ob) (k:Kd),p id=true->os[id]? =some o->o.kd=some k->E.ob[id]? =some (b,cu)-> ∃cu' o',os'[f id]? =some o'/\o'.kd=some k/\E'.ob[f id]? =some (b,cu')
 rf: ∀(id:Nat) (o:Ob) (sz n:Nat),p id=true->os[id]? =some o->o.sl? =some (sz,n)->
  ∃o' n',os'[f id]? =some o'/\o'.sl? =some (sz,n')/\((n=n'/\E'.ob[f id]? =E.ob[id]?)\/n<n')
theorem V.monoR{f:Nat->Nat}{p:Nat->Bool}{E E':Env}{os os':J7}(e:EvoR f p E os E' os'){d:D}{v:Value}(h:V E os d v):d.inP p=true->V E' os' (d.ren f) v:=by
 have lst: ∀ {ds:J8} {vs:Array Value},(∀(j:Nat) (d:D) (v:Value),ds[j]? =some d->vs[j]? =some v->d.inP p=true->V E' os' (d.ren f) v)->JE p ds=true-> ∀(j:Nat) (d:D) (v:Value),(YA f ds)[j]? =some d->vs[j]? =some v->V E' os' d v:=by
  intro ds vs ih hp j d v hd hv;rw[QP,YE]at hd;obtain⟨d0,h0,rfl⟩:=Za hd;rw[ZBw]at hp;exact ih j d0 v h0 hv (Yg.1 hp d0 (Yz h0))
 induction h with
 |x h=>intro _;exact .x (h.mono e.st)
 |ref h h1=>
  intro hp;obtain⟨o,sz,rs,g1,g2,g3,g4⟩:=h;obtain⟨o',rs',k1,k2,k3⟩:=e.rf _ o sz rs hp g1 g2;refine .ref ⟨o',sz,rs',k1,k2,?_⟩ h1;rcases k3 with⟨k3,k4⟩|k3
  .refine⟨J0,λhl=> ?_⟩;obtain⟨h5,b,a,cap,a',cap',h6,h7⟩:=g4 J0;exact⟨h5,b,a,cap,a',cap',k4.trans h6,h7⟩
  .exact⟨J0,λhl=>absurd hl J0⟩
 |ptr ho h=>intro hp;obtain⟨cu',o',h1,h2,h3⟩:=e.bl _ _ _ _ .box hp ho rfl h;obtain⟨ds',rfl⟩:=Ob.kd_box h2;exact .ptr h1 h3
 |mref ho hk h=>intro hp;obtain⟨cu',o',h1,h2,h3⟩:=e.bl _ _ _ _ _ hp ho hk h;exact .mref h1 h2 h3
 |mnil=>intro _;exact .mnil
 |iref ho hk h=>intro hp;simp only[D.inP,Zk]at hp;obtain⟨cu',o',h1,h2,h3⟩:=e.bl _ _ _ _ _ hp.2 ho hk h;exact .iref h1 h2 h3
 |stk ho hk h=>intro hp;simp only[D.inP,Zk]at hp;obtain⟨cu',o',h1,h2,h3⟩:=e.bl _ _ _ _ _ hp.2 ho hk h;exact .stk h1 h2 h3
 |bref ho h hm=>intro hp;obtain⟨cu',o',h1,h2,h3⟩:=e.bl _ _ _ _ .box hp ho rfl h;obtain⟨ds',rfl⟩:=Ob.kd_box h2;exact .bref h1 h3 hm
 |eptr h h1=>
  intro hp;obtain⟨o,sz,rs,g1,g2,g3,g4⟩:=h;obtain⟨o',rs',k1,k2,k3⟩:=e.rf _ o sz rs hp g1 g2;refine .eptr ⟨o',sz,rs',k1,k2,?_⟩ h1;rcases k3 with⟨k3,k4⟩|k3
  .refine⟨J0,λhl=> ?_⟩;obtain⟨h5,b,g,cap,h6,h7⟩:=g4 J0;exact⟨h5,b,g,cap,k4.trans h6,h7⟩
  .exact⟨J0,λhl=>absurd hl J0⟩
 |vptr b off val hc hv=>intro _;exact UG
 |agg vs hl h1 _ ih=>intro hp;exact .agg vs (by rw[QP];simpa using hl) h1 (lst ih hp)
 |tup vs hl _ ih=>intro hp;exact .tup vs (by rw[QP];simpa using hl) (lst ih hp)
 |full n h=>intro _;exact .full n (h.mono e.st)
 |nz h=>intro _;exact .nz (h.mono e.st)
 |fn vs hl _ ih=>intro hp;exact .fn vs (by rw[QP];simpa using hl) (lst ih hp)
 |opt _ h' ih=>intro hp;exact .opt (λhb=>ih hb hp) h'
 |und v=>intro _;exact .und v
theorem Ob.ren_sl(f:Nat->Nat)(o:Ob):(o.ren f).sl? =o.sl? :=by cases o<;>simp[Ob.ren,Ob.sl?]
theorem Ob.ren_kd(f:Nat->Nat)(o:Ob):(o.ren f).kd=o.kd:=GH
theorem Ob.ren_mb(f:Nat->Nat)(o:Ob)(q:Nat×Value):(o.ren f).mb q=o.mb q:=GH
theorem VC.monoR{f:Nat->Nat}{p:Nat->Bool}{E E':Env}{os os':J7}(e:EvoR f p E os E' os'){ag:Bool}{ds:J8}{v:Value}(h:VC E os ag ds v)(hp:JE p ds=true):VC E' os' ag (YA f ds) v:=by
 obtain⟨h1,h2,h3⟩:=h;refine⟨?_,by rw[QP];simpa using h2,λj d u hd hu=> ?_⟩
 .rw[QP];cases ag with
  |true=>exact h1
  |false=>simp only[JV,if_false,YZ]at h1|-;exact h1
 .rw[QP,YE]at hd;obtain⟨d0,h0,rfl⟩:=Za hd;rw[ZBw]at hp;exact⟨(h3 j d0 u h0 hu).1.monoR e (Yg.1 hp d0 (Yz h0)),(h3 j d0 u h0 hu).2⟩
theorem YI.monoR{f:Nat->Nat}{p:Nat->Bool}{E E':Env}{os os':J7}(e:EvoR f p E os E' os'){b:Nat}{dk:KK}{ag:Bool}{l:W2}(hb:E'.w.heap[b]? =E.w.heap[b]?)(h:YI E os b dk ag l)(hp:l.all (ZAS p)=true):YI E' os' b dk ag (l.map (Jn f)):=by
 have key: ∀ {κ:Type} [DecidableEq κ] {mk:κ->Value} {kx:κ->J9},ZCd mk kx E os b ag l->ZCd mk kx E' os' b ag (l.map (Jn f)):=by
  intro κ _ mk kx ⟨l',h1,h2,h3⟩;refine⟨l',h1.keep hb,U9,λi a q ha hq=> ?_⟩;rw[YE]at hq;obtain⟨q0,hq0,rfl⟩:=Za hq;obtain⟨k1,k2⟩:=h3 i a q0 ha hq0;exact⟨k1,k2.monoR e (Yg.1 hp q0 (Yz hq0))⟩
 cases dk with
 |int k=>exact key h
 |str=>exact key h
 |st a b=>exact h.elim
theorem ZGH.monoR{f:Nat->Nat}{p:Nat->Bool}{E E':Env}{os os':J7}(e:EvoR f p E os E' os'){dk:KK}{ag:Bool}{L:List MapEntry}{R:W2}(h:ZGH E os dk ag L R)(hp:R.all (ZAS p)=true):ZGH E' os' dk ag L (R.map (Jn f)):=by
 refine⟨by simpa using h.1,λi x q hx hq=> ?_⟩;rw[YE]at hq;obtain⟨q0,hq0,rfl⟩:=Za hq;obtain⟨k1,k2⟩:=h.2 i x q0 hx hq0;exact⟨k1,k2.monoR e (Yg.1 hp q0 (Yz hq0))⟩
theorem OK.monoR{f:Nat->Nat}{p:Nat->Bool}{E E':Env}{os os':J7}(e:EvoR f p E os E' os'){o:Ob}{q:Nat×Value}(hb: ∀b,o.mb q b->E'.w.heap[b]? =E.w.heap[b]?)(h:OK E os o q)(hp:o.inP p=true):OK E' os' (o.ren f) q:=by
 cases o with
 |box ds=>
  obtain⟨cs,ty,h1,h2,h3⟩:=h;refine⟨cs,ty,by rw[hb _ rfl];exact h1,by rw[QP];simpa using h2,λj d v hd hv=> ?_⟩;rw[QP,YE]at hd;obtain⟨d0,h0,rfl⟩:=Za hd;simp only[Ob.inP,ZBw]at hp;exact⟨(h3 j d0 v h0 hv).1.monoR e (Yg.1 hp d0 (Yz h0)),(h3 j d0 v h0 hv).2⟩
 |rows fz el sz rs=>
  obtain⟨xs,h1,h2,h3⟩:=h;exact⟨xs,h1.kept hb,h2,λi r j x v hr hx hv=>(h3 i r j x v hr hx hv).mono e.st⟩
 |drw el sz rs=>
  obtain⟨xs,h1,h2,h3⟩:=h;refine⟨xs,by rw[YZ];exact h1.kept hb,λr hr=> ?_,λi r j d v hr hd hv=> ?_⟩
  .obtain⟨r0,h0,rfl⟩:=YR.1 hr;rw[QP,YZ];exact h2 r0 h0
  .rw[YE]at hr;obtain⟨r0,h0,rfl⟩:=Za hr;rw[QP,YE]at hd;obtain⟨d0,hd0,rfl⟩:=Za hd;have hp':=Yg.1 hp r0 (Yz h0);rw[ZBw]at hp';exact⟨(h3 i r0 j d0 v h0 hd0 hv).1.monoR e (Yg.1 hp' d0 (Yz hd0)),(h3 i r0 j d0 v h0 hd0 hv).2⟩
 |frz sz rs=>exact⟨h.1.mono e.st,h.2⟩
 |mpo dk ag l=>exact YI.monoR e (hb _ rfl) h hp
 |mit dk ag l it R cur=>
  simp only[Ob.inP,Zk]at hp;obtain⟨hp1,hp2,hp3,hp4⟩:=hp;refine⟨YI.monoR e (hb _ (.inl rfl)) h.1 hp1,?_⟩;obtain⟨_,ib,cu,es,clk,since,seen,c0,o,h1,h2,h3,h4,h5,h6,h7,h8,h9,h10,h11⟩:=h;obtain⟨cu',o',k1,k2,k3⟩:=e.bl _ _ _ _ _ hp2 h2 h3 h4;refine⟨ib,cu',es,clk,since,seen,c0,o',h1,k1,k2,k3,by rw[hb ib (.inr h1)];exact h5,by rw[hb _ (.inl rfl)];exact h6,h7,h8,h9,h10.monoR e hp3,λq hq=> ?_⟩;obtain⟨q0,hq0,rfl⟩:=Za hq;obtain⟨g1,s',x,g2,g3,g4⟩:=h11 q0 hq0;subst hq0;exact⟨g1,s',x,g2,g3,g4.1,g4.2.monoR e hp4⟩
 |mpn dk ag l key sid=>
  simp only[Ob.inP,Zk]at hp;refine⟨YI.monoR e (hb _ rfl) h.1 hp.1,?_⟩;obtain⟨_,n,cu,o,es,clk,x,h1,h2,h3,h4,h5⟩:=h;obtain⟨cu',o',k1,k2,k3⟩:=e.bl _ _ _ _ _ hp.2 h1 h2 h3;exact⟨n,cu',o',es,clk,x,k1,k2,k3,by rw[hb _ rfl];exact h4,h5⟩
 |sit s pos=>show E'.w.heap[q.1]? =_;rw[hb _ rfl];exact h
 |nit=>obtain⟨a,s,b,h⟩:=h;exact⟨a,s,b,by rw[hb _ rfl];exact h⟩
 |itr=>trivial
 |stp=>trivial
 |old _ _=>trivial
 |fam _ _ _=>exact h.imp λos' h=>h.imp λob' h=>⟨h.1,h.2.mono e.st hb⟩
 |dead=>trivial
def inv:W0->Nat->Nat
 | [],_=>0
 |r::l,i=>if i=r then 0 else inv l i+1
def KI:J7->W0->J7->J7
 |OS,r::ρ,o::os=>KI (OS.set r o) ρ os
 |OS,_,_=>OS
def ZDK:List (Nat×Value)->W0->List (Nat×Value)->List (Nat×Value)
 |l,r::ρ,o::os=>ZDK (l.set r o) ρ os
 |l,_,_=>l
theorem ZGU: ∀ {ρ:W0} {i:Nat},i∈ρ->ρ[inv ρ i]? =some i
 |r::l,i,h=>by
  simp only[inv];split
  .rename_i h1;subst h1;rfl
  .rename_i h1;simp only[ZBn];exact ZGU (by simpa[h1]using h)
theorem ZKq: ∀ {ρ:W0},ρ.Nodup-> ∀ {i r:Nat},ρ[i]? =some r->inv ρ r=i
 | [],_,i,r,h=>WG
 |q::l,hn,i,r,h=>by
  rw[ZBE]at hn;cases i with
  |zero=>simp at h;subst h;simp[inv]
  |succ i=>
   have h':l[i]? =some r:=WJ
   have:r∈l:=Yz h';have hne:r≠q:=λe=>hn.1 (e▸this)
   simp only[inv,hne,if_false,ZKq hn.2 h']
theorem ZJl: ∀(ρ:W0) (os OS:J7),(KI OS ρ os).length=OS.length
 | [],os,OS=>by cases os<;>rfl
 |r::ρ,[],OS=>rfl
 |r::ρ,o::os,OS=>by simp only[KI];rw[ZJl ρ os];simp
theorem ZJK: ∀(ρ:W0) (os OS:J7) (j:Nat),j∉ρ->(KI OS ρ os)[j]? =OS[j]?
 | [],os,OS,j,_=>by cases os<;>rfl
 |r::ρ,[],OS,j,_=>rfl
 |r::ρ,o::os,OS,j,h=>by
  simp only[KI];rw[ZJK ρ os _ j (λhm=>h (by simp[hm])),ZAX (λe=>h (by simp[e]))]
theorem ZPc: ∀(ρ:W0) (os OS:J7),ρ.Nodup->(∀r∈ρ,r<OS.length)-> ∀(i r:Nat) (o:Ob),ρ[i]? =some r->os[i]? =some o->(KI OS ρ os)[r]? =some o
 | [],os,OS,_,_,i,r,o,h,_=>WG
 |q::ρ,[],OS,_,_,i,r,o,_,h=>WG
 |q::ρ,x::os,OS,hn,hl,i,r,o,h,ho=>by
  rw[ZBE]at hn;simp only[KI];cases i with
  |zero=>
   simp at h ho;subst h;subst ho;rw[ZJK ρ os _ _ hn.1,ZEK (hl _ J1)]
  |succ i=>exact ZPc ρ os _ hn.2 (λr hr=>by simp;exact hl r (by simp[hr])) i r o WJ Gw
theorem ZH6: ∀(ρ:W0) (os OS:List (Nat×Value)),(ZDK OS ρ os).length=OS.length
 | [],os,OS=>by cases os<;>rfl
 |r::ρ,[],OS=>rfl
 |r::ρ,o::os,OS=>by simp only[ZDK];rw[ZH6 ρ os];simp
theorem ZHn: ∀(ρ:W0) (os OS:List (Nat×Value)) (j:Nat),j∉ρ->(ZDK OS ρ os)[j]? =OS[j]?
 | [],os,OS,j,_=>by cases os<;>rfl
 |r::ρ,[],OS,j,_=>rfl
 |r::ρ,o::os,OS,j,h=>by
  simp only[ZDK];rw[ZHn ρ os _ j (λhm=>h (by simp[hm])),ZAX (λe=>h (by simp[e]))]
theorem ZOM: ∀(ρ:W0) (os OS:List (Nat×Value)),ρ.Nodup->(∀r∈ρ,r<OS.length)-> ∀(i r:Nat) (o:Nat×Value),ρ[i]? =some r->os[i]? =some o->(ZDK OS ρ os)[r]? =some o
 | [],os,OS,_,_,i,r,o,h,_=>WG
 |q::ρ,[],OS,_,_,i,r,o,_,h=>WG
 |q::ρ,x::os,OS,hn,hl,i,r,o,h,ho=>by
  rw[ZBE]at hn;simp only[ZDK];cases i with
  |zero=>
   simp at h ho;subst h;subst ho;rw[ZHn ρ os _ _ hn.1,ZEK (hl _ J1)]
  |succ i=>exact ZOM ρ os _ hn.2 (λr hr=>by simp;exact hl r (by simp[hr])) i r o WJ Gw
def Yb(ρ:W0)(OS:J7):J7:=ρ.map λr=>(OS.getD r .dead).ren (inv ρ)
def fpE(ρ:W0)(E:Env):Env:=⟨E.w,E.st,ρ.map λr=>E.ob.getD r (0,undef)⟩
def KH(ρ:W0)(n _:Nat)(i:Nat):Nat:=if i<ρ.length then ρ.getD i 0 else n+(i-ρ.length)
def KS(ρ:W0)(OS os':J7):J7:=KI OS ρ (os'.map (Ob.ren (KH ρ OS.length os'.length)))++(os'.map (Ob.ren (KH ρ OS.length os'.length))).drop ρ.length
def ZHj(ρ:W0)(E E1:Env):Env:=⟨E1.w,E1.st,ZDK E.ob ρ E1.ob++E1.ob.drop ρ.length⟩
theorem inP_true: ∀d:D,d.inP (λ_=>true)=true:=by
 intro d;refine D.rec (motive_1:=λd=>d.inP (λ_=>true)=true) (motive_2:=λl=>JE (λ_=>true) l=true) ?_ ?_ ?_ ?_ ?_ ?_ ?_ ?_ ?_ ?_ ?_ ?_ ?_ ?_ ?_ ?_ ?_ ?_ ?_ d
 all_goals intros
 all_goals first|rfl|(simp only[D.inP,JE];simp_all)
theorem ZFm(q:Pr):ZAS (λ_=>true) q=true:=by
 simp only[ZAS,ZBw];exact Yg.2 (λd _=>inP_true d)
theorem Ob.inP_true(o:Ob):o.inP (λ_=>true)=true:=by
 cases o with
 |box ds=>simp only[Ob.inP,ZBw];exact Yg.2 (λd _=>Go.Ab.inP_true d)
 |drw e sz rs=>exact Yg.2 (λr _=>by rw[ZBw];exact Yg.2 (λd _=>Go.Ab.inP_true d))
 |mpo dk ag l=>exact Yg.2 (λq _=>ZFm q)
 |mit dk ag l it R cur=>
  simp only[Ob.inP,Zk];exact⟨Yg.2 (λq _=>ZFm q),trivial,Yg.2 (λq _=>ZFm q),by cases cur with|none=>rfl|some q=>exact ZFm q⟩
 |mpn dk ag l key sid=>
  simp only[Ob.inP,Zk];exact⟨Yg.2 (λq _=>ZFm q),trivial⟩
 |_=>rfl
section
variable {c:Ctx} {E:Env} {OS:J7} {ρ:W0}
theorem ZIr(R:Rel c E OS)(hlt: ∀r∈ρ,r<OS.length){i:Nat}{o:Ob}(h:(Yb ρ OS)[i]? =some o): ∃r o0 p,ρ[i]? =some r/\OS[r]? =some o0/\o=o0.ren (inv ρ)/\E.ob[r]? =some p/\(fpE ρ E).ob[i]? =some p:=by
 simp only[Yb,YE,Kj]at h;obtain⟨r,hr,rfl⟩:=h;have hl:=hlt r (Yz hr);have hob:E.ob[r]? =some (E.ob[r]'(by rw[R.len];exact hl)):=Zx _;refine⟨r,OS[r]'hl,_,hr,Zx hl,by simp[List.getD,hl],hob,?_⟩;simp only[fpE,YE,hr,Yr,List.getD,hob,Qu]
theorem ZKD(R:Rel c E OS)(_: ∀r∈ρ,r<OS.length):EvoR (inv ρ) (λi=>Zi i ρ) E OS (fpE ρ E) (Yb ρ OS):=by
 have key: ∀id o,Zi id ρ=true->OS[id]? =some o->(Yb ρ OS)[inv ρ id]? =some (o.ren (inv ρ))/\(fpE ρ E).ob[inv ρ id]? =E.ob[id]? :=by
  intro id o hp ho;have hr:=ZGU (ZB7.1 hp);have hl:=(ZV ho).1;have hob:E.ob[id]? =some (E.ob[id]'(by rw[R.len];exact hl)):=Zx _;refine⟨by simp only[Yb,YE,hr,Yr,List.getD,ho,Qu],by simp only[fpE,YE,hr,Yr,List.getD,hob,Qu]⟩
 refine⟨λb o h=>⟨h,rfl⟩,λid b cu ds k hp ho hkd hb=> ?_,λid o sz rs hp ho hs=> ?_⟩
 .obtain⟨k1,k2⟩:=key id _ hp ho;exact⟨cu,_,k1,by rw[Ob.ren_kd];exact hkd,k2.trans hb⟩
 .obtain⟨k1,k2⟩:=key id _ hp ho;exact⟨_,rs,k1,by rw[Ob.ren_sl];exact hs,.inl ⟨rfl,k2⟩⟩
theorem ZZb(R:Rel c E OS)(hn:ρ.Nodup)(hlt: ∀r∈ρ,r<OS.length)(hcl: ∀r∈ρ,(OS.getD r .dead).inP (λi=>Zi i ρ)=true):Rel ⟨E.w,E.st,ZL9 (fpE ρ E) (Yb ρ OS)⟩ (fpE ρ E) (Yb ρ OS):=by
 have ev:=ZKD R hlt;refine⟨by simp[fpE,Yb],λi o p h1 h2=> ?_,λi j o o' p p' b h1 h2 h3 h4 h5 h6=> ?_,λb off hs=>⟨(R.stm b off hs).1,λi o p h1 h2 h3=> ?_⟩,Kept.refl _ _,λi o p b h1 h2 h3=> .inl ⟨i,o,p,h1,h2,h3⟩,λb off hs=> .inl hs⟩
 .obtain⟨r,o0,p0,k1,k2,rfl,k4,k5⟩:=ZIr R hlt h1;rw[h2]at k5;cases k5;have:=hcl r (Yz k1);simp only[List.getD,k2,Qu]at this;exact(R.ok r o0 p k2 k4).monoR ev (λ_ _=>rfl) this
 .obtain⟨r,o0,p0,k1,k2,rfl,k4,k5⟩:=ZIr R hlt h1;obtain⟨r',o0',p0',k1',k2',rfl,k4',k5'⟩:=ZIr R hlt h3;rw[h2]at k5;cases k5;rw[h4]at k5';cases k5';rw[Ob.ren_mb]at h5 h6;have:=R.dis r r' o0 o0' p p' b k2 k4 k2' k4' h5 h6;subst this;rw[<-ZKq hn k1,<-ZKq hn k1']
 .obtain⟨r,o0,p0,k1,k2,rfl,k4,k5⟩:=ZIr R hlt h1;rw[h2]at k5;cases k5;rw[Ob.ren_mb]at h3;exact(R.stm b off hs).2 r o0 p k2 k4 h3
theorem ZMo(R:Rel c E OS)(hlt: ∀r∈ρ,r<OS.length){j:Nat}{o:Ob}{p:Nat×Value}{b:Nat}(ho:OS[j]? =some o)(hp:E.ob[j]? =some p)(hj:j∉ρ)(hb:o.mb p b): ¬ZL9 (fpE ρ E) (Yb ρ OS) b:=by
 rintro⟨i,o1,p1,h1,h2,h3⟩;obtain⟨r,o0,p0,k1,k2,rfl,k4,k5⟩:=ZIr R hlt h1;rw[h2]at k5;cases k5;rw[Ob.ren_mb]at h3;have:=R.dis j r o o0 p p1 b ho hp k2 k4 hb h3;subst this;exact hj (Yz k1)
theorem ZOQ(R:Rel c E OS)(hlt: ∀r∈ρ,r<OS.length){b:Nat}(h:ZL9 (fpE ρ E) (Yb ρ OS) b):(c.M b\/c.w0.heap.size<=b)/\b<E.w.heap.size:=by
 obtain⟨i,o1,p1,h1,h2,h3⟩:=h;obtain⟨r,o0,p0,k1,k2,rfl,k4,k5⟩:=ZIr R hlt h1;rw[h2]at k5;cases k5;rw[Ob.ren_mb]at h3;exact⟨R.mbs r o0 p1 b k2 k4 h3,(R.ok r o0 p1 k2 k4).lt h3⟩
theorem ZfE(R:Rel c E OS)(hn:ρ.Nodup)(hlt: ∀r∈ρ,r<OS.length){E1:Env}{os':J7}(R1:Rel ⟨E.w,E.st,ZL9 (fpE ρ E) (Yb ρ OS)⟩ E1 os')(ev:Evo (fpE ρ E) (Yb ρ OS) E1 os')(hk:ρ.length<=os'.length):
  Rel c (ZHj ρ E E1) (KS ρ OS os')/\Evo E OS (ZHj ρ E E1) (KS ρ OS os')/\ ∀d v,V E1 os' d v->V (ZHj ρ E E1) (KS ρ OS os') (d.ren (KH ρ OS.length os'.length)) v:=by
 have hlE:(ZDK E.ob ρ E1.ob).length=OS.length:=by rw[ZH6,R.len]
 have hlO:(KI OS ρ (os'.map (Ob.ren (KH ρ OS.length os'.length)))).length=OS.length:=ZJl _ _ _;have hltE: ∀r∈ρ,r<E.ob.length:=λr hr=>by rw[R.len];exact hlt r hr
 have cal: ∀i o',os'[i]? =some o'->(KS ρ OS os')[KH ρ OS.length os'.length i]? =some (o'.ren (KH ρ OS.length os'.length))/\(ZHj ρ E E1).ob[KH ρ OS.length os'.length i]? =E1.ob[i]? :=by
  intro i o' ho;have hi:=(ZV ho).1;have hpe:E1.ob[i]? =some (E1.ob[i]'(by rw[R1.len];exact hi)):=Zx _;have hom:(os'.map (Ob.ren (KH ρ OS.length os'.length)))[i]? =some (o'.ren (KH ρ OS.length os'.length)):=GG
  by_cases h:i<ρ.length
  .have hr:ρ[i]? =some (ρ[i]'h):=Zx h;have hf:KH ρ OS.length os'.length i=ρ[i]'h:=by simp[KH,h,List.getD]
   have hrl:=hlt _ (YG h);rw[hf];refine⟨?_,?_⟩
   .show(_++_)[_]? =_;rw[Yc (by rw[hlO];exact hrl)];exact ZPc ρ _ OS hn hlt i _ _ hr hom
   .show(_++_)[_]? =_;rw[Yc (by rw[hlE];exact hrl),hpe];exact ZOM ρ _ E.ob hn hltE i _ _ hr hpe
  .have hf:KH ρ OS.length os'.length i=OS.length+(i-ρ.length):=by simp[KH,h]
   rw[hf];refine⟨?_,?_⟩
   .show(_++_)[_]? =_;rw[QL (by rw[hlO];omega),hlO,Qa,show ρ.length+(OS.length+(i-ρ.length)-OS.length)=i by omega];exact hom
   .show(_++_)[_]? =_;rw[QL (by rw[hlE];omega),hlE,Qa,show ρ.length+(OS.length+(i-ρ.length)-OS.length)=i by omega]
 have out: ∀j,j<OS.length->j∉ρ->(KS ρ OS os')[j]? =OS[j]? /\(ZHj ρ E E1).ob[j]? =E.ob[j]? :=by
  intro j hj hm;refine⟨?_,?_⟩
  .show(_++_)[_]? =_;rw[Yc (by rw[hlO];exact hj),ZJK ρ _ OS j hm]
  .show(_++_)[_]? =_;rw[Yc (by rw[hlE];exact hj),ZHn ρ _ E.ob j hm]
 have hlen:(KS ρ OS os').length=OS.length+(os'.length-ρ.length):=by
  simp only[KS,ZW,hlO];simp
 have cls: ∀j o p,(KS ρ OS os')[j]? =some o->(ZHj ρ E E1).ob[j]? =some p->(j∉ρ/\OS[j]? =some o/\E.ob[j]? =some p)\/ ∃i o',os'[i]? =some o'/\E1.ob[i]? =some p/\o=o'.ren (KH ρ OS.length os'.length)/\j=KH ρ OS.length os'.length i:=by
  intro j o p ho hp;have hj:=(ZV ho).1;rw[hlen]at hj;by_cases hjl:j<OS.length
  .by_cases hm:j∈ρ
   .have hr:=ZGU hm;have hi:=(ZV hr).1;have hio:os'[inv ρ j]? =some (os'[inv ρ j]' J0):=Zx _;have hf:KH ρ OS.length os'.length (inv ρ j)=j:=by
     simp only[KH,hi,if_true,List.getD,hr,Qu]
    exact T6
   .obtain⟨k1,k2⟩:=out j hjl hm;rw[k1]at ho;rw[k2]at hp;exact .inl ⟨hm,ho,hp⟩
  .have hio:os'[j-OS.length+ρ.length]? =some (os'[j-OS.length+ρ.length]' J0):=Zx _;have hf:KH ρ OS.length os'.length (j-OS.length+ρ.length)=j:=by
    have: ¬(j-OS.length+ρ.length<ρ.length):=Wl
    simp only[KH,this,if_false];omega
   exact T6
 have evr:EvoR (KH ρ OS.length os'.length) (λ_=>true) E1 os' (ZHj ρ E E1) (KS ρ OS os'):=by
  refine⟨λb o h=>⟨h,rfl⟩,λid b cu ds k _ ho hkd hb=> ?_,λid o sz rs _ ho hs=> ?_⟩
  .obtain⟨k1,k2⟩:=cal id _ ho;exact⟨cu,_,k1,by rw[Ob.ren_kd];exact hkd,k2.trans hb⟩
  .obtain⟨k1,k2⟩:=cal id _ ho;exact⟨_,rs,k1,by rw[Ob.ren_sl];exact hs,.inl ⟨rfl,k2⟩⟩
 have hkept:Kept (ZL9 (fpE ρ E) (Yb ρ OS)) E.w E1.w:=R1.kept;have evo:Evo E OS (ZHj ρ E E1) (KS ρ OS os'):=by
  have fpat: ∀r o,r∈ρ->OS[r]? =some o->(Yb ρ OS)[inv ρ r]? =some (o.ren (inv ρ))/\(fpE ρ E).ob[inv ρ r]? =E.ob[r]? /\KH ρ OS.length os'.length (inv ρ r)=r:=by
   intro r o hr ho;have hg:=ZGU hr;have hi:=(ZV hg).1;have hl:=hlt r hr;have hob:E.ob[r]? =some (E.ob[r]'(by rw[R.len];exact hl)):=Zx _;exact⟨by simp only[Yb,YE,hg,Yr,List.getD,ho,Qu],by simp only[fpE,YE,hg,Yr,List.getD,hob,Qu],by simp only[KH,hi,if_true,List.getD,hg,Qu]⟩
  refine⟨λb o h=>ev.st b o h,λid b cu ds k ho hkd hb=> ?_,λid o sz rs ho hs=> ?_⟩
  .by_cases hm:id∈ρ
   .obtain⟨k1,k2,k3⟩:=fpat id _ hm ho;obtain⟨cu',ds',g1,gk,g2⟩:=ev.bl (inv ρ id) b cu _ k k1 (by rw[Ob.ren_kd];exact hkd) (k2.trans hb);obtain⟨w1,w2⟩:=cal _ _ g1;rw[k3]at w1 w2;exact⟨cu',_,w1,by rw[Ob.ren_kd];exact gk,w2.trans g2⟩
   .obtain⟨k1,k2⟩:=out id (ZV ho).1 hm;exact⟨cu,ds,k1.trans ho,hkd,k2.trans hb⟩
  .by_cases hm:id∈ρ
   .obtain⟨k1,k2,k3⟩:=fpat id _ hm ho;obtain⟨o',rs',g1,g2,g3⟩:=ev.rf (inv ρ id) _ sz rs k1 (by rw[Ob.ren_sl];exact hs);obtain⟨w1,w2⟩:=cal _ _ g1;rw[k3]at w1 w2;refine⟨_,rs',w1,by rw[Ob.ren_sl];exact g2,?_⟩;rcases g3 with⟨g3,g4⟩|g3
    .exact .inl ⟨g3,w2.trans (g4.trans k2)⟩
    .exact .inr g3
   .obtain⟨k1,k2⟩:=out id (ZV ho).1 hm;exact⟨o,rs,k1.trans ho,hs,.inl ⟨rfl,k2⟩⟩
 refine⟨⟨?_,λj o p ho hp=> ?_,λi j o o' p p' b h1 h2 h3 h4 h5 h6=> ?_,λb off hs=>⟨(R1.stm b off hs).1,λj o p ho hp hb=> ?_⟩,?_,λj o p b ho hp hb=> ?_,λb off hs=> ?_⟩,evo,λd v hv=>hv.monoR evr (inP_true d)⟩
 .rw[hlen];simp only[ZHj,ZW,hlE];simp[R1.len]
 .rcases cls j o p ho hp with⟨k0,k1,k2⟩|⟨i,o',k1,k2,rfl,k4⟩
  .refine(R.ok j o p k1 k2).mono evo (λb hb=> ?_);exact hkept.block b ((R.ok j o p k1 k2).lt hb) (ZMo R hlt k1 k2 k0 hb)
  .exact(R1.ok i o' p k1 k2).monoR evr (λ_ _=>rfl) (Ob.inP_true o')
 .have mixed: ∀(i:Nat) (o:Ob) (p:Nat×Value),i∉ρ->OS[i]? =some o->E.ob[i]? =some p->o.mb p b-> ∀(q:Nat) (o':Ob) (p':Nat×Value),os'[q]? =some o'->E1.ob[q]? =some p'->o'.mb p' b->False:=by
   intro i o p k0 k1 k2 hb q o' p' k3 k4 hb';rcases R1.mbs q o' p' b k3 k4 hb' with h|h
   .exact ZMo R hlt k1 k2 k0 hb h
   .have:=(R.ok i o p k1 k2).lt hb;simp only at h;omega
  rcases cls i o p h1 h2 with⟨k0,k1,k2⟩|⟨q,o1,k1,k2,rfl,rfl⟩<;>rcases cls j o' p' h3 h4 with⟨g0,g1,g2⟩|⟨q',o2,g1,g2,rfl,rfl⟩
  .exact R.dis i j o o' p p' b k1 k2 g1 g2 h5 h6
  .rw[Ob.ren_mb]at h6;exact(mixed i o p k0 k1 k2 h5 q' o2 p' g1 g2 h6).elim
  .rw[Ob.ren_mb]at h5;exact(mixed j o' p' g0 g1 g2 h6 q o1 p k1 k2 h5).elim
  .rw[Ob.ren_mb]at h5 h6;rw[R1.dis q q' o1 o2 p p' b k1 k2 g1 g2 h5 h6]
 .rcases cls j o p ho hp with⟨k0,k1,k2⟩|⟨i,o',k1,k2,rfl,k4⟩
  .rcases R1.sto b off hs with h|h|h
   .exact(R.stm b off h).2 j o p k1 k2 hb
   .exact ZMo R hlt k1 k2 k0 hb h
   .have:=(R.ok j o p k1 k2).lt hb;simp only at h;omega
  .rw[Ob.ren_mb]at hb;exact(R1.stm b off hs).2 i o' p k1 k2 hb
 .exact R.kept.trans hkept (λi hi=>(ZOQ R hlt hi).1)
 .rcases cls j o p ho hp with⟨k0,k1,k2⟩|⟨i,o',k1,k2,rfl,k4⟩
  .exact R.mbs j o p b k1 k2 hb
  .rw[Ob.ren_mb]at hb;rcases R1.mbs i o' p b k1 k2 hb with h|h
   .exact(ZOQ R hlt h).1
   .have:=R.kept.size;simp only at h;exact N8
 .rcases R1.sto b off hs with h|h|h
  .exact R.sto b off h
  .exact .inr (ZOQ R hlt h).1
  .have:=R.kept.size;simp only at h;exact .inr (.inr J0)
end
mutual
def ZE7:D->W0
 | .ref id _ _ _=> [id]
 | .ptr id _=> [id]
 | .eptr id _ _ _=> [id]
 | .agg ds=>Jq ds
 | .tup ds=>Jq ds
 | .fn _ caps=>Jq caps
 | .opt _ d=>ZE7 d
 | .x _=> []
 | .vptr _=> []
 | .mref id=> [id]
 | .mnil=> []
 | .iref mid id=> [mid,id]
 | .stk mid id=> [mid,id]
 | .bref id _ _=> [id]
 | .full _=> []
 | .nz _=> []
 | .und=> []
def Jq:J8->W0
 | []=> []
 |d::l=>ZE7 d++Jq l
end
def ZB9:W2->W0
 | []=> []
 |p::l=>Jq p.2++ZB9 l
def ZF2:Ob->W0
 | .box ds=>Jq ds
 | .mpo _ _ l=>ZB9 l
 | .mit _ _ l it R _=>it::(ZB9 l++ZB9 R)
 | .mpn _ _ l _ sid=>sid::ZB9 l
 |_=> []
def Jv(OS:J7):Nat->W0->W0->W0
 |0,_,acc=>acc
 |_+1,[],acc=>acc
 |n+1,i::l,acc=>if Zi i acc then Jv OS n l acc else Jv OS n (ZF2 (OS.getD i .dead)++l) (acc++ [i])
def Kw:W0->Bool
 | []=>true
 |i::l=> !(Zi i l)&&Kw l
theorem ZHr: ∀ {l:W0},Kw l=true->l.Nodup
 | [],_=>ZTF
 |i::l,h=>by
  simp only[Kw,Zk,ZGo]at h;refine ZBE.2 ⟨λhm=> ?_,ZHr h.2⟩;have:=ZB7.2 hm;rw[h.1]at this;cases this
def Kx(ρ:W0)(args:J8)(OS:J7):Bool:=
 ρ.all (λr=>decide (r<OS.length))&&(JE (λi=>Zi i ρ) args&&((ρ.all λr=>(OS.getD r .dead).inP λi=>Zi i ρ)&&Kw ρ))
def ZAa(h:J8->J7->Option (Bool×D×J7))(args:J8)(OS:J7):Option (Bool×D×J7):=
 if Kx (Jv OS 64 (Jq args) []) args OS=true then
  (h (YA (inv (Jv OS 64 (Jq args) [])) args) (Yb (Jv OS 64 (Jq args) []) OS)).bind λq=>
   if(Jv OS 64 (Jq args) []).length<=q.2.2.length then some (q.1,q.2.1.ren (KH (Jv OS 64 (Jq args) []) OS.length q.2.2.length),KS (Jv OS 64 (Jq args) []) OS q.2.2)else none
 else none
section
variable {P:Program}
theorem ZH.lift{f:FuncId}{ρ:W0}{args:J8}{OS:J7}{Post:D->J7->Prop}(hok:Kx ρ args OS=true)(h:ZH P f (YA (inv ρ) args) (Yb ρ OS) Post)(hl: ∀r os',Post r os'->ρ.length<=os'.length):
  ZH P f args OS (λr' OS'=> ∃r os',Post r os'/\r'=r.ren (KH ρ OS.length os'.length)/\OS'=KS ρ OS os'):=by
 simp only[Kx,Zk]at hok;obtain⟨h1,h2,h3,h4⟩:=hok;have hn:=ZHr h4;have hlt: ∀r∈ρ,r<OS.length:=λr hr=>by simpa using Yg.1 h1 r hr
 have hcl: ∀r∈ρ,(OS.getD r .dead).inP (λi=>Zi i ρ)=true:=λr hr=>Yg.1 h3 r hr
 intro c E vs R hvl;have hvl':VL (fpE ρ E) (Yb ρ OS) (YA (inv ρ) args) vs:=by
  refine⟨by rw[QP];simpa using hvl.1,λj d v hd hv=> ?_⟩;rw[QP,YE]at hd;obtain⟨d0,h0,rfl⟩:=Za hd;rw[ZBw]at h2;exact(hvl.2 j d0 v h0 hv).monoR (ZKD R hlt) (Yg.1 h2 d0 (Yz h0))
 refine(h _ (fpE ρ E) vs (ZZb R hn hlt hcl) hvl').mono ?_;rintro e w' ⟨v,E1,r,os',rfl,rfl,R1,ev,hv,hp⟩;obtain⟨k1,k2,k3⟩:=ZfE R hn hlt R1 ev (hl r os' hp);exact⟨v,ZHj ρ E E1,_,_,rfl,rfl,k1,k2,k3 r v hv,r,os',hp,rfl,rfl⟩
theorem ZQ.lift{f:FuncId}{h:J8->J7->Option (Bool×D×J7)}(hh: ∀args os r os',h args os=some (true,r,os')->ZQ P f args os r os'):
  ∀args OS r OS',ZAa h args OS=some (true,r,OS')->ZQ P f args OS r OS':=by
 intro args OS r OS' hl;unfold ZAa at hl;split at hl
 .rename_i hok;obtain⟨⟨b,r1,os'⟩,h1,h2⟩:=Zf hl;simp only at h2;split at h2
  .rename_i hlen;simp only[Yj,YN]at h2;obtain⟨rfl,rfl,rfl⟩:=h2;have hm:=hh _ _ _ _ h1;have hf:ZH P f (YA (inv (Jv OS 64 (Jq args) [])) args) (Yb (Jv OS 64 (Jq args) []) OS) (λr' os2=>r'=r1/\os2=os'):=by
    intro c E vs R hvl;refine(hm c E vs R hvl).mono ?_;exact Ny
   refine ZH.mcalls (λc E vs R hvl=>((ZH.lift hok hf (λr os' ⟨_,h⟩=>by rw[h];exact hlen)) c E vs R hvl).mono ?_);exact TG
  .cases h2
 .cases hl
def YH:Tabs:=⟨λ_ _=>none,λ_ _ _=>none,λ_ _ _=>none,λ_ _ _=>none⟩
theorem ZB:SsOk P YH:=⟨λ_ _ _ h=>W6,λ_ _ _ _ _ h=>W6,λ_ _ _ _ h=>W6,λ_ _ _ _ _ h=>W6⟩
def ZDy(S:Tabs)(f:FuncId)(g:J8->J5):Tabs:=⟨λf' args=>if f'=f then g args else S.q f' args,S.t,S.r,S.k⟩
def ZHs(S:Tabs)(f:FuncId)(h:J8->J7->Option (Bool×D×J7)):Tabs:=⟨S.q,λf' args os=>if f'=f then ZAa h args os else S.t f' args os,S.r,S.k⟩
theorem ZDF{S:Tabs}(hS:SsOk P S){f:FuncId}{g:J8->J5}(he:Enters P f)(hg: ∀args r,g args=some (true,r)->ZK P f args r):SsOk P (ZDy S f g):=by
 refine⟨λf' args r h=> ?_,hS.t,hS.r,hS.k⟩;simp only[ZDy]at h;split at h
 .rename_i hf;subst hf;exact⟨he,hg args r h⟩
 .exact hS.q f' args r h
theorem ZLI{S:Tabs}(hS:SsOk P S){f:FuncId}{h:J8->J7->Option (Bool×D×J7)}(he:Enters P f)(hh: ∀args os r os',h args os=some (true,r,os')->ZQ P f args os r os'):SsOk P (ZHs S f h):=by
 refine⟨hS.q,λf' args os r os' hr=> ?_,hS.r,hS.k⟩;simp only[ZHs]at hr;split at hr
 .rename_i hf;subst hf;exact⟨he,ZQ.lift hh args os r os' hr⟩
 .exact hS.t f' args os r os' hr
end
theorem D.ren_ren{F g:Nat->Nat}{p:Nat->Bool}(h: ∀i,p i=true->F (g i)=i)(d:D):d.inP p=true->(d.ren g).ren F=d:=by
 refine D.rec (motive_1:=λd=>d.inP p=true->(d.ren g).ren F=d) (motive_2:=λl=>JE p l=true->YA F (YA g l)=l) ?_ ?_ ?_ ?_ ?_ ?_ ?_ ?_ ?_ ?_ ?_ ?_ ?_ ?_ ?_ ?_ ?_ ?_ ?_ d
 all_goals intros
 all_goals first|rfl|(simp only[D.inP,JE,D.ren,YA,Zk]at*;simp_all)
theorem ZI9{F g:Nat->Nat}{p:Nat->Bool}(h: ∀i,p i=true->F (g i)=i)(l:J8)(hl:JE p l=true):YA F (YA g l)=l:=by
 induction l with
 |nil=>rfl
 |cons d l ih=>
  simp only[JE,Zk]at hl;simp only[YA,D.ren_ren h d hl.1,ih hl.2]
theorem ZTd{F g:Nat->Nat}{p:Nat->Bool}(h: ∀i,p i=true->F (g i)=i)(q:Pr)(hp:ZAS p q=true):Jn F (Jn g q)=q:=by
 simp only[Jn,ZI9 h q.2 hp]
theorem ZIe{F g:Nat->Nat}{p:Nat->Bool}(h: ∀i,p i=true->F (g i)=i)(l:W2)(hp:l.all (ZAS p)=true):(l.map (Jn g)).map (Jn F)=l:=by
 rw[Jz]
 conv=>rhs;rw[<-ZO7 l]
 exact ZBu λq hq=>ZTd h q (Yg.1 hp q hq)
theorem Ob.ren_ren{F g:Nat->Nat}{p:Nat->Bool}(h: ∀i,p i=true->F (g i)=i)(o:Ob)(hp:o.inP p=true):(o.ren g).ren F=o:=by
 cases o with
 |box ds=>simp only[Ob.ren,ZI9 h ds hp]
 |drw e sz rs=>
  have e1:(rs.map (YA g)).map (YA F)=rs:=by
   rw[Jz]
   conv=>rhs;rw[<-ZO7 rs]
   exact ZBu λr hr=>ZI9 h r (Yg.1 hp r hr)
  simp only[Ob.ren,e1]
 |mpo dk ag l=>simp only[Ob.ren,ZIe h l hp]
 |mit dk ag l it R cur=>
  simp only[Ob.inP,Zk]at hp;have hc:(cur.map (Jn g)).map (Jn F)=cur:=by
   cases cur with
   |none=>rfl
   |some q=>simp only[Yr,ZTd h q hp.2.2.2]
  simp only[Ob.ren,ZIe h l hp.1,ZIe h R hp.2.2.1,hc,h it hp.2.1]
 |mpn dk ag l key sid=>
  simp only[Ob.inP,Zk]at hp;simp only[Ob.ren,ZIe h l hp.1,h sid hp.2]
 |_=>rfl
theorem D.ren_comp{f g:Nat->Nat}(d:D):(d.ren g).ren f=d.ren (λi=>f (g i)):=by
 refine D.rec (motive_1:=λd=>(d.ren g).ren f=d.ren (λi=>f (g i))) (motive_2:=λl=>YA f (YA g l)=YA (λi=>f (g i)) l) ?_ ?_ ?_ ?_ ?_ ?_ ?_ ?_ ?_ ?_ ?_ ?_ ?_ ?_ ?_ ?_ ?_ ?_ ?_ d
 all_goals intros
 all_goals first|rfl|(simp only[D.ren,YA]at*;simp_all)
theorem D.ren_congr{f g:Nat->Nat}{p:Nat->Bool}(h: ∀i,p i=true->f i=g i)(d:D):d.inP p=true->d.ren f=d.ren g:=by
 refine D.rec (motive_1:=λd=>d.inP p=true->d.ren f=d.ren g) (motive_2:=λl=>JE p l=true->YA f l=YA g l) ?_ ?_ ?_ ?_ ?_ ?_ ?_ ?_ ?_ ?_ ?_ ?_ ?_ ?_ ?_ ?_ ?_ ?_ ?_ d
 all_goals intros
 all_goals first|rfl|(simp only[D.inP,JE,D.ren,YA,Zk]at*;simp_all)
theorem V.cut{E0 E1 E2:Env}{OS X:J7}(hw:E2.w=E1.w)(hs:E2.st=E1.st)(hob: ∀i,i<OS.length->E2.ob[i]? =E1.ob[i]?){d:D}{v0:Value}(h:V E0 OS d v0): ∀ {v:Value},V E1 (OS++X) d v->V E2 OS d v:=by
 have hst: ∀b o,E1.st b o->E2.st b o/\E2.w.cell? ⟨b,o,none⟩=E1.w.cell? ⟨b,o,none⟩:=λb o h=>⟨by rw[hs];exact h,by rw[hw]⟩
 have sl: ∀ {id:Nat} {o0:Ob},OS[id]? =some o0-> ∀ {o:Ob},(OS++X)[id]? =some o->OS[id]? =some o/\id<OS.length:=by
  intro id o0 h0 o h1;have hl:=(ZV h0).1;rw[Yc hl]at h1;exact⟨h1,hl⟩
 have lst: ∀ {ds:J8} {vs0 vs:Array Value},ds.length=vs0.size->(∀(j:Nat) (d:D) (v:Value),ds[j]? =some d->vs0[j]? =some v-> ∀ {v:Value},V E1 (OS++X) d v->V E2 OS d v)->(∀(j:Nat) (d:D) (v:Value),ds[j]? =some d->vs[j]? =some v->V E1 (OS++X) d v)-> ∀(j:Nat) (d:D) (v:Value),ds[j]? =some d->vs[j]? =some v->V E2 OS d v:=by
  intro ds vs0 vs hl ih hv j d v hd hv';have hj:=(ZV hd).1;exact ih j d _ hd (ξJ J0) (hv j d v hd hv')
 induction h with
 |x h=>intro v h2;exact .x (h2.xx.mono hst)
 |ref h h1=>
  intro v h2;obtain⟨o,sz,rs,g1,g2,g3⟩:=h;cases h2 with
  |ref hr h3=>
   obtain⟨o',sz',rs',k1,k2,k3,k4⟩:=hr;obtain⟨w1,w2⟩:=sl g1 k1;refine .ref ⟨o',sz',rs',w1,k2,k3,λhl=> ?_⟩ h3;obtain⟨h5,b,a,cap,a',cap',h6,h7⟩:=k4 hl;exact⟨h5,b,a,cap,a',cap',(hob _ w2).trans h6,h7⟩
 |ptr ho h=>
  intro v h2;cases h2 with
  |ptr ho2 hb2=>
   obtain⟨w1,w2⟩:=sl ho ho2;exact .ptr w1 ((hob _ w2).trans hb2)
 |eptr h h1=>
  intro v h2;obtain⟨o,sz,rs,g1,g2,g3⟩:=h;cases h2 with
  |eptr hr h3=>
   obtain⟨o',sz',rs',k1,k2,k3,k4⟩:=hr;obtain⟨w1,w2⟩:=sl g1 k1;refine .eptr ⟨o',sz',rs',w1,k2,k3,λhl=> ?_⟩ h3;obtain⟨h5,b,g,cap,h6,h7⟩:=k4 hl;exact⟨h5,b,g,cap,(hob _ w2).trans h6,h7⟩
 |mref ho hk h=>
  intro v h2;cases h2 with
  |mref ho2 hk2 hb2=>
   obtain⟨w1,w2⟩:=sl ho ho2;exact .mref w1 hk2 ((hob _ w2).trans hb2)
 |mnil=>intro v h2;cases h2;exact .mnil
 |iref ho hk h=>
  intro v h2;cases h2 with
  |iref ho2 hk2 hb2=>
   obtain⟨w1,w2⟩:=sl ho ho2;exact .iref w1 hk2 ((hob _ w2).trans hb2)
 |stk ho hk h=>
  intro v h2;cases h2 with
  |stk ho2 hk2 hb2=>
   obtain⟨w1,w2⟩:=sl ho ho2;exact .stk w1 hk2 ((hob _ w2).trans hb2)
 |bref ho h hm=>
  intro v h2;cases h2 with
  |bref ho2 hb2 hm2=>
   obtain⟨w1,w2⟩:=sl ho ho2;exact .bref w1 ((hob _ w2).trans hb2) hm2
 |vptr b off val hc hv=>
  intro v h2;cases h2 with
  |vptr b off val hc hv=>exact .vptr b off val (λj x hj=>⟨(hst _ _ (hc j x hj).1).1,by rw[(hst _ _ (hc j x hj).1).2];exact(hc j x hj).2⟩) (λj x hj=>(hv j x hj).mono hst)
 |agg vs hl h1 _ ih=>
  intro v h2;cases h2 with
  |agg vs' hl' h1' hv'=>exact .agg vs' hl' h1' (lst hl ih hv')
 |tup vs hl _ ih=>
  intro v h2;cases h2 with
  |tup vs' hl' hv'=>exact .tup vs' hl' (lst hl ih hv')
 |full n h=>
  intro v h2;cases h2 with
  |full n h=>exact .full n (h.mono hst)
 |nz h=>
  intro v h2;cases h2 with
  |nz h=>exact .nz (h.mono hst)
 |fn vs hl _ ih=>
  intro v h2;cases h2 with
  |fn vs' hl' hv'=>exact .fn vs' hl' (lst hl ih hv')
 |opt _ h' ih=>
  intro v h2;cases h2 with
  |opt g g'=>exact .opt (λhb=>ih hb (g hb)) g'
 |und v=>intro v h2;exact .und v
theorem VC.cut{E0 E1 E2:Env}{OS X:J7}(hw:E2.w=E1.w)(hs:E2.st=E1.st)(hob: ∀i,i<OS.length->E2.ob[i]? =E1.ob[i]?){ag:Bool}{ds:J8}{v0 v:Value}(h0:VC E0 OS ag ds v0)(h:VC E1 (OS++X) ag ds v):VC E2 OS ag ds v:=by
 refine⟨h.1,h.2.1,λj d u hd hu=>⟨?_,(h.2.2 j d u hd hu).2⟩⟩;have hj:j<v0.cells.size:=by rw[h0.2.1];exact(ZV hd).1
 exact V.cut (X:=X) hw hs hob (h0.2.2 j d _ hd (ξJ hj)).1 (h.2.2 j d u hd hu).1
theorem YI.cut{E0 E1 E2:Env}{OS X:J7}(hw:E2.w=E1.w)(hs:E2.st=E1.st)(hob: ∀i,i<OS.length->E2.ob[i]? =E1.ob[i]?){b0 b:Nat}{dk:KK}{ag:Bool}{l:W2}(h0:YI E0 OS b0 dk ag l)(h:YI E1 (OS++X) b dk ag l):YI E2 OS b dk ag l:=by
 have key: ∀ {κ:Type} [DecidableEq κ] {mk:κ->Value} {kx:κ->List Go.Ab.X},ZCd mk kx E0 OS b0 ag l->ZCd mk kx E1 (OS++X) b ag l->ZCd mk kx E2 OS b ag l:=by
  intro κ _ mk kx ⟨l0,h1,h2,h3⟩ ⟨l',k1,k2,k3⟩;refine⟨l',by rw[hw];exact k1,k2,λi a q ha hq=> ?_⟩;have hi:i<l0.length:=by rw[h2];exact(ZV hq).1
  exact⟨(k3 i a q ha hq).1,VC.cut hw hs hob (h3 i _ q (Zx hi) hq).2 (k3 i a q ha hq).2⟩
 cases dk with
 |int k=>exact key h0 h
 |str=>exact key h0 h
 |st _ _=>exact h.elim
theorem Rel.cut{c:Ctx}{E0 E1:Env}{OS X:J7}{c0:Ctx}(R0:Rel c0 E0 OS)(R:Rel c E1 (OS++X))(ev:Evo E0 OS E1 (OS++X)):
  Rel c ⟨E1.w,E1.st,E1.ob.take OS.length⟩ OS/\Evo E0 OS ⟨E1.w,E1.st,E1.ob.take OS.length⟩ OS:=by
 have hob: ∀i,i<OS.length->(E1.ob.take OS.length)[i]? =E1.ob[i]? :=λi hi=>by rw[KQ,if_pos hi]
 have up: ∀i o,OS[i]? =some o->(OS++X)[i]? =some o:=λi o h=>by rw[Yc (ZV h).1];exact h
 have lt: ∀i o,OS[i]? =some o->i<OS.length:=λi o h=>(ZV h).1
 refine⟨⟨GJ,λi o p h1 h2=> ?_,λi j o o' p p' b h1 h2 h3 h4 h5 h6=> ?_,λb off hs=>⟨(R.stm b off hs).1,λi o p h1 h2 h3=> ?_⟩,R.kept,λi o p b h1 h2 h3=> ?_,R.sto⟩,⟨ev.st,λid b cu ds k ho hkd hb=> ?_,λid o sz rs ho hs=> ?_⟩⟩
 .have h2':E1.ob[i]? =some p:=by rw[<-hob i (lt i o h1)];exact h2
  have hok:=R.ok i o p (up i o h1) h2';obtain⟨p0,hp0,hok0⟩:=R0.at h1;cases o with
  |box ds=>
   obtain⟨cs,ty,g1,g2,g3⟩:=hok;obtain⟨cs0,ty0,k1,k2,k3⟩:=hok0;refine⟨cs,ty,g1,g2,λj d v hd hv=>⟨?_,(g3 j d v hd hv).2⟩⟩;have hj:=(ZV hd).1;exact V.cut (E1:=E1) (E2:=⟨E1.w,E1.st,E1.ob.take OS.length⟩) (X:=X) rfl rfl hob (k3 j d _ hd (ξJ J0)).1 (g3 j d v hd hv).1
  |rows fz el sz rs=>exact hok
  |drw el sz rs=>
   obtain⟨xs,g1,g2,g3⟩:=hok;obtain⟨xs0,k1,k2,k3⟩:=hok0;refine⟨xs,g1,g2,λi r j d v hr hd hv=>⟨?_,(g3 i r j d v hr hd hv).2⟩⟩;have hj:i*sz+j<xs0.length:=by
    have:=(ZV hv).1;rw[g1.1]at this;rw[k1.1];exact this
   exact V.cut (E1:=E1) (E2:=⟨E1.w,E1.st,E1.ob.take OS.length⟩) (X:=X) rfl rfl hob (k3 i r j d _ hr hd (Zx hj)).1 (g3 i r j d v hr hd hv).1
  |frz sz rs=>exact hok
  |mpo dk ag l=>exact YI.cut (E1:=E1) (E2:=⟨E1.w,E1.st,E1.ob.take OS.length⟩) (X:=X) rfl rfl hob hok0 hok
  |mit dk ag l it R cur=>
   refine⟨YI.cut (E1:=E1) (E2:=⟨E1.w,E1.st,E1.ob.take OS.length⟩) (X:=X) rfl rfl hob hok0.1 hok.1,?_⟩;obtain⟨_,ib,cu,es,clk,since,seen,c0,o,k1,k2,k3,k4,k5,k6,k7,k8,k9,k10,k11⟩:=hok;obtain⟨_,ib0,cu0,es0,clk0,since0,seen0,c00,o0,l1,l2,l3,l4,l5,l6,l7,l8,l9,l10,l11⟩:=hok0;have hit:=(ZV l2).1;refine⟨ib,cu,es,clk,since,seen,c0,o0,k1,l2,l3,(hob _ hit).trans k4,k5,k6,k7,k8,k9,⟨k10.1,λi x q hx hq=> ?_⟩,λq hq=> ?_⟩
   .have hl0:i<(leftOf es0 seen0).toList.length:=by rw[l10.1];exact(ZV hq).1
    obtain⟨m1,m2⟩:=k10.2 i x q hx hq;exact⟨m1,VC.cut (E1:=E1) (E2:=⟨E1.w,E1.st,E1.ob.take OS.length⟩) (X:=X) rfl rfl hob (l10.2 i _ q (Zx hl0) hq).2 m2⟩
   .obtain⟨g1,s',x,g2,g3,g4⟩:=k11 q hq;obtain⟨_,_,x0,_,_,e4⟩:=l11 q hq;exact⟨g1,s',x,g2,g3,g4.1,VC.cut (E1:=E1) (E2:=⟨E1.w,E1.st,E1.ob.take OS.length⟩) (X:=X) rfl rfl hob e4.2 g4.2⟩
  |mpn dk ag l key sid=>
   refine⟨YI.cut (E1:=E1) (E2:=⟨E1.w,E1.st,E1.ob.take OS.length⟩) (X:=X) rfl rfl hob hok0.1 hok.1,?_⟩;obtain⟨_,n,cu,o,es,clk,x,k1,k2,k3,k4⟩:=hok;obtain⟨_,n0,cu0,o0,es0,clk0,x0,l1,l2,l3,l4⟩:=hok0;have hit:=(ZV l1).1;exact⟨n,cu,o0,es,clk,x,l1,l2,(hob _ hit).trans k3,k4⟩
  |sit s pos=>exact hok
  |nit=>exact hok
  |itr=>trivial
  |stp=>trivial
  |old _ _=>trivial
  |fam _ _ _=>exact hok
  |dead=>trivial
 .rw[hob i (lt i o h1)]at h2;rw[hob j (lt j o' h3)]at h4;exact R.dis i j o o' p p' b (up i o h1) h2 (up j o' h3) h4 h5 h6
 .rw[hob i (lt i o h1)]at h2;exact(R.stm b off hs).2 i o p (up i o h1) h2 h3
 .rw[hob i (lt i o h1)]at h2;exact R.mbs i o p b (up i o h1) h2 h3
 .obtain⟨cu',ds',g1,gk,g2⟩:=ev.bl id b cu ds k ho hkd hb;rw[Yc (lt id _ ho)]at g1;exact⟨cu',ds',g1,gk,(hob id (lt id _ ho)).trans g2⟩
 .obtain⟨o',rs',g1,g2,g3⟩:=ev.rf id o sz rs ho hs;rw[Yc (lt id _ ho)]at g1;refine⟨o',rs',g1,g2,?_⟩;rcases g3 with⟨g3,g4⟩|g3
  .exact .inl ⟨g3,(hob id (lt id _ ho)).trans g4⟩
  .exact .inr g3
theorem ZHv: ∀(ρ:W0) (os OS:J7),(∀(i r:Nat),ρ[i]? =some r-> ∀o:Ob,os[i]? =some o->OS[r]? =some o)->KI OS ρ os=OS
 | [],os,OS,_=>by cases os<;>rfl
 |r::ρ,[],OS,_=>rfl
 |r::ρ,o::os,OS,h=>by
  have h0:=h 0 r rfl o rfl;have hs:OS.set r o=OS:=by
   apply ZBj;intro j;rw[ZCe];split
   .rename_i hj;subst hj;rw[h0,if_pos (ZV h0).1]
   .rfl
  simp only[KI,hs];exact ZHv ρ os OS (λi r hi o ho=>h (i+1) r U8 o Gw)
theorem ZPp{F:Nat->Nat}{d:D}(h:d.plain=true):d.ren F=d:=by
 cases d with
 |agg ds=>
  have: ∀l:J8,l.all D.isX=true->YA F l=l:=by
   intro l
   induction l with
   |nil=>intro _;rfl
   |cons d l ih=>
    intro hl;simp only[ZAL,Zk]at hl;simp only[YA,ih hl.2];cases d with
    |x y=>rfl
    |_=>exact absurd hl.1 (by simp[D.isX])
  simp only[D.ren,this ds h]
 |fn g caps=>
  cases caps with
  |nil=>rfl
  |cons=>exact absurd h (by simp[D.plain])
 |x y=>rfl
 |_=>exact absurd h (by simp[D.plain])
theorem ZZ4{F:Nat->Nat}{d:D}(h:d.clean=true):d.ren F=d:=by
 cases d with
 |tup ds=>
  have: ∀l:J8,l.all D.plain=true->YA F l=l:=by
   intro l
   induction l with
   |nil=>intro _;rfl
   |cons d l ih=>
    intro hl;simp only[ZAL,Zk]at hl;simp only[YA,ih hl.2,ZPp hl.1]
  simp only[D.ren,this ds h]
 |_=>exact ZPp h
theorem ZGd.of{P:Program}{f:FuncId}{ρ:W0}{args:J8}{os X:J7}{r:D}(hok:Kx ρ args os=true)(h:ZQ P f (YA (inv ρ) args) (Yb ρ os) r (Yb ρ os++X))(hr:r.clean=true):ZGd P f args os r:=by
 intro Y c E vs R hvl;have hok0:=hok;simp only[Kx,Zk]at hok;obtain⟨h1,h2,h3,h4⟩:=hok;have hlt: ∀r∈ρ,r<os.length:=λr hr=>by simpa using Yg.1 h1 r hr
 have hgd: ∀r∈ρ,(os++Y).getD r .dead=os.getD r .dead:=λr hr=>by simp[List.getD,Yc (hlt r hr)]
 have hfp:Yb ρ (os++Y)=Yb ρ os:=ZBu (λr hr=>by rw[hgd r hr]);have hok':Kx ρ args (os++Y)=true:=by
  exact Tw
 have hf:ZH P f (YA (inv ρ) args) (Yb ρ (os++Y)) (λr' os2=>r'=r/\os2=Yb ρ os++X):=by
  exact Uy
 refine((ZH.lift hok' hf (λr os' ⟨_,h⟩=>by rw[h];simp[Yb])) c E vs R hvl).mono ?_;rintro e w' ⟨v,E',r2,os2,rfl,rfl,R',ev,hv,r3,os3,⟨rfl,rfl⟩,rfl,rfl⟩;rw[ZZ4 hr]at hv;have hsame: ∃X',KS ρ (os++Y) (Yb ρ os++X)=(os++Y)++X':=by
  refine⟨((Yb ρ os++X).map (Ob.ren (KH ρ (os++Y).length (Yb ρ os++X).length))).drop ρ.length,?_⟩;unfold KS;rw[ZHv];exact WY
 obtain⟨X',hX⟩:=hsame;rw[hX]at R' ev;obtain⟨R2,e2⟩:=R.cut R' ev;exact⟨v,⟨E'.w,E'.st,E'.ob.take (os++Y).length⟩,rfl,rfl,R2,e2,hv.ofClean hr (λx v hx=>hx)⟩
theorem Rel.move{c c0:Ctx}{E0 E1:Env}{OS:J7}{ob:Ob}{id:Nat}(R0:Rel c0 E0 OS)(hd:OS[id]? =some .dead)(hrow: ∃fz e sz rs,ob= .rows fz e sz rs)(R:Rel c E1 (OS++ [ob]))(ev:Evo E0 OS E1 (OS++ [ob])):
  ∃E2,E2.w=E1.w/\Rel c E2 (OS.set id ob)/\Evo E0 OS E2 (OS.set id ob)/\ ∀d v,V E1 (OS++ [ob]) d v->V E2 (OS.set id ob) (d.ren λi=>if i=OS.length then id else i) v:=by
 obtain⟨Rc,ec⟩:=R0.cut R ev;have hidl:id<OS.length:=(ZV hd).1;have hlen:E1.ob.length=OS.length+1:=by rw[R.len];simp
 have hp:E1.ob[OS.length]? =some (E1.ob[OS.length]' J0):=Zx _;generalize E1.ob[OS.length]' J0=p at hp;have htk: ∀i,i<OS.length->(E1.ob.take OS.length)[i]? =E1.ob[i]? :=λi hi=>by rw[KQ,if_pos hi]
 have goS: ∀j,j≠id->(OS.set id ob)[j]? =OS[j]? :=λj hj=>ZAX (λe=>hj e.symm)
 have goE: ∀j,j≠id->((E1.ob.take OS.length).set id p)[j]? =(E1.ob.take OS.length)[j]? :=λj hj=>ZAX (λe=>hj e.symm)
 have atS:(OS.set id ob)[id]? =some ob:=ZEK hidl;have atE:((E1.ob.take OS.length).set id p)[id]? =some p:=ZEK (by simp[hlen];omega);have up: ∀(i:Nat) (o:Ob),OS[i]? =some o->(OS++ [ob])[i]? =some o:=λi o h=>by rw[Yc (ZV h).1];exact h
 have upn:(OS++ [ob])[OS.length]? =some ob:=TC
 let E2:Env:=⟨E1.w,E1.st,(E1.ob.take OS.length).set id p⟩
 have e2:Evo ⟨E1.w,E1.st,E1.ob.take OS.length⟩ OS E2 (OS.set id ob):=by
  refine⟨λb o h=>⟨h,rfl⟩,λi b cu ds k ho hkd hb=> ?_,λi o sz rs ho hs=> ?_⟩
  .have hi:i≠id:=λe=>by subst e;rw[hd]at ho;cases ho;simp[Ob.kd]at hkd
   exact⟨cu,ds,(goS i hi).trans ho,hkd,(goE i hi).trans hb⟩
  .have hi:i≠id:=λe=>GX
   exact⟨o,rs,(goS i hi).trans ho,hs,.inl ⟨rfl,goE i hi⟩⟩
 have at': ∀(j:Nat) (o:Ob) (q:Nat×Value),(OS.set id ob)[j]? =some o->E2.ob[j]? =some q->(OS++ [ob])[if j=id then OS.length else j]? =some o/\E1.ob[if j=id then OS.length else j]? =some q/\(j≠id->OS[j]? =some o/\(E1.ob.take OS.length)[j]? =some q)/\j<OS.length:=by
  intro j o q ho hq;have hjl:j<OS.length:=by have:=(ZV ho).1;exact V4
  by_cases hj:j=id
  .subst hj;rw[atS]at ho;cases ho;have:E2.ob[j]? =some p:=atE;rw[this]at hq;cases hq;exact⟨by rw[if_pos rfl];exact upn,by rw[if_pos rfl];exact hp,λh=>absurd rfl h,hjl⟩
  .rw[goS j hj]at ho;have hq':(E1.ob.take OS.length)[j]? =some q:=by rw[<-goE j hj];exact hq
   rw[if_neg hj];exact⟨up j o ho,by rw[<-htk j hjl];exact hq',λ_=>⟨ho,hq'⟩,hjl⟩
 have evr:EvoR (λi=>if i=OS.length then id else i) (λ_=>true) E1 (OS++ [ob]) E2 (OS.set id ob):=by
  refine⟨λb o h=>⟨h,rfl⟩,λi b cu ds k _ ho hkd hb=> ?_,λi o sz rs _ ho hs=> ?_⟩
  .have hil:i<OS.length:=by
    rcases Nat.lt_or_ge i OS.length with h|h
    .exact h
    .exfalso;have:=(ZV ho).1;simp at this;have:i=OS.length:=Wl
     subst this;rw[upn]at ho;obtain⟨fz,e,sz,rs,rfl⟩:=hrow;cases ho;simp[Ob.kd]at hkd
   have hne:i≠OS.length:=Wl
   rw[Yc hil]at ho;have hi:i≠id:=λe=>by subst e;rw[hd]at ho;cases ho;simp[Ob.kd]at hkd
   rw[if_neg hne];exact⟨cu,ds,(goS i hi).trans ho,hkd,(goE i hi).trans ((htk i hil).trans hb)⟩
  .by_cases hn:i=OS.length
   .subst hn;rw[if_pos rfl];rw[upn]at ho;cases ho;exact⟨ob,rs,atS,hs,.inl ⟨rfl,by rw[hp];exact atE⟩⟩
   .have hil:i<OS.length:=by
     have:=(ZV ho).1;simp at this;omega
    rw[Yc hil]at ho;have hi:i≠id:=λe=>GX
    rw[if_neg hn];exact⟨o,rs,(goS i hi).trans ho,hs,.inl ⟨rfl,(goE i hi).trans (htk i hil)⟩⟩
 refine⟨E2,rfl,⟨by simp[E2,hlen],λj o q h1 h2=> ?_,λi j o o' q q' b h1 h2 h3 h4 h5 h6=> ?_,λb off hs=>⟨(R.stm b off hs).1,λj o q h1 h2 h3=> ?_⟩,R.kept,λj o q b h1 h2 h3=> ?_,R.sto⟩,ec.trans e2,λd v hv=>hv.monoR evr (inP_true d)⟩
 .obtain⟨k1,k2,k3,k4⟩:=at' j o q h1 h2;by_cases hj:j=id
  .subst hj;rw[if_pos rfl]at k1 k2;have hok:=R.ok _ o q k1 k2;rw[atS]at h1;cases h1;obtain⟨fz,e,sz,rs,rfl⟩:=hrow;exact hok
  .obtain⟨g1,g2⟩:=k3 hj;exact(Rc.ok j o q g1 g2).mono e2 (λ_ _=>rfl)
 .obtain⟨k1,k2,_,k4⟩:=at' i o q h1 h2;obtain⟨g1,g2,_,g4⟩:=at' j o' q' h3 h4;have:=R.dis _ _ o o' q q' b k1 k2 g1 g2 h5 h6;by_cases hi:i=id<;>by_cases hj:j=id
  .omega
  .rw[if_pos hi,if_neg hj]at this;omega
  .rw[if_neg hi,if_pos hj]at this;omega
  .rw[if_neg hi,if_neg hj]at this;exact this
 .obtain⟨k1,k2,_,_⟩:=at' j o q h1 h2;exact(R.stm b off hs).2 _ o q k1 k2 h3
 .obtain⟨k1,k2,_,_⟩:=at' j o q h1 h2;exact R.mbs _ o q b k1 k2 h3
theorem ZBm.of{P:Program}{f:FuncId}{ρ:W0}{args:J8}{os:J7}{ob:Ob}{r:D}(hok:Kx ρ args os=true)(hrow: ∃fz e sz rs,ob= .rows fz e sz rs)(hr:r.inP (λi=>Nat.ble i ρ.length)=true)(h:ZQ P f (YA (inv ρ) args) (Yb ρ os) r (Yb ρ os++ [ob])):
  ZBm P f args os (λid=>r.ren λi=>if i<ρ.length then ρ.getD i 0 else id) ob:=by
 intro Y id c E vs hd R hvl;have hok0:=hok;simp only[Kx,Zk]at hok;obtain⟨h1,h2,h3,h4⟩:=hok;have hlt: ∀r∈ρ,r<os.length:=λr hr=>by simpa using Yg.1 h1 r hr
 have hgd: ∀r∈ρ,(os++Y).getD r .dead=os.getD r .dead:=λr hr=>by simp[List.getD,Yc (hlt r hr)]
 have hfp:Yb ρ (os++Y)=Yb ρ os:=ZBu (λr hr=>by rw[hgd r hr]);have hok':Kx ρ args (os++Y)=true:=by
  exact Tw
 have hf:ZH P f (YA (inv ρ) args) (Yb ρ (os++Y)) (λr' os2=>r'=r/\os2=Yb ρ os++ [ob]):=by
  exact Uy
 refine((ZH.lift hok' hf (λr os' ⟨_,h⟩=>by rw[h];simp[Yb])) c E vs R hvl).mono ?_;rintro e w' ⟨v,E',r2,os2,rfl,rfl,R',ev,hv,r3,os3,⟨rfl,rfl⟩,rfl,rfl⟩;have hsame:KS ρ (os++Y) (Yb ρ os++ [ob])=(os++Y)++ [ob]:=by
  unfold KS;rw[ZHv]
  .congr 1;have hl:((Yb ρ os).map (Ob.ren (KH ρ (os++Y).length (Yb ρ os++ [ob]).length))).length=ρ.length:=by simp[Yb]
   rw[Jd,<-hl,List.drop_left];obtain⟨fz,e,sz,rs,rfl⟩:=hrow;rfl
  exact WY
 rw[hsame]at R' ev hv;obtain⟨E2,q1,q2,q3,q4⟩:=R.move hd hrow R' ev;refine⟨v,E2,rfl,q1,q2,q3,?_⟩;have:=q4 _ v hv;rw[D.ren_comp]at this;have hfun:(λi=>(λi=>if i=(os++Y).length then id else i) (KH ρ (os++Y).length (Yb ρ os++ [ob]).length i))=λi=>if i<ρ.length then ρ.getD i 0 else(if i=ρ.length then id else(os++Y).length+(i-ρ.length)):=by
  funext i;simp only[KH];by_cases hi:i<ρ.length
  .have hr:ρ[i]? =some (ρ[i]'hi):=Zx hi;have hrl:=hlt _ (YG hi);have:ρ.getD i 0≠(os++Y).length:=by simp only[List.getD,hr,Qu];simp;omega
   simp only[hi,if_true,this,if_false]
  .simp only[hi,if_false];by_cases h2:i=ρ.length
   .subst h2;simp
   .have: ¬((os++Y).length+(i-ρ.length)=(os++Y).length):=Wl
    simp only[this,h2,if_false]
 rw[hfun,D.ren_congr (g:=λi=>if i<ρ.length then ρ.getD i 0 else id) (λi hi=> ?_) _ hr]at this
 .exact this
 .have hi:i<=ρ.length:=U8
  by_cases h1:i<ρ.length
  .simp only[h1,if_true]
  .have h2:i=ρ.length:=Wl
   simp only[h2,if_true,ZWU,if_false]
def ZBP(g:J8->J7->J5)(args:J8)(OS:J7):J5:=
 if Kx (Jv OS 64 (Jq args) []) args OS=true then g (YA (inv (Jv OS 64 (Jq args) [])) args) (Yb (Jv OS 64 (Jq args) []) OS)else none
theorem ZMm{P:Program}{f:FuncId}{g:J8->J7->J5}(hg: ∀args os r,g args os=some (true,r)->r.clean=true/\ ∃X,ZQ P f args os r (os++X)):
  ∀args OS r,ZBP g args OS=some (true,r)->ZGd P f args OS r:=by
 intro args OS r h;unfold ZBP at h;split at h
 .rename_i hok;obtain⟨h1,X,h2⟩:=hg _ _ _ h;exact ZGd.of hok h2 h1
 .cases h
theorem ZGd.mcalls{P:Program}{f:FuncId}{args:J8}{os:J7}{r:D}(h:ZGd P f args os r):ZQ P f args os r os:=by
 intro c E vs R hvl;have:=h [] c E vs (by simpa using R) (by simpa using hvl);exact V4
def ZHw(S:Tabs)(f:FuncId)(g:J8->J7->J5):Tabs:=
 ⟨S.q,λf' args os=>if f'=f then(ZBP g args os).map λr=>(r.1,r.2,os)else S.t f' args os,λf' args os=>if f'=f then ZBP g args os else S.r f' args os,S.k⟩
theorem ZOW{P:Program}{S:Tabs}(hS:SsOk P S){f:FuncId}{g:J8->J7->J5}(he:Enters P f)(hg: ∀args os r,g args os=some (true,r)->r.clean=true/\ ∃X,ZQ P f args os r (os++X)):SsOk P (ZHw S f g):=by
 refine⟨hS.q,λf' args os r os' h=> ?_,λf' args os r h=> ?_,hS.k⟩
 .simp only[ZHw]at h;split at h
  .rename_i hf;subst hf;obtain⟨⟨b,r'⟩,h1,h2⟩:=Za h;simp only[YN]at h2;obtain⟨rfl,rfl,rfl⟩:=h2;exact⟨he,(ZMm hg _ _ _ h1).mcalls⟩
  .exact hS.t f' args os r os' h
 .simp only[ZHw]at h;split at h
  .rename_i hf;subst hf;exact⟨he,ZMm hg _ _ _ h⟩
  .exact hS.r f' args os r h
def ZDp(g:J8->J7->Option (Bool×D×Ob))(args:J8)(OS:J7):Option (Bool×(Nat->D)×Ob):=
 if Kx (Jv OS 64 (Jq args) []) args OS=true then(g (YA (inv (Jv OS 64 (Jq args) [])) args) (Yb (Jv OS 64 (Jq args) []) OS)).bind λq=>
  if q.2.1.inP (λi=>Nat.ble i (Jv OS 64 (Jq args) []).length)=true then some (q.1,λid=>q.2.1.ren λi=>if i<(Jv OS 64 (Jq args) []).length then(Jv OS 64 (Jq args) []).getD i 0 else id,q.2.2)else none
 else none
theorem ZVN{P:Program}{f:FuncId}{g:J8->J7->Option (Bool×D×Ob)}(hg: ∀args os r ob,g args os=some (true,r,ob)->(∃fz e sz rs,ob= .rows fz e sz rs)/\ZQ P f args os r (os++ [ob])):
  ∀args OS r ob,ZDp g args OS=some (true,r,ob)->ZBm P f args OS r ob:=by
 intro args OS r ob h;unfold ZDp at h;split at h
 .rename_i hok;obtain⟨⟨b,d,ob'⟩,h1,h2⟩:=Zf h;simp only at h2;split at h2
  .rename_i hin;simp only[Yj,YN]at h2;obtain⟨rfl,rfl,rfl⟩:=h2;obtain⟨k1,k2⟩:=hg _ _ _ _ h1;exact ZBm.of hok k1 hin k2
  .cases h2
 .cases h
def ZKf(S:Tabs)(f:FuncId)(g:J8->J7->Option (Bool×D×Ob)):Tabs:=
 ⟨S.q,λf' args os=>if f'=f then ZAa (λargs os=>(g args os).map λq=>(q.1,q.2.1,os++ [q.2.2])) args os else S.t f' args os,S.r,λf' args os=>if f'=f then ZDp g args os else S.k f' args os⟩
theorem Zev{P:Program}{S:Tabs}(hS:SsOk P S){f:FuncId}{g:J8->J7->Option (Bool×D×Ob)}(he:Enters P f)(hg: ∀args os r ob,g args os=some (true,r,ob)->(∃fz e sz rs,ob= .rows fz e sz rs)/\ZQ P f args os r (os++ [ob])):SsOk P (ZKf S f g):=by
 refine⟨hS.q,λf' args os r os' h=> ?_,hS.r,λf' args os r ob h=> ?_⟩
 .simp only[ZKf]at h;split at h
  .rename_i hf;subst hf;refine⟨he,ZQ.lift (λargs os r os' h=> ?_) args os r os' h⟩;obtain⟨⟨b,d,ob⟩,h1,h2⟩:=Za h;simp only[YN]at h2;obtain⟨rfl,rfl,rfl⟩:=h2;exact(hg _ _ _ _ h1).2
  .exact hS.t f' args os r os' h
 .simp only[ZKf]at h;split at h
  .rename_i hf;subst hf;exact⟨he,ZVN hg _ _ _ _ h⟩
  .exact hS.k f' args os r ob h
abbrev Out:=Exit×List (Nat×D)×J7
def ZGK(fz:Bool)(run:IC->J4->J7->Option Out)(f:IFn)(args:J8)(os:J7):Option (D×J7):=
 if args.length<=f.n then(run f.body (ZC6 0 args) os).bind λr=>match r.1 with
  | .normal| .ret=>(QG fz (λ_ _=>none) r.2.1 r.2.2 f.res).bind λq=>if q.1 then some (mkR q.2.1,q.2.2)else none
  |_=>none
 else none
def GOk(P:Program)(G:FuncId->Option IFn):Prop:= ∀f p,G f=some p-> ∃fn,P.funcs[f]? =some fn/\(fn.name== "runtime.NumGoroutine")=false/\ZFl P fn=some p
def ZaV(P:Program)(run:IC->J4->J7->Option Out):Prop:=
 ∀ic φ os x φ' os',run ic φ os=some (x,φ',os')-> ∀(c:Ctx) (E0:Env) (os0:J7) (n:Nat),WI P c E0 os0 n ic (λy φ2 os2=>y=x/\φ2=φ'/\os2=os') φ os
section
variable {P:Program} {G:FuncId->Option IFn}
theorem ZGn(hG:GOk P G){run:IC->J4->J7->Option Out}(hr:ZaV P run){f:FuncId}{p:IFn}(hp:G f=some p){args:J8}{os os':J7}{r:D}{fz:Bool}(h:ZGK fz run p args os=some (r,os')):
  Enters P f/\ZH P f args os (λr' os2=>r'=r/\os2=os'):=by
 obtain⟨fn,h1,h2,h3⟩:=hG f p hp;refine⟨enters h1 h2 h3,?_⟩;unfold ZGK at h;split at h
 .rename_i hle;obtain⟨⟨x,φ',os1⟩,h4,h⟩:=Zf h;have hx:(x= .normal\/x= .ret)/\(QG fz (λ_ _=>none) φ' os1 p.res).bind (λq=>if q.1 then some (mkR q.2.1,q.2.2)else none)=some (r,os'):=by
   cases x<;>simp only at h<;>first|exact⟨.inl rfl,h⟩|exact⟨.inr rfl,h⟩|cases h
  obtain⟨hx,h5⟩:=hx;obtain⟨⟨ok,ds,os2⟩,h6,h7⟩:=Zf h5;simp only at h7;split at h7
  .rename_i hok;subst hok;cases h7;refine ZZX (fz:=fz) (S:=λ_ _=>none) h1 h3 args hle os (λc E0=>WI.mono (hr _ _ _ _ _ _ h4 c E0 os p.n) ?_);rintro y φ2 os3 ⟨rfl,rfl,rfl⟩;exact⟨hx,ds,_,h6,rfl,rfl⟩
  .cases h7
 .cases h
theorem Zbl{G:FuncId->Option IFn}(hG:GOk P G){f:FuncId}{p:IFn}(hp:G f=some p):Enters P f:=by
 obtain⟨fn,h1,h2,h3⟩:=hG f p hp;exact enters h1 h2 h3
theorem ZeH{fz:Bool}{G:FuncId->Option IFn}(hG:GOk P G){f:FuncId}{p:IFn}(hp:G f=some p)(args:J8)(hle:args.length<=p.n)(os:J7){Post:D->J7->Prop}
  (h: ∀(c:Ctx) (E0:Env),WI P c E0 os p.n p.body (λx φ' os'=>(x= .normal\/x= .ret)/\ ∃ds os2,QG fz (λ_ _=>none) φ' os' p.res=some (true,ds,os2)/\Post (mkR ds) os2) (ZC6 0 args) os):ZH P f args os Post:=by
 obtain⟨fn,h1,h2,h3⟩:=hG f p hp;exact ZZX h1 h3 args hle os h
end
open Go Go.RowKit Go.Bo
@[reducible] def qt(n:Nat):IO:= .t n
@[reducible] def qi(n:Int):IO:= .c (.x (.int .i64 n))
@[reducible] def qs(s:List UInt8):IO:= .c (.x (.str s))
@[reducible] def qb(b:Bool):IO:= .c (.x (.bool b))
@[reducible] def qm(d s:Nat):IOp:=⟨some d,.mv (.t s),none⟩
@[reducible] def qn(d s g:Nat)(b:Bool):IOp:=⟨some d,.mv (.t s),some (g,b)⟩
@[reducible] def qa(d:Nat)(e:IE):IOp:=⟨some d,e,none⟩
@[reducible] def qg(d:Nat)(e:IE)(g:Nat)(b:Bool):IOp:=⟨some d,e,some (g,b)⟩
@[reducible] def qh(d s g:Nat):IOp:=⟨some d,.mv (.t s),some (g,true)⟩
@[reducible] def qj(d s g:Nat):IOp:=⟨some d,.mv (.t s),some (g,false)⟩
@[reducible] def qT(d:Nat)(e:IE)(g:Nat):IOp:=⟨some d,e,some (g,true)⟩
@[reducible] def qF(d:Nat)(e:IE)(g:Nat):IOp:=⟨some d,e,some (g,false)⟩
@[reducible] def qe(d a i:Nat):IOp:=⟨some d,.ext (.t a) i,none⟩
@[reducible] def ql(a:Nat):IE:= .ld 1 false (.t a)
@[reducible] def qL(n a:Nat):IE:= .ld n true (.t a)
@[reducible] def qf(o a:Nat):IE:= .fad o (.t a)
@[reducible] def q2(p:BinOp)(a b:Nat):IE:= .bin p (.t a) (.t b)
@[reducible] def q3(p:BinOp)(a:Nat)(n:Int):IE:= .bin p (.t a) (.c (.x (.int .i64 n)))
@[reducible] def q8(p:BinOp)(a:Nat)(n:Int):IE:= .bin p (.t a) (.c (.x (.int .u8 n)))
@[reducible] def qz(a:Nat):IE:= .un .not (.t a)
@[reducible] def qp(a b:Nat):IE:= .pick (.t a) (.c (.x (.bool true))) (.t b)
@[reducible] def qP(a b:Nat):IE:= .pick (.t a) (.t b) (.c (.x (.bool false)))
@[reducible] def qc(f:FuncId)(l:List IO):IE:= .call (.c (.fn f [])) l
@[reducible] def qk(b:Bool)(a:Nat):IE:= .len b (.t a)
@[reducible] def qx(a b:Nat):IE:= .idx (.t a) (.t b)
@[reducible] def qy(s a b:Nat):IE:= .iad s (.t a) (.t b)
@[reducible] def qo(n a b:Nat):IOp:=⟨none,.sto n (.t a) (.t b),none⟩
@[reducible] def qr(l:List IOp)(y:IC):IC:= .seq (.reg l) y
@[reducible] def qC(a:Nat)(x y:IC):IC:= .cond (.t a) x y
theorem gk{P:Program}{f:FuncId}{fn:Func}{q p:IFn}(h1:P.funcs[f]? =some fn)(h:some q=some p)(hn:(fn.name== "runtime.NumGoroutine")=false:=by decide)(hc:ZFl P fn=some q:=by kernel_rfl): ∃fn,P.funcs[f]? =some fn/\(fn.name== "runtime.NumGoroutine")=false/\ZFl P fn=some p:=by
 cases h;exact⟨fn,h1,hn,hc⟩
mutual
def D.vw(os:J7):D->D
 | .ref id ext off len=>match os[id]? with
  |some (.frz _ rs)=>if rs.length=ext then .x (.sl ((rs.drop off).take len))else .ref id ext off len
  |_=> .ref id ext off len
 | .agg ds=> .agg (vwL os ds)
 | .tup ds=> .tup (vwL os ds)
 | .fn f caps=> .fn f (vwL os caps)
 | .opt b d=> .opt b (d.vw os)
 | .ptr id o=> .ptr id o
 | .eptr id a b c=> .eptr id a b c
 | .x y=> .x y
 | .vptr cs=> .vptr cs
 | .mref id=> .mref id
 | .mnil=> .mnil
 | .iref mid id=> .iref mid id
 | .stk mid id=> .stk mid id
 | .bref id o l=> .bref id o l
 | .full rs=> .full rs
 | .nz rs=> .nz rs
 | .und=> .und
def vwL(os:J7):J8->J8
 | []=> []
 |d::l=>d.vw os::vwL os l
end
theorem ZIX(os:J7): ∀l,vwL os l=l.map (D.vw os)
 | []=>rfl
 |d::l=>by simp[vwL,ZIX os l]
def D.on(ρ:W0)(d:D):D:=if d.inP (λi=>Zi i ρ)=true then d else .und
def mpP(f:D->D)(q:Pr):Pr:=(q.1,q.2.map f)
def Ob.mp(f:D->D):Ob->Ob
 | .box ds=> .box (ds.map f)
 | .drw e sz rs=> .drw e sz (rs.map (List.map f))
 | .mpo dk ag l=> .mpo dk ag (l.map (mpP f))
 | .mit dk ag l it R cur=> .mit dk ag (l.map (mpP f)) it (R.map (mpP f)) (cur.map (mpP f))
 | .mpn dk ag l key sid=> .mpn dk ag (l.map (mpP f)) key sid
 |o=>o
def Ob.mpb(f:D->D):Ob->Ob
 | .box ds=> .box (ds.map f)
 | .drw e sz rs=> .drw e sz (rs.map (List.map f))
 |o=>o
def frzL:W0->J7->J7
 | [],os=>os
 |i::l,os=>match os[i]? with
  |some (.rows _ _ sz rs)=>frzL l (os.set i (.frz sz rs))
  |_=>frzL l os
def onF(ρ:W0)(os:J7)(d:D):D:=(d.vw os).on ρ
def Ob.onI(ρ:W0):Ob->Ob
 | .mit dk ag l it R cur=>if Zi it ρ=true then .mit dk ag l it R cur else .mpo dk ag l
 | .mpn dk ag l key sid=>if Zi sid ρ=true then .mpn dk ag l key sid else .mpo dk ag l
 |o=>o
def ZCs(ρ:W0)(os:J7):J7:=Yb ρ ((os.map (Ob.mp (onF ρ os))).map (Ob.onI ρ))
def ZBg(ρ:W0)(os:J7)(φ:J4):J4:=φ.map λp=>(p.1,(onF ρ os p.2).ren (inv ρ))
def ZPI(ρ:W0)(k m:Nat):Bool:=Kw ρ&&(ρ.all (λr=>decide (r<m))&&(List.range k).all λi=>decide (ρ[i]? =some i))
section
variable {P:Program} {c:Ctx} {E E0:Env} {os os0:J7} {n:Nat} {Q:Exit->J4->J7->Prop} {φ:J4}
theorem Zep(R:Rel c E os){id ext off len sz:Nat}{rs:J6}{v:Value}(hv:V E os (.ref id ext off len) v)(ho:os[id]? =some (.frz sz rs))(hl:rs.length=ext):VX E.w E.st (.sl ((rs.drop off).take len)) v:=by
 cases hv with
 |ref hr _=>
  obtain⟨h1,h2⟩:=hr.at ho rfl;obtain⟨h3,b,ad,cap,a',cap',h4,h5,h6,h7,h8,h9,h10,h11⟩:=h2 hl;obtain⟨p,hp,hok⟩:=R.at ho;rw[hp]at h4;cases h4;subst h5;have hok':VX E.w E.st (.sl rs) (.slice ad ext cap):=hok.1;obtain⟨w1,w2,w3,w4,w5,w6⟩:=OK.cap (os:=os) (o:= .frz sz rs) hok rfl rfl;exact hok'.part w4 off len J0 a' cap' h6 h7 h9 h10 (λ_=>h11)
theorem V.vw(R:Rel c E os){d:D}{v:Value}(h:V E os d v):V E os (d.vw os) v:=by
 have lst: ∀ {ds:J8} {vs:Array Value},(∀(j:Nat) (d:D) (v:Value),ds[j]? =some d->vs[j]? =some v->V E os (d.vw os) v)-> ∀(j:Nat) (d:D) (v:Value),(vwL os ds)[j]? =some d->vs[j]? =some v->V E os d v:=by
  intro ds vs ih j d v hd hv;rw[ZIX,YE]at hd;obtain⟨d0,h0,rfl⟩:=Za hd;exact ih j d0 v h0 hv
 induction h with
 |x h=>exact .x h
 |ref h h1=>
  simp only[D.vw];split
  .rename_i sz rs ho;split
   .rename_i hl;exact .x (Zep R (.ref h h1) ho hl)
   .exact .ref h h1
  .exact .ref h h1
 |ptr ho h=>exact .ptr ho h
 |eptr h h1=>exact .eptr h h1
 |mref ho hk h=>exact .mref ho hk h
 |mnil=>exact .mnil
 |iref ho hk h=>exact .iref ho hk h
 |stk ho hk h=>exact .stk ho hk h
 |bref ho h hm=>exact .bref ho h hm
 |vptr b off val hc hv=>exact .vptr b off val hc hv
 |agg vs hl h1 _ ih=>exact .agg vs (by rw[ZIX];simpa using hl) h1 (lst ih)
 |tup vs hl _ ih=>exact .tup vs (by rw[ZIX];simpa using hl) (lst ih)
 |full n h=>exact .full n h
 |nz h=>exact .nz h
 |fn vs hl _ ih=>exact .fn vs (by rw[ZIX];simpa using hl) (lst ih)
 |opt _ h' ih=>exact .opt ih h'
 |und v=>exact .und v
theorem V.on{ρ:W0}{d:D}{v:Value}(h:V E os d v):V E os (d.on ρ) v:=by
 unfold D.on;split
 .exact h
 .exact .und v
theorem Ob.mp_slice(f:D->D)(o:Ob):(o.mp f).sl? =o.sl? :=by cases o<;>simp[Ob.mp,Ob.sl?]
theorem Ob.mp_kd(f:D->D)(o:Ob):(o.mp f).kd=o.kd:=GH
theorem Ob.mp_mb(f:D->D)(o:Ob)(q:Nat×Value):(o.mp f).mb q=o.mb q:=GH
theorem VC.mp{f:D->D}(hf: ∀d v,V E os d v->V E os (f d) v){ag:Bool}{ds:J8}{v:Value}(h:VC E os ag ds v):VC E os ag (ds.map f) v:=by
 obtain⟨h1,h2,h3⟩:=h;refine⟨?_,U9,λj d u hd hu=> ?_⟩
 .cases ag with
  |true=>exact h1
  |false=>simp only[JV,if_false,YZ]at h1|-;exact h1
 .rw[YE]at hd;obtain⟨d0,h0,rfl⟩:=Za hd;exact⟨hf d0 u (h3 j d0 u h0 hu).1,(h3 j d0 u h0 hu).2⟩
theorem YI.mp{f:D->D}(hf: ∀d v,V E os d v->V E os (f d) v){b:Nat}{dk:KK}{ag:Bool}{l:W2}(h:YI E os b dk ag l):YI E os b dk ag (l.map (mpP f)):=by
 have key: ∀ {κ:Type} [DecidableEq κ] {mk:κ->Value} {kx:κ->J9},ZCd mk kx E os b ag l->ZCd mk kx E os b ag (l.map (mpP f)):=by
  intro κ _ mk kx ⟨l',h1,h2,h3⟩;refine⟨l',h1,U9,λi a q ha hq=> ?_⟩;rw[YE]at hq;obtain⟨q0,hq0,rfl⟩:=Za hq;obtain⟨k1,k2⟩:=h3 i a q0 ha hq0;exact⟨k1,k2.mp hf⟩
 cases dk with
 |int k=>exact key h
 |str=>exact key h
 |st _ _=>exact h.elim
theorem ZFp.mp{f:D->D}(hf: ∀d v,V E os d v->V E os (f d) v){dk:KK}{ag:Bool}{e:MapEntry}{q:Pr}(h:ZFp E os dk ag e q):ZFp E os dk ag e (mpP f q):=⟨h.1,h.2.mp hf⟩
theorem ZMt.mp{f:D->D}(hf: ∀d v,V E os d v->V E os (f d) v){p:Nat×Value}{dk:KK}{ag:Bool}{it:Nat}{R:W2}{cur:Option Pr}(h:ZMt E os p dk ag it R cur):ZMt E os p dk ag it (R.map (mpP f)) (cur.map (mpP f)):=by
 obtain⟨ib,cu,es,clk,since,seen,c0,o,h1,h2,h3,h4,h5,h6,h7,h8,h9,h10,h11⟩:=h;refine⟨ib,cu,es,clk,since,seen,c0,o,h1,h2,h3,h4,h5,h6,h7,h8,h9,⟨by simpa using h10.1,λi x q hx hq=> ?_⟩,λq hq=> ?_⟩
 .rw[YE]at hq;obtain⟨q0,hq0,rfl⟩:=Za hq;exact(h10.2 i x q0 hx hq0).mp hf
 .obtain⟨q0,hq0,rfl⟩:=Za hq;obtain⟨g1,s',x,g2,g3,g4⟩:=h11 q0 hq0;exact⟨g1,s',x,g2,g3,g4.mp hf⟩
theorem Rel.mp(R:Rel c E os){f:D->D}(hf: ∀d v,V E os d v->V E os (f d) v):Rel c E (os.map (Ob.mp f))/\Evo E os E (os.map (Ob.mp f)):=by
 have at': ∀ {i:Nat} {o:Ob},(os.map (Ob.mp f))[i]? =some o-> ∃o0,os[i]? =some o0/\o=o0.mp f:=λ{i o} h=>by
  exact TZ
 have ev:Evo E os E (os.map (Ob.mp f)):=⟨λb o h=>⟨h,rfl⟩,λid b cu o k ho hkd hb=>⟨cu,o.mp f,GG,by rw[Ob.mp_kd];exact hkd,hb⟩,
  λid o sz rs ho hs=>⟨o.mp f,rs,GG,by rw[Ob.mp_slice];exact hs,.inl ⟨rfl,rfl⟩⟩⟩
 refine⟨⟨GJ,λi o p h1 h2=> ?_,λi j o o' p p' b h1 h2 h3 h4 h5 h6=> ?_,λb off hs=>⟨(R.stm b off hs).1,λi o p h1 h2 h3=> ?_⟩,R.kept,λi o p b h1 h2 h3=> ?_,R.sto⟩,ev⟩
 .obtain⟨o0,h0,rfl⟩:=at' h1;have hok:=R.ok i o0 p h0 h2;cases o0 with
  |box ds=>
   obtain⟨cs,ty,g1,g2,g3⟩:=hok;refine⟨cs,ty,g1,by simpa using g2,λj d v hd hv=> ?_⟩;rw[YE]at hd;obtain⟨d0,hd0,rfl⟩:=Za hd;exact⟨(hf d0 v (g3 j d0 v hd0 hv).1).mono ev,(g3 j d0 v hd0 hv).2⟩
  |rows fz el sz rs=>exact hok
  |drw el sz rs=>
   obtain⟨xs,g1,g2,g3⟩:=hok;refine⟨xs,by rw[YZ];exact g1,λr hr=> ?_,λi r j d v hr hd hv=> ?_⟩
   .obtain⟨r0,h0,rfl⟩:=YR.1 hr;rw[YZ];exact g2 r0 h0
   .rw[YE]at hr;obtain⟨r0,hr0,rfl⟩:=Za hr;rw[YE]at hd;obtain⟨d0,hd0,rfl⟩:=Za hd;exact⟨(hf d0 v (g3 i r0 j d0 v hr0 hd0 hv).1).mono ev,(g3 i r0 j d0 v hr0 hd0 hv).2⟩
  |frz sz rs=>exact hok
  |mpo dk ag l=>exact(hok.mp hf).mono ev rfl
  |mit dk ag l it R cur=>exact⟨(hok.1.mp hf).mono ev rfl,(hok.2.mp hf).mono ev (λ_ _=>rfl)⟩
  |mpn dk ag l key sid=>exact⟨(hok.1.mp hf).mono ev rfl,hok.2.mono ev rfl⟩
  |sit s pos=>exact hok
  |nit=>exact hok
  |itr=>trivial
  |stp=>trivial
  |old _ _=>trivial
  |fam _ _ _=>exact hok
  |dead=>trivial
 .obtain⟨o1,g1,rfl⟩:=at' h1;obtain⟨o2,g2,rfl⟩:=at' h3;rw[Ob.mp_mb]at h5 h6;exact R.dis i j o1 o2 p p' b g1 h2 g2 h4 h5 h6
 .obtain⟨o1,g1,rfl⟩:=at' h1;rw[Ob.mp_mb]at h3;exact(R.stm b off hs).2 i o1 p g1 h2 h3
 .obtain⟨o1,g1,rfl⟩:=at' h1;rw[Ob.mp_mb]at h3;exact R.mbs i o1 p b g1 h2 h3
theorem Ob.mpb_slice(f:D->D)(o:Ob):(o.mpb f).sl? =o.sl? :=by cases o<;>simp[Ob.mpb,Ob.sl?]
theorem Ob.mpb_kd(f:D->D)(o:Ob):(o.mpb f).kd=o.kd:=GH
theorem Ob.mpb_mb(f:D->D)(o:Ob)(q:Nat×Value):(o.mpb f).mb q=o.mb q:=GH
theorem Rel.mpb(R:Rel c E os){f:D->D}(hf: ∀d v,V E os d v->V E os (f d) v):Rel c E (os.map (Ob.mpb f))/\Evo E os E (os.map (Ob.mpb f)):=by
 have at': ∀ {i:Nat} {o:Ob},(os.map (Ob.mpb f))[i]? =some o-> ∃o0,os[i]? =some o0/\o=o0.mpb f:=λ{i o} h=>by
  exact TZ
 have ev:Evo E os E (os.map (Ob.mpb f)):=⟨λb o h=>⟨h,rfl⟩,λid b cu o k ho hkd hb=>⟨cu,o.mpb f,GG,by rw[Ob.mpb_kd];exact hkd,hb⟩,
  λid o sz rs ho hs=>⟨o.mpb f,rs,GG,by rw[Ob.mpb_slice];exact hs,.inl ⟨rfl,rfl⟩⟩⟩
 refine⟨⟨GJ,λi o p h1 h2=> ?_,λi j o o' p p' b h1 h2 h3 h4 h5 h6=> ?_,λb off hs=>⟨(R.stm b off hs).1,λi o p h1 h2 h3=> ?_⟩,R.kept,λi o p b h1 h2 h3=> ?_,R.sto⟩,ev⟩
 .obtain⟨o0,h0,rfl⟩:=at' h1;have hok:=R.ok i o0 p h0 h2;cases o0 with
  |box ds=>
   obtain⟨cs,ty,g1,g2,g3⟩:=hok;refine⟨cs,ty,g1,by simpa using g2,λj d v hd hv=> ?_⟩;rw[YE]at hd;obtain⟨d0,hd0,rfl⟩:=Za hd;exact⟨(hf d0 v (g3 j d0 v hd0 hv).1).mono ev,(g3 j d0 v hd0 hv).2⟩
  |rows fz el sz rs=>exact hok
  |drw el sz rs=>
   obtain⟨xs,g1,g2,g3⟩:=hok;refine⟨xs,by rw[YZ];exact g1,λr hr=> ?_,λi r j d v hr hd hv=> ?_⟩
   .obtain⟨r0,h0,rfl⟩:=YR.1 hr;rw[YZ];exact g2 r0 h0
   .rw[YE]at hr;obtain⟨r0,hr0,rfl⟩:=Za hr;rw[YE]at hd;obtain⟨d0,hd0,rfl⟩:=Za hd;exact⟨(hf d0 v (g3 i r0 j d0 v hr0 hd0 hv).1).mono ev,(g3 i r0 j d0 v hr0 hd0 hv).2⟩
  |frz sz rs=>exact hok
  |mpo dk ag l=>exact YI.mono ev rfl hok
  |mit dk ag l it R cur=>exact⟨YI.mono ev rfl hok.1,hok.2.mono ev (λ_ _=>rfl)⟩
  |mpn dk ag l key sid=>exact⟨YI.mono ev rfl hok.1,hok.2.mono ev rfl⟩
  |sit s pos=>exact hok
  |nit=>exact hok
  |itr=>trivial
  |stp=>trivial
  |old _ _=>trivial
  |fam _ _ _=>exact hok
  |dead=>trivial
 .obtain⟨o1,g1,rfl⟩:=at' h1;obtain⟨o2,g2,rfl⟩:=at' h3;rw[Ob.mpb_mb]at h5 h6;exact R.dis i j o1 o2 p p' b g1 h2 g2 h4 h5 h6
 .obtain⟨o1,g1,rfl⟩:=at' h1;rw[Ob.mpb_mb]at h3;exact(R.stm b off hs).2 i o1 p g1 h2 h3
 .obtain⟨o1,g1,rfl⟩:=at' h1;rw[Ob.mpb_mb]at h3;exact R.mbs i o1 p b g1 h2 h3
theorem Rel.frzL: ∀(l:W0) {E:Env} {os:J7},Rel c E os-> ∃st',Rel c ⟨E.w,st',E.ob⟩ (frzL l os)/\Evo E os ⟨E.w,st',E.ob⟩ (frzL l os)/\(Go.Ab.frzL l os).length=os.length
 | [],E,os,R=>⟨E.st,R,Evo.refl _ _,rfl⟩
 |i::l,E,os,R=>by
  simp only[Go.Ab.frzL];split
  .rename_i fz e sz rs ho;obtain⟨p,hp,_⟩:=R.at ho;obtain⟨R1,e1⟩:=R.freeze ho hp;obtain⟨st',R2,e2,hl⟩:=Rel.frzL l R1;exact⟨st',R2,e1.trans e2,Us⟩
  .exact Rel.frzL l R
theorem Rel.pickO{ρ:W0}(R:Rel c E os)(hn:ρ.Nodup)(hlt: ∀r∈ρ,r<os.length)(hcl: ∀r∈ρ,(os.getD r .dead).inP (λi=>Zi i ρ)=true):Rel c (fpE ρ E) (Yb ρ os):=by
 have R1:=ZZb R hn hlt hcl;refine⟨R1.len,R1.ok,R1.dis,R1.stm,R.kept,λi o p b h1 h2 h3=> ?_,R.sto⟩;obtain⟨r,o0,p0,k1,k2,rfl,k4,k5⟩:=ZIr R hlt h1;rw[h2]at k5;cases k5;rw[Ob.ren_mb]at h3;exact R.mbs r o0 p b k2 k4 h3
theorem Ob.onI_spec(ρ:W0)(o:Ob):(o.onI ρ).kd=o.kd/\(o.onI ρ).sl? =o.sl? /\(∀p b,(o.onI ρ).mb p b->o.mb p b)/\ ∀(E:Env) (os:J7) p,OK E os o p->OK E os (o.onI ρ) p:=by
 cases o with
 |mit dk ag l it R cur=>
  simp only[Ob.onI];split
  .exact Xb
  .exact⟨rfl,rfl,λ_ _ h=> .inl h,λ_ _ _ h=>h.1⟩
 |mpn dk ag l key sid=>
  simp only[Ob.onI];split
  .exact Xb
  .exact⟨rfl,rfl,λ_ _ h=>h,λ_ _ _ h=>h.1⟩
 |_=>exact Xb
theorem Rel.thaws(R:Rel c E os)(ρ:W0):Rel c E (os.map (Ob.onI ρ))/\Evo E os E (os.map (Ob.onI ρ)):=by
 have at': ∀ {i:Nat} {o:Ob},(os.map (Ob.onI ρ))[i]? =some o-> ∃o0,os[i]? =some o0/\o=o0.onI ρ:=λ{i o} h=>by
  exact TZ
 have ev:Evo E os E (os.map (Ob.onI ρ)):=⟨λb o h=>⟨h,rfl⟩,λid b cu o k ho hkd hb=>⟨cu,o.onI ρ,GG,by rw[(Ob.onI_spec ρ o).1];exact hkd,hb⟩,
  λid o sz rs ho hs=>⟨o.onI ρ,rs,GG,by rw[(Ob.onI_spec ρ o).2.1];exact hs,.inl ⟨rfl,rfl⟩⟩⟩
 refine⟨⟨GJ,λi o p h1 h2=> ?_,λi j o o' p p' b h1 h2 h3 h4 h5 h6=> ?_,λb off hs=>⟨(R.stm b off hs).1,λi o p h1 h2 h3=> ?_⟩,R.kept,λi o p b h1 h2 h3=> ?_,R.sto⟩,ev⟩
 .obtain⟨o0,h0,rfl⟩:=at' h1;exact((Ob.onI_spec ρ o0).2.2.2 E os p (R.ok i o0 p h0 h2)).mono ev (λ_ _=>rfl)
 .obtain⟨o1,g1,rfl⟩:=at' h1;obtain⟨o2,g2,rfl⟩:=at' h3;exact R.dis i j o1 o2 p p' b g1 h2 g2 h4 ((Ob.onI_spec ρ o1).2.2.1 _ _ h5) ((Ob.onI_spec ρ o2).2.2.1 _ _ h6)
 .obtain⟨o1,g1,rfl⟩:=at' h1;exact(R.stm b off hs).2 i o1 p g1 h2 ((Ob.onI_spec ρ o1).2.2.1 _ _ h3)
 .obtain⟨o1,g1,rfl⟩:=at' h1;exact R.mbs i o1 p b g1 h2 ((Ob.onI_spec ρ o1).2.2.1 _ _ h3)
theorem ZZc{ρ:W0}(d:D):(d.on ρ).inP (λi=>Zi i ρ)=true:=by
 unfold D.on;split
 .assumption
 .rfl
theorem ZfJ(ρ:W0)(os:J7)(φ:J4)(t:Nat):get (ZBg ρ os φ) t=(onF ρ os (get φ t)).ren (inv ρ):=by
 induction φ with
 |nil=>rfl
 |cons p φ ih=>
  obtain⟨u,d⟩:=p;simp only[ZBg,YM,get];split
  .rfl
  .exact ih
def Wk(c:Ctx)(E0:Env)(os0:J7)(n:Nat)(φ:J4)(os:J7)(φ':J4)(os':J7):Prop:=
 ∀(E:Env) (a:Act),Run c E0 os0 E os->Fr n E os φ a-> ∃E',E'.w=E.w/\Run c E0 os0 E' os'/\Fr n E' os' φ' a
theorem Wk.pick(ρ:W0)(hok:ZPI ρ os0.length os.length=true):Wk c E0 os0 n φ os (ZBg ρ os φ) (ZCs ρ os):=by
 simp only[ZPI,Zk]at hok;obtain⟨h1,h2,h3⟩:=hok;have hn:=ZHr h1;have hlt: ∀r∈ρ,r<os.length:=λr hr=>by simpa using Yg.1 h2 r hr
 have hpre: ∀i,i<os0.length->ρ[i]? =some i:=λi hi=>by simpa using Yg.1 h3 i (ZE4.2 hi)
 intro E a R hf;obtain⟨R0,e0⟩:=R.rel.mp (f:=onF ρ os) (λd v hd=>(hd.vw R.rel).on);obtain⟨R1,e1'⟩:=R0.thaws ρ;have e1:=e0.trans e1';have hlt1: ∀r∈ρ,r<((os.map (Ob.mp (onF ρ os))).map (Ob.onI ρ)).length:=λr hr=>by simpa using hlt r hr
 have hon: ∀ds:J8,JE (λi=>Zi i ρ) (ds.map (onF ρ os))=true:=λds=>by
  rw[ZBw];refine Yg.2 (λd hd=> ?_);obtain⟨d0,_,rfl⟩:=YR.1 hd;exact ZZc _
 have honM: ∀l:W2,(l.map (mpP (onF ρ os))).all (ZAS (λi=>Zi i ρ))=true:=λl=>by
  refine Yg.2 (λq hq=> ?_);obtain⟨q0,_,rfl⟩:=YR.1 hq;exact hon _
 have hcl: ∀r∈ρ,(((os.map (Ob.mp (onF ρ os))).map (Ob.onI ρ)).getD r .dead).inP (λi=>Zi i ρ)=true:=λr hr=>by
  have hl:=hlt r hr;simp only[List.getD,YE,Zx hl,Yr,Qu];cases os[r]with
  |box ds=>exact hon ds
  |drw e sz rs=>
   refine Yg.2 (λr hr=> ?_);obtain⟨r0,_,rfl⟩:=YR.1 hr;exact hon r0
  |mpo dk ag l=>exact honM l
  |mit dk ag l it R cur=>
   simp only[Ob.mp,Ob.onI];split
   .rename_i hm;simp only[Ob.inP,Zk];refine⟨honM l,hm,honM R,?_⟩;cases cur with
    |none=>rfl
    |some q=>exact hon _
   .exact honM l
  |mpn dk ag l key sid=>
   simp only[Ob.mp,Ob.onI];split
   .rename_i hm;simp only[Ob.inP,Zk];exact⟨honM l,hm⟩
   .exact honM l
  |_=>rfl
 have R2:=R1.pickO hn hlt1 hcl;have e2:=ZKD (ρ:=ρ) R1 hlt1;refine⟨fpE ρ E,rfl,⟨R2,?_⟩,hf.size,hf.defers,λt=> ?_⟩
 .have e01:=R.evo.trans e1;have hl01:os0.length<=((os.map (Ob.mp (onF ρ os))).map (Ob.onI ρ)).length:=by
   rcases ZOc os0.length with h0|h0
   .omega
   .have:=hlt _ (Yz (hpre (os0.length-1) J0));simp only[YZ];omega
  have hinv: ∀i,i<os0.length->inv ρ i=i/\Zi i ρ=true:=λi hi=>⟨ZKq hn (hpre i hi),ZB7.2 (Yz (hpre i hi))⟩
  refine⟨e01.st,λid b cu ds k ho hkd hb=> ?_,λid o sz rs ho hs=> ?_⟩
  .have hi:=(ZV ho).1;obtain⟨cu1,ds1,k1,kd1,k2⟩:=e01.bl id b cu ds k ho hkd hb;obtain⟨w1,w2⟩:=hinv id hi;obtain⟨cu2,ds2,k3,kd2,k4⟩:=e2.bl id b cu1 ds1 k w2 k1 kd1 k2;rw[w1]at k3 k4;exact⟨cu2,ds2,k3,kd2,k4⟩
  .have hi:=(ZV ho).1;obtain⟨o1,rs1,k1,k2,k3⟩:=e01.rf id o sz rs ho hs;obtain⟨w1,w2⟩:=hinv id hi;obtain⟨o2,rs2,k4,k5,k6⟩:=e2.rf id o1 sz rs1 w2 k1 k2;rw[w1]at k4 k6;refine⟨o2,rs2,k4,k5,?_⟩;rcases k3 with⟨k3,k3'⟩|k3<;>rcases k6 with⟨k6,k6'⟩|k6
   .exact Xc
   .exact N8
   .exact N8
   .exact N8
 .have h0:V E os (onF ρ os (get φ t)) (a.tmps.getD t undef):=((hf.slot t).vw R.rel).on;have h1:V (fpE ρ E) (Yb ρ ((os.map (Ob.mp (onF ρ os))).map (Ob.onI ρ))) ((onF ρ os (get φ t)).ren (inv ρ)) (a.tmps.getD t undef):=(h0.mono e1).monoR e2 (ZZc _);rw[ZfJ];exact h1
theorem Wk.freeze(l:W0):Wk c E0 os0 n φ os φ (frzL l os):=by
 intro E a R hf;obtain⟨st',R1,e1,_⟩:=R.rel.frzL l;exact⟨⟨E.w,st',E.ob⟩,rfl,⟨R1,R.evo.trans e1⟩,hf.mono e1⟩
theorem WI.pick(ρ:W0){ic:IC}(hok:ZPI ρ os0.length os.length=true)(h:WI P c E0 os0 n ic Q (ZBg ρ os φ) (ZCs ρ os)):WI P c E0 os0 n ic Q φ os:=WI.weak (Wk.pick ρ hok) h
theorem WI.freeze(l:W0){ic:IC}(h:WI P c E0 os0 n ic Q φ (frzL l os)):WI P c E0 os0 n ic Q φ os:=WI.weak (Wk.freeze l) h
theorem ZA{next:J4->J7->Prop}(h:next φ os):ZHC next Q .normal φ os:=h
theorem Yp{next:J4->J7->Prop}{i:Nat}(h:Q (.exit i) φ os):ZHC next Q (.exit i) φ os:=h
theorem JH{next:J4->J7->Prop}(h:Q .ret φ os):ZHC next Q .ret φ os:=h
theorem QH{i:Nat}(h:Q .normal φ os):ZGg i Q (.exit i) φ os:=by show(if i=i then Q .normal φ os else Q (.exit i) φ os);rw[if_pos rfl];exact h
theorem ZT5{i j:Nat}(hne:j≠i)(h:Q (.exit j) φ os):ZGg i Q (.exit j) φ os:=by show(if j=i then Q .normal φ os else Q (.exit j) φ os);rw[if_neg hne];exact h
theorem ZAb{i:Nat}(h:Q .ret φ os):ZGg i Q .ret φ os:=h
theorem Jf{i:Nat}(h:Q .normal φ os):ZGg i Q .normal φ os:=h
theorem ZSi{l:Nat}{J:J4->J7->Prop}(h:Q .normal φ os):ZNm l J Q .normal φ os:=h
theorem ZV4{l i:Nat}{J:J4->J7->Prop}(h:Q (.exit i) φ os):ZNm l J Q (.exit i) φ os:=h
theorem ZXu{l:Nat}{J:J4->J7->Prop}(h:Q .ret φ os):ZNm l J Q .ret φ os:=h
def D.nn:D->D
 | .x .nils=> .x (.sl [])
 |d=>d
theorem VX.nn{w:World}{st:Nat->Nat->Prop}{v:Value}(h:VX w st .nils v):VX w st (.sl []) v:=by
 cases h;exact .sl [] none 0 0 0 (λ_ _=>undef) rfl (Zp _) (KG _) (λr hr=>TD) (λi j hi=>J0) (λ_=>⟨rfl,rfl⟩) (λ_ ad h=>W6) (λi j r x hr=>by simp at hr)
theorem V.nn{d:D}{v:Value}(h:V E os d v):V E os d.nn v:=by
 unfold D.nn;split
 .exact .x h.xx.nn
 .exact h
theorem VL.nn{ds:J8}{vs:Array Value}(h:VL E os ds vs):VL E os (ds.map D.nn) vs:=by
 refine⟨by simpa using h.1,λj d v hd hv=> ?_⟩;rw[YE]at hd;obtain⟨d0,h0,rfl⟩:=Za hd;exact(h.2 j d0 v h0 hv).nn
theorem ZK.nn{f:FuncId}{args:J8}{r:D}(h:ZK P f (args.map D.nn) r):ZK P f args r:=λw st vs hst hvl=>h w st vs hst hvl.nn
def D.na:D->D
 | .agg ds=> .agg (ds.map D.nn)
 | .x y=>D.nn (.x y)
 | .ref a b c d=> .ref a b c d
 | .ptr a b=> .ptr a b
 | .eptr a b c d=> .eptr a b c d
 | .vptr cs=> .vptr cs
 | .mref a=> .mref a
 | .mnil=> .mnil
 | .iref a b=> .iref a b
 | .stk a b=> .stk a b
 | .bref a b c=> .bref a b c
 | .tup ds=> .tup ds
 | .full rs=> .full rs
 | .nz rs=> .nz rs
 | .fn f c=> .fn f c
 | .opt b d=> .opt b d
 | .und=> .und
theorem V.na{d:D}{v:Value}(h:V E os d v):V E os d.na v:=by
 unfold D.na;split
 .cases h with
  |agg cs hl h1 hv=>exact .agg cs Us h1 (λj d v hd hv'=>by
    rw[YE]at hd;obtain⟨d0,h0,rfl⟩:=Za hd;exact(hv j d0 v h0 hv').nn)
 .exact h.nn
 all_goals exact h
theorem VL.na{ds:J8}{vs:Array Value}(h:VL E os ds vs):VL E os (ds.map D.na) vs:=by
 refine⟨by simpa using h.1,λj d v hd hv=> ?_⟩;rw[YE]at hd;obtain⟨d0,h0,rfl⟩:=Za hd;exact(h.2 j d0 v h0 hv).na
theorem ZK.na{f:FuncId}{args:J8}{r:D}(h:ZK P f (args.map D.na) r):ZK P f args r:=λw st vs hst hvl=>h w st vs hst hvl.na
theorem ZQ.nn{f:FuncId}{args:J8}{r:D}{os':J7}(h:ZQ P f (args.map D.nn) (os.map (Ob.mpb D.nn)) r os'):ZQ P f args os r os':=by
 intro c E vs R hvl;obtain⟨R1,e1⟩:=R.mpb (f:=D.nn) (λd v hd=>hd.nn);refine(h c E vs R1 ⟨hvl.nn.1,λj d v hd hv=>(hvl.nn.2 j d v hd hv).mono e1⟩).mono ?_;rintro e w' ⟨v,E',rfl,rfl,R',ev,hv⟩;exact⟨v,E',rfl,rfl,R',e1.trans ev,hv⟩
def ZDv(φ:J4):J4:=φ.map λp=>(p.1,p.2.nn)
theorem Zho(φ:J4)(t:Nat):get (ZDv φ) t=(get φ t).nn:=by
 induction φ with
 |nil=>rfl
 |cons p φ ih=>
  obtain⟨u,d⟩:=p;simp only[ZDv,YM,get];split
  .rfl
  .exact ih
theorem Wk.nn:Wk c E0 os0 n φ os (ZDv φ) (os.map (Ob.mpb D.nn)):=by
 intro E a R hf;obtain⟨R1,e1⟩:=R.rel.mpb (f:=D.nn) (λd v hd=>hd.nn);exact⟨E,rfl,⟨R1,R.evo.trans e1⟩,hf.size,hf.defers,λt=>by rw[Zho];exact((hf.slot t).nn).mono e1⟩
theorem WI.nn{ic:IC}(h:WI P c E0 os0 n ic Q (ZDv φ) (os.map (Ob.mpb D.nn))):WI P c E0 os0 n ic Q φ os:=WI.weak Wk.nn h
def ZJ(N:Int)(t:Nat)(φ:J4)(_:J7):Nat:=(N-((ZD (get φ t).val).getD 0)).toNat
end
def ZFk(S T:Tabs):Tabs where
 q f args:=match S.q f args with
  |some (true,r)=>some (true,r)
  |_=>T.q f args
 t f args os:=match S.t f args os with
  |some (true,r)=>some (true,r)
  |_=>T.t f args os
 r f args os:=match S.r f args os with
  |some (true,r)=>some (true,r)
  |_=>T.r f args os
 k f args os:=match S.k f args os with
  |some (true,r)=>some (true,r)
  |_=>T.k f args os
theorem ZYN{P:Program}{S T:Tabs}(hS:SsOk P S)(hT:SsOk P T):SsOk P (ZFk S T):=by
 constructor
 .intro f args r h;simp only[ZFk]at h;split at h
  .rename_i r' h1;cases h;exact hS.q _ _ _ h1
  .exact hT.q _ _ _ h
 .intro f args os r os' h;simp only[ZFk]at h;split at h
  .rename_i r' h1;cases h;exact hS.t _ _ _ _ _ h1
  .exact hT.t _ _ _ _ _ h
 .intro f args os r h;simp only[ZFk]at h;split at h
  .rename_i r' h1;cases h;exact hS.r _ _ _ _ h1
  .exact hT.r _ _ _ _ h
 .intro f args os r ob h;simp only[ZFk]at h;split at h
  .rename_i r' h1;cases h;exact hS.k _ _ _ _ _ h1
  .exact hT.k _ _ _ _ _ h
def ZFt(nq:List FuncId)(G:FuncId->Option IFn)(run:IC->J4->J7->Option Out)(b:Bool):Tabs where
 q f args:=if(b&& !QA f nq)=true then(G f).bind λp=>(ZGK true run p args []).bind λr=>if r.1.clean then some (true,r.1)else none else none
 t f args os:=(G f).bind λp=>(ZGK false run p args os).map λr=>(true,r)
 r f args os:=if(b&& !QA f nq)=true then(G f).bind λp=>ZBP (λargs os=>(ZGK true run p args os).bind λq=>if q.1.clean&&KT os q.2 then some (true,q.1)else none) args os else none
 k f args os:=if b then(G f).bind λp=>ZDp (λargs os=>(ZGK false run p args os).bind λq=>match q.2.drop os.length with
   | [.rows fz e sz rs]=>if KT os q.2 then some (true,q.1,.rows fz e sz rs)else none
   |_=>none) args os else none
def ZjJ(os:J7):Bool:=os.any λo=>match o with
 | .rows _ _ _ _=>true
 |_=>false
def ZgV(os:J7):W0:=List.range os.length
def idD:D->W0
 | .ref i _ _ _=> [i]
 | .ptr i _=> [i]
 |_=> []
def ZgX(φ:J4)(os:J7):W0:=(φ.flatMap λp=>idD p.2).flatMap λi=>match(os[i]? :Option Ob)with
 |some (.box l)=>l.flatMap idD
 |some (.rows _ _ _ _)=> [i]
 |_=> []
def ZQz(φ:J4)(f:J7->Option (Bool×List (Nat×D)×J7))(os:J7):Option Out:=match f os with
 |some (true,r)=>some (.normal,r)
 |_=>if ZjJ os=true then match f (frzL (ZgX φ os) os)with
  |some (true,r)=>some (.normal,r)
  |_=>match f (frzL (ZgV os) os)with
   |some (true,r)=>some (.normal,r)
   |_=>none
  else none
theorem ZSf{P:Program}{c:Ctx}{E0:Env}{os0 os:J7}{n:Nat}{Q:Exit->J4->J7->Prop}{φ:J4}{ic:IC}{f:J7->Option (Bool×List (Nat×D)×J7)}(hf: ∀os r,f os=some (true,r)-> ∀Q':Exit->J4->J7->Prop,Q' .normal r.1 r.2->WI P c E0 os0 n ic Q' φ os){x:Exit}{φ':J4}{os':J7}(h:ZQz φ f os=some (x,φ',os'))(hq:Q x φ' os'):WI P c E0 os0 n ic Q φ os:=by
 unfold ZQz at h;split at h
 .rename_i r hr;cases h;exact hf _ _ hr _ hq
 .split at h
  .split at h
   .rename_i r hr;cases h;exact WI.freeze (ZgX φ os) (hf _ _ hr _ hq)
   .split at h
    .rename_i r hr;cases h;exact WI.freeze (ZgV os) (hf _ _ hr _ hq)
    .cases h
  .cases h
def ev(S0:Tabs)(nq:List FuncId)(G:FuncId->Option IFn):Nat->IC->J4->J7->Option Out
 |0,_,_,_=>none
 |n+1,ic,φ,os=>match ic with
  | .skip=>some (.normal,φ,os)
  | .reg l=>ZQz φ (λos=>QC (ZFk S0 (ZFt nq G (ev S0 nq G n) false)) φ os l) os
  | .dreg k rs k2 rs2 l=>ZQz φ (λos=>match ZHZ none (ZFk S0 (ZFt nq G (ev S0 nq G n) true)) φ os k rs l with
   |some (true,r)=>some (true,r)
   |_=>ZHZ (some []) (ZFk S0 (ZFt nq G (ev S0 nq G n) true)) φ os k2 rs2 l) os
  | .seq a b=>(ev S0 nq G n a φ os).bind λr=>match r.1 with
   | .normal=>ev S0 nq G n b r.2.1 r.2.2
   |_=>some r
  | .cond x a b=>match(ZG φ x).val with
   | .x (.bool v)=>if(ZG φ x).cond then(if v then ev S0 nq G n a φ os else ev S0 nq G n b φ os)else none
   |_=>none
  | .block i b=>(ev S0 nq G n b φ os).map λr=>match r.1 with
   | .exit j=>if j=i then(.normal,r.2)else r
   |_=>r
  | .loop b=>(ev S0 nq G n b φ os).bind λr=>match r.1 with
   | .normal=>ev S0 nq G n (.loop b) r.2.1 r.2.2
   |_=>some r
  | .exit i=>some (.exit i,φ,os)
  | .ret=>some (.ret,φ,os)
  | .label _=>some (.normal,φ,os)
  | .goto l=>some (.goto l,φ,os)
  | .scope b cur=>(ev S0 nq G n cur φ os).bind λr=>match r.1 with
   | .goto l=>match ZFT b l with
    |some rest=>ev S0 nq G n (.scope b rest) r.2.1 r.2.2
    |none=>none
   |_=>some r
  | .dead=>none
section
variable {P:Program} {G:FuncId->Option IFn}
theorem ZX7{nq:List FuncId}(hG:GOk P G){run:IC->J4->J7->Option Out}(hr:ZaV P run)(b:Bool):SsOk P (ZFt nq G run b):=by
 constructor
 .intro f args r h;simp only[ZFt]at h;split at h
  .obtain⟨p,hp,h⟩:=Zf h;obtain⟨⟨r',os'⟩,h1,h⟩:=Zf h;simp only at h;split at h
   .rename_i hcl;cases h;obtain⟨k1,k2⟩:=ZGn hG hr hp h1;refine⟨k1,ZH.pure (λc E vs R hvl=>(k2 c E vs R hvl).mono ?_) hcl⟩;rintro e w' ⟨v,E',r2,os2,rfl,rfl,R',e',hv,rfl,rfl⟩;exact⟨v,E',_,_,rfl,rfl,R',e',hv,rfl⟩
   .cases h
  .cases h
 .intro f args os r os' h;simp only[ZFt,YF]at h;obtain⟨p,hp,h⟩:=h;obtain⟨⟨r',os2⟩,h1,h⟩:=Za h;simp at h;obtain⟨rfl,rfl⟩:=h;obtain⟨k1,k2⟩:=ZGn hG hr hp h1;exact⟨k1,k2.mcalls⟩
 .intro f args os r h;simp only[ZFt]at h;split at h
  .obtain⟨p,hp,h⟩:=Zf h;obtain⟨fn,w1,w2,w3⟩:=hG f p hp;refine⟨enters w1 w2 w3,ZMm (λargs os r hg=> ?_) args os r h⟩;obtain⟨⟨r',os'⟩,h1,h2⟩:=Zf hg;simp only at h2;split at h2
   .rename_i hcl;simp only[Zk]at hcl;cases h2;obtain⟨X,rfl⟩:=ZI3 hcl.2;exact⟨hcl.1,X,(ZGn hG hr hp h1).2.mcalls⟩
   .cases h2
  .cases h
 .intro f args os r ob h;simp only[ZFt]at h;split at h
  .obtain⟨p,hp,h⟩:=Zf h;obtain⟨fn,w1,w2,w3⟩:=hG f p hp;refine⟨enters w1 w2 w3,ZVN (λargs os r ob hg=> ?_) args os r ob h⟩;obtain⟨⟨r',os'⟩,h1,h2⟩:=Zf hg;simp only at h2;split at h2
   .rename_i fz e sz rs hdrop;split at h2
    .rename_i hpre;simp only[Yj,YN,true_and]at h2;obtain⟨rfl,rfl⟩:=h2;obtain⟨X,rfl⟩:=ZI3 hpre;rw[List.drop_left]at hdrop;subst hdrop;exact⟨⟨fz,e,sz,rs,rfl⟩,(ZGn hG hr hp h1).2.mcalls⟩
    .cases h2
   .cases h2
  .cases h
theorem ZWf{S0:Tabs}{nq:List FuncId}(h0:SsOk P S0)(hG:GOk P G): ∀n,ZaV P (ev S0 nq G n)/\(∀b cur φ os x φ' os',ev S0 nq G n (.scope b cur) φ os=some (x,φ',os')-> ∀(c:Ctx) (E0:Env) (os0:J7) (m:Nat) (code rc:Code),Zl P m code=some b->Zl P m rc=some cur-> ∀(E:Env) (a:Act),Run c E0 os0 E os->Fr m E os φ a->
  ZPH P code rc (λy a' w'=> ∃E2 φ2 os2,E2.w=w'/\Run c E0 os0 E2 os2/\Fr m E2 os2 φ2 a'/\y=x/\φ2=φ'/\os2=os') a E.w)/\ ∀b φ os x φ' os',ev S0 nq G n (.loop b) φ os=some (x,φ',os')-> ∀(c:Ctx) (E0:Env) (os0:J7) (m:Nat) (code:Code),Zl P m code=some b-> ∀(E:Env) (a:Act),Run c E0 os0 E os->Fr m E os φ a->
  Code.rounds P code (λy a' w'=> ∃E2 φ2 os2,E2.w=w'/\Run c E0 os0 E2 os2/\Fr m E2 os2 φ2 a'/\y=x/\φ2=φ'/\os2=os') n a E.w:=by
 intro n
 induction n with
 |zero=>exact⟨λ_ _ _ _ _ _ h=>W6,λ_ _ _ _ _ _ _ h=>W6,λ_ _ _ _ _ _ h=>W6⟩
 |succ n ih=>
  obtain⟨ih1,ih3,ih2⟩:=ih;have hS:=λb=>ZYN h0 (ZX7 (nq:=nq) hG ih1 b)
  have B: ∀b φ os x φ' os',ev S0 nq G (n+1) (.loop b) φ os=some (x,φ',os')-> ∀(c:Ctx) (E0:Env) (os0:J7) (m:Nat) (code:Code),Zl P m code=some b-> ∀(E:Env) (a:Act),Run c E0 os0 E os->Fr m E os φ a->
    Code.rounds P code (λy a' w'=> ∃E2 φ2 os2,E2.w=w'/\Run c E0 os0 E2 os2/\Fr m E2 os2 φ2 a'/\y=x/\φ2=φ'/\os2=os') (n+1) a E.w:=by
   intro b φ os x φ' os' h c E0 os0 m code hc E a R hf;simp only[ev,YF]at h;obtain⟨⟨y,φ1,os1⟩,h1,h⟩:=h;rw[rounds_succ];refine Code.wp_mono ?_ (ih1 b φ os y φ1 os1 h1 c E0 os0 m code hc E a R hf);rintro e a' w' ⟨E',φ2,os2,rfl,R2,f2,rfl,rfl,rfl⟩;cases e<;>simp only at h<;>first
    |exact ih2 _ _ _ _ _ _ h c E0 os0 m code hc E' a' R2 f2
    |(cases h;exact⟨E',_,_,rfl,R2,f2,rfl,rfl,rfl⟩)
  have S: ∀b cur φ os x φ' os',ev S0 nq G (n+1) (.scope b cur) φ os=some (x,φ',os')-> ∀(c:Ctx) (E0:Env) (os0:J7) (m:Nat) (code rc:Code),Zl P m code=some b->Zl P m rc=some cur-> ∀(E:Env) (a:Act),Run c E0 os0 E os->Fr m E os φ a->
    ZPH P code rc (λy a' w'=> ∃E2 φ2 os2,E2.w=w'/\Run c E0 os0 E2 os2/\Fr m E2 os2 φ2 a'/\y=x/\φ2=φ'/\os2=os') a E.w:=by
   intro b cur φ os x φ' os' h c E0 os0 m code rc hcb hcc E a R hf;simp only[ev,YF]at h;obtain⟨⟨y,φ1,os1⟩,h1,h⟩:=h;refine ZKl (Code.wp_mono ?_ (ih1 cur φ os y φ1 os1 h1 c E0 os0 m rc hcc E a R hf));rintro e a' w' ⟨E',φ2,os2,rfl,R2,f2,rfl,rfl,rfl⟩;cases e with
   |goto l=>
    simp only at h|-;cases hfi:ZFT b l with
    |none=>rw[hfi]at h;cases h
    |some rest=>
     rw[hfi]at h;obtain⟨rc',k1,k2⟩:=(ZHd b code hcb l).1 rest hfi;exact⟨rc',k1,ih3 b rest _ _ _ _ _ h c E0 os0 m code rc' hcb k2 E' a' R2 f2⟩
   |_=>simp only at h;cases h;exact⟨E',_,_,rfl,R2,f2,rfl,rfl,rfl⟩
  refine⟨λic φ os x φ' os' h c E0 os0 m=> ?_,S,B⟩;cases ic with
  |skip=>simp only[ev]at h;cases h;exact WI.skip ⟨rfl,rfl,rfl⟩
  |ret=>simp only[ev]at h;cases h;exact WI.ret ⟨rfl,rfl,rfl⟩
  |exit i=>simp only[ev]at h;cases h;exact WI.exit ⟨rfl,rfl,rfl⟩
  |label l=>simp only[ev]at h;cases h;exact WI.label ⟨rfl,rfl,rfl⟩
  |goto l=>simp only[ev]at h;cases h;exact WI.goto ⟨rfl,rfl,rfl⟩
  |dead=>simp only[ev]at h;cases h
  |scope b cur=>
   intro code hc E a R hf;obtain⟨cb,rfl,h1,rfl⟩:=ZKC hc;exact ZMv (S _ _ φ os x φ' os' h c E0 os0 m cb cb h1 h1 E a R hf)
  |reg l=>
   simp only[ev]at h;exact ZSf (λos r hr Q' hq=>WI.reg' (hS _) hr rfl hq) h ⟨rfl,rfl,rfl⟩
  |dreg k rs k2 rs2 l=>
   simp only[ev]at h;refine ZSf (λos r hr Q' hq=> ?_) h ⟨rfl,rfl,rfl⟩;split at hr
   .rename_i h1;cases hr;exact WI.dreg' (hS _) (.inl h1) rfl hq (λ_ _ f=>f)
   .exact WI.dreg' (hS _) (.inr hr) rfl hq (λ_ _ f=>f)
  |seq a b=>
   simp only[ev,YF]at h;obtain⟨⟨y,φ1,os1⟩,h1,h⟩:=h;refine WI.seq (WI.mono (ih1 _ _ _ _ _ _ h1 c E0 os0 m) ?_);rintro e φ2 os2 ⟨rfl,rfl,rfl⟩;cases e<;>simp only at h<;>first
    |exact ih1 _ _ _ _ _ _ h c E0 os0 m
    |(cases h;exact⟨rfl,rfl,rfl⟩)
  |cond x a b=>
   simp only[ev]at h;split at h
   .rename_i v hv;split at h
    .rename_i hcd;refine WI.cond hv hcd (λhb=> ?_) (λhb=> ?_)
     .subst hb;exact ih1 _ _ _ _ _ _ h c E0 os0 m
     .subst hb;exact ih1 _ _ _ _ _ _ h c E0 os0 m
    .cases h
   .cases h
  |block i b=>
   simp only[ev,Kj]at h;obtain⟨⟨y,φ1,os1⟩,h1,h⟩:=h;refine WI.block (WI.mono (ih1 _ _ _ _ _ _ h1 c E0 os0 m) ?_);rintro e φ2 os2 ⟨rfl,rfl,rfl⟩;cases e with
   |exit j=>
    simp only at h;simp only[ZGg];split at h
    .rename_i hj;rw[if_pos hj];cases h;exact⟨rfl,rfl,rfl⟩
    .rename_i hj;rw[if_neg hj];cases h;exact⟨rfl,rfl,rfl⟩
   |_=>simp only at h;cases h;exact⟨rfl,rfl,rfl⟩
  |loop b=>
   intro code hc E a R hf;obtain⟨cb,rfl,h1⟩:=ZJM hc;exact wp_loop_rounds (n+1) (B b φ os x φ' os' h c E0 os0 m cb h1 E a R hf)
theorem ZfC{S0:Tabs}{nq:List FuncId}(h0:SsOk P S0)(hG:GOk P G)(n:Nat){f:FuncId}{p:IFn}(hp:G f=some p){args:J8}{os':J7}{r:D}(h:ZGK true (ev S0 nq G n) p args []=some (r,os'))(hcl:r.clean=true):Enters P f/\ZK P f args r:=
 let k:=ZGn hG (ZWf h0 hG n).1 hp h
 ⟨k.1,ZH.pure (λc E vs R hvl=>(k.2 c E vs R hvl).mono (by
  rintro e w' ⟨v,E',r2,os2,rfl,rfl,R',e',hv,rfl,rfl⟩;exact⟨v,E',_,_,rfl,rfl,R',e',hv,rfl⟩)) hcl⟩
theorem ZXM{P:Program}{G:FuncId->Option IFn}(hG:GOk P G)(n:Nat){f:FuncId}{p:IFn}(hp:G f=some p){S0:Tabs}(h0:SsOk P S0)(nq:List FuncId){args:J8}{r:D}(h:(ZGK true (ev S0 nq G n) p args []).map (·.1)=some r)(hcl:r.clean=true):ZK P f args r:=by
 obtain⟨⟨r',os⟩,h1,h2⟩:=Za h;simp only at h2;subst h2;exact(ZfC h0 hG n hp h1 hcl).2
end
end Go.Ab
end
