import Derived.Test.YtiogclkbccdefaaGreatDoorLA2
import Derived.Orders
set_option linter.unusedSimpArgs false
set_option linter.unusedVariables false
set_option maxRecDepth 100000
theorem W3{p:Prop}(h:p:=by simp[IE.reads,ht]):p:=h
theorem WL{p:Prop}(h:p:=by obtain⟨d,x,s,w1,w2,w3⟩:=k3 q io (by simpa using hi);refine⟨d,x,s,by simpa using w1,by simpa using w2,?_⟩;simp only[Qm,Yb,Yy,Zs,Yd];rw[ZAo _ 1 0,show i+(q+1)=i+1+q by omega];exact w3):p:=h
theorem WO{p:Prop}(h:p:=by simp[D.cells?]at hc;subst hc;exact⟨rfl,λcs e=>by cases e⟩):p:=h
theorem WT{p:Prop}(h:p:=by decide):p:=h
theorem WZ{p:Prop}(h:p:=by simpa using hj):p:=h
theorem Vj{p:Prop}(h:p:=by simp only[ZT,ZR (x:=x) (λt ht=>h t W3),ZR (x:=y) (λt ht=>h t W3)]):p:=h
theorem VB{p:Prop}(h:p:=by simp only[YF,ZR (x:=x) (λt ht=>h t W3),ZR (x:=y) (λt ht=>h t W3)]):p:=h
theorem VZ{p:Prop}(h:p:=by have:=h (j+1) x WZ;rw[show i+1+j=i+(j+1) by omega];exact this):p:=h
theorem Ua{p:Prop}(h:p:=by have:=h (j+1) r WZ;rw[show i+1+j=i+(j+1) by omega];exact this):p:=h
theorem Ue{p:Prop}(h:p:=by rw[ho]at h;rw[ZDU ho];exact h):p:=h
theorem Uf{p:Prop}(h:p:=by simp only[ZT,ZR (x:=x) h]):p:=h
theorem Uv{p:Prop}(h:p:=by obtain⟨E',w1,w2,w3⟩:=ZYn (P:=P) R ho1 ho2 v1 hk v2 hvc hT (ZEP hdk).1;exact⟨_,E',ZGl (s:=Instr.mapUpdate t (a.eval x) (a.eval y) (a.eval u)) rfl w1,w2,w3,.skip rfl⟩):p:=h
theorem Uy{p:Prop}(h:p:=by obtain⟨y,hy,hc⟩:=Zg hc;cases hc;simp[YF]at h):p:=h
theorem U7{p:Prop}(h:p:=by simp[IOp.reads,ht]):p:=h
theorem U9{p:Prop}(h:p:=by obtain⟨⟨ok,d,os1⟩,hr,h⟩:=Zc h;simp at h;obtain⟨rfl,rfl,rfl⟩:=h;exact ZNg hS R hf he hr (λv E' R' ev hv=>hK E' _ R' ev ((hf.mono ev).putO hdst hv))):p:=h
theorem UF{p:Prop}(h:p:=by unfold execOp;simp only[resolve,hfv,Deferred.ofValue,Sem.run_bind,Sem.run_pure,Result.andThen_ok,invoke];have:=hen (#[]++args.map a.eval++capv) E.w;exact V3):p:=h
theorem UQ{p:Prop}(h:p:=by rename_i hw;simp only[Yu,YP,true_and]at h;obtain⟨rfl,rfl⟩:=h;rw[ZJs hs hf (by simpa using hw) want];simp only[Je,if_false];exact un .und rfl rfl):p:=h
theorem Te{p:Prop}(h:p:=by rintro e w' ⟨v,E',rfl,rfl,R',ev,hv⟩;exact⟨v,rfl,hK v E' R' ev hv⟩):p:=h
theorem Tp{p:Prop}(h:p:=by refine KG (s:=Instr.alloc t true (.tuple #[])) rfl ⟨_,E',?_,k2,k3,k4⟩;rw[k1];simp[Instr.alloc,zeroValue,ZEF hi,hz,newVar,newRow]):p:=h
theorem Tz{p:Prop}(h:p:=by simp only[Yq];rw[ZR (x:=y) (λt ht=>h t (by simp[IE.reads,ZF7,ht]))]):p:=h
theorem T4{p:Prop}(h:p:=by simp only[IE.reads,KT];exact .inr (ZFM.2 ⟨y,hy,ht⟩)):p:=h
theorem TC{p:Prop}(h:p:=by unfold Kr ZB5;split<;>(try split)<;>(try split)<;>rfl):p:=h
theorem TR{p:Prop}(h:p:=by intro hl;simp only[Qa,hl y J1,ih (λz hz=>hl z (by simp[hz]))]):p:=h
theorem TT{p:Prop}(h:p:=by exact hK undef E R (Evo.refl _ _) (.opt (λh=>W6) (λ_=>rfl))):p:=h
theorem TU{p:Prop}(h:p:=by show(E.ob++ [_])[os.length]? =_;rw[<-R.len];simp):p:=h
theorem TX{p:Prop}(h:p:=by simp only[ZPw,KT];exact .inr ht):p:=h
theorem Gg{p:Prop}(h:p:=by exact⟨rfl,rfl⟩):p:=h
theorem Gm{p:Prop}(h:p:=by obtain⟨y,_,h2⟩:=Zg he;exact h y e h2):p:=h
theorem Gy{p:Prop}(h:p:=by simpa using ho):p:=h
theorem G3{p:Prop}(h:p:=by refine KG (s:=Instr.box t (a.eval x)) rfl ⟨_,E',?_,k2,k3,k4⟩;rw[k1];simp[Instr.box,newVar,newRow]):p:=h
theorem G5{p:Prop}(h:p:=by rename_i hw;simp only[Yu,YP,true_and]at h;obtain⟨rfl,rfl⟩:=h;rw[if_neg hw];exact un .und rfl rfl):p:=h
theorem G9{p:Prop}(h:p:=by simp only[ZT]):p:=h
theorem GF{p:Prop}(h:p:=by rw[show i+1+m=i+(m+1) by omega];exact hd):p:=h
theorem GH{p:Prop}(h:p:=by refine KG (s:=Instr.buildSlice t m (parts.map λ(i,x)=>(i,a.eval x))) rfl ?_;rw[e',e];exact hres):p:=h
theorem GM{p:Prop}(h:p:=by simp only[YF,ZR (x:=x) (λt ht=>h t W3),ZR (x:=k) (λt ht=>h t W3),ZR (x:=v) (λt ht=>h t W3)]):p:=h
theorem GS{p:Prop}(h:p:=by simp only[YF,ZR (x:=x) h]):p:=h
theorem GU{p:Prop}(h:p:=by simp[Jo,Zx]at h):p:=h
theorem GW{p:Prop}(h:p:=by obtain⟨y,_,rfl⟩:=Zc he;exact h y):p:=h
theorem Nc{p:Prop}(h:p:=by cases y<;>simp[D.beq]at h;rw[h.1,h.2]):p:=h
theorem Nh{p:Prop}(h:p:=by simp only[KL,YG]at hc;obtain⟨x',hx,lo',hl,hi',hh,mx',hm,hc⟩:=hc;cases hc;simp[YF]at h):p:=h
theorem Ny{p:Prop}(h:p:=by simp[Region.wanted,hg]):p:=h
theorem N8{p:Prop}(h:p:=by have:=h (j+1) d' o' WZ;rw[show i+1+j=i+(j+1) by omega];exact this):p:=h
theorem NI{p:Prop}(h:p:=by simp only[ZC0]at h;cases h):p:=h
theorem NM{p:Prop}(h:p:=by rw[show i+(m+1)=i+1+m by omega]):p:=h
theorem Xv{p:Prop}(h:p:=by cases y<;>simp[D.beq]at h;rw[h.1,h.2.1,h.2.2.1,h.2.2.2]):p:=h
theorem X7{p:Prop}(h:p:=by rw[show i+1+j=i+(j+1) by omega];exact hn (j+1) x J0 Gw):p:=h
theorem Hi{p:Prop}(h:p:=by simp only[YF,ZR (x:=x) (λt ht=>h t W3),ZR (x:=k) (λt ht=>h t W3)]):p:=h
theorem Hm{p:Prop}(h:p:=by rw[<-hag];exact VC.of vu hcs q1 q2 q3):p:=h
theorem Hn{p:Prop}(h:p:=by obtain⟨ys,hys,he⟩:=Zg he;cases he):p:=h
theorem Hs{p:Prop}(h:p:=by simp[k1]):p:=h
theorem H0{p:Prop}(h:p:=by cases h';exact h):p:=h
theorem HL{p:Prop}(h:p:=by show(E.ob.set id (E.w.heap.size,undef))[id]? =_;simp[R.len,hlt]):p:=h
theorem HS{p:Prop}(h:p:=by simp[IOp.reads]):p:=h
section
namespace Go.Ab
open Go.RowKit Go.Bo
section
variable {P:Program} {E:Env} {os:J7} {c:Ctx} {n:Nat} {φ:J4} {a:Act}
theorem Zbf(R:Rel c E os){d:D}{v:Value}(hv:V E os d v){src:J6}{sz:Nat}(hr:ZCC os sz d=some src)(hz: ∀r∈src,r.length=sz):
  ∃news:List Value,news.length=src.length*sz/\(∀k,k<=src.length->(Builtin.firstCells sz k v).run P E.w= .ok (news.take (k*sz)).toArray E.w)/\(Builtin.lenOf v).run P E.w= .ok src.length E.w/\
   (∀u∈news,u.oneCell'=true)/\ ∀(i:Nat) (r:J9) (j:Nat) (x:X),src[i]? =some r->r[j]? =some x-> ∃u,news[i*sz+j]? =some u/\VX E.w E.st x u:=by
 have base:Zx os d=some src-> ∃news:List Value,news.length=src.length*sz/\(∀k,k<=src.length->(Builtin.firstCells sz k v).run P E.w= .ok (news.take (k*sz)).toArray E.w)/\(Builtin.lenOf v).run P E.w= .ok src.length E.w/\
   (∀u∈news,u.oneCell'=true)/\ ∀(i:Nat) (r:J9) (j:Nat) (x:X),src[i]? =some r->r[j]? =some x-> ∃u,news[i*sz+j]? =some u/\VX E.w E.st x u:=by
  intro hr;obtain⟨ad,cp,news,rfl,q2,q3,q4,q5,q6,q7,q8⟩:=ZBS R hv hr hz;refine⟨news,q4,λk hks=> ?_,by simp[Builtin.lenOf],q7,q8⟩;cases ad with
  |none=>
   have h0:=q5 rfl;have:k=0:=Wm
   subst this;simp[Builtin.firstCells]
  |some ad=>
   refine run_firstCells_some (P:=P) E.w sz k ad src.length cp _ ?_ (λj u hu=> ?_)
   .rw[Yv,q4];have:k*sz<=src.length*sz:=Ky _ hks;omega
   .have hj:=(ZX hu).1;rw[Yv]at hj;rw[Kp,if_pos J0]at hu;exact q6 ad rfl j u hu
 unfold ZCC at hr;split at hr
 .rename_i s;split at hr
  .rename_i h1;subst h1;cases hr;cases hv with
   |x hx=>
    cases hx;refine⟨s.map λb=> .int .u8 b.toNat,J1,λk hk=> ?_,?_,?_,?_⟩
    .have:(ByteArray.extract (ZV s) 0 k).data.map (λb=>Value.int .u8 b.toNat)=((s.map λb=>Value.int .u8 b.toNat).take (k*1)).toArray:=by
      apply ZD7.1;simp[ZV,ByteArray.data_extract,ZW3]
     show(pure _:Sem _).run P E.w=_;rw[this];rfl
    .simp[Builtin.lenOf,ZAO]
    .intro u hu;obtain⟨b,_,rfl⟩:=YS.1 hu;rfl
    .intro i r j x h1 h2;rw[YI]at h1;obtain⟨b,hb,rfl⟩:=Zc h1;cases j with
     |zero=>
      simp[Zv]at h2;subst h2;exact⟨.int .u8 b.toNat,by simp[hb],.int _ _⟩
     |succ j=>simp[Zv]at h2
  .cases hr
 .exact base hr
theorem ZhF(R:Rel c E os){t u ty e sz:Nat}(ht:P.underlying t=some (.slice e))(hs:Kn P e=some sz){id ext off len:Nat}{fz:Bool}{el:Nat}{rs:J6}{vx:Value}(hx:V E os (.ref id ext off len) vx)(ho:os[id]? =some (.rows fz el sz rs))(hext:rs.length=ext)
  {y:D} {vy:Value} (hy:V E os y vy) {src:J6} (hr:ZCC os sz y=some src) (hrl: ∀r∈src,r.length=sz):
  ∃E',(Builtin.copy_ #[t,u] ty #[vx,vy]).run P E.w= .ok (.int .i64 (min src.length len:Nat)) E'.w/\Rel c E' (os.set id (.rows fz el sz (rs.take off++src.take (min src.length len)++rs.drop (off+min src.length len))))/\Evo E os E' (os.set id (.rows fz el sz (rs.take off++src.take (min src.length len)++rs.drop (off+min src.length len)))):=by
 obtain⟨news,q4,qf,ql,q7,q8⟩:=Zbf (P:=P) R hy hr hrl;obtain⟨p,hp,hok⟩:=R.at ho;have hok':=hok;obtain⟨xs,k1,k2,k3⟩:=hok';have hlt:=(ZX ho).1;obtain⟨h1,h2⟩:=hx.ref_inv.at ho rfl;obtain⟨h3,b,a0,cap,a',cap',h4,h5,h6,h7,h8,h9,h10,h11⟩:=h2 hext;rw[hp]at h4;have h4:=ZCn h4;subst h5;generalize hk:min src.length len=k at*;have hkl:k<=len:=Wm
 have hks:k<=src.length:=Wm
 have hfirst:(Builtin.firstCells sz k vy).run P E.w= .ok (news.take (k*sz)).toArray E.w:=qf k hks;have hmin:Nat.min src.length len=k:=hk;by_cases hk0:k=0
 .subst hk0;have hset:os.set id (.rows fz el sz (rs.take off++src.take 0++rs.drop (off+0)))=os:=by
   rw[ZB0,Kg,KB,ZBb];apply ZBg;intro j;rw[ZCr];by_cases hj:id=j
   .exact H7
   .simp[hj]
  rw[hset];refine⟨E,?_,R,Evo.refl _ _⟩;rw[ZKL,ZB0]at hfirst;cases a'<;>simp[Builtin.copy_,run_underlying ht,ql,hmin,Kt hs,hfirst,storeCells,goInt]
 .have hpos:0<len:=Wm
  obtain⟨w1,w2,w3,w4,w5,w8⟩:=OK.cap (os:=os) (o:= .rows fz el sz rs) hok (sz:=sz) (rs:=rs) rfl (by rw[h4]);cases a0 with
  |none=>have:=(w5 rfl).1;omega
  |some ad0=>
  have ha':=h9 hpos ad0 rfl;have h0:=w8 ad0 rfl;have h00:ad0.off=0:=by rw[h0]
  subst ha';rw[h00,Jk]at*;have hvs:(news.take (k*sz)).length=k*sz:=by
   rw[Yv,q4];have:k*sz<=src.length*sz:=Ky _ hks;omega
  have htot:(off+k)*sz<=rs.length*sz:=Ky _ J0;rw[JR]at htot;have hlen2:(src.take k).length=k:=Wx
  have hget: ∀i,(rs.take off++src.take k++rs.drop (off+k))[i]? =if i<off then rs[i]? else if i<off+k then src[i-off]? else rs[i]? :=λi=>by
   have:=ZCI rs (src.take k) off i J0;rw[hlen2]at this;rw[this];by_cases h:i<off
   .simp[h]
   .by_cases h':i<off+k
    .simp only[h,h',if_true,if_false];rw[Kp,if_pos J0]
    .simp[h,h']
  obtain⟨E',e1,e2,e3⟩:=ZQj (P:=P) R ho hp (g:=ad0.block) (cap:=cap) (by rw[h4];simp only;rw[hext,<-h0]) (off*sz) (news.take (k*sz)) (λu hu=>q7 u (ZCH hu)) J0 (rs':=rs.take off++src.take k++rs.drop (off+k)) Wx (λr hr=>by
    rcases KT.1 hr with h|h
    .rcases KT.1 h with h|h
     .exact k2 r (ZCH h)
     .exact hrl r (ZCH h)
    .exact k2 r (ZDD h))
   (λi r j x hr' hx' hj=>by
    rw[hget]at hr';rw[hvs]at hj;have hjs:j<sz:=by
     have:r.length=sz:=by
      split at hr'
      .exact k2 r (JE hr')
      .split at hr'
       .exact hrl r (JE hr')
       .exact k2 r (JE hr')
     rw[<-this];exact(ZX hx').1
    split at hr'
    .exact⟨r,hr',hx'⟩
    .split at hr'
     .exfalso;have g1:off*sz<=i*sz:=Ky _ J0;have g2:(i+1)*sz<=(off+k)*sz:=Ky _ J0;rw[JR,JR]at g2;omega
     .exact⟨r,hr',hx'⟩)
   (λi r j x u hr' hx' hj1 hj2 hu=>by
    rw[hget]at hr';rw[hvs]at hj2;have hjs:j<sz:=by
     have:r.length=sz:=by
      split at hr'
      .exact k2 r (JE hr')
      .split at hr'
       .exact hrl r (JE hr')
       .exact k2 r (JE hr')
     rw[<-this];exact(ZX hx').1
    have hi1: ¬i<off:=λh=>by
     have:(i+1)*sz<=off*sz:=Ky _ h;exact VH
    have hi2:i<off+k:=by
     rcases Nat.lt_or_ge i (off+k)with h|h
     .exact h
     .have:(off+k)*sz<=i*sz:=Ky _ h;exact VH
    rw[if_neg hi1,if_pos hi2]at hr';obtain⟨u',g1,g2⟩:=q8 _ r j x hr' hx';rw[Kp,if_pos J0]at hu;have e:i*sz+j-off*sz=(i-off)*sz+j:=by
     rw[Nat.sub_mul];have:off*sz<=i*sz:=Ky _ J0;omega
    rw[e,g1]at hu;cases hu;exact g2)
  refine⟨E',?_,e2,e3⟩;simp[Builtin.copy_,run_underlying ht,ql,hmin,Kt hs,hfirst,e1,goInt]
theorem KG{o:Oper}{d:D}{os':J7}{s:Sem Value}(h:execOp a.eval o=(do pure (Next.value (<-s))))(hr: ∃v E',s.run P E.w= .ok v E'.w/\Rel c E' os'/\Evo E os E' os'/\V E' os' d v):Zck P c E os o a d os':=by
 obtain⟨v,E',h1,h2,h3,h4⟩:=hr;exact⟨_,E',ZHQ h h1,h2,h3,.value h4⟩
theorem ZG7: ∀ {i:Nat} {parts:List (Nat×Operand)} {ys:List IO},ZHU i parts=some ys->(parts.map (·.2)).mapM Zb=some ys/\parts.map (·.1)=List.range' i parts.length
 |i,[],ys,h=>by cases h;exact Gg
 |i,(j,x)::l,ys,h=>by
  simp only[ZHU]at h;split at h
  .rename_i hj;simp only[KL,YG]at h;obtain⟨y,hy,r,hr,h⟩:=h;cases h;obtain⟨h1,h2⟩:=ZG7 hr;subst hj;refine⟨?_,?_⟩
   .simp[ZAV,hy,h1]
   .simp[List.range'_succ,h2]
  .cases h
theorem ZKn(f:Operand->Value): ∀(l:List (Nat×Operand)) (i:Nat),l.map (·.1)=List.range' i l.length->l.map (λp=>(p.1,f p.2))=(((l.map (·.2)).map f).zipIdx i).map λp=>(p.2,p.1)
 | [],i,h=>rfl
 |(j,x)::l,i,h=>by
  simp[List.range'_succ]at h;obtain⟨rfl,h⟩:=h;simp only[YO,List.zipIdx_cons];rw[ZKn f l (j+1) h]
def IE.isAct:IE->Bool
 | .box _| .sto _ _ _| .bsl _ _ _ _| .mks _ _ _ _ _ _| .app _ _ _ _ _| .apz _ _ _ _ _ _| .cpy _ _ _| .s2b _ _| .abx _ _| .asl _ _ _| .mkm _ _| .mup _ _ _ _| .mdl _ _ _| .men _ _ _ _| .est _ _ _| .mcl _| .rgm _| .rgs _=>true
 |_=>false
def NA(x:Option IE):Prop:= ∀e,x=some e->e.isAct=false
theorem NA.none:NA none:=λe h=>W6
theorem NA.some{e:IE}(h:e.isAct=false):NA (some e):=λe' h'=>H0
theorem NA.bind{α:Type}{x:Option α}{f:α->Option IE}(h: ∀y,NA (f y)):NA (x.bind f):=λe he=>by
 exact Gm
theorem NA.bind'{α:Type}{x:Option α}{f:α->Option IE}(h: ∀y,NA (f y)):NA (x>>=f):=NA.bind h
theorem NA.map{α:Type}{x:Option α}{f:α->IE}(h: ∀y,(f y).isAct=false):NA (x.map f):=λe he=>by
 exact GW
theorem Zdg{e:IE}{r:Bool×D×J7}(h:YF φ os e=some r):e.isAct=true:=by
 cases e<;>first|rfl|(simp[YF]at h)
theorem ZhM(R:Rel c E os)(dk:KK)(hd: ∀a b,dk≠ .st a b)(ag:Bool)(t:Nat):
  ∃v E',(Instr.makeMap t none).run P E.w= .ok v E'.w/\Rel c E' (os++ [.mpo dk ag []])/\Evo E os E' (os++ [.mpo dk ag []])/\V E' (os++ [.mpo dk ag []]) (.mref os.length) v:=by
 obtain⟨R',ev⟩:=R.push (E.w.alloc (.map #[] 0)) (.mpo dk ag []) (E.w.heap.size,undef) (Kk _ _) (λb hb=>Ux) (λ_=>YL.new _ _ E.w rfl dk hd ag);refine⟨.map (some E.w.heap.size),_,?_,R',ev,.mref (dk:=dk) (ag:=ag) (o:= .mpo dk ag []) (cu:=undef) J1 rfl TU⟩;rfl
theorem ZIZ(R:Rel c E os){id:Nat}{o:Ob}(ho:os[id]? =some o){dk:KK}{ag:Bool}{l:W2}(hu:o.upd? =some (dk,ag,l)){p:Nat×Value}(hp:E.ob[id]? =some p){w':World}(hO:Only p.1 E.w w'){o':Ob}{l':W2}(hu':o'.upd? =some (dk,ag,l'))
  (hok:Evo E os ⟨w',E.st,E.ob.set id p⟩ (os.set id o')->OK ⟨w',E.st,E.ob.set id p⟩ (os.set id o') o' p):
  Rel c ⟨w',E.st,E.ob.set id p⟩ (os.set id o')/\Evo E os ⟨w',E.st,E.ob.set id p⟩ (os.set id o'):=by
 obtain⟨_,k2,k3,k4⟩:=Ob.upd_spec hu;obtain⟨_,k2',k3',k4'⟩:=Ob.upd_spec hu';exact R.set ho hp w' o' p ⟨hO.os,hO.tape,hO.output,by rw[hO.size];exact Zr _,λk _ hm=>hO.block k (λe=>hm ((k4 p k).2 e.symm))⟩ (λb hb=> .inl ((k4 p b).2 ((k4' p b).1 hb))) (λsz rs h=>by rw[k3]at h;cases h) (λk h=>⟨rfl,by rw[k2]at h;rw[k2'];exact h⟩) hok
theorem ZYn(R:Rel c E os){id:Nat}{o:Ob}(ho:os[id]? =some o){dk:KK}{ag:Bool}{l:W2}(huo:o.upd? =some (dk,ag,l)){vm:Value}(hm:V E os (.mref id) vm){key:J9}{kd:D}{kv:Value}(hk:QU dk kd=some key)(hv:V E os kd kv){u:Value}{xs:J8}(hu:VC E os ag xs u)
  {T kt elem:TypeId} (hT:P.underlying T=some (.map kt elem)) (hd:P.underlying kt=some (kkD dk)):
  ∃E',(Instr.mapUpdate T vm kv u).run P E.w= .ok () E'.w/\Rel c E' (os.set id (.mpo dk ag (Yp l key xs)))/\Evo E os E' (os.set id (.mpo dk ag (Yp l key xs))):=by
 cases hm with
 |mref ho' hk' hb=>
  obtain⟨p,hp,hok⟩:=R.at ho;rw[hp]at hb;cases hb;obtain⟨w',g1,g2,g3⟩:=YL.up (P:=P) (hok.map (Ob.upd_spec huo).1) hk hv hT hd hu;obtain⟨R',ev⟩:=ZIZ R ho huo hp g2 (o':= .mpo dk ag (Yp l key xs)) rfl (λev=>g3 _ _ rfl ev);exact⟨_,g1,R',ev⟩
theorem ZhB(R:Rel c E os){id:Nat}{o:Ob}(ho:os[id]? =some o){dk:KK}{ag:Bool}{l:W2}(huo:o.upd? =some (dk,ag,l)){vm:Value}(hm:V E os (.mref id) vm){key:J9}{kd:D}{kv:Value}(hk:QU dk kd=some key)(hv:V E os kd kv)
  {T kt elem:TypeId} (hT:P.underlying T=some (.map kt elem)) (hd:P.underlying kt=some (kkD dk)) (ty ts:TypeId):
  ∃v E',(Builtin.delete_ #[T,ts] ty #[vm,kv]).run P E.w= .ok v E'.w/\Rel c E' (os.set id (.mpo dk ag (ZCO l key)))/\Evo E os E' (os.set id (.mpo dk ag (ZCO l key)))/\V E' (os.set id (.mpo dk ag (ZCO l key))) (.tup []) v:=by
 cases hm with
 |mref ho' hk' hb=>
  obtain⟨p,hp,hok⟩:=R.at ho;rw[hp]at hb;cases hb;obtain⟨w',g1,g2,g3⟩:=YL.del (P:=P) (hok.map (Ob.upd_spec huo).1) hk hv hT hd ty ts;obtain⟨R',ev⟩:=ZIZ R ho huo hp g2 (o':= .mpo dk ag (ZCO l key)) rfl (λev=>g3 _ _ rfl ev);exact⟨_,_,g1,R',ev,.tup #[] rfl (λj d v h=>WE)⟩
theorem Zg1(R:Rel c E os){id:Nat}{o:Ob}(ho:os[id]? =some o){dk:KK}{ag:Bool}{l:W2}(huo:o.upd? =some (dk,ag,l)){vm:Value}(hm:V E os (.mref id) vm)
  {T kt elem:TypeId} (hT:P.underlying T=some (.map kt elem)) (ty:TypeId):
  ∃v E',(Builtin.clear_ #[T] ty #[vm]).run P E.w= .ok v E'.w/\Rel c E' (os.set id (.mpo dk ag []))/\Evo E os E' (os.set id (.mpo dk ag []))/\V E' (os.set id (.mpo dk ag [])) (.tup []) v:=by
 cases hm with
 |mref ho' hk' hb=>
  obtain⟨p,hp,hok⟩:=R.at ho;rw[hp]at hb;cases hb;obtain⟨w',g1,g2,g3⟩:=YL.clear (P:=P) (hok.map (Ob.upd_spec huo).1) hT ty;obtain⟨R',ev⟩:=ZIZ R ho huo hp g2 (o':= .mpo dk ag []) rfl (λev=>g3 _ _ rfl);exact⟨_,_,g1,R',ev,.tup #[] rfl (λj d v h=>WE)⟩
theorem ZhN(R:Rel c E os){id:Nat}{o:Ob}(ho:os[id]? =some o){dk:KK}{ag:Bool}{l:W2}(huo:o.upd? =some (dk,ag,l)){vm:Value}(hm:V E os (.mref id) vm){key:J9}{kd:D}{kv:Value}(hk:QU dk kd=some key)(hv:V E os kd kv)
  {T kt elem:TypeId} (hT:P.underlying T=some (.map kt elem)) (hd:P.underlying kt=some (kkD dk)) {z:Value} (hz:(zeroValue elem).run P E.w= .ok z E.w) {zs:J8} (hzs:VC E os ag zs z)
  (hko:ZLW dk key=true):
  ∃v E',(Instr.mapEntry T vm kv).run P E.w= .ok v E'.w/\Rel c E' (os.set id (.mpn dk ag (Yp l key ((Jz l key).getD zs)) key os.length)++ [.stp])/\Evo E os E' (os.set id (.mpn dk ag (Yp l key ((Jz l key).getD zs)) key os.length)++ [.stp])/\
   V E' (os.set id (.mpn dk ag (Yp l key ((Jz l key).getD zs)) key os.length)++ [.stp]) (.tup [ZFq ag ((Jz l key).getD zs),.stk id os.length]) v:=by
 have hlt:=(ZX ho).1;cases hm with
 |mref ho' hk' hb=>
  obtain⟨p,hp,hok⟩:=R.at ho;have hpb:p.1=_:=congrArg Prod.fst (ZCn (hp.symm.trans hb));simp only at hpb;subst hpb;obtain⟨w',v,n,g1,g2,g3,g4,g5⟩:=YL.entry (P:=P) (hok.map (Ob.upd_spec huo).1) hk hv hT hd hz hzs;obtain⟨R1,e1⟩:=R.push E.w .stp (n,undef) (Kept.refl _ _) (λb hb=>hb.elim) (λ_=>trivial);have ho1:(os++ [Ob.stp])[id]? =some o:=by rw[Yk hlt];exact ho
  have hp1:(E.ob++ [(n,undef)])[id]? =some p:=by rw[Yk (by rw[R.len];exact hlt)];exact hp
  have hs1: ∀x,((os++ [Ob.stp]).set id x)[os.length]? =some .stp:=λx=>by
   rw[ZCr,if_neg J0];simp
  have hb1:((E.ob++ [(n,undef)]).set id p)[os.length]? =some (n,undef):=by
   rw[ZCr,if_neg J0,<-R.len];simp
  obtain⟨R',ev⟩:=ZIZ (E:=⟨E.w,E.st,E.ob++ [(n,undef)]⟩) R1 ho1 huo hp1 g2 (o':= .mpn dk ag (Yp l key ((Jz l key).getD zs)) key os.length) rfl (λev=>⟨g4 _ _ rfl (e1.trans ev),by
   obtain⟨es,clk,e,q1,q2,q3,q4⟩:=g5;exact⟨n,undef,.stp,es,clk,e,hs1 _,rfl,hb1,q1,q2,q3,q4,hko⟩⟩)
  have e:(os++ [Ob.stp]).set id (.mpn dk ag (Yp l key ((Jz l key).getD zs)) key os.length)=os.set id (.mpn dk ag (Yp l key ((Jz l key).getD zs)) key os.length)++ [.stp]:=by
   rw[ZMc _ _ hlt]
  rw[e]at R' ev;refine⟨_,_,g1,R',e1.trans ev,V.tupP ((V.cell g3).mono (e1.trans ev)) (.stk (o:= .stp) (cu:=undef) ?_ rfl hb1)⟩;rw[<-e];exact hs1 _
theorem Zhr(R:Rel c E os){id sid:Nat}{dk:KK}{ag:Bool}{l:W2}{key:J9}(ho:os[id]? =some (.mpn dk ag l key sid)){vm vs:Value}(hm:V E os (.mref id) vm)(hs:V E os (.stk id sid) vs){u:Value}{xs:J8}(hu:VC E os ag xs u)(T:TypeId):
  ∃E',(Instr.entryStore T vm vs u).run P E.w= .ok () E'.w/\Rel c E' (os.set id (.mpo dk ag (Yp l key xs)))/\Evo E os E' (os.set id (.mpo dk ag (Yp l key xs))):=by
 cases hm with
 |mref ho' hk' hb=>
  cases hs with
  |stk hso hsk hsb=>
   obtain⟨p,hp,hok⟩:=R.at ho;rw[hp]at hb;cases hb;obtain⟨n,cu,o,es,clk,e,q1,q2,q3,q4,q5,q6,q7,q8⟩:=hok.2;rw[q3]at hsb;cases hsb;obtain⟨w',g1,g2,g3⟩:=YL.store (P:=P) (T:=T) hok.1 ⟨_,_,ZWS q8,V.keyD E os dk key⟩ hu ⟨es,clk,e,q4,q5,q6,q7⟩;obtain⟨R',ev⟩:=ZIZ R ho (l:=l) rfl hp g2 (o':= .mpo dk ag (Yp l key xs)) rfl (λev=>g3 _ _ rfl ev);exact⟨_,g1,R',ev⟩
theorem ZiR(R:Rel c E os){id:Nat}{o:Ob}(ho:os[id]? =some o){dk:KK}{ag:Bool}{l:W2}(huo:o.upd? =some (dk,ag,l)){vm:Value}(hm:V E os (.mref id) vm){T kt elem:TypeId}(hT:P.underlying T=some (.map kt elem)):
  ∃v E',(Instr.range T vm).run P E.w= .ok v E'.w/\Rel c E' (os.set id (.mit dk ag l os.length l none)++ [.itr])/\Evo E os E' (os.set id (.mit dk ag l os.length l none)++ [.itr])/\V E' (os.set id (.mit dk ag l os.length l none)++ [.itr]) (.iref id os.length) v:=by
 have hlt:=(ZX ho).1;obtain⟨_,s2,s3,s4⟩:=Ob.upd_spec huo;cases hm with
 |mref ho' hk' hb=>
  obtain⟨p,hp,hok⟩:=R.at ho;have hpb:p.1=_:=congrArg Prod.fst (ZCn (hp.symm.trans hb));simp only at hpb;subst hpb;have hMO:=hok.map (Ob.upd_spec huo).1;obtain⟨es,clk,m1,m2,m3,m4⟩:=hMO.pairs;have hrun:=run_range_map (P:=P) E.w T kt elem p.1 es clk hT m1;obtain⟨R1,e1⟩:=R.push (E.w.alloc (.mapIter (some p.1) clk #[] clk)) .itr (E.w.heap.size,undef) (Kk _ _) (λb hb=>hb.elim) (λ_=>trivial);have ho1:(os++ [Ob.itr])[id]? =some o:=by rw[Yk hlt];exact ho
  have hp1:(E.ob++ [(E.w.heap.size,undef)])[id]? =some p:=by rw[Yk (by rw[R.len];exact hlt)];exact hp
  have hs1: ∀x,((os++ [Ob.itr]).set id x)[os.length]? =some .itr:=λx=>by
   rw[ZCr,if_neg J0];simp
  have hb1: ∀x,((E.ob++ [(E.w.heap.size,undef)]).set id x)[os.length]? =some (E.w.heap.size,undef):=λx=>by
   rw[ZCr,if_neg J0,<-R.len];simp
  have hpl:p.1<E.w.heap.size:=(ξH m1).1;obtain⟨R',ev⟩:=R1.set ho1 hp1 (E.w.alloc (.mapIter (some p.1) clk #[] clk)) (.mit dk ag l os.length l none) (p.1,.pointer (some ⟨E.w.heap.size,0,none⟩)) (Kept.refl _ _) (λb hb=>by
   rcases hb with hb|hb
   .exact .inl ((s4 p b).2 hb)
   .simp only[Value.pointer.injEq,Yu,Addr.mk.injEq,and_true]at hb;subst hb;refine .inr (.inr ⟨λoff hs=>absurd (R.stm _ off hs).1 (ZW6 _),λi o2 p2 h1 h2 h3=> ?_,.inr R.kept.size⟩);by_cases hi:i<os.length
    .rw[Yk hi]at h1;have h2':E.ob[i]? =some p2:=by
      have h2':(E.ob++ [(E.w.heap.size,undef)])[i]? =some p2:=h2;rwa [Yk (by rw[R.len];exact hi)]at h2'
     exact absurd ((R.ok i o2 p2 h1 h2').lt h3) (ZW6 _)
    .have hl:=(ZX h1).1;simp at hl;have:i=os.length:=Wm
     subst this;rw[QI J0]at h1;simp at h1;subst h1;exact h3) (λsz rs h=>by rw[s3]at h;cases h) (λk h=>⟨rfl,by rw[s2]at h;exact h⟩) (λev=>by
    have ev':=e1.trans ev;refine⟨hMO.mono ev' (heap_alloc_old E.w _ hpl),E.w.heap.size,undef,es,clk,clk,#[],clk,.itr,rfl,hs1 _,rfl,hb1 _,heap_alloc_new E.w _,?_,m3,⟨Zr _,Zr _⟩,m4,?_,λq hq=>by cases hq⟩
    .show(E.w.alloc _).heap[p.1]? =_;rw[heap_alloc_old E.w _ hpl];exact m1
    .have e:(leftOf es #[]).toList=es.toList:=by simp[leftOf]
     rw[e];exact m2.mono ev')
  have e:(os++ [Ob.itr]).set id (.mit dk ag l os.length l none)=os.set id (.mit dk ag l os.length l none)++ [.itr]:=by
   rw[ZMc _ _ hlt]
  rw[e]at R' ev;refine⟨_,_,hrun,R',e1.trans ev,.iref (o:= .itr) (cu:=undef) ?_ rfl (hb1 _)⟩;rw[<-e];exact hs1 _
theorem ZiD(R:Rel c E os){vm:Value}(hm:V E os .mnil vm){T kt elem:TypeId}(hT:P.underlying T=some (.map kt elem)):
  ∃v E',(Instr.range T vm).run P E.w= .ok v E'.w/\Rel c E' (os++ [.nit])/\Evo E os E' (os++ [.nit])/\V E' (os++ [.nit]) (.iref os.length os.length) v:=by
 obtain rfl:=hm.mnil_inv;obtain⟨R',ev⟩:=R.push (E.w.alloc (.mapIter none 0 #[] 0)) .nit (E.w.heap.size,undef) (Kk _ _) (λb hb=>Ux) (λ_=>⟨0,#[],0,heap_alloc_new _ _⟩);exact⟨_,_,run_range_nilMap (P:=P) E.w T kt elem hT,R',ev,.iref (o:= .nit) (cu:=undef) J1 rfl TU⟩
theorem Zib(R:Rel c E os)(s:List UInt8){T:TypeId}(hT:P.underlying T=some .string):
  ∃v E',(Instr.range T (.string (ZV s))).run P E.w= .ok v E'.w/\Rel c E' (os++ [.sit s 0])/\Evo E os E' (os++ [.sit s 0])/\V E' (os++ [.sit s 0]) (.iref os.length os.length) v:=by
 obtain⟨R',ev⟩:=R.push (E.w.alloc (.stringIter (ZV s) 0)) (.sit s 0) (E.w.heap.size,undef) (Kk _ _) (λb hb=>Ux) (λ_=>heap_alloc_new _ _);refine⟨.pointer (some ⟨E.w.heap.size,0,none⟩),_,?_,R',ev,.iref (o:= .sit s 0) (cu:=undef) J1 rfl TU⟩;simp[Instr.range,run_underlying hT]
theorem VX.not_agg{w:World}{st:Nat->Nat->Prop}{x:X}{v:Value}(h:VX w st x v): ∀cs,v≠ .agg cs:=by
 cases h<;>(intro cs e;cases e)
theorem V.not_agg{d:D}{v:Value}(h:V E os d v)(hd:agD d=false){cs:J8}(hc:d.cells? =some cs):cs.length=1/\ ∀cs,v≠ .agg cs:=by
 cases h with
 |x h=>simp[D.cells?]at hc;subst hc;exact⟨rfl,h.not_agg⟩
 |ref h h1=>simp[D.cells?]at hc;subst hc;exact⟨rfl,λcs e=>by subst e;simp[Value.oneCell']at h1⟩
 |ptr ho h=>exact WO
 |mref ho hk h=>exact WO
 |mnil=>exact WO
 |iref ho hk h=>exact WO
 |stk ho hk h=>exact WO
 |bref ho h hm=>exact WO
 |eptr h h1=>simp[D.cells?]at hc;subst hc;exact⟨rfl,λcs e=>by obtain⟨ad,rfl⟩:=h1;cases e⟩
 |vptr b off val h1 h2=>exact WO
 |agg vs hl h1 hv=>simp[agD]at hd
 |tup vs hl hv=>cases hc
 |full n h=>exact WO
 |nz h=>exact WO
 |fn vs hl hv=>exact WO
 |opt h1 h2=>cases hc
 |und v=>cases hc
theorem V.is_agg{d:D}{v:Value}(h:V E os d v)(hd:agD d=true): ∃cs,v= .agg cs:=by
 cases h with
 |agg vs hl h1 hv=>exact⟨vs,rfl⟩
 |_=>simp[agD]at hd
theorem VC.of{d:D}{v:Value}(h:V E os d v){cs:J8}(hc:d.cells? =some cs)(hs:v.cells.size=cs.length)(h1: ∀u∈v.cells.toList,u.oneCell'=true)
  (hx: ∀(j:Nat) (x:D) (u:Value),cs[j]? =some x->v.cells[j]? =some u->V E os x u):VC E os (agD d) cs v:=by
 refine⟨?_,hs,λj x u hj hu=>⟨hx j x u hj hu,h1 u ?_⟩⟩
 .split
  .rename_i ha;exact h.is_agg ha
  .rename_i ha;exact h.not_agg (by simpa using ha) hc
 .rw[<-ξQ]at hu;exact JE hu
theorem ZZ7(R:Rel c E os){t:Nat}{cs:J8}{cells:Array Value}{xs:J9}{os1:J7}(q1:cells.size=cs.length)(q3: ∀(j:Nat) (d:D) (u:Value),cs[j]? =some d->cells[j]? =some u->V E os d u)
  (hfz:YZ os cs=some (xs,os1)):
  ∃E',E'.w=E.w.alloc (.cells cells t)/\Rel c E' (os1++ [.rows false t xs.length [xs]])/\Evo E os E' (os1++ [.rows false t xs.length [xs]])/\V E' (os1++ [.rows false t xs.length [xs]]) (.eptr os1.length 1 0 0) (.pointer (some ⟨E.w.heap.size,0,none⟩)):=by
 obtain⟨st',R1,e1,k1,k2⟩:=ZCN (vs:=cells.toList) R (λj d u hd hu=>q3 j d u hd Xk) (by simpa using q1.symm) hfz;have hxl:xs.length=cells.size:=Xj
 have hk:=Kk E.w (.cells cells t);have hrow:QM (E.w.alloc (.cells cells t)) false t xs.length [xs].length (.slice (some ⟨E.w.heap.size,0,none⟩) 1 1) cells.toList:=by
  refine⟨by simp[hxl],.inr ⟨E.w.heap.size,1,cells,(0,0),rfl,heap_alloc_new E.w _,Zr _,by unfold maxLen;decide,?_,?_,.inl rfl⟩⟩
  .simp[hxl]
  .rw[hxl];exact YR J1
 obtain⟨E',w1,w2,w3,w4⟩:=ZAc (E:=⟨E.w,st',E.ob⟩) R1 hk hrow (λb hb=>by simp only[Value.ownBlock,Yu]at hb;subst hb;exact Zr _) (λr hr=>by simp only[ZAM]at hr;rw[hr])
  (λi r j x v h1 h2 h3=>by
   match i with
   |0=>
    simp only[ZC5,Yu]at h1;subst h1;rw[ZKL,Jk]at h3;exact k2 j x v h2 h3
   |i+1=>simp at h1)
 refine⟨E',w1,w2,e1.trans w3,?_⟩;cases w4 with
 |ref hr _=>
  obtain⟨o,sz,rs,q1,q2,q3,q4⟩:=hr;have hlt:(os1++ [Ob.rows false t xs.length [xs]])[os1.length]? =some (.rows false t xs.length [xs]):=TG
  rw[hlt]at q1;cases q1;simp only[Ob.sl?,Yu,YP]at q2;obtain⟨rfl,rfl⟩:=q2;obtain⟨_,b,ad,cap,a',cap',g1,g2,_,_,g3,_⟩:=q4 rfl;obtain⟨g4,_⟩:=g3 rfl;simp only[Value.slice.injEq]at g2;obtain⟨g5,_,_⟩:=g2;rw[<-g5]at g4;rw[<-g4]at g1;exact .eptr ⟨_,_,1,hlt,rfl,Zr _,λ_=>⟨WT,b,E.w.heap.size,cap,g1,J1⟩⟩ ⟨_,rfl⟩
theorem Zaj(R:Rel c E os){id ext i:Nat}{fz:Bool}{e sz:Nat}{rs:J6}(ho:os[id]? =some (.rows fz e sz rs)){vp:Value}(hp:V E os (.eptr id ext i 0) vp){r:J9}(hr:rs[i]? =some r)(hext:rs.length=ext)
  {t el:Nat} (ht:P.underlying t=some (.array sz el)) (hsz:Kn P el=some 1) (hm:sz<=16777216) {hi:Option Value} {h:Nat} (hb:Bnd none hi sz 0 h) (hle:h<=sz):
  ∃v E',(Instr.sliceAt t vp none hi none).run P E.w= .ok v E'.w/\Rel c E' (os.set id (.frz sz rs))/\Evo E os E' (os.set id (.frz sz rs))/\V E' (os.set id (.frz sz rs)) (.x (.sl ((r.take h).map λy=> [y]))) v:=by
 have hp0:=hp;cases hp0 with
 |eptr hq _=>
  obtain⟨h1,h2⟩:=hq.at ho rfl;obtain⟨h3,b,g,cap,h4,h5⟩:=h2 hext;obtain⟨R',ev⟩:=R.freeze ho h4;have hlt:=(ZX ho).1;have ho':(os.set id (.frz sz rs))[id]? =some (.frz sz rs):=by simp[hlt]
  obtain⟨_,g',xs,w1,w2,w3,w4,w5,w6⟩:=ZOo R' (hp.mono ev) ho' rfl hext;rw[h5]at w1;simp only[Value.pointer.injEq,Yu,Addr.mk.injEq,and_true]at w1;obtain⟨rfl,_⟩:=w1;have hrl:r.length=sz:=w5 r (JE hr);subst h5;refine⟨_,⟨E.w,λb off=>E.st b off\/(Value.ownBlock (.slice (some ⟨g,0,none⟩) ext cap)=some b/\off<rs.length*sz),E.ob⟩,ZVP ht hsz _ hb E.w,R',ev,.x ?_⟩;have hi1:i*sz+sz<=rs.length*sz:=by
   exact NF
  have hval: ∀(k:Nat) (y:X),r[k]? =some y-> ∃u,xs[i*sz+k]? =some u/\VX E.w (λb off=>E.st b off\/(Value.ownBlock (.slice (some ⟨g,0,none⟩) ext cap)=some b/\off<rs.length*sz)) y u:=λk y hy=>w6 i r k y hr hy
  refine .sl _ _ h sz 1 (λk _=>xs.getD (i*sz+k) undef) Wx hle GR (λq hq=> ?_) (λk j hk hj=> ?_) (λhn=>by simp at hn) (λ_ ad had=>by simp at had;rw[<-had]) (λk j q x hq hx=> ?_)
  .obtain⟨y,_,rfl⟩:=YS.1 hq;rfl
  .obtain rfl:j=0:=Wm
   obtain⟨y,hy⟩: ∃y,r[k]? =some y:=⟨r[k]' J0,Zw _⟩;obtain⟨u,hu,_⟩:=hval k y hy;refine⟨g,i*sz+0,rfl,.inr ⟨rfl,J0⟩,?_⟩;rw[Ql,KB,KB,ZCB,hu];exact w3 _ u hu
  .rw[YI]at hq;obtain⟨y,hy,rfl⟩:=Zc hq
   match j with
   |0=>
    simp only[ZC5,Yu]at hx;subst hx;rw[Kp]at hy;split at hy
    .obtain⟨u,hu,hv⟩:=hval k y hy;show VX _ _ y (xs.getD (i*sz+k) undef);rw[ZCB,hu];exact hv
    .cases hy
   |j+1=>simp at hx
set_option maxHeartbeats 2000000 in
theorem Zb5(R:Rel c E os)(hf:Fr n E os φ a){o:Oper}{e:IE}(hc:Kf P o.op=some e){d:D}{os':J7}(h:YF φ os e=some (true,d,os')):Zck P c E os o a d os':=by
 obtain⟨dst,op,ty,pos,after,guard⟩:=o;simp only at hc;cases op<;>simp only[Kf]at hc<;>(try cases hc)
 case alloc t=>
  simp only[YG,Kq]at hc;obtain⟨i,hi,z,hz,hc⟩:=hc;split at hc
  .subst hc;simp only[YF,YG,Kq]at h;obtain⟨cs,hcs,q,hq,h⟩:=h;simp at h;obtain⟨_,rfl,rfl⟩:=h;have hcs:(Kr z).cells? =some cs:=by
    have:(Kr z).val=Kr z:=TC
    rw[<-this];exact hcs
   obtain⟨q1,q2,q3⟩:=(V.const E os z).cells hcs;obtain⟨E',k1,k2,k3,k4⟩:=ZZ7 R (t:=t) q1 q3 hq;exact Tp
  subst hc;simp only[YF,Kq]at h;obtain⟨cs,hcs,h⟩:=h;simp at h;obtain⟨_,rfl,rfl⟩:=h;have hcs:(Kr z).cells? =some cs:=by
   have:(Kr z).val=Kr z:=TC
   rw[<-this];exact hcs
  obtain⟨q1,q2,q3⟩:=(V.const E os z).cells hcs;obtain⟨E',k1,k2,k3,k4⟩:=ZRt R z.cells t q1 q2 q3;exact Tp
 case box t x=>
  obtain⟨y,hy,hc⟩:=Zc hc;split at hc
  .subst hc;simp only[YF,YG,Kq]at h;obtain⟨cs,hcs,q,hq,h⟩:=h;simp at h;obtain⟨h1,rfl,rfl⟩:=h;obtain⟨q1,q2,q3⟩:=((V.op hf hy).strip h1).cells hcs;obtain⟨E',k1,k2,k3,k4⟩:=ZZ7 R (t:=t) q1 q3 hq;exact G3
  subst hc;simp only[YF,Kq]at h;obtain⟨cs,hcs,h⟩:=h;simp at h;obtain⟨h1,rfl,rfl⟩:=h;obtain⟨q1,q2,q3⟩:=((V.op hf hy).strip h1).cells hcs;obtain⟨E',k1,k2,k3,k4⟩:=ZRt R (a.eval x).cells t q1 q2 q3;exact G3
 case buildSlice t m parts=>
  split at hc
  .rename_i el ht;obtain⟨i,hi,hc⟩:=Zg hc;obtain⟨z,hz,hc⟩:=Zg hc;split at hc
   .rename_i hle;obtain⟨ps,hps,hc⟩:=Zc hc;cases hc;obtain⟨g1,g2⟩:=ZG7 hps;simp only[YF]at h;split at h
    .rename_i hm;have hpl:(parts.toList.map (·.2)).length=m:=by simp[hle.1]
     have e:(parts.map λ(p:Nat×Operand)=>(p.1,a.eval p.2))=((((parts.toList.map (·.2)).map a.eval).zipIdx 0).map λp=>(p.2,p.1)).toArray:=by
      apply ZD7.1;rw[ZS2];exact ZKn a.eval parts.toList 0 g2
     have e':(parts.map λ(x:Nat×Operand)=>match x with|(i,x)=>(i,a.eval x))=(parts.map λ(p:Nat×Operand)=>(p.1,a.eval p.2)):=rfl;split at h
     .obtain⟨⟨b,rs⟩,h1,h⟩:=Zc h;simp at h;obtain⟨rfl,rfl,rfl⟩:=h;have hres:=ZgP (t:=t) (m:=m) R hf ht hi hz g1 hpl hle.2.1 hle.2.2 h1;exact GH
     obtain⟨⟨b,rs,os1⟩,h1,h⟩:=Zc h;simp at h;obtain⟨rfl,rfl,rfl⟩:=h;have hres:=Zh1 (t:=t) (m:=m) R hf ht hi hz g1 hpl hle.2.1 hle.2.2 h1;exact GH
    .cases h
   .cases hc
  .cases hc
 case store t x y=>
  simp only[KL,YG]at hc;obtain⟨m,hm,x',hx,y',hy,hc⟩:=hc;cases hc;simp only[YF,YG]at h;obtain⟨cs,hcs,h⟩:=h;split at h
  .rename_i hlen;split at h
   .rename_i id o hval;split at h
    .rename_i ds hds;split at h
     .rename_i hle;simp at h;obtain⟨⟨c1,c2⟩,rfl,rfl⟩:=h;obtain⟨q1,q2,q3⟩:=((V.op hf hy).strip c2).cells hcs;have hp:=(V.op hf hx).strip c1;rw[hval]at hp;obtain⟨E',k1,k2,k3⟩:=Ze3 (P:=P) R hm hds hp q1 q2 q3 hlen hle;rw[Ys]at k2 k3;exact⟨_,E',ZGl (s:=Instr.storeAt t (a.eval x) (a.eval y)) rfl k1,k2,k3,.skip rfl⟩
     .cases h
    .cases h
   .rename_i id ext i o hval;split at h
    .rename_i el sz rs hbd;obtain⟨ob,hob,hdr⟩:=Zg hbd;cases Ob.drw_of hdr;obtain⟨r,hr,h⟩:=Zc h;simp at h;obtain⟨⟨⟨c1,c2⟩,c3,c4⟩,rfl,rfl⟩:=h;obtain⟨q1,q2,q3⟩:=((V.op hf hy).strip c2).cells hcs;have hp:=(V.op hf hx).strip c1;rw[hval]at hp;have q1':(a.eval y).cells.size=m:=Wm
     obtain⟨E',w1,w2,w3⟩:=ZfL (P:=P) R hm hob hp hr c3 q1' q2 J0 q3 c4;rw[Ys]at w2 w3;exact⟨_,E',ZGl (s:=Instr.storeAt t (a.eval x) (a.eval y)) rfl w1,w2,w3,.skip rfl⟩
    obtain⟨⟨zs,os1⟩,h1,h⟩:=Zg h;simp only at h;split at h
    .rename_i fz el sz rs hrows;obtain⟨r,hr,h⟩:=Zc h;simp at h;obtain⟨⟨⟨c1,c2⟩,c3,c4⟩,rfl,rfl⟩:=h;obtain⟨q1,q2,q3⟩:=((V.op hf hy).strip c2).cells hcs;have hp:=(V.op hf hx).strip c1;rw[hval]at hp;obtain⟨st',R1,e1,k1,k2⟩:=ZCN (vs:=(a.eval y).cells.toList) R (λj d v hd hv=>q3 j d v hd UB) (by simp[q1]) h1;have q1':(a.eval y).cells.size=m:=Wm
     obtain⟨E',w1,w2,w3⟩:=ZdW (P:=P) (E:=⟨E.w,st',E.ob⟩) R1 hm hrows (hp.mono e1) hr c3 q1' q2 (by simp at k1;omega) (λj x u hx hu=>k2 j x u hx Xk) c4;rw[Ys]at w2 w3;exact⟨_,E',ZGl (s:=Instr.storeAt t (a.eval x) (a.eval y)) rfl w1,w2,e1.trans w3,.skip rfl⟩
    .cases h
   .cases h
  .cases h
 case makeMap t r=>
  split at hc
  .rename_i key elem hT;obtain⟨dk,hdk,hc⟩:=Zg hc;obtain⟨ag,hag,rfl⟩:=Zc hc;simp only[YF,Yu,YP]at h;obtain⟨_,rfl,rfl⟩:=h;exact KG (s:=Instr.makeMap t none) rfl (ZhM R dk (ZEP hdk).2 ag t)
  .cases hc
 case lookup t x y ok=>
  split at hc
  .obtain⟨dk,hd,hc⟩:=Zg hc;obtain⟨i,hi,hc⟩:=Zg hc;obtain⟨z,hz,hc⟩:=Zg hc;obtain⟨x',y',hx,hy,hc⟩:=Kx hc;subst hc;simp[YF]at h
  .cases hc
 case mapUpdate t x y u=>
  split at hc
  .rename_i key elem hT;obtain⟨dk,hdk,hc⟩:=Zg hc;simp only[KL,YG]at hc;obtain⟨x',hx,y',hy,u',hu,hc⟩:=hc;cases hc;simp only[YF,YG]at h;obtain⟨cs,hcs,h⟩:=h;split at h
   .rename_i id hv;split at h
    .rename_i dk' ag l ho;obtain⟨o,ho1,ho2⟩:=Zg ho;split at h
     .rename_i hh;obtain⟨rfl,hag⟩:=hh;obtain⟨key',hk,h⟩:=Zc h;simp only[YP,Zj]at h;obtain⟨⟨c1,c2,c3⟩,rfl,rfl⟩:=h;have vu:=(V.op hf hu).strip c3;obtain⟨q1,q2,q3⟩:=vu.cells hcs;have v1:=(V.op hf hx).strip c1;rw[hv]at v1;have v2:=(V.op hf hy).strip c2;have hvc:VC E os ag cs (a.eval u):=by
       exact Hm
      exact Uv
     .cases h
    .cases h
   .cases h
  .cases hc
 case insert t x y u=>
  split at hc
  .rename_i key elem hT;obtain⟨dk,hdk,hc⟩:=Zg hc;simp only[KL,YG]at hc;obtain⟨x',hx,y',hy,u',hu,hc⟩:=hc;cases hc;simp only[YF,YG]at h;obtain⟨cs,hcs,h⟩:=h;split at h
   .rename_i id hv;split at h
    .rename_i dk' ag l ho;obtain⟨o,ho1,ho2⟩:=Zg ho;split at h
     .rename_i hh;obtain⟨rfl,hag⟩:=hh;obtain⟨key',hk,h⟩:=Zc h;simp only[YP,Zj]at h;obtain⟨⟨c1,c2,c3⟩,rfl,rfl⟩:=h;have vu:=(V.op hf hu).strip c3;obtain⟨q1,q2,q3⟩:=vu.cells hcs;have v1:=(V.op hf hx).strip c1;rw[hv]at v1;have v2:=(V.op hf hy).strip c2;have hvc:VC E os ag cs (a.eval u):=by
       exact Hm
      exact Uv
     .cases h
    .cases h
   .cases h
  .cases hc
 case mapEntry t x y=>
  split at hc
  .rename_i key elem hT;obtain⟨dk,hdk,hc⟩:=Zg hc;obtain⟨i,hi,hc⟩:=Zg hc;obtain⟨z,hz,hc⟩:=Zg hc;obtain⟨x',y',hx,hy,hc⟩:=Kx hc;subst hc;simp only[YF,YG]at h;obtain⟨zs,hzs,h⟩:=h;split at h
   .rename_i id hv;split at h
    .rename_i dk' ag l ho;obtain⟨o,ho1,ho2⟩:=Zg ho;split at h
     .rename_i hh;obtain⟨rfl,hag⟩:=hh;obtain⟨key',hk,h⟩:=Zc h;simp only[YP,Zj]at h;obtain⟨⟨c1,c2⟩,rfl,rfl⟩:=h;have v1:=(V.op hf hx).strip c1;rw[hv]at v1;have v2:=(V.op hf hy).strip c2;have vz:=V.const E os z;obtain⟨q1,q2,q3⟩:=vz.cells hzs;have hvc:VC E os ag zs z:=by
       rw[<-hag];exact VC.of vz hzs q1 q2 q3
      have hz':(zeroValue elem).run P E.w= .ok z E.w:=by simp[zeroValue,ZEF hi,hz]
      exact KG (s:=Instr.mapEntry t (a.eval x) (a.eval y)) rfl (ZhN (P:=P) R ho1 ho2 v1 hk v2 hT (ZEP hdk).1 hz' hvc (ZdY hk (ZEP hdk).2))
     .cases h
    .cases h
   .cases h
  .cases hc
 case entryStore t x y u=>
  simp only[KL,YG]at hc;obtain⟨x',hx,y',hy,u',hu,hc⟩:=hc;cases hc;simp only[YF,YG]at h;obtain⟨cs,hcs,h⟩:=h;split at h
  .rename_i id id' sid hv hv2;split at h
   .rename_i dk ag l key sid' ho;split at h
    .rename_i hh;obtain⟨rfl,rfl,hag⟩:=hh;simp only[Yu,YP,Zj]at h;obtain⟨⟨c1,c2,c3⟩,rfl,rfl⟩:=h;have vu:=(V.op hf hu).strip c3;obtain⟨q1,q2,q3⟩:=vu.cells hcs;have v1:=(V.op hf hx).strip c1;rw[hv]at v1;have v2:=(V.op hf hy).strip c2;rw[hv2]at v2;have hvc:VC E os ag cs (a.eval u):=by
      exact Hm
     obtain⟨E',w1,w2,w3⟩:=Zhr (P:=P) R ho v1 v2 hvc t;exact⟨_,E',ZGl (s:=Instr.entryStore t (a.eval x) (a.eval y) (a.eval u)) rfl w1,w2,w3,.skip rfl⟩
    .cases h
   .cases h
  .cases h
 case range t x=>
  split at hc
  .rename_i kt el hT;obtain⟨x',hx,hc⟩:=Zg hc;cases hc;simp only[YF]at h;split at h
   .rename_i id hv;split at h
    .rename_i dk ag l ho;obtain⟨o,ho1,ho2⟩:=Zg ho;simp only[Yu,YP]at h;obtain⟨c1,rfl,rfl⟩:=h;have v1:=(V.op hf hx).strip c1;rw[hv]at v1;exact KG (s:=Instr.range t (a.eval x)) rfl (ZiR (P:=P) R ho1 ho2 v1 hT)
    .cases h
   .rename_i hv;simp only[Yu,YP]at h;obtain⟨c1,rfl,rfl⟩:=h;have v1:=(V.op hf hx).strip c1;rw[hv]at v1;exact KG (s:=Instr.range t (a.eval x)) rfl (ZiD (P:=P) R v1 hT)
   .cases h
  .rename_i hT;obtain⟨x',hx,hc⟩:=Zg hc;cases hc;simp only[YF]at h;split at h
   .rename_i s hv;simp only[Yu,YP]at h;obtain⟨c1,rfl,rfl⟩:=h;have v1:=(V.op hf hx).strip c1;rw[hv]at v1;refine KG (s:=Instr.range t (a.eval x)) rfl ?_;rw[V.str v1];exact Zib (P:=P) R s hT
   .cases h
  .cases hc
 case next x st=>
  obtain⟨x',hx,hc⟩:=Zg hc;cases hc;simp[YF]at h
 case entry x=>
  obtain⟨x',hx,hc⟩:=Zg hc;cases hc;simp[YF]at h
 case makeSlice t l cp=>
  split at hc
  .rename_i el ht;simp only[KL,YG]at hc;obtain⟨i,hi,z,hz,zx,hzx,l',hl',c',hc',hc⟩:=hc;cases hc;simp only[YF]at h;split at h
   .rename_i li ci h1 h2;split at h
    .rename_i hh;simp at h;obtain⟨⟨⟨c1,c2⟩,c3,c4,c5⟩,rfl,rfl⟩:=h;obtain⟨kl,hkl⟩:=ZBQ ((V.op hf hl').strip c1) h1;obtain⟨kc,hkc⟩:=ZBQ ((V.op hf hc').strip c2) h2;obtain⟨li',rfl⟩:=ZDM c3;obtain⟨ci',rfl⟩:=ZDM (show(0:Int)<=ci by omega);refine KG (s:=Instr.makeSlice t (a.eval l) (a.eval cp)) rfl ?_;rw[hkl,hkc];exact ZiU R ht hi hz hzx hh.1 hh.2 kl kc li' ci' J0 J0
    .cases h
   .cases h
  .cases hc
 case slice t x lo hi mx=>
  split at hc
  .exact Nh
  .obtain⟨z,hz,hc⟩:=Zg hc;split at hc
   .cases hc
   .exact Nh
  .rename_i m el ht;obtain⟨z,hz,hc2⟩:=Zg hc;clear hc;by_cases hh:z=1/\m<=16777216/\lo=none/\mx=none
   .rw[if_pos hh]at hc2;obtain⟨rfl,hm,rfl,rfl⟩:=hh;simp only[KL,YG]at hc2;obtain⟨x',hx,hi',hhi,hc3⟩:=hc2;cases hc3;simp only[YF]at h;split at h
    .rename_i id ext i hv;split at h
     .rename_i fz e sz rs ho;split at h
      .rename_i hsz;subst hsz;obtain⟨r,hr,h⟩:=Zg h;have hrl:rs.length=ext->r.length=sz:=λ_=>by
        obtain⟨p,hp,hok⟩:=R.at ho;obtain⟨xs,_,k2,_⟩:=hok;exact k2 r (JE hr)
       cases hi' with
       |none=>
        simp only[Yu,YP,Zj,Yl]at h;obtain⟨⟨c1,c2⟩,rfl,rfl⟩:=h;have v1:=(V.op hf hx).strip c1;rw[hv]at v1;have hb:=bnd hf (lo:=none) (hi:=hi) (lo':=none) (hi':=none) rfl hhi sz 0 sz rfl rfl (Kb _) (Zr _);have:=Zaj R ho v1 hr c2 ht hz hm hb (Zr _);rw[YR (by rw[hrl c2];exact Zr _)]at this;exact KG (s:=Instr.sliceAt t (a.eval x) none (hi.map a.eval) none) rfl this
       |some h0=>
        obtain⟨k,hk,h⟩:=Zc h;simp only[YP,Zj,Yl]at h;obtain⟨⟨c1,c3,c4,c5,c2⟩,rfl,rfl⟩:=h;obtain⟨j,rfl⟩:=ZDM c4;have v1:=(V.op hf hx).strip c1;rw[hv]at v1;have hb:=bnd hf (lo:=none) (hi:=hi) (lo':=none) (hi':=some h0) rfl hhi sz 0 j rfl ⟨_,hk,c3,rfl⟩ (Kb _) J0;exact KG (s:=Instr.sliceAt t (a.eval x) none (hi.map a.eval) none) rfl (Zaj R ho v1 hr c2 ht hz hm hb J0)
      .cases h
     .cases h
    .cases h
   .rw[if_neg hh]at hc2;cases hc2
  .cases hc
 case convert s t x=>
  split at hc
  .exact Uy
  .split at hc
   .exact Uy
   .cases hc
  .rename_i el hs ht;split at hc
   .rename_i hel;obtain⟨y,hy,hc⟩:=Zg hc;cases hc;simp only[YF]at h;split at h
    .rename_i b h1;simp at h;obtain⟨⟨c1,c2⟩,rfl,rfl⟩:=h;have:=(V.op hf hy).strip c1;rw[h1]at this;refine KG (s:=convert s t (a.eval x)) rfl ?_;rw[V.str this];exact ZiI R hs ht hel b c2
    .cases h
   .cases hc
  .cases hc
 case call cl=>
  obtain⟨callee,args,ats⟩:=cl;unfold ZCP at hc;simp only at hc;have bi: ∀(b:Builtin) (s:Sem Value),(∀consts,builtin b ats ty consts (args.map a.eval)=(do pure (Next.value (<-s))))->callee= .builtin b->(∃v E',s.run P E.w= .ok v E'.w/\Rel c E' os'/\Evo E os E' os'/\V E' os' d v)->
    Zck P c E os {dst,op:= .call ⟨callee,args,ats⟩,type:=ty,pos,after,guard} a d os':=by
   intro b s hb he hr;subst he;obtain⟨v,E',h1,h2,h3,h4⟩:=hr;refine⟨.value v,E',?_,h2,h3,.value h4⟩;unfold execOp;simp only[resolve,Sem.run_bind,Sem.run_pure,Result.andThen_ok,invoke,hb,h1]
  split at hc
  .simp only[KL,YG]at hc;obtain⟨f',hf',ys,hys,hc⟩:=hc;cases hc;simp[YF]at h
  .split at hc
   .split at hc
    .exact Uy
    .exact Uy
    .exact Uy
    .cases hc
   .cases hc
  .split at hc
   .rename_i x y t u h1 h2;have h1:args= #[x,y]:=UV
    have h2:ats= #[t,u]:=TJ
    subst h1;subst h2;split at hc
    .rename_i el kn ht hu;obtain⟨i,hi,hc2⟩:=Zg hc;obtain⟨z,hz,hc3⟩:=Zg hc2;obtain⟨zx,hzx,hc4⟩:=Zg hc3;clear hc hc2 hc3;obtain⟨x',y',hx,hy,hc5⟩:=Kx hc4;subst hc5;simp only[YF]at h;split at h
     .rename_i m hm;split at h
      .rename_i hh;split at h
       .rename_i id ext off len hv;split at h
        .rename_i e' sz' rs hrows;split at h
         .rename_i hh2;obtain⟨rfl,rfl,rfl⟩:=hh2;simp at h;obtain⟨⟨⟨c1,c2⟩,rfl,rfl,c3,c4⟩,rfl,rfl⟩:=h;have v1:=(V.op hf hx).strip c1;rw[hv]at v1;obtain⟨kq,hkq⟩:=ZBQ ((V.op hf hy).strip c2) hm;obtain⟨k,rfl⟩:=ZDM (show(0:Int)<=m by omega);refine bi .append (Builtin.append_ #[t,u] ty #[a.eval x,a.eval y]) (λ_=>UU) rfl ?_;rw[hkq];exact ZXw R ht hu hi hz hzx hh.2.2 hh.1 hh.2.1 v1 hrows k J0 J0
         .cases h
        .cases h
       .cases h
      .cases h
     .cases h
    .rename_i el el2 ht hu;obtain⟨i,hi,hc2⟩:=Zg hc;obtain⟨z,hz,hc3⟩:=Zg hc2;clear hc hc2;split at hc3
     .rename_i hh;obtain⟨rfl,hzs⟩:=hh;obtain⟨x',y',hx,hy,hc4⟩:=Kx hc3;subst hc4;simp only[YF]at h;split at h
      .rename_i hsz;refine bi .append (Builtin.append_ #[t,t] ty #[a.eval x,a.eval y]) (λ_=>UU) rfl ?_;split at h
       .rename_i srcD hsrcD;unfold ZA4 at h;split at h
        .rename_i id ext off len hv;split at h
         .rename_i e' sz' rs hrows;split at h
          .rename_i hh2;obtain⟨rfl,rfl,rfl⟩:=hh2;simp at h;obtain⟨⟨⟨c1,c2⟩,rfl,rfl,c3,c4,c5⟩,rfl,rfl⟩:=h;have v1:=(V.op hf hx).strip c1;rw[hv]at v1;have v2:=(V.op hf hy).strip c2;unfold Qh at hsrcD;split at hsrcD
           .rename_i jd ext2 off2 len2 hv2;unfold Kc at hsrcD;split at hsrcD
            .rename_i e2 sz2 rs2 hj2;split at hsrcD
             .rename_i hh3;obtain⟨rfl,rfl,rfl⟩:=hh3;cases hsrcD;rw[hv2]at v2;exact Zc1 R ht hi hz hzs hsz.1 hsz.2 v1 hrows v2 hj2 c5 c4 c3
             .cases hsrcD
            .cases hsrcD
           .cases hsrcD
          .cases h
         .cases h
        .cases h
       obtain⟨src,hsrc,h⟩:=Zg h;split at h
       .rename_i hv;simp at h;obtain⟨⟨⟨c1,c2⟩,c3,c4⟩,rfl,rfl⟩:=h;have v1:=(V.op hf hx).strip c1;rw[hv]at v1;rw[V.nils v1];exact ZXx R ht hi hz hzs hsz.1 hsz.2 ((V.op hf hy).strip c2) hsrc c4 c3
       .rename_i rs0 hv;split at h
        .rename_i h0;simp at h;obtain⟨⟨c1,c2⟩,rfl,rfl⟩:=h;have v1:=(V.op hf hx).strip c1;rw[hv]at v1;have hs:src= []:=ξS h0;subst hs;obtain⟨ad,cp,news,q1,-⟩:=ZBS R ((V.op hf hy).strip c2) hsrc (sz:=0) (λr hr=>TI);rw[q1];generalize a.eval x=vx at*;cases v1 with
         |full m hvx=>exact⟨_,E,ZAQ E.w t ty el i ht hi _ _ _ (Zr _) ad cp,R,Evo.refl _ _,.full m hvx⟩
        .rename_i h0;simp at h;obtain⟨⟨⟨c1,c2⟩,c3,c4,c5⟩,rfl,rfl⟩:=h;have v1:=(V.op hf hx).strip c1;rw[hv]at v1;exact ZUo R ht hi hz hzs hsz.1 hsz.2 v1 c4 ((V.op hf hy).strip c2) hsrc c5 h0 c3
       .rename_i id ext off len hv;split at h
        .rename_i e' sz' rs hrows;split at h
         .rename_i hh2;obtain⟨rfl,rfl,rfl⟩:=hh2;simp at h;obtain⟨⟨⟨c1,c2⟩,rfl,rfl,c4,c5⟩,rfl,rfl⟩:=h;have v1:=(V.op hf hx).strip c1;rw[hv]at v1;exact ZWp R ht hi hz hzs hsz.1 hsz.2 v1 hrows ((V.op hf hy).strip c2) hsrc c5 c4
         .cases h
        .rename_i e' sz' rs hrows;split at h
         .rename_i hh2;obtain⟨rfl,rfl,rfl⟩:=hh2;simp at h;obtain⟨⟨⟨c1,c2⟩,rfl,rfl,c3,c4,c5⟩,rfl,rfl⟩:=h;have v1:=(V.op hf hx).strip c1;rw[hv]at v1;exact ZeO R ht hi hz hzs hsz.1 hsz.2 v1 hrows ((V.op hf hy).strip c2) hsrc c5 c4 c3
         .cases h
        .cases h
       .cases h
      .cases h
     .cases hc3
    .cases hc
   .cases hc
  .split at hc
   .rename_i x y t u h1 h2;have h1:args= #[x,y]:=UV
    have h2:ats= #[t,u]:=TJ
    subst h1;subst h2;split at hc
    .rename_i el ht;simp only[KL,YG]at hc;obtain⟨z,hz,x',hx,y',hy,hc⟩:=hc;cases hc;simp only[YF,YG]at h;obtain⟨src,hsrc,h⟩:=h;split at h
     .rename_i id ext off len hv;split at h
      .rename_i fz e' sz' rs hrows;split at h
       .rename_i hh2;subst hh2;simp at h;obtain⟨⟨⟨c1,c2⟩,c3,c4⟩,rfl,rfl⟩:=h;have v1:=(V.op hf hx).strip c1;rw[hv]at v1;obtain⟨E',k1,k2,k3⟩:=ZhF (P:=P) (u:=u) (ty:=ty) R ht hz v1 hrows c3 ((V.op hf hy).strip c2) hsrc c4;rw[Ys]at k2 k3;exact bi .copy (Builtin.copy_ #[t,u] ty #[a.eval x,a.eval y]) (λ_=>UU) rfl ⟨_,E',k1,k2,k3,V.mkint _ _ _ _⟩
       .cases h
      .cases h
     .cases h
    .cases hc
   .cases hc
  .split at hc
   .rename_i x y t u h1 h2;have h1:args= #[x,y]:=UV
    have h2:ats= #[t,u]:=TJ
    subst h1;subst h2;split at hc
    .rename_i key elem hT;obtain⟨dk,hdk,hc⟩:=Zg hc;obtain⟨x',y',hx,hy,hc⟩:=Kx hc;subst hc;simp only[YF]at h;split at h
     .rename_i id hv;split at h
      .rename_i dk' ag l ho;obtain⟨o,ho1,ho2⟩:=Zg ho;split at h
       .rename_i hh;subst hh;obtain⟨key',hk,h⟩:=Zc h;simp only[YP,Zj]at h;obtain⟨⟨c1,c2⟩,rfl,rfl⟩:=h;have v1:=(V.op hf hx).strip c1;rw[hv]at v1;exact bi .delete (Builtin.delete_ #[t,u] ty #[a.eval x,a.eval y]) (λ_=>UU) rfl (ZhB R ho1 ho2 v1 hk ((V.op hf hy).strip c2) hT (ZEP hdk).1 ty u)
       .cases h
      .cases h
     .cases h
    .cases hc
   .cases hc
  .split at hc
   .rename_i x t h1 h2;have h1:args= #[x]:=UV
    have h2:ats= #[t]:=TJ
    subst h1;subst h2;split at hc
    .rename_i key elem hT;obtain⟨x',hx,hc⟩:=Zg hc;cases hc;simp only[YF]at h;split at h
     .rename_i id hv;split at h
      .rename_i dk ag l ho;obtain⟨o,ho1,ho2⟩:=Zg ho;simp only[Yu,YP]at h;obtain⟨c1,rfl,rfl⟩:=h;have v1:=(V.op hf hx).strip c1;rw[hv]at v1;exact bi .clear (Builtin.clear_ #[t] ty #[a.eval x]) (λ_=>UU) rfl (Zg1 R ho1 ho2 v1 hT ty)
      .cases h
     .rename_i hv;simp only[Yu,YP]at h;obtain⟨c1,rfl,rfl⟩:=h;have v1:=(V.op hf hx).strip c1;rw[hv]at v1;refine bi .clear (Builtin.clear_ #[t] ty #[a.eval x]) (λ_=>UU) rfl ⟨.tuple #[],E,?_,R,Evo.refl _ _,.tup #[] rfl (λj d v h=>WE)⟩;rw[v1.mnil_inv];simp[Builtin.clear_,run_underlying hT]
     .cases h
    .cases hc
   .cases hc
  all_goals first
   |(cases hc;done)
   |(split at hc
     .obtain⟨x',y',hx,hy,hc⟩:=Kx hc;subst hc;simp[YF]at h
     .cases hc)
 case makeFunc fn first caps=>
  cases fn<;>simp only at hc<;>(try cases hc)
  split at hc
  .obtain⟨ys,hys,hc⟩:=Zg hc;cases hc;simp[YF]at h
  .cases hc
 all_goals
  exfalso;have ha:=Zdg h;have hna:NA (some e):=by
   rw[<-hc]
   repeat first|exact NA.none|exact NA.some rfl|(refine NA.bind (λ_=> ?_))|(refine NA.bind' (λ_=> ?_))|(refine NA.map (λ_=>rfl))|split
  rw[hna e rfl]at ha;cases ha
end
def VL(E:Env)(os:J7)(ds:J8)(vs:Array Value):Prop:=ds.length=vs.size/\ ∀(j:Nat) (d:D) (v:Value),ds[j]? =some d->vs[j]? =some v->V E os d v
def ZL(P:Program)(f:FuncId)(args:J8)(r:D):Prop:=
 ∀(w:World) (st:Nat->Nat->Prop) (vs:Array Value),(∀b o,st b o->b<w.heap.size)->VL ⟨w,st,[]⟩ [] args vs->
  Calls P f vs w λe w'=> ∃v st',e= .returned v/\Kept (λ_=>False) w w'/\(∀b o,st b o->st' b o)/\(∀b o,st' b o->st b o\/(w.heap.size<=b/\b<w'.heap.size))/\V ⟨w',st',[]⟩ [] r v
def Enters(P:Program)(f:FuncId):Prop:= ∀(args:Array Value) (w:World),(callFunc f args).run P w= .ok (.enter f args) w
def SOk(P:Program)(S:FuncId->J8->J5):Prop:= ∀f args r,S f args=some (true,r)->Enters P f/\ZL P f args r
section
variable {P:Program} {E:Env} {os:J7} {c:Ctx} {n:Nat} {φ:J4} {a:Act}
theorem V.scalar{E':Env}{os':J7}{d:D}{v:Value}(h:V E os d v)(hs:d.scalar=true):V E' os' d v:=by
 have one: ∀ {x:X} {v:Value},VX E.w E.st x v->x.scalar=true->VX E'.w E'.st x v:=by
  intro x v h hs;cases h with
  |int k n=>exact .int k n
  |bool b=>exact .bool b
  |str s=>exact .str s
  |nilp=>exact .nilp
  |nils=>exact .nils
  |sl=>cases hs
 have tl: ∀ {ds:J8} {vs:Array Value},(∀d∈ds,∃x,d= .x x/\x.scalar=true)->V E os (.tup ds) (.tuple vs)->V E' os' (.tup ds) (.tuple vs):=by
  intro ds vs hd h;cases h with
  |tup _ hl hv=>
   refine .tup vs hl (λj d v h1 h2=> ?_);obtain⟨x,rfl,hx⟩:=hd d (JE h1);exact .x (one (hv j _ v h1 h2).xx hx)
 unfold D.scalar at hs;split at hs
 .exact .x (one h.xx hs)
 .cases h with|tup vs hl hv=>exact .tup vs hl (λj d v h1=>by simp at h1)
 .rename_i x1;cases h with|tup vs hl hv=>exact tl (λd hd=>by simp at hd;subst hd;exact⟨_,rfl,hs⟩) (.tup vs hl hv)
 .rename_i x1 x2;simp at hs;cases h with|tup vs hl hv=>exact tl (λd hd=>by simp at hd;rcases hd with rfl|rfl;exact⟨_,rfl,hs.1⟩;exact⟨_,rfl,hs.2⟩) (.tup vs hl hv)
 .rename_i x1 x2 x3;simp at hs;cases h with|tup vs hl hv=>exact tl (λd hd=>by simp at hd;rcases hd with rfl|rfl|rfl;exact⟨_,rfl,hs.1.1⟩;exact⟨_,rfl,hs.1.2⟩;exact⟨_,rfl,hs.2⟩) (.tup vs hl hv)
 .cases hs
theorem V.bare{w:World}{st:Nat->Nat->Prop}{st':Nat->Nat->Prop}{ob:List (Nat×Value)}{d:D}{v:Value}(h:V ⟨w,st,[]⟩ [] d v)(hst: ∀b o,st b o->st' b o):V ⟨w,st',ob⟩ os d v:=
 V.mono (E:=⟨w,st,[]⟩) (os:= []) (E':=⟨w,st',ob⟩) (os':=os) ⟨λb o hb=>⟨hst b o hb,rfl⟩,λid b cu ds k h=>WE,λid o' sz rs hid=>(by simp at hid)⟩ h
theorem ZH5: ∀ {ds:J8} {xs:J9},ZEY ds=some xs->ds=xs.map .x
 | [],xs,h=>N1
 |d::l,xs,h=>by
  cases d with
  |x y=>
   simp only[ZEY,Kq]at h;obtain⟨r,hr,rfl⟩:=h;rw[ZH5 hr];rfl
  |_=>simp[ZEY]at h
theorem ZY2(R:Rel c E os){id off len:Nat}{v:Value}(hv:V E os (.bref id off len) v){x:X}(h:Jo os (.bref id off len)=some x):VX E.w (λb _=>b<E.w.heap.size) x v:=by
 simp only[Jo,ZMb,Kq]at h;obtain⟨rs,h,rfl⟩:=h;split at h
 .rename_i ds ho;split at h
  .rename_i hle;obtain⟨xs,hxs,rfl⟩:=Zc h;have hds:=ZH5 hxs;cases hv with
   |bref ho' hb hm=>
    obtain⟨p,hp,hok⟩:=R.at ho;rw[hp]at hb;cases hb;obtain⟨cs,ty,g1,g2,g3⟩:=hok;have hxl:xs.length=len:=by
     have:=congrArg List.length hds;simp only[Yv,KQ,Yc]at this;omega
    have hcell: ∀i (hi:i<len),∃u,cs[off+i]? =some u/\VX E.w E.st (xs[i]' J0) u:=by
     intro i hi;have h1:(ds.drop off).take len=xs.map .x:=hds;have h2:=congrArg (λl=>l[i]?) h1;simp only[Kp,hi,if_true,ZAZ,YI]at h2;rw[Zw (by omega:i<xs.length)]at h2;have hlt:off+i<cs.size:=by rw[g2];omega
     refine⟨cs[off+i],ξJ hlt,?_⟩;exact(g3 (off+i) _ _ h2 (ξJ hlt)).1.xx
    have hblt: ∀q:Nat×Value,E.ob[id]? =some q->q.1<E.w.heap.size:=λq hq=>by
     rw[hp]at hq;cases hq;exact(ξH g1).1
    refine .sl _ _ _ _ 1 (λi _=>cs.getD (off+i) undef) (by simp[hxl]) (Zr _) hm (λr hr=> ?_) (λi j hi hj=> ?_) (λhn=>by cases hn) (λ_ ad had=>by cases had;rfl) (λi j r y hr hy=> ?_)
    .obtain⟨z,_,rfl⟩:=YS.1 hr;rfl
    .obtain rfl:j=0:=Wm
     obtain⟨u,hu,_⟩:=hcell i hi;refine⟨_,off,rfl,(ξH g1).1,?_⟩;have e:off+i*1+0=off+i:=Wm
     rw[e];simp only[World.cell?,g1,Option.isSome_none,Je,if_false,hu];simp[ZEc,hu]
    .rw[YI]at hr;obtain⟨z,hz,rfl⟩:=Zc hr
     match j with
     |0=>
      simp only[ZC5,Yu]at hy;subst hy;have hi:i<len:=by rw[<-hxl];exact(ZX hz).1
      obtain⟨u,hu,hx⟩:=hcell i hi;have:xs[i]' J0=z:=(ZX hz).2;rw[this]at hx;have e2:cs.getD (off+i) undef=u:=by simp[ZEc,hu]
      show VX _ _ z (cs.getD (off+i) undef);rw[e2];exact hx.mono (λb o hb=>⟨(R.stm b o hb).1,rfl⟩)
     |j+1=>simp at hy
  .cases h
 .cases h
theorem ZTV(R:Rel c E os){d:D}{v:Value}(hv:V E os d v){x:X}(h:Jo os d=some x):VX E.w (λb _=>b<E.w.heap.size) x v:=by
 have key: ∀os',Yh os d=some (x,os')->VX E.w (λb _=>b<E.w.heap.size) x v:=λos' hf=>by
  obtain⟨st',R',_,hx⟩:=ZIx R hv hf;exact hx.mono (λb o hb=>⟨(R'.stm b o hb).1,rfl⟩)
 cases d with
 |x y=>cases h;exact key os rfl
 |full rs=>simp[Jo,Zx]at h;subst h;exact key os rfl
 |ref id ext off len=>
  simp only[Jo,Zx]at h;cases ho:os[id]? with
  |none=>simp[ho]at h
  |some o=>
   cases o with
   |box ds=>simp[ho,Ob.slice?]at h
   |rows fz e sz rs=>
    simp[ho,Ob.slice?]at h;obtain⟨rfl,rfl⟩:=h;exact key (os.set id (.frz sz rs)) (by simp[Yh,ho])
   |frz sz rs=>
    simp[ho,Ob.slice?]at h;obtain⟨rfl,rfl⟩:=h;exact key os (by simp[Yh,ho])
   |_=>simp[ho,Ob.slice?]at h
 |nz=>exact GU
 |ptr=>exact GU
 |eptr=>exact GU
 |vptr=>exact GU
 |mref=>exact GU
 |mnil=>exact GU
 |iref=>exact GU
 |stk=>exact GU
 |bref id off len=>exact ZY2 R hv h
 |agg=>exact GU
 |tup=>exact GU
 |fn=>exact GU
 |opt=>exact GU
 |und=>exact GU
theorem ZD9{α β:Type}{f:α->Option β}: ∀ {l:List α} {m:List β},l.mapM f=some m->l.length=m.length/\ ∀(j:Nat) (x:α) (y:β),l[j]? =some x->m[j]? =some y->f x=some y
 | [],m,h=>HF
 |x::l,m,h=>by
  simp only[ZAV,KL,YG,ZBA]at h;obtain⟨y,hy,ys,hys,h⟩:=h;cases h;obtain⟨h1,h2⟩:=ZD9 hys;refine⟨by simp[h1],λj x' y' hx hy'=> ?_⟩;cases j with
  |zero=>simp at hx hy';subst hx;subst hy';exact hy
  |succ j=>exact h2 j x' y' Gw (by simpa using hy')
theorem ZbR(R:Rel c E os){d:D}{v:Value}(hv:V E os d v){d':D}(h:Qs os d=some d'):V ⟨E.w,λb _=>b<E.w.heap.size,[]⟩ [] d' v:=by
 unfold Qs at h;split at h
 .cases h;exact .x (hv.xx.mono (λb o hb=>⟨(R.stm b o hb).1,rfl⟩))
 .rename_i ds;obtain⟨xs,hxs,h⟩:=Zc h;cases h;obtain⟨h1,h2⟩:=ZD9 hxs;cases hv with
  |agg vs hl ho hvv=>
   refine .agg vs (by simp[<-h1,hl]) ho (λj d v hd hv'=> ?_);rw[YI]at hd;obtain⟨y,hy,rfl⟩:=Zc hd;have hj:=(ZX hy).1;have hdj:ds[j]? =some (ds[j]' J0):=Zw _;exact .x (ZTV R (hvv j _ v hdj hv') (h2 j _ y hdj hy))
 .cases h;cases hv with
  |fn vs hl hvv=>exact .fn vs hl (λj d v hd=>by simp at hd)
 .obtain⟨y,hy,h⟩:=Zc h;cases h;exact .x (ZTV R hv hy)
theorem ZbQ{d:D}{v:Value}(hv:V E os d v)(hp:d.plain=true){d':D}(h:Qs os d=some d'):V ⟨E.w,E.st,[]⟩ [] d' v:=by
 unfold Qs at h;split at h
 .cases h;exact .x hv.xx
 .rename_i ds;obtain⟨xs,hxs,h⟩:=Zc h;cases h;obtain⟨h1,h2⟩:=ZD9 hxs;cases hv with
  |agg vs hl ho hvv=>
   refine .agg vs (by simp[<-h1,hl]) ho (λj d v hd hv'=> ?_);rw[YI]at hd;obtain⟨y,hy,rfl⟩:=Zc hd;have hj:=(ZX hy).1;have hdj:ds[j]? =some (ds[j]' J0):=Zw _;have hpx:=Yg.1 hp _ (YK (by omega:j<ds.length));have hh:=h2 j _ y hdj hy;have hvx:=hvv j _ v hdj hv';generalize ds[j]' J0=dj at*;cases dj with
   |x z=>simp[Jo]at hh;subst hh;exact .x hvx.xx
   |_=>cases hpx
 .cases h;cases hv with
  |fn vs hl hvv=>exact .fn vs hl (λj d v hd=>by simp at hd)
 .cases d<;>first|(cases hp;done)|skip
  all_goals first
   |(rename_i h1 h2 h3;exact absurd rfl (h1 _))
   |(rename_i h1 h2 h3;exact absurd rfl (h2 _))
   |skip
  rename_i f caps h1 h2 h3;cases caps with
  |nil=>exact absurd rfl (h3 _)
  |cons c cs=>cases hp
def NP(p:IE->Bool)(x:Option IE):Prop:= ∀e,x=some e->p e=false
theorem NP.none{p:IE->Bool}:NP p none:=λe h=>W6
theorem NP.some{p:IE->Bool}{e:IE}(h:p e=false):NP p (some e):=λe' h'=>H0
theorem NP.bind{p:IE->Bool}{α:Type}{x:Option α}{f:α->Option IE}(h: ∀y,NP p (f y)):NP p (x.bind f):=λe he=>by
 exact Gm
theorem NP.bind'{p:IE->Bool}{α:Type}{x:Option α}{f:α->Option IE}(h: ∀y,NP p (f y)):NP p (x>>=f):=NP.bind h
theorem NP.map{p:IE->Bool}{α:Type}{x:Option α}{f:α->IE}(h: ∀y,p (f y)=false):NP p (x.map f):=λe he=>by
 exact GW
def ZO(P:Program)(f:FuncId)(args:J8)(os:J7)(r:D)(os':J7):Prop:=
 ∀(c:Ctx) (E:Env) (vs:Array Value),Rel c E os->VL E os args vs->
  Calls P f vs E.w λe w'=> ∃v E',e= .returned v/\E'.w=w'/\Rel c E' os'/\Evo E os E' os'/\V E' os' r v
def TOk(P:Program)(T:FuncId->J8->J7->Option (Bool×D×J7)):Prop:= ∀f args os r os',T f args os=some (true,r,os')->Enters P f/\ZO P f args os r os'
def ZHu(T:FuncId->J8->J7->Option (Bool×D×J7))(φ:J4)(os:J7):IE->Option (Bool×D×J7)
 | .call f xs=>match(ZG φ f).val with
  | .fn g caps=>(T g ((xs.map λy=>(ZG φ y).val)++caps) os).map λr=>((ZG φ f).cond&&((xs.all λy=>(ZG φ y).cond)&&r.1),r.2)
  |_=>none
 |_=>none
theorem ZQH{op:Op}{e:IE}(hc:Kf P op=some e)(hcall:e.isCall=true): ∃f args ats f' ys,op= .call ⟨.value f,args,ats⟩/\Zb f=some f'/\args.toList.mapM Zb=some ys/\e= .call f' ys:=by
 cases op<;>simp only[Kf]at hc<;>(try cases hc)
 case call cl=>
  obtain⟨callee,args,ats⟩:=cl;unfold ZCP at hc;simp only at hc;split at hc
  .simp only[KL,YG]at hc;obtain⟨f',hf',ys,hys,hc⟩:=hc;cases hc;exact⟨_,_,_,_,_,rfl,hf',hys,rfl⟩
  all_goals
   exfalso;have hna:NP IE.isCall (some e):=by
    rw[<-hc]
    repeat first|exact NP.none|exact NP.some rfl|(refine NP.bind (λ_=> ?_))|(refine NP.bind' (λ_=> ?_))|(refine NP.map (λ_=>rfl))|split
   rw[hna e rfl]at hcall;cases hcall
 case makeFunc fn first caps=>
  cases fn<;>simp only at hc<;>(try cases hc)
  split at hc
  .obtain⟨ys,hys,hc⟩:=Zg hc;cases hc;cases hcall
  .cases hc
 all_goals
  exfalso;have hna:NP IE.isCall (some e):=by
   rw[<-hc]
   repeat first|exact NP.none|exact NP.some rfl|(refine NP.bind (λ_=> ?_))|(refine NP.bind' (λ_=> ?_))|(refine NP.map (λ_=>rfl))|split
  rw[hna e rfl]at hcall;cases hcall
theorem ZGD(hf:Fr n E os φ a){o:Oper}{f':IO}{ys:List IO}(hc:Kf P o.op=some (.call f' ys)){g:FuncId}{caps:J8}(hval:(ZG φ f').val= .fn g caps)(c1:(ZG φ f').cond=true)(c2: ∀y∈ys,(ZG φ y).cond=true)(hen:Enters P g){K:Act->World->Prop}{Q:Exit->Act->World->Prop}
  (hpc: ∀vs,VL E os ((ys.map λy=>(ZG φ y).val)++caps) vs->Calls P g vs E.w λe w'=> ∃v,e= .returned v/\K (a.put o.dst v) w'):o.wp P a E.w K Q:=by
 obtain⟨dst,op,ty,pos,after,guard⟩:=o;simp only at hc hpc;obtain⟨f,args,ats,f'',ys',rfl,hf',hys,he⟩:=ZQH hc rfl;cases he;have vf:=(V.op hf hf').strip c1;rw[hval]at vf;generalize hfv:a.eval f=fv at vf;cases vf with
 |fn capv hl hvv=>
  obtain⟨l1,l2⟩:=ZNq hf hys;have hrun:(execOp a.eval {dst,op:= .call ⟨.value f,args,ats⟩,type:=ty,pos,after,guard}).run P E.w= .ok (.enter g (args.map a.eval++capv)) E.w:=by
   exact UF
  have lenA:ys.length=args.size:=by rw[<-l1];simp
  have hvl:VL E os ((ys.map λy=>(ZG φ y).val)++caps) (args.map a.eval++capv):=by
   refine⟨by simp[lenA,hl],λj d v hd hv=> ?_⟩;by_cases hj:j<ys.length
   .rw[Yk WZ]at hd;rw[Zbs Wx]at hv;have hyj:ys[j]? =some (ys[j]'hj):=Zw _;have hxj:args.toList[j]? =some (args[j]' J0):=TG
    have hval':=l2 j _ _ hxj hyj;have hmem:(ZG φ (ys[j]'hj)).cond=true:=c2 _ (YK _);rw[YI,hyj]at hd;simp at hd;have hve:v=a.eval (args[j]' J0):=by
     rw[ZdU,ξJ J0]at hv;simpa using hv.symm
    subst hve;rw[<-hd];exact hval'.strip hmem
   .rw[QI Wx]at hd;rw[Array.getElem?_append_right Wx]at hv;simp only[Array.size_map,Yc,lenA]at hv hd;exact hvv _ _ v hd hv
  unfold Oper.wp;rw[hrun];show Calls P g _ E.w _;refine(hpc _ hvl).mono ?_;rintro e w' ⟨v,rfl,hk⟩;exact hk
theorem ZZQ{T:FuncId->J8->J7->Option (Bool×D×J7)}(hT:TOk P T)(R:Rel c E os)(hf:Fr n E os φ a){o:Oper}{e:IE}(hc:Kf P o.op=some e){d:D}{os':J7}(h:ZHu T φ os e=some (true,d,os')){K:Act->World->Prop}{Q:Exit->Act->World->Prop}
  (hK: ∀v E',Rel c E' os'->Evo E os E' os'->V E' os' d v->K (a.put o.dst v) E'.w):o.wp P a E.w K Q:=by
 cases e<;>simp only[ZHu]at h<;>(try cases h)
 split at h
 .rename_i g caps hval;obtain⟨⟨ok,r,os1⟩,hr,h⟩:=Zc h;simp at h;obtain⟨⟨c1,c2,rfl⟩,rfl,rfl⟩:=h;obtain⟨hen,hpc⟩:=hT _ _ _ _ _ hr;refine ZGD hf hc hval c1 c2 hen (λvs hvl=>(hpc c E vs R hvl).mono ?_);exact Te
 .cases h
def ZHP(P:Program)(f:FuncId)(args:J8)(os:J7)(r:D):Prop:=
 ∀(Y:J7) (c:Ctx) (E:Env) (vs:Array Value),Rel c E (os++Y)->VL E (os++Y) args vs->
  Calls P f vs E.w λe w'=> ∃v E',e= .returned v/\E'.w=w'/\Rel c E' (os++Y)/\Evo E (os++Y) E' (os++Y)/\V E' (os++Y) r v
def ROk(P:Program)(T:FuncId->J8->J7->J5):Prop:= ∀f args os r,T f args os=some (true,r)->Enters P f/\ZHP P f args os r
def ZC0(T:FuncId->J8->J7->J5)(φ:J4)(os:J7):IE->J5
 | .call f xs=>match(ZG φ f).val with
  | .fn g caps=>(T g ((xs.map λy=>(ZG φ y).val)++caps) os).map λr=>((ZG φ f).cond&&((xs.all λy=>(ZG φ y).cond)&&r.1),r.2)
  |_=>none
 |_=>none
theorem ZZH{T:FuncId->J8->J7->J5}(hT:ROk P T){Y:J7}(R:Rel c E (os++Y))(hf:Fr n E (os++Y) φ a){o:Oper}{e:IE}(hc:Kf P o.op=some e){d:D}(h:ZC0 T φ os e=some (true,d)){K:Act->World->Prop}{Q:Exit->Act->World->Prop}
  (hK: ∀v E',Rel c E' (os++Y)->Evo E (os++Y) E' (os++Y)->V E' (os++Y) d v->K (a.put o.dst v) E'.w):o.wp P a E.w K Q:=by
 cases e<;>simp only[ZC0]at h<;>(try cases h)
 split at h
 .rename_i g caps hval;obtain⟨⟨ok,r⟩,hr,h⟩:=Zc h;simp at h;obtain⟨⟨c1,c2,rfl⟩,rfl⟩:=h;obtain⟨hen,hpc⟩:=hT _ _ _ _ hr;refine ZGD hf hc hval c1 c2 hen (λvs hvl=>(hpc Y c E vs R hvl).mono ?_);exact Te
 .cases h
def ZBq(P:Program)(f:FuncId)(args:J8)(os:J7)(r:Nat->D)(ob:Ob):Prop:=
 ∀(Y:J7) (id:Nat) (c:Ctx) (E:Env) (vs:Array Value),(os++Y)[id]? =some .dead->Rel c E (os++Y)->VL E (os++Y) args vs->
  Calls P f vs E.w λe w'=> ∃v E',e= .returned v/\E'.w=w'/\Rel c E' ((os++Y).set id ob)/\Evo E (os++Y) E' ((os++Y).set id ob)/\V E' ((os++Y).set id ob) (r id) v
def KOk(P:Program)(T:FuncId->J8->J7->Option (Bool×(Nat->D)×Ob)):Prop:= ∀f args os r ob,T f args os=some (true,r,ob)->Enters P f/\ZBq P f args os r ob
def ZFm(T:FuncId->J8->J7->Option (Bool×(Nat->D)×Ob))(φ:J4)(os:J7)(id:Nat):IE->Option (Bool×D×Ob)
 | .call f xs=>match(ZG φ f).val with
  | .fn g caps=>(T g ((xs.map λy=>(ZG φ y).val)++caps) os).map λr=>((ZG φ f).cond&&((xs.all λy=>(ZG φ y).cond)&&r.1),r.2.1 id,r.2.2)
  |_=>none
 |_=>none
theorem ZUA{T:FuncId->J8->J7->Option (Bool×(Nat->D)×Ob)}(hT:KOk P T){Y:J7}(R:Rel c E (os++Y))(hf:Fr n E (os++Y) φ a){o:Oper}{e:IE}(hc:Kf P o.op=some e){id:Nat}(hd:(os++Y)[id]? =some .dead){d:D}{ob:Ob}(h:ZFm T φ os id e=some (true,d,ob)){K:Act->World->Prop}{Q:Exit->Act->World->Prop}
  (hK: ∀v E',Rel c E' ((os++Y).set id ob)->Evo E (os++Y) E' ((os++Y).set id ob)->V E' ((os++Y).set id ob) d v->K (a.put o.dst v) E'.w):o.wp P a E.w K Q:=by
 cases e<;>simp only[ZFm]at h<;>(try cases h)
 split at h
 .rename_i g caps hval;obtain⟨⟨ok,r,ob'⟩,hr,h⟩:=Zc h;simp at h;obtain⟨⟨c1,c2,rfl⟩,rfl,rfl⟩:=h;obtain⟨hen,hpc⟩:=hT _ _ _ _ _ hr;refine ZGD hf hc hval c1 c2 hen (λvs hvl=>(hpc Y id c E vs hd R hvl).mono ?_);exact Te
 .cases h
theorem Zbe{S:FuncId->J8->J5}(hS:SOk P S)(R:Rel c E os)(hf:Fr n E os φ a){o:Oper}{e:IE}(hc:Kf P o.op=some e)(hcall:e.isCall=true){d:D}(h:ZT S φ os e=some (true,d)){K:Act->World->Prop}{Q:Exit->Act->World->Prop}
  (hK: ∀v E',Rel c E' os->Evo E os E' os->V E' os d v->K (a.put o.dst v) E'.w):o.wp P a E.w K Q:=by
 obtain⟨dst,op,ty,pos,after,guard⟩:=o;simp only at hc hK;obtain⟨f,args,ats,f',ys,rfl,hf',hys,rfl⟩:=ZQH hc hcall;simp only[ZT]at h;split at h
 .rename_i g caps hval;obtain⟨as,has,h⟩:=Zg h;obtain⟨cs,hcs,h⟩:=Zg h;obtain⟨⟨ok,r⟩,hr,h⟩:=Zg h;simp only at h;split at h
  .rename_i hsc;simp at h;obtain⟨⟨c1,c2,rfl⟩,rfl⟩:=h;obtain⟨hen,hpc⟩:=hS _ _ _ hr;have vf:=(V.op hf hf').strip c1;rw[hval]at vf;generalize hfv:a.eval f=fv at vf;cases vf with
   |fn capv hl hvv=>
    obtain⟨l1,l2⟩:=ZNq hf hys;obtain⟨m1,m2⟩:=ZD9 has;obtain⟨m3,m4⟩:=ZD9 hcs;have hrun:(execOp a.eval {dst,op:= .call ⟨.value f,args,ats⟩,type:=ty,pos,after,guard}).run P E.w= .ok (.enter g (args.map a.eval++capv)) E.w:=by
     exact UF
    have lenA:ys.length=args.size:=by rw[<-l1];simp
    have argAt: ∀(Ec:Env) (osc:J7),(∀(d0 d1:D) (v:Value),(d0∈caps\/ ∃y∈ys,(ZG φ y).val=d0)->V E os d0 v->Qs os d0=some d1->V Ec osc d1 v)->VL Ec osc (as++cs) (args.map a.eval++capv):=by
     intro Ec osc hview;have hal:as.length=args.size:=by rw[<-m1];simp[lenA]
     refine⟨by simp[hal,<-m3,hl],λj d v hd hv=> ?_⟩;by_cases hj:j<as.length
     .rw[Yk hj]at hd;rw[Zbs Wx]at hv;have hyj:ys[j]? =some (ys[j]' J0):=Zw _;have hxj:args.toList[j]? =some (args[j]' J0):=TG
      have hval':=l2 j _ _ hxj hyj;have hmem:(ZG φ (ys[j]' J0)).cond=true:=c2 _ (YK _);have hget:(ys.map (ZG φ))[j]? =some (ZG φ (ys[j]' J0)):=by rw[YI,hyj];rfl
      have hvd:=m2 j _ d hget hd;have hve:v=a.eval (args[j]' J0):=by
       rw[ZdU,ξJ J0]at hv;simpa using hv.symm
      subst hve;exact hview _ _ _ (.inr ⟨_,YK J0,rfl⟩) (hval'.strip hmem) hvd
     .rw[QI J0]at hd;rw[Array.getElem?_append_right Wx]at hv;simp only[Array.size_map,<-hal]at hv;have hcj:=(ZX hd).1;have hcapj:caps[j-as.length]? =some (caps[j-as.length]' J0):=Zw _;exact hview _ _ _ (.inl (YK J0)) (hvv _ _ v hcapj hv) (m4 _ _ _ hcapj hd)
    unfold Oper.wp;rw[hrun];show Calls P g _ E.w _;by_cases hs:r.scalar=true
    .refine(hpc E.w (λb _=>b<E.w.heap.size) _ (λb o h=>h) (argAt _ _ (λd0 d1 v _ hv hd=>ZbR R hv hd))).mono ?_;rintro e w' ⟨v,st',rfl,hk,h1,h2,hv⟩;obtain⟨R',ev⟩:=R.world w' E.st hk (λb o h=>h) (λb o h=> .inl h);exact hK v _ R' ev (hv.scalar hs)
    .simp[hs]at hsc;refine(hpc E.w E.st _ (λb o h=>(R.stm b o h).1) (argAt _ _ (λd0 d1 v hm hv hd=>ZbQ hv (by
      rcases hm with hm|⟨y,hy,rfl⟩
      .exact hsc.2 d0 hm
      .exact hsc.1 y hy) hd))).mono ?_
     rintro e w' ⟨v,st',rfl,hk,h1,h2,hv⟩;obtain⟨R',ev⟩:=R.world w' st' hk h1 h2;exact hK v _ R' ev (hv.bare (λb o h=>h))
  .cases h
 .cases h
end
structure IOp where
 dst:Option Nat
 e:IE
 g:Option (Nat×Bool)
def putO(φ:J4):Option Nat->D->J4
 |none,_=>φ
 |some t,d=>put φ t d
abbrev Tab:=FuncId->J8->J5
structure Tabs where
 q:Tab
 t:FuncId->J8->J7->Option (Bool×D×J7)
 r:FuncId->J8->J7->J5
 k:FuncId->J8->J7->Option (Bool×(Nat->D)×Ob)
structure SsOk (P:Program) (S:Tabs):Prop where
 q:SOk P S.q
 t:TOk P S.t
 r:ROk P S.r
 k:KOk P S.k
def QV(S:Tabs)(φ:J4)(os:J7)(e:IE):Option (Bool×D×J7):=if e.isCall then ZHu S.t φ os e else YF φ os e
def JM(S:Tabs)(φ:J4)(os:J7)(o:IOp):Option (Bool×List (Nat×D)×J7):=
 match o.g with
 |none=>match ZT S.q φ os o.e with
  |some r=>some (r.1,putO φ o.dst r.2,os)
  |none=>(QV S φ os o.e).map λr=>(r.1,putO φ o.dst r.2.1,r.2.2)
 |some (s,want)=>match(get φ s).val with
  | .x (.bool b)=>match ZT S.q φ os o.e with
   |some r=>some (!((get φ s).cond&&(b==want))||r.1,putO φ o.dst (.opt ((get φ s).cond&&(b==want)) r.2),os)
   |none=>if(get φ s).cond&&(b==want)then(QV S φ os o.e).map λr=>(r.1,putO φ o.dst r.2.1,r.2.2)else some (true,putO φ o.dst (.opt false .und),os)
  |_=>if(get φ s).cond then none else some (true,putO φ o.dst (.opt false .und),os)
def QJ(S:Tabs):J4->J7->List IOp->Option (Bool×List (Nat×D)×J7)
 |φ,os,[]=>some (true,φ,os)
 |φ,os,o::l=>(JM S φ os o).bind λr=>(QJ S r.2.1 r.2.2 l).map λq=>(r.1&&q.1,q.2)
def JG(P:Program)(n:Nat)(ops:Array Oper)(o:Oper):Option IOp:=
 (Kf P o.op).bind λe=>if(o.dst.all λt=>decide (t<n))then
  match o.guard with
  |none=>some ⟨o.dst,e,none⟩
  |some (j,want)=>((ops[j]?).bind (·.dst)).map λs=>⟨o.dst,e,some (s,want)⟩
 else none
section
variable {P:Program} {E:Env} {os:J7} {c:Ctx} {n:Nat} {φ:J4} {a:Act}
theorem V.und_of{d:D}{v:Value}(h:V E os d v)(hc:d.cond=false):v=undef:=by
 induction h with
 |opt h1 h2 ih=>
  rename_i b d v;cases b with
  |false=>exact h2 rfl
  |true=>exact ih rfl (by simpa[D.cond]using hc)
 |x h=>cases hc
 |ref h h1=>cases hc
 |ptr ho h=>cases hc
 |eptr h h1=>cases hc
 |vptr b off val hc' hv=>cases hc
 |mref ho hk h=>cases hc
 |mnil=>cases hc
 |iref ho hk h=>cases hc
 |stk ho hk h=>cases hc
 |bref ho h hm=>cases hc
 |agg vs hl h1 hv=>cases hc
 |tup vs hl hv=>cases hc
 |full n h=>cases hc
 |nz h=>cases hc
 |fn vs hl hv=>cases hc
 |und v=>cases hc
theorem Fr.putO(h:Fr n E os φ a){dst:Option Nat}{d:D}{v:Value}(ht:(dst.all λt=>decide (t<n))=true)(hv:V E os d v):Fr n E os (Go.Ab.putO φ dst d) (a.put dst v):=by
 cases dst with
 |none=>exact h
 |some t=>exact h.put (by simpa using ht) hv
theorem ZGg{s:Nat}{ops:Array Oper}{j:Nat}(hs:(ops[j]?).bind (·.dst)=some s)(hf:Fr n E os φ a){b:Bool}(hv:(get φ s).val= .x (.bool b))(want:Bool):
  (yielded ops a.tmps j==some want)=((get φ s).cond&&(b==want)):=by
 have h:=hf.slot s;have key: ∀v,a.tmps.getD s undef=v->(yielded ops a.tmps j)=match v with| .bool b=>some b|_=>none:=by
  intro v hv;unfold yielded;rw[hs];simp only[ZA9];rw[ZEc]at hv;cases h1:a.tmps[s]? with
  |none=>rw[h1]at hv;simp at hv;subst hv;rfl
  |some u=>rw[h1]at hv;simp at hv;subst hv;cases u<;>rfl
 cases hc:(get φ s).cond with
 |false=>
  have:=h.und_of hc;rw[key _ this];rfl
 |true=>
  have:=h.strip hc;rw[hv]at this;rw[key _ (V.bool this)];cases b<;>cases want<;>rfl
theorem ZJs{s:Nat}{ops:Array Oper}{j:Nat}(hs:(ops[j]?).bind (·.dst)=some s)(hf:Fr n E os φ a)(hc:(get φ s).cond=false)(want:Bool):(yielded ops a.tmps j==some want)=false:=by
 have h:=(hf.slot s).und_of hc;unfold yielded;rw[hs];simp only[ZA9];rw[ZEc]at h;cases h1:a.tmps[s]? with
 |none=>rfl
 |some u=>rw[h1]at h;simp at h;subst h;rfl
theorem ZGw{S:Tab}(hS:SOk P S)(R:Rel c E os)(hf:Fr n E os φ a){o:Oper}{e:IE}(hc:Kf P o.op=some e){d:D}(h:ZT S φ os e=some (true,d)){K:Act->World->Prop}{Q:Exit->Act->World->Prop}
  (hK: ∀v E',Rel c E' os->Evo E os E' os->V E' os d v->K (a.put o.dst v) E'.w):o.wp P a E.w K Q:=by
 cases hcall:e.isCall with
 |true=>exact Zbe hS R hf hc hcall h hK
 |false=>
  obtain⟨v,h1,h2⟩:=Zb7 R hf hc hcall h;unfold Oper.wp;rw[h1];exact hK v E R (Evo.refl _ _) h2
theorem ZNg{S:Tabs}(hS:SsOk P S)(R:Rel c E os)(hf:Fr n E os φ a){o:Oper}{e:IE}(hc:Kf P o.op=some e){d:D}{os':J7}(h:QV S φ os e=some (true,d,os')){K:Act->World->Prop}{Q:Exit->Act->World->Prop}
  (hK: ∀v E',Rel c E' os'->Evo E os E' os'->V E' os' d v->K (a.put o.dst v) E'.w):o.wp P a E.w K Q:=by
 unfold QV at h;split at h
 .exact ZZQ hS.t R hf hc h hK
 obtain⟨r,E',h1,h2,h3,h4⟩:=Zb5 R hf hc h;unfold Oper.wp;rw[h1];cases h4 with
 |value hv=>exact hK _ E' h2 h3 hv
 |skip hd=>exact hK undef E' h2 h3 (by rw[hd];exact .und _)
theorem ZPZ{S:Tabs}(hS:SsOk P S)(R:Rel c E os)(hf:Fr n E os φ a){ops:Array Oper}{o:Oper}{io:IOp}(hc:JG P n ops o=some io){φ':J4}{os':J7}(h:JM S φ os io=some (true,φ',os')){K:Act->World->Prop}{Q:Exit->Act->World->Prop}
  (hK: ∀E' a',Rel c E' os'->Evo E os E' os'->Fr n E' os' φ' a'->K a' E'.w):
  if Region.wanted o (yielded ops a.tmps)then o.wp P a E.w K Q else K (a.put o.dst undef) E.w:=by
 simp only[JG,YG]at hc;obtain⟨e,he,hc⟩:=hc;split at hc
 .rename_i hdst;split at hc
  .rename_i hg;cases hc;simp only[JM]at h;simp only[Region.wanted,hg,if_true];split at h
   .rename_i r hr;obtain⟨ok,d⟩:=r;simp at h;obtain⟨rfl,rfl,rfl⟩:=h;exact ZGw hS.q R hf he hr (λv E' R' ev hv=>hK E' _ R' ev ((hf.mono ev).putO hdst hv))
   .exact U9
  .rename_i j want hg;obtain⟨s,hs,hc⟩:=Zc hc;cases hc;simp only[JM]at h;have hwd:Region.wanted o (yielded ops a.tmps)=(yielded ops a.tmps j==some want):=Ny
   rw[hwd];have un: ∀(d:D),φ'=Go.Ab.putO φ o.dst (.opt false d)->os'=os->K (a.put o.dst undef) E.w:=by
    rintro d rfl rfl;exact hK E _ R (Evo.refl _ _) (hf.putO hdst (.opt (λh=>W6) (λ_=>rfl)))
   split at h
   .rename_i b hb;rw[ZGg hs hf hb want];split at h
    .rename_i r hr;obtain⟨ok,d⟩:=r;simp only[Yu,YP]at h;obtain⟨h1,rfl,rfl⟩:=h;cases hw:((get φ s).cond&&(b==want))with
     |false=>
      rw[hw]at hK;simp only[Je,if_false];exact hK E _ R (Evo.refl _ _) (hf.putO hdst (.opt (λh=>W6) (λ_=>rfl)))
     |true=>
      rw[hw]at hK h1;simp at h1;subst h1;simp only[if_true];exact ZGw hS.q R hf he hr (λv E' R' ev hv=>hK E' _ R' ev ((hf.mono ev).putO hdst (.opt (λ_=>hv) (λh=>W6))))
    .split at h
     .rename_i hw;rw[if_pos hw];exact U9
     .exact G5
   .split at h
    .cases h
    .exact UQ
 .cases hc
theorem ZLE{S:Tabs}(hS:SsOk P S){ops:Array Oper}{Q:Exit->Act->World->Prop}: ∀ {l:List Oper} {il:List IOp} {E:Env} {os:J7} {φ:J4} {a:Act},Rel c E os->Fr n E os φ a->l.mapM (JG P n ops)=some il-> ∀ {φ':J4} {os':J7},QJ S φ os il=some (true,φ',os')->
  (∀E' a',Rel c E' os'->Evo E os E' os'->Fr n E' os' φ' a'->Q .normal a' E'.w)->wpList P ops Q l a E.w
 | [],il,E,os,φ,a,R,hf,hm,φ',os',h,hQ=>by
  simp at hm;subst hm;cases h;exact hQ E a R (Evo.refl _ _) hf
 |o::l,il,E,os,φ,a,R,hf,hm,φ',os',h,hQ=>by
  simp only[ZAV,KL,YG,ZBA]at hm;obtain⟨io,hio,il',hil,hm⟩:=hm;cases hm;simp only[QJ,YG,Kq]at h;obtain⟨⟨ok,φ1,os1⟩,h1,⟨ok2,φ2,os2⟩,h2,h3⟩:=h;simp at h3;obtain⟨⟨rfl,rfl⟩,rfl,rfl⟩:=h3;refine wpList_step λK hK=>ZPZ hS R hf hio h1 (λE1 a1 R1 e1 f1=> ?_)
  exact hK _ _ (ZLE hS R1 f1 hil h2 (λE' a' R' e' f'=>hQ E' a' R' (e1.trans e') f'))
end
def IO.reads:IO->W0
 | .t n=> [n]
 | .c _=> []
def ZF7:Option IO->W0
 |some x=>x.reads
 |none=> []
def IE.reads:IE->W0
 | .abx _ x| .mv x| .nck x| .un _ x| .cvi _ x| .b2s x| .s2b _ x| .fld _ _ _ x| .fad _ x| .ld _ _ x| .box x| .ext x _| .len _ x=>x.reads
 | .pick c a b=>c.reads++(a.reads++b.reads)
 | .bin _ x y| .eq _ _ x y| .iad _ x y| .iada _ _ x y| .idx x y| .idxa _ _ _ x y| .sto _ x y| .mks _ _ _ _ x y| .app _ _ _ x y| .apz _ _ _ _ x y| .cpy _ x y| .mnx _ x y=>x.reads++y.reads
 | .build _ ps=>ps.flatMap λp=>p.2.2.reads
 | .bsl _ _ _ xs=>xs.flatMap IO.reads
 | .asl _ x hi=>x.reads++ZF7 hi
 | .mkm _ _=> []
 | .mln x| .mcl x| .rgm x| .rgs x| .nxt _ x| .ent x=>x.reads
 | .mlk _ _ _ x k| .mdl _ x k| .men _ _ x k=>x.reads++k.reads
 | .mup _ x k v| .est x k v=>x.reads++(k.reads++v.reads)
 | .slc _ x lo hi mx=>x.reads++(ZF7 lo++(ZF7 hi++ZF7 mx))
 | .call f xs=>f.reads++xs.flatMap IO.reads
 | .mkf _ xs=>xs.flatMap IO.reads
def IOp.reads(o:IOp):W0:=o.e.reads++match o.g with|some (s,_)=> [s]|none=> []
theorem ZR{φ φ':J4}{x:IO}(h: ∀t∈x.reads,Go.Ab.get φ t=Go.Ab.get φ' t):ZG φ x=ZG φ' x:=by
 cases x with
 |t n=>exact h n (by simp[IO.reads])
 |c d=>rfl
theorem ZOY{φ φ':J4}{xs:List IO}(h: ∀t∈xs.flatMap IO.reads,Go.Ab.get φ t=Go.Ab.get φ' t):xs.map (ZG φ)=xs.map (ZG φ'):=
 ZBz λx hx=>ZR λt ht=>h t (ZFM.2 ⟨x,hx,ht⟩)
theorem ZLF{φ φ':J4}: ∀ {ps:List (Nat×Nat×IO)} {acc:J8},(∀t∈ps.flatMap (λp=>p.2.2.reads),Go.Ab.get φ t=Go.Ab.get φ' t)->Jb φ ps acc=Jb φ' ps acc
 | [],acc,h=>rfl
 |(off,sz,x)::ps,acc,h=>by
  have hx:ZG φ x=ZG φ' x:=ZR λt ht=>h t (by simp[ht])
  have ih: ∀acc,Jb φ ps acc=Jb φ' ps acc:=λacc=>ZLF λt ht=>h t TX
  simp only[Jb,hx,ih]
theorem ZJu(S:Tab){φ φ':J4}(os:J7){e:IE}(h: ∀t∈e.reads,Go.Ab.get φ t=Go.Ab.get φ' t):ZT S φ os e=ZT S φ' os e:=by
 cases e with
 |mv x=>exact Uf
 |nck x=>exact Uf
 |pick p x y=>
  simp only[ZT,ZR (x:=p) (λt ht=>h t W3),ZR (x:=x) (λt ht=>h t W3),ZR (x:=y) (λt ht=>h t W3)]
 |bin op x y=>exact Vj
 |eq k g x y=>exact Vj
 |un op x=>exact Uf
 |cvi k x=>exact Uf
 |b2s x=>exact Uf
 |s2b e x=>exact G9
 |abx e x=>exact G9
 |asl n x hi=>
  cases hi with
  |none=>simp only[ZT,ZR (x:=x) (λt ht=>h t W3)]
  |some y=>exact G9
 |mkm dk ag=>exact G9
 |mup dk x k v=>exact G9
 |mdl dk x k=>exact G9
 |men dk z x k=>exact G9
 |est x s v=>exact G9
 |mcl x=>exact G9
 |rgm x=>exact G9
 |rgs x=>exact G9
 |nxt st x=>exact G9
 |ent x=>exact Uf
 |mln x=>exact Uf
 |mlk dk ok z x k=>simp only[ZT,ZR (x:=x) (λt ht=>h t W3),ZR (x:=k) (λt ht=>h t W3)]
 |fld o n ag x=>exact Uf
 |fad o x=>exact Uf
 |iad sz x y=>exact Vj
 |iada sz l x y=>exact Vj
 |idx x y=>exact Vj
 |idxa sz l ag x y=>exact Vj
 |ld n ag x=>exact Uf
 |sto n x y=>exact G9
 |box x=>exact G9
 |build zs ps=>simp only[ZT,ZLF (ps:=ps) h]
 |bsl e sz n xs=>exact G9
 |mks e sz b z x y=>exact G9
 |slc sz x lo hi mx=>
  have hx:=ZR (x:=x) (λt ht=>h t W3);have hlo:lo.map (ZG φ)=lo.map (ZG φ'):=by
   cases lo with
   |none=>rfl
   |some y=>exact Tz
  have hhi:hi.map (ZG φ)=hi.map (ZG φ'):=by
   cases hi with
   |none=>rfl
   |some y=>exact Tz
  have hlo':lo.map (λl=>ZG φ l)=lo.map (λl=>ZG φ' l):=hlo;have hhi':hi.map (λl=>ZG φ l)=hi.map (λl=>ZG φ' l):=hhi;have hmx:mx.map (λl=>ZG φ l)=mx.map (λl=>ZG φ' l):=by
   cases mx with
   |none=>rfl
   |some y=>exact Tz
  cases mx with
  |none=>simp only[ZT,ZIf,ZJX,hx,hlo',hhi',hmx]
  |some y=>simp only[ZT,ZIf,ZJX,hx,hlo',hhi',hmx]
 |ext x i=>exact Uf
 |len st x=>exact Uf
 |app e sz b x y=>exact G9
 |apz e sz b z x y=>exact G9
 |cpy sz x y=>exact G9
 |mnx mx x y=>exact Vj
 |call f xs=>simp only[ZT,ZR (x:=f) (λt ht=>h t W3),ZOY (xs:=xs) (λt ht=>h t (by simp only[IE.reads,KT];exact .inr ht))]
 |mkf f xs=>simp only[ZT,ZOY (xs:=xs) h]
def KE(S:Tabs)(φ:J4)(os:J7)(e:IE):J5:=
 match ZT S.q φ os e with
 |some r=>some r
 |none=>ZC0 S.r φ os e
theorem ZL1(S:Tabs){φ φ':J4}(os:J7){e:IE}(h: ∀t∈e.reads,Go.Ab.get φ t=Go.Ab.get φ' t):KE S φ os e=KE S φ' os e:=by
 unfold KE;rw[ZJu S.q os h];have:ZC0 S.r φ os e=ZC0 S.r φ' os e:=by
  cases e with
  |call f xs=>
   have h1:=ZR (x:=f) (λt ht=>h t W3);have h2: ∀y∈xs,ZG φ y=ZG φ' y:=λy hy=>ZR (λt ht=>h t T4)
   have h3:(xs.map λy=>(ZG φ y).val)=xs.map λy=>(ZG φ' y).val:=ZBz (λy hy=>by rw[h2 y hy])
   have h4:(xs.all λy=>(ZG φ y).cond)=xs.all λy=>(ZG φ' y).cond:=by
    have: ∀l:List IO,(∀y∈l,ZG φ y=ZG φ' y)->(l.all λy=>(ZG φ y).cond)=l.all λy=>(ZG φ' y).cond:=by
     intro l
     induction l with
     |nil=>intro _;rfl
     |cons y l ih=>exact TR
    exact this xs h2
   simp only[ZC0,h1,h3,h4]
  |_=>rfl
 rw[this]
def Ye(S:Tabs)(φ:J4)(os:J7)(o:IOp):J5:=
 match o.g with
 |none=>KE S φ os o.e
 |some (s,want)=>match(Go.Ab.get φ s).val with
  | .x (.bool b)=>match KE S φ os o.e with
   |some r=>some (!((Go.Ab.get φ s).cond&&(b==want))||r.1,.opt ((Go.Ab.get φ s).cond&&(b==want)) r.2)
   |none=>if(Go.Ab.get φ s).cond&&(b==want)then none else some (true,.opt false .und)
  |_=>if(Go.Ab.get φ s).cond then none else some (true,.opt false .und)
def D.toX? :D->Option X
 | .x y=>some y
 |_=>none
def ZEi(φ:J4)(sz:Nat):List IO->Option (Bool×J6)
 | []=>some (true,[])
 |x::xs=>(ZG φ x).val.cells?.bind λcs=>(cs.mapM D.toX?).bind λr=>if r.length=sz then
   (ZEi φ sz xs).map λq=>((ZG φ x).cond&&q.1,r::q.2)else none
def QW(φ:J4)(id:Nat)(e:IE):Option (Bool×D×Ob):=
 match e with
  | .box x=>(ZG φ x).val.cells?.map λcs=>((ZG φ x).cond,.ptr id 0,.box cs)
  | .bsl e sz n parts=>if n=parts.length then(ZEi φ sz parts).map λq=>(q.1,.ref id n 0 n,.rows false e sz q.2)else none
  | .mkm dk ag=>some (true,.mref id,.mpo dk ag [])
  |_=>none
def QP(φ:J4)(s:Nat)(want:Bool):Bool:=match(Go.Ab.get φ s).val with
 | .x (.bool b)=>(Go.Ab.get φ s).cond&&(b==want)
 |_=>false
def evC(φ:J4)(id:Nat)(o:IOp):Option (Bool×D×Ob):=
 match o.g with
 |some (s,want)=>if QP φ s want=true then QW φ id o.e else none
 |none=>QW φ id o.e
theorem ZHx(S:Tabs){φ φ':J4}(os:J7){o:IOp}(h: ∀t∈o.reads,Go.Ab.get φ t=Go.Ab.get φ' t):Ye S φ os o=Ye S φ' os o:=by
 obtain⟨dst,e,g⟩:=o;cases g with
 |none=>exact ZL1 S os (λt ht=>h t U7)
 |some p=>
  obtain⟨s,want⟩:=p;have hs:Go.Ab.get φ s=Go.Ab.get φ' s:=h s HS;have he:=ZL1 S os (e:=e) (φ:=φ) (φ':=φ') (λt ht=>h t U7);simp only[Ye,hs,he]
theorem ZKE{φ φ':J4}{sz:Nat}: ∀ {xs:List IO},(∀t∈xs.flatMap IO.reads,Go.Ab.get φ t=Go.Ab.get φ' t)->ZEi φ sz xs=ZEi φ' sz xs
 | [],h=>rfl
 |x::xs,h=>by
  have hx:ZG φ x=ZG φ' x:=ZR λt ht=>h t (by simp[ht])
  have ih:ZEi φ sz xs=ZEi φ' sz xs:=ZKE λt ht=>h t TX
  simp only[ZEi,hx,ih]
theorem ZWr{φ φ':J4}(id:Nat){e:IE}(h: ∀t∈e.reads,Go.Ab.get φ t=Go.Ab.get φ' t):QW φ id e=QW φ' id e:=by
 cases e with
 |box x=>simp only[QW,ZR (x:=x) (λt ht=>h t W3)]
 |bsl e sz n xs=>simp only[QW,ZKE (xs:=xs) (λt ht=>h t (by simp only[IE.reads];exact ht))]
 |_=>rfl
theorem ZYI{φ φ':J4}(id:Nat){o:IOp}(h: ∀t∈o.reads,Go.Ab.get φ t=Go.Ab.get φ' t):evC φ id o=evC φ' id o:=by
 obtain⟨dst,e,g⟩:=o;have he:=ZWr (φ:=φ) (φ':=φ') id (e:=e) (λt ht=>h t U7);cases g with
 |some p=>
  have e1:=h p.1 HS;have e2:QP φ p.1 p.2=QP φ' p.1 p.2:=by unfold QP;rw[e1]
  simp only[evC,he,e2]
 |none=>exact he
theorem ZDU{os Y:J7}{i:Nat}{o:Ob}(h:os[i]? =some o):(os++Y)[i]? =some o:=by
 rw[Yk (ZX h).1];exact h
theorem ZOH{os Y:J7}{d:D}{r:J6}(h:Zx os d=some r):Zx (os++Y) d=some r:=by
 cases d with
 |ref id ext off len=>
  simp only[Zx]at h|-;cases ho:os[id]? with
  |none=>simp[ho]at h
  |some o=>exact Ue
 |x y=>cases y<;>exact h
 |_=>exact h
theorem ZQO{os Y:J7}{d:D}(h:KS os d=true):KS (os++Y) d=true:=by
 cases d with
 |ref id ext off len=>
  simp only[KS]at h|-;cases ho:os[id]? with
  |none=>simp[ho]at h
  |some o=>exact Ue
 |_=>rfl
theorem Ze6{os Y:J7}{k:EqK}{x y:D}{b:Bool}(h:eqR os k x y=some (true,b)):eqR (os++Y) k x y=some (true,b):=by
 unfold eqR at h|-;split at h
 .exact h
 .split at h
  .obtain⟨b',h1,h2⟩:=Zc h;simp at h2;obtain⟨rfl,rfl⟩:=h2;refine Zbb.2 ⟨true,?_,rfl⟩;unfold nzD at h1|-;split at h1
   .simp only[Yu,Zj]at h1|-;exact⟨ZQO h1.1,h1.2⟩
   .exact h1
   .exact h1
   .exact h1
   .cases h1
  .cases h
theorem ZKH{os Y:J7}{d:D}{x:X}(h:Jo os d=some x):Jo (os++Y) d=some x:=by
 cases d with
 |x y=>exact h
 |bref id off len=>
  simp only[Jo,Kq,ZMb]at h|-;obtain⟨r,h1,h2⟩:=h;refine⟨r,?_,h2⟩;cases ho:os[id]? with
  |none=>simp[ho]at h1
  |some ob=>rw[ho]at h1;rw[ZDU ho];exact h1
 |_=>
  simp only[Jo,Kq]at h|-;obtain⟨r,h1,h2⟩:=h;exact⟨r,ZOH h1,h2⟩
theorem ZJj{α β:Type}{f g:α->Option β}(hfg: ∀x y,f x=some y->g x=some y): ∀ {l:List α} {m:List β},l.mapM f=some m->l.mapM g=some m
 | [],m,h=>WM
 |x::l,m,h=>by
  simp only[ZAV,KL,YG,ZBA]at h|-;obtain⟨y,hy,ys,hys,h⟩:=h;exact⟨y,hfg _ _ hy,ys,ZJj hfg hys,h⟩
theorem ZP6{os Y:J7}{d d':D}(h:Qs os d=some d'):Qs (os++Y) d=some d':=by
 cases d with
 |x y=>exact h
 |agg ds=>
  simp only[Qs,Kq]at h|-;obtain⟨xs,h1,h2⟩:=h;exact⟨xs,ZJj (λ_ _=>ZKH) h1,h2⟩
 |fn f caps=>
  cases caps with
  |nil=>exact h
  |cons a l=>
   simp only[Qs,Kq]at h|-;obtain⟨x,h1,h2⟩:=h;exact⟨x,ZKH h1,h2⟩
 |_=>
  simp only[Qs,Kq]at h|-;obtain⟨x,h1,h2⟩:=h;exact⟨x,ZKH h1,h2⟩
theorem Zbr{S:Tab}{φ:J4}{os Y:J7}{e:IE}{d:D}(h:ZT S φ os e=some (true,d)):ZT S φ (os++Y) e=some (true,d):=by
 cases e with
 |b2s x=>
  simp only[ZT,Kq]at h|-;obtain⟨r,h1,h2⟩:=h;exact⟨r,ZOH h1,h2⟩
 |iad sz x i=>
  simp only[ZT]at h|-;cases hi:ZD (ZG φ i).val with
  |none=>simp[hi]at h
  |some k=>
   simp only[hi]at h|-;generalize hv:(ZG φ x).val=v at h;cases v with
   |ref id ext off len=>
    simp only at h|-;cases ho:os[id]? with
    |none=>simp[ho]at h
    |some o=>exact Ue
   |x y=>cases y<;>exact h
   |_=>exact h
 |ld n ag x=>
  simp only[ZT]at h|-;generalize hv:(ZG φ x).val=v at h;cases v with
  |ptr id o=>
   simp only at h|-;cases ho:os[id]? with
   |none=>simp[ho]at h
   |some ob=>exact Ue
  |eptr id ext i o=>
   simp only at h|-;cases ho:os[id]? with
   |none=>simp[ho]at h
   |some ob=>exact Ue
  |_=>exact h
 |mln x=>
  simp only[ZT]at h|-;generalize hv:(ZG φ x).val=v at h;cases v with
  |mref id=>
   simp only at h|-;cases ho:os[id]? with
   |none=>simp[ho]at h
   |some ob=>exact Ue
  |_=>exact h
 |mlk dk ok z x k=>
  simp only[ZT]at h|-;generalize hv:(ZG φ x).val=v at h;cases v with
  |mref id=>
   simp only at h|-;cases ho:os[id]? with
   |none=>simp[ho]at h
   |some ob=>exact Ue
  |_=>exact h
 |slc sz x lo hi mx=>
  simp only[ZT]at h|-;split
  .rename_i h0;rw[if_pos h0]at h;exact h
  .rename_i h0;rw[if_neg h0]at h;simp only[ZJX]at h|-;generalize hv:(ZG φ x).val=v at h;cases v with
   |ref id ext off len=>
    simp only at h|-;cases ho:os[id]? with
    |none=>simp[ho]at h
    |some ob=>exact Ue
   |x y=>cases y<;>exact h
   |_=>exact h
 |eq k neg x y=>
  simp only[ZT,Kq]at h|-;obtain⟨⟨ok,r⟩,h1,h2⟩:=h;simp only[YP,Zj]at h2;obtain⟨⟨h3,rfl⟩,h4⟩:=h2;exact⟨_,Ze6 h1,by simp[h3,<-h4]⟩
 |asl m x hi=>
  cases hi with
  |some y=>exact h
  |none=>
   simp only[ZT]at h|-;generalize hv:(ZG φ x).val=v at h;cases v with
   |ptr id o=>
    simp only at h|-;cases ho:os[id]? with
    |none=>simp[ho]at h
    |some ob=>exact Ue
   |_=>exact h
 |ent x=>
  simp only[ZT]at h|-;generalize hv:(ZG φ x).val=v at h;cases v with
  |iref mid it=>
   simp only at h|-;cases ho:os[mid]? with
   |none=>simp[ho]at h
   |some ob=>exact Ue
  |_=>exact h
 |len st x=>
  simp only[ZT,Kq]at h|-;obtain⟨r,h1,h2⟩:=h;refine⟨r,h1,?_⟩;simp only[YP,Zj]at h2|-;exact⟨⟨h2.1.1,ZQO h2.1.2⟩,h2.2⟩
 |call f xs=>
  simp only[ZT]at h|-;generalize hv:(ZG φ f).val=v at h;cases v with
  |fn g caps=>
   simp only[YG]at h|-;obtain⟨as,h1,cs,h2,r,h3,h4⟩:=h;exact⟨as,ZJj (λ_ _=>ZP6) h1,cs,ZJj (λ_ _=>ZP6) h2,r,h3,h4⟩
  |_=>exact h
 |_=>exact h
theorem ZQP{P:Program}{S:Tabs}(hS:SsOk P S){c:Ctx}{E:Env}{os Y:J7}{n:Nat}{φ:J4}{a:Act}(R:Rel c E (os++Y))(hf:Fr n E (os++Y) φ a){o:Oper}{e:IE}(hc:Kf P o.op=some e){d:D}(h:KE S φ os e=some (true,d)){K:Act->World->Prop}{Q:Exit->Act->World->Prop}
  (hK: ∀v E',Rel c E' (os++Y)->Evo E (os++Y) E' (os++Y)->V E' (os++Y) d v->K (a.put o.dst v) E'.w):o.wp P a E.w K Q:=by
 unfold KE at h;split at h
 .rename_i r hr;cases h;exact ZGw hS.q R hf hc (Zbr hr) hK
 .exact ZZH hS.r R hf hc h hK
theorem ZKI{P:Program}{S:Tabs}(hS:SsOk P S){c:Ctx}{E:Env}{os Y:J7}{n:Nat}{φ:J4}{a:Act}(R:Rel c E (os++Y))(hf:Fr n E (os++Y) φ a){ops:Array Oper}{o:Oper}{io:IOp}(hc:JG P n ops o=some io){d:D}(h:Ye S φ os io=some (true,d)){K:Act->World->Prop}{Q:Exit->Act->World->Prop}
  (hK: ∀v E',Rel c E' (os++Y)->Evo E (os++Y) E' (os++Y)->V E' (os++Y) d v->K (a.put o.dst v) E'.w):
  if Region.wanted o (yielded ops a.tmps)then o.wp P a E.w K Q else K (a.put o.dst undef) E.w:=by
 simp only[JG,YG]at hc;obtain⟨e,he,hc⟩:=hc;split at hc
 .split at hc
  .rename_i hg;cases hc;simp only[Ye]at h;simp only[Region.wanted,hg,if_true];exact ZQP hS R hf he h hK
  .rename_i j want hg;obtain⟨s,hs,hc⟩:=Zc hc;cases hc;simp only[Ye]at h;have hwd:Region.wanted o (yielded ops a.tmps)=(yielded ops a.tmps j==some want):=Ny
   rw[hwd];split at h
   .rename_i b hb;rw[ZGg hs hf hb want];split at h
    .rename_i r hr;obtain⟨ok,d⟩:=r;simp only[Yu,YP]at h;obtain⟨h1,rfl⟩:=h;cases hw:((Go.Ab.get φ s).cond&&(b==want))with
     |false=>
      rw[hw]at hK;simp only[Je,if_false];exact hK undef E R (Evo.refl _ _) (.opt (λh=>W6) (λ_=>rfl))
     |true=>
      rw[hw]at hK h1;simp at h1;subst h1;simp only[if_true];exact ZQP hS R hf he hr (λv E' R' ev hv=>hK v E' R' ev (.opt (λ_=>hv) (λh=>W6)))
    .split at h
     .cases h
     .rename_i hw;simp only[Yu,YP,true_and]at h;subst h;rw[if_neg hw];exact TT
   .split at h
    .cases h
    .rename_i hw;simp only[Yu,YP,true_and]at h;subst h;rw[ZJs hs hf (by simpa using hw) want];simp only[Je,if_false];exact TT
 .cases hc
theorem ZR4{c:Ctx}{E:Env}{os:J7}(R:Rel c E os){id:Nat}(hd:os[id]? =some .dead){cs:J8}(vs:Array Value)(t:Nat)(hl:vs.size=cs.length)(h1: ∀u∈vs.toList,u.oneCell'=true)(hv: ∀(j:Nat) (d:D) (u:Value),cs[j]? =some d->vs[j]? =some u->V E os d u):
  ∃E',E'.w=E.w.alloc (.cells vs t)/\Rel c E' (os.set id (.box cs))/\Evo E os E' (os.set id (.box cs))/\V E' (os.set id (.box cs)) (.ptr id 0) (.pointer (some ⟨E.w.heap.size,0,none⟩)):=by
 obtain⟨p,hp,_⟩:=R.at hd;have hlt:=(ZX hd).1;have hk:=Kk E.w (.cells vs t);obtain⟨R',ev⟩:=R.set hd hp (E.w.alloc (.cells vs t)) (.box cs) (E.w.heap.size,undef) ⟨hk.os,hk.tape,hk.output,hk.size,λk hk' _=>hk.block k hk' (λh=>h)⟩ (λb hb=>by cases hb;exact .inr (.inl (Zr _))) (λsz rs h=>W6) (λds h=>W6) (λev=>by
  refine⟨vs,t,heap_alloc_new _ _,hl,λj d v hd hv'=>⟨(hv j d v hd hv').mono ev,h1 v ?_⟩⟩;rw[<-ξQ]at hv';exact JE hv')
 refine⟨_,rfl,R',ev,.ptr (cu:=undef) (ds:=cs) (by simp[hlt]) ?_⟩;exact HL
theorem ZTp{c:Ctx}{E:Env}{os:J7}(R:Rel c E os){id:Nat}(hd:os[id]? =some .dead){dk:KK}{ag:Bool}{l:W2}(es:Array MapEntry)(clk:Nat)(hok: ∀E' os',Evo E os E' os'->E'.w=E.w.alloc (.map es clk)->YL E' os' E.w.heap.size dk ag l):
  ∃E',E'.w=E.w.alloc (.map es clk)/\Rel c E' (os.set id (.mpo dk ag l))/\Evo E os E' (os.set id (.mpo dk ag l))/\V E' (os.set id (.mpo dk ag l)) (.mref id) (.map (some E.w.heap.size)):=by
 obtain⟨p,hp,_⟩:=R.at hd;have hlt:=(ZX hd).1;have hk:=Kk E.w (.map es clk);obtain⟨R',ev⟩:=R.set hd hp (E.w.alloc (.map es clk)) (.mpo dk ag l) (E.w.heap.size,undef) ⟨hk.os,hk.tape,hk.output,hk.size,λk hk' _=>hk.block k hk' (λh=>h)⟩ (λb hb=>by cases hb;exact .inr (.inl (Zr _))) (λsz rs h=>W6) (λds h=>W6) (λev=>hok _ _ ev rfl);refine⟨_,rfl,R',ev,.mref (cu:=undef) (dk:=dk) (ag:=ag) (o:= .mpo dk ag l) (by simp[hlt]) rfl ?_⟩;exact HL
theorem ZNC{c:Ctx}{E:Env}{os:J7}(R:Rel c E os){id:Nat}(hd:os[id]? =some .dead){w':World}(hk:Kept (λ_=>False) E.w w'){fz:Bool}{e sz:Nat}{rs:J6}{cu:Value}{xs:List Value}(hr:QM w' fz e sz rs.length cu xs)(hb: ∀b,cu.ownBlock=some b->E.w.heap.size<=b)(hz: ∀r∈rs,r.length=sz)
  (hv: ∀(i:Nat) (r:J9) (j:Nat) (x:X) (v:Value),rs[i]? =some r->r[j]? =some x->xs[i*sz+j]? =some v->VX E.w E.st x v):
  ∃E',E'.w=w'/\Rel c E' (os.set id (.rows fz e sz rs))/\Evo E os E' (os.set id (.rows fz e sz rs))/\V E' (os.set id (.rows fz e sz rs)) (.ref id rs.length 0 rs.length) cu:=by
 obtain⟨p,hp,_⟩:=R.at hd;have hlt:=(ZX hd).1;obtain⟨R',ev⟩:=R.set hd hp w' (.rows fz e sz rs) (0,cu) ⟨hk.os,hk.tape,hk.output,hk.size,λk hk' _=>hk.block k hk' (λh=>h)⟩ (λb hb'=> .inr (.inl (hb b hb'))) (λsz rs h=>W6) (λds h=>W6) (λev=>⟨xs,hr,hz,λi r j x v h1 h2 h3=>(hv i r j x v h1 h2 h3).mono ev.st⟩);have hob:(E.ob.set id (0,cu))[id]? =some (0,cu):=HQ
 refine⟨_,rfl,R',ev,.ref ⟨.rows fz e sz rs,sz,rs.length,by simp[hlt],rfl,?_⟩ ?_⟩
 .refine⟨Zr _,λ_=>⟨J0,0,?_⟩⟩;rcases hr.2 with⟨h3,h4⟩|⟨g,cap,cells,fr,h3,h4,h5,h6,h7⟩
  .exact V8
  .exact VO
 .exact UL
theorem Zcb{cs:J8}{r:J9}(h:cs.mapM D.toX? =some r):r.length=cs.length/\ ∀(j:Nat) (x:X),r[j]? =some x->cs[j]? =some (.x x):=by
 obtain⟨h1,h2⟩:=ZD9 h;refine⟨h1.symm,λj x hx=> ?_⟩;have hj:=(ZX hx).1;have hc:cs[j]? =some (cs[j]' J0):=Zw _;have:=h2 j _ x hc hx;rw[hc];generalize cs[j]' J0=d at this;cases d<;>simp[D.toX?]at this
 rw[this]
section
variable {P:Program} {c:Ctx} {E:Env} {os:J7} {n:Nat} {φ:J4} {a:Act}
theorem ZQl{sz:Nat}(hf:Fr n E os φ a): ∀ {xs:List Operand} {ys:List IO} {rows:J6},xs.mapM Zb=some ys->ZEi φ sz ys=some (true,rows)->
  rows.length=xs.length/\(∀r∈rows,r.length=sz)/\(∀x∈xs,(a.eval x).cells.size=sz/\ ∀u∈(a.eval x).cells.toList,u.oneCell'=true)/\
   ∀(i:Nat) (r:J9) (x:Operand) (j:Nat) (y:X) (v:Value),rows[i]? =some r->xs[i]? =some x->r[j]? =some y->(a.eval x).cells[j]? =some v->VX E.w E.st y v
 | [],ys,rows,hm,h=>by
  simp at hm;subst hm;cases h;exact⟨rfl,λr hr=>TI,λx hx=>(by cases hx),λi r x j y v hr=>Hc⟩
 |x::xs,ys,rows,hm,h=>by
  simp only[ZAV,KL,YG,ZBA]at hm;obtain⟨y,hy,ys',hys,hm⟩:=hm;cases hm;simp only[ZEi,YG]at h;obtain⟨cs,hcs,r,hr,h⟩:=h;split at h
  .rename_i hlen;obtain⟨⟨b,rs⟩,h2,h3⟩:=Zc h;simp at h3;obtain⟨⟨hc,rfl⟩,rfl⟩:=h3;obtain⟨q1,q2,q3⟩:=((V.op hf hy).strip hc).cells hcs;obtain⟨m1,m2⟩:=Zcb hr;obtain⟨k3,k4,k5,k6⟩:=ZQl hf hys h2;refine⟨by simp[k3],λr' hr'=> ?_,λz hz=> ?_,λi r' z j w v hr' hz hw hv=> ?_⟩
   .rcases Jf.1 hr' with rfl|hr'
    .exact hlen
    .exact k4 r' hr'
   .rcases Jf.1 hz with rfl|hz
    .exact⟨J0,q2⟩
    .exact k5 z hz
   .cases i with
    |zero=>
     simp at hr' hz;subst hr';subst hz;exact(q3 j _ v (m2 j w hw) hv).xx
    |succ i=>exact k6 i r' z j w v (by simpa using hr') (by simpa using hz) hw hv
  .cases h
theorem ZNd{ops:Array Oper}{o:Oper}{j s:Nat}{want:Bool}(hg:o.guard=some (j,want))(hs:(ops[j]?).bind (·.dst)=some s)(hf:Fr n E os φ a)(hm:QP φ s want=true):Region.wanted o (yielded ops a.tmps)=true:=by
 have hwd:Region.wanted o (yielded ops a.tmps)=(yielded ops a.tmps j==some want):=Ny
 rw[hwd];unfold QP at hm;split at hm
 .rename_i b hb;rw[ZGg hs hf hb want];exact hm
 .cases hm
theorem ZU3(R:Rel c E os)(hf:Fr n E os φ a){o:Oper}{e:IE}(he:Kf P o.op=some e){id:Nat}(hd:os[id]? =some .dead){d:D}{ob:Ob}(h:QW φ id e=some (true,d,ob)){K:Act->World->Prop}{Q:Exit->Act->World->Prop}
  (hK: ∀v E',Rel c E' (os.set id ob)->Evo E os E' (os.set id ob)->V E' (os.set id ob) d v->K (a.put o.dst v) E'.w):
  o.wp P a E.w K Q:=by
 have fin:(∃v E',(execOp a.eval o).run P E.w= .ok (.value v) E'.w/\Rel c E' (os.set id ob)/\Evo E os E' (os.set id ob)/\V E' (os.set id ob) d v)->o.wp P a E.w K Q:=by
  rintro⟨v,E',h1,h2,h3,h4⟩;unfold Oper.wp;rw[h1];exact hK v E' h2 h3 h4
 generalize hop:o.op=op at he;cases e<;>simp only[QW]at h<;>(try cases h)
 case box x=>
  obtain⟨cs,hcs,h⟩:=Zc h;simp only[YP]at h;obtain⟨h1,rfl,rfl⟩:=h;refine fin ?_;cases op<;>simp only[Kf]at he<;>(try cases he)
  case box t y=>
   obtain⟨z,hz,he2⟩:=Zc he;clear he;split at he2
   .cases he2
   cases he2;obtain⟨q1,q2,q3⟩:=((V.op hf hz).strip h1).cells hcs;obtain⟨E',k1,k2,k3,k4⟩:=ZR4 R hd (a.eval y).cells t q1 q2 q3;exact⟨_,E',ZHQ (s:=Instr.box t (a.eval y)) (by unfold execOp;rw[hop]) (by rw[k1];simp[Instr.box,newVar,newRow]),k2,k3,k4⟩
  case alloc t=>
   simp only[YG,Kq]at he;obtain⟨i,hi,z,hz,he2⟩:=he;split at he2
   .cases he2
   cases he2;have hcs:(Kr z).cells? =some cs:=by
    have:(Kr z).val=Kr z:=TC
    rw[<-this];exact hcs
   obtain⟨q1,q2,q3⟩:=(V.const E os z).cells hcs;obtain⟨E',k1,k2,k3,k4⟩:=ZR4 R hd z.cells t q1 q2 q3;exact⟨_,E',ZHQ (s:=Instr.alloc t true (.tuple #[])) (by unfold execOp;rw[hop]) (by rw[k1];simp[Instr.alloc,zeroValue,ZEF hi,hz,newVar,newRow]),k2,k3,k4⟩
  case makeFunc fn first caps=>
   cases fn<;>simp only at he<;>(try cases he)
   split at he
   .exact Hn
   .cases he
  all_goals
   exfalso;have hna:NP (λe=>match e with| .box _=>true|_=>false) (some (.box x)):=by
    rw[<-he]
    repeat first|exact NP.none|exact NP.some rfl|(refine NP.bind (λ_=> ?_))|(refine NP.bind' (λ_=> ?_))|(refine NP.map (λ_=>rfl))|(unfold ZCP)|split
   exact absurd (hna _ rfl) J1
 case mkm dk ag=>
  refine fin ?_;cases op<;>simp only[Kf]at he<;>(try cases he)
  case makeMap t r=>
   split at he
   .rename_i key elem hT;obtain⟨dk',hdk,he⟩:=Zg he;obtain⟨ag',hag,he⟩:=Zc he;cases he;obtain⟨E',k1,k2,k3,k4⟩:=ZTp (dk:=dk) (ag:=ag) (l:= []) R hd #[] 0 (λE' os' _ hw=>YL.new E' os' E.w hw dk (ZEP hdk).2 ag);exact⟨_,E',ZHQ (s:=Instr.makeMap t none) (by unfold execOp;rw[hop];rfl) (by rw[k1];rfl),k2,k3,k4⟩
   .cases he
  case makeFunc fn first caps=>
   cases fn<;>simp only at he<;>(try cases he)
   split at he
   .exact Hn
   .cases he
  all_goals
   exfalso;have hna:NP (λe=>match e with| .mkm _ _=>true|_=>false) (some (.mkm dk ag)):=by
    rw[<-he]
    repeat first|exact NP.none|exact NP.some rfl|(refine NP.bind (λ_=> ?_))|(refine NP.bind' (λ_=> ?_))|(refine NP.map (λ_=>rfl))|(unfold ZCP)|split
   exact absurd (hna _ rfl) J1
 case bsl el sz m parts=>
  split at h
  .rename_i hm;obtain⟨⟨b,rows⟩,h1,h⟩:=Zc h;simp only[YP]at h;obtain⟨rfl,rfl,rfl⟩:=h;refine fin ?_;cases op<;>simp only[Kf]at he<;>(try cases he)
   case buildSlice t m' ps=>
    split at he
    .rename_i el' ht;obtain⟨i,hi,he⟩:=Zg he;obtain⟨z,hz,he⟩:=Zg he;split at he
     .rename_i hle;obtain⟨qs,hqs,he⟩:=Zc he;cases he;obtain⟨g1,g2⟩:=ZG7 hqs;obtain⟨k1,k2,k3,k4⟩:=ZQl hf g1 h1;have hpl:(ps.toList.map (·.2)).length=m:=by simp[hle.1]
      obtain⟨cs,q1,q2,q3⟩:=ZO9 (P:=P) ht hi hz ((ps.toList.map (·.2)).map a.eval) (by simpa using hpl) hle.2.1 (λv hv=>V6) E.w;have hrl:rows.length=m:=Wm
      have hrow:QM (E.w.alloc (.cells cs el)) false el i.size rows.length (.slice (some ⟨E.w.heap.size,0,none⟩) m m) cs.toList:=by
       refine⟨by rw[Qt,q3,hrl],.inr ⟨E.w.heap.size,m,cs,(0,0),by rw[hrl],heap_alloc_new _ _,J0,?_,q3,?_,.inl rfl⟩⟩
       .have:=hle.2.2;exact XR
       .rw[YR (by rw[Qt,q3,hrl];omega)]
      obtain⟨E',w1,w2,w3,w4⟩:=ZNC R hd (Kk _ _) hrow (λb hb=>Ux) k2 (λk r j x v hk hx hv=>by
       have hk':k<(ps.toList.map (·.2)).length:=by have:=(ZX hk).1;omega
       have hj:j<i.size:=N0
       have hxk:(ps.toList.map (·.2))[k]? =some ((ps.toList.map (·.2))[k]):=Zw hk';rw[q2,ZM7 ((ps.toList.map (·.2)).map a.eval) i.size (λv hv=>V6) k j (a.eval ((ps.toList.map (·.2))[k])) (by rw[YI,hxk];rfl) hj]at hv;exact k4 k r _ j x v hk hxk hx hv)
      rw[hrl]at w4;refine⟨_,E',ZHQ (s:=Instr.buildSlice t m (ps.map λ(i,x)=>(i,a.eval x))) (by unfold execOp;rw[hop]) ?_,w2,w3,w4⟩;have e1:(ps.map λ(p:Nat×Operand)=>(p.1,a.eval p.2))=((((ps.toList.map (·.2)).map a.eval).zipIdx 0).map λp=>(p.2,p.1)).toArray:=by
       apply ZD7.1;rw[ZS2];exact ZKn a.eval ps.toList 0 g2
      have e2:(ps.map λ(x:Nat×Operand)=>match x with|(i,x)=>(i,a.eval x))=(ps.map λ(p:Nat×Operand)=>(p.1,a.eval p.2)):=rfl;rw[e2,e1,w1];exact q1
     .cases he
    .cases he
   case makeFunc fn first caps=>
    cases fn<;>simp only at he<;>(try cases he)
    split at he
    .exact Hn
    .cases he
   all_goals
    exfalso;have hna:NP (λe=>match e with| .bsl _ _ _ _=>true|_=>false) (some (.bsl el sz m parts)):=by
     rw[<-he]
     repeat first|exact NP.none|exact NP.some rfl|(refine NP.bind (λ_=> ?_))|(refine NP.bind' (λ_=> ?_))|(refine NP.map (λ_=>rfl))|(unfold ZCP)|split
    exact absurd (hna _ rfl) J1
  .cases h
theorem ZiP(R:Rel c E os)(hf:Fr n E os φ a){ops:Array Oper}{o:Oper}{io:IOp}(hc:JG P n ops o=some io){id:Nat}(hd:os[id]? =some .dead){d:D}{ob:Ob}(h:evC φ id io=some (true,d,ob)){K:Act->World->Prop}{Q:Exit->Act->World->Prop}
  (hK: ∀v E',Rel c E' (os.set id ob)->Evo E os E' (os.set id ob)->V E' (os.set id ob) d v->K (a.put o.dst v) E'.w):
  if Region.wanted o (yielded ops a.tmps)then o.wp P a E.w K Q else K (a.put o.dst undef) E.w:=by
 simp only[JG,YG]at hc;obtain⟨e,he,hc⟩:=hc;split at hc
 .split at hc
  .rename_i hg;cases hc;simp only[Region.wanted,hg,if_true];exact ZU3 R hf he hd h hK
  .rename_i j want hg;obtain⟨s,hs,hc⟩:=Zc hc;cases hc;simp only[evC]at h;split at h
   .rename_i hm;rw[ZNd hg hs hf hm,if_pos rfl];exact ZU3 R hf he hd h hK
   .cases h
 .cases hc
def QB(S:Tabs)(φ:J4)(os:J7)(id:Nat)(o:IOp):Option (Bool×D×Ob):=
 match evC φ id o with
 |some r=>some r
 |none=>match o.g with
  |none=>ZFm S.k φ os id o.e
  |some (s,want)=>if QP φ s want=true then ZFm S.k φ os id o.e else none
theorem ZQi(S:Tabs){φ φ':J4}(os:J7)(id:Nat){o:IOp}(h: ∀t∈o.reads,Go.Ab.get φ t=Go.Ab.get φ' t):QB S φ os id o=QB S φ' os id o:=by
 unfold QB;rw[ZYI id h];have: ∀e,(∀t∈e.reads,Go.Ab.get φ t=Go.Ab.get φ' t)->ZFm S.k φ os id e=ZFm S.k φ' os id e:=by
  intro e he;cases e with
  |call f xs=>
   have h1:=ZR (x:=f) (λt ht=>he t W3);have h2: ∀y∈xs,ZG φ y=ZG φ' y:=λy hy=>ZR (λt ht=>he t T4)
   have h3:(xs.map λy=>(ZG φ y).val)=xs.map λy=>(ZG φ' y).val:=ZBz (λy hy=>by rw[h2 y hy])
   have h4:(xs.all λy=>(ZG φ y).cond)=xs.all λy=>(ZG φ' y).cond:=by
    have: ∀l:List IO,(∀y∈l,ZG φ y=ZG φ' y)->(l.all λy=>(ZG φ y).cond)=l.all λy=>(ZG φ' y).cond:=by
     intro l
     induction l with
     |nil=>intro _;rfl
     |cons y l ih=>exact TR
    exact this xs h2
   simp only[ZFm,h1,h3,h4]
  |_=>rfl
 obtain⟨dst,e,g⟩:=o;cases g with
 |some p=>
  have e1:=h p.1 HS;have e2:QP φ p.1 p.2=QP φ' p.1 p.2:=by unfold QP;rw[e1]
  simp only[this e (λt ht=>h t U7),e2]
 |none=>simp only[this e (λt ht=>h t U7)]
theorem ZYa{S:Tabs}(hS:SsOk P S){Y:J7}(R:Rel c E (os++Y))(hf:Fr n E (os++Y) φ a){ops:Array Oper}{o:Oper}{io:IOp}(hc:JG P n ops o=some io){id:Nat}(hd:(os++Y)[id]? =some .dead){d:D}{ob:Ob}(h:QB S φ os id io=some (true,d,ob)){K:Act->World->Prop}{Q:Exit->Act->World->Prop}
  (hK: ∀v E',Rel c E' ((os++Y).set id ob)->Evo E (os++Y) E' ((os++Y).set id ob)->V E' ((os++Y).set id ob) d v->K (a.put o.dst v) E'.w):
  if Region.wanted o (yielded ops a.tmps)then o.wp P a E.w K Q else K (a.put o.dst undef) E.w:=by
 unfold QB at h;split at h
 .rename_i r hr;cases h;exact ZiP R hf hc hd hr hK
 .split at h
  .rename_i hg;simp only[JG,YG]at hc;obtain⟨e,he,hc⟩:=hc;split at hc
   .split at hc
    .rename_i hgo;cases hc;simp only[Region.wanted,hgo,if_true];exact ZUA hS.k R hf he hd h hK
    .obtain⟨s,hs,hc⟩:=Zc hc;cases hc;cases hg
   .cases hc
  .rename_i hg;split at h
   .rename_i hm;simp only[JG,YG]at hc;obtain⟨e,he,hc⟩:=hc;split at hc
    .split at hc
     .rename_i hgo;cases hc;cases hg
     .rename_i hgo;obtain⟨s,hs,hc⟩:=Zc hc;cases hc;cases hg;rw[ZNd hgo hs hf hm,if_pos rfl];exact ZUA hS.k R hf he hd h hK
    .cases hc
   .cases h
def KO(S:Tabs)(φ:J4)(os:J7)(o:IOp):Option (Bool×D×J7):=
 match o.g with
 |none=>match ZT S.q φ os o.e with
  |some r=>some (r.1,r.2,os)
  |none=>QV S φ os o.e
 |some (s,want)=>match(Go.Ab.get φ s).val with
  | .x (.bool b)=>match ZT S.q φ os o.e with
   |some r=>some (!((Go.Ab.get φ s).cond&&(b==want))||r.1,.opt ((Go.Ab.get φ s).cond&&(b==want)) r.2,os)
   |none=>if(Go.Ab.get φ s).cond&&(b==want)then QV S φ os o.e else some (true,.opt false .und,os)
  |_=>if(Go.Ab.get φ s).cond then none else some (true,.opt false .und,os)
theorem ZKi{φ φ':J4}{sz:Nat}: ∀ {xs:List IO} {os:J7},(∀t∈xs.flatMap IO.reads,Go.Ab.get φ t=Go.Ab.get φ' t)->JZ φ sz os xs=JZ φ' sz os xs
 | [],os,h=>rfl
 |x::xs,os,h=>by
  have hx:ZG φ x=ZG φ' x:=ZR λt ht=>h t (by simp[ht])
  have ih: ∀os,JZ φ sz os xs=JZ φ' sz os xs:=λos=>ZKi λt ht=>h t TX
  simp only[JZ,hx,ih]
theorem ZKo{φ φ':J4}{sz:Nat}: ∀ {xs:List IO},(∀t∈xs.flatMap IO.reads,Go.Ab.get φ t=Go.Ab.get φ' t)->Ja φ sz xs=Ja φ' sz xs
 | [],h=>rfl
 |x::xs,h=>by
  have hx:ZG φ x=ZG φ' x:=ZR λt ht=>h t (by simp[ht])
  have ih:Ja φ sz xs=Ja φ' sz xs:=ZKo λt ht=>h t TX
  simp only[Ja,hx,ih]
theorem ZOc(S:Tabs){φ φ':J4}(os:J7){e:IE}(h: ∀t∈e.reads,Go.Ab.get φ t=Go.Ab.get φ' t):QV S φ os e=QV S φ' os e:=by
 unfold QV;have h1:ZHu S.t φ os e=ZHu S.t φ' os e:=by
  cases e with
  |call f xs=>
   have h1:=ZR (x:=f) (λt ht=>h t W3);have h2: ∀y∈xs,ZG φ y=ZG φ' y:=λy hy=>ZR (λt ht=>h t T4)
   have h3:(xs.map λy=>(ZG φ y).val)=xs.map λy=>(ZG φ' y).val:=ZBz (λy hy=>by rw[h2 y hy])
   have h4:(xs.all λy=>(ZG φ y).cond)=xs.all λy=>(ZG φ' y).cond:=by
    have: ∀l:List IO,(∀y∈l,ZG φ y=ZG φ' y)->(l.all λy=>(ZG φ y).cond)=l.all λy=>(ZG φ' y).cond:=by
     intro l
     induction l with
     |nil=>intro _;rfl
     |cons y l ih=>exact TR
    exact this xs h2
   simp only[ZHu,h1,h3,h4]
  |_=>rfl
 have h2:YF φ os e=YF φ' os e:=by
  cases e with
  |box x=>exact GS
  |sto n x y=>exact VB
  |bsl el sz n xs=>simp only[YF,ZKi (xs:=xs) h,ZKo (xs:=xs) h]
  |mks el sz b z x y=>exact VB
  |apz el sz b z x y=>exact VB
  |app el sz b x y=>exact VB
  |cpy sz x y=>exact VB
  |s2b el x=>exact GS
  |abx el x=>exact GS
  |mkm dk ag=>rfl
  |mup dk x k v=>exact GM
  |mdl dk x k=>exact Hi
  |men dk z x k=>exact Hi
  |est x k v=>exact GM
  |mcl x=>exact GS
  |rgm x=>exact GS
  |rgs x=>exact GS
  |asl n x hi=>
   cases hi with
   |none=>simp only[YF,ZR (x:=x) (λt ht=>h t W3)]
   |some y=>simp only[YF,ZR (x:=x) (λt ht=>h t W3),ZR (x:=y) (λt ht=>h t (by simp[IE.reads,ZF7,ht]))]
  |_=>rfl
 rw[h1,h2]
theorem ZZR(S:Tabs){φ φ':J4}(os:J7){o:IOp}(h: ∀t∈o.reads,Go.Ab.get φ t=Go.Ab.get φ' t):KO S φ os o=KO S φ' os o:=by
 obtain⟨dst,e,g⟩:=o;cases g with
 |none=>
  have h1:=ZJu S.q os (e:=e) (φ:=φ) (φ':=φ') (λt ht=>h t U7);have h2:=ZOc S os (e:=e) (φ:=φ) (φ':=φ') (λt ht=>h t U7);simp only[KO,h1,h2]
 |some p=>
  obtain⟨s,want⟩:=p;have hs:Go.Ab.get φ s=Go.Ab.get φ' s:=h s HS;have h1:=ZJu S.q os (e:=e) (φ:=φ) (φ':=φ') (λt ht=>h t U7);have h2:=ZOc S os (e:=e) (φ:=φ) (φ':=φ') (λt ht=>h t U7);simp only[KO,hs,h1,h2]
theorem Zgs{S:Tabs}(hS:SsOk P S)(R:Rel c E os)(hf:Fr n E os φ a){ops:Array Oper}{o:Oper}{io:IOp}(hc:JG P n ops o=some io){d:D}{os':J7}(h:KO S φ os io=some (true,d,os')){K:Act->World->Prop}{Q:Exit->Act->World->Prop}
  (hK: ∀v E',Rel c E' os'->Evo E os E' os'->V E' os' d v->K (a.put o.dst v) E'.w):
  if Region.wanted o (yielded ops a.tmps)then o.wp P a E.w K Q else K (a.put o.dst undef) E.w:=by
 simp only[JG,YG]at hc;obtain⟨e,he,hc⟩:=hc;split at hc
 .rename_i hdst;split at hc
  .rename_i hg;cases hc;simp only[KO]at h;simp only[Region.wanted,hg,if_true];split at h
   .rename_i r hr;obtain⟨ok,d'⟩:=r;simp at h;obtain⟨rfl,rfl,rfl⟩:=h;exact ZGw hS.q R hf he hr hK
   .exact ZNg hS R hf he h hK
  .rename_i j want hg;obtain⟨s,hs,hc⟩:=Zc hc;cases hc;simp only[KO]at h;have hwd:Region.wanted o (yielded ops a.tmps)=(yielded ops a.tmps j==some want):=Ny
   rw[hwd];have un: ∀d0:D,d= .opt false d0->os'=os->K (a.put o.dst undef) E.w:=by
    rintro d0 rfl rfl;exact TT
   split at h
   .rename_i b hb;rw[ZGg hs hf hb want];split at h
    .rename_i r hr;obtain⟨ok,d'⟩:=r;simp only[Yu,YP]at h;obtain⟨h1,rfl,rfl⟩:=h;cases hw:((Go.Ab.get φ s).cond&&(b==want))with
     |false=>
      rw[hw]at hK;simp only[Je,if_false];exact hK undef E R (Evo.refl _ _) (.opt (λh=>W6) (λ_=>rfl))
     |true=>
      rw[hw]at hK h1;simp at h1;subst h1;simp only[if_true];exact ZGw hS.q R hf he hr (λv E' R' ev hv=>hK v E' R' ev (.opt (λ_=>hv) (λh=>W6)))
    .split at h
     .rename_i hw;rw[if_pos hw];exact ZNg hS R hf he h hK
     .exact G5
   .split at h
    .cases h
    .exact UQ
 .cases hc
end
abbrev Rec:=Option Nat×D×Option Ob
def IE.frame:IE->Bool
 | .mv _=>true
 | .nck _=>true
 | .pick _ _ _=>true
 | .bin _ _ _=>true
 | .eq .bool _ _ _=>true
 | .eq .ptr _ _ _=>true
 | .eq (.st _) _ _ _=>true
 | .un _ _=>true
 | .cvi _ _=>true
 | .fld _ _ _ _=>true
 | .fad _ _=>true
 | .idx _ _=>true
 | .idxa _ _ _ _ _=>true
 | .build _ _=>true
 | .ext _ _=>true
 | .mnx _ _ _=>true
 | .mkf _ _=>true
 | .len st _=>st
 | .slc n _ _ _ _=>Nat.beq n 0
 |_=>false
mutual
def X.beq:X->X->Bool
 | .int k n,.int k' m=>decide (k=k')&&decide (n=m)
 | .bool a,.bool b=>a==b
 | .str s,.str t=>decide (s=t)
 | .nilp,.nilp=>true
 | .nils,.nils=>true
 | .sl a,.sl b=>X.beqR a b
 |_,_=>false
def X.beqR:J6->J6->Bool
 | [],[]=>true
 |r::l,r'::l'=>X.beqL r r'&&X.beqR l l'
 |_,_=>false
def X.beqL:J9->J9->Bool
 | [],[]=>true
 |x::l,y::l'=>X.beq x y&&X.beqL l l'
 |_,_=>false
end
mutual
theorem X.beq_eq: ∀ {x y:X},X.beq x y=true->x=y
 | .int k n,y,h=>by cases y<;>simp[X.beq]at h;rw[h.1,h.2]
 | .bool a,y,h=>by cases y<;>simp[X.beq]at h;rw[h]
 | .str s,y,h=>by cases y<;>simp[X.beq]at h;rw[h]
 | .nilp,y,h=>by cases y<;>simp[X.beq]at h;rfl
 | .nils,y,h=>by cases y<;>simp[X.beq]at h;rfl
 | .sl a,y,h=>by cases y<;>simp[X.beq]at h;rw[X.beqR_eq h]
theorem X.beqR_eq: ∀ {a b:J6},X.beqR a b=true->a=b
 | [],b,h=>by cases b<;>simp[X.beqR]at h;rfl
 |r::l,b,h=>by cases b<;>simp[X.beqR]at h;rw[X.beqL_eq h.1,X.beqR_eq h.2]
theorem X.beqL_eq: ∀ {a b:J9},X.beqL a b=true->a=b
 | [],b,h=>by cases b<;>simp[X.beqL]at h;rfl
 |x::l,b,h=>by cases b<;>simp[X.beqL]at h;rw[X.beq_eq h.1,X.beqL_eq h.2]
end
mutual
def D.beq:D->D->Bool
 | .x a,.x b=>X.beq a b
 | .ref a b c d,.ref a' b' c' d'=>Nat.beq a a'&&(Nat.beq b b'&&(Nat.beq c c'&&Nat.beq d d'))
 | .ptr a b,.ptr a' b'=>Nat.beq a a'&&Nat.beq b b'
 | .eptr a b c d,.eptr a' b' c' d'=>Nat.beq a a'&&(Nat.beq b b'&&(Nat.beq c c'&&Nat.beq d d'))
 | .vptr a,.vptr b=>X.beqL a b
 | .mref a,.mref b=>Nat.beq a b
 | .mnil,.mnil=>true
 | .iref a b,.iref a' b'=>Nat.beq a a'&&Nat.beq b b'
 | .stk a b,.stk a' b'=>Nat.beq a a'&&Nat.beq b b'
 | .bref a b c,.bref a' b' c'=>Nat.beq a a'&&(Nat.beq b b'&&Nat.beq c c')
 | .agg a,.agg b=>D.beqL a b
 | .tup a,.tup b=>D.beqL a b
 | .full a,.full b=>X.beqR a b
 | .nz a,.nz b=>X.beqR a b
 | .fn f a,.fn g b=>decide (f=g)&&D.beqL a b
 | .opt a d,.opt b e=>(a==b)&&D.beq d e
 | .und,.und=>true
 |_,_=>false
def D.beqL:J8->J8->Bool
 | [],[]=>true
 |d::l,e::l'=>D.beq d e&&D.beqL l l'
 |_,_=>false
end
mutual
theorem D.beq_eq: ∀ {x y:D},D.beq x y=true->x=y
 | .x a,y,h=>by cases y<;>simp[D.beq]at h;rw[X.beq_eq h]
 | .ref a b c d,y,h=>Xv
 | .ptr a b,y,h=>Nc
 | .eptr a b c d,y,h=>Xv
 | .vptr a,y,h=>by cases y<;>simp[D.beq]at h;rw[X.beqL_eq h]
 | .mref a,y,h=>by cases y<;>simp[D.beq]at h;rw[h]
 | .mnil,y,h=>by cases y<;>simp[D.beq]at h;rfl
 | .iref a b,y,h=>Nc
 | .stk a b,y,h=>Nc
 | .bref a b c,y,h=>by cases y<;>simp[D.beq]at h;rw[h.1,h.2.1,h.2.2]
 | .agg a,y,h=>by cases y<;>simp[D.beq]at h;rw[D.beqL_eq h]
 | .tup a,y,h=>by cases y<;>simp[D.beq]at h;rw[D.beqL_eq h]
 | .full a,y,h=>by cases y<;>simp[D.beq]at h;rw[X.beqR_eq h]
 | .nz a,y,h=>by cases y<;>simp[D.beq]at h;rw[X.beqR_eq h]
 | .fn f a,y,h=>by cases y<;>simp[D.beq]at h;rw[h.1,D.beqL_eq h.2]
 | .opt a d,y,h=>by cases y<;>simp[D.beq]at h;rw[h.1,D.beq_eq h.2]
 | .und,y,h=>by cases y<;>simp[D.beq]at h;rfl
theorem D.beqL_eq: ∀ {a b:J8},D.beqL a b=true->a=b
 | [],b,h=>by cases b<;>simp[D.beqL]at h;rfl
 |d::l,b,h=>by cases b<;>simp[D.beqL]at h;rw[D.beq_eq h.1,D.beqL_eq h.2]
end
def beqR:List J8->List J8->Bool
 | [],[]=>true
 |r::l,r'::l'=>D.beqL r r'&&beqR l l'
 |_,_=>false
theorem beqR_eq: ∀ {a b:List J8},beqR a b=true->a=b
 | [],b,h=>by cases b<;>simp[beqR]at h;rfl
 |r::l,b,h=>by
  cases b<;>simp[beqR]at h
  rw[beqR_eq h.2,D.beqL_eq h.1]
def ZPv(p q:Pr):Bool:=X.beqL p.1 q.1&&D.beqL p.2 q.2
def ZHG:W2->W2->Bool
 | [],[]=>true
 |p::l,q::l'=>ZPv p q&&ZHG l l'
 |_,_=>false
theorem ZVl{p q:Pr}(h:ZPv p q=true):p=q:=by
 simp only[ZPv,Zj]at h;exact ZCQ (X.beqL_eq h.1) (D.beqL_eq h.2)
theorem ZGn: ∀ {a b:W2},ZHG a b=true->a=b
 | [],b,h=>by cases b<;>simp[ZHG]at h;rfl
 |p::l,b,h=>by
  cases b<;>simp[ZHG]at h
  rw[ZGn h.2,ZVl h.1]
def ZbK:Option Pr->Option Pr->Bool
 |none,none=>true
 |some p,some q=>ZPv p q
 |_,_=>false
theorem Zfv: ∀ {a b:Option Pr},ZbK a b=true->a=b
 |none,none,_=>rfl
 |some p,some q,h=>by rw[ZVl h]
 |none,some _,h=>W6
 |some _,none,h=>W6
def ZI7:List W2->List W2->Bool
 | [],[]=>true
 |p::l,q::l'=>ZHG p q&&ZI7 l l'
 |_,_=>false
theorem ZSA: ∀ {a b:List W2},ZI7 a b=true->a=b
 | [],b,h=>by cases b<;>simp[ZI7]at h;rfl
 |p::l,b,h=>by
  cases b<;>simp[ZI7]at h
  rw[ZSA h.2,ZGn h.1]
def ZMe:List (X×J6)->List (X×J6)->Bool
 | [],[]=>true
 |p::l,q::l'=>X.beq p.1 q.1&&(X.beqR p.2 q.2&&ZMe l l')
 |_,_=>false
theorem ZWG: ∀ {a b:List (X×J6)},ZMe a b=true->a=b
 | [],b,h=>by cases b<;>simp[ZMe]at h;rfl
 |p::l,b,h=>by
  cases b<;>simp[ZMe]at h
  rw[ZWG h.2.2,ZCQ (X.beq_eq h.1) (X.beqR_eq h.2.1)]
def Ob.beq:Ob->Ob->Bool
 | .mpo dk ag l,.mpo dk' ag' l'=>decide (dk=dk')&&((ag==ag')&&ZHG l l')
 | .mit dk ag l it R cur,.mit dk' ag' l' it' R' cur'=>decide (dk=dk')&&((ag==ag')&&(ZHG l l'&&(Nat.beq it it'&&(ZHG R R'&&ZbK cur cur'))))
 | .mpn dk ag l key sid,.mpn dk' ag' l' key' sid'=>decide (dk=dk')&&((ag==ag')&&(ZHG l l'&&(X.beqL key key'&&Nat.beq sid sid')))
 | .itr,.itr=>true
 | .stp,.stp=>true
 | .nit,.nit=>true
 | .sit s p,.sit s' p'=>(s==s')&&Nat.beq p p'
 | .box a,.box b=>D.beqL a b
 | .rows f e s rs,.rows f' e' s' rs'=>(f==f')&&(Nat.beq e e'&&(Nat.beq s s'&&X.beqR rs rs'))
 | .drw e s rs,.drw e' s' rs'=>Nat.beq e e'&&(Nat.beq s s'&&beqR rs rs')
 | .frz s rs,.frz s' rs'=>Nat.beq s s'&&X.beqR rs rs'
 | .old s n,.old s' n'=>Nat.beq s s'&&Nat.beq n n'
 | .fam k P B,.fam k' P' B'=>Nat.beq k k'&&(ZI7 P P'&&ZMe B B')
 | .dead,.dead=>true
 |_,_=>false
theorem Ob.beq_eq{x y:Ob}(h:Ob.beq x y=true):x=y:=by
 cases x<;>cases y<;>simp[Ob.beq]at h
 .rw[D.beqL_eq h]
 .rw[h.1,h.2.1,h.2.2.1,X.beqR_eq h.2.2.2]
 .rw[h.1,h.2.1,beqR_eq h.2.2]
 .rw[h.1,X.beqR_eq h.2]
 .rw[h.1,h.2.1,ZGn h.2.2]
 .rw[h.1,h.2.1,ZGn h.2.2.1,h.2.2.2.1,ZGn h.2.2.2.2.1,Zfv h.2.2.2.2.2]
 .rw[h.1,h.2.1,ZGn h.2.2.1,X.beqL_eq h.2.2.2.1,h.2.2.2.2]
 .rfl
 .rfl
 .rw[h.1,h.2]
 .rfl
 .rw[h.1,h.2]
 .rw[h.1,ZSA h.2.1,ZWG h.2.2]
 .rfl
def KW:J7->J7->Bool
 | [],_=>true
 |x::l,y::l'=>Ob.beq x y&&KW l l'
 |_,_=>false
theorem ZIz: ∀ {a b:J7},KW a b=true-> ∃X,b=a++X
 | [],b,_=>⟨b,rfl⟩
 |x::l,b,h=>by
  cases b with
  |nil=>cases h
  |cons y l'=>
   simp only[KW,Zj]at h;obtain⟨X,rfl⟩:=ZIz h.2;exact⟨X,by rw[Ob.beq_eq h.1];rfl⟩
def Zh(t:Nat):W0->Bool
 | []=>false
 |u::l=>Nat.beq t u||Zh t l
def IOp.ex(rs:W0)(i:Nat)(o:IOp):Bool:=o.e.frame||Zh i rs
def ZFk(φ:J4)(os:J7)(o:IOp):J5:=match o.g,o.e with
 |none,.b2s (.t u)=>match Go.Ab.get φ u with
  | .ref id ext off len=>(Zx os (.ref id ext off len)).map λrs=>(rs.all ZGE,.x (.str (rs.map ZFS)))
  |_=>none
 |_,_=>none
def Ku(S:Tabs)(os0:J7)(k:Nat)(rs:W0):Nat->J4->Nat->J7->List IOp->Option (Bool×List Rec×List (Option J7))
 |_,_,_,_,[]=>some (true,[],[])
 |i,φ,id,os,o::l=>
  if o.e.frame then(Ye S φ [] o).bind λr=>(Ku S os0 k rs (i+1) (putO φ o.dst r.2) id os l).map λq=>(r.1&&q.1,(o.dst,r.2,none)::q.2.1,none::q.2.2)
  else if Zh i rs then(Ye S φ os0 o).bind λr=>(Ku S os0 k rs (i+1) (putO φ o.dst r.2) id os l).map λq=>(r.1&&q.1,(o.dst,r.2,none)::q.2.1,none::q.2.2)
  else if i<k then match Ye S φ os0 o with
   |some r=>(Ku S os0 k rs (i+1) (putO φ o.dst r.2) id os l).map λq=>(r.1&&q.1,(o.dst,r.2,none)::q.2.1,none::q.2.2)
   |none=>match ZFk φ os o with
    |some r=>(Ku S os0 k rs (i+1) (putO φ o.dst r.2) id os l).map λq=>(r.1&&q.1,(o.dst,r.2,none)::q.2.1,none::q.2.2)
    |none=>(QB S φ os0 id o).bind λr=>(Ku S os0 k rs (i+1) (putO φ o.dst r.2.1) (id+1) (os++ [r.2.2]) l).map λq=>(r.1&&q.1,(o.dst,r.2.1,some r.2.2)::q.2.1,none::q.2.2)
  else(KO S φ os o).bind λr=>(Ku S os0 k rs (i+1) (putO φ o.dst r.2.1) id r.2.2 l).map λq=>(r.1&&q.1,(o.dst,r.2.1,none)::q.2.1,some r.2.2::q.2.2)
def Yb:J4->List Rec->J4
 |φ,[]=>φ
 |φ,r::l=>Yb (putO φ r.1 r.2.1) l
def Yd:List Rec->J7
 | []=> []
 |(_,_,none)::l=>Yd l
 |(_,_,some ob)::l=>ob::Yd l
def Zs:List (Option J7)->(Nat->Bool)->Nat->J7->J7
 | [],_,_,b=>b
 |none::l,dn,i,b=>Zs l dn (i+1) b
 |some x::l,dn,i,b=>Zs l dn (i+1) (if dn i=true then x else b)
def ZSK(os:J7):List (Option J7)->Bool
 | []=>true
 |none::l=>ZSK os l
 |some x::l=>KW os x&&ZSK os l
def ZMy(rs:W0)(os:J7)(G:List (Option J7)):Bool:=match rs with
 | []=>true
 |_=>ZSK os G
theorem ZK1{os:J7}: ∀ {G:List (Option J7)},ZSK os G=true-> ∀(j:Nat) (x:J7),G[j]? =some (some x)-> ∃Y,x=os++Y
 | [],_,j,x,h=>WE
 |none::l,hb,j,x,h=>by
  cases j with
  |zero=>simp at h
  |succ j=>exact ZK1 (G:=l) hb j x WM
 |some y::l,hb,j,x,h=>by
  simp only[ZSK,Zj]at hb;cases j with
  |zero=>simp at h;subst h;exact ZIz hb.1
  |succ j=>exact ZK1 hb.2 j x WM
theorem ZJY{os:J7}: ∀ {G:List (Option J7)} (dn:Nat->Bool) (i:Nat) (b:J7),(∀(j:Nat) (x:J7),G[j]? =some (some x)-> ∃Y,x=os++Y)->(∃Y,b=os++Y)-> ∃Y,Zs G dn i b=os++Y
 | [],_,_,b,_,h=>h
 |none::l,dn,i,b,hG,h=>by simp only[Zs];exact ZJY dn (i+1) b (λj x hj=>hG (j+1) x WZ) h
 |some y::l,dn,i,b,hG,h=>by
  simp only[Zs];refine ZJY dn (i+1) _ (λj x hj=>hG (j+1) x WZ) ?_;split
  .exact hG 0 y rfl
  .exact h
theorem ZAt: ∀(F:List (Option J7)) (dn dn':Nat->Bool) (i:Nat) (b:J7),(∀j x,F[j]? =some (some x)->dn (i+j)=dn' (i+j))->Zs F dn i b=Zs F dn' i b
 | [],_,_,_,_,_=>rfl
 |none::l,dn,dn',i,b,h=>by
  simp only[Zs];exact ZAt l dn dn' (i+1) b (λj x hj=>VZ)
 |some y::l,dn,dn',i,b,h=>by
  simp only[Zs];have h0:=h 0 y rfl;rw[KB]at h0;rw[h0];exact ZAt l dn dn' (i+1) _ (λj x hj=>VZ)
theorem ZBT: ∀(F:List (Option J7)) (dn:Nat->Bool) (i:Nat) (b:J7),(∀j x,F[j]? =some (some x)->dn (i+j)=false)->Zs F dn i b=b
 | [],_,_,_,_=>rfl
 |none::l,dn,i,b,h=>by
  simp only[Zs];exact ZBT l dn (i+1) b (λj x hj=>VZ)
 |some y::l,dn,i,b,h=>by
  have h0:=h 0 y rfl;rw[KB]at h0;simp only[Zs,h0,Je,if_false];exact ZBT l dn (i+1) b (λj x hj=>VZ)
theorem ZJE: ∀(F:List (Option J7)) (dn:Nat->Bool) (i:Nat) (b:J7) (m:Nat) (s:J7),F[m]? =some (some s)->dn (i+m)=true->(∀j x,m<j->F[j]? =some (some x)->dn (i+j)=false)->Zs F dn i b=s
 | [],_,_,_,m,s,h,_,_=>WE
 |none::l,dn,i,b,0,s,h,_,_=>WE
 |none::l,dn,i,b,m+1,s,h,hd,hn=>by
  simp only[Zs];exact ZJE l dn (i+1) b m s WM GF (λj x hj hx=>X7)
 |some y::l,dn,i,b,0,s,h,hd,hn=>by
  simp at h;subst h;rw[KB]at hd;simp only[Zs,hd,if_true];exact ZBT l dn (i+1) y (λj x hj=>by rw[show i+1+j=i+(j+1) by omega];exact hn (j+1) x J0 WZ)
 |some y::l,dn,i,b,m+1,s,h,hd,hn=>by
  simp only[Zs];exact ZJE l dn (i+1) _ m s WM GF (λj x hj hx=>X7)
def look:List Rec->(Nat->Bool)->Nat->D->Nat->D
 | [],_,_,b,_=>b
 |r::l,dn,i,b,t=>look l dn (i+1) (if r.1=some t/\dn i=true then r.2.1 else b) t
def Jm:List Rec->(Nat->Bool)->Nat->J7
 | [],_,_=> []
 |(_,_,none)::l,dn,i=>Jm l dn (i+1)
 |(_,_,some ob)::l,dn,i=>(if dn i=true then ob else .dead)::Jm l dn (i+1)
theorem ZDb: ∀(F:List Rec) (dn dn':Nat->Bool) (i:Nat) (b:D) (t:Nat),(∀j d o,F[j]? =some (some t,d,o)->dn (i+j)=dn' (i+j))->look F dn i b t=look F dn' i b t
 | [],_,_,_,_,_,_=>rfl
 |(dst,d,o)::l,dn,dn',i,b,t,h=>by
  simp only[look];have e:(if dst=some t/\dn i=true then d else b)=(if dst=some t/\dn' i=true then d else b):=by
   by_cases hd:dst=some t
   .subst hd;have:=h 0 d o rfl;rw[KB]at this;rw[this]
   .simp[hd]
  rw[e];exact ZDb l dn dn' (i+1) _ t (λj d' o' hj=>N8)
theorem ZHv: ∀(F:List Rec) (dn:Nat->Bool) (i:Nat) (b:D) (t:Nat),(∀j d o,F[j]? =some (some t,d,o)->dn (i+j)=false)->look F dn i b t=b
 | [],_,_,_,_,_=>rfl
 |(dst,d,o)::l,dn,i,b,t,h=>by
  simp only[look];have e:(if dst=some t/\dn i=true then d else b)=b:=by
   by_cases hd:dst=some t
   .subst hd;have:=h 0 d o rfl;rw[KB]at this;simp[this]
   .simp[hd]
  rw[e];exact ZHv l dn (i+1) b t (λj d' o' hj=>N8)
theorem ZRo: ∀(F:List Rec) (dn:Nat->Bool) (i:Nat) (b:D) (m:Nat) (dst:Option Nat) (d:D) (o:Option Ob) (t:Nat),F[m]? =some (dst,d,o)->(∀j u d' o',F[j]? =some (some u,d',o')->dst=some u->j=m)->
  look F (λj=>dn j||decide (j=i+m)) i b t=if dst=some t then d else look F dn i b t
 | [],_,_,_,m,_,_,_,_,h,_=>WE
 |(dst0,d0,o0)::l,dn,i,b,0,dst,d,o,t,h,hu=>by
  simp at h;obtain⟨rfl,rfl,rfl⟩:=h;simp only[look,KB];have hrest: ∀b,look l (λj=>dn j||decide (j=i)) (i+1) b t=look l dn (i+1) b t:=λb=>ZDb l _ _ _ _ _ (λj d' o' hj=>Wx)
  rw[hrest];by_cases hd:dst0=some t
  .subst hd;simp only[true_and,decide_true,ZEs,if_true];exact ZHv l dn (i+1) d0 t (λj d' o' hj=>by have:=hu (j+1) t d' o' WZ rfl;omega)
  .simp[hd]
 |(dst0,d0,o0)::l,dn,i,b,m+1,dst,d,o,t,h,hu=>by
  simp only[look];have ih:=λb=>ZRo l dn (i+1) b m dst d o t WM (λj u d' o' hj hd=>by have:=hu (j+1) u d' o' WZ hd;omega)
  have e: ∀b,look l (λj=>dn j||decide (j=i+(m+1))) (i+1) b t=look l (λj=>dn j||decide (j=i+1+m)) (i+1) b t:=λb=>ZDb l _ _ _ _ _ (λj d' o' hj=>NM)
  rw[e,ih];have e2:decide (i=i+(m+1))=false:=TG
  rw[e2,ZD5]
theorem ZEQ: ∀(F:List Rec) (dn dn':Nat->Bool) (i:Nat),(∀j r,F[j]? =some r->dn (i+j)=dn' (i+j))->Jm F dn i=Jm F dn' i
 | [],_,_,_,_=>rfl
 |(dst,d,none)::l,dn,dn',i,h=>by
  simp only[Jm];exact ZEQ l dn dn' (i+1) (λj r hj=>Ua)
 |(dst,d,some ob)::l,dn,dn',i,h=>by
  simp only[Jm];have h0:=h 0 _ rfl;rw[KB]at h0;rw[h0,ZEQ l dn dn' (i+1) (λj r hj=>Ua)]
theorem ZQN: ∀(F:List Rec) (dn:Nat->Bool) (i m:Nat) (dst:Option Nat) (d:D),F[m]? =some (dst,d,none)->Jm F (λj=>dn j||decide (j=i+m)) i=Jm F dn i
 | [],_,_,_,_,_,h=>WE
 |(dst0,d0,o0)::l,dn,i,0,dst,d,h=>by
  simp at h;obtain⟨rfl,rfl,rfl⟩:=h;simp only[Jm,KB];exact ZEQ l _ _ _ (λj r hj=>Wx)
 |(dst0,d0,o0)::l,dn,i,m+1,dst,d,h=>by
  have ih:=ZQN l dn (i+1) m dst d WM;have e:Jm l (λj=>dn j||decide (j=i+(m+1))) (i+1)=Jm l dn (i+1):=by
   rw[<-ih];exact ZEQ l _ _ _ (λj r hj=>NM)
  cases o0 with
  |none=>simp only[Jm];exact e
  |some ob=>
   have e2:decide (i=i+(m+1))=false:=TG
   simp only[Jm,e,e2,ZD5]
def Yy:List Rec->Nat->Nat
 |_,0=>0
 | [],_+1=>0
 |(_,_,none)::l,m+1=>Yy l m
 |(_,_,some _)::l,m+1=>Yy l m+1
theorem ZM4: ∀(F:List Rec) (dn:Nat->Bool) (i m:Nat) (dst:Option Nat) (d:D) (ob:Ob),F[m]? =some (dst,d,some ob)->dn (i+m)=false->(Jm F dn i)[Yy F m]? =some .dead/\Jm F (λj=>dn j||decide (j=i+m)) i=(Jm F dn i).set (Yy F m) ob
 | [],_,_,_,_,_,_,h,_=>WE
 |(dst0,d0,o0)::l,dn,i,0,dst,d,ob,h,hd=>by
  simp at h;obtain⟨rfl,rfl,rfl⟩:=h;rw[KB]at hd;simp only[Jm,KB,Yy,hd];refine⟨J1,?_⟩;have:Jm l (λj=>dn j||decide (j=i)) (i+1)=Jm l dn (i+1):=ZEQ l _ _ _ (λj r hj=>Wx);rw[this];simp
 |(dst0,d0,o0)::l,dn,i,m+1,dst,d,ob,h,hd=>by
  have hd':dn (i+1+m)=false:=GF
  obtain⟨k1,k2⟩:=ZM4 l dn (i+1) m dst d ob WM hd';have e:Jm l (λj=>dn j||decide (j=i+(m+1))) (i+1)=(Jm l dn (i+1)).set (Yy l m) ob:=by
   rw[<-k2];exact ZEQ l _ _ _ (λj r hj=>NM)
  cases o0 with
  |none=>simp only[Jm,Yy];exact⟨k1,e⟩
  |some ob0=>
   have e2:decide (i=i+(m+1))=false:=TG
   simp only[Jm,Yy,e,e2,ZD5];exact⟨Xj,J1⟩
theorem ZIN: ∀(F:List Rec) (dn:Nat->Bool) (i:Nat),(∀j r,F[j]? =some r->dn (i+j)=true)->Jm F dn i=Yd F
 | [],_,_,_=>rfl
 |(dst,d,none)::l,dn,i,h=>by
  simp only[Jm,Yd];exact ZIN l dn (i+1) (λj r hj=>Ua)
 |(dst,d,some ob)::l,dn,i,h=>by
  simp only[Jm,Yd];have h0:=h 0 _ rfl;rw[KB]at h0;rw[h0,ZIN l dn (i+1) (λj r hj=>Ua)];rfl
theorem ZMn: ∀(F:List Rec) (φ:J4) (m i:Nat) (t:Nat),Go.Ab.get (Yb φ (F.take m)) t=look F (λj=>decide (j<i+m)) i (Go.Ab.get φ t) t
 | [],φ,m,i,t=>by simp[Yb,look]
 |(dst,d,o)::l,φ,0,i,t=>by
  simp only[ZB0,Yb,KB];rw[ZHv _ _ _ _ _ (λj d' o' hj=>J1)]
 |(dst,d,o)::l,φ,m+1,i,t=>by
  simp only[Qm,Yb,look];rw[ZMn l _ m (i+1) t];have e1:Go.Ab.get (putO φ dst d) t=if dst=some t/\decide (i<i+(m+1))=true then d else Go.Ab.get φ t:=by
   cases dst with
   |none=>simp[putO]
   |some u=>
    simp only[putO,ZPE];simp
  rw[e1];exact ZDb l _ _ _ _ _ (λj d' o' hj=>by congr 1;simp;omega)
theorem ZAo: ∀(G:List (Option J7)) (i j:Nat) (b:J7),Zs G (λ_=>true) i b=Zs G (λ_=>true) j b
 | [],_,_,_=>rfl
 |none::l,i,j,b=>by simp only[Zs];exact ZAo l _ _ b
 |some x::l,i,j,b=>by simp only[Zs];exact ZAo l _ _ _
theorem ZHs{S:Tabs}{os0:J7}{k:Nat}{rs:W0}: ∀ {il:List IOp} {i:Nat} {φ:J4} {id:Nat} {os:J7} {b:Bool} {F:List Rec} {G:List (Option J7)},k<=i->Ku S os0 k rs i φ id os il=some (b,F,G)-> ∀q,Yd (F.take q)= []
 | [],i,φ,id,os,b,F,G,hk,h,q=>by simp[Ku]at h;obtain⟨_,rfl,_⟩:=h;simp[Yd]
 |o::l,i,φ,id,os,b,F,G,hk,h,q=>by
  simp only[Ku]at h;have hik: ¬(i<k):=Wm
  split at h
  .obtain⟨r,_,h⟩:=Zg h;obtain⟨⟨b',F',G'⟩,h1,h2⟩:=Zc h;simp only[YP]at h2;obtain⟨_,rfl,rfl⟩:=h2;cases q with
   |zero=>rfl
   |succ q=>simp only[Qm,Yd];exact ZHs J0 h1 q
  split at h
  .obtain⟨r,_,h⟩:=Zg h;obtain⟨⟨b',F',G'⟩,h1,h2⟩:=Zc h;simp only[YP]at h2;obtain⟨_,rfl,rfl⟩:=h2;cases q with
   |zero=>rfl
   |succ q=>simp only[Qm,Yd];exact ZHs J0 h1 q
  .try rw[if_neg hik]at h
   obtain⟨r,_,h⟩:=Zg h;obtain⟨⟨b',F',G'⟩,h1,h2⟩:=Zc h;simp only[YP]at h2;obtain⟨_,rfl,rfl⟩:=h2;cases q with
   |zero=>rfl
   |succ q=>simp only[Qm,Yd];exact ZHs J0 h1 q
inductive Step (S:Tabs) (os0:J7) (k:Nat) (rs:W0) (φ:J4) (id:Nat) (cur:J7) (i:Nat) (io:IOp):D->Option Ob->Option J7->Prop
 |frame {d:D} (hf:io.e.frame=true) (h:Ye S φ [] io=some (true,d)):Step S os0 k rs φ id cur i io d none none
 |look {d:D} (hf:Zh i rs=true) (h:Ye S φ os0 io=some (true,d)):Step S os0 k rs φ id cur i io d none none
 |read {d:D} (hf:io.ex rs i=false) (hk:i<k) (h:Ye S φ os0 io=some (true,d)):Step S os0 k rs φ id cur i io d none none
 |near {d:D} (hf:io.ex rs i=false) (hk:i<k) (h:ZFk φ cur io=some (true,d)):Step S os0 k rs φ id cur i io d none none
 |make {d:D} {x:Ob} (hf:io.ex rs i=false) (hk:i<k) (h:QB S φ os0 id io=some (true,d,x)):Step S os0 k rs φ id cur i io d (some x) none
 |turn {d:D} {s:J7} (hf:io.ex rs i=false) (hk:k<=i) (h:KO S φ cur io=some (true,d,s)):Step S os0 k rs φ id cur i io d none (some s)
theorem ZE9{S:Tabs}{os0:J7}{k:Nat}{rs:W0}: ∀ {il:List IOp} {i:Nat} {φ:J4} {id:Nat} {os:J7} {F:List Rec} {G:List (Option J7)},Ku S os0 k rs i φ id os il=some (true,F,G)->F.length=il.length/\G.length=il.length/\
  ∀q io,il[q]? =some io-> ∃d x s,F[q]? =some (io.dst,d,x)/\G[q]? =some s/\Step S os0 k rs (Yb φ (F.take q)) (id+Yy F q) (Zs (G.take q) (λ_=>true) 0 (os++Yd (F.take q))) (i+q) io d x s
 | [],i,φ,id,os,F,G,h=>by simp[Ku]at h;obtain⟨rfl,rfl⟩:=h;exact⟨rfl,rfl,λq io hi=>by simp at hi⟩
 |o::l,i,φ,id,os,F,G,h=>by
  simp only[Ku]at h;split at h
  .rename_i hf;obtain⟨⟨b0,d0⟩,hr,h⟩:=Zg h;obtain⟨⟨b,F',G'⟩,h1,h2⟩:=Zc h;simp at h2;obtain⟨⟨rfl,rfl⟩,rfl,rfl⟩:=h2;obtain⟨k1,k2,k3⟩:=ZE9 h1;refine⟨Hs,Xn,λq io hi=> ?_⟩;cases q with
   |zero=>simp at hi;subst hi;exact⟨d0,none,none,rfl,rfl,.frame hf hr⟩
   |succ q=>
    exact WL
  .rename_i hf0;split at h
   .rename_i hf;obtain⟨⟨b0,d0⟩,hr,h⟩:=Zg h;obtain⟨⟨b,F',G'⟩,h1,h2⟩:=Zc h;simp at h2;obtain⟨⟨rfl,rfl⟩,rfl,rfl⟩:=h2;obtain⟨k1,k2,k3⟩:=ZE9 h1;refine⟨Hs,Xn,λq io hi=> ?_⟩;cases q with
    |zero=>simp at hi;subst hi;exact⟨d0,none,none,rfl,rfl,.look hf hr⟩
    |succ q=>
     exact WL
   rename_i hf;have hf:o.ex rs i=false:=by simp only[IOp.ex,ZT6];exact⟨by simpa using hf0,by simpa using hf⟩
   split at h
   .rename_i hik;split at h
    .rename_i r hr;obtain⟨⟨b,F',G'⟩,h1,h2⟩:=Zc h;obtain⟨b0,d0⟩:=r;simp at h2;obtain⟨⟨rfl,rfl⟩,rfl,rfl⟩:=h2;obtain⟨k1,k2,k3⟩:=ZE9 h1;refine⟨Hs,Xn,λq io hi=> ?_⟩;cases q with
     |zero=>simp at hi;subst hi;exact⟨d0,none,none,rfl,rfl,.read hf hik hr⟩
     |succ q=>
      exact WL
    .split at h
     .rename_i r hr;obtain⟨⟨b,F',G'⟩,h1,h2⟩:=Zc h;obtain⟨b0,d0⟩:=r;simp at h2;obtain⟨⟨rfl,rfl⟩,rfl,rfl⟩:=h2;obtain⟨k1,k2,k3⟩:=ZE9 h1;refine⟨Hs,Xn,λq io hi=> ?_⟩;cases q with
      |zero=>simp at hi;subst hi;exact⟨d0,none,none,rfl,rfl,.near hf hik (by simpa[Yd,Zs,Yb]using hr)⟩
      |succ q=>
       exact WL
     .obtain⟨⟨b0,d0,x0⟩,hr,h⟩:=Zg h;obtain⟨⟨b,F',G'⟩,h1,h2⟩:=Zc h;simp at h2;obtain⟨⟨rfl,rfl⟩,rfl,rfl⟩:=h2;obtain⟨k1,k2,k3⟩:=ZE9 h1;refine⟨Hs,Xn,λq io hi=> ?_⟩;cases q with
      |zero=>simp at hi;subst hi;exact⟨d0,some x0,none,rfl,rfl,.make hf hik hr⟩
      |succ q=>
       obtain⟨d,x,s,w1,w2,w3⟩:=k3 q io Um;refine⟨d,x,s,by simpa using w1,by simpa using w2,?_⟩;simp only[Qm,Yb,Yy,Zs,Yd];rw[ZAo _ 1 0,show i+(q+1)=i+1+q by omega,show id+(Yy F' q+1)=id+1+Yy F' q by omega];rw[Ys]at w3;exact w3
   .rename_i hik;obtain⟨⟨b0,d0,s0⟩,hr,h⟩:=Zg h;obtain⟨⟨b,F',G'⟩,h1,h2⟩:=Zc h;simp at h2;obtain⟨⟨rfl,rfl⟩,rfl,rfl⟩:=h2;obtain⟨k1,k2,k3⟩:=ZE9 h1;refine⟨Hs,Xn,λq io hi=> ?_⟩;cases q with
    |zero=>simp at hi;subst hi;exact⟨d0,none,some s0,rfl,rfl,.turn hf J0 (by simpa[Yd,Zs,Yb]using hr)⟩
    |succ q=>
     obtain⟨d,x,s,w1,w2,w3⟩:=k3 q io Um;refine⟨d,x,s,by simpa using w1,by simpa using w2,?_⟩;rw[ZHs J0 h1 q,Kg]at w3;simp only[Qm,Yb,Yy,Zs,Yd,if_true];rw[ZAo _ 1 0,show i+(q+1)=i+1+q by omega];exact w3
def aft(o:Oper):W0:=(o.after.toList.filter (Region.binds .any)).map (·.on)
def ZLa(acc:W0):W0->Nat
 | []=>0
 |j::l=>(2^j|||acc.getD j 0)|||ZLa acc l
def below:W0->List Oper->W0
 |acc,[]=>acc
 |acc,o::l=>below (acc++ [ZLa acc (aft o)]) l
def ZRK:Nat->List Oper->Bool
 |_,[]=>true
 |i,o::l=>(aft o).all (λj=>Nat.blt j i)&&ZRK (i+1) l
def ZRS(t:Nat):List IOp->Bool
 | []=>true
 |y::l=>(match y.dst with|some u=> !(Nat.beq t u)|none=>true)&&ZRS t l
def ZWq:List IOp->Bool
 | []=>true
 |x::l=>(match x.dst with|some t=>ZRS t l|none=>true)&&ZWq l
def ZSZ(i:Nat)(rs af:W0):Nat->List (IOp×Oper)->Bool
 |_,[]=>true
 |j,(y,p)::l=>(match y.dst with|some u=> !(Zh u rs)||((Nat.blt j i&&Zh j af)||(Nat.blt i j&&Zh i (aft p)))|none=>true)&&ZSZ i rs af (j+1) l
def rdB(all:List (IOp×Oper)):Nat->List (IOp×Oper)->Bool
 |_,[]=>true
 |i,(x,o)::l=>ZSZ i x.reads (aft o) 0 all&&rdB all (i+1) l
def ZRV(k:Nat)(rs:W0)(L:Nat):Nat->Nat->W0->List IOp->Bool
 |i,m,c::l,o::il=>(o.ex rs i||(Nat.blt i k||(Nat.beq i L||Nat.beq (Nat.land c m) m)))&&ZRV k rs L (i+1) (if o.ex rs i then m else m|||2^i) l il
 |_,_,_,_=>true
def ZDO(ops:List Oper)(il:List IOp)(k:Nat)(rs:W0)(L:Nat):Bool:=
 ZRK 0 ops&&(ZWq il&&(rdB (il.zip ops) 0 (il.zip ops)&&ZRV k rs L 0 0 (below [] ops) il))
theorem ZA3{t:Nat}: ∀ {l:W0},Zh t l=true↔t∈l
 | []=>by simp[Zh]
 |u::l=>by simp[Zh,ZA3]
theorem ZNp: ∀ {l:List Oper} {i:Nat},ZRK i l=true-> ∀q o,l[q]? =some o-> ∀j∈aft o,j<i+q
 | [],_,_,q,o,h=>WE
 |p::l,i,hb,q,o,h=>by
  simp only[ZRK,Zj]at hb;intro j hj;cases q with
  |zero=>simp at h;subst h;have:=Yg.1 hb.1 j hj;simpa[ZMQ]using this
  |succ q=>have:=ZNp hb.2 q o WM j hj;omega
theorem ZIt{t:Nat}: ∀ {l:List IOp},ZRS t l=true-> ∀(j:Nat) (y:IOp),l[j]? =some y->y.dst≠some t
 | [],_,j,y,h=>WE
 |z::l,hb,j,y,h=>by
  simp only[ZRS,Zj]at hb;cases j with
  |zero=>
   simp at h;subst h;intro he;rw[he]at hb;simp at hb
  |succ j=>exact ZIt hb.2 j y WM
theorem ZQv: ∀ {l:List IOp},ZWq l=true-> ∀(i j:Nat) (x y:IOp) (t:Nat),l[i]? =some x->l[j]? =some y->x.dst=some t->y.dst=some t->i=j
 | [],_,i,j,x,y,t,h,_,_,_=>WE
 |z::l,hb,i,j,x,y,t,hi,hj,hx,hy=>by
  simp only[ZWq,Zj]at hb;cases i with
  |zero=>
   cases j with
   |zero=>rfl
   |succ j=>
    simp at hi;subst hi;rw[hx]at hb;exact absurd hy (ZIt hb.1 j y WZ)
  |succ i=>
   cases j with
   |zero=>
    simp at hj;subst hj;rw[hy]at hb;exact absurd hx (ZIt hb.1 i x Um)
   |succ j=>rw[ZQv hb.2 i j x y t Um WZ hx hy]
theorem ZP1{i:Nat}{rs af:W0}: ∀ {l:List (IOp×Oper)} {j:Nat},ZSZ i rs af j l=true-> ∀(q:Nat) (y:IOp) (p:Oper) (u:Nat),l[q]? =some (y,p)->y.dst=some u->u∈rs->(j+q<i/\j+q∈af)\/(i<j+q/\i∈aft p)
 | [],_,_,q,y,p,u,h,_,_=>WE
 |(z,r)::l,j,hb,q,y,p,u,h,hy,hu=>by
  simp only[ZSZ,Zj]at hb;cases q with
  |zero=>
   simp at h;obtain⟨rfl,rfl⟩:=h;rw[hy]at hb;simp only[ZBc,ZG8,Zj,ZMQ,ZA3]at hb;rcases hb.1 with h|h
   .have:=ZA3.2 hu;rw[h]at this;cases this
   .simpa using h
  |succ q=>
   have:=ZP1 hb.2 q y p u WM hy hu;rw[show j+(q+1)=j+1+q by omega];exact this
theorem ZRw{all:List (IOp×Oper)}: ∀ {l:List (IOp×Oper)} {i:Nat},rdB all i l=true-> ∀(q:Nat) (x:IOp) (o:Oper),l[q]? =some (x,o)->ZSZ (i+q) x.reads (aft o) 0 all=true
 | [],_,_,q,x,o,h=>WE
 |(z,r)::l,i,hb,q,x,o,h=>by
  simp only[rdB,Zj]at hb;cases q with
  |zero=>simp at h;obtain⟨rfl,rfl⟩:=h;exact hb.1
  |succ q=>have:=ZRw hb.2 q x o WM;rw[show i+(q+1)=i+1+q by omega];exact this
theorem ZUW{i L:Nat}(h:i≠L):Nat.beq i L=false:=by cases hb:Nat.beq i L with
 |false=>rfl
 |true=>exact absurd (ZNH hb) h
theorem ZOR{k:Nat}{rs:W0}{L:Nat}: ∀ {l:W0} {il:List IOp} {i m:Nat},ZRV k rs L i m l il=true-> ∀(q c:Nat) (o:IOp),l[q]? =some c->il[q]? =some o->o.ex rs (i+q)=false->k<=i+q->i+q≠L->
  (∀t,m.testBit t=true->c.testBit t=true)/\ ∀(j:Nat) (y:IOp),j<q->il[j]? =some y->y.ex rs (i+j)=false->c.testBit (i+j)=true
 | [],_,_,_,_,q,c,o,h,_,_,_,_=>WE
 |_::_,[],_,_,_,q,c,o,_,h,_,_,_=>WE
 |z::l,x::il,i,m,hb,q,c,o,h,ho,hf,hk,hL=>by
  simp only[ZRV,Zj]at hb;cases q with
  |zero=>
   simp at h ho;subst h;subst ho;have hik:Nat.blt i k=false:=by
    cases hb':Nat.blt i k with
    |false=>rfl
    |true=>rw[ZMQ]at hb';omega
   rw[KB]at hf hL;rw[hf,hik,ZUW hL]at hb;simp only[ZFN,Nat.beq_eq]at hb;refine⟨λt ht=> ?_,λj y hj=>J0⟩;have:(Nat.land z m).testBit t=true:=by rw[hb.1];exact ht
   have h2:(z&&&m).testBit t=true:=this;rw[Nat.testBit_and,Zj]at h2;exact h2.1
  |succ q=>
   obtain⟨h1,h2⟩:=ZOR hb.2 q c o WM Gy (by rw[show i+1+q=i+(q+1) by omega];exact hf) J0 J0;have hsub: ∀t,m.testBit t=true->c.testBit t=true:=λt ht=>h1 t (by
    split
    .exact ht
    .rw[Nat.testBit_or,ht];rfl)
   refine⟨hsub,λj y hj hy hyf=> ?_⟩;cases j with
   |zero=>
    simp at hy;subst hy;rw[KB]at hyf|-;refine h1 i ?_;rw[hyf];simp[Nat.testBit_or]
   |succ j=>
    have:=h2 j y J0 (by simpa using hy) (by rw[show i+1+j=i+(j+1) by omega];exact hyf);rw[show i+(j+1)=i+1+j by omega];exact this
theorem ZQg{acc:W0}{q:Nat}: ∀ {l:W0},(ZLa acc l).testBit q=true-> ∃j∈l,q=j\/(acc.getD j 0).testBit q=true
 | [],h=>by simp[ZLa]at h
 |j::l,h=>by
  simp only[ZLa,Nat.testBit_or,ZBc,Nat.testBit_two_pow,Yl]at h;rcases h with(h|h)|h
  .exact⟨j,J1,.inl h.symm⟩
  .exact⟨j,J1,.inr h⟩
  .obtain⟨j',h1,h2⟩:=ZQg h;exact⟨j',by simp[h1],h2⟩
def ZNX(ops:List Oper)(dn:Nat->Bool):Prop:= ∀(i:Nat) (o:Oper),ops[i]? =some o->dn i=true-> ∀j∈aft o,dn j=true
theorem ZQu: ∀(l pre:List Oper) (acc:W0),acc.length=pre.length->(∀(i:Nat) (c:Nat),acc[i]? =some c-> ∀dn:Nat->Bool,ZNX (pre++l) dn->((pre++l)[i]?).any (λo=>(aft o).all dn)=true-> ∀j,c.testBit j=true->dn j=true)->
  (∀(i:Nat) (o:Oper),(pre++l)[i]? =some o-> ∀j∈aft o,j<i)->
  (below acc l).length=(pre++l).length/\ ∀(i:Nat) (c:Nat),(below acc l)[i]? =some c-> ∀dn:Nat->Bool,ZNX (pre++l) dn->((pre++l)[i]?).any (λo=>(aft o).all dn)=true-> ∀j,c.testBit j=true->dn j=true
 | [],pre,acc,hl,h,_=>⟨by simpa[below]using hl,by simpa[below]using h⟩
 |o::l,pre,acc,hl,h,hb=>by
  have e:pre++o::l=(pre++ [o])++l:=TG
  have:=ZQu l (pre++ [o]) (acc++ [ZLa acc (aft o)]) (by simp[hl]) (by
   rw[<-e];intro i c hc dn hcl hd j hj;by_cases hi:i<acc.length
   .rw[Yk hi]at hc;exact h i c hc dn hcl hd j hj
   .have hlt:=(ZX hc).1;simp at hlt;have hi':i=acc.length:=Wm
    subst hi';rw[QI (Zr _)]at hc;simp at hc;subst hc;have ho:(pre++o::l)[acc.length]? =some o:=by rw[hl,QI (Zr _)];simp
    rw[ho]at hd;simp only[Option.any_some]at hd;have hall:=Yg.1 hd;obtain⟨m,hm,hj⟩:=ZQg hj;have hmd:=hall m hm;rcases hj with rfl|hj
    .exact hmd
    .have hml:=hb _ o ho m hm;have hma:acc[m]? =some (acc[m]'hml):=Zw hml;have hmo: ∃om,(pre++o::l)[m]? =some om:=⟨_,Zw Wx⟩;obtain⟨om,hom⟩:=hmo;simp only[List.getD,hma,ξY]at hj;refine h m _ hma dn hcl ?_ j hj;rw[hom];simp only[Option.any_some];exact Yg.2 (λq hq=>hcl m om hom hmd q hq)) (by rw[<-e];exact hb)
  rw[<-e]at this;exact this
open Go Go.RowKit Go.Bo
def ZCK(kp:W0)(φ:J4)(o:IOp):Bool:=match o.g,o.e with
 |none,.ld _ _ x=>(match(ZG φ x).val with| .ptr id _=> !Zh (id+1000) kp| .vptr _=>true| .eptr id _ _ _=>Zh id kp|_=>false)
 |_,_=>false
def Jd(kp:W0):Nat->J7->J7->Bool
 |_,[],_=>true
 |i,.box ds::l,y::l'=>(Zh (i+1000) kp||Ob.beq (.box ds) y)&&Jd kp (i+1) l l'
 |i,_::l,_::l'=>Jd kp (i+1) l l'
 |_,_::_,[]=>false
theorem ZKZ{kp:W0}: ∀ {a b:J7} {i:Nat},Jd kp i a b=true-> ∀(id:Nat) (ds:J8),Zh (i+id+1000) kp=false->a[id]? =some (.box ds)->b[id]? =some (.box ds)
 | [],b,_,_,id,ds,_,h=>WE
 |x::l,[],_,hb,id,ds,_,h=>by cases x<;>simp[Jd]at hb
 |x::l,y::l',i,hb,id,ds,hm,h=>by
  cases id with
  |zero=>
   simp only[ZC5,Yu]at h|-;subst h;simp only[Jd,Zj]at hb;rw[KB]at hm;rw[hm,ZFN]at hb;exact(Ob.beq_eq hb.1).symm
  |succ id=>
   simp only[ZBd]at h|-;have:Jd kp (i+1) l l'=true:=by
    cases x with
    |box d=>simp only[Jd,Zj]at hb;exact hb.2
    |_=>simpa only[Jd]using hb
   exact ZKZ this id ds (by rw[<-hm];congr 1;omega) h
def ZKT(a b:J7)(i:Nat):Bool:=match a[i]?,b[i]? with
 |none,_=>true
 |some x,some y=>Ob.beq x y
 |_,_=>false
theorem ZUj{a b:J7}{i:Nat}(h:ZKT a b i=true){o:Ob}(ho:a[i]? =some o):b[i]? =some o:=by
 unfold ZKT at h;rw[ho]at h;cases hb:b[i]? with
 |none=>rw[hb]at h;cases h
 |some y=>rw[hb]at h;rw[Ob.beq_eq h]
def ZHt:W0->J7->J7->Bool
 | [],_,_=>true
 |i::l,a,b=>ZKT a b i&&ZHt l a b
theorem ZOj{a b:J7}: ∀ {l:W0},ZHt l a b=true-> ∀i,Zh i l=true-> ∀o,a[i]? =some o->b[i]? =some o
 | [],_,i,hi,_,_=>by cases hi
 |j::l,h,i,hi,o,ho=>by
  simp only[ZHt,Zj]at h;simp only[Zh,ZBc]at hi;rcases hi with hi|hi
  .rw[ZNH hi]at ho|-;exact ZUj h.1 ho
  .exact ZOj h.2 i hi o ho
def QS(kp:W0)(a b:J7):Bool:=Jd kp 0 a b&&ZHt kp a b
theorem ZFj{kp:W0}{a b:J7}(h:QS kp a b=true):(∀(id:Nat) (ds:J8),Zh (id+1000) kp=false->a[id]? =some (.box ds)->b[id]? =some (.box ds))/\ ∀i,Zh i kp=true-> ∀o,a[i]? =some o->b[i]? =some o:=by
 simp only[QS,Zj]at h;exact⟨λid ds hm=>ZKZ h.1 id ds (by rw[Jk];exact hm),ZOj h.2⟩
def ZFf(kp:W0)(os:J7):List (Option J7)->Bool
 | []=>true
 |none::l=>ZFf kp os l
 |some x::l=>QS kp os x&&ZFf kp os l
theorem ZHV{kp:W0}{os:J7}: ∀ {G:List (Option J7)},ZFf kp os G=true-> ∀(j:Nat) (x:J7),G[j]? =some (some x)->QS kp os x=true
 | [],_,j,x,h=>WE
 |none::l,hb,j,x,h=>by
  cases j with
  |zero=>simp at h
  |succ j=>exact ZHV (G:=l) hb j x WM
 |some y::l,hb,j,x,h=>by
  simp only[ZFf,Zj]at hb;cases j with
  |zero=>simp at h;subst h;exact hb.1
  |succ j=>exact ZHV hb.2 j x WM
theorem ZFx{id:Nat}{o:Ob}: ∀ {G:List (Option J7)} (dn:Nat->Bool) (i:Nat) (b:J7),(∀(j:Nat) (x:J7),G[j]? =some (some x)->x[id]? =some o)->b[id]? =some o->(Zs G dn i b)[id]? =some o
 | [],_,_,b,_,h=>h
 |none::l,dn,i,b,hG,h=>by simp only[Zs];exact ZFx dn (i+1) b (λj x hj=>hG (j+1) x WZ) h
 |some y::l,dn,i,b,hG,h=>by
  simp only[Zs];refine ZFx dn (i+1) _ (λj x hj=>hG (j+1) x WZ) ?_;split
  .exact hG 0 y rfl
  .exact h
def bxR(kp:W0)(rs:W0):Nat->J4->List Rec->List IOp->Bool
 |i,φ,r::F,o::l=>(!Zh i rs||ZCK kp φ o)&&bxR kp rs (i+1) (putO φ r.1 r.2.1) F l
 |_,_,_,_=>true
theorem ZYQ{kp rs:W0}: ∀ {l:List IOp} {F:List Rec} {i:Nat} {φ:J4},bxR kp rs i φ F l=true-> ∀(q:Nat) (io:IOp),l[q]? =some io->q<F.length->Zh (i+q) rs=true->ZCK kp (Yb φ (F.take q)) io=true
 | [],F,i,φ,_,q,io,h,_,_=>WE
 |o::l,[],i,φ,_,q,io,_,h,_=>WE
 |o::l,r::F,i,φ,hb,q,io,h,hq,hm=>by
  simp only[bxR,Zj]at hb;cases q with
  |zero=>
   simp at h;subst h;have:=hb.1;rw[KB]at hm;simpa[hm,Yb]using this
  |succ q=>
   have:=ZYQ hb.2 q io WM Gx (by rw[show i+1+q=i+(q+1) by omega];exact hm);simpa[Yb]using this
theorem ZWL{kp:W0}{S:Tabs}{φ:J4}{os0 os1:J7}{o:IOp}{r:Bool×D}(hb:ZCK kp φ o=true)(h:Ye S φ os0 o=some r)(hx: ∀(id:Nat) (ds:J8),Zh (id+1000) kp=false->os0[id]? =some (.box ds)->os1[id]? =some (.box ds))(hx2: ∀i,Zh i kp=true-> ∀o,os0[i]? =some o->os1[i]? =some o):Ye S φ os1 o=some r:=by
 unfold ZCK at hb;split at hb
 .rename_i n ag x hg he;simp only[Ye,hg,he,KE]at h|-;split at hb
  .rename_i id off hv;have key:ZT S.q φ os0 (.ld n ag x)=ZT S.q φ os1 (.ld n ag x)\/ZT S.q φ os0 (.ld n ag x)=none:=by
    simp only[ZT,hv];cases h0:os0[id]? with
    |none=>exact .inr rfl
    |some ob=>
     cases ob with
     |box ds=>rw[hx id ds (by simpa using hb) h0];exact NK
     |_=>exact .inr rfl
   rcases key with key|key
   .rw[<-key];cases hq:ZT S.q φ os0 (.ld n ag x)with
    |some q=>rw[hq]at h;exact h
    |none=>rw[hq]at h;exact NI
   .rw[key]at h;exact NI
  .rename_i cs hv;have key:ZT S.q φ os0 (.ld n ag x)=ZT S.q φ os1 (.ld n ag x):=by simp only[ZT,hv]
   rw[<-key];cases hq:ZT S.q φ os0 (.ld n ag x)with
   |some q=>rw[hq]at h;exact h
   |none=>rw[hq]at h;exact NI
  .rename_i id e1 i1 o1 hv;have key:ZT S.q φ os0 (.ld n ag x)=ZT S.q φ os1 (.ld n ag x)\/ZT S.q φ os0 (.ld n ag x)=none:=by
    simp only[ZT,hv];cases h0:os0[id]? with
    |none=>exact .inr rfl
    |some ob=>rw[hx2 id hb ob h0];exact NK
   rcases key with key|key
   .rw[<-key];cases hq:ZT S.q φ os0 (.ld n ag x)with
    |some q=>rw[hq]at h;exact h
    |none=>rw[hq]at h;exact NI
   .rw[key]at h;exact NI
  .cases hb
 .cases hb
def ZNQ(m:Option W0)(rs:W0)(φ:J4)(os:J7)(l:List IOp)(F:List Rec)(G:List (Option J7)):Bool:=match m with
 |none=>ZMy rs os G
 |some kp=>bxR kp rs 0 φ F l&&ZFf kp os G
def ZHZ(m:Option W0)(S:Tabs)(φ:J4)(os:J7)(k:Nat)(rs:W0)(l:List IOp):Option (Bool×List (Nat×D)×J7):=
 (Ku S os k rs 0 φ os.length os l).map λq=>(q.1&&ZNQ m rs φ os l q.2.1 q.2.2,Yb φ q.2.1,Zs q.2.2 (λ_=>true) 0 (os++Yd q.2.1))
end Go.Ab
end
