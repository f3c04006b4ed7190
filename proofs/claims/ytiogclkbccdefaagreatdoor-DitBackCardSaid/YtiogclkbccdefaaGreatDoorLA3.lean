import Derived.Test.YtiogclkbccdefaaGreatDoorLA2
import Derived.Orders
set_option linter.unusedSimpArgs false
set_option linter.unusedVariables false
set_option maxRecDepth 100000
theorem W4{p:Prop}(h:p:=by simp[IE.reads,ht]):p:=h
theorem WM{p:Prop}(h:p:=by simp[D.cells?]at hc;subst hc;exact⟨rfl,λcs e=>by cases e⟩):p:=h
theorem WO{p:Prop}(h:p:=by obtain⟨d,x,s,w1,w2,w3⟩:=k3 q io (by simpa using hi);refine⟨d,x,s,by simpa using w1,by simpa using w2,?_⟩;simp only[Qy,YY,Yx,Zq,Ya];rw[ZAd _ 1 0,show i+(q+1)=i+1+q by omega];exact w3):p:=h
theorem WS{p:Prop}(h:p:=by decide):p:=h
theorem WX{p:Prop}(h:p:=by simpa using hj):p:=h
theorem Vh{p:Prop}(h:p:=by simp only[ZS,ZR (x:=x) (λt ht=>h t W4),ZR (x:=y) (λt ht=>h t W4)]):p:=h
theorem VB{p:Prop}(h:p:=by simp only[YD,ZR (x:=x) (λt ht=>h t W4),ZR (x:=y) (λt ht=>h t W4)]):p:=h
theorem VW{p:Prop}(h:p:=by have:=h (j+1) x WX;rw[show i+1+j=i+(j+1) by omega];exact this):p:=h
theorem VY{p:Prop}(h:p:=by have:=h (j+1) r WX;rw[show i+1+j=i+(j+1) by omega];exact this):p:=h
theorem Ub{p:Prop}(h:p:=by rw[ho]at h;rw[ZDA ho];exact h):p:=h
theorem Ud{p:Prop}(h:p:=by simp only[ZS,ZR (x:=x) h]):p:=h
theorem Uq{p:Prop}(h:p:=by obtain⟨E',w1,w2,w3⟩:=ZYS (P:=P) R ho1 ho2 v1 hk v2 hvc hT (ZEG hdk).1;exact⟨_,E',ZGW (s:=Instr.mapUpdate t (a.eval x) (a.eval y) (a.eval u)) rfl w1,w2,w3,.skip rfl⟩):p:=h
theorem Uw{p:Prop}(h:p:=by obtain⟨y,hy,hc⟩:=Zf hc;cases hc;simp[YD]at h):p:=h
theorem U4{p:Prop}(h:p:=by simp[IOp.reads,ht]):p:=h
theorem U6{p:Prop}(h:p:=by obtain⟨⟨ok,d,os1⟩,hr,h⟩:=Za h;simp at h;obtain⟨rfl,rfl,rfl⟩:=h;exact ZNQ hS R hf he hr (λv E' R' ev hv=>hK E' _ R' ev ((hf.mono ev).putO hdst hv))):p:=h
theorem UC{p:Prop}(h:p:=by unfold execOp;simp only[resolve,hfv,Deferred.ofValue,Sem.run_bind,Sem.run_pure,Result.andThen_ok,invoke];have:=hen (#[]++args.map a.eval++capv) E.w;exact V4):p:=h
theorem UM{p:Prop}(h:p:=by rename_i hw;simp only[Yj,YN,true_and]at h;obtain⟨rfl,rfl⟩:=h;rw[ZJB hs hf (by simpa using hw) want];simp only[JV,if_false];exact un .und rfl rfl):p:=h
theorem Tb{p:Prop}(h:p:=by rintro e w' ⟨v,E',rfl,rfl,R',ev,hv⟩;exact⟨v,rfl,hK v E' R' ev hv⟩):p:=h
theorem Tl{p:Prop}(h:p:=by refine KA (s:=Instr.alloc t true (.tuple #[])) rfl ⟨_,E',?_,k2,k3,k4⟩;rw[k1];simp[Instr.alloc,zeroValue,ZD1 hi,hz,newVar,newRow]):p:=h
theorem Tv{p:Prop}(h:p:=by simp only[Yr];rw[ZR (x:=y) (λt ht=>h t (by simp[IE.reads,ZFj,ht]))]):p:=h
theorem T1{p:Prop}(h:p:=by simp only[IE.reads,KV];exact .inr (ZH3.2 ⟨y,hy,ht⟩)):p:=h
theorem T5{p:Prop}(h:p:=by unfold Kl ZBk;split<;>(try split)<;>(try split)<;>rfl):p:=h
theorem TN{p:Prop}(h:p:=by exact hK undef E R (Evo.refl _ _) (.opt (λh=>W6) (λ_=>rfl))):p:=h
theorem TO{p:Prop}(h:p:=by show(E.ob++ [_])[os.length]? =_;rw[<-R.len];simp):p:=h
theorem TQ{p:Prop}(h:p:=by intro hl;simp only[ZAL,hl y J1,ih (λz hz=>hl z (by simp[hz]))]):p:=h
theorem TW{p:Prop}(h:p:=by simp only[ZOn,KV];exact .inr ht):p:=h
theorem Gf{p:Prop}(h:p:=by exact⟨rfl,rfl⟩):p:=h
theorem Gm{p:Prop}(h:p:=by obtain⟨y,_,h2⟩:=Zf he;exact h y e h2):p:=h
theorem Gw{p:Prop}(h:p:=by simpa using ho):p:=h
theorem G4{p:Prop}(h:p:=by refine KA (s:=Instr.box t (a.eval x)) rfl ⟨_,E',?_,k2,k3,k4⟩;rw[k1];simp[Instr.box,newVar,newRow]):p:=h
theorem G6{p:Prop}(h:p:=by rename_i hw;simp only[Yj,YN,true_and]at h;obtain⟨rfl,rfl⟩:=h;rw[if_neg hw];exact un .und rfl rfl):p:=h
theorem GA{p:Prop}(h:p:=by simp only[ZS]):p:=h
theorem GC{p:Prop}(h:p:=by rw[show i+1+m=i+(m+1) by omega];exact hd):p:=h
theorem GF{p:Prop}(h:p:=by refine KA (s:=Instr.buildSlice t m (parts.map λ(i,x)=>(i,a.eval x))) rfl ?_;rw[e',e];exact hres):p:=h
theorem GK{p:Prop}(h:p:=by simp only[YD,ZR (x:=x) (λt ht=>h t W4),ZR (x:=k) (λt ht=>h t W4),ZR (x:=v) (λt ht=>h t W4)]):p:=h
theorem GQ{p:Prop}(h:p:=by simp only[YD,ZR (x:=x) h]):p:=h
theorem GS{p:Prop}(h:p:=by simp[Jh,Zy]at h):p:=h
theorem GU{p:Prop}(h:p:=by obtain⟨y,_,rfl⟩:=Za he;exact h y):p:=h
theorem GZ{p:Prop}(h:p:=by cases y<;>simp[D.beq]at h;rw[h.1,h.2]):p:=h
theorem Nc{p:Prop}(h:p:=by simp only[KE,YF]at hc;obtain⟨x',hx,lo',hl,hi',hh,mx',hm,hc⟩:=hc;cases hc;simp[YD]at h):p:=h
theorem N0{p:Prop}(h:p:=by simp[Region.wanted,hg]):p:=h
theorem NB{p:Prop}(h:p:=by have:=h (j+1) d' o' WX;rw[show i+1+j=i+(j+1) by omega];exact this):p:=h
theorem NI{p:Prop}(h:p:=by simp only[ZCi]at h;cases h):p:=h
theorem NL{p:Prop}(h:p:=by rw[show i+(m+1)=i+1+m by omega]):p:=h
section
namespace Go.Ab
open Go.RowKit Go.Bo
section
variable {P:Program} {E:Env} {os:J7} {c:Ctx} {n:Nat} {φ:J4} {a:Act}
theorem Zax(R:Rel c E os){d:D}{v:Value}(hv:V E os d v){src:J6}{sz:Nat}(hr:ZCD os sz d=some src)(hz: ∀r∈src,r.length=sz):
  ∃news:List Value,news.length=src.length*sz/\(∀k,k<=src.length->(Builtin.firstCells sz k v).run P E.w= .ok (news.take (k*sz)).toArray E.w)/\(Builtin.lenOf v).run P E.w= .ok src.length E.w/\
   (∀u∈news,u.oneCell'=true)/\ ∀(i:Nat) (r:J9) (j:Nat) (x:X),src[i]? =some r->r[j]? =some x-> ∃u,news[i*sz+j]? =some u/\VX E.w E.st x u:=by
 have base:Zy os d=some src-> ∃news:List Value,news.length=src.length*sz/\(∀k,k<=src.length->(Builtin.firstCells sz k v).run P E.w= .ok (news.take (k*sz)).toArray E.w)/\(Builtin.lenOf v).run P E.w= .ok src.length E.w/\
   (∀u∈news,u.oneCell'=true)/\ ∀(i:Nat) (r:J9) (j:Nat) (x:X),src[i]? =some r->r[j]? =some x-> ∃u,news[i*sz+j]? =some u/\VX E.w E.st x u:=by
  intro hr;obtain⟨ad,cp,news,rfl,q2,q3,q4,q5,q6,q7,q8⟩:=ZBM R hv hr hz;refine⟨news,q4,λk hks=> ?_,by simp[Builtin.lenOf],q7,q8⟩;cases ad with
  |none=>
   have h0:=q5 rfl;have:k=0:=Wl
   subst this;simp[Builtin.firstCells]
  |some ad=>
   refine run_firstCells_some (P:=P) E.w sz k ad src.length cp _ ?_ (λj u hu=> ?_)
   .rw[Ys,q4];have:k*sz<=src.length*sz:=Ku _ hks;omega
   .have hj:=(ZV hu).1;rw[Ys]at hj;rw[KQ,if_pos J0]at hu;exact q6 ad rfl j u hu
 unfold ZCD at hr;split at hr
 .rename_i s;split at hr
  .rename_i h1;subst h1;cases hr;cases hv with
   |x hx=>
    cases hx;refine⟨s.map λb=> .int .u8 b.toNat,J1,λk hk=> ?_,?_,?_,?_⟩
    .have:(ByteArray.extract (ZT s) 0 k).data.map (λb=>Value.int .u8 b.toNat)=((s.map λb=>Value.int .u8 b.toNat).take (k*1)).toArray:=by
      apply ZDs.1;simp[ZT,ByteArray.data_extract,ZW1]
     show(pure _:Sem _).run P E.w=_;rw[this];rfl
    .simp[Builtin.lenOf,Qk]
    .intro u hu;obtain⟨b,_,rfl⟩:=YR.1 hu;rfl
    .intro i r j x h1 h2;rw[YE]at h1;obtain⟨b,hb,rfl⟩:=Za h1;cases j with
     |zero=>
      simp[Zs]at h2;subst h2;exact⟨.int .u8 b.toNat,by simp[hb],.int _ _⟩
     |succ j=>simp[Zs]at h2
  .cases hr
 .exact base hr
theorem Zhc(R:Rel c E os){t u ty e sz:Nat}(ht:P.underlying t=some (.slice e))(hs:Ke P e=some sz){id ext off len:Nat}{fz:Bool}{el:Nat}{rs:J6}{vx:Value}(hx:V E os (.ref id ext off len) vx)(ho:os[id]? =some (.rows fz el sz rs))(hext:rs.length=ext)
  {y:D} {vy:Value} (hy:V E os y vy) {src:J6} (hr:ZCD os sz y=some src) (hrl: ∀r∈src,r.length=sz):
  ∃E',(Builtin.copy_ #[t,u] ty #[vx,vy]).run P E.w= .ok (.int .i64 (min src.length len:Nat)) E'.w/\Rel c E' (os.set id (.rows fz el sz (rs.take off++src.take (min src.length len)++rs.drop (off+min src.length len))))/\Evo E os E' (os.set id (.rows fz el sz (rs.take off++src.take (min src.length len)++rs.drop (off+min src.length len)))):=by
 obtain⟨news,q4,qf,ql,q7,q8⟩:=Zax (P:=P) R hy hr hrl;obtain⟨p,hp,hok⟩:=R.at ho;have hok':=hok;obtain⟨xs,k1,k2,k3⟩:=hok';have hlt:=(ZV ho).1;obtain⟨h1,h2⟩:=hx.ref_inv.at ho rfl;obtain⟨h3,b,a0,cap,a',cap',h4,h5,h6,h7,h8,h9,h10,h11⟩:=h2 hext;rw[hp]at h4;have h4:=ZCf h4;subst h5;generalize hk:min src.length len=k at*;have hkl:k<=len:=Wl
 have hks:k<=src.length:=Wl
 have hfirst:(Builtin.firstCells sz k vy).run P E.w= .ok (news.take (k*sz)).toArray E.w:=qf k hks;have hmin:Nat.min src.length len=k:=hk;by_cases hk0:k=0
 .subst hk0;have hset:os.set id (.rows fz el sz (rs.take off++src.take 0++rs.drop (off+0)))=os:=by
   rw[ZB6,Ks,JP,ZBx];apply ZBj;intro j;rw[ZCe];by_cases hj:id=j
   .subst hj;rw[if_pos rfl,ho];simp[hlt]
   .simp[hj]
  rw[hset];refine⟨E,?_,R,Evo.refl _ _⟩;rw[ZKu,ZB6]at hfirst;cases a'<;>simp[Builtin.copy_,run_underlying ht,ql,hmin,Kq hs,hfirst,storeCells,goInt]
 .have hpos:0<len:=Wl
  obtain⟨w1,w2,w3,w4,w5,w8⟩:=OK.cap (os:=os) (o:= .rows fz el sz rs) hok (sz:=sz) (rs:=rs) rfl (by rw[h4]);cases a0 with
  |none=>have:=(w5 rfl).1;omega
  |some ad0=>
  have ha':=h9 hpos ad0 rfl;have h0:=w8 ad0 rfl;have h00:ad0.off=0:=by rw[h0]
  subst ha';rw[h00,Je]at*;have hvs:(news.take (k*sz)).length=k*sz:=by
   rw[Ys,q4];have:k*sz<=src.length*sz:=Ku _ hks;omega
  have htot:(off+k)*sz<=rs.length*sz:=Ku _ J0;rw[JL]at htot;have hlen2:(src.take k).length=k:=W3
  have hget: ∀i,(rs.take off++src.take k++rs.drop (off+k))[i]? =if i<off then rs[i]? else if i<off+k then src[i-off]? else rs[i]? :=λi=>by
   have:=ZB3 rs (src.take k) off i J0;rw[hlen2]at this;rw[this];by_cases h:i<off
   .simp[h]
   .by_cases h':i<off+k
    .simp only[h,h',if_true,if_false];rw[KQ,if_pos J0]
    .simp[h,h']
  obtain⟨E',e1,e2,e3⟩:=ZQU (P:=P) R ho hp (g:=ad0.block) (cap:=cap) (by rw[h4];simp only;rw[hext,<-h0]) (off*sz) (news.take (k*sz)) (λu hu=>q7 u (ZBU hu)) J0 (rs':=rs.take off++src.take k++rs.drop (off+k)) W3 (λr hr=>by
    rcases KV.1 hr with h|h
    .rcases KV.1 h with h|h
     .exact k2 r (ZBU h)
     .exact hrl r (ZBU h)
    .exact k2 r (ZB8 h))
   (λi r j x hr' hx' hj=>by
    rw[hget]at hr';rw[hvs]at hj;have hjs:j<sz:=by
     have:r.length=sz:=by
      split at hr'
      .exact k2 r (Yz hr')
      .split at hr'
       .exact hrl r (Yz hr')
       .exact k2 r (Yz hr')
     rw[<-this];exact(ZV hx').1
    split at hr'
    .exact⟨r,hr',hx'⟩
    .split at hr'
     .exfalso;have g1:off*sz<=i*sz:=Ku _ J0;have g2:(i+1)*sz<=(off+k)*sz:=Ku _ J0;rw[JL,JL]at g2;omega
     .exact⟨r,hr',hx'⟩)
   (λi r j x u hr' hx' hj1 hj2 hu=>by
    rw[hget]at hr';rw[hvs]at hj2;have hjs:j<sz:=by
     have:r.length=sz:=by
      split at hr'
      .exact k2 r (Yz hr')
      .split at hr'
       .exact hrl r (Yz hr')
       .exact k2 r (Yz hr')
     rw[<-this];exact(ZV hx').1
    have hi1: ¬i<off:=λh=>by
     have:(i+1)*sz<=off*sz:=Ku _ h;exact VE
    have hi2:i<off+k:=by
     rcases Nat.lt_or_ge i (off+k)with h|h
     .exact h
     .have:(off+k)*sz<=i*sz:=Ku _ h;exact VE
    rw[if_neg hi1,if_pos hi2]at hr';obtain⟨u',g1,g2⟩:=q8 _ r j x hr' hx';rw[KQ,if_pos J0]at hu;have e:i*sz+j-off*sz=(i-off)*sz+j:=by
     rw[Nat.sub_mul];have:off*sz<=i*sz:=Ku _ J0;omega
    rw[e,g1]at hu;cases hu;exact g2)
  refine⟨E',?_,e2,e3⟩;simp[Builtin.copy_,run_underlying ht,ql,hmin,Kq hs,hfirst,e1,goInt]
theorem KA{o:Oper}{d:D}{os':J7}{s:Sem Value}(h:execOp a.eval o=(do pure (Next.value (<-s))))(hr: ∃v E',s.run P E.w= .ok v E'.w/\Rel c E' os'/\Evo E os E' os'/\V E' os' d v):Zcv P c E os o a d os':=by
 obtain⟨v,E',h1,h2,h3,h4⟩:=hr;exact⟨_,E',ZGy h h1,h2,h3,.value h4⟩
theorem ZG0: ∀ {i:Nat} {parts:List (Nat×Operand)} {ys:List IO},ZHX i parts=some ys->(parts.map (·.2)).mapM ZY=some ys/\parts.map (·.1)=List.range' i parts.length
 |i,[],ys,h=>by cases h;exact Gf
 |i,(j,x)::l,ys,h=>by
  simp only[ZHX]at h;split at h
  .rename_i hj;simp only[KE,YF]at h;obtain⟨y,hy,r,hr,h⟩:=h;cases h;obtain⟨h1,h2⟩:=ZG0 hr;subst hj;refine⟨?_,?_⟩
   .simp[ZAQ,hy,h1]
   .simp[List.range'_succ,h2]
  .cases h
theorem ZKh(f:Operand->Value): ∀(l:List (Nat×Operand)) (i:Nat),l.map (·.1)=List.range' i l.length->l.map (λp=>(p.1,f p.2))=(((l.map (·.2)).map f).zipIdx i).map λp=>(p.2,p.1)
 | [],i,h=>rfl
 |(j,x)::l,i,h=>by
  simp[List.range'_succ]at h;obtain⟨rfl,h⟩:=h;simp only[YM,List.zipIdx_cons];rw[ZKh f l (j+1) h]
def IE.isAct:IE->Bool
 | .box _| .sto _ _ _| .bsl _ _ _ _| .mks _ _ _ _ _ _| .app _ _ _ _ _| .apz _ _ _ _ _ _| .cpy _ _ _| .s2b _ _| .abx _ _| .asl _ _ _| .mkm _ _| .mup _ _ _ _| .mdl _ _ _| .men _ _ _ _| .est _ _ _| .mcl _| .rgm _| .rgs _=>true
 |_=>false
def NA(x:Option IE):Prop:= ∀e,x=some e->e.isAct=false
theorem NA.none:NA none:=λe h=>W6
theorem NA.some{e:IE}(h:e.isAct=false):NA (some e):=λe' h'=>by cases h';exact h
theorem NA.bind{α:Type}{x:Option α}{f:α->Option IE}(h: ∀y,NA (f y)):NA (x.bind f):=λe he=>by
 exact Gm
theorem NA.bind'{α:Type}{x:Option α}{f:α->Option IE}(h: ∀y,NA (f y)):NA (x>>=f):=NA.bind h
theorem NA.map{α:Type}{x:Option α}{f:α->IE}(h: ∀y,(f y).isAct=false):NA (x.map f):=λe he=>by
 exact GU
theorem Zbe{e:IE}{r:Bool×D×J7}(h:YD φ os e=some r):e.isAct=true:=by
 cases e<;>first|rfl|(simp[YD]at h)
theorem ZgC(R:Rel c E os)(dk:KK)(hd: ∀a b,dk≠ .st a b)(ag:Bool)(t:Nat):
  ∃v E',(Instr.makeMap t none).run P E.w= .ok v E'.w/\Rel c E' (os++ [.mpo dk ag []])/\Evo E os E' (os++ [.mpo dk ag []])/\V E' (os++ [.mpo dk ag []]) (.mref os.length) v:=by
 obtain⟨R',ev⟩:=R.push (E.w.alloc (.map #[] 0)) (.mpo dk ag []) (E.w.heap.size,undef) (Kg _ _) (λb hb=>Uv) (λ_=>YI.new _ _ E.w rfl dk hd ag);refine⟨.map (some E.w.heap.size),_,?_,R',ev,.mref (dk:=dk) (ag:=ag) (o:= .mpo dk ag []) (cu:=undef) J1 rfl TO⟩;rfl
theorem ZIO(R:Rel c E os){id:Nat}{o:Ob}(ho:os[id]? =some o){dk:KK}{ag:Bool}{l:W2}(hu:o.upd? =some (dk,ag,l)){p:Nat×Value}(hp:E.ob[id]? =some p){w':World}(hO:Only p.1 E.w w'){o':Ob}{l':W2}(hu':o'.upd? =some (dk,ag,l'))
  (hok:Evo E os ⟨w',E.st,E.ob.set id p⟩ (os.set id o')->OK ⟨w',E.st,E.ob.set id p⟩ (os.set id o') o' p):
  Rel c ⟨w',E.st,E.ob.set id p⟩ (os.set id o')/\Evo E os ⟨w',E.st,E.ob.set id p⟩ (os.set id o'):=by
 obtain⟨_,k2,k3,k4⟩:=Ob.upd_spec hu;obtain⟨_,k2',k3',k4'⟩:=Ob.upd_spec hu';exact R.set ho hp w' o' p ⟨hO.os,hO.tape,hO.output,by rw[hO.size];exact Zp _,λk _ hm=>hO.block k (λe=>hm ((k4 p k).2 e.symm))⟩ (λb hb=> .inl ((k4 p b).2 ((k4' p b).1 hb))) (λsz rs h=>by rw[k3]at h;cases h) (λk h=>⟨rfl,by rw[k2]at h;rw[k2'];exact h⟩) hok
theorem ZYS(R:Rel c E os){id:Nat}{o:Ob}(ho:os[id]? =some o){dk:KK}{ag:Bool}{l:W2}(huo:o.upd? =some (dk,ag,l)){vm:Value}(hm:V E os (.mref id) vm){key:J9}{kd:D}{kv:Value}(hk:QU dk kd=some key)(hv:V E os kd kv){u:Value}{xs:J8}(hu:VC E os ag xs u)
  {T kt elem:TypeId} (hT:P.underlying T=some (.map kt elem)) (hd:P.underlying kt=some (kkD dk)):
  ∃E',(Instr.mapUpdate T vm kv u).run P E.w= .ok () E'.w/\Rel c E' (os.set id (.mpo dk ag (Yo l key xs)))/\Evo E os E' (os.set id (.mpo dk ag (Yo l key xs))):=by
 cases hm with
 |mref ho' hk' hb=>
  obtain⟨p,hp,hok⟩:=R.at ho;rw[hp]at hb;cases hb;obtain⟨w',g1,g2,g3⟩:=YI.up (P:=P) (hok.map (Ob.upd_spec huo).1) hk hv hT hd hu;obtain⟨R',ev⟩:=ZIO R ho huo hp g2 (o':= .mpo dk ag (Yo l key xs)) rfl (λev=>g3 _ _ rfl ev);exact⟨_,g1,R',ev⟩
theorem ZhV(R:Rel c E os){id:Nat}{o:Ob}(ho:os[id]? =some o){dk:KK}{ag:Bool}{l:W2}(huo:o.upd? =some (dk,ag,l)){vm:Value}(hm:V E os (.mref id) vm){key:J9}{kd:D}{kv:Value}(hk:QU dk kd=some key)(hv:V E os kd kv)
  {T kt elem:TypeId} (hT:P.underlying T=some (.map kt elem)) (hd:P.underlying kt=some (kkD dk)) (ty ts:TypeId):
  ∃v E',(Builtin.delete_ #[T,ts] ty #[vm,kv]).run P E.w= .ok v E'.w/\Rel c E' (os.set id (.mpo dk ag (ZCH l key)))/\Evo E os E' (os.set id (.mpo dk ag (ZCH l key)))/\V E' (os.set id (.mpo dk ag (ZCH l key))) (.tup []) v:=by
 cases hm with
 |mref ho' hk' hb=>
  obtain⟨p,hp,hok⟩:=R.at ho;rw[hp]at hb;cases hb;obtain⟨w',g1,g2,g3⟩:=YI.del (P:=P) (hok.map (Ob.upd_spec huo).1) hk hv hT hd ty ts;obtain⟨R',ev⟩:=ZIO R ho huo hp g2 (o':= .mpo dk ag (ZCH l key)) rfl (λev=>g3 _ _ rfl ev);exact⟨_,_,g1,R',ev,.tup #[] rfl (λj d v h=>WG)⟩
theorem Zht(R:Rel c E os){id:Nat}{o:Ob}(ho:os[id]? =some o){dk:KK}{ag:Bool}{l:W2}(huo:o.upd? =some (dk,ag,l)){vm:Value}(hm:V E os (.mref id) vm)
  {T kt elem:TypeId} (hT:P.underlying T=some (.map kt elem)) (ty:TypeId):
  ∃v E',(Builtin.clear_ #[T] ty #[vm]).run P E.w= .ok v E'.w/\Rel c E' (os.set id (.mpo dk ag []))/\Evo E os E' (os.set id (.mpo dk ag []))/\V E' (os.set id (.mpo dk ag [])) (.tup []) v:=by
 cases hm with
 |mref ho' hk' hb=>
  obtain⟨p,hp,hok⟩:=R.at ho;rw[hp]at hb;cases hb;obtain⟨w',g1,g2,g3⟩:=YI.clear (P:=P) (hok.map (Ob.upd_spec huo).1) hT ty;obtain⟨R',ev⟩:=ZIO R ho huo hp g2 (o':= .mpo dk ag []) rfl (λev=>g3 _ _ rfl);exact⟨_,_,g1,R',ev,.tup #[] rfl (λj d v h=>WG)⟩
theorem Zf9(R:Rel c E os){id:Nat}{o:Ob}(ho:os[id]? =some o){dk:KK}{ag:Bool}{l:W2}(huo:o.upd? =some (dk,ag,l)){vm:Value}(hm:V E os (.mref id) vm){key:J9}{kd:D}{kv:Value}(hk:QU dk kd=some key)(hv:V E os kd kv)
  {T kt elem:TypeId} (hT:P.underlying T=some (.map kt elem)) (hd:P.underlying kt=some (kkD dk)) {z:Value} (hz:(zeroValue elem).run P E.w= .ok z E.w) {zs:J8} (hzs:VC E os ag zs z)
  (hko:ZLJ dk key=true):
  ∃v E',(Instr.mapEntry T vm kv).run P E.w= .ok v E'.w/\Rel c E' (os.set id (.mpn dk ag (Yo l key ((Ju l key).getD zs)) key os.length)++ [.stp])/\Evo E os E' (os.set id (.mpn dk ag (Yo l key ((Ju l key).getD zs)) key os.length)++ [.stp])/\
   V E' (os.set id (.mpn dk ag (Yo l key ((Ju l key).getD zs)) key os.length)++ [.stp]) (.tup [ZFU ag ((Ju l key).getD zs),.stk id os.length]) v:=by
 have hlt:=(ZV ho).1;cases hm with
 |mref ho' hk' hb=>
  obtain⟨p,hp,hok⟩:=R.at ho;have hpb:p.1=_:=congrArg Prod.fst (ZCf (hp.symm.trans hb));simp only at hpb;subst hpb;obtain⟨w',v,n,g1,g2,g3,g4,g5⟩:=YI.entry (P:=P) (hok.map (Ob.upd_spec huo).1) hk hv hT hd hz hzs;obtain⟨R1,e1⟩:=R.push E.w .stp (n,undef) (Kept.refl _ _) (λb hb=>hb.elim) (λ_=>trivial);have ho1:(os++ [Ob.stp])[id]? =some o:=by rw[Yc hlt];exact ho
  have hp1:(E.ob++ [(n,undef)])[id]? =some p:=by rw[Yc (by rw[R.len];exact hlt)];exact hp
  have hs1: ∀x,((os++ [Ob.stp]).set id x)[os.length]? =some .stp:=λx=>by
   rw[ZCe,if_neg J0];simp
  have hb1:((E.ob++ [(n,undef)]).set id p)[os.length]? =some (n,undef):=by
   rw[ZCe,if_neg J0,<-R.len];simp
  obtain⟨R',ev⟩:=ZIO (E:=⟨E.w,E.st,E.ob++ [(n,undef)]⟩) R1 ho1 huo hp1 g2 (o':= .mpn dk ag (Yo l key ((Ju l key).getD zs)) key os.length) rfl (λev=>⟨g4 _ _ rfl (e1.trans ev),by
   obtain⟨es,clk,e,q1,q2,q3,q4⟩:=g5;exact⟨n,undef,.stp,es,clk,e,hs1 _,rfl,hb1,q1,q2,q3,q4,hko⟩⟩)
  have e:(os++ [Ob.stp]).set id (.mpn dk ag (Yo l key ((Ju l key).getD zs)) key os.length)=os.set id (.mpn dk ag (Yo l key ((Ju l key).getD zs)) key os.length)++ [.stp]:=by
   rw[ZLy _ _ hlt]
  rw[e]at R' ev;refine⟨_,_,g1,R',e1.trans ev,V.tupP ((V.cell g3).mono (e1.trans ev)) (.stk (o:= .stp) (cu:=undef) ?_ rfl hb1)⟩;rw[<-e];exact hs1 _
theorem ZhO(R:Rel c E os){id sid:Nat}{dk:KK}{ag:Bool}{l:W2}{key:J9}(ho:os[id]? =some (.mpn dk ag l key sid)){vm vs:Value}(hm:V E os (.mref id) vm)(hs:V E os (.stk id sid) vs){u:Value}{xs:J8}(hu:VC E os ag xs u)(T:TypeId):
  ∃E',(Instr.entryStore T vm vs u).run P E.w= .ok () E'.w/\Rel c E' (os.set id (.mpo dk ag (Yo l key xs)))/\Evo E os E' (os.set id (.mpo dk ag (Yo l key xs))):=by
 cases hm with
 |mref ho' hk' hb=>
  cases hs with
  |stk hso hsk hsb=>
   obtain⟨p,hp,hok⟩:=R.at ho;rw[hp]at hb;cases hb;obtain⟨n,cu,o,es,clk,e,q1,q2,q3,q4,q5,q6,q7,q8⟩:=hok.2;rw[q3]at hsb;cases hsb;obtain⟨w',g1,g2,g3⟩:=YI.store (P:=P) (T:=T) hok.1 ⟨_,_,ZWX q8,V.keyD E os dk key⟩ hu ⟨es,clk,e,q4,q5,q6,q7⟩;obtain⟨R',ev⟩:=ZIO R ho (l:=l) rfl hp g2 (o':= .mpo dk ag (Yo l key xs)) rfl (λev=>g3 _ _ rfl ev);exact⟨_,g1,R',ev⟩
theorem ZgK(R:Rel c E os){id:Nat}{o:Ob}(ho:os[id]? =some o){dk:KK}{ag:Bool}{l:W2}(huo:o.upd? =some (dk,ag,l)){vm:Value}(hm:V E os (.mref id) vm){T kt elem:TypeId}(hT:P.underlying T=some (.map kt elem)):
  ∃v E',(Instr.range T vm).run P E.w= .ok v E'.w/\Rel c E' (os.set id (.mit dk ag l os.length l none)++ [.itr])/\Evo E os E' (os.set id (.mit dk ag l os.length l none)++ [.itr])/\V E' (os.set id (.mit dk ag l os.length l none)++ [.itr]) (.iref id os.length) v:=by
 have hlt:=(ZV ho).1;obtain⟨_,s2,s3,s4⟩:=Ob.upd_spec huo;cases hm with
 |mref ho' hk' hb=>
  obtain⟨p,hp,hok⟩:=R.at ho;have hpb:p.1=_:=congrArg Prod.fst (ZCf (hp.symm.trans hb));simp only at hpb;subst hpb;have hMO:=hok.map (Ob.upd_spec huo).1;obtain⟨es,clk,m1,m2,m3,m4⟩:=hMO.pairs;have hrun:=run_range_map (P:=P) E.w T kt elem p.1 es clk hT m1;obtain⟨R1,e1⟩:=R.push (E.w.alloc (.mapIter (some p.1) clk #[] clk)) .itr (E.w.heap.size,undef) (Kg _ _) (λb hb=>hb.elim) (λ_=>trivial);have ho1:(os++ [Ob.itr])[id]? =some o:=by rw[Yc hlt];exact ho
  have hp1:(E.ob++ [(E.w.heap.size,undef)])[id]? =some p:=by rw[Yc (by rw[R.len];exact hlt)];exact hp
  have hs1: ∀x,((os++ [Ob.itr]).set id x)[os.length]? =some .itr:=λx=>by
   rw[ZCe,if_neg J0];simp
  have hb1: ∀x,((E.ob++ [(E.w.heap.size,undef)]).set id x)[os.length]? =some (E.w.heap.size,undef):=λx=>by
   rw[ZCe,if_neg J0,<-R.len];simp
  have hpl:p.1<E.w.heap.size:=(ξH m1).1;obtain⟨R',ev⟩:=R1.set ho1 hp1 (E.w.alloc (.mapIter (some p.1) clk #[] clk)) (.mit dk ag l os.length l none) (p.1,.pointer (some ⟨E.w.heap.size,0,none⟩)) (Kept.refl _ _) (λb hb=>by
   rcases hb with hb|hb
   .exact .inl ((s4 p b).2 hb)
   .simp only[Value.pointer.injEq,Yj,Addr.mk.injEq,and_true]at hb;subst hb;refine .inr (.inr ⟨λoff hs=>absurd (R.stm _ off hs).1 (ZWU _),λi o2 p2 h1 h2 h3=> ?_,.inr R.kept.size⟩);by_cases hi:i<os.length
    .rw[Yc hi]at h1;have h2':E.ob[i]? =some p2:=by
      have h2':(E.ob++ [(E.w.heap.size,undef)])[i]? =some p2:=h2;rwa [Yc (by rw[R.len];exact hi)]at h2'
     exact absurd ((R.ok i o2 p2 h1 h2').lt h3) (ZWU _)
    .have hl:=(ZV h1).1;simp at hl;have:i=os.length:=Wl
     subst this;rw[QL J0]at h1;simp at h1;subst h1;exact h3) (λsz rs h=>by rw[s3]at h;cases h) (λk h=>⟨rfl,by rw[s2]at h;exact h⟩) (λev=>by
    have ev':=e1.trans ev;refine⟨hMO.mono ev' (heap_alloc_old E.w _ hpl),E.w.heap.size,undef,es,clk,clk,#[],clk,.itr,rfl,hs1 _,rfl,hb1 _,heap_alloc_new E.w _,?_,m3,⟨Zp _,Zp _⟩,m4,?_,λq hq=>by cases hq⟩
    .show(E.w.alloc _).heap[p.1]? =_;rw[heap_alloc_old E.w _ hpl];exact m1
    .have e:(leftOf es #[]).toList=es.toList:=by simp[leftOf]
     rw[e];exact m2.mono ev')
  have e:(os++ [Ob.itr]).set id (.mit dk ag l os.length l none)=os.set id (.mit dk ag l os.length l none)++ [.itr]:=by
   rw[ZLy _ _ hlt]
  rw[e]at R' ev;refine⟨_,_,hrun,R',e1.trans ev,.iref (o:= .itr) (cu:=undef) ?_ rfl (hb1 _)⟩;rw[<-e];exact hs1 _
theorem ZgJ(R:Rel c E os){vm:Value}(hm:V E os .mnil vm){T kt elem:TypeId}(hT:P.underlying T=some (.map kt elem)):
  ∃v E',(Instr.range T vm).run P E.w= .ok v E'.w/\Rel c E' (os++ [.nit])/\Evo E os E' (os++ [.nit])/\V E' (os++ [.nit]) (.iref os.length os.length) v:=by
 obtain rfl:=hm.mnil_inv;obtain⟨R',ev⟩:=R.push (E.w.alloc (.mapIter none 0 #[] 0)) .nit (E.w.heap.size,undef) (Kg _ _) (λb hb=>Uv) (λ_=>⟨0,#[],0,heap_alloc_new _ _⟩);exact⟨_,_,run_range_nilMap (P:=P) E.w T kt elem hT,R',ev,.iref (o:= .nit) (cu:=undef) J1 rfl TO⟩
theorem Zgu(R:Rel c E os)(s:List UInt8){T:TypeId}(hT:P.underlying T=some .string):
  ∃v E',(Instr.range T (.string (ZT s))).run P E.w= .ok v E'.w/\Rel c E' (os++ [.sit s 0])/\Evo E os E' (os++ [.sit s 0])/\V E' (os++ [.sit s 0]) (.iref os.length os.length) v:=by
 obtain⟨R',ev⟩:=R.push (E.w.alloc (.stringIter (ZT s) 0)) (.sit s 0) (E.w.heap.size,undef) (Kg _ _) (λb hb=>Uv) (λ_=>heap_alloc_new _ _);refine⟨.pointer (some ⟨E.w.heap.size,0,none⟩),_,?_,R',ev,.iref (o:= .sit s 0) (cu:=undef) J1 rfl TO⟩;simp[Instr.range,run_underlying hT]
theorem VX.not_agg{w:World}{st:Nat->Nat->Prop}{x:X}{v:Value}(h:VX w st x v): ∀cs,v≠ .agg cs:=by
 cases h<;>(intro cs e;cases e)
theorem V.not_agg{d:D}{v:Value}(h:V E os d v)(hd:agD d=false){cs:J8}(hc:d.cells? =some cs):cs.length=1/\ ∀cs,v≠ .agg cs:=by
 cases h with
 |x h=>simp[D.cells?]at hc;subst hc;exact⟨rfl,h.not_agg⟩
 |ref h h1=>simp[D.cells?]at hc;subst hc;exact⟨rfl,λcs e=>by subst e;simp[Value.oneCell']at h1⟩
 |ptr ho h=>exact WM
 |mref ho hk h=>exact WM
 |mnil=>exact WM
 |iref ho hk h=>exact WM
 |stk ho hk h=>exact WM
 |bref ho h hm=>exact WM
 |eptr h h1=>simp[D.cells?]at hc;subst hc;exact⟨rfl,λcs e=>by obtain⟨ad,rfl⟩:=h1;cases e⟩
 |vptr b off val h1 h2=>exact WM
 |agg vs hl h1 hv=>simp[agD]at hd
 |tup vs hl hv=>cases hc
 |full n h=>exact WM
 |nz h=>exact WM
 |fn vs hl hv=>exact WM
 |opt h1 h2=>cases hc
 |und v=>cases hc
theorem V.is_agg{d:D}{v:Value}(h:V E os d v)(hd:agD d=true): ∃cs,v= .agg cs:=by
 cases h with
 |agg vs hl h1 hv=>exact⟨vs,rfl⟩
 |_=>simp[agD]at hd
theorem VC.of{d:D}{v:Value}(h:V E os d v){cs:J8}(hc:d.cells? =some cs)(hs:v.cells.size=cs.length)(h1: ∀u∈v.cells.toList,u.oneCell'=true)
  (hx: ∀(j:Nat) (x:D) (u:Value),cs[j]? =some x->v.cells[j]? =some u->V E os x u):VC E os (agD d) cs v:=by
 refine⟨?_,hs,λj x u hj hu=>⟨hx j x u hj hu,h1 u ?_⟩⟩
 .split
  .rename_i ha;exact h.is_agg ha
  .rename_i ha;exact h.not_agg Gx hc
 .rw[<-ξO]at hu;exact Yz hu
theorem ZZe(R:Rel c E os){t:Nat}{cs:J8}{cells:Array Value}{xs:J9}{os1:J7}(q1:cells.size=cs.length)(q3: ∀(j:Nat) (d:D) (u:Value),cs[j]? =some d->cells[j]? =some u->V E os d u)
  (hfz:YW os cs=some (xs,os1)):
  ∃E',E'.w=E.w.alloc (.cells cells t)/\Rel c E' (os1++ [.rows false t xs.length [xs]])/\Evo E os E' (os1++ [.rows false t xs.length [xs]])/\V E' (os1++ [.rows false t xs.length [xs]]) (.eptr os1.length 1 0 0) (.pointer (some ⟨E.w.heap.size,0,none⟩)):=by
 obtain⟨st',R1,e1,k1,k2⟩:=ZCA (vs:=cells.toList) R (λj d u hd hu=>q3 j d u hd (by simpa using hu)) (by simpa using q1.symm) hfz;have hxl:xs.length=cells.size:=Gu
 have hk:=Kg E.w (.cells cells t);have hrow:QJ (E.w.alloc (.cells cells t)) false t xs.length [xs].length (.slice (some ⟨E.w.heap.size,0,none⟩) 1 1) cells.toList:=by
  refine⟨by simp[hxl],.inr ⟨E.w.heap.size,1,cells,(0,0),rfl,heap_alloc_new E.w _,Zp _,by unfold maxLen;decide,?_,?_,.inl rfl⟩⟩
  .simp[hxl]
  .rw[hxl];exact YO J1
 obtain⟨E',w1,w2,w3,w4⟩:=ZAO (E:=⟨E.w,st',E.ob⟩) R1 hk hrow (λb hb=>by simp only[Value.ownBlock,Yj]at hb;subst hb;exact Zp _) (λr hr=>by simp only[Qf]at hr;rw[hr])
  (λi r j x v h1 h2 h3=>by
   match i with
   |0=>
    simp only[ZC2,Yj]at h1;subst h1;rw[ZKu,Je]at h3;exact k2 j x v h2 h3
   |i+1=>simp at h1)
 refine⟨E',w1,w2,e1.trans w3,?_⟩;cases w4 with
 |ref hr _=>
  obtain⟨o,sz,rs,q1,q2,q3,q4⟩:=hr;have hlt:(os1++ [Ob.rows false t xs.length [xs]])[os1.length]? =some (.rows false t xs.length [xs]):=TC
  rw[hlt]at q1;cases q1;simp only[Ob.sl?,Yj,YN]at q2;obtain⟨rfl,rfl⟩:=q2;obtain⟨_,b,ad,cap,a',cap',g1,g2,_,_,g3,_⟩:=q4 rfl;obtain⟨g4,_⟩:=g3 rfl;simp only[Value.slice.injEq]at g2;obtain⟨g5,_,_⟩:=g2;rw[<-g5]at g4;rw[<-g4]at g1;exact .eptr ⟨_,_,1,hlt,rfl,Zp _,λ_=>⟨WS,b,E.w.heap.size,cap,g1,J1⟩⟩ ⟨_,rfl⟩
theorem ZYZ(R:Rel c E os){id ext i:Nat}{fz:Bool}{e sz:Nat}{rs:J6}(ho:os[id]? =some (.rows fz e sz rs)){vp:Value}(hp:V E os (.eptr id ext i 0) vp){r:J9}(hr:rs[i]? =some r)(hext:rs.length=ext)
  {t el:Nat} (ht:P.underlying t=some (.array sz el)) (hsz:Ke P el=some 1) (hm:sz<=16777216) {hi:Option Value} {h:Nat} (hb:Bnd none hi sz 0 h) (hle:h<=sz):
  ∃v E',(Instr.sliceAt t vp none hi none).run P E.w= .ok v E'.w/\Rel c E' (os.set id (.frz sz rs))/\Evo E os E' (os.set id (.frz sz rs))/\V E' (os.set id (.frz sz rs)) (.x (.sl ((r.take h).map λy=> [y]))) v:=by
 have hp0:=hp;cases hp0 with
 |eptr hq _=>
  obtain⟨h1,h2⟩:=hq.at ho rfl;obtain⟨h3,b,g,cap,h4,h5⟩:=h2 hext;obtain⟨R',ev⟩:=R.freeze ho h4;have hlt:=(ZV ho).1;have ho':(os.set id (.frz sz rs))[id]? =some (.frz sz rs):=by simp[hlt]
  obtain⟨_,g',xs,w1,w2,w3,w4,w5,w6⟩:=ZMw R' (hp.mono ev) ho' rfl hext;rw[h5]at w1;simp only[Value.pointer.injEq,Yj,Addr.mk.injEq,and_true]at w1;obtain⟨rfl,_⟩:=w1;have hrl:r.length=sz:=w5 r (Yz hr);subst h5;refine⟨_,⟨E.w,λb off=>E.st b off\/(Value.ownBlock (.slice (some ⟨g,0,none⟩) ext cap)=some b/\off<rs.length*sz),E.ob⟩,ZUr ht hsz _ hb E.w,R',ev,.x ?_⟩;have hi1:i*sz+sz<=rs.length*sz:=by
   exact NG
  have hval: ∀(k:Nat) (y:X),r[k]? =some y-> ∃u,xs[i*sz+k]? =some u/\VX E.w (λb off=>E.st b off\/(Value.ownBlock (.slice (some ⟨g,0,none⟩) ext cap)=some b/\off<rs.length*sz)) y u:=λk y hy=>w6 i r k y hr hy
  refine .sl _ _ h sz 1 (λk _=>xs.getD (i*sz+k) undef) W3 hle GO (λq hq=> ?_) (λk j hk hj=> ?_) (λhn=>by simp at hn) (λ_ ad had=>by simp at had;rw[<-had]) (λk j q x hq hx=> ?_)
  .obtain⟨y,_,rfl⟩:=YR.1 hq;rfl
  .obtain rfl:j=0:=Wl
   obtain⟨y,hy⟩: ∃y,r[k]? =some y:=⟨r[k]' J0,Zx _⟩;obtain⟨u,hu,_⟩:=hval k y hy;refine⟨g,i*sz+0,rfl,.inr ⟨rfl,J0⟩,?_⟩;rw[Qo,JP,JP,ZDx,hu];exact w3 _ u hu
  .rw[YE]at hq;obtain⟨y,hy,rfl⟩:=Za hq
   match j with
   |0=>
    simp only[ZC2,Yj]at hx;subst hx;rw[KQ]at hy;split at hy
    .obtain⟨u,hu,hv⟩:=hval k y hy;show VX _ _ y (xs.getD (i*sz+k) undef);rw[ZDx,hu];exact hv
    .cases hy
   |j+1=>simp at hx
set_option maxHeartbeats 2000000 in
theorem Zbq(R:Rel c E os)(hf:Fr n E os φ a){o:Oper}{e:IE}(hc:Ka P o.op=some e){d:D}{os':J7}(h:YD φ os e=some (true,d,os')):Zcv P c E os o a d os':=by
 obtain⟨dst,op,ty,pos,after,guard⟩:=o;simp only at hc;cases op<;>simp only[Ka]at hc<;>(try cases hc)
 case alloc t=>
  simp only[YF,Kj]at hc;obtain⟨i,hi,z,hz,hc⟩:=hc;split at hc
  .subst hc;simp only[YD,YF,Kj]at h;obtain⟨cs,hcs,q,hq,h⟩:=h;simp at h;obtain⟨_,rfl,rfl⟩:=h;have hcs:(Kl z).cells? =some cs:=by
    have:(Kl z).val=Kl z:=T5
    rw[<-this];exact hcs
   obtain⟨q1,q2,q3⟩:=(V.const E os z).cells hcs;obtain⟨E',k1,k2,k3,k4⟩:=ZZe R (t:=t) q1 q3 hq;exact Tl
  subst hc;simp only[YD,Kj]at h;obtain⟨cs,hcs,h⟩:=h;simp at h;obtain⟨_,rfl,rfl⟩:=h;have hcs:(Kl z).cells? =some cs:=by
   have:(Kl z).val=Kl z:=T5
   rw[<-this];exact hcs
  obtain⟨q1,q2,q3⟩:=(V.const E os z).cells hcs;obtain⟨E',k1,k2,k3,k4⟩:=ZS7 R z.cells t q1 q2 q3;exact Tl
 case box t x=>
  obtain⟨y,hy,hc⟩:=Za hc;split at hc
  .subst hc;simp only[YD,YF,Kj]at h;obtain⟨cs,hcs,q,hq,h⟩:=h;simp at h;obtain⟨h1,rfl,rfl⟩:=h;obtain⟨q1,q2,q3⟩:=((V.op hf hy).strip h1).cells hcs;obtain⟨E',k1,k2,k3,k4⟩:=ZZe R (t:=t) q1 q3 hq;exact G4
  subst hc;simp only[YD,Kj]at h;obtain⟨cs,hcs,h⟩:=h;simp at h;obtain⟨h1,rfl,rfl⟩:=h;obtain⟨q1,q2,q3⟩:=((V.op hf hy).strip h1).cells hcs;obtain⟨E',k1,k2,k3,k4⟩:=ZS7 R (a.eval x).cells t q1 q2 q3;exact G4
 case buildSlice t m parts=>
  split at hc
  .rename_i el ht;obtain⟨i,hi,hc⟩:=Zf hc;obtain⟨z,hz,hc⟩:=Zf hc;split at hc
   .rename_i hle;obtain⟨ps,hps,hc⟩:=Za hc;cases hc;obtain⟨g1,g2⟩:=ZG0 hps;simp only[YD]at h;split at h
    .rename_i hm;have hpl:(parts.toList.map (·.2)).length=m:=by simp[hle.1]
     have e:(parts.map λ(p:Nat×Operand)=>(p.1,a.eval p.2))=((((parts.toList.map (·.2)).map a.eval).zipIdx 0).map λp=>(p.2,p.1)).toArray:=by
      apply ZDs.1;rw[ZTH];exact ZKh a.eval parts.toList 0 g2
     have e':(parts.map λ(x:Nat×Operand)=>match x with|(i,x)=>(i,a.eval x))=(parts.map λ(p:Nat×Operand)=>(p.1,a.eval p.2)):=rfl;split at h
     .obtain⟨⟨b,rs⟩,h1,h⟩:=Za h;simp at h;obtain⟨rfl,rfl,rfl⟩:=h;have hres:=ZfO (t:=t) (m:=m) R hf ht hi hz g1 hpl hle.2.1 hle.2.2 h1;exact GF
     obtain⟨⟨b,rs,os1⟩,h1,h⟩:=Za h;simp at h;obtain⟨rfl,rfl,rfl⟩:=h;have hres:=Zgq (t:=t) (m:=m) R hf ht hi hz g1 hpl hle.2.1 hle.2.2 h1;exact GF
    .cases h
   .cases hc
  .cases hc
 case store t x y=>
  simp only[KE,YF]at hc;obtain⟨m,hm,x',hx,y',hy,hc⟩:=hc;cases hc;simp only[YD,YF]at h;obtain⟨cs,hcs,h⟩:=h;split at h
  .rename_i hlen;split at h
   .rename_i id o hval;split at h
    .rename_i ds hds;split at h
     .rename_i hle;simp at h;obtain⟨⟨c1,c2⟩,rfl,rfl⟩:=h;obtain⟨q1,q2,q3⟩:=((V.op hf hy).strip c2).cells hcs;have hp:=(V.op hf hx).strip c1;rw[hval]at hp;obtain⟨E',k1,k2,k3⟩:=ZeM (P:=P) R hm hds hp q1 q2 q3 hlen hle;rw[Yw]at k2 k3;exact⟨_,E',ZGW (s:=Instr.storeAt t (a.eval x) (a.eval y)) rfl k1,k2,k3,.skip rfl⟩
     .cases h
    .cases h
   .rename_i id ext i o hval;split at h
    .rename_i el sz rs hbd;obtain⟨ob,hob,hdr⟩:=Zf hbd;cases Ob.drw_of hdr;obtain⟨r,hr,h⟩:=Za h;simp at h;obtain⟨⟨⟨c1,c2⟩,c3,c4⟩,rfl,rfl⟩:=h;obtain⟨q1,q2,q3⟩:=((V.op hf hy).strip c2).cells hcs;have hp:=(V.op hf hx).strip c1;rw[hval]at hp;have q1':(a.eval y).cells.size=m:=Wl
     obtain⟨E',w1,w2,w3⟩:=ZfL (P:=P) R hm hob hp hr c3 q1' q2 J0 q3 c4;rw[Yw]at w2 w3;exact⟨_,E',ZGW (s:=Instr.storeAt t (a.eval x) (a.eval y)) rfl w1,w2,w3,.skip rfl⟩
    obtain⟨⟨zs,os1⟩,h1,h⟩:=Zf h;simp only at h;split at h
    .rename_i fz el sz rs hrows;obtain⟨r,hr,h⟩:=Za h;simp at h;obtain⟨⟨⟨c1,c2⟩,c3,c4⟩,rfl,rfl⟩:=h;obtain⟨q1,q2,q3⟩:=((V.op hf hy).strip c2).cells hcs;have hp:=(V.op hf hx).strip c1;rw[hval]at hp;obtain⟨st',R1,e1,k1,k2⟩:=ZCA (vs:=(a.eval y).cells.toList) R (λj d v hd hv=>q3 j d v hd Ur) (by simp[q1]) h1;have q1':(a.eval y).cells.size=m:=Wl
     obtain⟨E',w1,w2,w3⟩:=Zat (P:=P) (E:=⟨E.w,st',E.ob⟩) R1 hm hrows (hp.mono e1) hr c3 q1' q2 (by simp at k1;omega) (λj x u hx hu=>k2 j x u hx (by simpa using hu)) c4;rw[Yw]at w2 w3;exact⟨_,E',ZGW (s:=Instr.storeAt t (a.eval x) (a.eval y)) rfl w1,w2,e1.trans w3,.skip rfl⟩
    .cases h
   .cases h
  .cases h
 case makeMap t r=>
  split at hc
  .rename_i key elem hT;obtain⟨dk,hdk,hc⟩:=Zf hc;obtain⟨ag,hag,rfl⟩:=Za hc;simp only[YD,Yj,YN]at h;obtain⟨_,rfl,rfl⟩:=h;exact KA (s:=Instr.makeMap t none) rfl (ZgC R dk (ZEG hdk).2 ag t)
  .cases hc
 case lookup t x y ok=>
  split at hc
  .obtain⟨dk,hd,hc⟩:=Zf hc;obtain⟨i,hi,hc⟩:=Zf hc;obtain⟨z,hz,hc⟩:=Zf hc;obtain⟨x',y',hx,hy,hc⟩:=Kt hc;subst hc;simp[YD]at h
  .cases hc
 case mapUpdate t x y u=>
  split at hc
  .rename_i key elem hT;obtain⟨dk,hdk,hc⟩:=Zf hc;simp only[KE,YF]at hc;obtain⟨x',hx,y',hy,u',hu,hc⟩:=hc;cases hc;simp only[YD,YF]at h;obtain⟨cs,hcs,h⟩:=h;split at h
   .rename_i id hv;split at h
    .rename_i dk' ag l ho;obtain⟨o,ho1,ho2⟩:=Zf ho;split at h
     .rename_i hh;obtain⟨rfl,hag⟩:=hh;obtain⟨key',hk,h⟩:=Za h;simp only[YN,Zk]at h;obtain⟨⟨c1,c2,c3⟩,rfl,rfl⟩:=h;have vu:=(V.op hf hu).strip c3;obtain⟨q1,q2,q3⟩:=vu.cells hcs;have v1:=(V.op hf hx).strip c1;rw[hv]at v1;have v2:=(V.op hf hy).strip c2;have hvc:VC E os ag cs (a.eval u):=by
       rw[<-hag];exact VC.of vu hcs q1 q2 q3
      exact Uq
     .cases h
    .cases h
   .cases h
  .cases hc
 case insert t x y u=>
  split at hc
  .rename_i key elem hT;obtain⟨dk,hdk,hc⟩:=Zf hc;simp only[KE,YF]at hc;obtain⟨x',hx,y',hy,u',hu,hc⟩:=hc;cases hc;simp only[YD,YF]at h;obtain⟨cs,hcs,h⟩:=h;split at h
   .rename_i id hv;split at h
    .rename_i dk' ag l ho;obtain⟨o,ho1,ho2⟩:=Zf ho;split at h
     .rename_i hh;obtain⟨rfl,hag⟩:=hh;obtain⟨key',hk,h⟩:=Za h;simp only[YN,Zk]at h;obtain⟨⟨c1,c2,c3⟩,rfl,rfl⟩:=h;have vu:=(V.op hf hu).strip c3;obtain⟨q1,q2,q3⟩:=vu.cells hcs;have v1:=(V.op hf hx).strip c1;rw[hv]at v1;have v2:=(V.op hf hy).strip c2;have hvc:VC E os ag cs (a.eval u):=by
       rw[<-hag];exact VC.of vu hcs q1 q2 q3
      exact Uq
     .cases h
    .cases h
   .cases h
  .cases hc
 case mapEntry t x y=>
  split at hc
  .rename_i key elem hT;obtain⟨dk,hdk,hc⟩:=Zf hc;obtain⟨i,hi,hc⟩:=Zf hc;obtain⟨z,hz,hc⟩:=Zf hc;obtain⟨x',y',hx,hy,hc⟩:=Kt hc;subst hc;simp only[YD,YF]at h;obtain⟨zs,hzs,h⟩:=h;split at h
   .rename_i id hv;split at h
    .rename_i dk' ag l ho;obtain⟨o,ho1,ho2⟩:=Zf ho;split at h
     .rename_i hh;obtain⟨rfl,hag⟩:=hh;obtain⟨key',hk,h⟩:=Za h;simp only[YN,Zk]at h;obtain⟨⟨c1,c2⟩,rfl,rfl⟩:=h;have v1:=(V.op hf hx).strip c1;rw[hv]at v1;have v2:=(V.op hf hy).strip c2;have vz:=V.const E os z;obtain⟨q1,q2,q3⟩:=vz.cells hzs;have hvc:VC E os ag zs z:=by
       rw[<-hag];exact VC.of vz hzs q1 q2 q3
      have hz':(zeroValue elem).run P E.w= .ok z E.w:=by simp[zeroValue,ZD1 hi,hz]
      exact KA (s:=Instr.mapEntry t (a.eval x) (a.eval y)) rfl (Zf9 (P:=P) R ho1 ho2 v1 hk v2 hT (ZEG hdk).1 hz' hvc (Zcc hk (ZEG hdk).2))
     .cases h
    .cases h
   .cases h
  .cases hc
 case entryStore t x y u=>
  simp only[KE,YF]at hc;obtain⟨x',hx,y',hy,u',hu,hc⟩:=hc;cases hc;simp only[YD,YF]at h;obtain⟨cs,hcs,h⟩:=h;split at h
  .rename_i id id' sid hv hv2;split at h
   .rename_i dk ag l key sid' ho;split at h
    .rename_i hh;obtain⟨rfl,rfl,hag⟩:=hh;simp only[Yj,YN,Zk]at h;obtain⟨⟨c1,c2,c3⟩,rfl,rfl⟩:=h;have vu:=(V.op hf hu).strip c3;obtain⟨q1,q2,q3⟩:=vu.cells hcs;have v1:=(V.op hf hx).strip c1;rw[hv]at v1;have v2:=(V.op hf hy).strip c2;rw[hv2]at v2;have hvc:VC E os ag cs (a.eval u):=by
      rw[<-hag];exact VC.of vu hcs q1 q2 q3
     obtain⟨E',w1,w2,w3⟩:=ZhO (P:=P) R ho v1 v2 hvc t;exact⟨_,E',ZGW (s:=Instr.entryStore t (a.eval x) (a.eval y) (a.eval u)) rfl w1,w2,w3,.skip rfl⟩
    .cases h
   .cases h
  .cases h
 case range t x=>
  split at hc
  .rename_i kt el hT;obtain⟨x',hx,hc⟩:=Zf hc;cases hc;simp only[YD]at h;split at h
   .rename_i id hv;split at h
    .rename_i dk ag l ho;obtain⟨o,ho1,ho2⟩:=Zf ho;simp only[Yj,YN]at h;obtain⟨c1,rfl,rfl⟩:=h;have v1:=(V.op hf hx).strip c1;rw[hv]at v1;exact KA (s:=Instr.range t (a.eval x)) rfl (ZgK (P:=P) R ho1 ho2 v1 hT)
    .cases h
   .rename_i hv;simp only[Yj,YN]at h;obtain⟨c1,rfl,rfl⟩:=h;have v1:=(V.op hf hx).strip c1;rw[hv]at v1;exact KA (s:=Instr.range t (a.eval x)) rfl (ZgJ (P:=P) R v1 hT)
   .cases h
  .rename_i hT;obtain⟨x',hx,hc⟩:=Zf hc;cases hc;simp only[YD]at h;split at h
   .rename_i s hv;simp only[Yj,YN]at h;obtain⟨c1,rfl,rfl⟩:=h;have v1:=(V.op hf hx).strip c1;rw[hv]at v1;refine KA (s:=Instr.range t (a.eval x)) rfl ?_;rw[V.str v1];exact Zgu (P:=P) R s hT
   .cases h
  .cases hc
 case next x st=>
  obtain⟨x',hx,hc⟩:=Zf hc;cases hc;simp[YD]at h
 case entry x=>
  obtain⟨x',hx,hc⟩:=Zf hc;cases hc;simp[YD]at h
 case makeSlice t l cp=>
  split at hc
  .rename_i el ht;simp only[KE,YF]at hc;obtain⟨i,hi,z,hz,zx,hzx,l',hl',c',hc',hc⟩:=hc;cases hc;simp only[YD]at h;split at h
   .rename_i li ci h1 h2;split at h
    .rename_i hh;simp at h;obtain⟨⟨⟨c1,c2⟩,c3,c4,c5⟩,rfl,rfl⟩:=h;obtain⟨kl,hkl⟩:=ZBN ((V.op hf hl').strip c1) h1;obtain⟨kc,hkc⟩:=ZBN ((V.op hf hc').strip c2) h2;obtain⟨li',rfl⟩:=ZC4 c3;obtain⟨ci',rfl⟩:=ZC4 (show(0:Int)<=ci by omega);refine KA (s:=Instr.makeSlice t (a.eval l) (a.eval cp)) rfl ?_;rw[hkl,hkc];exact Zh6 R ht hi hz hzx hh.1 hh.2 kl kc li' ci' J0 J0
    .cases h
   .cases h
  .cases hc
 case slice t x lo hi mx=>
  split at hc
  .exact Nc
  .obtain⟨z,hz,hc⟩:=Zf hc;split at hc
   .cases hc
   .exact Nc
  .rename_i m el ht;obtain⟨z,hz,hc2⟩:=Zf hc;clear hc;by_cases hh:z=1/\m<=16777216/\lo=none/\mx=none
   .rw[if_pos hh]at hc2;obtain⟨rfl,hm,rfl,rfl⟩:=hh;simp only[KE,YF]at hc2;obtain⟨x',hx,hi',hhi,hc3⟩:=hc2;cases hc3;simp only[YD]at h;split at h
    .rename_i id ext i hv;split at h
     .rename_i fz e sz rs ho;split at h
      .rename_i hsz;subst hsz;obtain⟨r,hr,h⟩:=Zf h;have hrl:rs.length=ext->r.length=sz:=λ_=>by
        obtain⟨p,hp,hok⟩:=R.at ho;obtain⟨xs,_,k2,_⟩:=hok;exact k2 r (Yz hr)
       cases hi' with
       |none=>
        simp only[Yj,YN,Zk,Ym]at h;obtain⟨⟨c1,c2⟩,rfl,rfl⟩:=h;have v1:=(V.op hf hx).strip c1;rw[hv]at v1;have hb:=bnd hf (lo:=none) (hi:=hi) (lo':=none) (hi':=none) rfl hhi sz 0 sz rfl rfl (KG _) (Zp _);have:=ZYZ R ho v1 hr c2 ht hz hm hb (Zp _);rw[YO (by rw[hrl c2];exact Zp _)]at this;exact KA (s:=Instr.sliceAt t (a.eval x) none (hi.map a.eval) none) rfl this
       |some h0=>
        obtain⟨k,hk,h⟩:=Za h;simp only[YN,Zk,Ym]at h;obtain⟨⟨c1,c3,c4,c5,c2⟩,rfl,rfl⟩:=h;obtain⟨j,rfl⟩:=ZC4 c4;have v1:=(V.op hf hx).strip c1;rw[hv]at v1;have hb:=bnd hf (lo:=none) (hi:=hi) (lo':=none) (hi':=some h0) rfl hhi sz 0 j rfl ⟨_,hk,c3,rfl⟩ (KG _) J0;exact KA (s:=Instr.sliceAt t (a.eval x) none (hi.map a.eval) none) rfl (ZYZ R ho v1 hr c2 ht hz hm hb J0)
      .cases h
     .cases h
    .cases h
   .rw[if_neg hh]at hc2;cases hc2
  .cases hc
 case convert s t x=>
  split at hc
  .exact Uw
  .split at hc
   .exact Uw
   .cases hc
  .rename_i el hs ht;split at hc
   .rename_i hel;obtain⟨y,hy,hc⟩:=Zf hc;cases hc;simp only[YD]at h;split at h
    .rename_i b h1;simp at h;obtain⟨⟨c1,c2⟩,rfl,rfl⟩:=h;have:=(V.op hf hy).strip c1;rw[h1]at this;refine KA (s:=convert s t (a.eval x)) rfl ?_;rw[V.str this];exact Zgj R hs ht hel b c2
    .cases h
   .cases hc
  .cases hc
 case call cl=>
  obtain⟨callee,args,ats⟩:=cl;unfold ZB4 at hc;simp only at hc;have bi: ∀(b:Builtin) (s:Sem Value),(∀consts,builtin b ats ty consts (args.map a.eval)=(do pure (Next.value (<-s))))->callee= .builtin b->(∃v E',s.run P E.w= .ok v E'.w/\Rel c E' os'/\Evo E os E' os'/\V E' os' d v)->
    Zcv P c E os {dst,op:= .call ⟨callee,args,ats⟩,type:=ty,pos,after,guard} a d os':=by
   intro b s hb he hr;subst he;obtain⟨v,E',h1,h2,h3,h4⟩:=hr;refine⟨.value v,E',?_,h2,h3,.value h4⟩;unfold execOp;simp only[resolve,Sem.run_bind,Sem.run_pure,Result.andThen_ok,invoke,hb,h1]
  split at hc
  .simp only[KE,YF]at hc;obtain⟨f',hf',ys,hys,hc⟩:=hc;cases hc;simp[YD]at h
  .split at hc
   .split at hc
    .exact Uw
    .exact Uw
    .exact Uw
    .cases hc
   .cases hc
  .split at hc
   .rename_i x y t u h1 h2;have h1:args= #[x,y]:=US
    have h2:ats= #[t,u]:=TE
    subst h1;subst h2;split at hc
    .rename_i el kn ht hu;obtain⟨i,hi,hc2⟩:=Zf hc;obtain⟨z,hz,hc3⟩:=Zf hc2;obtain⟨zx,hzx,hc4⟩:=Zf hc3;clear hc hc2 hc3;obtain⟨x',y',hx,hy,hc5⟩:=Kt hc4;subst hc5;simp only[YD]at h;split at h
     .rename_i m hm;split at h
      .rename_i hh;split at h
       .rename_i id ext off len hv;split at h
        .rename_i e' sz' rs hrows;split at h
         .rename_i hh2;obtain⟨rfl,rfl,rfl⟩:=hh2;simp at h;obtain⟨⟨⟨c1,c2⟩,rfl,rfl,c3,c4⟩,rfl,rfl⟩:=h;have v1:=(V.op hf hx).strip c1;rw[hv]at v1;obtain⟨kq,hkq⟩:=ZBN ((V.op hf hy).strip c2) hm;obtain⟨k,rfl⟩:=ZC4 (show(0:Int)<=m by omega);refine bi .append (Builtin.append_ #[t,u] ty #[a.eval x,a.eval y]) (λ_=>UR) rfl ?_;rw[hkq];exact ZXI R ht hu hi hz hzx hh.2.2 hh.1 hh.2.1 v1 hrows k J0 J0
         .cases h
        .cases h
       .cases h
      .cases h
     .cases h
    .rename_i el el2 ht hu;obtain⟨i,hi,hc2⟩:=Zf hc;obtain⟨z,hz,hc3⟩:=Zf hc2;clear hc hc2;split at hc3
     .rename_i hh;obtain⟨rfl,hzs⟩:=hh;obtain⟨x',y',hx,hy,hc4⟩:=Kt hc3;subst hc4;simp only[YD]at h;split at h
      .rename_i hsz;refine bi .append (Builtin.append_ #[t,t] ty #[a.eval x,a.eval y]) (λ_=>UR) rfl ?_;split at h
       .rename_i srcD hsrcD;unfold ZAt at h;split at h
        .rename_i id ext off len hv;split at h
         .rename_i e' sz' rs hrows;split at h
          .rename_i hh2;obtain⟨rfl,rfl,rfl⟩:=hh2;simp at h;obtain⟨⟨⟨c1,c2⟩,rfl,rfl,c3,c4,c5⟩,rfl,rfl⟩:=h;have v1:=(V.op hf hx).strip c1;rw[hv]at v1;have v2:=(V.op hf hy).strip c2;unfold Qb at hsrcD;split at hsrcD
           .rename_i jd ext2 off2 len2 hv2;unfold KY at hsrcD;split at hsrcD
            .rename_i e2 sz2 rs2 hj2;split at hsrcD
             .rename_i hh3;obtain⟨rfl,rfl,rfl⟩:=hh3;cases hsrcD;rw[hv2]at v2;exact Zcs R ht hi hz hzs hsz.1 hsz.2 v1 hrows v2 hj2 c5 c4 c3
             .cases hsrcD
            .cases hsrcD
           .cases hsrcD
          .cases h
         .cases h
        .cases h
       obtain⟨src,hsrc,h⟩:=Zf h;split at h
       .rename_i hv;simp at h;obtain⟨⟨⟨c1,c2⟩,c3,c4⟩,rfl,rfl⟩:=h;have v1:=(V.op hf hx).strip c1;rw[hv]at v1;rw[V.nils v1];exact ZWu R ht hi hz hzs hsz.1 hsz.2 ((V.op hf hy).strip c2) hsrc c4 c3
       .rename_i rs0 hv;split at h
        .rename_i h0;simp at h;obtain⟨⟨c1,c2⟩,rfl,rfl⟩:=h;have v1:=(V.op hf hx).strip c1;rw[hv]at v1;have hs:src= []:=ξS h0;subst hs;obtain⟨ad,cp,news,q1,-⟩:=ZBM R ((V.op hf hy).strip c2) hsrc (sz:=0) (λr hr=>TD);rw[q1];generalize a.eval x=vx at*;cases v1 with
         |full m hvx=>exact⟨_,E,ZAN E.w t ty el i ht hi _ _ _ (Zp _) ad cp,R,Evo.refl _ _,.full m hvx⟩
        .rename_i h0;simp at h;obtain⟨⟨⟨c1,c2⟩,c3,c4,c5⟩,rfl,rfl⟩:=h;have v1:=(V.op hf hx).strip c1;rw[hv]at v1;exact ZUE R ht hi hz hzs hsz.1 hsz.2 v1 c4 ((V.op hf hy).strip c2) hsrc c5 h0 c3
       .rename_i id ext off len hv;split at h
        .rename_i e' sz' rs hrows;split at h
         .rename_i hh2;obtain⟨rfl,rfl,rfl⟩:=hh2;simp at h;obtain⟨⟨⟨c1,c2⟩,rfl,rfl,c4,c5⟩,rfl,rfl⟩:=h;have v1:=(V.op hf hx).strip c1;rw[hv]at v1;exact ZXW R ht hi hz hzs hsz.1 hsz.2 v1 hrows ((V.op hf hy).strip c2) hsrc c5 c4
         .cases h
        .rename_i e' sz' rs hrows;split at h
         .rename_i hh2;obtain⟨rfl,rfl,rfl⟩:=hh2;simp at h;obtain⟨⟨⟨c1,c2⟩,rfl,rfl,c3,c4,c5⟩,rfl,rfl⟩:=h;have v1:=(V.op hf hx).strip c1;rw[hv]at v1;exact Zfu R ht hi hz hzs hsz.1 hsz.2 v1 hrows ((V.op hf hy).strip c2) hsrc c5 c4 c3
         .cases h
        .cases h
       .cases h
      .cases h
     .cases hc3
    .cases hc
   .cases hc
  .split at hc
   .rename_i x y t u h1 h2;have h1:args= #[x,y]:=US
    have h2:ats= #[t,u]:=TE
    subst h1;subst h2;split at hc
    .rename_i el ht;simp only[KE,YF]at hc;obtain⟨z,hz,x',hx,y',hy,hc⟩:=hc;cases hc;simp only[YD,YF]at h;obtain⟨src,hsrc,h⟩:=h;split at h
     .rename_i id ext off len hv;split at h
      .rename_i fz e' sz' rs hrows;split at h
       .rename_i hh2;subst hh2;simp at h;obtain⟨⟨⟨c1,c2⟩,c3,c4⟩,rfl,rfl⟩:=h;have v1:=(V.op hf hx).strip c1;rw[hv]at v1;obtain⟨E',k1,k2,k3⟩:=Zhc (P:=P) (u:=u) (ty:=ty) R ht hz v1 hrows c3 ((V.op hf hy).strip c2) hsrc c4;rw[Yw]at k2 k3;exact bi .copy (Builtin.copy_ #[t,u] ty #[a.eval x,a.eval y]) (λ_=>UR) rfl ⟨_,E',k1,k2,k3,V.mkint _ _ _ _⟩
       .cases h
      .cases h
     .cases h
    .cases hc
   .cases hc
  .split at hc
   .rename_i x y t u h1 h2;have h1:args= #[x,y]:=US
    have h2:ats= #[t,u]:=TE
    subst h1;subst h2;split at hc
    .rename_i key elem hT;obtain⟨dk,hdk,hc⟩:=Zf hc;obtain⟨x',y',hx,hy,hc⟩:=Kt hc;subst hc;simp only[YD]at h;split at h
     .rename_i id hv;split at h
      .rename_i dk' ag l ho;obtain⟨o,ho1,ho2⟩:=Zf ho;split at h
       .rename_i hh;subst hh;obtain⟨key',hk,h⟩:=Za h;simp only[YN,Zk]at h;obtain⟨⟨c1,c2⟩,rfl,rfl⟩:=h;have v1:=(V.op hf hx).strip c1;rw[hv]at v1;exact bi .delete (Builtin.delete_ #[t,u] ty #[a.eval x,a.eval y]) (λ_=>UR) rfl (ZhV R ho1 ho2 v1 hk ((V.op hf hy).strip c2) hT (ZEG hdk).1 ty u)
       .cases h
      .cases h
     .cases h
    .cases hc
   .cases hc
  .split at hc
   .rename_i x t h1 h2;have h1:args= #[x]:=US
    have h2:ats= #[t]:=TE
    subst h1;subst h2;split at hc
    .rename_i key elem hT;obtain⟨x',hx,hc⟩:=Zf hc;cases hc;simp only[YD]at h;split at h
     .rename_i id hv;split at h
      .rename_i dk ag l ho;obtain⟨o,ho1,ho2⟩:=Zf ho;simp only[Yj,YN]at h;obtain⟨c1,rfl,rfl⟩:=h;have v1:=(V.op hf hx).strip c1;rw[hv]at v1;exact bi .clear (Builtin.clear_ #[t] ty #[a.eval x]) (λ_=>UR) rfl (Zht R ho1 ho2 v1 hT ty)
      .cases h
     .rename_i hv;simp only[Yj,YN]at h;obtain⟨c1,rfl,rfl⟩:=h;have v1:=(V.op hf hx).strip c1;rw[hv]at v1;refine bi .clear (Builtin.clear_ #[t] ty #[a.eval x]) (λ_=>UR) rfl ⟨.tuple #[],E,?_,R,Evo.refl _ _,.tup #[] rfl (λj d v h=>WG)⟩;rw[v1.mnil_inv];simp[Builtin.clear_,run_underlying hT]
     .cases h
    .cases hc
   .cases hc
  all_goals first
   |(cases hc;done)
   |(split at hc
     .obtain⟨x',y',hx,hy,hc⟩:=Kt hc;subst hc;simp[YD]at h
     .cases hc)
 case makeFunc fn first caps=>
  cases fn<;>simp only at hc<;>(try cases hc)
  split at hc
  .obtain⟨ys,hys,hc⟩:=Zf hc;cases hc;simp[YD]at h
  .cases hc
 all_goals
  exfalso;have ha:=Zbe h;have hna:NA (some e):=by
   rw[<-hc]
   repeat first|exact NA.none|exact NA.some rfl|(refine NA.bind (λ_=> ?_))|(refine NA.bind' (λ_=> ?_))|(refine NA.map (λ_=>rfl))|split
  rw[hna e rfl]at ha;cases ha
end
def VL(E:Env)(os:J7)(ds:J8)(vs:Array Value):Prop:=ds.length=vs.size/\ ∀(j:Nat) (d:D) (v:Value),ds[j]? =some d->vs[j]? =some v->V E os d v
def ZK(P:Program)(f:FuncId)(args:J8)(r:D):Prop:=
 ∀(w:World) (st:Nat->Nat->Prop) (vs:Array Value),(∀b o,st b o->b<w.heap.size)->VL ⟨w,st,[]⟩ [] args vs->
  Calls P f vs w λe w'=> ∃v st',e= .returned v/\Kept (λ_=>False) w w'/\(∀b o,st b o->st' b o)/\(∀b o,st' b o->st b o\/(w.heap.size<=b/\b<w'.heap.size))/\V ⟨w',st',[]⟩ [] r v
def Enters(P:Program)(f:FuncId):Prop:= ∀(args:Array Value) (w:World),(callFunc f args).run P w= .ok (.enter f args) w
def SOk(P:Program)(S:FuncId->J8->J5):Prop:= ∀f args r,S f args=some (true,r)->Enters P f/\ZK P f args r
section
variable {P:Program} {E:Env} {os:J7} {c:Ctx} {n:Nat} {φ:J4} {a:Act}
theorem V.scalar{E':Env}{os':J7}{d:D}{v:Value}(h:V E os d v)(hs:d.scalar=true):V E' os' d v:=by
 have one: ∀ {x:X} {v:Value},VX E.w E.st x v->x.scalar=true->VX E'.w E'.st x v:=by
  intro x v h hs;cases h with
  |int k n=>exact .int k n
  |bool b=>exact .bool b
  |str s=>exact .str s
  |nilp=>exact .nilp
  |nils=>exact .nils
  |sl=>cases hs
 have tl: ∀ {ds:J8} {vs:Array Value},(∀d∈ds,∃x,d= .x x/\x.scalar=true)->V E os (.tup ds) (.tuple vs)->V E' os' (.tup ds) (.tuple vs):=by
  intro ds vs hd h;cases h with
  |tup _ hl hv=>
   refine .tup vs hl (λj d v h1 h2=> ?_);obtain⟨x,rfl,hx⟩:=hd d (Yz h1);exact .x (one (hv j _ v h1 h2).xx hx)
 unfold D.scalar at hs;split at hs
 .exact .x (one h.xx hs)
 .cases h with|tup vs hl hv=>exact .tup vs hl (λj d v h1=>by simp at h1)
 .rename_i x1;cases h with|tup vs hl hv=>exact tl (λd hd=>by simp at hd;subst hd;exact⟨_,rfl,hs⟩) (.tup vs hl hv)
 .rename_i x1 x2;simp at hs;cases h with|tup vs hl hv=>exact tl (λd hd=>by simp at hd;rcases hd with rfl|rfl;exact⟨_,rfl,hs.1⟩;exact⟨_,rfl,hs.2⟩) (.tup vs hl hv)
 .rename_i x1 x2 x3;simp at hs;cases h with|tup vs hl hv=>exact tl (λd hd=>by simp at hd;rcases hd with rfl|rfl|rfl;exact⟨_,rfl,hs.1.1⟩;exact⟨_,rfl,hs.1.2⟩;exact⟨_,rfl,hs.2⟩) (.tup vs hl hv)
 .cases hs
theorem V.bare{w:World}{st:Nat->Nat->Prop}{st':Nat->Nat->Prop}{ob:List (Nat×Value)}{d:D}{v:Value}(h:V ⟨w,st,[]⟩ [] d v)(hst: ∀b o,st b o->st' b o):V ⟨w,st',ob⟩ os d v:=
 V.mono (E:=⟨w,st,[]⟩) (os:= []) (E':=⟨w,st',ob⟩) (os':=os) ⟨λb o hb=>⟨hst b o hb,rfl⟩,λid b cu ds k h=>WG,λid o' sz rs hid=>(by simp at hid)⟩ h
theorem ZHz: ∀ {ds:J8} {xs:J9},ZED ds=some xs->ds=xs.map .x
 | [],xs,h=>Gi
 |d::l,xs,h=>by
  cases d with
  |x y=>
   simp only[ZED,Kj]at h;obtain⟨r,hr,rfl⟩:=h;rw[ZHz hr];rfl
  |_=>simp[ZED]at h
theorem ZYK(R:Rel c E os){id off len:Nat}{v:Value}(hv:V E os (.bref id off len) v){x:X}(h:Jh os (.bref id off len)=some x):VX E.w (λb _=>b<E.w.heap.size) x v:=by
 simp only[Jh,ZMi,Kj]at h;obtain⟨rs,h,rfl⟩:=h;split at h
 .rename_i ds ho;split at h
  .rename_i hle;obtain⟨xs,hxs,rfl⟩:=Za h;have hds:=ZHz hxs;cases hv with
   |bref ho' hb hm=>
    obtain⟨p,hp,hok⟩:=R.at ho;rw[hp]at hb;cases hb;obtain⟨cs,ty,g1,g2,g3⟩:=hok;have hxl:xs.length=len:=by
     have:=congrArg List.length hds;simp only[Ys,KO,YZ]at this;omega
    have hcell: ∀i (hi:i<len),∃u,cs[off+i]? =some u/\VX E.w E.st (xs[i]' J0) u:=by
     intro i hi;have h1:(ds.drop off).take len=xs.map .x:=hds;have h2:=congrArg (λl=>l[i]?) h1;simp only[KQ,hi,if_true,Qa,YE]at h2;rw[Zx (by omega:i<xs.length)]at h2;have hlt:off+i<cs.size:=by rw[g2];omega
     refine⟨cs[off+i],ξJ hlt,?_⟩;exact(g3 (off+i) _ _ h2 (ξJ hlt)).1.xx
    have hblt: ∀q:Nat×Value,E.ob[id]? =some q->q.1<E.w.heap.size:=λq hq=>by
     rw[hp]at hq;cases hq;exact(ξH g1).1
    refine .sl _ _ _ _ 1 (λi _=>cs.getD (off+i) undef) (by simp[hxl]) (Zp _) hm (λr hr=> ?_) (λi j hi hj=> ?_) (λhn=>by cases hn) (λ_ ad had=>by cases had;rfl) (λi j r y hr hy=> ?_)
    .obtain⟨z,_,rfl⟩:=YR.1 hr;rfl
    .obtain rfl:j=0:=Wl
     obtain⟨u,hu,_⟩:=hcell i hi;refine⟨_,off,rfl,(ξH g1).1,?_⟩;have e:off+i*1+0=off+i:=Wl
     rw[e];simp only[World.cell?,g1,Option.isSome_none,JV,if_false,hu];simp[ZD0,hu]
    .rw[YE]at hr;obtain⟨z,hz,rfl⟩:=Za hr
     match j with
     |0=>
      simp only[ZC2,Yj]at hy;subst hy;have hi:i<len:=by rw[<-hxl];exact(ZV hz).1
      obtain⟨u,hu,hx⟩:=hcell i hi;have:xs[i]' J0=z:=(ZV hz).2;rw[this]at hx;have e2:cs.getD (off+i) undef=u:=by simp[ZD0,hu]
      show VX _ _ z (cs.getD (off+i) undef);rw[e2];exact hx.mono (λb o hb=>⟨(R.stm b o hb).1,rfl⟩)
     |j+1=>simp at hy
  .cases h
 .cases h
theorem ZSE(R:Rel c E os){d:D}{v:Value}(hv:V E os d v){x:X}(h:Jh os d=some x):VX E.w (λb _=>b<E.w.heap.size) x v:=by
 have key: ∀os',Yh os d=some (x,os')->VX E.w (λb _=>b<E.w.heap.size) x v:=λos' hf=>by
  obtain⟨st',R',_,hx⟩:=ZJQ R hv hf;exact hx.mono (λb o hb=>⟨(R'.stm b o hb).1,rfl⟩)
 cases d with
 |x y=>cases h;exact key os rfl
 |full rs=>simp[Jh,Zy]at h;subst h;exact key os rfl
 |ref id ext off len=>
  simp only[Jh,Zy]at h;cases ho:os[id]? with
  |none=>simp[ho]at h
  |some o=>
   cases o with
   |box ds=>simp[ho,Ob.slice?]at h
   |rows fz e sz rs=>
    simp[ho,Ob.slice?]at h;obtain⟨rfl,rfl⟩:=h;exact key (os.set id (.frz sz rs)) (by simp[Yh,ho])
   |frz sz rs=>
    simp[ho,Ob.slice?]at h;obtain⟨rfl,rfl⟩:=h;exact key os (by simp[Yh,ho])
   |_=>simp[ho,Ob.slice?]at h
 |nz=>exact GS
 |ptr=>exact GS
 |eptr=>exact GS
 |vptr=>exact GS
 |mref=>exact GS
 |mnil=>exact GS
 |iref=>exact GS
 |stk=>exact GS
 |bref id off len=>exact ZYK R hv h
 |agg=>exact GS
 |tup=>exact GS
 |fn=>exact GS
 |opt=>exact GS
 |und=>exact GS
theorem ZD2{α β:Type}{f:α->Option β}: ∀ {l:List α} {m:List β},l.mapM f=some m->l.length=m.length/\ ∀(j:Nat) (x:α) (y:β),l[j]? =some x->m[j]? =some y->f x=some y
 | [],m,h=>by simp at h;subst h;exact⟨rfl,λj x y h=>WG⟩
 |x::l,m,h=>by
  simp only[ZAQ,KE,YF,ZBD]at h;obtain⟨y,hy,ys,hys,h⟩:=h;cases h;obtain⟨h1,h2⟩:=ZD2 hys;refine⟨by simp[h1],λj x' y' hx hy'=> ?_⟩;cases j with
  |zero=>simp at hx hy';subst hx;subst hy';exact hy
  |succ j=>exact h2 j x' y' Gv (by simpa using hy')
theorem Zbn(R:Rel c E os){d:D}{v:Value}(hv:V E os d v){d':D}(h:Qq os d=some d'):V ⟨E.w,λb _=>b<E.w.heap.size,[]⟩ [] d' v:=by
 unfold Qq at h;split at h
 .cases h;exact .x (hv.xx.mono (λb o hb=>⟨(R.stm b o hb).1,rfl⟩))
 .rename_i ds;obtain⟨xs,hxs,h⟩:=Za h;cases h;obtain⟨h1,h2⟩:=ZD2 hxs;cases hv with
  |agg vs hl ho hvv=>
   refine .agg vs (by simp[<-h1,hl]) ho (λj d v hd hv'=> ?_);rw[YE]at hd;obtain⟨y,hy,rfl⟩:=Za hd;have hj:=(ZV hy).1;have hdj:ds[j]? =some (ds[j]' J0):=Zx _;exact .x (ZSE R (hvv j _ v hdj hv') (h2 j _ y hdj hy))
 .cases h;cases hv with
  |fn vs hl hvv=>exact .fn vs hl (λj d v hd=>by simp at hd)
 .obtain⟨y,hy,h⟩:=Za h;cases h;exact .x (ZSE R hv hy)
theorem Za6{d:D}{v:Value}(hv:V E os d v)(hp:d.plain=true){d':D}(h:Qq os d=some d'):V ⟨E.w,E.st,[]⟩ [] d' v:=by
 unfold Qq at h;split at h
 .cases h;exact .x hv.xx
 .rename_i ds;obtain⟨xs,hxs,h⟩:=Za h;cases h;obtain⟨h1,h2⟩:=ZD2 hxs;cases hv with
  |agg vs hl ho hvv=>
   refine .agg vs (by simp[<-h1,hl]) ho (λj d v hd hv'=> ?_);rw[YE]at hd;obtain⟨y,hy,rfl⟩:=Za hd;have hj:=(ZV hy).1;have hdj:ds[j]? =some (ds[j]' J0):=Zx _;have hpx:=Yg.1 hp _ (YG (by omega:j<ds.length));have hh:=h2 j _ y hdj hy;have hvx:=hvv j _ v hdj hv';generalize ds[j]' J0=dj at*;cases dj with
   |x z=>simp[Jh]at hh;subst hh;exact .x hvx.xx
   |_=>cases hpx
 .cases h;cases hv with
  |fn vs hl hvv=>exact .fn vs hl (λj d v hd=>by simp at hd)
 .cases d<;>first|(cases hp;done)|skip
  all_goals first
   |(rename_i h1 h2 h3;exact absurd rfl (h1 _))
   |(rename_i h1 h2 h3;exact absurd rfl (h2 _))
   |skip
  rename_i f caps h1 h2 h3;cases caps with
  |nil=>exact absurd rfl (h3 _)
  |cons c cs=>cases hp
def NP(p:IE->Bool)(x:Option IE):Prop:= ∀e,x=some e->p e=false
theorem NP.none{p:IE->Bool}:NP p none:=λe h=>W6
theorem NP.some{p:IE->Bool}{e:IE}(h:p e=false):NP p (some e):=λe' h'=>by cases h';exact h
theorem NP.bind{p:IE->Bool}{α:Type}{x:Option α}{f:α->Option IE}(h: ∀y,NP p (f y)):NP p (x.bind f):=λe he=>by
 exact Gm
theorem NP.bind'{p:IE->Bool}{α:Type}{x:Option α}{f:α->Option IE}(h: ∀y,NP p (f y)):NP p (x>>=f):=NP.bind h
theorem NP.map{p:IE->Bool}{α:Type}{x:Option α}{f:α->IE}(h: ∀y,p (f y)=false):NP p (x.map f):=λe he=>by
 exact GU
def ZQ(P:Program)(f:FuncId)(args:J8)(os:J7)(r:D)(os':J7):Prop:=
 ∀(c:Ctx) (E:Env) (vs:Array Value),Rel c E os->VL E os args vs->
  Calls P f vs E.w λe w'=> ∃v E',e= .returned v/\E'.w=w'/\Rel c E' os'/\Evo E os E' os'/\V E' os' r v
def TOk(P:Program)(T:FuncId->J8->J7->Option (Bool×D×J7)):Prop:= ∀f args os r os',T f args os=some (true,r,os')->Enters P f/\ZQ P f args os r os'
def ZHa(T:FuncId->J8->J7->Option (Bool×D×J7))(φ:J4)(os:J7):IE->Option (Bool×D×J7)
 | .call f xs=>match(ZG φ f).val with
  | .fn g caps=>(T g ((xs.map λy=>(ZG φ y).val)++caps) os).map λr=>((ZG φ f).cond&&((xs.all λy=>(ZG φ y).cond)&&r.1),r.2)
  |_=>none
 |_=>none
theorem ZQg{op:Op}{e:IE}(hc:Ka P op=some e)(hcall:e.isCall=true): ∃f args ats f' ys,op= .call ⟨.value f,args,ats⟩/\ZY f=some f'/\args.toList.mapM ZY=some ys/\e= .call f' ys:=by
 cases op<;>simp only[Ka]at hc<;>(try cases hc)
 case call cl=>
  obtain⟨callee,args,ats⟩:=cl;unfold ZB4 at hc;simp only at hc;split at hc
  .simp only[KE,YF]at hc;obtain⟨f',hf',ys,hys,hc⟩:=hc;cases hc;exact⟨_,_,_,_,_,rfl,hf',hys,rfl⟩
  all_goals
   exfalso;have hna:NP IE.isCall (some e):=by
    rw[<-hc]
    repeat first|exact NP.none|exact NP.some rfl|(refine NP.bind (λ_=> ?_))|(refine NP.bind' (λ_=> ?_))|(refine NP.map (λ_=>rfl))|split
   rw[hna e rfl]at hcall;cases hcall
 case makeFunc fn first caps=>
  cases fn<;>simp only at hc<;>(try cases hc)
  split at hc
  .obtain⟨ys,hys,hc⟩:=Zf hc;cases hc;cases hcall
  .cases hc
 all_goals
  exfalso;have hna:NP IE.isCall (some e):=by
   rw[<-hc]
   repeat first|exact NP.none|exact NP.some rfl|(refine NP.bind (λ_=> ?_))|(refine NP.bind' (λ_=> ?_))|(refine NP.map (λ_=>rfl))|split
  rw[hna e rfl]at hcall;cases hcall
theorem ZFn(hf:Fr n E os φ a){o:Oper}{f':IO}{ys:List IO}(hc:Ka P o.op=some (.call f' ys)){g:FuncId}{caps:J8}(hval:(ZG φ f').val= .fn g caps)(c1:(ZG φ f').cond=true)(c2: ∀y∈ys,(ZG φ y).cond=true)(hen:Enters P g){K:Act->World->Prop}{Q:Exit->Act->World->Prop}
  (hpc: ∀vs,VL E os ((ys.map λy=>(ZG φ y).val)++caps) vs->Calls P g vs E.w λe w'=> ∃v,e= .returned v/\K (a.put o.dst v) w'):o.wp P a E.w K Q:=by
 obtain⟨dst,op,ty,pos,after,guard⟩:=o;simp only at hc hpc;obtain⟨f,args,ats,f'',ys',rfl,hf',hys,he⟩:=ZQg hc rfl;cases he;have vf:=(V.op hf hf').strip c1;rw[hval]at vf;generalize hfv:a.eval f=fv at vf;cases vf with
 |fn capv hl hvv=>
  obtain⟨l1,l2⟩:=ZNc hf hys;have hrun:(execOp a.eval {dst,op:= .call ⟨.value f,args,ats⟩,type:=ty,pos,after,guard}).run P E.w= .ok (.enter g (args.map a.eval++capv)) E.w:=by
   exact UC
  have lenA:ys.length=args.size:=by rw[<-l1];simp
  have hvl:VL E os ((ys.map λy=>(ZG φ y).val)++caps) (args.map a.eval++capv):=by
   refine⟨by simp[lenA,hl],λj d v hd hv=> ?_⟩;by_cases hj:j<ys.length
   .rw[Yc WX]at hd;rw[ZcP W3]at hv;have hyj:ys[j]? =some (ys[j]'hj):=Zx _;have hxj:args.toList[j]? =some (args[j]' J0):=TC
    have hval':=l2 j _ _ hxj hyj;have hmem:(ZG φ (ys[j]'hj)).cond=true:=c2 _ (YG _);rw[YE,hyj]at hd;simp at hd;have hve:v=a.eval (args[j]' J0):=by
     rw[Zbb,ξJ J0]at hv;simpa using hv.symm
    subst hve;rw[<-hd];exact hval'.strip hmem
   .rw[QL W3]at hd;rw[Array.getElem?_append_right W3]at hv;simp only[Array.size_map,YZ,lenA]at hv hd;exact hvv _ _ v hd hv
  unfold Oper.wp;rw[hrun];show Calls P g _ E.w _;refine(hpc _ hvl).mono ?_;rintro e w' ⟨v,rfl,hk⟩;exact hk
theorem ZZa{T:FuncId->J8->J7->Option (Bool×D×J7)}(hT:TOk P T)(R:Rel c E os)(hf:Fr n E os φ a){o:Oper}{e:IE}(hc:Ka P o.op=some e){d:D}{os':J7}(h:ZHa T φ os e=some (true,d,os')){K:Act->World->Prop}{Q:Exit->Act->World->Prop}
  (hK: ∀v E',Rel c E' os'->Evo E os E' os'->V E' os' d v->K (a.put o.dst v) E'.w):o.wp P a E.w K Q:=by
 cases e<;>simp only[ZHa]at h<;>(try cases h)
 split at h
 .rename_i g caps hval;obtain⟨⟨ok,r,os1⟩,hr,h⟩:=Za h;simp at h;obtain⟨⟨c1,c2,rfl⟩,rfl,rfl⟩:=h;obtain⟨hen,hpc⟩:=hT _ _ _ _ _ hr;refine ZFn hf hc hval c1 c2 hen (λvs hvl=>(hpc c E vs R hvl).mono ?_);exact Tb
 .cases h
def ZGd(P:Program)(f:FuncId)(args:J8)(os:J7)(r:D):Prop:=
 ∀(Y:J7) (c:Ctx) (E:Env) (vs:Array Value),Rel c E (os++Y)->VL E (os++Y) args vs->
  Calls P f vs E.w λe w'=> ∃v E',e= .returned v/\E'.w=w'/\Rel c E' (os++Y)/\Evo E (os++Y) E' (os++Y)/\V E' (os++Y) r v
def ROk(P:Program)(T:FuncId->J8->J7->J5):Prop:= ∀f args os r,T f args os=some (true,r)->Enters P f/\ZGd P f args os r
def ZCi(T:FuncId->J8->J7->J5)(φ:J4)(os:J7):IE->J5
 | .call f xs=>match(ZG φ f).val with
  | .fn g caps=>(T g ((xs.map λy=>(ZG φ y).val)++caps) os).map λr=>((ZG φ f).cond&&((xs.all λy=>(ZG φ y).cond)&&r.1),r.2)
  |_=>none
 |_=>none
theorem ZaL{T:FuncId->J8->J7->J5}(hT:ROk P T){Y:J7}(R:Rel c E (os++Y))(hf:Fr n E (os++Y) φ a){o:Oper}{e:IE}(hc:Ka P o.op=some e){d:D}(h:ZCi T φ os e=some (true,d)){K:Act->World->Prop}{Q:Exit->Act->World->Prop}
  (hK: ∀v E',Rel c E' (os++Y)->Evo E (os++Y) E' (os++Y)->V E' (os++Y) d v->K (a.put o.dst v) E'.w):o.wp P a E.w K Q:=by
 cases e<;>simp only[ZCi]at h<;>(try cases h)
 split at h
 .rename_i g caps hval;obtain⟨⟨ok,r⟩,hr,h⟩:=Za h;simp at h;obtain⟨⟨c1,c2,rfl⟩,rfl⟩:=h;obtain⟨hen,hpc⟩:=hT _ _ _ _ hr;refine ZFn hf hc hval c1 c2 hen (λvs hvl=>(hpc Y c E vs R hvl).mono ?_);exact Tb
 .cases h
def ZBm(P:Program)(f:FuncId)(args:J8)(os:J7)(r:Nat->D)(ob:Ob):Prop:=
 ∀(Y:J7) (id:Nat) (c:Ctx) (E:Env) (vs:Array Value),(os++Y)[id]? =some .dead->Rel c E (os++Y)->VL E (os++Y) args vs->
  Calls P f vs E.w λe w'=> ∃v E',e= .returned v/\E'.w=w'/\Rel c E' ((os++Y).set id ob)/\Evo E (os++Y) E' ((os++Y).set id ob)/\V E' ((os++Y).set id ob) (r id) v
def KOk(P:Program)(T:FuncId->J8->J7->Option (Bool×(Nat->D)×Ob)):Prop:= ∀f args os r ob,T f args os=some (true,r,ob)->Enters P f/\ZBm P f args os r ob
def ZFQ(T:FuncId->J8->J7->Option (Bool×(Nat->D)×Ob))(φ:J4)(os:J7)(id:Nat):IE->Option (Bool×D×Ob)
 | .call f xs=>match(ZG φ f).val with
  | .fn g caps=>(T g ((xs.map λy=>(ZG φ y).val)++caps) os).map λr=>((ZG φ f).cond&&((xs.all λy=>(ZG φ y).cond)&&r.1),r.2.1 id,r.2.2)
  |_=>none
 |_=>none
theorem ZSA{T:FuncId->J8->J7->Option (Bool×(Nat->D)×Ob)}(hT:KOk P T){Y:J7}(R:Rel c E (os++Y))(hf:Fr n E (os++Y) φ a){o:Oper}{e:IE}(hc:Ka P o.op=some e){id:Nat}(hd:(os++Y)[id]? =some .dead){d:D}{ob:Ob}(h:ZFQ T φ os id e=some (true,d,ob)){K:Act->World->Prop}{Q:Exit->Act->World->Prop}
  (hK: ∀v E',Rel c E' ((os++Y).set id ob)->Evo E (os++Y) E' ((os++Y).set id ob)->V E' ((os++Y).set id ob) d v->K (a.put o.dst v) E'.w):o.wp P a E.w K Q:=by
 cases e<;>simp only[ZFQ]at h<;>(try cases h)
 split at h
 .rename_i g caps hval;obtain⟨⟨ok,r,ob'⟩,hr,h⟩:=Za h;simp at h;obtain⟨⟨c1,c2,rfl⟩,rfl,rfl⟩:=h;obtain⟨hen,hpc⟩:=hT _ _ _ _ _ hr;refine ZFn hf hc hval c1 c2 hen (λvs hvl=>(hpc Y id c E vs hd R hvl).mono ?_);exact Tb
 .cases h
theorem Zc2{S:FuncId->J8->J5}(hS:SOk P S)(R:Rel c E os)(hf:Fr n E os φ a){o:Oper}{e:IE}(hc:Ka P o.op=some e)(hcall:e.isCall=true){d:D}(h:ZS S φ os e=some (true,d)){K:Act->World->Prop}{Q:Exit->Act->World->Prop}
  (hK: ∀v E',Rel c E' os->Evo E os E' os->V E' os d v->K (a.put o.dst v) E'.w):o.wp P a E.w K Q:=by
 obtain⟨dst,op,ty,pos,after,guard⟩:=o;simp only at hc hK;obtain⟨f,args,ats,f',ys,rfl,hf',hys,rfl⟩:=ZQg hc hcall;simp only[ZS]at h;split at h
 .rename_i g caps hval;obtain⟨as,has,h⟩:=Zf h;obtain⟨cs,hcs,h⟩:=Zf h;obtain⟨⟨ok,r⟩,hr,h⟩:=Zf h;simp only at h;split at h
  .rename_i hsc;simp at h;obtain⟨⟨c1,c2,rfl⟩,rfl⟩:=h;obtain⟨hen,hpc⟩:=hS _ _ _ hr;have vf:=(V.op hf hf').strip c1;rw[hval]at vf;generalize hfv:a.eval f=fv at vf;cases vf with
   |fn capv hl hvv=>
    obtain⟨l1,l2⟩:=ZNc hf hys;obtain⟨m1,m2⟩:=ZD2 has;obtain⟨m3,m4⟩:=ZD2 hcs;have hrun:(execOp a.eval {dst,op:= .call ⟨.value f,args,ats⟩,type:=ty,pos,after,guard}).run P E.w= .ok (.enter g (args.map a.eval++capv)) E.w:=by
     exact UC
    have lenA:ys.length=args.size:=by rw[<-l1];simp
    have argAt: ∀(Ec:Env) (osc:J7),(∀(d0 d1:D) (v:Value),(d0∈caps\/ ∃y∈ys,(ZG φ y).val=d0)->V E os d0 v->Qq os d0=some d1->V Ec osc d1 v)->VL Ec osc (as++cs) (args.map a.eval++capv):=by
     intro Ec osc hview;have hal:as.length=args.size:=by rw[<-m1];simp[lenA]
     refine⟨by simp[hal,<-m3,hl],λj d v hd hv=> ?_⟩;by_cases hj:j<as.length
     .rw[Yc hj]at hd;rw[ZcP W3]at hv;have hyj:ys[j]? =some (ys[j]' J0):=Zx _;have hxj:args.toList[j]? =some (args[j]' J0):=TC
      have hval':=l2 j _ _ hxj hyj;have hmem:(ZG φ (ys[j]' J0)).cond=true:=c2 _ (YG _);have hget:(ys.map (ZG φ))[j]? =some (ZG φ (ys[j]' J0)):=by rw[YE,hyj];rfl
      have hvd:=m2 j _ d hget hd;have hve:v=a.eval (args[j]' J0):=by
       rw[Zbb,ξJ J0]at hv;simpa using hv.symm
      subst hve;exact hview _ _ _ (.inr ⟨_,YG J0,rfl⟩) (hval'.strip hmem) hvd
     .rw[QL J0]at hd;rw[Array.getElem?_append_right W3]at hv;simp only[Array.size_map,<-hal]at hv;have hcj:=(ZV hd).1;have hcapj:caps[j-as.length]? =some (caps[j-as.length]' J0):=Zx _;exact hview _ _ _ (.inl (YG J0)) (hvv _ _ v hcapj hv) (m4 _ _ _ hcapj hd)
    unfold Oper.wp;rw[hrun];show Calls P g _ E.w _;by_cases hs:r.scalar=true
    .refine(hpc E.w (λb _=>b<E.w.heap.size) _ (λb o h=>h) (argAt _ _ (λd0 d1 v _ hv hd=>Zbn R hv hd))).mono ?_;rintro e w' ⟨v,st',rfl,hk,h1,h2,hv⟩;obtain⟨R',ev⟩:=R.world w' E.st hk (λb o h=>h) (λb o h=> .inl h);exact hK v _ R' ev (hv.scalar hs)
    .simp[hs]at hsc;refine(hpc E.w E.st _ (λb o h=>(R.stm b o h).1) (argAt _ _ (λd0 d1 v hm hv hd=>Za6 hv (by
      rcases hm with hm|⟨y,hy,rfl⟩
      .exact hsc.2 d0 hm
      .exact hsc.1 y hy) hd))).mono ?_
     rintro e w' ⟨v,st',rfl,hk,h1,h2,hv⟩;obtain⟨R',ev⟩:=R.world w' st' hk h1 h2;exact hK v _ R' ev (hv.bare (λb o h=>h))
  .cases h
 .cases h
end
structure IOp where
 dst:Option Nat
 e:IE
 g:Option (Nat×Bool)
def putO(φ:J4):Option Nat->D->J4
 |none,_=>φ
 |some t,d=>put φ t d
abbrev Tab:=FuncId->J8->J5
structure Tabs where
 q:Tab
 t:FuncId->J8->J7->Option (Bool×D×J7)
 r:FuncId->J8->J7->J5
 k:FuncId->J8->J7->Option (Bool×(Nat->D)×Ob)
structure SsOk (P:Program) (S:Tabs):Prop where
 q:SOk P S.q
 t:TOk P S.t
 r:ROk P S.r
 k:KOk P S.k
def QX(S:Tabs)(φ:J4)(os:J7)(e:IE):Option (Bool×D×J7):=if e.isCall then ZHa S.t φ os e else YD φ os e
def JK(S:Tabs)(φ:J4)(os:J7)(o:IOp):Option (Bool×List (Nat×D)×J7):=
 match o.g with
 |none=>match ZS S.q φ os o.e with
  |some r=>some (r.1,putO φ o.dst r.2,os)
  |none=>(QX S φ os o.e).map λr=>(r.1,putO φ o.dst r.2.1,r.2.2)
 |some (s,want)=>match(get φ s).val with
  | .x (.bool b)=>match ZS S.q φ os o.e with
   |some r=>some (!((get φ s).cond&&(b==want))||r.1,putO φ o.dst (.opt ((get φ s).cond&&(b==want)) r.2),os)
   |none=>if(get φ s).cond&&(b==want)then(QX S φ os o.e).map λr=>(r.1,putO φ o.dst r.2.1,r.2.2)else some (true,putO φ o.dst (.opt false .und),os)
  |_=>if(get φ s).cond then none else some (true,putO φ o.dst (.opt false .und),os)
def QC(S:Tabs):J4->J7->List IOp->Option (Bool×List (Nat×D)×J7)
 |φ,os,[]=>some (true,φ,os)
 |φ,os,o::l=>(JK S φ os o).bind λr=>(QC S r.2.1 r.2.2 l).map λq=>(r.1&&q.1,q.2)
def JC(P:Program)(n:Nat)(ops:Array Oper)(o:Oper):Option IOp:=
 (Ka P o.op).bind λe=>if(o.dst.all λt=>decide (t<n))then
  match o.guard with
  |none=>some ⟨o.dst,e,none⟩
  |some (j,want)=>((ops[j]?).bind (·.dst)).map λs=>⟨o.dst,e,some (s,want)⟩
 else none
section
variable {P:Program} {E:Env} {os:J7} {c:Ctx} {n:Nat} {φ:J4} {a:Act}
theorem V.und_of{d:D}{v:Value}(h:V E os d v)(hc:d.cond=false):v=undef:=by
 induction h with
 |opt h1 h2 ih=>
  rename_i b d v;cases b with
  |false=>exact h2 rfl
  |true=>exact ih rfl (by simpa[D.cond]using hc)
 |x h=>cases hc
 |ref h h1=>cases hc
 |ptr ho h=>cases hc
 |eptr h h1=>cases hc
 |vptr b off val hc' hv=>cases hc
 |mref ho hk h=>cases hc
 |mnil=>cases hc
 |iref ho hk h=>cases hc
 |stk ho hk h=>cases hc
 |bref ho h hm=>cases hc
 |agg vs hl h1 hv=>cases hc
 |tup vs hl hv=>cases hc
 |full n h=>cases hc
 |nz h=>cases hc
 |fn vs hl hv=>cases hc
 |und v=>cases hc
theorem Fr.putO(h:Fr n E os φ a){dst:Option Nat}{d:D}{v:Value}(ht:(dst.all λt=>decide (t<n))=true)(hv:V E os d v):Fr n E os (Go.Ab.putO φ dst d) (a.put dst v):=by
 cases dst with
 |none=>exact h
 |some t=>exact h.put (by simpa using ht) hv
theorem ZGR{s:Nat}{ops:Array Oper}{j:Nat}(hs:(ops[j]?).bind (·.dst)=some s)(hf:Fr n E os φ a){b:Bool}(hv:(get φ s).val= .x (.bool b))(want:Bool):
  (yielded ops a.tmps j==some want)=((get φ s).cond&&(b==want)):=by
 have h:=hf.slot s;have key: ∀v,a.tmps.getD s undef=v->(yielded ops a.tmps j)=match v with| .bool b=>some b|_=>none:=by
  intro v hv;unfold yielded;rw[hs];simp only[ZBA];rw[ZD0]at hv;cases h1:a.tmps[s]? with
  |none=>rw[h1]at hv;simp at hv;subst hv;rfl
  |some u=>rw[h1]at hv;simp at hv;subst hv;cases u<;>rfl
 cases hc:(get φ s).cond with
 |false=>
  have:=h.und_of hc;rw[key _ this];rfl
 |true=>
  have:=h.strip hc;rw[hv]at this;rw[key _ (V.bool this)];cases b<;>cases want<;>rfl
theorem ZJB{s:Nat}{ops:Array Oper}{j:Nat}(hs:(ops[j]?).bind (·.dst)=some s)(hf:Fr n E os φ a)(hc:(get φ s).cond=false)(want:Bool):(yielded ops a.tmps j==some want)=false:=by
 have h:=(hf.slot s).und_of hc;unfold yielded;rw[hs];simp only[ZBA];rw[ZD0]at h;cases h1:a.tmps[s]? with
 |none=>rfl
 |some u=>rw[h1]at h;simp at h;subst h;rfl
theorem ZGw{S:Tab}(hS:SOk P S)(R:Rel c E os)(hf:Fr n E os φ a){o:Oper}{e:IE}(hc:Ka P o.op=some e){d:D}(h:ZS S φ os e=some (true,d)){K:Act->World->Prop}{Q:Exit->Act->World->Prop}
  (hK: ∀v E',Rel c E' os->Evo E os E' os->V E' os d v->K (a.put o.dst v) E'.w):o.wp P a E.w K Q:=by
 cases hcall:e.isCall with
 |true=>exact Zc2 hS R hf hc hcall h hK
 |false=>
  obtain⟨v,h1,h2⟩:=Zbi R hf hc hcall h;unfold Oper.wp;rw[h1];exact hK v E R (Evo.refl _ _) h2
theorem ZNQ{S:Tabs}(hS:SsOk P S)(R:Rel c E os)(hf:Fr n E os φ a){o:Oper}{e:IE}(hc:Ka P o.op=some e){d:D}{os':J7}(h:QX S φ os e=some (true,d,os')){K:Act->World->Prop}{Q:Exit->Act->World->Prop}
  (hK: ∀v E',Rel c E' os'->Evo E os E' os'->V E' os' d v->K (a.put o.dst v) E'.w):o.wp P a E.w K Q:=by
 unfold QX at h;split at h
 .exact ZZa hS.t R hf hc h hK
 obtain⟨r,E',h1,h2,h3,h4⟩:=Zbq R hf hc h;unfold Oper.wp;rw[h1];cases h4 with
 |value hv=>exact hK _ E' h2 h3 hv
 |skip hd=>exact hK undef E' h2 h3 (by rw[hd];exact .und _)
theorem ZOr{S:Tabs}(hS:SsOk P S)(R:Rel c E os)(hf:Fr n E os φ a){ops:Array Oper}{o:Oper}{io:IOp}(hc:JC P n ops o=some io){φ':J4}{os':J7}(h:JK S φ os io=some (true,φ',os')){K:Act->World->Prop}{Q:Exit->Act->World->Prop}
  (hK: ∀E' a',Rel c E' os'->Evo E os E' os'->Fr n E' os' φ' a'->K a' E'.w):
  if Region.wanted o (yielded ops a.tmps)then o.wp P a E.w K Q else K (a.put o.dst undef) E.w:=by
 simp only[JC,YF]at hc;obtain⟨e,he,hc⟩:=hc;split at hc
 .rename_i hdst;split at hc
  .rename_i hg;cases hc;simp only[JK]at h;simp only[Region.wanted,hg,if_true];split at h
   .rename_i r hr;obtain⟨ok,d⟩:=r;simp at h;obtain⟨rfl,rfl,rfl⟩:=h;exact ZGw hS.q R hf he hr (λv E' R' ev hv=>hK E' _ R' ev ((hf.mono ev).putO hdst hv))
   .exact U6
  .rename_i j want hg;obtain⟨s,hs,hc⟩:=Za hc;cases hc;simp only[JK]at h;have hwd:Region.wanted o (yielded ops a.tmps)=(yielded ops a.tmps j==some want):=N0
   rw[hwd];have un: ∀(d:D),φ'=Go.Ab.putO φ o.dst (.opt false d)->os'=os->K (a.put o.dst undef) E.w:=by
    rintro d rfl rfl;exact hK E _ R (Evo.refl _ _) (hf.putO hdst (.opt (λh=>W6) (λ_=>rfl)))
   split at h
   .rename_i b hb;rw[ZGR hs hf hb want];split at h
    .rename_i r hr;obtain⟨ok,d⟩:=r;simp only[Yj,YN]at h;obtain⟨h1,rfl,rfl⟩:=h;cases hw:((get φ s).cond&&(b==want))with
     |false=>
      rw[hw]at hK;simp only[JV,if_false];exact hK E _ R (Evo.refl _ _) (hf.putO hdst (.opt (λh=>W6) (λ_=>rfl)))
     |true=>
      rw[hw]at hK h1;simp at h1;subst h1;simp only[if_true];exact ZGw hS.q R hf he hr (λv E' R' ev hv=>hK E' _ R' ev ((hf.mono ev).putO hdst (.opt (λ_=>hv) (λh=>W6))))
    .split at h
     .rename_i hw;rw[if_pos hw];exact U6
     .exact G6
   .split at h
    .cases h
    .exact UM
 .cases hc
theorem ZKU{S:Tabs}(hS:SsOk P S){ops:Array Oper}{Q:Exit->Act->World->Prop}: ∀ {l:List Oper} {il:List IOp} {E:Env} {os:J7} {φ:J4} {a:Act},Rel c E os->Fr n E os φ a->l.mapM (JC P n ops)=some il-> ∀ {φ':J4} {os':J7},QC S φ os il=some (true,φ',os')->
  (∀E' a',Rel c E' os'->Evo E os E' os'->Fr n E' os' φ' a'->Q .normal a' E'.w)->wpList P ops Q l a E.w
 | [],il,E,os,φ,a,R,hf,hm,φ',os',h,hQ=>by
  simp at hm;subst hm;cases h;exact hQ E a R (Evo.refl _ _) hf
 |o::l,il,E,os,φ,a,R,hf,hm,φ',os',h,hQ=>by
  simp only[ZAQ,KE,YF,ZBD]at hm;obtain⟨io,hio,il',hil,hm⟩:=hm;cases hm;simp only[QC,YF,Kj]at h;obtain⟨⟨ok,φ1,os1⟩,h1,⟨ok2,φ2,os2⟩,h2,h3⟩:=h;simp at h3;obtain⟨⟨rfl,rfl⟩,rfl,rfl⟩:=h3;refine wpList_step λK hK=>ZOr hS R hf hio h1 (λE1 a1 R1 e1 f1=> ?_)
  exact hK _ _ (ZKU hS R1 f1 hil h2 (λE' a' R' e' f'=>hQ E' a' R' (e1.trans e') f'))
end
def IO.reads:IO->W0
 | .t n=> [n]
 | .c _=> []
def ZFj:Option IO->W0
 |some x=>x.reads
 |none=> []
def IE.reads:IE->W0
 | .abx _ x| .mv x| .nck x| .un _ x| .cvi _ x| .b2s x| .s2b _ x| .fld _ _ _ x| .fad _ x| .ld _ _ x| .box x| .ext x _| .len _ x=>x.reads
 | .pick c a b=>c.reads++(a.reads++b.reads)
 | .bin _ x y| .eq _ _ x y| .iad _ x y| .iada _ _ x y| .idx x y| .idxa _ _ _ x y| .sto _ x y| .mks _ _ _ _ x y| .app _ _ _ x y| .apz _ _ _ _ x y| .cpy _ x y| .mnx _ x y=>x.reads++y.reads
 | .build _ ps=>ps.flatMap λp=>p.2.2.reads
 | .bsl _ _ _ xs=>xs.flatMap IO.reads
 | .asl _ x hi=>x.reads++ZFj hi
 | .mkm _ _=> []
 | .mln x| .mcl x| .rgm x| .rgs x| .nxt _ x| .ent x=>x.reads
 | .mlk _ _ _ x k| .mdl _ x k| .men _ _ x k=>x.reads++k.reads
 | .mup _ x k v| .est x k v=>x.reads++(k.reads++v.reads)
 | .slc _ x lo hi mx=>x.reads++(ZFj lo++(ZFj hi++ZFj mx))
 | .call f xs=>f.reads++xs.flatMap IO.reads
 | .mkf _ xs=>xs.flatMap IO.reads
def IOp.reads(o:IOp):W0:=o.e.reads++match o.g with|some (s,_)=> [s]|none=> []
theorem ZR{φ φ':J4}{x:IO}(h: ∀t∈x.reads,Go.Ab.get φ t=Go.Ab.get φ' t):ZG φ x=ZG φ' x:=by
 cases x with
 |t n=>exact h n (by simp[IO.reads])
 |c d=>rfl
theorem ZNW{φ φ':J4}{xs:List IO}(h: ∀t∈xs.flatMap IO.reads,Go.Ab.get φ t=Go.Ab.get φ' t):xs.map (ZG φ)=xs.map (ZG φ'):=
 ZBu λx hx=>ZR λt ht=>h t (ZH3.2 ⟨x,hx,ht⟩)
theorem ZJ6{φ φ':J4}: ∀ {ps:List (Nat×Nat×IO)} {acc:J8},(∀t∈ps.flatMap (λp=>p.2.2.reads),Go.Ab.get φ t=Go.Ab.get φ' t)->JY φ ps acc=JY φ' ps acc
 | [],acc,h=>rfl
 |(off,sz,x)::ps,acc,h=>by
  have hx:ZG φ x=ZG φ' x:=ZR λt ht=>h t (by simp[ht])
  have ih: ∀acc,JY φ ps acc=JY φ' ps acc:=λacc=>ZJ6 λt ht=>h t TW
  simp only[JY,hx,ih]
theorem ZJO(S:Tab){φ φ':J4}(os:J7){e:IE}(h: ∀t∈e.reads,Go.Ab.get φ t=Go.Ab.get φ' t):ZS S φ os e=ZS S φ' os e:=by
 cases e with
 |mv x=>exact Ud
 |nck x=>exact Ud
 |pick p x y=>
  simp only[ZS,ZR (x:=p) (λt ht=>h t W4),ZR (x:=x) (λt ht=>h t W4),ZR (x:=y) (λt ht=>h t W4)]
 |bin op x y=>exact Vh
 |eq k g x y=>exact Vh
 |un op x=>exact Ud
 |cvi k x=>exact Ud
 |b2s x=>exact Ud
 |s2b e x=>exact GA
 |abx e x=>exact GA
 |asl n x hi=>
  cases hi with
  |none=>simp only[ZS,ZR (x:=x) (λt ht=>h t W4)]
  |some y=>exact GA
 |mkm dk ag=>exact GA
 |mup dk x k v=>exact GA
 |mdl dk x k=>exact GA
 |men dk z x k=>exact GA
 |est x s v=>exact GA
 |mcl x=>exact GA
 |rgm x=>exact GA
 |rgs x=>exact GA
 |nxt st x=>exact GA
 |ent x=>exact Ud
 |mln x=>exact Ud
 |mlk dk ok z x k=>simp only[ZS,ZR (x:=x) (λt ht=>h t W4),ZR (x:=k) (λt ht=>h t W4)]
 |fld o n ag x=>exact Ud
 |fad o x=>exact Ud
 |iad sz x y=>exact Vh
 |iada sz l x y=>exact Vh
 |idx x y=>exact Vh
 |idxa sz l ag x y=>exact Vh
 |ld n ag x=>exact Ud
 |sto n x y=>exact GA
 |box x=>exact GA
 |build zs ps=>simp only[ZS,ZJ6 (ps:=ps) h]
 |bsl e sz n xs=>exact GA
 |mks e sz b z x y=>exact GA
 |slc sz x lo hi mx=>
  have hx:=ZR (x:=x) (λt ht=>h t W4);have hlo:lo.map (ZG φ)=lo.map (ZG φ'):=by
   cases lo with
   |none=>rfl
   |some y=>exact Tv
  have hhi:hi.map (ZG φ)=hi.map (ZG φ'):=by
   cases hi with
   |none=>rfl
   |some y=>exact Tv
  have hlo':lo.map (λl=>ZG φ l)=lo.map (λl=>ZG φ' l):=hlo;have hhi':hi.map (λl=>ZG φ l)=hi.map (λl=>ZG φ' l):=hhi;have hmx:mx.map (λl=>ZG φ l)=mx.map (λl=>ZG φ' l):=by
   cases mx with
   |none=>rfl
   |some y=>exact Tv
  cases mx with
  |none=>simp only[ZS,ZIG,ZJb,hx,hlo',hhi',hmx]
  |some y=>simp only[ZS,ZIG,ZJb,hx,hlo',hhi',hmx]
 |ext x i=>exact Ud
 |len st x=>exact Ud
 |app e sz b x y=>exact GA
 |apz e sz b z x y=>exact GA
 |cpy sz x y=>exact GA
 |mnx mx x y=>exact Vh
 |call f xs=>simp only[ZS,ZR (x:=f) (λt ht=>h t W4),ZNW (xs:=xs) (λt ht=>h t (by simp only[IE.reads,KV];exact .inr ht))]
 |mkf f xs=>simp only[ZS,ZNW (xs:=xs) h]
def KD(S:Tabs)(φ:J4)(os:J7)(e:IE):J5:=
 match ZS S.q φ os e with
 |some r=>some r
 |none=>ZCi S.r φ os e
theorem ZLa(S:Tabs){φ φ':J4}(os:J7){e:IE}(h: ∀t∈e.reads,Go.Ab.get φ t=Go.Ab.get φ' t):KD S φ os e=KD S φ' os e:=by
 unfold KD;rw[ZJO S.q os h];have:ZCi S.r φ os e=ZCi S.r φ' os e:=by
  cases e with
  |call f xs=>
   have h1:=ZR (x:=f) (λt ht=>h t W4);have h2: ∀y∈xs,ZG φ y=ZG φ' y:=λy hy=>ZR (λt ht=>h t T1)
   have h3:(xs.map λy=>(ZG φ y).val)=xs.map λy=>(ZG φ' y).val:=ZBu (λy hy=>by rw[h2 y hy])
   have h4:(xs.all λy=>(ZG φ y).cond)=xs.all λy=>(ZG φ' y).cond:=by
    have: ∀l:List IO,(∀y∈l,ZG φ y=ZG φ' y)->(l.all λy=>(ZG φ y).cond)=l.all λy=>(ZG φ' y).cond:=by
     intro l
     induction l with
     |nil=>intro _;rfl
     |cons y l ih=>exact TQ
    exact this xs h2
   simp only[ZCi,h1,h3,h4]
  |_=>rfl
 rw[this]
def Yd(S:Tabs)(φ:J4)(os:J7)(o:IOp):J5:=
 match o.g with
 |none=>KD S φ os o.e
 |some (s,want)=>match(Go.Ab.get φ s).val with
  | .x (.bool b)=>match KD S φ os o.e with
   |some r=>some (!((Go.Ab.get φ s).cond&&(b==want))||r.1,.opt ((Go.Ab.get φ s).cond&&(b==want)) r.2)
   |none=>if(Go.Ab.get φ s).cond&&(b==want)then none else some (true,.opt false .und)
  |_=>if(Go.Ab.get φ s).cond then none else some (true,.opt false .und)
def D.toX? :D->Option X
 | .x y=>some y
 |_=>none
def ZEf(φ:J4)(sz:Nat):List IO->Option (Bool×J6)
 | []=>some (true,[])
 |x::xs=>(ZG φ x).val.cells?.bind λcs=>(cs.mapM D.toX?).bind λr=>if r.length=sz then
   (ZEf φ sz xs).map λq=>((ZG φ x).cond&&q.1,r::q.2)else none
def QY(φ:J4)(id:Nat)(e:IE):Option (Bool×D×Ob):=
 match e with
  | .box x=>(ZG φ x).val.cells?.map λcs=>((ZG φ x).cond,.ptr id 0,.box cs)
  | .bsl e sz n parts=>if n=parts.length then(ZEf φ sz parts).map λq=>(q.1,.ref id n 0 n,.rows false e sz q.2)else none
  | .mkm dk ag=>some (true,.mref id,.mpo dk ag [])
  |_=>none
def QN(φ:J4)(s:Nat)(want:Bool):Bool:=match(Go.Ab.get φ s).val with
 | .x (.bool b)=>(Go.Ab.get φ s).cond&&(b==want)
 |_=>false
def evC(φ:J4)(id:Nat)(o:IOp):Option (Bool×D×Ob):=
 match o.g with
 |some (s,want)=>if QN φ s want=true then QY φ id o.e else none
 |none=>QY φ id o.e
theorem ZHY(S:Tabs){φ φ':J4}(os:J7){o:IOp}(h: ∀t∈o.reads,Go.Ab.get φ t=Go.Ab.get φ' t):Yd S φ os o=Yd S φ' os o:=by
 obtain⟨dst,e,g⟩:=o;cases g with
 |none=>exact ZLa S os (λt ht=>h t U4)
 |some p=>
  obtain⟨s,want⟩:=p;have hs:Go.Ab.get φ s=Go.Ab.get φ' s:=h s (by simp[IOp.reads]);have he:=ZLa S os (e:=e) (φ:=φ) (φ':=φ') (λt ht=>h t U4);simp only[Yd,hs,he]
theorem ZKL{φ φ':J4}{sz:Nat}: ∀ {xs:List IO},(∀t∈xs.flatMap IO.reads,Go.Ab.get φ t=Go.Ab.get φ' t)->ZEf φ sz xs=ZEf φ' sz xs
 | [],h=>rfl
 |x::xs,h=>by
  have hx:ZG φ x=ZG φ' x:=ZR λt ht=>h t (by simp[ht])
  have ih:ZEf φ sz xs=ZEf φ' sz xs:=ZKL λt ht=>h t TW
  simp only[ZEf,hx,ih]
theorem ZV8{φ φ':J4}(id:Nat){e:IE}(h: ∀t∈e.reads,Go.Ab.get φ t=Go.Ab.get φ' t):QY φ id e=QY φ' id e:=by
 cases e with
 |box x=>simp only[QY,ZR (x:=x) (λt ht=>h t W4)]
 |bsl e sz n xs=>simp only[QY,ZKL (xs:=xs) (λt ht=>h t (by simp only[IE.reads];exact ht))]
 |_=>rfl
theorem ZX9{φ φ':J4}(id:Nat){o:IOp}(h: ∀t∈o.reads,Go.Ab.get φ t=Go.Ab.get φ' t):evC φ id o=evC φ' id o:=by
 obtain⟨dst,e,g⟩:=o;have he:=ZV8 (φ:=φ) (φ':=φ') id (e:=e) (λt ht=>h t U4);cases g with
 |some p=>
  have e1:=h p.1 (by simp[IOp.reads]);have e2:QN φ p.1 p.2=QN φ' p.1 p.2:=by unfold QN;rw[e1]
  simp only[evC,he,e2]
 |none=>exact he
theorem ZDA{os Y:J7}{i:Nat}{o:Ob}(h:os[i]? =some o):(os++Y)[i]? =some o:=by
 rw[Yc (ZV h).1];exact h
theorem ZOA{os Y:J7}{d:D}{r:J6}(h:Zy os d=some r):Zy (os++Y) d=some r:=by
 cases d with
 |ref id ext off len=>
  simp only[Zy]at h|-;cases ho:os[id]? with
  |none=>simp[ho]at h
  |some o=>exact Ub
 |x y=>cases y<;>exact h
 |_=>exact h
theorem ZQK{os Y:J7}{d:D}(h:KP os d=true):KP (os++Y) d=true:=by
 cases d with
 |ref id ext off len=>
  simp only[KP]at h|-;cases ho:os[id]? with
  |none=>simp[ho]at h
  |some o=>exact Ub
 |_=>rfl
theorem Zdz{os Y:J7}{k:EqK}{x y:D}{b:Bool}(h:eqR os k x y=some (true,b)):eqR (os++Y) k x y=some (true,b):=by
 unfold eqR at h|-;split at h
 .exact h
 .split at h
  .obtain⟨b',h1,h2⟩:=Za h;simp at h2;obtain⟨rfl,rfl⟩:=h2;refine Zbk.2 ⟨true,?_,rfl⟩;unfold nzD at h1|-;split at h1
   .simp only[Yj,Zk]at h1|-;exact⟨ZQK h1.1,h1.2⟩
   .exact h1
   .exact h1
   .exact h1
   .cases h1
  .cases h
theorem ZJr{os Y:J7}{d:D}{x:X}(h:Jh os d=some x):Jh (os++Y) d=some x:=by
 cases d with
 |x y=>exact h
 |bref id off len=>
  simp only[Jh,Kj,ZMi]at h|-;obtain⟨r,h1,h2⟩:=h;refine⟨r,?_,h2⟩;cases ho:os[id]? with
  |none=>simp[ho]at h1
  |some ob=>rw[ho]at h1;rw[ZDA ho];exact h1
 |_=>
  simp only[Jh,Kj]at h|-;obtain⟨r,h1,h2⟩:=h;exact⟨r,ZOA h1,h2⟩
theorem ZIu{α β:Type}{f g:α->Option β}(hfg: ∀x y,f x=some y->g x=some y): ∀ {l:List α} {m:List β},l.mapM f=some m->l.mapM g=some m
 | [],m,h=>WJ
 |x::l,m,h=>by
  simp only[ZAQ,KE,YF,ZBD]at h|-;obtain⟨y,hy,ys,hys,h⟩:=h;exact⟨y,hfg _ _ hy,ys,ZIu hfg hys,h⟩
theorem ZQA{os Y:J7}{d d':D}(h:Qq os d=some d'):Qq (os++Y) d=some d':=by
 cases d with
 |x y=>exact h
 |agg ds=>
  simp only[Qq,Kj]at h|-;obtain⟨xs,h1,h2⟩:=h;exact⟨xs,ZIu (λ_ _=>ZJr) h1,h2⟩
 |fn f caps=>
  cases caps with
  |nil=>exact h
  |cons a l=>
   simp only[Qq,Kj]at h|-;obtain⟨x,h1,h2⟩:=h;exact⟨x,ZJr h1,h2⟩
 |_=>
  simp only[Qq,Kj]at h|-;obtain⟨x,h1,h2⟩:=h;exact⟨x,ZJr h1,h2⟩
theorem ZcR{S:Tab}{φ:J4}{os Y:J7}{e:IE}{d:D}(h:ZS S φ os e=some (true,d)):ZS S φ (os++Y) e=some (true,d):=by
 cases e with
 |b2s x=>
  simp only[ZS,Kj]at h|-;obtain⟨r,h1,h2⟩:=h;exact⟨r,ZOA h1,h2⟩
 |iad sz x i=>
  simp only[ZS]at h|-;cases hi:ZD (ZG φ i).val with
  |none=>simp[hi]at h
  |some k=>
   simp only[hi]at h|-;generalize hv:(ZG φ x).val=v at h;cases v with
   |ref id ext off len=>
    simp only at h|-;cases ho:os[id]? with
    |none=>simp[ho]at h
    |some o=>exact Ub
   |x y=>cases y<;>exact h
   |_=>exact h
 |ld n ag x=>
  simp only[ZS]at h|-;generalize hv:(ZG φ x).val=v at h;cases v with
  |ptr id o=>
   simp only at h|-;cases ho:os[id]? with
   |none=>simp[ho]at h
   |some ob=>exact Ub
  |eptr id ext i o=>
   simp only at h|-;cases ho:os[id]? with
   |none=>simp[ho]at h
   |some ob=>exact Ub
  |_=>exact h
 |mln x=>
  simp only[ZS]at h|-;generalize hv:(ZG φ x).val=v at h;cases v with
  |mref id=>
   simp only at h|-;cases ho:os[id]? with
   |none=>simp[ho]at h
   |some ob=>exact Ub
  |_=>exact h
 |mlk dk ok z x k=>
  simp only[ZS]at h|-;generalize hv:(ZG φ x).val=v at h;cases v with
  |mref id=>
   simp only at h|-;cases ho:os[id]? with
   |none=>simp[ho]at h
   |some ob=>exact Ub
  |_=>exact h
 |slc sz x lo hi mx=>
  simp only[ZS]at h|-;split
  .rename_i h0;rw[if_pos h0]at h;exact h
  .rename_i h0;rw[if_neg h0]at h;simp only[ZJb]at h|-;generalize hv:(ZG φ x).val=v at h;cases v with
   |ref id ext off len=>
    simp only at h|-;cases ho:os[id]? with
    |none=>simp[ho]at h
    |some ob=>exact Ub
   |x y=>cases y<;>exact h
   |_=>exact h
 |eq k neg x y=>
  simp only[ZS,Kj]at h|-;obtain⟨⟨ok,r⟩,h1,h2⟩:=h;simp only[YN,Zk]at h2;obtain⟨⟨h3,rfl⟩,h4⟩:=h2;exact⟨_,Zdz h1,by simp[h3,<-h4]⟩
 |asl m x hi=>
  cases hi with
  |some y=>exact h
  |none=>
   simp only[ZS]at h|-;generalize hv:(ZG φ x).val=v at h;cases v with
   |ptr id o=>
    simp only at h|-;cases ho:os[id]? with
    |none=>simp[ho]at h
    |some ob=>exact Ub
   |_=>exact h
 |ent x=>
  simp only[ZS]at h|-;generalize hv:(ZG φ x).val=v at h;cases v with
  |iref mid it=>
   simp only at h|-;cases ho:os[mid]? with
   |none=>simp[ho]at h
   |some ob=>exact Ub
  |_=>exact h
 |len st x=>
  simp only[ZS,Kj]at h|-;obtain⟨r,h1,h2⟩:=h;refine⟨r,h1,?_⟩;simp only[YN,Zk]at h2|-;exact⟨⟨h2.1.1,ZQK h2.1.2⟩,h2.2⟩
 |call f xs=>
  simp only[ZS]at h|-;generalize hv:(ZG φ f).val=v at h;cases v with
  |fn g caps=>
   simp only[YF]at h|-;obtain⟨as,h1,cs,h2,r,h3,h4⟩:=h;exact⟨as,ZIu (λ_ _=>ZQA) h1,cs,ZIu (λ_ _=>ZQA) h2,r,h3,h4⟩
  |_=>exact h
 |_=>exact h
theorem ZP7{P:Program}{S:Tabs}(hS:SsOk P S){c:Ctx}{E:Env}{os Y:J7}{n:Nat}{φ:J4}{a:Act}(R:Rel c E (os++Y))(hf:Fr n E (os++Y) φ a){o:Oper}{e:IE}(hc:Ka P o.op=some e){d:D}(h:KD S φ os e=some (true,d)){K:Act->World->Prop}{Q:Exit->Act->World->Prop}
  (hK: ∀v E',Rel c E' (os++Y)->Evo E (os++Y) E' (os++Y)->V E' (os++Y) d v->K (a.put o.dst v) E'.w):o.wp P a E.w K Q:=by
 unfold KD at h;split at h
 .rename_i r hr;cases h;exact ZGw hS.q R hf hc (ZcR hr) hK
 .exact ZaL hS.r R hf hc h hK
theorem ZKB{P:Program}{S:Tabs}(hS:SsOk P S){c:Ctx}{E:Env}{os Y:J7}{n:Nat}{φ:J4}{a:Act}(R:Rel c E (os++Y))(hf:Fr n E (os++Y) φ a){ops:Array Oper}{o:Oper}{io:IOp}(hc:JC P n ops o=some io){d:D}(h:Yd S φ os io=some (true,d)){K:Act->World->Prop}{Q:Exit->Act->World->Prop}
  (hK: ∀v E',Rel c E' (os++Y)->Evo E (os++Y) E' (os++Y)->V E' (os++Y) d v->K (a.put o.dst v) E'.w):
  if Region.wanted o (yielded ops a.tmps)then o.wp P a E.w K Q else K (a.put o.dst undef) E.w:=by
 simp only[JC,YF]at hc;obtain⟨e,he,hc⟩:=hc;split at hc
 .split at hc
  .rename_i hg;cases hc;simp only[Yd]at h;simp only[Region.wanted,hg,if_true];exact ZP7 hS R hf he h hK
  .rename_i j want hg;obtain⟨s,hs,hc⟩:=Za hc;cases hc;simp only[Yd]at h;have hwd:Region.wanted o (yielded ops a.tmps)=(yielded ops a.tmps j==some want):=N0
   rw[hwd];split at h
   .rename_i b hb;rw[ZGR hs hf hb want];split at h
    .rename_i r hr;obtain⟨ok,d⟩:=r;simp only[Yj,YN]at h;obtain⟨h1,rfl⟩:=h;cases hw:((Go.Ab.get φ s).cond&&(b==want))with
     |false=>
      rw[hw]at hK;simp only[JV,if_false];exact hK undef E R (Evo.refl _ _) (.opt (λh=>W6) (λ_=>rfl))
     |true=>
      rw[hw]at hK h1;simp at h1;subst h1;simp only[if_true];exact ZP7 hS R hf he hr (λv E' R' ev hv=>hK v E' R' ev (.opt (λ_=>hv) (λh=>W6)))
    .split at h
     .cases h
     .rename_i hw;simp only[Yj,YN,true_and]at h;subst h;rw[if_neg hw];exact TN
   .split at h
    .cases h
    .rename_i hw;simp only[Yj,YN,true_and]at h;subst h;rw[ZJB hs hf (by simpa using hw) want];simp only[JV,if_false];exact TN
 .cases hc
theorem ZST{c:Ctx}{E:Env}{os:J7}(R:Rel c E os){id:Nat}(hd:os[id]? =some .dead){cs:J8}(vs:Array Value)(t:Nat)(hl:vs.size=cs.length)(h1: ∀u∈vs.toList,u.oneCell'=true)(hv: ∀(j:Nat) (d:D) (u:Value),cs[j]? =some d->vs[j]? =some u->V E os d u):
  ∃E',E'.w=E.w.alloc (.cells vs t)/\Rel c E' (os.set id (.box cs))/\Evo E os E' (os.set id (.box cs))/\V E' (os.set id (.box cs)) (.ptr id 0) (.pointer (some ⟨E.w.heap.size,0,none⟩)):=by
 obtain⟨p,hp,_⟩:=R.at hd;have hlt:=(ZV hd).1;have hk:=Kg E.w (.cells vs t);obtain⟨R',ev⟩:=R.set hd hp (E.w.alloc (.cells vs t)) (.box cs) (E.w.heap.size,undef) ⟨hk.os,hk.tape,hk.output,hk.size,λk hk' _=>hk.block k hk' (λh=>h)⟩ (λb hb=>by cases hb;exact .inr (.inl (Zp _))) (λsz rs h=>W6) (λds h=>W6) (λev=>by
  refine⟨vs,t,heap_alloc_new _ _,hl,λj d v hd hv'=>⟨(hv j d v hd hv').mono ev,h1 v ?_⟩⟩;rw[<-ξO]at hv';exact Yz hv')
 refine⟨_,rfl,R',ev,.ptr (cu:=undef) (ds:=cs) (by simp[hlt]) ?_⟩;show(E.ob.set id (E.w.heap.size,undef))[id]? =_;simp[R.len,hlt]
theorem ZTJ{c:Ctx}{E:Env}{os:J7}(R:Rel c E os){id:Nat}(hd:os[id]? =some .dead){dk:KK}{ag:Bool}{l:W2}(es:Array MapEntry)(clk:Nat)(hok: ∀E' os',Evo E os E' os'->E'.w=E.w.alloc (.map es clk)->YI E' os' E.w.heap.size dk ag l):
  ∃E',E'.w=E.w.alloc (.map es clk)/\Rel c E' (os.set id (.mpo dk ag l))/\Evo E os E' (os.set id (.mpo dk ag l))/\V E' (os.set id (.mpo dk ag l)) (.mref id) (.map (some E.w.heap.size)):=by
 obtain⟨p,hp,_⟩:=R.at hd;have hlt:=(ZV hd).1;have hk:=Kg E.w (.map es clk);obtain⟨R',ev⟩:=R.set hd hp (E.w.alloc (.map es clk)) (.mpo dk ag l) (E.w.heap.size,undef) ⟨hk.os,hk.tape,hk.output,hk.size,λk hk' _=>hk.block k hk' (λh=>h)⟩ (λb hb=>by cases hb;exact .inr (.inl (Zp _))) (λsz rs h=>W6) (λds h=>W6) (λev=>hok _ _ ev rfl);refine⟨_,rfl,R',ev,.mref (cu:=undef) (dk:=dk) (ag:=ag) (o:= .mpo dk ag l) (by simp[hlt]) rfl ?_⟩;show(E.ob.set id (E.w.heap.size,undef))[id]? =_;simp[R.len,hlt]
theorem ZMI{c:Ctx}{E:Env}{os:J7}(R:Rel c E os){id:Nat}(hd:os[id]? =some .dead){w':World}(hk:Kept (λ_=>False) E.w w'){fz:Bool}{e sz:Nat}{rs:J6}{cu:Value}{xs:List Value}(hr:QJ w' fz e sz rs.length cu xs)(hb: ∀b,cu.ownBlock=some b->E.w.heap.size<=b)(hz: ∀r∈rs,r.length=sz)
  (hv: ∀(i:Nat) (r:J9) (j:Nat) (x:X) (v:Value),rs[i]? =some r->r[j]? =some x->xs[i*sz+j]? =some v->VX E.w E.st x v):
  ∃E',E'.w=w'/\Rel c E' (os.set id (.rows fz e sz rs))/\Evo E os E' (os.set id (.rows fz e sz rs))/\V E' (os.set id (.rows fz e sz rs)) (.ref id rs.length 0 rs.length) cu:=by
 obtain⟨p,hp,_⟩:=R.at hd;have hlt:=(ZV hd).1;obtain⟨R',ev⟩:=R.set hd hp w' (.rows fz e sz rs) (0,cu) ⟨hk.os,hk.tape,hk.output,hk.size,λk hk' _=>hk.block k hk' (λh=>h)⟩ (λb hb'=> .inr (.inl (hb b hb'))) (λsz rs h=>W6) (λds h=>W6) (λev=>⟨xs,hr,hz,λi r j x v h1 h2 h3=>(hv i r j x v h1 h2 h3).mono ev.st⟩);have hob:(E.ob.set id (0,cu))[id]? =some (0,cu):=by simp[R.len,hlt]
 refine⟨_,rfl,R',ev,.ref ⟨.rows fz e sz rs,sz,rs.length,by simp[hlt],rfl,?_⟩ ?_⟩
 .refine⟨Zp _,λ_=>⟨J0,0,?_⟩⟩;rcases hr.2 with⟨h3,h4⟩|⟨g,cap,cells,fr,h3,h4,h5,h6,h7⟩
  .exact V9
  .exact VP
 .exact UI
theorem Zbm{cs:J8}{r:J9}(h:cs.mapM D.toX? =some r):r.length=cs.length/\ ∀(j:Nat) (x:X),r[j]? =some x->cs[j]? =some (.x x):=by
 obtain⟨h1,h2⟩:=ZD2 h;refine⟨h1.symm,λj x hx=> ?_⟩;have hj:=(ZV hx).1;have hc:cs[j]? =some (cs[j]' J0):=Zx _;have:=h2 j _ x hc hx;rw[hc];generalize cs[j]' J0=d at this;cases d<;>simp[D.toX?]at this
 rw[this]
section
variable {P:Program} {c:Ctx} {E:Env} {os:J7} {n:Nat} {φ:J4} {a:Act}
theorem ZP5{sz:Nat}(hf:Fr n E os φ a): ∀ {xs:List Operand} {ys:List IO} {rows:J6},xs.mapM ZY=some ys->ZEf φ sz ys=some (true,rows)->
  rows.length=xs.length/\(∀r∈rows,r.length=sz)/\(∀x∈xs,(a.eval x).cells.size=sz/\ ∀u∈(a.eval x).cells.toList,u.oneCell'=true)/\
   ∀(i:Nat) (r:J9) (x:Operand) (j:Nat) (y:X) (v:Value),rows[i]? =some r->xs[i]? =some x->r[j]? =some y->(a.eval x).cells[j]? =some v->VX E.w E.st y v
 | [],ys,rows,hm,h=>by
  simp at hm;subst hm;cases h;exact⟨rfl,λr hr=>TD,λx hx=>(by cases hx),λi r x j y v hr=>(by simp at hr)⟩
 |x::xs,ys,rows,hm,h=>by
  simp only[ZAQ,KE,YF,ZBD]at hm;obtain⟨y,hy,ys',hys,hm⟩:=hm;cases hm;simp only[ZEf,YF]at h;obtain⟨cs,hcs,r,hr,h⟩:=h;split at h
  .rename_i hlen;obtain⟨⟨b,rs⟩,h2,h3⟩:=Za h;simp at h3;obtain⟨⟨hc,rfl⟩,rfl⟩:=h3;obtain⟨q1,q2,q3⟩:=((V.op hf hy).strip hc).cells hcs;obtain⟨m1,m2⟩:=Zbm hr;obtain⟨k3,k4,k5,k6⟩:=ZP5 hf hys h2;refine⟨by simp[k3],λr' hr'=> ?_,λz hz=> ?_,λi r' z j w v hr' hz hw hv=> ?_⟩
   .rcases Kn.1 hr' with rfl|hr'
    .exact hlen
    .exact k4 r' hr'
   .rcases Kn.1 hz with rfl|hz
    .exact⟨J0,q2⟩
    .exact k5 z hz
   .cases i with
    |zero=>
     simp at hr' hz;subst hr';subst hz;exact(q3 j _ v (m2 j w hw) hv).xx
    |succ i=>exact k6 i r' z j w v (by simpa using hr') (by simpa using hz) hw hv
  .cases h
theorem ZNj{ops:Array Oper}{o:Oper}{j s:Nat}{want:Bool}(hg:o.guard=some (j,want))(hs:(ops[j]?).bind (·.dst)=some s)(hf:Fr n E os φ a)(hm:QN φ s want=true):Region.wanted o (yielded ops a.tmps)=true:=by
 have hwd:Region.wanted o (yielded ops a.tmps)=(yielded ops a.tmps j==some want):=N0
 rw[hwd];unfold QN at hm;split at hm
 .rename_i b hb;rw[ZGR hs hf hb want];exact hm
 .cases hm
theorem ZUz(R:Rel c E os)(hf:Fr n E os φ a){o:Oper}{e:IE}(he:Ka P o.op=some e){id:Nat}(hd:os[id]? =some .dead){d:D}{ob:Ob}(h:QY φ id e=some (true,d,ob)){K:Act->World->Prop}{Q:Exit->Act->World->Prop}
  (hK: ∀v E',Rel c E' (os.set id ob)->Evo E os E' (os.set id ob)->V E' (os.set id ob) d v->K (a.put o.dst v) E'.w):
  o.wp P a E.w K Q:=by
 have fin:(∃v E',(execOp a.eval o).run P E.w= .ok (.value v) E'.w/\Rel c E' (os.set id ob)/\Evo E os E' (os.set id ob)/\V E' (os.set id ob) d v)->o.wp P a E.w K Q:=by
  rintro⟨v,E',h1,h2,h3,h4⟩;unfold Oper.wp;rw[h1];exact hK v E' h2 h3 h4
 generalize hop:o.op=op at he;cases e<;>simp only[QY]at h<;>(try cases h)
 case box x=>
  obtain⟨cs,hcs,h⟩:=Za h;simp only[YN]at h;obtain⟨h1,rfl,rfl⟩:=h;refine fin ?_;cases op<;>simp only[Ka]at he<;>(try cases he)
  case box t y=>
   obtain⟨z,hz,he2⟩:=Za he;clear he;split at he2
   .cases he2
   cases he2;obtain⟨q1,q2,q3⟩:=((V.op hf hz).strip h1).cells hcs;obtain⟨E',k1,k2,k3,k4⟩:=ZST R hd (a.eval y).cells t q1 q2 q3;exact⟨_,E',ZGy (s:=Instr.box t (a.eval y)) (by unfold execOp;rw[hop]) (by rw[k1];simp[Instr.box,newVar,newRow]),k2,k3,k4⟩
  case alloc t=>
   simp only[YF,Kj]at he;obtain⟨i,hi,z,hz,he2⟩:=he;split at he2
   .cases he2
   cases he2;have hcs:(Kl z).cells? =some cs:=by
    have:(Kl z).val=Kl z:=T5
    rw[<-this];exact hcs
   obtain⟨q1,q2,q3⟩:=(V.const E os z).cells hcs;obtain⟨E',k1,k2,k3,k4⟩:=ZST R hd z.cells t q1 q2 q3;exact⟨_,E',ZGy (s:=Instr.alloc t true (.tuple #[])) (by unfold execOp;rw[hop]) (by rw[k1];simp[Instr.alloc,zeroValue,ZD1 hi,hz,newVar,newRow]),k2,k3,k4⟩
  case makeFunc fn first caps=>
   cases fn<;>simp only at he<;>(try cases he)
   split at he
   .obtain⟨ys,hys,he⟩:=Zf he;cases he
   .cases he
  all_goals
   exfalso;have hna:NP (λe=>match e with| .box _=>true|_=>false) (some (.box x)):=by
    rw[<-he]
    repeat first|exact NP.none|exact NP.some rfl|(refine NP.bind (λ_=> ?_))|(refine NP.bind' (λ_=> ?_))|(refine NP.map (λ_=>rfl))|(unfold ZB4)|split
   exact absurd (hna _ rfl) J1
 case mkm dk ag=>
  refine fin ?_;cases op<;>simp only[Ka]at he<;>(try cases he)
  case makeMap t r=>
   split at he
   .rename_i key elem hT;obtain⟨dk',hdk,he⟩:=Zf he;obtain⟨ag',hag,he⟩:=Za he;cases he;obtain⟨E',k1,k2,k3,k4⟩:=ZTJ (dk:=dk) (ag:=ag) (l:= []) R hd #[] 0 (λE' os' _ hw=>YI.new E' os' E.w hw dk (ZEG hdk).2 ag);exact⟨_,E',ZGy (s:=Instr.makeMap t none) (by unfold execOp;rw[hop];rfl) (by rw[k1];rfl),k2,k3,k4⟩
   .cases he
  case makeFunc fn first caps=>
   cases fn<;>simp only at he<;>(try cases he)
   split at he
   .obtain⟨ys,hys,he⟩:=Zf he;cases he
   .cases he
  all_goals
   exfalso;have hna:NP (λe=>match e with| .mkm _ _=>true|_=>false) (some (.mkm dk ag)):=by
    rw[<-he]
    repeat first|exact NP.none|exact NP.some rfl|(refine NP.bind (λ_=> ?_))|(refine NP.bind' (λ_=> ?_))|(refine NP.map (λ_=>rfl))|(unfold ZB4)|split
   exact absurd (hna _ rfl) J1
 case bsl el sz m parts=>
  split at h
  .rename_i hm;obtain⟨⟨b,rows⟩,h1,h⟩:=Za h;simp only[YN]at h;obtain⟨rfl,rfl,rfl⟩:=h;refine fin ?_;cases op<;>simp only[Ka]at he<;>(try cases he)
   case buildSlice t m' ps=>
    split at he
    .rename_i el' ht;obtain⟨i,hi,he⟩:=Zf he;obtain⟨z,hz,he⟩:=Zf he;split at he
     .rename_i hle;obtain⟨qs,hqs,he⟩:=Za he;cases he;obtain⟨g1,g2⟩:=ZG0 hqs;obtain⟨k1,k2,k3,k4⟩:=ZP5 hf g1 h1;have hpl:(ps.toList.map (·.2)).length=m:=by simp[hle.1]
      obtain⟨cs,q1,q2,q3⟩:=ZOq (P:=P) ht hi hz ((ps.toList.map (·.2)).map a.eval) (by simpa using hpl) hle.2.1 (λv hv=>V6) E.w;have hrl:rows.length=m:=Wl
      have hrow:QJ (E.w.alloc (.cells cs el)) false el i.size rows.length (.slice (some ⟨E.w.heap.size,0,none⟩) m m) cs.toList:=by
       refine⟨by rw[Qw,q3,hrl],.inr ⟨E.w.heap.size,m,cs,(0,0),by rw[hrl],heap_alloc_new _ _,J0,?_,q3,?_,.inl rfl⟩⟩
       .have:=hle.2.2;simp only[maxLen];omega
       .rw[YO (by rw[Qw,q3,hrl];omega)]
      obtain⟨E',w1,w2,w3,w4⟩:=ZMI R hd (Kg _ _) hrow (λb hb=>Uv) k2 (λk r j x v hk hx hv=>by
       have hk':k<(ps.toList.map (·.2)).length:=by have:=(ZV hk).1;omega
       have hj:j<i.size:=N2
       have hxk:(ps.toList.map (·.2))[k]? =some ((ps.toList.map (·.2))[k]):=Zx hk';rw[q2,ZL7 ((ps.toList.map (·.2)).map a.eval) i.size (λv hv=>V6) k j (a.eval ((ps.toList.map (·.2))[k])) (by rw[YE,hxk];rfl) hj]at hv;exact k4 k r _ j x v hk hxk hx hv)
      rw[hrl]at w4;refine⟨_,E',ZGy (s:=Instr.buildSlice t m (ps.map λ(i,x)=>(i,a.eval x))) (by unfold execOp;rw[hop]) ?_,w2,w3,w4⟩;have e1:(ps.map λ(p:Nat×Operand)=>(p.1,a.eval p.2))=((((ps.toList.map (·.2)).map a.eval).zipIdx 0).map λp=>(p.2,p.1)).toArray:=by
       apply ZDs.1;rw[ZTH];exact ZKh a.eval ps.toList 0 g2
      have e2:(ps.map λ(x:Nat×Operand)=>match x with|(i,x)=>(i,a.eval x))=(ps.map λ(p:Nat×Operand)=>(p.1,a.eval p.2)):=rfl;rw[e2,e1,w1];exact q1
     .cases he
    .cases he
   case makeFunc fn first caps=>
    cases fn<;>simp only at he<;>(try cases he)
    split at he
    .obtain⟨ys,hys,he⟩:=Zf he;cases he
    .cases he
   all_goals
    exfalso;have hna:NP (λe=>match e with| .bsl _ _ _ _=>true|_=>false) (some (.bsl el sz m parts)):=by
     rw[<-he]
     repeat first|exact NP.none|exact NP.some rfl|(refine NP.bind (λ_=> ?_))|(refine NP.bind' (λ_=> ?_))|(refine NP.map (λ_=>rfl))|(unfold ZB4)|split
    exact absurd (hna _ rfl) J1
  .cases h
theorem ZhN(R:Rel c E os)(hf:Fr n E os φ a){ops:Array Oper}{o:Oper}{io:IOp}(hc:JC P n ops o=some io){id:Nat}(hd:os[id]? =some .dead){d:D}{ob:Ob}(h:evC φ id io=some (true,d,ob)){K:Act->World->Prop}{Q:Exit->Act->World->Prop}
  (hK: ∀v E',Rel c E' (os.set id ob)->Evo E os E' (os.set id ob)->V E' (os.set id ob) d v->K (a.put o.dst v) E'.w):
  if Region.wanted o (yielded ops a.tmps)then o.wp P a E.w K Q else K (a.put o.dst undef) E.w:=by
 simp only[JC,YF]at hc;obtain⟨e,he,hc⟩:=hc;split at hc
 .split at hc
  .rename_i hg;cases hc;simp only[Region.wanted,hg,if_true];exact ZUz R hf he hd h hK
  .rename_i j want hg;obtain⟨s,hs,hc⟩:=Za hc;cases hc;simp only[evC]at h;split at h
   .rename_i hm;rw[ZNj hg hs hf hm,if_pos rfl];exact ZUz R hf he hd h hK
   .cases h
 .cases hc
def QB(S:Tabs)(φ:J4)(os:J7)(id:Nat)(o:IOp):Option (Bool×D×Ob):=
 match evC φ id o with
 |some r=>some r
 |none=>match o.g with
  |none=>ZFQ S.k φ os id o.e
  |some (s,want)=>if QN φ s want=true then ZFQ S.k φ os id o.e else none
theorem ZQf(S:Tabs){φ φ':J4}(os:J7)(id:Nat){o:IOp}(h: ∀t∈o.reads,Go.Ab.get φ t=Go.Ab.get φ' t):QB S φ os id o=QB S φ' os id o:=by
 unfold QB;rw[ZX9 id h];have: ∀e,(∀t∈e.reads,Go.Ab.get φ t=Go.Ab.get φ' t)->ZFQ S.k φ os id e=ZFQ S.k φ' os id e:=by
  intro e he;cases e with
  |call f xs=>
   have h1:=ZR (x:=f) (λt ht=>he t W4);have h2: ∀y∈xs,ZG φ y=ZG φ' y:=λy hy=>ZR (λt ht=>he t T1)
   have h3:(xs.map λy=>(ZG φ y).val)=xs.map λy=>(ZG φ' y).val:=ZBu (λy hy=>by rw[h2 y hy])
   have h4:(xs.all λy=>(ZG φ y).cond)=xs.all λy=>(ZG φ' y).cond:=by
    have: ∀l:List IO,(∀y∈l,ZG φ y=ZG φ' y)->(l.all λy=>(ZG φ y).cond)=l.all λy=>(ZG φ' y).cond:=by
     intro l
     induction l with
     |nil=>intro _;rfl
     |cons y l ih=>exact TQ
    exact this xs h2
   simp only[ZFQ,h1,h3,h4]
  |_=>rfl
 obtain⟨dst,e,g⟩:=o;cases g with
 |some p=>
  have e1:=h p.1 (by simp[IOp.reads]);have e2:QN φ p.1 p.2=QN φ' p.1 p.2:=by unfold QN;rw[e1]
  simp only[this e (λt ht=>h t U4),e2]
 |none=>simp only[this e (λt ht=>h t U4)]
theorem ZY9{S:Tabs}(hS:SsOk P S){Y:J7}(R:Rel c E (os++Y))(hf:Fr n E (os++Y) φ a){ops:Array Oper}{o:Oper}{io:IOp}(hc:JC P n ops o=some io){id:Nat}(hd:(os++Y)[id]? =some .dead){d:D}{ob:Ob}(h:QB S φ os id io=some (true,d,ob)){K:Act->World->Prop}{Q:Exit->Act->World->Prop}
  (hK: ∀v E',Rel c E' ((os++Y).set id ob)->Evo E (os++Y) E' ((os++Y).set id ob)->V E' ((os++Y).set id ob) d v->K (a.put o.dst v) E'.w):
  if Region.wanted o (yielded ops a.tmps)then o.wp P a E.w K Q else K (a.put o.dst undef) E.w:=by
 unfold QB at h;split at h
 .rename_i r hr;cases h;exact ZhN R hf hc hd hr hK
 .split at h
  .rename_i hg;simp only[JC,YF]at hc;obtain⟨e,he,hc⟩:=hc;split at hc
   .split at hc
    .rename_i hgo;cases hc;simp only[Region.wanted,hgo,if_true];exact ZSA hS.k R hf he hd h hK
    .obtain⟨s,hs,hc⟩:=Za hc;cases hc;cases hg
   .cases hc
  .rename_i hg;split at h
   .rename_i hm;simp only[JC,YF]at hc;obtain⟨e,he,hc⟩:=hc;split at hc
    .split at hc
     .rename_i hgo;cases hc;cases hg
     .rename_i hgo;obtain⟨s,hs,hc⟩:=Za hc;cases hc;cases hg;rw[ZNj hgo hs hf hm,if_pos rfl];exact ZSA hS.k R hf he hd h hK
    .cases hc
   .cases h
def KN(S:Tabs)(φ:J4)(os:J7)(o:IOp):Option (Bool×D×J7):=
 match o.g with
 |none=>match ZS S.q φ os o.e with
  |some r=>some (r.1,r.2,os)
  |none=>QX S φ os o.e
 |some (s,want)=>match(Go.Ab.get φ s).val with
  | .x (.bool b)=>match ZS S.q φ os o.e with
   |some r=>some (!((Go.Ab.get φ s).cond&&(b==want))||r.1,.opt ((Go.Ab.get φ s).cond&&(b==want)) r.2,os)
   |none=>if(Go.Ab.get φ s).cond&&(b==want)then QX S φ os o.e else some (true,.opt false .und,os)
  |_=>if(Go.Ab.get φ s).cond then none else some (true,.opt false .und,os)
theorem ZKA{φ φ':J4}{sz:Nat}: ∀ {xs:List IO} {os:J7},(∀t∈xs.flatMap IO.reads,Go.Ab.get φ t=Go.Ab.get φ' t)->JZ φ sz os xs=JZ φ' sz os xs
 | [],os,h=>rfl
 |x::xs,os,h=>by
  have hx:ZG φ x=ZG φ' x:=ZR λt ht=>h t (by simp[ht])
  have ih: ∀os,JZ φ sz os xs=JZ φ' sz os xs:=λos=>ZKA λt ht=>h t TW
  simp only[JZ,hx,ih]
theorem ZKb{φ φ':J4}{sz:Nat}: ∀ {xs:List IO},(∀t∈xs.flatMap IO.reads,Go.Ab.get φ t=Go.Ab.get φ' t)->Ja φ sz xs=Ja φ' sz xs
 | [],h=>rfl
 |x::xs,h=>by
  have hx:ZG φ x=ZG φ' x:=ZR λt ht=>h t (by simp[ht])
  have ih:Ja φ sz xs=Ja φ' sz xs:=ZKb λt ht=>h t TW
  simp only[Ja,hx,ih]
theorem ZNa(S:Tabs){φ φ':J4}(os:J7){e:IE}(h: ∀t∈e.reads,Go.Ab.get φ t=Go.Ab.get φ' t):QX S φ os e=QX S φ' os e:=by
 unfold QX;have h1:ZHa S.t φ os e=ZHa S.t φ' os e:=by
  cases e with
  |call f xs=>
   have h1:=ZR (x:=f) (λt ht=>h t W4);have h2: ∀y∈xs,ZG φ y=ZG φ' y:=λy hy=>ZR (λt ht=>h t T1)
   have h3:(xs.map λy=>(ZG φ y).val)=xs.map λy=>(ZG φ' y).val:=ZBu (λy hy=>by rw[h2 y hy])
   have h4:(xs.all λy=>(ZG φ y).cond)=xs.all λy=>(ZG φ' y).cond:=by
    have: ∀l:List IO,(∀y∈l,ZG φ y=ZG φ' y)->(l.all λy=>(ZG φ y).cond)=l.all λy=>(ZG φ' y).cond:=by
     intro l
     induction l with
     |nil=>intro _;rfl
     |cons y l ih=>exact TQ
    exact this xs h2
   simp only[ZHa,h1,h3,h4]
  |_=>rfl
 have h2:YD φ os e=YD φ' os e:=by
  cases e with
  |box x=>exact GQ
  |sto n x y=>exact VB
  |bsl el sz n xs=>simp only[YD,ZKA (xs:=xs) h,ZKb (xs:=xs) h]
  |mks el sz b z x y=>exact VB
  |apz el sz b z x y=>exact VB
  |app el sz b x y=>exact VB
  |cpy sz x y=>exact VB
  |s2b el x=>exact GQ
  |abx el x=>exact GQ
  |mkm dk ag=>rfl
  |mup dk x k v=>exact GK
  |mdl dk x k=>simp only[YD,ZR (x:=x) (λt ht=>h t W4),ZR (x:=k) (λt ht=>h t W4)]
  |men dk z x k=>simp only[YD,ZR (x:=x) (λt ht=>h t W4),ZR (x:=k) (λt ht=>h t W4)]
  |est x k v=>exact GK
  |mcl x=>exact GQ
  |rgm x=>exact GQ
  |rgs x=>exact GQ
  |asl n x hi=>
   cases hi with
   |none=>simp only[YD,ZR (x:=x) (λt ht=>h t W4)]
   |some y=>simp only[YD,ZR (x:=x) (λt ht=>h t W4),ZR (x:=y) (λt ht=>h t (by simp[IE.reads,ZFj,ht]))]
  |_=>rfl
 rw[h1,h2]
theorem ZZN(S:Tabs){φ φ':J4}(os:J7){o:IOp}(h: ∀t∈o.reads,Go.Ab.get φ t=Go.Ab.get φ' t):KN S φ os o=KN S φ' os o:=by
 obtain⟨dst,e,g⟩:=o;cases g with
 |none=>
  have h1:=ZJO S.q os (e:=e) (φ:=φ) (φ':=φ') (λt ht=>h t U4);have h2:=ZNa S os (e:=e) (φ:=φ) (φ':=φ') (λt ht=>h t U4);simp only[KN,h1,h2]
 |some p=>
  obtain⟨s,want⟩:=p;have hs:Go.Ab.get φ s=Go.Ab.get φ' s:=h s (by simp[IOp.reads]);have h1:=ZJO S.q os (e:=e) (φ:=φ) (φ':=φ') (λt ht=>h t U4);have h2:=ZNa S os (e:=e) (φ:=φ) (φ':=φ') (λt ht=>h t U4);simp only[KN,hs,h1,h2]
theorem Zh1{S:Tabs}(hS:SsOk P S)(R:Rel c E os)(hf:Fr n E os φ a){ops:Array Oper}{o:Oper}{io:IOp}(hc:JC P n ops o=some io){d:D}{os':J7}(h:KN S φ os io=some (true,d,os')){K:Act->World->Prop}{Q:Exit->Act->World->Prop}
  (hK: ∀v E',Rel c E' os'->Evo E os E' os'->V E' os' d v->K (a.put o.dst v) E'.w):
  if Region.wanted o (yielded ops a.tmps)then o.wp P a E.w K Q else K (a.put o.dst undef) E.w:=by
 simp only[JC,YF]at hc;obtain⟨e,he,hc⟩:=hc;split at hc
 .rename_i hdst;split at hc
  .rename_i hg;cases hc;simp only[KN]at h;simp only[Region.wanted,hg,if_true];split at h
   .rename_i r hr;obtain⟨ok,d'⟩:=r;simp at h;obtain⟨rfl,rfl,rfl⟩:=h;exact ZGw hS.q R hf he hr hK
   .exact ZNQ hS R hf he h hK
  .rename_i j want hg;obtain⟨s,hs,hc⟩:=Za hc;cases hc;simp only[KN]at h;have hwd:Region.wanted o (yielded ops a.tmps)=(yielded ops a.tmps j==some want):=N0
   rw[hwd];have un: ∀d0:D,d= .opt false d0->os'=os->K (a.put o.dst undef) E.w:=by
    rintro d0 rfl rfl;exact TN
   split at h
   .rename_i b hb;rw[ZGR hs hf hb want];split at h
    .rename_i r hr;obtain⟨ok,d'⟩:=r;simp only[Yj,YN]at h;obtain⟨h1,rfl,rfl⟩:=h;cases hw:((Go.Ab.get φ s).cond&&(b==want))with
     |false=>
      rw[hw]at hK;simp only[JV,if_false];exact hK undef E R (Evo.refl _ _) (.opt (λh=>W6) (λ_=>rfl))
     |true=>
      rw[hw]at hK h1;simp at h1;subst h1;simp only[if_true];exact ZGw hS.q R hf he hr (λv E' R' ev hv=>hK v E' R' ev (.opt (λ_=>hv) (λh=>W6)))
    .split at h
     .rename_i hw;rw[if_pos hw];exact ZNQ hS R hf he h hK
     .exact G6
   .split at h
    .cases h
    .exact UM
 .cases hc
end
abbrev Rec:=Option Nat×D×Option Ob
def IE.frame:IE->Bool
 | .mv _=>true
 | .nck _=>true
 | .pick _ _ _=>true
 | .bin _ _ _=>true
 | .eq .bool _ _ _=>true
 | .eq .ptr _ _ _=>true
 | .eq (.st _) _ _ _=>true
 | .un _ _=>true
 | .cvi _ _=>true
 | .fld _ _ _ _=>true
 | .fad _ _=>true
 | .idx _ _=>true
 | .idxa _ _ _ _ _=>true
 | .build _ _=>true
 | .ext _ _=>true
 | .mnx _ _ _=>true
 | .mkf _ _=>true
 | .len st _=>st
 | .slc n _ _ _ _=>Nat.beq n 0
 |_=>false
mutual
def X.beq:X->X->Bool
 | .int k n,.int k' m=>decide (k=k')&&decide (n=m)
 | .bool a,.bool b=>a==b
 | .str s,.str t=>decide (s=t)
 | .nilp,.nilp=>true
 | .nils,.nils=>true
 | .sl a,.sl b=>X.beqR a b
 |_,_=>false
def X.beqR:J6->J6->Bool
 | [],[]=>true
 |r::l,r'::l'=>X.beqL r r'&&X.beqR l l'
 |_,_=>false
def X.beqL:J9->J9->Bool
 | [],[]=>true
 |x::l,y::l'=>X.beq x y&&X.beqL l l'
 |_,_=>false
end
mutual
theorem X.beq_eq: ∀ {x y:X},X.beq x y=true->x=y
 | .int k n,y,h=>by cases y<;>simp[X.beq]at h;rw[h.1,h.2]
 | .bool a,y,h=>by cases y<;>simp[X.beq]at h;rw[h]
 | .str s,y,h=>by cases y<;>simp[X.beq]at h;rw[h]
 | .nilp,y,h=>by cases y<;>simp[X.beq]at h;rfl
 | .nils,y,h=>by cases y<;>simp[X.beq]at h;rfl
 | .sl a,y,h=>by cases y<;>simp[X.beq]at h;rw[X.beqR_eq h]
theorem X.beqR_eq: ∀ {a b:J6},X.beqR a b=true->a=b
 | [],b,h=>by cases b<;>simp[X.beqR]at h;rfl
 |r::l,b,h=>by cases b<;>simp[X.beqR]at h;rw[X.beqL_eq h.1,X.beqR_eq h.2]
theorem X.beqL_eq: ∀ {a b:J9},X.beqL a b=true->a=b
 | [],b,h=>by cases b<;>simp[X.beqL]at h;rfl
 |x::l,b,h=>by cases b<;>simp[X.beqL]at h;rw[X.beq_eq h.1,X.beqL_eq h.2]
end
mutual
def D.beq:D->D->Bool
 | .x a,.x b=>X.beq a b
 | .ref a b c d,.ref a' b' c' d'=>Nat.beq a a'&&(Nat.beq b b'&&(Nat.beq c c'&&Nat.beq d d'))
 | .ptr a b,.ptr a' b'=>Nat.beq a a'&&Nat.beq b b'
 | .eptr a b c d,.eptr a' b' c' d'=>Nat.beq a a'&&(Nat.beq b b'&&(Nat.beq c c'&&Nat.beq d d'))
 | .vptr a,.vptr b=>X.beqL a b
 | .mref a,.mref b=>Nat.beq a b
 | .mnil,.mnil=>true
 | .iref a b,.iref a' b'=>Nat.beq a a'&&Nat.beq b b'
 | .stk a b,.stk a' b'=>Nat.beq a a'&&Nat.beq b b'
 | .bref a b c,.bref a' b' c'=>Nat.beq a a'&&(Nat.beq b b'&&Nat.beq c c')
 | .agg a,.agg b=>D.beqL a b
 | .tup a,.tup b=>D.beqL a b
 | .full a,.full b=>X.beqR a b
 | .nz a,.nz b=>X.beqR a b
 | .fn f a,.fn g b=>decide (f=g)&&D.beqL a b
 | .opt a d,.opt b e=>(a==b)&&D.beq d e
 | .und,.und=>true
 |_,_=>false
def D.beqL:J8->J8->Bool
 | [],[]=>true
 |d::l,e::l'=>D.beq d e&&D.beqL l l'
 |_,_=>false
end
mutual
theorem D.beq_eq: ∀ {x y:D},D.beq x y=true->x=y
 | .x a,y,h=>by cases y<;>simp[D.beq]at h;rw[X.beq_eq h]
 | .ref a b c d,y,h=>by cases y<;>simp[D.beq]at h;rw[h.1,h.2.1,h.2.2.1,h.2.2.2]
 | .ptr a b,y,h=>GZ
 | .eptr a b c d,y,h=>by cases y<;>simp[D.beq]at h;rw[h.1,h.2.1,h.2.2.1,h.2.2.2]
 | .vptr a,y,h=>by cases y<;>simp[D.beq]at h;rw[X.beqL_eq h]
 | .mref a,y,h=>by cases y<;>simp[D.beq]at h;rw[h]
 | .mnil,y,h=>by cases y<;>simp[D.beq]at h;rfl
 | .iref a b,y,h=>GZ
 | .stk a b,y,h=>GZ
 | .bref a b c,y,h=>by cases y<;>simp[D.beq]at h;rw[h.1,h.2.1,h.2.2]
 | .agg a,y,h=>by cases y<;>simp[D.beq]at h;rw[D.beqL_eq h]
 | .tup a,y,h=>by cases y<;>simp[D.beq]at h;rw[D.beqL_eq h]
 | .full a,y,h=>by cases y<;>simp[D.beq]at h;rw[X.beqR_eq h]
 | .nz a,y,h=>by cases y<;>simp[D.beq]at h;rw[X.beqR_eq h]
 | .fn f a,y,h=>by cases y<;>simp[D.beq]at h;rw[h.1,D.beqL_eq h.2]
 | .opt a d,y,h=>by cases y<;>simp[D.beq]at h;rw[h.1,D.beq_eq h.2]
 | .und,y,h=>by cases y<;>simp[D.beq]at h;rfl
theorem D.beqL_eq: ∀ {a b:J8},D.beqL a b=true->a=b
 | [],b,h=>by cases b<;>simp[D.beqL]at h;rfl
 |d::l,b,h=>by cases b<;>simp[D.beqL]at h;rw[D.beq_eq h.1,D.beqL_eq h.2]
end
def beqR:List J8->List J8->Bool
 | [],[]=>true
 |r::l,r'::l'=>D.beqL r r'&&beqR l l'
 |_,_=>false
theorem beqR_eq: ∀ {a b:List J8},beqR a b=true->a=b
 | [],b,h=>by cases b<;>simp[beqR]at h;rfl
 |r::l,b,h=>by
  cases b<;>simp[beqR]at h
  rw[beqR_eq h.2,D.beqL_eq h.1]
def ZOt(p q:Pr):Bool:=X.beqL p.1 q.1&&D.beqL p.2 q.2
def ZHA:W2->W2->Bool
 | [],[]=>true
 |p::l,q::l'=>ZOt p q&&ZHA l l'
 |_,_=>false
theorem ZVK{p q:Pr}(h:ZOt p q=true):p=q:=by
 simp only[ZOt,Zk]at h;exact ZCE (X.beqL_eq h.1) (D.beqL_eq h.2)
theorem ZGY: ∀ {a b:W2},ZHA a b=true->a=b
 | [],b,h=>by cases b<;>simp[ZHA]at h;rfl
 |p::l,b,h=>by
  cases b<;>simp[ZHA]at h
  rw[ZGY h.2,ZVK h.1]
def ZbM:Option Pr->Option Pr->Bool
 |none,none=>true
 |some p,some q=>ZOt p q
 |_,_=>false
theorem ZeP: ∀ {a b:Option Pr},ZbM a b=true->a=b
 |none,none,_=>rfl
 |some p,some q,h=>by rw[ZVK h]
 |none,some _,h=>W6
 |some _,none,h=>W6
def ZJT:List W2->List W2->Bool
 | [],[]=>true
 |p::l,q::l'=>ZHA p q&&ZJT l l'
 |_,_=>false
theorem ZTP: ∀ {a b:List W2},ZJT a b=true->a=b
 | [],b,h=>by cases b<;>simp[ZJT]at h;rfl
 |p::l,b,h=>by
  cases b<;>simp[ZJT]at h
  rw[ZTP h.2,ZGY h.1]
def ZL8:List (X×J6)->List (X×J6)->Bool
 | [],[]=>true
 |p::l,q::l'=>X.beq p.1 q.1&&(X.beqR p.2 q.2&&ZL8 l l')
 |_,_=>false
theorem ZUn: ∀ {a b:List (X×J6)},ZL8 a b=true->a=b
 | [],b,h=>by cases b<;>simp[ZL8]at h;rfl
 |p::l,b,h=>by
  cases b<;>simp[ZL8]at h
  rw[ZUn h.2.2,ZCE (X.beq_eq h.1) (X.beqR_eq h.2.1)]
def Ob.beq:Ob->Ob->Bool
 | .mpo dk ag l,.mpo dk' ag' l'=>decide (dk=dk')&&((ag==ag')&&ZHA l l')
 | .mit dk ag l it R cur,.mit dk' ag' l' it' R' cur'=>decide (dk=dk')&&((ag==ag')&&(ZHA l l'&&(Nat.beq it it'&&(ZHA R R'&&ZbM cur cur'))))
 | .mpn dk ag l key sid,.mpn dk' ag' l' key' sid'=>decide (dk=dk')&&((ag==ag')&&(ZHA l l'&&(X.beqL key key'&&Nat.beq sid sid')))
 | .itr,.itr=>true
 | .stp,.stp=>true
 | .nit,.nit=>true
 | .sit s p,.sit s' p'=>(s==s')&&Nat.beq p p'
 | .box a,.box b=>D.beqL a b
 | .rows f e s rs,.rows f' e' s' rs'=>(f==f')&&(Nat.beq e e'&&(Nat.beq s s'&&X.beqR rs rs'))
 | .drw e s rs,.drw e' s' rs'=>Nat.beq e e'&&(Nat.beq s s'&&beqR rs rs')
 | .frz s rs,.frz s' rs'=>Nat.beq s s'&&X.beqR rs rs'
 | .old s n,.old s' n'=>Nat.beq s s'&&Nat.beq n n'
 | .fam k P B,.fam k' P' B'=>Nat.beq k k'&&(ZJT P P'&&ZL8 B B')
 | .dead,.dead=>true
 |_,_=>false
theorem Ob.beq_eq{x y:Ob}(h:Ob.beq x y=true):x=y:=by
 cases x<;>cases y<;>simp[Ob.beq]at h
 .rw[D.beqL_eq h]
 .rw[h.1,h.2.1,h.2.2.1,X.beqR_eq h.2.2.2]
 .rw[h.1,h.2.1,beqR_eq h.2.2]
 .rw[h.1,X.beqR_eq h.2]
 .rw[h.1,h.2.1,ZGY h.2.2]
 .rw[h.1,h.2.1,ZGY h.2.2.1,h.2.2.2.1,ZGY h.2.2.2.2.1,ZeP h.2.2.2.2.2]
 .rw[h.1,h.2.1,ZGY h.2.2.1,X.beqL_eq h.2.2.2.1,h.2.2.2.2]
 .rfl
 .rfl
 .rw[h.1,h.2]
 .rfl
 .rw[h.1,h.2]
 .rw[h.1,ZTP h.2.1,ZUn h.2.2]
 .rfl
def KT:J7->J7->Bool
 | [],_=>true
 |x::l,y::l'=>Ob.beq x y&&KT l l'
 |_,_=>false
theorem ZI3: ∀ {a b:J7},KT a b=true-> ∃X,b=a++X
 | [],b,_=>⟨b,rfl⟩
 |x::l,b,h=>by
  cases b with
  |nil=>cases h
  |cons y l'=>
   simp only[KT,Zk]at h;obtain⟨X,rfl⟩:=ZI3 h.2;exact⟨X,by rw[Ob.beq_eq h.1];rfl⟩
def Zi(t:Nat):W0->Bool
 | []=>false
 |u::l=>Nat.beq t u||Zi t l
def IOp.ex(rs:W0)(i:Nat)(o:IOp):Bool:=o.e.frame||Zi i rs
def ZFY(φ:J4)(os:J7)(o:IOp):J5:=match o.g,o.e with
 |none,.b2s (.t u)=>match Go.Ab.get φ u with
  | .ref id ext off len=>(Zy os (.ref id ext off len)).map λrs=>(rs.all ZFh,.x (.str (rs.map ZFI)))
  |_=>none
 |_,_=>none
def Kr(S:Tabs)(os0:J7)(k:Nat)(rs:W0):Nat->J4->Nat->J7->List IOp->Option (Bool×List Rec×List (Option J7))
 |_,_,_,_,[]=>some (true,[],[])
 |i,φ,id,os,o::l=>
  if o.e.frame then(Yd S φ [] o).bind λr=>(Kr S os0 k rs (i+1) (putO φ o.dst r.2) id os l).map λq=>(r.1&&q.1,(o.dst,r.2,none)::q.2.1,none::q.2.2)
  else if Zi i rs then(Yd S φ os0 o).bind λr=>(Kr S os0 k rs (i+1) (putO φ o.dst r.2) id os l).map λq=>(r.1&&q.1,(o.dst,r.2,none)::q.2.1,none::q.2.2)
  else if i<k then match Yd S φ os0 o with
   |some r=>(Kr S os0 k rs (i+1) (putO φ o.dst r.2) id os l).map λq=>(r.1&&q.1,(o.dst,r.2,none)::q.2.1,none::q.2.2)
   |none=>match ZFY φ os o with
    |some r=>(Kr S os0 k rs (i+1) (putO φ o.dst r.2) id os l).map λq=>(r.1&&q.1,(o.dst,r.2,none)::q.2.1,none::q.2.2)
    |none=>(QB S φ os0 id o).bind λr=>(Kr S os0 k rs (i+1) (putO φ o.dst r.2.1) (id+1) (os++ [r.2.2]) l).map λq=>(r.1&&q.1,(o.dst,r.2.1,some r.2.2)::q.2.1,none::q.2.2)
  else(KN S φ os o).bind λr=>(Kr S os0 k rs (i+1) (putO φ o.dst r.2.1) id r.2.2 l).map λq=>(r.1&&q.1,(o.dst,r.2.1,none)::q.2.1,some r.2.2::q.2.2)
def YY:J4->List Rec->J4
 |φ,[]=>φ
 |φ,r::l=>YY (putO φ r.1 r.2.1) l
def Ya:List Rec->J7
 | []=> []
 |(_,_,none)::l=>Ya l
 |(_,_,some ob)::l=>ob::Ya l
def Zq:List (Option J7)->(Nat->Bool)->Nat->J7->J7
 | [],_,_,b=>b
 |none::l,dn,i,b=>Zq l dn (i+1) b
 |some x::l,dn,i,b=>Zq l dn (i+1) (if dn i=true then x else b)
def ZRP(os:J7):List (Option J7)->Bool
 | []=>true
 |none::l=>ZRP os l
 |some x::l=>KT os x&&ZRP os l
def ZMR(rs:W0)(os:J7)(G:List (Option J7)):Bool:=match rs with
 | []=>true
 |_=>ZRP os G
theorem ZKg{os:J7}: ∀ {G:List (Option J7)},ZRP os G=true-> ∀(j:Nat) (x:J7),G[j]? =some (some x)-> ∃Y,x=os++Y
 | [],_,j,x,h=>WG
 |none::l,hb,j,x,h=>by
  cases j with
  |zero=>simp at h
  |succ j=>exact ZKg (G:=l) hb j x WJ
 |some y::l,hb,j,x,h=>by
  simp only[ZRP,Zk]at hb;cases j with
  |zero=>simp at h;subst h;exact ZI3 hb.1
  |succ j=>exact ZKg hb.2 j x WJ
theorem ZJU{os:J7}: ∀ {G:List (Option J7)} (dn:Nat->Bool) (i:Nat) (b:J7),(∀(j:Nat) (x:J7),G[j]? =some (some x)-> ∃Y,x=os++Y)->(∃Y,b=os++Y)-> ∃Y,Zq G dn i b=os++Y
 | [],_,_,b,_,h=>h
 |none::l,dn,i,b,hG,h=>by simp only[Zq];exact ZJU dn (i+1) b (λj x hj=>hG (j+1) x WX) h
 |some y::l,dn,i,b,hG,h=>by
  simp only[Zq];refine ZJU dn (i+1) _ (λj x hj=>hG (j+1) x WX) ?_;split
  .exact hG 0 y rfl
  .exact h
theorem ZAm: ∀(F:List (Option J7)) (dn dn':Nat->Bool) (i:Nat) (b:J7),(∀j x,F[j]? =some (some x)->dn (i+j)=dn' (i+j))->Zq F dn i b=Zq F dn' i b
 | [],_,_,_,_,_=>rfl
 |none::l,dn,dn',i,b,h=>by
  simp only[Zq];exact ZAm l dn dn' (i+1) b (λj x hj=>VW)
 |some y::l,dn,dn',i,b,h=>by
  simp only[Zq];have h0:=h 0 y rfl;rw[JP]at h0;rw[h0];exact ZAm l dn dn' (i+1) _ (λj x hj=>VW)
theorem ZBL: ∀(F:List (Option J7)) (dn:Nat->Bool) (i:Nat) (b:J7),(∀j x,F[j]? =some (some x)->dn (i+j)=false)->Zq F dn i b=b
 | [],_,_,_,_=>rfl
 |none::l,dn,i,b,h=>by
  simp only[Zq];exact ZBL l dn (i+1) b (λj x hj=>VW)
 |some y::l,dn,i,b,h=>by
  have h0:=h 0 y rfl;rw[JP]at h0;simp only[Zq,h0,JV,if_false];exact ZBL l dn (i+1) b (λj x hj=>VW)
theorem ZJL: ∀(F:List (Option J7)) (dn:Nat->Bool) (i:Nat) (b:J7) (m:Nat) (s:J7),F[m]? =some (some s)->dn (i+m)=true->(∀j x,m<j->F[j]? =some (some x)->dn (i+j)=false)->Zq F dn i b=s
 | [],_,_,_,m,s,h,_,_=>WG
 |none::l,dn,i,b,0,s,h,_,_=>WG
 |none::l,dn,i,b,m+1,s,h,hd,hn=>by
  simp only[Zq];exact ZJL l dn (i+1) b m s WJ GC (λj x hj hx=>by rw[show i+1+j=i+(j+1) by omega];exact hn (j+1) x J0 Gv)
 |some y::l,dn,i,b,0,s,h,hd,hn=>by
  simp at h;subst h;rw[JP]at hd;simp only[Zq,hd,if_true];exact ZBL l dn (i+1) y (λj x hj=>by rw[show i+1+j=i+(j+1) by omega];exact hn (j+1) x J0 WX)
 |some y::l,dn,i,b,m+1,s,h,hd,hn=>by
  simp only[Zq];exact ZJL l dn (i+1) _ m s WJ GC (λj x hj hx=>by rw[show i+1+j=i+(j+1) by omega];exact hn (j+1) x J0 Gv)
def look:List Rec->(Nat->Bool)->Nat->D->Nat->D
 | [],_,_,b,_=>b
 |r::l,dn,i,b,t=>look l dn (i+1) (if r.1=some t/\dn i=true then r.2.1 else b) t
def Ji:List Rec->(Nat->Bool)->Nat->J7
 | [],_,_=> []
 |(_,_,none)::l,dn,i=>Ji l dn (i+1)
 |(_,_,some ob)::l,dn,i=>(if dn i=true then ob else .dead)::Ji l dn (i+1)
theorem ZDH: ∀(F:List Rec) (dn dn':Nat->Bool) (i:Nat) (b:D) (t:Nat),(∀j d o,F[j]? =some (some t,d,o)->dn (i+j)=dn' (i+j))->look F dn i b t=look F dn' i b t
 | [],_,_,_,_,_,_=>rfl
 |(dst,d,o)::l,dn,dn',i,b,t,h=>by
  simp only[look];have e:(if dst=some t/\dn i=true then d else b)=(if dst=some t/\dn' i=true then d else b):=by
   by_cases hd:dst=some t
   .subst hd;have:=h 0 d o rfl;rw[JP]at this;rw[this]
   .simp[hd]
  rw[e];exact ZDH l dn dn' (i+1) _ t (λj d' o' hj=>NB)
theorem ZHG: ∀(F:List Rec) (dn:Nat->Bool) (i:Nat) (b:D) (t:Nat),(∀j d o,F[j]? =some (some t,d,o)->dn (i+j)=false)->look F dn i b t=b
 | [],_,_,_,_,_=>rfl
 |(dst,d,o)::l,dn,i,b,t,h=>by
  simp only[look];have e:(if dst=some t/\dn i=true then d else b)=b:=by
   by_cases hd:dst=some t
   .subst hd;have:=h 0 d o rfl;rw[JP]at this;simp[this]
   .simp[hd]
  rw[e];exact ZHG l dn (i+1) b t (λj d' o' hj=>NB)
theorem ZSH: ∀(F:List Rec) (dn:Nat->Bool) (i:Nat) (b:D) (m:Nat) (dst:Option Nat) (d:D) (o:Option Ob) (t:Nat),F[m]? =some (dst,d,o)->(∀j u d' o',F[j]? =some (some u,d',o')->dst=some u->j=m)->
  look F (λj=>dn j||decide (j=i+m)) i b t=if dst=some t then d else look F dn i b t
 | [],_,_,_,m,_,_,_,_,h,_=>WG
 |(dst0,d0,o0)::l,dn,i,b,0,dst,d,o,t,h,hu=>by
  simp at h;obtain⟨rfl,rfl,rfl⟩:=h;simp only[look,JP];have hrest: ∀b,look l (λj=>dn j||decide (j=i)) (i+1) b t=look l dn (i+1) b t:=λb=>ZDH l _ _ _ _ _ (λj d' o' hj=>W3)
  rw[hrest];by_cases hd:dst0=some t
  .subst hd;simp only[true_and,decide_true,ZEL,if_true];exact ZHG l dn (i+1) d0 t (λj d' o' hj=>by have:=hu (j+1) t d' o' WX rfl;omega)
  .simp[hd]
 |(dst0,d0,o0)::l,dn,i,b,m+1,dst,d,o,t,h,hu=>by
  simp only[look];have ih:=λb=>ZSH l dn (i+1) b m dst d o t WJ (λj u d' o' hj hd=>by have:=hu (j+1) u d' o' WX hd;omega)
  have e: ∀b,look l (λj=>dn j||decide (j=i+(m+1))) (i+1) b t=look l (λj=>dn j||decide (j=i+1+m)) (i+1) b t:=λb=>ZDH l _ _ _ _ _ (λj d' o' hj=>NL)
  rw[e,ih];have e2:decide (i=i+(m+1))=false:=TC
  rw[e2,ZD3]
theorem ZEB: ∀(F:List Rec) (dn dn':Nat->Bool) (i:Nat),(∀j r,F[j]? =some r->dn (i+j)=dn' (i+j))->Ji F dn i=Ji F dn' i
 | [],_,_,_,_=>rfl
 |(dst,d,none)::l,dn,dn',i,h=>by
  simp only[Ji];exact ZEB l dn dn' (i+1) (λj r hj=>VY)
 |(dst,d,some ob)::l,dn,dn',i,h=>by
  simp only[Ji];have h0:=h 0 _ rfl;rw[JP]at h0;rw[h0,ZEB l dn dn' (i+1) (λj r hj=>VY)]
theorem ZPf: ∀(F:List Rec) (dn:Nat->Bool) (i m:Nat) (dst:Option Nat) (d:D),F[m]? =some (dst,d,none)->Ji F (λj=>dn j||decide (j=i+m)) i=Ji F dn i
 | [],_,_,_,_,_,h=>WG
 |(dst0,d0,o0)::l,dn,i,0,dst,d,h=>by
  simp at h;obtain⟨rfl,rfl,rfl⟩:=h;simp only[Ji,JP];exact ZEB l _ _ _ (λj r hj=>W3)
 |(dst0,d0,o0)::l,dn,i,m+1,dst,d,h=>by
  have ih:=ZPf l dn (i+1) m dst d WJ;have e:Ji l (λj=>dn j||decide (j=i+(m+1))) (i+1)=Ji l dn (i+1):=by
   rw[<-ih];exact ZEB l _ _ _ (λj r hj=>NL)
  cases o0 with
  |none=>simp only[Ji];exact e
  |some ob=>
   have e2:decide (i=i+(m+1))=false:=TC
   simp only[Ji,e,e2,ZD3]
def Yx:List Rec->Nat->Nat
 |_,0=>0
 | [],_+1=>0
 |(_,_,none)::l,m+1=>Yx l m
 |(_,_,some _)::l,m+1=>Yx l m+1
theorem ZMA: ∀(F:List Rec) (dn:Nat->Bool) (i m:Nat) (dst:Option Nat) (d:D) (ob:Ob),F[m]? =some (dst,d,some ob)->dn (i+m)=false->(Ji F dn i)[Yx F m]? =some .dead/\Ji F (λj=>dn j||decide (j=i+m)) i=(Ji F dn i).set (Yx F m) ob
 | [],_,_,_,_,_,_,h,_=>WG
 |(dst0,d0,o0)::l,dn,i,0,dst,d,ob,h,hd=>by
  simp at h;obtain⟨rfl,rfl,rfl⟩:=h;rw[JP]at hd;simp only[Ji,JP,Yx,hd];refine⟨J1,?_⟩;have:Ji l (λj=>dn j||decide (j=i)) (i+1)=Ji l dn (i+1):=ZEB l _ _ _ (λj r hj=>W3);rw[this];simp
 |(dst0,d0,o0)::l,dn,i,m+1,dst,d,ob,h,hd=>by
  have hd':dn (i+1+m)=false:=GC
  obtain⟨k1,k2⟩:=ZMA l dn (i+1) m dst d ob WJ hd';have e:Ji l (λj=>dn j||decide (j=i+(m+1))) (i+1)=(Ji l dn (i+1)).set (Yx l m) ob:=by
   rw[<-k2];exact ZEB l _ _ _ (λj r hj=>NL)
  cases o0 with
  |none=>simp only[Ji,Yx];exact⟨k1,e⟩
  |some ob0=>
   have e2:decide (i=i+(m+1))=false:=TC
   simp only[Ji,Yx,e,e2,ZD3];exact⟨Gu,J1⟩
theorem ZIF: ∀(F:List Rec) (dn:Nat->Bool) (i:Nat),(∀j r,F[j]? =some r->dn (i+j)=true)->Ji F dn i=Ya F
 | [],_,_,_=>rfl
 |(dst,d,none)::l,dn,i,h=>by
  simp only[Ji,Ya];exact ZIF l dn (i+1) (λj r hj=>VY)
 |(dst,d,some ob)::l,dn,i,h=>by
  simp only[Ji,Ya];have h0:=h 0 _ rfl;rw[JP]at h0;rw[h0,ZIF l dn (i+1) (λj r hj=>VY)];rfl
theorem ZMc: ∀(F:List Rec) (φ:J4) (m i:Nat) (t:Nat),Go.Ab.get (YY φ (F.take m)) t=look F (λj=>decide (j<i+m)) i (Go.Ab.get φ t) t
 | [],φ,m,i,t=>by simp[YY,look]
 |(dst,d,o)::l,φ,0,i,t=>by
  simp only[ZB6,YY,JP];rw[ZHG _ _ _ _ _ (λj d' o' hj=>J1)]
 |(dst,d,o)::l,φ,m+1,i,t=>by
  simp only[Qy,YY,look];rw[ZMc l _ m (i+1) t];have e1:Go.Ab.get (putO φ dst d) t=if dst=some t/\decide (i<i+(m+1))=true then d else Go.Ab.get φ t:=by
   cases dst with
   |none=>simp[putO]
   |some u=>
    simp only[putO,ZOx];simp
  rw[e1];exact ZDH l _ _ _ _ _ (λj d' o' hj=>by congr 1;simp;omega)
theorem ZAd: ∀(G:List (Option J7)) (i j:Nat) (b:J7),Zq G (λ_=>true) i b=Zq G (λ_=>true) j b
 | [],_,_,_=>rfl
 |none::l,i,j,b=>by simp only[Zq];exact ZAd l _ _ b
 |some x::l,i,j,b=>by simp only[Zq];exact ZAd l _ _ _
theorem ZHD{S:Tabs}{os0:J7}{k:Nat}{rs:W0}: ∀ {il:List IOp} {i:Nat} {φ:J4} {id:Nat} {os:J7} {b:Bool} {F:List Rec} {G:List (Option J7)},k<=i->Kr S os0 k rs i φ id os il=some (b,F,G)-> ∀q,Ya (F.take q)= []
 | [],i,φ,id,os,b,F,G,hk,h,q=>by simp[Kr]at h;obtain⟨_,rfl,_⟩:=h;simp[Ya]
 |o::l,i,φ,id,os,b,F,G,hk,h,q=>by
  simp only[Kr]at h;have hik: ¬(i<k):=Wl
  split at h
  .obtain⟨r,_,h⟩:=Zf h;obtain⟨⟨b',F',G'⟩,h1,h2⟩:=Za h;simp only[YN]at h2;obtain⟨_,rfl,rfl⟩:=h2;cases q with
   |zero=>rfl
   |succ q=>simp only[Qy,Ya];exact ZHD J0 h1 q
  split at h
  .obtain⟨r,_,h⟩:=Zf h;obtain⟨⟨b',F',G'⟩,h1,h2⟩:=Za h;simp only[YN]at h2;obtain⟨_,rfl,rfl⟩:=h2;cases q with
   |zero=>rfl
   |succ q=>simp only[Qy,Ya];exact ZHD J0 h1 q
  .try rw[if_neg hik]at h
   obtain⟨r,_,h⟩:=Zf h;obtain⟨⟨b',F',G'⟩,h1,h2⟩:=Za h;simp only[YN]at h2;obtain⟨_,rfl,rfl⟩:=h2;cases q with
   |zero=>rfl
   |succ q=>simp only[Qy,Ya];exact ZHD J0 h1 q
inductive Step (S:Tabs) (os0:J7) (k:Nat) (rs:W0) (φ:J4) (id:Nat) (cur:J7) (i:Nat) (io:IOp):D->Option Ob->Option J7->Prop
 |frame {d:D} (hf:io.e.frame=true) (h:Yd S φ [] io=some (true,d)):Step S os0 k rs φ id cur i io d none none
 |look {d:D} (hf:Zi i rs=true) (h:Yd S φ os0 io=some (true,d)):Step S os0 k rs φ id cur i io d none none
 |read {d:D} (hf:io.ex rs i=false) (hk:i<k) (h:Yd S φ os0 io=some (true,d)):Step S os0 k rs φ id cur i io d none none
 |near {d:D} (hf:io.ex rs i=false) (hk:i<k) (h:ZFY φ cur io=some (true,d)):Step S os0 k rs φ id cur i io d none none
 |make {d:D} {x:Ob} (hf:io.ex rs i=false) (hk:i<k) (h:QB S φ os0 id io=some (true,d,x)):Step S os0 k rs φ id cur i io d (some x) none
 |turn {d:D} {s:J7} (hf:io.ex rs i=false) (hk:k<=i) (h:KN S φ cur io=some (true,d,s)):Step S os0 k rs φ id cur i io d none (some s)
theorem ZEs{S:Tabs}{os0:J7}{k:Nat}{rs:W0}: ∀ {il:List IOp} {i:Nat} {φ:J4} {id:Nat} {os:J7} {F:List Rec} {G:List (Option J7)},Kr S os0 k rs i φ id os il=some (true,F,G)->F.length=il.length/\G.length=il.length/\
  ∀q io,il[q]? =some io-> ∃d x s,F[q]? =some (io.dst,d,x)/\G[q]? =some s/\Step S os0 k rs (YY φ (F.take q)) (id+Yx F q) (Zq (G.take q) (λ_=>true) 0 (os++Ya (F.take q))) (i+q) io d x s
 | [],i,φ,id,os,F,G,h=>by simp[Kr]at h;obtain⟨rfl,rfl⟩:=h;exact⟨rfl,rfl,λq io hi=>by simp at hi⟩
 |o::l,i,φ,id,os,F,G,h=>by
  simp only[Kr]at h;split at h
  .rename_i hf;obtain⟨⟨b0,d0⟩,hr,h⟩:=Zf h;obtain⟨⟨b,F',G'⟩,h1,h2⟩:=Za h;simp at h2;obtain⟨⟨rfl,rfl⟩,rfl,rfl⟩:=h2;obtain⟨k1,k2,k3⟩:=ZEs h1;refine⟨by simp[k1],by simp[k2],λq io hi=> ?_⟩;cases q with
   |zero=>simp at hi;subst hi;exact⟨d0,none,none,rfl,rfl,.frame hf hr⟩
   |succ q=>
    exact WO
  .rename_i hf0;split at h
   .rename_i hf;obtain⟨⟨b0,d0⟩,hr,h⟩:=Zf h;obtain⟨⟨b,F',G'⟩,h1,h2⟩:=Za h;simp at h2;obtain⟨⟨rfl,rfl⟩,rfl,rfl⟩:=h2;obtain⟨k1,k2,k3⟩:=ZEs h1;refine⟨by simp[k1],by simp[k2],λq io hi=> ?_⟩;cases q with
    |zero=>simp at hi;subst hi;exact⟨d0,none,none,rfl,rfl,.look hf hr⟩
    |succ q=>
     exact WO
   rename_i hf;have hf:o.ex rs i=false:=by simp only[IOp.ex,ZTx];exact⟨by simpa using hf0,by simpa using hf⟩
   split at h
   .rename_i hik;split at h
    .rename_i r hr;obtain⟨⟨b,F',G'⟩,h1,h2⟩:=Za h;obtain⟨b0,d0⟩:=r;simp at h2;obtain⟨⟨rfl,rfl⟩,rfl,rfl⟩:=h2;obtain⟨k1,k2,k3⟩:=ZEs h1;refine⟨by simp[k1],by simp[k2],λq io hi=> ?_⟩;cases q with
     |zero=>simp at hi;subst hi;exact⟨d0,none,none,rfl,rfl,.read hf hik hr⟩
     |succ q=>
      exact WO
    .split at h
     .rename_i r hr;obtain⟨⟨b,F',G'⟩,h1,h2⟩:=Za h;obtain⟨b0,d0⟩:=r;simp at h2;obtain⟨⟨rfl,rfl⟩,rfl,rfl⟩:=h2;obtain⟨k1,k2,k3⟩:=ZEs h1;refine⟨by simp[k1],by simp[k2],λq io hi=> ?_⟩;cases q with
      |zero=>simp at hi;subst hi;exact⟨d0,none,none,rfl,rfl,.near hf hik (by simpa[Ya,Zq,YY]using hr)⟩
      |succ q=>
       exact WO
     .obtain⟨⟨b0,d0,x0⟩,hr,h⟩:=Zf h;obtain⟨⟨b,F',G'⟩,h1,h2⟩:=Za h;simp at h2;obtain⟨⟨rfl,rfl⟩,rfl,rfl⟩:=h2;obtain⟨k1,k2,k3⟩:=ZEs h1;refine⟨by simp[k1],by simp[k2],λq io hi=> ?_⟩;cases q with
      |zero=>simp at hi;subst hi;exact⟨d0,some x0,none,rfl,rfl,.make hf hik hr⟩
      |succ q=>
       obtain⟨d,x,s,w1,w2,w3⟩:=k3 q io U8;refine⟨d,x,s,by simpa using w1,by simpa using w2,?_⟩;simp only[Qy,YY,Yx,Zq,Ya];rw[ZAd _ 1 0,show i+(q+1)=i+1+q by omega,show id+(Yx F' q+1)=id+1+Yx F' q by omega];rw[Yw]at w3;exact w3
   .rename_i hik;obtain⟨⟨b0,d0,s0⟩,hr,h⟩:=Zf h;obtain⟨⟨b,F',G'⟩,h1,h2⟩:=Za h;simp at h2;obtain⟨⟨rfl,rfl⟩,rfl,rfl⟩:=h2;obtain⟨k1,k2,k3⟩:=ZEs h1;refine⟨by simp[k1],by simp[k2],λq io hi=> ?_⟩;cases q with
    |zero=>simp at hi;subst hi;exact⟨d0,none,some s0,rfl,rfl,.turn hf J0 (by simpa[Ya,Zq,YY]using hr)⟩
    |succ q=>
     obtain⟨d,x,s,w1,w2,w3⟩:=k3 q io U8;refine⟨d,x,s,by simpa using w1,by simpa using w2,?_⟩;rw[ZHD J0 h1 q,Ks]at w3;simp only[Qy,YY,Yx,Zq,Ya,if_true];rw[ZAd _ 1 0,show i+(q+1)=i+1+q by omega];exact w3
def aft(o:Oper):W0:=(o.after.toList.filter (Region.binds .any)).map (·.on)
def ZK4(acc:W0):W0->Nat
 | []=>0
 |j::l=>(2^j|||acc.getD j 0)|||ZK4 acc l
def ZAe:W0->List Oper->W0
 |acc,[]=>acc
 |acc,o::l=>ZAe (acc++ [ZK4 acc (aft o)]) l
def ZQ8:Nat->List Oper->Bool
 |_,[]=>true
 |i,o::l=>(aft o).all (λj=>Nat.blt j i)&&ZQ8 (i+1) l
def ZQ7(t:Nat):List IOp->Bool
 | []=>true
 |y::l=>(match y.dst with|some u=> !(Nat.beq t u)|none=>true)&&ZQ7 t l
def ZWT:List IOp->Bool
 | []=>true
 |x::l=>(match x.dst with|some t=>ZQ7 t l|none=>true)&&ZWT l
def ZSP(i:Nat)(rs af:W0):Nat->List (IOp×Oper)->Bool
 |_,[]=>true
 |j,(y,p)::l=>(match y.dst with|some u=> !(Zi u rs)||((Nat.blt j i&&Zi j af)||(Nat.blt i j&&Zi i (aft p)))|none=>true)&&ZSP i rs af (j+1) l
def rdB(all:List (IOp×Oper)):Nat->List (IOp×Oper)->Bool
 |_,[]=>true
 |i,(x,o)::l=>ZSP i x.reads (aft o) 0 all&&rdB all (i+1) l
def ZQr(k:Nat)(rs:W0)(L:Nat):Nat->Nat->W0->List IOp->Bool
 |i,m,c::l,o::il=>(o.ex rs i||(Nat.blt i k||(Nat.beq i L||Nat.beq (Nat.land c m) m)))&&ZQr k rs L (i+1) (if o.ex rs i then m else m|||2^i) l il
 |_,_,_,_=>true
def ZC8(ops:List Oper)(il:List IOp)(k:Nat)(rs:W0)(L:Nat):Bool:=
 ZQ8 0 ops&&(ZWT il&&(rdB (il.zip ops) 0 (il.zip ops)&&ZQr k rs L 0 0 (ZAe [] ops) il))
theorem ZB7{t:Nat}: ∀ {l:W0},Zi t l=true↔t∈l
 | []=>by simp[Zi]
 |u::l=>by simp[Zi,ZB7]
theorem ZNT: ∀ {l:List Oper} {i:Nat},ZQ8 i l=true-> ∀q o,l[q]? =some o-> ∀j∈aft o,j<i+q
 | [],_,_,q,o,h=>WG
 |p::l,i,hb,q,o,h=>by
  simp only[ZQ8,Zk]at hb;intro j hj;cases q with
  |zero=>simp at h;subst h;have:=Yg.1 hb.1 j hj;simpa[ZLr]using this
  |succ q=>have:=ZNT hb.2 q o WJ j hj;omega
theorem ZJR{t:Nat}: ∀ {l:List IOp},ZQ7 t l=true-> ∀(j:Nat) (y:IOp),l[j]? =some y->y.dst≠some t
 | [],_,j,y,h=>WG
 |z::l,hb,j,y,h=>by
  simp only[ZQ7,Zk]at hb;cases j with
  |zero=>
   simp at h;subst h;intro he;rw[he]at hb;simp at hb
  |succ j=>exact ZJR hb.2 j y WJ
theorem ZP4: ∀ {l:List IOp},ZWT l=true-> ∀(i j:Nat) (x y:IOp) (t:Nat),l[i]? =some x->l[j]? =some y->x.dst=some t->y.dst=some t->i=j
 | [],_,i,j,x,y,t,h,_,_,_=>WG
 |z::l,hb,i,j,x,y,t,hi,hj,hx,hy=>by
  simp only[ZWT,Zk]at hb;cases i with
  |zero=>
   cases j with
   |zero=>rfl
   |succ j=>
    simp at hi;subst hi;rw[hx]at hb;exact absurd hy (ZJR hb.1 j y WX)
  |succ i=>
   cases j with
   |zero=>
    simp at hj;subst hj;rw[hy]at hb;exact absurd hx (ZJR hb.1 i x U8)
   |succ j=>rw[ZP4 hb.2 i j x y t U8 WX hx hy]
theorem ZQQ{i:Nat}{rs af:W0}: ∀ {l:List (IOp×Oper)} {j:Nat},ZSP i rs af j l=true-> ∀(q:Nat) (y:IOp) (p:Oper) (u:Nat),l[q]? =some (y,p)->y.dst=some u->u∈rs->(j+q<i/\j+q∈af)\/(i<j+q/\i∈aft p)
 | [],_,_,q,y,p,u,h,_,_=>WG
 |(z,r)::l,j,hb,q,y,p,u,h,hy,hu=>by
  simp only[ZSP,Zk]at hb;cases q with
  |zero=>
   simp at h;obtain⟨rfl,rfl⟩:=h;rw[hy]at hb;simp only[ZBW,ZGo,Zk,ZLr,ZB7]at hb;rcases hb.1 with h|h
   .have:=ZB7.2 hu;rw[h]at this;cases this
   .simpa using h
  |succ q=>
   have:=ZQQ hb.2 q y p u WJ hy hu;rw[show j+(q+1)=j+1+q by omega];exact this
theorem ZTj{all:List (IOp×Oper)}: ∀ {l:List (IOp×Oper)} {i:Nat},rdB all i l=true-> ∀(q:Nat) (x:IOp) (o:Oper),l[q]? =some (x,o)->ZSP (i+q) x.reads (aft o) 0 all=true
 | [],_,_,q,x,o,h=>WG
 |(z,r)::l,i,hb,q,x,o,h=>by
  simp only[rdB,Zk]at hb;cases q with
  |zero=>simp at h;obtain⟨rfl,rfl⟩:=h;exact hb.1
  |succ q=>have:=ZTj hb.2 q x o WJ;rw[show i+(q+1)=i+1+q by omega];exact this
theorem ZT6{i L:Nat}(h:i≠L):Nat.beq i L=false:=by cases hb:Nat.beq i L with
 |false=>rfl
 |true=>exact absurd (ZL5 hb) h
theorem ZNt{k:Nat}{rs:W0}{L:Nat}: ∀ {l:W0} {il:List IOp} {i m:Nat},ZQr k rs L i m l il=true-> ∀(q c:Nat) (o:IOp),l[q]? =some c->il[q]? =some o->o.ex rs (i+q)=false->k<=i+q->i+q≠L->
  (∀t,m.testBit t=true->c.testBit t=true)/\ ∀(j:Nat) (y:IOp),j<q->il[j]? =some y->y.ex rs (i+j)=false->c.testBit (i+j)=true
 | [],_,_,_,_,q,c,o,h,_,_,_,_=>WG
 |_::_,[],_,_,_,q,c,o,_,h,_,_,_=>WG
 |z::l,x::il,i,m,hb,q,c,o,h,ho,hf,hk,hL=>by
  simp only[ZQr,Zk]at hb;cases q with
  |zero=>
   simp at h ho;subst h;subst ho;have hik:Nat.blt i k=false:=by
    cases hb':Nat.blt i k with
    |false=>rfl
    |true=>rw[ZLr]at hb';omega
   rw[JP]at hf hL;rw[hf,hik,ZT6 hL]at hb;simp only[ZEv,Nat.beq_eq]at hb;refine⟨λt ht=> ?_,λj y hj=>J0⟩;have:(Nat.land z m).testBit t=true:=by rw[hb.1];exact ht
   have h2:(z&&&m).testBit t=true:=this;rw[Nat.testBit_and,Zk]at h2;exact h2.1
  |succ q=>
   obtain⟨h1,h2⟩:=ZNt hb.2 q c o WJ Gw (by rw[show i+1+q=i+(q+1) by omega];exact hf) J0 J0;have hsub: ∀t,m.testBit t=true->c.testBit t=true:=λt ht=>h1 t (by
    split
    .exact ht
    .rw[Nat.testBit_or,ht];rfl)
   refine⟨hsub,λj y hj hy hyf=> ?_⟩;cases j with
   |zero=>
    simp at hy;subst hy;rw[JP]at hyf|-;refine h1 i ?_;rw[hyf];simp[Nat.testBit_or]
   |succ j=>
    have:=h2 j y J0 (by simpa using hy) (by rw[show i+1+j=i+(j+1) by omega];exact hyf);rw[show i+(j+1)=i+1+j by omega];exact this
theorem ZP0{acc:W0}{q:Nat}: ∀ {l:W0},(ZK4 acc l).testBit q=true-> ∃j∈l,q=j\/(acc.getD j 0).testBit q=true
 | [],h=>by simp[ZK4]at h
 |j::l,h=>by
  simp only[ZK4,Nat.testBit_or,ZBW,Nat.testBit_two_pow,Ym]at h;rcases h with(h|h)|h
  .exact⟨j,J1,.inl h.symm⟩
  .exact⟨j,J1,.inr h⟩
  .obtain⟨j',h1,h2⟩:=ZP0 h;exact⟨j',by simp[h1],h2⟩
def ZNP(ops:List Oper)(dn:Nat->Bool):Prop:= ∀(i:Nat) (o:Oper),ops[i]? =some o->dn i=true-> ∀j∈aft o,dn j=true
theorem ZQI: ∀(l pre:List Oper) (acc:W0),acc.length=pre.length->(∀(i:Nat) (c:Nat),acc[i]? =some c-> ∀dn:Nat->Bool,ZNP (pre++l) dn->((pre++l)[i]?).any (λo=>(aft o).all dn)=true-> ∀j,c.testBit j=true->dn j=true)->
  (∀(i:Nat) (o:Oper),(pre++l)[i]? =some o-> ∀j∈aft o,j<i)->
  (ZAe acc l).length=(pre++l).length/\ ∀(i:Nat) (c:Nat),(ZAe acc l)[i]? =some c-> ∀dn:Nat->Bool,ZNP (pre++l) dn->((pre++l)[i]?).any (λo=>(aft o).all dn)=true-> ∀j,c.testBit j=true->dn j=true
 | [],pre,acc,hl,h,_=>⟨by simpa[ZAe]using hl,by simpa[ZAe]using h⟩
 |o::l,pre,acc,hl,h,hb=>by
  have e:pre++o::l=(pre++ [o])++l:=TC
  have:=ZQI l (pre++ [o]) (acc++ [ZK4 acc (aft o)]) (by simp[hl]) (by
   rw[<-e];intro i c hc dn hcl hd j hj;by_cases hi:i<acc.length
   .rw[Yc hi]at hc;exact h i c hc dn hcl hd j hj
   .have hlt:=(ZV hc).1;simp at hlt;have hi':i=acc.length:=Wl
    subst hi';rw[QL (Zp _)]at hc;simp at hc;subst hc;have ho:(pre++o::l)[acc.length]? =some o:=by rw[hl,QL (Zp _)];simp
    rw[ho]at hd;simp only[Option.any_some]at hd;have hall:=Yg.1 hd;obtain⟨m,hm,hj⟩:=ZP0 hj;have hmd:=hall m hm;rcases hj with rfl|hj
    .exact hmd
    .have hml:=hb _ o ho m hm;have hma:acc[m]? =some (acc[m]'hml):=Zx hml;have hmo: ∃om,(pre++o::l)[m]? =some om:=⟨_,Zx W3⟩;obtain⟨om,hom⟩:=hmo;simp only[List.getD,hma,Qu]at hj;refine h m _ hma dn hcl ?_ j hj;rw[hom];simp only[Option.any_some];exact Yg.2 (λq hq=>hcl m om hom hmd q hq)) (by rw[<-e];exact hb)
  rw[<-e]at this;exact this
open Go Go.RowKit Go.Bo
def ZCI(kp:W0)(φ:J4)(o:IOp):Bool:=match o.g,o.e with
 |none,.ld _ _ x=>(match(ZG φ x).val with| .ptr id _=> !Zi (id+1000) kp| .vptr _=>true| .eptr id _ _ _=>Zi id kp|_=>false)
 |_,_=>false
def Jc(kp:W0):Nat->J7->J7->Bool
 |_,[],_=>true
 |i,.box ds::l,y::l'=>(Zi (i+1000) kp||Ob.beq (.box ds) y)&&Jc kp (i+1) l l'
 |i,_::l,_::l'=>Jc kp (i+1) l l'
 |_,_::_,[]=>false
theorem ZKr{kp:W0}: ∀ {a b:J7} {i:Nat},Jc kp i a b=true-> ∀(id:Nat) (ds:J8),Zi (i+id+1000) kp=false->a[id]? =some (.box ds)->b[id]? =some (.box ds)
 | [],b,_,_,id,ds,_,h=>WG
 |x::l,[],_,hb,id,ds,_,h=>by cases x<;>simp[Jc]at hb
 |x::l,y::l',i,hb,id,ds,hm,h=>by
  cases id with
  |zero=>
   simp only[ZC2,Yj]at h|-;subst h;simp only[Jc,Zk]at hb;rw[JP]at hm;rw[hm,ZEv]at hb;exact(Ob.beq_eq hb.1).symm
  |succ id=>
   simp only[ZBn]at h|-;have:Jc kp (i+1) l l'=true:=by
    cases x with
    |box d=>simp only[Jc,Zk]at hb;exact hb.2
    |_=>simpa only[Jc]using hb
   exact ZKr this id ds (by rw[<-hm];congr 1;omega) h
def ZKd(a b:J7)(i:Nat):Bool:=match a[i]?,b[i]? with
 |none,_=>true
 |some x,some y=>Ob.beq x y
 |_,_=>false
theorem ZUB{a b:J7}{i:Nat}(h:ZKd a b i=true){o:Ob}(ho:a[i]? =some o):b[i]? =some o:=by
 unfold ZKd at h;rw[ho]at h;cases hb:b[i]? with
 |none=>rw[hb]at h;cases h
 |some y=>rw[hb]at h;rw[Ob.beq_eq h]
def ZHH:W0->J7->J7->Bool
 | [],_,_=>true
 |i::l,a,b=>ZKd a b i&&ZHH l a b
theorem ZON{a b:J7}: ∀ {l:W0},ZHH l a b=true-> ∀i,Zi i l=true-> ∀o,a[i]? =some o->b[i]? =some o
 | [],_,i,hi,_,_=>by cases hi
 |j::l,h,i,hi,o,ho=>by
  simp only[ZHH,Zk]at h;simp only[Zi,ZBW]at hi;rcases hi with hi|hi
  .rw[ZL5 hi]at ho|-;exact ZUB h.1 ho
  .exact ZON h.2 i hi o ho
def QS(kp:W0)(a b:J7):Bool:=Jc kp 0 a b&&ZHH kp a b
theorem ZFZ{kp:W0}{a b:J7}(h:QS kp a b=true):(∀(id:Nat) (ds:J8),Zi (id+1000) kp=false->a[id]? =some (.box ds)->b[id]? =some (.box ds))/\ ∀i,Zi i kp=true-> ∀o,a[i]? =some o->b[i]? =some o:=by
 simp only[QS,Zk]at h;exact⟨λid ds hm=>ZKr h.1 id ds (by rw[Je];exact hm),ZON h.2⟩
def ZEu(kp:W0)(os:J7):List (Option J7)->Bool
 | []=>true
 |none::l=>ZEu kp os l
 |some x::l=>QS kp os x&&ZEu kp os l
theorem ZHc{kp:W0}{os:J7}: ∀ {G:List (Option J7)},ZEu kp os G=true-> ∀(j:Nat) (x:J7),G[j]? =some (some x)->QS kp os x=true
 | [],_,j,x,h=>WG
 |none::l,hb,j,x,h=>by
  cases j with
  |zero=>simp at h
  |succ j=>exact ZHc (G:=l) hb j x WJ
 |some y::l,hb,j,x,h=>by
  simp only[ZEu,Zk]at hb;cases j with
  |zero=>simp at h;subst h;exact hb.1
  |succ j=>exact ZHc hb.2 j x WJ
theorem ZFs{id:Nat}{o:Ob}: ∀ {G:List (Option J7)} (dn:Nat->Bool) (i:Nat) (b:J7),(∀(j:Nat) (x:J7),G[j]? =some (some x)->x[id]? =some o)->b[id]? =some o->(Zq G dn i b)[id]? =some o
 | [],_,_,b,_,h=>h
 |none::l,dn,i,b,hG,h=>by simp only[Zq];exact ZFs dn (i+1) b (λj x hj=>hG (j+1) x WX) h
 |some y::l,dn,i,b,hG,h=>by
  simp only[Zq];refine ZFs dn (i+1) _ (λj x hj=>hG (j+1) x WX) ?_;split
  .exact hG 0 y rfl
  .exact h
def bxR(kp:W0)(rs:W0):Nat->J4->List Rec->List IOp->Bool
 |i,φ,r::F,o::l=>(!Zi i rs||ZCI kp φ o)&&bxR kp rs (i+1) (putO φ r.1 r.2.1) F l
 |_,_,_,_=>true
theorem ZYi{kp rs:W0}: ∀ {l:List IOp} {F:List Rec} {i:Nat} {φ:J4},bxR kp rs i φ F l=true-> ∀(q:Nat) (io:IOp),l[q]? =some io->q<F.length->Zi (i+q) rs=true->ZCI kp (YY φ (F.take q)) io=true
 | [],F,i,φ,_,q,io,h,_,_=>WG
 |o::l,[],i,φ,_,q,io,_,h,_=>WG
 |o::l,r::F,i,φ,hb,q,io,h,hq,hm=>by
  simp only[bxR,Zk]at hb;cases q with
  |zero=>
   simp at h;subst h;have:=hb.1;rw[JP]at hm;simpa[hm,YY]using this
  |succ q=>
   have:=ZYi hb.2 q io WJ UX (by rw[show i+1+q=i+(q+1) by omega];exact hm);simpa[YY]using this
theorem ZUU{kp:W0}{S:Tabs}{φ:J4}{os0 os1:J7}{o:IOp}{r:Bool×D}(hb:ZCI kp φ o=true)(h:Yd S φ os0 o=some r)(hx: ∀(id:Nat) (ds:J8),Zi (id+1000) kp=false->os0[id]? =some (.box ds)->os1[id]? =some (.box ds))(hx2: ∀i,Zi i kp=true-> ∀o,os0[i]? =some o->os1[i]? =some o):Yd S φ os1 o=some r:=by
 unfold ZCI at hb;split at hb
 .rename_i n ag x hg he;simp only[Yd,hg,he,KD]at h|-;split at hb
  .rename_i id off hv;have key:ZS S.q φ os0 (.ld n ag x)=ZS S.q φ os1 (.ld n ag x)\/ZS S.q φ os0 (.ld n ag x)=none:=by
    simp only[ZS,hv];cases h0:os0[id]? with
    |none=>exact .inr rfl
    |some ob=>
     cases ob with
     |box ds=>rw[hx id ds (by simpa using hb) h0];exact .inl rfl
     |_=>exact .inr rfl
   rcases key with key|key
   .rw[<-key];cases hq:ZS S.q φ os0 (.ld n ag x)with
    |some q=>rw[hq]at h;exact h
    |none=>rw[hq]at h;exact NI
   .rw[key]at h;exact NI
  .rename_i cs hv;have key:ZS S.q φ os0 (.ld n ag x)=ZS S.q φ os1 (.ld n ag x):=by simp only[ZS,hv]
   rw[<-key];cases hq:ZS S.q φ os0 (.ld n ag x)with
   |some q=>rw[hq]at h;exact h
   |none=>rw[hq]at h;exact NI
  .rename_i id e1 i1 o1 hv;have key:ZS S.q φ os0 (.ld n ag x)=ZS S.q φ os1 (.ld n ag x)\/ZS S.q φ os0 (.ld n ag x)=none:=by
    simp only[ZS,hv];cases h0:os0[id]? with
    |none=>exact .inr rfl
    |some ob=>rw[hx2 id hb ob h0];exact .inl rfl
   rcases key with key|key
   .rw[<-key];cases hq:ZS S.q φ os0 (.ld n ag x)with
    |some q=>rw[hq]at h;exact h
    |none=>rw[hq]at h;exact NI
   .rw[key]at h;exact NI
  .cases hb
 .cases hb
def ZM2(m:Option W0)(rs:W0)(φ:J4)(os:J7)(l:List IOp)(F:List Rec)(G:List (Option J7)):Bool:=match m with
 |none=>ZMR rs os G
 |some kp=>bxR kp rs 0 φ F l&&ZEu kp os G
def ZHZ(m:Option W0)(S:Tabs)(φ:J4)(os:J7)(k:Nat)(rs:W0)(l:List IOp):Option (Bool×List (Nat×D)×J7):=
 (Kr S os k rs 0 φ os.length os l).map λq=>(q.1&&ZM2 m rs φ os l q.2.1 q.2.2,YY φ q.2.1,Zq q.2.2 (λ_=>true) 0 (os++Ya q.2.1))
end Go.Ab
end
