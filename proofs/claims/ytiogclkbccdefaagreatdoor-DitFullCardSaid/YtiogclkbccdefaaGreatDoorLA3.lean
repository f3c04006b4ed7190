import Derived.Test.YtiogclkbccdefaaGreatDoorLA2
import Derived.Orders
set_option linter.unusedSimpArgs false
set_option linter.unusedVariables false
set_option maxRecDepth 100000
section
namespace Go.Ab
open Go.RowKit Go.Bo
section
variable {P:Program} {E:Env} {os:List Ob} {c:Ctx} {n:Nat} {φ:List (Nat×D)} {a:Act}
theorem ZXM(R:Rel c E os){d:D}{v:Value}(hv:V E os d v){src:List (List X)}{sz:Nat}(hr:ZEC os sz d=some src)(hz: ∀r∈src,r.length=sz):
  ∃news:List Value,news.length=src.length*sz∧(∀k,k≤src.length→(Builtin.firstCells sz k v).run P E.w= .ok (news.take (k*sz)).toArray E.w)∧(Builtin.lenOf v).run P E.w= .ok src.length E.w∧
   (∀u∈news,u.oneCell'=true)∧ ∀(i:Nat) (r:List X) (j:Nat) (x:X),src[i]? =some r→r[j]? =some x→ ∃u,news[i*sz+j]? =some u∧VX E.w E.st x u:=by
 have base:Zp os d=some src→ ∃news:List Value,news.length=src.length*sz∧(∀k,k≤src.length→(Builtin.firstCells sz k v).run P E.w= .ok (news.take (k*sz)).toArray E.w)∧(Builtin.lenOf v).run P E.w= .ok src.length E.w∧
   (∀u∈news,u.oneCell'=true)∧ ∀(i:Nat) (r:List X) (j:Nat) (x:X),src[i]? =some r→r[j]? =some x→ ∃u,news[i*sz+j]? =some u∧VX E.w E.st x u:=by
  intro hr;obtain⟨ad,cp,news,rfl,q2,q3,q4,q5,q6,q7,q8⟩:=ZAE R hv hr hz;refine⟨news,q4,fun k hks=> ?_,by simp[Builtin.lenOf],q7,q8⟩;cases ad with
  |none=>
   have h0:=q5 rfl;have:k=0:=by omega
   subst this;simp[Builtin.firstCells]
  |some ad=>
   refine run_firstCells_some (P:=P) E.w sz k ad src.length cp _ ?_ (fun j u hu=> ?_)
   ·rw[JA,q4];have:k*sz≤src.length*sz:=KB _ hks;omega
   ·have hj:=(ZR hu).1;rw[JA]at hj;rw[JQ,if_pos (by omega)]at hu;exact q6 ad rfl j u hu
 unfold ZEC at hr;split at hr
 ·rename_i s;split at hr
  ·rename_i h1;subst h1;cases hr;cases hv with
   |x hx=>
    cases hx;refine⟨s.map fun b=> .int .u8 b.toNat,by simp,fun k hk=> ?_,?_,?_,?_⟩
    ·have:(ByteArray.extract (ZN s) 0 k).data.map (fun b=>Value.int .u8 b.toNat)=((s.map fun b=>Value.int .u8 b.toNat).take (k*1)).toArray:=by
      apply ZCf.1;simp[ZN,ByteArray.data_extract,List.map_take]
     show(pure _:Sem _).run P E.w=_;rw[this];rfl
    ·simp[Builtin.lenOf,Kf]
    ·intro u hu;obtain⟨b,_,rfl⟩:=YW.1 hu;rfl
    ·intro i r j x h1 h2;rw[Zw]at h1;obtain⟨b,hb,rfl⟩:=ZT h1;cases j with
     |zero=>
      simp[Zk]at h2;subst h2;exact⟨.int .u8 b.toNat,by simp[hb],.int _ _⟩
     |succ j=>simp[Zk]at h2
  ·cases hr
 ·exact base hr
theorem Zbu(R:Rel c E os){t u ty e sz:Nat}(ht:P.underlying t=some (.slice e))(hs:Jg P e=some sz){id ext off len:Nat}{fz:Bool}{el:Nat}{rs:List (List X)}{vx:Value}(hx:V E os (.ref id ext off len) vx)(ho:os[id]? =some (.rows fz el sz rs))(hext:rs.length=ext)
  {y:D} {vy:Value} (hy:V E os y vy) {src:List (List X)} (hr:ZEC os sz y=some src) (hrl: ∀r∈src,r.length=sz):
  ∃E',(Builtin.copy_ #[t,u] ty #[vx,vy]).run P E.w= .ok (.int .i64 (min src.length len:Nat)) E'.w∧Rel c E' (os.set id (.rows fz el sz (rs.take off++src.take (min src.length len)++rs.drop (off+min src.length len))))∧Evo E os E' (os.set id (.rows fz el sz (rs.take off++src.take (min src.length len)++rs.drop (off+min src.length len)))):=by
 obtain⟨news,q4,qf,ql,q7,q8⟩:=ZXM (P:=P) R hy hr hrl;obtain⟨p,hp,hok⟩:=R.at ho;have hok':=hok;obtain⟨xs,k1,k2,k3⟩:=hok';have hlt:=(ZR ho).1;obtain⟨h1,h2⟩:=hx.ref_inv.at ho rfl;obtain⟨h3,b,a0,cap,a',cap',h4,h5,h6,h7,h8,h9,h10,h11⟩:=h2 hext;rw[hp]at h4;have h4:=ZA6 h4;subst h5;generalize hk:min src.length len=k at*;have hkl:k≤len:=by omega
 have hks:k≤src.length:=by omega
 have hfirst:(Builtin.firstCells sz k vy).run P E.w= .ok (news.take (k*sz)).toArray E.w:=qf k hks;have hmin:Nat.min src.length len=k:=hk;by_cases hk0:k=0
 ·subst hk0;have hset:os.set id (.rows fz el sz (rs.take off++src.take 0++rs.drop (off+0)))=os:=by
   rw[ZBZ,Kg,Jw,ZCn];apply ZAq;intro j;rw[ZBj];by_cases hj:id=j
   ·subst hj;rw[if_pos rfl,ho];simp[hlt]
   ·simp[hj]
  rw[hset];refine⟨E,?_,R,Evo.refl _ _⟩;rw[ZI4,ZBZ]at hfirst;cases a'<;>simp[Builtin.copy_,run_underlying ht,ql,hmin,Jk hs,hfirst,storeCells,goInt]
 ·have hpos:0<len:=by omega
  obtain⟨w1,w2,w3,w4,w5,w8⟩:=OK.cap (os:=os) (o:= .rows fz el sz rs) hok (sz:=sz) (rs:=rs) rfl (by rw[h4]);cases a0 with
  |none=>have:=(w5 rfl).1;omega
  |some ad0=>
  have ha':=h9 hpos ad0 rfl;have h0:=w8 ad0 rfl;have h00:ad0.off=0:=by rw[h0]
  subst ha';rw[h00,Yy]at*;have hvs:(news.take (k*sz)).length=k*sz:=by
   rw[JA,q4];have:k*sz≤src.length*sz:=KB _ hks;omega
  have htot:(off+k)*sz≤rs.length*sz:=KB _ (by omega);rw[JL]at htot;have hlen2:(src.take k).length=k:=by simp;omega
  have hget: ∀i,(rs.take off++src.take k++rs.drop (off+k))[i]? =if i<off then rs[i]? else if i<off+k then src[i-off]? else rs[i]? :=fun i=>by
   have:=ZAi rs (src.take k) off i (by omega);rw[hlen2]at this;rw[this];by_cases h:i<off
   ·simp[h]
   ·by_cases h':i<off+k
    ·simp only[h,h',if_true,if_false];rw[JQ,if_pos (by omega)]
    ·simp[h,h']
  obtain⟨E',e1,e2,e3⟩:=ZNs (P:=P) R ho hp (g:=ad0.block) (cap:=cap) (by rw[h4];simp only;rw[hext,←h0]) (off*sz) (news.take (k*sz)) (fun u hu=>q7 u (ZDO hu)) (by omega) (rs':=rs.take off++src.take k++rs.drop (off+k)) (by simp;omega) (fun r hr=>by
    rcases KT.1 hr with h|h
    ·rcases KT.1 h with h|h
     ·exact k2 r (ZDO h)
     ·exact hrl r (ZDO h)
    ·exact k2 r (ZB7 h))
   (fun i r j x hr' hx' hj=>by
    rw[hget]at hr';rw[hvs]at hj;have hjs:j<sz:=by
     have:r.length=sz:=by
      split at hr'
      ·exact k2 r (YT hr')
      ·split at hr'
       ·exact hrl r (YT hr')
       ·exact k2 r (YT hr')
     rw[←this];exact(ZR hx').1
    split at hr'
    ·exact⟨r,hr',hx'⟩
    ·split at hr'
     ·exfalso;have g1:off*sz≤i*sz:=KB _ (by omega);have g2:(i+1)*sz≤(off+k)*sz:=KB _ (by omega);rw[JL,JL]at g2;omega
     ·exact⟨r,hr',hx'⟩)
   (fun i r j x u hr' hx' hj1 hj2 hu=>by
    rw[hget]at hr';rw[hvs]at hj2;have hjs:j<sz:=by
     have:r.length=sz:=by
      split at hr'
      ·exact k2 r (YT hr')
      ·split at hr'
       ·exact hrl r (YT hr')
       ·exact k2 r (YT hr')
     rw[←this];exact(ZR hx').1
    have hi1: ¬i<off:=fun h=>by
     have:(i+1)*sz≤off*sz:=KB _ h;rw[JL]at this;omega
    have hi2:i<off+k:=by
     rcases Nat.lt_or_ge i (off+k)with h|h
     ·exact h
     ·have:(off+k)*sz≤i*sz:=KB _ h;rw[JL]at this;omega
    rw[if_neg hi1,if_pos hi2]at hr';obtain⟨u',g1,g2⟩:=q8 _ r j x hr' hx';rw[JQ,if_pos (by omega)]at hu;have e:i*sz+j-off*sz=(i-off)*sz+j:=by
     rw[Nat.sub_mul];have:off*sz≤i*sz:=KB _ (by omega);omega
    rw[e,g1]at hu;cases hu;exact g2)
  refine⟨E',?_,e2,e3⟩;simp[Builtin.copy_,run_underlying ht,ql,hmin,Jk hs,hfirst,e1,goInt]
theorem JF{o:Oper}{d:D}{os':List Ob}{s:Sem Value}(h:execOp a.eval o=(do pure (Next.value (←s))))(hr: ∃v E',s.run P E.w= .ok v E'.w∧Rel c E' os'∧Evo E os E' os'∧V E' os' d v):ZWV P c E os o a d os':=by
 obtain⟨v,E',h1,h2,h3,h4⟩:=hr;exact⟨_,E',ZF1 h h1,h2,h3,.value h4⟩
theorem ZFs: ∀ {i:Nat} {parts:List (Nat×Operand)} {ys:List IO},ZF6 i parts=some ys→(parts.map (·.2)).mapM ZP=some ys∧parts.map (·.1)=List.range' i parts.length
 |i,[],ys,h=>by cases h;exact⟨rfl,rfl⟩
 |i,(j,x)::l,ys,h=>by
  simp only[ZF6]at h;split at h
  ·rename_i hj;simp only[JI,Yh]at h;obtain⟨y,hy,r,hr,h⟩:=h;cases h;obtain⟨h1,h2⟩:=ZFs hr;subst hj;refine⟨?_,?_⟩
   ·simp[QL,hy,h1]
   ·simp[List.range'_succ,h2]
  ·cases h
theorem ZI9(f:Operand→Value): ∀(l:List (Nat×Operand)) (i:Nat),l.map (·.1)=List.range' i l.length→l.map (fun p=>(p.1,f p.2))=(((l.map (·.2)).map f).zipIdx i).map fun p=>(p.2,p.1)
 | [],i,h=>rfl
 |(j,x)::l,i,h=>by
  simp[List.range'_succ]at h;obtain⟨rfl,h⟩:=h;simp only[YL,List.zipIdx_cons];rw[ZI9 f l (j+1) h]
def IE.isAct:IE→Bool
 | .box _| .sto _ _ _| .bsl _ _ _ _| .mks _ _ _ _ _ _| .app _ _ _ _ _| .apz _ _ _ _ _ _| .cpy _ _ _| .s2b _ _| .abx _ _| .asl _ _ _| .mkm _ _| .mup _ _ _ _| .mdl _ _ _| .men _ _ _ _| .est _ _ _| .mcl _| .rgm _| .rgs _=>true
 |_=>false
def NA(x:Option IE):Prop:= ∀e,x=some e→e.isAct=false
theorem NA.none:NA none:=fun e h=>by cases h
theorem NA.some{e:IE}(h:e.isAct=false):NA (some e):=fun e' h'=>by cases h';exact h
theorem NA.bind{α:Type}{x:Option α}{f:α→Option IE}(h: ∀y,NA (f y)):NA (x.bind f):=fun e he=>by
 obtain⟨y,_,h2⟩:=Zv he;exact h y e h2
theorem NA.bind'{α:Type}{x:Option α}{f:α→Option IE}(h: ∀y,NA (f y)):NA (x>>=f):=NA.bind h
theorem NA.map{α:Type}{x:Option α}{f:α→IE}(h: ∀y,(f y).isAct=false):NA (x.map f):=fun e he=>by
 obtain⟨y,_,rfl⟩:=ZT he;exact h y
theorem ZWv{e:IE}{r:Bool×D×List Ob}(h:YA φ os e=some r):e.isAct=true:=by
 cases e<;>first|rfl|(simp[YA]at h)
theorem ZcQ(R:Rel c E os)(dk:KK)(hd: ∀a b,dk≠ .st a b)(ag:Bool)(t:Nat):
  ∃v E',(Instr.makeMap t none).run P E.w= .ok v E'.w∧Rel c E' (os++ [.mpo dk ag []])∧Evo E os E' (os++ [.mpo dk ag []])∧V E' (os++ [.mpo dk ag []]) (.mref os.length) v:=by
 obtain⟨R',ev⟩:=R.push (E.w.alloc (.map #[] 0)) (.mpo dk ag []) (E.w.heap.size,undef) (Jf _ _) (fun b hb=>by cases hb;exact Zl _) (fun _=>Zt.new _ _ E.w rfl dk hd ag);refine⟨.map (some E.w.heap.size),_,?_,R',ev,.mref (dk:=dk) (ag:=ag) (o:= .mpo dk ag []) (cu:=undef) (by simp) rfl (by show(E.ob++ [_])[os.length]? =_;rw[←R.len];simp)⟩;rfl
theorem ZG3(R:Rel c E os){id:Nat}{o:Ob}(ho:os[id]? =some o){dk:KK}{ag:Bool}{l:List Pr}(hu:o.upd? =some (dk,ag,l)){p:Nat×Value}(hp:E.ob[id]? =some p){w':World}(hO:Only p.1 E.w w'){o':Ob}{l':List Pr}(hu':o'.upd? =some (dk,ag,l'))
  (hok:Evo E os ⟨w',E.st,E.ob.set id p⟩ (os.set id o')→OK ⟨w',E.st,E.ob.set id p⟩ (os.set id o') o' p):
  Rel c ⟨w',E.st,E.ob.set id p⟩ (os.set id o')∧Evo E os ⟨w',E.st,E.ob.set id p⟩ (os.set id o'):=by
 obtain⟨_,k2,k3,k4⟩:=Ob.upd_spec hu;obtain⟨_,k2',k3',k4'⟩:=Ob.upd_spec hu';exact R.set ho hp w' o' p ⟨hO.os,hO.tape,hO.output,by rw[hO.size];exact Zl _,fun k _ hm=>hO.block k (fun e=>hm ((k4 p k).2 e.symm))⟩ (fun b hb=> .inl ((k4 p b).2 ((k4' p b).1 hb))) (fun sz rs h=>by rw[k3]at h;cases h) (fun k h=>⟨rfl,by rw[k2]at h;rw[k2'];exact h⟩) hok
theorem ZUY(R:Rel c E os){id:Nat}{o:Ob}(ho:os[id]? =some o){dk:KK}{ag:Bool}{l:List Pr}(huo:o.upd? =some (dk,ag,l)){vm:Value}(hm:V E os (.mref id) vm){key:List X}{kd:D}{kv:Value}(hk:KM dk kd=some key)(hv:V E os kd kv){u:Value}{xs:List D}(hu:VC E os ag xs u)
  {T kt elem:TypeId} (hT:P.underlying T=some (.map kt elem)) (hd:P.underlying kt=some (kkD dk)):
  ∃E',(Instr.mapUpdate T vm kv u).run P E.w= .ok () E'.w∧Rel c E' (os.set id (.mpo dk ag (YM l key xs)))∧Evo E os E' (os.set id (.mpo dk ag (YM l key xs))):=by
 cases hm with
 |mref ho' hk' hb=>
  obtain⟨p,hp,hok⟩:=R.at ho;rw[hp]at hb;cases hb;obtain⟨w',g1,g2,g3⟩:=Zt.up (P:=P) (hok.map (Ob.upd_spec huo).1) hk hv hT hd hu;obtain⟨R',ev⟩:=ZG3 R ho huo hp g2 (o':= .mpo dk ag (YM l key xs)) rfl (fun ev=>g3 _ _ rfl ev);exact⟨_,g1,R',ev⟩
theorem Zb5(R:Rel c E os){id:Nat}{o:Ob}(ho:os[id]? =some o){dk:KK}{ag:Bool}{l:List Pr}(huo:o.upd? =some (dk,ag,l)){vm:Value}(hm:V E os (.mref id) vm){key:List X}{kd:D}{kv:Value}(hk:KM dk kd=some key)(hv:V E os kd kv)
  {T kt elem:TypeId} (hT:P.underlying T=some (.map kt elem)) (hd:P.underlying kt=some (kkD dk)) (ty ts:TypeId):
  ∃v E',(Builtin.delete_ #[T,ts] ty #[vm,kv]).run P E.w= .ok v E'.w∧Rel c E' (os.set id (.mpo dk ag (ZED l key)))∧Evo E os E' (os.set id (.mpo dk ag (ZED l key)))∧V E' (os.set id (.mpo dk ag (ZED l key))) (.tup []) v:=by
 cases hm with
 |mref ho' hk' hb=>
  obtain⟨p,hp,hok⟩:=R.at ho;rw[hp]at hb;cases hb;obtain⟨w',g1,g2,g3⟩:=Zt.del (P:=P) (hok.map (Ob.upd_spec huo).1) hk hv hT hd ty ts;obtain⟨R',ev⟩:=ZG3 R ho huo hp g2 (o':= .mpo dk ag (ZED l key)) rfl (fun ev=>g3 _ _ rfl ev);exact⟨_,_,g1,R',ev,.tup #[] rfl (fun j d v h=>by simp at h)⟩
theorem Zc0(R:Rel c E os){id:Nat}{o:Ob}(ho:os[id]? =some o){dk:KK}{ag:Bool}{l:List Pr}(huo:o.upd? =some (dk,ag,l)){vm:Value}(hm:V E os (.mref id) vm)
  {T kt elem:TypeId} (hT:P.underlying T=some (.map kt elem)) (ty:TypeId):
  ∃v E',(Builtin.clear_ #[T] ty #[vm]).run P E.w= .ok v E'.w∧Rel c E' (os.set id (.mpo dk ag []))∧Evo E os E' (os.set id (.mpo dk ag []))∧V E' (os.set id (.mpo dk ag [])) (.tup []) v:=by
 cases hm with
 |mref ho' hk' hb=>
  obtain⟨p,hp,hok⟩:=R.at ho;rw[hp]at hb;cases hb;obtain⟨w',g1,g2,g3⟩:=Zt.clear (P:=P) (hok.map (Ob.upd_spec huo).1) hT ty;obtain⟨R',ev⟩:=ZG3 R ho huo hp g2 (o':= .mpo dk ag []) rfl (fun ev=>g3 _ _ rfl);exact⟨_,_,g1,R',ev,.tup #[] rfl (fun j d v h=>by simp at h)⟩
theorem ZcX(R:Rel c E os){id:Nat}{o:Ob}(ho:os[id]? =some o){dk:KK}{ag:Bool}{l:List Pr}(huo:o.upd? =some (dk,ag,l)){vm:Value}(hm:V E os (.mref id) vm){key:List X}{kd:D}{kv:Value}(hk:KM dk kd=some key)(hv:V E os kd kv)
  {T kt elem:TypeId} (hT:P.underlying T=some (.map kt elem)) (hd:P.underlying kt=some (kkD dk)) {z:Value} (hz:(zeroValue elem).run P E.w= .ok z E.w) {zs:List D} (hzs:VC E os ag zs z)
  (hko:ZJ9 dk key=true):
  ∃v E',(Instr.mapEntry T vm kv).run P E.w= .ok v E'.w∧Rel c E' (os.set id (.mpn dk ag (YM l key ((Yx l key).getD zs)) key os.length)++ [.stp])∧Evo E os E' (os.set id (.mpn dk ag (YM l key ((Yx l key).getD zs)) key os.length)++ [.stp])∧
   V E' (os.set id (.mpn dk ag (YM l key ((Yx l key).getD zs)) key os.length)++ [.stp]) (.tup [ZEB ag ((Yx l key).getD zs),.stk id os.length]) v:=by
 have hlt:=(ZR ho).1;cases hm with
 |mref ho' hk' hb=>
  obtain⟨p,hp,hok⟩:=R.at ho;have hpb:p.1=_:=congrArg Prod.fst (ZA6 (hp.symm.trans hb));simp only at hpb;subst hpb;obtain⟨w',v,n,g1,g2,g3,g4,g5⟩:=Zt.entry (P:=P) (hok.map (Ob.upd_spec huo).1) hk hv hT hd hz hzs;obtain⟨R1,e1⟩:=R.push E.w .stp (n,undef) (Kept.refl _ _) (fun b hb=>hb.elim) (fun _=>trivial);have ho1:(os++ [Ob.stp])[id]? =some o:=by rw[YR hlt];exact ho
  have hp1:(E.ob++ [(n,undef)])[id]? =some p:=by rw[YR (by rw[R.len];exact hlt)];exact hp
  have hs1: ∀x,((os++ [Ob.stp]).set id x)[os.length]? =some .stp:=fun x=>by
   rw[ZBj,if_neg (by omega)];simp
  have hb1:((E.ob++ [(n,undef)]).set id p)[os.length]? =some (n,undef):=by
   rw[ZBj,if_neg (by omega),←R.len];simp
  obtain⟨R',ev⟩:=ZG3 (E:=⟨E.w,E.st,E.ob++ [(n,undef)]⟩) R1 ho1 huo hp1 g2 (o':= .mpn dk ag (YM l key ((Yx l key).getD zs)) key os.length) rfl (fun ev=>⟨g4 _ _ rfl (e1.trans ev),by
   obtain⟨es,clk,e,q1,q2,q3,q4⟩:=g5;exact⟨n,undef,.stp,es,clk,e,hs1 _,rfl,hb1,q1,q2,q3,q4,hko⟩⟩)
  have e:(os++ [Ob.stp]).set id (.mpn dk ag (YM l key ((Yx l key).getD zs)) key os.length)=os.set id (.mpn dk ag (YM l key ((Yx l key).getD zs)) key os.length)++ [.stp]:=by
   rw[ZMz _ _ hlt]
  rw[e]at R' ev;refine⟨_,_,g1,R',e1.trans ev,V.tupP ((V.cell g3).mono (e1.trans ev)) (.stk (o:= .stp) (cu:=undef) ?_ rfl hb1)⟩;rw[←e];exact hs1 _
theorem ZcK(R:Rel c E os){id sid:Nat}{dk:KK}{ag:Bool}{l:List Pr}{key:List X}(ho:os[id]? =some (.mpn dk ag l key sid)){vm vs:Value}(hm:V E os (.mref id) vm)(hs:V E os (.stk id sid) vs){u:Value}{xs:List D}(hu:VC E os ag xs u)(T:TypeId):
  ∃E',(Instr.entryStore T vm vs u).run P E.w= .ok () E'.w∧Rel c E' (os.set id (.mpo dk ag (YM l key xs)))∧Evo E os E' (os.set id (.mpo dk ag (YM l key xs))):=by
 cases hm with
 |mref ho' hk' hb=>
  cases hs with
  |stk hso hsk hsb=>
   obtain⟨p,hp,hok⟩:=R.at ho;rw[hp]at hb;cases hb;obtain⟨n,cu,o,es,clk,e,q1,q2,q3,q4,q5,q6,q7,q8⟩:=hok.2;rw[q3]at hsb;cases hsb;obtain⟨w',g1,g2,g3⟩:=Zt.store (P:=P) (T:=T) hok.1 ⟨_,_,ZSR q8,V.keyD E os dk key⟩ hu ⟨es,clk,e,q4,q5,q6,q7⟩;obtain⟨R',ev⟩:=ZG3 R ho (l:=l) rfl hp g2 (o':= .mpo dk ag (YM l key xs)) rfl (fun ev=>g3 _ _ rfl ev);exact⟨_,g1,R',ev⟩
theorem Zco(R:Rel c E os){id:Nat}{o:Ob}(ho:os[id]? =some o){dk:KK}{ag:Bool}{l:List Pr}(huo:o.upd? =some (dk,ag,l)){vm:Value}(hm:V E os (.mref id) vm){T kt elem:TypeId}(hT:P.underlying T=some (.map kt elem)):
  ∃v E',(Instr.range T vm).run P E.w= .ok v E'.w∧Rel c E' (os.set id (.mit dk ag l os.length l none)++ [.itr])∧Evo E os E' (os.set id (.mit dk ag l os.length l none)++ [.itr])∧V E' (os.set id (.mit dk ag l os.length l none)++ [.itr]) (.iref id os.length) v:=by
 have hlt:=(ZR ho).1;obtain⟨_,s2,s3,s4⟩:=Ob.upd_spec huo;cases hm with
 |mref ho' hk' hb=>
  obtain⟨p,hp,hok⟩:=R.at ho;have hpb:p.1=_:=congrArg Prod.fst (ZA6 (hp.symm.trans hb));simp only at hpb;subst hpb;have hMO:=hok.map (Ob.upd_spec huo).1;obtain⟨es,clk,m1,m2,m3,m4⟩:=hMO.pairs;have hrun:=run_range_map (P:=P) E.w T kt elem p.1 es clk hT m1;obtain⟨R1,e1⟩:=R.push (E.w.alloc (.mapIter (some p.1) clk #[] clk)) .itr (E.w.heap.size,undef) (Jf _ _) (fun b hb=>hb.elim) (fun _=>trivial);have ho1:(os++ [Ob.itr])[id]? =some o:=by rw[YR hlt];exact ho
  have hp1:(E.ob++ [(E.w.heap.size,undef)])[id]? =some p:=by rw[YR (by rw[R.len];exact hlt)];exact hp
  have hs1: ∀x,((os++ [Ob.itr]).set id x)[os.length]? =some .itr:=fun x=>by
   rw[ZBj,if_neg (by omega)];simp
  have hb1: ∀x,((E.ob++ [(E.w.heap.size,undef)]).set id x)[os.length]? =some (E.w.heap.size,undef):=fun x=>by
   rw[ZBj,if_neg (by omega),←R.len];simp
  have hpl:p.1<E.w.heap.size:=(ξH m1).1;obtain⟨R',ev⟩:=R1.set ho1 hp1 (E.w.alloc (.mapIter (some p.1) clk #[] clk)) (.mit dk ag l os.length l none) (p.1,.pointer (some ⟨E.w.heap.size,0,none⟩)) (Kept.refl _ _) (fun b hb=>by
   rcases hb with hb|hb
   ·exact .inl ((s4 p b).2 hb)
   ·simp only[Value.pointer.injEq,Ze,Addr.mk.injEq,and_true]at hb;subst hb;refine .inr (.inr ⟨fun off hs=>absurd (R.stm _ off hs).1 (Nat.lt_irrefl _),fun i o2 p2 h1 h2 h3=> ?_,.inr R.kept.size⟩);by_cases hi:i<os.length
    ·rw[YR hi]at h1;have h2':E.ob[i]? =some p2:=by
      have h2':(E.ob++ [(E.w.heap.size,undef)])[i]? =some p2:=h2;rwa [YR (by rw[R.len];exact hi)]at h2'
     exact absurd ((R.ok i o2 p2 h1 h2').lt h3) (Nat.lt_irrefl _)
    ·have hl:=(ZR h1).1;simp at hl;have:i=os.length:=by omega
     subst this;rw[Ki (by omega)]at h1;simp at h1;subst h1;exact h3) (fun sz rs h=>by rw[s3]at h;cases h) (fun k h=>⟨rfl,by rw[s2]at h;exact h⟩) (fun ev=>by
    have ev':=e1.trans ev;refine⟨hMO.mono ev' (heap_alloc_old E.w _ hpl),E.w.heap.size,undef,es,clk,clk,#[],clk,.itr,rfl,hs1 _,rfl,hb1 _,heap_alloc_new E.w _,?_,m3,⟨Zl _,Zl _⟩,m4,?_,fun q hq=>by cases hq⟩
    ·show(E.w.alloc _).heap[p.1]? =_;rw[heap_alloc_old E.w _ hpl];exact m1
    ·have e:(leftOf es #[]).toList=es.toList:=by simp[leftOf]
     rw[e];exact m2.mono ev')
  have e:(os++ [Ob.itr]).set id (.mit dk ag l os.length l none)=os.set id (.mit dk ag l os.length l none)++ [.itr]:=by
   rw[ZMz _ _ hlt]
  rw[e]at R' ev;refine⟨_,_,hrun,R',e1.trans ev,.iref (o:= .itr) (cu:=undef) ?_ rfl (hb1 _)⟩;rw[←e];exact hs1 _
theorem Zbl(R:Rel c E os){vm:Value}(hm:V E os .mnil vm){T kt elem:TypeId}(hT:P.underlying T=some (.map kt elem)):
  ∃v E',(Instr.range T vm).run P E.w= .ok v E'.w∧Rel c E' (os++ [.nit])∧Evo E os E' (os++ [.nit])∧V E' (os++ [.nit]) (.iref os.length os.length) v:=by
 obtain rfl:=hm.mnil_inv;obtain⟨R',ev⟩:=R.push (E.w.alloc (.mapIter none 0 #[] 0)) .nit (E.w.heap.size,undef) (Jf _ _) (fun b hb=>by cases hb;exact Zl _) (fun _=>⟨0,#[],0,heap_alloc_new _ _⟩);exact⟨_,_,run_range_nilMap (P:=P) E.w T kt elem hT,R',ev,.iref (o:= .nit) (cu:=undef) (by simp) rfl (by show(E.ob++ [_])[os.length]? =_;rw[←R.len];simp)⟩
theorem ZcB(R:Rel c E os)(s:List UInt8){T:TypeId}(hT:P.underlying T=some .string):
  ∃v E',(Instr.range T (.string (ZN s))).run P E.w= .ok v E'.w∧Rel c E' (os++ [.sit s 0])∧Evo E os E' (os++ [.sit s 0])∧V E' (os++ [.sit s 0]) (.iref os.length os.length) v:=by
 obtain⟨R',ev⟩:=R.push (E.w.alloc (.stringIter (ZN s) 0)) (.sit s 0) (E.w.heap.size,undef) (Jf _ _) (fun b hb=>by cases hb;exact Zl _) (fun _=>heap_alloc_new _ _);refine⟨.pointer (some ⟨E.w.heap.size,0,none⟩),_,?_,R',ev,.iref (o:= .sit s 0) (cu:=undef) (by simp) rfl (by show(E.ob++ [_])[os.length]? =_;rw[←R.len];simp)⟩;simp[Instr.range,run_underlying hT]
theorem VX.not_agg{w:World}{st:Nat→Nat→Prop}{x:X}{v:Value}(h:VX w st x v): ∀cs,v≠ .agg cs:=by
 cases h<;>(intro cs e;cases e)
theorem V.not_agg{d:D}{v:Value}(h:V E os d v)(hd:agD d=false){cs:List D}(hc:d.cells? =some cs):cs.length=1∧ ∀cs,v≠ .agg cs:=by
 cases h with
 |x h=>simp[D.cells?]at hc;subst hc;exact⟨rfl,h.not_agg⟩
 |ref h h1=>simp[D.cells?]at hc;subst hc;exact⟨rfl,fun cs e=>by subst e;simp[Value.oneCell']at h1⟩
 |ptr ho h=>simp[D.cells?]at hc;subst hc;exact⟨rfl,fun cs e=>by cases e⟩
 |mref ho hk h=>simp[D.cells?]at hc;subst hc;exact⟨rfl,fun cs e=>by cases e⟩
 |mnil=>simp[D.cells?]at hc;subst hc;exact⟨rfl,fun cs e=>by cases e⟩
 |iref ho hk h=>simp[D.cells?]at hc;subst hc;exact⟨rfl,fun cs e=>by cases e⟩
 |stk ho hk h=>simp[D.cells?]at hc;subst hc;exact⟨rfl,fun cs e=>by cases e⟩
 |bref ho h hm=>simp[D.cells?]at hc;subst hc;exact⟨rfl,fun cs e=>by cases e⟩
 |eptr h h1=>simp[D.cells?]at hc;subst hc;exact⟨rfl,fun cs e=>by obtain⟨ad,rfl⟩:=h1;cases e⟩
 |vptr b off val h1 h2=>simp[D.cells?]at hc;subst hc;exact⟨rfl,fun cs e=>by cases e⟩
 |agg vs hl h1 hv=>simp[agD]at hd
 |tup vs hl hv=>cases hc
 |full n h=>simp[D.cells?]at hc;subst hc;exact⟨rfl,fun cs e=>by cases e⟩
 |nz h=>simp[D.cells?]at hc;subst hc;exact⟨rfl,fun cs e=>by cases e⟩
 |fn vs hl hv=>simp[D.cells?]at hc;subst hc;exact⟨rfl,fun cs e=>by cases e⟩
 |opt h1 h2=>cases hc
 |und v=>cases hc
theorem V.is_agg{d:D}{v:Value}(h:V E os d v)(hd:agD d=true): ∃cs,v= .agg cs:=by
 cases h with
 |agg vs hl h1 hv=>exact⟨vs,rfl⟩
 |_=>simp[agD]at hd
theorem VC.of{d:D}{v:Value}(h:V E os d v){cs:List D}(hc:d.cells? =some cs)(hs:v.cells.size=cs.length)(h1: ∀u∈v.cells.toList,u.oneCell'=true)
  (hx: ∀(j:Nat) (x:D) (u:Value),cs[j]? =some x→v.cells[j]? =some u→V E os x u):VC E os (agD d) cs v:=by
 refine⟨?_,hs,fun j x u hj hu=>⟨hx j x u hj hu,h1 u ?_⟩⟩
 ·split
  ·rename_i ha;exact h.is_agg ha
  ·rename_i ha;exact h.not_agg (by simpa using ha) hc
 ·rw[←Qp]at hu;exact YT hu
theorem ZUe(R:Rel c E os){t:Nat}{cs:List D}{cells:Array Value}{xs:List X}{os1:List Ob}(q1:cells.size=cs.length)(q3: ∀(j:Nat) (d:D) (u:Value),cs[j]? =some d→cells[j]? =some u→V E os d u)
  (hfz:YU os cs=some (xs,os1)):
  ∃E',E'.w=E.w.alloc (.cells cells t)∧Rel c E' (os1++ [.rows false t xs.length [xs]])∧Evo E os E' (os1++ [.rows false t xs.length [xs]])∧V E' (os1++ [.rows false t xs.length [xs]]) (.eptr os1.length 1 0 0) (.pointer (some ⟨E.w.heap.size,0,none⟩)):=by
 obtain⟨st',R1,e1,k1,k2⟩:=ZBt (vs:=cells.toList) R (fun j d u hd hu=>q3 j d u hd (by simpa using hu)) (by simpa using q1.symm) hfz;have hxl:xs.length=cells.size:=by simpa using k1
 have hk:=Jf E.w (.cells cells t);have hrow:KA (E.w.alloc (.cells cells t)) false t xs.length [xs].length (.slice (some ⟨E.w.heap.size,0,none⟩) 1 1) cells.toList:=by
  refine⟨by simp[hxl],.inr ⟨E.w.heap.size,1,cells,(0,0),rfl,heap_alloc_new E.w _,Zl _,by unfold maxLen;decide,?_,?_,.inl rfl⟩⟩
  ·simp[hxl]
  ·rw[hxl];exact JH (by simp)
 obtain⟨E',w1,w2,w3,w4⟩:=QO (E:=⟨E.w,st',E.ob⟩) R1 hk hrow (fun b hb=>by simp only[Value.ownBlock,Ze]at hb;subst hb;exact Zl _) (fun r hr=>by simp only[ZBP]at hr;rw[hr])
  (fun i r j x v h1 h2 h3=>by
   match i with
   |0=>
    simp only[ZBW,Ze]at h1;subst h1;rw[ZI4,Yy]at h3;exact k2 j x v h2 h3
   |i+1=>simp at h1)
 refine⟨E',w1,w2,e1.trans w3,?_⟩;cases w4 with
 |ref hr _=>
  obtain⟨o,sz,rs,q1,q2,q3,q4⟩:=hr;have hlt:(os1++ [Ob.rows false t xs.length [xs]])[os1.length]? =some (.rows false t xs.length [xs]):=by simp
  rw[hlt]at q1;cases q1;simp only[Ob.sl?,Ze,Za]at q2;obtain⟨rfl,rfl⟩:=q2;obtain⟨_,b,ad,cap,a',cap',g1,g2,_,_,g3,_⟩:=q4 rfl;obtain⟨g4,_⟩:=g3 rfl;simp only[Value.slice.injEq]at g2;obtain⟨g5,_,_⟩:=g2;rw[←g5]at g4;rw[←g4]at g1;exact .eptr ⟨_,_,1,hlt,rfl,Zl _,fun _=>⟨by decide,b,E.w.heap.size,cap,g1,by simp⟩⟩ ⟨_,rfl⟩
theorem ZT1(R:Rel c E os){id ext i:Nat}{fz:Bool}{e sz:Nat}{rs:List (List X)}(ho:os[id]? =some (.rows fz e sz rs)){vp:Value}(hp:V E os (.eptr id ext i 0) vp){r:List X}(hr:rs[i]? =some r)(hext:rs.length=ext)
  {t el:Nat} (ht:P.underlying t=some (.array sz el)) (hsz:Jg P el=some 1) (hm:sz≤16777216) {hi:Option Value} {h:Nat} (hb:Bnd none hi sz 0 h) (hle:h≤sz):
  ∃v E',(Instr.sliceAt t vp none hi none).run P E.w= .ok v E'.w∧Rel c E' (os.set id (.frz sz rs))∧Evo E os E' (os.set id (.frz sz rs))∧V E' (os.set id (.frz sz rs)) (.x (.sl ((r.take h).map fun y=> [y]))) v:=by
 have hp0:=hp;cases hp0 with
 |eptr hq _=>
  obtain⟨h1,h2⟩:=hq.at ho rfl;obtain⟨h3,b,g,cap,h4,h5⟩:=h2 hext;obtain⟨R',ev⟩:=R.freeze ho h4;have hlt:=(ZR ho).1;have ho':(os.set id (.frz sz rs))[id]? =some (.frz sz rs):=by simp[hlt]
  obtain⟨_,g',xs,w1,w2,w3,w4,w5,w6⟩:=ZLM R' (hp.mono ev) ho' rfl hext;rw[h5]at w1;simp only[Value.pointer.injEq,Ze,Addr.mk.injEq,and_true]at w1;obtain⟨rfl,_⟩:=w1;have hrl:r.length=sz:=w5 r (YT hr);subst h5;refine⟨_,⟨E.w,fun b off=>E.st b off∨(Value.ownBlock (.slice (some ⟨g,0,none⟩) ext cap)=some b∧off<rs.length*sz),E.ob⟩,ZRD ht hsz _ hb E.w,R',ev,.x ?_⟩;have hi1:i*sz+sz≤rs.length*sz:=by
   have:(i+1)*sz≤rs.length*sz:=KB _ (by omega);rw[JL]at this;omega
  have hval: ∀(k:Nat) (y:X),r[k]? =some y→ ∃u,xs[i*sz+k]? =some u∧VX E.w (fun b off=>E.st b off∨(Value.ownBlock (.slice (some ⟨g,0,none⟩) ext cap)=some b∧off<rs.length*sz)) y u:=fun k y hy=>w6 i r k y hr hy
  refine .sl _ _ h sz 1 (fun k _=>xs.getD (i*sz+k) undef) (by simp;omega) hle (by unfold maxLen;omega) (fun q hq=> ?_) (fun k j hk hj=> ?_) (fun hn=>by simp at hn) (fun _ ad had=>by simp at had;rw[←had]) (fun k j q x hq hx=> ?_)
  ·obtain⟨y,_,rfl⟩:=YW.1 hq;rfl
  ·obtain rfl:j=0:=by omega
   obtain⟨y,hy⟩: ∃y,r[k]? =some y:=⟨r[k]'(by omega),Zu _⟩;obtain⟨u,hu,_⟩:=hval k y hy;refine⟨g,i*sz+0,rfl,.inr ⟨rfl,by omega⟩,?_⟩;rw[Kr,Jw,Jw,ZGe,hu];exact w3 _ u hu
  ·rw[Zw]at hq;obtain⟨y,hy,rfl⟩:=ZT hq
   match j with
   |0=>
    simp only[ZBW,Ze]at hx;subst hx;rw[JQ]at hy;split at hy
    ·obtain⟨u,hu,hv⟩:=hval k y hy;show VX _ _ y (xs.getD (i*sz+k) undef);rw[ZGe,hu];exact hv
    ·cases hy
   |j+1=>simp at hx
set_option maxHeartbeats 2000000 in
theorem ZYl(R : Rel c E os)(hf : Fr n E os φ a){o : Oper}{e : IE}(hc : JY P o.op = some e){d : D}{os' : List Ob}(h : YA φ os e = some (true, d, os')) : ZWV P c E os o a d os' := by
  obtain ⟨dst, op, ty, pos, after, guard⟩ := o;simp only at hc;cases op <;> simp only [JY] at hc <;> (try cases hc)
  case alloc t =>
    simp only [Zf, KV] at hc;obtain ⟨i, hi, z, hz, hc⟩ := hc;split at hc
    · subst hc;simp only [YA, Zf, KV] at h;obtain ⟨cs, hcs, q, hq, h⟩ := h;simp at h;obtain ⟨_, rfl, rfl⟩ := h;have hcs : (Jh z).cells? = some cs := by
        have : (Jh z).val = Jh z := by unfold Jh ZAS; split <;> (try split) <;> (try split) <;> rfl
        rw [← this]; exact hcs
      obtain ⟨q1, q2, q3⟩ := (V.const E os z).cells hcs;obtain ⟨E', k1, k2, k3, k4⟩ := ZUe R (t := t) q1 q3 hq;refine JF (s := Instr.alloc t true (.tuple #[])) rfl ⟨_, E', ?_, k2, k3, k4⟩;rw [k1];simp [Instr.alloc, zeroValue, ZCd hi, hz, newVar, newRow]
    subst hc;simp only [YA, KV] at h;obtain ⟨cs, hcs, h⟩ := h;simp at h;obtain ⟨_, rfl, rfl⟩ := h;have hcs : (Jh z).cells? = some cs := by
      have : (Jh z).val = Jh z := by unfold Jh ZAS; split <;> (try split) <;> (try split) <;> rfl
      rw [← this]; exact hcs
    obtain ⟨q1, q2, q3⟩ := (V.const E os z).cells hcs;obtain ⟨E', k1, k2, k3, k4⟩ := ZP4 R z.cells t q1 q2 q3;refine JF (s := Instr.alloc t true (.tuple #[])) rfl ⟨_, E', ?_, k2, k3, k4⟩;rw [k1];simp [Instr.alloc, zeroValue, ZCd hi, hz, newVar, newRow]
  case box t x =>
    obtain ⟨y, hy, hc⟩ := KV.1 hc;split at hc
    · subst hc;simp only [YA, Zf, KV] at h;obtain ⟨cs, hcs, q, hq, h⟩ := h;simp at h;obtain ⟨h1, rfl, rfl⟩ := h;obtain ⟨q1, q2, q3⟩ := ((V.op hf hy).strip h1).cells hcs;obtain ⟨E', k1, k2, k3, k4⟩ := ZUe R (t := t) q1 q3 hq;refine JF (s := Instr.box t (a.eval x)) rfl ⟨_, E', ?_, k2, k3, k4⟩;rw [k1];simp [Instr.box, newVar, newRow]
    subst hc;simp only [YA, KV] at h;obtain ⟨cs, hcs, h⟩ := h;simp at h;obtain ⟨h1, rfl, rfl⟩ := h;obtain ⟨q1, q2, q3⟩ := ((V.op hf hy).strip h1).cells hcs;obtain ⟨E', k1, k2, k3, k4⟩ := ZP4 R (a.eval x).cells t q1 q2 q3;refine JF (s := Instr.box t (a.eval x)) rfl ⟨_, E', ?_, k2, k3, k4⟩;rw [k1];simp [Instr.box, newVar, newRow]
  case buildSlice t m parts =>
    split at hc
    · rename_i el ht;obtain ⟨i, hi, hc⟩ := Zf.1 hc;obtain ⟨z, hz, hc⟩ := Zf.1 hc;split at hc
      · rename_i hle;obtain ⟨ps, hps, hc⟩ := KV.1 hc; cases hc;obtain ⟨g1, g2⟩ := ZFs hps;simp only [YA] at h;split at h
        · rename_i hm;have hpl : (parts.toList.map (·.2)).length = m := by simp [hle.1]
          have e : (parts.map fun (p : Nat × Operand) => (p.1, a.eval p.2)) = ((((parts.toList.map (·.2)).map a.eval).zipIdx 0).map fun p => (p.2, p.1)).toArray := by
            apply ZCf.1;rw [ZPu];exact ZI9 a.eval parts.toList 0 g2
          have e' : (parts.map fun (x : Nat × Operand) => match x with | (i, x) => (i, a.eval x)) = (parts.map fun (p : Nat × Operand) => (p.1, a.eval p.2)) := rfl;split at h
          · obtain ⟨⟨b, rs⟩, h1, h⟩ := KV.1 h;simp at h;obtain ⟨rfl, rfl, rfl⟩ := h;have hres := ZaV (t := t) (m := m) R hf ht hi hz g1 hpl hle.2.1 hle.2.2 h1;refine JF (s := Instr.buildSlice t m (parts.map fun (i, x) => (i, a.eval x))) rfl ?_;rw [e', e];exact hres
          obtain ⟨⟨b, rs, os1⟩, h1, h⟩ := KV.1 h;simp at h;obtain ⟨rfl, rfl, rfl⟩ := h;have hres := Zbg (t := t) (m := m) R hf ht hi hz g1 hpl hle.2.1 hle.2.2 h1;refine JF (s := Instr.buildSlice t m (parts.map fun (i, x) => (i, a.eval x))) rfl ?_;rw [e', e];exact hres
        · cases h
      · cases hc
    · cases hc
  case store t x y =>
    simp only [JI, Zf] at hc;obtain ⟨m, hm, x', hx, y', hy, hc⟩ := hc; cases hc;simp only [YA, Zf] at h;obtain ⟨cs, hcs, h⟩ := h;split at h
    · rename_i hlen;split at h
      · rename_i id o hval;split at h
        · rename_i ds hds;split at h
          · rename_i hle;simp at h;obtain ⟨⟨c1, c2⟩, rfl, rfl⟩ := h;obtain ⟨q1, q2, q3⟩ := ((V.op hf hy).strip c2).cells hcs;have hp := (V.op hf hx).strip c1;rw [hval] at hp;obtain ⟨E', k1, k2, k3⟩ := ZbI (P := P) R hm hds hp q1 q2 q3 hlen hle;rw [Yk] at k2 k3;exact ⟨_, E', ZFJ (s := Instr.storeAt t (a.eval x) (a.eval y)) rfl k1, k2, k3, .skip rfl⟩
          · cases h
        · cases h
      · rename_i id ext i o hval;split at h
        · rename_i el sz rs hbd;obtain ⟨ob, hob, hdr⟩ := Zf.1 hbd;cases Ob.drw_of hdr;obtain ⟨r, hr, h⟩ := KV.1 h;simp at h;obtain ⟨⟨⟨c1, c2⟩, c3, c4⟩, rfl, rfl⟩ := h;obtain ⟨q1, q2, q3⟩ := ((V.op hf hy).strip c2).cells hcs;have hp := (V.op hf hx).strip c1;rw [hval] at hp;have q1' : (a.eval y).cells.size = m := by omega
          obtain ⟨E', w1, w2, w3⟩ := ZbW (P := P) R hm hob hp hr c3 q1' q2 (by omega) q3 c4;rw [Yk] at w2 w3;exact ⟨_, E', ZFJ (s := Instr.storeAt t (a.eval x) (a.eval y)) rfl w1, w2, w3, .skip rfl⟩
        obtain ⟨⟨zs, os1⟩, h1, h⟩ := Zf.1 h;simp only at h;split at h
        · rename_i fz el sz rs hrows;obtain ⟨r, hr, h⟩ := KV.1 h;simp at h;obtain ⟨⟨⟨c1, c2⟩, c3, c4⟩, rfl, rfl⟩ := h;obtain ⟨q1, q2, q3⟩ := ((V.op hf hy).strip c2).cells hcs;have hp := (V.op hf hx).strip c1;rw [hval] at hp;obtain ⟨st', R1, e1, k1, k2⟩ := ZBt (vs := (a.eval y).cells.toList) R (fun j d v hd hv => q3 j d v hd (by simpa using hv)) (by simp [q1]) h1;have q1' : (a.eval y).cells.size = m := by omega
          obtain ⟨E', w1, w2, w3⟩ := ZXq (P := P) (E := ⟨E.w, st', E.ob⟩) R1 hm hrows (hp.mono e1) hr c3 q1' q2 (by simp at k1; omega) (fun j x u hx hu => k2 j x u hx (by simpa using hu)) c4;rw [Yk] at w2 w3;exact ⟨_, E', ZFJ (s := Instr.storeAt t (a.eval x) (a.eval y)) rfl w1, w2, e1.trans w3, .skip rfl⟩
        · cases h
      · cases h
    · cases h
  case makeMap t r =>
    split at hc
    · rename_i key elem hT;obtain ⟨dk, hdk, hc⟩ := Zf.1 hc;obtain ⟨ag, hag, rfl⟩ := KV.1 hc;simp only [YA, ZCm, ZAI] at h;obtain ⟨_, rfl, rfl⟩ := h;exact JF (s := Instr.makeMap t none) rfl (ZcQ R dk (ZC6 hdk).2 ag t)
    · cases hc
  case lookup t x y ok =>
    split at hc
    · obtain ⟨dk, hd, hc⟩ := Zf.1 hc;obtain ⟨i, hi, hc⟩ := Zf.1 hc;obtain ⟨z, hz, hc⟩ := Zf.1 hc;obtain ⟨x', y', hx, hy, hc⟩ := KN hc;subst hc; simp [YA] at h
    · cases hc
  case mapUpdate t x y u =>
    split at hc
    · rename_i key elem hT;obtain ⟨dk, hdk, hc⟩ := Zf.1 hc;simp only [JI, Zf] at hc;obtain ⟨x', hx, y', hy, u', hu, hc⟩ := hc;cases hc;simp only [YA, Zf] at h;obtain ⟨cs, hcs, h⟩ := h;split at h
      · rename_i id hv;split at h
        · rename_i dk' ag l ho;obtain ⟨o, ho1, ho2⟩ := Zf.1 ho;split at h
          · rename_i hh;obtain ⟨rfl, hag⟩ := hh;obtain ⟨key', hk, h⟩ := KV.1 h;simp only [ZAI, ZEi] at h;obtain ⟨⟨c1, c2, c3⟩, rfl, rfl⟩ := h;have vu := (V.op hf hu).strip c3;obtain ⟨q1, q2, q3⟩ := vu.cells hcs;have v1 := (V.op hf hx).strip c1;rw [hv] at v1;have v2 := (V.op hf hy).strip c2;have hvc : VC E os ag cs (a.eval u) := by
              rw [← hag];exact VC.of vu hcs q1 q2 q3
            obtain ⟨E', w1, w2, w3⟩ := ZUY (P := P) R ho1 ho2 v1 hk v2 hvc hT (ZC6 hdk).1;exact ⟨_, E', ZFJ (s := Instr.mapUpdate t (a.eval x) (a.eval y) (a.eval u)) rfl w1, w2, w3, .skip rfl⟩
          · cases h
        · cases h
      · cases h
    · cases hc
  case insert t x y u =>
    split at hc
    · rename_i key elem hT;obtain ⟨dk, hdk, hc⟩ := Zf.1 hc;simp only [JI, Zf] at hc;obtain ⟨x', hx, y', hy, u', hu, hc⟩ := hc;cases hc;simp only [YA, Zf] at h;obtain ⟨cs, hcs, h⟩ := h;split at h
      · rename_i id hv;split at h
        · rename_i dk' ag l ho;obtain ⟨o, ho1, ho2⟩ := Zf.1 ho;split at h
          · rename_i hh;obtain ⟨rfl, hag⟩ := hh;obtain ⟨key', hk, h⟩ := KV.1 h;simp only [ZAI, ZEi] at h;obtain ⟨⟨c1, c2, c3⟩, rfl, rfl⟩ := h;have vu := (V.op hf hu).strip c3;obtain ⟨q1, q2, q3⟩ := vu.cells hcs;have v1 := (V.op hf hx).strip c1;rw [hv] at v1;have v2 := (V.op hf hy).strip c2;have hvc : VC E os ag cs (a.eval u) := by
              rw [← hag];exact VC.of vu hcs q1 q2 q3
            obtain ⟨E', w1, w2, w3⟩ := ZUY (P := P) R ho1 ho2 v1 hk v2 hvc hT (ZC6 hdk).1;exact ⟨_, E', ZFJ (s := Instr.mapUpdate t (a.eval x) (a.eval y) (a.eval u)) rfl w1, w2, w3, .skip rfl⟩
          · cases h
        · cases h
      · cases h
    · cases hc
  case mapEntry t x y =>
    split at hc
    · rename_i key elem hT;obtain ⟨dk, hdk, hc⟩ := Zf.1 hc;obtain ⟨i, hi, hc⟩ := Zf.1 hc;obtain ⟨z, hz, hc⟩ := Zf.1 hc;obtain ⟨x', y', hx, hy, hc⟩ := KN hc;subst hc;simp only [YA, Zf] at h;obtain ⟨zs, hzs, h⟩ := h;split at h
      · rename_i id hv;split at h
        · rename_i dk' ag l ho;obtain ⟨o, ho1, ho2⟩ := Zf.1 ho;split at h
          · rename_i hh;obtain ⟨rfl, hag⟩ := hh;obtain ⟨key', hk, h⟩ := KV.1 h;simp only [ZAI, ZEi] at h;obtain ⟨⟨c1, c2⟩, rfl, rfl⟩ := h;have v1 := (V.op hf hx).strip c1;rw [hv] at v1;have v2 := (V.op hf hy).strip c2;have vz := V.const E os z;obtain ⟨q1, q2, q3⟩ := vz.cells hzs;have hvc : VC E os ag zs z := by
              rw [← hag];exact VC.of vz hzs q1 q2 q3
            have hz' : (zeroValue elem).run P E.w = .ok z E.w := by simp [zeroValue, ZCd hi, hz]
            exact JF (s := Instr.mapEntry t (a.eval x) (a.eval y)) rfl (ZcX (P := P) R ho1 ho2 v1 hk v2 hT (ZC6 hdk).1 hz' hvc (ZYX hk (ZC6 hdk).2))
          · cases h
        · cases h
      · cases h
    · cases hc
  case entryStore t x y u =>
    simp only [JI, Zf] at hc;obtain ⟨x', hx, y', hy, u', hu, hc⟩ := hc;cases hc;simp only [YA, Zf] at h;obtain ⟨cs, hcs, h⟩ := h;split at h
    · rename_i id id' sid hv hv2;split at h
      · rename_i dk ag l key sid' ho;split at h
        · rename_i hh;obtain ⟨rfl, rfl, hag⟩ := hh;simp only [ZCm, ZAI, ZEi] at h;obtain ⟨⟨c1, c2, c3⟩, rfl, rfl⟩ := h;have vu := (V.op hf hu).strip c3;obtain ⟨q1, q2, q3⟩ := vu.cells hcs;have v1 := (V.op hf hx).strip c1;rw [hv] at v1;have v2 := (V.op hf hy).strip c2;rw [hv2] at v2;have hvc : VC E os ag cs (a.eval u) := by
            rw [← hag];exact VC.of vu hcs q1 q2 q3
          obtain ⟨E', w1, w2, w3⟩ := ZcK (P := P) R ho v1 v2 hvc t;exact ⟨_, E', ZFJ (s := Instr.entryStore t (a.eval x) (a.eval y) (a.eval u)) rfl w1, w2, w3, .skip rfl⟩
        · cases h
      · cases h
    · cases h
  case range t x =>
    split at hc
    · rename_i kt el hT;obtain ⟨x', hx, hc⟩ := Zf.1 hc;cases hc;simp only [YA] at h;split at h
      · rename_i id hv;split at h
        · rename_i dk ag l ho;obtain ⟨o, ho1, ho2⟩ := Zf.1 ho;simp only [ZCm, ZAI] at h;obtain ⟨c1, rfl, rfl⟩ := h;have v1 := (V.op hf hx).strip c1;rw [hv] at v1;exact JF (s := Instr.range t (a.eval x)) rfl (Zco (P := P) R ho1 ho2 v1 hT)
        · cases h
      · rename_i hv;simp only [ZCm, ZAI] at h;obtain ⟨c1, rfl, rfl⟩ := h;have v1 := (V.op hf hx).strip c1;rw [hv] at v1;exact JF (s := Instr.range t (a.eval x)) rfl (Zbl (P := P) R v1 hT)
      · cases h
    · rename_i hT;obtain ⟨x', hx, hc⟩ := Zf.1 hc;cases hc;simp only [YA] at h;split at h
      · rename_i s hv;simp only [ZCm, ZAI] at h;obtain ⟨c1, rfl, rfl⟩ := h;have v1 := (V.op hf hx).strip c1;rw [hv] at v1;refine JF (s := Instr.range t (a.eval x)) rfl ?_;rw [V.str v1];exact ZcB (P := P) R s hT
      · cases h
    · cases hc
  case next x st =>
    obtain ⟨x', hx, hc⟩ := Zf.1 hc;cases hc; simp [YA] at h
  case entry x =>
    obtain ⟨x', hx, hc⟩ := Zf.1 hc;cases hc; simp [YA] at h
  case makeSlice t l cp =>
    split at hc
    · rename_i el ht;simp only [JI, Zf] at hc;obtain ⟨i, hi, z, hz, zx, hzx, l', hl', c', hc', hc⟩ := hc; cases hc;simp only [YA] at h;split at h
      · rename_i li ci h1 h2;split at h
        · rename_i hh;simp at h;obtain ⟨⟨⟨c1, c2⟩, c3, c4, c5⟩, rfl, rfl⟩ := h;obtain ⟨kl, hkl⟩ := ZAF ((V.op hf hl').strip c1) h1;obtain ⟨kc, hkc⟩ := ZAF ((V.op hf hc').strip c2) h2;obtain ⟨li', rfl⟩ := ZBM c3;obtain ⟨ci', rfl⟩ := ZBM (show (0 : Int) ≤ ci by omega);refine JF (s := Instr.makeSlice t (a.eval l) (a.eval cp)) rfl ?_;rw [hkl, hkc];exact ZcJ R ht hi hz hzx hh.1 hh.2 kl kc li' ci' (by omega) (by omega)
        · cases h
      · cases h
    · cases hc
  case slice t x lo hi mx =>
    split at hc
    · simp only [JI, Zf] at hc;obtain ⟨x', hx, lo', hl, hi', hh, mx', hm, hc⟩ := hc; cases hc; simp [YA] at h
    · obtain ⟨z, hz, hc⟩ := Zf.1 hc;split at hc
      · cases hc
      · simp only [JI, Zf] at hc;obtain ⟨x', hx, lo', hl, hi', hh, mx', hm, hc⟩ := hc; cases hc; simp [YA] at h
    · rename_i m el ht;obtain ⟨z, hz, hc2⟩ := Zf.1 hc;clear hc;by_cases hh : z = 1 ∧ m ≤ 16777216 ∧ lo = none ∧ mx = none
      · rw [if_pos hh] at hc2;obtain ⟨rfl, hm, rfl, rfl⟩ := hh;simp only [JI, Zf] at hc2;obtain ⟨x', hx, hi', hhi, hc3⟩ := hc2;cases hc3;simp only [YA] at h;split at h
        · rename_i id ext i hv;split at h
          · rename_i fz e sz rs ho;split at h
            · rename_i hsz;subst hsz;obtain ⟨r, hr, h⟩ := Zf.1 h;have hrl : rs.length = ext → r.length = sz := fun _ => by
                obtain ⟨p, hp, hok⟩ := R.at ho;obtain ⟨xs, _, k2, _⟩ := hok;exact k2 r (YT hr)
              cases hi' with
              | none =>
                simp only [ZCm, ZAI, ZEi, decide_eq_true_eq] at h;obtain ⟨⟨c1, c2⟩, rfl, rfl⟩ := h;have v1 := (V.op hf hx).strip c1;rw [hv] at v1;have hb := bnd hf (lo := none) (hi := hi) (lo' := none) (hi' := none) rfl hhi sz 0 sz rfl rfl (Je _) (Zl _);have := ZT1 R ho v1 hr c2 ht hz hm hb (Zl _);rw [List.take_of_length_le (by rw [hrl c2]; exact Zl _)] at this;exact JF (s := Instr.sliceAt t (a.eval x) none (hi.map a.eval) none) rfl this
              | some h0 =>
                obtain ⟨k, hk, h⟩ := KV.1 h;simp only [ZAI, ZEi, decide_eq_true_eq] at h;obtain ⟨⟨c1, c3, c4, c5, c2⟩, rfl, rfl⟩ := h;obtain ⟨j, rfl⟩ := ZBM c4;have v1 := (V.op hf hx).strip c1;rw [hv] at v1;have hb := bnd hf (lo := none) (hi := hi) (lo' := none) (hi' := some h0) rfl hhi sz 0 j rfl ⟨_, hk, c3, rfl⟩ (Je _) (by omega);exact JF (s := Instr.sliceAt t (a.eval x) none (hi.map a.eval) none) rfl (ZT1 R ho v1 hr c2 ht hz hm hb (by omega))
            · cases h
          · cases h
        · cases h
      · rw [if_neg hh] at hc2; cases hc2
    · cases hc
  case convert s t x =>
    split at hc
    · obtain ⟨y, hy, hc⟩ := Zf.1 hc; cases hc; simp [YA] at h
    · split at hc
      · obtain ⟨y, hy, hc⟩ := Zf.1 hc; cases hc; simp [YA] at h
      · cases hc
    · rename_i el hs ht;split at hc
      · rename_i hel;obtain ⟨y, hy, hc⟩ := Zf.1 hc; cases hc;simp only [YA] at h;split at h
        · rename_i b h1;simp at h;obtain ⟨⟨c1, c2⟩, rfl, rfl⟩ := h;have := (V.op hf hy).strip c1;rw [h1] at this;refine JF (s := convert s t (a.eval x)) rfl ?_;rw [V.str this];exact Zb1 R hs ht hel b c2
        · cases h
      · cases hc
    · cases hc
  case call cl =>
    obtain ⟨callee, args, ats⟩ := cl;unfold ZAo at hc;simp only at hc;have bi : ∀ (b : Builtin) (s : Sem Value), (∀ consts, builtin b ats ty consts (args.map a.eval) = (do pure (Next.value (← s)))) → callee = .builtin b → (∃ v E', s.run P E.w = .ok v E'.w ∧ Rel c E' os' ∧ Evo E os E' os' ∧ V E' os' d v) →
        ZWV P c E os { dst, op := .call ⟨callee, args, ats⟩, type := ty, pos, after, guard } a d os' := by
      intro b s hb he hr;subst he;obtain ⟨v, E', h1, h2, h3, h4⟩ := hr;refine ⟨.value v, E', ?_, h2, h3, .value h4⟩;unfold execOp;simp only [resolve, Sem.run_bind, Sem.run_pure, Result.andThen_ok, invoke, hb, h1]
    split at hc
    · simp only [JI, Zf] at hc;obtain ⟨f', hf', ys, hys, hc⟩ := hc;cases hc; simp [YA] at h
    · split at hc
      · split at hc
        · obtain ⟨y, hy, hc⟩ := Zf.1 hc; cases hc; simp [YA] at h
        · obtain ⟨y, hy, hc⟩ := Zf.1 hc; cases hc; simp [YA] at h
        · obtain ⟨y, hy, hc⟩ := Zf.1 hc; cases hc; simp [YA] at h
        · cases hc
      · cases hc
    · split at hc
      · rename_i x y t u h1 h2;have h1 : args = #[x, y] := by apply ZCf.1; simpa using h1
        have h2 : ats = #[t, u] := by apply ZCf.1; simpa using h2
        subst h1; subst h2;split at hc
        · rename_i el kn ht hu;obtain ⟨i, hi, hc2⟩ := Zf.1 hc;obtain ⟨z, hz, hc3⟩ := Zf.1 hc2;obtain ⟨zx, hzx, hc4⟩ := Zf.1 hc3;clear hc hc2 hc3;obtain ⟨x', y', hx, hy, hc5⟩ := KN hc4;subst hc5;simp only [YA] at h;split at h
          · rename_i m hm;split at h
            · rename_i hh;split at h
              · rename_i id ext off len hv;split at h
                · rename_i e' sz' rs hrows;split at h
                  · rename_i hh2;obtain ⟨rfl, rfl, rfl⟩ := hh2;simp at h;obtain ⟨⟨⟨c1, c2⟩, rfl, rfl, c3, c4⟩, rfl, rfl⟩ := h;have v1 := (V.op hf hx).strip c1;rw [hv] at v1;obtain ⟨kq, hkq⟩ := ZAF ((V.op hf hy).strip c2) hm;obtain ⟨k, rfl⟩ := ZBM (show (0 : Int) ≤ m by omega);refine bi .append (Builtin.append_ #[t, u] ty #[a.eval x, a.eval y]) (fun _ => by simp [builtin]) rfl ?_;rw [hkq];exact ZSz R ht hu hi hz hzx hh.2.2 hh.1 hh.2.1 v1 hrows k (by omega) (by omega)
                  · cases h
                · cases h
              · cases h
            · cases h
          · cases h
        · rename_i el el2 ht hu;obtain ⟨i, hi, hc2⟩ := Zf.1 hc;obtain ⟨z, hz, hc3⟩ := Zf.1 hc2;clear hc hc2;split at hc3
          · rename_i hh;obtain ⟨rfl, hzs⟩ := hh;obtain ⟨x', y', hx, hy, hc4⟩ := KN hc3;subst hc4;simp only [YA] at h;split at h
            · rename_i hsz;refine bi .append (Builtin.append_ #[t, t] ty #[a.eval x, a.eval y]) (fun _ => by simp [builtin]) rfl ?_;split at h
              · rename_i srcD hsrcD;unfold ZCA at h;split at h
                · rename_i id ext off len hv;split at h
                  · rename_i e' sz' rs hrows;split at h
                    · rename_i hh2;obtain ⟨rfl, rfl, rfl⟩ := hh2;simp at h;obtain ⟨⟨⟨c1, c2⟩, rfl, rfl, c3, c4, c5⟩, rfl, rfl⟩ := h;have v1 := (V.op hf hx).strip c1;rw [hv] at v1;have v2 := (V.op hf hy).strip c2;unfold ZAN at hsrcD;split at hsrcD
                      · rename_i jd ext2 off2 len2 hv2;unfold QP at hsrcD;split at hsrcD
                        · rename_i e2 sz2 rs2 hj2;split at hsrcD
                          · rename_i hh3;obtain ⟨rfl, rfl, rfl⟩ := hh3;cases hsrcD;rw [hv2] at v2;exact ZWa R ht hi hz hzs hsz.1 hsz.2 v1 hrows v2 hj2 c5 c4 c3
                          · cases hsrcD
                        · cases hsrcD
                      · cases hsrcD
                    · cases h
                  · cases h
                · cases h
              obtain ⟨src, hsrc, h⟩ := Zf.1 h;split at h
              · rename_i hv;simp at h;obtain ⟨⟨⟨c1, c2⟩, c3, c4⟩, rfl, rfl⟩ := h;have v1 := (V.op hf hx).strip c1;rw [hv] at v1;rw [V.nils v1];exact ZTh R ht hi hz hzs hsz.1 hsz.2 ((V.op hf hy).strip c2) hsrc c4 c3
              · rename_i QR hv;split at h
                · rename_i h0;simp at h;obtain ⟨⟨c1, c2⟩, rfl, rfl⟩ := h;have v1 := (V.op hf hx).strip c1;rw [hv] at v1;have hs : src = [] := ξQ h0;subst hs;obtain ⟨ad, cp, news, q1, -⟩ := ZAE R ((V.op hf hy).strip c2) hsrc (sz := 0) (fun r hr => by cases hr);rw [q1];generalize a.eval x = vx at *;cases v1 with
                  | full m hvx => exact ⟨_, E, QF E.w t ty el i ht hi _ _ _ (Zl _) ad cp, R, Evo.refl _ _, .full m hvx⟩
                · rename_i h0;simp at h;obtain ⟨⟨⟨c1, c2⟩, c3, c4, c5⟩, rfl, rfl⟩ := h;have v1 := (V.op hf hx).strip c1;rw [hv] at v1;exact ZQz R ht hi hz hzs hsz.1 hsz.2 v1 c4 ((V.op hf hy).strip c2) hsrc c5 h0 c3
              · rename_i id ext off len hv;split at h
                · rename_i e' sz' rs hrows;split at h
                  · rename_i hh2;obtain ⟨rfl, rfl, rfl⟩ := hh2;simp at h;obtain ⟨⟨⟨c1, c2⟩, rfl, rfl, c4, c5⟩, rfl, rfl⟩ := h;have v1 := (V.op hf hx).strip c1;rw [hv] at v1;exact ZTG R ht hi hz hzs hsz.1 hsz.2 v1 hrows ((V.op hf hy).strip c2) hsrc c5 c4
                  · cases h
                · rename_i e' sz' rs hrows;split at h
                  · rename_i hh2;obtain ⟨rfl, rfl, rfl⟩ := hh2;simp at h;obtain ⟨⟨⟨c1, c2⟩, rfl, rfl, c3, c4, c5⟩, rfl, rfl⟩ := h;have v1 := (V.op hf hx).strip c1;rw [hv] at v1;exact ZbE R ht hi hz hzs hsz.1 hsz.2 v1 hrows ((V.op hf hy).strip c2) hsrc c5 c4 c3
                  · cases h
                · cases h
              · cases h
            · cases h
          · cases hc3
        · cases hc
      · cases hc
    · split at hc
      · rename_i x y t u h1 h2;have h1 : args = #[x, y] := by apply ZCf.1; simpa using h1
        have h2 : ats = #[t, u] := by apply ZCf.1; simpa using h2
        subst h1; subst h2;split at hc
        · rename_i el ht;simp only [JI, Zf] at hc;obtain ⟨z, hz, x', hx, y', hy, hc⟩ := hc;cases hc;simp only [YA, Zf] at h;obtain ⟨src, hsrc, h⟩ := h;split at h
          · rename_i id ext off len hv;split at h
            · rename_i fz e' sz' rs hrows;split at h
              · rename_i hh2;subst hh2;simp at h;obtain ⟨⟨⟨c1, c2⟩, c3, c4⟩, rfl, rfl⟩ := h;have v1 := (V.op hf hx).strip c1;rw [hv] at v1;obtain ⟨E', k1, k2, k3⟩ := Zbu (P := P) (u := u) (ty := ty) R ht hz v1 hrows c3 ((V.op hf hy).strip c2) hsrc c4;rw [Yk] at k2 k3;exact bi .copy (Builtin.copy_ #[t, u] ty #[a.eval x, a.eval y]) (fun _ => by simp [builtin]) rfl ⟨_, E', k1, k2, k3, V.mkint _ _ _ _⟩
              · cases h
            · cases h
          · cases h
        · cases hc
      · cases hc
    · split at hc
      · rename_i x y t u h1 h2;have h1 : args = #[x, y] := by apply ZCf.1; simpa using h1
        have h2 : ats = #[t, u] := by apply ZCf.1; simpa using h2
        subst h1; subst h2;split at hc
        · rename_i key elem hT;obtain ⟨dk, hdk, hc⟩ := Zf.1 hc;obtain ⟨x', y', hx, hy, hc⟩ := KN hc;subst hc;simp only [YA] at h;split at h
          · rename_i id hv;split at h
            · rename_i dk' ag l ho;obtain ⟨o, ho1, ho2⟩ := Zf.1 ho;split at h
              · rename_i hh;subst hh;obtain ⟨key', hk, h⟩ := KV.1 h;simp only [ZAI, ZEi] at h;obtain ⟨⟨c1, c2⟩, rfl, rfl⟩ := h;have v1 := (V.op hf hx).strip c1;rw [hv] at v1;exact bi .delete (Builtin.delete_ #[t, u] ty #[a.eval x, a.eval y]) (fun _ => by simp [builtin]) rfl (Zb5 R ho1 ho2 v1 hk ((V.op hf hy).strip c2) hT (ZC6 hdk).1 ty u)
              · cases h
            · cases h
          · cases h
        · cases hc
      · cases hc
    · split at hc
      · rename_i x t h1 h2;have h1 : args = #[x] := by apply ZCf.1; simpa using h1
        have h2 : ats = #[t] := by apply ZCf.1; simpa using h2
        subst h1; subst h2;split at hc
        · rename_i key elem hT;obtain ⟨x', hx, hc⟩ := Zf.1 hc;cases hc;simp only [YA] at h;split at h
          · rename_i id hv;split at h
            · rename_i dk ag l ho;obtain ⟨o, ho1, ho2⟩ := Zf.1 ho;simp only [ZCm, ZAI] at h;obtain ⟨c1, rfl, rfl⟩ := h;have v1 := (V.op hf hx).strip c1;rw [hv] at v1;exact bi .clear (Builtin.clear_ #[t] ty #[a.eval x]) (fun _ => by simp [builtin]) rfl (Zc0 R ho1 ho2 v1 hT ty)
            · cases h
          · rename_i hv;simp only [ZCm, ZAI] at h;obtain ⟨c1, rfl, rfl⟩ := h;have v1 := (V.op hf hx).strip c1;rw [hv] at v1;refine bi .clear (Builtin.clear_ #[t] ty #[a.eval x]) (fun _ => by simp [builtin]) rfl ⟨.tuple #[], E, ?_, R, Evo.refl _ _, .tup #[] rfl (fun j d v h => by simp at h)⟩;rw [v1.mnil_inv];simp [Builtin.clear_, run_underlying hT]
          · cases h
        · cases hc
      · cases hc
    all_goals first
      | (cases hc; done)
      | (split at hc
         · obtain ⟨x', y', hx, hy, hc⟩ := KN hc;subst hc; simp [YA] at h
         · cases hc)
  case makeFunc fn first caps =>
    cases fn <;> simp only at hc <;> (try cases hc)
    split at hc
    · obtain ⟨ys, hys, hc⟩ := Zf.1 hc; cases hc; simp [YA] at h
    · cases hc
  all_goals
    exfalso;have ha := ZWv h;have hna : NA (some e) := by
      rw [← hc]
      repeat first | exact NA.none | exact NA.some rfl | (refine NA.bind (fun _ => ?_)) | (refine NA.bind' (fun _ => ?_)) | (refine NA.map (fun _ => rfl)) | split
    rw [hna e rfl] at ha;cases ha

end
def VL(E:Env)(os:List Ob)(ds:List D)(vs:Array Value):Prop:=ds.length=vs.size∧ ∀(j:Nat) (d:D) (v:Value),ds[j]? =some d→vs[j]? =some v→V E os d v
def ZD(P:Program)(f:FuncId)(args:List D)(r:D):Prop:=
 ∀(w:World) (st:Nat→Nat→Prop) (vs:Array Value),(∀b o,st b o→b<w.heap.size)→VL ⟨w,st,[]⟩ [] args vs→
  Calls P f vs w fun e w'=> ∃v st',e= .returned v∧Kept (fun _=>False) w w'∧(∀b o,st b o→st' b o)∧(∀b o,st' b o→st b o∨(w.heap.size≤b∧b<w'.heap.size))∧V ⟨w',st',[]⟩ [] r v
def Enters(P:Program)(f:FuncId):Prop:= ∀(args:Array Value) (w:World),(callFunc f args).run P w= .ok (.enter f args) w
def SOk(P:Program)(S:FuncId→List D→Option (Bool×D)):Prop:= ∀f args r,S f args=some (true,r)→Enters P f∧ZD P f args r
section
variable {P:Program} {E:Env} {os:List Ob} {c:Ctx} {n:Nat} {φ:List (Nat×D)} {a:Act}
theorem V.scalar{E':Env}{os':List Ob}{d:D}{v:Value}(h:V E os d v)(hs:d.scalar=true):V E' os' d v:=by
 have one: ∀ {x:X} {v:Value},VX E.w E.st x v→x.scalar=true→VX E'.w E'.st x v:=by
  intro x v h hs;cases h with
  |int k n=>exact .int k n
  |bool b=>exact .bool b
  |str s=>exact .str s
  |nilp=>exact .nilp
  |nils=>exact .nils
  |sl=>cases hs
 have tl: ∀ {ds:List D} {vs:Array Value},(∀d∈ds,∃x,d= .x x∧x.scalar=true)→V E os (.tup ds) (.tuple vs)→V E' os' (.tup ds) (.tuple vs):=by
  intro ds vs hd h;cases h with
  |tup _ hl hv=>
   refine .tup vs hl (fun j d v h1 h2=> ?_);obtain⟨x,rfl,hx⟩:=hd d (YT h1);exact .x (one (hv j _ v h1 h2).xx hx)
 unfold D.scalar at hs;split at hs
 ·exact .x (one h.xx hs)
 ·cases h with|tup vs hl hv=>exact .tup vs hl (fun j d v h1=>by simp at h1)
 ·rename_i x1;cases h with|tup vs hl hv=>exact tl (fun d hd=>by simp at hd;subst hd;exact⟨_,rfl,hs⟩) (.tup vs hl hv)
 ·rename_i x1 x2;simp at hs;cases h with|tup vs hl hv=>exact tl (fun d hd=>by simp at hd;rcases hd with rfl|rfl;exact⟨_,rfl,hs.1⟩;exact⟨_,rfl,hs.2⟩) (.tup vs hl hv)
 ·rename_i x1 x2 x3;simp at hs;cases h with|tup vs hl hv=>exact tl (fun d hd=>by simp at hd;rcases hd with rfl|rfl|rfl;exact⟨_,rfl,hs.1.1⟩;exact⟨_,rfl,hs.1.2⟩;exact⟨_,rfl,hs.2⟩) (.tup vs hl hv)
 ·cases hs
theorem V.bare{w:World}{st:Nat→Nat→Prop}{st':Nat→Nat→Prop}{ob:List (Nat×Value)}{d:D}{v:Value}(h:V ⟨w,st,[]⟩ [] d v)(hst: ∀b o,st b o→st' b o):V ⟨w,st',ob⟩ os d v:=
 V.mono (E:=⟨w,st,[]⟩) (os:= []) (E':=⟨w,st',ob⟩) (os':=os) ⟨fun b o hb=>⟨hst b o hb,rfl⟩,fun id b cu ds k h=>(by simp at h),fun id o' sz rs hid=>(by simp at hid)⟩ h
theorem ZGr: ∀ {ds:List D} {xs:List X},ZC2 ds=some xs→ds=xs.map .x
 | [],xs,h=>by cases h;rfl
 |d::l,xs,h=>by
  cases d with
  |x y=>
   simp only[ZC2,Qt]at h;obtain⟨r,hr,rfl⟩:=h;rw[ZGr hr];rfl
  |_=>simp[ZC2]at h
theorem ZT7(R:Rel c E os){id off len:Nat}{v:Value}(hv:V E os (.bref id off len) v){x:X}(h:Yu os (.bref id off len)=some x):VX E.w (fun b _=>b<E.w.heap.size) x v:=by
 simp only[Yu,ZK2,Qt]at h;obtain⟨rs,h,rfl⟩:=h;split at h
 ·rename_i ds ho;split at h
  ·rename_i hle;obtain⟨xs,hxs,rfl⟩:=ZT h;have hds:=ZGr hxs;cases hv with
   |bref ho' hb hm=>
    obtain⟨p,hp,hok⟩:=R.at ho;rw[hp]at hb;cases hb;obtain⟨cs,ty,g1,g2,g3⟩:=hok;have hxl:xs.length=len:=by
     have:=congrArg List.length hds;simp only[JA,KU,Yf]at this;omega
    have hcell: ∀i (hi:i<len),∃u,cs[off+i]? =some u∧VX E.w E.st (xs[i]'(by omega)) u:=by
     intro i hi;have h1:(ds.drop off).take len=xs.map .x:=hds;have h2:=congrArg (fun l=>l[i]?) h1;simp only[JQ,hi,if_true,ξV,Zw]at h2;rw[Zu (by omega:i<xs.length)]at h2;have hlt:off+i<cs.size:=by rw[g2];omega
     refine⟨cs[off+i],ξK hlt,?_⟩;exact(g3 (off+i) _ _ h2 (ξK hlt)).1.xx
    have hblt: ∀q:Nat×Value,E.ob[id]? =some q→q.1<E.w.heap.size:=fun q hq=>by
     rw[hp]at hq;cases hq;exact(ξH g1).1
    refine .sl _ _ _ _ 1 (fun i _=>cs.getD (off+i) undef) (by simp[hxl]) (Zl _) hm (fun r hr=> ?_) (fun i j hi hj=> ?_) (fun hn=>by cases hn) (fun _ ad had=>by cases had;rfl) (fun i j r y hr hy=> ?_)
    ·obtain⟨z,_,rfl⟩:=YW.1 hr;rfl
    ·obtain rfl:j=0:=by omega
     obtain⟨u,hu,_⟩:=hcell i hi;refine⟨_,off,rfl,(ξH g1).1,?_⟩;have e:off+i*1+0=off+i:=by omega
     rw[e];simp only[World.cell?,g1,ZXS,Yt,if_false,hu];simp[ZCa,hu]
    ·rw[Zw]at hr;obtain⟨z,hz,rfl⟩:=ZT hr
     match j with
     |0=>
      simp only[ZBW,Ze]at hy;subst hy;have hi:i<len:=by rw[←hxl];exact(ZR hz).1
      obtain⟨u,hu,hx⟩:=hcell i hi;have:xs[i]'(by omega)=z:=(ZR hz).2;rw[this]at hx;have e2:cs.getD (off+i) undef=u:=by simp[ZCa,hu]
      show VX _ _ z (cs.getD (off+i) undef);rw[e2];exact hx.mono (fun b o hb=>⟨(R.stm b o hb).1,rfl⟩)
     |j+1=>simp at hy
  ·cases h
 ·cases h
theorem ZPk(R:Rel c E os){d:D}{v:Value}(hv:V E os d v){x:X}(h:Yu os d=some x):VX E.w (fun b _=>b<E.w.heap.size) x v:=by
 have key: ∀os',Yg os d=some (x,os')→VX E.w (fun b _=>b<E.w.heap.size) x v:=fun os' hf=>by
  obtain⟨st',R',_,hx⟩:=ZIR R hv hf;exact hx.mono (fun b o hb=>⟨(R'.stm b o hb).1,rfl⟩)
 cases d with
 |x y=>cases h;exact key os rfl
 |full rs=>simp[Yu,Zp]at h;subst h;exact key os rfl
 |ref id ext off len=>
  simp only[Yu,Zp]at h;cases ho:os[id]? with
  |none=>simp[ho]at h
  |some o=>
   cases o with
   |box ds=>simp[ho,Ob.slice?]at h
   |rows fz e sz rs=>
    simp[ho,Ob.slice?]at h;obtain⟨rfl,rfl⟩:=h;exact key (os.set id (.frz sz rs)) (by simp[Yg,ho])
   |frz sz rs=>
    simp[ho,Ob.slice?]at h;obtain⟨rfl,rfl⟩:=h;exact key os (by simp[Yg,ho])
   |_=>simp[ho,Ob.slice?]at h
 |nz=>simp[Yu,Zp]at h
 |ptr=>simp[Yu,Zp]at h
 |eptr=>simp[Yu,Zp]at h
 |vptr=>simp[Yu,Zp]at h
 |mref=>simp[Yu,Zp]at h
 |mnil=>simp[Yu,Zp]at h
 |iref=>simp[Yu,Zp]at h
 |stk=>simp[Yu,Zp]at h
 |bref id off len=>exact ZT7 R hv h
 |agg=>simp[Yu,Zp]at h
 |tup=>simp[Yu,Zp]at h
 |fn=>simp[Yu,Zp]at h
 |opt=>simp[Yu,Zp]at h
 |und=>simp[Yu,Zp]at h
theorem ZCj{α β:Type}{f:α→Option β}: ∀ {l:List α} {m:List β},l.mapM f=some m→l.length=m.length∧ ∀(j:Nat) (x:α) (y:β),l[j]? =some x→m[j]? =some y→f x=some y
 | [],m,h=>by simp at h;subst h;exact⟨rfl,fun j x y h=>by simp at h⟩
 |x::l,m,h=>by
  simp only[QL,JI,Yh,Qx]at h;obtain⟨y,hy,ys,hys,h⟩:=h;cases h;obtain⟨h1,h2⟩:=ZCj hys;refine⟨by simp[h1],fun j x' y' hx hy'=> ?_⟩;cases j with
  |zero=>simp at hx hy';subst hx;subst hy';exact hy
  |succ j=>exact h2 j x' y' (by simpa using hx) (by simpa using hy')
theorem ZY0(R:Rel c E os){d:D}{v:Value}(hv:V E os d v){d':D}(h:QG os d=some d'):V ⟨E.w,fun b _=>b<E.w.heap.size,[]⟩ [] d' v:=by
 unfold QG at h;split at h
 ·cases h;exact .x (hv.xx.mono (fun b o hb=>⟨(R.stm b o hb).1,rfl⟩))
 ·rename_i ds;obtain⟨xs,hxs,h⟩:=ZT h;cases h;obtain⟨h1,h2⟩:=ZCj hxs;cases hv with
  |agg vs hl ho hvv=>
   refine .agg vs (by simp[←h1,hl]) ho (fun j d v hd hv'=> ?_);rw[Zw]at hd;obtain⟨y,hy,rfl⟩:=ZT hd;have hj:=(ZR hy).1;have hdj:ds[j]? =some (ds[j]'(by omega)):=Zu _;exact .x (ZPk R (hvv j _ v hdj hv') (h2 j _ y hdj hy))
 ·cases h;cases hv with
  |fn vs hl hvv=>exact .fn vs hl (fun j d v hd=>by simp at hd)
 ·obtain⟨y,hy,h⟩:=ZT h;cases h;exact .x (ZPk R hv hy)
theorem ZXb{d:D}{v:Value}(hv:V E os d v)(hp:d.plain=true){d':D}(h:QG os d=some d'):V ⟨E.w,E.st,[]⟩ [] d' v:=by
 unfold QG at h;split at h
 ·cases h;exact .x hv.xx
 ·rename_i ds;obtain⟨xs,hxs,h⟩:=ZT h;cases h;obtain⟨h1,h2⟩:=ZCj hxs;cases hv with
  |agg vs hl ho hvv=>
   refine .agg vs (by simp[←h1,hl]) ho (fun j d v hd hv'=> ?_);rw[Zw]at hd;obtain⟨y,hy,rfl⟩:=ZT hd;have hj:=(ZR hy).1;have hdj:ds[j]? =some (ds[j]'(by omega)):=Zu _;have hpx:=YQ.1 hp _ (Yl (by omega:j<ds.length));have hh:=h2 j _ y hdj hy;have hvx:=hvv j _ v hdj hv';generalize ds[j]'(by omega)=dj at*;cases dj with
   |x z=>simp[Yu]at hh;subst hh;exact .x hvx.xx
   |_=>cases hpx
 ·cases h;cases hv with
  |fn vs hl hvv=>exact .fn vs hl (fun j d v hd=>by simp at hd)
 ·cases d<;>first|(cases hp;done)|skip
  all_goals first
   |(rename_i h1 h2 h3;exact absurd rfl (h1 _))
   |(rename_i h1 h2 h3;exact absurd rfl (h2 _))
   |skip
  rename_i f caps h1 h2 h3;cases caps with
  |nil=>exact absurd rfl (h3 _)
  |cons c cs=>cases hp
def NP(p:IE→Bool)(x:Option IE):Prop:= ∀e,x=some e→p e=false
theorem NP.none{p:IE→Bool}:NP p none:=fun e h=>by cases h
theorem NP.some{p:IE→Bool}{e:IE}(h:p e=false):NP p (some e):=fun e' h'=>by cases h';exact h
theorem NP.bind{p:IE→Bool}{α:Type}{x:Option α}{f:α→Option IE}(h: ∀y,NP p (f y)):NP p (x.bind f):=fun e he=>by
 obtain⟨y,_,h2⟩:=Zv he;exact h y e h2
theorem NP.bind'{p:IE→Bool}{α:Type}{x:Option α}{f:α→Option IE}(h: ∀y,NP p (f y)):NP p (x>>=f):=NP.bind h
theorem NP.map{p:IE→Bool}{α:Type}{x:Option α}{f:α→IE}(h: ∀y,p (f y)=false):NP p (x.map f):=fun e he=>by
 obtain⟨y,_,rfl⟩:=ZT he;exact h y
def ZL(P:Program)(f:FuncId)(args:List D)(os:List Ob)(r:D)(os':List Ob):Prop:=
 ∀(c:Ctx) (E:Env) (vs:Array Value),Rel c E os→VL E os args vs→
  Calls P f vs E.w fun e w'=> ∃v E',e= .returned v∧E'.w=w'∧Rel c E' os'∧Evo E os E' os'∧V E' os' r v
def TOk(P:Program)(T:FuncId→List D→List Ob→Option (Bool×D×List Ob)):Prop:= ∀f args os r os',T f args os=some (true,r,os')→Enters P f∧ZL P f args os r os'
def ZGA(T:FuncId→List D→List Ob→Option (Bool×D×List Ob))(φ:List (Nat×D))(os:List Ob):IE→Option (Bool×D×List Ob)
 | .call f xs=>match(ZC φ f).val with
  | .fn g caps=>(T g ((xs.map fun y=>(ZC φ y).val)++caps) os).map fun r=>((ZC φ f).cond&&((xs.all fun y=>(ZC φ y).cond)&&r.1),r.2)
  |_=>none
 |_=>none
theorem ZNq{op:Op}{e:IE}(hc:JY P op=some e)(hcall:e.isCall=true): ∃f args ats f' ys,op= .call ⟨.value f,args,ats⟩∧ZP f=some f'∧args.toList.mapM ZP=some ys∧e= .call f' ys:=by
 cases op<;>simp only[JY]at hc<;>(try cases hc)
 case call cl=>
  obtain⟨callee,args,ats⟩:=cl;unfold ZAo at hc;simp only at hc;split at hc
  ·simp only[JI,Yh]at hc;obtain⟨f',hf',ys,hys,hc⟩:=hc;cases hc;exact⟨_,_,_,_,_,rfl,hf',hys,rfl⟩
  all_goals
   exfalso;have hna:NP IE.isCall (some e):=by
    rw[←hc]
    repeat first|exact NP.none|exact NP.some rfl|(refine NP.bind (fun _=> ?_))|(refine NP.bind' (fun _=> ?_))|(refine NP.map (fun _=>rfl))|split
   rw[hna e rfl]at hcall;cases hcall
 case makeFunc fn first caps=>
  cases fn<;>simp only at hc<;>(try cases hc)
  split at hc
  ·obtain⟨ys,hys,hc⟩:=Zv hc;cases hc;cases hcall
  ·cases hc
 all_goals
  exfalso;have hna:NP IE.isCall (some e):=by
   rw[←hc]
   repeat first|exact NP.none|exact NP.some rfl|(refine NP.bind (fun _=> ?_))|(refine NP.bind' (fun _=> ?_))|(refine NP.map (fun _=>rfl))|split
  rw[hna e rfl]at hcall;cases hcall
theorem ZEY(hf:Fr n E os φ a){o:Oper}{f':IO}{ys:List IO}(hc:JY P o.op=some (.call f' ys)){g:FuncId}{caps:List D}(hval:(ZC φ f').val= .fn g caps)(c1:(ZC φ f').cond=true)(c2: ∀y∈ys,(ZC φ y).cond=true)(hen:Enters P g){K:Act→World→Prop}{Q:Exit→Act→World→Prop}
  (hpc: ∀vs,VL E os ((ys.map fun y=>(ZC φ y).val)++caps) vs→Calls P g vs E.w fun e w'=> ∃v,e= .returned v∧K (a.put o.dst v) w'):o.wp P a E.w K Q:=by
 obtain⟨dst,op,ty,pos,after,guard⟩:=o;simp only at hc hpc;obtain⟨f,args,ats,f'',ys',rfl,hf',hys,he⟩:=ZNq hc rfl;cases he;have vf:=(V.op hf hf').strip c1;rw[hval]at vf;generalize hfv:a.eval f=fv at vf;cases vf with
 |fn capv hl hvv=>
  obtain⟨l1,l2⟩:=ZLl hf hys;have hrun:(execOp a.eval {dst,op:= .call ⟨.value f,args,ats⟩,type:=ty,pos,after,guard}).run P E.w= .ok (.enter g (args.map a.eval++capv)) E.w:=by
   unfold execOp;simp only[resolve,hfv,Deferred.ofValue,Sem.run_bind,Sem.run_pure,Result.andThen_ok,invoke];have:=hen (#[]++args.map a.eval++capv) E.w;simpa using this
  have lenA:ys.length=args.size:=by rw[←l1];simp
  have hvl:VL E os ((ys.map fun y=>(ZC φ y).val)++caps) (args.map a.eval++capv):=by
   refine⟨by simp[lenA,hl],fun j d v hd hv=> ?_⟩;by_cases hj:j<ys.length
   ·rw[YR (by simpa using hj)]at hd;rw[ZYY (by simp;omega)]at hv;have hyj:ys[j]? =some (ys[j]'hj):=Zu _;have hxj:args.toList[j]? =some (args[j]'(by omega)):=by simp
    have hval':=l2 j _ _ hxj hyj;have hmem:(ZC φ (ys[j]'hj)).cond=true:=c2 _ (Yl _);rw[Zw,hyj]at hd;simp at hd;have hve:v=a.eval (args[j]'(by omega)):=by
     rw[ZYN,ξK (by omega)]at hv;simpa using hv.symm
    subst hve;rw[←hd];exact hval'.strip hmem
   ·rw[Ki (by simp;omega)]at hd;rw[Array.getElem?_append_right (by simp;omega)]at hv;simp only[Array.size_map,Yf,lenA]at hv hd;exact hvv _ _ v hd hv
  unfold Oper.wp;rw[hrun];show Calls P g _ E.w _;refine(hpc _ hvl).mono ?_;rintro e w' ⟨v,rfl,hk⟩;exact hk
theorem ZWA{T:FuncId→List D→List Ob→Option (Bool×D×List Ob)}(hT:TOk P T)(R:Rel c E os)(hf:Fr n E os φ a){o:Oper}{e:IE}(hc:JY P o.op=some e){d:D}{os':List Ob}(h:ZGA T φ os e=some (true,d,os')){K:Act→World→Prop}{Q:Exit→Act→World→Prop}
  (hK: ∀v E',Rel c E' os'→Evo E os E' os'→V E' os' d v→K (a.put o.dst v) E'.w):o.wp P a E.w K Q:=by
 cases e<;>simp only[ZGA]at h<;>(try cases h)
 split at h
 ·rename_i g caps hval;obtain⟨⟨ok,r,os1⟩,hr,h⟩:=ZT h;simp at h;obtain⟨⟨c1,c2,rfl⟩,rfl,rfl⟩:=h;obtain⟨hen,hpc⟩:=hT _ _ _ _ _ hr;refine ZEY hf hc hval c1 c2 hen (fun vs hvl=>(hpc c E vs R hvl).mono ?_);rintro e w' ⟨v,E',rfl,rfl,R',ev,hv⟩;exact⟨v,rfl,hK v E' R' ev hv⟩
 ·cases h
def ZFT(P:Program)(f:FuncId)(args:List D)(os:List Ob)(r:D):Prop:=
 ∀(Y:List Ob) (c:Ctx) (E:Env) (vs:Array Value),Rel c E (os++Y)→VL E (os++Y) args vs→
  Calls P f vs E.w fun e w'=> ∃v E',e= .returned v∧E'.w=w'∧Rel c E' (os++Y)∧Evo E (os++Y) E' (os++Y)∧V E' (os++Y) r v
def ROk(P:Program)(T:FuncId→List D→List Ob→Option (Bool×D)):Prop:= ∀f args os r,T f args os=some (true,r)→Enters P f∧ZFT P f args os r
def ZB1(T:FuncId→List D→List Ob→Option (Bool×D))(φ:List (Nat×D))(os:List Ob):IE→Option (Bool×D)
 | .call f xs=>match(ZC φ f).val with
  | .fn g caps=>(T g ((xs.map fun y=>(ZC φ y).val)++caps) os).map fun r=>((ZC φ f).cond&&((xs.all fun y=>(ZC φ y).cond)&&r.1),r.2)
  |_=>none
 |_=>none
theorem ZVy{T:FuncId→List D→List Ob→Option (Bool×D)}(hT:ROk P T){Y:List Ob}(R:Rel c E (os++Y))(hf:Fr n E (os++Y) φ a){o:Oper}{e:IE}(hc:JY P o.op=some e){d:D}(h:ZB1 T φ os e=some (true,d)){K:Act→World→Prop}{Q:Exit→Act→World→Prop}
  (hK: ∀v E',Rel c E' (os++Y)→Evo E (os++Y) E' (os++Y)→V E' (os++Y) d v→K (a.put o.dst v) E'.w):o.wp P a E.w K Q:=by
 cases e<;>simp only[ZB1]at h<;>(try cases h)
 split at h
 ·rename_i g caps hval;obtain⟨⟨ok,r⟩,hr,h⟩:=ZT h;simp at h;obtain⟨⟨c1,c2,rfl⟩,rfl⟩:=h;obtain⟨hen,hpc⟩:=hT _ _ _ _ hr;refine ZEY hf hc hval c1 c2 hen (fun vs hvl=>(hpc Y c E vs R hvl).mono ?_);rintro e w' ⟨v,E',rfl,rfl,R',ev,hv⟩;exact⟨v,rfl,hK v E' R' ev hv⟩
 ·cases h
def ZBQ(P:Program)(f:FuncId)(args:List D)(os:List Ob)(r:Nat→D)(ob:Ob):Prop:=
 ∀(Y:List Ob) (id:Nat) (c:Ctx) (E:Env) (vs:Array Value),(os++Y)[id]? =some .dead→Rel c E (os++Y)→VL E (os++Y) args vs→
  Calls P f vs E.w fun e w'=> ∃v E',e= .returned v∧E'.w=w'∧Rel c E' ((os++Y).set id ob)∧Evo E (os++Y) E' ((os++Y).set id ob)∧V E' ((os++Y).set id ob) (r id) v
def KOk(P:Program)(T:FuncId→List D→List Ob→Option (Bool×(Nat→D)×Ob)):Prop:= ∀f args os r ob,T f args os=some (true,r,ob)→Enters P f∧ZBQ P f args os r ob
def ZD4(T:FuncId→List D→List Ob→Option (Bool×(Nat→D)×Ob))(φ:List (Nat×D))(os:List Ob)(id:Nat):IE→Option (Bool×D×Ob)
 | .call f xs=>match(ZC φ f).val with
  | .fn g caps=>(T g ((xs.map fun y=>(ZC φ y).val)++caps) os).map fun r=>((ZC φ f).cond&&((xs.all fun y=>(ZC φ y).cond)&&r.1),r.2.1 id,r.2.2)
  |_=>none
 |_=>none
theorem ZPn{T:FuncId→List D→List Ob→Option (Bool×(Nat→D)×Ob)}(hT:KOk P T){Y:List Ob}(R:Rel c E (os++Y))(hf:Fr n E (os++Y) φ a){o:Oper}{e:IE}(hc:JY P o.op=some e){id:Nat}(hd:(os++Y)[id]? =some .dead){d:D}{ob:Ob}(h:ZD4 T φ os id e=some (true,d,ob)){K:Act→World→Prop}{Q:Exit→Act→World→Prop}
  (hK: ∀v E',Rel c E' ((os++Y).set id ob)→Evo E (os++Y) E' ((os++Y).set id ob)→V E' ((os++Y).set id ob) d v→K (a.put o.dst v) E'.w):o.wp P a E.w K Q:=by
 cases e<;>simp only[ZD4]at h<;>(try cases h)
 split at h
 ·rename_i g caps hval;obtain⟨⟨ok,r,ob'⟩,hr,h⟩:=ZT h;simp at h;obtain⟨⟨c1,c2,rfl⟩,rfl,rfl⟩:=h;obtain⟨hen,hpc⟩:=hT _ _ _ _ _ hr;refine ZEY hf hc hval c1 c2 hen (fun vs hvl=>(hpc Y id c E vs hd R hvl).mono ?_);rintro e w' ⟨v,E',rfl,rfl,R',ev,hv⟩;exact⟨v,rfl,hK v E' R' ev hv⟩
 ·cases h
theorem ZXa{S:FuncId→List D→Option (Bool×D)}(hS:SOk P S)(R:Rel c E os)(hf:Fr n E os φ a){o:Oper}{e:IE}(hc:JY P o.op=some e)(hcall:e.isCall=true){d:D}(h:ZM S φ os e=some (true,d)){K:Act→World→Prop}{Q:Exit→Act→World→Prop}
  (hK: ∀v E',Rel c E' os→Evo E os E' os→V E' os d v→K (a.put o.dst v) E'.w):o.wp P a E.w K Q:=by
 obtain⟨dst,op,ty,pos,after,guard⟩:=o;simp only at hc hK;obtain⟨f,args,ats,f',ys,rfl,hf',hys,rfl⟩:=ZNq hc hcall;simp only[ZM]at h;split at h
 ·rename_i g caps hval;obtain⟨as,has,h⟩:=Zv h;obtain⟨cs,hcs,h⟩:=Zv h;obtain⟨⟨ok,r⟩,hr,h⟩:=Zv h;simp only at h;split at h
  ·rename_i hsc;simp at h;obtain⟨⟨c1,c2,rfl⟩,rfl⟩:=h;obtain⟨hen,hpc⟩:=hS _ _ _ hr;have vf:=(V.op hf hf').strip c1;rw[hval]at vf;generalize hfv:a.eval f=fv at vf;cases vf with
   |fn capv hl hvv=>
    obtain⟨l1,l2⟩:=ZLl hf hys;obtain⟨m1,m2⟩:=ZCj has;obtain⟨m3,m4⟩:=ZCj hcs;have hrun:(execOp a.eval {dst,op:= .call ⟨.value f,args,ats⟩,type:=ty,pos,after,guard}).run P E.w= .ok (.enter g (args.map a.eval++capv)) E.w:=by
     unfold execOp;simp only[resolve,hfv,Deferred.ofValue,Sem.run_bind,Sem.run_pure,Result.andThen_ok,invoke];have:=hen (#[]++args.map a.eval++capv) E.w;simpa using this
    have lenA:ys.length=args.size:=by rw[←l1];simp
    have argAt: ∀(Ec:Env) (osc:List Ob),(∀(d0 d1:D) (v:Value),(d0∈caps∨ ∃y∈ys,(ZC φ y).val=d0)→V E os d0 v→QG os d0=some d1→V Ec osc d1 v)→VL Ec osc (as++cs) (args.map a.eval++capv):=by
     intro Ec osc hview;have hal:as.length=args.size:=by rw[←m1];simp[lenA]
     refine⟨by simp[hal,←m3,hl],fun j d v hd hv=> ?_⟩;by_cases hj:j<as.length
     ·rw[YR hj]at hd;rw[ZYY (by simp;omega)]at hv;have hyj:ys[j]? =some (ys[j]'(by omega)):=Zu _;have hxj:args.toList[j]? =some (args[j]'(by omega)):=by simp
      have hval':=l2 j _ _ hxj hyj;have hmem:(ZC φ (ys[j]'(by omega))).cond=true:=c2 _ (Yl _);have hget:(ys.map (ZC φ))[j]? =some (ZC φ (ys[j]'(by omega))):=by rw[Zw,hyj];rfl
      have hvd:=m2 j _ d hget hd;have hve:v=a.eval (args[j]'(by omega)):=by
       rw[ZYN,ξK (by omega)]at hv;simpa using hv.symm
      subst hve;exact hview _ _ _ (.inr ⟨_,Yl (by omega),rfl⟩) (hval'.strip hmem) hvd
     ·rw[Ki (by omega)]at hd;rw[Array.getElem?_append_right (by simp;omega)]at hv;simp only[Array.size_map,←hal]at hv;have hcj:=(ZR hd).1;have hcapj:caps[j-as.length]? =some (caps[j-as.length]'(by omega)):=Zu _;exact hview _ _ _ (.inl (Yl (by omega))) (hvv _ _ v hcapj hv) (m4 _ _ _ hcapj hd)
    unfold Oper.wp;rw[hrun];show Calls P g _ E.w _;by_cases hs:r.scalar=true
    ·refine(hpc E.w (fun b _=>b<E.w.heap.size) _ (fun b o h=>h) (argAt _ _ (fun d0 d1 v _ hv hd=>ZY0 R hv hd))).mono ?_;rintro e w' ⟨v,st',rfl,hk,h1,h2,hv⟩;obtain⟨R',ev⟩:=R.world w' E.st hk (fun b o h=>h) (fun b o h=> .inl h);exact hK v _ R' ev (hv.scalar hs)
    ·simp[hs]at hsc;refine(hpc E.w E.st _ (fun b o h=>(R.stm b o h).1) (argAt _ _ (fun d0 d1 v hm hv hd=>ZXb hv (by
      rcases hm with hm|⟨y,hy,rfl⟩
      ·exact hsc.2 d0 hm
      ·exact hsc.1 y hy) hd))).mono ?_
     rintro e w' ⟨v,st',rfl,hk,h1,h2,hv⟩;obtain⟨R',ev⟩:=R.world w' st' hk h1 h2;exact hK v _ R' ev (hv.bare (fun b o h=>h))
  ·cases h
 ·cases h
end
structure IOp where
 dst:Option Nat
 e:IE
 g:Option (Nat×Bool)
def putO(φ:List (Nat×D)):Option Nat→D→List (Nat×D)
 |none,_=>φ
 |some t,d=>put φ t d
abbrev Tab:=FuncId→List D→Option (Bool×D)
structure Tabs where
 q:Tab
 t:FuncId→List D→List Ob→Option (Bool×D×List Ob)
 r:FuncId→List D→List Ob→Option (Bool×D)
 k:FuncId→List D→List Ob→Option (Bool×(Nat→D)×Ob)
structure SsOk (P:Program) (S:Tabs):Prop where
 q:SOk P S.q
 t:TOk P S.t
 r:ROk P S.r
 k:KOk P S.k
def Qi(S:Tabs)(φ:List (Nat×D))(os:List Ob)(e:IE):Option (Bool×D×List Ob):=if e.isCall then ZGA S.t φ os e else YA φ os e
def Yv(S:Tabs)(φ:List (Nat×D))(os:List Ob)(o:IOp):Option (Bool×List (Nat×D)×List Ob):=
 match o.g with
 |none=>match ZM S.q φ os o.e with
  |some r=>some (r.1,putO φ o.dst r.2,os)
  |none=>(Qi S φ os o.e).map fun r=>(r.1,putO φ o.dst r.2.1,r.2.2)
 |some (s,want)=>match(get φ s).val with
  | .x (.bool b)=>match ZM S.q φ os o.e with
   |some r=>some (!((get φ s).cond&&(b==want))||r.1,putO φ o.dst (.opt ((get φ s).cond&&(b==want)) r.2),os)
   |none=>if(get φ s).cond&&(b==want)then(Qi S φ os o.e).map fun r=>(r.1,putO φ o.dst r.2.1,r.2.2)else some (true,putO φ o.dst (.opt false .und),os)
  |_=>if(get φ s).cond then none else some (true,putO φ o.dst (.opt false .und),os)
def Jr(S:Tabs):List (Nat×D)→List Ob→List IOp→Option (Bool×List (Nat×D)×List Ob)
 |φ,os,[]=>some (true,φ,os)
 |φ,os,o::l=>(Yv S φ os o).bind fun r=>(Jr S r.2.1 r.2.2 l).map fun q=>(r.1&&q.1,q.2)
def Yc(P:Program)(n:Nat)(ops:Array Oper)(o:Oper):Option IOp:=
 (JY P o.op).bind fun e=>if(o.dst.all fun t=>decide (t<n))then
  match o.guard with
  |none=>some ⟨o.dst,e,none⟩
  |some (j,want)=>((ops[j]?).bind (·.dst)).map fun s=>⟨o.dst,e,some (s,want)⟩
 else none
section
variable {P:Program} {E:Env} {os:List Ob} {c:Ctx} {n:Nat} {φ:List (Nat×D)} {a:Act}
theorem V.und_of{d:D}{v:Value}(h:V E os d v)(hc:d.cond=false):v=undef:=by
 induction h with
 |opt h1 h2 ih=>
  rename_i b d v;cases b with
  |false=>exact h2 rfl
  |true=>exact ih rfl (by simpa[D.cond]using hc)
 |x h=>cases hc
 |ref h h1=>cases hc
 |ptr ho h=>cases hc
 |eptr h h1=>cases hc
 |vptr b off val hc' hv=>cases hc
 |mref ho hk h=>cases hc
 |mnil=>cases hc
 |iref ho hk h=>cases hc
 |stk ho hk h=>cases hc
 |bref ho h hm=>cases hc
 |agg vs hl h1 hv=>cases hc
 |tup vs hl hv=>cases hc
 |full n h=>cases hc
 |nz h=>cases hc
 |fn vs hl hv=>cases hc
 |und v=>cases hc
theorem Fr.putO(h:Fr n E os φ a){dst:Option Nat}{d:D}{v:Value}(ht:(dst.all fun t=>decide (t<n))=true)(hv:V E os d v):Fr n E os (Go.Ab.putO φ dst d) (a.put dst v):=by
 cases dst with
 |none=>exact h
 |some t=>exact h.put (by simpa using ht) hv
theorem ZE4{s:Nat}{ops:Array Oper}{j:Nat}(hs:(ops[j]?).bind (·.dst)=some s)(hf:Fr n E os φ a){b:Bool}(hv:(get φ s).val= .x (.bool b))(want:Bool):
  (yielded ops a.tmps j==some want)=((get φ s).cond&&(b==want)):=by
 have h:=hf.slot s;have key: ∀v,a.tmps.getD s undef=v→(yielded ops a.tmps j)=match v with| .bool b=>some b|_=>none:=by
  intro v hv;unfold yielded;rw[hs];simp only[Qu];rw[ZCa]at hv;cases h1:a.tmps[s]? with
  |none=>rw[h1]at hv;simp at hv;subst hv;rfl
  |some u=>rw[h1]at hv;simp at hv;subst hv;cases u<;>rfl
 cases hc:(get φ s).cond with
 |false=>
  have:=h.und_of hc;rw[key _ this];rfl
 |true=>
  have:=h.strip hc;rw[hv]at this;rw[key _ (V.bool this)];cases b<;>cases want<;>rfl
theorem ZHe{s:Nat}{ops:Array Oper}{j:Nat}(hs:(ops[j]?).bind (·.dst)=some s)(hf:Fr n E os φ a)(hc:(get φ s).cond=false)(want:Bool):(yielded ops a.tmps j==some want)=false:=by
 have h:=(hf.slot s).und_of hc;unfold yielded;rw[hs];simp only[Qu];rw[ZCa]at h;cases h1:a.tmps[s]? with
 |none=>rfl
 |some u=>rw[h1]at h;simp at h;subst h;rfl
theorem ZFl{S:Tab}(hS:SOk P S)(R:Rel c E os)(hf:Fr n E os φ a){o:Oper}{e:IE}(hc:JY P o.op=some e){d:D}(h:ZM S φ os e=some (true,d)){K:Act→World→Prop}{Q:Exit→Act→World→Prop}
  (hK: ∀v E',Rel c E' os→Evo E os E' os→V E' os d v→K (a.put o.dst v) E'.w):o.wp P a E.w K Q:=by
 cases hcall:e.isCall with
 |true=>exact ZXa hS R hf hc hcall h hK
 |false=>
  obtain⟨v,h1,h2⟩:=ZYx R hf hc hcall h;unfold Oper.wp;rw[h1];exact hK v E R (Evo.refl _ _) h2
theorem ZMP{S:Tabs}(hS:SsOk P S)(R:Rel c E os)(hf:Fr n E os φ a){o:Oper}{e:IE}(hc:JY P o.op=some e){d:D}{os':List Ob}(h:Qi S φ os e=some (true,d,os')){K:Act→World→Prop}{Q:Exit→Act→World→Prop}
  (hK: ∀v E',Rel c E' os'→Evo E os E' os'→V E' os' d v→K (a.put o.dst v) E'.w):o.wp P a E.w K Q:=by
 unfold Qi at h;split at h
 ·exact ZWA hS.t R hf hc h hK
 obtain⟨r,E',h1,h2,h3,h4⟩:=ZYl R hf hc h;unfold Oper.wp;rw[h1];cases h4 with
 |value hv=>exact hK _ E' h2 h3 hv
 |skip hd=>exact hK undef E' h2 h3 (by rw[hd];exact .und _)
theorem ZMc{S:Tabs}(hS:SsOk P S)(R:Rel c E os)(hf:Fr n E os φ a){ops:Array Oper}{o:Oper}{io:IOp}(hc:Yc P n ops o=some io){φ':List (Nat×D)}{os':List Ob}(h:Yv S φ os io=some (true,φ',os')){K:Act→World→Prop}{Q:Exit→Act→World→Prop}
  (hK: ∀E' a',Rel c E' os'→Evo E os E' os'→Fr n E' os' φ' a'→K a' E'.w):
  if Region.wanted o (yielded ops a.tmps)then o.wp P a E.w K Q else K (a.put o.dst undef) E.w:=by
 simp only[Yc,Yh]at hc;obtain⟨e,he,hc⟩:=hc;split at hc
 ·rename_i hdst;split at hc
  ·rename_i hg;cases hc;simp only[Yv]at h;simp only[Region.wanted,hg,if_true];split at h
   ·rename_i r hr;obtain⟨ok,d⟩:=r;simp at h;obtain⟨rfl,rfl,rfl⟩:=h;exact ZFl hS.q R hf he hr (fun v E' R' ev hv=>hK E' _ R' ev ((hf.mono ev).putO hdst hv))
   ·obtain⟨⟨ok,d,os1⟩,hr,h⟩:=ZT h;simp at h;obtain⟨rfl,rfl,rfl⟩:=h;exact ZMP hS R hf he hr (fun v E' R' ev hv=>hK E' _ R' ev ((hf.mono ev).putO hdst hv))
  ·rename_i j want hg;obtain⟨s,hs,hc⟩:=ZT hc;cases hc;simp only[Yv]at h;have hwd:Region.wanted o (yielded ops a.tmps)=(yielded ops a.tmps j==some want):=by simp[Region.wanted,hg]
   rw[hwd];have un: ∀(d:D),φ'=Go.Ab.putO φ o.dst (.opt false d)→os'=os→K (a.put o.dst undef) E.w:=by
    rintro d rfl rfl;exact hK E _ R (Evo.refl _ _) (hf.putO hdst (.opt (fun h=>by cases h) (fun _=>rfl)))
   split at h
   ·rename_i b hb;rw[ZE4 hs hf hb want];split at h
    ·rename_i r hr;obtain⟨ok,d⟩:=r;simp only[Ze,Za]at h;obtain⟨h1,rfl,rfl⟩:=h;cases hw:((get φ s).cond&&(b==want))with
     |false=>
      rw[hw]at hK;simp only[Yt,if_false];exact hK E _ R (Evo.refl _ _) (hf.putO hdst (.opt (fun h=>by cases h) (fun _=>rfl)))
     |true=>
      rw[hw]at hK h1;simp at h1;subst h1;simp only[if_true];exact ZFl hS.q R hf he hr (fun v E' R' ev hv=>hK E' _ R' ev ((hf.mono ev).putO hdst (.opt (fun _=>hv) (fun h=>by cases h))))
    ·split at h
     ·rename_i hw;rw[if_pos hw];obtain⟨⟨ok,d,os1⟩,hr,h⟩:=ZT h;simp at h;obtain⟨rfl,rfl,rfl⟩:=h;exact ZMP hS R hf he hr (fun v E' R' ev hv=>hK E' _ R' ev ((hf.mono ev).putO hdst hv))
     ·rename_i hw;simp only[Ze,Za,true_and]at h;obtain⟨rfl,rfl⟩:=h;rw[if_neg hw];exact un .und rfl rfl
   ·split at h
    ·cases h
    ·rename_i hw;simp only[Ze,Za,true_and]at h;obtain⟨rfl,rfl⟩:=h;rw[ZHe hs hf (by simpa using hw) want];simp only[Yt,if_false];exact un .und rfl rfl
 ·cases hc
theorem ZJC{S:Tabs}(hS:SsOk P S){ops:Array Oper}{Q:Exit→Act→World→Prop}: ∀ {l:List Oper} {il:List IOp} {E:Env} {os:List Ob} {φ:List (Nat×D)} {a:Act},Rel c E os→Fr n E os φ a→l.mapM (Yc P n ops)=some il→ ∀ {φ':List (Nat×D)} {os':List Ob},Jr S φ os il=some (true,φ',os')→
  (∀E' a',Rel c E' os'→Evo E os E' os'→Fr n E' os' φ' a'→Q .normal a' E'.w)→wpList P ops Q l a E.w
 | [],il,E,os,φ,a,R,hf,hm,φ',os',h,hQ=>by
  simp at hm;subst hm;cases h;exact hQ E a R (Evo.refl _ _) hf
 |o::l,il,E,os,φ,a,R,hf,hm,φ',os',h,hQ=>by
  simp only[QL,JI,Yh,Qx]at hm;obtain⟨io,hio,il',hil,hm⟩:=hm;cases hm;simp only[Jr,Yh,Qt]at h;obtain⟨⟨ok,φ1,os1⟩,h1,⟨ok2,φ2,os2⟩,h2,h3⟩:=h;simp at h3;obtain⟨⟨rfl,rfl⟩,rfl,rfl⟩:=h3;refine wpList_step fun K hK=>ZMc hS R hf hio h1 (fun E1 a1 R1 e1 f1=> ?_)
  exact hK _ _ (ZJC hS R1 f1 hil h2 (fun E' a' R' e' f'=>hQ E' a' R' (e1.trans e') f'))
end
def IO.reads:IO→List Nat
 | .t n=> [n]
 | .c _=> []
def ZES:Option IO→List Nat
 |some x=>x.reads
 |none=> []
def IE.reads:IE→List Nat
 | .abx _ x| .mv x| .nck x| .un _ x| .cvi _ x| .b2s x| .s2b _ x| .fld _ _ _ x| .fad _ x| .ld _ _ x| .box x| .ext x _| .len _ x=>x.reads
 | .pick c a b=>c.reads++(a.reads++b.reads)
 | .bin _ x y| .eq _ _ x y| .iad _ x y| .iada _ _ x y| .idx x y| .idxa _ _ _ x y| .sto _ x y| .mks _ _ _ _ x y| .app _ _ _ x y| .apz _ _ _ _ x y| .cpy _ x y| .mnx _ x y=>x.reads++y.reads
 | .build _ ps=>ps.flatMap fun p=>p.2.2.reads
 | .bsl _ _ _ xs=>xs.flatMap IO.reads
 | .asl _ x hi=>x.reads++ZES hi
 | .mkm _ _=> []
 | .mln x| .mcl x| .rgm x| .rgs x| .nxt _ x| .ent x=>x.reads
 | .mlk _ _ _ x k| .mdl _ x k| .men _ _ x k=>x.reads++k.reads
 | .mup _ x k v| .est x k v=>x.reads++(k.reads++v.reads)
 | .slc _ x lo hi mx=>x.reads++(ZES lo++(ZES hi++ZES mx))
 | .call f xs=>f.reads++xs.flatMap IO.reads
 | .mkf _ xs=>xs.flatMap IO.reads
def IOp.reads(o:IOp):List Nat:=o.e.reads++match o.g with|some (s,_)=> [s]|none=> []
theorem ZK{φ φ':List (Nat×D)}{x:IO}(h: ∀t∈x.reads,Go.Ab.get φ t=Go.Ab.get φ' t):ZC φ x=ZC φ' x:=by
 cases x with
 |t n=>exact h n (by simp[IO.reads])
 |c d=>rfl
theorem ZLp{φ φ':List (Nat×D)}{xs:List IO}(h: ∀t∈xs.flatMap IO.reads,Go.Ab.get φ t=Go.Ab.get φ' t):xs.map (ZC φ)=xs.map (ZC φ'):=
 ZB4 fun x hx=>ZK fun t ht=>h t (ZSS.2 ⟨x,hx,ht⟩)
theorem ZIs{φ φ':List (Nat×D)}: ∀ {ps:List (Nat×Nat×IO)} {acc:List D},(∀t∈ps.flatMap (fun p=>p.2.2.reads),Go.Ab.get φ t=Go.Ab.get φ' t)→JT φ ps acc=JT φ' ps acc
 | [],acc,h=>rfl
 |(off,sz,x)::ps,acc,h=>by
  have hx:ZC φ x=ZC φ' x:=ZK fun t ht=>h t (by simp[ht])
  have ih: ∀acc,JT φ ps acc=JT φ' ps acc:=fun acc=>ZIs fun t ht=>h t (by simp only[ZMt,KT];exact .inr ht)
  simp only[JT,hx,ih]
theorem ZIG(S:Tab){φ φ':List (Nat×D)}(os:List Ob){e:IE}(h: ∀t∈e.reads,Go.Ab.get φ t=Go.Ab.get φ' t):ZM S φ os e=ZM S φ' os e:=by
 cases e with
 |mv x=>simp only[ZM,ZK (x:=x) h]
 |nck x=>simp only[ZM,ZK (x:=x) h]
 |pick p x y=>
  simp only[ZM,ZK (x:=p) (fun t ht=>h t (by simp[IE.reads,ht])),ZK (x:=x) (fun t ht=>h t (by simp[IE.reads,ht])),ZK (x:=y) (fun t ht=>h t (by simp[IE.reads,ht]))]
 |bin op x y=>simp only[ZM,ZK (x:=x) (fun t ht=>h t (by simp[IE.reads,ht])),ZK (x:=y) (fun t ht=>h t (by simp[IE.reads,ht]))]
 |eq k g x y=>simp only[ZM,ZK (x:=x) (fun t ht=>h t (by simp[IE.reads,ht])),ZK (x:=y) (fun t ht=>h t (by simp[IE.reads,ht]))]
 |un op x=>simp only[ZM,ZK (x:=x) h]
 |cvi k x=>simp only[ZM,ZK (x:=x) h]
 |b2s x=>simp only[ZM,ZK (x:=x) h]
 |s2b e x=>simp only[ZM]
 |abx e x=>simp only[ZM]
 |asl n x hi=>
  cases hi with
  |none=>simp only[ZM,ZK (x:=x) (fun t ht=>h t (by simp[IE.reads,ht]))]
  |some y=>simp only[ZM]
 |mkm dk ag=>simp only[ZM]
 |mup dk x k v=>simp only[ZM]
 |mdl dk x k=>simp only[ZM]
 |men dk z x k=>simp only[ZM]
 |est x s v=>simp only[ZM]
 |mcl x=>simp only[ZM]
 |rgm x=>simp only[ZM]
 |rgs x=>simp only[ZM]
 |nxt st x=>simp only[ZM]
 |ent x=>simp only[ZM,ZK (x:=x) h]
 |mln x=>simp only[ZM,ZK (x:=x) h]
 |mlk dk ok z x k=>simp only[ZM,ZK (x:=x) (fun t ht=>h t (by simp[IE.reads,ht])),ZK (x:=k) (fun t ht=>h t (by simp[IE.reads,ht]))]
 |fld o n ag x=>simp only[ZM,ZK (x:=x) h]
 |fad o x=>simp only[ZM,ZK (x:=x) h]
 |iad sz x y=>simp only[ZM,ZK (x:=x) (fun t ht=>h t (by simp[IE.reads,ht])),ZK (x:=y) (fun t ht=>h t (by simp[IE.reads,ht]))]
 |iada sz l x y=>simp only[ZM,ZK (x:=x) (fun t ht=>h t (by simp[IE.reads,ht])),ZK (x:=y) (fun t ht=>h t (by simp[IE.reads,ht]))]
 |idx x y=>simp only[ZM,ZK (x:=x) (fun t ht=>h t (by simp[IE.reads,ht])),ZK (x:=y) (fun t ht=>h t (by simp[IE.reads,ht]))]
 |idxa sz l ag x y=>simp only[ZM,ZK (x:=x) (fun t ht=>h t (by simp[IE.reads,ht])),ZK (x:=y) (fun t ht=>h t (by simp[IE.reads,ht]))]
 |ld n ag x=>simp only[ZM,ZK (x:=x) h]
 |sto n x y=>simp only[ZM]
 |box x=>simp only[ZM]
 |build zs ps=>simp only[ZM,ZIs (ps:=ps) h]
 |bsl e sz n xs=>simp only[ZM]
 |mks e sz b z x y=>simp only[ZM]
 |slc sz x lo hi mx=>
  have hx:=ZK (x:=x) (fun t ht=>h t (by simp[IE.reads,ht]));have hlo:lo.map (ZC φ)=lo.map (ZC φ'):=by
   cases lo with
   |none=>rfl
   |some y=>simp only[YS];rw[ZK (x:=y) (fun t ht=>h t (by simp[IE.reads,ZES,ht]))]
  have hhi:hi.map (ZC φ)=hi.map (ZC φ'):=by
   cases hi with
   |none=>rfl
   |some y=>simp only[YS];rw[ZK (x:=y) (fun t ht=>h t (by simp[IE.reads,ZES,ht]))]
  have hlo':lo.map (fun l=>ZC φ l)=lo.map (fun l=>ZC φ' l):=hlo;have hhi':hi.map (fun l=>ZC φ l)=hi.map (fun l=>ZC φ' l):=hhi;have hmx:mx.map (fun l=>ZC φ l)=mx.map (fun l=>ZC φ' l):=by
   cases mx with
   |none=>rfl
   |some y=>simp only[YS];rw[ZK (x:=y) (fun t ht=>h t (by simp[IE.reads,ZES,ht]))]
  cases mx with
  |none=>simp only[ZM,ZHV,ZHq,hx,hlo',hhi',hmx]
  |some y=>simp only[ZM,ZHV,ZHq,hx,hlo',hhi',hmx]
 |ext x i=>simp only[ZM,ZK (x:=x) h]
 |len st x=>simp only[ZM,ZK (x:=x) h]
 |app e sz b x y=>simp only[ZM]
 |apz e sz b z x y=>simp only[ZM]
 |cpy sz x y=>simp only[ZM]
 |mnx mx x y=>simp only[ZM,ZK (x:=x) (fun t ht=>h t (by simp[IE.reads,ht])),ZK (x:=y) (fun t ht=>h t (by simp[IE.reads,ht]))]
 |call f xs=>simp only[ZM,ZK (x:=f) (fun t ht=>h t (by simp[IE.reads,ht])),ZLp (xs:=xs) (fun t ht=>h t (by simp only[IE.reads,KT];exact .inr ht))]
 |mkf f xs=>simp only[ZM,ZLp (xs:=xs) h]
def KP(S:Tabs)(φ:List (Nat×D))(os:List Ob)(e:IE):Option (Bool×D):=
 match ZM S.q φ os e with
 |some r=>some r
 |none=>ZB1 S.r φ os e
theorem ZKS(S:Tabs){φ φ':List (Nat×D)}(os:List Ob){e:IE}(h: ∀t∈e.reads,Go.Ab.get φ t=Go.Ab.get φ' t):KP S φ os e=KP S φ' os e:=by
 unfold KP;rw[ZIG S.q os h];have:ZB1 S.r φ os e=ZB1 S.r φ' os e:=by
  cases e with
  |call f xs=>
   have h1:=ZK (x:=f) (fun t ht=>h t (by simp[IE.reads,ht]));have h2: ∀y∈xs,ZC φ y=ZC φ' y:=fun y hy=>ZK (fun t ht=>h t (by simp only[IE.reads,KT];exact .inr (ZSS.2 ⟨y,hy,ht⟩)))
   have h3:(xs.map fun y=>(ZC φ y).val)=xs.map fun y=>(ZC φ' y).val:=ZB4 (fun y hy=>by rw[h2 y hy])
   have h4:(xs.all fun y=>(ZC φ y).cond)=xs.all fun y=>(ZC φ' y).cond:=by
    have: ∀l:List IO,(∀y∈l,ZC φ y=ZC φ' y)→(l.all fun y=>(ZC φ y).cond)=l.all fun y=>(ZC φ' y).cond:=by
     intro l
     induction l with
     |nil=>intro _;rfl
     |cons y l ih=>intro hl;simp only[ZAJ,hl y (by simp),ih (fun z hz=>hl z (by simp[hz]))]
    exact this xs h2
   simp only[ZB1,h1,h3,h4]
  |_=>rfl
 rw[this]
def Yo(S:Tabs)(φ:List (Nat×D))(os:List Ob)(o:IOp):Option (Bool×D):=
 match o.g with
 |none=>KP S φ os o.e
 |some (s,want)=>match(Go.Ab.get φ s).val with
  | .x (.bool b)=>match KP S φ os o.e with
   |some r=>some (!((Go.Ab.get φ s).cond&&(b==want))||r.1,.opt ((Go.Ab.get φ s).cond&&(b==want)) r.2)
   |none=>if(Go.Ab.get φ s).cond&&(b==want)then none else some (true,.opt false .und)
  |_=>if(Go.Ab.get φ s).cond then none else some (true,.opt false .und)
def D.toX? :D→Option X
 | .x y=>some y
 |_=>none
def ZC9(φ:List (Nat×D))(sz:Nat):List IO→Option (Bool×List (List X))
 | []=>some (true,[])
 |x::xs=>(ZC φ x).val.cells?.bind fun cs=>(cs.mapM D.toX?).bind fun r=>if r.length=sz then
   (ZC9 φ sz xs).map fun q=>((ZC φ x).cond&&q.1,r::q.2)else none
def Qc(φ:List (Nat×D))(id:Nat)(e:IE):Option (Bool×D×Ob):=
 match e with
  | .box x=>(ZC φ x).val.cells?.map fun cs=>((ZC φ x).cond,.ptr id 0,.box cs)
  | .bsl e sz n parts=>if n=parts.length then(ZC9 φ sz parts).map fun q=>(q.1,.ref id n 0 n,.rows false e sz q.2)else none
  | .mkm dk ag=>some (true,.mref id,.mpo dk ag [])
  |_=>none
def QV(φ:List (Nat×D))(s:Nat)(want:Bool):Bool:=match(Go.Ab.get φ s).val with
 | .x (.bool b)=>(Go.Ab.get φ s).cond&&(b==want)
 |_=>false
def evC(φ:List (Nat×D))(id:Nat)(o:IOp):Option (Bool×D×Ob):=
 match o.g with
 |some (s,want)=>if QV φ s want=true then Qc φ id o.e else none
 |none=>Qc φ id o.e
theorem ZGJ(S:Tabs){φ φ':List (Nat×D)}(os:List Ob){o:IOp}(h: ∀t∈o.reads,Go.Ab.get φ t=Go.Ab.get φ' t):Yo S φ os o=Yo S φ' os o:=by
 obtain⟨dst,e,g⟩:=o;cases g with
 |none=>exact ZKS S os (fun t ht=>h t (by simp[IOp.reads,ht]))
 |some p=>
  obtain⟨s,want⟩:=p;have hs:Go.Ab.get φ s=Go.Ab.get φ' s:=h s (by simp[IOp.reads]);have he:=ZKS S os (e:=e) (φ:=φ) (φ':=φ') (fun t ht=>h t (by simp[IOp.reads,ht]));simp only[Yo,hs,he]
theorem ZIe{φ φ':List (Nat×D)}{sz:Nat}: ∀ {xs:List IO},(∀t∈xs.flatMap IO.reads,Go.Ab.get φ t=Go.Ab.get φ' t)→ZC9 φ sz xs=ZC9 φ' sz xs
 | [],h=>rfl
 |x::xs,h=>by
  have hx:ZC φ x=ZC φ' x:=ZK fun t ht=>h t (by simp[ht])
  have ih:ZC9 φ sz xs=ZC9 φ' sz xs:=ZIe fun t ht=>h t (by simp only[ZMt,KT];exact .inr ht)
  simp only[ZC9,hx,ih]
theorem ZTm{φ φ':List (Nat×D)}(id:Nat){e:IE}(h: ∀t∈e.reads,Go.Ab.get φ t=Go.Ab.get φ' t):Qc φ id e=Qc φ' id e:=by
 cases e with
 |box x=>simp only[Qc,ZK (x:=x) (fun t ht=>h t (by simp[IE.reads,ht]))]
 |bsl e sz n xs=>simp only[Qc,ZIe (xs:=xs) (fun t ht=>h t (by simp only[IE.reads];exact ht))]
 |_=>rfl
theorem ZTu{φ φ':List (Nat×D)}(id:Nat){o:IOp}(h: ∀t∈o.reads,Go.Ab.get φ t=Go.Ab.get φ' t):evC φ id o=evC φ' id o:=by
 obtain⟨dst,e,g⟩:=o;have he:=ZTm (φ:=φ) (φ':=φ') id (e:=e) (fun t ht=>h t (by simp[IOp.reads,ht]));cases g with
 |some p=>
  have e1:=h p.1 (by simp[IOp.reads]);have e2:QV φ p.1 p.2=QV φ' p.1 p.2:=by unfold QV;rw[e1]
  simp only[evC,he,e2]
 |none=>exact he
theorem ZBf{os Y:List Ob}{i:Nat}{o:Ob}(h:os[i]? =some o):(os++Y)[i]? =some o:=by
 rw[YR (ZR h).1];exact h
theorem ZL8{os Y:List Ob}{d:D}{r:List (List X)}(h:Zp os d=some r):Zp (os++Y) d=some r:=by
 cases d with
 |ref id ext off len=>
  simp only[Zp]at h⊢;cases ho:os[id]? with
  |none=>simp[ho]at h
  |some o=>rw[ho]at h;rw[ZBf ho];exact h
 |x y=>cases y<;>exact h
 |_=>exact h
theorem ZNY{os Y:List Ob}{d:D}(h:KX os d=true):KX (os++Y) d=true:=by
 cases d with
 |ref id ext off len=>
  simp only[KX]at h⊢;cases ho:os[id]? with
  |none=>simp[ho]at h
  |some o=>rw[ho]at h;rw[ZBf ho];exact h
 |_=>rfl
theorem ZZy{os Y:List Ob}{k:EqK}{x y:D}{b:Bool}(h:eqR os k x y=some (true,b)):eqR (os++Y) k x y=some (true,b):=by
 unfold eqR at h⊢;split at h
 ·exact h
 ·split at h
  ·obtain⟨b',h1,h2⟩:=ZT h;simp at h2;obtain⟨rfl,rfl⟩:=h2;refine KV.2 ⟨true,?_,rfl⟩;unfold nzD at h1⊢;split at h1
   ·simp only[Ze,ZS]at h1⊢;exact⟨ZNY h1.1,h1.2⟩
   ·exact h1
   ·exact h1
   ·exact h1
   ·cases h1
  ·cases h
theorem ZJM{os Y:List Ob}{d:D}{x:X}(h:Yu os d=some x):Yu (os++Y) d=some x:=by
 cases d with
 |x y=>exact h
 |bref id off len=>
  simp only[Yu,Qt,ZK2]at h⊢;obtain⟨r,h1,h2⟩:=h;refine⟨r,?_,h2⟩;cases ho:os[id]? with
  |none=>simp[ho]at h1
  |some ob=>rw[ho]at h1;rw[ZBf ho];exact h1
 |_=>
  simp only[Yu,Qt]at h⊢;obtain⟨r,h1,h2⟩:=h;exact⟨r,ZL8 h1,h2⟩
theorem ZH7{α β:Type}{f g:α→Option β}(hfg: ∀x y,f x=some y→g x=some y): ∀ {l:List α} {m:List β},l.mapM f=some m→l.mapM g=some m
 | [],m,h=>by simpa using h
 |x::l,m,h=>by
  simp only[QL,JI,Yh,Qx]at h⊢;obtain⟨y,hy,ys,hys,h⟩:=h;exact⟨y,hfg _ _ hy,ys,ZH7 hfg hys,h⟩
theorem ZN2{os Y:List Ob}{d d':D}(h:QG os d=some d'):QG (os++Y) d=some d':=by
 cases d with
 |x y=>exact h
 |agg ds=>
  simp only[QG,Qt]at h⊢;obtain⟨xs,h1,h2⟩:=h;exact⟨xs,ZH7 (fun _ _=>ZJM) h1,h2⟩
 |fn f caps=>
  cases caps with
  |nil=>exact h
  |cons a l=>
   simp only[QG,Qt]at h⊢;obtain⟨x,h1,h2⟩:=h;exact⟨x,ZJM h1,h2⟩
 |_=>
  simp only[QG,Qt]at h⊢;obtain⟨x,h1,h2⟩:=h;exact⟨x,ZJM h1,h2⟩
theorem ZXN{S:Tab}{φ:List (Nat×D)}{os Y:List Ob}{e:IE}{d:D}(h:ZM S φ os e=some (true,d)):ZM S φ (os++Y) e=some (true,d):=by
 cases e with
 |b2s x=>
  simp only[ZM,Qt]at h⊢;obtain⟨r,h1,h2⟩:=h;exact⟨r,ZL8 h1,h2⟩
 |iad sz x i=>
  simp only[ZM]at h⊢;cases hi:ZH (ZC φ i).val with
  |none=>simp[hi]at h
  |some k=>
   simp only[hi]at h⊢;generalize hv:(ZC φ x).val=v at h;cases v with
   |ref id ext off len=>
    simp only at h⊢;cases ho:os[id]? with
    |none=>simp[ho]at h
    |some o=>rw[ho]at h;rw[ZBf ho];exact h
   |x y=>cases y<;>exact h
   |_=>exact h
 |ld n ag x=>
  simp only[ZM]at h⊢;generalize hv:(ZC φ x).val=v at h;cases v with
  |ptr id o=>
   simp only at h⊢;cases ho:os[id]? with
   |none=>simp[ho]at h
   |some ob=>rw[ho]at h;rw[ZBf ho];exact h
  |eptr id ext i o=>
   simp only at h⊢;cases ho:os[id]? with
   |none=>simp[ho]at h
   |some ob=>rw[ho]at h;rw[ZBf ho];exact h
  |_=>exact h
 |mln x=>
  simp only[ZM]at h⊢;generalize hv:(ZC φ x).val=v at h;cases v with
  |mref id=>
   simp only at h⊢;cases ho:os[id]? with
   |none=>simp[ho]at h
   |some ob=>rw[ho]at h;rw[ZBf ho];exact h
  |_=>exact h
 |mlk dk ok z x k=>
  simp only[ZM]at h⊢;generalize hv:(ZC φ x).val=v at h;cases v with
  |mref id=>
   simp only at h⊢;cases ho:os[id]? with
   |none=>simp[ho]at h
   |some ob=>rw[ho]at h;rw[ZBf ho];exact h
  |_=>exact h
 |slc sz x lo hi mx=>
  simp only[ZM]at h⊢;split
  ·rename_i h0;rw[if_pos h0]at h;exact h
  ·rename_i h0;rw[if_neg h0]at h;simp only[ZHq]at h⊢;generalize hv:(ZC φ x).val=v at h;cases v with
   |ref id ext off len=>
    simp only at h⊢;cases ho:os[id]? with
    |none=>simp[ho]at h
    |some ob=>rw[ho]at h;rw[ZBf ho];exact h
   |x y=>cases y<;>exact h
   |_=>exact h
 |eq k neg x y=>
  simp only[ZM,Qt]at h⊢;obtain⟨⟨ok,r⟩,h1,h2⟩:=h;simp only[Za,ZS]at h2;obtain⟨⟨h3,rfl⟩,h4⟩:=h2;exact⟨_,ZZy h1,by simp[h3,←h4]⟩
 |asl m x hi=>
  cases hi with
  |some y=>exact h
  |none=>
   simp only[ZM]at h⊢;generalize hv:(ZC φ x).val=v at h;cases v with
   |ptr id o=>
    simp only at h⊢;cases ho:os[id]? with
    |none=>simp[ho]at h
    |some ob=>rw[ho]at h;rw[ZBf ho];exact h
   |_=>exact h
 |ent x=>
  simp only[ZM]at h⊢;generalize hv:(ZC φ x).val=v at h;cases v with
  |iref mid it=>
   simp only at h⊢;cases ho:os[mid]? with
   |none=>simp[ho]at h
   |some ob=>rw[ho]at h;rw[ZBf ho];exact h
  |_=>exact h
 |len st x=>
  simp only[ZM,Qt]at h⊢;obtain⟨r,h1,h2⟩:=h;refine⟨r,h1,?_⟩;simp only[Za,ZS]at h2⊢;exact⟨⟨h2.1.1,ZNY h2.1.2⟩,h2.2⟩
 |call f xs=>
  simp only[ZM]at h⊢;generalize hv:(ZC φ f).val=v at h;cases v with
  |fn g caps=>
   simp only[Yh]at h⊢;obtain⟨as,h1,cs,h2,r,h3,h4⟩:=h;exact⟨as,ZH7 (fun _ _=>ZN2) h1,cs,ZH7 (fun _ _=>ZN2) h2,r,h3,h4⟩
  |_=>exact h
 |_=>exact h
theorem ZN3{P:Program}{S:Tabs}(hS:SsOk P S){c:Ctx}{E:Env}{os Y:List Ob}{n:Nat}{φ:List (Nat×D)}{a:Act}(R:Rel c E (os++Y))(hf:Fr n E (os++Y) φ a){o:Oper}{e:IE}(hc:JY P o.op=some e){d:D}(h:KP S φ os e=some (true,d)){K:Act→World→Prop}{Q:Exit→Act→World→Prop}
  (hK: ∀v E',Rel c E' (os++Y)→Evo E (os++Y) E' (os++Y)→V E' (os++Y) d v→K (a.put o.dst v) E'.w):o.wp P a E.w K Q:=by
 unfold KP at h;split at h
 ·rename_i r hr;cases h;exact ZFl hS.q R hf hc (ZXN hr) hK
 ·exact ZVy hS.r R hf hc h hK
theorem ZI3{P:Program}{S:Tabs}(hS:SsOk P S){c:Ctx}{E:Env}{os Y:List Ob}{n:Nat}{φ:List (Nat×D)}{a:Act}(R:Rel c E (os++Y))(hf:Fr n E (os++Y) φ a){ops:Array Oper}{o:Oper}{io:IOp}(hc:Yc P n ops o=some io){d:D}(h:Yo S φ os io=some (true,d)){K:Act→World→Prop}{Q:Exit→Act→World→Prop}
  (hK: ∀v E',Rel c E' (os++Y)→Evo E (os++Y) E' (os++Y)→V E' (os++Y) d v→K (a.put o.dst v) E'.w):
  if Region.wanted o (yielded ops a.tmps)then o.wp P a E.w K Q else K (a.put o.dst undef) E.w:=by
 simp only[Yc,Yh]at hc;obtain⟨e,he,hc⟩:=hc;split at hc
 ·split at hc
  ·rename_i hg;cases hc;simp only[Yo]at h;simp only[Region.wanted,hg,if_true];exact ZN3 hS R hf he h hK
  ·rename_i j want hg;obtain⟨s,hs,hc⟩:=ZT hc;cases hc;simp only[Yo]at h;have hwd:Region.wanted o (yielded ops a.tmps)=(yielded ops a.tmps j==some want):=by simp[Region.wanted,hg]
   rw[hwd];split at h
   ·rename_i b hb;rw[ZE4 hs hf hb want];split at h
    ·rename_i r hr;obtain⟨ok,d⟩:=r;simp only[Ze,Za]at h;obtain⟨h1,rfl⟩:=h;cases hw:((Go.Ab.get φ s).cond&&(b==want))with
     |false=>
      rw[hw]at hK;simp only[Yt,if_false];exact hK undef E R (Evo.refl _ _) (.opt (fun h=>by cases h) (fun _=>rfl))
     |true=>
      rw[hw]at hK h1;simp at h1;subst h1;simp only[if_true];exact ZN3 hS R hf he hr (fun v E' R' ev hv=>hK v E' R' ev (.opt (fun _=>hv) (fun h=>by cases h)))
    ·split at h
     ·cases h
     ·rename_i hw;simp only[Ze,Za,true_and]at h;subst h;rw[if_neg hw];exact hK undef E R (Evo.refl _ _) (.opt (fun h=>by cases h) (fun _=>rfl))
   ·split at h
    ·cases h
    ·rename_i hw;simp only[Ze,Za,true_and]at h;subst h;rw[ZHe hs hf (by simpa using hw) want];simp only[Yt,if_false];exact hK undef E R (Evo.refl _ _) (.opt (fun h=>by cases h) (fun _=>rfl))
 ·cases hc
theorem ZPv{c:Ctx}{E:Env}{os:List Ob}(R:Rel c E os){id:Nat}(hd:os[id]? =some .dead){cs:List D}(vs:Array Value)(t:Nat)(hl:vs.size=cs.length)(h1: ∀u∈vs.toList,u.oneCell'=true)(hv: ∀(j:Nat) (d:D) (u:Value),cs[j]? =some d→vs[j]? =some u→V E os d u):
  ∃E',E'.w=E.w.alloc (.cells vs t)∧Rel c E' (os.set id (.box cs))∧Evo E os E' (os.set id (.box cs))∧V E' (os.set id (.box cs)) (.ptr id 0) (.pointer (some ⟨E.w.heap.size,0,none⟩)):=by
 obtain⟨p,hp,_⟩:=R.at hd;have hlt:=(ZR hd).1;have hk:=Jf E.w (.cells vs t);obtain⟨R',ev⟩:=R.set hd hp (E.w.alloc (.cells vs t)) (.box cs) (E.w.heap.size,undef) ⟨hk.os,hk.tape,hk.output,hk.size,fun k hk' _=>hk.block k hk' (fun h=>h)⟩ (fun b hb=>by cases hb;exact .inr (.inl (Zl _))) (fun sz rs h=>by cases h) (fun ds h=>by cases h) (fun ev=>by
  refine⟨vs,t,heap_alloc_new _ _,hl,fun j d v hd hv'=>⟨(hv j d v hd hv').mono ev,h1 v ?_⟩⟩;rw[←Qp]at hv';exact YT hv')
 refine⟨_,rfl,R',ev,.ptr (cu:=undef) (ds:=cs) (by simp[hlt]) ?_⟩;show(E.ob.set id (E.w.heap.size,undef))[id]? =_;simp[R.len,hlt]
theorem ZPB{c:Ctx}{E:Env}{os:List Ob}(R:Rel c E os){id:Nat}(hd:os[id]? =some .dead){dk:KK}{ag:Bool}{l:List Pr}(es:Array MapEntry)(clk:Nat)(hok: ∀E' os',Evo E os E' os'→E'.w=E.w.alloc (.map es clk)→Zt E' os' E.w.heap.size dk ag l):
  ∃E',E'.w=E.w.alloc (.map es clk)∧Rel c E' (os.set id (.mpo dk ag l))∧Evo E os E' (os.set id (.mpo dk ag l))∧V E' (os.set id (.mpo dk ag l)) (.mref id) (.map (some E.w.heap.size)):=by
 obtain⟨p,hp,_⟩:=R.at hd;have hlt:=(ZR hd).1;have hk:=Jf E.w (.map es clk);obtain⟨R',ev⟩:=R.set hd hp (E.w.alloc (.map es clk)) (.mpo dk ag l) (E.w.heap.size,undef) ⟨hk.os,hk.tape,hk.output,hk.size,fun k hk' _=>hk.block k hk' (fun h=>h)⟩ (fun b hb=>by cases hb;exact .inr (.inl (Zl _))) (fun sz rs h=>by cases h) (fun ds h=>by cases h) (fun ev=>hok _ _ ev rfl);refine⟨_,rfl,R',ev,.mref (cu:=undef) (dk:=dk) (ag:=ag) (o:= .mpo dk ag l) (by simp[hlt]) rfl ?_⟩;show(E.ob.set id (E.w.heap.size,undef))[id]? =_;simp[R.len,hlt]
theorem ZKo{c:Ctx}{E:Env}{os:List Ob}(R:Rel c E os){id:Nat}(hd:os[id]? =some .dead){w':World}(hk:Kept (fun _=>False) E.w w'){fz:Bool}{e sz:Nat}{rs:List (List X)}{cu:Value}{xs:List Value}(hr:KA w' fz e sz rs.length cu xs)(hb: ∀b,cu.ownBlock=some b→E.w.heap.size≤b)(hz: ∀r∈rs,r.length=sz)
  (hv: ∀(i:Nat) (r:List X) (j:Nat) (x:X) (v:Value),rs[i]? =some r→r[j]? =some x→xs[i*sz+j]? =some v→VX E.w E.st x v):
  ∃E',E'.w=w'∧Rel c E' (os.set id (.rows fz e sz rs))∧Evo E os E' (os.set id (.rows fz e sz rs))∧V E' (os.set id (.rows fz e sz rs)) (.ref id rs.length 0 rs.length) cu:=by
 obtain⟨p,hp,_⟩:=R.at hd;have hlt:=(ZR hd).1;obtain⟨R',ev⟩:=R.set hd hp w' (.rows fz e sz rs) (0,cu) ⟨hk.os,hk.tape,hk.output,hk.size,fun k hk' _=>hk.block k hk' (fun h=>h)⟩ (fun b hb'=> .inr (.inl (hb b hb'))) (fun sz rs h=>by cases h) (fun ds h=>by cases h) (fun ev=>⟨xs,hr,hz,fun i r j x v h1 h2 h3=>(hv i r j x v h1 h2 h3).mono ev.st⟩);have hob:(E.ob.set id (0,cu))[id]? =some (0,cu):=by simp[R.len,hlt]
 refine⟨_,rfl,R',ev,.ref ⟨.rows fz e sz rs,sz,rs.length,by simp[hlt],rfl,?_⟩ ?_⟩
 ·refine⟨Zl _,fun _=>⟨by omega,0,?_⟩⟩;rcases hr.2 with⟨h3,h4⟩|⟨g,cap,cells,fr,h3,h4,h5,h6,h7⟩
  ·subst h3;exact⟨none,0,none,0,by rw[hob,h4],by rw[h4],by omega,Je _,fun _=>⟨rfl,rfl⟩,fun _ ad h=>(by cases h),fun _=>⟨h4,rfl⟩,fun ad h=>(by cases h)⟩
  ·subst h3;exact⟨_,cap,_,cap,hob,rfl,h5,h6,fun _=>⟨rfl,rfl⟩,fun _ ad h=>(by cases h;simp),fun h=>(by cases h),fun ad h=>(by cases h;rfl)⟩
 ·rcases hr.2 with⟨h3,h4⟩|⟨g,cap,cells,fr,h3,h4,h5,h6,h7⟩<;>subst h3<;>rfl
theorem ZXg{cs:List D}{r:List X}(h:cs.mapM D.toX? =some r):r.length=cs.length∧ ∀(j:Nat) (x:X),r[j]? =some x→cs[j]? =some (.x x):=by
 obtain⟨h1,h2⟩:=ZCj h;refine⟨h1.symm,fun j x hx=> ?_⟩;have hj:=(ZR hx).1;have hc:cs[j]? =some (cs[j]'(by omega)):=Zu _;have:=h2 j _ x hc hx;rw[hc];generalize cs[j]'(by omega)=d at this;cases d<;>simp[D.toX?]at this
 rw[this]
section
variable {P:Program} {c:Ctx} {E:Env} {os:List Ob} {n:Nat} {φ:List (Nat×D)} {a:Act}
theorem ZN1{sz:Nat}(hf:Fr n E os φ a): ∀ {xs:List Operand} {ys:List IO} {rows:List (List X)},xs.mapM ZP=some ys→ZC9 φ sz ys=some (true,rows)→
  rows.length=xs.length∧(∀r∈rows,r.length=sz)∧(∀x∈xs,(a.eval x).cells.size=sz∧ ∀u∈(a.eval x).cells.toList,u.oneCell'=true)∧
   ∀(i:Nat) (r:List X) (x:Operand) (j:Nat) (y:X) (v:Value),rows[i]? =some r→xs[i]? =some x→r[j]? =some y→(a.eval x).cells[j]? =some v→VX E.w E.st y v
 | [],ys,rows,hm,h=>by
  simp at hm;subst hm;cases h;exact⟨rfl,fun r hr=>(by cases hr),fun x hx=>(by cases hx),fun i r x j y v hr=>(by simp at hr)⟩
 |x::xs,ys,rows,hm,h=>by
  simp only[QL,JI,Yh,Qx]at hm;obtain⟨y,hy,ys',hys,hm⟩:=hm;cases hm;simp only[ZC9,Yh]at h;obtain⟨cs,hcs,r,hr,h⟩:=h;split at h
  ·rename_i hlen;obtain⟨⟨b,rs⟩,h2,h3⟩:=ZT h;simp at h3;obtain⟨⟨hc,rfl⟩,rfl⟩:=h3;obtain⟨q1,q2,q3⟩:=((V.op hf hy).strip hc).cells hcs;obtain⟨m1,m2⟩:=ZXg hr;obtain⟨k3,k4,k5,k6⟩:=ZN1 hf hys h2;refine⟨by simp[k3],fun r' hr'=> ?_,fun z hz=> ?_,fun i r' z j w v hr' hz hw hv=> ?_⟩
   ·rcases QM.1 hr' with rfl|hr'
    ·exact hlen
    ·exact k4 r' hr'
   ·rcases QM.1 hz with rfl|hz
    ·exact⟨by omega,q2⟩
    ·exact k5 z hz
   ·cases i with
    |zero=>
     simp at hr' hz;subst hr';subst hz;exact(q3 j _ v (m2 j w hw) hv).xx
    |succ i=>exact k6 i r' z j w v (by simpa using hr') (by simpa using hz) hw hv
  ·cases h
theorem ZMN{ops:Array Oper}{o:Oper}{j s:Nat}{want:Bool}(hg:o.guard=some (j,want))(hs:(ops[j]?).bind (·.dst)=some s)(hf:Fr n E os φ a)(hm:QV φ s want=true):Region.wanted o (yielded ops a.tmps)=true:=by
 have hwd:Region.wanted o (yielded ops a.tmps)=(yielded ops a.tmps j==some want):=by simp[Region.wanted,hg]
 rw[hwd];unfold QV at hm;split at hm
 ·rename_i b hb;rw[ZE4 hs hf hb want];exact hm
 ·cases hm
theorem ZRW(R:Rel c E os)(hf:Fr n E os φ a){o:Oper}{e:IE}(he:JY P o.op=some e){id:Nat}(hd:os[id]? =some .dead){d:D}{ob:Ob}(h:Qc φ id e=some (true,d,ob)){K:Act→World→Prop}{Q:Exit→Act→World→Prop}
  (hK: ∀v E',Rel c E' (os.set id ob)→Evo E os E' (os.set id ob)→V E' (os.set id ob) d v→K (a.put o.dst v) E'.w):
  o.wp P a E.w K Q:=by
 have fin:(∃v E',(execOp a.eval o).run P E.w= .ok (.value v) E'.w∧Rel c E' (os.set id ob)∧Evo E os E' (os.set id ob)∧V E' (os.set id ob) d v)→o.wp P a E.w K Q:=by
  rintro⟨v,E',h1,h2,h3,h4⟩;unfold Oper.wp;rw[h1];exact hK v E' h2 h3 h4
 generalize hop:o.op=op at he;cases e<;>simp only[Qc]at h<;>(try cases h)
 case box x=>
  obtain⟨cs,hcs,h⟩:=ZT h;simp only[Za]at h;obtain⟨h1,rfl,rfl⟩:=h;refine fin ?_;cases op<;>simp only[JY]at he<;>(try cases he)
  case box t y=>
   obtain⟨z,hz,he2⟩:=ZT he;clear he;split at he2
   ·cases he2
   cases he2;obtain⟨q1,q2,q3⟩:=((V.op hf hz).strip h1).cells hcs;obtain⟨E',k1,k2,k3,k4⟩:=ZPv R hd (a.eval y).cells t q1 q2 q3;exact⟨_,E',ZF1 (s:=Instr.box t (a.eval y)) (by unfold execOp;rw[hop]) (by rw[k1];simp[Instr.box,newVar,newRow]),k2,k3,k4⟩
  case alloc t=>
   simp only[Yh,Qt]at he;obtain⟨i,hi,z,hz,he2⟩:=he;split at he2
   ·cases he2
   cases he2;have hcs:(Jh z).cells? =some cs:=by
    have:(Jh z).val=Jh z:=by unfold Jh ZAS;split<;>(try split)<;>(try split)<;>rfl
    rw[←this];exact hcs
   obtain⟨q1,q2,q3⟩:=(V.const E os z).cells hcs;obtain⟨E',k1,k2,k3,k4⟩:=ZPv R hd z.cells t q1 q2 q3;exact⟨_,E',ZF1 (s:=Instr.alloc t true (.tuple #[])) (by unfold execOp;rw[hop]) (by rw[k1];simp[Instr.alloc,zeroValue,ZCd hi,hz,newVar,newRow]),k2,k3,k4⟩
  case makeFunc fn first caps=>
   cases fn<;>simp only at he<;>(try cases he)
   split at he
   ·obtain⟨ys,hys,he⟩:=Zv he;cases he
   ·cases he
  all_goals
   exfalso;have hna:NP (fun e=>match e with| .box _=>true|_=>false) (some (.box x)):=by
    rw[←he]
    repeat first|exact NP.none|exact NP.some rfl|(refine NP.bind (fun _=> ?_))|(refine NP.bind' (fun _=> ?_))|(refine NP.map (fun _=>rfl))|(unfold ZAo)|split
   exact absurd (hna _ rfl) (by simp)
 case mkm dk ag=>
  refine fin ?_;cases op<;>simp only[JY]at he<;>(try cases he)
  case makeMap t r=>
   split at he
   ·rename_i key elem hT;obtain⟨dk',hdk,he⟩:=Zv he;obtain⟨ag',hag,he⟩:=ZT he;cases he;obtain⟨E',k1,k2,k3,k4⟩:=ZPB (dk:=dk) (ag:=ag) (l:= []) R hd #[] 0 (fun E' os' _ hw=>Zt.new E' os' E.w hw dk (ZC6 hdk).2 ag);exact⟨_,E',ZF1 (s:=Instr.makeMap t none) (by unfold execOp;rw[hop];rfl) (by rw[k1];rfl),k2,k3,k4⟩
   ·cases he
  case makeFunc fn first caps=>
   cases fn<;>simp only at he<;>(try cases he)
   split at he
   ·obtain⟨ys,hys,he⟩:=Zv he;cases he
   ·cases he
  all_goals
   exfalso;have hna:NP (fun e=>match e with| .mkm _ _=>true|_=>false) (some (.mkm dk ag)):=by
    rw[←he]
    repeat first|exact NP.none|exact NP.some rfl|(refine NP.bind (fun _=> ?_))|(refine NP.bind' (fun _=> ?_))|(refine NP.map (fun _=>rfl))|(unfold ZAo)|split
   exact absurd (hna _ rfl) (by simp)
 case bsl el sz m parts=>
  split at h
  ·rename_i hm;obtain⟨⟨b,rows⟩,h1,h⟩:=ZT h;simp only[Za]at h;obtain⟨rfl,rfl,rfl⟩:=h;refine fin ?_;cases op<;>simp only[JY]at he<;>(try cases he)
   case buildSlice t m' ps=>
    split at he
    ·rename_i el' ht;obtain⟨i,hi,he⟩:=Zv he;obtain⟨z,hz,he⟩:=Zv he;split at he
     ·rename_i hle;obtain⟨qs,hqs,he⟩:=ZT he;cases he;obtain⟨g1,g2⟩:=ZFs hqs;obtain⟨k1,k2,k3,k4⟩:=ZN1 hf g1 h1;have hpl:(ps.toList.map (·.2)).length=m:=by simp[hle.1]
      obtain⟨cs,q1,q2,q3⟩:=ZM6 (P:=P) ht hi hz ((ps.toList.map (·.2)).map a.eval) (by simpa using hpl) hle.2.1 (fun v hv=>by obtain⟨x,hx,rfl⟩:=YW.1 hv;exact(k3 x hx).1) E.w;have hrl:rows.length=m:=by omega
      have hrow:KA (E.w.alloc (.cells cs el)) false el i.size rows.length (.slice (some ⟨E.w.heap.size,0,none⟩) m m) cs.toList:=by
       refine⟨by rw[Kl,q3,hrl],.inr ⟨E.w.heap.size,m,cs,(0,0),by rw[hrl],heap_alloc_new _ _,by omega,?_,q3,?_,.inl rfl⟩⟩
       ·have:=hle.2.2;simp only[maxLen];omega
       ·rw[JH (by rw[Kl,q3,hrl];omega)]
      obtain⟨E',w1,w2,w3,w4⟩:=ZKo R hd (Jf _ _) hrow (fun b hb=>by cases hb;exact Zl _) k2 (fun k r j x v hk hx hv=>by
       have hk':k<(ps.toList.map (·.2)).length:=by have:=(ZR hk).1;omega
       have hj:j<i.size:=by rw[←k2 r (YT hk)];exact(ZR hx).1
       have hxk:(ps.toList.map (·.2))[k]? =some ((ps.toList.map (·.2))[k]):=Zu hk';rw[q2,ZLB ((ps.toList.map (·.2)).map a.eval) i.size (fun v hv=>by obtain⟨x,hx,rfl⟩:=YW.1 hv;exact(k3 x hx).1) k j (a.eval ((ps.toList.map (·.2))[k])) (by rw[Zw,hxk];rfl) hj]at hv;exact k4 k r _ j x v hk hxk hx hv)
      rw[hrl]at w4;refine⟨_,E',ZF1 (s:=Instr.buildSlice t m (ps.map fun(i,x)=>(i,a.eval x))) (by unfold execOp;rw[hop]) ?_,w2,w3,w4⟩;have e1:(ps.map fun(p:Nat×Operand)=>(p.1,a.eval p.2))=((((ps.toList.map (·.2)).map a.eval).zipIdx 0).map fun p=>(p.2,p.1)).toArray:=by
       apply ZCf.1;rw[ZPu];exact ZI9 a.eval ps.toList 0 g2
      have e2:(ps.map fun(x:Nat×Operand)=>match x with|(i,x)=>(i,a.eval x))=(ps.map fun(p:Nat×Operand)=>(p.1,a.eval p.2)):=rfl;rw[e2,e1,w1];exact q1
     ·cases he
    ·cases he
   case makeFunc fn first caps=>
    cases fn<;>simp only at he<;>(try cases he)
    split at he
    ·obtain⟨ys,hys,he⟩:=Zv he;cases he
    ·cases he
   all_goals
    exfalso;have hna:NP (fun e=>match e with| .bsl _ _ _ _=>true|_=>false) (some (.bsl el sz m parts)):=by
     rw[←he]
     repeat first|exact NP.none|exact NP.some rfl|(refine NP.bind (fun _=> ?_))|(refine NP.bind' (fun _=> ?_))|(refine NP.map (fun _=>rfl))|(unfold ZAo)|split
    exact absurd (hna _ rfl) (by simp)
  ·cases h
theorem Zbz(R:Rel c E os)(hf:Fr n E os φ a){ops:Array Oper}{o:Oper}{io:IOp}(hc:Yc P n ops o=some io){id:Nat}(hd:os[id]? =some .dead){d:D}{ob:Ob}(h:evC φ id io=some (true,d,ob)){K:Act→World→Prop}{Q:Exit→Act→World→Prop}
  (hK: ∀v E',Rel c E' (os.set id ob)→Evo E os E' (os.set id ob)→V E' (os.set id ob) d v→K (a.put o.dst v) E'.w):
  if Region.wanted o (yielded ops a.tmps)then o.wp P a E.w K Q else K (a.put o.dst undef) E.w:=by
 simp only[Yc,Yh]at hc;obtain⟨e,he,hc⟩:=hc;split at hc
 ·split at hc
  ·rename_i hg;cases hc;simp only[Region.wanted,hg,if_true];exact ZRW R hf he hd h hK
  ·rename_i j want hg;obtain⟨s,hs,hc⟩:=ZT hc;cases hc;simp only[evC]at h;split at h
   ·rename_i hm;rw[ZMN hg hs hf hm,if_pos rfl];exact ZRW R hf he hd h hK
   ·cases h
 ·cases hc
def Qo(S:Tabs)(φ:List (Nat×D))(os:List Ob)(id:Nat)(o:IOp):Option (Bool×D×Ob):=
 match evC φ id o with
 |some r=>some r
 |none=>match o.g with
  |none=>ZD4 S.k φ os id o.e
  |some (s,want)=>if QV φ s want=true then ZD4 S.k φ os id o.e else none
theorem ZWC(S:Tabs){φ φ':List (Nat×D)}(os:List Ob)(id:Nat){o:IOp}(h: ∀t∈o.reads,Go.Ab.get φ t=Go.Ab.get φ' t):Qo S φ os id o=Qo S φ' os id o:=by
 unfold Qo;rw[ZTu id h];have: ∀e,(∀t∈e.reads,Go.Ab.get φ t=Go.Ab.get φ' t)→ZD4 S.k φ os id e=ZD4 S.k φ' os id e:=by
  intro e he;cases e with
  |call f xs=>
   have h1:=ZK (x:=f) (fun t ht=>he t (by simp[IE.reads,ht]));have h2: ∀y∈xs,ZC φ y=ZC φ' y:=fun y hy=>ZK (fun t ht=>he t (by simp only[IE.reads,KT];exact .inr (ZSS.2 ⟨y,hy,ht⟩)))
   have h3:(xs.map fun y=>(ZC φ y).val)=xs.map fun y=>(ZC φ' y).val:=ZB4 (fun y hy=>by rw[h2 y hy])
   have h4:(xs.all fun y=>(ZC φ y).cond)=xs.all fun y=>(ZC φ' y).cond:=by
    have: ∀l:List IO,(∀y∈l,ZC φ y=ZC φ' y)→(l.all fun y=>(ZC φ y).cond)=l.all fun y=>(ZC φ' y).cond:=by
     intro l
     induction l with
     |nil=>intro _;rfl
     |cons y l ih=>intro hl;simp only[ZAJ,hl y (by simp),ih (fun z hz=>hl z (by simp[hz]))]
    exact this xs h2
   simp only[ZD4,h1,h3,h4]
  |_=>rfl
 obtain⟨dst,e,g⟩:=o;cases g with
 |some p=>
  have e1:=h p.1 (by simp[IOp.reads]);have e2:QV φ p.1 p.2=QV φ' p.1 p.2:=by unfold QV;rw[e1]
  simp only[this e (fun t ht=>h t (by simp[IOp.reads,ht])),e2]
 |none=>simp only[this e (fun t ht=>h t (by simp[IOp.reads,ht]))]
theorem Zbp{S:Tabs}(hS:SsOk P S){Y:List Ob}(R:Rel c E (os++Y))(hf:Fr n E (os++Y) φ a){ops:Array Oper}{o:Oper}{io:IOp}(hc:Yc P n ops o=some io){id:Nat}(hd:(os++Y)[id]? =some .dead){d:D}{ob:Ob}(h:Qo S φ os id io=some (true,d,ob)){K:Act→World→Prop}{Q:Exit→Act→World→Prop}
  (hK: ∀v E',Rel c E' ((os++Y).set id ob)→Evo E (os++Y) E' ((os++Y).set id ob)→V E' ((os++Y).set id ob) d v→K (a.put o.dst v) E'.w):
  if Region.wanted o (yielded ops a.tmps)then o.wp P a E.w K Q else K (a.put o.dst undef) E.w:=by
 unfold Qo at h;split at h
 ·rename_i r hr;cases h;exact Zbz R hf hc hd hr hK
 ·split at h
  ·rename_i hg;simp only[Yc,Yh]at hc;obtain⟨e,he,hc⟩:=hc;split at hc
   ·split at hc
    ·rename_i hgo;cases hc;simp only[Region.wanted,hgo,if_true];exact ZPn hS.k R hf he hd h hK
    ·obtain⟨s,hs,hc⟩:=ZT hc;cases hc;cases hg
   ·cases hc
  ·rename_i hg;split at h
   ·rename_i hm;simp only[Yc,Yh]at hc;obtain⟨e,he,hc⟩:=hc;split at hc
    ·split at hc
     ·rename_i hgo;cases hc;cases hg
     ·rename_i hgo;obtain⟨s,hs,hc⟩:=ZT hc;cases hc;cases hg;rw[ZMN hgo hs hf hm,if_pos rfl];exact ZPn hS.k R hf he hd h hK
    ·cases hc
   ·cases h
def QD(S:Tabs)(φ:List (Nat×D))(os:List Ob)(o:IOp):Option (Bool×D×List Ob):=
 match o.g with
 |none=>match ZM S.q φ os o.e with
  |some r=>some (r.1,r.2,os)
  |none=>Qi S φ os o.e
 |some (s,want)=>match(Go.Ab.get φ s).val with
  | .x (.bool b)=>match ZM S.q φ os o.e with
   |some r=>some (!((Go.Ab.get φ s).cond&&(b==want))||r.1,.opt ((Go.Ab.get φ s).cond&&(b==want)) r.2,os)
   |none=>if(Go.Ab.get φ s).cond&&(b==want)then Qi S φ os o.e else some (true,.opt false .und,os)
  |_=>if(Go.Ab.get φ s).cond then none else some (true,.opt false .und,os)
theorem ZJP{φ φ':List (Nat×D)}{sz:Nat}: ∀ {xs:List IO} {os:List Ob},(∀t∈xs.flatMap IO.reads,Go.Ab.get φ t=Go.Ab.get φ' t)→JR φ sz os xs=JR φ' sz os xs
 | [],os,h=>rfl
 |x::xs,os,h=>by
  have hx:ZC φ x=ZC φ' x:=ZK fun t ht=>h t (by simp[ht])
  have ih: ∀os,JR φ sz os xs=JR φ' sz os xs:=fun os=>ZJP fun t ht=>h t (by simp only[ZMt,KT];exact .inr ht)
  simp only[JR,hx,ih]
theorem ZJH{φ φ':List (Nat×D)}{sz:Nat}: ∀ {xs:List IO},(∀t∈xs.flatMap IO.reads,Go.Ab.get φ t=Go.Ab.get φ' t)→JS φ sz xs=JS φ' sz xs
 | [],h=>rfl
 |x::xs,h=>by
  have hx:ZC φ x=ZC φ' x:=ZK fun t ht=>h t (by simp[ht])
  have ih:JS φ sz xs=JS φ' sz xs:=ZJH fun t ht=>h t (by simp only[ZMt,KT];exact .inr ht)
  simp only[JS,hx,ih]
theorem ZLx(S:Tabs){φ φ':List (Nat×D)}(os:List Ob){e:IE}(h: ∀t∈e.reads,Go.Ab.get φ t=Go.Ab.get φ' t):Qi S φ os e=Qi S φ' os e:=by
 unfold Qi;have h1:ZGA S.t φ os e=ZGA S.t φ' os e:=by
  cases e with
  |call f xs=>
   have h1:=ZK (x:=f) (fun t ht=>h t (by simp[IE.reads,ht]));have h2: ∀y∈xs,ZC φ y=ZC φ' y:=fun y hy=>ZK (fun t ht=>h t (by simp only[IE.reads,KT];exact .inr (ZSS.2 ⟨y,hy,ht⟩)))
   have h3:(xs.map fun y=>(ZC φ y).val)=xs.map fun y=>(ZC φ' y).val:=ZB4 (fun y hy=>by rw[h2 y hy])
   have h4:(xs.all fun y=>(ZC φ y).cond)=xs.all fun y=>(ZC φ' y).cond:=by
    have: ∀l:List IO,(∀y∈l,ZC φ y=ZC φ' y)→(l.all fun y=>(ZC φ y).cond)=l.all fun y=>(ZC φ' y).cond:=by
     intro l
     induction l with
     |nil=>intro _;rfl
     |cons y l ih=>intro hl;simp only[ZAJ,hl y (by simp),ih (fun z hz=>hl z (by simp[hz]))]
    exact this xs h2
   simp only[ZGA,h1,h3,h4]
  |_=>rfl
 have h2:YA φ os e=YA φ' os e:=by
  cases e with
  |box x=>simp only[YA,ZK (x:=x) h]
  |sto n x y=>simp only[YA,ZK (x:=x) (fun t ht=>h t (by simp[IE.reads,ht])),ZK (x:=y) (fun t ht=>h t (by simp[IE.reads,ht]))]
  |bsl el sz n xs=>simp only[YA,ZJP (xs:=xs) h,ZJH (xs:=xs) h]
  |mks el sz b z x y=>simp only[YA,ZK (x:=x) (fun t ht=>h t (by simp[IE.reads,ht])),ZK (x:=y) (fun t ht=>h t (by simp[IE.reads,ht]))]
  |apz el sz b z x y=>simp only[YA,ZK (x:=x) (fun t ht=>h t (by simp[IE.reads,ht])),ZK (x:=y) (fun t ht=>h t (by simp[IE.reads,ht]))]
  |app el sz b x y=>simp only[YA,ZK (x:=x) (fun t ht=>h t (by simp[IE.reads,ht])),ZK (x:=y) (fun t ht=>h t (by simp[IE.reads,ht]))]
  |cpy sz x y=>simp only[YA,ZK (x:=x) (fun t ht=>h t (by simp[IE.reads,ht])),ZK (x:=y) (fun t ht=>h t (by simp[IE.reads,ht]))]
  |s2b el x=>simp only[YA,ZK (x:=x) h]
  |abx el x=>simp only[YA,ZK (x:=x) h]
  |mkm dk ag=>rfl
  |mup dk x k v=>simp only[YA,ZK (x:=x) (fun t ht=>h t (by simp[IE.reads,ht])),ZK (x:=k) (fun t ht=>h t (by simp[IE.reads,ht])),ZK (x:=v) (fun t ht=>h t (by simp[IE.reads,ht]))]
  |mdl dk x k=>simp only[YA,ZK (x:=x) (fun t ht=>h t (by simp[IE.reads,ht])),ZK (x:=k) (fun t ht=>h t (by simp[IE.reads,ht]))]
  |men dk z x k=>simp only[YA,ZK (x:=x) (fun t ht=>h t (by simp[IE.reads,ht])),ZK (x:=k) (fun t ht=>h t (by simp[IE.reads,ht]))]
  |est x k v=>simp only[YA,ZK (x:=x) (fun t ht=>h t (by simp[IE.reads,ht])),ZK (x:=k) (fun t ht=>h t (by simp[IE.reads,ht])),ZK (x:=v) (fun t ht=>h t (by simp[IE.reads,ht]))]
  |mcl x=>simp only[YA,ZK (x:=x) h]
  |rgm x=>simp only[YA,ZK (x:=x) h]
  |rgs x=>simp only[YA,ZK (x:=x) h]
  |asl n x hi=>
   cases hi with
   |none=>simp only[YA,ZK (x:=x) (fun t ht=>h t (by simp[IE.reads,ht]))]
   |some y=>simp only[YA,ZK (x:=x) (fun t ht=>h t (by simp[IE.reads,ht])),ZK (x:=y) (fun t ht=>h t (by simp[IE.reads,ZES,ht]))]
  |_=>rfl
 rw[h1,h2]
theorem ZVN(S:Tabs){φ φ':List (Nat×D)}(os:List Ob){o:IOp}(h: ∀t∈o.reads,Go.Ab.get φ t=Go.Ab.get φ' t):QD S φ os o=QD S φ' os o:=by
 obtain⟨dst,e,g⟩:=o;cases g with
 |none=>
  have h1:=ZIG S.q os (e:=e) (φ:=φ) (φ':=φ') (fun t ht=>h t (by simp[IOp.reads,ht]));have h2:=ZLx S os (e:=e) (φ:=φ) (φ':=φ') (fun t ht=>h t (by simp[IOp.reads,ht]));simp only[QD,h1,h2]
 |some p=>
  obtain⟨s,want⟩:=p;have hs:Go.Ab.get φ s=Go.Ab.get φ' s:=h s (by simp[IOp.reads]);have h1:=ZIG S.q os (e:=e) (φ:=φ) (φ':=φ') (fun t ht=>h t (by simp[IOp.reads,ht]));have h2:=ZLx S os (e:=e) (φ:=φ) (φ':=φ') (fun t ht=>h t (by simp[IOp.reads,ht]));simp only[QD,hs,h1,h2]
theorem Zcp{S:Tabs}(hS:SsOk P S)(R:Rel c E os)(hf:Fr n E os φ a){ops:Array Oper}{o:Oper}{io:IOp}(hc:Yc P n ops o=some io){d:D}{os':List Ob}(h:QD S φ os io=some (true,d,os')){K:Act→World→Prop}{Q:Exit→Act→World→Prop}
  (hK: ∀v E',Rel c E' os'→Evo E os E' os'→V E' os' d v→K (a.put o.dst v) E'.w):
  if Region.wanted o (yielded ops a.tmps)then o.wp P a E.w K Q else K (a.put o.dst undef) E.w:=by
 simp only[Yc,Yh]at hc;obtain⟨e,he,hc⟩:=hc;split at hc
 ·rename_i hdst;split at hc
  ·rename_i hg;cases hc;simp only[QD]at h;simp only[Region.wanted,hg,if_true];split at h
   ·rename_i r hr;obtain⟨ok,d'⟩:=r;simp at h;obtain⟨rfl,rfl,rfl⟩:=h;exact ZFl hS.q R hf he hr hK
   ·exact ZMP hS R hf he h hK
  ·rename_i j want hg;obtain⟨s,hs,hc⟩:=ZT hc;cases hc;simp only[QD]at h;have hwd:Region.wanted o (yielded ops a.tmps)=(yielded ops a.tmps j==some want):=by simp[Region.wanted,hg]
   rw[hwd];have un: ∀d0:D,d= .opt false d0→os'=os→K (a.put o.dst undef) E.w:=by
    rintro d0 rfl rfl;exact hK undef E R (Evo.refl _ _) (.opt (fun h=>by cases h) (fun _=>rfl))
   split at h
   ·rename_i b hb;rw[ZE4 hs hf hb want];split at h
    ·rename_i r hr;obtain⟨ok,d'⟩:=r;simp only[Ze,Za]at h;obtain⟨h1,rfl,rfl⟩:=h;cases hw:((Go.Ab.get φ s).cond&&(b==want))with
     |false=>
      rw[hw]at hK;simp only[Yt,if_false];exact hK undef E R (Evo.refl _ _) (.opt (fun h=>by cases h) (fun _=>rfl))
     |true=>
      rw[hw]at hK h1;simp at h1;subst h1;simp only[if_true];exact ZFl hS.q R hf he hr (fun v E' R' ev hv=>hK v E' R' ev (.opt (fun _=>hv) (fun h=>by cases h)))
    ·split at h
     ·rename_i hw;rw[if_pos hw];exact ZMP hS R hf he h hK
     ·rename_i hw;simp only[Ze,Za,true_and]at h;obtain⟨rfl,rfl⟩:=h;rw[if_neg hw];exact un .und rfl rfl
   ·split at h
    ·cases h
    ·rename_i hw;simp only[Ze,Za,true_and]at h;obtain⟨rfl,rfl⟩:=h;rw[ZHe hs hf (by simpa using hw) want];simp only[Yt,if_false];exact un .und rfl rfl
 ·cases hc
end
abbrev Rec:=Option Nat×D×Option Ob
def IE.frame:IE→Bool
 | .mv _=>true
 | .nck _=>true
 | .pick _ _ _=>true
 | .bin _ _ _=>true
 | .eq .bool _ _ _=>true
 | .eq .ptr _ _ _=>true
 | .eq (.st _) _ _ _=>true
 | .un _ _=>true
 | .cvi _ _=>true
 | .fld _ _ _ _=>true
 | .fad _ _=>true
 | .idx _ _=>true
 | .idxa _ _ _ _ _=>true
 | .build _ _=>true
 | .ext _ _=>true
 | .mnx _ _ _=>true
 | .mkf _ _=>true
 | .len st _=>st
 | .slc n _ _ _ _=>Nat.beq n 0
 |_=>false
mutual
def X.beq:X→X→Bool
 | .int k n,.int k' m=>decide (k=k')&&decide (n=m)
 | .bool a,.bool b=>a==b
 | .str s,.str t=>decide (s=t)
 | .nilp,.nilp=>true
 | .nils,.nils=>true
 | .sl a,.sl b=>X.beqR a b
 |_,_=>false
def X.beqR:List (List X)→List (List X)→Bool
 | [],[]=>true
 |r::l,r'::l'=>X.beqL r r'&&X.beqR l l'
 |_,_=>false
def X.beqL:List X→List X→Bool
 | [],[]=>true
 |x::l,y::l'=>X.beq x y&&X.beqL l l'
 |_,_=>false
end
mutual
theorem X.beq_eq: ∀ {x y:X},X.beq x y=true→x=y
 | .int k n,y,h=>by cases y<;>simp[X.beq]at h;rw[h.1,h.2]
 | .bool a,y,h=>by cases y<;>simp[X.beq]at h;rw[h]
 | .str s,y,h=>by cases y<;>simp[X.beq]at h;rw[h]
 | .nilp,y,h=>by cases y<;>simp[X.beq]at h;rfl
 | .nils,y,h=>by cases y<;>simp[X.beq]at h;rfl
 | .sl a,y,h=>by cases y<;>simp[X.beq]at h;rw[X.beqR_eq h]
theorem X.beqR_eq: ∀ {a b:List (List X)},X.beqR a b=true→a=b
 | [],b,h=>by cases b<;>simp[X.beqR]at h;rfl
 |r::l,b,h=>by cases b<;>simp[X.beqR]at h;rw[X.beqL_eq h.1,X.beqR_eq h.2]
theorem X.beqL_eq: ∀ {a b:List X},X.beqL a b=true→a=b
 | [],b,h=>by cases b<;>simp[X.beqL]at h;rfl
 |x::l,b,h=>by cases b<;>simp[X.beqL]at h;rw[X.beq_eq h.1,X.beqL_eq h.2]
end
mutual
def D.beq:D→D→Bool
 | .x a,.x b=>X.beq a b
 | .ref a b c d,.ref a' b' c' d'=>Nat.beq a a'&&(Nat.beq b b'&&(Nat.beq c c'&&Nat.beq d d'))
 | .ptr a b,.ptr a' b'=>Nat.beq a a'&&Nat.beq b b'
 | .eptr a b c d,.eptr a' b' c' d'=>Nat.beq a a'&&(Nat.beq b b'&&(Nat.beq c c'&&Nat.beq d d'))
 | .vptr a,.vptr b=>X.beqL a b
 | .mref a,.mref b=>Nat.beq a b
 | .mnil,.mnil=>true
 | .iref a b,.iref a' b'=>Nat.beq a a'&&Nat.beq b b'
 | .stk a b,.stk a' b'=>Nat.beq a a'&&Nat.beq b b'
 | .bref a b c,.bref a' b' c'=>Nat.beq a a'&&(Nat.beq b b'&&Nat.beq c c')
 | .agg a,.agg b=>D.beqL a b
 | .tup a,.tup b=>D.beqL a b
 | .full a,.full b=>X.beqR a b
 | .nz a,.nz b=>X.beqR a b
 | .fn f a,.fn g b=>decide (f=g)&&D.beqL a b
 | .opt a d,.opt b e=>(a==b)&&D.beq d e
 | .und,.und=>true
 |_,_=>false
def D.beqL:List D→List D→Bool
 | [],[]=>true
 |d::l,e::l'=>D.beq d e&&D.beqL l l'
 |_,_=>false
end
mutual
theorem D.beq_eq: ∀ {x y:D},D.beq x y=true→x=y
 | .x a,y,h=>by cases y<;>simp[D.beq]at h;rw[X.beq_eq h]
 | .ref a b c d,y,h=>by cases y<;>simp[D.beq]at h;rw[h.1,h.2.1,h.2.2.1,h.2.2.2]
 | .ptr a b,y,h=>by cases y<;>simp[D.beq]at h;rw[h.1,h.2]
 | .eptr a b c d,y,h=>by cases y<;>simp[D.beq]at h;rw[h.1,h.2.1,h.2.2.1,h.2.2.2]
 | .vptr a,y,h=>by cases y<;>simp[D.beq]at h;rw[X.beqL_eq h]
 | .mref a,y,h=>by cases y<;>simp[D.beq]at h;rw[h]
 | .mnil,y,h=>by cases y<;>simp[D.beq]at h;rfl
 | .iref a b,y,h=>by cases y<;>simp[D.beq]at h;rw[h.1,h.2]
 | .stk a b,y,h=>by cases y<;>simp[D.beq]at h;rw[h.1,h.2]
 | .bref a b c,y,h=>by cases y<;>simp[D.beq]at h;rw[h.1,h.2.1,h.2.2]
 | .agg a,y,h=>by cases y<;>simp[D.beq]at h;rw[D.beqL_eq h]
 | .tup a,y,h=>by cases y<;>simp[D.beq]at h;rw[D.beqL_eq h]
 | .full a,y,h=>by cases y<;>simp[D.beq]at h;rw[X.beqR_eq h]
 | .nz a,y,h=>by cases y<;>simp[D.beq]at h;rw[X.beqR_eq h]
 | .fn f a,y,h=>by cases y<;>simp[D.beq]at h;rw[h.1,D.beqL_eq h.2]
 | .opt a d,y,h=>by cases y<;>simp[D.beq]at h;rw[h.1,D.beq_eq h.2]
 | .und,y,h=>by cases y<;>simp[D.beq]at h;rfl
theorem D.beqL_eq: ∀ {a b:List D},D.beqL a b=true→a=b
 | [],b,h=>by cases b<;>simp[D.beqL]at h;rfl
 |d::l,b,h=>by cases b<;>simp[D.beqL]at h;rw[D.beq_eq h.1,D.beqL_eq h.2]
end
def beqR:List (List D)→List (List D)→Bool
 | [],[]=>true
 |r::l,r'::l'=>D.beqL r r'&&beqR l l'
 |_,_=>false
theorem beqR_eq: ∀ {a b:List (List D)},beqR a b=true→a=b
 | [],b,h=>by cases b<;>simp[beqR]at h;rfl
 |r::l,b,h=>by
  cases b<;>simp[beqR]at h
  rw[beqR_eq h.2,D.beqL_eq h.1]
def ZNE(p q:Pr):Bool:=X.beqL p.1 q.1&&D.beqL p.2 q.2
def ZFo:List Pr→List Pr→Bool
 | [],[]=>true
 |p::l,q::l'=>ZNE p q&&ZFo l l'
 |_,_=>false
theorem ZSF{p q:Pr}(h:ZNE p q=true):p=q:=by
 simp only[ZNE,ZS]at h;exact ZEl (X.beqL_eq h.1) (D.beqL_eq h.2)
theorem ZFI: ∀ {a b:List Pr},ZFo a b=true→a=b
 | [],b,h=>by cases b<;>simp[ZFo]at h;rfl
 |p::l,b,h=>by
  cases b<;>simp[ZFo]at h
  rw[ZFI h.2,ZSF h.1]
def ZY5:Option Pr→Option Pr→Bool
 |none,none=>true
 |some p,some q=>ZNE p q
 |_,_=>false
theorem Zaj: ∀ {a b:Option Pr},ZY5 a b=true→a=b
 |none,none,_=>rfl
 |some p,some q,h=>by rw[ZSF h]
 |none,some _,h=>by cases h
 |some _,none,h=>by cases h
def ZHz:List (List Pr)→List (List Pr)→Bool
 | [],[]=>true
 |p::l,q::l'=>ZFo p q&&ZHz l l'
 |_,_=>false
theorem ZPT: ∀ {a b:List (List Pr)},ZHz a b=true→a=b
 | [],b,h=>by cases b<;>simp[ZHz]at h;rfl
 |p::l,b,h=>by
  cases b<;>simp[ZHz]at h
  rw[ZPT h.2,ZFI h.1]
def ZKt:List (X×List (List X))→List (X×List (List X))→Bool
 | [],[]=>true
 |p::l,q::l'=>X.beq p.1 q.1&&(X.beqR p.2 q.2&&ZKt l l')
 |_,_=>false
theorem ZRa: ∀ {a b:List (X×List (List X))},ZKt a b=true→a=b
 | [],b,h=>by cases b<;>simp[ZKt]at h;rfl
 |p::l,b,h=>by
  cases b<;>simp[ZKt]at h
  rw[ZRa h.2.2,ZEl (X.beq_eq h.1) (X.beqR_eq h.2.1)]
def Ob.beq:Ob→Ob→Bool
 | .mpo dk ag l,.mpo dk' ag' l'=>decide (dk=dk')&&((ag==ag')&&ZFo l l')
 | .mit dk ag l it R cur,.mit dk' ag' l' it' R' cur'=>decide (dk=dk')&&((ag==ag')&&(ZFo l l'&&(Nat.beq it it'&&(ZFo R R'&&ZY5 cur cur'))))
 | .mpn dk ag l key sid,.mpn dk' ag' l' key' sid'=>decide (dk=dk')&&((ag==ag')&&(ZFo l l'&&(X.beqL key key'&&Nat.beq sid sid')))
 | .itr,.itr=>true
 | .stp,.stp=>true
 | .nit,.nit=>true
 | .sit s p,.sit s' p'=>(s==s')&&Nat.beq p p'
 | .box a,.box b=>D.beqL a b
 | .rows f e s rs,.rows f' e' s' rs'=>(f==f')&&(Nat.beq e e'&&(Nat.beq s s'&&X.beqR rs rs'))
 | .drw e s rs,.drw e' s' rs'=>Nat.beq e e'&&(Nat.beq s s'&&beqR rs rs')
 | .frz s rs,.frz s' rs'=>Nat.beq s s'&&X.beqR rs rs'
 | .old s n,.old s' n'=>Nat.beq s s'&&Nat.beq n n'
 | .fam k P B,.fam k' P' B'=>Nat.beq k k'&&(ZHz P P'&&ZKt B B')
 | .dead,.dead=>true
 |_,_=>false
theorem Ob.beq_eq{x y:Ob}(h:Ob.beq x y=true):x=y:=by
 cases x<;>cases y<;>simp[Ob.beq]at h
 ·rw[D.beqL_eq h]
 ·rw[h.1,h.2.1,h.2.2.1,X.beqR_eq h.2.2.2]
 ·rw[h.1,h.2.1,beqR_eq h.2.2]
 ·rw[h.1,X.beqR_eq h.2]
 ·rw[h.1,h.2.1,ZFI h.2.2]
 ·rw[h.1,h.2.1,ZFI h.2.2.1,h.2.2.2.1,ZFI h.2.2.2.2.1,Zaj h.2.2.2.2.2]
 ·rw[h.1,h.2.1,ZFI h.2.2.1,X.beqL_eq h.2.2.2.1,h.2.2.2.2]
 ·rfl
 ·rfl
 ·rw[h.1,h.2]
 ·rfl
 ·rw[h.1,h.2]
 ·rw[h.1,ZPT h.2.1,ZRa h.2.2]
 ·rfl
def KO:List Ob→List Ob→Bool
 | [],_=>true
 |x::l,y::l'=>Ob.beq x y&&KO l l'
 |_,_=>false
theorem ZHm: ∀ {a b:List Ob},KO a b=true→ ∃X,b=a++X
 | [],b,_=>⟨b,rfl⟩
 |x::l,b,h=>by
  cases b with
  |nil=>cases h
  |cons y l'=>
   simp only[KO,ZS]at h;obtain⟨X,rfl⟩:=ZHm h.2;exact⟨X,by rw[Ob.beq_eq h.1];rfl⟩
def Zh(t:Nat):List Nat→Bool
 | []=>false
 |u::l=>Nat.beq t u||Zh t l
def IOp.ex(rs:List Nat)(i:Nat)(o:IOp):Bool:=o.e.frame||Zh i rs
def ZEs(φ:List (Nat×D))(os:List Ob)(o:IOp):Option (Bool×D):=match o.g,o.e with
 |none,.b2s (.t u)=>match Go.Ab.get φ u with
  | .ref id ext off len=>(Zp os (.ref id ext off len)).map fun rs=>(rs.all ZEX,.x (.str (rs.map ZAZ)))
  |_=>none
 |_,_=>none
def Jj(S:Tabs)(os0:List Ob)(k:Nat)(rs:List Nat):Nat→List (Nat×D)→Nat→List Ob→List IOp→Option (Bool×List Rec×List (Option (List Ob)))
 |_,_,_,_,[]=>some (true,[],[])
 |i,φ,id,os,o::l=>
  if o.e.frame then(Yo S φ [] o).bind fun r=>(Jj S os0 k rs (i+1) (putO φ o.dst r.2) id os l).map fun q=>(r.1&&q.1,(o.dst,r.2,none)::q.2.1,none::q.2.2)
  else if Zh i rs then(Yo S φ os0 o).bind fun r=>(Jj S os0 k rs (i+1) (putO φ o.dst r.2) id os l).map fun q=>(r.1&&q.1,(o.dst,r.2,none)::q.2.1,none::q.2.2)
  else if i<k then match Yo S φ os0 o with
   |some r=>(Jj S os0 k rs (i+1) (putO φ o.dst r.2) id os l).map fun q=>(r.1&&q.1,(o.dst,r.2,none)::q.2.1,none::q.2.2)
   |none=>match ZEs φ os o with
    |some r=>(Jj S os0 k rs (i+1) (putO φ o.dst r.2) id os l).map fun q=>(r.1&&q.1,(o.dst,r.2,none)::q.2.1,none::q.2.2)
    |none=>(Qo S φ os0 id o).bind fun r=>(Jj S os0 k rs (i+1) (putO φ o.dst r.2.1) (id+1) (os++ [r.2.2]) l).map fun q=>(r.1&&q.1,(o.dst,r.2.1,some r.2.2)::q.2.1,none::q.2.2)
  else(QD S φ os o).bind fun r=>(Jj S os0 k rs (i+1) (putO φ o.dst r.2.1) id r.2.2 l).map fun q=>(r.1&&q.1,(o.dst,r.2.1,none)::q.2.1,some r.2.2::q.2.2)
def Ya:List (Nat×D)→List Rec→List (Nat×D)
 |φ,[]=>φ
 |φ,r::l=>Ya (putO φ r.1 r.2.1) l
def YD:List Rec→List Ob
 | []=> []
 |(_,_,none)::l=>YD l
 |(_,_,some ob)::l=>ob::YD l
def Zq:List (Option (List Ob))→(Nat→Bool)→Nat→List Ob→List Ob
 | [],_,_,b=>b
 |none::l,dn,i,b=>Zq l dn (i+1) b
 |some x::l,dn,i,b=>Zq l dn (i+1) (if dn i=true then x else b)
def ZQY(os:List Ob):List (Option (List Ob))→Bool
 | []=>true
 |none::l=>ZQY os l
 |some x::l=>KO os x&&ZQY os l
def ZK7(rs:List Nat)(os:List Ob)(G:List (Option (List Ob))):Bool:=match rs with
 | []=>true
 |_=>ZQY os G
theorem ZJl{os:List Ob}: ∀ {G:List (Option (List Ob))},ZQY os G=true→ ∀(j:Nat) (x:List Ob),G[j]? =some (some x)→ ∃Y,x=os++Y
 | [],_,j,x,h=>by simp at h
 |none::l,hb,j,x,h=>by
  cases j with
  |zero=>simp at h
  |succ j=>exact ZJl (G:=l) hb j x (by simpa using h)
 |some y::l,hb,j,x,h=>by
  simp only[ZQY,ZS]at hb;cases j with
  |zero=>simp at h;subst h;exact ZHm hb.1
  |succ j=>exact ZJl hb.2 j x (by simpa using h)
theorem ZHk{os:List Ob}: ∀ {G:List (Option (List Ob))} (dn:Nat→Bool) (i:Nat) (b:List Ob),(∀(j:Nat) (x:List Ob),G[j]? =some (some x)→ ∃Y,x=os++Y)→(∃Y,b=os++Y)→ ∃Y,Zq G dn i b=os++Y
 | [],_,_,b,_,h=>h
 |none::l,dn,i,b,hG,h=>by simp only[Zq];exact ZHk dn (i+1) b (fun j x hj=>hG (j+1) x (by simpa using hj)) h
 |some y::l,dn,i,b,hG,h=>by
  simp only[Zq];refine ZHk dn (i+1) _ (fun j x hj=>hG (j+1) x (by simpa using hj)) ?_;split
  ·exact hG 0 y rfl
  ·exact h
theorem Ju: ∀(F:List (Option (List Ob))) (dn dn':Nat→Bool) (i:Nat) (b:List Ob),(∀j x,F[j]? =some (some x)→dn (i+j)=dn' (i+j))→Zq F dn i b=Zq F dn' i b
 | [],_,_,_,_,_=>rfl
 |none::l,dn,dn',i,b,h=>by
  simp only[Zq];exact Ju l dn dn' (i+1) b (fun j x hj=>by have:=h (j+1) x (by simpa using hj);rw[show i+1+j=i+(j+1) by omega];exact this)
 |some y::l,dn,dn',i,b,h=>by
  simp only[Zq];have h0:=h 0 y rfl;rw[Jw]at h0;rw[h0];exact Ju l dn dn' (i+1) _ (fun j x hj=>by have:=h (j+1) x (by simpa using hj);rw[show i+1+j=i+(j+1) by omega];exact this)
theorem Kv: ∀(F:List (Option (List Ob))) (dn:Nat→Bool) (i:Nat) (b:List Ob),(∀j x,F[j]? =some (some x)→dn (i+j)=false)→Zq F dn i b=b
 | [],_,_,_,_=>rfl
 |none::l,dn,i,b,h=>by
  simp only[Zq];exact Kv l dn (i+1) b (fun j x hj=>by have:=h (j+1) x (by simpa using hj);rw[show i+1+j=i+(j+1) by omega];exact this)
 |some y::l,dn,i,b,h=>by
  have h0:=h 0 y rfl;rw[Jw]at h0;simp only[Zq,h0,Yt,if_false];exact Kv l dn (i+1) b (fun j x hj=>by have:=h (j+1) x (by simpa using hj);rw[show i+1+j=i+(j+1) by omega];exact this)
theorem ZHn: ∀(F:List (Option (List Ob))) (dn:Nat→Bool) (i:Nat) (b:List Ob) (m:Nat) (s:List Ob),F[m]? =some (some s)→dn (i+m)=true→(∀j x,m<j→F[j]? =some (some x)→dn (i+j)=false)→Zq F dn i b=s
 | [],_,_,_,m,s,h,_,_=>by simp at h
 |none::l,dn,i,b,0,s,h,_,_=>by simp at h
 |none::l,dn,i,b,m+1,s,h,hd,hn=>by
  simp only[Zq];exact ZHn l dn (i+1) b m s (by simpa using h) (by rw[show i+1+m=i+(m+1) by omega];exact hd) (fun j x hj hx=>by rw[show i+1+j=i+(j+1) by omega];exact hn (j+1) x (by omega) (by simpa using hx))
 |some y::l,dn,i,b,0,s,h,hd,hn=>by
  simp at h;subst h;rw[Jw]at hd;simp only[Zq,hd,if_true];exact Kv l dn (i+1) y (fun j x hj=>by rw[show i+1+j=i+(j+1) by omega];exact hn (j+1) x (by omega) (by simpa using hj))
 |some y::l,dn,i,b,m+1,s,h,hd,hn=>by
  simp only[Zq];exact ZHn l dn (i+1) _ m s (by simpa using h) (by rw[show i+1+m=i+(m+1) by omega];exact hd) (fun j x hj hx=>by rw[show i+1+j=i+(j+1) by omega];exact hn (j+1) x (by omega) (by simpa using hx))
def look:List Rec→(Nat→Bool)→Nat→D→Nat→D
 | [],_,_,b,_=>b
 |r::l,dn,i,b,t=>look l dn (i+1) (if r.1=some t∧dn i=true then r.2.1 else b) t
def JW:List Rec→(Nat→Bool)→Nat→List Ob
 | [],_,_=> []
 |(_,_,none)::l,dn,i=>JW l dn (i+1)
 |(_,_,some ob)::l,dn,i=>(if dn i=true then ob else .dead)::JW l dn (i+1)
theorem ZBy: ∀(F:List Rec) (dn dn':Nat→Bool) (i:Nat) (b:D) (t:Nat),(∀j d o,F[j]? =some (some t,d,o)→dn (i+j)=dn' (i+j))→look F dn i b t=look F dn' i b t
 | [],_,_,_,_,_,_=>rfl
 |(dst,d,o)::l,dn,dn',i,b,t,h=>by
  simp only[look];have e:(if dst=some t∧dn i=true then d else b)=(if dst=some t∧dn' i=true then d else b):=by
   by_cases hd:dst=some t
   ·subst hd;have:=h 0 d o rfl;rw[Jw]at this;rw[this]
   ·simp[hd]
  rw[e];exact ZBy l dn dn' (i+1) _ t (fun j d' o' hj=>by have:=h (j+1) d' o' (by simpa using hj);rw[show i+1+j=i+(j+1) by omega];exact this)
theorem ZF9: ∀(F:List Rec) (dn:Nat→Bool) (i:Nat) (b:D) (t:Nat),(∀j d o,F[j]? =some (some t,d,o)→dn (i+j)=false)→look F dn i b t=b
 | [],_,_,_,_,_=>rfl
 |(dst,d,o)::l,dn,i,b,t,h=>by
  simp only[look];have e:(if dst=some t∧dn i=true then d else b)=b:=by
   by_cases hd:dst=some t
   ·subst hd;have:=h 0 d o rfl;rw[Jw]at this;simp[this]
   ·simp[hd]
  rw[e];exact ZF9 l dn (i+1) b t (fun j d' o' hj=>by have:=h (j+1) d' o' (by simpa using hj);rw[show i+1+j=i+(j+1) by omega];exact this)
theorem ZPd: ∀(F:List Rec) (dn:Nat→Bool) (i:Nat) (b:D) (m:Nat) (dst:Option Nat) (d:D) (o:Option Ob) (t:Nat),F[m]? =some (dst,d,o)→(∀j u d' o',F[j]? =some (some u,d',o')→dst=some u→j=m)→
  look F (fun j=>dn j||decide (j=i+m)) i b t=if dst=some t then d else look F dn i b t
 | [],_,_,_,m,_,_,_,_,h,_=>by simp at h
 |(dst0,d0,o0)::l,dn,i,b,0,dst,d,o,t,h,hu=>by
  simp at h;obtain⟨rfl,rfl,rfl⟩:=h;simp only[look,Jw];have hrest: ∀b,look l (fun j=>dn j||decide (j=i)) (i+1) b t=look l dn (i+1) b t:=fun b=>ZBy l _ _ _ _ _ (fun j d' o' hj=>by simp;omega)
  rw[hrest];by_cases hd:dst0=some t
  ·subst hd;simp only[true_and,decide_true,ZKx,if_true];exact ZF9 l dn (i+1) d0 t (fun j d' o' hj=>by have:=hu (j+1) t d' o' (by simpa using hj) rfl;omega)
  ·simp[hd]
 |(dst0,d0,o0)::l,dn,i,b,m+1,dst,d,o,t,h,hu=>by
  simp only[look];have ih:=fun b=>ZPd l dn (i+1) b m dst d o t (by simpa using h) (fun j u d' o' hj hd=>by have:=hu (j+1) u d' o' (by simpa using hj) hd;omega)
  have e: ∀b,look l (fun j=>dn j||decide (j=i+(m+1))) (i+1) b t=look l (fun j=>dn j||decide (j=i+1+m)) (i+1) b t:=fun b=>ZBy l _ _ _ _ _ (fun j d' o' hj=>by rw[show i+(m+1)=i+1+m by omega])
  rw[e,ih];have e2:decide (i=i+(m+1))=false:=by simp
  rw[e2,ZFj]
theorem ZCs: ∀(F:List Rec) (dn dn':Nat→Bool) (i:Nat),(∀j r,F[j]? =some r→dn (i+j)=dn' (i+j))→JW F dn i=JW F dn' i
 | [],_,_,_,_=>rfl
 |(dst,d,none)::l,dn,dn',i,h=>by
  simp only[JW];exact ZCs l dn dn' (i+1) (fun j r hj=>by have:=h (j+1) r (by simpa using hj);rw[show i+1+j=i+(j+1) by omega];exact this)
 |(dst,d,some ob)::l,dn,dn',i,h=>by
  simp only[JW];have h0:=h 0 _ rfl;rw[Jw]at h0;rw[h0,ZCs l dn dn' (i+1) (fun j r hj=>by have:=h (j+1) r (by simpa using hj);rw[show i+1+j=i+(j+1) by omega];exact this)]
theorem ZER: ∀(F:List Rec) (dn:Nat→Bool) (i m:Nat) (dst:Option Nat) (d:D),F[m]? =some (dst,d,none)→JW F (fun j=>dn j||decide (j=i+m)) i=JW F dn i
 | [],_,_,_,_,_,h=>by simp at h
 |(dst0,d0,o0)::l,dn,i,0,dst,d,h=>by
  simp at h;obtain⟨rfl,rfl,rfl⟩:=h;simp only[JW,Jw];exact ZCs l _ _ _ (fun j r hj=>by simp;omega)
 |(dst0,d0,o0)::l,dn,i,m+1,dst,d,h=>by
  have ih:=ZER l dn (i+1) m dst d (by simpa using h);have e:JW l (fun j=>dn j||decide (j=i+(m+1))) (i+1)=JW l dn (i+1):=by
   rw[←ih];exact ZCs l _ _ _ (fun j r hj=>by rw[show i+(m+1)=i+1+m by omega])
  cases o0 with
  |none=>simp only[JW];exact e
  |some ob=>
   have e2:decide (i=i+(m+1))=false:=by simp
   simp only[JW,e,e2,ZFj]
def JG:List Rec→Nat→Nat
 |_,0=>0
 | [],_+1=>0
 |(_,_,none)::l,m+1=>JG l m
 |(_,_,some _)::l,m+1=>JG l m+1
theorem ZPE: ∀(F:List Rec) (dn:Nat→Bool) (i m:Nat) (dst:Option Nat) (d:D) (ob:Ob),F[m]? =some (dst,d,some ob)→dn (i+m)=false→(JW F dn i)[JG F m]? =some .dead∧JW F (fun j=>dn j||decide (j=i+m)) i=(JW F dn i).set (JG F m) ob
 | [],_,_,_,_,_,_,h,_=>by simp at h
 |(dst0,d0,o0)::l,dn,i,0,dst,d,ob,h,hd=>by
  simp at h;obtain⟨rfl,rfl,rfl⟩:=h;rw[Jw]at hd;simp only[JW,Jw,JG,hd];refine⟨by simp,?_⟩;have:JW l (fun j=>dn j||decide (j=i)) (i+1)=JW l dn (i+1):=ZCs l _ _ _ (fun j r hj=>by simp;omega);rw[this];simp
 |(dst0,d0,o0)::l,dn,i,m+1,dst,d,ob,h,hd=>by
  have hd':dn (i+1+m)=false:=by rw[show i+1+m=i+(m+1) by omega];exact hd
  obtain⟨k1,k2⟩:=ZPE l dn (i+1) m dst d ob (by simpa using h) hd';have e:JW l (fun j=>dn j||decide (j=i+(m+1))) (i+1)=(JW l dn (i+1)).set (JG l m) ob:=by
   rw[←k2];exact ZCs l _ _ _ (fun j r hj=>by rw[show i+(m+1)=i+1+m by omega])
  cases o0 with
  |none=>simp only[JW,JG];exact⟨k1,e⟩
  |some ob0=>
   have e2:decide (i=i+(m+1))=false:=by simp
   simp only[JW,JG,e,e2,ZFj];exact⟨by simpa using k1,by simp⟩
theorem ZNG: ∀(F:List Rec) (dn:Nat→Bool) (i:Nat),(∀j r,F[j]? =some r→dn (i+j)=true)→JW F dn i=YD F
 | [],_,_,_=>rfl
 |(dst,d,none)::l,dn,i,h=>by
  simp only[JW,YD];exact ZNG l dn (i+1) (fun j r hj=>by have:=h (j+1) r (by simpa using hj);rw[show i+1+j=i+(j+1) by omega];exact this)
 |(dst,d,some ob)::l,dn,i,h=>by
  simp only[JW,YD];have h0:=h 0 _ rfl;rw[Jw]at h0;rw[h0,ZNG l dn (i+1) (fun j r hj=>by have:=h (j+1) r (by simpa using hj);rw[show i+1+j=i+(j+1) by omega];exact this)];rfl
theorem ZKe: ∀(F:List Rec) (φ:List (Nat×D)) (m i:Nat) (t:Nat),Go.Ab.get (Ya φ (F.take m)) t=look F (fun j=>decide (j<i+m)) i (Go.Ab.get φ t) t
 | [],φ,m,i,t=>by simp[Ya,look]
 |(dst,d,o)::l,φ,0,i,t=>by
  simp only[ZBZ,Ya,Jw];rw[ZF9 _ _ _ _ _ (fun j d' o' hj=>by simp)]
 |(dst,d,o)::l,φ,m+1,i,t=>by
  simp only[ξU,Ya,look];rw[ZKe l _ m (i+1) t];have e1:Go.Ab.get (putO φ dst d) t=if dst=some t∧decide (i<i+(m+1))=true then d else Go.Ab.get φ t:=by
   cases dst with
   |none=>simp[putO]
   |some u=>
    simp only[putO,ZMk];simp
  rw[e1];exact ZBy l _ _ _ _ _ (fun j d' o' hj=>by congr 1;simp;omega)
theorem ZAB: ∀(G:List (Option (List Ob))) (i j:Nat) (b:List Ob),Zq G (fun _=>true) i b=Zq G (fun _=>true) j b
 | [],_,_,_=>rfl
 |none::l,i,j,b=>by simp only[Zq];exact ZAB l _ _ b
 |some x::l,i,j,b=>by simp only[Zq];exact ZAB l _ _ _
theorem ZGc{S:Tabs}{os0:List Ob}{k:Nat}{rs:List Nat}: ∀ {il:List IOp} {i:Nat} {φ:List (Nat×D)} {id:Nat} {os:List Ob} {b:Bool} {F:List Rec} {G:List (Option (List Ob))},k≤i→Jj S os0 k rs i φ id os il=some (b,F,G)→ ∀q,YD (F.take q)= []
 | [],i,φ,id,os,b,F,G,hk,h,q=>by simp[Jj]at h;obtain⟨_,rfl,_⟩:=h;simp[YD]
 |o::l,i,φ,id,os,b,F,G,hk,h,q=>by
  simp only[Jj]at h;have hik: ¬(i<k):=by omega
  split at h
  ·obtain⟨r,_,h⟩:=Zv h;obtain⟨⟨b',F',G'⟩,h1,h2⟩:=ZT h;simp only[Za]at h2;obtain⟨_,rfl,rfl⟩:=h2;cases q with
   |zero=>rfl
   |succ q=>simp only[ξU,YD];exact ZGc (by omega) h1 q
  split at h
  ·obtain⟨r,_,h⟩:=Zv h;obtain⟨⟨b',F',G'⟩,h1,h2⟩:=ZT h;simp only[Za]at h2;obtain⟨_,rfl,rfl⟩:=h2;cases q with
   |zero=>rfl
   |succ q=>simp only[ξU,YD];exact ZGc (by omega) h1 q
  ·try rw[if_neg hik]at h
   obtain⟨r,_,h⟩:=Zv h;obtain⟨⟨b',F',G'⟩,h1,h2⟩:=ZT h;simp only[Za]at h2;obtain⟨_,rfl,rfl⟩:=h2;cases q with
   |zero=>rfl
   |succ q=>simp only[ξU,YD];exact ZGc (by omega) h1 q
inductive Step (S:Tabs) (os0:List Ob) (k:Nat) (rs:List Nat) (φ:List (Nat×D)) (id:Nat) (cur:List Ob) (i:Nat) (io:IOp):D→Option Ob→Option (List Ob)→Prop
 |frame {d:D} (hf:io.e.frame=true) (h:Yo S φ [] io=some (true,d)):Step S os0 k rs φ id cur i io d none none
 |look {d:D} (hf:Zh i rs=true) (h:Yo S φ os0 io=some (true,d)):Step S os0 k rs φ id cur i io d none none
 |read {d:D} (hf:io.ex rs i=false) (hk:i<k) (h:Yo S φ os0 io=some (true,d)):Step S os0 k rs φ id cur i io d none none
 |near {d:D} (hf:io.ex rs i=false) (hk:i<k) (h:ZEs φ cur io=some (true,d)):Step S os0 k rs φ id cur i io d none none
 |make {d:D} {x:Ob} (hf:io.ex rs i=false) (hk:i<k) (h:Qo S φ os0 id io=some (true,d,x)):Step S os0 k rs φ id cur i io d (some x) none
 |turn {d:D} {s:List Ob} (hf:io.ex rs i=false) (hk:k≤i) (h:QD S φ cur io=some (true,d,s)):Step S os0 k rs φ id cur i io d none (some s)
theorem ZDv{S:Tabs}{os0:List Ob}{k:Nat}{rs:List Nat}: ∀ {il:List IOp} {i:Nat} {φ:List (Nat×D)} {id:Nat} {os:List Ob} {F:List Rec} {G:List (Option (List Ob))},Jj S os0 k rs i φ id os il=some (true,F,G)→F.length=il.length∧G.length=il.length∧
  ∀q io,il[q]? =some io→ ∃d x s,F[q]? =some (io.dst,d,x)∧G[q]? =some s∧Step S os0 k rs (Ya φ (F.take q)) (id+JG F q) (Zq (G.take q) (fun _=>true) 0 (os++YD (F.take q))) (i+q) io d x s
 | [],i,φ,id,os,F,G,h=>by simp[Jj]at h;obtain⟨rfl,rfl⟩:=h;exact⟨rfl,rfl,fun q io hi=>by simp at hi⟩
 |o::l,i,φ,id,os,F,G,h=>by
  simp only[Jj]at h;split at h
  ·rename_i hf;obtain⟨⟨b0,d0⟩,hr,h⟩:=Zv h;obtain⟨⟨b,F',G'⟩,h1,h2⟩:=ZT h;simp at h2;obtain⟨⟨rfl,rfl⟩,rfl,rfl⟩:=h2;obtain⟨k1,k2,k3⟩:=ZDv h1;refine⟨by simp[k1],by simp[k2],fun q io hi=> ?_⟩;cases q with
   |zero=>simp at hi;subst hi;exact⟨d0,none,none,rfl,rfl,.frame hf hr⟩
   |succ q=>
    obtain⟨d,x,s,w1,w2,w3⟩:=k3 q io (by simpa using hi);refine⟨d,x,s,by simpa using w1,by simpa using w2,?_⟩;simp only[ξU,Ya,JG,Zq,YD];rw[ZAB _ 1 0,show i+(q+1)=i+1+q by omega];exact w3
  ·rename_i hf0;split at h
   ·rename_i hf;obtain⟨⟨b0,d0⟩,hr,h⟩:=Zv h;obtain⟨⟨b,F',G'⟩,h1,h2⟩:=ZT h;simp at h2;obtain⟨⟨rfl,rfl⟩,rfl,rfl⟩:=h2;obtain⟨k1,k2,k3⟩:=ZDv h1;refine⟨by simp[k1],by simp[k2],fun q io hi=> ?_⟩;cases q with
    |zero=>simp at hi;subst hi;exact⟨d0,none,none,rfl,rfl,.look hf hr⟩
    |succ q=>
     obtain⟨d,x,s,w1,w2,w3⟩:=k3 q io (by simpa using hi);refine⟨d,x,s,by simpa using w1,by simpa using w2,?_⟩;simp only[ξU,Ya,JG,Zq,YD];rw[ZAB _ 1 0,show i+(q+1)=i+1+q by omega];exact w3
   rename_i hf;have hf:o.ex rs i=false:=by simp only[IOp.ex,ZTD];exact⟨by simpa using hf0,by simpa using hf⟩
   split at h
   ·rename_i hik;split at h
    ·rename_i r hr;obtain⟨⟨b,F',G'⟩,h1,h2⟩:=ZT h;obtain⟨b0,d0⟩:=r;simp at h2;obtain⟨⟨rfl,rfl⟩,rfl,rfl⟩:=h2;obtain⟨k1,k2,k3⟩:=ZDv h1;refine⟨by simp[k1],by simp[k2],fun q io hi=> ?_⟩;cases q with
     |zero=>simp at hi;subst hi;exact⟨d0,none,none,rfl,rfl,.read hf hik hr⟩
     |succ q=>
      obtain⟨d,x,s,w1,w2,w3⟩:=k3 q io (by simpa using hi);refine⟨d,x,s,by simpa using w1,by simpa using w2,?_⟩;simp only[ξU,Ya,JG,Zq,YD];rw[ZAB _ 1 0,show i+(q+1)=i+1+q by omega];exact w3
    ·split at h
     ·rename_i r hr;obtain⟨⟨b,F',G'⟩,h1,h2⟩:=ZT h;obtain⟨b0,d0⟩:=r;simp at h2;obtain⟨⟨rfl,rfl⟩,rfl,rfl⟩:=h2;obtain⟨k1,k2,k3⟩:=ZDv h1;refine⟨by simp[k1],by simp[k2],fun q io hi=> ?_⟩;cases q with
      |zero=>simp at hi;subst hi;exact⟨d0,none,none,rfl,rfl,.near hf hik (by simpa[YD,Zq,Ya]using hr)⟩
      |succ q=>
       obtain⟨d,x,s,w1,w2,w3⟩:=k3 q io (by simpa using hi);refine⟨d,x,s,by simpa using w1,by simpa using w2,?_⟩;simp only[ξU,Ya,JG,Zq,YD];rw[ZAB _ 1 0,show i+(q+1)=i+1+q by omega];exact w3
     ·obtain⟨⟨b0,d0,x0⟩,hr,h⟩:=Zv h;obtain⟨⟨b,F',G'⟩,h1,h2⟩:=ZT h;simp at h2;obtain⟨⟨rfl,rfl⟩,rfl,rfl⟩:=h2;obtain⟨k1,k2,k3⟩:=ZDv h1;refine⟨by simp[k1],by simp[k2],fun q io hi=> ?_⟩;cases q with
      |zero=>simp at hi;subst hi;exact⟨d0,some x0,none,rfl,rfl,.make hf hik hr⟩
      |succ q=>
       obtain⟨d,x,s,w1,w2,w3⟩:=k3 q io (by simpa using hi);refine⟨d,x,s,by simpa using w1,by simpa using w2,?_⟩;simp only[ξU,Ya,JG,Zq,YD];rw[ZAB _ 1 0,show i+(q+1)=i+1+q by omega,show id+(JG F' q+1)=id+1+JG F' q by omega];rw[Yk]at w3;exact w3
   ·rename_i hik;obtain⟨⟨b0,d0,s0⟩,hr,h⟩:=Zv h;obtain⟨⟨b,F',G'⟩,h1,h2⟩:=ZT h;simp at h2;obtain⟨⟨rfl,rfl⟩,rfl,rfl⟩:=h2;obtain⟨k1,k2,k3⟩:=ZDv h1;refine⟨by simp[k1],by simp[k2],fun q io hi=> ?_⟩;cases q with
    |zero=>simp at hi;subst hi;exact⟨d0,none,some s0,rfl,rfl,.turn hf (by omega) (by simpa[YD,Zq,Ya]using hr)⟩
    |succ q=>
     obtain⟨d,x,s,w1,w2,w3⟩:=k3 q io (by simpa using hi);refine⟨d,x,s,by simpa using w1,by simpa using w2,?_⟩;rw[ZGc (by omega) h1 q,Kg]at w3;simp only[ξU,Ya,JG,Zq,YD,if_true];rw[ZAB _ 1 0,show i+(q+1)=i+1+q by omega];exact w3
def aft(o:Oper):List Nat:=(o.after.toList.filter (Region.binds .any)).map (·.on)
def ZJ6(acc:List Nat):List Nat→Nat
 | []=>0
 |j::l=>(2^j|||acc.getD j 0)|||ZJ6 acc l
def ZAr:List Nat→List Oper→List Nat
 |acc,[]=>acc
 |acc,o::l=>ZAr (acc++ [ZJ6 acc (aft o)]) l
def ZOb:Nat→List Oper→Bool
 |_,[]=>true
 |i,o::l=>(aft o).all (fun j=>Nat.blt j i)&&ZOb (i+1) l
def ZOU(t:Nat):List IOp→Bool
 | []=>true
 |y::l=>(match y.dst with|some u=> !(Nat.beq t u)|none=>true)&&ZOU t l
def ZTb:List IOp→Bool
 | []=>true
 |x::l=>(match x.dst with|some t=>ZOU t l|none=>true)&&ZTb l
def ZPN(i:Nat)(rs af:List Nat):Nat→List (IOp×Oper)→Bool
 |_,[]=>true
 |j,(y,p)::l=>(match y.dst with|some u=> !(Zh u rs)||((Nat.blt j i&&Zh j af)||(Nat.blt i j&&Zh i (aft p)))|none=>true)&&ZPN i rs af (j+1) l
def rdB(all:List (IOp×Oper)):Nat→List (IOp×Oper)→Bool
 |_,[]=>true
 |i,(x,o)::l=>ZPN i x.reads (aft o) 0 all&&rdB all (i+1) l
def ZOY(k:Nat)(rs:List Nat):Nat→Nat→List Nat→List IOp→Bool
 |i,m,c::l,o::il=>(o.ex rs i||(Nat.blt i k||Nat.beq (Nat.land c m) m))&&ZOY k rs (i+1) (if o.ex rs i then m else m|||2^i) l il
 |_,_,_,_=>true
def ZDR(ops:List Oper)(il:List IOp)(k:Nat)(rs:List Nat):Bool:=
 ZOb 0 ops&&(ZTb il&&(rdB (il.zip ops) 0 (il.zip ops)&&ZOY k rs 0 0 (ZAr [] ops) il))
theorem ZAs{t:Nat}: ∀ {l:List Nat},Zh t l=true↔t∈l
 | []=>by simp[Zh]
 |u::l=>by simp[Zh,ZAs]
theorem ZL9: ∀ {l:List Oper} {i:Nat},ZOb i l=true→ ∀q o,l[q]? =some o→ ∀j∈aft o,j<i+q
 | [],_,_,q,o,h=>by simp at h
 |p::l,i,hb,q,o,h=>by
  simp only[ZOb,ZS]at hb;intro j hj;cases q with
  |zero=>simp at h;subst h;have:=YQ.1 hb.1 j hj;simpa[Nat.blt_eq]using this
  |succ q=>have:=ZL9 hb.2 q o (by simpa using h) j hj;omega
theorem ZH6{t:Nat}: ∀ {l:List IOp},ZOU t l=true→ ∀(j:Nat) (y:IOp),l[j]? =some y→y.dst≠some t
 | [],_,j,y,h=>by simp at h
 |z::l,hb,j,y,h=>by
  simp only[ZOU,ZS]at hb;cases j with
  |zero=>
   simp at h;subst h;intro he;rw[he]at hb;simp at hb
  |succ j=>exact ZH6 hb.2 j y (by simpa using h)
theorem ZNX: ∀ {l:List IOp},ZTb l=true→ ∀(i j:Nat) (x y:IOp) (t:Nat),l[i]? =some x→l[j]? =some y→x.dst=some t→y.dst=some t→i=j
 | [],_,i,j,x,y,t,h,_,_,_=>by simp at h
 |z::l,hb,i,j,x,y,t,hi,hj,hx,hy=>by
  simp only[ZTb,ZS]at hb;cases i with
  |zero=>
   cases j with
   |zero=>rfl
   |succ j=>
    simp at hi;subst hi;rw[hx]at hb;exact absurd hy (ZH6 hb.1 j y (by simpa using hj))
  |succ i=>
   cases j with
   |zero=>
    simp at hj;subst hj;rw[hy]at hb;exact absurd hx (ZH6 hb.1 i x (by simpa using hi))
   |succ j=>rw[ZNX hb.2 i j x y t (by simpa using hi) (by simpa using hj) hx hy]
theorem ZNU{i:Nat}{rs af:List Nat}: ∀ {l:List (IOp×Oper)} {j:Nat},ZPN i rs af j l=true→ ∀(q:Nat) (y:IOp) (p:Oper) (u:Nat),l[q]? =some (y,p)→y.dst=some u→u∈rs→(j+q<i∧j+q∈af)∨(i<j+q∧i∈aft p)
 | [],_,_,q,y,p,u,h,_,_=>by simp at h
 |(z,r)::l,j,hb,q,y,p,u,h,hy,hu=>by
  simp only[ZPN,ZS]at hb;cases q with
  |zero=>
   simp at h;obtain⟨rfl,rfl⟩:=h;rw[hy]at hb;simp only[ZEg,ZHg,ZS,Nat.blt_eq,ZAs]at hb;rcases hb.1 with h|h
   ·have:=ZAs.2 hu;rw[h]at this;cases this
   ·simpa using h
  |succ q=>
   have:=ZNU hb.2 q y p u (by simpa using h) hy hu;rw[show j+(q+1)=j+1+q by omega];exact this
theorem ZPG{all:List (IOp×Oper)}: ∀ {l:List (IOp×Oper)} {i:Nat},rdB all i l=true→ ∀(q:Nat) (x:IOp) (o:Oper),l[q]? =some (x,o)→ZPN (i+q) x.reads (aft o) 0 all=true
 | [],_,_,q,x,o,h=>by simp at h
 |(z,r)::l,i,hb,q,x,o,h=>by
  simp only[rdB,ZS]at hb;cases q with
  |zero=>simp at h;obtain⟨rfl,rfl⟩:=h;exact hb.1
  |succ q=>have:=ZPG hb.2 q x o (by simpa using h);rw[show i+(q+1)=i+1+q by omega];exact this
theorem ZMH{k:Nat}{rs:List Nat}: ∀ {l:List Nat} {il:List IOp} {i m:Nat},ZOY k rs i m l il=true→ ∀(q c:Nat) (o:IOp),l[q]? =some c→il[q]? =some o→o.ex rs (i+q)=false→k≤i+q→
  (∀t,m.testBit t=true→c.testBit t=true)∧ ∀(j:Nat) (y:IOp),j<q→il[j]? =some y→y.ex rs (i+j)=false→c.testBit (i+j)=true
 | [],_,_,_,_,q,c,o,h,_,_,_=>by simp at h
 |_::_,[],_,_,_,q,c,o,_,h,_,_=>by simp at h
 |z::l,x::il,i,m,hb,q,c,o,h,ho,hf,hk=>by
  simp only[ZOY,ZS]at hb;cases q with
  |zero=>
   simp at h ho;subst h;subst ho;have hik:Nat.blt i k=false:=by
    cases hb':Nat.blt i k with
    |false=>rfl
    |true=>rw[Nat.blt_eq]at hb';omega
   rw[Jw]at hf;rw[hf,hik]at hb;simp only[ZPx,Nat.beq_eq]at hb;refine⟨fun t ht=> ?_,fun j y hj=>by omega⟩;have:(Nat.land z m).testBit t=true:=by rw[hb.1];exact ht
   have h2:(z&&&m).testBit t=true:=this;rw[Nat.testBit_and,ZS]at h2;exact h2.1
  |succ q=>
   obtain⟨h1,h2⟩:=ZMH hb.2 q c o (by simpa using h) (by simpa using ho) (by rw[show i+1+q=i+(q+1) by omega];exact hf) (by omega);have hsub: ∀t,m.testBit t=true→c.testBit t=true:=fun t ht=>h1 t (by
    split
    ·exact ht
    ·rw[Nat.testBit_or,ht];rfl)
   refine⟨hsub,fun j y hj hy hyf=> ?_⟩;cases j with
   |zero=>
    simp at hy;subst hy;rw[Jw]at hyf⊢;refine h1 i ?_;rw[hyf];simp[Nat.testBit_or]
   |succ j=>
    have:=h2 j y (by omega) (by simpa using hy) (by rw[show i+1+j=i+(j+1) by omega];exact hyf);rw[show i+(j+1)=i+1+j by omega];exact this
theorem ZNa{acc:List Nat}{q:Nat}: ∀ {l:List Nat},(ZJ6 acc l).testBit q=true→ ∃j∈l,q=j∨(acc.getD j 0).testBit q=true
 | [],h=>by simp[ZJ6]at h
 |j::l,h=>by
  simp only[ZJ6,Nat.testBit_or,ZEg,Nat.testBit_two_pow,Zi]at h;rcases h with(h|h)|h
  ·exact⟨j,by simp,.inl h.symm⟩
  ·exact⟨j,by simp,.inr h⟩
  ·obtain⟨j',h1,h2⟩:=ZNa h;exact⟨j',by simp[h1],h2⟩
def ZLP(ops:List Oper)(dn:Nat→Bool):Prop:= ∀(i:Nat) (o:Oper),ops[i]? =some o→dn i=true→ ∀j∈aft o,dn j=true
theorem ZN4: ∀(l pre:List Oper) (acc:List Nat),acc.length=pre.length→(∀(i:Nat) (c:Nat),acc[i]? =some c→ ∀dn:Nat→Bool,ZLP (pre++l) dn→((pre++l)[i]?).any (fun o=>(aft o).all dn)=true→ ∀j,c.testBit j=true→dn j=true)→
  (∀(i:Nat) (o:Oper),(pre++l)[i]? =some o→ ∀j∈aft o,j<i)→
  (ZAr acc l).length=(pre++l).length∧ ∀(i:Nat) (c:Nat),(ZAr acc l)[i]? =some c→ ∀dn:Nat→Bool,ZLP (pre++l) dn→((pre++l)[i]?).any (fun o=>(aft o).all dn)=true→ ∀j,c.testBit j=true→dn j=true
 | [],pre,acc,hl,h,_=>⟨by simpa[ZAr]using hl,by simpa[ZAr]using h⟩
 |o::l,pre,acc,hl,h,hb=>by
  have e:pre++o::l=(pre++ [o])++l:=by simp
  have:=ZN4 l (pre++ [o]) (acc++ [ZJ6 acc (aft o)]) (by simp[hl]) (by
   rw[←e];intro i c hc dn hcl hd j hj;by_cases hi:i<acc.length
   ·rw[YR hi]at hc;exact h i c hc dn hcl hd j hj
   ·have hlt:=(ZR hc).1;simp at hlt;have hi':i=acc.length:=by omega
    subst hi';rw[Ki (Zl _)]at hc;simp at hc;subst hc;have ho:(pre++o::l)[acc.length]? =some o:=by rw[hl,Ki (Zl _)];simp
    rw[ho]at hd;simp only[Option.any_some]at hd;have hall:=YQ.1 hd;obtain⟨m,hm,hj⟩:=ZNa hj;have hmd:=hall m hm;rcases hj with rfl|hj
    ·exact hmd
    ·have hml:=hb _ o ho m hm;have hma:acc[m]? =some (acc[m]'hml):=Zu hml;have hmo: ∃om,(pre++o::l)[m]? =some om:=⟨_,Zu (by simp;omega)⟩;obtain⟨om,hom⟩:=hmo;simp only[List.getD,hma,Qe]at hj;refine h m _ hma dn hcl ?_ j hj;rw[hom];simp only[Option.any_some];exact YQ.2 (fun q hq=>hcl m om hom hmd q hq)) (by rw[←e];exact hb)
  rw[←e]at this;exact this
open Go Go.RowKit Go.Bo
def ZCT(kp:List Nat)(φ:List (Nat×D))(o:IOp):Bool:=match o.g,o.e with
 |none,.ld _ _ x=>(match(ZC φ x).val with| .ptr _ _=>true| .vptr _=>true| .eptr id _ _ _=>Zh id kp|_=>false)
 |_,_=>false
def JO:List Ob→List Ob→Bool
 | [],_=>true
 | .box ds::l,y::l'=>Ob.beq (.box ds) y&&JO l l'
 |_::l,_::l'=>JO l l'
 |_::_,[]=>false
theorem ZIx: ∀ {a b:List Ob},JO a b=true→ ∀(id:Nat) (ds:List D),a[id]? =some (.box ds)→b[id]? =some (.box ds)
 | [],b,_,id,ds,h=>by simp at h
 |x::l,[],hb,id,ds,h=>by cases x<;>simp[JO]at hb
 |x::l,y::l',hb,id,ds,h=>by
  cases id with
  |zero=>
   simp only[ZBW,Ze]at h⊢;subst h;simp only[JO,ZS]at hb;exact(Ob.beq_eq hb.1).symm
  |succ id=>
   simp only[ZBe]at h⊢;have:JO l l'=true:=by
    cases x with
    |box d=>simp only[JO,ZS]at hb;exact hb.2
    |_=>simpa only[JO]using hb
   exact ZIx this id ds h
def ZIt(a b:List Ob)(i:Nat):Bool:=match a[i]?,b[i]? with
 |some x,some y=>Ob.beq x y
 |_,_=>false
theorem ZQt{a b:List Ob}{i:Nat}(h:ZIt a b i=true){o:Ob}(ho:a[i]? =some o):b[i]? =some o:=by
 unfold ZIt at h;rw[ho]at h;cases hb:b[i]? with
 |none=>rw[hb]at h;cases h
 |some y=>rw[hb]at h;rw[Ob.beq_eq h]
def ZJz:List Nat→List Ob→List Ob→Bool
 | [],_,_=>true
 |i::l,a,b=>ZIt a b i&&ZJz l a b
theorem ZL1{a b:List Ob}: ∀ {l:List Nat},ZJz l a b=true→ ∀i,Zh i l=true→ ∀o,a[i]? =some o→b[i]? =some o
 | [],_,i,hi,_,_=>by cases hi
 |j::l,h,i,hi,o,ho=>by
  simp only[ZJz,ZS]at h;simp only[Zh,ZEg]at hi;rcases hi with hi|hi
  ·rw[ZTL hi]at ho⊢;exact ZQt h.1 ho
  ·exact ZL1 h.2 i hi o ho
def ZCE(kp:List Nat)(a b:List Ob):Bool:=JO a b&&ZJz kp a b
theorem ZKP{kp:List Nat}{a b:List Ob}(h:ZCE kp a b=true):(∀(id:Nat) (ds:List D),a[id]? =some (.box ds)→b[id]? =some (.box ds))∧ ∀i,Zh i kp=true→ ∀o,a[i]? =some o→b[i]? =some o:=by
 simp only[ZCE,ZS]at h;exact⟨ZIx h.1,ZL1 h.2⟩
def ZDq(kp:List Nat)(os:List Ob):List (Option (List Ob))→Bool
 | []=>true
 |none::l=>ZDq kp os l
 |some x::l=>ZCE kp os x&&ZDq kp os l
theorem ZGG{kp:List Nat}{os:List Ob}: ∀ {G:List (Option (List Ob))},ZDq kp os G=true→ ∀(j:Nat) (x:List Ob),G[j]? =some (some x)→ZCE kp os x=true
 | [],_,j,x,h=>by simp at h
 |none::l,hb,j,x,h=>by
  cases j with
  |zero=>simp at h
  |succ j=>exact ZGG (G:=l) hb j x (by simpa using h)
 |some y::l,hb,j,x,h=>by
  simp only[ZDq,ZS]at hb;cases j with
  |zero=>simp at h;subst h;exact hb.1
  |succ j=>exact ZGG hb.2 j x (by simpa using h)
theorem ZGD{id:Nat}{o:Ob}: ∀ {G:List (Option (List Ob))} (dn:Nat→Bool) (i:Nat) (b:List Ob),(∀(j:Nat) (x:List Ob),G[j]? =some (some x)→x[id]? =some o)→b[id]? =some o→(Zq G dn i b)[id]? =some o
 | [],_,_,b,_,h=>h
 |none::l,dn,i,b,hG,h=>by simp only[Zq];exact ZGD dn (i+1) b (fun j x hj=>hG (j+1) x (by simpa using hj)) h
 |some y::l,dn,i,b,hG,h=>by
  simp only[Zq];refine ZGD dn (i+1) _ (fun j x hj=>hG (j+1) x (by simpa using hj)) ?_;split
  ·exact hG 0 y rfl
  ·exact h
def bxR(kp:List Nat)(rs:List Nat):Nat→List (Nat×D)→List Rec→List IOp→Bool
 |i,φ,r::F,o::l=>(!Zh i rs||ZCT kp φ o)&&bxR kp rs (i+1) (putO φ r.1 r.2.1) F l
 |_,_,_,_=>true
theorem ZV7{kp rs:List Nat}: ∀ {l:List IOp} {F:List Rec} {i:Nat} {φ:List (Nat×D)},bxR kp rs i φ F l=true→ ∀(q:Nat) (io:IOp),l[q]? =some io→q<F.length→Zh (i+q) rs=true→ZCT kp (Ya φ (F.take q)) io=true
 | [],F,i,φ,_,q,io,h,_,_=>by simp at h
 |o::l,[],i,φ,_,q,io,_,h,_=>by simp at h
 |o::l,r::F,i,φ,hb,q,io,h,hq,hm=>by
  simp only[bxR,ZS]at hb;cases q with
  |zero=>
   simp at h;subst h;have:=hb.1;rw[Jw]at hm;simpa[hm,Ya]using this
  |succ q=>
   have:=ZV7 hb.2 q io (by simpa using h) (by simpa using hq) (by rw[show i+1+q=i+(q+1) by omega];exact hm);simpa[Ya]using this
theorem Zao{kp:List Nat}{S:Tabs}{φ:List (Nat×D)}{os0 os1:List Ob}{o:IOp}{r:Bool×D}(hb:ZCT kp φ o=true)(h:Yo S φ os0 o=some r)(hx: ∀(id:Nat) (ds:List D),os0[id]? =some (.box ds)→os1[id]? =some (.box ds))(hx2: ∀i,Zh i kp=true→ ∀o,os0[i]? =some o→os1[i]? =some o):Yo S φ os1 o=some r:=by
 unfold ZCT at hb;split at hb
 ·rename_i n ag x hg he;simp only[Yo,hg,he,KP]at h⊢;split at hb
  ·rename_i id off hv;have key:ZM S.q φ os0 (.ld n ag x)=ZM S.q φ os1 (.ld n ag x)∨ZM S.q φ os0 (.ld n ag x)=none:=by
    simp only[ZM,hv];cases h0:os0[id]? with
    |none=>exact .inr rfl
    |some ob=>
     cases ob with
     |box ds=>rw[hx id ds h0];exact .inl rfl
     |_=>exact .inr rfl
   rcases key with key|key
   ·rw[←key];cases hq:ZM S.q φ os0 (.ld n ag x)with
    |some q=>rw[hq]at h;exact h
    |none=>rw[hq]at h;simp only[ZB1]at h;cases h
   ·rw[key]at h;simp only[ZB1]at h;cases h
  ·rename_i cs hv;have key:ZM S.q φ os0 (.ld n ag x)=ZM S.q φ os1 (.ld n ag x):=by simp only[ZM,hv]
   rw[←key];cases hq:ZM S.q φ os0 (.ld n ag x)with
   |some q=>rw[hq]at h;exact h
   |none=>rw[hq]at h;simp only[ZB1]at h;cases h
  ·rename_i id e1 i1 o1 hv;have key:ZM S.q φ os0 (.ld n ag x)=ZM S.q φ os1 (.ld n ag x)∨ZM S.q φ os0 (.ld n ag x)=none:=by
    simp only[ZM,hv];cases h0:os0[id]? with
    |none=>exact .inr rfl
    |some ob=>rw[hx2 id hb ob h0];exact .inl rfl
   rcases key with key|key
   ·rw[←key];cases hq:ZM S.q φ os0 (.ld n ag x)with
    |some q=>rw[hq]at h;exact h
    |none=>rw[hq]at h;simp only[ZB1]at h;cases h
   ·rw[key]at h;simp only[ZB1]at h;cases h
  ·cases hb
 ·cases hb
def ZLh(m:Option (List Nat))(rs:List Nat)(φ:List (Nat×D))(os:List Ob)(l:List IOp)(F:List Rec)(G:List (Option (List Ob))):Bool:=match m with
 |none=>ZK7 rs os G
 |some kp=>bxR kp rs 0 φ F l&&ZDq kp os G
def ZGW(m:Option (List Nat))(S:Tabs)(φ:List (Nat×D))(os:List Ob)(k:Nat)(rs:List Nat)(l:List IOp):Option (Bool×List (Nat×D)×List Ob):=
 (Jj S os k rs 0 φ os.length os l).map fun q=>(q.1&&ZLh m rs φ os l q.2.1 q.2.2,Ya φ q.2.1,Zq q.2.2 (fun _=>true) 0 (os++YD q.2.1))
end Go.Ab
end
