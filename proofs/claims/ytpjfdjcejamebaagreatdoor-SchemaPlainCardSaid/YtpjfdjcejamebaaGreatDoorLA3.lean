import Derived.Test.YtpjfdjcejamebaaGreatDoorLA2
import Derived.Orders
set_option linter.unusedSimpArgs false
set_option linter.unusedVariables false
section
namespace Go.Ab
open Go.RowKit Go.Bo
section
variable {P:Program} {E:Env} {os:List Ob} {c:Ctx} {n:Nat} {φ:List (Nat×D)} {a:Act}
theorem ZYC (R:Rel c E os) {d:D} {v:Value} (hv:V E os d v) {src:List (List X)} {sz:Nat} (hr:ZB1 os sz d=some src) (hz: ∀r∈src,r.length=sz):
  ∃news:List Value,news.length=src.length*sz∧(∀k,k≤src.length→(Builtin.firstCells sz k v).run P E.w= .ok (news.take (k*sz)).toArray E.w)∧(Builtin.lenOf v).run P E.w= .ok src.length E.w∧
   (∀u∈news,u.oneCell'=true)∧ ∀(i:Nat) (r:List X) (j:Nat) (x:X),src[i]? =some r→r[j]? =some x→ ∃u,news[i*sz+j]? =some u∧VX E.w E.st x u:=by
 have base:Zq os d=some src→ ∃news:List Value,news.length=src.length*sz∧(∀k,k≤src.length→(Builtin.firstCells sz k v).run P E.w= .ok (news.take (k*sz)).toArray E.w)∧(Builtin.lenOf v).run P E.w= .ok src.length E.w∧
   (∀u∈news,u.oneCell'=true)∧ ∀(i:Nat) (r:List X) (j:Nat) (x:X),src[i]? =some r→r[j]? =some x→ ∃u,news[i*sz+j]? =some u∧VX E.w E.st x u:=by
  intro hr;obtain⟨ad,cp,news,rfl,q2,q3,q4,q5,q6,q7,q8⟩:=QL R hv hr hz;refine⟨news,q4,fun k hks=> ?_,by simp[Builtin.lenOf],q7,q8⟩;cases ad with
  |none=>
   have h0:=q5 rfl;have:k=0:=by omega
   subst this;simp[Builtin.firstCells]
  |some ad=>
   refine run_firstCells_some (P:=P) E.w sz k ad src.length cp _ ?_ (fun j u hu=> ?_)
   ·rw[List.length_take,q4];have:k*sz≤src.length*sz:=Nat.mul_le_mul_right _ hks;omega
   ·have hj:=(Za hu).1;rw[List.length_take]at hj;rw[List.getElem?_take,if_pos (by omega)]at hu;exact q6 ad rfl j u hu
 unfold ZB1 at hr;split at hr
 ·rename_i s;split at hr
  ·rename_i h1;subst h1;cases hr;cases hv with
   |x hx=>
    cases hx;refine⟨s.map fun b=> .int .u8 b.toNat,by simp,fun k hk=> ?_,?_,?_,?_⟩
    ·have:(ByteArray.extract (ZZ s) 0 k).data.map (fun b=>Value.int .u8 b.toNat)=((s.map fun b=>Value.int .u8 b.toNat).take (k*1)).toArray:=by
      apply Array.toList_inj.1;simp[ZZ,ByteArray.data_extract,List.map_take]
     show(pure _:Sem _).run P E.w=_;rw[this];rfl
    ·simp[Builtin.lenOf,KG]
    ·intro u hu;obtain⟨b,_,rfl⟩:=List.mem_map.1 hu;rfl
    ·intro i r j x h1 h2;rw[YC]at h1;obtain⟨b,hb,rfl⟩:=Zd h1;cases j with
     |zero=>
      simp[Zk]at h2;subst h2;exact⟨.int .u8 b.toNat,by simp[hb],.int _ _⟩
     |succ j=>simp[Zk]at h2
  ·cases hr
 ·exact base hr
theorem Zdb (R:Rel c E os) {t u ty e sz:Nat} (ht:P.underlying t=some (.slice e)) (hs:JV P e=some sz) {id ext off len:Nat} {fz:Bool} {el:Nat} {rs:List (List X)} {vx:Value} (hx:V E os (.ref id ext off len) vx) (ho:os[id]? =some (.rows fz el sz rs)) (hext:rs.length=ext)
  {y:D} {vy:Value} (hy:V E os y vy) {src:List (List X)} (hr:ZB1 os sz y=some src) (hrl: ∀r∈src,r.length=sz):
  ∃E',(Builtin.copy_ #[t,u] ty #[vx,vy]).run P E.w= .ok (.int .i64 (min src.length len:Nat)) E'.w∧Rel c E' (os.set id (.rows fz el sz (rs.take off++src.take (min src.length len)++rs.drop (off+min src.length len))))∧Evo E os E' (os.set id (.rows fz el sz (rs.take off++src.take (min src.length len)++rs.drop (off+min src.length len)))):=by
 obtain⟨news,q4,qf,ql,q7,q8⟩:=ZYC (P:=P) R hy hr hrl;obtain⟨p,hp,hok⟩:=R.at ho;have hok':=hok;obtain⟨xs,k1,k2,k3⟩:=hok';have hlt:=(Za ho).1;obtain⟨h1,h2⟩:=hx.ref_inv.at ho rfl;obtain⟨h3,b,a0,cap,a',cap',h4,h5,h6,h7,h8,h9,h10,h11⟩:=h2 hext;rw[hp]at h4;have h4:=Option.some.inj h4;subst h5;generalize hk:min src.length len=k at*;have hkl:k≤len:=by omega
 have hks:k≤src.length:=by omega
 have hfirst:(Builtin.firstCells sz k vy).run P E.w= .ok (news.take (k*sz)).toArray E.w:=qf k hks;have hmin:Nat.min src.length len=k:=hk;by_cases hk0:k=0
 ·subst hk0;have hset:os.set id (.rows fz el sz (rs.take off++src.take 0++rs.drop (off+0)))=os:=by
   rw[List.take_zero,List.append_nil,Nat.add_zero,List.take_append_drop];apply List.ext_getElem?;intro j;rw[List.getElem?_set];by_cases hj:id=j
   ·subst hj;rw[if_pos rfl,ho];simp[hlt]
   ·simp[hj]
  rw[hset];refine⟨E,?_,R,Evo.refl _ _⟩;rw[Nat.zero_mul,List.take_zero]at hfirst;cases a'<;>simp[Builtin.copy_,run_underlying ht,ql,hmin,Jd hs,hfirst,storeCells,goInt]
 ·have hpos:0<len:=by omega
  obtain⟨w1,w2,w3,w4,w5,w8⟩:=OK.cap (os:=os) (o:= .rows fz el sz rs) hok (sz:=sz) (rs:=rs) rfl (by rw[h4]);cases a0 with
  |none=>have:=(w5 rfl).1;omega
  |some ad0=>
  have ha':=h9 hpos ad0 rfl;have h0:=w8 ad0 rfl;have h00:ad0.off=0:=by rw[h0]
  subst ha';rw[h00,Nat.zero_add]at*;have hvs:(news.take (k*sz)).length=k*sz:=by
   rw[List.length_take,q4];have:k*sz≤src.length*sz:=Nat.mul_le_mul_right _ hks;omega
  have htot:(off+k)*sz≤rs.length*sz:=Nat.mul_le_mul_right _ (by omega);rw[Nat.add_mul]at htot;have hlen2:(src.take k).length=k:=by simp;omega
  have hget: ∀i,(rs.take off++src.take k++rs.drop (off+k))[i]? =if i<off then rs[i]? else if i<off+k then src[i-off]? else rs[i]? :=fun i=>by
   have:=ZAB rs (src.take k) off i (by omega);rw[hlen2]at this;rw[this];by_cases h:i<off
   ·simp[h]
   ·by_cases h':i<off+k
    ·simp only[h,h',if_true,if_false];rw[List.getElem?_take,if_pos (by omega)]
    ·simp[h,h']
  obtain⟨E',e1,e2,e3⟩:=ZLe (P:=P) R ho hp (g:=ad0.block) (cap:=cap) (by rw[h4];simp only;rw[hext,←h0]) (off*sz) (news.take (k*sz)) (fun u hu=>q7 u (List.mem_of_mem_take hu)) (by omega) (rs':=rs.take off++src.take k++rs.drop (off+k)) (by simp;omega) (fun r hr=>by
    rcases List.mem_append.1 hr with h|h
    ·rcases List.mem_append.1 h with h|h
     ·exact k2 r (List.mem_of_mem_take h)
     ·exact hrl r (List.mem_of_mem_take h)
    ·exact k2 r (List.mem_of_mem_drop h))
   (fun i r j x hr' hx' hj=>by
    rw[hget]at hr';rw[hvs]at hj;have hjs:j<sz:=by
     have:r.length=sz:=by
      split at hr'
      ·exact k2 r (List.mem_of_getElem? hr')
      ·split at hr'
       ·exact hrl r (List.mem_of_getElem? hr')
       ·exact k2 r (List.mem_of_getElem? hr')
     rw[←this];exact(Za hx').1
    split at hr'
    ·exact⟨r,hr',hx'⟩
    ·split at hr'
     ·exfalso;have g1:off*sz≤i*sz:=Nat.mul_le_mul_right _ (by omega);have g2:(i+1)*sz≤(off+k)*sz:=Nat.mul_le_mul_right _ (by omega);rw[Nat.add_mul,Nat.add_mul]at g2;omega
     ·exact⟨r,hr',hx'⟩)
   (fun i r j x u hr' hx' hj1 hj2 hu=>by
    rw[hget]at hr';rw[hvs]at hj2;have hjs:j<sz:=by
     have:r.length=sz:=by
      split at hr'
      ·exact k2 r (List.mem_of_getElem? hr')
      ·split at hr'
       ·exact hrl r (List.mem_of_getElem? hr')
       ·exact k2 r (List.mem_of_getElem? hr')
     rw[←this];exact(Za hx').1
    have hi1: ¬i<off:=fun h=>by
     have:(i+1)*sz≤off*sz:=Nat.mul_le_mul_right _ h;rw[Nat.add_mul]at this;omega
    have hi2:i<off+k:=by
     rcases Nat.lt_or_ge i (off+k)with h|h
     ·exact h
     ·have:(off+k)*sz≤i*sz:=Nat.mul_le_mul_right _ h;rw[Nat.add_mul]at this;omega
    rw[if_neg hi1,if_pos hi2]at hr';obtain⟨u',g1,g2⟩:=q8 _ r j x hr' hx';rw[List.getElem?_take,if_pos (by omega)]at hu;have e:i*sz+j-off*sz=(i-off)*sz+j:=by
     rw[Nat.sub_mul];have:off*sz≤i*sz:=Nat.mul_le_mul_right _ (by omega);omega
    rw[e,g1]at hu;cases hu;exact g2)
  refine⟨E',?_,e2,e3⟩;simp[Builtin.copy_,run_underlying ht,ql,hmin,Jd hs,hfirst,e1,goInt]
theorem JC {o:Oper} {d:D} {os':List Ob} {s:Sem Value} (h:execOp a.eval o=(do pure (Next.value (←s)))) (hr: ∃v E',s.run P E.w= .ok v E'.w∧Rel c E' os'∧Evo E os E' os'∧V E' os' d v):ZXq P c E os o a d os':=by
 obtain⟨v,E',h1,h2,h3,h4⟩:=hr;exact⟨_,E',ZGh h h1,h2,h3,.value h4⟩
theorem ZEF: ∀ {i:Nat} {parts:List (Nat×Operand)} {ys:List IO},ZEv i parts=some ys→(parts.map (·.2)).mapM ZT=some ys∧parts.map (·.1)=List.range' i parts.length
 |i,[],ys,h=>by cases h;exact⟨rfl,rfl⟩
 |i,(j,x)::l,ys,h=>by
  simp only[ZEv]at h;split at h
  ·rename_i hj;simp only[Option.bind_eq_bind,Yk]at h;obtain⟨y,hy,r,hr,h⟩:=h;cases h;obtain⟨h1,h2⟩:=ZEF hr;subst hj;refine⟨?_,?_⟩
   ·simp[List.mapM_cons,hy,h1]
   ·simp[List.range'_succ,h2]
  ·cases h
theorem ZH6 (f:Operand→Value): ∀(l:List (Nat×Operand)) (i:Nat),l.map (·.1)=List.range' i l.length→l.map (fun p=>(p.1,f p.2))=(((l.map (·.2)).map f).zipIdx i).map fun p=>(p.2,p.1)
 | [],i,h=>rfl
 |(j,x)::l,i,h=>by
  simp[List.range'_succ]at h;obtain⟨rfl,h⟩:=h;simp only[List.map_cons,List.zipIdx_cons];rw[ZH6 f l (j+1) h]
def IE.isAct:IE→Bool
 | .box _| .sto _ _ _| .bsl _ _ _ _| .mks _ _ _ _ _ _| .app _ _ _ _ _| .apz _ _ _ _ _ _| .cpy _ _ _| .s2b _ _| .abx _ _| .asl _ _ _| .mkm _ _| .mup _ _ _ _| .mdl _ _ _| .men _ _ _ _| .est _ _ _| .mcl _| .rgm _| .rgs _=>true
 |_=>false
def NA (x:Option IE):Prop:= ∀e,x=some e→e.isAct=false
theorem NA.none:NA none:=fun e h=>by cases h
theorem NA.some {e:IE} (h:e.isAct=false):NA (some e):=fun e' h'=>by cases h';exact h
theorem NA.bind {α:Type} {x:Option α} {f:α→Option IE} (h: ∀y,NA (f y)):NA (x.bind f):=fun e he=>by
 obtain⟨y,_,h2⟩:=Zr he;exact h y e h2
theorem NA.bind' {α:Type} {x:Option α} {f:α→Option IE} (h: ∀y,NA (f y)):NA (x>>=f):=NA.bind h
theorem NA.map {α:Type} {x:Option α} {f:α→IE} (h: ∀y,(f y).isAct=false):NA (x.map f):=fun e he=>by
 obtain⟨y,_,rfl⟩:=Zd he;exact h y
theorem ZYm {e:IE} {r:Bool×D×List Ob} (h:Zy φ os e=some r):e.isAct=true:=by
 cases e<;>first|rfl|(simp[Zy]at h)
theorem Zcp (R:Rel c E os) (dk:KK) (hd: ∀a b,dk≠ .st a b) (ag:Bool) (t:Nat):
  ∃v E',(Instr.makeMap t none).run P E.w= .ok v E'.w∧Rel c E' (os++ [.mpo dk ag []])∧Evo E os E' (os++ [.mpo dk ag []])∧V E' (os++ [.mpo dk ag []]) (.mref os.length) v:=by
 obtain⟨R',ev⟩:=R.push (E.w.alloc (.map #[] 0)) (.mpo dk ag []) (E.w.heap.size,undef) (JU _ _) (fun b hb=>by cases hb;exact Nat.le_refl _) (fun _=>Zz.new _ _ E.w rfl dk hd ag);refine⟨.map (some E.w.heap.size),_,?_,R',ev,.mref (dk:=dk) (ag:=ag) (o:= .mpo dk ag []) (cu:=undef) (by simp) rfl (by show(E.ob++ [_])[os.length]? =_;rw[←R.len];simp)⟩;rfl
theorem ZFF (R:Rel c E os) {id:Nat} {o:Ob} (ho:os[id]? =some o) {dk:KK} {ag:Bool} {l:List Pr} (hu:o.upd? =some (dk,ag,l)) {p:Nat×Value} (hp:E.ob[id]? =some p) {w':World} (hO:Only p.1 E.w w') {o':Ob} {l':List Pr} (hu':o'.upd? =some (dk,ag,l'))
  (hok:Evo E os ⟨w',E.st,E.ob.set id p⟩ (os.set id o')→OK ⟨w',E.st,E.ob.set id p⟩ (os.set id o') o' p):
  Rel c ⟨w',E.st,E.ob.set id p⟩ (os.set id o')∧Evo E os ⟨w',E.st,E.ob.set id p⟩ (os.set id o'):=by
 obtain⟨_,k2,k3,k4⟩:=Ob.upd_spec hu;obtain⟨_,k2',k3',k4'⟩:=Ob.upd_spec hu';exact R.set ho hp w' o' p ⟨hO.os,hO.tape,hO.output,by rw[hO.size];exact Nat.le_refl _,fun k _ hm=>hO.block k (fun e=>hm ((k4 p k).2 e.symm))⟩ (fun b hb=> .inl ((k4 p b).2 ((k4' p b).1 hb))) (fun sz rs h=>by rw[k3]at h;cases h) (fun k h=>⟨rfl,by rw[k2]at h;rw[k2'];exact h⟩) hok
theorem ZVT (R:Rel c E os) {id:Nat} {o:Ob} (ho:os[id]? =some o) {dk:KK} {ag:Bool} {l:List Pr} (huo:o.upd? =some (dk,ag,l)) {vm:Value} (hm:V E os (.mref id) vm) {key:List X} {kd:D} {kv:Value} (hk:Jp dk kd=some key) (hv:V E os kd kv) {u:Value} {xs:List D} (hu:VC E os ag xs u)
  {T kt elem:TypeId} (hT:P.underlying T=some (.map kt elem)) (hd:P.underlying kt=some (kkD dk)):
  ∃E',(Instr.mapUpdate T vm kv u).run P E.w= .ok () E'.w∧Rel c E' (os.set id (.mpo dk ag (Yf l key xs)))∧Evo E os E' (os.set id (.mpo dk ag (Yf l key xs))):=by
 cases hm with
 |mref ho' hk' hb=>
  obtain⟨p,hp,hok⟩:=R.at ho;rw[hp]at hb;cases hb;obtain⟨w',g1,g2,g3⟩:=Zz.up (P:=P) (hok.map (Ob.upd_spec huo).1) hk hv hT hd hu;obtain⟨R',ev⟩:=ZFF R ho huo hp g2 (o':= .mpo dk ag (Yf l key xs)) rfl (fun ev=>g3 _ _ rfl ev);exact⟨_,g1,R',ev⟩
theorem ZdS (R:Rel c E os) {id:Nat} {o:Ob} (ho:os[id]? =some o) {dk:KK} {ag:Bool} {l:List Pr} (huo:o.upd? =some (dk,ag,l)) {vm:Value} (hm:V E os (.mref id) vm) {key:List X} {kd:D} {kv:Value} (hk:Jp dk kd=some key) (hv:V E os kd kv)
  {T kt elem:TypeId} (hT:P.underlying T=some (.map kt elem)) (hd:P.underlying kt=some (kkD dk)) (ty ts:TypeId):
  ∃v E',(Builtin.delete_ #[T,ts] ty #[vm,kv]).run P E.w= .ok v E'.w∧Rel c E' (os.set id (.mpo dk ag (ZCo l key)))∧Evo E os E' (os.set id (.mpo dk ag (ZCo l key)))∧V E' (os.set id (.mpo dk ag (ZCo l key))) (.tup []) v:=by
 cases hm with
 |mref ho' hk' hb=>
  obtain⟨p,hp,hok⟩:=R.at ho;rw[hp]at hb;cases hb;obtain⟨w',g1,g2,g3⟩:=Zz.del (P:=P) (hok.map (Ob.upd_spec huo).1) hk hv hT hd ty ts;obtain⟨R',ev⟩:=ZFF R ho huo hp g2 (o':= .mpo dk ag (ZCo l key)) rfl (fun ev=>g3 _ _ rfl ev);exact⟨_,_,g1,R',ev,.tup #[] rfl (fun j d v h=>by simp at h)⟩
theorem Zc6 (R:Rel c E os) {id:Nat} {o:Ob} (ho:os[id]? =some o) {dk:KK} {ag:Bool} {l:List Pr} (huo:o.upd? =some (dk,ag,l)) {vm:Value} (hm:V E os (.mref id) vm)
  {T kt elem:TypeId} (hT:P.underlying T=some (.map kt elem)) (ty:TypeId):
  ∃v E',(Builtin.clear_ #[T] ty #[vm]).run P E.w= .ok v E'.w∧Rel c E' (os.set id (.mpo dk ag []))∧Evo E os E' (os.set id (.mpo dk ag []))∧V E' (os.set id (.mpo dk ag [])) (.tup []) v:=by
 cases hm with
 |mref ho' hk' hb=>
  obtain⟨p,hp,hok⟩:=R.at ho;rw[hp]at hb;cases hb;obtain⟨w',g1,g2,g3⟩:=Zz.clear (P:=P) (hok.map (Ob.upd_spec huo).1) hT ty;obtain⟨R',ev⟩:=ZFF R ho huo hp g2 (o':= .mpo dk ag []) rfl (fun ev=>g3 _ _ rfl);exact⟨_,_,g1,R',ev,.tup #[] rfl (fun j d v h=>by simp at h)⟩
theorem Zcb (R:Rel c E os) {id:Nat} {o:Ob} (ho:os[id]? =some o) {dk:KK} {ag:Bool} {l:List Pr} (huo:o.upd? =some (dk,ag,l)) {vm:Value} (hm:V E os (.mref id) vm) {key:List X} {kd:D} {kv:Value} (hk:Jp dk kd=some key) (hv:V E os kd kv)
  {T kt elem:TypeId} (hT:P.underlying T=some (.map kt elem)) (hd:P.underlying kt=some (kkD dk)) {z:Value} (hz:(zeroValue elem).run P E.w= .ok z E.w) {zs:List D} (hzs:VC E os ag zs z)
  (hko:ZIB dk key=true):
  ∃v E',(Instr.mapEntry T vm kv).run P E.w= .ok v E'.w∧Rel c E' (os.set id (.mpn dk ag (Yf l key ((JL l key).getD zs)) key os.length)++ [.stp])∧Evo E os E' (os.set id (.mpn dk ag (Yf l key ((JL l key).getD zs)) key os.length)++ [.stp])∧
   V E' (os.set id (.mpn dk ag (Yf l key ((JL l key).getD zs)) key os.length)++ [.stp]) (.tup [ZDW ag ((JL l key).getD zs),.stk id os.length]) v:=by
 have hlt:=(Za ho).1;cases hm with
 |mref ho' hk' hb=>
  obtain⟨p,hp,hok⟩:=R.at ho;have hpb:p.1=_:=congrArg Prod.fst (Option.some.inj (hp.symm.trans hb));simp only at hpb;subst hpb;obtain⟨w',v,n,g1,g2,g3,g4,g5⟩:=Zz.entry (P:=P) (hok.map (Ob.upd_spec huo).1) hk hv hT hd hz hzs;obtain⟨R1,e1⟩:=R.push E.w .stp (n,undef) (Kept.refl _ _) (fun b hb=>hb.elim) (fun _=>trivial);have ho1:(os++ [Ob.stp])[id]? =some o:=by rw[Yt hlt];exact ho
  have hp1:(E.ob++ [(n,undef)])[id]? =some p:=by rw[Yt (by rw[R.len];exact hlt)];exact hp
  have hs1: ∀x,((os++ [Ob.stp]).set id x)[os.length]? =some .stp:=fun x=>by
   rw[List.getElem?_set,if_neg (by omega)];simp
  have hb1:((E.ob++ [(n,undef)]).set id p)[os.length]? =some (n,undef):=by
   rw[List.getElem?_set,if_neg (by omega),←R.len];simp
  obtain⟨R',ev⟩:=ZFF (E:=⟨E.w,E.st,E.ob++ [(n,undef)]⟩) R1 ho1 huo hp1 g2 (o':= .mpn dk ag (Yf l key ((JL l key).getD zs)) key os.length) rfl (fun ev=>⟨g4 _ _ rfl (e1.trans ev),by
   obtain⟨es,clk,e,q1,q2,q3,q4⟩:=g5;exact⟨n,undef,.stp,es,clk,e,hs1 _,rfl,hb1,q1,q2,q3,q4,hko⟩⟩)
  have e:(os++ [Ob.stp]).set id (.mpn dk ag (Yf l key ((JL l key).getD zs)) key os.length)=os.set id (.mpn dk ag (Yf l key ((JL l key).getD zs)) key os.length)++ [.stp]:=by
   rw[List.set_append_left _ _ hlt]
  rw[e]at R' ev;refine⟨_,_,g1,R',e1.trans ev,V.tupP ((V.cell g3).mono (e1.trans ev)) (.stk (o:= .stp) (cu:=undef) ?_ rfl hb1)⟩;rw[←e];exact hs1 _
theorem Zcx (R:Rel c E os) {id sid:Nat} {dk:KK} {ag:Bool} {l:List Pr} {key:List X} (ho:os[id]? =some (.mpn dk ag l key sid)) {vm vs:Value} (hm:V E os (.mref id) vm) (hs:V E os (.stk id sid) vs) {u:Value} {xs:List D} (hu:VC E os ag xs u) (T:TypeId):
  ∃E',(Instr.entryStore T vm vs u).run P E.w= .ok () E'.w∧Rel c E' (os.set id (.mpo dk ag (Yf l key xs)))∧Evo E os E' (os.set id (.mpo dk ag (Yf l key xs))):=by
 cases hm with
 |mref ho' hk' hb=>
  cases hs with
  |stk hso hsk hsb=>
   obtain⟨p,hp,hok⟩:=R.at ho;rw[hp]at hb;cases hb;obtain⟨n,cu,o,es,clk,e,q1,q2,q3,q4,q5,q6,q7,q8⟩:=hok.2;rw[q3]at hsb;cases hsb;obtain⟨w',g1,g2,g3⟩:=Zz.store (P:=P) (T:=T) hok.1 ⟨_,_,ZRi q8,V.keyD E os dk key⟩ hu ⟨es,clk,e,q4,q5,q6,q7⟩;obtain⟨R',ev⟩:=ZFF R ho (l:=l) rfl hp g2 (o':= .mpo dk ag (Yf l key xs)) rfl (fun ev=>g3 _ _ rfl ev);exact⟨_,g1,R',ev⟩
theorem Zc4 (R:Rel c E os) {id:Nat} {o:Ob} (ho:os[id]? =some o) {dk:KK} {ag:Bool} {l:List Pr} (huo:o.upd? =some (dk,ag,l)) {vm:Value} (hm:V E os (.mref id) vm) {T kt elem:TypeId} (hT:P.underlying T=some (.map kt elem)):
  ∃v E',(Instr.range T vm).run P E.w= .ok v E'.w∧Rel c E' (os.set id (.mit dk ag l os.length l none)++ [.itr])∧Evo E os E' (os.set id (.mit dk ag l os.length l none)++ [.itr])∧V E' (os.set id (.mit dk ag l os.length l none)++ [.itr]) (.iref id os.length) v:=by
 have hlt:=(Za ho).1;obtain⟨_,s2,s3,s4⟩:=Ob.upd_spec huo;cases hm with
 |mref ho' hk' hb=>
  obtain⟨p,hp,hok⟩:=R.at ho;have hpb:p.1=_:=congrArg Prod.fst (Option.some.inj (hp.symm.trans hb));simp only at hpb;subst hpb;have hMO:=hok.map (Ob.upd_spec huo).1;obtain⟨es,clk,m1,m2,m3,m4⟩:=hMO.pairs;have hrun:=run_range_map (P:=P) E.w T kt elem p.1 es clk hT m1;obtain⟨R1,e1⟩:=R.push (E.w.alloc (.mapIter (some p.1) clk #[] clk)) .itr (E.w.heap.size,undef) (JU _ _) (fun b hb=>hb.elim) (fun _=>trivial);have ho1:(os++ [Ob.itr])[id]? =some o:=by rw[Yt hlt];exact ho
  have hp1:(E.ob++ [(E.w.heap.size,undef)])[id]? =some p:=by rw[Yt (by rw[R.len];exact hlt)];exact hp
  have hs1: ∀x,((os++ [Ob.itr]).set id x)[os.length]? =some .itr:=fun x=>by
   rw[List.getElem?_set,if_neg (by omega)];simp
  have hb1: ∀x,((E.ob++ [(E.w.heap.size,undef)]).set id x)[os.length]? =some (E.w.heap.size,undef):=fun x=>by
   rw[List.getElem?_set,if_neg (by omega),←R.len];simp
  have hpl:p.1<E.w.heap.size:=(ξH m1).1;obtain⟨R',ev⟩:=R1.set ho1 hp1 (E.w.alloc (.mapIter (some p.1) clk #[] clk)) (.mit dk ag l os.length l none) (p.1,.pointer (some ⟨E.w.heap.size,0,none⟩)) (Kept.refl _ _) (fun b hb=>by
   rcases hb with hb|hb
   ·exact .inl ((s4 p b).2 hb)
   ·simp only[Value.pointer.injEq,Zf,Addr.mk.injEq,and_true]at hb;subst hb;refine .inr (.inr ⟨fun off hs=>absurd (R.stm _ off hs).1 (Nat.lt_irrefl _),fun i o2 p2 h1 h2 h3=> ?_,.inr R.kept.size⟩);by_cases hi:i<os.length
    ·rw[Yt hi]at h1;have h2':E.ob[i]? =some p2:=by
      have h2':(E.ob++ [(E.w.heap.size,undef)])[i]? =some p2:=h2;rwa [Yt (by rw[R.len];exact hi)]at h2'
     exact absurd ((R.ok i o2 p2 h1 h2').lt h3) (Nat.lt_irrefl _)
    ·have hl:=(Za h1).1;simp at hl;have:i=os.length:=by omega
     subst this;rw[List.getElem?_append_right (by omega)]at h1;simp at h1;subst h1;exact h3) (fun sz rs h=>by rw[s3]at h;cases h) (fun k h=>⟨rfl,by rw[s2]at h;exact h⟩) (fun ev=>by
    have ev':=e1.trans ev;refine⟨hMO.mono ev' (heap_alloc_old E.w _ hpl),E.w.heap.size,undef,es,clk,clk,#[],clk,.itr,rfl,hs1 _,rfl,hb1 _,heap_alloc_new E.w _,?_,m3,⟨Nat.le_refl _,Nat.le_refl _⟩,m4,?_,fun q hq=>by cases hq⟩
    ·show(E.w.alloc _).heap[p.1]? =_;rw[heap_alloc_old E.w _ hpl];exact m1
    ·have e:(leftOf es #[]).toList=es.toList:=by simp[leftOf]
     rw[e];exact m2.mono ev')
  have e:(os++ [Ob.itr]).set id (.mit dk ag l os.length l none)=os.set id (.mit dk ag l os.length l none)++ [.itr]:=by
   rw[List.set_append_left _ _ hlt]
  rw[e]at R' ev;refine⟨_,_,hrun,R',e1.trans ev,.iref (o:= .itr) (cu:=undef) ?_ rfl (hb1 _)⟩;rw[←e];exact hs1 _
theorem ZcT (R:Rel c E os) {vm:Value} (hm:V E os .mnil vm) {T kt elem:TypeId} (hT:P.underlying T=some (.map kt elem)):
  ∃v E',(Instr.range T vm).run P E.w= .ok v E'.w∧Rel c E' (os++ [.nit])∧Evo E os E' (os++ [.nit])∧V E' (os++ [.nit]) (.iref os.length os.length) v:=by
 obtain rfl:=hm.mnil_inv;obtain⟨R',ev⟩:=R.push (E.w.alloc (.mapIter none 0 #[] 0)) .nit (E.w.heap.size,undef) (JU _ _) (fun b hb=>by cases hb;exact Nat.le_refl _) (fun _=>⟨0,#[],0,heap_alloc_new _ _⟩);exact⟨_,_,run_range_nilMap (P:=P) E.w T kt elem hT,R',ev,.iref (o:= .nit) (cu:=undef) (by simp) rfl (by show(E.ob++ [_])[os.length]? =_;rw[←R.len];simp)⟩
theorem ZcO (R:Rel c E os) (s:List UInt8) {T:TypeId} (hT:P.underlying T=some .string):
  ∃v E',(Instr.range T (.string (ZZ s))).run P E.w= .ok v E'.w∧Rel c E' (os++ [.sit s 0])∧Evo E os E' (os++ [.sit s 0])∧V E' (os++ [.sit s 0]) (.iref os.length os.length) v:=by
 obtain⟨R',ev⟩:=R.push (E.w.alloc (.stringIter (ZZ s) 0)) (.sit s 0) (E.w.heap.size,undef) (JU _ _) (fun b hb=>by cases hb;exact Nat.le_refl _) (fun _=>heap_alloc_new _ _);refine⟨.pointer (some ⟨E.w.heap.size,0,none⟩),_,?_,R',ev,.iref (o:= .sit s 0) (cu:=undef) (by simp) rfl (by show(E.ob++ [_])[os.length]? =_;rw[←R.len];simp)⟩;simp[Instr.range,run_underlying hT]
theorem VX.not_agg {w:World} {st:Nat→Nat→Prop} {x:X} {v:Value} (h:VX w st x v): ∀cs,v≠ .agg cs:=by
 cases h<;>(intro cs e;cases e)
theorem V.not_agg {d:D} {v:Value} (h:V E os d v) (hd:agD d=false) {cs:List D} (hc:d.cells? =some cs):cs.length=1∧ ∀cs,v≠ .agg cs:=by
 cases h with
 |x h=>simp[D.cells?]at hc;subst hc;exact⟨rfl,h.not_agg⟩
 |ref h h1=>simp[D.cells?]at hc;subst hc;exact⟨rfl,fun cs e=>by subst e;simp[Value.oneCell']at h1⟩
 |ptr ho h=>simp[D.cells?]at hc;subst hc;exact⟨rfl,fun cs e=>by cases e⟩
 |mref ho hk h=>simp[D.cells?]at hc;subst hc;exact⟨rfl,fun cs e=>by cases e⟩
 |mnil=>simp[D.cells?]at hc;subst hc;exact⟨rfl,fun cs e=>by cases e⟩
 |iref ho hk h=>simp[D.cells?]at hc;subst hc;exact⟨rfl,fun cs e=>by cases e⟩
 |stk ho hk h=>simp[D.cells?]at hc;subst hc;exact⟨rfl,fun cs e=>by cases e⟩
 |bref ho h hm=>simp[D.cells?]at hc;subst hc;exact⟨rfl,fun cs e=>by cases e⟩
 |eptr h h1=>simp[D.cells?]at hc;subst hc;exact⟨rfl,fun cs e=>by obtain⟨ad,rfl⟩:=h1;cases e⟩
 |vptr b off val h1 h2=>simp[D.cells?]at hc;subst hc;exact⟨rfl,fun cs e=>by cases e⟩
 |agg vs hl h1 hv=>simp[agD]at hd
 |tup vs hl hv=>cases hc
 |full n h=>simp[D.cells?]at hc;subst hc;exact⟨rfl,fun cs e=>by cases e⟩
 |nz h=>simp[D.cells?]at hc;subst hc;exact⟨rfl,fun cs e=>by cases e⟩
 |fn vs hl hv=>simp[D.cells?]at hc;subst hc;exact⟨rfl,fun cs e=>by cases e⟩
 |opt h1 h2=>cases hc
 |und v=>cases hc
theorem V.is_agg {d:D} {v:Value} (h:V E os d v) (hd:agD d=true): ∃cs,v= .agg cs:=by
 cases h with
 |agg vs hl h1 hv=>exact⟨vs,rfl⟩
 |_=>simp[agD]at hd
theorem VC.of {d:D} {v:Value} (h:V E os d v) {cs:List D} (hc:d.cells? =some cs) (hs:v.cells.size=cs.length) (h1: ∀u∈v.cells.toList,u.oneCell'=true)
  (hx: ∀(j:Nat) (x:D) (u:Value),cs[j]? =some x→v.cells[j]? =some u→V E os x u):VC E os (agD d) cs v:=by
 refine⟨?_,hs,fun j x u hj hu=>⟨hx j x u hj hu,h1 u ?_⟩⟩
 ·split
  ·rename_i ha;exact h.is_agg ha
  ·rename_i ha;exact h.not_agg (by simpa using ha) hc
 ·rw[←Array.getElem?_toList]at hu;exact List.mem_of_getElem? hu
theorem ZVd (R:Rel c E os) {t:Nat} {cs:List D} {cells:Array Value} {xs:List X} {os1:List Ob} (q1:cells.size=cs.length) (q3: ∀(j:Nat) (d:D) (u:Value),cs[j]? =some d→cells[j]? =some u→V E os d u)
  (hfz:Ya os cs=some (xs,os1)):
  ∃E',E'.w=E.w.alloc (.cells cells t)∧Rel c E' (os1++ [.rows false t xs.length [xs]])∧Evo E os E' (os1++ [.rows false t xs.length [xs]])∧V E' (os1++ [.rows false t xs.length [xs]]) (.eptr os1.length 1 0 0) (.pointer (some ⟨E.w.heap.size,0,none⟩)):=by
 obtain⟨st',R1,e1,k1,k2⟩:=ZA1 (vs:=cells.toList) R (fun j d u hd hu=>q3 j d u hd (by simpa using hu)) (by simpa using q1.symm) hfz;have hxl:xs.length=cells.size:=by simpa using k1
 have hk:=JU E.w (.cells cells t);have hrow:KM (E.w.alloc (.cells cells t)) false t xs.length [xs].length (.slice (some ⟨E.w.heap.size,0,none⟩) 1 1) cells.toList:=by
  refine⟨by simp[hxl],.inr ⟨E.w.heap.size,1,cells,(0,0),rfl,heap_alloc_new E.w _,Nat.le_refl _,by unfold maxLen;decide,?_,?_,.inl rfl⟩⟩
  ·simp[hxl]
  ·rw[hxl];exact YN (by simp)
 obtain⟨E',w1,w2,w3,w4⟩:=QY (E:=⟨E.w,st',E.ob⟩) R1 hk hrow (fun b hb=>by simp only[Value.ownBlock,Zf]at hb;subst hb;exact Nat.le_refl _) (fun r hr=>by simp only[List.mem_singleton]at hr;rw[hr])
  (fun i r j x v h1 h2 h3=>by
   match i with
   |0=>
    simp only[List.getElem?_cons_zero,Zf]at h1;subst h1;rw[Nat.zero_mul,Nat.zero_add]at h3;exact k2 j x v h2 h3
   |i+1=>simp at h1)
 refine⟨E',w1,w2,e1.trans w3,?_⟩;cases w4 with
 |ref hr _=>
  obtain⟨o,sz,rs,q1,q2,q3,q4⟩:=hr;have hlt:(os1++ [Ob.rows false t xs.length [xs]])[os1.length]? =some (.rows false t xs.length [xs]):=by simp
  rw[hlt]at q1;cases q1;simp only[Ob.sl?,Zf,Zc]at q2;obtain⟨rfl,rfl⟩:=q2;obtain⟨_,b,ad,cap,a',cap',g1,g2,_,_,g3,_⟩:=q4 rfl;obtain⟨g4,_⟩:=g3 rfl;simp only[Value.slice.injEq]at g2;obtain⟨g5,_,_⟩:=g2;rw[←g5]at g4;rw[←g4]at g1;exact .eptr ⟨_,_,1,hlt,rfl,Nat.le_refl _,fun _=>⟨by decide,b,E.w.heap.size,cap,g1,by simp⟩⟩ ⟨_,rfl⟩
theorem ZUI (R:Rel c E os) {id ext i:Nat} {fz:Bool} {e sz:Nat} {rs:List (List X)} (ho:os[id]? =some (.rows fz e sz rs)) {vp:Value} (hp:V E os (.eptr id ext i 0) vp) {r:List X} (hr:rs[i]? =some r) (hext:rs.length=ext)
  {t el:Nat} (ht:P.underlying t=some (.array sz el)) (hsz:JV P el=some 1) (hm:sz≤16777216) {hi:Option Value} {h:Nat} (hb:Bnd none hi sz 0 h) (hle:h≤sz):
  ∃v E',(Instr.sliceAt t vp none hi none).run P E.w= .ok v E'.w∧Rel c E' (os.set id (.frz sz rs))∧Evo E os E' (os.set id (.frz sz rs))∧V E' (os.set id (.frz sz rs)) (.x (.sl ((r.take h).map fun y=> [y]))) v:=by
 have hp0:=hp;cases hp0 with
 |eptr hq _=>
  obtain⟨h1,h2⟩:=hq.at ho rfl;obtain⟨h3,b,g,cap,h4,h5⟩:=h2 hext;obtain⟨R',ev⟩:=R.freeze ho h4;have hlt:=(Za ho).1;have ho':(os.set id (.frz sz rs))[id]? =some (.frz sz rs):=by simp[hlt]
  obtain⟨_,g',xs,w1,w2,w3,w4,w5,w6⟩:=ZKf R' (hp.mono ev) ho' rfl hext;rw[h5]at w1;simp only[Value.pointer.injEq,Zf,Addr.mk.injEq,and_true]at w1;obtain⟨rfl,_⟩:=w1;have hrl:r.length=sz:=w5 r (List.mem_of_getElem? hr);subst h5;refine⟨_,⟨E.w,fun b off=>E.st b off∨(Value.ownBlock (.slice (some ⟨g,0,none⟩) ext cap)=some b∧off<rs.length*sz),E.ob⟩,ZQV ht hsz _ hb E.w,R',ev,.x ?_⟩;have hi1:i*sz+sz≤rs.length*sz:=by
   have:(i+1)*sz≤rs.length*sz:=Nat.mul_le_mul_right _ (by omega);rw[Nat.add_mul]at this;omega
  have hval: ∀(k:Nat) (y:X),r[k]? =some y→ ∃u,xs[i*sz+k]? =some u∧VX E.w (fun b off=>E.st b off∨(Value.ownBlock (.slice (some ⟨g,0,none⟩) ext cap)=some b∧off<rs.length*sz)) y u:=fun k y hy=>w6 i r k y hr hy
  refine .sl _ _ h sz 1 (fun k _=>xs.getD (i*sz+k) undef) (by simp;omega) hle (by unfold maxLen;omega) (fun q hq=> ?_) (fun k j hk hj=> ?_) (fun hn=>by simp at hn) (fun _ ad had=>by simp at had;rw[←had]) (fun k j q x hq hx=> ?_)
  ·obtain⟨y,_,rfl⟩:=List.mem_map.1 hq;rfl
  ·obtain rfl:j=0:=by omega
   obtain⟨y,hy⟩: ∃y,r[k]? =some y:=⟨r[k]'(by omega),YE _⟩;obtain⟨u,hu,_⟩:=hval k y hy;refine⟨g,i*sz+0,rfl,.inr ⟨rfl,by omega⟩,?_⟩;rw[Nat.mul_one,Nat.add_zero,Nat.add_zero,List.getD_eq_getElem?_getD,hu];exact w3 _ u hu
  ·rw[YC]at hq;obtain⟨y,hy,rfl⟩:=Zd hq
   match j with
   |0=>
    simp only[List.getElem?_cons_zero,Zf]at hx;subst hx;rw[List.getElem?_take]at hy;split at hy
    ·obtain⟨u,hu,hv⟩:=hval k y hy;show VX _ _ y (xs.getD (i*sz+k) undef);rw[List.getD_eq_getElem?_getD,hu];exact hv
    ·cases hy
   |j+1=>simp at hx
set_option maxHeartbeats 2000000 in
theorem ZYa (R : Rel c E os) (hf : Fr n E os φ a) {o : Oper} {e : IE} (hc : JZ P o.op = some e) {d : D} {os' : List Ob} (h : Zy φ os e = some (true, d, os')) : ZXq P c E os o a d os' := by
  obtain ⟨dst, op, ty, pos, after, guard⟩ := o;simp only at hc;cases op <;> simp only [JZ] at hc <;> (try cases hc)
  case alloc t =>
    simp only [Option.bind_eq_some_iff, Option.map_eq_some_iff] at hc;obtain ⟨i, hi, z, hz, hc⟩ := hc;split at hc
    · subst hc;simp only [Zy, Option.bind_eq_some_iff, Option.map_eq_some_iff] at h;obtain ⟨cs, hcs, q, hq, h⟩ := h;simp at h;obtain ⟨_, rfl, rfl⟩ := h;have hcs : (Jb z).cells? = some cs := by
        have : (Jb z).val = Jb z := by unfold Jb Qm; split <;> (try split) <;> (try split) <;> rfl
        rw [← this]; exact hcs
      obtain ⟨q1, q2, q3⟩ := (V.const E os z).cells hcs;obtain ⟨E', k1, k2, k3, k4⟩ := ZVd R (t := t) q1 q3 hq;refine JC (s := Instr.alloc t true (.tuple #[])) rfl ⟨_, E', ?_, k2, k3, k4⟩;rw [k1];simp [Instr.alloc, zeroValue, ZBY hi, hz, newVar, newRow]
    subst hc;simp only [Zy, Option.map_eq_some_iff] at h;obtain ⟨cs, hcs, h⟩ := h;simp at h;obtain ⟨_, rfl, rfl⟩ := h;have hcs : (Jb z).cells? = some cs := by
      have : (Jb z).val = Jb z := by unfold Jb Qm; split <;> (try split) <;> (try split) <;> rfl
      rw [← this]; exact hcs
    obtain ⟨q1, q2, q3⟩ := (V.const E os z).cells hcs;obtain ⟨E', k1, k2, k3, k4⟩ := ZNa R z.cells t q1 q2 q3;refine JC (s := Instr.alloc t true (.tuple #[])) rfl ⟨_, E', ?_, k2, k3, k4⟩;rw [k1];simp [Instr.alloc, zeroValue, ZBY hi, hz, newVar, newRow]
  case box t x =>
    obtain ⟨y, hy, hc⟩ := Option.map_eq_some_iff.1 hc;split at hc
    · subst hc;simp only [Zy, Option.bind_eq_some_iff, Option.map_eq_some_iff] at h;obtain ⟨cs, hcs, q, hq, h⟩ := h;simp at h;obtain ⟨h1, rfl, rfl⟩ := h;obtain ⟨q1, q2, q3⟩ := ((V.op hf hy).strip h1).cells hcs;obtain ⟨E', k1, k2, k3, k4⟩ := ZVd R (t := t) q1 q3 hq;refine JC (s := Instr.box t (a.eval x)) rfl ⟨_, E', ?_, k2, k3, k4⟩;rw [k1];simp [Instr.box, newVar, newRow]
    subst hc;simp only [Zy, Option.map_eq_some_iff] at h;obtain ⟨cs, hcs, h⟩ := h;simp at h;obtain ⟨h1, rfl, rfl⟩ := h;obtain ⟨q1, q2, q3⟩ := ((V.op hf hy).strip h1).cells hcs;obtain ⟨E', k1, k2, k3, k4⟩ := ZNa R (a.eval x).cells t q1 q2 q3;refine JC (s := Instr.box t (a.eval x)) rfl ⟨_, E', ?_, k2, k3, k4⟩;rw [k1];simp [Instr.box, newVar, newRow]
  case buildSlice t m parts =>
    split at hc
    · rename_i el ht;obtain ⟨i, hi, hc⟩ := Option.bind_eq_some_iff.1 hc;obtain ⟨z, hz, hc⟩ := Option.bind_eq_some_iff.1 hc;split at hc
      · rename_i hle;obtain ⟨ps, hps, hc⟩ := Option.map_eq_some_iff.1 hc; cases hc;obtain ⟨g1, g2⟩ := ZEF hps;simp only [Zy] at h;split at h
        · rename_i hm;have hpl : (parts.toList.map (·.2)).length = m := by simp [hle.1]
          have e : (parts.map fun (p : Nat × Operand) => (p.1, a.eval p.2)) = ((((parts.toList.map (·.2)).map a.eval).zipIdx 0).map fun p => (p.2, p.1)).toArray := by
            apply Array.toList_inj.1;rw [Array.toList_map];exact ZH6 a.eval parts.toList 0 g2
          have e' : (parts.map fun (x : Nat × Operand) => match x with | (i, x) => (i, a.eval x)) = (parts.map fun (p : Nat × Operand) => (p.1, a.eval p.2)) := rfl;split at h
          · obtain ⟨⟨b, rs⟩, h1, h⟩ := Option.map_eq_some_iff.1 h;simp at h;obtain ⟨rfl, rfl, rfl⟩ := h;have hres := Zbw (t := t) (m := m) R hf ht hi hz g1 hpl hle.2.1 hle.2.2 h1;refine JC (s := Instr.buildSlice t m (parts.map fun (i, x) => (i, a.eval x))) rfl ?_;rw [e', e];exact hres
          obtain ⟨⟨b, rs, os1⟩, h1, h⟩ := Option.map_eq_some_iff.1 h;simp at h;obtain ⟨rfl, rfl, rfl⟩ := h;have hres := ZdB (t := t) (m := m) R hf ht hi hz g1 hpl hle.2.1 hle.2.2 h1;refine JC (s := Instr.buildSlice t m (parts.map fun (i, x) => (i, a.eval x))) rfl ?_;rw [e', e];exact hres
        · cases h
      · cases hc
    · cases hc
  case store t x y =>
    simp only [Option.bind_eq_bind, Option.bind_eq_some_iff] at hc;obtain ⟨m, hm, x', hx, y', hy, hc⟩ := hc; cases hc;simp only [Zy, Option.bind_eq_some_iff] at h;obtain ⟨cs, hcs, h⟩ := h;split at h
    · rename_i hlen;split at h
      · rename_i id o hval;split at h
        · rename_i ds hds;split at h
          · rename_i hle;simp at h;obtain ⟨⟨c1, c2⟩, rfl, rfl⟩ := h;obtain ⟨q1, q2, q3⟩ := ((V.op hf hy).strip c2).cells hcs;have hp := (V.op hf hx).strip c1;rw [hval] at hp;obtain ⟨E', k1, k2, k3⟩ := Zbt (P := P) R hm hds hp q1 q2 q3 hlen hle;rw [List.append_assoc] at k2 k3;exact ⟨_, E', ZDn (s := Instr.storeAt t (a.eval x) (a.eval y)) rfl k1, k2, k3, .skip rfl⟩
          · cases h
        · cases h
      · rename_i id ext i o hval;split at h
        · rename_i el sz rs hbd;obtain ⟨ob, hob, hdr⟩ := Option.bind_eq_some_iff.1 hbd;cases Ob.drw_of hdr;obtain ⟨r, hr, h⟩ := Option.map_eq_some_iff.1 h;simp at h;obtain ⟨⟨⟨c1, c2⟩, c3, c4⟩, rfl, rfl⟩ := h;obtain ⟨q1, q2, q3⟩ := ((V.op hf hy).strip c2).cells hcs;have hp := (V.op hf hx).strip c1;rw [hval] at hp;have q1' : (a.eval y).cells.size = m := by omega
          obtain ⟨E', w1, w2, w3⟩ := Zan (P := P) R hm hob hp hr c3 q1' q2 (by omega) q3 c4;rw [List.append_assoc] at w2 w3;exact ⟨_, E', ZDn (s := Instr.storeAt t (a.eval x) (a.eval y)) rfl w1, w2, w3, .skip rfl⟩
        obtain ⟨⟨zs, os1⟩, h1, h⟩ := Option.bind_eq_some_iff.1 h;simp only at h;split at h
        · rename_i fz el sz rs hrows;obtain ⟨r, hr, h⟩ := Option.map_eq_some_iff.1 h;simp at h;obtain ⟨⟨⟨c1, c2⟩, c3, c4⟩, rfl, rfl⟩ := h;obtain ⟨q1, q2, q3⟩ := ((V.op hf hy).strip c2).cells hcs;have hp := (V.op hf hx).strip c1;rw [hval] at hp;obtain ⟨st', R1, e1, k1, k2⟩ := ZA1 (vs := (a.eval y).cells.toList) R (fun j d v hd hv => q3 j d v hd (by simpa using hv)) (by simp [q1]) h1;have q1' : (a.eval y).cells.size = m := by omega
          obtain ⟨E', w1, w2, w3⟩ := ZYF (P := P) (E := ⟨E.w, st', E.ob⟩) R1 hm hrows (hp.mono e1) hr c3 q1' q2 (by simp at k1; omega) (fun j x u hx hu => k2 j x u hx (by simpa using hu)) c4;rw [List.append_assoc] at w2 w3;exact ⟨_, E', ZDn (s := Instr.storeAt t (a.eval x) (a.eval y)) rfl w1, w2, e1.trans w3, .skip rfl⟩
        · cases h
      · cases h
    · cases h
  case makeMap t r =>
    split at hc
    · rename_i key elem hT;obtain ⟨dk, hdk, hc⟩ := Option.bind_eq_some_iff.1 hc;obtain ⟨ag, hag, rfl⟩ := Option.map_eq_some_iff.1 hc;simp only [Zy, Option.some.injEq, Prod.mk.injEq] at h;obtain ⟨_, rfl, rfl⟩ := h;exact JC (s := Instr.makeMap t none) rfl (Zcp R dk (ZCe hdk).2 ag t)
    · cases hc
  case lookup t x y ok =>
    split at hc
    · obtain ⟨dk, hd, hc⟩ := Option.bind_eq_some_iff.1 hc;obtain ⟨i, hi, hc⟩ := Option.bind_eq_some_iff.1 hc;obtain ⟨z, hz, hc⟩ := Option.bind_eq_some_iff.1 hc;obtain ⟨x', y', hx, hy, hc⟩ := Jr hc;subst hc; simp [Zy] at h
    · cases hc
  case mapUpdate t x y u =>
    split at hc
    · rename_i key elem hT;obtain ⟨dk, hdk, hc⟩ := Option.bind_eq_some_iff.1 hc;simp only [Option.bind_eq_bind, Option.bind_eq_some_iff] at hc;obtain ⟨x', hx, y', hy, u', hu, hc⟩ := hc;cases hc;simp only [Zy, Option.bind_eq_some_iff] at h;obtain ⟨cs, hcs, h⟩ := h;split at h
      · rename_i id hv;split at h
        · rename_i dk' ag l ho;obtain ⟨o, ho1, ho2⟩ := Option.bind_eq_some_iff.1 ho;split at h
          · rename_i hh;obtain ⟨rfl, hag⟩ := hh;obtain ⟨key', hk, h⟩ := Option.map_eq_some_iff.1 h;simp only [Prod.mk.injEq, Bool.and_eq_true] at h;obtain ⟨⟨c1, c2, c3⟩, rfl, rfl⟩ := h;have vu := (V.op hf hu).strip c3;obtain ⟨q1, q2, q3⟩ := vu.cells hcs;have v1 := (V.op hf hx).strip c1;rw [hv] at v1;have v2 := (V.op hf hy).strip c2;have hvc : VC E os ag cs (a.eval u) := by
              rw [← hag];exact VC.of vu hcs q1 q2 q3
            obtain ⟨E', w1, w2, w3⟩ := ZVT (P := P) R ho1 ho2 v1 hk v2 hvc hT (ZCe hdk).1;exact ⟨_, E', ZDn (s := Instr.mapUpdate t (a.eval x) (a.eval y) (a.eval u)) rfl w1, w2, w3, .skip rfl⟩
          · cases h
        · cases h
      · cases h
    · cases hc
  case insert t x y u =>
    split at hc
    · rename_i key elem hT;obtain ⟨dk, hdk, hc⟩ := Option.bind_eq_some_iff.1 hc;simp only [Option.bind_eq_bind, Option.bind_eq_some_iff] at hc;obtain ⟨x', hx, y', hy, u', hu, hc⟩ := hc;cases hc;simp only [Zy, Option.bind_eq_some_iff] at h;obtain ⟨cs, hcs, h⟩ := h;split at h
      · rename_i id hv;split at h
        · rename_i dk' ag l ho;obtain ⟨o, ho1, ho2⟩ := Option.bind_eq_some_iff.1 ho;split at h
          · rename_i hh;obtain ⟨rfl, hag⟩ := hh;obtain ⟨key', hk, h⟩ := Option.map_eq_some_iff.1 h;simp only [Prod.mk.injEq, Bool.and_eq_true] at h;obtain ⟨⟨c1, c2, c3⟩, rfl, rfl⟩ := h;have vu := (V.op hf hu).strip c3;obtain ⟨q1, q2, q3⟩ := vu.cells hcs;have v1 := (V.op hf hx).strip c1;rw [hv] at v1;have v2 := (V.op hf hy).strip c2;have hvc : VC E os ag cs (a.eval u) := by
              rw [← hag];exact VC.of vu hcs q1 q2 q3
            obtain ⟨E', w1, w2, w3⟩ := ZVT (P := P) R ho1 ho2 v1 hk v2 hvc hT (ZCe hdk).1;exact ⟨_, E', ZDn (s := Instr.mapUpdate t (a.eval x) (a.eval y) (a.eval u)) rfl w1, w2, w3, .skip rfl⟩
          · cases h
        · cases h
      · cases h
    · cases hc
  case mapEntry t x y =>
    split at hc
    · rename_i key elem hT;obtain ⟨dk, hdk, hc⟩ := Option.bind_eq_some_iff.1 hc;obtain ⟨i, hi, hc⟩ := Option.bind_eq_some_iff.1 hc;obtain ⟨z, hz, hc⟩ := Option.bind_eq_some_iff.1 hc;obtain ⟨x', y', hx, hy, hc⟩ := Jr hc;subst hc;simp only [Zy, Option.bind_eq_some_iff] at h;obtain ⟨zs, hzs, h⟩ := h;split at h
      · rename_i id hv;split at h
        · rename_i dk' ag l ho;obtain ⟨o, ho1, ho2⟩ := Option.bind_eq_some_iff.1 ho;split at h
          · rename_i hh;obtain ⟨rfl, hag⟩ := hh;obtain ⟨key', hk, h⟩ := Option.map_eq_some_iff.1 h;simp only [Prod.mk.injEq, Bool.and_eq_true] at h;obtain ⟨⟨c1, c2⟩, rfl, rfl⟩ := h;have v1 := (V.op hf hx).strip c1;rw [hv] at v1;have v2 := (V.op hf hy).strip c2;have vz := V.const E os z;obtain ⟨q1, q2, q3⟩ := vz.cells hzs;have hvc : VC E os ag zs z := by
              rw [← hag];exact VC.of vz hzs q1 q2 q3
            have hz' : (zeroValue elem).run P E.w = .ok z E.w := by simp [zeroValue, ZBY hi, hz]
            exact JC (s := Instr.mapEntry t (a.eval x) (a.eval y)) rfl (Zcb (P := P) R ho1 ho2 v1 hk v2 hT (ZCe hdk).1 hz' hvc (ZZf hk (ZCe hdk).2))
          · cases h
        · cases h
      · cases h
    · cases hc
  case entryStore t x y u =>
    simp only [Option.bind_eq_bind, Option.bind_eq_some_iff] at hc;obtain ⟨x', hx, y', hy, u', hu, hc⟩ := hc;cases hc;simp only [Zy, Option.bind_eq_some_iff] at h;obtain ⟨cs, hcs, h⟩ := h;split at h
    · rename_i id id' sid hv hv2;split at h
      · rename_i dk ag l key sid' ho;split at h
        · rename_i hh;obtain ⟨rfl, rfl, hag⟩ := hh;simp only [Option.some.injEq, Prod.mk.injEq, Bool.and_eq_true] at h;obtain ⟨⟨c1, c2, c3⟩, rfl, rfl⟩ := h;have vu := (V.op hf hu).strip c3;obtain ⟨q1, q2, q3⟩ := vu.cells hcs;have v1 := (V.op hf hx).strip c1;rw [hv] at v1;have v2 := (V.op hf hy).strip c2;rw [hv2] at v2;have hvc : VC E os ag cs (a.eval u) := by
            rw [← hag];exact VC.of vu hcs q1 q2 q3
          obtain ⟨E', w1, w2, w3⟩ := Zcx (P := P) R ho v1 v2 hvc t;exact ⟨_, E', ZDn (s := Instr.entryStore t (a.eval x) (a.eval y) (a.eval u)) rfl w1, w2, w3, .skip rfl⟩
        · cases h
      · cases h
    · cases h
  case range t x =>
    split at hc
    · rename_i kt el hT;obtain ⟨x', hx, hc⟩ := Option.bind_eq_some_iff.1 hc;cases hc;simp only [Zy] at h;split at h
      · rename_i id hv;split at h
        · rename_i dk ag l ho;obtain ⟨o, ho1, ho2⟩ := Option.bind_eq_some_iff.1 ho;simp only [Option.some.injEq, Prod.mk.injEq] at h;obtain ⟨c1, rfl, rfl⟩ := h;have v1 := (V.op hf hx).strip c1;rw [hv] at v1;exact JC (s := Instr.range t (a.eval x)) rfl (Zc4 (P := P) R ho1 ho2 v1 hT)
        · cases h
      · rename_i hv;simp only [Option.some.injEq, Prod.mk.injEq] at h;obtain ⟨c1, rfl, rfl⟩ := h;have v1 := (V.op hf hx).strip c1;rw [hv] at v1;exact JC (s := Instr.range t (a.eval x)) rfl (ZcT (P := P) R v1 hT)
      · cases h
    · rename_i hT;obtain ⟨x', hx, hc⟩ := Option.bind_eq_some_iff.1 hc;cases hc;simp only [Zy] at h;split at h
      · rename_i s hv;simp only [Option.some.injEq, Prod.mk.injEq] at h;obtain ⟨c1, rfl, rfl⟩ := h;have v1 := (V.op hf hx).strip c1;rw [hv] at v1;refine JC (s := Instr.range t (a.eval x)) rfl ?_;rw [V.str v1];exact ZcO (P := P) R s hT
      · cases h
    · cases hc
  case next x st =>
    obtain ⟨x', hx, hc⟩ := Option.bind_eq_some_iff.1 hc;cases hc; simp [Zy] at h
  case entry x =>
    obtain ⟨x', hx, hc⟩ := Option.bind_eq_some_iff.1 hc;cases hc; simp [Zy] at h
  case makeSlice t l cp =>
    split at hc
    · rename_i el ht;simp only [Option.bind_eq_bind, Option.bind_eq_some_iff] at hc;obtain ⟨i, hi, z, hz, zx, hzx, l', hl', c', hc', hc⟩ := hc; cases hc;simp only [Zy] at h;split at h
      · rename_i li ci h1 h2;split at h
        · rename_i hh;simp at h;obtain ⟨⟨⟨c1, c2⟩, c3, c4, c5⟩, rfl, rfl⟩ := h;obtain ⟨kl, hkl⟩ := QN ((V.op hf hl').strip c1) h1;obtain ⟨kc, hkc⟩ := QN ((V.op hf hc').strip c2) h2;obtain ⟨li', rfl⟩ := Int.eq_ofNat_of_zero_le c3;obtain ⟨ci', rfl⟩ := Int.eq_ofNat_of_zero_le (show (0 : Int) ≤ ci by omega);refine JC (s := Instr.makeSlice t (a.eval l) (a.eval cp)) rfl ?_;rw [hkl, hkc];exact Zdg R ht hi hz hzx hh.1 hh.2 kl kc li' ci' (by omega) (by omega)
        · cases h
      · cases h
    · cases hc
  case slice t x lo hi mx =>
    split at hc
    · simp only [Option.bind_eq_bind, Option.bind_eq_some_iff] at hc;obtain ⟨x', hx, lo', hl, hi', hh, mx', hm, hc⟩ := hc; cases hc; simp [Zy] at h
    · obtain ⟨z, hz, hc⟩ := Option.bind_eq_some_iff.1 hc;split at hc
      · cases hc
      · simp only [Option.bind_eq_bind, Option.bind_eq_some_iff] at hc;obtain ⟨x', hx, lo', hl, hi', hh, mx', hm, hc⟩ := hc; cases hc; simp [Zy] at h
    · rename_i m el ht;obtain ⟨z, hz, hc2⟩ := Option.bind_eq_some_iff.1 hc;clear hc;by_cases hh : z = 1 ∧ m ≤ 16777216 ∧ lo = none ∧ mx = none
      · rw [if_pos hh] at hc2;obtain ⟨rfl, hm, rfl, rfl⟩ := hh;simp only [Option.bind_eq_bind, Option.bind_eq_some_iff] at hc2;obtain ⟨x', hx, hi', hhi, hc3⟩ := hc2;cases hc3;simp only [Zy] at h;split at h
        · rename_i id ext i hv;split at h
          · rename_i fz e sz rs ho;split at h
            · rename_i hsz;subst hsz;obtain ⟨r, hr, h⟩ := Option.bind_eq_some_iff.1 h;have hrl : rs.length = ext → r.length = sz := fun _ => by
                obtain ⟨p, hp, hok⟩ := R.at ho;obtain ⟨xs, _, k2, _⟩ := hok;exact k2 r (List.mem_of_getElem? hr)
              cases hi' with
              | none =>
                simp only [Option.some.injEq, Prod.mk.injEq, Bool.and_eq_true, decide_eq_true_eq] at h;obtain ⟨⟨c1, c2⟩, rfl, rfl⟩ := h;have v1 := (V.op hf hx).strip c1;rw [hv] at v1;have hb := bnd hf (lo := none) (hi := hi) (lo' := none) (hi' := none) rfl hhi sz 0 sz rfl rfl (Nat.zero_le _) (Nat.le_refl _);have := ZUI R ho v1 hr c2 ht hz hm hb (Nat.le_refl _);rw [List.take_of_length_le (by rw [hrl c2]; exact Nat.le_refl _)] at this;exact JC (s := Instr.sliceAt t (a.eval x) none (hi.map a.eval) none) rfl this
              | some h0 =>
                obtain ⟨k, hk, h⟩ := Option.map_eq_some_iff.1 h;simp only [Prod.mk.injEq, Bool.and_eq_true, decide_eq_true_eq] at h;obtain ⟨⟨c1, c3, c4, c5, c2⟩, rfl, rfl⟩ := h;obtain ⟨j, rfl⟩ := Int.eq_ofNat_of_zero_le c4;have v1 := (V.op hf hx).strip c1;rw [hv] at v1;have hb := bnd hf (lo := none) (hi := hi) (lo' := none) (hi' := some h0) rfl hhi sz 0 j rfl ⟨_, hk, c3, rfl⟩ (Nat.zero_le _) (by omega);exact JC (s := Instr.sliceAt t (a.eval x) none (hi.map a.eval) none) rfl (ZUI R ho v1 hr c2 ht hz hm hb (by omega))
            · cases h
          · cases h
        · cases h
      · rw [if_neg hh] at hc2; cases hc2
    · cases hc
  case convert s t x =>
    split at hc
    · obtain ⟨y, hy, hc⟩ := Option.bind_eq_some_iff.1 hc; cases hc; simp [Zy] at h
    · split at hc
      · obtain ⟨y, hy, hc⟩ := Option.bind_eq_some_iff.1 hc; cases hc; simp [Zy] at h
      · cases hc
    · rename_i el hs ht;split at hc
      · rename_i hel;obtain ⟨y, hy, hc⟩ := Option.bind_eq_some_iff.1 hc; cases hc;simp only [Zy] at h;split at h
        · rename_i b h1;simp at h;obtain ⟨⟨c1, c2⟩, rfl, rfl⟩ := h;have := (V.op hf hy).strip c1;rw [h1] at this;refine JC (s := convert s t (a.eval x)) rfl ?_;rw [V.str this];exact ZcW R hs ht hel b c2
        · cases h
      · cases hc
    · cases hc
  case call cl =>
    obtain ⟨callee, args, ats⟩ := cl;unfold ZAx at hc;simp only at hc;have bi : ∀ (b : Builtin) (s : Sem Value), (∀ consts, builtin b ats ty consts (args.map a.eval) = (do pure (Next.value (← s)))) → callee = .builtin b → (∃ v E', s.run P E.w = .ok v E'.w ∧ Rel c E' os' ∧ Evo E os E' os' ∧ V E' os' d v) →
        ZXq P c E os { dst, op := .call ⟨callee, args, ats⟩, type := ty, pos, after, guard } a d os' := by
      intro b s hb he hr;subst he;obtain ⟨v, E', h1, h2, h3, h4⟩ := hr;refine ⟨.value v, E', ?_, h2, h3, .value h4⟩;unfold execOp;simp only [resolve, Sem.run_bind, Sem.run_pure, Result.andThen_ok, invoke, hb, h1]
    split at hc
    · simp only [Option.bind_eq_bind, Option.bind_eq_some_iff] at hc;obtain ⟨f', hf', ys, hys, hc⟩ := hc;cases hc; simp [Zy] at h
    · split at hc
      · split at hc
        · obtain ⟨y, hy, hc⟩ := Option.bind_eq_some_iff.1 hc; cases hc; simp [Zy] at h
        · obtain ⟨y, hy, hc⟩ := Option.bind_eq_some_iff.1 hc; cases hc; simp [Zy] at h
        · obtain ⟨y, hy, hc⟩ := Option.bind_eq_some_iff.1 hc; cases hc; simp [Zy] at h
        · cases hc
      · cases hc
    · split at hc
      · rename_i x y t u h1 h2;have h1 : args = #[x, y] := by apply Array.toList_inj.1; simpa using h1
        have h2 : ats = #[t, u] := by apply Array.toList_inj.1; simpa using h2
        subst h1; subst h2;split at hc
        · rename_i el kn ht hu;obtain ⟨i, hi, hc2⟩ := Option.bind_eq_some_iff.1 hc;obtain ⟨z, hz, hc3⟩ := Option.bind_eq_some_iff.1 hc2;obtain ⟨zx, hzx, hc4⟩ := Option.bind_eq_some_iff.1 hc3;clear hc hc2 hc3;obtain ⟨x', y', hx, hy, hc5⟩ := Jr hc4;subst hc5;simp only [Zy] at h;split at h
          · rename_i m hm;split at h
            · rename_i hh;split at h
              · rename_i id ext off len hv;split at h
                · rename_i e' sz' rs hrows;split at h
                  · rename_i hh2;obtain ⟨rfl, rfl, rfl⟩ := hh2;simp at h;obtain ⟨⟨⟨c1, c2⟩, rfl, rfl, c3, c4⟩, rfl, rfl⟩ := h;have v1 := (V.op hf hx).strip c1;rw [hv] at v1;obtain ⟨kq, hkq⟩ := QN ((V.op hf hy).strip c2) hm;obtain ⟨k, rfl⟩ := Int.eq_ofNat_of_zero_le (show (0 : Int) ≤ m by omega);refine bi .append (Builtin.append_ #[t, u] ty #[a.eval x, a.eval y]) (fun _ => by simp [builtin]) rfl ?_;rw [hkq];exact ZSG R ht hu hi hz hzx hh.2.2 hh.1 hh.2.1 v1 hrows k (by omega) (by omega)
                  · cases h
                · cases h
              · cases h
            · cases h
          · cases h
        · rename_i el el2 ht hu;obtain ⟨i, hi, hc2⟩ := Option.bind_eq_some_iff.1 hc;obtain ⟨z, hz, hc3⟩ := Option.bind_eq_some_iff.1 hc2;clear hc hc2;split at hc3
          · rename_i hh;obtain ⟨rfl, hzs⟩ := hh;obtain ⟨x', y', hx, hy, hc4⟩ := Jr hc3;subst hc4;simp only [Zy] at h;split at h
            · rename_i hsz;refine bi .append (Builtin.append_ #[t, t] ty #[a.eval x, a.eval y]) (fun _ => by simp [builtin]) rfl ?_;split at h
              · rename_i srcD hsrcD;unfold ZBC at h;split at h
                · rename_i id ext off len hv;split at h
                  · rename_i e' sz' rs hrows;split at h
                    · rename_i hh2;obtain ⟨rfl, rfl, rfl⟩ := hh2;simp at h;obtain ⟨⟨⟨c1, c2⟩, rfl, rfl, c3, c4, c5⟩, rfl, rfl⟩ := h;have v1 := (V.op hf hx).strip c1;rw [hv] at v1;have v2 := (V.op hf hy).strip c2;unfold Qc at hsrcD;split at hsrcD
                      · rename_i jd ext2 off2 len2 hv2;unfold Kg at hsrcD;split at hsrcD
                        · rename_i e2 sz2 rs2 hj2;split at hsrcD
                          · rename_i hh3;obtain ⟨rfl, rfl, rfl⟩ := hh3;cases hsrcD;rw [hv2] at v2;exact ZY6 R ht hi hz hzs hsz.1 hsz.2 v1 hrows v2 hj2 c5 c4 c3
                          · cases hsrcD
                        · cases hsrcD
                      · cases hsrcD
                    · cases h
                  · cases h
                · cases h
              obtain ⟨src, hsrc, h⟩ := Option.bind_eq_some_iff.1 h;split at h
              · rename_i hv;simp at h;obtain ⟨⟨⟨c1, c2⟩, c3, c4⟩, rfl, rfl⟩ := h;have v1 := (V.op hf hx).strip c1;rw [hv] at v1;rw [V.nils v1];exact ZTY R ht hi hz hzs hsz.1 hsz.2 ((V.op hf hy).strip c2) hsrc c4 c3
              · rename_i rs0 hv;split at h
                · rename_i h0;simp at h;obtain ⟨⟨c1, c2⟩, rfl, rfl⟩ := h;have v1 := (V.op hf hx).strip c1;rw [hv] at v1;have hs : src = [] := List.eq_nil_of_length_eq_zero h0;subst hs;obtain ⟨ad, cp, news, q1, -⟩ := QL R ((V.op hf hy).strip c2) hsrc (sz := 0) (fun r hr => by cases hr);rw [q1];generalize a.eval x = vx at *;cases v1 with
                  | full m hvx => exact ⟨_, E, KY E.w t ty el i ht hi _ _ _ (Nat.le_refl _) ad cp, R, Evo.refl _ _, .full m hvx⟩
                · rename_i h0;simp at h;obtain ⟨⟨⟨c1, c2⟩, c3, c4, c5⟩, rfl, rfl⟩ := h;have v1 := (V.op hf hx).strip c1;rw [hv] at v1;exact ZPM R ht hi hz hzs hsz.1 hsz.2 v1 c4 ((V.op hf hy).strip c2) hsrc c5 h0 c3
              · rename_i id ext off len hv;split at h
                · rename_i e' sz' rs hrows;split at h
                  · rename_i hh2;obtain ⟨rfl, rfl, rfl⟩ := hh2;simp at h;obtain ⟨⟨⟨c1, c2⟩, rfl, rfl, c4, c5⟩, rfl, rfl⟩ := h;have v1 := (V.op hf hx).strip c1;rw [hv] at v1;exact ZSE R ht hi hz hzs hsz.1 hsz.2 v1 hrows ((V.op hf hy).strip c2) hsrc c5 c4
                  · cases h
                · rename_i e' sz' rs hrows;split at h
                  · rename_i hh2;obtain ⟨rfl, rfl, rfl⟩ := hh2;simp at h;obtain ⟨⟨⟨c1, c2⟩, rfl, rfl, c3, c4, c5⟩, rfl, rfl⟩ := h;have v1 := (V.op hf hx).strip c1;rw [hv] at v1;exact Zar R ht hi hz hzs hsz.1 hsz.2 v1 hrows ((V.op hf hy).strip c2) hsrc c5 c4 c3
                  · cases h
                · cases h
              · cases h
            · cases h
          · cases hc3
        · cases hc
      · cases hc
    · split at hc
      · rename_i x y t u h1 h2;have h1 : args = #[x, y] := by apply Array.toList_inj.1; simpa using h1
        have h2 : ats = #[t, u] := by apply Array.toList_inj.1; simpa using h2
        subst h1; subst h2;split at hc
        · rename_i el ht;simp only [Option.bind_eq_bind, Option.bind_eq_some_iff] at hc;obtain ⟨z, hz, x', hx, y', hy, hc⟩ := hc;cases hc;simp only [Zy, Option.bind_eq_some_iff] at h;obtain ⟨src, hsrc, h⟩ := h;split at h
          · rename_i id ext off len hv;split at h
            · rename_i fz e' sz' rs hrows;split at h
              · rename_i hh2;subst hh2;simp at h;obtain ⟨⟨⟨c1, c2⟩, c3, c4⟩, rfl, rfl⟩ := h;have v1 := (V.op hf hx).strip c1;rw [hv] at v1;obtain ⟨E', k1, k2, k3⟩ := Zdb (P := P) (u := u) (ty := ty) R ht hz v1 hrows c3 ((V.op hf hy).strip c2) hsrc c4;rw [List.append_assoc] at k2 k3;exact bi .copy (Builtin.copy_ #[t, u] ty #[a.eval x, a.eval y]) (fun _ => by simp [builtin]) rfl ⟨_, E', k1, k2, k3, V.mkint _ _ _ _⟩
              · cases h
            · cases h
          · cases h
        · cases hc
      · cases hc
    · split at hc
      · rename_i x y t u h1 h2;have h1 : args = #[x, y] := by apply Array.toList_inj.1; simpa using h1
        have h2 : ats = #[t, u] := by apply Array.toList_inj.1; simpa using h2
        subst h1; subst h2;split at hc
        · rename_i key elem hT;obtain ⟨dk, hdk, hc⟩ := Option.bind_eq_some_iff.1 hc;obtain ⟨x', y', hx, hy, hc⟩ := Jr hc;subst hc;simp only [Zy] at h;split at h
          · rename_i id hv;split at h
            · rename_i dk' ag l ho;obtain ⟨o, ho1, ho2⟩ := Option.bind_eq_some_iff.1 ho;split at h
              · rename_i hh;subst hh;obtain ⟨key', hk, h⟩ := Option.map_eq_some_iff.1 h;simp only [Prod.mk.injEq, Bool.and_eq_true] at h;obtain ⟨⟨c1, c2⟩, rfl, rfl⟩ := h;have v1 := (V.op hf hx).strip c1;rw [hv] at v1;exact bi .delete (Builtin.delete_ #[t, u] ty #[a.eval x, a.eval y]) (fun _ => by simp [builtin]) rfl (ZdS R ho1 ho2 v1 hk ((V.op hf hy).strip c2) hT (ZCe hdk).1 ty u)
              · cases h
            · cases h
          · cases h
        · cases hc
      · cases hc
    · split at hc
      · rename_i x t h1 h2;have h1 : args = #[x] := by apply Array.toList_inj.1; simpa using h1
        have h2 : ats = #[t] := by apply Array.toList_inj.1; simpa using h2
        subst h1; subst h2;split at hc
        · rename_i key elem hT;obtain ⟨x', hx, hc⟩ := Option.bind_eq_some_iff.1 hc;cases hc;simp only [Zy] at h;split at h
          · rename_i id hv;split at h
            · rename_i dk ag l ho;obtain ⟨o, ho1, ho2⟩ := Option.bind_eq_some_iff.1 ho;simp only [Option.some.injEq, Prod.mk.injEq] at h;obtain ⟨c1, rfl, rfl⟩ := h;have v1 := (V.op hf hx).strip c1;rw [hv] at v1;exact bi .clear (Builtin.clear_ #[t] ty #[a.eval x]) (fun _ => by simp [builtin]) rfl (Zc6 R ho1 ho2 v1 hT ty)
            · cases h
          · rename_i hv;simp only [Option.some.injEq, Prod.mk.injEq] at h;obtain ⟨c1, rfl, rfl⟩ := h;have v1 := (V.op hf hx).strip c1;rw [hv] at v1;refine bi .clear (Builtin.clear_ #[t] ty #[a.eval x]) (fun _ => by simp [builtin]) rfl ⟨.tuple #[], E, ?_, R, Evo.refl _ _, .tup #[] rfl (fun j d v h => by simp at h)⟩;rw [v1.mnil_inv];simp [Builtin.clear_, run_underlying hT]
          · cases h
        · cases hc
      · cases hc
    all_goals first
      | (cases hc; done)
      | (split at hc
         · obtain ⟨x', y', hx, hy, hc⟩ := Jr hc;subst hc; simp [Zy] at h
         · cases hc)
  case makeFunc fn first caps =>
    cases fn <;> simp only at hc <;> (try cases hc)
    split at hc
    · obtain ⟨ys, hys, hc⟩ := Option.bind_eq_some_iff.1 hc; cases hc; simp [Zy] at h
    · cases hc
  all_goals
    exfalso;have ha := ZYm h;have hna : NA (some e) := by
      rw [← hc]
      repeat first | exact NA.none | exact NA.some rfl | (refine NA.bind (fun _ => ?_)) | (refine NA.bind' (fun _ => ?_)) | (refine NA.map (fun _ => rfl)) | split
    rw [hna e rfl] at ha;cases ha

end
def VL (E:Env) (os:List Ob) (ds:List D) (vs:Array Value):Prop:=ds.length=vs.size∧ ∀(j:Nat) (d:D) (v:Value),ds[j]? =some d→vs[j]? =some v→V E os d v
def ZC (P:Program) (f:FuncId) (args:List D) (r:D):Prop:=
 ∀(w:World) (st:Nat→Nat→Prop) (vs:Array Value),(∀b o,st b o→b<w.heap.size)→VL ⟨w,st,[]⟩ [] args vs→
  Calls P f vs w fun e w'=> ∃v st',e= .returned v∧Kept (fun _=>False) w w'∧(∀b o,st b o→st' b o)∧(∀b o,st' b o→st b o∨(w.heap.size≤b∧b<w'.heap.size))∧V ⟨w',st',[]⟩ [] r v
def Enters (P:Program) (f:FuncId):Prop:= ∀(args:Array Value) (w:World),(callFunc f args).run P w= .ok (.enter f args) w
def SOk (P:Program) (S:FuncId→List D→Option (Bool×D)):Prop:= ∀f args r,S f args=some (true,r)→Enters P f∧ZC P f args r
section
variable {P:Program} {E:Env} {os:List Ob} {c:Ctx} {n:Nat} {φ:List (Nat×D)} {a:Act}
theorem V.scalar {E':Env} {os':List Ob} {d:D} {v:Value} (h:V E os d v) (hs:d.scalar=true):V E' os' d v:=by
 have one: ∀ {x:X} {v:Value},VX E.w E.st x v→x.scalar=true→VX E'.w E'.st x v:=by
  intro x v h hs;cases h with
  |int k n=>exact .int k n
  |bool b=>exact .bool b
  |str s=>exact .str s
  |nilp=>exact .nilp
  |nils=>exact .nils
  |sl=>cases hs
 have tl: ∀ {ds:List D} {vs:Array Value},(∀d∈ds,∃x,d= .x x∧x.scalar=true)→V E os (.tup ds) (.tuple vs)→V E' os' (.tup ds) (.tuple vs):=by
  intro ds vs hd h;cases h with
  |tup _ hl hv=>
   refine .tup vs hl (fun j d v h1 h2=> ?_);obtain⟨x,rfl,hx⟩:=hd d (List.mem_of_getElem? h1);exact .x (one (hv j _ v h1 h2).xx hx)
 unfold D.scalar at hs;split at hs
 ·exact .x (one h.xx hs)
 ·cases h with|tup vs hl hv=>exact .tup vs hl (fun j d v h1=>by simp at h1)
 ·rename_i x1;cases h with|tup vs hl hv=>exact tl (fun d hd=>by simp at hd;subst hd;exact⟨_,rfl,hs⟩) (.tup vs hl hv)
 ·rename_i x1 x2;simp at hs;cases h with|tup vs hl hv=>exact tl (fun d hd=>by simp at hd;rcases hd with rfl|rfl;exact⟨_,rfl,hs.1⟩;exact⟨_,rfl,hs.2⟩) (.tup vs hl hv)
 ·rename_i x1 x2 x3;simp at hs;cases h with|tup vs hl hv=>exact tl (fun d hd=>by simp at hd;rcases hd with rfl|rfl|rfl;exact⟨_,rfl,hs.1.1⟩;exact⟨_,rfl,hs.1.2⟩;exact⟨_,rfl,hs.2⟩) (.tup vs hl hv)
 ·cases hs
theorem V.bare {w:World} {st:Nat→Nat→Prop} {st':Nat→Nat→Prop} {ob:List (Nat×Value)} {d:D} {v:Value} (h:V ⟨w,st,[]⟩ [] d v) (hst: ∀b o,st b o→st' b o):V ⟨w,st',ob⟩ os d v:=
 V.mono (E:=⟨w,st,[]⟩) (os:= []) (E':=⟨w,st',ob⟩) (os':=os) ⟨fun b o hb=>⟨hst b o hb,rfl⟩,fun id b cu ds k h=>(by simp at h),fun id o' sz rs hid=>(by simp at hid)⟩ h
theorem ZFD: ∀ {ds:List D} {xs:List X},ZBh ds=some xs→ds=xs.map .x
 | [],xs,h=>by cases h;rfl
 |d::l,xs,h=>by
  cases d with
  |x y=>
   simp only[ZBh,Kh]at h;obtain⟨r,hr,rfl⟩:=h;rw[ZFD hr];rfl
  |_=>simp[ZBh]at h
theorem ZVN (R:Rel c E os) {id off len:Nat} {v:Value} (hv:V E os (.bref id off len) v) {x:X} (h:Yv os (.bref id off len)=some x):VX E.w (fun b _=>b<E.w.heap.size) x v:=by
 simp only[Yv,ZJD,Kh]at h;obtain⟨rs,h,rfl⟩:=h;split at h
 ·rename_i ds ho;split at h
  ·rename_i hle;obtain⟨xs,hxs,rfl⟩:=Zd h;have hds:=ZFD hxs;cases hv with
   |bref ho' hb hm=>
    obtain⟨p,hp,hok⟩:=R.at ho;rw[hp]at hb;cases hb;obtain⟨cs,ty,g1,g2,g3⟩:=hok;have hxl:xs.length=len:=by
     have:=congrArg List.length hds;simp only[List.length_take,List.length_drop,List.length_map]at this;omega
    have hcell: ∀i (hi:i<len),∃u,cs[off+i]? =some u∧VX E.w E.st (xs[i]'(by omega)) u:=by
     intro i hi;have h1:(ds.drop off).take len=xs.map .x:=hds;have h2:=congrArg (fun l=>l[i]?) h1;simp only[List.getElem?_take,hi,if_true,List.getElem?_drop,YC]at h2;rw[YE (by omega:i<xs.length)]at h2;have hlt:off+i<cs.size:=by rw[g2];omega
     refine⟨cs[off+i],Array.getElem?_eq_getElem hlt,?_⟩;exact(g3 (off+i) _ _ h2 (Array.getElem?_eq_getElem hlt)).1.xx
    have hblt: ∀q:Nat×Value,E.ob[id]? =some q→q.1<E.w.heap.size:=fun q hq=>by
     rw[hp]at hq;cases hq;exact(ξH g1).1
    refine .sl _ _ _ _ 1 (fun i _=>cs.getD (off+i) undef) (by simp[hxl]) (Nat.le_refl _) hm (fun r hr=> ?_) (fun i j hi hj=> ?_) (fun hn=>by cases hn) (fun _ ad had=>by cases had;rfl) (fun i j r y hr hy=> ?_)
    ·obtain⟨z,_,rfl⟩:=List.mem_map.1 hr;rfl
    ·obtain rfl:j=0:=by omega
     obtain⟨u,hu,_⟩:=hcell i hi;refine⟨_,off,rfl,(ξH g1).1,?_⟩;have e:off+i*1+0=off+i:=by omega
     rw[e];simp only[World.cell?,g1,Option.isSome_none,Bool.false_eq_true,if_false,hu];simp[Array.getD_eq_getD_getElem?,hu]
    ·rw[YC]at hr;obtain⟨z,hz,rfl⟩:=Zd hr
     match j with
     |0=>
      simp only[List.getElem?_cons_zero,Zf]at hy;subst hy;have hi:i<len:=by rw[←hxl];exact(Za hz).1
      obtain⟨u,hu,hx⟩:=hcell i hi;have:xs[i]'(by omega)=z:=(Za hz).2;rw[this]at hx;have e2:cs.getD (off+i) undef=u:=by simp[Array.getD_eq_getD_getElem?,hu]
      show VX _ _ z (cs.getD (off+i) undef);rw[e2];exact hx.mono (fun b o hb=>⟨(R.stm b o hb).1,rfl⟩)
     |j+1=>simp at hy
  ·cases h
 ·cases h
theorem ZNp (R:Rel c E os) {d:D} {v:Value} (hv:V E os d v) {x:X} (h:Yv os d=some x):VX E.w (fun b _=>b<E.w.heap.size) x v:=by
 have key: ∀os',Yj os d=some (x,os')→VX E.w (fun b _=>b<E.w.heap.size) x v:=fun os' hf=>by
  obtain⟨st',R',_,hx⟩:=ZGl R hv hf;exact hx.mono (fun b o hb=>⟨(R'.stm b o hb).1,rfl⟩)
 cases d with
 |x y=>cases h;exact key os rfl
 |full rs=>simp[Yv,Zq]at h;subst h;exact key os rfl
 |ref id ext off len=>
  simp only[Yv,Zq]at h;cases ho:os[id]? with
  |none=>simp[ho]at h
  |some o=>
   cases o with
   |box ds=>simp[ho,Ob.slice?]at h
   |rows fz e sz rs=>
    simp[ho,Ob.slice?]at h;obtain⟨rfl,rfl⟩:=h;exact key (os.set id (.frz sz rs)) (by simp[Yj,ho])
   |frz sz rs=>
    simp[ho,Ob.slice?]at h;obtain⟨rfl,rfl⟩:=h;exact key os (by simp[Yj,ho])
   |_=>simp[ho,Ob.slice?]at h
 |nz=>simp[Yv,Zq]at h
 |ptr=>simp[Yv,Zq]at h
 |eptr=>simp[Yv,Zq]at h
 |vptr=>simp[Yv,Zq]at h
 |mref=>simp[Yv,Zq]at h
 |mnil=>simp[Yv,Zq]at h
 |iref=>simp[Yv,Zq]at h
 |stk=>simp[Yv,Zq]at h
 |bref id off len=>exact ZVN R hv h
 |agg=>simp[Yv,Zq]at h
 |tup=>simp[Yv,Zq]at h
 |fn=>simp[Yv,Zq]at h
 |opt=>simp[Yv,Zq]at h
 |und=>simp[Yv,Zq]at h
theorem ZAl {α β:Type} {f:α→Option β}: ∀ {l:List α} {m:List β},l.mapM f=some m→l.length=m.length∧ ∀(j:Nat) (x:α) (y:β),l[j]? =some x→m[j]? =some y→f x=some y
 | [],m,h=>by simp at h;subst h;exact⟨rfl,fun j x y h=>by simp at h⟩
 |x::l,m,h=>by
  simp only[List.mapM_cons,Option.bind_eq_bind,Yk,Option.pure_def]at h;obtain⟨y,hy,ys,hys,h⟩:=h;cases h;obtain⟨h1,h2⟩:=ZAl hys;refine⟨by simp[h1],fun j x' y' hx hy'=> ?_⟩;cases j with
  |zero=>simp at hx hy';subst hx;subst hy';exact hy
  |succ j=>exact h2 j x' y' (by simpa using hx) (by simpa using hy')
theorem ZZP (R:Rel c E os) {d:D} {v:Value} (hv:V E os d v) {d':D} (h:Kj os d=some d'):V ⟨E.w,fun b _=>b<E.w.heap.size,[]⟩ [] d' v:=by
 unfold Kj at h;split at h
 ·cases h;exact .x (hv.xx.mono (fun b o hb=>⟨(R.stm b o hb).1,rfl⟩))
 ·rename_i ds;obtain⟨xs,hxs,h⟩:=Zd h;cases h;obtain⟨h1,h2⟩:=ZAl hxs;cases hv with
  |agg vs hl ho hvv=>
   refine .agg vs (by simp[←h1,hl]) ho (fun j d v hd hv'=> ?_);rw[YC]at hd;obtain⟨y,hy,rfl⟩:=Zd hd;have hj:=(Za hy).1;have hdj:ds[j]? =some (ds[j]'(by omega)):=YE _;exact .x (ZNp R (hvv j _ v hdj hv') (h2 j _ y hdj hy))
 ·cases h;cases hv with
  |fn vs hl hvv=>exact .fn vs hl (fun j d v hd=>by simp at hd)
 ·obtain⟨y,hy,h⟩:=Zd h;cases h;exact .x (ZNp R hv hy)
theorem ZX7 {d:D} {v:Value} (hv:V E os d v) (hp:d.plain=true) {d':D} (h:Kj os d=some d'):V ⟨E.w,E.st,[]⟩ [] d' v:=by
 unfold Kj at h;split at h
 ·cases h;exact .x hv.xx
 ·rename_i ds;obtain⟨xs,hxs,h⟩:=Zd h;cases h;obtain⟨h1,h2⟩:=ZAl hxs;cases hv with
  |agg vs hl ho hvv=>
   refine .agg vs (by simp[←h1,hl]) ho (fun j d v hd hv'=> ?_);rw[YC]at hd;obtain⟨y,hy,rfl⟩:=Zd hd;have hj:=(Za hy).1;have hdj:ds[j]? =some (ds[j]'(by omega)):=YE _;have hpx:=List.all_eq_true.1 hp _ (List.getElem_mem (by omega:j<ds.length));have hh:=h2 j _ y hdj hy;have hvx:=hvv j _ v hdj hv';generalize ds[j]'(by omega)=dj at*;cases dj with
   |x z=>simp[Yv]at hh;subst hh;exact .x hvx.xx
   |_=>cases hpx
 ·cases h;cases hv with
  |fn vs hl hvv=>exact .fn vs hl (fun j d v hd=>by simp at hd)
 ·cases d<;>first|(cases hp;done)|skip
  all_goals first
   |(rename_i h1 h2 h3;exact absurd rfl (h1 _))
   |(rename_i h1 h2 h3;exact absurd rfl (h2 _))
   |skip
  rename_i f caps h1 h2 h3;cases caps with
  |nil=>exact absurd rfl (h3 _)
  |cons c cs=>cases hp
def NP (p:IE→Bool) (x:Option IE):Prop:= ∀e,x=some e→p e=false
theorem NP.none {p:IE→Bool}:NP p none:=fun e h=>by cases h
theorem NP.some {p:IE→Bool} {e:IE} (h:p e=false):NP p (some e):=fun e' h'=>by cases h';exact h
theorem NP.bind {p:IE→Bool} {α:Type} {x:Option α} {f:α→Option IE} (h: ∀y,NP p (f y)):NP p (x.bind f):=fun e he=>by
 obtain⟨y,_,h2⟩:=Zr he;exact h y e h2
theorem NP.bind' {p:IE→Bool} {α:Type} {x:Option α} {f:α→Option IE} (h: ∀y,NP p (f y)):NP p (x>>=f):=NP.bind h
theorem NP.map {p:IE→Bool} {α:Type} {x:Option α} {f:α→IE} (h: ∀y,p (f y)=false):NP p (x.map f):=fun e he=>by
 obtain⟨y,_,rfl⟩:=Zd he;exact h y
def ZU (P:Program) (f:FuncId) (args:List D) (os:List Ob) (r:D) (os':List Ob):Prop:=
 ∀(c:Ctx) (E:Env) (vs:Array Value),Rel c E os→VL E os args vs→
  Calls P f vs E.w fun e w'=> ∃v E',e= .returned v∧E'.w=w'∧Rel c E' os'∧Evo E os E' os'∧V E' os' r v
def TOk (P:Program) (T:FuncId→List D→List Ob→Option (Bool×D×List Ob)):Prop:= ∀f args os r os',T f args os=some (true,r,os')→Enters P f∧ZU P f args os r os'
def ZEX (T:FuncId→List D→List Ob→Option (Bool×D×List Ob)) (φ:List (Nat×D)) (os:List Ob):IE→Option (Bool×D×List Ob)
 | .call f xs=>match(ZE φ f).val with
  | .fn g caps=>(T g ((xs.map fun y=>(ZE φ y).val)++caps) os).map fun r=>((ZE φ f).cond&&((xs.all fun y=>(ZE φ y).cond)&&r.1),r.2)
  |_=>none
 |_=>none
theorem ZLh {op:Op} {e:IE} (hc:JZ P op=some e) (hcall:e.isCall=true): ∃f args ats f' ys,op= .call ⟨.value f,args,ats⟩∧ZT f=some f'∧args.toList.mapM ZT=some ys∧e= .call f' ys:=by
 cases op<;>simp only[JZ]at hc<;>(try cases hc)
 case call cl=>
  obtain⟨callee,args,ats⟩:=cl;unfold ZAx at hc;simp only at hc;split at hc
  ·simp only[Option.bind_eq_bind,Yk]at hc;obtain⟨f',hf',ys,hys,hc⟩:=hc;cases hc;exact⟨_,_,_,_,_,rfl,hf',hys,rfl⟩
  all_goals
   exfalso;have hna:NP IE.isCall (some e):=by
    rw[←hc]
    repeat first|exact NP.none|exact NP.some rfl|(refine NP.bind (fun _=> ?_))|(refine NP.bind' (fun _=> ?_))|(refine NP.map (fun _=>rfl))|split
   rw[hna e rfl]at hcall;cases hcall
 case makeFunc fn first caps=>
  cases fn<;>simp only at hc<;>(try cases hc)
  split at hc
  ·obtain⟨ys,hys,hc⟩:=Zr hc;cases hc;cases hcall
  ·cases hc
 all_goals
  exfalso;have hna:NP IE.isCall (some e):=by
   rw[←hc]
   repeat first|exact NP.none|exact NP.some rfl|(refine NP.bind (fun _=> ?_))|(refine NP.bind' (fun _=> ?_))|(refine NP.map (fun _=>rfl))|split
  rw[hna e rfl]at hcall;cases hcall
theorem ZHW (hf:Fr n E os φ a) {o:Oper} {f':IO} {ys:List IO} (hc:JZ P o.op=some (.call f' ys)) {g:FuncId} {caps:List D} (hval:(ZE φ f').val= .fn g caps) (c1:(ZE φ f').cond=true) (c2: ∀y∈ys,(ZE φ y).cond=true) (hen:Enters P g) {K:Act→World→Prop} {Q:Exit→Act→World→Prop}
  (hpc: ∀vs,VL E os ((ys.map fun y=>(ZE φ y).val)++caps) vs→Calls P g vs E.w fun e w'=> ∃v,e= .returned v∧K (a.put o.dst v) w'):o.wp P a E.w K Q:=by
 obtain⟨dst,op,ty,pos,after,guard⟩:=o;simp only at hc hpc;obtain⟨f,args,ats,f'',ys',rfl,hf',hys,he⟩:=ZLh hc rfl;cases he;have vf:=(V.op hf hf').strip c1;rw[hval]at vf;generalize hfv:a.eval f=fv at vf;cases vf with
 |fn capv hl hvv=>
  obtain⟨l1,l2⟩:=ZKX hf hys;have hrun:(execOp a.eval {dst,op:= .call ⟨.value f,args,ats⟩,type:=ty,pos,after,guard}).run P E.w= .ok (.enter g (args.map a.eval++capv)) E.w:=by
   unfold execOp;simp only[resolve,hfv,Deferred.ofValue,Sem.run_bind,Sem.run_pure,Result.andThen_ok,invoke];have:=hen (#[]++args.map a.eval++capv) E.w;simpa using this
  have lenA:ys.length=args.size:=by rw[←l1];simp
  have hvl:VL E os ((ys.map fun y=>(ZE φ y).val)++caps) (args.map a.eval++capv):=by
   refine⟨by simp[lenA,hl],fun j d v hd hv=> ?_⟩;by_cases hj:j<ys.length
   ·rw[Yt (by simpa using hj)]at hd;rw[Array.getElem?_append_left (by simp;omega)]at hv;have hyj:ys[j]? =some (ys[j]'hj):=YE _;have hxj:args.toList[j]? =some (args[j]'(by omega)):=by simp
    have hval':=l2 j _ _ hxj hyj;have hmem:(ZE φ (ys[j]'hj)).cond=true:=c2 _ (List.getElem_mem _);rw[YC,hyj]at hd;simp at hd;have hve:v=a.eval (args[j]'(by omega)):=by
     rw[Array.getElem?_map,Array.getElem?_eq_getElem (by omega)]at hv;simpa using hv.symm
    subst hve;rw[←hd];exact hval'.strip hmem
   ·rw[List.getElem?_append_right (by simp;omega)]at hd;rw[Array.getElem?_append_right (by simp;omega)]at hv;simp only[Array.size_map,List.length_map,lenA]at hv hd;exact hvv _ _ v hd hv
  unfold Oper.wp;rw[hrun];show Calls P g _ E.w _;refine(hpc _ hvl).mono ?_;rintro e w' ⟨v,rfl,hk⟩;exact hk
theorem ZW0 {T:FuncId→List D→List Ob→Option (Bool×D×List Ob)} (hT:TOk P T) (R:Rel c E os) (hf:Fr n E os φ a) {o:Oper} {e:IE} (hc:JZ P o.op=some e) {d:D} {os':List Ob} (h:ZEX T φ os e=some (true,d,os')) {K:Act→World→Prop} {Q:Exit→Act→World→Prop}
  (hK: ∀v E',Rel c E' os'→Evo E os E' os'→V E' os' d v→K (a.put o.dst v) E'.w):o.wp P a E.w K Q:=by
 cases e<;>simp only[ZEX]at h<;>(try cases h)
 split at h
 ·rename_i g caps hval;obtain⟨⟨ok,r,os1⟩,hr,h⟩:=Zd h;simp at h;obtain⟨⟨c1,c2,rfl⟩,rfl,rfl⟩:=h;obtain⟨hen,hpc⟩:=hT _ _ _ _ _ hr;refine ZHW hf hc hval c1 c2 hen (fun vs hvl=>(hpc c E vs R hvl).mono ?_);rintro e w' ⟨v,E',rfl,rfl,R',ev,hv⟩;exact⟨v,rfl,hK v E' R' ev hv⟩
 ·cases h
def ZD4 (P:Program) (f:FuncId) (args:List D) (os:List Ob) (r:D):Prop:=
 ∀(Y:List Ob) (c:Ctx) (E:Env) (vs:Array Value),Rel c E (os++Y)→VL E (os++Y) args vs→
  Calls P f vs E.w fun e w'=> ∃v E',e= .returned v∧E'.w=w'∧Rel c E' (os++Y)∧Evo E (os++Y) E' (os++Y)∧V E' (os++Y) r v
def ROk (P:Program) (T:FuncId→List D→List Ob→Option (Bool×D)):Prop:= ∀f args os r,T f args os=some (true,r)→Enters P f∧ZD4 P f args os r
def ZAe (T:FuncId→List D→List Ob→Option (Bool×D)) (φ:List (Nat×D)) (os:List Ob):IE→Option (Bool×D)
 | .call f xs=>match(ZE φ f).val with
  | .fn g caps=>(T g ((xs.map fun y=>(ZE φ y).val)++caps) os).map fun r=>((ZE φ f).cond&&((xs.all fun y=>(ZE φ y).cond)&&r.1),r.2)
  |_=>none
 |_=>none
theorem ZUA {T:FuncId→List D→List Ob→Option (Bool×D)} (hT:ROk P T) {Y:List Ob} (R:Rel c E (os++Y)) (hf:Fr n E (os++Y) φ a) {o:Oper} {e:IE} (hc:JZ P o.op=some e) {d:D} (h:ZAe T φ os e=some (true,d)) {K:Act→World→Prop} {Q:Exit→Act→World→Prop}
  (hK: ∀v E',Rel c E' (os++Y)→Evo E (os++Y) E' (os++Y)→V E' (os++Y) d v→K (a.put o.dst v) E'.w):o.wp P a E.w K Q:=by
 cases e<;>simp only[ZAe]at h<;>(try cases h)
 split at h
 ·rename_i g caps hval;obtain⟨⟨ok,r⟩,hr,h⟩:=Zd h;simp at h;obtain⟨⟨c1,c2,rfl⟩,rfl⟩:=h;obtain⟨hen,hpc⟩:=hT _ _ _ _ hr;refine ZHW hf hc hval c1 c2 hen (fun vs hvl=>(hpc Y c E vs R hvl).mono ?_);rintro e w' ⟨v,E',rfl,rfl,R',ev,hv⟩;exact⟨v,rfl,hK v E' R' ev hv⟩
 ·cases h
def ZHo (P:Program) (f:FuncId) (args:List D) (os:List Ob) (r:Nat→D) (ob:Ob):Prop:=
 ∀(Y:List Ob) (id:Nat) (c:Ctx) (E:Env) (vs:Array Value),(os++Y)[id]? =some .dead→Rel c E (os++Y)→VL E (os++Y) args vs→
  Calls P f vs E.w fun e w'=> ∃v E',e= .returned v∧E'.w=w'∧Rel c E' ((os++Y).set id ob)∧Evo E (os++Y) E' ((os++Y).set id ob)∧V E' ((os++Y).set id ob) (r id) v
def KOk (P:Program) (T:FuncId→List D→List Ob→Option (Bool×(Nat→D)×Ob)):Prop:= ∀f args os r ob,T f args os=some (true,r,ob)→Enters P f∧ZHo P f args os r ob
def ZCj (T:FuncId→List D→List Ob→Option (Bool×(Nat→D)×Ob)) (φ:List (Nat×D)) (os:List Ob) (id:Nat):IE→Option (Bool×D×Ob)
 | .call f xs=>match(ZE φ f).val with
  | .fn g caps=>(T g ((xs.map fun y=>(ZE φ y).val)++caps) os).map fun r=>((ZE φ f).cond&&((xs.all fun y=>(ZE φ y).cond)&&r.1),r.2.1 id,r.2.2)
  |_=>none
 |_=>none
theorem ZNm {T:FuncId→List D→List Ob→Option (Bool×(Nat→D)×Ob)} (hT:KOk P T) {Y:List Ob} (R:Rel c E (os++Y)) (hf:Fr n E (os++Y) φ a) {o:Oper} {e:IE} (hc:JZ P o.op=some e) {id:Nat} (hd:(os++Y)[id]? =some .dead) {d:D} {ob:Ob} (h:ZCj T φ os id e=some (true,d,ob)) {K:Act→World→Prop} {Q:Exit→Act→World→Prop}
  (hK: ∀v E',Rel c E' ((os++Y).set id ob)→Evo E (os++Y) E' ((os++Y).set id ob)→V E' ((os++Y).set id ob) d v→K (a.put o.dst v) E'.w):o.wp P a E.w K Q:=by
 cases e<;>simp only[ZCj]at h<;>(try cases h)
 split at h
 ·rename_i g caps hval;obtain⟨⟨ok,r,ob'⟩,hr,h⟩:=Zd h;simp at h;obtain⟨⟨c1,c2,rfl⟩,rfl,rfl⟩:=h;obtain⟨hen,hpc⟩:=hT _ _ _ _ _ hr;refine ZHW hf hc hval c1 c2 hen (fun vs hvl=>(hpc Y id c E vs hd R hvl).mono ?_);rintro e w' ⟨v,E',rfl,rfl,R',ev,hv⟩;exact⟨v,rfl,hK v E' R' ev hv⟩
 ·cases h
theorem ZZS {S:FuncId→List D→Option (Bool×D)} (hS:SOk P S) (R:Rel c E os) (hf:Fr n E os φ a) {o:Oper} {e:IE} (hc:JZ P o.op=some e) (hcall:e.isCall=true) {d:D} (h:ZS S φ os e=some (true,d)) {K:Act→World→Prop} {Q:Exit→Act→World→Prop}
  (hK: ∀v E',Rel c E' os→Evo E os E' os→V E' os d v→K (a.put o.dst v) E'.w):o.wp P a E.w K Q:=by
 obtain⟨dst,op,ty,pos,after,guard⟩:=o;simp only at hc hK;obtain⟨f,args,ats,f',ys,rfl,hf',hys,rfl⟩:=ZLh hc hcall;simp only[ZS]at h;split at h
 ·rename_i g caps hval;obtain⟨as,has,h⟩:=Zr h;obtain⟨cs,hcs,h⟩:=Zr h;obtain⟨⟨ok,r⟩,hr,h⟩:=Zr h;simp only at h;split at h
  ·rename_i hsc;simp at h;obtain⟨⟨c1,c2,rfl⟩,rfl⟩:=h;obtain⟨hen,hpc⟩:=hS _ _ _ hr;have vf:=(V.op hf hf').strip c1;rw[hval]at vf;generalize hfv:a.eval f=fv at vf;cases vf with
   |fn capv hl hvv=>
    obtain⟨l1,l2⟩:=ZKX hf hys;obtain⟨m1,m2⟩:=ZAl has;obtain⟨m3,m4⟩:=ZAl hcs;have hrun:(execOp a.eval {dst,op:= .call ⟨.value f,args,ats⟩,type:=ty,pos,after,guard}).run P E.w= .ok (.enter g (args.map a.eval++capv)) E.w:=by
     unfold execOp;simp only[resolve,hfv,Deferred.ofValue,Sem.run_bind,Sem.run_pure,Result.andThen_ok,invoke];have:=hen (#[]++args.map a.eval++capv) E.w;simpa using this
    have lenA:ys.length=args.size:=by rw[←l1];simp
    have argAt: ∀(Ec:Env) (osc:List Ob),(∀(d0 d1:D) (v:Value),(d0∈caps∨ ∃y∈ys,(ZE φ y).val=d0)→V E os d0 v→Kj os d0=some d1→V Ec osc d1 v)→VL Ec osc (as++cs) (args.map a.eval++capv):=by
     intro Ec osc hview;have hal:as.length=args.size:=by rw[←m1];simp[lenA]
     refine⟨by simp[hal,←m3,hl],fun j d v hd hv=> ?_⟩;by_cases hj:j<as.length
     ·rw[Yt hj]at hd;rw[Array.getElem?_append_left (by simp;omega)]at hv;have hyj:ys[j]? =some (ys[j]'(by omega)):=YE _;have hxj:args.toList[j]? =some (args[j]'(by omega)):=by simp
      have hval':=l2 j _ _ hxj hyj;have hmem:(ZE φ (ys[j]'(by omega))).cond=true:=c2 _ (List.getElem_mem _);have hget:(ys.map (ZE φ))[j]? =some (ZE φ (ys[j]'(by omega))):=by rw[YC,hyj];rfl
      have hvd:=m2 j _ d hget hd;have hve:v=a.eval (args[j]'(by omega)):=by
       rw[Array.getElem?_map,Array.getElem?_eq_getElem (by omega)]at hv;simpa using hv.symm
      subst hve;exact hview _ _ _ (.inr ⟨_,List.getElem_mem (by omega),rfl⟩) (hval'.strip hmem) hvd
     ·rw[List.getElem?_append_right (by omega)]at hd;rw[Array.getElem?_append_right (by simp;omega)]at hv;simp only[Array.size_map,←hal]at hv;have hcj:=(Za hd).1;have hcapj:caps[j-as.length]? =some (caps[j-as.length]'(by omega)):=YE _;exact hview _ _ _ (.inl (List.getElem_mem (by omega))) (hvv _ _ v hcapj hv) (m4 _ _ _ hcapj hd)
    unfold Oper.wp;rw[hrun];show Calls P g _ E.w _;by_cases hs:r.scalar=true
    ·refine(hpc E.w (fun b _=>b<E.w.heap.size) _ (fun b o h=>h) (argAt _ _ (fun d0 d1 v _ hv hd=>ZZP R hv hd))).mono ?_;rintro e w' ⟨v,st',rfl,hk,h1,h2,hv⟩;obtain⟨R',ev⟩:=R.world w' E.st hk (fun b o h=>h) (fun b o h=> .inl h);exact hK v _ R' ev (hv.scalar hs)
    ·simp[hs]at hsc;refine(hpc E.w E.st _ (fun b o h=>(R.stm b o h).1) (argAt _ _ (fun d0 d1 v hm hv hd=>ZX7 hv (by
      rcases hm with hm|⟨y,hy,rfl⟩
      ·exact hsc.2 d0 hm
      ·exact hsc.1 y hy) hd))).mono ?_
     rintro e w' ⟨v,st',rfl,hk,h1,h2,hv⟩;obtain⟨R',ev⟩:=R.world w' st' hk h1 h2;exact hK v _ R' ev (hv.bare (fun b o h=>h))
  ·cases h
 ·cases h
end
structure IOp where
 dst:Option Nat
 e:IE
 g:Option (Nat×Bool)
def putO (φ:List (Nat×D)):Option Nat→D→List (Nat×D)
 |none,_=>φ
 |some t,d=>put φ t d
abbrev Tab:=FuncId→List D→Option (Bool×D)
structure Tabs where
 q:Tab
 t:FuncId→List D→List Ob→Option (Bool×D×List Ob)
 r:FuncId→List D→List Ob→Option (Bool×D)
 k:FuncId→List D→List Ob→Option (Bool×(Nat→D)×Ob)
structure SsOk (P:Program) (S:Tabs):Prop where
 q:SOk P S.q
 t:TOk P S.t
 r:ROk P S.r
 k:KOk P S.k
def Ku (S:Tabs) (φ:List (Nat×D)) (os:List Ob) (e:IE):Option (Bool×D×List Ob):=if e.isCall then ZEX S.t φ os e else Zy φ os e
def Yu (S:Tabs) (φ:List (Nat×D)) (os:List Ob) (o:IOp):Option (Bool×List (Nat×D)×List Ob):=
 match o.g with
 |none=>match ZS S.q φ os o.e with
  |some r=>some (r.1,putO φ o.dst r.2,os)
  |none=>(Ku S φ os o.e).map fun r=>(r.1,putO φ o.dst r.2.1,r.2.2)
 |some (s,want)=>match(get φ s).val with
  | .x (.bool b)=>match ZS S.q φ os o.e with
   |some r=>some (!((get φ s).cond&&(b==want))||r.1,putO φ o.dst (.opt ((get φ s).cond&&(b==want)) r.2),os)
   |none=>if(get φ s).cond&&(b==want)then(Ku S φ os o.e).map fun r=>(r.1,putO φ o.dst r.2.1,r.2.2)else some (true,putO φ o.dst (.opt false .und),os)
  |_=>if(get φ s).cond then none else some (true,putO φ o.dst (.opt false .und),os)
def Qg (S:Tabs):List (Nat×D)→List Ob→List IOp→Option (Bool×List (Nat×D)×List Ob)
 |φ,os,[]=>some (true,φ,os)
 |φ,os,o::l=>(Yu S φ os o).bind fun r=>(Qg S r.2.1 r.2.2 l).map fun q=>(r.1&&q.1,q.2)
def YV (P:Program) (n:Nat) (ops:Array Oper) (o:Oper):Option IOp:=
 (JZ P o.op).bind fun e=>if(o.dst.all fun t=>decide (t<n))then
  match o.guard with
  |none=>some ⟨o.dst,e,none⟩
  |some (j,want)=>((ops[j]?).bind (·.dst)).map fun s=>⟨o.dst,e,some (s,want)⟩
 else none
section
variable {P:Program} {E:Env} {os:List Ob} {c:Ctx} {n:Nat} {φ:List (Nat×D)} {a:Act}
theorem V.und_of {d:D} {v:Value} (h:V E os d v) (hc:d.cond=false):v=undef:=by
 induction h with
 |opt h1 h2 ih=>
  rename_i b d v;cases b with
  |false=>exact h2 rfl
  |true=>exact ih rfl (by simpa[D.cond]using hc)
 |x h=>cases hc
 |ref h h1=>cases hc
 |ptr ho h=>cases hc
 |eptr h h1=>cases hc
 |vptr b off val hc' hv=>cases hc
 |mref ho hk h=>cases hc
 |mnil=>cases hc
 |iref ho hk h=>cases hc
 |stk ho hk h=>cases hc
 |bref ho h hm=>cases hc
 |agg vs hl h1 hv=>cases hc
 |tup vs hl hv=>cases hc
 |full n h=>cases hc
 |nz h=>cases hc
 |fn vs hl hv=>cases hc
 |und v=>cases hc
theorem Fr.putO (h:Fr n E os φ a) {dst:Option Nat} {d:D} {v:Value} (ht:(dst.all fun t=>decide (t<n))=true) (hv:V E os d v):Fr n E os (Go.Ab.putO φ dst d) (a.put dst v):=by
 cases dst with
 |none=>exact h
 |some t=>exact h.put (by simpa using ht) hv
theorem ZDS {s:Nat} {ops:Array Oper} {j:Nat} (hs:(ops[j]?).bind (·.dst)=some s) (hf:Fr n E os φ a) {b:Bool} (hv:(get φ s).val= .x (.bool b)) (want:Bool):
  (yielded ops a.tmps j==some want)=((get φ s).cond&&(b==want)):=by
 have h:=hf.slot s;have key: ∀v,a.tmps.getD s undef=v→(yielded ops a.tmps j)=match v with| .bool b=>some b|_=>none:=by
  intro v hv;unfold yielded;rw[hs];simp only[Option.bind_some];rw[Array.getD_eq_getD_getElem?]at hv;cases h1:a.tmps[s]? with
  |none=>rw[h1]at hv;simp at hv;subst hv;rfl
  |some u=>rw[h1]at hv;simp at hv;subst hv;cases u<;>rfl
 cases hc:(get φ s).cond with
 |false=>
  have:=h.und_of hc;rw[key _ this];rfl
 |true=>
  have:=h.strip hc;rw[hv]at this;rw[key _ (V.bool this)];cases b<;>cases want<;>rfl
theorem ZGK {s:Nat} {ops:Array Oper} {j:Nat} (hs:(ops[j]?).bind (·.dst)=some s) (hf:Fr n E os φ a) (hc:(get φ s).cond=false) (want:Bool):(yielded ops a.tmps j==some want)=false:=by
 have h:=(hf.slot s).und_of hc;unfold yielded;rw[hs];simp only[Option.bind_some];rw[Array.getD_eq_getD_getElem?]at h;cases h1:a.tmps[s]? with
 |none=>rfl
 |some u=>rw[h1]at h;simp at h;subst h;rfl
theorem ZEK {S:Tab} (hS:SOk P S) (R:Rel c E os) (hf:Fr n E os φ a) {o:Oper} {e:IE} (hc:JZ P o.op=some e) {d:D} (h:ZS S φ os e=some (true,d)) {K:Act→World→Prop} {Q:Exit→Act→World→Prop}
  (hK: ∀v E',Rel c E' os→Evo E os E' os→V E' os d v→K (a.put o.dst v) E'.w):o.wp P a E.w K Q:=by
 cases hcall:e.isCall with
 |true=>exact ZZS hS R hf hc hcall h hK
 |false=>
  obtain⟨v,h1,h2⟩:=ZYd R hf hc hcall h;unfold Oper.wp;rw[h1];exact hK v E R (Evo.refl _ _) h2
theorem ZJ2 {S:Tabs} (hS:SsOk P S) (R:Rel c E os) (hf:Fr n E os φ a) {o:Oper} {e:IE} (hc:JZ P o.op=some e) {d:D} {os':List Ob} (h:Ku S φ os e=some (true,d,os')) {K:Act→World→Prop} {Q:Exit→Act→World→Prop}
  (hK: ∀v E',Rel c E' os'→Evo E os E' os'→V E' os' d v→K (a.put o.dst v) E'.w):o.wp P a E.w K Q:=by
 unfold Ku at h;split at h
 ·exact ZW0 hS.t R hf hc h hK
 obtain⟨r,E',h1,h2,h3,h4⟩:=ZYa R hf hc h;unfold Oper.wp;rw[h1];cases h4 with
 |value hv=>exact hK _ E' h2 h3 hv
 |skip hd=>exact hK undef E' h2 h3 (by rw[hd];exact .und _)
theorem ZQZ {S:Tabs} (hS:SsOk P S) (R:Rel c E os) (hf:Fr n E os φ a) {ops:Array Oper} {o:Oper} {io:IOp} (hc:YV P n ops o=some io) {φ':List (Nat×D)} {os':List Ob} (h:Yu S φ os io=some (true,φ',os')) {K:Act→World→Prop} {Q:Exit→Act→World→Prop}
  (hK: ∀E' a',Rel c E' os'→Evo E os E' os'→Fr n E' os' φ' a'→K a' E'.w):
  if Region.wanted o (yielded ops a.tmps)then o.wp P a E.w K Q else K (a.put o.dst undef) E.w:=by
 simp only[YV,Yk]at hc;obtain⟨e,he,hc⟩:=hc;split at hc
 ·rename_i hdst;split at hc
  ·rename_i hg;cases hc;simp only[Yu]at h;simp only[Region.wanted,hg,if_true];split at h
   ·rename_i r hr;obtain⟨ok,d⟩:=r;simp at h;obtain⟨rfl,rfl,rfl⟩:=h;exact ZEK hS.q R hf he hr (fun v E' R' ev hv=>hK E' _ R' ev ((hf.mono ev).putO hdst hv))
   ·obtain⟨⟨ok,d,os1⟩,hr,h⟩:=Zd h;simp at h;obtain⟨rfl,rfl,rfl⟩:=h;exact ZJ2 hS R hf he hr (fun v E' R' ev hv=>hK E' _ R' ev ((hf.mono ev).putO hdst hv))
  ·rename_i j want hg;obtain⟨s,hs,hc⟩:=Zd hc;cases hc;simp only[Yu]at h;have hwd:Region.wanted o (yielded ops a.tmps)=(yielded ops a.tmps j==some want):=by simp[Region.wanted,hg]
   rw[hwd];have un: ∀(d:D),φ'=Go.Ab.putO φ o.dst (.opt false d)→os'=os→K (a.put o.dst undef) E.w:=by
    rintro d rfl rfl;exact hK E _ R (Evo.refl _ _) (hf.putO hdst (.opt (fun h=>by cases h) (fun _=>rfl)))
   split at h
   ·rename_i b hb;rw[ZDS hs hf hb want];split at h
    ·rename_i r hr;obtain⟨ok,d⟩:=r;simp only[Zf,Zc]at h;obtain⟨h1,rfl,rfl⟩:=h;cases hw:((get φ s).cond&&(b==want))with
     |false=>
      rw[hw]at hK;simp only[Bool.false_eq_true,if_false];exact hK E _ R (Evo.refl _ _) (hf.putO hdst (.opt (fun h=>by cases h) (fun _=>rfl)))
     |true=>
      rw[hw]at hK h1;simp at h1;subst h1;simp only[if_true];exact ZEK hS.q R hf he hr (fun v E' R' ev hv=>hK E' _ R' ev ((hf.mono ev).putO hdst (.opt (fun _=>hv) (fun h=>by cases h))))
    ·split at h
     ·rename_i hw;rw[if_pos hw];obtain⟨⟨ok,d,os1⟩,hr,h⟩:=Zd h;simp at h;obtain⟨rfl,rfl,rfl⟩:=h;exact ZJ2 hS R hf he hr (fun v E' R' ev hv=>hK E' _ R' ev ((hf.mono ev).putO hdst hv))
     ·rename_i hw;simp only[Zf,Zc,true_and]at h;obtain⟨rfl,rfl⟩:=h;rw[if_neg hw];exact un .und rfl rfl
   ·split at h
    ·cases h
    ·rename_i hw;simp only[Zf,Zc,true_and]at h;obtain⟨rfl,rfl⟩:=h;rw[ZGK hs hf (by simpa using hw) want];simp only[Bool.false_eq_true,if_false];exact un .und rfl rfl
 ·cases hc
theorem ZJk {S:Tabs} (hS:SsOk P S) {ops:Array Oper} {Q:Exit→Act→World→Prop}: ∀ {l:List Oper} {il:List IOp} {E:Env} {os:List Ob} {φ:List (Nat×D)} {a:Act},Rel c E os→Fr n E os φ a→l.mapM (YV P n ops)=some il→ ∀ {φ':List (Nat×D)} {os':List Ob},Qg S φ os il=some (true,φ',os')→
  (∀E' a',Rel c E' os'→Evo E os E' os'→Fr n E' os' φ' a'→Q .normal a' E'.w)→wpList P ops Q l a E.w
 | [],il,E,os,φ,a,R,hf,hm,φ',os',h,hQ=>by
  simp at hm;subst hm;cases h;exact hQ E a R (Evo.refl _ _) hf
 |o::l,il,E,os,φ,a,R,hf,hm,φ',os',h,hQ=>by
  simp only[List.mapM_cons,Option.bind_eq_bind,Yk,Option.pure_def]at hm;obtain⟨io,hio,il',hil,hm⟩:=hm;cases hm;simp only[Qg,Yk,Kh]at h;obtain⟨⟨ok,φ1,os1⟩,h1,⟨ok2,φ2,os2⟩,h2,h3⟩:=h;simp at h3;obtain⟨⟨rfl,rfl⟩,rfl,rfl⟩:=h3;refine wpList_step fun K hK=>ZQZ hS R hf hio h1 (fun E1 a1 R1 e1 f1=> ?_)
  exact hK _ _ (ZJk hS R1 f1 hil h2 (fun E' a' R' e' f'=>hQ E' a' R' (e1.trans e') f'))
end
def IO.reads:IO→List Nat
 | .t n=> [n]
 | .c _=> []
def ZDG:Option IO→List Nat
 |some x=>x.reads
 |none=> []
def IE.reads:IE→List Nat
 | .abx _ x| .mv x| .nck x| .un _ x| .cvi _ x| .b2s x| .s2b _ x| .fld _ _ _ x| .fad _ x| .ld _ _ x| .box x| .ext x _| .len _ x=>x.reads
 | .pick c a b=>c.reads++(a.reads++b.reads)
 | .bin _ x y| .eq _ _ x y| .iad _ x y| .iada _ _ x y| .idx x y| .idxa _ _ _ x y| .sto _ x y| .mks _ _ _ _ x y| .app _ _ _ x y| .apz _ _ _ _ x y| .cpy _ x y| .mnx _ x y=>x.reads++y.reads
 | .build _ ps=>ps.flatMap fun p=>p.2.2.reads
 | .bsl _ _ _ xs=>xs.flatMap IO.reads
 | .asl _ x hi=>x.reads++ZDG hi
 | .mkm _ _=> []
 | .mln x| .mcl x| .rgm x| .rgs x| .nxt _ x| .ent x=>x.reads
 | .mlk _ _ _ x k| .mdl _ x k| .men _ _ x k=>x.reads++k.reads
 | .mup _ x k v| .est x k v=>x.reads++(k.reads++v.reads)
 | .slc _ x lo hi mx=>x.reads++(ZDG lo++(ZDG hi++ZDG mx))
 | .call f xs=>f.reads++xs.flatMap IO.reads
 | .mkf _ xs=>xs.flatMap IO.reads
def IOp.reads (o:IOp):List Nat:=o.e.reads++match o.g with|some (s,_)=> [s]|none=> []
theorem ZO {φ φ':List (Nat×D)} {x:IO} (h: ∀t∈x.reads,Go.Ab.get φ t=Go.Ab.get φ' t):ZE φ x=ZE φ' x:=by
 cases x with
 |t n=>exact h n (by simp[IO.reads])
 |c d=>rfl
theorem ZJj {φ φ':List (Nat×D)} {xs:List IO} (h: ∀t∈xs.flatMap IO.reads,Go.Ab.get φ t=Go.Ab.get φ' t):xs.map (ZE φ)=xs.map (ZE φ'):=
 List.map_congr_left fun x hx=>ZO fun t ht=>h t (List.mem_flatMap.2 ⟨x,hx,ht⟩)
theorem ZG8 {φ φ':List (Nat×D)}: ∀ {ps:List (Nat×Nat×IO)} {acc:List D},(∀t∈ps.flatMap (fun p=>p.2.2.reads),Go.Ab.get φ t=Go.Ab.get φ' t)→JJ φ ps acc=JJ φ' ps acc
 | [],acc,h=>rfl
 |(off,sz,x)::ps,acc,h=>by
  have hx:ZE φ x=ZE φ' x:=ZO fun t ht=>h t (by simp[ht])
  have ih: ∀acc,JJ φ ps acc=JJ φ' ps acc:=fun acc=>ZG8 fun t ht=>h t (by simp only[List.flatMap_cons,List.mem_append];exact .inr ht)
  simp only[JJ,hx,ih]
theorem ZGQ (S:Tab) {φ φ':List (Nat×D)} (os:List Ob) {e:IE} (h: ∀t∈e.reads,Go.Ab.get φ t=Go.Ab.get φ' t):ZS S φ os e=ZS S φ' os e:=by
 cases e with
 |mv x=>simp only[ZS,ZO (x:=x) h]
 |nck x=>simp only[ZS,ZO (x:=x) h]
 |pick p x y=>
  simp only[ZS,ZO (x:=p) (fun t ht=>h t (by simp[IE.reads,ht])),ZO (x:=x) (fun t ht=>h t (by simp[IE.reads,ht])),ZO (x:=y) (fun t ht=>h t (by simp[IE.reads,ht]))]
 |bin op x y=>simp only[ZS,ZO (x:=x) (fun t ht=>h t (by simp[IE.reads,ht])),ZO (x:=y) (fun t ht=>h t (by simp[IE.reads,ht]))]
 |eq k g x y=>simp only[ZS,ZO (x:=x) (fun t ht=>h t (by simp[IE.reads,ht])),ZO (x:=y) (fun t ht=>h t (by simp[IE.reads,ht]))]
 |un op x=>simp only[ZS,ZO (x:=x) h]
 |cvi k x=>simp only[ZS,ZO (x:=x) h]
 |b2s x=>simp only[ZS,ZO (x:=x) h]
 |s2b e x=>simp only[ZS]
 |abx e x=>simp only[ZS]
 |asl n x hi=>
  cases hi with
  |none=>simp only[ZS,ZO (x:=x) (fun t ht=>h t (by simp[IE.reads,ht]))]
  |some y=>simp only[ZS]
 |mkm dk ag=>simp only[ZS]
 |mup dk x k v=>simp only[ZS]
 |mdl dk x k=>simp only[ZS]
 |men dk z x k=>simp only[ZS]
 |est x s v=>simp only[ZS]
 |mcl x=>simp only[ZS]
 |rgm x=>simp only[ZS]
 |rgs x=>simp only[ZS]
 |nxt st x=>simp only[ZS]
 |ent x=>simp only[ZS,ZO (x:=x) h]
 |mln x=>simp only[ZS,ZO (x:=x) h]
 |mlk dk ok z x k=>simp only[ZS,ZO (x:=x) (fun t ht=>h t (by simp[IE.reads,ht])),ZO (x:=k) (fun t ht=>h t (by simp[IE.reads,ht]))]
 |fld o n ag x=>simp only[ZS,ZO (x:=x) h]
 |fad o x=>simp only[ZS,ZO (x:=x) h]
 |iad sz x y=>simp only[ZS,ZO (x:=x) (fun t ht=>h t (by simp[IE.reads,ht])),ZO (x:=y) (fun t ht=>h t (by simp[IE.reads,ht]))]
 |iada sz l x y=>simp only[ZS,ZO (x:=x) (fun t ht=>h t (by simp[IE.reads,ht])),ZO (x:=y) (fun t ht=>h t (by simp[IE.reads,ht]))]
 |idx x y=>simp only[ZS,ZO (x:=x) (fun t ht=>h t (by simp[IE.reads,ht])),ZO (x:=y) (fun t ht=>h t (by simp[IE.reads,ht]))]
 |idxa sz l ag x y=>simp only[ZS,ZO (x:=x) (fun t ht=>h t (by simp[IE.reads,ht])),ZO (x:=y) (fun t ht=>h t (by simp[IE.reads,ht]))]
 |ld n ag x=>simp only[ZS,ZO (x:=x) h]
 |sto n x y=>simp only[ZS]
 |box x=>simp only[ZS]
 |build zs ps=>simp only[ZS,ZG8 (ps:=ps) h]
 |bsl e sz n xs=>simp only[ZS]
 |mks e sz b z x y=>simp only[ZS]
 |slc sz x lo hi mx=>
  have hx:=ZO (x:=x) (fun t ht=>h t (by simp[IE.reads,ht]));have hlo:lo.map (ZE φ)=lo.map (ZE φ'):=by
   cases lo with
   |none=>rfl
   |some y=>simp only[Option.map_some];rw[ZO (x:=y) (fun t ht=>h t (by simp[IE.reads,ZDG,ht]))]
  have hhi:hi.map (ZE φ)=hi.map (ZE φ'):=by
   cases hi with
   |none=>rfl
   |some y=>simp only[Option.map_some];rw[ZO (x:=y) (fun t ht=>h t (by simp[IE.reads,ZDG,ht]))]
  have hlo':lo.map (fun l=>ZE φ l)=lo.map (fun l=>ZE φ' l):=hlo;have hhi':hi.map (fun l=>ZE φ l)=hi.map (fun l=>ZE φ' l):=hhi;have hmx:mx.map (fun l=>ZE φ l)=mx.map (fun l=>ZE φ' l):=by
   cases mx with
   |none=>rfl
   |some y=>simp only[Option.map_some];rw[ZO (x:=y) (fun t ht=>h t (by simp[IE.reads,ZDG,ht]))]
  cases mx with
  |none=>simp only[ZS,ZFP,ZGY,hx,hlo',hhi',hmx]
  |some y=>simp only[ZS,ZFP,ZGY,hx,hlo',hhi',hmx]
 |ext x i=>simp only[ZS,ZO (x:=x) h]
 |len st x=>simp only[ZS,ZO (x:=x) h]
 |app e sz b x y=>simp only[ZS]
 |apz e sz b z x y=>simp only[ZS]
 |cpy sz x y=>simp only[ZS]
 |mnx mx x y=>simp only[ZS,ZO (x:=x) (fun t ht=>h t (by simp[IE.reads,ht])),ZO (x:=y) (fun t ht=>h t (by simp[IE.reads,ht]))]
 |call f xs=>simp only[ZS,ZO (x:=f) (fun t ht=>h t (by simp[IE.reads,ht])),ZJj (xs:=xs) (fun t ht=>h t (by simp only[IE.reads,List.mem_append];exact .inr ht))]
 |mkf f xs=>simp only[ZS,ZJj (xs:=xs) h]
def Jk (S:Tabs) (φ:List (Nat×D)) (os:List Ob) (e:IE):Option (Bool×D):=
 match ZS S.q φ os e with
 |some r=>some r
 |none=>ZAe S.r φ os e
theorem ZI2 (S:Tabs) {φ φ':List (Nat×D)} (os:List Ob) {e:IE} (h: ∀t∈e.reads,Go.Ab.get φ t=Go.Ab.get φ' t):Jk S φ os e=Jk S φ' os e:=by
 unfold Jk;rw[ZGQ S.q os h];have:ZAe S.r φ os e=ZAe S.r φ' os e:=by
  cases e with
  |call f xs=>
   have h1:=ZO (x:=f) (fun t ht=>h t (by simp[IE.reads,ht]));have h2: ∀y∈xs,ZE φ y=ZE φ' y:=fun y hy=>ZO (fun t ht=>h t (by simp only[IE.reads,List.mem_append];exact .inr (List.mem_flatMap.2 ⟨y,hy,ht⟩)))
   have h3:(xs.map fun y=>(ZE φ y).val)=xs.map fun y=>(ZE φ' y).val:=List.map_congr_left (fun y hy=>by rw[h2 y hy])
   have h4:(xs.all fun y=>(ZE φ y).cond)=xs.all fun y=>(ZE φ' y).cond:=by
    have: ∀l:List IO,(∀y∈l,ZE φ y=ZE φ' y)→(l.all fun y=>(ZE φ y).cond)=l.all fun y=>(ZE φ' y).cond:=by
     intro l
     induction l with
     |nil=>intro _;rfl
     |cons y l ih=>intro hl;simp only[List.all_cons,hl y (by simp),ih (fun z hz=>hl z (by simp[hz]))]
    exact this xs h2
   simp only[ZAe,h1,h3,h4]
  |_=>rfl
 rw[this]
def Ym (S:Tabs) (φ:List (Nat×D)) (os:List Ob) (o:IOp):Option (Bool×D):=
 match o.g with
 |none=>Jk S φ os o.e
 |some (s,want)=>match(Go.Ab.get φ s).val with
  | .x (.bool b)=>match Jk S φ os o.e with
   |some r=>some (!((Go.Ab.get φ s).cond&&(b==want))||r.1,.opt ((Go.Ab.get φ s).cond&&(b==want)) r.2)
   |none=>if(Go.Ab.get φ s).cond&&(b==want)then none else some (true,.opt false .und)
  |_=>if(Go.Ab.get φ s).cond then none else some (true,.opt false .und)
def D.toX? :D→Option X
 | .x y=>some y
 |_=>none
def ZB0 (φ:List (Nat×D)) (sz:Nat):List IO→Option (Bool×List (List X))
 | []=>some (true,[])
 |x::xs=>(ZE φ x).val.cells?.bind fun cs=>(cs.mapM D.toX?).bind fun r=>if r.length=sz then
   (ZB0 φ sz xs).map fun q=>((ZE φ x).cond&&q.1,r::q.2)else none
def Kv (φ:List (Nat×D)) (id:Nat) (e:IE):Option (Bool×D×Ob):=
 match e with
  | .box x=>(ZE φ x).val.cells?.map fun cs=>((ZE φ x).cond,.ptr id 0,.box cs)
  | .bsl e sz n parts=>if n=parts.length then(ZB0 φ sz parts).map fun q=>(q.1,.ref id n 0 n,.rows false e sz q.2)else none
  |_=>none
def Ki (φ:List (Nat×D)) (s:Nat) (want:Bool):Bool:=match(Go.Ab.get φ s).val with
 | .x (.bool b)=>(Go.Ab.get φ s).cond&&(b==want)
 |_=>false
def evC (φ:List (Nat×D)) (id:Nat) (o:IOp):Option (Bool×D×Ob):=
 match o.g with
 |some (s,want)=>if Ki φ s want=true then Kv φ id o.e else none
 |none=>Kv φ id o.e
theorem ZBo (S:Tabs) {φ φ':List (Nat×D)} (os:List Ob) {o:IOp} (h: ∀t∈o.reads,Go.Ab.get φ t=Go.Ab.get φ' t):Ym S φ os o=Ym S φ' os o:=by
 obtain⟨dst,e,g⟩:=o;cases g with
 |none=>exact ZI2 S os (fun t ht=>h t (by simp[IOp.reads,ht]))
 |some p=>
  obtain⟨s,want⟩:=p;have hs:Go.Ab.get φ s=Go.Ab.get φ' s:=h s (by simp[IOp.reads]);have he:=ZI2 S os (e:=e) (φ:=φ) (φ':=φ') (fun t ht=>h t (by simp[IOp.reads,ht]));simp only[Ym,hs,he]
theorem ZHg {φ φ':List (Nat×D)} {sz:Nat}: ∀ {xs:List IO},(∀t∈xs.flatMap IO.reads,Go.Ab.get φ t=Go.Ab.get φ' t)→ZB0 φ sz xs=ZB0 φ' sz xs
 | [],h=>rfl
 |x::xs,h=>by
  have hx:ZE φ x=ZE φ' x:=ZO fun t ht=>h t (by simp[ht])
  have ih:ZB0 φ sz xs=ZB0 φ' sz xs:=ZHg fun t ht=>h t (by simp only[List.flatMap_cons,List.mem_append];exact .inr ht)
  simp only[ZB0,hx,ih]
theorem ZSw {φ φ':List (Nat×D)} (id:Nat) {e:IE} (h: ∀t∈e.reads,Go.Ab.get φ t=Go.Ab.get φ' t):Kv φ id e=Kv φ' id e:=by
 cases e with
 |box x=>simp only[Kv,ZO (x:=x) (fun t ht=>h t (by simp[IE.reads,ht]))]
 |bsl e sz n xs=>simp only[Kv,ZHg (xs:=xs) (fun t ht=>h t (by simp only[IE.reads];exact ht))]
 |_=>rfl
theorem ZWB {φ φ':List (Nat×D)} (id:Nat) {o:IOp} (h: ∀t∈o.reads,Go.Ab.get φ t=Go.Ab.get φ' t):evC φ id o=evC φ' id o:=by
 obtain⟨dst,e,g⟩:=o;have he:=ZSw (φ:=φ) (φ':=φ') id (e:=e) (fun t ht=>h t (by simp[IOp.reads,ht]));cases g with
 |some p=>
  have e1:=h p.1 (by simp[IOp.reads]);have e2:Ki φ p.1 p.2=Ki φ' p.1 p.2:=by unfold Ki;rw[e1]
  simp only[evC,he,e2]
 |none=>exact he
theorem ZAv {os Y:List Ob} {i:Nat} {o:Ob} (h:os[i]? =some o):(os++Y)[i]? =some o:=by
 rw[Yt (Za h).1];exact h
theorem ZKI {os Y:List Ob} {d:D} {r:List (List X)} (h:Zq os d=some r):Zq (os++Y) d=some r:=by
 cases d with
 |ref id ext off len=>
  simp only[Zq]at h⊢;cases ho:os[id]? with
  |none=>simp[ho]at h
  |some o=>rw[ho]at h;rw[ZAv ho];exact h
 |x y=>cases y<;>exact h
 |_=>exact h
theorem ZLk {os Y:List Ob} {d:D} (h:Jw os d=true):Jw (os++Y) d=true:=by
 cases d with
 |ref id ext off len=>
  simp only[Jw]at h⊢;cases ho:os[id]? with
  |none=>simp[ho]at h
  |some o=>rw[ho]at h;rw[ZAv ho];exact h
 |_=>rfl
theorem ZaQ {os Y:List Ob} {k:EqK} {x y:D} {b:Bool} (h:eqR os k x y=some (true,b)):eqR (os++Y) k x y=some (true,b):=by
 unfold eqR at h⊢;split at h
 ·exact h
 ·split at h
  ·obtain⟨b',h1,h2⟩:=Zd h;simp at h2;obtain⟨rfl,rfl⟩:=h2;refine Option.map_eq_some_iff.2 ⟨true,?_,rfl⟩;unfold nzD at h1⊢;split at h1
   ·simp only[Zf,ZW]at h1⊢;exact⟨ZLk h1.1,h1.2⟩
   ·exact h1
   ·exact h1
   ·exact h1
   ·cases h1
  ·cases h
theorem ZHx {os Y:List Ob} {d:D} {x:X} (h:Yv os d=some x):Yv (os++Y) d=some x:=by
 cases d with
 |x y=>exact h
 |bref id off len=>
  simp only[Yv,Kh,ZJD]at h⊢;obtain⟨r,h1,h2⟩:=h;refine⟨r,?_,h2⟩;cases ho:os[id]? with
  |none=>simp[ho]at h1
  |some ob=>rw[ho]at h1;rw[ZAv ho];exact h1
 |_=>
  simp only[Yv,Kh]at h⊢;obtain⟨r,h1,h2⟩:=h;exact⟨r,ZKI h1,h2⟩
theorem ZGw {α β:Type} {f g:α→Option β} (hfg: ∀x y,f x=some y→g x=some y): ∀ {l:List α} {m:List β},l.mapM f=some m→l.mapM g=some m
 | [],m,h=>by simpa using h
 |x::l,m,h=>by
  simp only[List.mapM_cons,Option.bind_eq_bind,Yk,Option.pure_def]at h⊢;obtain⟨y,hy,ys,hys,h⟩:=h;exact⟨y,hfg _ _ hy,ys,ZGw hfg hys,h⟩
theorem ZML {os Y:List Ob} {d d':D} (h:Kj os d=some d'):Kj (os++Y) d=some d':=by
 cases d with
 |x y=>exact h
 |agg ds=>
  simp only[Kj,Kh]at h⊢;obtain⟨xs,h1,h2⟩:=h;exact⟨xs,ZGw (fun _ _=>ZHx) h1,h2⟩
 |fn f caps=>
  cases caps with
  |nil=>exact h
  |cons a l=>
   simp only[Kj,Kh]at h⊢;obtain⟨x,h1,h2⟩:=h;exact⟨x,ZHx h1,h2⟩
 |_=>
  simp only[Kj,Kh]at h⊢;obtain⟨x,h1,h2⟩:=h;exact⟨x,ZHx h1,h2⟩
theorem ZZZ {S:Tab} {φ:List (Nat×D)} {os Y:List Ob} {e:IE} {d:D} (h:ZS S φ os e=some (true,d)):ZS S φ (os++Y) e=some (true,d):=by
 cases e with
 |b2s x=>
  simp only[ZS,Kh]at h⊢;obtain⟨r,h1,h2⟩:=h;exact⟨r,ZKI h1,h2⟩
 |iad sz x i=>
  simp only[ZS]at h⊢;cases hi:ZF (ZE φ i).val with
  |none=>simp[hi]at h
  |some k=>
   simp only[hi]at h⊢;generalize hv:(ZE φ x).val=v at h;cases v with
   |ref id ext off len=>
    simp only at h⊢;cases ho:os[id]? with
    |none=>simp[ho]at h
    |some o=>rw[ho]at h;rw[ZAv ho];exact h
   |x y=>cases y<;>exact h
   |_=>exact h
 |ld n ag x=>
  simp only[ZS]at h⊢;generalize hv:(ZE φ x).val=v at h;cases v with
  |ptr id o=>
   simp only at h⊢;cases ho:os[id]? with
   |none=>simp[ho]at h
   |some ob=>rw[ho]at h;rw[ZAv ho];exact h
  |eptr id ext i o=>
   simp only at h⊢;cases ho:os[id]? with
   |none=>simp[ho]at h
   |some ob=>rw[ho]at h;rw[ZAv ho];exact h
  |_=>exact h
 |mln x=>
  simp only[ZS]at h⊢;generalize hv:(ZE φ x).val=v at h;cases v with
  |mref id=>
   simp only at h⊢;cases ho:os[id]? with
   |none=>simp[ho]at h
   |some ob=>rw[ho]at h;rw[ZAv ho];exact h
  |_=>exact h
 |mlk dk ok z x k=>
  simp only[ZS]at h⊢;generalize hv:(ZE φ x).val=v at h;cases v with
  |mref id=>
   simp only at h⊢;cases ho:os[id]? with
   |none=>simp[ho]at h
   |some ob=>rw[ho]at h;rw[ZAv ho];exact h
  |_=>exact h
 |slc sz x lo hi mx=>
  simp only[ZS]at h⊢;split
  ·rename_i h0;rw[if_pos h0]at h;exact h
  ·rename_i h0;rw[if_neg h0]at h;simp only[ZGY]at h⊢;generalize hv:(ZE φ x).val=v at h;cases v with
   |ref id ext off len=>
    simp only at h⊢;cases ho:os[id]? with
    |none=>simp[ho]at h
    |some ob=>rw[ho]at h;rw[ZAv ho];exact h
   |x y=>cases y<;>exact h
   |_=>exact h
 |eq k neg x y=>
  simp only[ZS,Kh]at h⊢;obtain⟨⟨ok,r⟩,h1,h2⟩:=h;simp only[Zc,ZW]at h2;obtain⟨⟨h3,rfl⟩,h4⟩:=h2;exact⟨_,ZaQ h1,by simp[h3,←h4]⟩
 |asl m x hi=>
  cases hi with
  |some y=>exact h
  |none=>
   simp only[ZS]at h⊢;generalize hv:(ZE φ x).val=v at h;cases v with
   |ptr id o=>
    simp only at h⊢;cases ho:os[id]? with
    |none=>simp[ho]at h
    |some ob=>rw[ho]at h;rw[ZAv ho];exact h
   |_=>exact h
 |ent x=>
  simp only[ZS]at h⊢;generalize hv:(ZE φ x).val=v at h;cases v with
  |iref mid it=>
   simp only at h⊢;cases ho:os[mid]? with
   |none=>simp[ho]at h
   |some ob=>rw[ho]at h;rw[ZAv ho];exact h
  |_=>exact h
 |len st x=>
  simp only[ZS,Kh]at h⊢;obtain⟨r,h1,h2⟩:=h;refine⟨r,h1,?_⟩;simp only[Zc,ZW]at h2⊢;exact⟨⟨h2.1.1,ZLk h2.1.2⟩,h2.2⟩
 |call f xs=>
  simp only[ZS]at h⊢;generalize hv:(ZE φ f).val=v at h;cases v with
  |fn g caps=>
   simp only[Yk]at h⊢;obtain⟨as,h1,cs,h2,r,h3,h4⟩:=h;exact⟨as,ZGw (fun _ _=>ZML) h1,cs,ZGw (fun _ _=>ZML) h2,r,h3,h4⟩
  |_=>exact h
 |_=>exact h
theorem ZLQ {P:Program} {S:Tabs} (hS:SsOk P S) {c:Ctx} {E:Env} {os Y:List Ob} {n:Nat} {φ:List (Nat×D)} {a:Act} (R:Rel c E (os++Y)) (hf:Fr n E (os++Y) φ a) {o:Oper} {e:IE} (hc:JZ P o.op=some e) {d:D} (h:Jk S φ os e=some (true,d)) {K:Act→World→Prop} {Q:Exit→Act→World→Prop}
  (hK: ∀v E',Rel c E' (os++Y)→Evo E (os++Y) E' (os++Y)→V E' (os++Y) d v→K (a.put o.dst v) E'.w):o.wp P a E.w K Q:=by
 unfold Jk at h;split at h
 ·rename_i r hr;cases h;exact ZEK hS.q R hf hc (ZZZ hr) hK
 ·exact ZUA hS.r R hf hc h hK
theorem ZDI {P:Program} {S:Tabs} (hS:SsOk P S) {c:Ctx} {E:Env} {os Y:List Ob} {n:Nat} {φ:List (Nat×D)} {a:Act} (R:Rel c E (os++Y)) (hf:Fr n E (os++Y) φ a) {ops:Array Oper} {o:Oper} {io:IOp} (hc:YV P n ops o=some io) {d:D} (h:Ym S φ os io=some (true,d)) {K:Act→World→Prop} {Q:Exit→Act→World→Prop}
  (hK: ∀v E',Rel c E' (os++Y)→Evo E (os++Y) E' (os++Y)→V E' (os++Y) d v→K (a.put o.dst v) E'.w):
  if Region.wanted o (yielded ops a.tmps)then o.wp P a E.w K Q else K (a.put o.dst undef) E.w:=by
 simp only[YV,Yk]at hc;obtain⟨e,he,hc⟩:=hc;split at hc
 ·split at hc
  ·rename_i hg;cases hc;simp only[Ym]at h;simp only[Region.wanted,hg,if_true];exact ZLQ hS R hf he h hK
  ·rename_i j want hg;obtain⟨s,hs,hc⟩:=Zd hc;cases hc;simp only[Ym]at h;have hwd:Region.wanted o (yielded ops a.tmps)=(yielded ops a.tmps j==some want):=by simp[Region.wanted,hg]
   rw[hwd];split at h
   ·rename_i b hb;rw[ZDS hs hf hb want];split at h
    ·rename_i r hr;obtain⟨ok,d⟩:=r;simp only[Zf,Zc]at h;obtain⟨h1,rfl⟩:=h;cases hw:((Go.Ab.get φ s).cond&&(b==want))with
     |false=>
      rw[hw]at hK;simp only[Bool.false_eq_true,if_false];exact hK undef E R (Evo.refl _ _) (.opt (fun h=>by cases h) (fun _=>rfl))
     |true=>
      rw[hw]at hK h1;simp at h1;subst h1;simp only[if_true];exact ZLQ hS R hf he hr (fun v E' R' ev hv=>hK v E' R' ev (.opt (fun _=>hv) (fun h=>by cases h)))
    ·split at h
     ·cases h
     ·rename_i hw;simp only[Zf,Zc,true_and]at h;subst h;rw[if_neg hw];exact hK undef E R (Evo.refl _ _) (.opt (fun h=>by cases h) (fun _=>rfl))
   ·split at h
    ·cases h
    ·rename_i hw;simp only[Zf,Zc,true_and]at h;subst h;rw[ZGK hs hf (by simpa using hw) want];simp only[Bool.false_eq_true,if_false];exact hK undef E R (Evo.refl _ _) (.opt (fun h=>by cases h) (fun _=>rfl))
 ·cases hc
theorem ZN3 {c:Ctx} {E:Env} {os:List Ob} (R:Rel c E os) {id:Nat} (hd:os[id]? =some .dead) {cs:List D} (vs:Array Value) (t:Nat) (hl:vs.size=cs.length) (h1: ∀u∈vs.toList,u.oneCell'=true) (hv: ∀(j:Nat) (d:D) (u:Value),cs[j]? =some d→vs[j]? =some u→V E os d u):
  ∃E',E'.w=E.w.alloc (.cells vs t)∧Rel c E' (os.set id (.box cs))∧Evo E os E' (os.set id (.box cs))∧V E' (os.set id (.box cs)) (.ptr id 0) (.pointer (some ⟨E.w.heap.size,0,none⟩)):=by
 obtain⟨p,hp,_⟩:=R.at hd;have hlt:=(Za hd).1;have hk:=JU E.w (.cells vs t);obtain⟨R',ev⟩:=R.set hd hp (E.w.alloc (.cells vs t)) (.box cs) (E.w.heap.size,undef) ⟨hk.os,hk.tape,hk.output,hk.size,fun k hk' _=>hk.block k hk' (fun h=>h)⟩ (fun b hb=>by cases hb;exact .inr (.inl (Nat.le_refl _))) (fun sz rs h=>by cases h) (fun ds h=>by cases h) (fun ev=>by
  refine⟨vs,t,heap_alloc_new _ _,hl,fun j d v hd hv'=>⟨(hv j d v hd hv').mono ev,h1 v ?_⟩⟩;rw[←Array.getElem?_toList]at hv';exact List.mem_of_getElem? hv')
 refine⟨_,rfl,R',ev,.ptr (cu:=undef) (ds:=cs) (by simp[hlt]) ?_⟩;show(E.ob.set id (E.w.heap.size,undef))[id]? =_;simp[R.len,hlt]
theorem ZX0 {c:Ctx} {E:Env} {os:List Ob} (R:Rel c E os) {id:Nat} (hd:os[id]? =some .dead) {w':World} (hk:Kept (fun _=>False) E.w w') {fz:Bool} {e sz:Nat} {rs:List (List X)} {cu:Value} {xs:List Value} (hr:KM w' fz e sz rs.length cu xs) (hb: ∀b,cu.ownBlock=some b→E.w.heap.size≤b) (hz: ∀r∈rs,r.length=sz)
  (hv: ∀(i:Nat) (r:List X) (j:Nat) (x:X) (v:Value),rs[i]? =some r→r[j]? =some x→xs[i*sz+j]? =some v→VX E.w E.st x v):
  ∃E',E'.w=w'∧Rel c E' (os.set id (.rows fz e sz rs))∧Evo E os E' (os.set id (.rows fz e sz rs))∧V E' (os.set id (.rows fz e sz rs)) (.ref id rs.length 0 rs.length) cu:=by
 obtain⟨p,hp,_⟩:=R.at hd;have hlt:=(Za hd).1;obtain⟨R',ev⟩:=R.set hd hp w' (.rows fz e sz rs) (0,cu) ⟨hk.os,hk.tape,hk.output,hk.size,fun k hk' _=>hk.block k hk' (fun h=>h)⟩ (fun b hb'=> .inr (.inl (hb b hb'))) (fun sz rs h=>by cases h) (fun ds h=>by cases h) (fun ev=>⟨xs,hr,hz,fun i r j x v h1 h2 h3=>(hv i r j x v h1 h2 h3).mono ev.st⟩);have hob:(E.ob.set id (0,cu))[id]? =some (0,cu):=by simp[R.len,hlt]
 refine⟨_,rfl,R',ev,.ref ⟨.rows fz e sz rs,sz,rs.length,by simp[hlt],rfl,?_⟩ ?_⟩
 ·refine⟨Nat.le_refl _,fun _=>⟨by omega,0,?_⟩⟩;rcases hr.2 with⟨h3,h4⟩|⟨g,cap,cells,fr,h3,h4,h5,h6,h7⟩
  ·subst h3;exact⟨none,0,none,0,by rw[hob,h4],by rw[h4],by omega,Nat.zero_le _,fun _=>⟨rfl,rfl⟩,fun _ ad h=>(by cases h),fun _=>⟨h4,rfl⟩,fun ad h=>(by cases h)⟩
  ·subst h3;exact⟨_,cap,_,cap,hob,rfl,h5,h6,fun _=>⟨rfl,rfl⟩,fun _ ad h=>(by cases h;simp),fun h=>(by cases h),fun ad h=>(by cases h;rfl)⟩
 ·rcases hr.2 with⟨h3,h4⟩|⟨g,cap,cells,fr,h3,h4,h5,h6,h7⟩<;>subst h3<;>rfl
theorem ZZI {cs:List D} {r:List X} (h:cs.mapM D.toX? =some r):r.length=cs.length∧ ∀(j:Nat) (x:X),r[j]? =some x→cs[j]? =some (.x x):=by
 obtain⟨h1,h2⟩:=ZAl h;refine⟨h1.symm,fun j x hx=> ?_⟩;have hj:=(Za hx).1;have hc:cs[j]? =some (cs[j]'(by omega)):=YE _;have:=h2 j _ x hc hx;rw[hc];generalize cs[j]'(by omega)=d at this;cases d<;>simp[D.toX?]at this
 rw[this]
section
variable {P:Program} {c:Ctx} {E:Env} {os:List Ob} {n:Nat} {φ:List (Nat×D)} {a:Act}
theorem ZLS {sz:Nat} (hf:Fr n E os φ a): ∀ {xs:List Operand} {ys:List IO} {rows:List (List X)},xs.mapM ZT=some ys→ZB0 φ sz ys=some (true,rows)→
  rows.length=xs.length∧(∀r∈rows,r.length=sz)∧(∀x∈xs,(a.eval x).cells.size=sz∧ ∀u∈(a.eval x).cells.toList,u.oneCell'=true)∧
   ∀(i:Nat) (r:List X) (x:Operand) (j:Nat) (y:X) (v:Value),rows[i]? =some r→xs[i]? =some x→r[j]? =some y→(a.eval x).cells[j]? =some v→VX E.w E.st y v
 | [],ys,rows,hm,h=>by
  simp at hm;subst hm;cases h;exact⟨rfl,fun r hr=>(by cases hr),fun x hx=>(by cases hx),fun i r x j y v hr=>(by simp at hr)⟩
 |x::xs,ys,rows,hm,h=>by
  simp only[List.mapM_cons,Option.bind_eq_bind,Yk,Option.pure_def]at hm;obtain⟨y,hy,ys',hys,hm⟩:=hm;cases hm;simp only[ZB0,Yk]at h;obtain⟨cs,hcs,r,hr,h⟩:=h;split at h
  ·rename_i hlen;obtain⟨⟨b,rs⟩,h2,h3⟩:=Zd h;simp at h3;obtain⟨⟨hc,rfl⟩,rfl⟩:=h3;obtain⟨q1,q2,q3⟩:=((V.op hf hy).strip hc).cells hcs;obtain⟨m1,m2⟩:=ZZI hr;obtain⟨k3,k4,k5,k6⟩:=ZLS hf hys h2;refine⟨by simp[k3],fun r' hr'=> ?_,fun z hz=> ?_,fun i r' z j w v hr' hz hw hv=> ?_⟩
   ·rcases List.mem_cons.1 hr' with rfl|hr'
    ·exact hlen
    ·exact k4 r' hr'
   ·rcases List.mem_cons.1 hz with rfl|hz
    ·exact⟨by omega,q2⟩
    ·exact k5 z hz
   ·cases i with
    |zero=>
     simp at hr' hz;subst hr';subst hz;exact(q3 j _ v (m2 j w hw) hv).xx
    |succ i=>exact k6 i r' z j w v (by simpa using hr') (by simpa using hz) hw hv
  ·cases h
theorem ZKo {ops:Array Oper} {o:Oper} {j s:Nat} {want:Bool} (hg:o.guard=some (j,want)) (hs:(ops[j]?).bind (·.dst)=some s) (hf:Fr n E os φ a) (hm:Ki φ s want=true):Region.wanted o (yielded ops a.tmps)=true:=by
 have hwd:Region.wanted o (yielded ops a.tmps)=(yielded ops a.tmps j==some want):=by simp[Region.wanted,hg]
 rw[hwd];unfold Ki at hm;split at hm
 ·rename_i b hb;rw[ZDS hs hf hb want];exact hm
 ·cases hm
theorem ZQ3 (R:Rel c E os) (hf:Fr n E os φ a) {o:Oper} {e:IE} (he:JZ P o.op=some e) {id:Nat} (hd:os[id]? =some .dead) {d:D} {ob:Ob} (h:Kv φ id e=some (true,d,ob)) {K:Act→World→Prop} {Q:Exit→Act→World→Prop}
  (hK: ∀v E',Rel c E' (os.set id ob)→Evo E os E' (os.set id ob)→V E' (os.set id ob) d v→K (a.put o.dst v) E'.w):
  o.wp P a E.w K Q:=by
 have fin:(∃v E',(execOp a.eval o).run P E.w= .ok (.value v) E'.w∧Rel c E' (os.set id ob)∧Evo E os E' (os.set id ob)∧V E' (os.set id ob) d v)→o.wp P a E.w K Q:=by
  rintro⟨v,E',h1,h2,h3,h4⟩;unfold Oper.wp;rw[h1];exact hK v E' h2 h3 h4
 generalize hop:o.op=op at he;cases e<;>simp only[Kv]at h<;>(try cases h)
 case box x=>
  obtain⟨cs,hcs,h⟩:=Zd h;simp only[Zc]at h;obtain⟨h1,rfl,rfl⟩:=h;refine fin ?_;cases op<;>simp only[JZ]at he<;>(try cases he)
  case box t y=>
   obtain⟨z,hz,he2⟩:=Zd he;clear he;split at he2
   ·cases he2
   cases he2;obtain⟨q1,q2,q3⟩:=((V.op hf hz).strip h1).cells hcs;obtain⟨E',k1,k2,k3,k4⟩:=ZN3 R hd (a.eval y).cells t q1 q2 q3;exact⟨_,E',ZGh (s:=Instr.box t (a.eval y)) (by unfold execOp;rw[hop]) (by rw[k1];simp[Instr.box,newVar,newRow]),k2,k3,k4⟩
  case alloc t=>
   simp only[Yk,Kh]at he;obtain⟨i,hi,z,hz,he2⟩:=he;split at he2
   ·cases he2
   cases he2;have hcs:(Jb z).cells? =some cs:=by
    have:(Jb z).val=Jb z:=by unfold Jb Qm;split<;>(try split)<;>(try split)<;>rfl
    rw[←this];exact hcs
   obtain⟨q1,q2,q3⟩:=(V.const E os z).cells hcs;obtain⟨E',k1,k2,k3,k4⟩:=ZN3 R hd z.cells t q1 q2 q3;exact⟨_,E',ZGh (s:=Instr.alloc t true (.tuple #[])) (by unfold execOp;rw[hop]) (by rw[k1];simp[Instr.alloc,zeroValue,ZBY hi,hz,newVar,newRow]),k2,k3,k4⟩
  case makeFunc fn first caps=>
   cases fn<;>simp only at he<;>(try cases he)
   split at he
   ·obtain⟨ys,hys,he⟩:=Zr he;cases he
   ·cases he
  all_goals
   exfalso;have hna:NP (fun e=>match e with| .box _=>true|_=>false) (some (.box x)):=by
    rw[←he]
    repeat first|exact NP.none|exact NP.some rfl|(refine NP.bind (fun _=> ?_))|(refine NP.bind' (fun _=> ?_))|(refine NP.map (fun _=>rfl))|(unfold ZAx)|split
   exact absurd (hna _ rfl) (by simp)
 case bsl el sz m parts=>
  split at h
  ·rename_i hm;obtain⟨⟨b,rows⟩,h1,h⟩:=Zd h;simp only[Zc]at h;obtain⟨rfl,rfl,rfl⟩:=h;refine fin ?_;cases op<;>simp only[JZ]at he<;>(try cases he)
   case buildSlice t m' ps=>
    split at he
    ·rename_i el' ht;obtain⟨i,hi,he⟩:=Zr he;obtain⟨z,hz,he⟩:=Zr he;split at he
     ·rename_i hle;obtain⟨qs,hqs,he⟩:=Zd he;cases he;obtain⟨g1,g2⟩:=ZEF hqs;obtain⟨k1,k2,k3,k4⟩:=ZLS hf g1 h1;have hpl:(ps.toList.map (·.2)).length=m:=by simp[hle.1]
      obtain⟨cs,q1,q2,q3⟩:=ZLG (P:=P) ht hi hz ((ps.toList.map (·.2)).map a.eval) (by simpa using hpl) hle.2.1 (fun v hv=>by obtain⟨x,hx,rfl⟩:=List.mem_map.1 hv;exact(k3 x hx).1) E.w;have hrl:rows.length=m:=by omega
      have hrow:KM (E.w.alloc (.cells cs el)) false el i.size rows.length (.slice (some ⟨E.w.heap.size,0,none⟩) m m) cs.toList:=by
       refine⟨by rw[Array.length_toList,q3,hrl],.inr ⟨E.w.heap.size,m,cs,(0,0),by rw[hrl],heap_alloc_new _ _,by omega,?_,q3,?_,.inl rfl⟩⟩
       ·have:=hle.2.2;simp only[maxLen];omega
       ·rw[YN (by rw[Array.length_toList,q3,hrl];omega)]
      obtain⟨E',w1,w2,w3,w4⟩:=ZX0 R hd (JU _ _) hrow (fun b hb=>by cases hb;exact Nat.le_refl _) k2 (fun k r j x v hk hx hv=>by
       have hk':k<(ps.toList.map (·.2)).length:=by have:=(Za hk).1;omega
       have hj:j<i.size:=by rw[←k2 r (List.mem_of_getElem? hk)];exact(Za hx).1
       have hxk:(ps.toList.map (·.2))[k]? =some ((ps.toList.map (·.2))[k]):=YE hk';rw[q2,ZI7 ((ps.toList.map (·.2)).map a.eval) i.size (fun v hv=>by obtain⟨x,hx,rfl⟩:=List.mem_map.1 hv;exact(k3 x hx).1) k j (a.eval ((ps.toList.map (·.2))[k])) (by rw[YC,hxk];rfl) hj]at hv;exact k4 k r _ j x v hk hxk hx hv)
      rw[hrl]at w4;refine⟨_,E',ZGh (s:=Instr.buildSlice t m (ps.map fun(i,x)=>(i,a.eval x))) (by unfold execOp;rw[hop]) ?_,w2,w3,w4⟩;have e1:(ps.map fun(p:Nat×Operand)=>(p.1,a.eval p.2))=((((ps.toList.map (·.2)).map a.eval).zipIdx 0).map fun p=>(p.2,p.1)).toArray:=by
       apply Array.toList_inj.1;rw[Array.toList_map];exact ZH6 a.eval ps.toList 0 g2
      have e2:(ps.map fun(x:Nat×Operand)=>match x with|(i,x)=>(i,a.eval x))=(ps.map fun(p:Nat×Operand)=>(p.1,a.eval p.2)):=rfl;rw[e2,e1,w1];exact q1
     ·cases he
    ·cases he
   case makeFunc fn first caps=>
    cases fn<;>simp only at he<;>(try cases he)
    split at he
    ·obtain⟨ys,hys,he⟩:=Zr he;cases he
    ·cases he
   all_goals
    exfalso;have hna:NP (fun e=>match e with| .bsl _ _ _ _=>true|_=>false) (some (.bsl el sz m parts)):=by
     rw[←he]
     repeat first|exact NP.none|exact NP.some rfl|(refine NP.bind (fun _=> ?_))|(refine NP.bind' (fun _=> ?_))|(refine NP.map (fun _=>rfl))|(unfold ZAx)|split
    exact absurd (hna _ rfl) (by simp)
  ·cases h
theorem ZdX (R:Rel c E os) (hf:Fr n E os φ a) {ops:Array Oper} {o:Oper} {io:IOp} (hc:YV P n ops o=some io) {id:Nat} (hd:os[id]? =some .dead) {d:D} {ob:Ob} (h:evC φ id io=some (true,d,ob)) {K:Act→World→Prop} {Q:Exit→Act→World→Prop}
  (hK: ∀v E',Rel c E' (os.set id ob)→Evo E os E' (os.set id ob)→V E' (os.set id ob) d v→K (a.put o.dst v) E'.w):
  if Region.wanted o (yielded ops a.tmps)then o.wp P a E.w K Q else K (a.put o.dst undef) E.w:=by
 simp only[YV,Yk]at hc;obtain⟨e,he,hc⟩:=hc;split at hc
 ·split at hc
  ·rename_i hg;cases hc;simp only[Region.wanted,hg,if_true];exact ZQ3 R hf he hd h hK
  ·rename_i j want hg;obtain⟨s,hs,hc⟩:=Zd hc;cases hc;simp only[evC]at h;split at h
   ·rename_i hm;rw[ZKo hg hs hf hm,if_pos rfl];exact ZQ3 R hf he hd h hK
   ·cases h
 ·cases hc
def QM (S:Tabs) (φ:List (Nat×D)) (os:List Ob) (id:Nat) (o:IOp):Option (Bool×D×Ob):=
 match evC φ id o with
 |some r=>some r
 |none=>match o.g with
  |none=>ZCj S.k φ os id o.e
  |some (s,want)=>if Ki φ s want=true then ZCj S.k φ os id o.e else none
theorem ZMV (S:Tabs) {φ φ':List (Nat×D)} (os:List Ob) (id:Nat) {o:IOp} (h: ∀t∈o.reads,Go.Ab.get φ t=Go.Ab.get φ' t):QM S φ os id o=QM S φ' os id o:=by
 unfold QM;rw[ZWB id h];have: ∀e,(∀t∈e.reads,Go.Ab.get φ t=Go.Ab.get φ' t)→ZCj S.k φ os id e=ZCj S.k φ' os id e:=by
  intro e he;cases e with
  |call f xs=>
   have h1:=ZO (x:=f) (fun t ht=>he t (by simp[IE.reads,ht]));have h2: ∀y∈xs,ZE φ y=ZE φ' y:=fun y hy=>ZO (fun t ht=>he t (by simp only[IE.reads,List.mem_append];exact .inr (List.mem_flatMap.2 ⟨y,hy,ht⟩)))
   have h3:(xs.map fun y=>(ZE φ y).val)=xs.map fun y=>(ZE φ' y).val:=List.map_congr_left (fun y hy=>by rw[h2 y hy])
   have h4:(xs.all fun y=>(ZE φ y).cond)=xs.all fun y=>(ZE φ' y).cond:=by
    have: ∀l:List IO,(∀y∈l,ZE φ y=ZE φ' y)→(l.all fun y=>(ZE φ y).cond)=l.all fun y=>(ZE φ' y).cond:=by
     intro l
     induction l with
     |nil=>intro _;rfl
     |cons y l ih=>intro hl;simp only[List.all_cons,hl y (by simp),ih (fun z hz=>hl z (by simp[hz]))]
    exact this xs h2
   simp only[ZCj,h1,h3,h4]
  |_=>rfl
 obtain⟨dst,e,g⟩:=o;cases g with
 |some p=>
  have e1:=h p.1 (by simp[IOp.reads]);have e2:Ki φ p.1 p.2=Ki φ' p.1 p.2:=by unfold Ki;rw[e1]
  simp only[this e (fun t ht=>h t (by simp[IOp.reads,ht])),e2]
 |none=>simp only[this e (fun t ht=>h t (by simp[IOp.reads,ht]))]
theorem ZXG {S:Tabs} (hS:SsOk P S) {Y:List Ob} (R:Rel c E (os++Y)) (hf:Fr n E (os++Y) φ a) {ops:Array Oper} {o:Oper} {io:IOp} (hc:YV P n ops o=some io) {id:Nat} (hd:(os++Y)[id]? =some .dead) {d:D} {ob:Ob} (h:QM S φ os id io=some (true,d,ob)) {K:Act→World→Prop} {Q:Exit→Act→World→Prop}
  (hK: ∀v E',Rel c E' ((os++Y).set id ob)→Evo E (os++Y) E' ((os++Y).set id ob)→V E' ((os++Y).set id ob) d v→K (a.put o.dst v) E'.w):
  if Region.wanted o (yielded ops a.tmps)then o.wp P a E.w K Q else K (a.put o.dst undef) E.w:=by
 unfold QM at h;split at h
 ·rename_i r hr;cases h;exact ZdX R hf hc hd hr hK
 ·split at h
  ·rename_i hg;simp only[YV,Yk]at hc;obtain⟨e,he,hc⟩:=hc;split at hc
   ·split at hc
    ·rename_i hgo;cases hc;simp only[Region.wanted,hgo,if_true];exact ZNm hS.k R hf he hd h hK
    ·obtain⟨s,hs,hc⟩:=Zd hc;cases hc;cases hg
   ·cases hc
  ·rename_i hg;split at h
   ·rename_i hm;simp only[YV,Yk]at hc;obtain⟨e,he,hc⟩:=hc;split at hc
    ·split at hc
     ·rename_i hgo;cases hc;cases hg
     ·rename_i hgo;obtain⟨s,hs,hc⟩:=Zd hc;cases hc;cases hg;rw[ZKo hgo hs hf hm,if_pos rfl];exact ZNm hS.k R hf he hd h hK
    ·cases hc
   ·cases h
def KX (S:Tabs) (φ:List (Nat×D)) (os:List Ob) (o:IOp):Option (Bool×D×List Ob):=
 match o.g with
 |none=>match ZS S.q φ os o.e with
  |some r=>some (r.1,r.2,os)
  |none=>Ku S φ os o.e
 |some (s,want)=>match(Go.Ab.get φ s).val with
  | .x (.bool b)=>match ZS S.q φ os o.e with
   |some r=>some (!((Go.Ab.get φ s).cond&&(b==want))||r.1,.opt ((Go.Ab.get φ s).cond&&(b==want)) r.2,os)
   |none=>if(Go.Ab.get φ s).cond&&(b==want)then Ku S φ os o.e else some (true,.opt false .und,os)
  |_=>if(Go.Ab.get φ s).cond then none else some (true,.opt false .und,os)
theorem ZHA {φ φ':List (Nat×D)} {sz:Nat}: ∀ {xs:List IO} {os:List Ob},(∀t∈xs.flatMap IO.reads,Go.Ab.get φ t=Go.Ab.get φ' t)→JH φ sz os xs=JH φ' sz os xs
 | [],os,h=>rfl
 |x::xs,os,h=>by
  have hx:ZE φ x=ZE φ' x:=ZO fun t ht=>h t (by simp[ht])
  have ih: ∀os,JH φ sz os xs=JH φ' sz os xs:=fun os=>ZHA fun t ht=>h t (by simp only[List.flatMap_cons,List.mem_append];exact .inr ht)
  simp only[JH,hx,ih]
theorem ZHR {φ φ':List (Nat×D)} {sz:Nat}: ∀ {xs:List IO},(∀t∈xs.flatMap IO.reads,Go.Ab.get φ t=Go.Ab.get φ' t)→JK φ sz xs=JK φ' sz xs
 | [],h=>rfl
 |x::xs,h=>by
  have hx:ZE φ x=ZE φ' x:=ZO fun t ht=>h t (by simp[ht])
  have ih:JK φ sz xs=JK φ' sz xs:=ZHR fun t ht=>h t (by simp only[List.flatMap_cons,List.mem_append];exact .inr ht)
  simp only[JK,hx,ih]
theorem ZKW (S:Tabs) {φ φ':List (Nat×D)} (os:List Ob) {e:IE} (h: ∀t∈e.reads,Go.Ab.get φ t=Go.Ab.get φ' t):Ku S φ os e=Ku S φ' os e:=by
 unfold Ku;have h1:ZEX S.t φ os e=ZEX S.t φ' os e:=by
  cases e with
  |call f xs=>
   have h1:=ZO (x:=f) (fun t ht=>h t (by simp[IE.reads,ht]));have h2: ∀y∈xs,ZE φ y=ZE φ' y:=fun y hy=>ZO (fun t ht=>h t (by simp only[IE.reads,List.mem_append];exact .inr (List.mem_flatMap.2 ⟨y,hy,ht⟩)))
   have h3:(xs.map fun y=>(ZE φ y).val)=xs.map fun y=>(ZE φ' y).val:=List.map_congr_left (fun y hy=>by rw[h2 y hy])
   have h4:(xs.all fun y=>(ZE φ y).cond)=xs.all fun y=>(ZE φ' y).cond:=by
    have: ∀l:List IO,(∀y∈l,ZE φ y=ZE φ' y)→(l.all fun y=>(ZE φ y).cond)=l.all fun y=>(ZE φ' y).cond:=by
     intro l
     induction l with
     |nil=>intro _;rfl
     |cons y l ih=>intro hl;simp only[List.all_cons,hl y (by simp),ih (fun z hz=>hl z (by simp[hz]))]
    exact this xs h2
   simp only[ZEX,h1,h3,h4]
  |_=>rfl
 have h2:Zy φ os e=Zy φ' os e:=by
  cases e with
  |box x=>simp only[Zy,ZO (x:=x) h]
  |sto n x y=>simp only[Zy,ZO (x:=x) (fun t ht=>h t (by simp[IE.reads,ht])),ZO (x:=y) (fun t ht=>h t (by simp[IE.reads,ht]))]
  |bsl el sz n xs=>simp only[Zy,ZHA (xs:=xs) h,ZHR (xs:=xs) h]
  |mks el sz b z x y=>simp only[Zy,ZO (x:=x) (fun t ht=>h t (by simp[IE.reads,ht])),ZO (x:=y) (fun t ht=>h t (by simp[IE.reads,ht]))]
  |apz el sz b z x y=>simp only[Zy,ZO (x:=x) (fun t ht=>h t (by simp[IE.reads,ht])),ZO (x:=y) (fun t ht=>h t (by simp[IE.reads,ht]))]
  |app el sz b x y=>simp only[Zy,ZO (x:=x) (fun t ht=>h t (by simp[IE.reads,ht])),ZO (x:=y) (fun t ht=>h t (by simp[IE.reads,ht]))]
  |cpy sz x y=>simp only[Zy,ZO (x:=x) (fun t ht=>h t (by simp[IE.reads,ht])),ZO (x:=y) (fun t ht=>h t (by simp[IE.reads,ht]))]
  |s2b el x=>simp only[Zy,ZO (x:=x) h]
  |abx el x=>simp only[Zy,ZO (x:=x) h]
  |mkm dk ag=>rfl
  |mup dk x k v=>simp only[Zy,ZO (x:=x) (fun t ht=>h t (by simp[IE.reads,ht])),ZO (x:=k) (fun t ht=>h t (by simp[IE.reads,ht])),ZO (x:=v) (fun t ht=>h t (by simp[IE.reads,ht]))]
  |mdl dk x k=>simp only[Zy,ZO (x:=x) (fun t ht=>h t (by simp[IE.reads,ht])),ZO (x:=k) (fun t ht=>h t (by simp[IE.reads,ht]))]
  |men dk z x k=>simp only[Zy,ZO (x:=x) (fun t ht=>h t (by simp[IE.reads,ht])),ZO (x:=k) (fun t ht=>h t (by simp[IE.reads,ht]))]
  |est x k v=>simp only[Zy,ZO (x:=x) (fun t ht=>h t (by simp[IE.reads,ht])),ZO (x:=k) (fun t ht=>h t (by simp[IE.reads,ht])),ZO (x:=v) (fun t ht=>h t (by simp[IE.reads,ht]))]
  |mcl x=>simp only[Zy,ZO (x:=x) h]
  |rgm x=>simp only[Zy,ZO (x:=x) h]
  |rgs x=>simp only[Zy,ZO (x:=x) h]
  |asl n x hi=>
   cases hi with
   |none=>simp only[Zy,ZO (x:=x) (fun t ht=>h t (by simp[IE.reads,ht]))]
   |some y=>simp only[Zy,ZO (x:=x) (fun t ht=>h t (by simp[IE.reads,ht])),ZO (x:=y) (fun t ht=>h t (by simp[IE.reads,ZDG,ht]))]
  |_=>rfl
 rw[h1,h2]
theorem ZMN (S:Tabs) {φ φ':List (Nat×D)} (os:List Ob) {o:IOp} (h: ∀t∈o.reads,Go.Ab.get φ t=Go.Ab.get φ' t):KX S φ os o=KX S φ' os o:=by
 obtain⟨dst,e,g⟩:=o;cases g with
 |none=>
  have h1:=ZGQ S.q os (e:=e) (φ:=φ) (φ':=φ') (fun t ht=>h t (by simp[IOp.reads,ht]));have h2:=ZKW S os (e:=e) (φ:=φ) (φ':=φ') (fun t ht=>h t (by simp[IOp.reads,ht]));simp only[KX,h1,h2]
 |some p=>
  obtain⟨s,want⟩:=p;have hs:Go.Ab.get φ s=Go.Ab.get φ' s:=h s (by simp[IOp.reads]);have h1:=ZGQ S.q os (e:=e) (φ:=φ) (φ':=φ') (fun t ht=>h t (by simp[IOp.reads,ht]));have h2:=ZKW S os (e:=e) (φ:=φ) (φ':=φ') (fun t ht=>h t (by simp[IOp.reads,ht]));simp only[KX,hs,h1,h2]
theorem ZVF {S:Tabs} (hS:SsOk P S) (R:Rel c E os) (hf:Fr n E os φ a) {ops:Array Oper} {o:Oper} {io:IOp} (hc:YV P n ops o=some io) {d:D} {os':List Ob} (h:KX S φ os io=some (true,d,os')) {K:Act→World→Prop} {Q:Exit→Act→World→Prop}
  (hK: ∀v E',Rel c E' os'→Evo E os E' os'→V E' os' d v→K (a.put o.dst v) E'.w):
  if Region.wanted o (yielded ops a.tmps)then o.wp P a E.w K Q else K (a.put o.dst undef) E.w:=by
 simp only[YV,Yk]at hc;obtain⟨e,he,hc⟩:=hc;split at hc
 ·rename_i hdst;split at hc
  ·rename_i hg;cases hc;simp only[KX]at h;simp only[Region.wanted,hg,if_true];split at h
   ·rename_i r hr;obtain⟨ok,d'⟩:=r;simp at h;obtain⟨rfl,rfl,rfl⟩:=h;exact ZEK hS.q R hf he hr hK
   ·exact ZJ2 hS R hf he h hK
  ·rename_i j want hg;obtain⟨s,hs,hc⟩:=Zd hc;cases hc;simp only[KX]at h;have hwd:Region.wanted o (yielded ops a.tmps)=(yielded ops a.tmps j==some want):=by simp[Region.wanted,hg]
   rw[hwd];have un: ∀d0:D,d= .opt false d0→os'=os→K (a.put o.dst undef) E.w:=by
    rintro d0 rfl rfl;exact hK undef E R (Evo.refl _ _) (.opt (fun h=>by cases h) (fun _=>rfl))
   split at h
   ·rename_i b hb;rw[ZDS hs hf hb want];split at h
    ·rename_i r hr;obtain⟨ok,d'⟩:=r;simp only[Zf,Zc]at h;obtain⟨h1,rfl,rfl⟩:=h;cases hw:((Go.Ab.get φ s).cond&&(b==want))with
     |false=>
      rw[hw]at hK;simp only[Bool.false_eq_true,if_false];exact hK undef E R (Evo.refl _ _) (.opt (fun h=>by cases h) (fun _=>rfl))
     |true=>
      rw[hw]at hK h1;simp at h1;subst h1;simp only[if_true];exact ZEK hS.q R hf he hr (fun v E' R' ev hv=>hK v E' R' ev (.opt (fun _=>hv) (fun h=>by cases h)))
    ·split at h
     ·rename_i hw;rw[if_pos hw];exact ZJ2 hS R hf he h hK
     ·rename_i hw;simp only[Zf,Zc,true_and]at h;obtain⟨rfl,rfl⟩:=h;rw[if_neg hw];exact un .und rfl rfl
   ·split at h
    ·cases h
    ·rename_i hw;simp only[Zf,Zc,true_and]at h;obtain⟨rfl,rfl⟩:=h;rw[ZGK hs hf (by simpa using hw) want];simp only[Bool.false_eq_true,if_false];exact un .und rfl rfl
 ·cases hc
end
abbrev Qb:=Option Nat×D×Option Ob
def IE.frame:IE→Bool
 | .mv _=>true
 | .nck _=>true
 | .pick _ _ _=>true
 | .bin _ _ _=>true
 | .eq .bool _ _ _=>true
 | .eq .ptr _ _ _=>true
 | .eq (.st _) _ _ _=>true
 | .un _ _=>true
 | .cvi _ _=>true
 | .fld _ _ _ _=>true
 | .fad _ _=>true
 | .idx _ _=>true
 | .idxa _ _ _ _ _=>true
 | .build _ _=>true
 | .ext _ _=>true
 | .mnx _ _ _=>true
 | .mkf _ _=>true
 | .len st _=>st
 | .slc n _ _ _ _=>Nat.beq n 0
 |_=>false
mutual
def X.beq:X→X→Bool
 | .int k n,.int k' m=>decide (k=k')&&decide (n=m)
 | .bool a,.bool b=>a==b
 | .str s,.str t=>decide (s=t)
 | .nilp,.nilp=>true
 | .nils,.nils=>true
 | .sl a,.sl b=>X.beqR a b
 |_,_=>false
def X.beqR:List (List X)→List (List X)→Bool
 | [],[]=>true
 |r::l,r'::l'=>X.beqL r r'&&X.beqR l l'
 |_,_=>false
def X.beqL:List X→List X→Bool
 | [],[]=>true
 |x::l,y::l'=>X.beq x y&&X.beqL l l'
 |_,_=>false
end
mutual
theorem X.beq_eq: ∀ {x y:X},X.beq x y=true→x=y
 | .int k n,y,h=>by cases y<;>simp[X.beq]at h;rw[h.1,h.2]
 | .bool a,y,h=>by cases y<;>simp[X.beq]at h;rw[h]
 | .str s,y,h=>by cases y<;>simp[X.beq]at h;rw[h]
 | .nilp,y,h=>by cases y<;>simp[X.beq]at h;rfl
 | .nils,y,h=>by cases y<;>simp[X.beq]at h;rfl
 | .sl a,y,h=>by cases y<;>simp[X.beq]at h;rw[X.beqR_eq h]
theorem X.beqR_eq: ∀ {a b:List (List X)},X.beqR a b=true→a=b
 | [],b,h=>by cases b<;>simp[X.beqR]at h;rfl
 |r::l,b,h=>by cases b<;>simp[X.beqR]at h;rw[X.beqL_eq h.1,X.beqR_eq h.2]
theorem X.beqL_eq: ∀ {a b:List X},X.beqL a b=true→a=b
 | [],b,h=>by cases b<;>simp[X.beqL]at h;rfl
 |x::l,b,h=>by cases b<;>simp[X.beqL]at h;rw[X.beq_eq h.1,X.beqL_eq h.2]
end
mutual
def D.beq:D→D→Bool
 | .x a,.x b=>X.beq a b
 | .ref a b c d,.ref a' b' c' d'=>Nat.beq a a'&&(Nat.beq b b'&&(Nat.beq c c'&&Nat.beq d d'))
 | .ptr a b,.ptr a' b'=>Nat.beq a a'&&Nat.beq b b'
 | .eptr a b c d,.eptr a' b' c' d'=>Nat.beq a a'&&(Nat.beq b b'&&(Nat.beq c c'&&Nat.beq d d'))
 | .vptr a,.vptr b=>X.beqL a b
 | .mref a,.mref b=>Nat.beq a b
 | .mnil,.mnil=>true
 | .iref a b,.iref a' b'=>Nat.beq a a'&&Nat.beq b b'
 | .stk a b,.stk a' b'=>Nat.beq a a'&&Nat.beq b b'
 | .bref a b c,.bref a' b' c'=>Nat.beq a a'&&(Nat.beq b b'&&Nat.beq c c')
 | .agg a,.agg b=>D.beqL a b
 | .tup a,.tup b=>D.beqL a b
 | .full a,.full b=>X.beqR a b
 | .nz a,.nz b=>X.beqR a b
 | .fn f a,.fn g b=>decide (f=g)&&D.beqL a b
 | .opt a d,.opt b e=>(a==b)&&D.beq d e
 | .und,.und=>true
 |_,_=>false
def D.beqL:List D→List D→Bool
 | [],[]=>true
 |d::l,e::l'=>D.beq d e&&D.beqL l l'
 |_,_=>false
end
mutual
theorem D.beq_eq: ∀ {x y:D},D.beq x y=true→x=y
 | .x a,y,h=>by cases y<;>simp[D.beq]at h;rw[X.beq_eq h]
 | .ref a b c d,y,h=>by cases y<;>simp[D.beq]at h;rw[h.1,h.2.1,h.2.2.1,h.2.2.2]
 | .ptr a b,y,h=>by cases y<;>simp[D.beq]at h;rw[h.1,h.2]
 | .eptr a b c d,y,h=>by cases y<;>simp[D.beq]at h;rw[h.1,h.2.1,h.2.2.1,h.2.2.2]
 | .vptr a,y,h=>by cases y<;>simp[D.beq]at h;rw[X.beqL_eq h]
 | .mref a,y,h=>by cases y<;>simp[D.beq]at h;rw[h]
 | .mnil,y,h=>by cases y<;>simp[D.beq]at h;rfl
 | .iref a b,y,h=>by cases y<;>simp[D.beq]at h;rw[h.1,h.2]
 | .stk a b,y,h=>by cases y<;>simp[D.beq]at h;rw[h.1,h.2]
 | .bref a b c,y,h=>by cases y<;>simp[D.beq]at h;rw[h.1,h.2.1,h.2.2]
 | .agg a,y,h=>by cases y<;>simp[D.beq]at h;rw[D.beqL_eq h]
 | .tup a,y,h=>by cases y<;>simp[D.beq]at h;rw[D.beqL_eq h]
 | .full a,y,h=>by cases y<;>simp[D.beq]at h;rw[X.beqR_eq h]
 | .nz a,y,h=>by cases y<;>simp[D.beq]at h;rw[X.beqR_eq h]
 | .fn f a,y,h=>by cases y<;>simp[D.beq]at h;rw[h.1,D.beqL_eq h.2]
 | .opt a d,y,h=>by cases y<;>simp[D.beq]at h;rw[h.1,D.beq_eq h.2]
 | .und,y,h=>by cases y<;>simp[D.beq]at h;rfl
theorem D.beqL_eq: ∀ {a b:List D},D.beqL a b=true→a=b
 | [],b,h=>by cases b<;>simp[D.beqL]at h;rfl
 |d::l,b,h=>by cases b<;>simp[D.beqL]at h;rw[D.beq_eq h.1,D.beqL_eq h.2]
end
def beqR:List (List D)→List (List D)→Bool
 | [],[]=>true
 |r::l,r'::l'=>D.beqL r r'&&beqR l l'
 |_,_=>false
theorem beqR_eq: ∀ {a b:List (List D)},beqR a b=true→a=b
 | [],b,h=>by cases b<;>simp[beqR]at h;rfl
 |r::l,b,h=>by
  cases b<;>simp[beqR]at h
  rw[beqR_eq h.2,D.beqL_eq h.1]
def ZKz (p q:Pr):Bool:=X.beqL p.1 q.1&&D.beqL p.2 q.2
def ZFB:List Pr→List Pr→Bool
 | [],[]=>true
 |p::l,q::l'=>ZKz p q&&ZFB l l'
 |_,_=>false
theorem ZQY {p q:Pr} (h:ZKz p q=true):p=q:=by
 simp only[ZKz,ZW]at h;exact Prod.ext (X.beqL_eq h.1) (D.beqL_eq h.2)
theorem ZFd: ∀ {a b:List Pr},ZFB a b=true→a=b
 | [],b,h=>by cases b<;>simp[ZFB]at h;rfl
 |p::l,b,h=>by
  cases b<;>simp[ZFB]at h
  rw[ZFd h.2,ZQY h.1]
def ZZb:Option Pr→Option Pr→Bool
 |none,none=>true
 |some p,some q=>ZKz p q
 |_,_=>false
theorem Zaz: ∀ {a b:Option Pr},ZZb a b=true→a=b
 |none,none,_=>rfl
 |some p,some q,h=>by rw[ZQY h]
 |none,some _,h=>by cases h
 |some _,none,h=>by cases h
def Ob.beq:Ob→Ob→Bool
 | .mpo dk ag l,.mpo dk' ag' l'=>decide (dk=dk')&&((ag==ag')&&ZFB l l')
 | .mit dk ag l it R cur,.mit dk' ag' l' it' R' cur'=>decide (dk=dk')&&((ag==ag')&&(ZFB l l'&&(Nat.beq it it'&&(ZFB R R'&&ZZb cur cur'))))
 | .mpn dk ag l key sid,.mpn dk' ag' l' key' sid'=>decide (dk=dk')&&((ag==ag')&&(ZFB l l'&&(X.beqL key key'&&Nat.beq sid sid')))
 | .itr,.itr=>true
 | .stp,.stp=>true
 | .nit,.nit=>true
 | .sit s p,.sit s' p'=>(s==s')&&Nat.beq p p'
 | .box a,.box b=>D.beqL a b
 | .rows f e s rs,.rows f' e' s' rs'=>(f==f')&&(Nat.beq e e'&&(Nat.beq s s'&&X.beqR rs rs'))
 | .drw e s rs,.drw e' s' rs'=>Nat.beq e e'&&(Nat.beq s s'&&beqR rs rs')
 | .frz s rs,.frz s' rs'=>Nat.beq s s'&&X.beqR rs rs'
 | .dead,.dead=>true
 |_,_=>false
theorem Ob.beq_eq {x y:Ob} (h:Ob.beq x y=true):x=y:=by
 cases x<;>cases y<;>simp[Ob.beq]at h
 ·rw[D.beqL_eq h]
 ·rw[h.1,h.2.1,h.2.2.1,X.beqR_eq h.2.2.2]
 ·rw[h.1,h.2.1,beqR_eq h.2.2]
 ·rw[h.1,X.beqR_eq h.2]
 ·rw[h.1,h.2.1,ZFd h.2.2]
 ·rw[h.1,h.2.1,ZFd h.2.2.1,h.2.2.2.1,ZFd h.2.2.2.2.1,Zaz h.2.2.2.2.2]
 ·rw[h.1,h.2.1,ZFd h.2.2.1,X.beqL_eq h.2.2.2.1,h.2.2.2.2]
 ·rfl
 ·rfl
 ·rw[h.1,h.2]
 ·rfl
 ·rfl
def Js:List Ob→List Ob→Bool
 | [],_=>true
 |x::l,y::l'=>Ob.beq x y&&Js l l'
 |_,_=>false
theorem ZGD: ∀ {a b:List Ob},Js a b=true→ ∃X,b=a++X
 | [],b,_=>⟨b,rfl⟩
 |x::l,b,h=>by
  cases b with
  |nil=>cases h
  |cons y l'=>
   simp only[Js,ZW]at h;obtain⟨X,rfl⟩:=ZGD h.2;exact⟨X,by rw[Ob.beq_eq h.1];rfl⟩
def Zo (t:Nat):List Nat→Bool
 | []=>false
 |u::l=>Nat.beq t u||Zo t l
def IOp.ex (rs:List Nat) (i:Nat) (o:IOp):Bool:=o.e.frame||Zo i rs
def ZDZ (φ:List (Nat×D)) (os:List Ob) (o:IOp):Option (Bool×D):=match o.g,o.e with
 |none,.b2s (.t u)=>match Go.Ab.get φ u with
  | .ref id ext off len=>(Zq os (.ref id ext off len)).map fun rs=>(rs.all ZCz,.x (.str (rs.map ZBr)))
  |_=>none
 |_,_=>none
def JQ (S:Tabs) (os0:List Ob) (k:Nat) (rs:List Nat):Nat→List (Nat×D)→Nat→List Ob→List IOp→Option (Bool×List Qb×List (Option (List Ob)))
 |_,_,_,_,[]=>some (true,[],[])
 |i,φ,id,os,o::l=>
  if o.e.frame then(Ym S φ [] o).bind fun r=>(JQ S os0 k rs (i+1) (putO φ o.dst r.2) id os l).map fun q=>(r.1&&q.1,(o.dst,r.2,none)::q.2.1,none::q.2.2)
  else if Zo i rs then(Ym S φ os0 o).bind fun r=>(JQ S os0 k rs (i+1) (putO φ o.dst r.2) id os l).map fun q=>(r.1&&q.1,(o.dst,r.2,none)::q.2.1,none::q.2.2)
  else if i<k then match Ym S φ os0 o with
   |some r=>(JQ S os0 k rs (i+1) (putO φ o.dst r.2) id os l).map fun q=>(r.1&&q.1,(o.dst,r.2,none)::q.2.1,none::q.2.2)
   |none=>match ZDZ φ os o with
    |some r=>(JQ S os0 k rs (i+1) (putO φ o.dst r.2) id os l).map fun q=>(r.1&&q.1,(o.dst,r.2,none)::q.2.1,none::q.2.2)
    |none=>(QM S φ os0 id o).bind fun r=>(JQ S os0 k rs (i+1) (putO φ o.dst r.2.1) (id+1) (os++ [r.2.2]) l).map fun q=>(r.1&&q.1,(o.dst,r.2.1,some r.2.2)::q.2.1,none::q.2.2)
  else(KX S φ os o).bind fun r=>(JQ S os0 k rs (i+1) (putO φ o.dst r.2.1) id r.2.2 l).map fun q=>(r.1&&q.1,(o.dst,r.2.1,none)::q.2.1,some r.2.2::q.2.2)
def YT:List (Nat×D)→List Qb→List (Nat×D)
 |φ,[]=>φ
 |φ,r::l=>YT (putO φ r.1 r.2.1) l
def Zu:List Qb→List Ob
 | []=> []
 |(_,_,none)::l=>Zu l
 |(_,_,some ob)::l=>ob::Zu l
def Zp:List (Option (List Ob))→(Nat→Bool)→Nat→List Ob→List Ob
 | [],_,_,b=>b
 |none::l,dn,i,b=>Zp l dn (i+1) b
 |some x::l,dn,i,b=>Zp l dn (i+1) (if dn i=true then x else b)
def ZNJ (os:List Ob):List (Option (List Ob))→Bool
 | []=>true
 |none::l=>ZNJ os l
 |some x::l=>Js os x&&ZNJ os l
def ZH7 (rs:List Nat) (os:List Ob) (G:List (Option (List Ob))):Bool:=match rs with
 | []=>true
 |_=>ZNJ os G
theorem ZHX {os:List Ob}: ∀ {G:List (Option (List Ob))},ZNJ os G=true→ ∀(j:Nat) (x:List Ob),G[j]? =some (some x)→ ∃Y,x=os++Y
 | [],_,j,x,h=>by simp at h
 |none::l,hb,j,x,h=>by
  cases j with
  |zero=>simp at h
  |succ j=>exact ZHX (G:=l) hb j x (by simpa using h)
 |some y::l,hb,j,x,h=>by
  simp only[ZNJ,ZW]at hb;cases j with
  |zero=>simp at h;subst h;exact ZGD hb.1
  |succ j=>exact ZHX hb.2 j x (by simpa using h)
theorem ZGy {os:List Ob}: ∀ {G:List (Option (List Ob))} (dn:Nat→Bool) (i:Nat) (b:List Ob),(∀(j:Nat) (x:List Ob),G[j]? =some (some x)→ ∃Y,x=os++Y)→(∃Y,b=os++Y)→ ∃Y,Zp G dn i b=os++Y
 | [],_,_,b,_,h=>h
 |none::l,dn,i,b,hG,h=>by simp only[Zp];exact ZGy dn (i+1) b (fun j x hj=>hG (j+1) x (by simpa using hj)) h
 |some y::l,dn,i,b,hG,h=>by
  simp only[Zp];refine ZGy dn (i+1) _ (fun j x hj=>hG (j+1) x (by simpa using hj)) ?_;split
  ·exact hG 0 y rfl
  ·exact h
def ZLL (S:Tabs) (φ:List (Nat×D)) (os:List Ob) (k:Nat) (rs:List Nat) (l:List IOp):Option (Bool×List (Nat×D)×List Ob):=
 (JQ S os k rs 0 φ os.length os l).map fun q=>(q.1&&ZH7 rs os q.2.2,YT φ q.2.1,Zp q.2.2 (fun _=>true) 0 (os++Zu q.2.1))
theorem Yd: ∀(F:List (Option (List Ob))) (dn dn':Nat→Bool) (i:Nat) (b:List Ob),(∀j x,F[j]? =some (some x)→dn (i+j)=dn' (i+j))→Zp F dn i b=Zp F dn' i b
 | [],_,_,_,_,_=>rfl
 |none::l,dn,dn',i,b,h=>by
  simp only[Zp];exact Yd l dn dn' (i+1) b (fun j x hj=>by have:=h (j+1) x (by simpa using hj);rw[show i+1+j=i+(j+1) by omega];exact this)
 |some y::l,dn,dn',i,b,h=>by
  simp only[Zp];have h0:=h 0 y rfl;rw[Nat.add_zero]at h0;rw[h0];exact Yd l dn dn' (i+1) _ (fun j x hj=>by have:=h (j+1) x (by simpa using hj);rw[show i+1+j=i+(j+1) by omega];exact this)
theorem Yq: ∀(F:List (Option (List Ob))) (dn:Nat→Bool) (i:Nat) (b:List Ob),(∀j x,F[j]? =some (some x)→dn (i+j)=false)→Zp F dn i b=b
 | [],_,_,_,_=>rfl
 |none::l,dn,i,b,h=>by
  simp only[Zp];exact Yq l dn (i+1) b (fun j x hj=>by have:=h (j+1) x (by simpa using hj);rw[show i+1+j=i+(j+1) by omega];exact this)
 |some y::l,dn,i,b,h=>by
  have h0:=h 0 y rfl;rw[Nat.add_zero]at h0;simp only[Zp,h0,Bool.false_eq_true,if_false];exact Yq l dn (i+1) b (fun j x hj=>by have:=h (j+1) x (by simpa using hj);rw[show i+1+j=i+(j+1) by omega];exact this)
theorem ZDR: ∀(F:List (Option (List Ob))) (dn:Nat→Bool) (i:Nat) (b:List Ob) (m:Nat) (s:List Ob),F[m]? =some (some s)→dn (i+m)=true→(∀j x,m<j→F[j]? =some (some x)→dn (i+j)=false)→Zp F dn i b=s
 | [],_,_,_,m,s,h,_,_=>by simp at h
 |none::l,dn,i,b,0,s,h,_,_=>by simp at h
 |none::l,dn,i,b,m+1,s,h,hd,hn=>by
  simp only[Zp];exact ZDR l dn (i+1) b m s (by simpa using h) (by rw[show i+1+m=i+(m+1) by omega];exact hd) (fun j x hj hx=>by rw[show i+1+j=i+(j+1) by omega];exact hn (j+1) x (by omega) (by simpa using hx))
 |some y::l,dn,i,b,0,s,h,hd,hn=>by
  simp at h;subst h;rw[Nat.add_zero]at hd;simp only[Zp,hd,if_true];exact Yq l dn (i+1) y (fun j x hj=>by rw[show i+1+j=i+(j+1) by omega];exact hn (j+1) x (by omega) (by simpa using hj))
 |some y::l,dn,i,b,m+1,s,h,hd,hn=>by
  simp only[Zp];exact ZDR l dn (i+1) _ m s (by simpa using h) (by rw[show i+1+m=i+(m+1) by omega];exact hd) (fun j x hj hx=>by rw[show i+1+j=i+(j+1) by omega];exact hn (j+1) x (by omega) (by simpa using hx))
def look:List Qb→(Nat→Bool)→Nat→D→Nat→D
 | [],_,_,b,_=>b
 |r::l,dn,i,b,t=>look l dn (i+1) (if r.1=some t∧dn i=true then r.2.1 else b) t
def Yx:List Qb→(Nat→Bool)→Nat→List Ob
 | [],_,_=> []
 |(_,_,none)::l,dn,i=>Yx l dn (i+1)
 |(_,_,some ob)::l,dn,i=>(if dn i=true then ob else .dead)::Yx l dn (i+1)
theorem QV: ∀(F:List Qb) (dn dn':Nat→Bool) (i:Nat) (b:D) (t:Nat),(∀j d o,F[j]? =some (some t,d,o)→dn (i+j)=dn' (i+j))→look F dn i b t=look F dn' i b t
 | [],_,_,_,_,_,_=>rfl
 |(dst,d,o)::l,dn,dn',i,b,t,h=>by
  simp only[look];have e:(if dst=some t∧dn i=true then d else b)=(if dst=some t∧dn' i=true then d else b):=by
   by_cases hd:dst=some t
   ·subst hd;have:=h 0 d o rfl;rw[Nat.add_zero]at this;rw[this]
   ·simp[hd]
  rw[e];exact QV l dn dn' (i+1) _ t (fun j d' o' hj=>by have:=h (j+1) d' o' (by simpa using hj);rw[show i+1+j=i+(j+1) by omega];exact this)
theorem ZC0: ∀(F:List Qb) (dn:Nat→Bool) (i:Nat) (b:D) (t:Nat),(∀j d o,F[j]? =some (some t,d,o)→dn (i+j)=false)→look F dn i b t=b
 | [],_,_,_,_,_=>rfl
 |(dst,d,o)::l,dn,i,b,t,h=>by
  simp only[look];have e:(if dst=some t∧dn i=true then d else b)=b:=by
   by_cases hd:dst=some t
   ·subst hd;have:=h 0 d o rfl;rw[Nat.add_zero]at this;simp[this]
   ·simp[hd]
  rw[e];exact ZC0 l dn (i+1) b t (fun j d' o' hj=>by have:=h (j+1) d' o' (by simpa using hj);rw[show i+1+j=i+(j+1) by omega];exact this)
theorem ZJL: ∀(F:List Qb) (dn:Nat→Bool) (i:Nat) (b:D) (m:Nat) (dst:Option Nat) (d:D) (o:Option Ob) (t:Nat),F[m]? =some (dst,d,o)→(∀j u d' o',F[j]? =some (some u,d',o')→dst=some u→j=m)→
  look F (fun j=>dn j||decide (j=i+m)) i b t=if dst=some t then d else look F dn i b t
 | [],_,_,_,m,_,_,_,_,h,_=>by simp at h
 |(dst0,d0,o0)::l,dn,i,b,0,dst,d,o,t,h,hu=>by
  simp at h;obtain⟨rfl,rfl,rfl⟩:=h;simp only[look,Nat.add_zero];have hrest: ∀b,look l (fun j=>dn j||decide (j=i)) (i+1) b t=look l dn (i+1) b t:=fun b=>QV l _ _ _ _ _ (fun j d' o' hj=>by simp;omega)
  rw[hrest];by_cases hd:dst0=some t
  ·subst hd;simp only[true_and,decide_true,Bool.or_true,if_true];exact ZC0 l dn (i+1) d0 t (fun j d' o' hj=>by have:=hu (j+1) t d' o' (by simpa using hj) rfl;omega)
  ·simp[hd]
 |(dst0,d0,o0)::l,dn,i,b,m+1,dst,d,o,t,h,hu=>by
  simp only[look];have ih:=fun b=>ZJL l dn (i+1) b m dst d o t (by simpa using h) (fun j u d' o' hj hd=>by have:=hu (j+1) u d' o' (by simpa using hj) hd;omega)
  have e: ∀b,look l (fun j=>dn j||decide (j=i+(m+1))) (i+1) b t=look l (fun j=>dn j||decide (j=i+1+m)) (i+1) b t:=fun b=>QV l _ _ _ _ _ (fun j d' o' hj=>by rw[show i+(m+1)=i+1+m by omega])
  rw[e,ih];have e2:decide (i=i+(m+1))=false:=by simp
  rw[e2,Bool.or_false]
theorem ZBu: ∀(F:List Qb) (dn dn':Nat→Bool) (i:Nat),(∀j r,F[j]? =some r→dn (i+j)=dn' (i+j))→Yx F dn i=Yx F dn' i
 | [],_,_,_,_=>rfl
 |(dst,d,none)::l,dn,dn',i,h=>by
  simp only[Yx];exact ZBu l dn dn' (i+1) (fun j r hj=>by have:=h (j+1) r (by simpa using hj);rw[show i+1+j=i+(j+1) by omega];exact this)
 |(dst,d,some ob)::l,dn,dn',i,h=>by
  simp only[Yx];have h0:=h 0 _ rfl;rw[Nat.add_zero]at h0;rw[h0,ZBu l dn dn' (i+1) (fun j r hj=>by have:=h (j+1) r (by simpa using hj);rw[show i+1+j=i+(j+1) by omega];exact this)]
theorem QR: ∀(F:List Qb) (dn:Nat→Bool) (i m:Nat) (dst:Option Nat) (d:D),F[m]? =some (dst,d,none)→Yx F (fun j=>dn j||decide (j=i+m)) i=Yx F dn i
 | [],_,_,_,_,_,h=>by simp at h
 |(dst0,d0,o0)::l,dn,i,0,dst,d,h=>by
  simp at h;obtain⟨rfl,rfl,rfl⟩:=h;simp only[Yx,Nat.add_zero];exact ZBu l _ _ _ (fun j r hj=>by simp;omega)
 |(dst0,d0,o0)::l,dn,i,m+1,dst,d,h=>by
  have ih:=QR l dn (i+1) m dst d (by simpa using h);have e:Yx l (fun j=>dn j||decide (j=i+(m+1))) (i+1)=Yx l dn (i+1):=by
   rw[←ih];exact ZBu l _ _ _ (fun j r hj=>by rw[show i+(m+1)=i+1+m by omega])
  cases o0 with
  |none=>simp only[Yx];exact e
  |some ob=>
   have e2:decide (i=i+(m+1))=false:=by simp
   simp only[Yx,e,e2,Bool.or_false]
def Ys:List Qb→Nat→Nat
 |_,0=>0
 | [],_+1=>0
 |(_,_,none)::l,m+1=>Ys l m
 |(_,_,some _)::l,m+1=>Ys l m+1
theorem ZJU: ∀(F:List Qb) (dn:Nat→Bool) (i m:Nat) (dst:Option Nat) (d:D) (ob:Ob),F[m]? =some (dst,d,some ob)→dn (i+m)=false→(Yx F dn i)[Ys F m]? =some .dead∧Yx F (fun j=>dn j||decide (j=i+m)) i=(Yx F dn i).set (Ys F m) ob
 | [],_,_,_,_,_,_,h,_=>by simp at h
 |(dst0,d0,o0)::l,dn,i,0,dst,d,ob,h,hd=>by
  simp at h;obtain⟨rfl,rfl,rfl⟩:=h;rw[Nat.add_zero]at hd;simp only[Yx,Nat.add_zero,Ys,hd];refine⟨by simp,?_⟩;have:Yx l (fun j=>dn j||decide (j=i)) (i+1)=Yx l dn (i+1):=ZBu l _ _ _ (fun j r hj=>by simp;omega);rw[this];simp
 |(dst0,d0,o0)::l,dn,i,m+1,dst,d,ob,h,hd=>by
  have hd':dn (i+1+m)=false:=by rw[show i+1+m=i+(m+1) by omega];exact hd
  obtain⟨k1,k2⟩:=ZJU l dn (i+1) m dst d ob (by simpa using h) hd';have e:Yx l (fun j=>dn j||decide (j=i+(m+1))) (i+1)=(Yx l dn (i+1)).set (Ys l m) ob:=by
   rw[←k2];exact ZBu l _ _ _ (fun j r hj=>by rw[show i+(m+1)=i+1+m by omega])
  cases o0 with
  |none=>simp only[Yx,Ys];exact⟨k1,e⟩
  |some ob0=>
   have e2:decide (i=i+(m+1))=false:=by simp
   simp only[Yx,Ys,e,e2,Bool.or_false];exact⟨by simpa using k1,by simp⟩
theorem ZH9: ∀(F:List Qb) (dn:Nat→Bool) (i:Nat),(∀j r,F[j]? =some r→dn (i+j)=true)→Yx F dn i=Zu F
 | [],_,_,_=>rfl
 |(dst,d,none)::l,dn,i,h=>by
  simp only[Yx,Zu];exact ZH9 l dn (i+1) (fun j r hj=>by have:=h (j+1) r (by simpa using hj);rw[show i+1+j=i+(j+1) by omega];exact this)
 |(dst,d,some ob)::l,dn,i,h=>by
  simp only[Yx,Zu];have h0:=h 0 _ rfl;rw[Nat.add_zero]at h0;rw[h0,ZH9 l dn (i+1) (fun j r hj=>by have:=h (j+1) r (by simpa using hj);rw[show i+1+j=i+(j+1) by omega];exact this)];rfl
theorem ZEN: ∀(F:List Qb) (φ:List (Nat×D)) (m i:Nat) (t:Nat),Go.Ab.get (YT φ (F.take m)) t=look F (fun j=>decide (j<i+m)) i (Go.Ab.get φ t) t
 | [],φ,m,i,t=>by simp[YT,look]
 |(dst,d,o)::l,φ,0,i,t=>by
  simp only[List.take_zero,YT,Nat.add_zero];rw[ZC0 _ _ _ _ _ (fun j d' o' hj=>by simp)]
 |(dst,d,o)::l,φ,m+1,i,t=>by
  simp only[List.take_succ_cons,YT,look];rw[ZEN l _ m (i+1) t];have e1:Go.Ab.get (putO φ dst d) t=if dst=some t∧decide (i<i+(m+1))=true then d else Go.Ab.get φ t:=by
   cases dst with
   |none=>simp[putO]
   |some u=>
    simp only[putO,ZLN];simp
  rw[e1];exact QV l _ _ _ _ _ (fun j d' o' hj=>by congr 1;simp;omega)
theorem QQ: ∀(G:List (Option (List Ob))) (i j:Nat) (b:List Ob),Zp G (fun _=>true) i b=Zp G (fun _=>true) j b
 | [],_,_,_=>rfl
 |none::l,i,j,b=>by simp only[Zp];exact QQ l _ _ b
 |some x::l,i,j,b=>by simp only[Zp];exact QQ l _ _ _
theorem ZEi {S:Tabs} {os0:List Ob} {k:Nat} {rs:List Nat}: ∀ {il:List IOp} {i:Nat} {φ:List (Nat×D)} {id:Nat} {os:List Ob} {b:Bool} {F:List Qb} {G:List (Option (List Ob))},k≤i→JQ S os0 k rs i φ id os il=some (b,F,G)→ ∀q,Zu (F.take q)= []
 | [],i,φ,id,os,b,F,G,hk,h,q=>by simp[JQ]at h;obtain⟨_,rfl,_⟩:=h;simp[Zu]
 |o::l,i,φ,id,os,b,F,G,hk,h,q=>by
  simp only[JQ]at h;have hik: ¬(i<k):=by omega
  split at h
  ·obtain⟨r,_,h⟩:=Zr h;obtain⟨⟨b',F',G'⟩,h1,h2⟩:=Zd h;simp only[Zc]at h2;obtain⟨_,rfl,rfl⟩:=h2;cases q with
   |zero=>rfl
   |succ q=>simp only[List.take_succ_cons,Zu];exact ZEi (by omega) h1 q
  split at h
  ·obtain⟨r,_,h⟩:=Zr h;obtain⟨⟨b',F',G'⟩,h1,h2⟩:=Zd h;simp only[Zc]at h2;obtain⟨_,rfl,rfl⟩:=h2;cases q with
   |zero=>rfl
   |succ q=>simp only[List.take_succ_cons,Zu];exact ZEi (by omega) h1 q
  ·try rw[if_neg hik]at h
   obtain⟨r,_,h⟩:=Zr h;obtain⟨⟨b',F',G'⟩,h1,h2⟩:=Zd h;simp only[Zc]at h2;obtain⟨_,rfl,rfl⟩:=h2;cases q with
   |zero=>rfl
   |succ q=>simp only[List.take_succ_cons,Zu];exact ZEi (by omega) h1 q
inductive Step (S:Tabs) (os0:List Ob) (k:Nat) (rs:List Nat) (φ:List (Nat×D)) (id:Nat) (cur:List Ob) (i:Nat) (io:IOp):D→Option Ob→Option (List Ob)→Prop
 |frame {d:D} (hf:io.e.frame=true) (h:Ym S φ [] io=some (true,d)):Step S os0 k rs φ id cur i io d none none
 |look {d:D} (hf:Zo i rs=true) (h:Ym S φ os0 io=some (true,d)):Step S os0 k rs φ id cur i io d none none
 |read {d:D} (hf:io.ex rs i=false) (hk:i<k) (h:Ym S φ os0 io=some (true,d)):Step S os0 k rs φ id cur i io d none none
 |near {d:D} (hf:io.ex rs i=false) (hk:i<k) (h:ZDZ φ cur io=some (true,d)):Step S os0 k rs φ id cur i io d none none
 |make {d:D} {x:Ob} (hf:io.ex rs i=false) (hk:i<k) (h:QM S φ os0 id io=some (true,d,x)):Step S os0 k rs φ id cur i io d (some x) none
 |turn {d:D} {s:List Ob} (hf:io.ex rs i=false) (hk:k≤i) (h:KX S φ cur io=some (true,d,s)):Step S os0 k rs φ id cur i io d none (some s)
theorem ZBq {S:Tabs} {os0:List Ob} {k:Nat} {rs:List Nat}: ∀ {il:List IOp} {i:Nat} {φ:List (Nat×D)} {id:Nat} {os:List Ob} {F:List Qb} {G:List (Option (List Ob))},JQ S os0 k rs i φ id os il=some (true,F,G)→F.length=il.length∧G.length=il.length∧
  ∀q io,il[q]? =some io→ ∃d x s,F[q]? =some (io.dst,d,x)∧G[q]? =some s∧Step S os0 k rs (YT φ (F.take q)) (id+Ys F q) (Zp (G.take q) (fun _=>true) 0 (os++Zu (F.take q))) (i+q) io d x s
 | [],i,φ,id,os,F,G,h=>by simp[JQ]at h;obtain⟨rfl,rfl⟩:=h;exact⟨rfl,rfl,fun q io hi=>by simp at hi⟩
 |o::l,i,φ,id,os,F,G,h=>by
  simp only[JQ]at h;split at h
  ·rename_i hf;obtain⟨⟨b0,d0⟩,hr,h⟩:=Zr h;obtain⟨⟨b,F',G'⟩,h1,h2⟩:=Zd h;simp at h2;obtain⟨⟨rfl,rfl⟩,rfl,rfl⟩:=h2;obtain⟨k1,k2,k3⟩:=ZBq h1;refine⟨by simp[k1],by simp[k2],fun q io hi=> ?_⟩;cases q with
   |zero=>simp at hi;subst hi;exact⟨d0,none,none,rfl,rfl,.frame hf hr⟩
   |succ q=>
    obtain⟨d,x,s,w1,w2,w3⟩:=k3 q io (by simpa using hi);refine⟨d,x,s,by simpa using w1,by simpa using w2,?_⟩;simp only[List.take_succ_cons,YT,Ys,Zp,Zu];rw[QQ _ 1 0,show i+(q+1)=i+1+q by omega];exact w3
  ·rename_i hf0;split at h
   ·rename_i hf;obtain⟨⟨b0,d0⟩,hr,h⟩:=Zr h;obtain⟨⟨b,F',G'⟩,h1,h2⟩:=Zd h;simp at h2;obtain⟨⟨rfl,rfl⟩,rfl,rfl⟩:=h2;obtain⟨k1,k2,k3⟩:=ZBq h1;refine⟨by simp[k1],by simp[k2],fun q io hi=> ?_⟩;cases q with
    |zero=>simp at hi;subst hi;exact⟨d0,none,none,rfl,rfl,.look hf hr⟩
    |succ q=>
     obtain⟨d,x,s,w1,w2,w3⟩:=k3 q io (by simpa using hi);refine⟨d,x,s,by simpa using w1,by simpa using w2,?_⟩;simp only[List.take_succ_cons,YT,Ys,Zp,Zu];rw[QQ _ 1 0,show i+(q+1)=i+1+q by omega];exact w3
   rename_i hf;have hf:o.ex rs i=false:=by simp only[IOp.ex,Bool.or_eq_false_iff];exact⟨by simpa using hf0,by simpa using hf⟩
   split at h
   ·rename_i hik;split at h
    ·rename_i r hr;obtain⟨⟨b,F',G'⟩,h1,h2⟩:=Zd h;obtain⟨b0,d0⟩:=r;simp at h2;obtain⟨⟨rfl,rfl⟩,rfl,rfl⟩:=h2;obtain⟨k1,k2,k3⟩:=ZBq h1;refine⟨by simp[k1],by simp[k2],fun q io hi=> ?_⟩;cases q with
     |zero=>simp at hi;subst hi;exact⟨d0,none,none,rfl,rfl,.read hf hik hr⟩
     |succ q=>
      obtain⟨d,x,s,w1,w2,w3⟩:=k3 q io (by simpa using hi);refine⟨d,x,s,by simpa using w1,by simpa using w2,?_⟩;simp only[List.take_succ_cons,YT,Ys,Zp,Zu];rw[QQ _ 1 0,show i+(q+1)=i+1+q by omega];exact w3
    ·split at h
     ·rename_i r hr;obtain⟨⟨b,F',G'⟩,h1,h2⟩:=Zd h;obtain⟨b0,d0⟩:=r;simp at h2;obtain⟨⟨rfl,rfl⟩,rfl,rfl⟩:=h2;obtain⟨k1,k2,k3⟩:=ZBq h1;refine⟨by simp[k1],by simp[k2],fun q io hi=> ?_⟩;cases q with
      |zero=>simp at hi;subst hi;exact⟨d0,none,none,rfl,rfl,.near hf hik (by simpa[Zu,Zp,YT]using hr)⟩
      |succ q=>
       obtain⟨d,x,s,w1,w2,w3⟩:=k3 q io (by simpa using hi);refine⟨d,x,s,by simpa using w1,by simpa using w2,?_⟩;simp only[List.take_succ_cons,YT,Ys,Zp,Zu];rw[QQ _ 1 0,show i+(q+1)=i+1+q by omega];exact w3
     ·obtain⟨⟨b0,d0,x0⟩,hr,h⟩:=Zr h;obtain⟨⟨b,F',G'⟩,h1,h2⟩:=Zd h;simp at h2;obtain⟨⟨rfl,rfl⟩,rfl,rfl⟩:=h2;obtain⟨k1,k2,k3⟩:=ZBq h1;refine⟨by simp[k1],by simp[k2],fun q io hi=> ?_⟩;cases q with
      |zero=>simp at hi;subst hi;exact⟨d0,some x0,none,rfl,rfl,.make hf hik hr⟩
      |succ q=>
       obtain⟨d,x,s,w1,w2,w3⟩:=k3 q io (by simpa using hi);refine⟨d,x,s,by simpa using w1,by simpa using w2,?_⟩;simp only[List.take_succ_cons,YT,Ys,Zp,Zu];rw[QQ _ 1 0,show i+(q+1)=i+1+q by omega,show id+(Ys F' q+1)=id+1+Ys F' q by omega];rw[List.append_assoc]at w3;exact w3
   ·rename_i hik;obtain⟨⟨b0,d0,s0⟩,hr,h⟩:=Zr h;obtain⟨⟨b,F',G'⟩,h1,h2⟩:=Zd h;simp at h2;obtain⟨⟨rfl,rfl⟩,rfl,rfl⟩:=h2;obtain⟨k1,k2,k3⟩:=ZBq h1;refine⟨by simp[k1],by simp[k2],fun q io hi=> ?_⟩;cases q with
    |zero=>simp at hi;subst hi;exact⟨d0,none,some s0,rfl,rfl,.turn hf (by omega) (by simpa[Zu,Zp,YT]using hr)⟩
    |succ q=>
     obtain⟨d,x,s,w1,w2,w3⟩:=k3 q io (by simpa using hi);refine⟨d,x,s,by simpa using w1,by simpa using w2,?_⟩;rw[ZEi (by omega) h1 q,List.append_nil]at w3;simp only[List.take_succ_cons,YT,Ys,Zp,Zu,if_true];rw[QQ _ 1 0,show i+(q+1)=i+1+q by omega];exact w3
def aft (o:Oper):List Nat:=(o.after.toList.filter (Region.binds .any)).map (·.on)
def ZIW (acc:List Nat):List Nat→Nat
 | []=>0
 |j::l=>(2^j|||acc.getD j 0)|||ZIW acc l
def ZAd:List Nat→List Oper→List Nat
 |acc,[]=>acc
 |acc,o::l=>ZAd (acc++ [ZIW acc (aft o)]) l
def ZMe:Nat→List Oper→Bool
 |_,[]=>true
 |i,o::l=>(aft o).all (fun j=>Nat.blt j i)&&ZMe (i+1) l
def ZMj (t:Nat):List IOp→Bool
 | []=>true
 |y::l=>(match y.dst with|some u=> !(Nat.beq t u)|none=>true)&&ZMj t l
def ZSl:List IOp→Bool
 | []=>true
 |x::l=>(match x.dst with|some t=>ZMj t l|none=>true)&&ZSl l
def ZOh (i:Nat) (rs af:List Nat):Nat→List (IOp×Oper)→Bool
 |_,[]=>true
 |j,(y,p)::l=>(match y.dst with|some u=> !(Zo u rs)||((Nat.blt j i&&Zo j af)||(Nat.blt i j&&Zo i (aft p)))|none=>true)&&ZOh i rs af (j+1) l
def rdB (all:List (IOp×Oper)):Nat→List (IOp×Oper)→Bool
 |_,[]=>true
 |i,(x,o)::l=>ZOh i x.reads (aft o) 0 all&&rdB all (i+1) l
def ZMd (k:Nat) (rs:List Nat):Nat→Nat→List Nat→List IOp→Bool
 |i,m,c::l,o::il=>(o.ex rs i||(Nat.blt i k||Nat.beq (Nat.land c m) m))&&ZMd k rs (i+1) (if o.ex rs i then m else m|||2^i) l il
 |_,_,_,_=>true
def ZCx (ops:List Oper) (il:List IOp) (k:Nat) (rs:List Nat):Bool:=
 ZMe 0 ops&&(ZSl il&&(rdB (il.zip ops) 0 (il.zip ops)&&ZMd k rs 0 0 (ZAd [] ops) il))
theorem ZAA {t:Nat}: ∀ {l:List Nat},Zo t l=true↔t∈l
 | []=>by simp[Zo]
 |u::l=>by simp[Zo,ZAA]
theorem ZKM: ∀ {l:List Oper} {i:Nat},ZMe i l=true→ ∀q o,l[q]? =some o→ ∀j∈aft o,j<i+q
 | [],_,_,q,o,h=>by simp at h
 |p::l,i,hb,q,o,h=>by
  simp only[ZMe,ZW]at hb;intro j hj;cases q with
  |zero=>simp at h;subst h;have:=List.all_eq_true.1 hb.1 j hj;simpa[Nat.blt_eq]using this
  |succ q=>have:=ZKM hb.2 q o (by simpa using h) j hj;omega
theorem ZGa {t:Nat}: ∀ {l:List IOp},ZMj t l=true→ ∀(j:Nat) (y:IOp),l[j]? =some y→y.dst≠some t
 | [],_,j,y,h=>by simp at h
 |z::l,hb,j,y,h=>by
  simp only[ZMj,ZW]at hb;cases j with
  |zero=>
   simp at h;subst h;intro he;rw[he]at hb;simp at hb
  |succ j=>exact ZGa hb.2 j y (by simpa using h)
theorem ZMA: ∀ {l:List IOp},ZSl l=true→ ∀(i j:Nat) (x y:IOp) (t:Nat),l[i]? =some x→l[j]? =some y→x.dst=some t→y.dst=some t→i=j
 | [],_,i,j,x,y,t,h,_,_,_=>by simp at h
 |z::l,hb,i,j,x,y,t,hi,hj,hx,hy=>by
  simp only[ZSl,ZW]at hb;cases i with
  |zero=>
   cases j with
   |zero=>rfl
   |succ j=>
    simp at hi;subst hi;rw[hx]at hb;exact absurd hy (ZGa hb.1 j y (by simpa using hj))
  |succ i=>
   cases j with
   |zero=>
    simp at hj;subst hj;rw[hy]at hb;exact absurd hx (ZGa hb.1 i x (by simpa using hi))
   |succ j=>rw[ZMA hb.2 i j x y t (by simpa using hi) (by simpa using hj) hx hy]
theorem ZLc {i:Nat} {rs af:List Nat}: ∀ {l:List (IOp×Oper)} {j:Nat},ZOh i rs af j l=true→ ∀(q:Nat) (y:IOp) (p:Oper) (u:Nat),l[q]? =some (y,p)→y.dst=some u→u∈rs→(j+q<i∧j+q∈af)∨(i<j+q∧i∈aft p)
 | [],_,_,q,y,p,u,h,_,_=>by simp at h
 |(z,r)::l,j,hb,q,y,p,u,h,hy,hu=>by
  simp only[ZOh,ZW]at hb;cases q with
  |zero=>
   simp at h;obtain⟨rfl,rfl⟩:=h;rw[hy]at hb;simp only[Bool.or_eq_true,Bool.not_eq_true',ZW,Nat.blt_eq,ZAA]at hb;rcases hb.1 with h|h
   ·have:=ZAA.2 hu;rw[h]at this;cases this
   ·simpa using h
  |succ q=>
   have:=ZLc hb.2 q y p u (by simpa using h) hy hu;rw[show j+(q+1)=j+1+q by omega];exact this
theorem ZNT {all:List (IOp×Oper)}: ∀ {l:List (IOp×Oper)} {i:Nat},rdB all i l=true→ ∀(q:Nat) (x:IOp) (o:Oper),l[q]? =some (x,o)→ZOh (i+q) x.reads (aft o) 0 all=true
 | [],_,_,q,x,o,h=>by simp at h
 |(z,r)::l,i,hb,q,x,o,h=>by
  simp only[rdB,ZW]at hb;cases q with
  |zero=>simp at h;obtain⟨rfl,rfl⟩:=h;exact hb.1
  |succ q=>have:=ZNT hb.2 q x o (by simpa using h);rw[show i+(q+1)=i+1+q by omega];exact this
theorem ZKJ {k:Nat} {rs:List Nat}: ∀ {l:List Nat} {il:List IOp} {i m:Nat},ZMd k rs i m l il=true→ ∀(q c:Nat) (o:IOp),l[q]? =some c→il[q]? =some o→o.ex rs (i+q)=false→k≤i+q→
  (∀t,m.testBit t=true→c.testBit t=true)∧ ∀(j:Nat) (y:IOp),j<q→il[j]? =some y→y.ex rs (i+j)=false→c.testBit (i+j)=true
 | [],_,_,_,_,q,c,o,h,_,_,_=>by simp at h
 |_::_,[],_,_,_,q,c,o,_,h,_,_=>by simp at h
 |z::l,x::il,i,m,hb,q,c,o,h,ho,hf,hk=>by
  simp only[ZMd,ZW]at hb;cases q with
  |zero=>
   simp at h ho;subst h;subst ho;have hik:Nat.blt i k=false:=by
    cases hb':Nat.blt i k with
    |false=>rfl
    |true=>rw[Nat.blt_eq]at hb';omega
   rw[Nat.add_zero]at hf;rw[hf,hik]at hb;simp only[Bool.false_or,Nat.beq_eq]at hb;refine⟨fun t ht=> ?_,fun j y hj=>by omega⟩;have:(Nat.land z m).testBit t=true:=by rw[hb.1];exact ht
   have h2:(z&&&m).testBit t=true:=this;rw[Nat.testBit_and,ZW]at h2;exact h2.1
  |succ q=>
   obtain⟨h1,h2⟩:=ZKJ hb.2 q c o (by simpa using h) (by simpa using ho) (by rw[show i+1+q=i+(q+1) by omega];exact hf) (by omega);have hsub: ∀t,m.testBit t=true→c.testBit t=true:=fun t ht=>h1 t (by
    split
    ·exact ht
    ·rw[Nat.testBit_or,ht];rfl)
   refine⟨hsub,fun j y hj hy hyf=> ?_⟩;cases j with
   |zero=>
    simp at hy;subst hy;rw[Nat.add_zero]at hyf⊢;refine h1 i ?_;rw[hyf];simp[Nat.testBit_or]
   |succ j=>
    have:=h2 j y (by omega) (by simpa using hy) (by rw[show i+1+j=i+(j+1) by omega];exact hyf);rw[show i+(j+1)=i+1+j by omega];exact this
theorem ZLa {acc:List Nat} {q:Nat}: ∀ {l:List Nat},(ZIW acc l).testBit q=true→ ∃j∈l,q=j∨(acc.getD j 0).testBit q=true
 | [],h=>by simp[ZIW]at h
 |j::l,h=>by
  simp only[ZIW,Nat.testBit_or,Bool.or_eq_true,Nat.testBit_two_pow,Zj]at h;rcases h with(h|h)|h
  ·exact⟨j,by simp,.inl h.symm⟩
  ·exact⟨j,by simp,.inr h⟩
  ·obtain⟨j',h1,h2⟩:=ZLa h;exact⟨j',by simp[h1],h2⟩
def ZH2 (ops:List Oper) (dn:Nat→Bool):Prop:= ∀(i:Nat) (o:Oper),ops[i]? =some o→dn i=true→ ∀j∈aft o,dn j=true
theorem ZLy: ∀(l pre:List Oper) (acc:List Nat),acc.length=pre.length→(∀(i:Nat) (c:Nat),acc[i]? =some c→ ∀dn:Nat→Bool,ZH2 (pre++l) dn→((pre++l)[i]?).any (fun o=>(aft o).all dn)=true→ ∀j,c.testBit j=true→dn j=true)→
  (∀(i:Nat) (o:Oper),(pre++l)[i]? =some o→ ∀j∈aft o,j<i)→
  (ZAd acc l).length=(pre++l).length∧ ∀(i:Nat) (c:Nat),(ZAd acc l)[i]? =some c→ ∀dn:Nat→Bool,ZH2 (pre++l) dn→((pre++l)[i]?).any (fun o=>(aft o).all dn)=true→ ∀j,c.testBit j=true→dn j=true
 | [],pre,acc,hl,h,_=>⟨by simpa[ZAd]using hl,by simpa[ZAd]using h⟩
 |o::l,pre,acc,hl,h,hb=>by
  have e:pre++o::l=(pre++ [o])++l:=by simp
  have:=ZLy l (pre++ [o]) (acc++ [ZIW acc (aft o)]) (by simp[hl]) (by
   rw[←e];intro i c hc dn hcl hd j hj;by_cases hi:i<acc.length
   ·rw[Yt hi]at hc;exact h i c hc dn hcl hd j hj
   ·have hlt:=(Za hc).1;simp at hlt;have hi':i=acc.length:=by omega
    subst hi';rw[List.getElem?_append_right (Nat.le_refl _)]at hc;simp at hc;subst hc;have ho:(pre++o::l)[acc.length]? =some o:=by rw[hl,List.getElem?_append_right (Nat.le_refl _)];simp
    rw[ho]at hd;simp only[Option.any_some]at hd;have hall:=List.all_eq_true.1 hd;obtain⟨m,hm,hj⟩:=ZLa hj;have hmd:=hall m hm;rcases hj with rfl|hj
    ·exact hmd
    ·have hml:=hb _ o ho m hm;have hma:acc[m]? =some (acc[m]'hml):=YE hml;have hmo: ∃om,(pre++o::l)[m]? =some om:=⟨_,YE (by simp;omega)⟩;obtain⟨om,hom⟩:=hmo;simp only[List.getD,hma,Option.getD_some]at hj;refine h m _ hma dn hcl ?_ j hj;rw[hom];simp only[Option.any_some];exact List.all_eq_true.2 (fun q hq=>hcl m om hom hmd q hq)) (by rw[←e];exact hb)
  rw[←e]at this;exact this
structure Draw (ops:List Oper) (il:List IOp) (k:Nat) (rs:List Nat):Prop where
 back: ∀(i:Nat) (o:Oper),ops[i]? =some o→ ∀j∈aft o,j<i
 own: ∀(i j:Nat) (x y:IOp) (t:Nat),il[i]? =some x→il[j]? =some y→x.dst=some t→y.dst=some t→i=j
 reads: ∀(i j:Nat) (x y:IOp) (t:Nat) (o p:Oper),il[i]? =some x→il[j]? =some y→ops[i]? =some o→ops[j]? =some p→t∈x.reads→y.dst=some t→(j<i∧j∈aft o)∨(i<j∧i∈aft p)
 tail: ∀(i:Nat) (o:Oper) (x:IOp),k≤i→ops[i]? =some o→il[i]? =some x→x.ex rs i=false→ ∀dn,ZH2 ops dn→(∀j∈aft o,dn j=true)→ ∀(j:Nat) (y:IOp),j<i→il[j]? =some y→y.ex rs j=false→dn j=true
theorem Draw.of {ops:List Oper} {il:List IOp} {k:Nat} {rs:List Nat} (h:ZCx ops il k rs=true):Draw ops il k rs:=by
 simp only[ZCx,ZW]at h;obtain⟨h2,h3,h4,h5⟩:=h;have back: ∀(i:Nat) (o:Oper),ops[i]? =some o→ ∀j∈aft o,j<i:=fun i o ho j hj=>by
  have:=ZKM h2 i o ho j hj;omega
 have zt: ∀(i:Nat) (x:IOp) (o:Oper),il[i]? =some x→ops[i]? =some o→(il.zip ops)[i]? =some (x,o):=fun i x o hx ho=>List.getElem?_zip_eq_some.2 ⟨hx,ho⟩
 refine⟨back,fun i j x y t hx hy hd he=>ZMA h3 i j x y t hx hy hd he,fun i j x y t o p hx hy ho hp ht hd=> ?_,fun i o x hi ho hx hf dn hcl hd j y hj hy hyf=> ?_⟩
 ·have:=ZLc (ZNT h4 i x o (zt i x o hx ho)) j y p t (zt j y p hy hp) hd ht;simpa using this
 ·have hlt:=(Za ho).1;obtain⟨b1,b2⟩:=ZLy ops [] [] rfl (fun i c hc=>by simp at hc) (by simpa using back);simp only[List.nil_append]at b1 b2;have hc:(ZAd [] ops)[i]? =some ((ZAd [] ops)[i]'(by omega)):=YE _;have:=(ZKJ h5 i _ x hc hx (by rw[Nat.zero_add];exact hf) (by omega)).2 j y hj hy (by rw[Nat.zero_add];exact hyf);rw[Nat.zero_add]at this;exact b2 i _ hc dn hcl (by rw[ho];exact List.all_eq_true.2 hd) j this
theorem ZHn {p q:Nat→Bool}: ∀ {l:List Nat} {i:Nat},i∈l→p i=true→q i=false→(∀j,q j=true→p j=true)→l.countP q<l.countP p
 | [],i,h,_,_,_=>by cases h
 |x::l,i,h,hp,hq,hqp=>by
  have hle:l.countP q≤l.countP p:=List.countP_mono_left (fun j _ hj=>hqp j hj);rcases List.mem_cons.1 h with rfl|h
  ·rw[List.countP_cons_of_neg (by simp[hq]),List.countP_cons_of_pos hp];omega
  ·have:=ZHn h hp hq hqp;by_cases hx:q x=true
   ·rw[List.countP_cons_of_pos hx,List.countP_cons_of_pos (hqp x hx)];omega
   ·rw[List.countP_cons_of_neg (by simpa using hx)];by_cases hx2:p x=true
    ·rw[List.countP_cons_of_pos hx2];omega
    ·rw[List.countP_cons_of_neg (by simpa using hx2)];exact this
theorem ZEs {c:Ctx}: ∀(F:List Qb) (i:Nat) {E:Env} {os:List Ob},Rel c E os→ ∃E',E'.w=E.w∧Rel c E' (os++Yx F (fun _=>false) i)∧Evo E os E' (os++Yx F (fun _=>false) i)
 | [],i,E,os,R=>⟨E,rfl,by simpa[Yx]using R,by simpa[Yx]using Evo.refl E os⟩
 |(dst,d,none)::l,i,E,os,R=>by simp only[Yx];exact ZEs l (i+1) R
 |(dst,d,some ob)::l,i,E,os,R=>by
  obtain⟨R1,e1⟩:=R.push E.w .dead (0,undef) (Kept.refl _ _) (fun b hb=>by cases hb) (fun _=>trivial);obtain⟨E',h1,h2,h3⟩:=ZEs l (i+1) R1;refine⟨E',h1,?_,?_⟩
  ·simp only[Yx,Bool.false_eq_true,if_false];rw[List.append_assoc]at h2;exact h2
  ·simp only[Yx,Bool.false_eq_true,if_false];rw[List.append_assoc]at h3;exact e1.trans h3
theorem ZAw (l:Array Bool) (i j:Nat) (hi:i<l.size):(l.setIfInBounds i true).getD j false=(l.getD j false||decide (j=i)):=by
 rw[Array.getD_eq_getD_getElem?,Array.getD_eq_getD_getElem?,Array.getElem?_setIfInBounds];by_cases h:i=j
 ·subst h;simp[hi]
 ·have h2: ¬j=i:=fun e=>h e.symm
  simp[h,h2]
section
variable {P:Program} {S:Tabs} {c:Ctx} {n:Nat} {Q:Exit→Act→World→Prop} {ops:Array Oper} {il:List IOp} {k:Nat} {rs:List Nat} {E0:Env} {os0:List Ob}
theorem ZBp {listed:Array Bool} (hsz:listed.size=ops.size) {i:Nat}:i∈Region.ready .any ops listed↔listed.getD i false=false∧ ∃o,ops.toList[i]? =some o∧ ∀j∈aft o,listed.getD j false=true:=by
 rw[mem_ready];constructor
 ·rintro⟨h1,o,ho,h2⟩;have hi:i<listed.size:=by rw[hsz];exact(ξH ho).1
  refine⟨?_,o,by simpa using ho,fun j hj=> ?_⟩
  ·simpa[Array.getD_eq_getD_getElem?,hi]using h1
  ·obtain⟨e,he,rfl⟩:=List.mem_map.1 hj;have:=List.mem_filter.1 he;exact h2 e (by simpa using this.1) this.2
 ·rintro⟨h1,o,ho,h2⟩;have ho':ops[i]? =some o:=by simpa using ho
  have hi:i<listed.size:=by rw[hsz];exact(ξH ho').1
  refine⟨by simpa[Array.getD_eq_getD_getElem?,hi]using h1,o,ho',fun e he hb=>h2 e.on (List.mem_map.2 ⟨e,List.mem_filter.2 ⟨by simpa using he,hb⟩,rfl⟩)⟩
theorem ZQ6 {i:Nat} {o:Oper} (ho:ops.toList[i]? =some o) {K:Act→World→Prop} {a:Act} {w:World} (h:if Region.wanted o (yielded ops a.tmps)then o.wp P a w K Q else K (a.put o.dst undef) w):wpOp P ops Q i K a w:=by
 unfold wpOp;have ho':ops[i]? =some o:=by simpa using ho
 rw[ho'];simp only;split
 ·rename_i hw;rw[if_pos hw]at h;exact .inl h
 ·rename_i hw;rw[if_neg hw]at h;exact h
theorem ZNM {k:Nat} {f:Nat→Bool} (h: ∃j,j<k∧f j=false): ∃j,(j<k∧f j=false)∧ ∀i,i<j→f i=true:=by
 obtain⟨j,hj⟩:=h
 induction j using Nat.strongRecOn with
 |_ j ihj=>
  by_cases h: ∃i,i<j∧f i=false
  ·obtain⟨i,hi,hi2⟩:=h;exact ihj i hi ⟨by omega,hi2⟩
  ·exact⟨j,hj,fun i hi=>by
    cases hb:f i with
    |true=>rfl
    |false=>exact absurd ⟨i,hi,hb⟩ h⟩
def YK (os0:List Ob) (F:List Qb) (G:List (Option (List Ob))) (dn:Nat→Bool):List Ob:=Zp G dn 0 (os0++Yx F dn 0)
theorem ZJg: ∀(F:List Qb) (dn:Nat→Bool) (i:Nat),(∀(j:Nat) (t:Option Nat) (d:D) (x:Ob),F[j]? =some (t,d,some x)→dn (i+j)=true)→Yx F dn i=Zu F
 | [],_,_,_=>rfl
 |(dst,d,none)::l,dn,i,h=>by
  simp only[Yx,Zu];exact ZJg l dn (i+1) (fun j t d x hj=>by have:=h (j+1) t d x (by simpa using hj);rw[show i+1+j=i+(j+1) by omega];exact this)
 |(dst,d,some ob)::l,dn,i,h=>by
  simp only[Yx,Zu];have h0:=h 0 _ _ _ rfl;rw[Nat.add_zero]at h0;rw[h0,ZJg l dn (i+1) (fun j t d x hj=>by have:=h (j+1) t d x (by simpa using hj);rw[show i+1+j=i+(j+1) by omega];exact this)];rfl
theorem ZCy: ∀(F:List Qb) (m:Nat),(∀(j:Nat) (t:Option Nat) (d:D) (x:Ob),F[j]? =some (t,d,some x)→j<m)→Zu (F.take m)=Zu F
 | [],m,_=>by simp[Zu]
 |(dst,d,none)::l,0,h=>by
  have:=ZCy l 0 (fun j t d x hj=>by have:=h (j+1) t d x (by simpa using hj);omega);simp only[List.take_zero,Zu]at this⊢;exact this
 |(dst,d,some ob)::l,0,h=>by have:=h 0 _ _ _ rfl;omega
 |(dst,d,none)::l,m+1,h=>by
  simp only[List.take_succ_cons,Zu];exact ZCy l m (fun j t d x hj=>by have:=h (j+1) t d x (by simpa using hj);omega)
 |(dst,d,some ob)::l,m+1,h=>by
  simp only[List.take_succ_cons,Zu];rw[ZCy l m (fun j t d x hj=>by have:=h (j+1) t d x (by simpa using hj);omega)]
theorem ZA6: ∀(G:List (Option (List Ob))) (m i:Nat) (b:List Ob),Zp G (fun j=>decide (j<i+m)) i b=Zp (G.take m) (fun _=>true) i b
 | [],m,i,b=>by simp[Zp]
 |g::l,0,i,b=>by
  simp only[List.take_zero,Zp,Nat.add_zero];exact Yq _ _ _ _ (fun j x _=>by simp)
 |none::l,m+1,i,b=>by
  simp only[List.take_succ_cons,Zp];rw[←ZA6 l m (i+1) b];exact Yd l _ _ _ _ (fun j x _=>by congr 1;simp;omega)
 |some x::l,m+1,i,b=>by
  have:decide (i<i+(m+1))=true:=by simp
  simp only[List.take_succ_cons,Zp,this,if_true];rw[←ZA6 l m (i+1) x];exact Yd l _ _ _ _ (fun j x _=>by congr 1;simp;omega)
theorem ZLt {φ:List (Nat×D)} {os:List Ob} {o:IOp} {d:D} (h:ZDZ φ os o=some (true,d)):
  ∃u id ext off len rs,o.g=none∧o.e= .b2s (.t u)∧Go.Ab.get φ u= .ref id ext off len∧Zq os (.ref id ext off len)=some rs∧rs.all ZCz=true∧d= .x (.str (rs.map ZBr)):=by
 unfold ZDZ at h;split at h
 ·rename_i u hg he;split at h
  ·rename_i id ext off len hx;obtain⟨rs,h1,h2⟩:=Zd h;simp only[Zc]at h2;exact⟨u,id,ext,off,len,rs,hg,he,hx,h1,h2.1,h2.2.symm⟩
  ·cases h
 ·cases h
theorem ZLs {os os':List Ob} {id ext off len:Nat} {r:List (List X)} (h:os'[id]? =os[id]?) (hr:Zq os (.ref id ext off len)=some r):Zq os' (.ref id ext off len)=some r:=by
 simp only[Zq]at hr⊢;rw[h];exact hr
theorem ZJo: ∀(F:List Qb) (dn:Nat→Bool) (i p:Nat) (x:Ob),(Yx F dn i)[p]? =some x→x= .dead∨(Zu F)[p]? =some x
 | [],_,_,p,x,h=>by simp[Yx]at h
 |(dst,d,none)::l,dn,i,p,x,h=>by simp only[Yx]at h;simp only[Zu];exact ZJo l dn (i+1) p x h
 |(dst,d,some ob)::l,dn,i,p,x,h=>by
  simp only[Yx]at h;simp only[Zu];cases p with
  |zero=>
   simp at h;split at h
   ·exact .inr (by simp[h])
   ·exact .inl h.symm
  |succ p=>exact ZJo l dn (i+1) p x (by simpa using h)
theorem ZF3: ∀(F:List Qb) (m p:Nat) (x:Ob),(Zu (F.take m))[p]? =some x→(Zu F)[p]? =some x
 | [],m,p,x,h=>by simp[Zu]at h
 |r::l,0,p,x,h=>by simp[Zu]at h
 |(dst,d,none)::l,m+1,p,x,h=>by
  simp only[List.take_succ_cons,Zu]at h⊢;exact ZF3 l m p x h
 |(dst,d,some ob)::l,m+1,p,x,h=>by
  simp only[List.take_succ_cons,Zu]at h⊢;cases p with
  |zero=>simpa using h
  |succ p=>exact ZF3 l m p x (by simpa using h)
theorem ZYk (hS:SsOk P S) (D0:Draw ops.toList il k rs) (hcomp:ops.toList.mapM (YV P n ops)=some il) {φ0:List (Nat×D)} {F:List Qb} {G:List (Option (List Ob))} (hrun:JQ S os0 k rs 0 φ0 os0.length os0 il=some (true,F,G)) (hpre:ZH7 rs os0 G=true)
  (hQ: ∀E' a',Rel c E' (Zp G (fun _=>true) 0 (os0++Zu F))→Evo E0 os0 E' (Zp G (fun _=>true) 0 (os0++Zu F))→Fr n E' (Zp G (fun _=>true) 0 (os0++Zu F)) (YT φ0 F) a'→Q .normal a' E'.w):
  ∀(fuel:Nat) (listed:Array Bool) (a:Act) (E:Env),listed.size=ops.size→ZH2 ops.toList (fun j=>listed.getD j false)→(List.range ops.size).countP (fun j=> !listed.getD j false)≤fuel→
   Rel c E (YK os0 F G (fun j=>listed.getD j false))→Evo E0 os0 E (YK os0 F G (fun j=>listed.getD j false))→a.tmps.size=n→a.defers= []→(∀t,V E (YK os0 F G (fun j=>listed.getD j false)) (look F (fun j=>listed.getD j false) 0 (Go.Ab.get φ0 t) t) (a.tmps.getD t undef))→
   wpAny P .any ops Q fuel listed a E.w:=by
 obtain⟨hlen,hat⟩:=ZAl hcomp;simp only[Array.length_toList]at hlen;obtain⟨hFl,hGl,hF⟩:=ZBq hrun;simp only[Nat.zero_add]at hF;have rec_of: ∀(j:Nat) (r:Qb),F[j]? =some r→ ∃y,il[j]? =some y∧y.dst=r.1:=by
  intro j r hj;have hjl:=(Za hj).1;have hy:il[j]? =some (il[j]'(by omega)):=YE _;obtain⟨d,x,s,h1,_⟩:=hF j _ hy;rw[hj]at h1;cases h1;exact⟨_,hy,rfl⟩
 have st_of: ∀(j:Nat) (x:List Ob),G[j]? =some (some x)→ ∃y,il[j]? =some y∧y.ex rs j=false∧k≤j:=by
  intro j x hj;have hjl:=(Za hj).1;have hy:il[j]? =some (il[j]'(by omega)):=YE _;obtain⟨d,x',s,_,h2,h3⟩:=hF j _ hy;rw[hj]at h2;cases h2;cases h3 with
  |turn hf hk h=>exact⟨_,hy,hf,hk⟩
 have mk_of: ∀(j:Nat) (t:Option Nat) (d:D) (x:Ob),F[j]? =some (t,d,some x)→ ∃y,il[j]? =some y∧y.ex rs j=false∧j<k:=by
  intro j t d x hj;have hjl:=(Za hj).1;have hy:il[j]? =some (il[j]'(by omega)):=YE _;obtain⟨d',x',s,h1,_,h3⟩:=hF j _ hy;rw[hj]at h1;cases h1;cases h3 with
  |make hf hk h=>exact⟨_,hy,hf,hk⟩
 have oper_of: ∀j,j<ops.size→ ∃o,ops.toList[j]? =some o:=fun j hj=>⟨ops[j],by simp[hj]⟩
 have fin: ∀(listed:Array Bool) (a:Act) (E:Env),listed.size=ops.size→Rel c E (YK os0 F G (fun j=>listed.getD j false))→Evo E0 os0 E (YK os0 F G (fun j=>listed.getD j false))→a.tmps.size=n→a.defers= []→(∀t,V E (YK os0 F G (fun j=>listed.getD j false)) (look F (fun j=>listed.getD j false) 0 (Go.Ab.get φ0 t) t) (a.tmps.getD t undef))→
   (Region.ready .any ops listed= []→Q .normal a E.w):=by
  intro listed a E hsz R ev h1 h2 h3 hr;have all: ∀j,j<ops.size→listed.getD j false=true:=by
   intro j hj;cases hb:listed.getD j false with
   |true=>rfl
   |false=>
    exfalso;obtain⟨j0,⟨hj0,hj1⟩,hj2⟩:=ZNM (k:=ops.size) (f:=fun j=>listed.getD j false) ⟨j,hj,hb⟩;have:j0∈Region.ready .any ops listed:=(ZBp hsz).2 ⟨hj1,ops[j0]'(by omega),by simp,fun j hj=>hj2 j (D0.back j0 _ (by simp) j hj)⟩;rw[hr]at this;cases this
  have e1:YK os0 F G (fun j=>listed.getD j false)=Zp G (fun _=>true) 0 (os0++Zu F):=by
   unfold YK;rw[ZH9 F _ 0 (fun j r hj=>by rw[Nat.zero_add];exact all j (by have:=(Za hj).1;omega))];exact Yd G _ _ _ _ (fun j x hj=>by rw[Nat.zero_add];exact all j (by have:=(Za hj).1;omega))
  rw[e1]at R ev h3;refine hQ E a R ev ⟨h1,h2,fun t=> ?_⟩;have:=ZEN F φ0 F.length 0 t;rw[List.take_length]at this;rw[this];have e:look F (fun j=>decide (j<0+F.length)) 0 (Go.Ab.get φ0 t) t=look F (fun j=>listed.getD j false) 0 (Go.Ab.get φ0 t) t:=QV F _ _ _ _ _ (fun j d o hj=>by
   have hjl:=(Za hj).1;simp only[Nat.zero_add,hjl,decide_true,all j (by omega)])
  rw[e];exact h3 t
 intro fuel
 induction fuel with
 |zero=>
  intro listed a E hsz hcl hfu R ev h1 h2 h3;have hr:Region.ready .any ops listed= []:=by
   apply List.eq_nil_iff_forall_not_mem.2;intro i hi;obtain⟨g1,o,ho,_⟩:=(ZBp hsz).1 hi;have hlt:i<ops.size:=by have:=(Za ho).1;simpa using this
   have h0:(List.range ops.size).countP (fun j=> !listed.getD j false)=0:=by omega
   have:=List.countP_eq_zero.1 h0 i (List.mem_range.2 hlt);rw[g1]at this;simp at this
  exact⟨hr,fin listed a E hsz R ev h1 h2 h3 hr⟩
 |succ fuel ih=>
  intro listed a E hsz hcl hfu R ev h1 h2 h3;refine⟨fin listed a E hsz R ev h1 h2 h3,fun i hi=> ?_⟩;obtain⟨g1,o,ho,g2⟩:=(ZBp hsz).1 hi;have hlt:i<ops.size:=by have:=(Za ho).1;simpa using this
  have hil:il[i]? =some (il[i]'(by omega)):=YE _;have hio:=hat i o _ ho hil;obtain⟨d,x,s,hFi,hGi,hst⟩:=hF i _ hil;generalize hioe:il[i]'(by omega)=io at*;have hlook: ∀t∈io.reads,Go.Ab.get (YT φ0 (F.take i)) t=look F (fun j=>listed.getD j false) 0 (Go.Ab.get φ0 t) t:=by
   intro t ht;rw[ZEN F φ0 i 0 t];refine QV F _ _ _ _ _ (fun j d' o' hj=> ?_);obtain⟨y,hy,hyd⟩:=rec_of j _ hj;have hjl:j<ops.size:=by have:=(Za hy).1;omega
   obtain⟨p,hp⟩:=oper_of j hjl;simp only[Nat.zero_add];rcases D0.reads i j io y t o p hil hy ho hp ht hyd with⟨w1,w2⟩|⟨w1,w2⟩
   ·rw[g2 j w2];simpa using w1
   ·have:listed.getD j false=false:=by
     cases hb:listed.getD j false with
     |false=>rfl
     |true=>
      have h9:listed.getD i false=true:=hcl j _ hp hb i w2;rw[g1]at h9;cases h9
    rw[this];simp;omega
  let φs:List (Nat×D):=io.reads.map fun t=>(t,look F (fun j=>listed.getD j false) 0 (Go.Ab.get φ0 t) t)
  have hget: ∀t,Go.Ab.get φs t=look F (fun j=>listed.getD j false) 0 (Go.Ab.get φ0 t) t∨(Go.Ab.get φs t= .und∧t∉io.reads):=by
   intro t;have key: ∀l:List Nat,Go.Ab.get (l.map fun t=>(t,look F (fun j=>listed.getD j false) 0 (Go.Ab.get φ0 t) t)) t=if t∈l then look F (fun j=>listed.getD j false) 0 (Go.Ab.get φ0 t) t else .und:=by
    intro l
    induction l with
    |nil=>rfl
    |cons u l ihl=>
     simp only[List.map_cons,Go.Ab.get,List.mem_cons];by_cases hu:u=t
     ·subst hu;simp
     ·have: ¬t=u:=fun e=>hu e.symm
      simp only[hu,if_false,ihl,this,false_or]
   rw[key io.reads];by_cases ht:t∈io.reads
   ·rw[if_pos ht];exact .inl rfl
   ·rw[if_neg ht];exact .inr ⟨rfl,ht⟩
  have hfs:Fr n E (YK os0 F G (fun j=>listed.getD j false)) φs a:=⟨h1,h2,fun t=>by
   rcases hget t with h|⟨h,_⟩<;>rw[h]
   ·exact h3 t
   ·exact .und _⟩
  have hagree: ∀t∈io.reads,Go.Ab.get φs t=Go.Ab.get (YT φ0 (F.take i)) t:=fun t ht=>by
   rw[hlook t ht];rcases hget t with h|⟨_,h⟩
   ·exact h
   ·exact absurd ht h
  have hdst:io.dst=o.dst∧(o.dst.all fun t=>decide (t<n))=true:=by
   simp only[YV,Yk]at hio;obtain⟨e,he,hc⟩:=hio;split at hc
   ·rename_i hd;split at hc
    ·cases hc;exact⟨rfl,hd⟩
    ·obtain⟨s,_,hc⟩:=Zd hc;cases hc;exact⟨rfl,hd⟩
   ·cases hc
  have huniq: ∀(j u:Nat) (d':D) (o':Option Ob),F[j]? =some (some u,d',o')→io.dst=some u→j=i:=by
   intro j u d' o' hj hd;obtain⟨y,hy,hyd⟩:=rec_of j _ hj;exact(D0.own i j io y u hil hy hd hyd).symm
  have hnext:(fun j=>(listed.setIfInBounds i true).getD j false)=fun j=>listed.getD j false||decide (j=0+i):=by
   funext j;rw[ZAw _ _ _ (by omega),Nat.zero_add]
  have step: ∀(v:Value) (E':Env) (os':List Ob),os'=YK os0 F G (fun j=>(listed.setIfInBounds i true).getD j false)→Rel c E' os'→Evo E (YK os0 F G (fun j=>listed.getD j false)) E' os'→V E' os' d v→
    wpAny P .any ops Q fuel (listed.setIfInBounds i true) (a.put o.dst v) E'.w:=by
   intro v E' os' hos R' e' hv;subst hos;refine ih _ _ E' (by simp[hsz]) ?_ ?_ R' (ev.trans e') ?_ (by cases hd:o.dst<;>simp[Act.put,h2]) (fun t=> ?_)
   ·intro q p hp hq j hj;show(listed.setIfInBounds i true).getD j false=true
    replace hq:(listed.setIfInBounds i true).getD q false=true:=hq
    rw[ZAw _ _ _ (by omega)]at hq⊢;by_cases hqi:q=i
    ·subst hqi;rw[ho]at hp;cases hp;rw[g2 j hj];rfl
    ·simp only[hqi,decide_false,Bool.or_false]at hq;have h9:listed.getD j false=true:=hcl q p hp hq j hj;rw[h9];rfl
   ·have hlt':(List.range ops.size).countP (fun j=> !(listed.setIfInBounds i true).getD j false)<(List.range ops.size).countP (fun j=> !listed.getD j false):=
     ZHn (List.mem_range.2 hlt) (by rw[g1];rfl) (by rw[ZAw _ _ _ (by omega)];simp) (fun j hj=>by
      rw[ZAw _ _ _ (by omega)]at hj;simp only[Bool.not_or,ZW]at hj;exact hj.1)
    omega
   ·cases hd:o.dst with
    |none=>exact h1
    |some t=>simp[Act.put,h1]
   ·rw[hnext,ZJL F _ 0 _ i io.dst d x t hFi huniq,←hnext];by_cases ht:io.dst=some t
    ·rw[if_pos ht];rw[←hdst.1,ht];have:(a.put (some t) v).tmps.getD t undef=v:=by
      have hb:t<n:=by have:=hdst.2;rw[←hdst.1,ht]at this;simpa using this
      simp[Act.put,Array.getD_eq_getD_getElem?,h1,hb]
     rw[this];exact hv
    ·rw[if_neg ht];have:(a.put o.dst v).tmps.getD t undef=a.tmps.getD t undef:=by
      rw[←hdst.1];cases hd:io.dst with
      |none=>rfl
      |some u=>
       have hne:u≠t:=fun e=>ht (by rw[hd,e])
       simp[Act.put,Array.getD_eq_getD_getElem?,hne]
     rw[this];exact(h3 t).mono e'
  have hsm: ∀j,listed.getD j false=true→j≠i:=fun j hj e=>by subst e;rw[g1]at hj;cases hj
  refine ZQ6 ho ?_;have later:io.ex rs i=false→ ∀(j:Nat) (x':List Ob),i<j→G[j]? =some (some x')→listed.getD j false=false:=by
   intro hf j x' hij hj;obtain⟨y,hy,hyf,hkj⟩:=st_of j x' hj;have hjl:j<ops.size:=by have:=(Za hy).1;omega
   obtain⟨p,hp⟩:=oper_of j hjl;cases hb:listed.getD j false with
   |false=>rfl
   |true=>
    have h9:listed.getD i false=true:=D0.tail j p y hkj hp hy hyf _ hcl (hcl j p hp hb) i io hij hil hf;rw[g1]at h9;cases h9
  cases hst with
  |frame hf hq=>
   have hos:YK os0 F G (fun j=>(listed.setIfInBounds i true).getD j false)=YK os0 F G (fun j=>listed.getD j false):=by
    unfold YK;rw[hnext,QR F _ 0 i io.dst d hFi];refine Yd G _ _ _ _ (fun j x' hj=> ?_);have:j≠i:=fun e=>by subst e;rw[hGi]at hj;cases hj
    simp[this]
   rw[←ZBo S [] hagree]at hq;exact ZDI (os:= []) (Y:=YK os0 F G (fun j=>listed.getD j false)) hS R hfs hio hq (fun v E' R' e' hv=>step v E' _ hos.symm R' e' hv)
  |look hf hq=>
   have hG: ∀(j:Nat) (x:List Ob),G[j]? =some (some x)→ ∃Y,x=os0++Y:=by
    cases rs with
    |nil=>cases hf
    |cons r rs=>exact ZHX hpre
   obtain⟨Y,hY⟩:=ZGy (fun j=>listed.getD j false) 0 (os0++Yx F (fun j=>listed.getD j false) 0) hG ⟨_,rfl⟩;have hob:YK os0 F G (fun j=>listed.getD j false)=os0++Y:=hY;have hos:YK os0 F G (fun j=>(listed.setIfInBounds i true).getD j false)=YK os0 F G (fun j=>listed.getD j false):=by
    unfold YK;rw[hnext,QR F _ 0 i io.dst d hFi];refine Yd G _ _ _ _ (fun j x' hj=> ?_);have:j≠i:=fun e=>by subst e;rw[hGi]at hj;cases hj
    simp[this]
   rw[←ZBo S os0 hagree]at hq;rw[hob]at R hfs;exact ZDI hS R hfs hio hq (fun v E' R' e' hv=>step v E' _ (by rw[hos,hob]) R' (by rw[hob];exact e') hv)
  |read hf hk hq=>
   have no: ∀(j:Nat) (x':List Ob),G[j]? =some (some x')→listed.getD j false=false:=fun j x' hj=>by
    obtain⟨_,_,_,hkj⟩:=st_of j x' hj;exact later hf j x' (by omega) hj
   have hob:YK os0 F G (fun j=>listed.getD j false)=os0++Yx F (fun j=>listed.getD j false) 0:=Yq G _ 0 _ (fun j x' hj=>by rw[Nat.zero_add];exact no j x' hj);have hos:YK os0 F G (fun j=>(listed.setIfInBounds i true).getD j false)=YK os0 F G (fun j=>listed.getD j false):=by
    unfold YK;rw[hnext,QR F _ 0 i io.dst d hFi];refine Yd G _ _ _ _ (fun j x' hj=> ?_);have:j≠i:=fun e=>by subst e;rw[hGi]at hj;cases hj
    simp[this]
   rw[←ZBo S os0 hagree]at hq;rw[hob]at R hfs;exact ZDI hS R hfs hio hq (fun v E' R' e' hv=>step v E' _ (by rw[hos,hob]) R' (by rw[hob];exact e') hv)
  |near hf hk hq=>
   have no: ∀(j:Nat) (x':List Ob),G[j]? =some (some x')→listed.getD j false=false:=fun j x' hj=>by
    obtain⟨_,_,_,hkj⟩:=st_of j x' hj;exact later hf j x' (by omega) hj
   have hob:YK os0 F G (fun j=>listed.getD j false)=os0++Yx F (fun j=>listed.getD j false) 0:=Yq G _ 0 _ (fun j x' hj=>by rw[Nat.zero_add];exact no j x' hj);have hos:YK os0 F G (fun j=>(listed.setIfInBounds i true).getD j false)=YK os0 F G (fun j=>listed.getD j false):=by
    unfold YK;rw[hnext,QR F _ 0 i io.dst d hFi];refine Yd G _ _ _ _ (fun j x' hj=> ?_);have:j≠i:=fun e=>by subst e;rw[hGi]at hj;cases hj
    simp[this]
   have hcur:Zp (G.take i) (fun _=>true) 0 (os0++Zu (F.take i))=os0++Zu (F.take i):=by
    rw[←ZA6 G i 0];refine Yq G _ 0 _ (fun j x' hj=> ?_);obtain⟨_,_,_,hkj⟩:=st_of j x' hj;simp;omega
   rw[hcur]at hq;obtain⟨u,id,ext,off,len,rs',hg,he,hx,hr,hb,rfl⟩:=ZLt hq;have hx':Go.Ab.get φs u= .ref id ext off len:=by
    rw[←hx];exact hagree u (by simp[IOp.reads,he,IE.reads,IO.reads])
   have hv:=hfs.slot u;rw[hx']at hv;have hr':Zq (YK os0 F G (fun j=>listed.getD j false)) (.ref id ext off len)=some rs':=by
    cases hv with
    |ref h1 h2=>
     obtain⟨o',sz',rs2,k1,k2,k3⟩:=h1;rw[hob]at k1⊢;refine ZLs ?_ hr;by_cases hid:id<os0.length
     ·rw[Yt hid,Yt hid]
     ·rw[List.getElem?_append_right (by omega)]at k1⊢;rw[List.getElem?_append_right (by omega)];have hsome: ∃ob,(Zu (F.take i))[id-os0.length]? =some ob:=by
       cases hc:(Zu (F.take i))[id-os0.length]? with
       |some ob=>exact⟨ob,rfl⟩
       |none=>
        simp only[Zq]at hr;rw[List.getElem?_append_right (by omega),hc]at hr;cases hr
      obtain⟨ob,hob'⟩:=hsome;rw[hob',k1];rcases ZJo F (fun j=>listed.getD j false) 0 _ _ k1 with h|h
      ·subst h;cases k2
      ·rw[ZF3 F i _ _ hob']at h;exact h.symm
   have hq2:Ym S φs (YK os0 F G (fun j=>listed.getD j false)) io=some (true,.x (.str (rs'.map ZBr))):=by
    simp only[Ym,hg,he,Jk,ZS,ZE,hx',D.val,D.cond,hr',Option.map_some,hb,Bool.and_true]
   exact ZDI (os:=YK os0 F G (fun j=>listed.getD j false)) (Y:= []) hS (by rw[List.append_nil];exact R) (by rw[List.append_nil];exact hfs) hio hq2 (fun v E' R' e' hv=>step v E' _ (by rw[hos,List.append_nil]) R' (by rw[List.append_nil]at e'⊢;exact e') hv)
  |make hf hk hq=>
   rename_i ob';have no: ∀(j:Nat) (x':List Ob),G[j]? =some (some x')→listed.getD j false=false:=fun j x' hj=>by
    obtain⟨_,_,_,hkj⟩:=st_of j x' hj;exact later hf j x' (by omega) hj
   have hob:YK os0 F G (fun j=>listed.getD j false)=os0++Yx F (fun j=>listed.getD j false) 0:=Yq G _ 0 _ (fun j x' hj=>by rw[Nat.zero_add];exact no j x' hj);obtain⟨m1,m2⟩:=ZJU F (fun j=>listed.getD j false) 0 i io.dst d ob' hFi (by simpa using g1);have hos:YK os0 F G (fun j=>(listed.setIfInBounds i true).getD j false)=(os0++Yx F (fun j=>listed.getD j false) 0).set (os0.length+Ys F i) ob':=by
    unfold YK;rw[hnext,m2,List.set_append_right _ _ (by omega),Nat.add_sub_cancel_left];refine Yq G _ 0 _ (fun j x' hj=> ?_);have:j≠i:=fun e=>by subst e;rw[hGi]at hj;cases hj
    simp only[Nat.zero_add,no j x' hj,this,decide_false,Bool.or_false]
   rw[←ZMV S os0 _ hagree]at hq;rw[hob]at R hfs;refine ZXG hS R hfs hio (id:=os0.length+Ys F i) ?_ hq (fun v E' R' e' hv=>step v E' _ hos.symm R' (by rw[hob];exact e') hv);rw[List.getElem?_append_right (by omega),Nat.add_sub_cancel_left];exact m1
  |turn hf hk hq=>
   rename_i s';have early: ∀(j:Nat) (y:IOp),j<i→il[j]? =some y→y.ex rs j=false→listed.getD j false=true:=fun j y hj hy hyf=>D0.tail i o io hk ho hil hf _ hcl g2 j y hj hy hyf
   have hcr:Yx F (fun j=>listed.getD j false) 0=Zu F:=ZJg F _ 0 (fun j t d' x' hj=>by
    obtain⟨y,hy,hyf,hjk⟩:=mk_of j t d' x' hj;rw[Nat.zero_add];exact early j y (by omega) hy hyf)
   have hrt:Zu (F.take i)=Zu F:=ZCy F i (fun j t d' x' hj=>by obtain⟨_,_,_,hjk⟩:=mk_of j t d' x' hj;omega);have hob:YK os0 F G (fun j=>listed.getD j false)=Zp (G.take i) (fun _=>true) 0 (os0++Zu (F.take i)):=by
    unfold YK;rw[hcr,hrt,←ZA6 G i 0];refine Yd G _ _ _ _ (fun j x' hj=> ?_);obtain⟨y,hy,hyf,hkj⟩:=st_of j x' hj;simp only[Nat.zero_add];rcases Nat.lt_trichotomy j i with h|h|h
    ·rw[early j y h hy hyf];simp[h]
    ·subst h;rw[g1];simp
    ·rw[later hf j x' h hj];simp;omega
   have hos:YK os0 F G (fun j=>(listed.setIfInBounds i true).getD j false)=s':=by
    unfold YK;rw[hnext];refine ZDR G _ 0 _ i s' hGi (by simp) (fun j x' hij hj=> ?_);have:j≠i:=by omega
    simp only[Nat.zero_add,later hf j x' hij hj,this,decide_false,Bool.or_false]
   rw[←hob,←ZMN S _ hagree]at hq;exact ZVF hS R hfs hio hq (fun v E' R' e' hv=>step v E' _ hos.symm R' e' hv)
theorem ZQw (hm:P.follows .mixedOrders=true) (hS:SsOk P S) (hok:ZCx ops.toList il k rs=true) (hcomp:ops.toList.mapM (YV P n ops)=some il) {id:Nat} {φ0 φ2:List (Nat×D)} {os2:List Ob} {E:Env} {a:Act} (R:Rel c E os0) (hf:Fr n E os0 φ0 a) (hrun:ZLL S φ0 os0 k rs il=some (true,φ2,os2))
  (hQ: ∀E' a',Rel c E' os2→Evo E os0 E' os2→Fr n E' os2 φ2 a'→Q .normal a' E'.w):(Code.region id ops true).wp P Q a E.w:=by
 simp only[ZLL,Kh]at hrun;obtain⟨⟨ok,F,G⟩,hrun,h3⟩:=hrun;simp at h3;obtain⟨⟨rfl,hpre⟩,rfl,rfl⟩:=h3;have D0:=Draw.of hok;obtain⟨R1,e1⟩:=R.world {E.w with drawn:=E.w.drawn+1} E.st ⟨rfl,rfl,rfl,Nat.le_refl _,fun _ _ _=>rfl⟩ (fun _ _ h=>h) (fun _ _ h=> .inl h);obtain⟨E2,w2,R2,e2⟩:=ZEs F 0 R1;have hrep:(fun j=>(Array.replicate ops.size false).getD j false)=fun _=>false:=by
  funext j;rw[Array.getD_eq_getD_getElem?];by_cases h:j<ops.size<;>simp[h]
 have hob:YK os0 F G (fun _=>false)=os0++Yx F (fun _=>false) 0:=Yq G _ 0 _ (fun _ _ _=>rfl);have hinit:=ZYk (E0:=E) hS D0 hcomp hrun hpre hQ ops.size (Array.replicate ops.size false) a E2 (by simp) (by rw[hrep];intro i o _ h;cases h) (by
  have:=List.countP_le_length (p:=fun j=> !(Array.replicate ops.size false).getD j false) (l:=List.range ops.size);simpa using this) (by rw[hrep,hob];exact R2) (by rw[hrep,hob];exact e1.trans e2) hf.size hf.defers (fun t=>by
   rw[hrep,hob,ZC0 F _ 0 _ t (fun j d o _=>rfl)];exact((hf.slot t).mono e1).mono e2)
 refine wp_region_any hm ?_;rw[w2]at hinit;exact hinit
end
end Go.Ab
end
