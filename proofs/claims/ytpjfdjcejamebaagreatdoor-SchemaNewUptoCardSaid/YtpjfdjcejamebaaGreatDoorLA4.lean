import Derived.Test.YtpjfdjcejamebaaGreatDoorLA3
import Derived.LoopN
import Derived.ScopeJumps
import Derived.IntWalk
import Derived.Test.YtpjfdjcejamebaaGreatDoorLA1
set_option linter.unusedSimpArgs false
set_option linter.unusedVariables false
section
namespace Go.Ab
open Go.RowKit Go.Bo
inductive IC where
 |skip
 |reg (ops:List IOp)
 |dreg (k:Nat) (rs:List Nat) (ops:List IOp)
 |seq (a b:IC)
 |cond (x:IO) (a b:IC)
 |block (id:Nat) (b:IC)
 |loop (b:IC)
 |exit (id:Nat)
 |ret
 |scope (b cur:IC)
 |label (l:Nat)
 |goto (l:Nat)
 |dead
def IE.reader:IE→Bool
 | .ld _ _ _=>true
 | .iad _ _ _=>true
 | .iada _ _ _ _=>true
 | .len _ _=>true
 | .eq _ _ _ _=>true
 | .slc _ _ _ _ _=>true
 | .b2s _=>true
 | .mlk _ _ _ _ _=>true
 | .mln _=>true
 |_=>false
def IE.turner:IE→Bool
 | .sto _ _ _=>true
 | .app _ _ _ _ _=>true
 | .apz _ _ _ _ _ _=>true
 | .mup _ _ _ _=>true
 | .mdl _ _ _=>true
 | .men _ _ _ _=>true
 | .est _ _ _=>true
 | .mcl _=>true
 | .cpy _ _ _=>true
 |_=>false
def Za5 (i c:Nat):Nat→List Nat→List IOp→Bool
 |j,d::l,o::il=>(o.e.turner&&(!Nat.testBit c j&& !Nat.testBit d i))||Za5 i c (j+1) l il
 |_,_,_=>false
def rsG (C:List Nat) (il:List IOp):Nat→List Nat→List IOp→List Nat
 |i,c::l,o::il'=>if(!o.e.frame&&o.e.reader)&&Za5 i c 0 C il then i::rsG C il (i+1) l il' else rsG C il (i+1) l il'
 |_,_,_=> []
def cutG (rs:List Nat):Nat→Nat→Nat→List Nat→List IOp→Nat
 |i,k,m,c::l,o::il=>cutG rs (i+1) (if o.ex rs i||Nat.beq (Nat.land c m) m then k else i+1) (if o.ex rs i then m else m|||2^i) l il
 |_,k,_,_,_=>k
def ZX9:List Nat→List IOp→List Bool
 |_,[]=> []
 |mk,o::il=>
  let der:=o.e.reads.any fun t=>YH t mk
  der::ZX9 (match o.dst with
   |some d=>if der|| !(o.e.frame||o.e.reader)then d::mk else mk
   |none=>mk) il
def ZVc (i c:Nat):Nat→List Nat→List IOp→Bool
 |j,d::l,o::il=>(!o.e.frame&&(!Nat.beq i j&&(!Nat.testBit c j&& !Nat.testBit d i)))||ZVc i c (j+1) l il
 |_,_,_=>false
def ZSX (C:List Nat) (il:List IOp):Nat→List Nat→List Bool→List IOp→List Nat
 |i,c::l,d::dl,o::il'=>if(!o.e.frame&&o.e.reader)&&(!d&&ZVc i c 0 C il)then i::ZSX C il (i+1) l dl il' else ZSX C il (i+1) l dl il'
 |_,_,_,_=> []
def Zaf (il:List IOp):Bool:=(il.any fun o=>o.g.isSome&&match o.e with
 | .bsl _ _ _ _=>true
 |_=>false)&& !(il.any fun o=>o.e.turner)
def ZLG (P:Program) (ops:Array Oper) (il:List IOp):Option (Nat×List Nat×List IOp):=
 let C:=ZAP [] ops.toList
 let rs:=if Zaf il=true then ZSX C il 0 C (ZX9 [] il) il else rsG C il 0 C il
 let k:=cutG rs 0 0 0 C il
 if P.follows .mixedOrders=true∧ZEP ops.toList il k rs=true then some (k,rs,il)else none
theorem ZOe {P:Program} {ops:Array Oper} {il l:List IOp} {k:Nat} {rs:List Nat} (h:ZLG P ops il=some (k,rs,l)):P.follows .mixedOrders=true∧ZEP ops.toList l k rs=true∧il=l:=by
 unfold ZLG at h;simp only at h;generalize(if Zaf il=true then ZSX (ZAP [] ops.toList) il 0 (ZAP [] ops.toList) (ZX9 [] il) il else rsG (ZAP [] ops.toList) il 0 (ZAP [] ops.toList) il)=RS at h;by_cases h3:P.follows .mixedOrders=true∧ZEP ops.toList il (cutG RS 0 0 0 (ZAP [] ops.toList) il) RS=true
 ·rw[if_pos h3]at h;simp only[Zg,Ze]at h;obtain⟨rfl,rfl,rfl⟩:=h;exact⟨h3.1,h3.2,rfl⟩
 ·rw[if_neg h3]at h;cases h
def ZKk (x:Option IC):Option IC:=some (x.getD .dead)
theorem KB {x:Option IC} {ic:IC} (h:ZKk x=some ic) (hd:ic≠ .dead):x=some ic:=by
 cases x with
 |none=>simp only[ZKk,Option.getD_none,Zg]at h;exact absurd h.symm hd
 |some y=>simpa[ZKk]using h
def Zj (P:Program) (n:Nat):Code→Option IC
 | .skip=>some .skip
 | .region _ ops draw=>ZKk (if draw then((ops.toList.mapM (Yk P n ops)).bind (ZLG P ops)).map fun p=> .dreg p.1 p.2.1 p.2.2
  else(ops.toList.mapM (Yk P n ops)).map .reg)
 | .refuse _=>some .dead
 | .seq a b=>(Zj P n a).bind fun a'=>(Zj P n b).map fun b'=> .seq a' b'
 | .cond x a b=>(ZU x).bind fun x'=>(Zj P n a).bind fun a'=>(Zj P n b).map fun b'=> .cond x' a' b'
 | .block i b=>(Zj P n b).map fun b'=> .block i b'
 | .loop b=>(Zj P n b).map .loop
 | .exit i=>some (.exit i)
 | .ret=>some .ret
 | .scope b=>(Zj P n b).map fun b'=> .scope b' b'
 | .label l=>some (.label l)
 | .goto l=>some (.goto l)
 |_=>none
structure Run (c:Ctx) (E0:Env) (os0:List Ob) (E:Env) (os:List Ob):Prop where
 rel:Rel c E os
 evo:Evo E0 os0 E os
def WI (P:Program) (c:Ctx) (E0:Env) (os0:List Ob) (n:Nat) (ic:IC) (Q:Exit→List (Nat×D)→List Ob→Prop) (φ:List (Nat×D)) (os:List Ob):Prop:=
 ∀(code:Code),Zj P n code=some ic→ ∀(E:Env) (a:Act),Run c E0 os0 E os→Fr n E os φ a→
  code.wp P (fun x a' w'=> ∃E' φ' os',E'.w=w'∧Run c E0 os0 E' os'∧Fr n E' os' φ' a'∧Q x φ' os') a E.w
section
variable {P:Program} {c:Ctx} {E0:Env} {os0:List Ob} {n:Nat} {Q:Exit→List (Nat×D)→List Ob→Prop} {φ:List (Nat×D)} {os:List Ob}
theorem WI.mono {ic:IC} {Q':Exit→List (Nat×D)→List Ob→Prop} (h:WI P c E0 os0 n ic Q φ os) (hQ: ∀x φ os,Q x φ os→Q' x φ os):WI P c E0 os0 n ic Q' φ os:=
 fun code hc E a R hf=>wp_mono (h code hc E a R hf) (fun _ _ _ ⟨E',φ',os',h1,h2,h3,h4⟩=>⟨E',φ',os',h1,h2,h3,hQ _ _ _ h4⟩)
theorem ZM4 {code:Code} (hc:Zj P n code=some .skip):code= .skip:=by
 cases code<;>simp only[Zj]at hc<;>(try replace hc:=KB hc (by simp))<;>(try split at hc)<;>simp[Yh]at hc⊢
theorem ZQi {code:Code} {a' b':IC} (hc:Zj P n code=some (.seq a' b')): ∃a b,code= .seq a b∧Zj P n a=some a'∧Zj P n b=some b':=by
 cases code<;>simp only[Zj]at hc<;>(try replace hc:=KB hc (by simp))<;>(try split at hc)<;>simp[Yh]at hc⊢
 exact⟨_,_,⟨rfl,rfl⟩,hc.1,hc.2⟩
theorem ZOr {code:Code} {x':IO} {a' b':IC} (hc:Zj P n code=some (.cond x' a' b')): ∃x a b,code= .cond x a b∧ZU x=some x'∧Zj P n a=some a'∧Zj P n b=some b':=by
 cases code<;>simp only[Zj]at hc<;>(try replace hc:=KB hc (by simp))<;>(try split at hc)<;>simp[Yh]at hc⊢
 obtain⟨x,h1,y,h2,z,h3,rfl,rfl,rfl⟩:=hc;exact⟨_,_,_,⟨rfl,rfl,rfl⟩,h1,h2,h3⟩
theorem ZMf {code:Code} {i:Nat} {b':IC} (hc:Zj P n code=some (.block i b')): ∃b,code= .block i b∧Zj P n b=some b':=by
 cases code<;>simp only[Zj]at hc<;>(try replace hc:=KB hc (by simp))<;>(try split at hc)<;>simp[Yh]at hc⊢
 exact⟨_,⟨hc.2,rfl⟩,hc.1⟩
theorem ZGt {code:Code} {b':IC} (hc:Zj P n code=some (.loop b')): ∃b,code= .loop b∧Zj P n b=some b':=by
 cases code<;>simp only[Zj]at hc<;>(try replace hc:=KB hc (by simp))<;>(try split at hc)<;>simp[Yh]at hc⊢
 exact hc
theorem ZNM {code:Code} {i:Nat} (hc:Zj P n code=some (.exit i)):code= .exit i:=by
 cases code<;>simp only[Zj]at hc<;>(try replace hc:=KB hc (by simp))<;>(try split at hc)<;>simp[Yh]at hc⊢
 exact hc
theorem ZRW {code:Code} (hc:Zj P n code=some .ret):code= .ret:=by
 cases code<;>simp only[Zj]at hc<;>(try replace hc:=KB hc (by simp))<;>(try split at hc)<;>simp[Yh]at hc⊢
theorem ZHa {code:Code} {b' c':IC} (hc:Zj P n code=some (.scope b' c')): ∃b,code= .scope b∧Zj P n b=some b'∧c'=b':=by
 cases code<;>simp only[Zj]at hc<;>(try replace hc:=KB hc (by simp))<;>(try split at hc)<;>simp[Yh]at hc⊢
 obtain⟨h1,h2⟩:=hc;subst h2;exact⟨h1,rfl⟩
theorem ZLi {code:Code} {l:Nat} (hc:Zj P n code=some (.label l)):code= .label l:=by
 cases code<;>simp only[Zj]at hc<;>(try replace hc:=KB hc (by simp))<;>(try split at hc)<;>simp[Yh]at hc⊢
 exact hc
theorem ZPO {code:Code} {l:Nat} (hc:Zj P n code=some (.goto l)):code= .goto l:=by
 cases code<;>simp only[Zj]at hc<;>(try replace hc:=KB hc (by simp))<;>(try split at hc)<;>simp[Yh]at hc⊢
 exact hc
theorem ZF4 {code:Code} {l:List IOp} (hc:Zj P n code=some (.reg l)): ∃id ops,code= .region id ops false∧ops.toList.mapM (Yk P n ops)=some l:=by
 cases code<;>simp only[Zj]at hc<;>(try replace hc:=KB hc (by simp))<;>(try split at hc)<;>simp[Yh]at hc⊢
 rename_i h;exact⟨_,_,⟨rfl,rfl,by simpa using h⟩,hc⟩
theorem ZJM {code:Code} {k:Nat} {rs:List Nat} {l:List IOp} (hc:Zj P n code=some (.dreg k rs l)): ∃id ops,code= .region id ops true∧ops.toList.mapM (Yk P n ops)=some l∧P.follows .mixedOrders=true∧ZEP ops.toList l k rs=true:=by
 cases code<;>simp only[Zj]at hc<;>(try replace hc:=KB hc (by simp))<;>(try split at hc)<;>simp[Yh]at hc⊢
 rename_i h;obtain⟨l',h1,h2⟩:=hc;obtain⟨_,_,_,h2,rfl,rfl,rfl⟩:=h2;obtain⟨h3,h4,rfl⟩:=ZOe h2;exact⟨_,_,⟨rfl,rfl,by simpa using h⟩,h1,h3,h4⟩
theorem ZZn {code:Code} (hc:Zj P n code=some .dead):(∃id ops d,code= .region id ops d)∨ ∃s,code= .refuse s:=by
 cases code<;>simp only[Zj]at hc<;>simp[Yh]at hc⊢
def ZCY:IC→Nat→Option IC
 | .seq a b,l=>match ZCY a l with
  |some r=>some (.seq r b)
  |none=>ZCY b l
 | .label l',l=>if l'==l then some .skip else none
 |_,_=>none
theorem ZES: ∀(ic:IC) (code:Code),Zj P n code=some ic→ ∀l,(∀r,ZCY ic l=some r→ ∃rc,findLabel code l=some rc∧Zj P n rc=some r)∧(ZCY ic l=none→findLabel code l=none)
 | .seq a b,code,hc,l=>by
  obtain⟨ca,cb,rfl,h1,h2⟩:=ZQi hc;obtain⟨a1,a2⟩:=ZES a ca h1 l;obtain⟨b1,b2⟩:=ZES b cb h2 l;simp only[ZCY,findLabel];cases ha:ZCY a l with
  |some ra=>
   obtain⟨rc,k1,k2⟩:=a1 ra ha;refine⟨fun r hr=> ?_,fun h=>by cases h⟩;cases hr;rw[k1];exact⟨_,rfl,by simp only[Zj,k2,h2,Option.bind_some,Option.map_some]⟩
  |none=>
   rw[a2 ha];exact⟨fun r hr=>b1 r hr,fun h=>b2 h⟩
 | .label l',code,hc,l=>by
  rw[ZLi hc];simp only[ZCY,findLabel];split
  ·exact⟨fun r hr=>(by cases hr;exact⟨_,rfl,rfl⟩),fun h=>(by cases h)⟩
  ·exact⟨fun r hr=>(by cases hr),fun _=>rfl⟩
 | .skip,code,hc,l=>by rw[ZM4 hc];exact⟨fun r hr=>(by cases hr),fun _=>rfl⟩
 | .reg _,code,hc,l=>by obtain⟨id,ops,rfl,_⟩:=ZF4 hc;exact⟨fun r hr=>(by cases hr),fun _=>rfl⟩
 | .dreg _ _ _,code,hc,l=>by obtain⟨id,ops,rfl,_⟩:=ZJM hc;exact⟨fun r hr=>(by cases hr),fun _=>rfl⟩
 | .cond _ _ _,code,hc,l=>by obtain⟨_,_,_,rfl,_⟩:=ZOr hc;exact⟨fun r hr=>(by cases hr),fun _=>rfl⟩
 | .block _ _,code,hc,l=>by obtain⟨_,rfl,_⟩:=ZMf hc;exact⟨fun r hr=>(by cases hr),fun _=>rfl⟩
 | .loop _,code,hc,l=>by obtain⟨_,rfl,_⟩:=ZGt hc;exact⟨fun r hr=>(by cases hr),fun _=>rfl⟩
 | .exit _,code,hc,l=>by rw[ZNM hc];exact⟨fun r hr=>(by cases hr),fun _=>rfl⟩
 | .ret,code,hc,l=>by rw[ZRW hc];exact⟨fun r hr=>(by cases hr),fun _=>rfl⟩
 | .scope _ _,code,hc,l=>by obtain⟨_,rfl,_⟩:=ZHa hc;exact⟨fun r hr=>(by cases hr),fun _=>rfl⟩
 | .goto _,code,hc,l=>by rw[ZPO hc];exact⟨fun r hr=>(by cases hr),fun _=>rfl⟩
 | .dead,code,hc,l=>by rcases ZZn hc with⟨_,_,_,rfl⟩|⟨_,rfl⟩<;>exact⟨fun r hr=>(by cases hr),fun _=>rfl⟩
theorem WI.label {l:Nat} (h:Q .normal φ os):WI P c E0 os0 n (.label l) Q φ os:=by
 intro code hc E a R hf;rw[ZLi hc];exact wp_label ⟨E,φ,os,rfl,R,hf,h⟩
theorem WI.goto {l:Nat} (h:Q (.goto l) φ os):WI P c E0 os0 n (.goto l) Q φ os:=by
 intro code hc E a R hf;rw[ZPO hc];exact wp_goto ⟨E,φ,os,rfl,R,hf,h⟩
def ZKC (l:Nat) (J:List (Nat×D)→List Ob→Prop) (Q:Exit→List (Nat×D)→List Ob→Prop):Exit→List (Nat×D)→List Ob→Prop
 | .goto l',φ,os=>l'=l∧J φ os
 |x,φ,os=>Q x φ os
def ZLO (P:Program) (c rc:Code) (Q:Exit→Act→World→Prop) (a:Act) (w:World):Prop:=
 ∀b k cs,∃e a' w',Q e a' w'∧Arrives P (lone (b.at a (.code rc:: .inScope c::k)) cs w) b k cs e a' w'
theorem ZHi {c rc:Code} {Q:Exit→Act→World→Prop} {a:Act} {w:World} (h:rc.wp P (fun e a' w'=>match e with| .goto l=> ∃rest,findLabel c l=some rest∧ZLO P c rest Q a' w'|e=>Q e a' w') a w):ZLO P c rc Q a w:=by
 intro b k cs;obtain⟨e,a₁,w₁,hq,harr⟩:=h b (.inScope c::k) cs;cases e with
 |normal=>exact⟨.normal,a₁,w₁,hq,Steps.trans harr (.one step_inScope)⟩
 |exit id=>exact⟨.exit id,a₁,w₁,hq,fun k' hk=>harr k' (by simp[exitTo,hk])⟩
 |goto l'=>
  obtain⟨rest,hf,hn⟩:=hq;have hg:gotoIn l' (.inScope c::k)=some (.code rest:: .inScope c::k):=by simp[gotoIn,hf]
  obtain⟨e₂,a₂,w₂,hq₂,harr₂⟩:=hn b k cs;exact⟨e₂,a₂,w₂,hq₂,.of_steps (harr _ hg) harr₂⟩
 |ret=>exact⟨_,a₁,w₁,hq,harr⟩
 |panic ch=>exact⟨_,a₁,w₁,hq,harr⟩
 |outgrown=>exact⟨_,a₁,w₁,hq,harr⟩
theorem ZKQ {c:Code} {Q:Exit→Act→World→Prop} {a:Act} {w:World} (h:ZLO P c c Q a w):(Code.scope c).wp P Q a w:=by
 intro b k cs;obtain⟨e,a₁,w₁,hq,harr⟩:=h b k cs;exact⟨e,a₁,w₁,hq,.of_steps (.one step_scope) harr⟩
theorem WI.skip (h:Q .normal φ os):WI P c E0 os0 n .skip Q φ os:=by
 intro code hc E a R hf;rw[ZM4 hc];exact wp_skip ⟨E,φ,os,rfl,R,hf,h⟩
theorem WI.ret (h:Q .ret φ os):WI P c E0 os0 n .ret Q φ os:=by
 intro code hc E a R hf;rw[ZRW hc];exact wp_ret ⟨E,φ,os,rfl,R,hf,h⟩
theorem WI.exit {i:Nat} (h:Q (.exit i) φ os):WI P c E0 os0 n (.exit i) Q φ os:=by
 intro code hc E a R hf;rw[ZNM hc];exact wp_exit ⟨E,φ,os,rfl,R,hf,h⟩
def ZEi (next:List (Nat×D)→List Ob→Prop) (Q:Exit→List (Nat×D)→List Ob→Prop):Exit→List (Nat×D)→List Ob→Prop
 | .normal,φ,os=>next φ os
 |x,φ,os=>Q x φ os
def ZDv (i:Nat) (Q:Exit→List (Nat×D)→List Ob→Prop):Exit→List (Nat×D)→List Ob→Prop
 | .exit j,φ,os=>if j=i then Q .normal φ os else Q (.exit j) φ os
 |x,φ,os=>Q x φ os
theorem WI.seq {x y:IC} (h:WI P c E0 os0 n x (ZEi (WI P c E0 os0 n y Q) Q) φ os):WI P c E0 os0 n (.seq x y) Q φ os:=by
 intro code hc E a R hf;obtain⟨ca,cb,rfl,h1,h2⟩:=ZQi hc;refine wp_seq (wp_mono (h ca h1 E a R hf) (fun e a' w' ⟨E',φ',os',k1,k2,k3,k4⟩=> ?_));subst k1;cases e with
 |normal=>exact k4 cb h2 E' a' k2 k3
 |_=>exact⟨E',φ',os',rfl,k2,k3,k4⟩
theorem WI.block {i:Nat} {b:IC} (h:WI P c E0 os0 n b (ZDv i Q) φ os):WI P c E0 os0 n (.block i b) Q φ os:=by
 intro code hc E a R hf;obtain⟨cb,rfl,h1⟩:=ZMf hc;refine wp_block (wp_mono (h cb h1 E a R hf) (fun e a' w' ⟨E',φ',os',k1,k2,k3,k4⟩=> ?_));cases e with
 |exit j=>
  simp only[Exit.inBlock];simp only[ZDv]at k4;split
  ·rename_i hj;rw[if_pos hj]at k4;exact⟨E',φ',os',k1,k2,k3,k4⟩
  ·rename_i hj;rw[if_neg hj]at k4;exact⟨E',φ',os',k1,k2,k3,k4⟩
 |_=>exact⟨E',φ',os',k1,k2,k3,k4⟩
theorem WI.cond {x:IO} {y z:IC} {b:Bool} (hv:(ZF φ x).val= .x (.bool b)) (hcd:(ZF φ x).cond=true) (ht:b=true→WI P c E0 os0 n y Q φ os) (he:b=false→WI P c E0 os0 n z Q φ os):WI P c E0 os0 n (.cond x y z) Q φ os:=by
 intro code hc E a R hf;obtain⟨cx,ca,cb,rfl,h1,h2,h3⟩:=ZOr hc;have:=(V.op hf h1).strip hcd;rw[hv]at this;exact wp_cond_split (V.bool this) (fun h=>ht h ca h2 E a R hf) (fun h=>he h cb h3 E a R hf)
theorem WI.reg {S:Tabs} (hS:SsOk P S) (ks:List Nat) {l:List IOp} {ok:Bool} {φ':List (Nat×D)} {os':List Ob} (h:Qh S φ os l=some (ok,φ',os')) (hok:ok=true) (hq:Q .normal (keep ks φ') os'):WI P c E0 os0 n (.reg l) Q φ os:=by
 intro code hc E a R hf;subst hok;obtain⟨id,ops,rfl,h1⟩:=ZF4 hc;exact wp_region_list (ZKK hS R.rel hf h1 h (fun E' a' R' e' f'=>⟨E',_,os',rfl,⟨R',R.evo.trans e'⟩,f'.keep ks,hq⟩))
def Yi (r:Option (Bool×List (Nat×D)×List Ob)) (K:List (Nat×D)→List Ob→Prop):Prop:= ∃ok φ os,r=some (ok,φ,os)∧ok=true∧K φ os
theorem Yi.some_iff {ok:Bool} {φ:List (Nat×D)} {os:List Ob} {K:List (Nat×D)→List Ob→Prop}:Yi (some (ok,φ,os)) K=(ok=true∧K φ os):=by
 apply propext;constructor
 ·rintro⟨ok',φ',os',h,h1,h2⟩;cases h;exact⟨h1,h2⟩
 ·rintro⟨h1,h2⟩;exact⟨ok,φ,os,rfl,h1,h2⟩
theorem WI.regK {S:Tabs} (hS:SsOk P S) (ks:List Nat) {l:List IOp} (h: ∀K:List (Nat×D)→List Ob→Prop,(∀φ' os',Q .normal φ' os'→K φ' os')→Yi (Qh S φ os l) (fun φ' os'=>K (Go.Ab.keep ks φ') os')):WI P c E0 os0 n (.reg l) Q φ os:=by
 obtain⟨ok,φ',os',h1,h2,h3⟩:=h _ (fun _ _ h=>h);exact WI.reg hS ks h1 h2 h3
theorem WI.dregK {S:Tabs} (hS:SsOk P S) (ks:List Nat) {k:Nat} {rs:List Nat} {l:List IOp} (h: ∀K:List (Nat×D)→List Ob→Prop,(∀φ' os',Q .normal φ' os'→K φ' os')→Yi (ZLF S φ os k rs l) (fun φ' os'=>K (Go.Ab.keep ks φ') os')):WI P c E0 os0 n (.dreg k rs l) Q φ os:=by
 obtain⟨ok,φ',os',h1,rfl,h3⟩:=h _ (fun _ _ h=>h);intro code hc E a R hf;obtain⟨id,ops,rfl,h4,h5,h6⟩:=ZJM hc;exact ZRe h5 hS h6 h4 R.rel hf h1 (fun E' a' R' e' f'=>⟨E',_,os',rfl,⟨R',R.evo.trans e'⟩,f'.keep ks,h3⟩)
theorem WI.reg' {S:Tabs} (hS:SsOk P S) {l:List IOp} {ok:Bool} {φ':List (Nat×D)} {os':List Ob} (h:Qh S φ os l=some (ok,φ',os')) (hok:ok=true) (hq:Q .normal φ' os'):WI P c E0 os0 n (.reg l) Q φ os:=by
 intro code hc E a R hf;subst hok;obtain⟨id,ops,rfl,h1⟩:=ZF4 hc;exact wp_region_list (ZKK hS R.rel hf h1 h (fun E' a' R' e' f'=>⟨E',_,os',rfl,⟨R',R.evo.trans e'⟩,f',hq⟩))
theorem WI.dreg' {S:Tabs} (hS:SsOk P S) {k:Nat} {rs:List Nat} {l:List IOp} {ok:Bool} {φ':List (Nat×D)} {os':List Ob} (h:ZLF S φ os k rs l=some (ok,φ',os')) (hok:ok=true) (hq:Q .normal φ' os'):WI P c E0 os0 n (.dreg k rs l) Q φ os:=by
 intro code hc E a R hf;subst hok;obtain⟨id,ops,rfl,h4,h5,h6⟩:=ZJM hc;exact ZRe h5 hS h6 h4 R.rel hf h (fun E' a' R' e' f'=>⟨E',_,os',rfl,⟨R',R.evo.trans e'⟩,f',hq⟩)
theorem WI.scope {b rest:IC} (l:Nat) (hfi:ZCY b l=some rest) (J:List (Nat×D)→List Ob→Prop) (μ:List (Nat×D)→List Ob→Nat) (first:WI P c E0 os0 n b (ZKC l J Q) φ os)
  (pass: ∀φ os,J φ os→WI P c E0 os0 n rest (ZKC l (fun φ' os'=>J φ' os'∧μ φ' os'<μ φ os) Q) φ os):WI P c E0 os0 n (.scope b b) Q φ os:=by
 intro code hc E a R hf;obtain⟨cb,rfl,h1,_⟩:=ZHa hc;obtain⟨rc,h2,h3⟩:=(ZES b cb h1 l).1 rest hfi;refine ZKQ ?_;have key: ∀(k:Nat) (φ:List (Nat×D)) (os:List Ob) (E:Env) (a:Act),μ φ os=k→J φ os→Run c E0 os0 E os→Fr n E os φ a→ZLO P cb rc (fun x a' w'=> ∃E' φ' os',E'.w=w'∧Run c E0 os0 E' os'∧Fr n E' os' φ' a'∧Q x φ' os') a E.w:=by
  intro k
  induction k using Nat.strongRecOn with
  |_ k ih=>
   intro φ os E a hk hJ R hf;refine ZHi (wp_mono (pass φ os hJ rc h3 E a R hf) ?_);rintro e a' w' ⟨E',φ',os',rfl,R',f',hq⟩;cases e with
   |goto l'=>
    obtain⟨rfl,hJ',hlt⟩:=hq;exact⟨rc,h2,ih _ (by omega) φ' os' E' a' rfl hJ' R' f'⟩
   |_=>exact⟨E',φ',os',rfl,R',f',hq⟩
 refine ZHi (wp_mono (first cb h1 E a R hf) ?_);rintro e a' w' ⟨E',φ',os',rfl,R',f',hq⟩;cases e with
 |goto l'=>
  obtain⟨rfl,hJ'⟩:=hq;exact⟨rc,h2,key _ φ' os' E' a' rfl hJ' R' f'⟩
 |_=>exact⟨E',φ',os',rfl,R',f',hq⟩
theorem WI.loop {b:IC} (I:List (Nat×D)→List Ob→Prop) (μ:List (Nat×D)→List Ob→Nat) (h0:I φ os)
  (round: ∀φ os,I φ os→WI P c E0 os0 n b (ZEi (fun φ' os'=>I φ' os'∧μ φ' os'<μ φ os) Q) φ os):WI P c E0 os0 n (.loop b) Q φ os:=by
 intro code hc E a R hf;obtain⟨cb,rfl,h1⟩:=ZGt hc
 let T:Act→World→Nat→Prop:=fun a w k=> ∃E φ os,E.w=w∧Run c E0 os0 E os∧Fr n E os φ a∧I φ os∧μ φ os=k
 have hT:T a E.w (μ φ os):=⟨E,φ,os,rfl,R,hf,h0,rfl⟩;have hmin: ∀(a:Act) (w:World),(∃k,T a w k)→ ∃k,T a w k∧ ∀j,T a w j→k≤j:=by
  intro a w ⟨k,hk⟩
  induction k using Nat.strongRecOn with
  |_ k ih=>
   by_cases h: ∃j,j<k∧T a w j
   ·obtain⟨j,hj,hj2⟩:=h;exact ih j hj hj2
   ·exact⟨k,hk,fun j hj=>by
     rcases Nat.lt_or_ge j k with h2|h2
     ·exact absurd ⟨j,h2,hj⟩ h
     ·exact h2⟩
 classical
 let m:Act→World→Nat:=fun a w=>if h: ∃k,T a w k then Classical.choose (hmin a w h)else 0
 have hm: ∀a w k,T a w k→T a w (m a w)∧m a w≤k:=by
  intro a w k hk;have hex: ∃k,T a w k:=⟨k,hk⟩;have:m a w=Classical.choose (hmin a w hex):=dif_pos hex;rw[this];obtain⟨q1,q2⟩:=Classical.choose_spec (hmin a w hex);exact⟨q1,q2 k hk⟩
 refine wp_loop (fun a w=> ∃k,T a w k) m ⟨_,hT⟩ (fun a w ⟨k,hk⟩=> ?_);obtain⟨⟨E1,φ1,os1,rfl,R1,f1,i1,hk1⟩,_⟩:=hm a w k hk;refine wp_mono (round φ1 os1 i1 cb h1 E1 a R1 f1) (fun e a' w' ⟨E',φ',os',k1,k2,k3,k4⟩=> ?_);cases e with
 |normal=>
  have ht:T a' w' (μ φ' os'):=⟨E',φ',os',k1,k2,k3,k4.1,rfl⟩;refine⟨⟨_,ht⟩,?_⟩;have:=(hm a' w' _ ht).2;have:=k4.2;omega
 |_=>exact⟨E',φ',os',k1,k2,k3,k4⟩
theorem WI.weak {ic:IC} {φ':List (Nat×D)} {os':List Ob} (hw: ∀(E:Env) (a:Act),Run c E0 os0 E os→Fr n E os φ a→ ∃E',E'.w=E.w∧Run c E0 os0 E' os'∧Fr n E' os' φ' a) (h:WI P c E0 os0 n ic Q φ' os'):WI P c E0 os0 n ic Q φ os:=by
 intro code hc E a R hf;obtain⟨E',h1,h2,h3⟩:=hw E a R hf;rw[←h1];exact h code hc E' a h2 h3
theorem WI.keep (ks:List Nat) {ic:IC} (h:WI P c E0 os0 n ic Q (keep ks φ) os):WI P c E0 os0 n ic Q φ os:=WI.weak (fun E _ R hf=>⟨E,rfl,R,hf.keep ks⟩) h
theorem WI.own (t e sz:Nat) (ht:get φ t= .x .nils) {ic:IC} (h:WI P c E0 os0 n ic Q (put φ t (.ref os.length 0 0 0)) (os++ [.rows false e sz []])):WI P c E0 os0 n ic Q φ os:=by
 refine WI.weak (fun E a R hf=> ?_) h;obtain⟨E',k1,k2,k3,k4⟩:=QT (fz:=false) (e:=e) (sz:=sz) (rs:= []) (cu:= .slice none 0 0) (xs:= []) R.rel (Kept.refl _ E.w) ⟨by simp,.inl ⟨rfl,rfl⟩⟩ (fun b hb=>by cases hb) (fun r hr=>by cases hr) (fun i r j x v h=>by simp at h);refine⟨E',k1,⟨k2,R.evo.trans k3⟩,hf.size,hf.defers,fun u=> ?_⟩;rw[ZLc];split
 ·rename_i he;subst he;have:=hf.slot t;rw[ht]at this;rw[V.nils this];exact k4
 ·exact(hf.slot u).mono k3
end
inductive IRes where
 |tmp (t:Nat)
 |cell (t n:Nat) (ag:Bool)
structure IFn where
 n:Nat
 res:List IRes
 body:IC
def ZLb (P:Program):ResultVar→Option IRes
 | .tmp t=>some (.tmp t)
 | .cell a t=>(JJ P t).bind fun n=>(ZC1 P t).map fun ag=> .cell a n ag
def ZDq (P:Program) (f:Func):Option IFn:=
 f.body.bind fun c=>(Zj P f.ntmps c).bind fun b=>(f.results.toList.mapM (ZLb P)).map fun r=>⟨f.ntmps,r,b⟩
def ZQ:Nat→List D→List (Nat×D)
 |_,[]=> []
 |i,d::ds=>(i,d)::ZQ (i+1) ds
def ZCi (os:List Ob):D→Option (D×List Ob)
 | .agg ds=>(Yn os ds).map fun p=>(.agg (p.1.map .x),p.2)
 | .fn f []=>some (.fn f [],os)
 | .ptr id off=>some (.ptr id off,os)
 |d=>(Yv os d).map fun p=>(.x p.1,p.2)
def ZGZ (fz:Bool) (os:List Ob) (d:D):Option (D×List Ob):=if fz then ZCi os d else some (d,os)
def ZHP (fz:Bool) (S:Tab) (φ:List (Nat×D)) (os:List Ob):IRes→Option (Bool×D×List Ob)
 | .tmp t=>(ZGZ fz os (get φ t).val).map fun p=>((get φ t).cond,p.1,p.2)
 | .cell t n ag=>(ZX S φ os (.ld n ag (.t t))).bind fun r=>(ZGZ fz os r.2.val).map fun p=>(r.1&&r.2.cond,p.1,p.2)
def QA (fz:Bool) (S:Tab) (φ:List (Nat×D)):List Ob→List IRes→Option (Bool×List D×List Ob)
 |os,[]=>some (true,[],os)
 |os,r::rs=>(ZHP fz S φ os r).bind fun p=>(QA fz S φ p.2.2 rs).map fun q=>(p.1&&q.1,p.2.1::q.2.1,q.2.2)
def mkR:List D→D
 | [d]=>d
 |ds=> .tup ds
def ZJY (E:Env) (os:List Ob) (b:Nat):Prop:= ∃(i:Nat) (o:Ob) (p:Nat×Value),os[i]? =some o∧E.ob[i]? =some p∧o.mb p b
def ZN (P:Program) (f:FuncId) (args:List D) (os:List Ob) (Post:D→List Ob→Prop):Prop:=
 ∀(c:Ctx) (E:Env) (vs:Array Value),Rel c E os→VL E os args vs→
  Calls P f vs E.w fun e w'=> ∃v E' r os',e= .returned v∧E'.w=w'∧Rel c E' os'∧Evo E os E' os'∧V E' os' r v∧Post r os'
def ZNj (tmps:Array Value):ResultVar→Sem Value
 | .tmp t=>pure (tmps.getD t undef)
 | .cell x t=>do loadVar t (←asAddr (tmps.getD x undef))
section
variable {P:Program} {E:Env} {os:List Ob} {c:Ctx} {n:Nat} {φ:List (Nat×D)} {a:Act}
theorem ZZV (ds:List D): ∀(i t:Nat),get (ZQ i ds) t=if i≤t then(ds[t-i]?).getD .und else .und:=by
 induction ds with
 |nil=>intro i t;simp[ZQ,get]
 |cons d ds ih=>
  intro i t;simp only[ZQ,get,ih];by_cases h:i=t
  ·subst h;simp
  ·by_cases h2:i≤t
   ·have h3:i+1≤t:=by omega
    have h4:t-i=(t-(i+1))+1:=by omega
    simp[h,h2,h3,h4]
   ·have h3: ¬(i+1≤t):=by omega
    simp[h,h2,h3]
theorem ZUy (R:Rel c E os) {d:D} {v:Value} (hv:V E os d v) {d':D} {os':List Ob} (h:ZCi os d=some (d',os')): ∃st',Rel c ⟨E.w,st',E.ob⟩ os'∧Evo E os ⟨E.w,st',E.ob⟩ os'∧V ⟨E.w,st',E.ob⟩ os' d' v:=by
 unfold ZCi at h;split at h
 ·rename_i ds;obtain⟨⟨xs,os1⟩,h1,h⟩:=Zh h;cases h;cases hv with
  |agg vs hl h1' hvv=>
   obtain⟨st',R',e',k1,k2⟩:=ZAz (vs:=vs.toList) R (fun j d v hd hv=>hvv j d v hd (by simpa using hv)) (by simp[hl]) h1;refine⟨st',R',e',.agg vs (by simp[k1]) h1' (fun j d v hd hv'=> ?_)⟩;rw[YA]at hd;obtain⟨y,hy,rfl⟩:=Zh hd;exact .x (k2 j y v hy (by simpa using hv'))
 ·cases h;exact⟨E.st,R,Evo.refl _ _,hv⟩
 ·cases h;exact⟨E.st,R,Evo.refl _ _,hv⟩
 ·obtain⟨⟨x,os1⟩,h1,h⟩:=Zh h;cases h;obtain⟨st',R',e',hx⟩:=ZGE R hv h1;exact⟨st',R',e',.x hx⟩
theorem ZRA {fz:Bool} (R:Rel c E os) {d:D} {v:Value} (hv:V E os d v) {d':D} {os':List Ob} (h:ZGZ fz os d=some (d',os')): ∃st',Rel c ⟨E.w,st',E.ob⟩ os'∧Evo E os ⟨E.w,st',E.ob⟩ os'∧V ⟨E.w,st',E.ob⟩ os' d' v:=by
 unfold ZGZ at h;split at h
 ·exact ZUy R hv h
 ·cases h;exact⟨E.st,R,Evo.refl _ _,hv⟩
theorem Zdx {S:Tab} (R:Rel c E os) (hf:Fr n E os φ a) {t m tt:Nat} {ag:Bool} (hs:JJ P tt=some m) (ha:ZC1 P tt=some ag) {d:D} (h:ZX S φ os (.ld m ag (.t t))=some (true,d)):
  ∃v,(do loadVar tt (←asAddr (a.tmps.getD t undef)):Sem Value).run P E.w= .ok v E.w∧V E os d v:=by
 have hx:V E os (ZF φ (.t t)) (a.tmps.getD t undef):=hf.slot t;obtain⟨v,h1,h2⟩:=ZVT (P:=P) R hs ha hx h;refine⟨v,?_,h2⟩;have hp: ∃ad,a.tmps.getD t undef= .pointer (some ad):=by
  generalize a.tmps.getD t undef=u at h1;cases u with
  |pointer ad=>
   cases ad with
   |some ad=>exact⟨ad,rfl⟩
   |none=>simp[Instr.loadAt,Instr.sureAddr,stuck,Sem.run,Result.andThen]at h1
  |_=>simp[Instr.loadAt,Instr.sureAddr,stuck,Sem.run,Result.andThen]at h1
 obtain⟨ad,had⟩:=hp;rw[had]at h1⊢;simpa[Instr.loadAt,Instr.sureAddr,asAddr]using h1
theorem ZRm {fz:Bool} {S:Tab}: ∀ {rs:List ResultVar} {irs:List IRes} {E:Env} {os:List Ob},Rel c E os→Fr n E os φ a→rs.mapM (ZLb P)=some irs→ ∀ {ds:List D} {os':List Ob},QA fz S φ os irs=some (true,ds,os')→
  ∃(vs:List Value) (E':Env),E'.w=E.w∧Rel c E' os'∧Evo E os E' os'∧vs.length=ds.length∧(∀(j:Nat) (d:D) (v:Value),ds[j]? =some d→vs[j]? =some v→V E' os' d v)∧
   (rs.mapM (ZNj a.tmps)).run P E.w= .ok vs E.w
 | [],irs,E,os,R,hf,hm,ds,os',h=>by
  simp at hm;subst hm;cases h;exact⟨[],E,rfl,R,Evo.refl _ _,rfl,fun j d v h=>by simp at h,by simp⟩
 |r::rs,irs,E,os,R,hf,hm,ds,os',h=>by
  simp only[List.mapM_cons,Option.bind_eq_bind,Yh,Option.pure_def]at hm;obtain⟨ir,hir,irs',hirs,hm⟩:=hm;cases hm;simp only[QA,Yh,Kh]at h;obtain⟨⟨ok,d,os1⟩,h1,⟨ok2,ds2,os2⟩,h2,h3⟩:=h;simp at h3;obtain⟨⟨rfl,rfl⟩,rfl,rfl⟩:=h3;have one: ∃v st',Rel c ⟨E.w,st',E.ob⟩ os1∧Evo E os ⟨E.w,st',E.ob⟩ os1∧V ⟨E.w,st',E.ob⟩ os1 d v∧(ZNj a.tmps r).run P E.w= .ok v E.w:=by
   cases r with
   |tmp t=>
    cases hir;simp only[ZHP,Kh]at h1;obtain⟨⟨d',os'⟩,h4,h5⟩:=h1;simp at h5;obtain⟨h5,rfl,rfl⟩:=h5;obtain⟨st',R',e',hv⟩:=ZRA R ((hf.slot t).strip h5) h4;exact⟨_,st',R',e',hv,rfl⟩
   |cell x t=>
    simp only[ZLb,Yh,Kh]at hir;obtain⟨m,hm,ag,hag,rfl⟩:=hir;simp only[ZHP,Yh,Kh]at h1;obtain⟨⟨ok1,d1⟩,h4,⟨d',os'⟩,h5,h6⟩:=h1;simp at h6;obtain⟨⟨rfl,h7⟩,rfl,rfl⟩:=h6;obtain⟨v,k1,k2⟩:=Zdx (P:=P) R hf hm hag h4;obtain⟨st',R',e',hv⟩:=ZRA R (k2.strip h7) h5;exact⟨v,st',R',e',hv,k1⟩
  obtain⟨v,st',R1,e1,hv,hrun⟩:=one;obtain⟨vs,E',g1,g2,g3,g4,g5,g6⟩:=ZRm (E:=⟨E.w,st',E.ob⟩) R1 (hf.mono e1) hirs h2;refine⟨v::vs,E',g1,g2,e1.trans g3,by simp[g4],fun j d0 v0 hd hv0=> ?_,?_⟩
  ·cases j with
   |zero=>simp at hd hv0;subst hd;subst hv0;exact hv.mono g3
   |succ j=>exact g5 j d0 v0 (by simpa using hd) (by simpa using hv0)
  ·rw[List.mapM_cons];simp only[Sem.run_bind,hrun,Result.andThen_ok,Sem.run_pure];simp only at g6;rw[g6];rfl
theorem ZWT {fz:Bool} {S:Tab} {f:FuncId} {fn:Func} {ifn:IFn} (hfn:P.funcs[f]? =some fn) (hc:ZDq P fn=some ifn) (args:List D) (hle:args.length≤ifn.n) (os:List Ob) {Post:D→List Ob→Prop}
  (h: ∀(c:Ctx) (E0:Env),WI P c E0 os ifn.n ifn.body (fun x φ' os'=>(x= .normal∨x= .ret)∧ ∃ds os2,QA fz S φ' os' ifn.res=some (true,ds,os2)∧Post (mkR ds) os2) (ZQ 0 args) os):ZN P f args os Post:=by
 intro c E vs R hvl;simp only[ZDq,Yh,Kh]at hc;obtain⟨code,hb,ic,hic,irs,hirs,rfl⟩:=hc;simp only at h hle;refine calls_of_wp hfn hb ?_;have hsz:vs.size=args.length:=hvl.1.symm;have hf:Fr fn.ntmps E os (ZQ 0 args) {tmps:=vs++Array.replicate (fn.ntmps-vs.size) undef,defers:= []}:=by
  refine⟨by simp;omega,rfl,fun t=> ?_⟩;rw[ZZV];simp only[Nat.zero_le,if_true,Nat.sub_zero];cases hd:args[t]? with
  |none=>exact .und _
  |some d=>
   have ht:=(Zf hd).1;have hv:vs[t]? =some vs[t]:=Array.getElem?_eq_getElem (by omega);have:(vs++Array.replicate (fn.ntmps-vs.size) undef).getD t undef=vs[t]:=by
    rw[Array.getD_eq_getD_getElem?,Array.getElem?_append_left (by omega),hv];rfl
   rw[this];exact hvl.2 t d _ hd hv
 refine Code.wp_mono ?_ (h c E code hic E _ ⟨R,Evo.refl _ _⟩ hf);rintro e a' w' ⟨E',φ',os',rfl,hR,hf',hx,ds,os2,hret,hpost⟩;obtain⟨us,E2,g1,g2,g3,g4,g5,g6⟩:=ZRm (P:=P) hR.rel hf' hirs hret;have hres:(results fn a'.tmps).run P E'.w= .ok (if h:us.toArray.size=1 then us.toArray[0]else .tuple us.toArray) E'.w:=by
  have e:results fn a'.tmps=(do let vs←fn.results.mapM (ZNj a'.tmps);pure (if h:vs.size=1 then vs[0]else .tuple vs)):=by
   unfold results;congr 1
  rw[e];simp[Array.mapM_eq_mapM_toList,g6]
 have hval:V E2 os2 (mkR ds) (if h:us.toArray.size=1 then us.toArray[0]else .tuple us.toArray):=by
  by_cases h1:us.length=1
  ·obtain⟨u,rfl⟩:=List.length_eq_one_iff.1 h1;obtain⟨d,rfl⟩:=List.length_eq_one_iff.1 (show ds.length=1 by omega);exact g5 0 d u rfl rfl
  ·rw[dif_neg (by simpa using h1)];have hne:mkR ds= .tup ds:=by
    unfold mkR;split
    ·simp at g4;omega
    ·rfl
   rw[hne];exact .tup _ (by simp[g4]) (fun j d v hd hv=>g5 j d v hd (by simpa using hv))
 have post:a'.defers= []∧ ∃v,(results fn a'.tmps).run P E'.w= .ok v E'.w∧ ∃v' E'' r os'',Ending.returned v= .returned v'∧E''.w=E'.w∧Rel c E'' os''∧Evo E os E'' os''∧V E'' os'' r v'∧Post r os'':=
  ⟨hf'.defers,_,hres,_,E2,_,os2,rfl,g1,g2,hR.evo.trans g3,hval,hpost⟩
 rcases hx with rfl|rfl<;>exact post
def D.clean:D→Bool
 | .tup ds=>ds.all D.plain
 |d=>d.plain
theorem V.ofPlain {E':Env} {os':List Ob} {d:D} {v:Value} (h:V E os d v) (hp:d.plain=true) (hx: ∀x v,VX E.w E.st x v→VX E'.w E'.st x v):V E' os' d v:=by
 cases d with
 |x y=>exact .x (hx _ _ h.xx)
 |agg ds=>
  cases h with
  |agg vs hl h1 hv=>
   refine .agg vs hl h1 (fun j d v hd hv'=> ?_);have hpd:=List.all_eq_true.1 hp d (List.mem_of_getElem? hd);have hvd:=hv j d v hd hv';cases d with
   |x z=>exact .x (hx _ _ hvd.xx)
   |_=>cases hpd
 |fn f caps=>
  cases caps with
  |nil=>cases h with|fn vs hl hv=>exact .fn vs hl (fun j d v hd=>by simp at hd)
  |cons c cs=>cases hp
 |_=>cases hp
theorem V.ofClean {E':Env} {os':List Ob} {d:D} {v:Value} (h:V E os d v) (hp:d.clean=true) (hx: ∀x v,VX E.w E.st x v→VX E'.w E'.st x v):V E' os' d v:=by
 cases d with
 |tup ds=>
  cases h with
  |tup vs hl hv=>exact .tup vs hl (fun j d v hd hv'=>(hv j d v hd hv').ofPlain (List.all_eq_true.1 hp d (List.mem_of_getElem? hd)) hx)
 |x y=>exact h.ofPlain hp hx
 |agg ds=>exact h.ofPlain hp hx
 |fn f caps=>exact h.ofPlain hp hx
 |_=>cases hp
theorem ZN.pure {f:FuncId} {args:List D} {r:D} (h:ZN P f args [] (fun r' _=>r'=r)) (hp:r.clean=true):ZD P f args r:=by
 intro w st vs hst hvl;have nofoot: ∀b,¬ZJY ⟨w,st,[]⟩ [] b:=fun b ⟨i,o,p,h1,_⟩=>by simp at h1
 have R:Rel ⟨w,st,ZJY ⟨w,st,[]⟩ []⟩ ⟨w,st,[]⟩ []:=⟨rfl,fun i o p h=>by simp at h,fun i j o o' p p' b h=>by simp at h,fun b off hb=>⟨hst b off hb,fun i o p h=>by simp at h⟩,Kept.refl _ _,fun i o p b h=>by simp at h,fun b off hb=> .inl hb⟩;refine(h _ ⟨w,st,[]⟩ vs R hvl).mono ?_;rintro e w' ⟨v,E',r',os',rfl,rfl,R',ev,hv,rfl⟩;refine⟨v,E'.st,rfl,⟨R'.kept.os,R'.kept.tape,R'.kept.output,R'.kept.size,fun k hk _=>R'.kept.block k hk (nofoot k)⟩,fun b o hb=>(ev.st b o hb).1,fun b o hb=> ?_,hv.ofClean hp (fun x v hx=>hx)⟩;rcases R'.sto b o hb with h1|h1|h1
 ·exact .inl h1
 ·exact absurd h1 (nofoot b)
 ·exact .inr ⟨h1,(R'.stm b o hb).1⟩
theorem ZN.mcalls {f:FuncId} {args:List D} {r:D} {os':List Ob} (h:ZN P f args os (fun r' os2=>r'=r∧os2=os')):ZV P f args os r os':=by
 intro c E vs R hvl;refine(h c E vs R hvl).mono ?_;rintro e w' ⟨v,E',r',os2,rfl,rfl,R',ev,hv,rfl,rfl⟩;exact⟨v,E',rfl,rfl,R',ev,hv⟩
theorem enters {f:FuncId} {fn:Func} {ifn:IFn} (hfn:P.funcs[f]? =some fn) (hname:(fn.name== "runtime.NumGoroutine")=false) (hc:ZDq P fn=some ifn):Enters P f:=by
 intro args w;simp only[ZDq,Yh]at hc;obtain⟨code,hb,_⟩:=hc;unfold callFunc;simp only[Sem.run_bind,run_program,Result.andThen_ok,hfn,hname,hb,Option.isNone_some,Bool.false_eq_true,if_false,Sem.run_pure]
end
section
variable {P:Program} {c:Ctx} {E E0:Env} {os os0:List Ob} {n:Nat} {Q:Exit→List (Nat×D)→List Ob→Prop} {φ:List (Nat×D)}
def Jt (s:List UInt8) (pos:Nat):Nat×Nat:=Utf8.decode (Zc s) pos
def IE.isNxt:IE→Bool
 | .nxt _ _=>true
 |_=>false
def NXT (x:Option IE):Prop:= ∀e,x=some e→IE.isNxt e=false
theorem NXT.none:NXT none:=fun e h=>by cases h
theorem NXT.some {e:IE} (h:IE.isNxt e=false):NXT (some e):=fun e' h'=>by cases h';exact h
theorem NXT.bind {α:Type} {x:Option α} {f:α→Option IE} (h: ∀y,NXT (f y)):NXT (x.bind f):=fun e he=>by
 obtain⟨y,_,h2⟩:=Zp he;exact h y e h2
theorem NXT.bind' {α:Type} {x:Option α} {f:α→Option IE} (h: ∀y,NXT (f y)):NXT (x>>=f):=NXT.bind h
theorem NXT.map {α:Type} {x:Option α} {f:α→IE} (h: ∀y,IE.isNxt (f y)=false):NXT (x.map f):=fun e he=>by
 obtain⟨y,_,rfl⟩:=Zh he;exact h y
def IE.isExt:IE→Bool
 | .ext _ _=>true
 |_=>false
def EXT (x:Option IE):Prop:= ∀e,x=some e→IE.isExt e=false
theorem EXT.none:EXT none:=fun e h=>by cases h
theorem EXT.some {e:IE} (h:IE.isExt e=false):EXT (some e):=fun e' h'=>by cases h';exact h
theorem EXT.bind {α:Type} {x:Option α} {f:α→Option IE} (h: ∀y,EXT (f y)):EXT (x.bind f):=fun e he=>by
 obtain⟨y,_,h2⟩:=Zp he;exact h y e h2
theorem EXT.bind' {α:Type} {x:Option α} {f:α→Option IE} (h: ∀y,EXT (f y)):EXT (x>>=f):=EXT.bind h
theorem EXT.map {α:Type} {x:Option α} {f:α→IE} (h: ∀y,IE.isExt (f y)=false):EXT (x.map f):=fun e he=>by
 obtain⟨y,_,rfl⟩:=Zh he;exact h y
theorem Zbj {P:Program} {op:Op} {st:Bool} {x:IO} (h:JQ P op=some (.nxt st x)): ∃x',op= .next x' st∧ZU x'=some x:=by
 cases op<;>simp only[JQ]at h<;>(try cases h)
 case next y b=>
  obtain⟨y',hy,h⟩:=Zp h;simp only[Zg,IE.nxt.injEq]at h;obtain⟨rfl,rfl⟩:=h;exact⟨y,rfl,hy⟩
 case makeFunc fn first caps=>
  exfalso;cases fn<;>simp only at h<;>(try cases h)
  split at h
  ·obtain⟨_,_,h⟩:=Zp h;cases h
  ·cases h
 all_goals
  exfalso;have hna:NXT (some (.nxt st x)):=by
   rw[←h]
   repeat first|exact NXT.none|exact NXT.some rfl|(unfold ZAb)|(refine NXT.bind (fun _=> ?_))|(refine NXT.bind' (fun _=> ?_))|(refine NXT.map (fun _=>rfl))|split
  have:=hna _ rfl;cases this
theorem Zb6 {P:Program} {op:Op} {t i:Nat} (h:JQ P op=some (.ext (.t t) i)):op= .extract (.tmp t) i:=by
 cases op<;>simp only[JQ]at h<;>(try cases h)
 case extract y b=>
  obtain⟨y',hy,h⟩:=Zp h;simp only[Zg,IE.ext.injEq]at h;obtain⟨rfl,rfl⟩:=h;cases y with
  |tmp u=>simp only[ZU,Zg,IO.t.injEq]at hy;rw[hy]
  |const v=>simp[ZU]at hy
  |global g=>simp[ZU]at hy
  |func f=>simp[ZU]at hy
 case makeFunc fn first caps=>
  exfalso;cases fn<;>simp only at h<;>(try cases h)
  split at h
  ·obtain⟨_,_,h⟩:=Zp h;cases h
  ·cases h
 all_goals
  exfalso;have hna:EXT (some (.ext (.t t) i)):=by
   rw[←h]
   repeat first|exact EXT.none|exact EXT.some rfl|(unfold ZAb)|(refine EXT.bind (fun _=> ?_))|(refine EXT.bind' (fun _=> ?_))|(refine EXT.map (fun _=>rfl))|split
  have:=hna _ rfl;cases this
theorem ZOs {t:Nat} {st:Bool} {x:IO} {t2:Nat} {code:Code} (hc:Zj P n code=some (.reg [⟨some t,.nxt st x,none⟩,⟨some t2,.ext (.t t) 0,none⟩])):
  ∃id o1 o2 x',code= .region id #[o1,o2] false∧o1.dst=some t∧o1.guard=none∧o1.op= .next x' st∧ZU x'=some x∧t<n∧o2.dst=some t2∧o2.guard=none∧o2.op= .extract (.tmp t) 0∧t2<n:=by
 obtain⟨id,ops,rfl,h1⟩:=ZF4 hc;obtain⟨l⟩:=ops
 match l,h1 with
 | [],h1=>simp at h1
 | [_],h1=>simp[List.mapM_cons,Yh]at h1
 |_::_::_::_,h1=>
  simp only[List.mapM_cons,Option.bind_eq_bind,Yh,Option.pure_def]at h1;obtain⟨_,_,_,⟨_,_,_,⟨_,_,_,_,h⟩,h'⟩,h1⟩:=h1;cases h;cases h';cases h1
 | [o1,o2],h1=>
  simp only[List.mapM_cons,List.mapM_nil,Option.bind_eq_bind,Yh,Option.pure_def]at h1;obtain⟨i1,h1,l1,⟨i2,h2,l2,h3,h4⟩,h5⟩:=h1;cases h3;cases h4;cases h5;simp only[Yk,Yh]at h1 h2;obtain⟨e1,c1,h1⟩:=h1;obtain⟨e2,c2,h2⟩:=h2;split at h1
  ·rename_i d1;split at h2
   ·rename_i d2;split at h1
    ·rename_i g1;split at h2
     ·rename_i g2;simp only[Zg,IOp.mk.injEq,and_true]at h1 h2;obtain⟨k1,rfl⟩:=h1;obtain⟨k2,rfl⟩:=h2;rw[k1]at d1;rw[k2]at d2;have hn:=Zbj c1;have he:=Zb6 c2;obtain⟨x',hx1,hx2⟩:=hn;exact⟨id,o1,o2,x',rfl,k1,g1,hx1,hx2,by simpa using d1,k2,g2,he,by simpa using d2⟩
     ·rename_i g2;simp only[Kh,IOp.mk.injEq]at h2;obtain⟨_,_,_,_,h⟩:=h2;cases h
    ·simp only[Kh,IOp.mk.injEq]at h1;obtain⟨_,_,_,_,h⟩:=h1;cases h
   ·cases h2
  ·cases h1
theorem ZIW {id:Nat} {o1 o2:Oper} {x':Operand} {st:Bool} {t t2:Nat} {a:Act} {w w':World} {vs:Array Value} {b:Bool} {Q':Exit→Act→World→Prop} (d1:o1.dst=some t) (g1:o1.guard=none) (p1:o1.op= .next x' st) (d2:o2.dst=some t2) (g2:o2.guard=none) (p2:o2.op= .extract (.tmp t) 0)
  (ht:t<a.tmps.size) (hrun:(Instr.next (a.eval x') st o1.type).run P w= .ok (.tuple vs) w') (hv:vs[0]? =some (.bool b)) (h:Q' .normal ((a.put (some t) (.tuple vs)).put (some t2) (.bool b)) w'):(Code.region id #[o1,o2] false).wp P Q' a w:=by
 refine wp_region_list ?_;refine wpList_step fun K hK=> ?_
 rw[if_pos (by simp[Region.wanted,g1])];unfold Oper.wp execOp;simp only[p1,Sem.run_bind,hrun,Result.andThen_ok,Sem.run_pure];rw[Oper.upon_value];refine hK _ _ ?_;refine wpList_step fun K hK=> ?_
 rw[if_pos (by simp[Region.wanted,g2])];unfold Oper.wp execOp;have he:(a.put o1.dst (.tuple vs)).eval (.tmp t)= .tuple vs:=by
  rw[d1];simp[Act.eval,Act.put,Array.getD_eq_getD_getElem?,ht]
 simp only[p2,he,Instr.extract,hv,Sem.run_bind,Sem.run_pure,Result.andThen_ok];rw[Oper.upon_value];refine hK _ _ ?_;rw[d1,d2];exact h
variable {t t2 mid it:Nat} {x:IO}
theorem WI.nextS {m s:_} {pos:Nat} (ks:List Nat) (hx:(ZF φ x).val= .iref m it) (hcd:(ZF φ x).cond=true) (ho:os[it]? =some (.sit s pos))
  (hend: ¬pos<s.length→Q .normal (Go.Ab.keep ks (put (put φ t (.tup [.x (.bool false)])) t2 (.x (.bool false)))) os)
  (hgo:pos<s.length→Q .normal (Go.Ab.keep ks (put (put φ t (.tup [.x (.bool true),.x (.int .i64 pos),.x (.int .i32 (Jt s pos).1)])) t2 (.x (.bool true)))) (os.set it (.sit s (pos+(Jt s pos).2)))):
  WI P c E0 os0 n (.reg [⟨some t,.nxt true x,none⟩,⟨some t2,.ext (.t t) 0,none⟩]) Q φ os:=by
 intro code hc E a R hf;obtain⟨id,o1,o2,x',rfl,d1,g1,p1,hxo,ht,d2,g2,p2,ht2⟩:=ZOs hc;have hv:=(V.op hf hxo).strip hcd;rw[hx]at hv;generalize hva:a.eval x'=va at hv;cases hv with
 |iref ho' hk hb=>
  obtain⟨p,hp,hok⟩:=R.rel.at ho;have hpb:p.1=_:=congrArg Prod.fst (Option.some.inj (hp.symm.trans hb));simp only at hpb;subst hpb;have hblk:E.w.heap[p.1]? =some (.stringIter (Zc s) pos):=hok;by_cases hlt:pos<s.length
  ·have hset: ∀(o':Obj),(setObj p.1 o').run P E.w= .ok () {E.w with heap:=E.w.heap.setIfInBounds p.1 o'}:=fun o'=>by simp[setObj,Sem.run,hblk]
   have hrun:(Instr.next (.pointer (some ⟨p.1,0,none⟩)) true o1.type).run P E.w= .ok (.tuple #[.bool true,.int .i64 pos,.int .i32 (Jt s pos).1]) {E.w with heap:=E.w.heap.setIfInBounds p.1 (.stringIter (Zc s) (pos+(Jt s pos).2))}:=by
    have hl:pos<(Zc s).size:=by rw[Jy];exact hlt
    simp only[Instr.next,getObj,Sem.run_bind,Sem.run,hblk,Result.andThen,hl,if_true];have e:(Utf8.decode (Zc s) pos)=Jt s pos:=rfl;rw[e];simp only[hset,Sem.run_pure];rfl
   have hplt:p.1<E.w.heap.size:=(Ql hblk).1;obtain⟨R',ev⟩:=R.rel.set ho hp {E.w with heap:=E.w.heap.setIfInBounds p.1 (.stringIter (Zc s) (pos+(Jt s pos).2))} (.sit s (pos+(Jt s pos).2)) p
    ⟨rfl,rfl,rfl,by simp,fun k _ hm=>by simp only[Array.getElem?_setIfInBounds];rw[if_neg (show ¬p.1=k from hm)]⟩ (fun b hb=> .inl hb) (fun sz rs h=>by cases h) (fun k h=>⟨rfl,h⟩) (fun _=>by
     show({E.w with heap:=_}:World).heap[p.1]? =_;simp[hplt])
   refine ZIW d1 g1 p1 d2 g2 p2 (by rw[hf.size];exact ht) (by rw[hva];exact hrun) rfl ?_;refine⟨_,_,_,rfl,⟨R',R.evo.trans ev⟩,?_,hgo hlt⟩;refine Fr.keep ?_ ks;refine Fr.put (Fr.put (hf.mono ev) ht ?_) ht2 (V.mkbool _ _ _);exact V.tup3 (V.mkbool _ _ _) (V.mkint _ _ _ _) (V.mkint _ _ _ _)
  ·have hrun:(Instr.next (.pointer (some ⟨p.1,0,none⟩)) true o1.type).run P E.w= .ok (.tuple #[.bool false]) E.w:=by
    have hl: ¬pos<(Zc s).size:=by rw[Jy];exact hlt
    simp only[Instr.next,getObj,Sem.run_bind,Sem.run,hblk,Result.andThen,hl,if_false,Sem.run_pure]
   refine ZIW d1 g1 p1 d2 g2 p2 (by rw[hf.size];exact ht) (by rw[hva];exact hrun) rfl ?_;refine⟨E,_,_,rfl,R,?_,hend hlt⟩;refine Fr.keep ?_ ks;exact Fr.put (Fr.put hf ht (V.tup1 (V.mkbool _ _ _))) ht2 (V.mkbool _ _ _)
theorem ZJq: ∀ {L:List MapEntry} {i:Nat} {e:MapEntry},L[i]? =some e→(L.map (·.born)).Nodup→L.filter (fun x=> !(x.born==e.born))=L.eraseIdx i
 | [],i,e,h,_=>by simp at h
 |x::L,0,e,h,hn=>by
  simp only[List.getElem?_cons_zero,Zg]at h;subst h;simp only[List.map_cons,List.nodup_cons]at hn;rw[List.filter_cons];simp only[beq_self_eq_true,Bool.not_true,Bool.false_eq_true,if_false,List.eraseIdx_cons_zero];rw[List.filter_eq_self];intro y hy;simp only[Bool.not_eq_true',beq_eq_false_iff_ne,ne_eq];intro he;exact hn.1 (he▸List.mem_map.2 ⟨y,hy,rfl⟩)
 |x::L,i+1,e,h,hn=>by
  simp only[List.getElem?_cons_succ]at h;simp only[List.map_cons,List.nodup_cons]at hn;have hne:x.born≠e.born:=fun he=>hn.1 (he▸List.mem_map.2 ⟨e,List.mem_of_getElem? h,rfl⟩)
  rw[List.filter_cons,if_pos (by simpa using hne),List.eraseIdx_cons_succ,ZJq h hn.2]
theorem ZWM (es:Array MapEntry) (seen:Array Nat) {i:Nat} {e:MapEntry} (h:(leftOf es seen).toList[i]? =some e) (hn:(es.toList.map (·.born)).Nodup):(leftOf es (seen.push e.born)).toList=(leftOf es seen).toList.eraseIdx i:=by
 have h1:(leftOf es (seen.push e.born)).toList=(leftOf es seen).toList.filter (fun x=> !(x.born==e.born)):=by
  unfold leftOf;rw[Array.toList_filter,Array.toList_filter,List.filter_filter];refine List.filter_congr fun x _=> ?_
  rw[contains_push];cases seen.contains x.born<;>cases(x.born==e.born)<;>rfl
 rw[h1];refine ZJq h ?_;have:((leftOf es seen).toList.map (·.born)).Sublist (es.toList.map (·.born)):=by
  unfold leftOf;rw[Array.toList_filter];exact List.filter_sublist.map _
 exact this.nodup hn
theorem WI.nextM {dk:KK} {ag:Bool} {l R0:List Pr} {cur:Option Pr} (ks:List Nat) (hx:(ZF φ x).val= .iref mid it) (hcd:(ZF φ x).cond=true) (ho:os[mid]? =some (.mit dk ag l it R0 cur))
  (hend:R0= []→Q .normal (Go.Ab.keep ks (put (put φ t (.tup [.x (.bool false)])) t2 (.x (.bool false)))) os)
  (hgo: ∀(i:Nat) (q:Pr),R0[i]? =some q→Q .normal (Go.Ab.keep ks (put (put φ t .und) t2 (.x (.bool true)))) (os.set mid (.mit dk ag l it (R0.eraseIdx i) (some q)))):
  WI P c E0 os0 n (.reg [⟨some t,.nxt false x,none⟩,⟨some t2,.ext (.t t) 0,none⟩]) Q φ os:=by
 intro code hc E a R hf;obtain⟨id,o1,o2,x',rfl,d1,g1,p1,hxo,ht,d2,g2,p2,ht2⟩:=ZOs hc;have hv:=(V.op hf hxo).strip hcd;rw[hx]at hv;generalize hva:a.eval x'=va at hv;cases hv with
 |iref ho' hk hb=>
  obtain⟨p,hp,hok⟩:=R.rel.at ho;have hok0:=hok;obtain⟨hMO,ib,cu,es,clk,since,seen,c0,o,k1,k2,k3,k4,k5,k6,k7,k8,k9,k10,k11⟩:=hok;have hib:ib=_:=congrArg Prod.fst (Option.some.inj (k4.symm.trans hb));simp only at hib;subst hib;rcases run_next_at (P:=P) E.w o1.type ib p.1 since c0 seen es clk k5 k6 k7 k8.1 with⟨hz,hrun⟩|⟨e,he,w1,hw1,hrun⟩
  ·have hR:R0= []:=by
    have h1:=k10.1;rw[Array.length_toList,hz]at h1;exact List.eq_nil_of_length_eq_zero h1.symm
   refine ZIW d1 g1 p1 d2 g2 p2 (by rw[hf.size];exact ht) (by rw[hva];exact hrun) rfl ?_;refine⟨E,_,_,rfl,R,?_,hend hR⟩;refine Fr.keep ?_ ks;exact Fr.put (Fr.put hf ht (V.tup1 (V.mkbool _ _ _))) ht2 (V.mkbool _ _ _)
  ·obtain⟨i,hi⟩:=List.mem_iff_getElem?.1 he;have hil:i<R0.length:=by rw[←k10.1];exact(Zf hi).1
   have hq:R0[i]? =some R0[i]:=YC hil;have hpo:=k10.2 i e _ hi hq;have hwh:w1.heap=E.w.heap∧w1.os=E.w.os∧w1.tape=E.w.tape∧w1.output=E.w.output:=by rcases hw1 with rfl|rfl<;>exact⟨rfl,rfl,rfl,rfl⟩
   have hibl:ib<E.w.heap.size:=(Ql k5).1;have hne:ib≠p.1:=fun e=>by rw[e,k6]at k5;cases k5
   have hsb: ∀k,(ChangeMaps.setBlock w1 ib (.mapIter (some p.1) since (seen.push e.born) clk)).heap[k]? =if k=ib then some (.mapIter (some p.1) since (seen.push e.born) clk)else E.w.heap[k]? :=fun k=>by
    simp only[ChangeMaps.setBlock,Array.getElem?_setIfInBounds,hwh.1];by_cases h:ib=k
    ·subst h;simp[hibl]
    ·simp[h,Ne.symm h]
   obtain⟨R',ev⟩:=R.rel.set ho hp (ChangeMaps.setBlock w1 ib (.mapIter (some p.1) since (seen.push e.born) clk)) (.mit dk ag l it (R0.eraseIdx i) (some R0[i])) p
    ⟨hwh.2.1,hwh.2.2.1,hwh.2.2.2,by simp[ChangeMaps.setBlock,hwh.1],fun k _ hm=>by rw[hsb,if_neg (fun e=>hm (.inr (by rw[e];exact k1)))]⟩ (fun b hb=> .inl hb) (fun sz rs h=>by cases h) (fun k h=>⟨rfl,h⟩) (fun ev=>by
     obtain⟨cu',o',q1,q2,q3⟩:=ev.bl _ _ _ _ _ k2 k3 k4;refine⟨hMO.mono ev (by rw[hsb,if_neg (Ne.symm hne)]),ib,cu',es,clk,since,seen.push e.born,clk,o',k1,q1,q2,q3,by rw[hsb,if_pos rfl],by rw[hsb,if_neg (Ne.symm hne)];exact k6,k7,⟨k8.2,k8.2⟩,k9,?_,fun q hq=> ?_⟩
     ·rw[ZWM es seen hi k9];refine ZDC.mono ev ⟨?_,fun j y q hy hq=> ?_⟩
      ·rw[List.length_eraseIdx,List.length_eraseIdx,k10.1]
      ·rw[List.getElem?_eraseIdx]at hy hq;split at hy
       ·rename_i hj;rw[if_pos hj]at hq;exact k10.2 j y q hy hq
       ·rename_i hj;rw[if_neg hj]at hq;exact k10.2 (j+1) y q hy hq
     ·cases hq;exact⟨rfl,seen,e,rfl,(mem_left he).1,hpo.mono ev⟩)
   refine ZIW d1 g1 p1 d2 g2 p2 (by rw[hf.size];exact ht) (by rw[hva];exact hrun) rfl ?_;refine⟨_,_,_,rfl,⟨R',R.evo.trans ev⟩,?_,hgo i _ hq⟩;refine Fr.keep ?_ ks;exact Fr.put (Fr.put (hf.mono ev) ht (.und _)) ht2 (V.mkbool _ _ _)
end
mutual
def D.ren (f:Nat→Nat):D→D
 | .ref id a b c=> .ref (f id) a b c
 | .ptr id o=> .ptr (f id) o
 | .eptr id a b c=> .eptr (f id) a b c
 | .agg ds=> .agg (Zy f ds)
 | .tup ds=> .tup (Zy f ds)
 | .fn g caps=> .fn g (Zy f caps)
 | .opt b d=> .opt b (d.ren f)
 | .x y=> .x y
 | .vptr cs=> .vptr cs
 | .mref id=> .mref (f id)
 | .mnil=> .mnil
 | .iref mid id=> .iref (f mid) (f id)
 | .stk mid id=> .stk (f mid) (f id)
 | .bref id o l=> .bref (f id) o l
 | .full rs=> .full rs
 | .nz rs=> .nz rs
 | .und=> .und
def Zy (f:Nat→Nat):List D→List D
 | []=> []
 |d::l=>d.ren f::Zy f l
end
mutual
def D.inP (p:Nat→Bool):D→Bool
 | .ref id _ _ _=>p id
 | .ptr id _=>p id
 | .eptr id _ _ _=>p id
 | .agg ds=>YY p ds
 | .tup ds=>YY p ds
 | .fn _ caps=>YY p caps
 | .opt _ d=>d.inP p
 | .x _=>true
 | .vptr _=>true
 | .mref id=>p id
 | .mnil=>true
 | .iref mid id=>p mid&&p id
 | .stk mid id=>p mid&&p id
 | .bref id _ _=>p id
 | .full _=>true
 | .nz _=>true
 | .und=>true
def YY (p:Nat→Bool):List D→Bool
 | []=>true
 |d::l=>d.inP p&&YY p l
end
def Yt (f:Nat→Nat) (q:Pr):Pr:=(q.1,Zy f q.2)
def Qj (p:Nat→Bool) (q:Pr):Bool:=YY p q.2
def Ob.ren (f:Nat→Nat):Ob→Ob
 | .box ds=> .box (Zy f ds)
 | .rows fz e sz rs=> .rows fz e sz rs
 | .drw e sz rs=> .drw e sz (rs.map (Zy f))
 | .frz sz rs=> .frz sz rs
 | .mpo dk ag l=> .mpo dk ag (l.map (Yt f))
 | .mit dk ag l it R cur=> .mit dk ag (l.map (Yt f)) (f it) (R.map (Yt f)) (cur.map (Yt f))
 | .mpn dk ag l key sid=> .mpn dk ag (l.map (Yt f)) key (f sid)
 | .itr=> .itr
 | .stp=> .stp
 | .nit=> .nit
 | .sit s pos=> .sit s pos
 | .dead=> .dead
def Ob.inP (p:Nat→Bool):Ob→Bool
 | .box ds=>YY p ds
 | .drw _ _ rs=>rs.all (YY p)
 | .mpo _ _ l=>l.all (Qj p)
 | .mit _ _ l it R cur=>l.all (Qj p)&&(p it&&(R.all (Qj p)&&cur.all (Qj p)))
 | .mpn _ _ l _ sid=>l.all (Qj p)&&p sid
 |_=>true
theorem Jf (f:Nat→Nat): ∀l,Zy f l=l.map (D.ren f)
 | []=>rfl
 |d::l=>by simp[Zy,Jf f l]
theorem QX (p:Nat→Bool): ∀l,YY p l=l.all (D.inP p)
 | []=>rfl
 |d::l=>by simp[YY,QX p l]
structure EvoR (f:Nat→Nat) (p:Nat→Bool) (E:Env) (os:List Ob) (E':Env) (os':List Ob):Prop where
 st: ∀b o,E.st b o→E'.st b o∧E'.w.cell? ⟨b,o,none⟩=E.w.cell? ⟨b,o,none⟩
 bl: ∀(id b:Nat) (cu:Value) (o:Ob) (k:Kd),p id=true→os[id]? =some o→o.kd=some k→E.ob[id]? =some (b,cu)→ ∃cu' o',os'[f id]? =some o'∧o'.kd=some k∧E'.ob[f id]? =some (b,cu')
 rf: ∀(id:Nat) (o:Ob) (sz n:Nat),p id=true→os[id]? =some o→o.sl? =some (sz,n)→
  ∃o' n',os'[f id]? =some o'∧o'.sl? =some (sz,n')∧((n=n'∧E'.ob[f id]? =E.ob[id]?)∨n<n')
theorem V.monoR {f:Nat→Nat} {p:Nat→Bool} {E E':Env} {os os':List Ob} (e:EvoR f p E os E' os') {d:D} {v:Value} (h:V E os d v):d.inP p=true→V E' os' (d.ren f) v:=by
 have lst: ∀ {ds:List D} {vs:Array Value},(∀(j:Nat) (d:D) (v:Value),ds[j]? =some d→vs[j]? =some v→d.inP p=true→V E' os' (d.ren f) v)→YY p ds=true→ ∀(j:Nat) (d:D) (v:Value),(Zy f ds)[j]? =some d→vs[j]? =some v→V E' os' d v:=by
  intro ds vs ih hp j d v hd hv;rw[Jf,YA]at hd;obtain⟨d0,h0,rfl⟩:=Zh hd;rw[QX]at hp;exact ih j d0 v h0 hv (List.all_eq_true.1 hp d0 (List.mem_of_getElem? h0))
 induction h with
 |x h=>intro _;exact .x (h.mono e.st)
 |ref h h1=>
  intro hp;obtain⟨o,sz,rs,g1,g2,g3,g4⟩:=h;obtain⟨o',rs',k1,k2,k3⟩:=e.rf _ o sz rs hp g1 g2;refine .ref ⟨o',sz,rs',k1,k2,?_⟩ h1;rcases k3 with⟨k3,k4⟩|k3
  ·refine⟨by omega,fun hl=> ?_⟩;obtain⟨h5,b,a,cap,a',cap',h6,h7⟩:=g4 (by omega);exact⟨h5,b,a,cap,a',cap',k4.trans h6,h7⟩
  ·exact⟨by omega,fun hl=>absurd hl (by omega)⟩
 |ptr ho h=>intro hp;obtain⟨cu',o',h1,h2,h3⟩:=e.bl _ _ _ _ .box hp ho rfl h;obtain⟨ds',rfl⟩:=Ob.kd_box h2;exact .ptr h1 h3
 |mref ho hk h=>intro hp;obtain⟨cu',o',h1,h2,h3⟩:=e.bl _ _ _ _ _ hp ho hk h;exact .mref h1 h2 h3
 |mnil=>intro _;exact .mnil
 |iref ho hk h=>intro hp;simp only[D.inP,ZY]at hp;obtain⟨cu',o',h1,h2,h3⟩:=e.bl _ _ _ _ _ hp.2 ho hk h;exact .iref h1 h2 h3
 |stk ho hk h=>intro hp;simp only[D.inP,ZY]at hp;obtain⟨cu',o',h1,h2,h3⟩:=e.bl _ _ _ _ _ hp.2 ho hk h;exact .stk h1 h2 h3
 |bref ho h hm=>intro hp;obtain⟨cu',o',h1,h2,h3⟩:=e.bl _ _ _ _ .box hp ho rfl h;obtain⟨ds',rfl⟩:=Ob.kd_box h2;exact .bref h1 h3 hm
 |eptr h h1=>
  intro hp;obtain⟨o,sz,rs,g1,g2,g3,g4⟩:=h;obtain⟨o',rs',k1,k2,k3⟩:=e.rf _ o sz rs hp g1 g2;refine .eptr ⟨o',sz,rs',k1,k2,?_⟩ h1;rcases k3 with⟨k3,k4⟩|k3
  ·refine⟨by omega,fun hl=> ?_⟩;obtain⟨h5,b,g,cap,h6,h7⟩:=g4 (by omega);exact⟨h5,b,g,cap,k4.trans h6,h7⟩
  ·exact⟨by omega,fun hl=>absurd hl (by omega)⟩
 |vptr b off val hc hv=>intro _;exact .vptr b off val (fun j x hj=>⟨(e.st _ _ (hc j x hj).1).1,by rw[(e.st _ _ (hc j x hj).1).2];exact(hc j x hj).2⟩) (fun j x hj=>(hv j x hj).mono e.st)
 |agg vs hl h1 _ ih=>intro hp;exact .agg vs (by rw[Jf];simpa using hl) h1 (lst ih hp)
 |tup vs hl _ ih=>intro hp;exact .tup vs (by rw[Jf];simpa using hl) (lst ih hp)
 |full n h=>intro _;exact .full n (h.mono e.st)
 |nz h=>intro _;exact .nz (h.mono e.st)
 |fn vs hl _ ih=>intro hp;exact .fn vs (by rw[Jf];simpa using hl) (lst ih hp)
 |opt _ h' ih=>intro hp;exact .opt (fun hb=>ih hb hp) h'
 |und v=>intro _;exact .und v
theorem Ob.ren_sl (f:Nat→Nat) (o:Ob):(o.ren f).sl? =o.sl? :=by cases o<;>simp[Ob.ren,Ob.sl?]
theorem Ob.ren_kd (f:Nat→Nat) (o:Ob):(o.ren f).kd=o.kd:=by cases o<;>rfl
theorem Ob.ren_mb (f:Nat→Nat) (o:Ob) (q:Nat×Value):(o.ren f).mb q=o.mb q:=by cases o<;>rfl
theorem VC.monoR {f:Nat→Nat} {p:Nat→Bool} {E E':Env} {os os':List Ob} (e:EvoR f p E os E' os') {ag:Bool} {ds:List D} {v:Value} (h:VC E os ag ds v) (hp:YY p ds=true):VC E' os' ag (Zy f ds) v:=by
 obtain⟨h1,h2,h3⟩:=h;refine⟨?_,by rw[Jf];simpa using h2,fun j d u hd hu=> ?_⟩
 ·rw[Jf];cases ag with
  |true=>exact h1
  |false=>simp only[Bool.false_eq_true,if_false,List.length_map]at h1⊢;exact h1
 ·rw[Jf,YA]at hd;obtain⟨d0,h0,rfl⟩:=Zh hd;rw[QX]at hp;exact⟨(h3 j d0 u h0 hu).1.monoR e (List.all_eq_true.1 hp d0 (List.mem_of_getElem? h0)),(h3 j d0 u h0 hu).2⟩
theorem Zz.monoR {f:Nat→Nat} {p:Nat→Bool} {E E':Env} {os os':List Ob} (e:EvoR f p E os E' os') {b:Nat} {dk:KK} {ag:Bool} {l:List Pr} (hb:E'.w.heap[b]? =E.w.heap[b]?) (h:Zz E os b dk ag l) (hp:l.all (Qj p)=true):Zz E' os' b dk ag (l.map (Yt f)):=by
 have key: ∀ {κ:Type} [DecidableEq κ] {mk:κ→Value} {kx:κ→List X},Qr mk kx E os b ag l→Qr mk kx E' os' b ag (l.map (Yt f)):=by
  intro κ _ mk kx ⟨l',h1,h2,h3⟩;refine⟨l',h1.keep hb,by simpa using h2,fun i a q ha hq=> ?_⟩;rw[YA]at hq;obtain⟨q0,hq0,rfl⟩:=Zh hq;obtain⟨k1,k2⟩:=h3 i a q0 ha hq0;exact⟨k1,k2.monoR e (List.all_eq_true.1 hp q0 (List.mem_of_getElem? hq0))⟩
 cases dk with
 |int k=>exact key h
 |str=>exact key h
 |st a b=>exact h.elim
theorem ZDC.monoR {f:Nat→Nat} {p:Nat→Bool} {E E':Env} {os os':List Ob} (e:EvoR f p E os E' os') {dk:KK} {ag:Bool} {L:List MapEntry} {R:List Pr} (h:ZDC E os dk ag L R) (hp:R.all (Qj p)=true):ZDC E' os' dk ag L (R.map (Yt f)):=by
 refine⟨by simpa using h.1,fun i x q hx hq=> ?_⟩;rw[YA]at hq;obtain⟨q0,hq0,rfl⟩:=Zh hq;obtain⟨k1,k2⟩:=h.2 i x q0 hx hq0;exact⟨k1,k2.monoR e (List.all_eq_true.1 hp q0 (List.mem_of_getElem? hq0))⟩
theorem OK.monoR {f:Nat→Nat} {p:Nat→Bool} {E E':Env} {os os':List Ob} (e:EvoR f p E os E' os') {o:Ob} {q:Nat×Value} (hb: ∀b,o.mb q b→E'.w.heap[b]? =E.w.heap[b]?) (h:OK E os o q) (hp:o.inP p=true):OK E' os' (o.ren f) q:=by
 cases o with
 |box ds=>
  obtain⟨cs,ty,h1,h2,h3⟩:=h;refine⟨cs,ty,by rw[hb _ rfl];exact h1,by rw[Jf];simpa using h2,fun j d v hd hv=> ?_⟩;rw[Jf,YA]at hd;obtain⟨d0,h0,rfl⟩:=Zh hd;simp only[Ob.inP,QX]at hp;exact⟨(h3 j d0 v h0 hv).1.monoR e (List.all_eq_true.1 hp d0 (List.mem_of_getElem? h0)),(h3 j d0 v h0 hv).2⟩
 |rows fz el sz rs=>
  obtain⟨xs,h1,h2,h3⟩:=h;exact⟨xs,h1.kept hb,h2,fun i r j x v hr hx hv=>(h3 i r j x v hr hx hv).mono e.st⟩
 |drw el sz rs=>
  obtain⟨xs,h1,h2,h3⟩:=h;refine⟨xs,by rw[List.length_map];exact h1.kept hb,fun r hr=> ?_,fun i r j d v hr hd hv=> ?_⟩
  ·obtain⟨r0,h0,rfl⟩:=List.mem_map.1 hr;rw[Jf,List.length_map];exact h2 r0 h0
  ·rw[YA]at hr;obtain⟨r0,h0,rfl⟩:=Zh hr;rw[Jf,YA]at hd;obtain⟨d0,hd0,rfl⟩:=Zh hd;have hp':=List.all_eq_true.1 hp r0 (List.mem_of_getElem? h0);rw[QX]at hp';exact⟨(h3 i r0 j d0 v h0 hd0 hv).1.monoR e (List.all_eq_true.1 hp' d0 (List.mem_of_getElem? hd0)),(h3 i r0 j d0 v h0 hd0 hv).2⟩
 |frz sz rs=>exact⟨h.1.mono e.st,h.2⟩
 |mpo dk ag l=>exact Zz.monoR e (hb _ rfl) h hp
 |mit dk ag l it R cur=>
  simp only[Ob.inP,ZY]at hp;obtain⟨hp1,hp2,hp3,hp4⟩:=hp;refine⟨Zz.monoR e (hb _ (.inl rfl)) h.1 hp1,?_⟩;obtain⟨_,ib,cu,es,clk,since,seen,c0,o,h1,h2,h3,h4,h5,h6,h7,h8,h9,h10,h11⟩:=h;obtain⟨cu',o',k1,k2,k3⟩:=e.bl _ _ _ _ _ hp2 h2 h3 h4;refine⟨ib,cu',es,clk,since,seen,c0,o',h1,k1,k2,k3,by rw[hb ib (.inr h1)];exact h5,by rw[hb _ (.inl rfl)];exact h6,h7,h8,h9,h10.monoR e hp3,fun q hq=> ?_⟩;obtain⟨q0,hq0,rfl⟩:=Zh hq;obtain⟨g1,s',x,g2,g3,g4⟩:=h11 q0 hq0;subst hq0;exact⟨g1,s',x,g2,g3,g4.1,g4.2.monoR e hp4⟩
 |mpn dk ag l key sid=>
  simp only[Ob.inP,ZY]at hp;refine⟨Zz.monoR e (hb _ rfl) h.1 hp.1,?_⟩;obtain⟨_,n,cu,o,es,clk,x,h1,h2,h3,h4,h5⟩:=h;obtain⟨cu',o',k1,k2,k3⟩:=e.bl _ _ _ _ _ hp.2 h1 h2 h3;exact⟨n,cu',o',es,clk,x,k1,k2,k3,by rw[hb _ rfl];exact h4,h5⟩
 |sit s pos=>show E'.w.heap[q.1]? =_;rw[hb _ rfl];exact h
 |nit=>obtain⟨a,s,b,h⟩:=h;exact⟨a,s,b,by rw[hb _ rfl];exact h⟩
 |itr=>trivial
 |stp=>trivial
 |dead=>trivial
def Yb:List Nat→Nat→Nat
 | [],_=>0
 |r::l,i=>if i=r then 0 else Yb l i+1
def KS:List Ob→List Nat→List Ob→List Ob
 |OS,r::ρ,o::os=>KS (OS.set r o) ρ os
 |OS,_,_=>OS
def ZAs:List (Nat×Value)→List Nat→List (Nat×Value)→List (Nat×Value)
 |l,r::ρ,o::os=>ZAs (l.set r o) ρ os
 |l,_,_=>l
theorem ZDf: ∀ {ρ:List Nat} {i:Nat},i∈ρ→ρ[Yb ρ i]? =some i
 |r::l,i,h=>by
  simp only[Yb];split
  ·rename_i h1;subst h1;rfl
  ·rename_i h1;simp only[List.getElem?_cons_succ];exact ZDf (by simpa[h1]using h)
theorem ZHh: ∀ {ρ:List Nat},ρ.Nodup→ ∀ {i r:Nat},ρ[i]? =some r→Yb ρ r=i
 | [],_,i,r,h=>by simp at h
 |q::l,hn,i,r,h=>by
  rw[List.nodup_cons]at hn;cases i with
  |zero=>simp at h;subst h;simp[Yb]
  |succ i=>
   have h':l[i]? =some r:=by simpa using h
   have:r∈l:=List.mem_of_getElem? h';have hne:r≠q:=fun e=>hn.1 (e▸this)
   simp only[Yb,hne,if_false,ZHh hn.2 h']
theorem ZHD: ∀(ρ:List Nat) (os OS:List Ob),(KS OS ρ os).length=OS.length
 | [],os,OS=>by cases os<;>rfl
 |r::ρ,[],OS=>rfl
 |r::ρ,o::os,OS=>by simp only[KS];rw[ZHD ρ os];simp
theorem ZGv: ∀(ρ:List Nat) (os OS:List Ob) (j:Nat),j∉ρ→(KS OS ρ os)[j]? =OS[j]?
 | [],os,OS,j,_=>by cases os<;>rfl
 |r::ρ,[],OS,j,_=>rfl
 |r::ρ,o::os,OS,j,h=>by
  simp only[KS];rw[ZGv ρ os _ j (fun hm=>h (by simp[hm])),List.getElem?_set_ne (fun e=>h (by simp[e]))]
theorem ZMS: ∀(ρ:List Nat) (os OS:List Ob),ρ.Nodup→(∀r∈ρ,r<OS.length)→ ∀(i r:Nat) (o:Ob),ρ[i]? =some r→os[i]? =some o→(KS OS ρ os)[r]? =some o
 | [],os,OS,_,_,i,r,o,h,_=>by simp at h
 |q::ρ,[],OS,_,_,i,r,o,_,h=>by simp at h
 |q::ρ,x::os,OS,hn,hl,i,r,o,h,ho=>by
  rw[List.nodup_cons]at hn;simp only[KS];cases i with
  |zero=>
   simp at h ho;subst h;subst ho;rw[ZGv ρ os _ _ hn.1,List.getElem?_set_self (hl _ (by simp))]
  |succ i=>exact ZMS ρ os _ hn.2 (fun r hr=>by simp;exact hl r (by simp[hr])) i r o (by simpa using h) (by simpa using ho)
theorem ZFh: ∀(ρ:List Nat) (os OS:List (Nat×Value)),(ZAs OS ρ os).length=OS.length
 | [],os,OS=>by cases os<;>rfl
 |r::ρ,[],OS=>rfl
 |r::ρ,o::os,OS=>by simp only[ZAs];rw[ZFh ρ os];simp
theorem ZE3: ∀(ρ:List Nat) (os OS:List (Nat×Value)) (j:Nat),j∉ρ→(ZAs OS ρ os)[j]? =OS[j]?
 | [],os,OS,j,_=>by cases os<;>rfl
 |r::ρ,[],OS,j,_=>rfl
 |r::ρ,o::os,OS,j,h=>by
  simp only[ZAs];rw[ZE3 ρ os _ j (fun hm=>h (by simp[hm])),List.getElem?_set_ne (fun e=>h (by simp[e]))]
theorem ZJl: ∀(ρ:List Nat) (os OS:List (Nat×Value)),ρ.Nodup→(∀r∈ρ,r<OS.length)→ ∀(i r:Nat) (o:Nat×Value),ρ[i]? =some r→os[i]? =some o→(ZAs OS ρ os)[r]? =some o
 | [],os,OS,_,_,i,r,o,h,_=>by simp at h
 |q::ρ,[],OS,_,_,i,r,o,_,h=>by simp at h
 |q::ρ,x::os,OS,hn,hl,i,r,o,h,ho=>by
  rw[List.nodup_cons]at hn;simp only[ZAs];cases i with
  |zero=>
   simp at h ho;subst h;subst ho;rw[ZE3 ρ os _ _ hn.1,List.getElem?_set_self (hl _ (by simp))]
  |succ i=>exact ZJl ρ os _ hn.2 (fun r hr=>by simp;exact hl r (by simp[hr])) i r o (by simpa using h) (by simpa using ho)
def YS (ρ:List Nat) (OS:List Ob):List Ob:=ρ.map fun r=>(OS.getD r .dead).ren (Yb ρ)
def fpE (ρ:List Nat) (E:Env):Env:=⟨E.w,E.st,ρ.map fun r=>E.ob.getD r (0,undef)⟩
def KI (ρ:List Nat) (n _:Nat) (i:Nat):Nat:=if i<ρ.length then ρ.getD i 0 else n+(i-ρ.length)
def Kp (ρ:List Nat) (OS os':List Ob):List Ob:=KS OS ρ (os'.map (Ob.ren (KI ρ OS.length os'.length)))++(os'.map (Ob.ren (KI ρ OS.length os'.length))).drop ρ.length
def ZE7 (ρ:List Nat) (E E1:Env):Env:=⟨E1.w,E1.st,ZAs E.ob ρ E1.ob++E1.ob.drop ρ.length⟩
theorem inP_true: ∀d:D,d.inP (fun _=>true)=true:=by
 intro d;refine D.rec (motive_1:=fun d=>d.inP (fun _=>true)=true) (motive_2:=fun l=>YY (fun _=>true) l=true) ?_ ?_ ?_ ?_ ?_ ?_ ?_ ?_ ?_ ?_ ?_ ?_ ?_ ?_ ?_ ?_ ?_ ?_ ?_ d
 all_goals intros
 all_goals first|rfl|(simp only[D.inP,YY];simp_all)
theorem ZCk (q:Pr):Qj (fun _=>true) q=true:=by
 simp only[Qj,QX];exact List.all_eq_true.2 (fun d _=>inP_true d)
theorem Ob.inP_true (o:Ob):o.inP (fun _=>true)=true:=by
 cases o with
 |box ds=>simp only[Ob.inP,QX];exact List.all_eq_true.2 (fun d _=>Go.Ab.inP_true d)
 |drw e sz rs=>exact List.all_eq_true.2 (fun r _=>by rw[QX];exact List.all_eq_true.2 (fun d _=>Go.Ab.inP_true d))
 |mpo dk ag l=>exact List.all_eq_true.2 (fun q _=>ZCk q)
 |mit dk ag l it R cur=>
  simp only[Ob.inP,ZY];exact⟨List.all_eq_true.2 (fun q _=>ZCk q),trivial,List.all_eq_true.2 (fun q _=>ZCk q),by cases cur with|none=>rfl|some q=>exact ZCk q⟩
 |mpn dk ag l key sid=>
  simp only[Ob.inP,ZY];exact⟨List.all_eq_true.2 (fun q _=>ZCk q),trivial⟩
 |_=>rfl
section
variable {c:Ctx} {E:Env} {OS:List Ob} {ρ:List Nat}
theorem ZGL (R:Rel c E OS) (hlt: ∀r∈ρ,r<OS.length) {i:Nat} {o:Ob} (h:(YS ρ OS)[i]? =some o): ∃r o0 p,ρ[i]? =some r∧OS[r]? =some o0∧o=o0.ren (Yb ρ)∧E.ob[r]? =some p∧(fpE ρ E).ob[i]? =some p:=by
 simp only[YS,YA,Kh]at h;obtain⟨r,hr,rfl⟩:=h;have hl:=hlt r (List.mem_of_getElem? hr);have hob:E.ob[r]? =some (E.ob[r]'(by rw[R.len];exact hl)):=YC _;refine⟨r,OS[r]'hl,_,hr,YC hl,by simp[List.getD,hl],hob,?_⟩;simp only[fpE,YA,hr,Option.map_some,List.getD,hob,Option.getD_some]
theorem ZHp (R:Rel c E OS) (_: ∀r∈ρ,r<OS.length):EvoR (Yb ρ) (fun i=>YH i ρ) E OS (fpE ρ E) (YS ρ OS):=by
 have key: ∀id o,YH id ρ=true→OS[id]? =some o→(YS ρ OS)[Yb ρ id]? =some (o.ren (Yb ρ))∧(fpE ρ E).ob[Yb ρ id]? =E.ob[id]? :=by
  intro id o hp ho;have hr:=ZDf (Qt.1 hp);have hl:=(Zf ho).1;have hob:E.ob[id]? =some (E.ob[id]'(by rw[R.len];exact hl)):=YC _;refine⟨by simp only[YS,YA,hr,Option.map_some,List.getD,ho,Option.getD_some],by simp only[fpE,YA,hr,Option.map_some,List.getD,hob,Option.getD_some]⟩
 refine⟨fun b o h=>⟨h,rfl⟩,fun id b cu ds k hp ho hkd hb=> ?_,fun id o sz rs hp ho hs=> ?_⟩
 ·obtain⟨k1,k2⟩:=key id _ hp ho;exact⟨cu,_,k1,by rw[Ob.ren_kd];exact hkd,k2.trans hb⟩
 ·obtain⟨k1,k2⟩:=key id _ hp ho;exact⟨_,rs,k1,by rw[Ob.ren_sl];exact hs,.inl ⟨rfl,k2⟩⟩
theorem ZWr (R:Rel c E OS) (hn:ρ.Nodup) (hlt: ∀r∈ρ,r<OS.length) (hcl: ∀r∈ρ,(OS.getD r .dead).inP (fun i=>YH i ρ)=true):Rel ⟨E.w,E.st,ZJY (fpE ρ E) (YS ρ OS)⟩ (fpE ρ E) (YS ρ OS):=by
 have ev:=ZHp R hlt;refine⟨by simp[fpE,YS],fun i o p h1 h2=> ?_,fun i j o o' p p' b h1 h2 h3 h4 h5 h6=> ?_,fun b off hs=>⟨(R.stm b off hs).1,fun i o p h1 h2 h3=> ?_⟩,Kept.refl _ _,fun i o p b h1 h2 h3=> .inl ⟨i,o,p,h1,h2,h3⟩,fun b off hs=> .inl hs⟩
 ·obtain⟨r,o0,p0,k1,k2,rfl,k4,k5⟩:=ZGL R hlt h1;rw[h2]at k5;cases k5;have:=hcl r (List.mem_of_getElem? k1);simp only[List.getD,k2,Option.getD_some]at this;exact(R.ok r o0 p k2 k4).monoR ev (fun _ _=>rfl) this
 ·obtain⟨r,o0,p0,k1,k2,rfl,k4,k5⟩:=ZGL R hlt h1;obtain⟨r',o0',p0',k1',k2',rfl,k4',k5'⟩:=ZGL R hlt h3;rw[h2]at k5;cases k5;rw[h4]at k5';cases k5';rw[Ob.ren_mb]at h5 h6;have:=R.dis r r' o0 o0' p p' b k2 k4 k2' k4' h5 h6;subst this;rw[←ZHh hn k1,←ZHh hn k1']
 ·obtain⟨r,o0,p0,k1,k2,rfl,k4,k5⟩:=ZGL R hlt h1;rw[h2]at k5;cases k5;rw[Ob.ren_mb]at h3;exact(R.stm b off hs).2 r o0 p k2 k4 h3
theorem ZJJ (R:Rel c E OS) (hlt: ∀r∈ρ,r<OS.length) {j:Nat} {o:Ob} {p:Nat×Value} {b:Nat} (ho:OS[j]? =some o) (hp:E.ob[j]? =some p) (hj:j∉ρ) (hb:o.mb p b): ¬ZJY (fpE ρ E) (YS ρ OS) b:=by
 rintro⟨i,o1,p1,h1,h2,h3⟩;obtain⟨r,o0,p0,k1,k2,rfl,k4,k5⟩:=ZGL R hlt h1;rw[h2]at k5;cases k5;rw[Ob.ren_mb]at h3;have:=R.dis j r o o0 p p1 b ho hp k2 k4 hb h3;subst this;exact hj (List.mem_of_getElem? k1)
theorem ZLB (R:Rel c E OS) (hlt: ∀r∈ρ,r<OS.length) {b:Nat} (h:ZJY (fpE ρ E) (YS ρ OS) b):(c.M b∨c.w0.heap.size≤b)∧b<E.w.heap.size:=by
 obtain⟨i,o1,p1,h1,h2,h3⟩:=h;obtain⟨r,o0,p0,k1,k2,rfl,k4,k5⟩:=ZGL R hlt h1;rw[h2]at k5;cases k5;rw[Ob.ren_mb]at h3;exact⟨R.mbs r o0 p1 b k2 k4 h3,(R.ok r o0 p1 k2 k4).lt h3⟩
theorem ZbB (R:Rel c E OS) (hn:ρ.Nodup) (hlt: ∀r∈ρ,r<OS.length) {E1:Env} {os':List Ob} (R1:Rel ⟨E.w,E.st,ZJY (fpE ρ E) (YS ρ OS)⟩ E1 os') (ev:Evo (fpE ρ E) (YS ρ OS) E1 os') (hk:ρ.length≤os'.length):
  Rel c (ZE7 ρ E E1) (Kp ρ OS os')∧Evo E OS (ZE7 ρ E E1) (Kp ρ OS os')∧ ∀d v,V E1 os' d v→V (ZE7 ρ E E1) (Kp ρ OS os') (d.ren (KI ρ OS.length os'.length)) v:=by
 have hlE:(ZAs E.ob ρ E1.ob).length=OS.length:=by rw[ZFh,R.len]
 have hlO:(KS OS ρ (os'.map (Ob.ren (KI ρ OS.length os'.length)))).length=OS.length:=ZHD _ _ _;have hltE: ∀r∈ρ,r<E.ob.length:=fun r hr=>by rw[R.len];exact hlt r hr
 have cal: ∀i o',os'[i]? =some o'→(Kp ρ OS os')[KI ρ OS.length os'.length i]? =some (o'.ren (KI ρ OS.length os'.length))∧(ZE7 ρ E E1).ob[KI ρ OS.length os'.length i]? =E1.ob[i]? :=by
  intro i o' ho;have hi:=(Zf ho).1;have hpe:E1.ob[i]? =some (E1.ob[i]'(by rw[R1.len];exact hi)):=YC _;have hom:(os'.map (Ob.ren (KI ρ OS.length os'.length)))[i]? =some (o'.ren (KI ρ OS.length os'.length)):=by rw[YA,ho];rfl
  by_cases h:i<ρ.length
  ·have hr:ρ[i]? =some (ρ[i]'h):=YC h;have hf:KI ρ OS.length os'.length i=ρ[i]'h:=by simp[KI,h,List.getD]
   have hrl:=hlt _ (List.getElem_mem h);rw[hf];refine⟨?_,?_⟩
   ·show(_++_)[_]? =_;rw[Yr (by rw[hlO];exact hrl)];exact ZMS ρ _ OS hn hlt i _ _ hr hom
   ·show(_++_)[_]? =_;rw[Yr (by rw[hlE];exact hrl),hpe];exact ZJl ρ _ E.ob hn hltE i _ _ hr hpe
  ·have hf:KI ρ OS.length os'.length i=OS.length+(i-ρ.length):=by simp[KI,h]
   rw[hf];refine⟨?_,?_⟩
   ·show(_++_)[_]? =_;rw[List.getElem?_append_right (by rw[hlO];omega),hlO,List.getElem?_drop,show ρ.length+(OS.length+(i-ρ.length)-OS.length)=i by omega];exact hom
   ·show(_++_)[_]? =_;rw[List.getElem?_append_right (by rw[hlE];omega),hlE,List.getElem?_drop,show ρ.length+(OS.length+(i-ρ.length)-OS.length)=i by omega]
 have out: ∀j,j<OS.length→j∉ρ→(Kp ρ OS os')[j]? =OS[j]? ∧(ZE7 ρ E E1).ob[j]? =E.ob[j]? :=by
  intro j hj hm;refine⟨?_,?_⟩
  ·show(_++_)[_]? =_;rw[Yr (by rw[hlO];exact hj),ZGv ρ _ OS j hm]
  ·show(_++_)[_]? =_;rw[Yr (by rw[hlE];exact hj),ZE3 ρ _ E.ob j hm]
 have hlen:(Kp ρ OS os').length=OS.length+(os'.length-ρ.length):=by
  simp only[Kp,Zr,hlO];simp
 have cls: ∀j o p,(Kp ρ OS os')[j]? =some o→(ZE7 ρ E E1).ob[j]? =some p→(j∉ρ∧OS[j]? =some o∧E.ob[j]? =some p)∨ ∃i o',os'[i]? =some o'∧E1.ob[i]? =some p∧o=o'.ren (KI ρ OS.length os'.length)∧j=KI ρ OS.length os'.length i:=by
  intro j o p ho hp;have hj:=(Zf ho).1;rw[hlen]at hj;by_cases hjl:j<OS.length
  ·by_cases hm:j∈ρ
   ·have hr:=ZDf hm;have hi:=(Zf hr).1;have hio:os'[Yb ρ j]? =some (os'[Yb ρ j]'(by omega)):=YC _;have hf:KI ρ OS.length os'.length (Yb ρ j)=j:=by
     simp only[KI,hi,if_true,List.getD,hr,Option.getD_some]
    obtain⟨k1,k2⟩:=cal _ _ hio;rw[hf]at k1 k2;rw[ho]at k1;cases k1;rw[hp]at k2;exact .inr ⟨_,_,hio,k2.symm,rfl,hf.symm⟩
   ·obtain⟨k1,k2⟩:=out j hjl hm;rw[k1]at ho;rw[k2]at hp;exact .inl ⟨hm,ho,hp⟩
  ·have hio:os'[j-OS.length+ρ.length]? =some (os'[j-OS.length+ρ.length]'(by omega)):=YC _;have hf:KI ρ OS.length os'.length (j-OS.length+ρ.length)=j:=by
    have: ¬(j-OS.length+ρ.length<ρ.length):=by omega
    simp only[KI,this,if_false];omega
   obtain⟨k1,k2⟩:=cal _ _ hio;rw[hf]at k1 k2;rw[ho]at k1;cases k1;rw[hp]at k2;exact .inr ⟨_,_,hio,k2.symm,rfl,hf.symm⟩
 have evr:EvoR (KI ρ OS.length os'.length) (fun _=>true) E1 os' (ZE7 ρ E E1) (Kp ρ OS os'):=by
  refine⟨fun b o h=>⟨h,rfl⟩,fun id b cu ds k _ ho hkd hb=> ?_,fun id o sz rs _ ho hs=> ?_⟩
  ·obtain⟨k1,k2⟩:=cal id _ ho;exact⟨cu,_,k1,by rw[Ob.ren_kd];exact hkd,k2.trans hb⟩
  ·obtain⟨k1,k2⟩:=cal id _ ho;exact⟨_,rs,k1,by rw[Ob.ren_sl];exact hs,.inl ⟨rfl,k2⟩⟩
 have hkept:Kept (ZJY (fpE ρ E) (YS ρ OS)) E.w E1.w:=R1.kept;have evo:Evo E OS (ZE7 ρ E E1) (Kp ρ OS os'):=by
  have fpat: ∀r o,r∈ρ→OS[r]? =some o→(YS ρ OS)[Yb ρ r]? =some (o.ren (Yb ρ))∧(fpE ρ E).ob[Yb ρ r]? =E.ob[r]? ∧KI ρ OS.length os'.length (Yb ρ r)=r:=by
   intro r o hr ho;have hg:=ZDf hr;have hi:=(Zf hg).1;have hl:=hlt r hr;have hob:E.ob[r]? =some (E.ob[r]'(by rw[R.len];exact hl)):=YC _;exact⟨by simp only[YS,YA,hg,Option.map_some,List.getD,ho,Option.getD_some],by simp only[fpE,YA,hg,Option.map_some,List.getD,hob,Option.getD_some],by simp only[KI,hi,if_true,List.getD,hg,Option.getD_some]⟩
  refine⟨fun b o h=>ev.st b o h,fun id b cu ds k ho hkd hb=> ?_,fun id o sz rs ho hs=> ?_⟩
  ·by_cases hm:id∈ρ
   ·obtain⟨k1,k2,k3⟩:=fpat id _ hm ho;obtain⟨cu',ds',g1,gk,g2⟩:=ev.bl (Yb ρ id) b cu _ k k1 (by rw[Ob.ren_kd];exact hkd) (k2.trans hb);obtain⟨w1,w2⟩:=cal _ _ g1;rw[k3]at w1 w2;exact⟨cu',_,w1,by rw[Ob.ren_kd];exact gk,w2.trans g2⟩
   ·obtain⟨k1,k2⟩:=out id (Zf ho).1 hm;exact⟨cu,ds,k1.trans ho,hkd,k2.trans hb⟩
  ·by_cases hm:id∈ρ
   ·obtain⟨k1,k2,k3⟩:=fpat id _ hm ho;obtain⟨o',rs',g1,g2,g3⟩:=ev.rf (Yb ρ id) _ sz rs k1 (by rw[Ob.ren_sl];exact hs);obtain⟨w1,w2⟩:=cal _ _ g1;rw[k3]at w1 w2;refine⟨_,rs',w1,by rw[Ob.ren_sl];exact g2,?_⟩;rcases g3 with⟨g3,g4⟩|g3
    ·exact .inl ⟨g3,w2.trans (g4.trans k2)⟩
    ·exact .inr g3
   ·obtain⟨k1,k2⟩:=out id (Zf ho).1 hm;exact⟨o,rs,k1.trans ho,hs,.inl ⟨rfl,k2⟩⟩
 refine⟨⟨?_,fun j o p ho hp=> ?_,fun i j o o' p p' b h1 h2 h3 h4 h5 h6=> ?_,fun b off hs=>⟨(R1.stm b off hs).1,fun j o p ho hp hb=> ?_⟩,?_,fun j o p b ho hp hb=> ?_,fun b off hs=> ?_⟩,evo,fun d v hv=>hv.monoR evr (inP_true d)⟩
 ·rw[hlen];simp only[ZE7,Zr,hlE];simp[R1.len]
 ·rcases cls j o p ho hp with⟨k0,k1,k2⟩|⟨i,o',k1,k2,rfl,k4⟩
  ·refine(R.ok j o p k1 k2).mono evo (fun b hb=> ?_);exact hkept.block b ((R.ok j o p k1 k2).lt hb) (ZJJ R hlt k1 k2 k0 hb)
  ·exact(R1.ok i o' p k1 k2).monoR evr (fun _ _=>rfl) (Ob.inP_true o')
 ·have mixed: ∀(i:Nat) (o:Ob) (p:Nat×Value),i∉ρ→OS[i]? =some o→E.ob[i]? =some p→o.mb p b→ ∀(q:Nat) (o':Ob) (p':Nat×Value),os'[q]? =some o'→E1.ob[q]? =some p'→o'.mb p' b→False:=by
   intro i o p k0 k1 k2 hb q o' p' k3 k4 hb';rcases R1.mbs q o' p' b k3 k4 hb' with h|h
   ·exact ZJJ R hlt k1 k2 k0 hb h
   ·have:=(R.ok i o p k1 k2).lt hb;simp only at h;omega
  rcases cls i o p h1 h2 with⟨k0,k1,k2⟩|⟨q,o1,k1,k2,rfl,rfl⟩<;>rcases cls j o' p' h3 h4 with⟨g0,g1,g2⟩|⟨q',o2,g1,g2,rfl,rfl⟩
  ·exact R.dis i j o o' p p' b k1 k2 g1 g2 h5 h6
  ·rw[Ob.ren_mb]at h6;exact(mixed i o p k0 k1 k2 h5 q' o2 p' g1 g2 h6).elim
  ·rw[Ob.ren_mb]at h5;exact(mixed j o' p' g0 g1 g2 h6 q o1 p k1 k2 h5).elim
  ·rw[Ob.ren_mb]at h5 h6;rw[R1.dis q q' o1 o2 p p' b k1 k2 g1 g2 h5 h6]
 ·rcases cls j o p ho hp with⟨k0,k1,k2⟩|⟨i,o',k1,k2,rfl,k4⟩
  ·rcases R1.sto b off hs with h|h|h
   ·exact(R.stm b off h).2 j o p k1 k2 hb
   ·exact ZJJ R hlt k1 k2 k0 hb h
   ·have:=(R.ok j o p k1 k2).lt hb;simp only at h;omega
  ·rw[Ob.ren_mb]at hb;exact(R1.stm b off hs).2 i o' p k1 k2 hb
 ·exact R.kept.trans hkept (fun i hi=>(ZLB R hlt hi).1)
 ·rcases cls j o p ho hp with⟨k0,k1,k2⟩|⟨i,o',k1,k2,rfl,k4⟩
  ·exact R.mbs j o p b k1 k2 hb
  ·rw[Ob.ren_mb]at hb;rcases R1.mbs i o' p b k1 k2 hb with h|h
   ·exact(ZLB R hlt h).1
   ·have:=R.kept.size;simp only at h;exact .inr (by omega)
 ·rcases R1.sto b off hs with h|h|h
  ·exact R.sto b off h
  ·exact .inr (ZLB R hlt h).1
  ·have:=R.kept.size;simp only at h;exact .inr (.inr (by omega))
end
mutual
def ZHR:D→List Nat
 | .ref id _ _ _=> [id]
 | .ptr id _=> [id]
 | .eptr id _ _ _=> [id]
 | .agg ds=>JC ds
 | .tup ds=>JC ds
 | .fn _ caps=>JC caps
 | .opt _ d=>ZHR d
 | .x _=> []
 | .vptr _=> []
 | .mref id=> [id]
 | .mnil=> []
 | .iref mid id=> [mid,id]
 | .stk mid id=> [mid,id]
 | .bref id _ _=> [id]
 | .full _=> []
 | .nz _=> []
 | .und=> []
def JC:List D→List Nat
 | []=> []
 |d::l=>ZHR d++JC l
end
def ZBv:List Pr→List Nat
 | []=> []
 |p::l=>JC p.2++ZBv l
def ZJG:Ob→List Nat
 | .box ds=>JC ds
 | .mpo _ _ l=>ZBv l
 | .mit _ _ l it R _=>it::(ZBv l++ZBv R)
 | .mpn _ _ l _ sid=>sid::ZBv l
 |_=> []
def JL (OS:List Ob):Nat→List Nat→List Nat→List Nat
 |0,_,acc=>acc
 |_+1,[],acc=>acc
 |n+1,i::l,acc=>if YH i acc then JL OS n l acc else JL OS n (ZJG (OS.getD i .dead)++l) (acc++ [i])
def Qb:List Nat→Bool
 | []=>true
 |i::l=> !(YH i l)&&Qb l
theorem ZE8: ∀ {l:List Nat},Qb l=true→l.Nodup
 | [],_=>List.nodup_nil
 |i::l,h=>by
  simp only[Qb,ZY,Bool.not_eq_true']at h;refine List.nodup_cons.2 ⟨fun hm=> ?_,ZE8 h.2⟩;have:=Qt.2 hm;rw[h.1]at this;cases this
def Qc (ρ:List Nat) (args:List D) (OS:List Ob):Bool:=
 ρ.all (fun r=>decide (r<OS.length))&&(YY (fun i=>YH i ρ) args&&((ρ.all fun r=>(OS.getD r .dead).inP fun i=>YH i ρ)&&Qb ρ))
def YW (h:List D→List Ob→Option (Bool×D×List Ob)) (args:List D) (OS:List Ob):Option (Bool×D×List Ob):=
 if Qc (JL OS 64 (JC args) []) args OS=true then
  (h (Zy (Yb (JL OS 64 (JC args) [])) args) (YS (JL OS 64 (JC args) []) OS)).bind fun q=>
   if(JL OS 64 (JC args) []).length≤q.2.2.length then some (q.1,q.2.1.ren (KI (JL OS 64 (JC args) []) OS.length q.2.2.length),Kp (JL OS 64 (JC args) []) OS q.2.2)else none
 else none
section
variable {P:Program}
theorem ZN.lift {f:FuncId} {ρ:List Nat} {args:List D} {OS:List Ob} {Post:D→List Ob→Prop} (hok:Qc ρ args OS=true) (h:ZN P f (Zy (Yb ρ) args) (YS ρ OS) Post) (hl: ∀r os',Post r os'→ρ.length≤os'.length):
  ZN P f args OS (fun r' OS'=> ∃r os',Post r os'∧r'=r.ren (KI ρ OS.length os'.length)∧OS'=Kp ρ OS os'):=by
 simp only[Qc,ZY]at hok;obtain⟨h1,h2,h3,h4⟩:=hok;have hn:=ZE8 h4;have hlt: ∀r∈ρ,r<OS.length:=fun r hr=>by simpa using List.all_eq_true.1 h1 r hr
 have hcl: ∀r∈ρ,(OS.getD r .dead).inP (fun i=>YH i ρ)=true:=fun r hr=>List.all_eq_true.1 h3 r hr
 intro c E vs R hvl;have hvl':VL (fpE ρ E) (YS ρ OS) (Zy (Yb ρ) args) vs:=by
  refine⟨by rw[Jf];simpa using hvl.1,fun j d v hd hv=> ?_⟩;rw[Jf,YA]at hd;obtain⟨d0,h0,rfl⟩:=Zh hd;rw[QX]at h2;exact(hvl.2 j d0 v h0 hv).monoR (ZHp R hlt) (List.all_eq_true.1 h2 d0 (List.mem_of_getElem? h0))
 refine(h _ (fpE ρ E) vs (ZWr R hn hlt hcl) hvl').mono ?_;rintro e w' ⟨v,E1,r,os',rfl,rfl,R1,ev,hv,hp⟩;obtain⟨k1,k2,k3⟩:=ZbB R hn hlt R1 ev (hl r os' hp);exact⟨v,ZE7 ρ E E1,_,_,rfl,rfl,k1,k2,k3 r v hv,r,os',hp,rfl,rfl⟩
theorem ZV.lift {f:FuncId} {h:List D→List Ob→Option (Bool×D×List Ob)} (hh: ∀args os r os',h args os=some (true,r,os')→ZV P f args os r os'):
  ∀args OS r OS',YW h args OS=some (true,r,OS')→ZV P f args OS r OS':=by
 intro args OS r OS' hl;unfold YW at hl;split at hl
 ·rename_i hok;obtain⟨⟨b,r1,os'⟩,h1,h2⟩:=Zp hl;simp only at h2;split at h2
  ·rename_i hlen;simp only[Zg,Ze]at h2;obtain⟨rfl,rfl,rfl⟩:=h2;have hm:=hh _ _ _ _ h1;have hf:ZN P f (Zy (Yb (JL OS 64 (JC args) [])) args) (YS (JL OS 64 (JC args) []) OS) (fun r' os2=>r'=r1∧os2=os'):=by
    intro c E vs R hvl;refine(hm c E vs R hvl).mono ?_;rintro e w' ⟨v,E',rfl,rfl,R',ev,hv⟩;exact⟨v,E',_,_,rfl,rfl,R',ev,hv,rfl,rfl⟩
   refine ZN.mcalls (fun c E vs R hvl=>((ZN.lift hok hf (fun r os' ⟨_,h⟩=>by rw[h];exact hlen)) c E vs R hvl).mono ?_);rintro e w' ⟨v,E',r2,os2,rfl,rfl,R',ev,hv,r3,os3,⟨rfl,rfl⟩,rfl,rfl⟩;exact⟨v,E',_,_,rfl,rfl,R',ev,hv,rfl,rfl⟩
  ·cases h2
 ·cases hl
def ZW:Tabs:=⟨fun _ _=>none,fun _ _ _=>none,fun _ _ _=>none,fun _ _ _=>none⟩
theorem ZG:SsOk P ZW:=⟨fun _ _ _ h=>(by cases h),fun _ _ _ _ _ h=>(by cases h),fun _ _ _ _ h=>(by cases h),fun _ _ _ _ _ h=>(by cases h)⟩
def Za (S:Tabs) (f:FuncId) (g:List D→Option (Bool×D)):Tabs:=⟨fun f' args=>if f'=f then g args else S.q f' args,S.t,S.r,S.k⟩
def JT (S:Tabs) (f:FuncId) (h:List D→List Ob→Option (Bool×D×List Ob)):Tabs:=⟨S.q,fun f' args os=>if f'=f then YW h args os else S.t f' args os,S.r,S.k⟩
theorem ZL {S:Tabs} (hS:SsOk P S) {f:FuncId} {g:List D→Option (Bool×D)} (he:Enters P f) (hg: ∀args r,g args=some (true,r)→ZD P f args r):SsOk P (Za S f g):=by
 refine⟨fun f' args r h=> ?_,hS.t,hS.r,hS.k⟩;simp only[Za]at h;split at h
 ·rename_i hf;subst hf;exact⟨he,hg args r h⟩
 ·exact hS.q f' args r h
theorem Ye {S:Tabs} (hS:SsOk P S) {f:FuncId} {h:List D→List Ob→Option (Bool×D×List Ob)} (he:Enters P f) (hh: ∀args os r os',h args os=some (true,r,os')→ZV P f args os r os'):SsOk P (JT S f h):=by
 refine⟨hS.q,fun f' args os r os' hr=> ?_,hS.r,hS.k⟩;simp only[JT]at hr;split at hr
 ·rename_i hf;subst hf;exact⟨he,ZV.lift hh args os r os' hr⟩
 ·exact hS.t f' args os r os' hr
end
theorem D.ren_ren {F g:Nat→Nat} {p:Nat→Bool} (h: ∀i,p i=true→F (g i)=i) (d:D):d.inP p=true→(d.ren g).ren F=d:=by
 refine D.rec (motive_1:=fun d=>d.inP p=true→(d.ren g).ren F=d) (motive_2:=fun l=>YY p l=true→Zy F (Zy g l)=l) ?_ ?_ ?_ ?_ ?_ ?_ ?_ ?_ ?_ ?_ ?_ ?_ ?_ ?_ ?_ ?_ ?_ ?_ ?_ d
 all_goals intros
 all_goals first|rfl|(simp only[D.inP,YY,D.ren,Zy,ZY]at*;simp_all)
theorem ZGU {F g:Nat→Nat} {p:Nat→Bool} (h: ∀i,p i=true→F (g i)=i) (l:List D) (hl:YY p l=true):Zy F (Zy g l)=l:=by
 induction l with
 |nil=>rfl
 |cons d l ih=>
  simp only[YY,ZY]at hl;simp only[Zy,D.ren_ren h d hl.1,ih hl.2]
theorem ZOB {F g:Nat→Nat} {p:Nat→Bool} (h: ∀i,p i=true→F (g i)=i) (q:Pr) (hp:Qj p q=true):Yt F (Yt g q)=q:=by
 simp only[Yt,ZGU h q.2 hp]
theorem ZGF {F g:Nat→Nat} {p:Nat→Bool} (h: ∀i,p i=true→F (g i)=i) (l:List Pr) (hp:l.all (Qj p)=true):(l.map (Yt g)).map (Yt F)=l:=by
 rw[List.map_map]
 conv=>rhs;rw[←List.map_id l]
 exact List.map_congr_left fun q hq=>ZOB h q (List.all_eq_true.1 hp q hq)
theorem Ob.ren_ren {F g:Nat→Nat} {p:Nat→Bool} (h: ∀i,p i=true→F (g i)=i) (o:Ob) (hp:o.inP p=true):(o.ren g).ren F=o:=by
 cases o with
 |box ds=>simp only[Ob.ren,ZGU h ds hp]
 |drw e sz rs=>
  have e1:(rs.map (Zy g)).map (Zy F)=rs:=by
   rw[List.map_map]
   conv=>rhs;rw[←List.map_id rs]
   exact List.map_congr_left fun r hr=>ZGU h r (List.all_eq_true.1 hp r hr)
  simp only[Ob.ren,e1]
 |mpo dk ag l=>simp only[Ob.ren,ZGF h l hp]
 |mit dk ag l it R cur=>
  simp only[Ob.inP,ZY]at hp;have hc:(cur.map (Yt g)).map (Yt F)=cur:=by
   cases cur with
   |none=>rfl
   |some q=>simp only[Option.map_some,ZOB h q hp.2.2.2]
  simp only[Ob.ren,ZGF h l hp.1,ZGF h R hp.2.2.1,hc,h it hp.2.1]
 |mpn dk ag l key sid=>
  simp only[Ob.inP,ZY]at hp;simp only[Ob.ren,ZGF h l hp.1,h sid hp.2]
 |_=>rfl
theorem D.ren_comp {f g:Nat→Nat} (d:D):(d.ren g).ren f=d.ren (fun i=>f (g i)):=by
 refine D.rec (motive_1:=fun d=>(d.ren g).ren f=d.ren (fun i=>f (g i))) (motive_2:=fun l=>Zy f (Zy g l)=Zy (fun i=>f (g i)) l) ?_ ?_ ?_ ?_ ?_ ?_ ?_ ?_ ?_ ?_ ?_ ?_ ?_ ?_ ?_ ?_ ?_ ?_ ?_ d
 all_goals intros
 all_goals first|rfl|(simp only[D.ren,Zy]at*;simp_all)
theorem D.ren_congr {f g:Nat→Nat} {p:Nat→Bool} (h: ∀i,p i=true→f i=g i) (d:D):d.inP p=true→d.ren f=d.ren g:=by
 refine D.rec (motive_1:=fun d=>d.inP p=true→d.ren f=d.ren g) (motive_2:=fun l=>YY p l=true→Zy f l=Zy g l) ?_ ?_ ?_ ?_ ?_ ?_ ?_ ?_ ?_ ?_ ?_ ?_ ?_ ?_ ?_ ?_ ?_ ?_ ?_ d
 all_goals intros
 all_goals first|rfl|(simp only[D.inP,YY,D.ren,Zy,ZY]at*;simp_all)
theorem V.cut {E0 E1 E2:Env} {OS X:List Ob} (hw:E2.w=E1.w) (hs:E2.st=E1.st) (hob: ∀i,i<OS.length→E2.ob[i]? =E1.ob[i]?) {d:D} {v0:Value} (h:V E0 OS d v0): ∀ {v:Value},V E1 (OS++X) d v→V E2 OS d v:=by
 have hst: ∀b o,E1.st b o→E2.st b o∧E2.w.cell? ⟨b,o,none⟩=E1.w.cell? ⟨b,o,none⟩:=fun b o h=>⟨by rw[hs];exact h,by rw[hw]⟩
 have sl: ∀ {id:Nat} {o0:Ob},OS[id]? =some o0→ ∀ {o:Ob},(OS++X)[id]? =some o→OS[id]? =some o∧id<OS.length:=by
  intro id o0 h0 o h1;have hl:=(Zf h0).1;rw[Yr hl]at h1;exact⟨h1,hl⟩
 have lst: ∀ {ds:List D} {vs0 vs:Array Value},ds.length=vs0.size→(∀(j:Nat) (d:D) (v:Value),ds[j]? =some d→vs0[j]? =some v→ ∀ {v:Value},V E1 (OS++X) d v→V E2 OS d v)→(∀(j:Nat) (d:D) (v:Value),ds[j]? =some d→vs[j]? =some v→V E1 (OS++X) d v)→ ∀(j:Nat) (d:D) (v:Value),ds[j]? =some d→vs[j]? =some v→V E2 OS d v:=by
  intro ds vs0 vs hl ih hv j d v hd hv';have hj:=(Zf hd).1;exact ih j d _ hd (Array.getElem?_eq_getElem (by omega)) (hv j d v hd hv')
 induction h with
 |x h=>intro v h2;exact .x (h2.xx.mono hst)
 |ref h h1=>
  intro v h2;obtain⟨o,sz,rs,g1,g2,g3⟩:=h;cases h2 with
  |ref hr h3=>
   obtain⟨o',sz',rs',k1,k2,k3,k4⟩:=hr;obtain⟨w1,w2⟩:=sl g1 k1;refine .ref ⟨o',sz',rs',w1,k2,k3,fun hl=> ?_⟩ h3;obtain⟨h5,b,a,cap,a',cap',h6,h7⟩:=k4 hl;exact⟨h5,b,a,cap,a',cap',(hob _ w2).trans h6,h7⟩
 |ptr ho h=>
  intro v h2;cases h2 with
  |ptr ho2 hb2=>
   obtain⟨w1,w2⟩:=sl ho ho2;exact .ptr w1 ((hob _ w2).trans hb2)
 |eptr h h1=>
  intro v h2;obtain⟨o,sz,rs,g1,g2,g3⟩:=h;cases h2 with
  |eptr hr h3=>
   obtain⟨o',sz',rs',k1,k2,k3,k4⟩:=hr;obtain⟨w1,w2⟩:=sl g1 k1;refine .eptr ⟨o',sz',rs',w1,k2,k3,fun hl=> ?_⟩ h3;obtain⟨h5,b,g,cap,h6,h7⟩:=k4 hl;exact⟨h5,b,g,cap,(hob _ w2).trans h6,h7⟩
 |mref ho hk h=>
  intro v h2;cases h2 with
  |mref ho2 hk2 hb2=>
   obtain⟨w1,w2⟩:=sl ho ho2;exact .mref w1 hk2 ((hob _ w2).trans hb2)
 |mnil=>intro v h2;cases h2;exact .mnil
 |iref ho hk h=>
  intro v h2;cases h2 with
  |iref ho2 hk2 hb2=>
   obtain⟨w1,w2⟩:=sl ho ho2;exact .iref w1 hk2 ((hob _ w2).trans hb2)
 |stk ho hk h=>
  intro v h2;cases h2 with
  |stk ho2 hk2 hb2=>
   obtain⟨w1,w2⟩:=sl ho ho2;exact .stk w1 hk2 ((hob _ w2).trans hb2)
 |bref ho h hm=>
  intro v h2;cases h2 with
  |bref ho2 hb2 hm2=>
   obtain⟨w1,w2⟩:=sl ho ho2;exact .bref w1 ((hob _ w2).trans hb2) hm2
 |vptr b off val hc hv=>
  intro v h2;cases h2 with
  |vptr b off val hc hv=>exact .vptr b off val (fun j x hj=>⟨(hst _ _ (hc j x hj).1).1,by rw[(hst _ _ (hc j x hj).1).2];exact(hc j x hj).2⟩) (fun j x hj=>(hv j x hj).mono hst)
 |agg vs hl h1 _ ih=>
  intro v h2;cases h2 with
  |agg vs' hl' h1' hv'=>exact .agg vs' hl' h1' (lst hl ih hv')
 |tup vs hl _ ih=>
  intro v h2;cases h2 with
  |tup vs' hl' hv'=>exact .tup vs' hl' (lst hl ih hv')
 |full n h=>
  intro v h2;cases h2 with
  |full n h=>exact .full n (h.mono hst)
 |nz h=>
  intro v h2;cases h2 with
  |nz h=>exact .nz (h.mono hst)
 |fn vs hl _ ih=>
  intro v h2;cases h2 with
  |fn vs' hl' hv'=>exact .fn vs' hl' (lst hl ih hv')
 |opt _ h' ih=>
  intro v h2;cases h2 with
  |opt g g'=>exact .opt (fun hb=>ih hb (g hb)) g'
 |und v=>intro v h2;exact .und v
theorem VC.cut {E0 E1 E2:Env} {OS X:List Ob} (hw:E2.w=E1.w) (hs:E2.st=E1.st) (hob: ∀i,i<OS.length→E2.ob[i]? =E1.ob[i]?) {ag:Bool} {ds:List D} {v0 v:Value} (h0:VC E0 OS ag ds v0) (h:VC E1 (OS++X) ag ds v):VC E2 OS ag ds v:=by
 refine⟨h.1,h.2.1,fun j d u hd hu=>⟨?_,(h.2.2 j d u hd hu).2⟩⟩;have hj:j<v0.cells.size:=by rw[h0.2.1];exact(Zf hd).1
 exact V.cut (X:=X) hw hs hob (h0.2.2 j d _ hd (Array.getElem?_eq_getElem hj)).1 (h.2.2 j d u hd hu).1
theorem Zz.cut {E0 E1 E2:Env} {OS X:List Ob} (hw:E2.w=E1.w) (hs:E2.st=E1.st) (hob: ∀i,i<OS.length→E2.ob[i]? =E1.ob[i]?) {b0 b:Nat} {dk:KK} {ag:Bool} {l:List Pr} (h0:Zz E0 OS b0 dk ag l) (h:Zz E1 (OS++X) b dk ag l):Zz E2 OS b dk ag l:=by
 have key: ∀ {κ:Type} [DecidableEq κ] {mk:κ→Value} {kx:κ→List Go.Ab.X},Qr mk kx E0 OS b0 ag l→Qr mk kx E1 (OS++X) b ag l→Qr mk kx E2 OS b ag l:=by
  intro κ _ mk kx ⟨l0,h1,h2,h3⟩ ⟨l',k1,k2,k3⟩;refine⟨l',by rw[hw];exact k1,k2,fun i a q ha hq=> ?_⟩;have hi:i<l0.length:=by rw[h2];exact(Zf hq).1
  exact⟨(k3 i a q ha hq).1,VC.cut hw hs hob (h3 i _ q (YC hi) hq).2 (k3 i a q ha hq).2⟩
 cases dk with
 |int k=>exact key h0 h
 |str=>exact key h0 h
 |st _ _=>exact h.elim
theorem Rel.cut {c:Ctx} {E0 E1:Env} {OS X:List Ob} {c0:Ctx} (R0:Rel c0 E0 OS) (R:Rel c E1 (OS++X)) (ev:Evo E0 OS E1 (OS++X)):
  Rel c ⟨E1.w,E1.st,E1.ob.take OS.length⟩ OS∧Evo E0 OS ⟨E1.w,E1.st,E1.ob.take OS.length⟩ OS:=by
 have hob: ∀i,i<OS.length→(E1.ob.take OS.length)[i]? =E1.ob[i]? :=fun i hi=>by rw[List.getElem?_take,if_pos hi]
 have up: ∀i o,OS[i]? =some o→(OS++X)[i]? =some o:=fun i o h=>by rw[Yr (Zf h).1];exact h
 have lt: ∀i o,OS[i]? =some o→i<OS.length:=fun i o h=>(Zf h).1
 refine⟨⟨by simp[R.len],fun i o p h1 h2=> ?_,fun i j o o' p p' b h1 h2 h3 h4 h5 h6=> ?_,fun b off hs=>⟨(R.stm b off hs).1,fun i o p h1 h2 h3=> ?_⟩,R.kept,fun i o p b h1 h2 h3=> ?_,R.sto⟩,⟨ev.st,fun id b cu ds k ho hkd hb=> ?_,fun id o sz rs ho hs=> ?_⟩⟩
 ·have h2':E1.ob[i]? =some p:=by rw[←hob i (lt i o h1)];exact h2
  have hok:=R.ok i o p (up i o h1) h2';obtain⟨p0,hp0,hok0⟩:=R0.at h1;cases o with
  |box ds=>
   obtain⟨cs,ty,g1,g2,g3⟩:=hok;obtain⟨cs0,ty0,k1,k2,k3⟩:=hok0;refine⟨cs,ty,g1,g2,fun j d v hd hv=>⟨?_,(g3 j d v hd hv).2⟩⟩;have hj:=(Zf hd).1;exact V.cut (E1:=E1) (E2:=⟨E1.w,E1.st,E1.ob.take OS.length⟩) (X:=X) rfl rfl hob (k3 j d _ hd (Array.getElem?_eq_getElem (by omega))).1 (g3 j d v hd hv).1
  |rows fz el sz rs=>exact hok
  |drw el sz rs=>
   obtain⟨xs,g1,g2,g3⟩:=hok;obtain⟨xs0,k1,k2,k3⟩:=hok0;refine⟨xs,g1,g2,fun i r j d v hr hd hv=>⟨?_,(g3 i r j d v hr hd hv).2⟩⟩;have hj:i*sz+j<xs0.length:=by
    have:=(Zf hv).1;rw[g1.1]at this;rw[k1.1];exact this
   exact V.cut (E1:=E1) (E2:=⟨E1.w,E1.st,E1.ob.take OS.length⟩) (X:=X) rfl rfl hob (k3 i r j d _ hr hd (YC hj)).1 (g3 i r j d v hr hd hv).1
  |frz sz rs=>exact hok
  |mpo dk ag l=>exact Zz.cut (E1:=E1) (E2:=⟨E1.w,E1.st,E1.ob.take OS.length⟩) (X:=X) rfl rfl hob hok0 hok
  |mit dk ag l it R cur=>
   refine⟨Zz.cut (E1:=E1) (E2:=⟨E1.w,E1.st,E1.ob.take OS.length⟩) (X:=X) rfl rfl hob hok0.1 hok.1,?_⟩;obtain⟨_,ib,cu,es,clk,since,seen,c0,o,k1,k2,k3,k4,k5,k6,k7,k8,k9,k10,k11⟩:=hok;obtain⟨_,ib0,cu0,es0,clk0,since0,seen0,c00,o0,l1,l2,l3,l4,l5,l6,l7,l8,l9,l10,l11⟩:=hok0;have hit:=(Zf l2).1;refine⟨ib,cu,es,clk,since,seen,c0,o0,k1,l2,l3,(hob _ hit).trans k4,k5,k6,k7,k8,k9,⟨k10.1,fun i x q hx hq=> ?_⟩,fun q hq=> ?_⟩
   ·have hl0:i<(leftOf es0 seen0).toList.length:=by rw[l10.1];exact(Zf hq).1
    obtain⟨m1,m2⟩:=k10.2 i x q hx hq;exact⟨m1,VC.cut (E1:=E1) (E2:=⟨E1.w,E1.st,E1.ob.take OS.length⟩) (X:=X) rfl rfl hob (l10.2 i _ q (YC hl0) hq).2 m2⟩
   ·obtain⟨g1,s',x,g2,g3,g4⟩:=k11 q hq;obtain⟨_,_,x0,_,_,e4⟩:=l11 q hq;exact⟨g1,s',x,g2,g3,g4.1,VC.cut (E1:=E1) (E2:=⟨E1.w,E1.st,E1.ob.take OS.length⟩) (X:=X) rfl rfl hob e4.2 g4.2⟩
  |mpn dk ag l key sid=>
   refine⟨Zz.cut (E1:=E1) (E2:=⟨E1.w,E1.st,E1.ob.take OS.length⟩) (X:=X) rfl rfl hob hok0.1 hok.1,?_⟩;obtain⟨_,n,cu,o,es,clk,x,k1,k2,k3,k4⟩:=hok;obtain⟨_,n0,cu0,o0,es0,clk0,x0,l1,l2,l3,l4⟩:=hok0;have hit:=(Zf l1).1;exact⟨n,cu,o0,es,clk,x,l1,l2,(hob _ hit).trans k3,k4⟩
  |sit s pos=>exact hok
  |nit=>exact hok
  |itr=>trivial
  |stp=>trivial
  |dead=>trivial
 ·rw[hob i (lt i o h1)]at h2;rw[hob j (lt j o' h3)]at h4;exact R.dis i j o o' p p' b (up i o h1) h2 (up j o' h3) h4 h5 h6
 ·rw[hob i (lt i o h1)]at h2;exact(R.stm b off hs).2 i o p (up i o h1) h2 h3
 ·rw[hob i (lt i o h1)]at h2;exact R.mbs i o p b (up i o h1) h2 h3
 ·obtain⟨cu',ds',g1,gk,g2⟩:=ev.bl id b cu ds k ho hkd hb;rw[Yr (lt id _ ho)]at g1;exact⟨cu',ds',g1,gk,(hob id (lt id _ ho)).trans g2⟩
 ·obtain⟨o',rs',g1,g2,g3⟩:=ev.rf id o sz rs ho hs;rw[Yr (lt id _ ho)]at g1;refine⟨o',rs',g1,g2,?_⟩;rcases g3 with⟨g3,g4⟩|g3
  ·exact .inl ⟨g3,(hob id (lt id _ ho)).trans g4⟩
  ·exact .inr g3
theorem ZFC: ∀(ρ:List Nat) (os OS:List Ob),(∀(i r:Nat),ρ[i]? =some r→ ∀o:Ob,os[i]? =some o→OS[r]? =some o)→KS OS ρ os=OS
 | [],os,OS,_=>by cases os<;>rfl
 |r::ρ,[],OS,_=>rfl
 |r::ρ,o::os,OS,h=>by
  have h0:=h 0 r rfl o rfl;have hs:OS.set r o=OS:=by
   apply List.ext_getElem?;intro j;rw[List.getElem?_set];split
   ·rename_i hj;subst hj;rw[h0,if_pos (Zf h0).1]
   ·rfl
  simp only[KS,hs];exact ZFC ρ os OS (fun i r hi o ho=>h (i+1) r (by simpa using hi) o (by simpa using ho))
theorem ZMF {F:Nat→Nat} {d:D} (h:d.plain=true):d.ren F=d:=by
 cases d with
 |agg ds=>
  have: ∀l:List D,l.all D.isX=true→Zy F l=l:=by
   intro l
   induction l with
   |nil=>intro _;rfl
   |cons d l ih=>
    intro hl;simp only[List.all_cons,ZY]at hl;simp only[Zy,ih hl.2];cases d with
    |x y=>rfl
    |_=>exact absurd hl.1 (by simp[D.isX])
  simp only[D.ren,this ds h]
 |fn g caps=>
  cases caps with
  |nil=>rfl
  |cons=>exact absurd h (by simp[D.plain])
 |x y=>rfl
 |_=>exact absurd h (by simp[D.plain])
theorem ZXX {F:Nat→Nat} {d:D} (h:d.clean=true):d.ren F=d:=by
 cases d with
 |tup ds=>
  have: ∀l:List D,l.all D.plain=true→Zy F l=l:=by
   intro l
   induction l with
   |nil=>intro _;rfl
   |cons d l ih=>
    intro hl;simp only[List.all_cons,ZY]at hl;simp only[Zy,ih hl.2,ZMF hl.1]
  simp only[D.ren,this ds h]
 |_=>exact ZMF h
theorem ZEJ.of {P:Program} {f:FuncId} {ρ:List Nat} {args:List D} {os X:List Ob} {r:D} (hok:Qc ρ args os=true) (h:ZV P f (Zy (Yb ρ) args) (YS ρ os) r (YS ρ os++X)) (hr:r.clean=true):ZEJ P f args os r:=by
 intro Y c E vs R hvl;have hok0:=hok;simp only[Qc,ZY]at hok;obtain⟨h1,h2,h3,h4⟩:=hok;have hlt: ∀r∈ρ,r<os.length:=fun r hr=>by simpa using List.all_eq_true.1 h1 r hr
 have hgd: ∀r∈ρ,(os++Y).getD r .dead=os.getD r .dead:=fun r hr=>by simp[List.getD,Yr (hlt r hr)]
 have hfp:YS ρ (os++Y)=YS ρ os:=List.map_congr_left (fun r hr=>by rw[hgd r hr]);have hok':Qc ρ args (os++Y)=true:=by
  simp only[Qc,ZY];refine⟨List.all_eq_true.2 (fun r hr=>by have:=hlt r hr;simp;omega),h2,List.all_eq_true.2 (fun r hr=>by rw[hgd r hr];exact List.all_eq_true.1 h3 r hr),h4⟩
 have hf:ZN P f (Zy (Yb ρ) args) (YS ρ (os++Y)) (fun r' os2=>r'=r∧os2=YS ρ os++X):=by
  intro c E vs R hvl;rw[hfp]at R hvl;refine(h c E vs R hvl).mono ?_;rintro e w' ⟨v,E',rfl,rfl,R',ev,hv⟩;exact⟨v,E',_,_,rfl,rfl,R',by rw[hfp];exact ev,hv,rfl,rfl⟩
 refine((ZN.lift hok' hf (fun r os' ⟨_,h⟩=>by rw[h];simp[YS])) c E vs R hvl).mono ?_;rintro e w' ⟨v,E',r2,os2,rfl,rfl,R',ev,hv,r3,os3,⟨rfl,rfl⟩,rfl,rfl⟩;rw[ZXX hr]at hv;have hsame: ∃X',Kp ρ (os++Y) (YS ρ os++X)=(os++Y)++X':=by
  refine⟨((YS ρ os++X).map (Ob.ren (KI ρ (os++Y).length (YS ρ os++X).length))).drop ρ.length,?_⟩;unfold Kp;rw[ZFC];intro i r hi o ho;rw[List.map_append,Yr (by simp[YS];exact(Zf hi).1)]at ho;simp only[YS,List.map_map,YA,hi,Option.map_some,Zg,Function.comp]at ho;have hm:=List.mem_of_getElem? hi;have hl:=hlt r hm;have hr':os[r]? =some (os[r]'hl):=YC _;rw[Yr hl,hr',←ho];simp only[List.getD,hr',Option.getD_some];have hin:=List.all_eq_true.1 h3 r hm;simp only[List.getD,hr',Option.getD_some]at hin;rw[Ob.ren_ren (p:=fun i=>YH i ρ) (fun i hi=> ?_) _ hin];have hg:=ZDf (Qt.1 hi);simp only[KI,(Zf hg).1,if_true,List.getD,hg,Option.getD_some]
 obtain⟨X',hX⟩:=hsame;rw[hX]at R' ev;obtain⟨R2,e2⟩:=R.cut R' ev;exact⟨v,⟨E'.w,E'.st,E'.ob.take (os++Y).length⟩,rfl,rfl,R2,e2,hv.ofClean hr (fun x v hx=>hx)⟩
theorem Rel.move {c c0:Ctx} {E0 E1:Env} {OS:List Ob} {ob:Ob} {id:Nat} (R0:Rel c0 E0 OS) (hd:OS[id]? =some .dead) (hrow: ∃fz e sz rs,ob= .rows fz e sz rs) (R:Rel c E1 (OS++ [ob])) (ev:Evo E0 OS E1 (OS++ [ob])):
  ∃E2,E2.w=E1.w∧Rel c E2 (OS.set id ob)∧Evo E0 OS E2 (OS.set id ob)∧ ∀d v,V E1 (OS++ [ob]) d v→V E2 (OS.set id ob) (d.ren fun i=>if i=OS.length then id else i) v:=by
 obtain⟨Rc,ec⟩:=R0.cut R ev;have hidl:id<OS.length:=(Zf hd).1;have hlen:E1.ob.length=OS.length+1:=by rw[R.len];simp
 have hp:E1.ob[OS.length]? =some (E1.ob[OS.length]'(by omega)):=YC _;generalize E1.ob[OS.length]'(by omega)=p at hp;have htk: ∀i,i<OS.length→(E1.ob.take OS.length)[i]? =E1.ob[i]? :=fun i hi=>by rw[List.getElem?_take,if_pos hi]
 have goS: ∀j,j≠id→(OS.set id ob)[j]? =OS[j]? :=fun j hj=>List.getElem?_set_ne (fun e=>hj e.symm)
 have goE: ∀j,j≠id→((E1.ob.take OS.length).set id p)[j]? =(E1.ob.take OS.length)[j]? :=fun j hj=>List.getElem?_set_ne (fun e=>hj e.symm)
 have atS:(OS.set id ob)[id]? =some ob:=List.getElem?_set_self hidl;have atE:((E1.ob.take OS.length).set id p)[id]? =some p:=List.getElem?_set_self (by simp[hlen];omega);have up: ∀(i:Nat) (o:Ob),OS[i]? =some o→(OS++ [ob])[i]? =some o:=fun i o h=>by rw[Yr (Zf h).1];exact h
 have upn:(OS++ [ob])[OS.length]? =some ob:=by simp
 let E2:Env:=⟨E1.w,E1.st,(E1.ob.take OS.length).set id p⟩
 have e2:Evo ⟨E1.w,E1.st,E1.ob.take OS.length⟩ OS E2 (OS.set id ob):=by
  refine⟨fun b o h=>⟨h,rfl⟩,fun i b cu ds k ho hkd hb=> ?_,fun i o sz rs ho hs=> ?_⟩
  ·have hi:i≠id:=fun e=>by subst e;rw[hd]at ho;cases ho;simp[Ob.kd]at hkd
   exact⟨cu,ds,(goS i hi).trans ho,hkd,(goE i hi).trans hb⟩
  ·have hi:i≠id:=fun e=>by subst e;rw[hd]at ho;cases ho;cases hs
   exact⟨o,rs,(goS i hi).trans ho,hs,.inl ⟨rfl,goE i hi⟩⟩
 have at': ∀(j:Nat) (o:Ob) (q:Nat×Value),(OS.set id ob)[j]? =some o→E2.ob[j]? =some q→(OS++ [ob])[if j=id then OS.length else j]? =some o∧E1.ob[if j=id then OS.length else j]? =some q∧(j≠id→OS[j]? =some o∧(E1.ob.take OS.length)[j]? =some q)∧j<OS.length:=by
  intro j o q ho hq;have hjl:j<OS.length:=by have:=(Zf ho).1;simpa using this
  by_cases hj:j=id
  ·subst hj;rw[atS]at ho;cases ho;have:E2.ob[j]? =some p:=atE;rw[this]at hq;cases hq;exact⟨by rw[if_pos rfl];exact upn,by rw[if_pos rfl];exact hp,fun h=>absurd rfl h,hjl⟩
  ·rw[goS j hj]at ho;have hq':(E1.ob.take OS.length)[j]? =some q:=by rw[←goE j hj];exact hq
   rw[if_neg hj];exact⟨up j o ho,by rw[←htk j hjl];exact hq',fun _=>⟨ho,hq'⟩,hjl⟩
 have evr:EvoR (fun i=>if i=OS.length then id else i) (fun _=>true) E1 (OS++ [ob]) E2 (OS.set id ob):=by
  refine⟨fun b o h=>⟨h,rfl⟩,fun i b cu ds k _ ho hkd hb=> ?_,fun i o sz rs _ ho hs=> ?_⟩
  ·have hil:i<OS.length:=by
    rcases Nat.lt_or_ge i OS.length with h|h
    ·exact h
    ·exfalso;have:=(Zf ho).1;simp at this;have:i=OS.length:=by omega
     subst this;rw[upn]at ho;obtain⟨fz,e,sz,rs,rfl⟩:=hrow;cases ho;simp[Ob.kd]at hkd
   have hne:i≠OS.length:=by omega
   rw[Yr hil]at ho;have hi:i≠id:=fun e=>by subst e;rw[hd]at ho;cases ho;simp[Ob.kd]at hkd
   rw[if_neg hne];exact⟨cu,ds,(goS i hi).trans ho,hkd,(goE i hi).trans ((htk i hil).trans hb)⟩
  ·by_cases hn:i=OS.length
   ·subst hn;rw[if_pos rfl];rw[upn]at ho;cases ho;exact⟨ob,rs,atS,hs,.inl ⟨rfl,by rw[hp];exact atE⟩⟩
   ·have hil:i<OS.length:=by
     have:=(Zf ho).1;simp at this;omega
    rw[Yr hil]at ho;have hi:i≠id:=fun e=>by subst e;rw[hd]at ho;cases ho;cases hs
    rw[if_neg hn];exact⟨o,rs,(goS i hi).trans ho,hs,.inl ⟨rfl,(goE i hi).trans (htk i hil)⟩⟩
 refine⟨E2,rfl,⟨by simp[E2,hlen],fun j o q h1 h2=> ?_,fun i j o o' q q' b h1 h2 h3 h4 h5 h6=> ?_,fun b off hs=>⟨(R.stm b off hs).1,fun j o q h1 h2 h3=> ?_⟩,R.kept,fun j o q b h1 h2 h3=> ?_,R.sto⟩,ec.trans e2,fun d v hv=>hv.monoR evr (inP_true d)⟩
 ·obtain⟨k1,k2,k3,k4⟩:=at' j o q h1 h2;by_cases hj:j=id
  ·subst hj;rw[if_pos rfl]at k1 k2;have hok:=R.ok _ o q k1 k2;rw[atS]at h1;cases h1;obtain⟨fz,e,sz,rs,rfl⟩:=hrow;exact hok
  ·obtain⟨g1,g2⟩:=k3 hj;exact(Rc.ok j o q g1 g2).mono e2 (fun _ _=>rfl)
 ·obtain⟨k1,k2,_,k4⟩:=at' i o q h1 h2;obtain⟨g1,g2,_,g4⟩:=at' j o' q' h3 h4;have:=R.dis _ _ o o' q q' b k1 k2 g1 g2 h5 h6;by_cases hi:i=id<;>by_cases hj:j=id
  ·omega
  ·rw[if_pos hi,if_neg hj]at this;omega
  ·rw[if_neg hi,if_pos hj]at this;omega
  ·rw[if_neg hi,if_neg hj]at this;exact this
 ·obtain⟨k1,k2,_,_⟩:=at' j o q h1 h2;exact(R.stm b off hs).2 _ o q k1 k2 h3
 ·obtain⟨k1,k2,_,_⟩:=at' j o q h1 h2;exact R.mbs _ o q b k1 k2 h3
theorem ZID.of {P:Program} {f:FuncId} {ρ:List Nat} {args:List D} {os:List Ob} {ob:Ob} {r:D} (hok:Qc ρ args os=true) (hrow: ∃fz e sz rs,ob= .rows fz e sz rs) (hr:r.inP (fun i=>Nat.ble i ρ.length)=true) (h:ZV P f (Zy (Yb ρ) args) (YS ρ os) r (YS ρ os++ [ob])):
  ZID P f args os (fun id=>r.ren fun i=>if i<ρ.length then ρ.getD i 0 else id) ob:=by
 intro Y id c E vs hd R hvl;have hok0:=hok;simp only[Qc,ZY]at hok;obtain⟨h1,h2,h3,h4⟩:=hok;have hlt: ∀r∈ρ,r<os.length:=fun r hr=>by simpa using List.all_eq_true.1 h1 r hr
 have hgd: ∀r∈ρ,(os++Y).getD r .dead=os.getD r .dead:=fun r hr=>by simp[List.getD,Yr (hlt r hr)]
 have hfp:YS ρ (os++Y)=YS ρ os:=List.map_congr_left (fun r hr=>by rw[hgd r hr]);have hok':Qc ρ args (os++Y)=true:=by
  simp only[Qc,ZY];refine⟨List.all_eq_true.2 (fun r hr=>by have:=hlt r hr;simp;omega),h2,List.all_eq_true.2 (fun r hr=>by rw[hgd r hr];exact List.all_eq_true.1 h3 r hr),h4⟩
 have hf:ZN P f (Zy (Yb ρ) args) (YS ρ (os++Y)) (fun r' os2=>r'=r∧os2=YS ρ os++ [ob]):=by
  intro c E vs R hvl;rw[hfp]at R hvl;refine(h c E vs R hvl).mono ?_;rintro e w' ⟨v,E',rfl,rfl,R',ev,hv⟩;exact⟨v,E',_,_,rfl,rfl,R',by rw[hfp];exact ev,hv,rfl,rfl⟩
 refine((ZN.lift hok' hf (fun r os' ⟨_,h⟩=>by rw[h];simp[YS])) c E vs R hvl).mono ?_;rintro e w' ⟨v,E',r2,os2,rfl,rfl,R',ev,hv,r3,os3,⟨rfl,rfl⟩,rfl,rfl⟩;have hsame:Kp ρ (os++Y) (YS ρ os++ [ob])=(os++Y)++ [ob]:=by
  unfold Kp;rw[ZFC]
  ·congr 1;have hl:((YS ρ os).map (Ob.ren (KI ρ (os++Y).length (YS ρ os++ [ob]).length))).length=ρ.length:=by simp[YS]
   rw[List.map_append,←hl,List.drop_left];obtain⟨fz,e,sz,rs,rfl⟩:=hrow;rfl
  intro i r hi o ho;rw[List.map_append,Yr (by simp[YS];exact(Zf hi).1)]at ho;simp only[YS,List.map_map,YA,hi,Option.map_some,Zg,Function.comp]at ho;have hm:=List.mem_of_getElem? hi;have hl:=hlt r hm;have hr':os[r]? =some (os[r]'hl):=YC _;rw[Yr hl,hr',←ho];simp only[List.getD,hr',Option.getD_some];have hin:=List.all_eq_true.1 h3 r hm;simp only[List.getD,hr',Option.getD_some]at hin;rw[Ob.ren_ren (p:=fun i=>YH i ρ) (fun i hi=> ?_) _ hin];have hg:=ZDf (Qt.1 hi);simp only[KI,(Zf hg).1,if_true,List.getD,hg,Option.getD_some]
 rw[hsame]at R' ev hv;obtain⟨E2,q1,q2,q3,q4⟩:=R.move hd hrow R' ev;refine⟨v,E2,rfl,q1,q2,q3,?_⟩;have:=q4 _ v hv;rw[D.ren_comp]at this;have hfun:(fun i=>(fun i=>if i=(os++Y).length then id else i) (KI ρ (os++Y).length (YS ρ os++ [ob]).length i))=fun i=>if i<ρ.length then ρ.getD i 0 else(if i=ρ.length then id else(os++Y).length+(i-ρ.length)):=by
  funext i;simp only[KI];by_cases hi:i<ρ.length
  ·have hr:ρ[i]? =some (ρ[i]'hi):=YC hi;have hrl:=hlt _ (List.getElem_mem hi);have:ρ.getD i 0≠(os++Y).length:=by simp only[List.getD,hr,Option.getD_some];simp;omega
   simp only[hi,if_true,this,if_false]
  ·simp only[hi,if_false];by_cases h2:i=ρ.length
   ·subst h2;simp
   ·have: ¬((os++Y).length+(i-ρ.length)=(os++Y).length):=by omega
    simp only[this,h2,if_false]
 rw[hfun,D.ren_congr (g:=fun i=>if i<ρ.length then ρ.getD i 0 else id) (fun i hi=> ?_) _ hr]at this
 ·exact this
 ·have hi:i≤ρ.length:=by simpa using hi
  by_cases h1:i<ρ.length
  ·simp only[h1,if_true]
  ·have h2:i=ρ.length:=by omega
   simp only[h2,if_true,Nat.lt_irrefl,if_false]
def Kt (g:List D→List Ob→Option (Bool×D)) (args:List D) (OS:List Ob):Option (Bool×D):=
 if Qc (JL OS 64 (JC args) []) args OS=true then g (Zy (Yb (JL OS 64 (JC args) [])) args) (YS (JL OS 64 (JC args) []) OS)else none
theorem ZJa {P:Program} {f:FuncId} {g:List D→List Ob→Option (Bool×D)} (hg: ∀args os r,g args os=some (true,r)→r.clean=true∧ ∃X,ZV P f args os r (os++X)):
  ∀args OS r,Kt g args OS=some (true,r)→ZEJ P f args OS r:=by
 intro args OS r h;unfold Kt at h;split at h
 ·rename_i hok;obtain⟨h1,X,h2⟩:=hg _ _ _ h;exact ZEJ.of hok h2 h1
 ·cases h
theorem ZEJ.mcalls {P:Program} {f:FuncId} {args:List D} {os:List Ob} {r:D} (h:ZEJ P f args os r):ZV P f args os r os:=by
 intro c E vs R hvl;have:=h [] c E vs (by simpa using R) (by simpa using hvl);simpa using this
def ZJE (S:Tabs) (f:FuncId) (g:List D→List Ob→Option (Bool×D)):Tabs:=
 ⟨S.q,fun f' args os=>if f'=f then(Kt g args os).map fun r=>(r.1,r.2,os)else S.t f' args os,fun f' args os=>if f'=f then Kt g args os else S.r f' args os,S.k⟩
theorem ZIh {P:Program} {S:Tabs} (hS:SsOk P S) {f:FuncId} {g:List D→List Ob→Option (Bool×D)} (he:Enters P f) (hg: ∀args os r,g args os=some (true,r)→r.clean=true∧ ∃X,ZV P f args os r (os++X)):SsOk P (ZJE S f g):=by
 refine⟨hS.q,fun f' args os r os' h=> ?_,fun f' args os r h=> ?_,hS.k⟩
 ·simp only[ZJE]at h;split at h
  ·rename_i hf;subst hf;obtain⟨⟨b,r'⟩,h1,h2⟩:=Zh h;simp only[Ze]at h2;obtain⟨rfl,rfl,rfl⟩:=h2;exact⟨he,(ZJa hg _ _ _ h1).mcalls⟩
  ·exact hS.t f' args os r os' h
 ·simp only[ZJE]at h;split at h
  ·rename_i hf;subst hf;exact⟨he,ZJa hg _ _ _ h⟩
  ·exact hS.r f' args os r h
def newT (g:List D→List Ob→Option (Bool×D×Ob)) (args:List D) (OS:List Ob):Option (Bool×(Nat→D)×Ob):=
 if Qc (JL OS 64 (JC args) []) args OS=true then(g (Zy (Yb (JL OS 64 (JC args) [])) args) (YS (JL OS 64 (JC args) []) OS)).bind fun q=>
  if q.2.1.inP (fun i=>Nat.ble i (JL OS 64 (JC args) []).length)=true then some (q.1,fun id=>q.2.1.ren fun i=>if i<(JL OS 64 (JC args) []).length then(JL OS 64 (JC args) []).getD i 0 else id,q.2.2)else none
 else none
theorem newT_ok {P:Program} {f:FuncId} {g:List D→List Ob→Option (Bool×D×Ob)} (hg: ∀args os r ob,g args os=some (true,r,ob)→(∃fz e sz rs,ob= .rows fz e sz rs)∧ZV P f args os r (os++ [ob])):
  ∀args OS r ob,newT g args OS=some (true,r,ob)→ZID P f args OS r ob:=by
 intro args OS r ob h;unfold newT at h;split at h
 ·rename_i hok;obtain⟨⟨b,d,ob'⟩,h1,h2⟩:=Zp h;simp only at h2;split at h2
  ·rename_i hin;simp only[Zg,Ze]at h2;obtain⟨rfl,rfl,rfl⟩:=h2;obtain⟨k1,k2⟩:=hg _ _ _ _ h1;exact ZID.of hok k1 hin k2
  ·cases h2
 ·cases h
def ZN9 (S:Tabs) (f:FuncId) (g:List D→List Ob→Option (Bool×D×Ob)):Tabs:=
 ⟨S.q,fun f' args os=>if f'=f then YW (fun args os=>(g args os).map fun q=>(q.1,q.2.1,os++ [q.2.2])) args os else S.t f' args os,S.r,fun f' args os=>if f'=f then newT g args os else S.k f' args os⟩
theorem ZRf {P:Program} {S:Tabs} (hS:SsOk P S) {f:FuncId} {g:List D→List Ob→Option (Bool×D×Ob)} (he:Enters P f) (hg: ∀args os r ob,g args os=some (true,r,ob)→(∃fz e sz rs,ob= .rows fz e sz rs)∧ZV P f args os r (os++ [ob])):SsOk P (ZN9 S f g):=by
 refine⟨hS.q,fun f' args os r os' h=> ?_,hS.r,fun f' args os r ob h=> ?_⟩
 ·simp only[ZN9]at h;split at h
  ·rename_i hf;subst hf;refine⟨he,ZV.lift (fun args os r os' h=> ?_) args os r os' h⟩;obtain⟨⟨b,d,ob⟩,h1,h2⟩:=Zh h;simp only[Ze]at h2;obtain⟨rfl,rfl,rfl⟩:=h2;exact(hg _ _ _ _ h1).2
  ·exact hS.t f' args os r os' h
 ·simp only[ZN9]at h;split at h
  ·rename_i hf;subst hf;exact⟨he,newT_ok hg _ _ _ _ h⟩
  ·exact hS.k f' args os r ob h
abbrev Out:=Exit×List (Nat×D)×List Ob
def ZEv (fz:Bool) (run:IC→List (Nat×D)→List Ob→Option Out) (f:IFn) (args:List D) (os:List Ob):Option (D×List Ob):=
 if args.length≤f.n then(run f.body (ZQ 0 args) os).bind fun r=>match r.1 with
  | .normal| .ret=>(QA fz (fun _ _=>none) r.2.1 r.2.2 f.res).bind fun q=>if q.1 then some (mkR q.2.1,q.2.2)else none
  |_=>none
 else none
def GOk (P:Program) (G:FuncId→Option IFn):Prop:= ∀f p,G f=some p→ ∃fn,P.funcs[f]? =some fn∧(fn.name== "runtime.NumGoroutine")=false∧ZDq P fn=some p
def ZYK (P:Program) (run:IC→List (Nat×D)→List Ob→Option Out):Prop:=
 ∀ic φ os x φ' os',run ic φ os=some (x,φ',os')→ ∀(c:Ctx) (E0:Env) (os0:List Ob) (n:Nat),WI P c E0 os0 n ic (fun y φ2 os2=>y=x∧φ2=φ'∧os2=os') φ os
section
variable {P:Program} {G:FuncId→Option IFn}
theorem ZEH (hG:GOk P G) {run:IC→List (Nat×D)→List Ob→Option Out} (hr:ZYK P run) {f:FuncId} {p:IFn} (hp:G f=some p) {args:List D} {os os':List Ob} {r:D} {fz:Bool} (h:ZEv fz run p args os=some (r,os')):
  Enters P f∧ZN P f args os (fun r' os2=>r'=r∧os2=os'):=by
 obtain⟨fn,h1,h2,h3⟩:=hG f p hp;refine⟨enters h1 h2 h3,?_⟩;unfold ZEv at h;split at h
 ·rename_i hle;obtain⟨⟨x,φ',os1⟩,h4,h⟩:=Zp h;have hx:(x= .normal∨x= .ret)∧(QA fz (fun _ _=>none) φ' os1 p.res).bind (fun q=>if q.1 then some (mkR q.2.1,q.2.2)else none)=some (r,os'):=by
   cases x<;>simp only at h<;>first|exact⟨.inl rfl,h⟩|exact⟨.inr rfl,h⟩|cases h
  obtain⟨hx,h5⟩:=hx;obtain⟨⟨ok,ds,os2⟩,h6,h7⟩:=Zp h5;simp only at h7;split at h7
  ·rename_i hok;subst hok;cases h7;refine ZWT (fz:=fz) (S:=fun _ _=>none) h1 h3 args hle os (fun c E0=>WI.mono (hr _ _ _ _ _ _ h4 c E0 os p.n) ?_);rintro y φ2 os3 ⟨rfl,rfl,rfl⟩;exact⟨hx,ds,_,h6,rfl,rfl⟩
  ·cases h7
 ·cases h
theorem ZC {G:FuncId→Option IFn} (hG:GOk P G) {f:FuncId} {p:IFn} (hp:G f=some p):Enters P f:=by
 obtain⟨fn,h1,h2,h3⟩:=hG f p hp;exact enters h1 h2 h3
theorem ZO {fz:Bool} {G:FuncId→Option IFn} (hG:GOk P G) {f:FuncId} {p:IFn} (hp:G f=some p) (args:List D) (hle:args.length≤p.n) (os:List Ob) {Post:D→List Ob→Prop}
  (h: ∀(c:Ctx) (E0:Env),WI P c E0 os p.n p.body (fun x φ' os'=>(x= .normal∨x= .ret)∧ ∃ds os2,QA fz (fun _ _=>none) φ' os' p.res=some (true,ds,os2)∧Post (mkR ds) os2) (ZQ 0 args) os):ZN P f args os Post:=by
 obtain⟨fn,h1,h2,h3⟩:=hG f p hp;exact ZWT h1 h3 args hle os h
end
open Go Go.RowKit Go.Bo
@[reducible] def qt (n:Nat):IO:= .t n
@[reducible] def qi (n:Int):IO:= .c (.x (.int .i64 n))
@[reducible] def qs (s:List UInt8):IO:= .c (.x (.str s))
@[reducible] def qb (b:Bool):IO:= .c (.x (.bool b))
@[reducible] def qm (d s:Nat):IOp:=⟨some d,.mv (.t s),none⟩
@[reducible] def qn (d s g:Nat) (b:Bool):IOp:=⟨some d,.mv (.t s),some (g,b)⟩
@[reducible] def qa (d:Nat) (e:IE):IOp:=⟨some d,e,none⟩
@[reducible] def qg (d:Nat) (e:IE) (g:Nat) (b:Bool):IOp:=⟨some d,e,some (g,b)⟩
@[reducible] def qh (d s g:Nat):IOp:=⟨some d,.mv (.t s),some (g,true)⟩
@[reducible] def qj (d s g:Nat):IOp:=⟨some d,.mv (.t s),some (g,false)⟩
@[reducible] def qT (d:Nat) (e:IE) (g:Nat):IOp:=⟨some d,e,some (g,true)⟩
@[reducible] def qF (d:Nat) (e:IE) (g:Nat):IOp:=⟨some d,e,some (g,false)⟩
@[reducible] def qe (d a i:Nat):IOp:=⟨some d,.ext (.t a) i,none⟩
@[reducible] def ql (a:Nat):IE:= .ld 1 false (.t a)
@[reducible] def qL (n a:Nat):IE:= .ld n true (.t a)
@[reducible] def qf (o a:Nat):IE:= .fad o (.t a)
@[reducible] def q2 (p:BinOp) (a b:Nat):IE:= .bin p (.t a) (.t b)
@[reducible] def q3 (p:BinOp) (a:Nat) (n:Int):IE:= .bin p (.t a) (.c (.x (.int .i64 n)))
@[reducible] def q8 (p:BinOp) (a:Nat) (n:Int):IE:= .bin p (.t a) (.c (.x (.int .u8 n)))
@[reducible] def qz (a:Nat):IE:= .un .not (.t a)
@[reducible] def qp (a b:Nat):IE:= .pick (.t a) (.c (.x (.bool true))) (.t b)
@[reducible] def qP (a b:Nat):IE:= .pick (.t a) (.t b) (.c (.x (.bool false)))
@[reducible] def qc (f:FuncId) (l:List IO):IE:= .call (.c (.fn f [])) l
@[reducible] def qk (b:Bool) (a:Nat):IE:= .len b (.t a)
@[reducible] def qx (a b:Nat):IE:= .idx (.t a) (.t b)
@[reducible] def qy (s a b:Nat):IE:= .iad s (.t a) (.t b)
@[reducible] def qo (n a b:Nat):IOp:=⟨none,.sto n (.t a) (.t b),none⟩
@[reducible] def qr (l:List IOp) (y:IC):IC:= .seq (.reg l) y
@[reducible] def qC (a:Nat) (x y:IC):IC:= .cond (.t a) x y
theorem gk {P:Program} {f:FuncId} {fn:Func} {q p:IFn} (h1:P.funcs[f]? =some fn) (h:some q=some p) (hn:(fn.name== "runtime.NumGoroutine")=false:=by decide) (hc:ZDq P fn=some q:=by kernel_rfl): ∃fn,P.funcs[f]? =some fn∧(fn.name== "runtime.NumGoroutine")=false∧ZDq P fn=some p:=by
 cases h;exact⟨fn,h1,hn,hc⟩
mutual
def D.vw (os:List Ob):D→D
 | .ref id ext off len=>match os[id]? with
  |some (.frz _ rs)=>if rs.length=ext then .x (.sl ((rs.drop off).take len))else .ref id ext off len
  |_=> .ref id ext off len
 | .agg ds=> .agg (vwL os ds)
 | .tup ds=> .tup (vwL os ds)
 | .fn f caps=> .fn f (vwL os caps)
 | .opt b d=> .opt b (d.vw os)
 | .ptr id o=> .ptr id o
 | .eptr id a b c=> .eptr id a b c
 | .x y=> .x y
 | .vptr cs=> .vptr cs
 | .mref id=> .mref id
 | .mnil=> .mnil
 | .iref mid id=> .iref mid id
 | .stk mid id=> .stk mid id
 | .bref id o l=> .bref id o l
 | .full rs=> .full rs
 | .nz rs=> .nz rs
 | .und=> .und
def vwL (os:List Ob):List D→List D
 | []=> []
 |d::l=>d.vw os::vwL os l
end
theorem ZFV (os:List Ob): ∀l,vwL os l=l.map (D.vw os)
 | []=>rfl
 |d::l=>by simp[vwL,ZFV os l]
def D.on (ρ:List Nat) (d:D):D:=if d.inP (fun i=>YH i ρ)=true then d else .und
def Qm (f:D→D) (q:Pr):Pr:=(q.1,q.2.map f)
def Ob.mp (f:D→D):Ob→Ob
 | .box ds=> .box (ds.map f)
 | .drw e sz rs=> .drw e sz (rs.map (List.map f))
 | .mpo dk ag l=> .mpo dk ag (l.map (Qm f))
 | .mit dk ag l it R cur=> .mit dk ag (l.map (Qm f)) it (R.map (Qm f)) (cur.map (Qm f))
 | .mpn dk ag l key sid=> .mpn dk ag (l.map (Qm f)) key sid
 |o=>o
def Ob.mpb (f:D→D):Ob→Ob
 | .box ds=> .box (ds.map f)
 | .drw e sz rs=> .drw e sz (rs.map (List.map f))
 |o=>o
def frzL:List Nat→List Ob→List Ob
 | [],os=>os
 |i::l,os=>match os[i]? with
  |some (.rows _ _ sz rs)=>frzL l (os.set i (.frz sz rs))
  |_=>frzL l os
def Kn (ρ:List Nat) (os:List Ob) (d:D):D:=(d.vw os).on ρ
def Ob.onI (ρ:List Nat):Ob→Ob
 | .mit dk ag l it R cur=>if YH it ρ=true then .mit dk ag l it R cur else .mpo dk ag l
 | .mpn dk ag l key sid=>if YH sid ρ=true then .mpn dk ag l key sid else .mpo dk ag l
 |o=>o
def ZAO (ρ:List Nat) (os:List Ob):List Ob:=YS ρ ((os.map (Ob.mp (Kn ρ os))).map (Ob.onI ρ))
def QH (ρ:List Nat) (os:List Ob) (φ:List (Nat×D)):List (Nat×D):=φ.map fun p=>(p.1,(Kn ρ os p.2).ren (Yb ρ))
def ZLd (ρ:List Nat) (k m:Nat):Bool:=Qb ρ&&(ρ.all (fun r=>decide (r<m))&&(List.range k).all fun i=>decide (ρ[i]? =some i))
section
variable {P:Program} {c:Ctx} {E E0:Env} {os os0:List Ob} {n:Nat} {Q:Exit→List (Nat×D)→List Ob→Prop} {φ:List (Nat×D)}
theorem Zbe (R:Rel c E os) {id ext off len sz:Nat} {rs:List (List X)} {v:Value} (hv:V E os (.ref id ext off len) v) (ho:os[id]? =some (.frz sz rs)) (hl:rs.length=ext):VX E.w E.st (.sl ((rs.drop off).take len)) v:=by
 cases hv with
 |ref hr _=>
  obtain⟨h1,h2⟩:=hr.at ho rfl;obtain⟨h3,b,ad,cap,a',cap',h4,h5,h6,h7,h8,h9,h10,h11⟩:=h2 hl;obtain⟨p,hp,hok⟩:=R.at ho;rw[hp]at h4;cases h4;subst h5;have hok':VX E.w E.st (.sl rs) (.slice ad ext cap):=hok.1;obtain⟨w1,w2,w3,w4,w5,w6⟩:=OK.cap (os:=os) (o:= .frz sz rs) hok rfl rfl;exact hok'.part w4 off len (by omega) a' cap' h6 h7 h9 h10 (fun _=>h11)
theorem V.vw (R:Rel c E os) {d:D} {v:Value} (h:V E os d v):V E os (d.vw os) v:=by
 have lst: ∀ {ds:List D} {vs:Array Value},(∀(j:Nat) (d:D) (v:Value),ds[j]? =some d→vs[j]? =some v→V E os (d.vw os) v)→ ∀(j:Nat) (d:D) (v:Value),(vwL os ds)[j]? =some d→vs[j]? =some v→V E os d v:=by
  intro ds vs ih j d v hd hv;rw[ZFV,YA]at hd;obtain⟨d0,h0,rfl⟩:=Zh hd;exact ih j d0 v h0 hv
 induction h with
 |x h=>exact .x h
 |ref h h1=>
  simp only[D.vw];split
  ·rename_i sz rs ho;split
   ·rename_i hl;exact .x (Zbe R (.ref h h1) ho hl)
   ·exact .ref h h1
  ·exact .ref h h1
 |ptr ho h=>exact .ptr ho h
 |eptr h h1=>exact .eptr h h1
 |mref ho hk h=>exact .mref ho hk h
 |mnil=>exact .mnil
 |iref ho hk h=>exact .iref ho hk h
 |stk ho hk h=>exact .stk ho hk h
 |bref ho h hm=>exact .bref ho h hm
 |vptr b off val hc hv=>exact .vptr b off val hc hv
 |agg vs hl h1 _ ih=>exact .agg vs (by rw[ZFV];simpa using hl) h1 (lst ih)
 |tup vs hl _ ih=>exact .tup vs (by rw[ZFV];simpa using hl) (lst ih)
 |full n h=>exact .full n h
 |nz h=>exact .nz h
 |fn vs hl _ ih=>exact .fn vs (by rw[ZFV];simpa using hl) (lst ih)
 |opt _ h' ih=>exact .opt ih h'
 |und v=>exact .und v
theorem V.on {ρ:List Nat} {d:D} {v:Value} (h:V E os d v):V E os (d.on ρ) v:=by
 unfold D.on;split
 ·exact h
 ·exact .und v
theorem Ob.mp_slice (f:D→D) (o:Ob):(o.mp f).sl? =o.sl? :=by cases o<;>simp[Ob.mp,Ob.sl?]
theorem Ob.mp_kd (f:D→D) (o:Ob):(o.mp f).kd=o.kd:=by cases o<;>rfl
theorem Ob.mp_mb (f:D→D) (o:Ob) (q:Nat×Value):(o.mp f).mb q=o.mb q:=by cases o<;>rfl
theorem VC.mp {f:D→D} (hf: ∀d v,V E os d v→V E os (f d) v) {ag:Bool} {ds:List D} {v:Value} (h:VC E os ag ds v):VC E os ag (ds.map f) v:=by
 obtain⟨h1,h2,h3⟩:=h;refine⟨?_,by simpa using h2,fun j d u hd hu=> ?_⟩
 ·cases ag with
  |true=>exact h1
  |false=>simp only[Bool.false_eq_true,if_false,List.length_map]at h1⊢;exact h1
 ·rw[YA]at hd;obtain⟨d0,h0,rfl⟩:=Zh hd;exact⟨hf d0 u (h3 j d0 u h0 hu).1,(h3 j d0 u h0 hu).2⟩
theorem Zz.mp {f:D→D} (hf: ∀d v,V E os d v→V E os (f d) v) {b:Nat} {dk:KK} {ag:Bool} {l:List Pr} (h:Zz E os b dk ag l):Zz E os b dk ag (l.map (Qm f)):=by
 have key: ∀ {κ:Type} [DecidableEq κ] {mk:κ→Value} {kx:κ→List X},Qr mk kx E os b ag l→Qr mk kx E os b ag (l.map (Qm f)):=by
  intro κ _ mk kx ⟨l',h1,h2,h3⟩;refine⟨l',h1,by simpa using h2,fun i a q ha hq=> ?_⟩;rw[YA]at hq;obtain⟨q0,hq0,rfl⟩:=Zh hq;obtain⟨k1,k2⟩:=h3 i a q0 ha hq0;exact⟨k1,k2.mp hf⟩
 cases dk with
 |int k=>exact key h
 |str=>exact key h
 |st _ _=>exact h.elim
theorem ZCd.mp {f:D→D} (hf: ∀d v,V E os d v→V E os (f d) v) {dk:KK} {ag:Bool} {e:MapEntry} {q:Pr} (h:ZCd E os dk ag e q):ZCd E os dk ag e (Qm f q):=⟨h.1,h.2.mp hf⟩
theorem ZI9.mp {f:D→D} (hf: ∀d v,V E os d v→V E os (f d) v) {p:Nat×Value} {dk:KK} {ag:Bool} {it:Nat} {R:List Pr} {cur:Option Pr} (h:ZI9 E os p dk ag it R cur):ZI9 E os p dk ag it (R.map (Qm f)) (cur.map (Qm f)):=by
 obtain⟨ib,cu,es,clk,since,seen,c0,o,h1,h2,h3,h4,h5,h6,h7,h8,h9,h10,h11⟩:=h;refine⟨ib,cu,es,clk,since,seen,c0,o,h1,h2,h3,h4,h5,h6,h7,h8,h9,⟨by simpa using h10.1,fun i x q hx hq=> ?_⟩,fun q hq=> ?_⟩
 ·rw[YA]at hq;obtain⟨q0,hq0,rfl⟩:=Zh hq;exact(h10.2 i x q0 hx hq0).mp hf
 ·obtain⟨q0,hq0,rfl⟩:=Zh hq;obtain⟨g1,s',x,g2,g3,g4⟩:=h11 q0 hq0;exact⟨g1,s',x,g2,g3,g4.mp hf⟩
theorem Rel.mp (R:Rel c E os) {f:D→D} (hf: ∀d v,V E os d v→V E os (f d) v):Rel c E (os.map (Ob.mp f))∧Evo E os E (os.map (Ob.mp f)):=by
 have at': ∀ {i:Nat} {o:Ob},(os.map (Ob.mp f))[i]? =some o→ ∃o0,os[i]? =some o0∧o=o0.mp f:=fun {i o} h=>by
  rw[YA]at h;obtain⟨o0,h0,rfl⟩:=Zh h;exact⟨o0,h0,rfl⟩
 have ev:Evo E os E (os.map (Ob.mp f)):=⟨fun b o h=>⟨h,rfl⟩,fun id b cu o k ho hkd hb=>⟨cu,o.mp f,by rw[YA,ho];rfl,by rw[Ob.mp_kd];exact hkd,hb⟩,
  fun id o sz rs ho hs=>⟨o.mp f,rs,by rw[YA,ho];rfl,by rw[Ob.mp_slice];exact hs,.inl ⟨rfl,rfl⟩⟩⟩
 refine⟨⟨by simp[R.len],fun i o p h1 h2=> ?_,fun i j o o' p p' b h1 h2 h3 h4 h5 h6=> ?_,fun b off hs=>⟨(R.stm b off hs).1,fun i o p h1 h2 h3=> ?_⟩,R.kept,fun i o p b h1 h2 h3=> ?_,R.sto⟩,ev⟩
 ·obtain⟨o0,h0,rfl⟩:=at' h1;have hok:=R.ok i o0 p h0 h2;cases o0 with
  |box ds=>
   obtain⟨cs,ty,g1,g2,g3⟩:=hok;refine⟨cs,ty,g1,by simpa using g2,fun j d v hd hv=> ?_⟩;rw[YA]at hd;obtain⟨d0,hd0,rfl⟩:=Zh hd;exact⟨(hf d0 v (g3 j d0 v hd0 hv).1).mono ev,(g3 j d0 v hd0 hv).2⟩
  |rows fz el sz rs=>exact hok
  |drw el sz rs=>
   obtain⟨xs,g1,g2,g3⟩:=hok;refine⟨xs,by rw[List.length_map];exact g1,fun r hr=> ?_,fun i r j d v hr hd hv=> ?_⟩
   ·obtain⟨r0,h0,rfl⟩:=List.mem_map.1 hr;rw[List.length_map];exact g2 r0 h0
   ·rw[YA]at hr;obtain⟨r0,hr0,rfl⟩:=Zh hr;rw[YA]at hd;obtain⟨d0,hd0,rfl⟩:=Zh hd;exact⟨(hf d0 v (g3 i r0 j d0 v hr0 hd0 hv).1).mono ev,(g3 i r0 j d0 v hr0 hd0 hv).2⟩
  |frz sz rs=>exact hok
  |mpo dk ag l=>exact(hok.mp hf).mono ev rfl
  |mit dk ag l it R cur=>exact⟨(hok.1.mp hf).mono ev rfl,(hok.2.mp hf).mono ev (fun _ _=>rfl)⟩
  |mpn dk ag l key sid=>exact⟨(hok.1.mp hf).mono ev rfl,hok.2.mono ev rfl⟩
  |sit s pos=>exact hok
  |nit=>exact hok
  |itr=>trivial
  |stp=>trivial
  |dead=>trivial
 ·obtain⟨o1,g1,rfl⟩:=at' h1;obtain⟨o2,g2,rfl⟩:=at' h3;rw[Ob.mp_mb]at h5 h6;exact R.dis i j o1 o2 p p' b g1 h2 g2 h4 h5 h6
 ·obtain⟨o1,g1,rfl⟩:=at' h1;rw[Ob.mp_mb]at h3;exact(R.stm b off hs).2 i o1 p g1 h2 h3
 ·obtain⟨o1,g1,rfl⟩:=at' h1;rw[Ob.mp_mb]at h3;exact R.mbs i o1 p b g1 h2 h3
theorem Ob.mpb_slice (f:D→D) (o:Ob):(o.mpb f).sl? =o.sl? :=by cases o<;>simp[Ob.mpb,Ob.sl?]
theorem Ob.mpb_kd (f:D→D) (o:Ob):(o.mpb f).kd=o.kd:=by cases o<;>rfl
theorem Ob.mpb_mb (f:D→D) (o:Ob) (q:Nat×Value):(o.mpb f).mb q=o.mb q:=by cases o<;>rfl
theorem Rel.mpb (R:Rel c E os) {f:D→D} (hf: ∀d v,V E os d v→V E os (f d) v):Rel c E (os.map (Ob.mpb f))∧Evo E os E (os.map (Ob.mpb f)):=by
 have at': ∀ {i:Nat} {o:Ob},(os.map (Ob.mpb f))[i]? =some o→ ∃o0,os[i]? =some o0∧o=o0.mpb f:=fun {i o} h=>by
  rw[YA]at h;obtain⟨o0,h0,rfl⟩:=Zh h;exact⟨o0,h0,rfl⟩
 have ev:Evo E os E (os.map (Ob.mpb f)):=⟨fun b o h=>⟨h,rfl⟩,fun id b cu o k ho hkd hb=>⟨cu,o.mpb f,by rw[YA,ho];rfl,by rw[Ob.mpb_kd];exact hkd,hb⟩,
  fun id o sz rs ho hs=>⟨o.mpb f,rs,by rw[YA,ho];rfl,by rw[Ob.mpb_slice];exact hs,.inl ⟨rfl,rfl⟩⟩⟩
 refine⟨⟨by simp[R.len],fun i o p h1 h2=> ?_,fun i j o o' p p' b h1 h2 h3 h4 h5 h6=> ?_,fun b off hs=>⟨(R.stm b off hs).1,fun i o p h1 h2 h3=> ?_⟩,R.kept,fun i o p b h1 h2 h3=> ?_,R.sto⟩,ev⟩
 ·obtain⟨o0,h0,rfl⟩:=at' h1;have hok:=R.ok i o0 p h0 h2;cases o0 with
  |box ds=>
   obtain⟨cs,ty,g1,g2,g3⟩:=hok;refine⟨cs,ty,g1,by simpa using g2,fun j d v hd hv=> ?_⟩;rw[YA]at hd;obtain⟨d0,hd0,rfl⟩:=Zh hd;exact⟨(hf d0 v (g3 j d0 v hd0 hv).1).mono ev,(g3 j d0 v hd0 hv).2⟩
  |rows fz el sz rs=>exact hok
  |drw el sz rs=>
   obtain⟨xs,g1,g2,g3⟩:=hok;refine⟨xs,by rw[List.length_map];exact g1,fun r hr=> ?_,fun i r j d v hr hd hv=> ?_⟩
   ·obtain⟨r0,h0,rfl⟩:=List.mem_map.1 hr;rw[List.length_map];exact g2 r0 h0
   ·rw[YA]at hr;obtain⟨r0,hr0,rfl⟩:=Zh hr;rw[YA]at hd;obtain⟨d0,hd0,rfl⟩:=Zh hd;exact⟨(hf d0 v (g3 i r0 j d0 v hr0 hd0 hv).1).mono ev,(g3 i r0 j d0 v hr0 hd0 hv).2⟩
  |frz sz rs=>exact hok
  |mpo dk ag l=>exact Zz.mono ev rfl hok
  |mit dk ag l it R cur=>exact⟨Zz.mono ev rfl hok.1,hok.2.mono ev (fun _ _=>rfl)⟩
  |mpn dk ag l key sid=>exact⟨Zz.mono ev rfl hok.1,hok.2.mono ev rfl⟩
  |sit s pos=>exact hok
  |nit=>exact hok
  |itr=>trivial
  |stp=>trivial
  |dead=>trivial
 ·obtain⟨o1,g1,rfl⟩:=at' h1;obtain⟨o2,g2,rfl⟩:=at' h3;rw[Ob.mpb_mb]at h5 h6;exact R.dis i j o1 o2 p p' b g1 h2 g2 h4 h5 h6
 ·obtain⟨o1,g1,rfl⟩:=at' h1;rw[Ob.mpb_mb]at h3;exact(R.stm b off hs).2 i o1 p g1 h2 h3
 ·obtain⟨o1,g1,rfl⟩:=at' h1;rw[Ob.mpb_mb]at h3;exact R.mbs i o1 p b g1 h2 h3
theorem Rel.frzL: ∀(l:List Nat) {E:Env} {os:List Ob},Rel c E os→ ∃st',Rel c ⟨E.w,st',E.ob⟩ (frzL l os)∧Evo E os ⟨E.w,st',E.ob⟩ (frzL l os)∧(Go.Ab.frzL l os).length=os.length
 | [],E,os,R=>⟨E.st,R,Evo.refl _ _,rfl⟩
 |i::l,E,os,R=>by
  simp only[Go.Ab.frzL];split
  ·rename_i fz e sz rs ho;obtain⟨p,hp,_⟩:=R.at ho;obtain⟨R1,e1⟩:=R.freeze ho hp;obtain⟨st',R2,e2,hl⟩:=Rel.frzL l R1;exact⟨st',R2,e1.trans e2,by simpa using hl⟩
  ·exact Rel.frzL l R
theorem Rel.pickO {ρ:List Nat} (R:Rel c E os) (hn:ρ.Nodup) (hlt: ∀r∈ρ,r<os.length) (hcl: ∀r∈ρ,(os.getD r .dead).inP (fun i=>YH i ρ)=true):Rel c (fpE ρ E) (YS ρ os):=by
 have R1:=ZWr R hn hlt hcl;refine⟨R1.len,R1.ok,R1.dis,R1.stm,R.kept,fun i o p b h1 h2 h3=> ?_,R.sto⟩;obtain⟨r,o0,p0,k1,k2,rfl,k4,k5⟩:=ZGL R hlt h1;rw[h2]at k5;cases k5;rw[Ob.ren_mb]at h3;exact R.mbs r o0 p b k2 k4 h3
theorem Ob.onI_spec (ρ:List Nat) (o:Ob):(o.onI ρ).kd=o.kd∧(o.onI ρ).sl? =o.sl? ∧(∀p b,(o.onI ρ).mb p b→o.mb p b)∧ ∀(E:Env) (os:List Ob) p,OK E os o p→OK E os (o.onI ρ) p:=by
 cases o with
 |mit dk ag l it R cur=>
  simp only[Ob.onI];split
  ·exact⟨rfl,rfl,fun _ _ h=>h,fun _ _ _ h=>h⟩
  ·exact⟨rfl,rfl,fun _ _ h=> .inl h,fun _ _ _ h=>h.1⟩
 |mpn dk ag l key sid=>
  simp only[Ob.onI];split
  ·exact⟨rfl,rfl,fun _ _ h=>h,fun _ _ _ h=>h⟩
  ·exact⟨rfl,rfl,fun _ _ h=>h,fun _ _ _ h=>h.1⟩
 |_=>exact⟨rfl,rfl,fun _ _ h=>h,fun _ _ _ h=>h⟩
theorem Rel.thaws (R:Rel c E os) (ρ:List Nat):Rel c E (os.map (Ob.onI ρ))∧Evo E os E (os.map (Ob.onI ρ)):=by
 have at': ∀ {i:Nat} {o:Ob},(os.map (Ob.onI ρ))[i]? =some o→ ∃o0,os[i]? =some o0∧o=o0.onI ρ:=fun {i o} h=>by
  rw[YA]at h;obtain⟨o0,h0,rfl⟩:=Zh h;exact⟨o0,h0,rfl⟩
 have ev:Evo E os E (os.map (Ob.onI ρ)):=⟨fun b o h=>⟨h,rfl⟩,fun id b cu o k ho hkd hb=>⟨cu,o.onI ρ,by rw[YA,ho];rfl,by rw[(Ob.onI_spec ρ o).1];exact hkd,hb⟩,
  fun id o sz rs ho hs=>⟨o.onI ρ,rs,by rw[YA,ho];rfl,by rw[(Ob.onI_spec ρ o).2.1];exact hs,.inl ⟨rfl,rfl⟩⟩⟩
 refine⟨⟨by simp[R.len],fun i o p h1 h2=> ?_,fun i j o o' p p' b h1 h2 h3 h4 h5 h6=> ?_,fun b off hs=>⟨(R.stm b off hs).1,fun i o p h1 h2 h3=> ?_⟩,R.kept,fun i o p b h1 h2 h3=> ?_,R.sto⟩,ev⟩
 ·obtain⟨o0,h0,rfl⟩:=at' h1;exact((Ob.onI_spec ρ o0).2.2.2 E os p (R.ok i o0 p h0 h2)).mono ev (fun _ _=>rfl)
 ·obtain⟨o1,g1,rfl⟩:=at' h1;obtain⟨o2,g2,rfl⟩:=at' h3;exact R.dis i j o1 o2 p p' b g1 h2 g2 h4 ((Ob.onI_spec ρ o1).2.2.1 _ _ h5) ((Ob.onI_spec ρ o2).2.2.1 _ _ h6)
 ·obtain⟨o1,g1,rfl⟩:=at' h1;exact(R.stm b off hs).2 i o1 p g1 h2 ((Ob.onI_spec ρ o1).2.2.1 _ _ h3)
 ·obtain⟨o1,g1,rfl⟩:=at' h1;exact R.mbs i o1 p b g1 h2 ((Ob.onI_spec ρ o1).2.2.1 _ _ h3)
theorem ZW7 {ρ:List Nat} (d:D):(d.on ρ).inP (fun i=>YH i ρ)=true:=by
 unfold D.on;split
 ·assumption
 ·rfl
theorem ZcA (ρ:List Nat) (os:List Ob) (φ:List (Nat×D)) (t:Nat):get (QH ρ os φ) t=(Kn ρ os (get φ t)).ren (Yb ρ):=by
 induction φ with
 |nil=>rfl
 |cons p φ ih=>
  obtain⟨u,d⟩:=p;simp only[QH,List.map_cons,get];split
  ·rfl
  ·exact ih
def Wk (c:Ctx) (E0:Env) (os0:List Ob) (n:Nat) (φ:List (Nat×D)) (os:List Ob) (φ':List (Nat×D)) (os':List Ob):Prop:=
 ∀(E:Env) (a:Act),Run c E0 os0 E os→Fr n E os φ a→ ∃E',E'.w=E.w∧Run c E0 os0 E' os'∧Fr n E' os' φ' a
theorem Wk.pick (ρ:List Nat) (hok:ZLd ρ os0.length os.length=true):Wk c E0 os0 n φ os (QH ρ os φ) (ZAO ρ os):=by
 simp only[ZLd,ZY]at hok;obtain⟨h1,h2,h3⟩:=hok;have hn:=ZE8 h1;have hlt: ∀r∈ρ,r<os.length:=fun r hr=>by simpa using List.all_eq_true.1 h2 r hr
 have hpre: ∀i,i<os0.length→ρ[i]? =some i:=fun i hi=>by simpa using List.all_eq_true.1 h3 i (List.mem_range.2 hi)
 intro E a R hf;obtain⟨R0,e0⟩:=R.rel.mp (f:=Kn ρ os) (fun d v hd=>(hd.vw R.rel).on);obtain⟨R1,e1'⟩:=R0.thaws ρ;have e1:=e0.trans e1';have hlt1: ∀r∈ρ,r<((os.map (Ob.mp (Kn ρ os))).map (Ob.onI ρ)).length:=fun r hr=>by simpa using hlt r hr
 have hon: ∀ds:List D,YY (fun i=>YH i ρ) (ds.map (Kn ρ os))=true:=fun ds=>by
  rw[QX];refine List.all_eq_true.2 (fun d hd=> ?_);obtain⟨d0,_,rfl⟩:=List.mem_map.1 hd;exact ZW7 _
 have honM: ∀l:List Pr,(l.map (Qm (Kn ρ os))).all (Qj (fun i=>YH i ρ))=true:=fun l=>by
  refine List.all_eq_true.2 (fun q hq=> ?_);obtain⟨q0,_,rfl⟩:=List.mem_map.1 hq;exact hon _
 have hcl: ∀r∈ρ,(((os.map (Ob.mp (Kn ρ os))).map (Ob.onI ρ)).getD r .dead).inP (fun i=>YH i ρ)=true:=fun r hr=>by
  have hl:=hlt r hr;simp only[List.getD,YA,YC hl,Option.map_some,Option.getD_some];cases os[r]with
  |box ds=>exact hon ds
  |drw e sz rs=>
   refine List.all_eq_true.2 (fun r hr=> ?_);obtain⟨r0,_,rfl⟩:=List.mem_map.1 hr;exact hon r0
  |mpo dk ag l=>exact honM l
  |mit dk ag l it R cur=>
   simp only[Ob.mp,Ob.onI];split
   ·rename_i hm;simp only[Ob.inP,ZY];refine⟨honM l,hm,honM R,?_⟩;cases cur with
    |none=>rfl
    |some q=>exact hon _
   ·exact honM l
  |mpn dk ag l key sid=>
   simp only[Ob.mp,Ob.onI];split
   ·rename_i hm;simp only[Ob.inP,ZY];exact⟨honM l,hm⟩
   ·exact honM l
  |_=>rfl
 have R2:=R1.pickO hn hlt1 hcl;have e2:=ZHp (ρ:=ρ) R1 hlt1;refine⟨fpE ρ E,rfl,⟨R2,?_⟩,hf.size,hf.defers,fun t=> ?_⟩
 ·have e01:=R.evo.trans e1;have hl01:os0.length≤((os.map (Ob.mp (Kn ρ os))).map (Ob.onI ρ)).length:=by
   rcases Nat.eq_zero_or_pos os0.length with h0|h0
   ·omega
   ·have:=hlt _ (List.mem_of_getElem? (hpre (os0.length-1) (by omega)));simp only[List.length_map];omega
  have hinv: ∀i,i<os0.length→Yb ρ i=i∧YH i ρ=true:=fun i hi=>⟨ZHh hn (hpre i hi),Qt.2 (List.mem_of_getElem? (hpre i hi))⟩
  refine⟨e01.st,fun id b cu ds k ho hkd hb=> ?_,fun id o sz rs ho hs=> ?_⟩
  ·have hi:=(Zf ho).1;obtain⟨cu1,ds1,k1,kd1,k2⟩:=e01.bl id b cu ds k ho hkd hb;obtain⟨w1,w2⟩:=hinv id hi;obtain⟨cu2,ds2,k3,kd2,k4⟩:=e2.bl id b cu1 ds1 k w2 k1 kd1 k2;rw[w1]at k3 k4;exact⟨cu2,ds2,k3,kd2,k4⟩
  ·have hi:=(Zf ho).1;obtain⟨o1,rs1,k1,k2,k3⟩:=e01.rf id o sz rs ho hs;obtain⟨w1,w2⟩:=hinv id hi;obtain⟨o2,rs2,k4,k5,k6⟩:=e2.rf id o1 sz rs1 w2 k1 k2;rw[w1]at k4 k6;refine⟨o2,rs2,k4,k5,?_⟩;rcases k3 with⟨k3,k3'⟩|k3<;>rcases k6 with⟨k6,k6'⟩|k6
   ·exact .inl ⟨k3.trans k6,k6'.trans k3'⟩
   ·exact .inr (by omega)
   ·exact .inr (by omega)
   ·exact .inr (by omega)
 ·have h0:V E os (Kn ρ os (get φ t)) (a.tmps.getD t undef):=((hf.slot t).vw R.rel).on;have h1:V (fpE ρ E) (YS ρ ((os.map (Ob.mp (Kn ρ os))).map (Ob.onI ρ))) ((Kn ρ os (get φ t)).ren (Yb ρ)) (a.tmps.getD t undef):=(h0.mono e1).monoR e2 (ZW7 _);rw[ZcA];exact h1
theorem Wk.freeze (l:List Nat):Wk c E0 os0 n φ os φ (frzL l os):=by
 intro E a R hf;obtain⟨st',R1,e1,_⟩:=R.rel.frzL l;exact⟨⟨E.w,st',E.ob⟩,rfl,⟨R1,R.evo.trans e1⟩,hf.mono e1⟩
theorem WI.pick (ρ:List Nat) {ic:IC} (hok:ZLd ρ os0.length os.length=true) (h:WI P c E0 os0 n ic Q (QH ρ os φ) (ZAO ρ os)):WI P c E0 os0 n ic Q φ os:=WI.weak (Wk.pick ρ hok) h
theorem WI.freeze (l:List Nat) {ic:IC} (h:WI P c E0 os0 n ic Q φ (frzL l os)):WI P c E0 os0 n ic Q φ os:=WI.weak (Wk.freeze l) h
theorem ZJ {next:List (Nat×D)→List Ob→Prop} (h:next φ os):ZEi next Q .normal φ os:=h
theorem Jp {next:List (Nat×D)→List Ob→Prop} {i:Nat} (h:Q (.exit i) φ os):ZEi next Q (.exit i) φ os:=h
theorem JE {next:List (Nat×D)→List Ob→Prop} (h:Q .ret φ os):ZEi next Q .ret φ os:=h
theorem ZAu {i:Nat} (h:Q .normal φ os):ZDv i Q (.exit i) φ os:=by show(if i=i then Q .normal φ os else Q (.exit i) φ os);rw[if_pos rfl];exact h
theorem ZQS {i j:Nat} (hne:j≠i) (h:Q (.exit j) φ os):ZDv i Q (.exit j) φ os:=by show(if j=i then Q .normal φ os else Q (.exit j) φ os);rw[if_neg hne];exact h
theorem Ke {i:Nat} (h:Q .ret φ os):ZDv i Q .ret φ os:=h
theorem QB {i:Nat} (h:Q .normal φ os):ZDv i Q .normal φ os:=h
theorem ZOu {l:Nat} {J:List (Nat×D)→List Ob→Prop} (h:Q .normal φ os):ZKC l J Q .normal φ os:=h
theorem ZTB {l i:Nat} {J:List (Nat×D)→List Ob→Prop} (h:Q (.exit i) φ os):ZKC l J Q (.exit i) φ os:=h
theorem ZWO {l:Nat} {J:List (Nat×D)→List Ob→Prop} (h:Q .ret φ os):ZKC l J Q .ret φ os:=h
def D.nn:D→D
 | .x .nils=> .x (.sl [])
 |d=>d
theorem VX.nn {w:World} {st:Nat→Nat→Prop} {v:Value} (h:VX w st .nils v):VX w st (.sl []) v:=by
 cases h;exact .sl [] none 0 0 0 (fun _ _=>undef) rfl (Nat.le_refl _) (Nat.zero_le _) (fun r hr=>by cases hr) (fun i j hi=>by omega) (fun _=>⟨rfl,rfl⟩) (fun _ ad h=>by cases h) (fun i j r x hr=>by simp at hr)
theorem V.nn {d:D} {v:Value} (h:V E os d v):V E os d.nn v:=by
 unfold D.nn;split
 ·exact .x h.xx.nn
 ·exact h
theorem VL.nn {ds:List D} {vs:Array Value} (h:VL E os ds vs):VL E os (ds.map D.nn) vs:=by
 refine⟨by simpa using h.1,fun j d v hd hv=> ?_⟩;rw[YA]at hd;obtain⟨d0,h0,rfl⟩:=Zh hd;exact(h.2 j d0 v h0 hv).nn
theorem ZD.nn {f:FuncId} {args:List D} {r:D} (h:ZD P f (args.map D.nn) r):ZD P f args r:=fun w st vs hst hvl=>h w st vs hst hvl.nn
def D.na:D→D
 | .agg ds=> .agg (ds.map D.nn)
 | .x y=>D.nn (.x y)
 | .ref a b c d=> .ref a b c d
 | .ptr a b=> .ptr a b
 | .eptr a b c d=> .eptr a b c d
 | .vptr cs=> .vptr cs
 | .mref a=> .mref a
 | .mnil=> .mnil
 | .iref a b=> .iref a b
 | .stk a b=> .stk a b
 | .bref a b c=> .bref a b c
 | .tup ds=> .tup ds
 | .full rs=> .full rs
 | .nz rs=> .nz rs
 | .fn f c=> .fn f c
 | .opt b d=> .opt b d
 | .und=> .und
theorem V.na {d:D} {v:Value} (h:V E os d v):V E os d.na v:=by
 unfold D.na;split
 ·cases h with
  |agg cs hl h1 hv=>exact .agg cs (by simpa using hl) h1 (fun j d v hd hv'=>by
    rw[YA]at hd;obtain⟨d0,h0,rfl⟩:=Zh hd;exact(hv j d0 v h0 hv').nn)
 ·exact h.nn
 all_goals exact h
theorem VL.na {ds:List D} {vs:Array Value} (h:VL E os ds vs):VL E os (ds.map D.na) vs:=by
 refine⟨by simpa using h.1,fun j d v hd hv=> ?_⟩;rw[YA]at hd;obtain⟨d0,h0,rfl⟩:=Zh hd;exact(h.2 j d0 v h0 hv).na
theorem ZD.na {f:FuncId} {args:List D} {r:D} (h:ZD P f (args.map D.na) r):ZD P f args r:=fun w st vs hst hvl=>h w st vs hst hvl.na
theorem ZV.nn {f:FuncId} {args:List D} {r:D} {os':List Ob} (h:ZV P f (args.map D.nn) (os.map (Ob.mpb D.nn)) r os'):ZV P f args os r os':=by
 intro c E vs R hvl;obtain⟨R1,e1⟩:=R.mpb (f:=D.nn) (fun d v hd=>hd.nn);refine(h c E vs R1 ⟨hvl.nn.1,fun j d v hd hv=>(hvl.nn.2 j d v hd hv).mono e1⟩).mono ?_;rintro e w' ⟨v,E',rfl,rfl,R',ev,hv⟩;exact⟨v,E',rfl,rfl,R',e1.trans ev,hv⟩
def ZA6 (φ:List (Nat×D)):List (Nat×D):=φ.map fun p=>(p.1,p.2.nn)
theorem ZeK (φ:List (Nat×D)) (t:Nat):get (ZA6 φ) t=(get φ t).nn:=by
 induction φ with
 |nil=>rfl
 |cons p φ ih=>
  obtain⟨u,d⟩:=p;simp only[ZA6,List.map_cons,get];split
  ·rfl
  ·exact ih
theorem Wk.nn:Wk c E0 os0 n φ os (ZA6 φ) (os.map (Ob.mpb D.nn)):=by
 intro E a R hf;obtain⟨R1,e1⟩:=R.rel.mpb (f:=D.nn) (fun d v hd=>hd.nn);exact⟨E,rfl,⟨R1,R.evo.trans e1⟩,hf.size,hf.defers,fun t=>by rw[ZeK];exact((hf.slot t).nn).mono e1⟩
theorem WI.nn {ic:IC} (h:WI P c E0 os0 n ic Q (ZA6 φ) (os.map (Ob.mpb D.nn))):WI P c E0 os0 n ic Q φ os:=WI.weak Wk.nn h
def ZK (N:Int) (t:Nat) (φ:List (Nat×D)) (_:List Ob):Nat:=(N-((ZE (get φ t).val).getD 0)).toNat
end
def ZDm (S T:Tabs):Tabs where
 q f args:=match S.q f args with
  |some (true,r)=>some (true,r)
  |_=>T.q f args
 t f args os:=match S.t f args os with
  |some (true,r)=>some (true,r)
  |_=>T.t f args os
 r f args os:=match S.r f args os with
  |some (true,r)=>some (true,r)
  |_=>T.r f args os
 k f args os:=match S.k f args os with
  |some (true,r)=>some (true,r)
  |_=>T.k f args os
theorem ZU7 {P:Program} {S T:Tabs} (hS:SsOk P S) (hT:SsOk P T):SsOk P (ZDm S T):=by
 constructor
 ·intro f args r h;simp only[ZDm]at h;split at h
  ·rename_i r' h1;cases h;exact hS.q _ _ _ h1
  ·exact hT.q _ _ _ h
 ·intro f args os r os' h;simp only[ZDm]at h;split at h
  ·rename_i r' h1;cases h;exact hS.t _ _ _ _ _ h1
  ·exact hT.t _ _ _ _ _ h
 ·intro f args os r h;simp only[ZDm]at h;split at h
  ·rename_i r' h1;cases h;exact hS.r _ _ _ _ h1
  ·exact hT.r _ _ _ _ h
 ·intro f args os r ob h;simp only[ZDm]at h;split at h
  ·rename_i r' h1;cases h;exact hS.k _ _ _ _ _ h1
  ·exact hT.k _ _ _ _ _ h
def ZEO (nq:List FuncId) (G:FuncId→Option IFn) (run:IC→List (Nat×D)→List Ob→Option Out) (b:Bool):Tabs where
 q f args:=if(b&& !Kr f nq)=true then(G f).bind fun p=>(ZEv true run p args []).bind fun r=>if r.1.clean then some (true,r.1)else none else none
 t f args os:=(G f).bind fun p=>(ZEv false run p args os).map fun r=>(true,r)
 r f args os:=if(b&& !Kr f nq)=true then(G f).bind fun p=>Kt (fun args os=>(ZEv true run p args os).bind fun q=>if q.1.clean&&KT os q.2 then some (true,q.1)else none) args os else none
 k f args os:=if b then(G f).bind fun p=>newT (fun args os=>(ZEv false run p args os).bind fun q=>match q.2.drop os.length with
   | [.rows fz e sz rs]=>if KT os q.2 then some (true,q.1,.rows fz e sz rs)else none
   |_=>none) args os else none
def ZfY (os:List Ob):Bool:=os.any fun o=>match o with
 | .rows _ _ _ _=>true
 |_=>false
def Zdb (os:List Ob):List Nat:=List.range os.length
def ZMx (f:List Ob→Option (Bool×List (Nat×D)×List Ob)) (os:List Ob):Option Out:=match f os with
 |some (true,r)=>some (.normal,r)
 |_=>if ZfY os=true then match f (frzL (Zdb os) os)with
  |some (true,r)=>some (.normal,r)
  |_=>none
  else none
theorem ZO7 {P:Program} {c:Ctx} {E0:Env} {os0 os:List Ob} {n:Nat} {Q:Exit→List (Nat×D)→List Ob→Prop} {φ:List (Nat×D)} {ic:IC} {f:List Ob→Option (Bool×List (Nat×D)×List Ob)} (hf: ∀os r,f os=some (true,r)→ ∀Q':Exit→List (Nat×D)→List Ob→Prop,Q' .normal r.1 r.2→WI P c E0 os0 n ic Q' φ os) {x:Exit} {φ':List (Nat×D)} {os':List Ob} (h:ZMx f os=some (x,φ',os')) (hq:Q x φ' os'):WI P c E0 os0 n ic Q φ os:=by
 unfold ZMx at h;split at h
 ·rename_i r hr;cases h;exact hf _ _ hr _ hq
 ·split at h
  ·split at h
   ·rename_i r hr;cases h;exact WI.freeze (Zdb os) (hf _ _ hr _ hq)
   ·cases h
  ·cases h
def ev (S0:Tabs) (nq:List FuncId) (G:FuncId→Option IFn):Nat→IC→List (Nat×D)→List Ob→Option Out
 |0,_,_,_=>none
 |n+1,ic,φ,os=>match ic with
  | .skip=>some (.normal,φ,os)
  | .reg l=>ZMx (fun os=>Qh (ZDm S0 (ZEO nq G (ev S0 nq G n) false)) φ os l) os
  | .dreg k rs l=>ZMx (fun os=>ZLF (ZDm S0 (ZEO nq G (ev S0 nq G n) true)) φ os k rs l) os
  | .seq a b=>(ev S0 nq G n a φ os).bind fun r=>match r.1 with
   | .normal=>ev S0 nq G n b r.2.1 r.2.2
   |_=>some r
  | .cond x a b=>match(ZF φ x).val with
   | .x (.bool v)=>if(ZF φ x).cond then(if v then ev S0 nq G n a φ os else ev S0 nq G n b φ os)else none
   |_=>none
  | .block i b=>(ev S0 nq G n b φ os).map fun r=>match r.1 with
   | .exit j=>if j=i then(.normal,r.2)else r
   |_=>r
  | .loop b=>(ev S0 nq G n b φ os).bind fun r=>match r.1 with
   | .normal=>ev S0 nq G n (.loop b) r.2.1 r.2.2
   |_=>some r
  | .exit i=>some (.exit i,φ,os)
  | .ret=>some (.ret,φ,os)
  | .label _=>some (.normal,φ,os)
  | .goto l=>some (.goto l,φ,os)
  | .scope b cur=>(ev S0 nq G n cur φ os).bind fun r=>match r.1 with
   | .goto l=>match ZCY b l with
    |some rest=>ev S0 nq G n (.scope b rest) r.2.1 r.2.2
    |none=>none
   |_=>some r
  | .dead=>none
section
variable {P:Program} {G:FuncId→Option IFn}
theorem ZVJ {nq:List FuncId} (hG:GOk P G) {run:IC→List (Nat×D)→List Ob→Option Out} (hr:ZYK P run) (b:Bool):SsOk P (ZEO nq G run b):=by
 constructor
 ·intro f args r h;simp only[ZEO]at h;split at h
  ·obtain⟨p,hp,h⟩:=Zp h;obtain⟨⟨r',os'⟩,h1,h⟩:=Zp h;simp only at h;split at h
   ·rename_i hcl;cases h;obtain⟨k1,k2⟩:=ZEH hG hr hp h1;refine⟨k1,ZN.pure (fun c E vs R hvl=>(k2 c E vs R hvl).mono ?_) hcl⟩;rintro e w' ⟨v,E',r2,os2,rfl,rfl,R',e',hv,rfl,rfl⟩;exact⟨v,E',_,_,rfl,rfl,R',e',hv,rfl⟩
   ·cases h
  ·cases h
 ·intro f args os r os' h;simp only[ZEO,Yh]at h;obtain⟨p,hp,h⟩:=h;obtain⟨⟨r',os2⟩,h1,h⟩:=Zh h;simp at h;obtain⟨rfl,rfl⟩:=h;obtain⟨k1,k2⟩:=ZEH hG hr hp h1;exact⟨k1,k2.mcalls⟩
 ·intro f args os r h;simp only[ZEO]at h;split at h
  ·obtain⟨p,hp,h⟩:=Zp h;obtain⟨fn,w1,w2,w3⟩:=hG f p hp;refine⟨enters w1 w2 w3,ZJa (fun args os r hg=> ?_) args os r h⟩;obtain⟨⟨r',os'⟩,h1,h2⟩:=Zp hg;simp only at h2;split at h2
   ·rename_i hcl;simp only[ZY]at hcl;cases h2;obtain⟨X,rfl⟩:=ZGQ hcl.2;exact⟨hcl.1,X,(ZEH hG hr hp h1).2.mcalls⟩
   ·cases h2
  ·cases h
 ·intro f args os r ob h;simp only[ZEO]at h;split at h
  ·obtain⟨p,hp,h⟩:=Zp h;obtain⟨fn,w1,w2,w3⟩:=hG f p hp;refine⟨enters w1 w2 w3,newT_ok (fun args os r ob hg=> ?_) args os r ob h⟩;obtain⟨⟨r',os'⟩,h1,h2⟩:=Zp hg;simp only at h2;split at h2
   ·rename_i fz e sz rs hdrop;split at h2
    ·rename_i hpre;simp only[Zg,Ze,true_and]at h2;obtain⟨rfl,rfl⟩:=h2;obtain⟨X,rfl⟩:=ZGQ hpre;rw[List.drop_left]at hdrop;subst hdrop;exact⟨⟨fz,e,sz,rs,rfl⟩,(ZEH hG hr hp h1).2.mcalls⟩
    ·cases h2
   ·cases h2
  ·cases h
theorem Zeu {S0:Tabs} {nq:List FuncId} (h0:SsOk P S0) (hG:GOk P G): ∀n,ZYK P (ev S0 nq G n)∧(∀b cur φ os x φ' os',ev S0 nq G n (.scope b cur) φ os=some (x,φ',os')→ ∀(c:Ctx) (E0:Env) (os0:List Ob) (m:Nat) (code rc:Code),Zj P m code=some b→Zj P m rc=some cur→ ∀(E:Env) (a:Act),Run c E0 os0 E os→Fr m E os φ a→
  ZLO P code rc (fun y a' w'=> ∃E2 φ2 os2,E2.w=w'∧Run c E0 os0 E2 os2∧Fr m E2 os2 φ2 a'∧y=x∧φ2=φ'∧os2=os') a E.w)∧ ∀b φ os x φ' os',ev S0 nq G n (.loop b) φ os=some (x,φ',os')→ ∀(c:Ctx) (E0:Env) (os0:List Ob) (m:Nat) (code:Code),Zj P m code=some b→ ∀(E:Env) (a:Act),Run c E0 os0 E os→Fr m E os φ a→
  Code.rounds P code (fun y a' w'=> ∃E2 φ2 os2,E2.w=w'∧Run c E0 os0 E2 os2∧Fr m E2 os2 φ2 a'∧y=x∧φ2=φ'∧os2=os') n a E.w:=by
 intro n
 induction n with
 |zero=>exact⟨fun _ _ _ _ _ _ h=>(by cases h),fun _ _ _ _ _ _ _ h=>(by cases h),fun _ _ _ _ _ _ h=>(by cases h)⟩
 |succ n ih=>
  obtain⟨ih1,ih3,ih2⟩:=ih;have hS:=fun b=>ZU7 h0 (ZVJ (nq:=nq) hG ih1 b)
  have B: ∀b φ os x φ' os',ev S0 nq G (n+1) (.loop b) φ os=some (x,φ',os')→ ∀(c:Ctx) (E0:Env) (os0:List Ob) (m:Nat) (code:Code),Zj P m code=some b→ ∀(E:Env) (a:Act),Run c E0 os0 E os→Fr m E os φ a→
    Code.rounds P code (fun y a' w'=> ∃E2 φ2 os2,E2.w=w'∧Run c E0 os0 E2 os2∧Fr m E2 os2 φ2 a'∧y=x∧φ2=φ'∧os2=os') (n+1) a E.w:=by
   intro b φ os x φ' os' h c E0 os0 m code hc E a R hf;simp only[ev,Yh]at h;obtain⟨⟨y,φ1,os1⟩,h1,h⟩:=h;rw[rounds_succ];refine Code.wp_mono ?_ (ih1 b φ os y φ1 os1 h1 c E0 os0 m code hc E a R hf);rintro e a' w' ⟨E',φ2,os2,rfl,R2,f2,rfl,rfl,rfl⟩;cases e<;>simp only at h<;>first
    |exact ih2 _ _ _ _ _ _ h c E0 os0 m code hc E' a' R2 f2
    |(cases h;exact⟨E',_,_,rfl,R2,f2,rfl,rfl,rfl⟩)
  have S: ∀b cur φ os x φ' os',ev S0 nq G (n+1) (.scope b cur) φ os=some (x,φ',os')→ ∀(c:Ctx) (E0:Env) (os0:List Ob) (m:Nat) (code rc:Code),Zj P m code=some b→Zj P m rc=some cur→ ∀(E:Env) (a:Act),Run c E0 os0 E os→Fr m E os φ a→
    ZLO P code rc (fun y a' w'=> ∃E2 φ2 os2,E2.w=w'∧Run c E0 os0 E2 os2∧Fr m E2 os2 φ2 a'∧y=x∧φ2=φ'∧os2=os') a E.w:=by
   intro b cur φ os x φ' os' h c E0 os0 m code rc hcb hcc E a R hf;simp only[ev,Yh]at h;obtain⟨⟨y,φ1,os1⟩,h1,h⟩:=h;refine ZHi (Code.wp_mono ?_ (ih1 cur φ os y φ1 os1 h1 c E0 os0 m rc hcc E a R hf));rintro e a' w' ⟨E',φ2,os2,rfl,R2,f2,rfl,rfl,rfl⟩;cases e with
   |goto l=>
    simp only at h⊢;cases hfi:ZCY b l with
    |none=>rw[hfi]at h;cases h
    |some rest=>
     rw[hfi]at h;obtain⟨rc',k1,k2⟩:=(ZES b code hcb l).1 rest hfi;exact⟨rc',k1,ih3 b rest _ _ _ _ _ h c E0 os0 m code rc' hcb k2 E' a' R2 f2⟩
   |_=>simp only at h;cases h;exact⟨E',_,_,rfl,R2,f2,rfl,rfl,rfl⟩
  refine⟨fun ic φ os x φ' os' h c E0 os0 m=> ?_,S,B⟩;cases ic with
  |skip=>simp only[ev]at h;cases h;exact WI.skip ⟨rfl,rfl,rfl⟩
  |ret=>simp only[ev]at h;cases h;exact WI.ret ⟨rfl,rfl,rfl⟩
  |exit i=>simp only[ev]at h;cases h;exact WI.exit ⟨rfl,rfl,rfl⟩
  |label l=>simp only[ev]at h;cases h;exact WI.label ⟨rfl,rfl,rfl⟩
  |goto l=>simp only[ev]at h;cases h;exact WI.goto ⟨rfl,rfl,rfl⟩
  |dead=>simp only[ev]at h;cases h
  |scope b cur=>
   intro code hc E a R hf;obtain⟨cb,rfl,h1,rfl⟩:=ZHa hc;exact ZKQ (S _ _ φ os x φ' os' h c E0 os0 m cb cb h1 h1 E a R hf)
  |reg l=>
   simp only[ev]at h;exact ZO7 (fun os r hr Q' hq=>WI.reg' (hS _) hr rfl hq) h ⟨rfl,rfl,rfl⟩
  |dreg k rs l=>
   simp only[ev]at h;exact ZO7 (fun os r hr Q' hq=>WI.dreg' (hS _) hr rfl hq) h ⟨rfl,rfl,rfl⟩
  |seq a b=>
   simp only[ev,Yh]at h;obtain⟨⟨y,φ1,os1⟩,h1,h⟩:=h;refine WI.seq (WI.mono (ih1 _ _ _ _ _ _ h1 c E0 os0 m) ?_);rintro e φ2 os2 ⟨rfl,rfl,rfl⟩;cases e<;>simp only at h<;>first
    |exact ih1 _ _ _ _ _ _ h c E0 os0 m
    |(cases h;exact⟨rfl,rfl,rfl⟩)
  |cond x a b=>
   simp only[ev]at h;split at h
   ·rename_i v hv;split at h
    ·rename_i hcd;refine WI.cond hv hcd (fun hb=> ?_) (fun hb=> ?_)
     ·subst hb;exact ih1 _ _ _ _ _ _ h c E0 os0 m
     ·subst hb;exact ih1 _ _ _ _ _ _ h c E0 os0 m
    ·cases h
   ·cases h
  |block i b=>
   simp only[ev,Kh]at h;obtain⟨⟨y,φ1,os1⟩,h1,h⟩:=h;refine WI.block (WI.mono (ih1 _ _ _ _ _ _ h1 c E0 os0 m) ?_);rintro e φ2 os2 ⟨rfl,rfl,rfl⟩;cases e with
   |exit j=>
    simp only at h;simp only[ZDv];split at h
    ·rename_i hj;rw[if_pos hj];cases h;exact⟨rfl,rfl,rfl⟩
    ·rename_i hj;rw[if_neg hj];cases h;exact⟨rfl,rfl,rfl⟩
   |_=>simp only at h;cases h;exact⟨rfl,rfl,rfl⟩
  |loop b=>
   intro code hc E a R hf;obtain⟨cb,rfl,h1⟩:=ZGt hc;exact wp_loop_rounds (n+1) (B b φ os x φ' os' h c E0 os0 m cb h1 E a R hf)
theorem ZcT {S0:Tabs} {nq:List FuncId} (h0:SsOk P S0) (hG:GOk P G) (n:Nat) {f:FuncId} {p:IFn} (hp:G f=some p) {args:List D} {os':List Ob} {r:D} (h:ZEv true (ev S0 nq G n) p args []=some (r,os')) (hcl:r.clean=true):Enters P f∧ZD P f args r:=
 let k:=ZEH hG (Zeu h0 hG n).1 hp h
 ⟨k.1,ZN.pure (fun c E vs R hvl=>(k.2 c E vs R hvl).mono (by
  rintro e w' ⟨v,E',r2,os2,rfl,rfl,R',e',hv,rfl,rfl⟩;exact⟨v,E',_,_,rfl,rfl,R',e',hv,rfl⟩)) hcl⟩
theorem ZVu {P:Program} {G:FuncId→Option IFn} (hG:GOk P G) (n:Nat) {f:FuncId} {p:IFn} (hp:G f=some p) {args:List D} {r:D} (h:(ZEv true (ev ZW [] G n) p args []).map (·.1)=some r) (hcl:r.clean=true):Enters P f∧ZD P f args r:=by
 obtain⟨⟨r',os⟩,h1,h2⟩:=Zh h;simp only at h2;subst h2;exact ZcT ZG hG n hp h1 hcl
end
structure RC (α:Type) where
 n:Nat
 enc:α→List X
 dec:List X→Option α
structure RC.Good {α:Type} (c:RC α):Prop where
 len: ∀a,(c.enc a).length=c.n
 de: ∀a,c.dec (c.enc a)=some a
 ed: ∀r a,c.dec r=some a→c.enc a=r
def Qu (k:IntKind):RC Int:=⟨1,fun x=> [.int k x],fun| [.int k' x]=>if k'=k then some x else none|_=>none⟩
def ZI:RC (List UInt8):=⟨1,fun s=> [.str s],fun| [.str s]=>some s|_=>none⟩
def ZDP:RC Bool:=⟨1,fun s=> [.bool s],fun| [.bool s]=>some s|_=>none⟩
def Kw:RC Unit:=⟨0,fun _=> [],fun| []=>some ()|_=>none⟩
def YZ {α β:Type} (c:RC α) (d:RC β):RC (α×β):=⟨c.n+d.n,fun p=>c.enc p.1++d.enc p.2,fun r=>(c.dec (r.take c.n)).bind fun a=>(d.dec (r.drop c.n)).map fun b=>(a,b)⟩
def Zfg {α β:Type} (c:RC α) (f:β→α) (g:α→β):RC β:=⟨c.n,fun b=>c.enc (f b),fun r=>(c.dec r).map g⟩
def rows {α:Type} (c:RC α) (l:List α):List (List X):=l.map c.enc
def Zd {α:Type} (c:RC α) (rs:List (List X)):Option (List α):=rs.mapM c.dec
def Qi {α:Type} (c:RC α):RC (List α):=⟨1,fun l=> [.sl (rows c l)],fun| [.sl rs]=>Zd c rs|_=>none⟩
theorem ZBP {α β:Type} {f:α→Option β}: ∀ {l:List α} {m:List β},l.mapM f=some m↔l.length=m.length∧ ∀(i:Nat) (h:i<l.length) (h':i<m.length),f l[i]=some m[i]
 | [],m=>by
  cases m<;>simp
 |x::l,m=>by
  simp only[List.mapM_cons,Option.bind_eq_bind,Yh,Option.pure_def,Zg];constructor
  ·rintro⟨y,hy,ys,hys,rfl⟩;obtain⟨h1,h2⟩:=ZBP.1 hys;refine⟨by simp[h1],fun i h h'=> ?_⟩;cases i with
   |zero=>exact hy
   |succ i=>simpa using h2 i (by simpa using h) (by simpa using h')
  ·rintro⟨h1,h2⟩;cases m with
   |nil=>simp at h1
   |cons y ys=>
    refine⟨y,h2 0 (by simp) (by simp),ys,ZBP.2 ⟨by simpa using h1,fun i h h'=> ?_⟩,rfl⟩;exact h2 (i+1) (by simp;omega) (by simp;omega)
section
variable {α β:Type} {c:RC α} {d:RC β}
theorem YE (c:RC α) (l:List α):(rows c l).length=l.length:=by simp[rows]
theorem ZOZ (c:RC α) (l:List α) (i:Nat) (h:i<l.length):(rows c l)[i]? =some (c.enc l[i]):=by simp[rows,h]
theorem Qn (c:RC α) (l:List α) (k:Nat):(rows c l).drop k=rows c (l.drop k):=by simp[rows]
theorem Qk (c:RC α) (l:List α) (k:Nat):(rows c l).take k=rows c (l.take k):=by simp[rows]
theorem Qy (c:RC α) (l m:List α):rows c l++rows c m=rows c (l++m):=by simp[rows]
theorem ZD0 (h:c.Good) (l:List α) (sz:Nat) (hs:c.n=sz):((rows c l).all fun r=>decide (r.length=sz))=true:=by
 subst hs;rw[List.all_eq_true];intro r hr;obtain⟨a,_,rfl⟩:=List.mem_map.1 hr;simp[h.len]
theorem JG (h:c.Good) (l:List α):Zd c (rows c l)=some l:=by
 unfold Zd;rw[ZBP];exact⟨by simp[rows],fun i h1 h2=>by simp[rows,h.de]⟩
theorem ZR (h:c.Good) {rs:List (List X)} {l:List α} (hu:Zd c rs=some l):rows c l=rs:=by
 unfold Zd at hu;rw[ZBP]at hu;refine List.ext_getElem (by simp[rows,hu.1]) (fun i h1 h2=> ?_);have:=hu.2 i h2 (by simpa[rows]using h1);simpa[rows]using h.ed _ _ this
theorem ZNm (k:IntKind) (n:Int):(Qu k).enc n= [.int k n]:=rfl
theorem ZNw (s:List UInt8):ZI.enc s= [.str s]:=rfl
theorem ZLu (b:Bool):ZDP.enc b= [.bool b]:=rfl
theorem ZPC (u:Unit):Kw.enc u= []:=rfl
theorem ZQ0 (c:RC α) (l:List α):(Qi c).enc l= [.sl (rows c l)]:=rfl
theorem ZOP (c:RC α) (d:RC β) (p:α×β):(YZ c d).enc p=c.enc p.1++d.enc p.2:=rfl
theorem ZOv (c:RC α) (f:β→α) (g:α→β) (b:β):(Zfg c f g).enc b=c.enc (f b):=rfl
theorem QF (k:IntKind):(Qu k).Good:=⟨fun _=>rfl,fun a=>by simp[Qu],fun r a h=>by
 simp only[Qu]at h⊢;split at h
 ·split at h
  ·rename_i hk;cases h;rw[hk]
  ·cases h
 ·cases h⟩
theorem ZT:ZI.Good:=⟨fun _=>rfl,fun a=>rfl,fun r a h=>by
 simp only[ZI]at h⊢;split at h
 ·cases h;rfl
 ·cases h⟩
theorem ZJu:ZDP.Good:=⟨fun _=>rfl,fun a=>rfl,fun r a h=>by
 simp only[ZDP]at h⊢;split at h
 ·cases h;rfl
 ·cases h⟩
theorem QK:Kw.Good:=⟨fun _=>rfl,fun a=>rfl,fun r a h=>by
 simp only[Kw]at h⊢;split at h
 ·rfl
 ·cases h⟩
theorem YN (hc:c.Good) (hd:d.Good):(YZ c d).Good:=⟨fun p=>by simp[YZ,hc.len,hd.len],fun p=>by
  have h1:(c.enc p.1++d.enc p.2).take c.n=c.enc p.1:=by rw[List.take_append_of_le_length (by rw[hc.len];exact Nat.le_refl _),YL (by rw[hc.len];exact Nat.le_refl _)]
  have h2:(c.enc p.1++d.enc p.2).drop c.n=d.enc p.2:=by rw[←hc.len p.1];exact List.drop_left
  simp[YZ,h1,h2,hc.de,hd.de],fun r p h=>by
  simp only[YZ,Yh,Kh]at h;obtain⟨a,h1,b,h2,rfl⟩:=h;simp only[YZ,hc.ed _ _ h1,hd.ed _ _ h2,List.take_append_drop]⟩
theorem KW (hc:c.Good):(Qi c).Good:=⟨fun _=>rfl,fun l=>JG hc l,fun r l h=>by
 simp only[Qi]at h⊢;split at h
 ·rw[ZR hc h]
 ·cases h⟩
end
mutual
def X.wf:X→Prop
 | .sl rs=>rs.length≤maxLen∧X.wfR rs
 | .int _ _=>True
 | .bool _=>True
 | .str _=>True
 | .nilp=>True
 | .nils=>True
def X.wfR:List (List X)→Prop
 | []=>True
 |r::l=>X.wfL r∧X.wfR l
def X.wfL:List X→Prop
 | []=>True
 |x::l=>x.wf∧X.wfL l
end
theorem X.wfL_iff: ∀ {l:List X},X.wfL l↔ ∀x∈l,x.wf
 | []=>by simp[X.wfL]
 |x::l=>by simp[X.wfL,X.wfL_iff (l:=l)]
theorem X.wfR_iff: ∀ {rs:List (List X)},X.wfR rs↔ ∀r∈rs,X.wfL r
 | []=>by simp[X.wfR]
 |r::l=>by simp[X.wfR,X.wfR_iff (rs:=l)]
theorem VX.wf {w:World} {st:Nat→Nat→Prop} {x:X} {v:Value} (h:VX w st x v):x.wf:=by
 induction h with
 |sl rs a n c sz val hn hc hm hsz hcell hnil hsp hval ih=>
  refine⟨by omega,X.wfR_iff.2 (fun r hr=>X.wfL_iff.2 (fun x hx=> ?_))⟩;obtain⟨i,hi⟩:=List.mem_iff_getElem?.1 hr;obtain⟨j,hj⟩:=List.mem_iff_getElem?.1 hx;exact ih i j r x hi hj
 |_=>trivial
section
variable {P:Program}
theorem ZD.wf {f:FuncId} {args:List D} {r:D} (h:(∀x,D.x x∈args→x.wf)→ZD P f args r):ZD P f args r:=by
 intro w st vs hst hvl;refine h (fun x hx=> ?_) w st vs hst hvl;obtain⟨j,hj⟩:=List.mem_iff_getElem?.1 hx;have hl:=(Zf hj).1;have hv:vs[j]? =some (vs[j]'(by rw[←hvl.1];exact hl)):=Array.getElem?_eq_getElem _;exact(hvl.2 j _ _ hj hv).xx.wf
theorem WI.wf {c:Ctx} {E0:Env} {os0 os:List Ob} {n:Nat} {Q:Exit→List (Nat×D)→List Ob→Prop} {φ:List (Nat×D)} {ic:IC} (t:Nat) {x:X} (ht:get φ t= .x x) (h:x.wf→WI P c E0 os0 n ic Q φ os):WI P c E0 os0 n ic Q φ os:=by
 intro code hc E a R hf;have:=hf.slot t;rw[ht]at this;exact h this.xx.wf code hc E a R hf
mutual
def X.ok:X→Prop
 | .sl rs=>rs.length≤maxLen∧X.okR rs
 | .int k n=>(Lit.int k n).wf=true
 | .bool _=>True
 | .str s=>s.length≤maxLen
 | .nilp=>True
 | .nils=>True
def X.okR:List (List X)→Prop
 | []=>True
 |r::l=>X.okL r∧X.okR l
def X.okL:List X→Prop
 | []=>True
 |x::l=>x.ok∧X.okL l
end
theorem X.okL_iff: ∀ {l:List X},X.okL l↔ ∀x∈l,x.ok
 | []=>by simp[X.okL]
 |x::l=>by simp[X.okL,X.okL_iff (l:=l)]
theorem X.okR_iff: ∀ {rs:List (List X)},X.okR rs↔ ∀r∈rs,X.okL r
 | []=>by simp[X.okR]
 |r::l=>by simp[X.okR,X.okR_iff (rs:=l)]
theorem X.okL_append {l m:List X}:X.okL (l++m)↔X.okL l∧X.okL m:=by
 simp only[X.okL_iff,List.mem_append];exact⟨fun h=>⟨fun x hx=>h x (.inl hx),fun x hx=>h x (.inr hx)⟩,fun h x hx=>hx.elim (h.1 x) (h.2 x)⟩
def Je (w:World) (xs:List X) (cs:List Value):Prop:=cs.length=xs.length∧ ∀(j:Nat) (x:X) (v:Value),xs[j]? =some x→cs[j]? =some v→VX w (fun b _=>b<w.heap.size) x v
def ZDK (P:Program) (T:TypeId) {α:Type} (c:RC α):Prop:=
 P.cellsOf T=c.n∧ ∀ {H:Type} (enc:TypeId×Value→H) (w:World) (fuel:Nat) (cs:List Value) (x:DataW H×List MemPlace),DataW.trod enc P w 0 (fun _=>true) true fuel T cs=some x→ ∃y,Je w (c.enc y) cs∧X.okL (c.enc y)
theorem Je.one {w:World} {x:X} {v:Value} (h:VX w (fun b _=>b<w.heap.size) x v):Je w [x] [v]:=⟨rfl,fun j y u h1 h2=>by
 cases j with
 |zero=>simp at h1 h2;subst h1;subst h2;exact h
 |succ j=>simp at h1⟩
variable {T:TypeId}
theorem ZUI {k:IntKind} (hT:P.underlying T=some (.int k)) (hc:P.cellsOf T=1):ZDK P T (Qu k):=
 ⟨hc,fun _ _ _ _ _ h=>let⟨n,h1,_,h3⟩:=DataW.trod_int hT h;⟨n,by rw[h1];exact Je.one (.int k n),h3,trivial⟩⟩
theorem ZR8 (hT:P.underlying T=some .bool) (hc:P.cellsOf T=1):ZDK P T ZDP:=
 ⟨hc,fun _ _ _ _ _ h=>let⟨n,h1,_⟩:=DataW.trod_bool hT h;⟨n,by rw[h1];exact Je.one (.bool n),trivial,trivial⟩⟩
theorem Zcd (s:ByteArray):Zc s.toList=s:=by
 apply ByteArray.ext;apply Array.ext';rw[ByteArray.toList_eq];simp[Zc]
theorem ZAZ (hT:P.underlying T=some .string) (hc:P.cellsOf T=1):ZDK P T ZI:=by
 refine⟨hc,fun {H} enc w fuel cs x h=> ?_⟩;obtain⟨s,rfl,_,h3⟩:=DataW.trod_string hT h;have h4:VX w (fun b _=>b<w.heap.size) (.str s.toList) (.string (Zc s.toList)):= .str _;rw[Zcd]at h4;refine⟨s.toList,Je.one h4,?_,trivial⟩;show s.toList.length≤maxLen;rw[ByteArray.toList_eq];simpa using h3
def ZK7 (P:Program) (fuel:Nat) (T:TypeId) {α:Type} (c:RC α):Prop:= ∀ {H:Type} (enc:TypeId×Value→H) (w:World) (cs:List Value) (x:DataW H×List MemPlace),DataW.trod enc P w 0 (fun _=>true) true fuel T cs=some x→ ∃y,Je w (c.enc y) cs∧X.okL (c.enc y)
theorem ZDK.at' {α:Type} {c:RC α} (h:ZDK P T c) (n:Nat):ZK7 P n T c:=fun enc w cs x hx=>h.2 enc w n cs x hx
theorem ZSo {α:Type} {c:RC α} {e:TypeId} {fuel:Nat} (hG:c.Good) (hT:P.underlying T=some (.slice e)) (hce:P.cellsOf e=c.n) (he: ∀n,n<fuel→ZK7 P n e c) (h0:0<c.n):ZK7 P fuel T (Qi c):=by
 intro H enc w cs x h;rcases DataW.trod_slice hT h with⟨rfl,_⟩|⟨a,len,cap,elems,rest,n,hfuel,rfl,_,_,hl,hm,hlen,hel,hsp,_⟩
 ·exact⟨[],Je.one (VX.nn .nils),⟨Nat.zero_le _,trivial⟩,trivial⟩
 ·have key: ∀i,i<len→ ∃(y:α) (cs':List Value),Je w (c.enc y) cs'∧X.okL (c.enc y)∧ ∀j,j<c.n→w.cell? (a.add (i*c.n+j))=cs'[j]? :=by
   intro i hi;have h1:=hel i hi;rw[YC (by omega)]at h1;obtain⟨cs',h2,h3⟩:=Zp h1;obtain⟨y,hy,hy2⟩:=he n (by omega) enc w cs' _ h3;obtain⟨_,hcl,hcc⟩:=World.cells?_some h2;rw[hce]at hcl hcc;refine⟨y,cs',hy,hy2,fun j hj=> ?_⟩;rw[←hcc j hj];congr 1;unfold Addr.add;by_cases h4:i*c.n=0<;>by_cases h5:j=0<;>simp[h4,h5,Nat.add_assoc]
  have spot:0<cap→a.spot=none:=by
   intro hcap;have one: ∀(z:DataW H×List MemPlace),(w.cells? 0 (a.add (0*P.cellsOf e)) (P.cellsOf e)).bind (DataW.trod enc P w 0 (fun _=>true) true n e)=some z→a.spot=none:=by
    intro z hz;obtain⟨cs',h2,h3⟩:=Zp hz;obtain⟨_,hcl,hcc⟩:=World.cells?_some h2;rw[hce]at hcl hcc;have h5:=hcc 0 h0;rw[YC (by omega)]at h5;have:=World.cell?_spot h5;simpa[Addr.add]using this
   by_cases hz:0<len
   ·have h1:=hel 0 hz;rw[YC (by omega)]at h1;exact one _ h1
   ·obtain⟨r1,r2⟩:=hsp rfl;have h1:=r2 0 (by omega);rw[YC (by omega),show len+0=0 by omega]at h1;exact one _ h1
  classical
  by_cases hz:len=0
  ·subst hz;refine⟨[],Je.one (.sl [] (some a) 0 cap 0 (fun _ _=>undef) rfl (Nat.zero_le _) hm (fun r hr=>by cases hr) (fun i j hi=>by omega) (fun h=>by cases h) (fun hc ad had=> ?_) (fun i j r x hr=>by simp at hr)),⟨Nat.zero_le _,trivial⟩,trivial⟩;cases had;exact spot hc
  ·have hne:Nonempty α:=let⟨y,_⟩:=key 0 (by omega);⟨y⟩
   let f:Nat→α:=fun i=>if hi:i<len then Classical.choose (key i hi)else Classical.choice hne
   have hsp0:=spot (by omega);obtain⟨b,off,sp⟩:=a;simp only at hsp0;subst hsp0
   let V':Nat→Nat→Value:=fun i j=>if hi:i<len then(Classical.choose (Classical.choose_spec (key i hi))).getD j undef else undef
   have hf: ∀i (hi:i<len),∃cs',Je w (c.enc (f i)) cs'∧X.okL (c.enc (f i))∧(∀j,j<c.n→w.cell? ⟨b,off+i*c.n+j,none⟩=cs'[j]?)∧ ∀j,V' i j=cs'.getD j undef:=by
    intro i hi;obtain⟨h1,h2,h3⟩:=Classical.choose_spec (Classical.choose_spec (key i hi));refine⟨_,by simpa only[f,dif_pos hi]using h1,by simpa only[f,dif_pos hi]using h2,fun j hj=> ?_,fun j=>by simp only[V',dif_pos hi]⟩;rw[←h3 j hj];congr 1;rw[YX];simp only[Nat.add_assoc]
   have hgl:((List.range len).map f).length=len:=by simp
   have hgi: ∀(i:Nat) (r:List X),(rows c ((List.range len).map f))[i]? =some r→i<len∧r=c.enc (f i):=by
    intro i r hr;simp only[rows,YA,Kh]at hr;obtain⟨y,⟨k,hk,rfl⟩,rfl⟩:=hr;have hk1:=(Zf hk).1;simp only[List.length_range]at hk1;rw[List.getElem?_range hk1]at hk;cases hk;exact⟨hk1,rfl⟩
   refine⟨(List.range len).map f,Je.one (.sl _ (some ⟨b,off,none⟩) len cap c.n V' (by rw[YE,hgl]) hl hm (fun r hr=> ?_) (fun i j hi hj=> ?_) (fun h=>by cases h) (fun _ ad had=>by cases had;rfl) (fun i j r x hr hx=> ?_)),⟨by rw[YE,hgl];omega,X.okR_iff.2 (fun r hr=> ?_)⟩,trivial⟩
   ·obtain⟨y,_,rfl⟩:=List.mem_map.1 hr;exact hG.len _
   ·obtain⟨cs',h1,h2,h3,h4⟩:=hf i hi;have hlc:cs'.length=c.n:=by rw[h1.1,hG.len]
    have h5:=h3 j hj;rw[YC (by omega)]at h5;refine⟨b,off,rfl,World.block_lt_of_cell? _ _ h5,?_⟩;rw[h5,h4];simp[List.getD,hlc,hj]
   ·obtain⟨hi,rfl⟩:=hgi i r hr;obtain⟨cs',h1,h2,h3,h4⟩:=hf i hi;have hj:=(Zf hx).1;have hlc:cs'.length=c.n:=by rw[h1.1,hG.len]
    rw[hG.len]at hj;rw[h4];have h5:cs'[j]? =some (cs'[j]'(by omega)):=YC _;simp only[List.getD,h5,Option.getD_some];exact h1.2 j x _ hx h5
   ·obtain⟨i,hi⟩:=List.mem_iff_getElem?.1 hr;obtain⟨hi2,rfl⟩:=hgi i r hi;obtain⟨cs',h1,h2,h3,h4⟩:=hf i hi2;exact h2
theorem ZCD {α:Type} {c:RC α} {e:TypeId} (hG:c.Good) (hT:P.underlying T=some (.slice e)) (hc:P.cellsOf T=1) (he:ZDK P e c) (h0:0<c.n):ZDK P T (Qi c):=
 ⟨hc,fun enc w fuel cs x h=>ZSo (fuel:=fuel) hG hT he.1 (fun n _=>he.at' n) h0 enc w cs x h⟩
def ZKJ (g:List D→Option (Bool×D)) (args:List D):Option (Bool×D):=g (args.map D.na)
def ZHo (g:List D→List Ob→Option (Bool×D×List Ob)) (args:List D) (os:List Ob):Option (Bool×D×List Ob):=g (args.map D.nn) (os.map (Ob.mpb D.nn))
end
abbrev YR:=YZ ZI (YZ (Qi ZI) Kw)
abbrev ZFI:=YZ ZI (YZ (Qi YR) Kw)
abbrev ZIL:=YZ (Qu .i64) (YZ (Qu .i64) (YZ ZFI (YZ ZFI (YZ ZI Kw))))
abbrev Zt:=List UInt8×(List (List UInt8)×Unit)
abbrev Kl:=List UInt8×(List Zt×Unit)
abbrev Zbp:=Int×(Int×(Kl×(Kl×(List UInt8×Unit))))
instance decAttr:DecidableEq Zt:=fun a b=>decidable_of_iff (a.1=b.1∧a.2.1=b.2.1) ⟨fun h=>Prod.ext h.1 (Prod.ext h.2 rfl),fun h=>h▸⟨rfl,rfl⟩⟩
instance decEntry:DecidableEq Kl:=fun a b=>decidable_of_iff (a.1=b.1∧a.2.1=b.2.1) ⟨fun h=>Prod.ext h.1 (Prod.ext h.2 rfl),fun h=>h▸⟨rfl,rfl⟩⟩
instance decChange:DecidableEq Zbp:=fun a b=>decidable_of_iff ((a.1=b.1∧a.2.1=b.2.1)∧(a.2.2.1=b.2.2.1∧a.2.2.2.1=b.2.2.2.1)∧a.2.2.2.2.1=b.2.2.2.2.1)
 ⟨fun h=>Prod.ext h.1.1 (Prod.ext h.1.2 (Prod.ext h.2.1.1 (Prod.ext h.2.1.2 (Prod.ext h.2.2 rfl)))),fun h=>h▸⟨⟨rfl,rfl⟩,⟨rfl,rfl⟩,rfl⟩⟩
theorem JK:YR.Good:=YN ZT (YN (KW ZT) QK)
theorem ZCb:ZFI.Good:=YN ZT (YN (KW JK) QK)
theorem ZHs:ZIL.Good:=YN (QF _) (YN (QF _) (YN ZCb (YN ZCb (YN ZT QK))))
theorem ZRb (l:List (List UInt8)):Zd ZI (rows ZI l)=some l:=JG ZT l
theorem ZQo (k:IntKind) (l:List Int):Zd (Qu k) (rows (Qu k) l)=some l:=JG (QF k) l
theorem ZOI (l):Zd YR (rows YR l)=some l:=JG JK l
theorem ZMX (l):Zd ZFI (rows ZFI l)=some l:=JG ZCb l
theorem ZKE (l):Zd ZIL (rows ZIL l)=some l:=JG ZHs l
theorem ZGi (l):((rows ZI l).all fun r=>decide (r.length=1))=true:=ZD0 ZT l 1 rfl
theorem ZGn (k) (l):((rows (Qu k) l).all fun r=>decide (r.length=1))=true:=ZD0 (QF k) l 1 rfl
theorem ZEm (l):((rows YR l).all fun r=>decide (r.length=2))=true:=ZD0 JK l 2 rfl
theorem ZDN (l):((rows ZFI l).all fun r=>decide (r.length=2))=true:=ZD0 ZCb l 2 rfl
theorem ZCX (l):((rows ZIL l).all fun r=>decide (r.length=7))=true:=ZD0 ZHs l 7 rfl
section
variable {P:Program} {T:TypeId} {w:World}
theorem Je.append {xs ys:List X} {cs ds:List Value} (h:Je w xs cs) (k:Je w ys ds):Je w (xs++ys) (cs++ds):=by
 refine⟨by simp[h.1,k.1],fun j x v hx hv=> ?_⟩;by_cases hj:j<xs.length
 ·rw[Yr hj]at hx;rw[Yr (by rw[h.1];exact hj)]at hv;exact h.2 j x v hx hv
 ·rw[List.getElem?_append_right (by omega)]at hx;rw[List.getElem?_append_right (by rw[h.1];omega),h.1]at hv;exact k.2 _ x v hx hv
theorem Je.nil:Je w [] []:=⟨rfl,fun j x v h=>by simp at h⟩
inductive FieldsO (P:Program):List Field→Nat→ {α:Type}→RC α→Prop
 |nil (off:Nat):FieldsO P [] off Kw
 |cons {f:Field} {fs:List Field} {off:Nat} {α β:Type} {c:RC α} {d:RC β} (ho:f.offset=off) (hE:ZDK P f.type c) (hF:FieldsO P fs (off+c.n) d):FieldsO P (f::fs) off (YZ c d)
theorem ZN3 {fs:List Field} {off:Nat} {α:Type} {c:RC α} (hf:FieldsO P fs off c) {H:Type} (enc:TypeId×Value→H) (w:World) (fuel:Nat) (cs:List Value)
  (h: ∀f∈fs,∃x,DataW.trod enc P w 0 (fun _=>true) true fuel f.type ((cs.drop f.offset).take (P.cellsOf f.type))=some x):
  ∃y,Je w (c.enc y) ((cs.drop off).take c.n)∧X.okL (c.enc y):=by
 induction hf with
 |nil off=>exact⟨(),by simpa[Kw]using Je.nil,trivial⟩
 | @cons f fs off α β c d ho hE hF ih=>
  obtain⟨y,hy,hy2⟩:=ih (fun g hg=>h g (List.mem_cons_of_mem _ hg));obtain⟨x,hx⟩:=h f List.mem_cons_self;obtain⟨z,hz,hz2⟩:=hE.2 enc w fuel _ _ hx;rw[hE.1,ho]at hz;refine⟨(z,y),?_,X.okL_append.2 ⟨hz2,hy2⟩⟩;show Je w (c.enc z++d.enc y) ((cs.drop off).take (c.n+d.n));rw[List.take_add,List.drop_drop];exact hz.append hy
theorem ZBt {α:Type} {c:RC α} {fs:Array Field} (hT:P.underlying T=some (.struct fs)) (hc:P.cellsOf T=c.n) (hf:FieldsO P fs.toList 0 c):ZDK P T c:=by
 refine⟨hc,fun {H} enc w fuel cs x h=> ?_⟩;obtain⟨xs,n,rfl,_,hl,hxl,hx⟩:=DataW.trod_struct hT h;obtain⟨y,hy⟩:=ZN3 hf enc w n cs (fun f hf=>by
  obtain⟨i,hi⟩:=List.mem_iff_getElem?.1 hf;have hi':fs[i]? =some f:=by simpa using hi
  have h1:=hx i f hi';have hlt:i<xs.length:=by rw[hxl];exact(Ql hi').1
  rw[YC hlt]at h1;exact⟨_,h1⟩)
 refine⟨y,?_⟩;rw[List.drop_zero,YL (by omega)]at hy;exact hy
inductive VF (E:Env) (os:List Ob):List D→List Value→Prop
 |nil:VF E os [] []
 |cons {d:D} {v:Value} {ds:List D} {l:List Value} (h:V E os d v) (t:VF E os ds l):VF E os (d::ds) (v::l)
theorem VL.mk {E:Env} {os:List Ob}: ∀ {ds:List D} {l:List Value},VF E os ds l→VL E os ds l.toArray
 |_,_,.nil=>⟨rfl,fun j d v h=>by simp at h⟩
 |_,_,.cons (d:=d) (v:=v) (ds:=ds) (l:=l) h t=>by
  have ih:=VL.mk t;refine⟨by have:=ih.1;simp at this⊢;exact this,fun j d' v' hd hv=> ?_⟩;cases j with
  |zero=>simp at hd hv;subst hd;subst hv;exact h
  |succ j=>exact ih.2 j d' v' (by simpa using hd) (by simpa using hv)
abbrev ZaC (w:World):Env:=⟨w,fun b _=>b<w.heap.size,[]⟩
theorem V.lies1 {x:X} {v:Value} (h:Je w [x] [v]):V (ZaC w) [] (.x x) v:= .x (h.2 0 x v rfl rfl)
theorem V.liesA {xs:List X} {cs:Array Value} (h:Je w xs cs.toList):V (ZaC w) [] (.agg (xs.map .x)) (.agg cs):=by
 have hl:xs.length=cs.size:=by rw[←h.1];simp
 refine .agg cs (by simpa using hl) (fun v hv=> ?_) (fun j d v hd hv=> ?_)
 ·obtain⟨j,hj⟩:=List.mem_iff_getElem?.1 hv;have hlt:=(Zf hj).1;exact(h.2 j _ v (YC (by simpa[hl]using hlt)) hj).one
 ·rw[YA]at hd;obtain⟨x,hx,rfl⟩:=Zh hd;exact .x (h.2 j x v hx (by simpa using hv))
theorem ZD.law {f:FuncId} {args:List D} (h:ZD P f args (.x (.bool true))) {vs:List Value} (hvl:VF (ZaC w) [] args vs):Calls P f vs.toArray w fun e w'=>e= .returned (.bool true)∧KO w w':=by
 refine(h w (fun b _=>b<w.heap.size) vs.toArray (fun _ _ hb=>hb) (VL.mk hvl)).mono ?_;rintro e w' ⟨v,st',rfl,hk,_,_,hv⟩;rw[V.bool hv];exact⟨rfl,hk.os,hk.tape,hk.output,hk.size,fun k hb=>hk.block k hb (fun h=>h)⟩
end
end Go.Ab
end
