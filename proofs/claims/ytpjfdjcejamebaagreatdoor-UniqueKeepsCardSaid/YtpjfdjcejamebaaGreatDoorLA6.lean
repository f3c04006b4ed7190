import Derived.Test.YtpjfdjcejamebaaGreatDoorLA5
set_option linter.unusedSimpArgs false
set_option linter.unusedVariables false
set_option maxRecDepth 100000
section
namespace Go.Ab
open Go.RowKit Go.Bo
def mbL:Ob->Nat×Value->W0
 | .box _,p=> [p.1]
 | .mpo _ _ _,p=> [p.1]
 | .mpn _ _ _ _ _,p=> [p.1]
 | .sit _ _,p=> [p.1]
 | .nit,p=> [p.1]
 | .rows _ _ _ _,p=>p.2.ownBlock.toList
 | .drw _ _ _,p=>p.2.ownBlock.toList
 | .mit _ _ _ _ _ _,p=>p.1::match p.2 with
  | .pointer (some ad)=>if ad=⟨ad.block,0,none⟩then [ad.block]else []
  |_=> []
 |_,_=> []
theorem ZT7{o:Ob}{p:Nat×Value}{b:Nat}(h:o.nof=true):b∈mbL o p↔o.mb p b:=by
 cases o with
 |fam _ _ _=>cases h
 |mit=>
  obtain⟨q,v⟩:=p;simp only[mbL,Ob.mb,Kr];constructor
  .rintro(h|h)
   .exact .inl h.symm
   .split at h
    .rename_i ad;split at h
     .rename_i e;simp only[ξZ]at h;subst h;exact .inr (by rw[e])
     .cases h
    .cases h
  .rintro(h|h)
   .exact .inl h.symm
   .subst h;right;simp
 |rows=>simp[mbL,Ob.mb]
 |drw=>simp[mbL,Ob.mb]
 |_=>simp[mbL,Ob.mb,eq_comm]
def ZCo(os:J7)(ob:List (Nat×Value)):W0:=(List.zipWith mbL os ob).flatten
theorem ZHR{os:J7}{ob:List (Nat×Value)}(hn:os.all Ob.nof=true){b:Nat}:b∈ZCo os ob↔ ∃(i:Nat) (o:Ob) (q:Nat×Value),os[i]? =some o/\ob[i]? =some q/\o.mb q b:=by
 unfold ZCo;rw[List.mem_flatten];constructor
 .rintro⟨l,hl,hb⟩;obtain⟨i,hi⟩:=ZE7.1 hl;rw[List.getElem?_zipWith]at hi;split at hi
  .rename_i o q h1 h2;cases hi;exact⟨i,o,q,h1,h2,(ZT7 (Yc.1 hn o (Yj h1))).1 hb⟩
  .cases hi
 .rintro⟨i,o,q,h1,h2,h3⟩;exact⟨mbL o q,ZE7.2 ⟨i,by rw[List.getElem?_zipWith,h1,h2]⟩,(ZT7 (Yc.1 hn o (Yj h1))).2 h3⟩
def ZCv(l:W0):Value:= .tuple (l.map λb:Nat=>Value.int .i64 (b:Int)).toArray
theorem ZGq{l:W0}{b:Nat}:(∃vs,ZCv l= .tuple vs/\Value.int .i64 b∈vs.toList)↔b∈l:=by
 unfold ZCv;constructor
 .rintro⟨vs,h,hb⟩;cases h;simp only[List.toList_toArray,YT]at hb;obtain⟨a,ha,h⟩:=hb;simp only[Value.int.injEq,true_and]at h;have:a=b:=by omega
  subst this;exact ha
 .intro h;exact⟨_,rfl,by simp only[List.toList_toArray,YT];exact⟨b,h,rfl⟩⟩
theorem ZEO.nof{k:Nat}{P:List W2}{B:List (X×J6)}{os:J7}(h:ZEO k P B os):os.all Ob.nof=true:=by
 rcases h with⟨P1,P2,P3,C,Y,_,rfl,_,_,h,_⟩|⟨P1,P2,_,_,rfl⟩
 .simp[Ob.nof,h]
 .rfl
theorem ZEO.hd{k:Nat}{P:List W2}{B:List (X×J6)}{os:J7}(h:ZEO k P B os): ∃ds,os[0]? =some (.box ds):=by
 rcases h with⟨P1,P2,P3,C,Y,_,rfl,_,_,h,_⟩|⟨P1,P2,_,_,rfl⟩<;>exact⟨_,rfl⟩
section
variable {P:Program} {c:Ctx} {E:Env} {k:Nat} {A A2:List W2} {B B2:List (X×J6)}
theorem Fam.rel{p:Nat×Value}{os':J7}{ob':List (Nat×Value)}(hE:E.ob= [p])(R:Rel c E [.fam k A B])(hf:Fam E.w E.st p os' ob'):Rel c ⟨E.w,E.st,ob'⟩ os':=by
 have hp:E.ob[0]? =some p:=by rw[hE];rfl
 refine⟨hf.len,λi o q h1 h2=>OK.of0 (hf.ok i o q h1 h2),hf.dis,λb off hs=>⟨(R.stm b off hs).1,λi o q h1 h2 h3=> ?_⟩,R.kept,λi o q b h1 h2 h3=> ?_,R.sto⟩
 .exact(R.stm b off hs).2 0 _ p rfl hp (hf.sub i o q b h1 h2 h3)
 .exact R.mbs 0 _ p b rfl hp (hf.sub i o q b h1 h2 h3)
theorem Fam.close{os2:J7}(R:Rel c E os2)(hn:os2.all Ob.nof=true){q:Nat×Value}(hq:E.ob[0]? =some q):Fam E.w E.st (q.1,ZCv (ZCo os2 E.ob)) os2 E.ob:=by
 refine⟨R.len,⟨q,hq,rfl⟩,λi o q h1 h2=> ?_,R.dis,λi o q b h1 h2 h3=>ZGq.2 ((ZHR hn).2 ⟨i,o,q,h1,h2,h3⟩),λvs b e hb=>(ZHR hn).1 (ZGq.1 ⟨vs,e,hb⟩)⟩;have h:=R.ok i o q h1 h2;rcases h.to0 with⟨k,A,B,rfl⟩|h
 .have:=Yc.1 hn _ (Yj h1);cases this
 .exact h
theorem Rel.fam{os2:J7}(R:Rel c E os2)(hi:ZEO k A B os2){q:Nat×Value}(hq:E.ob[0]? =some q):Rel c ⟨E.w,E.st,[(q.1,ZCv (ZCo os2 E.ob))]⟩ [.fam k A B]:=by
 have at0: ∀ {i:Nat} {o:Ob} {p:Nat×Value},[Ob.fam k A B][i]? =some o-> [(q.1,ZCv (ZCo os2 E.ob))][i]? =some p->i=0/\o= .fam k A B/\p=(q.1,ZCv (ZCo os2 E.ob)):=by
  intro i o p h1 h2;cases i with
  |zero=>cases h1;cases h2;exact⟨rfl,rfl,rfl⟩
  |succ i=>simp at h1
 refine⟨rfl,λi o p h1 h2=> ?_,λi j o o' p p' b h1 h2 h3 h4 _ _=> ?_,λb off hs=>⟨(R.stm b off hs).1,λi o p h1 h2 h3=> ?_⟩,R.kept,λi o p b h1 h2 h3=> ?_,R.sto⟩
 .obtain⟨rfl,rfl,rfl⟩:=at0 h1 h2;exact⟨os2,E.ob,hi,Fam.close R hi.nof hq⟩
 .rw[(at0 h1 h2).1,(at0 h3 h4).1]
 .obtain⟨rfl,rfl,rfl⟩:=at0 h1 h2;obtain⟨i,o,p,k1,k2,k3⟩:=(ZHR hi.nof).1 (ZGq.1 h3);exact(R.stm b off hs).2 i o p k1 k2 k3
 .obtain⟨rfl,rfl,rfl⟩:=at0 h1 h2;obtain⟨i,o,p,k1,k2,k3⟩:=(ZHR hi.nof).1 (ZGq.1 h3);exact R.mbs i o p b k1 k2 k3
theorem ZKC{f:FuncId}{args:J8}{r:D}(hp:args.all D.plain=true)(hr:r.clean=true)(h: ∀os',ZEO k A B os'->ZI P f (.ptr 0 0::args) os' (λr' os2=>r'=r/\ZEO k A2 B2 os2)):ZN P f (.iref 0 0::args) [.fam k A B] r [.fam k A2 B2]:=by
 intro c E vs R hvl;obtain⟨p,hp0,hok⟩:=R.at (i:=0) (o:= .fam k A B) rfl;obtain⟨os',ob',hi,hf⟩:=hok;have hE:E.ob= [p]:=by
  have hl:=R.len
  match hEo:E.ob,hl with
  | [x],_=>rw[hEo]at hp0;cases hp0;rfl
 obtain⟨q,hq,hqp⟩:=hf.hd;obtain⟨ds,hbx⟩:=hi.hd;have hvl':VL ⟨E.w,E.st,ob'⟩ os' (.ptr 0 0::args) vs:=by
  refine⟨hvl.1,λj d v hd hv=> ?_⟩;cases j with
  |zero=>
   cases hd;have h0:=hvl.2 0 _ v rfl hv;cases h0 with
   |iref ho hk hb=>
    rw[hp0]at hb;cases hb;exact V.ptr (off:=0) hbx (b:=q.1) (cu:=q.2) hq|>λh=>by rw[hqp]at h;exact h
  |succ j=>exact(hvl.2 (j+1) d v hd hv).ofPlain (Yc.1 hp d (Yj hd)) (λ_ _ h=>h)
 refine(h os' hi c _ vs (hf.rel hE R) hvl').mono ?_;rintro e w' ⟨v,E1,r1,os2,rfl,rfl,R1,ev,hv,rfl,hi2⟩;obtain⟨cu',o',g1,g2,g3⟩:=ev.bl 0 q.1 q.2 _ _ hbx rfl hq;refine⟨v,⟨E1.w,E1.st,[(q.1,ZCv (ZCo os2 E1.ob))]⟩,rfl,rfl,R1.fam (q:=(q.1,cu')) hi2 g3,⟨ev.st,λid b cu o kd ho hk hb=> ?_,λid o sz n ho hs=> ?_⟩,hv.ofClean hr (λ_ _ h=>h)⟩
 .cases id with
  |zero=>
   cases ho;rw[hp0]at hb;cases hb;rw[hqp];exact⟨_,.fam k A2 B2,rfl,hk,rfl⟩
  |succ id=>simp at ho
 .cases id with
  |zero=>cases ho;cases hs
  |succ id=>simp at ho
end
section
variable {P:Program} {c:Ctx} {E0:Env} {os0 os:J7} {n:Nat} {Q:Exit->J4->J7->Prop} {φ:J4}
theorem WR.callF{g:FuncId}{caps:J8}{dst:Option Nat}{f:IO}{xs:List IO}{il2:List IOp}{Post:D->J7->Prop}(hen:Enters P g){args:J8}(hpc:ZI P g args os Post)(h: ∀r os2,Post r os2->WR P c E0 os0 n il2 Q (putO φ dst r) os2)
  (hv:(ZF φ f).val= .fn g caps:=by rfl) (c1:(ZF φ f).cond=true:=by rfl) (c2:(xs.all λy=>(ZF φ y).cond)=true:=by rfl) (ha:(xs.map λy=>(ZF φ y).val)++caps=args:=by rfl):WR P c E0 os0 n (⟨dst,.call f xs,none⟩::il2) Q φ os:=by
 intro ops lo hm E a R hf;cases lo with
 |nil=>simp at hm
 |cons o l=>
  simp only[ZAL,Jr,JD,ZBA]at hm;obtain⟨io,hio,il',hil,hm⟩:=hm;simp only[Ze,ZF1]at hm;obtain⟨rfl,rfl⟩:=hm;simp only[JB,JD]at hio;obtain⟨e,he,hio⟩:=hio;split at hio
  .rename_i hdst;split at hio
   .rename_i hg;simp only[Ze,IOp.mk.injEq,and_true]at hio;obtain⟨rfl,rfl⟩:=hio;refine wpList_step λK' hK'=> ?_
    simp only[Region.wanted,hg,if_true];refine ZH3 hf he hv c1 (Yc.1 c2) hen (λvs hvl=>(hpc c E vs R.rel (ha▸hvl)).mono ?_);rintro e w' ⟨v,E',r,os2,rfl,rfl,R',ev,hvv,hpost⟩;exact⟨v,rfl,hK' _ _ (h r os2 hpost ops l hil E' _ ⟨R',R.evo.trans ev⟩ ((hf.mono ev).putO hdst hvv))⟩
   .obtain⟨s,_,hio⟩:=Zd hio;cases hio
  .cases hio
def D.nn0:D->D
 | .x .nils=> .x (.sl [])
 |d=>d
theorem V.nn0{E:Env}{d:D}{v:Value}(h:V E os d v):V E os d.nn0 v:=by
 unfold D.nn0;split
 .exact .x (VX.nn0 h.xx)
 .exact h
def ZRE(φ:J4):J4:=φ.map λp=>(p.1,p.2.nn0)
theorem Ze7(φ:J4)(t:Nat):get (ZRE φ) t=(get φ t).nn0:=by
 induction φ with
 |nil=>rfl
 |cons p φ ih=>
  obtain⟨u,d⟩:=p;simp only[ZRE,YO,get];split
  .rfl
  .exact ih
theorem WI.nn0A{ic:IC}{φ':J4}(h:WI P c E0 os0 n ic Q φ' os)(hp:ZRE φ=φ':=by simp only[ZRE,D.nn0,YO,ZAu];rfl):WI P c E0 os0 n ic Q φ os:=
 WI.weak (λE a R hf=>⟨E,rfl,R,hf.size,hf.defers,λt=>by rw[Ze7];exact(hf.slot t).nn0⟩) (by rw[hp];exact h)
def ZV2:D->D
 | .ptr 0 0=> .iref 0 0
 | .x x=> .x x
 | .agg ds=>if(D.agg ds).plain then .agg ds else .und
 | .fn f []=> .fn f []
 |_=> .und
def ZRH(φ:J4):J4:=φ.map λp=>(p.1,ZV2 p.2)
theorem Zee(φ:J4)(t:Nat):get (ZRH φ) t=ZV2 (get φ t):=by
 induction φ with
 |nil=>rfl
 |cons p φ ih=>
  obtain⟨u,d⟩:=p;simp only[ZRH,YO,get];split
  .rfl
  .exact ih
theorem WI.famA{ic:IC}{φ':J4}(k:Nat){A:List W2}{B:List (X×J6)}(hi:ZEO k A B os)(h:WI P c E0 [] n ic Q φ' [.fam k A B])(hp:ZRH φ=φ':=by simp only[ZRH,ZV2,D.plain,D.isX,ZAe,ZGw,ZVc,if_true,YO,ZAu];rfl):WI P c E0 [] n ic Q φ os:=by
 refine WI.weak (λE a R hf=> ?_) (by rw[<-hp]at h;exact h);obtain⟨ds,hd⟩:=hi.hd;obtain⟨q,hq,_⟩:=R.rel.at hd;refine⟨⟨E.w,E.st,[(q.1,ZCv (ZCo os E.ob))]⟩,rfl,⟨R.rel.fam hi hq,R.evo.st,λid b cu o kd ho _ _=>(by simp at ho),λid o sz m ho _=>(by simp at ho)⟩,hf.size,hf.defers,λt=> ?_⟩;rw[Zee];have hv:=hf.slot t;unfold ZV2;split
 .rename_i e;rw[e]at hv;generalize a.tmps.getD t undef=v at hv;cases hv with
  |ptr ho hb=>
   rw[hq]at hb;cases hb;exact .iref (o:= .fam k A B) (cu:=ZCv (ZCo os E.ob)) rfl rfl rfl
 .rename_i x e;rw[e]at hv;exact hv.ofPlain rfl (λ_ _ h=>h)
 .rename_i l e;rw[e]at hv;split
  .rename_i hpl;exact hv.ofPlain hpl (λ_ _ h=>h)
  .exact .und _
 .rename_i f e;rw[e]at hv;exact hv.ofPlain rfl (λ_ _ h=>h)
 .exact .und _
end
open Go Go.RowKit Go.Bo
section
variable {P:Program} {c:Ctx} {E0 E:Env} {n:Nat} {Q:Exit->J4->J7->Prop} {φ:J4}
end
theorem ZDQ.fam{P:Program}{f:FuncId}{args:J8}{k:Nat}{A:List W2}{B:List (X×J6)}{os' OS:J7}(h:ZN P f args [] (.ptr 0 0) os')(hp:args.all D.plain=true)(hi:ZEO k A B os'):ZDQ P f args OS (λj=> .iref j j) (.fam k A B):=by
 intro Y id c E vs hd R hvl;generalize OS++Y=os at hd R hvl;obtain⟨ds,hbx⟩:=hi.hd;have hlt:=(Zb hd).1;have R0:Rel ⟨E.w,E.st,λ_=>False⟩ ⟨E.w,E.st,[]⟩ []:=⟨rfl,λi o p h=>by simp at h,λi j o o' p p' b h=>by simp at h,λb off hs=>⟨(R.stm b off hs).1,λi o p h=>by simp at h⟩,Kept.refl _ _,λi o p b h=>by simp at h,λb off hs=> .inl hs⟩;have hvl0:VL ⟨E.w,E.st,[]⟩ [] args vs:=⟨hvl.1,λj d v h1 h2=>(hvl.2 j d v h1 h2).ofPlain (Yc.1 hp d (Yj h1)) (λ_ _ h=>h)⟩;refine(h _ _ vs R0 hvl0).mono ?_;rintro e w' ⟨v,E1,rfl,rfl,R1,ev1,hv⟩;obtain⟨q,hq,_⟩:=R1.at hbx;have hk1:Kept (λ_=>False) E.w E1.w:=R1.kept;have hfresh: ∀ {b:Nat},(Ob.fam k A B).mb (q.1,ZCv (ZCo os' E1.ob)) b->E.w.heap.size<=b/\ ∃(i:Nat) (o:Ob) (p:Nat×Value),os'[i]? =some o/\E1.ob[i]? =some p/\o.mb p b:=λh=>by
  obtain⟨i,o,p,k1,k2,k3⟩:=(ZHR hi.nof).1 (ZGq.1 h);exact⟨(R1.mbs i o p _ k1 k2 k3).resolve_left (λh=>h),i,o,p,k1,k2,k3⟩
 have hold: ∀ {i:Nat} {o:Ob} {p:Nat×Value} {b:Nat},os[i]? =some o->E.ob[i]? =some p->o.mb p b->b<E.w.heap.size:=λh1 h2 h3=>(R.ok _ _ _ h1 h2).lt h3
 have hid:id<E.ob.length:=by rw[R.len];exact hlt
 have ev:Evo E os ⟨E1.w,E1.st,E.ob.set id (q.1,ZCv (ZCo os' E1.ob))⟩ (os.set id (.fam k A B)):=by
  refine⟨ev1.st,λi b cu o kd ho hk hb=> ?_,λi o sz n ho hs=> ?_⟩
  .have hne:id≠i:=λe=>by subst e;rw[hd]at ho;cases ho;cases hk
   exact⟨cu,o,by rw[ZD1 hne];exact ho,hk,by show(E.ob.set id _)[i]? =_;rw[ZD1 hne];exact hb⟩
  .have hne:id≠i:=λe=>by subst e;rw[hd]at ho;cases ho;cases hs
   exact⟨o,n,by rw[ZD1 hne];exact ho,hs,.inl ⟨rfl,by show(E.ob.set id _)[i]? =_;rw[ZD1 hne]⟩⟩
 have at': ∀ {i:Nat} {o:Ob} {p:Nat×Value},(os.set id (.fam k A B))[i]? =some o->(E.ob.set id (q.1,ZCv (ZCo os' E1.ob)))[i]? =some p->(i=id/\o= .fam k A B/\p=(q.1,ZCv (ZCo os' E1.ob)))\/(i≠id/\os[i]? =some o/\E.ob[i]? =some p):=by
  intro i o p h1 h2;by_cases e:i=id
  .subst e;rw[ZE8 hlt]at h1;rw[ZE8 hid]at h2;cases h1;cases h2;exact .inl ⟨rfl,rfl,rfl⟩
  .rw[ZD1 (λe2=>e e2.symm)]at h1 h2;exact .inr ⟨e,h1,h2⟩
 refine⟨v,⟨E1.w,E1.st,E.ob.set id (q.1,ZCv (ZCo os' E1.ob))⟩,rfl,rfl,⟨by simp[R.len],λi o p h1 h2=> ?_,λi j o o' p p' b h1 h2 h3 h4 h5 h6=> ?_,λb off hs=>⟨(R1.stm b off hs).1,λi o p h1 h2 h3=> ?_⟩,R.kept.trans hk1 (λi h=>h.elim),λi o p b h1 h2 h3=> ?_,λb off hs=> ?_⟩,ev,?_⟩
 .rcases at' h1 h2 with⟨rfl,rfl,rfl⟩|⟨_,h3,h4⟩
  .exact⟨os',E1.ob,hi,Fam.close R1 hi.nof hq⟩
  .exact(R.ok i o p h3 h4).mono ev (λb hb=>hk1.block b (hold h3 h4 hb) (λh=>h))
 .rcases at' h1 h2 with⟨rfl,rfl,rfl⟩|⟨_,a1,a2⟩<;>rcases at' h3 h4 with⟨rfl,rfl,rfl⟩|⟨_,a3,a4⟩
  .rfl
  .have:=(hfresh h5).1;have:=hold a3 a4 h6;omega
  .have:=(hfresh h6).1;have:=hold a1 a2 h5;omega
  .exact R.dis _ _ _ _ _ _ b a1 a2 a3 a4 h5 h6
 .rcases at' h1 h2 with⟨rfl,rfl,rfl⟩|⟨_,a1,a2⟩
  .obtain⟨_,i,o,p,k1,k2,k3⟩:=hfresh h3;exact(R1.stm b off hs).2 i o p k1 k2 k3
  .rcases R1.sto b off hs with h|h|h
   .exact(R.stm b off h).2 i o p a1 a2 h3
   .exact h
   .have:=hold a1 a2 h3;exact absurd h (by show ¬E.w.heap.size<=b;omega)
 .rcases at' h1 h2 with⟨rfl,rfl,rfl⟩|⟨_,a1,a2⟩
  .exact .inr (ZJw R.kept.size (hfresh h3).1)
  .exact R.mbs i o p b a1 a2 h3
 .rcases R1.sto b off hs with h|h|h
  .exact R.sto b off h
  .exact h.elim
  .exact .inr (.inr (ZJw R.kept.size h))
 .cases hv with
  |ptr ho hb=>
   rw[hq]at hb;cases hb;exact .iref (o:= .fam k A B) (cu:=ZCv (ZCo os' E1.ob)) (by rw[ZE8 hlt]) rfl (by show(E.ob.set id _)[id]? =_;rw[ZE8 hid])
theorem ZN.frzL{P:Program}{f:FuncId}{pre:J8}{OS OS' os2:J7}{d:D}{x:X}{r:D}(hf:Ya OS [d]=some ([x],os2))(h:ZN P f (pre++ [.x x]) os2 r OS'):ZN P f (pre++ [d]) OS r OS':=by
 intro c E vs R hvl;obtain⟨hl,hv⟩:=hvl;rw[Zg,ZKx]at hl;have hlast:vs[pre.length]? =some (vs[pre.length]' J0):=ξL _;obtain⟨st',R1,ev1,hl1,hv1⟩:=ZBu (vs:= [vs[pre.length]' J0]) R (λj d' v hd hv'=>by
  cases j with
  |zero=>cases hd;cases hv';exact hv pre.length d _ J1 hlast
  |succ j=>simp at hd) rfl hf
 have hvl':VL ⟨E.w,st',E.ob⟩ os2 (pre++ [.x x]) vs:=by
  refine⟨by rw[Zg,ZKx];exact hl,λj d' v hd hv'=> ?_⟩;by_cases hj:j<pre.length
  .rw[Ym hj]at hd;exact(hv j d' v (by rw[Ym hj];exact hd) hv').mono ev1
  .rw[Qe J0]at hd;have hj2:j=pre.length:=by
    have:=(Zb hd).1;simp at this;omega
   subst hj2;rw[ZIN]at hd;cases hd;rw[hlast]at hv';cases hv';exact .x (hv1 0 x _ rfl rfl)
 refine(h c _ vs R1 hvl').mono ?_;rintro e w' ⟨v,E',h1,h2,h3,h4,h5⟩;exact⟨v,E',h1,h2,h3,ev1.trans h4,h5⟩
end Go.Ab
end
