import Derived.Test.YtiogclkbccdefaaGreatDoorLA5
set_option linter.unusedSimpArgs false
set_option linter.unusedVariables false
set_option maxRecDepth 100000
section
namespace Go.Ab
open Go.RowKit Go.Bo
def mbL:Ob->Nat×Value->W0
 | .box _,p=> [p.1]
 | .mpo _ _ _,p=> [p.1]
 | .mpn _ _ _ _ _,p=> [p.1]
 | .sit _ _,p=> [p.1]
 | .nit,p=> [p.1]
 | .rows _ _ _ _,p=>p.2.ownBlock.toList
 | .drw _ _ _,p=>p.2.ownBlock.toList
 | .mit _ _ _ _ _ _,p=>p.1::match p.2 with
  | .pointer (some ad)=>if ad=⟨ad.block,0,none⟩then [ad.block]else []
  |_=> []
 |_,_=> []
theorem ZUG{o:Ob}{p:Nat×Value}{b:Nat}(h:o.nof=true):b∈mbL o p↔o.mb p b:=by
 cases o with
 |fam _ _ _=>cases h
 |mit=>
  obtain⟨q,v⟩:=p;simp only[mbL,Ob.mb,KB];constructor
  .rintro(h|h)
   .exact .inl h.symm
   .split at h
    .rename_i ad;split at h
     .rename_i e;simp only[ZBK]at h;subst h;exact .inr (by rw[e])
     .cases h
    .cases h
  .rintro(h|h)
   .exact .inl h.symm
   .subst h;right;simp
 |rows=>simp[mbL,Ob.mb]
 |drw=>simp[mbL,Ob.mb]
 |_=>simp[mbL,Ob.mb,eq_comm]
def ZJH(os:J7)(ob:List (Nat×Value)):W0:=(List.zipWith mbL os ob).flatten
theorem ZJJ{os:J7}{ob:List (Nat×Value)}(hn:os.all Ob.nof=true){b:Nat}:b∈ZJH os ob↔ ∃(i:Nat) (o:Ob) (q:Nat×Value),os[i]? =some o/\ob[i]? =some q/\o.mb q b:=by
 unfold ZJH;rw[List.mem_flatten];constructor
 .rintro⟨l,hl,hb⟩;obtain⟨i,hi⟩:=ZEi.1 hl;rw[List.getElem?_zipWith]at hi;split at hi
  .rename_i o q h1 h2;cases hi;exact⟨i,o,q,h1,h2,(ZUG (Yd.1 hn o (Yl h1))).1 hb⟩
  .cases hi
 .rintro⟨i,o,q,h1,h2,h3⟩;exact⟨mbL o q,ZEi.2 ⟨i,by rw[List.getElem?_zipWith,h1,h2]⟩,(ZUG (Yd.1 hn o (Yl h1))).2 h3⟩
def ZJt(l:W0):Value:= .tuple (l.map λb:Nat=>Value.int .i64 (b:Int)).toArray
theorem ZI2{l:W0}{b:Nat}:(∃vs,ZJt l= .tuple vs/\Value.int .i64 b∈vs.toList)↔b∈l:=by
 unfold ZJt;constructor
 .rintro⟨vs,h,hb⟩;cases h;simp only[List.toList_toArray,YO]at hb;obtain⟨a,ha,h⟩:=hb;simp only[Value.int.injEq,true_and]at h;have:a=b:=by omega
  subst this;exact ha
 .intro h;exact⟨_,rfl,by simp only[List.toList_toArray,YO];exact⟨b,h,rfl⟩⟩
theorem ZE1.nof{k:Nat}{P:List W2}{B:List (X×J6)}{os:J7}(h:ZE1 k P B os):os.all Ob.nof=true:=by
 obtain⟨P1,P2,P3,C,Y,_,rfl,_,_,h,_⟩:=h;simp[Ob.nof,h]
theorem ZE1.hd{k:Nat}{P:List W2}{B:List (X×J6)}{os:J7}(h:ZE1 k P B os): ∃ds,os[0]? =some (.box ds):=by
 obtain⟨P1,P2,P3,C,Y,_,rfl,_,_,h,_⟩:=h;exact⟨_,rfl⟩
section
variable {P:Program} {c:Ctx} {E:Env} {k:Nat} {A A2:List W2} {B B2:List (X×J6)}
theorem Fam.rel{p:Nat×Value}{os':J7}{ob':List (Nat×Value)}(hE:E.ob= [p])(R:Rel c E [.fam k A B])(hf:Fam E.w E.st p os' ob'):Rel c ⟨E.w,E.st,ob'⟩ os':=by
 have hp:E.ob[0]? =some p:=by rw[hE];rfl
 refine⟨hf.len,λi o q h1 h2=>OK.of0 (hf.ok i o q h1 h2),hf.dis,λb off hs=>⟨(R.stm b off hs).1,λi o q h1 h2 h3=> ?_⟩,R.kept,λi o q b h1 h2 h3=> ?_,R.sto⟩
 .exact(R.stm b off hs).2 0 _ p rfl hp (hf.sub i o q b h1 h2 h3)
 .exact R.mbs 0 _ p b rfl hp (hf.sub i o q b h1 h2 h3)
theorem Fam.close{os2:J7}(R:Rel c E os2)(hn:os2.all Ob.nof=true){q:Nat×Value}(hq:E.ob[0]? =some q):Fam E.w E.st (q.1,ZJt (ZJH os2 E.ob)) os2 E.ob:=by
 refine⟨R.len,⟨q,hq,rfl⟩,λi o q h1 h2=> ?_,R.dis,λi o q b h1 h2 h3=>ZI2.2 ((ZJJ hn).2 ⟨i,o,q,h1,h2,h3⟩),λvs b e hb=>(ZJJ hn).1 (ZI2.1 ⟨vs,e,hb⟩)⟩;have h:=R.ok i o q h1 h2;rcases h.to0 with⟨k,A,B,rfl⟩|h
 .have:=Yd.1 hn _ (Yl h1);cases this
 .exact h
theorem Rel.fam{os2:J7}(R:Rel c E os2)(hi:ZE1 k A B os2){q:Nat×Value}(hq:E.ob[0]? =some q):Rel c ⟨E.w,E.st,[(q.1,ZJt (ZJH os2 E.ob))]⟩ [.fam k A B]:=by
 have at0: ∀ {i:Nat} {o:Ob} {p:Nat×Value},[Ob.fam k A B][i]? =some o-> [(q.1,ZJt (ZJH os2 E.ob))][i]? =some p->i=0/\o= .fam k A B/\p=(q.1,ZJt (ZJH os2 E.ob)):=by
  intro i o p h1 h2;cases i with
  |zero=>cases h1;cases h2;exact⟨rfl,rfl,rfl⟩
  |succ i=>simp at h1
 refine⟨rfl,λi o p h1 h2=> ?_,λi j o o' p p' b h1 h2 h3 h4 _ _=> ?_,λb off hs=>⟨(R.stm b off hs).1,λi o p h1 h2 h3=> ?_⟩,R.kept,λi o p b h1 h2 h3=> ?_,R.sto⟩
 .obtain⟨rfl,rfl,rfl⟩:=at0 h1 h2;exact⟨os2,E.ob,hi,Fam.close R hi.nof hq⟩
 .rw[(at0 h1 h2).1,(at0 h3 h4).1]
 .obtain⟨rfl,rfl,rfl⟩:=at0 h1 h2;obtain⟨i,o,p,k1,k2,k3⟩:=(ZJJ hi.nof).1 (ZI2.1 h3);exact(R.stm b off hs).2 i o p k1 k2 k3
 .obtain⟨rfl,rfl,rfl⟩:=at0 h1 h2;obtain⟨i,o,p,k1,k2,k3⟩:=(ZJJ hi.nof).1 (ZI2.1 h3);exact R.mbs i o p b k1 k2 k3
theorem ZJW{f:FuncId}{args:J8}{r:D}(hp:args.all D.plain=true)(hr:r.clean=true)(h: ∀os',ZE1 k A B os'->ZI P f (.ptr 0 0::args) os' (λr' os2=>r'=r/\ZE1 k A2 B2 os2)):ZN P f (.iref 0 0::args) [.fam k A B] r [.fam k A2 B2]:=by
 intro c E vs R hvl;obtain⟨p,hp0,hok⟩:=R.at (i:=0) (o:= .fam k A B) rfl;obtain⟨os',ob',hi,hf⟩:=hok;have hE:E.ob= [p]:=by
  have hl:=R.len
  match hEo:E.ob,hl with
  | [x],_=>rw[hEo]at hp0;cases hp0;rfl
 obtain⟨q,hq,hqp⟩:=hf.hd;obtain⟨ds,hbx⟩:=hi.hd;have hvl':VL ⟨E.w,E.st,ob'⟩ os' (.ptr 0 0::args) vs:=by
  refine⟨hvl.1,λj d v hd hv=> ?_⟩;cases j with
  |zero=>
   cases hd;have h0:=hvl.2 0 _ v rfl hv;cases h0 with
   |iref ho hk hb=>
    rw[hp0]at hb;cases hb;exact V.ptr (off:=0) hbx (b:=q.1) (cu:=q.2) hq|>λh=>by rw[hqp]at h;exact h
  |succ j=>exact(hvl.2 (j+1) d v hd hv).ofPlain (Yd.1 hp d (Yl hd)) (λ_ _ h=>h)
 refine(h os' hi c _ vs (hf.rel hE R) hvl').mono ?_;rintro e w' ⟨v,E1,r1,os2,rfl,rfl,R1,ev,hv,rfl,hi2⟩;obtain⟨cu',o',g1,g2,g3⟩:=ev.bl 0 q.1 q.2 _ _ hbx rfl hq;refine⟨v,⟨E1.w,E1.st,[(q.1,ZJt (ZJH os2 E1.ob))]⟩,rfl,rfl,R1.fam (q:=(q.1,cu')) hi2 g3,⟨ev.st,λid b cu o kd ho hk hb=> ?_,λid o sz n ho hs=> ?_⟩,hv.ofClean hr (λ_ _ h=>h)⟩
 .cases id with
  |zero=>
   cases ho;rw[hp0]at hb;cases hb;rw[hqp];exact⟨_,.fam k A2 B2,rfl,hk,rfl⟩
  |succ id=>simp at ho
 .cases id with
  |zero=>cases ho;cases hs
  |succ id=>simp at ho
end
section
variable {P:Program} {c:Ctx} {E0:Env} {os0 os:J7} {n:Nat} {Q:Exit->J4->J7->Prop} {φ:J4}
theorem WR.callF{g:FuncId}{caps:J8}{dst:Option Nat}{f:IO}{xs:List IO}{il2:List IOp}{Post:D->J7->Prop}(hen:Enters P g){args:J8}(hpc:ZI P g args os Post)(h: ∀r os2,Post r os2->WR P c E0 os0 n il2 Q (putO φ dst r) os2)
  (hv:(ZE φ f).val= .fn g caps:=by rfl) (c1:(ZE φ f).cond=true:=by rfl) (c2:(xs.all λy=>(ZE φ y).cond)=true:=by rfl) (ha:(xs.map λy=>(ZE φ y).val)++caps=args:=by rfl):WR P c E0 os0 n (⟨dst,.call f xs,none⟩::il2) Q φ os:=by
 intro ops lo hm E a R hf;cases lo with
 |nil=>simp at hm
 |cons o l=>
  simp only[Qv,Jj,JB,ZAa]at hm;obtain⟨io,hio,il',hil,hm⟩:=hm;simp only[Ze,ZEq]at hm;obtain⟨rfl,rfl⟩:=hm;simp only[Yu,JB]at hio;obtain⟨e,he,hio⟩:=hio;split at hio
  .rename_i hdst;split at hio
   .rename_i hg;simp only[Ze,IOp.mk.injEq,and_true]at hio;obtain⟨rfl,rfl⟩:=hio;refine wpList_step λK' hK'=> ?_
    simp only[Region.wanted,hg,if_true];refine ZFW hf he hv c1 (Yd.1 c2) hen (λvs hvl=>(hpc c E vs R.rel (ha▸hvl)).mono ?_);rintro e w' ⟨v,E',r,os2,rfl,rfl,R',ev,hvv,hpost⟩;exact⟨v,rfl,hK' _ _ (h r os2 hpost ops l hil E' _ ⟨R',R.evo.trans ev⟩ ((hf.mono ev).putO hdst hvv))⟩
   .obtain⟨s,_,hio⟩:=Zc hio;cases hio
  .cases hio
def D.nn0:D->D
 | .x .nils=> .x (.sl [])
 |d=>d
theorem V.nn0{E:Env}{d:D}{v:Value}(h:V E os d v):V E os d.nn0 v:=by
 unfold D.nn0;split
 .exact .x (VX.nn0 h.xx)
 .exact h
def ZQx(φ:J4):J4:=φ.map λp=>(p.1,p.2.nn0)
theorem ZeT(φ:J4)(t:Nat):get (ZQx φ) t=(get φ t).nn0:=by
 induction φ with
 |nil=>rfl
 |cons p φ ih=>
  obtain⟨u,d⟩:=p;simp only[ZQx,YL,get];split
  .rfl
  .exact ih
theorem WI.nn0A{ic:IC}{φ':J4}(h:WI P c E0 os0 n ic Q φ' os)(hp:ZQx φ=φ':=by simp only[ZQx,D.nn0,YL,ZAD];rfl):WI P c E0 os0 n ic Q φ os:=
 WI.weak (λE a R hf=>⟨E,rfl,R,hf.size,hf.defers,λt=>by rw[ZeT];exact(hf.slot t).nn0⟩) (by rw[hp];exact h)
def ZVG:D->D
 | .ptr 0 0=> .iref 0 0
 | .x x=> .x x
 | .agg ds=>if(D.agg ds).plain then .agg ds else .und
 | .fn f []=> .fn f []
 |_=> .und
def ZQv(φ:J4):J4:=φ.map λp=>(p.1,ZVG p.2)
theorem ZdT(φ:J4)(t:Nat):get (ZQv φ) t=ZVG (get φ t):=by
 induction φ with
 |nil=>rfl
 |cons p φ ih=>
  obtain⟨u,d⟩:=p;simp only[ZQv,YL,get];split
  .rfl
  .exact ih
theorem WI.famA{ic:IC}{φ':J4}(k:Nat){A:List W2}{B:List (X×J6)}(hi:ZE1 k A B os)(h:WI P c E0 [] n ic Q φ' [.fam k A B])(hp:ZQv φ=φ':=by simp only[ZQv,ZVG,D.plain,D.isX,Qz,ZEz,ZVC,if_true,YL,ZAD];rfl):WI P c E0 [] n ic Q φ os:=by
 refine WI.weak (λE a R hf=> ?_) (by rw[<-hp]at h;exact h);obtain⟨ds,hd⟩:=hi.hd;obtain⟨q,hq,_⟩:=R.rel.at hd;refine⟨⟨E.w,E.st,[(q.1,ZJt (ZJH os E.ob))]⟩,rfl,⟨R.rel.fam hi hq,R.evo.st,λid b cu o kd ho _ _=>(by simp at ho),λid o sz m ho _=>(by simp at ho)⟩,hf.size,hf.defers,λt=> ?_⟩;rw[ZdT];have hv:=hf.slot t;unfold ZVG;split
 .rename_i e;rw[e]at hv;generalize a.tmps.getD t undef=v at hv;cases hv with
  |ptr ho hb=>
   rw[hq]at hb;cases hb;exact .iref (o:= .fam k A B) (cu:=ZJt (ZJH os E.ob)) rfl rfl rfl
 .rename_i x e;rw[e]at hv;exact hv.ofPlain rfl (λ_ _ h=>h)
 .rename_i l e;rw[e]at hv;split
  .rename_i hpl;exact hv.ofPlain hpl (λ_ _ h=>h)
  .exact .und _
 .rename_i f e;rw[e]at hv;exact hv.ofPlain rfl (λ_ _ h=>h)
 .exact .und _
end
end Go.Ab
end
