import Derived.Test.YtiogclkbccdefaaGreatDoorLA5
import Derived.Test.YtiogclkbccdefaaGreatDoorLA4
set_option linter.unusedSimpArgs false
set_option linter.unusedVariables false
set_option maxRecDepth 100000
theorem WA{p:Prop}(h:p:=by simp (disch:=omega) only[uu,zS,zW,zO,ZEZ,ZDr,D.nn,D.na,zQ,IE.isCall,Nat.reduceAdd,Nat.reduceSub,Nat.reduceMul,Nat.reduceLeDiff,Nat.reduceLT,Nat.reduceBEq,Int.reduceToNat,Int.reduceLE,Int.reduceLT,Int.reduceAdd,Int.reduceSub,Int.reduceMul,Int.reduceNeg,Int.reduceEq,Nat.reduceEqDiff,YN,Jq,JM,ZT,YF,Qq,Ob.isDrw,Ja,Qh,Kc,ZA4,apm,ZG,Ab.get,Ab.put,putO,keep,QD,D.val,D.cond,D.cells?,D.scalar,X.scalar,D.plain,D.isX,ZAn,ZBn,eqD,ZAC,eqX,unD,ZD,ZAr,KS,Zx,Qs,Jo,Yh,YZ,JZ,Jb,KD,Ko,Ob.slice?,↓reduceIte,reduceCtorEq,Ye,QB,evC,QW,QP,KO,KE,eqR,nzD,QV,ZCT,ZCZ,ZCS,ZBl,ZAd,ZAD,YH,IE.frame,Zh,KH,IntWalk.i64_in,ZAl,Jx,ZFa,Jw,ZGI,ZCJ,Qz,Ji,QC,QH,JB,D.inP,Ob.inP,YA,D.ren,inv,YX,Ob.ren,KN,KU,KR,ZEB,ZBY];rfl):p:=h
theorem GX{p:Prop}(h:p:=by obtain⟨i,o,p,k1,k2,k3⟩:=(ZDF hi.nof).1 (ZDR.1 h3);exact(R.stm b off hs).2 i o p k1 k2 k3):p:=h
theorem Nq{p:Prop}(h:p:=by (have e2:Nat.blt i k=true:=(by rw[ZMQ];exact e));rw[e2]at hk;cases hk):p:=h
theorem NB{p:Prop}(h:p:=by obtain⟨i,o,p,k1,k2,k3⟩:=(ZDF hi.nof).1 (ZDR.1 h3);exact R.mbs i o p b k1 k2 k3):p:=h
theorem Xo{p:Prop}(h:p:=by simp only;congr 1;simp;omega):p:=h
theorem Xw{p:Prop}(h:p:=by simp only[IOp.ex,hmem,ZEs]at hf;cases hf):p:=h
theorem X6{p:Prop}(h:p:=by rw[show i+1+q=i+(q+1) by omega];exact h (q+1) t d y Gx):p:=h
theorem XM{p:Prop}(h:p:=by simp only[putO,put,Nat.reduceEqDiff,if_true,if_false,↓reduceIte];rfl):p:=h
theorem Hu{p:Prop}(h:p:=by rw[k1,if_neg hi]):p:=h
section
namespace Go.Ab
open Go.RowKit Go.Bo
section
variable {P:Program} {c:Ctx} {E0:Env} {os0 os:J7} {n:Nat} {Q:Exit->J4->J7->Prop} {φ:J4}
theorem ZVO{S:Tabs}(hS:SsOk P S){ops:Array Oper}{Q:Exit->Act->World->Prop}{g:FuncId}{caps:J8}(hen:Enters P g){dst:Option Nat}{f:IO}{xs:List IO}{il2:List IOp}{K:J4->J7->Prop}{Post:D->J7->Prop}{φ1:J4}{os1:J7}
  (hv:(ZG φ1 f).val= .fn g caps) (c1:(ZG φ1 f).cond=true) (c2:(xs.all λy=>(ZG φ1 y).cond)=true) (hpc:ZF P g ((xs.map λy=>(ZG φ1 y).val)++caps) os1 Post)
  (h2: ∀r os2,Post r os2-> ∃φ' os',QJ S (putO φ1 dst r) os2 il2=some (true,φ',os')/\K φ' os'):
  ∀ {il1:List IOp} {l:List Oper} {E:Env} {os:J7} {φ:J4} {a:Act},Rel c E os->Fr n E os φ a->l.mapM (JG P n ops)=some (il1++⟨dst,.call f xs,none⟩::il2)->QJ S φ os il1=some (true,φ1,os1)->
  (∀E' a' φ' os',K φ' os'->Rel c E' os'->Evo E os E' os'->Fr n E' os' φ' a'->Q .normal a' E'.w)->wpList P ops Q l a E.w
 |il1,[],E,os,φ,a,R,hf,hm,h1,hQ=>by
  cases il1<;>simp at hm
 | [],o::l,E,os,φ,a,R,hf,hm,h1,hQ=>by
  cases h1;simp only[ZAV,KL,YG,ZBA]at hm;obtain⟨io,hio,il',hil,hm⟩:=hm;simp only[QY,Yu,ZEt]at hm;obtain⟨rfl,rfl⟩:=hm;simp only[JG,YG]at hio;obtain⟨e,he,hio⟩:=hio;split at hio
  .rename_i hdst;split at hio
   .rename_i hg;simp only[Yu,IOp.mk.injEq,and_true]at hio;obtain⟨rfl,rfl⟩:=hio;refine wpList_step λK' hK'=> ?_
    simp only[Region.wanted,hg,if_true];refine ZGD hf he hv c1 (Yg.1 c2) hen (λvs hvl=>(hpc c E vs R hvl).mono ?_);rintro e w' ⟨v,E',r,os2,rfl,rfl,R',ev,hvv,hpost⟩;obtain⟨φ',os',k1,k2⟩:=h2 r os2 hpost;exact⟨v,rfl,hK' _ _ (ZLE hS R' ((hf.mono ev).putO hdst hvv) hil k1 (λE2 a2 R2 e2 f2=>hQ E2 a2 φ' os' k2 R2 (ev.trans e2) f2))⟩
   .obtain⟨s,_,hio⟩:=Zc hio;cases hio
  .cases hio
 |io::il1,o::l,E,os,φ,a,R,hf,hm,h1,hQ=>by
  simp only[ZAV,KL,YG,ZBA]at hm;obtain⟨io',hio,il',hil,hm⟩:=hm;simp only[ξZ,Yu,ZEt]at hm;obtain⟨rfl,rfl⟩:=hm;simp only[QJ,YG,Kq]at h1;obtain⟨⟨ok,φ3,os3⟩,h3,⟨ok2,φ4,os4⟩,h4,h5⟩:=h1;simp at h5;obtain⟨⟨rfl,rfl⟩,rfl,rfl⟩:=h5;refine wpList_step λK' hK'=>ZPZ hS R hf hio h3 (λE1 a1 R1 e1 f1=> ?_)
  exact hK' _ _ (ZVO hS hen hv c1 c2 hpc h2 R1 f1 hil h4 (λE' a' φ' os' k R' e' f'=>hQ E' a' φ' os' k R' (e1.trans e') f'))
theorem WI.regF{S:Tabs}(hS:SsOk P S)(k:Nat){l:List IOp}{dst:Option Nat}{f:IO}{xs:List IO}{g:FuncId}{caps:J8}{φ1:J4}{os1:J7}{Post:D->J7->Prop}(hk:l[k]? =some ⟨dst,.call f xs,none⟩)(h1:QJ S φ os (l.take k)=some (true,φ1,os1))(hen:Enters P g)
  (hv:(ZG φ1 f).val= .fn g caps) (c1:(ZG φ1 f).cond=true) (c2:(xs.all λy=>(ZG φ1 y).cond)=true) (hpc:ZF P g ((xs.map λy=>(ZG φ1 y).val)++caps) os1 Post)
  (h2: ∀r os2,Post r os2-> ∃φ' os',QJ S (putO φ1 dst r) os2 (l.drop (k+1))=some (true,φ',os')/\Q .normal φ' os'):WI P c E0 os0 n (.reg l) Q φ os:=by
 intro code hc E a R hf;obtain⟨id,ops,rfl,h3⟩:=ZGm hc;have hl:l=l.take k++⟨dst,.call f xs,none⟩::l.drop (k+1):=by
  obtain⟨hlt,hk⟩:=ZX hk;rw[<-hk,<-ξW hlt,ZBb]
 rw[hl]at h3;exact wp_region_list (ZVO hS hen hv c1 c2 hpc h2 R.rel hf h3 h1 (λE' a' φ' os' k R' e' f'=>⟨E',φ',os',rfl,⟨R',R.evo.trans e'⟩,f',k⟩))
def Zct:Nat->IC->IC
 |0,ic=>ic
 |k+1,.seq _ b=>Zct k b
 |_+1,ic=>ic
def evSeq(S:Tabs)(nq:List FuncId)(G:FuncId->Option IFn)(m:Nat):Nat->IC->J4->J7->Option (List (Nat×D)×J7)
 |0,_,φ,os=>some (φ,os)
 |k+1,.seq a b,φ,os=>match ev S nq G m a φ os with
  |some (.normal,φ',os')=>evSeq S nq G m k b φ' os'
  |_=>none
 |_+1,_,_,_=>none
theorem WI.evSeq{S:Tabs}(hS:SsOk P S)(nq:List FuncId){G:FuncId->Option IFn}(hG:GOk P G)(m:Nat): ∀(k:Nat) {ic:IC} {φ os φ' os'},Go.Ab.evSeq S nq G m k ic φ os=some (φ',os')->WI P c E0 os0 n (Zct k ic) Q φ' os'->WI P c E0 os0 n ic Q φ os
 |0,ic,φ,os,φ',os',h,hq=>by cases h;exact hq
 |k+1,.seq a b,φ,os,φ',os',h,hq=>by
  simp only[Go.Ab.evSeq]at h;split at h
  .rename_i φ1 os1 h1;refine WI.seq (WI.mono ((ZW5 hS hG m).1 _ _ _ _ _ _ h1 c E0 os0 n) ?_);rintro e φ2 os2 ⟨rfl,rfl,rfl⟩;exact WI.evSeq hS nq hG m k h hq
  .cases h
 |k+1,.skip,_,_,_,_,h,_=>W6
 |k+1,.reg _,_,_,_,_,h,_=>W6
 |k+1,.dreg _ _ _ _ _,_,_,_,_,h,_=>W6
 |k+1,.cond _ _ _,_,_,_,_,h,_=>W6
 |k+1,.block _ _,_,_,_,_,h,_=>W6
 |k+1,.loop _,_,_,_,_,h,_=>W6
 |k+1,.exit _,_,_,_,_,h,_=>W6
 |k+1,.ret,_,_,_,_,h,_=>W6
 |k+1,.label _,_,_,_,_,h,_=>W6
 |k+1,.goto _,_,_,_,_,h,_=>W6
 |k+1,.scope _ _,_,_,_,_,h,_=>W6
 |k+1,.dead,_,_,_,_,h,_=>W6
theorem WI.evE{S:Tabs}(hS:SsOk P S)(nq:List FuncId){G:FuncId->Option IFn}(hG:GOk P G)(m:Nat){ic:IC}{x:Exit}{φ':J4}{os':J7}(h:ev S nq G m ic φ os=some (x,φ',os'))(hq:Q x φ' os'):WI P c E0 os0 n ic Q φ os:=by
 refine WI.mono ((ZW5 hS hG m).1 _ _ _ _ _ _ h c E0 os0 n) ?_;rintro e φ2 os2 ⟨rfl,rfl,rfl⟩;exact hq
end
def ptK(S:Tabs)(f:FuncId)(A:J8)(O:J7)(r:Nat->D)(ob:Ob):Tabs:=⟨S.q,S.t,S.r,λf' args os=>if f'=f/\D.beqL args A=true/\ZFs os O=true then some (true,r,ob)else S.k f' args os⟩
theorem Za4{P:Program}{S:Tabs}(hS:SsOk P S){f:FuncId}{A:J8}{O:J7}{r:Nat->D}{ob:Ob}(he:Enters P f)(hm:ZBq P f A O r ob):SsOk P (ptK S f A O r ob):=by
 refine⟨hS.q,hS.t,hS.r,λf' args os r' ob' h=> ?_⟩;simp only[ptK]at h;split at h
 .exact Tt
 .exact hS.k f' args os r' ob' h
theorem ZjK(S:Tabs)(f:FuncId)(A:J8)(O:J7)(r:Nat->D)(ob:Ob):(ptK S f A O r ob).k f A O=some (true,r,ob):=if_pos ⟨rfl,D.beqL_refl A,ZGj O⟩
theorem Zi6(S:Tabs)(f:FuncId)(A:J8)(O:J7)(r:Nat->D)(ob:Ob):(ptK S f A O r ob).q=S.q:=rfl
theorem Zi1(S:Tabs)(f:FuncId)(A:J8)(O:J7)(r:Nat->D)(ob:Ob):(ptK S f A O r ob).r=S.r:=rfl
theorem ZjX(S:Tabs)(f:FuncId)(A:J8)(O:J7)(r:Nat->D)(ob:Ob):(ptK S f A O r ob).t=S.t:=rfl
def mbL:Ob->Nat×Value->W0
 | .box _,p=> [p.1]
 | .mpo _ _ _,p=> [p.1]
 | .mpn _ _ _ _ _,p=> [p.1]
 | .sit _ _,p=> [p.1]
 | .nit,p=> [p.1]
 | .rows _ _ _ _,p=>p.2.ownBlock.toList
 | .drw _ _ _,p=>p.2.ownBlock.toList
 | .mit _ _ _ _ _ _,p=>p.1::match p.2 with
  | .pointer (some ad)=>if ad=⟨ad.block,0,none⟩then [ad.block]else []
  |_=> []
 |_,_=> []
theorem ZUz{o:Ob}{p:Nat×Value}{b:Nat}(h:o.nof=true):b∈mbL o p↔o.mb p b:=by
 cases o with
 |fam _ _ _=>cases h
 |mit=>
  obtain⟨q,v⟩:=p;simp only[mbL,Ob.mb,Jf];constructor
  .rintro(h|h)
   .exact .inl h.symm
   .split at h
    .rename_i ad;split at h
     .rename_i e;simp only[ZAM]at h;subst h;exact .inr (by rw[e])
     .cases h
    .cases h
  .rintro(h|h)
   .exact .inl h.symm
   .subst h;right;simp
 |rows=>simp[mbL,Ob.mb]
 |drw=>simp[mbL,Ob.mb]
 |_=>simp[mbL,Ob.mb,eq_comm]
def ZBD(os:J7)(ob:List (Nat×Value)):W0:=(List.zipWith mbL os ob).flatten
theorem ZDF{os:J7}{ob:List (Nat×Value)}(hn:os.all Ob.nof=true){b:Nat}:b∈ZBD os ob↔ ∃(i:Nat) (o:Ob) (q:Nat×Value),os[i]? =some o/\ob[i]? =some q/\o.mb q b:=by
 unfold ZBD;rw[List.mem_flatten];constructor
 .rintro⟨l,hl,hb⟩;obtain⟨i,hi⟩:=ZFA.1 hl;rw[List.getElem?_zipWith]at hi;split at hi
  .rename_i o q h1 h2;cases hi;exact⟨i,o,q,h1,h2,(ZUz (Yg.1 hn o (JE h1))).1 hb⟩
  .cases hi
 .rintro⟨i,o,q,h1,h2,h3⟩;exact⟨mbL o q,ZFA.2 ⟨i,by rw[List.getElem?_zipWith,h1,h2]⟩,(ZUz (Yg.1 hn o (JE h1))).2 h3⟩
def ZBF(l:W0):Value:= .tuple (l.map λb:Nat=>Value.int .i64 (b:Int)).toArray
theorem ZDR{l:W0}{b:Nat}:(∃vs,ZBF l= .tuple vs/\Value.int .i64 b∈vs.toList)↔b∈l:=by
 unfold ZBF;constructor
 .rintro⟨vs,h,hb⟩;cases h;simp only[List.toList_toArray,YS]at hb;obtain⟨a,ha,h⟩:=hb;simp only[Value.int.injEq,true_and]at h;have:a=b:=Wm
  subst this;exact ha
 .intro h;exact⟨_,rfl,by simp only[List.toList_toArray,YS];exact⟨b,h,rfl⟩⟩
theorem ZCs.nof{k:Nat}{P:List W2}{B:List (X×J6)}{os:J7}(h:ZCs k P B os):os.all Ob.nof=true:=by
 rcases h with⟨P1,P2,P3,C,Y,_,rfl,_,_,h,_⟩|⟨P1,P2,_,_,rfl⟩
 .simp[Ob.nof,h]
 .rfl
theorem ZCs.hd{k:Nat}{P:List W2}{B:List (X×J6)}{os:J7}(h:ZCs k P B os): ∃ds,os[0]? =some (.box ds):=by
 rcases h with⟨P1,P2,P3,C,Y,_,rfl,_,_,h,_⟩|⟨P1,P2,_,_,rfl⟩<;>exact⟨_,rfl⟩
section
variable {P:Program} {c:Ctx} {E:Env} {k:Nat} {A A2:List W2} {B B2:List (X×J6)}
theorem Fam.rel{p:Nat×Value}{os':J7}{ob':List (Nat×Value)}(hE:E.ob= [p])(R:Rel c E [.fam k A B])(hf:Fam E.w E.st p os' ob'):Rel c ⟨E.w,E.st,ob'⟩ os':=by
 have hp:E.ob[0]? =some p:=by rw[hE];rfl
 refine⟨hf.len,λi o q h1 h2=>OK.of0 (hf.ok i o q h1 h2),hf.dis,λb off hs=>⟨(R.stm b off hs).1,λi o q h1 h2 h3=> ?_⟩,R.kept,λi o q b h1 h2 h3=> ?_,R.sto⟩
 .exact(R.stm b off hs).2 0 _ p rfl hp (hf.sub i o q b h1 h2 h3)
 .exact R.mbs 0 _ p b rfl hp (hf.sub i o q b h1 h2 h3)
theorem Fam.close{os2:J7}(R:Rel c E os2)(hn:os2.all Ob.nof=true){q:Nat×Value}(hq:E.ob[0]? =some q):Fam E.w E.st (q.1,ZBF (ZBD os2 E.ob)) os2 E.ob:=by
 refine⟨R.len,⟨q,hq,rfl⟩,λi o q h1 h2=> ?_,R.dis,λi o q b h1 h2 h3=>ZDR.2 ((ZDF hn).2 ⟨i,o,q,h1,h2,h3⟩),λvs b e hb=>(ZDF hn).1 (ZDR.1 ⟨vs,e,hb⟩)⟩;have h:=R.ok i o q h1 h2;rcases h.to0 with⟨k,A,B,rfl⟩|h
 .have:=Yg.1 hn _ (JE h1);cases this
 .exact h
theorem Rel.fam{os2:J7}(R:Rel c E os2)(hi:ZCs k A B os2){q:Nat×Value}(hq:E.ob[0]? =some q):Rel c ⟨E.w,E.st,[(q.1,ZBF (ZBD os2 E.ob))]⟩ [.fam k A B]:=by
 have at0: ∀ {i:Nat} {o:Ob} {p:Nat×Value},[Ob.fam k A B][i]? =some o-> [(q.1,ZBF (ZBD os2 E.ob))][i]? =some p->i=0/\o= .fam k A B/\p=(q.1,ZBF (ZBD os2 E.ob)):=by
  intro i o p h1 h2;cases i with
  |zero=>cases h1;cases h2;exact⟨rfl,rfl,rfl⟩
  |succ i=>simp at h1
 refine⟨rfl,λi o p h1 h2=> ?_,λi j o o' p p' b h1 h2 h3 h4 _ _=> ?_,λb off hs=>⟨(R.stm b off hs).1,λi o p h1 h2 h3=> ?_⟩,R.kept,λi o p b h1 h2 h3=> ?_,R.sto⟩
 .obtain⟨rfl,rfl,rfl⟩:=at0 h1 h2;exact⟨os2,E.ob,hi,Fam.close R hi.nof hq⟩
 .rw[(at0 h1 h2).1,(at0 h3 h4).1]
 .obtain⟨rfl,rfl,rfl⟩:=at0 h1 h2;exact GX
 .obtain⟨rfl,rfl,rfl⟩:=at0 h1 h2;exact NB
theorem ZD6{f:FuncId}{args:J8}{r:D}(hp:args.all D.plain=true)(hr:r.clean=true)(h: ∀os',ZCs k A B os'->ZF P f (.ptr 0 0::args) os' (λr' os2=>r'=r/\ZCs k A2 B2 os2)):ZO P f (.iref 0 0::args) [.fam k A B] r [.fam k A2 B2]:=by
 intro c E vs R hvl;obtain⟨p,hp0,hok⟩:=R.at (i:=0) (o:= .fam k A B) rfl;obtain⟨os',ob',hi,hf⟩:=hok;have hE:E.ob= [p]:=by
  have hl:=R.len
  match hEo:E.ob,hl with
  | [x],_=>rw[hEo]at hp0;cases hp0;rfl
 obtain⟨q,hq,hqp⟩:=hf.hd;obtain⟨ds,hbx⟩:=hi.hd;have hvl':VL ⟨E.w,E.st,ob'⟩ os' (.ptr 0 0::args) vs:=by
  refine⟨hvl.1,λj d v hd hv=> ?_⟩;cases j with
  |zero=>
   cases hd;have h0:=hvl.2 0 _ v rfl hv;cases h0 with
   |iref ho hk hb=>
    rw[hp0]at hb;cases hb;exact V.ptr (off:=0) hbx (b:=q.1) (cu:=q.2) hq|>λh=>by rw[hqp]at h;exact h
  |succ j=>exact(hvl.2 (j+1) d v hd hv).ofPlain (Yg.1 hp d (JE hd)) (λ_ _ h=>h)
 refine(h os' hi c _ vs (hf.rel hE R) hvl').mono ?_;rintro e w' ⟨v,E1,r1,os2,rfl,rfl,R1,ev,hv,rfl,hi2⟩;obtain⟨cu',o',g1,g2,g3⟩:=ev.bl 0 q.1 q.2 _ _ hbx rfl hq;refine⟨v,⟨E1.w,E1.st,[(q.1,ZBF (ZBD os2 E1.ob))]⟩,rfl,rfl,R1.fam (q:=(q.1,cu')) hi2 g3,⟨ev.st,λid b cu o kd ho hk hb=> ?_,λid o sz n ho hs=> ?_⟩,hv.ofClean hr (λ_ _ h=>h)⟩
 .cases id with
  |zero=>
   cases ho;rw[hp0]at hb;cases hb;rw[hqp];exact⟨_,.fam k A2 B2,rfl,hk,rfl⟩
  |succ id=>simp at ho
 .cases id with
  |zero=>cases ho;cases hs
  |succ id=>simp at ho
end
section
variable {P:Program} {c:Ctx} {E0:Env} {os0 os:J7} {n:Nat} {Q:Exit->J4->J7->Prop} {φ:J4}
theorem WR.callF{g:FuncId}{caps:J8}{dst:Option Nat}{f:IO}{xs:List IO}{il2:List IOp}{Post:D->J7->Prop}(hen:Enters P g){args:J8}(hpc:ZF P g args os Post)(h: ∀r os2,Post r os2->WR P c E0 os0 n il2 Q (putO φ dst r) os2)
  (hv:(ZG φ f).val= .fn g caps:=by rfl) (c1:(ZG φ f).cond=true:=by rfl) (c2:(xs.all λy=>(ZG φ y).cond)=true:=by rfl) (ha:(xs.map λy=>(ZG φ y).val)++caps=args:=by rfl):WR P c E0 os0 n (⟨dst,.call f xs,none⟩::il2) Q φ os:=by
 intro ops lo hm E a R hf;cases lo with
 |nil=>simp at hm
 |cons o l=>
  simp only[ZAV,KL,YG,ZBA]at hm;obtain⟨io,hio,il',hil,hm⟩:=hm;simp only[Yu,ZEt]at hm;obtain⟨rfl,rfl⟩:=hm;simp only[JG,YG]at hio;obtain⟨e,he,hio⟩:=hio;split at hio
  .rename_i hdst;split at hio
   .rename_i hg;simp only[Yu,IOp.mk.injEq,and_true]at hio;obtain⟨rfl,rfl⟩:=hio;refine wpList_step λK' hK'=> ?_
    simp only[Region.wanted,hg,if_true];refine ZGD hf he hv c1 (Yg.1 c2) hen (λvs hvl=>(hpc c E vs R.rel (ha▸hvl)).mono ?_);rintro e w' ⟨v,E',r,os2,rfl,rfl,R',ev,hvv,hpost⟩;exact⟨v,rfl,hK' _ _ (h r os2 hpost ops l hil E' _ ⟨R',R.evo.trans ev⟩ ((hf.mono ev).putO hdst hvv))⟩
   .obtain⟨s,_,hio⟩:=Zc hio;cases hio
  .cases hio
def D.nn0:D->D
 | .x .nils=> .x (.sl [])
 |d=>d
theorem V.nn0{E:Env}{d:D}{v:Value}(h:V E os d v):V E os d.nn0 v:=by
 unfold D.nn0;split
 .exact .x (VX.nn0 h.xx)
 .exact h
def ZRY(φ:J4):J4:=φ.map λp=>(p.1,p.2.nn0)
theorem Zfr(φ:J4)(t:Nat):get (ZRY φ) t=(get φ t).nn0:=by
 induction φ with
 |nil=>rfl
 |cons p φ ih=>
  obtain⟨u,d⟩:=p;simp only[ZRY,YO,get];split
  .rfl
  .exact ih
theorem WI.nn0A{ic:IC}{φ':J4}(h:WI P c E0 os0 n ic Q φ' os)(hp:ZRY φ=φ':=by simp only[ZRY,D.nn0,YO,ZAa];rfl):WI P c E0 os0 n ic Q φ os:=
 WI.weak (λE a R hf=>⟨E,rfl,R,hf.size,hf.defers,λt=>by rw[Zfr];exact(hf.slot t).nn0⟩) (by rw[hp];exact h)
def ZTx:D->D
 | .ptr 0 0=> .iref 0 0
 | .x x=> .x x
 | .agg ds=>if(D.agg ds).plain then .agg ds else .und
 | .fn f []=> .fn f []
 |_=> .und
end
open Go Go.RowKit Go.Bo
section
variable {P:Program} {c:Ctx} {E0 E:Env} {n:Nat} {Q:Exit->J4->J7->Prop} {φ:J4}
def plB:Ob->Bool
 | .box ds=>ds.all D.plain
 |_=>false
theorem Rel.famT{F Y:J7}{k:Nat}{A:List W2}{B:List (X×J6)}(R:Rel c E (F++Y))(hi:ZCs k A B F)(hF:F.all (Ob.inP (λi=>decide (i<F.length)))=true)(hX:Y.all plB=true): ∃p q,E.ob[0]? =some q/\p.1=q.1/\Rel c ⟨E.w,E.st,p::E.ob.drop F.length⟩ (.fam k A B::Y):=by
 obtain⟨d0,hd0⟩:=hi.hd;have hF0:0<F.length:=(ZX hd0).1;have hlt: ∀r∈List.range F.length,r<(F++Y).length:=λr hr=>He
 have RF:=R.pickO ZUO hlt (λr hr=>by
  have h:=ZFX.1 hr;rw[ZCB,Yk h,Zw h,ξY,show(λi=>Zh i (List.range F.length))=λi=>decide (i<F.length)from funext (ZCL _)];exact Yg.1 hF _ (YK h))
 rw[ZKk hF]at RF;obtain⟨q,hq,_⟩:=R.at (i:=0) (o:= .box d0) (by rw[Yk hF0];exact hd0);have hob: ∀i,i<F.length->(fpE (List.range F.length) E).ob[i]? =E.ob[i]? :=λi hi=>by
  have:i<E.ob.length:=by rw[R.len,ZW];omega
  simp[fpE,ZMs hi,Zw this]
 have hq2:(fpE (List.range F.length) E).ob[0]? =some q:=by rw[hob 0 hF0];exact hq
 have hcl:=Fam.close RF hi.nof hq2;have at': ∀ {i:Nat} {o:Ob} {p:Nat×Value},(Ob.fam k A B::Y)[i]? =some o->((q.1,ZBF (ZBD F (fpE (List.range F.length) E).ob))::E.ob.drop F.length)[i]? =some p->(i=0/\o= .fam k A B/\p=(q.1,ZBF (ZBD F (fpE (List.range F.length) E).ob)))\/ ∃j,i=j+1/\(F++Y)[F.length+j]? =some o/\E.ob[F.length+j]? =some p/\plB o=true:=by
  intro i o p h1 h2;cases i with
  |zero=>cases h1;cases h2;exact .inl ⟨rfl,rfl,rfl⟩
  |succ j=>
   rw[ZBd]at h1 h2;rw[ZAZ]at h2;exact .inr ⟨j,rfl,by rw[QI J0,ZKF];exact h1,h2,Yg.1 hX _ (JE h1)⟩
 have hmb: ∀ {b:Nat},(Ob.fam k A B).mb (q.1,ZBF (ZBD F (fpE (List.range F.length) E).ob)) b-> ∃i o p,i<F.length/\(F++Y)[i]? =some o/\E.ob[i]? =some p/\o.mb p b:=λh=>by
  obtain⟨i,o,p,k1,k2,k3⟩:=(ZDF hi.nof).1 (ZDR.1 h);have hl:=(ZX k1).1;exact⟨i,o,p,hl,by rw[Yk hl];exact k1,by rw[<-hob i hl];exact k2,k3⟩
 refine⟨(q.1,ZBF (ZBD F (fpE (List.range F.length) E).ob)),q,hq,rfl,⟨by have:=R.len;simp at this|-;omega,λi o p h1 h2=> ?_,λi j o o' p p' b h1 h2 h3 h4 h5 h6=> ?_,λb off hs=>⟨(R.stm b off hs).1,λi o p h1 h2 h3=> ?_⟩,R.kept,λi o p b h1 h2 h3=> ?_,R.sto⟩⟩
 .rcases at' h1 h2 with⟨rfl,rfl,rfl⟩|⟨j,rfl,h3,h4,h5⟩
  .exact⟨F,_,hi,hcl⟩
  .have hok:=R.ok _ o p h3 h4;cases o with
   |box ds=>
    obtain⟨cs,ty,e1,e2,e3⟩:=hok;exact⟨cs,ty,e1,e2,λj d v hd hv=>⟨(e3 j d v hd hv).1.ofPlain (Yg.1 h5 d (JE hd)) (λ_ _ h=>h),(e3 j d v hd hv).2⟩⟩
   |_=>cases h5
 .rcases at' h1 h2 with⟨rfl,rfl,rfl⟩|⟨a,rfl,a1,a2,_⟩<;>rcases at' h3 h4 with⟨rfl,rfl,rfl⟩|⟨a',rfl,a3,a4,_⟩
  .rfl
  .obtain⟨i,o,p,k0,k1,k2,k3⟩:=hmb h5;have:=R.dis _ _ _ _ _ _ b k1 k2 a3 a4 k3 h6;omega
  .obtain⟨i,o,p,k0,k1,k2,k3⟩:=hmb h6;have:=R.dis _ _ _ _ _ _ b a1 a2 k1 k2 h5 k3;omega
  .have:=R.dis _ _ _ _ _ _ b a1 a2 a3 a4 h5 h6;omega
 .rcases at' h1 h2 with⟨rfl,rfl,rfl⟩|⟨a,rfl,a1,a2,_⟩
  .obtain⟨i,o,p,k0,k1,k2,k3⟩:=hmb h3;exact(R.stm b off hs).2 i o p k1 k2 k3
  .exact(R.stm b off hs).2 _ o p a1 a2 h3
 .rcases at' h1 h2 with⟨rfl,rfl,rfl⟩|⟨a,rfl,a1,a2,_⟩
  .obtain⟨i,o,p,k0,k1,k2,k3⟩:=hmb h3;exact R.mbs i o p b k1 k2 k3
  .exact R.mbs _ o p b a1 a2 h3
def ZRX(m:Nat):D->D
 | .ptr i off=>if m<=i then .ptr (i-m+1) off else ZTx (.ptr i off)
 |d=>ZTx d
def ZNZ(m:Nat)(φ:J4):J4:=φ.map λp=>(p.1,ZRX m p.2)
theorem ZdF(m:Nat)(φ:J4)(t:Nat):get (ZNZ m φ) t=ZRX m (get φ t):=by
 induction φ with
 |nil=>rfl
 |cons p φ ih=>
  obtain⟨u,d⟩:=p;simp only[ZNZ,YO,get];split
  .rfl
  .exact ih
theorem WI.famT{ic:IC}{φ':J4}{os:J7}(k:Nat){A:List W2}{B:List (X×J6)}{F:J7}(hi:ZCs k A B F)(Y:J7)(h:WI P c E0 [] n ic Q φ' (.fam k A B::Y))(he:os=F++Y:=by rfl)(hF:F.all (Ob.inP (λi=>decide (i<F.length)))=true:=by rfl)(hX:Y.all plB=true:=by rfl)(hp:ZNZ F.length φ=φ':=by simp only[ZNZ,ZRX,ZTx,D.plain,D.isX,Qa,ZEM,ZLC,if_true,YO,ZAa,Yx,Qw,Nat.reduceAdd,Nat.reduceLeDiff,Nat.reduceSub,if_false,↓reduceIte];rfl):WI P c E0 [] n ic Q φ os:=by
 subst he;refine WI.weak (λE a R hf=> ?_) (by rw[<-hp]at h;exact h);obtain⟨p,q,hq,hpq,R'⟩:=R.rel.famT hi hF hX;obtain⟨ds,hd⟩:=hi.hd;have hF0:0<F.length:=(ZX hd).1;refine⟨⟨E.w,E.st,p::E.ob.drop F.length⟩,rfl,⟨R',R.evo.st,λid b cu o kd ho _ _=>(by simp at ho),λid o sz m ho _=>(by simp at ho)⟩,hf.size,hf.defers,λt=> ?_⟩;rw[ZdF];have hv:=hf.slot t;have key: ∀ {d:D} {v:Value},V E (F++Y) d v->V ⟨E.w,E.st,p::E.ob.drop F.length⟩ (.fam k A B::Y) (ZTx d) v:=λ{d v} hv=>by
  unfold ZTx;split
  .cases hv with
   |ptr ho hb=>
    rw[hq]at hb;cases hb;exact .iref (o:= .fam k A B) (cu:=p.2) rfl rfl (by show some p=_;rw[show p=(p.1,p.2)from rfl,hpq])
  .exact hv.ofPlain rfl (λ_ _ h=>h)
  .split
   .rename_i hpl;exact hv.ofPlain hpl (λ_ _ h=>h)
   .exact .und _
  .exact hv.ofPlain rfl (λ_ _ h=>h)
  .exact .und _
 unfold ZRX;split
 .rename_i i off e;split
  .rename_i hle;rw[e]at hv;generalize a.tmps.getD t undef=v at hv;cases hv with
   |ptr ho hb=>
    rw[QI hle]at ho;exact .ptr (by rw[ZBd];exact ho) (by show(p::E.ob.drop F.length)[i-F.length+1]? =_;rw[ZBd,ZAZ,Nat.add_sub_cancel' hle];exact hb)
  .rw[<-e];exact key hv
 .exact key hv
end
theorem ZBq.fam{P:Program}{f:FuncId}{args:J8}{k:Nat}{A:List W2}{B:List (X×J6)}{os' OS:J7}(h:ZO P f args [] (.ptr 0 0) os')(hp:args.all D.plain=true)(hi:ZCs k A B os'):ZBq P f args OS (λj=> .iref j j) (.fam k A B):=by
 intro Y id c E vs hd R hvl;generalize OS++Y=os at hd R hvl;obtain⟨ds,hbx⟩:=hi.hd;have hlt:=(ZX hd).1;have R0:Rel ⟨E.w,E.st,λ_=>False⟩ ⟨E.w,E.st,[]⟩ []:=⟨rfl,λi o p h=>WE,λi j o o' p p' b h=>WE,λb off hs=>⟨(R.stm b off hs).1,λi o p h=>WE⟩,Kept.refl _ _,λi o p b h=>WE,λb off hs=> .inl hs⟩;have hvl0:VL ⟨E.w,E.st,[]⟩ [] args vs:=⟨hvl.1,λj d v h1 h2=>(hvl.2 j d v h1 h2).ofPlain (Yg.1 hp d (JE h1)) (λ_ _ h=>h)⟩;refine(h _ _ vs R0 hvl0).mono ?_;rintro e w' ⟨v,E1,rfl,rfl,R1,ev1,hv⟩;obtain⟨q,hq,_⟩:=R1.at hbx;have hk1:Kept (λ_=>False) E.w E1.w:=R1.kept;have hfresh: ∀ {b:Nat},(Ob.fam k A B).mb (q.1,ZBF (ZBD os' E1.ob)) b->E.w.heap.size<=b/\ ∃(i:Nat) (o:Ob) (p:Nat×Value),os'[i]? =some o/\E1.ob[i]? =some p/\o.mb p b:=λh=>by
  obtain⟨i,o,p,k1,k2,k3⟩:=(ZDF hi.nof).1 (ZDR.1 h);exact⟨(R1.mbs i o p _ k1 k2 k3).resolve_left (λh=>h),i,o,p,k1,k2,k3⟩
 have hold: ∀ {i:Nat} {o:Ob} {p:Nat×Value} {b:Nat},os[i]? =some o->E.ob[i]? =some p->o.mb p b->b<E.w.heap.size:=λh1 h2 h3=>(R.ok _ _ _ h1 h2).lt h3
 have hid:id<E.ob.length:=by rw[R.len];exact hlt
 have ev:Evo E os ⟨E1.w,E1.st,E.ob.set id (q.1,ZBF (ZBD os' E1.ob))⟩ (os.set id (.fam k A B)):=by
  refine⟨ev1.st,λi b cu o kd ho hk hb=> ?_,λi o sz n ho hs=> ?_⟩
  .have hne:id≠i:=λe=>by subst e;rw[hd]at ho;cases ho;cases hk
   exact⟨cu,o,by rw[ZAp hne];exact ho,hk,by show(E.ob.set id _)[i]? =_;rw[ZAp hne];exact hb⟩
  .have hne:id≠i:=λe=>Na
   exact⟨o,n,by rw[ZAp hne];exact ho,hs,.inl ⟨rfl,by show(E.ob.set id _)[i]? =_;rw[ZAp hne]⟩⟩
 have at': ∀ {i:Nat} {o:Ob} {p:Nat×Value},(os.set id (.fam k A B))[i]? =some o->(E.ob.set id (q.1,ZBF (ZBD os' E1.ob)))[i]? =some p->(i=id/\o= .fam k A B/\p=(q.1,ZBF (ZBD os' E1.ob)))\/(i≠id/\os[i]? =some o/\E.ob[i]? =some p):=by
  intro i o p h1 h2;by_cases e:i=id
  .subst e;rw[ZEv hlt]at h1;rw[ZEv hid]at h2;cases h1;cases h2;exact .inl ⟨rfl,rfl,rfl⟩
  .rw[ZAp (λe2=>e e2.symm)]at h1 h2;exact .inr ⟨e,h1,h2⟩
 refine⟨v,⟨E1.w,E1.st,E.ob.set id (q.1,ZBF (ZBD os' E1.ob))⟩,rfl,rfl,⟨GL,λi o p h1 h2=> ?_,λi j o o' p p' b h1 h2 h3 h4 h5 h6=> ?_,λb off hs=>⟨(R1.stm b off hs).1,λi o p h1 h2 h3=> ?_⟩,R.kept.trans hk1 (λi h=>h.elim),λi o p b h1 h2 h3=> ?_,λb off hs=> ?_⟩,ev,?_⟩
 .rcases at' h1 h2 with⟨rfl,rfl,rfl⟩|⟨_,h3,h4⟩
  .exact⟨os',E1.ob,hi,Fam.close R1 hi.nof hq⟩
  .exact(R.ok i o p h3 h4).mono ev (λb hb=>hk1.block b (hold h3 h4 hb) (λh=>h))
 .rcases at' h1 h2 with⟨rfl,rfl,rfl⟩|⟨_,a1,a2⟩<;>rcases at' h3 h4 with⟨rfl,rfl,rfl⟩|⟨_,a3,a4⟩
  .rfl
  .have:=(hfresh h5).1;have:=hold a3 a4 h6;omega
  .have:=(hfresh h6).1;have:=hold a1 a2 h5;omega
  .exact R.dis _ _ _ _ _ _ b a1 a2 a3 a4 h5 h6
 .rcases at' h1 h2 with⟨rfl,rfl,rfl⟩|⟨_,a1,a2⟩
  .obtain⟨_,i,o,p,k1,k2,k3⟩:=hfresh h3;exact(R1.stm b off hs).2 i o p k1 k2 k3
  .rcases R1.sto b off hs with h|h|h
   .exact(R.stm b off h).2 i o p a1 a2 h3
   .exact h
   .have:=hold a1 a2 h3;exact absurd h (by show ¬E.w.heap.size<=b;omega)
 .rcases at' h1 h2 with⟨rfl,rfl,rfl⟩|⟨_,a1,a2⟩
  .exact .inr (ZEu R.kept.size (hfresh h3).1)
  .exact R.mbs i o p b a1 a2 h3
 .rcases R1.sto b off hs with h|h|h
  .exact R.sto b off h
  .exact h.elim
  .exact .inr (.inr (ZEu R.kept.size h))
 .cases hv with
  |ptr ho hb=>
   rw[hq]at hb;cases hb;exact .iref (o:= .fam k A B) (cu:=ZBF (ZBD os' E1.ob)) Xu rfl (by show(E.ob.set id _)[id]? =_;rw[ZEv hid])
theorem ZO.frzL{P:Program}{f:FuncId}{pre:J8}{OS OS' os2:J7}{d:D}{x:X}{r:D}(hf:YZ OS [d]=some ([x],os2))(h:ZO P f (pre++ [.x x]) os2 r OS'):ZO P f (pre++ [d]) OS r OS':=by
 intro c E vs R hvl;obtain⟨hl,hv⟩:=hvl;rw[ZW,Kh]at hl;have hlast:vs[pre.length]? =some (vs[pre.length]' J0):=ξJ _;obtain⟨st',R1,ev1,hl1,hv1⟩:=ZCN (vs:= [vs[pre.length]' J0]) R (λj d' v hd hv'=>by
  cases j with
  |zero=>cases hd;cases hv';exact hv pre.length d _ J1 hlast
  |succ j=>simp at hd) rfl hf
 have hvl':VL ⟨E.w,st',E.ob⟩ os2 (pre++ [.x x]) vs:=by
  refine⟨by rw[ZW,Kh];exact hl,λj d' v hd hv'=> ?_⟩;by_cases hj:j<pre.length
  .rw[Yk hj]at hd;exact(hv j d' v (by rw[Yk hj];exact hd) hv').mono ev1
  .rw[QI J0]at hd;have hj2:j=pre.length:=by
    have:=(ZX hd).1;simp at this;omega
   subst hj2;rw[ZIK]at hd;cases hd;rw[hlast]at hv';cases hv';exact .x (hv1 0 x _ rfl rfl)
 refine(h c _ vs R1 hvl').mono ?_;rintro e w' ⟨v,E',h1,h2,h3,h4,h5⟩;exact⟨v,E',h1,h2,h3,ev1.trans h4,h5⟩
def RL(S:Tabs)(os0:J7)(k:Nat)(rs kp:W0)(L:Nat)(x:Ob)(K:J4->J7->Prop):Nat->J4->J7->List IOp->Prop
 |i,φ,cur,[]=>L<i/\K φ cur
 |i,φ,cur,o::l=>
  (o.e.frame=true/\Zh i rs=false/\i≠L/\ ∃d,Ye S φ [] o=some (true,d)/\RL S os0 k rs kp L x K (i+1) (putO φ o.dst d) cur l)\/
  (Zh i rs=true/\i≠L/\ZCK kp φ o=true/\ ∃d,Ye S φ os0 o=some (true,d)/\RL S os0 k rs kp L x K (i+1) (putO φ o.dst d) cur l)\/
  (o.ex rs i=false/\i≠L/\i<k/\ ∃d,Ye S φ os0 o=some (true,d)/\RL S os0 k rs kp L x K (i+1) (putO φ o.dst d) cur l)\/
  (o.ex rs i=false/\i=L/\ ∃d,QB S φ [] os0.length o=some (true,d,x)/\RL S os0 k rs kp L x K (i+1) (putO φ o.dst d) (cur.set os0.length x) l)\/
  (o.ex rs i=false/\i≠L/\k<=i/\ ∃d s,KO S φ cur o=some (true,d,s)/\QS kp os0 s=true/\(i<L->s[os0.length]? =some .dead/\KO S φ (cur.set os0.length x) o=some (true,d,s.set os0.length x))/\RL S os0 k rs kp L x K (i+1) (putO φ o.dst d) s l)
inductive StepR (S:Tabs) (os0:J7) (k:Nat) (rs kp:W0) (L:Nat) (x:Ob) (φ:J4) (C:Bool->J7) (i:Nat) (io:IOp):D->Option (Bool->J7)->Prop
 |frame {d:D} (hi:i≠L) (hf:io.e.frame=true) (hm:Zh i rs=false) (h:Ye S φ [] io=some (true,d)):StepR S os0 k rs kp L x φ C i io d none
 |look {d:D} (hi:i≠L) (hm:Zh i rs=true) (hb:ZCK kp φ io=true) (h:Ye S φ os0 io=some (true,d)):StepR S os0 k rs kp L x φ C i io d none
 |read {d:D} (hi:i≠L) (hf:io.ex rs i=false) (hk:i<k) (h:Ye S φ os0 io=some (true,d)):StepR S os0 k rs kp L x φ C i io d none
 |late {d:D} (hi:i=L) (hf:io.ex rs i=false) (h:QB S φ [] os0.length io=some (true,d,x)):StepR S os0 k rs kp L x φ C i io d none
 |turn {d:D} {s:Bool->J7} (hi:i≠L) (hf:io.ex rs i=false) (hk:k<=i) (h: ∀b,(L<i->b=true)->KO S φ (C b) io=some (true,d,s b)) (hs:i<L->(s false)[os0.length]? =some .dead/\s true=(s false).set os0.length x) (hb: ∀b,∃u,QS kp os0 u=true/\(s b=u\/s b=u.set os0.length x)):StepR S os0 k rs kp L x φ C i io d (some s)
abbrev Hb(H:List (Option (Bool->J7)))(b:Bool):List (Option J7):=H.map (Option.map λg=>g b)
theorem Zd7{S:Tabs}{os0:J7}{k:Nat}{rs kp:W0}{L:Nat}{x:Ob}{K:J4->J7->Prop}: ∀ {l:List IOp} {i:Nat} {φ:J4} {cur:J7},RL S os0 k rs kp L x K i φ cur l-> ∃(F:List Rec) (H:List (Option (Bool->J7))),F.length=l.length/\H.length=l.length/\L<i+l.length/\
  (∀q io,l[q]? =some io-> ∃d s,F[q]? =some (io.dst,d,if i+q=L then some x else none)/\H[q]? =some s/\StepR S os0 k rs kp L x (Yb φ (F.take q)) (λb=>Zs ((Hb H b).take q) (λ_=>true) 0 (if b=true/\i<=L then cur.set os0.length x else cur)) (i+q) io d s)/\K (Yb φ F) (Zs (Hb H true) (λ_=>true) 0 (if i<=L then cur.set os0.length x else cur))
 | [],i,φ,cur,h=>⟨[],[],rfl,rfl,HO,λq io hq=>by simp at hq,by rw[if_neg (by have:=h.1;omega)];exact h.2⟩
 |o::l,i,φ,cur,h=>by
  have go: ∀(d:D) (s:Option (Bool->J7)) (cur':J7),RL S os0 k rs kp L x K (i+1) (putO φ o.dst d) cur' l->StepR S os0 k rs kp L x φ (λb=>if b=true/\i<=L then cur.set os0.length x else cur) i o d s->
    (∀b,(if b=true/\i+1<=L then cur'.set os0.length x else cur')=(match s with
     |some g=>g b
     |none=>if b=true/\i<=L then cur.set os0.length x else cur)\/(b=false/\L<=i))-> ∃(F:List Rec) (H:List (Option (Bool->J7))),F.length=(o::l).length/\H.length=(o::l).length/\L<i+(o::l).length/\
  (∀q io,(o::l)[q]? =some io-> ∃d s,F[q]? =some (io.dst,d,if i+q=L then some x else none)/\H[q]? =some s/\StepR S os0 k rs kp L x (Yb φ (F.take q)) (λb=>Zs ((Hb H b).take q) (λ_=>true) 0 (if b=true/\i<=L then cur.set os0.length x else cur)) (i+q) io d s)/\K (Yb φ F) (Zs (Hb H true) (λ_=>true) 0 (if i<=L then cur.set os0.length x else cur)):=by
   intro d s cur' hr hst hc;obtain⟨F,H,h1,h2,h3,h4,h5⟩:=Zd7 hr;have one: ∀(b:Bool) (G:List (Option J7)),(b=true\/i<L)->Zs (Option.map (λg=>g b) s::G) (λ_=>true) 0 (if b=true/\i<=L then cur.set os0.length x else cur)=Zs G (λ_=>true) 0 (if b=true/\i+1<=L then cur'.set os0.length x else cur'):=by
    intro b G hb;rcases hc b with e|⟨rfl,e⟩
    .rw[e];cases s<;>simp only[Qd,Yq,Zs,if_true]<;>exact ZAo G 1 0 _
    .rcases hb with hb|hb
     .cases hb
     .omega
   refine⟨(o.dst,d,if i=L then some x else none)::F,s::H,by simp[h1],by simp[h2],by simp only[Yx];omega,λq io hq=> ?_,?_⟩
   .cases q with
    |zero=>simp at hq;subst hq;exact⟨d,s,J1,rfl,by simpa[Yb,Zs]using hst⟩
    |succ q=>
     obtain⟨d',s',k1,k2,k3⟩:=h4 q io Gx;refine⟨d',s',by simpa[show i+(q+1)=i+1+q by omega]using k1,by simpa using k2,?_⟩;rw[show i+(q+1)=i+1+q by omega];simp only[Qm,Yb,Hb,YO];cases k3 with
     |frame hi hf hm h=>exact .frame hi hf hm h
     |look hi hm hb h=>exact .look hi hm hb h
     |read hi hf hk h=>exact .read hi hf hk h
     |late hi hf h=>exact .late hi hf h
     |turn hi hf hk h hs hb=>
      refine .turn hi hf hk (λb hbl=> ?_) hs hb;rw[one b _ ?_]
      .exact h b hbl
      .cases b with
       |true=>exact NK
       |false=>exact .inr (by
         have: ¬L<i+1+q:=λhl=>by cases hbl hl
         omega)
   .have:=one true (Hb H true) (.inl rfl);simp only[Hb,YO,Yb,true_and]at this|-;rw[this];simpa[Hb]using h5
  rcases h with⟨hf,hm,hi,d,h1,h2⟩|⟨hm,hi,hb,d,h1,h2⟩|⟨hf,hi,hk,d,h1,h2⟩|⟨hf,hi,d,h1,h2⟩|⟨hf,hi,hk,d,s,h1,hb,h3,h2⟩
  .exact go d none cur h2 (.frame hi hf hm h1) (λb=> .inl Xo)
  .exact go d none cur h2 (.look hi hm hb h1) (λb=> .inl Xo)
  .exact go d none cur h2 (.read hi hf hk h1) (λb=> .inl Xo)
  .exact go d none _ h2 (.late hi hf h1) (λb=>by
    cases b with
    |true=>exact .inl (by rw[if_neg J0];simp only[true_and];rw[if_pos J0])
    |false=>exact .inr ⟨rfl,J0⟩)
  .refine go d (some λb=>if b=true/\i<L then s.set os0.length x else s) s h2 (.turn hi hf hk (λb hbl=> ?_) (λhl=> ?_) (λb=>⟨s,hb,?_⟩)) (λb=> .inl ?_)
   .by_cases hl:i<L
    .obtain⟨_,h4⟩:=h3 hl;cases b with
     |true=>simpa[hl,Nat.le_of_lt hl]using h4
     |false=>simpa using h1
    .have:=hbl J0;subst this;rw[if_neg J0,if_neg J0];exact h1
   .simpa[hl]using (h3 hl).1
   .split
    .exact .inr rfl
    .exact NK
   .simp only[Nat.succ_le_iff]
theorem ZVb{L:Nat}{x:Ob}: ∀ {F:List Rec} (dn:Nat->Bool) (i:Nat),(∀(q:Nat) (t:Option Nat) (d:D) (y:Option Ob),F[q]? =some (t,d,y)->y=if i+q=L then some x else none)->Jm F dn i=if i<=L/\L<i+F.length then [if dn L=true then x else .dead]else []
 | [],dn,i,_=>by simp only[Jm];rw[if_neg J1]
 |(t,d,y)::F,dn,i,h=>by
  have h0:=h 0 t d y rfl;have ih:=ZVb (F:=F) (L:=L) (x:=x) dn (i+1) (λq t d y hq=>X6);by_cases hi:i=L
  .subst hi;rw[KB,if_pos rfl]at h0;subst h0;have e1:(if i+1<=i/\i<i+1+F.length then [if dn i=true then x else Ob.dead]else [])= []:=if_neg J0;have e2:(if i<=i/\i<i+((t,d,some x)::F).length then [if dn i=true then x else Ob.dead]else [])= [if dn i=true then x else .dead]:=if_pos J1;rw[e2];simp only[Jm,ih,e1]
  .rw[KB,if_neg hi]at h0;subst h0;simp only[Jm,ih,Yx];congr 1;simp;omega
theorem ZRB{L:Nat}{x:Ob}: ∀ {F:List Rec} (i m:Nat),(∀(q:Nat) (t:Option Nat) (d:D) (y:Option Ob),F[q]? =some (t,d,y)->y=if i+q=L then some x else none)->i+m<=L->Yy F m=0
 |_,_,0,_,_=>by simp[Yy]
 | [],_,m+1,_,_=>rfl
 |(t,d,y)::F,i,m+1,h,hm=>by
  have h0:=h 0 t d y rfl;rw[KB,if_neg J0]at h0;subst h0;simp only[Yy];exact ZRB (L:=L) (x:=x) (i+1) m (λq t d y hq=>X6) J0
section
variable {P:Program} {S:Tabs} {c:Ctx} {n:Nat} {Q:Exit->Act->World->Prop} {ops:Array Oper} {il:List IOp} {k:Nat} {rs kp:W0} {os0:J7} {L:Nat} {x:Ob} {K:J4->J7->Prop}
theorem ZZu(hm:P.follows .mixedOrders=true)(hS:SsOk P S)(hok:ZDO ops.toList il k rs L=true)(hcomp:ops.toList.mapM (JG P n ops)=some il){id:Nat}{φ0:J4}{E:Env}{a:Act}(R:Rel c E os0)(hf:Fr n E os0 φ0 a)(hrun:RL S os0 k rs kp L x K 0 φ0 (os0++ [.dead]) il)
  (hQ: ∀E' a' φ2 os2,K φ2 os2->Rel c E' os2->Evo E os0 E' os2->Fr n E' os2 φ2 a'->Q .normal a' E'.w):(Code.region id ops true).wp P Q a E.w:=by
 obtain⟨F,H,h1,h2,h3,h4,h5⟩:=Zd7 hrun;simp only[Jk,Kb,and_true,if_true]at h3 h4 h5;have e0:(os0++ [Ob.dead]).set os0.length x=os0++ [x]:=by rw[ZDm _ _ (Zr _)];simp
 simp only[e0]at h4 h5;have hrec: ∀(q:Nat) (t:Option Nat) (d:D) (y:Option Ob),F[q]? =some (t,d,y)->y=if 0+q=L then some x else none:=by
  intro q t d y hq;have hl:=(ZX hq).1;obtain⟨d',s,k1,_⟩:=h4 q _ (Zw J0);rw[hq]at k1;cases k1;rw[Jk]
 have hcr: ∀dn:Nat->Bool,Jm F dn 0= [if dn L=true then x else .dead]:=λdn=>by rw[ZVb dn 0 hrec,if_pos J0]
 have hpl:Yy F L=0:=ZRB 0 L hrec J0;have hro:Yd F= [x]:=by rw[<-ZIN F (λ_=>true) 0 (λ_ _ _=>rfl),hcr];rfl
 have hL:RunL S os0 k rs L φ0 il F (Hb H):=by
  refine⟨h1,λb=>by simp[h2],λq io hq=> ?_,λhl=> ?_,λhl=>J0⟩
  .obtain⟨d,s,k1,k2,k3⟩:=h4 q io hq;have hG: ∀b,(Hb H b)[q]? =some (s.map λg=>g b):=λb=>Xn
   cases k3 with
   |frame hi hf hm h=>exact⟨d,none,none,Hu,hG,.frame hf h⟩
   |look hi hm hb h=>exact⟨d,none,none,Hu,hG,.look hm h⟩
   |read hi hf hk h=>exact⟨d,none,none,Hu,hG,.read hf hk h⟩
   |late hi hf h=>exact⟨d,some x,none,by rw[k1,if_pos hi],hG,.late hf hi (by have e:Yy F q=0:=(by rw[hi];exact hpl);rw[e,KB];exact h)⟩
   |turn hi hf hk h hs hb=>
    refine⟨d,none,_,Hu,hG,.turn hf hk (λb hbl=> ?_) (λhl t d0 y hy=> ?_)⟩
    .have:=h b hbl;rw[hcr];cases b<;>simpa using this
    .have:=hrec L t d0 _ hy;rw[Jk,if_pos rfl]at this;cases this;rw[hpl];exact hs hl
  .obtain⟨d,s,k1,_⟩:=h4 L _ (Zw hl);rw[if_pos rfl]at k1;exact⟨_,_,_,k1⟩
 refine ZVL hm hS (Draw.of hok) hcomp hL (λi io d hil hmem hi hq dn=> .inr ?_) R hf (λE' a' R' e' f'=> ?_)
 .obtain⟨d',s,k1,k2,k3⟩:=h4 i io hil;have hbl:ZCK kp (Yb φ0 (F.take i)) io=true:=by
   cases k3 with
   |frame hi hf hm h=>rw[hm]at hmem;cases hmem
   |look hi hm hb h=>exact hb
   |read hi hf hk h=>exact Xw
   |late hi hf h=>exact Xw
   |turn hi hf hk h hs hb=>exact Xw
  have hst: ∀(j:Nat) (y:J7),(Hb H (dn L))[j]? =some (some y)-> ∃u,QS kp os0 u=true/\(y=u\/y=u.set os0.length x):=by
   intro j y hj;have hjl:=(ZX hj).1;obtain⟨_,s',_,w2,w3⟩:=h4 j _ (Zw (by simp at hjl;omega));simp only[Hb,YI,w2,Yq,Yu]at hj;cases w3 with
   |turn hi hf hk h hs hb=>simp at hj;subst hj;exact hb _
   |_=>simp at hj
  have key: ∀(id:Nat) (o:Ob),os0[id]? =some o->(∀u,QS kp os0 u=true->u[id]? =some o)->(QG os0 F (Hb H) L dn)[id]? =some o:=by
   intro id o ho hu;have hid:=(ZX ho).1;unfold QG;refine ZFx dn 0 _ (λj y hj=> ?_) (by rw[Yk hid];exact ho);obtain⟨u,w1,w2|w2⟩:=hst j y hj
   .rw[w2];exact hu u w1
   .rw[w2,ZAp J0];exact hu u w1
  exact ZWL hbl hq (λid ds hex hid=>key id _ hid (λu hu=>(ZFj hu).1 id ds hex hid)) (λj hj o hid=>key j o hid (λu hu=>(ZFj hu).2 j hj o hid))
 .rw[hro]at R' e' f';exact hQ E' a' _ _ h5 R' e' f'
end
section
variable {P:Program} {c:Ctx} {E0:Env} {os0 os:J7} {n:Nat} {Q:Exit->J4->J7->Prop} {φ φ':J4}
theorem WI.dregL{S:Tabs}(hS:SsOk P S)(kp ks:W0)(x:Ob){k k2:Nat}{rs rs2:W0}{l:List IOp}(h:RL S os (k2 % 1000) rs2 kp (k2/1000-1) x (λφ' os'=>Q .normal (Go.Ab.keep ks φ') os') 0 φ (os++ [.dead]) l)(hk:Nat.blt k2 1000=false:=by rfl):WI P c E0 os0 n (.dreg k rs k2 rs2 l) Q φ os:=by
 intro code hc E a R hf;obtain⟨id,ops,rfl,h4,h5,h6,h7,h8⟩:=ZMZ hc;unfold ZKS at h8;rw[hk,ZFN]at h8;exact ZZu h5 hS h8 h4 R.rel hf h (λE' a' φ2 os2 hK R' e' f'=>⟨E',_,os2,rfl,⟨R',R.evo.trans e'⟩,f'.keep ks,hK⟩)
variable {S:Tabs} {cur s:J7} {k i L:Nat} {rs kp ks:W0} {x:Ob} {o:IOp} {l:List IOp} {ok:Bool} {d:D} {K:J4->J7->Prop}
theorem lsN(h:K φ cur)(hL:Nat.blt L i=true:=by rfl):RL S os0 k rs kp L x K i φ cur []:=⟨by simpa using hL,h⟩
theorem lsF(he:(Ye S φ [] o).map (λr=>(r.1,putO φ o.dst r.2))=some (ok,φ'))(hok:ok=true)(h:RL S os0 k rs kp L x K (i+1) φ' cur l)(hf:o.e.frame=true:=by rfl)(hm:Zh i rs=false:=by rfl)(hi:Nat.beq i L=false:=by rfl):RL S os0 k rs kp L x K i φ cur (o::l):=by
 subst hok;obtain⟨⟨_,d⟩,h1,h2⟩:=Zc he;cases h2;exact .inl ⟨hf,hm,λe=>by rw[e]at hi;simp at hi,d,h1,h⟩
theorem lsQ(he:(Ye S φ os0 o).map (λr=>(r.1,putO φ o.dst r.2))=some (ok,φ'))(hok:ok=true)(h:RL S os0 k rs kp L x K (i+1) φ' cur l)(hf:o.ex rs i=false:=by rfl)(hk:Nat.blt i k=true:=by rfl)(hi:Nat.beq i L=false:=by rfl):RL S os0 k rs kp L x K i φ cur (o::l):=by
 subst hok;obtain⟨⟨_,d⟩,h1,h2⟩:=Zc he;cases h2;exact .inr (.inr (.inl ⟨hf,λe=>by rw[e]at hi;simp at hi,by simpa using hk,d,h1,h⟩))
theorem lsL(he:(QB S φ [] os0.length o).map (λr=>(r.1,putO φ o.dst r.2.1,r.2.2))=some (true,φ',x))(h:RL S os0 k rs kp L x K (i+1) φ' (cur.set os0.length x) l)(hf:o.ex rs i=false:=by rfl)(hi:Nat.beq i L=true:=by rfl):RL S os0 k rs kp L x K i φ cur (o::l):=by
 obtain⟨⟨_,d,y⟩,h1,h2⟩:=Zc he;cases h2;exact .inr (.inr (.inr (.inl ⟨hf,ZNH hi,d,h1,h⟩)))
theorem lsA{ok2:Bool}{cur2 s2:J7}(he:KO S φ cur o=some (ok,d,s))(hok:ok=true)(hc:cur.set os0.length x=cur2)(he2:KO S φ cur2 o=some (ok2,d,s2))(hok2:ok2=true)(hs:s.set os0.length x=s2)(hd:s[os0.length]? =some .dead)(hb:QS kp os0 s=true)(hφ:putO φ o.dst d=φ')(h:RL S os0 k rs kp L x K (i+1) φ' s l)(hf:o.ex rs i=false)(hk:Nat.blt i k=false)(hi:Nat.blt i L=true):RL S os0 k rs kp L x K i φ cur (o::l):=by
 subst hok;subst hok2;subst hc;subst hs;subst hφ;rw[ZMQ]at hi;exact .inr (.inr (.inr (.inr ⟨hf,J0,Nat.le_of_not_lt (λe=>Nq),d,s,he,hb,λ_=>⟨hd,he2⟩,h⟩)))
theorem lsB(he:KO S φ cur o=some (ok,d,s))(hok:ok=true)(hb:QS kp os0 s=true)(hφ:putO φ o.dst d=φ')(h:RL S os0 k rs kp L x K (i+1) φ' s l)(hf:o.ex rs i=false)(hk:Nat.blt i k=false)(hi:Nat.blt L i=true):RL S os0 k rs kp L x K i φ cur (o::l):=by
 subst hok;subst hφ;rw[ZMQ]at hi;exact .inr (.inr (.inr (.inr ⟨hf,J0,Nat.le_of_not_lt (λe=>Nq),d,s,he,hb,λhl=>J0,h⟩)))
theorem lN(h:Q .normal φ' cur)(hk:keep ks φ=φ':=by exact Vp)(hL:Nat.blt L i=true:=by rfl):RL S os0 k rs kp L x (λφ' os'=>Q .normal (keep ks φ') os') i φ cur []:=lsN (by rw[hk];exact h) hL
theorem lFG(h:RL S os0 k rs kp L x K (i+1) φ' cur l)(hf:o.e.frame=true:=by rfl)(he:(Ye S φ [] o).map (λr=>(r.1,putO φ o.dst r.2))=some (ok,φ'):=by exact Wb)(hok:ok=true:=by exact Wg)(hm:Zh i rs=false:=by rfl)(hi:Nat.beq i L=false:=by rfl):RL S os0 k rs kp L x K i φ cur (o::l):=lsF he hok h hf hm hi
theorem lQG(h:RL S os0 k rs kp L x K (i+1) φ' cur l)(hf:o.ex rs i=false:=by rfl)(he:(Ye S φ os0 o).map (λr=>(r.1,putO φ o.dst r.2))=some (ok,φ'):=by exact Wb)(hok:ok=true:=by exact Wg)(hk:Nat.blt i k=true:=by rfl)(hi:Nat.beq i L=false:=by rfl):RL S os0 k rs kp L x K i φ cur (o::l):=lsQ he hok h hf hk hi
theorem lLG{cur2:J7}(h:RL S os0 k rs kp L x K (i+1) φ' cur2 l)(hf:o.ex rs i=false:=by rfl)(he:(QB S φ [] os0.length o).map (λr=>(r.1,putO φ o.dst r.2.1,r.2.2))=some (true,φ',x):=by exact Wb)(hc:cur.set os0.length x=cur2:=by rfl)(hi:Nat.beq i L=true:=by rfl):RL S os0 k rs kp L x K i φ cur (o::l):=lsL he (by rw[hc];exact h) hf hi
theorem lAC{ok2:Bool}{cur2 s2:J7}(h:RL S os0 k rs kp L x K (i+1) φ' s l)(hf:o.ex rs i=false:=by rfl)(hk:Nat.blt i k=false:=by rfl)(he:KO S φ cur o=some (ok,d,s):=by exact WA)(hok:ok=true:=by exact Wg)(hc:cur.set os0.length x=cur2:=by rfl)(he2:KO S φ cur2 o=some (ok2,d,s2):=by exact WA)(hok2:ok2=true:=by exact Wg)(hs:s.set os0.length x=s2:=by rfl)(hd:s[os0.length]? =some .dead:=by rfl)(hb:QS kp os0 s=true:=by simp only[QS,Jd,ZHt,Zh,Ob.beq_refl,ZFN,ZLC]<;>rfl)(hφ:putO φ o.dst d=φ':=by exact XM)(hi:Nat.blt i L=true:=by rfl):RL S os0 k rs kp L x K i φ cur (o::l):=lsA he hok hc he2 hok2 hs hd hb hφ h hf hk hi
theorem lBG(h:RL S os0 k rs kp L x K (i+1) φ' s l)(hf:o.ex rs i=false:=by rfl)(hk:Nat.blt i k=false:=by rfl)(he:KO S φ cur o=some (ok,d,s):=by exact Wb)(hok:ok=true:=by exact Wg)(hb:QS kp os0 s=true:=by simp only[QS,Jd,ZHt,Zh,Ob.beq_refl,ZFN,ZLC]<;>rfl)(hφ:putO φ o.dst d=φ':=by exact XM)(hi:Nat.blt L i=true:=by rfl):RL S os0 k rs kp L x K i φ cur (o::l):=lsB he hok hb hφ h hf hk hi
end
section
variable {P:Program} {c:Ctx} {E:Env} {k:Nat} {A A2:List W2} {B B2:List (X×J6)}
theorem Rel.fam2{os2:J7}(R:Rel c E os2)(hi:ZCs k A B os2){q:Nat×Value}(hq:E.ob[0]? =some q)(z:Nat×Value):Rel c ⟨E.w,E.st,[z,(q.1,ZBF (ZBD os2 E.ob))]⟩ [.itr,.fam k A B]:=by
 have at1: ∀ {i:Nat} {o:Ob} {p:Nat×Value} {b:Nat},[Ob.itr,.fam k A B][i]? =some o-> [z,(q.1,ZBF (ZBD os2 E.ob))][i]? =some p->(o= .itr)\/(i=1/\o= .fam k A B/\p=(q.1,ZBF (ZBD os2 E.ob))):=by
  intro i o p b h1 h2
  match i with
  |0=>cases h1;exact NK
  |1=>cases h1;cases h2;exact .inr ⟨rfl,rfl,rfl⟩
  |i+2=>simp at h1
 refine⟨rfl,λi o p h1 h2=> ?_,λi j o o' p p' b h1 h2 h3 h4 h5 h6=> ?_,λb off hs=>⟨(R.stm b off hs).1,λi o p h1 h2 h3=> ?_⟩,R.kept,λi o p b h1 h2 h3=> ?_,R.sto⟩
 .rcases at1 (b:=0) h1 h2 with rfl|⟨rfl,rfl,rfl⟩
  .trivial
  .exact⟨os2,E.ob,hi,Fam.close R hi.nof hq⟩
 .rcases at1 (b:=0) h1 h2 with rfl|⟨rfl,rfl,rfl⟩
  .cases h5
  .rcases at1 (b:=0) h3 h4 with rfl|⟨rfl,rfl,rfl⟩
   .cases h6
   .rfl
 .rcases at1 (b:=0) h1 h2 with rfl|⟨rfl,rfl,rfl⟩
  .cases h3
  .exact GX
 .rcases at1 (b:=0) h1 h2 with rfl|⟨rfl,rfl,rfl⟩
  .cases h3
  .exact NB
def ZjE(k:Nat)(A:List W2)(B:List (X×J6))(r:D)(os:J7):Prop:=
 ∃ρ id,r= .ptr id 0/\ρ.Nodup/\(∀r∈ρ,r<os.length)/\(∀r∈ρ,(os.getD r .dead).inP (λi=>Zh i ρ)=true)/\ρ[0]? =some id/\ZCs k A B (YX ρ os)
theorem Zei{f:FuncId}(h: ∀os',ZCs k A B os'->ZF P f [.ptr 0 0] os' (ZjE k A2 B2)):ZO P f [.iref 0 0] [.fam k A B] (.iref 1 1) [.itr,.fam k A2 B2]:=by
 intro c E vs R hvl;obtain⟨p,hp0,hok⟩:=R.at (i:=0) (o:= .fam k A B) rfl;obtain⟨os',ob',hi,hf⟩:=hok;have hE:E.ob= [p]:=by
  have hl:=R.len
  match hEo:E.ob,hl with
  | [x],_=>rw[hEo]at hp0;cases hp0;rfl
 obtain⟨q,hq,hqp⟩:=hf.hd;obtain⟨ds,hbx⟩:=hi.hd;have hvl':VL ⟨E.w,E.st,ob'⟩ os' [.ptr 0 0] vs:=by
  refine⟨hvl.1,λj d v hd hv=> ?_⟩;cases j with
  |zero=>
   cases hd;have h0:=hvl.2 0 _ v rfl hv;cases h0 with
   |iref ho hk hb=>
    rw[hp0]at hb;cases hb;exact V.ptr (off:=0) hbx (b:=q.1) (cu:=q.2) hq|>λh=>by rw[hqp]at h;exact h
  |succ j=>simp at hd
 refine(h os' hi c _ vs (hf.rel hE R) hvl').mono ?_;rintro e w' ⟨v,E1,r1,os2,rfl,rfl,R1,ev,hv,ρ,id,rfl,h1,h2,h3,h4,hi2⟩;obtain⟨cu',o',g1,g2,g3⟩:=ev.bl 0 q.1 q.2 _ _ hbx rfl hq;have RF:=R1.pickO h1 h2 h3;obtain⟨dz,hdz⟩:=hi2.hd;obtain⟨z,hz,_⟩:=RF.at hdz;refine⟨v,⟨E1.w,E1.st,[(q.1,cu'),(z.1,ZBF (ZBD (YX ρ os2) (fpE ρ E1).ob))]⟩,rfl,rfl,RF.fam2 hi2 hz _,⟨ev.st,λid b cu o kd ho hk hb=> ?_,λid o sz n ho hs=> ?_⟩,?_⟩
 .cases id with
  |zero=>
   cases ho;rw[hp0]at hb;cases hb;rw[hqp];exact⟨_,.itr,rfl,hk,rfl⟩
  |succ id=>simp at ho
 .cases id with
  |zero=>cases ho;cases hs
  |succ id=>simp at ho
 .cases hv with
  |ptr ho hb=>
   have hl:id<E1.ob.length:=(ZX hb).1;have:z=E1.ob.getD id (0,undef):=by
    have:(fpE ρ E1).ob[0]? =some (E1.ob.getD id (0,undef)):=by
     show(ρ.map _)[0]? =_;rw[YI,h4];rfl
    rw[hz]at this;cases this;rfl
   rw[ZCB,hb]at this;subst this;exact .iref (o:= .fam k A2 B2) (cu:=ZBF (ZBD (YX ρ os2) (fpE ρ E1).ob)) rfl rfl rfl
end
end Go.Ab
end
