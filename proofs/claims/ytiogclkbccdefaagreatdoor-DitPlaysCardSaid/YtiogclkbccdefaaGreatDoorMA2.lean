import Derived.Test.YtiogclkbccdefaaGreatDoorMA1
import Derived.Test.YtiogclkbccdefaaGreatDoorLA5
import Derived.Test.YtiogclkbccdefaaGreatDoorProg
import Derived.Test.YtiogclkbccdefaaGreatDoorSh
import Derived.Shelf.Strings.Cut
set_option linter.unusedSimpArgs false
set_option linter.unusedVariables false
set_option maxRecDepth 100000
theorem Wc{p:Prop}(h:p:=by first|exact se|(exact ZI J0)|(exact ZI (by simp;omega))|exact sd):p:=h
theorem Wi{p:Prop}(h:p:=by first|exact⟨⟨j+2,b.length+1,n,b++ [r.getD (j+1) 0],by rw[ZW];first|done|rfl,by rw[YU];first|done|rfl,J0,J0,by rw[ZW];simp;omega,J1,by rw[hv,hst]⟩,Wa⟩|exact⟨⟨j+3,b.length+1,n,b++ [orB (hxD (r.getD (j+1) 0).toNat) (hxD (r.getD (j+2) 0).toNat)],by rw[ZW];first|done|rfl,by rw[YU];first|done|rfl,J0,J0,by rw[ZW];simp;omega,J1,by rw[hv,hst]⟩,Wa⟩|exact⟨⟨j+1,e,n,b++ [r.getD j 0],by rw[ZW];first|done|rfl,by rw[YU];first|done|rfl,J0,J0,by rw[ZW];simp;omega,by simp;omega,by rw[hv,hst]⟩,Wa⟩|exact⟨⟨j+1,b.length+1,n,b++ [r.getD j 0],by rw[ZW];first|done|rfl,by rw[YU];first|done|rfl,J0,J0,by rw[ZW];simp;omega,J1,by rw[hv,hst]⟩,Wa⟩):p:=h
theorem Wl{A B:Prop}(hZ:A)(k:Go.Ab.Bx A->B:=by(intro hZ;refine oS ?_;refine oN ?_;refine ZA ?_;exact hZ.h)):B:=k ⟨hZ⟩
theorem Wp{p:Prop}(h:p:=by first|exact⟨⟨f,j+2,ps,rfl,rfl,I.slash hj4 hc⟩,Wa⟩|exact⟨⟨j+1,j+1,ps++ [(s.take j).drop f],by rw[ZW];first|done|rfl,by rw[<-ZBW];first|done|rfl,I.hit ha hj4 hc⟩,Wa⟩|exact⟨⟨f,j+1,ps,rfl,rfl,I.plain hj4 hc1 hc2⟩,Wa⟩):p:=h
theorem Wq{p:Prop}(h:p:=by first|exact⟨⟨r.drop (Ka r).2.1,b++ [(Ka r).1],b.length+1,n,by rw[ZW];first|done|rfl,by rw[YU];first|done|rfl,by rw[KQ];omega,by rw[ZW,KQ];simp;omega,J1,by rw[hv,hst]⟩,by show(r.drop (Ka r).2.1).length<r.length+1;rw[KQ];omega⟩|exact⟨⟨r,b++ [c],e,n,by rw[ZW];first|done|rfl,by rw[YU];first|done|rfl,J0,by rw[ZW];simp;omega,by simp;omega,by rw[hv,hst]⟩,by show r.length<r.length+1;omega⟩|exact⟨⟨r,b++ [c],b.length+1,n,by rw[ZW];first|done|rfl,by rw[YU];first|done|rfl,J0,by rw[ZW];simp;omega,J1,by rw[hv,hst]⟩,by show r.length<r.length+1;omega⟩):p:=h
theorem Wz{A B:Prop}(hZ:A)(k:Go.Ab.Bx A->B:=by(intro hZ;refine ZA ?_;refine WI.seq ?_;exact hZ.h)):B:=k ⟨hZ⟩
theorem WJ{A B:Prop}(hZ:A)(k:Go.Ab.Bx A->B:=by(intro hZ;refine ZU ?_;refine Zd ?_;refine ZU ?_;refine Zd ?_;exact hZ.h)):B:=k ⟨hZ⟩
theorem WK{A B:Prop}(hZ:A)(k:Go.Ab.Bx A->B:=by(intro hZ;refine rg [2,3] ?_;refine WI.nnA ?_;refine lf ?_;exact hZ.h)):B:=k ⟨hZ⟩
theorem WQ{A B:Prop}(hZ:A)(k:Go.Ab.Bx A->B:=by(intro hZ;refine Wl ?_;refine WI.seq ?_;exact hZ.h)):B:=k ⟨hZ⟩
theorem WU{A B:Prop}(hZ:A)(k:Go.Ab.Bx A->B:=by(intro hZ;refine oS ?_;refine oG ?_;exact hZ.h)):B:=k ⟨hZ⟩
theorem WW{p:Prop}(h:p:=by simp (disch:=decide) only[zV,zO,Ob.mpb,frzL,ZBo,ZDG,onF,Ob.onI,mpP,Ji,Yq,Qd,D.vw,vwL,D.on,D.inP,JB,Zh,D.ren,YA,inv,YX,Ob.mp,Ob.ren,D.nn,ZEA,Nat.reduceBEq,Nat.reduceEqDiff,Nat.reduceAdd,↓reduceIte,ZFT,ZAX];rfl):p:=h
theorem WX{A B:Prop}(hZ:A)(k:Go.Ab.Bx A->B:=by(intro hZ;refine ZU ?_;refine Zd ?_;exact hZ.h)):B:=k ⟨hZ⟩
theorem Vb{A B:Prop}(hZ:A)(k:Go.Ab.Bx A->B:=by(intro hZ;refine WI.exit ?_;refine Yr ?_;refine Yr ?_;refine QL ?_;exact hZ.h)):B:=k ⟨hZ⟩
theorem Vc{A B:Prop}(hZ:A)(k:Go.Ab.Bx A->B:=by(intro hZ;refine Zn ?_;refine Zn ?_;exact hZ.h)):B:=k ⟨hZ⟩
theorem Ve{p:Prop}(h:p:=by refine Jg [0,1] ?_;refine KI ?_;refine nz ?_;refine WI.orderA [0,3,9,10,11] ?_;refine rg [0,3,9,10,11] ?_;exact⟨⟨j+1,by rw[hst,ZW,hn];first|done|rfl,by rw[hst,<-hrow];first|done|rfl,J0⟩,Wa⟩):p:=h
theorem Vm{A B:Prop}(hZ:A)(k:Go.Ab.Bx A->B:=by(intro hZ;refine Wl ?_;refine WI.ret ?_;exact hZ.h)):B:=k ⟨hZ⟩
theorem Vt{A B:Prop}(hZ:A)(k:Go.Ab.Bx A->B:=by(intro hZ;refine WI.skip ?_;refine Wz ?_;exact hZ.h)):B:=k ⟨hZ⟩
theorem Vy{p:Prop}(h:p:=by refine oS ?_;refine oG (hok:=Wc) ?_;refine Wf ?_;exact⟨⟨k+1,by rw[hst];first|done|rfl,rfl,J0⟩,Wa⟩):p:=h
theorem V0{A B:Prop}(hZ:A)(k:Go.Ab.Bx A->B:=by(intro hZ;refine oN ?_;refine ZA ?_;exact hZ.h)):B:=k ⟨hZ⟩
theorem VI{A B:Prop}(hZ:A)(k:Go.Ab.Bx A->B:=by(intro hZ;refine WI.regB tT [0,4,5,6] ?_;refine WF ?_;refine Wf ?_;exact hZ.h)):B:=k ⟨hZ⟩
theorem VJ{A B:Prop}(hZ:A)(k:Go.Ab.Bx A->B:=by(intro hZ;refine Zd ?_;refine Zd ?_;exact hZ.h)):B:=k ⟨hZ⟩
theorem Ui{p:Prop}(h:p:=by have uu:=YB uu (ZV6 s j hj4);refine rg [3,4,5,16,17,18] ?_;refine rg [3,4,5,6,16,17,18] ?_;refine rg [3,16,17,18] ?_;refine rg [3,16,17,18] ?_;exact⟨⟨j+1,by rw[<-ZV3];rfl,rfl,J0⟩,Wa⟩):p:=h
theorem Uk{A B:Prop}(hZ:A)(k:Go.Ab.Bx A->B:=by(intro hZ;refine WI.orderA [0,1,5,6,7] ?_;refine rg [0,1,5,6,7] ?_;exact hZ.h)):B:=k ⟨hZ⟩
theorem Uq{p:Prop}(h:p:=by refine Wn ?_;refine Zd (hok:=Wc) ?_;refine ZU ?_;refine Zd (hok:=Wc) ?_;refine dQC (hok:=Wc) ?_;refine Zn (hok:=Wc) ?_;refine ZU ?_;refine VP ?_;refine WI.regB tT [0,3,4] ?_;exact Vy):p:=h
theorem U0{p:Prop}(h:p:=by obtain⟨q,hq,rfl⟩:=YS.1 hr;obtain⟨x,hx,rfl⟩:=YS.1 ((ZFw _).mem_iff.1 hp);have:=((ZBh (hmay q hq)).2.2 x hx).1;show(ZE x.1).length<=900000;unfold ZE;rw[Yc];omega):p:=h
theorem U3{p:Prop}(h:p:=by refine rg [0,3,4,5] ?_;exact⟨⟨j+1,by rw[hst,hA];first|done|rfl|simp,rfl,J0⟩,Wa⟩):p:=h
theorem UH{A B:Prop}(hZ:A)(k:Go.Ab.Bx A->B:=by(intro hZ;refine WQ ?_;refine WI.seq ?_;exact hZ.h)):B:=k ⟨hZ⟩
theorem UM{p:Prop}(h:p:=by exact⟨0,rfl,rfl,J0,J1⟩):p:=h
theorem UO{A B:Prop}(hZ:A)(k:Go.Ab.Bx A->B:=by(intro hZ;refine Wn ?_;refine WX ?_;exact hZ.h)):B:=k ⟨hZ⟩
theorem UT{A B:Prop}(hZ:A)(k:Go.Ab.Bx A->B:=by(intro hZ;refine Vt ?_;refine WI.block ?_;refine WI.seq ?_;exact hZ.h)):B:=k ⟨hZ⟩
theorem UY{p:Prop}(h:p:=by rw[show r.getD k ([],[])=r[k] by simp[hk4]];exact hpb _ (YK hk4)):p:=h
theorem Tb{p:Prop}(h:p:=by simpa using h3):p:=h
theorem Tj{p:Prop}(h:p:=by first|exact h1|simpa using h1):p:=h
theorem Tu{A B:Prop}(hZ:A)(k:Go.Ab.Bx A->B:=by(intro hZ;refine ZAq ?_;refine JK ?_;refine JK ?_;refine ZAq ?_;refine JK ?_;exact hZ.h)):B:=k ⟨hZ⟩
theorem Ty{A B:Prop}(hZ:A)(k:Go.Ab.Bx A->B:=by(intro hZ;refine oS ?_;refine oG (hok:=Wc) ?_;exact hZ.h)):B:=k ⟨hZ⟩
theorem T8{p:Prop}(h:p:=by simp[hj4]):p:=h
theorem TE{p:Prop}(h:p:=by rw[Yc,Yv];omega):p:=h
theorem TV{p:Prop}(h:p:=by rw[if_neg (by rw[hf];decide)]at hq;refine WK ?_;cases hq;rfl):p:=h
theorem TW{p:Prop}(h:p:=by refine KI ?_;refine rg [0,3,8,9,10] ?_;exact⟨⟨j+1,rfl,by first|done|rfl,J0,by rw[okP,hok,hone];rfl⟩,Wa⟩):p:=h
theorem TZ{p:Prop}(h:p:=by rw[if_neg J0,if_neg (by rw[Zl JA d i hi4 (by rw[hdi,hdr];unfold JA;rw[ZHO r r.length k hk4 hno];rfl)];decide)]):p:=h
theorem Gl{p:Prop}(h:p:=by first|exact h2|simpa using h2):p:=h
theorem G4{p:Prop}(h:p:=by rw[if_pos J0]at hq;cases hq;rfl):p:=h
theorem G6{p:Prop}(h:p:=by refine rg [8,9,10] ?_;exact⟨⟨j+1,rfl,rfl,J0,by rw[Yt _ d j hj4,hall,hdj];simpa using h2⟩,Wa⟩):p:=h
theorem G8{p:Prop}(h:p:=by simp[hi4]):p:=h
theorem GB{A B:Prop}(hZ:A)(k:Go.Ab.Bx A->B:=by(intro hZ;refine oS ?_;refine Vm ?_;exact hZ.h)):B:=k ⟨hZ⟩
theorem GC{A B:Prop}(hZ:A)(k:Go.Ab.Bx A->B:=by(intro hZ;refine Wu ?_;refine W4 ?_;exact hZ.h)):B:=k ⟨hZ⟩
theorem GD{A B:Prop}(hZ:A)(k:Go.Ab.Bx A->B:=by(intro hZ;refine oC ?_;refine Us ?_;refine oS ?_;exact hZ.h)):B:=k ⟨hZ⟩
theorem GE{A B:Prop}(hZ:A)(k:Go.Ab.Bx A->B:=by(intro hZ;refine KI ?_;refine nz ?_;exact hZ.h)):B:=k ⟨hZ⟩
theorem GG{p:Prop}(h:p:=by refine oC (hok:=Wc) ?_;refine oG (hok:=Wc) ?_;refine Wf ?_;refine WI.regB tT [0,5,6] ?_;exact Vy):p:=h
theorem GN{p:Prop}(h:p:=by rw[show JA r=false by unfold JA;rw[ZHO r r.length j hj4 hno];rfl];first|rfl|exact⟨rfl,rfl⟩):p:=h
theorem GZ{p:Prop}(h:p:=by clear uu;grind):p:=h
theorem Nk{A B:Prop}(hZ:A)(k:Go.Ab.Bx A->B:=by(intro hZ;refine WI.regB tT [2,3] ?_;refine Wu ?_;refine Un ?_;exact hZ.h)):B:=k ⟨hZ⟩
theorem Nv{A B:Prop}(hZ:A)(k:Go.Ab.Bx A->B:=by(intro hZ;refine Jl ?_;refine ZA ?_;exact hZ.h)):B:=k ⟨hZ⟩
theorem N4{p:Prop}(h:p:=by rw[e];exact⟨ZU8 _ _ _ (λx hx=>by have:=h2 x hx;simp;omega) J1,ZVg _ _ _ Wx J1⟩):p:=h
theorem N5{p:Prop}(h:p:=by rw[ZI8 _ _ _ (by intro hh;have:=congrArg List.length hh;rw[Yc,Yv,Qw]at this;omega)]):p:=h
theorem ND{A B:Prop}(hZ:A)(k:Go.Ab.Bx A->B:=by(intro hZ;refine Wl ?_;refine WI.block ?_;exact hZ.h)):B:=k ⟨hZ⟩
theorem NG{p:Prop}(h:p:=by rw[Bool.eq_false_iff];intro hh;have:=Yg.1 hh l[j] (YK h);rw[hp]at this;cases this):p:=h
theorem NH{p:Prop}(h:p:=by rw[show r.getD j ([],[])=r[j] by simp[hj4]];exact hb _ (YK hj4)):p:=h
theorem NL{p:Prop}(h:p:=by cases hq;rfl):p:=h
theorem Xc{A B:Prop}(hZ:A)(k:Go.Ab.Bx A->B:=by(intro hZ;refine rg [0,4] ?_;refine rg [0,4,5] ?_;exact hZ.h)):B:=k ⟨hZ⟩
theorem Xg{p:Prop}(h:p:=by refine Wy ?_;rw[show Jn s=tyA s j from by rw[show j=s.length by omega];rfl]):p:=h
theorem X0{A B:Prop}(hZ:A)(k:Go.Ab.Bx A->B:=by(intro hZ;refine oN ?_;refine Wz ?_;exact hZ.h)):B:=k ⟨hZ⟩
theorem X3{A B:Prop}(hZ:A)(k:Go.Ab.Bx A->B:=by(intro hZ;refine WU ?_;refine V0 ?_;exact hZ.h)):B:=k ⟨hZ⟩
theorem XG{A B:Prop}(hZ:A)(k:Go.Ab.Bx A->B:=by(intro hZ;refine WI.dregB tT [0,3,4] ?_;refine Wn ?_;refine ZU ?_;refine Zd (hok:=Wc) ?_;refine ZU ?_;refine Zd (hok:=Wc) ?_;exact hZ.h)):B:=k ⟨hZ⟩
theorem XH{p:Prop}(h:p:=by unfold ZAh;rw[ZI hin];simp):p:=h
theorem XK{p:Prop}(h:p:=by rw[Zl JA d j hj4 (by rw[hdj];simpa using h2)];decide):p:=h
theorem Hq{A B:Prop}(hZ:A)(k:Go.Ab.Bx A->B:=by(intro hZ;refine WI.regB tT [0,4,6] ?_;refine WF ?_;refine Wf ?_;refine VI ?_;refine WI.orderA [0,4,5,6] ?_;refine VI ?_;exact hZ.h)):B:=k ⟨hZ⟩
theorem H1{p:Prop}(h:p:=by rw[show((j:Int)+1).toNat=j+1 by omega,JW h,ZbN Wx,ZBB Wx];simp[h]):p:=h
theorem H2{p:Prop}(h:p:=by rw[show JA r=false by unfold JA;rw[ZHO r r.length j hj4 hno];rfl]):p:=h
theorem HA{p:Prop}(h:p:=by unfold ZA0 ZED ZI2 slD;rw[if_neg Ww,if_pos Ww]):p:=h
theorem HB{p:Prop}(h:p:=by unfold ZA0 ZED ZI2 slD;rw[if_neg Ww,if_neg Ww]):p:=h
theorem HX{p:Prop}(h:p:=by exact⟨⟨j+1,rfl,by rw[hst,<-ZE1];first|done|rfl,J0⟩,Wa⟩):p:=h
theorem Md{p:Prop}(h:p:=by rw[hfe];clear uu;grind):p:=h
theorem Mj{p:Prop}(h:p:=by refine WI.regB tT [2,3] ?_;refine oS ?_;refine Un ?_;exact G4):p:=h
section
namespace Go.Proofs.YtiogclkbccdefaaGreatDoor
open Go.RowKit Go.Bo Go.Ab
def Ju:Nat->Tx->Tx->Nat->Option (Tx×Nat)
 |0,_,_,_=>none
 |_+1,[],b,e=>some (b,e)
 |n+1,c::r,b,e=>
  if c=92 then(if(Ka r).2.2=true then Ju n (r.drop (Ka r).2.1) (b++ [(Ka r).1]) (b.length+1)else none)
  else if ZIF c.toNat (decide (b.length=0))=true then none
  else if c=32 then Ju n r (b++ [c]) e else Ju n r (b++ [c]) (b.length+1)
theorem Zhk(s:Tx):(Ka s).2.1<=s.length:=by
 unfold Ka;split
 .simp
 .rename_i h;have:0<s.length:=ZKV.2 h;split
  .simp;omega
  .split
   .simp
   .rename_i h2;simp only[not_or]at h2;simp;omega
theorem ZJm: ∀(n m:Nat) (r b:Tx) (e:Nat),r.length<n->r.length<m->Ju n r b e=Ju m r b e
 |n+1,m+1,[],b,e,_,_=>rfl
 |n+1,m+1,c::r,b,e,h1,h2=>by
  have hn:r.length<n:=by simp at h1;omega
  have hm:r.length<m:=by simp at h2;omega
  have h3:(r.drop (Ka r).2.1).length<=r.length:=TG
  rw[Ju,Ju,ZJm n m r _ _ hn hm,ZJm n m r _ _ hn hm,ZJm n m (r.drop (Ka r).2.1) _ _ J0 J0]
def ZGG(s:Tx):Tx×Bool:=match Ju (s.length+1) (trL s) [] 0 with
 |none=>([],false)
 |some (b,e)=>(b.take e,decide (e>0))
def ZH4(s:Tx):Tx×Bool:=match Ju (s.length+1) (trL s) [] 0 with
 |none=>([],false)
 |some (b,e)=>(b.take e,true)
theorem ZTy{c:UInt8}(h:(c.toNat:Int)=92):c=92:=by
 apply ZNF.1;show c.toNat=92;omega
set_option maxHeartbeats 1000000 in
theorem Zic(s:Tx)(hl:s.length<=900000):ZL Tryz.prog 206 [.x (.str s)] (.tup [.x (.str (ZGG s).1),.x (.bool (ZGG s).2)]):=by
 have htl:=ZPY s;rcases hq:ZGG s with⟨v,ok⟩
 unfold ZGG at hq;refine ZF.pure (fC 206 true ?_) rfl;intro C0 E0;have uu:=ξ6 @ZKx.eq_1 @ZWl.eq_1 @ZO0.eq_1 @JO @QQ (@ZH8.{0});have tT:=aQ (aQ (aQ ZB ZS4) ZbB) ZXn;refine rg [0] ?_;refine WI.scope 0 rfl (λφ os=>False) (λφ _=>0) ?_ (λφ os hI=> ?_)
 .refine rg [0] ?_;refine Xc ?_;refine WI.label ?_;refine nz ?_;refine WI.ownA 4 5 1 ?_;refine WI.loop (λφ os=> ∃(r b:Tx) (e n:Nat),φ= [(0,.x (.str r)),(4,.ref 0 b.length 0 b.length),(5,.x (.int .i64 e))]/\os= [.rows false 5 1 (b.map Zv)]/\r.length<n/\b.length+r.length<=s.length/\e<=b.length/\Ju (s.length+1) (trL s) [] 0=Ju n r b e) ((λφ _=>match get φ 0 with| .x (.str r)=>r.length|_=>0)) ?_ (λφ os hI=> ?_)
  .exact⟨trL s,[],0,s.length+1,rfl,rfl,J0,Wx,J1,rfl⟩
  .obtain⟨r,b,e,n,rfl,rfl,hn,hb,he,hv⟩:=hI;obtain⟨n,rfl⟩: ∃m,n=m+1:=⟨n-1,J0⟩;refine rg [0,4,5,13] ?_;refine cd (λh0=> ?_) (λh0=> ?_)
   .rcases r with _|⟨c,r⟩
    .simp at h0
    have hn':r.length+1<n+1:=hn;have hb':b.length+(r.length+1)<=s.length:=hb;have hen:=Zhk r;have hb8:c.toNat<256:=ZEJ _;have hsc:decide (r.length<=1000000)=true:=ZI J0;have uu:=YB uu hsc;refine rg [0,4,5,6] ?_;refine rg [0,4,5,6] ?_;refine rg [0,4,5,6,24] ?_;refine cd (λh1=> ?_) (λh1=> ?_)
    .have hc:c=92:=ZTy Tj;refine rg [0,4,7,8,9] ?_;refine rg [0,4,7,8,34] ?_;refine cd (λh2=> ?_) (λh2=> ?_)
     .refine Vi ?_;rw[hv,Ju,if_pos hc,if_neg Tc]at hq;exact NL
     .have hst:Ju (n+1) (c::r) b e=Ju n (r.drop (Ka r).2.1) (b++ [(Ka r).1]) (b.length+1):=by rw[Ju,if_pos hc,if_pos Tc]
      refine WI.post ?_;refine WI.dregB tT [0,4] ?_;refine Wn ?_;refine Qj ?_;refine Qj ?_;refine Wn ?_;refine Zn ?_;refine Wn ?_;refine dP ?_;refine Jg [0] ?_;refine KI ?_;refine rg [0,4,5] ?_
      exact Wq
    .have hc:c≠92:=by rintro rfl;exact absurd h1 WT
     have hz:((b.length:Int)==0)=decide (b.length=0):=by rw[QZ];simp<;>omega
     have uu:=YB uu hz;refine rg [0,4,5,6,42] ?_;refine cd (λh3=> ?_) (λh3=> ?_)
     .refine Vi ?_;rw[hv,Ju,if_neg hc,if_pos Tb]at hq;exact NL
     .refine rgp [0,4,5,6] ?_;refine Jg [0] ?_;refine KI ?_;refine rg [0,4,5,23] ?_;refine cd (λh4=> ?_) (λh4=> ?_) (kA:=λh=>h.h)
      .refine WI.orderA [0,4,5] ?_;have hst:Ju (n+1) (c::r) b e=Ju n r (b++ [c]) e:=by rw[Ju,if_neg hc,if_neg Tb,if_pos (ZMx (by first|exact h4|simpa using h4))]
       refine nz ?_
       exact Wq
      .have hst:Ju (n+1) (c::r) b e=Ju n r (b++ [c]) (b.length+1):=by rw[Ju,if_neg hc,if_neg Tb,if_neg (by rintro rfl;exact absurd h4 WT)]
       refine rg [0,4,5] ?_
       exact Wq
   .obtain rfl:r= []:=Vh
    have hv2:Ju (s.length+1) (trL s) [] 0=some (b,e):=by rw[hv];rfl
    rw[hv2]at hq;have e1:(List.map Zv b).take e=(b.take e).map Zv:=by rw[ZW3]
    have uu:=YB uu e1;refine Vi ?_;cases hq;rw[show decide ((e:Int)>0)=decide (e>0) by rw[QZ];simp]
 .exact hI.elim
def ZXR:J8->J5
 | [.x (.str s)]=>some (decide (s.length<=900000),.tup [.x (.str (ZGG s).1),.x (.bool (ZGG s).2)])
 |_=>none
theorem Zdo:QK Tryz.prog ZXR 206:=by
 intro args r h;unfold ZXR at h;split at h
 .obtain⟨h1,rfl⟩:=Yn h;exact(Zic _ h1)
 .cases h
theorem ZOw(n:Nat):(ZB1 n).2=decide (hxD n<16)/\(hxD n<16->(ZB1 n).1=hxD n):=by
 unfold ZB1;split
 .rename_i h;exact⟨Hj,λ_=>rfl⟩
 .rename_i h;exact⟨Hj,λh'=>absurd h' h⟩
theorem ZQZ(s:Tx)(i j:Nat):(s.drop i).getD j 0=s.getD (i+j) 0:=TG
theorem ZO3(s:Tx)(i:Nat):Ka (s.drop i)=if s.length<=i then(0,0,false)else if ZG9 (s.getD i 0)=true then(s.getD i 0,1,true)else if ¬hxD (s.getD i 0).toNat<16\/s.length<i+2 then(0,0,false)else(orB (hxD (s.getD i 0).toNat) (ZB1 (s.getD (i+1) 0).toNat).1,2,decide (hxD (s.getD (i+1) 0).toNat<16)):=by
 unfold Ka;rw[ZQZ,ZQZ,KB];have h1:=ZOw (s.getD i 0).toNat;have h2:=ZOw (s.getD (i+1) 0).toNat;by_cases h:s.length<=i
 .rw[if_pos (ZBB h),if_pos h]
 .rw[if_neg (by intro e;have:=congrArg List.length e;simp at this;omega),if_neg h];split
  .rfl
  .rw[h1.1,h2.1];have e1:(decide (hxD (s.getD i 0).toNat<16)=false\/(s.drop i).length<2)↔(¬hxD (s.getD i 0).toNat<16\/s.length<i+2):=by
    rw[decide_eq_false_iff_not,KQ];constructor<;>(intro h;rcases h with h|h;exact .inl h;exact .inr J0)
   by_cases h3: ¬hxD (s.getD i 0).toNat<16\/s.length<i+2
   .rw[if_pos h3,if_pos (e1.2 h3)]
   .rw[if_neg h3,if_neg (λh=>h3 (e1.1 h)),h1.2 (ZH3.1 λh=>h3 (.inl h))]
theorem ZjR: ∀(a b:Fin 16),IntKind.u8.wrap (16*(a.val:Int)+(b.val:Int))=((UInt8.ofNat (16*a.val+b.val)).toNat:Int):=Uu
theorem Zj6(h l:Nat)(h1:h<16)(h2:l<16):IntKind.u8.wrap (16*(h:Int)+(l:Int))=((orB h l).toNat:Int):=ZjR ⟨_,h1⟩ ⟨_,h2⟩
theorem Zf1(c:UInt8):ZG9 c=(spc c.toNat||(decide ((c.toNat:Int)=32)||decide ((c.toNat:Int)=35))):=by
 have e1:decide (c.toNat=32)=decide ((c.toNat:Int)=32):=by rw[QZ,Yl,Yl];omega
 have e2:decide (c.toNat=35)=decide ((c.toNat:Int)=35):=by rw[QZ,Yl,Yl];omega
 unfold ZG9;rw[e1,e2,Bool.or_assoc]
theorem QR(s:Tx)(j:Nat)(h:j<s.length):s.drop j=s.getD j 0::s.drop (j+1):=by
 rw[ξW h];simp[h]
theorem Za8(n:Nat)(r b:Tx)(j e:Nat)(hc:r.getD j 0=92)(h1:j+1<r.length)(hf:ZG9 (r.getD (j+1) 0)=true):Ju (n+1) (r.drop j) b e=Ju n (r.drop (j+2)) (b++ [r.getD (j+1) 0]) (b.length+1):=by
 have hE:Ka (r.drop (j+1))=(r.getD (j+1) 0,1,true):=by rw[ZO3,if_neg J0,if_pos hf]
 rw[QR r j J0,Ju,if_pos hc,hE,if_pos rfl,ZMR];first|done|rfl
theorem Zgj(n:Nat)(r b:Tx)(j e:Nat)(hc:r.getD j 0=92)(h1:j+2<r.length)(hf:ZG9 (r.getD (j+1) 0)=false)(hx:hxD (r.getD (j+1) 0).toNat<16)(hy:hxD (r.getD (j+2) 0).toNat<16):Ju (n+1) (r.drop j) b e=Ju n (r.drop (j+3)) (b++ [orB (hxD (r.getD (j+1) 0).toNat) (hxD (r.getD (j+2) 0).toNat)]) (b.length+1):=by
 have hE:Ka (r.drop (j+1))=(orB (hxD (r.getD (j+1) 0).toNat) (hxD (r.getD (j+2) 0).toNat),2,true):=by
  rw[ZO3,if_neg J0,if_neg (by rw[hf];decide),if_neg (by rintro(h|h);exact h hx;omega),(ZOw (r.getD (j+1+1) 0).toNat).2 hy,ZI hy]
 rw[QR r j J0,Ju,if_pos hc,hE,if_pos rfl,ZMR];first|done|rfl
theorem ZgX(n:Nat)(r b:Tx)(j e:Nat)(hj:j<r.length)(hc:r.getD j 0=92)(hf: ¬(j+1<r.length/\ZG9 (r.getD (j+1) 0)=true))(hx: ¬(j+2<r.length/\hxD (r.getD (j+1) 0).toNat<16/\hxD (r.getD (j+2) 0).toNat<16)):Ju (n+1) (r.drop j) b e=none:=by
 have hE:(Ka (r.drop (j+1))).2.2=false:=by
  rw[ZO3];by_cases h1:r.length<=j+1
  .rw[if_pos h1]
  .rw[if_neg h1,if_neg (λh=>hf ⟨J0,h⟩)];by_cases h2: ¬hxD (r.getD (j+1) 0).toNat<16\/r.length<j+1+2
   .rw[if_pos h2]
   .rw[if_neg h2];simp only[not_or,ZH3]at h2;exact decide_eq_false (λh=>hx ⟨J0,h2.1,h⟩)
 rw[QR r j hj,Ju,if_pos hc,hE,if_neg WT]
theorem Zge(n:Nat)(r b:Tx)(j e:Nat)(hj:j<r.length)(hc:r.getD j 0≠92)(hb:ZIF (r.getD j 0).toNat (decide (b.length=0))=true):Ju (n+1) (r.drop j) b e=none:=by
 rw[QR r j hj,Ju,if_neg hc,if_pos hb]
theorem ZaI(n:Nat)(r b:Tx)(j e:Nat)(hj:j<r.length)(hc:r.getD j 0=32):Ju (n+1) (r.drop j) b e=Ju n (r.drop (j+1)) (b++ [r.getD j 0]) e:=by
 rw[QR r j hj,Ju,if_neg (by rw[hc];decide),if_neg (by rw[hc];cases decide (b.length=0)<;>decide),if_pos hc]
theorem ZY3(n:Nat)(r b:Tx)(j e:Nat)(hj:j<r.length)(hc:r.getD j 0≠92)(hb: ¬ZIF (r.getD j 0).toNat (decide (b.length=0))=true)(h3:r.getD j 0≠32):Ju (n+1) (r.drop j) b e=Ju n (r.drop (j+1)) (b++ [r.getD j 0]) (b.length+1):=by
 rw[QR r j hj,Ju,if_neg hc,if_neg hb,if_neg h3]
theorem neD{c:UInt8}{k:Nat}(hk:k<256)(h: ¬(c.toNat:Int)=k):c≠UInt8.ofNat k:=λe=>h (by rw[e];simp;omega)
theorem Zew(n:Nat)(f:Bool):ZIF n f=(((decide ((n:Int)<32)||decide ((n:Int)=127))||(spc n&&decide ((n:Int)≠61)))||(decide ((n:Int)=35)&&f)):=by
 unfold ZIF;rw[QZ];simp only[ZBc,Zj,Yl];grind
theorem ZjC:spc 92=true:=WT
set_option maxHeartbeats 2000000 in
theorem Zhe(s:Tx)(hl:s.length<=900000):ZL Tryz.prog 172 [.x (.str s)] (.tup [.x (.str (ZH4 s).1),.x (.bool (ZH4 s).2)]):=by
 have htl:=ZPY s;rcases hq:ZH4 s with⟨v,ok⟩
 unfold ZH4 at hq;refine ZF.pure (fC 172 true ?_) rfl;intro C0 E0;have uu:=Qu @ZJC.eq_1 @Za9.eq_1 @JO @QQ;have tT:=aQ (aQ ZB ZMD) Zer;refine XX ?_
 refine oS ?_;refine Wf ?_;refine WI.loop (λφ os=> ∃(r:Tx),φ= [(0,.x (.str r))]/\os= []/\r.length<=s.length/\trL s=trL r) ((λφ _=>match get φ 0 with| .x (.str r)=>r.length|_=>0)) ?_ (λφ os hI=> ?_)
 .exact H4
 .obtain⟨r,rfl,rfl,hr,he⟩:=hI;have hem:=ZIR r;refine nz ?_;refine WI.regB tT [0,14] ?_;refine WF ?_;refine oS ?_
  iterate 4 refine oG (hok:=We) ?_
  refine V9 ?_;refine cd (λh0=> ?_) (λh0=> ?_)
  .have h0p:0<r.length:=by rcases r with _|⟨c,r⟩;simp at h0;simp
   have h0c:r.getD 0 0=32:=Hk
   refine WI.regB tT [0] ?_;refine WF ?_;refine Wf ?_;exact VV
  .have h0n: ¬(0<r.length/\r.getD 0 0=32):=λhh=>by
    have h2:((r.getD 0 0).toNat:Int)=32:=Hw
    have h3:r≠ []:=by rintro rfl;simp at hh
    grind
   rw[he,ZMl r h0n]at hq htl;clear he h0 h0n hem;refine WI.regB tT [0,4] ?_;refine Wf ?_;refine WI.regB tT [0,4,5] ?_;refine Wf ?_;refine WI.regB tT [0,4,5,6] ?_;refine Wf ?_;refine WI.ownA 4 5 1 ?_;refine WI.loop (λφ os=> ∃(j e n:Nat) (b:Tx),φ= [(0,.x (.str r)),(4,.ref 0 b.length 0 b.length),(5,.x (.int .i64 e)),(6,.x (.int .i64 j))]/\os= [.rows false 5 1 (b.map Zv)]/\j<=r.length/\r.length-j<n/\b.length<=j/\e<=b.length/\Ju (s.length+1) r [] 0=Ju n (r.drop j) b e) (ZJ r.length 6) ?_ (λφ os hI=> ?_)
   .exact⟨0,0,s.length+1,[],rfl,rfl,J0,J0,J1,J1,rfl⟩
   .obtain⟨j,e,n,b,rfl,rfl,hj,hn,hb,hee,hv⟩:=hI;obtain⟨n,rfl⟩: ∃m,n=m+1:=⟨n-1,J0⟩;refine nz ?_;refine WI.regB tT [0,4,5,6,20] ?_
    refine Wu ?_
    iterate 2 refine oG (hok:=We) ?_
    refine V9 ?_;refine cd (λh1=> ?_) (λh1=> ?_)
    .have hj4:j<r.length:=Wm
     have e1:((j:Int)+1).toNat=j+1:=Wm
     have e2:((j:Int)+2).toNat=j+2:=Wm
     have hb8:(r.getD j 0).toNat<256:=ZEJ _;have hb81:(r.getD (j+1) 0).toNat<256:=ZEJ _;have hb82:(r.getD (j+2) 0).toNat<256:=ZEJ _;have hfe:=Zf1 (r.getD (j+1) 0);have hbe:=Zew (r.getD j 0).toNat (decide (b.length=0));have uu:=JL uu e1 e2;refine WI.regB tT [0,4,5,6,7] ?_
     refine Wu ?_;refine oG (hok:=We) ?_;refine Wf ?_;refine WI.regB tT [0,4,5,6,7,32] ?_;refine WF ?_;refine oS ?_
     iterate 6 refine oG (hok:=We) ?_
     refine oS ?_
     iterate 4 refine oG (hok:=We) ?_
     refine oC (hok:=We) ?_
     iterate 15 refine oG (hok:=We) ?_
     refine Wf ?_;refine cd (λh2=> ?_) (λh2=> ?_)
     .have hst:=Za8 n r b j e (ZTy Ww) Ww Md;refine WI.post ?_;refine WI.regB tT [0,4,6] ?_
      refine Wu ?_;refine oS ?_
      iterate 4 refine oG (hok:=We) ?_
      refine Nu ?_;refine Vx ?_;refine Hq ?_
      exact Wi
     .refine WI.regB tT [0,4,5,6,7,74] ?_;refine WF ?_;refine oS ?_
      iterate 6 refine oG (hok:=We) ?_
      refine oS ?_
      iterate 4 refine oG (hok:=We) ?_
      refine oC (hok:=We) ?_
      iterate 2 refine oG (hok:=We) ?_
      refine oS ?_
      iterate 4 refine oG (hok:=We) ?_
      refine oC (hok:=We) ?_
      iterate 2 refine oG (hok:=We) ?_
      refine Wf ?_;refine cd (λh3=> ?_) (λh3=> ?_)
      .have hx1:hxD (r.getD (j+1) 0).toNat<16:=Ww
       have hx2:hxD (r.getD (j+2) 0).toNat<16:=Ww
       have hst:=Zgj n r b j e (ZTy Ww) Ww Md hx1 hx2;have uu:=YB uu (Zj6 _ _ hx1 hx2);refine WI.post ?_;refine WI.dregB tT [0,4,6] ?_
       refine Wn ?_;refine ZU ?_
       iterate 2 refine Zn (hok:=We) ?_
       refine dAC (hok:=We) ?_;refine Zn (hok:=We) ?_;refine Wn ?_
       iterate 2 refine Zn (hok:=We) ?_
       refine dAC (hok:=We) ?_
       iterate 2 refine Zn (hok:=We) ?_
       iterate 2 refine Qj (hok:=We) ?_
       refine ZU ?_;refine dP ?_;refine Vx ?_;refine Hq ?_
       exact Wi
      .refine WI.regB tT [0,4,5,6,7,120] ?_;refine WF ?_;refine Wf ?_;refine cd (λh4=> ?_) (λh4=> ?_)
       .have hst:=ZaI n r b j e hj4 (ZMx (by first|exact h4|simpa using h4));refine WI.post ?_;refine WI.regB tT [0,4,5,6] ?_
        refine Wu ?_
        iterate 2 refine oG (hok:=We) ?_
        refine Nu ?_;refine Vx ?_;refine WI.orderA [0,4,5,6] ?_;refine VI ?_
        exact Wi
       .refine WI.regB tT [0,4,6,7,127] ?_;refine WF ?_;refine oS ?_
        iterate 3 refine oG (hok:=We) ?_
        refine WF ?_;refine oC (hok:=We) ?_
        iterate 5 refine oG (hok:=We) ?_
        refine oS ?_
        iterate 8 refine oG (hok:=We) ?_
        refine Wf ?_;refine cd (λh5=> ?_) (λh5=> ?_)
        .refine WI.regB tT [2,3] ?_;refine oS ?_;refine Un ?_;have hno:Ju (n+1) (r.drop j) b e=none:=by
          by_cases hc:r.getD j 0=92
          .have hc':((r.getD j 0).toNat:Int)=92:=by rw[hc];rfl
           exact ZgX n r b j e hj4 hc Md Ww
          .exact Zge n r b j e hj4 hc (by rw[hbe];clear uu;grind)
         rw[hv,hno]at hq;exact NL
        .have hc9:r.getD j 0≠92:=by
          intro hc;have hc':((r.getD j 0).toNat:Int)=92:=by rw[hc];rfl
          have hs9:spc (r.getD j 0).toNat=true:=by rw[hc];exact ZjC
          exact GZ
         have hst:=ZY3 n r b j e hj4 hc9 (by rw[hbe];clear uu;grind) (neD (k:=32) WT Ww);refine WI.post ?_;refine WI.regB tT [0,4,6] ?_
         refine Wu ?_
         iterate 2 refine oG (hok:=We) ?_
         refine Nu ?_;refine Vx ?_;refine VI ?_;refine WI.orderA [0,4,5,6] ?_;refine VI ?_
         exact Wi
    .have hv2:Ju (s.length+1) r [] 0=some (b,e):=by rw[hv,ZBB J0];rfl
     rw[hv2]at hq;have e1:(List.map Zv b).take e=(b.take e).map Zv:=by rw[ZW3]
     have uu:=YB uu e1;refine WI.regB tT [2,3] ?_
     refine Wu ?_
     iterate 2 refine oG (hok:=We) ?_
     refine oS ?_;refine Un ?_;exact NL
def ZWW:J8->J5
 | [.x (.str s)]=>some (decide (s.length<=900000),.tup [.x (.str (ZH4 s).1),.x (.bool (ZH4 s).2)])
 |_=>none
theorem Zdb:QK Tryz.prog ZWW 172:=by
 intro args r h;unfold ZWW at h;split at h
 .obtain⟨h1,rfl⟩:=Yn h;exact(Zhe _ h1)
 .cases h
def pre(p:Tx):List Tx->List Tx
 | []=> [p]
 |x::l=>(p++x)::l
def Yf(a:UInt8):Tx->List Tx
 | []=> [[]]
 |c::r=>if c=92 then(match r with
   | []=> [[c]]
   |d::r'=>pre [c,d] (Yf a r'))else if c=a then []::Yf a r else pre [c] (Yf a r)
theorem ZZv(p:Tx)(l:List Tx):pre p l≠ []:=by cases l<;>simp[pre]
theorem ZIO(a:UInt8)(s:Tx):Yf a s≠ []:=by
 unfold Yf;split
 .simp
 .split
  .split
   .simp
   .exact ZZv _ _
  .split
   .simp
   .exact ZZv _ _
theorem ZPH(p q:Tx)(l:List Tx)(h:l≠ []):pre p (pre q l)=pre (p++q) l:=by
 rcases l with _|⟨x,l⟩
 .exact absurd rfl h
 .simp[pre]
theorem ZO2(l:List Tx)(h:l≠ []):pre [] l=l:=by
 rcases l with _|⟨x,l⟩
 .exact absurd rfl h
 .simp[pre]
theorem Za2(a:UInt8)(s:Tx)(j:Nat)(h:j<s.length)(hc:s.getD j 0=92):Yf a (s.drop j)=pre ((s.drop j).take 2) (Yf a (s.drop (j+2))):=by
 rw[QR s j h,hc];rcases hr:s.drop (j+1)with _|⟨d,r⟩
 .have:s.drop (j+2)= []:=by rw[<-ZMR,show s.drop j=s.drop (j+0)from rfl];have:=congrArg (List.drop 1) hr;rw[ZMR]at this;exact V3
  rw[this];rfl
 .have:s.drop (j+2)=r:=by have:=congrArg (List.drop 1) hr;rw[ZMR]at this;exact V3
  rw[this]
  conv=>lhs;unfold Yf
  rw[if_pos rfl];rfl
theorem Zfl(a:UInt8)(ha:a≠92)(s:Tx)(j:Nat)(h:j<s.length)(hc:s.getD j 0=a):Yf a (s.drop j)= []::Yf a (s.drop (j+1)):=by
 rw[QR s j h,hc]
 conv=>lhs;unfold Yf
 rw[if_neg ha,if_pos rfl]
theorem ZaE(a:UInt8)(s:Tx)(j:Nat)(h:j<s.length)(h1:s.getD j 0≠92)(h2:s.getD j 0≠a):Yf a (s.drop j)=pre [s.getD j 0] (Yf a (s.drop (j+1))):=by
 rw[QR s j h]
 conv=>lhs;unfold Yf
 rw[if_neg h1,if_neg h2]
theorem ZON(s:Tx)(f j k:Nat)(h:f<=j)(hj:j<=s.length):(s.take (j+k)).drop f=(s.take j).drop f++(s.drop j).take k:=by
 rw[List.take_add,ZbN Wx]
theorem ZhY(s:Tx)(j:Nat)(h:j<s.length):(s.drop j).take 1= [s.getD j 0]:=by rw[QR s j h];rfl
structure SpI (a:UInt8) (s:Tx) (f j:Nat) (ps:List Tx):Prop where
 fj:f<=j
 jl:j<=s.length+1
 fl:f<=s.length
 pl:ps.length<=f
 eq:Yf a s=ps++pre ((s.take j).drop f) (Yf a (s.drop j))
theorem SpI.start(a:UInt8)(s:Tx):SpI a s 0 0 []:=⟨Zr _,J0,J0,J1,by show Yf a s=pre [] (Yf a s);rw[ZO2 _ (ZIO a s)]⟩
theorem SpI.slash{a:UInt8}{s:Tx}{f j:Nat}{ps:List Tx}(I:SpI a s f j ps)(h:j<s.length)(hc:s.getD j 0=92):SpI a s f (j+2) ps:=
 ⟨by have:=I.fj;omega,J0,I.fl,I.pl,by rw[I.eq,Za2 a s j h hc,ZPH _ _ _ (ZIO _ _),ZON s f j 2 I.fj J0]⟩
theorem SpI.hit{a:UInt8}(ha:a≠92){s:Tx}{f j:Nat}{ps:List Tx}(I:SpI a s f j ps)(h:j<s.length)(hc:s.getD j 0=a):SpI a s (j+1) (j+1) (ps++ [(s.take j).drop f]):=
 ⟨Zr _,J0,J0,by have:=I.pl;have:=I.fj;simp;omega,by
  rw[I.eq,Zfl a ha s j h hc,ZBB (l:=s.take (j+1)) Wx,ZO2 _ (ZIO _ _)];simp[pre]⟩
theorem SpI.plain{a:UInt8}{s:Tx}{f j:Nat}{ps:List Tx}(I:SpI a s f j ps)(h:j<s.length)(h1:s.getD j 0≠92)(h2:s.getD j 0≠a):SpI a s f (j+1) ps:=
 ⟨by have:=I.fj;omega,J0,I.fl,I.pl,by rw[I.eq,ZaE a s j h h1 h2,ZPH _ _ _ (ZIO _ _),ZON s f j 1 I.fj J0,ZhY s j h]⟩
theorem SpI.fin{a:UInt8}{s:Tx}{f j:Nat}{ps:List Tx}(I:SpI a s f j ps)(h:s.length<=j):Yf a s=ps++ [s.drop f]:=by
 rw[I.eq,ZBB h,YR h];simp[Yf,pre]
theorem ZBW(l:List Tx)(x:Tx):rows ZC l++ [[X.str x]]=rows ZC (l++ [x]):=Ge
theorem cD{c a:UInt8}(h:(c.toNat:Int)=a.toNat):c=a:=ZNF.1 J0
theorem nD{c a:UInt8}(h: ¬(c.toNat:Int)=a.toNat):c≠a:=λe=>h (by rw[e])
theorem ZR8(a:UInt8)(ha:a≠92)(s:Tx)(hl:s.length<=1000000):ZL Tryz.prog 159 [.x (.str s),.x (.int .u8 a.toNat)] (.x (.sl (rows ZC (Yf a s)))):=by
 refine ZF.pure (fC 159 true ?_) rfl;intro C0 E0;have uu:=trivial;have tT:=(ZB:SsOk Tryz.prog YH);refine VS ?_;refine rg [0,1,5,6] ?_;refine rg [0,1,5,6,7] ?_;refine WI.ownA 5 9 1 ?_;refine WI.loop (λφ os=> ∃(f j:Nat) (ps:List Tx),φ= [(0,.x (.str s)),(1,.x (.int .u8 a.toNat)),(5,.ref 0 ps.length 0 ps.length),(6,.x (.int .i64 f)),(7,.x (.int .i64 j))]/\os= [.rows false 9 1 (rows ZC ps)]/\SpI a s f j ps) (ZJ (s.length+1) 7) ?_ (λφ os hI=> ?_)
 .exact⟨0,0,[],rfl,rfl,SpI.start a s⟩
 .obtain⟨f,j,ps,rfl,rfl,I⟩:=hI;have i1:=I.fj;have i2:=I.jl;have i3:=I.fl;have i4:=I.pl;refine rg [0,1,5,6,7,11] ?_;refine cd (λh0=> ?_) (λh0=> ?_)
  .have hj4:j<s.length:=Wm
   refine rg [0,1,5,6,7,16] ?_;refine rg [0,1,5,6,7,16,17] ?_;refine cd (λh1=> ?_) (λh1=> ?_)
   .have hc:s.getD j 0=92:=ZTy Tj;refine rg [0,1,5,6,7] ?_;refine Uk ?_
    exact Wp
   .have hc1:s.getD j 0≠92:=neD (k:=92) WT Tj;refine rg [0,1,5,6,7,21] ?_;refine cd (λh2=> ?_) (λh2=> ?_)
    .have hc:s.getD j 0=a:=cD Gl;refine rgp [0,1,5,7] ?_;refine Jg [0] ?_;refine KI ?_;refine rg [0,1,5,6,7] ?_;refine Uk ?_
     exact Wp
    .have hc2:s.getD j 0≠a:=nD Gl;refine Uk ?_
     exact Wp
  .refine Wj ?_;rw[ZBW,I.fin J0,YR NX]
def ZGp:J8->J5
 | [.x (.str s),.x (.int .u8 n)]=>some (decide (s.length<=1000000)&&(decide (n=43\/n=44)),.x (.sl (rows ZC (Yf (UInt8.ofNat n.toNat) s))))
 |_=>none
theorem ZGd:QK Tryz.prog ZGp 159:=by
 intro args r h;unfold ZGp at h;split at h
 .rename_i s n;obtain⟨h1,h2,rfl⟩:=fn2 h;exact(by rcases h2 with rfl|rfl;exact ZR8 43 WT s h1;exact ZR8 44 WT s h1)
 .cases h
theorem ZTU(a:UInt8)(ha:a≠92)(s:Tx)(hl:s.length<=1000000):ZL Tryz.prog 137 [.x (.str s),.x (.int .u8 a.toNat)] (.x (.sl (rows ZC (Yf a s)))):=by
 refine ZF.pure (fC 137 true ?_) rfl;intro C0 E0;have uu:=trivial;have tT:=(ZB:SsOk Tryz.prog YH);refine VS ?_;refine rg [0,1,5,6] ?_;refine rg [0,1,5,6,7] ?_;refine WI.ownA 5 9 1 ?_;refine WI.loop (λφ os=> ∃(f j:Nat) (ps:List Tx),φ= [(0,.x (.str s)),(1,.x (.int .u8 a.toNat)),(5,.ref 0 ps.length 0 ps.length),(6,.x (.int .i64 f)),(7,.x (.int .i64 j))]/\os= [.rows false 9 1 (rows ZC ps)]/\SpI a s f j ps) (ZJ (s.length+1) 7) ?_ (λφ os hI=> ?_)
 .exact⟨0,0,[],rfl,rfl,SpI.start a s⟩
 .obtain⟨f,j,ps,rfl,rfl,I⟩:=hI;have i1:=I.fj;have i2:=I.jl;have i3:=I.fl;have i4:=I.pl;refine rg [0,1,5,6,7,11] ?_;refine cd (λh0=> ?_) (λh0=> ?_)
  .have hj4:j<s.length:=Wm
   refine rg [0,1,5,6,7,17] ?_;refine cd (λh1=> ?_) (λh1=> ?_)
   .have hc:s.getD j 0=92:=ZTy Tj;refine rg [0,1,5,6,7] ?_;refine Uk ?_
    exact Wp
   .have hc1:s.getD j 0≠92:=neD (k:=92) WT Tj;refine rg [0,1,5,6,7,24] ?_;refine cd (λh2=> ?_) (λh2=> ?_)
    .have hc:s.getD j 0=a:=cD Gl;refine rgp [0,1,5,7] ?_;refine Jg [0] ?_;refine KI ?_;refine rg [0,1,5,6,7] ?_;refine Uk ?_
     exact Wp
    .have hc2:s.getD j 0≠a:=nD Gl;refine Uk ?_
     exact Wp
  .refine Wj ?_;rw[ZBW,I.fin J0,YR NX]
def ZPd:J8->J5
 | [.x (.str s),.x (.int .u8 n)]=>some (decide (s.length<=1000000)&&(decide (n=43\/n=44)),.x (.sl (rows ZC (Yf (UInt8.ofNat n.toNat) s))))
 |_=>none
theorem ZWt:QK Tryz.prog ZPd 137:=by
 intro args r h;unfold ZPd at h;split at h
 .rename_i s n;obtain⟨h1,h2,rfl⟩:=fn2 h;exact(by rcases h2 with rfl|rfl;exact ZTU 43 WT s h1;exact ZTU 44 WT s h1)
 .cases h
def ZPW(n:Nat):Bool:=decide (97<=n/\n<=122)||decide (65<=n/\n<=90)
def ZPB(n:Nat):Bool:=decide (48<=n/\n<=57)||decide (n=45)
def tyC(i:Nat)(c:UInt8):Bool:=ZPW c.toNat||(decide (0<i)&&ZPB c.toNat)
def tyU(s:List UInt8):Nat->Bool
 |0=>true
 |j+1=>tyU s j&&tyC j (s.getD j 0)
def tyA(s:List UInt8)(j:Nat):Bool:=(decide (s≠ [])&&decide (s.length<=64))&&tyU s j
def Jn(s:List UInt8):Bool:=tyA s s.length
theorem ZPV(s:List UInt8):Jn s=(decide (1<=s.length/\s.length<=64)&&tyU s s.length):=by
 unfold Jn tyA;congr 1;rcases s with _|⟨c,s⟩<;>simp
theorem ZYc(s:List UInt8): ∀(n j:Nat),j<n->tyC j (s.getD j 0)=false->tyU s n=false
 |n+1,j,hj,h=>by
  rw[tyU];by_cases e:j=n
  .subst e;rw[h,ZFc]
  .rw[ZYc s n j J0 h,ZFD]
theorem ZeT(j:Nat)(c:UInt8):(((decide ((Qf c).toNat>=97)&&decide ((Qf c).toNat<=122))||(decide (j>0)&&((decide ((Qf c).toNat>=48)&&decide ((Qf c).toNat<=57))||decide ((Qf c).toNat=45)))))=tyC j c:=by
 have h8:=ZEJ c;unfold tyC ZPW ZPB;by_cases h:65<=c.toNat/\c.toNat<=90
 .have e:(Qf c).toNat=c.toNat+32:=by have:=ZIe h;omega
  rw[e,QZ];simp only[ZBc,Zj,Yl];omega
 .have e:Qf c=c:=if_neg h;rw[e,QZ];simp only[ZBc,Zj,Yl];omega
theorem ZVC(s:List UInt8):(!s== []&&decide ((s.length:Int)<=64))=tyA s 0:=by
 unfold tyA;rw[tyU,QX,QZ];simp;omega
theorem ZV3(s:List UInt8)(j:Nat):(tyA s j&&(decide (((Qf (s.getD j 0)).toNat:Int)>=97)&&decide (((Qf (s.getD j 0)).toNat:Int)<=122)||decide ((j:Int)>0)&&(decide (((Qf (s.getD j 0)).toNat:Int)>=48)&&decide (((Qf (s.getD j 0)).toNat:Int)<=57)||((Qf (s.getD j 0)).toNat:Int)==45)))=tyA s (j+1):=by
 have h:=ZeT j (s.getD j 0);unfold tyA;rw[tyU,<-h,<-ZKW];congr 1;rw[QZ];simp only[ZBc,Zj,Yl,beq_iff_eq];omega
theorem ZV6(s:List UInt8)(i:Nat)(h:i<s.length):((ZE s).map Zv)[i]? =some [X.int .u8 (Qf (s.getD i 0)).toNat]:=by
 simp[ZE,h,Zv]
theorem ZZt(j:Nat)(c:UInt8):tyC j c=((decide (((c.toNat:Int))>=97)&&decide ((c.toNat:Int)<=122)||decide ((c.toNat:Int)>=65)&&decide ((c.toNat:Int)<=90))||(decide ((j:Int)≠0)&&(decide ((c.toNat:Int)>=48)&&decide ((c.toNat:Int)<=57)||decide ((c.toNat:Int)=45)))):=by
 unfold tyC ZPW ZPB;rw[QZ];simp only[ZBc,Zj,Yl];omega
theorem Zfm(s:List UInt8)(hl:s.length<=1000000):ZL Tryz.prog 170 [.x (.str s)] (.x (.bool (Jn s))):=by
 refine ZF.pure (fC 170 true ?_) rfl;intro C0 E0;have uu:=trivial;have tT:=(ZB:SsOk Tryz.prog YH);refine VD ?_;refine WI.loop (λφ os=> ∃(j:Nat),φ= [(0,.x (.str s)),(3,.x (.int .i64 j))]/\os= []/\j<=s.length/\tyU s j=true) (ZJ s.length 3) ?_ (λφ os hI=> ?_)
 .exact W5
 .obtain⟨j,rfl,rfl,hj,hu⟩:=hI;refine rg [0,3,9] ?_;refine cd (λh0=> ?_) (λh0=> ?_)
  .refine rg [0,3,4] ?_;refine rg [0,3,4,5] ?_;refine rg [0,3,47] ?_;refine cd (λh1=> ?_) (λh1=> ?_)
   .have hc:tyC j (s.getD j 0)=false:=by rw[ZZt];grind
    refine Wy ?_;rw[ZPV,ZYc s s.length j J0 hc,ZFc]
   .have hc:tyC j (s.getD j 0)=true:=by rw[ZZt];grind
    refine rg [0,3] ?_;exact⟨⟨j+1,rfl,rfl,J0,by rw[tyU,hu,hc];rfl⟩,Wa⟩
  .refine Wy ?_;rw[ZPV,show s.length=j by omega,hu,QX];congr 2;rw[QZ];simp;omega
def ZOJ:J8->J5
 | [.x (.str s)]=>some (decide (s.length<=1000000),.x (.bool (Jn s)))
 |_=>none
theorem ZQE:QK Tryz.prog ZOJ 170:=by
 intro args r h;unfold ZOJ at h;split at h
 .obtain⟨h1,rfl⟩:=Yn h;exact(Zfm _ h1)
 .cases h
theorem ZcV(s:List UInt8)(hl:s.length<=1000000):ZL Tryz.prog 205 [.x (.str s)] (.x (.bool (Jn s))):=by
 refine ZF.pure (fC 205 true ?_) rfl;intro C0 E0;have uu:=Qu @ZK7.eq_1 @ZFb @JO @QQ;have tT:=aQ ZB ZLA;refine VD ?_;refine rg [3,16,17,18] ?_;refine WI.loop (λφ os=> ∃(j:Nat),φ= [(3,.x (.bool (tyA s j))),(16,.ref 0 s.length 0 s.length),(17,.x (.int .i64 s.length)),(18,.x (.int .i64 j))]/\os= [.rows true 5 1 ((ZE s).map Zv)]/\j<=s.length) (ZJ s.length 18) ?_ (λφ os hI=> ?_)
 .exact⟨0,by rw[<-ZVC];rfl,rfl,J0⟩
 .obtain⟨j,rfl,rfl,hj⟩:=hI;refine rg [3,16,17,18,19] ?_;refine cd (λh0=> ?_) (λh0=> ?_)
  .have hj4:j<s.length:=Wm
   exact Ui
  .exact Xg
def ZIs:J8->J5
 | [.x (.str s)]=>some (decide (s.length<=1000000),.x (.bool (Jn s)))
 |_=>none
theorem ZJk:QK Tryz.prog ZIs 205:=by
 intro args r h;unfold ZIs at h;split at h
 .obtain⟨h1,rfl⟩:=Yn h;exact(ZcV _ h1)
 .cases h
theorem ZdS(s:List UInt8)(hl:s.length<=1000000):ZL Tryz.prog 148 [.x (.str s)] (.x (.bool (Jn s))):=by
 refine ZF.pure (fC 148 true ?_) rfl;intro C0 E0;have uu:=Qu @ZK7.eq_1 @ZFb @JO @QQ;have tT:=aQ ZB ZLA;refine VD ?_;refine rg [3,16,17,18] ?_;refine WI.loop (λφ os=> ∃(j:Nat),φ= [(3,.x (.bool (tyA s j))),(16,.ref 0 s.length 0 s.length),(17,.x (.int .i64 s.length)),(18,.x (.int .i64 j))]/\os= [.rows true 5 1 ((ZE s).map Zv)]/\j<=s.length) (ZJ s.length 18) ?_ (λφ os hI=> ?_)
 .exact⟨0,by rw[<-ZVC];rfl,rfl,J0⟩
 .obtain⟨j,rfl,rfl,hj⟩:=hI;refine rg [3,16,17,18,19] ?_;refine cd (λh0=> ?_) (λh0=> ?_)
  .have hj4:j<s.length:=Wm
   exact Ui
  .exact Xg
def ZLd:J8->J5
 | [.x (.str s)]=>some (decide (s.length<=1000000),.x (.bool (Jn s)))
 |_=>none
theorem ZOV:QK Tryz.prog ZLd 148:=by
 intro args r h;unfold ZLd at h;split at h
 .obtain⟨h1,rfl⟩:=Yn h;exact(ZdS _ h1)
 .cases h
end Go.Proofs.YtiogclkbccdefaaGreatDoor
end
section
namespace Go.Proofs
open Go.Shelf Go.RowKit Go.Lib
variable {P:Program} {ρ:Ren}
set_option maxHeartbeats 2000000 in
set_option maxRecDepth 100000 in
theorem Any1.stringslite_Cut_one(L:Lays.n220 P ρ)(s:ByteArray)(b:UInt8)(w:World)(hs:s.size<4294967281):
  Calls P (ρ.f 220) #[.string s,.string ⟨#[b]⟩] w λe w'=>e= .returned (.tuple #[.string ⟨(Lib.cut s.data.toList [b]).1.toArray⟩,.string ⟨(Lib.cut s.data.toList [b]).2.1.toArray⟩,.bool (Lib.cut s.data.toList [b]).2.2])/\ ∃n,w'=w.drewN n:=by
 rcases Lib.indexB_cases s ⟨#[b]⟩with hix|⟨i,hix,hroom⟩
 .obtain⟨e1,e2,e3⟩:=Lib.cutB_miss s ⟨#[b]⟩ hix;rw[show [b]=(⟨#[b]⟩:ByteArray).data.toList from rfl,e1,e2,e3];have t3:=L.t3;have t4:=L.t4;have t9:=L.t9;have a3: ∀w,(isAgg (ρ.t 3)).run P w= .ok false w:=run_isAgg_plain L.t3 rfl;have a4: ∀w,(isAgg (ρ.t 4)).run P w= .ok false w:=run_isAgg_plain L.t4 rfl;have a9: ∀w,(isAgg (ρ.t 9)).run P w= .ok false w:=run_isAgg_plain L.t9 rfl;have e219: ∀args w,(callFunc (ρ.f 219) args).run P w= .ok (.enter (ρ.f 219) args) w:=enters_of L.f219 J3 rfl;have mixed:=L.mixed;have z3:=L.z3;have v3:=L.v3;have z4:=L.z4;have v4:=L.v4;have z9:=L.z9;have v9:=L.v9
  go_enter L.f220,Body.n220_ntmps ρ
  go_wp2_with (go_at_fn (ρ.f 219);refine(Any.stringslite_Index_one {L with} _ _ _).mono ?_;rintro e w' ⟨rfl,rfl⟩;rw[<-Lib.index_one,show Lib.index s.data.toList [b]=_ from hix])
  go_ret3
  exact⟨rfl,0,rfl⟩
 .obtain⟨e1,e2,e3⟩:=Lib.cutB_hit s ⟨#[b]⟩ i hix;rw[show [b]=(⟨#[b]⟩:ByteArray).data.toList from rfl,e1,e2,e3];have hb1:(⟨#[b]⟩:ByteArray).size=1:=rfl;have c1:(0:Int)<= ↑i:=Wm
  have c2:(↑i:Int)<= ↑s.size:=Wm
  have c3:(0:Int)<= ↑i+1:=Wm
  have c4:(↑i+1:Int)<= ↑s.size:=Wm
  have t3:=L.t3;have t4:=L.t4;have t9:=L.t9;have a3: ∀w,(isAgg (ρ.t 3)).run P w= .ok false w:=run_isAgg_plain L.t3 rfl;have a4: ∀w,(isAgg (ρ.t 4)).run P w= .ok false w:=run_isAgg_plain L.t4 rfl;have a9: ∀w,(isAgg (ρ.t 9)).run P w= .ok false w:=run_isAgg_plain L.t9 rfl;have e219: ∀args w,(callFunc (ρ.f 219) args).run P w= .ok (.enter (ρ.f 219) args) w:=enters_of L.f219 J3 rfl;have mixed:=L.mixed;have z3:=L.z3;have v3:=L.v3;have z4:=L.z4;have v4:=L.v4;have z9:=L.z9;have v9:=L.v9
  go_enter L.f220,Body.n220_ntmps ρ
  go_wp2_with (go_at_fn (ρ.f 219);refine(Any.stringslite_Index_one {L with} _ _ _).mono ?_;rintro e w' ⟨rfl,rfl⟩;rw[<-Lib.index_one,show Lib.index s.data.toList [b]=_ from hix])
  go_region_o
  go_wp2
  go_ret3
  exact⟨rfl,1,rfl⟩
set_option maxHeartbeats 1000000 in
theorem Any1.strings_Cut_one(L:Lays.n145 P ρ)(s:ByteArray)(b:UInt8)(w:World)(hs:s.size<4294967281):
  Calls P (ρ.f 145) #[.string s,.string ⟨#[b]⟩] w λe w'=>e= .returned (.tuple #[.string ⟨(Lib.cut s.data.toList [b]).1.toArray⟩,.string ⟨(Lib.cut s.data.toList [b]).2.1.toArray⟩,.bool (Lib.cut s.data.toList [b]).2.2])/\ ∃n,w'=w.drewN n:=by
 have t4:=L.t4;have t9:=L.t9;have t59:=L.t59;have a4: ∀w,(isAgg (ρ.t 4)).run P w= .ok false w:=run_isAgg_plain L.t4 rfl;have a9: ∀w,(isAgg (ρ.t 9)).run P w= .ok false w:=run_isAgg_plain L.t9 rfl;have a59: ∀w,(isAgg (ρ.t 59)).run P w= .ok false w:=run_isAgg_plain L.t59 rfl;have e220: ∀args w,(callFunc (ρ.f 220) args).run P w= .ok (.enter (ρ.f 220) args) w:=enters_of L.f220 J3 rfl;have mixed:=L.mixed;have z4:=L.z4;have v4:=L.v4;have z9:=L.z9;have v9:=L.v9;have z59:=L.z59;have v59:=L.v59
 go_enter L.f145,Body.n145_ntmps ρ
 go_wp2_with (go_at_fn (ρ.f 220);refine(Any1.stringslite_Cut_one {L with} _ _ _ hs).mono ?_;rintro e w' ⟨rfl,n,rfl⟩)
 go_ret3
 exact⟨rfl,n,rfl⟩
end Go.Proofs
namespace Go.Proofs.YtiogclkbccdefaaGreatDoor
open Go.RowKit Go.Bo Go.Ab
def Kw(c:UInt8):List UInt8->List UInt8×List UInt8×Bool
 | []=>([],[],false)
 |b::l=>if b=c then([],l,true)else(b::(Kw c l).1,(Kw c l).2.1,(Kw c l).2.2)
theorem ZUx(c:UInt8): ∀s,Lib.cut s [c]=Kw c s
 | []=>by simp[Lib.cut,Kw,Lib.index]
 |b::l=>by
  have ih:=ZUx c l;unfold Lib.cut at ih|-;by_cases h:b=c
  .subst h;have hp: [b].isPrefixOf (b::l)=true:=by simp[List.isPrefixOf]
   simp[Lib.index,hp,Kw]
  .have hp: [c].isPrefixOf (b::l)=false:=by simp[List.isPrefixOf];exactλe=>h e.symm
   rw[Kw,if_neg h,<-ih];have hn:=Lib.index_ge l [c];by_cases hi:Lib.index l [c]= -1
   .simp[Lib.index,hp,hi]
   .obtain⟨n,hn⟩: ∃n:Nat,Lib.index l [c]=n:=⟨(Lib.index l [c]).toNat,J0⟩;simp only[Lib.index,hp,hn,Yx,Qw];simp;omega
theorem Zja(s:List UInt8)(c:UInt8)(hl:s.length<=1000000):ZL Tryz.prog 203 [.x (.str s),.x (.str [c])] (.tup [.x (.str (Kw c s).1),.x (.str (Kw c s).2.1),.x (.bool (Kw c s).2.2)]):=by
 intro w st vs hst hvl;obtain⟨hsz,hv⟩:=hvl;obtain⟨v0,v1,rfl⟩: ∃v0 v1,vs= #[v0,v1]:=by
  obtain⟨vl⟩:=vs
  match vl,hsz with
  | [a,b],_=>exact XV
 have h0:=hv 0 _ v0 rfl rfl;have h1:=hv 1 _ v1 rfl rfl;cases h0 with
 |x h0=>
 cases h1 with
 |x h1=>
 cases h1 with
 |str _=>
 cases h0 with
 |str _=>
 have hbs:(ZV s).size=s.length:=HE
 refine(Any1.strings_Cut_one Tryz.lays145 (ZV s) c w J0).mono ?_;rintro e w' ⟨rfl,n,rfl⟩;refine⟨_,st,rfl,⟨rfl,rfl,rfl,by simp[World.drewN],λ_ _ _=>rfl⟩,λ_ _ h=>h,λ_ _ h=> .inl h,?_⟩;have e1:(ZV s).data.toList=s:=Ht
 rw[e1,ZUx];exact V.tup3 (V.mkstr _ _ _) (V.mkstr _ _ _) (.x (.bool _))
theorem ZW9:Go.Ab.Enters Tryz.prog 203:=Go.Proofs.enters_of Tryz.lays145.f145 J3 rfl
def cutG:J8->J5
 | [.x (.str s),.x (.str [c])]=>some (decide (s.length<=1000000),.tup [.x (.str (Kw c s).1),.x (.str (Kw c s).2.1),.x (.bool (Kw c s).2.2)])
 |_=>none
theorem Zem:QK Tryz.prog cutG 203:=by
 intro args r h;unfold cutG at h;split at h
 .obtain⟨h1,rfl⟩:=Yn h;exact(Zja _ _ h1)
 .cases h
abbrev Av:=Tx×Tx
def Zu:RC Av:=⟨2,λp=> [.str p.1,.str p.2],λ
 | [.str a,.str b]=>some (a,b)
 |_=>none⟩
theorem ZEO:Zu.Good:=⟨λ_=>rfl,λ_=>rfl,λr x h=>by
 simp only[Zu]at h;split at h
 .cases h;rfl
 .cases h⟩
abbrev Jp:RC (List Av):=rSl Zu
theorem ZEX:Jp.Good:=ZDN ZEO
theorem ZPn(l:List Av):ZM Zu (rows Zu l)=some l:=ZS ZEO l
theorem ZKA(l:List (List Av)):ZM Jp (rows Jp l)=some l:=ZS ZEX l
theorem ZJM(l:List Av)(a b:Tx):rows Zu l++ [[X.str a,X.str b]]=rows Zu (l++ [(a,b)]):=by simp[rows,Zu]
theorem ZJa(l:List (List Av))(x:List Av):rows Jp l++ [[X.sl (rows Zu x)]]=rows Jp (l++ [x]):=by simp[rows,Jp,rSl]
def JU(s:Tx):Av×Bool:=
 if(Kw 61 s).2.2=false\/Jn (ZEz (Kw 61 s).1)=false then(([],[]),false)
 else((ZEz (Kw 61 s).1,(ZGG (Kw 61 s).2.1).1),(ZGG (Kw 61 s).2.1).2)
theorem ZKj(c:UInt8): ∀s,(Kw c s).1.length<=s.length/\(Kw c s).2.1.length<=s.length
 | []=>by simp[Kw]
 |b::l=>by
  obtain⟨h1,h2⟩:=ZKj c l;unfold Kw;split
  .simp
  .simp;omega
theorem ZMU(s:Tx):(ZEz s).length<=s.length:=ZEu (ZPY _) (ZWE _)
theorem ZfS(s:Tx)(hl:s.length<=900000):ZL Tryz.prog 183 [.x (.str s)] (.tup [.agg [.x (.str (JU s).1.1),.x (.str (JU s).1.2)],.x (.bool (JU s).2)]):=by
 have h1:=ZKj 61 s;have h2:=ZMU (Kw 61 s).1;rcases hq:JU s with⟨⟨a,v⟩,ok⟩
 unfold JU at hq;refine ZF.pure (fC 183 true ?_) rfl;intro C0 E0;have uu:=ξ5 @cutG.eq_1 @cutG.eq_2 @ZXy.eq_1 @ZIs.eq_1 @ZXR.eq_1;have tT:=aQ (aQ (aQ (aQ ZB Zem ZW9) Zb6) ZJk) Zdo;refine rg [0,2] ?_;refine rg [2,4,5,6] ?_;refine rg [2,4,5,6] ?_;refine rg [2,4,5,22] ?_;refine cd (λh0=> ?_) (λh0=> ?_)
 .refine Vi ?_;rw[if_pos Ww]at hq;exact NL
 .refine rg [2,4,6,7] ?_;refine Vi ?_;rw[if_neg Ww]at hq;exact NL
def ZNY:J8->J5
 | [.x (.str s)]=>some (decide (s.length<=900000),.tup [.agg [.x (.str (JU s).1.1),.x (.str (JU s).1.2)],.x (.bool (JU s).2)])
 |_=>none
theorem ZQB:QK Tryz.prog ZNY 183:=by
 intro args r h;unfold ZNY at h;split at h
 .obtain⟨h1,rfl⟩:=Yn h;exact(ZfS _ h1)
 .cases h
theorem Zbc(s:Tx):ZGG s=((ZH4 s).1,(ZH4 s).2&& !((ZH4 s).1== [])):=by
 have key: ∀(n:Nat) (r b:Tx) (e:Nat) (x:Tx×Nat),e<=b.length->Ju n r b e=some x->x.2<=x.1.length:=by
  intro n
  induction n with
  |zero=>intro r b e x _ h;cases h
  |succ n ih=>
   intro r b e x he h;rcases r with _|⟨c,r⟩
   .rw[Ju]at h;cases h;exact he
   .rw[Ju]at h;split at h
    .split at h
     .exact ih _ _ _ _ J1 h
     .cases h
    .split at h
     .cases h
     .split at h
      .exact ih _ _ _ _ Wx h
      .exact ih _ _ _ _ J1 h
 unfold ZGG ZH4;split
 .rfl
 .rename_i b e h;have hk:=key _ _ _ _ _ J1 h;simp only at hk;rw[ZAk];congr 1;rcases b with _|⟨c,b⟩
  .simp at hk;simp;omega
  .rcases e with _|e
   .simp
   .simp
def eqI:Tx->Nat
 | []=>0
 |c::s=>if c=61 then 0 else eqI s+1
theorem ZV0: ∀s:Tx,(eqI s=s.length->Kw 61 s=(s,[],false))/\(eqI s≠s.length->Kw 61 s=(s.take (eqI s),s.drop (eqI s+1),true))
 | []=>⟨λ_=>rfl,λh=>absurd rfl h⟩
 |c::s=>by
  obtain⟨h1,h2⟩:=ZV0 s;unfold eqI Kw;by_cases h:c=61
  .rw[if_pos h,if_pos h];simp
  .rw[if_neg h,if_neg h];refine⟨λe=> ?_,λe=> ?_⟩
   .rw[h1 (by simpa using e)]
   .rw[h2 (by simpa using e)];simp
theorem Zcs(s:Tx)(j:Nat)(h:j<s.length)(hc:s.getD j 0≠61):j+eqI (s.drop j)=j+1+eqI (s.drop (j+1)):=by
 rw[QR s j h]
 conv=>lhs;unfold eqI
 rw[if_neg hc];omega
theorem Zda(s:Tx)(j:Nat)(h:j<s.length)(hc:s.getD j 0=61):eqI (s.drop j)=0:=by
 rw[QR s j h,hc];rfl
theorem Zgh(s:Tx)(hl:s.length<=900000):ZL Tryz.prog 138 [.x (.str s)] (.tup [.agg [.x (.str (JU s).1.1),.x (.str (JU s).1.2)],.x (.bool (JU s).2)]):=by
 have hcut:=ZV0 s;rcases hq:JU s with⟨⟨a,v⟩,ok⟩
 unfold JU at hq;rw[Zbc]at hq;refine ZF.pure (fC 138 true ?_) rfl;intro C0 E0;have uu:=JL @ZSF.eq_1 @ZOJ.eq_1 @ZWW.eq_1;have tT:=aQ (aQ (aQ ZB ZaD) ZQE) Zdb;refine rg [0,2] ?_;refine rg [0,2,4] ?_;refine WI.loop (λφ os=> ∃(j:Nat),φ= [(0,.x (.str s)),(2,.ptr 0 0),(4,.x (.int .i64 j))]/\os= [.box [.x (.str []),.x (.str [])]]/\j<=s.length/\eqI s=j+eqI (s.drop j)) (ZJ s.length 4) ?_ (λφ os hI=> ?_)
 .exact UM
 .obtain⟨j,rfl,rfl,hj,hat⟩:=hI;refine rg [0,2,4,16] ?_;refine cd (λh0=> ?_) (λh0=> ?_)
  .have hj4:j<s.length:=Ww
   have hst:=Zcs s j hj4 (neD (k:=61) WT Ww);refine rg [0,2,4] ?_;exact⟨⟨j+1,rfl,rfl,J0,by rw[hat,hst]⟩,Wa⟩
  .have hej:eqI s=j:=by
    by_cases hj4:j<s.length
    .rw[hat,Zda s j hj4 (cD (a:=61) (by clear uu;show((s.getD j 0).toNat:Int)=61;grind))];rfl
    .rw[hat,ZBB J0];rfl
   clear hat;rw[hej]at hcut;have e1:((j:Int)+1).toNat=j+1:=Wm
   have hl1:decide ((s.take j).length<=1000000)=true:=ZI Hy;have htl:=ZMU (s.take j);have hl2:decide ((ZEz (s.take j)).length<=1000000)=true:=ZI (by rw[Yv]at htl;omega);have hl3:decide ((s.drop (j+1)).length<=900000)=true:=ZI T9;have uu:=ξ5 uu e1 hl1 hl2 hl3;refine rg [0,2,4,30] ?_;refine cd (λh1=> ?_) (λh1=> ?_)
   .refine Vi ?_;have h3:(Kw 61 s).2.2=false\/Jn (ZEz (Kw 61 s).1)=false:=by
     by_cases hz:j=s.length
     .rw[hcut.1 hz];exact NK
     .rw[hcut.2 hz];right;exact GZ
    rw[if_pos h3]at hq;exact NL
   .refine rg [0,2,4,5,6] ?_;refine Vi ?_;have hz:j≠s.length:=Ww
    rw[hcut.2 hz]at hq;rw[if_neg Ww]at hq;exact NL
def ZTR:J8->J5
 | [.x (.str s)]=>some (decide (s.length<=900000),.tup [.agg [.x (.str (JU s).1.1),.x (.str (JU s).1.2)],.x (.bool (JU s).2)])
 |_=>none
theorem ZaV:QK Tryz.prog ZTR 138:=by
 intro args r h;unfold ZTR at h;split at h
 .obtain⟨h1,rfl⟩:=Yn h;exact(Zgh _ h1)
 .cases h
theorem ZU8(p:Tx)(l:List Tx)(n:Nat)(h: ∀x∈l,x.length+p.length<=n)(hp:p.length<=n): ∀x∈pre p l,x.length<=n:=by
 rcases l with _|⟨y,l⟩
 .intro x hx;simp[pre]at hx;subst hx;exact hp
 .intro x hx;simp only[pre,Jf]at hx;rcases hx with rfl|hx
  .have:=h y J1;simp;omega
  .have:=h x (by simp[hx]);omega
theorem ZVg(p:Tx)(l:List Tx)(n:Nat)(h:l.length<=n)(h1:1<=n):(pre p l).length<=n:=by
 rcases l with _|⟨y,l⟩
 .exact h1
 .exact h
theorem ZjU{a c:UInt8}{r:Tx}(h1:c≠92)(h2:c=a):Yf a (c::r)= []::Yf a r:=by
 conv=>lhs;unfold Yf
 rw[if_neg h1,if_pos h2]
theorem ZjJ{a c:UInt8}{r:Tx}(h1:c≠92)(h2:c≠a):Yf a (c::r)=pre [c] (Yf a r):=by
 conv=>lhs;unfold Yf
 rw[if_neg h1,if_neg h2]
theorem ZBy(a:UInt8): ∀(n:Nat) (s:Tx),s.length<=n->(∀x∈Yf a s,x.length<=s.length)/\(Yf a s).length<=s.length+1
 |_,[],_=>by simp[Yf]
 |n+1,c::r,hn=>by
  have hn':r.length<=n:=by simpa using hn
  by_cases h1:c=92
  .rcases r with _|⟨d,r⟩
   .subst h1;simp[Yf]
   .obtain⟨h2,h3⟩:=ZBy a n r (by simp at hn';omega);have e:Yf a (c::d::r)=pre [c,d] (Yf a r):=by subst h1;rfl
    exact N4
  .obtain⟨h2,h3⟩:=ZBy a n r hn';by_cases h4:c=a
   .have e:Yf a (c::r)= []::Yf a r:=ZjU h1 h4;rw[e];refine⟨λx hx=> ?_,Wx⟩;rcases Jf.1 hx with rfl|hx
    .simp
    .have:=h2 x hx;simp;omega
   .have e:Yf a (c::r)=pre [c] (Yf a r):=ZjJ h1 h4;exact N4
def ZFp(s:Tx):List (Av×Bool):=(Yf 43 s).map JU
def Zt(s:Tx):List Av×Bool:=if(ZFp s).all (·.2)=true then((ZFp s).map (·.1),true)else([],false)
theorem Zl{α:Type}(p:α->Bool)(l:List α)(j:Nat)(h:j<l.length)(hp:p l[j]=false):l.all p=false:=by
 exact NG
theorem Yt{α:Type}(p:α->Bool)(l:List α)(j:Nat)(h:j<l.length):(l.take (j+1)).all p=((l.take j).all p&&p l[j]):=by
 rw[JW h,ZJh];simp
theorem Zf8(s:Tx)(hl:s.length<=900000):ZL Tryz.prog 160 [.x (.str s)] (.tup [.x (.sl (rows Zu (Zt s).1)),.x (.bool (Zt s).2)]):=by
 obtain⟨hb1,hb2⟩:=ZBy 43 _ s (Zr _);rcases hq:Zt s with⟨d,ok⟩
 unfold Zt ZFp at hq;have hsp:Yf (UInt8.ofNat (43:Int).toNat) s=Yf 43 s:=rfl;refine ZF.pure (fC 160 true ?_) rfl;intro C0 E0;have uu:=JL @ZGp.eq_1 @ZNY.eq_1 hsp;have tT:=aQ (aQ ZB ZGd) ZQB;refine rg [0] ?_;refine rg [0,4] ?_;refine rg [4,10,11,12] ?_;refine WI.ownA 4 188 2 ?_;generalize Yf 43 s=l at hq hb1 hb2|-;refine WI.loop (λφ os=> ∃(j:Nat),φ= [(4,.ref 0 j 0 j),(10,.x (.sl (rows ZC l))),(11,.x (.int .i64 l.length)),(12,.x (.int .i64 j))]/\os= [.rows false 188 2 (rows Zu ((l.take j).map λx=>(JU x).1))]/\j<=l.length/\(l.take j).all (λx=>(JU x).2)=true) (ZJ l.length 12) ?_ (λφ os hI=> ?_)
 .exact W5
 .obtain⟨j,rfl,rfl,hj,hall⟩:=hI;refine rg [4,10,11,12,13] ?_;refine cd (λh0=> ?_) (λh0=> ?_)
  .have hj4:j<l.length:=Wm
   have hbj:=hb1 _ (YK hj4);have hsc:decide (l[j].length<=900000)=true:=ZI J0;have uu:=YB uu hsc;refine rg [4,6,10,11,12] ?_;refine rg [4,7,8,10,11,12] ?_;refine rg [4,7,10,11,12,22] ?_;refine cd (λh1=> ?_) (λh1=> ?_)
   .have hf:(l.map JU).all (·.2)=false:=by rw[ZGJ];exact Zl _ l j hj4 WC
    exact TV
   .refine rgp [4,10,11,12] ?_;refine Vx ?_;refine WI.orderA [4,10,11,12] ?_;refine rg [4,10,11,12] ?_;exact⟨⟨j+1,rfl,by rw[JW hj4,Jj,ZMG,<-ZJM],J0,by rw[Yt _ l j hj4,hall];simpa using h1⟩,Wa⟩
  .have e1:(rows Zu ((l.take j).map λx=>(JU x).1)).length=j:=by simp[rows];omega
   have e2:(l.take j).length=j:=Wx
   have uu:=JL uu e1 e2;refine WK ?_;have hf:(l.map JU).all (·.2)=true:=by rw[ZGJ];rw[YR J0]at hall;exact hall
   rw[if_pos hf]at hq;cases hq;rw[YR (l:=l) J0,YR (by simp[rows];omega),Jv];rfl
def ZS9:J8->J5
 | [.x (.str s)]=>some (decide (s.length<=900000),.tup [.x (.sl (rows Zu (Zt s).1)),.x (.bool (Zt s).2)])
 |_=>none
theorem ZZb:QK Tryz.prog ZS9 160:=by
 intro args r h;unfold ZS9 at h;split at h
 .obtain⟨h1,rfl⟩:=Yn h;exact(Zf8 _ h1)
 .cases h
def Qr(r:List Av):List Tx:=r.map λp=>ZE p.1
def ZAh(r:List Av)(j:Nat):Bool:=Jn (r.getD j ([],[])).1&&(!((r.getD j ([],[])).2== [])&&(decide ((r.getD j ([],[])).2.length<=256)&& !decide (ZE (r.getD j ([],[])).1∈Qr (r.take j))))
def okP(r:List Av):Nat->Bool
 |0=>true
 |j+1=>okP r j&&ZAh r j
def JA(r:List Av):Bool:=okP r r.length&&decide (1<=r.length/\r.length<=8)
theorem ZHO(r:List Av): ∀(n j:Nat),j<n->ZAh r j=false->okP r n=false
 |n+1,j,hj,h=>by
  rw[okP];by_cases e:j=n
  .subst e;rw[h,ZFc]
  .rw[ZHO r n j J0 h,ZFD]
def ZCz(r:List Av)(j:Nat):List (Tx×Int):=(r.take j).map λp=>(ZE p.1,(1:Int))
theorem ZPJ: ∀(l:List Av) (k:Tx),ZH (l.map λp=>(ZE p.1,(1:Int))) k=if k∈Qr l then some 1 else none
 | [],k=>by simp[Qr,ZH]
 |p::l,k=>by
  have ih:=ZPJ l k;by_cases h:k=ZE p.1
  .simp[ZH,h,Qr]
  .have e:(k∈Qr (p::l))=(k∈Qr l):=by simp[Qr,h]
   have e2:ZH ((p::l).map λp=>(ZE p.1,(1:Int))) k=ZH (l.map λp=>(ZE p.1,(1:Int))) k:=by simp[ZH,h]
   rw[e2,ih];simp only[e]
theorem ZTW(r:List Av)(j:Nat)(h:j<r.length)(hn:ZE (r.getD j ([],[])).1∉Qr (r.take j)):Zy (ZCz r j) (ZE (r.getD j ([],[])).1) 1=ZCz r (j+1):=by
 unfold ZCz;rw[ZDK (by rw[ZPJ,if_neg hn]),JW h,Jj];simp[h]
theorem ZSX(r:List Av)(j:Nat)(k:Tx):Jz (Yw Ks kcI (ZCz r j)) [X.str k]=if k∈Qr (r.take j)then some [D.x (X.int .i64 1)]else none:=by
 rw[ZFG Ks kcI hkS (ZCz r j) k];unfold ZCz;rw[ZPJ];split<;>rfl
theorem ZCi(r:List Av)(j:Nat)(h:j<r.length):(rows Zu r)[j]? =some [X.str (r.getD j ([],[])).1,X.str (r.getD j ([],[])).2]:=by
 simp[rows,h,Zu]
def ZGk:J8->J5
 | [.x (.str s)]=>some (decide (s.length<=1000000),.x (.str (ZE s)))
 |_=>none
theorem ZGV:QK Tryz.prog ZGk 63:=by
 intro args r h;unfold ZGk at h;split at h
 .rename_i s;obtain⟨h1,rfl⟩:=Yn h;exact(ZPG s J0)
 .cases h
theorem ZjA(r:List Av)(hb: ∀p∈r,p.1.length<=900000):ZL Tryz.prog 184 [.x (.sl (rows Zu r))] (.x (.bool (JA r))):=by
 refine ZL.wf (λhw=> ?_);have hl:r.length<=maxLen:=by have:=(hw _ (ZAm)).1;rwa [ZQ]at this
 clear hw;simp only[maxLen]at hl;refine ZF.pure (fC 184 true ?_) rfl;intro C0 E0;have uu:=YB @ZGk.eq_1 @ZIs.eq_1;have tT:=aQ (aQ ZB ZGV) ZJk;refine VD ?_;refine rg [0,3,8,9,10] ?_;refine WI.loop (λφ os=> ∃(j:Nat),φ= [(0,.x (.sl (rows Zu r))),(3,.mref 0),(8,.x (.sl (rows Zu r))),(9,.x (.int .i64 r.length)),(10,.x (.int .i64 j))]/\os= [.mpo .str false (Yw Ks kcI (ZCz r j))]/\j<=r.length/\okP r j=true) (ZJ r.length 10) ?_ (λφ os hI=> ?_)
 .exact W5
 .obtain⟨j,rfl,rfl,hj,hok⟩:=hI;refine rg [0,3,8,9,10,11] ?_;refine cd (λh0=> ?_) (λh0=> ?_)
  .have hj4:j<r.length:=Wm
   have har:=ZCi r j hj4;have hbj:(r.getD j ([],[])).1.length<=900000:=NH
   have hgt:=ZSX r j (ZE (r.getD j ([],[])).1);have uu:=YB uu har;refine rg [0,3,5,8,9,10] ?_;refine rg [0,3,5,6,8,9,10] ?_;by_cases hin:ZE (r.getD j ([],[])).1∈Qr (r.take j)
   .rw[if_pos hin]at hgt;have uu:=YB uu hgt;refine rg [0,3,6,8,9,10,37] ?_;refine ct (λh1=> ?_) (λh1=> ?_)
    .refine Wy ?_;have hno:ZAh r j=false:=XH
     exact H2
    .clear uu;simp at h1
   .rw[if_neg hin]at hgt;have uu:=YB uu hgt;have hset:=ZEK Ks kcI hkS (ZCz r j) (ZE (r.getD j ([],[])).1) 1;rw[ZTW r j hj4 hin]at hset;have hset':Yp (Yw Ks kcI (ZCz r j)) [X.str (ZE (r.getD j ([],[])).1)] [D.x (X.int .i64 1)]=Yw Ks kcI (ZCz r (j+1)):=hset;have uu:=YB uu hset';refine rg [0,3,6,8,9,10,37] ?_;refine cd (λh1=> ?_) (λh1=> ?_)
    .refine Wy ?_;have hno:ZAh r j=false:=by unfold ZAh;exact GZ
     exact H2
    .have hone:ZAh r j=true:=by unfold ZAh;rw[decide_eq_false hin];exact GZ
     refine WI.post ?_;refine WI.regB tT [0,3,8,9,10] ?_;refine GC ?_;refine oG ?_;refine oP ?_;refine Jg [0] ?_ (ho:=WW);exact TW
  .refine Wy ?_;have hz:r.length=j:=Wm
   rw[show JA r=decide (1<=r.length/\r.length<=8) by unfold JA;rw[hz,hok,ZAk]];congr 2;rw[QZ];simp;omega
def Zb8:J8->J5
 | [.x (.sl R)]=>(ZM Zu R).bind λr=>some (decide (∀p∈r,p.1.length<=900000),.x (.bool (JA r)))
 |_=>none
theorem Zgo:QK Tryz.prog Zb8 184:=by
 intro args r h;unfold Zb8 at h;split at h
 .obtain⟨r,rfl,i0⟩:=un ZEO h;obtain⟨h1,rfl⟩:=Yn i0;exact(ZjA r h1)
 .cases h
abbrev Dn:=List (List Av)
def smD(d:Dn):Prop:= ∀r∈d,∀p∈r,p.1.length<=900000
instance (d:Dn):Decidable (smD d):=by unfold smD;infer_instance
def KA(d:Dn):Int:=if d.length>32 then 3 else if d.all JA=true then 0 else 5
theorem ZFF(d:Dn)(j:Nat)(h:j<d.length):(rows Jp d)[j]? =some [X.sl (rows Zu (d.getD j []))]:=by
 simp[rows,h,Jp,rSl]
theorem ZgB(d:Dn)(hb:smD d):ZL Tryz.prog 161 [.x (.sl (rows Jp d))] (.x (.int .i64 (KA d))):=by
 unfold KA;refine ZF.pure (fC 161 true ?_) rfl;intro C0 E0;have uu:=YB @Zb8.eq_1 @ZPn;have tT:=aQ ZB Zgo;refine rg [0] ?_;refine rg [0,7] ?_;refine cd (λh0=> ?_) (λh0=> ?_)
 .refine Wy ?_;rw[if_pos J0]
 .refine rg [8,9,10] ?_;refine WI.loop (λφ os=> ∃(j:Nat),φ= [(8,.x (.sl (rows Jp d))),(9,.x (.int .i64 d.length)),(10,.x (.int .i64 j))]/\os= []/\j<=d.length/\(d.take j).all JA=true) (ZJ d.length 10) ?_ (λφ os hI=> ?_)
  .exact W5
  .obtain⟨j,rfl,rfl,hj,hall⟩:=hI;refine rg [8,9,10,11] ?_;refine cd (λh1=> ?_) (λh1=> ?_)
   .have hj4:j<d.length:=Wm
    have hdj:d[j]=d.getD j []:=T8
    have hsm:decide (∀p∈d.getD j [],p.1.length<=900000)=true:=ZI (by rw[<-hdj];exact hb _ (YK hj4));have uu:=JL uu (ZFF d j hj4) hsm;refine rg [4,8,9,10] ?_;refine rg [8,9,10,16] ?_;refine cd (λh2=> ?_) (λh2=> ?_)
    .refine Wy ?_;rw[if_neg J0,if_neg XK]
    .exact G6
   .refine Wy ?_;rw[YR J0]at hall;rw[if_neg J0,if_pos hall]
def ZOn:J8->J5
 | [.x (.sl R)]=>(ZM Jp R).bind λd=>some (decide (smD d),.x (.int .i64 (KA d)))
 |_=>none
theorem ZQm:QK Tryz.prog ZOn 161:=by
 intro args r h;unfold ZOn at h;split at h
 .obtain⟨d,rfl,i0⟩:=un ZEX h;obtain⟨h1,rfl⟩:=Yn i0;exact(ZgB d h1)
 .cases h
def mxD:Dn->Nat
 | []=>0
 |r::d=>max r.length (mxD d)
theorem ZMX: ∀(d:Dn) (r:List Av),mxD (d++ [r])=max (mxD d) r.length
 | [],r=>by simp[mxD]
 |x::d,r=>by rw[ξZ,mxD,mxD,ZMX d r];omega
theorem ZZI(a b:Nat):(if(a:Int)>(b:Int)then(a:Int)else(b:Int))=((max b a:Nat):Int):=by split<;>omega
def ZC1(s:Tx):List (List Av×Bool):=(Yf 44 s).map Zt
def ZBZ(s:Tx):Dn:=(ZC1 s).map (·.1)
def Ya(s:Tx):Dn×Int:=
 if s.length>4096 then([],3)else if s= []then([],0)
 else if(ZC1 s).all (·.2)=true then(if mxD (ZBZ s)>8 then([],3)else if KA (ZBZ s)≠0 then([],KA (ZBZ s))else(ZBZ s,0))
 else([],5)
theorem ZZS(s:Tx):(JU s).1.1.length<=s.length:=by
 unfold JU;have h1:=(ZKj 61 s).1;have h2:=ZMU (Kw 61 s).1;split
 .simp
 .simp;omega
theorem ZdZ(s:Tx)(hs:s.length<=900000): ∀p∈(Zt s).1,p.1.length<=900000:=by
 unfold Zt ZFp;split
 .intro p hp;obtain⟨q,h1,rfl⟩:=YS.1 hp;obtain⟨x,h2,rfl⟩:=YS.1 h1;have:=(ZBy 43 _ s (Zr _)).1 x h2;have:=ZZS x;omega
 .intro p hp;simp at hp
theorem ZHa(s:Tx)(hs:s.length<=900000):(Zt s).1.length<=900001:=by
 unfold Zt ZFp;split
 .have:=(ZBy 43 _ s (Zr _)).2;simp;omega
 .simp
theorem ZHF(s:Tx)(hs:s.length<=900000):smD (ZBZ s):=by
 intro r hr;unfold ZBZ ZC1 at hr;obtain⟨q,h1,rfl⟩:=YS.1 hr;obtain⟨x,h2,rfl⟩:=YS.1 h1;have:=(ZBy 44 _ s (Zr _)).1 x h2;exact ZdZ x J0
theorem ZeS(s:Tx):ZL Tryz.prog 121 [.x (.str s)] (.tup [.x (.sl (rows Jp (Ya s).1)),.x (.int .i64 (Ya s).2)]):=by
 rcases hq:Ya s with⟨d,e⟩
 unfold Ya at hq;have hsp:Yf (UInt8.ofNat (44:Int).toNat) s=Yf 44 s:=rfl;refine ZF.pure (fC 121 true ?_) rfl;intro C0 E0;have uu:=ξ6 @ZGp.eq_1 @ZS9.eq_1 @ZOn.eq_1 hsp @ZKA @ZPn;have tT:=aQ (aQ (aQ ZB ZGd) ZZb) ZQm;refine rg [0] ?_;refine rg [0,11] ?_;refine cd (λh0=> ?_) (λh0=> ?_)
 .refine WK ?_;exact G4
 .refine rg [0,15] ?_;refine cd (λh1=> ?_) (λh1=> ?_)
  .refine WK ?_;rw[if_neg J0,if_pos WC]at hq;exact NL
  .have hne:s≠ []:=WC
   rw[if_neg J0,if_neg hne]at hq;have hs:s.length<=900000:=Wm
   obtain⟨hb1,hb2⟩:=ZBy 44 _ s (Zr _);have hsm:=ZHF s hs;refine Xc ?_;refine rg [4,5,19,20,21] ?_;refine WI.ownA 4 154 1 ?_;have hrl:ZC1 s=(Yf 44 s).map Zt:=rfl;have hnl:ZBZ s=((Yf 44 s).map Zt).map (·.1):=rfl;generalize Yf 44 s=l at hb1 hb2 hrl hnl|-;generalize ZC1 s=rl at hq hrl;generalize ZBZ s=nl at hq hnl hsm;subst hrl hnl;refine WI.loop (λφ os=> ∃(j:Nat),φ= [(4,.ref 0 j 0 j),(5,.x (.int .i64 (mxD ((l.take j).map λx=>(Zt x).1)))),(19,.x (.sl (rows ZC l))),(20,.x (.int .i64 l.length)),(21,.x (.int .i64 j))]/\os= [.rows false 154 1 (rows Jp ((l.take j).map λx=>(Zt x).1))]/\j<=l.length/\(l.take j).all (λx=>(Zt x).2)=true) (ZJ l.length 21) ?_ (λφ os hI=> ?_)
   .exact W5
   .obtain⟨j,rfl,rfl,hj,hall⟩:=hI;refine rg [4,5,19,20,21,22] ?_;refine cd (λh2=> ?_) (λh2=> ?_)
    .have hj4:j<l.length:=Wm
     have hbj:=hb1 _ (YK hj4);have hpc:=ZHa l[j] J0;have hsc:decide (l[j].length<=900000)=true:=ZI J0;have hmt:(l.take (j+1)).map (λx=>(Zt x).1)=(l.take j).map (λx=>(Zt x).1)++ [(Zt l[j]).1]:=by rw[JW hj4,Jj];rfl
     have hmx:mxD ((l.take (j+1)).map λx=>(Zt x).1)=max (mxD ((l.take j).map λx=>(Zt x).1)) (Zt l[j]).1.length:=by rw[hmt,ZMX]
     have uu:=YB uu hsc;refine rg [4,5,7,19,20,21] ?_;refine rg [4,5,8,9,19,20,21] ?_;refine rg [4,5,8,19,20,21,31] ?_;refine cd (λh3=> ?_) (λh3=> ?_)
     .have hf:(l.map Zt).all (·.2)=false:=by rw[ZGJ];exact Zl _ l j hj4 Tb
      exact TV
     .refine rg [4,5,8,19,20,21] ?_;refine rgp [4,5,19,20,21] ?_;refine Vx ?_;refine WI.orderA [4,5,19,20,21] ?_;refine rg [4,5,19,20,21] ?_;exact⟨⟨j+1,by rw[hmx,ZZI];first|done|rfl,by rw[hmt,<-ZJa];first|done|rfl,J0,by rw[Yt _ l j hj4,hall];simpa using h3⟩,Wa⟩
    .obtain rfl:j=l.length:=Wm
     rw[JX]at hall|-;have hf:(l.map Zt).all (·.2)=true:=by rw[ZGJ];exact hall
     rw[if_pos hf]at hq;have hmm:(l.map Zt).map (·.1)=l.map (λx=>(Zt x).1):=by rw[Jv];rfl
     rw[hmm]at hq hsm;have hml:(l.map λx=>(Zt x).1).length=l.length:=Yc ..;generalize(l.map λx=>(Zt x).1)=m at hq hsm hml|-;have e1:m.take l.length=m:=YR J0;have e2:decide (smD m)=true:=ZI hsm;have uu:=Qu uu hml e1 e2;refine rg [4,42] ?_;refine cd (λh4=> ?_) (λh4=> ?_)
     .refine WK ?_;exact G4
     .rw[if_neg J0]at hq;refine rg [4,10] ?_;refine rg [4,10,46] ?_;refine cd (λh5=> ?_) (λh5=> ?_)
      .refine WK ?_;rw[if_pos (by simpa using h5)]at hq;exact NL
      .refine WK ?_;rw[if_neg (by simpa using h5)]at hq;cases hq;first|rfl|rw[e1]
def ZGy:J8->J5
 | [.x (.str s)]=>some (true,.tup [.x (.sl (rows Jp (Ya s).1)),.x (.int .i64 (Ya s).2)])
 |_=>none
theorem ZF2:QK Tryz.prog ZGy 121:=by
 intro args r h;unfold ZGy at h;split at h
 .obtain rfl:=Qv h;exact(ZeS _)
 .cases h
theorem ZeJ(r:List Av)(j:Nat)(h:j<r.length)(x:Tx):x∈Qr (r.take (j+1))↔x∈Qr (r.take j)\/x=ZE (r.getD j ([],[])).1:=by
 unfold Qr;rw[JW h,Jj,KT];simp[h]
theorem ZeR(r:List Av)(j k:Nat)(h:j<k)(hk:k<=r.length):ZE (r.getD j ([],[])).1∈Qr (r.take k):=by
 unfold Qr;refine YS.2 ⟨r[j]' J0,?_,by simp[show j<r.length by omega]⟩;exact List.mem_take_iff_getElem.2 ⟨j,J0,rfl⟩
def ZMY:J8->J5
 | [.x (.str s)]=>some (decide (s.length<=1000000),.x (.str (ZE s)))
 |_=>none
theorem ZUi:QK Tryz.prog ZMY 97:=by
 intro args r h;unfold ZMY at h;split at h
 .exact GO
 .cases h
set_option maxHeartbeats 1000000 in
theorem Zej(d:Dn)(hb:smD d)(hld:d.length<=1000000)(hlr: ∀r∈d,r.length<=1000000):ZL Tryz.prog 139 [.x (.sl (rows Jp d))] (.x (.int .i64 (KA d))):=by
 unfold KA;refine ZF.pure (fC 139 true ?_) rfl;intro C0 E0;have uu:=YB @ZOJ.eq_1 @ZMY.eq_1;have tT:=aQ (aQ ZB ZQE) ZUi;refine rg [0] ?_;refine rg [0,9] ?_;refine cd (λh0=> ?_) (λh0=> ?_)
 .refine Wy ?_;rw[if_pos J0]
 .refine rg [0,3] ?_;refine WI.loop (λφ os=> ∃(i:Nat),φ= [(0,.x (.sl (rows Jp d))),(3,.x (.int .i64 i))]/\os= []/\i<=d.length/\(d.take i).all JA=true) (ZJ d.length 3) ?_ (λφ os hI=> ?_)
  .exact W5
  .obtain⟨i,rfl,rfl,hi,hall⟩:=hI;refine rg [0,3,13] ?_;refine cd (λh1=> ?_) (λh1=> ?_)
   .have hi4:i<d.length:=Wm
    have hdi:d[i]=d.getD i []:=G8
    have hrw:=ZFF d i hi4;have hri: ∀p∈d.getD i [],p.1.length<=900000:=by rw[<-hdi];exact hb _ (YK hi4)
    have hrl:(d.getD i []).length<=1000000:=by rw[<-hdi];exact hlr _ (YK hi4)
    rcases hdr:d.getD i []with r0
    obtain⟨r,hr0⟩: ∃r,r=r0:=⟨r0,rfl⟩;subst hr0;rw[hdr]at hri hrl hrw;have uu:=YB uu hrw;refine rg [0,3,29] ?_;refine cd (λh2=> ?_) (λh2=> ?_)
    .refine Wy ?_;rw[if_neg J0,if_neg (by rw[Zl JA d i hi4 (by rw[hdi,hdr];unfold JA;rw[decide_eq_false J0,ZFc])];decide)]
    .refine rg [0,3,4] ?_;refine WI.loop (λφ os=> ∃(k:Nat),φ= [(0,.x (.sl (rows Jp d))),(3,.x (.int .i64 i)),(4,.x (.int .i64 k))]/\os= []/\k<=r.length/\okP r k=true) (ZJ r.length 4) ?_ (λφ os hI=> ?_)
     .exact W5
     .obtain⟨k,rfl,rfl,hk,hok⟩:=hI;refine rg [0,3,4,36] ?_;refine cd (λh3=> ?_) (λh3=> ?_)
      .have hk4:k<r.length:=Wm
       have hka:=ZCi r k hk4;have hem:=ZIR (r.getD k ([],[])).2;have hkl:(r.getD k ([],[])).1.length<=900000:=by rw[show r.getD k ([],[])=r[k] by simp[hk4]];exact hri _ (YK hk4)
       have hsc:decide ((r.getD k ([],[])).1.length<=1000000)=true:=ZI J0;have uu:=JL uu hka hsc;refine rg [0,3,4,5] ?_;refine rg [0,3,4,5,61] ?_;refine cd (λh4=> ?_) (λh4=> ?_)
       .refine Wy ?_;have hno:ZAh r k=false:=by unfold ZAh;exact GZ
        exact TZ
       .refine rg [0,3,4,5,6] ?_;refine WI.loop (λφ os=> ∃(j:Nat),φ= [(0,.x (.sl (rows Jp d))),(3,.x (.int .i64 i)),(4,.x (.int .i64 k)),(5,.ptr 0 0),(6,.x (.int .i64 j))]/\os= [.box [.x (.str (r.getD k ([],[])).1),.x (.str (r.getD k ([],[])).2)]]/\j<=k/\ZE (r.getD k ([],[])).1∉Qr (r.take j)) (ZJ k 6) ?_ (λφ os hI=> ?_)
        .exact⟨0,rfl,rfl,J0,by simp[Qr]⟩
        .obtain⟨j,rfl,rfl,hj,hnin⟩:=hI;refine rg [0,3,4,5,6,64] ?_;refine cd (λh5=> ?_) (λh5=> ?_)
         .have hj4:j<k:=Wm
          have hja:=ZCi r j J0;have hjl:(r.getD j ([],[])).1.length<=900000:=by rw[show r.getD j ([],[])=r[j] by simp[show j<r.length by omega]];exact hri _ (YK _)
          have hsj:decide ((r.getD j ([],[])).1.length<=1000000)=true:=ZI J0;have uu:=JL uu hja hsj;refine WI.dregB tT [0,3,4,5,6,79] ?_
          refine Wn ?_;refine VJ ?_;refine WJ ?_;refine dQC ?_;refine WX ?_;refine dAC ?_;refine Zn ?_;refine VP ?_;refine cd (λh6=> ?_) (λh6=> ?_)
          .refine Wy ?_;have hin:ZE (r.getD k ([],[])).1∈Qr (r.take k):=by rw[<-show ZE (r.getD j ([],[])).1=ZE (r.getD k ([],[])).1 by simpa using h6];exact ZeR r j k hj4 J0
           have hno:ZAh r k=false:=XH
           exact TZ
          .refine rg [0,3,4,5,6] ?_;exact⟨⟨j+1,rfl,rfl,J0,λhh=>by rcases(ZeJ r j J0 _).1 hh with h|h;exact hnin h;exact h6 h.symm⟩,Wa⟩
         .have hone:ZAh r k=true:=by
           have hjk:j=k:=Wm
           rw[hjk]at hnin;unfold ZAh;rw[decide_eq_false hnin,hem];clear uu hall hdi hrw hka;grind
          refine rgp [0,3,4] ?_;refine Jg [] ?_;refine GE ?_;exact⟨⟨k+1,rfl,rfl,J0,by rw[okP,hok,ZAk];exact hone⟩,Wa⟩
      .refine rg [0,3] ?_;exact⟨⟨i+1,rfl,rfl,J0,by rw[Yt _ d i hi4,hall,hdi];show JA (d.getD i [])=true;rw[hdr];unfold JA;rw[show r.length=k by omega,hok];exact ZI ⟨J0,J0⟩⟩,Wa⟩
   .refine Wy ?_;rw[if_neg J0,if_pos (by rw[YR J0]at hall;exact hall)]
def ZNj:J8->J5
 | [.x (.sl R)]=>(ZM Jp R).bind λd=>some (decide (smD d)&&(decide (d.length<=1000000)&&(decide (∀r∈d,r.length<=1000000))),.x (.int .i64 (KA d)))
 |_=>none
theorem ZQ5:QK Tryz.prog ZNj 139:=by
 intro args r h;unfold ZNj at h;split at h
 .obtain⟨d,rfl,i0⟩:=un ZEX h;obtain⟨h1,h2,h3,rfl⟩:=fn3 i0;exact(Zej d h1 h2 h3)
 .cases h
def ZJT(d:Dn):Bool:=d.any λr=>decide (r.length>8)
theorem ZWg(d:Dn)(r:List Av):ZJT (d++ [r])=(ZJT d||decide (r.length>8)):=by simp[ZJT]
theorem ZSM: ∀d:Dn,ZJT d=decide (mxD d>8)
 | []=>rfl
 |r::d=>by
  have:=ZSM d;unfold ZJT at this|-;rw[List.any_cons,this,mxD,QZ];simp only[ZBc,Yl];omega
theorem Zb3(x:Tx)(h:(Yf 43 x).all (λy=>(JU y).2)=true):Zt x=((Yf 43 x).map (λy=>(JU y).1),true):=by
 unfold Zt ZFp;rw[if_pos (by rw[ZGJ];exact h),Jv];rfl
theorem ZYo(x:Tx)(h:(Yf 43 x).all (λy=>(JU y).2)=false):Zt x=([],false):=by
 unfold Zt ZFp;rw[if_neg (by rw[ZGJ];show ¬(Yf 43 x).all (λy=>(JU y).2)=true;rw[h];decide)]
set_option maxHeartbeats 1000000 in
theorem ZdP(s:Tx):ZL Tryz.prog 93 [.x (.str s)] (.tup [.x (.sl (rows Jp (Ya s).1)),.x (.int .i64 (Ya s).2)]):=by
 rcases hq:Ya s with⟨d,e⟩
 unfold Ya at hq;have hsp: ∀t,Yf (UInt8.ofNat (44:Int).toNat) t=Yf 44 t:=λt=>rfl
 have hsq: ∀t,Yf (UInt8.ofNat (43:Int).toNat) t=Yf 43 t:=λt=>rfl
 refine ZF.pure (fC 93 true ?_) rfl;intro C0 E0;have uu:=ξ7 @ZPd.eq_1 @ZTR.eq_1 @ZNj.eq_1 hsp hsq @ZKA @ZPn;have tT:=aQ (aQ (aQ ZB ZWt) ZaV) ZQ5;refine rg [0] ?_;refine rg [0,16] ?_;refine cd (λh0=> ?_) (λh0=> ?_)
 .refine WK ?_;exact G4
 .refine rg [0,18] ?_;refine cd (λh1=> ?_) (λh1=> ?_)
  .refine WK ?_;rw[if_neg J0,if_pos WC]at hq;exact NL
  .have hne:s≠ []:=WC
   rw[if_neg J0,if_neg hne]at hq;have hs:s.length<=900000:=Wm
   obtain⟨hb1,hb2⟩:=ZBy 44 _ s (Zr _);have hsm:=ZHF s hs;refine Xc ?_;refine rg [4,5,6] ?_;refine rg [4,5,6,7] ?_;refine WI.ownA 4 154 1 ?_;have hrl:ZC1 s=(Yf 44 s).map Zt:=rfl;have hnl:ZBZ s=((Yf 44 s).map Zt).map (·.1):=rfl;generalize Yf 44 s=l at hb1 hb2 hrl hnl|-;generalize ZC1 s=rl at hq hrl;generalize ZBZ s=nl at hq hnl hsm;subst hrl hnl;refine WI.loop (λφ os=> ∃(i:Nat),φ= [(4,.ref 0 i 0 i),(5,.x (.bool (ZJT ((l.take i).map λx=>(Zt x).1)))),(6,.x (.sl (rows ZC l))),(7,.x (.int .i64 i))]/\os= [.rows false 154 1 (rows Jp ((l.take i).map λx=>(Zt x).1))]/\i<=l.length/\(l.take i).all (λx=>(Zt x).2)=true) (ZJ l.length 7) ?_ (λφ os hI=> ?_)
   .exact W5
   .obtain⟨i,rfl,rfl,hi,hall⟩:=hI;refine rg [4,5,6,7,24] ?_;refine cd (λh2=> ?_) (λh2=> ?_)
    .have hi4:i<l.length:=Wm
     have hbi:=hb1 _ (YK hi4);have hsc:decide (l[i].length<=1000000)=true:=ZI J0;obtain⟨hc1,hc2⟩:=ZBy 43 _ l[i] (Zr _);have hmt:(l.take (i+1)).map (λx=>(Zt x).1)=(l.take i).map (λx=>(Zt x).1)++ [(Zt l[i]).1]:=by rw[JW hi4,Jj];rfl
     have hpo:=Zb3 l[i];have hpb:=ZYo l[i];have uu:=YB uu hsc;refine rg [4,5,6,7,8] ?_;refine rg [4,5,6,7,8,9] ?_;refine rg [4,5,6,7,8,9,10] ?_;refine WI.ownA 9 188 2 ?_;generalize Yf 43 l[i]=m at hc1 hc2 hpo hpb|-;refine WI.loop (λφ os=> ∃(k:Nat),φ= [(4,.ref 0 i 0 i),(5,.x (.bool (ZJT ((l.take i).map λx=>(Zt x).1)))),(6,.x (.sl (rows ZC l))),(7,.x (.int .i64 i)),(8,.x (.sl (rows ZC m))),(9,.ref 1 k 0 k),(10,.x (.int .i64 k))]/\os= [.rows false 154 1 (rows Jp ((l.take i).map λx=>(Zt x).1)),.rows false 188 2 (rows Zu ((m.take k).map λx=>(JU x).1))]/\k<=m.length/\(m.take k).all (λx=>(JU x).2)=true) (ZJ m.length 10) ?_ (λφ os hI=> ?_)
     .exact W5
     .obtain⟨k,rfl,rfl,hk,hok⟩:=hI;refine rg [4,5,6,7,8,9,10,35] ?_;refine cd (λh3=> ?_) (λh3=> ?_)
      .have hk4:k<m.length:=Wm
       have hbk:=hc1 _ (YK hk4);have hsd:decide (m[k].length<=900000)=true:=ZI J0;have uu:=YB uu hsd;refine rg [4,5,6,7,8,9,10,11,12] ?_;refine rg [4,5,6,7,8,9,10,11,47] ?_;refine cd (λh4=> ?_) (λh4=> ?_)
       .have hbad:=hpb (Zl _ m k hk4 Ta);have hf:(l.map Zt).all (·.2)=false:=by rw[ZGJ];exact Zl _ l i hi4 (by show(Zt l[i]).2=false;rw[hbad])
        exact TV
       .refine rgp [4,5,6,7,8,9,10] ?_;refine Jg [0,1] ?_;refine KI ?_;refine rg [4,5,6,7,8,9,10] ?_;exact⟨⟨k+1,rfl,by rw[JW hk4,Jj,ZMG,<-ZJM],J0,by rw[Yt _ m k hk4,hok];simpa using h4⟩,Wa⟩
      .obtain rfl:k=m.length:=Wm
       rw[JX]at hok|-;have hpx:=hpo hok;have hql:(m.map λx=>(JU x).1).length=m.length:=Yc ..;generalize(m.map λx=>(JU x).1)=q at hpx hql|-;have hpx1:(Zt l[i]).1=q:=by rw[hpx]
       have hpx2:(Zt l[i]).2=true:=by rw[hpx]
       rw[<-hql];have e1:q.take q.length=q:=JX;have uu:=YB uu e1;refine rg [4,5,6,7,9] ?_;refine rgp [4,5,6,7] ?_;refine Vx ?_;refine WI.orderA [4,5,6,7] ?_;refine rg [4,5,6,7] ?_;exact⟨⟨i+1,by rw[hmt,ZWg,hpx1,<-show decide ((q.length:Int)>8)=decide (q.length>8) by rw[QZ,Yl,Yl];omega];first|done|rfl,by rw[hmt,<-ZJa,hpx1];first|done|rfl,J0,by rw[Yt _ l i hi4,hall,hpx2];rfl⟩,Wa⟩
    .obtain rfl:i=l.length:=Wm
     rw[JX]at hall|-;have hf:(l.map Zt).all (·.2)=true:=by rw[ZGJ];exact hall
     rw[if_pos hf]at hq;have hmm:(l.map Zt).map (·.1)=l.map (λx=>(Zt x).1):=by rw[Jv];rfl
     rw[hmm]at hq hsm;have hml:(l.map λx=>(Zt x).1).length=l.length:=Yc ..;have hcnt: ∀r∈(l.map λx=>(Zt x).1),r.length<=1000000:=by
      intro r hr;obtain⟨x,h1,rfl⟩:=YS.1 hr;have:=ZHa x (by have:=hb1 x h1;omega);omega
     generalize(l.map λx=>(Zt x).1)=m at hq hsm hml hcnt|-;have e1:m.take l.length=m:=YR J0;have e2:(decide (smD m)&&(decide (m.length<=1000000)&&decide (∀r∈m,r.length<=1000000)))=true:=by rw[ZI hsm,ZI hcnt,ZI (show m.length<=1000000 by omega)];rfl
     have hlm:=ZSM m;have uu:=Qu uu hml e1 e2;refine rg [4,67] ?_;refine cd (λh5=> ?_) (λh5=> ?_)
     .refine WK ?_;have hz:mxD m>8\/m.length>32:=by rw[hlm]at h5;exact GZ
      by_cases hm8:mxD m>8
      .rw[if_pos hm8]at hq;exact NL
      .have h32:KA m=3:=by unfold KA;rw[if_pos J0]
       rw[if_neg hm8,h32,if_pos WT]at hq;exact NL
     .have hm8: ¬mxD m>8:=by rw[hlm]at h5;intro hh;rw[ZI hh]at h5;simp at h5
      rw[if_neg hm8]at hq;refine rg [4,13] ?_;refine rg [4,13,71] ?_;refine cd (λh6=> ?_) (λh6=> ?_)
      .refine WK ?_;rw[if_pos (by simpa using h6)]at hq;exact NL
      .refine WK ?_;rw[if_neg (by simpa using h6)]at hq;cases hq;first|rfl|rw[e1]
def ZIo:J8->J5
 | [.x (.str s)]=>some (true,.tup [.x (.sl (rows Jp (Ya s).1)),.x (.int .i64 (Ya s).2)])
 |_=>none
theorem ZJf:QK Tryz.prog ZIo 93:=by
 intro args r h;unfold ZIo at h;split at h
 .obtain rfl:=Qv h;exact(ZdP _)
 .cases h
theorem Zgu(r:List Av)(hb: ∀p∈r,p.1.length<=900000)(hl:r.length<=1000000):ZO Tryz.prog 184 [.ref 0 r.length 0 r.length] [.rows false 188 2 (rows Zu r)] (.x (.bool (JA r))) [.rows false 188 2 (rows Zu r)]:=by
 refine ZF.mcalls (fC 184 true ?_);intro C0 E0;have uu:=YB @ZGk.eq_1 @ZIs.eq_1;have tT:=aQ (aQ ZB ZGV) ZJk;refine VD ?_;refine rg [0,3,8,9,10] ?_;refine WI.loop (λφ os=> ∃(j:Nat),φ= [(0,.ref 0 r.length 0 r.length),(3,.mref 1),(8,.ref 0 r.length 0 r.length),(9,.x (.int .i64 r.length)),(10,.x (.int .i64 j))]/\os= [.rows false 188 2 (rows Zu r),.mpo .str false (Yw Ks kcI (ZCz r j))]/\j<=r.length/\okP r j=true) (ZJ r.length 10) ?_ (λφ os hI=> ?_)
 .exact W5
 .obtain⟨j,rfl,rfl,hj,hok⟩:=hI;refine rg [0,3,8,9,10,11] ?_;refine cd (λh0=> ?_) (λh0=> ?_)
  .have hj4:j<r.length:=Wm
   have har:=ZCi r j hj4;have hbj:(r.getD j ([],[])).1.length<=900000:=NH
   have hgt:=ZSX r j (ZE (r.getD j ([],[])).1);have uu:=YB uu har;refine rg [0,3,5,8,9,10] ?_;refine rg [0,3,5,6,8,9,10] ?_;by_cases hin:ZE (r.getD j ([],[])).1∈Qr (r.take j)
   .rw[if_pos hin]at hgt;have uu:=YB uu hgt;refine rg [0,3,6,8,9,10,37] ?_;refine ct (λh1=> ?_) (λh1=> ?_)
    .refine rg [2] ?_;refine WI.pickA [0] ?_;refine lf ?_;have hno:ZAh r j=false:=XH
     exact GN
    .clear uu;simp at h1
   .rw[if_neg hin]at hgt;have uu:=YB uu hgt;have hset:=ZEK Ks kcI hkS (ZCz r j) (ZE (r.getD j ([],[])).1) 1;rw[ZTW r j hj4 hin]at hset;have hset':Yp (Yw Ks kcI (ZCz r j)) [X.str (ZE (r.getD j ([],[])).1)] [D.x (X.int .i64 1)]=Yw Ks kcI (ZCz r (j+1)):=hset;have uu:=YB uu hset';refine rg [0,3,6,8,9,10,37] ?_;refine cd (λh1=> ?_) (λh1=> ?_)
    .refine rg [2] ?_;refine WI.pickA [0] ?_;refine lf ?_;have hno:ZAh r j=false:=by unfold ZAh;exact GZ
     exact GN
    .have hone:ZAh r j=true:=by unfold ZAh;rw[decide_eq_false hin];exact GZ
     refine WI.post ?_;refine WI.regB tT [0,3,8,9,10] ?_;refine GC ?_;refine oG ?_;refine oP ?_;refine Jg [0,1] ?_ (ho:=WW);exact TW
  .refine rg [2] ?_;refine WI.pickA [0] ?_;refine lf ?_;have hz:r.length=j:=Wm
   rw[show JA r=decide (1<=r.length/\r.length<=8) by unfold JA;rw[hz,hok,ZAk]];refine⟨?_,rfl⟩;congr 2;rw[QZ];simp;omega
def RF(d:Dn):List J8:=ZAK 1 (d.map (rows Zu))
def FM(d:Dn):J7:=fam 188 2 (d.map (rows Zu))
abbrev obD(d:Dn):J7:= .drw 154 1 (RF d)::FM d
theorem ZNK(d:Dn):(RF d).length=d.length:=by unfold RF;rw[ZP4,Yc]
theorem ZLB(d:Dn):(FM d).length=d.length:=by unfold FM;rw[ZLo,Yc]
theorem Zd6(d:Dn)(j:Nat)(h:j<d.length):(d.map (rows Zu))[j]? =some (rows Zu (d.getD j [])):=Hj
theorem ZaN(d:Dn)(j:Nat)(h:j<d.length):(RF d)[j]? =some [.ref (j+1) (d.getD j []).length 0 (d.getD j []).length]:=by
 unfold RF;rw[ZQU _ 1 j _ (Zd6 d j h),ZQ,ZPa]
theorem ZYx(d:Dn)(Y:J7)(j:Nat)(h:j<d.length):(FM d++Y)[j]? =some (.rows false 188 2 (rows Zu (d.getD j []))):=ZhR _ _ _ Y j _ (Zd6 d j h)
theorem ZLM(d:Dn)(j:Nat)(h:j<d.length):(FM d)[j]? =some (.rows false 188 2 (rows Zu (d.getD j []))):=by rw[<-ZYx d [] j h,Kg]
theorem ZaZ(d:Dn)(Y:J7)(j:Nat)(h:j<d.length)(r:List Av):(FM d++Y).set j (.rows false 188 2 (rows Zu r))=FM (d.set j r)++Y:=by
 unfold FM;rw[ZfD _ _ _ Y j _ (by rw[Yc];exact h),ZM8]
theorem ZeQ(d:Dn)(j:Nat)(h:j<d.length)(r:List Av):(FM d).set j (.rows false 188 2 (rows Zu r))=FM (d.set j r):=by
 have:=ZaZ d [] j h r;rwa [Kg,Kg]at this
theorem ZYW(d:Dn)(j:Nat)(r:List Av)(h:r.length=(d.getD j []).length):RF (d.set j r)=RF d:=by
 unfold RF;refine ZMC _ _ _ ?_;rw[ZM8,ZM8,ZQ];apply ZBg;intro i;rw[ZCr];split
 .rename_i hij;subst hij;rw[YI,YI];by_cases hj:j<d.length
  .simp[hj,ZQ]at h|-;rw[h]
  .simp[hj]
 .rfl
theorem Zey(d:Dn)(r:List Av):RF (d++ [r])=RF d++ [[.ref (d.length+1) r.length 0 r.length]]:=by
 unfold RF;rw[Jj,ZMG,ZOB,Yc,ZQ,ZPa]
theorem Zfb(d:Dn)(r:List Av):FM (d++ [r])=FM d++ [.rows false 188 2 (rows Zu r)]:=by
 unfold FM;rw[Jj,ZMG,ZcP]
theorem ZVH(d:Dn):(obD d).all (Ob.inP (λi=>decide (i<(obD d).length)))=true:=Zc6 154 188 2 (d.map (rows Zu))
theorem ZYC:Enters Tryz.prog 184:=QT 184
theorem ZQk(d:Dn)(j:Nat):d.set j (d.getD j [])=d:=by
 by_cases h:j<d.length
 .rw[show d.getD j []=d[j] by simp[h]];simp
 .rw[List.set_eq_of_length_le J0]
theorem Zhq(d:Dn)(j:Nat)(hj:j<d.length)(hb:smD d)(hl:(d.getD j []).length<=1000000):ZO Tryz.prog 184 [.ref (j+1) (d.getD j []).length 0 (d.getD j []).length] (obD d) (.x (.bool (JA (d.getD j [])))) (obD d):=by
 have hbj: ∀p∈d.getD j [],p.1.length<=900000:=by rw[show d.getD j []=d[j] by simp[hj]];exact hb _ (YK hj)
 have hc:=Zgu (d.getD j []) hbj hl;have:=ZO.row (args:= [.ref (j+1) (d.getD j []).length 0 (d.getD j []).length]) (OS:=obD d) (j+1) (by rw[show YA (inv [j+1]) [D.ref (j+1) (d.getD j []).length 0 (d.getD j []).length]= [D.ref 0 (d.getD j []).length 0 (d.getD j []).length] by simp only[YA,D.ren,inv,if_true]];exact hc) (by rw[ZBd];exact ZLM d j hj) rfl (by simp[JB,D.inP,Zh]) (λf=>rfl);rw[ZCM,ZeQ d j hj,ZQk]at this;exact this
theorem ZiL(d:Dn)(hb:smD d)(hl: ∀r∈d,r.length<=1000000)(hld:d.length<=1000000):ZO Tryz.prog 161 [.ref 0 d.length 0 d.length] (obD d) (.x (.int .i64 (KA d))) (obD d):=by
 have hRl:=ZNK d;have hFl:=ZLB d;unfold KA;refine ZF.mcalls (fC 161 true ?_);intro C0 E0;have uu:=ξ6 hRl hFl @ZHd @ZHh @ZHj @ZHe;have tT:=(ZB:SsOk Tryz.prog YH);refine rg [0] ?_;refine rg [0,7] ?_;refine cd (λh0=> ?_) (λh0=> ?_)
 .refine Wy ?_;rw[if_pos J0];exact Gg
 .refine rg [8,9,10] ?_;refine WI.loop (λφ os=> ∃(j:Nat),φ= [(8,.ref 0 d.length 0 d.length),(9,.x (.int .i64 d.length)),(10,.x (.int .i64 j))]/\os=obD d/\j<=d.length/\(d.take j).all JA=true) (ZJ d.length 10) ?_ (λφ os hI=> ?_)
  .exact W5
  .obtain⟨j,rfl,rfl,hj,hall⟩:=hI;refine rg [8,9,10,11] ?_;refine cd (λh1=> ?_) (λh1=> ?_)
   .have hj4:j<d.length:=Wm
    have hdj:d[j]=d.getD j []:=T8
    have hlj:(d.getD j []).length<=1000000:=by rw[<-hdj];exact hl _ (YK hj4)
    have hrf:=ZaN d j hj4;have hfm:=ZLM d j hj4;have uu:=JL uu hrf hfm;refine rg [4,8,9,10] ?_;refine rg [8,9,10,16] ?_ (hS:=(ZDC ZB ZYC (Zhq d j hj4 hb hlj)));refine cd (λh2=> ?_) (λh2=> ?_)
    .refine Wy ?_;rw[if_neg J0,if_neg XK];exact Gg
    .exact G6
   .refine Wy ?_;rw[YR J0]at hall;rw[if_neg J0,if_pos hall];exact Gg
theorem ZgK(s:Tx)(hl:s.length<=900000)(hok:(Zt s).2=true):ZO Tryz.prog 160 [.x (.str s)] [] (.tup [.ref 0 (Zt s).1.length 0 (Zt s).1.length,.x (.bool true)]) [.rows false 188 2 (rows Zu (Zt s).1)]:=by
 obtain⟨hb1,hb2⟩:=ZBy 43 _ s (Zr _);have hpl:(Zt s).1=(Yf 43 s).map (λx=>(JU x).1)/\(Yf 43 s).all (λx=>(JU x).2)=true:=by
  unfold Zt ZFp at hok|-;split at hok
  .rename_i h;rw[if_pos h];rw[ZGJ]at h;exact⟨by rw[Jv];rfl,h⟩
  .cases hok
 obtain⟨hpl,hpa⟩:=hpl;rw[hpl];clear hok hpl;have hsp:Yf (UInt8.ofNat (43:Int).toNat) s=Yf 43 s:=rfl;refine ZF.mcalls (fC 160 false ?_);intro C0 E0;have uu:=JL @ZGp.eq_1 @ZNY.eq_1 hsp;have tT:=aQ (aQ ZB ZGd) ZQB;refine rg [0] ?_;refine rg [0,4] ?_;refine rg [4,10,11,12] ?_;refine WI.ownA 4 188 2 ?_;generalize Yf 43 s=l at hpa hb1 hb2|-;refine WI.loop (λφ os=> ∃(j:Nat),φ= [(4,.ref 0 j 0 j),(10,.x (.sl (rows ZC l))),(11,.x (.int .i64 l.length)),(12,.x (.int .i64 j))]/\os= [.rows false 188 2 (rows Zu ((l.take j).map λx=>(JU x).1))]/\j<=l.length) (ZJ l.length 12) ?_ (λφ os hI=> ?_)
 .exact Vg
 .obtain⟨j,rfl,rfl,hj⟩:=hI;refine rg [4,10,11,12,13] ?_;refine cd (λh0=> ?_) (λh0=> ?_)
  .have hj4:j<l.length:=Wm
   have hbj:=hb1 _ (YK hj4);have hpj:(JU l[j]).2=true:=Yg.1 hpa _ (YK hj4);have hsc:decide (l[j].length<=900000)=true:=ZI J0;have uu:=YB uu hsc;refine rg [4,6,10,11,12] ?_;refine rg [4,7,8,10,11,12] ?_;refine rg [4,7,10,11,12,22] ?_;refine ce (λh1=> ?_) (λh1=> ?_)
   .rw[hpj]at h1;simp at h1
   .refine rgp [4,10,11,12] ?_;refine Vx ?_;refine WI.orderA [4,10,11,12] ?_;refine rg [4,10,11,12] ?_;exact⟨⟨j+1,rfl,by rw[JW hj4,Jj,ZMG,<-ZJM],J0⟩,Wa⟩
  .have e1:(rows Zu ((l.take j).map λx=>(JU x).1)).length=j:=by simp[rows];omega
   have e2:(l.take j).length=j:=Wx
   have uu:=JL uu e1 e2;refine Vi ?_;have hz:l.length=j:=Wm
   rw[YR (l:=l) J0,Yc,hz];exact Gg
theorem ZUk:Enters Tryz.prog 160:=QT 160
theorem ZeH(d:Dn)(s:Tx)(hl:s.length<=900000)(hok:(Zt s).2=true):ZO Tryz.prog 160 [.x (.str s)] (obD d) (.tup [.ref (d.length+1) (Zt s).1.length 0 (Zt s).1.length,.x (.bool true)]) (.drw 154 1 (RF d)::FM (d++ [(Zt s).1])):=by
 have:=ZO.new (OS:=obD d) (ZgK s hl hok) rfl (λp=>rfl);rw[ZMG,Yx,ZLB]at this;rw[Zfb];exact this
theorem ZUK:Enters Tryz.prog 161:=QT 161
theorem ZJd(s:Tx)(d:Dn)(hq:Ya s=(d,0))(hne:s≠ []):s.length<=4096/\(Yf 44 s).all (λx=>(Zt x).2)=true/\d=(Yf 44 s).map (λx=>(Zt x).1)/\mxD d<=8/\KA d=0:=by
 unfold Ya at hq;by_cases h1:s.length>4096
 .rw[if_pos h1]at hq;cases hq
 rw[if_neg h1,if_neg hne]at hq;by_cases h2:(ZC1 s).all (·.2)=true
 .rw[if_pos h2]at hq;by_cases h3:mxD (ZBZ s)>8
  .rw[if_pos h3]at hq;cases hq
  rw[if_neg h3]at hq;by_cases h4:KA (ZBZ s)≠0
  .rw[if_pos h4]at hq;simp only[YP]at hq;exact absurd hq.2 h4
  rw[if_neg h4]at hq;simp only[YP]at hq;obtain⟨rfl,-⟩:=hq;refine⟨J0,?_,?_,J0,Classical.not_not.1 h4⟩
  .unfold ZC1 at h2;rw[ZGJ]at h2;exact h2
  .unfold ZBZ ZC1;rw[Jv];rfl
 .rw[if_neg h2]at hq;cases hq
set_option maxHeartbeats 1000000 in
theorem ZgW(s:Tx)(d:Dn)(hq:Ya s=(d,0))(hne:s≠ []):ZO Tryz.prog 121 [.x (.str s)] [] (.tup [.ref 0 d.length 0 d.length,.x (.int .i64 0)]) (obD d):=by
 obtain⟨hs4,hall,hd,hmx8,hck⟩:=ZJd s d hq hne;clear hq;obtain⟨hb1,hb2⟩:=ZBy 44 _ s (Zr _);have hsm:smD d:=by
  have:=ZHF s J0;unfold ZBZ ZC1 at this;rw[Jv]at this;rw[hd];exact this
 have hsp:Yf (UInt8.ofNat (44:Int).toNat) s=Yf 44 s:=rfl;refine ZF.mcalls (fC 121 false ?_);intro C0 E0;have uu:=ξ6 @ZGp.eq_1 hsp @ZHd @ZHh @ZHj @ZHe;have tT:=aQ ZB ZGd;refine rg [0] ?_;refine rg [0,11] ?_;refine ce (λh0=> ?_) (λh0=> ?_)
 .simp at h0;omega
 .refine rg [0,15] ?_;refine ce (λh1=> ?_) (λh1=> ?_)
  .exact hne WC
  .refine Xc ?_;refine rg [4,5,19,20,21] ?_;refine WI.ownA 4 154 1 ?_;refine WI.toDA 0 ?_;generalize Yf 44 s=l at hb1 hb2 hall hd|-;refine WI.loop (λφ os=> ∃(j:Nat),φ= [(4,.ref 0 j 0 j),(5,.x (.int .i64 (mxD ((l.take j).map λx=>(Zt x).1)))),(19,.x (.sl (rows ZC l))),(20,.x (.int .i64 l.length)),(21,.x (.int .i64 j))]/\os=obD ((l.take j).map λx=>(Zt x).1)/\j<=l.length) (ZJ l.length 21) ?_ (λφ os hI=> ?_)
   .exact Vg
   .obtain⟨j,rfl,rfl,hj⟩:=hI;refine rg [4,5,19,20,21,22] ?_;refine cd (λh2=> ?_) (λh2=> ?_)
    .have hj4:j<l.length:=Wm
     have hbj:=hb1 _ (YK hj4);have hpc:=ZHa l[j] J0;have hpj:(Zt l[j]).2=true:=Yg.1 hall _ (YK hj4);have hmt:(l.take (j+1)).map (λx=>(Zt x).1)=(l.take j).map (λx=>(Zt x).1)++ [(Zt l[j]).1]:=by rw[JW hj4,Jj];rfl
     have hmx:mxD ((l.take (j+1)).map λx=>(Zt x).1)=max (mxD ((l.take j).map λx=>(Zt x).1)) (Zt l[j]).1.length:=by rw[hmt,ZMX]
     have hml:((l.take j).map λx=>(Zt x).1).length=j:=TE
     have hcall:=ZeH ((l.take j).map λx=>(Zt x).1) l[j] J0 hpj;rw[hml]at hcall;generalize hM:(l.take j).map (λx=>(Zt x).1)=M at hmt hmx hml hcall|-;generalize hR:(Zt l[j]).1=r at hmt hmx hcall hpc|-;have hrl:=ZNK M;have hfl:=ZLB (M++ [r]);rw[ZW,Kh,hml]at hfl;have hfg: ∀x:Ob,(FM (M++ [r])++ [x])[j+1]? =some x:=λx=>by rw[QI J0,hfl,ZIK];rfl
     rw[hml]at hrl;have hsn:=Zey M r;rw[hml]at hsn;have hfm:(FM (M++ [r]))[j]? =some (.rows false 188 2 (rows Zu r)):=by rw[ZLM (M++ [r]) j Wx];simp[hml]
     have uu:=ξ5 uu hrl hfl hfg hfm;refine rg [4,5,7,19,20,21] ?_;refine rg [4,5,8,9,19,20,21] ?_ (hS:=(ZDC ZB ZUk hcall));refine rg [4,5,8,19,20,21,31] ?_;refine ce (λh3=> ?_) (λh3=> ?_)
     .simp at h3
     .refine rg [4,5,8,19,20,21] ?_;refine WI.post ?_;refine WI.regB tT [4,5,19,20,21] ?_;refine GC ?_;refine Nu ?_;refine ZNf (obD (M++ [r])) _ (by rw[obD,hsn];rfl) (Kb _) (ZVH _) (by simp only[Qa,ZEM,D.inP,Yx,hfl];simp) ?_;refine GE ?_;refine WI.orderA [4,5,19,20,21] ?_;refine rg [4,5,19,20,21] ?_;exact⟨⟨j+1,by rw[hmx,ZZI];first|done|rfl,by rw[hmt],J0⟩,Wa⟩
    .obtain rfl:j=l.length:=Wm
     rw[JX,<-hd];have hdl:d.length=l.length:=by rw[hd,Yc]
     rw[<-hdl];have hcc:=ZiL d hsm (λr hr=>by rw[hd]at hr;obtain⟨x,h1,rfl⟩:=YS.1 hr;have:=ZHa x (by have:=hb1 x h1;omega);omega) J0;rw[hck]at hcc;refine rg [4,42] ?_;refine ce (λh4=> ?_) (λh4=> ?_)
     .simp at h4;omega
     .refine rg [4,10] ?_ (hS:=(ZDC ZB ZUK hcc));refine rg [4,10,46] ?_;refine ce (λh5=> ?_) (λh5=> ?_)
      .simp at h5
      .refine Vi ?_;exact Gg
def dgD(n:Nat):UInt8:=ZFd.getD n 0
def ZI2(c:UInt8):Bool:=decide ((c.toNat:Int)<32)||decide ((c.toNat:Int)=127)
def slD(c:UInt8)(f l:Bool):Bool:=spc c.toNat||(f&&(decide ((c.toNat:Int)=32)||decide ((c.toNat:Int)=35))||l&&decide ((c.toNat:Int)=32))
def ZED(c:UInt8)(f l:Bool):Tx:=if ZI2 c=true then [92,dgD (c.toNat/16),dgD (c.toNat % 16)]else if slD c f l=true then [92,c]else [c]
def ZA0(s:Tx)(j:Nat):Tx:=ZED (s.getD j 0) (decide (j=0)) (decide (j+1=s.length))
def ZBH(s:Tx):Nat->Tx
 |0=> []
 |j+1=>ZBH s j++ZA0 s j
def ZDn(s:Tx):Tx:=ZBH s s.length
theorem ZcX(c:UInt8)(f l:Bool):(ZED c f l).length<=3:=by unfold ZED;split;simp;split<;>simp
theorem ZFg(s:Tx): ∀j,(ZBH s j).length<=3*j
 |0=>by simp[ZBH]
 |j+1=>by
  have h1:=ZFg s j;have h2:=ZcX (s.getD j 0) (decide (j=0)) (decide (j+1=s.length));rw[ZBH,ZW];unfold ZA0;omega
theorem Zds(n:Nat)(h:n<256):IntKind.u8.wrap ((n:Int).tdiv 16)=((n/16:Nat):Int):=by
 rw[show(n:Int).tdiv 16=((n/16:Nat):Int)from rfl,IntWalk.u8_in _ J0]
theorem Zd9(n:Nat):(n:Int).tmod 16=((n % 16:Nat):Int):=rfl
theorem ZgY(b:Tx)(c d e:UInt8):b.map Zv++ [[X.int .u8 (c.toNat:Int)],[X.int .u8 (d.toNat:Int)],[X.int .u8 (e.toNat:Int)]]=(b++ [c,d,e]).map Zv:=by rw[Jj];rfl
theorem Zeq(b:Tx)(c:UInt8):b.map Zv++ [[X.int .u8 (c.toNat:Int)]]=(b++ [c]).map Zv:=by rw[Jj];rfl
theorem ZfH(s:Tx)(hl:s.length<=1000000):ZL Tryz.prog 177 [.x (.str s)] (.x (.str (ZDn s))):=by
 have hsl: ∀n,inB [44,43,34,92,60,62,59,61] n=spc n:=λn=>rfl
 have hud: ∀n:Nat,([48,49,50,51,52,53,54,55,56,57,97,98,99,100,101,102]:Tx).getD n 0=dgD n:=λn=>rfl
 refine ZF.pure (fC 177 true ?_) rfl;intro C0 E0;have uu:=ξ5 @ZOT.eq_1 hsl hud @JO @QQ;have tT:=aQ ZB ZM3;refine VD ?_;refine rg [0,3,9,10,11] ?_;refine WI.ownA 3 5 1 ?_;refine WI.loop (λφ os=> ∃(j:Nat),φ= [(0,.x (.str s)),(3,.ref 1 (ZBH s j).length 0 (ZBH s j).length),(9,.ref 0 s.length 0 s.length),(10,.x (.int .i64 s.length)),(11,.x (.int .i64 j))]/\os= [.rows true 5 1 (s.map Zv),.rows false 5 1 ((ZBH s j).map Zv)]/\j<=s.length) (ZJ s.length 11) ?_ (λφ os hI=> ?_)
 .exact Vg
 .obtain⟨j,rfl,rfl,hj⟩:=hI;have hle:=ZFg s j;refine rg [0,3,9,10,11,12] ?_;refine cd (λh0=> ?_) (λh0=> ?_)
  .have hj4:j<s.length:=Wm
   have hst:ZBH s (j+1)=ZBH s j++ZA0 s j:=rfl;have hb8:(s.getD j 0).toNat<256:=ZEJ _;have q0:(decide (0<=((s.getD j 0).toNat:Int)))=true:=ZI J0;have q1:=Zds _ hb8;have q2:=Zd9 (s.getD j 0).toNat;have q3:decide (((s.getD j 0).toNat/16:Nat)<(16:Int))=true:=ZI J0;have q4:decide (((s.getD j 0).toNat % 16:Nat)<(16:Int))=true:=ZI J0;have uu:=ξ7 uu (ZT3 s j hj4) q0 q1 q2 q3 q4;refine rg [0,3,4,5,9,10,11] ?_;refine rg [0,3,5,6,7,9,10,11] ?_;refine rg [0,3,5,6,7,9,10,11,23] ?_;refine cd (λh1=> ?_) (λh1=> ?_)
   .have hA:ZA0 s j= [92,dgD ((s.getD j 0).toNat/16),dgD ((s.getD j 0).toNat % 16)]:=by unfold ZA0 ZED ZI2;rw[if_pos Ww]
    have hn:(ZA0 s j).length=3:=by rw[hA];rfl
    have hrow:(ZBH s j).map Zv++ [[X.int .u8 92],[X.int .u8 ((dgD ((s.getD j 0).toNat/16)).toNat:Int)],[X.int .u8 ((dgD ((s.getD j 0).toNat % 16)).toNat:Int)]]=(ZBH s j++ZA0 s j).map Zv:=by rw[hA];exact ZgY _ 92 _ _
    refine WI.post ?_;refine WI.dregB tT [0,3,9,10,11] ?_;refine Wn ?_;refine Vc ?_;refine ZU ?_;refine Vc ?_;refine Qj ?_;refine Qj ?_;refine ZU ?_;refine dP ?_;exact Ve
   .refine rg [0,3,5,9,10,11,39] ?_;refine cd (λh2=> ?_) (λh2=> ?_)
    .have hA:ZA0 s j= [92,s.getD j 0]:=HA
     have hn:(ZA0 s j).length=1+1:=by rw[hA];rfl
     have hrow:(ZBH s j).map Zv++ [[X.int .u8 92]]++ [[X.int .u8 ((s.getD j 0).toNat:Int)]]=(ZBH s j++ZA0 s j).map Zv:=by rw[hA,Ys,Jj];rfl
     refine rgp [0,3,5,9,10,11] ?_;refine Jg [0,1] ?_;refine KI ?_;refine rgp [0,3,9,10,11] ?_;exact Ve
    .have hA:ZA0 s j= [s.getD j 0]:=HB
     have hn:(ZA0 s j).length=1:=by rw[hA];rfl
     have hrow:(ZBH s j).map Zv++ [[X.int .u8 ((s.getD j 0).toNat:Int)]]=(ZBH s j++ZA0 s j).map Zv:=by rw[hA];exact Zeq _ _
     refine rgp [0,3,9,10,11] ?_;exact Ve
  .have uu:=YB uu (ZOl (ZBH s j));refine Wy ?_;obtain rfl:j=s.length:=Wm
   first|rfl|(simp only[QQ,ZOl];first|done|rfl)
def ZTX:J8->J5
 | [.x (.str s)]=>some (decide (s.length<=1000000),.x (.str (ZDn s)))
 |_=>none
theorem ZZq:QK Tryz.prog ZTX 177:=by
 intro args r h;unfold ZTX at h;split at h
 .obtain⟨h1,rfl⟩:=Yn h;exact(ZfH _ h1)
 .cases h
theorem Zep: ∀m:Fin 16,(ZFd.take (m.val+1)).drop m.val= [dgD m.val]:=Uu
theorem Za0(m:Nat)(h:m<16):(ZFd.take (m+1)).drop m= [dgD m]:=Zep ⟨m,h⟩
theorem Zan(m:Nat)(h:m<16):IntKind.u8.wrap ((m:Int)+1)=((m+1:Nat):Int):=by rw[IntWalk.u8_in _ J0];rfl
theorem ZWC(s:Tx)(j:Nat)(h:j<s.length):List.drop j (List.take ((j:Int)+1).toNat s)= [s.getD j 0]:=by
 exact H1
theorem ZcN:ZFd.length=16:=rfl
theorem Zea(s:Tx)(hl:s.length<=1000000):ZL Tryz.prog 140 [.x (.str s)] (.x (.str (ZDn s))):=by
 refine ZF.pure (fC 140 true ?_) rfl;intro C0 E0;have uu:= @ZJC.eq_1;have tT:=aQ ZB ZMD;refine VD ?_;refine rg [0,3,4] ?_;refine rg [0,3,4,5] ?_;refine WI.loop (λφ os=> ∃(j:Nat),φ= [(0,.x (.str s)),(3,.x (.str ZFd)),(4,.x (.str (ZBH s j))),(5,.x (.int .i64 j))]/\os= []/\j<=s.length) (ZJ s.length 5) ?_ (λφ os hI=> ?_)
 .exact Vg
 .obtain⟨j,rfl,rfl,hj⟩:=hI;have hle:=ZFg s j;refine rg [0,3,4,5,10] ?_;refine cd (λh0=> ?_) (λh0=> ?_)
  .have hj4:j<s.length:=Wm
   have hst:ZBH s (j+1)=ZBH s j++ZA0 s j:=rfl;have hb8:(s.getD j 0).toNat<256:=ZEJ _;have q0:(decide (0<=((s.getD j 0).toNat:Int)))=true:=ZI J0;have uu:=YB uu q0;refine rg [0,3,4,5,6] ?_;refine rg [0,3,4,5,6,23] ?_;refine cd (λh1=> ?_) (λh1=> ?_)
   .have hA:ZA0 s j= [92,dgD ((s.getD j 0).toNat/16),dgD ((s.getD j 0).toNat % 16)]:=by unfold ZA0 ZED ZI2;rw[if_pos Ww]
    have uu:=ξn uu (ξn (show decide (((s.getD j 0).toNat/16:Nat)<=(((s.getD j 0).toNat/16+1:Nat):Int))=true from ZI J0) (ξn (show decide (((s.getD j 0).toNat/16+1:Nat)<=((16:Nat):Int))=true from ZI J0) (ξn (Zds _ hb8) (ξn (Zd9 (s.getD j 0).toNat) (ξn (Za0 ((s.getD j 0).toNat/16) J0) (ξn (Za0 ((s.getD j 0).toNat % 16) J0) (ξn (Zan ((s.getD j 0).toNat/16) J0) (ξn (Zan ((s.getD j 0).toNat % 16) J0) ZcN))))))));refine WI.dregB tT [0,3,4,5] ?_;refine X1 ?_
    refine Wn ?_;refine Zn ?_;refine ZU ?_;refine Vc ?_;refine Vc ?_;refine Wn ?_;refine Zn ?_;refine ZU ?_;refine Vc ?_;refine Vc ?_;refine ZU ?_;refine dN ?_;exact U3
   .refine rg [0,3,4,5,48] ?_;refine cd (λh2=> ?_) (λh2=> ?_)
    .have hA:ZA0 s j= [92,s.getD j 0]:=HA
     have uu:=YB uu (ZWC s j hj4);refine rg [0,3,4,5] ?_;exact U3
    .have hA:ZA0 s j= [s.getD j 0]:=HB
     have uu:=YB uu (ZWC s j hj4);refine rg [0,3,4,5] ?_;exact U3
  .refine Wy ?_;obtain rfl:j=s.length:=Wm
   rfl
def ZSJ:J8->J5
 | [.x (.str s)]=>some (decide (s.length<=1000000),.x (.str (ZDn s)))
 |_=>none
theorem ZYk:QK Tryz.prog ZSJ 140:=by
 intro args r h;unfold ZSJ at h;split at h
 .obtain⟨h1,rfl⟩:=Yn h;exact(Zea _ h1)
 .cases h
def Qe(c:UInt8):List Tx->Tx
 | []=> []
 | [x]=>x
 |x::y::r=>x++c::Qe c (y::r)
theorem ZEL(c:UInt8): ∀l,Lib.join l [c]=Qe c l
 | []=>rfl
 | [x]=>by rw[Lib.join_one];rfl
 |x::y::r=>by
  have:=ZEL c (y::r);simp only[Lib.join,List.intercalate,List.intersperse_cons_cons,ZUS,Qe]at this|-;rw[this];rfl
theorem ZBa(c:UInt8){x:Tx}{l:List Tx}(h:l≠ []):Qe c (x::l)=x++c::Qe c l:=by
 cases l with
 |nil=>exact absurd rfl h
 |cons y r=>rfl
theorem ZI8(c:UInt8): ∀(l:List Tx) (x:Tx),l≠ []->Qe c (l++ [x])=Qe c l++ [c]++x
 | [],x,h=>absurd rfl h
 | [y],x,_=>by simp[Qe]
 |y::z::r,x,_=>by
  have:=ZI8 c (z::r) x J1;have e:Qe c (y::z::r)=y++c::Qe c (z::r):=rfl;have e2:Qe c (y::(z::r++ [x]))=y++c::Qe c (z::r++ [x]):=ZBa c J1;rw[ξZ,e2,this,e];simp
theorem ZFR(c:UInt8)(m:Nat): ∀l:List Tx,(∀x∈l,x.length<=m)->(Qe c l).length<=l.length*(m+1)
 | [],_=>by simp[Qe]
 | [x],h=>by have:=h x J1;simp[Qe];omega
 |x::y::r,h=>by
  have h1:=ZFR c m (y::r) (λz hz=>h z (ξU _ hz));have h2:=h x J1;rw[ZBa c J1,ZW,Yx,Yx,JR];omega
theorem ZE1(l:List Tx)(x:Tx):rows ZC l++ [[X.str x]]=rows ZC (l++ [x]):=Ge
def Qo(p:Av):Tx:=p.1++ [61]++ZDn p.2
def JI(r:List Av):Tx:=Qe 43 (r.map Qo)
def Ki(d:Dn):Tx:=Qe 44 (d.map JI)
def Qp(d:Dn):Tx×Int:=if KA d≠0 then([],KA d)else if(Ki d).length>4096 then([],3)else(Ki d,0)
theorem ZSG(r:List Av): ∀(n j:Nat),okP r n=true->j<n->ZAh r j=true
 |n+1,j,h,hj=>by
  rw[okP,Zj]at h;by_cases e:j=n
  .subst e;exact h.2
  .exact ZSG r n j h.1 J0
theorem ZBh{r:List Av}(h:JA r=true):r.length<=8/\1<=r.length/\ ∀p∈r,p.1.length<=64/\p.2.length<=256:=by
 unfold JA at h;rw[Zj,Yl]at h;refine⟨h.2.2,h.2.1,λp hp=> ?_⟩;obtain⟨j,hj,rfl⟩:=ZXT hp;have h1:=ZSG r r.length j h.1 hj;unfold ZAh at h1;rw[ZPV,show r.getD j ([],[])=r[j] by simp[hj]]at h1;simp only[Zj,Yl]at h1;exact⟨h1.1.1.2,h1.2.2.1⟩
theorem ZER{d:Dn}(h:KA d=0):d.length<=32/\ ∀r∈d,JA r=true:=by
 unfold KA at h;split at h
 .cases h
 .split at h
  .rename_i h2;exact⟨J0,Yg.1 h2⟩
  .cases h
theorem ZR6{p:Av}(h:p.1.length<=64/\p.2.length<=256):(Qo p).length<=840:=by
 have:=ZFg p.2 p.2.length;unfold Qo ZDn;simp only[ZW,Yx,Qw];omega
theorem ZJA{r:List Av}(h:JA r=true):(JI r).length<=6800:=by
 obtain⟨h1,-,h2⟩:=ZBh h;have:=ZFR 43 840 (r.map Qo) (λx hx=>by obtain⟨p,hp,rfl⟩:=YS.1 hx;exact ZR6 (h2 p hp));rw[Yc]at this;unfold JI;omega
theorem Zca{d:Dn}(h:KA d=0):(Ki d).length<=250000:=by
 obtain⟨h1,h2⟩:=ZER h;have:=ZFR 44 6800 (d.map JI) (λx hx=>by obtain⟨r,hr,rfl⟩:=YS.1 hx;exact ZJA (h2 r hr));rw[Yc]at this;unfold Ki;omega
set_option maxHeartbeats 1000000 in
theorem Zho(d:Dn)(hb:smD d):ZL Tryz.prog 144 [.x (.sl (rows Jp d))] (.tup [.x (.str (Qp d).1),.x (.int .i64 (Qp d).2)]):=by
 rcases hq:Qp d with⟨u,e⟩
 unfold Qp at hq;have hsd:decide (smD d)=true:=ZI hb;refine ZF.pure (fC 144 true ?_) rfl;intro C0 E0;have uu:=ξ7 @ZOn.eq_1 @ZTX.eq_1 @ZNS.eq_1 @ZKA @ZPn hsd @ZIJ.eq_1;have tT:=aT (aQ (aQ (aQ ZB ZQm) ZZq) ZGv ZFn) (ZCh ZGv) ZFn;refine XX ?_
 refine oS ?_;refine Wf ?_;refine WI.regB tT [0,4] ?_;refine oS ?_;refine oC (hok:=Wc) ?_;refine Wf ?_;refine WI.regB tT [0,4,15] ?_;refine Ty ?_;refine V9 ?_;refine cd (λh0=> ?_) (λh0=> ?_)
 .refine Nk ?_;rw[if_pos Vh]at hq;exact NL
 .rw[if_neg Vh]at hq;have hck:KA d=0:=Vh
  obtain⟨hd32,hmay⟩:=ZER hck;refine WI.regB tT [0,5] ?_;refine Wf ?_;refine WI.regB tT [5,17,18,19] ?_;refine Ty ?_;refine Wf ?_;refine WI.ownA 5 9 1 ?_;refine WI.loop (λφ os=> ∃(j:Nat),φ= [(5,.ref 0 j 0 j),(17,.x (.sl (rows Jp d))),(18,.x (.int .i64 d.length)),(19,.x (.int .i64 j))]/\os= [.rows false 9 1 (rows ZC ((d.take j).map JI))]/\j<=d.length) (ZJ d.length 19) ?_ (λφ os hI=> ?_)
  .exact Vg
  .obtain⟨j,rfl,rfl,hj⟩:=hI;refine nz ?_;refine WI.regB tT [5,17,18,19,20] ?_;refine oG (hok:=Wc) ?_;refine V9 ?_;refine cd (λh1=> ?_) (λh1=> ?_)
   .have hj4:j<d.length:=Wm
    have hmj:JA (d.getD j [])=true:=by rw[show d.getD j []=d[j] by simp[hj4]];exact hmay _ (YK hj4)
    obtain⟨hr8,-,hpb⟩:=ZBh hmj;have hpl:=ZJA hmj;have hst:(d.take (j+1)).map JI=(d.take j).map JI++ [JI (d.getD j [])]:=by rw[JW hj4,Jj,show d.getD j []=d[j] by simp[hj4]];rfl
    have hrow:=ZFF d j hj4;generalize d.getD j []=r at hmj hr8 hpb hpl hst hrow|-;have uu:=YB uu hrow;refine WI.regB tT [5,7,17,18,19] ?_
    iterate 2 refine oG (hok:=Wc) ?_
    refine Wf ?_;refine WI.regB tT [5,7,8,17,18,19] ?_;refine Wf ?_;refine WI.regB tT [5,8,17,18,19,23,24,25] ?_;refine Ty ?_;refine Wf ?_;refine WI.ownA 8 9 1 ?_;refine WI.orderA [5,8,17,18,19,23,24,25] ?_;refine WI.loop (λφ os=> ∃(k:Nat),φ= [(5,.ref 0 j 0 j),(8,.ref 1 k 0 k),(17,.x (.sl (rows Jp d))),(18,.x (.int .i64 d.length)),(19,.x (.int .i64 j)),(23,.x (.sl (rows Zu r))),(24,.x (.int .i64 r.length)),(25,.x (.int .i64 k))]/\os= [.rows false 9 1 (rows ZC ((d.take j).map JI)),.rows false 9 1 (rows ZC ((r.take k).map Qo))]/\k<=r.length) (ZJ r.length 25) ?_ (λφ os hI=> ?_)
    .exact Vg
    .obtain⟨k,rfl,rfl,hk⟩:=hI;refine nz ?_;refine WI.regB tT [5,8,17,18,19,23,24,25,26] ?_;refine oG (hok:=Wc) ?_;refine V9 ?_;refine cd (λh2=> ?_) (λh2=> ?_)
     .have hk4:k<r.length:=Wm
      have har:=ZCi r k hk4;have hpk:(r.getD k ([],[])).1.length<=64/\(r.getD k ([],[])).2.length<=256:=UY
      have hel:=ZFg (r.getD k ([],[])).2 (r.getD k ([],[])).2.length;have hel2:(ZDn (r.getD k ([],[])).2).length<=800:=by unfold ZDn;omega
      have hsk:(r.take (k+1)).map Qo=(r.take k).map Qo++ [Qo (r.getD k ([],[]))]:=by rw[JW hk4,Jj,show r.getD k ([],[])=r[k] by simp[hk4]];rfl
      have hsc:decide ((r.getD k ([],[])).2.length<=1000000)=true:=ZI J0;have uu:=JL uu har hsc;refine WI.regB tT [5,8,10,17,18,19,23,24,25] ?_
      iterate 2 refine oG (hok:=Wc) ?_
      refine oG ?_;refine oG (hok:=Wc) ?_;refine V9 ?_;refine WI.post ?_;refine WI.dregB tT [5,8,17,18,19,23,24,25] ?_;refine Wn ?_;refine Zd (hok:=Wc) ?_;refine Zn (hok:=Wc) ?_;refine ZU ?_;refine Zd (hok:=Wc) ?_;refine dQC (hok:=Wc) ?_;refine Zn (hok:=Wc) ?_
      iterate 2 refine Qj (hok:=Wc) ?_
      refine ZU ?_;refine dP ?_;refine Jg [0,1] ?_;refine GE ?_;refine WI.regB tT [5,8,17,18,19,23,24,25] ?_;refine oG (hok:=Wc) ?_;refine Wf ?_;exact⟨⟨k+1,rfl,by rw[hsk,<-ZE1];first|done|rfl,J0⟩,Wa⟩
     .obtain rfl:k=r.length:=Wm
      rw[JX];have hjl:decide ((Lib.join (r.map Qo) [43]).length<=140737488355328/\(r.map Qo).length<=140737488355328)=true:=ZI ⟨by rw[ZEL];unfold JI at hpl;omega,by rw[Yc];omega⟩;have e1:(r.map Qo).length=r.length:=Yc ..;have e2:(r.map Qo).take r.length=r.map Qo:=YR J0;have e3:Lib.join (r.map Qo) [43]=JI r:=ZEL 43 _;have uu:=ξ5 uu e1 e2 hjl e3;refine WI.post ?_;refine WI.regB tT [5,17,18,19] ?_
      refine Wu ?_;refine oC (hok:=Wc) ?_
      iterate 2 refine oG (hok:=Wc) ?_
      refine Nu ?_;refine Vx ?_;refine WI.orderA [5,17,18,19] ?_;refine WI.regB tT [5,17,18,19] ?_;refine oG (hok:=Wc) ?_;refine Wf ?_;exact HX
   .obtain rfl:j=d.length:=Wm
    rw[JX];have hnl:=Zca hck;have hjl:decide ((Lib.join (d.map JI) [44]).length<=140737488355328/\(d.map JI).length<=140737488355328)=true:=ZI ⟨by rw[ZEL];unfold Ki at hnl;omega,by rw[Yc];omega⟩;have e1:(d.map JI).length=d.length:=Yc ..;have e2:(d.map JI).take d.length=d.map JI:=YR J0;have e3:Lib.join (d.map JI) [44]=Ki d:=ZEL 44 _;have uu:=ξ5 uu e1 e2 hjl e3;refine WI.regB tT [11] ?_;refine oS ?_;refine oC (hok:=Wc) ?_;refine Wf ?_;refine WI.regB tT [11,50] ?_;refine oS ?_
    iterate 2 refine oG (hok:=Wc) ?_
    refine V9 ?_;refine cd (λh3=> ?_) (λh3=> ?_)
    .exact Mj
    .refine Nk ?_;rw[if_neg J0]at hq;exact NL
def ZLj:J8->J5
 | [.x (.sl R)]=>(ZM Jp R).bind λd=>some (decide (smD d),.tup [.x (.str (Qp d).1),.x (.int .i64 (Qp d).2)])
 |_=>none
theorem ZFJ:QK Tryz.prog ZLj 144:=by
 intro args r h;unfold ZLj at h;split at h
 .obtain⟨d,rfl,i0⟩:=un ZEX h;obtain⟨h1,rfl⟩:=Yn i0;exact(Zho d h1)
 .cases h
theorem ZP0(r:List Av)(k:Nat)(h:k<r.length):JI (r.take (k+1))=(if k=0 then []else JI (r.take k)++ [43])++Qo (r.getD k ([],[])):=by
 have e:(r.take (k+1)).map Qo=(r.take k).map Qo++ [Qo (r.getD k ([],[]))]:=by rw[JW h,Jj,show r.getD k ([],[])=r[k] by simp[h]];rfl
 unfold JI;rw[e];split
 .rename_i h0;subst h0;simp[Qe]
 .exact N5
theorem Zfn(r:List Av)(hr:JA r=true):ZL Tryz.prog 94 [.x (.sl (rows Zu r))] (.x (.str (JI r))):=by
 obtain⟨hr8,-,hpb⟩:=ZBh hr;have hpl: ∀k,(JI (r.take k)).length<=6800:=λk=>by
  have:=ZFR 43 840 ((r.take k).map Qo) (λx hx=>by obtain⟨p,hp,rfl⟩:=YS.1 hx;exact ZR6 (hpb p (ZCH hp)));rw[Yc,Yv]at this;have h2:min k r.length<=8:=Wm
  unfold JI;omega
 refine ZF.pure (fC 94 true ?_) rfl;intro C0 E0;have uu:= @ZSJ.eq_1;have tT:=aQ ZB ZYk;refine Ub ?_;refine WI.regB tT [0,3,4] ?_;refine Wf ?_;refine WI.loop (λφ os=> ∃(k:Nat),φ= [(0,.x (.sl (rows Zu r))),(3,.x (.str (JI (r.take k)))),(4,.x (.int .i64 k))]/\os= []/\k<=r.length) (ZJ r.length 4) ?_ (λφ os hI=> ?_)
 .exact Vg
 .obtain⟨k,rfl,rfl,hk⟩:=hI;refine nz ?_;refine WI.regB tT [0,3,4,8] ?_
  refine Wu ?_
  iterate 2 refine oG (hok:=Wc) ?_
  refine V9 ?_;refine cd (λh0=> ?_) (λh0=> ?_)
  .have hk4:k<r.length:=Wm
   have hlk:=hpl k;have har:=ZCi r k hk4;have hpk:(r.getD k ([],[])).1.length<=64/\(r.getD k ([],[])).2.length<=256:=UY
   have hel:=ZFg (r.getD k ([],[])).2 (r.getD k ([],[])).2.length;have hel2:(ZDn (r.getD k ([],[])).2).length<=800:=by unfold ZDn;omega
   have hsc:decide ((r.getD k ([],[])).2.length<=1000000)=true:=ZI J0;have uu:=JL uu har hsc;refine WI.regB tT [0,3,4,12] ?_;refine Ty ?_;refine V9 ?_;refine cd (λh1=> ?_) (λh1=> ?_)
   .have hst:JI (r.take (k+1))=JI (r.take k)++ [43]++(r.getD k ([],[])).1++ [61]++ZDn (r.getD k ([],[])).2:=by rw[ZP0 r k hk4,if_neg J0];unfold Qo;simp
    refine WI.regB tT [0,3,4] ?_;refine Ty ?_;refine Wf ?_;refine XG ?_
    iterate 2 refine Zn (hok:=Wc) ?_
    exact Uq
   .have hst:JI (r.take (k+1))=JI (r.take k)++(r.getD k ([],[])).1++ [61]++ZDn (r.getD k ([],[])).2:=by
     rw[ZP0 r k hk4,if_pos J0];obtain rfl:k=0:=Wm
     unfold Qo;simp[JI,Qe]
    refine XG ?_
    iterate 2 refine Zn (hok:=Wc) ?_
    exact Uq
  .refine GT ?_;refine Un ?_;obtain rfl:k=r.length:=Wm
   rw[JX]
def ZOQ:J8->J5
 | [.x (.sl R)]=>(ZM Zu R).bind λr=>some (decide (JA r=true),.x (.str (JI r)))
 |_=>none
theorem ZQY:QK Tryz.prog ZOQ 94:=by
 intro args r h;unfold ZOQ at h;split at h
 .obtain⟨r,rfl,i0⟩:=un ZEO h;obtain⟨h1,rfl⟩:=Yn i0;exact(Zfn r h1)
 .cases h
theorem ZQx(d:Dn)(k:Nat)(h:k<d.length):Ki (d.take (k+1))=(if k=0 then []else Ki (d.take k)++ [44])++JI (d.getD k []):=by
 have e:(d.take (k+1)).map JI=(d.take k).map JI++ [JI (d.getD k [])]:=by rw[JW h,Jj,show d.getD k []=d[k] by simp[h]];rfl
 unfold Ki;rw[e];split
 .rename_i h0;subst h0;simp[Qe]
 .exact N5
theorem Zgq(d:Dn)(hb:smD d)(hld:d.length<=1000000)(hlr: ∀r∈d,r.length<=1000000):ZL Tryz.prog 105 [.x (.sl (rows Jp d))] (.tup [.x (.str (Qp d).1),.x (.int .i64 (Qp d).2)]):=by
 rcases hq:Qp d with⟨u,e⟩
 unfold Qp at hq;have hsd:(decide (smD d)&&(decide (d.length<=1000000)&&decide (∀r∈d,r.length<=1000000)))=true:=by rw[ZI hb,ZI hld,ZI hlr];rfl
 refine ZF.pure (fC 105 true ?_) rfl;intro C0 E0;have uu:=ξ5 @ZNj.eq_1 @ZOQ.eq_1 @ZKA @ZPn hsd;have tT:=aQ (aQ ZB ZQ5) ZQY;refine XX ?_
 refine oS ?_;refine Wf ?_;refine WI.regB tT [0,4] ?_;refine oS ?_;refine oC (hok:=Wc) ?_;refine Wf ?_;refine WI.regB tT [0,4,10] ?_;refine Ty ?_;refine V9 ?_;refine cd (λh0=> ?_) (λh0=> ?_)
 .refine Nk ?_;rw[if_pos Vh]at hq;exact NL
 .rw[if_neg Vh]at hq;have hck:KA d=0:=Vh
  obtain⟨hd32,hmay⟩:=ZER hck;have hpl: ∀k,(Ki (d.take k)).length<=250000:=λk=>by
   have:=ZFR 44 6800 ((d.take k).map JI) (λx hx=>by obtain⟨p,hp,rfl⟩:=YS.1 hx;exact ZJA (hmay p (ZCH hp)));rw[Yc,Yv]at this;have h2:min k d.length<=32:=Wm
   unfold Ki;omega
  refine WI.regB tT [0,5] ?_;refine Wf ?_;refine WI.regB tT [0,5,6] ?_;refine Wf ?_;refine WI.loop (λφ os=> ∃(k:Nat),φ= [(0,.x (.sl (rows Jp d))),(5,.x (.str (Ki (d.take k)))),(6,.x (.int .i64 k))]/\os= []/\k<=d.length) (ZJ d.length 6) ?_ (λφ os hI=> ?_)
  .exact Vg
  .obtain⟨k,rfl,rfl,hk⟩:=hI;refine nz ?_;refine WI.regB tT [0,5,6,15] ?_
   refine Wu ?_
   iterate 2 refine oG (hok:=Wc) ?_
   refine V9 ?_;refine cd (λh1=> ?_) (λh1=> ?_)
   .have hk4:k<d.length:=Wm
    have hlk:=hpl k;have hrow:=ZFF d k hk4;have hmk:JA (d.getD k [])=true:=by rw[show d.getD k []=d[k] by simp[hk4]];exact hmay _ (YK hk4)
    have hpk:=ZJA hmk;have uu:=JL uu hrow (ZI hmk);refine WI.regB tT [0,5,6,19] ?_;refine Ty ?_;refine V9 ?_;refine cd (λh2=> ?_) (λh2=> ?_)
    .have hst:Ki (d.take (k+1))=Ki (d.take k)++ [44]++JI (d.getD k []):=by rw[ZQx d k hk4,if_neg J0]
     refine WI.regB tT [0,5,6] ?_;refine Ty ?_;refine Wf ?_;refine WI.regB tT [0,5,6] ?_;refine Wu ?_;refine oS ?_
     iterate 2 refine oG (hok:=Wc) ?_
     exact GG
    .have hst:Ki (d.take (k+1))=Ki (d.take k)++JI (d.getD k []):=by
      rw[ZQx d k hk4,if_pos J0];obtain rfl:k=0:=Wm
      simp[Ki,Qe]
     refine WI.regB tT [0,5,6] ?_;refine Wu ?_;refine oS ?_
     iterate 2 refine oG (hok:=Wc) ?_
     exact GG
   .obtain rfl:k=d.length:=Wm
    have hlk:=hpl d.length;rw[JX]at hlk|-;refine WI.regB tT [5,31] ?_;refine oS ?_
    iterate 2 refine oG (hok:=Wc) ?_
    refine V9 ?_;refine cd (λh3=> ?_) (λh3=> ?_)
    .exact Mj
    .refine Nk ?_;rw[if_neg J0]at hq;exact NL
def ZXr:J8->J5
 | [.x (.sl R)]=>(ZM Jp R).bind λd=>some (decide (smD d)&&(decide (d.length<=1000000)&&(decide (∀r∈d,r.length<=1000000))),.tup [.x (.str (Qp d).1),.x (.int .i64 (Qp d).2)])
 |_=>none
theorem ZSL:QK Tryz.prog ZXr 105:=by
 intro args r h;unfold ZXr at h;split at h
 .obtain⟨d,rfl,i0⟩:=un ZEX h;obtain⟨h1,h2,h3,rfl⟩:=fn3 i0;exact(Zgq d h1 h2 h3)
 .cases h
end Go.Proofs.YtiogclkbccdefaaGreatDoor
end
section
namespace Go.Proofs
open Go.Shelf Go.RowKit Go.Lib Go.Sort
def encAv(x:ByteArray×ByteArray):List Value:= [.string x.1,.string x.2]
def cmpS(a b:ByteArray):Int:=if Op.bytesLess a.toList b.toList=true then-1 else if Op.bytesLess b.toList a.toList=true then 1 else 0
def cmpAv(x y:ByteArray×ByteArray):Int:=cmpS x.1 y.1
theorem Zb9(s:ByteArray)(W:World):Calls Tryz.prog 129 #[.string s] W λe w'=>e= .returned (.bool false)/\w'=W:=by
 go_enter Tryz.func129,Tryz.ntmps129
 go_wp2
 go_ret
 exact⟨J1,rfl⟩
theorem cmpS_c(a b:ByteArray)(W:World):Calls Tryz.prog 82 #[.string a,.string b] W λe w'=>e= .returned (.int .i64 (cmpS a b))/\w'=W:=by
 go_enter Tryz.func82,Tryz.ntmps82
 go_wp2_with (go_at_call 129;refine(Zb9 _ _).mono ?_;rintro e w' ⟨rfl,hw⟩;rw[hw])
 all_goals(go_ret;refine⟨?_,rfl⟩;unfold cmpS;(repeat' split)<;>first|rfl|(exfalso;simp_all;done)|(exfalso;rcases YtiogclkbccdefaaGreatDoor.bl_tot a.toList b.toList (by simp_all)with hh|hh<;>simp_all))
theorem ltAv(x y:ByteArray×ByteArray):ltOf cmpAv x y=Op.bytesLess x.1.toList y.1.toList:=by
 unfold ltOf cmpAv cmpS;cases h:Op.bytesLess x.1.toList y.1.toList<;>cases h2:Op.bytesLess y.1.toList x.1.toList<;>simp
theorem swoAv:SWO (ltOf cmpAv) where
 irrefl x:=by rw[ltAv];exact YtiogclkbccdefaaGreatDoor.bl_irr _
 trans x y z h1 h2:=by rw[ltAv]at*;exact YtiogclkbccdefaaGreatDoor.bl_trans _ _ _ h1 h2
 ntrans x y z h1 h2:=by
  rw[ltAv]at*;cases h:Op.bytesLess x.1.toList z.1.toList with
  |false=>rfl
  |true=>
   by_cases e1:x.1.toList=y.1.toList
   .rw[e1]at h;rw[h]at h2;cases h2
   .rcases YtiogclkbccdefaaGreatDoor.bl_tot _ _ e1 with h3|h3
    .rw[h3]at h1;cases h1
    .have:=YtiogclkbccdefaaGreatDoor.bl_trans _ _ _ h3 h;rw[this]at h2;cases h2
theorem ZiB(x y:ByteArray×ByteArray)(W:World):Calls Tryz.prog 143 #[.agg #[.string x.1,.string x.2],.agg #[.string y.1,.string y.2]] W λe w'=>e= .returned (.int .i64 (cmpAv x y))/\ ∃q os',w'=grow (W.drewN q) os':=by
 have hcon:=λW'=>cmpS_c x.1 y.1 W'
 unfold cmpAv;generalize cmpS x.1 y.1=r at hcon|-
 go_enter Tryz.func143,Tryz.ntmps143
 go_wp2_with (go_at_call 82;refine(hcon _).mono ?_;rintro e w' ⟨rfl,rfl⟩)
 go_ret
 exact⟨rfl,0,_,by rw[alloc_eq_grow,alloc_eq_grow,grow_grow];rfl⟩
theorem cmpLaysAv(blk off size:Nat)(w:World):CmpLays Tryz.prog 143 #[] encAv 2 cmpAv blk off size w:=λ_ _ _ _ x y=>ZiB x y _
theorem ZW8{α:Type}[Inhabited α](enc:α->List Value)(k:Nat){w:World}{g n:Nat}{os:Array Obj}{cur:Array Value}{e:TypeId}{fr:Nat×Nat}(d:Array α)(hb:w.heap[g]? =some (.cells cur e fr)):
  (sortWorldK enc k w g 0 n d os).heap[g]? =some (.cells (putCells id 0 (flatK enc k d) cur) e fr):=by
 have hg:g<w.heap.size:=(ξH hb).1;unfold sortWorldK putRowK;rw[heap_grow_old _ _ (by simpa using hg)];simp[putRow,mapBlock,Sort.ahead,ZTC,hb,onCells]
theorem grown_sortK{α:Type}[Inhabited α](enc:α->List Value)(k:Nat){w:World}{g n:Nat}{os:Array Obj}(d:Array α):w.grownBy (sortWorldK enc k w g 0 n d os) (some g):=by
 unfold sortWorldK putRowK;refine⟨rfl,rfl,rfl,J1,λk hk hne=> ?_⟩;rw[heap_grow_old _ _ (by simpa using hk)];have:g≠k:=λe=>hne (by rw[e])
 simp[putRow,mapBlock,Sort.ahead,ZTC,this]
theorem Zag(cur F:Array Value)(h:F.size<=cur.size):(putCells id 0 F cur).toList.take F.size=F.toList:=by
 apply ZBg;intro j;by_cases hj:j<F.size
 .rw[List.getElem?_take_of_lt hj,ξQ,ξQ];simp[putCells,hj,show j<cur.size by omega]
 .rw[List.getElem?_take_eq_none J0,ξV Wx]
theorem own_sortK{α:Type}[Inhabited α](enc:α->List Value)(k:Nat){w:World}{g n cap:Nat}{e:TypeId}{os:Array Obj}{cur:Array Value}{d:Array α}{m:Nat}(hm:d.size=m)(hb:w.heap[g]? =some (.cells cur e (0,0)))(h1:m<=cap)(h2:cap<=maxLen)(h3:cur.size=cap*k):
  (sortWorldK enc k w g 0 n d os).ownsRow 0 e k (.slice (some ⟨g,0,none⟩) m cap) m (flatK enc k d).toList:=by
 subst hm;have hle:d.size*k<=cap*k:=Ky _ h1;exact⟨J1,.inr ⟨g,cap,_,rfl,Kb _,ZW8 enc k d hb,h1,h2,by simp[putCells,h3],by
  have:=Zag cur (flatK enc k d) Wx;rwa [size_flatK]at this⟩⟩
end Go.Proofs
end
section
namespace Go.Proofs.YtiogclkbccdefaaGreatDoor
open Go.RowKit Go.Bo Go.Ab
def ZDk(p:Av):List Av->List Av
 | []=> [p]
 |q::o=>if Op.bytesLess q.1 p.1=true then q::ZDk p o else p::q::o
def ZA8(r:List Av):List Av:=r.foldl (λo p=>ZDk p o) []
theorem ZKN(p:Av): ∀o,(ZDk p o).Perm (p::o)
 | []=>ZI0 _
 |q::o=>by
  unfold ZDk;split
  .exact((ZKN p o).cons q).trans (List.Perm.swap p q o)
  .exact ZI0 _
theorem ZOh: ∀(r o:List Av),(r.foldl (λo p=>ZDk p o) o).Perm (r++o)
 | [],o=>ZI0 _
 |p::r,o=>by
  rw[ZK2];exact(ZOh r _).trans (((ZKN p o).append_left r).trans List.perm_middle)
theorem ZFw(r:List Av):(ZA8 r).Perm r:=by have:=ZOh r [];rwa [Kg]at this
theorem ZJU(r:List Av):(ZA8 r).length=r.length:=(ZFw r).length_eq
theorem ZYd(r:List Av)(p:Av):ZA8 (r++ [p])=ZDk p (ZA8 r):=by unfold ZA8;rw[ZM0];rfl
theorem ZaT(a b c:Tx)(h1:Op.bytesLess a b=false)(h2:Op.bytesLess b c=false):Op.bytesLess a c=false:=by
 cases h:Op.bytesLess a c with
 |false=>rfl
 |true=>
  by_cases e1:a=b
  .subst e1;rw[h]at h2;cases h2
  .rcases bl_tot _ _ e1 with h3|h3
   .rw[h3]at h1;cases h1
   .have:=bl_trans _ _ _ h3 h;rw[this]at h2;cases h2
abbrev SrA(l:List Av):Prop:=l.Pairwise λa b=>Op.bytesLess b.1 a.1=false
theorem ZLx(p:Av): ∀o,SrA o->SrA (ZDk p o)
 | [],_=>List.pairwise_singleton _ _
 |q::o,h=>by
  obtain⟨h1,h2⟩:=ZFV.1 h;unfold ZDk;split
  .rename_i hl;refine ZFV.2 ⟨λx hx=> ?_,ZLx p o h2⟩;rcases Jf.1 ((ZKN p o).mem_iff.1 hx)with rfl|hx
   .exact ZVx _ _ hl
   .exact h1 x hx
  .rename_i hl;have hl:Op.bytesLess q.1 p.1=false:=UC
   refine ZFV.2 ⟨λx hx=> ?_,h⟩;rcases Jf.1 hx with rfl|hx
   .exact hl
   .exact ZaT _ _ _ (h1 x hx) hl
theorem ZKh: ∀(r o:List Av),SrA o->SrA (r.foldl (λo p=>ZDk p o) o)
 | [],o,h=>h
 |p::r,o,h=>by rw[ZK2];exact ZKh r _ (ZLx p o h)
theorem ZUb(r:List Av):SrA (ZA8 r):=ZKh r [] List.Pairwise.nil
theorem ZfR{r l:List Av}(hp:l.Perm r)(hs:SrA l)(hn:(r.map (·.1)).Nodup):l=ZA8 r:=by
 refine List.Perm.eq_of_pairwise (le:=λa b=>Op.bytesLess b.1 a.1=false) (λa b ha hb h1 h2=> ?_) hs (ZUb r) (hp.trans (ZFw r).symm);have ha':=hp.mem_iff.1 ha;have hb':=(ZFw r).mem_iff.1 hb;have he:a.1=b.1:=ZIM λhne=>by
  rcases bl_tot _ _ hne with h|h
  .rw[h]at h2;cases h2
  .rw[h]at h1;cases h1
 obtain⟨i,hi,rfl⟩:=ZXT ha';obtain⟨j,hj,rfl⟩:=ZXT hb';have key: ∀(i j:Nat) (hi:i<r.length) (hj:j<r.length),i<j->r[i].1≠r[j].1:=λi j hi hj hij=>by
  have:=ZFK.1 hn i j Um WZ hij;exact V3
 have:i=j:=by
  rcases ZcC i j with h|h|h
  .exact absurd he (key i j hi hj h)
  .exact h
  .exact absurd he.symm (key j i hj hi h)
 subst this;rfl
def bsA(p:Av):ByteArray×ByteArray:=(ZV p.1,ZV p.2)
theorem Zis(x:ByteArray×ByteArray):bsA (x.1.toList,x.2.toList)=x:=by
 have key: ∀b:ByteArray,ZV b.toList=b:=λb=>by
  unfold ZV;rw[ByteArray.toList_eq]
 unfold bsA;rw[key,key]
theorem ZhD(r:List Av)(hn:(r.map (·.1)).Nodup)(d':Array (ByteArray×ByteArray))(hp:Sort.PermIn 0 r.length (r.map bsA).toArray d')(hs:Sort.SortedIn (Go.Proofs.ltOf Go.Proofs.cmpAv) 0 r.length d'):d'=((ZA8 r).map bsA).toArray:=by
 obtain⟨hsz,-,hpm⟩:=hp;have hsz':d'.size=r.length:=by rw[hsz];simp
 have hex:(d'.extract 0 r.length).toList=d'.toList:=by rw[<-hsz'];simp
 have hex2:((r.map bsA).toArray.extract 0 r.length).toList=r.map bsA:=by simp[YR]
 rw[hex,hex2]at hpm;have hl:d'.toList=(d'.toList.map λx=>(x.1.toList,x.2.toList)).map bsA:=by
  rw[Jv]
  conv=>lhs;rw[<-ZPA d'.toList]
  exact ZBz λx _=>(Zis x).symm
 have hperm:(d'.toList.map λx=>(x.1.toList,x.2.toList)).Perm r:=by
  have:=hpm.map λx:ByteArray×ByteArray=>(x.1.toList,x.2.toList)
  rw[Jv]at this;have e:(r.map ((λx:ByteArray×ByteArray=>(x.1.toList,x.2.toList))∘bsA))=r:=by
   conv=>rhs;rw[<-ZPA r]
   exact ZBz λp _=>by simp[bsA,KC]
  rwa [e]at this
 have hsr:SrA (d'.toList.map λx=>(x.1.toList,x.2.toList)):=by
  show List.Pairwise _ _;rw[ZXV,ZFK];intro i j hi hj hij;have:=hs i j (Kb _) hij (by rw[<-hsz'];simpa using hj);rw[Go.Proofs.ltAv]at this;simp at hi hj;simp only[getElem!_pos d' i hi,getElem!_pos d' j hj]at this;exact V3
 apply ZD7.1;rw[hl,ZfR hperm hsr hn]
theorem ZVG(r:List Av)(i:Nat)(hi:i<r.length):(Go.Sort.flatK Go.Proofs.encAv 2 (r.map bsA).toArray).toList[i*2]? =some (Value.string (ZV r[i].1))/\(Go.Sort.flatK Go.Proofs.encAv 2 (r.map bsA).toArray).toList[i*2+1]? =some (Value.string (ZV r[i].2)):=by
 have e1:i*2/2=i:=Wm
 have e2:(i*2+1)/2=i:=Wm
 have e3:i*2 % 2=0:=Wm
 have e4:(i*2+1) % 2=1:=Wm
 have hg:(r.map bsA)[i]! =bsA r[i]:=by rw[getElem!_pos _ i Um];simp
 constructor
 .simp[Go.Sort.flatK,show i*2<r.length*2 by omega,e1,e3,hg,Go.Proofs.encAv,bsA,hi]
 .simp[Go.Sort.flatK,show i*2+1<r.length*2 by omega,e2,e4,hg,Go.Proofs.encAv,bsA,hi]
set_option maxHeartbeats 1000000 in
theorem ZjI(e:Nat)(r:List Av)(hn:(r.map (·.1)).Nodup)(hne:r≠ [])(hl:r.length<=1000000)(lim:Nat)(hlim:lim<=64):ZO Tryz.prog 175 [.ref 0 r.length 0 r.length,.x (.int .i64 0),.x (.int .i64 r.length),.x (.int .i64 lim),.fn 143 []] [.rows false e 2 (rows Zu r)] (.tup []) [.rows false e 2 (rows Zu (ZA8 r))]:=by
 intro c E vs R hvl;obtain⟨hsz,hv⟩:=hvl;obtain⟨v0,v1,v2,v3,v4,rfl⟩: ∃v0 v1 v2 v3 v4,vs= #[v0,v1,v2,v3,v4]:=by
  obtain⟨vl⟩:=vs
  match vl,hsz with
  | [a,b,c,d,e],_=>exact⟨a,b,c,d,e,rfl⟩
 have h0:=hv 0 _ v0 rfl rfl;have h1:=hv 1 _ v1 rfl rfl;have h2:=hv 2 _ v2 rfl rfl;have h3:=hv 3 _ v3 rfl rfl;have h4:=hv 4 _ v4 rfl rfl;clear hv hsz;obtain rfl:v1= .int .i64 0:=by cases h1 with|x h=>cases h;rfl
 obtain rfl:v2= .int .i64 r.length:=by cases h2 with|x h=>cases h;rfl
 obtain rfl:v3= .int .i64 lim:=by cases h3 with|x h=>cases h;rfl
 obtain rfl:v4= .func (.func 143) #[] #[]:=by
  cases h4 with
  |fn vs hl _=>rw[show vs= #[]from Zid hl.symm]
 clear h1 h2 h3 h4;have hlen:(rows Zu r).length=r.length:=ZQ _ _;cases h0 with
 |ref hr _=>
  have ho: [Ob.rows false e 2 (rows Zu r)][0]? =some (Ob.rows false e 2 (rows Zu r)):=rfl;obtain⟨k1,k2⟩:=hr.at ho rfl;obtain⟨k3,b,a,cap,a',cap',k4,rfl,k6,k7,k8,k9,k10,k11⟩:=k2 hlen;obtain⟨rfl,rfl⟩:=k8 rfl;obtain⟨p,hp,hok⟩:=R.at ho;rw[hp]at k4;have hpb:p=(b,.slice a' r.length cap'):=ZCn k4;subst hpb;have hpos:0<r.length:=ZKV.2 hne;obtain⟨xs,⟨q1,q2⟩,q3,q4⟩:=hok;rcases q2 with⟨q2,q5⟩|⟨g,cp,cells,fr,q5,q6,q7,q8,q9,q10,q11⟩
  .rw[hlen]at q5;omega
  .simp only[Value.slice.injEq]at q5;obtain⟨rfl,_,rfl⟩:=q5;rw[hlen]at q10 q7 q1;have hfr:fr=(0,0):=by
    rcases q11 with q11|⟨q11,_⟩
    .exact q11
    .cases q11
   subst hfr;have hxs:xs=(Go.Sort.flatK Go.Proofs.encAv 2 (r.map bsA).toArray).toList:=by
    apply List.ext_getElem (by rw[q1];simp);intro t ht ht2;have htr:t/2<r.length:=by rw[q1]at ht;omega
    obtain⟨f1,f2⟩:=ZVG r (t/2) htr;have hrw:(rows Zu r)[t/2]? =some [X.str r[t/2].1,X.str r[t/2].2]:=by simp[rows,htr,Zu]
    apply ZCn;rw[<-Zw ht2];rcases Nat.mod_two_eq_zero_or_one t with hm|hm
    .have et:t/2*2=t:=Wm
     rw[et]at f1;rw[f1];have:=q4 (t/2) _ 0 (.str r[t/2].1) xs[t] hrw rfl (by rw[KB,et];exact Zw ht);generalize xs[t]=u at this|-;cases this;rfl
    .have et:t/2*2+1=t:=Wm
     rw[et]at f2;rw[f2];have:=q4 (t/2) _ 1 (.str r[t/2].2) xs[t] hrw rfl (by rw[et];exact Zw ht);generalize xs[t]=u at this|-;cases this;rfl
   have hglt:=(ξH q6).1;have hds:(r.map bsA).toArray.size=r.length:=TG
   have hH:Go.Sort.HoldsK Go.Proofs.encAv 2 E.w g 0 (r.map bsA).toArray:=by
    intro j hj;rw[Go.Sort.size_flatK,hds]at hj;have hjx:cells.toList[j]? =xs[j]? :=by rw[<-q10,List.getElem?_take_of_lt hj]
    refine⟨?_,by simp[World.frozen?,q6]⟩;simp only[World.cell?,q6,Option.isSome_none,Je,if_false,Jk];rw[<-ξQ,hjx,hxs,ξQ];have hjs:j<(Go.Sort.flatK Go.Proofs.encAv 2 (r.map bsA).toArray).size:=by rw[Go.Sort.size_flatK,hds];exact hj
    rw[ξJ hjs,getElem!_pos _ j hjs];rfl
   have eg: ∀args w,(callFunc 143 args).run Tryz.prog w= .ok (.enter 143 args) w:=Go.Proofs.enters_of Tryz.func143 J3 rfl;have hk2: ∀x,(Go.Proofs.encAv x).length=2:=λ_=>rfl
   have h11: ∀x,∀v∈Go.Proofs.encAv x,v.oneCell'=true:=λx v hv=>by simp[Go.Proofs.encAv]at hv;rcases hv with rfl|rfl<;>rfl
   have:=Go.Proofs.AnyQ.pdqsortCmpFunc_all Tryz.pdqAva 2 (by exact Tryz.isAgg188) (by exact Tryz.sizeOf188) Go.Proofs.encAv Go.Proofs.cmpAv 143 #[] Go.Proofs.swoAv g 0 cap' (r.map bsA).toArray E.w eg (Go.Proofs.cmpLaysAv g 0 _ E.w) ⟨hk2,h11,hH,hglt⟩ (r.length+1) 0 r.length lim (r.map bsA).toArray E.w J0 rfl (Go.Proofs.SWK.start hH) (Kb _) (by rw[hds];exact Zr _) (by rw[hds];omega) J0 (Or.inl rfl);rw[hds]at this;refine this.mono ?_;rintro _ w' ⟨rfl,nn,oss,rfl⟩;have hps:=Go.Sort.pdq_sorts (Go.Proofs.ltOf Go.Proofs.cmpAv) Go.Proofs.swoAv (r.map bsA).toArray 0 r.length lim true true (Kb _) (by rw[hds];exact Zr _) (Or.inl rfl);have hd':=ZhD r hn _ hps.1 hps.2;rw[hd'];have hown:=Go.Proofs.own_sortK (n:=nn) (os:=oss) Go.Proofs.encAv 2 (d:=((ZA8 r).map bsA).toArray) (m:=r.length) (by simp[ZJU]) q6 q7 q8 q9;have hg:=Go.Proofs.grown_sortK (n:=nn) (os:=oss) (w:=E.w) (g:=g) Go.Proofs.encAv 2 ((ZA8 r).map bsA).toArray;have hls:(rows Zu (ZA8 r)).length=r.length:=by rw[ZQ,ZJU]
   obtain⟨R',ev⟩:=R.set ho hp _ (.rows false e 2 (rows Zu (ZA8 r))) (b,.slice (some ⟨g,0,none⟩) r.length cap') ⟨hg.os,hg.tape,hg.output,hg.size,λk hk hm=>hg.block k hk (λe=>hm (by cases e;rfl))⟩ (λb' hb'=> .inl hb') (λsz rs1 h=>by
     simp only[Ob.sl?,Yu,YP]at h;obtain⟨rfl,rfl⟩:=h;exact⟨(rows Zu (ZA8 r)).length,rfl,.inl ⟨by rw[hls,hlen],rfl⟩⟩) (λk h=>W6) (λev=>by
     refine⟨_,by rw[hls];exact QM.of_owns hown false,λz hz=> ?_,λi z j x v h1 h2 h3=> ?_⟩
     .obtain⟨q,_,rfl⟩:=YS.1 hz;rfl
     .unfold rows at h1;rw[YI]at h1;obtain⟨q,hq,rfl⟩:=Zc h1;have hi:=(ZX hq).1;obtain⟨f1,f2⟩:=ZVG (ZA8 r) i hi;have hqe:(ZA8 r)[i]=q:=(ZX hq).2;rw[hqe]at f1 f2
      match j with
      |0=>
       simp only[Zu,ZC5,Yu]at h2;subst h2;rw[KB,f1]at h3;cases h3;exact .str _
      |1=>
       simp only[Zu,ZC5,ZBd,Yu]at h2;subst h2;rw[f2]at h3;cases h3;exact .str _
      |j+2=>simp[Zu]at h2)
   exact⟨_,_,rfl,rfl,R',ev,.tup #[] rfl (λj d v h=>WE)⟩
theorem ZZF(n:Nat)(h:n<=1000000):ZL Tryz.prog 176 [.x (.int .u64 n)] (.x (.int .i64 (Lib.bitLen n))):=by
 intro w st vs hst hvl;obtain⟨hsz,hv⟩:=hvl;obtain⟨v0,rfl⟩: ∃v0,vs= #[v0]:=by
  obtain⟨vl⟩:=vs
  match vl,hsz with
  | [a],_=>exact⟨a,rfl⟩
 have h0:=hv 0 _ v0 rfl rfl;obtain rfl:v0= .int .u64 n:=by cases h0 with|x h=>cases h;rfl
 have:=Tryz.bits_Len (n:Int) w J0 J0;rw[ZIC]at this;refine this.mono ?_;rintro e w' ⟨rfl,rfl⟩;exact⟨_,st,rfl,Kept.refl _ _,λ_ _ h=>h,λ_ _ h=> .inl h,.x (.int _ _)⟩
def ZIw:J8->J5
 | [.x (.int .u64 n)]=>some (decide (0<=n/\n<=1000000),.x (.int .i64 (Lib.bitLen n.toNat)))
 |_=>none
theorem ZUc:QK Tryz.prog ZIw 176:=by
 intro args r h;unfold ZIw at h;split at h
 .rename_i n;obtain⟨h1,rfl⟩:=Yn h;exact(by obtain⟨m,rfl⟩: ∃m:Nat,n=m:=⟨n.toNat,J0⟩;rw[ZIC];exact ZZF m J0)
 .cases h
def Zfs:Tabs:=ZEE (YH) 176 ZIw
theorem ZWs:SsOk Tryz.prog Zfs:=ZDW (ZB) (QT 176) ZUc
theorem ZXu:Enters Tryz.prog 175:=QT 175
theorem ZgQ(e:Nat)(r:List Av)(hn:(r.map (·.1)).Nodup)(hne:r≠ [])(hl:r.length<=1000000):ZO Tryz.prog 142 [.ref 0 r.length 0 r.length,.fn 143 []] [.rows false e 2 (rows Zu r)] (.tup []) [.rows false e 2 (rows Zu (ZA8 r))]:=by
 have hbl:Lib.bitLen r.length<=62:=Lib.bitLen_le r.length 62 J0 J0;have hw:IntKind.u64.wrap (r.length:Int)=r.length:=by simp[IntKind.wrap,IntKind.bits,IntKind.signed];omega
 have hc:=ZjI e r hn hne hl (Lib.bitLen r.length) J0;have hdd:decide (0<=(r.length:Int)/\(r.length:Int)<=1000000)=true:=ZI J0;refine ZF.mcalls (fC 142 true ?_);intro C0 E0;have uu:=ξ7 @ZIw.eq_1 hw hdd @ZHd @ZHh @ZHj @ZHe;have tT:=(ZDC ZWs ZXu hc);refine rg [0,1,4] ?_;refine WI.regB tT [] ?_
 refine Wu ?_;refine WU ?_;refine oC ?_;refine oS ?_;refine oC ?_;refine osN ?_
 first|refine lfN ?_|refine ZkH ?_|refine ZkF ?_
 exact Gg
theorem ZTI:Enters Tryz.prog 142:=QT 142
def ZC7(p:Av):Av:=(ZE p.1,fld p.2)
def KP(r:List Av):List Av:=ZA8 (r.map ZC7)
def KZ(r:List Av):Bool:=r.all λp=> !(fld p.2== [])
def JY(s:Tx):Tx×Int:=if(Ya s).2≠0 then([],(Ya s).2)else if(Ya s).1.all KZ=true then Qp ((Ya s).1.map KP)else([],5)
theorem ZQ0(r:List Av): ∀n,n<=r.length->okP r n=true->(Qr (r.take n)).Nodup
 |0,_,_=>by simp[Qr]
 |n+1,hn,h=>by
  rw[okP,Zj]at h;have ih:=ZQ0 r n J0 h.1;have h2:=h.2;unfold ZAh at h2;simp only[Zj,ZG8,decide_eq_false_iff_not]at h2;have hg:r.getD n ([],[])=r[n]:=by simp[show n<r.length by omega]
  rw[hg]at h2;unfold Qr at ih h2|-;rw[JW J0,Jj,ZFC];refine⟨ih,J1,λa ha b hb=> ?_⟩;simp only[YO,ZAa,ZAM]at hb;subst hb;rintro rfl;exact h2.2.2.2 ha
theorem ZZo{r:List Av}(h:JA r=true):((r.map ZC7).map (·.1)).Nodup:=by
 unfold JA at h;rw[Zj]at h;have:=ZQ0 r r.length (Zr _) h.1;rw[JX]at this;rw[Jv];exact this
theorem ZUJ(r:List Av):(KP r).length=r.length:=by unfold KP;rw[ZJU,Yc]
def ZB3(r:List Av)(k:Nat):List Av:=(r.take k).map ZC7++r.drop k
theorem ZSv(r:List Av)(k:Nat):(ZB3 r k).length=r.length:=by unfold ZB3;simp;omega
theorem ZeU(r:List Av)(k:Nat)(h:k<r.length):(rows Zu (ZB3 r k))[k]? =some [X.str (r.getD k ([],[])).1,X.str (r.getD k ([],[])).2]:=by
 have e:(ZB3 r k)[k]? =some (r.getD k ([],[])):=by
  unfold ZB3;rw[QI Wx];simp[h,ZOr (Nat.le_of_lt h)]
 unfold rows;rw[YI,e];rfl
theorem Zdq(r:List Av)(k:Nat)(h:k<r.length):(rows Zu (ZB3 r (k+1)))[k]? =some [X.str (ZE (r.getD k ([],[])).1),X.str (fld (r.getD k ([],[])).2)]:=by
 have e:(ZB3 r (k+1))[k]? =some (ZC7 (r.getD k ([],[]))):=by
  unfold ZB3;rw[Yk Wx,YI,Kp,if_pos J0];simp[h]
 unfold rows;rw[YI,e];rfl
theorem Zc4(r:List Av)(k:Nat)(h:k<r.length):(rows Zu (ZB3 r k)).set k [X.str (ZE (r.getD k ([],[])).1),X.str (fld (r.getD k ([],[])).2)]=rows Zu (ZB3 r (k+1)):=by
 have e:(ZB3 r k).set k (ZC7 (r.getD k ([],[])))=ZB3 r (k+1):=by
  unfold ZB3;rw[ZDm _ _ Wx,JW h,Jj];have h1:k-((r.take k).map ZC7).length=0:=Wx
  rw[h1,ξW h,ZDp,Ys];simp[h]
 rw[<-e];unfold rows;rw[ZM8];rfl
theorem ZcR(r:List Av):ZB3 r r.length=r.map ZC7:=by unfold ZB3;simp
theorem Zac(r:List Av):ZB3 r 0=r:=by unfold ZB3;simp
def ZDo(d:Dn)(j:Nat):Dn:=(d.take j).map KP++d.drop j
theorem Zcc(d:Dn)(j:Nat):(ZDo d j).length=d.length:=by unfold ZDo;simp;omega
theorem ZgU(d:Dn)(j:Nat)(h:j<d.length):(ZDo d j).getD j []=d.getD j []:=by
 unfold ZDo;rw[ZCB,QI Wx];simp[h,ZOr (Nat.le_of_lt h)]
theorem Zbn(d:Dn)(j:Nat)(h:j<d.length):(ZDo d j).set j (KP (d.getD j []))=ZDo d (j+1):=by
 unfold ZDo;rw[ZDm _ _ Wx,JW h,Jj];have h1:j-((d.take j).map KP).length=0:=Wx
 rw[h1,ξW h,ZDp,Ys];simp[h]
theorem ZbF(d:Dn):ZDo d d.length=d.map KP:=by unfold ZDo;simp
theorem ZY5(d:Dn):ZDo d 0=d:=by unfold ZDo;simp
def ZTP:J8->J5
 | [.x (.str s)]=>some (decide (s.length<=1000000),.x (.str (fld s)))
 |_=>none
theorem Zax:QK Tryz.prog ZTP 141:=by
 intro args r h;unfold ZTP at h;split at h
 .obtain⟨h1,rfl⟩:=Yn h;exact(ZiH _ h1)
 .cases h
theorem ZUg:Enters Tryz.prog 121:=QT 121
def FZ(d:Dn):J7:=ZGH 2 (d.map (rows Zu))
theorem Zhb(d:Dn):(FZ d).length=d.length:=by unfold FZ;rw[ZG3,Yc]
theorem ZgT(d:Dn):frzL (List.range' 1 d.length) (obD d)= .drw 154 1 (RF d)::FZ d:=by
 have h:=ZU9 (.drw 154 1 (RF d)) 188 2 (d.map (rows Zu)) [];rw[Yc]at h;exact h
theorem Ze1(d:Dn):ZDG [0] (.drw 154 1 (RF d)::FZ d)= [.drw 154 1 (Kj (rows Jp d))]:=by
 have h3:=Zfo 154 2 (d.map (rows Zu));have h4:((d.map (rows Zu)).map λrs=> [X.sl rs])=rows Jp d:=by rw[Jv];rfl
 rw[h4]at h3;exact h3
set_option maxHeartbeats 4000000 in
theorem Zf2(s:Tx)(d:Dn)(hq:Ya s=(d,0))(hne:s≠ []):ZL Tryz.prog 96 [.x (.str s)] (.tup [.x (.str (JY s).1),.x (.int .i64 (JY s).2)]):=by
 obtain⟨hs4,-,hd0,-,hck⟩:=ZJd s d hq hne;have hsm:smD d:=by
  have:=ZHF s J0;unfold ZBZ ZC1 at this;rw[Jv]at this;rw[hd0];exact this
 obtain⟨hd32,hmay⟩:=ZER hck;have hn:JY s=if d.all KZ=true then Qp (d.map KP)else([],5):=by
  unfold JY;rw[hq];simp
 have hread:=ZgW s d hq hne;clear hq hne hs4 hd0 hck;rcases hu:JY s with⟨u,e⟩
 rw[hn]at hu;clear hn;refine ZF.pure (fC 96 true ?_) rfl;intro C0 E0;have uu:=ξ8 @ZGk.eq_1 @ZTP.eq_1 @ZLj.eq_1 @ZHd @ZHh @ZHj @ZHe @ZIJ.eq_1;have tT:=aT (aQ (aQ (aQ ZB ZGV) Zax) ZFJ) (ZCh ZFJ);refine WI.seq ?_;refine WI.regB tT [0] ?_
 refine oS ?_;refine WQ ?_;refine WI.regB (ZDC ZB ZUg hread) [4,5] ?_;refine oS ?_;refine GD ?_;refine UH ?_;refine WI.regB tT [4,5,16] ?_;refine X3 ?_;refine WI.cond (b:=_) rfl rfl (λh0=> ?_) (λh0=> ?_)
 .exfalso;simp at h0
 .try simp only[zB]at h0
  refine Vt ?_;refine WI.seq ?_;have uu:=YB uu (ZNK d);refine WI.regB tT [4,18,19,20] ?_;refine WU ?_;refine ND ?_;refine WI.loop (λφ os=> ∃(j:Nat) (M:Dn),φ= [(4,.ref 0 d.length 0 d.length),(18,.ref 0 d.length 0 d.length),(19,.x (.int .i64 d.length)),(20,.x (.int .i64 j))]/\os=obD M/\j<=d.length/\M=ZDo d j/\(d.take j).all KZ=true) (ZJ d.length 20) ?_ (λφ os hI=> ?_)
  .exact⟨0,d,rfl,rfl,J0,(ZY5 d).symm,rfl⟩
  .obtain⟨j,M,rfl,rfl,hj,hM,hall⟩:=hI;have hMl:M.length=d.length:=by rw[hM,Zcc]
   have hRl:=ZNK M;have hFl:=ZLB M;rw[hMl]at hRl hFl;refine WI.seq ?_;refine WI.regB tT [4,18,19,20,21] ?_;refine oG ?_;refine X0 ?_;refine WI.cond (b:=_) rfl rfl (λh1=> ?_) (λh1=> ?_)
   .try simp only[zB]at h1
    refine UT ?_;have hj4:j<d.length:=Wm
    have hMj:M.getD j []=d.getD j []:=by rw[hM];exact ZgU d j hj4
    have hrf:=ZaN M j J0;have hfm:=ZLM M j J0;rw[hMj]at hrf hfm;have hdj:d[j]=d.getD j []:=T8
    have hmr:JA (d.getD j [])=true:=by rw[<-hdj];exact hmay _ (YK hj4)
    have hM2:ZDo d (j+1)=M.set j (KP (d.getD j [])):=by rw[hM];exact(Zbn d j hj4).symm
    have hM0:M=M.set j (ZB3 (d.getD j []) 0):=by rw[Zac,<-hMj];exact(ZQk M j).symm
    have hall3:(d.take (j+1)).all KZ=((d.take j).all KZ&&KZ (d.getD j [])):=by rw[Yt _ d j hj4,hdj]
    have hnf:KZ (d.getD j [])=false->d.all KZ=false:=λh=>Zl KZ d j hj4 (by rw[hdj];exact h)
    generalize hr:d.getD j []=r at hMj hrf hfm hmr hM2 hM0 hall3 hnf;obtain⟨hr8,hr1,hpb⟩:=ZBh hmr;have uu:=Qu uu hrf hfm hRl;refine WI.regB tT [4,7,18,19,20] ?_
    refine W4 ?_;refine UH ?_;refine WI.regB tT [4,7,18,19,20,24,25,26] ?_;refine WU ?_;refine ND ?_;refine WI.orderA [4,7,18,19,20,24,25,26] ?_;have hFs: ∀x:List Av,(FM (M.set j x)).length=d.length:=λx=>by rw[ZLB,ZJG,hMl]
    have hFb: ∀(x:List Av) (y:Ob),(FM (M.set j x)++ [y])[d.length]? =some y:=λx y=>by rw[QI (by rw[hFs];exact Zr _),hFs,ZIK];rfl
    have hFc: ∀(x:List Av) (y z:Ob),(FM (M.set j x)++ [y]).set d.length z=FM (M.set j x)++ [z]:=λx y z=>by rw[ZDm _ _ (by rw[hFs];exact Zr _),hFs,ZIK];rfl
    have hFg: ∀(x:List Av) (Y:J7),(FM (M.set j x)++Y)[j]? =some (.rows false 188 2 (rows Zu x)):=λx Y=>by rw[ZYx _ _ j (by rw[ZJG];omega),show(M.set j x).getD j []=x by simp[hMl,hj4]]
    have hFg': ∀(x:List Av),(FM (M.set j x))[j]? =some (.rows false 188 2 (rows Zu x)):=λx=>by have:=hFg x [];rwa [Kg]at this
    have hFt: ∀(x z:List Av) (Y:J7),(FM (M.set j x)++Y).set j (.rows false 188 2 (rows Zu z))=FM (M.set j z)++Y:=λx z Y=>by rw[ZaZ _ _ j (by rw[ZJG];omega),List.set_set]
    have hIn: ∀x:List Av,x.length=r.length->(Ob.drw 154 1 (RF M)::FM (M.set j x)).all (Ob.inP (λi=>decide (i<(Ob.drw 154 1 (RF M)::FM (M.set j x)).length)))=true:=λx hx=>by rw[<-ZYW M j x (by rw[hMj];exact hx)];exact ZVH _
    have uu:=ξ7 uu hFs hFb hFc hFg hFg' hFt;refine WI.loop (λφ os=> ∃(k:Nat),φ= [(4,.ref 0 d.length 0 d.length),(7,.ref (j+1) r.length 0 r.length),(18,.ref 0 d.length 0 d.length),(19,.x (.int .i64 d.length)),(20,.x (.int .i64 j)),(24,.ref (j+1) r.length 0 r.length),(25,.x (.int .i64 r.length)),(26,.x (.int .i64 k))]/\os= .drw 154 1 (RF M)::FM (M.set j (ZB3 r k))/\k<=r.length/\(r.take k).all (λp=> !(fld p.2== []))=true) (ZJ r.length 26) ?_ (λφ os hI=> ?_)
    .exact⟨0,rfl,by rw[<-hM0],J0,rfl⟩
    .obtain⟨k,rfl,rfl,hk,hkall⟩:=hI;refine WI.seq ?_;refine WI.regB tT [4,7,18,19,20,24,25,26,27] ?_;refine oG ?_;refine X0 ?_;refine WI.cond (b:=_) rfl rfl (λh2=> ?_) (λh2=> ?_)
     .try simp only[zB]at h2
      refine UT ?_;have hk4:k<r.length:=Wm
      have hka:=ZeU r k hk4;have hka2:=Zdq r k hk4;have hks:=Zc4 r k hk4;have hml:=ZSv r k;have hml2:=ZSv r (k+1);have hpk:(r.getD k ([],[])).1.length<=64/\(r.getD k ([],[])).2.length<=256:=UY
      have hka3:(r.take (k+1)).all (λp=> !(fld p.2== []))=((r.take k).all (λp=> !(fld p.2== []))&& !(fld (r.getD k ([],[])).2== [])):=by rw[Yt _ r k hk4,show r.getD k ([],[])=r[k] by simp[hk4]]
      have hnk:fld (r.getD k ([],[])).2= []->KZ r=false:=λh=>Zl _ r k hk4 (by rw[show r[k]=r.getD k ([],[]) by simp[hk4],h];rfl)
      generalize r.getD k ([],[])=p at hka hka2 hks hpk hka3 hnk;have hs1:decide (p.1.length<=1000000)=true:=ZI J0;have hs2:decide (p.2.length<=1000000)=true:=ZI J0;have uu:=ξ8 uu hka hml hs1 hs2 hka2 hml2 hks;refine WI.regB tT [4,7,8,9,18,19,20,24,25,26] ?_;refine oS ?_
      refine W4 ?_;refine oG ?_;refine WU ?_;refine X0 ?_;refine WI.post ?_;refine WI.dregB tT [4,7,8,18,19,20,24,25,26] ?_;refine UO ?_;refine dQC ?_;refine WX ?_;refine dAC ?_;refine Zn ?_;refine Qj ?_;refine Qj ?_;refine dP ?_;refine ZNf (.drw 154 1 (RF M)::FM (M.set j (ZB3 r (k+1)))) _ rfl (Kb _) (hIn _ hml2) (by simp only[Qa,ZEM,D.inP,Yx,hFs];simp;omega) ?_;refine KI ?_;refine Wz ?_;refine WI.regB tT [4,7,18,19,20,24,25,26,46] ?_;refine Wu ?_;refine oG ?_;refine Us ?_;refine V0 ?_;refine WI.cond (b:=_) rfl rfl (λh3=> ?_) (λh3=> ?_)
      .try simp only[zB]at h3
       have hfe:fld p.2= []:=Tb
       rw[if_neg (by rw[hnf (hnk hfe)];decide)]at hu;cases hu;refine WI.seq ?_;refine WI.regB tT [2,3] ?_
       refine GB ?_;refine Tu ?_;refine Tu ?_
       first|refine lfR ?_|refine ZAs ?_|refine ZAY ?_|refine ZAi ?_
       rfl
      .try simp only[zB]at h3
       have hkall2:(r.take (k+1)).all (λp=> !(fld p.2== []))=true:=by rw[hka3,hkall];simpa using h3
       refine WI.skip ?_;refine Nv ?_;refine WI.orderA [4,7,18,19,20,24,25,26] ?_;refine WI.regB tT [4,7,18,19,20,24,25,26] ?_;refine oG ?_;refine Wl ?_;exact⟨⟨k+1,rfl,rfl,J0,hkall2⟩,Wa⟩
     .try simp only[zB]at h2
      refine Vb ?_;refine ZA ?_;obtain rfl:k=r.length:=Wm
      rw[JX]at hkall;rw[ZcR];have hrn:(r.map ZC7).length=r.length:=Yc ..;have hsc:=ZgQ 188 (r.map ZC7) (ZZo hmr) (by intro hh;rw[hh]at hrn;simp at hrn;omega) J0;rw[hrn]at hsc;have hsr:=ZO.row (args:= [.ref (j+1) r.length 0 r.length,.fn 143 []]) (OS:= .drw 154 1 (RF M)::FM (M.set j (r.map ZC7))) (j+1) (by rw[show YA (inv [j+1]) [D.ref (j+1) r.length 0 r.length,.fn 143 []]= [D.ref 0 r.length 0 r.length,.fn 143 []] by simp only[YA,D.ren,inv,if_true]];exact hsc) (by rw[ZBd];exact hFg' _) rfl (by simp[JB,D.inP,Zh]) (λf=>rfl);have hft2:=hFt (r.map ZC7) (ZA8 (r.map ZC7)) [];rw[Kg,Kg]at hft2;rw[ZCM,hft2]at hsr;have hM3:RF M=RF (ZDo d (j+1)):=by rw[hM2];exact(ZYW M j _ (by rw[ZUJ,hMj])).symm
      have hM4:FM (M.set j (ZA8 (r.map ZC7)))=FM (ZDo d (j+1)):=by rw[hM2];rfl
      rw[hM4]at hsr;rw[hM3]at hsr|-;have hall2:(d.take (j+1)).all KZ=true:=by rw[hall3,hall];exact hkall
      have uu:=YB uu hrn;refine WI.regB (ZDC ZB ZTI hsr) [4,18,19,20] ?_;refine oS ?_;refine oC ?_;refine oN ?_;refine Nv ?_;refine WI.orderA [4,18,19,20] ?_;refine WI.regB tT [4,18,19,20] ?_;refine oG ?_;refine Wl ?_;exact⟨⟨j+1,ZDo d (j+1),rfl,rfl,J0,rfl,hall2⟩,Wa⟩
   .try simp only[zB]at h1
    refine Vb ?_;refine Wz ?_;obtain rfl:j=d.length:=Wm
    rw[JX]at hall;rw[if_pos hall]at hu;rw[ZbF]at hM;subst hM;have hdl:(d.map KP).length=d.length:=Yc ..;rw[<-hdl];refine WI.orderA [4] ?_;refine WI.freeze (List.range' 1 (d.map KP).length) ?_;rw[ZgT];refine WI.pickA [0] (φ':= [(4,.ref 0 (d.map KP).length 0 (d.map KP).length)]) ?_ (hok:=by rw[Yx,Zhb];simp[ZO8,QH,Zh]) (hp:=rfl) (ho:=Ze1 (d.map KP));refine WI.toXA 0 ?_;have hsn:smD (d.map KP):=by
     intro r hr p hp;exact U0
    have hsnd:decide (smD (d.map KP))=true:=ZI hsn;have htk:(d.map KP).take (d.map KP).length=d.map KP:=JX;have uu:=Qu uu hsnd (ZKA (d.map KP)) htk;refine WI.regB tT [2,3] ?_;refine oS ?_;refine oC ?_
    refine W4 ?_;refine GB ?_
    first|refine lfR ?_|refine ZAs ?_|refine ZAY ?_|refine ZAi ?_
    rw[hu]
theorem ZQb:Ya []=([],0):=by unfold Ya;simp
theorem Ze7(s:Tx)(h:(Ya s).2≠0):ZL Tryz.prog 96 [.x (.str s)] (.tup [.x (.str (JY s).1),.x (.int .i64 (JY s).2)]):=by
 rcases hu:JY s with⟨u,e⟩
 unfold JY at hu;rw[if_pos h]at hu;cases hu;refine ZF.pure (fC 96 true ?_) rfl;intro C0 E0;have uu:=YB @ZGy.eq_1 @ZLj.eq_1;have tT:=aQ (aQ ZB ZF2) ZFJ;refine rg [0] ?_;refine rg [4,5] ?_;refine rg [4,5,16] ?_;refine cd (λh0=> ?_) (λh0=> ?_)
 .refine Vi ?_
  exact Wo
 .exact absurd Vh h
theorem ZeL:ZL Tryz.prog 96 [.x (.str [])] (.tup [.x (.str (JY []).1),.x (.int .i64 (JY []).2)]):=by
 have h1:Ya []=([],0):=ZQb;have h2:JY []=Qp []:=by unfold JY;rw[h1];simp
 have h3:decide (smD [])=true:=WT
 have h4:ZM Jp (rows Jp [])=some []:=ZKA [];rw[h2];refine ZF.pure (fC 96 true ?_) rfl;intro C0 E0;have uu:=ξ5 @ZGy.eq_1 @ZLj.eq_1 h1 h3 h4;have tT:=aQ (aQ ZB ZF2) ZFJ;refine rg [0] ?_;refine rg [4,5] ?_;refine rg [4,5,16] ?_;refine ce (λh0=> ?_) (λh0=> ?_)
 .simp at h0
 .refine rg [4,18,19,20] ?_;refine WI.loop (λφ os=>φ= [(4,.x (.sl (rows Jp []))),(18,.x (.sl (rows Jp []))),(19,.x (.int .i64 0)),(20,.x (.int .i64 0))]/\os= []) (ZJ 0 20) ?_ (λφ os hI=> ?_)
  .exact Gg
  .obtain⟨rfl,rfl⟩:=hI;refine rg [4,18,19,20,21] ?_;refine ce (λh1=> ?_) (λh1=> ?_)
   .simp at h1
   .refine Vi ?_
    exact Wo
theorem ZeN(s:Tx):ZL Tryz.prog 96 [.x (.str s)] (.tup [.x (.str (JY s).1),.x (.int .i64 (JY s).2)]):=by
 by_cases h:(Ya s).2=0
 .by_cases hs:s= []
  .subst hs;exact ZeL
  .exact Zf2 s (Ya s).1 (by rw[<-h]) hs
 .exact Ze7 s h
def ZDH(p:Av):List Av->Nat
 | []=>0
 |q::o=>if Op.bytesLess q.1 p.1=true then ZDH p o+1 else 0
theorem ZVX(p:Av): ∀o,ZDH p o<=o.length
 | []=>by simp[ZDH]
 |q::o=>by have:=ZVX p o;unfold ZDH;split<;>simp;omega
theorem ZWK(p:Av): ∀o,ZDk p o=o.take (ZDH p o)++p::o.drop (ZDH p o)
 | []=>rfl
 |q::o=>by
  unfold ZDk ZDH;split
  .rw[ZWK p o];rfl
  .rfl
theorem ZV1(p:Av): ∀(o:List Av) (k:Nat),k<=ZDH p o-> ∀h:k<o.length,Op.bytesLess o[k].1 p.1=true->k+1<=ZDH p o
 |q::o,0,_,_,hb=>by unfold ZDH;rw[if_pos (by simpa using hb)];omega
 |q::o,k+1,hk,h,hb=>by
  unfold ZDH at hk|-;split at hk
  .rename_i hl;rw[if_pos hl];have:=ZV1 p o k J0 WM (by simpa using hb);omega
  .omega
theorem ZKm(p:Av): ∀(o:List Av) (k:Nat),k<=ZDH p o->(∀h:k<o.length,Op.bytesLess o[k].1 p.1=false)->k=ZDH p o
 | [],k,hk,_=>by simp[ZDH]at hk|-;omega
 |q::o,0,_,h=>by
  unfold ZDH;have:=h J1;rw[if_neg (by simpa using this)]
 |q::o,k+1,hk,h=>by
  unfold ZDH at hk|-;split at hk
  .rename_i hl;rw[if_pos hl];have:=ZKm p o k J0 (λh2=>h (Nat.succ_lt_succ h2));omega
  .omega
end Go.Proofs.YtiogclkbccdefaaGreatDoor
end
