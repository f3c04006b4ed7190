import Derived.Test.YtiogclkbccdefaaGreatDoorMA1
import Derived.Test.YtiogclkbccdefaaGreatDoorLA5
import Derived.Test.YtiogclkbccdefaaGreatDoorProg
import Derived.Test.YtiogclkbccdefaaGreatDoorSh
import Derived.Shelf.Strings.Cut
set_option linter.unusedSimpArgs false
set_option linter.unusedVariables false
set_option maxRecDepth 100000
theorem Wc{p:Prop}(h:p:=by first|exact se|(exact ZI J0)|(exact ZI (by simp;omega))|exact sd):p:=h
theorem Wi{p:Prop}(h:p:=by first|exact⟨⟨j+2,b.length+1,n,b++ [r.getD (j+1) 0],by rw[ZW];first|done|rfl,by rw[YS];first|done|rfl,J0,J0,by rw[ZW];simp;omega,J1,by rw[hv,hst]⟩,Wa⟩|exact⟨⟨j+3,b.length+1,n,b++ [orB (hxD (r.getD (j+1) 0).toNat) (hxD (r.getD (j+2) 0).toNat)],by rw[ZW];first|done|rfl,by rw[YS];first|done|rfl,J0,J0,by rw[ZW];simp;omega,J1,by rw[hv,hst]⟩,Wa⟩|exact⟨⟨j+1,e,n,b++ [r.getD j 0],by rw[ZW];first|done|rfl,by rw[YS];first|done|rfl,J0,J0,by rw[ZW];simp;omega,by simp;omega,by rw[hv,hst]⟩,Wa⟩|exact⟨⟨j+1,b.length+1,n,b++ [r.getD j 0],by rw[ZW];first|done|rfl,by rw[YS];first|done|rfl,J0,J0,by rw[ZW];simp;omega,J1,by rw[hv,hst]⟩,Wa⟩):p:=h
theorem Wm{A B:Prop}(hZ:A)(k:Go.Ab.Bx A->B:=by(intro hZ;refine ZA ?_;refine WI.seq ?_;exact hZ.h)):B:=k ⟨hZ⟩
theorem Wq{p:Prop}(h:p:=by first|exact⟨⟨f,j+2,ps,rfl,rfl,I.slash hj4 hc⟩,Wa⟩|exact⟨⟨j+1,j+1,ps++ [(s.take j).drop f],by rw[ZW];first|done|rfl,by rw[<-ZBH];first|done|rfl,I.hit ha hj4 hc⟩,Wa⟩|exact⟨⟨f,j+1,ps,rfl,rfl,I.plain hj4 hc1 hc2⟩,Wa⟩):p:=h
theorem Wr{p:Prop}(h:p:=by first|exact⟨⟨r.drop (KZ r).2.1,b++ [(KZ r).1],b.length+1,n,by rw[ZW];first|done|rfl,by rw[YS];first|done|rfl,by rw[KO];omega,by rw[ZW,KO];simp;omega,J1,by rw[hv,hst]⟩,by show(r.drop (KZ r).2.1).length<r.length+1;rw[KO];omega⟩|exact⟨⟨r,b++ [c],e,n,by rw[ZW];first|done|rfl,by rw[YS];first|done|rfl,J0,by rw[ZW];simp;omega,by simp;omega,by rw[hv,hst]⟩,by show r.length<r.length+1;omega⟩|exact⟨⟨r,b++ [c],b.length+1,n,by rw[ZW];first|done|rfl,by rw[YS];first|done|rfl,J0,by rw[ZW];simp;omega,J1,by rw[hv,hst]⟩,by show r.length<r.length+1;omega⟩):p:=h
theorem Ww{A B:Prop}(hZ:A)(k:Go.Ab.Bx A->B:=by(intro hZ;refine oN ?_;refine ZA ?_;exact hZ.h)):B:=k ⟨hZ⟩
theorem W5{A B:Prop}(hZ:A)(k:Go.Ab.Bx A->B:=by(intro hZ;refine rg [2,3] ?_;refine WI.nnA ?_;refine lf ?_;exact hZ.h)):B:=k ⟨hZ⟩
theorem WE{A B:Prop}(hZ:A)(k:Go.Ab.Bx A->B:=by(intro hZ;refine Zb ?_;refine ZU ?_;refine Zb ?_;exact hZ.h)):B:=k ⟨hZ⟩
theorem WP{A B:Prop}(hZ:A)(k:Go.Ab.Bx A->B:=by(intro hZ;refine oS ?_;refine oN ?_;refine Wm ?_;exact hZ.h)):B:=k ⟨hZ⟩
theorem WU{p:Prop}(h:p:=by simp (disch:=decide) only[zV,zO,Ob.mpb,frzL,ZBg,ZCs,onF,Ob.onI,mpP,Jn,Yr,ZAC,D.vw,vwL,D.on,D.inP,JE,Zi,D.ren,YA,inv,Yb,Ob.mp,Ob.ren,D.nn,ZDv,Nat.reduceBEq,Nat.reduceEqDiff,Nat.reduceAdd,↓reduceIte,ZFL,ZAv];rfl):p:=h
theorem WZ{A B:Prop}(hZ:A)(k:Go.Ab.Bx A->B:=by(intro hZ;refine WI.exit ?_;refine Yp ?_;refine Yp ?_;refine QH ?_;exact hZ.h)):B:=k ⟨hZ⟩
theorem Va{A B:Prop}(hZ:A)(k:Go.Ab.Bx A->B:=by(intro hZ;refine oS ?_;refine Ww ?_;exact hZ.h)):B:=k ⟨hZ⟩
theorem Vc{p:Prop}(h:p:=by refine Jm [0,1] ?_;refine KR ?_;refine nz ?_;refine WI.orderA [0,3,9,10,11] ?_;refine rg [0,3,9,10,11] ?_;exact⟨⟨j+1,by rw[hst,ZW,hn];first|done|rfl,by rw[hst,<-hrow];first|done|rfl,J0⟩,Wa⟩):p:=h
theorem Vm{A B:Prop}(hZ:A)(k:Go.Ab.Bx A->B:=by(intro hZ;refine oS ?_;refine oG ?_;exact hZ.h)):B:=k ⟨hZ⟩
theorem Vn{A B:Prop}(hZ:A)(k:Go.Ab.Bx A->B:=by(intro hZ;refine ZU ?_;refine Zb ?_;exact hZ.h)):B:=k ⟨hZ⟩
theorem Vo{A B:Prop}(hZ:A)(k:Go.Ab.Bx A->B:=by(intro hZ;refine Zm ?_;refine Zm ?_;exact hZ.h)):B:=k ⟨hZ⟩
theorem Vt{A B:Prop}(hZ:A)(k:Go.Ab.Bx A->B:=by(intro hZ;refine WI.skip ?_;refine Wm ?_;exact hZ.h)):B:=k ⟨hZ⟩
theorem Vz{p:Prop}(h:p:=by refine oS ?_;refine oG (hok:=Wc) ?_;refine Wf ?_;exact⟨⟨k+1,by rw[hst];first|done|rfl,rfl,J0⟩,Wa⟩):p:=h
theorem V2{A B:Prop}(hZ:A)(k:Go.Ab.Bx A->B:=by(intro hZ;refine Wn ?_;refine Ww ?_;refine WI.ret ?_;exact hZ.h)):B:=k ⟨hZ⟩
theorem VG{A B:Prop}(hZ:A)(k:Go.Ab.Bx A->B:=by(intro hZ;refine WI.regB tT [0,4,5,6] ?_;refine WH ?_;refine Wf ?_;exact hZ.h)):B:=k ⟨hZ⟩
theorem VH{A B:Prop}(hZ:A)(k:Go.Ab.Bx A->B:=by(intro hZ;refine oC ?_;refine oS ?_;refine W7 ?_;refine Wn ?_;refine oN ?_;refine Wm ?_;exact hZ.h)):B:=k ⟨hZ⟩
theorem Ug{p:Prop}(h:p:=by have uu:=Zz uu (ZUd s j hj4);refine rg [3,4,5,16,17,18] ?_;refine rg [3,4,5,6,16,17,18] ?_;refine rg [3,16,17,18] ?_;refine rg [3,16,17,18] ?_;exact⟨⟨j+1,by rw[<-ZUo];rfl,rfl,J0⟩,Wa⟩):p:=h
theorem Ui{A B:Prop}(hZ:A)(k:Go.Ab.Bx A->B:=by(intro hZ;refine WI.orderA [0,1,5,6,7] ?_;refine rg [0,1,5,6,7] ?_;exact hZ.h)):B:=k ⟨hZ⟩
theorem Up{p:Prop}(h:p:=by refine Wo ?_;refine Zb (hok:=Wc) ?_;refine ZU ?_;refine Zb (hok:=Wc) ?_;refine dQC (hok:=Wc) ?_;refine Zm (hok:=Wc) ?_;refine ZU ?_;refine VJ ?_;refine WI.regB tT [0,3,4] ?_;exact Vz):p:=h
theorem Ux{p:Prop}(h:p:=by obtain⟨q,hq,rfl⟩:=YR.1 hr;obtain⟨x,hx,rfl⟩:=YR.1 ((ZFi _).mem_iff.1 hp);have:=((ZBQ (hmay q hq)).2.2 x hx).1;show(ZE x.1).length<=900000;unfold ZE;rw[YZ];omega):p:=h
theorem U0{p:Prop}(h:p:=by refine rg [0,3,4,5] ?_;exact⟨⟨j+1,by rw[hst,hA];first|done|rfl|simp,rfl,J0⟩,Wa⟩):p:=h
theorem UJ{p:Prop}(h:p:=by exact⟨0,rfl,rfl,J0,J1⟩):p:=h
theorem UL{A B:Prop}(hZ:A)(k:Go.Ab.Bx A->B:=by(intro hZ;refine Wo ?_;refine Vn ?_;exact hZ.h)):B:=k ⟨hZ⟩
theorem UQ{A B:Prop}(hZ:A)(k:Go.Ab.Bx A->B:=by(intro hZ;refine Vt ?_;refine WI.block ?_;refine WI.seq ?_;exact hZ.h)):B:=k ⟨hZ⟩
theorem UV{p:Prop}(h:p:=by rw[show r.getD k ([],[])=r[k] by simp[hk4]];exact hpb _ (YG hk4)):p:=h
theorem UZ{p:Prop}(h:p:=by simpa using h3):p:=h
theorem Tg{p:Prop}(h:p:=by first|exact h1|simpa using h1):p:=h
theorem Tr{A B:Prop}(hZ:A)(k:Go.Ab.Bx A->B:=by(intro hZ;refine ZAb ?_;refine JH ?_;refine JH ?_;refine ZAb ?_;refine JH ?_;exact hZ.h)):B:=k ⟨hZ⟩
theorem Tu{A B:Prop}(hZ:A)(k:Go.Ab.Bx A->B:=by(intro hZ;refine oS ?_;refine oG (hok:=Wc) ?_;exact hZ.h)):B:=k ⟨hZ⟩
theorem T3{p:Prop}(h:p:=by simp[hj4]):p:=h
theorem T7{p:Prop}(h:p:=by rw[YZ,Ys];omega):p:=h
theorem TF{A B:Prop}(hZ:A)(k:Go.Ab.Bx A->B:=by(intro hZ;refine WP ?_;refine WI.seq ?_;exact hZ.h)):B:=k ⟨hZ⟩
theorem TT{p:Prop}(h:p:=by rw[if_neg (by rw[hf];decide)]at hq;refine W5 ?_;cases hq;rfl):p:=h
theorem TU{p:Prop}(h:p:=by refine KR ?_;refine rg [0,3,8,9,10] ?_;exact⟨⟨j+1,rfl,by first|done|rfl,J0,by rw[okP,hok,hone];rfl⟩,Wa⟩):p:=h
theorem TV{A B:Prop}(hZ:A)(k:Go.Ab.Bx A->B:=by(intro hZ;refine oN ?_;refine Wm ?_;exact hZ.h)):B:=k ⟨hZ⟩
theorem TY{p:Prop}(h:p:=by rw[if_neg J0,if_neg (by rw[Zj JA d i hi4 (by rw[hdi,hdr];unfold JA;rw[ZGm r r.length k hk4 hno];rfl)];decide)]):p:=h
theorem Gl{p:Prop}(h:p:=by first|exact h2|simpa using h2):p:=h
theorem G7{p:Prop}(h:p:=by refine rg [8,9,10] ?_;exact⟨⟨j+1,rfl,rfl,J0,by rw[Yq _ d j hj4,hall,hdj];simpa using h2⟩,Wa⟩):p:=h
theorem G9{p:Prop}(h:p:=by simp[hi4]):p:=h
theorem GB{A B:Prop}(hZ:A)(k:Go.Ab.Bx A->B:=by(intro hZ;refine Wn ?_;refine W7 ?_;exact hZ.h)):B:=k ⟨hZ⟩
theorem GD{p:Prop}(h:p:=by refine oC (hok:=Wc) ?_;refine oG (hok:=Wc) ?_;refine Wf ?_;refine WI.regB tT [0,5,6] ?_;exact Vz):p:=h
theorem GE{p:Prop}(h:p:=by rw[if_pos J0]at hq;cases hq;rfl):p:=h
theorem GL{p:Prop}(h:p:=by rw[show JA r=false by unfold JA;rw[ZGm r r.length j hj4 hno];rfl];first|rfl|exact⟨rfl,rfl⟩):p:=h
theorem GW{p:Prop}(h:p:=by clear uu;grind):p:=h
theorem Nh{A B:Prop}(hZ:A)(k:Go.Ab.Bx A->B:=by(intro hZ;refine WI.regB tT [2,3] ?_;refine Wn ?_;refine Uo ?_;exact hZ.h)):B:=k ⟨hZ⟩
theorem Nw{A B:Prop}(hZ:A)(k:Go.Ab.Bx A->B:=by(intro hZ;refine Jf ?_;refine ZA ?_;exact hZ.h)):B:=k ⟨hZ⟩
theorem Nx{p:Prop}(h:p:=by rw[ZIv _ _ _ (by intro hh;have:=congrArg List.length hh;rw[YZ,Ys,ξN]at this;omega)]):p:=h
theorem N6{p:Prop}(h:p:=by rw[e];exact⟨ZVm _ _ _ (λx hx=>by have:=h2 x hx;simp;omega) J1,ZVF _ _ _ W3 J1⟩):p:=h
theorem ND{A B:Prop}(hZ:A)(k:Go.Ab.Bx A->B:=by(intro hZ;refine Va ?_;refine WI.block ?_;exact hZ.h)):B:=k ⟨hZ⟩
theorem NF{p:Prop}(h:p:=by rw[Bool.eq_false_iff];intro hh;have:=Yg.1 hh l[j] (YG h);rw[hp]at this;cases this):p:=h
theorem NH{p:Prop}(h:p:=by rw[show r.getD j ([],[])=r[j] by simp[hj4]];exact hb _ (YG hj4)):p:=h
theorem NK{p:Prop}(h:p:=by cases hq;rfl):p:=h
section
namespace Go.Proofs.YtiogclkbccdefaaGreatDoor
open Go.RowKit Go.Bo Go.Ab
def Jp:Nat->Tx->Tx->Nat->Option (Tx×Nat)
 |0,_,_,_=>none
 |_+1,[],b,e=>some (b,e)
 |n+1,c::r,b,e=>
  if c=92 then(if(KZ r).2.2=true then Jp n (r.drop (KZ r).2.1) (b++ [(KZ r).1]) (b.length+1)else none)
  else if ZHu c.toNat (decide (b.length=0))=true then none
  else if c=32 then Jp n r (b++ [c]) e else Jp n r (b++ [c]) (b.length+1)
theorem ZgE(s:Tx):(KZ s).2.1<=s.length:=by
 unfold KZ;split
 .simp
 .rename_i h;have:0<s.length:=ZJs.2 h;split
  .simp;omega
  .split
   .simp
   .rename_i h2;simp only[not_or]at h2;simp;omega
theorem ZIZ: ∀(n m:Nat) (r b:Tx) (e:Nat),r.length<n->r.length<m->Jp n r b e=Jp m r b e
 |n+1,m+1,[],b,e,_,_=>rfl
 |n+1,m+1,c::r,b,e,h1,h2=>by
  have hn:r.length<n:=by simp at h1;omega
  have hm:r.length<m:=by simp at h2;omega
  have h3:(r.drop (KZ r).2.1).length<=r.length:=TC
  rw[Jp,Jp,ZIZ n m r _ _ hn hm,ZIZ n m r _ _ hn hm,ZIZ n m (r.drop (KZ r).2.1) _ _ J0 J0]
def ZFw(s:Tx):Tx×Bool:=match Jp (s.length+1) (trL s) [] 0 with
 |none=>([],false)
 |some (b,e)=>(b.take e,decide (e>0))
def ZHk(s:Tx):Tx×Bool:=match Jp (s.length+1) (trL s) [] 0 with
 |none=>([],false)
 |some (b,e)=>(b.take e,true)
theorem ZRx{c:UInt8}(h:(c.toNat:Int)=92):c=92:=by
 apply ZMh.1;show c.toNat=92;omega
set_option maxHeartbeats 1000000 in
theorem Zgk(s:Tx)(hl:s.length<=900000):ZK Tryz.prog 206 [.x (.str s)] (.tup [.x (.str (ZFw s).1),.x (.bool (ZFw s).2)]):=by
 have htl:=ZO6 s;rcases hq:ZFw s with⟨v,ok⟩
 unfold ZFw at hq;refine ZH.pure (fC 206 true ?_) rfl;intro C0 E0;have uu:=ξ6 @ZKn.eq_1 @ZVw.eq_1 @ZOz.eq_1 @JM @QR (@ZJu.{0});have tT:=aQ (aQ (aQ ZB ZRt) ZbI) ZWD;refine rg [0] ?_;refine WI.scope 0 rfl (λφ os=>False) (λφ _=>0) ?_ (λφ os hI=> ?_)
 .refine rg [0] ?_;refine rg [0,4] ?_;refine rg [0,4,5] ?_;refine WI.label ?_;refine nz ?_;refine WI.ownA 4 5 1 ?_;refine WI.loop (λφ os=> ∃(r b:Tx) (e n:Nat),φ= [(0,.x (.str r)),(4,.ref 0 b.length 0 b.length),(5,.x (.int .i64 e))]/\os= [.rows false 5 1 (b.map Zs)]/\r.length<n/\b.length+r.length<=s.length/\e<=b.length/\Jp (s.length+1) (trL s) [] 0=Jp n r b e) ((λφ _=>match get φ 0 with| .x (.str r)=>r.length|_=>0)) ?_ (λφ os hI=> ?_)
  .exact⟨trL s,[],0,s.length+1,rfl,rfl,J0,W3,J1,rfl⟩
  .obtain⟨r,b,e,n,rfl,rfl,hn,hb,he,hv⟩:=hI;obtain⟨n,rfl⟩: ∃m,n=m+1:=⟨n-1,J0⟩;refine rg [0,4,5,13] ?_;refine cd (λh0=> ?_) (λh0=> ?_)
   .rcases r with _|⟨c,r⟩
    .simp at h0
    have hn':r.length+1<n+1:=hn;have hb':b.length+(r.length+1)<=s.length:=hb;have hen:=ZgE r;have hb8:c.toNat<256:=ZDo _;have hsc:decide (r.length<=1000000)=true:=ZI J0;have uu:=Zz uu hsc;refine rg [0,4,5,6] ?_;refine rg [0,4,5,6] ?_;refine rg [0,4,5,6,24] ?_;refine cd (λh1=> ?_) (λh1=> ?_)
    .have hc:c=92:=ZRx Tg;refine rg [0,4,7,8,9] ?_;refine rg [0,4,7,8,34] ?_;refine cd (λh2=> ?_) (λh2=> ?_)
     .refine Vx ?_;rw[hv,Jp,if_pos hc,if_neg U9]at hq;exact NK
     .have hst:Jp (n+1) (c::r) b e=Jp n (r.drop (KZ r).2.1) (b++ [(KZ r).1]) (b.length+1):=by rw[Jp,if_pos hc,if_pos U9]
      refine WI.post ?_;refine WI.dregB tT [0,4] ?_;refine Wo ?_;refine Qx ?_;refine Qx ?_;refine Wo ?_;refine Zm ?_;refine Wo ?_;refine dP ?_;refine Jm [0] ?_;refine KR ?_;refine rg [0,4,5] ?_
      exact Wr
    .have hc:c≠92:=by rintro rfl;exact absurd h1 WS
     have hz:((b.length:Int)==0)=decide (b.length=0):=by rw[Qg];simp<;>omega
     have uu:=Zz uu hz;refine rg [0,4,5,6,42] ?_;refine cd (λh3=> ?_) (λh3=> ?_)
     .refine Vx ?_;rw[hv,Jp,if_neg hc,if_pos UZ]at hq;exact NK
     .refine rgp [0,4,5,6] ?_;refine Jm [0] ?_;refine KR ?_;refine rg [0,4,5,23] ?_;refine cd (λh4=> ?_) (λh4=> ?_) (kA:=λh=>h.h)
      .refine WI.orderA [0,4,5] ?_;have hst:Jp (n+1) (c::r) b e=Jp n r (b++ [c]) e:=by rw[Jp,if_neg hc,if_neg UZ,if_pos (ZMK (by first|exact h4|simpa using h4))]
       refine nz ?_
       exact Wr
      .have hst:Jp (n+1) (c::r) b e=Jp n r (b++ [c]) (b.length+1):=by rw[Jp,if_neg hc,if_neg UZ,if_neg (by rintro rfl;exact absurd h4 WS)]
       refine rg [0,4,5] ?_
       exact Wr
   .obtain rfl:r= []:=Vg
    have hv2:Jp (s.length+1) (trL s) [] 0=some (b,e):=by rw[hv];rfl
    rw[hv2]at hq;have e1:(List.map Zs b).take e=(b.take e).map Zs:=by rw[ZW1]
    have uu:=Zz uu e1;refine Vx ?_;cases hq;rw[show decide ((e:Int)>0)=decide (e>0) by rw[Qg];simp]
 .exact hI.elim
def ZXN:J8->J5
 | [.x (.str s)]=>some (decide (s.length<=900000),.tup [.x (.str (ZFw s).1),.x (.bool (ZFw s).2)])
 |_=>none
theorem ZcG:QK Tryz.prog ZXN 206:=by
 intro args r h;unfold ZXN at h;split at h
 .obtain⟨h1,rfl⟩:=Yu h;exact(Zgk _ h1)
 .cases h
theorem ZPN(n:Nat):(ZBl n).2=decide (hxD n<16)/\(hxD n<16->(ZBl n).1=hxD n):=by
 unfold ZBl;split
 .rename_i h;exact⟨by simp[h],λ_=>rfl⟩
 .rename_i h;exact⟨by simp[h],λh'=>absurd h' h⟩
theorem ZQG(s:Tx)(i j:Nat):(s.drop i).getD j 0=s.getD (i+j) 0:=TC
theorem ZPG(s:Tx)(i:Nat):KZ (s.drop i)=if s.length<=i then(0,0,false)else if ZG4 (s.getD i 0)=true then(s.getD i 0,1,true)else if ¬hxD (s.getD i 0).toNat<16\/s.length<i+2 then(0,0,false)else(orB (hxD (s.getD i 0).toNat) (ZBl (s.getD (i+1) 0).toNat).1,2,decide (hxD (s.getD (i+1) 0).toNat<16)):=by
 unfold KZ;rw[ZQG,ZQG,JP];have h1:=ZPN (s.getD i 0).toNat;have h2:=ZPN (s.getD (i+1) 0).toNat;by_cases h:s.length<=i
 .rw[if_pos (ZBB h),if_pos h]
 .rw[if_neg (by intro e;have:=congrArg List.length e;simp at this;omega),if_neg h];split
  .rfl
  .rw[h1.1,h2.1];have e1:(decide (hxD (s.getD i 0).toNat<16)=false\/(s.drop i).length<2)↔(¬hxD (s.getD i 0).toNat<16\/s.length<i+2):=by
    rw[decide_eq_false_iff_not,KO];constructor<;>(intro h;rcases h with h|h;exact .inl h;exact .inr J0)
   by_cases h3: ¬hxD (s.getD i 0).toNat<16\/s.length<i+2
   .rw[if_pos h3,if_pos (e1.2 h3)]
   .rw[if_neg h3,if_neg (λh=>h3 (e1.1 h)),h1.2 (ZHq.1 λh=>h3 (.inl h))]
theorem ZiS: ∀(a b:Fin 16),IntKind.u8.wrap (16*(a.val:Int)+(b.val:Int))=((UInt8.ofNat (16*a.val+b.val)).toNat:Int):=Un
theorem ZjR(h l:Nat)(h1:h<16)(h2:l<16):IntKind.u8.wrap (16*(h:Int)+(l:Int))=((orB h l).toNat:Int):=ZiS ⟨_,h1⟩ ⟨_,h2⟩
theorem Ze5(c:UInt8):ZG4 c=(spc c.toNat||(decide ((c.toNat:Int)=32)||decide ((c.toNat:Int)=35))):=by
 have e1:decide (c.toNat=32)=decide ((c.toNat:Int)=32):=by rw[Qg,Ym,Ym];omega
 have e2:decide (c.toNat=35)=decide ((c.toNat:Int)=35):=by rw[Qg,Ym,Ym];omega
 unfold ZG4;rw[e1,e2,Bool.or_assoc]
theorem QQ(s:Tx)(j:Nat)(h:j<s.length):s.drop j=s.getD j 0::s.drop (j+1):=by
 rw[ξU h];simp[h]
theorem Zae(n:Nat)(r b:Tx)(j e:Nat)(hc:r.getD j 0=92)(h1:j+1<r.length)(hf:ZG4 (r.getD (j+1) 0)=true):Jp (n+1) (r.drop j) b e=Jp n (r.drop (j+2)) (b++ [r.getD (j+1) 0]) (b.length+1):=by
 have hE:KZ (r.drop (j+1))=(r.getD (j+1) 0,1,true):=by rw[ZPG,if_neg J0,if_pos hf]
 rw[QQ r j J0,Jp,if_pos hc,hE,if_pos rfl,ZMg];first|done|rfl
theorem ZeX(n:Nat)(r b:Tx)(j e:Nat)(hc:r.getD j 0=92)(h1:j+2<r.length)(hf:ZG4 (r.getD (j+1) 0)=false)(hx:hxD (r.getD (j+1) 0).toNat<16)(hy:hxD (r.getD (j+2) 0).toNat<16):Jp (n+1) (r.drop j) b e=Jp n (r.drop (j+3)) (b++ [orB (hxD (r.getD (j+1) 0).toNat) (hxD (r.getD (j+2) 0).toNat)]) (b.length+1):=by
 have hE:KZ (r.drop (j+1))=(orB (hxD (r.getD (j+1) 0).toNat) (hxD (r.getD (j+2) 0).toNat),2,true):=by
  rw[ZPG,if_neg J0,if_neg (by rw[hf];decide),if_neg (by rintro(h|h);exact h hx;omega),(ZPN (r.getD (j+1+1) 0).toNat).2 hy,ZI hy]
 rw[QQ r j J0,Jp,if_pos hc,hE,if_pos rfl,ZMg];first|done|rfl
theorem Zdw(n:Nat)(r b:Tx)(j e:Nat)(hj:j<r.length)(hc:r.getD j 0=92)(hf: ¬(j+1<r.length/\ZG4 (r.getD (j+1) 0)=true))(hx: ¬(j+2<r.length/\hxD (r.getD (j+1) 0).toNat<16/\hxD (r.getD (j+2) 0).toNat<16)):Jp (n+1) (r.drop j) b e=none:=by
 have hE:(KZ (r.drop (j+1))).2.2=false:=by
  rw[ZPG];by_cases h1:r.length<=j+1
  .rw[if_pos h1]
  .rw[if_neg h1,if_neg (λh=>hf ⟨J0,h⟩)];by_cases h2: ¬hxD (r.getD (j+1) 0).toNat<16\/r.length<j+1+2
   .rw[if_pos h2]
   .rw[if_neg h2];simp only[not_or,ZHq]at h2;exact decide_eq_false (λh=>hx ⟨J0,h2.1,h⟩)
 rw[QQ r j hj,Jp,if_pos hc,hE,if_neg WS]
theorem ZfN(n:Nat)(r b:Tx)(j e:Nat)(hj:j<r.length)(hc:r.getD j 0≠92)(hb:ZHu (r.getD j 0).toNat (decide (b.length=0))=true):Jp (n+1) (r.drop j) b e=none:=by
 rw[QQ r j hj,Jp,if_neg hc,if_pos hb]
theorem ZY1(n:Nat)(r b:Tx)(j e:Nat)(hj:j<r.length)(hc:r.getD j 0=32):Jp (n+1) (r.drop j) b e=Jp n (r.drop (j+1)) (b++ [r.getD j 0]) e:=by
 rw[QQ r j hj,Jp,if_neg (by rw[hc];decide),if_neg (by rw[hc];cases decide (b.length=0)<;>decide),if_pos hc]
theorem ZX5(n:Nat)(r b:Tx)(j e:Nat)(hj:j<r.length)(hc:r.getD j 0≠92)(hb: ¬ZHu (r.getD j 0).toNat (decide (b.length=0))=true)(h3:r.getD j 0≠32):Jp (n+1) (r.drop j) b e=Jp n (r.drop (j+1)) (b++ [r.getD j 0]) (b.length+1):=by
 rw[QQ r j hj,Jp,if_neg hc,if_neg hb,if_neg h3]
theorem neD{c:UInt8}{k:Nat}(hk:k<256)(h: ¬(c.toNat:Int)=k):c≠UInt8.ofNat k:=λe=>h (by rw[e];simp;omega)
theorem Zfh(n:Nat)(f:Bool):ZHu n f=(((decide ((n:Int)<32)||decide ((n:Int)=127))||(spc n&&decide ((n:Int)≠61)))||(decide ((n:Int)=35)&&f)):=by
 unfold ZHu;rw[Qg];simp only[ZBW,Zk,Ym];grind
theorem ZiO:spc 92=true:=WS
set_option maxHeartbeats 2000000 in
theorem Zg0(s:Tx)(hl:s.length<=900000):ZK Tryz.prog 172 [.x (.str s)] (.tup [.x (.str (ZHk s).1),.x (.bool (ZHk s).2)]):=by
 have htl:=ZO6 s;rcases hq:ZHk s with⟨v,ok⟩
 unfold ZHk at hq;refine ZH.pure (fC 172 true ?_) rfl;intro C0 E0;have uu:=Qt @ZIj.eq_1 @ZbQ.eq_1 @JM @QR;have tT:=aQ (aQ ZB ZLY) Zdj;refine nz ?_;refine WI.regB tT [0] ?_
 refine oS ?_;refine Wf ?_;refine WI.loop (λφ os=> ∃(r:Tx),φ= [(0,.x (.str r))]/\os= []/\r.length<=s.length/\trL s=trL r) ((λφ _=>match get φ 0 with| .x (.str r)=>r.length|_=>0)) ?_ (λφ os hI=> ?_)
 .exact⟨s,rfl,rfl,J0,rfl⟩
 .obtain⟨r,rfl,rfl,hr,he⟩:=hI;have hem:=ZIL r;refine nz ?_;refine WI.regB tT [0,14] ?_;refine WH ?_;refine oS ?_
  iterate 4 refine oG (hok:=We) ?_
  refine Vy ?_;refine cd (λh0=> ?_) (λh0=> ?_)
  .have h0p:0<r.length:=by rcases r with _|⟨c,r⟩;simp at h0;simp
   have h0c:r.getD 0 0=32:=by rcases r with _|⟨c,r⟩;simp at h0;exact ZMK Vg
   refine WI.regB tT [0] ?_;refine WH ?_;refine Wf ?_;exact VT
  .have h0n: ¬(0<r.length/\r.getD 0 0=32):=λhh=>by
    have h2:((r.getD 0 0).toNat:Int)=32:=by rw[hh.2];rfl
    have h3:r≠ []:=by rintro rfl;simp at hh
    grind
   rw[he,ZMV r h0n]at hq htl;clear he h0 h0n hem;refine WI.regB tT [0,4] ?_;refine Wf ?_;refine WI.regB tT [0,4,5] ?_;refine Wf ?_;refine WI.regB tT [0,4,5,6] ?_;refine Wf ?_;refine WI.ownA 4 5 1 ?_;refine WI.loop (λφ os=> ∃(j e n:Nat) (b:Tx),φ= [(0,.x (.str r)),(4,.ref 0 b.length 0 b.length),(5,.x (.int .i64 e)),(6,.x (.int .i64 j))]/\os= [.rows false 5 1 (b.map Zs)]/\j<=r.length/\r.length-j<n/\b.length<=j/\e<=b.length/\Jp (s.length+1) r [] 0=Jp n (r.drop j) b e) (ZJ r.length 6) ?_ (λφ os hI=> ?_)
   .exact⟨0,0,s.length+1,[],rfl,rfl,J0,J0,J1,J1,rfl⟩
   .obtain⟨j,e,n,b,rfl,rfl,hj,hn,hb,hee,hv⟩:=hI;obtain⟨n,rfl⟩: ∃m,n=m+1:=⟨n-1,J0⟩;refine nz ?_;refine WI.regB tT [0,4,5,6,20] ?_
    refine Wn ?_
    iterate 2 refine oG (hok:=We) ?_
    refine Vy ?_;refine cd (λh1=> ?_) (λh1=> ?_)
    .have hj4:j<r.length:=Wl
     have e1:((j:Int)+1).toNat=j+1:=Wl
     have e2:((j:Int)+2).toNat=j+2:=Wl
     have hb8:(r.getD j 0).toNat<256:=ZDo _;have hb81:(r.getD (j+1) 0).toNat<256:=ZDo _;have hb82:(r.getD (j+2) 0).toNat<256:=ZDo _;have hfe:=Ze5 (r.getD (j+1) 0);have hbe:=Zfh (r.getD j 0).toNat (decide (b.length=0));have uu:=JJ uu e1 e2;refine WI.regB tT [0,4,5,6,7] ?_
     refine Wn ?_;refine oG (hok:=We) ?_;refine Wf ?_;refine WI.regB tT [0,4,5,6,7,32] ?_;refine WH ?_;refine oS ?_
     iterate 6 refine oG (hok:=We) ?_
     refine oS ?_
     iterate 4 refine oG (hok:=We) ?_
     refine oC (hok:=We) ?_
     iterate 15 refine oG (hok:=We) ?_
     refine Wf ?_;refine cd (λh2=> ?_) (λh2=> ?_)
     .have hst:=Zae n r b j e (ZRx Wv) Wv (by rw[hfe];clear uu;grind);refine WI.post ?_;refine WI.regB tT [0,4,6] ?_
      refine Wn ?_;refine oS ?_
      iterate 4 refine oG (hok:=We) ?_
      refine Nu ?_;refine Vr ?_;refine WI.regB tT [0,4,6] ?_;refine WH ?_;refine Wf ?_;refine VG ?_;refine WI.orderA [0,4,5,6] ?_;refine VG ?_
      exact Wi
     .refine WI.regB tT [0,4,5,6,7,74] ?_;refine WH ?_;refine oS ?_
      iterate 6 refine oG (hok:=We) ?_
      refine oS ?_
      iterate 4 refine oG (hok:=We) ?_
      refine oC (hok:=We) ?_
      iterate 2 refine oG (hok:=We) ?_
      refine oS ?_
      iterate 4 refine oG (hok:=We) ?_
      refine oC (hok:=We) ?_
      iterate 2 refine oG (hok:=We) ?_
      refine Wf ?_;refine cd (λh3=> ?_) (λh3=> ?_)
      .have hx1:hxD (r.getD (j+1) 0).toNat<16:=Wv
       have hx2:hxD (r.getD (j+2) 0).toNat<16:=Wv
       have hst:=ZeX n r b j e (ZRx Wv) Wv (by rw[hfe];clear uu;grind) hx1 hx2;have uu:=Zz uu (ZjR _ _ hx1 hx2);refine WI.post ?_;refine WI.dregB tT [0,4,6] ?_
       refine Wo ?_;refine ZU ?_
       iterate 2 refine Zm (hok:=We) ?_
       refine dAC (hok:=We) ?_;refine Zm (hok:=We) ?_;refine Wo ?_
       iterate 2 refine Zm (hok:=We) ?_
       refine dAC (hok:=We) ?_
       iterate 2 refine Zm (hok:=We) ?_
       iterate 2 refine Qx (hok:=We) ?_
       refine ZU ?_;refine dP ?_;refine Vr ?_;refine WI.regB tT [0,4,6] ?_;refine WH ?_;refine Wf ?_;refine VG ?_;refine WI.orderA [0,4,5,6] ?_;refine VG ?_
       exact Wi
      .refine WI.regB tT [0,4,5,6,7,120] ?_;refine WH ?_;refine Wf ?_;refine cd (λh4=> ?_) (λh4=> ?_)
       .have hst:=ZY1 n r b j e hj4 (ZMK (by first|exact h4|simpa using h4));refine WI.post ?_;refine WI.regB tT [0,4,5,6] ?_
        refine Wn ?_
        iterate 2 refine oG (hok:=We) ?_
        refine Nu ?_;refine Vr ?_;refine WI.orderA [0,4,5,6] ?_;refine VG ?_
        exact Wi
       .refine WI.regB tT [0,4,6,7,127] ?_;refine WH ?_;refine oS ?_
        iterate 3 refine oG (hok:=We) ?_
        refine WH ?_;refine oC (hok:=We) ?_
        iterate 5 refine oG (hok:=We) ?_
        refine oS ?_
        iterate 8 refine oG (hok:=We) ?_
        refine Wf ?_;refine cd (λh5=> ?_) (λh5=> ?_)
        .refine WI.regB tT [2,3] ?_;refine oS ?_;refine Uo ?_;have hno:Jp (n+1) (r.drop j) b e=none:=by
          by_cases hc:r.getD j 0=92
          .have hc':((r.getD j 0).toNat:Int)=92:=by rw[hc];rfl
           exact Zdw n r b j e hj4 hc (by rw[hfe];clear uu;grind) Wv
          .exact ZfN n r b j e hj4 hc (by rw[hbe];clear uu;grind)
         rw[hv,hno]at hq;exact NK
        .have hc9:r.getD j 0≠92:=by
          intro hc;have hc':((r.getD j 0).toNat:Int)=92:=by rw[hc];rfl
          have hs9:spc (r.getD j 0).toNat=true:=by rw[hc];exact ZiO
          exact GW
         have hst:=ZX5 n r b j e hj4 hc9 (by rw[hbe];clear uu;grind) (neD (k:=32) WS Wv);refine WI.post ?_;refine WI.regB tT [0,4,6] ?_
         refine Wn ?_
         iterate 2 refine oG (hok:=We) ?_
         refine Nu ?_;refine Vr ?_;refine VG ?_;refine WI.orderA [0,4,5,6] ?_;refine VG ?_
         exact Wi
    .have hv2:Jp (s.length+1) r [] 0=some (b,e):=by rw[hv,ZBB J0];rfl
     rw[hv2]at hq;have e1:(List.map Zs b).take e=(b.take e).map Zs:=by rw[ZW1]
     have uu:=Zz uu e1;refine WI.regB tT [2,3] ?_
     refine Wn ?_
     iterate 2 refine oG (hok:=We) ?_
     refine oS ?_;refine Uo ?_;exact NK
def ZWv:J8->J5
 | [.x (.str s)]=>some (decide (s.length<=900000),.tup [.x (.str (ZHk s).1),.x (.bool (ZHk s).2)])
 |_=>none
theorem Zcp:QK Tryz.prog ZWv 172:=by
 intro args r h;unfold ZWv at h;split at h
 .obtain⟨h1,rfl⟩:=Yu h;exact(Zg0 _ h1)
 .cases h
def pre(p:Tx):List Tx->List Tx
 | []=> [p]
 |x::l=>(p++x)::l
def Yf(a:UInt8):Tx->List Tx
 | []=> [[]]
 |c::r=>if c=92 then(match r with
   | []=> [[c]]
   |d::r'=>pre [c,d] (Yf a r'))else if c=a then []::Yf a r else pre [c] (Yf a r)
theorem ZZx(p:Tx)(l:List Tx):pre p l≠ []:=by cases l<;>simp[pre]
theorem ZIT(a:UInt8)(s:Tx):Yf a s≠ []:=by
 unfold Yf;split
 .simp
 .split
  .split
   .simp
   .exact ZZx _ _
  .split
   .simp
   .exact ZZx _ _
theorem ZPU(p q:Tx)(l:List Tx)(h:l≠ []):pre p (pre q l)=pre (p++q) l:=by
 rcases l with _|⟨x,l⟩
 .exact absurd rfl h
 .simp[pre]
theorem ZOj(l:List Tx)(h:l≠ []):pre [] l=l:=by
 rcases l with _|⟨x,l⟩
 .exact absurd rfl h
 .simp[pre]
theorem ZX6(a:UInt8)(s:Tx)(j:Nat)(h:j<s.length)(hc:s.getD j 0=92):Yf a (s.drop j)=pre ((s.drop j).take 2) (Yf a (s.drop (j+2))):=by
 rw[QQ s j h,hc];rcases hr:s.drop (j+1)with _|⟨d,r⟩
 .have:s.drop (j+2)= []:=by rw[<-ZMg,show s.drop j=s.drop (j+0)from rfl];have:=congrArg (List.drop 1) hr;rw[ZMg]at this;exact V4
  rw[this];rfl
 .have:s.drop (j+2)=r:=by have:=congrArg (List.drop 1) hr;rw[ZMg]at this;exact V4
  rw[this]
  conv=>lhs;unfold Yf
  rw[if_pos rfl];rfl
theorem ZeS(a:UInt8)(ha:a≠92)(s:Tx)(j:Nat)(h:j<s.length)(hc:s.getD j 0=a):Yf a (s.drop j)= []::Yf a (s.drop (j+1)):=by
 rw[QQ s j h,hc]
 conv=>lhs;unfold Yf
 rw[if_neg ha,if_pos rfl]
theorem ZYU(a:UInt8)(s:Tx)(j:Nat)(h:j<s.length)(h1:s.getD j 0≠92)(h2:s.getD j 0≠a):Yf a (s.drop j)=pre [s.getD j 0] (Yf a (s.drop (j+1))):=by
 rw[QQ s j h]
 conv=>lhs;unfold Yf
 rw[if_neg h1,if_neg h2]
theorem ZNH(s:Tx)(f j k:Nat)(h:f<=j)(hj:j<=s.length):(s.take (j+k)).drop f=(s.take j).drop f++(s.drop j).take k:=by
 rw[List.take_add,Zb0 W3]
theorem ZgQ(s:Tx)(j:Nat)(h:j<s.length):(s.drop j).take 1= [s.getD j 0]:=by rw[QQ s j h];rfl
structure SpI (a:UInt8) (s:Tx) (f j:Nat) (ps:List Tx):Prop where
 fj:f<=j
 jl:j<=s.length+1
 fl:f<=s.length
 pl:ps.length<=f
 eq:Yf a s=ps++pre ((s.take j).drop f) (Yf a (s.drop j))
theorem SpI.start(a:UInt8)(s:Tx):SpI a s 0 0 []:=⟨Zp _,J0,J0,J1,by show Yf a s=pre [] (Yf a s);rw[ZOj _ (ZIT a s)]⟩
theorem SpI.slash{a:UInt8}{s:Tx}{f j:Nat}{ps:List Tx}(I:SpI a s f j ps)(h:j<s.length)(hc:s.getD j 0=92):SpI a s f (j+2) ps:=
 ⟨by have:=I.fj;omega,J0,I.fl,I.pl,by rw[I.eq,ZX6 a s j h hc,ZPU _ _ _ (ZIT _ _),ZNH s f j 2 I.fj J0]⟩
theorem SpI.hit{a:UInt8}(ha:a≠92){s:Tx}{f j:Nat}{ps:List Tx}(I:SpI a s f j ps)(h:j<s.length)(hc:s.getD j 0=a):SpI a s (j+1) (j+1) (ps++ [(s.take j).drop f]):=
 ⟨Zp _,J0,J0,by have:=I.pl;have:=I.fj;simp;omega,by
  rw[I.eq,ZeS a ha s j h hc,ZBB (l:=s.take (j+1)) W3,ZOj _ (ZIT _ _)];simp[pre]⟩
theorem SpI.plain{a:UInt8}{s:Tx}{f j:Nat}{ps:List Tx}(I:SpI a s f j ps)(h:j<s.length)(h1:s.getD j 0≠92)(h2:s.getD j 0≠a):SpI a s f (j+1) ps:=
 ⟨by have:=I.fj;omega,J0,I.fl,I.pl,by rw[I.eq,ZYU a s j h h1 h2,ZPU _ _ _ (ZIT _ _),ZNH s f j 1 I.fj J0,ZgQ s j h]⟩
theorem SpI.fin{a:UInt8}{s:Tx}{f j:Nat}{ps:List Tx}(I:SpI a s f j ps)(h:s.length<=j):Yf a s=ps++ [s.drop f]:=by
 rw[I.eq,ZBB h,YO h];simp[Yf,pre]
theorem ZBH(l:List Tx)(x:Tx):rows ZC l++ [[X.str x]]=rows ZC (l++ [x]):=Gd
theorem cD{c a:UInt8}(h:(c.toNat:Int)=a.toNat):c=a:=ZMh.1 J0
theorem nD{c a:UInt8}(h: ¬(c.toNat:Int)=a.toNat):c≠a:=λe=>h (by rw[e])
theorem ZSC(a:UInt8)(ha:a≠92)(s:Tx)(hl:s.length<=1000000):ZK Tryz.prog 159 [.x (.str s),.x (.int .u8 a.toNat)] (.x (.sl (rows ZC (Yf a s)))):=by
 refine ZH.pure (fC 159 true ?_) rfl;intro C0 E0;have uu:=trivial;have tT:=(ZB:SsOk Tryz.prog YH);refine VO ?_;refine rg [0,1,5,6] ?_;refine rg [0,1,5,6,7] ?_;refine WI.ownA 5 9 1 ?_;refine WI.loop (λφ os=> ∃(f j:Nat) (ps:List Tx),φ= [(0,.x (.str s)),(1,.x (.int .u8 a.toNat)),(5,.ref 0 ps.length 0 ps.length),(6,.x (.int .i64 f)),(7,.x (.int .i64 j))]/\os= [.rows false 9 1 (rows ZC ps)]/\SpI a s f j ps) (ZJ (s.length+1) 7) ?_ (λφ os hI=> ?_)
 .exact⟨0,0,[],rfl,rfl,SpI.start a s⟩
 .obtain⟨f,j,ps,rfl,rfl,I⟩:=hI;have i1:=I.fj;have i2:=I.jl;have i3:=I.fl;have i4:=I.pl;refine rg [0,1,5,6,7,11] ?_;refine cd (λh0=> ?_) (λh0=> ?_)
  .have hj4:j<s.length:=Wl
   refine rg [0,1,5,6,7,16] ?_;refine rg [0,1,5,6,7,16,17] ?_;refine cd (λh1=> ?_) (λh1=> ?_)
   .have hc:s.getD j 0=92:=ZRx Tg;refine rg [0,1,5,6,7] ?_;refine Ui ?_
    exact Wq
   .have hc1:s.getD j 0≠92:=neD (k:=92) WS Tg;refine rg [0,1,5,6,7,21] ?_;refine cd (λh2=> ?_) (λh2=> ?_)
    .have hc:s.getD j 0=a:=cD Gl;refine rgp [0,1,5,7] ?_;refine Jm [0] ?_;refine KR ?_;refine rg [0,1,5,6,7] ?_;refine Ui ?_
     exact Wq
    .have hc2:s.getD j 0≠a:=nD Gl;refine Ui ?_
     exact Wq
  .refine Wj ?_;rw[ZBH,I.fin J0,YO NX]
def ZGT:J8->J5
 | [.x (.str s),.x (.int .u8 n)]=>some (decide (s.length<=1000000)&&(decide (n=43\/n=44)),.x (.sl (rows ZC (Yf (UInt8.ofNat n.toNat) s))))
 |_=>none
theorem ZGQ:QK Tryz.prog ZGT 159:=by
 intro args r h;unfold ZGT at h;split at h
 .rename_i s n;obtain⟨h1,h2,rfl⟩:=fn2 h;exact(by rcases h2 with rfl|rfl;exact ZSC 43 WS s h1;exact ZSC 44 WS s h1)
 .cases h
theorem ZSV(a:UInt8)(ha:a≠92)(s:Tx)(hl:s.length<=1000000):ZK Tryz.prog 137 [.x (.str s),.x (.int .u8 a.toNat)] (.x (.sl (rows ZC (Yf a s)))):=by
 refine ZH.pure (fC 137 true ?_) rfl;intro C0 E0;have uu:=trivial;have tT:=(ZB:SsOk Tryz.prog YH);refine VO ?_;refine rg [0,1,5,6] ?_;refine rg [0,1,5,6,7] ?_;refine WI.ownA 5 9 1 ?_;refine WI.loop (λφ os=> ∃(f j:Nat) (ps:List Tx),φ= [(0,.x (.str s)),(1,.x (.int .u8 a.toNat)),(5,.ref 0 ps.length 0 ps.length),(6,.x (.int .i64 f)),(7,.x (.int .i64 j))]/\os= [.rows false 9 1 (rows ZC ps)]/\SpI a s f j ps) (ZJ (s.length+1) 7) ?_ (λφ os hI=> ?_)
 .exact⟨0,0,[],rfl,rfl,SpI.start a s⟩
 .obtain⟨f,j,ps,rfl,rfl,I⟩:=hI;have i1:=I.fj;have i2:=I.jl;have i3:=I.fl;have i4:=I.pl;refine rg [0,1,5,6,7,11] ?_;refine cd (λh0=> ?_) (λh0=> ?_)
  .have hj4:j<s.length:=Wl
   refine rg [0,1,5,6,7,17] ?_;refine cd (λh1=> ?_) (λh1=> ?_)
   .have hc:s.getD j 0=92:=ZRx Tg;refine rg [0,1,5,6,7] ?_;refine Ui ?_
    exact Wq
   .have hc1:s.getD j 0≠92:=neD (k:=92) WS Tg;refine rg [0,1,5,6,7,24] ?_;refine cd (λh2=> ?_) (λh2=> ?_)
    .have hc:s.getD j 0=a:=cD Gl;refine rgp [0,1,5,7] ?_;refine Jm [0] ?_;refine KR ?_;refine rg [0,1,5,6,7] ?_;refine Ui ?_
     exact Wq
    .have hc2:s.getD j 0≠a:=nD Gl;refine Ui ?_
     exact Wq
  .refine Wj ?_;rw[ZBH,I.fin J0,YO NX]
def ZOR:J8->J5
 | [.x (.str s),.x (.int .u8 n)]=>some (decide (s.length<=1000000)&&(decide (n=43\/n=44)),.x (.sl (rows ZC (Yf (UInt8.ofNat n.toNat) s))))
 |_=>none
theorem ZXE:QK Tryz.prog ZOR 137:=by
 intro args r h;unfold ZOR at h;split at h
 .rename_i s n;obtain⟨h1,h2,rfl⟩:=fn2 h;exact(by rcases h2 with rfl|rfl;exact ZSV 43 WS s h1;exact ZSV 44 WS s h1)
 .cases h
def ZO4(n:Nat):Bool:=decide (97<=n/\n<=122)||decide (65<=n/\n<=90)
def ZO2(n:Nat):Bool:=decide (48<=n/\n<=57)||decide (n=45)
def tyC(i:Nat)(c:UInt8):Bool:=ZO4 c.toNat||(decide (0<i)&&ZO2 c.toNat)
def tyU(s:List UInt8):Nat->Bool
 |0=>true
 |j+1=>tyU s j&&tyC j (s.getD j 0)
def tyA(s:List UInt8)(j:Nat):Bool:=(decide (s≠ [])&&decide (s.length<=64))&&tyU s j
def Jj(s:List UInt8):Bool:=tyA s s.length
theorem ZOo(s:List UInt8):Jj s=(decide (1<=s.length/\s.length<=64)&&tyU s s.length):=by
 unfold Jj tyA;congr 1;rcases s with _|⟨c,s⟩<;>simp
theorem ZYj(s:List UInt8): ∀(n j:Nat),j<n->tyC j (s.getD j 0)=false->tyU s n=false
 |n+1,j,hj,h=>by
  rw[tyU];by_cases e:j=n
  .subst e;rw[h,ZE0]
  .rw[ZYj s n j J0 h,ZFA]
theorem ZfZ(j:Nat)(c:UInt8):(((decide ((Qd c).toNat>=97)&&decide ((Qd c).toNat<=122))||(decide (j>0)&&((decide ((Qd c).toNat>=48)&&decide ((Qd c).toNat<=57))||decide ((Qd c).toNat=45)))))=tyC j c:=by
 have h8:=ZDo c;unfold tyC ZO4 ZO2;by_cases h:65<=c.toNat/\c.toNat<=90
 .have e:(Qd c).toNat=c.toNat+32:=by have:=ZII h;omega
  rw[e,Qg];simp only[ZBW,Zk,Ym];omega
 .have e:Qd c=c:=if_neg h;rw[e,Qg];simp only[ZBW,Zk,Ym];omega
theorem ZUc(s:List UInt8):(!s== []&&decide ((s.length:Int)<=64))=tyA s 0:=by
 unfold tyA;rw[tyU,Qh,Qg];simp;omega
theorem ZUo(s:List UInt8)(j:Nat):(tyA s j&&(decide (((Qd (s.getD j 0)).toNat:Int)>=97)&&decide (((Qd (s.getD j 0)).toNat:Int)<=122)||decide ((j:Int)>0)&&(decide (((Qd (s.getD j 0)).toNat:Int)>=48)&&decide (((Qd (s.getD j 0)).toNat:Int)<=57)||((Qd (s.getD j 0)).toNat:Int)==45)))=tyA s (j+1):=by
 have h:=ZfZ j (s.getD j 0);unfold tyA;rw[tyU,<-h,<-ZKc];congr 1;rw[Qg];simp only[ZBW,Zk,Ym,beq_iff_eq];omega
theorem ZUd(s:List UInt8)(i:Nat)(h:i<s.length):((ZE s).map Zs)[i]? =some [X.int .u8 (Qd (s.getD i 0)).toNat]:=by
 simp[ZE,h,Zs]
theorem ZaN(j:Nat)(c:UInt8):tyC j c=((decide (((c.toNat:Int))>=97)&&decide ((c.toNat:Int)<=122)||decide ((c.toNat:Int)>=65)&&decide ((c.toNat:Int)<=90))||(decide ((j:Int)≠0)&&(decide ((c.toNat:Int)>=48)&&decide ((c.toNat:Int)<=57)||decide ((c.toNat:Int)=45)))):=by
 unfold tyC ZO4 ZO2;rw[Qg];simp only[ZBW,Zk,Ym];omega
theorem ZeD(s:List UInt8)(hl:s.length<=1000000):ZK Tryz.prog 170 [.x (.str s)] (.x (.bool (Jj s))):=by
 refine ZH.pure (fC 170 true ?_) rfl;intro C0 E0;have uu:=trivial;have tT:=(ZB:SsOk Tryz.prog YH);refine VD ?_;refine WI.loop (λφ os=> ∃(j:Nat),φ= [(0,.x (.str s)),(3,.x (.int .i64 j))]/\os= []/\j<=s.length/\tyU s j=true) (ZJ s.length 3) ?_ (λφ os hI=> ?_)
 .exact W8
 .obtain⟨j,rfl,rfl,hj,hu⟩:=hI;refine rg [0,3,9] ?_;refine cd (λh0=> ?_) (λh0=> ?_)
  .refine rg [0,3,4] ?_;refine rg [0,3,4,5] ?_;refine rg [0,3,47] ?_;refine cd (λh1=> ?_) (λh1=> ?_)
   .have hc:tyC j (s.getD j 0)=false:=by rw[ZaN];grind
    refine Wy ?_;rw[ZOo,ZYj s s.length j J0 hc,ZE0]
   .have hc:tyC j (s.getD j 0)=true:=by rw[ZaN];grind
    refine rg [0,3] ?_;exact⟨⟨j+1,rfl,rfl,J0,by rw[tyU,hu,hc];rfl⟩,Wa⟩
  .refine Wy ?_;rw[ZOo,show s.length=j by omega,hu,Qh];congr 2;rw[Qg];simp;omega
def ZNe:J8->J5
 | [.x (.str s)]=>some (decide (s.length<=1000000),.x (.bool (Jj s)))
 |_=>none
theorem ZQc:QK Tryz.prog ZNe 170:=by
 intro args r h;unfold ZNe at h;split at h
 .obtain⟨h1,rfl⟩:=Yu h;exact(ZeD _ h1)
 .cases h
theorem Zac(s:List UInt8)(hl:s.length<=1000000):ZK Tryz.prog 205 [.x (.str s)] (.x (.bool (Jj s))):=by
 refine ZH.pure (fC 205 true ?_) rfl;intro C0 E0;have uu:=Qt @ZJz.eq_1 @ZEy @JM @QR;have tT:=aQ ZB ZKN;refine VD ?_;refine rg [3,16,17,18] ?_;refine WI.loop (λφ os=> ∃(j:Nat),φ= [(3,.x (.bool (tyA s j))),(16,.ref 0 s.length 0 s.length),(17,.x (.int .i64 s.length)),(18,.x (.int .i64 j))]/\os= [.rows true 5 1 ((ZE s).map Zs)]/\j<=s.length) (ZJ s.length 18) ?_ (λφ os hI=> ?_)
 .exact⟨0,by rw[<-ZUc];rfl,rfl,J0⟩
 .obtain⟨j,rfl,rfl,hj⟩:=hI;refine rg [3,16,17,18,19] ?_;refine cd (λh0=> ?_) (λh0=> ?_)
  .have hj4:j<s.length:=Wl
   exact Ug
  .refine Wy ?_;rw[show Jj s=tyA s j from by rw[show j=s.length by omega];rfl]
def ZIP:J8->J5
 | [.x (.str s)]=>some (decide (s.length<=1000000),.x (.bool (Jj s)))
 |_=>none
theorem ZJS:QK Tryz.prog ZIP 205:=by
 intro args r h;unfold ZIP at h;split at h
 .obtain⟨h1,rfl⟩:=Yu h;exact(Zac _ h1)
 .cases h
theorem Zbw(s:List UInt8)(hl:s.length<=1000000):ZK Tryz.prog 148 [.x (.str s)] (.x (.bool (Jj s))):=by
 refine ZH.pure (fC 148 true ?_) rfl;intro C0 E0;have uu:=Qt @ZJz.eq_1 @ZEy @JM @QR;have tT:=aQ ZB ZKN;refine VD ?_;refine rg [3,16,17,18] ?_;refine WI.loop (λφ os=> ∃(j:Nat),φ= [(3,.x (.bool (tyA s j))),(16,.ref 0 s.length 0 s.length),(17,.x (.int .i64 s.length)),(18,.x (.int .i64 j))]/\os= [.rows true 5 1 ((ZE s).map Zs)]/\j<=s.length) (ZJ s.length 18) ?_ (λφ os hI=> ?_)
 .exact⟨0,by rw[<-ZUc];rfl,rfl,J0⟩
 .obtain⟨j,rfl,rfl,hj⟩:=hI;refine rg [3,16,17,18,19] ?_;refine cd (λh0=> ?_) (λh0=> ?_)
  .have hj4:j<s.length:=Wl
   exact Ug
  .refine Wy ?_;rw[show Jj s=tyA s j from by rw[show j=s.length by omega];rfl]
def ZLN:J8->J5
 | [.x (.str s)]=>some (decide (s.length<=1000000),.x (.bool (Jj s)))
 |_=>none
theorem ZNf:QK Tryz.prog ZLN 148:=by
 intro args r h;unfold ZLN at h;split at h
 .obtain⟨h1,rfl⟩:=Yu h;exact(Zbw _ h1)
 .cases h
end Go.Proofs.YtiogclkbccdefaaGreatDoor
end
section
namespace Go.Proofs
open Go.Shelf Go.RowKit Go.Lib
variable {P:Program} {ρ:Ren}
set_option maxHeartbeats 2000000 in
set_option maxRecDepth 100000 in
theorem Any1.stringslite_Cut_one(L:Lays.n220 P ρ)(s:ByteArray)(b:UInt8)(w:World)(hs:s.size<4294967281):
  Calls P (ρ.f 220) #[.string s,.string ⟨#[b]⟩] w λe w'=>e= .returned (.tuple #[.string ⟨(Lib.cut s.data.toList [b]).1.toArray⟩,.string ⟨(Lib.cut s.data.toList [b]).2.1.toArray⟩,.bool (Lib.cut s.data.toList [b]).2.2])/\ ∃n,w'=w.drewN n:=by
 rcases Lib.indexB_cases s ⟨#[b]⟩with hix|⟨i,hix,hroom⟩
 .obtain⟨e1,e2,e3⟩:=Lib.cutB_miss s ⟨#[b]⟩ hix;rw[show [b]=(⟨#[b]⟩:ByteArray).data.toList from rfl,e1,e2,e3];have t3:=L.t3;have t4:=L.t4;have t9:=L.t9;have a3: ∀w,(isAgg (ρ.t 3)).run P w= .ok false w:=run_isAgg_plain L.t3 rfl;have a4: ∀w,(isAgg (ρ.t 4)).run P w= .ok false w:=run_isAgg_plain L.t4 rfl;have a9: ∀w,(isAgg (ρ.t 9)).run P w= .ok false w:=run_isAgg_plain L.t9 rfl;have e219: ∀args w,(callFunc (ρ.f 219) args).run P w= .ok (.enter (ρ.f 219) args) w:=enters_of L.f219 J3 rfl;have mixed:=L.mixed;have z3:=L.z3;have v3:=L.v3;have z4:=L.z4;have v4:=L.v4;have z9:=L.z9;have v9:=L.v9
  go_enter L.f220,Body.n220_ntmps ρ
  go_wp2_with (go_at_fn (ρ.f 219);refine(Any.stringslite_Index_one {L with} _ _ _).mono ?_;rintro e w' ⟨rfl,rfl⟩;rw[<-Lib.index_one,show Lib.index s.data.toList [b]=_ from hix])
  go_ret3
  exact⟨rfl,0,rfl⟩
 .obtain⟨e1,e2,e3⟩:=Lib.cutB_hit s ⟨#[b]⟩ i hix;rw[show [b]=(⟨#[b]⟩:ByteArray).data.toList from rfl,e1,e2,e3];have hb1:(⟨#[b]⟩:ByteArray).size=1:=rfl;have c1:(0:Int)<= ↑i:=Wl
  have c2:(↑i:Int)<= ↑s.size:=Wl
  have c3:(0:Int)<= ↑i+1:=Wl
  have c4:(↑i+1:Int)<= ↑s.size:=Wl
  have t3:=L.t3;have t4:=L.t4;have t9:=L.t9;have a3: ∀w,(isAgg (ρ.t 3)).run P w= .ok false w:=run_isAgg_plain L.t3 rfl;have a4: ∀w,(isAgg (ρ.t 4)).run P w= .ok false w:=run_isAgg_plain L.t4 rfl;have a9: ∀w,(isAgg (ρ.t 9)).run P w= .ok false w:=run_isAgg_plain L.t9 rfl;have e219: ∀args w,(callFunc (ρ.f 219) args).run P w= .ok (.enter (ρ.f 219) args) w:=enters_of L.f219 J3 rfl;have mixed:=L.mixed;have z3:=L.z3;have v3:=L.v3;have z4:=L.z4;have v4:=L.v4;have z9:=L.z9;have v9:=L.v9
  go_enter L.f220,Body.n220_ntmps ρ
  go_wp2_with (go_at_fn (ρ.f 219);refine(Any.stringslite_Index_one {L with} _ _ _).mono ?_;rintro e w' ⟨rfl,rfl⟩;rw[<-Lib.index_one,show Lib.index s.data.toList [b]=_ from hix])
  go_region_o
  go_wp2
  go_ret3
  exact⟨rfl,1,rfl⟩
set_option maxHeartbeats 1000000 in
theorem Any1.strings_Cut_one(L:Lays.n145 P ρ)(s:ByteArray)(b:UInt8)(w:World)(hs:s.size<4294967281):
  Calls P (ρ.f 145) #[.string s,.string ⟨#[b]⟩] w λe w'=>e= .returned (.tuple #[.string ⟨(Lib.cut s.data.toList [b]).1.toArray⟩,.string ⟨(Lib.cut s.data.toList [b]).2.1.toArray⟩,.bool (Lib.cut s.data.toList [b]).2.2])/\ ∃n,w'=w.drewN n:=by
 have t4:=L.t4;have t9:=L.t9;have t59:=L.t59;have a4: ∀w,(isAgg (ρ.t 4)).run P w= .ok false w:=run_isAgg_plain L.t4 rfl;have a9: ∀w,(isAgg (ρ.t 9)).run P w= .ok false w:=run_isAgg_plain L.t9 rfl;have a59: ∀w,(isAgg (ρ.t 59)).run P w= .ok false w:=run_isAgg_plain L.t59 rfl;have e220: ∀args w,(callFunc (ρ.f 220) args).run P w= .ok (.enter (ρ.f 220) args) w:=enters_of L.f220 J3 rfl;have mixed:=L.mixed;have z4:=L.z4;have v4:=L.v4;have z9:=L.z9;have v9:=L.v9;have z59:=L.z59;have v59:=L.v59
 go_enter L.f145,Body.n145_ntmps ρ
 go_wp2_with (go_at_fn (ρ.f 220);refine(Any1.stringslite_Cut_one {L with} _ _ _ hs).mono ?_;rintro e w' ⟨rfl,n,rfl⟩)
 go_ret3
 exact⟨rfl,n,rfl⟩
end Go.Proofs
namespace Go.Proofs.YtiogclkbccdefaaGreatDoor
open Go.RowKit Go.Bo Go.Ab
def Kp(c:UInt8):List UInt8->List UInt8×List UInt8×Bool
 | []=>([],[],false)
 |b::l=>if b=c then([],l,true)else(b::(Kp c l).1,(Kp c l).2.1,(Kp c l).2.2)
theorem ZVW(c:UInt8): ∀s,Lib.cut s [c]=Kp c s
 | []=>by simp[Lib.cut,Kp,Lib.index]
 |b::l=>by
  have ih:=ZVW c l;unfold Lib.cut at ih|-;by_cases h:b=c
  .subst h;have hp: [b].isPrefixOf (b::l)=true:=by simp[List.isPrefixOf]
   simp[Lib.index,hp,Kp]
  .have hp: [c].isPrefixOf (b::l)=false:=by simp[List.isPrefixOf];exactλe=>h e.symm
   rw[Kp,if_neg h,<-ih];have hn:=Lib.index_ge l [c];by_cases hi:Lib.index l [c]= -1
   .simp[Lib.index,hp,hi]
   .obtain⟨n,hn⟩: ∃n:Nat,Lib.index l [c]=n:=⟨(Lib.index l [c]).toNat,J0⟩;simp only[Lib.index,hp,hn,JB,ξN];simp;omega
theorem Zip(s:List UInt8)(c:UInt8)(hl:s.length<=1000000):ZK Tryz.prog 203 [.x (.str s),.x (.str [c])] (.tup [.x (.str (Kp c s).1),.x (.str (Kp c s).2.1),.x (.bool (Kp c s).2.2)]):=by
 intro w st vs hst hvl;obtain⟨hsz,hv⟩:=hvl;obtain⟨v0,v1,rfl⟩: ∃v0 v1,vs= #[v0,v1]:=by
  obtain⟨vl⟩:=vs
  match vl,hsz with
  | [a,b],_=>exact⟨a,b,rfl⟩
 have h0:=hv 0 _ v0 rfl rfl;have h1:=hv 1 _ v1 rfl rfl;cases h0 with
 |x h0=>
 cases h1 with
 |x h1=>
 cases h1 with
 |str _=>
 cases h0 with
 |str _=>
 have hbs:(ZT s).size=s.length:=by simp[ZT,ByteArray.size]
 refine(Any1.strings_Cut_one Tryz.lays145 (ZT s) c w J0).mono ?_;rintro e w' ⟨rfl,n,rfl⟩;refine⟨_,st,rfl,⟨rfl,rfl,rfl,by simp[World.drewN],λ_ _ _=>rfl⟩,λ_ _ h=>h,λ_ _ h=> .inl h,?_⟩;have e1:(ZT s).data.toList=s:=by simp[ZT]
 rw[e1,ZVW];exact V.tup3 (V.mkstr _ _ _) (V.mkstr _ _ _) (.x (.bool _))
theorem ZWK:Go.Ab.Enters Tryz.prog 203:=Go.Proofs.enters_of Tryz.lays145.f145 J3 rfl
def cutG:J8->J5
 | [.x (.str s),.x (.str [c])]=>some (decide (s.length<=1000000),.tup [.x (.str (Kp c s).1),.x (.str (Kp c s).2.1),.x (.bool (Kp c s).2.2)])
 |_=>none
theorem Zey:QK Tryz.prog cutG 203:=by
 intro args r h;unfold cutG at h;split at h
 .obtain⟨h1,rfl⟩:=Yu h;exact(Zip _ _ h1)
 .cases h
abbrev Av:=Tx×Tx
def Zt:RC Av:=⟨2,λp=> [.str p.1,.str p.2],λ
 | [.str a,.str b]=>some (a,b)
 |_=>none⟩
theorem ZEE:Zt.Good:=⟨λ_=>rfl,λ_=>rfl,λr x h=>by
 simp only[Zt]at h;split at h
 .cases h;rfl
 .cases h⟩
abbrev Jg:RC (List Av):=rSl Zt
theorem ZEA:Jg.Good:=ZCG ZEE
theorem ZOg(l:List Av):ZM Zt (rows Zt l)=some l:=ZX ZEE l
theorem ZJ3(l:List (List Av)):ZM Jg (rows Jg l)=some l:=ZX ZEA l
theorem ZJV(l:List Av)(a b:Tx):rows Zt l++ [[X.str a,X.str b]]=rows Zt (l++ [(a,b)]):=by simp[rows,Zt]
theorem ZIp(l:List (List Av))(x:List Av):rows Jg l++ [[X.sl (rows Zt x)]]=rows Jg (l++ [x]):=by simp[rows,Jg,rSl]
def JR(s:Tx):Av×Bool:=
 if(Kp 61 s).2.2=false\/Jj (ZEa (Kp 61 s).1)=false then(([],[]),false)
 else((ZEa (Kp 61 s).1,(ZFw (Kp 61 s).2.1).1),(ZFw (Kp 61 s).2.1).2)
theorem ZJ1(c:UInt8): ∀s,(Kp c s).1.length<=s.length/\(Kp c s).2.1.length<=s.length
 | []=>by simp[Kp]
 |b::l=>by
  obtain⟨h1,h2⟩:=ZJ1 c l;unfold Kp;split
  .simp
  .simp;omega
theorem ZMN(s:Tx):(ZEa s).length<=s.length:=ZEQ (ZO6 _) (ZUk _)
theorem Zeb(s:Tx)(hl:s.length<=900000):ZK Tryz.prog 183 [.x (.str s)] (.tup [.agg [.x (.str (JR s).1.1),.x (.str (JR s).1.2)],.x (.bool (JR s).2)]):=by
 have h1:=ZJ1 61 s;have h2:=ZMN (Kp 61 s).1;rcases hq:JR s with⟨⟨a,v⟩,ok⟩
 unfold JR at hq;refine ZH.pure (fC 183 true ?_) rfl;intro C0 E0;have uu:=ξ5 @cutG.eq_1 @cutG.eq_2 @ZWi.eq_1 @ZIP.eq_1 @ZXN.eq_1;have tT:=aQ (aQ (aQ (aQ ZB Zey ZWK) Zan) ZJS) ZcG;refine rg [0,2] ?_;refine rg [2,4,5,6] ?_;refine rg [2,4,5,6] ?_;refine rg [2,4,5,22] ?_;refine cd (λh0=> ?_) (λh0=> ?_)
 .refine Vx ?_;rw[if_pos Wv]at hq;exact NK
 .refine rg [2,4,6,7] ?_;refine Vx ?_;rw[if_neg Wv]at hq;exact NK
def ZNS:J8->J5
 | [.x (.str s)]=>some (decide (s.length<=900000),.tup [.agg [.x (.str (JR s).1.1),.x (.str (JR s).1.2)],.x (.bool (JR s).2)])
 |_=>none
theorem ZPj:QK Tryz.prog ZNS 183:=by
 intro args r h;unfold ZNS at h;split at h
 .obtain⟨h1,rfl⟩:=Yu h;exact(Zeb _ h1)
 .cases h
theorem ZcC(s:Tx):ZFw s=((ZHk s).1,(ZHk s).2&& !((ZHk s).1== [])):=by
 have key: ∀(n:Nat) (r b:Tx) (e:Nat) (x:Tx×Nat),e<=b.length->Jp n r b e=some x->x.2<=x.1.length:=by
  intro n
  induction n with
  |zero=>intro r b e x _ h;cases h
  |succ n ih=>
   intro r b e x he h;rcases r with _|⟨c,r⟩
   .rw[Jp]at h;cases h;exact he
   .rw[Jp]at h;split at h
    .split at h
     .exact ih _ _ _ _ J1 h
     .cases h
    .split at h
     .cases h
     .split at h
      .exact ih _ _ _ _ W3 h
      .exact ih _ _ _ _ J1 h
 unfold ZFw ZHk;split
 .rfl
 .rename_i b e h;have hk:=key _ _ _ _ _ J1 h;simp only at hk;rw[ZA0];congr 1;rcases b with _|⟨c,b⟩
  .simp at hk;simp;omega
  .rcases e with _|e
   .simp
   .simp
def eqI:Tx->Nat
 | []=>0
 |c::s=>if c=61 then 0 else eqI s+1
theorem ZUg: ∀s:Tx,(eqI s=s.length->Kp 61 s=(s,[],false))/\(eqI s≠s.length->Kp 61 s=(s.take (eqI s),s.drop (eqI s+1),true))
 | []=>⟨λ_=>rfl,λh=>absurd rfl h⟩
 |c::s=>by
  obtain⟨h1,h2⟩:=ZUg s;unfold eqI Kp;by_cases h:c=61
  .rw[if_pos h,if_pos h];simp
  .rw[if_neg h,if_neg h];refine⟨λe=> ?_,λe=> ?_⟩
   .rw[h1 (by simpa using e)]
   .rw[h2 (by simpa using e)];simp
theorem ZbE(s:Tx)(j:Nat)(h:j<s.length)(hc:s.getD j 0≠61):j+eqI (s.drop j)=j+1+eqI (s.drop (j+1)):=by
 rw[QQ s j h]
 conv=>lhs;unfold eqI
 rw[if_neg hc];omega
theorem Zah(s:Tx)(j:Nat)(h:j<s.length)(hc:s.getD j 0=61):eqI (s.drop j)=0:=by
 rw[QQ s j h,hc];rfl
theorem Zf0(s:Tx)(hl:s.length<=900000):ZK Tryz.prog 138 [.x (.str s)] (.tup [.agg [.x (.str (JR s).1.1),.x (.str (JR s).1.2)],.x (.bool (JR s).2)]):=by
 have hcut:=ZUg s;rcases hq:JR s with⟨⟨a,v⟩,ok⟩
 unfold JR at hq;rw[ZcC]at hq;refine ZH.pure (fC 138 true ?_) rfl;intro C0 E0;have uu:=JJ @ZTY.eq_1 @ZNe.eq_1 @ZWv.eq_1;have tT:=aQ (aQ (aQ ZB ZXz) ZQc) Zcp;refine rg [0,2] ?_;refine rg [0,2,4] ?_;refine WI.loop (λφ os=> ∃(j:Nat),φ= [(0,.x (.str s)),(2,.ptr 0 0),(4,.x (.int .i64 j))]/\os= [.box [.x (.str []),.x (.str [])]]/\j<=s.length/\eqI s=j+eqI (s.drop j)) (ZJ s.length 4) ?_ (λφ os hI=> ?_)
 .exact UJ
 .obtain⟨j,rfl,rfl,hj,hat⟩:=hI;refine rg [0,2,4,16] ?_;refine cd (λh0=> ?_) (λh0=> ?_)
  .have hj4:j<s.length:=Wv
   have hst:=ZbE s j hj4 (neD (k:=61) WS Wv);refine rg [0,2,4] ?_;exact⟨⟨j+1,rfl,rfl,J0,by rw[hat,hst]⟩,Wa⟩
  .have hej:eqI s=j:=by
    by_cases hj4:j<s.length
    .rw[hat,Zah s j hj4 (cD (a:=61) (by clear uu;show((s.getD j 0).toNat:Int)=61;grind))];rfl
    .rw[hat,ZBB J0];rfl
   clear hat;rw[hej]at hcut;have e1:((j:Int)+1).toNat=j+1:=Wl
   have hl1:decide ((s.take j).length<=1000000)=true:=ZI (by rw[Ys];omega);have htl:=ZMN (s.take j);have hl2:decide ((ZEa (s.take j)).length<=1000000)=true:=ZI (by rw[Ys]at htl;omega);have hl3:decide ((s.drop (j+1)).length<=900000)=true:=ZI T4;have uu:=ξ5 uu e1 hl1 hl2 hl3;refine rg [0,2,4,30] ?_;refine cd (λh1=> ?_) (λh1=> ?_)
   .refine Vx ?_;have h3:(Kp 61 s).2.2=false\/Jj (ZEa (Kp 61 s).1)=false:=by
     by_cases hz:j=s.length
     .rw[hcut.1 hz];exact .inl rfl
     .rw[hcut.2 hz];right;exact GW
    rw[if_pos h3]at hq;exact NK
   .refine rg [0,2,4,5,6] ?_;refine Vx ?_;have hz:j≠s.length:=Wv
    rw[hcut.2 hz]at hq;rw[if_neg Wv]at hq;exact NK
def ZRX:J8->J5
 | [.x (.str s)]=>some (decide (s.length<=900000),.tup [.agg [.x (.str (JR s).1.1),.x (.str (JR s).1.2)],.x (.bool (JR s).2)])
 |_=>none
theorem ZY8:QK Tryz.prog ZRX 138:=by
 intro args r h;unfold ZRX at h;split at h
 .obtain⟨h1,rfl⟩:=Yu h;exact(Zf0 _ h1)
 .cases h
theorem ZVm(p:Tx)(l:List Tx)(n:Nat)(h: ∀x∈l,x.length+p.length<=n)(hp:p.length<=n): ∀x∈pre p l,x.length<=n:=by
 rcases l with _|⟨y,l⟩
 .intro x hx;simp[pre]at hx;subst hx;exact hp
 .intro x hx;simp only[pre,Kn]at hx;rcases hx with rfl|hx
  .have:=h y J1;simp;omega
  .have:=h x (by simp[hx]);omega
theorem ZVF(p:Tx)(l:List Tx)(n:Nat)(h:l.length<=n)(h1:1<=n):(pre p l).length<=n:=by
 rcases l with _|⟨y,l⟩
 .exact h1
 .exact h
theorem Zil{a c:UInt8}{r:Tx}(h1:c≠92)(h2:c=a):Yf a (c::r)= []::Yf a r:=by
 conv=>lhs;unfold Yf
 rw[if_neg h1,if_pos h2]
theorem ZiJ{a c:UInt8}{r:Tx}(h1:c≠92)(h2:c≠a):Yf a (c::r)=pre [c] (Yf a r):=by
 conv=>lhs;unfold Yf
 rw[if_neg h1,if_neg h2]
theorem ZBi(a:UInt8): ∀(n:Nat) (s:Tx),s.length<=n->(∀x∈Yf a s,x.length<=s.length)/\(Yf a s).length<=s.length+1
 |_,[],_=>by simp[Yf]
 |n+1,c::r,hn=>by
  have hn':r.length<=n:=by simpa using hn
  by_cases h1:c=92
  .rcases r with _|⟨d,r⟩
   .subst h1;simp[Yf]
   .obtain⟨h2,h3⟩:=ZBi a n r (by simp at hn';omega);have e:Yf a (c::d::r)=pre [c,d] (Yf a r):=by subst h1;rfl
    exact N6
  .obtain⟨h2,h3⟩:=ZBi a n r hn';by_cases h4:c=a
   .have e:Yf a (c::r)= []::Yf a r:=Zil h1 h4;rw[e];refine⟨λx hx=> ?_,W3⟩;rcases Kn.1 hx with rfl|hx
    .simp
    .have:=h2 x hx;simp;omega
   .have e:Yf a (c::r)=pre [c] (Yf a r):=ZiJ h1 h4;exact N6
def ZFX(s:Tx):List (Av×Bool):=(Yf 43 s).map JR
def Zr(s:Tx):List Av×Bool:=if(ZFX s).all (·.2)=true then((ZFX s).map (·.1),true)else([],false)
theorem Zj{α:Type}(p:α->Bool)(l:List α)(j:Nat)(h:j<l.length)(hp:p l[j]=false):l.all p=false:=by
 exact NF
theorem Yq{α:Type}(p:α->Bool)(l:List α)(j:Nat)(h:j<l.length):(l.take (j+1)).all p=((l.take j).all p&&p l[j]):=by
 rw[JU h,ZJF];simp
theorem ZeZ(s:Tx)(hl:s.length<=900000):ZK Tryz.prog 160 [.x (.str s)] (.tup [.x (.sl (rows Zt (Zr s).1)),.x (.bool (Zr s).2)]):=by
 obtain⟨hb1,hb2⟩:=ZBi 43 _ s (Zp _);rcases hq:Zr s with⟨d,ok⟩
 unfold Zr ZFX at hq;have hsp:Yf (UInt8.ofNat (43:Int).toNat) s=Yf 43 s:=rfl;refine ZH.pure (fC 160 true ?_) rfl;intro C0 E0;have uu:=JJ @ZGT.eq_1 @ZNS.eq_1 hsp;have tT:=aQ (aQ ZB ZGQ) ZPj;refine rg [0] ?_;refine rg [0,4] ?_;refine rg [4,10,11,12] ?_;refine WI.ownA 4 188 2 ?_;generalize Yf 43 s=l at hq hb1 hb2|-;refine WI.loop (λφ os=> ∃(j:Nat),φ= [(4,.ref 0 j 0 j),(10,.x (.sl (rows ZC l))),(11,.x (.int .i64 l.length)),(12,.x (.int .i64 j))]/\os= [.rows false 188 2 (rows Zt ((l.take j).map λx=>(JR x).1))]/\j<=l.length/\(l.take j).all (λx=>(JR x).2)=true) (ZJ l.length 12) ?_ (λφ os hI=> ?_)
 .exact W8
 .obtain⟨j,rfl,rfl,hj,hall⟩:=hI;refine rg [4,10,11,12,13] ?_;refine cd (λh0=> ?_) (λh0=> ?_)
  .have hj4:j<l.length:=Wl
   have hbj:=hb1 _ (YG hj4);have hsc:decide (l[j].length<=900000)=true:=ZI J0;have uu:=Zz uu hsc;refine rg [4,6,10,11,12] ?_;refine rg [4,7,8,10,11,12] ?_;refine rg [4,7,10,11,12,22] ?_;refine cd (λh1=> ?_) (λh1=> ?_)
   .have hf:(l.map JR).all (·.2)=false:=by rw[ZF1];exact Zj _ l j hj4 WC
    exact TT
   .refine rgp [4,10,11,12] ?_;refine Vr ?_;refine WI.orderA [4,10,11,12] ?_;refine rg [4,10,11,12] ?_;exact⟨⟨j+1,rfl,by rw[JU hj4,Jd,ZL3,<-ZJV],J0,by rw[Yq _ l j hj4,hall];simpa using h1⟩,Wa⟩
  .have e1:(rows Zt ((l.take j).map λx=>(JR x).1)).length=j:=by simp[rows];omega
   have e2:(l.take j).length=j:=W3
   have uu:=JJ uu e1 e2;refine W5 ?_;have hf:(l.map JR).all (·.2)=true:=by rw[ZF1];rw[YO J0]at hall;exact hall
   rw[if_pos hf]at hq;cases hq;rw[YO (l:=l) J0,YO (by simp[rows];omega),Jz];rfl
def ZR0:J8->J5
 | [.x (.str s)]=>some (decide (s.length<=900000),.tup [.x (.sl (rows Zt (Zr s).1)),.x (.bool (Zr s).2)])
 |_=>none
theorem ZZJ:QK Tryz.prog ZR0 160:=by
 intro args r h;unfold ZR0 at h;split at h
 .obtain⟨h1,rfl⟩:=Yu h;exact(ZeZ _ h1)
 .cases h
def Qs(r:List Av):List Tx:=r.map λp=>ZE p.1
def ZAh(r:List Av)(j:Nat):Bool:=Jj (r.getD j ([],[])).1&&(!((r.getD j ([],[])).2== [])&&(decide ((r.getD j ([],[])).2.length<=256)&& !decide (ZE (r.getD j ([],[])).1∈Qs (r.take j))))
def okP(r:List Av):Nat->Bool
 |0=>true
 |j+1=>okP r j&&ZAh r j
def JA(r:List Av):Bool:=okP r r.length&&decide (1<=r.length/\r.length<=8)
theorem ZGm(r:List Av): ∀(n j:Nat),j<n->ZAh r j=false->okP r n=false
 |n+1,j,hj,h=>by
  rw[okP];by_cases e:j=n
  .subst e;rw[h,ZE0]
  .rw[ZGm r n j J0 h,ZFA]
def ZCk(r:List Av)(j:Nat):List (Tx×Int):=(r.take j).map λp=>(ZE p.1,(1:Int))
theorem ZOd: ∀(l:List Av) (k:Tx),ZF (l.map λp=>(ZE p.1,(1:Int))) k=if k∈Qs l then some 1 else none
 | [],k=>by simp[Qs,ZF]
 |p::l,k=>by
  have ih:=ZOd l k;by_cases h:k=ZE p.1
  .simp[ZF,h,Qs]
  .have e:(k∈Qs (p::l))=(k∈Qs l):=by simp[Qs,h]
   have e2:ZF ((p::l).map λp=>(ZE p.1,(1:Int))) k=ZF (l.map λp=>(ZE p.1,(1:Int))) k:=by simp[ZF,h]
   rw[e2,ih];simp only[e]
theorem ZR6(r:List Av)(j:Nat)(h:j<r.length)(hn:ZE (r.getD j ([],[])).1∉Qs (r.take j)):Zu (ZCk r j) (ZE (r.getD j ([],[])).1) 1=ZCk r (j+1):=by
 unfold ZCk;rw[ZBR (by rw[ZOd,if_neg hn]),JU h,Jd];simp[h]
theorem ZTa(r:List Av)(j:Nat)(k:Tx):Ju (Yv Km kcI (ZCk r j)) [X.str k]=if k∈Qs (r.take j)then some [D.x (X.int .i64 1)]else none:=by
 rw[ZE5 Km kcI hkS (ZCk r j) k];unfold ZCk;rw[ZOd];split<;>rfl
theorem ZCU(r:List Av)(j:Nat)(h:j<r.length):(rows Zt r)[j]? =some [X.str (r.getD j ([],[])).1,X.str (r.getD j ([],[])).2]:=by
 simp[rows,h,Zt]
def ZGX:J8->J5
 | [.x (.str s)]=>some (decide (s.length<=1000000),.x (.str (ZE s)))
 |_=>none
theorem ZGL:QK Tryz.prog ZGX 63:=by
 intro args r h;unfold ZGX at h;split at h
 .rename_i s;obtain⟨h1,rfl⟩:=Yu h;exact(ZOe s J0)
 .cases h
theorem Zii(r:List Av)(hb: ∀p∈r,p.1.length<=900000):ZK Tryz.prog 184 [.x (.sl (rows Zt r))] (.x (.bool (JA r))):=by
 refine ZK.wf (λhw=> ?_);have hl:r.length<=maxLen:=by have:=(hw _ (ZAw)).1;rwa [ZP]at this
 clear hw;simp only[maxLen]at hl;refine ZH.pure (fC 184 true ?_) rfl;intro C0 E0;have uu:=Zz @ZGX.eq_1 @ZIP.eq_1;have tT:=aQ (aQ ZB ZGL) ZJS;refine VD ?_;refine rg [0,3,8,9,10] ?_;refine WI.loop (λφ os=> ∃(j:Nat),φ= [(0,.x (.sl (rows Zt r))),(3,.mref 0),(8,.x (.sl (rows Zt r))),(9,.x (.int .i64 r.length)),(10,.x (.int .i64 j))]/\os= [.mpo .str false (Yv Km kcI (ZCk r j))]/\j<=r.length/\okP r j=true) (ZJ r.length 10) ?_ (λφ os hI=> ?_)
 .exact W8
 .obtain⟨j,rfl,rfl,hj,hok⟩:=hI;refine rg [0,3,8,9,10,11] ?_;refine cd (λh0=> ?_) (λh0=> ?_)
  .have hj4:j<r.length:=Wl
   have har:=ZCU r j hj4;have hbj:(r.getD j ([],[])).1.length<=900000:=NH
   have hgt:=ZTa r j (ZE (r.getD j ([],[])).1);have uu:=Zz uu har;refine rg [0,3,5,8,9,10] ?_;refine rg [0,3,5,6,8,9,10] ?_;by_cases hin:ZE (r.getD j ([],[])).1∈Qs (r.take j)
   .rw[if_pos hin]at hgt;have uu:=Zz uu hgt;refine rg [0,3,6,8,9,10,37] ?_;refine ct (λh1=> ?_) (λh1=> ?_)
    .refine Wy ?_;have hno:ZAh r j=false:=by unfold ZAh;rw[ZI hin];simp
     rw[show JA r=false by unfold JA;rw[ZGm r r.length j hj4 hno];rfl]
    .clear uu;simp at h1
   .rw[if_neg hin]at hgt;have uu:=Zz uu hgt;have hset:=ZDq Km kcI hkS (ZCk r j) (ZE (r.getD j ([],[])).1) 1;rw[ZR6 r j hj4 hin]at hset;have hset':Yo (Yv Km kcI (ZCk r j)) [X.str (ZE (r.getD j ([],[])).1)] [D.x (X.int .i64 1)]=Yv Km kcI (ZCk r (j+1)):=hset;have uu:=Zz uu hset';refine rg [0,3,6,8,9,10,37] ?_;refine cd (λh1=> ?_) (λh1=> ?_)
    .refine Wy ?_;have hno:ZAh r j=false:=by unfold ZAh;exact GW
     rw[show JA r=false by unfold JA;rw[ZGm r r.length j hj4 hno];rfl]
    .have hone:ZAh r j=true:=by unfold ZAh;rw[decide_eq_false hin];exact GW
     refine WI.post ?_;refine WI.regB tT [0,3,8,9,10] ?_;refine GB ?_;refine oG ?_;refine oP ?_;refine Jm [0] ?_ (ho:=WU);exact TU
  .refine Wy ?_;have hz:r.length=j:=Wl
   rw[show JA r=decide (1<=r.length/\r.length<=8) by unfold JA;rw[hz,hok,ZA0]];congr 2;rw[Qg];simp;omega
def Zbg:J8->J5
 | [.x (.sl R)]=>(ZM Zt R).bind λr=>some (decide (∀p∈r,p.1.length<=900000),.x (.bool (JA r)))
 |_=>none
theorem Zf4:QK Tryz.prog Zbg 184:=by
 intro args r h;unfold Zbg at h;split at h
 .obtain⟨r,rfl,i0⟩:=un ZEE h;obtain⟨h1,rfl⟩:=Yu i0;exact(Zii r h1)
 .cases h
abbrev Dn:=List (List Av)
def smD(d:Dn):Prop:= ∀r∈d,∀p∈r,p.1.length<=900000
instance (d:Dn):Decidable (smD d):=by unfold smD;infer_instance
def Jr(d:Dn):Int:=if d.length>32 then 3 else if d.all JA=true then 0 else 5
theorem ZEz(d:Dn)(j:Nat)(h:j<d.length):(rows Jg d)[j]? =some [X.sl (rows Zt (d.getD j []))]:=by
 simp[rows,h,Jg,rSl]
theorem ZeB(d:Dn)(hb:smD d):ZK Tryz.prog 161 [.x (.sl (rows Jg d))] (.x (.int .i64 (Jr d))):=by
 unfold Jr;refine ZH.pure (fC 161 true ?_) rfl;intro C0 E0;have uu:=Zz @Zbg.eq_1 @ZOg;have tT:=aQ ZB Zf4;refine rg [0] ?_;refine rg [0,7] ?_;refine cd (λh0=> ?_) (λh0=> ?_)
 .refine Wy ?_;rw[if_pos J0]
 .refine rg [8,9,10] ?_;refine WI.loop (λφ os=> ∃(j:Nat),φ= [(8,.x (.sl (rows Jg d))),(9,.x (.int .i64 d.length)),(10,.x (.int .i64 j))]/\os= []/\j<=d.length/\(d.take j).all JA=true) (ZJ d.length 10) ?_ (λφ os hI=> ?_)
  .exact W8
  .obtain⟨j,rfl,rfl,hj,hall⟩:=hI;refine rg [8,9,10,11] ?_;refine cd (λh1=> ?_) (λh1=> ?_)
   .have hj4:j<d.length:=Wl
    have hdj:d[j]=d.getD j []:=T3
    have hsm:decide (∀p∈d.getD j [],p.1.length<=900000)=true:=ZI (by rw[<-hdj];exact hb _ (YG hj4));have uu:=JJ uu (ZEz d j hj4) hsm;refine rg [4,8,9,10] ?_;refine rg [8,9,10,16] ?_;refine cd (λh2=> ?_) (λh2=> ?_)
    .refine Wy ?_;rw[if_neg J0,if_neg (by rw[Zj JA d j hj4 (by rw[hdj];simpa using h2)];decide)]
    .exact G7
   .refine Wy ?_;rw[YO J0]at hall;rw[if_neg J0,if_pos hall]
def ZNn:J8->J5
 | [.x (.sl R)]=>(ZM Jg R).bind λd=>some (decide (smD d),.x (.int .i64 (Jr d)))
 |_=>none
theorem ZQa:QK Tryz.prog ZNn 161:=by
 intro args r h;unfold ZNn at h;split at h
 .obtain⟨d,rfl,i0⟩:=un ZEA h;obtain⟨h1,rfl⟩:=Yu i0;exact(ZeB d h1)
 .cases h
def mxD:Dn->Nat
 | []=>0
 |r::d=>max r.length (mxD d)
theorem ZMG: ∀(d:Dn) (r:List Av),mxD (d++ [r])=max (mxD d) r.length
 | [],r=>by simp[mxD]
 |x::d,r=>by rw[ξX,mxD,mxD,ZMG d r];omega
theorem ZYm(a b:Nat):(if(a:Int)>(b:Int)then(a:Int)else(b:Int))=((max b a:Nat):Int):=by split<;>omega
def ZCl(s:Tx):List (List Av×Bool):=(Yf 44 s).map Zr
def ZBI(s:Tx):Dn:=(ZCl s).map (·.1)
def YX(s:Tx):Dn×Int:=
 if s.length>4096 then([],3)else if s= []then([],0)
 else if(ZCl s).all (·.2)=true then(if mxD (ZBI s)>8 then([],3)else if Jr (ZBI s)≠0 then([],Jr (ZBI s))else(ZBI s,0))
 else([],5)
theorem ZZd(s:Tx):(JR s).1.1.length<=s.length:=by
 unfold JR;have h1:=(ZJ1 61 s).1;have h2:=ZMN (Kp 61 s).1;split
 .simp
 .simp;omega
theorem Zbr(s:Tx)(hs:s.length<=900000): ∀p∈(Zr s).1,p.1.length<=900000:=by
 unfold Zr ZFX;split
 .intro p hp;obtain⟨q,h1,rfl⟩:=YR.1 hp;obtain⟨x,h2,rfl⟩:=YR.1 h1;have:=(ZBi 43 _ s (Zp _)).1 x h2;have:=ZZd x;omega
 .intro p hp;simp at hp
theorem ZHg(s:Tx)(hs:s.length<=900000):(Zr s).1.length<=900001:=by
 unfold Zr ZFX;split
 .have:=(ZBi 43 _ s (Zp _)).2;simp;omega
 .simp
theorem ZGs(s:Tx)(hs:s.length<=900000):smD (ZBI s):=by
 intro r hr;unfold ZBI ZCl at hr;obtain⟨q,h1,rfl⟩:=YR.1 hr;obtain⟨x,h2,rfl⟩:=YR.1 h1;have:=(ZBi 44 _ s (Zp _)).1 x h2;exact Zbr x J0
theorem ZfA(s:Tx):ZK Tryz.prog 121 [.x (.str s)] (.tup [.x (.sl (rows Jg (YX s).1)),.x (.int .i64 (YX s).2)]):=by
 rcases hq:YX s with⟨d,e⟩
 unfold YX at hq;have hsp:Yf (UInt8.ofNat (44:Int).toNat) s=Yf 44 s:=rfl;refine ZH.pure (fC 121 true ?_) rfl;intro C0 E0;have uu:=ξ6 @ZGT.eq_1 @ZR0.eq_1 @ZNn.eq_1 hsp @ZJ3 @ZOg;have tT:=aQ (aQ (aQ ZB ZGQ) ZZJ) ZQa;refine rg [0] ?_;refine rg [0,11] ?_;refine cd (λh0=> ?_) (λh0=> ?_)
 .refine W5 ?_;exact GE
 .refine rg [0,15] ?_;refine cd (λh1=> ?_) (λh1=> ?_)
  .refine W5 ?_;rw[if_neg J0,if_pos WC]at hq;exact NK
  .have hne:s≠ []:=WC
   rw[if_neg J0,if_neg hne]at hq;have hs:s.length<=900000:=Wl
   obtain⟨hb1,hb2⟩:=ZBi 44 _ s (Zp _);have hsm:=ZGs s hs;refine rg [0,4] ?_;refine rg [0,4,5] ?_;refine rg [4,5,19,20,21] ?_;refine WI.ownA 4 154 1 ?_;have hrl:ZCl s=(Yf 44 s).map Zr:=rfl;have hnl:ZBI s=((Yf 44 s).map Zr).map (·.1):=rfl;generalize Yf 44 s=l at hb1 hb2 hrl hnl|-;generalize ZCl s=rl at hq hrl;generalize ZBI s=nl at hq hnl hsm;subst hrl hnl;refine WI.loop (λφ os=> ∃(j:Nat),φ= [(4,.ref 0 j 0 j),(5,.x (.int .i64 (mxD ((l.take j).map λx=>(Zr x).1)))),(19,.x (.sl (rows ZC l))),(20,.x (.int .i64 l.length)),(21,.x (.int .i64 j))]/\os= [.rows false 154 1 (rows Jg ((l.take j).map λx=>(Zr x).1))]/\j<=l.length/\(l.take j).all (λx=>(Zr x).2)=true) (ZJ l.length 21) ?_ (λφ os hI=> ?_)
   .exact W8
   .obtain⟨j,rfl,rfl,hj,hall⟩:=hI;refine rg [4,5,19,20,21,22] ?_;refine cd (λh2=> ?_) (λh2=> ?_)
    .have hj4:j<l.length:=Wl
     have hbj:=hb1 _ (YG hj4);have hpc:=ZHg l[j] J0;have hsc:decide (l[j].length<=900000)=true:=ZI J0;have hmt:(l.take (j+1)).map (λx=>(Zr x).1)=(l.take j).map (λx=>(Zr x).1)++ [(Zr l[j]).1]:=by rw[JU hj4,Jd];rfl
     have hmx:mxD ((l.take (j+1)).map λx=>(Zr x).1)=max (mxD ((l.take j).map λx=>(Zr x).1)) (Zr l[j]).1.length:=by rw[hmt,ZMG]
     have uu:=Zz uu hsc;refine rg [4,5,7,19,20,21] ?_;refine rg [4,5,8,9,19,20,21] ?_;refine rg [4,5,8,19,20,21,31] ?_;refine cd (λh3=> ?_) (λh3=> ?_)
     .have hf:(l.map Zr).all (·.2)=false:=by rw[ZF1];exact Zj _ l j hj4 UZ
      exact TT
     .refine rg [4,5,8,19,20,21] ?_;refine rgp [4,5,19,20,21] ?_;refine Vr ?_;refine WI.orderA [4,5,19,20,21] ?_;refine rg [4,5,19,20,21] ?_;exact⟨⟨j+1,by rw[hmx,ZYm];first|done|rfl,by rw[hmt,<-ZIp];first|done|rfl,J0,by rw[Yq _ l j hj4,hall];simpa using h3⟩,Wa⟩
    .obtain rfl:j=l.length:=Wl
     rw[JX]at hall|-;have hf:(l.map Zr).all (·.2)=true:=by rw[ZF1];exact hall
     rw[if_pos hf]at hq;have hmm:(l.map Zr).map (·.1)=l.map (λx=>(Zr x).1):=by rw[Jz];rfl
     rw[hmm]at hq hsm;have hml:(l.map λx=>(Zr x).1).length=l.length:=YZ ..;generalize(l.map λx=>(Zr x).1)=m at hq hsm hml|-;have e1:m.take l.length=m:=YO J0;have e2:decide (smD m)=true:=ZI hsm;have uu:=Qt uu hml e1 e2;refine rg [4,42] ?_;refine cd (λh4=> ?_) (λh4=> ?_)
     .refine W5 ?_;exact GE
     .rw[if_neg J0]at hq;refine rg [4,10] ?_;refine rg [4,10,46] ?_;refine cd (λh5=> ?_) (λh5=> ?_)
      .refine W5 ?_;rw[if_pos (by simpa using h5)]at hq;exact NK
      .refine W5 ?_;rw[if_neg (by simpa using h5)]at hq;cases hq;first|rfl|rw[e1]
def ZGa:J8->J5
 | [.x (.str s)]=>some (true,.tup [.x (.sl (rows Jg (YX s).1)),.x (.int .i64 (YX s).2)])
 |_=>none
theorem ZFe:QK Tryz.prog ZGa 121:=by
 intro args r h;unfold ZGa at h;split at h
 .obtain rfl:=Qv h;exact(ZfA _)
 .cases h
theorem ZeR(r:List Av)(j:Nat)(h:j<r.length)(x:Tx):x∈Qs (r.take (j+1))↔x∈Qs (r.take j)\/x=ZE (r.getD j ([],[])).1:=by
 unfold Qs;rw[JU h,Jd,KV];simp[h]
theorem Zeh(r:List Av)(j k:Nat)(h:j<k)(hk:k<=r.length):ZE (r.getD j ([],[])).1∈Qs (r.take k):=by
 unfold Qs;refine YR.2 ⟨r[j]' J0,?_,by simp[show j<r.length by omega]⟩;exact List.mem_take_iff_getElem.2 ⟨j,J0,rfl⟩
def ZL2:J8->J5
 | [.x (.str s)]=>some (decide (s.length<=1000000),.x (.str (ZE s)))
 |_=>none
theorem ZT0:QK Tryz.prog ZL2 97:=by
 intro args r h;unfold ZL2 at h;split at h
 .exact GM
 .cases h
set_option maxHeartbeats 1000000 in
theorem Zfo(d:Dn)(hb:smD d)(hld:d.length<=1000000)(hlr: ∀r∈d,r.length<=1000000):ZK Tryz.prog 139 [.x (.sl (rows Jg d))] (.x (.int .i64 (Jr d))):=by
 unfold Jr;refine ZH.pure (fC 139 true ?_) rfl;intro C0 E0;have uu:=Zz @ZNe.eq_1 @ZL2.eq_1;have tT:=aQ (aQ ZB ZQc) ZT0;refine rg [0] ?_;refine rg [0,9] ?_;refine cd (λh0=> ?_) (λh0=> ?_)
 .refine Wy ?_;rw[if_pos J0]
 .refine rg [0,3] ?_;refine WI.loop (λφ os=> ∃(i:Nat),φ= [(0,.x (.sl (rows Jg d))),(3,.x (.int .i64 i))]/\os= []/\i<=d.length/\(d.take i).all JA=true) (ZJ d.length 3) ?_ (λφ os hI=> ?_)
  .exact W8
  .obtain⟨i,rfl,rfl,hi,hall⟩:=hI;refine rg [0,3,13] ?_;refine cd (λh1=> ?_) (λh1=> ?_)
   .have hi4:i<d.length:=Wl
    have hdi:d[i]=d.getD i []:=G9
    have hrw:=ZEz d i hi4;have hri: ∀p∈d.getD i [],p.1.length<=900000:=by rw[<-hdi];exact hb _ (YG hi4)
    have hrl:(d.getD i []).length<=1000000:=by rw[<-hdi];exact hlr _ (YG hi4)
    rcases hdr:d.getD i []with r0
    obtain⟨r,hr0⟩: ∃r,r=r0:=⟨r0,rfl⟩;subst hr0;rw[hdr]at hri hrl hrw;have uu:=Zz uu hrw;refine rg [0,3,29] ?_;refine cd (λh2=> ?_) (λh2=> ?_)
    .refine Wy ?_;rw[if_neg J0,if_neg (by rw[Zj JA d i hi4 (by rw[hdi,hdr];unfold JA;rw[decide_eq_false J0,ZE0])];decide)]
    .refine rg [0,3,4] ?_;refine WI.loop (λφ os=> ∃(k:Nat),φ= [(0,.x (.sl (rows Jg d))),(3,.x (.int .i64 i)),(4,.x (.int .i64 k))]/\os= []/\k<=r.length/\okP r k=true) (ZJ r.length 4) ?_ (λφ os hI=> ?_)
     .exact W8
     .obtain⟨k,rfl,rfl,hk,hok⟩:=hI;refine rg [0,3,4,36] ?_;refine cd (λh3=> ?_) (λh3=> ?_)
      .have hk4:k<r.length:=Wl
       have hka:=ZCU r k hk4;have hem:=ZIL (r.getD k ([],[])).2;have hkl:(r.getD k ([],[])).1.length<=900000:=by rw[show r.getD k ([],[])=r[k] by simp[hk4]];exact hri _ (YG hk4)
       have hsc:decide ((r.getD k ([],[])).1.length<=1000000)=true:=ZI J0;have uu:=JJ uu hka hsc;refine rg [0,3,4,5] ?_;refine rg [0,3,4,5,61] ?_;refine cd (λh4=> ?_) (λh4=> ?_)
       .refine Wy ?_;have hno:ZAh r k=false:=by unfold ZAh;exact GW
        exact TY
       .refine rg [0,3,4,5,6] ?_;refine WI.loop (λφ os=> ∃(j:Nat),φ= [(0,.x (.sl (rows Jg d))),(3,.x (.int .i64 i)),(4,.x (.int .i64 k)),(5,.ptr 0 0),(6,.x (.int .i64 j))]/\os= [.box [.x (.str (r.getD k ([],[])).1),.x (.str (r.getD k ([],[])).2)]]/\j<=k/\ZE (r.getD k ([],[])).1∉Qs (r.take j)) (ZJ k 6) ?_ (λφ os hI=> ?_)
        .exact⟨0,rfl,rfl,J0,by simp[Qs]⟩
        .obtain⟨j,rfl,rfl,hj,hnin⟩:=hI;refine rg [0,3,4,5,6,64] ?_;refine cd (λh5=> ?_) (λh5=> ?_)
         .have hj4:j<k:=Wl
          have hja:=ZCU r j J0;have hjl:(r.getD j ([],[])).1.length<=900000:=by rw[show r.getD j ([],[])=r[j] by simp[show j<r.length by omega]];exact hri _ (YG _)
          have hsj:decide ((r.getD j ([],[])).1.length<=1000000)=true:=ZI J0;have uu:=JJ uu hja hsj;refine WI.dregB tT [0,3,4,5,6,79] ?_
          refine Wo ?_;refine Zb ?_;refine WE ?_;refine Vn ?_;refine dQC ?_;refine Vn ?_;refine dAC ?_;refine Zm ?_;refine VJ ?_;refine cd (λh6=> ?_) (λh6=> ?_)
          .refine Wy ?_;have hin:ZE (r.getD k ([],[])).1∈Qs (r.take k):=by rw[<-show ZE (r.getD j ([],[])).1=ZE (r.getD k ([],[])).1 by simpa using h6];exact Zeh r j k hj4 J0
           have hno:ZAh r k=false:=by unfold ZAh;rw[ZI hin];simp
           exact TY
          .refine rg [0,3,4,5,6] ?_;exact⟨⟨j+1,rfl,rfl,J0,λhh=>by rcases(ZeR r j J0 _).1 hh with h|h;exact hnin h;exact h6 h.symm⟩,Wa⟩
         .have hone:ZAh r k=true:=by
           have hjk:j=k:=Wl
           rw[hjk]at hnin;unfold ZAh;rw[decide_eq_false hnin,hem];clear uu hall hdi hrw hka;grind
          refine rgp [0,3,4] ?_;refine Jm [] ?_;refine KR ?_;refine nz ?_;exact⟨⟨k+1,rfl,rfl,J0,by rw[okP,hok,ZA0];exact hone⟩,Wa⟩
      .refine rg [0,3] ?_;exact⟨⟨i+1,rfl,rfl,J0,by rw[Yq _ d i hi4,hall,hdi];show JA (d.getD i [])=true;rw[hdr];unfold JA;rw[show r.length=k by omega,hok];exact ZI ⟨J0,J0⟩⟩,Wa⟩
   .refine Wy ?_;rw[if_neg J0,if_pos (by rw[YO J0]at hall;exact hall)]
def ZNg:J8->J5
 | [.x (.sl R)]=>(ZM Jg R).bind λd=>some (decide (smD d)&&(decide (d.length<=1000000)&&(decide (∀r∈d,r.length<=1000000))),.x (.int .i64 (Jr d)))
 |_=>none
theorem ZQX:QK Tryz.prog ZNg 139:=by
 intro args r h;unfold ZNg at h;split at h
 .obtain⟨d,rfl,i0⟩:=un ZEA h;obtain⟨h1,h2,h3,rfl⟩:=fn3 i0;exact(Zfo d h1 h2 h3)
 .cases h
def ZJJ(d:Dn):Bool:=d.any λr=>decide (r.length>8)
theorem ZXJ(d:Dn)(r:List Av):ZJJ (d++ [r])=(ZJJ d||decide (r.length>8)):=by simp[ZJJ]
theorem ZSc: ∀d:Dn,ZJJ d=decide (mxD d>8)
 | []=>rfl
 |r::d=>by
  have:=ZSc d;unfold ZJJ at this|-;rw[List.any_cons,this,mxD,Qg];simp only[ZBW,Ym];omega
theorem Zaq(x:Tx)(h:(Yf 43 x).all (λy=>(JR y).2)=true):Zr x=((Yf 43 x).map (λy=>(JR y).1),true):=by
 unfold Zr ZFX;rw[if_pos (by rw[ZF1];exact h),Jz];rfl
theorem ZYo(x:Tx)(h:(Yf 43 x).all (λy=>(JR y).2)=false):Zr x=([],false):=by
 unfold Zr ZFX;rw[if_neg (by rw[ZF1];show ¬(Yf 43 x).all (λy=>(JR y).2)=true;rw[h];decide)]
set_option maxHeartbeats 1000000 in
theorem Za4(s:Tx):ZK Tryz.prog 93 [.x (.str s)] (.tup [.x (.sl (rows Jg (YX s).1)),.x (.int .i64 (YX s).2)]):=by
 rcases hq:YX s with⟨d,e⟩
 unfold YX at hq;have hsp: ∀t,Yf (UInt8.ofNat (44:Int).toNat) t=Yf 44 t:=λt=>rfl
 have hsq: ∀t,Yf (UInt8.ofNat (43:Int).toNat) t=Yf 43 t:=λt=>rfl
 refine ZH.pure (fC 93 true ?_) rfl;intro C0 E0;have uu:=ξ7 @ZOR.eq_1 @ZRX.eq_1 @ZNg.eq_1 hsp hsq @ZJ3 @ZOg;have tT:=aQ (aQ (aQ ZB ZXE) ZY8) ZQX;refine rg [0] ?_;refine rg [0,16] ?_;refine cd (λh0=> ?_) (λh0=> ?_)
 .refine W5 ?_;exact GE
 .refine rg [0,18] ?_;refine cd (λh1=> ?_) (λh1=> ?_)
  .refine W5 ?_;rw[if_neg J0,if_pos WC]at hq;exact NK
  .have hne:s≠ []:=WC
   rw[if_neg J0,if_neg hne]at hq;have hs:s.length<=900000:=Wl
   obtain⟨hb1,hb2⟩:=ZBi 44 _ s (Zp _);have hsm:=ZGs s hs;refine rg [0,4] ?_;refine rg [0,4,5] ?_;refine rg [4,5,6] ?_;refine rg [4,5,6,7] ?_;refine WI.ownA 4 154 1 ?_;have hrl:ZCl s=(Yf 44 s).map Zr:=rfl;have hnl:ZBI s=((Yf 44 s).map Zr).map (·.1):=rfl;generalize Yf 44 s=l at hb1 hb2 hrl hnl|-;generalize ZCl s=rl at hq hrl;generalize ZBI s=nl at hq hnl hsm;subst hrl hnl;refine WI.loop (λφ os=> ∃(i:Nat),φ= [(4,.ref 0 i 0 i),(5,.x (.bool (ZJJ ((l.take i).map λx=>(Zr x).1)))),(6,.x (.sl (rows ZC l))),(7,.x (.int .i64 i))]/\os= [.rows false 154 1 (rows Jg ((l.take i).map λx=>(Zr x).1))]/\i<=l.length/\(l.take i).all (λx=>(Zr x).2)=true) (ZJ l.length 7) ?_ (λφ os hI=> ?_)
   .exact W8
   .obtain⟨i,rfl,rfl,hi,hall⟩:=hI;refine rg [4,5,6,7,24] ?_;refine cd (λh2=> ?_) (λh2=> ?_)
    .have hi4:i<l.length:=Wl
     have hbi:=hb1 _ (YG hi4);have hsc:decide (l[i].length<=1000000)=true:=ZI J0;obtain⟨hc1,hc2⟩:=ZBi 43 _ l[i] (Zp _);have hmt:(l.take (i+1)).map (λx=>(Zr x).1)=(l.take i).map (λx=>(Zr x).1)++ [(Zr l[i]).1]:=by rw[JU hi4,Jd];rfl
     have hpo:=Zaq l[i];have hpb:=ZYo l[i];have uu:=Zz uu hsc;refine rg [4,5,6,7,8] ?_;refine rg [4,5,6,7,8,9] ?_;refine rg [4,5,6,7,8,9,10] ?_;refine WI.ownA 9 188 2 ?_;generalize Yf 43 l[i]=m at hc1 hc2 hpo hpb|-;refine WI.loop (λφ os=> ∃(k:Nat),φ= [(4,.ref 0 i 0 i),(5,.x (.bool (ZJJ ((l.take i).map λx=>(Zr x).1)))),(6,.x (.sl (rows ZC l))),(7,.x (.int .i64 i)),(8,.x (.sl (rows ZC m))),(9,.ref 1 k 0 k),(10,.x (.int .i64 k))]/\os= [.rows false 154 1 (rows Jg ((l.take i).map λx=>(Zr x).1)),.rows false 188 2 (rows Zt ((m.take k).map λx=>(JR x).1))]/\k<=m.length/\(m.take k).all (λx=>(JR x).2)=true) (ZJ m.length 10) ?_ (λφ os hI=> ?_)
     .exact W8
     .obtain⟨k,rfl,rfl,hk,hok⟩:=hI;refine rg [4,5,6,7,8,9,10,35] ?_;refine cd (λh3=> ?_) (λh3=> ?_)
      .have hk4:k<m.length:=Wl
       have hbk:=hc1 _ (YG hk4);have hsd:decide (m[k].length<=900000)=true:=ZI J0;have uu:=Zz uu hsd;refine rg [4,5,6,7,8,9,10,11,12] ?_;refine rg [4,5,6,7,8,9,10,11,47] ?_;refine cd (λh4=> ?_) (λh4=> ?_)
       .have hbad:=hpb (Zj _ m k hk4 UY);have hf:(l.map Zr).all (·.2)=false:=by rw[ZF1];exact Zj _ l i hi4 (by show(Zr l[i]).2=false;rw[hbad])
        exact TT
       .refine rgp [4,5,6,7,8,9,10] ?_;refine Jm [0,1] ?_;refine KR ?_;refine rg [4,5,6,7,8,9,10] ?_;exact⟨⟨k+1,rfl,by rw[JU hk4,Jd,ZL3,<-ZJV],J0,by rw[Yq _ m k hk4,hok];simpa using h4⟩,Wa⟩
      .obtain rfl:k=m.length:=Wl
       rw[JX]at hok|-;have hpx:=hpo hok;have hql:(m.map λx=>(JR x).1).length=m.length:=YZ ..;generalize(m.map λx=>(JR x).1)=q at hpx hql|-;have hpx1:(Zr l[i]).1=q:=by rw[hpx]
       have hpx2:(Zr l[i]).2=true:=by rw[hpx]
       rw[<-hql];have e1:q.take q.length=q:=JX;have uu:=Zz uu e1;refine rg [4,5,6,7,9] ?_;refine rgp [4,5,6,7] ?_;refine Vr ?_;refine WI.orderA [4,5,6,7] ?_;refine rg [4,5,6,7] ?_;exact⟨⟨i+1,by rw[hmt,ZXJ,hpx1,<-show decide ((q.length:Int)>8)=decide (q.length>8) by rw[Qg,Ym,Ym];omega];first|done|rfl,by rw[hmt,<-ZIp,hpx1];first|done|rfl,J0,by rw[Yq _ l i hi4,hall,hpx2];rfl⟩,Wa⟩
    .obtain rfl:i=l.length:=Wl
     rw[JX]at hall|-;have hf:(l.map Zr).all (·.2)=true:=by rw[ZF1];exact hall
     rw[if_pos hf]at hq;have hmm:(l.map Zr).map (·.1)=l.map (λx=>(Zr x).1):=by rw[Jz];rfl
     rw[hmm]at hq hsm;have hml:(l.map λx=>(Zr x).1).length=l.length:=YZ ..;have hcnt: ∀r∈(l.map λx=>(Zr x).1),r.length<=1000000:=by
      intro r hr;obtain⟨x,h1,rfl⟩:=YR.1 hr;have:=ZHg x (by have:=hb1 x h1;omega);omega
     generalize(l.map λx=>(Zr x).1)=m at hq hsm hml hcnt|-;have e1:m.take l.length=m:=YO J0;have e2:(decide (smD m)&&(decide (m.length<=1000000)&&decide (∀r∈m,r.length<=1000000)))=true:=by rw[ZI hsm,ZI hcnt,ZI (show m.length<=1000000 by omega)];rfl
     have hlm:=ZSc m;have uu:=Qt uu hml e1 e2;refine rg [4,67] ?_;refine cd (λh5=> ?_) (λh5=> ?_)
     .refine W5 ?_;have hz:mxD m>8\/m.length>32:=by rw[hlm]at h5;exact GW
      by_cases hm8:mxD m>8
      .rw[if_pos hm8]at hq;exact NK
      .have h32:Jr m=3:=by unfold Jr;rw[if_pos J0]
       rw[if_neg hm8,h32,if_pos WS]at hq;exact NK
     .have hm8: ¬mxD m>8:=by rw[hlm]at h5;intro hh;rw[ZI hh]at h5;simp at h5
      rw[if_neg hm8]at hq;refine rg [4,13] ?_;refine rg [4,13,71] ?_;refine cd (λh6=> ?_) (λh6=> ?_)
      .refine W5 ?_;rw[if_pos (by simpa using h6)]at hq;exact NK
      .refine W5 ?_;rw[if_neg (by simpa using h6)]at hq;cases hq;first|rfl|rw[e1]
def ZH8:J8->J5
 | [.x (.str s)]=>some (true,.tup [.x (.sl (rows Jg (YX s).1)),.x (.int .i64 (YX s).2)])
 |_=>none
theorem ZIm:QK Tryz.prog ZH8 93:=by
 intro args r h;unfold ZH8 at h;split at h
 .obtain rfl:=Qv h;exact(Za4 _)
 .cases h
theorem ZhM(r:List Av)(hb: ∀p∈r,p.1.length<=900000)(hl:r.length<=1000000):ZQ Tryz.prog 184 [.ref 0 r.length 0 r.length] [.rows false 188 2 (rows Zt r)] (.x (.bool (JA r))) [.rows false 188 2 (rows Zt r)]:=by
 refine ZH.mcalls (fC 184 true ?_);intro C0 E0;have uu:=Zz @ZGX.eq_1 @ZIP.eq_1;have tT:=aQ (aQ ZB ZGL) ZJS;refine VD ?_;refine rg [0,3,8,9,10] ?_;refine WI.loop (λφ os=> ∃(j:Nat),φ= [(0,.ref 0 r.length 0 r.length),(3,.mref 1),(8,.ref 0 r.length 0 r.length),(9,.x (.int .i64 r.length)),(10,.x (.int .i64 j))]/\os= [.rows false 188 2 (rows Zt r),.mpo .str false (Yv Km kcI (ZCk r j))]/\j<=r.length/\okP r j=true) (ZJ r.length 10) ?_ (λφ os hI=> ?_)
 .exact W8
 .obtain⟨j,rfl,rfl,hj,hok⟩:=hI;refine rg [0,3,8,9,10,11] ?_;refine cd (λh0=> ?_) (λh0=> ?_)
  .have hj4:j<r.length:=Wl
   have har:=ZCU r j hj4;have hbj:(r.getD j ([],[])).1.length<=900000:=NH
   have hgt:=ZTa r j (ZE (r.getD j ([],[])).1);have uu:=Zz uu har;refine rg [0,3,5,8,9,10] ?_;refine rg [0,3,5,6,8,9,10] ?_;by_cases hin:ZE (r.getD j ([],[])).1∈Qs (r.take j)
   .rw[if_pos hin]at hgt;have uu:=Zz uu hgt;refine rg [0,3,6,8,9,10,37] ?_;refine ct (λh1=> ?_) (λh1=> ?_)
    .refine rg [2] ?_;refine WI.pickA [0] ?_;refine lf ?_;have hno:ZAh r j=false:=by unfold ZAh;rw[ZI hin];simp
     exact GL
    .clear uu;simp at h1
   .rw[if_neg hin]at hgt;have uu:=Zz uu hgt;have hset:=ZDq Km kcI hkS (ZCk r j) (ZE (r.getD j ([],[])).1) 1;rw[ZR6 r j hj4 hin]at hset;have hset':Yo (Yv Km kcI (ZCk r j)) [X.str (ZE (r.getD j ([],[])).1)] [D.x (X.int .i64 1)]=Yv Km kcI (ZCk r (j+1)):=hset;have uu:=Zz uu hset';refine rg [0,3,6,8,9,10,37] ?_;refine cd (λh1=> ?_) (λh1=> ?_)
    .refine rg [2] ?_;refine WI.pickA [0] ?_;refine lf ?_;have hno:ZAh r j=false:=by unfold ZAh;exact GW
     exact GL
    .have hone:ZAh r j=true:=by unfold ZAh;rw[decide_eq_false hin];exact GW
     refine WI.post ?_;refine WI.regB tT [0,3,8,9,10] ?_;refine GB ?_;refine oG ?_;refine oP ?_;refine Jm [0,1] ?_ (ho:=WU);exact TU
  .refine rg [2] ?_;refine WI.pickA [0] ?_;refine lf ?_;have hz:r.length=j:=Wl
   rw[show JA r=decide (1<=r.length/\r.length<=8) by unfold JA;rw[hz,hok,ZA0]];refine⟨?_,rfl⟩;congr 2;rw[Qg];simp;omega
def RF(d:Dn):List J8:=ZAJ 1 (d.map (rows Zt))
def FM(d:Dn):J7:=fam 188 2 (d.map (rows Zt))
abbrev obD(d:Dn):J7:= .drw 154 1 (RF d)::FM d
theorem ZMx(d:Dn):(RF d).length=d.length:=by unfold RF;rw[ZP6,YZ]
theorem ZKV(d:Dn):(FM d).length=d.length:=by unfold FM;rw[ZLG,YZ]
theorem ZdN(d:Dn)(j:Nat)(h:j<d.length):(d.map (rows Zt))[j]? =some (rows Zt (d.getD j [])):=by simp[h]
theorem ZYy(d:Dn)(j:Nat)(h:j<d.length):(RF d)[j]? =some [.ref (j+1) (d.getD j []).length 0 (d.getD j []).length]:=by
 unfold RF;rw[ZQN _ 1 j _ (ZdN d j h),ZP,ZOk]
theorem ZYT(d:Dn)(Y:J7)(j:Nat)(h:j<d.length):(FM d++Y)[j]? =some (.rows false 188 2 (rows Zt (d.getD j []))):=ZgZ _ _ _ Y j _ (ZdN d j h)
theorem ZKx(d:Dn)(j:Nat)(h:j<d.length):(FM d)[j]? =some (.rows false 188 2 (rows Zt (d.getD j []))):=by rw[<-ZYT d [] j h,Ks]
theorem ZZH(d:Dn)(Y:J7)(j:Nat)(h:j<d.length)(r:List Av):(FM d++Y).set j (.rows false 188 2 (rows Zt r))=FM (d.set j r)++Y:=by
 unfold FM;rw[Zf7 _ _ _ Y j _ (by rw[YZ];exact h),ZMT]
theorem Zdu(d:Dn)(j:Nat)(h:j<d.length)(r:List Av):(FM d).set j (.rows false 188 2 (rows Zt r))=FM (d.set j r):=by
 have:=ZZH d [] j h r;rwa [Ks,Ks]at this
theorem ZYM(d:Dn)(j:Nat)(r:List Av)(h:r.length=(d.getD j []).length):RF (d.set j r)=RF d:=by
 unfold RF;refine ZLn _ _ _ ?_;rw[ZMT,ZMT,ZP];apply ZBj;intro i;rw[ZCe];split
 .rename_i hij;subst hij;rw[YE,YE];by_cases hj:j<d.length
  .simp[hj,ZP]at h|-;rw[h]
  .simp[hj]
 .rfl
theorem Zd6(d:Dn)(r:List Av):RF (d++ [r])=RF d++ [[.ref (d.length+1) r.length 0 r.length]]:=by
 unfold RF;rw[Jd,ZL3,ZNM,YZ,ZP,ZOk]
theorem ZeC(d:Dn)(r:List Av):FM (d++ [r])=FM d++ [.rows false 188 2 (rows Zt r)]:=by
 unfold FM;rw[Jd,ZL3,Zby]
theorem ZUV(d:Dn):(obD d).all (Ob.inP (λi=>decide (i<(obD d).length)))=true:=ZbS 154 188 2 (d.map (rows Zt))
theorem ZWM:Enters Tryz.prog 184:=QZ 184
theorem ZPd(d:Dn)(j:Nat):d.set j (d.getD j [])=d:=by
 by_cases h:j<d.length
 .rw[show d.getD j []=d[j] by simp[h]];simp
 .rw[List.set_eq_of_length_le J0]
theorem ZgP(d:Dn)(j:Nat)(hj:j<d.length)(hb:smD d)(hl:(d.getD j []).length<=1000000):ZQ Tryz.prog 184 [.ref (j+1) (d.getD j []).length 0 (d.getD j []).length] (obD d) (.x (.bool (JA (d.getD j [])))) (obD d):=by
 have hbj: ∀p∈d.getD j [],p.1.length<=900000:=by rw[show d.getD j []=d[j] by simp[hj]];exact hb _ (YG hj)
 have hc:=ZhM (d.getD j []) hbj hl;have:=ZQ.row (args:= [.ref (j+1) (d.getD j []).length 0 (d.getD j []).length]) (OS:=obD d) (j+1) (by rw[show YA (inv [j+1]) [D.ref (j+1) (d.getD j []).length 0 (d.getD j []).length]= [D.ref 0 (d.getD j []).length 0 (d.getD j []).length] by simp only[YA,D.ren,inv,if_true]];exact hc) (by rw[ZBn];exact ZKx d j hj) rfl (by simp[JE,D.inP,Zi]) (λf=>rfl);rw[ZCJ,Zdu d j hj,ZPd]at this;exact this
theorem Zgl(d:Dn)(hb:smD d)(hl: ∀r∈d,r.length<=1000000)(hld:d.length<=1000000):ZQ Tryz.prog 161 [.ref 0 d.length 0 d.length] (obD d) (.x (.int .i64 (Jr d))) (obD d):=by
 have hRl:=ZMx d;have hFl:=ZKV d;unfold Jr;refine ZH.mcalls (fC 161 true ?_);intro C0 E0;have uu:=ξ6 hRl hFl @ZHT @ZHB @ZHI @ZHP;have tT:=(ZB:SsOk Tryz.prog YH);refine rg [0] ?_;refine rg [0,7] ?_;refine cd (λh0=> ?_) (λh0=> ?_)
 .refine Wy ?_;rw[if_pos J0];exact Gf
 .refine rg [8,9,10] ?_;refine WI.loop (λφ os=> ∃(j:Nat),φ= [(8,.ref 0 d.length 0 d.length),(9,.x (.int .i64 d.length)),(10,.x (.int .i64 j))]/\os=obD d/\j<=d.length/\(d.take j).all JA=true) (ZJ d.length 10) ?_ (λφ os hI=> ?_)
  .exact W8
  .obtain⟨j,rfl,rfl,hj,hall⟩:=hI;refine rg [8,9,10,11] ?_;refine cd (λh1=> ?_) (λh1=> ?_)
   .have hj4:j<d.length:=Wl
    have hdj:d[j]=d.getD j []:=T3
    have hlj:(d.getD j []).length<=1000000:=by rw[<-hdj];exact hl _ (YG hj4)
    have hrf:=ZYy d j hj4;have hfm:=ZKx d j hj4;have uu:=JJ uu hrf hfm;refine rg [4,8,9,10] ?_;refine rg [8,9,10,16] ?_ (hS:=(ZCz ZB ZWM (ZgP d j hj4 hb hlj)));refine cd (λh2=> ?_) (λh2=> ?_)
    .refine Wy ?_;rw[if_neg J0,if_neg (by rw[Zj JA d j hj4 (by rw[hdj];simpa using h2)];decide)];exact Gf
    .exact G7
   .refine Wy ?_;rw[YO J0]at hall;rw[if_neg J0,if_pos hall];exact Gf
theorem Ze9(s:Tx)(hl:s.length<=900000)(hok:(Zr s).2=true):ZQ Tryz.prog 160 [.x (.str s)] [] (.tup [.ref 0 (Zr s).1.length 0 (Zr s).1.length,.x (.bool true)]) [.rows false 188 2 (rows Zt (Zr s).1)]:=by
 obtain⟨hb1,hb2⟩:=ZBi 43 _ s (Zp _);have hpl:(Zr s).1=(Yf 43 s).map (λx=>(JR x).1)/\(Yf 43 s).all (λx=>(JR x).2)=true:=by
  unfold Zr ZFX at hok|-;split at hok
  .rename_i h;rw[if_pos h];rw[ZF1]at h;exact⟨by rw[Jz];rfl,h⟩
  .cases hok
 obtain⟨hpl,hpa⟩:=hpl;rw[hpl];clear hok hpl;have hsp:Yf (UInt8.ofNat (43:Int).toNat) s=Yf 43 s:=rfl;refine ZH.mcalls (fC 160 false ?_);intro C0 E0;have uu:=JJ @ZGT.eq_1 @ZNS.eq_1 hsp;have tT:=aQ (aQ ZB ZGQ) ZPj;refine rg [0] ?_;refine rg [0,4] ?_;refine rg [4,10,11,12] ?_;refine WI.ownA 4 188 2 ?_;generalize Yf 43 s=l at hpa hb1 hb2|-;refine WI.loop (λφ os=> ∃(j:Nat),φ= [(4,.ref 0 j 0 j),(10,.x (.sl (rows ZC l))),(11,.x (.int .i64 l.length)),(12,.x (.int .i64 j))]/\os= [.rows false 188 2 (rows Zt ((l.take j).map λx=>(JR x).1))]/\j<=l.length) (ZJ l.length 12) ?_ (λφ os hI=> ?_)
 .exact Vf
 .obtain⟨j,rfl,rfl,hj⟩:=hI;refine rg [4,10,11,12,13] ?_;refine cd (λh0=> ?_) (λh0=> ?_)
  .have hj4:j<l.length:=Wl
   have hbj:=hb1 _ (YG hj4);have hpj:(JR l[j]).2=true:=Yg.1 hpa _ (YG hj4);have hsc:decide (l[j].length<=900000)=true:=ZI J0;have uu:=Zz uu hsc;refine rg [4,6,10,11,12] ?_;refine rg [4,7,8,10,11,12] ?_;refine rg [4,7,10,11,12,22] ?_;refine ce (λh1=> ?_) (λh1=> ?_)
   .rw[hpj]at h1;simp at h1
   .refine rgp [4,10,11,12] ?_;refine Vr ?_;refine WI.orderA [4,10,11,12] ?_;refine rg [4,10,11,12] ?_;exact⟨⟨j+1,rfl,by rw[JU hj4,Jd,ZL3,<-ZJV],J0⟩,Wa⟩
  .have e1:(rows Zt ((l.take j).map λx=>(JR x).1)).length=j:=by simp[rows];omega
   have e2:(l.take j).length=j:=W3
   have uu:=JJ uu e1 e2;refine Vx ?_;have hz:l.length=j:=Wl
   rw[YO (l:=l) J0,YZ,hz];exact Gf
theorem ZUH:Enters Tryz.prog 160:=QZ 160
theorem ZeN(d:Dn)(s:Tx)(hl:s.length<=900000)(hok:(Zr s).2=true):ZQ Tryz.prog 160 [.x (.str s)] (obD d) (.tup [.ref (d.length+1) (Zr s).1.length 0 (Zr s).1.length,.x (.bool true)]) (.drw 154 1 (RF d)::FM (d++ [(Zr s).1])):=by
 have:=ZQ.new (OS:=obD d) (Ze9 s hl hok) rfl (λp=>rfl);rw[ZL3,JB,ZKV]at this;rw[ZeC];exact this
theorem ZTe:Enters Tryz.prog 161:=QZ 161
theorem ZIs(s:Tx)(d:Dn)(hq:YX s=(d,0))(hne:s≠ []):s.length<=4096/\(Yf 44 s).all (λx=>(Zr x).2)=true/\d=(Yf 44 s).map (λx=>(Zr x).1)/\mxD d<=8/\Jr d=0:=by
 unfold YX at hq;by_cases h1:s.length>4096
 .rw[if_pos h1]at hq;cases hq
 rw[if_neg h1,if_neg hne]at hq;by_cases h2:(ZCl s).all (·.2)=true
 .rw[if_pos h2]at hq;by_cases h3:mxD (ZBI s)>8
  .rw[if_pos h3]at hq;cases hq
  rw[if_neg h3]at hq;by_cases h4:Jr (ZBI s)≠0
  .rw[if_pos h4]at hq;simp only[YN]at hq;exact absurd hq.2 h4
  rw[if_neg h4]at hq;simp only[YN]at hq;obtain⟨rfl,-⟩:=hq;refine⟨J0,?_,?_,J0,Classical.not_not.1 h4⟩
  .unfold ZCl at h2;rw[ZF1]at h2;exact h2
  .unfold ZBI ZCl;rw[Jz];rfl
 .rw[if_neg h2]at hq;cases hq
set_option maxHeartbeats 1000000 in
theorem Zfr(s:Tx)(d:Dn)(hq:YX s=(d,0))(hne:s≠ []):ZQ Tryz.prog 121 [.x (.str s)] [] (.tup [.ref 0 d.length 0 d.length,.x (.int .i64 0)]) (obD d):=by
 obtain⟨hs4,hall,hd,hmx8,hck⟩:=ZIs s d hq hne;clear hq;obtain⟨hb1,hb2⟩:=ZBi 44 _ s (Zp _);have hsm:smD d:=by
  have:=ZGs s J0;unfold ZBI ZCl at this;rw[Jz]at this;rw[hd];exact this
 have hsp:Yf (UInt8.ofNat (44:Int).toNat) s=Yf 44 s:=rfl;refine ZH.mcalls (fC 121 false ?_);intro C0 E0;have uu:=ξ6 @ZGT.eq_1 hsp @ZHT @ZHB @ZHI @ZHP;have tT:=aQ ZB ZGQ;refine rg [0] ?_;refine rg [0,11] ?_;refine ce (λh0=> ?_) (λh0=> ?_)
 .simp at h0;omega
 .refine rg [0,15] ?_;refine ce (λh1=> ?_) (λh1=> ?_)
  .exact hne WC
  .refine rg [0,4] ?_;refine rg [0,4,5] ?_;refine rg [4,5,19,20,21] ?_;refine WI.ownA 4 154 1 ?_;refine WI.toDA 0 ?_;generalize Yf 44 s=l at hb1 hb2 hall hd|-;refine WI.loop (λφ os=> ∃(j:Nat),φ= [(4,.ref 0 j 0 j),(5,.x (.int .i64 (mxD ((l.take j).map λx=>(Zr x).1)))),(19,.x (.sl (rows ZC l))),(20,.x (.int .i64 l.length)),(21,.x (.int .i64 j))]/\os=obD ((l.take j).map λx=>(Zr x).1)/\j<=l.length) (ZJ l.length 21) ?_ (λφ os hI=> ?_)
   .exact Vf
   .obtain⟨j,rfl,rfl,hj⟩:=hI;refine rg [4,5,19,20,21,22] ?_;refine cd (λh2=> ?_) (λh2=> ?_)
    .have hj4:j<l.length:=Wl
     have hbj:=hb1 _ (YG hj4);have hpc:=ZHg l[j] J0;have hpj:(Zr l[j]).2=true:=Yg.1 hall _ (YG hj4);have hmt:(l.take (j+1)).map (λx=>(Zr x).1)=(l.take j).map (λx=>(Zr x).1)++ [(Zr l[j]).1]:=by rw[JU hj4,Jd];rfl
     have hmx:mxD ((l.take (j+1)).map λx=>(Zr x).1)=max (mxD ((l.take j).map λx=>(Zr x).1)) (Zr l[j]).1.length:=by rw[hmt,ZMG]
     have hml:((l.take j).map λx=>(Zr x).1).length=j:=T7
     have hcall:=ZeN ((l.take j).map λx=>(Zr x).1) l[j] J0 hpj;rw[hml]at hcall;generalize hM:(l.take j).map (λx=>(Zr x).1)=M at hmt hmx hml hcall|-;generalize hR:(Zr l[j]).1=r at hmt hmx hcall hpc|-;have hrl:=ZMx M;have hfl:=ZKV (M++ [r]);rw[ZW,QM,hml]at hfl;have hfg: ∀x:Ob,(FM (M++ [r])++ [x])[j+1]? =some x:=λx=>by rw[QL J0,hfl,ZH2];rfl
     rw[hml]at hrl;have hsn:=Zd6 M r;rw[hml]at hsn;have hfm:(FM (M++ [r]))[j]? =some (.rows false 188 2 (rows Zt r)):=by rw[ZKx (M++ [r]) j W3];simp[hml]
     have uu:=ξ5 uu hrl hfl hfg hfm;refine rg [4,5,7,19,20,21] ?_;refine rg [4,5,8,9,19,20,21] ?_ (hS:=(ZCz ZB ZUH hcall));refine rg [4,5,8,19,20,21,31] ?_;refine ce (λh3=> ?_) (λh3=> ?_)
     .simp at h3
     .refine rg [4,5,8,19,20,21] ?_;refine WI.post ?_;refine WI.regB tT [4,5,19,20,21] ?_;refine GB ?_;refine Nu ?_;refine ZNZ (obD (M++ [r])) _ (by rw[obD,hsn];rfl) (KG _) (ZUV _) (by simp only[ZAL,ZFG,D.inP,JB,hfl];simp) ?_;refine KR ?_;refine nz ?_;refine WI.orderA [4,5,19,20,21] ?_;refine rg [4,5,19,20,21] ?_;exact⟨⟨j+1,by rw[hmx,ZYm];first|done|rfl,by rw[hmt],J0⟩,Wa⟩
    .obtain rfl:j=l.length:=Wl
     rw[JX,<-hd];have hdl:d.length=l.length:=by rw[hd,YZ]
     rw[<-hdl];have hcc:=Zgl d hsm (λr hr=>by rw[hd]at hr;obtain⟨x,h1,rfl⟩:=YR.1 hr;have:=ZHg x (by have:=hb1 x h1;omega);omega) J0;rw[hck]at hcc;refine rg [4,42] ?_;refine ce (λh4=> ?_) (λh4=> ?_)
     .simp at h4;omega
     .refine rg [4,10] ?_ (hS:=(ZCz ZB ZTe hcc));refine rg [4,10,46] ?_;refine ce (λh5=> ?_) (λh5=> ?_)
      .simp at h5
      .refine Vx ?_;exact Gf
def dgD(n:Nat):UInt8:=ZFJ.getD n 0
def ZI2(c:UInt8):Bool:=decide ((c.toNat:Int)<32)||decide ((c.toNat:Int)=127)
def slD(c:UInt8)(f l:Bool):Bool:=spc c.toNat||(f&&(decide ((c.toNat:Int)=32)||decide ((c.toNat:Int)=35))||l&&decide ((c.toNat:Int)=32))
def ZDu(c:UInt8)(f l:Bool):Tx:=if ZI2 c=true then [92,dgD (c.toNat/16),dgD (c.toNat % 16)]else if slD c f l=true then [92,c]else [c]
def ZAx(s:Tx)(j:Nat):Tx:=ZDu (s.getD j 0) (decide (j=0)) (decide (j+1=s.length))
def ZBF(s:Tx):Nat->Tx
 |0=> []
 |j+1=>ZBF s j++ZAx s j
def ZDT(s:Tx):Tx:=ZBF s s.length
theorem ZcK(c:UInt8)(f l:Bool):(ZDu c f l).length<=3:=by unfold ZDu;split;simp;split<;>simp
theorem ZE1(s:Tx): ∀j,(ZBF s j).length<=3*j
 |0=>by simp[ZBF]
 |j+1=>by
  have h1:=ZE1 s j;have h2:=ZcK (s.getD j 0) (decide (j=0)) (decide (j+1=s.length));rw[ZBF,ZW];unfold ZAx;omega
theorem ZdZ(n:Nat)(h:n<256):IntKind.u8.wrap ((n:Int).tdiv 16)=((n/16:Nat):Int):=by
 rw[show(n:Int).tdiv 16=((n/16:Nat):Int)from rfl,IntWalk.u8_in _ J0]
theorem ZdH(n:Nat):(n:Int).tmod 16=((n % 16:Nat):Int):=rfl
theorem Zft(b:Tx)(c d e:UInt8):b.map Zs++ [[X.int .u8 (c.toNat:Int)],[X.int .u8 (d.toNat:Int)],[X.int .u8 (e.toNat:Int)]]=(b++ [c,d,e]).map Zs:=by rw[Jd];rfl
theorem Zek(b:Tx)(c:UInt8):b.map Zs++ [[X.int .u8 (c.toNat:Int)]]=(b++ [c]).map Zs:=by rw[Jd];rfl
theorem Zf2(s:Tx)(hl:s.length<=1000000):ZK Tryz.prog 177 [.x (.str s)] (.x (.str (ZDT s))):=by
 have hsl: ∀n,inB [44,43,34,92,60,62,59,61] n=spc n:=λn=>rfl
 have hud: ∀n:Nat,([48,49,50,51,52,53,54,55,56,57,97,98,99,100,101,102]:Tx).getD n 0=dgD n:=λn=>rfl
 refine ZH.pure (fC 177 true ?_) rfl;intro C0 E0;have uu:=ξ5 @ZNd.eq_1 hsl hud @JM @QR;have tT:=aQ ZB ZMp;refine VD ?_;refine rg [0,3,9,10,11] ?_;refine WI.ownA 3 5 1 ?_;refine WI.loop (λφ os=> ∃(j:Nat),φ= [(0,.x (.str s)),(3,.ref 1 (ZBF s j).length 0 (ZBF s j).length),(9,.ref 0 s.length 0 s.length),(10,.x (.int .i64 s.length)),(11,.x (.int .i64 j))]/\os= [.rows true 5 1 (s.map Zs),.rows false 5 1 ((ZBF s j).map Zs)]/\j<=s.length) (ZJ s.length 11) ?_ (λφ os hI=> ?_)
 .exact Vf
 .obtain⟨j,rfl,rfl,hj⟩:=hI;have hle:=ZE1 s j;refine rg [0,3,9,10,11,12] ?_;refine cd (λh0=> ?_) (λh0=> ?_)
  .have hj4:j<s.length:=Wl
   have hst:ZBF s (j+1)=ZBF s j++ZAx s j:=rfl;have hb8:(s.getD j 0).toNat<256:=ZDo _;have q0:(decide (0<=((s.getD j 0).toNat:Int)))=true:=ZI J0;have q1:=ZdZ _ hb8;have q2:=ZdH (s.getD j 0).toNat;have q3:decide (((s.getD j 0).toNat/16:Nat)<(16:Int))=true:=ZI J0;have q4:decide (((s.getD j 0).toNat % 16:Nat)<(16:Int))=true:=ZI J0;have uu:=ξ7 uu (ZSn s j hj4) q0 q1 q2 q3 q4;refine rg [0,3,4,5,9,10,11] ?_;refine rg [0,3,5,6,7,9,10,11] ?_;refine rg [0,3,5,6,7,9,10,11,23] ?_;refine cd (λh1=> ?_) (λh1=> ?_)
   .have hA:ZAx s j= [92,dgD ((s.getD j 0).toNat/16),dgD ((s.getD j 0).toNat % 16)]:=by unfold ZAx ZDu ZI2;rw[if_pos Wv]
    have hn:(ZAx s j).length=3:=by rw[hA];rfl
    have hrow:(ZBF s j).map Zs++ [[X.int .u8 92],[X.int .u8 ((dgD ((s.getD j 0).toNat/16)).toNat:Int)],[X.int .u8 ((dgD ((s.getD j 0).toNat % 16)).toNat:Int)]]=(ZBF s j++ZAx s j).map Zs:=by rw[hA];exact Zft _ 92 _ _
    refine WI.post ?_;refine WI.dregB tT [0,3,9,10,11] ?_;refine Wo ?_;refine Vo ?_;refine ZU ?_;refine Vo ?_;refine Qx ?_;refine Qx ?_;refine ZU ?_;refine dP ?_;exact Vc
   .refine rg [0,3,5,9,10,11,39] ?_;refine cd (λh2=> ?_) (λh2=> ?_)
    .have hA:ZAx s j= [92,s.getD j 0]:=by unfold ZAx ZDu ZI2 slD;rw[if_neg Wv,if_pos Wv]
     have hn:(ZAx s j).length=1+1:=by rw[hA];rfl
     have hrow:(ZBF s j).map Zs++ [[X.int .u8 92]]++ [[X.int .u8 ((s.getD j 0).toNat:Int)]]=(ZBF s j++ZAx s j).map Zs:=by rw[hA,Yw,Jd];rfl
     refine rgp [0,3,5,9,10,11] ?_;refine Jm [0,1] ?_;refine KR ?_;refine rgp [0,3,9,10,11] ?_;exact Vc
    .have hA:ZAx s j= [s.getD j 0]:=by unfold ZAx ZDu ZI2 slD;rw[if_neg Wv,if_neg Wv]
     have hn:(ZAx s j).length=1:=by rw[hA];rfl
     have hrow:(ZBF s j).map Zs++ [[X.int .u8 ((s.getD j 0).toNat:Int)]]=(ZBF s j++ZAx s j).map Zs:=by rw[hA];exact Zek _ _
     refine rgp [0,3,9,10,11] ?_;exact Vc
  .have uu:=Zz uu (ZM9 (ZBF s j));refine Wy ?_;obtain rfl:j=s.length:=Wl
   first|rfl|(simp only[QR,ZM9];first|done|rfl)
def ZRG:J8->J5
 | [.x (.str s)]=>some (decide (s.length<=1000000),.x (.str (ZDT s)))
 |_=>none
theorem ZXx:QK Tryz.prog ZRG 177:=by
 intro args r h;unfold ZRG at h;split at h
 .obtain⟨h1,rfl⟩:=Yu h;exact(Zf2 _ h1)
 .cases h
theorem Zeo: ∀m:Fin 16,(ZFJ.take (m.val+1)).drop m.val= [dgD m.val]:=Un
theorem ZYr(m:Nat)(h:m<16):(ZFJ.take (m+1)).drop m= [dgD m]:=Zeo ⟨m,h⟩
theorem ZaG(m:Nat)(h:m<16):IntKind.u8.wrap ((m:Int)+1)=((m+1:Nat):Int):=by rw[IntWalk.u8_in _ J0];rfl
theorem ZU0(s:Tx)(j:Nat)(h:j<s.length):List.drop j (List.take ((j:Int)+1).toNat s)= [s.getD j 0]:=by
 rw[show((j:Int)+1).toNat=j+1 by omega,JU h,Zb0 W3,ZBB W3];simp[h]
theorem Zbd:ZFJ.length=16:=rfl
theorem Zfd(s:Tx)(hl:s.length<=1000000):ZK Tryz.prog 140 [.x (.str s)] (.x (.str (ZDT s))):=by
 refine ZH.pure (fC 140 true ?_) rfl;intro C0 E0;have uu:= @ZIj.eq_1;have tT:=aQ ZB ZLY;refine VD ?_;refine rg [0,3,4] ?_;refine rg [0,3,4,5] ?_;refine WI.loop (λφ os=> ∃(j:Nat),φ= [(0,.x (.str s)),(3,.x (.str ZFJ)),(4,.x (.str (ZBF s j))),(5,.x (.int .i64 j))]/\os= []/\j<=s.length) (ZJ s.length 5) ?_ (λφ os hI=> ?_)
 .exact Vf
 .obtain⟨j,rfl,rfl,hj⟩:=hI;have hle:=ZE1 s j;refine rg [0,3,4,5,10] ?_;refine cd (λh0=> ?_) (λh0=> ?_)
  .have hj4:j<s.length:=Wl
   have hst:ZBF s (j+1)=ZBF s j++ZAx s j:=rfl;have hb8:(s.getD j 0).toNat<256:=ZDo _;have q0:(decide (0<=((s.getD j 0).toNat:Int)))=true:=ZI J0;have uu:=Zz uu q0;refine rg [0,3,4,5,6] ?_;refine rg [0,3,4,5,6,23] ?_;refine cd (λh1=> ?_) (λh1=> ?_)
   .have hA:ZAx s j= [92,dgD ((s.getD j 0).toNat/16),dgD ((s.getD j 0).toNat % 16)]:=by unfold ZAx ZDu ZI2;rw[if_pos Wv]
    have uu:=ξn uu (ξn (show decide (((s.getD j 0).toNat/16:Nat)<=(((s.getD j 0).toNat/16+1:Nat):Int))=true from ZI J0) (ξn (show decide (((s.getD j 0).toNat/16+1:Nat)<=((16:Nat):Int))=true from ZI J0) (ξn (ZdZ _ hb8) (ξn (ZdH (s.getD j 0).toNat) (ξn (ZYr ((s.getD j 0).toNat/16) J0) (ξn (ZYr ((s.getD j 0).toNat % 16) J0) (ξn (ZaG ((s.getD j 0).toNat/16) J0) (ξn (ZaG ((s.getD j 0).toNat % 16) J0) Zbd))))))));refine WI.dregB tT [0,3,4,5] ?_;refine ZU ?_;refine Zm ?_
    refine Wo ?_;refine Zm ?_;refine ZU ?_;refine Vo ?_;refine Vo ?_;refine Wo ?_;refine Zm ?_;refine ZU ?_;refine Vo ?_;refine Vo ?_;refine ZU ?_;refine dN ?_;exact U0
   .refine rg [0,3,4,5,48] ?_;refine cd (λh2=> ?_) (λh2=> ?_)
    .have hA:ZAx s j= [92,s.getD j 0]:=by unfold ZAx ZDu ZI2 slD;rw[if_neg Wv,if_pos Wv]
     have uu:=Zz uu (ZU0 s j hj4);refine rg [0,3,4,5] ?_;exact U0
    .have hA:ZAx s j= [s.getD j 0]:=by unfold ZAx ZDu ZI2 slD;rw[if_neg Wv,if_neg Wv]
     have uu:=Zz uu (ZU0 s j hj4);refine rg [0,3,4,5] ?_;exact U0
  .refine Wy ?_;obtain rfl:j=s.length:=Wl
   rfl
def ZSu:J8->J5
 | [.x (.str s)]=>some (decide (s.length<=1000000),.x (.str (ZDT s)))
 |_=>none
theorem ZYh:QK Tryz.prog ZSu 140:=by
 intro args r h;unfold ZSu at h;split at h
 .obtain⟨h1,rfl⟩:=Yu h;exact(Zfd _ h1)
 .cases h
def Qi(c:UInt8):List Tx->Tx
 | []=> []
 | [x]=>x
 |x::y::r=>x++c::Qi c (y::r)
theorem ZDr(c:UInt8): ∀l,Lib.join l [c]=Qi c l
 | []=>rfl
 | [x]=>by rw[Lib.join_one];rfl
 |x::y::r=>by
  have:=ZDr c (y::r);simp only[Lib.join,List.intercalate,List.intersperse_cons_cons,ZRf,Qi]at this|-;rw[this];rfl
theorem ZBS(c:UInt8){x:Tx}{l:List Tx}(h:l≠ []):Qi c (x::l)=x++c::Qi c l:=by
 cases l with
 |nil=>exact absurd rfl h
 |cons y r=>rfl
theorem ZIv(c:UInt8): ∀(l:List Tx) (x:Tx),l≠ []->Qi c (l++ [x])=Qi c l++ [c]++x
 | [],x,h=>absurd rfl h
 | [y],x,_=>by simp[Qi]
 |y::z::r,x,_=>by
  have:=ZIv c (z::r) x J1;have e:Qi c (y::z::r)=y++c::Qi c (z::r):=rfl;have e2:Qi c (y::(z::r++ [x]))=y++c::Qi c (z::r++ [x]):=ZBS c J1;rw[ξX,e2,this,e];simp
theorem ZFD(c:UInt8)(m:Nat): ∀l:List Tx,(∀x∈l,x.length<=m)->(Qi c l).length<=l.length*(m+1)
 | [],_=>by simp[Qi]
 | [x],h=>by have:=h x J1;simp[Qi];omega
 |x::y::r,h=>by
  have h1:=ZFD c m (y::r) (λz hz=>h z (ξW _ hz));have h2:=h x J1;rw[ZBS c J1,ZW,JB,JB,JL];omega
theorem ZEc(l:List Tx)(x:Tx):rows ZC l++ [[X.str x]]=rows ZC (l++ [x]):=Gd
def Qn(p:Av):Tx:=p.1++ [61]++ZDT p.2
def JD(r:List Av):Tx:=Qi 43 (r.map Qn)
def Kc(d:Dn):Tx:=Qi 44 (d.map JD)
def Qp(d:Dn):Tx×Int:=if Jr d≠0 then([],Jr d)else if(Kc d).length>4096 then([],3)else(Kc d,0)
theorem ZSp(r:List Av): ∀(n j:Nat),okP r n=true->j<n->ZAh r j=true
 |n+1,j,h,hj=>by
  rw[okP,Zk]at h;by_cases e:j=n
  .subst e;exact h.2
  .exact ZSp r n j h.1 J0
theorem ZBQ{r:List Av}(h:JA r=true):r.length<=8/\1<=r.length/\ ∀p∈r,p.1.length<=64/\p.2.length<=256:=by
 unfold JA at h;rw[Zk,Ym]at h;refine⟨h.2.2,h.2.1,λp hp=> ?_⟩;obtain⟨j,hj,rfl⟩:=ZWQ hp;have h1:=ZSp r r.length j h.1 hj;unfold ZAh at h1;rw[ZOo,show r.getD j ([],[])=r[j] by simp[hj]]at h1;simp only[Zk,Ym]at h1;exact⟨h1.1.1.2,h1.2.2.1⟩
theorem ZEH{d:Dn}(h:Jr d=0):d.length<=32/\ ∀r∈d,JA r=true:=by
 unfold Jr at h;split at h
 .cases h
 .split at h
  .rename_i h2;exact⟨J0,Yg.1 h2⟩
  .cases h
theorem ZTM{p:Av}(h:p.1.length<=64/\p.2.length<=256):(Qn p).length<=840:=by
 have:=ZE1 p.2 p.2.length;unfold Qn ZDT;simp only[ZW,JB,ξN];omega
theorem ZIl{r:List Av}(h:JA r=true):(JD r).length<=6800:=by
 obtain⟨h1,-,h2⟩:=ZBQ h;have:=ZFD 43 840 (r.map Qn) (λx hx=>by obtain⟨p,hp,rfl⟩:=YR.1 hx;exact ZTM (h2 p hp));rw[YZ]at this;unfold JD;omega
theorem Zap{d:Dn}(h:Jr d=0):(Kc d).length<=250000:=by
 obtain⟨h1,h2⟩:=ZEH h;have:=ZFD 44 6800 (d.map JD) (λx hx=>by obtain⟨r,hr,rfl⟩:=YR.1 hx;exact ZIl (h2 r hr));rw[YZ]at this;unfold Kc;omega
set_option maxHeartbeats 1000000 in
theorem Zh7(d:Dn)(hb:smD d):ZK Tryz.prog 144 [.x (.sl (rows Jg d))] (.tup [.x (.str (Qp d).1),.x (.int .i64 (Qp d).2)]):=by
 rcases hq:Qp d with⟨u,e⟩
 unfold Qp at hq;have hsd:decide (smD d)=true:=ZI hb;refine ZH.pure (fC 144 true ?_) rfl;intro C0 E0;have uu:=ξ7 @ZNn.eq_1 @ZRG.eq_1 @ZNR.eq_1 @ZJ3 @ZOg hsd @ZH0.eq_1;have tT:=aT (aQ (aQ (aQ ZB ZQa) ZXx) ZGf ZFR) (ZCV ZGf) ZFR;refine nz ?_;refine WI.regB tT [0] ?_
 refine oS ?_;refine Wf ?_;refine WI.regB tT [0,4] ?_;refine oS ?_;refine oC (hok:=Wc) ?_;refine Wf ?_;refine WI.regB tT [0,4,15] ?_;refine Tu ?_;refine Vy ?_;refine cd (λh0=> ?_) (λh0=> ?_)
 .refine Nh ?_;rw[if_pos Vg]at hq;exact NK
 .rw[if_neg Vg]at hq;have hck:Jr d=0:=Vg
  obtain⟨hd32,hmay⟩:=ZEH hck;refine WI.regB tT [0,5] ?_;refine Wf ?_;refine WI.regB tT [5,17,18,19] ?_;refine Tu ?_;refine Wf ?_;refine WI.ownA 5 9 1 ?_;refine WI.loop (λφ os=> ∃(j:Nat),φ= [(5,.ref 0 j 0 j),(17,.x (.sl (rows Jg d))),(18,.x (.int .i64 d.length)),(19,.x (.int .i64 j))]/\os= [.rows false 9 1 (rows ZC ((d.take j).map JD))]/\j<=d.length) (ZJ d.length 19) ?_ (λφ os hI=> ?_)
  .exact Vf
  .obtain⟨j,rfl,rfl,hj⟩:=hI;refine nz ?_;refine WI.regB tT [5,17,18,19,20] ?_;refine oG (hok:=Wc) ?_;refine Vy ?_;refine cd (λh1=> ?_) (λh1=> ?_)
   .have hj4:j<d.length:=Wl
    have hmj:JA (d.getD j [])=true:=by rw[show d.getD j []=d[j] by simp[hj4]];exact hmay _ (YG hj4)
    obtain⟨hr8,-,hpb⟩:=ZBQ hmj;have hpl:=ZIl hmj;have hst:(d.take (j+1)).map JD=(d.take j).map JD++ [JD (d.getD j [])]:=by rw[JU hj4,Jd,show d.getD j []=d[j] by simp[hj4]];rfl
    have hrow:=ZEz d j hj4;generalize d.getD j []=r at hmj hr8 hpb hpl hst hrow|-;have uu:=Zz uu hrow;refine WI.regB tT [5,7,17,18,19] ?_
    iterate 2 refine oG (hok:=Wc) ?_
    refine Wf ?_;refine WI.regB tT [5,7,8,17,18,19] ?_;refine Wf ?_;refine WI.regB tT [5,8,17,18,19,23,24,25] ?_;refine Tu ?_;refine Wf ?_;refine WI.ownA 8 9 1 ?_;refine WI.orderA [5,8,17,18,19,23,24,25] ?_;refine WI.loop (λφ os=> ∃(k:Nat),φ= [(5,.ref 0 j 0 j),(8,.ref 1 k 0 k),(17,.x (.sl (rows Jg d))),(18,.x (.int .i64 d.length)),(19,.x (.int .i64 j)),(23,.x (.sl (rows Zt r))),(24,.x (.int .i64 r.length)),(25,.x (.int .i64 k))]/\os= [.rows false 9 1 (rows ZC ((d.take j).map JD)),.rows false 9 1 (rows ZC ((r.take k).map Qn))]/\k<=r.length) (ZJ r.length 25) ?_ (λφ os hI=> ?_)
    .exact Vf
    .obtain⟨k,rfl,rfl,hk⟩:=hI;refine nz ?_;refine WI.regB tT [5,8,17,18,19,23,24,25,26] ?_;refine oG (hok:=Wc) ?_;refine Vy ?_;refine cd (λh2=> ?_) (λh2=> ?_)
     .have hk4:k<r.length:=Wl
      have har:=ZCU r k hk4;have hpk:(r.getD k ([],[])).1.length<=64/\(r.getD k ([],[])).2.length<=256:=UV
      have hel:=ZE1 (r.getD k ([],[])).2 (r.getD k ([],[])).2.length;have hel2:(ZDT (r.getD k ([],[])).2).length<=800:=by unfold ZDT;omega
      have hsk:(r.take (k+1)).map Qn=(r.take k).map Qn++ [Qn (r.getD k ([],[]))]:=by rw[JU hk4,Jd,show r.getD k ([],[])=r[k] by simp[hk4]];rfl
      have hsc:decide ((r.getD k ([],[])).2.length<=1000000)=true:=ZI J0;have uu:=JJ uu har hsc;refine WI.regB tT [5,8,10,17,18,19,23,24,25] ?_
      iterate 2 refine oG (hok:=Wc) ?_
      refine oG ?_;refine oG (hok:=Wc) ?_;refine Vy ?_;refine WI.post ?_;refine WI.dregB tT [5,8,17,18,19,23,24,25] ?_;refine Wo ?_;refine Zb (hok:=Wc) ?_;refine Zm (hok:=Wc) ?_;refine ZU ?_;refine Zb (hok:=Wc) ?_;refine dQC (hok:=Wc) ?_;refine Zm (hok:=Wc) ?_
      iterate 2 refine Qx (hok:=Wc) ?_
      refine ZU ?_;refine dP ?_;refine Jm [0,1] ?_;refine KR ?_;refine nz ?_;refine WI.regB tT [5,8,17,18,19,23,24,25] ?_;refine oG (hok:=Wc) ?_;refine Wf ?_;exact⟨⟨k+1,rfl,by rw[hsk,<-ZEc];first|done|rfl,J0⟩,Wa⟩
     .obtain rfl:k=r.length:=Wl
      rw[JX];have hjl:decide ((Lib.join (r.map Qn) [43]).length<=140737488355328/\(r.map Qn).length<=140737488355328)=true:=ZI ⟨by rw[ZDr];unfold JD at hpl;omega,by rw[YZ];omega⟩;have e1:(r.map Qn).length=r.length:=YZ ..;have e2:(r.map Qn).take r.length=r.map Qn:=YO J0;have e3:Lib.join (r.map Qn) [43]=JD r:=ZDr 43 _;have uu:=ξ5 uu e1 e2 hjl e3;refine WI.post ?_;refine WI.regB tT [5,17,18,19] ?_
      refine Wn ?_;refine oC (hok:=Wc) ?_
      iterate 2 refine oG (hok:=Wc) ?_
      refine Nu ?_;refine Vr ?_;refine WI.orderA [5,17,18,19] ?_;refine WI.regB tT [5,17,18,19] ?_;refine oG (hok:=Wc) ?_;refine Wf ?_;exact⟨⟨j+1,rfl,by rw[hst,<-ZEc];first|done|rfl,J0⟩,Wa⟩
   .obtain rfl:j=d.length:=Wl
    rw[JX];have hnl:=Zap hck;have hjl:decide ((Lib.join (d.map JD) [44]).length<=140737488355328/\(d.map JD).length<=140737488355328)=true:=ZI ⟨by rw[ZDr];unfold Kc at hnl;omega,by rw[YZ];omega⟩;have e1:(d.map JD).length=d.length:=YZ ..;have e2:(d.map JD).take d.length=d.map JD:=YO J0;have e3:Lib.join (d.map JD) [44]=Kc d:=ZDr 44 _;have uu:=ξ5 uu e1 e2 hjl e3;refine WI.regB tT [11] ?_;refine oS ?_;refine oC (hok:=Wc) ?_;refine Wf ?_;refine WI.regB tT [11,50] ?_;refine oS ?_
    iterate 2 refine oG (hok:=Wc) ?_
    refine Vy ?_;refine cd (λh3=> ?_) (λh3=> ?_)
    .refine WI.regB tT [2,3] ?_;refine oS ?_;refine Uo ?_;exact GE
    .refine Nh ?_;rw[if_neg J0]at hq;exact NK
def ZLM:J8->J5
 | [.x (.sl R)]=>(ZM Jg R).bind λd=>some (decide (smD d),.tup [.x (.str (Qp d).1),.x (.int .i64 (Qp d).2)])
 |_=>none
theorem ZFC:QK Tryz.prog ZLM 144:=by
 intro args r h;unfold ZLM at h;split at h
 .obtain⟨d,rfl,i0⟩:=un ZEA h;obtain⟨h1,rfl⟩:=Yu i0;exact(Zh7 d h1)
 .cases h
theorem ZP8(r:List Av)(k:Nat)(h:k<r.length):JD (r.take (k+1))=(if k=0 then []else JD (r.take k)++ [43])++Qn (r.getD k ([],[])):=by
 have e:(r.take (k+1)).map Qn=(r.take k).map Qn++ [Qn (r.getD k ([],[]))]:=by rw[JU h,Jd,show r.getD k ([],[])=r[k] by simp[h]];rfl
 unfold JD;rw[e];split
 .rename_i h0;subst h0;simp[Qi]
 .exact Nx
theorem ZeE(r:List Av)(hr:JA r=true):ZK Tryz.prog 94 [.x (.sl (rows Zt r))] (.x (.str (JD r))):=by
 obtain⟨hr8,-,hpb⟩:=ZBQ hr;have hpl: ∀k,(JD (r.take k)).length<=6800:=λk=>by
  have:=ZFD 43 840 ((r.take k).map Qn) (λx hx=>by obtain⟨p,hp,rfl⟩:=YR.1 hx;exact ZTM (hpb p (ZBU hp)));rw[YZ,Ys]at this;have h2:min k r.length<=8:=Wl
  unfold JD;omega
 refine ZH.pure (fC 94 true ?_) rfl;intro C0 E0;have uu:= @ZSu.eq_1;have tT:=aQ ZB ZYh;refine Uc ?_;refine WI.regB tT [0,3,4] ?_;refine Wf ?_;refine WI.loop (λφ os=> ∃(k:Nat),φ= [(0,.x (.sl (rows Zt r))),(3,.x (.str (JD (r.take k)))),(4,.x (.int .i64 k))]/\os= []/\k<=r.length) (ZJ r.length 4) ?_ (λφ os hI=> ?_)
 .exact Vf
 .obtain⟨k,rfl,rfl,hk⟩:=hI;refine nz ?_;refine WI.regB tT [0,3,4,8] ?_
  refine Wn ?_
  iterate 2 refine oG (hok:=Wc) ?_
  refine Vy ?_;refine cd (λh0=> ?_) (λh0=> ?_)
  .have hk4:k<r.length:=Wl
   have hlk:=hpl k;have har:=ZCU r k hk4;have hpk:(r.getD k ([],[])).1.length<=64/\(r.getD k ([],[])).2.length<=256:=UV
   have hel:=ZE1 (r.getD k ([],[])).2 (r.getD k ([],[])).2.length;have hel2:(ZDT (r.getD k ([],[])).2).length<=800:=by unfold ZDT;omega
   have hsc:decide ((r.getD k ([],[])).2.length<=1000000)=true:=ZI J0;have uu:=JJ uu har hsc;refine WI.regB tT [0,3,4,12] ?_;refine Tu ?_;refine Vy ?_;refine cd (λh1=> ?_) (λh1=> ?_)
   .have hst:JD (r.take (k+1))=JD (r.take k)++ [43]++(r.getD k ([],[])).1++ [61]++ZDT (r.getD k ([],[])).2:=by rw[ZP8 r k hk4,if_neg J0];unfold Qn;simp
    refine WI.regB tT [0,3,4] ?_;refine Tu ?_;refine Wf ?_;refine WI.dregB tT [0,3,4] ?_;refine Wo ?_;refine ZU ?_;refine Zb (hok:=Wc) ?_;refine ZU ?_;refine Zb (hok:=Wc) ?_
    iterate 2 refine Zm (hok:=Wc) ?_
    exact Up
   .have hst:JD (r.take (k+1))=JD (r.take k)++(r.getD k ([],[])).1++ [61]++ZDT (r.getD k ([],[])).2:=by
     rw[ZP8 r k hk4,if_pos J0];obtain rfl:k=0:=Wl
     unfold Qn;simp[JD,Qi]
    refine WI.dregB tT [0,3,4] ?_;refine Wo ?_;refine ZU ?_;refine Zb (hok:=Wc) ?_;refine ZU ?_;refine Zb (hok:=Wc) ?_
    iterate 2 refine Zm (hok:=Wc) ?_
    exact Up
  .refine GR ?_;refine Uo ?_;obtain rfl:k=r.length:=Wl
   rw[JX]
def ZNX:J8->J5
 | [.x (.sl R)]=>(ZM Zt R).bind λr=>some (decide (JA r=true),.x (.str (JD r)))
 |_=>none
theorem ZP9:QK Tryz.prog ZNX 94:=by
 intro args r h;unfold ZNX at h;split at h
 .obtain⟨r,rfl,i0⟩:=un ZEE h;obtain⟨h1,rfl⟩:=Yu i0;exact(ZeE r h1)
 .cases h
theorem ZQO(d:Dn)(k:Nat)(h:k<d.length):Kc (d.take (k+1))=(if k=0 then []else Kc (d.take k)++ [44])++JD (d.getD k []):=by
 have e:(d.take (k+1)).map JD=(d.take k).map JD++ [JD (d.getD k [])]:=by rw[JU h,Jd,show d.getD k []=d[k] by simp[h]];rfl
 unfold Kc;rw[e];split
 .rename_i h0;subst h0;simp[Qi]
 .exact Nx
theorem ZhR(d:Dn)(hb:smD d)(hld:d.length<=1000000)(hlr: ∀r∈d,r.length<=1000000):ZK Tryz.prog 105 [.x (.sl (rows Jg d))] (.tup [.x (.str (Qp d).1),.x (.int .i64 (Qp d).2)]):=by
 rcases hq:Qp d with⟨u,e⟩
 unfold Qp at hq;have hsd:(decide (smD d)&&(decide (d.length<=1000000)&&decide (∀r∈d,r.length<=1000000)))=true:=by rw[ZI hb,ZI hld,ZI hlr];rfl
 refine ZH.pure (fC 105 true ?_) rfl;intro C0 E0;have uu:=ξ5 @ZNg.eq_1 @ZNX.eq_1 @ZJ3 @ZOg hsd;have tT:=aQ (aQ ZB ZQX) ZP9;refine nz ?_;refine WI.regB tT [0] ?_
 refine oS ?_;refine Wf ?_;refine WI.regB tT [0,4] ?_;refine oS ?_;refine oC (hok:=Wc) ?_;refine Wf ?_;refine WI.regB tT [0,4,10] ?_;refine Tu ?_;refine Vy ?_;refine cd (λh0=> ?_) (λh0=> ?_)
 .refine Nh ?_;rw[if_pos Vg]at hq;exact NK
 .rw[if_neg Vg]at hq;have hck:Jr d=0:=Vg
  obtain⟨hd32,hmay⟩:=ZEH hck;have hpl: ∀k,(Kc (d.take k)).length<=250000:=λk=>by
   have:=ZFD 44 6800 ((d.take k).map JD) (λx hx=>by obtain⟨p,hp,rfl⟩:=YR.1 hx;exact ZIl (hmay p (ZBU hp)));rw[YZ,Ys]at this;have h2:min k d.length<=32:=Wl
   unfold Kc;omega
  refine WI.regB tT [0,5] ?_;refine Wf ?_;refine WI.regB tT [0,5,6] ?_;refine Wf ?_;refine WI.loop (λφ os=> ∃(k:Nat),φ= [(0,.x (.sl (rows Jg d))),(5,.x (.str (Kc (d.take k)))),(6,.x (.int .i64 k))]/\os= []/\k<=d.length) (ZJ d.length 6) ?_ (λφ os hI=> ?_)
  .exact Vf
  .obtain⟨k,rfl,rfl,hk⟩:=hI;refine nz ?_;refine WI.regB tT [0,5,6,15] ?_
   refine Wn ?_
   iterate 2 refine oG (hok:=Wc) ?_
   refine Vy ?_;refine cd (λh1=> ?_) (λh1=> ?_)
   .have hk4:k<d.length:=Wl
    have hlk:=hpl k;have hrow:=ZEz d k hk4;have hmk:JA (d.getD k [])=true:=by rw[show d.getD k []=d[k] by simp[hk4]];exact hmay _ (YG hk4)
    have hpk:=ZIl hmk;have uu:=JJ uu hrow (ZI hmk);refine WI.regB tT [0,5,6,19] ?_;refine Tu ?_;refine Vy ?_;refine cd (λh2=> ?_) (λh2=> ?_)
    .have hst:Kc (d.take (k+1))=Kc (d.take k)++ [44]++JD (d.getD k []):=by rw[ZQO d k hk4,if_neg J0]
     refine WI.regB tT [0,5,6] ?_;refine Tu ?_;refine Wf ?_;refine WI.regB tT [0,5,6] ?_;refine Wn ?_;refine oS ?_
     iterate 2 refine oG (hok:=Wc) ?_
     exact GD
    .have hst:Kc (d.take (k+1))=Kc (d.take k)++JD (d.getD k []):=by
      rw[ZQO d k hk4,if_pos J0];obtain rfl:k=0:=Wl
      simp[Kc,Qi]
     refine WI.regB tT [0,5,6] ?_;refine Wn ?_;refine oS ?_
     iterate 2 refine oG (hok:=Wc) ?_
     exact GD
   .obtain rfl:k=d.length:=Wl
    have hlk:=hpl d.length;rw[JX]at hlk|-;refine WI.regB tT [5,31] ?_;refine oS ?_
    iterate 2 refine oG (hok:=Wc) ?_
    refine Vy ?_;refine cd (λh3=> ?_) (λh3=> ?_)
    .refine WI.regB tT [2,3] ?_;refine oS ?_;refine Uo ?_;exact GE
    .refine Nh ?_;rw[if_neg J0]at hq;exact NK
def ZWE:J8->J5
 | [.x (.sl R)]=>(ZM Jg R).bind λd=>some (decide (smD d)&&(decide (d.length<=1000000)&&(decide (∀r∈d,r.length<=1000000))),.tup [.x (.str (Qp d).1),.x (.int .i64 (Qp d).2)])
 |_=>none
theorem ZRY:QK Tryz.prog ZWE 105:=by
 intro args r h;unfold ZWE at h;split at h
 .obtain⟨d,rfl,i0⟩:=un ZEA h;obtain⟨h1,h2,h3,rfl⟩:=fn3 i0;exact(ZhR d h1 h2 h3)
 .cases h
end Go.Proofs.YtiogclkbccdefaaGreatDoor
end
section
namespace Go.Proofs
open Go.Shelf Go.RowKit Go.Lib Go.Sort
def encAv(x:ByteArray×ByteArray):List Value:= [.string x.1,.string x.2]
def cmpS(a b:ByteArray):Int:=if Op.bytesLess a.toList b.toList=true then-1 else if Op.bytesLess b.toList a.toList=true then 1 else 0
def cmpAv(x y:ByteArray×ByteArray):Int:=cmpS x.1 y.1
theorem ZcV(s:ByteArray)(W:World):Calls Tryz.prog 129 #[.string s] W λe w'=>e= .returned (.bool false)/\w'=W:=by
 go_enter Tryz.func129,Tryz.ntmps129
 go_wp2
 go_ret
 exact⟨J1,rfl⟩
theorem cmpS_c(a b:ByteArray)(W:World):Calls Tryz.prog 82 #[.string a,.string b] W λe w'=>e= .returned (.int .i64 (cmpS a b))/\w'=W:=by
 go_enter Tryz.func82,Tryz.ntmps82
 go_wp2_with (go_at_call 129;refine(ZcV _ _).mono ?_;rintro e w' ⟨rfl,hw⟩;rw[hw])
 all_goals(go_ret;refine⟨?_,rfl⟩;unfold cmpS;(repeat' split)<;>first|rfl|(exfalso;simp_all;done)|(exfalso;rcases YtiogclkbccdefaaGreatDoor.bl_tot a.toList b.toList (by simp_all)with hh|hh<;>simp_all))
theorem ltAv(x y:ByteArray×ByteArray):ltOf cmpAv x y=Op.bytesLess x.1.toList y.1.toList:=by
 unfold ltOf cmpAv cmpS;cases h:Op.bytesLess x.1.toList y.1.toList<;>cases h2:Op.bytesLess y.1.toList x.1.toList<;>simp
theorem swoAv:SWO (ltOf cmpAv) where
 irrefl x:=by rw[ltAv];exact YtiogclkbccdefaaGreatDoor.bl_irr _
 trans x y z h1 h2:=by rw[ltAv]at*;exact YtiogclkbccdefaaGreatDoor.bl_trans _ _ _ h1 h2
 ntrans x y z h1 h2:=by
  rw[ltAv]at*;cases h:Op.bytesLess x.1.toList z.1.toList with
  |false=>rfl
  |true=>
   by_cases e1:x.1.toList=y.1.toList
   .rw[e1]at h;rw[h]at h2;cases h2
   .rcases YtiogclkbccdefaaGreatDoor.bl_tot _ _ e1 with h3|h3
    .rw[h3]at h1;cases h1
    .have:=YtiogclkbccdefaaGreatDoor.bl_trans _ _ _ h3 h;rw[this]at h2;cases h2
theorem Zgb(x y:ByteArray×ByteArray)(W:World):Calls Tryz.prog 143 #[.agg #[.string x.1,.string x.2],.agg #[.string y.1,.string y.2]] W λe w'=>e= .returned (.int .i64 (cmpAv x y))/\ ∃q os',w'=grow (W.drewN q) os':=by
 have hcon:=λW'=>cmpS_c x.1 y.1 W'
 unfold cmpAv;generalize cmpS x.1 y.1=r at hcon|-
 go_enter Tryz.func143,Tryz.ntmps143
 go_wp2_with (go_at_call 82;refine(hcon _).mono ?_;rintro e w' ⟨rfl,rfl⟩)
 go_ret
 exact⟨rfl,0,_,by rw[alloc_eq_grow,alloc_eq_grow,grow_grow];rfl⟩
theorem cmpLaysAv(blk off size:Nat)(w:World):CmpLays Tryz.prog 143 #[] encAv 2 cmpAv blk off size w:=λ_ _ _ _ x y=>Zgb x y _
theorem ZWF{α:Type}[Inhabited α](enc:α->List Value)(k:Nat){w:World}{g n:Nat}{os:Array Obj}{cur:Array Value}{e:TypeId}{fr:Nat×Nat}(d:Array α)(hb:w.heap[g]? =some (.cells cur e fr)):
  (sortWorldK enc k w g 0 n d os).heap[g]? =some (.cells (putCells id 0 (flatK enc k d) cur) e fr):=by
 have hg:g<w.heap.size:=(ξH hb).1;unfold sortWorldK putRowK;rw[heap_grow_old _ _ (by simpa using hg)];simp[putRow,mapBlock,Sort.ahead,ZO9,hb,onCells]
theorem grown_sortK{α:Type}[Inhabited α](enc:α->List Value)(k:Nat){w:World}{g n:Nat}{os:Array Obj}(d:Array α):w.grownBy (sortWorldK enc k w g 0 n d os) (some g):=by
 unfold sortWorldK putRowK;refine⟨rfl,rfl,rfl,J1,λk hk hne=> ?_⟩;rw[heap_grow_old _ _ (by simpa using hk)];have:g≠k:=λe=>hne (by rw[e])
 simp[putRow,mapBlock,Sort.ahead,ZO9,this]
theorem ZZr(cur F:Array Value)(h:F.size<=cur.size):(putCells id 0 F cur).toList.take F.size=F.toList:=by
 apply ZBj;intro j;by_cases hj:j<F.size
 .rw[List.getElem?_take_of_lt hj,ξO,ξO];simp[putCells,hj,show j<cur.size by omega]
 .rw[List.getElem?_take_eq_none J0,ξY W3]
theorem own_sortK{α:Type}[Inhabited α](enc:α->List Value)(k:Nat){w:World}{g n cap:Nat}{e:TypeId}{os:Array Obj}{cur:Array Value}{d:Array α}{m:Nat}(hm:d.size=m)(hb:w.heap[g]? =some (.cells cur e (0,0)))(h1:m<=cap)(h2:cap<=maxLen)(h3:cur.size=cap*k):
  (sortWorldK enc k w g 0 n d os).ownsRow 0 e k (.slice (some ⟨g,0,none⟩) m cap) m (flatK enc k d).toList:=by
 subst hm;have hle:d.size*k<=cap*k:=Ku _ h1;exact⟨J1,.inr ⟨g,cap,_,rfl,KG _,ZWF enc k d hb,h1,h2,by simp[putCells,h3],by
  have:=ZZr cur (flatK enc k d) W3;rwa [size_flatK]at this⟩⟩
end Go.Proofs
end
section
namespace Go.Proofs.YtiogclkbccdefaaGreatDoor
open Go.RowKit Go.Bo Go.Ab
def ZDR(p:Av):List Av->List Av
 | []=> [p]
 |q::o=>if Op.bytesLess q.1 p.1=true then q::ZDR p o else p::q::o
def ZBC(r:List Av):List Av:=r.foldl (λo p=>ZDR p o) []
theorem ZKW(p:Av): ∀o,(ZDR p o).Perm (p::o)
 | []=>ZJC _
 |q::o=>by
  unfold ZDR;split
  .exact((ZKW p o).cons q).trans (List.Perm.swap p q o)
  .exact ZJC _
theorem ZNG: ∀(r o:List Av),(r.foldl (λo p=>ZDR p o) o).Perm (r++o)
 | [],o=>ZJC _
 |p::r,o=>by
  rw[ZJD];exact(ZNG r _).trans (((ZKW p o).append_left r).trans List.perm_middle)
theorem ZFi(r:List Av):(ZBC r).Perm r:=by have:=ZNG r [];rwa [Ks]at this
theorem ZJY(r:List Av):(ZBC r).length=r.length:=(ZFi r).length_eq
theorem ZaK(r:List Av)(p:Av):ZBC (r++ [p])=ZDR p (ZBC r):=by unfold ZBC;rw[ZL4];rfl
theorem ZZw(a b c:Tx)(h1:Op.bytesLess a b=false)(h2:Op.bytesLess b c=false):Op.bytesLess a c=false:=by
 cases h:Op.bytesLess a c with
 |false=>rfl
 |true=>
  by_cases e1:a=b
  .subst e1;rw[h]at h2;cases h2
  .rcases bl_tot _ _ e1 with h3|h3
   .rw[h3]at h1;cases h1
   .have:=bl_trans _ _ _ h3 h;rw[this]at h2;cases h2
abbrev SrA(l:List Av):Prop:=l.Pairwise λa b=>Op.bytesLess b.1 a.1=false
theorem ZLp(p:Av): ∀o,SrA o->SrA (ZDR p o)
 | [],_=>List.pairwise_singleton _ _
 |q::o,h=>by
  obtain⟨h1,h2⟩:=ZFv.1 h;unfold ZDR;split
  .rename_i hl;refine ZFv.2 ⟨λx hx=> ?_,ZLp p o h2⟩;rcases Kn.1 ((ZKW p o).mem_iff.1 hx)with rfl|hx
   .exact ZVq _ _ hl
   .exact h1 x hx
  .rename_i hl;have hl:Op.bytesLess q.1 p.1=false:=Us
   refine ZFv.2 ⟨λx hx=> ?_,h⟩;rcases Kn.1 hx with rfl|hx
   .exact hl
   .exact ZZw _ _ _ (h1 x hx) hl
theorem ZKM: ∀(r o:List Av),SrA o->SrA (r.foldl (λo p=>ZDR p o) o)
 | [],o,h=>h
 |p::r,o,h=>by rw[ZJD];exact ZKM r _ (ZLp p o h)
theorem ZUJ(r:List Av):SrA (ZBC r):=ZKM r [] List.Pairwise.nil
theorem ZfU{r l:List Av}(hp:l.Perm r)(hs:SrA l)(hn:(r.map (·.1)).Nodup):l=ZBC r:=by
 refine List.Perm.eq_of_pairwise (le:=λa b=>Op.bytesLess b.1 a.1=false) (λa b ha hb h1 h2=> ?_) hs (ZUJ r) (hp.trans (ZFi r).symm);have ha':=hp.mem_iff.1 ha;have hb':=(ZFi r).mem_iff.1 hb;have he:a.1=b.1:=ZHo λhne=>by
  rcases bl_tot _ _ hne with h|h
  .rw[h]at h2;cases h2
  .rw[h]at h1;cases h1
 obtain⟨i,hi,rfl⟩:=ZWQ ha';obtain⟨j,hj,rfl⟩:=ZWQ hb';have key: ∀(i j:Nat) (hi:i<r.length) (hj:j<r.length),i<j->r[i].1≠r[j].1:=λi j hi hj hij=>by
  have:=ZE8.1 hn i j U8 WX hij;exact V4
 have:i=j:=by
  rcases ZaW i j with h|h|h
  .exact absurd he (key i j hi hj h)
  .exact h
  .exact absurd he.symm (key j i hj hi h)
 subst this;rfl
def bsA(p:Av):ByteArray×ByteArray:=(ZT p.1,ZT p.2)
theorem ZgF(x:ByteArray×ByteArray):bsA (x.1.toList,x.2.toList)=x:=by
 have key: ∀b:ByteArray,ZT b.toList=b:=λb=>by
  unfold ZT;rw[ByteArray.toList_eq]
 unfold bsA;rw[key,key]
theorem Zhx(r:List Av)(hn:(r.map (·.1)).Nodup)(d':Array (ByteArray×ByteArray))(hp:Sort.PermIn 0 r.length (r.map bsA).toArray d')(hs:Sort.SortedIn (Go.Proofs.ltOf Go.Proofs.cmpAv) 0 r.length d'):d'=((ZBC r).map bsA).toArray:=by
 obtain⟨hsz,-,hpm⟩:=hp;have hsz':d'.size=r.length:=by rw[hsz];simp
 have hex:(d'.extract 0 r.length).toList=d'.toList:=by rw[<-hsz'];simp
 have hex2:((r.map bsA).toArray.extract 0 r.length).toList=r.map bsA:=by simp[YO]
 rw[hex,hex2]at hpm;have hl:d'.toList=(d'.toList.map λx=>(x.1.toList,x.2.toList)).map bsA:=by
  rw[Jz]
  conv=>lhs;rw[<-ZO7 d'.toList]
  exact ZBu λx _=>(ZgF x).symm
 have hperm:(d'.toList.map λx=>(x.1.toList,x.2.toList)).Perm r:=by
  have:=hpm.map λx:ByteArray×ByteArray=>(x.1.toList,x.2.toList)
  rw[Jz]at this;have e:(r.map ((λx:ByteArray×ByteArray=>(x.1.toList,x.2.toList))∘bsA))=r:=by
   conv=>rhs;rw[<-ZO7 r]
   exact ZBu λp _=>by simp[bsA,Js]
  rwa [e]at this
 have hsr:SrA (d'.toList.map λx=>(x.1.toList,x.2.toList)):=by
  show List.Pairwise _ _;rw[Zaz,ZE8];intro i j hi hj hij;have:=hs i j (KG _) hij (by rw[<-hsz'];simpa using hj);rw[Go.Proofs.ltAv]at this;simp at hi hj;simp only[getElem!_pos d' i hi,getElem!_pos d' j hj]at this;exact V4
 apply ZDs.1;rw[hl,ZfU hperm hsr hn]
theorem ZUh(r:List Av)(i:Nat)(hi:i<r.length):(Go.Sort.flatK Go.Proofs.encAv 2 (r.map bsA).toArray).toList[i*2]? =some (Value.string (ZT r[i].1))/\(Go.Sort.flatK Go.Proofs.encAv 2 (r.map bsA).toArray).toList[i*2+1]? =some (Value.string (ZT r[i].2)):=by
 have e1:i*2/2=i:=Wl
 have e2:(i*2+1)/2=i:=Wl
 have e3:i*2 % 2=0:=Wl
 have e4:(i*2+1) % 2=1:=Wl
 have hg:(r.map bsA)[i]! =bsA r[i]:=by rw[getElem!_pos _ i U8];simp
 constructor
 .simp[Go.Sort.flatK,show i*2<r.length*2 by omega,e1,e3,hg,Go.Proofs.encAv,bsA,hi]
 .simp[Go.Sort.flatK,show i*2+1<r.length*2 by omega,e2,e4,hg,Go.Proofs.encAv,bsA,hi]
set_option maxHeartbeats 1000000 in
theorem ZiW(e:Nat)(r:List Av)(hn:(r.map (·.1)).Nodup)(hne:r≠ [])(hl:r.length<=1000000)(lim:Nat)(hlim:lim<=64):ZQ Tryz.prog 175 [.ref 0 r.length 0 r.length,.x (.int .i64 0),.x (.int .i64 r.length),.x (.int .i64 lim),.fn 143 []] [.rows false e 2 (rows Zt r)] (.tup []) [.rows false e 2 (rows Zt (ZBC r))]:=by
 intro c E vs R hvl;obtain⟨hsz,hv⟩:=hvl;obtain⟨v0,v1,v2,v3,v4,rfl⟩: ∃v0 v1 v2 v3 v4,vs= #[v0,v1,v2,v3,v4]:=by
  obtain⟨vl⟩:=vs
  match vl,hsz with
  | [a,b,c,d,e],_=>exact⟨a,b,c,d,e,rfl⟩
 have h0:=hv 0 _ v0 rfl rfl;have h1:=hv 1 _ v1 rfl rfl;have h2:=hv 2 _ v2 rfl rfl;have h3:=hv 3 _ v3 rfl rfl;have h4:=hv 4 _ v4 rfl rfl;clear hv hsz;obtain rfl:v1= .int .i64 0:=by cases h1 with|x h=>cases h;rfl
 obtain rfl:v2= .int .i64 r.length:=by cases h2 with|x h=>cases h;rfl
 obtain rfl:v3= .int .i64 lim:=by cases h3 with|x h=>cases h;rfl
 obtain rfl:v4= .func (.func 143) #[] #[]:=by
  cases h4 with
  |fn vs hl _=>rw[show vs= #[]from Zg1 hl.symm]
 clear h1 h2 h3 h4;have hlen:(rows Zt r).length=r.length:=ZP _ _;cases h0 with
 |ref hr _=>
  have ho: [Ob.rows false e 2 (rows Zt r)][0]? =some (Ob.rows false e 2 (rows Zt r)):=rfl;obtain⟨k1,k2⟩:=hr.at ho rfl;obtain⟨k3,b,a,cap,a',cap',k4,rfl,k6,k7,k8,k9,k10,k11⟩:=k2 hlen;obtain⟨rfl,rfl⟩:=k8 rfl;obtain⟨p,hp,hok⟩:=R.at ho;rw[hp]at k4;have hpb:p=(b,.slice a' r.length cap'):=ZCf k4;subst hpb;have hpos:0<r.length:=ZJs.2 hne;obtain⟨xs,⟨q1,q2⟩,q3,q4⟩:=hok;rcases q2 with⟨q2,q5⟩|⟨g,cp,cells,fr,q5,q6,q7,q8,q9,q10,q11⟩
  .rw[hlen]at q5;omega
  .simp only[Value.slice.injEq]at q5;obtain⟨rfl,_,rfl⟩:=q5;rw[hlen]at q10 q7 q1;have hfr:fr=(0,0):=by
    rcases q11 with q11|⟨q11,_⟩
    .exact q11
    .cases q11
   subst hfr;have hxs:xs=(Go.Sort.flatK Go.Proofs.encAv 2 (r.map bsA).toArray).toList:=by
    apply List.ext_getElem (by rw[q1];simp);intro t ht ht2;have htr:t/2<r.length:=by rw[q1]at ht;omega
    obtain⟨f1,f2⟩:=ZUh r (t/2) htr;have hrw:(rows Zt r)[t/2]? =some [X.str r[t/2].1,X.str r[t/2].2]:=by simp[rows,htr,Zt]
    apply ZCf;rw[<-Zx ht2];rcases Nat.mod_two_eq_zero_or_one t with hm|hm
    .have et:t/2*2=t:=Wl
     rw[et]at f1;rw[f1];have:=q4 (t/2) _ 0 (.str r[t/2].1) xs[t] hrw rfl (by rw[JP,et];exact Zx ht);generalize xs[t]=u at this|-;cases this;rfl
    .have et:t/2*2+1=t:=Wl
     rw[et]at f2;rw[f2];have:=q4 (t/2) _ 1 (.str r[t/2].2) xs[t] hrw rfl (by rw[et];exact Zx ht);generalize xs[t]=u at this|-;cases this;rfl
   have hglt:=(ξH q6).1;have hds:(r.map bsA).toArray.size=r.length:=TC
   have hH:Go.Sort.HoldsK Go.Proofs.encAv 2 E.w g 0 (r.map bsA).toArray:=by
    intro j hj;rw[Go.Sort.size_flatK,hds]at hj;have hjx:cells.toList[j]? =xs[j]? :=by rw[<-q10,List.getElem?_take_of_lt hj]
    refine⟨?_,by simp[World.frozen?,q6]⟩;simp only[World.cell?,q6,Option.isSome_none,JV,if_false,Je];rw[<-ξO,hjx,hxs,ξO];have hjs:j<(Go.Sort.flatK Go.Proofs.encAv 2 (r.map bsA).toArray).size:=by rw[Go.Sort.size_flatK,hds];exact hj
    rw[ξJ hjs,getElem!_pos _ j hjs];rfl
   have eg: ∀args w,(callFunc 143 args).run Tryz.prog w= .ok (.enter 143 args) w:=Go.Proofs.enters_of Tryz.func143 J3 rfl;have hk2: ∀x,(Go.Proofs.encAv x).length=2:=λ_=>rfl
   have h11: ∀x,∀v∈Go.Proofs.encAv x,v.oneCell'=true:=λx v hv=>by simp[Go.Proofs.encAv]at hv;rcases hv with rfl|rfl<;>rfl
   have:=Go.Proofs.AnyQ.pdqsortCmpFunc_all Tryz.pdqAva 2 (by exact Tryz.isAgg188) (by exact Tryz.sizeOf188) Go.Proofs.encAv Go.Proofs.cmpAv 143 #[] Go.Proofs.swoAv g 0 cap' (r.map bsA).toArray E.w eg (Go.Proofs.cmpLaysAv g 0 _ E.w) ⟨hk2,h11,hH,hglt⟩ (r.length+1) 0 r.length lim (r.map bsA).toArray E.w J0 rfl (Go.Proofs.SWK.start hH) (KG _) (by rw[hds];exact Zp _) (by rw[hds];omega) J0 (Or.inl rfl);rw[hds]at this;refine this.mono ?_;rintro _ w' ⟨rfl,nn,oss,rfl⟩;have hps:=Go.Sort.pdq_sorts (Go.Proofs.ltOf Go.Proofs.cmpAv) Go.Proofs.swoAv (r.map bsA).toArray 0 r.length lim true true (KG _) (by rw[hds];exact Zp _) (Or.inl rfl);have hd':=Zhx r hn _ hps.1 hps.2;rw[hd'];have hown:=Go.Proofs.own_sortK (n:=nn) (os:=oss) Go.Proofs.encAv 2 (d:=((ZBC r).map bsA).toArray) (m:=r.length) (by simp[ZJY]) q6 q7 q8 q9;have hg:=Go.Proofs.grown_sortK (n:=nn) (os:=oss) (w:=E.w) (g:=g) Go.Proofs.encAv 2 ((ZBC r).map bsA).toArray;have hls:(rows Zt (ZBC r)).length=r.length:=by rw[ZP,ZJY]
   obtain⟨R',ev⟩:=R.set ho hp _ (.rows false e 2 (rows Zt (ZBC r))) (b,.slice (some ⟨g,0,none⟩) r.length cap') ⟨hg.os,hg.tape,hg.output,hg.size,λk hk hm=>hg.block k hk (λe=>hm (by cases e;rfl))⟩ (λb' hb'=> .inl hb') (λsz rs1 h=>by
     simp only[Ob.sl?,Yj,YN]at h;obtain⟨rfl,rfl⟩:=h;exact⟨(rows Zt (ZBC r)).length,rfl,.inl ⟨by rw[hls,hlen],rfl⟩⟩) (λk h=>W6) (λev=>by
     refine⟨_,by rw[hls];exact QJ.of_owns hown false,λz hz=> ?_,λi z j x v h1 h2 h3=> ?_⟩
     .obtain⟨q,_,rfl⟩:=YR.1 hz;rfl
     .unfold rows at h1;rw[YE]at h1;obtain⟨q,hq,rfl⟩:=Za h1;have hi:=(ZV hq).1;obtain⟨f1,f2⟩:=ZUh (ZBC r) i hi;have hqe:(ZBC r)[i]=q:=(ZV hq).2;rw[hqe]at f1 f2
      match j with
      |0=>
       simp only[Zt,ZC2,Yj]at h2;subst h2;rw[JP,f1]at h3;cases h3;exact .str _
      |1=>
       simp only[Zt,ZC2,ZBn,Yj]at h2;subst h2;rw[f2]at h3;cases h3;exact .str _
      |j+2=>simp[Zt]at h2)
   exact⟨_,_,rfl,rfl,R',ev,.tup #[] rfl (λj d v h=>WG)⟩
theorem ZYW(n:Nat)(h:n<=1000000):ZK Tryz.prog 176 [.x (.int .u64 n)] (.x (.int .i64 (Lib.bitLen n))):=by
 intro w st vs hst hvl;obtain⟨hsz,hv⟩:=hvl;obtain⟨v0,rfl⟩: ∃v0,vs= #[v0]:=by
  obtain⟨vl⟩:=vs
  match vl,hsz with
  | [a],_=>exact⟨a,rfl⟩
 have h0:=hv 0 _ v0 rfl rfl;obtain rfl:v0= .int .u64 n:=by cases h0 with|x h=>cases h;rfl
 have:=Tryz.bits_Len (n:Int) w J0 J0;rw[ZHi]at this;refine this.mono ?_;rintro e w' ⟨rfl,rfl⟩;exact⟨_,st,rfl,Kept.refl _ _,λ_ _ h=>h,λ_ _ h=> .inl h,.x (.int _ _)⟩
def ZJI:J8->J5
 | [.x (.int .u64 n)]=>some (decide (0<=n/\n<=1000000),.x (.int .i64 (Lib.bitLen n.toNat)))
 |_=>none
theorem ZT2:QK Tryz.prog ZJI 176:=by
 intro args r h;unfold ZJI at h;split at h
 .rename_i n;obtain⟨h1,rfl⟩:=Yu h;exact(by obtain⟨m,rfl⟩: ∃m:Nat,n=m:=⟨n.toNat,J0⟩;rw[ZHi];exact ZYW m J0)
 .cases h
def Zdv:Tabs:=ZDy (YH) 176 ZJI
theorem ZXS:SsOk Tryz.prog Zdv:=ZDF (ZB) (QZ 176) ZT2
theorem ZXD:Enters Tryz.prog 175:=QZ 175
theorem ZfX(e:Nat)(r:List Av)(hn:(r.map (·.1)).Nodup)(hne:r≠ [])(hl:r.length<=1000000):ZQ Tryz.prog 142 [.ref 0 r.length 0 r.length,.fn 143 []] [.rows false e 2 (rows Zt r)] (.tup []) [.rows false e 2 (rows Zt (ZBC r))]:=by
 have hbl:Lib.bitLen r.length<=62:=Lib.bitLen_le r.length 62 J0 J0;have hw:IntKind.u64.wrap (r.length:Int)=r.length:=by simp[IntKind.wrap,IntKind.bits,IntKind.signed];omega
 have hc:=ZiW e r hn hne hl (Lib.bitLen r.length) J0;have hdd:decide (0<=(r.length:Int)/\(r.length:Int)<=1000000)=true:=ZI J0;refine ZH.mcalls (fC 142 true ?_);intro C0 E0;have uu:=ξ7 @ZJI.eq_1 hw hdd @ZHT @ZHB @ZHI @ZHP;have tT:=(ZCz ZXS ZXD hc);refine rg [0,1,4] ?_;refine WI.regB tT [] ?_
 refine Wn ?_;refine Vm ?_;refine oC ?_;refine oS ?_;refine oC ?_;refine osN ?_
 first|refine lfN ?_|refine ZjW ?_|refine Zje ?_
 exact Gf
theorem ZTS:Enters Tryz.prog 142:=QZ 142
def ZCu(p:Av):Av:=(ZE p.1,fld p.2)
def KM(r:List Av):List Av:=ZBC (r.map ZCu)
def KX(r:List Av):Bool:=r.all λp=> !(fld p.2== [])
def JW(s:Tx):Tx×Int:=if(YX s).2≠0 then([],(YX s).2)else if(YX s).1.all KX=true then Qp ((YX s).1.map KM)else([],5)
theorem ZQH(r:List Av): ∀n,n<=r.length->okP r n=true->(Qs (r.take n)).Nodup
 |0,_,_=>by simp[Qs]
 |n+1,hn,h=>by
  rw[okP,Zk]at h;have ih:=ZQH r n J0 h.1;have h2:=h.2;unfold ZAh at h2;simp only[Zk,ZGo,decide_eq_false_iff_not]at h2;have hg:r.getD n ([],[])=r[n]:=by simp[show n<r.length by omega]
  rw[hg]at h2;unfold Qs at ih h2|-;rw[JU J0,Jd,ZEx];refine⟨ih,J1,λa ha b hb=> ?_⟩;simp only[YM,ZAf,Qf]at hb;subst hb;rintro rfl;exact h2.2.2.2 ha
theorem ZXr{r:List Av}(h:JA r=true):((r.map ZCu).map (·.1)).Nodup:=by
 unfold JA at h;rw[Zk]at h;have:=ZQH r r.length (Zp _) h.1;rw[JX]at this;rw[Jz];exact this
theorem ZSj(r:List Av):(KM r).length=r.length:=by unfold KM;rw[ZJY,YZ]
def ZBh(r:List Av)(k:Nat):List Av:=(r.take k).map ZCu++r.drop k
theorem ZSk(r:List Av)(k:Nat):(ZBh r k).length=r.length:=by unfold ZBh;simp;omega
theorem ZeG(r:List Av)(k:Nat)(h:k<r.length):(rows Zt (ZBh r k))[k]? =some [X.str (r.getD k ([],[])).1,X.str (r.getD k ([],[])).2]:=by
 have e:(ZBh r k)[k]? =some (r.getD k ([],[])):=by
  unfold ZBh;rw[QL W3];simp[h,ZPS (Nat.le_of_lt h)]
 unfold rows;rw[YE,e];rfl
theorem ZcW(r:List Av)(k:Nat)(h:k<r.length):(rows Zt (ZBh r (k+1)))[k]? =some [X.str (ZE (r.getD k ([],[])).1),X.str (fld (r.getD k ([],[])).2)]:=by
 have e:(ZBh r (k+1))[k]? =some (ZCu (r.getD k ([],[]))):=by
  unfold ZBh;rw[Yc W3,YE,KQ,if_pos J0];simp[h]
 unfold rows;rw[YE,e];rfl
theorem ZbZ(r:List Av)(k:Nat)(h:k<r.length):(rows Zt (ZBh r k)).set k [X.str (ZE (r.getD k ([],[])).1),X.str (fld (r.getD k ([],[])).2)]=rows Zt (ZBh r (k+1)):=by
 have e:(ZBh r k).set k (ZCu (r.getD k ([],[])))=ZBh r (k+1):=by
  unfold ZBh;rw[ZDS _ _ W3,JU h,Jd];have h1:k-((r.take k).map ZCu).length=0:=W3
  rw[h1,ξU h,ZDX,Yw];simp[h]
 rw[<-e];unfold rows;rw[ZMT];rfl
theorem Zci(r:List Av):ZBh r r.length=r.map ZCu:=by unfold ZBh;simp
theorem ZYq(r:List Av):ZBh r 0=r:=by unfold ZBh;simp
def ZDV(d:Dn)(j:Nat):Dn:=(d.take j).map KM++d.drop j
theorem ZbK(d:Dn)(j:Nat):(ZDV d j).length=d.length:=by unfold ZDV;simp;omega
theorem Zdr(d:Dn)(j:Nat)(h:j<d.length):(ZDV d j).getD j []=d.getD j []:=by
 unfold ZDV;rw[ZDx,QL W3];simp[h,ZPS (Nat.le_of_lt h)]
theorem Zb6(d:Dn)(j:Nat)(h:j<d.length):(ZDV d j).set j (KM (d.getD j []))=ZDV d (j+1):=by
 unfold ZDV;rw[ZDS _ _ W3,JU h,Jd];have h1:j-((d.take j).map KM).length=0:=W3
 rw[h1,ξU h,ZDX,Yw];simp[h]
theorem ZbX(d:Dn):ZDV d d.length=d.map KM:=by unfold ZDV;simp
theorem ZZR(d:Dn):ZDV d 0=d:=by unfold ZDV;simp
def ZSt:J8->J5
 | [.x (.str s)]=>some (decide (s.length<=1000000),.x (.str (fld s)))
 |_=>none
theorem ZYs:QK Tryz.prog ZSt 141:=by
 intro args r h;unfold ZSt at h;split at h
 .obtain⟨h1,rfl⟩:=Yu h;exact(Zhi _ h1)
 .cases h
theorem ZT7:Enters Tryz.prog 121:=QZ 121
def FZ(d:Dn):J7:=ZFx 2 (d.map (rows Zt))
theorem ZhX(d:Dn):(FZ d).length=d.length:=by unfold FZ;rw[ZGj,YZ]
theorem ZfM(d:Dn):frzL (List.range' 1 d.length) (obD d)= .drw 154 1 (RF d)::FZ d:=by
 have h:=ZU7 (.drw 154 1 (RF d)) 188 2 (d.map (rows Zt)) [];rw[YZ]at h;exact h
theorem ZeT(d:Dn):ZCs [0] (.drw 154 1 (RF d)::FZ d)= [.drw 154 1 (Ki (rows Jg d))]:=by
 have h3:=Zfk 154 2 (d.map (rows Zt));have h4:((d.map (rows Zt)).map λrs=> [X.sl rs])=rows Jg d:=by rw[Jz];rfl
 rw[h4]at h3;exact h3
set_option maxHeartbeats 4000000 in
theorem Zez(s:Tx)(d:Dn)(hq:YX s=(d,0))(hne:s≠ []):ZK Tryz.prog 96 [.x (.str s)] (.tup [.x (.str (JW s).1),.x (.int .i64 (JW s).2)]):=by
 obtain⟨hs4,-,hd0,-,hck⟩:=ZIs s d hq hne;have hsm:smD d:=by
  have:=ZGs s J0;unfold ZBI ZCl at this;rw[Jz]at this;rw[hd0];exact this
 obtain⟨hd32,hmay⟩:=ZEH hck;have hn:JW s=if d.all KX=true then Qp (d.map KM)else([],5):=by
  unfold JW;rw[hq];simp
 have hread:=Zfr s d hq hne;clear hq hne hs4 hd0 hck;rcases hu:JW s with⟨u,e⟩
 rw[hn]at hu;clear hn;refine ZH.pure (fC 96 true ?_) rfl;intro C0 E0;have uu:=ξ8 @ZGX.eq_1 @ZSt.eq_1 @ZLM.eq_1 @ZHT @ZHB @ZHI @ZHP @ZH0.eq_1;have tT:=aT (aQ (aQ (aQ ZB ZGL) ZYs) ZFC) (ZCV ZFC);refine WI.seq ?_;refine WI.regB tT [0] ?_
 refine Wn ?_;refine TV ?_;refine WI.regB (ZCz ZB ZT7 hread) [4,5] ?_;refine oS ?_;refine VH ?_;refine WI.seq ?_;refine WI.regB tT [4,5,16] ?_;refine Vm ?_;refine Ww ?_;refine WI.cond (b:=_) rfl rfl (λh0=> ?_) (λh0=> ?_)
 .exfalso;simp at h0
 .try simp only[zB]at h0
  refine Vt ?_;refine WI.seq ?_;have uu:=Zz uu (ZMx d);refine WI.regB tT [4,18,19,20] ?_;refine Vm ?_;refine ND ?_;refine WI.loop (λφ os=> ∃(j:Nat) (M:Dn),φ= [(4,.ref 0 d.length 0 d.length),(18,.ref 0 d.length 0 d.length),(19,.x (.int .i64 d.length)),(20,.x (.int .i64 j))]/\os=obD M/\j<=d.length/\M=ZDV d j/\(d.take j).all KX=true) (ZJ d.length 20) ?_ (λφ os hI=> ?_)
  .exact⟨0,d,rfl,rfl,J0,(ZZR d).symm,rfl⟩
  .obtain⟨j,M,rfl,rfl,hj,hM,hall⟩:=hI;have hMl:M.length=d.length:=by rw[hM,ZbK]
   have hRl:=ZMx M;have hFl:=ZKV M;rw[hMl]at hRl hFl;refine WI.seq ?_;refine WI.regB tT [4,18,19,20,21] ?_;refine oG ?_;refine TV ?_;refine WI.cond (b:=_) rfl rfl (λh1=> ?_) (λh1=> ?_)
   .try simp only[zB]at h1
    refine UQ ?_;have hj4:j<d.length:=Wl
    have hMj:M.getD j []=d.getD j []:=by rw[hM];exact Zdr d j hj4
    have hrf:=ZYy M j J0;have hfm:=ZKx M j J0;rw[hMj]at hrf hfm;have hdj:d[j]=d.getD j []:=T3
    have hmr:JA (d.getD j [])=true:=by rw[<-hdj];exact hmay _ (YG hj4)
    have hM2:ZDV d (j+1)=M.set j (KM (d.getD j [])):=by rw[hM];exact(Zb6 d j hj4).symm
    have hM0:M=M.set j (ZBh (d.getD j []) 0):=by rw[ZYq,<-hMj];exact(ZPd M j).symm
    have hall3:(d.take (j+1)).all KX=((d.take j).all KX&&KX (d.getD j [])):=by rw[Yq _ d j hj4,hdj]
    have hnf:KX (d.getD j [])=false->d.all KX=false:=λh=>Zj KX d j hj4 (by rw[hdj];exact h)
    generalize hr:d.getD j []=r at hMj hrf hfm hmr hM2 hM0 hall3 hnf;obtain⟨hr8,hr1,hpb⟩:=ZBQ hmr;have uu:=Qt uu hrf hfm hRl;refine WI.regB tT [4,7,18,19,20] ?_
    refine W7 ?_;refine TF ?_;refine WI.regB tT [4,7,18,19,20,24,25,26] ?_;refine Vm ?_;refine ND ?_;refine WI.orderA [4,7,18,19,20,24,25,26] ?_;have hFs: ∀x:List Av,(FM (M.set j x)).length=d.length:=λx=>by rw[ZKV,ZJN,hMl]
    have hFb: ∀(x:List Av) (y:Ob),(FM (M.set j x)++ [y])[d.length]? =some y:=λx y=>by rw[QL (by rw[hFs];exact Zp _),hFs,ZH2];rfl
    have hFc: ∀(x:List Av) (y z:Ob),(FM (M.set j x)++ [y]).set d.length z=FM (M.set j x)++ [z]:=λx y z=>by rw[ZDS _ _ (by rw[hFs];exact Zp _),hFs,ZH2];rfl
    have hFg: ∀(x:List Av) (Y:J7),(FM (M.set j x)++Y)[j]? =some (.rows false 188 2 (rows Zt x)):=λx Y=>by rw[ZYT _ _ j (by rw[ZJN];omega),show(M.set j x).getD j []=x by simp[hMl,hj4]]
    have hFg': ∀(x:List Av),(FM (M.set j x))[j]? =some (.rows false 188 2 (rows Zt x)):=λx=>by have:=hFg x [];rwa [Ks]at this
    have hFt: ∀(x z:List Av) (Y:J7),(FM (M.set j x)++Y).set j (.rows false 188 2 (rows Zt z))=FM (M.set j z)++Y:=λx z Y=>by rw[ZZH _ _ j (by rw[ZJN];omega),List.set_set]
    have hIn: ∀x:List Av,x.length=r.length->(Ob.drw 154 1 (RF M)::FM (M.set j x)).all (Ob.inP (λi=>decide (i<(Ob.drw 154 1 (RF M)::FM (M.set j x)).length)))=true:=λx hx=>by rw[<-ZYM M j x (by rw[hMj];exact hx)];exact ZUV _
    have uu:=ξ7 uu hFs hFb hFc hFg hFg' hFt;refine WI.loop (λφ os=> ∃(k:Nat),φ= [(4,.ref 0 d.length 0 d.length),(7,.ref (j+1) r.length 0 r.length),(18,.ref 0 d.length 0 d.length),(19,.x (.int .i64 d.length)),(20,.x (.int .i64 j)),(24,.ref (j+1) r.length 0 r.length),(25,.x (.int .i64 r.length)),(26,.x (.int .i64 k))]/\os= .drw 154 1 (RF M)::FM (M.set j (ZBh r k))/\k<=r.length/\(r.take k).all (λp=> !(fld p.2== []))=true) (ZJ r.length 26) ?_ (λφ os hI=> ?_)
    .exact⟨0,rfl,by rw[<-hM0],J0,rfl⟩
    .obtain⟨k,rfl,rfl,hk,hkall⟩:=hI;refine WI.seq ?_;refine WI.regB tT [4,7,18,19,20,24,25,26,27] ?_;refine oG ?_;refine TV ?_;refine WI.cond (b:=_) rfl rfl (λh2=> ?_) (λh2=> ?_)
     .try simp only[zB]at h2
      refine UQ ?_;have hk4:k<r.length:=Wl
      have hka:=ZeG r k hk4;have hka2:=ZcW r k hk4;have hks:=ZbZ r k hk4;have hml:=ZSk r k;have hml2:=ZSk r (k+1);have hpk:(r.getD k ([],[])).1.length<=64/\(r.getD k ([],[])).2.length<=256:=UV
      have hka3:(r.take (k+1)).all (λp=> !(fld p.2== []))=((r.take k).all (λp=> !(fld p.2== []))&& !(fld (r.getD k ([],[])).2== [])):=by rw[Yq _ r k hk4,show r.getD k ([],[])=r[k] by simp[hk4]]
      have hnk:fld (r.getD k ([],[])).2= []->KX r=false:=λh=>Zj _ r k hk4 (by rw[show r[k]=r.getD k ([],[]) by simp[hk4],h];rfl)
      generalize r.getD k ([],[])=p at hka hka2 hks hpk hka3 hnk;have hs1:decide (p.1.length<=1000000)=true:=ZI J0;have hs2:decide (p.2.length<=1000000)=true:=ZI J0;have uu:=ξ8 uu hka hml hs1 hs2 hka2 hml2 hks;refine WI.regB tT [4,7,8,9,18,19,20,24,25,26] ?_;refine oS ?_
      refine W7 ?_;refine oG ?_;refine Vm ?_;refine TV ?_;refine WI.post ?_;refine WI.dregB tT [4,7,8,18,19,20,24,25,26] ?_;refine UL ?_;refine dQC ?_;refine Vn ?_;refine dAC ?_;refine Zm ?_;refine Qx ?_;refine Qx ?_;refine dP ?_;refine ZNZ (.drw 154 1 (RF M)::FM (M.set j (ZBh r (k+1)))) _ rfl (KG _) (hIn _ hml2) (by simp only[ZAL,ZFG,D.inP,JB,hFs];simp;omega) ?_;refine KR ?_;refine Wm ?_;refine WI.regB tT [4,7,18,19,20,24,25,26,46] ?_;refine Wn ?_;refine oG ?_;refine N3 ?_;refine Ww ?_;refine WI.cond (b:=_) rfl rfl (λh3=> ?_) (λh3=> ?_)
      .try simp only[zB]at h3
       have hfe:fld p.2= []:=UZ
       rw[if_neg (by rw[hnf (hnk hfe)];decide)]at hu;cases hu;refine WI.seq ?_;refine WI.regB tT [2,3] ?_
       refine V2 ?_;refine Tr ?_;refine Tr ?_
       first|refine lfR ?_|refine ZAi ?_|refine ZAT ?_|refine ZAc ?_
       rfl
      .try simp only[zB]at h3
       have hkall2:(r.take (k+1)).all (λp=> !(fld p.2== []))=true:=by rw[hka3,hkall];simpa using h3
       refine WI.skip ?_;refine Nw ?_;refine WI.orderA [4,7,18,19,20,24,25,26] ?_;refine WI.regB tT [4,7,18,19,20,24,25,26] ?_;refine oG ?_;refine Va ?_;exact⟨⟨k+1,rfl,rfl,J0,hkall2⟩,Wa⟩
     .try simp only[zB]at h2
      refine WZ ?_;refine ZA ?_;obtain rfl:k=r.length:=Wl
      rw[JX]at hkall;rw[Zci];have hrn:(r.map ZCu).length=r.length:=YZ ..;have hsc:=ZfX 188 (r.map ZCu) (ZXr hmr) (by intro hh;rw[hh]at hrn;simp at hrn;omega) J0;rw[hrn]at hsc;have hsr:=ZQ.row (args:= [.ref (j+1) r.length 0 r.length,.fn 143 []]) (OS:= .drw 154 1 (RF M)::FM (M.set j (r.map ZCu))) (j+1) (by rw[show YA (inv [j+1]) [D.ref (j+1) r.length 0 r.length,.fn 143 []]= [D.ref 0 r.length 0 r.length,.fn 143 []] by simp only[YA,D.ren,inv,if_true]];exact hsc) (by rw[ZBn];exact hFg' _) rfl (by simp[JE,D.inP,Zi]) (λf=>rfl);have hft2:=hFt (r.map ZCu) (ZBC (r.map ZCu)) [];rw[Ks,Ks]at hft2;rw[ZCJ,hft2]at hsr;have hM3:RF M=RF (ZDV d (j+1)):=by rw[hM2];exact(ZYM M j _ (by rw[ZSj,hMj])).symm
      have hM4:FM (M.set j (ZBC (r.map ZCu)))=FM (ZDV d (j+1)):=by rw[hM2];rfl
      rw[hM4]at hsr;rw[hM3]at hsr|-;have hall2:(d.take (j+1)).all KX=true:=by rw[hall3,hall];exact hkall
      have uu:=Zz uu hrn;refine WI.regB (ZCz ZB ZTS hsr) [4,18,19,20] ?_;refine oS ?_;refine oC ?_;refine oN ?_;refine Nw ?_;refine WI.orderA [4,18,19,20] ?_;refine WI.regB tT [4,18,19,20] ?_;refine oG ?_;refine Va ?_;exact⟨⟨j+1,ZDV d (j+1),rfl,rfl,J0,rfl,hall2⟩,Wa⟩
   .try simp only[zB]at h1
    refine WZ ?_;refine Wm ?_;obtain rfl:j=d.length:=Wl
    rw[JX]at hall;rw[if_pos hall]at hu;rw[ZbX]at hM;subst hM;have hdl:(d.map KM).length=d.length:=YZ ..;rw[<-hdl];refine WI.orderA [4] ?_;refine WI.freeze (List.range' 1 (d.map KM).length) ?_;rw[ZfM];refine WI.pickA [0] (φ':= [(4,.ref 0 (d.map KM).length 0 (d.map KM).length)]) ?_ (hok:=by rw[JB,ZhX];simp[ZPI,Kw,Zi]) (hp:=rfl) (ho:=ZeT (d.map KM));refine WI.toXA 0 ?_;have hsn:smD (d.map KM):=by
     intro r hr p hp;exact Ux
    have hsnd:decide (smD (d.map KM))=true:=ZI hsn;have htk:(d.map KM).take (d.map KM).length=d.map KM:=JX;have uu:=Qt uu hsnd (ZJ3 (d.map KM)) htk;refine WI.regB tT [2,3] ?_;refine oS ?_;refine oC ?_
    refine W7 ?_;refine V2 ?_
    first|refine lfR ?_|refine ZAi ?_|refine ZAT ?_|refine ZAc ?_
    rw[hu]
theorem ZPy:YX []=([],0):=by unfold YX;simp
theorem Zdo(s:Tx)(h:(YX s).2≠0):ZK Tryz.prog 96 [.x (.str s)] (.tup [.x (.str (JW s).1),.x (.int .i64 (JW s).2)]):=by
 rcases hu:JW s with⟨u,e⟩
 unfold JW at hu;rw[if_pos h]at hu;cases hu;refine ZH.pure (fC 96 true ?_) rfl;intro C0 E0;have uu:=Zz @ZGa.eq_1 @ZLM.eq_1;have tT:=aQ (aQ ZB ZFe) ZFC;refine rg [0] ?_;refine rg [4,5] ?_;refine rg [4,5,16] ?_;refine cd (λh0=> ?_) (λh0=> ?_)
 .refine Vx ?_
  exact Wp
 .exact absurd Vg h
theorem Zd3:ZK Tryz.prog 96 [.x (.str [])] (.tup [.x (.str (JW []).1),.x (.int .i64 (JW []).2)]):=by
 have h1:YX []=([],0):=ZPy;have h2:JW []=Qp []:=by unfold JW;rw[h1];simp
 have h3:decide (smD [])=true:=WS
 have h4:ZM Jg (rows Jg [])=some []:=ZJ3 [];rw[h2];refine ZH.pure (fC 96 true ?_) rfl;intro C0 E0;have uu:=ξ5 @ZGa.eq_1 @ZLM.eq_1 h1 h3 h4;have tT:=aQ (aQ ZB ZFe) ZFC;refine rg [0] ?_;refine rg [4,5] ?_;refine rg [4,5,16] ?_;refine ce (λh0=> ?_) (λh0=> ?_)
 .simp at h0
 .refine rg [4,18,19,20] ?_;refine WI.loop (λφ os=>φ= [(4,.x (.sl (rows Jg []))),(18,.x (.sl (rows Jg []))),(19,.x (.int .i64 0)),(20,.x (.int .i64 0))]/\os= []) (ZJ 0 20) ?_ (λφ os hI=> ?_)
  .exact Gf
  .obtain⟨rfl,rfl⟩:=hI;refine rg [4,18,19,20,21] ?_;refine ce (λh1=> ?_) (λh1=> ?_)
   .simp at h1
   .refine Vx ?_
    exact Wp
theorem ZfB(s:Tx):ZK Tryz.prog 96 [.x (.str s)] (.tup [.x (.str (JW s).1),.x (.int .i64 (JW s).2)]):=by
 by_cases h:(YX s).2=0
 .by_cases hs:s= []
  .subst hs;exact Zd3
  .exact Zez s (YX s).1 (by rw[<-h]) hs
 .exact Zdo s h
def ZDD(p:Av):List Av->Nat
 | []=>0
 |q::o=>if Op.bytesLess q.1 p.1=true then ZDD p o+1 else 0
theorem ZVD(p:Av): ∀o,ZDD p o<=o.length
 | []=>by simp[ZDD]
 |q::o=>by have:=ZVD p o;unfold ZDD;split<;>simp;omega
theorem ZVr(p:Av): ∀o,ZDR p o=o.take (ZDD p o)++p::o.drop (ZDD p o)
 | []=>rfl
 |q::o=>by
  unfold ZDR ZDD;split
  .rw[ZVr p o];rfl
  .rfl
theorem ZUa(p:Av): ∀(o:List Av) (k:Nat),k<=ZDD p o-> ∀h:k<o.length,Op.bytesLess o[k].1 p.1=true->k+1<=ZDD p o
 |q::o,0,_,_,hb=>by unfold ZDD;rw[if_pos (by simpa using hb)];omega
 |q::o,k+1,hk,h,hb=>by
  unfold ZDD at hk|-;split at hk
  .rename_i hl;rw[if_pos hl];have:=ZUa p o k J0 WJ (by simpa using hb);omega
  .omega
theorem ZKJ(p:Av): ∀(o:List Av) (k:Nat),k<=ZDD p o->(∀h:k<o.length,Op.bytesLess o[k].1 p.1=false)->k=ZDD p o
 | [],k,hk,_=>by simp[ZDD]at hk|-;omega
 |q::o,0,_,h=>by
  unfold ZDD;have:=h J1;rw[if_neg (by simpa using this)]
 |q::o,k+1,hk,h=>by
  unfold ZDD at hk|-;split at hk
  .rename_i hl;rw[if_pos hl];have:=ZKJ p o k J0 (λh2=>h (Nat.succ_lt_succ h2));omega
  .omega
end Go.Proofs.YtiogclkbccdefaaGreatDoor
end
