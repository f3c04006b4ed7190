import Derived.Test.YtiogclkbccdefaaGreatDoorMA1
import Derived.Test.YtiogclkbccdefaaGreatDoorMA2
import Derived.Test.YtiogclkbccdefaaGreatDoorLA5
import Derived.Test.YtiogclkbccdefaaGreatDoorSh
import Derived.Sort.KeysCollected
import Derived.Shelf.SlIter.Sorted
set_option linter.unusedSimpArgs false
set_option linter.unusedVariables false
set_option maxRecDepth 100000
theorem Wt{A B:Prop}(hZ:A)(k:Go.Ab.Bx A->B:=by(intro hZ;refine Zm ?_;refine Zb ?_;refine Zm ?_;refine Zb ?_;refine Zm ?_;exact hZ.h)):B:=k ⟨hZ⟩
theorem Wu{p:Prop}(h:p:=by first|exact se|(clear uu;grind)|(rcases s with _|⟨c,r⟩<;>simp;done)|exact sd):p:=h
theorem Wz{A B:Prop}(hZ:A)(k:Go.Ab.Bx A->B:=by(intro hZ;refine Zm ?_;refine Zm ?_;refine dKG ?_;refine Qx ?_;refine ZU ?_;refine dN ?_;exact hZ.h)):B:=k ⟨hZ⟩
theorem W9{p:Prop}(h:p:=by refine WI.orderA [0,6,7,31,32,33] ?_;refine WI.dropT (scE L M dn l (Qm (l.take i)++ [ZE a.1])) _ rfl J1 (ZLF L M dn l _) (by simp[D.inP,JE]) ?_;refine rg [0,6,7,31,32,33] ?_;exact⟨⟨i+1,by rw[hct];first|done|rfl,by rw[hnt],J0⟩,Wa⟩):p:=h
theorem WN{A B:Prop}(hZ:A)(k:Go.Ab.Bx A->B:=by(intro hZ;refine rg [4,5] ?_;refine lf ?_;exact hZ.h)):B:=k ⟨hZ⟩
theorem WW{p:Prop}(h:p:=by first|decide|(simp;done)):p:=h
theorem Vd{A B:Prop}(hZ:A)(k:Go.Ab.Bx A->B:=by(intro hZ;refine Wo ?_;refine Zb ?_;refine Zm ?_;refine ZU ?_;refine Zm ?_;exact hZ.h)):B:=k ⟨hZ⟩
theorem Vi{p:Prop}(h:p:=by first|rfl|exact hR):p:=h
theorem Vk{p:Prop}(h:p:=by refine rg [1,5,7,8,9,10] ?_;refine rg [1,5,8,9,10] ?_;refine WI.pickA [0] ?_;refine rg [1,5,8,9,10] ?_;exact⟨⟨j+1,by rw[htk,ZW];rfl,by rw[htk,ZCr],J0⟩,Wa⟩):p:=h
theorem Vs{p:Prop}(h:p:=by rw[show l.getD i ([],[],())=l[i] by simp[hi4]];exact YG hi4):p:=h
theorem V1{A B:Prop}(hZ:A)(k:Go.Ab.Bx A->B:=by(intro hZ;refine Vd ?_;refine Wt ?_;refine Zb ?_;refine Vo ?_;refine dN ?_;exact hZ.h)):B:=k ⟨hZ⟩
theorem V3{A B:Prop}(hZ:A)(k:Go.Ab.Bx A->B:=by(intro hZ;refine rg [0,3,7,11,12] ?_;refine rg [0,3,8,11,12] ?_;refine rg [0,3,8,11,12,20] ?_;exact hZ.h)):B:=k ⟨hZ⟩
theorem VM{p:Prop}(h:p:=by first|exact⟨l.length+1,_,.nils,rfl,rfl,by rw[ZJ7 _ _ _ (by rw[ZP];exact hpl),ZP];rfl,J0,(ZNE hh).1,(ZNE hh).2,hcn hh⟩|exact⟨l.length,_,.sl (rows ZC (YT l n)),rfl,rfl,ZP _ _,ZCS hh,(ZIB hh).1,(ZIB hh).2,hcy⟩):p:=h
theorem VS{p:Prop}(h:p:=by refine Wj ?_;refine⟨?_,_,rfl⟩;clear uu;grind):p:=h
theorem VU{A B:Prop}(hZ:A)(k:Go.Ab.Bx A->B:=by(intro hZ;refine rg [4] ?_;refine WI.nnA ?_;refine lf ?_;exact hZ.h)):B:=k ⟨hZ⟩
theorem VV{A B:Prop}(hZ:A)(k:Go.Ab.Bx A->B:=by(intro hZ;refine rg [0,3,11,12] ?_;refine WI.round ?_;refine rg [0,3,11,12,13] ?_;exact hZ.h)):B:=k ⟨hZ⟩
theorem VZ{p:Prop}(h:p:=by exact⟨⟨i+1,rfl,rfl,J0,hall2⟩,Wa⟩):p:=h
theorem Uf{p:Prop}(h:p:=by refine ZU ?_;refine dQC ?_;refine Zb ?_;refine ZU ?_;refine Wz ?_;refine WN ?_;exact⟨rfl,_,rfl⟩):p:=h
theorem Ul{p:Prop}(h:p:=by refine rg [0,3,4] ?_;exact⟨⟨j+1,_,rfl,rfl,J0,by first|omega|(rw[ZW];simp;omega),hs2⟩,Wa⟩):p:=h
theorem U5{p:Prop}(h:p:=by rename_i R R';obtain⟨a,h1,h⟩:=Zf h;obtain⟨b,h2,h3⟩:=Za h;simp only[YN,Ym]at h3;obtain⟨h4,rfl⟩:=h3;rw[<-YU ZO h1,<-YU ZO h2];exact ZR8 a b h4.1 h4.2):p:=h
theorem U7{p:Prop}(h:p:=by have uu:=JJ uu hg2 hg3;refine rg [0,6,7,11,14,51,52,53,66,67,68] ?_;refine rg [0,6,7,11,14,51,52,53,66,67,68] ?_;exact⟨⟨k+1,rfl,by rw[htk],J0,hka2⟩,Wa⟩):p:=h
theorem UK{p:Prop}(h:p:=by refine Wj ?_;rw[hres]):p:=h
theorem UN{p:Prop}(h:p:=by have uu:=JJ uu hg2 hg3;refine rg [0,6,7,11,51,52,53,82,83,84] ?_;refine rg [0,6,7,11,51,52,53,82,83,84] ?_;exact⟨⟨k+1,rfl,by rw[htk],J0⟩,Wa⟩):p:=h
theorem Tc{p:Prop}(h:p:=by rw[hfr,show k+1+(i-k)=i+1 by omega];refine WI.orderA [0,4,5] ?_;refine rg [0,4,5] ?_;exact⟨⟨i+1,ZDR P o,rfl,rfl,J0,hso,hall2⟩,Wa⟩):p:=h
theorem Td{A B:Prop}(hZ:A)(k:Go.Ab.Bx A->B:=by(intro hZ;refine ZU ?_;refine WE ?_;exact hZ.h)):B:=k ⟨hZ⟩
theorem Te{p:Prop}(h:p:=by exact⟨⟨j+1,rfl,rfl,J0,hall2⟩,Wa⟩):p:=h
theorem Tj{p:Prop}(h:p:=by rw[JU hj4,Jd];simp[hj4]):p:=h
theorem Ts{A B:Prop}(hZ:A)(k:Go.Ab.Bx A->B:=by(intro hZ;refine WI.skip ?_;refine ZA ?_;exact hZ.h)):B:=k ⟨hZ⟩
theorem Tt{p:Prop}(h:p:=by simp[D.inP,JE]):p:=h
theorem TL{p:Prop}(h:p:=by first|exact⟨⟨j+1,by rw[hst,ZW];rfl,by rw[hst,ZUx],J0⟩,Wa⟩|exact⟨⟨j+1,by rw[hst];rfl,by rw[hst],J0⟩,Wa⟩):p:=h
theorem TP{p:Prop}(h:p:=by rw[show l.getD j []=l[j] by simp[hj4]];exact YG hj4):p:=h
theorem Gc{A B:Prop}(hZ:A)(k:Go.Ab.Bx A->B:=by(intro hZ;refine WI.freezeA [0] ?_;refine WI.pickA [] ?_;refine lf ?_;exact hZ.h)):B:=k ⟨hZ⟩
theorem Gn{p:Prop}(h:p:=by exact⟨rfl,_,rfl⟩):p:=h
theorem Gq{p:Prop}(h:p:=by rw[show l.getD j ([],[],())=l[j] by simp[show j<l.length by omega]];exact hb _ (YG _)):p:=h
theorem Gs{p:Prop}(h:p:=by rename_i h;have hp:=ZCS h;rw[show l.getD (ZZ l n) ([],[],())=l[ZZ l n] by simp[hp]];exact hb _ (YG hp)):p:=h
theorem Gz{p:Prop}(h:p:=by rw[ZLK hj4,ZEx];exact⟨hnd,J1,λa ha b hb=>by simp only[Qf]at hb;subst hb;rintro rfl;exact hin ha⟩):p:=h
theorem G8{p:Prop}(h:p:=by first|exact h4 (ZWZ.2 hcp)|exact(of_decide_eq_false h4) (ZWZ.2 hcp)|(simp at h4;exact absurd hcp J0)):p:=h
theorem GN{A B:Prop}(hZ:A)(k:Go.Ab.Bx A->B:=by(intro hZ;refine rg [0,4,5,6,7,8] ?_;refine rg [0,4,5,6,7,8] ?_;refine rg [0,4,5,7,8] ?_;refine rg [0,5,8] ?_;refine rgp [0,4,5] ?_;refine Jm [2] ?_;exact hZ.h)):B:=k ⟨hZ⟩
theorem Nm{p:Prop}(h:p:=by clear uu;subst hB;grind):p:=h
theorem Nv{A B:Prop}(hZ:A)(k:Go.Ab.Bx A->B:=by(intro hZ;refine ZU ?_;refine Wz ?_;exact hZ.h)):B:=k ⟨hZ⟩
theorem N4{p:Prop}(h:p:=by rw[if_pos (by rw[hoc];simpa using h3)]at hct;refine rg [0,6,7,31,32,33] ?_;exact W9):p:=h
theorem N7{p:Prop}(h:p:=by have:=ZBx j l;rw[ξU h]at this;rw[show l.getD j []=l[j] by simp[h]];exact this.symm):p:=h
theorem NE{p:Prop}(h:p:=by unfold okS;exact decide_eq_false (λe=>by rw[e]at h0;simp at h0)):p:=h
theorem NN{p:Prop}(h:p:=by rw[hw];have:= @ZW6 (s.getD (j+1) 0);clear uu hso hda hsl;grind):p:=h
theorem NR{A B:Prop}(hZ:A)(k:Go.Ab.Bx A->B:=by(intro hZ;refine WI.orderA [7,12,51,52,53,72,73,74] ?_;refine WI.dropT (scH L (YQ (C.take i)) x (ZDJ x)) _ rfl J1 (ZVJ _ _ _ _) Tt ?_;exact hZ.h)):B:=k ⟨hZ⟩
theorem Xa{p:Prop}(h:p:=by refine rg [8,27,28,29] ?_;exact⟨⟨j+1,rfl,by rw[ZLK hj4],J0,hnd2⟩,Wa⟩):p:=h
section
namespace Go.Proofs.YtiogclkbccdefaaGreatDoor
open Go.RowKit Go.Bo Go.Ab
theorem Zfb(s:List UInt8):ZE (ZE s)=ZE s:=by
 unfold ZE;rw[Jz];refine ZBu λc _=> ?_
 show Qd (Qd c)=Qd c;by_cases h:65<=c.toNat/\c.toNat<=90
 .have:=ZII h;exact ZE2 J0
 .rw[ZE2 h,ZE2 h]
theorem ZU6(c:UInt8):Qd c=32↔c=32:=by
 by_cases h:65<=c.toNat/\c.toNat<=90
 .have h1:=ZII h;constructor
  .intro e;rw[e]at h1;simp at h1;omega
  .rintro rfl;simp at h
 .rw[ZE2 h]
theorem ZVT: ∀s,Ky 32 (ZE s)=(Ky 32 s).map ZE
 | []=>rfl
 |b::l=>by
  have ih:=ZVT l;show Ky 32 (Qd b::ZE l)=_;unfold Ky;by_cases h:b=32
  .rw[if_pos ((ZU6 b).2 h),if_pos h,ih];rfl
  .rw[if_neg (λk=>h ((ZU6 b).1 k)),if_neg h,ih];cases Ky 32 l with
   |nil=>rfl
   |cons x r=>rfl
theorem ZZY(s:List UInt8):ZEY (ZE s)=(ZEY s).map ZE:=by
 unfold ZEY;rw[ZVT,List.filter_map];congr 1;refine Zck λx _=> ?_
 simp[ZE]
theorem ZX0: ∀l:List (List UInt8),jn (l.map ZE)=ZE (jn l)
 | []=>rfl
 | [x]=>rfl
 |x::y::r=>by
  have:=ZX0 (y::r);show ZE x++32::jn ((y::r).map ZE)=ZE (x++32::jn (y::r));rw[this];unfold ZE;rw[Jd,YM];rfl
theorem Zfm(s:Tx):blk (ZE s)=ZE (blk s):=by
 show jn (ZEY (ZE s))=ZE (jn (ZEY s));rw[ZZY,ZX0]
def stW:Tx->Bool
 | []=>false
 |c::_=> !decide (c=32)
def gB:Bool->Tx->Tx
 |_,[]=> []
 |st,c::r=>if c=32 then(if(st&&stW r)=true then 32::gB st r else gB st r)else c::gB true r
def jW(l:List Tx):Tx:=if l= []then []else 32::jn l
theorem ZVI(x:Tx)(l:List Tx):jn (x::l)=x++jW l:=by
 unfold jW;split
 .rename_i h;subst h;simp[jn]
 .rename_i h;rw[Zdn h]
theorem ZU5(r:Tx): ∃h t,Ky 32 r=h::t/\(stW r=true↔h≠ []):=by
 rcases r with _|⟨c,r⟩
 .exact⟨[],[],rfl,by simp[stW]⟩
 .unfold Ky;by_cases hc:c=32
  .exact⟨[],Ky 32 r,by rw[if_pos hc],by simp[stW,hc]⟩
  .rw[if_neg hc];split
   .rename_i x l _;exact⟨c::x,l,rfl,by simp[stW,hc]⟩
   .exact⟨[c],[],rfl,by simp[stW,hc]⟩
theorem ZVc: ∀(s:Tx) (h:Tx) (t:List Tx),Ky 32 s=h::t->gB true s=h++jW (t.filter λx=>decide (x≠ []))/\gB false s=jn ((h::t).filter λx=>decide (x≠ []))
 | [],h,t,e=>by
  simp only[Ky,ZEP]at e;obtain⟨rfl,rfl⟩:=e;simp[gB,jW,jn]
 |c::r,h,t,e=>by
  obtain⟨h',t',e',hst⟩:=ZU5 r;obtain⟨ih1,ih2⟩:=ZVc r h' t' e';by_cases hc:c=32
  .have e2:Ky 32 (c::r)= []::Ky 32 r:=by rw[Ky,if_pos hc]
   rw[e2,e',ZEP]at e;obtain⟨rfl,rfl⟩:=e;unfold gB;rw[if_pos hc,if_pos hc];refine⟨?_,?_⟩
   .by_cases hs:stW r=true
    .have hn:=hst.1 hs;rw[hs,ZA0,if_pos rfl,ih1,QW,ZGu,if_pos (by simpa using hn)]
     conv=>rhs;unfold jW
     rw[if_neg J1,ZVI]
    .have hn:h'= []:=by by_cases hh:h'= [];exact hh;exact absurd (hst.2 hh) hs
     subst hn;rw[if_neg (by simp[hs]),ih1,ZGu];simp
   .rw[ZFA,if_neg WS,ih2];exact congrArg jn (by conv=>rhs;rw[ZGu,if_neg J1])
  .have e2:Ky 32 (c::r)=(c::h')::t':=by rw[Ky,if_neg hc,e']
   rw[e2,ZEP]at e;obtain⟨rfl,rfl⟩:=e;unfold gB;rw[if_neg hc,if_neg hc,ih1];refine⟨rfl,?_⟩;rw[ZGu,if_pos J1,ZVI];rfl
theorem Zgo(s:Tx):gB false s=blk s:=by
 obtain⟨h,t,e,-⟩:=ZU5 s;rw[(ZVc s h t e).2,<-e];rfl
theorem ZVC(s:Tx)(j:Nat)(h:j<s.length):s.drop j=s.getD j 0::s.drop (j+1):=by
 rw[ξU h];simp[h]
theorem Zhe(s:Tx)(j:Nat):stW (s.drop j)=decide (j<s.length/\s.getD j 0≠32):=by
 by_cases h:j<s.length
 .rw[ZVC s j h];simp[stW,h]
 .rw[ZBB J0];simp[stW];intro hh;omega
theorem Zdk(s:Tx)(j:Nat)(h:j<s.length):List.drop j (List.take ((j:Int)+1).toNat s)= [s.getD j 0]:=by
 rw[show((j:Int)+1).toNat=j+1 by omega,JU h,Zb0 W3,ZBB W3];simp[h]
theorem ZW6{c:UInt8}:c≠32↔(c.toNat:Int)≠32:=⟨λh e=>h (ZMh.1 (by show c.toNat=32;omega)),λh e=>h (by rw[e];rfl)⟩
theorem ZUR(o:Tx)(c:UInt8):((o++ [c])== [])=false:=GH
theorem Zgf(s:Tx)(hl:s.length<=1000000):ZK Tryz.prog 178 [.x (.str s)] (.x (.str (blk s))):=by
 refine ZH.pure (fC 178 true ?_) rfl;intro C0 E0;have uu:=trivial;have tT:=(ZB:SsOk Tryz.prog YH);refine VD ?_;refine rg [0,3,4] ?_;refine WI.loop (λφ os=> ∃(j:Nat) (o:Tx),φ= [(0,.x (.str s)),(3,.x (.str o)),(4,.x (.int .i64 j))]/\os= []/\j<=s.length/\o.length<=j/\o++gB (!(o== [])) (s.drop j)=blk s) (ZJ s.length 4) ?_ (λφ os hI=> ?_)
 .exact⟨0,[],rfl,rfl,J0,Zp _,by rw[ZCa];exact Zgo s⟩
 .obtain⟨j,o,rfl,rfl,hj,hol,hso⟩:=hI;refine rg [0,3,4,8] ?_;refine cd (λh0=> ?_) (λh0=> ?_)
  .have hj4:j<s.length:=Wl
   have hda:=ZVC s j hj4;rw[hda]at hso;have hsl:=Zdk s j hj4;have hw:=Zhe s (j+1);have uu:=Zz uu hsl;refine rg [0,3,4,14] ?_;refine cd (λh1=> ?_) (λh1=> ?_)
   .have hc:s.getD j 0≠32:=ZW6.2 WC;have hs2:(o++ [s.getD j 0])++gB (!((o++ [s.getD j 0])== [])) (s.drop (j+1))=blk s:=by
     rw[<-hso]
     conv=>rhs;unfold gB
     rw[if_neg hc,ZUR];simp
    refine rg [0,3,4] ?_;exact Ul
   .have hc:s.getD j 0=32:=ZHo λhh=>ZW6.1 hh WC
    refine rg [0,3,4,37] ?_;refine cd (λh2=> ?_) (λh2=> ?_)
    .have hs2:(o++ [32])++gB (!((o++ [32])== [])) (s.drop (j+1))=blk s:=by
      rw[<-hso]
      conv=>rhs;unfold gB
      have hst:((!(o== []))&&stW (s.drop (j+1)))=true:=NN
      have ho:(!(o== []))=true:=by rw[Zk]at hst;exact hst.1
      rw[if_pos hc,if_pos hst,ho,ZUR];simp
     refine rg [0,3,4] ?_;exact Ul
    .have hs2:o++gB (!(o== [])) (s.drop (j+1))=blk s:=by
      rw[<-hso]
      conv=>rhs;unfold gB
      have hst: ¬((!(o== []))&&stW (s.drop (j+1)))=true:=NN
      rw[if_pos hc,if_neg hst]
     exact Ul
  .refine Wy ?_;rw[ZBB J0]at hso;simp only[gB,Ks]at hso;rw[hso]
def ZQs:J8->J5
 | [.x (.str s)]=>some (decide (s.length<=1000000),.x (.str (blk s)))
 |_=>none
theorem ZRO:QK Tryz.prog ZQs 178:=by
 intro args r h;unfold ZQs at h;split at h
 .obtain⟨h1,rfl⟩:=Yu h;exact(Zgf _ h1)
 .cases h
def ZM0:J8->J5
 | [.x (.str s)]=>some (decide (s.length<=1000000),.x (.str (ZE s)))
 |_=>none
theorem ZPa:QK Tryz.prog ZM0 97:=by
 intro args r h;unfold ZM0 at h;split at h
 .exact GM
 .cases h
theorem Zg4(s:Tx)(hl:s.length<=1000000):ZK Tryz.prog 147 [.x (.str s)] (.x (.str (fld s))):=by
 have hb:=ZPA s;have hb2:decide ((blk s).length<=1000000)=true:=ZI (by unfold blk;omega);refine ZH.pure (fC 147 true ?_) rfl;intro C0 E0;have uu:=JJ @ZQs.eq_1 @ZM0.eq_1 hb2;have tT:=aQ (aQ ZB ZRO) ZPa;refine rg [0] ?_;refine Wy ?_
 exact Wp
def ZQq:J8->J5
 | [.x (.str s)]=>some (decide (s.length<=1000000),.x (.str (fld s)))
 |_=>none
theorem ZTV:QK Tryz.prog ZQq 147:=by
 intro args r h;unfold ZQq at h;split at h
 .obtain⟨h1,rfl⟩:=Yu h;exact(Zg4 _ h1)
 .cases h
theorem Zb1(l:List Av):((rows Zt l).all λr=>decide (r.length=2))=true:=by
 unfold rows;rw[ZF1];exact Yg.2 λ_ _=>rfl
set_option maxHeartbeats 1000000 in
theorem Zdd(r:List Av)(hr:JA r=true):ZK Tryz.prog 104 [.x (.sl (rows Zt r))] (.tup [.x (.sl (rows Zt (if KX r=true then KM r else []))),.x (.bool (KX r))]):=by
 obtain⟨hr8,hr1,hpb⟩:=ZBQ hr;have hcr: ∀(T:FuncId->J8->J7->J5) (φ:J4) (os:J7) (n:Nat) (ag:Bool) (x:IO),ZCi T φ os (.ld n ag x)=none:=λ_ _ _ _ _ _=>rfl
 refine ZH.pure (fC 104 true ?_) rfl;intro C0 E0;have uu:=Qt @ZM0.eq_1 @ZQq.eq_1 @Zb1 hcr;have tT:=aQ (aQ ZB ZPa) ZTV;refine rg [0] ?_;refine rg [0,4] ?_;refine rg [0,4,5] ?_;refine WI.ownA 4 188 2 ?_;refine WI.loop (λφ os=> ∃(i:Nat) (o:List Av),φ= [(0,.x (.sl (rows Zt r))),(4,.ref 0 i 0 i),(5,.x (.int .i64 i))]/\os= [.rows false 188 2 (rows Zt o)]/\i<=r.length/\o=ZBC ((r.take i).map ZCu)/\(r.take i).all (λp=> !(fld p.2== []))=true) (ZJ r.length 5) ?_ (λφ os hI=> ?_)
 .exact⟨0,[],rfl,rfl,J0,rfl,rfl⟩
 .obtain⟨i,o,rfl,rfl,hi,ho,hall⟩:=hI;have hol:o.length=i:=by rw[ho,ZJY,YZ,Ys];omega
  refine rg [0,4,5,12] ?_;refine cd (λh0=> ?_) (λh0=> ?_)
  .have hi4:i<r.length:=Wl
   have hia:=ZCU r i hi4;have hpi:(r.getD i ([],[])).1.length<=64/\(r.getD i ([],[])).2.length<=256:=by rw[show r.getD i ([],[])=r[i] by simp[hi4]];exact hpb _ (YG hi4)
   have hka3:(r.take (i+1)).all (λp=> !(fld p.2== []))=((r.take i).all (λp=> !(fld p.2== []))&& !(fld (r.getD i ([],[])).2== [])):=by rw[Yq _ r i hi4,show r.getD i ([],[])=r[i] by simp[hi4]]
   have hnk:fld (r.getD i ([],[])).2= []->KX r=false:=λh=>Zj _ r i hi4 (by rw[show r[i]=r.getD i ([],[]) by simp[hi4],h];rfl)
   have hso:ZDR (ZCu (r.getD i ([],[]))) o=ZBC ((r.take (i+1)).map ZCu):=by rw[JU hi4,Jd,ZL3,ZaK,<-ho,show r.getD i ([],[])=r[i] by simp[hi4]]
   generalize r.getD i ([],[])=p at hia hpi hka3 hnk hso;have hs1:decide (p.1.length<=1000000)=true:=ZI J0;have hs2:decide (p.2.length<=1000000)=true:=ZI J0;obtain⟨P,hP⟩: ∃P:Av,P=ZCu p:=⟨_,rfl⟩;have hP1:ZE p.1=P.1:=by rw[hP];rfl
   have hP2:fld p.2=P.2:=by rw[hP];rfl
   rw[<-hP]at hso;have hins:=ZVr P o;have hpl:=ZVD P o;have uu:=ξ6 uu hia hs1 hs2 hP1 hP2;refine WI.dregB tT [0,4,5,6] ?_
   refine Wo ?_;refine WE ?_;refine dQC ?_;refine Wo ?_;refine WE ?_;refine dQC ?_;refine Zm ?_;refine dKG ?_;refine Qx ?_;refine dN ?_;refine rg [0,4,5,6,30] ?_;refine cd (λh1=> ?_) (λh1=> ?_)
   .have hfe:fld p.2= []:=by rw[hP2];simpa using h1
    refine W5 ?_;rw[hnk hfe];rfl
   .have hall2:(r.take (i+1)).all (λp=> !(fld p.2== []))=true:=by rw[hka3,hall,hP2];simpa using h1
    refine rg [0,4,5,6,7] ?_;refine WI.loop (λφ os=> ∃(k:Nat),φ= [(0,.x (.sl (rows Zt r))),(4,.ref 0 i 0 i),(5,.x (.int .i64 i)),(6,.ptr 1 0),(7,.x (.int .i64 k))]/\os= [.rows false 188 2 (rows Zt o),.box [.x (.str P.1),.x (.str P.2)]]/\k<=ZDD P o) (ZJ i 7) ?_ (λφ os hI=> ?_)
    .exact Vf
    .obtain⟨k,rfl,rfl,hk⟩:=hI;refine nz ?_;by_cases hko:k<i
     .have hka:=ZCU o k J0;have hdl:=ZI (show(k:Int)<(i:Int) by omega);have hgo:o.getD k ([],[])=o[k]:=by simp[show k<o.length by omega]
      have uu:=Qt uu hka hdl hol;refine WI.dregB tT [0,4,5,6,7,44] ?_
      refine V1 ?_;refine nz ?_;refine cd (λh2=> ?_) (λh2=> ?_)
      .have hk2:=ZUa P o k hk J0 (by rw[<-hgo];clear uu;grind);refine rg [0,4,5,6,7] ?_;exact⟨⟨k+1,rfl,rfl,hk2⟩,Wa⟩
      .have hkp:=ZKJ P o k hk (λhh=>by rw[<-hgo];clear uu;grind);have hki:k<=i:=Wl
       rw[<-hkp]at hins;have e1:(o.take k).length=k:=by rw[Ys];omega
       have e2:(o.drop k).take (i-k)=o.drop k:=YO T4;have e3:(o.drop k).length=i-k:=T4
       have e4:(rows Zt (o.take k)++ [[X.str P.1,X.str P.2]]).length=k+1:=by rw[ZW,ZP,e1];rfl
       have uu:=ξ6 uu e1 e2 e3 e4 hol;refine GN ?_;refine KR ?_;refine nz ?_;have hfr:rows Zt (o.take k)++ [[X.str P.1,X.str P.2]]++rows Zt (o.drop k)=rows Zt (ZDR P o):=by rw[hins];unfold rows;simp[Zt]
       exact Tc
     .have hdl:=decide_eq_false (show ¬(k:Int)<(i:Int) by omega);have hka:(rows Zt o)[k]? =none:=ξY (by rw[ZP];omega);have uu:=Qt uu hdl hol hka;refine WI.dregB tT [0,4,5,6,7,44] ?_
      refine V1 ?_;refine nz ?_;refine ce (λh2=> ?_) (λh2=> ?_)
      .simp at h2
      .have hkp:=ZKJ P o k hk (λhh=>J0);have hki:k<=i:=Wl
       rw[<-hkp]at hins;have e1:(o.take k).length=k:=by rw[Ys];omega
       have e2:(o.drop k).take (i-k)=o.drop k:=YO T4;have e3:(o.drop k).length=i-k:=T4
       have e4:(rows Zt (o.take k)++ [[X.str P.1,X.str P.2]]).length=k+1:=by rw[ZW,ZP,e1];rfl
       have uu:=ξ6 uu e1 e2 e3 e4 hol;refine GN ?_;refine KR ?_;refine nz ?_;have hfr:rows Zt (o.take k)++ [[X.str P.1,X.str P.2]]++rows Zt (o.drop k)=rows Zt (ZDR P o):=by rw[hins];unfold rows;simp[Zt]
       exact Tc
  .obtain rfl:i=r.length:=Wl
   rw[JX]at ho hall;have hf:KX r=true:=hall;have ho2:KM r=o:=ho.symm;rw[hf,if_pos rfl,ho2];have e5:(rows Zt o).take r.length=rows Zt o:=YO (by rw[ZP];omega);have e6:o.take r.length=o:=YO J0;have uu:=Qt uu e5 e6 hol;refine W5 ?_
   exact Wp
def ZTh:J8->J5
 | [.x (.sl R)]=>(ZM Zt R).bind λr=>some (decide (JA r=true),.tup [.x (.sl (rows Zt (if KX r=true then KM r else []))),.x (.bool (KX r))])
 |_=>none
theorem ZZg:QK Tryz.prog ZTh 104:=by
 intro args r h;unfold ZTh at h;split at h
 .obtain⟨r,rfl,i0⟩:=un ZEE h;obtain⟨h1,rfl⟩:=Yu i0;exact(Zdd r h1)
 .cases h
theorem ZYH{d:Dn}(hmay: ∀r∈d,JA r=true):smD (d.map KM)/\ ∀r∈d.map KM,r.length<=1000000:=by
 refine⟨λr hr p hp=> ?_,λr hr=> ?_⟩
 .exact Ux
 .obtain⟨q,hq,rfl⟩:=YR.1 hr;have:=(ZBQ (hmay q hq)).1;rw[ZSj];omega
set_option maxHeartbeats 1000000 in
theorem Zf5(s:Tx):ZK Tryz.prog 70 [.x (.str s)] (.tup [.x (.str (JW s).1),.x (.int .i64 (JW s).2)]):=by
 rcases hu:JW s with⟨u,e⟩
 unfold JW at hu;rcases hq:YX s with⟨d,e0⟩
 rw[hq]at hu;simp only at hu;refine ZH.pure (fC 70 true ?_) rfl;intro C0 E0;have uu:=ξ7 @ZH8.eq_1 @ZTh.eq_1 @ZWE.eq_1 @ZJ3 @ZOg hq @ZH0.eq_1;have tT:=aT (aQ (aQ (aQ ZB ZIm) ZZg) ZRY) (ZCV ZRY);refine rg [0] ?_;refine rg [4,5] ?_;refine rg [4,5,16] ?_;refine cd (λh0=> ?_) (λh0=> ?_)
 .refine W5 ?_;rw[if_pos Vg]at hu;cases hu;rfl
 .obtain rfl:e0=0:=Vg
  rw[if_neg J1]at hu;have hck:Jr d=0:=by
   by_cases hs:s= []
   .subst hs;rw[ZPy]at hq;exact NK
   .exact(ZIs s d hq hs).2.2.2.2
  obtain⟨hd32,hmay⟩:=ZEH hck;refine rg [4,6] ?_;refine rg [4,6,7] ?_;refine WI.ownA 6 154 1 ?_;refine WI.loop (λφ os=> ∃(j:Nat),φ= [(4,.x (.sl (rows Jg d))),(6,.ref 0 j 0 j),(7,.x (.int .i64 j))]/\os= [.rows false 154 1 (rows Jg ((d.take j).map KM))]/\j<=d.length/\(d.take j).all KX=true) (ZJ d.length 7) ?_ (λφ os hI=> ?_)
  .exact W8
  .obtain⟨j,rfl,rfl,hj,hall⟩:=hI;refine rg [4,6,7,21] ?_;refine cd (λh1=> ?_) (λh1=> ?_)
   .have hj4:j<d.length:=Wl
    have hdj:d[j]=d.getD j []:=T3
    have hmr:JA (d.getD j [])=true:=by rw[<-hdj];exact hmay _ (YG hj4)
    have hst:(d.take (j+1)).map KM=(d.take j).map KM++ [KM (d.getD j [])]:=by rw[JU hj4,Jd,hdj];rfl
    have hall3:(d.take (j+1)).all KX=((d.take j).all KX&&KX (d.getD j [])):=by rw[Yq _ d j hj4,hdj]
    have hnf:KX (d.getD j [])=false->d.all KX=false:=λh=>Zj KX d j hj4 (by rw[hdj];exact h)
    have hmd:=ZI hmr;have uu:=JJ uu (ZEz d j hj4) hmd;refine rg [4,6,7,8,9] ?_;refine rg [4,6,7,8,33] ?_;refine cd (λh2=> ?_) (λh2=> ?_)
    .have hff:KX (d.getD j [])=false:=U9
     rw[if_neg (by rw[hnf hff];decide)]at hu;refine W5 ?_;cases hu;rfl
    .have hff:KX (d.getD j [])=true:=U9
     have hall2:(d.take (j+1)).all KX=true:=by rw[hall3,hall,hff];rfl
     rw[hff,if_pos rfl];refine rgp [4,6,7] ?_;refine Vr ?_;refine WI.orderA [4,6,7] ?_;refine rg [4,6,7] ?_;exact⟨⟨j+1,rfl,by rw[hst,<-ZIp];first|done|rfl,J0,hall2⟩,Wa⟩
   .obtain rfl:j=d.length:=Wl
    rw[JX]at hall|-;rw[if_pos hall]at hu;obtain⟨hn1,hn2⟩:=ZYH hmay;have hnl:(d.map KM).length=d.length:=YZ ..;have hcc:(decide (smD (d.map KM))&&(decide ((d.map KM).length<=1000000)&&decide (∀r∈d.map KM,r.length<=1000000)))=true:=by rw[ZI hn1,ZI hn2,ZI (show(d.map KM).length<=1000000 by omega)];rfl
    generalize d.map KM=M at hu hnl hcc|-;rw[<-hnl];have uu:=Qt uu hcc (ZJ3 M) (@JX _ M);refine W5 ?_;rw[hu]
def ZN5:J8->J5
 | [.x (.str s)]=>some (true,.tup [.x (.str (JW s).1),.x (.int .i64 (JW s).2)])
 |_=>none
theorem ZPl:QK Tryz.prog ZN5 70:=by
 intro args r h;unfold ZN5 at h;split at h
 .obtain rfl:=Qv h;exact(Zf5 _)
 .cases h
theorem ZKa(c:UInt8)(r:Tx):KU (c::r)=(if c=45 then r else c::r)/\ZFO (c::r)=decide (c=45):=by
 by_cases h:c=45
 .subst h;simp[KU,ZFO,Lib.trimPrefix,Lib.hasPrefix,List.isPrefixOf]
 .have h2: ¬45=c:=λe=>h e.symm
  simp[KU,ZFO,Lib.trimPrefix,Lib.hasPrefix,List.isPrefixOf,h,h2]
theorem Zgv{c:UInt8}:c=45↔(c.toNat:Int)=45:=⟨λh=>by rw[h];rfl,λh=>ZMh.1 (by show c.toNat=45;omega)⟩
theorem ZYg(c:UInt8):ZDQ c=false↔((c.toNat:Int)<48\/(c.toNat:Int)>57):=by
 unfold ZDQ;rw[decide_eq_false_iff_not];omega
theorem ZVg{s:Tx}(h:dgs (KU s)=true):ZBO s=(if ZFO s=true/\stp (KU s)≠ [48]then 45::stp (KU s)else stp (KU s),true):=by unfold ZBO;rw[if_pos h]
theorem ZXh{s:Tx}(h:dgs (KU s)=false):ZBO s=([],false):=by unfold ZBO;rw[if_neg (by rw[h];simp)]
theorem Zgw(s:Tx)(hl:s.length<=1000000):ZK Tryz.prog 179 [.x (.str s)] (.tup [.x (.str (ZBO s).1),.x (.bool (ZBO s).2)]):=by
 obtain⟨T,hT⟩: ∃T,KU s=T:=⟨_,rfl⟩;obtain⟨sg,hsg⟩: ∃sg:Tx,sg=if ZFO s=true then [45]else []:=⟨_,rfl⟩
 refine ZH.pure (fC 179 true ?_) rfl;intro C0 E0;have uu:=trivial;refine WI.seq ?_;refine WI.regB ZB [0] ?_
 refine Wn ?_;refine TV ?_;refine WI.regB ZB [0,4] ?_;refine Va ?_;refine WI.join (λφ os=>φ= [(0,.x (.str T)),(4,.x (.str sg))]/\os= []) ?_ (λφ os hJ=> ?_)
 .refine WI.seq ?_;refine WI.regB ZB [0,4,12] ?_;refine oS ?_;refine oG (hok:=Wu) ?_;refine oS ?_
  iterate 4 refine oG (hok:=Wu) ?_
  refine Ww ?_;refine WI.cond (b:=_) rfl rfl (λh0=> ?_) (λh0=> ?_)
  .try simp only[zB]at h0
   have hse:s=s.getD 0 0::s.drop 1:=by rcases s with _|⟨c,r⟩;simp at h0;simp
   have h45:s.getD 0 0=45:=Zgv.2 Wv;have htc:=ZKa (s.getD 0 0) (s.drop 1);rw[<-hse,if_pos h45,ZI h45]at htc;have hq1:T=s.drop 1:=by rw[<-hT,htc.1]
   have hq2:sg= [45]:=by rw[hsg,htc.2];rfl
   refine WI.seq ?_;refine WI.regB ZB [0,4] ?_;refine Va ?_;refine WI.regB ZB [0,4] ?_;refine oS ?_;refine oG (hok:=Wu) ?_;refine Va ?_;exact⟨by rw[hq1,hq2],rfl⟩
  .try simp only[zB]at h0
   have hq:T=s/\sg= []:=by
    rcases s with _|⟨c,r⟩
    .rw[<-hT,hsg];simp[KU,ZFO,Lib.trimPrefix,Lib.hasPrefix]
    .have h45: ¬c=45:=λe=>by have:=Zgv.1 e;simp at h0;omega
     have htc:=ZKa c r;rw[if_neg h45,decide_eq_false h45]at htc;rw[<-hT,hsg,htc.1,htc.2];simp
   obtain⟨hq1,hq2⟩:=hq;refine WI.orderA [0,4] ?_;refine Ts ?_;exact⟨by rw[hq1,hq2],rfl⟩
 .obtain⟨rfl,rfl⟩:=hJ;have hTl:T.length<=s.length:=by
   rw[<-hT];rcases s with _|⟨c,r⟩
   .simp[KU,Lib.trimPrefix,Lib.hasPrefix]
   .rw[(ZKa c r).1];split<;>simp
  refine WI.seq ?_;refine WI.seq ?_;refine WI.regB ZB [0,4,22] ?_;refine oS ?_
  iterate 2 refine oG (hok:=Wu) ?_
  refine oS ?_
  iterate 4 refine oG (hok:=Wu) ?_
  refine Ww ?_;refine WI.cond (b:=_) rfl rfl (λh1=> ?_) (λh1=> ?_)
  .try simp only[zB]at h1
   refine WI.seq ?_;refine WI.regB ZB [2,3] ?_;refine V2 ?_;refine JH ?_
   first|refine lfR ?_|refine ZAi ?_|refine ZAT ?_|refine ZAc ?_
   rw[ZXh (by rw[hT];unfold dgs;rw[ZWC];left;rw[decide_eq_false_iff_not];rintro⟨h2,h3⟩;have:=ZJs.2 h2;omega)]
  .try simp only[zB]at h1
   have hT1:1<=T.length/\T.length<=32:=Wl
   refine Vt ?_;refine WI.seq ?_;refine WI.regB ZB [0,4,5] ?_;refine ND ?_;refine WI.loop (λφ os=> ∃(i:Nat),φ= [(0,.x (.str T)),(4,.x (.str sg)),(5,.x (.int .i64 i))]/\os= []/\i<=T.length/\(T.take i).all ZDQ=true) (ZJ T.length 5) ?_ (λφ os hI=> ?_)
   .exact W8
   .obtain⟨i,rfl,rfl,hi,hall⟩:=hI;refine WI.seq ?_;refine WI.seq ?_;refine WI.regB ZB [0,4,5,26] ?_
    refine Wn ?_
    iterate 2 refine oG (hok:=Wu) ?_
    refine Ww ?_;refine WI.cond (b:=_) rfl rfl (λh2=> ?_) (λh2=> ?_)
    .try simp only[zB]at h2
     have hi4:i<T.length:=Wl
     have hgi:T[i]=T.getD i 0:=G9
     refine UQ ?_;refine WI.regB ZB [0,4,5,38] ?_;refine Wn ?_
     iterate 2 refine oG (hok:=Wu) ?_
     refine oS ?_
     iterate 5 refine oG (hok:=Wu) ?_
     refine Ww ?_;refine WI.cond (b:=_) rfl rfl (λh3=> ?_) (λh3=> ?_)
     .try simp only[zB]at h3
      refine WI.seq ?_;refine WI.regB ZB [2,3] ?_;refine V2 ?_;refine Tr ?_
      first|refine lfR ?_|refine ZAi ?_|refine ZAT ?_|refine ZAc ?_
      rw[ZXh (by rw[hT];unfold dgs;rw[ZVl T ZDQ i hi4 (by rw[hgi];exact(ZYg _).2 J0),ZE0])]
     .try simp only[zB]at h3
      have hdg:ZDQ T[i]=true:=by rw[hgi];cases hh:ZDQ (T.getD i 0)with|true=>rfl|false=>exact absurd ((ZYg _).1 hh) J0
      refine WI.skip ?_;refine Nw ?_;refine WI.regB ZB [0,4,5] ?_;refine oS ?_;refine oG (hok:=Wu) ?_;refine Va ?_;exact⟨⟨i+1,rfl,rfl,J0,by rw[ZRi T ZDQ i hi4,hall,hdg];rfl⟩,Wa⟩
    .try simp only[zB]at h2
     have hall2:T.all ZDQ=true:=by rw[YO J0]at hall;exact hall
     have hdT:dgs (KU s)=true:=by rw[hT];unfold dgs;rw[hall2,Qh];exact ZI ⟨ZJs.1 J0,J0⟩
     refine WZ ?_;refine Wm ?_;refine WI.block ?_;refine WI.orderA [0,4] ?_;refine WI.loop (λφ os=> ∃(t:Tx),φ= [(0,.x (.str t)),(4,.x (.str sg))]/\os= []/\stp t=stp T/\1<=t.length/\t.length<=32) (λφ _=>match φ with|(_,.x (.str t))::_=>t.length|_=>0) ?_ (λφ os hI=> ?_)
     .exact⟨T,rfl,rfl,rfl,J0,J0⟩
     .obtain⟨t,rfl,rfl,ht,htl⟩:=hI;have ht0:t.getD 0 0=t[0]:=by simp[show 0<t.length by omega]
      refine WI.seq ?_;refine WI.seq ?_;refine WI.regB ZB [0,4,46] ?_;refine oS ?_
      iterate 2 refine oG (hok:=Wu) ?_
      refine oS ?_
      iterate 4 refine oG (hok:=Wu) ?_
      refine Ww ?_;refine WI.cond (b:=_) rfl rfl (λh4=> ?_) (λh4=> ?_)
      .try simp only[zB]at h4
       have ht2:stp (t.drop 1)=stp T:=by rw[<-ht,ZRn t Wv (by rw[<-ht0];exact b48.2 Wv)]
       refine Ts ?_;refine WI.block ?_;refine WI.regB ZB [0,4] ?_;refine oS ?_;refine oG (hok:=Wu) ?_;refine oS ?_;refine oN ?_;refine Nw ?_;exact⟨⟨t.drop 1,rfl,rfl,ht2,T4,T4⟩,W3⟩
      .try simp only[zB]at h4
       have hts:stp t=t:=ZMD t (λhh=>by have:=b48.1 (hh.2 J0);rw[<-ht0]at this;clear uu;grind);have htt:=ht.symm.trans hts;refine WZ ?_;refine Wm ?_;refine WI.seq ?_;refine WI.regB ZB [0,4,50] ?_;refine oS ?_;refine oG (hok:=Wu) ?_;refine Ww ?_;refine WI.cond (b:=_) rfl rfl (λh5=> ?_) (λh5=> ?_)
       .try simp only[zB]at h5
        refine WI.seq ?_;refine WI.regB ZB [2,3] ?_;refine Wn ?_;refine Va ?_;refine WI.ret ?_;refine JH ?_
        first|refine lfR ?_|refine ZAi ?_|refine ZAT ?_|refine ZAc ?_
        have h48:t= [48]:=by simpa using h5
        rw[ZVg hdT,hT,htt,h48,if_neg J1]
       .try simp only[zB]at h5
        refine Vt ?_;refine WI.regB ZB [2,3] ?_;refine Wn ?_;refine oG (hok:=Wu) ?_;refine V2 ?_
        first|refine lfR ?_|refine ZAi ?_|refine ZAT ?_|refine ZAc ?_
        have h48:t≠ [48]:=by simpa using h5
        rw[ZVg hdT,hT,htt,hsg];by_cases hn:ZFO s=true
        .simp[hn,h48]
        .simp[hn]
def ZXA:J8->J5
 | [.x (.str s)]=>some (decide (s.length<=1000000),.tup [.x (.str (ZBO s).1),.x (.bool (ZBO s).2)])
 |_=>none
theorem ZcS:QK Tryz.prog ZXA 179:=by
 intro args r h;unfold ZXA at h;split at h
 .obtain⟨h1,rfl⟩:=Yu h;exact(Zgw _ h1)
 .cases h
def Yy(k:Int)(s:Tx):Tx×Bool:=
 if s.length>4096 then([],false)else if k=1 then(fld s,!(fld s== []))else if k=2 then(blk s,!(blk s== []))else if k=3 then ZBO s
 else if k=4 then(s,true)else if k=5 then((JW s).1,(JW s).2==0)else([],false)
def ZKw:J8->J5
 | [.x (.str s)]=>some (true,.tup [.x (.str (JW s).1),.x (.int .i64 (JW s).2)])
 |_=>none
theorem ZOI:QK Tryz.prog ZKw 96:=by
 intro args r h;unfold ZKw at h;split at h
 .obtain rfl:=Qv h;exact(ZfB _)
 .cases h
def ZWL:J8->J5
 | [.x (.str s)]=>some (decide (s.length<=1000000),.x (.str (blk s)))
 |_=>none
theorem Zb9:QK Tryz.prog ZWL 174:=by
 intro args r h;unfold ZWL at h;split at h
 .obtain⟨h1,rfl⟩:=Yu h;exact(ZS1 _ h1)
 .cases h
def ZWH:J8->J5
 | [.x (.str s)]=>some (true,.tup [.x (.str (ZBO s).1),.x (.bool (ZBO s).2)])
 |_=>none
theorem Zbt:QK Tryz.prog ZWH 182:=by
 intro args r h;unfold ZWH at h;split at h
 .obtain rfl:=Qv h;exact(Zis _)
 .cases h
theorem Zew(k:Int)(s:Tx):ZK Tryz.prog 154 [.x (.int .i64 k),.x (.str s)] (.tup [.x (.str (Yy k s).1),.x (.bool (Yy k s).2)]):=by
 rcases hu:Yy k s with⟨u,b⟩
 unfold Yy at hu;have hbl:=Zfm s;have hfl:fld s=ZE (blk s):=rfl;have hll:(ZE s).length=s.length:=by unfold ZE;rw[YZ]
 refine ZH.pure (fC 154 true ?_) rfl;intro C0 E0;have uu:=ξ6 @ZGX.eq_1 @ZWL.eq_1 @ZWH.eq_1 @ZKw.eq_1 hbl hll;have tT:=aQ (aQ (aQ (aQ ZB ZGL) Zb9) Zbt) ZOI;refine rg [0,1] ?_;refine rg [0,1,11] ?_;refine cd (λh0=> ?_) (λh0=> ?_)
 .refine WN ?_
  (clear uu;grind)
 .refine rg [0,1,6] ?_;refine rg [1,6,13] ?_;refine rg [1,6,13,14] ?_;refine cd (λh1=> ?_) (λh1=> ?_)
  .refine rg [6] ?_;refine rg [6] ?_;refine WN ?_
   (clear uu;grind)
  .refine rg [1,6,13,16] ?_;refine cd (λh2=> ?_) (λh2=> ?_)
   .refine rg [6] ?_;refine WN ?_
    (clear uu;grind)
   .refine rg [1,13,18] ?_;refine cd (λh3=> ?_) (λh3=> ?_)
    .refine WN ?_
     (clear uu;grind)
    .refine rg [1,13,20] ?_;refine cd (λh4=> ?_) (λh4=> ?_)
     .refine WN ?_
      (clear uu;grind)
     .refine rg [1,22] ?_;refine cd (λh5=> ?_) (λh5=> ?_)
      .refine rg [7,8] ?_;refine WN ?_
       (clear uu;grind)
      .refine WN ?_
       (clear uu;grind)
def ZFd:J8->J5
 | [.x (.int .i64 k),.x (.str s)]=>some (true,.tup [.x (.str (Yy k s).1),.x (.bool (Yy k s).2)])
 |_=>none
theorem ZEJ:QK Tryz.prog ZFd 154:=by
 intro args r h;unfold ZFd at h;split at h
 .obtain rfl:=Qv h;exact(Zew _ _)
 .cases h
theorem ZbL(k:Int)(s:Tx):ZK Tryz.prog 145 [.x (.int .i64 k),.x (.str s)] (.tup [.x (.str (Yy k s).1),.x (.bool (Yy k s).2)]):=by
 rcases hu:Yy k s with⟨u,b⟩
 unfold Yy at hu;refine ZH.pure (fC 145 true ?_) rfl;intro C0 E0;have uu:=Qt @ZQq.eq_1 @ZQs.eq_1 @ZXA.eq_1 @ZN5.eq_1;have tT:=aQ (aQ (aQ (aQ ZB ZTV) ZRO) ZcS) ZPl;refine rg [0,1] ?_;refine rg [0,1,12] ?_;refine cd (λh0=> ?_) (λh0=> ?_)
 .refine WN ?_
  (clear uu;grind)
 .refine rg [1,13] ?_;refine rg [1,13,14] ?_;refine cd (λh1=> ?_) (λh1=> ?_)
  .refine rg [6] ?_;refine WN ?_
   (clear uu;grind)
  .refine rg [1,13,21] ?_;refine cd (λh2=> ?_) (λh2=> ?_)
   .refine rg [7] ?_;refine WN ?_
    (clear uu;grind)
   .refine rg [1,13,28] ?_;refine cd (λh3=> ?_) (λh3=> ?_)
    .refine WN ?_
     (clear uu;grind)
    .refine rg [1,13,34] ?_;refine cd (λh4=> ?_) (λh4=> ?_)
     .refine WN ?_
      (clear uu;grind)
     .refine rg [1,37] ?_;refine cd (λh5=> ?_) (λh5=> ?_)
      .refine rg [8,9] ?_;refine WN ?_
       (clear uu;grind)
      .refine WN ?_
       (clear uu;grind)
def ZK9:J8->J5
 | [.x (.int .i64 k),.x (.str s)]=>some (true,.tup [.x (.str (Yy k s).1),.x (.bool (Yy k s).2)])
 |_=>none
theorem ZNq:QK Tryz.prog ZK9 145:=by
 intro args r h;unfold ZK9 at h;split at h
 .obtain rfl:=Qv h;exact(ZbL _ _)
 .cases h
def eqV(k:Int)(a b:Tx):Int:=if(Yy k a).2=true/\(Yy k b).2=true then(if(Yy k a).1=(Yy k b).1 then 1 else 0)else 2
theorem Zau(b:Bool):ZK Tryz.prog 146 [.x (.bool b)] (.x (.int .i64 (if b=true then 1 else 0))):=by
 refine ZH.pure (fC 146 true ?_) rfl;intro C0 E0;have uu:=trivial;have tT:=(ZB:SsOk Tryz.prog YH);refine rg [0] ?_;refine rg [3] ?_;refine cd (λh0=> ?_) (λh0=> ?_)
 .refine Wy ?_
  (clear uu;grind)
 .refine Wy ?_
  (clear uu;grind)
def ZO5:J8->J5
 | [.x (.bool b)]=>some (true,.x (.int .i64 (if b=true then 1 else 0)))
 |_=>none
theorem ZWk:QK Tryz.prog ZO5 146:=by
 intro args r h;unfold ZO5 at h;split at h
 .obtain rfl:=Qv h;exact(Zau _)
 .cases h
theorem ZZS(k:Int)(a b:Tx):ZK Tryz.prog 98 [.x (.int .i64 k),.x (.str a),.x (.str b)] (.x (.int .i64 (eqV k a b))):=by
 rcases hu:eqV k a b with u
 unfold eqV at hu;refine ZH.pure (fC 98 true ?_) rfl;intro C0 E0;have uu:=Zz @ZK9.eq_1 @ZO5.eq_1;have tT:=aQ (aQ ZB ZNq) ZWk;refine rg [0,1,2] ?_;refine rg [0,2,7,8] ?_;refine rg [7,8,9,10] ?_;refine rg [7,9,28] ?_;refine cd (λh0=> ?_) (λh0=> ?_)
 .refine rg [6] ?_;refine lf ?_
  (clear uu;grind)
 .refine rg [6] ?_;refine lf ?_
  (clear uu;grind)
def ZIh:J8->J5
 | [.x (.int .i64 k),.x (.str a),.x (.str b)]=>some (true,.x (.int .i64 (eqV k a b)))
 |_=>none
theorem ZLo:QK Tryz.prog ZIh 98:=by
 intro args r h;unfold ZIh at h;split at h
 .obtain rfl:=Qv h;exact(ZZS _ _ _)
 .cases h
abbrev Zd:=Tx×(Int×(Bool×Unit))
abbrev YC:RC Zd:=JF ZC (JF (ZCL .i64) (JF ZND QV))
theorem JI:YC.Good:=Yt ZO (Yt (ZBK .i64) (Yt ZXP ZAp))
abbrev Zo:=Tx×(List Tx×(List Tx×Unit))
abbrev Yl:RC Zo:=JF ZC (JF (rSl ZC) (JF (rSl ZC) QV))
theorem JT:Yl.Good:=Yt ZO (Yt (ZCG ZO) (Yt (ZCG ZO) ZAp))
def ZSv(t:Zd):Zd:=(ZE t.1,t.2)
def ZDJ(c:Zo):Zo:=(ZE c.1,c.2.1.map ZE,c.2.2.1.map ZE,())
def Zw(T:List Zd):List (Tx×Zd):=T.map λt=>(ZE t.1,ZSv t)
def YQ(C:List Zo):List (Tx×Zo):=C.map λc=>(ZE c.1,ZDJ c)
def Jw(L:List (Tx×Zd)):W2:=Yv Km YC.enc L
def Jo(M:List (Tx×Zo)):W2:=Yv Km Yl.enc M
abbrev scO(L:List (Tx×Zd))(M:List (Tx×Zo)):J7:= [.box [.mref 1,.mref 2],.mpo .str true (Jw L),.mpo .str true (Jo M)]
def Kb(L:List (Tx×Zd))(k:Tx):Zd:=(ZF L k).getD ([],0,false,())
def clV(M:List (Tx×Zo))(k:Tx):Zo:=(ZF M k).getD ([],[],[],())
def tyD(t:Zd):D:= .agg [.x (.str t.1),.x (.int .i64 t.2.1),.x (.bool t.2.2.1)]
def clD(c:Zo):D:= .agg [.x (.str c.1),.x (.sl (rows ZC c.2.1)),.x (.sl (rows ZC c.2.2.1))]
theorem Zh0(L:List (Tx×Zd))(k:Tx):Ju (Jw L) [X.str k]=(ZF L k).map λt=> [.x (.str t.1),.x (.int .i64 t.2.1),.x (.bool t.2.2.1)]:=by
 unfold Jw;rw[ZE5 Km YC.enc hkS L k];rfl
theorem Zh3(M:List (Tx×Zo))(k:Tx):Ju (Jo M) [X.str k]=(ZF M k).map λc=> [.x (.str c.1),.x (.sl (rows ZC c.2.1)),.x (.sl (rows ZC c.2.2.1))]:=by
 unfold Jo;rw[ZE5 Km Yl.enc hkS M k];rfl
theorem Zh8(L:List (Tx×Zd))(k:Tx)(t:Zd):Yo (Jw L) [X.str k] [.x (.str t.1),.x (.int .i64 t.2.1),.x (.bool t.2.2.1)]=Jw (Zu L k t):=ZDq Km YC.enc hkS L k t
theorem ZiE(M:List (Tx×Zo))(k:Tx)(c:Zo):Yo (Jo M) [X.str k] [.x (.str c.1),.x (.sl (rows ZC c.2.1)),.x (.sl (rows ZC c.2.2.1))]=Jo (Zu M k c):=ZDq Km Yl.enc hkS M k c
theorem ZCt(f:Nat->Nat)(L:List (Tx×Zd)):(Jw L).map (Jn f)=Jw L:=ZAv _ _ _ _
theorem ZDE(f:Nat->Nat)(M:List (Tx×Zo)):(Jo M).map (Jn f)=Jo M:=ZAv _ _ _ _
theorem ZDh(L:List (Tx×Zd)):ZB9 (Jw L)= []:=ZDC _ _ _
theorem ZDa(M:List (Tx×Zo)):ZB9 (Jo M)= []:=ZDC _ _ _
theorem ZA1(p:Nat->Bool)(L:List (Tx×Zd)):(Jw L).all (ZAS p)=true:=ZAR _ _ _ _
theorem ZAu(p:Nat->Bool)(M:List (Tx×Zo)):(Jo M).all (ZAS p)=true:=ZAR _ _ _ _
theorem ZiR(ρ:W0)(os:J7)(L:List (Tx×Zd)):(Jw L).map (mpP (onF ρ os))=Jw L:=ZFL _ _ _ _ _
theorem ZiG(ρ:W0)(os:J7)(M:List (Tx×Zo)):(Jo M).map (mpP (onF ρ os))=Jo M:=ZFL _ _ _ _ _
theorem ZGD(L:List (Tx×Zd)):unM ZC YC (Jw L)=some L:=ZTW ZO JI L
theorem ZGB(M:List (Tx×Zo)):unM ZC Yl (Jo M)=some M:=ZTW ZO JT M
theorem ZCX(L:List (Tx×Zd))(M:List (Tx×Zo)):(scO L M).all (Ob.inP (λi=>decide (i<(scO L M).length)))=true:=by
 simp[Ob.inP,JE,D.inP,ZA1,ZAu]
def ZAB:J8->J5
 | [.x (.str s)]=>some (decide (s.length<=140737488355328),.x (.str (ZE s)))
 |_=>none
theorem Kh:QK Tryz.prog ZAB 63:=by
 intro args r h;unfold ZAB at h;split at h
 .obtain⟨h1,rfl⟩:=Yu h;exact(ZOe _ h1)
 .cases h
theorem ZXs(L:List (Tx×Zd))(M:List (Tx×Zo))(n:Tx)(hn:n.length<=140737488355328):ZQ Tryz.prog 74 [.ptr 0 0,.x (.str n)] (scO L M) (.tup [tyD (Kb L (ZE n)),.x (.bool (ZF L (ZE n)).isSome)]) (scO L M):=by
 have hg:=Zh0 L (ZE n);have hO:=ZCX L M;unfold Kb;rcases hm:ZF L (ZE n)with _|⟨a,k,b,u⟩
 .rw[hm,ZAC]at hg;refine ZH.mcallsX (fC 74 true ?_) WW hO Vi;intro C0 E0;have uu:=Zz @ZAB.eq_1 hg;have tT:=aQ ZB Kh;refine rg [0,1,4] ?_;refine WI.dregB tT [4,6,7] ?_
  refine UL ?_;exact Uf
 .rw[hm,Yr]at hg;refine ZH.mcallsX (fC 74 true ?_) WW hO Vi;intro C0 E0;have uu:=Zz @ZAB.eq_1 hg;have tT:=aQ ZB Kh;refine rg [0,1,4] ?_;refine WI.dregB tT [4,6,7] ?_
  refine UL ?_;exact Uf
def ZQ1:J8->J7->Option (Bool×D×J7)
 | [.ptr 0 0,.x (.str n)],[.box [.mref 1,.mref 2],.mpo .str true P1,.mpo .str true P2]=>(unM ZC YC P1).bind λL=>(unM ZC Yl P2).bind λM=>some (decide (n.length<=140737488355328),.tup [tyD (Kb L (ZE n)),.x (.bool (ZF L (ZE n)).isSome)],[.box [.mref 1,.mref 2],.mpo .str true (Jw L),.mpo .str true (Jo M)])
 |_,_=>none
theorem ZSa:TK Tryz.prog ZQ1 74:=by
 intro args os r os' h;unfold ZQ1 at h;split at h
 .obtain⟨L,rfl,i0⟩:=um ZO JI h;obtain⟨M,rfl,i1⟩:=um ZO JT i0;obtain⟨h1,rfl,rfl⟩:=tn1 i1;exact ZXs L M _ h1
 .cases h
def ZOF:J8->J7->J5
 | [.ptr 0 0,.x (.str n)],[.box [.mref 1,.mref 2],.mpo .str true P1,.mpo .str true P2]=>(unM ZC YC P1).bind λL=>(unM ZC Yl P2).bind λM=>some (decide (n.length<=140737488355328),.tup [tyD (Kb L (ZE n)),.x (.bool (ZF L (ZE n)).isSome)])
 |_,_=>none
theorem ZQd:RK Tryz.prog ZOF 74:=by
 intro args os r h;unfold ZOF at h;split at h
 .obtain⟨L,rfl,i0⟩:=um ZO JI h;obtain⟨M,rfl,i1⟩:=um ZO JT i0;obtain⟨h1,rfl⟩:=Yu i1;exact rk (ZXs L M _ h1)
 .cases h
theorem Zg6(L:List (Tx×Zd))(M:List (Tx×Zo))(n:Tx)(hn:n.length<=140737488355328):ZQ Tryz.prog 122 [.ptr 0 0,.x (.str n)] (scO L M) (.tup [tyD (Kb L (ZE n)),.x (.bool (ZF L (ZE n)).isSome)]) (scO L M):=by
 have hO:=ZCX L M;have h1:=ZGD L;have h2:=ZGB M;unfold tyD;refine ZH.mcallsX (fC 122 true ?_) WW hO Vi;intro C0 E0;have uu:=ξ9 @ZQ1.eq_1 h1 h2 @tyD.eq_1 @ZCt @ZDE @ZDh @ZDa (Zz @ZA1 @ZAu);have tT:=aT ZB ZSa;refine rg [0,1,4] ?_;refine rg [0,1,4,7] ?_;refine ce (λh0=> ?_) (λh0=> ?_)
 .simp at h0
 .refine WN ?_;exact Gn
theorem Zeq(L:List (Tx×Zd))(M:List (Tx×Zo))(n:Tx)(hn:n.length<=140737488355328):ZQ Tryz.prog 119 [.ptr 0 0,.x (.str n)] (scO L M) (.tup [clD (clV M (ZE n)),.x (.bool (ZF M (ZE n)).isSome)]) (scO L M):=by
 have hg:=Zh3 M (ZE n);have hO:=ZCX L M;unfold clV;rcases hm:ZF M (ZE n)with _|⟨a,m,y,u⟩
 .rw[hm,ZAC]at hg;refine ZH.mcallsX (fC 119 true ?_) WW hO Vi;intro C0 E0;have uu:=Zz @ZAB.eq_1 hg;have tT:=aQ ZB Kh;refine rg [0,1,4] ?_;refine rg [0,1,4,9] ?_;refine ce (λh0=> ?_) (λh0=> ?_)
  .simp at h0
  .refine WI.dregB tT [4,6,7] ?_;refine Wo ?_;refine Wo ?_;refine Zb ?_;refine ZU ?_;refine dQC ?_;refine Zb ?_;refine Nv ?_;refine rg [4,5] ?_;refine WI.nnA ?_;refine lf ?_;exact Gn
 .rw[hm,Yr]at hg;refine ZH.mcallsX (fC 119 true ?_) WW hO Vi;intro C0 E0;have uu:=Zz @ZAB.eq_1 hg;have tT:=aQ ZB Kh;refine rg [0,1,4] ?_;refine rg [0,1,4,9] ?_;refine ce (λh0=> ?_) (λh0=> ?_)
  .simp at h0
  .refine WI.dregB tT [4,6,7] ?_;refine Wo ?_;refine Wo ?_;refine Zb ?_;exact Uf
def ZS0:J8->J7->Option (Bool×D×J7)
 | [.ptr 0 0,.x (.str n)],[.box [.mref 1,.mref 2],.mpo .str true P1,.mpo .str true P2]=>(unM ZC YC P1).bind λL=>(unM ZC Yl P2).bind λM=>some (decide (n.length<=140737488355328),.tup [clD (clV M (ZE n)),.x (.bool (ZF M (ZE n)).isSome)],[.box [.mref 1,.mref 2],.mpo .str true (Jw L),.mpo .str true (Jo M)])
 |_,_=>none
theorem ZYP:TK Tryz.prog ZS0 119:=by
 intro args os r os' h;unfold ZS0 at h;split at h
 .obtain⟨L,rfl,i0⟩:=um ZO JI h;obtain⟨M,rfl,i1⟩:=um ZO JT i0;obtain⟨h1,rfl,rfl⟩:=tn1 i1;exact Zeq L M _ h1
 .cases h
def ZQx:J8->J7->Option (Bool×D×J7)
 | [.ref 0 n 0 n',.x (.int .i64 i),.ref 1 1 0 1],[.rows false e 2 rs,.rows false e' 2 [r]]=>some (decide (n=rs.length/\n'=rs.length/\0<=i/\i<=rs.length/\rs.length<=1000000/\e=94/\e'=94),.ref 0 (n+1) 0 (n+1),[.rows false e 2 (YV rs i.toNat [r]),.rows false e' 2 [r]])
 |_,_=>none
theorem Zcb: ∀args os r os',ZQx args os=some (true,r,os')->ZQ Tryz.prog 126 args os r os':=by
 intro args os r os' h;unfold ZQx at h;split at h
 .rename_i n n' i e rs e' r0;simp only[Yj,YN,Ym]at h;obtain⟨⟨rfl,rfl,h0,h1,h2,rfl,rfl⟩,rfl,rfl⟩:=h;have h:=Zhy rs r0 i.toNat J0 h2;rwa [show((i.toNat:Nat):Int)=i by omega]at h
 .cases h
def ZHJ:J8->J5
 | [.x (.sl [[.nils],[.sl R]])]=>(ZM ZC R).map λb=>(decide (b.length<=100000),.x (.sl (rows ZC b)))
 | [.x (.sl [[.sl R],[.sl R']])]=>(ZM ZC R).bind λa=>(ZM ZC R').map λb=>(decide (a.length<=100000/\b.length<=100000),.x (.sl (rows ZC (a++b))))
 |_=>none
theorem ZTb: ∀args r,ZHJ args=some (true,r)->ZK Tryz.prog 73 args r:=by
 intro args r h;unfold ZHJ at h;split at h
 .rename_i R;obtain⟨b,h1,h2⟩:=Za h;simp only[YN,Ym]at h2;obtain⟨h3,rfl⟩:=h2;rw[<-YU ZO h1];exact ZXd b h3
 .exact U5
 .cases h
def Ko(l:List ZN)(n:List UInt8)(vs:List (List UInt8)):List ZN:=if vs= []then l else l.take (ZZ l n)++ [(n,QO [] (YT l n++vs),())]++KC l n
theorem ZCS{l:List ZN}{n:List UInt8}(h:Ql l n=true):ZZ l n<l.length:=by
 unfold Ql at h;split at h
 .rename_i a ha;exact(ZV ha).1
 .cases h
theorem ZIB{l:List ZN}{n:List UInt8}(h:Ql l n=true):(rows ZL l)[ZZ l n]? =some [.str n,.sl (rows ZC (YT l n))]/\ ∀out,(rows ZL l).set (ZZ l n) [.str n,.sl (rows ZC out)]=rows ZL (l.take (ZZ l n)++ [(n,out,())]++KC l n):=by
 have hp:=ZCS h;have he:=ZK8 l n hp h;constructor
 .rw[ZJw l _ hp];unfold YT;have e:(l.getD (ZZ l n) ([],[],())).1=n:=by rw[show l.getD (ZZ l n) ([],[],())=l[ZZ l n] by simp[hp]];exact he
  rw[if_pos h,e]
 .intro out;unfold KC;rw[if_pos h];have e: [X.str n,.sl (rows ZC out)]=ZL.enc (n,out,()):=rfl;rw[e];unfold rows;rw[<-ZMT,List.set_eq_take_append_cons_drop,if_pos hp];simp
theorem ZNE{l:List ZN}{n:List UInt8}(h:Ql l n=false):(YV (rows ZL l) (ZZ l n) [[.str n,.nils]])[ZZ l n]? =some [.str n,.nils]/\ ∀out,(YV (rows ZL l) (ZZ l n) [[.str n,.nils]]).set (ZZ l n) [.str n,.sl (rows ZC out)]=rows ZL (l.take (ZZ l n)++ [(n,out,())]++KC l n):=by
 have hp:=ZCy l n;have hl:((rows ZL l).take (ZZ l n)).length=ZZ l n:=by rw[Ys,ZP];omega
 constructor
 .unfold YV;rw[Yw,QL J0,hl,ZH2];rfl
 .intro out;unfold KC YV;rw[if_neg (by rw[h];decide),Yw,ZDS _ _ J0,hl,ZH2];unfold rows;rw[<-ZW1,<-List.map_drop,Jd,Jd];simp[ZL,JF,ZC,rSl,QV,rows]
theorem ZUx(l:List (List UInt8))(x:List UInt8):rows ZC (l++ [x])=rows ZC l++ [[X.str x]]:=Gd
theorem ZSh{l:List ZN}{n:List UInt8}(hb: ∀a∈l,a.2.1.length<=50000):(YT l n).length<=50000:=by
 unfold YT;split
 .exact Gs
 .simp
theorem ZdX(acc:List (List UInt8))(v:List UInt8):ZEU acc v=if v∈acc then acc else acc++ [v]:=rfl
set_option maxHeartbeats 4000000 in
theorem ZiU(l:List ZN)(attr:List UInt8)(vs:List (List UInt8))(hs:SoA l)(hl:l.length<=100000)(ha:attr.length<=140737488355328)(hv:vs.length<=50000)(hb: ∀a∈l,a.2.1.length<=50000):ZQ Tryz.prog 80 [.ref 0 l.length 0 l.length,.x (.str attr),.x (.sl (rows ZC vs))] [.rows false 94 2 (rows ZL l)] (.ref 0 (Ko l (ZE attr) vs).length 0 (Ko l (ZE attr) vs).length) [.rows false 94 2 (rows ZL (Ko l (ZE attr) vs))]:=by
 have hO: [Ob.rows false 94 2 (rows ZL (Ko l (ZE attr) vs))].all (Ob.inP (λi=>decide (i< [Ob.rows false 94 2 (rows ZL (Ko l (ZE attr) vs))].length)))=true:=rfl;have hda:=ZI ha;have hds:decide (SoA l/\l.length<=1000000)=true:=ZI ⟨hs,J0⟩;have hul:ZM ZL (rows ZL l)=some l:=ZX Ze l;obtain⟨n,hn⟩: ∃n,ZE attr=n:=⟨_,rfl⟩;rw[hn]at hO|-;have hpl:=ZCy l n;rcases hres:Ko l n vs with res
 unfold Ko at hres;have htl:l.take l.length=l:=JX;have hbl:(YT l n).length<=50000:=ZSh hb;have hcn:Ql l n=false->ZHJ [.x (.sl [[.nils],[.sl (rows ZC vs)]])]=some (true,.x (.sl (rows ZC (YT l n++vs)))):=λh=>by
  show((ZM ZC (rows ZC vs)).map λb=>(decide (b.length<=100000),D.x (.sl (rows ZC b))))=_;rw[ZX ZO,show YT l n= [] by unfold YT;rw[if_neg (by rw[h];decide)]];simp;omega
 have hcy:ZHJ [.x (.sl [[.sl (rows ZC (YT l n))],[.sl (rows ZC vs)]])]=some (true,.x (.sl (rows ZC (YT l n++vs)))):=by
  show((ZM ZC (rows ZC (YT l n))).bind λa=>(ZM ZC (rows ZC vs)).map λb=>(decide (a.length<=100000/\b.length<=100000),D.x (.sl (rows ZC (a++b)))))=_;rw[ZX ZO,ZX ZO];simp;omega
 refine ZH.mcallsX (fC 80 false ?_) WW hO Vi;intro C0 E0;have uu:=ξ9 @ZAB.eq_1 @ZWP.eq_1 @ZQx.eq_1 @ZQx.eq_2 @ZHJ.eq_1 @ZHJ.eq_2 @ZHJ.eq_3 @ZW7.eq_1 (ξ6 hul hda hds hn htl @ZH0.eq_1);have tT:=aT (aQ (aT (aQ (aT (aQ (aQ ZB Kh) ZUi) Zcb) ZTb) (ZCV ZTb)) ZTC ZLX) (ZCV ZTC) ZLX;refine WI.seq ?_;refine WI.regB tT [0,1,2] ?_;refine WP ?_;refine WI.regB tT [0,2,7] ?_;refine oS ?_;refine oC ?_;refine TF ?_;refine WI.regB tT [0,2,7,17] ?_;refine oS ?_
 refine W7 ?_;refine Ww ?_;refine WI.cond (b:=_) rfl rfl (λh0=> ?_) (λh0=> ?_)
 .try simp only[zB]at h0
  have hv0:vs= []:=ξS Vg;rw[if_pos hv0]at hres;refine WI.seq ?_;refine WI.regB tT [6] ?_
  refine V2 ?_;refine JH ?_
  first|refine lfR ?_|refine ZAi ?_|refine ZAT ?_|refine ZAc ?_
  subst hres;exact Gn
 .try simp only[zB]at h0
  have hv0:vs≠ []:=λe=>by subst e;simp at h0
  rw[if_neg hv0]at hres;refine Vt ?_;refine WI.regB tT [0,2,7,8,9] ?_
  refine Wn ?_;refine oC ?_;refine N3 ?_;refine Wn ?_;refine Ww ?_;refine WI.join (λφ os=> ∃(m:Nat) (RS:J6) (V:X),φ= [(0,.ref 0 m 0 m),(2,.x (.sl (rows ZC vs))),(8,.x (.int .i64 (ZZ l n)))]/\os= [.rows false 94 2 RS]/\RS.length=m/\ZZ l n<m/\RS[ZZ l n]? =some [.str n,V]/\(∀out,RS.set (ZZ l n) [.str n,.sl (rows ZC out)]=rows ZL (l.take (ZZ l n)++ [(n,out,())]++KC l n))/\ZHJ [.x (.sl [[V],[.sl (rows ZC vs)]])]=some (true,.x (.sl (rows ZC (YT l n++vs))))) ?_ (λφ os hJ=> ?_)
  .refine WI.seq ?_;refine WI.regB tT [0,2,7,8,26] ?_;refine Vm ?_;refine Ww ?_;refine WI.cond (b:=_) rfl rfl (λh1=> ?_) (λh1=> ?_)
   .try simp only[zB]at h1
    have hh:Ql l n=false:=WC
    refine WI.post ?_;refine WI.regB tT [0,2,8] ?_;refine Wn ?_;refine N3 ?_;refine oC ?_;refine Nu ?_;refine Jm [0] ?_;refine KR ?_;refine ZA ?_
    exact VM
   .try simp only[zB]at h1
    have hh:Ql l n=true:=WC
    refine WI.orderA [0,2,8] ?_;refine Ts ?_
    exact VM
  .obtain⟨m,RS,V,rfl,rfl,hRl,hpm,hRp,hRs,hcv⟩:=hJ;refine WI.seq ?_;refine WI.regB tT [0,2,8,10] ?_;refine TF ?_;have hcl:(YT l n++vs).length<=100000:=by rw[ZW];omega
   generalize YT l n++vs=W at hres hcv hcl;have uu:=Qt uu hRp hRl hcv;refine WI.regB tT [0,8,10,40,41,42] ?_
   refine Wn ?_;refine oG ?_;refine Vm ?_;refine Vm ?_;refine oC ?_;refine oG ?_;refine ND ?_;refine WI.pickA [0] ?_;refine WI.ownA 10 9 1 ?_;refine WI.orderA [0,8,10,40,41,42] ?_;refine WI.loop (λφ os=> ∃(j:Nat),φ= [(0,.ref 0 m 0 m),(8,.x (.int .i64 (ZZ l n))),(10,.ref 1 (QO [] (W.take j)).length 0 (QO [] (W.take j)).length),(40,.x (.sl (rows ZC W))),(41,.x (.int .i64 W.length)),(42,.x (.int .i64 j))]/\os= [.rows false 94 2 RS,.rows false 9 1 (rows ZC (QO [] (W.take j)))]/\j<=W.length) (ZJ W.length 42) ?_ (λφ os hI=> ?_)
   .exact Vf
   .obtain⟨j,rfl,rfl,hj⟩:=hI;refine WI.seq ?_;refine WI.regB tT [0,8,10,40,41,42,43] ?_;refine oG ?_;refine TV ?_;refine WI.cond (b:=_) rfl rfl (λh2=> ?_) (λh2=> ?_)
    .try simp only[zB]at h2
     refine UQ ?_;refine WI.regB tT [0,8,10,12,40,41,42] ?_;refine W7 ?_;refine WP ?_;have hj4:j<W.length:=Wl
     have hsn:=ZPq [] W j hj4;have hle:=ZGk [] (W.take j);rw[Ys,ξN]at hle;generalize QO [] (W.take j)=acc at hsn hle|-;have hta:acc.take acc.length=acc:=JX;have hd2:decide (acc.length<=1000000)=true:=ZI J0;have hua:ZM ZC (rows ZC acc)=some acc:=ZX ZO acc;have uu:=Qt uu hta hd2 hua;refine WI.regB tT [0,8,10,12,40,41,42,49] ?_
     refine Wn ?_;refine oC ?_;refine oG ?_;refine Ww ?_;refine WI.cond (b:=_) rfl rfl (λh3=> ?_) (λh3=> ?_)
     .try simp only[zB]at h3
      have hst:QO [] (W.take (j+1))=acc++ [W[j]]:=by rw[hsn,ZdX,if_neg UZ]
      refine WI.regB tT [0,8,10,40,41,42] ?_;refine GB ?_;refine oS ?_;refine oN ?_;refine Nw ?_;refine WI.pickA [0,1] ?_;refine WI.regB tT [0,8,10,40,41,42] ?_;refine oG ?_;refine Va ?_
      exact TL
     .try simp only[zB]at h3
      have hst:QO [] (W.take (j+1))=acc:=by rw[hsn,ZdX,if_pos UZ]
      refine WI.skip ?_;refine Nw ?_;refine WI.pickA [0,1] ?_;refine WI.regB tT [0,8,10,40,41,42] ?_;refine oG ?_;refine Va ?_
      exact TL
    .try simp only[zB]at h2
     refine WZ ?_;refine Wm ?_;obtain rfl:j=W.length:=Wl
     rw[JX];refine WI.regB tT [0] ?_
     refine Wn ?_;refine Vm ?_;refine Vm ?_;refine TV ?_;refine WI.regB tT [6] ?_;refine V2 ?_
     first|refine lfR ?_|refine ZAi ?_|refine ZAT ?_|refine ZAc ?_
     have hm:m=res.length:=by rw[<-hres,<-ZP ZL,<-hRs,ZJN,hRl]
     rw[hRs,hres,hm];exact Gn
theorem ZMr{l:List ZN}{n:List UInt8}{a:ZN}(h:a∈KC l n):a∈l:=by
 unfold KC at h;split at h<;>exact ZB8 h
theorem ZcY(l:List ZN)(n:List UInt8)(vs:List (List UInt8)):(Ko l n vs).length<=l.length+1:=by
 have:=ZCy l n;unfold Ko KC;split
 .omega
 .split<;>simp<;>omega
theorem ZPu(l:List ZN)(n:List UInt8)(vs:List (List UInt8))(B C:Nat)(hb: ∀a∈l,a.2.1.length<=B)(hv:vs.length<=C): ∀a∈Ko l n vs,a.2.1.length<=B+C:=by
 intro a ha;unfold Ko at ha;split at ha
 .have:=hb a ha;omega
 .rcases KV.1 ha with ha|ha
  .rcases KV.1 ha with ha|ha
   .have:=hb a (ZBU ha);omega
   .rw[Qf]at ha;subst ha;have h1:=ZGk [] (YT l n++vs);have h2:(YT l n).length<=B:=by
     unfold YT;split
     .exact Gs
     .simp
    rw[ZW,ξN]at h1;show(QO [] (YT l n++vs)).length<=B+C;omega
  .have:=hb a (ZMr ha);omega
theorem Zdl{l:List ZN}(hs:SoA l){n:List UInt8}{a:ZN}(h:a∈KC l n):Op.bytesLess n a.1=true:=by
 unfold KC at h;split at h
 .rename_i hh;have hp:=ZCS hh;have he:=ZK8 l n hp hh;obtain⟨j,hj,rfl⟩:=ZKm.1 h;rw[List.getElem_drop];rw[KO]at hj;have:=ZE8.1 hs (ZZ l n) (ZZ l n+1+j) hp J0 J0;rwa [he]at this
 .rename_i hh;obtain⟨j,hj,rfl⟩:=ZKm.1 h;rw[List.getElem_drop];rw[KO]at hj;have hp:ZZ l n<l.length:=Wl
  have hst:=ZIq l n hp;have hne:l[ZZ l n].1≠n:=λe=>hh (by unfold Ql;rw[Zx hp];simpa using e)
  have h1:Op.bytesLess n l[ZZ l n].1=true:=(bl_tot _ _ hne).resolve_left (by rw[hst];decide);rcases ZOc j with h0|h0
  .subst h0;exact h1
  .exact bl_trans _ _ _ h1 (ZE8.1 hs (ZZ l n) (ZZ l n+j) hp J0 J0)
theorem Zdq{l:List ZN}(hs:SoA l)(n:List UInt8)(vs:List (List UInt8)):SoA (Ko l n vs):=by
 unfold Ko;split
 .exact hs
 .have h1: ∀a∈l.take (ZZ l n),Op.bytesLess a.1 n=true:=λa ha=>by
   obtain⟨j,hj,rfl⟩:=List.mem_take_iff_getElem.1 ha;exact ZJd l n j J0
  have h2: ∀a∈KC l n,Op.bytesLess n a.1=true:=λa ha=>Zdl hs ha
  rw[SoA,ZOZ,ZOZ];refine⟨⟨hs.sublist (List.take_sublist _ _),List.pairwise_singleton _ _,λa ha b hb=> ?_⟩,?_,λa ha b hb=> ?_⟩
  .rw[Qf]at hb;subst hb;exact h1 a ha
  .unfold KC;split<;>exact hs.sublist (List.drop_sublist _ _)
  .rcases KV.1 ha with ha|ha
   .exact bl_trans _ _ _ (h1 a ha) (h2 b hb)
   .rw[Qf]at ha;subst ha;exact h2 b hb
def Zg(l:List ZN):List ZN:=l.foldl (λacc a=>Ko acc (ZE a.1) a.2.1) []
theorem ZCZ(l:List ZN)(j:Nat)(h:j<l.length):Zg (l.take (j+1))=Ko (Zg (l.take j)) (ZE (l.getD j ([],[],())).1) (l.getD j ([],[],())).2.1:=by
 unfold Zg;rw[JU h,ZL4];simp[h]
theorem ZHV(l:List ZN): ∀j,j<=l.length->SoA (Zg (l.take j))
 |0,_=>by simp[Zg,SoA]
 |j+1,h=>by rw[ZCZ l j J0];exact Zdq (ZHV l j J0) _ _
theorem ZEV(l:List ZN): ∀j,j<=l.length->(Zg (l.take j)).length<=j
 |0,_=>by simp[Zg]
 |j+1,h=>by
  rw[ZCZ l j J0];have:=ZcY (Zg (l.take j)) (ZE (l.getD j ([],[],())).1) (l.getD j ([],[],())).2.1;have:=ZEV l j J0;omega
theorem ZHy(l:List ZN)(hb: ∀a∈l,a.2.1.length<=400): ∀j,j<=l.length-> ∀a∈Zg (l.take j),a.2.1.length<=j*400
 |0,_=>by simp[Zg]
 |j+1,h=>by
  rw[ZCZ l j J0];have:=ZPu (Zg (l.take j)) (ZE (l.getD j ([],[],())).1) (l.getD j ([],[],())).2.1 (j*400) 400 (ZHy l hb j J0) Gq;intro a ha;have:=this a ha;omega
def Zbx:J8->J7->Option (Bool×D×J7)
 | [.ref 0 n 0 n',.x (.str t),.x (.sl R)],[.rows false e 2 rs]=>(ZM ZL rs).bind λl=>(ZM ZC R).map λvs=>(decide (n=l.length/\n'=l.length/\e=94)&&decide (SoA l/\l.length<=100000/\t.length<=140737488355328/\vs.length<=50000/\ ∀a∈l,a.2.1.length<=50000),.ref 0 (Ko l (ZE t) vs).length 0 (Ko l (ZE t) vs).length,[.rows false e 2 (rows ZL (Ko l (ZE t) vs))])
 |_,_=>none
theorem Zea: ∀args os r os',Zbx args os=some (true,r,os')->ZQ Tryz.prog 80 args os r os':=by
 intro args os r os' h;unfold Zbx at h;split at h
 .rename_i n n' t R e rs;obtain⟨l,h1,h⟩:=Zf h;obtain⟨vs,h2,h⟩:=Za h;simp only[YN,Zk,Ym]at h;obtain⟨⟨⟨rfl,rfl,rfl⟩,h3,h4,h5,h6,h7⟩,rfl,rfl⟩:=h;rw[<-YU Ze h1,<-YU ZO h2];exact ZiU l t vs h3 h4 h5 h6 h7
 .cases h
theorem ZfH(dn:List UInt8)(l:List ZN)(hl:l.length<=100)(ht: ∀a∈l,a.1.length<=1000000)(hb: ∀a∈l,a.2.1.length<=400):ZK Tryz.prog 41 [.agg [.x (.str dn),.x (.sl (rows ZL l))]] (.agg [.x (.str dn),.x (.sl (rows ZL (Zg l)))]):=by
 refine ZH.pure (fC 41 true ?_) rfl;intro C0 E0;have uu:= @Zbx.eq_1;have tT:=aT ZB Zea;refine rg [1,2] ?_;refine rg [1,2,3] ?_;refine rg [2,3,10,11,12] ?_;refine WI.ownBox 2 1 94 2 rfl rfl ?_;dsimp only[List.set_cons_succ,List.set_cons_zero,JB,ξN,List.cons_append,List.nil_append,Nat.reduceAdd,Nat.zero_add];refine WI.pickA [1,2,3] ?_;refine WI.loop (λφ os=> ∃(j:Nat),φ= [(2,.ptr 0 0),(3,.ptr 1 0),(10,.x (.sl (rows ZL l))),(11,.x (.int .i64 l.length)),(12,.x (.int .i64 j))]/\os= [.box [.x (.str []),.x .nils],.box [.x (.str dn),.ref 2 (Zg (l.take j)).length 0 (Zg (l.take j)).length],.rows false 94 2 (rows ZL (Zg (l.take j)))]/\j<=l.length) (ZJ l.length 12) ?_ (λφ os hI=> ?_)
 .exact Vf
 .obtain⟨j,rfl,rfl,hj⟩:=hI;refine rg [2,3,10,11,12,13] ?_;refine cd (λh0=> ?_) (λh0=> ?_)
  .have hj4:j<l.length:=Wl
   have hrw:=ZJw l j hj4;have hst:=ZCZ l j hj4;have hso:=ZHV l j J0;have hcl:=ZEV l j J0;have hcv: ∀a∈Zg (l.take j),a.2.1.length<=50000:=λa ha=>by have:=ZHy l hb j J0 a ha;omega
   have hg:l.getD j ([],[],())=l[j]:=T3
   have hxl:=ht l[j] (YG hj4);have hxv:=hb l[j] (YG hj4);rw[<-hg]at hxl hxv;generalize l.getD j ([],[],())=x at hrw hst hxl hxv;generalize Zg (l.take j)=acc at hst hso hcl hcv|-;have hua:ZM ZL (rows ZL acc)=some acc:=ZX Ze acc;have hux:ZM ZC (rows ZC x.2.1)=some x.2.1:=ZX ZO x.2.1;have hdd:decide (SoA acc/\acc.length<=100000/\x.1.length<=140737488355328/\x.2.1.length<=50000/\ ∀a∈acc,a.2.1.length<=50000)=true:=ZI ⟨hso,J0,J0,J0,hcv⟩;have uu:=ξ5 uu hrw hua hux hdd;refine rg [2,3,5,10,11,12] ?_;refine rg [2,3,10,11,12] ?_;refine WI.pickA [0,1,2] ?_;refine rg [2,3,10,11,12] ?_;exact⟨⟨j+1,rfl,by rw[hst],J0⟩,Wa⟩
  .obtain rfl:j=l.length:=Wl
   rw[JX];refine Wy ?_
   exact Wp
def ZD7:J8->J5
 | [.agg [.x (.str dn),.x (.sl R)]]=>(ZM ZL R).bind λl=>some (decide (l.length<=100/\(∀a∈l,a.1.length<=1000000)/\ ∀a∈l,a.2.1.length<=400),.agg [.x (.str dn),.x (.sl (rows ZL (Zg l)))])
 |_=>none
theorem ZDI:QK Tryz.prog ZD7 41:=by
 intro args r h;unfold ZD7 at h;split at h
 .obtain⟨l,rfl,i0⟩:=un Ze h;obtain⟨h1,rfl⟩:=Yu i0;exact(ZfH _ l h1.1 h1.2.1 h1.2.2)
 .cases h
theorem ZcB(b:Bool):ZK Tryz.prog 186 [.x (.bool b)] (.x (.int .i64 (if b=true then 1 else 0))):=by
 refine ZH.pure (fC 186 true ?_) rfl;intro C0 E0;have uu:=trivial;have tT:=(ZB:SsOk Tryz.prog YH);refine rg [0] ?_;refine rg [3] ?_;refine cd (λh0=> ?_) (λh0=> ?_)
 .refine Wy ?_
  (clear uu;grind)
 .refine Wy ?_
  (clear uu;grind)
def ZKz:J8->J5
 | [.x (.bool b)]=>some (true,.x (.int .i64 (if b=true then 1 else 0)))
 |_=>none
theorem ZMu:QK Tryz.prog ZKz 186:=by
 intro args r h;unfold ZKz at h;split at h
 .obtain rfl:=Qv h;exact(ZcB _)
 .cases h
theorem ZhT(k:Int)(a b:Tx):ZK Tryz.prog 185 [.x (.int .i64 k),.x (.str a),.x (.str b)] (.tup [.x (.str (Yy k a).1),.x (.str (Yy k b).1),.x (.bool ((Yy k a).2&&(Yy k b).2))]):=by
 refine ZH.pure (fC 185 true ?_) rfl;intro C0 E0;have uu:=Zz @ZFd.eq_1 @ZKz.eq_1;have tT:=aQ (aQ ZB ZEJ) ZMu;refine rg [0,1,2] ?_;refine rg [0,2,9,10] ?_;refine rg [9,10,11,12] ?_;refine rg [6,7,8] ?_;refine lf ?_
 exact Wp
def ZXK:J8->J5
 | [.x (.int .i64 k),.x (.str a),.x (.str b)]=>some (true,.tup [.x (.str (Yy k a).1),.x (.str (Yy k b).1),.x (.bool ((Yy k a).2&&(Yy k b).2))])
 |_=>none
theorem Zbj:QK Tryz.prog ZXK 185:=by
 intro args r h;unfold ZXK at h;split at h
 .obtain rfl:=Qv h;exact(ZhT _ _ _)
 .cases h
theorem Zad(k:Int)(a b:Tx):ZK Tryz.prog 162 [.x (.int .i64 k),.x (.str a),.x (.str b)] (.x (.int .i64 (eqV k a b))):=by
 rcases hu:eqV k a b with u
 unfold eqV at hu;refine ZH.pure (fC 162 true ?_) rfl;intro C0 E0;have uu:=Zz @ZXK.eq_1 @ZKz.eq_1;have tT:=aQ (aQ ZB Zbj) ZMu;refine rg [0,1,2] ?_;refine rg [7,8,9] ?_;refine rg [7,8,19] ?_;refine cd (λh0=> ?_) (λh0=> ?_)
 .refine rg [6] ?_;refine lf ?_
  (clear uu;grind)
 .refine rg [6] ?_;refine lf ?_
  (clear uu;grind)
def ZPC:J8->J5
 | [.x (.int .i64 k),.x (.str a),.x (.str b)]=>some (true,.x (.int .i64 (eqV k a b)))
 |_=>none
theorem ZWs:QK Tryz.prog ZPC 162:=by
 intro args r h;unfold ZPC at h;split at h
 .obtain rfl:=Qv h;exact(Zad _ _ _)
 .cases h
def QD(l:List ZN):Prop:=l.length<=100/\(∀a∈l,a.1.length<=1000000)/\ ∀a∈l,a.2.1.length<=400
instance (l:List ZN):Decidable (QD l):=inferInstanceAs (Decidable (_/\_/\_))
def ZGc(l:List ZN)(n:Tx):List Tx:=YT (Zg l) (ZE n)
theorem ZES(l:List ZN):Zg (l.take l.length)=Zg l:=by rw[JX]
theorem Zim(dn:Tx)(l:List ZN)(n:Tx)(h:QD l)(hn:n.length<=140737488355328):ZK Tryz.prog 95 [.agg [.x (.str dn),.x (.sl (rows ZL l))],.x (.str n)] (.x (.sl (rows ZC (ZGc l n)))):=by
 have hd1:decide (l.length<=100/\(∀a∈l,a.1.length<=1000000)/\ ∀a∈l,a.2.1.length<=400)=true:=ZI h;have hdn:=ZI hn;have hso:SoA (Zg l):=by have:=ZHV l l.length (Zp _);rwa [ZES]at this
 have hcl:(Zg l).length<=100:=by have:=ZEV l l.length (Zp _);rw[ZES]at this;have:=h.1;omega
 have hul:ZM ZL (rows ZL l)=some l:=ZX Ze l;have huc:ZM ZL (rows ZL (Zg l))=some (Zg l):=ZX Ze _;have hds:decide (SoA (Zg l)/\(Zg l).length<=1000000)=true:=ZI ⟨hso,J0⟩;unfold ZGc;rcases hb:YT (Zg l) (ZE n)with V
 refine ZH.pure (fC 95 true ?_) rfl;intro C0 E0;have uu:=ξ8 @ZAB.eq_1 @ZD7.eq_1 @ZWP.eq_1 hd1 hdn hul huc hds;have tT:=aQ (aQ (aQ ZB Kh) ZDI) ZUi;refine rg [1,2] ?_;refine rg [1,5] ?_;refine WI.dregB tT [5,6,7] ?_;refine Vn ?_;refine ZU ?_;refine dQC ?_;refine dAC ?_;refine ZU ?_
 refine Vo ?_;refine Wo ?_;refine dN ?_;refine rg [5,6,19] ?_;refine cd (λh0=> ?_) (λh0=> ?_)
 .have hh:Ql (Zg l) (ZE n)=false:=Vg
  have hb0:V= []:=by rw[<-hb];unfold YT;rw[if_neg (by rw[hh];decide)]
  subst hb0;refine VU ?_
  exact Wp
 .have hh:Ql (Zg l) (ZE n)=true:=Vg
  have hrw:=(ZIB hh).1;rw[hb]at hrw;have hlt:=ZCS hh;have hd5:=ZI (show((ZZ (Zg l) (ZE n):Nat):Int)<((Zg l).length:Int) by omega);have uu:=JJ uu hrw hd5;refine VU ?_
  exact Wp
def Zcm:J8->J5
 | [.agg [.x (.str dn),.x (.sl R)],.x (.str n)]=>(ZM ZL R).bind λl=>some (decide (QD l/\n.length<=140737488355328),.x (.sl (rows ZC (ZGc l n))))
 |_=>none
theorem Zdi:QK Tryz.prog Zcm 95:=by
 intro args r h;unfold Zcm at h;split at h
 .obtain⟨l,rfl,i0⟩:=un Ze h;obtain⟨h1,rfl⟩:=Yu i0;exact(Zim _ l _ h1.1 h1.2)
 .cases h
def ZIa(l:List ZN)(n v:Tx)(k:Int):Bool:=(ZGc l n).any λx=>decide (eqV k x v=1)
theorem ZLf(p:Tx->Bool)(l:List Tx)(j:Nat)(h:j<l.length):(l.take (j+1)).any p=((l.take j).any p||p (l.getD j [])):=by
 rw[JU h,List.any_append];simp[h]
theorem ZTQ(l:List ZN)(n:Tx)(h:QD l):(ZGc l n).length<=50000:=by
 unfold ZGc;refine ZSh (λa ha=> ?_);have h1:=ZHy l h.2.2 l.length (Zp _) a (by rw[ZES];exact ha);have:=h.1;omega
theorem Zih(dn:Tx)(l:List ZN)(n v:Tx)(k:Int)(h:QD l)(hn:n.length<=140737488355328):ZK Tryz.prog 123 [.agg [.x (.str dn),.x (.sl (rows ZL l))],.x (.str n),.x (.str v),.x (.int .i64 k)] (.x (.bool (ZIa l n v k))):=by
 have hd1:decide (QD l/\n.length<=140737488355328)=true:=ZI ⟨h,hn⟩;have hul:ZM ZL (rows ZL l)=some l:=ZX Ze l;have hgl:=ZTQ l n h;unfold ZIa;rcases hg:ZGc l n with V
 rw[hg]at hgl;refine ZH.pure (fC 123 true ?_) rfl;intro C0 E0;have uu:=ξ5 @Zcm.eq_1 @ZPC.eq_1 hd1 hul hg;have tT:=aQ (aQ ZB Zdi) ZWs;refine rg [1,2,3,4] ?_;refine rg [2,3,13,14,15] ?_;refine WI.pickA [] ?_;refine WI.orderA [2,3,13,14,15] ?_;refine WI.loop (λφ os=> ∃(j:Nat),φ= [(2,.x (.str v)),(3,.x (.int .i64 k)),(13,.x (.sl (rows ZC V))),(14,.x (.int .i64 V.length)),(15,.x (.int .i64 j))]/\os= []/\j<=V.length/\(V.take j).any (λx=>decide (eqV k x v=1))=false) (ZJ V.length 15) ?_ (λφ os hI=> ?_)
 .exact W8
 .obtain⟨j,rfl,rfl,hj,hno⟩:=hI;refine rg [2,3,13,14,15,16] ?_;refine cd (λh0=> ?_) (λh0=> ?_)
  .have hj4:j<V.length:=Wl
   have hrw:(rows ZC V)[j]? =some [X.str (V.getD j [])]:=by simp[rows,hj4,ZC]
   have hat:=ZLf (λx=>decide (eqV k x v=1)) V j hj4;have hmem:V.getD j []∈V:=by rw[show V.getD j []=V[j] by simp[hj4]];exact YG hj4
   generalize V.getD j []=x at hrw hat hmem;have uu:=Zz uu hrw;refine rg [2,3,10,13,14,15] ?_;refine rg [2,3,13,14,15,23] ?_;refine cd (λh1=> ?_) (λh1=> ?_)
   .have hx:eqV k x v=1:=WC
    refine rg [8] ?_;refine lf ?_;rw[List.any_eq_true.2 ⟨x,hmem,ZI hx⟩]
   .have hx:decide (eqV k x v=1)=false:=WC
    refine rg [2,3,13,14,15] ?_;exact⟨⟨j+1,rfl,rfl,J0,by rw[hat,hno,hx];rfl⟩,Wa⟩
  .refine rg [8] ?_;refine lf ?_;rw[YO J0]at hno;rw[hno]
def ZSg:J8->J5
 | [.agg [.x (.str dn),.x (.sl R)],.x (.str n),.x (.str v),.x (.int .i64 k)]=>(ZM ZL R).bind λl=>some (decide (QD l/\n.length<=140737488355328),.x (.bool (ZIa l n v k)))
 |_=>none
theorem ZUS:QK Tryz.prog ZSg 123:=by
 intro args r h;unfold ZSg at h;split at h
 .obtain⟨l,rfl,i0⟩:=un Ze h;obtain⟨h1,rfl⟩:=Yu i0;exact(Zih _ l _ _ _ h1.1 h1.2)
 .cases h
def okS(s:Tx):Bool:=decide (JW s=(s,0))
def Zv(s:Tx):List Tx:=if okS s=true then(YX s).1.map λr=>(Qp [r]).1 else []
theorem ZeL(s:Tx)(h:(YX s).2=0):smD (YX s).1:=by
 unfold YX at h|-;split
 .intro r hr;cases hr
 .rename_i h1;split
  .intro r hr;cases hr
  .split
   .rename_i h2;split
    .intro r hr;cases hr
    .split
     .intro r hr;cases hr
     .exact ZGs s J0
   .intro r hr;cases hr
theorem ZOl(s:Tx)(h:(YX s).2=0):Jr (YX s).1=0:=by
 unfold YX at h|-;split
 .rename_i h1;rw[if_pos h1]at h;cases h
 .rename_i h1;rw[if_neg h1]at h;split
  .rfl
  .rename_i h2;rw[if_neg h2]at h;split
   .rename_i h3;rw[if_pos h3]at h;split
    .rename_i h4;rw[if_pos h4]at h;cases h
    .rename_i h4;rw[if_neg h4]at h;split
     .rename_i h5;rw[if_pos h5]at h;exact absurd h h5
     .rename_i h5;exact ZHq.1 h5
   .rename_i h3;rw[if_neg h3]at h;cases h
theorem Zd7(s:Tx):ZK Tryz.prog 114 [.x (.str s)] (.tup [.x (.sl (rows ZC (Zv s))),.x (.bool (okS s))]):=by
 obtain⟨d,hd⟩: ∃d,(YX s).1=d:=⟨_,rfl⟩;rcases hres:Zv s with out
 unfold Zv at hres;rw[hd]at hres;refine ZH.pure (fC 114 true ?_) rfl;intro C0 E0;have uu:=ξ5 @ZKw.eq_1 @ZGa.eq_1 @ZLM.eq_1 hd @ZH0.eq_1;have tT:=aT (aQ (aQ (aQ ZB ZOI) ZFe) ZFC) (ZCV ZFC);refine rg [0] ?_;refine rg [0,4,5] ?_;refine rg [0,24] ?_;refine cd (λh0=> ?_) (λh0=> ?_)
 .have hok:okS s=false:=NE
  rw[hok]at hres;refine W5 ?_;subst hres;rw[hok];rfl
 .have hno:JW s=(s,0):=by
   have h1:(JW s).2=0/\(JW s).1=s:=Wv
   exact ZCE h1.2 h1.1
  have hok:okS s=true:=ZI hno;rw[if_pos hok]at hres;have hr0:(YX s).2=0:=by
   unfold JW at hno;split at hno
   .rename_i h;exact absurd (congrArg Prod.snd hno) h
   .rename_i h;exact ZHq.1 h
  have hsm:smD d:=by rw[<-hd];exact ZeL s hr0
  have hdl:d.length<=32:=by rw[<-hd];exact(ZEH (ZOl s hr0)).1
  refine rg [6] ?_;refine rg [6,8] ?_;refine rg [8,30,31,32] ?_;refine WI.ownA 8 9 1 ?_;refine WI.loop (λφ os=> ∃(j:Nat),φ= [(8,.ref 0 ((d.take j).map λr=>(Qp [r]).1).length 0 ((d.take j).map λr=>(Qp [r]).1).length),(30,.x (.sl (rows Jg d))),(31,.x (.int .i64 d.length)),(32,.x (.int .i64 j))]/\os= [.rows false 9 1 (rows ZC ((d.take j).map λr=>(Qp [r]).1))]/\j<=d.length) (ZJ d.length 32) ?_ (λφ os hI=> ?_)
  .exact Vf
  .obtain⟨j,rfl,rfl,hj⟩:=hI;refine rg [8,30,31,32,33] ?_;refine cd (λh1=> ?_) (λh1=> ?_)
   .have hj4:j<d.length:=Wl
    have hrw:=ZEz d j hj4;have htk:(d.take (j+1)).map (λr=>(Qp [r]).1)=(d.take j).map (λr=>(Qp [r]).1)++ [(Qp [d.getD j []]).1]:=Tj
    have hs1:decide (smD [d.getD j []])=true:=ZI (λr hr p hp=>by
     rw[Qf]at hr;subst hr;exact hsm _ (by rw[show d.getD j []=d[j] by simp[hj4]];exact YG hj4) p hp)
    have hlen2:((d.take j).map λr=>(Qp [r]).1).length<=1000000:=T7
    generalize d.getD j []=r at hrw htk hs1;have hur:ZM Jg [[X.sl (rows Zt r)]]=some [r]:=ZX ZEA [r];have uu:=Qt uu hrw hs1 hur;refine rg [8,10,30,31,32] ?_;refine rg [8,11,30,31,32] ?_;refine rg [8,30,31,32] ?_;refine WI.pickA [0] ?_;refine rg [8,30,31,32] ?_;exact⟨⟨j+1,by rw[htk,ZW];rfl,by rw[htk];simp[rows,ZC],J0⟩,Wa⟩
   .obtain rfl:j=d.length:=Wl
    rw[JX,hres];refine W5 ?_;rw[hok]
def ZOE:J8->J5
 | [.x (.str s)]=>some (true,.tup [.x (.sl (rows ZC (Zv s))),.x (.bool (okS s))])
 |_=>none
theorem ZQD:QK Tryz.prog ZOE 114:=by
 intro args r h;unfold ZOE at h;split at h
 .obtain rfl:=Qv h;exact(Zd7 _)
 .cases h
theorem ZS5{s:Tx}(h:okS s=true):(YX s).2=0:=by
 have hno:JW s=(s,0):=of_decide_eq_true h;unfold JW at hno;split at hno
 .rename_i h;exact absurd (congrArg Prod.snd hno) h
 .rename_i h;exact ZHq.1 h
theorem ZbF(d:Dn):(Qp d).1.length<=4096:=by
 unfold Qp;split
 .simp
 .split
  .simp
  .rename_i h;simpa using h
theorem ZC9(s:Tx):(Zv s).length<=32/\ ∀x∈Zv s,x.length<=4096:=by
 unfold Zv;split
 .rename_i h;refine⟨by rw[YZ];exact(ZEH (ZOl s (ZS5 h))).1,λx hx=> ?_⟩;obtain⟨r,_,rfl⟩:=YR.1 hx;exact ZbF _
 .simp
theorem Zg5(l:List Tx)(hl:l.length<=32)(hb: ∀x∈l,x.length<=4096)(h0:l≠ []):ZK Tryz.prog 76 [.x (.sl (rows ZC l))] (.x (.str (Qi 44 (l.drop 1)))):=by
 have hpos:0<l.length:=ZJs.2 h0;have hjl:=ZFD 44 4096 (l.drop 1) (λx hx=>hb x (ZB8 hx));rw[KO]at hjl;have hd1:decide ((Lib.join (l.drop 1) [44]).length<=140737488355328/\(l.drop 1).length<=140737488355328)=true:=ZI ⟨by rw[ZDr];omega,T4⟩;have hj:Lib.join (l.drop 1) [44]=Qi 44 (l.drop 1):=ZDr 44 _;refine ZH.pure (fC 76 true ?_) rfl;intro C0 E0;have uu:=JJ @ZNR.eq_1 hd1 hj;have tT:=aQ ZB ZGf;refine rg [0] ?_;refine Wy ?_
 exact Wp
theorem ZfW(l:List Tx)(h0:l≠ [])(hl:l.length<=32):ZK Tryz.prog 128 [.x (.sl (rows ZC l))] (.x (.str (l.headD []))):=by
 obtain⟨x,l,rfl⟩:=List.exists_cons_of_ne_nil h0;have hrw:(rows ZC (x::l))[0]? =some [X.str x]:=rfl;refine ZH.pure (fC 128 true ?_) rfl;intro C0 E0;have uu:=hrw;have tT:=(ZB:SsOk Tryz.prog YH);refine rg [0] ?_;refine Wy ?_
 exact Wp
def ZQw:J8->J5
 | [.x (.sl R)]=>(ZM ZC R).bind λl=>some (decide (l.length<=32/\(∀x∈l,x.length<=4096)/\l≠ []),.x (.str (Qi 44 (l.drop 1))))
 |_=>none
theorem ZSd:QK Tryz.prog ZQw 76:=by
 intro args r h;unfold ZQw at h;split at h
 .obtain⟨l,rfl,i0⟩:=un ZO h;obtain⟨h1,rfl⟩:=Yu i0;exact(Zg5 l h1.1 h1.2.1 h1.2.2)
 .cases h
def ZNs:J8->J5
 | [.x (.sl R)]=>(ZM ZC R).bind λl=>some (decide (l≠ []/\l.length<=32),.x (.str (l.headD [])))
 |_=>none
theorem ZQM:QK Tryz.prog ZNs 128:=by
 intro args r h;unfold ZNs at h;split at h
 .obtain⟨l,rfl,i0⟩:=un ZO h;obtain⟨h1,rfl⟩:=Yu i0;exact(ZfW l h1.1 h1.2)
 .cases h
def YB(s:Tx):Tx:=Qi 44 ((Zv s).drop 1)
def YL(s:Tx):Tx:=(Zv s).headD []
def JG(s:Tx):Bool:=decide (Zv s≠ [])
theorem Ziq(s:Tx):ZK Tryz.prog 75 [.x (.str s),.fn 76 []] (.tup [.x (.str (YB s)),.x (.bool (JG s))]):=by
 obtain⟨hl,hb⟩:=ZC9 s;unfold YB JG;generalize hp:Zv s=l at hl hb|-;have hul:ZM ZC (rows ZC l)=some l:=ZX ZO l;refine ZH.pure (fC 75 true ?_) rfl;intro C0 E0;have uu:=ξ5 @ZOE.eq_1 @ZQw.eq_1 hul hp @ZNs.eq_1;have tT:=aQ (aQ (aQ ZB ZQD) ZSd) ZQM;refine rg [0,1] ?_;refine rg [1,6] ?_;refine rg [1,6,15] ?_;refine cd (λh0=> ?_) (λh0=> ?_)
 .obtain rfl:l= []:=ξS Vg;refine WN ?_
  exact Wp
 .have h0:l≠ []:=λe=>by subst e;simp at h0
  have hd1:decide (l.length<=32/\(∀x∈l,x.length<=4096)/\l≠ [])=true:=ZI ⟨hl,hb,h0⟩;have uu:=Zz uu hd1;refine WN ?_;rw[ZI h0]
theorem Zid(s:Tx):ZK Tryz.prog 75 [.x (.str s),.fn 128 []] (.tup [.x (.str (YL s)),.x (.bool (JG s))]):=by
 obtain⟨hl,hb⟩:=ZC9 s;unfold YL JG;generalize hp:Zv s=l at hl hb|-;have hul:ZM ZC (rows ZC l)=some l:=ZX ZO l;refine ZH.pure (fC 75 true ?_) rfl;intro C0 E0;have uu:=ξ5 @ZOE.eq_1 @ZNs.eq_1 hul hp @ZQw.eq_1;have tT:=aQ (aQ (aQ ZB ZQD) ZSd) ZQM;refine rg [0,1] ?_;refine rg [1,6] ?_;refine rg [1,6,15] ?_;refine cd (λh0=> ?_) (λh0=> ?_)
 .obtain rfl:l= []:=ξS Vg;refine WN ?_
  exact Wp
 .have h0:l≠ []:=λe=>by subst e;simp at h0
  have hd1:decide (l≠ []/\l.length<=32)=true:=ZI ⟨h0,hl⟩;have uu:=Zz uu hd1;refine WN ?_;rw[ZI h0]
def ZbT:J8->J5
 | [.x (.str s),.fn 76 []]=>some (true,.tup [.x (.str (YB s)),.x (.bool (JG s))])
 |_=>none
theorem Zeu:QK Tryz.prog ZbT 75:=by
 intro args r h;unfold ZbT at h;split at h
 .obtain rfl:=Qv h;exact(Ziq _)
 .cases h
def ZdA:J8->J5
 | [.x (.str s),.fn 128 []]=>some (true,.tup [.x (.str (YL s)),.x (.bool (JG s))])
 |_=>none
theorem ZeQ:QK Tryz.prog ZdA 75:=by
 intro args r h;unfold ZdA at h;split at h
 .obtain rfl:=Qv h;exact(Zid _)
 .cases h
theorem Zco(s:Tx):ZK Tryz.prog 39 [.x (.str s)] (.tup [.x (.str (YB s)),.x (.bool (JG s))]):=by
 refine ZH.pure (fC 39 true ?_) rfl;intro C0 E0;have uu:= @ZbT.eq_1;have tT:=aQ ZB Zeu;refine rg [0] ?_;refine Vx ?_
 exact Wp
theorem ZiC(s:Tx):ZK Tryz.prog 81 [.x (.str s)] (.tup [.x (.str (YL s)),.x (.bool (JG s))]):=by
 refine ZH.pure (fC 81 true ?_) rfl;intro C0 E0;have uu:= @ZdA.eq_1;have tT:=aQ ZB ZeQ;refine rg [0] ?_;refine Vx ?_
 exact Wp
def ZIK:J8->J5
 | [.x (.str s)]=>some (true,.tup [.x (.str (YB s)),.x (.bool (JG s))])
 |_=>none
theorem ZI5:QK Tryz.prog ZIK 39:=by
 intro args r h;unfold ZIK at h;split at h
 .obtain rfl:=Qv h;exact(Zco _)
 .cases h
def ZNy:J8->J5
 | [.x (.str s)]=>some (true,.tup [.x (.str (YL s)),.x (.bool (JG s))])
 |_=>none
theorem ZLu:QK Tryz.prog ZNy 81:=by
 intro args r h;unfold ZNy at h;split at h
 .obtain rfl:=Qv h;exact(ZiC _)
 .cases h
theorem ZiB(b:Bool)(c:Int):ZK Tryz.prog 120 [.x (.bool b),.x (.int .i64 c)] (.x (.int .i64 (if b=true then c else 0))):=by
 refine ZH.pure (fC 120 true ?_) rfl;intro C0 E0;have uu:=trivial;have tT:=(ZB:SsOk Tryz.prog YH);refine rg [0,1] ?_;refine rg [1,5] ?_;refine cd (λh0=> ?_) (λh0=> ?_)
 .refine Wj ?_
  (clear uu;grind)
 .refine Wj ?_
  (clear uu;grind)
def ZGE:J8->J5
 | [.x (.bool b),.x (.int .i64 c)]=>some (true,.x (.int .i64 (if b=true then c else 0)))
 |_=>none
theorem ZDz:QK Tryz.prog ZGE 120:=by
 intro args r h;unfold ZGE at h;split at h
 .obtain rfl:=Qv h;exact(ZiB _ _)
 .cases h
def ZBr(k:Int)(v:Tx):Tx:=(Yy k v).1
def ZCB(k:Int)(l:List Tx):List (Tx×Int):=l.map λv=>(ZBr k v,(1:Int))
def twV(k:Int)(l:List Tx):Bool:= !decide (l.map (ZBr k)).Nodup
theorem ZIw(k:Int): ∀(l:List Tx) (x:Tx),ZF (ZCB k l) x=if x∈l.map (ZBr k)then some 1 else none
 | [],x=>by simp[ZCB,ZF]
 |v::l,x=>by
  have ih:=ZIw k l x;by_cases h:x=ZBr k v
  .simp[ZCB,ZF,h]
  .have e:(x∈(v::l).map (ZBr k))=(x∈l.map (ZBr k)):=by simp[h]
   have e2:ZF (ZCB k (v::l)) x=ZF (ZCB k l) x:=by simp[ZCB,ZF,h]
   rw[e2,ih];simp only[e]
theorem ZYV(k:Int)(l:List Tx)(x:Tx):Ju (Yv Km kcI (ZCB k l)) [X.str x]=if x∈l.map (ZBr k)then some [D.x (X.int .i64 1)]else none:=by
 rw[ZE5 Km kcI hkS (ZCB k l) x,ZIw];split<;>rfl
theorem ZZB(k:Int)(l:List Tx)(v:Tx)(h:ZBr k v∉l.map (ZBr k)):Yo (Yv Km kcI (ZCB k l)) [X.str (ZBr k v)] [D.x (X.int .i64 1)]=Yv Km kcI (ZCB k (l++ [v])):=by
 have e:=ZDq Km kcI hkS (ZCB k l) (ZBr k v) 1;rw[ZBR (by rw[ZIw,if_neg h])]at e;have e2:ZCB k (l++ [v])=ZCB k l++ [(ZBr k v,1)]:=by simp[ZCB]
 rw[e2];exact e
theorem KW(l:List Tx)(j:Nat)(h:j<l.length):(rows ZC l)[j]? =some [X.str (l.getD j [])]:=by
 simp[rows,h,ZC]
theorem ZhE(k:Int)(l:List Tx)(j:Nat)(h:j<l.length)(hin:ZBr k (l.getD j [])∈(l.take j).map (ZBr k)):twV k l=true:=by
 unfold twV;rw[ZGo,decide_eq_false_iff_not];intro hn;have e:l=l.take j++l.getD j []::l.drop (j+1):=by
  exact N7
 rw[e,Jd,YM]at hn;have:=(ZEx.1 hn).2.2 _ hin _ (ZAw);exact this rfl
theorem ZeK(k:Int)(l:List Tx)(hl:l.length<=1000000):ZK Tryz.prog 156 [.x (.int .i64 k),.x (.sl (rows ZC l))] (.x (.bool (twV k l))):=by
 refine ZH.pure (fC 156 true ?_) rfl;intro C0 E0;have uu:= @ZFd.eq_1;have tT:=aQ ZB ZEJ;refine VO ?_;refine rg [0,5,11,12,13] ?_;refine WI.loop (λφ os=> ∃(j:Nat),φ= [(0,.x (.int .i64 k)),(5,.mref 0),(11,.x (.sl (rows ZC l))),(12,.x (.int .i64 l.length)),(13,.x (.int .i64 j))]/\os= [.mpo .str false (Yv Km kcI (ZCB k (l.take j)))]/\j<=l.length/\((l.take j).map (ZBr k)).Nodup) (ZJ l.length 13) ?_ (λφ os hI=> ?_)
 .exact UJ
 .obtain⟨j,rfl,rfl,hj,hnd⟩:=hI;refine rg [0,5,11,12,13,14] ?_;refine cd (λh0=> ?_) (λh0=> ?_)
  .have hj4:j<l.length:=Wl
   have hrw:=KW l j hj4;have hgt:=ZYV k (l.take j) (ZBr k (l.getD j []));have htk:l.take (j+1)=l.take j++ [l.getD j []]:=by rw[JU hj4];simp[hj4]
   have hnk:(Yy k (l.getD j [])).1=ZBr k (l.getD j []):=rfl;have uu:=JJ uu hrw hnk;refine rg [0,5,7,11,12,13] ?_;refine rg [0,5,8,11,12,13] ?_;by_cases hin:ZBr k (l.getD j [])∈(l.take j).map (ZBr k)
   .rw[if_pos hin]at hgt;have uu:=Zz uu hgt;refine rg [0,5,8,11,12,13,26] ?_;refine ct (λh1=> ?_) (λh1=> ?_)
    .refine Wj ?_;rw[ZhE k l j hj4 hin]
    .simp at h1
   .rw[if_neg hin]at hgt;have hset:=ZZB k (l.take j) (l.getD j []) hin;have uu:=JJ uu hgt hset;refine rg [0,5,8,11,12,13,26] ?_;refine ce (λh1=> ?_) (λh1=> ?_)
    .simp at h1
    .refine WI.post ?_;refine WI.regB tT [0,5,11,12,13] ?_;refine GB ?_;refine oG ?_;refine oP ?_;refine Jm [0] ?_ (ho:=WU);refine KR ?_;refine nz ?_;have hnd2:((l.take (j+1)).map (ZBr k)).Nodup:=by
      rw[htk,Jd,ZEx];exact⟨hnd,J1,λa ha b hb=>by simp only[YM,ZAf,Qf]at hb;subst hb;rintro rfl;exact hin ha⟩
     refine rg [0,5,11,12,13] ?_;exact⟨⟨j+1,rfl,by rw[htk],J0,hnd2⟩,Wa⟩
  .refine Wj ?_;rw[YO J0]at hnd;unfold twV;rw[ZI hnd];rfl
def ZNr:J8->J5
 | [.x (.int .i64 k),.x (.sl R)]=>(ZM ZC R).bind λl=>some (decide (l.length<=1000000),.x (.bool (twV k l)))
 |_=>none
theorem ZP3:QK Tryz.prog ZNr 156:=by
 intro args r h;unfold ZNr at h;split at h
 .obtain⟨l,rfl,i0⟩:=un ZO h;obtain⟨h1,rfl⟩:=Yu i0;exact(ZeK _ l h1)
 .cases h
def atD(a:ZN):D:= .agg [.x (.str a.1),.x (.sl (rows ZC a.2.1))]
def w1(t:Zd)(_:ZN):Int:=if t.1= []then 17 else 0
def w2(_:Zd)(a:ZN):Int:=if a.2.1.length=0 then 19 else 0
def w3(t:Zd)(a:ZN):Int:=if a.2.1.all (λv=>(Yy t.2.1 v).2)=true then 0 else 21
def w5(t:Zd)(a:ZN):Int:=if t.2.2.1=true/\1<a.2.1.length then 19 else 0
theorem Zjc(t:Zd)(a:ZN):ZK Tryz.prog 151 [tyD t,atD a] (.x (.int .i64 (w1 t a))):=by
 unfold w1 tyD atD;refine ZH.pure (fC 151 true ?_) rfl;intro C0 E0;have uu:=Zz @ZGE.eq_1 @ZFd.eq_1;have tT:=aQ (aQ ZB ZDz) ZEJ;refine rg [2] ?_;refine Wj ?_
 (clear uu;grind)
theorem ZjI(t:Zd)(a:ZN):ZK Tryz.prog 152 [tyD t,atD a] (.x (.int .i64 (w2 t a))):=by
 unfold w2 tyD atD;refine ZH.pure (fC 152 true ?_) rfl;intro C0 E0;have uu:=Zz @ZGE.eq_1 @ZFd.eq_1;have tT:=aQ (aQ ZB ZDz) ZEJ;refine rg [3] ?_;refine Wj ?_
 (clear uu;grind)
theorem ZjT(t:Zd)(a:ZN)(hl:a.2.1.length<=1000000):ZK Tryz.prog 153 [tyD t,atD a] (.x (.int .i64 (w3 t a))):=by
 unfold w3 tyD atD;obtain⟨n,l,u⟩:=a;simp only at hl|-;refine ZH.pure (fC 153 true ?_) rfl;intro C0 E0;have uu:=Zz @ZFd.eq_1 @ZGE.eq_1;have tT:=aQ (aQ ZB ZDz) ZEJ;refine rg [2,3] ?_;refine rg [2,10,11,12] ?_;refine WI.pickA [0] ?_;refine WI.orderA [2,10,11,12] ?_;refine WI.loop (λφ os=> ∃(j:Nat),φ= [(2,.ptr 0 0),(10,.x (.sl (rows ZC l))),(11,.x (.int .i64 l.length)),(12,.x (.int .i64 j))]/\os= [.box [.x (.str t.1),.x (.int .i64 t.2.1),.x (.bool t.2.2.1)]]/\j<=l.length/\(l.take j).all (λv=>(Yy t.2.1 v).2)=true) (ZJ l.length 12) ?_ (λφ os hI=> ?_)
 .exact W8
 .obtain⟨j,rfl,rfl,hj,hall⟩:=hI;refine rg [2,10,11,12,13] ?_;refine cd (λh0=> ?_) (λh0=> ?_)
  .have hj4:j<l.length:=Wl
   have hrw:=KW l j hj4;have hgj:l[j]=l.getD j []:=T3
   have hal:=Yq (λv=>(Yy t.2.1 v).2) l j hj4;rw[hgj]at hal;have uu:=Zz uu hrw;refine rg [2,6,10,11,12] ?_;refine rg [2,8,10,11,12] ?_;refine rg [2,10,11,12,24] ?_;refine cd (λh1=> ?_) (λh1=> ?_)
   .refine Wj ?_;rw[if_neg (by rw[Zj (λv=>(Yy t.2.1 v).2) l j hj4 (by rw[hgj];simpa using h1)];decide)]
   .have hall2:(l.take (j+1)).all (λv=>(Yy t.2.1 v).2)=true:=by rw[hal,hall];simpa using h1
    refine rg [2,10,11,12] ?_;exact Te
  .refine Wj ?_;rw[YO J0]at hall;rw[if_pos hall]
theorem ZjP(t:Zd)(a:ZN):ZK Tryz.prog 157 [tyD t,atD a] (.x (.int .i64 (w5 t a))):=by
 unfold w5 tyD atD;refine ZH.pure (fC 157 true ?_) rfl;intro C0 E0;have uu:=Zz @ZGE.eq_1 @ZFd.eq_1;have tT:=aQ (aQ ZB ZDz) ZEJ;refine rg [2,3] ?_;refine Wj ?_
 (clear uu;grind)
abbrev Sn:=List (Tx×Int)
def snG(S:Sn)(k:Tx):Int:=(ZF S k).getD 0
def snS(S:Sn)(k:Tx):Sn:=Zu S k (snG S k+1)
theorem ZSO(S:Sn)(k:Tx):(Ju (Yv Km kcI S) [X.str k])=(ZF S k).map λn=> [D.x (X.int .i64 n)]:=by
 rw[ZE5 Km kcI hkS S k];rfl
theorem ZN7(S:Sn)(k:Tx)(n:Int):Yo (Yv Km kcI S) [X.str k] [D.x (X.int .i64 n)]=Yv Km kcI (Zu S k n):=ZDq Km kcI hkS S k n
def w4(S:Sn)(t:Zd)(a:ZN):Int:=if 0<snG S t.1\/twV t.2.1 a.2.1=true then 20 else 0
theorem ZjN(S:Sn)(t:Zd)(a:ZN)(hs:0<=snG S t.1/\snG S t.1<=1000000)(hl:a.2.1.length<=1000000):ZQ Tryz.prog 155 [tyD t,atD a,.ptr 0 0] [.box [.mref 1],.mpo .str false (Yv Km kcI S)] (.x (.int .i64 (w4 S t a))) [.box [.mref 1],.mpo .str false (Yv Km kcI (snS S t.1))]:=by
 have hO:([.box [.mref 1],.mpo .str false (Yv Km kcI (snS S t.1))]:J7).all (Ob.inP (λi=>decide (i<([.box [.mref 1],.mpo .str false (Yv Km kcI (snS S t.1))]:J7).length)))=true:=by simp[Ob.inP,JE,D.inP,ZAR]
 have hla:decide (a.2.1.length<=1000000)=true:=ZI hl;have hg:=ZSO S t.1;unfold w4 tyD atD snS;unfold snS at hO;unfold snG at hs hO|-;rcases hm:ZF S t.1 with _|n
 .rw[hm]at hg hO;simp only[ZMH,ZAC]at hg hO|-;have hst:Yo (Yv Km kcI S) [X.str t.1] [D.x (X.int .i64 1)]=Yv Km kcI (Zu S t.1 (0+1)):=ZN7 S t.1 1;refine ZH.mcallsX (fC 155 true ?_) WW hO Vi;intro C0 E0;have uu:=ξ5 @ZGE.eq_1 @ZNr.eq_1 hg hst hla;have tT:=aQ (aQ ZB ZDz) ZP3;refine rg [2,3,4] ?_;refine rg [2,3,6] ?_;refine rg [6] ?_;refine rg [5] ?_;refine lf ?_;refine⟨?_,_,rfl⟩;clear uu;grind
 .rw[hm]at hg hO hs;simp only[Qu,Yr]at hg hO hs|-;have hst:=ZN7 S t.1 (n+1);refine ZH.mcallsX (fC 155 true ?_) WW hO Vi;intro C0 E0;have uu:=ξ5 @ZGE.eq_1 @ZNr.eq_1 hg hst hla;have tT:=aQ (aQ ZB ZDz) ZP3;refine rg [2,3,4] ?_;refine rg [2,3,6] ?_;refine rg [6] ?_;refine rg [5] ?_;refine lf ?_;refine⟨?_,_,rfl⟩;clear uu;grind
def w4T:J8->J7->Option (Bool×D×J7)
 | [.agg [.x (.str n),.x (.int .i64 k),.x (.bool b)],.agg [.x (.str nm),.x (.sl R)],.ptr 0 0],[.box [.mref 1],.mpo .str false P1]=>(unM ZC (ZCL .i64) P1).bind λS=>(ZM ZC R).bind λl=>some (decide ((0<=snG S n/\snG S n<=1000000)/\l.length<=1000000),.x (.int .i64 (w4 S (n,k,b,()) (nm,l,()))),[.box [.mref 1],.mpo .str false (Yv Km kcI (snS S n))])
 |_,_=>none
theorem Zgg:TK Tryz.prog w4T 155:=by
 intro args os r os' h;unfold w4T at h;split at h
 .rename_i n k b nm R P1;obtain⟨S,rfl,i0⟩:=um ZO (ZBK .i64) h;obtain⟨l,rfl,i1⟩:=un ZO i0;obtain⟨h1,rfl,rfl⟩:=tn1 i1;exact ZjN S (n,k,b,()) (nm,l,()) h1.1 h1.2
 .cases h
def ZEg(e:Zc):D:= .agg [.x (.str e.1),.x (.sl (rows ZL e.2.1))]
def goA(g:Zd->ZN->Int)(L:List (Tx×Zd)):List ZN->Int
 | []=>0
 |a::l=>if g (Kb L (ZE a.1)) a≠0 then g (Kb L (ZE a.1)) a else goA g L l
theorem ZEe(l:List ZN)(j:Nat)(h:j<l.length):(rows ZL l)[j]? =some [X.str (l.getD j ([],[],())).1,X.sl (rows ZC (l.getD j ([],[],())).2.1)]:=by
 simp[rows,h,ZL,JF,ZC,rSl,QV]
theorem ZKP{α:Type}(l:List α)(z:α)(j:Nat)(h:j<l.length):l.drop j=l.getD j z::l.drop (j+1):=by
 rw[ξU h];simp[h]
theorem Zam(L:List (Tx×Zd))(M:List (Tx×Zo))(e:Zc)(f:FuncId)(g:Zd->ZN->Int)(hen:Enters Tryz.prog f)(hg: ∀t,∀a∈e.2.1,ZK Tryz.prog f [tyD t,atD a] (.x (.int .i64 (g t a))))(hl:e.2.1.length<=1000000)(hn: ∀a∈e.2.1,a.1.length<=1000000):
  ZQ Tryz.prog 158 [.ptr 0 0,ZEg e,.fn f []] (scO L M) (.x (.int .i64 (goA g L e.2.1))) (scO L M):=by
 obtain⟨dn,l,u⟩:=e;simp only at hg hl hn|-;have hO:=ZCX L M;have h1:=ZGD L;have h2:=ZGB M;unfold ZEg;refine ZH.mcallsX (fC 158 true ?_) WW hO Vi;intro C0 E0;have uu:=ξ9 @ZOF.eq_1 h1 h2 @ZCt @ZDE @ZDh @ZDa @ZA1 (ξ5 @ZAu @ZHT @ZHB @ZHI @ZHP);have tT:=aR ZB ZQd;refine WI.seq ?_;refine WI.regB tT [0,2,4] ?_;refine oG ?_;refine TF ?_;refine WI.regB tT [0,2,13,14,15] ?_;refine oS ?_
 refine W7 ?_;refine ND ?_;refine WI.dropT (scO L M) _ rfl J1 hO Tt ?_;refine WI.orderA [0,2,13,14,15] ?_;refine WI.loop (λφ os=> ∃(i:Nat),φ= [(0,.ptr 0 0),(2,.fn f []),(13,.x (.sl (rows ZL l))),(14,.x (.int .i64 l.length)),(15,.x (.int .i64 i))]/\os=scO L M/\i<=l.length/\goA g L (l.drop i)=goA g L l) (ZJ l.length 15) ?_ (λφ os hI=> ?_)
 .exact W8
 .obtain⟨i,rfl,rfl,hi,hgo⟩:=hI;refine WI.seq ?_;refine WI.regB tT [0,2,13,14,15,16] ?_;refine oG ?_;refine TV ?_;refine WI.cond (b:=_) rfl rfl (λh0=> ?_) (λh0=> ?_)
  .try simp only[zB]at h0
   refine UQ ?_;have hi4:i<l.length:=Wl
   have hrw:=ZEe l i hi4;have hdr:=ZKP l ([],[],()) i hi4;have hma:l.getD i ([],[],())∈l:=Vs
   generalize l.getD i ([],[],())=a at hrw hdr hma;have hna:=hn a hma;have hga:=hg (Kb L (ZE a.1)) a hma;rw[hdr,goA]at hgo;obtain⟨t,ht⟩: ∃t,t=Kb L (ZE a.1):=⟨_,rfl⟩;rw[<-ht]at hga hgo;have hmc:ZQ Tryz.prog f [.agg [.x (.str t.1),.x (.int .i64 t.2.1),.x (.bool t.2.2.1)],.agg [.x (.str a.1),.x (.sl (rows ZC a.2.1))]] [.box [.mref 1,.mref 2],.mpo .str true (Jw L),.mpo .str true (Jo M),.box [.x (.str a.1),.x (.sl (rows ZC a.2.1))],.box [.x (.str t.1),.x (.int .i64 t.2.1),.x (.bool t.2.2.1)]] (.x (.int .i64 (g t a))) [.box [.mref 1,.mref 2],.mpo .str true (Jw L),.mpo .str true (Jo M),.box [.x (.str a.1),.x (.sl (rows ZC a.2.1))],.box [.x (.str t.1),.x (.int .i64 t.2.1),.x (.bool t.2.2.1)]]:=ZK.mc hga _;have uu:=Qt uu hrw ht.symm @tyD.eq_1;refine WI.regB tT [0,2,8,13,14,15] ?_
   refine W7 ?_;refine W7 ?_;refine TV ?_;refine WI.dregB tT [0,2,8,9,13,14,15] ?_;refine Wo ?_;refine UL ?_;refine dQC ?_;refine Nv ?_;refine Wm ?_;refine WI.regB (ZCz ZB hen hmc) [0,2,11,13,14,15] ?_;refine N3 ?_;refine oC ?_;refine WP ?_;refine WI.post ?_;refine WI.regB tT [0,2,11,13,14,15,34] ?_;refine Vm ?_;refine oP ?_;refine ZNZ (scO L M) _ rfl J1 hO Tt ?_;refine KR ?_;refine ZA ?_;refine WI.cond (b:=_) rfl rfl (λh1=> ?_) (λh1=> ?_)
   .try simp only[zB]at h1
    refine WI.seq ?_;refine WI.regB tT [6] ?_;refine V2 ?_;refine Tr ?_
    first|refine lfR ?_|refine ZAi ?_|refine ZAT ?_|refine ZAc ?_
    refine⟨?_,_,rfl⟩;rw[<-hgo,if_pos WC]
   .try simp only[zB]at h1
    rw[if_neg WC]at hgo;have hgo2:=hgo;refine WI.skip ?_;refine Nw ?_;refine WI.regB tT [0,2,13,14,15] ?_;refine oG ?_;refine Va ?_;exact⟨⟨i+1,rfl,rfl,J0,hgo2⟩,Wa⟩
  .try simp only[zB]at h0
   refine WZ ?_;refine Wm ?_;refine WI.regB tT [6] ?_;refine Va ?_;refine WI.ret ?_
   first|refine lfR ?_|refine ZAi ?_|refine ZAT ?_|refine ZAc ?_
   rw[ZBB J0]at hgo;refine⟨?_,[],J1⟩;rw[<-hgo];rfl
def goS(L:List (Tx×Zd)):Sn->List ZN->Int×Sn
 |S,[]=>(0,S)
 |S,a::l=>if w4 S (Kb L (ZE a.1)) a≠0 then(w4 S (Kb L (ZE a.1)) a,snS S (Kb L (ZE a.1)).1)else goS L (snS S (Kb L (ZE a.1)).1) l
abbrev sc5(L:List (Tx×Zd))(M:List (Tx×Zo))(S:Sn):J7:= [.box [.mref 1,.mref 2],.mpo .str true (Jw L),.mpo .str true (Jo M),.box [.mref 4],.mpo .str false (Yv Km kcI S)]
theorem ZPM(L:List (Tx×Zd))(M:List (Tx×Zo))(S:Sn):(sc5 L M S).all (Ob.inP (λi=>decide (i<(sc5 L M S).length)))=true:=by
 simp[Ob.inP,JE,D.inP,ZA1,ZAu,ZAR]
theorem ZOG(S:Sn)(k:Tx)(v:Int)(k':Tx):ZF (Zu S k v) k'=if k'=k then some v else ZF S k':=by
 induction S with
 |nil=>by_cases h:k'=k<;>simp[Zu,ZF,h]
 |cons p S ih=>
  by_cases h1:k=p.1
  .subst h1;by_cases h:k'=p.1<;>simp[Zu,ZF,h]
  .by_cases h:k'=p.1
   .have hne: ¬p.1=k:=λe=>h1 e.symm
    subst h;simp[Zu,ZF,h1,hne]
   .simp only[Zu,ZF,h1,h,if_false,List.find?_cons,decide_false]at ih|-;exact ih
theorem ZVj(S:Sn)(k k':Tx):snG (snS S k) k'=if k'=k then snG S k+1 else snG S k':=by
 unfold snG snS;rw[ZOG];split<;>rfl
theorem ZdE(S:Sn):unM ZC (ZCL .i64) (Yv Km kcI S)=some S:=ZTW ZO (ZBK .i64) S
theorem Zcu(L:List (Tx×Zd))(M:List (Tx×Zo))(e:Zc)(S0:Sn)(hS0: ∀k,0<=snG S0 k/\snG S0 k<=1)(hl:e.2.1.length<=1000000)(hn: ∀a∈e.2.1,a.1.length<=1000000/\a.2.1.length<=1000000):
  ZQ Tryz.prog 158 [.ptr 0 0,ZEg e,.fn 155 [.ptr 3 0]] (sc5 L M S0) (.x (.int .i64 (goS L S0 e.2.1).1)) (sc5 L M (goS L S0 e.2.1).2):=by
 obtain⟨dn,l,u⟩:=e;simp only at hl hn|-;have hO:=ZPM L M (goS L S0 l).2;have h1:=ZGD L;have h2:=ZGB M;unfold ZEg;refine ZH.mcallsX (fC 158 true ?_) WW hO Vi;intro C0 E0;have uu:=ξ9 @ZOF.eq_1 @w4T.eq_1 h1 h2 @ZdE @ZCt @ZDE @ZDh (ξ6 @ZDa @ZA1 @ZAu @ZAv @ZDC @ZAR);have tT:=aT (aR ZB ZQd) Zgg;refine rg [0,2,4] ?_;refine rg [0,2,13,14,15] ?_;refine WI.dropT (sc5 L M S0) _ rfl J1 (ZPM L M S0) Tt ?_;refine WI.orderA [0,2,13,14,15] ?_;refine WI.loop (λφ os=> ∃(i:Nat) (S:Sn),φ= [(0,.ptr 0 0),(2,.fn 155 [.ptr 3 0]),(13,.x (.sl (rows ZL l))),(14,.x (.int .i64 l.length)),(15,.x (.int .i64 i))]/\os=sc5 L M S/\i<=l.length/\(∀k,0<=snG S k/\snG S k<=1)/\goS L S (l.drop i)=goS L S0 l) (ZJ l.length 15) ?_ (λφ os hI=> ?_)
 .exact⟨0,S0,rfl,rfl,J0,hS0,rfl⟩
 .obtain⟨i,S,rfl,rfl,hi,hSi,hgo⟩:=hI;refine rg [0,2,13,14,15,16] ?_;refine cd (λh0=> ?_) (λh0=> ?_)
  .have hi4:i<l.length:=Wl
   have hrw:=ZEe l i hi4;have hdr:=ZKP l ([],[],()) i hi4;have hma:l.getD i ([],[],())∈l:=Vs
   generalize l.getD i ([],[],())=a at hrw hdr hma;obtain⟨hna,hna2⟩:=hn a hma;rw[hdr,goS]at hgo;obtain⟨t,ht⟩: ∃t,t=Kb L (ZE a.1):=⟨_,rfl⟩;rw[<-ht]at hgo;have hdd:decide ((0<=snG S t.1/\snG S t.1<=1000000)/\a.2.1.length<=1000000)=true:=ZI ⟨⟨(hSi t.1).1,by have:=(hSi t.1).2;omega⟩,hna2⟩;obtain⟨tn,tk,tb,tu⟩:=t;obtain⟨an,al,au⟩:=a;have uu:=ξ5 uu hrw ht.symm (@tyD.eq_1) hdd;refine rg [0,2,8,13,14,15] ?_;refine WI.dregB tT [0,2,8,9,13,14,15] ?_
   refine Wo ?_;refine UL ?_;refine dQC ?_;refine Nv ?_;refine rg [0,2,11,13,14,15] ?_;refine WI.post ?_;refine WI.regB tT [0,2,11,13,14,15,34] ?_;refine Vm ?_;refine oP ?_;refine ZNZ (sc5 L M (snS S tn)) _ rfl J1 (ZPM L M _) Tt ?_;refine KR ?_;refine nz ?_;refine cd (λh1=> ?_) (λh1=> ?_)
   .refine rg [6] ?_;refine lf ?_;rw[if_pos WC]at hgo;rw[<-hgo];exact Gn
   .rw[if_neg WC]at hgo;have hgo2:=hgo;have hw0:w4 S (tn,tk,tb,tu) (an,al,au)=0:=WC
    have hSn: ∀k,0<=snG (snS S tn) k/\snG (snS S tn) k<=1:=λk=>by
     rw[ZVj];have hz: ¬0<snG S tn:=λhh=>by unfold w4 at hw0;rw[if_pos (.inl hh)]at hw0;simp at hw0
     have:=hSi k;have:=hSi tn;split<;>omega
    refine rg [0,2,13,14,15] ?_;exact⟨⟨i+1,_,rfl,rfl,J0,hSn,hgo2⟩,Wa⟩
  .refine rg [6] ?_;refine lf ?_;rw[ZBB J0]at hgo;rw[<-hgo];exact⟨rfl,[],by simp[goS]⟩
def smA(l:List ZN):Prop:=l.length<=1000000/\ ∀a∈l,a.1.length<=1000000/\a.2.1.length<=1000000
instance (l:List ZN):Decidable (smA l):=by unfold smA;infer_instance
def ZG6(g:Zd->ZN->Int)(dn:Tx)(A:J6)(P1 P2:W2):Option (Bool×D×J7):=
 (unM ZC YC P1).bind λL=>(unM ZC Yl P2).bind λM=>(ZM ZL A).bind λl=>some (decide (smA l),.x (.int .i64 (goA g L l)),scO L M)
def ZS9(dn:Tx)(A:J6)(P1 P2 P3:W2):Option (Bool×D×J7):=
 (unM ZC YC P1).bind λL=>(unM ZC Yl P2).bind λM=>(unM ZC (ZCL .i64) P3).bind λS=>(ZM ZL A).bind λl=>some (decide (smA l)&&decide (S.length=0),.x (.int .i64 (goS L S l).1),sc5 L M (goS L S l).2)
def ZFr:J8->J7->Option (Bool×D×J7)
 | [.ptr 0 0,.agg [.x (.str dn),.x (.sl A)],.fn 151 []],[.box [.mref 1,.mref 2],.mpo .str true P1,.mpo .str true P2]=>ZG6 w1 dn A P1 P2
 | [.ptr 0 0,.agg [.x (.str dn),.x (.sl A)],.fn 152 []],[.box [.mref 1,.mref 2],.mpo .str true P1,.mpo .str true P2]=>ZG6 w2 dn A P1 P2
 | [.ptr 0 0,.agg [.x (.str dn),.x (.sl A)],.fn 153 []],[.box [.mref 1,.mref 2],.mpo .str true P1,.mpo .str true P2]=>ZG6 w3 dn A P1 P2
 | [.ptr 0 0,.agg [.x (.str dn),.x (.sl A)],.fn 155 [.ptr 3 0]],[.box [.mref 1,.mref 2],.mpo .str true P1,.mpo .str true P2,.box [.mref 4],.mpo .str false P3]=>ZS9 dn A P1 P2 P3
 | [.ptr 0 0,.agg [.x (.str dn),.x (.sl A)],.fn 157 []],[.box [.mref 1,.mref 2],.mpo .str true P1,.mpo .str true P2]=>ZG6 w5 dn A P1 P2
 |_,_=>none
theorem ZYG:Enters Tryz.prog 151:=QZ 151
theorem ZY5:Enters Tryz.prog 152:=QZ 152
theorem ZZ5:Enters Tryz.prog 153:=QZ 153
theorem ZZv:Enters Tryz.prog 157:=QZ 157
theorem ZHN{f:FuncId}{g:Zd->ZN->Int}(hen:Enters Tryz.prog f)(hg: ∀t (a:ZN),a.2.1.length<=1000000->ZK Tryz.prog f [tyD t,atD a] (.x (.int .i64 (g t a)))){dn:Tx}{A:J6}{P1 P2:W2}{r:D}{os':J7}(h:ZG6 g dn A P1 P2=some (true,r,os')):
  ZQ Tryz.prog 158 [.ptr 0 0,.agg [.x (.str dn),.x (.sl A)],.fn f []] [.box [.mref 1,.mref 2],.mpo .str true P1,.mpo .str true P2] r os':=by
 unfold ZG6 at h;obtain⟨L,k1,h⟩:=Zf h;obtain⟨M,k2,h⟩:=Zf h;obtain⟨l,k3,h⟩:=Zf h;simp only[Yj,YN,Ym]at h;obtain⟨⟨hl,hn⟩,rfl,rfl⟩:=h;rw[ZCW ZO JI k1,ZCW ZO JT k2,<-YU Ze k3];exact Zam L M (dn,l,()) f g hen (λt a ha=>hg t a (hn a ha).2) hl (λa ha=>(hn a ha).1)
theorem ZaJ: ∀args os r os',ZFr args os=some (true,r,os')->ZQ Tryz.prog 158 args os r os':=by
 intro args os r os' h;unfold ZFr at h;split at h
 .exact ZHN ZYG (λt a _=>Zjc t a) h
 .exact ZHN ZY5 (λt a _=>ZjI t a) h
 .exact ZHN ZZ5 (λt a hl=>ZjT t a hl) h
 .unfold ZS9 at h;obtain⟨L,k1,h⟩:=Zf h;obtain⟨M,k2,h⟩:=Zf h;obtain⟨S,k4,h⟩:=Zf h;obtain⟨l,k3,h⟩:=Zf h;simp only[Yj,YN,Zk,Ym]at h;obtain⟨⟨⟨hl,hn⟩,hS⟩,rfl,rfl⟩:=h;rw[ZCW ZO JI k1,ZCW ZO JT k2,ZCW ZO (ZBK .i64) k4,<-YU Ze k3];obtain rfl:=ξS hS;exact Zcu L M (_,l,()) [] (λk=>by simp[snG,ZF]) hl hn
 .exact ZHN ZZv (λt a _=>ZjP t a) h
 .cases h
def ZHQ(L:List (Tx×Zd))(l:List ZN):Int:=
 if goA w1 L l≠0 then goA w1 L l else if goA w2 L l≠0 then goA w2 L l else if goA w3 L l≠0 then goA w3 L l else if(goS L [] l).1≠0 then(goS L [] l).1 else goA w5 L l
theorem ZQ4(l:List ZN):ZM ZL (rows ZL l)=some l:=ZX Ze l
theorem ZbO(L:List (Tx×Zd))(M:List (Tx×Zo))(e:Zc)(he:smA e.2.1):ZQ Tryz.prog 118 [.ptr 0 0,ZEg e] (scO L M) (.x (.int .i64 (ZHQ L e.2.1))) (scO L M):=by
 obtain⟨dn,l,u⟩:=e;simp only at he|-;have hsm:=ZI he;have hO:=ZCX L M;have h1:=ZGD L;have h2:=ZGB M;have h3:unM ZC (ZCL .i64) []=some []:=rfl;rcases hv:ZHQ L l with v
 unfold ZHQ at hv;unfold ZEg;refine ZH.mcallsX (fC 118 true ?_) WW hO Vi;intro C0 E0;have uu:=ξ9 @ZFr.eq_1 @ZFr.eq_2 @ZFr.eq_3 @ZFr.eq_4 @ZFr.eq_5 @ZFr.eq_6 @ZG6.eq_1 @ZS9.eq_1 (ξ9 h1 h2 h3 @ZdE @ZQ4 hsm @ZCt @ZDE (ξ7 @ZDh @ZDa @ZA1 @ZAu @ZAv @ZDC @ZAR));have tT:=aT ZB ZaJ;refine rg [0,3] ?_;refine rg [0,3,5] ?_;refine rg [0,3,11,12] ?_;refine WI.loopN 6 ?_;refine WI.round ?_;refine rg [0,3,11,12,13] ?_;refine ct (λh0=> ?_) (λh0=> ?_)
 .refine V3 ?_;refine cd (λh1=> ?_) (λh1=> ?_)
  .exact VS
  .refine VV ?_;refine ct (λh0=> ?_) (λh0=> ?_)
   .refine V3 ?_;refine cd (λh1=> ?_) (λh1=> ?_)
    .exact VS
    .refine VV ?_;refine ct (λh0=> ?_) (λh0=> ?_)
     .refine V3 ?_;refine cd (λh1=> ?_) (λh1=> ?_)
      .exact VS
      .refine VV ?_;refine ct (λh0=> ?_) (λh0=> ?_)
       .refine V3 ?_;refine cd (λh1=> ?_) (λh1=> ?_)
        .exact VS
        .refine VV ?_;refine ct (λh0=> ?_) (λh0=> ?_)
         .refine V3 ?_;refine cd (λh1=> ?_) (λh1=> ?_)
          .exact VS
          .refine VV ?_;refine ce (λh0=> ?_) (λh0=> ?_)
           .exact UP
           .exact VS
         .exact UP
       .exact UP
     .exact UP
   .exact UP
 .exact UP
def ZOv:J8->J7->Option (Bool×D×J7)
 | [.ptr 0 0,.agg [.x (.str dn),.x (.sl R)]],[.box [.mref 1,.mref 2],.mpo .str true P1,.mpo .str true P2]=>(unM ZC YC P1).bind λL=>(unM ZC Yl P2).bind λM=>(ZM ZL R).bind λl=>some (decide (smA l),.x (.int .i64 (ZHQ L l)),[.box [.mref 1,.mref 2],.mpo .str true (Jw L),.mpo .str true (Jo M)])
 |_,_=>none
theorem ZV0:TK Tryz.prog ZOv 118:=by
 intro args os r os' h;unfold ZOv at h;split at h
 .rename_i dn R P1 P2;obtain⟨L,rfl,i0⟩:=um ZO JI h;obtain⟨M,rfl,i1⟩:=um ZO JT i0;obtain⟨l,rfl,i2⟩:=un Ze i1;obtain⟨h1,rfl,rfl⟩:=tn1 i2;exact ZbO L M (dn,l,()) h1
 .cases h
def OC:Tx:= [111,98,106,101,99,116,99,108,97,115,115]
def snL(l:List Tx):Sn:=l.foldl snS []
theorem ZMF(l:List Tx)(k:Tx):snL (l++ [k])=snS (snL l) k:=by unfold snL;rw[ZL4];rfl
theorem ZGl(l:List Tx)(k:Tx):ZF (snL l) k=if k∈l then some (l.count k:Int)else none:=by
 suffices h: ∀(n:Nat) (l:List Tx),l.length=n->ZF (snL l) k=if k∈l then some (l.count k:Int)else none from h _ l rfl
 intro n
 induction n with
 |zero=>intro l hl;obtain rfl:=ξS hl;rfl
 |succ n ihn=>
  intro l hl;rcases List.eq_nil_or_concat l with rfl|⟨l0,x,rfl⟩
  .simp at hl
  have ih:=ihn l0 Us;rw[List.concat_eq_append,ZMF];unfold snS;rw[ZOG];by_cases h:k=x
  .subst h;rw[if_pos rfl,if_pos J1];unfold snG;rw[ih,List.count_append];by_cases hk:k∈l0
   .rw[if_pos hk];simp
   .rw[if_neg hk,List.count_eq_zero_of_not_mem hk];simp
  .rw[if_neg h,ih,List.count_append];have hx: ¬x=k:=λe=>h e.symm
   by_cases hk:k∈l0
   .rw[if_pos hk,if_pos (by simp[hk])];simp[hx]
   .rw[if_neg hk,if_neg (by simp[hk,h])]
abbrev snM(l:List Tx):W2:=Yv Km kcI (snL l)
theorem ZE9{l:List Tx}{k:Tx}(h:k∈l):Ju (snM l) [X.str k]=some [D.x (X.int .i64 (l.count k))]:=by
 rw[ZSO,ZGl,if_pos h];rfl
theorem ZGr{l:List Tx}{k:Tx}(h:k∉l):Ju (snM l) [X.str k]=none:=by
 rw[ZSO,ZGl,if_neg h];rfl
theorem ZSM{l:List Tx}{k:Tx}(h:k∈l):Yo (snM l) [X.str k] [D.x (X.int .i64 ((l.count k:Int)+1))]=snM (l++ [k]):=by
 rw[ZN7];unfold snM;rw[ZMF];unfold snS snG;rw[ZGl,if_pos h];rfl
theorem ZIM{l:List Tx}{k:Tx}(h:k∉l):Yo (snM l) [X.str k] [D.x (X.int .i64 1)]=snM (l++ [k]):=by
 rw[ZN7];unfold snM;rw[ZMF];unfold snS snG;rw[ZGl,if_neg h];rfl
theorem ZSG(l:List Tx)(k:Tx):k∈l↔ ∃n,(k,n)∈snL l:=by
 have key: ∀(S:Sn) (k:Tx),(ZF S k).isSome=true↔ ∃n,(k,n)∈S:=by
  intro S k
  induction S with
  |nil=>simp[ZF]
  |cons p S ih=>
   by_cases h:k=p.1
   .subst h;simp[ZF];exact⟨p.2,.inl rfl⟩
   .have e:ZF (p::S) k=ZF S k:=by simp[ZF,h]
    rw[e,ih];constructor
    .rintro⟨n,hn⟩;exact⟨n,ξW _ hn⟩
    .rintro⟨n,hn⟩;rcases Kn.1 hn with hh|hh
     .exact absurd (congrArg Prod.fst hh) h
     .exact⟨n,hh⟩
 rw[<-key,ZGl];split<;>simp_all
def Qm(l:List ZN):List Tx:=l.map λa=>ZE a.1
def ZCg(l:List ZN):List Tx:=l.foldl (λc a=>if ZE a.1=OC then a.2.1 else c) []
def ZBG(M:List (Tx×Zo))(cs:List Tx):List Tx:=cs.flatMap λn=>(clV M (ZE n)).2.1++(clV M (ZE n)).2.2.1
def ZCb(M:List (Tx×Zo))(H:List Tx)(n:Tx):Bool:=(ZF M (ZE n)).isSome&&(clV M (ZE n)).2.1.all λx=>decide (x∈H)
def ZH1(L:List (Tx×Zd))(M:List (Tx×Zo))(l:List ZN):Int:=
 if ZHQ L l≠0 then ZHQ L l
 else if((ZCg l).all (ZCb M (Qm l))&&((Qm l).all (λh=>decide (h∈OC::ZBG M (ZCg l)))&&decide (ZCg l≠ [])))=true then 0 else 65
theorem ZPb(l:List ZN)(i:Nat)(h:i<l.length):Qm (l.take (i+1))=Qm (l.take i)++ [ZE (l.getD i ([],[],())).1]:=by
 unfold Qm;rw[JU h,Jd];simp[h]
theorem ZPg(l:List ZN)(i:Nat)(h:i<l.length):ZCg (l.take (i+1))=if ZE (l.getD i ([],[],())).1=OC then(l.getD i ([],[],())).2.1 else ZCg (l.take i):=by
 unfold ZCg;rw[JU h,ZL4];simp[h]
theorem ZUs{l:List ZN}(h:smA l)(hv: ∀a∈l,∀v∈a.2.1,v.length<=1000000):(ZCg l).length<=1000000/\ ∀v∈ZCg l,v.length<=1000000:=by
 have key: ∀(m:List ZN) (c:List Tx),(∀a∈m,a∈l)->(c.length<=1000000/\ ∀v∈c,v.length<=1000000)->(m.foldl (λc a=>if ZE a.1=OC then a.2.1 else c) c).length<=1000000/\ ∀v∈m.foldl (λc a=>if ZE a.1=OC then a.2.1 else c) c,v.length<=1000000:=by
  intro m
  induction m with
  |nil=>intro c _ hc;exact hc
  |cons a m ih=>
   intro c hm hc;rw[ZJD];refine ih _ (λx hx=>hm x (ξW _ hx)) ?_;split
   .exact⟨(h.2 a (hm a ZAw)).2,hv a (hm a ZAw)⟩
   .exact hc
 exact key l [] (λ_ h=>h) J1
def bdC(M:List (Tx×Zo)):Prop:= ∀k,(clV M k).2.1.length<=1000000/\(clV M k).2.2.1.length<=1000000
theorem ZPZ(M:List (Tx×Zo))(cs:List Tx)(i:Nat)(h:i<cs.length):ZBG M (cs.take (i+1))=ZBG M (cs.take i)++((clV M (ZE (cs.getD i []))).2.1++(clV M (ZE (cs.getD i []))).2.2.1):=by
 unfold ZBG;rw[JU h,ZcJ];simp[h]
theorem ZSl{M:List (Tx×Zo)}(hM:bdC M): ∀cs:List Tx,(ZBG M cs).length<=cs.length*2000000
 | []=>by simp[ZBG]
 |n::cs=>by
  have:=ZSl hM cs;have:=hM (ZE n);unfold ZBG at*;rw[ZOn,ZW,ZW,JB];omega
theorem ZXb{α:Type}{l:List α}{i:Nat}{q:α}(h:l[i]? =some q): ∀x,x∈l↔x=q\/x∈l.eraseIdx i:=by
 intro x;have hp:l.Perm (q::l.eraseIdx i):=by
  obtain⟨hi,he⟩:=ZV h;rw[List.eraseIdx_eq_take_drop_succ]
  conv=>lhs;rw[<-ZBx i l,ξU hi,he]
  exact List.perm_middle
 rw[hp.mem_iff,Kn]
abbrev scE(L:List (Tx×Zd))(M:List (Tx×Zo))(dn:Tx)(l:List ZN)(H:List Tx):J7:= [.box [.mref 1,.mref 2],.mpo .str true (Jw L),.mpo .str true (Jo M),.box [.x (.str dn),.x (.sl (rows ZL l))],.mpo .str false (snM H)]
abbrev scF(L:List (Tx×Zd))(M:List (Tx×Zo))(dn:Tx)(l:List ZN)(H Y:List Tx):J7:= [.box [.mref 1,.mref 2],.mpo .str true (Jw L),.mpo .str true (Jo M),.box [.x (.str dn),.x (.sl (rows ZL l))],.mpo .str false (snM H),.mpo .str false (snM Y)]
theorem ZLF(L:List (Tx×Zd))(M:List (Tx×Zo))(dn:Tx)(l:List ZN)(H:List Tx):(scE L M dn l H).all (Ob.inP (λi=>decide (i<(scE L M dn l H).length)))=true:=by
 simp[Ob.inP,JE,D.inP,ZA1,ZAu,ZAR]
theorem Zdm(L:List (Tx×Zd))(M:List (Tx×Zo))(dn:Tx)(l:List ZN)(H Y:List Tx):(scF L M dn l H Y).all (Ob.inP (λi=>decide (i<(scF L M dn l H Y).length)))=true:=by
 simp[Ob.inP,JE,D.inP,ZA1,ZAu,ZAR]
abbrev scG(L:List (Tx×Zd))(M:List (Tx×Zo))(dn:Tx)(l:List ZN)(H Y:List Tx)(c:Zo):J7:= [.box [.mref 1,.mref 2],.mpo .str true (Jw L),.mpo .str true (Jo M),.box [.x (.str dn),.x (.sl (rows ZL l))],.mpo .str false (snM H),.mpo .str false (snM Y),.box [.x (.str c.1),.x (.sl (rows ZC c.2.1)),.x (.sl (rows ZC c.2.2.1))]]
set_option maxHeartbeats 4000000 in
theorem Zdc(L:List (Tx×Zd))(M:List (Tx×Zo))(e:Zc)(he:smA e.2.1)(hv: ∀a∈e.2.1,∀v∈a.2.1,v.length<=1000000)(hM:bdC M):ZQ Tryz.prog 78 [.ptr 0 0,ZEg e] (scO L M) (.x (.int .i64 (ZH1 L M e.2.1))) (scO L M):=by
 obtain⟨dn,l,u⟩:=e;simp only at he hv|-;have hsm:=ZI he;have hll:l.length<=1000000:=he.1;have hO:=ZCX L M;have h1':=ZGD L;have h2':=ZGB M;obtain⟨hcl,hcv⟩:=ZUs he hv;have hoc:(OC:Tx)= [111,98,106,101,99,116,99,108,97,115,115]:=rfl;have hns:Yo [] [X.str [111,98,106,101,99,116,99,108,97,115,115]] [D.x (X.int .i64 1)]=snM [OC]:=by rfl
 rcases hres:ZH1 L M l with v
 unfold ZH1 at hres;unfold ZEg;refine ZH.mcallsX (fC 78 true ?_) WW hO Vi;intro C0 E0;have uu:=ξ9 @ZOv.eq_1 @ZS0.eq_1 @ZAB.eq_1 @ZGE.eq_1 @h1' @h2' @ZQ4 hsm (ξ9 hns @ZCt @ZDE @ZDh @ZDa @ZA1 @ZAu @ZAv (Zz @ZDC @ZAR));have tT:=aQ (aQ (aT (aT ZB ZV0) ZYP) Kh) ZDz;refine rg [0,3] ?_;refine rg [0,3,22] ?_;refine ce (λh0=> ?_) (λh0=> ?_)
 .simp at h0
 .refine rg [0,3,5] ?_;refine rg [0,3,5,27] ?_;refine cd (λh1=> ?_) (λh1=> ?_)
  .rw[if_pos WC]at hres;refine Wj ?_;exact⟨by rw[hres],_,rfl⟩
  .rw[if_neg WC]at hres;refine rg [0,3,6] ?_;refine rg [0,3,6,7] ?_;refine rg [0,6,7,31,32,33] ?_;refine WI.nnA ?_;refine WI.orderA [0,6,7,31,32,33] ?_;refine WI.loop (λφ os=> ∃(i:Nat),φ= [(0,.ptr 0 0),(6,.mref 4),(7,.x (.sl (rows ZC (ZCg (l.take i))))),(31,.x (.sl (rows ZL l))),(32,.x (.int .i64 l.length)),(33,.x (.int .i64 i))]/\os=scE L M dn l (Qm (l.take i))/\i<=l.length) (ZJ l.length 33) ?_ (λφ os hI=> ?_)
   .exact Vf
   .obtain⟨i,rfl,rfl,hi⟩:=hI;refine rg [0,6,7,31,32,33,34] ?_;refine cd (λh2=> ?_) (λh2=> ?_)
    .have hi4:i<l.length:=Wl
     have hrw:=ZEe l i hi4;have hnt:=ZPb l i hi4;have hct:=ZPg l i hi4;have hma:l.getD i ([],[],())∈l:=Vs
     generalize l.getD i ([],[],())=a at hrw hnt hct hma;have hna:=(he.2 a hma).1;have hcn:(Qm (l.take i)).count (ZE a.1)<=1000000:=ZEQ Zb4 (by unfold Qm;rw[YZ,Ys];have:=he.1;omega);have uu:=Zz uu hrw;refine rg [0,6,7,9,31,32,33] ?_;refine rg [0,6,7,9,10,31,32,33] ?_;by_cases hk:ZE a.1∈Qm (l.take i)
     .have hg1:=ZE9 hk;have hg2:=ZSM hk;have uu:=JJ uu hg1 hg2;refine rg [0,6,7,9,10,31,32,33] ?_;refine rg [0,6,7,9,31,32,33,45] ?_;refine cd (λh3=> ?_) (λh3=> ?_)
      .exact N4
      .rw[if_neg (λe=>h3 (e.trans hoc))]at hct;exact W9
     .have hg1:=ZGr hk;have hg2:=ZIM hk;have uu:=JJ uu hg1 hg2;refine rg [0,6,7,9,10,31,32,33] ?_;refine rg [0,6,7,9,31,32,33,45] ?_;refine cd (λh3=> ?_) (λh3=> ?_)
      .exact N4
      .rw[if_neg (λe=>h3 (e.trans hoc))]at hct;exact W9
    .obtain rfl:i=l.length:=Wl
     rw[JX];refine WI.orderA [0,6,7] ?_;generalize Qm l=H at hres|-;generalize ZCg l=cs at hres hcl hcv|-;refine rg [0,6,7,11] ?_;refine rg [0,6,7,11,51,52,53] ?_;refine WI.orderA [0,6,7,11,51,52,53] ?_;refine WI.loop (λφ os=> ∃(i:Nat),φ= [(0,.ptr 0 0),(6,.mref 4),(7,.x (.sl (rows ZC cs))),(11,.mref 5),(51,.x (.sl (rows ZC cs))),(52,.x (.int .i64 cs.length)),(53,.x (.int .i64 i))]/\os=scF L M dn l H (OC::ZBG M (cs.take i))/\i<=cs.length/\(cs.take i).all (ZCb M H)=true) (ZJ cs.length 53) ?_ (λφ os hI=> ?_)
     .exact W8
     .obtain⟨i,rfl,rfl,hi,hall⟩:=hI;refine rg [0,6,7,11,51,52,53,54] ?_;refine cd (λh4=> ?_) (λh4=> ?_)
      .have hi4:i<cs.length:=Wl
       have hrw:=KW cs i hi4;have hmt:=ZPZ M cs i hi4;have hnl:(cs.getD i []).length<=1000000:=by rw[show cs.getD i []=cs[i] by simp[hi4]];exact hcv _ (YG hi4)
       have hal:=Yq (ZCb M H) cs i hi4;have hgi:cs[i]=cs.getD i []:=G9
       have hno:ZCb M H (cs.getD i [])=false->cs.all (ZCb M H)=false:=λh=>Zj (ZCb M H) cs i hi4 (by rw[hgi];exact h)
       rw[hgi]at hal;have hYl:=ZSl hM (cs.take i);rw[Ys]at hYl;generalize ZBG M (cs.take i)=Y0 at hmt hYl|-;generalize cs.getD i []=n at hrw hmt hnl hal hno;have hb:=hM (ZE n);have hcd:ZCb M H n=((ZF M (ZE n)).isSome&&(clV M (ZE n)).2.1.all λx=>decide (x∈H)):=rfl;obtain⟨c,hc⟩: ∃c,c=clV M (ZE n):=⟨_,rfl⟩;rw[<-hc]at hmt hb hcd;have hd47:decide (n.length<=140737488355328)=true:=ZI J0;have uu:=ξ5 uu hrw hc.symm (@clD.eq_1) hd47;refine rg [0,6,7,11,13,51,52,53] ?_;refine rg [0,6,7,11,14,15,51,52,53] ?_;refine rg [0,6,7,11,14,51,52,53,64] ?_;refine cd (λh5=> ?_) (λh5=> ?_)
       .have hno2:=hno (by rw[hcd];clear uu;grind);rw[hno2,ZFA,if_neg WS]at hres;refine Wj ?_;exact⟨by rw[hres],_,rfl⟩
       .have hso:(ZF M (ZE n)).isSome=true:=Wv
        rw[hso,ZA0]at hcd;refine rg [0,6,7,11,14,51,52,53,66,67,68] ?_;refine WI.orderA [0,6,7,11,14,51,52,53,66,67,68] ?_;refine WI.loop (λφ os=> ∃(k:Nat),φ= [(0,.ptr 0 0),(6,.mref 4),(7,.x (.sl (rows ZC cs))),(11,.mref 5),(14,.ptr 6 0),(51,.x (.sl (rows ZC cs))),(52,.x (.int .i64 cs.length)),(53,.x (.int .i64 i)),(66,.x (.sl (rows ZC c.2.1))),(67,.x (.int .i64 c.2.1.length)),(68,.x (.int .i64 k))]/\os=scG L M dn l H (OC::(Y0++c.2.1.take k)) c/\k<=c.2.1.length/\(c.2.1.take k).all (λx=>decide (x∈H))=true) (ZJ c.2.1.length 68) ?_ (λφ os hI=> ?_)
        .exact⟨0,rfl,by rw[ZB6,Ks],J0,rfl⟩
        .obtain⟨k,rfl,rfl,hk,hka⟩:=hI;refine rg [0,6,7,11,14,51,52,53,66,67,68,69] ?_;refine cd (λh6=> ?_) (λh6=> ?_)
         .have hk4:k<c.2.1.length:=Wl
          have hrk:=KW c.2.1 k hk4;have hgk:c.2.1[k]=c.2.1.getD k []:=by simp[hk4]
          have htk:OC::(Y0++c.2.1.take (k+1))=(OC::(Y0++c.2.1.take k))++ [c.2.1.getD k []]:=by rw[JU hk4,hgk];simp
          have hak:=Yq (λx=>decide (x∈H)) c.2.1 k hk4;have hnk:c.2.1.getD k []∉H->c.2.1.all (λx=>decide (x∈H))=false:=λh=>Zj (λx=>decide (x∈H)) c.2.1 k hk4 (by rw[hgk];exact decide_eq_false h)
          rw[hgk]at hak;have hYk:(OC::(Y0++c.2.1.take k)).length<=4000000000000:=by rw[JB,ZW,Ys];omega
          generalize c.2.1.getD k []=x at hrk htk hak hnk;generalize OC::(Y0++c.2.1.take k)=Y at htk hYk;have hcy:=ZEQ (Zb4 (a:=x) (l:=Y)) hYk;have uu:=Zz uu hrk;refine rg [0,6,7,11,14,17,51,52,53,66,67,68] ?_;by_cases hxH:x∈H
          .have hg1:=ZE9 hxH;have hcp:0<H.count x:=ZXY.2 hxH;have uu:=Zz uu hg1;refine rg [0,6,7,11,14,17,51,52,53,66,67,68,75] ?_;refine ce (λh7=> ?_) (λh7=> ?_)
           .have:((H.count x:Nat):Int)=0:=by simpa using h7
            omega
           .have hka2:(c.2.1.take (k+1)).all (λx=>decide (x∈H))=true:=by rw[hak,hka,ZI hxH];rfl
            by_cases hxY:x∈Y
            .have hg2:=ZE9 hxY;have hg3:=ZSM hxY;exact U7
            .have hg2:=ZGr hxY;have hg3:=ZIM hxY;exact U7
          .have hg1:=ZGr hxH;have uu:=Zz uu hg1;refine rg [0,6,7,11,14,17,51,52,53,66,67,68,75] ?_;refine ct (λh7=> ?_) (λh7=> ?_)
           .refine Wj ?_;rw[hno (by rw[hcd];exact hnk hxH),ZFA,if_neg WS]at hres;exact⟨by rw[hres],_,rfl⟩
           .simp at h7
         .obtain rfl:k=c.2.1.length:=Wl
          rw[JX]at hka;rw[JX];rw[hka]at hcd;have hall2:(cs.take (i+1)).all (ZCb M H)=true:=by rw[hal,hall,hcd];rfl
          refine rg [0,6,7,11,51,52,53,82,83,84] ?_;refine WI.orderA [0,6,7,11,51,52,53,82,83,84] ?_;refine WI.loop (λφ os=> ∃(k:Nat),φ= [(0,.ptr 0 0),(6,.mref 4),(7,.x (.sl (rows ZC cs))),(11,.mref 5),(51,.x (.sl (rows ZC cs))),(52,.x (.int .i64 cs.length)),(53,.x (.int .i64 i)),(82,.x (.sl (rows ZC c.2.2.1))),(83,.x (.int .i64 c.2.2.1.length)),(84,.x (.int .i64 k))]/\os=scG L M dn l H (OC::(Y0++(c.2.1++c.2.2.1.take k))) c/\k<=c.2.2.1.length) (ZJ c.2.2.1.length 84) ?_ (λφ os hI=> ?_)
          .exact⟨0,rfl,by rw[ZB6,Ks],J0⟩
          .obtain⟨k,rfl,rfl,hk⟩:=hI;refine rg [0,6,7,11,51,52,53,82,83,84,85] ?_;refine cd (λh8=> ?_) (λh8=> ?_)
           .have hk4:k<c.2.2.1.length:=Wl
            have hrk:=KW c.2.2.1 k hk4;have hgk:c.2.2.1[k]=c.2.2.1.getD k []:=by simp[hk4]
            have htk:OC::(Y0++(c.2.1++c.2.2.1.take (k+1)))=(OC::(Y0++(c.2.1++c.2.2.1.take k)))++ [c.2.2.1.getD k []]:=by rw[JU hk4,hgk];simp
            have hYk:(OC::(Y0++(c.2.1++c.2.2.1.take k))).length<=4000000000000:=by rw[JB,ZW,ZW,Ys];omega
            generalize c.2.2.1.getD k []=x at hrk htk;generalize OC::(Y0++(c.2.1++c.2.2.1.take k))=Y at htk hYk;have hcy:=ZEQ (Zb4 (a:=x) (l:=Y)) hYk;have uu:=Zz uu hrk;refine rg [0,6,7,11,19,51,52,53,82,83,84] ?_;by_cases hxY:x∈Y
            .have hg2:=ZE9 hxY;have hg3:=ZSM hxY;exact UN
            .have hg2:=ZGr hxY;have hg3:=ZIM hxY;exact UN
           .obtain rfl:k=c.2.2.1.length:=Wl
            rw[JX];refine WI.dropT (scF L M dn l H (OC::(Y0++(c.2.1++c.2.2.1)))) _ rfl J1 (Zdm L M dn l _ _) Tt ?_;refine WI.orderA [0,6,7,11,51,52,53] ?_;refine rg [0,6,7,11,51,52,53] ?_;exact⟨⟨i+1,rfl,by rw[hmt],J0,hall2⟩,Wa⟩
      .obtain rfl:i=cs.length:=Wl
       rw[JX]at hall|-;refine WI.orderA [6,7,11] ?_;rw[hall,ZA0]at hres;generalize OC::ZBG M cs=Y at hres|-;refine rg [7,11,95] ?_;refine WI.orderA [7,11,95] ?_;refine WI.loop (λφ os=> ∃(R:Sn) (cur:Option Pr),φ= [(7,.x (.sl (rows ZC cs))),(11,.mref 5),(95,.iref 4 6)]/\os= [.box [.mref 1,.mref 2],.mpo .str true (Jw L),.mpo .str true (Jo M),.box [.x (.str dn),.x (.sl (rows ZL l))],.mit .str false (snM H) 6 (Yv Km kcI R) cur,.mpo .str false (snM Y),.itr]/\(∀p∈R,p.1∈H)/\(∀h∈H,h∈Y\/ ∃n,(h,n)∈R)) (ZO1 4) ?_ (λφ os hI=> ?_)
       .exact⟨snL H,none,rfl,rfl,λp hp=>(ZSG H p.1).2 ⟨p.2,hp⟩,λh hh=> .inr ((ZSG H h).1 hh)⟩
       .obtain⟨R,cur,rfl,rfl,hR1,hR2⟩:=hI;refine nz ?_;refine WI.nextMA [7,11,95,97] (λhn37=> ?_) (λi37 q37 hn37=> ?_)
        .simp only[Yv,Zas]at hn37;subst hn37;have hHY:H.all (λh=>decide (h∈Y))=true:=Yg.2 λh hh=>ZI (by rcases hR2 h hh with h1|⟨n,h1⟩;exact h1;cases h1)
         rw[hHY,ZA0]at hres;refine nz ?_;refine ce (λh9=> ?_) (λh9=> ?_)
         .exact absurd h9 WS
         .refine Wj ?_;refine⟨?_,_,rfl⟩;rw[<-hres];clear uu;rcases cs with _|⟨x,cs⟩<;>simp;omega
        .rw[Zd4]at hn37;obtain⟨p,hp,rfl⟩:=Za hn37;have hi37:=(ZV hp).1;have hpH:=hR1 p (Yz hp);refine nz ?_;refine ct (λh9=> ?_) (λh9=> ?_)
         .refine rg [7,11,20,95] ?_;by_cases hpY:p.1∈Y
          .have hg1:=ZE9 hpY;have hcp:0<Y.count p.1:=ZXY.2 hpY;have uu:=Zz uu hg1;refine rg [7,11,95,103] ?_;refine ce (λh10=> ?_) (λh10=> ?_) (kB:=λh=>h.h)
           .have:((Y.count p.1:Nat):Int)=0:=by simpa using h10
            omega
           .have hR3: ∀h∈H,h∈Y\/ ∃n,(h,n)∈R.eraseIdx i37:=λh hh=>by
             rcases hR2 h hh with h1|⟨n,h1⟩
             .exact .inl h1
             .rcases(ZXb hp (h,n)).1 h1 with h2|h2
              .exact .inl (by rw[show h=p.1 from congrArg Prod.fst h2];exact hpY)
              .exact .inr ⟨n,h2⟩
            refine WI.orderA [7,11,95] ?_;refine nz ?_;exact⟨⟨R.eraseIdx i37,_,rfl,rfl,λq hq=>hR1 q (List.mem_of_mem_eraseIdx hq),hR3⟩,by simp only[ZO1,ZBn,ZC2,ZJP,ZIf];rw[ZWt,if_pos hi37];omega⟩
          .have hg1:=ZGr hpY;have uu:=Zz uu hg1;refine rg [7,11,95,103] ?_;refine ct (λh10=> ?_) (λh10=> ?_)
           .refine Wj ?_;rw[show H.all (λh=>decide (h∈Y))=false from by rw[List.all_eq_false];exact⟨p.1,hpH,by simpa using hpY⟩,ZFA,if_neg WS]at hres;exact⟨by rw[hres],_,rfl⟩
           .simp at h10
         .exact absurd h9 WS
theorem ZCr(l:List Tx)(x:Tx):rows ZC (l++ [x])=rows ZC l++ [[X.str x]]:=Gd
theorem ZNw(l:List Zd)(j:Nat)(h:j<l.length):(rows YC l)[j]? =some [X.str (l.getD j ([],0,false,())).1,X.int .i64 (l.getD j ([],0,false,())).2.1,X.bool (l.getD j ([],0,false,())).2.2.1]:=by
 simp[rows,h,YC,JF,ZC,ZCL,ZND,QV]
theorem ZTc(l:List Zo)(j:Nat)(h:j<l.length):(rows Yl l)[j]? =some [X.str (l.getD j ([],[],[],())).1,X.sl (rows ZC (l.getD j ([],[],[],())).2.1),X.sl (rows ZC (l.getD j ([],[],[],())).2.2.1)]:=by
 simp[rows,h,Yl,JF,ZC,rSl,QV]
theorem ZgB(n:Tx)(k:Int)(b:Bool):ZK Tryz.prog 108 [.agg [.x (.str n),.x (.int .i64 k),.x (.bool b)]] (.x (.str n)):=by
 refine ZH.pure (fC 108 true ?_) rfl;intro C0 E0;have uu:=trivial;have tT:=(ZB:SsOk Tryz.prog YH);refine rg [1] ?_;refine Wy ?_
 exact Wp
theorem ZgG(n:Tx)(R R':J6):ZK Tryz.prog 111 [.agg [.x (.str n),.x (.sl R),.x (.sl R')]] (.x (.str n)):=by
 refine ZH.pure (fC 111 true ?_) rfl;intro C0 E0;have uu:=trivial;have tT:=(ZB:SsOk Tryz.prog YH);refine rg [1] ?_;refine Wy ?_
 exact Wp
theorem Zhw:ZK Tryz.prog 112 [] (.x (.int .i64 0)):=by
 refine ZH.pure (fC 112 true ?_) rfl;intro C0 E0;have uu:=trivial;have tT:=(ZB:SsOk Tryz.prog YH);refine rg [] ?_;refine rg [0] ?_;refine lf ?_
 exact Wp
def ZM4:J8->J5
 | [.agg [.x (.str n),.x (.int .i64 k),.x (.bool b)]]=>some (true,.x (.str n))
 |_=>none
theorem ZMZ:QK Tryz.prog ZM4 108:=by
 intro args r h;unfold ZM4 at h;split at h
 .obtain rfl:=Qv h;exact(ZgB _ _ _)
 .cases h
def ZNz:J8->J5
 | [.agg [.x (.str n),.x (.sl R),.x (.sl T)]]=>some (true,.x (.str n))
 |_=>none
theorem ZLs:QK Tryz.prog ZNz 111:=by
 intro args r h;unfold ZNz at h;split at h
 .obtain rfl:=Qv h;exact(ZgG _ _ _)
 .cases h
theorem ZfR(l:List Tx)(hl:l.length<=100000)(hn: ∀x∈l,x.length<=140737488355328):ZK Tryz.prog 72 [.x (.sl (rows ZC l)),.fn 63 []] (.x (.sl (rows ZC (l.map ZE)))):=by
 refine ZH.pure (fC 72 true ?_) rfl;intro C0 E0;have uu:=JJ @ZAB.eq_1 @ZM4.eq_1 @ZNz.eq_1;have tT:=aQ (aQ (aQ ZB Kh) ZMZ) ZLs;refine VO ?_;refine rg [1,5,8,9,10] ?_;refine WI.ownA 5 9 1 ?_;refine WI.loop (λφ os=> ∃(j:Nat),φ= [(1,.fn 63 []),(5,.ref 0 ((l.take j).map ZE).length 0 ((l.take j).map ZE).length),(8,.x (.sl (rows ZC l))),(9,.x (.int .i64 l.length)),(10,.x (.int .i64 j))]/\os= [.rows false 9 1 (rows ZC ((l.take j).map ZE))]/\j<=l.length) (ZJ l.length 10) ?_ (λφ os hI=> ?_)
 .exact Vf
 .obtain⟨j,rfl,rfl,hj⟩:=hI;refine rg [1,5,8,9,10,11] ?_;refine cd (λh0=> ?_) (λh0=> ?_)
  .have hj4:j<l.length:=Wl
   have hrw:=KW l j hj4;have htk:(l.take (j+1)).map ZE=(l.take j).map ZE++ [ZE (l.getD j [])]:=Tj
   have hd:=ZI (hn (l.getD j []) TP);have hlen:((l.take j).map ZE).length=j:=T7
   have hlen2:((l.take j).map ZE).length<=100000:=by rw[hlen];omega
   generalize l.getD j []=x at hrw htk hd;have uu:=JJ uu hrw hd;exact Vk
  .obtain rfl:j=l.length:=Wl
   rw[JX];refine rg [4] ?_;refine Gc ?_
   exact Wp
theorem Zfx(l:List Zd)(hl:l.length<=100000):ZK Tryz.prog 107 [.x (.sl (rows YC l)),.fn 108 []] (.x (.sl (rows ZC (l.map (·.1))))):=by
 refine ZH.pure (fC 107 true ?_) rfl;intro C0 E0;have uu:=JJ @ZM4.eq_1 @ZNz.eq_1 @ZAB.eq_1;have tT:=aQ (aQ (aQ ZB Kh) ZMZ) ZLs;refine VO ?_;refine rg [1,5,8,9,10] ?_;refine WI.ownA 5 9 1 ?_;refine WI.loop (λφ os=> ∃(j:Nat),φ= [(1,.fn 108 []),(5,.ref 0 ((l.take j).map (·.1)).length 0 ((l.take j).map (·.1)).length),(8,.x (.sl (rows YC l))),(9,.x (.int .i64 l.length)),(10,.x (.int .i64 j))]/\os= [.rows false 9 1 (rows ZC ((l.take j).map (·.1)))]/\j<=l.length) (ZJ l.length 10) ?_ (λφ os hI=> ?_)
 .exact Vf
 .obtain⟨j,rfl,rfl,hj⟩:=hI;refine rg [1,5,8,9,10,11] ?_;refine cd (λh0=> ?_) (λh0=> ?_)
  .have hj4:j<l.length:=Wl
   have hrw:=ZNw l j hj4;have htk:(l.take (j+1)).map (·.1)=(l.take j).map (·.1)++ [(l.getD j ([],0,false,())).1]:=Tj
   have hlen:((l.take j).map (·.1)).length=j:=T7
   have hlen2:((l.take j).map (·.1)).length<=100000:=by rw[hlen];omega
   generalize l.getD j ([],0,false,())=x at hrw htk;have uu:=Zz uu hrw;exact Vk
  .obtain rfl:j=l.length:=Wl
   rw[JX];refine rg [4] ?_;refine Gc ?_
   exact Wp
theorem ZeA(l:List Zo)(hl:l.length<=100000):ZK Tryz.prog 110 [.x (.sl (rows Yl l)),.fn 111 []] (.x (.sl (rows ZC (l.map (·.1))))):=by
 refine ZH.pure (fC 110 true ?_) rfl;intro C0 E0;have uu:=JJ @ZNz.eq_1 @ZM4.eq_1 @ZAB.eq_1;have tT:=aQ (aQ (aQ ZB Kh) ZMZ) ZLs;refine VO ?_;refine rg [1,5,8,9,10] ?_;refine WI.ownA 5 9 1 ?_;refine WI.loop (λφ os=> ∃(j:Nat),φ= [(1,.fn 111 []),(5,.ref 0 ((l.take j).map (·.1)).length 0 ((l.take j).map (·.1)).length),(8,.x (.sl (rows Yl l))),(9,.x (.int .i64 l.length)),(10,.x (.int .i64 j))]/\os= [.rows false 9 1 (rows ZC ((l.take j).map (·.1)))]/\j<=l.length) (ZJ l.length 10) ?_ (λφ os hI=> ?_)
 .exact Vf
 .obtain⟨j,rfl,rfl,hj⟩:=hI;refine rg [1,5,8,9,10,11] ?_;refine cd (λh0=> ?_) (λh0=> ?_)
  .have hj4:j<l.length:=Wl
   have hrw:=ZTc l j hj4;have htk:(l.take (j+1)).map (·.1)=(l.take j).map (·.1)++ [(l.getD j ([],[],[],())).1]:=Tj
   have hlen:((l.take j).map (·.1)).length=j:=T7
   have hlen2:((l.take j).map (·.1)).length<=100000:=by rw[hlen];omega
   generalize l.getD j ([],[],[],())=x at hrw htk;have uu:=Zz uu hrw;exact Vk
  .obtain rfl:j=l.length:=Wl
   rw[JX];refine rg [4] ?_;refine Gc ?_
   exact Wp
def ZJG(T:List Zd):Int:=if T.all (λt=>decide (1<=t.2.1/\t.2.1<=5))=true then 0 else 1
def ZAP(l:List Tx)(b:Int):Int:=if l.all Jj=true then(if b≠0 then b else if decide (l.map ZE).Nodup=true then 0 else 9)else 13
theorem Zh5(T:List Zd)(hT:T.length<=100000):ZQ Tryz.prog 109 [.ptr 0 0] [.box [.x (.sl (rows YC T))]] (.x (.int .i64 (ZJG T))) [.box [.x (.sl (rows YC T))]]:=by
 have hO: [Ob.box [.x (.sl (rows YC T))]].all (Ob.inP (λi=>decide (i< [Ob.box [.x (.sl (rows YC T))]].length)))=true:=rfl;refine ZH.mcallsX (fC 109 true ?_) WW hO Vi;intro C0 E0;have uu:=trivial;have tT:=(ZB:SsOk Tryz.prog YH);refine rg [0] ?_;refine rg [4,5,6] ?_;refine WI.orderA [4,5,6] ?_;refine WI.loop (λφ os=> ∃(j:Nat),φ= [(4,.x (.sl (rows YC T))),(5,.x (.int .i64 T.length)),(6,.x (.int .i64 j))]/\os= [.box [.x (.sl (rows YC T))]]/\j<=T.length/\(T.take j).all (λt=>decide (1<=t.2.1/\t.2.1<=5))=true) (ZJ T.length 6) ?_ (λφ os hI=> ?_)
 .exact W8
 .obtain⟨j,rfl,rfl,hj,hall⟩:=hI;refine rg [4,5,6,7] ?_;refine cd (λh0=> ?_) (λh0=> ?_)
  .have hj4:j<T.length:=Wl
   have hrw:=ZNw T j hj4;have hgj:T[j]=T.getD j ([],0,false,()):=T3
   have hal:=Yq (λt:Zd=>decide (1<=t.2.1/\t.2.1<=5)) T j hj4;have hno:decide (1<=(T.getD j ([],0,false,())).2.1/\(T.getD j ([],0,false,())).2.1<=5)=false->T.all (λt=>decide (1<=t.2.1/\t.2.1<=5))=false:=λh=>Zj (λt:Zd=>decide (1<=t.2.1/\t.2.1<=5)) T j hj4 (by rw[hgj];exact h)
   rw[hgj]at hal;generalize T.getD j ([],0,false,())=x at hrw hal hno;have uu:=Zz uu hrw;refine rg [3,4,5,6] ?_;refine rg [4,5,6,17] ?_;refine cd (λh1=> ?_) (λh1=> ?_)
   .have hno2:=hno (decide_eq_false Wv);refine rg [1] ?_;refine lf ?_;exact⟨by unfold ZJG;rw[hno2];rfl,_,rfl⟩
   .have hall2:(T.take (j+1)).all (λt=>decide (1<=t.2.1/\t.2.1<=5))=true:=by rw[hal,hall,ZI (show 1<=x.2.1/\x.2.1<=5 by clear uu;grind)];rfl
    refine WI.pickA [0] ?_;refine rg [4,5,6] ?_;exact Te
  .refine rg [1] ?_;refine lf ?_;exact⟨by unfold ZJG;rw[YO J0]at hall;rw[hall];rfl,_,rfl⟩
def ZQ3:J8->J7->Option (Bool×D×J7)
 | [.ptr 0 0],[.box [.x (.sl R)]]=>(ZM YC R).bind λT=>some (decide (T.length<=100000),.x (.int .i64 (ZJG T)),[.box [.x (.sl (rows YC T))]])
 |_,_=>none
theorem ZSR:TK Tryz.prog ZQ3 109:=by
 intro args os r os' h;unfold ZQ3 at h;split at h
 .obtain⟨T,rfl,i0⟩:=un JI h;obtain⟨h1,rfl,rfl⟩:=tn1 i0;exact Zh5 T h1
 .cases h
theorem ZFS(T:List Zd):ZM YC (rows YC T)=some T:=ZX JI T
def ZQ6:J8->J5
 | []=>some (true,.x (.int .i64 0))
 |_=>none
theorem ZSL:QK Tryz.prog ZQ6 112:=by
 intro args r h;unfold ZQ6 at h;split at h
 .obtain rfl:=Qv h;exact Zhw
 .cases h
theorem ZLK{l:List Tx}{j:Nat}(h:j<l.length):(l.take (j+1)).map ZE=(l.take j).map ZE++ [ZE (l.getD j [])]:=by
 rw[JU h,Jd];simp[h]
theorem ZY6{l:List Tx}{j:Nat}(h:j<l.length)(hin:ZE (l.getD j [])∈(l.take j).map ZE):decide (l.map ZE).Nodup=false:=by
 refine decide_eq_false λhn=> ?_
 have e:l=l.take j++l.getD j []::l.drop (j+1):=by
  exact N7
 rw[e,Jd,YM]at hn;exact(ZEx.1 hn).2.2 _ hin _ ZAw rfl
theorem ZcO(T:List Zd)(hT:T.length<=100000)(l:List Tx)(hl:l.length<=100000)(hn: ∀x∈l,x.length<=1000000):ZQ Tryz.prog 106 [.x (.sl (rows ZC l)),.fn 109 [.ptr 0 0]] [.box [.x (.sl (rows YC T))]] (.x (.int .i64 (ZAP l (ZJG T)))) [.box [.x (.sl (rows YC T))]]:=by
 obtain⟨B,hB⟩: ∃B,B=ZJG T:=⟨_,rfl⟩;rw[<-hB];have hno:l.all Jj=false->ZAP l B=13:=λh=>by unfold ZAP;rw[h];rfl
 have hbb:l.all Jj=true->B≠0->ZAP l B=B:=λh h2=>by unfold ZAP;rw[if_pos h,if_pos h2]
 have hdu:l.all Jj=true->B=0->decide (l.map ZE).Nodup=false->ZAP l B=9:=λh h2 h3=>by unfold ZAP;rw[if_pos h,if_neg (by simp[h2]),h3];rfl
 have hok:l.all Jj=true->B=0->(l.map ZE).Nodup->ZAP l B=0:=λh h2 h3=>by unfold ZAP;rw[if_pos h,if_neg (by simp[h2]),ZI h3];rfl
 have hO:=(rfl: [Ob.box [.x (.sl (rows YC T))]].all (Ob.inP (λi=>decide (i< [Ob.box [.x (.sl (rows YC T))]].length)))=true);refine ZH.mcallsX (fC 106 true ?_) WW hO Vi;intro C0 E0;have uu:=ξ5 @ZAB.eq_1 @ZLN.eq_1 @ZQ3.eq_1 @ZQ6.eq_1 @ZFS;have tT:=aT (aQ (aQ (aQ ZB Kh) ZNf) ZSL) ZSR;refine rg [0,1] ?_;refine rg [0,1,11,12,13] ?_;refine WI.orderA [0,1,11,12,13] ?_;refine WI.loop (λφ os=> ∃(j:Nat),φ= [(0,.x (.sl (rows ZC l))),(1,.fn 109 [.ptr 0 0]),(11,.x (.sl (rows ZC l))),(12,.x (.int .i64 l.length)),(13,.x (.int .i64 j))]/\os= [.box [.x (.sl (rows YC T))]]/\j<=l.length/\(l.take j).all Jj=true) (ZJ l.length 13) ?_ (λφ os hI=> ?_)
 .exact W8
 .obtain⟨j,rfl,rfl,hj,hall⟩:=hI;refine rg [0,1,11,12,13,14] ?_;refine cd (λh0=> ?_) (λh0=> ?_)
  .have hj4:j<l.length:=Wl
   have hrw:=KW l j hj4;have hgj:l[j]=l.getD j []:=T3
   have hal:=Yq Jj l j hj4;have hnt:Jj (l.getD j [])=false->l.all Jj=false:=λh=>Zj Jj l j hj4 (by rw[hgj];exact h)
   have hd:=ZI (hn l[j] (YG hj4));rw[hgj]at hal hd;generalize l.getD j []=x at hrw hal hnt hd;have uu:=JJ uu hrw hd;refine rg [0,1,6,11,12,13] ?_;refine rg [0,1,11,12,13,19] ?_;refine cd (λh1=> ?_) (λh1=> ?_)
   .have hxf:Jj x=false:=Wv
    refine Wj ?_;exact⟨by rw[hno (hnt hxf)],_,rfl⟩
   .have hxt:Jj x=true:=Wv
    have hall2:(l.take (j+1)).all Jj=true:=by rw[hal,hall,hxt];rfl
    refine rg [0,1,11,12,13] ?_;exact Te
  .obtain rfl:j=l.length:=Wl
   rw[JX]at hall;refine rg [0,7] ?_;refine rg [0,7,24] ?_;refine cd (λh2=> ?_) (λh2=> ?_)
   .have hB0: ¬B=0:=Nm
    refine Wj ?_;exact⟨by rw[hbb hall hB0,hB],_,rfl⟩
   .have hB0:B=0:=Nm
    refine rg [0,8] ?_;refine rg [8,27,28,29] ?_;refine WI.orderA [8,27,28,29] ?_;refine WI.loop (λφ os=> ∃(j:Nat),φ= [(8,.mref 1),(27,.x (.sl (rows ZC l))),(28,.x (.int .i64 l.length)),(29,.x (.int .i64 j))]/\os= [.box [.x (.sl (rows YC T))],.mpo .str false (snM ((l.take j).map ZE))]/\j<=l.length/\((l.take j).map ZE).Nodup) (ZJ l.length 29) ?_ (λφ os hI=> ?_)
    .exact UJ
    .obtain⟨j,rfl,rfl,hj,hnd⟩:=hI;refine rg [8,27,28,29,30] ?_;refine cd (λh3=> ?_) (λh3=> ?_)
     .have hj4:j<l.length:=Wl
      have hrw:=KW l j hj4;have hd:=ZI (show(l.getD j []).length<=140737488355328 by rw[show l.getD j []=l[j] by simp[hj4]];have:=hn _ (YG hj4);omega);have uu:=JJ uu hrw hd;refine rg [8,10,27,28,29] ?_;by_cases hin:ZE (l.getD j [])∈(l.take j).map ZE
      .have hg1:=ZE9 hin;have hcp:=ZXY.2 hin;have uu:=Zz uu hg1;refine rg [8,10,27,28,29,37] ?_;refine ct (λh4=> ?_) (λh4=> ?_)
       .refine Wj ?_;exact⟨by rw[hdu hall hB0 (ZY6 hj4 hin)],_,rfl⟩
       .exact G8
      .have hg1:=ZGr hin;have hg2:=ZIM hin;have uu:=JJ uu hg1 hg2;refine rg [8,10,27,28,29,37] ?_;refine ce (λh4=> ?_) (λh4=> ?_)
       .simp at h4
       .refine rg [8,27,28,29] ?_;have hnd2:((l.take (j+1)).map ZE).Nodup:=by
         exact Gz
        exact Xa
     .refine Wj ?_;exact⟨by rw[YO J0]at hnd;rw[hok hall hB0 hnd],_,rfl⟩
theorem ZbG(l:List Tx)(hl:l.length<=100000)(hn: ∀x∈l,x.length<=1000000):ZK Tryz.prog 106 [.x (.sl (rows ZC l)),.fn 112 []] (.x (.int .i64 (ZAP l 0))):=by
 obtain⟨B,hB⟩: ∃B,B=(0:Int):=⟨_,rfl⟩;rw[<-hB];have hno:l.all Jj=false->ZAP l B=13:=λh=>by unfold ZAP;rw[h];rfl
 have hbb:l.all Jj=true->B≠0->ZAP l B=B:=λh h2=>by unfold ZAP;rw[if_pos h,if_pos h2]
 have hdu:l.all Jj=true->B=0->decide (l.map ZE).Nodup=false->ZAP l B=9:=λh h2 h3=>by unfold ZAP;rw[if_pos h,if_neg (by simp[h2]),h3];rfl
 have hok:l.all Jj=true->B=0->(l.map ZE).Nodup->ZAP l B=0:=λh h2 h3=>by unfold ZAP;rw[if_pos h,if_neg (by simp[h2]),ZI h3];rfl
 refine ZH.pure (fC 106 true ?_) rfl;intro C0 E0;have uu:=Qt @ZAB.eq_1 @ZLN.eq_1 @ZQ3.eq_1 @ZQ6.eq_1;have tT:=aT (aQ (aQ (aQ ZB Kh) ZNf) ZSL) ZSR;refine rg [0,1] ?_;refine rg [0,1,11,12,13] ?_;refine WI.orderA [0,1,11,12,13] ?_;refine WI.loop (λφ os=> ∃(j:Nat),φ= [(0,.x (.sl (rows ZC l))),(1,.fn 112 []),(11,.x (.sl (rows ZC l))),(12,.x (.int .i64 l.length)),(13,.x (.int .i64 j))]/\os= []/\j<=l.length/\(l.take j).all Jj=true) (ZJ l.length 13) ?_ (λφ os hI=> ?_)
 .exact W8
 .obtain⟨j,rfl,rfl,hj,hall⟩:=hI;refine rg [0,1,11,12,13,14] ?_;refine cd (λh0=> ?_) (λh0=> ?_)
  .have hj4:j<l.length:=Wl
   have hrw:=KW l j hj4;have hgj:l[j]=l.getD j []:=T3
   have hal:=Yq Jj l j hj4;have hnt:Jj (l.getD j [])=false->l.all Jj=false:=λh=>Zj Jj l j hj4 (by rw[hgj];exact h)
   have hd:=ZI (hn l[j] (YG hj4));rw[hgj]at hal hd;generalize l.getD j []=x at hrw hal hnt hd;have uu:=JJ uu hrw hd;refine rg [0,1,6,11,12,13] ?_;refine rg [0,1,11,12,13,19] ?_;refine cd (λh1=> ?_) (λh1=> ?_)
   .have hxf:Jj x=false:=Wv
    refine Wj ?_;rw[hno (hnt hxf)]
   .have hxt:Jj x=true:=Wv
    have hall2:(l.take (j+1)).all Jj=true:=by rw[hal,hall,hxt];rfl
    refine rg [0,1,11,12,13] ?_;exact Te
  .obtain rfl:j=l.length:=Wl
   rw[JX]at hall;refine rg [0,7] ?_;refine rg [0,7,24] ?_;refine cd (λh2=> ?_) (λh2=> ?_)
   .have hB0: ¬B=0:=Nm
    refine Wj ?_;rw[hbb hall hB0,hB]
   .have hB0:B=0:=Nm
    refine rg [0,8] ?_;refine rg [8,27,28,29] ?_;refine WI.orderA [8,27,28,29] ?_;refine WI.loop (λφ os=> ∃(j:Nat),φ= [(8,.mref 0),(27,.x (.sl (rows ZC l))),(28,.x (.int .i64 l.length)),(29,.x (.int .i64 j))]/\os= [.mpo .str false (snM ((l.take j).map ZE))]/\j<=l.length/\((l.take j).map ZE).Nodup) (ZJ l.length 29) ?_ (λφ os hI=> ?_)
    .exact UJ
    .obtain⟨j,rfl,rfl,hj,hnd⟩:=hI;refine rg [8,27,28,29,30] ?_;refine cd (λh3=> ?_) (λh3=> ?_)
     .have hj4:j<l.length:=Wl
      have hrw:=KW l j hj4;have hd:=ZI (show(l.getD j []).length<=140737488355328 by rw[show l.getD j []=l[j] by simp[hj4]];have:=hn _ (YG hj4);omega);have uu:=JJ uu hrw hd;refine rg [8,10,27,28,29] ?_;by_cases hin:ZE (l.getD j [])∈(l.take j).map ZE
      .have hg1:=ZE9 hin;have hcp:=ZXY.2 hin;have uu:=Zz uu hg1;refine rg [8,10,27,28,29,37] ?_;refine ct (λh4=> ?_) (λh4=> ?_)
       .refine Wj ?_;rw[hdu hall hB0 (ZY6 hj4 hin)]
       .exact G8
      .have hg1:=ZGr hin;have hg2:=ZIM hin;have uu:=JJ uu hg1 hg2;refine rg [8,10,27,28,29,37] ?_;refine ce (λh4=> ?_) (λh4=> ?_)
       .simp at h4
       .refine rg [8,27,28,29] ?_;have hnd2:((l.take (j+1)).map ZE).Nodup:=by
         exact Gz
        exact Xa
     .refine Wj ?_;rw[YO J0]at hnd;rw[hok hall hB0 hnd]
def smN(l:List Tx):Prop:=l.length<=100000/\ ∀x∈l,x.length<=1000000
instance (l:List Tx):Decidable (smN l):=inferInstanceAs (Decidable (_/\_))
def ZTU:J8->J5
 | [.x (.sl R),.fn 108 []]=>(ZM YC R).bind λl=>some (decide (l.length<=100000),.x (.sl (rows ZC (l.map (·.1)))))
 |_=>none
theorem ZYf:QK Tryz.prog ZTU 107:=by
 intro args r h;unfold ZTU at h;split at h
 .obtain⟨l,rfl,i0⟩:=un JI h;obtain⟨h1,rfl⟩:=Yu i0;exact(Zfx l h1)
 .cases h
def ZSW:J8->J5
 | [.x (.sl R),.fn 111 []]=>(ZM Yl R).bind λl=>some (decide (l.length<=100000),.x (.sl (rows ZC (l.map (·.1)))))
 |_=>none
theorem ZXm:QK Tryz.prog ZSW 110:=by
 intro args r h;unfold ZSW at h;split at h
 .obtain⟨l,rfl,i0⟩:=un JT h;obtain⟨h1,rfl⟩:=Yu i0;exact(ZeA l h1)
 .cases h
def ZOi:J8->J7->Option (Bool×D×J7)
 | [.x (.sl R),.fn 109 [.ptr 0 0]],[.box [.x (.sl R2)]]=>(ZM ZC R).bind λl=>(ZM YC R2).bind λT=>some (decide (T.length<=100000/\smN l),.x (.int .i64 (ZAP l (ZJG T))),[.box [.x (.sl (rows YC T))]])
 |_,_=>none
theorem ZVu:TK Tryz.prog ZOi 106:=by
 intro args os r os' h;unfold ZOi at h;split at h
 .obtain⟨l,rfl,i0⟩:=un ZO h;obtain⟨T,rfl,i1⟩:=un JI i0;obtain⟨h1,rfl,rfl⟩:=tn1 i1;exact ZcO T h1.1 l h1.2.1 h1.2.2
 .cases h
def ZOT:J8->J5
 | [.x (.sl R),.fn 112 []]=>(ZM ZC R).bind λl=>some (decide (smN l),.x (.int .i64 (ZAP l 0)))
 |_=>none
theorem ZV7:QK Tryz.prog ZOT 106:=by
 intro args r h;unfold ZOT at h;split at h
 .obtain⟨l,rfl,i0⟩:=un ZO h;obtain⟨h1,rfl⟩:=Yu i0;exact(ZbG l h1.1 h1.2)
 .cases h
theorem ZOB(l:List Tx):ZM ZC (rows ZC l)=some l:=ZX ZO l
theorem ZGP(l:List Zo):ZM Yl (rows Yl l)=some l:=ZX JT l
def ZIx(T:List Zd)(C:List Zo):Int:=if 1024<T.length\/1024<C.length then 3 else if ZAP (T.map (·.1)) (ZJG T)≠0 then ZAP (T.map (·.1)) (ZJG T)else ZAP (C.map (·.1)) 0
def smT(T:List Zd):Prop:=T.length<=100000/\ ∀x∈T,x.1.length<=1000000
def smC(C:List Zo):Prop:=C.length<=100000/\ ∀x∈C,x.1.length<=1000000/\(x.2.1.length<=50000/\ ∀n∈x.2.1,n.length<=140737488355328)/\(x.2.2.1.length<=50000/\ ∀n∈x.2.2.1,n.length<=140737488355328)
instance (T:List Zd):Decidable (smT T):=inferInstanceAs (Decidable (_/\_))
instance (C:List Zo):Decidable (smC C):=inferInstanceAs (Decidable (_/\_))
theorem Zcx(T:List Zd)(C:List Zo)(hT:smT T)(hC:smC C):ZK Tryz.prog 71 [.x (.sl (rows YC T)),.x (.sl (rows Yl C))] (.x (.int .i64 (ZIx T C))):=by
 have hTl:=hT.1;have hCl:=hC.1;have hd1:decide (T.length<=100000/\smN (T.map (·.1)))=true:=ZI ⟨hTl,by rw[smN,YZ];exact⟨hTl,λx hx=>by obtain⟨t,ht,rfl⟩:=YR.1 hx;exact hT.2 t ht⟩⟩;have hd2:decide (smN (C.map (·.1)))=true:=ZI (by rw[smN,YZ];exact⟨hCl,λx hx=>by obtain⟨t,ht,rfl⟩:=YR.1 hx;exact(hC.2 t ht).1⟩);have hd3:=ZI hTl;have hd4:=ZI hCl;rcases hres:ZIx T C with v
 unfold ZIx at hres;refine ZH.pure (fC 71 true ?_) rfl;intro C0 E0;have uu:=ξ9 @ZTU.eq_1 @ZSW.eq_1 @ZOi.eq_1 @ZOT.eq_1 @ZFS @ZOB @ZGP hd1 (JJ hd2 hd3 hd4);have tT:=aQ (aT (aQ (aQ ZB ZYf) ZXm) ZVu) ZV7;refine rg [1,2] ?_;refine rg [1,2,13] ?_;refine cd (λh0=> ?_) (λh0=> ?_)
 .rw[if_pos Wv]at hres;exact UK
 .rw[if_neg Wv]at hres;refine rg [1,5] ?_;refine rg [1,5,19] ?_;refine cd (λh1=> ?_) (λh1=> ?_)
  .rw[if_pos WC]at hres;exact UK
  .rw[if_neg WC]at hres;exact UK
def ZOy:J8->J5
 | [.x (.sl R),.x (.sl R2)]=>(ZM YC R).bind λT=>(ZM Yl R2).bind λC=>some (decide (smT T/\smC C),.x (.int .i64 (ZIx T C)))
 |_=>none
theorem ZW3:QK Tryz.prog ZOy 71:=by
 intro args r h;unfold ZOy at h;split at h
 .obtain⟨T,rfl,i0⟩:=un JI h;obtain⟨C,rfl,i1⟩:=un JT i0;obtain⟨h1,rfl⟩:=Yu i1;exact(Zcx T C h1.1 h1.2)
 .cases h
theorem ZSX{α:Type}(f:α->Tx)(l:List α)(d:α)(i:Nat)(h:i<l.length)(hn:(l.map f).Nodup):f (l.getD i d)∉(l.take i).map f:=by
 intro hin;have e:l=l.take i++l.getD i d::l.drop (i+1):=by
  have:=ZBx i l;rw[ξU h]at this;rw[show l.getD i d=l[i] by simp[h]];exact this.symm
 rw[e,Jd,YM]at hn;exact(ZEx.1 hn).2.2 _ hin _ ZAw rfl
theorem ZRo(T:List Zd):(Zw T).map (·.1)=T.map λt=>ZE t.1:=by unfold Zw;rw[Jz];rfl
theorem ZRV(C:List Zo):(YQ C).map (·.1)=C.map λc=>ZE c.1:=by unfold YQ;rw[Jz];rfl
theorem ZhS(T:List Zd)(i:Nat)(h:i<T.length)(hn:(T.map λt=>ZE t.1).Nodup):
  Yo (Jw (Zw (T.take i))) [X.str (ZE (T.getD i ([],0,false,())).1)] [.x (.str (ZE (T.getD i ([],0,false,())).1)),.x (.int .i64 (T.getD i ([],0,false,())).2.1),.x (.bool (T.getD i ([],0,false,())).2.2.1)]=Jw (Zw (T.take (i+1))):=by
 have h1:=ZSX (λt:Zd=>ZE t.1) T ([],0,false,()) i h hn;rw[<-ZRo]at h1;have h2:=Zh8 (Zw (T.take i)) (ZE (T.getD i ([],0,false,())).1) (ZSv (T.getD i ([],0,false,())));rw[ZBR (Jy.2 h1)]at h2;refine Eq.trans h2 ?_;rw[JU h];unfold Zw;rw[Jd];simp[h]
theorem Zhg(C:List Zo)(i:Nat)(h:i<C.length)(hn:(C.map λt=>ZE t.1).Nodup):
  Yo (Jo (YQ (C.take i))) [X.str (ZE (C.getD i ([],[],[],())).1)] [.x (.str (ZE (C.getD i ([],[],[],())).1)),.x (.sl (rows ZC ((C.getD i ([],[],[],())).2.1.map ZE))),.x (.sl (rows ZC ((C.getD i ([],[],[],())).2.2.1.map ZE)))]=Jo (YQ (C.take (i+1))):=by
 have h1:=ZSX (λt:Zo=>ZE t.1) C ([],[],[],()) i h hn;rw[<-ZRV]at h1;have h2:=ZiE (YQ (C.take i)) (ZE (C.getD i ([],[],[],())).1) (ZDJ (C.getD i ([],[],[],())));rw[ZBR (Jy.2 h1)]at h2;refine Eq.trans h2 ?_;rw[JU h];unfold YQ;rw[Jd];simp[h]
theorem ZPx{l:List Tx}{b:Int}(h:ZAP l b=0):l.all Jj=true/\b=0/\(l.map ZE).Nodup:=by
 unfold ZAP at h;split at h
 .split at h
  .omega
  .split at h
   .rename_i h1 h2 h3;exact⟨h1,J0,of_decide_eq_true h3⟩
   .omega
 .omega
theorem ZYe{T:List Zd}{C:List Zo}(h:ZIx T C=0):(T.map λt=>ZE t.1).Nodup/\(C.map λt=>ZE t.1).Nodup:=by
 unfold ZIx at h;split at h
 .omega
 .split at h
  .rename_i h1;exact absurd h h1
  .rename_i h1;have h2:=(ZPx (ZHq.1 h1)).2.2;have h3:=(ZPx h).2.2;rw[Jz]at h2 h3;exact⟨h2,h3⟩
def ZKp(T:List Zd)(c:Zo):Bool:=(c.2.1.map ZE++c.2.2.1.map ZE).all λn=>(ZF (Zw T) (ZE n)).isSome
def ZL6(T:List Zd)(C:List Zo):Int:=if ZIx T C≠0 then ZIx T C else if C.all (ZKp T)=true then(if(ZF (Zw T) (ZE OC)).isSome=true then 0 else 8)else 8
def ZSw:J8->J5
 | [.x (.sl R),.fn 63 []]=>(ZM ZC R).bind λl=>some (decide (l.length<=100000/\ ∀x∈l,x.length<=140737488355328),.x (.sl (rows ZC (l.map ZE))))
 |_=>none
theorem ZXt:QK Tryz.prog ZSw 72:=by
 intro args r h;unfold ZSw at h;split at h
 .obtain⟨l,rfl,i0⟩:=un ZO h;obtain⟨h1,rfl⟩:=Yu i0;exact(ZfR l h1.1 h1.2)
 .cases h
def ZWN:J8->J5
 | [.x (.sl [[.sl R],[.sl R']])]=>(ZM ZC R).bind λa=>(ZM ZC R').map λb=>(decide (a.length<=100000/\b.length<=100000),.x (.sl (rows ZC (a++b))))
 |_=>none
theorem ZUw: ∀args r,ZWN args=some (true,r)->ZK Tryz.prog 73 args r:=by
 intro args r h;unfold ZWN at h;split at h
 .exact U5
 .cases h
abbrev scH(L:List (Tx×Zd))(M:List (Tx×Zo))(c d:Zo):J7:= [.box [.mref 1,.mref 2],.mpo .str true (Jw L),.mpo .str true (Jo M),.box [.x (.str c.1),.x (.sl (rows ZC c.2.1)),.x (.sl (rows ZC c.2.2.1))],.box [.x (.str d.1),.x (.sl (rows ZC d.2.1)),.x (.sl (rows ZC d.2.2.1))]]
theorem ZVJ(L:List (Tx×Zd))(M:List (Tx×Zo))(c d:Zo):(scH L M c d).all (Ob.inP (λi=>decide (i<(scH L M c d).length)))=true:=by
 simp[Ob.inP,JE,D.inP,ZA1,ZAu]
set_option maxHeartbeats 4000000 in
theorem ZiV(T:List Zd)(C:List Zo)(hT:smT T)(hC:smC C)(r:D)(OS:J7)(hz:ZL6 T C=0->r= .tup [.ptr 0 0,.x (.int .i64 0)]/\OS=scO (Zw T) (YQ C))(hnz:ZL6 T C≠0->r= .tup [.x .nilp,.x (.int .i64 (ZL6 T C))]/\OS= []):
  ZQ Tryz.prog 38 [.x (.sl (rows YC T)),.x (.sl (rows Yl C))] [] r OS:=by
 have hO:OS.all (Ob.inP (λi=>decide (i<OS.length)))=true:=by
  by_cases h:ZL6 T C=0
  .rw[(hz h).2];exact ZCX _ _
  .rw[(hnz h).2];rfl
 have hTl:=hT.1;have hz':=hz;have hnz':=hnz;have hCl:=hC.1;have hd1:decide (smT T/\smC C)=true:=ZI ⟨hT,hC⟩;rcases hch:ZIx T C with v
 unfold ZL6 at hz hnz;rw[hch]at hz hnz;have hoc:OC= [111,98,106,101,99,116,99,108,97,115,115]:=rfl;have hR:r.inP (λi=>decide (i<OS.length))=true:=by
  by_cases h:ZL6 T C=0
  .rw[(hz' h).1,(hz' h).2];rfl
  .rw[(hnz' h).1,(hnz' h).2];rfl
 refine ZH.mcallsX (fC 38 true ?_) WW hO Vi;intro C0 E0;have uu:=ξ9 @ZOy.eq_1 @ZAB.eq_1 @ZSw.eq_1 @ZWN.eq_1 @ZWN.eq_2 @ZQ1.eq_1 @ZFS @ZOB (ξ9 @ZGP @ZGD @ZGB hd1 hch @ZCt @ZDE @ZDh (ξ7 @ZDa @ZA1 @ZAu @ZAv @ZDC @ZAR @ZH0.eq_1));have tT:=aT (aT (aQ (aQ (aQ (aQ ZB ZW3) Kh) ZXt) ZUw) (ZCV ZUw)) ZSa;refine rg [0,1] ?_;refine rg [0,1,6] ?_;refine rg [0,1,6,23] ?_;refine cd (λh0=> ?_) (λh0=> ?_)
 .have hv0: ¬v=0:=Vg
  refine WN ?_;obtain⟨rfl,rfl⟩:=(by rw[if_pos hv0]at hnz;exact hnz hv0);exact⟨rfl,[],rfl⟩
 .have hv0:v=0:=Vg
  subst hv0;obtain⟨hnT,hnC⟩:=ZYe hch;rw[if_neg J1]at hz hnz;refine rg [0,1,7] ?_;refine rg [1,7,31,32,33] ?_;refine WI.pickA [2,0,1] ?_;refine WI.orderA [1,7,31,32,33] ?_;refine WI.loop (λφ os=> ∃(i:Nat),φ= [(1,.x (.sl (rows Yl C))),(7,.ptr 0 0),(31,.x (.sl (rows YC T))),(32,.x (.int .i64 T.length)),(33,.x (.int .i64 i))]/\os=scO (Zw (T.take i)) []/\i<=T.length) (ZJ T.length 33) ?_ (λφ os hI=> ?_)
  .exact Vf
  .obtain⟨i,rfl,rfl,hi⟩:=hI;refine rg [1,7,31,32,33,34] ?_;refine cd (λh1=> ?_) (λh1=> ?_)
   .have hi4:i<T.length:=Wl
    have hrw:=ZNw T i hi4;have hst:=ZhS T i hi4 hnT;have hxl:=hT.2 T[i] (YG hi4);rw[show T[i]=T.getD i ([],0,false,()) by simp[hi4]]at hxl;generalize T.getD i ([],0,false,())=x at hrw hst hxl;have hd47:decide (x.1.length<=140737488355328)=true:=ZI J0;have uu:=Qt uu hrw hst hd47;refine rg [1,7,9,31,32,33] ?_;refine rg [1,7,9,31,32,33] ?_;refine WI.dregB tT [1,7,31,32,33] ?_
    refine Wo ?_;refine Wo ?_;refine Td ?_;refine Zb ?_;refine Qx ?_;refine VJ ?_;refine WI.orderA [1,7,31,32,33] ?_;refine WI.dropT (scO (Zw (T.take (i+1))) []) _ rfl J1 (ZCX _ _) Tt ?_;refine rg [1,7,31,32,33] ?_;exact⟨⟨i+1,rfl,rfl,J0⟩,Wa⟩
   .obtain rfl:i=T.length:=Wl
    rw[JX];generalize hL:Zw T=L at hz hnz|-;refine rg [7,51,52,53] ?_;refine WI.loop (λφ os=> ∃(i:Nat),φ= [(7,.ptr 0 0),(51,.x (.sl (rows Yl C))),(52,.x (.int .i64 C.length)),(53,.x (.int .i64 i))]/\os=scO L (YQ (C.take i))/\i<=C.length/\(C.take i).all (ZKp T)=true) (ZJ C.length 53) ?_ (λφ os hI=> ?_)
    .exact W8
    .obtain⟨i,rfl,rfl,hi,hall⟩:=hI;refine rg [7,51,52,53,54] ?_;refine cd (λh2=> ?_) (λh2=> ?_)
     .have hi4:i<C.length:=Wl
      have hrw:=ZTc C i hi4;have hst:=Zhg C i hi4 hnC;have hal:=Yq (ZKp T) C i hi4;have hgi:C[i]=C.getD i ([],[],[],()):=G9
      have hno:ZKp T (C.getD i ([],[],[],()))=false->C.all (ZKp T)=false:=λh=>Zj (ZKp T) C i hi4 (by rw[hgi];exact h)
      have hxl:=hC.2 C[i] (YG hi4);rw[hgi]at hxl hal;generalize C.getD i ([],[],[],())=x at hrw hst hxl hal hno;obtain⟨hx1,hx2,hx3⟩:=hxl;have hst2:Yo (Jo (YQ (C.take i))) [X.str (ZDJ x).1] [.x (.str (ZDJ x).1),.x (.sl (rows ZC (ZDJ x).2.1)),.x (.sl (rows ZC (ZDJ x).2.2.1))]=Jo (YQ (C.take (i+1))):=hst;have hd47:decide (x.1.length<=140737488355328)=true:=ZI J0;have hd48:decide (x.2.1.length<=100000/\ ∀n∈x.2.1,n.length<=140737488355328)=true:=ZI ⟨J0,hx2.2⟩;have hd49:decide (x.2.2.1.length<=100000/\ ∀n∈x.2.2.1,n.length<=140737488355328)=true:=ZI ⟨J0,hx3.2⟩;have hl1:(x.2.1.map ZE).length<=50000:=by rw[YZ];exact hx2.1
      have hl2:(x.2.2.1.map ZE).length<=50000:=by rw[YZ];exact hx3.1
      have hct:ZKp T x=(x.2.1.map ZE++x.2.2.1.map ZE).all λn=>(ZF L (ZE n)).isSome:=by rw[<-hL];rfl
      have hln: ∀n∈x.2.1.map ZE++x.2.2.1.map ZE,n.length<=140737488355328:=λn hn=>by
       rcases KV.1 hn with h|h
       .obtain⟨y,hy,rfl⟩:=YR.1 h;rw[ZEy];exact hx2.2 y hy
       .obtain⟨y,hy,rfl⟩:=YR.1 h;rw[ZEy];exact hx3.2 y hy
      have hd50:decide ((x.2.1.map ZE).length<=100000/\(x.2.2.1.map ZE).length<=100000)=true:=ZI ⟨J0,J0⟩;have uu:=ξ7 uu hrw hst2 hd47 hd48 hd49 hd50;refine rg [7,11,51,52,53] ?_;refine WI.dregB tT [7,12,51,52,53] ?_;refine Vn ?_;refine dQC ?_;refine Vn ?_;refine dQC ?_;refine Vn ?_;refine dQC ?_;refine Zm ?_;refine dKG ?_;refine Qx ?_;refine dN ?_;refine rg [7,12,51,52,53,72,73,74] ?_;refine NR ?_;generalize hN:x.2.1.map ZE++x.2.2.1.map ZE=N at hct hln|-;have hNl:N.length<=100000:=by rw[<-hN,ZW];omega
      refine WI.loop (λφ os=> ∃(k:Nat),φ= [(7,.ptr 0 0),(12,.ptr 4 0),(51,.x (.sl (rows Yl C))),(52,.x (.int .i64 C.length)),(53,.x (.int .i64 i)),(72,.x (.sl (rows ZC N))),(73,.x (.int .i64 N.length)),(74,.x (.int .i64 k))]/\os=scH L (YQ (C.take i)) x (ZDJ x)/\k<=N.length/\(N.take k).all (λn=>(ZF L (ZE n)).isSome)=true) (ZJ N.length 74) ?_ (λφ os hI=> ?_)
      .exact W8
      .obtain⟨k,rfl,rfl,hk,hka⟩:=hI;refine rg [7,12,51,52,53,72,73,74,75] ?_;refine cd (λh3=> ?_) (λh3=> ?_)
       .have hk4:k<N.length:=Wl
        have hrk:=KW N k hk4;have hgk:N[k]=N.getD k []:=by simp[hk4]
        have hak:=Yq (λn=>(ZF L (ZE n)).isSome) N k hk4;have hnk:(ZF L (ZE (N.getD k []))).isSome=false->N.all (λn=>(ZF L (ZE n)).isSome)=false:=λh=>Zj (λn=>(ZF L (ZE n)).isSome) N k hk4 (by rw[hgk];exact h)
        have hnl:=hln N[k] (YG hk4);rw[hgk]at hak hnl;generalize N.getD k []=y at hrk hak hnk hnl;have hdy:=ZI hnl;have uu:=Qt uu hrk hdy @tyD.eq_1;refine rg [7,12,14,51,52,53,72,73,74] ?_;refine rg [7,12,16,51,52,53,72,73,74] ?_;refine rg [7,12,51,52,53,72,73,74,88] ?_;refine cd (λh4=> ?_) (λh4=> ?_)
        .have hys:(ZF L (ZE y)).isSome=false:=Wv
         rw[hno (by rw[hct];exact hnk hys)]at hnz;refine WN ?_;obtain⟨rfl,rfl⟩:=hnz J1;exact Gn
        .have hys:(ZF L (ZE y)).isSome=true:=Wv
         have hka2:(N.take (k+1)).all (λn=>(ZF L (ZE n)).isSome)=true:=by rw[hak,hka,hys];rfl
         refine NR ?_;refine rg [7,12,51,52,53,72,73,74] ?_;exact⟨⟨k+1,rfl,rfl,J0,hka2⟩,Wa⟩
       .obtain rfl:k=N.length:=Wl
        rw[JX]at hka;rw[hka]at hct;have hall2:(C.take (i+1)).all (ZKp T)=true:=by rw[hal,hall,hct];rfl
        refine WI.dregB tT [7,51,52,53] ?_;refine Wo ?_;refine Wo ?_;refine WE ?_;refine Zb ?_;refine Qx ?_;refine VJ ?_;refine WI.orderA [7,51,52,53] ?_;refine WI.dropT (scO L (YQ (C.take (i+1)))) _ rfl J1 (ZCX _ _) Tt ?_;refine rg [7,51,52,53] ?_;exact VZ
     .obtain rfl:i=C.length:=Wl
      rw[JX]at hall|-;rw[hall,if_pos rfl,hoc]at hz hnz;refine WI.orderA [7] ?_;have uu:=Zz uu @tyD.eq_1;refine rg [7,18] ?_;refine rg [7,108] ?_;refine cd (λh5=> ?_) (λh5=> ?_)
      .have hys: ¬(ZF L (ZE [111,98,106,101,99,116,99,108,97,115,115])).isSome=true:=Wv
       rw[if_neg hys]at hnz;refine WN ?_;obtain⟨rfl,rfl⟩:=hnz J1;exact Gn
      .have hys:(ZF L (ZE [111,98,106,101,99,116,99,108,97,115,115])).isSome=true:=Wv
       rw[if_pos hys]at hz;refine WN ?_;obtain⟨rfl,rfl⟩:=hz rfl;exact Gn
def igT(n:Tx):Zd:=(n,1,false,())
theorem ZaD(a b:List Zd):rows YC (a++b)=rows YC a++rows YC b:=Jd
theorem Zin(l:List Tx)(hl:l.length<=1000):ZQ Tryz.prog 37 [.ref 0 l.length 0 l.length] [.rows false 9 1 (rows ZC l)] (.ref 1 l.length 0 l.length) [.rows false 9 1 (rows ZC l),.rows false 82 3 (rows YC (l.map igT))]:=by
 have hO: [Ob.rows false 9 1 (rows ZC l),.rows false 82 3 (rows YC (l.map igT))].all (Ob.inP (λi=>decide (i< [Ob.rows false 9 1 (rows ZC l),.rows false 82 3 (rows YC (l.map igT))].length)))=true:=rfl;refine ZH.mcalls (fC 37 false ?_);intro C0 E0;have uu:=trivial;have tT:=(ZB:SsOk Tryz.prog YH);refine VD ?_;refine rg [3,6,7,8] ?_;refine WI.ownA 3 82 3 ?_;refine WI.orderA [3,6,7,8] ?_;refine WI.loop (λφ os=> ∃(j:Nat),φ= [(3,.ref 1 ((l.take j).map igT).length 0 ((l.take j).map igT).length),(6,.ref 0 l.length 0 l.length),(7,.x (.int .i64 l.length)),(8,.x (.int .i64 j))]/\os= [.rows false 9 1 (rows ZC l),.rows false 82 3 (rows YC ((l.take j).map igT))]/\j<=l.length) (ZJ l.length 8) ?_ (λφ os hI=> ?_)
 .exact Vf
 .obtain⟨j,rfl,rfl,hj⟩:=hI;refine rg [3,6,7,8,9] ?_;refine cd (λh0=> ?_) (λh0=> ?_)
  .have hj4:j<l.length:=Wl
   have hrw:=KW l j hj4;have htk:(l.take (j+1)).map igT=(l.take j).map igT++ [igT (l.getD j [])]:=Tj
   have hlen:((l.take j).map igT).length<=1000:=T7
   generalize l.getD j []=x at hrw htk;have uu:=Zz uu hrw;refine rg [3,5,6,7,8] ?_;refine rg [3,6,7,8] ?_;refine WI.pickA [0,1] ?_;refine rg [3,6,7,8] ?_;exact⟨⟨j+1,by rw[htk,ZW];rfl,by rw[htk,ZaD];rfl,J0⟩,Wa⟩
  .obtain rfl:j=l.length:=Wl
   rw[JX];refine Wy ?_;exact⟨by rw[YZ],rfl⟩
end Go.Proofs.YtiogclkbccdefaaGreatDoor
end
