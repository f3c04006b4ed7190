import Derived.Test.YtiogclkbccdefaaGreatDoorMA1
import Derived.Test.YtiogclkbccdefaaGreatDoorMA2
import Derived.Test.YtiogclkbccdefaaGreatDoorLA5
import Derived.Test.YtiogclkbccdefaaGreatDoorSh
import Derived.Sort.KeysCollected
import Derived.Shelf.SlIter.Sorted
set_option linter.unusedSimpArgs false
set_option linter.unusedVariables false
set_option maxRecDepth 100000
theorem Ws{A B:Prop}(hZ:A)(k:Go.Ab.Bx A->B:=by(intro hZ;refine Zn ?_;refine Zn ?_;refine dKG ?_;refine Qj ?_;refine ZU ?_;refine dN ?_;exact hZ.h)):B:=k ⟨hZ⟩
theorem Wt{p:Prop}(h:p:=by first|exact se|(clear uu;grind)|(rcases s with _|⟨c,r⟩<;>simp;done)|exact sd):p:=h
theorem W7{A B:Prop}(hZ:A)(k:Go.Ab.Bx A->B:=by(intro hZ;refine Zn ?_;refine Zd ?_;refine Zn ?_;refine Zd ?_;refine Zn ?_;exact hZ.h)):B:=k ⟨hZ⟩
theorem W8{A B:Prop}(hZ:A)(k:Go.Ab.Bx A->B:=by(intro hZ;refine rg [4,5] ?_;refine lf ?_;exact hZ.h)):B:=k ⟨hZ⟩
theorem W9{p:Prop}(h:p:=by refine WI.orderA [0,6,7,31,32,33] ?_;refine WI.dropT (scE L M dn l (Qk (l.take i)++ [ZE a.1])) _ rfl J1 (ZLY L M dn l _) (by simp[D.inP,JB]) ?_;refine rg [0,6,7,31,32,33] ?_;exact⟨⟨i+1,by rw[hct];first|done|rfl,by rw[hnt],J0⟩,Wa⟩):p:=h
theorem WS{p:Prop}(h:p:=by first|decide|(simp;done)):p:=h
theorem Vk{p:Prop}(h:p:=by first|rfl|exact hR):p:=h
theorem Vl{A B:Prop}(hZ:A)(k:Go.Ab.Bx A->B:=by(intro hZ;refine Wn ?_;refine Zd ?_;refine Zn ?_;refine ZU ?_;refine Zn ?_;exact hZ.h)):B:=k ⟨hZ⟩
theorem Vq{p:Prop}(h:p:=by refine rg [1,5,7,8,9,10] ?_;refine rg [1,5,8,9,10] ?_;refine WI.pickA [0] ?_;refine rg [1,5,8,9,10] ?_;exact⟨⟨j+1,by rw[htk,ZW];rfl,by rw[htk,ZDL],J0⟩,Wa⟩):p:=h
theorem Vs{p:Prop}(h:p:=by rw[show l.getD i ([],[],())=l[i] by simp[hi4]];exact YK hi4):p:=h
theorem V2{A B:Prop}(hZ:A)(k:Go.Ab.Bx A->B:=by(intro hZ;refine Vl ?_;refine W7 ?_;refine Zd ?_;refine Vc ?_;refine dN ?_;exact hZ.h)):B:=k ⟨hZ⟩
theorem V4{A B:Prop}(hZ:A)(k:Go.Ab.Bx A->B:=by(intro hZ;refine rg [0,3,7,11,12] ?_;refine rg [0,3,8,11,12] ?_;refine rg [0,3,8,11,12,20] ?_;exact hZ.h)):B:=k ⟨hZ⟩
theorem VQ{p:Prop}(h:p:=by first|exact⟨l.length+1,_,.nils,rfl,rfl,by rw[ZK0 _ _ _ (by rw[ZQ];exact hpl),ZQ];rfl,J0,(ZOZ hh).1,(ZOZ hh).2,hcn hh⟩|exact⟨l.length,_,.sl (rows ZC (YT l n)),rfl,rfl,ZQ _ _,ZCc hh,(ZIk hh).1,(ZIk hh).2,hcy⟩):p:=h
theorem VU{p:Prop}(h:p:=by refine Wj ?_;refine⟨?_,_,rfl⟩;clear uu;grind):p:=h
theorem VW{A B:Prop}(hZ:A)(k:Go.Ab.Bx A->B:=by(intro hZ;refine rg [4] ?_;refine WI.nnA ?_;refine lf ?_;exact hZ.h)):B:=k ⟨hZ⟩
theorem VY{A B:Prop}(hZ:A)(k:Go.Ab.Bx A->B:=by(intro hZ;refine rg [0,3,11,12] ?_;refine WI.round ?_;refine rg [0,3,11,12,13] ?_;exact hZ.h)):B:=k ⟨hZ⟩
theorem Uc{p:Prop}(h:p:=by exact⟨⟨i+1,rfl,rfl,J0,hall2⟩,Wa⟩):p:=h
theorem Uh{p:Prop}(h:p:=by refine ZU ?_;refine dQC ?_;refine Zd ?_;refine ZU ?_;refine Ws ?_;refine W8 ?_;exact⟨rfl,_,rfl⟩):p:=h
theorem Up{p:Prop}(h:p:=by refine rg [0,3,4] ?_;exact⟨⟨j+1,_,rfl,rfl,J0,by first|omega|(rw[ZW];simp;omega),hs2⟩,Wa⟩):p:=h
theorem U8{p:Prop}(h:p:=by rename_i R R';obtain⟨a,h1,h⟩:=Zg h;obtain⟨b,h2,h3⟩:=Zc h;simp only[YP,Yl]at h3;obtain⟨h4,rfl⟩:=h3;rw[<-Yo ZP h1,<-Yo ZP h2];exact ZT8 a b h4.1 h4.2):p:=h
theorem UA{p:Prop}(h:p:=by have uu:=JL uu hg2 hg3;refine rg [0,6,7,11,14,51,52,53,66,67,68] ?_;refine rg [0,6,7,11,14,51,52,53,66,67,68] ?_;exact⟨⟨k+1,rfl,by rw[htk],J0,hka2⟩,Wa⟩):p:=h
theorem UN{p:Prop}(h:p:=by refine Wj ?_;rw[hres]):p:=h
theorem UR{p:Prop}(h:p:=by have uu:=JL uu hg2 hg3;refine rg [0,6,7,11,51,52,53,82,83,84] ?_;refine rg [0,6,7,11,51,52,53,82,83,84] ?_;exact⟨⟨k+1,rfl,by rw[htk],J0⟩,Wa⟩):p:=h
theorem Tg{p:Prop}(h:p:=by rw[hfr,show k+1+(i-k)=i+1 by omega];refine WI.orderA [0,4,5] ?_;refine rg [0,4,5] ?_;exact⟨⟨i+1,ZDk P o,rfl,rfl,J0,hso,hall2⟩,Wa⟩):p:=h
theorem Th{p:Prop}(h:p:=by exact⟨⟨j+1,rfl,rfl,J0,hall2⟩,Wa⟩):p:=h
theorem Tn{p:Prop}(h:p:=by rw[JW hj4,Jj];simp[hj4]):p:=h
theorem Tv{A B:Prop}(hZ:A)(k:Go.Ab.Bx A->B:=by(intro hZ;refine WI.skip ?_;refine ZA ?_;exact hZ.h)):B:=k ⟨hZ⟩
theorem Tw{p:Prop}(h:p:=by simp[D.inP,JB]):p:=h
theorem TO{p:Prop}(h:p:=by rw[show l.getD j []=l[j] by simp[hj4]];exact YK hj4):p:=h
theorem TQ{p:Prop}(h:p:=by first|exact⟨⟨j+1,by rw[hst,ZW];rfl,by rw[hst,ZVT],J0⟩,Wa⟩|exact⟨⟨j+1,by rw[hst];rfl,by rw[hst],J0⟩,Wa⟩):p:=h
theorem Gd{A B:Prop}(hZ:A)(k:Go.Ab.Bx A->B:=by(intro hZ;refine WI.freezeA [0] ?_;refine WI.pickA [] ?_;refine lf ?_;exact hZ.h)):B:=k ⟨hZ⟩
theorem Gn{p:Prop}(h:p:=by exact⟨rfl,_,rfl⟩):p:=h
theorem Gr{p:Prop}(h:p:=by rw[show l.getD j ([],[],())=l[j] by simp[show j<l.length by omega]];exact hb _ (YK _)):p:=h
theorem Gs{p:Prop}(h:p:=by rw[ZLn hj4,ZFC];exact⟨hnd,J1,λa ha b hb=>by simp only[ZAM]at hb;subst hb;rintro rfl;exact hin ha⟩):p:=h
theorem Gt{p:Prop}(h:p:=by rename_i h;have hp:=ZCc h;rw[show l.getD (Za l n) ([],[],())=l[Za l n] by simp[hp]];exact hb _ (YK hp)):p:=h
theorem G7{p:Prop}(h:p:=by first|exact h4 (ZXC.2 hcp)|exact(of_decide_eq_false h4) (ZXC.2 hcp)|(simp at h4;exact absurd hcp J0)):p:=h
theorem GQ{A B:Prop}(hZ:A)(k:Go.Ab.Bx A->B:=by(intro hZ;refine rg [0,4,5,6,7,8] ?_;refine rg [0,4,5,6,7,8] ?_;refine rg [0,4,5,7,8] ?_;refine rg [0,5,8] ?_;refine rgp [0,4,5] ?_;refine Jg [2] ?_;exact hZ.h)):B:=k ⟨hZ⟩
theorem Nn{p:Prop}(h:p:=by clear uu;subst hB;grind):p:=h
theorem N2{p:Prop}(h:p:=by rw[if_pos (by rw[hoc];simpa using h3)]at hct;refine rg [0,6,7,31,32,33] ?_;exact W9):p:=h
theorem N6{p:Prop}(h:p:=by have:=ZBb j l;rw[ξW h]at this;rw[show l.getD j []=l[j] by simp[h]];exact this.symm):p:=h
theorem NE{p:Prop}(h:p:=by unfold okS;exact decide_eq_false (λe=>by rw[e]at h0;simp at h0)):p:=h
theorem NO{p:Prop}(h:p:=by rw[hw];have:= @ZXi (s.getD (j+1) 0);clear uu hso hda hsl;grind):p:=h
theorem NS{A B:Prop}(hZ:A)(k:Go.Ab.Bx A->B:=by(intro hZ;refine WI.orderA [7,12,51,52,53,72,73,74] ?_;refine WI.dropT (scH L (YE (C.take i)) x (ZDX x)) _ rfl J1 (ZV7 _ _ _ _) Tw ?_;exact hZ.h)):B:=k ⟨hZ⟩
theorem NZ{p:Prop}(h:p:=by refine rg [8,27,28,29] ?_;exact⟨⟨j+1,rfl,by rw[ZLn hj4],J0,hnd2⟩,Wa⟩):p:=h
theorem Xd{A B:Prop}(hZ:A)(k:Go.Ab.Bx A->B:=by(intro hZ;refine dQC ?_;refine ZU ?_;refine Ws ?_;exact hZ.h)):B:=k ⟨hZ⟩
theorem Xe{p:Prop}(h:p:=by have:=ZEp l l.length (Zr _);rw[ZEx]at this;have:=h.1;omega):p:=h
theorem Xs{A B:Prop}(hZ:A)(k:Go.Ab.Bx A->B:=by(intro hZ;refine WI.seq ?_;refine WI.seq ?_;exact hZ.h)):B:=k ⟨hZ⟩
theorem X2{A B:Prop}(hZ:A)(k:Go.Ab.Bx A->B:=by(intro hZ;refine Wn ?_;refine Zd ?_;refine WX ?_;exact hZ.h)):B:=k ⟨hZ⟩
theorem X4{p:Prop}(h:p:=by unfold ZAW;rw[if_pos h,if_neg (by simp[h2]),ZI h3];rfl):p:=h
theorem XA{p:Prop}(h:p:=by refine rg [8] ?_;refine lf ?_;rw[List.any_eq_true.2 ⟨x,hmem,ZI hx⟩]):p:=h
theorem XC{p:Prop}(h:p:=by exact⟨⟨k+1,rfl,rfl,J0,hka2⟩,Wa⟩):p:=h
theorem XO{p:Prop}(h:p:=by unfold ZAW;rw[if_pos h,if_neg (by simp[h2]),h3];rfl):p:=h
theorem XP{p:Prop}(h:p:=by simp[rows,hj4,ZC]):p:=h
theorem XQ{p:Prop}(h:p:=by rw[show V.getD j []=V[j] by simp[hj4]];exact YK hj4):p:=h
theorem XU{p:Prop}(h:p:=by exact⟨by rw[hres],_,rfl⟩):p:=h
theorem XY{A B:Prop}(hZ:A)(k:Go.Ab.Bx A->B:=by(intro hZ;refine VS ?_;refine rg [1,5,8,9,10] ?_;refine WI.ownA 5 9 1 ?_;exact hZ.h)):B:=k ⟨hZ⟩
theorem HP{p:Prop}(h:p:=by simp[hk4]):p:=h
theorem HT{p:Prop}(h:p:=by rw[hgi];exact h):p:=h
theorem Mg{p:Prop}(h:p:=by have:=ZHl l l.length (Zr _);rwa [ZEx]at this):p:=h
section
namespace Go.Proofs.YtiogclkbccdefaaGreatDoor
open Go.RowKit Go.Bo Go.Ab
theorem Zev(s:List UInt8):ZE (ZE s)=ZE s:=by
 unfold ZE;rw[Jv];refine ZBz λc _=> ?_
 show Qf (Qf c)=Qf c;by_cases h:65<=c.toNat/\c.toNat<=90
 .have:=ZIe h;exact ZFO J0
 .rw[ZFO h,ZFO h]
theorem ZUw(c:UInt8):Qf c=32↔c=32:=by
 by_cases h:65<=c.toNat/\c.toNat<=90
 .have h1:=ZIe h;constructor
  .intro e;rw[e]at h1;simp at h1;omega
  .rintro rfl;simp at h
 .rw[ZFO h]
theorem ZVY: ∀s,QF 32 (ZE s)=(QF 32 s).map ZE
 | []=>rfl
 |b::l=>by
  have ih:=ZVY l;show QF 32 (Qf b::ZE l)=_;unfold QF;by_cases h:b=32
  .rw[if_pos ((ZUw b).2 h),if_pos h,ih];rfl
  .rw[if_neg (λk=>h ((ZUw b).1 k)),if_neg h,ih];cases QF 32 l with
   |nil=>rfl
   |cons x r=>rfl
theorem ZaX(s:List UInt8):ZE2 (ZE s)=(ZE2 s).map ZE:=by
 unfold ZE2;rw[ZVY,List.filter_map];congr 1;refine ZX2 λx _=> ?_
 simp[ZE]
theorem ZZa: ∀l:List (List UInt8),jn (l.map ZE)=ZE (jn l)
 | []=>rfl
 | [x]=>rfl
 |x::y::r=>by
  have:=ZZa (y::r);show ZE x++32::jn ((y::r).map ZE)=ZE (x++32::jn (y::r));rw[this];unfold ZE;rw[Jj,YO];rfl
theorem Zgf(s:Tx):blk (ZE s)=ZE (blk s):=by
 show jn (ZE2 (ZE s))=ZE (jn (ZE2 s));rw[ZaX,ZZa]
def stW:Tx->Bool
 | []=>false
 |c::_=> !decide (c=32)
def gB:Bool->Tx->Tx
 |_,[]=> []
 |st,c::r=>if c=32 then(if(st&&stW r)=true then 32::gB st r else gB st r)else c::gB true r
def jW(l:List Tx):Tx:=if l= []then []else 32::jn l
theorem ZU4(x:Tx)(l:List Tx):jn (x::l)=x++jW l:=by
 unfold jW;split
 .rename_i h;subst h;simp[jn]
 .rename_i h;rw[Zex h]
theorem ZVz(r:Tx): ∃h t,QF 32 r=h::t/\(stW r=true↔h≠ []):=by
 rcases r with _|⟨c,r⟩
 .exact⟨[],[],rfl,by simp[stW]⟩
 .unfold QF;by_cases hc:c=32
  .exact⟨[],QF 32 r,by rw[if_pos hc],by simp[stW,hc]⟩
  .rw[if_neg hc];split
   .rename_i x l _;exact⟨c::x,l,rfl,by simp[stW,hc]⟩
   .exact⟨[c],[],rfl,by simp[stW,hc]⟩
theorem ZVF: ∀(s:Tx) (h:Tx) (t:List Tx),QF 32 s=h::t->gB true s=h++jW (t.filter λx=>decide (x≠ []))/\gB false s=jn ((h::t).filter λx=>decide (x≠ []))
 | [],h,t,e=>by
  simp only[QF,ZEt]at e;obtain⟨rfl,rfl⟩:=e;simp[gB,jW,jn]
 |c::r,h,t,e=>by
  obtain⟨h',t',e',hst⟩:=ZVz r;obtain⟨ih1,ih2⟩:=ZVF r h' t' e';by_cases hc:c=32
  .have e2:QF 32 (c::r)= []::QF 32 r:=by rw[QF,if_pos hc]
   rw[e2,e',ZEt]at e;obtain⟨rfl,rfl⟩:=e;unfold gB;rw[if_pos hc,if_pos hc];refine⟨?_,?_⟩
   .by_cases hs:stW r=true
    .have hn:=hst.1 hs;rw[hs,ZAk,if_pos rfl,ih1,QY,ZG1,if_pos (by simpa using hn)]
     conv=>rhs;unfold jW
     rw[if_neg J1,ZU4]
    .have hn:h'= []:=by by_cases hh:h'= [];exact hh;exact absurd (hst.2 hh) hs
     subst hn;rw[if_neg (by simp[hs]),ih1,ZG1];simp
   .rw[ZFD,if_neg WT,ih2];exact congrArg jn (by conv=>rhs;rw[ZG1,if_neg J1])
  .have e2:QF 32 (c::r)=(c::h')::t':=by rw[QF,if_neg hc,e']
   rw[e2,ZEt]at e;obtain⟨rfl,rfl⟩:=e;unfold gB;rw[if_neg hc,if_neg hc,ih1];refine⟨rfl,?_⟩;rw[ZG1,if_pos J1,ZU4];rfl
theorem Zh3(s:Tx):gB false s=blk s:=by
 obtain⟨h,t,e,-⟩:=ZVz s;rw[(ZVF s h t e).2,<-e];rfl
theorem ZWP(s:Tx)(j:Nat)(h:j<s.length):s.drop j=s.getD j 0::s.drop (j+1):=by
 rw[ξW h];simp[h]
theorem ZhS(s:Tx)(j:Nat):stW (s.drop j)=decide (j<s.length/\s.getD j 0≠32):=by
 by_cases h:j<s.length
 .rw[ZWP s j h];simp[stW,h]
 .rw[ZBB J0];simp[stW];intro hh;omega
theorem Zeg(s:Tx)(j:Nat)(h:j<s.length):List.drop j (List.take ((j:Int)+1).toNat s)= [s.getD j 0]:=by
 exact H1
theorem ZXi{c:UInt8}:c≠32↔(c.toNat:Int)≠32:=⟨λh e=>h (ZNF.1 (by show c.toNat=32;omega)),λh e=>h (by rw[e];rfl)⟩
theorem ZVB(o:Tx)(c:UInt8):((o++ [c])== [])=false:=GJ
theorem Zgy(s:Tx)(hl:s.length<=1000000):ZL Tryz.prog 178 [.x (.str s)] (.x (.str (blk s))):=by
 refine ZF.pure (fC 178 true ?_) rfl;intro C0 E0;have uu:=trivial;have tT:=(ZB:SsOk Tryz.prog YH);refine VD ?_;refine rg [0,3,4] ?_;refine WI.loop (λφ os=> ∃(j:Nat) (o:Tx),φ= [(0,.x (.str s)),(3,.x (.str o)),(4,.x (.int .i64 j))]/\os= []/\j<=s.length/\o.length<=j/\o++gB (!(o== [])) (s.drop j)=blk s) (ZJ s.length 4) ?_ (λφ os hI=> ?_)
 .exact⟨0,[],rfl,rfl,J0,Zr _,by rw[ZCG];exact Zh3 s⟩
 .obtain⟨j,o,rfl,rfl,hj,hol,hso⟩:=hI;refine rg [0,3,4,8] ?_;refine cd (λh0=> ?_) (λh0=> ?_)
  .have hj4:j<s.length:=Wm
   have hda:=ZWP s j hj4;rw[hda]at hso;have hsl:=Zeg s j hj4;have hw:=ZhS s (j+1);have uu:=YB uu hsl;refine rg [0,3,4,14] ?_;refine cd (λh1=> ?_) (λh1=> ?_)
   .have hc:s.getD j 0≠32:=ZXi.2 WC;have hs2:(o++ [s.getD j 0])++gB (!((o++ [s.getD j 0])== [])) (s.drop (j+1))=blk s:=by
     rw[<-hso]
     conv=>rhs;unfold gB
     rw[if_neg hc,ZVB];simp
    refine rg [0,3,4] ?_;exact Up
   .have hc:s.getD j 0=32:=ZIM λhh=>ZXi.1 hh WC
    refine rg [0,3,4,37] ?_;refine cd (λh2=> ?_) (λh2=> ?_)
    .have hs2:(o++ [32])++gB (!((o++ [32])== [])) (s.drop (j+1))=blk s:=by
      rw[<-hso]
      conv=>rhs;unfold gB
      have hst:((!(o== []))&&stW (s.drop (j+1)))=true:=NO
      have ho:(!(o== []))=true:=by rw[Zj]at hst;exact hst.1
      rw[if_pos hc,if_pos hst,ho,ZVB];simp
     refine rg [0,3,4] ?_;exact Up
    .have hs2:o++gB (!(o== [])) (s.drop (j+1))=blk s:=by
      rw[<-hso]
      conv=>rhs;unfold gB
      have hst: ¬((!(o== []))&&stW (s.drop (j+1)))=true:=NO
      rw[if_pos hc,if_neg hst]
     exact Up
  .refine Wy ?_;rw[ZBB J0]at hso;simp only[gB,Kg]at hso;rw[hso]
def ZRZ:J8->J5
 | [.x (.str s)]=>some (decide (s.length<=1000000),.x (.str (blk s)))
 |_=>none
theorem ZSE:QK Tryz.prog ZRZ 178:=by
 intro args r h;unfold ZRZ at h;split at h
 .obtain⟨h1,rfl⟩:=Yn h;exact(Zgy _ h1)
 .cases h
def ZNb:J8->J5
 | [.x (.str s)]=>some (decide (s.length<=1000000),.x (.str (ZE s)))
 |_=>none
theorem ZQR:QK Tryz.prog ZNb 97:=by
 intro args r h;unfold ZNb at h;split at h
 .exact GO
 .cases h
theorem Zil(s:Tx)(hl:s.length<=1000000):ZL Tryz.prog 147 [.x (.str s)] (.x (.str (fld s))):=by
 have hb:=ZPu s;have hb2:decide ((blk s).length<=1000000)=true:=ZI (by unfold blk;omega);refine ZF.pure (fC 147 true ?_) rfl;intro C0 E0;have uu:=JL @ZRZ.eq_1 @ZNb.eq_1 hb2;have tT:=aQ (aQ ZB ZSE) ZQR;refine XF ?_
 exact Wo
def ZRH:J8->J5
 | [.x (.str s)]=>some (decide (s.length<=1000000),.x (.str (fld s)))
 |_=>none
theorem ZT2:QK Tryz.prog ZRH 147:=by
 intro args r h;unfold ZRH at h;split at h
 .obtain⟨h1,rfl⟩:=Yn h;exact(Zil _ h1)
 .cases h
theorem ZbY(l:List Av):((rows Zu l).all λr=>decide (r.length=2))=true:=by
 unfold rows;rw[ZGJ];exact Yg.2 λ_ _=>rfl
set_option maxHeartbeats 1000000 in
theorem ZfE(r:List Av)(hr:JA r=true):ZL Tryz.prog 104 [.x (.sl (rows Zu r))] (.tup [.x (.sl (rows Zu (if KZ r=true then KP r else []))),.x (.bool (KZ r))]):=by
 obtain⟨hr8,hr1,hpb⟩:=ZBh hr;have hcr: ∀(T:FuncId->J8->J7->J5) (φ:J4) (os:J7) (n:Nat) (ag:Bool) (x:IO),ZC0 T φ os (.ld n ag x)=none:=λ_ _ _ _ _ _=>rfl
 refine ZF.pure (fC 104 true ?_) rfl;intro C0 E0;have uu:=Qu @ZNb.eq_1 @ZRH.eq_1 @ZbY hcr;have tT:=aQ (aQ ZB ZQR) ZT2;refine rg [0] ?_;refine Xc ?_;refine WI.ownA 4 188 2 ?_;refine WI.loop (λφ os=> ∃(i:Nat) (o:List Av),φ= [(0,.x (.sl (rows Zu r))),(4,.ref 0 i 0 i),(5,.x (.int .i64 i))]/\os= [.rows false 188 2 (rows Zu o)]/\i<=r.length/\o=ZA8 ((r.take i).map ZC7)/\(r.take i).all (λp=> !(fld p.2== []))=true) (ZJ r.length 5) ?_ (λφ os hI=> ?_)
 .exact⟨0,[],rfl,rfl,J0,rfl,rfl⟩
 .obtain⟨i,o,rfl,rfl,hi,ho,hall⟩:=hI;have hol:o.length=i:=by rw[ho,ZJU,Yc,Yv];omega
  refine rg [0,4,5,12] ?_;refine cd (λh0=> ?_) (λh0=> ?_)
  .have hi4:i<r.length:=Wm
   have hia:=ZCi r i hi4;have hpi:(r.getD i ([],[])).1.length<=64/\(r.getD i ([],[])).2.length<=256:=by rw[show r.getD i ([],[])=r[i] by simp[hi4]];exact hpb _ (YK hi4)
   have hka3:(r.take (i+1)).all (λp=> !(fld p.2== []))=((r.take i).all (λp=> !(fld p.2== []))&& !(fld (r.getD i ([],[])).2== [])):=by rw[Yt _ r i hi4,show r.getD i ([],[])=r[i] by simp[hi4]]
   have hnk:fld (r.getD i ([],[])).2= []->KZ r=false:=λh=>Zl _ r i hi4 (by rw[show r[i]=r.getD i ([],[]) by simp[hi4],h];rfl)
   have hso:ZDk (ZC7 (r.getD i ([],[]))) o=ZA8 ((r.take (i+1)).map ZC7):=by rw[JW hi4,Jj,ZMG,ZYd,<-ho,show r.getD i ([],[])=r[i] by simp[hi4]]
   generalize r.getD i ([],[])=p at hia hpi hka3 hnk hso;have hs1:decide (p.1.length<=1000000)=true:=ZI J0;have hs2:decide (p.2.length<=1000000)=true:=ZI J0;obtain⟨P,hP⟩: ∃P:Av,P=ZC7 p:=⟨_,rfl⟩;have hP1:ZE p.1=P.1:=by rw[hP];rfl
   have hP2:fld p.2=P.2:=by rw[hP];rfl
   rw[<-hP]at hso;have hins:=ZWK P o;have hpl:=ZVX P o;have uu:=ξ6 uu hia hs1 hs2 hP1 hP2;refine WI.dregB tT [0,4,5,6] ?_
   refine X2 ?_;refine dQC ?_;refine X2 ?_;refine dQC ?_;refine Zn ?_;refine dKG ?_;refine Qj ?_;refine dN ?_;refine rg [0,4,5,6,30] ?_;refine cd (λh1=> ?_) (λh1=> ?_)
   .have hfe:fld p.2= []:=by rw[hP2];simpa using h1
    refine WK ?_;rw[hnk hfe];rfl
   .have hall2:(r.take (i+1)).all (λp=> !(fld p.2== []))=true:=by rw[hka3,hall,hP2];simpa using h1
    refine rg [0,4,5,6,7] ?_;refine WI.loop (λφ os=> ∃(k:Nat),φ= [(0,.x (.sl (rows Zu r))),(4,.ref 0 i 0 i),(5,.x (.int .i64 i)),(6,.ptr 1 0),(7,.x (.int .i64 k))]/\os= [.rows false 188 2 (rows Zu o),.box [.x (.str P.1),.x (.str P.2)]]/\k<=ZDH P o) (ZJ i 7) ?_ (λφ os hI=> ?_)
    .exact Vg
    .obtain⟨k,rfl,rfl,hk⟩:=hI;refine nz ?_;by_cases hko:k<i
     .have hka:=ZCi o k J0;have hdl:=ZI (show(k:Int)<(i:Int) by omega);have hgo:o.getD k ([],[])=o[k]:=by simp[show k<o.length by omega]
      have uu:=Qu uu hka hdl hol;refine WI.dregB tT [0,4,5,6,7,44] ?_
      refine V2 ?_;refine nz ?_;refine cd (λh2=> ?_) (λh2=> ?_)
      .have hk2:=ZV1 P o k hk J0 (by rw[<-hgo];clear uu;grind);refine rg [0,4,5,6,7] ?_;exact⟨⟨k+1,rfl,rfl,hk2⟩,Wa⟩
      .have hkp:=ZKm P o k hk (λhh=>by rw[<-hgo];clear uu;grind);have hki:k<=i:=Wm
       rw[<-hkp]at hins;have e1:(o.take k).length=k:=Hy
       have e2:(o.drop k).take (i-k)=o.drop k:=YR T9;have e3:(o.drop k).length=i-k:=T9
       have e4:(rows Zu (o.take k)++ [[X.str P.1,X.str P.2]]).length=k+1:=by rw[ZW,ZQ,e1];rfl
       have uu:=ξ6 uu e1 e2 e3 e4 hol;refine GQ ?_;refine GE ?_;have hfr:rows Zu (o.take k)++ [[X.str P.1,X.str P.2]]++rows Zu (o.drop k)=rows Zu (ZDk P o):=by rw[hins];unfold rows;simp[Zu]
       exact Tg
     .have hdl:=decide_eq_false (show ¬(k:Int)<(i:Int) by omega);have hka:(rows Zu o)[k]? =none:=ξV (by rw[ZQ];omega);have uu:=Qu uu hdl hol hka;refine WI.dregB tT [0,4,5,6,7,44] ?_
      refine V2 ?_;refine nz ?_;refine ce (λh2=> ?_) (λh2=> ?_)
      .simp at h2
      .have hkp:=ZKm P o k hk (λhh=>J0);have hki:k<=i:=Wm
       rw[<-hkp]at hins;have e1:(o.take k).length=k:=Hy
       have e2:(o.drop k).take (i-k)=o.drop k:=YR T9;have e3:(o.drop k).length=i-k:=T9
       have e4:(rows Zu (o.take k)++ [[X.str P.1,X.str P.2]]).length=k+1:=by rw[ZW,ZQ,e1];rfl
       have uu:=ξ6 uu e1 e2 e3 e4 hol;refine GQ ?_;refine GE ?_;have hfr:rows Zu (o.take k)++ [[X.str P.1,X.str P.2]]++rows Zu (o.drop k)=rows Zu (ZDk P o):=by rw[hins];unfold rows;simp[Zu]
       exact Tg
  .obtain rfl:i=r.length:=Wm
   rw[JX]at ho hall;have hf:KZ r=true:=hall;have ho2:KP r=o:=ho.symm;rw[hf,if_pos rfl,ho2];have e5:(rows Zu o).take r.length=rows Zu o:=YR (by rw[ZQ];omega);have e6:o.take r.length=o:=YR J0;have uu:=Qu uu e5 e6 hol;refine WK ?_
   exact Wo
def ZTF:J8->J5
 | [.x (.sl R)]=>(ZM Zu R).bind λr=>some (decide (JA r=true),.tup [.x (.sl (rows Zu (if KZ r=true then KP r else []))),.x (.bool (KZ r))])
 |_=>none
theorem ZZx:QK Tryz.prog ZTF 104:=by
 intro args r h;unfold ZTF at h;split at h
 .obtain⟨r,rfl,i0⟩:=un ZEO h;obtain⟨h1,rfl⟩:=Yn i0;exact(ZfE r h1)
 .cases h
theorem ZYe{d:Dn}(hmay: ∀r∈d,JA r=true):smD (d.map KP)/\ ∀r∈d.map KP,r.length<=1000000:=by
 refine⟨λr hr p hp=> ?_,λr hr=> ?_⟩
 .exact U0
 .obtain⟨q,hq,rfl⟩:=YS.1 hr;have:=(ZBh (hmay q hq)).1;rw[ZUJ];omega
set_option maxHeartbeats 1000000 in
theorem ZfK(s:Tx):ZL Tryz.prog 70 [.x (.str s)] (.tup [.x (.str (JY s).1),.x (.int .i64 (JY s).2)]):=by
 rcases hu:JY s with⟨u,e⟩
 unfold JY at hu;rcases hq:Ya s with⟨d,e0⟩
 rw[hq]at hu;simp only at hu;refine ZF.pure (fC 70 true ?_) rfl;intro C0 E0;have uu:=ξ7 @ZIo.eq_1 @ZTF.eq_1 @ZXr.eq_1 @ZKA @ZPn hq @ZIJ.eq_1;have tT:=aT (aQ (aQ (aQ ZB ZJf) ZZx) ZSL) (ZCh ZSL);refine rg [0] ?_;refine rg [4,5] ?_;refine rg [4,5,16] ?_;refine cd (λh0=> ?_) (λh0=> ?_)
 .refine WK ?_;rw[if_pos Vh]at hu;cases hu;rfl
 .obtain rfl:e0=0:=Vh
  rw[if_neg J1]at hu;have hck:KA d=0:=by
   by_cases hs:s= []
   .subst hs;rw[ZQb]at hq;exact NL
   .exact(ZJd s d hq hs).2.2.2.2
  obtain⟨hd32,hmay⟩:=ZER hck;refine rg [4,6] ?_;refine rg [4,6,7] ?_;refine WI.ownA 6 154 1 ?_;refine WI.loop (λφ os=> ∃(j:Nat),φ= [(4,.x (.sl (rows Jp d))),(6,.ref 0 j 0 j),(7,.x (.int .i64 j))]/\os= [.rows false 154 1 (rows Jp ((d.take j).map KP))]/\j<=d.length/\(d.take j).all KZ=true) (ZJ d.length 7) ?_ (λφ os hI=> ?_)
  .exact W5
  .obtain⟨j,rfl,rfl,hj,hall⟩:=hI;refine rg [4,6,7,21] ?_;refine cd (λh1=> ?_) (λh1=> ?_)
   .have hj4:j<d.length:=Wm
    have hdj:d[j]=d.getD j []:=T8
    have hmr:JA (d.getD j [])=true:=by rw[<-hdj];exact hmay _ (YK hj4)
    have hst:(d.take (j+1)).map KP=(d.take j).map KP++ [KP (d.getD j [])]:=by rw[JW hj4,Jj,hdj];rfl
    have hall3:(d.take (j+1)).all KZ=((d.take j).all KZ&&KZ (d.getD j [])):=by rw[Yt _ d j hj4,hdj]
    have hnf:KZ (d.getD j [])=false->d.all KZ=false:=λh=>Zl KZ d j hj4 (by rw[hdj];exact h)
    have hmd:=ZI hmr;have uu:=JL uu (ZFF d j hj4) hmd;refine rg [4,6,7,8,9] ?_;refine rg [4,6,7,8,33] ?_;refine cd (λh2=> ?_) (λh2=> ?_)
    .have hff:KZ (d.getD j [])=false:=Tc
     rw[if_neg (by rw[hnf hff];decide)]at hu;refine WK ?_;cases hu;rfl
    .have hff:KZ (d.getD j [])=true:=Tc
     have hall2:(d.take (j+1)).all KZ=true:=by rw[hall3,hall,hff];rfl
     rw[hff,if_pos rfl];refine rgp [4,6,7] ?_;refine Vx ?_;refine WI.orderA [4,6,7] ?_;refine rg [4,6,7] ?_;exact⟨⟨j+1,rfl,by rw[hst,<-ZJa];first|done|rfl,J0,hall2⟩,Wa⟩
   .obtain rfl:j=d.length:=Wm
    rw[JX]at hall|-;rw[if_pos hall]at hu;obtain⟨hn1,hn2⟩:=ZYe hmay;have hnl:(d.map KP).length=d.length:=Yc ..;have hcc:(decide (smD (d.map KP))&&(decide ((d.map KP).length<=1000000)&&decide (∀r∈d.map KP,r.length<=1000000)))=true:=by rw[ZI hn1,ZI hn2,ZI (show(d.map KP).length<=1000000 by omega)];rfl
    generalize d.map KP=M at hu hnl hcc|-;rw[<-hnl];have uu:=Qu uu hcc (ZKA M) (@JX _ M);refine WK ?_;rw[hu]
def ZNV:J8->J5
 | [.x (.str s)]=>some (true,.tup [.x (.str (JY s).1),.x (.int .i64 (JY s).2)])
 |_=>none
theorem ZQ3:QK Tryz.prog ZNV 70:=by
 intro args r h;unfold ZNV at h;split at h
 .obtain rfl:=Qv h;exact(ZfK _)
 .cases h
theorem ZKM(c:UInt8)(r:Tx):KX (c::r)=(if c=45 then r else c::r)/\ZFh (c::r)=decide (c=45):=by
 by_cases h:c=45
 .subst h;simp[KX,ZFh,Lib.trimPrefix,Lib.hasPrefix,List.isPrefixOf]
 .have h2: ¬45=c:=λe=>h e.symm
  simp[KX,ZFh,Lib.trimPrefix,Lib.hasPrefix,List.isPrefixOf,h,h2]
theorem ZiZ{c:UInt8}:c=45↔(c.toNat:Int)=45:=⟨λh=>by rw[h];rfl,λh=>ZNF.1 (by show c.toNat=45;omega)⟩
theorem ZZG(c:UInt8):ZDl c=false↔((c.toNat:Int)<48\/(c.toNat:Int)>57):=by
 unfold ZDl;rw[decide_eq_false_iff_not];omega
theorem ZVh{s:Tx}(h:dgs (KX s)=true):ZBN s=(if ZFh s=true/\stp (KX s)≠ [48]then 45::stp (KX s)else stp (KX s),true):=by unfold ZBN;rw[if_pos h]
theorem Zaw{s:Tx}(h:dgs (KX s)=false):ZBN s=([],false):=by unfold ZBN;rw[if_neg (by rw[h];simp)]
theorem Zhw(s:Tx)(hl:s.length<=1000000):ZL Tryz.prog 179 [.x (.str s)] (.tup [.x (.str (ZBN s).1),.x (.bool (ZBN s).2)]):=by
 obtain⟨T,hT⟩: ∃T,KX s=T:=⟨_,rfl⟩;obtain⟨sg,hsg⟩: ∃sg:Tx,sg=if ZFh s=true then [45]else []:=⟨_,rfl⟩
 refine ZF.pure (fC 179 true ?_) rfl;intro C0 E0;have uu:=trivial;refine WI.seq ?_;refine WI.regB ZB [0] ?_
 refine oS ?_;refine WQ ?_;refine WI.regB ZB [0,4] ?_;refine Wl ?_;refine WI.join (λφ os=>φ= [(0,.x (.str T)),(4,.x (.str sg))]/\os= []) ?_ (λφ os hJ=> ?_)
 .refine WI.seq ?_;refine WI.regB ZB [0,4,12] ?_;refine oS ?_;refine oG (hok:=Wt) ?_;refine oS ?_
  iterate 4 refine oG (hok:=Wt) ?_
  refine V0 ?_;refine WI.cond (b:=_) rfl rfl (λh0=> ?_) (λh0=> ?_)
  .try simp only[zB]at h0
   have hse:s=s.getD 0 0::s.drop 1:=by rcases s with _|⟨c,r⟩;simp at h0;simp
   have h45:s.getD 0 0=45:=ZiZ.2 Ww;have htc:=ZKM (s.getD 0 0) (s.drop 1);rw[<-hse,if_pos h45,ZI h45]at htc;have hq1:T=s.drop 1:=by rw[<-hT,htc.1]
   have hq2:sg= [45]:=by rw[hsg,htc.2];rfl
   refine WI.seq ?_;refine WI.regB ZB [0,4] ?_;refine Wl ?_;refine WI.regB ZB [0,4] ?_;refine oS ?_;refine oG (hok:=Wt) ?_;refine Wl ?_;exact⟨by rw[hq1,hq2],rfl⟩
  .try simp only[zB]at h0
   have hq:T=s/\sg= []:=by
    rcases s with _|⟨c,r⟩
    .rw[<-hT,hsg];simp[KX,ZFh,Lib.trimPrefix,Lib.hasPrefix]
    .have h45: ¬c=45:=λe=>by have:=ZiZ.1 e;simp at h0;omega
     have htc:=ZKM c r;rw[if_neg h45,decide_eq_false h45]at htc;rw[<-hT,hsg,htc.1,htc.2];simp
   obtain⟨hq1,hq2⟩:=hq;refine WI.orderA [0,4] ?_;refine Tv ?_;exact⟨by rw[hq1,hq2],rfl⟩
 .obtain⟨rfl,rfl⟩:=hJ;have hTl:T.length<=s.length:=by
   rw[<-hT];rcases s with _|⟨c,r⟩
   .simp[KX,Lib.trimPrefix,Lib.hasPrefix]
   .rw[(ZKM c r).1];split<;>simp
  refine Xs ?_;refine WI.regB ZB [0,4,22] ?_;refine oS ?_
  iterate 2 refine oG (hok:=Wt) ?_
  refine oS ?_
  iterate 4 refine oG (hok:=Wt) ?_
  refine V0 ?_;refine WI.cond (b:=_) rfl rfl (λh1=> ?_) (λh1=> ?_)
  .try simp only[zB]at h1
   refine WI.seq ?_;refine WI.regB ZB [2,3] ?_;refine GB ?_;refine JK ?_
   first|refine lfR ?_|refine ZAs ?_|refine ZAY ?_|refine ZAi ?_
   rw[Zaw (by rw[hT];unfold dgs;rw[ZWj];left;rw[decide_eq_false_iff_not];rintro⟨h2,h3⟩;have:=ZKV.2 h2;omega)]
  .try simp only[zB]at h1
   have hT1:1<=T.length/\T.length<=32:=Wm
   refine Vt ?_;refine WI.seq ?_;refine WI.regB ZB [0,4,5] ?_;refine ND ?_;refine WI.loop (λφ os=> ∃(i:Nat),φ= [(0,.x (.str T)),(4,.x (.str sg)),(5,.x (.int .i64 i))]/\os= []/\i<=T.length/\(T.take i).all ZDl=true) (ZJ T.length 5) ?_ (λφ os hI=> ?_)
   .exact W5
   .obtain⟨i,rfl,rfl,hi,hall⟩:=hI;refine Xs ?_;refine WI.regB ZB [0,4,5,26] ?_
    refine Wu ?_
    iterate 2 refine oG (hok:=Wt) ?_
    refine V0 ?_;refine WI.cond (b:=_) rfl rfl (λh2=> ?_) (λh2=> ?_)
    .try simp only[zB]at h2
     have hi4:i<T.length:=Wm
     have hgi:T[i]=T.getD i 0:=G8
     refine UT ?_;refine WI.regB ZB [0,4,5,38] ?_;refine Wu ?_
     iterate 2 refine oG (hok:=Wt) ?_
     refine oS ?_
     iterate 5 refine oG (hok:=Wt) ?_
     refine V0 ?_;refine WI.cond (b:=_) rfl rfl (λh3=> ?_) (λh3=> ?_)
     .try simp only[zB]at h3
      refine WI.seq ?_;refine WI.regB ZB [2,3] ?_;refine GB ?_;refine Tu ?_
      first|refine lfR ?_|refine ZAs ?_|refine ZAY ?_|refine ZAi ?_
      rw[Zaw (by rw[hT];unfold dgs;rw[ZVV T ZDl i hi4 (by rw[hgi];exact(ZZG _).2 J0),ZFc])]
     .try simp only[zB]at h3
      have hdg:ZDl T[i]=true:=by rw[hgi];cases hh:ZDl (T.getD i 0)with|true=>rfl|false=>exact absurd ((ZZG _).1 hh) J0
      refine WI.skip ?_;refine Nv ?_;refine WI.regB ZB [0,4,5] ?_;refine oS ?_;refine oG (hok:=Wt) ?_;refine Wl ?_;exact⟨⟨i+1,rfl,rfl,J0,by rw[ZTL T ZDl i hi4,hall,hdg];rfl⟩,Wa⟩
    .try simp only[zB]at h2
     have hall2:T.all ZDl=true:=by rw[YR J0]at hall;exact hall
     have hdT:dgs (KX s)=true:=by rw[hT];unfold dgs;rw[hall2,QX];exact ZI ⟨ZKV.1 J0,J0⟩
     refine Vb ?_;refine Wz ?_;refine WI.block ?_;refine WI.orderA [0,4] ?_;refine WI.loop (λφ os=> ∃(t:Tx),φ= [(0,.x (.str t)),(4,.x (.str sg))]/\os= []/\stp t=stp T/\1<=t.length/\t.length<=32) (λφ _=>match φ with|(_,.x (.str t))::_=>t.length|_=>0) ?_ (λφ os hI=> ?_)
     .exact⟨T,rfl,rfl,rfl,J0,J0⟩
     .obtain⟨t,rfl,rfl,ht,htl⟩:=hI;have ht0:t.getD 0 0=t[0]:=by simp[show 0<t.length by omega]
      refine Xs ?_;refine WI.regB ZB [0,4,46] ?_;refine oS ?_
      iterate 2 refine oG (hok:=Wt) ?_
      refine oS ?_
      iterate 4 refine oG (hok:=Wt) ?_
      refine V0 ?_;refine WI.cond (b:=_) rfl rfl (λh4=> ?_) (λh4=> ?_)
      .try simp only[zB]at h4
       have ht2:stp (t.drop 1)=stp T:=by rw[<-ht,ZTM t Ww (by rw[<-ht0];exact b48.2 Ww)]
       refine Tv ?_;refine WI.block ?_;refine WI.regB ZB [0,4] ?_;refine oS ?_;refine oG (hok:=Wt) ?_;refine oS ?_;refine oN ?_;refine Nv ?_;exact⟨⟨t.drop 1,rfl,rfl,ht2,T9,T9⟩,Wx⟩
      .try simp only[zB]at h4
       have hts:stp t=t:=ZMz t (λhh=>by have:=b48.1 (hh.2 J0);rw[<-ht0]at this;clear uu;grind);have htt:=ht.symm.trans hts;refine Vb ?_;refine Wz ?_;refine WI.seq ?_;refine WI.regB ZB [0,4,50] ?_;refine oS ?_;refine oG (hok:=Wt) ?_;refine V0 ?_;refine WI.cond (b:=_) rfl rfl (λh5=> ?_) (λh5=> ?_)
       .try simp only[zB]at h5
        refine WI.seq ?_;refine WI.regB ZB [2,3] ?_;refine Wu ?_;refine Vm ?_;refine JK ?_
        first|refine lfR ?_|refine ZAs ?_|refine ZAY ?_|refine ZAi ?_
        have h48:t= [48]:=by simpa using h5
        rw[ZVh hdT,hT,htt,h48,if_neg J1]
       .try simp only[zB]at h5
        refine Vt ?_;refine WI.regB ZB [2,3] ?_;refine Wu ?_;refine oG (hok:=Wt) ?_;refine GB ?_
        first|refine lfR ?_|refine ZAs ?_|refine ZAY ?_|refine ZAi ?_
        have h48:t≠ [48]:=by simpa using h5
        rw[ZVh hdT,hT,htt,hsg];by_cases hn:ZFh s=true
        .simp[hn,h48]
        .simp[hn]
def ZWU:J8->J5
 | [.x (.str s)]=>some (decide (s.length<=1000000),.tup [.x (.str (ZBN s).1),.x (.bool (ZBN s).2)])
 |_=>none
theorem Zcz:QK Tryz.prog ZWU 179:=by
 intro args r h;unfold ZWU at h;split at h
 .obtain⟨h1,rfl⟩:=Yn h;exact(Zhw _ h1)
 .cases h
def Yz(k:Int)(s:Tx):Tx×Bool:=
 if s.length>4096 then([],false)else if k=1 then(fld s,!(fld s== []))else if k=2 then(blk s,!(blk s== []))else if k=3 then ZBN s
 else if k=4 then(s,true)else if k=5 then((JY s).1,(JY s).2==0)else([],false)
def ZLO:J8->J5
 | [.x (.str s)]=>some (true,.tup [.x (.str (JY s).1),.x (.int .i64 (JY s).2)])
 |_=>none
theorem ZN0:QK Tryz.prog ZLO 96:=by
 intro args r h;unfold ZLO at h;split at h
 .obtain rfl:=Qv h;exact(ZeN _)
 .cases h
def ZWb:J8->J5
 | [.x (.str s)]=>some (decide (s.length<=1000000),.x (.str (blk s)))
 |_=>none
theorem ZdD:QK Tryz.prog ZWb 174:=by
 intro args r h;unfold ZWb at h;split at h
 .obtain⟨h1,rfl⟩:=Yn h;exact(ZTK _ h1)
 .cases h
def ZXX:J8->J5
 | [.x (.str s)]=>some (true,.tup [.x (.str (ZBN s).1),.x (.bool (ZBN s).2)])
 |_=>none
theorem Zbh:QK Tryz.prog ZXX 182:=by
 intro args r h;unfold ZXX at h;split at h
 .obtain rfl:=Qv h;exact(Zi7 _)
 .cases h
theorem Zgi(k:Int)(s:Tx):ZL Tryz.prog 154 [.x (.int .i64 k),.x (.str s)] (.tup [.x (.str (Yz k s).1),.x (.bool (Yz k s).2)]):=by
 rcases hu:Yz k s with⟨u,b⟩
 unfold Yz at hu;have hbl:=Zgf s;have hfl:fld s=ZE (blk s):=rfl;have hll:(ZE s).length=s.length:=by unfold ZE;rw[Yc]
 refine ZF.pure (fC 154 true ?_) rfl;intro C0 E0;have uu:=ξ6 @ZGk.eq_1 @ZWb.eq_1 @ZXX.eq_1 @ZLO.eq_1 hbl hll;have tT:=aQ (aQ (aQ (aQ ZB ZGV) ZdD) Zbh) ZN0;refine rg [0,1] ?_;refine rg [0,1,11] ?_;refine cd (λh0=> ?_) (λh0=> ?_)
 .refine W8 ?_
  (clear uu;grind)
 .refine rg [0,1,6] ?_;refine rg [1,6,13] ?_;refine rg [1,6,13,14] ?_;refine cd (λh1=> ?_) (λh1=> ?_)
  .refine rg [6] ?_;refine rg [6] ?_;refine W8 ?_
   (clear uu;grind)
  .refine rg [1,6,13,16] ?_;refine cd (λh2=> ?_) (λh2=> ?_)
   .refine rg [6] ?_;refine W8 ?_
    (clear uu;grind)
   .refine rg [1,13,18] ?_;refine cd (λh3=> ?_) (λh3=> ?_)
    .refine W8 ?_
     (clear uu;grind)
    .refine rg [1,13,20] ?_;refine cd (λh4=> ?_) (λh4=> ?_)
     .refine W8 ?_
      (clear uu;grind)
     .refine rg [1,22] ?_;refine cd (λh5=> ?_) (λh5=> ?_)
      .refine rg [7,8] ?_;refine W8 ?_
       (clear uu;grind)
      .refine W8 ?_
       (clear uu;grind)
def ZGB:J8->J5
 | [.x (.int .i64 k),.x (.str s)]=>some (true,.tup [.x (.str (Yz k s).1),.x (.bool (Yz k s).2)])
 |_=>none
theorem ZEU:QK Tryz.prog ZGB 154:=by
 intro args r h;unfold ZGB at h;split at h
 .obtain rfl:=Qv h;exact(Zgi _ _)
 .cases h
theorem Zba(k:Int)(s:Tx):ZL Tryz.prog 145 [.x (.int .i64 k),.x (.str s)] (.tup [.x (.str (Yz k s).1),.x (.bool (Yz k s).2)]):=by
 rcases hu:Yz k s with⟨u,b⟩
 unfold Yz at hu;refine ZF.pure (fC 145 true ?_) rfl;intro C0 E0;have uu:=Qu @ZRH.eq_1 @ZRZ.eq_1 @ZWU.eq_1 @ZNV.eq_1;have tT:=aQ (aQ (aQ (aQ ZB ZT2) ZSE) Zcz) ZQ3;refine rg [0,1] ?_;refine rg [0,1,12] ?_;refine cd (λh0=> ?_) (λh0=> ?_)
 .refine W8 ?_
  (clear uu;grind)
 .refine rg [1,13] ?_;refine rg [1,13,14] ?_;refine cd (λh1=> ?_) (λh1=> ?_)
  .refine rg [6] ?_;refine W8 ?_
   (clear uu;grind)
  .refine rg [1,13,21] ?_;refine cd (λh2=> ?_) (λh2=> ?_)
   .refine rg [7] ?_;refine W8 ?_
    (clear uu;grind)
   .refine rg [1,13,28] ?_;refine cd (λh3=> ?_) (λh3=> ?_)
    .refine W8 ?_
     (clear uu;grind)
    .refine rg [1,13,34] ?_;refine cd (λh4=> ?_) (λh4=> ?_)
     .refine W8 ?_
      (clear uu;grind)
     .refine rg [1,37] ?_;refine cd (λh5=> ?_) (λh5=> ?_)
      .refine rg [8,9] ?_;refine W8 ?_
       (clear uu;grind)
      .refine W8 ?_
       (clear uu;grind)
def ZLN:J8->J5
 | [.x (.int .i64 k),.x (.str s)]=>some (true,.tup [.x (.str (Yz k s).1),.x (.bool (Yz k s).2)])
 |_=>none
theorem ZNm:QK Tryz.prog ZLN 145:=by
 intro args r h;unfold ZLN at h;split at h
 .obtain rfl:=Qv h;exact(Zba _ _)
 .cases h
def eqV(k:Int)(a b:Tx):Int:=if(Yz k a).2=true/\(Yz k b).2=true then(if(Yz k a).1=(Yz k b).1 then 1 else 0)else 2
theorem ZcZ(b:Bool):ZL Tryz.prog 146 [.x (.bool b)] (.x (.int .i64 (if b=true then 1 else 0))):=by
 refine ZF.pure (fC 146 true ?_) rfl;intro C0 E0;have uu:=trivial;have tT:=(ZB:SsOk Tryz.prog YH);refine rg [0] ?_;refine rg [3] ?_;refine cd (λh0=> ?_) (λh0=> ?_)
 .refine Wy ?_
  (clear uu;grind)
 .refine Wy ?_
  (clear uu;grind)
def ZPM:J8->J5
 | [.x (.bool b)]=>some (true,.x (.int .i64 (if b=true then 1 else 0)))
 |_=>none
theorem ZWm:QK Tryz.prog ZPM 146:=by
 intro args r h;unfold ZPM at h;split at h
 .obtain rfl:=Qv h;exact(ZcZ _)
 .cases h
theorem ZaB(k:Int)(a b:Tx):ZL Tryz.prog 98 [.x (.int .i64 k),.x (.str a),.x (.str b)] (.x (.int .i64 (eqV k a b))):=by
 rcases hu:eqV k a b with u
 unfold eqV at hu;refine ZF.pure (fC 98 true ?_) rfl;intro C0 E0;have uu:=YB @ZLN.eq_1 @ZPM.eq_1;have tT:=aQ (aQ ZB ZNm) ZWm;refine rg [0,1,2] ?_;refine rg [0,2,7,8] ?_;refine rg [7,8,9,10] ?_;refine rg [7,9,28] ?_;refine cd (λh0=> ?_) (λh0=> ?_)
 .refine rg [6] ?_;refine lf ?_
  (clear uu;grind)
 .refine rg [6] ?_;refine lf ?_
  (clear uu;grind)
def ZI1:J8->J5
 | [.x (.int .i64 k),.x (.str a),.x (.str b)]=>some (true,.x (.int .i64 (eqV k a b)))
 |_=>none
theorem ZL5:QK Tryz.prog ZI1 98:=by
 intro args r h;unfold ZI1 at h;split at h
 .obtain rfl:=Qv h;exact(ZaB _ _ _)
 .cases h
abbrev Ze:=Tx×(Int×(Bool×Unit))
abbrev Zz:RC Ze:=Jh ZC (Jh (ZCF .i64) (Jh ZNR ZAL))
theorem JC:Zz.Good:=JJ ZP (JJ (ZBL .i64) (JJ ZX6 ZBX))
abbrev Zi:=Tx×(List Tx×(List Tx×Unit))
abbrev YW:RC Zi:=Jh ZC (Jh (rSl ZC) (Jh (rSl ZC) ZAL))
theorem JP:YW.Good:=JJ ZP (JJ (ZDN ZP) (JJ (ZDN ZP) ZBX))
def ZUC(t:Ze):Ze:=(ZE t.1,t.2)
def ZDX(c:Zi):Zi:=(ZE c.1,c.2.1.map ZE,c.2.2.1.map ZE,())
def Zp(T:List Ze):List (Tx×Ze):=T.map λt=>(ZE t.1,ZUC t)
def YE(C:List Zi):List (Tx×Zi):=C.map λc=>(ZE c.1,ZDX c)
def JS(L:List (Tx×Ze)):W2:=Yw Ks Zz.enc L
def JN(M:List (Tx×Zi)):W2:=Yw Ks YW.enc M
abbrev scO(L:List (Tx×Ze))(M:List (Tx×Zi)):J7:= [.box [.mref 1,.mref 2],.mpo .str true (JS L),.mpo .str true (JN M)]
def Ke(L:List (Tx×Ze))(k:Tx):Ze:=(ZH L k).getD ([],0,false,())
def clV(M:List (Tx×Zi))(k:Tx):Zi:=(ZH M k).getD ([],[],[],())
def tyD(t:Ze):D:= .agg [.x (.str t.1),.x (.int .i64 t.2.1),.x (.bool t.2.2.1)]
def clD(c:Zi):D:= .agg [.x (.str c.1),.x (.sl (rows ZC c.2.1)),.x (.sl (rows ZC c.2.2.1))]
theorem ZiM(L:List (Tx×Ze))(k:Tx):Jz (JS L) [X.str k]=(ZH L k).map λt=> [.x (.str t.1),.x (.int .i64 t.2.1),.x (.bool t.2.2.1)]:=by
 unfold JS;rw[ZFG Ks Zz.enc hkS L k];rfl
theorem Zht(M:List (Tx×Zi))(k:Tx):Jz (JN M) [X.str k]=(ZH M k).map λc=> [.x (.str c.1),.x (.sl (rows ZC c.2.1)),.x (.sl (rows ZC c.2.2.1))]:=by
 unfold JN;rw[ZFG Ks YW.enc hkS M k];rfl
theorem ZiT(L:List (Tx×Ze))(k:Tx)(t:Ze):Yp (JS L) [X.str k] [.x (.str t.1),.x (.int .i64 t.2.1),.x (.bool t.2.2.1)]=JS (Zy L k t):=ZEK Ks Zz.enc hkS L k t
theorem ZiX(M:List (Tx×Zi))(k:Tx)(c:Zi):Yp (JN M) [X.str k] [.x (.str c.1),.x (.sl (rows ZC c.2.1)),.x (.sl (rows ZC c.2.2.1))]=JN (Zy M k c):=ZEK Ks YW.enc hkS M k c
theorem ZCa(f:Nat->Nat)(L:List (Tx×Ze)):(JS L).map (Ji f)=JS L:=ZAX _ _ _ _
theorem ZCb(f:Nat->Nat)(M:List (Tx×Zi)):(JN M).map (Ji f)=JN M:=ZAX _ _ _ _
theorem ZDw(L:List (Tx×Ze)):ZCJ (JS L)= []:=ZDP _ _ _
theorem ZDt(M:List (Tx×Zi)):ZCJ (JN M)= []:=ZDP _ _ _
theorem ZAe(p:Nat->Bool)(L:List (Tx×Ze)):(JS L).all (Qz p)=true:=Qy _ _ _ _
theorem ZAf(p:Nat->Bool)(M:List (Tx×Zi)):(JN M).all (Qz p)=true:=Qy _ _ _ _
theorem Zi4(ρ:W0)(os:J7)(L:List (Tx×Ze)):(JS L).map (mpP (onF ρ os))=JS L:=ZFT _ _ _ _ _
theorem ZjM(ρ:W0)(os:J7)(M:List (Tx×Zi)):(JN M).map (mpP (onF ρ os))=JN M:=ZFT _ _ _ _ _
theorem ZGW(L:List (Tx×Ze)):unM ZC Zz (JS L)=some L:=ZUP ZP JC L
theorem ZGY(M:List (Tx×Zi)):unM ZC YW (JN M)=some M:=ZUP ZP JP M
theorem ZCf(L:List (Tx×Ze))(M:List (Tx×Zi)):(scO L M).all (Ob.inP (λi=>decide (i<(scO L M).length)))=true:=by
 simp[Ob.inP,JB,D.inP,ZAe,ZAf]
def ZAB:J8->J5
 | [.x (.str s)]=>some (decide (s.length<=140737488355328),.x (.str (ZE s)))
 |_=>none
theorem Km:QK Tryz.prog ZAB 63:=by
 intro args r h;unfold ZAB at h;split at h
 .obtain⟨h1,rfl⟩:=Yn h;exact(ZPG _ h1)
 .cases h
theorem Za3(L:List (Tx×Ze))(M:List (Tx×Zi))(n:Tx)(hn:n.length<=140737488355328):ZO Tryz.prog 74 [.ptr 0 0,.x (.str n)] (scO L M) (.tup [tyD (Ke L (ZE n)),.x (.bool (ZH L (ZE n)).isSome)]) (scO L M):=by
 have hg:=ZiM L (ZE n);have hO:=ZCf L M;unfold Ke;rcases hm:ZH L (ZE n)with _|⟨a,k,b,u⟩
 .rw[hm,Qd]at hg;refine ZF.mcallsX (fC 74 true ?_) WS hO Vk;intro C0 E0;have uu:=YB @ZAB.eq_1 hg;have tT:=aQ ZB Km;refine rg [0,1,4] ?_;refine WI.dregB tT [4,6,7] ?_
  refine UO ?_;exact Uh
 .rw[hm,Yq]at hg;refine ZF.mcallsX (fC 74 true ?_) WS hO Vk;intro C0 E0;have uu:=YB @ZAB.eq_1 hg;have tT:=aQ ZB Km;refine rg [0,1,4] ?_;refine WI.dregB tT [4,6,7] ?_
  refine UO ?_;exact Uh
def ZRG:J8->J7->Option (Bool×D×J7)
 | [.ptr 0 0,.x (.str n)],[.box [.mref 1,.mref 2],.mpo .str true P1,.mpo .str true P2]=>(unM ZC Zz P1).bind λL=>(unM ZC YW P2).bind λM=>some (decide (n.length<=140737488355328),.tup [tyD (Ke L (ZE n)),.x (.bool (ZH L (ZE n)).isSome)],[.box [.mref 1,.mref 2],.mpo .str true (JS L),.mpo .str true (JN M)])
 |_,_=>none
theorem ZSk:TK Tryz.prog ZRG 74:=by
 intro args os r os' h;unfold ZRG at h;split at h
 .obtain⟨L,rfl,i0⟩:=um ZP JC h;obtain⟨M,rfl,i1⟩:=um ZP JP i0;obtain⟨h1,rfl,rfl⟩:=tn1 i1;exact Za3 L M _ h1
 .cases h
def ZNw:J8->J7->J5
 | [.ptr 0 0,.x (.str n)],[.box [.mref 1,.mref 2],.mpo .str true P1,.mpo .str true P2]=>(unM ZC Zz P1).bind λL=>(unM ZC YW P2).bind λM=>some (decide (n.length<=140737488355328),.tup [tyD (Ke L (ZE n)),.x (.bool (ZH L (ZE n)).isSome)])
 |_,_=>none
theorem ZQX:RK Tryz.prog ZNw 74:=by
 intro args os r h;unfold ZNw at h;split at h
 .obtain⟨L,rfl,i0⟩:=um ZP JC h;obtain⟨M,rfl,i1⟩:=um ZP JP i0;obtain⟨h1,rfl⟩:=Yn i1;exact rk (Za3 L M _ h1)
 .cases h
theorem Zgv(L:List (Tx×Ze))(M:List (Tx×Zi))(n:Tx)(hn:n.length<=140737488355328):ZO Tryz.prog 122 [.ptr 0 0,.x (.str n)] (scO L M) (.tup [tyD (Ke L (ZE n)),.x (.bool (ZH L (ZE n)).isSome)]) (scO L M):=by
 have hO:=ZCf L M;have h1:=ZGW L;have h2:=ZGY M;unfold tyD;refine ZF.mcallsX (fC 122 true ?_) WS hO Vk;intro C0 E0;have uu:=ξ9 @ZRG.eq_1 h1 h2 @tyD.eq_1 @ZCa @ZCb @ZDw @ZDt (YB @ZAe @ZAf);have tT:=aT ZB ZSk;refine rg [0,1,4] ?_;refine rg [0,1,4,7] ?_;refine ce (λh0=> ?_) (λh0=> ?_)
 .simp at h0
 .refine W8 ?_;exact Gn
theorem Zfh(L:List (Tx×Ze))(M:List (Tx×Zi))(n:Tx)(hn:n.length<=140737488355328):ZO Tryz.prog 119 [.ptr 0 0,.x (.str n)] (scO L M) (.tup [clD (clV M (ZE n)),.x (.bool (ZH M (ZE n)).isSome)]) (scO L M):=by
 have hg:=Zht M (ZE n);have hO:=ZCf L M;unfold clV;rcases hm:ZH M (ZE n)with _|⟨a,m,y,u⟩
 .rw[hm,Qd]at hg;refine ZF.mcallsX (fC 119 true ?_) WS hO Vk;intro C0 E0;have uu:=YB @ZAB.eq_1 hg;have tT:=aQ ZB Km;refine rg [0,1,4] ?_;refine rg [0,1,4,9] ?_;refine ce (λh0=> ?_) (λh0=> ?_)
  .simp at h0
  .refine WI.dregB tT [4,6,7] ?_;refine Wn ?_;refine Wn ?_;refine Zd ?_;refine ZU ?_;refine dQC ?_;refine Zd ?_;refine ZU ?_;refine Ws ?_;refine rg [4,5] ?_;refine WI.nnA ?_;refine lf ?_;exact Gn
 .rw[hm,Yq]at hg;refine ZF.mcallsX (fC 119 true ?_) WS hO Vk;intro C0 E0;have uu:=YB @ZAB.eq_1 hg;have tT:=aQ ZB Km;refine rg [0,1,4] ?_;refine rg [0,1,4,9] ?_;refine ce (λh0=> ?_) (λh0=> ?_)
  .simp at h0
  .refine WI.dregB tT [4,6,7] ?_;refine Wn ?_;refine Wn ?_;refine Zd ?_;exact Uh
def ZSR:J8->J7->Option (Bool×D×J7)
 | [.ptr 0 0,.x (.str n)],[.box [.mref 1,.mref 2],.mpo .str true P1,.mpo .str true P2]=>(unM ZC Zz P1).bind λL=>(unM ZC YW P2).bind λM=>some (decide (n.length<=140737488355328),.tup [clD (clV M (ZE n)),.x (.bool (ZH M (ZE n)).isSome)],[.box [.mref 1,.mref 2],.mpo .str true (JS L),.mpo .str true (JN M)])
 |_,_=>none
theorem ZZN:TK Tryz.prog ZSR 119:=by
 intro args os r os' h;unfold ZSR at h;split at h
 .obtain⟨L,rfl,i0⟩:=um ZP JC h;obtain⟨M,rfl,i1⟩:=um ZP JP i0;obtain⟨h1,rfl,rfl⟩:=tn1 i1;exact Zfh L M _ h1
 .cases h
def ZRL:J8->J7->Option (Bool×D×J7)
 | [.ref 0 n 0 n',.x (.int .i64 i),.ref 1 1 0 1],[.rows false e 2 rs,.rows false e' 2 [r]]=>some (decide (n=rs.length/\n'=rs.length/\0<=i/\i<=rs.length/\rs.length<=1000000/\e=94/\e'=94),.ref 0 (n+1) 0 (n+1),[.rows false e 2 (YY rs i.toNat [r]),.rows false e' 2 [r]])
 |_,_=>none
theorem ZdL: ∀args os r os',ZRL args os=some (true,r,os')->ZO Tryz.prog 126 args os r os':=by
 intro args os r os' h;unfold ZRL at h;split at h
 .rename_i n n' i e rs e' r0;simp only[Yu,YP,Yl]at h;obtain⟨⟨rfl,rfl,h0,h1,h2,rfl,rfl⟩,rfl,rfl⟩:=h;have h:=ZiQ rs r0 i.toNat J0 h2;rwa [show((i.toNat:Nat):Int)=i by omega]at h
 .cases h
def ZHq:J8->J5
 | [.x (.sl [[.nils],[.sl R]])]=>(ZM ZC R).map λb=>(decide (b.length<=100000),.x (.sl (rows ZC b)))
 | [.x (.sl [[.sl R],[.sl R']])]=>(ZM ZC R).bind λa=>(ZM ZC R').map λb=>(decide (a.length<=100000/\b.length<=100000),.x (.sl (rows ZC (a++b))))
 |_=>none
theorem ZTg: ∀args r,ZHq args=some (true,r)->ZL Tryz.prog 73 args r:=by
 intro args r h;unfold ZHq at h;split at h
 .rename_i R;obtain⟨b,h1,h2⟩:=Zc h;simp only[YP,Yl]at h2;obtain⟨h3,rfl⟩:=h2;rw[<-Yo ZP h1];exact ZXK b h3
 .exact U8
 .cases h
def Kv(l:List ZN)(n:List UInt8)(vs:List (List UInt8)):List ZN:=if vs= []then l else l.take (Za l n)++ [(n,QN [] (YT l n++vs),())]++KJ l n
theorem ZCc{l:List ZN}{n:List UInt8}(h:Qn l n=true):Za l n<l.length:=by
 unfold Qn at h;split at h
 .rename_i a ha;exact(ZX ha).1
 .cases h
theorem ZIk{l:List ZN}{n:List UInt8}(h:Qn l n=true):(rows ZK l)[Za l n]? =some [.str n,.sl (rows ZC (YT l n))]/\ ∀out,(rows ZK l).set (Za l n) [.str n,.sl (rows ZC out)]=rows ZK (l.take (Za l n)++ [(n,out,())]++KJ l n):=by
 have hp:=ZCc h;have he:=ZLk l n hp h;constructor
 .rw[ZKR l _ hp];unfold YT;have e:(l.getD (Za l n) ([],[],())).1=n:=by rw[show l.getD (Za l n) ([],[],())=l[Za l n] by simp[hp]];exact he
  rw[if_pos h,e]
 .intro out;unfold KJ;rw[if_pos h];have e: [X.str n,.sl (rows ZC out)]=ZK.enc (n,out,()):=rfl;rw[e];unfold rows;rw[<-ZM8,List.set_eq_take_append_cons_drop,if_pos hp];simp
theorem ZOZ{l:List ZN}{n:List UInt8}(h:Qn l n=false):(YY (rows ZK l) (Za l n) [[.str n,.nils]])[Za l n]? =some [.str n,.nils]/\ ∀out,(YY (rows ZK l) (Za l n) [[.str n,.nils]]).set (Za l n) [.str n,.sl (rows ZC out)]=rows ZK (l.take (Za l n)++ [(n,out,())]++KJ l n):=by
 have hp:=ZDI l n;have hl:((rows ZK l).take (Za l n)).length=Za l n:=by rw[Yv,ZQ];omega
 constructor
 .unfold YY;rw[Ys,QI J0,hl,ZIK];rfl
 .intro out;unfold KJ YY;rw[if_neg (by rw[h];decide),Ys,ZDm _ _ J0,hl,ZIK];unfold rows;rw[<-ZW3,<-List.map_drop,Jj,Jj];simp[ZK,Jh,ZC,rSl,ZAL,rows]
theorem ZVT(l:List (List UInt8))(x:List UInt8):rows ZC (l++ [x])=rows ZC l++ [[X.str x]]:=Ge
theorem ZTA{l:List ZN}{n:List UInt8}(hb: ∀a∈l,a.2.1.length<=50000):(YT l n).length<=50000:=by
 unfold YT;split
 .exact Gt
 .simp
theorem Zd1(acc:List (List UInt8))(v:List UInt8):ZEy acc v=if v∈acc then acc else acc++ [v]:=rfl
set_option maxHeartbeats 4000000 in
theorem Zi0(l:List ZN)(attr:List UInt8)(vs:List (List UInt8))(hs:SoA l)(hl:l.length<=100000)(ha:attr.length<=140737488355328)(hv:vs.length<=50000)(hb: ∀a∈l,a.2.1.length<=50000):ZO Tryz.prog 80 [.ref 0 l.length 0 l.length,.x (.str attr),.x (.sl (rows ZC vs))] [.rows false 94 2 (rows ZK l)] (.ref 0 (Kv l (ZE attr) vs).length 0 (Kv l (ZE attr) vs).length) [.rows false 94 2 (rows ZK (Kv l (ZE attr) vs))]:=by
 have hO: [Ob.rows false 94 2 (rows ZK (Kv l (ZE attr) vs))].all (Ob.inP (λi=>decide (i< [Ob.rows false 94 2 (rows ZK (Kv l (ZE attr) vs))].length)))=true:=rfl;have hda:=ZI ha;have hds:decide (SoA l/\l.length<=1000000)=true:=ZI ⟨hs,J0⟩;have hul:ZM ZK (rows ZK l)=some l:=ZS Zf l;obtain⟨n,hn⟩: ∃n,ZE attr=n:=⟨_,rfl⟩;rw[hn]at hO|-;have hpl:=ZDI l n;rcases hres:Kv l n vs with res
 unfold Kv at hres;have htl:l.take l.length=l:=JX;have hbl:(YT l n).length<=50000:=ZTA hb;have hcn:Qn l n=false->ZHq [.x (.sl [[.nils],[.sl (rows ZC vs)]])]=some (true,.x (.sl (rows ZC (YT l n++vs)))):=λh=>by
  show((ZM ZC (rows ZC vs)).map λb=>(decide (b.length<=100000),D.x (.sl (rows ZC b))))=_;rw[ZS ZP,show YT l n= [] by unfold YT;rw[if_neg (by rw[h];decide)]];simp;omega
 have hcy:ZHq [.x (.sl [[.sl (rows ZC (YT l n))],[.sl (rows ZC vs)]])]=some (true,.x (.sl (rows ZC (YT l n++vs)))):=by
  show((ZM ZC (rows ZC (YT l n))).bind λa=>(ZM ZC (rows ZC vs)).map λb=>(decide (a.length<=100000/\b.length<=100000),D.x (.sl (rows ZC (a++b)))))=_;rw[ZS ZP,ZS ZP];simp;omega
 refine ZF.mcallsX (fC 80 false ?_) WS hO Vk;intro C0 E0;have uu:=ξ9 @ZAB.eq_1 @ZWY.eq_1 @ZRL.eq_1 @ZRL.eq_2 @ZHq.eq_1 @ZHq.eq_2 @ZHq.eq_3 @ZXO.eq_1 (ξ6 hul hda hds hn htl @ZIJ.eq_1);have tT:=aT (aQ (aT (aQ (aT (aQ (aQ ZB Km) ZWJ) ZdL) ZTg) (ZCh ZTg)) ZTn ZLu) (ZCh ZTn) ZLu;refine WI.seq ?_;refine WI.regB tT [0,1,2] ?_;refine WQ ?_;refine WI.regB tT [0,2,7] ?_;refine oS ?_;refine oC ?_;refine UH ?_;refine WI.regB tT [0,2,7,17] ?_;refine oS ?_
 refine W4 ?_;refine V0 ?_;refine WI.cond (b:=_) rfl rfl (λh0=> ?_) (λh0=> ?_)
 .try simp only[zB]at h0
  have hv0:vs= []:=ξS Vh;rw[if_pos hv0]at hres;refine WI.seq ?_;refine WI.regB tT [6] ?_
  refine GB ?_;refine JK ?_
  first|refine lfR ?_|refine ZAs ?_|refine ZAY ?_|refine ZAi ?_
  subst hres;exact Gn
 .try simp only[zB]at h0
  have hv0:vs≠ []:=λe=>by subst e;simp at h0
  rw[if_neg hv0]at hres;refine Vt ?_;refine WI.regB tT [0,2,7,8,9] ?_
  refine Wu ?_;refine GD ?_;refine Wl ?_;refine WI.join (λφ os=> ∃(m:Nat) (RS:J6) (V:X),φ= [(0,.ref 0 m 0 m),(2,.x (.sl (rows ZC vs))),(8,.x (.int .i64 (Za l n)))]/\os= [.rows false 94 2 RS]/\RS.length=m/\Za l n<m/\RS[Za l n]? =some [.str n,V]/\(∀out,RS.set (Za l n) [.str n,.sl (rows ZC out)]=rows ZK (l.take (Za l n)++ [(n,out,())]++KJ l n))/\ZHq [.x (.sl [[V],[.sl (rows ZC vs)]])]=some (true,.x (.sl (rows ZC (YT l n++vs))))) ?_ (λφ os hJ=> ?_)
  .refine WI.seq ?_;refine WI.regB tT [0,2,7,8,26] ?_;refine X3 ?_;refine WI.cond (b:=_) rfl rfl (λh1=> ?_) (λh1=> ?_)
   .try simp only[zB]at h1
    have hh:Qn l n=false:=WC
    refine WI.post ?_;refine WI.regB tT [0,2,8] ?_;refine Wu ?_;refine Us ?_;refine oC ?_;refine Nu ?_;refine Jg [0] ?_;refine KI ?_;refine ZA ?_
    exact VQ
   .try simp only[zB]at h1
    have hh:Qn l n=true:=WC
    refine WI.orderA [0,2,8] ?_;refine Tv ?_
    exact VQ
  .obtain⟨m,RS,V,rfl,rfl,hRl,hpm,hRp,hRs,hcv⟩:=hJ;refine WI.seq ?_;refine WI.regB tT [0,2,8,10] ?_;refine UH ?_;have hcl:(YT l n++vs).length<=100000:=by rw[ZW];omega
   generalize YT l n++vs=W at hres hcv hcl;have uu:=Qu uu hRp hRl hcv;refine WI.regB tT [0,8,10,40,41,42] ?_
   refine Wu ?_;refine oG ?_;refine WU ?_;refine WU ?_;refine oC ?_;refine oG ?_;refine ND ?_;refine WI.pickA [0] ?_;refine WI.ownA 10 9 1 ?_;refine WI.orderA [0,8,10,40,41,42] ?_;refine WI.loop (λφ os=> ∃(j:Nat),φ= [(0,.ref 0 m 0 m),(8,.x (.int .i64 (Za l n))),(10,.ref 1 (QN [] (W.take j)).length 0 (QN [] (W.take j)).length),(40,.x (.sl (rows ZC W))),(41,.x (.int .i64 W.length)),(42,.x (.int .i64 j))]/\os= [.rows false 94 2 RS,.rows false 9 1 (rows ZC (QN [] (W.take j)))]/\j<=W.length) (ZJ W.length 42) ?_ (λφ os hI=> ?_)
   .exact Vg
   .obtain⟨j,rfl,rfl,hj⟩:=hI;refine WI.seq ?_;refine WI.regB tT [0,8,10,40,41,42,43] ?_;refine oG ?_;refine X0 ?_;refine WI.cond (b:=_) rfl rfl (λh2=> ?_) (λh2=> ?_)
    .try simp only[zB]at h2
     refine UT ?_;refine WI.regB tT [0,8,10,12,40,41,42] ?_;refine W4 ?_;refine WQ ?_;have hj4:j<W.length:=Wm
     have hsn:=ZQT [] W j hj4;have hle:=ZG6 [] (W.take j);rw[Yv,Qw]at hle;generalize QN [] (W.take j)=acc at hsn hle|-;have hta:acc.take acc.length=acc:=JX;have hd2:decide (acc.length<=1000000)=true:=ZI J0;have hua:ZM ZC (rows ZC acc)=some acc:=ZS ZP acc;have uu:=Qu uu hta hd2 hua;refine WI.regB tT [0,8,10,12,40,41,42,49] ?_
     refine Wu ?_;refine oC ?_;refine oG ?_;refine V0 ?_;refine WI.cond (b:=_) rfl rfl (λh3=> ?_) (λh3=> ?_)
     .try simp only[zB]at h3
      have hst:QN [] (W.take (j+1))=acc++ [W[j]]:=by rw[hsn,Zd1,if_neg Tb]
      refine WI.regB tT [0,8,10,40,41,42] ?_;refine GC ?_;refine oS ?_;refine oN ?_;refine Nv ?_;refine WI.pickA [0,1] ?_;refine WI.regB tT [0,8,10,40,41,42] ?_;refine oG ?_;refine Wl ?_
      exact TQ
     .try simp only[zB]at h3
      have hst:QN [] (W.take (j+1))=acc:=by rw[hsn,Zd1,if_pos Tb]
      refine WI.skip ?_;refine Nv ?_;refine WI.pickA [0,1] ?_;refine WI.regB tT [0,8,10,40,41,42] ?_;refine oG ?_;refine Wl ?_
      exact TQ
    .try simp only[zB]at h2
     refine Vb ?_;refine Wz ?_;obtain rfl:j=W.length:=Wm
     rw[JX];refine WI.regB tT [0] ?_
     refine Wu ?_;refine WU ?_;refine WU ?_;refine X0 ?_;refine WI.regB tT [6] ?_;refine GB ?_
     first|refine lfR ?_|refine ZAs ?_|refine ZAY ?_|refine ZAi ?_
     have hm:m=res.length:=by rw[<-hres,<-ZQ ZK,<-hRs,ZJG,hRl]
     rw[hRs,hres,hm];exact Gn
theorem ZMF{l:List ZN}{n:List UInt8}{a:ZN}(h:a∈KJ l n):a∈l:=by
 unfold KJ at h;split at h<;>exact ZDD h
theorem ZdT(l:List ZN)(n:List UInt8)(vs:List (List UInt8)):(Kv l n vs).length<=l.length+1:=by
 have:=ZDI l n;unfold Kv KJ;split
 .omega
 .split<;>simp<;>omega
theorem ZQC(l:List ZN)(n:List UInt8)(vs:List (List UInt8))(B C:Nat)(hb: ∀a∈l,a.2.1.length<=B)(hv:vs.length<=C): ∀a∈Kv l n vs,a.2.1.length<=B+C:=by
 intro a ha;unfold Kv at ha;split at ha
 .have:=hb a ha;omega
 .rcases KT.1 ha with ha|ha
  .rcases KT.1 ha with ha|ha
   .have:=hb a (ZCH ha);omega
   .rw[ZAM]at ha;subst ha;have h1:=ZG6 [] (YT l n++vs);have h2:(YT l n).length<=B:=by
     unfold YT;split
     .exact Gt
     .simp
    rw[ZW,Qw]at h1;show(QN [] (YT l n++vs)).length<=B+C;omega
  .have:=hb a (ZMF ha);omega
theorem Zfk{l:List ZN}(hs:SoA l){n:List UInt8}{a:ZN}(h:a∈KJ l n):Op.bytesLess n a.1=true:=by
 unfold KJ at h;split at h
 .rename_i hh;have hp:=ZCc hh;have he:=ZLk l n hp hh;obtain⟨j,hj,rfl⟩:=ZKf.1 h;rw[List.getElem_drop];rw[KQ]at hj;have:=ZFK.1 hs (Za l n) (Za l n+1+j) hp J0 J0;rwa [he]at this
 .rename_i hh;obtain⟨j,hj,rfl⟩:=ZKf.1 h;rw[List.getElem_drop];rw[KQ]at hj;have hp:Za l n<l.length:=Wm
  have hst:=ZJg l n hp;have hne:l[Za l n].1≠n:=λe=>hh (by unfold Qn;rw[Zw hp];simpa using e)
  have h1:Op.bytesLess n l[Za l n].1=true:=(bl_tot _ _ hne).resolve_left (by rw[hst];decide);rcases ZPs j with h0|h0
  .subst h0;exact h1
  .exact bl_trans _ _ _ h1 (ZFK.1 hs (Za l n) (Za l n+j) hp J0 J0)
theorem Zgn{l:List ZN}(hs:SoA l)(n:List UInt8)(vs:List (List UInt8)):SoA (Kv l n vs):=by
 unfold Kv;split
 .exact hs
 .have h1: ∀a∈l.take (Za l n),Op.bytesLess a.1 n=true:=λa ha=>by
   obtain⟨j,hj,rfl⟩:=List.mem_take_iff_getElem.1 ha;exact ZJi l n j J0
  have h2: ∀a∈KJ l n,Op.bytesLess n a.1=true:=λa ha=>Zfk hs ha
  rw[SoA,ZPF,ZPF];refine⟨⟨hs.sublist (List.take_sublist _ _),List.pairwise_singleton _ _,λa ha b hb=> ?_⟩,?_,λa ha b hb=> ?_⟩
  .rw[ZAM]at hb;subst hb;exact h1 a ha
  .unfold KJ;split<;>exact hs.sublist (List.drop_sublist _ _)
  .rcases KT.1 ha with ha|ha
   .exact bl_trans _ _ _ (h1 a ha) (h2 b hb)
   .rw[ZAM]at ha;subst ha;exact h2 b hb
def Zm(l:List ZN):List ZN:=l.foldl (λacc a=>Kv acc (ZE a.1) a.2.1) []
theorem ZCl(l:List ZN)(j:Nat)(h:j<l.length):Zm (l.take (j+1))=Kv (Zm (l.take j)) (ZE (l.getD j ([],[],())).1) (l.getD j ([],[],())).2.1:=by
 unfold Zm;rw[JW h,ZM0];simp[h]
theorem ZHl(l:List ZN): ∀j,j<=l.length->SoA (Zm (l.take j))
 |0,_=>by simp[Zm,SoA]
 |j+1,h=>by rw[ZCl l j J0];exact Zgn (ZHl l j J0) _ _
theorem ZEp(l:List ZN): ∀j,j<=l.length->(Zm (l.take j)).length<=j
 |0,_=>by simp[Zm]
 |j+1,h=>by
  rw[ZCl l j J0];have:=ZdT (Zm (l.take j)) (ZE (l.getD j ([],[],())).1) (l.getD j ([],[],())).2.1;have:=ZEp l j J0;omega
theorem ZID(l:List ZN)(hb: ∀a∈l,a.2.1.length<=400): ∀j,j<=l.length-> ∀a∈Zm (l.take j),a.2.1.length<=j*400
 |0,_=>by simp[Zm]
 |j+1,h=>by
  rw[ZCl l j J0];have:=ZQC (Zm (l.take j)) (ZE (l.getD j ([],[],())).1) (l.getD j ([],[],())).2.1 (j*400) 400 (ZID l hb j J0) Gr;intro a ha;have:=this a ha;omega
def ZcW:J8->J7->Option (Bool×D×J7)
 | [.ref 0 n 0 n',.x (.str t),.x (.sl R)],[.rows false e 2 rs]=>(ZM ZK rs).bind λl=>(ZM ZC R).map λvs=>(decide (n=l.length/\n'=l.length/\e=94)&&decide (SoA l/\l.length<=100000/\t.length<=140737488355328/\vs.length<=50000/\ ∀a∈l,a.2.1.length<=50000),.ref 0 (Kv l (ZE t) vs).length 0 (Kv l (ZE t) vs).length,[.rows false e 2 (rows ZK (Kv l (ZE t) vs))])
 |_,_=>none
theorem ZgS: ∀args os r os',ZcW args os=some (true,r,os')->ZO Tryz.prog 80 args os r os':=by
 intro args os r os' h;unfold ZcW at h;split at h
 .rename_i n n' t R e rs;obtain⟨l,h1,h⟩:=Zg h;obtain⟨vs,h2,h⟩:=Zc h;simp only[YP,Zj,Yl]at h;obtain⟨⟨⟨rfl,rfl,rfl⟩,h3,h4,h5,h6,h7⟩,rfl,rfl⟩:=h;rw[<-Yo Zf h1,<-Yo ZP h2];exact Zi0 l t vs h3 h4 h5 h6 h7
 .cases h
theorem ZfX(dn:List UInt8)(l:List ZN)(hl:l.length<=100)(ht: ∀a∈l,a.1.length<=1000000)(hb: ∀a∈l,a.2.1.length<=400):ZL Tryz.prog 41 [.agg [.x (.str dn),.x (.sl (rows ZK l))]] (.agg [.x (.str dn),.x (.sl (rows ZK (Zm l)))]):=by
 refine ZF.pure (fC 41 true ?_) rfl;intro C0 E0;have uu:= @ZcW.eq_1;have tT:=aT ZB ZgS;refine rg [1,2] ?_;refine rg [1,2,3] ?_;refine rg [2,3,10,11,12] ?_;refine WI.ownBox 2 1 94 2 rfl rfl ?_;dsimp only[List.set_cons_succ,List.set_cons_zero,Yx,Qw,List.cons_append,List.nil_append,Nat.reduceAdd,Nat.zero_add];refine WI.pickA [1,2,3] ?_;refine WI.loop (λφ os=> ∃(j:Nat),φ= [(2,.ptr 0 0),(3,.ptr 1 0),(10,.x (.sl (rows ZK l))),(11,.x (.int .i64 l.length)),(12,.x (.int .i64 j))]/\os= [.box [.x (.str []),.x .nils],.box [.x (.str dn),.ref 2 (Zm (l.take j)).length 0 (Zm (l.take j)).length],.rows false 94 2 (rows ZK (Zm (l.take j)))]/\j<=l.length) (ZJ l.length 12) ?_ (λφ os hI=> ?_)
 .exact Vg
 .obtain⟨j,rfl,rfl,hj⟩:=hI;refine rg [2,3,10,11,12,13] ?_;refine cd (λh0=> ?_) (λh0=> ?_)
  .have hj4:j<l.length:=Wm
   have hrw:=ZKR l j hj4;have hst:=ZCl l j hj4;have hso:=ZHl l j J0;have hcl:=ZEp l j J0;have hcv: ∀a∈Zm (l.take j),a.2.1.length<=50000:=λa ha=>by have:=ZID l hb j J0 a ha;omega
   have hg:l.getD j ([],[],())=l[j]:=T8
   have hxl:=ht l[j] (YK hj4);have hxv:=hb l[j] (YK hj4);rw[<-hg]at hxl hxv;generalize l.getD j ([],[],())=x at hrw hst hxl hxv;generalize Zm (l.take j)=acc at hst hso hcl hcv|-;have hua:ZM ZK (rows ZK acc)=some acc:=ZS Zf acc;have hux:ZM ZC (rows ZC x.2.1)=some x.2.1:=ZS ZP x.2.1;have hdd:decide (SoA acc/\acc.length<=100000/\x.1.length<=140737488355328/\x.2.1.length<=50000/\ ∀a∈acc,a.2.1.length<=50000)=true:=ZI ⟨hso,J0,J0,J0,hcv⟩;have uu:=ξ5 uu hrw hua hux hdd;refine rg [2,3,5,10,11,12] ?_;refine rg [2,3,10,11,12] ?_;refine WI.pickA [0,1,2] ?_;refine rg [2,3,10,11,12] ?_;exact⟨⟨j+1,rfl,by rw[hst],J0⟩,Wa⟩
  .obtain rfl:j=l.length:=Wm
   rw[JX];refine Wy ?_
   exact Wo
def ZCg:J8->J5
 | [.agg [.x (.str dn),.x (.sl R)]]=>(ZM ZK R).bind λl=>some (decide (l.length<=100/\(∀a∈l,a.1.length<=1000000)/\ ∀a∈l,a.2.1.length<=400),.agg [.x (.str dn),.x (.sl (rows ZK (Zm l)))])
 |_=>none
theorem ZBO:QK Tryz.prog ZCg 41:=by
 intro args r h;unfold ZCg at h;split at h
 .obtain⟨l,rfl,i0⟩:=un Zf h;obtain⟨h1,rfl⟩:=Yn i0;exact(ZfX _ l h1.1 h1.2.1 h1.2.2)
 .cases h
theorem Zdc(b:Bool):ZL Tryz.prog 186 [.x (.bool b)] (.x (.int .i64 (if b=true then 1 else 0))):=by
 refine ZF.pure (fC 186 true ?_) rfl;intro C0 E0;have uu:=trivial;have tT:=(ZB:SsOk Tryz.prog YH);refine rg [0] ?_;refine rg [3] ?_;refine cd (λh0=> ?_) (λh0=> ?_)
 .refine Wy ?_
  (clear uu;grind)
 .refine Wy ?_
  (clear uu;grind)
def ZLm:J8->J5
 | [.x (.bool b)]=>some (true,.x (.int .i64 (if b=true then 1 else 0)))
 |_=>none
theorem ZOm:QK Tryz.prog ZLm 186:=by
 intro args r h;unfold ZLm at h;split at h
 .obtain rfl:=Qv h;exact(Zdc _)
 .cases h
theorem Zh0(k:Int)(a b:Tx):ZL Tryz.prog 185 [.x (.int .i64 k),.x (.str a),.x (.str b)] (.tup [.x (.str (Yz k a).1),.x (.str (Yz k b).1),.x (.bool ((Yz k a).2&&(Yz k b).2))]):=by
 refine ZF.pure (fC 185 true ?_) rfl;intro C0 E0;have uu:=YB @ZGB.eq_1 @ZLm.eq_1;have tT:=aQ (aQ ZB ZEU) ZOm;refine rg [0,1,2] ?_;refine rg [0,2,9,10] ?_;refine rg [9,10,11,12] ?_;refine rg [6,7,8] ?_;refine lf ?_
 exact Wo
def ZWX:J8->J5
 | [.x (.int .i64 k),.x (.str a),.x (.str b)]=>some (true,.tup [.x (.str (Yz k a).1),.x (.str (Yz k b).1),.x (.bool ((Yz k a).2&&(Yz k b).2))])
 |_=>none
theorem Zb2:QK Tryz.prog ZWX 185:=by
 intro args r h;unfold ZWX at h;split at h
 .obtain rfl:=Qv h;exact(Zh0 _ _ _)
 .cases h
theorem ZbI(k:Int)(a b:Tx):ZL Tryz.prog 162 [.x (.int .i64 k),.x (.str a),.x (.str b)] (.x (.int .i64 (eqV k a b))):=by
 rcases hu:eqV k a b with u
 unfold eqV at hu;refine ZF.pure (fC 162 true ?_) rfl;intro C0 E0;have uu:=YB @ZWX.eq_1 @ZLm.eq_1;have tT:=aQ (aQ ZB Zb2) ZOm;refine rg [0,1,2] ?_;refine rg [7,8,9] ?_;refine rg [7,8,19] ?_;refine cd (λh0=> ?_) (λh0=> ?_)
 .refine rg [6] ?_;refine lf ?_
  (clear uu;grind)
 .refine rg [6] ?_;refine lf ?_
  (clear uu;grind)
def ZPj:J8->J5
 | [.x (.int .i64 k),.x (.str a),.x (.str b)]=>some (true,.x (.int .i64 (eqV k a b)))
 |_=>none
theorem ZWi:QK Tryz.prog ZPj 162:=by
 intro args r h;unfold ZPj at h;split at h
 .obtain rfl:=Qv h;exact(ZbI _ _ _)
 .cases h
def Js(l:List ZN):Prop:=l.length<=100/\(∀a∈l,a.1.length<=1000000)/\ ∀a∈l,a.2.1.length<=400
instance (l:List ZN):Decidable (Js l):=inferInstanceAs (Decidable (_/\_/\_))
def ZGx(l:List ZN)(n:Tx):List Tx:=YT (Zm l) (ZE n)
theorem ZEx(l:List ZN):Zm (l.take l.length)=Zm l:=by rw[JX]
theorem Zi5(dn:Tx)(l:List ZN)(n:Tx)(h:Js l)(hn:n.length<=140737488355328):ZL Tryz.prog 95 [.agg [.x (.str dn),.x (.sl (rows ZK l))],.x (.str n)] (.x (.sl (rows ZC (ZGx l n)))):=by
 have hd1:decide (l.length<=100/\(∀a∈l,a.1.length<=1000000)/\ ∀a∈l,a.2.1.length<=400)=true:=ZI h;have hdn:=ZI hn;have hso:SoA (Zm l):=Mg
 have hcl:(Zm l).length<=100:=Xe
 have hul:ZM ZK (rows ZK l)=some l:=ZS Zf l;have huc:ZM ZK (rows ZK (Zm l))=some (Zm l):=ZS Zf _;have hds:decide (SoA (Zm l)/\(Zm l).length<=1000000)=true:=ZI ⟨hso,J0⟩;unfold ZGx;rcases hb:YT (Zm l) (ZE n)with V
 refine ZF.pure (fC 95 true ?_) rfl;intro C0 E0;have uu:=ξ8 @ZAB.eq_1 @ZCg.eq_1 @ZWY.eq_1 hd1 hdn hul huc hds;have tT:=aQ (aQ (aQ ZB Km) ZBO) ZWJ;refine rg [1,2] ?_;refine rg [1,5] ?_;refine WI.dregB tT [5,6,7] ?_;refine WX ?_;refine ZU ?_;refine dQC ?_;refine dAC ?_;refine ZU ?_
 refine Vc ?_;refine Wn ?_;refine dN ?_;refine rg [5,6,19] ?_;refine cd (λh0=> ?_) (λh0=> ?_)
 .have hh:Qn (Zm l) (ZE n)=false:=Vh
  have hb0:V= []:=by rw[<-hb];unfold YT;rw[if_neg (by rw[hh];decide)]
  subst hb0;refine VW ?_
  exact Wo
 .have hh:Qn (Zm l) (ZE n)=true:=Vh
  have hrw:=(ZIk hh).1;rw[hb]at hrw;have hlt:=ZCc hh;have hd5:=ZI (show((Za (Zm l) (ZE n):Nat):Int)<((Zm l).length:Int) by omega);have uu:=JL uu hrw hd5;refine VW ?_
  exact Wo
def ZbX:J8->J5
 | [.agg [.x (.str dn),.x (.sl R)],.x (.str n)]=>(ZM ZK R).bind λl=>some (decide (Js l/\n.length<=140737488355328),.x (.sl (rows ZC (ZGx l n))))
 |_=>none
theorem ZfO:QK Tryz.prog ZbX 95:=by
 intro args r h;unfold ZbX at h;split at h
 .obtain⟨l,rfl,i0⟩:=un Zf h;obtain⟨h1,rfl⟩:=Yn i0;exact(Zi5 _ l _ h1.1 h1.2)
 .cases h
def ZJn(l:List ZN)(n v:Tx)(k:Int):Bool:=(ZGx l n).any λx=>decide (eqV k x v=1)
theorem ZL6(p:Tx->Bool)(l:List Tx)(j:Nat)(h:j<l.length):(l.take (j+1)).any p=((l.take j).any p||p (l.getD j [])):=by
 rw[JW h,List.any_append];simp[h]
theorem ZT5(l:List ZN)(n:Tx)(h:Js l):(ZGx l n).length<=50000:=by
 unfold ZGx;refine ZTA (λa ha=> ?_);have h1:=ZID l h.2.2 l.length (Zr _) a (by rw[ZEx];exact ha);have:=h.1;omega
theorem ZjP(dn:Tx)(l:List ZN)(n v:Tx)(k:Int)(h:Js l)(hn:n.length<=140737488355328):ZL Tryz.prog 123 [.agg [.x (.str dn),.x (.sl (rows ZK l))],.x (.str n),.x (.str v),.x (.int .i64 k)] (.x (.bool (ZJn l n v k))):=by
 have hd1:decide (Js l/\n.length<=140737488355328)=true:=ZI ⟨h,hn⟩;have hul:ZM ZK (rows ZK l)=some l:=ZS Zf l;have hgl:=ZT5 l n h;unfold ZJn;rcases hg:ZGx l n with V
 rw[hg]at hgl;refine ZF.pure (fC 123 true ?_) rfl;intro C0 E0;have uu:=ξ5 @ZbX.eq_1 @ZPj.eq_1 hd1 hul hg;have tT:=aQ (aQ ZB ZfO) ZWi;refine rg [1,2,3,4] ?_;refine rg [2,3,13,14,15] ?_;refine WI.pickA [] ?_;refine WI.orderA [2,3,13,14,15] ?_;refine WI.loop (λφ os=> ∃(j:Nat),φ= [(2,.x (.str v)),(3,.x (.int .i64 k)),(13,.x (.sl (rows ZC V))),(14,.x (.int .i64 V.length)),(15,.x (.int .i64 j))]/\os= []/\j<=V.length/\(V.take j).any (λx=>decide (eqV k x v=1))=false) (ZJ V.length 15) ?_ (λφ os hI=> ?_)
 .exact W5
 .obtain⟨j,rfl,rfl,hj,hno⟩:=hI;refine rg [2,3,13,14,15,16] ?_;refine cd (λh0=> ?_) (λh0=> ?_)
  .have hj4:j<V.length:=Wm
   have hrw:(rows ZC V)[j]? =some [X.str (V.getD j [])]:=XP
   have hat:=ZL6 (λx=>decide (eqV k x v=1)) V j hj4;have hmem:V.getD j []∈V:=XQ
   generalize V.getD j []=x at hrw hat hmem;have uu:=YB uu hrw;refine rg [2,3,10,13,14,15] ?_;refine rg [2,3,13,14,15,23] ?_;refine cd (λh1=> ?_) (λh1=> ?_)
   .have hx:eqV k x v=1:=WC
    exact XA
   .have hx:decide (eqV k x v=1)=false:=WC
    refine rg [2,3,13,14,15] ?_;exact⟨⟨j+1,rfl,rfl,J0,by rw[hat,hno,hx];rfl⟩,Wa⟩
  .refine rg [8] ?_;refine lf ?_;rw[YR J0]at hno;rw[hno]
def ZRl:J8->J5
 | [.agg [.x (.str dn),.x (.sl R)],.x (.str n),.x (.str v),.x (.int .i64 k)]=>(ZM ZK R).bind λl=>some (decide (Js l/\n.length<=140737488355328),.x (.bool (ZJn l n v k)))
 |_=>none
theorem ZVZ:QK Tryz.prog ZRl 123:=by
 intro args r h;unfold ZRl at h;split at h
 .obtain⟨l,rfl,i0⟩:=un Zf h;obtain⟨h1,rfl⟩:=Yn i0;exact(ZjP _ l _ _ _ h1.1 h1.2)
 .cases h
def okS(s:Tx):Bool:=decide (JY s=(s,0))
def Zq(s:Tx):List Tx:=if okS s=true then(Ya s).1.map λr=>(Qp [r]).1 else []
theorem Zes(s:Tx)(h:(Ya s).2=0):smD (Ya s).1:=by
 unfold Ya at h|-;split
 .intro r hr;cases hr
 .rename_i h1;split
  .intro r hr;cases hr
  .split
   .rename_i h2;split
    .intro r hr;cases hr
    .split
     .intro r hr;cases hr
     .exact ZHF s J0
   .intro r hr;cases hr
theorem ZPR(s:Tx)(h:(Ya s).2=0):KA (Ya s).1=0:=by
 unfold Ya at h|-;split
 .rename_i h1;rw[if_pos h1]at h;cases h
 .rename_i h1;rw[if_neg h1]at h;split
  .rfl
  .rename_i h2;rw[if_neg h2]at h;split
   .rename_i h3;rw[if_pos h3]at h;split
    .rename_i h4;rw[if_pos h4]at h;cases h
    .rename_i h4;rw[if_neg h4]at h;split
     .rename_i h5;rw[if_pos h5]at h;exact absurd h h5
     .rename_i h5;exact ZH3.1 h5
   .rename_i h3;rw[if_neg h3]at h;cases h
theorem Zgd(s:Tx):ZL Tryz.prog 114 [.x (.str s)] (.tup [.x (.sl (rows ZC (Zq s))),.x (.bool (okS s))]):=by
 obtain⟨d,hd⟩: ∃d,(Ya s).1=d:=⟨_,rfl⟩;rcases hres:Zq s with out
 unfold Zq at hres;rw[hd]at hres;refine ZF.pure (fC 114 true ?_) rfl;intro C0 E0;have uu:=ξ5 @ZLO.eq_1 @ZGy.eq_1 @ZLj.eq_1 hd @ZIJ.eq_1;have tT:=aT (aQ (aQ (aQ ZB ZN0) ZF2) ZFJ) (ZCh ZFJ);refine rg [0] ?_;refine rg [0,4,5] ?_;refine rg [0,24] ?_;refine cd (λh0=> ?_) (λh0=> ?_)
 .have hok:okS s=false:=NE
  rw[hok]at hres;refine WK ?_;subst hres;rw[hok];rfl
 .have hno:JY s=(s,0):=by
   have h1:(JY s).2=0/\(JY s).1=s:=Ww
   exact ZCQ h1.2 h1.1
  have hok:okS s=true:=ZI hno;rw[if_pos hok]at hres;have hr0:(Ya s).2=0:=by
   unfold JY at hno;split at hno
   .rename_i h;exact absurd (congrArg Prod.snd hno) h
   .rename_i h;exact ZH3.1 h
  have hsm:smD d:=by rw[<-hd];exact Zes s hr0
  have hdl:d.length<=32:=by rw[<-hd];exact(ZER (ZPR s hr0)).1
  refine rg [6] ?_;refine rg [6,8] ?_;refine rg [8,30,31,32] ?_;refine WI.ownA 8 9 1 ?_;refine WI.loop (λφ os=> ∃(j:Nat),φ= [(8,.ref 0 ((d.take j).map λr=>(Qp [r]).1).length 0 ((d.take j).map λr=>(Qp [r]).1).length),(30,.x (.sl (rows Jp d))),(31,.x (.int .i64 d.length)),(32,.x (.int .i64 j))]/\os= [.rows false 9 1 (rows ZC ((d.take j).map λr=>(Qp [r]).1))]/\j<=d.length) (ZJ d.length 32) ?_ (λφ os hI=> ?_)
  .exact Vg
  .obtain⟨j,rfl,rfl,hj⟩:=hI;refine rg [8,30,31,32,33] ?_;refine cd (λh1=> ?_) (λh1=> ?_)
   .have hj4:j<d.length:=Wm
    have hrw:=ZFF d j hj4;have htk:(d.take (j+1)).map (λr=>(Qp [r]).1)=(d.take j).map (λr=>(Qp [r]).1)++ [(Qp [d.getD j []]).1]:=Tn
    have hs1:decide (smD [d.getD j []])=true:=ZI (λr hr p hp=>by
     rw[ZAM]at hr;subst hr;exact hsm _ (by rw[show d.getD j []=d[j] by simp[hj4]];exact YK hj4) p hp)
    have hlen2:((d.take j).map λr=>(Qp [r]).1).length<=1000000:=TE
    generalize d.getD j []=r at hrw htk hs1;have hur:ZM Jp [[X.sl (rows Zu r)]]=some [r]:=ZS ZEX [r];have uu:=Qu uu hrw hs1 hur;refine rg [8,10,30,31,32] ?_;refine rg [8,11,30,31,32] ?_;refine rg [8,30,31,32] ?_;refine WI.pickA [0] ?_;refine rg [8,30,31,32] ?_;exact⟨⟨j+1,by rw[htk,ZW];rfl,by rw[htk];simp[rows,ZC],J0⟩,Wa⟩
   .obtain rfl:j=d.length:=Wm
    rw[JX,hres];refine WK ?_;rw[hok]
def ZNr:J8->J5
 | [.x (.str s)]=>some (true,.tup [.x (.sl (rows ZC (Zq s))),.x (.bool (okS s))])
 |_=>none
theorem ZQt:QK Tryz.prog ZNr 114:=by
 intro args r h;unfold ZNr at h;split at h
 .obtain rfl:=Qv h;exact(Zgd _)
 .cases h
theorem ZSb{s:Tx}(h:okS s=true):(Ya s).2=0:=by
 have hno:JY s=(s,0):=of_decide_eq_true h;unfold JY at hno;split at hno
 .rename_i h;exact absurd (congrArg Prod.snd hno) h
 .rename_i h;exact ZH3.1 h
theorem Zcy(d:Dn):(Qp d).1.length<=4096:=by
 unfold Qp;split
 .simp
 .split
  .simp
  .rename_i h;simpa using h
theorem ZDJ(s:Tx):(Zq s).length<=32/\ ∀x∈Zq s,x.length<=4096:=by
 unfold Zq;split
 .rename_i h;refine⟨by rw[Yc];exact(ZER (ZPR s (ZSb h))).1,λx hx=> ?_⟩;obtain⟨r,_,rfl⟩:=YS.1 hx;exact Zcy _
 .simp
theorem Zhl(l:List Tx)(hl:l.length<=32)(hb: ∀x∈l,x.length<=4096)(h0:l≠ []):ZL Tryz.prog 76 [.x (.sl (rows ZC l))] (.x (.str (Qe 44 (l.drop 1)))):=by
 have hpos:0<l.length:=ZKV.2 h0;have hjl:=ZFR 44 4096 (l.drop 1) (λx hx=>hb x (ZDD hx));rw[KQ]at hjl;have hd1:decide ((Lib.join (l.drop 1) [44]).length<=140737488355328/\(l.drop 1).length<=140737488355328)=true:=ZI ⟨by rw[ZEL];omega,T9⟩;have hj:Lib.join (l.drop 1) [44]=Qe 44 (l.drop 1):=ZEL 44 _;refine ZF.pure (fC 76 true ?_) rfl;intro C0 E0;have uu:=JL @ZNS.eq_1 hd1 hj;have tT:=aQ ZB ZGv;refine XF ?_
 exact Wo
theorem ZeP(l:List Tx)(h0:l≠ [])(hl:l.length<=32):ZL Tryz.prog 128 [.x (.sl (rows ZC l))] (.x (.str (l.headD []))):=by
 obtain⟨x,l,rfl⟩:=List.exists_cons_of_ne_nil h0;have hrw:(rows ZC (x::l))[0]? =some [X.str x]:=rfl;refine ZF.pure (fC 128 true ?_) rfl;intro C0 E0;have uu:=hrw;have tT:=(ZB:SsOk Tryz.prog YH);refine XF ?_
 exact Wo
def ZRI:J8->J5
 | [.x (.sl R)]=>(ZM ZC R).bind λl=>some (decide (l.length<=32/\(∀x∈l,x.length<=4096)/\l≠ []),.x (.str (Qe 44 (l.drop 1))))
 |_=>none
theorem ZT7:QK Tryz.prog ZRI 76:=by
 intro args r h;unfold ZRI at h;split at h
 .obtain⟨l,rfl,i0⟩:=un ZP h;obtain⟨h1,rfl⟩:=Yn i0;exact(Zhl l h1.1 h1.2.1 h1.2.2)
 .cases h
def ZOd:J8->J5
 | [.x (.sl R)]=>(ZM ZC R).bind λl=>some (decide (l≠ []/\l.length<=32),.x (.str (l.headD [])))
 |_=>none
theorem ZQr:QK Tryz.prog ZOd 128:=by
 intro args r h;unfold ZOd at h;split at h
 .obtain⟨l,rfl,i0⟩:=un ZP h;obtain⟨h1,rfl⟩:=Yn i0;exact(ZeP l h1.1 h1.2)
 .cases h
def YC(s:Tx):Tx:=Qe 44 ((Zq s).drop 1)
def YQ(s:Tx):Tx:=(Zq s).headD []
def JH(s:Tx):Bool:=decide (Zq s≠ [])
theorem ZjW(s:Tx):ZL Tryz.prog 75 [.x (.str s),.fn 76 []] (.tup [.x (.str (YC s)),.x (.bool (JH s))]):=by
 obtain⟨hl,hb⟩:=ZDJ s;unfold YC JH;generalize hp:Zq s=l at hl hb|-;have hul:ZM ZC (rows ZC l)=some l:=ZS ZP l;refine ZF.pure (fC 75 true ?_) rfl;intro C0 E0;have uu:=ξ5 @ZNr.eq_1 @ZRI.eq_1 hul hp @ZOd.eq_1;have tT:=aQ (aQ (aQ ZB ZQt) ZT7) ZQr;refine rg [0,1] ?_;refine rg [1,6] ?_;refine rg [1,6,15] ?_;refine cd (λh0=> ?_) (λh0=> ?_)
 .obtain rfl:l= []:=ξS Vh;refine W8 ?_
  exact Wo
 .have h0:l≠ []:=λe=>by subst e;simp at h0
  have hd1:decide (l.length<=32/\(∀x∈l,x.length<=4096)/\l≠ [])=true:=ZI ⟨hl,hb,h0⟩;have uu:=YB uu hd1;refine W8 ?_;rw[ZI h0]
theorem ZjG(s:Tx):ZL Tryz.prog 75 [.x (.str s),.fn 128 []] (.tup [.x (.str (YQ s)),.x (.bool (JH s))]):=by
 obtain⟨hl,hb⟩:=ZDJ s;unfold YQ JH;generalize hp:Zq s=l at hl hb|-;have hul:ZM ZC (rows ZC l)=some l:=ZS ZP l;refine ZF.pure (fC 75 true ?_) rfl;intro C0 E0;have uu:=ξ5 @ZNr.eq_1 @ZOd.eq_1 hul hp @ZRI.eq_1;have tT:=aQ (aQ (aQ ZB ZQt) ZT7) ZQr;refine rg [0,1] ?_;refine rg [1,6] ?_;refine rg [1,6,15] ?_;refine cd (λh0=> ?_) (λh0=> ?_)
 .obtain rfl:l= []:=ξS Vh;refine W8 ?_
  exact Wo
 .have h0:l≠ []:=λe=>by subst e;simp at h0
  have hd1:decide (l≠ []/\l.length<=32)=true:=ZI ⟨h0,hl⟩;have uu:=YB uu hd1;refine W8 ?_;rw[ZI h0]
def ZdB:J8->J5
 | [.x (.str s),.fn 76 []]=>some (true,.tup [.x (.str (YC s)),.x (.bool (JH s))])
 |_=>none
theorem Zed:QK Tryz.prog ZdB 75:=by
 intro args r h;unfold ZdB at h;split at h
 .obtain rfl:=Qv h;exact(ZjW _)
 .cases h
def ZdA:J8->J5
 | [.x (.str s),.fn 128 []]=>some (true,.tup [.x (.str (YQ s)),.x (.bool (JH s))])
 |_=>none
theorem ZfZ:QK Tryz.prog ZdA 75:=by
 intro args r h;unfold ZdA at h;split at h
 .obtain rfl:=Qv h;exact(ZjG _)
 .cases h
theorem ZbG(s:Tx):ZL Tryz.prog 39 [.x (.str s)] (.tup [.x (.str (YC s)),.x (.bool (JH s))]):=by
 refine ZF.pure (fC 39 true ?_) rfl;intro C0 E0;have uu:= @ZdB.eq_1;have tT:=aQ ZB Zed;refine rg [0] ?_;refine Vi ?_
 exact Wo
theorem Zii(s:Tx):ZL Tryz.prog 81 [.x (.str s)] (.tup [.x (.str (YQ s)),.x (.bool (JH s))]):=by
 refine ZF.pure (fC 81 true ?_) rfl;intro C0 E0;have uu:= @ZdA.eq_1;have tT:=aQ ZB ZfZ;refine rg [0] ?_;refine Vi ?_
 exact Wo
def ZIn:J8->J5
 | [.x (.str s)]=>some (true,.tup [.x (.str (YC s)),.x (.bool (JH s))])
 |_=>none
theorem ZJZ:QK Tryz.prog ZIn 39:=by
 intro args r h;unfold ZIn at h;split at h
 .obtain rfl:=Qv h;exact(ZbG _)
 .cases h
def ZOG:J8->J5
 | [.x (.str s)]=>some (true,.tup [.x (.str (YQ s)),.x (.bool (JH s))])
 |_=>none
theorem ZMW:QK Tryz.prog ZOG 81:=by
 intro args r h;unfold ZOG at h;split at h
 .obtain rfl:=Qv h;exact(Zii _)
 .cases h
theorem Zhj(b:Bool)(c:Int):ZL Tryz.prog 120 [.x (.bool b),.x (.int .i64 c)] (.x (.int .i64 (if b=true then c else 0))):=by
 refine ZF.pure (fC 120 true ?_) rfl;intro C0 E0;have uu:=trivial;have tT:=(ZB:SsOk Tryz.prog YH);refine rg [0,1] ?_;refine rg [1,5] ?_;refine cd (λh0=> ?_) (λh0=> ?_)
 .refine Wj ?_
  (clear uu;grind)
 .refine Wj ?_
  (clear uu;grind)
def ZGU:J8->J5
 | [.x (.bool b),.x (.int .i64 c)]=>some (true,.x (.int .i64 (if b=true then c else 0)))
 |_=>none
theorem ZEN:QK Tryz.prog ZGU 120:=by
 intro args r h;unfold ZGU at h;split at h
 .obtain rfl:=Qv h;exact(Zhj _ _)
 .cases h
def ZB4(k:Int)(v:Tx):Tx:=(Yz k v).1
def ZCE(k:Int)(l:List Tx):List (Tx×Int):=l.map λv=>(ZB4 k v,(1:Int))
def twV(k:Int)(l:List Tx):Bool:= !decide (l.map (ZB4 k)).Nodup
theorem ZJH(k:Int): ∀(l:List Tx) (x:Tx),ZH (ZCE k l) x=if x∈l.map (ZB4 k)then some 1 else none
 | [],x=>by simp[ZCE,ZH]
 |v::l,x=>by
  have ih:=ZJH k l x;by_cases h:x=ZB4 k v
  .simp[ZCE,ZH,h]
  .have e:(x∈(v::l).map (ZB4 k))=(x∈l.map (ZB4 k)):=Hj
   have e2:ZH (ZCE k (v::l)) x=ZH (ZCE k l) x:=by simp[ZCE,ZH,h]
   rw[e2,ih];simp only[e]
theorem Za7(k:Int)(l:List Tx)(x:Tx):Jz (Yw Ks kcI (ZCE k l)) [X.str x]=if x∈l.map (ZB4 k)then some [D.x (X.int .i64 1)]else none:=by
 rw[ZFG Ks kcI hkS (ZCE k l) x,ZJH];split<;>rfl
theorem ZY9(k:Int)(l:List Tx)(v:Tx)(h:ZB4 k v∉l.map (ZB4 k)):Yp (Yw Ks kcI (ZCE k l)) [X.str (ZB4 k v)] [D.x (X.int .i64 1)]=Yw Ks kcI (ZCE k (l++ [v])):=by
 have e:=ZEK Ks kcI hkS (ZCE k l) (ZB4 k v) 1;rw[ZDK (by rw[ZJH,if_neg h])]at e;have e2:ZCE k (l++ [v])=ZCE k l++ [(ZB4 k v,1)]:=by simp[ZCE]
 rw[e2];exact e
theorem KY(l:List Tx)(j:Nat)(h:j<l.length):(rows ZC l)[j]? =some [X.str (l.getD j [])]:=by
 simp[rows,h,ZC]
theorem ZiA(k:Int)(l:List Tx)(j:Nat)(h:j<l.length)(hin:ZB4 k (l.getD j [])∈(l.take j).map (ZB4 k)):twV k l=true:=by
 unfold twV;rw[ZG8,decide_eq_false_iff_not];intro hn;have e:l=l.take j++l.getD j []::l.drop (j+1):=by
  exact N6
 rw[e,Jj,YO]at hn;have:=(ZFC.1 hn).2.2 _ hin _ (ZAm);exact this rfl
theorem ZgM(k:Int)(l:List Tx)(hl:l.length<=1000000):ZL Tryz.prog 156 [.x (.int .i64 k),.x (.sl (rows ZC l))] (.x (.bool (twV k l))):=by
 refine ZF.pure (fC 156 true ?_) rfl;intro C0 E0;have uu:= @ZGB.eq_1;have tT:=aQ ZB ZEU;refine VS ?_;refine rg [0,5,11,12,13] ?_;refine WI.loop (λφ os=> ∃(j:Nat),φ= [(0,.x (.int .i64 k)),(5,.mref 0),(11,.x (.sl (rows ZC l))),(12,.x (.int .i64 l.length)),(13,.x (.int .i64 j))]/\os= [.mpo .str false (Yw Ks kcI (ZCE k (l.take j)))]/\j<=l.length/\((l.take j).map (ZB4 k)).Nodup) (ZJ l.length 13) ?_ (λφ os hI=> ?_)
 .exact UM
 .obtain⟨j,rfl,rfl,hj,hnd⟩:=hI;refine rg [0,5,11,12,13,14] ?_;refine cd (λh0=> ?_) (λh0=> ?_)
  .have hj4:j<l.length:=Wm
   have hrw:=KY l j hj4;have hgt:=Za7 k (l.take j) (ZB4 k (l.getD j []));have htk:l.take (j+1)=l.take j++ [l.getD j []]:=by rw[JW hj4];simp[hj4]
   have hnk:(Yz k (l.getD j [])).1=ZB4 k (l.getD j []):=rfl;have uu:=JL uu hrw hnk;refine rg [0,5,7,11,12,13] ?_;refine rg [0,5,8,11,12,13] ?_;by_cases hin:ZB4 k (l.getD j [])∈(l.take j).map (ZB4 k)
   .rw[if_pos hin]at hgt;have uu:=YB uu hgt;refine rg [0,5,8,11,12,13,26] ?_;refine ct (λh1=> ?_) (λh1=> ?_)
    .refine Wj ?_;rw[ZiA k l j hj4 hin]
    .simp at h1
   .rw[if_neg hin]at hgt;have hset:=ZY9 k (l.take j) (l.getD j []) hin;have uu:=JL uu hgt hset;refine rg [0,5,8,11,12,13,26] ?_;refine ce (λh1=> ?_) (λh1=> ?_)
    .simp at h1
    .refine WI.post ?_;refine WI.regB tT [0,5,11,12,13] ?_;refine GC ?_;refine oG ?_;refine oP ?_;refine Jg [0] ?_ (ho:=WW);refine GE ?_;have hnd2:((l.take (j+1)).map (ZB4 k)).Nodup:=by
      rw[htk,Jj,ZFC];exact⟨hnd,J1,λa ha b hb=>by simp only[YO,ZAa,ZAM]at hb;subst hb;rintro rfl;exact hin ha⟩
     refine rg [0,5,11,12,13] ?_;exact⟨⟨j+1,rfl,by rw[htk],J0,hnd2⟩,Wa⟩
  .refine Wj ?_;rw[YR J0]at hnd;unfold twV;rw[ZI hnd];rfl
def ZOk:J8->J5
 | [.x (.int .i64 k),.x (.sl R)]=>(ZM ZC R).bind λl=>some (decide (l.length<=1000000),.x (.bool (twV k l)))
 |_=>none
theorem ZQA:QK Tryz.prog ZOk 156:=by
 intro args r h;unfold ZOk at h;split at h
 .obtain⟨l,rfl,i0⟩:=un ZP h;obtain⟨h1,rfl⟩:=Yn i0;exact(ZgM _ l h1)
 .cases h
def atD(a:ZN):D:= .agg [.x (.str a.1),.x (.sl (rows ZC a.2.1))]
def w1(t:Ze)(_:ZN):Int:=if t.1= []then 17 else 0
def w2(_:Ze)(a:ZN):Int:=if a.2.1.length=0 then 19 else 0
def w3(t:Ze)(a:ZN):Int:=if a.2.1.all (λv=>(Yz t.2.1 v).2)=true then 0 else 21
def w5(t:Ze)(a:ZN):Int:=if t.2.2.1=true/\1<a.2.1.length then 19 else 0
theorem ZkL(t:Ze)(a:ZN):ZL Tryz.prog 151 [tyD t,atD a] (.x (.int .i64 (w1 t a))):=by
 unfold w1 tyD atD;refine ZF.pure (fC 151 true ?_) rfl;intro C0 E0;have uu:=YB @ZGU.eq_1 @ZGB.eq_1;have tT:=aQ (aQ ZB ZEN) ZEU;refine rg [2] ?_;refine Wj ?_
 (clear uu;grind)
theorem ZkM(t:Ze)(a:ZN):ZL Tryz.prog 152 [tyD t,atD a] (.x (.int .i64 (w2 t a))):=by
 unfold w2 tyD atD;refine ZF.pure (fC 152 true ?_) rfl;intro C0 E0;have uu:=YB @ZGU.eq_1 @ZGB.eq_1;have tT:=aQ (aQ ZB ZEN) ZEU;refine rg [3] ?_;refine Wj ?_
 (clear uu;grind)
theorem ZkJ(t:Ze)(a:ZN)(hl:a.2.1.length<=1000000):ZL Tryz.prog 153 [tyD t,atD a] (.x (.int .i64 (w3 t a))):=by
 unfold w3 tyD atD;obtain⟨n,l,u⟩:=a;simp only at hl|-;refine ZF.pure (fC 153 true ?_) rfl;intro C0 E0;have uu:=YB @ZGB.eq_1 @ZGU.eq_1;have tT:=aQ (aQ ZB ZEN) ZEU;refine rg [2,3] ?_;refine rg [2,10,11,12] ?_;refine WI.pickA [0] ?_;refine WI.orderA [2,10,11,12] ?_;refine WI.loop (λφ os=> ∃(j:Nat),φ= [(2,.ptr 0 0),(10,.x (.sl (rows ZC l))),(11,.x (.int .i64 l.length)),(12,.x (.int .i64 j))]/\os= [.box [.x (.str t.1),.x (.int .i64 t.2.1),.x (.bool t.2.2.1)]]/\j<=l.length/\(l.take j).all (λv=>(Yz t.2.1 v).2)=true) (ZJ l.length 12) ?_ (λφ os hI=> ?_)
 .exact W5
 .obtain⟨j,rfl,rfl,hj,hall⟩:=hI;refine rg [2,10,11,12,13] ?_;refine cd (λh0=> ?_) (λh0=> ?_)
  .have hj4:j<l.length:=Wm
   have hrw:=KY l j hj4;have hgj:l[j]=l.getD j []:=T8
   have hal:=Yt (λv=>(Yz t.2.1 v).2) l j hj4;rw[hgj]at hal;have uu:=YB uu hrw;refine rg [2,6,10,11,12] ?_;refine rg [2,8,10,11,12] ?_;refine rg [2,10,11,12,24] ?_;refine cd (λh1=> ?_) (λh1=> ?_)
   .refine Wj ?_;rw[if_neg (by rw[Zl (λv=>(Yz t.2.1 v).2) l j hj4 (by rw[hgj];simpa using h1)];decide)]
   .have hall2:(l.take (j+1)).all (λv=>(Yz t.2.1 v).2)=true:=by rw[hal,hall];simpa using h1
    refine rg [2,10,11,12] ?_;exact Th
  .refine Wj ?_;rw[YR J0]at hall;rw[if_pos hall]
theorem Zj1(t:Ze)(a:ZN):ZL Tryz.prog 157 [tyD t,atD a] (.x (.int .i64 (w5 t a))):=by
 unfold w5 tyD atD;refine ZF.pure (fC 157 true ?_) rfl;intro C0 E0;have uu:=YB @ZGU.eq_1 @ZGB.eq_1;have tT:=aQ (aQ ZB ZEN) ZEU;refine rg [2,3] ?_;refine Wj ?_
 (clear uu;grind)
abbrev Sn:=List (Tx×Int)
def snG(S:Sn)(k:Tx):Int:=(ZH S k).getD 0
def snS(S:Sn)(k:Tx):Sn:=Zy S k (snG S k+1)
theorem ZUG(S:Sn)(k:Tx):(Jz (Yw Ks kcI S) [X.str k])=(ZH S k).map λn=> [D.x (X.int .i64 n)]:=by
 rw[ZFG Ks kcI hkS S k];rfl
theorem ZOi(S:Sn)(k:Tx)(n:Int):Yp (Yw Ks kcI S) [X.str k] [D.x (X.int .i64 n)]=Yw Ks kcI (Zy S k n):=ZEK Ks kcI hkS S k n
def w4(S:Sn)(t:Ze)(a:ZN):Int:=if 0<snG S t.1\/twV t.2.1 a.2.1=true then 20 else 0
theorem ZkC(S:Sn)(t:Ze)(a:ZN)(hs:0<=snG S t.1/\snG S t.1<=1000000)(hl:a.2.1.length<=1000000):ZO Tryz.prog 155 [tyD t,atD a,.ptr 0 0] [.box [.mref 1],.mpo .str false (Yw Ks kcI S)] (.x (.int .i64 (w4 S t a))) [.box [.mref 1],.mpo .str false (Yw Ks kcI (snS S t.1))]:=by
 have hO:([.box [.mref 1],.mpo .str false (Yw Ks kcI (snS S t.1))]:J7).all (Ob.inP (λi=>decide (i<([.box [.mref 1],.mpo .str false (Yw Ks kcI (snS S t.1))]:J7).length)))=true:=by simp[Ob.inP,JB,D.inP,Qy]
 have hla:decide (a.2.1.length<=1000000)=true:=ZI hl;have hg:=ZUG S t.1;unfold w4 tyD atD snS;unfold snS at hO;unfold snG at hs hO|-;rcases hm:ZH S t.1 with _|n
 .rw[hm]at hg hO;simp only[ZM1,Qd]at hg hO|-;have hst:Yp (Yw Ks kcI S) [X.str t.1] [D.x (X.int .i64 1)]=Yw Ks kcI (Zy S t.1 (0+1)):=ZOi S t.1 1;refine ZF.mcallsX (fC 155 true ?_) WS hO Vk;intro C0 E0;have uu:=ξ5 @ZGU.eq_1 @ZOk.eq_1 hg hst hla;have tT:=aQ (aQ ZB ZEN) ZQA;refine rg [2,3,4] ?_;refine rg [2,3,6] ?_;refine rg [6] ?_;refine rg [5] ?_;refine lf ?_;refine⟨?_,_,rfl⟩;clear uu;grind
 .rw[hm]at hg hO hs;simp only[ξY,Yq]at hg hO hs|-;have hst:=ZOi S t.1 (n+1);refine ZF.mcallsX (fC 155 true ?_) WS hO Vk;intro C0 E0;have uu:=ξ5 @ZGU.eq_1 @ZOk.eq_1 hg hst hla;have tT:=aQ (aQ ZB ZEN) ZQA;refine rg [2,3,4] ?_;refine rg [2,3,6] ?_;refine rg [6] ?_;refine rg [5] ?_;refine lf ?_;refine⟨?_,_,rfl⟩;clear uu;grind
def w4T:J8->J7->Option (Bool×D×J7)
 | [.agg [.x (.str n),.x (.int .i64 k),.x (.bool b)],.agg [.x (.str nm),.x (.sl R)],.ptr 0 0],[.box [.mref 1],.mpo .str false P1]=>(unM ZC (ZCF .i64) P1).bind λS=>(ZM ZC R).bind λl=>some (decide ((0<=snG S n/\snG S n<=1000000)/\l.length<=1000000),.x (.int .i64 (w4 S (n,k,b,()) (nm,l,()))),[.box [.mref 1],.mpo .str false (Yw Ks kcI (snS S n))])
 |_,_=>none
theorem ZiO:TK Tryz.prog w4T 155:=by
 intro args os r os' h;unfold w4T at h;split at h
 .rename_i n k b nm R P1;obtain⟨S,rfl,i0⟩:=um ZP (ZBL .i64) h;obtain⟨l,rfl,i1⟩:=un ZP i0;obtain⟨h1,rfl,rfl⟩:=tn1 i1;exact ZkC S (n,k,b,()) (nm,l,()) h1.1 h1.2
 .cases h
def ZEg(e:ZY):D:= .agg [.x (.str e.1),.x (.sl (rows ZK e.2.1))]
def goA(g:Ze->ZN->Int)(L:List (Tx×Ze)):List ZN->Int
 | []=>0
 |a::l=>if g (Ke L (ZE a.1)) a≠0 then g (Ke L (ZE a.1)) a else goA g L l
theorem ZEh(l:List ZN)(j:Nat)(h:j<l.length):(rows ZK l)[j]? =some [X.str (l.getD j ([],[],())).1,X.sl (rows ZC (l.getD j ([],[],())).2.1)]:=by
 simp[rows,h,ZK,Jh,ZC,rSl,ZAL]
theorem ZKs{α:Type}(l:List α)(z:α)(j:Nat)(h:j<l.length):l.drop j=l.getD j z::l.drop (j+1):=by
 rw[ξW h];simp[h]
theorem ZbW(L:List (Tx×Ze))(M:List (Tx×Zi))(e:ZY)(f:FuncId)(g:Ze->ZN->Int)(hen:Enters Tryz.prog f)(hg: ∀t,∀a∈e.2.1,ZL Tryz.prog f [tyD t,atD a] (.x (.int .i64 (g t a))))(hl:e.2.1.length<=1000000)(hn: ∀a∈e.2.1,a.1.length<=1000000):
  ZO Tryz.prog 158 [.ptr 0 0,ZEg e,.fn f []] (scO L M) (.x (.int .i64 (goA g L e.2.1))) (scO L M):=by
 obtain⟨dn,l,u⟩:=e;simp only at hg hl hn|-;have hO:=ZCf L M;have h1:=ZGW L;have h2:=ZGY M;unfold ZEg;refine ZF.mcallsX (fC 158 true ?_) WS hO Vk;intro C0 E0;have uu:=ξ9 @ZNw.eq_1 h1 h2 @ZCa @ZCb @ZDw @ZDt @ZAe (ξ5 @ZAf @ZHd @ZHh @ZHj @ZHe);have tT:=aR ZB ZQX;refine WI.seq ?_;refine WI.regB tT [0,2,4] ?_;refine oG ?_;refine UH ?_;refine WI.regB tT [0,2,13,14,15] ?_;refine oS ?_
 refine W4 ?_;refine ND ?_;refine WI.dropT (scO L M) _ rfl J1 hO Tw ?_;refine WI.orderA [0,2,13,14,15] ?_;refine WI.loop (λφ os=> ∃(i:Nat),φ= [(0,.ptr 0 0),(2,.fn f []),(13,.x (.sl (rows ZK l))),(14,.x (.int .i64 l.length)),(15,.x (.int .i64 i))]/\os=scO L M/\i<=l.length/\goA g L (l.drop i)=goA g L l) (ZJ l.length 15) ?_ (λφ os hI=> ?_)
 .exact W5
 .obtain⟨i,rfl,rfl,hi,hgo⟩:=hI;refine WI.seq ?_;refine WI.regB tT [0,2,13,14,15,16] ?_;refine oG ?_;refine X0 ?_;refine WI.cond (b:=_) rfl rfl (λh0=> ?_) (λh0=> ?_)
  .try simp only[zB]at h0
   refine UT ?_;have hi4:i<l.length:=Wm
   have hrw:=ZEh l i hi4;have hdr:=ZKs l ([],[],()) i hi4;have hma:l.getD i ([],[],())∈l:=Vs
   generalize l.getD i ([],[],())=a at hrw hdr hma;have hna:=hn a hma;have hga:=hg (Ke L (ZE a.1)) a hma;rw[hdr,goA]at hgo;obtain⟨t,ht⟩: ∃t,t=Ke L (ZE a.1):=⟨_,rfl⟩;rw[<-ht]at hga hgo;have hmc:ZO Tryz.prog f [.agg [.x (.str t.1),.x (.int .i64 t.2.1),.x (.bool t.2.2.1)],.agg [.x (.str a.1),.x (.sl (rows ZC a.2.1))]] [.box [.mref 1,.mref 2],.mpo .str true (JS L),.mpo .str true (JN M),.box [.x (.str a.1),.x (.sl (rows ZC a.2.1))],.box [.x (.str t.1),.x (.int .i64 t.2.1),.x (.bool t.2.2.1)]] (.x (.int .i64 (g t a))) [.box [.mref 1,.mref 2],.mpo .str true (JS L),.mpo .str true (JN M),.box [.x (.str a.1),.x (.sl (rows ZC a.2.1))],.box [.x (.str t.1),.x (.int .i64 t.2.1),.x (.bool t.2.2.1)]]:=ZL.mc hga _;have uu:=Qu uu hrw ht.symm @tyD.eq_1;refine WI.regB tT [0,2,8,13,14,15] ?_
   refine W4 ?_;refine W4 ?_;refine X0 ?_;refine WI.dregB tT [0,2,8,9,13,14,15] ?_;refine Wn ?_;refine UO ?_;refine Xd ?_;refine Wz ?_;refine WI.regB (ZDC ZB hen hmc) [0,2,11,13,14,15] ?_;refine Us ?_;refine oC ?_;refine WQ ?_;refine WI.post ?_;refine WI.regB tT [0,2,11,13,14,15,34] ?_;refine WU ?_;refine oP ?_;refine ZNf (scO L M) _ rfl J1 hO Tw ?_;refine KI ?_;refine ZA ?_;refine WI.cond (b:=_) rfl rfl (λh1=> ?_) (λh1=> ?_)
   .try simp only[zB]at h1
    refine WI.seq ?_;refine WI.regB tT [6] ?_;refine GB ?_;refine Tu ?_
    first|refine lfR ?_|refine ZAs ?_|refine ZAY ?_|refine ZAi ?_
    refine⟨?_,_,rfl⟩;rw[<-hgo,if_pos WC]
   .try simp only[zB]at h1
    rw[if_neg WC]at hgo;have hgo2:=hgo;refine WI.skip ?_;refine Nv ?_;refine WI.regB tT [0,2,13,14,15] ?_;refine oG ?_;refine Wl ?_;exact⟨⟨i+1,rfl,rfl,J0,hgo2⟩,Wa⟩
  .try simp only[zB]at h0
   refine Vb ?_;refine Wz ?_;refine WI.regB tT [6] ?_;refine Vm ?_
   first|refine lfR ?_|refine ZAs ?_|refine ZAY ?_|refine ZAi ?_
   rw[ZBB J0]at hgo;refine⟨?_,[],J1⟩;rw[<-hgo];rfl
def goS(L:List (Tx×Ze)):Sn->List ZN->Int×Sn
 |S,[]=>(0,S)
 |S,a::l=>if w4 S (Ke L (ZE a.1)) a≠0 then(w4 S (Ke L (ZE a.1)) a,snS S (Ke L (ZE a.1)).1)else goS L (snS S (Ke L (ZE a.1)).1) l
abbrev sc5(L:List (Tx×Ze))(M:List (Tx×Zi))(S:Sn):J7:= [.box [.mref 1,.mref 2],.mpo .str true (JS L),.mpo .str true (JN M),.box [.mref 4],.mpo .str false (Yw Ks kcI S)]
theorem ZPS(L:List (Tx×Ze))(M:List (Tx×Zi))(S:Sn):(sc5 L M S).all (Ob.inP (λi=>decide (i<(sc5 L M S).length)))=true:=by
 simp[Ob.inP,JB,D.inP,ZAe,ZAf,Qy]
theorem ZNO(S:Sn)(k:Tx)(v:Int)(k':Tx):ZH (Zy S k v) k'=if k'=k then some v else ZH S k':=by
 induction S with
 |nil=>by_cases h:k'=k<;>simp[Zy,ZH,h]
 |cons p S ih=>
  by_cases h1:k=p.1
  .subst h1;by_cases h:k'=p.1<;>simp[Zy,ZH,h]
  .by_cases h:k'=p.1
   .have hne: ¬p.1=k:=λe=>h1 e.symm
    subst h;simp[Zy,ZH,h1,hne]
   .simp only[Zy,ZH,h1,h,if_false,List.find?_cons,decide_false]at ih|-;exact ih
theorem ZVK(S:Sn)(k k':Tx):snG (snS S k) k'=if k'=k then snG S k+1 else snG S k':=by
 unfold snG snS;rw[ZNO];split<;>rfl
theorem Zd5(S:Sn):unM ZC (ZCF .i64) (Yw Ks kcI S)=some S:=ZUP ZP (ZBL .i64) S
theorem Zbk(L:List (Tx×Ze))(M:List (Tx×Zi))(e:ZY)(S0:Sn)(hS0: ∀k,0<=snG S0 k/\snG S0 k<=1)(hl:e.2.1.length<=1000000)(hn: ∀a∈e.2.1,a.1.length<=1000000/\a.2.1.length<=1000000):
  ZO Tryz.prog 158 [.ptr 0 0,ZEg e,.fn 155 [.ptr 3 0]] (sc5 L M S0) (.x (.int .i64 (goS L S0 e.2.1).1)) (sc5 L M (goS L S0 e.2.1).2):=by
 obtain⟨dn,l,u⟩:=e;simp only at hl hn|-;have hO:=ZPS L M (goS L S0 l).2;have h1:=ZGW L;have h2:=ZGY M;unfold ZEg;refine ZF.mcallsX (fC 158 true ?_) WS hO Vk;intro C0 E0;have uu:=ξ9 @ZNw.eq_1 @w4T.eq_1 h1 h2 @Zd5 @ZCa @ZCb @ZDw (ξ6 @ZDt @ZAe @ZAf @ZAX @ZDP @Qy);have tT:=aT (aR ZB ZQX) ZiO;refine rg [0,2,4] ?_;refine rg [0,2,13,14,15] ?_;refine WI.dropT (sc5 L M S0) _ rfl J1 (ZPS L M S0) Tw ?_;refine WI.orderA [0,2,13,14,15] ?_;refine WI.loop (λφ os=> ∃(i:Nat) (S:Sn),φ= [(0,.ptr 0 0),(2,.fn 155 [.ptr 3 0]),(13,.x (.sl (rows ZK l))),(14,.x (.int .i64 l.length)),(15,.x (.int .i64 i))]/\os=sc5 L M S/\i<=l.length/\(∀k,0<=snG S k/\snG S k<=1)/\goS L S (l.drop i)=goS L S0 l) (ZJ l.length 15) ?_ (λφ os hI=> ?_)
 .exact⟨0,S0,rfl,rfl,J0,hS0,rfl⟩
 .obtain⟨i,S,rfl,rfl,hi,hSi,hgo⟩:=hI;refine rg [0,2,13,14,15,16] ?_;refine cd (λh0=> ?_) (λh0=> ?_)
  .have hi4:i<l.length:=Wm
   have hrw:=ZEh l i hi4;have hdr:=ZKs l ([],[],()) i hi4;have hma:l.getD i ([],[],())∈l:=Vs
   generalize l.getD i ([],[],())=a at hrw hdr hma;obtain⟨hna,hna2⟩:=hn a hma;rw[hdr,goS]at hgo;obtain⟨t,ht⟩: ∃t,t=Ke L (ZE a.1):=⟨_,rfl⟩;rw[<-ht]at hgo;have hdd:decide ((0<=snG S t.1/\snG S t.1<=1000000)/\a.2.1.length<=1000000)=true:=ZI ⟨⟨(hSi t.1).1,by have:=(hSi t.1).2;omega⟩,hna2⟩;obtain⟨tn,tk,tb,tu⟩:=t;obtain⟨an,al,au⟩:=a;have uu:=ξ5 uu hrw ht.symm (@tyD.eq_1) hdd;refine rg [0,2,8,13,14,15] ?_;refine WI.dregB tT [0,2,8,9,13,14,15] ?_
   refine Wn ?_;refine UO ?_;refine Xd ?_;refine rg [0,2,11,13,14,15] ?_;refine WI.post ?_;refine WI.regB tT [0,2,11,13,14,15,34] ?_;refine WU ?_;refine oP ?_;refine ZNf (sc5 L M (snS S tn)) _ rfl J1 (ZPS L M _) Tw ?_;refine GE ?_;refine cd (λh1=> ?_) (λh1=> ?_)
   .refine rg [6] ?_;refine lf ?_;rw[if_pos WC]at hgo;rw[<-hgo];exact Gn
   .rw[if_neg WC]at hgo;have hgo2:=hgo;have hw0:w4 S (tn,tk,tb,tu) (an,al,au)=0:=WC
    have hSn: ∀k,0<=snG (snS S tn) k/\snG (snS S tn) k<=1:=λk=>by
     rw[ZVK];have hz: ¬0<snG S tn:=λhh=>by unfold w4 at hw0;rw[if_pos (.inl hh)]at hw0;simp at hw0
     have:=hSi k;have:=hSi tn;split<;>omega
    refine rg [0,2,13,14,15] ?_;exact⟨⟨i+1,_,rfl,rfl,J0,hSn,hgo2⟩,Wa⟩
  .refine rg [6] ?_;refine lf ?_;rw[ZBB J0]at hgo;rw[<-hgo];exact⟨rfl,[],by simp[goS]⟩
def smA(l:List ZN):Prop:=l.length<=1000000/\ ∀a∈l,a.1.length<=1000000/\a.2.1.length<=1000000
instance (l:List ZN):Decidable (smA l):=by unfold smA;infer_instance
def ZHI(g:Ze->ZN->Int)(dn:Tx)(A:J6)(P1 P2:W2):Option (Bool×D×J7):=
 (unM ZC Zz P1).bind λL=>(unM ZC YW P2).bind λM=>(ZM ZK A).bind λl=>some (decide (smA l),.x (.int .i64 (goA g L l)),scO L M)
def ZTG(dn:Tx)(A:J6)(P1 P2 P3:W2):Option (Bool×D×J7):=
 (unM ZC Zz P1).bind λL=>(unM ZC YW P2).bind λM=>(unM ZC (ZCF .i64) P3).bind λS=>(ZM ZK A).bind λl=>some (decide (smA l)&&decide (S.length=0),.x (.int .i64 (goS L S l).1),sc5 L M (goS L S l).2)
def ZFy:J8->J7->Option (Bool×D×J7)
 | [.ptr 0 0,.agg [.x (.str dn),.x (.sl A)],.fn 151 []],[.box [.mref 1,.mref 2],.mpo .str true P1,.mpo .str true P2]=>ZHI w1 dn A P1 P2
 | [.ptr 0 0,.agg [.x (.str dn),.x (.sl A)],.fn 152 []],[.box [.mref 1,.mref 2],.mpo .str true P1,.mpo .str true P2]=>ZHI w2 dn A P1 P2
 | [.ptr 0 0,.agg [.x (.str dn),.x (.sl A)],.fn 153 []],[.box [.mref 1,.mref 2],.mpo .str true P1,.mpo .str true P2]=>ZHI w3 dn A P1 P2
 | [.ptr 0 0,.agg [.x (.str dn),.x (.sl A)],.fn 155 [.ptr 3 0]],[.box [.mref 1,.mref 2],.mpo .str true P1,.mpo .str true P2,.box [.mref 4],.mpo .str false P3]=>ZTG dn A P1 P2 P3
 | [.ptr 0 0,.agg [.x (.str dn),.x (.sl A)],.fn 157 []],[.box [.mref 1,.mref 2],.mpo .str true P1,.mpo .str true P2]=>ZHI w5 dn A P1 P2
 |_,_=>none
theorem ZZw:Enters Tryz.prog 151:=QT 151
theorem ZaS:Enters Tryz.prog 152:=QT 152
theorem ZY7:Enters Tryz.prog 153:=QT 153
theorem ZaJ:Enters Tryz.prog 157:=QT 157
theorem ZHW{f:FuncId}{g:Ze->ZN->Int}(hen:Enters Tryz.prog f)(hg: ∀t (a:ZN),a.2.1.length<=1000000->ZL Tryz.prog f [tyD t,atD a] (.x (.int .i64 (g t a)))){dn:Tx}{A:J6}{P1 P2:W2}{r:D}{os':J7}(h:ZHI g dn A P1 P2=some (true,r,os')):
  ZO Tryz.prog 158 [.ptr 0 0,.agg [.x (.str dn),.x (.sl A)],.fn f []] [.box [.mref 1,.mref 2],.mpo .str true P1,.mpo .str true P2] r os':=by
 unfold ZHI at h;obtain⟨L,k1,h⟩:=Zg h;obtain⟨M,k2,h⟩:=Zg h;obtain⟨l,k3,h⟩:=Zg h;simp only[Yu,YP,Yl]at h;obtain⟨⟨hl,hn⟩,rfl,rfl⟩:=h;rw[ZCj ZP JC k1,ZCj ZP JP k2,<-Yo Zf k3];exact ZbW L M (dn,l,()) f g hen (λt a ha=>hg t a (hn a ha).2) hl (λa ha=>(hn a ha).1)
theorem ZYH: ∀args os r os',ZFy args os=some (true,r,os')->ZO Tryz.prog 158 args os r os':=by
 intro args os r os' h;unfold ZFy at h;split at h
 .exact ZHW ZZw (λt a _=>ZkL t a) h
 .exact ZHW ZaS (λt a _=>ZkM t a) h
 .exact ZHW ZY7 (λt a hl=>ZkJ t a hl) h
 .unfold ZTG at h;obtain⟨L,k1,h⟩:=Zg h;obtain⟨M,k2,h⟩:=Zg h;obtain⟨S,k4,h⟩:=Zg h;obtain⟨l,k3,h⟩:=Zg h;simp only[Yu,YP,Zj,Yl]at h;obtain⟨⟨⟨hl,hn⟩,hS⟩,rfl,rfl⟩:=h;rw[ZCj ZP JC k1,ZCj ZP JP k2,ZCj ZP (ZBL .i64) k4,<-Yo Zf k3];obtain rfl:=ξS hS;exact Zbk L M (_,l,()) [] (λk=>by simp[snG,ZH]) hl hn
 .exact ZHW ZaJ (λt a _=>Zj1 t a) h
 .cases h
def ZHo(L:List (Tx×Ze))(l:List ZN):Int:=
 if goA w1 L l≠0 then goA w1 L l else if goA w2 L l≠0 then goA w2 L l else if goA w3 L l≠0 then goA w3 L l else if(goS L [] l).1≠0 then(goS L [] l).1 else goA w5 L l
theorem ZRe(l:List ZN):ZM ZK (rows ZK l)=some l:=ZS Zf l
theorem ZcM(L:List (Tx×Ze))(M:List (Tx×Zi))(e:ZY)(he:smA e.2.1):ZO Tryz.prog 118 [.ptr 0 0,ZEg e] (scO L M) (.x (.int .i64 (ZHo L e.2.1))) (scO L M):=by
 obtain⟨dn,l,u⟩:=e;simp only at he|-;have hsm:=ZI he;have hO:=ZCf L M;have h1:=ZGW L;have h2:=ZGY M;have h3:unM ZC (ZCF .i64) []=some []:=rfl;rcases hv:ZHo L l with v
 unfold ZHo at hv;unfold ZEg;refine ZF.mcallsX (fC 118 true ?_) WS hO Vk;intro C0 E0;have uu:=ξ9 @ZFy.eq_1 @ZFy.eq_2 @ZFy.eq_3 @ZFy.eq_4 @ZFy.eq_5 @ZFy.eq_6 @ZHI.eq_1 @ZTG.eq_1 (ξ9 h1 h2 h3 @Zd5 @ZRe hsm @ZCa @ZCb (ξ7 @ZDw @ZDt @ZAe @ZAf @ZAX @ZDP @Qy));have tT:=aT ZB ZYH;refine rg [0,3] ?_;refine rg [0,3,5] ?_;refine rg [0,3,11,12] ?_;refine WI.loopN 6 ?_;refine WI.round ?_;refine rg [0,3,11,12,13] ?_;refine ct (λh0=> ?_) (λh0=> ?_)
 .refine V4 ?_;refine cd (λh1=> ?_) (λh1=> ?_)
  .exact VU
  .refine VY ?_;refine ct (λh0=> ?_) (λh0=> ?_)
   .refine V4 ?_;refine cd (λh1=> ?_) (λh1=> ?_)
    .exact VU
    .refine VY ?_;refine ct (λh0=> ?_) (λh0=> ?_)
     .refine V4 ?_;refine cd (λh1=> ?_) (λh1=> ?_)
      .exact VU
      .refine VY ?_;refine ct (λh0=> ?_) (λh0=> ?_)
       .refine V4 ?_;refine cd (λh1=> ?_) (λh1=> ?_)
        .exact VU
        .refine VY ?_;refine ct (λh0=> ?_) (λh0=> ?_)
         .refine V4 ?_;refine cd (λh1=> ?_) (λh1=> ?_)
          .exact VU
          .refine VY ?_;refine ce (λh0=> ?_) (λh0=> ?_)
           .exact US
           .exact VU
         .exact US
       .exact US
     .exact US
   .exact US
 .exact US
def ZPg:J8->J7->Option (Bool×D×J7)
 | [.ptr 0 0,.agg [.x (.str dn),.x (.sl R)]],[.box [.mref 1,.mref 2],.mpo .str true P1,.mpo .str true P2]=>(unM ZC Zz P1).bind λL=>(unM ZC YW P2).bind λM=>(ZM ZK R).bind λl=>some (decide (smA l),.x (.int .i64 (ZHo L l)),[.box [.mref 1,.mref 2],.mpo .str true (JS L),.mpo .str true (JN M)])
 |_,_=>none
theorem ZXd:TK Tryz.prog ZPg 118:=by
 intro args os r os' h;unfold ZPg at h;split at h
 .rename_i dn R P1 P2;obtain⟨L,rfl,i0⟩:=um ZP JC h;obtain⟨M,rfl,i1⟩:=um ZP JP i0;obtain⟨l,rfl,i2⟩:=un Zf i1;obtain⟨h1,rfl,rfl⟩:=tn1 i2;exact ZcM L M (dn,l,()) h1
 .cases h
def OC:Tx:= [111,98,106,101,99,116,99,108,97,115,115]
def snL(l:List Tx):Sn:=l.foldl snS []
theorem ZNG(l:List Tx)(k:Tx):snL (l++ [k])=snS (snL l) k:=by unfold snL;rw[ZM0];rfl
theorem ZGr(l:List Tx)(k:Tx):ZH (snL l) k=if k∈l then some (l.count k:Int)else none:=by
 suffices h: ∀(n:Nat) (l:List Tx),l.length=n->ZH (snL l) k=if k∈l then some (l.count k:Int)else none from h _ l rfl
 intro n
 induction n with
 |zero=>intro l hl;obtain rfl:=ξS hl;rfl
 |succ n ihn=>
  intro l hl;rcases List.eq_nil_or_concat l with rfl|⟨l0,x,rfl⟩
  .simp at hl
  have ih:=ihn l0 UC;rw[List.concat_eq_append,ZNG];unfold snS;rw[ZNO];by_cases h:k=x
  .subst h;rw[if_pos rfl,if_pos J1];unfold snG;rw[ih,List.count_append];by_cases hk:k∈l0
   .rw[if_pos hk];simp
   .rw[if_neg hk,List.count_eq_zero_of_not_mem hk];simp
  .rw[if_neg h,ih,List.count_append];have hx: ¬x=k:=λe=>h e.symm
   by_cases hk:k∈l0
   .rw[if_pos hk,if_pos (by simp[hk])];simp[hx]
   .rw[if_neg hk,if_neg (by simp[hk,h])]
abbrev snM(l:List Tx):W2:=Yw Ks kcI (snL l)
theorem ZFU{l:List Tx}{k:Tx}(h:k∈l):Jz (snM l) [X.str k]=some [D.x (X.int .i64 (l.count k))]:=by
 rw[ZUG,ZGr,if_pos h];rfl
theorem ZHK{l:List Tx}{k:Tx}(h:k∉l):Jz (snM l) [X.str k]=none:=by
 rw[ZUG,ZGr,if_neg h];rfl
theorem ZR9{l:List Tx}{k:Tx}(h:k∈l):Yp (snM l) [X.str k] [D.x (X.int .i64 ((l.count k:Int)+1))]=snM (l++ [k]):=by
 rw[ZOi];unfold snM;rw[ZNG];unfold snS snG;rw[ZGr,if_pos h];rfl
theorem ZIX{l:List Tx}{k:Tx}(h:k∉l):Yp (snM l) [X.str k] [D.x (X.int .i64 1)]=snM (l++ [k]):=by
 rw[ZOi];unfold snM;rw[ZNG];unfold snS snG;rw[ZGr,if_neg h];rfl
theorem ZSt(l:List Tx)(k:Tx):k∈l↔ ∃n,(k,n)∈snL l:=by
 have key: ∀(S:Sn) (k:Tx),(ZH S k).isSome=true↔ ∃n,(k,n)∈S:=by
  intro S k
  induction S with
  |nil=>simp[ZH]
  |cons p S ih=>
   by_cases h:k=p.1
   .subst h;simp[ZH];exact⟨p.2,.inl rfl⟩
   .have e:ZH (p::S) k=ZH S k:=by simp[ZH,h]
    rw[e,ih];constructor
    .rintro⟨n,hn⟩;exact⟨n,ξU _ hn⟩
    .rintro⟨n,hn⟩;rcases Jf.1 hn with hh|hh
     .exact absurd (congrArg Prod.fst hh) h
     .exact⟨n,hh⟩
 rw[<-key,ZGr];split<;>simp_all
def Qk(l:List ZN):List Tx:=l.map λa=>ZE a.1
def ZCo(l:List ZN):List Tx:=l.foldl (λc a=>if ZE a.1=OC then a.2.1 else c) []
def ZBG(M:List (Tx×Zi))(cs:List Tx):List Tx:=cs.flatMap λn=>(clV M (ZE n)).2.1++(clV M (ZE n)).2.2.1
def ZCm(M:List (Tx×Zi))(H:List Tx)(n:Tx):Bool:=(ZH M (ZE n)).isSome&&(clV M (ZE n)).2.1.all λx=>decide (x∈H)
def ZH9(L:List (Tx×Ze))(M:List (Tx×Zi))(l:List ZN):Int:=
 if ZHo L l≠0 then ZHo L l
 else if((ZCo l).all (ZCm M (Qk l))&&((Qk l).all (λh=>decide (h∈OC::ZBG M (ZCo l)))&&decide (ZCo l≠ [])))=true then 0 else 65
theorem ZQ2(l:List ZN)(i:Nat)(h:i<l.length):Qk (l.take (i+1))=Qk (l.take i)++ [ZE (l.getD i ([],[],())).1]:=by
 unfold Qk;rw[JW h,Jj];simp[h]
theorem ZPz(l:List ZN)(i:Nat)(h:i<l.length):ZCo (l.take (i+1))=if ZE (l.getD i ([],[],())).1=OC then(l.getD i ([],[],())).2.1 else ZCo (l.take i):=by
 unfold ZCo;rw[JW h,ZM0];simp[h]
theorem ZVv{l:List ZN}(h:smA l)(hv: ∀a∈l,∀v∈a.2.1,v.length<=1000000):(ZCo l).length<=1000000/\ ∀v∈ZCo l,v.length<=1000000:=by
 have key: ∀(m:List ZN) (c:List Tx),(∀a∈m,a∈l)->(c.length<=1000000/\ ∀v∈c,v.length<=1000000)->(m.foldl (λc a=>if ZE a.1=OC then a.2.1 else c) c).length<=1000000/\ ∀v∈m.foldl (λc a=>if ZE a.1=OC then a.2.1 else c) c,v.length<=1000000:=by
  intro m
  induction m with
  |nil=>intro c _ hc;exact hc
  |cons a m ih=>
   intro c hm hc;rw[ZK2];refine ih _ (λx hx=>hm x (ξU _ hx)) ?_;split
   .exact⟨(h.2 a (hm a ZAm)).2,hv a (hm a ZAm)⟩
   .exact hc
 exact key l [] (λ_ h=>h) J1
def bdC(M:List (Tx×Zi)):Prop:= ∀k,(clV M k).2.1.length<=1000000/\(clV M k).2.2.1.length<=1000000
theorem ZQy(M:List (Tx×Zi))(cs:List Tx)(i:Nat)(h:i<cs.length):ZBG M (cs.take (i+1))=ZBG M (cs.take i)++((clV M (ZE (cs.getD i []))).2.1++(clV M (ZE (cs.getD i []))).2.2.1):=by
 unfold ZBG;rw[JW h,ZdQ];simp[h]
theorem ZTq{M:List (Tx×Zi)}(hM:bdC M): ∀cs:List Tx,(ZBG M cs).length<=cs.length*2000000
 | []=>by simp[ZBG]
 |n::cs=>by
  have:=ZTq hM cs;have:=hM (ZE n);unfold ZBG at*;rw[ZPw,ZW,ZW,Yx];omega
theorem ZWx{α:Type}{l:List α}{i:Nat}{q:α}(h:l[i]? =some q): ∀x,x∈l↔x=q\/x∈l.eraseIdx i:=by
 intro x;have hp:l.Perm (q::l.eraseIdx i):=by
  obtain⟨hi,he⟩:=ZX h;rw[List.eraseIdx_eq_take_drop_succ]
  conv=>lhs;rw[<-ZBb i l,ξW hi,he]
  exact List.perm_middle
 rw[hp.mem_iff,Jf]
abbrev scE(L:List (Tx×Ze))(M:List (Tx×Zi))(dn:Tx)(l:List ZN)(H:List Tx):J7:= [.box [.mref 1,.mref 2],.mpo .str true (JS L),.mpo .str true (JN M),.box [.x (.str dn),.x (.sl (rows ZK l))],.mpo .str false (snM H)]
abbrev scF(L:List (Tx×Ze))(M:List (Tx×Zi))(dn:Tx)(l:List ZN)(H Y:List Tx):J7:= [.box [.mref 1,.mref 2],.mpo .str true (JS L),.mpo .str true (JN M),.box [.x (.str dn),.x (.sl (rows ZK l))],.mpo .str false (snM H),.mpo .str false (snM Y)]
theorem ZLY(L:List (Tx×Ze))(M:List (Tx×Zi))(dn:Tx)(l:List ZN)(H:List Tx):(scE L M dn l H).all (Ob.inP (λi=>decide (i<(scE L M dn l H).length)))=true:=by
 simp[Ob.inP,JB,D.inP,ZAe,ZAf,Qy]
theorem ZfF(L:List (Tx×Ze))(M:List (Tx×Zi))(dn:Tx)(l:List ZN)(H Y:List Tx):(scF L M dn l H Y).all (Ob.inP (λi=>decide (i<(scF L M dn l H Y).length)))=true:=by
 simp[Ob.inP,JB,D.inP,ZAe,ZAf,Qy]
abbrev scG(L:List (Tx×Ze))(M:List (Tx×Zi))(dn:Tx)(l:List ZN)(H Y:List Tx)(c:Zi):J7:= [.box [.mref 1,.mref 2],.mpo .str true (JS L),.mpo .str true (JN M),.box [.x (.str dn),.x (.sl (rows ZK l))],.mpo .str false (snM H),.mpo .str false (snM Y),.box [.x (.str c.1),.x (.sl (rows ZC c.2.1)),.x (.sl (rows ZC c.2.2.1))]]
set_option maxHeartbeats 4000000 in
theorem Zgl(L:List (Tx×Ze))(M:List (Tx×Zi))(e:ZY)(he:smA e.2.1)(hv: ∀a∈e.2.1,∀v∈a.2.1,v.length<=1000000)(hM:bdC M):ZO Tryz.prog 78 [.ptr 0 0,ZEg e] (scO L M) (.x (.int .i64 (ZH9 L M e.2.1))) (scO L M):=by
 obtain⟨dn,l,u⟩:=e;simp only at he hv|-;have hsm:=ZI he;have hll:l.length<=1000000:=he.1;have hO:=ZCf L M;have h1':=ZGW L;have h2':=ZGY M;obtain⟨hcl,hcv⟩:=ZVv he hv;have hoc:(OC:Tx)= [111,98,106,101,99,116,99,108,97,115,115]:=rfl;have hns:Yp [] [X.str [111,98,106,101,99,116,99,108,97,115,115]] [D.x (X.int .i64 1)]=snM [OC]:=by rfl
 rcases hres:ZH9 L M l with v
 unfold ZH9 at hres;unfold ZEg;refine ZF.mcallsX (fC 78 true ?_) WS hO Vk;intro C0 E0;have uu:=ξ9 @ZPg.eq_1 @ZSR.eq_1 @ZAB.eq_1 @ZGU.eq_1 @h1' @h2' @ZRe hsm (ξ9 hns @ZCa @ZCb @ZDw @ZDt @ZAe @ZAf @ZAX (YB @ZDP @Qy));have tT:=aQ (aQ (aT (aT ZB ZXd) ZZN) Km) ZEN;refine rg [0,3] ?_;refine rg [0,3,22] ?_;refine ce (λh0=> ?_) (λh0=> ?_)
 .simp at h0
 .refine rg [0,3,5] ?_;refine rg [0,3,5,27] ?_;refine cd (λh1=> ?_) (λh1=> ?_)
  .rw[if_pos WC]at hres;refine Wj ?_;exact XU
  .rw[if_neg WC]at hres;refine rg [0,3,6] ?_;refine rg [0,3,6,7] ?_;refine rg [0,6,7,31,32,33] ?_;refine WI.nnA ?_;refine WI.orderA [0,6,7,31,32,33] ?_;refine WI.loop (λφ os=> ∃(i:Nat),φ= [(0,.ptr 0 0),(6,.mref 4),(7,.x (.sl (rows ZC (ZCo (l.take i))))),(31,.x (.sl (rows ZK l))),(32,.x (.int .i64 l.length)),(33,.x (.int .i64 i))]/\os=scE L M dn l (Qk (l.take i))/\i<=l.length) (ZJ l.length 33) ?_ (λφ os hI=> ?_)
   .exact Vg
   .obtain⟨i,rfl,rfl,hi⟩:=hI;refine rg [0,6,7,31,32,33,34] ?_;refine cd (λh2=> ?_) (λh2=> ?_)
    .have hi4:i<l.length:=Wm
     have hrw:=ZEh l i hi4;have hnt:=ZQ2 l i hi4;have hct:=ZPz l i hi4;have hma:l.getD i ([],[],())∈l:=Vs
     generalize l.getD i ([],[],())=a at hrw hnt hct hma;have hna:=(he.2 a hma).1;have hcn:(Qk (l.take i)).count (ZE a.1)<=1000000:=ZEu ZbH (by unfold Qk;rw[Yc,Yv];have:=he.1;omega);have uu:=YB uu hrw;refine rg [0,6,7,9,31,32,33] ?_;refine rg [0,6,7,9,10,31,32,33] ?_;by_cases hk:ZE a.1∈Qk (l.take i)
     .have hg1:=ZFU hk;have hg2:=ZR9 hk;have uu:=JL uu hg1 hg2;refine rg [0,6,7,9,10,31,32,33] ?_;refine rg [0,6,7,9,31,32,33,45] ?_;refine cd (λh3=> ?_) (λh3=> ?_)
      .exact N2
      .rw[if_neg (λe=>h3 (e.trans hoc))]at hct;exact W9
     .have hg1:=ZHK hk;have hg2:=ZIX hk;have uu:=JL uu hg1 hg2;refine rg [0,6,7,9,10,31,32,33] ?_;refine rg [0,6,7,9,31,32,33,45] ?_;refine cd (λh3=> ?_) (λh3=> ?_)
      .exact N2
      .rw[if_neg (λe=>h3 (e.trans hoc))]at hct;exact W9
    .obtain rfl:i=l.length:=Wm
     rw[JX];refine WI.orderA [0,6,7] ?_;generalize Qk l=H at hres|-;generalize ZCo l=cs at hres hcl hcv|-;refine rg [0,6,7,11] ?_;refine rg [0,6,7,11,51,52,53] ?_;refine WI.orderA [0,6,7,11,51,52,53] ?_;refine WI.loop (λφ os=> ∃(i:Nat),φ= [(0,.ptr 0 0),(6,.mref 4),(7,.x (.sl (rows ZC cs))),(11,.mref 5),(51,.x (.sl (rows ZC cs))),(52,.x (.int .i64 cs.length)),(53,.x (.int .i64 i))]/\os=scF L M dn l H (OC::ZBG M (cs.take i))/\i<=cs.length/\(cs.take i).all (ZCm M H)=true) (ZJ cs.length 53) ?_ (λφ os hI=> ?_)
     .exact W5
     .obtain⟨i,rfl,rfl,hi,hall⟩:=hI;refine rg [0,6,7,11,51,52,53,54] ?_;refine cd (λh4=> ?_) (λh4=> ?_)
      .have hi4:i<cs.length:=Wm
       have hrw:=KY cs i hi4;have hmt:=ZQy M cs i hi4;have hnl:(cs.getD i []).length<=1000000:=by rw[show cs.getD i []=cs[i] by simp[hi4]];exact hcv _ (YK hi4)
       have hal:=Yt (ZCm M H) cs i hi4;have hgi:cs[i]=cs.getD i []:=G8
       have hno:ZCm M H (cs.getD i [])=false->cs.all (ZCm M H)=false:=λh=>Zl (ZCm M H) cs i hi4 HT
       rw[hgi]at hal;have hYl:=ZTq hM (cs.take i);rw[Yv]at hYl;generalize ZBG M (cs.take i)=Y0 at hmt hYl|-;generalize cs.getD i []=n at hrw hmt hnl hal hno;have hb:=hM (ZE n);have hcd:ZCm M H n=((ZH M (ZE n)).isSome&&(clV M (ZE n)).2.1.all λx=>decide (x∈H)):=rfl;obtain⟨c,hc⟩: ∃c,c=clV M (ZE n):=⟨_,rfl⟩;rw[<-hc]at hmt hb hcd;have hd47:decide (n.length<=140737488355328)=true:=ZI J0;have uu:=ξ5 uu hrw hc.symm (@clD.eq_1) hd47;refine rg [0,6,7,11,13,51,52,53] ?_;refine rg [0,6,7,11,14,15,51,52,53] ?_;refine rg [0,6,7,11,14,51,52,53,64] ?_;refine cd (λh5=> ?_) (λh5=> ?_)
       .have hno2:=hno (by rw[hcd];clear uu;grind);rw[hno2,ZFD,if_neg WT]at hres;refine Wj ?_;exact XU
       .have hso:(ZH M (ZE n)).isSome=true:=Ww
        rw[hso,ZAk]at hcd;refine rg [0,6,7,11,14,51,52,53,66,67,68] ?_;refine WI.orderA [0,6,7,11,14,51,52,53,66,67,68] ?_;refine WI.loop (λφ os=> ∃(k:Nat),φ= [(0,.ptr 0 0),(6,.mref 4),(7,.x (.sl (rows ZC cs))),(11,.mref 5),(14,.ptr 6 0),(51,.x (.sl (rows ZC cs))),(52,.x (.int .i64 cs.length)),(53,.x (.int .i64 i)),(66,.x (.sl (rows ZC c.2.1))),(67,.x (.int .i64 c.2.1.length)),(68,.x (.int .i64 k))]/\os=scG L M dn l H (OC::(Y0++c.2.1.take k)) c/\k<=c.2.1.length/\(c.2.1.take k).all (λx=>decide (x∈H))=true) (ZJ c.2.1.length 68) ?_ (λφ os hI=> ?_)
        .exact⟨0,rfl,by rw[ZB0,Kg],J0,rfl⟩
        .obtain⟨k,rfl,rfl,hk,hka⟩:=hI;refine rg [0,6,7,11,14,51,52,53,66,67,68,69] ?_;refine cd (λh6=> ?_) (λh6=> ?_)
         .have hk4:k<c.2.1.length:=Wm
          have hrk:=KY c.2.1 k hk4;have hgk:c.2.1[k]=c.2.1.getD k []:=HP
          have htk:OC::(Y0++c.2.1.take (k+1))=(OC::(Y0++c.2.1.take k))++ [c.2.1.getD k []]:=by rw[JW hk4,hgk];simp
          have hak:=Yt (λx=>decide (x∈H)) c.2.1 k hk4;have hnk:c.2.1.getD k []∉H->c.2.1.all (λx=>decide (x∈H))=false:=λh=>Zl (λx=>decide (x∈H)) c.2.1 k hk4 (by rw[hgk];exact decide_eq_false h)
          rw[hgk]at hak;have hYk:(OC::(Y0++c.2.1.take k)).length<=4000000000000:=by rw[Yx,ZW,Yv];omega
          generalize c.2.1.getD k []=x at hrk htk hak hnk;generalize OC::(Y0++c.2.1.take k)=Y at htk hYk;have hcy:=ZEu (ZbH (a:=x) (l:=Y)) hYk;have uu:=YB uu hrk;refine rg [0,6,7,11,14,17,51,52,53,66,67,68] ?_;by_cases hxH:x∈H
          .have hg1:=ZFU hxH;have hcp:0<H.count x:=ZXp.2 hxH;have uu:=YB uu hg1;refine rg [0,6,7,11,14,17,51,52,53,66,67,68,75] ?_;refine ce (λh7=> ?_) (λh7=> ?_)
           .have:((H.count x:Nat):Int)=0:=by simpa using h7
            omega
           .have hka2:(c.2.1.take (k+1)).all (λx=>decide (x∈H))=true:=by rw[hak,hka,ZI hxH];rfl
            by_cases hxY:x∈Y
            .have hg2:=ZFU hxY;have hg3:=ZR9 hxY;exact UA
            .have hg2:=ZHK hxY;have hg3:=ZIX hxY;exact UA
          .have hg1:=ZHK hxH;have uu:=YB uu hg1;refine rg [0,6,7,11,14,17,51,52,53,66,67,68,75] ?_;refine ct (λh7=> ?_) (λh7=> ?_)
           .refine Wj ?_;rw[hno (by rw[hcd];exact hnk hxH),ZFD,if_neg WT]at hres;exact XU
           .simp at h7
         .obtain rfl:k=c.2.1.length:=Wm
          rw[JX]at hka;rw[JX];rw[hka]at hcd;have hall2:(cs.take (i+1)).all (ZCm M H)=true:=by rw[hal,hall,hcd];rfl
          refine rg [0,6,7,11,51,52,53,82,83,84] ?_;refine WI.orderA [0,6,7,11,51,52,53,82,83,84] ?_;refine WI.loop (λφ os=> ∃(k:Nat),φ= [(0,.ptr 0 0),(6,.mref 4),(7,.x (.sl (rows ZC cs))),(11,.mref 5),(51,.x (.sl (rows ZC cs))),(52,.x (.int .i64 cs.length)),(53,.x (.int .i64 i)),(82,.x (.sl (rows ZC c.2.2.1))),(83,.x (.int .i64 c.2.2.1.length)),(84,.x (.int .i64 k))]/\os=scG L M dn l H (OC::(Y0++(c.2.1++c.2.2.1.take k))) c/\k<=c.2.2.1.length) (ZJ c.2.2.1.length 84) ?_ (λφ os hI=> ?_)
          .exact⟨0,rfl,by rw[ZB0,Kg],J0⟩
          .obtain⟨k,rfl,rfl,hk⟩:=hI;refine rg [0,6,7,11,51,52,53,82,83,84,85] ?_;refine cd (λh8=> ?_) (λh8=> ?_)
           .have hk4:k<c.2.2.1.length:=Wm
            have hrk:=KY c.2.2.1 k hk4;have hgk:c.2.2.1[k]=c.2.2.1.getD k []:=HP
            have htk:OC::(Y0++(c.2.1++c.2.2.1.take (k+1)))=(OC::(Y0++(c.2.1++c.2.2.1.take k)))++ [c.2.2.1.getD k []]:=by rw[JW hk4,hgk];simp
            have hYk:(OC::(Y0++(c.2.1++c.2.2.1.take k))).length<=4000000000000:=by rw[Yx,ZW,ZW,Yv];omega
            generalize c.2.2.1.getD k []=x at hrk htk;generalize OC::(Y0++(c.2.1++c.2.2.1.take k))=Y at htk hYk;have hcy:=ZEu (ZbH (a:=x) (l:=Y)) hYk;have uu:=YB uu hrk;refine rg [0,6,7,11,19,51,52,53,82,83,84] ?_;by_cases hxY:x∈Y
            .have hg2:=ZFU hxY;have hg3:=ZR9 hxY;exact UR
            .have hg2:=ZHK hxY;have hg3:=ZIX hxY;exact UR
           .obtain rfl:k=c.2.2.1.length:=Wm
            rw[JX];refine WI.dropT (scF L M dn l H (OC::(Y0++(c.2.1++c.2.2.1)))) _ rfl J1 (ZfF L M dn l _ _) Tw ?_;refine WI.orderA [0,6,7,11,51,52,53] ?_;refine rg [0,6,7,11,51,52,53] ?_;exact⟨⟨i+1,rfl,by rw[hmt],J0,hall2⟩,Wa⟩
      .obtain rfl:i=cs.length:=Wm
       rw[JX]at hall|-;refine WI.orderA [6,7,11] ?_;rw[hall,ZAk]at hres;generalize OC::ZBG M cs=Y at hres|-;refine rg [7,11,95] ?_;refine WI.orderA [7,11,95] ?_;refine WI.loop (λφ os=> ∃(R:Sn) (cur:Option Pr),φ= [(7,.x (.sl (rows ZC cs))),(11,.mref 5),(95,.iref 4 6)]/\os= [.box [.mref 1,.mref 2],.mpo .str true (JS L),.mpo .str true (JN M),.box [.x (.str dn),.x (.sl (rows ZK l))],.mit .str false (snM H) 6 (Yw Ks kcI R) cur,.mpo .str false (snM Y),.itr]/\(∀p∈R,p.1∈H)/\(∀h∈H,h∈Y\/ ∃n,(h,n)∈R)) (ZO4 4) ?_ (λφ os hI=> ?_)
       .exact⟨snL H,none,rfl,rfl,λp hp=>(ZSt H p.1).2 ⟨p.2,hp⟩,λh hh=> .inr ((ZSt H h).1 hh)⟩
       .obtain⟨R,cur,rfl,rfl,hR1,hR2⟩:=hI;refine nz ?_;refine WI.nextMA [7,11,95,97] (λhn37=> ?_) (λi37 q37 hn37=> ?_)
        .simp only[Yw,ZcU]at hn37;subst hn37;have hHY:H.all (λh=>decide (h∈Y))=true:=Yg.2 λh hh=>ZI (by rcases hR2 h hh with h1|⟨n,h1⟩;exact h1;cases h1)
         rw[hHY,ZAk]at hres;refine nz ?_;refine ce (λh9=> ?_) (λh9=> ?_)
         .exact absurd h9 WT
         .refine Wj ?_;refine⟨?_,_,rfl⟩;rw[<-hres];clear uu;rcases cs with _|⟨x,cs⟩<;>simp;omega
        .rw[Zf3]at hn37;obtain⟨p,hp,rfl⟩:=Zc hn37;have hi37:=(ZX hp).1;have hpH:=hR1 p (JE hp);refine nz ?_;refine ct (λh9=> ?_) (λh9=> ?_)
         .refine rg [7,11,20,95] ?_;by_cases hpY:p.1∈Y
          .have hg1:=ZFU hpY;have hcp:0<Y.count p.1:=ZXp.2 hpY;have uu:=YB uu hg1;refine rg [7,11,95,103] ?_;refine ce (λh10=> ?_) (λh10=> ?_) (kB:=λh=>h.h)
           .have:((Y.count p.1:Nat):Int)=0:=by simpa using h10
            omega
           .have hR3: ∀h∈H,h∈Y\/ ∃n,(h,n)∈R.eraseIdx i37:=λh hh=>by
             rcases hR2 h hh with h1|⟨n,h1⟩
             .exact .inl h1
             .rcases(ZWx hp (h,n)).1 h1 with h2|h2
              .exact .inl (by rw[show h=p.1 from congrArg Prod.fst h2];exact hpY)
              .exact .inr ⟨n,h2⟩
            refine WI.orderA [7,11,95] ?_;refine nz ?_;exact⟨⟨R.eraseIdx i37,_,rfl,rfl,λq hq=>hR1 q (List.mem_of_mem_eraseIdx hq),hR3⟩,by simp only[ZO4,ZBd,ZC5,ZI9,ZJl];rw[ZWT,if_pos hi37];omega⟩
          .have hg1:=ZHK hpY;have uu:=YB uu hg1;refine rg [7,11,95,103] ?_;refine ct (λh10=> ?_) (λh10=> ?_)
           .refine Wj ?_;rw[show H.all (λh=>decide (h∈Y))=false from by rw[List.all_eq_false];exact⟨p.1,hpH,by simpa using hpY⟩,ZFD,if_neg WT]at hres;exact XU
           .simp at h10
         .exact absurd h9 WT
theorem ZDL(l:List Tx)(x:Tx):rows ZC (l++ [x])=rows ZC l++ [[X.str x]]:=Ge
theorem ZNc(l:List Ze)(j:Nat)(h:j<l.length):(rows Zz l)[j]? =some [X.str (l.getD j ([],0,false,())).1,X.int .i64 (l.getD j ([],0,false,())).2.1,X.bool (l.getD j ([],0,false,())).2.2.1]:=by
 simp[rows,h,Zz,Jh,ZC,ZCF,ZNR,ZAL]
theorem ZSd(l:List Zi)(j:Nat)(h:j<l.length):(rows YW l)[j]? =some [X.str (l.getD j ([],[],[],())).1,X.sl (rows ZC (l.getD j ([],[],[],())).2.1),X.sl (rows ZC (l.getD j ([],[],[],())).2.2.1)]:=by
 simp[rows,h,YW,Jh,ZC,rSl,ZAL]
theorem Ziq(n:Tx)(k:Int)(b:Bool):ZL Tryz.prog 108 [.agg [.x (.str n),.x (.int .i64 k),.x (.bool b)]] (.x (.str n)):=by
 refine ZF.pure (fC 108 true ?_) rfl;intro C0 E0;have uu:=trivial;have tT:=(ZB:SsOk Tryz.prog YH);refine rg [1] ?_;refine Wy ?_
 exact Wo
theorem ZhO(n:Tx)(R R':J6):ZL Tryz.prog 111 [.agg [.x (.str n),.x (.sl R),.x (.sl R')]] (.x (.str n)):=by
 refine ZF.pure (fC 111 true ?_) rfl;intro C0 E0;have uu:=trivial;have tT:=(ZB:SsOk Tryz.prog YH);refine rg [1] ?_;refine Wy ?_
 exact Wo
theorem Zg6:ZL Tryz.prog 112 [] (.x (.int .i64 0)):=by
 refine ZF.pure (fC 112 true ?_) rfl;intro C0 E0;have uu:=trivial;have tT:=(ZB:SsOk Tryz.prog YH);refine rg [] ?_;refine rg [0] ?_;refine lf ?_
 exact Wo
def ZN8:J8->J5
 | [.agg [.x (.str n),.x (.int .i64 k),.x (.bool b)]]=>some (true,.x (.str n))
 |_=>none
theorem ZML:QK Tryz.prog ZN8 108:=by
 intro args r h;unfold ZN8 at h;split at h
 .obtain rfl:=Qv h;exact(Ziq _ _ _)
 .cases h
def ZOg:J8->J5
 | [.agg [.x (.str n),.x (.sl R),.x (.sl T)]]=>some (true,.x (.str n))
 |_=>none
theorem ZMp:QK Tryz.prog ZOg 111:=by
 intro args r h;unfold ZOg at h;split at h
 .obtain rfl:=Qv h;exact(ZhO _ _ _)
 .cases h
theorem ZgA(l:List Tx)(hl:l.length<=100000)(hn: ∀x∈l,x.length<=140737488355328):ZL Tryz.prog 72 [.x (.sl (rows ZC l)),.fn 63 []] (.x (.sl (rows ZC (l.map ZE)))):=by
 refine ZF.pure (fC 72 true ?_) rfl;intro C0 E0;have uu:=JL @ZAB.eq_1 @ZN8.eq_1 @ZOg.eq_1;have tT:=aQ (aQ (aQ ZB Km) ZML) ZMp;refine XY ?_;refine WI.loop (λφ os=> ∃(j:Nat),φ= [(1,.fn 63 []),(5,.ref 0 ((l.take j).map ZE).length 0 ((l.take j).map ZE).length),(8,.x (.sl (rows ZC l))),(9,.x (.int .i64 l.length)),(10,.x (.int .i64 j))]/\os= [.rows false 9 1 (rows ZC ((l.take j).map ZE))]/\j<=l.length) (ZJ l.length 10) ?_ (λφ os hI=> ?_)
 .exact Vg
 .obtain⟨j,rfl,rfl,hj⟩:=hI;refine rg [1,5,8,9,10,11] ?_;refine cd (λh0=> ?_) (λh0=> ?_)
  .have hj4:j<l.length:=Wm
   have hrw:=KY l j hj4;have htk:(l.take (j+1)).map ZE=(l.take j).map ZE++ [ZE (l.getD j [])]:=Tn
   have hd:=ZI (hn (l.getD j []) TO);have hlen:((l.take j).map ZE).length=j:=TE
   have hlen2:((l.take j).map ZE).length<=100000:=by rw[hlen];omega
   generalize l.getD j []=x at hrw htk hd;have uu:=JL uu hrw hd;exact Vq
  .obtain rfl:j=l.length:=Wm
   rw[JX];refine rg [4] ?_;refine Gd ?_
   exact Wo
theorem Zee(l:List Ze)(hl:l.length<=100000):ZL Tryz.prog 107 [.x (.sl (rows Zz l)),.fn 108 []] (.x (.sl (rows ZC (l.map (·.1))))):=by
 refine ZF.pure (fC 107 true ?_) rfl;intro C0 E0;have uu:=JL @ZN8.eq_1 @ZOg.eq_1 @ZAB.eq_1;have tT:=aQ (aQ (aQ ZB Km) ZML) ZMp;refine XY ?_;refine WI.loop (λφ os=> ∃(j:Nat),φ= [(1,.fn 108 []),(5,.ref 0 ((l.take j).map (·.1)).length 0 ((l.take j).map (·.1)).length),(8,.x (.sl (rows Zz l))),(9,.x (.int .i64 l.length)),(10,.x (.int .i64 j))]/\os= [.rows false 9 1 (rows ZC ((l.take j).map (·.1)))]/\j<=l.length) (ZJ l.length 10) ?_ (λφ os hI=> ?_)
 .exact Vg
 .obtain⟨j,rfl,rfl,hj⟩:=hI;refine rg [1,5,8,9,10,11] ?_;refine cd (λh0=> ?_) (λh0=> ?_)
  .have hj4:j<l.length:=Wm
   have hrw:=ZNc l j hj4;have htk:(l.take (j+1)).map (·.1)=(l.take j).map (·.1)++ [(l.getD j ([],0,false,())).1]:=Tn
   have hlen:((l.take j).map (·.1)).length=j:=TE
   have hlen2:((l.take j).map (·.1)).length<=100000:=by rw[hlen];omega
   generalize l.getD j ([],0,false,())=x at hrw htk;have uu:=YB uu hrw;exact Vq
  .obtain rfl:j=l.length:=Wm
   rw[JX];refine rg [4] ?_;refine Gd ?_
   exact Wo
theorem ZfQ(l:List Zi)(hl:l.length<=100000):ZL Tryz.prog 110 [.x (.sl (rows YW l)),.fn 111 []] (.x (.sl (rows ZC (l.map (·.1))))):=by
 refine ZF.pure (fC 110 true ?_) rfl;intro C0 E0;have uu:=JL @ZOg.eq_1 @ZN8.eq_1 @ZAB.eq_1;have tT:=aQ (aQ (aQ ZB Km) ZML) ZMp;refine XY ?_;refine WI.loop (λφ os=> ∃(j:Nat),φ= [(1,.fn 111 []),(5,.ref 0 ((l.take j).map (·.1)).length 0 ((l.take j).map (·.1)).length),(8,.x (.sl (rows YW l))),(9,.x (.int .i64 l.length)),(10,.x (.int .i64 j))]/\os= [.rows false 9 1 (rows ZC ((l.take j).map (·.1)))]/\j<=l.length) (ZJ l.length 10) ?_ (λφ os hI=> ?_)
 .exact Vg
 .obtain⟨j,rfl,rfl,hj⟩:=hI;refine rg [1,5,8,9,10,11] ?_;refine cd (λh0=> ?_) (λh0=> ?_)
  .have hj4:j<l.length:=Wm
   have hrw:=ZSd l j hj4;have htk:(l.take (j+1)).map (·.1)=(l.take j).map (·.1)++ [(l.getD j ([],[],[],())).1]:=Tn
   have hlen:((l.take j).map (·.1)).length=j:=TE
   have hlen2:((l.take j).map (·.1)).length<=100000:=by rw[hlen];omega
   generalize l.getD j ([],[],[],())=x at hrw htk;have uu:=YB uu hrw;exact Vq
  .obtain rfl:j=l.length:=Wm
   rw[JX];refine rg [4] ?_;refine Gd ?_
   exact Wo
def ZJe(T:List Ze):Int:=if T.all (λt=>decide (1<=t.2.1/\t.2.1<=5))=true then 0 else 1
def ZAW(l:List Tx)(b:Int):Int:=if l.all Jn=true then(if b≠0 then b else if decide (l.map ZE).Nodup=true then 0 else 9)else 13
theorem Ziu(T:List Ze)(hT:T.length<=100000):ZO Tryz.prog 109 [.ptr 0 0] [.box [.x (.sl (rows Zz T))]] (.x (.int .i64 (ZJe T))) [.box [.x (.sl (rows Zz T))]]:=by
 have hO: [Ob.box [.x (.sl (rows Zz T))]].all (Ob.inP (λi=>decide (i< [Ob.box [.x (.sl (rows Zz T))]].length)))=true:=rfl;refine ZF.mcallsX (fC 109 true ?_) WS hO Vk;intro C0 E0;have uu:=trivial;have tT:=(ZB:SsOk Tryz.prog YH);refine rg [0] ?_;refine rg [4,5,6] ?_;refine WI.orderA [4,5,6] ?_;refine WI.loop (λφ os=> ∃(j:Nat),φ= [(4,.x (.sl (rows Zz T))),(5,.x (.int .i64 T.length)),(6,.x (.int .i64 j))]/\os= [.box [.x (.sl (rows Zz T))]]/\j<=T.length/\(T.take j).all (λt=>decide (1<=t.2.1/\t.2.1<=5))=true) (ZJ T.length 6) ?_ (λφ os hI=> ?_)
 .exact W5
 .obtain⟨j,rfl,rfl,hj,hall⟩:=hI;refine rg [4,5,6,7] ?_;refine cd (λh0=> ?_) (λh0=> ?_)
  .have hj4:j<T.length:=Wm
   have hrw:=ZNc T j hj4;have hgj:T[j]=T.getD j ([],0,false,()):=T8
   have hal:=Yt (λt:Ze=>decide (1<=t.2.1/\t.2.1<=5)) T j hj4;have hno:decide (1<=(T.getD j ([],0,false,())).2.1/\(T.getD j ([],0,false,())).2.1<=5)=false->T.all (λt=>decide (1<=t.2.1/\t.2.1<=5))=false:=λh=>Zl (λt:Ze=>decide (1<=t.2.1/\t.2.1<=5)) T j hj4 (by rw[hgj];exact h)
   rw[hgj]at hal;generalize T.getD j ([],0,false,())=x at hrw hal hno;have uu:=YB uu hrw;refine rg [3,4,5,6] ?_;refine rg [4,5,6,17] ?_;refine cd (λh1=> ?_) (λh1=> ?_)
   .have hno2:=hno (decide_eq_false Ww);refine rg [1] ?_;refine lf ?_;exact⟨by unfold ZJe;rw[hno2];rfl,_,rfl⟩
   .have hall2:(T.take (j+1)).all (λt=>decide (1<=t.2.1/\t.2.1<=5))=true:=by rw[hal,hall,ZI (show 1<=x.2.1/\x.2.1<=5 by clear uu;grind)];rfl
    refine WI.pickA [0] ?_;refine rg [4,5,6] ?_;exact Th
  .refine rg [1] ?_;refine lf ?_;exact⟨by unfold ZJe;rw[YR J0]at hall;rw[hall];rfl,_,rfl⟩
def ZRa:J8->J7->Option (Bool×D×J7)
 | [.ptr 0 0],[.box [.x (.sl R)]]=>(ZM Zz R).bind λT=>some (decide (T.length<=100000),.x (.int .i64 (ZJe T)),[.box [.x (.sl (rows Zz T))]])
 |_,_=>none
theorem ZUN:TK Tryz.prog ZRa 109:=by
 intro args os r os' h;unfold ZRa at h;split at h
 .obtain⟨T,rfl,i0⟩:=un JC h;obtain⟨h1,rfl,rfl⟩:=tn1 i0;exact Ziu T h1
 .cases h
theorem ZD1(T:List Ze):ZM Zz (rows Zz T)=some T:=ZS JC T
def ZRO:J8->J5
 | []=>some (true,.x (.int .i64 0))
 |_=>none
theorem ZT9:QK Tryz.prog ZRO 112:=by
 intro args r h;unfold ZRO at h;split at h
 .obtain rfl:=Qv h;exact Zg6
 .cases h
theorem ZLn{l:List Tx}{j:Nat}(h:j<l.length):(l.take (j+1)).map ZE=(l.take j).map ZE++ [ZE (l.getD j [])]:=by
 rw[JW h,Jj];simp[h]
theorem ZZf{l:List Tx}{j:Nat}(h:j<l.length)(hin:ZE (l.getD j [])∈(l.take j).map ZE):decide (l.map ZE).Nodup=false:=by
 refine decide_eq_false λhn=> ?_
 have e:l=l.take j++l.getD j []::l.drop (j+1):=by
  exact N6
 rw[e,Jj,YO]at hn;exact(ZFC.1 hn).2.2 _ hin _ ZAm rfl
theorem ZcG(T:List Ze)(hT:T.length<=100000)(l:List Tx)(hl:l.length<=100000)(hn: ∀x∈l,x.length<=1000000):ZO Tryz.prog 106 [.x (.sl (rows ZC l)),.fn 109 [.ptr 0 0]] [.box [.x (.sl (rows Zz T))]] (.x (.int .i64 (ZAW l (ZJe T)))) [.box [.x (.sl (rows Zz T))]]:=by
 obtain⟨B,hB⟩: ∃B,B=ZJe T:=⟨_,rfl⟩;rw[<-hB];have hno:l.all Jn=false->ZAW l B=13:=λh=>by unfold ZAW;rw[h];rfl
 have hbb:l.all Jn=true->B≠0->ZAW l B=B:=λh h2=>by unfold ZAW;rw[if_pos h,if_pos h2]
 have hdu:l.all Jn=true->B=0->decide (l.map ZE).Nodup=false->ZAW l B=9:=λh h2 h3=>XO
 have hok:l.all Jn=true->B=0->(l.map ZE).Nodup->ZAW l B=0:=λh h2 h3=>X4
 have hO:=(rfl: [Ob.box [.x (.sl (rows Zz T))]].all (Ob.inP (λi=>decide (i< [Ob.box [.x (.sl (rows Zz T))]].length)))=true);refine ZF.mcallsX (fC 106 true ?_) WS hO Vk;intro C0 E0;have uu:=ξ5 @ZAB.eq_1 @ZLd.eq_1 @ZRa.eq_1 @ZRO.eq_1 @ZD1;have tT:=aT (aQ (aQ (aQ ZB Km) ZOV) ZT9) ZUN;refine rg [0,1] ?_;refine rg [0,1,11,12,13] ?_;refine WI.orderA [0,1,11,12,13] ?_;refine WI.loop (λφ os=> ∃(j:Nat),φ= [(0,.x (.sl (rows ZC l))),(1,.fn 109 [.ptr 0 0]),(11,.x (.sl (rows ZC l))),(12,.x (.int .i64 l.length)),(13,.x (.int .i64 j))]/\os= [.box [.x (.sl (rows Zz T))]]/\j<=l.length/\(l.take j).all Jn=true) (ZJ l.length 13) ?_ (λφ os hI=> ?_)
 .exact W5
 .obtain⟨j,rfl,rfl,hj,hall⟩:=hI;refine rg [0,1,11,12,13,14] ?_;refine cd (λh0=> ?_) (λh0=> ?_)
  .have hj4:j<l.length:=Wm
   have hrw:=KY l j hj4;have hgj:l[j]=l.getD j []:=T8
   have hal:=Yt Jn l j hj4;have hnt:Jn (l.getD j [])=false->l.all Jn=false:=λh=>Zl Jn l j hj4 (by rw[hgj];exact h)
   have hd:=ZI (hn l[j] (YK hj4));rw[hgj]at hal hd;generalize l.getD j []=x at hrw hal hnt hd;have uu:=JL uu hrw hd;refine rg [0,1,6,11,12,13] ?_;refine rg [0,1,11,12,13,19] ?_;refine cd (λh1=> ?_) (λh1=> ?_)
   .have hxf:Jn x=false:=Ww
    refine Wj ?_;exact⟨by rw[hno (hnt hxf)],_,rfl⟩
   .have hxt:Jn x=true:=Ww
    have hall2:(l.take (j+1)).all Jn=true:=by rw[hal,hall,hxt];rfl
    refine rg [0,1,11,12,13] ?_;exact Th
  .obtain rfl:j=l.length:=Wm
   rw[JX]at hall;refine rg [0,7] ?_;refine rg [0,7,24] ?_;refine cd (λh2=> ?_) (λh2=> ?_)
   .have hB0: ¬B=0:=Nn
    refine Wj ?_;exact⟨by rw[hbb hall hB0,hB],_,rfl⟩
   .have hB0:B=0:=Nn
    refine rg [0,8] ?_;refine rg [8,27,28,29] ?_;refine WI.orderA [8,27,28,29] ?_;refine WI.loop (λφ os=> ∃(j:Nat),φ= [(8,.mref 1),(27,.x (.sl (rows ZC l))),(28,.x (.int .i64 l.length)),(29,.x (.int .i64 j))]/\os= [.box [.x (.sl (rows Zz T))],.mpo .str false (snM ((l.take j).map ZE))]/\j<=l.length/\((l.take j).map ZE).Nodup) (ZJ l.length 29) ?_ (λφ os hI=> ?_)
    .exact UM
    .obtain⟨j,rfl,rfl,hj,hnd⟩:=hI;refine rg [8,27,28,29,30] ?_;refine cd (λh3=> ?_) (λh3=> ?_)
     .have hj4:j<l.length:=Wm
      have hrw:=KY l j hj4;have hd:=ZI (show(l.getD j []).length<=140737488355328 by rw[show l.getD j []=l[j] by simp[hj4]];have:=hn _ (YK hj4);omega);have uu:=JL uu hrw hd;refine rg [8,10,27,28,29] ?_;by_cases hin:ZE (l.getD j [])∈(l.take j).map ZE
      .have hg1:=ZFU hin;have hcp:=ZXp.2 hin;have uu:=YB uu hg1;refine rg [8,10,27,28,29,37] ?_;refine ct (λh4=> ?_) (λh4=> ?_)
       .refine Wj ?_;exact⟨by rw[hdu hall hB0 (ZZf hj4 hin)],_,rfl⟩
       .exact G7
      .have hg1:=ZHK hin;have hg2:=ZIX hin;have uu:=JL uu hg1 hg2;refine rg [8,10,27,28,29,37] ?_;refine ce (λh4=> ?_) (λh4=> ?_)
       .simp at h4
       .refine rg [8,27,28,29] ?_;have hnd2:((l.take (j+1)).map ZE).Nodup:=by
         exact Gs
        exact NZ
     .refine Wj ?_;exact⟨by rw[YR J0]at hnd;rw[hok hall hB0 hnd],_,rfl⟩
theorem Zcm(l:List Tx)(hl:l.length<=100000)(hn: ∀x∈l,x.length<=1000000):ZL Tryz.prog 106 [.x (.sl (rows ZC l)),.fn 112 []] (.x (.int .i64 (ZAW l 0))):=by
 obtain⟨B,hB⟩: ∃B,B=(0:Int):=⟨_,rfl⟩;rw[<-hB];have hno:l.all Jn=false->ZAW l B=13:=λh=>by unfold ZAW;rw[h];rfl
 have hbb:l.all Jn=true->B≠0->ZAW l B=B:=λh h2=>by unfold ZAW;rw[if_pos h,if_pos h2]
 have hdu:l.all Jn=true->B=0->decide (l.map ZE).Nodup=false->ZAW l B=9:=λh h2 h3=>XO
 have hok:l.all Jn=true->B=0->(l.map ZE).Nodup->ZAW l B=0:=λh h2 h3=>X4
 refine ZF.pure (fC 106 true ?_) rfl;intro C0 E0;have uu:=Qu @ZAB.eq_1 @ZLd.eq_1 @ZRa.eq_1 @ZRO.eq_1;have tT:=aT (aQ (aQ (aQ ZB Km) ZOV) ZT9) ZUN;refine rg [0,1] ?_;refine rg [0,1,11,12,13] ?_;refine WI.orderA [0,1,11,12,13] ?_;refine WI.loop (λφ os=> ∃(j:Nat),φ= [(0,.x (.sl (rows ZC l))),(1,.fn 112 []),(11,.x (.sl (rows ZC l))),(12,.x (.int .i64 l.length)),(13,.x (.int .i64 j))]/\os= []/\j<=l.length/\(l.take j).all Jn=true) (ZJ l.length 13) ?_ (λφ os hI=> ?_)
 .exact W5
 .obtain⟨j,rfl,rfl,hj,hall⟩:=hI;refine rg [0,1,11,12,13,14] ?_;refine cd (λh0=> ?_) (λh0=> ?_)
  .have hj4:j<l.length:=Wm
   have hrw:=KY l j hj4;have hgj:l[j]=l.getD j []:=T8
   have hal:=Yt Jn l j hj4;have hnt:Jn (l.getD j [])=false->l.all Jn=false:=λh=>Zl Jn l j hj4 (by rw[hgj];exact h)
   have hd:=ZI (hn l[j] (YK hj4));rw[hgj]at hal hd;generalize l.getD j []=x at hrw hal hnt hd;have uu:=JL uu hrw hd;refine rg [0,1,6,11,12,13] ?_;refine rg [0,1,11,12,13,19] ?_;refine cd (λh1=> ?_) (λh1=> ?_)
   .have hxf:Jn x=false:=Ww
    refine Wj ?_;rw[hno (hnt hxf)]
   .have hxt:Jn x=true:=Ww
    have hall2:(l.take (j+1)).all Jn=true:=by rw[hal,hall,hxt];rfl
    refine rg [0,1,11,12,13] ?_;exact Th
  .obtain rfl:j=l.length:=Wm
   rw[JX]at hall;refine rg [0,7] ?_;refine rg [0,7,24] ?_;refine cd (λh2=> ?_) (λh2=> ?_)
   .have hB0: ¬B=0:=Nn
    refine Wj ?_;rw[hbb hall hB0,hB]
   .have hB0:B=0:=Nn
    refine rg [0,8] ?_;refine rg [8,27,28,29] ?_;refine WI.orderA [8,27,28,29] ?_;refine WI.loop (λφ os=> ∃(j:Nat),φ= [(8,.mref 0),(27,.x (.sl (rows ZC l))),(28,.x (.int .i64 l.length)),(29,.x (.int .i64 j))]/\os= [.mpo .str false (snM ((l.take j).map ZE))]/\j<=l.length/\((l.take j).map ZE).Nodup) (ZJ l.length 29) ?_ (λφ os hI=> ?_)
    .exact UM
    .obtain⟨j,rfl,rfl,hj,hnd⟩:=hI;refine rg [8,27,28,29,30] ?_;refine cd (λh3=> ?_) (λh3=> ?_)
     .have hj4:j<l.length:=Wm
      have hrw:=KY l j hj4;have hd:=ZI (show(l.getD j []).length<=140737488355328 by rw[show l.getD j []=l[j] by simp[hj4]];have:=hn _ (YK hj4);omega);have uu:=JL uu hrw hd;refine rg [8,10,27,28,29] ?_;by_cases hin:ZE (l.getD j [])∈(l.take j).map ZE
      .have hg1:=ZFU hin;have hcp:=ZXp.2 hin;have uu:=YB uu hg1;refine rg [8,10,27,28,29,37] ?_;refine ct (λh4=> ?_) (λh4=> ?_)
       .refine Wj ?_;rw[hdu hall hB0 (ZZf hj4 hin)]
       .exact G7
      .have hg1:=ZHK hin;have hg2:=ZIX hin;have uu:=JL uu hg1 hg2;refine rg [8,10,27,28,29,37] ?_;refine ce (λh4=> ?_) (λh4=> ?_)
       .simp at h4
       .refine rg [8,27,28,29] ?_;have hnd2:((l.take (j+1)).map ZE).Nodup:=by
         exact Gs
        exact NZ
     .refine Wj ?_;rw[YR J0]at hnd;rw[hok hall hB0 hnd]
def smN(l:List Tx):Prop:=l.length<=100000/\ ∀x∈l,x.length<=1000000
instance (l:List Tx):Decidable (smN l):=inferInstanceAs (Decidable (_/\_))
def ZRu:J8->J5
 | [.x (.sl R),.fn 108 []]=>(ZM Zz R).bind λl=>some (decide (l.length<=100000),.x (.sl (rows ZC (l.map (·.1)))))
 |_=>none
theorem ZZV:QK Tryz.prog ZRu 107:=by
 intro args r h;unfold ZRu at h;split at h
 .obtain⟨l,rfl,i0⟩:=un JC h;obtain⟨h1,rfl⟩:=Yn i0;exact(Zee l h1)
 .cases h
def ZTT:J8->J5
 | [.x (.sl R),.fn 111 []]=>(ZM YW R).bind λl=>some (decide (l.length<=100000),.x (.sl (rows ZC (l.map (·.1)))))
 |_=>none
theorem Zaf:QK Tryz.prog ZTT 110:=by
 intro args r h;unfold ZTT at h;split at h
 .obtain⟨l,rfl,i0⟩:=un JP h;obtain⟨h1,rfl⟩:=Yn i0;exact(ZfQ l h1)
 .cases h
def ZOx:J8->J7->Option (Bool×D×J7)
 | [.x (.sl R),.fn 109 [.ptr 0 0]],[.box [.x (.sl R2)]]=>(ZM ZC R).bind λl=>(ZM Zz R2).bind λT=>some (decide (T.length<=100000/\smN l),.x (.int .i64 (ZAW l (ZJe T))),[.box [.x (.sl (rows Zz T))]])
 |_,_=>none
theorem ZX4:TK Tryz.prog ZOx 106:=by
 intro args os r os' h;unfold ZOx at h;split at h
 .obtain⟨l,rfl,i0⟩:=un ZP h;obtain⟨T,rfl,i1⟩:=un JC i0;obtain⟨h1,rfl,rfl⟩:=tn1 i1;exact ZcG T h1.1 l h1.2.1 h1.2.2
 .cases h
def ZPC:J8->J5
 | [.x (.sl R),.fn 112 []]=>(ZM ZC R).bind λl=>some (decide (smN l),.x (.int .i64 (ZAW l 0)))
 |_=>none
theorem ZXe:QK Tryz.prog ZPC 106:=by
 intro args r h;unfold ZPC at h;split at h
 .obtain⟨l,rfl,i0⟩:=un ZP h;obtain⟨h1,rfl⟩:=Yn i0;exact(Zcm l h1.1 h1.2)
 .cases h
theorem ZOe(l:List Tx):ZM ZC (rows ZC l)=some l:=ZS ZP l
theorem ZEq(l:List Zi):ZM YW (rows YW l)=some l:=ZS JP l
def ZJp(T:List Ze)(C:List Zi):Int:=if 1024<T.length\/1024<C.length then 3 else if ZAW (T.map (·.1)) (ZJe T)≠0 then ZAW (T.map (·.1)) (ZJe T)else ZAW (C.map (·.1)) 0
def smT(T:List Ze):Prop:=T.length<=100000/\ ∀x∈T,x.1.length<=1000000
def smC(C:List Zi):Prop:=C.length<=100000/\ ∀x∈C,x.1.length<=1000000/\(x.2.1.length<=50000/\ ∀n∈x.2.1,n.length<=140737488355328)/\(x.2.2.1.length<=50000/\ ∀n∈x.2.2.1,n.length<=140737488355328)
instance (T:List Ze):Decidable (smT T):=inferInstanceAs (Decidable (_/\_))
instance (C:List Zi):Decidable (smC C):=inferInstanceAs (Decidable (_/\_))
theorem Zdn(T:List Ze)(C:List Zi)(hT:smT T)(hC:smC C):ZL Tryz.prog 71 [.x (.sl (rows Zz T)),.x (.sl (rows YW C))] (.x (.int .i64 (ZJp T C))):=by
 have hTl:=hT.1;have hCl:=hC.1;have hd1:decide (T.length<=100000/\smN (T.map (·.1)))=true:=ZI ⟨hTl,by rw[smN,Yc];exact⟨hTl,λx hx=>by obtain⟨t,ht,rfl⟩:=YS.1 hx;exact hT.2 t ht⟩⟩;have hd2:decide (smN (C.map (·.1)))=true:=ZI (by rw[smN,Yc];exact⟨hCl,λx hx=>by obtain⟨t,ht,rfl⟩:=YS.1 hx;exact(hC.2 t ht).1⟩);have hd3:=ZI hTl;have hd4:=ZI hCl;rcases hres:ZJp T C with v
 unfold ZJp at hres;refine ZF.pure (fC 71 true ?_) rfl;intro C0 E0;have uu:=ξ9 @ZRu.eq_1 @ZTT.eq_1 @ZOx.eq_1 @ZPC.eq_1 @ZD1 @ZOe @ZEq hd1 (JL hd2 hd3 hd4);have tT:=aQ (aT (aQ (aQ ZB ZZV) Zaf) ZX4) ZXe;refine rg [1,2] ?_;refine rg [1,2,13] ?_;refine cd (λh0=> ?_) (λh0=> ?_)
 .rw[if_pos Ww]at hres;exact UN
 .rw[if_neg Ww]at hres;refine rg [1,5] ?_;refine rg [1,5,19] ?_;refine cd (λh1=> ?_) (λh1=> ?_)
  .rw[if_pos WC]at hres;exact UN
  .rw[if_neg WC]at hres;exact UN
def ZOt:J8->J5
 | [.x (.sl R),.x (.sl R2)]=>(ZM Zz R).bind λT=>(ZM YW R2).bind λC=>some (decide (smT T/\smC C),.x (.int .i64 (ZJp T C)))
 |_=>none
theorem ZXA:QK Tryz.prog ZOt 71:=by
 intro args r h;unfold ZOt at h;split at h
 .obtain⟨T,rfl,i0⟩:=un JC h;obtain⟨C,rfl,i1⟩:=un JP i0;obtain⟨h1,rfl⟩:=Yn i1;exact(Zdn T C h1.1 h1.2)
 .cases h
theorem ZTc{α:Type}(f:α->Tx)(l:List α)(d:α)(i:Nat)(h:i<l.length)(hn:(l.map f).Nodup):f (l.getD i d)∉(l.take i).map f:=by
 intro hin;have e:l=l.take i++l.getD i d::l.drop (i+1):=by
  have:=ZBb i l;rw[ξW h]at this;rw[show l.getD i d=l[i] by simp[h]];exact this.symm
 rw[e,Jj,YO]at hn;exact(ZFC.1 hn).2.2 _ hin _ ZAm rfl
theorem ZRg(T:List Ze):(Zp T).map (·.1)=T.map λt=>ZE t.1:=by unfold Zp;rw[Jv];rfl
theorem ZSo(C:List Zi):(YE C).map (·.1)=C.map λc=>ZE c.1:=by unfold YE;rw[Jv];rfl
theorem Zh7(T:List Ze)(i:Nat)(h:i<T.length)(hn:(T.map λt=>ZE t.1).Nodup):
  Yp (JS (Zp (T.take i))) [X.str (ZE (T.getD i ([],0,false,())).1)] [.x (.str (ZE (T.getD i ([],0,false,())).1)),.x (.int .i64 (T.getD i ([],0,false,())).2.1),.x (.bool (T.getD i ([],0,false,())).2.2.1)]=JS (Zp (T.take (i+1))):=by
 have h1:=ZTc (λt:Ze=>ZE t.1) T ([],0,false,()) i h hn;rw[<-ZRg]at h1;have h2:=ZiT (Zp (T.take i)) (ZE (T.getD i ([],0,false,())).1) (ZUC (T.getD i ([],0,false,())));rw[ZDK (KV.2 h1)]at h2;refine Eq.trans h2 ?_;rw[JW h];unfold Zp;rw[Jj];simp[h]
theorem Zgt(C:List Zi)(i:Nat)(h:i<C.length)(hn:(C.map λt=>ZE t.1).Nodup):
  Yp (JN (YE (C.take i))) [X.str (ZE (C.getD i ([],[],[],())).1)] [.x (.str (ZE (C.getD i ([],[],[],())).1)),.x (.sl (rows ZC ((C.getD i ([],[],[],())).2.1.map ZE))),.x (.sl (rows ZC ((C.getD i ([],[],[],())).2.2.1.map ZE)))]=JN (YE (C.take (i+1))):=by
 have h1:=ZTc (λt:Zi=>ZE t.1) C ([],[],[],()) i h hn;rw[<-ZSo]at h1;have h2:=ZiX (YE (C.take i)) (ZE (C.getD i ([],[],[],())).1) (ZDX (C.getD i ([],[],[],())));rw[ZDK (KV.2 h1)]at h2;refine Eq.trans h2 ?_;rw[JW h];unfold YE;rw[Jj];simp[h]
theorem ZQV{l:List Tx}{b:Int}(h:ZAW l b=0):l.all Jn=true/\b=0/\(l.map ZE).Nodup:=by
 unfold ZAW at h;split at h
 .split at h
  .omega
  .split at h
   .rename_i h1 h2 h3;exact⟨h1,J0,of_decide_eq_true h3⟩
   .omega
 .omega
theorem ZYf{T:List Ze}{C:List Zi}(h:ZJp T C=0):(T.map λt=>ZE t.1).Nodup/\(C.map λt=>ZE t.1).Nodup:=by
 unfold ZJp at h;split at h
 .omega
 .split at h
  .rename_i h1;exact absurd h h1
  .rename_i h1;have h2:=(ZQV (ZH3.1 h1)).2.2;have h3:=(ZQV h).2.2;rw[Jv]at h2 h3;exact⟨h2,h3⟩
def ZKa(T:List Ze)(c:Zi):Bool:=(c.2.1.map ZE++c.2.2.1.map ZE).all λn=>(ZH (Zp T) (ZE n)).isSome
def ZMm(T:List Ze)(C:List Zi):Int:=if ZJp T C≠0 then ZJp T C else if C.all (ZKa T)=true then(if(ZH (Zp T) (ZE OC)).isSome=true then 0 else 8)else 8
def ZSS:J8->J5
 | [.x (.sl R),.fn 63 []]=>(ZM ZC R).bind λl=>some (decide (l.length<=100000/\ ∀x∈l,x.length<=140737488355328),.x (.sl (rows ZC (l.map ZE))))
 |_=>none
theorem ZZy:QK Tryz.prog ZSS 72:=by
 intro args r h;unfold ZSS at h;split at h
 .obtain⟨l,rfl,i0⟩:=un ZP h;obtain⟨h1,rfl⟩:=Yn i0;exact(ZgA l h1.1 h1.2)
 .cases h
def ZXv:J8->J5
 | [.x (.sl [[.sl R],[.sl R']])]=>(ZM ZC R).bind λa=>(ZM ZC R').map λb=>(decide (a.length<=100000/\b.length<=100000),.x (.sl (rows ZC (a++b))))
 |_=>none
theorem ZVU: ∀args r,ZXv args=some (true,r)->ZL Tryz.prog 73 args r:=by
 intro args r h;unfold ZXv at h;split at h
 .exact U8
 .cases h
abbrev scH(L:List (Tx×Ze))(M:List (Tx×Zi))(c d:Zi):J7:= [.box [.mref 1,.mref 2],.mpo .str true (JS L),.mpo .str true (JN M),.box [.x (.str c.1),.x (.sl (rows ZC c.2.1)),.x (.sl (rows ZC c.2.2.1))],.box [.x (.str d.1),.x (.sl (rows ZC d.2.1)),.x (.sl (rows ZC d.2.2.1))]]
theorem ZV7(L:List (Tx×Ze))(M:List (Tx×Zi))(c d:Zi):(scH L M c d).all (Ob.inP (λi=>decide (i<(scH L M c d).length)))=true:=by
 simp[Ob.inP,JB,D.inP,ZAe,ZAf]
set_option maxHeartbeats 4000000 in
theorem Zjc(T:List Ze)(C:List Zi)(hT:smT T)(hC:smC C)(r:D)(OS:J7)(hz:ZMm T C=0->r= .tup [.ptr 0 0,.x (.int .i64 0)]/\OS=scO (Zp T) (YE C))(hnz:ZMm T C≠0->r= .tup [.x .nilp,.x (.int .i64 (ZMm T C))]/\OS= []):
  ZO Tryz.prog 38 [.x (.sl (rows Zz T)),.x (.sl (rows YW C))] [] r OS:=by
 have hO:OS.all (Ob.inP (λi=>decide (i<OS.length)))=true:=by
  by_cases h:ZMm T C=0
  .rw[(hz h).2];exact ZCf _ _
  .rw[(hnz h).2];rfl
 have hTl:=hT.1;have hz':=hz;have hnz':=hnz;have hCl:=hC.1;have hd1:decide (smT T/\smC C)=true:=ZI ⟨hT,hC⟩;rcases hch:ZJp T C with v
 unfold ZMm at hz hnz;rw[hch]at hz hnz;have hoc:OC= [111,98,106,101,99,116,99,108,97,115,115]:=rfl;have hR:r.inP (λi=>decide (i<OS.length))=true:=by
  by_cases h:ZMm T C=0
  .rw[(hz' h).1,(hz' h).2];rfl
  .rw[(hnz' h).1,(hnz' h).2];rfl
 refine ZF.mcallsX (fC 38 true ?_) WS hO Vk;intro C0 E0;have uu:=ξ9 @ZOt.eq_1 @ZAB.eq_1 @ZSS.eq_1 @ZXv.eq_1 @ZXv.eq_2 @ZRG.eq_1 @ZD1 @ZOe (ξ9 @ZEq @ZGW @ZGY hd1 hch @ZCa @ZCb @ZDw (ξ7 @ZDt @ZAe @ZAf @ZAX @ZDP @Qy @ZIJ.eq_1));have tT:=aT (aT (aQ (aQ (aQ (aQ ZB ZXA) Km) ZZy) ZVU) (ZCh ZVU)) ZSk;refine rg [0,1] ?_;refine rg [0,1,6] ?_;refine rg [0,1,6,23] ?_;refine cd (λh0=> ?_) (λh0=> ?_)
 .have hv0: ¬v=0:=Vh
  refine W8 ?_;obtain⟨rfl,rfl⟩:=(by rw[if_pos hv0]at hnz;exact hnz hv0);exact⟨rfl,[],rfl⟩
 .have hv0:v=0:=Vh
  subst hv0;obtain⟨hnT,hnC⟩:=ZYf hch;rw[if_neg J1]at hz hnz;refine rg [0,1,7] ?_;refine rg [1,7,31,32,33] ?_;refine WI.pickA [2,0,1] ?_;refine WI.orderA [1,7,31,32,33] ?_;refine WI.loop (λφ os=> ∃(i:Nat),φ= [(1,.x (.sl (rows YW C))),(7,.ptr 0 0),(31,.x (.sl (rows Zz T))),(32,.x (.int .i64 T.length)),(33,.x (.int .i64 i))]/\os=scO (Zp (T.take i)) []/\i<=T.length) (ZJ T.length 33) ?_ (λφ os hI=> ?_)
  .exact Vg
  .obtain⟨i,rfl,rfl,hi⟩:=hI;refine rg [1,7,31,32,33,34] ?_;refine cd (λh1=> ?_) (λh1=> ?_)
   .have hi4:i<T.length:=Wm
    have hrw:=ZNc T i hi4;have hst:=Zh7 T i hi4 hnT;have hxl:=hT.2 T[i] (YK hi4);rw[show T[i]=T.getD i ([],0,false,()) by simp[hi4]]at hxl;generalize T.getD i ([],0,false,())=x at hrw hst hxl;have hd47:decide (x.1.length<=140737488355328)=true:=ZI J0;have uu:=Qu uu hrw hst hd47;refine rg [1,7,9,31,32,33] ?_;refine rg [1,7,9,31,32,33] ?_;refine WI.dregB tT [1,7,31,32,33] ?_
    refine Wn ?_;refine Wn ?_;refine WJ ?_;refine Zd ?_;refine Qj ?_;refine VP ?_;refine WI.orderA [1,7,31,32,33] ?_;refine WI.dropT (scO (Zp (T.take (i+1))) []) _ rfl J1 (ZCf _ _) Tw ?_;refine rg [1,7,31,32,33] ?_;exact⟨⟨i+1,rfl,rfl,J0⟩,Wa⟩
   .obtain rfl:i=T.length:=Wm
    rw[JX];generalize hL:Zp T=L at hz hnz|-;refine rg [7,51,52,53] ?_;refine WI.loop (λφ os=> ∃(i:Nat),φ= [(7,.ptr 0 0),(51,.x (.sl (rows YW C))),(52,.x (.int .i64 C.length)),(53,.x (.int .i64 i))]/\os=scO L (YE (C.take i))/\i<=C.length/\(C.take i).all (ZKa T)=true) (ZJ C.length 53) ?_ (λφ os hI=> ?_)
    .exact W5
    .obtain⟨i,rfl,rfl,hi,hall⟩:=hI;refine rg [7,51,52,53,54] ?_;refine cd (λh2=> ?_) (λh2=> ?_)
     .have hi4:i<C.length:=Wm
      have hrw:=ZSd C i hi4;have hst:=Zgt C i hi4 hnC;have hal:=Yt (ZKa T) C i hi4;have hgi:C[i]=C.getD i ([],[],[],()):=G8
      have hno:ZKa T (C.getD i ([],[],[],()))=false->C.all (ZKa T)=false:=λh=>Zl (ZKa T) C i hi4 HT
      have hxl:=hC.2 C[i] (YK hi4);rw[hgi]at hxl hal;generalize C.getD i ([],[],[],())=x at hrw hst hxl hal hno;obtain⟨hx1,hx2,hx3⟩:=hxl;have hst2:Yp (JN (YE (C.take i))) [X.str (ZDX x).1] [.x (.str (ZDX x).1),.x (.sl (rows ZC (ZDX x).2.1)),.x (.sl (rows ZC (ZDX x).2.2.1))]=JN (YE (C.take (i+1))):=hst;have hd47:decide (x.1.length<=140737488355328)=true:=ZI J0;have hd48:decide (x.2.1.length<=100000/\ ∀n∈x.2.1,n.length<=140737488355328)=true:=ZI ⟨J0,hx2.2⟩;have hd49:decide (x.2.2.1.length<=100000/\ ∀n∈x.2.2.1,n.length<=140737488355328)=true:=ZI ⟨J0,hx3.2⟩;have hl1:(x.2.1.map ZE).length<=50000:=by rw[Yc];exact hx2.1
      have hl2:(x.2.2.1.map ZE).length<=50000:=by rw[Yc];exact hx3.1
      have hct:ZKa T x=(x.2.1.map ZE++x.2.2.1.map ZE).all λn=>(ZH L (ZE n)).isSome:=by rw[<-hL];rfl
      have hln: ∀n∈x.2.1.map ZE++x.2.2.1.map ZE,n.length<=140737488355328:=λn hn=>by
       rcases KT.1 hn with h|h
       .obtain⟨y,hy,rfl⟩:=YS.1 h;rw[ZFb];exact hx2.2 y hy
       .obtain⟨y,hy,rfl⟩:=YS.1 h;rw[ZFb];exact hx3.2 y hy
      have hd50:decide ((x.2.1.map ZE).length<=100000/\(x.2.2.1.map ZE).length<=100000)=true:=ZI ⟨J0,J0⟩;have uu:=ξ7 uu hrw hst2 hd47 hd48 hd49 hd50;refine rg [7,11,51,52,53] ?_;refine WI.dregB tT [7,12,51,52,53] ?_;refine WX ?_;refine dQC ?_;refine WX ?_;refine dQC ?_;refine WX ?_;refine dQC ?_;refine Zn ?_;refine dKG ?_;refine Qj ?_;refine dN ?_;refine rg [7,12,51,52,53,72,73,74] ?_;refine NS ?_;generalize hN:x.2.1.map ZE++x.2.2.1.map ZE=N at hct hln|-;have hNl:N.length<=100000:=by rw[<-hN,ZW];omega
      refine WI.loop (λφ os=> ∃(k:Nat),φ= [(7,.ptr 0 0),(12,.ptr 4 0),(51,.x (.sl (rows YW C))),(52,.x (.int .i64 C.length)),(53,.x (.int .i64 i)),(72,.x (.sl (rows ZC N))),(73,.x (.int .i64 N.length)),(74,.x (.int .i64 k))]/\os=scH L (YE (C.take i)) x (ZDX x)/\k<=N.length/\(N.take k).all (λn=>(ZH L (ZE n)).isSome)=true) (ZJ N.length 74) ?_ (λφ os hI=> ?_)
      .exact W5
      .obtain⟨k,rfl,rfl,hk,hka⟩:=hI;refine rg [7,12,51,52,53,72,73,74,75] ?_;refine cd (λh3=> ?_) (λh3=> ?_)
       .have hk4:k<N.length:=Wm
        have hrk:=KY N k hk4;have hgk:N[k]=N.getD k []:=HP
        have hak:=Yt (λn=>(ZH L (ZE n)).isSome) N k hk4;have hnk:(ZH L (ZE (N.getD k []))).isSome=false->N.all (λn=>(ZH L (ZE n)).isSome)=false:=λh=>Zl (λn=>(ZH L (ZE n)).isSome) N k hk4 (by rw[hgk];exact h)
        have hnl:=hln N[k] (YK hk4);rw[hgk]at hak hnl;generalize N.getD k []=y at hrk hak hnk hnl;have hdy:=ZI hnl;have uu:=Qu uu hrk hdy @tyD.eq_1;refine rg [7,12,14,51,52,53,72,73,74] ?_;refine rg [7,12,16,51,52,53,72,73,74] ?_;refine rg [7,12,51,52,53,72,73,74,88] ?_;refine cd (λh4=> ?_) (λh4=> ?_)
        .have hys:(ZH L (ZE y)).isSome=false:=Ww
         rw[hno (by rw[hct];exact hnk hys)]at hnz;refine W8 ?_;obtain⟨rfl,rfl⟩:=hnz J1;exact Gn
        .have hys:(ZH L (ZE y)).isSome=true:=Ww
         have hka2:(N.take (k+1)).all (λn=>(ZH L (ZE n)).isSome)=true:=by rw[hak,hka,hys];rfl
         refine NS ?_;refine rg [7,12,51,52,53,72,73,74] ?_;exact XC
       .obtain rfl:k=N.length:=Wm
        rw[JX]at hka;rw[hka]at hct;have hall2:(C.take (i+1)).all (ZKa T)=true:=by rw[hal,hall,hct];rfl
        refine WI.dregB tT [7,51,52,53] ?_;refine Wn ?_;refine X2 ?_;refine Zd ?_;refine Qj ?_;refine VP ?_;refine WI.orderA [7,51,52,53] ?_;refine WI.dropT (scO L (YE (C.take (i+1)))) _ rfl J1 (ZCf _ _) Tw ?_;refine rg [7,51,52,53] ?_;exact Uc
     .obtain rfl:i=C.length:=Wm
      rw[JX]at hall|-;rw[hall,if_pos rfl,hoc]at hz hnz;refine WI.orderA [7] ?_;have uu:=YB uu @tyD.eq_1;refine rg [7,18] ?_;refine rg [7,108] ?_;refine cd (λh5=> ?_) (λh5=> ?_)
      .have hys: ¬(ZH L (ZE [111,98,106,101,99,116,99,108,97,115,115])).isSome=true:=Ww
       rw[if_neg hys]at hnz;refine W8 ?_;obtain⟨rfl,rfl⟩:=hnz J1;exact Gn
      .have hys:(ZH L (ZE [111,98,106,101,99,116,99,108,97,115,115])).isSome=true:=Ww
       rw[if_pos hys]at hz;refine W8 ?_;obtain⟨rfl,rfl⟩:=hz rfl;exact Gn
def igT(n:Tx):Ze:=(n,1,false,())
theorem ZZW(a b:List Ze):rows Zz (a++b)=rows Zz a++rows Zz b:=Jj
theorem Ziz(l:List Tx)(hl:l.length<=1000):ZO Tryz.prog 37 [.ref 0 l.length 0 l.length] [.rows false 9 1 (rows ZC l)] (.ref 1 l.length 0 l.length) [.rows false 9 1 (rows ZC l),.rows false 82 3 (rows Zz (l.map igT))]:=by
 have hO: [Ob.rows false 9 1 (rows ZC l),.rows false 82 3 (rows Zz (l.map igT))].all (Ob.inP (λi=>decide (i< [Ob.rows false 9 1 (rows ZC l),.rows false 82 3 (rows Zz (l.map igT))].length)))=true:=rfl;refine ZF.mcalls (fC 37 false ?_);intro C0 E0;have uu:=trivial;have tT:=(ZB:SsOk Tryz.prog YH);refine VD ?_;refine rg [3,6,7,8] ?_;refine WI.ownA 3 82 3 ?_;refine WI.orderA [3,6,7,8] ?_;refine WI.loop (λφ os=> ∃(j:Nat),φ= [(3,.ref 1 ((l.take j).map igT).length 0 ((l.take j).map igT).length),(6,.ref 0 l.length 0 l.length),(7,.x (.int .i64 l.length)),(8,.x (.int .i64 j))]/\os= [.rows false 9 1 (rows ZC l),.rows false 82 3 (rows Zz ((l.take j).map igT))]/\j<=l.length) (ZJ l.length 8) ?_ (λφ os hI=> ?_)
 .exact Vg
 .obtain⟨j,rfl,rfl,hj⟩:=hI;refine rg [3,6,7,8,9] ?_;refine cd (λh0=> ?_) (λh0=> ?_)
  .have hj4:j<l.length:=Wm
   have hrw:=KY l j hj4;have htk:(l.take (j+1)).map igT=(l.take j).map igT++ [igT (l.getD j [])]:=Tn
   have hlen:((l.take j).map igT).length<=1000:=TE
   generalize l.getD j []=x at hrw htk;have uu:=YB uu hrw;refine rg [3,5,6,7,8] ?_;refine rg [3,6,7,8] ?_;refine WI.pickA [0,1] ?_;refine rg [3,6,7,8] ?_;exact⟨⟨j+1,by rw[htk,ZW];rfl,by rw[htk,ZZW];rfl,J0⟩,Wa⟩
  .obtain rfl:j=l.length:=Wm
   rw[JX];refine Wy ?_;exact⟨by rw[Yc],rfl⟩
end Go.Proofs.YtiogclkbccdefaaGreatDoor
end
