import Derived.Test.YtiogclkbccdefaaGreatDoorMA4
import Derived.Test.YtiogclkbccdefaaGreatDoorMA3
import Derived.Test.YtiogclkbccdefaaGreatDoorMA1
set_option linter.unusedSimpArgs false
set_option linter.unusedVariables false
set_option maxRecDepth 100000
theorem Wh{p:Prop}(h:p:=by first|exact⟨⟨i+1,true,acc++ [e]++ [x],by first|rfl|(simp only[ZW,Kh];first|done|rfl),by rw[<-JV,<-JV];first|done|rfl,J0,by first|omega|(simp only[ZW,Kh];omega),by rw[hp,hst,hh,if_neg hx];simp⟩,Wa⟩|exact⟨⟨i+1,true,acc++ [e],by first|rfl|(simp only[ZW,Kh];first|done|rfl),by rw[<-JV];first|done|rfl,J0,by first|omega|(simp only[ZW,Kh];omega),by rw[hp,hst,hh,if_pos hx];simp⟩,Wa⟩|exact⟨⟨i+1,d,acc++ [x],by first|rfl|(simp only[ZW,Kh];first|done|rfl),by rw[<-JV];first|done|rfl,J0,by first|omega|(simp only[ZW,Kh];omega),by rw[hp,hst,hh,if_neg hx];simp⟩,Wa⟩|exact⟨⟨i+1,d,acc,by first|rfl|(simp only[ZW,Kh];first|done|rfl),rfl,J0,by first|omega|(simp only[ZW,Kh];omega),by rw[hp,hst,hh,if_pos hx];simp⟩,Wa⟩):p:=h
theorem Wv{p:Prop}(h:p:=by first|exact se|(exact ZI J0)|(rw[Zj,Zj];exact⟨ZI J0,ZI J0,ZI hvj⟩)|exact sd):p:=h
theorem Vd{p:Prop}(h:p:=by first|exact se|(clear uu;simp only[ZW,Yx,Qw,Yl];omega)|exact sd):p:=h
theorem Vo{p:Prop}(h:p:=by refine xFS ?_;refine xFS ?_;refine xAG ?_;refine xAC ?_;refine xFS ?_;refine xFG ?_;refine xAG ?_;refine xFS ?_;refine xN ?_;refine nz ?_;refine lf ?_;exact⟨by rw[ZO6],_,rfl⟩):p:=h
theorem Vz{p:Prop}(h:p:=by clear uu;simpa using h1):p:=h
theorem VK{p:Prop}(h:p:=by refine W8 ?_;subst hres;rfl):p:=h
theorem VM{p:Prop}(h:p:=by first|exact⟨⟨i+1,acc++ [x.1],by rw[ZW,Kh];first|done|rfl,by rw[<-ZE1];first|done|rfl,J0,by rw[ZW,Kh];omega,by rw[hst,<-hp,if_pos hx]⟩,Wa⟩|exact⟨⟨i+1,acc,rfl,rfl,J0,J0,by rw[hst,<-hp,if_neg hx,Kg]⟩,Wa⟩):p:=h
theorem VR{p:Prop}(h:p:=by first|exact⟨⟨i+1,acc++ [x],by rw[ZW,Kh];first|done|rfl,by rw[<-JV];first|done|rfl,J0,by rw[ZW,Kh];omega,by rw[hst,<-hp,if_neg hx]⟩,Wa⟩|exact⟨⟨i+1,acc,rfl,rfl,J0,J0,by rw[hst,<-hp,if_pos hx,Kg]⟩,Wa⟩):p:=h
theorem Ug{p:Prop}(h:p:=by refine Jl ?_;refine ZA ?_;refine WI.regB ZB [0,3,5,6,7,8,9] ?_;refine WU ?_;refine Wl ?_;exact⟨⟨j+1,by rw[hst];first|done|rfl|(rw[ZW];rfl),by rw[hst];first|done|rfl|(rw[<-ZLr]),J0⟩,Wa⟩):p:=h
theorem Ut{A B:Prop}(hZ:A)(k:Go.Ab.Bx A->B:=by(intro hZ;refine WI.pickA [0,1] ?_;refine WI.orderA [0,3,5,6,7] ?_;refine rg [0,3,5,6,7] ?_;exact hZ.h)):B:=k ⟨hZ⟩
theorem Uz{p:Prop}(h:p:=by first|exact se|(simp only[ZW,Yx,Qw,ZQ,Yv,Zj,Yl,Jk,true_and];omega)|exact sd):p:=h
theorem U4{p:Prop}(h:p:=by refine WI.pickA [0,1,2,3] ?_;refine WI.orderA [2,3,6,7,8,9] ?_;refine rg [2,3,6,7,8,9] ?_;exact⟨⟨i+1,by rw[hnt,hct,ZW];first|done|rfl,by rw[hnt,ZDL],J0⟩,Wa⟩):p:=h
theorem UW{p:Prop}(h:p:=by refine Wf ?_;refine WI.regB tT [0,3,4] ?_;refine oS ?_;refine oG (hok:=Vd) ?_;refine Wf ?_;exact⟨⟨j+1,by rw[hst];first|done|rfl,rfl,J0⟩,Wa⟩):p:=h
theorem To{p:Prop}(h:p:=by clear uu;simpa using h2):p:=h
theorem Tq{p:Prop}(h:p:=by clear uu hres;grind):p:=h
theorem T6{A B:Prop}(hZ:A)(k:Go.Ab.Bx A->B:=by(intro hZ;refine Zd ?_;refine WJ ?_;refine WX ?_;refine dQC ?_;refine ZU ?_;exact hZ.h)):B:=k ⟨hZ⟩
theorem Gc{p:Prop}(h:p:=by clear uu;simpa using h0):p:=h
theorem Gi{A B:Prop}(hZ:A)(k:Go.Ab.Bx A->B:=by(intro hZ;refine Zd (hok:=Wv) ?_;refine ZU ?_;refine Zd (hok:=Wv) ?_;exact hZ.h)):B:=k ⟨hZ⟩
theorem Gq{p:Prop}(h:p:=by unfold ZH;rw[e,List.find?_append,h0,Option.none_or,List.find?_cons_of_pos (by simpa using he.symm)];rfl):p:=h
theorem GA{A B:Prop}(hZ:A)(k:Go.Ab.Bx A->B:=by(intro hZ;refine rg [0,4,5,6] ?_;refine rg [0,4,5,6,15] ?_;refine rg [0,4,5,6,15,16] ?_;exact hZ.h)):B:=k ⟨hZ⟩
theorem Nl{p:Prop}(h:p:=by rw[show l.getD (Za l n) ([],[],())=l[Za l n] by simp[hk]];exact YK hk):p:=h
theorem NQ{p:Prop}(h:p:=by obtain⟨t,_,l,hl⟩:=h.walkRev k s x hx;exact⟨YQ t::l,by rw[hl,hr,Ys];rfl⟩):p:=h
theorem Xy{p:Prop}(h:p:=by refine WI.orderA [0,3,5] ?_;refine Vb ?_;refine ZA ?_;subst hjk;exact Gg):p:=h
theorem XD{p:Prop}(h:p:=by exact⟨⟨j+1,rfl,rfl,J0,hno2⟩,Wa⟩):p:=h
theorem XL{p:Prop}(h:p:=by clear uu;exact ZPr.1 (by first|omega|simpa using h0)):p:=h
theorem Hf{p:Prop}(h:p:=by have:=(h3 a ha).2.1;omega):p:=h
theorem Hg{p:Prop}(h:p:=by clear uu;simp at h1;omega):p:=h
theorem HI{p:Prop}(h:p:=by have:=(h3 a ha).1;omega):p:=h
theorem HJ{p:Prop}(h:p:=by clear uu;simpa using h3):p:=h
theorem HU{p:Prop}(h:p:=by rw[hga];exact h):p:=h
theorem Mf{p:Prop}(h:p:=by rw[<-hga];exact YK hi4):p:=h
theorem Mh{p:Prop}(h:p:=by clear uu;unfold ZEI;revert h1;cases d<;>simp):p:=h
theorem Mi{p:Prop}(h:p:=by clear uu hres;first|omega|(simp at h5;omega)):p:=h
section
namespace Go.Proofs.YtiogclkbccdefaaGreatDoor
open Go.RowKit Go.Bo Go.Ab
def ZCw(s:Tx):Nat:=(Zq s).length
theorem ZFu{s:Tx}(h:JH s=true):ZCw s=ZCw (YC s)+1/\ZCw s<=32:=by
 obtain⟨r,d,hd,h1,h2⟩:=ZIY h;have h3:=(ZES hd.chk).1;unfold ZCw;rw[h2,hd.parts,hd.tail.parts];simp at h3|-;omega
structure InvT (m:EM) (B:BM):Prop where
 ln:m.length<=1024
 kn:(m.map (·.1)).Nodup
 key: ∀p∈m,p.2.1=p.1/\JH p.1=true/\Js p.2.2.1
 par: ∀s∈m.map (·.1),YC s= []\/YC s∈m.map (·.1)
 bn:(B.map (·.1)).Nodup
 so: ∀b∈B,SoL b.2
 row: ∀p s,s∈YJ B p↔s∈m.map (·.1)/\YC s=p
theorem ZgH:InvT [] []:=⟨J1,.nil,J1,J1,.nil,J1,λp s=>by simp[YJ,ZH]⟩
theorem ZZX{l:List Tx}(h:SoL l):l.Nodup:=h.imp λ{a b} hab e=>by rw[e,bl_irr]at hab;cases hab
theorem ZG2{α:Type}[DecidableEq α]: ∀(l l':List α),l.Nodup->(∀x∈l,x∈l')->l.length<=l'.length
 | [],_,_,_=>TG
 |x::l,l',hn,hs=>by
  have h0:=hs x J1;have ih:=ZG2 l (l'.erase x) (ZBE.1 hn).2 (λy hy=>(List.mem_erase_of_ne (λe=>(ZBE.1 hn).1 (by rw[<-e];exact hy))).2 (hs y (ξU _ hy)));rw[List.length_erase_of_mem h0]at ih;have:=List.length_pos_of_mem h0;rw[Yx];omega
section
variable {m:EM} {B:BM}
theorem InvT.has(h:InvT m B){s:Tx}(hs:s∈m.map (·.1)):JH s=true:=by
 obtain⟨p,hp,rfl⟩:=YS.1 hs;exact(h.key p hp).2.1
theorem ZYY{B:BM}(hn:(B.map (·.1)).Nodup){b:Tx×List Tx}(hb:b∈B):YJ B b.1=b.2:=by
 unfold YJ;rw[ZEl hn (k:=b.1) (v:=b.2) hb];rfl
theorem InvT.rowNd(h:InvT m B)(p:Tx):(YJ B p).Nodup:=by
 unfold YJ;cases e:ZH B p with
 |none=>exact ZPl
 |some l=>exact ZZX (h.so _ (JD e))
theorem InvT.rowSo(h:InvT m B)(p:Tx):SoL (YJ B p):=by
 unfold YJ;cases e:ZH B p with
 |none=>exact .nil
 |some l=>exact h.so _ (JD e)
theorem InvT.rowLe(h:InvT m B)(p:Tx):(YJ B p).length<=1024:=by
 have:=ZG2 _ _ (h.rowNd p) (λx hx=>((h.row p x).1 hx).1);rw[Yc]at this;have:=h.ln;omega
theorem InvT.ok(h:InvT m B):okT m B:=by
 refine⟨h.bn,λb hb=>⟨h.so b hb,?_⟩,λp hp=>(h.key p hp).2.2,by have:=h.ln;omega⟩;have:=h.rowLe b.1;rw[ZYY h.bn hb]at this;omega
theorem InvT.up(h:InvT m B){p s:Tx}(hs:s∈YJ B p):YC s=p/\ZCw s=ZCw p+1/\ZCw s<=32/\s∈m.map (·.1):=by
 obtain⟨h1,h2⟩:=(h.row p s).1 hs;have:=ZFu (h.has h1);exact⟨h2,by rw[<-h2];exact this.1,this.2,h1⟩
theorem InvT.deep(h:InvT m B): ∀(k:Nat) (n:Tx),33<=ZCw n+k->deep B k n
 |0,n,hk=>by
  refine Zhc.2 λs hs=> ?_
  have:=h.up hs;omega
 |k+1,n,hk=>λs hs=>h.deep k s (by have:=(h.up hs).2.1;omega)
def ZRN:Nat->Tx->Tx
 |0,x=>x
 |j+1,x=>YC (ZRN j x)
theorem InvT.walkUp(h:InvT m B): ∀(k:Nat) (n x:Tx),x∈Yi B k n-> ∃j,x∈m.map (·.1)/\ZRN (j+1) x=n/\ZCw x=ZCw n+j+1
 |0,n,x,hx=>by cases hx
 |k+1,n,x,hx=>by
  obtain⟨s,hs,hx⟩:=ZFM.1 hx;have hu:=h.up hs;rcases Jf.1 hx with rfl|hx
  .exact⟨0,hu.2.2.2,hu.1,J0⟩
  .obtain⟨j,h1,h2,h3⟩:=h.walkUp k s x hx;exact⟨j+1,h1,by show YC (ZRN (j+1) x)=n;rw[h2];exact hu.1,J0⟩
theorem InvT.walkNd(h:InvT m B): ∀(k:Nat) (n:Tx),(Yi B k n).Nodup
 |0,n=>ZPl
 |k+1,n=>by
  refine List.pairwise_flatMap.2 ⟨λs hs=>ZBE.2 ⟨λhx=> ?_,h.walkNd k s⟩,?_⟩
  .obtain⟨j,_,_,h3⟩:=h.walkUp k s s hx;omega
  .have hself: ∀s∈YJ B n,∀x∈s::Yi B k s,∃i,ZRN i x=s/\ZCw x=ZCw n+1+i:=λs hs x hx=>by
    have hu:=h.up hs;rcases Jf.1 hx with rfl|hx
    .exact⟨0,rfl,J0⟩
    .obtain⟨j,_,h2,h3⟩:=h.walkUp k s x hx;exact⟨j+1,h2,J0⟩
   refine(ZFK.2 λi j hi hj hij=> ?_);intro x hx y hy e;subst e;obtain⟨a,ha,ha2⟩:=hself _ (YK hi) x hx;obtain⟨b,hb,hb2⟩:=hself _ (YK hj) x hy;obtain rfl:a=b:=Wm
   have:=(ZFK.1 (h.rowNd n)) i j hi hj hij;exact this (ha.symm.trans hb)
theorem ZQI{k:Nat}: ∀ {n y x:Tx},y∈Yi B k n->x∈YJ B y->x∈Yi B (k+1) n:=by
 induction k with
 |zero=>intro n y x hy _;cases hy
 |succ k ih=>
  intro n y x hy hx;obtain⟨s,hs,hy⟩:=ZFM.1 hy;refine ZFM.2 ⟨s,hs,ξU _ ?_⟩;rcases Jf.1 hy with rfl|hy
  .exact ZFM.2 ⟨x,hx,ZAm ..⟩
  .exact ih hy hx
theorem ZZe{k:Nat}: ∀ {n x:Tx},x∈Yi B k n->x∈Yi B (k+1) n:=by
 induction k with
 |zero=>intro n x hx;cases hx
 |succ k ih=>
  intro n x hx;obtain⟨s,hs,hx⟩:=ZFM.1 hx;refine ZFM.2 ⟨s,hs,?_⟩;rcases Jf.1 hx with rfl|hx
  .exact ZAm ..
  .exact ξU _ (ih hx)
theorem InvT.walkAll(h:InvT m B): ∀(k:Nat) (x:Tx),x∈m.map (·.1)->ZCw x<=k->x∈Yi B k []
 |0,x,hx,hk=>by have:=ZFu (h.has hx);omega
 |k+1,x,hx,hk=>by
  have hp:=ZFu (h.has hx);rcases h.par x hx with h1|h1
  .exact ZFM.2 ⟨x,(h.row [] x).2 ⟨hx,h1⟩,ZAm ..⟩
  .exact ZQI (h.walkAll k _ h1 J0) ((h.row _ x).2 ⟨hx,rfl⟩)
theorem InvT.walkMem(h:InvT m B)(x:Tx):x∈Yi B 40 []↔x∈m.map (·.1):=
 ⟨λhx=>(h.walkUp 40 [] x hx).elim λj hj=>hj.1,λhx=>h.walkAll 40 x hx (by have:=(ZFu (h.has hx)).2;omega)⟩
theorem InvT.walkLen(h:InvT m B):(Yi B 40 []).length=m.length:=by
 have h1:=ZG2 _ _ (h.walkNd 40 []) (λx hx=>(h.walkMem x).1 hx);have h2:=ZG2 _ _ h.kn (λx hx=>(h.walkMem x).2 hx);rw[Yc]at h1 h2;omega
theorem InvT.okWn(h:InvT m B)(n:Tx):okW 40 m B n:=by
 refine⟨h.ok,(ZHn B 40 n).2 (h.deep 40 n J0),?_⟩;have h1:=ZG2 _ _ (h.walkNd 40 n) (λx hx=>(h.walkUp 40 n x hx).elim λj hj=>hj.1);rw[Yc]at h1;have:=h.ln;omega
theorem ZMP(A:List (Tx×ZY))(k:Tx)(v:ZY)(x:Tx):x∈(Zy A k v).map (·.1)↔x=k\/x∈A.map (·.1):=by
 have h1:x∈(Zy A k v).map (·.1)↔ZH (Zy A k v) x≠none:=by rw[Ne,KV];simp
 have h2:x∈A.map (·.1)↔ZH A x≠none:=by rw[Ne,KV];simp
 rw[h1,h2,ZJ9];by_cases e:x=k
 .simp[e]
 .simp[e]
theorem ZQ8(B:BM)(k:Tx)(l:List Tx)(p:Tx):YJ (Zy B k l) p=if p=k then l else YJ B p:=by
 unfold YJ;rw[ZJ9];split<;>rfl
theorem ZHY{β:Type}{A:List (Tx×β)}(h:(A.map (·.1)).Nodup)(k:Tx)(v:β):((Zy A k v).map (·.1)).Nodup:=by
 refine((ZBV A k v).map _).nodup_iff.2 (ZBE.2 ⟨?_,mdel_nodup h k⟩);rw[<-KV,ZHR _ _ h,if_pos rfl]
theorem InvT.addOk(h:InvT m B){dn:Tx}{e:ZY}(he:e.1=dn)(hs:JH dn=true)(hn:ZH m dn=none)(hp:YC dn= []\/(ZH m (YC dn)).isSome=true)(hl:m.length<1024)(hsm:Js e.2.1):
  InvT (Zy m dn e) (Zy B (YC dn) (ZFQ (YJ B (YC dn)) dn)):=by
 have hnk:dn∉m.map (·.1):=KV.1 hn;refine⟨?_,ZHY h.kn _ _,λp hp=> ?_,λs hs2=> ?_,ZHY h.bn _ _,λb hb=> ?_,λp s=> ?_⟩
 .rw[ZDK hn,ZW,Kh];omega
 .rw[ZDK hn]at hp;rcases KT.1 hp with hp|hp
  .exact h.key p hp
  .obtain rfl:=ZAM.1 hp;exact⟨he,hs,hsm⟩
 .rw[ZMP]at hs2|-;rcases hs2 with rfl|hs2
  .refine hp.imp id λh1=> .inr ?_
   exact ZIM λh2=>by rw[KV.2 h2]at h1;cases h1
  .exact(h.par s hs2).imp id .inr
 .have hm:=(ZBV B (YC dn) (ZFQ (YJ B (YC dn)) dn)).mem_iff.1 hb;rcases Jf.1 hm with rfl|hm
  .refine Zeh (h.rowSo _) dn λx hx e=> ?_
   obtain⟨h1,h2⟩:=(h.row _ x).1 hx;exact hnk (by rw[<-ZS5 (h.has h1) hs e h2];exact h1)
  .exact h.so b ((ZAb B _).mem hm)
 .rw[ZQ8,ZMP];split
  .rename_i e;subst e;rw[ZbD,h.row];constructor
   .rintro(rfl|⟨h1,h2⟩)
    .exact⟨.inl rfl,rfl⟩
    .exact⟨.inr h1,h2⟩
   .rintro⟨rfl|h1,h2⟩
    .exact NK
    .exact .inr ⟨h1,h2⟩
  .rename_i e;rw[h.row];constructor
   .rintro⟨h1,h2⟩;exact⟨.inr h1,h2⟩
   .rintro⟨rfl|h1,h2⟩
    .exact absurd h2.symm e
    .exact⟨h1,h2⟩
theorem InvT.add(h:InvT m B)(L:List (Tx×Ze))(M:List (Tx×Zi))(dn:Tx)(l:List ZN)(hs:Js (Zm l)):InvT (Kl (Qx L M m dn l) m dn l) (ZA5 (Qx L M m dn l) B dn):=by
 by_cases h0:Qx L M m dn l=0
 .unfold Kl ZA5;rw[if_pos h0,if_pos h0];unfold Qx at h0;split at h0
  .cases h0
  .rename_i h1;split at h0
   .cases h0
   .rename_i h2;split at h0
    .cases h0
    .rename_i h3;split at h0
     .rename_i h4;exact absurd h0 h4
     .split at h0
      .cases h0
      .rename_i h5;refine h.addOk rfl WC Tc ?_ J0 hs;by_cases e:YC dn= []
       .exact .inl e
       .right;cases e2:(ZH m (YC dn)).isSome
        .exact absurd ⟨e2,e⟩ h3
        .rfl
 .unfold Kl ZA5;rw[if_neg h0,if_neg h0];exact h
theorem ZTJ{dn:Tx}{v e:ZY}(hv:ZH m dn=some v)(x:Tx):x∈(Zy m dn e).map (·.1)↔x∈m.map (·.1):=by
 rw[ZMP];constructor
 .rintro(rfl|h)
  .exact YS.2 ⟨_,JD hv,rfl⟩
  .exact h
 .exact .inr
theorem InvT.replOk(h:InvT m B){dn:Tx}{v e:ZY}(hv:ZH m dn=some v)(he:e.1=dn)(hsm:Js e.2.1):InvT (Zy m dn e) B:=by
 have hk:=ZTJ (m:=m) (e:=e) hv;have hdn:dn∈m.map (·.1):=YS.2 ⟨_,JD hv,rfl⟩;refine⟨?_,ZHY h.kn _ _,λp hp=> ?_,λs hs2=> ?_,h.bn,h.so,λp s=>by rw[hk];exact h.row p s⟩
 .have h1:=((ZSp (w:=e) hv).length_eq).trans (Yx ..);have h2:=ZSU hv;have:=h.ln;omega
 .rcases Jf.1 ((ZBV m dn e).mem_iff.1 hp)with rfl|hp
  .exact⟨he,h.has hdn,hsm⟩
  .exact h.key p ((ZAb m _).mem hp)
 .rw[hk]at hs2|-;exact h.par s hs2
theorem InvT.delOk(h:InvT m B){n:Tx}{v:ZY}(hv:ZH m n=some v)(h0:YJ B n= []):InvT (Zk m n) (Zy (Zk B n) (YC n) (KM (YJ (Zk B n) (YC n)) n)):=by
 have hn:n∈m.map (·.1):=YS.2 ⟨_,JD hv,rfl⟩;have hpn:=ZYg (h.has hn);have hk: ∀x,x∈(Zk m n).map (·.1)↔x∈m.map (·.1)/\x≠n:=λx=>by
  have h1:x∈(Zk m n).map (·.1)↔ZH (Zk m n) x≠none:=by rw[Ne,KV];simp
  have h2:x∈m.map (·.1)↔ZH m x≠none:=by rw[Ne,KV];simp
  rw[h1,h2,ZHR _ _ h.kn];by_cases e:x=n
  .simp[e]
  .simp[e]
 have hr: ∀p,YJ (Zk B n) p=if p=n then []else YJ B p:=λp=>by
  unfold YJ;rw[ZHR _ _ h.bn];split<;>rfl
 refine⟨?_,mdel_nodup h.kn _,λp hp=>h.key p ((ZAb m _).mem hp),λs hs=> ?_,ZHY (mdel_nodup h.bn _) _ _,λb hb=> ?_,λp s=> ?_⟩
 .have:=Zgg m n;have:=h.ln;omega
 .rw[hk]at hs|-;refine(h.par s hs.1).imp id λh1=>⟨h1,λe=> ?_⟩
  have:s∈YJ B n:=(h.row n s).2 ⟨hs.1,e⟩;rw[h0]at this;cases this
 .rcases Jf.1 ((ZBV (Zk B n) (YC n) (KM (YJ (Zk B n) (YC n)) n)).mem_iff.1 hb)with rfl|hb
  .rw[hr,if_neg hpn];exact(h.rowSo (YC n)).filter _
  .exact h.so b ((ZAb B _).mem ((ZAb _ _).mem hb))
 .rw[ZQ8,hk];split
  .rename_i e;subst e;rw[hr,if_neg hpn];unfold KM;rw[ZPI,h.row];simp only[ZG8,beq_eq_false_iff_ne,ne_eq];exact⟨λ⟨⟨a,b⟩,c⟩=>⟨⟨a,c⟩,b⟩,λ⟨⟨a,c⟩,b⟩=>⟨⟨a,b⟩,c⟩⟩
  .rename_i e;rw[hr];split
   .rename_i e2;subst e2;refine⟨λh=>W6,λ⟨⟨a,_⟩,b⟩=> ?_⟩;have:s∈YJ B p:=(h.row p s).2 ⟨a,b⟩;rw[h0]at this;cases this
   .rw[h.row];refine⟨λ⟨a,b⟩=>⟨⟨a,λe3=> ?_⟩,b⟩,λ⟨⟨a,_⟩,b⟩=>⟨a,b⟩⟩;subst e3;exact e b.symm
theorem InvT.del(h:InvT m B)(n:Tx):InvT (ZC4 (Qc m B n) m n) (ZBM (Qc m B n) B n):=by
 by_cases h0:Qc m B n=0
 .unfold ZC4 ZBM;rw[if_pos h0,if_pos h0];unfold Qc at h0;split at h0
  .cases h0
  .rename_i h1;split at h0
   .cases h0
   .rename_i h2;obtain⟨v,hv⟩:=ZbP.1 (show(ZH m n).isSome=true from by
     cases e:(ZH m n).isSome
     .exact absurd e h1
     .rfl)
    exact h.delOk hv (ZH3.1 h2)
 .unfold ZC4 ZBM;rw[if_neg h0,if_neg h0];exact h
theorem InvT.okDn(h:InvT m B)(n:Tx):okD m B n:=by
 refine⟨h.ok,λh1 h2=> ?_⟩;obtain⟨v,hv⟩:=ZbP.1 h1;have hn:n∈m.map (·.1):=YS.2 ⟨_,JD hv,rfl⟩;exact⟨(h.row _ n).2 ⟨hn,rfl⟩,ZYg (h.has hn)⟩
theorem InvT.repl(h:InvT m B)(L:List (Tx×Ze))(M:List (Tx×Zi))(dn:Tx)(l:List ZN)(hs:Js (Zm l)):InvT (Kl (ZAS L M m dn l) m dn l) B:=by
 by_cases h0:ZAS L M m dn l=0
 .unfold Kl;rw[if_pos h0];unfold ZAS at h0;cases hv:ZH m dn with
  |none=>rw[hv]at h0;simp at h0
  |some v=>exact h.replOk hv rfl hs
 .unfold Kl;rw[if_neg h0];exact h
end
def ZA2:List Tx->List Tx->Bool
 |_,[]=>false
 | [],_::_=>true
 |p::a,q::b=>if p=q then ZA2 a b else Op.bytesLess p q
def ZDh(s:Tx):List Tx:=(Zq s).reverse
def bef(a b:Tx):Bool:=ZA2 (ZDh a) (ZDh b)
theorem ZTe: ∀a,ZA2 a a=false
 | []=>rfl
 |p::a=>by rw[ZA2,if_pos rfl,ZTe a]
theorem ZNJ: ∀(a:List Tx) (x:Tx) (l:List Tx),ZA2 a (a++x::l)=true
 | [],_,_=>rfl
 |p::a,x,l=>by rw[ξZ,ZA2,if_pos rfl,ZNJ a x l]
theorem ZSc: ∀(c:List Tx) (p q:Tx) (a b:List Tx),p≠q->ZA2 (c++p::a) (c++q::b)=Op.bytesLess p q
 | [],p,q,a,b,h=>by rw[QY,QY,ZA2,if_neg h]
 |x::c,p,q,a,b,h=>by rw[ξZ,ξZ,ZA2,if_pos rfl,ZSc c p q a b h]
theorem ZJb: ∀a b c:List Tx,ZA2 a b=true->ZA2 b c=true->ZA2 a c=true
 | [],[],_,h,_=>W6
 |_::_,[],_,h,_=>W6
 |_,_::_,[],_,h=>W6
 | [],q::b,r::c,_,_=>rfl
 |p::a,q::b,r::c,h1,h2=>by
  rw[ZA2]at h1 h2|-;by_cases e1:p=q
  .subst e1;rw[if_pos rfl]at h1;by_cases e2:p=r
   .subst e2;rw[if_pos rfl]at h2|-;exact ZJb a b c h1 h2
   .rw[if_neg e2]at h2|-;exact h2
  .rw[if_neg e1]at h1;by_cases e2:q=r
   .subst e2;rw[if_neg e1];exact h1
   .rw[if_neg e2]at h2;have h3:=bl_trans _ _ _ h1 h2;rw[if_neg (λe=>by subst e;rw[bl_irr]at h3;cases h3)];exact h3
theorem ZS1: ∀a b:List Tx,a≠b->ZA2 a b=true\/ZA2 b a=true
 | [],[],h=>absurd rfl h
 | [],_::_,_=> .inl rfl
 |_::_,[],_=> .inr rfl
 |p::a,q::b,h=>by
  rw[ZA2,ZA2];by_cases e:p=q
  .subst e;rw[if_pos rfl,if_pos rfl];exact ZS1 a b (λe=>h (by rw[e]))
  .rw[if_neg e,if_neg (λe2=>e e2.symm)];exact bl_tot p q e
theorem ZSW{s t:Tx}(h1:JH s=true)(h2:JH t=true)(h:ZDh s=ZDh t):s=t:=by
 have hp:Zq s=Zq t:=by have:=congrArg List.reverse h;simpa[ZDh]using this
 exact ZS5 h1 h2 (by unfold YQ;rw[hp]) (by unfold YC;rw[hp])
theorem ZMk{s:Tx}(h:JH s=true):ZDh s=ZDh (YC s)++ [YQ s]:=by
 obtain⟨r,d,hd,h1,h2⟩:=ZIY h;unfold ZDh;rw[h2,hd.tail.parts,hd.parts,h1];simp
section
variable {m:EM} {B:BM}
theorem InvT.walkRev(h:InvT m B): ∀(k:Nat) (n x:Tx),x∈Yi B k n-> ∃s∈YJ B n,∃l,ZDh x=ZDh n++YQ s::l
 |0,n,x,hx=>by cases hx
 |k+1,n,x,hx=>by
  obtain⟨s,hs,hx⟩:=ZFM.1 hx;have hu:=h.up hs;have hr:=ZMk (h.has hu.2.2.2);rw[hu.1]at hr;refine⟨s,hs,?_⟩;rcases Jf.1 hx with rfl|hx
  .exact⟨[],hr⟩
  .exact NQ
theorem InvT.sorted(h:InvT m B): ∀(k:Nat) (n:Tx),(Yi B k n).Pairwise λa b=>bef a b=true
 |0,n=>List.Pairwise.nil
 |k+1,n=>by
  have hself: ∀s∈YJ B n,∀x∈s::Yi B k s,∃l,ZDh x=ZDh n++YQ s::l:=λs hs x hx=>by
   have hu:=h.up hs;have hr:=ZMk (h.has hu.2.2.2);rw[hu.1]at hr;rcases Jf.1 hx with rfl|hx
   .exact⟨[],hr⟩
   .exact NQ
  refine List.pairwise_flatMap.2 ⟨λs hs=>ZFV.2 ⟨λx hx=> ?_,h.sorted k s⟩,?_⟩
  .obtain⟨t,_,l,hl⟩:=h.walkRev k s x hx;unfold bef;rw[hl];exact ZNJ _ _ _
  .refine ZFK.2 λi j hi hj hij=> ?_
   intro x hx y hy;obtain⟨a,ha⟩:=hself _ (YK hi) x hx;obtain⟨b,hb⟩:=hself _ (YK hj) y hy;have hlt:=ZFK.1 (h.rowSo n) i j hi hj hij;unfold bef;rw[ha,hb,ZSc _ _ _ _ _ (λe=>by rw[e,bl_irr]at hlt;cases hlt)];exact hlt
end
theorem ZMo: ∀(l l':List Tx),(∀x∈l,JH x=true)->l.Pairwise (λa b=>bef a b=true)->l'.Pairwise (λa b=>bef a b=true)->(∀x,x∈l↔x∈l')->l=l'
 | [],l',_,_,_,h=>by
  cases l' with
  |nil=>rfl
  |cons y l'=>exact absurd ((h y).2 J1) J1
 |x::l,[],_,_,_,h=>absurd ((h x).1 J1) J1
 |x::l,y::l',h0,h1,h2,h=>by
  have irr: ∀a,bef a a=true->False:=λa ha=>by unfold bef at ha;rw[ZTe]at ha;cases ha
  obtain⟨p1,p2⟩:=ZFV.1 h1;obtain⟨q1,q2⟩:=ZFV.1 h2;have e:x=y:=by
   rcases Jf.1 ((h x).1 J1)with e|e
   .exact e
   .rcases Jf.1 ((h y).2 J1)with e2|e2
    .exact e2.symm
    .exact(irr _ (ZJb _ _ _ (p1 y e2) (q1 x e))).elim
  subst e;rw[ZMo l l' (λz hz=>h0 z (ξU _ hz)) p2 q2 (λz=>⟨λhz=> ?_,λhz=> ?_⟩)]
  .rcases Jf.1 ((h z).1 (ξU _ hz))with e|e
   .subst e;exact(irr _ (p1 _ hz)).elim
   .exact e
  .rcases Jf.1 ((h z).2 (ξU _ hz))with e|e
   .subst e;exact(irr _ (q1 _ hz)).elim
   .exact e
theorem Zdr(s:Tx):ZL Tryz.prog 57 [.x (.str s)] (.tup [.x (.sl (rows ZC (Zq s))),.x (.bool (okS s))]):=by
 obtain⟨d,hd⟩: ∃d,(Ya s).1=d:=⟨_,rfl⟩;refine ZF.pure (fC 57 true ?_) rfl;intro C0 E0;have uu:=Qu @ZNV.eq_1 @ZIo.eq_1 @ZOQ.eq_1 hd;have tT:=aQ (aQ (aQ ZB ZQ3) ZJf) ZQY;refine rg [0] ?_;refine rg [0,4,5] ?_;refine rg [0,21] ?_;refine cd (λh0=> ?_) (λh0=> ?_)
 .have hok:okS s=false:=NE
  have hpp:Zq s= []:=by unfold Zq;rw[hok];rfl
  refine WK ?_;rw[hok,hpp];rfl
 .have hno:JY s=(s,0):=by
   have h1:(JY s).2=0/\(JY s).1=s:=Ww
   exact ZCQ h1.2 h1.1
  have hok:okS s=true:=ZI hno;obtain⟨d',hn⟩:=Zaa hok;obtain rfl:d'=d:=by rw[<-hd,hn.rd]
  have hpp:=hn.parts;obtain⟨hd32,hmay⟩:=ZES hn.chk;refine rg [6] ?_;refine rg [6,8] ?_;refine rg [6,8,9] ?_;refine WI.ownA 8 9 1 ?_;refine WI.loop (λφ os=> ∃(j:Nat),φ= [(6,.x (.sl (rows Jp d'))),(8,.ref 0 j 0 j),(9,.x (.int .i64 j))]/\os= [.rows false 9 1 (rows ZC ((d'.take j).map JI))]/\j<=d'.length) (ZJ d'.length 9) ?_ (λφ os hI=> ?_)
  .exact Vg
  .obtain⟨j,rfl,rfl,hj⟩:=hI;refine rg [6,8,9,30] ?_;refine cd (λh1=> ?_) (λh1=> ?_)
   .have hj4:j<d'.length:=Wm
    have hrow:=ZFF d' j hj4;have hmj:=hmay (d'.getD j []) (by rw[show d'.getD j []=d'[j] by simp[hj4]];exact YK hj4);have hst:(d'.take (j+1)).map JI=(d'.take j).map JI++ [JI (d'.getD j [])]:=by rw[JW hj4,Jj,show d'.getD j []=d'[j] by simp[hj4]];rfl
    have hln:(rows ZC ((d'.take j).map JI)).length=j:=by rw[ZQ,Yc,Yv];omega
    generalize d'.getD j []=r at hrow hmj hst;have hua:ZM Zu (rows Zu r)=some r:=ZS ZEO r;have uu:=ξ5 uu hrow hmj hua hln;refine rg [6,8,9] ?_;refine WI.pickA [0] ?_;refine rg [6,8,9] ?_;exact HX
   .obtain rfl:j=d'.length:=Wm
    rw[JX,<-hpp];have hln2:(rows ZC (Zq s)).length=d'.length:=by rw[hpp,ZQ,Yc]
    have htk:(rows ZC (Zq s)).take d'.length=rows ZC (Zq s):=by rw[<-hln2,JX]
    have uu:=JL uu hln2 htk;refine WK ?_;rw[hok]
def ZFP:J8->J5
 | [.x (.str s)]=>some (true,.tup [.x (.sl (rows ZC (Zq s))),.x (.bool (okS s))])
 |_=>none
theorem ZEo:QK Tryz.prog ZFP 57:=by
 intro args r h;unfold ZFP at h;split at h
 .obtain rfl:=Qv h;exact(Zdr _)
 .cases h
theorem Zdk(l:List Tx)(hl:l.length<=32)(hb: ∀x∈l,x.length<=4096):ZL Tryz.prog 58 [.x (.sl (rows ZC l))] (.x (.str (Qe 44 l))):=by
 refine ZF.pure (fC 58 true ?_) rfl;intro C0 E0;have uu:=trivial;have tT:=(ZB:SsOk Tryz.prog YH);refine Ub ?_;refine WI.regB tT [0,3,4] ?_;refine Wf ?_;refine WI.loop (λφ os=> ∃(j:Nat),φ= [(0,.x (.sl (rows ZC l))),(3,.x (.str (Qe 44 (l.take j)))),(4,.x (.int .i64 j))]/\os= []/\j<=l.length) (ZJ l.length 4) ?_ (λφ os hI=> ?_)
 .exact Vg
 .obtain⟨j,rfl,rfl,hj⟩:=hI;refine nz ?_;refine WI.regB tT [0,3,4,8] ?_
  refine Wu ?_
  iterate 2 refine oG (hok:=Vd) ?_
  refine V9 ?_;refine cd (λh0=> ?_) (λh0=> ?_)
  .have hj4:j<l.length:=Wm
   have hrow:(rows ZC l)[j]? =some [X.str (l.getD j [])]:=XP
   have hrl:=ZQ ZC l;have hxl:=hb (l.getD j []) TO;have hjl:=ZFR 44 4096 (l.take j) (λx hx=>hb x (ZCH hx));rw[Yv]at hjl;have hst0:l.take (j+1)=l.take j++ [l.getD j []]:=by rw[JW hj4,show l.getD j []=l[j] by simp[hj4]]
   generalize l.getD j []=x at hrow hst0 hxl;have uu:=JL uu hrow hrl;refine WI.regB tT [0,3,4,12] ?_;refine oS ?_;refine oG (hok:=Vd) ?_;refine V9 ?_;refine cd (λh1=> ?_) (λh1=> ?_)
   .have hst:Qe 44 (l.take (j+1))=Qe 44 (l.take j)++ [44]++x:=by
     rw[hst0,ZI8 44 _ _ (λe=>by have h9:=congrArg List.length e;rw[Yv,Qw]at h9;omega)]
    refine WI.regB tT [0,3,4] ?_;refine oS ?_;refine oG (hok:=Vd) ?_;refine Wf ?_;refine WI.regB tT [0,3,4] ?_;refine Wu ?_;refine oS ?_
    iterate 3 refine oG (hok:=Vd) ?_
    exact UW
   .have hst:Qe 44 (l.take (j+1))=Qe 44 (l.take j)++x:=by
     obtain rfl:j=0:=Wm
     rw[hst0];simp[Qe]
    refine WI.regB tT [0,3,4] ?_;refine Wu ?_;refine oS ?_
    iterate 3 refine oG (hok:=Vd) ?_
    exact UW
  .refine GT ?_;refine Un ?_;obtain rfl:j=l.length:=Wm
   rw[JX]
def ZIS:J8->J5
 | [.x (.sl R)]=>(ZM ZC R).bind λl=>some (decide (l.length<=32)&&(decide (∀x∈l,x.length<=4096)),.x (.str (Qe 44 l)))
 |_=>none
theorem ZJJ:QK Tryz.prog ZIS 58:=by
 intro args r h;unfold ZIS at h;split at h
 .obtain⟨l,rfl,i0⟩:=un ZP h;obtain⟨h1,h2,rfl⟩:=fn2 i0;exact(Zdk l h1 h2)
 .cases h
theorem ZaA(s:Tx):ZL Tryz.prog 27 [.x (.str s)] (.tup [.x (.str (YC s)),.x (.bool (JH s))]):=by
 obtain⟨hp1,hp2⟩:=ZDJ s;unfold YC JH;have hrl:=ZQ ZC (Zq s);have hu:ZM ZC ((rows ZC (Zq s)).drop 1)=some ((Zq s).drop 1):=by rw[show(rows ZC (Zq s)).drop 1=rows ZC ((Zq s).drop 1) by simp[rows]];exact ZS ZP _
 have c1:decide (((Zq s).drop 1).length<=32)=true:=ZI T9;have c2:decide (∀x∈(Zq s).drop 1,x.length<=4096)=true:=ZI λx hx=>hp2 x (ZDD hx)
 refine ZF.pure (fC 27 true ?_) rfl;intro C0 E0;have uu:=ξ6 @ZFP.eq_1 @ZIS.eq_1 hrl hu @c1 @c2;have tT:=aQ (aQ ZB ZEo) ZJJ;refine rg [0] ?_;refine rg [4] ?_;refine rg [4,13] ?_;refine cd (λh0=> ?_) (λh0=> ?_)
 .have h9:Zq s= []:=XL
  refine Vi ?_;rw[h9];rfl
 .have h9:Zq s≠ []:=by clear uu;intro e;rw[e]at h0;simp at h0
  refine Vi ?_;rw[ZI h9]
def ZMH:J8->J5
 | [.x (.str s)]=>some (true,.tup [.x (.str (YC s)),.x (.bool (JH s))])
 |_=>none
theorem ZUq:QK Tryz.prog ZMH 27:=by
 intro args r h;unfold ZMH at h;split at h
 .obtain rfl:=Qv h;exact(ZaA _)
 .cases h
theorem ZeK(s:Tx):ZL Tryz.prog 134 [.x (.str s)] (.tup [.x (.str (YQ s)),.x (.bool (JH s))]):=by
 unfold YQ JH;have hrl:=ZQ ZC (Zq s);refine ZF.pure (fC 134 true ?_) rfl;intro C0 E0;have uu:=JL @ZFP.eq_1 hrl @ZIS.eq_1;have tT:=aQ (aQ ZB ZEo) ZJJ;refine rg [0] ?_;refine rg [4] ?_;refine rg [4,13] ?_;refine cd (λh0=> ?_) (λh0=> ?_)
 .have h9:Zq s= []:=XL
  refine Vi ?_;rw[h9];rfl
 .have h9:Zq s≠ []:=by clear uu;intro e;rw[e]at h0;simp at h0
  have hrw:(rows ZC (Zq s))[0]? =some [X.str ((Zq s).headD [])]:=by
   obtain⟨x,l,e⟩:=List.exists_cons_of_ne_nil h9;rw[e];rfl
  have uu:=YB uu hrw;refine Vi ?_;rw[ZI h9]
def ZTj:J8->J5
 | [.x (.str s)]=>some (true,.tup [.x (.str (YQ s)),.x (.bool (JH s))])
 |_=>none
theorem ZYm:QK Tryz.prog ZTj 134:=by
 intro args r h;unfold ZTj at h;split at h
 .obtain rfl:=Qv h;exact(ZeK _)
 .cases h
theorem Zcl(s:Tx):ZL Tryz.prog 86 [.x (.str s)] (.x (.int .i64 (if okS s=true then((Zq s).length:Int)else-1))):=by
 have hrl:=ZQ ZC (Zq s);refine ZF.pure (fC 86 true ?_) rfl;intro C0 E0;have uu:=JL @ZFP.eq_1 hrl @ZIS.eq_1;have tT:=aQ (aQ ZB ZEo) ZJJ;refine rg [0] ?_;refine rg [3,4] ?_;refine rg [3,11] ?_;refine cd (λh0=> ?_) (λh0=> ?_)
 .refine Wy ?_;rw[if_neg Gc]
 .refine Wy ?_;rw[if_pos Gc]
def ZPQ:J8->J5
 | [.x (.str s)]=>some (true,.x (.int .i64 (if okS s=true then((Zq s).length:Int)else-1)))
 |_=>none
theorem ZXP:QK Tryz.prog ZPQ 86:=by
 intro args r h;unfold ZPQ at h;split at h
 .obtain rfl:=Qv h;exact(Zcl _)
 .cases h
theorem ZZC(x y:List Tx)(i:Nat)(hi:i<x.length)(hj:i<y.length):ZA2 (x.drop i) (y.drop i)=if x[i]=y[i]then ZA2 (x.drop (i+1)) (y.drop (i+1))else Op.bytesLess x[i] y[i]:=by
 rw[ξW hi,ξW hj,ZA2]
theorem ZdR(x y:List Tx)(i:Nat)(h1:i<=x.length)(h2:i<=y.length)(h: ¬(i<x.length/\i<y.length)):decide ((x.length:Int)<(y.length:Int))=ZA2 (x.drop i) (y.drop i):=by
 by_cases e:i=y.length
 .rw[ZBB (l:=y) J0,decide_eq_false J0];cases x.drop i<;>rfl
 .obtain rfl:i=x.length:=Wm
  rw[List.drop_length,ξW (show x.length<y.length by omega),ZI J0];rfl
theorem ZcA(a b:Tx):ZL Tryz.prog 169 [.x (.str a),.x (.str b)] (.x (.bool (bef a b))):=by
 have ha:=(ZDJ a).1;have hb:=(ZDJ b).1;have hla:=ZQ ZC (Zq a);have hlb:=ZQ ZC (Zq b);unfold bef ZDh;refine ZF.pure (fC 169 true ?_) rfl;intro C0 E0;have uu:=JL @ZFP.eq_1 hla hlb;have tT:=aQ ZB ZEo;refine rg [0,1] ?_;refine rg [1,5] ?_;refine rg [5,7] ?_;refine rg [5,7,9] ?_;generalize Zq a=x at ha hla|-;generalize Zq b=y at hb hlb|-;refine WI.loop (λφ os=> ∃(i:Nat),φ= [(5,.x (.sl (rows ZC x))),(7,.x (.sl (rows ZC y))),(9,.x (.int .i64 i))]/\os= []/\i<=x.length/\i<=y.length/\ZA2 x.reverse y.reverse=ZA2 (x.reverse.drop i) (y.reverse.drop i)) (ZJ x.length 9) ?_ (λφ os hI=> ?_)
 .exact⟨0,rfl,rfl,J0,J0,rfl⟩
 .obtain⟨i,rfl,rfl,hi1,hi2,hbe⟩:=hI;refine rg [5,7,9,31] ?_;refine cd (λh0=> ?_) (λh0=> ?_)
  .have hi4:i<x.length/\i<y.length:=Ww
   have e1:((x.length:Int)-1-(i:Int)).toNat=x.length-1-i:=Wm
   have e2:((y.length:Int)-1-(i:Int)).toNat=y.length-1-i:=Wm
   have hi5:=hi4.1;have hi6:=hi4.2;have r1:(rows ZC x)[x.length-1-i]? =some [X.str (x.reverse[i]' Wx)]:=by simp[rows,ZC,show x.length-1-i<x.length by omega]
   have r2:(rows ZC y)[y.length-1-i]? =some [X.str (y.reverse[i]' Wx)]:=by simp[rows,ZC,show y.length-1-i<y.length by omega]
   have hst:=ZZC x.reverse y.reverse i Wx Wx;generalize x.reverse[i]' Wx=p at r1 hst;generalize y.reverse[i]' Wx=q at r2 hst;have uu:=ξ5 uu e1 e2 r1 r2;refine WI.dregB tT [5,7,9,10,11] ?_
   refine Vl ?_;refine VJ ?_;refine Vl ?_;refine VJ ?_;refine Wn ?_;refine dN ?_;refine rg [5,7,9,10,11,52] ?_;refine cd (λh1=> ?_) (λh1=> ?_)
   .refine Wj ?_;rw[hbe,hst,if_neg Vz]
   .refine rg [5,7,9] ?_;exact⟨⟨i+1,rfl,rfl,J0,J0,by rw[hbe,hst,if_pos Vz]⟩,Wa⟩
  .refine Wj ?_;rw[hbe,<-ZdR x.reverse y.reverse i Wx Wx (by rw[ZcE,ZcE];clear uu;grind)];simp
def ZPo:J8->J5
 | [.x (.str a),.x (.str b)]=>some (true,.x (.bool (bef a b)))
 |_=>none
theorem ZXg:QK Tryz.prog ZPo 169:=by
 intro args r h;unfold ZPo at h;split at h
 .obtain rfl:=Qv h;exact(ZcA _ _)
 .cases h
theorem JV(l:List ZY)(e:ZY):rows ZZ l++ [[X.str e.1,X.sl (rows ZK e.2.1)]]=rows ZZ (l++ [e]):=by simp[rows,ZZ,Jh,ZC,rSl,ZAL]
def ZEI(e:ZY)(d:Bool)(x:ZY):Bool:= !d&&(decide (x.1=e.1)||bef e.1 x.1)
def ZBf(e:ZY):Bool->List ZY->List ZY
 |d,[]=>if d then []else [e]
 |d,x::l=>(if ZEI e d x then [e]else [])++((if x.1=e.1 then []else [x])++ZBf e (d||ZEI e d x) l)
theorem ZLP(l:List ZY)(j:Nat)(h:j<l.length):(rows ZZ l)[j]? =some [X.str (l.getD j ([],[],())).1,X.sl (rows ZK (l.getD j ([],[],())).2.1)]:=by
 simp[rows,h,ZZ,Jh,ZC,rSl,ZAL]
theorem Zah(e:ZY)(l:List ZY)(i:Nat)(h:i<l.length)(d:Bool):ZBf e d (l.drop i)=(if ZEI e d (l.getD i ([],[],()))then [e]else [])++((if(l.getD i ([],[],())).1=e.1 then []else [l.getD i ([],[],())])++ZBf e (d||ZEI e d (l.getD i ([],[],()))) (l.drop (i+1))):=by
 rw[ξW h,ZBf,show l.getD i ([],[],())=l[i] by simp[h]]
set_option maxHeartbeats 4000000 in
theorem Zcg(l:List ZY)(e:ZY)(hl:l.length<=100000):ZL Tryz.prog 136 [.x (.sl (rows ZZ l)),.agg [.x (.str e.1),.x (.sl (rows ZK e.2.1))]] (.x (.sl (rows ZZ (ZBf e false l)))):=by
 have hrl:=ZQ ZZ l;refine ZF.pure (fC 136 true ?_) rfl;intro C0 E0;have uu:=YB @ZPo.eq_1 hrl;have tT:=aQ ZB ZXg;refine rg [0,3] ?_;refine rg [0,3,5] ?_;refine rg [0,3,5,6] ?_;refine rg [0,3,5,6,7] ?_;refine WI.ownA 5 31 2 ?_;refine WI.loop (λφ os=> ∃(i:Nat) (d:Bool) (acc:List ZY),φ= [(0,.x (.sl (rows ZZ l))),(3,.ptr 0 0),(5,.ref 1 acc.length 0 acc.length),(6,.x (.bool d)),(7,.x (.int .i64 i))]/\os= [.box [.x (.str e.1),.x (.sl (rows ZK e.2.1))],.rows false 31 2 (rows ZZ acc)]/\i<=l.length/\acc.length<=2*i/\ZBf e false l=acc++ZBf e d (l.drop i)) (ZJ l.length 7) ?_ (λφ os hI=> ?_)
 .exact⟨0,false,[],rfl,rfl,J0,J1,J1⟩
 .obtain⟨i,d,acc,rfl,rfl,hi,hac,hp⟩:=hI;refine rg [0,3,5,6,7,11] ?_;refine cd (λh0=> ?_) (λh0=> ?_)
  .have hi4:i<l.length:=VG
   have hrw:=ZLP l i hi4;have hst:=Zah e l i hi4 d;generalize l.getD i ([],[],())=x at hrw hst;have hal:=ZQ ZZ acc;have uu:=JL uu hrw hal;refine WI.dregB tT [0,3,5,6,7,35] ?_;refine X1 ?_;refine ZU ?_
   refine Zn ?_;refine W7 ?_;refine Zd ?_;refine Vc ?_;refine Zn ?_;refine Zd ?_;refine Vc ?_;refine Zd ?_;refine Zn ?_;refine Zd ?_;refine dAC ?_;refine Vc ?_;refine VP ?_;refine cd (λh1=> ?_) (λh1=> ?_)
   .have hh:ZEI e d x=true:=Mh
    refine rg [0,3,5,7] ?_;refine rg [0,3,5,6,7] ?_;refine WI.dregB tT [0,3,5,6,7,47] ?_;refine Wn ?_;refine Zd ?_;refine WJ ?_;refine Zn ?_;refine VP ?_;refine cd (λh2=> ?_) (λh2=> ?_)
    .have hx: ¬x.1=e.1:=To
     refine rg [0,3,5,6,7] ?_;refine Ut ?_
     exact Wh
    .have hx:x.1=e.1:=To
     refine Ut ?_
     exact Wh
   .have hh:ZEI e d x=false:=Mh
    refine WI.dregB tT [0,3,5,6,7,47] ?_;refine Wn ?_;refine Zd ?_;refine WJ ?_;refine Zn ?_;refine VP ?_;refine cd (λh2=> ?_) (λh2=> ?_)
    .have hx: ¬x.1=e.1:=To
     refine rg [0,3,5,6,7] ?_;refine Ut ?_
     exact Wh
    .have hx:x.1=e.1:=To
     refine Ut ?_
     exact Wh
  .obtain rfl:i=l.length:=VG
   rw[List.drop_length]at hp;have hal:=ZQ ZZ acc;refine rg [3,5,56] ?_;refine cd (λh3=> ?_) (λh3=> ?_)
   .have hd:d=false:=HJ
    rw[hd]at hp;refine rg [5] ?_;refine Wj ?_;rw[hp,YR (by rw[ZW,hal];simp),JV];rfl
   .have hd:d=true:=HJ
    rw[hd]at hp;refine Wj ?_;rw[hp];simp[ZBf]
def atG(l:List ZY)(n:Tx):Nat:=(l.takeWhile λe=> !(e.1==n)).length
theorem ZiG(l:List ZY)(n:Tx):atG l n<=l.length:=(List.takeWhile_sublist _).length_le
theorem ZeY{l:List ZY}{n:Tx}{i:Nat}(hi:i<=atG l n)(hl:i<l.length)(h:l[i].1=n):i=atG l n:=by
 apply ZIM;intro hc;have hp:(l.takeWhile λe=> !(e.1==n))<+:l:=List.takeWhile_prefix _;have hlt:i<(l.takeWhile λe=> !(e.1==n)).length:=by unfold atG at hi hc;omega
 have h1:=Yg.1 (List.all_takeWhile (p:=λe:ZY=> !(e.1==n)) (l:=l)) _ (YK (h:=hlt));rw[hp.getElem hlt]at h1;rw[h]at h1;simp at h1
theorem ZcT{l:List ZY}{n:Tx}{i:Nat}(hi:i<=atG l n)(hl:i<l.length)(h: ¬l[i].1=n):i+1<=atG l n:=by
 apply ZIM;intro hc;have e:i=atG l n:=Wm
 clear hi hc;subst e;apply h;clear h;unfold atG at*
 induction l with
 |nil=>simp at hl
 |cons a l ih=>
  by_cases ha:a.1=n
  .simp[List.takeWhile_cons,ha]
  .simp only[List.takeWhile_cons,show(!(a.1==n))=true by simpa using ha,if_true,Yx]at hl|-;simpa using ih J0
theorem Zhs(S1 S2:J6)(l:List ZY)(n:Tx)(hl:l.length<=100000):ZL Tryz.prog 53 [.agg [.x (.sl S1),.x (.sl S2),.x (.sl (rows ZZ l))],.x (.str n)] (.x (.int .i64 (if atG l n<l.length then(atG l n:Int)else-1))):=by
 have hrl:=ZQ ZZ l;have hle:=ZiG l n;refine ZF.pure (fC 53 true ?_) rfl;intro C0 E0;have uu:=hrl;have tT:=(ZB:SsOk Tryz.prog YH);refine rg [1,2] ?_;refine rg [1,2,5] ?_;refine WI.loop (λφ os=> ∃(i:Nat),φ= [(1,.x (.str n)),(2,.ptr 0 0),(5,.x (.int .i64 i))]/\os= [.box [.x (.sl S1),.x (.sl S2),.x (.sl (rows ZZ l))]]/\i<=l.length/\i<=atG l n) (ZJ l.length 5) ?_ (λφ os hI=> ?_)
 .exact⟨0,rfl,rfl,J0,J0⟩
 .obtain⟨i,rfl,rfl,hi,hia⟩:=hI;refine rg [1,2,5,10] ?_;refine cd (λh0=> ?_) (λh0=> ?_)
  .have hi4:i<l.length:=VG
   refine rg [1,2,5,20] ?_;refine cd (λh1=> ?_) (λh1=> ?_)
   .have he:=ZeY hia hi4 Vz;refine Wj ?_;rw[<-he,if_pos hi4]
   .refine rg [1,2,5] ?_;exact⟨⟨i+1,rfl,rfl,J0,ZcT hia hi4 Vz⟩,Wa⟩
  .refine Wj ?_;rw[if_neg VG]
def ZLV:J8->J5
 | [.agg [.x (.sl A),.x (.sl B),.x (.sl R)],.x (.str n)]=>(ZM ZZ R).bind λl=>some (decide (l.length<=100000),.x (.int .i64 (if atG l n<l.length then(atG l n:Int)else-1)))
 |_=>none
theorem ZJc:QK Tryz.prog ZLV 53:=by
 intro args r h;unfold ZLV at h;split at h
 .obtain⟨l,rfl,i0⟩:=un YD h;obtain⟨h1,rfl⟩:=Yn i0;exact(Zhs _ _ l _ h1)
 .cases h
def ZD2(l:List ZY)(n:Tx):List ZY:=l.filter λe=> !(e.1==n)
theorem ZXb(l:List ZY)(n:Tx)(i:Nat)(h:i<l.length):ZD2 (l.take (i+1)) n=ZD2 (l.take i) n++(if(l.getD i ([],[],())).1=n then []else [l.getD i ([],[],())]):=by
 unfold ZD2;rw[JW h,Zcd,show l.getD i ([],[],())=l[i] by simp[h]];congr 1;by_cases e:l[i].1=n<;>simp[e]
theorem ZbS(S1 S2:J6)(l:List ZY)(n:Tx)(hl:l.length<=100000):ZL Tryz.prog 90 [.agg [.x (.sl S1),.x (.sl S2),.x (.sl (rows ZZ l))],.x (.str n)] (.agg [.x (.sl S1),.x (.sl S2),.x (.sl (rows ZZ (ZD2 l n)))]):=by
 have hrl:=ZQ ZZ l;refine ZF.pure (fC 90 true ?_) rfl;intro C0 E0;have uu:=hrl;have tT:=(ZB:SsOk Tryz.prog YH);refine rg [1,2,4] ?_;refine rg [1,2,4,5] ?_;refine rg [1,2,4,5,6] ?_;refine WI.ownA 5 31 2 ?_;refine WI.loop (λφ os=> ∃(i:Nat) (acc:List ZY),φ= [(1,.x (.str n)),(2,.ptr 0 0),(4,.ptr 1 0),(5,.ref 2 acc.length 0 acc.length),(6,.x (.int .i64 i))]/\os= [.box [.x (.sl S1),.x (.sl S2),.x (.sl (rows ZZ l))],.box [.x .nils,.x .nils,.x .nils],.rows false 31 2 (rows ZZ acc)]/\i<=l.length/\acc.length<=i/\acc=ZD2 (l.take i) n) (ZJ l.length 6) ?_ (λφ os hI=> ?_)
 .exact⟨0,[],rfl,rfl,J0,J1,rfl⟩
 .obtain⟨i,acc,rfl,rfl,hi,hac,hp⟩:=hI;refine rg [1,2,4,5,6,11] ?_;refine cd (λh0=> ?_) (λh0=> ?_)
  .have hi4:i<l.length:=VG
   have hrw:=ZLP l i hi4;have hst:=ZXb l n i hi4;generalize l.getD i ([],[],())=x at hrw hst;have hal:=ZQ ZZ acc;have uu:=JL uu hrw hal;refine rg [1,2,4,5,6,21] ?_;refine cd (λh1=> ?_) (λh1=> ?_)
   .have hx: ¬x.1=n:=Vz
    refine rg [1,2,4,5,6] ?_;refine rgp [1,2,4,5,6] ?_;refine Jg [0,1,2] ?_;refine GE ?_
    exact VR
   .have hx:x.1=n:=Vz
    refine rgp [1,2,4,5,6] ?_;refine Jg [0,1,2] ?_;refine GE ?_
    exact VR
  .refine rg [2,4] ?_;refine Wj ?_;obtain rfl:i=l.length:=VG
   rw[hp,JX]
def ZPD:J8->J5
 | [.agg [.x (.sl A),.x (.sl B),.x (.sl R)],.x (.str n)]=>(ZM ZZ R).bind λl=>some (decide (l.length<=100000),.agg [.x (.sl A),.x (.sl B),.x (.sl (rows ZZ (ZD2 l n)))])
 |_=>none
theorem ZWZ:QK Tryz.prog ZPD 90:=by
 intro args r h;unfold ZPD at h;split at h
 .obtain⟨l,rfl,i0⟩:=un YD h;obtain⟨h1,rfl⟩:=Yn i0;exact(ZbS _ _ l _ h1)
 .cases h
theorem ZGC(l:List ZY)(n:Tx)(x:ZY):x∈ZD2 l n↔x∈l/\x.1≠n:=by
 unfold ZD2;rw[ZPI];simp
abbrev SoE(l:List ZY):Prop:=l.Pairwise λa b=>bef a.1 b.1=true
theorem ZMv{l:List ZY}(h:SoE l)(n:Tx):SoE (ZD2 l n):=h.filter _
theorem ZKv(e:ZY): ∀l:List ZY,ZBf e true l=ZD2 l e.1
 | []=>rfl
 |x::l=>by
  have ih:=ZKv e l;rw[ZBf];simp only[ZEI,ZOy,ZFD,Je,if_false,QY,ZGK,ih];unfold ZD2;rw[ZG1];by_cases hx:x.1=e.1<;>simp[hx]
theorem ZMS(e:ZY): ∀(l:List ZY) (x:ZY),x∈ZBf e false l↔x=e\/(x∈l/\x.1≠e.1)
 | [],x=>by simp[ZBf]
 |y::l,x=>by
  rw[ZBf];cases hh:ZEI e false y
  .have ih:=ZMS e l x;have hy: ¬y.1=e.1:=λhy=>by simp[ZEI,hy]at hh
   simp only[Je,if_false,QY,hy,ZO5,Jf,ZD5,ih];constructor
   .rintro(rfl|rfl|h)
    .exact .inr ⟨.inl rfl,hy⟩
    .exact NK
    .exact .inr ⟨.inr h.1,h.2⟩
   .rintro(rfl|⟨rfl|h1,h2⟩)
    .exact .inr (.inl rfl)
    .exact NK
    .exact .inr (.inr ⟨h1,h2⟩)
  .simp only[if_true,ZEs,ZKv,KT,ZAM,ZGC,Jf,List.not_mem_nil,or_false];by_cases hy:y.1=e.1
   .simp only[hy,if_true,List.not_mem_nil,false_or];constructor
    .rintro(h|⟨h1,h2⟩)
     .exact .inl h
     .exact .inr ⟨.inr h1,h2⟩
    .rintro(h|⟨rfl|h1,h2⟩)
     .exact .inl h
     .exact absurd hy h2
     .exact .inr ⟨h1,h2⟩
   .simp only[hy,if_false,Jf,List.not_mem_nil,or_false];constructor
    .rintro(h|rfl|⟨h1,h2⟩)
     .exact .inl h
     .exact .inr ⟨.inl rfl,hy⟩
     .exact .inr ⟨.inr h1,h2⟩
    .rintro(h|⟨rfl|h1,h2⟩)
     .exact .inl h
     .exact .inr (.inl rfl)
     .exact .inr (.inr ⟨h1,h2⟩)
theorem Ze0{a b:Tx}(h1:JH a=true)(h2:JH b=true)(h:a≠b):bef a b=true\/bef b a=true:=ZS1 _ _ λe=>h (ZSW h1 h2 e)
theorem Zaq{a b c:Tx}(h1:bef a b=true)(h2:bef b c=true):bef a c=true:=ZJb _ _ _ h1 h2
theorem ZVm(e:ZY)(he:JH e.1=true): ∀l:List ZY,SoE l->(∀x∈l,JH x.1=true)->SoE (ZBf e false l)
 | [],_,_=>by simp[ZBf,SoE]
 |y::l,hs,hn=>by
  obtain⟨h1,h2⟩:=ZFV.1 hs;have hy:=hn y J1;rw[ZBf];cases hh:ZEI e false y
  .have ih:=ZVm e he l h2 (λx hx=>hn x (ξU _ hx));have hne: ¬y.1=e.1:=λhy=>by simp[ZEI,hy]at hh
   have hb:bef e.1 y.1=false:=by simp[ZEI,hne]at hh;exact hh
   have hye:bef y.1 e.1=true:=by
    rcases Ze0 hy he hne with h|h
    .exact h
    .rw[hb]at h;cases h
   simp only[Je,if_false,QY,hne,ZO5,ZD5];refine ZFV.2 ⟨λx hx=> ?_,ih⟩;rcases(ZMS e l x).1 hx with rfl|⟨h3,_⟩
   .exact hye
   .exact h1 x h3
  .simp only[if_true,ZEs,ZKv,ZO5];by_cases hye:y.1=e.1
   .simp only[hye,if_true,QY];exact ZFV.2 ⟨λx hx=>by rw[<-hye];exact h1 x ((ZGC l e.1 x).1 hx).1,ZMv h2 _⟩
   .have hb:bef e.1 y.1=true:=by simpa[ZEI,hye]using hh
    simp only[hye,if_false,ZO5];refine ZFV.2 ⟨λx hx=> ?_,ZFV.2 ⟨λx hx=>h1 x ((ZGC l e.1 x).1 hx).1,ZMv h2 _⟩⟩;rcases Jf.1 hx with rfl|hx
    .exact hb
    .exact Zaq hb (h1 x ((ZGC l e.1 x).1 hx).1)
def ClA(l:List ZN):Prop:= ∀a∈l,a.2.1≠ []/\a.2.1.Nodup
theorem Zft{b:List Tx}(h:b.Nodup)(v:Tx):(ZEy b v).Nodup:=by
 unfold ZEy;split
 .exact h
 .rename_i hv;rw[ZFC];exact⟨h,J1,λa ha c hc e=>by rw[ZAM]at hc;subst hc;subst e;exact hv ha⟩
theorem ZVq: ∀(vs b:List Tx),b.Nodup->(QN b vs).Nodup
 | [],_,h=>h
 |v::vs,b,h=>ZVq vs _ (Zft h v)
theorem Zfd(b:List Tx)(v:Tx):ZEy b v≠ []:=by
 unfold ZEy;split
 .rename_i h;intro e;rw[e]at h;cases h
 .simp
theorem ZOv: ∀(vs b:List Tx),vs≠ []\/b≠ []->QN b vs≠ []
 | [],_,h=>by rcases h with h|h;exact absurd rfl h;exact h
 |v::vs,b,_=>ZOv vs _ (.inr (Zfd b v))
theorem ZKz: ∀(x b:List Tx),(b++x).Nodup->QN b x=b++x
 | [],b,_=>by simp[QN]
 |v::x,b,h=>by
  have hv:v∉b:=λhv=>by
   rw[ZFC]at h;exact h.2.2 v hv v J1 rfl
  show QN (ZEy b v) x=_;rw[show ZEy b v=b++ [v]from if_neg hv,ZKz x (b++ [v]) WM];simp
theorem ZUL{l:List ZN}{n:Tx}(h:Qn l n=true):l[Za l n]'(ZCc h)∈l/\YT l n=(l[Za l n]'(ZCc h)).2.1/\(l[Za l n]'(ZCc h)).1=n:=by
 have hk:=ZCc h;refine⟨YK hk,?_,ZLk l n hk h⟩;unfold YT;rw[if_pos h];simp[hk]
theorem Ze5{l:List ZN}(hc:ClA l)(n:Tx):(YT l n).Nodup:=by
 by_cases h:Qn l n=true
 .obtain⟨h1,h2,_⟩:=ZUL h;rw[h2];exact(hc _ h1).2
 .unfold YT;rw[if_neg h];simp
theorem ZVa{l:List ZN}(hc:ClA l)(n:Tx)(vs:List Tx):ClA (Kv l n vs):=by
 unfold Kv;split
 .exact hc
 .rename_i hv;intro a ha;rcases KT.1 ha with ha|ha
  .rcases KT.1 ha with ha|ha
   .exact hc a (ZCH ha)
   .rw[ZAM]at ha;subst ha;exact⟨ZOv _ _ (.inl (by simp[hv])),ZVq _ _ J1⟩
  .exact hc a (ZMF ha)
theorem ZZ1(l:List ZN):ClA (Zm l):=by
 have key: ∀(l acc:List ZN),ClA acc->ClA (l.foldl (λacc a=>Kv acc (ZE a.1) a.2.1) acc):=λl=>by
  induction l with
  |nil=>intro acc h;exact h
  |cons a l ih=>intro acc h;exact ih _ (ZVa h _ _)
 exact key l [] (λ_ h=>W6)
theorem ZNa(l:List ZN):SoA (Zm l):=Mg
def ZRn(l:List ZN):Prop:= ∀a∈l,ZE a.1=a.1
theorem Zcj{l:List ZN}{n:Tx}{vs:List Tx}(h: ∀a∈l,Op.bytesLess a.1 n=true)(h1:vs≠ [])(h2:vs.Nodup):Kv l n vs=l++ [(n,vs,())]:=by
 have hp:Za l n=l.length:=ZRx l n l.length (Zr _) (by rw[JX];exact h) (λh=>absurd h J0);have hh:Qn l n=false:=by unfold Qn;rw[hp,ξV (Zr _)]
 unfold Kv KJ YT;rw[if_neg h1,hh,hp,JX,if_neg WT,if_neg WT,List.drop_length,Kg,ZKz _ _ Tc];rfl
theorem ZQ1: ∀(l acc:List ZN),SoA (acc++l)->ClA l->ZRn l->l.foldl (λacc a=>Kv acc (ZE a.1) a.2.1) acc=acc++l
 | [],acc,_,_,_=>TG
 |a::l,acc,h1,h2,h3=>by
  have ha:=h2 a ZAm;rw[ZK2,h3 a ZAm,Zcj (λb hb=>(ZPF.1 h1).2.2 b hb a ZAm) ha.1 ha.2,
   ZQ1 l _ WC (λb hb=>h2 b (ξU _ hb)) (λb hb=>h3 b (ξU _ hb))]
  simp[show(a.1,a.2.1,())=a from rfl]
theorem ZbV{l:List ZN}(h:ZRn l)(n:Tx)(vs:List Tx):ZRn (Kv l (ZE n) vs):=by
 unfold Kv;split
 .exact h
 .intro a ha;rcases KT.1 ha with ha|ha
  .rcases KT.1 ha with ha|ha
   .exact h a (ZCH ha)
   .rw[ZAM.1 ha];exact Zev n
  .exact h a (ZMF ha)
theorem ZSe: ∀(l acc:List ZN),ZRn acc->ZRn (l.foldl (λacc a=>Kv acc (ZE a.1) a.2.1) acc)
 | [],_,h=>h
 |a::l,acc,h=>ZSe l _ (ZbV h _ _)
theorem ZUa(l:List ZN):Zm (Zm l)=Zm l:=ZQ1 (Zm l) [] (ZNa l) (ZZ1 l) (ZSe l [] (λ_ h=>W6))
theorem ZgL{l:List ZN}{n:List UInt8}(h:Qn l n=true):Za l n<l.length/\(l.getD (Za l n) ([],[],())).1=n/\YT l n=(l.getD (Za l n) ([],[],())).2.1/\KJ l n=l.drop (Za l n+1):=by
 have hk:Za l n<l.length:=by
  apply ZIM;intro hc;unfold Qn at h;rw[ξV J0]at h;cases h
 have e:l.getD (Za l n) ([],[],())=l[Za l n]:=by simp[hk]
 exact⟨hk,by rw[e];exact ZLk l n hk h,by unfold YT;rw[if_pos h],by unfold KJ;rw[if_pos h]⟩
theorem Zg5{l:List ZN}{n:List UInt8}(h:Qn l n=false):YT l n= []/\KJ l n=l.drop (Za l n)/\(Za l n<l.length-> ¬(l.getD (Za l n) ([],[],())).1=n):=by
 refine⟨by unfold YT;rw[h];rfl,by unfold KJ;rw[h];rfl,λhk e=> ?_⟩;rw[show l.getD (Za l n) ([],[],())=l[Za l n] by simp[hk]]at e;unfold Qn at h;rw[Zw hk]at h;simp[e]at h
theorem ZLr(l:List (List UInt8))(x:List UInt8):rows ZC l++ [[X.str x]]=rows ZC (l++ [x]):=Ge
theorem ZMO(l:List ZN)(j:Nat)(h:j<l.length):(rows ZK l)[j]? =some [X.str (l.getD j ([],[],())).1,X.sl (rows ZC (l.getD j ([],[],())).2.1)]:=by
 simp[rows,ZK,Jh,ZC,rSl,ZAL,h]
theorem Zhg(l:List ZN)(n:List UInt8):(Za l n<l.length/\(l.getD (Za l n) ([],[],())).1=n/\YT l n=(l.getD (Za l n) ([],[],())).2.1/\KJ l n=l.drop (Za l n+1))\/(Za l n<l.length/\ ¬(l.getD (Za l n) ([],[],())).1=n/\YT l n= []/\KJ l n=l.drop (Za l n))\/(Za l n=l.length/\YT l n= []/\KJ l n=l.drop (Za l n)):=by
 rcases Bool.eq_false_or_eq_true (Qn l n)with hh|hh
 .exact .inl (ZgL hh)
 .obtain⟨h1,h2,h3⟩:=Zg5 hh;rcases Nat.lt_or_eq_of_le (ZDI l n)with hk|hk
  .exact .inr (.inl ⟨hk,h3 hk,h1,h2⟩)
  .exact .inr (.inr ⟨hk,h1,h2⟩)
set_option maxHeartbeats 4000000 in
theorem Zir(l:List ZN)(n:List UInt8)(vs:List (List UInt8))(hl:l.length<=1000)(hv:vs.length<=1000)(hb: ∀a∈l,a.2.1.length<=100000):ZL Tryz.prog 103 [.x (.sl (rows ZK l)),.agg [.x (.str n),.x (.sl (rows ZC vs))]] (.x (.sl (rows ZK (ZD3 l n vs)))):=by
 have hple:=ZDI l n;have hrl:=ZQ ZK l;have hrv:=ZQ ZC vs;unfold ZD3;refine ZF.pure (fC 103 true ?_) rfl;intro C0 E0;have uu:=YB hrl hrv;refine WI.seq ?_;refine WI.regB ZB [0,3] ?_;refine oG ?_;refine WQ ?_;refine WI.regB ZB [0,3,5] ?_;refine Wl ?_;refine WI.join (λφ os=>φ= [(0,.x (.sl (rows ZK l))),(3,.ptr 0 0),(5,.x (.int .i64 (Za l n:Nat)))]/\os= [.box [.x (.str n),.x (.sl (rows ZC vs))]]) ?_ (λφ os hJ=> ?_)
 .refine WI.block ?_;refine WI.loop (λφ os=> ∃(j:Nat),φ= [(0,.x (.sl (rows ZK l))),(3,.ptr 0 0),(5,.x (.int .i64 j))]/\os= [.box [.x (.str n),.x (.sl (rows ZC vs))]]/\j<=Za l n) (ZJ (Za l n) 5) ?_ (λφ os hI=> ?_)
  .exact Vg
  .obtain⟨j,rfl,rfl,hj⟩:=hI;refine Xs ?_;by_cases hjl:j<l.length
   .have hd:=ZI (show(j:Int)<(l.length:Int) by omega);have hrw:=ZMO l j hjl;have hlt:=ZXI l n j hjl hj;have hge:=ZJi l n j;have hgd:l[j]=l.getD j ([],[],()):=by simp[hjl]
    rw[hgd]at hlt;simp only[hgd]at hge;generalize l.getD j ([],[],())=x at hrw hlt hge;have uu:=JL uu hd hrw;refine WI.dregB ZB [0,3,5,26] ?_
    refine V2 ?_;refine ZA ?_;refine WI.cond (b:=_) rfl rfl (λh0=> ?_) (λh0=> ?_)
    .try simp only[zB]at h0
     have hjk:j<Za l n:=hlt Gc;refine Tv ?_;refine WI.block ?_;refine WI.regB ZB [0,3,5] ?_;refine WU ?_;refine oS ?_;refine oN ?_;refine Nv ?_;exact⟨⟨j+1,rfl,rfl,J0⟩,Wa⟩
    .try simp only[zB]at h0
     have hjk:j=Za l n:=by
      apply Nat.le_antisymm hj;apply Nat.le_of_not_lt;intro hc;exact absurd (hge hc) (by clear uu hge;simpa using h0)
     exact Xy
   .have hd:=decide_eq_false (show ¬(j:Int)<(l.length:Int) by omega);have hrn:(rows ZK l)[j]? =none:=ξV (by rw[hrl];omega);have uu:=JL uu hd hrn;refine WI.dregB ZB [0,3,5,26] ?_
    refine V2 ?_;refine ZA ?_;refine WI.cond (b:=_) rfl rfl (λh0=> ?_) (λh0=> ?_)
    .exfalso;simp at h0
    .try simp only[zB]at h0
     have hjk:j=Za l n:=Wm
     exact Xy
 .obtain⟨rfl,rfl⟩:=hJ;refine WI.seq ?_;refine WI.regB ZB [0,3,5,6] ?_;refine oS ?_
  refine W4 ?_;refine W4 ?_;refine X0 ?_;refine WI.regB ZB [0,3,5,6,7] ?_;refine Wu ?_;refine oG ?_;refine Wl ?_;refine WI.join (λφ os=>φ= [(0,.x (.sl (rows ZK l))),(3,.ptr 0 0),(5,.x (.int .i64 (Za l n:Nat))),(6,.ptr 1 0),(7,.x (.sl (rows ZK (KJ l n))))]/\os= [.box [.x (.str n),.x (.sl (rows ZC vs))],.box [.x (.str n),.x (.sl (rows ZC (YT l n)))]]) ?_ (λφ os hJ=> ?_)
  .refine WI.seq ?_;rcases Zhg l n with⟨hk,e1,e2,e3⟩|⟨hk,e1,e2,e3⟩|⟨hk,e2,e3⟩
   .have hd:=ZI (show((Za l n:Nat):Int)<(l.length:Int) by omega);have hrw:=ZMO l (Za l n) hk;have hba:(YT l n).length<=100000:=by rw[e2];exact hb _ Nl
    rw[e1,<-e2]at hrw;have uu:=JL uu hd hrw;refine WI.dregB ZB [0,3,5,6,7,48] ?_
    refine V2 ?_;refine ZA ?_;refine WI.cond (b:=_) rfl rfl (λh1=> ?_) (λh1=> ?_)
    .try simp only[zB]at h1
     refine WI.seq ?_;refine WI.regB ZB [0,3,5,6] ?_;refine GC ?_;refine oG ?_;refine V0 ?_;refine WI.regB ZB [0,3,5,6,7] ?_;refine GC ?_;refine Wl ?_
     (first|rw[e3]|skip);(first|rw[e2]|skip);exact⟨rfl,rfl⟩
    .exfalso;simp at h1
   .have hd:=ZI (show((Za l n:Nat):Int)<(l.length:Int) by omega);have hrw:=ZMO l (Za l n) hk;have hd2:=decide_eq_false e1;have uu:=Qu uu hd hrw hd2;refine WI.dregB ZB [0,3,5,6,7,48] ?_
    refine V2 ?_;refine ZA ?_;refine WI.cond (b:=_) rfl rfl (λh1=> ?_) (λh1=> ?_)
    .exfalso;exact e1 Vz
    .try simp only[zB]at h1
     refine WI.nnA ?_;refine WI.orderA [0,3,5,6,7] ?_;refine Tv ?_
     (first|rw[e3]|skip);(first|rw[e2]|skip);exact⟨rfl,rfl⟩
   .have hd:=decide_eq_false (show ¬((Za l n:Nat):Int)<(l.length:Int) by omega);have hrn:(rows ZK l)[Za l n]? =none:=ξV (by rw[hrl];omega);have uu:=JL uu hd hrn;refine WI.dregB ZB [0,3,5,6,7,48] ?_
    refine V2 ?_;refine ZA ?_;refine WI.cond (b:=_) rfl rfl (λh1=> ?_) (λh1=> ?_)
    .exfalso;simp at h1
    .try simp only[zB]at h1
     refine WI.nnA ?_;refine WI.orderA [0,3,5,6,7] ?_;refine Tv ?_
     (first|rw[e3]|skip);(first|rw[e2]|skip);exact⟨rfl,rfl⟩
  .obtain⟨rfl,rfl⟩:=hJ;refine WI.seq ?_;refine WI.regB ZB [0,3,5,6,7,8] ?_;refine WQ ?_;have hbb:(YT l n).length<=100000:=by
    rcases Zhg l n with⟨hk,e1,e2,e3⟩|⟨hk,e1,e2,e3⟩|⟨hk,e2,e3⟩
    .rw[e2];exact hb _ Nl
    .rw[e2];simp
    .rw[e2];simp
   have hrb:=ZQ ZC (YT l n);have uu:=YB uu hrb;generalize YT l n=b at hbb|-;have hrs:(KJ l n).length<=1000:=by unfold KJ;split<;>(rw[KQ];omega)
   generalize KJ l n=rst at hrs|-;refine WI.ownA 8 9 1 ?_;refine WI.regB ZB [0,3,5,6,7,8] ?_
   refine GC ?_;refine UH ?_;refine WI.regB ZB [0,3,5,6,7,8,9] ?_;refine ND ?_;refine WI.loop (λφ os=> ∃(j:Nat),φ= [(0,.x (.sl (rows ZK l))),(3,.ptr 0 0),(5,.x (.int .i64 (Za l n:Nat))),(6,.ptr 1 0),(7,.x (.sl (rows ZK rst))),(8,.ref 2 (QN b (vs.take j)).length 0 (QN b (vs.take j)).length),(9,.x (.int .i64 j))]/\os= [.box [.x (.str n),.x (.sl (rows ZC vs))],.box [.x (.str n),.x (.sl (rows ZC b))],.rows false 9 1 (rows ZC (QN b (vs.take j)))]/\j<=vs.length) (ZJ vs.length 9) ?_ (λφ os hI=> ?_)
   .exact⟨0,by rw[ZB0,ZMf];first|done|rfl,by rw[ZB0,ZMf],J0⟩
   .obtain⟨j,rfl,rfl,hj⟩:=hI;refine Xs ?_;refine WI.regB ZB [0,3,5,6,7,8,9,65] ?_
    refine GC ?_;refine oG ?_;refine V0 ?_;refine WI.cond (b:=_) rfl rfl (λh2=> ?_) (λh2=> ?_)
    .try simp only[zB]at h2
     have hj4:j<vs.length:=VG
     have hlt:=ZG6 b (vs.take j);rw[Yv]at hlt;have hsn:=ZQT b vs j hj4;have hrv2:(rows ZC vs)[j]? =some [X.str (vs[j])]:=by simp[rows,ZC,hj4]
     generalize vs[j]=v at hsn hrv2;generalize QN b (vs.take j)=acc at hlt hsn|-;have hra:=ZQ ZC acc;have uu:=JL uu hrv2 hra;refine UT ?_;refine WI.regB ZB [0,3,5,6,7,8,9,10] ?_;refine UH ?_;refine WI.regB ZB [0,3,5,6,7,8,9,10,11] ?_;refine ND ?_;refine WI.loop (λφ os=> ∃(i:Nat),φ= [(0,.x (.sl (rows ZK l))),(3,.ptr 0 0),(5,.x (.int .i64 (Za l n:Nat))),(6,.ptr 1 0),(7,.x (.sl (rows ZK rst))),(8,.ref 2 acc.length 0 acc.length),(9,.x (.int .i64 j)),(10,.x (.bool (decide (v∈acc.take i)))),(11,.x (.int .i64 i))]/\os= [.box [.x (.str n),.x (.sl (rows ZC vs))],.box [.x (.str n),.x (.sl (rows ZC b))],.rows false 9 1 (rows ZC acc)]/\i<=acc.length) (ZJ acc.length 11) ?_ (λφ os hI=> ?_)
     .exact⟨0,J1,rfl,J0⟩
     .obtain⟨i,rfl,rfl,hi⟩:=hI;refine Xs ?_;refine WI.regB ZB [0,3,5,6,7,8,9,10,11,71] ?_
      refine GC ?_;refine V0 ?_;refine WI.cond (b:=_) rfl rfl (λh3=> ?_) (λh3=> ?_)
      .try simp only[zB]at h3
       have hi4:i<acc.length:=VG
       have hmt:=ZRF acc v i hi4;have hdi:=ZI (show(i:Int)<(acc.length:Int) by omega);have hri:(rows ZC acc)[i]? =some [X.str (acc[i])]:=by simp[rows,ZC,hi4]
       generalize acc[i]=q at hmt hri;have uu:=JL uu hdi hri;refine Vt ?_;refine WI.block ?_;refine WI.dregB ZB [0,3,5,6,7,8,9,10,11] ?_
       refine Wn ?_;refine Vc ?_;refine VJ ?_;refine Zn ?_;refine Zd ?_;refine Zn ?_;refine VJ ?_;refine Vc ?_;refine ZU ?_;refine dN ?_;refine Nv ?_;refine WI.regB ZB [0,3,5,6,7,8,9,10,11] ?_;refine WU ?_;refine Wl ?_;exact⟨⟨i+1,by rw[hmt];first|done|rfl,rfl,J0⟩,Wa⟩
      .try simp only[zB]at h3
       have hti:acc.take i=acc:=YR VG;rw[hti];refine Vb ?_;refine Wz ?_;refine WI.regB ZB [0,3,5,6,7,8,9,88] ?_;refine X3 ?_;refine WI.cond (b:=_) rfl rfl (λh4=> ?_) (λh4=> ?_)
       .try simp only[zB]at h4
        have hst:QN b (vs.take (j+1))=acc++ [v]:=by rw[hsn];unfold ZEy;rw[if_neg (by clear uu;simpa using h4)]
        refine WI.post ?_;refine WI.regB ZB [0,3,5,6,7,8,9] ?_;refine Wu ?_;refine oG ?_;refine Us ?_;refine W4 ?_;refine Nu ?_;refine Jg [0,1,2] ?_;refine KI ?_;exact Ug
       .try simp only[zB]at h4
        have hst:QN b (vs.take (j+1))=acc:=by rw[hsn];unfold ZEy;rw[if_pos (by clear uu;simpa using h4)]
        refine WI.skip ?_;exact Ug
    .try simp only[zB]at h2
     obtain rfl:j=vs.length:=VG
     have hlt:=ZG6 b vs;rw[JX];generalize QN b vs=acc at hlt|-;have hra:=ZQ ZC acc;have hta:(rows ZC acc).take acc.length=rows ZC acc:=by rw[<-hra,JX]
     have uu:=JL uu hra hta;refine Vb ?_;refine Wz ?_;refine WI.regB ZB [0,5,6,7,8] ?_
     refine Wu ?_;refine oG ?_;refine X0 ?_;refine WI.regB ZB [0,5,6,7,8,12] ?_;refine WQ ?_;refine WI.regB ZB [6,7,8,12] ?_;refine Wu ?_;refine Us ?_;refine UH ?_;refine WI.regB ZB [6,7,12,106] ?_;refine Us ?_;refine V0 ?_;refine WI.cond (b:=_) rfl rfl (λh5=> ?_) (λh5=> ?_)
     .try simp only[zB]at h5
      have hoa:ZLD n acc= [(n,acc,())]:=if_neg (λe=>by subst e;clear uu;simp at h5);rw[hoa];refine WI.regB ZB [7,12] ?_;refine oS ?_
      iterate 3 refine oG (hok:=Uz) ?_
      refine WQ ?_;refine WI.regB ZB [4] ?_;refine Wu ?_;refine oG (hok:=Uz) ?_;refine Vm ?_
      first|refine lfR ?_|refine ZAs ?_|refine ZAY ?_|refine ZAi ?_
      rw[YR (by simp only[ZW,Yx,Qw,ZQ,Yv];omega)];simp only[rows,Jj];rfl
     .try simp only[zB]at h5
      have hoa:ZLD n acc= []:=if_pos (by clear uu;simpa using h5);rw[hoa,Kg];refine Vt ?_;refine WI.regB ZB [4] ?_
      refine Wu ?_;refine oG (hok:=Uz) ?_;refine Vm ?_
      first|refine lfR ?_|refine ZAs ?_|refine ZAY ?_|refine ZAi ?_
      rw[YR (by simp only[ZW,Yx,Qw,ZQ,Yv];omega)];first|done|simp only[rows,Jj]
def ZWa:J8->J5
 | [.x (.sl A),.agg [.x (.str n),.x (.sl V)]]=>(ZM ZK A).bind λl=>(ZM ZC V).bind λvs=>some (decide (l.length<=1000)&&(decide (vs.length<=1000)&&(decide (∀a∈l,a.2.1.length<=100000))),.x (.sl (rows ZK (ZD3 l n vs))))
 |_=>none
theorem Zcp:QK Tryz.prog ZWa 103:=by
 intro args r h;unfold ZWa at h;split at h
 .obtain⟨l,rfl,i0⟩:=un Zf h;obtain⟨vs,rfl,i1⟩:=un ZP i0;obtain⟨h1,h2,h3,rfl⟩:=fn3 i1;exact Zir l _ vs h1 h2 h3
 .cases h
theorem ZZk(l:List ZN)(n:List UInt8)(B:Nat)(hb: ∀a∈l,a.2.1.length<=B):(YT l n).length<=B:=by
 unfold YT;split
 .by_cases h:Za l n<l.length
  .have e:l.getD (Za l n) ([],[],())=l[Za l n]:=Hj
   rw[e];exact hb _ (YK _)
  .have e:l.getD (Za l n) ([],[],())=([],[],()):=Hj
   rw[e];simp
 .simp
theorem ZYb(l:List ZN)(n:List UInt8)(vs:List (List UInt8)):(ZD3 l n vs).length<=l.length+1:=by
 have:=ZDI l n;unfold ZD3 ZLD KJ;split<;>split<;>simp<;>omega
theorem ZXG(l:List ZN)(n:List UInt8)(vs:List (List UInt8))(B C:Nat)(hb: ∀a∈l,a.2.1.length<=B)(hv:vs.length<=C): ∀a∈ZD3 l n vs,a.2.1.length<=B+C:=by
 intro a ha;unfold ZD3 at ha;rcases KT.1 ha with ha|ha
 .rcases KT.1 ha with ha|ha
  .have:=hb a (ZCH ha);omega
  .unfold ZLD at ha;split at ha
   .simp at ha
   .rw[ZAM]at ha;subst ha;have h1:=ZG6 (YT l n) vs;have h2:=ZZk l n B hb;simp only;omega
 .have:a∈l:=by
   unfold KJ at ha;split at ha<;>exact ZDD ha
  have:=hb a this;omega
def ZAT(l:List ZN):List ZN:=l.foldl (λacc a=>ZD3 acc (ZE a.1) a.2.1) []
theorem ZHB(l:List ZN)(j:Nat)(h:j<l.length):ZAT (l.take (j+1))=ZD3 (ZAT (l.take j)) (ZE l[j].1) l[j].2.1:=by
 unfold ZAT;rw[JW h,ZM0];rfl
theorem ZL2(l:List ZN): ∀j,j<=l.length->(ZAT (l.take j)).length<=j
 |0,_=>by simp[ZAT]
 |j+1,h=>by
  rw[ZHB l j J0];have:=ZYb (ZAT (l.take j)) (ZE l[j].1) l[j].2.1;have:=ZL2 l j J0;omega
theorem ZKD(l:List ZN)(hb: ∀a∈l,a.2.1.length<=1000): ∀j,j<=l.length-> ∀a∈ZAT (l.take j),a.2.1.length<=j*1000
 |0,_=>by simp[ZAT]
 |j+1,h=>by
  rw[ZHB l j J0];have:=ZXG (ZAT (l.take j)) (ZE l[j].1) l[j].2.1 (j*1000) 1000 (ZKD l hb j J0) (hb _ (YK _));intro a ha;have:=this a ha;omega
theorem Zio(l:List ZN):ZM ZK (rows ZK l)=some l:=ZS Zf l
theorem Zip(l:List (List UInt8)):ZM ZC (rows ZC l)=some l:=ZS ZP l
theorem Zbv(dn:List UInt8)(l:List ZN)(hl:l.length<=100)(ht: ∀a∈l,a.1.length<=1000000)(hb: ∀a∈l,a.2.1.length<=1000):ZL Tryz.prog 69 [.agg [.x (.str dn),.x (.sl (rows ZK l))]] (.agg [.x (.str dn),.x (.sl (rows ZK (ZAT l)))]):=by
 refine ZF.pure (fC 69 true ?_) rfl;intro C0 E0;have uu:=Qu @ZIc.eq_1 @ZWa.eq_1 @Zio @Zip;have tT:=aQ (aQ ZB ZI4) (ZBe Zcp);refine nz ?_;refine WI.regB tT [1,2] ?_
 refine W4 ?_;refine V9 ?_;refine WI.regB tT [1,2,3] ?_;refine Wf ?_;refine WI.regB tT [1,2,3,4] ?_;refine Wf ?_;refine WI.nnA ?_;refine WI.loop (λφ os=> ∃(j:Nat),φ= [(1,.ptr 0 0),(2,.ptr 1 0),(3,.x (.sl (rows ZK (ZAT (l.take j))))),(4,.x (.int .i64 j))]/\os= [.box [.x (.str dn),.x (.sl (rows ZK l))],.box [.x (.str []),.x (.sl [])]]/\j<=l.length) (ZJ l.length 4) ?_ (λφ os hI=> ?_)
 .exact Vg
 .obtain⟨j,rfl,rfl,hj⟩:=hI;refine nz ?_;refine WI.regB tT [1,2,3,4,9] ?_
  refine Wu ?_
  iterate 3 refine oG (hok:=Wv) ?_
  refine V9 ?_;refine cd (λh0=> ?_) (λh0=> ?_)
  .have hj4:j<l.length:=Wm
   have hst:=ZHB l j hj4;have hlj:=ZL2 l j hj;have hvj: ∀a∈ZAT (l.take j),a.2.1.length<=100000:=λa ha=>by have:=ZKD l hb j hj a ha;omega
   have htj:=ht l[j] (YK _);have hbj:=hb l[j] (YK _);refine WI.dregB tT [1,2,3,4] ?_
   refine Wn ?_;refine Gi ?_;refine ZU ?_;refine Zd (hok:=Wv) ?_;refine dQC (hok:=Wv) ?_;refine ZU ?_;refine Gi ?_;refine ZU ?_;refine Zd (hok:=Wv) ?_;refine Zn (hok:=Wv) ?_;refine dAC (hok:=Wv) ?_;refine ZU ?_;refine VP ?_;refine WI.regB tT [1,2,3,4] ?_;refine oS ?_;refine oG (hok:=Wv) ?_;refine Wf ?_;exact⟨⟨j+1,by rw[hst];rfl,rfl,J0⟩,Wa⟩
  .have hvt:l.take j=l:=YR J0;rw[hvt];refine GT ?_;refine oG (hok:=Wv) ?_;refine oS ?_
   iterate 2 refine oG (hok:=Wv) ?_
   refine V9 ?_;refine lf ?_
   exact Wo
def ZLI:J8->J5
 | [.agg [.x (.str dn),.x (.sl A)]]=>(ZM ZK A).bind λl=>some (decide (l.length<=100)&&(decide (∀a∈l,a.1.length<=1000000)&&(decide (∀a∈l,a.2.1.length<=1000))),.agg [.x (.str dn),.x (.sl (rows ZK (ZAT l)))])
 |_=>none
theorem ZOD:QK Tryz.prog ZLI 69:=by
 intro args r h;unfold ZLI at h;split at h
 .obtain⟨l,rfl,i0⟩:=un Zf h;obtain⟨h1,h2,h3,rfl⟩:=fn3 i0;exact Zbv _ l h1 h2 h3
 .cases h
theorem ZiF{l:List ZN}(hc:ClA l)(n:Tx)(vs:List Tx):ZD3 l n vs=Kv l n vs:=by
 unfold ZD3 Kv;by_cases hv:vs= []
 .rw[if_pos hv,hv,ZMf];by_cases h:Qn l n=true
  .obtain⟨h1,h2,h3⟩:=ZUL h;have hk:=ZCc h;unfold ZLD KJ;rw[h2,if_neg (hc _ h1).1,if_pos h]
   conv=>rhs;rw[<-ZBb (Za l n) l,ξW hk]
   rw[Ys,ZO5];congr 2;exact ZCQ h3.symm rfl
  .unfold ZLD KJ YT;rw[if_neg h,if_neg h,if_pos rfl,Kg,ZBb]
 .rw[if_neg hv];have e:QN [] (YT l n++vs)=QN (YT l n) vs:=by
   have h1:QN [] (YT l n)=YT l n:=by rw[ZKz _ _ (by simpa using Ze5 hc n)];rfl
   conv=>rhs;rw[<-h1]
   exact ZM0
  unfold ZLD;rw[e,if_neg (ZOv _ _ (.inl hv))]
theorem ZUy: ∀(l acc:List ZN),ClA acc->l.foldl (λacc a=>ZD3 acc (ZE a.1) a.2.1) acc=l.foldl (λacc a=>Kv acc (ZE a.1) a.2.1) acc/\ClA (l.foldl (λacc a=>Kv acc (ZE a.1) a.2.1) acc)
 | [],acc,h=>⟨rfl,h⟩
 |a::l,acc,h=>by
  rw[ZK2,ZK2,ZiF h];exact ZUy l _ (ZVa h _ _)
theorem ZTs(l:List ZN):ZAT l=Zm l:=(ZUy l [] (λ_ h=>W6)).1
theorem Zfe{l:List ZN}(hs:SoA l){n:Tx}{j:Nat}(h:j<l.length)(he:l[j].1=n):YT l n=l[j].2.1:=by
 have hp:Za l n=j:=ZRx l n j J0 (λa ha=>by
  obtain⟨i,hi,rfl⟩:=ZKf.1 ha;rw[Yv]at hi;rw[List.getElem_take,<-he];exact ZFK.1 hs i j J0 h J0) (λ_=>by rw[he];exact bl_irr n)
 subst hp;unfold YT;rw[if_pos (by unfold Qn;rw[Zw h];simpa using he)];simp[h]
theorem ZeW{l:List ZN}{n:Tx}(h: ∀a∈l,a.1≠n):YT l n= []:=by
 unfold YT;rw[if_neg λhh=>by
  obtain⟨h1,_,h3⟩:=ZUL hh;exact h _ h1 h3]
def ZMT:J8->J5
 | [.x (.str s)]=>some (decide (s.length<=140737488355328),.x (.str (ZE s)))
 |_=>none
theorem ZUY:QK Tryz.prog ZMT 97:=by
 intro args r h;unfold ZMT at h;split at h
 .obtain⟨h1,rfl⟩:=Yn h;exact(ZGz _ h1)
 .cases h
theorem ZhL(dn:Tx)(l:List ZN)(n:Tx)(h:Js l)(hn:n.length<=140737488355328):ZL Tryz.prog 61 [.agg [.x (.str dn),.x (.sl (rows ZK l))],.x (.str n)] (.x (.sl (rows ZC (ZGx l n)))):=by
 have c1:=ZI h.1;have c2:=ZI h.2.1;have c3:decide (∀a∈l,a.2.1.length<=1000)=true:=ZI λa ha=>by have:=h.2.2 a ha;omega
 have hdn:=ZI hn;have hul:ZM ZK (rows ZK l)=some l:=ZS Zf l;have hce:=ZTs l;have hso:=ZNa l;have hcl:(Zm l).length<=100:=Xe
 unfold ZGx;generalize Zm l=V at hce hso hcl|-;have hvl:=ZQ ZK V;obtain⟨b,hb⟩: ∃b,YT V (ZE n)=b:=⟨_,rfl⟩;rw[hb];refine ZF.pure (fC 61 true ?_) rfl;intro C0 E0;have uu:=ξ9 @ZMT.eq_1 @ZLI.eq_1 hul hce @c1 @c2 @c3 hdn hvl;have tT:=aQ (aQ ZB ZUY) ZOD;refine rg [1,2] ?_;refine rg [1,5] ?_;refine rg [1,5,6] ?_;refine WI.pickA [] ?_;refine WI.loop (λφ os=> ∃(j:Nat),φ= [(1,.x (.str n)),(5,.x (.sl (rows ZK V))),(6,.x (.int .i64 j))]/\os= []/\j<=V.length/\ ∀a∈V.take j,a.1≠ZE n) (ZJ V.length 6) ?_ (λφ os hI=> ?_)
 .exact UM
 .obtain⟨j,rfl,rfl,hj,hno⟩:=hI;refine rg [1,5,6,13] ?_;refine cd (λh0=> ?_) (λh0=> ?_)
  .have hj4:j<V.length:=VG
   have hrw:=ZKR V j hj4;have hxe:V.getD j ([],[],())=V[j]:=T8
   have hba:=λe=>Zfe (n:=ZE n) hso hj4 e
   have htk:=JW hj4;rw[<-hxe]at hba htk;generalize V.getD j ([],[],())=x at hrw hba htk;have uu:=YB uu hrw;refine WI.dregB tT [1,5,6,23] ?_
   refine X2 ?_;refine ZU ?_;refine dQC ?_;refine Zn ?_;refine VP ?_;refine cd (λh1=> ?_) (λh1=> ?_)
   .have hx:x.1=ZE n:=Vz
    have hb2:x.2.1=b:=by rw[<-hb,hba hx]
    have uu:=YB uu hb2;refine VW ?_
    exact Wo
   .have hx: ¬x.1=ZE n:=Vz
    have hno2: ∀a∈V.take (j+1),a.1≠ZE n:=λa ha=>by
     rw[htk]at ha;rcases KT.1 ha with ha|ha
     .exact hno a ha
     .rw[ZAM]at ha;subst ha;exact hx
    refine rg [1,5,6] ?_;exact XD
  .refine VW ?_;rw[YR VG]at hno;rw[<-hb,ZeW hno];rfl
def ZXF:J8->J5
 | [.agg [.x (.str dn),.x (.sl R)],.x (.str n)]=>(ZM ZK R).bind λl=>some (decide (Js l/\n.length<=140737488355328),.x (.sl (rows ZC (ZGx l n))))
 |_=>none
theorem ZdE:QK Tryz.prog ZXF 61:=by
 intro args r h;unfold ZXF at h;split at h
 .obtain⟨l,rfl,i0⟩:=un Zf h;obtain⟨h1,rfl⟩:=Yn i0;exact(ZhL _ l _ h1.1 h1.2)
 .cases h
theorem Zh4(dn:Tx)(l:List ZN)(n v:Tx)(k:Int)(h:Js l)(hn:n.length<=140737488355328):ZL Tryz.prog 62 [.agg [.x (.str dn),.x (.sl (rows ZK l))],.x (.str n),.x (.str v),.x (.int .i64 k)] (.x (.bool (ZJn l n v k))):=by
 have hd1:decide (Js l/\n.length<=140737488355328)=true:=ZI ⟨h,hn⟩;have hul:ZM ZK (rows ZK l)=some l:=ZS Zf l;have hgl:=ZT5 l n h;unfold ZJn;rcases hg:ZGx l n with V
 rw[hg]at hgl;refine ZF.pure (fC 62 true ?_) rfl;intro C0 E0;have uu:=ξ5 @ZXF.eq_1 @ZI1.eq_1 hd1 hul hg;have tT:=aQ (aQ ZB ZdE) ZL5;refine rg [1,2,3,4] ?_;refine rg [2,3,9] ?_;refine rg [2,3,9,10] ?_;refine WI.pickA [] ?_;refine WI.orderA [2,3,9,10] ?_;refine WI.loop (λφ os=> ∃(j:Nat),φ= [(2,.x (.str v)),(3,.x (.int .i64 k)),(9,.x (.sl (rows ZC V))),(10,.x (.int .i64 j))]/\os= []/\j<=V.length/\(V.take j).any (λx=>decide (eqV k x v=1))=false) (ZJ V.length 10) ?_ (λφ os hI=> ?_)
 .exact W5
 .obtain⟨j,rfl,rfl,hj,hno⟩:=hI;refine rg [2,3,9,10,17] ?_;refine cd (λh0=> ?_) (λh0=> ?_)
  .have hj4:j<V.length:=by clear uu;have:=ZQ ZC V;omega
   have hrw:(rows ZC V)[j]? =some [X.str (V.getD j [])]:=XP
   have hat:=ZL6 (λx=>decide (eqV k x v=1)) V j hj4;have hmem:V.getD j []∈V:=XQ
   generalize V.getD j []=x at hrw hat hmem;have uu:=YB uu hrw;refine rg [2,3,9,10,27] ?_;refine cd (λh1=> ?_) (λh1=> ?_)
   .have hx:eqV k x v=1:=Vz
    exact XA
   .have hx:decide (eqV k x v=1)=false:=Vz
    refine rg [2,3,9,10] ?_;exact⟨⟨j+1,rfl,rfl,J0,by rw[hat,hno,hx];rfl⟩,Wa⟩
  .refine rg [8] ?_;refine lf ?_;rw[YR VG]at hno;rw[hno]
def ZX3:J8->J5
 | [.agg [.x (.str dn),.x (.sl R)],.x (.str n),.x (.str v),.x (.int .i64 k)]=>(ZM ZK R).bind λl=>some (decide (Js l/\n.length<=140737488355328),.x (.bool (ZJn l n v k)))
 |_=>none
theorem Zdd:QK Tryz.prog ZX3 62:=by
 intro args r h;unfold ZX3 at h;split at h
 .obtain⟨l,rfl,i0⟩:=un Zf h;obtain⟨h1,rfl⟩:=Yn i0;exact(Zh4 _ l _ _ _ h1.1 h1.2)
 .cases h
theorem Zj4(l:List Tx)(s:Tx)(hl:l.length<=4000000000000):ZL Tryz.prog 133 [.x (.sl (rows ZC l)),.x (.str s)] (.x (.bool (decide (s∈l)))):=by
 refine ZF.pure (fC 133 true ?_) rfl;intro C0 E0;have uu:=trivial;have tT:=(ZB:SsOk Tryz.prog YH);refine VS ?_;refine WI.loop (λφ os=> ∃(j:Nat),φ= [(0,.x (.sl (rows ZC l))),(1,.x (.str s)),(5,.x (.int .i64 j))]/\os= []/\j<=l.length/\s∉l.take j) (ZJ l.length 5) ?_ (λφ os hI=> ?_)
 .exact UM
 .obtain⟨j,rfl,rfl,hj,hn⟩:=hI;refine rg [0,1,5,9] ?_;refine cd (λh0=> ?_) (λh0=> ?_)
  .have hj4:j<l.length:=Wm
   have hrw:=KY l j hj4;have hg:l.getD j []=l[j]:=T8
   have hm:l.getD j []∈l:=by rw[hg];exact YK hj4
   have htk:l.take (j+1)=l.take j++ [l.getD j []]:=by rw[JW hj4,hg]
   generalize l.getD j []=x at hrw hm htk;have uu:=YB uu hrw;refine rg [0,1,5,17] ?_;refine cd (λh1=> ?_) (λh1=> ?_)
   .have hx:x=s:=WC
    refine Wj ?_;subst hx;rw[ZI hm]
   .have hx: ¬x=s:=WC
    have hn2:s∉l.take (j+1):=by rw[htk];simp;exact⟨hn,λe=>hx e.symm⟩
    refine rg [0,1,5] ?_;exact⟨⟨j+1,rfl,rfl,J0,hn2⟩,Wa⟩
  .refine Wj ?_;rw[YR J0]at hn;rw[decide_eq_false hn]
def inG:J8->J5
 | [.x (.sl R),.x (.str s)]=>(ZM ZC R).bind λl=>some (decide (l.length<=4000000000000),.x (.bool (decide (s∈l))))
 |_=>none
theorem ZNv:QK Tryz.prog inG 133:=by
 intro args r h;unfold inG at h;split at h
 .obtain⟨l,rfl,i0⟩:=un ZP h;obtain⟨h1,rfl⟩:=Yn i0;exact(Zj4 l _ h1)
 .cases h
theorem Zbz(l:List Tx)(hl:l.length<=100000)(hn: ∀x∈l,x.length<=1000000):ZL Tryz.prog 168 [.x (.sl (rows ZC l))] (.x (.sl (rows ZC (l.map ZE)))):=by
 refine ZF.pure (fC 168 true ?_) rfl;intro C0 E0;have uu:= @ZIc.eq_1;have tT:=aQ ZB ZI4;refine VD ?_;refine rg [0,3,4] ?_;refine WI.ownA 3 9 1 ?_;refine WI.loop (λφ os=> ∃(j:Nat),φ= [(0,.x (.sl (rows ZC l))),(3,.ref 0 ((l.take j).map ZE).length 0 ((l.take j).map ZE).length),(4,.x (.int .i64 j))]/\os= [.rows false 9 1 (rows ZC ((l.take j).map ZE))]/\j<=l.length) (ZJ l.length 4) ?_ (λφ os hI=> ?_)
 .exact Vg
 .obtain⟨j,rfl,rfl,hj⟩:=hI;refine rg [0,3,4,8] ?_;refine cd (λh0=> ?_) (λh0=> ?_)
  .have hj4:j<l.length:=Wm
   have hrw:=KY l j hj4;have htk:(l.take (j+1)).map ZE=(l.take j).map ZE++ [ZE (l.getD j [])]:=Tn
   have hd:=ZI (hn (l.getD j []) TO);have hlen2:((l.take j).map ZE).length<=100000:=TE
   generalize l.getD j []=x at hrw htk hd;have uu:=JL uu hrw hd;refine rg [0,3,4] ?_;refine WI.pickA [0] ?_;refine rg [0,3,4] ?_;exact⟨⟨j+1,by rw[htk,ZW];rfl,by rw[htk,ZDL],J0⟩,Wa⟩
  .obtain rfl:j=l.length:=Wm
   rw[JX];refine rg [2] ?_;refine Gd ?_
   exact Wo
def ZLX:J8->J5
 | [.x (.sl R)]=>(ZM ZC R).bind λl=>some (decide (l.length<=100000/\ ∀x∈l,x.length<=1000000),.x (.sl (rows ZC (l.map ZE))))
 |_=>none
theorem ZNi:QK Tryz.prog ZLX 168:=by
 intro args r h;unfold ZLX at h;split at h
 .obtain⟨l,rfl,i0⟩:=un ZP h;obtain⟨h1,rfl⟩:=Yn i0;exact(Zbz l h1.1 h1.2)
 .cases h
def sD(T:List Ze)(C:List Zi):D:= .agg [.x (.sl (rows Zz T)),.x (.sl (rows YW C))]
def ZJB:J8->J5
 | [.x (.str s)]=>some (decide (s.length<=140737488355328),.x (.str (ZE s)))
 |_=>none
theorem ZMB:QK Tryz.prog ZJB 97:=by
 intro args r h;unfold ZJB at h;split at h
 .obtain⟨h1,rfl⟩:=Yn h;exact(ZGz _ h1)
 .cases h
theorem Zhp{T:List Ze}{k:Tx}{j:Nat}(h:ZH (Zp (T.take j)) k=none)(hj:j<T.length)(hne:ZE (T.getD j ([],0,false,())).1≠k):ZH (Zp (T.take (j+1))) k=none:=by
 rw[KV,ZRg]at h|-;rw[JW hj,Jj];intro hin;rcases KT.1 hin with h1|h1
 .exact h h1
 .refine hne ?_;simp[hj]at h1|-;exact h1.symm
theorem Zef{T:List Ze}{k:Tx}{j:Nat}(h:ZH (Zp (T.take j)) k=none)(hj:j<T.length)(he:ZE (T.getD j ([],0,false,())).1=k):ZH (Zp T) k=some (ZUC (T.getD j ([],0,false,()))):=by
 have hg:T.getD j ([],0,false,())=T[j]:=by simp[hj]
 rw[hg]at he|-;have e:Zp T=Zp (T.take j)++((ZE T[j].1,ZUC T[j])::Zp (T.drop (j+1))):=by
  have e2:Zp (T[j]::T.drop (j+1))=(ZE T[j].1,ZUC T[j])::Zp (T.drop (j+1)):=rfl;rw[<-e2,<-ξW hj];unfold Zp;rw[<-Jj,ZBb]
 have h0:(Zp (T.take j)).find? (λp=>decide (k=p.1))=none:=by unfold ZH at h;simpa using h
 exact Gq
theorem ZfU(T:List Ze)(C:List Zi)(n:Tx)(hT:smT T)(hn:n.length<=140737488355328):ZL Tryz.prog 135 [sD T C,.x (.str n)] (.tup [tyD (Ke (Zp T) (ZE n)),.x (.bool (ZH (Zp T) (ZE n)).isSome)]):=by
 have hTl:=hT.1;have hdn:=ZI hn;unfold sD Ke;rcases hm:ZH (Zp T) (ZE n)with _|t
 all_goals
  unfold tyD;refine ZF.pure (fC 135 true ?_) rfl;intro C0 E0;have uu:=JL @ZJB.eq_1 hdn @ZLX.eq_1;have tT:=aQ (aQ ZB ZMB) ZNi;refine rg [1,2,4] ?_;refine rg [1,2,4,6] ?_;refine WI.orderA [1,2,4,6] ?_;refine WI.loop (λφ os=> ∃(j:Nat),φ= [(1,.x (.str n)),(2,.ptr 0 0),(4,.ptr 1 0),(6,.x (.int .i64 j))]/\os= [.box [.x (.sl (rows Zz T)),.x (.sl (rows YW C))],.box [.x (.str []),.x (.int .i64 0),.x (.bool false)]]/\j<=T.length/\ZH (Zp (T.take j)) (ZE n)=none) (ZJ T.length 6) ?_ (λφ os hI=> ?_)
  .exact W5
  .obtain⟨j,rfl,rfl,hj,hno⟩:=hI;refine rg [1,2,4,6,12] ?_;refine cd (λh0=> ?_) (λh0=> ?_)
   .have hj4:j<T.length:=Wm
    have hrw:=ZNc T j hj4;have hy:=Zef hno hj4;have hN:=Zhp hno hj4;have hxl:=hT.2 (T.getD j ([],0,false,())) (by rw[show T.getD j ([],0,false,())=T[j] by simp[hj4]];exact YK hj4);generalize T.getD j ([],0,false,())=x at hrw hy hN hxl;have hd47:decide (x.1.length<=140737488355328)=true:=ZI J0;have uu:=JL uu hrw hd47;refine rg [1,2,4,6,24] ?_;refine cd (λh1=> ?_) (λh1=> ?_)
    .have hx:ZE x.1=ZE n:=WC
     have hy2:=hy hx;rw[hm]at hy2;refine rg [4,7] ?_;refine rg [4,7] ?_;refine W8 ?_
     first|(cases hy2;done)|(cases hy2;rfl)
    .have hx: ¬ZE x.1=ZE n:=WC
     have hno2:=hN hx;refine rg [1,2,4,6] ?_;exact XD
   .refine W8 ?_;rw[YR J0]at hno;rw[hm]at hno;first|rfl|(cases hno;done)
theorem Zg2{C:List Zi}{k:Tx}{j:Nat}(h:ZH (YE (C.take j)) k=none)(hj:j<C.length)(hne:ZE (C.getD j ([],[],[],())).1≠k):ZH (YE (C.take (j+1))) k=none:=by
 rw[KV,ZSo]at h|-;rw[JW hj,Jj];intro hin;rcases KT.1 hin with h1|h1
 .exact h h1
 .refine hne ?_;simp[hj]at h1|-;exact h1.symm
theorem ZfW{C:List Zi}{k:Tx}{j:Nat}(h:ZH (YE (C.take j)) k=none)(hj:j<C.length)(he:ZE (C.getD j ([],[],[],())).1=k):ZH (YE C) k=some (ZDX (C.getD j ([],[],[],()))):=by
 have hg:C.getD j ([],[],[],())=C[j]:=by simp[hj]
 rw[hg]at he|-;have e:YE C=YE (C.take j)++((ZE C[j].1,ZDX C[j])::YE (C.drop (j+1))):=by
  have e2:YE (C[j]::C.drop (j+1))=(ZE C[j].1,ZDX C[j])::YE (C.drop (j+1)):=rfl;rw[<-e2,<-ξW hj];unfold YE;rw[<-Jj,ZBb]
 have h0:(YE (C.take j)).find? (λp=>decide (k=p.1))=none:=by unfold ZH at h;simpa using h
 exact Gq
def ZBt(C:List Zi):Prop:=C.length<=100000/\ ∀x∈C,x.1.length<=1000000/\(x.2.1.length<=50000/\ ∀n∈x.2.1,n.length<=1000000)/\(x.2.2.1.length<=50000/\ ∀n∈x.2.2.1,n.length<=1000000)
instance (C:List Zi):Decidable (ZBt C):=inferInstanceAs (Decidable (_/\_))
theorem ZcO(T:List Ze)(C:List Zi)(n:Tx)(hC:ZBt C)(hn:n.length<=1000000):ZL Tryz.prog 132 [sD T C,.x (.str n)] (.tup [clD (clV (YE C) (ZE n)),.x (.bool (ZH (YE C) (ZE n)).isSome)]):=by
 have hCl:=hC.1;have hdn:decide (n.length<=140737488355328)=true:=ZI J0;unfold sD clV;rcases hm:ZH (YE C) (ZE n)with _|t
 all_goals
  unfold clD;refine ZF.pure (fC 132 true ?_) rfl;intro C0 E0;have uu:=Qu @ZJB.eq_1 @ZLX.eq_1 @ZOe hdn;have tT:=aQ (aQ ZB ZMB) ZNi;refine rg [1,2,4] ?_;refine rg [1,2,4,6] ?_;refine WI.nnA ?_;refine WI.orderA [1,2,4,6] ?_;refine WI.loop (λφ os=> ∃(j:Nat),φ= [(1,.x (.str n)),(2,.ptr 0 0),(4,.ptr 1 0),(6,.x (.int .i64 j))]/\os= [.box [.x (.sl (rows Zz T)),.x (.sl (rows YW C))],.box [.x (.str []),.x (.sl []),.x (.sl [])]]/\j<=C.length/\ZH (YE (C.take j)) (ZE n)=none) (ZJ C.length 6) ?_ (λφ os hI=> ?_)
  .exact W5
  .obtain⟨j,rfl,rfl,hj,hno⟩:=hI;refine rg [1,2,4,6,12] ?_;refine cd (λh0=> ?_) (λh0=> ?_)
   .have hj4:j<C.length:=Wm
    have hrw:=ZSd C j hj4;have hy:=ZfW hno hj4;have hN:=Zg2 hno hj4;have hxl:=hC.2 (C.getD j ([],[],[],())) (by rw[show C.getD j ([],[],[],())=C[j] by simp[hj4]];exact YK hj4);generalize C.getD j ([],[],[],())=x at hrw hy hN hxl;obtain⟨hx1,hx2,hx3⟩:=hxl;have hd47:decide (x.1.length<=140737488355328)=true:=ZI J0;have hd48:decide (x.2.1.length<=100000/\ ∀n∈x.2.1,n.length<=1000000)=true:=ZI ⟨J0,hx2.2⟩;have hd49:decide (x.2.2.1.length<=100000/\ ∀n∈x.2.2.1,n.length<=1000000)=true:=ZI ⟨J0,hx3.2⟩;have uu:=ξ5 uu hrw hd47 hd48 hd49;refine rg [1,2,4,6,7] ?_;refine rg [1,2,4,6,7,25] ?_;refine cd (λh1=> ?_) (λh1=> ?_)
    .have hx:ZE x.1=ZE n:=WC
     have hy2:=hy hx;rw[hm]at hy2;refine WI.dregB tT [4,5] ?_;refine WX ?_;refine dQC ?_;refine WX ?_;refine dQC ?_;refine WX ?_;refine dAC ?_;refine Zn ?_;refine Qj ?_;refine ZU ?_;refine VP ?_;refine lf ?_
     first|(cases hy2;done)|(cases hy2;rfl)
    .have hx: ¬ZE x.1=ZE n:=WC
     have hno2:=hN hx;refine WI.pickA [0,1] ?_;refine rg [1,2,4,6] ?_;exact XD
   .refine rg [4,5] ?_;refine WI.nnA ?_;refine lf ?_;rw[YR J0]at hno;rw[hm]at hno;first|rfl|(cases hno;done)
def ZKG:J8->J5
 | [.agg [.x (.sl R),.x (.sl R2)],.x (.str n)]=>(ZM Zz R).bind λT=>(ZM YW R2).bind λC=>some (decide (smT T/\n.length<=1000000),.tup [tyD (Ke (Zp T) (ZE n)),.x (.bool (ZH (Zp T) (ZE n)).isSome)])
 |_=>none
theorem ZKX:QK Tryz.prog ZKG 135:=by
 intro args r h;unfold ZKG at h;split at h
 .rename_i R R2 n;obtain⟨T,rfl,i0⟩:=un JC h;obtain⟨C,rfl,i1⟩:=un JP i0;obtain⟨h1,rfl⟩:=Yn i1;exact(ZfU T C n h1.1 J0)
 .cases h
def ZOu:J8->J5
 | [.agg [.x (.sl R),.x (.sl R2)],.x (.str n)]=>(ZM Zz R).bind λT=>(ZM YW R2).bind λC=>some (decide (ZBt C/\n.length<=1000000),.tup [clD (clV (YE C) (ZE n)),.x (.bool (ZH (YE C) (ZE n)).isSome)])
 |_=>none
theorem ZW2:QK Tryz.prog ZOu 132:=by
 intro args r h;unfold ZOu at h;split at h
 .obtain⟨T,rfl,i0⟩:=un JC h;obtain⟨C,rfl,i1⟩:=un JP i0;obtain⟨h1,rfl⟩:=Yn i1;exact(ZcO T C _ h1.1 h1.2)
 .cases h
def nmL(L:List (Tx×Ze))(a:ZN):Tx:=(Ke L (ZE a.1)).1
def ZGq(k:Int)(a b:Tx):Prop:=eqV k a b≠1
instance (k:Int) (a b:Tx):Decidable (ZGq k a b):=inferInstanceAs (Decidable (¬_))
def ZII(L:List (Tx×Ze)):List Tx->List ZN->Bool
 |_,[]=>false
 |S,a::l=>(decide (nmL L a∈S)|| !decide (a.2.1.Pairwise (ZGq (Ke L (ZE a.1)).2.1)))||ZII L (S++ [nmL L a]) l
def ZLc(L:List (Tx×Ze))(l:List ZN):Int:=
 if ZII L [] l=true then 20 else if l.all (λa=> !((Ke L (ZE a.1)).2.2.1&&decide (1<a.2.1.length)))=true then 0 else 19
theorem Zal{α:Type}{P:α->α->Prop}{l:List α}{k:Nat}(h:k<l.length):(l.take (k+1)).Pairwise P↔(l.take k).Pairwise P/\ ∀x∈l.take k,P x l[k]:=by
 rw[JW h,ZPF];simp
set_option maxHeartbeats 4000000 in
theorem Zgz(T:List Ze)(C:List Zi)(e:ZY)(hT:smT T)(he:smA e.2.1)(hv: ∀a∈e.2.1,∀v∈a.2.1,v.length<=1000000):ZL Tryz.prog 167 [sD T C,ZEg e] (.x (.int .i64 (ZLc (Zp T) e.2.1))):=by
 obtain⟨dn,l,u⟩:=e;simp only at he hv|-;have hll:l.length<=1000000:=he.1;rcases hres:ZLc (Zp T) l with v
 unfold ZLc at hres;have hTd:=ZI hT;unfold sD ZEg;refine ZF.pure (fC 167 true ?_) rfl;intro C0 E0;have uu:=ξn @ZKG.eq_1 (ξn @inG.eq_1 (ξn @ZI1.eq_1 (ξn @ZD1 (ξn @ZOe (ξn @ZEq (ξn @@tyD.eq_1 (@ZIJ.eq_1)))))));have tT:=aQ (aT (aQ (aQ ZB ZKX) ZNv) (ZCh ZNv)) ZL5;refine rg [2,3] ?_;refine rg [2,3,5] ?_;refine rg [2,3,5,6] ?_;refine WI.ownA 5 9 1 ?_;refine WI.loop (λφ os=> ∃(i:Nat),φ= [(2,.ptr 0 0),(3,.ptr 1 0),(5,.ref 2 ((l.take i).map (nmL (Zp T))).length 0 ((l.take i).map (nmL (Zp T))).length),(6,.x (.int .i64 i))]/\os= [.box [.x (.sl (rows Zz T)),.x (.sl (rows YW C))],.box [.x (.str dn),.x (.sl (rows ZK l))],.rows false 9 1 (rows ZC ((l.take i).map (nmL (Zp T))))]/\i<=l.length/\ZII (Zp T) ((l.take i).map (nmL (Zp T))) (l.drop i)=ZII (Zp T) [] l) (ZJ l.length 6) ?_ (λφ os hI=> ?_)
 .exact W5
 .obtain⟨i,rfl,rfl,hi,hdf⟩:=hI;refine rg [2,3,5,6,19] ?_;refine cd (λh0=> ?_) (λh0=> ?_)
  .have hi4:i<l.length:=Wm
   have hrw:=ZEh l i hi4;have hdr:=ZKs l ([],[],()) i hi4;have hnt:(l.take (i+1)).map (nmL (Zp T))=(l.take i).map (nmL (Zp T))++ [nmL (Zp T) (l.getD i ([],[],()))]:=by rw[JW hi4,Jj];simp[hi4]
   have hma:l.getD i ([],[],())∈l:=Vs
   generalize l.getD i ([],[],())=a at hrw hdr hma hnt;obtain⟨hna,hnv⟩:=he.2 a hma;have hva:=hv a hma;rw[hdr,ZII]at hdf;obtain⟨an,vs,au⟩:=a;simp only at hna hnv hva hdf hrw hnt;obtain⟨t,ht⟩: ∃t,t=Ke (Zp T) (ZE an):=⟨_,rfl⟩;have hnm:nmL (Zp T) (an,vs,au)=t.1:=by rw[ht];rfl
   rw[<-ht,hnm]at hdf;rw[hnm]at hnt;have hSl:((l.take i).map (nmL (Zp T))).length<=1000000:=TE
   generalize(l.take i).map (nmL (Zp T))=S at hdf hnt hSl|-;have hd1:decide (smT T/\an.length<=1000000)=true:=ZI ⟨hT,hna⟩;have hd2:decide (S.length<=4000000000000)=true:=ZI J0;have hrt:(rows ZC S).take S.length=rows ZC S:=YR (by rw[ZQ];exact Zr _);have uu:=ξ6 uu hrw ht.symm hd1 hd2 hrt;refine WI.dregB tT [2,3,5,6,7] ?_;refine T6 ?_
   refine Ws ?_;refine rg [2,3,5,6,7,36] ?_;refine cd (λh1=> ?_) (λh1=> ?_)
   .have hin:t.1∈S:=Ww
    rw[ZI hin,ZGK,ZGK]at hdf;refine VW ?_;rw[<-hdf,if_pos rfl]at hres;rw[hres]
   .have hin: ¬t.1∈S:=Ww
    rw[decide_eq_false hin,ZFN]at hdf;refine rg [2,3,5,6,7] ?_;refine rg [2,3,5,6,7,9] ?_;refine rg [2,3,5,6,7,9,10] ?_;refine WI.pickA [0,1,2,3] ?_;refine WI.loop (λφ os=> ∃(k:Nat),φ= [(2,.ptr 0 0),(3,.ptr 1 0),(5,.ref 2 (S.length+1) 0 (S.length+1)),(6,.x (.int .i64 i)),(7,.ptr 3 0),(9,.x (.sl (rows ZC vs))),(10,.x (.int .i64 k))]/\os= [.box [.x (.sl (rows Zz T)),.x (.sl (rows YW C))],.box [.x (.str dn),.x (.sl (rows ZK l))],.rows false 9 1 (rows ZC S++ [[X.str t.1]]),.box [.x (.str t.1),.x (.int .i64 t.2.1),.x (.bool t.2.2.1)]]/\k<=vs.length/\(vs.take k).Pairwise (ZGq t.2.1)) (ZJ vs.length 10) ?_ (λφ os hI=> ?_)
    .exact⟨0,rfl,rfl,J0,.nil⟩
    .obtain⟨k,rfl,rfl,hk,hpw⟩:=hI;refine rg [2,3,5,6,7,9,10,51] ?_;refine cd (λh2=> ?_) (λh2=> ?_)
     .have hk4:k<vs.length:=Wm
      have hrk:=KY vs k hk4;refine rg [2,3,5,6,7,9,10,11] ?_;refine WI.loop (λφ os=> ∃(j:Nat),φ= [(2,.ptr 0 0),(3,.ptr 1 0),(5,.ref 2 (S.length+1) 0 (S.length+1)),(6,.x (.int .i64 i)),(7,.ptr 3 0),(9,.x (.sl (rows ZC vs))),(10,.x (.int .i64 k)),(11,.x (.int .i64 j))]/\os= [.box [.x (.sl (rows Zz T)),.x (.sl (rows YW C))],.box [.x (.str dn),.x (.sl (rows ZK l))],.rows false 9 1 (rows ZC S++ [[X.str t.1]]),.box [.x (.str t.1),.x (.int .i64 t.2.1),.x (.bool t.2.2.1)]]/\j<=k/\ ∀x∈vs.take j,ZGq t.2.1 x (vs.getD k [])) (ZJ k 11) ?_ (λφ os hI=> ?_)
      .exact UM
      .obtain⟨j,rfl,rfl,hj,hne⟩:=hI;refine rg [2,3,5,6,7,9,10,11,56] ?_;refine cd (λh3=> ?_) (λh3=> ?_)
       .have hj4:j<k:=Wm
        have hrj:=KY vs j J0;have hgj:vs.getD j []=vs[j]:=by simp[show j<vs.length by omega]
        have hgk:vs.getD k []=vs[k]:=HP
        have uu:=JL uu hrk hrj;refine WI.dregB tT [2,3,5,6,7,9,10,11,70] ?_;refine WX ?_
        refine Wn ?_;refine VJ ?_;refine Wn ?_;refine VJ ?_;refine dAC ?_;refine Zn ?_;refine VP ?_;refine cd (λh4=> ?_) (λh4=> ?_)
        .have h1e:eqV t.2.1 (vs.getD j []) (vs.getD k [])=1:=Ta
         have hnp: ¬vs.Pairwise (ZGq t.2.1):=λhp=>(ZFK.1 hp j k J0 hk4 hj4) (by rw[<-hgj,<-hgk];exact h1e)
         rw[decide_eq_false hnp,ZM9,ZGK]at hdf;refine VW ?_;rw[<-hdf,if_pos rfl]at hres;rw[hres]
        .have h1e: ¬eqV t.2.1 (vs.getD j []) (vs.getD k [])=1:=Ta
         have hne2: ∀x∈vs.take (j+1),ZGq t.2.1 x (vs.getD k []):=λx hx=>by
          rw[JW J0]at hx;rcases KT.1 hx with h|h
          .exact hne x h
          .rw[ZAM.1 h,<-hgj];exact h1e
         refine rg [2,3,5,6,7,9,10,11] ?_;exact⟨⟨j+1,rfl,rfl,J0,hne2⟩,Wa⟩
       .obtain rfl:k=j:=Wm
        have hpw2:(vs.take (k+1)).Pairwise (ZGq t.2.1):=(Zal hk4).2 ⟨hpw,λx hx=>by have:=hne x hx;rwa [show vs.getD k []=vs[k] by simp[hk4]]at this⟩;refine rg [2,3,5,6,7,9,10] ?_;exact⟨⟨k+1,rfl,rfl,J0,hpw2⟩,Wa⟩
     .obtain rfl:k=vs.length:=Wm
      rw[JX]at hpw;rw[ZI hpw,ZOy,ZFN]at hdf;refine WI.pickA [0,1,2] ?_;refine WI.orderA [2,3,5,6] ?_;refine rg [2,3,5,6] ?_;exact⟨⟨i+1,by rw[hnt,ZW];rfl,by rw[hnt,ZDL],J0,by rw[hnt];exact hdf⟩,Wa⟩
  .obtain rfl:i=l.length:=Wm
   rw[ZBB (Zr _),ZII]at hdf;rw[<-hdf,if_neg J1]at hres;refine WI.pickA [0,1] ?_;refine WI.orderA [2,3] ?_;refine rg [2,3,12] ?_;refine WI.loop (λφ os=> ∃(i:Nat),φ= [(2,.ptr 0 0),(3,.ptr 1 0),(12,.x (.int .i64 i))]/\os= [.box [.x (.sl (rows Zz T)),.x (.sl (rows YW C))],.box [.x (.str dn),.x (.sl (rows ZK l))]]/\i<=l.length/\(l.take i).all (λa=> !((Ke (Zp T) (ZE a.1)).2.2.1&&decide (1<a.2.1.length)))=true) (ZJ l.length 12) ?_ (λφ os hI=> ?_)
   .exact W5
   .obtain⟨i,rfl,rfl,hi,hall⟩:=hI;refine rg [2,3,12,75] ?_;refine cd (λh5=> ?_) (λh5=> ?_)
    .have hi4:i<l.length:=Wm
     have hrw:=ZEh l i hi4;have hga:l[i]=l.getD i ([],[],()):=G8
     have hal:=Yt (λa:ZN=> !((Ke (Zp T) (ZE a.1)).2.2.1&&decide (1<a.2.1.length))) l i hi4;have hno:(!((Ke (Zp T) (ZE (l.getD i ([],[],())).1)).2.2.1&&decide (1<(l.getD i ([],[],())).2.1.length)))=false->l.all (λa:ZN=> !((Ke (Zp T) (ZE a.1)).2.2.1&&decide (1<a.2.1.length)))=false:=λh=>Zl (λa:ZN=> !((Ke (Zp T) (ZE a.1)).2.2.1&&decide (1<a.2.1.length))) l i hi4 HU
     have hma:l.getD i ([],[],())∈l:=Mf
     rw[hga]at hal;generalize l.getD i ([],[],())=a at hrw hma hal hno;obtain⟨hna,hnv⟩:=he.2 a hma;obtain⟨an,vs,au⟩:=a;simp only at hna hnv hrw hal hno;obtain⟨t,ht⟩: ∃t,t=Ke (Zp T) (ZE an):=⟨_,rfl⟩;rw[<-ht]at hal hno;have hd1:decide (smT T/\an.length<=1000000)=true:=ZI ⟨hT,hna⟩;have uu:=Qu uu hrw ht.symm hd1;refine WI.dregB tT [2,3,12,13] ?_;refine T6 ?_
     refine Ws ?_;refine rg [2,3,12,100] ?_;refine cd (λh6=> ?_) (λh6=> ?_)
     .have hb:(t.2.2.1&&decide (1<vs.length))=true:=Ww
      rw[hno (by rw[hb];rfl),if_neg J1]at hres;refine VW ?_;rw[hres]
     .have hb:(t.2.2.1&&decide (1<vs.length))=false:=Ww
      have hall2:(l.take (i+1)).all (λa:ZN=> !((Ke (Zp T) (ZE a.1)).2.2.1&&decide (1<a.2.1.length)))=true:=by rw[hal,hall,hb];rfl
      refine WI.pickA [0,1] ?_;refine WI.orderA [2,3,12] ?_;refine rg [2,3,12] ?_;exact Uc
    .refine VW ?_;rw[YR J0]at hall;rw[hall,if_pos rfl]at hres;rw[hres]
def smE(l:List ZN):Prop:=smA l/\ ∀a∈l,∀v∈a.2.1,v.length<=1000000
instance (l:List ZN):Decidable (smE l):=inferInstanceAs (Decidable (_/\_))
def ZWV:J8->J5
 | [.agg [.x (.sl R),.x (.sl R2)],.agg [.x (.str dn),.x (.sl R3)]]=>(ZM Zz R).bind λT=>(ZM YW R2).bind λC=>(ZM ZK R3).bind λl=>some (decide (smT T/\smE l),.x (.int .i64 (ZLc (Zp T) l)))
 |_=>none
theorem Zbg:QK Tryz.prog ZWV 167:=by
 intro args r h;unfold ZWV at h;split at h
 .rename_i R R2 dn R3;obtain⟨T,rfl,i0⟩:=un JC h;obtain⟨C,rfl,i1⟩:=un JP i0;obtain⟨l,rfl,i2⟩:=un Zf i1;obtain⟨h1,rfl⟩:=Yn i2;exact(Zgz T C (dn,l,()) h1.1 h1.2.1 h1.2.2)
 .cases h
def v1F(L:List (Tx×Ze))(a:ZN):Bool:=(ZH L (ZE a.1)).isSome
def v2F(a:ZN):Bool:= !decide (a.2.1.length=0)
def v3F(L:List (Tx×Ze))(a:ZN):Bool:=a.2.1.all λv=>(Yz (Ke L (ZE a.1)).2.1 v).2
def ZGi(L:List (Tx×Ze))(l:List ZN):Int:=
 if l.all (v1F L)=true then(if l.all v2F=true then(if l.all (v3F L)=true then ZLc L l else 21)else 19)else 17
set_option maxHeartbeats 4000000 in
theorem ZYi(T:List Ze)(C:List Zi)(e:ZY)(hT:smT T)(he:smE e.2.1):ZL Tryz.prog 131 [sD T C,ZEg e] (.x (.int .i64 (ZGi (Zp T) e.2.1))):=by
 obtain⟨dn,l,u⟩:=e;simp only at he|-;have hll:l.length<=1000000:=he.1.1;rcases hres:ZGi (Zp T) l with v
 unfold ZGi at hres;have hd0:decide (smT T/\smE l)=true:=ZI ⟨hT,he⟩;unfold sD ZEg;refine ZF.pure (fC 131 true ?_) rfl;intro C0 E0;have uu:=ξ8 @ZKG.eq_1 @ZWV.eq_1 @ZLN.eq_1 @ZD1 @ZEq @ZRe hd0 (@@tyD.eq_1);have tT:=aQ (aQ (aQ ZB ZKX) Zbg) ZNm;refine rg [2,3] ?_;refine rg [2,3,5] ?_;refine WI.orderA [2,3,5] ?_;refine WI.loop (λφ os=> ∃(i:Nat),φ= [(2,.ptr 0 0),(3,.ptr 1 0),(5,.x (.int .i64 i))]/\os= [.box [.x (.sl (rows Zz T)),.x (.sl (rows YW C))],.box [.x (.str dn),.x (.sl (rows ZK l))]]/\i<=l.length/\(l.take i).all (v1F (Zp T))=true) (ZJ l.length 5) ?_ (λφ os hI=> ?_)
 .exact W5
 .obtain⟨i,rfl,rfl,hi,hall⟩:=hI;refine rg [2,3,5,19] ?_;refine cd (λh0=> ?_) (λh0=> ?_)
  .have hi4:i<l.length:=Wm
   have hrw:=ZEh l i hi4;have hga:l[i]=l.getD i ([],[],()):=G8
   have hal:=Yt (v1F (Zp T)) l i hi4;have hno:v1F (Zp T) (l.getD i ([],[],()))=false->l.all (v1F (Zp T))=false:=λh=>Zl (v1F (Zp T)) l i hi4 HU
   have hma:l.getD i ([],[],())∈l:=Mf
   rw[hga]at hal;generalize l.getD i ([],[],())=a at hrw hma hal hno;obtain⟨hna,hnv⟩:=he.1.2 a hma;have hv1:v1F (Zp T) a=(ZH (Zp T) (ZE a.1)).isSome:=rfl;have hd1:decide (smT T/\a.1.length<=1000000)=true:=ZI ⟨hT,hna⟩;have uu:=JL uu hrw hd1;refine WI.dregB tT [2,3,5,7] ?_;refine T6 ?_
   refine Ws ?_;refine rg [2,3,5,34] ?_;refine cd (λh1=> ?_) (λh1=> ?_)
   .have hb:v1F (Zp T) a=false:=by rw[hv1];exact GZ
    rw[hno hb,if_neg J1]at hres;exact UN
   .have hb:v1F (Zp T) a=true:=by rw[hv1];exact GZ
    have hall2:(l.take (i+1)).all (v1F (Zp T))=true:=by rw[hal,hall,hb];rfl
    refine WI.pickA [0,1] ?_;refine WI.orderA [2,3,5] ?_;refine rg [2,3,5] ?_;exact Uc
  .rw[YR J0]at hall;rw[hall,if_pos rfl]at hres;refine rg [2,3,8] ?_;refine WI.orderA [2,3,8] ?_;refine WI.loop (λφ os=> ∃(i:Nat),φ= [(2,.ptr 0 0),(3,.ptr 1 0),(8,.x (.int .i64 i))]/\os= [.box [.x (.sl (rows Zz T)),.x (.sl (rows YW C))],.box [.x (.str dn),.x (.sl (rows ZK l))]]/\i<=l.length/\(l.take i).all v2F=true) (ZJ l.length 8) ?_ (λφ os hI=> ?_)
   .exact W5
   .obtain⟨i,rfl,rfl,hi,hall⟩:=hI;refine rg [2,3,8,39] ?_;refine cd (λh2=> ?_) (λh2=> ?_)
    .have hi4:i<l.length:=Wm
     have hrw:=ZEh l i hi4;have hga:l[i]=l.getD i ([],[],()):=G8
     have hal:=Yt v2F l i hi4;have hno:v2F (l.getD i ([],[],()))=false->l.all v2F=false:=λh=>Zl v2F l i hi4 HU
     rw[hga]at hal;generalize l.getD i ([],[],())=a at hrw hal hno;have hv1:v2F a= !decide (a.2.1.length=0):=rfl;have uu:=YB uu hrw;refine rg [2,3,8,49] ?_;refine cd (λh3=> ?_) (λh3=> ?_)
     .have hb:v2F a=false:=by rw[hv1];clear uu;simp at h3|-;exact h3
      rw[hno hb,if_neg J1]at hres;exact UN
     .have hb:v2F a=true:=by rw[hv1];clear uu;simp at h3|-;exact h3
      have hall2:(l.take (i+1)).all v2F=true:=by rw[hal,hall,hb];rfl
      refine rg [2,3,8] ?_;exact Uc
    .rw[YR J0]at hall;rw[hall,if_pos rfl]at hres;refine rg [2,3,9] ?_;refine WI.orderA [2,3,9] ?_;refine WI.loop (λφ os=> ∃(i:Nat),φ= [(2,.ptr 0 0),(3,.ptr 1 0),(9,.x (.int .i64 i))]/\os= [.box [.x (.sl (rows Zz T)),.x (.sl (rows YW C))],.box [.x (.str dn),.x (.sl (rows ZK l))]]/\i<=l.length/\(l.take i).all (v3F (Zp T))=true) (ZJ l.length 9) ?_ (λφ os hI=> ?_)
     .exact W5
     .obtain⟨i,rfl,rfl,hi,hall⟩:=hI;refine rg [2,3,9,54] ?_;refine cd (λh4=> ?_) (λh4=> ?_)
      .have hi4:i<l.length:=Wm
       have hrw:=ZEh l i hi4;have hga:l[i]=l.getD i ([],[],()):=G8
       have hal:=Yt (v3F (Zp T)) l i hi4;have hno:v3F (Zp T) (l.getD i ([],[],()))=false->l.all (v3F (Zp T))=false:=λh=>Zl (v3F (Zp T)) l i hi4 HU
       have hma:l.getD i ([],[],())∈l:=Mf
       rw[hga]at hal;generalize l.getD i ([],[],())=a at hrw hma hal hno;obtain⟨hna,hnv⟩:=he.1.2 a hma;obtain⟨an,vs,au⟩:=a;simp only at hna hnv hrw hal hno;obtain⟨t,ht⟩: ∃t,t=Ke (Zp T) (ZE an):=⟨_,rfl⟩;have hv1:v3F (Zp T) (an,vs,au)=vs.all λv=>(Yz t.2.1 v).2:=by rw[ht];rfl
       have hd1:decide (smT T/\an.length<=1000000)=true:=ZI ⟨hT,hna⟩;have uu:=Qu uu hrw ht.symm hd1;refine WI.dregB tT [2,3,9,10] ?_;refine T6 ?_
       refine Ws ?_;refine rg [2,3,9,10,12] ?_;refine WI.orderA [2,3,9,10,12] ?_;refine WI.loop (λφ os=> ∃(k:Nat),φ= [(2,.ptr 0 0),(3,.ptr 1 0),(9,.x (.int .i64 i)),(10,.ptr 2 0),(12,.x (.int .i64 k))]/\os= [.box [.x (.sl (rows Zz T)),.x (.sl (rows YW C))],.box [.x (.str dn),.x (.sl (rows ZK l))],.box [.x (.str t.1),.x (.int .i64 t.2.1),.x (.bool t.2.2.1)]]/\k<=vs.length/\(vs.take k).all (λv=>(Yz t.2.1 v).2)=true) (ZJ vs.length 12) ?_ (λφ os hI=> ?_)
       .exact W5
       .obtain⟨k,rfl,rfl,hk,hka⟩:=hI;refine rg [2,3,9,10,12,76] ?_;refine cd (λh5=> ?_) (λh5=> ?_)
        .have hk4:k<vs.length:=Wm
         have hrk:=KY vs k hk4;have hgk:vs[k]=vs.getD k []:=HP
         have hak:=Yt (λv=>(Yz t.2.1 v).2) vs k hk4;have hnk:(Yz t.2.1 (vs.getD k [])).2=false->vs.all (λv=>(Yz t.2.1 v).2)=false:=λh=>Zl (λv=>(Yz t.2.1 v).2) vs k hk4 (by rw[hgk];exact h)
         rw[hgk]at hak;generalize vs.getD k []=y at hrk hak hnk;have uu:=YB uu hrk;refine WI.dregB tT [2,3,9,10,12,14] ?_;refine WJ ?_;refine WJ ?_;refine ZU ?_
         refine VJ ?_;refine dAC ?_;refine ZU ?_;refine Vc ?_;refine Wn ?_;refine dN ?_;refine rg [2,3,9,10,12,95] ?_;refine cd (λh6=> ?_) (λh6=> ?_)
         .have hb:(Yz t.2.1 y).2=false:=Ww
          rw[hno (by rw[hv1];exact hnk hb),if_neg J1]at hres;exact UN
         .have hb:(Yz t.2.1 y).2=true:=Ww
          have hka2:(vs.take (k+1)).all (λv=>(Yz t.2.1 v).2)=true:=by rw[hak,hka,hb];rfl
          refine rg [2,3,9,10,12] ?_;exact XC
        .obtain rfl:k=vs.length:=Wm
         rw[JX]at hka;have hall2:(l.take (i+1)).all (v3F (Zp T))=true:=by rw[hal,hall,hv1,hka];rfl
         refine WI.pickA [0,1] ?_;refine WI.orderA [2,3,9] ?_;refine rg [2,3,9] ?_;exact Uc
      .rw[YR J0]at hall;rw[hall,if_pos rfl]at hres;exact UN
def ZMt:J8->J5
 | [.agg [.x (.sl R),.x (.sl R2)],.agg [.x (.str dn),.x (.sl R3)]]=>(ZM Zz R).bind λT=>(ZM YW R2).bind λC=>(ZM ZK R3).bind λl=>some (decide (smT T/\smE l),.x (.int .i64 (ZGi (Zp T) l)))
 |_=>none
theorem ZUp:QK Tryz.prog ZMt 131:=by
 intro args r h;unfold ZMt at h;split at h
 .rename_i R R2 dn R3;obtain⟨T,rfl,i0⟩:=un JC h;obtain⟨C,rfl,i1⟩:=un JP i0;obtain⟨l,rfl,i2⟩:=un Zf i1;obtain⟨h1,rfl⟩:=Yn i2;exact(ZYi T C (dn,l,()) h1.1 h1.2)
 .cases h
def ocF(M:List (Tx×Zi))(cs:List Tx)(h:Tx):Bool:=decide (h=OC)||decide (h∈ZBG M cs)
def ZH2(L:List (Tx×Ze))(M:List (Tx×Zi))(l:List ZN):Int:=
 if ZGi L l≠0 then ZGi L l else if(ZCo l).length=0 then 65 else if(ZCo l).all (ZCm M (Qk l))=true then(if(Qk l).all (ocF M (ZCo l))=true then 0 else 65)else 65
theorem ZZg{C:List Zi}(h:ZBt C)(k:Tx):(clV (YE C) k).2.1.length<=50000/\(clV (YE C) k).2.2.1.length<=50000:=by
 unfold clV;rcases hm:ZH (YE C) k with _|c
 .simp
 .obtain⟨x,hx,e⟩:=YS.1 (JD hm);have:=h.2 x hx;simp only[YP]at e;rw[<-e.2];simp only[ξY,ZDX,Yc];exact⟨this.2.1.1,this.2.2.1⟩
theorem ZO7{C:List Zi}(h:ZBt C): ∀cs:List Tx,(ZBG (YE C) cs).length<=cs.length*100000
 | []=>by simp[ZBG]
 |n::cs=>by
  have:=ZO7 h cs;have:=ZZg h (ZE n);unfold ZBG at*;rw[ZPw,ZW,ZW,Yx];omega
set_option maxHeartbeats 4000000 in
theorem ZbZ(T:List Ze)(C:List Zi)(e:ZY)(hT:smT T)(hC:ZBt C)(he:smE e.2.1):ZL Tryz.prog 87 [sD T C,ZEg e] (.x (.int .i64 (ZH2 (Zp T) (YE C) e.2.1))):=by
 obtain⟨dn,l,u⟩:=e;simp only at he|-;have hll:l.length<=1000000:=he.1.1;obtain⟨hcl,hcv⟩:=ZVv he.1 he.2;have hoc:(OC:Tx)= [111,98,106,101,99,116,99,108,97,115,115]:=rfl;rcases hres:ZH2 (Zp T) (YE C) l with v
 unfold ZH2 at hres;have hd0:decide (smT T/\smE l)=true:=ZI ⟨hT,he⟩;unfold sD ZEg;refine ZF.pure (fC 87 true ?_) rfl;intro C0 E0;have uu:=ξ9 @ZMt.eq_1 @ZOu.eq_1 @ZIc.eq_1 @inG.eq_1 @ZD1 @ZOe @ZEq @ZRe (YB hd0 @ZIJ.eq_1);have tT:=aT (aQ (aQ (aQ (aQ ZB ZUp) ZW2) ZI4) ZNv) (ZCh ZNv);refine rg [2,3] ?_;refine rg [2,3,5] ?_;refine rg [2,3,5,19] ?_;refine cd (λh0=> ?_) (λh0=> ?_)
 .rw[if_pos Vh]at hres;exact UN
 .rw[if_neg Vh]at hres;refine rg [2,3,6,7,8] ?_;refine rg [2,3,6,7,8,9] ?_;refine WI.ownA 6 9 1 ?_;refine WI.ownA 8 9 1 ?_;refine WI.nnA ?_;refine WI.orderA [2,3,6,7,8,9] ?_;refine WI.loop (λφ os=> ∃(i:Nat),φ= [(2,.ptr 0 0),(3,.ptr 1 0),(6,.ref 2 (Qk (l.take i)).length 0 (Qk (l.take i)).length),(7,.x (.sl (rows ZC (ZCo (l.take i))))),(8,.ref 3 0 0 0),(9,.x (.int .i64 i))]/\os= [.box [.x (.sl (rows Zz T)),.x (.sl (rows YW C))],.box [.x (.str dn),.x (.sl (rows ZK l))],.rows false 9 1 (rows ZC (Qk (l.take i))),.rows false 9 1 []]/\i<=l.length) (ZJ l.length 9) ?_ (λφ os hI=> ?_)
  .exact Vg
  .obtain⟨i,rfl,rfl,hi⟩:=hI;refine rg [2,3,6,7,8,9,25] ?_;refine cd (λh1=> ?_) (λh1=> ?_)
   .have hi4:i<l.length:=Wm
    have hrw:=ZEh l i hi4;have hnt:=ZQ2 l i hi4;have hct:=ZPz l i hi4;have hma:l.getD i ([],[],())∈l:=Vs
    generalize l.getD i ([],[],())=a at hrw hnt hct hma;have hd1:=ZI (he.1.2 a hma).1;have hnl:(Qk (l.take i)).length<=1000000:=by unfold Qk;rw[Yc,Yv];omega
    have uu:=JL uu hrw hd1;refine rg [2,3,6,7,8,9] ?_;refine rg [2,3,6,7,8,9,45] ?_;refine cd (λh2=> ?_) (λh2=> ?_)
    .rw[if_pos (by rw[hoc];simpa using h2)]at hct;refine rg [2,3,6,7,8,9] ?_;exact U4
    .rw[if_neg (λe=>h2 (e.trans hoc))]at hct;exact U4
   .obtain rfl:i=l.length:=Wm
    rw[JX];have hHl:(Qk l).length<=1000000:=by unfold Qk;rw[Yc];omega
    generalize Qk l=H at hres hHl|-;generalize ZCo l=cs at hres hcl hcv|-;refine rg [2,6,7,8,54] ?_;refine cd (λh3=> ?_) (λh3=> ?_)
    .rw[if_pos Tb]at hres;exact UN
    .rw[if_neg Tb]at hres;refine rg [2,6,7,8,10] ?_;refine WI.orderA [2,6,7,8,10] ?_;refine WI.loop (λφ os=> ∃(i:Nat),φ= [(2,.ptr 0 0),(6,.ref 2 H.length 0 H.length),(7,.x (.sl (rows ZC cs))),(8,.ref 3 (ZBG (YE C) (cs.take i)).length 0 (ZBG (YE C) (cs.take i)).length),(10,.x (.int .i64 i))]/\os= [.box [.x (.sl (rows Zz T)),.x (.sl (rows YW C))],.box [.x (.str dn),.x (.sl (rows ZK l))],.rows false 9 1 (rows ZC H),.rows false 9 1 (rows ZC (ZBG (YE C) (cs.take i)))]/\i<=cs.length/\(cs.take i).all (ZCm (YE C) H)=true) (ZJ cs.length 10) ?_ (λφ os hI=> ?_)
     .exact W5
     .obtain⟨i,rfl,rfl,hi,hall⟩:=hI;refine rg [2,6,7,8,10,58] ?_;refine cd (λh4=> ?_) (λh4=> ?_)
      .have hi4:i<cs.length:=Wm
       have hrw:=KY cs i hi4;have hmt:=ZQy (YE C) cs i hi4;have hgi:cs[i]=cs.getD i []:=G8
       have hnl:(cs.getD i []).length<=1000000:=by rw[<-hgi];exact hcv _ (YK hi4)
       have hal:=Yt (ZCm (YE C) H) cs i hi4;have hno:ZCm (YE C) H (cs.getD i [])=false->cs.all (ZCm (YE C) H)=false:=λh=>Zl (ZCm (YE C) H) cs i hi4 HT
       rw[hgi]at hal;have hYl:=ZO7 hC (cs.take i);rw[Yv]at hYl;have hYm:(ZBG (YE C) (cs.take i)).length<=100000000000:=ZEu hYl (ZEu (Ky _ (show min i cs.length<=1000000 by omega)) J0);generalize ZBG (YE C) (cs.take i)=Y at hmt hYm|-;generalize cs.getD i []=n at hrw hmt hnl hal hno;have hb:=ZZg hC (ZE n);have hcd:ZCm (YE C) H n=((ZH (YE C) (ZE n)).isSome&&(clV (YE C) (ZE n)).2.1.all λx=>decide (x∈H)):=rfl;obtain⟨c,hc⟩: ∃c,c=clV (YE C) (ZE n):=⟨_,rfl⟩;rw[<-hc]at hmt hb hcd;have hd1:decide (ZBt C/\n.length<=1000000)=true:=ZI ⟨hC,hnl⟩;have uu:=ξ5 uu hrw hc.symm (@clD.eq_1) hd1;refine WI.dregB tT [2,6,7,8,10,11,12] ?_;refine Zd ?_
       refine Wn ?_;refine VJ ?_;refine Xd ?_;refine rg [2,6,7,8,10,11,71] ?_;refine cd (λh5=> ?_) (λh5=> ?_)
       .have hb5:ZCm (YE C) H n=false:=by rw[hcd];exact GZ
        rw[hno hb5,if_neg J1]at hres;exact UN
       .have hso:(ZH (YE C) (ZE n)).isSome=true:=Ww
        rw[hso,ZAk]at hcd;refine rg [2,6,7,8,10,11,13] ?_;refine WI.orderA [2,6,7,8,10,11,13] ?_;refine WI.loop (λφ os=> ∃(k:Nat),φ= [(2,.ptr 0 0),(6,.ref 2 H.length 0 H.length),(7,.x (.sl (rows ZC cs))),(8,.ref 3 Y.length 0 Y.length),(10,.x (.int .i64 i)),(11,.ptr 4 0),(13,.x (.int .i64 k))]/\os= [.box [.x (.sl (rows Zz T)),.x (.sl (rows YW C))],.box [.x (.str dn),.x (.sl (rows ZK l))],.rows false 9 1 (rows ZC H),.rows false 9 1 (rows ZC Y),.box [.x (.str c.1),.x (.sl (rows ZC c.2.1)),.x (.sl (rows ZC c.2.2.1))]]/\k<=c.2.1.length/\(c.2.1.take k).all (λx=>decide (x∈H))=true) (ZJ c.2.1.length 13) ?_ (λφ os hI=> ?_)
        .exact W5
        .obtain⟨k,rfl,rfl,hk,hka⟩:=hI;refine rg [2,6,7,8,10,11,13,76] ?_;refine cd (λh6=> ?_) (λh6=> ?_)
         .have hk4:k<c.2.1.length:=Wm
          have hrk:=KY c.2.1 k hk4;have hgk:c.2.1[k]=c.2.1.getD k []:=HP
          have hak:=Yt (λx=>decide (x∈H)) c.2.1 k hk4;have hnk:c.2.1.getD k []∉H->c.2.1.all (λx=>decide (x∈H))=false:=λh=>Zl (λx=>decide (x∈H)) c.2.1 k hk4 (by rw[hgk];exact decide_eq_false h)
          rw[hgk]at hak;generalize c.2.1.getD k []=x at hrk hak hnk;have hd2:decide (H.length<=4000000000000)=true:=ZI J0;have hrt:(rows ZC H).take H.length=rows ZC H:=YR (by rw[ZQ];exact Zr _);have uu:=Qu uu hrk hd2 hrt;refine rg [2,6,7,8,10,11,13,86] ?_;refine cd (λh7=> ?_) (λh7=> ?_)
          .have hxn:x∉H:=Ww
           rw[hno (by rw[hcd];exact hnk hxn),if_neg J1]at hres;exact UN
          .have hxi:x∈H:=Ww
           have hka2:(c.2.1.take (k+1)).all (λx=>decide (x∈H))=true:=by rw[hak,hka,ZI hxi];rfl
           refine rg [2,6,7,8,10,11,13] ?_;exact XC
         .obtain rfl:k=c.2.1.length:=Wm
          rw[JX]at hka;rw[hka]at hcd;have hall2:(cs.take (i+1)).all (ZCm (YE C) H)=true:=by rw[hal,hall,hcd];rfl
          refine rg [2,6,7,8,10,11] ?_;refine rg [2,6,7,8,10] ?_;refine WI.pickA [0,1,2,3] ?_;refine WI.orderA [2,6,7,8,10] ?_;refine rg [2,6,7,8,10] ?_;exact⟨⟨i+1,by rw[hmt,ZW,ZW,ZFe];first|done|rfl,by rw[hmt];simp[rows,Ys],J0,hall2⟩,Wa⟩
      .obtain rfl:i=cs.length:=Wm
       rw[JX]at hall|-;rw[hall,if_pos rfl]at hres;have hYl:=ZO7 hC cs;have hYm:(ZBG (YE C) cs).length<=100000000000:=ZEu hYl (ZEu (Ky _ hcl) J0);generalize hYY:ZBG (YE C) cs=Y at hYm|-;refine WI.orderA [6,8] ?_;refine rg [6,8,14] ?_;refine WI.orderA [6,8,14] ?_;refine WI.loop (λφ os=> ∃(i:Nat),φ= [(6,.ref 2 H.length 0 H.length),(8,.ref 3 Y.length 0 Y.length),(14,.x (.int .i64 i))]/\os= [.box [.x (.sl (rows Zz T)),.x (.sl (rows YW C))],.box [.x (.str dn),.x (.sl (rows ZK l))],.rows false 9 1 (rows ZC H),.rows false 9 1 (rows ZC Y)]/\i<=H.length/\(H.take i).all (ocF (YE C) cs)=true) (ZJ H.length 14) ?_ (λφ os hI=> ?_)
       .exact W5
       .obtain⟨i,rfl,rfl,hi,hall⟩:=hI;refine rg [6,8,14,98] ?_;refine cd (λh8=> ?_) (λh8=> ?_)
        .have hi4:i<H.length:=Wm
         have hrw:=KY H i hi4;have hgi:H[i]=H.getD i []:=G8
         have hal:=Yt (ocF (YE C) cs) H i hi4;have hno:ocF (YE C) cs (H.getD i [])=false->H.all (ocF (YE C) cs)=false:=λh=>Zl (ocF (YE C) cs) H i hi4 HT
         rw[hgi]at hal;generalize H.getD i []=x at hrw hal hno;have hof:ocF (YE C) cs x=(decide (x= [111,98,106,101,99,116,99,108,97,115,115])||decide (x∈Y)):=by rw[<-hYY,<-hoc];rfl
         have hd2:decide (Y.length<=4000000000000)=true:=ZI J0;have hrt:(rows ZC Y).take Y.length=rows ZC Y:=YR (by rw[ZQ];exact Zr _);have uu:=Qu uu hrw hd2 hrt;by_cases hxo:x= [111,98,106,101,99,116,99,108,97,115,115]
         .have hg:(x== [111,98,106,101,99,116,99,108,97,115,115])=true:=by rw[hxo];exact beq_self_eq_true _
          have uu:=YB uu hg;refine rg [6,8,14,114] ?_;refine ce (λh9=> ?_) (λh9=> ?_)
          .simp at h9
          .have hall2:(H.take (i+1)).all (ocF (YE C) cs)=true:=by rw[hal,hall,hof,ZI hxo];rfl
           refine rg [6,8,14] ?_;exact Uc
         .have hg:(x== [111,98,106,101,99,116,99,108,97,115,115])=false:=by rw[beq_eq_false_iff_ne];exact hxo
          have uu:=YB uu hg;refine rg [6,8,14,114] ?_;refine cd (λh9=> ?_) (λh9=> ?_)
          .have hxn:x∉Y:=Ww
           rw[hno (by rw[hof,decide_eq_false hxo,decide_eq_false hxn];rfl),if_neg J1]at hres;exact UN
          .have hxi:x∈Y:=Ww
           have hall2:(H.take (i+1)).all (ocF (YE C) cs)=true:=by rw[hal,hall,hof,ZI hxi,ZEs];rfl
           refine rg [6,8,14] ?_;exact Uc
        .refine Wj ?_;rw[YR J0]at hall;rw[hall,if_pos rfl]at hres;rw[hres]
theorem ZZA{dn:Tx}(h:JH dn=true): ∃r,(Ya (YQ dn)).1= [r]/\JA r=true:=by
 obtain⟨r,d,hd,h1,h2⟩:=ZIY h;obtain⟨h3,h4⟩:=ZES hd.chk;have hm:=h4 r ZAm;have hc:KA [r]=0:=ZUH J1 (by simpa using hm);have hl:(JI r).length<=4096:=by
  have:=hd.len;rw[hd.nam]at this;have h5:(JI r).length<=(Ki (r::d)).length:=ZIG (YS.2 ⟨r,ZAm,rfl⟩);omega
 exact⟨r,by rw[h1];exact congrArg Prod.fst (ZKe (d:= [r]) hc hl),hm⟩
set_option maxHeartbeats 4000000 in
theorem ZXm(T:List Ze)(C:List Zi)(dn:Tx)(l:List ZN)(hT:smT T)(h:Js l):ZL Tryz.prog 88 [sD T C,.agg [.x (.str dn),.x (.sl (rows ZK l))]] (.x (.bool (ZEd (Zp T) dn l))):=by
 obtain⟨d,hd⟩: ∃d,(Ya (YQ dn)).1=d:=⟨_,rfl⟩;have hq:JH dn=true-> ∃r,d= [r]/\JA r=true:=λe=>by rw[<-hd];exact ZZA e
 rcases hres:ZEd (Zp T) dn l with v
 unfold ZEd at hres;rw[hd]at hres;have hul:ZM ZK (rows ZK l)=some l:=ZS Zf l;have hu1:=ZD1 T;have hu2:=ZEq C;have hrd:=ZQ Jp d;unfold sD;refine ZF.pure (fC 88 true ?_) rfl;intro C0 E0;have uu:=ξ9 @ZTj.eq_1 @ZIo.eq_1 @ZKG.eq_1 @ZX3.eq_1 hul hd hu1 hu2 hrd;have tT:=aQ (aQ (aQ (aQ ZB ZYm) ZJf) ZKX) Zdd;refine rg [2,3] ?_;refine rg [2,3,5,6] ?_;refine rg [2,3,6,7] ?_;refine rg [2,3,7,29] ?_;refine cd (λh0=> ?_) (λh0=> ?_)
 .have hv:JH dn=false:=by
   rcases Bool.eq_false_or_eq_true (JH dn)with e|e
   .obtain⟨r,rfl,_⟩:=hq e;rw[e]at h0;clear uu hres;simp at h0
   .exact e
  rw[hv,ZFD]at hres;subst hres;refine Wj ?_
  exact Wo
 .have hv:JH dn=true:=Tq
  obtain⟨r,rfl,hmb⟩:=hq hv;rw[hv,ZI (show [r]≠ [] by simp),ZAk,ZAk,List.headD_cons]at hres;obtain⟨hr8,hr1,hpb⟩:=ZBh hmb;have hr0:(rows Jp [r])[0]? =some [X.sl (rows Zu r)]:=rfl;have uu:=YB uu hr0;refine rg [2,3,7,9] ?_;refine WI.loop (λφ os=> ∃(j:Nat),φ= [(2,.ptr 0 0),(3,.ptr 1 0),(7,.x (.sl (rows Jp [r]))),(9,.x (.int .i64 j))]/\os= [.box [.x (.sl (rows Zz T)),.x (.sl (rows YW C))],.box [.x (.str dn),.x (.sl (rows ZK l))]]/\j<=r.length/\(r.take j).all (ZCR (Zp T) l)=true) (ZJ r.length 9) ?_ (λφ os hI=> ?_)
  .exact W5
  .obtain⟨j,rfl,rfl,hj,hall⟩:=hI;refine rg [2,3,7,9,35] ?_;refine cd (λh1=> ?_) (λh1=> ?_)
   .have hj4:j<r.length:=by clear uu;have:=ZQ Zu r;omega
    have hrw:=ZCi r j hj4;have hg:r[j]=r.getD j ([],[]):=T8
    have hal:=Yt (ZCR (Zp T) l) r j hj4;have hno:ZCR (Zp T) l (r.getD j ([],[]))=false->r.all (ZCR (Zp T) l)=false:=λh=>Zl (ZCR (Zp T) l) r j hj4 (by rw[hg];exact h)
    have hpl:=hpb r[j] (YK hj4);rw[hg]at hal hpl;generalize r.getD j ([],[])=p at hrw hal hno hpl;have hn1:ZCR (Zp T) l p=((ZH (Zp T) (ZE p.1)).isSome&&ZJn l p.1 p.2 (Ke (Zp T) (ZE p.1)).2.1):=rfl;have hdp:decide (smT T/\p.1.length<=1000000)=true:=ZI ⟨hT,J0⟩;have hdt:=ZI hT;have hdh:decide (Js l/\p.1.length<=140737488355328)=true:=ZI ⟨h,J0⟩;have uu:=ξ6 uu hrw hdp hdt hdh @tyD.eq_1;refine WI.dregB tT [2,3,7,9,10,11] ?_;refine Zd ?_;refine ZU ?_
    refine VJ ?_;refine WJ ?_;refine Xd ?_;refine nz ?_;refine WI.dregB tT [2,3,7,9,72] ?_;refine X1 ?_;refine WX ?_;refine Zn ?_;refine VJ ?_;refine W7 ?_;refine VJ ?_;refine W7 ?_;refine Zd ?_;refine dAC ?_;refine Vc ?_;refine VP ?_;refine cd (λh2=> ?_) (λh2=> ?_)
    .have hf:ZCR (Zp T) l p=false:=Hv
     rw[hno hf]at hres;subst hres;refine Wj ?_
     exact Wo
    .have hf:ZCR (Zp T) l p=true:=Hv
     have hall2:(r.take (j+1)).all (ZCR (Zp T) l)=true:=by rw[hal,hall,hf];rfl
     refine WI.pickA [0,1] ?_;refine WI.orderA [2,3,7,9] ?_;refine rg [2,3,7,9] ?_;exact Th
   .obtain rfl:j=r.length:=by clear uu;have:=ZQ Zu r;omega
    rw[JX]at hall;rw[hall]at hres;subst hres;refine Wj ?_
    exact Wo
def ZHX:J8->J5
 | [.agg [.x (.sl A),.x (.sl B)],.agg [.x (.str dn),.x (.sl R)]]=>(ZM Zz A).bind λT=>(ZM YW B).bind λC=>(ZM ZK R).bind λl=>some (decide (smT T/\Js l),.x (.bool (ZEd (Zp T) dn l)))
 |_=>none
theorem ZKQ:QK Tryz.prog ZHX 88:=by
 intro args r h;unfold ZHX at h;split at h
 .obtain⟨T,rfl,i0⟩:=un JC h;obtain⟨C,rfl,i1⟩:=un JP i0;obtain⟨l,rfl,i2⟩:=un Zf i1;obtain⟨h1,rfl⟩:=Yn i2;exact(ZXm T C _ l h1.1 h1.2)
 .cases h
def ZPp:J8->J5
 | [.x (.sl R),.agg [.x (.str dn),.x (.sl A)]]=>(ZM ZZ R).bind λl=>(ZM ZK A).bind λa=>some (decide (l.length<=100000),.x (.sl (rows ZZ (ZBf (dn,a,()) false l))))
 |_=>none
theorem ZXM:QK Tryz.prog ZPp 136:=by
 intro args r h;unfold ZPp at h;split at h
 .rename_i R dn A;obtain⟨l,rfl,i0⟩:=un YD h;obtain⟨a,rfl,i1⟩:=un Zf i0;obtain⟨h1,rfl⟩:=Yn i1;exact(Zcg l (dn,a,()) h1)
 .cases h
theorem Zen(S1 S2:J6)(l:List ZY)(dn:Tx)(a:List ZN)(hl:l.length<=100000)(h:Js a):ZL Tryz.prog 89 [.agg [.x (.sl S1),.x (.sl S2),.x (.sl (rows ZZ l))],.agg [.x (.str dn),.x (.sl (rows ZK a))]] (.agg [.x (.sl S1),.x (.sl S2),.x (.sl (rows ZZ (ZBf (dn,Zm a,()) false l)))]):=by
 have c1:=ZI h.1;have c2:=ZI h.2.1;have c3:decide (∀x∈a,x.2.1.length<=1000)=true:=ZI λx hx=>by have:=h.2.2 x hx;omega
 have c4:=ZI hl;have hul:ZM ZK (rows ZK a)=some a:=ZS Zf a;have huc:ZM ZK (rows ZK (Zm a))=some (Zm a):=ZS Zf _;have hue:ZM ZZ (rows ZZ l)=some l:=ZS YD l;have hce:=ZTs a;refine ZF.pure (fC 89 true ?_) rfl;intro C0 E0;have uu:=ξ9 @ZLI.eq_1 @ZPp.eq_1 hul huc hue hce @c1 @c2 (YB @c3 @c4);have tT:=aQ (aQ ZB ZOD) ZXM;refine rg [2,3,4] ?_;refine WI.dregB tT [2,4] ?_;refine ZU ?_
 refine VJ ?_;refine dQC ?_;refine dAC ?_;refine ZU ?_;refine Qj ?_;refine dN ?_;refine Wj ?_
 exact Wo
def ZNN:J8->J5
 | [.agg [.x (.sl A),.x (.sl B),.x (.sl R)],.agg [.x (.str dn),.x (.sl E)]]=>(ZM ZZ R).bind λl=>(ZM ZK E).bind λa=>some (decide (l.length<=100000/\Js a),.agg [.x (.sl A),.x (.sl B),.x (.sl (rows ZZ (ZBf (dn,Zm a,()) false l)))])
 |_=>none
theorem ZQz:QK Tryz.prog ZNN 89:=by
 intro args r h;unfold ZNN at h;split at h
 .obtain⟨l,rfl,i0⟩:=un YD h;obtain⟨a,rfl,i1⟩:=un Zf i0;obtain⟨h1,rfl⟩:=Yn i1;exact(Zen _ _ l _ a h1.1 h1.2)
 .cases h
theorem ZLi{g:Ze->ZN->Int}{L:List (Tx×Ze)}{P:ZN->Bool}{k:Int}(hk:k≠0)(l:List ZN)(h: ∀a∈l,g (Ke L (ZE a.1)) a=if P a=true then 0 else k):goA g L l=if l.all P=true then 0 else k:=by
 induction l with
 |nil=>rfl
 |cons a l ih=>
  have ha:=h a ZAm;have ih:=ih (λx hx=>h x (ξU _ hx));unfold goA;rw[ha,Qa];cases hp:P a
  .simp[hk]
  .rw[if_neg J1,ZAk];exact ih
def ZEr(L:List (Tx×Ze)):Prop:= ∀p∈L,p.2.1≠ []
instance (L:List (Tx×Ze)):Decidable (ZEr L):=inferInstanceAs (Decidable (∀p∈L,_))
theorem Zae{L:List (Tx×Ze)}(h:ZEr L)(k:Tx):((Ke L k).1= [])=((ZH L k).isSome=false):=by
 unfold Ke;rcases hm:ZH L k with _|t
 .simp
 .have:=h _ (JD hm);simp only[ξY,Option.isSome_some,Bool.true_eq_false,eq_iff_iff,iff_false];exact this
theorem Zi8{k:Int}{l:List Tx}(h:l.all (λv=>(Yz k v).2)=true):twV k l= !decide (l.Pairwise (ZGq k)):=by
 unfold twV;congr 1;rw[decide_eq_decide,List.Nodup,ZXV];have hv: ∀v∈l,(Yz k v).2=true:=WM
 constructor
 .intro hp;refine hp.imp_of_mem λ{a b} ha hb hne=> ?_
  unfold ZGq eqV;rw[if_pos ⟨hv a ha,hv b hb⟩,if_neg (show ¬(Yz k a).1=(Yz k b).1 from hne)];decide
 .intro hp;refine hp.imp_of_mem λ{a b} ha hb hne=> ?_
  unfold ZGq eqV at hne;rw[if_pos ⟨hv a ha,hv b hb⟩]at hne;intro e;exact hne (if_pos e)
theorem ZaF(L:List (Tx×Ze)): ∀(l:List ZN) (S:Sn) (S':List Tx),(∀k,(0<snG S k↔k∈S')/\0<=snG S k)->l.all (v3F L)=true->(goS L S l).1=if ZII L S' l=true then 20 else 0
 | [],S,S',_,_=>by simp[goS,ZII]
 |a::l,S,S',hS,hv=>by
  rw[Qa,Zj]at hv;have ht:=Zi8 (k:=(Ke L (ZE a.1)).2.1) hv.1;have hS2: ∀k,(0<snG (snS S (Ke L (ZE a.1)).1) k↔k∈S'++ [nmL L a])/\0<=snG (snS S (Ke L (ZE a.1)).1) k:=by
   intro k;rw[ZVK];have h1:=hS k;have h2:=hS (Ke L (ZE a.1)).1;have e:nmL L a=(Ke L (ZE a.1)).1:=rfl;rw[e,KT,ZAM];split
   .rename_i hk;subst hk;exact⟨⟨λ_=> .inr rfl,λ_=>J0⟩,J0⟩
   .rename_i hk;exact⟨⟨λh=> .inl (h1.1.1 h),λh=>by rcases h with h|h;exact h1.1.2 h;exact absurd h hk⟩,h1.2⟩
  have ih:=ZaF L l _ _ hS2 hv.2;have hm:0<snG S (Ke L (ZE a.1)).1↔nmL L a∈S':=(hS _).1;unfold goS ZII w4;rw[ht];by_cases h1:nmL L a∈S'
  .have h0:=hm.2 h1;simp[h1,h0]
  .have h0: ¬0<snG S (Ke L (ZE a.1)).1:=λh=>h1 (hm.1 h)
   by_cases h2:a.2.1.Pairwise (ZGq (Ke L (ZE a.1)).2.1)
   .rw[ZI h2,decide_eq_false h1];simp only[h0,ZOy,ZFN,Je,or_self,if_false,ne_eq,not_true_eq_false];exact ih
   .simp[h0,h1,h2]
theorem Zek{L:List (Tx×Ze)}(h:ZEr L)(l:List ZN):ZHo L l=ZGi L l:=by
 have e1:goA w1 L l=if l.all (v1F L)=true then 0 else 17:=ZLi WT l (λa _=>by
  unfold w1 v1F;have hf:=Zae h (ZE a.1);cases hb:(ZH L (ZE a.1)).isSome
  .rw[if_pos (by rw[hf];exact hb)];rfl
  .rw[if_neg (by rw[hf,hb];decide)];rfl)
 have e2:goA w2 L l=if l.all v2F=true then 0 else 19:=ZLi WT l (λa _=>by
  unfold w2 v2F;by_cases h:a.2.1.length=0<;>simp[h])
 have e3:goA w3 L l=if l.all (v3F L)=true then 0 else 21:=ZLi WT l (λa _=>rfl)
 have e5:goA w5 L l=if l.all (λa=> !((Ke L (ZE a.1)).2.2.1&&decide (1<a.2.1.length)))=true then 0 else 19:=ZLi WT l (λa _=>by
  unfold w5;cases h1:(Ke L (ZE a.1)).2.2.1<;>by_cases h2:1<a.2.1.length<;>simp[h1,h2])
 unfold ZHo ZGi ZLc;rw[e1,e2,e3,e5];by_cases h1:l.all (v1F L)=true
 .by_cases h2:l.all v2F=true
  .by_cases h3:l.all (v3F L)=true
   .have e4:=ZaF L l [] [] (λk=>⟨by simp[snG,ZH],by simp[snG,ZH]⟩) h3;rw[e4];simp only[h1,h2,h3,if_true,ne_eq,not_true_eq_false,if_false];by_cases h4:ZII L [] l=true<;>simp[h4]
   .simp[h1,h2,h3]
  .simp[h1,h2]
 .simp[h1]
theorem ZaH{L:List (Tx×Ze)}(M:List (Tx×Zi))(h:ZEr L)(l:List ZN):ZH9 L M l=ZH2 L M l:=by
 unfold ZH9 ZH2;rw[Zek h];have e:(Qk l).all (λh=>decide (h∈OC::ZBG M (ZCo l)))=(Qk l).all (ocF M (ZCo l)):=by
  congr 1;funext x;unfold ocF;rw[QZ];simp
 rw[e];by_cases h0:ZGi L l≠0
 .rw[if_pos h0,if_pos h0]
 .rw[if_neg h0,if_neg h0];rcases hc:ZCo l with _|⟨c,cs⟩
  .simp
  .generalize(c::cs).all (ZCm M (Qk l))=b1;generalize(Qk l).all (ocF M (c::cs))=b2;cases b1<;>cases b2<;>simp
def isIn(l:List ZY)(n:Tx):Bool:=decide (atG l n<l.length)
theorem ZLe(l:List ZY)(n:Tx):0<=(if atG l n<l.length then(atG l n:Int)else-1)↔isIn l n=true:=by
 unfold isIn;by_cases h:atG l n<l.length
 .rw[if_pos h,ZI h];simp
 .rw[if_neg h,decide_eq_false h];simp
theorem Zav(s:Tx):(if okS s=true then((Zq s).length:Int)else-1)<1↔JH s=false:=by
 unfold JH;by_cases h:okS s=true
 .rw[if_pos h];cases e:Zq s<;>simp<;>omega
 .rw[if_neg h,show Zq s= [] by unfold Zq;rw[ZKJ]at h;rw[h];rfl];simp
def ZFY(L:List (Tx×Ze))(M:List (Tx×Zi))(l:List ZY)(dn:Tx)(a:List ZN):Int:=
 if JH dn=false then 34 else if isIn l dn=true then 68 else if isIn l (YC dn)=false/\YC dn≠ []then 32 else if ZBs L M dn a≠0 then ZBs L M dn a else if 1024<=l.length then 80 else 0
def ZCv(c:Int)(l:List ZY)(dn:Tx)(a:List ZN):List ZY:=if c=0 then ZBf (dn,Zm a,()) false l else l
def ZI6:J8->J5
 | [.agg [.x (.sl A),.x (.sl B)],.agg [.x (.str dn),.x (.sl R)]]=>(ZM Zz A).bind λT=>(ZM YW B).bind λC=>(ZM ZK R).bind λl=>some (decide (smT T/\(ZBt C/\smE l)),.x (.int .i64 (ZH2 (Zp T) (YE C) l)))
 |_=>none
theorem ZL4:QK Tryz.prog ZI6 87:=by
 intro args r h;unfold ZI6 at h;split at h
 .rename_i A B dn R;obtain⟨T,rfl,i0⟩:=un JC h;obtain⟨C,rfl,i1⟩:=un JP i0;obtain⟨l,rfl,i2⟩:=un Zf i1;obtain⟨h1,rfl⟩:=Yn i2;exact(ZbZ T C (dn,l,()) h1.1 h1.2.1 h1.2.2)
 .cases h
set_option maxHeartbeats 4000000 in
theorem Zgb(T:List Ze)(C:List Zi)(l:List ZY)(dn:Tx)(a:List ZN)(hT:smT T)(hC:ZBt C)(hn:ZEr (Zp T))(hl:l.length<=100000)(hs:Js a)(he:smE a):ZL Tryz.prog 48 [.agg [.x (.sl (rows Zz T)),.x (.sl (rows YW C)),.x (.sl (rows ZZ l))],.agg [.x (.str dn),.x (.sl (rows ZK a))]] (.tup [.agg [.x (.sl (rows Zz T)),.x (.sl (rows YW C)),.x (.sl (rows ZZ (ZCv (ZFY (Zp T) (YE C) l dn a) l dn a)))],.x (.int .i64 (ZFY (Zp T) (YE C) l dn a))]):=by
 have c1:=ZI hl;have c2:decide (smT T/\Js a)=true:=ZI ⟨hT,hs⟩;have c3:decide (smT T/\(ZBt C/\smE a))=true:=ZI ⟨hT,hC,he⟩;have c4:decide (l.length<=100000/\Js a)=true:=ZI ⟨hl,hs⟩;have hul:ZM ZK (rows ZK a)=some a:=ZS Zf a;have hue:ZM ZZ (rows ZZ l)=some l:=ZS YD l;have hu1:=ZD1 T;have hu2:=ZEq C;have hrl:=ZQ ZZ l;have hck:=ZaH (YE C) hn a;have hdp:=Zav dn;have ha1:=ZLe l dn;have ha2:=ZLe l (YC dn);rcases hres:ZFY (Zp T) (YE C) l dn a with c
 unfold ZFY ZBs at hres;rw[hck]at hres;refine ZF.pure (fC 48 true ?_) rfl;intro C0 E0;have uu:=ξ9 @ZPQ.eq_1 @ZMH.eq_1 @ZLV.eq_1 @ZHX.eq_1 @ZNN.eq_1 @ZI6.eq_1 @c1 @c2 (ξ7 @c3 @c4 hul hue hu1 hu2 hrl);have tT:=aQ (aQ (aQ (aQ (aQ (aQ ZB ZXP) ZUq) ZJc) ZKQ) ZQz) ZL4;refine rg [2,3,4] ?_;refine rg [2,3,4,6] ?_;refine rg [2,3,4,6,7] ?_;refine rg [2,3,4,7,19] ?_;refine cd (λh0=> ?_) (λh0=> ?_)
 .rw[if_pos (hdp.1 Gc)]at hres;exact VK
 .rw[if_neg (λe=>absurd (hdp.2 e) Gc)]at hres;refine rg [2,3,4,7,23] ?_;refine cd (λh1=> ?_) (λh1=> ?_)
  .rw[if_pos (ha1.1 Vz)]at hres;exact VK
  .rw[if_neg (λe=>absurd (ha1.2 e) Vz)]at hres;refine rg [2,3,4,30] ?_;refine cd (λh2=> ?_) (λh2=> ?_)
   .have h2':isIn l (YC dn)=false/\YC dn≠ []:=Tq
    rw[if_pos h2']at hres;exact VK
   .have h2': ¬(isIn l (YC dn)=false/\YC dn≠ []):=Tq
    rw[if_neg h2']at hres;refine rg [2,3,4,9] ?_;refine rg [2,3,4,9,45] ?_;refine cd (λh3=> ?_) (λh3=> ?_)
    .have h3':ZH2 (Zp T) (YE C) a≠0:=by clear uu hres;simpa using h3
     rw[if_pos h3',if_pos h3']at hres;refine W8 ?_;subst hres;unfold ZCv;rw[if_neg h3']
    .have h3': ¬ZH2 (Zp T) (YE C) a≠0:=by clear uu hres;simpa using h3
     rw[if_neg h3']at hres;refine rg [2,3,4,48] ?_;refine cd (λh4=> ?_) (λh4=> ?_)
     .rw[if_neg (show ¬ZEd (Zp T) dn a=true by clear uu hres;simpa using h4)]at hres;rw[if_pos WT]at hres;exact VK
     .rw[if_pos (show ZEd (Zp T) dn a=true by clear uu hres;simpa using h4),if_neg WT]at hres;refine rg [2,3,4,55] ?_;refine cd (λh5=> ?_) (λh5=> ?_)
      .rw[if_pos Mi]at hres;exact VK
      .rw[if_neg Mi]at hres;exact VK
def ZR5:J8->J5
 | [.agg [.x (.sl A),.x (.sl B),.x (.sl R)],.agg [.x (.str dn),.x (.sl E)]]=>(ZM Zz A).bind λT=>(ZM YW B).bind λC=>(ZM ZZ R).bind λl=>(ZM ZK E).bind λa=>some (decide (smT T/\ZBt C/\ZEr (Zp T)/\l.length<=100000/\Js a/\smE a),.tup [.agg [.x (.sl (rows Zz T)),.x (.sl (rows YW C)),.x (.sl (rows ZZ (ZCv (ZFY (Zp T) (YE C) l dn a) l dn a)))],.x (.int .i64 (ZFY (Zp T) (YE C) l dn a))])
 |_=>none
theorem ZYR:QK Tryz.prog ZR5 48:=by
 intro args r h;unfold ZR5 at h;split at h
 .obtain⟨T,rfl,i0⟩:=un JC h;obtain⟨C,rfl,i1⟩:=un JP i0;obtain⟨l,rfl,i2⟩:=un YD i1;obtain⟨a,rfl,i3⟩:=un Zf i2;obtain⟨h1,rfl⟩:=Yn i3;exact(Zgb T C l _ a h1.1 h1.2.1 h1.2.2.1 h1.2.2.2.1 h1.2.2.2.2.1 h1.2.2.2.2.2)
 .cases h
def ZKq(a b:List Tx):Bool:=decide (b.length<=a.length)&&decide (a.drop (a.length-b.length)=b)
theorem ZZr(a b:List Tx)(k i:Nat)(h1:k+i<a.length)(h2:i<b.length):(a.drop (k+i)=b.drop i)=(a[k+i]=b[i]/\a.drop (k+(i+1))=b.drop (i+1)):=by
 rw[ξW h1,ξW h2,ZEt,ZFe]
theorem Zg4(a b:List Tx)(ha:a.length<=1000000)(hb:b.length<=1000000):ZL Tryz.prog 91 [.x (.sl (rows ZC a)),.x (.sl (rows ZC b))] (.x (.bool (ZKq a b))):=by
 have hla:=ZQ ZC a;have hlb:=ZQ ZC b;rcases hres:ZKq a b with v
 unfold ZKq at hres;refine ZF.pure (fC 91 true ?_) rfl;intro C0 E0;have uu:=YB hla hlb;have tT:=(ZB:SsOk Tryz.prog YH);refine rg [0,1] ?_;refine rg [0,1,10] ?_;refine cd (λh0=> ?_) (λh0=> ?_)
 .rw[decide_eq_false (show ¬b.length<=a.length by clear uu hres;simp at h0;omega),ZFD]at hres;subst hres;refine Wj ?_
  exact Wo
 .have hab:b.length<=a.length:=by clear uu hres;simp at h0;omega
  rw[ZI hab,ZAk]at hres;refine rg [0,1,5] ?_;refine WI.loop (λφ os=> ∃(i:Nat),φ= [(0,.x (.sl (rows ZC a))),(1,.x (.sl (rows ZC b))),(5,.x (.int .i64 i))]/\os= []/\i<=b.length/\(a.drop (a.length-b.length+i)=b.drop i↔v=true)) (ZJ b.length 5) ?_ (λφ os hI=> ?_)
  .exact⟨0,rfl,rfl,J0,by simp[<-hres]⟩
  .obtain⟨i,rfl,rfl,hi,hd⟩:=hI;refine rg [0,1,5,14] ?_;refine cd (λh1=> ?_) (λh1=> ?_)
   .have hi4:i<b.length:=Hg
    have hi5:a.length-b.length+i<a.length:=Wm
    have hst:=ZZr a b (a.length-b.length) i hi5 hi4;have e1:((a.length:Int)-(b.length:Int)+(i:Int)).toNat=a.length-b.length+i:=Wm
    have r1:(rows ZC a)[a.length-b.length+i]? =some [X.str (a[a.length-b.length+i])]:=by simp[rows,ZC,hi5]
    have r2:(rows ZC b)[i]? =some [X.str (b[i])]:=by simp[rows,ZC,hi4]
    generalize a[a.length-b.length+i]=p at r1 hst;generalize b[i]=q at r2 hst;have uu:=Qu uu e1 r1 r2;refine WI.dregB tT [0,1,5,31] ?_
    refine X2 ?_;refine Zn ?_;refine X1 ?_;refine VJ ?_;refine Wn ?_;refine VJ ?_;refine Zn ?_;refine VP ?_;refine cd (λh2=> ?_) (λh2=> ?_)
    .have hpq: ¬p=q:=To
     have hv: ¬v=true:=λe=>hpq (hst.mp (hd.2 e)).1
     rw[ZKJ]at hv;subst hv;refine Wj ?_
     exact Wo
    .have hpq:p=q:=To
     have hd2:a.drop (a.length-b.length+(i+1))=b.drop (i+1)↔v=true:=by rw[<-hd,hst];simp[hpq]
     refine rg [0,1,5] ?_;exact⟨⟨i+1,rfl,rfl,J0,hd2⟩,Wa⟩
   .refine Wj ?_;obtain rfl:i=b.length:=Hg
    rw[List.drop_length,ZBB J0]at hd;rw[hd.1 rfl]
def ZWd:J8->J5
 | [.x (.sl A),.x (.sl B)]=>(ZM ZC A).bind λa=>(ZM ZC B).bind λb=>some (decide (a.length<=1000000/\b.length<=1000000),.x (.bool (ZKq a b)))
 |_=>none
theorem ZcI:QK Tryz.prog ZWd 91:=by
 intro args r h;unfold ZWd at h;split at h
 .obtain⟨a,rfl,i0⟩:=un ZP h;obtain⟨b,rfl,i1⟩:=un ZP i0;obtain⟨h1,rfl⟩:=Yn i1;exact(Zg4 a b h1.1 h1.2)
 .cases h
def ZG5(s n:Tx):Bool:=okS s&&(okS n&&ZKq (Zq s) (Zq n))
theorem Zdm(s n:Tx):ZL Tryz.prog 54 [.x (.str s),.x (.str n)] (.x (.bool (ZG5 s n))):=by
 have ha:=(ZDJ s).1;have hb:=(ZDJ n).1;have c1:decide ((Zq s).length<=1000000/\(Zq n).length<=1000000)=true:=ZI ⟨J0,J0⟩;have hu1:ZM ZC (rows ZC (Zq s))=some (Zq s):=ZS ZP _;have hu2:ZM ZC (rows ZC (Zq n))=some (Zq n):=ZS ZP _;unfold ZG5;refine ZF.pure (fC 54 true ?_) rfl;intro C0 E0;have uu:=ξ5 @ZFP.eq_1 @ZWd.eq_1 @c1 hu1 hu2;have tT:=aQ (aQ ZB ZEo) ZcI;refine rg [0,1] ?_;refine rg [1,5,6] ?_;refine rg [5,6,7,8] ?_;refine Wj ?_;clear uu;cases okS s<;>cases okS n<;>rfl
def ZOs:J8->J5
 | [.x (.str s),.x (.str n)]=>some (true,.x (.bool (ZG5 s n)))
 |_=>none
theorem ZYE:QK Tryz.prog ZOs 54:=by
 intro args r h;unfold ZOs at h;split at h
 .obtain rfl:=Qv h;exact(Zdm _ _)
 .cases h
def ZFr(l:List ZY)(n:Tx)(e:ZY):Bool:=(decide (n= [])||decide (atG l n<l.length))&&ZG5 e.1 n
def ZDg(l:List ZY)(n:Tx):List Tx:=(l.filter (ZFr l n)).map (·.1)
theorem Zde{l:List ZY}{f:ZY->Bool}{i:Nat}(h:i<l.length):((l.take (i+1)).filter f).map (·.1)=((l.take i).filter f).map (·.1)++(if f (l.getD i ([],[],()))=true then [(l.getD i ([],[],())).1]else []):=by
 rw[JW h,Zcd,Jj,show l.getD i ([],[],())=l[i] by simp[h]];congr 1;by_cases e:f l[i]=true<;>simp[e]
theorem ZY6(S1 S2:J6)(l:List ZY)(n:Tx)(hl:l.length<=100000):ZL Tryz.prog 24 [.agg [.x (.sl S1),.x (.sl S2),.x (.sl (rows ZZ l))],.x (.str n)] (.x (.sl (rows ZC (ZDg l n)))):=by
 have hrl:=ZQ ZZ l;have hul:ZM ZZ (rows ZZ l)=some l:=ZS YD l;have c1:=ZI hl;unfold ZDg;refine ZF.pure (fC 24 true ?_) rfl;intro C0 E0;have uu:=ξ5 @ZLV.eq_1 @ZOs.eq_1 hrl hul @c1;have tT:=aQ (aQ ZB ZJc) ZYE;refine rg [1,2] ?_;refine rg [1,2,5] ?_;refine rg [1,2,5,6] ?_;refine WI.ownA 5 9 1 ?_;refine WI.loop (λφ os=> ∃(i:Nat) (acc:List Tx),φ= [(1,.x (.str n)),(2,.ptr 0 0),(5,.ref 1 acc.length 0 acc.length),(6,.x (.int .i64 i))]/\os= [.box [.x (.sl S1),.x (.sl S2),.x (.sl (rows ZZ l))],.rows false 9 1 (rows ZC acc)]/\i<=l.length/\acc.length<=i/\acc=((l.take i).filter (ZFr l n)).map (·.1)) (ZJ l.length 6) ?_ (λφ os hI=> ?_)
 .exact⟨0,[],rfl,rfl,J0,J1,rfl⟩
 .obtain⟨i,acc,rfl,rfl,hi,hac,hp⟩:=hI;refine rg [1,2,5,6,11] ?_;refine cd (λh0=> ?_) (λh0=> ?_)
  .have hi4:i<l.length:=by clear uu;simp at h0;omega
   have hrw:=ZLP l i hi4;have hst:=Zde (f:=ZFr l n) hi4;generalize l.getD i ([],[],())=x at hrw hst;have hal:=ZQ ZC acc;have uu:=JL uu hrw hal;refine rg [1,2,5,6,31] ?_;refine cd (λh1=> ?_) (λh1=> ?_)
   .have hx:ZFr l n x=true:=by clear uu;unfold ZFr;grind
    refine rg [1,2,5,6] ?_;refine rgp [1,2,5,6] ?_;refine Jg [0,1] ?_;refine GE ?_
    exact VM
   .have hx: ¬ZFr l n x=true:=by clear uu;unfold ZFr;grind
    refine rgp [1,2,5,6] ?_;refine Jg [0,1] ?_;refine GE ?_
    exact VM
  .refine Wj ?_;obtain rfl:i=l.length:=by clear uu;simp at h0;omega
   rw[hp,JX]
structure RelD (m:EM) (B:BM) (l:List ZY):Prop where
 inv:InvT m B
 so:SoE l
 mem: ∀e:ZY,e∈l↔ZH m e.1=some e
 cl: ∀p∈m,Zm p.2.2.1=p.2.2.1
theorem Zcq:RelD [] [] []:=⟨ZgH,.nil,λe=>by simp[ZH],J1⟩
section
variable {m:EM} {B:BM} {l:List ZY}
theorem RelD.look(h:RelD m B l){n:Tx}{e:ZY}(he:ZH m n=some e):e.1=n/\e∈l:=by
 have h1:=(h.inv.key _ (JD he)).1;exact⟨h1,(h.mem e).2 (by rw[h1];exact he)⟩
theorem RelD.has(h:RelD m B l){e:ZY}(he:e∈l):JH e.1=true/\e.1∈m.map (·.1):=by
 have h1:=JD ((h.mem e).1 he);exact⟨(h.inv.key _ h1).2.1,YS.2 ⟨_,h1,rfl⟩⟩
theorem RelD.name(h:RelD m B l)(n:Tx):n∈l.map (·.1)↔n∈m.map (·.1):=by
 constructor
 .intro hn;obtain⟨e,he,rfl⟩:=YS.1 hn;exact(h.has he).2
 .intro hn;obtain⟨p,hp,rfl⟩:=YS.1 hn;obtain⟨h1,h2⟩:=h.look (ZEl h.inv.kn hp);exact YS.2 ⟨_,h2,h1⟩
theorem RelD.names(h:RelD m B l):l.map (·.1)=Yi B 40 []:=
 ZMo _ _ (λx hx=>h.inv.has ((h.name x).1 hx)) (ZXV.2 h.so) (h.inv.sorted 40 []) (λx=>by rw[h.name,h.inv.walkMem])
theorem RelD.len(h:RelD m B l):l.length=m.length:=by rw[<-h.inv.walkLen,<-h.names,Yc]
theorem ZLJ: ∀(l:List ZY) (n:Tx),atG l n<l.length↔n∈l.map (·.1)
 | [],n=>by simp[atG]
 |e::l,n=>by
  have ih:=ZLJ l n;unfold atG at ih|-;rw[List.takeWhile_cons];by_cases h:e.1=n
  .simp[h]
  .simp only[beq_iff_eq,h,ZG8,beq_eq_false_iff_ne,ne_eq,not_false_eq_true,if_true,Yx,YO,Jf];rw[Nat.add_lt_add_iff_right,ih];exact⟨.inr,λh1=>h1.elim (λe=>absurd e.symm h) id⟩
theorem RelD.isIn(h:RelD m B l)(n:Tx):isIn l n=(ZH m n).isSome:=by
 unfold Go.Proofs.YtiogclkbccdefaaGreatDoor.isIn;rw[QZ,Yl,ZLJ,h.name];cases hm:ZH m n with
 |none=>simpa using KV.1 hm
 |some e=>exact⟨λ_=>rfl,λ_=>YS.2 ⟨_,JD hm,rfl⟩⟩
theorem RelD.code(h:RelD m B l)(L:List (Tx×Ze))(M:List (Tx×Zi))(dn:Tx)(a:List ZN):ZFY L M l dn a=Qx L M m dn a:=by
 unfold ZFY Qx;rw[h.isIn,h.isIn,h.len]
theorem RelD.put(h:RelD m B l){B':BM}{dn:Tx}{a:List ZN}(hs:JH dn=true)(hi:InvT (Zy m dn (dn,Zm a,())) B'):RelD (Zy m dn (dn,Zm a,())) B' (ZBf (dn,Zm a,()) false l):=by
 refine⟨hi,ZVm _ hs l h.so (λx hx=>(h.has hx).1),λe=> ?_,λp hp=> ?_⟩
 .rw[ZMS,ZJ9,h.mem];by_cases he:e.1=dn
  .simp only[he,ne_eq,not_true_eq_false,and_false,or_false,if_true,Yu];exact eq_comm
  .simp only[he,ne_eq,not_false_eq_true,and_true,if_false];exact⟨λh1=>h1.elim (λe2=>absurd (congrArg Prod.fst e2) he) id,.inr⟩
 .rcases Jf.1 ((ZBV m dn _).mem_iff.1 hp)with rfl|hp
  .exact ZUa a
  .exact h.cl p ((ZAb m dn).mem hp)
theorem RelD.add(h:RelD m B l)(L:List (Tx×Ze))(M:List (Tx×Zi))(dn:Tx)(a:List ZN)(hs:Js (Zm a)):RelD (Kl (Qx L M m dn a) m dn a) (ZA5 (Qx L M m dn a) B dn) (ZCv (ZFY L M l dn a) l dn a):=by
 have hi:=h.inv.add L M dn a hs;rw[h.code];unfold Kl ZCv at*;by_cases h0:Qx L M m dn a=0
 .rw[if_pos h0]at hi;rw[if_pos h0,if_pos h0];refine h.put ?_ hi;unfold Qx at h0;split at h0
  .cases h0
  .rename_i h1;simpa using h1
 .rw[if_neg h0]at hi;rw[if_neg h0,if_neg h0];exact⟨hi,h.so,h.mem,h.cl⟩
theorem RelD.get(h:RelD m B l){e:ZY}(he:e∈l):ZH m e.1=some e/\ZH0 m e.1=e:=by
 have h1:=(h.mem e).1 he;refine⟨h1,?_⟩;unfold ZH0;rw[h1];exact ZCQ rfl (ZCQ (h.cl _ (JD h1)) rfl)
end
theorem ZQ4{α:Type}(p:α->Bool)(l:List α)(j:Nat)(h:j<l.length):(l.take (j+1)).all p=((l.take j).all p&&p l[j]):=by
 rw[JW h,ZJh];simp
theorem ZIu{α:Type}(p:α->Bool)(l:List α)(j:Nat)(h:j<l.length)(hp:p l[j]=false):l.all p=false:=by
 exact NG
def ZXh(v:Tx):Bool:=decide (v.length<=300)
def ZKl(a:ZN):Bool:=decide (a.1.length<=80/\a.2.1.length<=8)&&a.2.1.all ZXh
def ZKd(e:ZY):Bool:=decide (e.1.length<=300/\e.2.1.length<=12)&&e.2.1.all ZKl
theorem Zh5(d:Tx)(bs:List ZN):ZL Tryz.prog 18 [.agg [.x (.str d),.x (.sl (rows ZK bs))]] (.x (.bool (ZKd (d,bs,())))):=by
 have hfe:ZKd (d,bs,())=(decide (d.length<=300/\bs.length<=12)&&bs.all ZKl):=rfl;rw[hfe];clear hfe;refine ZF.pure (fC 18 true ?_) rfl;intro C0 E0;have uu:=trivial;have tT:=(ZB:SsOk Tryz.prog YH);refine rg [1] ?_;refine rg [1,14] ?_;refine cd (λh0=> ?_) (λh0=> ?_)
 .refine Wy ?_;rw[decide_eq_false Ww];rfl
 .have hal:d.length<=300/\bs.length<=12:=Ww
  refine rg [1,3] ?_;refine WI.loop (λφ os=> ∃(i:Nat),φ= [(1,.ptr 0 0),(3,.x (.int .i64 i))]/\os= [.box [.x (.str d),.x (.sl (rows ZK bs))]]/\i<=bs.length/\(bs.take i).all ZKl=true) (ZJ bs.length 3) ?_ (λφ os hI=> ?_)
  .exact W5
  .obtain⟨i,rfl,rfl,hi,hall⟩:=hI;refine rg [1,3,19] ?_;refine cd (λh1=> ?_) (λh1=> ?_)
   .have hi4:i<bs.length:=Wm
    refine rg [1,3,39] ?_;refine cd (λh2=> ?_) (λh2=> ?_)
    .refine Wy ?_;rw[ZIu _ bs i hi4 (by unfold ZKl;rw[decide_eq_false Ww];rfl),ZFc]
    .have hvl:bs[i].1.length<=80/\bs[i].2.1.length<=8:=Ww
     refine rg [1,3,4] ?_;refine WI.loop (λφ os=> ∃(k:Nat),φ= [(1,.ptr 0 0),(3,.x (.int .i64 i)),(4,.x (.int .i64 k))]/\os= [.box [.x (.str d),.x (.sl (rows ZK bs))]]/\k<=bs[i].2.1.length/\(bs[i].2.1.take k).all ZXh=true) (ZJ bs[i].2.1.length 4) ?_ (λφ os hI=> ?_)
     .exact W5
     .obtain⟨k,rfl,rfl,hk,hnk⟩:=hI;refine rg [1,3,4,48] ?_;refine cd (λh3=> ?_) (λh3=> ?_)
      .have hk4:k<bs[i].2.1.length:=Wm
       refine rg [1,3,4,61] ?_;refine cd (λh4=> ?_) (λh4=> ?_)
       .refine Wy ?_;rw[ZIu _ bs i hi4 (by unfold ZKl;rw[ZIu _ bs[i].2.1 k hk4 (decide_eq_false Ww),ZFc]),ZFc]
       .refine rg [1,3,4] ?_;exact⟨⟨k+1,rfl,rfl,J0,by rw[ZQ4 _ bs[i].2.1 k hk4,hnk,show ZXh bs[i].2.1[k]=true from ZI J0];rfl⟩,Wa⟩
      .have hfa:ZKl bs[i]=true:=by unfold ZKl;rw[YR J0]at hnk;rw[hnk,ZI hvl];rfl
       refine rg [1,3] ?_;exact⟨⟨i+1,rfl,rfl,J0,by rw[ZQ4 _ bs i hi4,hall,hfa];rfl⟩,Wa⟩
   .refine Wy ?_;rw[YR J0]at hall;rw[hall,ZI hal];rfl
def ZXq:J8->J5
 | [.agg [.x (.str d),.x (.sl A)]]=>(ZM ZK A).bind λa=>some (true,.x (.bool (ZKd (d,a,()))))
 |_=>none
theorem Zc5:QK Tryz.prog ZXq 18:=by
 intro args r h;unfold ZXq at h;split at h
 .obtain⟨a,rfl,i0⟩:=un Zf h;obtain rfl:=Qv i0;exact(Zh5 _ a)
 .cases h
theorem ZYP{e:ZY}(h:ZKd e=true):e.1.length<=300/\e.2.1.length<=12/\ ∀a∈e.2.1,a.1.length<=80/\a.2.1.length<=8/\ ∀v∈a.2.1,v.length<=300:=by
 unfold ZKd at h;rw[Zj,Yl]at h;refine⟨h.1.1,h.1.2,λa ha=> ?_⟩;have h2:=Yg.1 h.2 a ha;unfold ZKl at h2;rw[Zj,Yl]at h2;exact⟨h2.1.1,h2.1.2,λv hv=>of_decide_eq_true (Yg.1 h2.2 v hv)⟩
theorem ZLq(l:List ZN)(hb: ∀a∈l,a.2.1.length<=8): ∀j,j<=l.length-> ∀a∈Zm (l.take j),a.2.1.length<=j*8
 |0,_=>by simp[Zm]
 |j+1,h=>by
  rw[ZCl l j J0];have:=ZQC (Zm (l.take j)) (ZE (l.getD j ([],[],())).1) (l.getD j ([],[],())).2.1 (j*8) 8 (ZLq l hb j J0) Gr;intro a ha;have:=this a ha;omega
theorem ZdK(l:List ZN)(n:Tx)(vs:List Tx)(k:Nat)(hl: ∀a∈l,a.1.length<=k)(hn:n.length<=k): ∀a∈Kv l n vs,a.1.length<=k:=by
 unfold Kv;split
 .exact hl
 .intro a ha;rcases KT.1 ha with ha|ha
  .rcases KT.1 ha with ha|ha
   .exact hl a (ZCH ha)
   .rw[ZAM.1 ha];exact hn
  .refine hl a ?_;unfold KJ at ha;split at ha<;>exact ZDD ha
theorem ZN9(l:List ZN)(k:Nat)(hb: ∀a∈l,a.1.length<=k): ∀j,j<=l.length-> ∀a∈Zm (l.take j),a.1.length<=k
 |0,_=>by simp[Zm]
 |j+1,h=>by
  rw[ZCl l j J0];refine ZdK _ _ _ k (ZN9 l k hb j J0) ?_;rw[ZFb,show l.getD j ([],[],())=l[j] by simp[show j<l.length by omega]];exact hb _ (YK _)
theorem Zhf{e:ZY}(h:ZKd e=true):Js e.2.1/\Js (Zm e.2.1)/\ZEG (YE plC) e.2.1:=by
 obtain⟨h1,h2,h3⟩:=ZYP h;have c1:=ZEp e.2.1 e.2.1.length (Zr _);have c2:=ZLq e.2.1 (λa ha=>(h3 a ha).2.1) e.2.1.length (Zr _);have c3:=ZN9 e.2.1 80 (λa ha=>(h3 a ha).1) e.2.1.length (Zr _);rw[JX]at c1 c2 c3;refine⟨⟨J0,λa ha=>HI,λa ha=>Hf⟩,⟨J0,λa ha=>by have:=c3 a ha;omega,λa ha=>by have:=c2 a ha;omega⟩,?_⟩;exact⟨Uu,⟨J0,λa ha=>⟨HI,Hf⟩⟩,λa ha v hv=>by have:=(h3 a ha).2.2 v hv;omega⟩
theorem Zik(P1 P2:W2):ZO Tryz.prog 10 [.ptr 0 0] [.box [.mref 1,.mref 2],.mpo .str true P1,.mpo .str true P2] (.ptr 5 0) [.box [.mref 1,.mref 2],.mpo .str true P1,.mpo .str true P2,.mpo .str true [],.mpo .str false [],.box [.ptr 0 0,.mref 3,.mref 4]]:=by
 refine ZF.mcalls (fC 10 true ?_);intro C0 E0;have uu:=trivial;have tT:=(ZB:SsOk Tryz.prog YH);refine XF ?_
 exact Wo
def ZRd:J8->J7->Option (Bool×D×J7)
 | [.ptr 0 0],[.box [.mref 1,.mref 2],.mpo .str true P1,.mpo .str true P2]=>some (true,.ptr 5 0,[.box [.mref 1,.mref 2],.mpo .str true P1,.mpo .str true P2,.mpo .str true [],.mpo .str false [],.box [.ptr 0 0,.mref 3,.mref 4]])
 |_,_=>none
theorem ZcQ: ∀args os r os',ZRd args os=some (true,r,os')->ZO Tryz.prog 10 args os r os':=by
 intro args os r os' h;unfold ZRd at h;split at h
 .cases h;exact Zik _ _
 .cases h
theorem Zet:ZCs 9 [JS (Zp plT),JN (YE plC),Jt []] (enB []) (Jr (JS (Zp plT)) (JN (YE plC)) (.mpo .str true (Jt []):: .mpo .str false []:: [])):=ZDy (Bt:= []) (Y:= []) (ZI0 _) ⟨.nil,.nil,J1⟩ rfl
def ZHE:J8->J5
 | [.agg [.x (.sl A),.x (.sl B),.x (.sl R)],.x (.str n)]=>(ZM ZZ R).bind λl=>some (decide (l.length<=100000),.x (.sl (rows ZC (ZDg l n))))
 |_=>none
theorem ZIA:QK Tryz.prog ZHE 24:=by
 intro args r h;unfold ZHE at h;split at h
 .obtain⟨l,rfl,i0⟩:=un YD h;obtain⟨h1,rfl⟩:=Yn i0;exact(ZY6 _ _ l _ h1)
 .cases h
theorem ZYZ(S1 S2:J6)(l:List ZY)(hl:l.length<=100000):ZL Tryz.prog 51 [.agg [.x (.sl S1),.x (.sl S2),.x (.sl (rows ZZ l))]] (.x (.sl (rows ZC (ZDg l [])))):=by
 have hul:ZM ZZ (rows ZZ l)=some l:=ZS YD l;have c1:=ZI hl;refine ZF.pure (fC 51 true ?_) rfl;intro C0 E0;have uu:=JL @ZHE.eq_1 hul @c1;have tT:=aQ ZB ZIA;refine rg [1] ?_;refine Wy ?_
 exact Wo
def ZMr:J8->J5
 | [.agg [.x (.sl A),.x (.sl B),.x (.sl R)]]=>(ZM ZZ R).bind λl=>some (decide (l.length<=100000),.x (.sl (rows ZC (ZDg l []))))
 |_=>none
theorem ZUe:QK Tryz.prog ZMr 51:=by
 intro args r h;unfold ZMr at h;split at h
 .obtain⟨l,rfl,i0⟩:=un YD h;obtain⟨h1,rfl⟩:=Yn i0;exact(ZYZ _ _ l h1)
 .cases h
theorem ZQQ(l:List ZY)(h: ∀e∈l,JH e.1=true):ZDg l []=l.map (·.1):=by
 unfold ZDg;congr 1;rw[Zcu];intro e he;have h1:okS e.1=true:=by
  have h2:=h e he;unfold JH Zq at h2;cases hq:okS e.1
  .rw[hq]at h2;simp at h2
  .rfl
 unfold ZFr ZG5 ZKq;rw[h1,show okS []=true by decide+kernel,show Zq []= [] by decide+kernel];simp
def ZN6(m:EM)(B:BM)(l:List ZY):Prop:=okW 40 m B []/\l.length<=100000/\Yi B 40 []=ZDg l []/\l.map (·.1)=Yi B 40 []/\m.length=l.length/\ ∀e∈l,(ZH m e.1).isSome=true/\ZH0 m e.1=e
instance (m:EM) (B:BM) (l:List ZY):Decidable (ZN6 m B l):=inferInstanceAs (Decidable (_/\_))
theorem RelD.same{m:EM}{B:BM}{l:List ZY}(h:RelD m B l):ZN6 m B l:=by
 have h1:=h.names;have h2:=h.len;have h3:=h.inv.ln;refine⟨h.inv.okWn [],J0,?_,h1,h2.symm,λe he=> ?_⟩
 .rw[ZQQ l (λe he=>(h.has he).1),h1]
 .obtain⟨h4,h5⟩:=h.get he;exact⟨by rw[h4];rfl,h5⟩
set_option maxHeartbeats 4000000 in
theorem Zcv(L:List (Tx×Ze))(M:List (Tx×Zi))(m:EM)(B:BM)(S1 S2:J6)(l:List ZY)(h:ZN6 m B l):ZO Tryz.prog 21 [.iref 0 0,.agg [.x (.sl S1),.x (.sl S2),.x (.sl (rows ZZ l))]] [JF L M m B] (.x (.bool true)) [JF L M m B]:=by
 obtain⟨hw,hl,hn,hnl,hlen,hall⟩:=h;have hrl:=ZQ ZZ l;have hul:ZM ZZ (rows ZZ l)=some l:=ZS YD l;have hut:=ZKC L M m B;have c1:=ZI hl;have c2:=ZI hw;have c3:=ZI hw.1;have hO: [JF L M m B].all (Ob.inP (λi=>decide (i< [JF L M m B].length)))=true:=rfl;refine ZF.mcallsX (fC 21 true ?_) WS hO Vk;intro C0 E0;have uu:=ξ9 @ZMr.eq_1 @ZF0.eq_1 @ZF0.eq_2 @ZNh.eq_1 @ZNh.eq_2 @ZRR.eq_1 @ZRR.eq_2 @ZRJ.eq_1 (ξ9 @ZRJ.eq_2 @ZLS.eq_1 @ZLS.eq_2 hul hut @c1 @c2 @c3 hrl);have tT:=aR (aR (aR (aQ (aQ (aQ ZB ZUe) ZKp) ZY0) ZdN) Zcx) ZXj;refine rg [0,3] ?_;refine rg [0,3,5] ?_;refine WI.dregB tT [0,3,5,23] ?_;refine WX ?_
 refine dQC ?_;refine dQC ?_;refine Zn ?_;refine X1 ?_;refine dQC ?_;refine Zn ?_;refine VJ ?_;refine Vc ?_;refine VP ?_;refine ce (λh0=> ?_) (λh0=> ?_)
 .rw[ZI hn,hlen]at h0;simp at h0
 .refine rg [0,3,5,6] ?_;generalize Yi B 40 []=W at hnl|-;have hrw0:=ZQ ZC W;refine WI.loop (λφ os=> ∃(i:Nat),φ= [(0,.iref 0 0),(3,.ptr 1 0),(5,.x (.sl (rows ZC W))),(6,.x (.int .i64 i))]/\os= [JF L M m B,.box [.x (.sl S1),.x (.sl S2),.x (.sl (rows ZZ l))]]/\i<=W.length) (ZJ W.length 6) ?_ (λφ os hI=> ?_)
  .exact Vg
  .obtain⟨i,rfl,rfl,hi⟩:=hI;refine rg [0,3,5,6,27] ?_;refine cd (λh1=> ?_) (λh1=> ?_)
   .have hWl:W.length=l.length:=by rw[<-hnl,Yc]
    have hi4:i<l.length:=Hg
    have hrw:=ZLP l i hi4;obtain⟨hg1,hg2⟩:=hall (l.getD i ([],[],())) Vs;have hWi:(rows ZC W)[i]? =some [X.str (l.getD i ([],[],())).1]:=by rw[<-hnl];simp[rows,ZC,hi4]
    generalize l.getD i ([],[],())=x at hrw hg1 hg2 hWi;have uu:=ξ6 uu hrw hg1 hg2 hWi hrw0;refine rg [0,3,5,6,7,8] ?_;refine WI.dregB tT [0,3,5,6,50] ?_;refine X1 ?_;refine WX ?_;refine Zn ?_;refine Zd ?_;refine Zn ?_
    refine VJ ?_;refine dAC ?_;refine Vc ?_;refine VP ?_;refine ce (λh2=> ?_) (λh2=> ?_)
    .simp at h2
    .refine WI.pickA [0,1] ?_;refine WI.orderA [0,3,5,6] ?_;refine rg [0,3,5,6] ?_;exact⟨⟨i+1,rfl,rfl,J0⟩,Wa⟩
   .refine Wj ?_;exact Gn
def ZRT:J8->J7->J5
 | [.iref 0 0,.agg [.x (.sl _),.x (.sl _),.x (.sl R)]],[o]=>(unT o).bind λq=>(ZM ZZ R).map λl=>(decide (ZN6 q.2.2.1 q.2.2.2 l),.x (.bool true))
 |_,_=>none
theorem Zb1: ∀args os r,ZRT args os=some (true,r)->r.clean=true/\ ∃X,ZO Tryz.prog 21 args os r (os++X):=by
 intro args os r h;unfold ZRT at h;split at h
 .obtain⟨⟨L,M,m,B⟩,h1,h⟩:=Zg h;obtain⟨l,h2,h⟩:=Zc h;simp only[YP,Yl]at h;obtain⟨h3,rfl⟩:=h;rw[ZCe h1,<-Yo YD h2];exact⟨rfl,[],Zcv L M m B _ _ l h3⟩
 .cases h
theorem ZO6(a b:Int):(a==b)=decide (a=b):=by rw[QZ];simp
set_option maxHeartbeats 4000000 in
theorem ZjL(L:List (Tx×Ze))(M:List (Tx×Zi))(m:EM)(B:BM)(T:List Ze)(C:List Zi)(l:List ZY)(dn:Tx)(a:List ZN)(h:smT T/\ZBt C/\ZEr (Zp T)/\l.length<=100000/\Js a/\smE a)(hk:okT m B/\Js a/\ZEG M a):ZO Tryz.prog 20 [.iref 0 0,.agg [.x (.sl (rows Zz T)),.x (.sl (rows YW C)),.x (.sl (rows ZZ l))],.agg [.x (.int .i64 0),.x (.str dn),.x (.sl (rows ZK a))]] [JF L M m B] (.tup [.agg [.x (.sl (rows Zz T)),.x (.sl (rows YW C)),.x (.sl (rows ZZ (ZCv (ZFY (Zp T) (YE C) l dn a) l dn a)))],.x (.bool (decide (Qx L M m dn a=ZFY (Zp T) (YE C) l dn a)))]) [JF L M (Kl (Qx L M m dn a) m dn a) (ZA5 (Qx L M m dn a) B dn)]:=by
 have hul:ZM ZZ (rows ZZ l)=some l:=ZS YD l;have hua:ZM ZK (rows ZK a)=some a:=ZS Zf a;have hu1:=ZD1 T;have hu2:=ZEq C;have hut:=ZKC L M m B;have c1:=ZI h;have c2:=ZI hk;have hO: [JF L M m B].all (Ob.inP (λi=>decide (i< [JF L M m B].length)))=true:=rfl;refine ZF.mcallsX (fC 20 true ?_) WS hO Vk;intro C0 E0;have uu:=ξ9 @ZR5.eq_1 @ZRQ.eq_1 @ZRQ.eq_2 hul hua hu1 hu2 hut (YB @c1 @c2);have tT:=aT (aQ ZB ZYR) Zdj;refine GA ?_;refine ct (λh0=> ?_) (λh0=> ?_)
 .refine rg [0,5,6,8,9] ?_;refine WI.dregY tT [1003] [6,7] ?_;refine xRG ?_;exact Vo
 .simp at h0
end Go.Proofs.YtiogclkbccdefaaGreatDoor
end
