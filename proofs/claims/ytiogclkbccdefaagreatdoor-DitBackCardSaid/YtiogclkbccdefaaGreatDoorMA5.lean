import Derived.Test.YtiogclkbccdefaaGreatDoorMA4
import Derived.Test.YtiogclkbccdefaaGreatDoorMA3
import Derived.Test.YtiogclkbccdefaaGreatDoorMA1
set_option linter.unusedSimpArgs false
set_option linter.unusedVariables false
set_option maxRecDepth 100000
theorem Wh{p:Prop}(h:p:=by first|exact⟨⟨i+1,true,acc++ [e]++ [x],by first|rfl|(simp only[ZW,QM];first|done|rfl),by rw[<-Jk,<-Jk];first|done|rfl,J0,by first|omega|(simp only[ZW,QM];omega),by rw[hp,hst,hh,if_neg hx];simp⟩,Wa⟩|exact⟨⟨i+1,true,acc++ [e],by first|rfl|(simp only[ZW,QM];first|done|rfl),by rw[<-Jk];first|done|rfl,J0,by first|omega|(simp only[ZW,QM];omega),by rw[hp,hst,hh,if_pos hx];simp⟩,Wa⟩|exact⟨⟨i+1,d,acc++ [x],by first|rfl|(simp only[ZW,QM];first|done|rfl),by rw[<-Jk];first|done|rfl,J0,by first|omega|(simp only[ZW,QM];omega),by rw[hp,hst,hh,if_neg hx];simp⟩,Wa⟩|exact⟨⟨i+1,d,acc,by first|rfl|(simp only[ZW,QM];first|done|rfl),rfl,J0,by first|omega|(simp only[ZW,QM];omega),by rw[hp,hst,hh,if_pos hx];simp⟩,Wa⟩):p:=h
theorem Wx{p:Prop}(h:p:=by first|exact se|(exact ZI J0)|(rw[Zk,Zk];exact⟨ZI J0,ZI J0,ZI hvj⟩)|exact sd):p:=h
theorem Vb{p:Prop}(h:p:=by first|exact se|(clear uu;simp only[ZW,JB,ξN,Ym];omega)|exact sd):p:=h
theorem V7{p:Prop}(h:p:=by clear uu;simpa using h1):p:=h
theorem VI{p:Prop}(h:p:=by first|exact⟨⟨i+1,acc++ [x.1],by rw[ZW,QM];first|done|rfl,by rw[<-ZEc];first|done|rfl,J0,by rw[ZW,QM];omega,by rw[hst,<-hp,if_pos hx]⟩,Wa⟩|exact⟨⟨i+1,acc,rfl,rfl,J0,J0,by rw[hst,<-hp,if_neg hx,Ks]⟩,Wa⟩):p:=h
theorem Ue{p:Prop}(h:p:=by refine Jf ?_;refine ZA ?_;refine WI.regB ZB [0,3,5,6,7,8,9] ?_;refine Vm ?_;refine Va ?_;exact⟨⟨j+1,by rw[hst];first|done|rfl|(rw[ZW];rfl),by rw[hst];first|done|rfl|(rw[<-ZLj]),J0⟩,Wa⟩):p:=h
theorem Um{A B:Prop}(hZ:A)(k:Go.Ab.Bx A->B:=by(intro hZ;refine WI.pickA [0,1] ?_;refine WI.orderA [0,3,5,6,7] ?_;refine rg [0,3,5,6,7] ?_;exact hZ.h)):B:=k ⟨hZ⟩
theorem Uu{p:Prop}(h:p:=by first|exact se|(simp only[ZW,JB,ξN,ZP,Ys,Zk,Ym,Je,true_and];omega)|exact sd):p:=h
theorem U1{p:Prop}(h:p:=by refine WI.pickA [0,1,2,3] ?_;refine WI.orderA [2,3,6,7,8,9] ?_;refine rg [2,3,6,7,8,9] ?_;exact⟨⟨i+1,by rw[hnt,hct,ZW];first|done|rfl,by rw[hnt,ZCr],J0⟩,Wa⟩):p:=h
theorem UT{p:Prop}(h:p:=by refine Wf ?_;refine WI.regB tT [0,3,4] ?_;refine oS ?_;refine oG (hok:=Vb) ?_;refine Wf ?_;exact⟨⟨j+1,by rw[hst];first|done|rfl,rfl,J0⟩,Wa⟩):p:=h
theorem Tk{p:Prop}(h:p:=by clear uu;simpa using h2):p:=h
theorem Gb{p:Prop}(h:p:=by clear uu;simpa using h0):p:=h
theorem Gh{A B:Prop}(hZ:A)(k:Go.Ab.Bx A->B:=by(intro hZ;refine Zb (hok:=Wx) ?_;refine ZU ?_;refine Zb (hok:=Wx) ?_;exact hZ.h)):B:=k ⟨hZ⟩
theorem Gp{p:Prop}(h:p:=by unfold ZF;rw[e,List.find?_append,h0,Option.none_or,List.find?_cons_of_pos (by simpa using he.symm)];rfl):p:=h
theorem G2{p:Prop}(h:p:=by refine WN ?_;subst hres;rfl):p:=h
theorem Ni{A B:Prop}(hZ:A)(k:Go.Ab.Bx A->B:=by(intro hZ;refine WE ?_;refine Td ?_;refine dQC ?_;refine ZU ?_;exact hZ.h)):B:=k ⟨hZ⟩
theorem Nk{p:Prop}(h:p:=by rw[show l.getD (ZZ l n) ([],[],())=l[ZZ l n] by simp[hk]];exact YG hk):p:=h
theorem Nn{p:Prop}(h:p:=by clear uu;simpa using h4):p:=h
theorem NO{p:Prop}(h:p:=by obtain⟨t,_,l,hl⟩:=h.walkRev k s x hx;exact⟨YL t::l,by rw[hl,hr,Yw];rfl⟩):p:=h
section
namespace Go.Proofs.YtiogclkbccdefaaGreatDoor
open Go.RowKit Go.Bo Go.Ab
def ZDM(s:Tx):Nat:=(Zv s).length
theorem ZHS{s:Tx}(h:JG s=true):ZDM s=ZDM (YB s)+1/\ZDM s<=32:=by
 obtain⟨r,d,hd,h1,h2⟩:=ZIS h;have h3:=(ZEC hd.chk).1;unfold ZDM;rw[h2,hd.parts,hd.tail.parts];simp at h3|-;omega
structure InvT (m:EM) (B:BM):Prop where
 ln:m.length<=1024
 kn:(m.map (·.1)).Nodup
 key: ∀p∈m,p.2.1=p.1/\JG p.1=true/\QD p.2.2.1
 par: ∀s∈m.map (·.1),YB s= []\/YB s∈m.map (·.1)
 bn:(B.map (·.1)).Nodup
 so: ∀b∈B,SoL b.2
 row: ∀p s,s∈YJ B p↔s∈m.map (·.1)/\YB s=p
theorem ZeO:InvT [] []:=⟨J1,.nil,J1,J1,.nil,J1,λp s=>by simp[YJ,ZF]⟩
theorem ZYB{l:List Tx}(h:SoL l):l.Nodup:=h.imp λ{a b} hab e=>by rw[e,bl_irr]at hab;cases hab
theorem ZG2{α:Type}[DecidableEq α]: ∀(l l':List α),l.Nodup->(∀x∈l,x∈l')->l.length<=l'.length
 | [],_,_,_=>TC
 |x::l,l',hn,hs=>by
  have h0:=hs x J1;have ih:=ZG2 l (l'.erase x) (ZBE.1 hn).2 (λy hy=>(List.mem_erase_of_ne (λe=>(ZBE.1 hn).1 (by rw[<-e];exact hy))).2 (hs y (ξW _ hy)));rw[List.length_erase_of_mem h0]at ih;have:=List.length_pos_of_mem h0;rw[JB];omega
section
variable {m:EM} {B:BM}
theorem InvT.has(h:InvT m B){s:Tx}(hs:s∈m.map (·.1)):JG s=true:=by
 obtain⟨p,hp,rfl⟩:=YR.1 hs;exact(h.key p hp).2.1
theorem ZZu{B:BM}(hn:(B.map (·.1)).Nodup){b:Tx×List Tx}(hb:b∈B):YJ B b.1=b.2:=by
 unfold YJ;rw[ZEO hn (k:=b.1) (v:=b.2) hb];rfl
theorem InvT.rowNd(h:InvT m B)(p:Tx):(YJ B p).Nodup:=by
 unfold YJ;cases e:ZF B p with
 |none=>exact ZTF
 |some l=>exact ZYB (h.so _ (JS e))
theorem InvT.rowSo(h:InvT m B)(p:Tx):SoL (YJ B p):=by
 unfold YJ;cases e:ZF B p with
 |none=>exact .nil
 |some l=>exact h.so _ (JS e)
theorem InvT.rowLe(h:InvT m B)(p:Tx):(YJ B p).length<=1024:=by
 have:=ZG2 _ _ (h.rowNd p) (λx hx=>((h.row p x).1 hx).1);rw[YZ]at this;have:=h.ln;omega
theorem InvT.ok(h:InvT m B):okT m B:=by
 refine⟨h.bn,λb hb=>⟨h.so b hb,?_⟩,λp hp=>(h.key p hp).2.2,by have:=h.ln;omega⟩;have:=h.rowLe b.1;rw[ZZu h.bn hb]at this;omega
theorem InvT.up(h:InvT m B){p s:Tx}(hs:s∈YJ B p):YB s=p/\ZDM s=ZDM p+1/\ZDM s<=32/\s∈m.map (·.1):=by
 obtain⟨h1,h2⟩:=(h.row p s).1 hs;have:=ZHS (h.has h1);exact⟨h2,by rw[<-h2];exact this.1,this.2,h1⟩
theorem InvT.deep(h:InvT m B): ∀(k:Nat) (n:Tx),33<=ZDM n+k->deep B k n
 |0,n,hk=>by
  refine Zal.2 λs hs=> ?_
  have:=h.up hs;omega
 |k+1,n,hk=>λs hs=>h.deep k s (by have:=(h.up hs).2.1;omega)
def ZQo:Nat->Tx->Tx
 |0,x=>x
 |j+1,x=>YB (ZQo j x)
theorem InvT.walkUp(h:InvT m B): ∀(k:Nat) (n x:Tx),x∈JO B k n-> ∃j,x∈m.map (·.1)/\ZQo (j+1) x=n/\ZDM x=ZDM n+j+1
 |0,n,x,hx=>by cases hx
 |k+1,n,x,hx=>by
  obtain⟨s,hs,hx⟩:=ZH3.1 hx;have hu:=h.up hs;rcases Kn.1 hx with rfl|hx
  .exact⟨0,hu.2.2.2,hu.1,J0⟩
  .obtain⟨j,h1,h2,h3⟩:=h.walkUp k s x hx;exact⟨j+1,h1,by show YB (ZQo (j+1) x)=n;rw[h2];exact hu.1,J0⟩
theorem InvT.walkNd(h:InvT m B): ∀(k:Nat) (n:Tx),(JO B k n).Nodup
 |0,n=>ZTF
 |k+1,n=>by
  refine List.pairwise_flatMap.2 ⟨λs hs=>ZBE.2 ⟨λhx=> ?_,h.walkNd k s⟩,?_⟩
  .obtain⟨j,_,_,h3⟩:=h.walkUp k s s hx;omega
  .have hself: ∀s∈YJ B n,∀x∈s::JO B k s,∃i,ZQo i x=s/\ZDM x=ZDM n+1+i:=λs hs x hx=>by
    have hu:=h.up hs;rcases Kn.1 hx with rfl|hx
    .exact⟨0,rfl,J0⟩
    .obtain⟨j,_,h2,h3⟩:=h.walkUp k s x hx;exact⟨j+1,h2,J0⟩
   refine(ZE8.2 λi j hi hj hij=> ?_);intro x hx y hy e;subst e;obtain⟨a,ha,ha2⟩:=hself _ (YG hi) x hx;obtain⟨b,hb,hb2⟩:=hself _ (YG hj) x hy;obtain rfl:a=b:=Wl
   have:=(ZE8.1 (h.rowNd n)) i j hi hj hij;exact this (ha.symm.trans hb)
theorem ZZA{k:Nat}: ∀ {n y x:Tx},y∈JO B k n->x∈YJ B y->x∈JO B (k+1) n:=by
 induction k with
 |zero=>intro n y x hy _;cases hy
 |succ k ih=>
  intro n y x hy hx;obtain⟨s,hs,hy⟩:=ZH3.1 hy;refine ZH3.2 ⟨s,hs,ξW _ ?_⟩;rcases Kn.1 hy with rfl|hy
  .exact ZH3.2 ⟨x,hx,ZAw ..⟩
  .exact ih hy hx
theorem InvT.walkAll(h:InvT m B): ∀(k:Nat) (x:Tx),x∈m.map (·.1)->ZDM x<=k->x∈JO B k []
 |0,x,hx,hk=>by have:=ZHS (h.has hx);omega
 |k+1,x,hx,hk=>by
  have hp:=ZHS (h.has hx);rcases h.par x hx with h1|h1
  .exact ZH3.2 ⟨x,(h.row [] x).2 ⟨hx,h1⟩,ZAw ..⟩
  .exact ZZA (h.walkAll k _ h1 J0) ((h.row _ x).2 ⟨hx,rfl⟩)
theorem InvT.walkMem(h:InvT m B)(x:Tx):x∈JO B 40 []↔x∈m.map (·.1):=
 ⟨λhx=>(h.walkUp 40 [] x hx).elim λj hj=>hj.1,λhx=>h.walkAll 40 x hx (by have:=(ZHS (h.has hx)).2;omega)⟩
theorem InvT.walkLen(h:InvT m B):(JO B 40 []).length=m.length:=by
 have h1:=ZG2 _ _ (h.walkNd 40 []) (λx hx=>(h.walkMem x).1 hx);have h2:=ZG2 _ _ h.kn (λx hx=>(h.walkMem x).2 hx);rw[YZ]at h1 h2;omega
theorem InvT.okWn(h:InvT m B)(n:Tx):okW 40 m B n:=by
 refine⟨h.ok,(ZKG B 40 n).2 (h.deep 40 n J0),?_⟩;have h1:=ZG2 _ _ (h.walkNd 40 n) (λx hx=>(h.walkUp 40 n x hx).elim λj hj=>hj.1);rw[YZ]at h1;have:=h.ln;omega
theorem ZMP(A:List (Tx×Zc))(k:Tx)(v:Zc)(x:Tx):x∈(Zu A k v).map (·.1)↔x=k\/x∈A.map (·.1):=by
 have h1:x∈(Zu A k v).map (·.1)↔ZF (Zu A k v) x≠none:=by rw[Ne,Jy];simp
 have h2:x∈A.map (·.1)↔ZF A x≠none:=by rw[Ne,Jy];simp
 rw[h1,h2,ZFo];by_cases e:x=k
 .simp[e]
 .simp[e]
theorem ZPi(B:BM)(k:Tx)(l:List Tx)(p:Tx):YJ (Zu B k l) p=if p=k then l else YJ B p:=by
 unfold YJ;rw[ZFo];split<;>rfl
theorem ZJ8{β:Type}{A:List (Tx×β)}(h:(A.map (·.1)).Nodup)(k:Tx)(v:β):((Zu A k v).map (·.1)).Nodup:=by
 refine((ZBz A k v).map _).nodup_iff.2 (ZBE.2 ⟨?_,mdel_nodup h k⟩);rw[<-Jy,ZHE _ _ h,if_pos rfl]
theorem InvT.addOk(h:InvT m B){dn:Tx}{e:Zc}(he:e.1=dn)(hs:JG dn=true)(hn:ZF m dn=none)(hp:YB dn= []\/(ZF m (YB dn)).isSome=true)(hl:m.length<1024)(hsm:QD e.2.1):
  InvT (Zu m dn e) (Zu B (YB dn) (ZFM (YJ B (YB dn)) dn)):=by
 have hnk:dn∉m.map (·.1):=Jy.1 hn;refine⟨?_,ZJ8 h.kn _ _,λp hp=> ?_,λs hs2=> ?_,ZJ8 h.bn _ _,λb hb=> ?_,λp s=> ?_⟩
 .rw[ZBR hn,ZW,QM];omega
 .rw[ZBR hn]at hp;rcases KV.1 hp with hp|hp
  .exact h.key p hp
  .obtain rfl:=Qf.1 hp;exact⟨he,hs,hsm⟩
 .rw[ZMP]at hs2|-;rcases hs2 with rfl|hs2
  .refine hp.imp id λh1=> .inr ?_
   exact ZHo λh2=>by rw[Jy.2 h2]at h1;cases h1
  .exact(h.par s hs2).imp id .inr
 .have hm:=(ZBz B (YB dn) (ZFM (YJ B (YB dn)) dn)).mem_iff.1 hb;rcases Kn.1 hm with rfl|hm
  .refine ZeJ (h.rowSo _) dn λx hx e=> ?_
   obtain⟨h1,h2⟩:=(h.row _ x).1 hx;exact hnk (by rw[<-ZSF (h.has h1) hs e h2];exact h1)
  .exact h.so b ((ZA2 B _).mem hm)
 .rw[ZPi,ZMP];split
  .rename_i e;subst e;rw[Zc9,h.row];constructor
   .rintro(rfl|⟨h1,h2⟩)
    .exact⟨.inl rfl,rfl⟩
    .exact⟨.inr h1,h2⟩
   .rintro⟨rfl|h1,h2⟩
    .exact .inl rfl
    .exact .inr ⟨h1,h2⟩
  .rename_i e;rw[h.row];constructor
   .rintro⟨h1,h2⟩;exact⟨.inr h1,h2⟩
   .rintro⟨rfl|h1,h2⟩
    .exact absurd h2.symm e
    .exact⟨h1,h2⟩
theorem InvT.add(h:InvT m B)(L:List (Tx×Zd))(M:List (Tx×Zo))(dn:Tx)(l:List ZN)(hs:QD (Zg l)):InvT (ZAj (Kf L M m dn l) m dn l) (QT (Kf L M m dn l) B dn):=by
 by_cases h0:Kf L M m dn l=0
 .unfold ZAj QT;rw[if_pos h0,if_pos h0];unfold Kf at h0;split at h0
  .cases h0
  .rename_i h1;split at h0
   .cases h0
   .rename_i h2;split at h0
    .cases h0
    .rename_i h3;split at h0
     .rename_i h4;exact absurd h0 h4
     .split at h0
      .cases h0
      .rename_i h5;refine h.addOk rfl WC U9 ?_ J0 hs;by_cases e:YB dn= []
       .exact .inl e
       .right;cases e2:(ZF m (YB dn)).isSome
        .exact absurd ⟨e2,e⟩ h3
        .rfl
 .unfold ZAj QT;rw[if_neg h0,if_neg h0];exact h
theorem InvT.delOk(h:InvT m B){n:Tx}{v:Zc}(hv:ZF m n=some v)(h0:YJ B n= []):InvT (Zh m n) (Zu (Zh B n) (YB n) (KJ (YJ (Zh B n) (YB n)) n)):=by
 have hn:n∈m.map (·.1):=YR.2 ⟨_,JS hv,rfl⟩;have hpn:=ZRc (h.has hn);have hk: ∀x,x∈(Zh m n).map (·.1)↔x∈m.map (·.1)/\x≠n:=λx=>by
  have h1:x∈(Zh m n).map (·.1)↔ZF (Zh m n) x≠none:=by rw[Ne,Jy];simp
  have h2:x∈m.map (·.1)↔ZF m x≠none:=by rw[Ne,Jy];simp
  rw[h1,h2,ZHE _ _ h.kn];by_cases e:x=n
  .simp[e]
  .simp[e]
 have hr: ∀p,YJ (Zh B n) p=if p=n then []else YJ B p:=λp=>by
  unfold YJ;rw[ZHE _ _ h.bn];split<;>rfl
 refine⟨?_,mdel_nodup h.kn _,λp hp=>h.key p ((ZA2 m _).mem hp),λs hs=> ?_,ZJ8 (mdel_nodup h.bn _) _ _,λb hb=> ?_,λp s=> ?_⟩
 .have:=Zfa m n;have:=h.ln;omega
 .rw[hk]at hs|-;refine(h.par s hs.1).imp id λh1=>⟨h1,λe=> ?_⟩
  have:s∈YJ B n:=(h.row n s).2 ⟨hs.1,e⟩;rw[h0]at this;cases this
 .rcases Kn.1 ((ZBz (Zh B n) (YB n) (KJ (YJ (Zh B n) (YB n)) n)).mem_iff.1 hb)with rfl|hb
  .rw[hr,if_neg hpn];exact(h.rowSo (YB n)).filter _
  .exact h.so b ((ZA2 B _).mem ((ZA2 _ _).mem hb))
 .rw[ZPi,hk];split
  .rename_i e;subst e;rw[hr,if_neg hpn];unfold KJ;rw[ZWh,h.row];simp only[ZGo,beq_eq_false_iff_ne,ne_eq];exact⟨λ⟨⟨a,b⟩,c⟩=>⟨⟨a,c⟩,b⟩,λ⟨⟨a,c⟩,b⟩=>⟨⟨a,b⟩,c⟩⟩
  .rename_i e;rw[hr];split
   .rename_i e2;subst e2;refine⟨λh=>W6,λ⟨⟨a,_⟩,b⟩=> ?_⟩;have:s∈YJ B p:=(h.row p s).2 ⟨a,b⟩;rw[h0]at this;cases this
   .rw[h.row];refine⟨λ⟨a,b⟩=>⟨⟨a,λe3=> ?_⟩,b⟩,λ⟨⟨a,_⟩,b⟩=>⟨a,b⟩⟩;subst e3;exact e b.symm
theorem InvT.del(h:InvT m B)(n:Tx):InvT (ZDi (ZBV m B n) m n) (ZCK (ZBV m B n) B n):=by
 by_cases h0:ZBV m B n=0
 .unfold ZDi ZCK;rw[if_pos h0,if_pos h0];unfold ZBV at h0;split at h0
  .cases h0
  .rename_i h1;split at h0
   .cases h0
   .rename_i h2;obtain⟨v,hv⟩:=Za3.1 (show(ZF m n).isSome=true from by
     cases e:(ZF m n).isSome
     .exact absurd e h1
     .rfl)
    exact h.delOk hv (ZHq.1 h2)
 .unfold ZDi ZCK;rw[if_neg h0,if_neg h0];exact h
theorem InvT.okDn(h:InvT m B)(n:Tx):okD m B n:=by
 refine⟨h.ok,λh1 h2=> ?_⟩;obtain⟨v,hv⟩:=Za3.1 h1;have hn:n∈m.map (·.1):=YR.2 ⟨_,JS hv,rfl⟩;exact⟨(h.row _ n).2 ⟨hn,rfl⟩,ZRc (h.has hn)⟩
end
def ZA3:List Tx->List Tx->Bool
 |_,[]=>false
 | [],_::_=>true
 |p::a,q::b=>if p=q then ZA3 a b else Op.bytesLess p q
def ZE6(s:Tx):List Tx:=(Zv s).reverse
def bef(a b:Tx):Bool:=ZA3 (ZE6 a) (ZE6 b)
theorem ZSz: ∀a,ZA3 a a=false
 | []=>rfl
 |p::a=>by rw[ZA3,if_pos rfl,ZSz a]
theorem ZTA: ∀(a:List Tx) (x:Tx) (l:List Tx),ZA3 a (a++x::l)=true
 | [],_,_=>rfl
 |p::a,x,l=>by rw[ξX,ZA3,if_pos rfl,ZTA a x l]
theorem ZRr: ∀(c:List Tx) (p q:Tx) (a b:List Tx),p≠q->ZA3 (c++p::a) (c++q::b)=Op.bytesLess p q
 | [],p,q,a,b,h=>by rw[QW,QW,ZA3,if_neg h]
 |x::c,p,q,a,b,h=>by rw[ξX,ξX,ZA3,if_pos rfl,ZRr c p q a b h]
theorem ZIy: ∀a b c:List Tx,ZA3 a b=true->ZA3 b c=true->ZA3 a c=true
 | [],[],_,h,_=>W6
 |_::_,[],_,h,_=>W6
 |_,_::_,[],_,h=>W6
 | [],q::b,r::c,_,_=>rfl
 |p::a,q::b,r::c,h1,h2=>by
  rw[ZA3]at h1 h2|-;by_cases e1:p=q
  .subst e1;rw[if_pos rfl]at h1;by_cases e2:p=r
   .subst e2;rw[if_pos rfl]at h2|-;exact ZIy a b c h1 h2
   .rw[if_neg e2]at h2|-;exact h2
  .rw[if_neg e1]at h1;by_cases e2:q=r
   .subst e2;rw[if_neg e1];exact h1
   .rw[if_neg e2]at h2;have h3:=bl_trans _ _ _ h1 h2;rw[if_neg (λe=>by subst e;rw[bl_irr]at h3;cases h3)];exact h3
theorem ZTl: ∀a b:List Tx,a≠b->ZA3 a b=true\/ZA3 b a=true
 | [],[],h=>absurd rfl h
 | [],_::_,_=> .inl rfl
 |_::_,[],_=> .inr rfl
 |p::a,q::b,h=>by
  rw[ZA3,ZA3];by_cases e:p=q
  .subst e;rw[if_pos rfl,if_pos rfl];exact ZTl a b (λe=>h (by rw[e]))
  .rw[if_neg e,if_neg (λe2=>e e2.symm)];exact bl_tot p q e
theorem Zc0{s t:Tx}(h1:JG s=true)(h2:JG t=true)(h:ZE6 s=ZE6 t):s=t:=by
 have hp:Zv s=Zv t:=by have:=congrArg List.reverse h;simpa[ZE6]using this
 exact ZSF h1 h2 (by unfold YL;rw[hp]) (by unfold YB;rw[hp])
theorem ZS6{s:Tx}(h:JG s=true):ZE6 s=ZE6 (YB s)++ [YL s]:=by
 obtain⟨r,d,hd,h1,h2⟩:=ZIS h;unfold ZE6;rw[h2,hd.tail.parts,hd.parts,h1];simp
section
variable {m:EM} {B:BM}
theorem InvT.walkRev(h:InvT m B): ∀(k:Nat) (n x:Tx),x∈JO B k n-> ∃s∈YJ B n,∃l,ZE6 x=ZE6 n++YL s::l
 |0,n,x,hx=>by cases hx
 |k+1,n,x,hx=>by
  obtain⟨s,hs,hx⟩:=ZH3.1 hx;have hu:=h.up hs;have hr:=ZS6 (h.has hu.2.2.2);rw[hu.1]at hr;refine⟨s,hs,?_⟩;rcases Kn.1 hx with rfl|hx
  .exact⟨[],hr⟩
  .exact NO
theorem InvT.sorted(h:InvT m B): ∀(k:Nat) (n:Tx),(JO B k n).Pairwise λa b=>bef a b=true
 |0,n=>List.Pairwise.nil
 |k+1,n=>by
  have hself: ∀s∈YJ B n,∀x∈s::JO B k s,∃l,ZE6 x=ZE6 n++YL s::l:=λs hs x hx=>by
   have hu:=h.up hs;have hr:=ZS6 (h.has hu.2.2.2);rw[hu.1]at hr;rcases Kn.1 hx with rfl|hx
   .exact⟨[],hr⟩
   .exact NO
  refine List.pairwise_flatMap.2 ⟨λs hs=>ZFv.2 ⟨λx hx=> ?_,h.sorted k s⟩,?_⟩
  .obtain⟨t,_,l,hl⟩:=h.walkRev k s x hx;unfold bef;rw[hl];exact ZTA _ _ _
  .refine ZE8.2 λi j hi hj hij=> ?_
   intro x hx y hy;obtain⟨a,ha⟩:=hself _ (YG hi) x hx;obtain⟨b,hb⟩:=hself _ (YG hj) y hy;have hlt:=ZE8.1 (h.rowSo n) i j hi hj hij;unfold bef;rw[ha,hb,ZRr _ _ _ _ _ (λe=>by rw[e,bl_irr]at hlt;cases hlt)];exact hlt
end
theorem ZRq: ∀(l l':List Tx),(∀x∈l,JG x=true)->l.Pairwise (λa b=>bef a b=true)->l'.Pairwise (λa b=>bef a b=true)->(∀x,x∈l↔x∈l')->l=l'
 | [],l',_,_,_,h=>by
  cases l' with
  |nil=>rfl
  |cons y l'=>exact absurd ((h y).2 J1) J1
 |x::l,[],_,_,_,h=>absurd ((h x).1 J1) J1
 |x::l,y::l',h0,h1,h2,h=>by
  have irr: ∀a,bef a a=true->False:=λa ha=>by unfold bef at ha;rw[ZSz]at ha;cases ha
  obtain⟨p1,p2⟩:=ZFv.1 h1;obtain⟨q1,q2⟩:=ZFv.1 h2;have e:x=y:=by
   rcases Kn.1 ((h x).1 J1)with e|e
   .exact e
   .rcases Kn.1 ((h y).2 J1)with e2|e2
    .exact e2.symm
    .exact(irr _ (ZIy _ _ _ (p1 y e2) (q1 x e))).elim
  subst e;rw[ZRq l l' (λz hz=>h0 z (ξW _ hz)) p2 q2 (λz=>⟨λhz=> ?_,λhz=> ?_⟩)]
  .rcases Kn.1 ((h z).1 (ξW _ hz))with e|e
   .subst e;exact(irr _ (p1 _ hz)).elim
   .exact e
  .rcases Kn.1 ((h z).2 (ξW _ hz))with e|e
   .subst e;exact(irr _ (q1 _ hz)).elim
   .exact e
theorem ZcT(s:Tx):ZK Tryz.prog 57 [.x (.str s)] (.tup [.x (.sl (rows ZC (Zv s))),.x (.bool (okS s))]):=by
 obtain⟨d,hd⟩: ∃d,(YX s).1=d:=⟨_,rfl⟩;refine ZH.pure (fC 57 true ?_) rfl;intro C0 E0;have uu:=Qt @ZN5.eq_1 @ZH8.eq_1 @ZNX.eq_1 hd;have tT:=aQ (aQ (aQ ZB ZPl) ZIm) ZP9;refine rg [0] ?_;refine rg [0,4,5] ?_;refine rg [0,21] ?_;refine cd (λh0=> ?_) (λh0=> ?_)
 .have hok:okS s=false:=NE
  have hpp:Zv s= []:=by unfold Zv;rw[hok];rfl
  refine W5 ?_;rw[hok,hpp];rfl
 .have hno:JW s=(s,0):=by
   have h1:(JW s).2=0/\(JW s).1=s:=Wv
   exact ZCE h1.2 h1.1
  have hok:okS s=true:=ZI hno;obtain⟨d',hn⟩:=ZYR hok;obtain rfl:d'=d:=by rw[<-hd,hn.rd]
  have hpp:=hn.parts;obtain⟨hd32,hmay⟩:=ZEC hn.chk;refine rg [6] ?_;refine rg [6,8] ?_;refine rg [6,8,9] ?_;refine WI.ownA 8 9 1 ?_;refine WI.loop (λφ os=> ∃(j:Nat),φ= [(6,.x (.sl (rows Jg d'))),(8,.ref 0 j 0 j),(9,.x (.int .i64 j))]/\os= [.rows false 9 1 (rows ZC ((d'.take j).map JD))]/\j<=d'.length) (ZJ d'.length 9) ?_ (λφ os hI=> ?_)
  .exact Vf
  .obtain⟨j,rfl,rfl,hj⟩:=hI;refine rg [6,8,9,30] ?_;refine cd (λh1=> ?_) (λh1=> ?_)
   .have hj4:j<d'.length:=Wl
    have hrow:=ZEz d' j hj4;have hmj:=hmay (d'.getD j []) (by rw[show d'.getD j []=d'[j] by simp[hj4]];exact YG hj4);have hst:(d'.take (j+1)).map JD=(d'.take j).map JD++ [JD (d'.getD j [])]:=by rw[JU hj4,Jd,show d'.getD j []=d'[j] by simp[hj4]];rfl
    have hln:(rows ZC ((d'.take j).map JD)).length=j:=by rw[ZP,YZ,Ys];omega
    generalize d'.getD j []=r at hrow hmj hst;have hua:ZM Zt (rows Zt r)=some r:=ZX ZEE r;have uu:=ξ5 uu hrow hmj hua hln;refine rg [6,8,9] ?_;refine WI.pickA [0] ?_;refine rg [6,8,9] ?_;exact⟨⟨j+1,rfl,by rw[hst,<-ZEc];first|done|rfl,J0⟩,Wa⟩
   .obtain rfl:j=d'.length:=Wl
    rw[JX,<-hpp];have hln2:(rows ZC (Zv s)).length=d'.length:=by rw[hpp,ZP,YZ]
    have htk:(rows ZC (Zv s)).take d'.length=rows ZC (Zv s):=by rw[<-hln2,JX]
    have uu:=JJ uu hln2 htk;refine W5 ?_;rw[hok]
def ZFH:J8->J5
 | [.x (.str s)]=>some (true,.tup [.x (.sl (rows ZC (Zv s))),.x (.bool (okS s))])
 |_=>none
theorem ZEW:QK Tryz.prog ZFH 57:=by
 intro args r h;unfold ZFH at h;split at h
 .obtain rfl:=Qv h;exact(ZcT _)
 .cases h
theorem ZcD(l:List Tx)(hl:l.length<=32)(hb: ∀x∈l,x.length<=4096):ZK Tryz.prog 58 [.x (.sl (rows ZC l))] (.x (.str (Qi 44 l))):=by
 refine ZH.pure (fC 58 true ?_) rfl;intro C0 E0;have uu:=trivial;have tT:=(ZB:SsOk Tryz.prog YH);refine Uc ?_;refine WI.regB tT [0,3,4] ?_;refine Wf ?_;refine WI.loop (λφ os=> ∃(j:Nat),φ= [(0,.x (.sl (rows ZC l))),(3,.x (.str (Qi 44 (l.take j)))),(4,.x (.int .i64 j))]/\os= []/\j<=l.length) (ZJ l.length 4) ?_ (λφ os hI=> ?_)
 .exact Vf
 .obtain⟨j,rfl,rfl,hj⟩:=hI;refine nz ?_;refine WI.regB tT [0,3,4,8] ?_
  refine Wn ?_
  iterate 2 refine oG (hok:=Vb) ?_
  refine Vy ?_;refine cd (λh0=> ?_) (λh0=> ?_)
  .have hj4:j<l.length:=Wl
   have hrow:(rows ZC l)[j]? =some [X.str (l.getD j [])]:=by simp[rows,hj4,ZC]
   have hrl:=ZP ZC l;have hxl:=hb (l.getD j []) TP;have hjl:=ZFD 44 4096 (l.take j) (λx hx=>hb x (ZBU hx));rw[Ys]at hjl;have hst0:l.take (j+1)=l.take j++ [l.getD j []]:=by rw[JU hj4,show l.getD j []=l[j] by simp[hj4]]
   generalize l.getD j []=x at hrow hst0 hxl;have uu:=JJ uu hrow hrl;refine WI.regB tT [0,3,4,12] ?_;refine oS ?_;refine oG (hok:=Vb) ?_;refine Vy ?_;refine cd (λh1=> ?_) (λh1=> ?_)
   .have hst:Qi 44 (l.take (j+1))=Qi 44 (l.take j)++ [44]++x:=by
     rw[hst0,ZIv 44 _ _ (λe=>by have h9:=congrArg List.length e;rw[Ys,ξN]at h9;omega)]
    refine WI.regB tT [0,3,4] ?_;refine oS ?_;refine oG (hok:=Vb) ?_;refine Wf ?_;refine WI.regB tT [0,3,4] ?_;refine Wn ?_;refine oS ?_
    iterate 3 refine oG (hok:=Vb) ?_
    exact UT
   .have hst:Qi 44 (l.take (j+1))=Qi 44 (l.take j)++x:=by
     obtain rfl:j=0:=Wl
     rw[hst0];simp[Qi]
    refine WI.regB tT [0,3,4] ?_;refine Wn ?_;refine oS ?_
    iterate 3 refine oG (hok:=Vb) ?_
    exact UT
  .refine GR ?_;refine Uo ?_;obtain rfl:j=l.length:=Wl
   rw[JX]
def ZIR:J8->J5
 | [.x (.sl R)]=>(ZM ZC R).bind λl=>some (decide (l.length<=32)&&(decide (∀x∈l,x.length<=4096)),.x (.str (Qi 44 l)))
 |_=>none
theorem ZJX:QK Tryz.prog ZIR 58:=by
 intro args r h;unfold ZIR at h;split at h
 .obtain⟨l,rfl,i0⟩:=un ZO h;obtain⟨h1,h2,rfl⟩:=fn2 i0;exact(ZcD l h1 h2)
 .cases h
theorem ZXv(s:Tx):ZK Tryz.prog 27 [.x (.str s)] (.tup [.x (.str (YB s)),.x (.bool (JG s))]):=by
 obtain⟨hp1,hp2⟩:=ZC9 s;unfold YB JG;have hrl:=ZP ZC (Zv s);have hu:ZM ZC ((rows ZC (Zv s)).drop 1)=some ((Zv s).drop 1):=by rw[show(rows ZC (Zv s)).drop 1=rows ZC ((Zv s).drop 1) by simp[rows]];exact ZX ZO _
 have c1:decide (((Zv s).drop 1).length<=32)=true:=ZI T4;have c2:decide (∀x∈(Zv s).drop 1,x.length<=4096)=true:=ZI λx hx=>hp2 x (ZB8 hx)
 refine ZH.pure (fC 27 true ?_) rfl;intro C0 E0;have uu:=ξ6 @ZFH.eq_1 @ZIR.eq_1 hrl hu @c1 @c2;have tT:=aQ (aQ ZB ZEW) ZJX;refine rg [0] ?_;refine rg [4] ?_;refine rg [4,13] ?_;refine cd (λh0=> ?_) (λh0=> ?_)
 .have h9:Zv s= []:=by clear uu;exact ZWe.1 (by first|omega|simpa using h0)
  refine Vx ?_;rw[h9];rfl
 .have h9:Zv s≠ []:=by clear uu;intro e;rw[e]at h0;simp at h0
  refine Vx ?_;rw[ZI h9]
def ZMO:J8->J5
 | [.x (.str s)]=>some (true,.tup [.x (.str (YB s)),.x (.bool (JG s))])
 |_=>none
theorem ZUC:QK Tryz.prog ZMO 27:=by
 intro args r h;unfold ZMO at h;split at h
 .obtain rfl:=Qv h;exact(ZXv _)
 .cases h
theorem Zeg(s:Tx):ZK Tryz.prog 134 [.x (.str s)] (.tup [.x (.str (YL s)),.x (.bool (JG s))]):=by
 unfold YL JG;have hrl:=ZP ZC (Zv s);refine ZH.pure (fC 134 true ?_) rfl;intro C0 E0;have uu:=JJ @ZFH.eq_1 hrl @ZIR.eq_1;have tT:=aQ (aQ ZB ZEW) ZJX;refine rg [0] ?_;refine rg [4] ?_;refine rg [4,13] ?_;refine cd (λh0=> ?_) (λh0=> ?_)
 .have h9:Zv s= []:=by clear uu;exact ZWe.1 (by first|omega|simpa using h0)
  refine Vx ?_;rw[h9];rfl
 .have h9:Zv s≠ []:=by clear uu;intro e;rw[e]at h0;simp at h0
  have hrw:(rows ZC (Zv s))[0]? =some [X.str ((Zv s).headD [])]:=by
   obtain⟨x,l,e⟩:=List.exists_cons_of_ne_nil h9;rw[e];rfl
  have uu:=Zz uu hrw;refine Vx ?_;rw[ZI h9]
def ZTE:J8->J5
 | [.x (.str s)]=>some (true,.tup [.x (.str (YL s)),.x (.bool (JG s))])
 |_=>none
theorem ZaA:QK Tryz.prog ZTE 134:=by
 intro args r h;unfold ZTE at h;split at h
 .obtain rfl:=Qv h;exact(Zeg _)
 .cases h
theorem Zbf(s:Tx):ZK Tryz.prog 86 [.x (.str s)] (.x (.int .i64 (if okS s=true then((Zv s).length:Int)else-1))):=by
 have hrl:=ZP ZC (Zv s);refine ZH.pure (fC 86 true ?_) rfl;intro C0 E0;have uu:=JJ @ZFH.eq_1 hrl @ZIR.eq_1;have tT:=aQ (aQ ZB ZEW) ZJX;refine rg [0] ?_;refine rg [3,4] ?_;refine rg [3,11] ?_;refine cd (λh0=> ?_) (λh0=> ?_)
 .refine Wy ?_;rw[if_neg Gb]
 .refine Wy ?_;rw[if_pos Gb]
def ZOP:J8->J5
 | [.x (.str s)]=>some (true,.x (.int .i64 (if okS s=true then((Zv s).length:Int)else-1)))
 |_=>none
theorem ZWn:QK Tryz.prog ZOP 86:=by
 intro args r h;unfold ZOP at h;split at h
 .obtain rfl:=Qv h;exact(Zbf _)
 .cases h
theorem ZaF(x y:List Tx)(i:Nat)(hi:i<x.length)(hj:i<y.length):ZA3 (x.drop i) (y.drop i)=if x[i]=y[i]then ZA3 (x.drop (i+1)) (y.drop (i+1))else Op.bytesLess x[i] y[i]:=by
 rw[ξU hi,ξU hj,ZA3]
theorem ZcM(x y:List Tx)(i:Nat)(h1:i<=x.length)(h2:i<=y.length)(h: ¬(i<x.length/\i<y.length)):decide ((x.length:Int)<(y.length:Int))=ZA3 (x.drop i) (y.drop i):=by
 by_cases e:i=y.length
 .rw[ZBB (l:=y) J0,decide_eq_false J0];cases x.drop i<;>rfl
 .obtain rfl:i=x.length:=Wl
  rw[List.drop_length,ξU (show x.length<y.length by omega),ZI J0];rfl
theorem Zbu(a b:Tx):ZK Tryz.prog 169 [.x (.str a),.x (.str b)] (.x (.bool (bef a b))):=by
 have ha:=(ZC9 a).1;have hb:=(ZC9 b).1;have hla:=ZP ZC (Zv a);have hlb:=ZP ZC (Zv b);unfold bef ZE6;refine ZH.pure (fC 169 true ?_) rfl;intro C0 E0;have uu:=JJ @ZFH.eq_1 hla hlb;have tT:=aQ ZB ZEW;refine rg [0,1] ?_;refine rg [1,5] ?_;refine rg [5,7] ?_;refine rg [5,7,9] ?_;generalize Zv a=x at ha hla|-;generalize Zv b=y at hb hlb|-;refine WI.loop (λφ os=> ∃(i:Nat),φ= [(5,.x (.sl (rows ZC x))),(7,.x (.sl (rows ZC y))),(9,.x (.int .i64 i))]/\os= []/\i<=x.length/\i<=y.length/\ZA3 x.reverse y.reverse=ZA3 (x.reverse.drop i) (y.reverse.drop i)) (ZJ x.length 9) ?_ (λφ os hI=> ?_)
 .exact⟨0,rfl,rfl,J0,J0,rfl⟩
 .obtain⟨i,rfl,rfl,hi1,hi2,hbe⟩:=hI;refine rg [5,7,9,31] ?_;refine cd (λh0=> ?_) (λh0=> ?_)
  .have hi4:i<x.length/\i<y.length:=Wv
   have e1:((x.length:Int)-1-(i:Int)).toNat=x.length-1-i:=Wl
   have e2:((y.length:Int)-1-(i:Int)).toNat=y.length-1-i:=Wl
   have hi5:=hi4.1;have hi6:=hi4.2;have r1:(rows ZC x)[x.length-1-i]? =some [X.str (x.reverse[i]' W3)]:=by simp[rows,ZC,show x.length-1-i<x.length by omega]
   have r2:(rows ZC y)[y.length-1-i]? =some [X.str (y.reverse[i]' W3)]:=by simp[rows,ZC,show y.length-1-i<y.length by omega]
   have hst:=ZaF x.reverse y.reverse i W3 W3;generalize x.reverse[i]' W3=p at r1 hst;generalize y.reverse[i]' W3=q at r2 hst;have uu:=ξ5 uu e1 e2 r1 r2;refine WI.dregB tT [5,7,9,10,11] ?_
   refine Vd ?_;refine VK ?_;refine Vd ?_;refine VK ?_;refine Wo ?_;refine dN ?_;refine rg [5,7,9,10,11,52] ?_;refine cd (λh1=> ?_) (λh1=> ?_)
   .refine Wj ?_;rw[hbe,hst,if_neg V7]
   .refine rg [5,7,9] ?_;exact⟨⟨i+1,rfl,rfl,J0,J0,by rw[hbe,hst,if_pos V7]⟩,Wa⟩
  .refine Wj ?_;rw[hbe,<-ZcM x.reverse y.reverse i W3 W3 (by rw[ZcE,ZcE];clear uu;grind)];simp
def ZOY:J8->J5
 | [.x (.str a),.x (.str b)]=>some (true,.x (.bool (bef a b)))
 |_=>none
theorem ZWY:QK Tryz.prog ZOY 169:=by
 intro args r h;unfold ZOY at h;split at h
 .obtain rfl:=Qv h;exact(Zbu _ _)
 .cases h
theorem Jk(l:List Zc)(e:Zc):rows Zn l++ [[X.str e.1,X.sl (rows ZL e.2.1)]]=rows Zn (l++ [e]):=by simp[rows,Zn,JF,ZC,rSl,QV]
def ZDn(e:Zc)(d:Bool)(x:Zc):Bool:= !d&&(decide (x.1=e.1)||bef e.1 x.1)
def ZBT(e:Zc):Bool->List Zc->List Zc
 |d,[]=>if d then []else [e]
 |d,x::l=>(if ZDn e d x then [e]else [])++((if x.1=e.1 then []else [x])++ZBT e (d||ZDn e d x) l)
theorem ZOm(l:List Zc)(j:Nat)(h:j<l.length):(rows Zn l)[j]? =some [X.str (l.getD j ([],[],())).1,X.sl (rows ZL (l.getD j ([],[],())).2.1)]:=by
 simp[rows,h,Zn,JF,ZC,rSl,QV]
theorem ZXj(e:Zc)(l:List Zc)(i:Nat)(h:i<l.length)(d:Bool):ZBT e d (l.drop i)=(if ZDn e d (l.getD i ([],[],()))then [e]else [])++((if(l.getD i ([],[],())).1=e.1 then []else [l.getD i ([],[],())])++ZBT e (d||ZDn e d (l.getD i ([],[],()))) (l.drop (i+1))):=by
 rw[ξU h,ZBT,show l.getD i ([],[],())=l[i] by simp[h]]
set_option maxHeartbeats 4000000 in
theorem ZbV(l:List Zc)(e:Zc)(hl:l.length<=100000):ZK Tryz.prog 136 [.x (.sl (rows Zn l)),.agg [.x (.str e.1),.x (.sl (rows ZL e.2.1))]] (.x (.sl (rows Zn (ZBT e false l)))):=by
 have hrl:=ZP Zn l;refine ZH.pure (fC 136 true ?_) rfl;intro C0 E0;have uu:=Zz @ZOY.eq_1 hrl;have tT:=aQ ZB ZWY;refine rg [0,3] ?_;refine rg [0,3,5] ?_;refine rg [0,3,5,6] ?_;refine rg [0,3,5,6,7] ?_;refine WI.ownA 5 31 2 ?_;refine WI.loop (λφ os=> ∃(i:Nat) (d:Bool) (acc:List Zc),φ= [(0,.x (.sl (rows Zn l))),(3,.ptr 0 0),(5,.ref 1 acc.length 0 acc.length),(6,.x (.bool d)),(7,.x (.int .i64 i))]/\os= [.box [.x (.str e.1),.x (.sl (rows ZL e.2.1))],.rows false 31 2 (rows Zn acc)]/\i<=l.length/\acc.length<=2*i/\ZBT e false l=acc++ZBT e d (l.drop i)) (ZJ l.length 7) ?_ (λφ os hI=> ?_)
 .exact⟨0,false,[],rfl,rfl,J0,J1,J1⟩
 .obtain⟨i,d,acc,rfl,rfl,hi,hac,hp⟩:=hI;refine rg [0,3,5,6,7,11] ?_;refine cd (λh0=> ?_) (λh0=> ?_)
  .have hi4:i<l.length:=VN
   have hrw:=ZOm l i hi4;have hst:=ZXj e l i hi4 d;generalize l.getD i ([],[],())=x at hrw hst;have hal:=ZP Zn acc;have uu:=JJ uu hrw hal;refine WI.dregB tT [0,3,5,6,7,35] ?_;refine ZU ?_;refine Zm ?_;refine ZU ?_
   refine Zm ?_;refine Wt ?_;refine Zb ?_;refine Vo ?_;refine Zm ?_;refine Zb ?_;refine Vo ?_;refine Zb ?_;refine Zm ?_;refine Zb ?_;refine dAC ?_;refine Vo ?_;refine VJ ?_;refine cd (λh1=> ?_) (λh1=> ?_)
   .have hh:ZDn e d x=true:=by clear uu;unfold ZDn;revert h1;cases d<;>simp
    refine rg [0,3,5,7] ?_;refine rg [0,3,5,6,7] ?_;refine WI.dregB tT [0,3,5,6,7,47] ?_;refine Wo ?_;refine WE ?_;refine Vn ?_;refine Zm ?_;refine VJ ?_;refine cd (λh2=> ?_) (λh2=> ?_)
    .have hx: ¬x.1=e.1:=Tk
     refine rg [0,3,5,6,7] ?_;refine Um ?_
     exact Wh
    .have hx:x.1=e.1:=Tk
     refine Um ?_
     exact Wh
   .have hh:ZDn e d x=false:=by clear uu;unfold ZDn;revert h1;cases d<;>simp
    refine WI.dregB tT [0,3,5,6,7,47] ?_;refine Wo ?_;refine WE ?_;refine Vn ?_;refine Zm ?_;refine VJ ?_;refine cd (λh2=> ?_) (λh2=> ?_)
    .have hx: ¬x.1=e.1:=Tk
     refine rg [0,3,5,6,7] ?_;refine Um ?_
     exact Wh
    .have hx:x.1=e.1:=Tk
     refine Um ?_
     exact Wh
  .obtain rfl:i=l.length:=VN
   rw[List.drop_length]at hp;have hal:=ZP Zn acc;refine rg [3,5,56] ?_;refine cd (λh3=> ?_) (λh3=> ?_)
   .have hd:d=false:=by clear uu;simpa using h3
    rw[hd]at hp;refine rg [5] ?_;refine Wj ?_;rw[hp,YO (by rw[ZW,hal];simp),Jk];rfl
   .have hd:d=true:=by clear uu;simpa using h3
    rw[hd]at hp;refine Wj ?_;rw[hp];simp[ZBT]
def atG(l:List Zc)(n:Tx):Nat:=(l.takeWhile λe=> !(e.1==n)).length
theorem ZhH(l:List Zc)(n:Tx):atG l n<=l.length:=(List.takeWhile_sublist _).length_le
theorem ZfD{l:List Zc}{n:Tx}{i:Nat}(hi:i<=atG l n)(hl:i<l.length)(h:l[i].1=n):i=atG l n:=by
 apply ZHo;intro hc;have hp:(l.takeWhile λe=> !(e.1==n))<+:l:=List.takeWhile_prefix _;have hlt:i<(l.takeWhile λe=> !(e.1==n)).length:=by unfold atG at hi hc;omega
 have h1:=Yg.1 (List.all_takeWhile (p:=λe:Zc=> !(e.1==n)) (l:=l)) _ (YG (h:=hlt));rw[hp.getElem hlt]at h1;rw[h]at h1;simp at h1
theorem Zab{l:List Zc}{n:Tx}{i:Nat}(hi:i<=atG l n)(hl:i<l.length)(h: ¬l[i].1=n):i+1<=atG l n:=by
 apply ZHo;intro hc;have e:i=atG l n:=Wl
 clear hi hc;subst e;apply h;clear h;unfold atG at*
 induction l with
 |nil=>simp at hl
 |cons a l ih=>
  by_cases ha:a.1=n
  .simp[List.takeWhile_cons,ha]
  .simp only[List.takeWhile_cons,show(!(a.1==n))=true by simpa using ha,if_true,JB]at hl|-;simpa using ih J0
theorem ZhA(S1 S2:J6)(l:List Zc)(n:Tx)(hl:l.length<=100000):ZK Tryz.prog 53 [.agg [.x (.sl S1),.x (.sl S2),.x (.sl (rows Zn l))],.x (.str n)] (.x (.int .i64 (if atG l n<l.length then(atG l n:Int)else-1))):=by
 have hrl:=ZP Zn l;have hle:=ZhH l n;refine ZH.pure (fC 53 true ?_) rfl;intro C0 E0;have uu:=hrl;have tT:=(ZB:SsOk Tryz.prog YH);refine rg [1,2] ?_;refine rg [1,2,5] ?_;refine WI.loop (λφ os=> ∃(i:Nat),φ= [(1,.x (.str n)),(2,.ptr 0 0),(5,.x (.int .i64 i))]/\os= [.box [.x (.sl S1),.x (.sl S2),.x (.sl (rows Zn l))]]/\i<=l.length/\i<=atG l n) (ZJ l.length 5) ?_ (λφ os hI=> ?_)
 .exact⟨0,rfl,rfl,J0,J0⟩
 .obtain⟨i,rfl,rfl,hi,hia⟩:=hI;refine rg [1,2,5,10] ?_;refine cd (λh0=> ?_) (λh0=> ?_)
  .have hi4:i<l.length:=VN
   refine rg [1,2,5,20] ?_;refine cd (λh1=> ?_) (λh1=> ?_)
   .have he:=ZfD hia hi4 V7;refine Wj ?_;rw[<-he,if_pos hi4]
   .refine rg [1,2,5] ?_;exact⟨⟨i+1,rfl,rfl,J0,Zab hia hi4 V7⟩,Wa⟩
  .refine Wj ?_;rw[if_neg VN]
def ZQn:J8->J5
 | [.agg [.x (.sl A),.x (.sl B),.x (.sl R)],.x (.str n)]=>(ZM Zn R).bind λl=>some (decide (l.length<=100000),.x (.int .i64 (if atG l n<l.length then(atG l n:Int)else-1)))
 |_=>none
theorem ZSe:QK Tryz.prog ZQn 53:=by
 intro args r h;unfold ZQn at h;split at h
 .obtain⟨l,rfl,i0⟩:=un Yn h;obtain⟨h1,rfl⟩:=Yu i0;exact(ZhA _ _ l _ h1)
 .cases h
def ZOH(l:List Zc)(n:Tx):List Zc:=l.filter λe=> !(e.1==n)
theorem ZHL(l:List Zc)(n:Tx)(x:Zc):x∈ZOH l n↔x∈l/\x.1≠n:=by
 unfold ZOH;rw[ZWh];simp
abbrev SoE(l:List Zc):Prop:=l.Pairwise λa b=>bef a.1 b.1=true
theorem ZSo{l:List Zc}(h:SoE l)(n:Tx):SoE (ZOH l n):=h.filter _
theorem ZKQ(e:Zc): ∀l:List Zc,ZBT e true l=ZOH l e.1
 | []=>rfl
 |x::l=>by
  have ih:=ZKQ e l;rw[ZBT];simp only[ZDn,ZOU,ZFA,JV,if_false,QW,ZFu,ih];unfold ZOH;rw[ZGu];by_cases hx:x.1=e.1<;>simp[hx]
theorem ZML(e:Zc): ∀(l:List Zc) (x:Zc),x∈ZBT e false l↔x=e\/(x∈l/\x.1≠e.1)
 | [],x=>by simp[ZBT]
 |y::l,x=>by
  rw[ZBT];cases hh:ZDn e false y
  .have ih:=ZML e l x;have hy: ¬y.1=e.1:=λhy=>by simp[ZDn,hy]at hh
   simp only[JV,if_false,QW,hy,ZOf,Kn,ZD3,ih];constructor
   .rintro(rfl|rfl|h)
    .exact .inr ⟨.inl rfl,hy⟩
    .exact .inl rfl
    .exact .inr ⟨.inr h.1,h.2⟩
   .rintro(rfl|⟨rfl|h1,h2⟩)
    .exact .inr (.inl rfl)
    .exact .inl rfl
    .exact .inr (.inr ⟨h1,h2⟩)
  .simp only[if_true,ZEL,ZKQ,KV,Qf,ZHL,Kn,List.not_mem_nil,or_false];by_cases hy:y.1=e.1
   .simp only[hy,if_true,List.not_mem_nil,false_or];constructor
    .rintro(h|⟨h1,h2⟩)
     .exact .inl h
     .exact .inr ⟨.inr h1,h2⟩
    .rintro(h|⟨rfl|h1,h2⟩)
     .exact .inl h
     .exact absurd hy h2
     .exact .inr ⟨h1,h2⟩
   .simp only[hy,if_false,Kn,List.not_mem_nil,or_false];constructor
    .rintro(h|rfl|⟨h1,h2⟩)
     .exact .inl h
     .exact .inr ⟨.inl rfl,hy⟩
     .exact .inr ⟨.inr h1,h2⟩
    .rintro(h|⟨rfl|h1,h2⟩)
     .exact .inl h
     .exact .inr (.inl rfl)
     .exact .inr (.inr ⟨h1,h2⟩)
theorem Zfv{a b:Tx}(h1:JG a=true)(h2:JG b=true)(h:a≠b):bef a b=true\/bef b a=true:=ZTl _ _ λe=>h (Zc0 h1 h2 e)
theorem ZYd{a b c:Tx}(h1:bef a b=true)(h2:bef b c=true):bef a c=true:=ZIy _ _ _ h1 h2
theorem ZVU(e:Zc)(he:JG e.1=true): ∀l:List Zc,SoE l->(∀x∈l,JG x.1=true)->SoE (ZBT e false l)
 | [],_,_=>by simp[ZBT,SoE]
 |y::l,hs,hn=>by
  obtain⟨h1,h2⟩:=ZFv.1 hs;have hy:=hn y J1;rw[ZBT];cases hh:ZDn e false y
  .have ih:=ZVU e he l h2 (λx hx=>hn x (ξW _ hx));have hne: ¬y.1=e.1:=λhy=>by simp[ZDn,hy]at hh
   have hb:bef e.1 y.1=false:=by simp[ZDn,hne]at hh;exact hh
   have hye:bef y.1 e.1=true:=by
    rcases Zfv hy he hne with h|h
    .exact h
    .rw[hb]at h;cases h
   simp only[JV,if_false,QW,hne,ZOf,ZD3];refine ZFv.2 ⟨λx hx=> ?_,ih⟩;rcases(ZML e l x).1 hx with rfl|⟨h3,_⟩
   .exact hye
   .exact h1 x h3
  .simp only[if_true,ZEL,ZKQ,ZOf];by_cases hye:y.1=e.1
   .simp only[hye,if_true,QW];exact ZFv.2 ⟨λx hx=>by rw[<-hye];exact h1 x ((ZHL l e.1 x).1 hx).1,ZSo h2 _⟩
   .have hb:bef e.1 y.1=true:=by simpa[ZDn,hye]using hh
    simp only[hye,if_false,ZOf];refine ZFv.2 ⟨λx hx=> ?_,ZFv.2 ⟨λx hx=>h1 x ((ZHL l e.1 x).1 hx).1,ZSo h2 _⟩⟩;rcases Kn.1 hx with rfl|hx
    .exact hb
    .exact ZYd hb (h1 x ((ZHL l e.1 x).1 hx).1)
def ClA(l:List ZN):Prop:= ∀a∈l,a.2.1≠ []/\a.2.1.Nodup
theorem Zfc{b:List Tx}(h:b.Nodup)(v:Tx):(ZEU b v).Nodup:=by
 unfold ZEU;split
 .exact h
 .rename_i hv;rw[ZEx];exact⟨h,J1,λa ha c hc e=>by rw[Qf]at hc;subst hc;subst e;exact hv ha⟩
theorem ZVX: ∀(vs b:List Tx),b.Nodup->(QO b vs).Nodup
 | [],_,h=>h
 |v::vs,b,h=>ZVX vs _ (Zfc h v)
theorem Zdp(b:List Tx)(v:Tx):ZEU b v≠ []:=by
 unfold ZEU;split
 .rename_i h;intro e;rw[e]at h;cases h
 .simp
theorem ZPB: ∀(vs b:List Tx),vs≠ []\/b≠ []->QO b vs≠ []
 | [],_,h=>by rcases h with h|h;exact absurd rfl h;exact h
 |v::vs,b,_=>ZPB vs _ (.inr (Zdp b v))
theorem ZJy: ∀(x b:List Tx),(b++x).Nodup->QO b x=b++x
 | [],b,_=>by simp[QO]
 |v::x,b,h=>by
  have hv:v∉b:=λhv=>by
   rw[ZEx]at h;exact h.2.2 v hv v J1 rfl
  show QO (ZEU b v) x=_;rw[show ZEU b v=b++ [v]from if_neg hv,ZJy x (b++ [v]) WJ];simp
theorem ZR1{l:List ZN}{n:Tx}(h:Ql l n=true):l[ZZ l n]'(ZCS h)∈l/\YT l n=(l[ZZ l n]'(ZCS h)).2.1/\(l[ZZ l n]'(ZCS h)).1=n:=by
 have hk:=ZCS h;refine⟨YG hk,?_,ZK8 l n hk h⟩;unfold YT;rw[if_pos h];simp[hk]
theorem Ze7{l:List ZN}(hc:ClA l)(n:Tx):(YT l n).Nodup:=by
 by_cases h:Ql l n=true
 .obtain⟨h1,h2,_⟩:=ZR1 h;rw[h2];exact(hc _ h1).2
 .unfold YT;rw[if_neg h];simp
theorem ZVY{l:List ZN}(hc:ClA l)(n:Tx)(vs:List Tx):ClA (Ko l n vs):=by
 unfold Ko;split
 .exact hc
 .rename_i hv;intro a ha;rcases KV.1 ha with ha|ha
  .rcases KV.1 ha with ha|ha
   .exact hc a (ZBU ha)
   .rw[Qf]at ha;subst ha;exact⟨ZPB _ _ (.inl (by simp[hv])),ZVX _ _ J1⟩
  .exact hc a (ZMr ha)
theorem ZZP(l:List ZN):ClA (Zg l):=by
 have key: ∀(l acc:List ZN),ClA acc->ClA (l.foldl (λacc a=>Ko acc (ZE a.1) a.2.1) acc):=λl=>by
  induction l with
  |nil=>intro acc h;exact h
  |cons a l ih=>intro acc h;exact ih _ (ZVY h _ _)
 exact key l [] (λ_ h=>W6)
theorem ZM1(l:List ZN):SoA (Zg l):=by have:=ZHV l l.length (Zp _);rwa [ZES]at this
def ZRL(l:List ZN):Prop:= ∀a∈l,ZE a.1=a.1
theorem Zcr{l:List ZN}{n:Tx}{vs:List Tx}(h: ∀a∈l,Op.bytesLess a.1 n=true)(h1:vs≠ [])(h2:vs.Nodup):Ko l n vs=l++ [(n,vs,())]:=by
 have hp:ZZ l n=l.length:=ZTO l n l.length (Zp _) (by rw[JX];exact h) (λh=>absurd h J0);have hh:Ql l n=false:=by unfold Ql;rw[hp,ξY (Zp _)]
 unfold Ko KC YT;rw[if_neg h1,hh,hp,JX,if_neg WS,if_neg WS,List.drop_length,Ks,ZJy _ _ U9];rfl
theorem ZQY: ∀(l acc:List ZN),SoA (acc++l)->ClA l->ZRL l->l.foldl (λacc a=>Ko acc (ZE a.1) a.2.1) acc=acc++l
 | [],acc,_,_,_=>TC
 |a::l,acc,h1,h2,h3=>by
  have ha:=h2 a ZAw;rw[ZJD,h3 a ZAw,Zcr (λb hb=>(ZOZ.1 h1).2.2 b hb a ZAw) ha.1 ha.2,
   ZQY l _ WC (λb hb=>h2 b (ξW _ hb)) (λb hb=>h3 b (ξW _ hb))]
  simp[show(a.1,a.2.1,())=a from rfl]
theorem Zcy{l:List ZN}(h:ZRL l)(n:Tx)(vs:List Tx):ZRL (Ko l (ZE n) vs):=by
 unfold Ko;split
 .exact h
 .intro a ha;rcases KV.1 ha with ha|ha
  .rcases KV.1 ha with ha|ha
   .exact h a (ZBU ha)
   .rw[Qf.1 ha];exact Zfb n
  .exact h a (ZMr ha)
theorem ZTp: ∀(l acc:List ZN),ZRL acc->ZRL (l.foldl (λacc a=>Ko acc (ZE a.1) a.2.1) acc)
 | [],_,h=>h
 |a::l,acc,h=>ZTp l _ (Zcy h _ _)
theorem ZLe(l:List ZN):Zg (Zg l)=Zg l:=ZQY (Zg l) [] (ZM1 l) (ZZP l) (ZTp l [] (λ_ h=>W6))
theorem Zf8{l:List ZN}{n:List UInt8}(h:Ql l n=true):ZZ l n<l.length/\(l.getD (ZZ l n) ([],[],())).1=n/\YT l n=(l.getD (ZZ l n) ([],[],())).2.1/\KC l n=l.drop (ZZ l n+1):=by
 have hk:ZZ l n<l.length:=by
  apply ZHo;intro hc;unfold Ql at h;rw[ξY J0]at h;cases h
 have e:l.getD (ZZ l n) ([],[],())=l[ZZ l n]:=by simp[hk]
 exact⟨hk,by rw[e];exact ZK8 l n hk h,by unfold YT;rw[if_pos h],by unfold KC;rw[if_pos h]⟩
theorem Zhu{l:List ZN}{n:List UInt8}(h:Ql l n=false):YT l n= []/\KC l n=l.drop (ZZ l n)/\(ZZ l n<l.length-> ¬(l.getD (ZZ l n) ([],[],())).1=n):=by
 refine⟨by unfold YT;rw[h];rfl,by unfold KC;rw[h];rfl,λhk e=> ?_⟩;rw[show l.getD (ZZ l n) ([],[],())=l[ZZ l n] by simp[hk]]at e;unfold Ql at h;rw[Zx hk]at h;simp[e]at h
theorem ZLj(l:List (List UInt8))(x:List UInt8):rows ZC l++ [[X.str x]]=rows ZC (l++ [x]):=Gd
theorem ZMn(l:List ZN)(j:Nat)(h:j<l.length):(rows ZL l)[j]? =some [X.str (l.getD j ([],[],())).1,X.sl (rows ZC (l.getD j ([],[],())).2.1)]:=by
 simp[rows,ZL,JF,ZC,rSl,QV,h]
theorem ZhD(l:List ZN)(n:List UInt8):(ZZ l n<l.length/\(l.getD (ZZ l n) ([],[],())).1=n/\YT l n=(l.getD (ZZ l n) ([],[],())).2.1/\KC l n=l.drop (ZZ l n+1))\/(ZZ l n<l.length/\ ¬(l.getD (ZZ l n) ([],[],())).1=n/\YT l n= []/\KC l n=l.drop (ZZ l n))\/(ZZ l n=l.length/\YT l n= []/\KC l n=l.drop (ZZ l n)):=by
 rcases Bool.eq_false_or_eq_true (Ql l n)with hh|hh
 .exact .inl (Zf8 hh)
 .obtain⟨h1,h2,h3⟩:=Zhu hh;rcases Nat.lt_or_eq_of_le (ZCy l n)with hk|hk
  .exact .inr (.inl ⟨hk,h3 hk,h1,h2⟩)
  .exact .inr (.inr ⟨hk,h1,h2⟩)
set_option maxHeartbeats 4000000 in
theorem ZhF(l:List ZN)(n:List UInt8)(vs:List (List UInt8))(hl:l.length<=1000)(hv:vs.length<=1000)(hb: ∀a∈l,a.2.1.length<=100000):ZK Tryz.prog 103 [.x (.sl (rows ZL l)),.agg [.x (.str n),.x (.sl (rows ZC vs))]] (.x (.sl (rows ZL (ZDj l n vs)))):=by
 have hple:=ZCy l n;have hrl:=ZP ZL l;have hrv:=ZP ZC vs;unfold ZDj;refine ZH.pure (fC 103 true ?_) rfl;intro C0 E0;have uu:=Zz hrl hrv;refine WI.seq ?_;refine WI.regB ZB [0,3] ?_;refine oG ?_;refine WP ?_;refine WI.regB ZB [0,3,5] ?_;refine Va ?_;refine WI.join (λφ os=>φ= [(0,.x (.sl (rows ZL l))),(3,.ptr 0 0),(5,.x (.int .i64 (ZZ l n:Nat)))]/\os= [.box [.x (.str n),.x (.sl (rows ZC vs))]]) ?_ (λφ os hJ=> ?_)
 .refine WI.block ?_;refine WI.loop (λφ os=> ∃(j:Nat),φ= [(0,.x (.sl (rows ZL l))),(3,.ptr 0 0),(5,.x (.int .i64 j))]/\os= [.box [.x (.str n),.x (.sl (rows ZC vs))]]/\j<=ZZ l n) (ZJ (ZZ l n) 5) ?_ (λφ os hI=> ?_)
  .exact Vf
  .obtain⟨j,rfl,rfl,hj⟩:=hI;refine WI.seq ?_;refine WI.seq ?_;by_cases hjl:j<l.length
   .have hd:=ZI (show(j:Int)<(l.length:Int) by omega);have hrw:=ZMn l j hjl;have hlt:=ZWR l n j hjl hj;have hge:=ZJd l n j;have hgd:l[j]=l.getD j ([],[],()):=by simp[hjl]
    rw[hgd]at hlt;simp only[hgd]at hge;generalize l.getD j ([],[],())=x at hrw hlt hge;have uu:=JJ uu hd hrw;refine WI.dregB ZB [0,3,5,26] ?_
    refine V1 ?_;refine ZA ?_;refine WI.cond (b:=_) rfl rfl (λh0=> ?_) (λh0=> ?_)
    .try simp only[zB]at h0
     have hjk:j<ZZ l n:=hlt Gb;refine Ts ?_;refine WI.block ?_;refine WI.regB ZB [0,3,5] ?_;refine Vm ?_;refine oS ?_;refine oN ?_;refine Nw ?_;exact⟨⟨j+1,rfl,rfl,J0⟩,Wa⟩
    .try simp only[zB]at h0
     have hjk:j=ZZ l n:=by
      apply Nat.le_antisymm hj;apply Nat.le_of_not_lt;intro hc;exact absurd (hge hc) (by clear uu hge;simpa using h0)
     refine WI.orderA [0,3,5] ?_;refine WZ ?_;refine ZA ?_;subst hjk;exact Gf
   .have hd:=decide_eq_false (show ¬(j:Int)<(l.length:Int) by omega);have hrn:(rows ZL l)[j]? =none:=ξY (by rw[hrl];omega);have uu:=JJ uu hd hrn;refine WI.dregB ZB [0,3,5,26] ?_
    refine V1 ?_;refine ZA ?_;refine WI.cond (b:=_) rfl rfl (λh0=> ?_) (λh0=> ?_)
    .exfalso;simp at h0
    .try simp only[zB]at h0
     have hjk:j=ZZ l n:=Wl
     refine WI.orderA [0,3,5] ?_;refine WZ ?_;refine ZA ?_;subst hjk;exact Gf
 .obtain⟨rfl,rfl⟩:=hJ;refine WI.seq ?_;refine WI.regB ZB [0,3,5,6] ?_;refine oS ?_
  refine W7 ?_;refine W7 ?_;refine TV ?_;refine WI.regB ZB [0,3,5,6,7] ?_;refine Wn ?_;refine oG ?_;refine Va ?_;refine WI.join (λφ os=>φ= [(0,.x (.sl (rows ZL l))),(3,.ptr 0 0),(5,.x (.int .i64 (ZZ l n:Nat))),(6,.ptr 1 0),(7,.x (.sl (rows ZL (KC l n))))]/\os= [.box [.x (.str n),.x (.sl (rows ZC vs))],.box [.x (.str n),.x (.sl (rows ZC (YT l n)))]]) ?_ (λφ os hJ=> ?_)
  .refine WI.seq ?_;rcases ZhD l n with⟨hk,e1,e2,e3⟩|⟨hk,e1,e2,e3⟩|⟨hk,e2,e3⟩
   .have hd:=ZI (show((ZZ l n:Nat):Int)<(l.length:Int) by omega);have hrw:=ZMn l (ZZ l n) hk;have hba:(YT l n).length<=100000:=by rw[e2];exact hb _ Nk
    rw[e1,<-e2]at hrw;have uu:=JJ uu hd hrw;refine WI.dregB ZB [0,3,5,6,7,48] ?_
    refine V1 ?_;refine ZA ?_;refine WI.cond (b:=_) rfl rfl (λh1=> ?_) (λh1=> ?_)
    .try simp only[zB]at h1
     refine WI.seq ?_;refine WI.regB ZB [0,3,5,6] ?_;refine GB ?_;refine oG ?_;refine Ww ?_;refine WI.regB ZB [0,3,5,6,7] ?_;refine GB ?_;refine Va ?_
     (first|rw[e3]|skip);(first|rw[e2]|skip);exact⟨rfl,rfl⟩
    .exfalso;simp at h1
   .have hd:=ZI (show((ZZ l n:Nat):Int)<(l.length:Int) by omega);have hrw:=ZMn l (ZZ l n) hk;have hd2:=decide_eq_false e1;have uu:=Qt uu hd hrw hd2;refine WI.dregB ZB [0,3,5,6,7,48] ?_
    refine V1 ?_;refine ZA ?_;refine WI.cond (b:=_) rfl rfl (λh1=> ?_) (λh1=> ?_)
    .exfalso;exact e1 V7
    .try simp only[zB]at h1
     refine WI.nnA ?_;refine WI.orderA [0,3,5,6,7] ?_;refine Ts ?_
     (first|rw[e3]|skip);(first|rw[e2]|skip);exact⟨rfl,rfl⟩
   .have hd:=decide_eq_false (show ¬((ZZ l n:Nat):Int)<(l.length:Int) by omega);have hrn:(rows ZL l)[ZZ l n]? =none:=ξY (by rw[hrl];omega);have uu:=JJ uu hd hrn;refine WI.dregB ZB [0,3,5,6,7,48] ?_
    refine V1 ?_;refine ZA ?_;refine WI.cond (b:=_) rfl rfl (λh1=> ?_) (λh1=> ?_)
    .exfalso;simp at h1
    .try simp only[zB]at h1
     refine WI.nnA ?_;refine WI.orderA [0,3,5,6,7] ?_;refine Ts ?_
     (first|rw[e3]|skip);(first|rw[e2]|skip);exact⟨rfl,rfl⟩
  .obtain⟨rfl,rfl⟩:=hJ;refine WI.seq ?_;refine WI.regB ZB [0,3,5,6,7,8] ?_;refine WP ?_;have hbb:(YT l n).length<=100000:=by
    rcases ZhD l n with⟨hk,e1,e2,e3⟩|⟨hk,e1,e2,e3⟩|⟨hk,e2,e3⟩
    .rw[e2];exact hb _ Nk
    .rw[e2];simp
    .rw[e2];simp
   have hrb:=ZP ZC (YT l n);have uu:=Zz uu hrb;generalize YT l n=b at hbb|-;have hrs:(KC l n).length<=1000:=by unfold KC;split<;>(rw[KO];omega)
   generalize KC l n=rst at hrs|-;refine WI.ownA 8 9 1 ?_;refine WI.regB ZB [0,3,5,6,7,8] ?_
   refine GB ?_;refine TF ?_;refine WI.regB ZB [0,3,5,6,7,8,9] ?_;refine ND ?_;refine WI.loop (λφ os=> ∃(j:Nat),φ= [(0,.x (.sl (rows ZL l))),(3,.ptr 0 0),(5,.x (.int .i64 (ZZ l n:Nat))),(6,.ptr 1 0),(7,.x (.sl (rows ZL rst))),(8,.ref 2 (QO b (vs.take j)).length 0 (QO b (vs.take j)).length),(9,.x (.int .i64 j))]/\os= [.box [.x (.str n),.x (.sl (rows ZC vs))],.box [.x (.str n),.x (.sl (rows ZC b))],.rows false 9 1 (rows ZC (QO b (vs.take j)))]/\j<=vs.length) (ZJ vs.length 9) ?_ (λφ os hI=> ?_)
   .exact⟨0,by rw[ZB6,ZMe];first|done|rfl,by rw[ZB6,ZMe],J0⟩
   .obtain⟨j,rfl,rfl,hj⟩:=hI;refine WI.seq ?_;refine WI.seq ?_;refine WI.regB ZB [0,3,5,6,7,8,9,65] ?_
    refine GB ?_;refine oG ?_;refine Ww ?_;refine WI.cond (b:=_) rfl rfl (λh2=> ?_) (λh2=> ?_)
    .try simp only[zB]at h2
     have hj4:j<vs.length:=VN
     have hlt:=ZGk b (vs.take j);rw[Ys]at hlt;have hsn:=ZPq b vs j hj4;have hrv2:(rows ZC vs)[j]? =some [X.str (vs[j])]:=by simp[rows,ZC,hj4]
     generalize vs[j]=v at hsn hrv2;generalize QO b (vs.take j)=acc at hlt hsn|-;have hra:=ZP ZC acc;have uu:=JJ uu hrv2 hra;refine UQ ?_;refine WI.regB ZB [0,3,5,6,7,8,9,10] ?_;refine TF ?_;refine WI.regB ZB [0,3,5,6,7,8,9,10,11] ?_;refine ND ?_;refine WI.loop (λφ os=> ∃(i:Nat),φ= [(0,.x (.sl (rows ZL l))),(3,.ptr 0 0),(5,.x (.int .i64 (ZZ l n:Nat))),(6,.ptr 1 0),(7,.x (.sl (rows ZL rst))),(8,.ref 2 acc.length 0 acc.length),(9,.x (.int .i64 j)),(10,.x (.bool (decide (v∈acc.take i)))),(11,.x (.int .i64 i))]/\os= [.box [.x (.str n),.x (.sl (rows ZC vs))],.box [.x (.str n),.x (.sl (rows ZC b))],.rows false 9 1 (rows ZC acc)]/\i<=acc.length) (ZJ acc.length 11) ?_ (λφ os hI=> ?_)
     .exact⟨0,J1,rfl,J0⟩
     .obtain⟨i,rfl,rfl,hi⟩:=hI;refine WI.seq ?_;refine WI.seq ?_;refine WI.regB ZB [0,3,5,6,7,8,9,10,11,71] ?_
      refine GB ?_;refine Ww ?_;refine WI.cond (b:=_) rfl rfl (λh3=> ?_) (λh3=> ?_)
      .try simp only[zB]at h3
       have hi4:i<acc.length:=VN
       have hmt:=ZQm acc v i hi4;have hdi:=ZI (show(i:Int)<(acc.length:Int) by omega);have hri:(rows ZC acc)[i]? =some [X.str (acc[i])]:=by simp[rows,ZC,hi4]
       generalize acc[i]=q at hmt hri;have uu:=JJ uu hdi hri;refine Vt ?_;refine WI.block ?_;refine WI.dregB ZB [0,3,5,6,7,8,9,10,11] ?_
       refine Wo ?_;refine Vo ?_;refine VK ?_;refine Zm ?_;refine Zb ?_;refine Zm ?_;refine VK ?_;refine Vo ?_;refine ZU ?_;refine dN ?_;refine Nw ?_;refine WI.regB ZB [0,3,5,6,7,8,9,10,11] ?_;refine Vm ?_;refine Va ?_;exact⟨⟨i+1,by rw[hmt];first|done|rfl,rfl,J0⟩,Wa⟩
      .try simp only[zB]at h3
       have hti:acc.take i=acc:=YO VN;rw[hti];refine WZ ?_;refine Wm ?_;refine WI.regB ZB [0,3,5,6,7,8,9,88] ?_;refine Vm ?_;refine Ww ?_;refine WI.cond (b:=_) rfl rfl (λh4=> ?_) (λh4=> ?_)
       .try simp only[zB]at h4
        have hst:QO b (vs.take (j+1))=acc++ [v]:=by rw[hsn];unfold ZEU;rw[if_neg Nn]
        refine WI.post ?_;refine WI.regB ZB [0,3,5,6,7,8,9] ?_;refine Wn ?_;refine oG ?_;refine N3 ?_;refine W7 ?_;refine Nu ?_;refine Jm [0,1,2] ?_;refine KR ?_;exact Ue
       .try simp only[zB]at h4
        have hst:QO b (vs.take (j+1))=acc:=by rw[hsn];unfold ZEU;rw[if_pos Nn]
        refine WI.skip ?_;exact Ue
    .try simp only[zB]at h2
     obtain rfl:j=vs.length:=VN
     have hlt:=ZGk b vs;rw[JX];generalize QO b vs=acc at hlt|-;have hra:=ZP ZC acc;have hta:(rows ZC acc).take acc.length=rows ZC acc:=by rw[<-hra,JX]
     have uu:=JJ uu hra hta;refine WZ ?_;refine Wm ?_;refine WI.regB ZB [0,5,6,7,8] ?_
     refine Wn ?_;refine oG ?_;refine TV ?_;refine WI.regB ZB [0,5,6,7,8,12] ?_;refine WP ?_;refine WI.regB ZB [6,7,8,12] ?_;refine Wn ?_;refine N3 ?_;refine TF ?_;refine WI.regB ZB [6,7,12,106] ?_;refine N3 ?_;refine Ww ?_;refine WI.cond (b:=_) rfl rfl (λh5=> ?_) (λh5=> ?_)
     .try simp only[zB]at h5
      have hoa:ZKj n acc= [(n,acc,())]:=if_neg (λe=>by subst e;clear uu;simp at h5);rw[hoa];refine WI.regB ZB [7,12] ?_;refine oS ?_
      iterate 3 refine oG (hok:=Uu) ?_
      refine WP ?_;refine WI.regB ZB [4] ?_;refine Wn ?_;refine oG (hok:=Uu) ?_;refine Va ?_;refine WI.ret ?_
      first|refine lfR ?_|refine ZAi ?_|refine ZAT ?_|refine ZAc ?_
      rw[YO (by simp only[ZW,JB,ξN,ZP,Ys];omega)];simp only[rows,Jd];rfl
     .try simp only[zB]at h5
      have hoa:ZKj n acc= []:=if_pos (by clear uu;simpa using h5);rw[hoa,Ks];refine Vt ?_;refine WI.regB ZB [4] ?_
      refine Wn ?_;refine oG (hok:=Uu) ?_;refine Va ?_;refine WI.ret ?_
      first|refine lfR ?_|refine ZAi ?_|refine ZAT ?_|refine ZAc ?_
      rw[YO (by simp only[ZW,JB,ξN,ZP,Ys];omega)];first|done|simp only[rows,Jd]
def ZWq:J8->J5
 | [.x (.sl A),.agg [.x (.str n),.x (.sl V)]]=>(ZM ZL A).bind λl=>(ZM ZC V).bind λvs=>some (decide (l.length<=1000)&&(decide (vs.length<=1000)&&(decide (∀a∈l,a.2.1.length<=100000))),.x (.sl (rows ZL (ZDj l n vs))))
 |_=>none
theorem Zay:QK Tryz.prog ZWq 103:=by
 intro args r h;unfold ZWq at h;split at h
 .obtain⟨l,rfl,i0⟩:=un Ze h;obtain⟨vs,rfl,i1⟩:=un ZO i0;obtain⟨h1,h2,h3,rfl⟩:=fn3 i1;exact ZhF l _ vs h1 h2 h3
 .cases h
theorem ZXl(l:List ZN)(n:List UInt8)(B:Nat)(hb: ∀a∈l,a.2.1.length<=B):(YT l n).length<=B:=by
 unfold YT;split
 .by_cases h:ZZ l n<l.length
  .have e:l.getD (ZZ l n) ([],[],())=l[ZZ l n]:=by simp[h]
   rw[e];exact hb _ (YG _)
  .have e:l.getD (ZZ l n) ([],[],())=([],[],()):=by simp[h]
   rw[e];simp
 .simp
theorem ZYt(l:List ZN)(n:List UInt8)(vs:List (List UInt8)):(ZDj l n vs).length<=l.length+1:=by
 have:=ZCy l n;unfold ZDj ZKj KC;split<;>split<;>simp<;>omega
theorem ZWp(l:List ZN)(n:List UInt8)(vs:List (List UInt8))(B C:Nat)(hb: ∀a∈l,a.2.1.length<=B)(hv:vs.length<=C): ∀a∈ZDj l n vs,a.2.1.length<=B+C:=by
 intro a ha;unfold ZDj at ha;rcases KV.1 ha with ha|ha
 .rcases KV.1 ha with ha|ha
  .have:=hb a (ZBU ha);omega
  .unfold ZKj at ha;split at ha
   .simp at ha
   .rw[Qf]at ha;subst ha;have h1:=ZGk (YT l n) vs;have h2:=ZXl l n B hb;simp only;omega
 .have:a∈l:=by
   unfold KC at ha;split at ha<;>exact ZB8 ha
  have:=hb a this;omega
def ZAM(l:List ZN):List ZN:=l.foldl (λacc a=>ZDj acc (ZE a.1) a.2.1) []
theorem ZGe(l:List ZN)(j:Nat)(h:j<l.length):ZAM (l.take (j+1))=ZDj (ZAM (l.take j)) (ZE l[j].1) l[j].2.1:=by
 unfold ZAM;rw[JU h,ZL4];rfl
theorem ZLS(l:List ZN): ∀j,j<=l.length->(ZAM (l.take j)).length<=j
 |0,_=>by simp[ZAM]
 |j+1,h=>by
  rw[ZGe l j J0];have:=ZYt (ZAM (l.take j)) (ZE l[j].1) l[j].2.1;have:=ZLS l j J0;omega
theorem ZKR(l:List ZN)(hb: ∀a∈l,a.2.1.length<=1000): ∀j,j<=l.length-> ∀a∈ZAM (l.take j),a.2.1.length<=j*1000
 |0,_=>by simp[ZAM]
 |j+1,h=>by
  rw[ZGe l j J0];have:=ZWp (ZAM (l.take j)) (ZE l[j].1) l[j].2.1 (j*1000) 1000 (ZKR l hb j J0) (hb _ (YG _));intro a ha;have:=this a ha;omega
theorem Zhb(l:List ZN):ZM ZL (rows ZL l)=some l:=ZX Ze l
theorem Zhn(l:List (List UInt8)):ZM ZC (rows ZC l)=some l:=ZX ZO l
theorem ZcQ(dn:List UInt8)(l:List ZN)(hl:l.length<=100)(ht: ∀a∈l,a.1.length<=1000000)(hb: ∀a∈l,a.2.1.length<=1000):ZK Tryz.prog 69 [.agg [.x (.str dn),.x (.sl (rows ZL l))]] (.agg [.x (.str dn),.x (.sl (rows ZL (ZAM l)))]):=by
 refine ZH.pure (fC 69 true ?_) rfl;intro C0 E0;have uu:=Qt @ZID.eq_1 @ZWq.eq_1 @Zhb @Zhn;have tT:=aQ (aQ ZB ZIt) (ZCx Zay);refine nz ?_;refine WI.regB tT [1,2] ?_
 refine W7 ?_;refine Vy ?_;refine WI.regB tT [1,2,3] ?_;refine Wf ?_;refine WI.regB tT [1,2,3,4] ?_;refine Wf ?_;refine WI.nnA ?_;refine WI.loop (λφ os=> ∃(j:Nat),φ= [(1,.ptr 0 0),(2,.ptr 1 0),(3,.x (.sl (rows ZL (ZAM (l.take j))))),(4,.x (.int .i64 j))]/\os= [.box [.x (.str dn),.x (.sl (rows ZL l))],.box [.x (.str []),.x (.sl [])]]/\j<=l.length) (ZJ l.length 4) ?_ (λφ os hI=> ?_)
 .exact Vf
 .obtain⟨j,rfl,rfl,hj⟩:=hI;refine nz ?_;refine WI.regB tT [1,2,3,4,9] ?_
  refine Wn ?_
  iterate 3 refine oG (hok:=Wx) ?_
  refine Vy ?_;refine cd (λh0=> ?_) (λh0=> ?_)
  .have hj4:j<l.length:=Wl
   have hst:=ZGe l j hj4;have hlj:=ZLS l j hj;have hvj: ∀a∈ZAM (l.take j),a.2.1.length<=100000:=λa ha=>by have:=ZKR l hb j hj a ha;omega
   have htj:=ht l[j] (YG _);have hbj:=hb l[j] (YG _);refine WI.dregB tT [1,2,3,4] ?_
   refine Wo ?_;refine Gh ?_;refine ZU ?_;refine Zb (hok:=Wx) ?_;refine dQC (hok:=Wx) ?_;refine ZU ?_;refine Gh ?_;refine ZU ?_;refine Zb (hok:=Wx) ?_;refine Zm (hok:=Wx) ?_;refine dAC (hok:=Wx) ?_;refine ZU ?_;refine VJ ?_;refine WI.regB tT [1,2,3,4] ?_;refine oS ?_;refine oG (hok:=Wx) ?_;refine Wf ?_;exact⟨⟨j+1,by rw[hst];rfl,rfl,J0⟩,Wa⟩
  .have hvt:l.take j=l:=YO J0;rw[hvt];refine GR ?_;refine oG (hok:=Wx) ?_;refine oS ?_
   iterate 2 refine oG (hok:=Wx) ?_
   refine Vy ?_;refine lf ?_
   exact Wp
def ZLD:J8->J5
 | [.agg [.x (.str dn),.x (.sl A)]]=>(ZM ZL A).bind λl=>some (decide (l.length<=100)&&(decide (∀a∈l,a.1.length<=1000000)&&(decide (∀a∈l,a.2.1.length<=1000))),.agg [.x (.str dn),.x (.sl (rows ZL (ZAM l)))])
 |_=>none
theorem ZM6:QK Tryz.prog ZLD 69:=by
 intro args r h;unfold ZLD at h;split at h
 .obtain⟨l,rfl,i0⟩:=un Ze h;obtain⟨h1,h2,h3,rfl⟩:=fn3 i0;exact ZcQ _ l h1 h2 h3
 .cases h
theorem ZgM{l:List ZN}(hc:ClA l)(n:Tx)(vs:List Tx):ZDj l n vs=Ko l n vs:=by
 unfold ZDj Ko;by_cases hv:vs= []
 .rw[if_pos hv,hv,ZMe];by_cases h:Ql l n=true
  .obtain⟨h1,h2,h3⟩:=ZR1 h;have hk:=ZCS h;unfold ZKj KC;rw[h2,if_neg (hc _ h1).1,if_pos h]
   conv=>rhs;rw[<-ZBx (ZZ l n) l,ξU hk]
   rw[Yw,ZOf];congr 2;exact ZCE h3.symm rfl
  .unfold ZKj KC YT;rw[if_neg h,if_neg h,if_pos rfl,Ks,ZBx]
 .rw[if_neg hv];have e:QO [] (YT l n++vs)=QO (YT l n) vs:=by
   have h1:QO [] (YT l n)=YT l n:=by rw[ZJy _ _ (by simpa using Ze7 hc n)];rfl
   conv=>rhs;rw[<-h1]
   exact ZL4
  unfold ZKj;rw[e,if_neg (ZPB _ _ (.inl hv))]
theorem ZVA: ∀(l acc:List ZN),ClA acc->l.foldl (λacc a=>ZDj acc (ZE a.1) a.2.1) acc=l.foldl (λacc a=>Ko acc (ZE a.1) a.2.1) acc/\ClA (l.foldl (λacc a=>Ko acc (ZE a.1) a.2.1) acc)
 | [],acc,h=>⟨rfl,h⟩
 |a::l,acc,h=>by
  rw[ZJD,ZJD,ZgM h];exact ZVA l _ (ZVY h _ _)
theorem ZTu(l:List ZN):ZAM l=Zg l:=(ZVA l [] (λ_ h=>W6)).1
theorem Zef{l:List ZN}(hs:SoA l){n:Tx}{j:Nat}(h:j<l.length)(he:l[j].1=n):YT l n=l[j].2.1:=by
 have hp:ZZ l n=j:=ZTO l n j J0 (λa ha=>by
  obtain⟨i,hi,rfl⟩:=ZKm.1 ha;rw[Ys]at hi;rw[List.getElem_take,<-he];exact ZE8.1 hs i j J0 h J0) (λ_=>by rw[he];exact bl_irr n)
 subst hp;unfold YT;rw[if_pos (by unfold Ql;rw[Zx h];simpa using he)];simp[h]
theorem Zfz{l:List ZN}{n:Tx}(h: ∀a∈l,a.1≠n):YT l n= []:=by
 unfold YT;rw[if_neg λhh=>by
  obtain⟨h1,_,h3⟩:=ZR1 hh;exact h _ h1 h3]
def ZLw:J8->J5
 | [.x (.str s)]=>some (decide (s.length<=140737488355328),.x (.str (ZE s)))
 |_=>none
theorem ZUN:QK Tryz.prog ZLw 97:=by
 intro args r h;unfold ZLw at h;split at h
 .obtain⟨h1,rfl⟩:=Yu h;exact(ZGz _ h1)
 .cases h
theorem ZgS(dn:Tx)(l:List ZN)(n:Tx)(h:QD l)(hn:n.length<=140737488355328):ZK Tryz.prog 61 [.agg [.x (.str dn),.x (.sl (rows ZL l))],.x (.str n)] (.x (.sl (rows ZC (ZGc l n)))):=by
 have c1:=ZI h.1;have c2:=ZI h.2.1;have c3:decide (∀a∈l,a.2.1.length<=1000)=true:=ZI λa ha=>by have:=h.2.2 a ha;omega
 have hdn:=ZI hn;have hul:ZM ZL (rows ZL l)=some l:=ZX Ze l;have hce:=ZTu l;have hso:=ZM1 l;have hcl:(Zg l).length<=100:=by have:=ZEV l l.length (Zp _);rw[ZES]at this;have:=h.1;omega
 unfold ZGc;generalize Zg l=V at hce hso hcl|-;have hvl:=ZP ZL V;obtain⟨b,hb⟩: ∃b,YT V (ZE n)=b:=⟨_,rfl⟩;rw[hb];refine ZH.pure (fC 61 true ?_) rfl;intro C0 E0;have uu:=ξ9 @ZLw.eq_1 @ZLD.eq_1 hul hce @c1 @c2 @c3 hdn hvl;have tT:=aQ (aQ ZB ZUN) ZM6;refine rg [1,2] ?_;refine rg [1,5] ?_;refine rg [1,5,6] ?_;refine WI.pickA [] ?_;refine WI.loop (λφ os=> ∃(j:Nat),φ= [(1,.x (.str n)),(5,.x (.sl (rows ZL V))),(6,.x (.int .i64 j))]/\os= []/\j<=V.length/\ ∀a∈V.take j,a.1≠ZE n) (ZJ V.length 6) ?_ (λφ os hI=> ?_)
 .exact UJ
 .obtain⟨j,rfl,rfl,hj,hno⟩:=hI;refine rg [1,5,6,13] ?_;refine cd (λh0=> ?_) (λh0=> ?_)
  .have hj4:j<V.length:=VN
   have hrw:=ZJw V j hj4;have hxe:V.getD j ([],[],())=V[j]:=T3
   have hba:=λe=>Zef (n:=ZE n) hso hj4 e
   have htk:=JU hj4;rw[<-hxe]at hba htk;generalize V.getD j ([],[],())=x at hrw hba htk;have uu:=Zz uu hrw;refine WI.dregB tT [1,5,6,23] ?_
   refine Wo ?_;refine WE ?_;refine ZU ?_;refine dQC ?_;refine Zm ?_;refine VJ ?_;refine cd (λh1=> ?_) (λh1=> ?_)
   .have hx:x.1=ZE n:=V7
    have hb2:x.2.1=b:=by rw[<-hb,hba hx]
    have uu:=Zz uu hb2;refine VU ?_
    exact Wp
   .have hx: ¬x.1=ZE n:=V7
    have hno2: ∀a∈V.take (j+1),a.1≠ZE n:=λa ha=>by
     rw[htk]at ha;rcases KV.1 ha with ha|ha
     .exact hno a ha
     .rw[Qf]at ha;subst ha;exact hx
    refine rg [1,5,6] ?_;exact⟨⟨j+1,rfl,rfl,J0,hno2⟩,Wa⟩
  .refine VU ?_;rw[YO VN]at hno;rw[<-hb,Zfz hno];rfl
def ZV3:J8->J5
 | [.agg [.x (.str dn),.x (.sl R)],.x (.str n)]=>(ZM ZL R).bind λl=>some (decide (QD l/\n.length<=140737488355328),.x (.sl (rows ZC (ZGc l n))))
 |_=>none
theorem ZcN:QK Tryz.prog ZV3 61:=by
 intro args r h;unfold ZV3 at h;split at h
 .obtain⟨l,rfl,i0⟩:=un Ze h;obtain⟨h1,rfl⟩:=Yu i0;exact(ZgS _ l _ h1.1 h1.2)
 .cases h
theorem ZhC(dn:Tx)(l:List ZN)(n v:Tx)(k:Int)(h:QD l)(hn:n.length<=140737488355328):ZK Tryz.prog 62 [.agg [.x (.str dn),.x (.sl (rows ZL l))],.x (.str n),.x (.str v),.x (.int .i64 k)] (.x (.bool (ZIa l n v k))):=by
 have hd1:decide (QD l/\n.length<=140737488355328)=true:=ZI ⟨h,hn⟩;have hul:ZM ZL (rows ZL l)=some l:=ZX Ze l;have hgl:=ZTQ l n h;unfold ZIa;rcases hg:ZGc l n with V
 rw[hg]at hgl;refine ZH.pure (fC 62 true ?_) rfl;intro C0 E0;have uu:=ξ5 @ZV3.eq_1 @ZIh.eq_1 hd1 hul hg;have tT:=aQ (aQ ZB ZcN) ZLo;refine rg [1,2,3,4] ?_;refine rg [2,3,9] ?_;refine rg [2,3,9,10] ?_;refine WI.pickA [] ?_;refine WI.orderA [2,3,9,10] ?_;refine WI.loop (λφ os=> ∃(j:Nat),φ= [(2,.x (.str v)),(3,.x (.int .i64 k)),(9,.x (.sl (rows ZC V))),(10,.x (.int .i64 j))]/\os= []/\j<=V.length/\(V.take j).any (λx=>decide (eqV k x v=1))=false) (ZJ V.length 10) ?_ (λφ os hI=> ?_)
 .exact W8
 .obtain⟨j,rfl,rfl,hj,hno⟩:=hI;refine rg [2,3,9,10,17] ?_;refine cd (λh0=> ?_) (λh0=> ?_)
  .have hj4:j<V.length:=by clear uu;have:=ZP ZC V;omega
   have hrw:(rows ZC V)[j]? =some [X.str (V.getD j [])]:=by simp[rows,hj4,ZC]
   have hat:=ZLf (λx=>decide (eqV k x v=1)) V j hj4;have hmem:V.getD j []∈V:=by rw[show V.getD j []=V[j] by simp[hj4]];exact YG hj4
   generalize V.getD j []=x at hrw hat hmem;have uu:=Zz uu hrw;refine rg [2,3,9,10,27] ?_;refine cd (λh1=> ?_) (λh1=> ?_)
   .have hx:eqV k x v=1:=V7
    refine rg [8] ?_;refine lf ?_;rw[List.any_eq_true.2 ⟨x,hmem,ZI hx⟩]
   .have hx:decide (eqV k x v=1)=false:=V7
    refine rg [2,3,9,10] ?_;exact⟨⟨j+1,rfl,rfl,J0,by rw[hat,hno,hx];rfl⟩,Wa⟩
  .refine rg [8] ?_;refine lf ?_;rw[YO VN]at hno;rw[hno]
def ZV6:J8->J5
 | [.agg [.x (.str dn),.x (.sl R)],.x (.str n),.x (.str v),.x (.int .i64 k)]=>(ZM ZL R).bind λl=>some (decide (QD l/\n.length<=140737488355328),.x (.bool (ZIa l n v k)))
 |_=>none
theorem Zcj:QK Tryz.prog ZV6 62:=by
 intro args r h;unfold ZV6 at h;split at h
 .obtain⟨l,rfl,i0⟩:=un Ze h;obtain⟨h1,rfl⟩:=Yu i0;exact(ZhC _ l _ _ _ h1.1 h1.2)
 .cases h
theorem ZjV(l:List Tx)(s:Tx)(hl:l.length<=4000000000000):ZK Tryz.prog 133 [.x (.sl (rows ZC l)),.x (.str s)] (.x (.bool (decide (s∈l)))):=by
 refine ZH.pure (fC 133 true ?_) rfl;intro C0 E0;have uu:=trivial;have tT:=(ZB:SsOk Tryz.prog YH);refine VO ?_;refine WI.loop (λφ os=> ∃(j:Nat),φ= [(0,.x (.sl (rows ZC l))),(1,.x (.str s)),(5,.x (.int .i64 j))]/\os= []/\j<=l.length/\s∉l.take j) (ZJ l.length 5) ?_ (λφ os hI=> ?_)
 .exact UJ
 .obtain⟨j,rfl,rfl,hj,hn⟩:=hI;refine rg [0,1,5,9] ?_;refine cd (λh0=> ?_) (λh0=> ?_)
  .have hj4:j<l.length:=Wl
   have hrw:=KW l j hj4;have hg:l.getD j []=l[j]:=T3
   have hm:l.getD j []∈l:=by rw[hg];exact YG hj4
   have htk:l.take (j+1)=l.take j++ [l.getD j []]:=by rw[JU hj4,hg]
   generalize l.getD j []=x at hrw hm htk;have uu:=Zz uu hrw;refine rg [0,1,5,17] ?_;refine cd (λh1=> ?_) (λh1=> ?_)
   .have hx:x=s:=WC
    refine Wj ?_;subst hx;rw[ZI hm]
   .have hx: ¬x=s:=WC
    have hn2:s∉l.take (j+1):=by rw[htk];simp;exact⟨hn,λe=>hx e.symm⟩
    refine rg [0,1,5] ?_;exact⟨⟨j+1,rfl,rfl,J0,hn2⟩,Wa⟩
  .refine Wj ?_;rw[YO J0]at hn;rw[decide_eq_false hn]
def inG:J8->J5
 | [.x (.sl R),.x (.str s)]=>(ZM ZC R).bind λl=>some (decide (l.length<=4000000000000),.x (.bool (decide (s∈l))))
 |_=>none
theorem ZNJ:QK Tryz.prog inG 133:=by
 intro args r h;unfold inG at h;split at h
 .obtain⟨l,rfl,i0⟩:=un ZO h;obtain⟨h1,rfl⟩:=Yu i0;exact(ZjV l _ h1)
 .cases h
theorem Zcf(l:List Tx)(hl:l.length<=100000)(hn: ∀x∈l,x.length<=1000000):ZK Tryz.prog 168 [.x (.sl (rows ZC l))] (.x (.sl (rows ZC (l.map ZE)))):=by
 refine ZH.pure (fC 168 true ?_) rfl;intro C0 E0;have uu:= @ZID.eq_1;have tT:=aQ ZB ZIt;refine VD ?_;refine rg [0,3,4] ?_;refine WI.ownA 3 9 1 ?_;refine WI.loop (λφ os=> ∃(j:Nat),φ= [(0,.x (.sl (rows ZC l))),(3,.ref 0 ((l.take j).map ZE).length 0 ((l.take j).map ZE).length),(4,.x (.int .i64 j))]/\os= [.rows false 9 1 (rows ZC ((l.take j).map ZE))]/\j<=l.length) (ZJ l.length 4) ?_ (λφ os hI=> ?_)
 .exact Vf
 .obtain⟨j,rfl,rfl,hj⟩:=hI;refine rg [0,3,4,8] ?_;refine cd (λh0=> ?_) (λh0=> ?_)
  .have hj4:j<l.length:=Wl
   have hrw:=KW l j hj4;have htk:(l.take (j+1)).map ZE=(l.take j).map ZE++ [ZE (l.getD j [])]:=Tj
   have hd:=ZI (hn (l.getD j []) TP);have hlen2:((l.take j).map ZE).length<=100000:=T7
   generalize l.getD j []=x at hrw htk hd;have uu:=JJ uu hrw hd;refine rg [0,3,4] ?_;refine WI.pickA [0] ?_;refine rg [0,3,4] ?_;exact⟨⟨j+1,by rw[htk,ZW];rfl,by rw[htk,ZCr],J0⟩,Wa⟩
  .obtain rfl:j=l.length:=Wl
   rw[JX];refine rg [2] ?_;refine Gc ?_
   exact Wp
def ZLB:J8->J5
 | [.x (.sl R)]=>(ZM ZC R).bind λl=>some (decide (l.length<=100000/\ ∀x∈l,x.length<=1000000),.x (.sl (rows ZC (l.map ZE))))
 |_=>none
theorem ZN8:QK Tryz.prog ZLB 168:=by
 intro args r h;unfold ZLB at h;split at h
 .obtain⟨l,rfl,i0⟩:=un ZO h;obtain⟨h1,rfl⟩:=Yu i0;exact(Zcf l h1.1 h1.2)
 .cases h
def sD(T:List Zd)(C:List Zo):D:= .agg [.x (.sl (rows YC T)),.x (.sl (rows Yl C))]
def ZId:J8->J5
 | [.x (.str s)]=>some (decide (s.length<=140737488355328),.x (.str (ZE s)))
 |_=>none
theorem ZLg:QK Tryz.prog ZId 97:=by
 intro args r h;unfold ZId at h;split at h
 .obtain⟨h1,rfl⟩:=Yu h;exact(ZGz _ h1)
 .cases h
theorem ZgW{T:List Zd}{k:Tx}{j:Nat}(h:ZF (Zw (T.take j)) k=none)(hj:j<T.length)(hne:ZE (T.getD j ([],0,false,())).1≠k):ZF (Zw (T.take (j+1))) k=none:=by
 rw[Jy,ZRo]at h|-;rw[JU hj,Jd];intro hin;rcases KV.1 hin with h1|h1
 .exact h h1
 .refine hne ?_;simp[hj]at h1|-;exact h1.symm
theorem Zf3{T:List Zd}{k:Tx}{j:Nat}(h:ZF (Zw (T.take j)) k=none)(hj:j<T.length)(he:ZE (T.getD j ([],0,false,())).1=k):ZF (Zw T) k=some (ZSv (T.getD j ([],0,false,()))):=by
 have hg:T.getD j ([],0,false,())=T[j]:=by simp[hj]
 rw[hg]at he|-;have e:Zw T=Zw (T.take j)++((ZE T[j].1,ZSv T[j])::Zw (T.drop (j+1))):=by
  have e2:Zw (T[j]::T.drop (j+1))=(ZE T[j].1,ZSv T[j])::Zw (T.drop (j+1)):=rfl;rw[<-e2,<-ξU hj];unfold Zw;rw[<-Jd,ZBx]
 have h0:(Zw (T.take j)).find? (λp=>decide (k=p.1))=none:=by unfold ZF at h;simpa using h
 exact Gp
theorem Zfe(T:List Zd)(C:List Zo)(n:Tx)(hT:smT T)(hn:n.length<=140737488355328):ZK Tryz.prog 135 [sD T C,.x (.str n)] (.tup [tyD (Kb (Zw T) (ZE n)),.x (.bool (ZF (Zw T) (ZE n)).isSome)]):=by
 have hTl:=hT.1;have hdn:=ZI hn;unfold sD Kb;rcases hm:ZF (Zw T) (ZE n)with _|t
 all_goals
  unfold tyD;refine ZH.pure (fC 135 true ?_) rfl;intro C0 E0;have uu:=JJ @ZId.eq_1 hdn @ZLB.eq_1;have tT:=aQ (aQ ZB ZLg) ZN8;refine rg [1,2,4] ?_;refine rg [1,2,4,6] ?_;refine WI.orderA [1,2,4,6] ?_;refine WI.loop (λφ os=> ∃(j:Nat),φ= [(1,.x (.str n)),(2,.ptr 0 0),(4,.ptr 1 0),(6,.x (.int .i64 j))]/\os= [.box [.x (.sl (rows YC T)),.x (.sl (rows Yl C))],.box [.x (.str []),.x (.int .i64 0),.x (.bool false)]]/\j<=T.length/\ZF (Zw (T.take j)) (ZE n)=none) (ZJ T.length 6) ?_ (λφ os hI=> ?_)
  .exact W8
  .obtain⟨j,rfl,rfl,hj,hno⟩:=hI;refine rg [1,2,4,6,12] ?_;refine cd (λh0=> ?_) (λh0=> ?_)
   .have hj4:j<T.length:=Wl
    have hrw:=ZNw T j hj4;have hy:=Zf3 hno hj4;have hN:=ZgW hno hj4;have hxl:=hT.2 (T.getD j ([],0,false,())) (by rw[show T.getD j ([],0,false,())=T[j] by simp[hj4]];exact YG hj4);generalize T.getD j ([],0,false,())=x at hrw hy hN hxl;have hd47:decide (x.1.length<=140737488355328)=true:=ZI J0;have uu:=JJ uu hrw hd47;refine rg [1,2,4,6,24] ?_;refine cd (λh1=> ?_) (λh1=> ?_)
    .have hx:ZE x.1=ZE n:=WC
     have hy2:=hy hx;rw[hm]at hy2;refine rg [4,7] ?_;refine rg [4,7] ?_;refine WN ?_
     first|(cases hy2;done)|(cases hy2;rfl)
    .have hx: ¬ZE x.1=ZE n:=WC
     have hno2:=hN hx;refine rg [1,2,4,6] ?_;exact⟨⟨j+1,rfl,rfl,J0,hno2⟩,Wa⟩
   .refine WN ?_;rw[YO J0]at hno;rw[hm]at hno;first|rfl|(cases hno;done)
theorem ZiA{C:List Zo}{k:Tx}{j:Nat}(h:ZF (YQ (C.take j)) k=none)(hj:j<C.length)(hne:ZE (C.getD j ([],[],[],())).1≠k):ZF (YQ (C.take (j+1))) k=none:=by
 rw[Jy,ZRV]at h|-;rw[JU hj,Jd];intro hin;rcases KV.1 hin with h1|h1
 .exact h h1
 .refine hne ?_;simp[hj]at h1|-;exact h1.symm
theorem Zdy{C:List Zo}{k:Tx}{j:Nat}(h:ZF (YQ (C.take j)) k=none)(hj:j<C.length)(he:ZE (C.getD j ([],[],[],())).1=k):ZF (YQ C) k=some (ZDJ (C.getD j ([],[],[],()))):=by
 have hg:C.getD j ([],[],[],())=C[j]:=by simp[hj]
 rw[hg]at he|-;have e:YQ C=YQ (C.take j)++((ZE C[j].1,ZDJ C[j])::YQ (C.drop (j+1))):=by
  have e2:YQ (C[j]::C.drop (j+1))=(ZE C[j].1,ZDJ C[j])::YQ (C.drop (j+1)):=rfl;rw[<-e2,<-ξU hj];unfold YQ;rw[<-Jd,ZBx]
 have h0:(YQ (C.take j)).find? (λp=>decide (k=p.1))=none:=by unfold ZF at h;simpa using h
 exact Gp
def ZDt(C:List Zo):Prop:=C.length<=100000/\ ∀x∈C,x.1.length<=1000000/\(x.2.1.length<=50000/\ ∀n∈x.2.1,n.length<=1000000)/\(x.2.2.1.length<=50000/\ ∀n∈x.2.2.1,n.length<=1000000)
instance (C:List Zo):Decidable (ZDt C):=inferInstanceAs (Decidable (_/\_))
theorem Zcz(T:List Zd)(C:List Zo)(n:Tx)(hC:ZDt C)(hn:n.length<=1000000):ZK Tryz.prog 132 [sD T C,.x (.str n)] (.tup [clD (clV (YQ C) (ZE n)),.x (.bool (ZF (YQ C) (ZE n)).isSome)]):=by
 have hCl:=hC.1;have hdn:decide (n.length<=140737488355328)=true:=ZI J0;unfold sD clV;rcases hm:ZF (YQ C) (ZE n)with _|t
 all_goals
  unfold clD;refine ZH.pure (fC 132 true ?_) rfl;intro C0 E0;have uu:=Qt @ZId.eq_1 @ZLB.eq_1 @ZOB hdn;have tT:=aQ (aQ ZB ZLg) ZN8;refine rg [1,2,4] ?_;refine rg [1,2,4,6] ?_;refine WI.nnA ?_;refine WI.orderA [1,2,4,6] ?_;refine WI.loop (λφ os=> ∃(j:Nat),φ= [(1,.x (.str n)),(2,.ptr 0 0),(4,.ptr 1 0),(6,.x (.int .i64 j))]/\os= [.box [.x (.sl (rows YC T)),.x (.sl (rows Yl C))],.box [.x (.str []),.x (.sl []),.x (.sl [])]]/\j<=C.length/\ZF (YQ (C.take j)) (ZE n)=none) (ZJ C.length 6) ?_ (λφ os hI=> ?_)
  .exact W8
  .obtain⟨j,rfl,rfl,hj,hno⟩:=hI;refine rg [1,2,4,6,12] ?_;refine cd (λh0=> ?_) (λh0=> ?_)
   .have hj4:j<C.length:=Wl
    have hrw:=ZTc C j hj4;have hy:=Zdy hno hj4;have hN:=ZiA hno hj4;have hxl:=hC.2 (C.getD j ([],[],[],())) (by rw[show C.getD j ([],[],[],())=C[j] by simp[hj4]];exact YG hj4);generalize C.getD j ([],[],[],())=x at hrw hy hN hxl;obtain⟨hx1,hx2,hx3⟩:=hxl;have hd47:decide (x.1.length<=140737488355328)=true:=ZI J0;have hd48:decide (x.2.1.length<=100000/\ ∀n∈x.2.1,n.length<=1000000)=true:=ZI ⟨J0,hx2.2⟩;have hd49:decide (x.2.2.1.length<=100000/\ ∀n∈x.2.2.1,n.length<=1000000)=true:=ZI ⟨J0,hx3.2⟩;have uu:=ξ5 uu hrw hd47 hd48 hd49;refine rg [1,2,4,6,7] ?_;refine rg [1,2,4,6,7,25] ?_;refine cd (λh1=> ?_) (λh1=> ?_)
    .have hx:ZE x.1=ZE n:=WC
     have hy2:=hy hx;rw[hm]at hy2;refine WI.dregB tT [4,5] ?_;refine Vn ?_;refine dQC ?_;refine Vn ?_;refine dQC ?_;refine Vn ?_;refine dAC ?_;refine Zm ?_;refine Qx ?_;refine ZU ?_;refine VJ ?_;refine lf ?_
     first|(cases hy2;done)|(cases hy2;rfl)
    .have hx: ¬ZE x.1=ZE n:=WC
     have hno2:=hN hx;refine WI.pickA [0,1] ?_;refine rg [1,2,4,6] ?_;exact⟨⟨j+1,rfl,rfl,J0,hno2⟩,Wa⟩
   .refine rg [4,5] ?_;refine WI.nnA ?_;refine lf ?_;rw[YO J0]at hno;rw[hm]at hno;first|rfl|(cases hno;done)
def ZKi:J8->J5
 | [.agg [.x (.sl R),.x (.sl R2)],.x (.str n)]=>(ZM YC R).bind λT=>(ZM Yl R2).bind λC=>some (decide (smT T/\n.length<=1000000),.tup [tyD (Kb (Zw T) (ZE n)),.x (.bool (ZF (Zw T) (ZE n)).isSome)])
 |_=>none
theorem ZKK:QK Tryz.prog ZKi 135:=by
 intro args r h;unfold ZKi at h;split at h
 .rename_i R R2 n;obtain⟨T,rfl,i0⟩:=un JI h;obtain⟨C,rfl,i1⟩:=un JT i0;obtain⟨h1,rfl⟩:=Yu i1;exact(Zfe T C n h1.1 J0)
 .cases h
def ZOX:J8->J5
 | [.agg [.x (.sl R),.x (.sl R2)],.x (.str n)]=>(ZM YC R).bind λT=>(ZM Yl R2).bind λC=>some (decide (ZDt C/\n.length<=1000000),.tup [clD (clV (YQ C) (ZE n)),.x (.bool (ZF (YQ C) (ZE n)).isSome)])
 |_=>none
theorem ZXa:QK Tryz.prog ZOX 132:=by
 intro args r h;unfold ZOX at h;split at h
 .obtain⟨T,rfl,i0⟩:=un JI h;obtain⟨C,rfl,i1⟩:=un JT i0;obtain⟨h1,rfl⟩:=Yu i1;exact(Zcz T C _ h1.1 h1.2)
 .cases h
def nmL(L:List (Tx×Zd))(a:ZN):Tx:=(Kb L (ZE a.1)).1
def ZGi(k:Int)(a b:Tx):Prop:=eqV k a b≠1
instance (k:Int) (a b:Tx):Decidable (ZGi k a b):=inferInstanceAs (Decidable (¬_))
def ZHl(L:List (Tx×Zd)):List Tx->List ZN->Bool
 |_,[]=>false
 |S,a::l=>(decide (nmL L a∈S)|| !decide (a.2.1.Pairwise (ZGi (Kb L (ZE a.1)).2.1)))||ZHl L (S++ [nmL L a]) l
def ZLE(L:List (Tx×Zd))(l:List ZN):Int:=
 if ZHl L [] l=true then 20 else if l.all (λa=> !((Kb L (ZE a.1)).2.2.1&&decide (1<a.2.1.length)))=true then 0 else 19
theorem ZZ8{α:Type}{P:α->α->Prop}{l:List α}{k:Nat}(h:k<l.length):(l.take (k+1)).Pairwise P↔(l.take k).Pairwise P/\ ∀x∈l.take k,P x l[k]:=by
 rw[JU h,ZOZ];simp
set_option maxHeartbeats 4000000 in
theorem Zg7(T:List Zd)(C:List Zo)(e:Zc)(hT:smT T)(he:smA e.2.1)(hv: ∀a∈e.2.1,∀v∈a.2.1,v.length<=1000000):ZK Tryz.prog 167 [sD T C,ZEg e] (.x (.int .i64 (ZLE (Zw T) e.2.1))):=by
 obtain⟨dn,l,u⟩:=e;simp only at he hv|-;have hll:l.length<=1000000:=he.1;rcases hres:ZLE (Zw T) l with v
 unfold ZLE at hres;have hTd:=ZI hT;unfold sD ZEg;refine ZH.pure (fC 167 true ?_) rfl;intro C0 E0;have uu:=ξn @ZKi.eq_1 (ξn @inG.eq_1 (ξn @ZIh.eq_1 (ξn @ZFS (ξn @ZOB (ξn @ZGP (ξn @@tyD.eq_1 (@ZH0.eq_1)))))));have tT:=aQ (aT (aQ (aQ ZB ZKK) ZNJ) (ZCV ZNJ)) ZLo;refine rg [2,3] ?_;refine rg [2,3,5] ?_;refine rg [2,3,5,6] ?_;refine WI.ownA 5 9 1 ?_;refine WI.loop (λφ os=> ∃(i:Nat),φ= [(2,.ptr 0 0),(3,.ptr 1 0),(5,.ref 2 ((l.take i).map (nmL (Zw T))).length 0 ((l.take i).map (nmL (Zw T))).length),(6,.x (.int .i64 i))]/\os= [.box [.x (.sl (rows YC T)),.x (.sl (rows Yl C))],.box [.x (.str dn),.x (.sl (rows ZL l))],.rows false 9 1 (rows ZC ((l.take i).map (nmL (Zw T))))]/\i<=l.length/\ZHl (Zw T) ((l.take i).map (nmL (Zw T))) (l.drop i)=ZHl (Zw T) [] l) (ZJ l.length 6) ?_ (λφ os hI=> ?_)
 .exact W8
 .obtain⟨i,rfl,rfl,hi,hdf⟩:=hI;refine rg [2,3,5,6,19] ?_;refine cd (λh0=> ?_) (λh0=> ?_)
  .have hi4:i<l.length:=Wl
   have hrw:=ZEe l i hi4;have hdr:=ZKP l ([],[],()) i hi4;have hnt:(l.take (i+1)).map (nmL (Zw T))=(l.take i).map (nmL (Zw T))++ [nmL (Zw T) (l.getD i ([],[],()))]:=by rw[JU hi4,Jd];simp[hi4]
   have hma:l.getD i ([],[],())∈l:=Vs
   generalize l.getD i ([],[],())=a at hrw hdr hma hnt;obtain⟨hna,hnv⟩:=he.2 a hma;have hva:=hv a hma;rw[hdr,ZHl]at hdf;obtain⟨an,vs,au⟩:=a;simp only at hna hnv hva hdf hrw hnt;obtain⟨t,ht⟩: ∃t,t=Kb (Zw T) (ZE an):=⟨_,rfl⟩;have hnm:nmL (Zw T) (an,vs,au)=t.1:=by rw[ht];rfl
   rw[<-ht,hnm]at hdf;rw[hnm]at hnt;have hSl:((l.take i).map (nmL (Zw T))).length<=1000000:=T7
   generalize(l.take i).map (nmL (Zw T))=S at hdf hnt hSl|-;have hd1:decide (smT T/\an.length<=1000000)=true:=ZI ⟨hT,hna⟩;have hd2:decide (S.length<=4000000000000)=true:=ZI J0;have hrt:(rows ZC S).take S.length=rows ZC S:=YO (by rw[ZP];exact Zp _);have uu:=ξ6 uu hrw ht.symm hd1 hd2 hrt;refine WI.dregB tT [2,3,5,6,7] ?_;refine Ni ?_
   refine Wz ?_;refine rg [2,3,5,6,7,36] ?_;refine cd (λh1=> ?_) (λh1=> ?_)
   .have hin:t.1∈S:=Wv
    rw[ZI hin,ZFu,ZFu]at hdf;refine VU ?_;rw[<-hdf,if_pos rfl]at hres;rw[hres]
   .have hin: ¬t.1∈S:=Wv
    rw[decide_eq_false hin,ZEv]at hdf;refine rg [2,3,5,6,7] ?_;refine rg [2,3,5,6,7,9] ?_;refine rg [2,3,5,6,7,9,10] ?_;refine WI.pickA [0,1,2,3] ?_;refine WI.loop (λφ os=> ∃(k:Nat),φ= [(2,.ptr 0 0),(3,.ptr 1 0),(5,.ref 2 (S.length+1) 0 (S.length+1)),(6,.x (.int .i64 i)),(7,.ptr 3 0),(9,.x (.sl (rows ZC vs))),(10,.x (.int .i64 k))]/\os= [.box [.x (.sl (rows YC T)),.x (.sl (rows Yl C))],.box [.x (.str dn),.x (.sl (rows ZL l))],.rows false 9 1 (rows ZC S++ [[X.str t.1]]),.box [.x (.str t.1),.x (.int .i64 t.2.1),.x (.bool t.2.2.1)]]/\k<=vs.length/\(vs.take k).Pairwise (ZGi t.2.1)) (ZJ vs.length 10) ?_ (λφ os hI=> ?_)
    .exact⟨0,rfl,rfl,J0,.nil⟩
    .obtain⟨k,rfl,rfl,hk,hpw⟩:=hI;refine rg [2,3,5,6,7,9,10,51] ?_;refine cd (λh2=> ?_) (λh2=> ?_)
     .have hk4:k<vs.length:=Wl
      have hrk:=KW vs k hk4;refine rg [2,3,5,6,7,9,10,11] ?_;refine WI.loop (λφ os=> ∃(j:Nat),φ= [(2,.ptr 0 0),(3,.ptr 1 0),(5,.ref 2 (S.length+1) 0 (S.length+1)),(6,.x (.int .i64 i)),(7,.ptr 3 0),(9,.x (.sl (rows ZC vs))),(10,.x (.int .i64 k)),(11,.x (.int .i64 j))]/\os= [.box [.x (.sl (rows YC T)),.x (.sl (rows Yl C))],.box [.x (.str dn),.x (.sl (rows ZL l))],.rows false 9 1 (rows ZC S++ [[X.str t.1]]),.box [.x (.str t.1),.x (.int .i64 t.2.1),.x (.bool t.2.2.1)]]/\j<=k/\ ∀x∈vs.take j,ZGi t.2.1 x (vs.getD k [])) (ZJ k 11) ?_ (λφ os hI=> ?_)
      .exact UJ
      .obtain⟨j,rfl,rfl,hj,hne⟩:=hI;refine rg [2,3,5,6,7,9,10,11,56] ?_;refine cd (λh3=> ?_) (λh3=> ?_)
       .have hj4:j<k:=Wl
        have hrj:=KW vs j J0;have hgj:vs.getD j []=vs[j]:=by simp[show j<vs.length by omega]
        have hgk:vs.getD k []=vs[k]:=by simp[hk4]
        have uu:=JJ uu hrk hrj;refine WI.dregB tT [2,3,5,6,7,9,10,11,70] ?_;refine Vn ?_
        refine Wo ?_;refine VK ?_;refine Wo ?_;refine VK ?_;refine dAC ?_;refine Zm ?_;refine VJ ?_;refine cd (λh4=> ?_) (λh4=> ?_)
        .have h1e:eqV t.2.1 (vs.getD j []) (vs.getD k [])=1:=UY
         have hnp: ¬vs.Pairwise (ZGi t.2.1):=λhp=>(ZE8.1 hp j k J0 hk4 hj4) (by rw[<-hgj,<-hgk];exact h1e)
         rw[decide_eq_false hnp,ZMU,ZFu]at hdf;refine VU ?_;rw[<-hdf,if_pos rfl]at hres;rw[hres]
        .have h1e: ¬eqV t.2.1 (vs.getD j []) (vs.getD k [])=1:=UY
         have hne2: ∀x∈vs.take (j+1),ZGi t.2.1 x (vs.getD k []):=λx hx=>by
          rw[JU J0]at hx;rcases KV.1 hx with h|h
          .exact hne x h
          .rw[Qf.1 h,<-hgj];exact h1e
         refine rg [2,3,5,6,7,9,10,11] ?_;exact⟨⟨j+1,rfl,rfl,J0,hne2⟩,Wa⟩
       .obtain rfl:k=j:=Wl
        have hpw2:(vs.take (k+1)).Pairwise (ZGi t.2.1):=(ZZ8 hk4).2 ⟨hpw,λx hx=>by have:=hne x hx;rwa [show vs.getD k []=vs[k] by simp[hk4]]at this⟩;refine rg [2,3,5,6,7,9,10] ?_;exact⟨⟨k+1,rfl,rfl,J0,hpw2⟩,Wa⟩
     .obtain rfl:k=vs.length:=Wl
      rw[JX]at hpw;rw[ZI hpw,ZOU,ZEv]at hdf;refine WI.pickA [0,1,2] ?_;refine WI.orderA [2,3,5,6] ?_;refine rg [2,3,5,6] ?_;exact⟨⟨i+1,by rw[hnt,ZW];rfl,by rw[hnt,ZCr],J0,by rw[hnt];exact hdf⟩,Wa⟩
  .obtain rfl:i=l.length:=Wl
   rw[ZBB (Zp _),ZHl]at hdf;rw[<-hdf,if_neg J1]at hres;refine WI.pickA [0,1] ?_;refine WI.orderA [2,3] ?_;refine rg [2,3,12] ?_;refine WI.loop (λφ os=> ∃(i:Nat),φ= [(2,.ptr 0 0),(3,.ptr 1 0),(12,.x (.int .i64 i))]/\os= [.box [.x (.sl (rows YC T)),.x (.sl (rows Yl C))],.box [.x (.str dn),.x (.sl (rows ZL l))]]/\i<=l.length/\(l.take i).all (λa=> !((Kb (Zw T) (ZE a.1)).2.2.1&&decide (1<a.2.1.length)))=true) (ZJ l.length 12) ?_ (λφ os hI=> ?_)
   .exact W8
   .obtain⟨i,rfl,rfl,hi,hall⟩:=hI;refine rg [2,3,12,75] ?_;refine cd (λh5=> ?_) (λh5=> ?_)
    .have hi4:i<l.length:=Wl
     have hrw:=ZEe l i hi4;have hga:l[i]=l.getD i ([],[],()):=G9
     have hal:=Yq (λa:ZN=> !((Kb (Zw T) (ZE a.1)).2.2.1&&decide (1<a.2.1.length))) l i hi4;have hno:(!((Kb (Zw T) (ZE (l.getD i ([],[],())).1)).2.2.1&&decide (1<(l.getD i ([],[],())).2.1.length)))=false->l.all (λa:ZN=> !((Kb (Zw T) (ZE a.1)).2.2.1&&decide (1<a.2.1.length)))=false:=λh=>Zj (λa:ZN=> !((Kb (Zw T) (ZE a.1)).2.2.1&&decide (1<a.2.1.length))) l i hi4 (by rw[hga];exact h)
     have hma:l.getD i ([],[],())∈l:=by rw[<-hga];exact YG hi4
     rw[hga]at hal;generalize l.getD i ([],[],())=a at hrw hma hal hno;obtain⟨hna,hnv⟩:=he.2 a hma;obtain⟨an,vs,au⟩:=a;simp only at hna hnv hrw hal hno;obtain⟨t,ht⟩: ∃t,t=Kb (Zw T) (ZE an):=⟨_,rfl⟩;rw[<-ht]at hal hno;have hd1:decide (smT T/\an.length<=1000000)=true:=ZI ⟨hT,hna⟩;have uu:=Qt uu hrw ht.symm hd1;refine WI.dregB tT [2,3,12,13] ?_;refine Ni ?_
     refine Wz ?_;refine rg [2,3,12,100] ?_;refine cd (λh6=> ?_) (λh6=> ?_)
     .have hb:(t.2.2.1&&decide (1<vs.length))=true:=Wv
      rw[hno (by rw[hb];rfl),if_neg J1]at hres;refine VU ?_;rw[hres]
     .have hb:(t.2.2.1&&decide (1<vs.length))=false:=Wv
      have hall2:(l.take (i+1)).all (λa:ZN=> !((Kb (Zw T) (ZE a.1)).2.2.1&&decide (1<a.2.1.length)))=true:=by rw[hal,hall,hb];rfl
      refine WI.pickA [0,1] ?_;refine WI.orderA [2,3,12] ?_;refine rg [2,3,12] ?_;exact VZ
    .refine VU ?_;rw[YO J0]at hall;rw[hall,if_pos rfl]at hres;rw[hres]
def smE(l:List ZN):Prop:=smA l/\ ∀a∈l,∀v∈a.2.1,v.length<=1000000
instance (l:List ZN):Decidable (smE l):=inferInstanceAs (Decidable (_/\_))
def ZWz:J8->J5
 | [.agg [.x (.sl R),.x (.sl R2)],.agg [.x (.str dn),.x (.sl R3)]]=>(ZM YC R).bind λT=>(ZM Yl R2).bind λC=>(ZM ZL R3).bind λl=>some (decide (smT T/\smE l),.x (.int .i64 (ZLE (Zw T) l)))
 |_=>none
theorem Zcn:QK Tryz.prog ZWz 167:=by
 intro args r h;unfold ZWz at h;split at h
 .rename_i R R2 dn R3;obtain⟨T,rfl,i0⟩:=un JI h;obtain⟨C,rfl,i1⟩:=un JT i0;obtain⟨l,rfl,i2⟩:=un Ze i1;obtain⟨h1,rfl⟩:=Yu i2;exact(Zg7 T C (dn,l,()) h1.1 h1.2.1 h1.2.2)
 .cases h
def v1F(L:List (Tx×Zd))(a:ZN):Bool:=(ZF L (ZE a.1)).isSome
def v2F(a:ZN):Bool:= !decide (a.2.1.length=0)
def v3F(L:List (Tx×Zd))(a:ZN):Bool:=a.2.1.all λv=>(Yy (Kb L (ZE a.1)).2.1 v).2
def ZGI(L:List (Tx×Zd))(l:List ZN):Int:=
 if l.all (v1F L)=true then(if l.all v2F=true then(if l.all (v3F L)=true then ZLE L l else 21)else 19)else 17
set_option maxHeartbeats 4000000 in
theorem ZZM(T:List Zd)(C:List Zo)(e:Zc)(hT:smT T)(he:smE e.2.1):ZK Tryz.prog 131 [sD T C,ZEg e] (.x (.int .i64 (ZGI (Zw T) e.2.1))):=by
 obtain⟨dn,l,u⟩:=e;simp only at he|-;have hll:l.length<=1000000:=he.1.1;rcases hres:ZGI (Zw T) l with v
 unfold ZGI at hres;have hd0:decide (smT T/\smE l)=true:=ZI ⟨hT,he⟩;unfold sD ZEg;refine ZH.pure (fC 131 true ?_) rfl;intro C0 E0;have uu:=ξ8 @ZKi.eq_1 @ZWz.eq_1 @ZK9.eq_1 @ZFS @ZGP @ZQ4 hd0 (@@tyD.eq_1);have tT:=aQ (aQ (aQ ZB ZKK) Zcn) ZNq;refine rg [2,3] ?_;refine rg [2,3,5] ?_;refine WI.orderA [2,3,5] ?_;refine WI.loop (λφ os=> ∃(i:Nat),φ= [(2,.ptr 0 0),(3,.ptr 1 0),(5,.x (.int .i64 i))]/\os= [.box [.x (.sl (rows YC T)),.x (.sl (rows Yl C))],.box [.x (.str dn),.x (.sl (rows ZL l))]]/\i<=l.length/\(l.take i).all (v1F (Zw T))=true) (ZJ l.length 5) ?_ (λφ os hI=> ?_)
 .exact W8
 .obtain⟨i,rfl,rfl,hi,hall⟩:=hI;refine rg [2,3,5,19] ?_;refine cd (λh0=> ?_) (λh0=> ?_)
  .have hi4:i<l.length:=Wl
   have hrw:=ZEe l i hi4;have hga:l[i]=l.getD i ([],[],()):=G9
   have hal:=Yq (v1F (Zw T)) l i hi4;have hno:v1F (Zw T) (l.getD i ([],[],()))=false->l.all (v1F (Zw T))=false:=λh=>Zj (v1F (Zw T)) l i hi4 (by rw[hga];exact h)
   have hma:l.getD i ([],[],())∈l:=by rw[<-hga];exact YG hi4
   rw[hga]at hal;generalize l.getD i ([],[],())=a at hrw hma hal hno;obtain⟨hna,hnv⟩:=he.1.2 a hma;have hv1:v1F (Zw T) a=(ZF (Zw T) (ZE a.1)).isSome:=rfl;have hd1:decide (smT T/\a.1.length<=1000000)=true:=ZI ⟨hT,hna⟩;have uu:=JJ uu hrw hd1;refine WI.dregB tT [2,3,5,7] ?_;refine Ni ?_
   refine Wz ?_;refine rg [2,3,5,34] ?_;refine cd (λh1=> ?_) (λh1=> ?_)
   .have hb:v1F (Zw T) a=false:=by rw[hv1];exact GW
    rw[hno hb,if_neg J1]at hres;exact UK
   .have hb:v1F (Zw T) a=true:=by rw[hv1];exact GW
    have hall2:(l.take (i+1)).all (v1F (Zw T))=true:=by rw[hal,hall,hb];rfl
    refine WI.pickA [0,1] ?_;refine WI.orderA [2,3,5] ?_;refine rg [2,3,5] ?_;exact VZ
  .rw[YO J0]at hall;rw[hall,if_pos rfl]at hres;refine rg [2,3,8] ?_;refine WI.orderA [2,3,8] ?_;refine WI.loop (λφ os=> ∃(i:Nat),φ= [(2,.ptr 0 0),(3,.ptr 1 0),(8,.x (.int .i64 i))]/\os= [.box [.x (.sl (rows YC T)),.x (.sl (rows Yl C))],.box [.x (.str dn),.x (.sl (rows ZL l))]]/\i<=l.length/\(l.take i).all v2F=true) (ZJ l.length 8) ?_ (λφ os hI=> ?_)
   .exact W8
   .obtain⟨i,rfl,rfl,hi,hall⟩:=hI;refine rg [2,3,8,39] ?_;refine cd (λh2=> ?_) (λh2=> ?_)
    .have hi4:i<l.length:=Wl
     have hrw:=ZEe l i hi4;have hga:l[i]=l.getD i ([],[],()):=G9
     have hal:=Yq v2F l i hi4;have hno:v2F (l.getD i ([],[],()))=false->l.all v2F=false:=λh=>Zj v2F l i hi4 (by rw[hga];exact h)
     rw[hga]at hal;generalize l.getD i ([],[],())=a at hrw hal hno;have hv1:v2F a= !decide (a.2.1.length=0):=rfl;have uu:=Zz uu hrw;refine rg [2,3,8,49] ?_;refine cd (λh3=> ?_) (λh3=> ?_)
     .have hb:v2F a=false:=by rw[hv1];clear uu;simp at h3|-;exact h3
      rw[hno hb,if_neg J1]at hres;exact UK
     .have hb:v2F a=true:=by rw[hv1];clear uu;simp at h3|-;exact h3
      have hall2:(l.take (i+1)).all v2F=true:=by rw[hal,hall,hb];rfl
      refine rg [2,3,8] ?_;exact VZ
    .rw[YO J0]at hall;rw[hall,if_pos rfl]at hres;refine rg [2,3,9] ?_;refine WI.orderA [2,3,9] ?_;refine WI.loop (λφ os=> ∃(i:Nat),φ= [(2,.ptr 0 0),(3,.ptr 1 0),(9,.x (.int .i64 i))]/\os= [.box [.x (.sl (rows YC T)),.x (.sl (rows Yl C))],.box [.x (.str dn),.x (.sl (rows ZL l))]]/\i<=l.length/\(l.take i).all (v3F (Zw T))=true) (ZJ l.length 9) ?_ (λφ os hI=> ?_)
     .exact W8
     .obtain⟨i,rfl,rfl,hi,hall⟩:=hI;refine rg [2,3,9,54] ?_;refine cd (λh4=> ?_) (λh4=> ?_)
      .have hi4:i<l.length:=Wl
       have hrw:=ZEe l i hi4;have hga:l[i]=l.getD i ([],[],()):=G9
       have hal:=Yq (v3F (Zw T)) l i hi4;have hno:v3F (Zw T) (l.getD i ([],[],()))=false->l.all (v3F (Zw T))=false:=λh=>Zj (v3F (Zw T)) l i hi4 (by rw[hga];exact h)
       have hma:l.getD i ([],[],())∈l:=by rw[<-hga];exact YG hi4
       rw[hga]at hal;generalize l.getD i ([],[],())=a at hrw hma hal hno;obtain⟨hna,hnv⟩:=he.1.2 a hma;obtain⟨an,vs,au⟩:=a;simp only at hna hnv hrw hal hno;obtain⟨t,ht⟩: ∃t,t=Kb (Zw T) (ZE an):=⟨_,rfl⟩;have hv1:v3F (Zw T) (an,vs,au)=vs.all λv=>(Yy t.2.1 v).2:=by rw[ht];rfl
       have hd1:decide (smT T/\an.length<=1000000)=true:=ZI ⟨hT,hna⟩;have uu:=Qt uu hrw ht.symm hd1;refine WI.dregB tT [2,3,9,10] ?_;refine Ni ?_
       refine Wz ?_;refine rg [2,3,9,10,12] ?_;refine WI.orderA [2,3,9,10,12] ?_;refine WI.loop (λφ os=> ∃(k:Nat),φ= [(2,.ptr 0 0),(3,.ptr 1 0),(9,.x (.int .i64 i)),(10,.ptr 2 0),(12,.x (.int .i64 k))]/\os= [.box [.x (.sl (rows YC T)),.x (.sl (rows Yl C))],.box [.x (.str dn),.x (.sl (rows ZL l))],.box [.x (.str t.1),.x (.int .i64 t.2.1),.x (.bool t.2.2.1)]]/\k<=vs.length/\(vs.take k).all (λv=>(Yy t.2.1 v).2)=true) (ZJ vs.length 12) ?_ (λφ os hI=> ?_)
       .exact W8
       .obtain⟨k,rfl,rfl,hk,hka⟩:=hI;refine rg [2,3,9,10,12,76] ?_;refine cd (λh5=> ?_) (λh5=> ?_)
        .have hk4:k<vs.length:=Wl
         have hrk:=KW vs k hk4;have hgk:vs[k]=vs.getD k []:=by simp[hk4]
         have hak:=Yq (λv=>(Yy t.2.1 v).2) vs k hk4;have hnk:(Yy t.2.1 (vs.getD k [])).2=false->vs.all (λv=>(Yy t.2.1 v).2)=false:=λh=>Zj (λv=>(Yy t.2.1 v).2) vs k hk4 (by rw[hgk];exact h)
         rw[hgk]at hak;generalize vs.getD k []=y at hrk hak hnk;have uu:=Zz uu hrk;refine WI.dregB tT [2,3,9,10,12,14] ?_;refine Td ?_;refine Td ?_;refine ZU ?_
         refine VK ?_;refine dAC ?_;refine ZU ?_;refine Vo ?_;refine Wo ?_;refine dN ?_;refine rg [2,3,9,10,12,95] ?_;refine cd (λh6=> ?_) (λh6=> ?_)
         .have hb:(Yy t.2.1 y).2=false:=Wv
          rw[hno (by rw[hv1];exact hnk hb),if_neg J1]at hres;exact UK
         .have hb:(Yy t.2.1 y).2=true:=Wv
          have hka2:(vs.take (k+1)).all (λv=>(Yy t.2.1 v).2)=true:=by rw[hak,hka,hb];rfl
          refine rg [2,3,9,10,12] ?_;exact⟨⟨k+1,rfl,rfl,J0,hka2⟩,Wa⟩
        .obtain rfl:k=vs.length:=Wl
         rw[JX]at hka;have hall2:(l.take (i+1)).all (v3F (Zw T))=true:=by rw[hal,hall,hv1,hka];rfl
         refine WI.pickA [0,1] ?_;refine WI.orderA [2,3,9] ?_;refine rg [2,3,9] ?_;exact VZ
      .rw[YO J0]at hall;rw[hall,if_pos rfl]at hres;exact UK
def ZL1:J8->J5
 | [.agg [.x (.sl R),.x (.sl R2)],.agg [.x (.str dn),.x (.sl R3)]]=>(ZM YC R).bind λT=>(ZM Yl R2).bind λC=>(ZM ZL R3).bind λl=>some (decide (smT T/\smE l),.x (.int .i64 (ZGI (Zw T) l)))
 |_=>none
theorem ZUM:QK Tryz.prog ZL1 131:=by
 intro args r h;unfold ZL1 at h;split at h
 .rename_i R R2 dn R3;obtain⟨T,rfl,i0⟩:=un JI h;obtain⟨C,rfl,i1⟩:=un JT i0;obtain⟨l,rfl,i2⟩:=un Ze i1;obtain⟨h1,rfl⟩:=Yu i2;exact(ZZM T C (dn,l,()) h1.1 h1.2)
 .cases h
def ocF(M:List (Tx×Zo))(cs:List Tx)(h:Tx):Bool:=decide (h=OC)||decide (h∈ZBG M cs)
def ZKT(L:List (Tx×Zd))(M:List (Tx×Zo))(l:List ZN):Int:=
 if ZGI L l≠0 then ZGI L l else if(ZCg l).length=0 then 65 else if(ZCg l).all (ZCb M (Qm l))=true then(if(Qm l).all (ocF M (ZCg l))=true then 0 else 65)else 65
theorem ZaM{C:List Zo}(h:ZDt C)(k:Tx):(clV (YQ C) k).2.1.length<=50000/\(clV (YQ C) k).2.2.1.length<=50000:=by
 unfold clV;rcases hm:ZF (YQ C) k with _|c
 .simp
 .obtain⟨x,hx,e⟩:=YR.1 (JS hm);have:=h.2 x hx;simp only[YN]at e;rw[<-e.2];simp only[Qu,ZDJ,YZ];exact⟨this.2.1.1,this.2.2.1⟩
theorem ZOS{C:List Zo}(h:ZDt C): ∀cs:List Tx,(ZBG (YQ C) cs).length<=cs.length*100000
 | []=>by simp[ZBG]
 |n::cs=>by
  have:=ZOS h cs;have:=ZaM h (ZE n);unfold ZBG at*;rw[ZOn,ZW,ZW,JB];omega
set_option maxHeartbeats 4000000 in
theorem Zcl(T:List Zd)(C:List Zo)(e:Zc)(hT:smT T)(hC:ZDt C)(he:smE e.2.1):ZK Tryz.prog 87 [sD T C,ZEg e] (.x (.int .i64 (ZKT (Zw T) (YQ C) e.2.1))):=by
 obtain⟨dn,l,u⟩:=e;simp only at he|-;have hll:l.length<=1000000:=he.1.1;obtain⟨hcl,hcv⟩:=ZUs he.1 he.2;have hoc:(OC:Tx)= [111,98,106,101,99,116,99,108,97,115,115]:=rfl;rcases hres:ZKT (Zw T) (YQ C) l with v
 unfold ZKT at hres;have hd0:decide (smT T/\smE l)=true:=ZI ⟨hT,he⟩;unfold sD ZEg;refine ZH.pure (fC 87 true ?_) rfl;intro C0 E0;have uu:=ξ9 @ZL1.eq_1 @ZOX.eq_1 @ZID.eq_1 @inG.eq_1 @ZFS @ZOB @ZGP @ZQ4 (Zz hd0 @ZH0.eq_1);have tT:=aT (aQ (aQ (aQ (aQ ZB ZUM) ZXa) ZIt) ZNJ) (ZCV ZNJ);refine rg [2,3] ?_;refine rg [2,3,5] ?_;refine rg [2,3,5,19] ?_;refine cd (λh0=> ?_) (λh0=> ?_)
 .rw[if_pos Vg]at hres;exact UK
 .rw[if_neg Vg]at hres;refine rg [2,3,6,7,8] ?_;refine rg [2,3,6,7,8,9] ?_;refine WI.ownA 6 9 1 ?_;refine WI.ownA 8 9 1 ?_;refine WI.nnA ?_;refine WI.orderA [2,3,6,7,8,9] ?_;refine WI.loop (λφ os=> ∃(i:Nat),φ= [(2,.ptr 0 0),(3,.ptr 1 0),(6,.ref 2 (Qm (l.take i)).length 0 (Qm (l.take i)).length),(7,.x (.sl (rows ZC (ZCg (l.take i))))),(8,.ref 3 0 0 0),(9,.x (.int .i64 i))]/\os= [.box [.x (.sl (rows YC T)),.x (.sl (rows Yl C))],.box [.x (.str dn),.x (.sl (rows ZL l))],.rows false 9 1 (rows ZC (Qm (l.take i))),.rows false 9 1 []]/\i<=l.length) (ZJ l.length 9) ?_ (λφ os hI=> ?_)
  .exact Vf
  .obtain⟨i,rfl,rfl,hi⟩:=hI;refine rg [2,3,6,7,8,9,25] ?_;refine cd (λh1=> ?_) (λh1=> ?_)
   .have hi4:i<l.length:=Wl
    have hrw:=ZEe l i hi4;have hnt:=ZPb l i hi4;have hct:=ZPg l i hi4;have hma:l.getD i ([],[],())∈l:=Vs
    generalize l.getD i ([],[],())=a at hrw hnt hct hma;have hd1:=ZI (he.1.2 a hma).1;have hnl:(Qm (l.take i)).length<=1000000:=by unfold Qm;rw[YZ,Ys];omega
    have uu:=JJ uu hrw hd1;refine rg [2,3,6,7,8,9] ?_;refine rg [2,3,6,7,8,9,45] ?_;refine cd (λh2=> ?_) (λh2=> ?_)
    .rw[if_pos (by rw[hoc];simpa using h2)]at hct;refine rg [2,3,6,7,8,9] ?_;exact U1
    .rw[if_neg (λe=>h2 (e.trans hoc))]at hct;exact U1
   .obtain rfl:i=l.length:=Wl
    rw[JX];have hHl:(Qm l).length<=1000000:=by unfold Qm;rw[YZ];omega
    generalize Qm l=H at hres hHl|-;generalize ZCg l=cs at hres hcl hcv|-;refine rg [2,6,7,8,54] ?_;refine cd (λh3=> ?_) (λh3=> ?_)
    .rw[if_pos UZ]at hres;exact UK
    .rw[if_neg UZ]at hres;refine rg [2,6,7,8,10] ?_;refine WI.orderA [2,6,7,8,10] ?_;refine WI.loop (λφ os=> ∃(i:Nat),φ= [(2,.ptr 0 0),(6,.ref 2 H.length 0 H.length),(7,.x (.sl (rows ZC cs))),(8,.ref 3 (ZBG (YQ C) (cs.take i)).length 0 (ZBG (YQ C) (cs.take i)).length),(10,.x (.int .i64 i))]/\os= [.box [.x (.sl (rows YC T)),.x (.sl (rows Yl C))],.box [.x (.str dn),.x (.sl (rows ZL l))],.rows false 9 1 (rows ZC H),.rows false 9 1 (rows ZC (ZBG (YQ C) (cs.take i)))]/\i<=cs.length/\(cs.take i).all (ZCb (YQ C) H)=true) (ZJ cs.length 10) ?_ (λφ os hI=> ?_)
     .exact W8
     .obtain⟨i,rfl,rfl,hi,hall⟩:=hI;refine rg [2,6,7,8,10,58] ?_;refine cd (λh4=> ?_) (λh4=> ?_)
      .have hi4:i<cs.length:=Wl
       have hrw:=KW cs i hi4;have hmt:=ZPZ (YQ C) cs i hi4;have hgi:cs[i]=cs.getD i []:=G9
       have hnl:(cs.getD i []).length<=1000000:=by rw[<-hgi];exact hcv _ (YG hi4)
       have hal:=Yq (ZCb (YQ C) H) cs i hi4;have hno:ZCb (YQ C) H (cs.getD i [])=false->cs.all (ZCb (YQ C) H)=false:=λh=>Zj (ZCb (YQ C) H) cs i hi4 (by rw[hgi];exact h)
       rw[hgi]at hal;have hYl:=ZOS hC (cs.take i);rw[Ys]at hYl;have hYm:(ZBG (YQ C) (cs.take i)).length<=100000000000:=ZEQ hYl (ZEQ (Ku _ (show min i cs.length<=1000000 by omega)) J0);generalize ZBG (YQ C) (cs.take i)=Y at hmt hYm|-;generalize cs.getD i []=n at hrw hmt hnl hal hno;have hb:=ZaM hC (ZE n);have hcd:ZCb (YQ C) H n=((ZF (YQ C) (ZE n)).isSome&&(clV (YQ C) (ZE n)).2.1.all λx=>decide (x∈H)):=rfl;obtain⟨c,hc⟩: ∃c,c=clV (YQ C) (ZE n):=⟨_,rfl⟩;rw[<-hc]at hmt hb hcd;have hd1:decide (ZDt C/\n.length<=1000000)=true:=ZI ⟨hC,hnl⟩;have uu:=ξ5 uu hrw hc.symm (@clD.eq_1) hd1;refine WI.dregB tT [2,6,7,8,10,11,12] ?_;refine Zb ?_
       refine Wo ?_;refine VK ?_;refine dQC ?_;refine Nv ?_;refine rg [2,6,7,8,10,11,71] ?_;refine cd (λh5=> ?_) (λh5=> ?_)
       .have hb5:ZCb (YQ C) H n=false:=by rw[hcd];exact GW
        rw[hno hb5,if_neg J1]at hres;exact UK
       .have hso:(ZF (YQ C) (ZE n)).isSome=true:=Wv
        rw[hso,ZA0]at hcd;refine rg [2,6,7,8,10,11,13] ?_;refine WI.orderA [2,6,7,8,10,11,13] ?_;refine WI.loop (λφ os=> ∃(k:Nat),φ= [(2,.ptr 0 0),(6,.ref 2 H.length 0 H.length),(7,.x (.sl (rows ZC cs))),(8,.ref 3 Y.length 0 Y.length),(10,.x (.int .i64 i)),(11,.ptr 4 0),(13,.x (.int .i64 k))]/\os= [.box [.x (.sl (rows YC T)),.x (.sl (rows Yl C))],.box [.x (.str dn),.x (.sl (rows ZL l))],.rows false 9 1 (rows ZC H),.rows false 9 1 (rows ZC Y),.box [.x (.str c.1),.x (.sl (rows ZC c.2.1)),.x (.sl (rows ZC c.2.2.1))]]/\k<=c.2.1.length/\(c.2.1.take k).all (λx=>decide (x∈H))=true) (ZJ c.2.1.length 13) ?_ (λφ os hI=> ?_)
        .exact W8
        .obtain⟨k,rfl,rfl,hk,hka⟩:=hI;refine rg [2,6,7,8,10,11,13,76] ?_;refine cd (λh6=> ?_) (λh6=> ?_)
         .have hk4:k<c.2.1.length:=Wl
          have hrk:=KW c.2.1 k hk4;have hgk:c.2.1[k]=c.2.1.getD k []:=by simp[hk4]
          have hak:=Yq (λx=>decide (x∈H)) c.2.1 k hk4;have hnk:c.2.1.getD k []∉H->c.2.1.all (λx=>decide (x∈H))=false:=λh=>Zj (λx=>decide (x∈H)) c.2.1 k hk4 (by rw[hgk];exact decide_eq_false h)
          rw[hgk]at hak;generalize c.2.1.getD k []=x at hrk hak hnk;have hd2:decide (H.length<=4000000000000)=true:=ZI J0;have hrt:(rows ZC H).take H.length=rows ZC H:=YO (by rw[ZP];exact Zp _);have uu:=Qt uu hrk hd2 hrt;refine rg [2,6,7,8,10,11,13,86] ?_;refine cd (λh7=> ?_) (λh7=> ?_)
          .have hxn:x∉H:=Wv
           rw[hno (by rw[hcd];exact hnk hxn),if_neg J1]at hres;exact UK
          .have hxi:x∈H:=Wv
           have hka2:(c.2.1.take (k+1)).all (λx=>decide (x∈H))=true:=by rw[hak,hka,ZI hxi];rfl
           refine rg [2,6,7,8,10,11,13] ?_;exact⟨⟨k+1,rfl,rfl,J0,hka2⟩,Wa⟩
         .obtain rfl:k=c.2.1.length:=Wl
          rw[JX]at hka;rw[hka]at hcd;have hall2:(cs.take (i+1)).all (ZCb (YQ C) H)=true:=by rw[hal,hall,hcd];rfl
          refine rg [2,6,7,8,10,11] ?_;refine rg [2,6,7,8,10] ?_;refine WI.pickA [0,1,2,3] ?_;refine WI.orderA [2,6,7,8,10] ?_;refine rg [2,6,7,8,10] ?_;exact⟨⟨i+1,by rw[hmt,ZW,ZW,ZEq];first|done|rfl,by rw[hmt];simp[rows,Yw],J0,hall2⟩,Wa⟩
      .obtain rfl:i=cs.length:=Wl
       rw[JX]at hall|-;rw[hall,if_pos rfl]at hres;have hYl:=ZOS hC cs;have hYm:(ZBG (YQ C) cs).length<=100000000000:=ZEQ hYl (ZEQ (Ku _ hcl) J0);generalize hYY:ZBG (YQ C) cs=Y at hYm|-;refine WI.orderA [6,8] ?_;refine rg [6,8,14] ?_;refine WI.orderA [6,8,14] ?_;refine WI.loop (λφ os=> ∃(i:Nat),φ= [(6,.ref 2 H.length 0 H.length),(8,.ref 3 Y.length 0 Y.length),(14,.x (.int .i64 i))]/\os= [.box [.x (.sl (rows YC T)),.x (.sl (rows Yl C))],.box [.x (.str dn),.x (.sl (rows ZL l))],.rows false 9 1 (rows ZC H),.rows false 9 1 (rows ZC Y)]/\i<=H.length/\(H.take i).all (ocF (YQ C) cs)=true) (ZJ H.length 14) ?_ (λφ os hI=> ?_)
       .exact W8
       .obtain⟨i,rfl,rfl,hi,hall⟩:=hI;refine rg [6,8,14,98] ?_;refine cd (λh8=> ?_) (λh8=> ?_)
        .have hi4:i<H.length:=Wl
         have hrw:=KW H i hi4;have hgi:H[i]=H.getD i []:=G9
         have hal:=Yq (ocF (YQ C) cs) H i hi4;have hno:ocF (YQ C) cs (H.getD i [])=false->H.all (ocF (YQ C) cs)=false:=λh=>Zj (ocF (YQ C) cs) H i hi4 (by rw[hgi];exact h)
         rw[hgi]at hal;generalize H.getD i []=x at hrw hal hno;have hof:ocF (YQ C) cs x=(decide (x= [111,98,106,101,99,116,99,108,97,115,115])||decide (x∈Y)):=by rw[<-hYY,<-hoc];rfl
         have hd2:decide (Y.length<=4000000000000)=true:=ZI J0;have hrt:(rows ZC Y).take Y.length=rows ZC Y:=YO (by rw[ZP];exact Zp _);have uu:=Qt uu hrw hd2 hrt;by_cases hxo:x= [111,98,106,101,99,116,99,108,97,115,115]
         .have hg:(x== [111,98,106,101,99,116,99,108,97,115,115])=true:=by rw[hxo];exact beq_self_eq_true _
          have uu:=Zz uu hg;refine rg [6,8,14,114] ?_;refine ce (λh9=> ?_) (λh9=> ?_)
          .simp at h9
          .have hall2:(H.take (i+1)).all (ocF (YQ C) cs)=true:=by rw[hal,hall,hof,ZI hxo];rfl
           refine rg [6,8,14] ?_;exact VZ
         .have hg:(x== [111,98,106,101,99,116,99,108,97,115,115])=false:=by rw[beq_eq_false_iff_ne];exact hxo
          have uu:=Zz uu hg;refine rg [6,8,14,114] ?_;refine cd (λh9=> ?_) (λh9=> ?_)
          .have hxn:x∉Y:=Wv
           rw[hno (by rw[hof,decide_eq_false hxo,decide_eq_false hxn];rfl),if_neg J1]at hres;exact UK
          .have hxi:x∈Y:=Wv
           have hall2:(H.take (i+1)).all (ocF (YQ C) cs)=true:=by rw[hal,hall,hof,ZI hxi,ZEL];rfl
           refine rg [6,8,14] ?_;exact VZ
        .refine Wj ?_;rw[YO J0]at hall;rw[hall,if_pos rfl]at hres;rw[hres]
theorem ZXg{dn:Tx}(h:JG dn=true): ∃r,(YX (YL dn)).1= [r]/\JA r=true:=by
 obtain⟨r,d,hd,h1,h2⟩:=ZIS h;obtain⟨h3,h4⟩:=ZEC hd.chk;have hm:=h4 r ZAw;have hc:Jr [r]=0:=ZRa J1 (by simpa using hm);have hl:(JD r).length<=4096:=by
  have:=hd.len;rw[hd.nam]at this;have h5:(JD r).length<=(Kc (r::d)).length:=ZHm (YR.2 ⟨r,ZAw,rfl⟩);omega
 exact⟨r,by rw[h1];exact congrArg Prod.fst (ZKe (d:= [r]) hc hl),hm⟩
set_option maxHeartbeats 4000000 in
theorem ZVv(T:List Zd)(C:List Zo)(dn:Tx)(l:List ZN)(hT:smT T)(h:QD l):ZK Tryz.prog 88 [sD T C,.agg [.x (.str dn),.x (.sl (rows ZL l))]] (.x (.bool (ZFz (Zw T) dn l))):=by
 obtain⟨d,hd⟩: ∃d,(YX (YL dn)).1=d:=⟨_,rfl⟩;have hq:JG dn=true-> ∃r,d= [r]/\JA r=true:=λe=>by rw[<-hd];exact ZXg e
 rcases hres:ZFz (Zw T) dn l with v
 unfold ZFz at hres;rw[hd]at hres;have hul:ZM ZL (rows ZL l)=some l:=ZX Ze l;have hu1:=ZFS T;have hu2:=ZGP C;have hrd:=ZP Jg d;unfold sD;refine ZH.pure (fC 88 true ?_) rfl;intro C0 E0;have uu:=ξ9 @ZTE.eq_1 @ZH8.eq_1 @ZKi.eq_1 @ZV6.eq_1 hul hd hu1 hu2 hrd;have tT:=aQ (aQ (aQ (aQ ZB ZaA) ZIm) ZKK) Zcj;refine rg [2,3] ?_;refine rg [2,3,5,6] ?_;refine rg [2,3,6,7] ?_;refine rg [2,3,7,29] ?_;refine cd (λh0=> ?_) (λh0=> ?_)
 .have hv:JG dn=false:=by
   rcases Bool.eq_false_or_eq_true (JG dn)with e|e
   .obtain⟨r,rfl,_⟩:=hq e;rw[e]at h0;clear uu hres;simp at h0
   .exact e
  rw[hv,ZFA]at hres;subst hres;refine Wj ?_
  exact Wp
 .have hv:JG dn=true:=by clear uu hres;grind
  obtain⟨r,rfl,hmb⟩:=hq hv;rw[hv,ZI (show [r]≠ [] by simp),ZA0,ZA0,List.headD_cons]at hres;obtain⟨hr8,hr1,hpb⟩:=ZBQ hmb;have hr0:(rows Jg [r])[0]? =some [X.sl (rows Zt r)]:=rfl;have uu:=Zz uu hr0;refine rg [2,3,7,9] ?_;refine WI.loop (λφ os=> ∃(j:Nat),φ= [(2,.ptr 0 0),(3,.ptr 1 0),(7,.x (.sl (rows Jg [r]))),(9,.x (.int .i64 j))]/\os= [.box [.x (.sl (rows YC T)),.x (.sl (rows Yl C))],.box [.x (.str dn),.x (.sl (rows ZL l))]]/\j<=r.length/\(r.take j).all (ZCF (Zw T) l)=true) (ZJ r.length 9) ?_ (λφ os hI=> ?_)
  .exact W8
  .obtain⟨j,rfl,rfl,hj,hall⟩:=hI;refine rg [2,3,7,9,35] ?_;refine cd (λh1=> ?_) (λh1=> ?_)
   .have hj4:j<r.length:=by clear uu;have:=ZP Zt r;omega
    have hrw:=ZCU r j hj4;have hg:r[j]=r.getD j ([],[]):=T3
    have hal:=Yq (ZCF (Zw T) l) r j hj4;have hno:ZCF (Zw T) l (r.getD j ([],[]))=false->r.all (ZCF (Zw T) l)=false:=λh=>Zj (ZCF (Zw T) l) r j hj4 (by rw[hg];exact h)
    have hpl:=hpb r[j] (YG hj4);rw[hg]at hal hpl;generalize r.getD j ([],[])=p at hrw hal hno hpl;have hn1:ZCF (Zw T) l p=((ZF (Zw T) (ZE p.1)).isSome&&ZIa l p.1 p.2 (Kb (Zw T) (ZE p.1)).2.1):=rfl;have hdp:decide (smT T/\p.1.length<=1000000)=true:=ZI ⟨hT,J0⟩;have hdt:=ZI hT;have hdh:decide (QD l/\p.1.length<=140737488355328)=true:=ZI ⟨h,J0⟩;have uu:=ξ6 uu hrw hdp hdt hdh @tyD.eq_1;refine WI.dregB tT [2,3,7,9,10,11] ?_;refine Zb ?_;refine ZU ?_
    refine Zb ?_;refine WE ?_;refine Vn ?_;refine dQC ?_;refine Nv ?_;refine nz ?_;refine WI.dregB tT [2,3,7,9,72] ?_;refine ZU ?_;refine Zm ?_;refine Vn ?_;refine Zm ?_;refine VK ?_;refine Wt ?_;refine VK ?_;refine Wt ?_;refine Zb ?_;refine dAC ?_;refine Vo ?_;refine VJ ?_;refine cd (λh2=> ?_) (λh2=> ?_)
    .have hf:ZCF (Zw T) l p=false:=by rw[hn1];exact GW
     rw[hno hf]at hres;subst hres;refine Wj ?_
     exact Wp
    .have hf:ZCF (Zw T) l p=true:=by rw[hn1];exact GW
     have hall2:(r.take (j+1)).all (ZCF (Zw T) l)=true:=by rw[hal,hall,hf];rfl
     refine WI.pickA [0,1] ?_;refine WI.orderA [2,3,7,9] ?_;refine rg [2,3,7,9] ?_;exact Te
   .obtain rfl:j=r.length:=by clear uu;have:=ZP Zt r;omega
    rw[JX]at hall;rw[hall]at hres;subst hres;refine Wj ?_
    exact Wp
def ZJx:J8->J5
 | [.agg [.x (.sl A),.x (.sl B)],.agg [.x (.str dn),.x (.sl R)]]=>(ZM YC A).bind λT=>(ZM Yl B).bind λC=>(ZM ZL R).bind λl=>some (decide (smT T/\QD l),.x (.bool (ZFz (Zw T) dn l)))
 |_=>none
theorem ZTr:QK Tryz.prog ZJx 88:=by
 intro args r h;unfold ZJx at h;split at h
 .obtain⟨T,rfl,i0⟩:=un JI h;obtain⟨C,rfl,i1⟩:=un JT i0;obtain⟨l,rfl,i2⟩:=un Ze i1;obtain⟨h1,rfl⟩:=Yu i2;exact(ZVv T C _ l h1.1 h1.2)
 .cases h
def ZOa:J8->J5
 | [.x (.sl R),.agg [.x (.str dn),.x (.sl A)]]=>(ZM Zn R).bind λl=>(ZM ZL A).bind λa=>some (decide (l.length<=100000),.x (.sl (rows Zn (ZBT (dn,a,()) false l))))
 |_=>none
theorem ZXT:QK Tryz.prog ZOa 136:=by
 intro args r h;unfold ZOa at h;split at h
 .rename_i R dn A;obtain⟨l,rfl,i0⟩:=un Yn h;obtain⟨a,rfl,i1⟩:=un Ze i0;obtain⟨h1,rfl⟩:=Yu i1;exact(ZbV l (dn,a,()) h1)
 .cases h
theorem Zed(S1 S2:J6)(l:List Zc)(dn:Tx)(a:List ZN)(hl:l.length<=100000)(h:QD a):ZK Tryz.prog 89 [.agg [.x (.sl S1),.x (.sl S2),.x (.sl (rows Zn l))],.agg [.x (.str dn),.x (.sl (rows ZL a))]] (.agg [.x (.sl S1),.x (.sl S2),.x (.sl (rows Zn (ZBT (dn,Zg a,()) false l)))]):=by
 have c1:=ZI h.1;have c2:=ZI h.2.1;have c3:decide (∀x∈a,x.2.1.length<=1000)=true:=ZI λx hx=>by have:=h.2.2 x hx;omega
 have c4:=ZI hl;have hul:ZM ZL (rows ZL a)=some a:=ZX Ze a;have huc:ZM ZL (rows ZL (Zg a))=some (Zg a):=ZX Ze _;have hue:ZM Zn (rows Zn l)=some l:=ZX Yn l;have hce:=ZTu a;refine ZH.pure (fC 89 true ?_) rfl;intro C0 E0;have uu:=ξ9 @ZLD.eq_1 @ZOa.eq_1 hul huc hue hce @c1 @c2 (Zz @c3 @c4);have tT:=aQ (aQ ZB ZM6) ZXT;refine rg [2,3,4] ?_;refine WI.dregB tT [2,4] ?_;refine ZU ?_
 refine VK ?_;refine dQC ?_;refine dAC ?_;refine ZU ?_;refine Qx ?_;refine dN ?_;refine Wj ?_
 exact Wp
def ZRb:J8->J5
 | [.agg [.x (.sl A),.x (.sl B),.x (.sl R)],.agg [.x (.str dn),.x (.sl E)]]=>(ZM Zn R).bind λl=>(ZM ZL E).bind λa=>some (decide (l.length<=100000/\QD a),.agg [.x (.sl A),.x (.sl B),.x (.sl (rows Zn (ZBT (dn,Zg a,()) false l)))])
 |_=>none
theorem ZZq:QK Tryz.prog ZRb 89:=by
 intro args r h;unfold ZRb at h;split at h
 .obtain⟨l,rfl,i0⟩:=un Yn h;obtain⟨a,rfl,i1⟩:=un Ze i0;obtain⟨h1,rfl⟩:=Yu i1;exact(Zed _ _ l _ a h1.1 h1.2)
 .cases h
theorem ZK7{g:Zd->ZN->Int}{L:List (Tx×Zd)}{P:ZN->Bool}{k:Int}(hk:k≠0)(l:List ZN)(h: ∀a∈l,g (Kb L (ZE a.1)) a=if P a=true then 0 else k):goA g L l=if l.all P=true then 0 else k:=by
 induction l with
 |nil=>rfl
 |cons a l ih=>
  have ha:=h a ZAw;have ih:=ih (λx hx=>h x (ξW _ hx));unfold goA;rw[ha,ZAL];cases hp:P a
  .simp[hk]
  .rw[if_neg J1,ZA0];exact ih
def ZHx(L:List (Tx×Zd)):Prop:= ∀p∈L,p.2.1≠ []
instance (L:List (Tx×Zd)):Decidable (ZHx L):=inferInstanceAs (Decidable (∀p∈L,_))
theorem ZY3{L:List (Tx×Zd)}(h:ZHx L)(k:Tx):((Kb L k).1= [])=((ZF L k).isSome=false):=by
 unfold Kb;rcases hm:ZF L k with _|t
 .simp
 .have:=h _ (JS hm);simp only[Qu,Option.isSome_some,Bool.true_eq_false,eq_iff_iff,iff_false];exact this
theorem Zir{k:Int}{l:List Tx}(h:l.all (λv=>(Yy k v).2)=true):twV k l= !decide (l.Pairwise (ZGi k)):=by
 unfold twV;congr 1;rw[decide_eq_decide,List.Nodup,Zaz];have hv: ∀v∈l,(Yy k v).2=true:=WJ
 constructor
 .intro hp;refine hp.imp_of_mem λ{a b} ha hb hne=> ?_
  unfold ZGi eqV;rw[if_pos ⟨hv a ha,hv b hb⟩,if_neg (show ¬(Yy k a).1=(Yy k b).1 from hne)];decide
 .intro hp;refine hp.imp_of_mem λ{a b} ha hb hne=> ?_
  unfold ZGi eqV at hne;rw[if_pos ⟨hv a ha,hv b hb⟩]at hne;intro e;exact hne (if_pos e)
theorem ZaS(L:List (Tx×Zd)): ∀(l:List ZN) (S:Sn) (S':List Tx),(∀k,(0<snG S k↔k∈S')/\0<=snG S k)->l.all (v3F L)=true->(goS L S l).1=if ZHl L S' l=true then 20 else 0
 | [],S,S',_,_=>by simp[goS,ZHl]
 |a::l,S,S',hS,hv=>by
  rw[ZAL,Zk]at hv;have ht:=Zir (k:=(Kb L (ZE a.1)).2.1) hv.1;have hS2: ∀k,(0<snG (snS S (Kb L (ZE a.1)).1) k↔k∈S'++ [nmL L a])/\0<=snG (snS S (Kb L (ZE a.1)).1) k:=by
   intro k;rw[ZVj];have h1:=hS k;have h2:=hS (Kb L (ZE a.1)).1;have e:nmL L a=(Kb L (ZE a.1)).1:=rfl;rw[e,KV,Qf];split
   .rename_i hk;subst hk;exact⟨⟨λ_=> .inr rfl,λ_=>J0⟩,J0⟩
   .rename_i hk;exact⟨⟨λh=> .inl (h1.1.1 h),λh=>by rcases h with h|h;exact h1.1.2 h;exact absurd h hk⟩,h1.2⟩
  have ih:=ZaS L l _ _ hS2 hv.2;have hm:0<snG S (Kb L (ZE a.1)).1↔nmL L a∈S':=(hS _).1;unfold goS ZHl w4;rw[ht];by_cases h1:nmL L a∈S'
  .have h0:=hm.2 h1;simp[h1,h0]
  .have h0: ¬0<snG S (Kb L (ZE a.1)).1:=λh=>h1 (hm.1 h)
   by_cases h2:a.2.1.Pairwise (ZGi (Kb L (ZE a.1)).2.1)
   .rw[ZI h2,decide_eq_false h1];simp only[h0,ZOU,ZEv,JV,or_self,if_false,ne_eq,not_true_eq_false];exact ih
   .simp[h0,h1,h2]
theorem Zd5{L:List (Tx×Zd)}(h:ZHx L)(l:List ZN):ZHQ L l=ZGI L l:=by
 have e1:goA w1 L l=if l.all (v1F L)=true then 0 else 17:=ZK7 WS l (λa _=>by
  unfold w1 v1F;have hf:=ZY3 h (ZE a.1);cases hb:(ZF L (ZE a.1)).isSome
  .rw[if_pos (by rw[hf];exact hb)];rfl
  .rw[if_neg (by rw[hf,hb];decide)];rfl)
 have e2:goA w2 L l=if l.all v2F=true then 0 else 19:=ZK7 WS l (λa _=>by
  unfold w2 v2F;by_cases h:a.2.1.length=0<;>simp[h])
 have e3:goA w3 L l=if l.all (v3F L)=true then 0 else 21:=ZK7 WS l (λa _=>rfl)
 have e5:goA w5 L l=if l.all (λa=> !((Kb L (ZE a.1)).2.2.1&&decide (1<a.2.1.length)))=true then 0 else 19:=ZK7 WS l (λa _=>by
  unfold w5;cases h1:(Kb L (ZE a.1)).2.2.1<;>by_cases h2:1<a.2.1.length<;>simp[h1,h2])
 unfold ZHQ ZGI ZLE;rw[e1,e2,e3,e5];by_cases h1:l.all (v1F L)=true
 .by_cases h2:l.all v2F=true
  .by_cases h3:l.all (v3F L)=true
   .have e4:=ZaS L l [] [] (λk=>⟨by simp[snG,ZF],by simp[snG,ZF]⟩) h3;rw[e4];simp only[h1,h2,h3,if_true,ne_eq,not_true_eq_false,if_false];by_cases h4:ZHl L [] l=true<;>simp[h4]
   .simp[h1,h2,h3]
  .simp[h1,h2]
 .simp[h1]
theorem ZgH{L:List (Tx×Zd)}(M:List (Tx×Zo))(h:ZHx L)(l:List ZN):ZH1 L M l=ZKT L M l:=by
 unfold ZH1 ZKT;rw[Zd5 h];have e:(Qm l).all (λh=>decide (h∈OC::ZBG M (ZCg l)))=(Qm l).all (ocF M (ZCg l)):=by
  congr 1;funext x;unfold ocF;rw[Qg];simp
 rw[e];by_cases h0:ZGI L l≠0
 .rw[if_pos h0,if_pos h0]
 .rw[if_neg h0,if_neg h0];rcases hc:ZCg l with _|⟨c,cs⟩
  .simp
  .generalize(c::cs).all (ZCb M (Qm l))=b1;generalize(Qm l).all (ocF M (c::cs))=b2;cases b1<;>cases b2<;>simp
def isIn(l:List Zc)(n:Tx):Bool:=decide (atG l n<l.length)
theorem ZUl(l:List Zc)(n:Tx):0<=(if atG l n<l.length then(atG l n:Int)else-1)↔isIn l n=true:=by
 unfold isIn;by_cases h:atG l n<l.length
 .rw[if_pos h,ZI h];simp
 .rw[if_neg h,decide_eq_false h];simp
theorem ZZf(s:Tx):(if okS s=true then((Zv s).length:Int)else-1)<1↔JG s=false:=by
 unfold JG;by_cases h:okS s=true
 .rw[if_pos h];cases e:Zv s<;>simp<;>omega
 .rw[if_neg h,show Zv s= [] by unfold Zv;rw[ZMj]at h;rw[h];rfl];simp
def ZE3(L:List (Tx×Zd))(M:List (Tx×Zo))(l:List Zc)(dn:Tx)(a:List ZN):Int:=
 if JG dn=false then 34 else if isIn l dn=true then 68 else if isIn l (YB dn)=false/\YB dn≠ []then 32 else if ZDe L M dn a≠0 then ZDe L M dn a else if 1024<=l.length then 80 else 0
def ZIn(c:Int)(l:List Zc)(dn:Tx)(a:List ZN):List Zc:=if c=0 then ZBT (dn,Zg a,()) false l else l
def ZMa:J8->J5
 | [.agg [.x (.sl A),.x (.sl B)],.agg [.x (.str dn),.x (.sl R)]]=>(ZM YC A).bind λT=>(ZM Yl B).bind λC=>(ZM ZL R).bind λl=>some (decide (smT T/\(ZDt C/\smE l)),.x (.int .i64 (ZKT (Zw T) (YQ C) l)))
 |_=>none
theorem ZUK:QK Tryz.prog ZMa 87:=by
 intro args r h;unfold ZMa at h;split at h
 .rename_i A B dn R;obtain⟨T,rfl,i0⟩:=un JI h;obtain⟨C,rfl,i1⟩:=un JT i0;obtain⟨l,rfl,i2⟩:=un Ze i1;obtain⟨h1,rfl⟩:=Yu i2;exact(Zcl T C (dn,l,()) h1.1 h1.2.1 h1.2.2)
 .cases h
set_option maxHeartbeats 4000000 in
theorem Zdg(T:List Zd)(C:List Zo)(l:List Zc)(dn:Tx)(a:List ZN)(hT:smT T)(hC:ZDt C)(hn:ZHx (Zw T))(hl:l.length<=100000)(hs:QD a)(he:smE a):ZK Tryz.prog 48 [.agg [.x (.sl (rows YC T)),.x (.sl (rows Yl C)),.x (.sl (rows Zn l))],.agg [.x (.str dn),.x (.sl (rows ZL a))]] (.tup [.agg [.x (.sl (rows YC T)),.x (.sl (rows Yl C)),.x (.sl (rows Zn (ZIn (ZE3 (Zw T) (YQ C) l dn a) l dn a)))],.x (.int .i64 (ZE3 (Zw T) (YQ C) l dn a))]):=by
 have c1:=ZI hl;have c2:decide (smT T/\QD a)=true:=ZI ⟨hT,hs⟩;have c3:decide (smT T/\(ZDt C/\smE a))=true:=ZI ⟨hT,hC,he⟩;have c4:decide (l.length<=100000/\QD a)=true:=ZI ⟨hl,hs⟩;have hul:ZM ZL (rows ZL a)=some a:=ZX Ze a;have hue:ZM Zn (rows Zn l)=some l:=ZX Yn l;have hu1:=ZFS T;have hu2:=ZGP C;have hrl:=ZP Zn l;have hck:=ZgH (YQ C) hn a;have hdp:=ZZf dn;have ha1:=ZUl l dn;have ha2:=ZUl l (YB dn);rcases hres:ZE3 (Zw T) (YQ C) l dn a with c
 unfold ZE3 ZDe at hres;rw[hck]at hres;refine ZH.pure (fC 48 true ?_) rfl;intro C0 E0;have uu:=ξ9 @ZOP.eq_1 @ZMO.eq_1 @ZQn.eq_1 @ZJx.eq_1 @ZRb.eq_1 @ZMa.eq_1 @c1 @c2 (ξ7 @c3 @c4 hul hue hu1 hu2 hrl);have tT:=aQ (aQ (aQ (aQ (aQ (aQ ZB ZWn) ZUC) ZSe) ZTr) ZZq) ZUK;refine rg [2,3,4] ?_;refine rg [2,3,4,6] ?_;refine rg [2,3,4,6,7] ?_;refine rg [2,3,4,7,19] ?_;refine cd (λh0=> ?_) (λh0=> ?_)
 .rw[if_pos (hdp.1 Gb)]at hres;exact G2
 .rw[if_neg (λe=>absurd (hdp.2 e) Gb)]at hres;refine rg [2,3,4,7,23] ?_;refine cd (λh1=> ?_) (λh1=> ?_)
  .rw[if_pos (ha1.1 V7)]at hres;exact G2
  .rw[if_neg (λe=>absurd (ha1.2 e) V7)]at hres;refine rg [2,3,4,30] ?_;refine cd (λh2=> ?_) (λh2=> ?_)
   .have h2':isIn l (YB dn)=false/\YB dn≠ []:=by clear uu hres;grind
    rw[if_pos h2']at hres;exact G2
   .have h2': ¬(isIn l (YB dn)=false/\YB dn≠ []):=by clear uu hres;grind
    rw[if_neg h2']at hres;refine rg [2,3,4,9] ?_;refine rg [2,3,4,9,45] ?_;refine cd (λh3=> ?_) (λh3=> ?_)
    .have h3':ZKT (Zw T) (YQ C) a≠0:=by clear uu hres;simpa using h3
     rw[if_pos h3',if_pos h3']at hres;refine WN ?_;subst hres;unfold ZIn;rw[if_neg h3']
    .have h3': ¬ZKT (Zw T) (YQ C) a≠0:=by clear uu hres;simpa using h3
     rw[if_neg h3']at hres;refine rg [2,3,4,48] ?_;refine cd (λh4=> ?_) (λh4=> ?_)
     .rw[if_neg (show ¬ZFz (Zw T) dn a=true by clear uu hres;simpa using h4)]at hres;rw[if_pos WS]at hres;exact G2
     .rw[if_pos (show ZFz (Zw T) dn a=true by clear uu hres;simpa using h4),if_neg WS]at hres;refine rg [2,3,4,55] ?_;refine cd (λh5=> ?_) (λh5=> ?_)
      .rw[if_pos (by clear uu hres;first|omega|(simp at h5;omega))]at hres;exact G2
      .rw[if_neg (by clear uu hres;first|omega|(simp at h5;omega))]at hres;exact G2
def ZRj:J8->J5
 | [.agg [.x (.sl A),.x (.sl B),.x (.sl R)],.agg [.x (.str dn),.x (.sl E)]]=>(ZM YC A).bind λT=>(ZM Yl B).bind λC=>(ZM Zn R).bind λl=>(ZM ZL E).bind λa=>some (decide (smT T/\ZDt C/\ZHx (Zw T)/\l.length<=100000/\QD a/\smE a),.tup [.agg [.x (.sl (rows YC T)),.x (.sl (rows Yl C)),.x (.sl (rows Zn (ZIn (ZE3 (Zw T) (YQ C) l dn a) l dn a)))],.x (.int .i64 (ZE3 (Zw T) (YQ C) l dn a))])
 |_=>none
theorem ZZQ:QK Tryz.prog ZRj 48:=by
 intro args r h;unfold ZRj at h;split at h
 .obtain⟨T,rfl,i0⟩:=un JI h;obtain⟨C,rfl,i1⟩:=un JT i0;obtain⟨l,rfl,i2⟩:=un Yn i1;obtain⟨a,rfl,i3⟩:=un Ze i2;obtain⟨h1,rfl⟩:=Yu i3;exact(Zdg T C l _ a h1.1 h1.2.1 h1.2.2.1 h1.2.2.2.1 h1.2.2.2.2.1 h1.2.2.2.2.2)
 .cases h
def ZPJ(a b:List Tx):Bool:=decide (b.length<=a.length)&&decide (a.drop (a.length-b.length)=b)
theorem ZaO(a b:List Tx)(k i:Nat)(h1:k+i<a.length)(h2:i<b.length):(a.drop (k+i)=b.drop i)=(a[k+i]=b[i]/\a.drop (k+(i+1))=b.drop (i+1)):=by
 rw[ξU h1,ξU h2,ZEP,ZEq]
theorem Zh4(a b:List Tx)(ha:a.length<=1000000)(hb:b.length<=1000000):ZK Tryz.prog 91 [.x (.sl (rows ZC a)),.x (.sl (rows ZC b))] (.x (.bool (ZPJ a b))):=by
 have hla:=ZP ZC a;have hlb:=ZP ZC b;rcases hres:ZPJ a b with v
 unfold ZPJ at hres;refine ZH.pure (fC 91 true ?_) rfl;intro C0 E0;have uu:=Zz hla hlb;have tT:=(ZB:SsOk Tryz.prog YH);refine rg [0,1] ?_;refine rg [0,1,10] ?_;refine cd (λh0=> ?_) (λh0=> ?_)
 .rw[decide_eq_false (show ¬b.length<=a.length by clear uu hres;simp at h0;omega),ZFA]at hres;subst hres;refine Wj ?_
  exact Wp
 .have hab:b.length<=a.length:=by clear uu hres;simp at h0;omega
  rw[ZI hab,ZA0]at hres;refine rg [0,1,5] ?_;refine WI.loop (λφ os=> ∃(i:Nat),φ= [(0,.x (.sl (rows ZC a))),(1,.x (.sl (rows ZC b))),(5,.x (.int .i64 i))]/\os= []/\i<=b.length/\(a.drop (a.length-b.length+i)=b.drop i↔v=true)) (ZJ b.length 5) ?_ (λφ os hI=> ?_)
  .exact⟨0,rfl,rfl,J0,by simp[<-hres]⟩
  .obtain⟨i,rfl,rfl,hi,hd⟩:=hI;refine rg [0,1,5,14] ?_;refine cd (λh1=> ?_) (λh1=> ?_)
   .have hi4:i<b.length:=by clear uu;simp at h1;omega
    have hi5:a.length-b.length+i<a.length:=Wl
    have hst:=ZaO a b (a.length-b.length) i hi5 hi4;have e1:((a.length:Int)-(b.length:Int)+(i:Int)).toNat=a.length-b.length+i:=Wl
    have r1:(rows ZC a)[a.length-b.length+i]? =some [X.str (a[a.length-b.length+i])]:=by simp[rows,ZC,hi5]
    have r2:(rows ZC b)[i]? =some [X.str (b[i])]:=by simp[rows,ZC,hi4]
    generalize a[a.length-b.length+i]=p at r1 hst;generalize b[i]=q at r2 hst;have uu:=Qt uu e1 r1 r2;refine WI.dregB tT [0,1,5,31] ?_
    refine Wo ?_;refine WE ?_;refine Zm ?_;refine ZU ?_;refine Zm ?_;refine VK ?_;refine Wo ?_;refine VK ?_;refine Zm ?_;refine VJ ?_;refine cd (λh2=> ?_) (λh2=> ?_)
    .have hpq: ¬p=q:=Tk
     have hv: ¬v=true:=λe=>hpq (hst.mp (hd.2 e)).1
     rw[ZMj]at hv;subst hv;refine Wj ?_
     exact Wp
    .have hpq:p=q:=Tk
     have hd2:a.drop (a.length-b.length+(i+1))=b.drop (i+1)↔v=true:=by rw[<-hd,hst];simp[hpq]
     refine rg [0,1,5] ?_;exact⟨⟨i+1,rfl,rfl,J0,hd2⟩,Wa⟩
   .refine Wj ?_;obtain rfl:i=b.length:=by clear uu;simp at h1;omega
    rw[List.drop_length,ZBB J0]at hd;rw[hd.1 rfl]
def ZV2:J8->J5
 | [.x (.sl A),.x (.sl B)]=>(ZM ZC A).bind λa=>(ZM ZC B).bind λb=>some (decide (a.length<=1000000/\b.length<=1000000),.x (.bool (ZPJ a b)))
 |_=>none
theorem Zc8:QK Tryz.prog ZV2 91:=by
 intro args r h;unfold ZV2 at h;split at h
 .obtain⟨a,rfl,i0⟩:=un ZO h;obtain⟨b,rfl,i1⟩:=un ZO i0;obtain⟨h1,rfl⟩:=Yu i1;exact(Zh4 a b h1.1 h1.2)
 .cases h
def ZKY(s n:Tx):Bool:=okS s&&(okS n&&ZPJ (Zv s) (Zv n))
theorem ZbU(s n:Tx):ZK Tryz.prog 54 [.x (.str s),.x (.str n)] (.x (.bool (ZKY s n))):=by
 have ha:=(ZC9 s).1;have hb:=(ZC9 n).1;have c1:decide ((Zv s).length<=1000000/\(Zv n).length<=1000000)=true:=ZI ⟨J0,J0⟩;have hu1:ZM ZC (rows ZC (Zv s))=some (Zv s):=ZX ZO _;have hu2:ZM ZC (rows ZC (Zv n))=some (Zv n):=ZX ZO _;unfold ZKY;refine ZH.pure (fC 54 true ?_) rfl;intro C0 E0;have uu:=ξ5 @ZFH.eq_1 @ZV2.eq_1 @c1 hu1 hu2;have tT:=aQ (aQ ZB ZEW) Zc8;refine rg [0,1] ?_;refine rg [1,5,6] ?_;refine rg [5,6,7,8] ?_;refine Wj ?_;clear uu;cases okS s<;>cases okS n<;>rfl
def ZOh:J8->J5
 | [.x (.str s),.x (.str n)]=>some (true,.x (.bool (ZKY s n)))
 |_=>none
theorem ZXU:QK Tryz.prog ZOh 54:=by
 intro args r h;unfold ZOh at h;split at h
 .obtain rfl:=Qv h;exact(ZbU _ _)
 .cases h
def ZHK(l:List Zc)(n:Tx)(e:Zc):Bool:=(decide (n= [])||decide (atG l n<l.length))&&ZKY e.1 n
def ZJ4(l:List Zc)(n:Tx):List Tx:=(l.filter (ZHK l n)).map (·.1)
theorem Zaa{l:List Zc}{f:Zc->Bool}{i:Nat}(h:i<l.length):((l.take (i+1)).filter f).map (·.1)=((l.take i).filter f).map (·.1)++(if f (l.getD i ([],[],()))=true then [(l.getD i ([],[],())).1]else []):=by
 rw[JU h,List.filter_append,Jd,show l.getD i ([],[],())=l[i] by simp[h]];congr 1;by_cases e:f l[i]=true<;>simp[e]
theorem ZaH(S1 S2:J6)(l:List Zc)(n:Tx)(hl:l.length<=100000):ZK Tryz.prog 24 [.agg [.x (.sl S1),.x (.sl S2),.x (.sl (rows Zn l))],.x (.str n)] (.x (.sl (rows ZC (ZJ4 l n)))):=by
 have hrl:=ZP Zn l;have hul:ZM Zn (rows Zn l)=some l:=ZX Yn l;have c1:=ZI hl;unfold ZJ4;refine ZH.pure (fC 24 true ?_) rfl;intro C0 E0;have uu:=ξ5 @ZQn.eq_1 @ZOh.eq_1 hrl hul @c1;have tT:=aQ (aQ ZB ZSe) ZXU;refine rg [1,2] ?_;refine rg [1,2,5] ?_;refine rg [1,2,5,6] ?_;refine WI.ownA 5 9 1 ?_;refine WI.loop (λφ os=> ∃(i:Nat) (acc:List Tx),φ= [(1,.x (.str n)),(2,.ptr 0 0),(5,.ref 1 acc.length 0 acc.length),(6,.x (.int .i64 i))]/\os= [.box [.x (.sl S1),.x (.sl S2),.x (.sl (rows Zn l))],.rows false 9 1 (rows ZC acc)]/\i<=l.length/\acc.length<=i/\acc=((l.take i).filter (ZHK l n)).map (·.1)) (ZJ l.length 6) ?_ (λφ os hI=> ?_)
 .exact⟨0,[],rfl,rfl,J0,J1,rfl⟩
 .obtain⟨i,acc,rfl,rfl,hi,hac,hp⟩:=hI;refine rg [1,2,5,6,11] ?_;refine cd (λh0=> ?_) (λh0=> ?_)
  .have hi4:i<l.length:=by clear uu;simp at h0;omega
   have hrw:=ZOm l i hi4;have hst:=Zaa (f:=ZHK l n) hi4;generalize l.getD i ([],[],())=x at hrw hst;have hal:=ZP ZC acc;have uu:=JJ uu hrw hal;refine rg [1,2,5,6,31] ?_;refine cd (λh1=> ?_) (λh1=> ?_)
   .have hx:ZHK l n x=true:=by clear uu;unfold ZHK;grind
    refine rg [1,2,5,6] ?_;refine rgp [1,2,5,6] ?_;refine Jm [0,1] ?_;refine KR ?_;refine nz ?_
    exact VI
   .have hx: ¬ZHK l n x=true:=by clear uu;unfold ZHK;grind
    refine rgp [1,2,5,6] ?_;refine Jm [0,1] ?_;refine KR ?_;refine nz ?_
    exact VI
  .refine Wj ?_;obtain rfl:i=l.length:=by clear uu;simp at h0;omega
   rw[hp,JX]
structure RelD (m:EM) (B:BM) (l:List Zc):Prop where
 inv:InvT m B
 so:SoE l
 mem: ∀e:Zc,e∈l↔ZF m e.1=some e
 cl: ∀p∈m,Zg p.2.2.1=p.2.2.1
theorem Za9:RelD [] [] []:=⟨ZeO,.nil,λe=>by simp[ZF],J1⟩
section
variable {m:EM} {B:BM} {l:List Zc}
theorem RelD.look(h:RelD m B l){n:Tx}{e:Zc}(he:ZF m n=some e):e.1=n/\e∈l:=by
 have h1:=(h.inv.key _ (JS he)).1;exact⟨h1,(h.mem e).2 (by rw[h1];exact he)⟩
theorem RelD.has(h:RelD m B l){e:Zc}(he:e∈l):JG e.1=true/\e.1∈m.map (·.1):=by
 have h1:=JS ((h.mem e).1 he);exact⟨(h.inv.key _ h1).2.1,YR.2 ⟨_,h1,rfl⟩⟩
theorem RelD.name(h:RelD m B l)(n:Tx):n∈l.map (·.1)↔n∈m.map (·.1):=by
 constructor
 .intro hn;obtain⟨e,he,rfl⟩:=YR.1 hn;exact(h.has he).2
 .intro hn;obtain⟨p,hp,rfl⟩:=YR.1 hn;obtain⟨h1,h2⟩:=h.look (ZEO h.inv.kn hp);exact YR.2 ⟨_,h2,h1⟩
theorem RelD.names(h:RelD m B l):l.map (·.1)=JO B 40 []:=
 ZRq _ _ (λx hx=>h.inv.has ((h.name x).1 hx)) (Zaz.2 h.so) (h.inv.sorted 40 []) (λx=>by rw[h.name,h.inv.walkMem])
theorem RelD.len(h:RelD m B l):l.length=m.length:=by rw[<-h.inv.walkLen,<-h.names,YZ]
theorem ZVL: ∀(l:List Zc) (n:Tx),atG l n<l.length↔n∈l.map (·.1)
 | [],n=>by simp[atG]
 |e::l,n=>by
  have ih:=ZVL l n;unfold atG at ih|-;rw[List.takeWhile_cons];by_cases h:e.1=n
  .simp[h]
  .simp only[beq_iff_eq,h,ZGo,beq_eq_false_iff_ne,ne_eq,not_false_eq_true,if_true,JB,YM,Kn];rw[Nat.add_lt_add_iff_right,ih];exact⟨.inr,λh1=>h1.elim (λe=>absurd e.symm h) id⟩
theorem RelD.isIn(h:RelD m B l)(n:Tx):isIn l n=(ZF m n).isSome:=by
 unfold Go.Proofs.YtiogclkbccdefaaGreatDoor.isIn;rw[Qg,Ym,ZVL,h.name];cases hm:ZF m n with
 |none=>simpa using Jy.1 hm
 |some e=>exact⟨λ_=>rfl,λ_=>YR.2 ⟨_,JS hm,rfl⟩⟩
theorem RelD.code(h:RelD m B l)(L:List (Tx×Zd))(M:List (Tx×Zo))(dn:Tx)(a:List ZN):ZE3 L M l dn a=Kf L M m dn a:=by
 unfold ZE3 Kf;rw[h.isIn,h.isIn,h.len]
theorem RelD.put(h:RelD m B l){B':BM}{dn:Tx}{a:List ZN}(hs:JG dn=true)(hi:InvT (Zu m dn (dn,Zg a,())) B'):RelD (Zu m dn (dn,Zg a,())) B' (ZBT (dn,Zg a,()) false l):=by
 refine⟨hi,ZVU _ hs l h.so (λx hx=>(h.has hx).1),λe=> ?_,λp hp=> ?_⟩
 .rw[ZML,ZFo,h.mem];by_cases he:e.1=dn
  .simp only[he,ne_eq,not_true_eq_false,and_false,or_false,if_true,Yj];exact eq_comm
  .simp only[he,ne_eq,not_false_eq_true,and_true,if_false];exact⟨λh1=>h1.elim (λe2=>absurd (congrArg Prod.fst e2) he) id,.inr⟩
 .rcases Kn.1 ((ZBz m dn _).mem_iff.1 hp)with rfl|hp
  .exact ZLe a
  .exact h.cl p ((ZA2 m dn).mem hp)
theorem RelD.add(h:RelD m B l)(L:List (Tx×Zd))(M:List (Tx×Zo))(dn:Tx)(a:List ZN)(hs:QD (Zg a)):RelD (ZAj (Kf L M m dn a) m dn a) (QT (Kf L M m dn a) B dn) (ZIn (ZE3 L M l dn a) l dn a):=by
 have hi:=h.inv.add L M dn a hs;rw[h.code];unfold ZAj ZIn at*;by_cases h0:Kf L M m dn a=0
 .rw[if_pos h0]at hi;rw[if_pos h0,if_pos h0];refine h.put ?_ hi;unfold Kf at h0;split at h0
  .cases h0
  .rename_i h1;simpa using h1
 .rw[if_neg h0]at hi;rw[if_neg h0,if_neg h0];exact⟨hi,h.so,h.mem,h.cl⟩
theorem RelD.get(h:RelD m B l){e:Zc}(he:e∈l):ZF m e.1=some e/\ZHt m e.1=e:=by
 have h1:=(h.mem e).1 he;refine⟨h1,?_⟩;unfold ZHt;rw[h1];exact ZCE rfl (ZCE (h.cl _ (JS h1)) rfl)
end
theorem ZQJ{α:Type}(p:α->Bool)(l:List α)(j:Nat)(h:j<l.length):(l.take (j+1)).all p=((l.take j).all p&&p l[j]):=by
 rw[JU h,ZJF];simp
theorem ZJH{α:Type}(p:α->Bool)(l:List α)(j:Nat)(h:j<l.length)(hp:p l[j]=false):l.all p=false:=by
 exact NF
def ZWy(v:Tx):Bool:=decide (v.length<=300)
def ZJ5(a:ZN):Bool:=decide (a.1.length<=80/\a.2.1.length<=8)&&a.2.1.all ZWy
def ZJZ(e:Zc):Bool:=decide (e.1.length<=300/\e.2.1.length<=12)&&e.2.1.all ZJ5
theorem ZgY(d:Tx)(bs:List ZN):ZK Tryz.prog 18 [.agg [.x (.str d),.x (.sl (rows ZL bs))]] (.x (.bool (ZJZ (d,bs,())))):=by
 have hfe:ZJZ (d,bs,())=(decide (d.length<=300/\bs.length<=12)&&bs.all ZJ5):=rfl;rw[hfe];clear hfe;refine ZH.pure (fC 18 true ?_) rfl;intro C0 E0;have uu:=trivial;have tT:=(ZB:SsOk Tryz.prog YH);refine rg [1] ?_;refine rg [1,14] ?_;refine cd (λh0=> ?_) (λh0=> ?_)
 .refine Wy ?_;rw[decide_eq_false Wv];rfl
 .have hal:d.length<=300/\bs.length<=12:=Wv
  refine rg [1,3] ?_;refine WI.loop (λφ os=> ∃(i:Nat),φ= [(1,.ptr 0 0),(3,.x (.int .i64 i))]/\os= [.box [.x (.str d),.x (.sl (rows ZL bs))]]/\i<=bs.length/\(bs.take i).all ZJ5=true) (ZJ bs.length 3) ?_ (λφ os hI=> ?_)
  .exact W8
  .obtain⟨i,rfl,rfl,hi,hall⟩:=hI;refine rg [1,3,19] ?_;refine cd (λh1=> ?_) (λh1=> ?_)
   .have hi4:i<bs.length:=Wl
    refine rg [1,3,39] ?_;refine cd (λh2=> ?_) (λh2=> ?_)
    .refine Wy ?_;rw[ZJH _ bs i hi4 (by unfold ZJ5;rw[decide_eq_false Wv];rfl),ZE0]
    .have hvl:bs[i].1.length<=80/\bs[i].2.1.length<=8:=Wv
     refine rg [1,3,4] ?_;refine WI.loop (λφ os=> ∃(k:Nat),φ= [(1,.ptr 0 0),(3,.x (.int .i64 i)),(4,.x (.int .i64 k))]/\os= [.box [.x (.str d),.x (.sl (rows ZL bs))]]/\k<=bs[i].2.1.length/\(bs[i].2.1.take k).all ZWy=true) (ZJ bs[i].2.1.length 4) ?_ (λφ os hI=> ?_)
     .exact W8
     .obtain⟨k,rfl,rfl,hk,hnk⟩:=hI;refine rg [1,3,4,48] ?_;refine cd (λh3=> ?_) (λh3=> ?_)
      .have hk4:k<bs[i].2.1.length:=Wl
       refine rg [1,3,4,61] ?_;refine cd (λh4=> ?_) (λh4=> ?_)
       .refine Wy ?_;rw[ZJH _ bs i hi4 (by unfold ZJ5;rw[ZJH _ bs[i].2.1 k hk4 (decide_eq_false Wv),ZE0]),ZE0]
       .refine rg [1,3,4] ?_;exact⟨⟨k+1,rfl,rfl,J0,by rw[ZQJ _ bs[i].2.1 k hk4,hnk,show ZWy bs[i].2.1[k]=true from ZI J0];rfl⟩,Wa⟩
      .have hfa:ZJ5 bs[i]=true:=by unfold ZJ5;rw[YO J0]at hnk;rw[hnk,ZI hvl];rfl
       refine rg [1,3] ?_;exact⟨⟨i+1,rfl,rfl,J0,by rw[ZQJ _ bs i hi4,hall,hfa];rfl⟩,Wa⟩
   .refine Wy ?_;rw[YO J0]at hall;rw[hall,ZI hal];rfl
def ZWd:J8->J5
 | [.agg [.x (.str d),.x (.sl A)]]=>(ZM ZL A).bind λa=>some (true,.x (.bool (ZJZ (d,a,()))))
 |_=>none
theorem ZcA:QK Tryz.prog ZWd 18:=by
 intro args r h;unfold ZWd at h;split at h
 .obtain⟨a,rfl,i0⟩:=un Ze h;obtain rfl:=Qv i0;exact(ZgY _ a)
 .cases h
theorem ZYu{e:Zc}(h:ZJZ e=true):e.1.length<=300/\e.2.1.length<=12/\ ∀a∈e.2.1,a.1.length<=80/\a.2.1.length<=8/\ ∀v∈a.2.1,v.length<=300:=by
 unfold ZJZ at h;rw[Zk,Ym]at h;refine⟨h.1.1,h.1.2,λa ha=> ?_⟩;have h2:=Yg.1 h.2 a ha;unfold ZJ5 at h2;rw[Zk,Ym]at h2;exact⟨h2.1.1,h2.1.2,λv hv=>of_decide_eq_true (Yg.1 h2.2 v hv)⟩
theorem ZLU(l:List ZN)(hb: ∀a∈l,a.2.1.length<=8): ∀j,j<=l.length-> ∀a∈Zg (l.take j),a.2.1.length<=j*8
 |0,_=>by simp[Zg]
 |j+1,h=>by
  rw[ZCZ l j J0];have:=ZPu (Zg (l.take j)) (ZE (l.getD j ([],[],())).1) (l.getD j ([],[],())).2.1 (j*8) 8 (ZLU l hb j J0) Gq;intro a ha;have:=this a ha;omega
theorem Zcq(l:List ZN)(n:Tx)(vs:List Tx)(k:Nat)(hl: ∀a∈l,a.1.length<=k)(hn:n.length<=k): ∀a∈Ko l n vs,a.1.length<=k:=by
 unfold Ko;split
 .exact hl
 .intro a ha;rcases KV.1 ha with ha|ha
  .rcases KV.1 ha with ha|ha
   .exact hl a (ZBU ha)
   .rw[Qf.1 ha];exact hn
  .refine hl a ?_;unfold KC at ha;split at ha<;>exact ZB8 ha
theorem ZOL(l:List ZN)(k:Nat)(hb: ∀a∈l,a.1.length<=k): ∀j,j<=l.length-> ∀a∈Zg (l.take j),a.1.length<=k
 |0,_=>by simp[Zg]
 |j+1,h=>by
  rw[ZCZ l j J0];refine Zcq _ _ _ k (ZOL l k hb j J0) ?_;rw[ZEy,show l.getD j ([],[],())=l[j] by simp[show j<l.length by omega]];exact hb _ (YG _)
theorem ZZE{e:Zc}(h:ZJZ e=true):QD e.2.1/\QD (Zg e.2.1)/\ZG1 (YQ plC) e.2.1:=by
 obtain⟨h1,h2,h3⟩:=ZYu h;have c1:=ZEV e.2.1 e.2.1.length (Zp _);have c2:=ZLU e.2.1 (λa ha=>(h3 a ha).2.1) e.2.1.length (Zp _);have c3:=ZOL e.2.1 80 (λa ha=>(h3 a ha).1) e.2.1.length (Zp _);rw[JX]at c1 c2 c3;refine⟨⟨J0,λa ha=>by have:=(h3 a ha).1;omega,λa ha=>by have:=(h3 a ha).2.1;omega⟩,⟨J0,λa ha=>by have:=c3 a ha;omega,λa ha=>by have:=c2 a ha;omega⟩,?_⟩;exact⟨Un,⟨J0,λa ha=>⟨by have:=(h3 a ha).1;omega,by have:=(h3 a ha).2.1;omega⟩⟩,λa ha v hv=>by have:=(h3 a ha).2.2 v hv;omega⟩
theorem Zhf(P1 P2:W2):ZQ Tryz.prog 10 [.ptr 0 0] [.box [.mref 1,.mref 2],.mpo .str true P1,.mpo .str true P2] (.ptr 5 0) [.box [.mref 1,.mref 2],.mpo .str true P1,.mpo .str true P2,.mpo .str true [],.mpo .str false [],.box [.ptr 0 0,.mref 3,.mref 4]]:=by
 refine ZH.mcalls (fC 10 true ?_);intro C0 E0;have uu:=trivial;have tT:=(ZB:SsOk Tryz.prog YH);refine rg [0] ?_;refine Wy ?_
 exact Wp
def ZQp:J8->J7->Option (Bool×D×J7)
 | [.ptr 0 0],[.box [.mref 1,.mref 2],.mpo .str true P1,.mpo .str true P2]=>some (true,.ptr 5 0,[.box [.mref 1,.mref 2],.mpo .str true P1,.mpo .str true P2,.mpo .str true [],.mpo .str false [],.box [.ptr 0 0,.mref 3,.mref 4]])
 |_,_=>none
theorem Zb2: ∀args os r os',ZQp args os=some (true,r,os')->ZQ Tryz.prog 10 args os r os':=by
 intro args os r os' h;unfold ZQp at h;split at h
 .cases h;exact Zhf _ _
 .cases h
theorem Zel:ZDw 9 [Jw (Zw plT),Jo (YQ plC),QI []] (enB []) (KL (Jw (Zw plT)) (Jo (YQ plC)) (.mpo .str true (QI []):: .mpo .str false []:: [])):=ZFW (Bt:= []) (Y:= []) (ZJC _) ⟨.nil,.nil,J1⟩ rfl
def ZMS:J8->J5
 | [.agg [.x (.sl A),.x (.sl B),.x (.sl R)],.x (.str n)]=>(ZM Zn R).bind λl=>some (decide (l.length<=100000),.x (.sl (rows ZC (ZJ4 l n))))
 |_=>none
theorem ZT9:QK Tryz.prog ZMS 24:=by
 intro args r h;unfold ZMS at h;split at h
 .obtain⟨l,rfl,i0⟩:=un Yn h;obtain⟨h1,rfl⟩:=Yu i0;exact(ZaH _ _ l _ h1)
 .cases h
theorem ZZG(S1 S2:J6)(l:List Zc)(hl:l.length<=100000):ZK Tryz.prog 51 [.agg [.x (.sl S1),.x (.sl S2),.x (.sl (rows Zn l))]] (.x (.sl (rows ZC (ZJ4 l [])))):=by
 have hul:ZM Zn (rows Zn l)=some l:=ZX Yn l;have c1:=ZI hl;refine ZH.pure (fC 51 true ?_) rfl;intro C0 E0;have uu:=JJ @ZMS.eq_1 hul @c1;have tT:=aQ ZB ZT9;refine rg [1] ?_;refine Wy ?_
 exact Wp
def ZMM:J8->J5
 | [.agg [.x (.sl A),.x (.sl B),.x (.sl R)]]=>(ZM Zn R).bind λl=>some (decide (l.length<=100000),.x (.sl (rows ZC (ZJ4 l []))))
 |_=>none
theorem ZUI:QK Tryz.prog ZMM 51:=by
 intro args r h;unfold ZMM at h;split at h
 .obtain⟨l,rfl,i0⟩:=un Yn h;obtain⟨h1,rfl⟩:=Yu i0;exact(ZZG _ _ l h1)
 .cases h
theorem ZZT(l:List Zc)(h: ∀e∈l,JG e.1=true):ZJ4 l []=l.map (·.1):=by
 unfold ZJ4;congr 1;rw[Zct];intro e he;have h1:okS e.1=true:=by
  have h2:=h e he;unfold JG Zv at h2;cases hq:okS e.1
  .rw[hq]at h2;simp at h2
  .rfl
 unfold ZHK ZKY ZPJ;rw[h1,show okS []=true by decide+kernel,show Zv []= [] by decide+kernel];simp
def ZNC(m:EM)(B:BM)(l:List Zc):Prop:=okW 40 m B []/\l.length<=100000/\JO B 40 []=ZJ4 l []/\l.map (·.1)=JO B 40 []/\m.length=l.length/\ ∀e∈l,(ZF m e.1).isSome=true/\ZHt m e.1=e
instance (m:EM) (B:BM) (l:List Zc):Decidable (ZNC m B l):=inferInstanceAs (Decidable (_/\_))
theorem RelD.same{m:EM}{B:BM}{l:List Zc}(h:RelD m B l):ZNC m B l:=by
 have h1:=h.names;have h2:=h.len;have h3:=h.inv.ln;refine⟨h.inv.okWn [],J0,?_,h1,h2.symm,λe he=> ?_⟩
 .rw[ZZT l (λe he=>(h.has he).1),h1]
 .obtain⟨h4,h5⟩:=h.get he;exact⟨by rw[h4];rfl,h5⟩
set_option maxHeartbeats 4000000 in
theorem ZbW(L:List (Tx×Zd))(M:List (Tx×Zo))(m:EM)(B:BM)(S1 S2:J6)(l:List Zc)(h:ZNC m B l):ZQ Tryz.prog 21 [.iref 0 0,.agg [.x (.sl S1),.x (.sl S2),.x (.sl (rows Zn l))]] [Kv L M m B] (.x (.bool true)) [Kv L M m B]:=by
 obtain⟨hw,hl,hn,hnl,hlen,hall⟩:=h;have hrl:=ZP Zn l;have hul:ZM Zn (rows Zn l)=some l:=ZX Yn l;have hut:=ZTZ L M m B;have c1:=ZI hl;have c2:=ZI hw;have c3:=ZI hw.1;have hO: [Kv L M m B].all (Ob.inP (λi=>decide (i< [Kv L M m B].length)))=true:=rfl;refine ZH.mcallsX (fC 21 true ?_) WW hO Vi;intro C0 E0;have uu:=ξ9 @ZMM.eq_1 @ZH4.eq_1 @ZH4.eq_2 @ZN2.eq_1 @ZN2.eq_2 @ZK2.eq_1 @ZK2.eq_2 @ZK3.eq_1 (ξ9 @ZK3.eq_2 @ZK6.eq_1 @ZK6.eq_2 hul hut @c1 @c2 @c3 hrl);have tT:=aR (aR (aR (aQ (aQ (aQ ZB ZUI) ZQS) ZYa) ZRC) ZSs) ZWS;refine rg [0,3] ?_;refine rg [0,3,5] ?_;refine WI.dregB tT [0,3,5,23] ?_;refine Vn ?_
 refine dQC ?_;refine dQC ?_;refine Zm ?_;refine ZU ?_;refine Zm ?_;refine dQC ?_;refine Zm ?_;refine VK ?_;refine Vo ?_;refine VJ ?_;refine ce (λh0=> ?_) (λh0=> ?_)
 .rw[ZI hn,hlen]at h0;simp at h0
 .refine rg [0,3,5,6] ?_;generalize JO B 40 []=W at hnl|-;have hrw0:=ZP ZC W;refine WI.loop (λφ os=> ∃(i:Nat),φ= [(0,.iref 0 0),(3,.ptr 1 0),(5,.x (.sl (rows ZC W))),(6,.x (.int .i64 i))]/\os= [Kv L M m B,.box [.x (.sl S1),.x (.sl S2),.x (.sl (rows Zn l))]]/\i<=W.length) (ZJ W.length 6) ?_ (λφ os hI=> ?_)
  .exact Vf
  .obtain⟨i,rfl,rfl,hi⟩:=hI;refine rg [0,3,5,6,27] ?_;refine cd (λh1=> ?_) (λh1=> ?_)
   .have hWl:W.length=l.length:=by rw[<-hnl,YZ]
    have hi4:i<l.length:=by clear uu;simp at h1;omega
    have hrw:=ZOm l i hi4;obtain⟨hg1,hg2⟩:=hall (l.getD i ([],[],())) Vs;have hWi:(rows ZC W)[i]? =some [X.str (l.getD i ([],[],())).1]:=by rw[<-hnl];simp[rows,ZC,hi4]
    generalize l.getD i ([],[],())=x at hrw hg1 hg2 hWi;have uu:=ξ6 uu hrw hg1 hg2 hWi hrw0;refine rg [0,3,5,6,7,8] ?_;refine WI.dregB tT [0,3,5,6,50] ?_;refine ZU ?_;refine Zm ?_;refine Vn ?_;refine Zm ?_;refine Zb ?_;refine Zm ?_
    refine VK ?_;refine dAC ?_;refine Vo ?_;refine VJ ?_;refine ce (λh2=> ?_) (λh2=> ?_)
    .simp at h2
    .refine WI.pickA [0,1] ?_;refine WI.orderA [0,3,5,6] ?_;refine rg [0,3,5,6] ?_;exact⟨⟨i+1,rfl,rfl,J0⟩,Wa⟩
   .refine Wj ?_;exact Gn
def ZQ2:J8->J7->J5
 | [.iref 0 0,.agg [.x (.sl _),.x (.sl _),.x (.sl R)]],[o]=>(unT o).bind λq=>(ZM Zn R).map λl=>(decide (ZNC q.2.2.1 q.2.2.2 l),.x (.bool true))
 |_,_=>none
theorem ZbN: ∀args os r,ZQ2 args os=some (true,r)->r.clean=true/\ ∃X,ZQ Tryz.prog 21 args os r (os++X):=by
 intro args os r h;unfold ZQ2 at h;split at h
 .obtain⟨⟨L,M,m,B⟩,h1,h⟩:=Zf h;obtain⟨l,h2,h⟩:=Za h;simp only[YN,Ym]at h;obtain⟨h3,rfl⟩:=h;rw[ZFK h1,<-YU Yn h2];exact⟨rfl,[],ZbW L M m B _ _ l h3⟩
 .cases h
theorem Zem(a b:Int):(a==b)=decide (a=b):=by rw[Qg];simp
set_option maxHeartbeats 4000000 in
theorem ZiK(L:List (Tx×Zd))(M:List (Tx×Zo))(m:EM)(B:BM)(T:List Zd)(C:List Zo)(l:List Zc)(dn:Tx)(a:List ZN)(h:smT T/\ZDt C/\ZHx (Zw T)/\l.length<=100000/\QD a/\smE a)(hk:okT m B/\QD a/\ZG1 M a):ZQ Tryz.prog 20 [.iref 0 0,.agg [.x (.sl (rows YC T)),.x (.sl (rows Yl C)),.x (.sl (rows Zn l))],.agg [.x (.int .i64 0),.x (.str dn),.x (.sl (rows ZL a))]] [Kv L M m B] (.tup [.agg [.x (.sl (rows YC T)),.x (.sl (rows Yl C)),.x (.sl (rows Zn (ZIn (ZE3 (Zw T) (YQ C) l dn a) l dn a)))],.x (.bool (decide (Kf L M m dn a=ZE3 (Zw T) (YQ C) l dn a)))]) [Kv L M (ZAj (Kf L M m dn a) m dn a) (QT (Kf L M m dn a) B dn)]:=by
 have hul:ZM Zn (rows Zn l)=some l:=ZX Yn l;have hua:ZM ZL (rows ZL a)=some a:=ZX Ze a;have hu1:=ZFS T;have hu2:=ZGP C;have hut:=ZTZ L M m B;have c1:=ZI h;have c2:=ZI hk;have hO: [Kv L M m B].all (Ob.inP (λi=>decide (i< [Kv L M m B].length)))=true:=rfl;refine ZH.mcallsX (fC 20 true ?_) WW hO Vi;intro C0 E0;have uu:=ξ9 @ZRj.eq_1 @ZLL.eq_1 @ZLL.eq_2 hul hua hu1 hu2 hut (Zz @c1 @c2);have tT:=aT (aQ ZB ZZQ) ZRe;refine rg [0,4,5,6] ?_;refine rg [0,4,5,6,15] ?_;refine rg [0,4,5,6,15,16] ?_;refine ct (λh0=> ?_) (λh0=> ?_)
 .refine rg [0,5,6,8,9] ?_;refine WI.dregY tT [1003] [6,7] ?_;refine xRG ?_;refine xFS ?_;refine xFS ?_;refine xAG ?_;refine xAC ?_;refine xFS ?_;refine xFG ?_;refine xAG ?_;refine xFS ?_;refine xN ?_;refine nz ?_;refine lf ?_;exact⟨by rw[Zem],_,rfl⟩
 .simp at h0
end Go.Proofs.YtiogclkbccdefaaGreatDoor
end
