import Derived.Test.YtpjfdjcejamebaaGreatDoorMA1
import Derived.Test.YtpjfdjcejamebaaGreatDoorLA5
import Derived.Test.YtpjfdjcejamebaaGreatDoorProg
import Derived.Test.YtpjfdjcejamebaaGreatDoorSh
import Derived.Shelf.Strings.Cut
set_option linter.unusedSimpArgs false
set_option linter.unusedVariables false
set_option maxRecDepth 100000
section
namespace Go.Proofs.YtpjfdjcejamebaaGreatDoor
open Go.RowKit Go.Bo Go.Ab
def JT:Nat->Tx->Tx->Nat->Option (Tx×Nat)
 |0,_,_,_=>none
 |_+1,[],b,e=>some (b,e)
 |n+1,c::r,b,e=>
  if c=92 then(if(KD r).2.2=true then JT n (r.drop (KD r).2.1) (b++ [(KD r).1]) (b.length+1)else none)
  else if ZIX c.toNat (decide (b.length=0))=true then none
  else if c=32 then JT n r (b++ [c]) e else JT n r (b++ [c]) (b.length+1)
theorem Zgb(s:Tx):(KD s).2.1<=s.length:=by
 unfold KD;split
 .simp
 .rename_i h;have:0<s.length:=ZLa.2 h;split
  .simp;omega
  .split
   .simp
   .rename_i h2;simp only[not_or]at h2;simp;omega
theorem ZJh: ∀(n m:Nat) (r b:Tx) (e:Nat),r.length<n->r.length<m->JT n r b e=JT m r b e
 |n+1,m+1,[],b,e,_,_=>rfl
 |n+1,m+1,c::r,b,e,h1,h2=>by
  have hn:r.length<n:=by simp at h1;omega
  have hm:r.length<m:=by simp at h2;omega
  have h3:(r.drop (KD r).2.1).length<=r.length:=by simp
  rw[JT,JT,ZJh n m r _ _ hn hm,ZJh n m r _ _ hn hm,ZJh n m (r.drop (KD r).2.1) _ _ J0 J0]
def ZF4(s:Tx):Tx×Bool:=match JT (s.length+1) (trL s) [] 0 with
 |none=>([],false)
 |some (b,e)=>(b.take e,decide (e>0))
def ZID(s:Tx):Tx×Bool:=match JT (s.length+1) (trL s) [] 0 with
 |none=>([],false)
 |some (b,e)=>(b.take e,true)
theorem ZSw{c:UInt8}(h:(c.toNat:Int)=92):c=92:=by
 apply ZMx.1;show c.toNat=92;omega
def ZIe:Tabs:=ZR (ZR (ZR (ZO) 226 ZEK) 227 ZLy) 228 ZGY
theorem ZXD:SsOk Tryz.prog ZIe:=ZG (ZG (ZG (ZD) (ZU 226) ZRV) (ZU 227) ZcB) (ZU 228) ZVm
theorem ZG7:(∀a,ZIe.q 226 a=ZEK a)/\(∀a,ZIe.q 227 a=ZLy a)/\(∀a,ZIe.q 228 a=ZGY a)/\(∀f a o,ZIe.r f a o=none)/\(∀f a o,ZIe.k f a o=none):=⟨λ_=>rfl,λ_=>rfl,λ_=>rfl,λ_ _ _=>rfl,λ_ _ _=>rfl⟩
set_option maxHeartbeats 1000000 in
theorem Zg9(s:Tx)(hl:s.length<=900000):ZC Tryz.prog 209 [.x (.str s)] (.tup [.x (.str (ZF4 s).1),.x (.bool (ZF4 s).2)]):=by
 have htl:=ZOw s;rcases hq:ZF4 s with⟨v,ok⟩
 unfold ZF4 at hq;refine ZI.pure (fC 209 true ?_) rfl;intro C0 E0;have uu:=ξn @ZEK.eq_1 (ξn @ZEK.eq_2 (ξn @ZLy.eq_1 (ξn @ZLy.eq_2 (ξn @ZGY.eq_1 (ξn @ZGY.eq_2 (ξn @Ys (ξn @Kw (ξn @ZLF.{0} (ξn ZG7.2.2.2.1 (ξn ZG7.2.2.2.2 (ξn ZG7.1 (ξn ZG7.2.1 (ZG7.2.2.1)))))))))))));have tT:=ZXD;refine nz ?_;refine rg tT [0] ?_;refine WI.scope 0 rfl (λφ os=>False) (λφ _=>0) ?_ (λφ os hI=> ?_)
 .refine nz ?_;refine rg tT [0] ?_;refine rg tT [0,4] ?_;refine rg tT [0,4,5] ?_;refine WI.label ?_;refine nz ?_;refine WI.ownA 4 5 1 ?_;refine WI.loop (λφ os=> ∃(r b:Tx) (e n:Nat),φ= [(0,.x (.str r)),(4,.ref 0 b.length 0 b.length),(5,.x (.int .i64 e))]/\os= [.rows false 5 1 (b.map Zl)]/\r.length<n/\b.length+r.length<=s.length/\e<=b.length/\JT (s.length+1) (trL s) [] 0=JT n r b e) ((λφ _=>match get φ 0 with| .x (.str r)=>r.length|_=>0)) ?_ (λφ os hI=> ?_)
  .exact⟨trL s,[],0,s.length+1,rfl,rfl,J0,by simp;omega,J1,rfl⟩
  .obtain⟨r,b,e,n,rfl,rfl,hn,hb,he,hv⟩:=hI;obtain⟨n,rfl⟩: ∃m,n=m+1:=⟨n-1,J0⟩;refine nz ?_;refine rg tT [0,4,5,13] ?_;refine cd (λh0=> ?_) (λh0=> ?_)
   .rcases r with _|⟨c,r⟩
    .simp at h0
    have hn':r.length+1<n+1:=hn;have hb':b.length+(r.length+1)<=s.length:=hb;have hen:=Zgb r;have hb8:c.toNat<256:=ZD0 _;have hsc:decide (r.length<=1000000)=true:=ZL J0;have uu:=YZ uu hsc;refine rg tT [0,4,5,6] ?_;refine rg tT [0,4,5,6] ?_;refine rg tT [0,4,5,6,24] ?_;refine cd (λh1=> ?_) (λh1=> ?_)
    .have hc:c=92:=ZSw (by first|exact h1|simpa using h1);refine rg tT [0,4,7,8,9] ?_;refine rg tT [0,4,7,8,34] ?_;refine cd (λh2=> ?_) (λh2=> ?_)
     .refine rg tT [2,3] ?_;refine lf ?_;rw[hv,JT,if_pos hc,if_neg (by simpa using h2)]at hq;cases hq;rfl
     .have hst:JT (n+1) (c::r) b e=JT n (r.drop (KD r).2.1) (b++ [(KD r).1]) (b.length+1):=by rw[JT,if_pos hc,if_pos (by simpa using h2)]
      refine WI.post ?_;refine WI.dregB tT [0,4] ?_
      iterate 2 refine YD ?_
      iterate 2 refine dAG ?_
      iterate 2 refine YD ?_
      refine KR ?_
      iterate 2 refine YD ?_
      refine dP ?_;refine Je [0] ?_;refine KM ?_;refine nz ?_;refine rg tT [0,4,5] ?_
      first|exact⟨⟨r.drop (KD r).2.1,b++ [(KD r).1],b.length+1,n,by rw[Zg];first|done|rfl,by rw[YI];first|done|rfl,by rw[Jj];omega,by rw[Zg,Jj];simp;omega,J1,by rw[hv,hst]⟩,by show(r.drop (KD r).2.1).length<r.length+1;rw[Jj];omega⟩|exact⟨⟨r,b++ [c],e,n,by rw[Zg];first|done|rfl,by rw[YI];first|done|rfl,J0,by rw[Zg];simp;omega,by simp;omega,by rw[hv,hst]⟩,by show r.length<r.length+1;omega⟩|exact⟨⟨r,b++ [c],b.length+1,n,by rw[Zg];first|done|rfl,by rw[YI];first|done|rfl,J0,by rw[Zg];simp;omega,J1,by rw[hv,hst]⟩,by show r.length<r.length+1;omega⟩
    .have hc:c≠92:=by rintro rfl;exact absurd h1 (by decide)
     have hz:((b.length:Int)==0)=decide (b.length=0):=by rw[Qj];simp<;>omega
     have uu:=YZ uu hz;refine rg tT [0,4,5,6,42] ?_;refine cd (λh3=> ?_) (λh3=> ?_)
     .refine rg tT [2,3] ?_;refine lf ?_;rw[hv,JT,if_neg hc,if_pos (by simpa using h3)]at hq;cases hq;rfl
     .refine rgp tT [0,4,5,6] ?_;refine Je [0] ?_;refine KM ?_;refine nz ?_;refine rg tT [0,4,5,23] ?_;refine cd (λh4=> ?_) (λh4=> ?_) (kA:=λh=>h.h)
      .refine WI.orderA [0,4,5] ?_;have hst:JT (n+1) (c::r) b e=JT n r (b++ [c]) e:=by rw[JT,if_neg hc,if_neg (by simpa using h3),if_pos (ZMY (by first|exact h4|simpa using h4))]
       refine nz ?_
       first|exact⟨⟨r.drop (KD r).2.1,b++ [(KD r).1],b.length+1,n,by rw[Zg];first|done|rfl,by rw[YI];first|done|rfl,by rw[Jj];omega,by rw[Zg,Jj];simp;omega,J1,by rw[hv,hst]⟩,by show(r.drop (KD r).2.1).length<r.length+1;rw[Jj];omega⟩|exact⟨⟨r,b++ [c],e,n,by rw[Zg];first|done|rfl,by rw[YI];first|done|rfl,J0,by rw[Zg];simp;omega,by simp;omega,by rw[hv,hst]⟩,by show r.length<r.length+1;omega⟩|exact⟨⟨r,b++ [c],b.length+1,n,by rw[Zg];first|done|rfl,by rw[YI];first|done|rfl,J0,by rw[Zg];simp;omega,J1,by rw[hv,hst]⟩,by show r.length<r.length+1;omega⟩
      .have hst:JT (n+1) (c::r) b e=JT n r (b++ [c]) (b.length+1):=by rw[JT,if_neg hc,if_neg (by simpa using h3),if_neg (by rintro rfl;exact absurd h4 (by decide))]
       refine rg tT [0,4,5] ?_
       first|exact⟨⟨r.drop (KD r).2.1,b++ [(KD r).1],b.length+1,n,by rw[Zg];first|done|rfl,by rw[YI];first|done|rfl,by rw[Jj];omega,by rw[Zg,Jj];simp;omega,J1,by rw[hv,hst]⟩,by show(r.drop (KD r).2.1).length<r.length+1;rw[Jj];omega⟩|exact⟨⟨r,b++ [c],e,n,by rw[Zg];first|done|rfl,by rw[YI];first|done|rfl,J0,by rw[Zg];simp;omega,by simp;omega,by rw[hv,hst]⟩,by show r.length<r.length+1;omega⟩|exact⟨⟨r,b++ [c],b.length+1,n,by rw[Zg];first|done|rfl,by rw[YI];first|done|rfl,J0,by rw[Zg];simp;omega,J1,by rw[hv,hst]⟩,by show r.length<r.length+1;omega⟩
   .obtain rfl:r= []:=by simpa using h0
    have hv2:JT (s.length+1) (trL s) [] 0=some (b,e):=by rw[hv];rfl
    rw[hv2]at hq;have e1:(List.map Zl b).take e=(b.take e).map Zl:=by rw[ZWl]
    have uu:=YZ uu e1;refine rg tT [2,3] ?_;refine lf ?_;cases hq;rw[show decide ((e:Int)>0)=decide (e>0) by rw[Qj];simp]
 .exact hI.elim
def ZL2:J8->J5
 | [.x (.str s)]=>some (decide (s.length<=900000),.tup [.x (.str (ZF4 s).1),.x (.bool (ZF4 s).2)])
 |_=>none
theorem ZaT: ∀args r,ZL2 args=some (true,r)->ZC Tryz.prog 209 args r:=by
 intro args r h;unfold ZL2 at h;split at h
 .rename_i s;simp only[Ze,Za,ZT,Zc,true_and]at h;obtain⟨h1,rfl⟩:=h;exact(Zg9 s h1)
 .cases h
theorem ZPP(n:Nat):(ZBU n).2=decide (Qf n<16)/\(Qf n<16->(ZBU n).1=Qf n):=by
 unfold ZBU;split
 .rename_i h;exact⟨by simp[h],λ_=>rfl⟩
 .rename_i h;exact⟨by simp[h],λh'=>absurd h' h⟩
theorem ZQZ(s:Tx)(i j:Nat):(s.drop i).getD j 0=s.getD (i+j) 0:=by simp
theorem ZO1(s:Tx)(i:Nat):KD (s.drop i)=if s.length<=i then(0,0,false)else if ZHb (s.getD i 0)=true then(s.getD i 0,1,true)else if ¬Qf (s.getD i 0).toNat<16\/s.length<i+2 then(0,0,false)else(orB (Qf (s.getD i 0).toNat) (ZBU (s.getD (i+1) 0).toNat).1,2,decide (Qf (s.getD (i+1) 0).toNat<16)):=by
 unfold KD;rw[ZQZ,ZQZ,JK];have h1:=ZPP (s.getD i 0).toNat;have h2:=ZPP (s.getD (i+1) 0).toNat;by_cases h:s.length<=i
 .rw[if_pos (ZBl h),if_pos h]
 .rw[if_neg (by intro e;have:=congrArg List.length e;simp at this;omega),if_neg h];split
  .rfl
  .rw[h1.1,h2.1];have e1:(decide (Qf (s.getD i 0).toNat<16)=false\/(s.drop i).length<2)↔(¬Qf (s.getD i 0).toNat<16\/s.length<i+2):=by
    rw[decide_eq_false_iff_not,Jj];constructor<;>(intro h;rcases h with h|h;exact .inl h;exact .inr J0)
   by_cases h3: ¬Qf (s.getD i 0).toNat<16\/s.length<i+2
   .rw[if_pos h3,if_pos (e1.2 h3)]
   .rw[if_neg h3,if_neg (λh=>h3 (e1.1 h)),h1.2 (ZIC.1 λh=>h3 (.inl h))]
theorem ZiH: ∀(a b:Fin 16),IntKind.u8.wrap (16*(a.val:Int)+(b.val:Int))=((UInt8.ofNat (16*a.val+b.val)).toNat:Int):=by decide+kernel
theorem ZjF(h l:Nat)(h1:h<16)(h2:l<16):IntKind.u8.wrap (16*(h:Int)+(l:Int))=((orB h l).toNat:Int):=ZiH ⟨_,h1⟩ ⟨_,h2⟩
theorem Zfx(c:UInt8):ZHb c=(spc c.toNat||(decide ((c.toNat:Int)=32)||decide ((c.toNat:Int)=35))):=by
 have e1:decide (c.toNat=32)=decide ((c.toNat:Int)=32):=by rw[Qj,Zc,Zc];omega
 have e2:decide (c.toNat=35)=decide ((c.toNat:Int)=35):=by rw[Qj,Zc,Zc];omega
 unfold ZHb;rw[e1,e2,Bool.or_assoc]
theorem Kx(s:Tx)(j:Nat)(h:j<s.length):s.drop j=s.getD j 0::s.drop (j+1):=by
 rw[ZEY h];simp[h]
theorem Zcj(n:Nat)(r b:Tx)(j e:Nat)(hc:r.getD j 0=92)(h1:j+1<r.length)(hf:ZHb (r.getD (j+1) 0)=true):JT (n+1) (r.drop j) b e=JT n (r.drop (j+2)) (b++ [r.getD (j+1) 0]) (b.length+1):=by
 have hE:KD (r.drop (j+1))=(r.getD (j+1) 0,1,true):=by rw[ZO1,if_neg J0,if_pos hf]
 rw[Kx r j J0,JT,if_pos hc,hE,if_pos rfl,ZM4];first|done|rfl
theorem ZfX(n:Nat)(r b:Tx)(j e:Nat)(hc:r.getD j 0=92)(h1:j+2<r.length)(hf:ZHb (r.getD (j+1) 0)=false)(hx:Qf (r.getD (j+1) 0).toNat<16)(hy:Qf (r.getD (j+2) 0).toNat<16):JT (n+1) (r.drop j) b e=JT n (r.drop (j+3)) (b++ [orB (Qf (r.getD (j+1) 0).toNat) (Qf (r.getD (j+2) 0).toNat)]) (b.length+1):=by
 have hE:KD (r.drop (j+1))=(orB (Qf (r.getD (j+1) 0).toNat) (Qf (r.getD (j+2) 0).toNat),2,true):=by
  rw[ZO1,if_neg J0,if_neg (by rw[hf];decide),if_neg (by rintro(h|h);exact h hx;omega),(ZPP (r.getD (j+1+1) 0).toNat).2 hy,ZL hy]
 rw[Kx r j J0,JT,if_pos hc,hE,if_pos rfl,ZM4];first|done|rfl
theorem ZfP(n:Nat)(r b:Tx)(j e:Nat)(hj:j<r.length)(hc:r.getD j 0=92)(hf: ¬(j+1<r.length/\ZHb (r.getD (j+1) 0)=true))(hx: ¬(j+2<r.length/\Qf (r.getD (j+1) 0).toNat<16/\Qf (r.getD (j+2) 0).toNat<16)):JT (n+1) (r.drop j) b e=none:=by
 have hE:(KD (r.drop (j+1))).2.2=false:=by
  rw[ZO1];by_cases h1:r.length<=j+1
  .rw[if_pos h1]
  .rw[if_neg h1,if_neg (λh=>hf ⟨J0,h⟩)];by_cases h2: ¬Qf (r.getD (j+1) 0).toNat<16\/r.length<j+1+2
   .rw[if_pos h2]
   .rw[if_neg h2];simp only[not_or,ZIC]at h2;exact decide_eq_false (λh=>hx ⟨J0,h2.1,h⟩)
 rw[Kx r j hj,JT,if_pos hc,hE,if_neg (by decide)]
theorem ZeK(n:Nat)(r b:Tx)(j e:Nat)(hj:j<r.length)(hc:r.getD j 0≠92)(hb:ZIX (r.getD j 0).toNat (decide (b.length=0))=true):JT (n+1) (r.drop j) b e=none:=by
 rw[Kx r j hj,JT,if_neg hc,if_pos hb]
theorem ZXj(n:Nat)(r b:Tx)(j e:Nat)(hj:j<r.length)(hc:r.getD j 0=32):JT (n+1) (r.drop j) b e=JT n (r.drop (j+1)) (b++ [r.getD j 0]) e:=by
 rw[Kx r j hj,JT,if_neg (by rw[hc];decide),if_neg (by rw[hc];cases decide (b.length=0)<;>decide),if_pos hc]
theorem ZX5(n:Nat)(r b:Tx)(j e:Nat)(hj:j<r.length)(hc:r.getD j 0≠92)(hb: ¬ZIX (r.getD j 0).toNat (decide (b.length=0))=true)(h3:r.getD j 0≠32):JT (n+1) (r.drop j) b e=JT n (r.drop (j+1)) (b++ [r.getD j 0]) (b.length+1):=by
 rw[Kx r j hj,JT,if_neg hc,if_neg hb,if_neg h3]
theorem neD{c:UInt8}{k:Nat}(hk:k<256)(h: ¬(c.toNat:Int)=k):c≠UInt8.ofNat k:=λe=>h (by rw[e];simp;omega)
theorem ZeD(n:Nat)(f:Bool):ZIX n f=(((decide ((n:Int)<32)||decide ((n:Int)=127))||(spc n&&decide ((n:Int)≠61)))||(decide ((n:Int)=35)&&f)):=by
 unfold ZIX;rw[Qj];simp only[ZBX,ZT,Zc];grind
theorem ZiN:spc 92=true:=by decide
def ZLh:Tabs:=ZR (ZR (ZO) 204 ZAz) 205 ZPL
theorem ZZH:SsOk Tryz.prog ZLh:=ZG (ZG (ZD) (ZU 204) ZMR) (ZU 205) ZeF
theorem ZaY:(∀a,ZLh.q 204 a=ZAz a)/\(∀a,ZLh.q 205 a=ZPL a)/\(∀f a o,ZLh.r f a o=none)/\(∀f a o,ZLh.k f a o=none):=⟨λ_=>rfl,λ_=>rfl,λ_ _ _=>rfl,λ_ _ _=>rfl⟩
set_option maxHeartbeats 2000000 in
theorem Zgo(s:Tx)(hl:s.length<=900000):ZC Tryz.prog 184 [.x (.str s)] (.tup [.x (.str (ZID s).1),.x (.bool (ZID s).2)]):=by
 have htl:=ZOw s;rcases hq:ZID s with⟨v,ok⟩
 unfold ZID at hq;refine ZI.pure (fC 184 true ?_) rfl;intro C0 E0;have uu:=ξ7 @ZAz.eq_1 @ZAz.eq_2 @ZPL.eq_1 @ZPL.eq_2 @Ys @Kw @ZaY;have tT:=ZZH;refine nz ?_;refine WI.regB tT [0] ?_
 iterate 2 refine oS ?_
 refine oN ?_;refine nz ?_;refine WI.loop (λφ os=> ∃(r:Tx),φ= [(0,.x (.str r))]/\os= []/\r.length<=s.length/\trL s=trL r) ((λφ _=>match get φ 0 with| .x (.str r)=>r.length|_=>0)) ?_ (λφ os hI=> ?_)
 .exact⟨s,rfl,rfl,J0,rfl⟩
 .obtain⟨r,rfl,rfl,hr,he⟩:=hI;have hem:=ZJG r;refine nz ?_;refine WI.regB tT [0,14] ?_;refine oS ?_;refine oG (hok:=by first|exact se|(clear uu;grind)|exact sd) ?_;refine oS ?_
  iterate 4 refine oG (hok:=by first|exact se|(clear uu;grind)|exact sd) ?_
  refine oN ?_;refine nz ?_;refine cd (λh0=> ?_) (λh0=> ?_)
  .have h0p:0<r.length:=by rcases r with _|⟨c,r⟩;simp at h0;simp
   have h0c:r.getD 0 0=32:=by rcases r with _|⟨c,r⟩;simp at h0;exact ZMY (by simpa using h0)
   refine WI.regB tT [0] ?_;refine oS ?_;refine oG (hok:=by first|exact se|(clear uu;grind)|exact sd) ?_;refine oS ?_;refine oN ?_;refine nz ?_;exact⟨⟨r.drop 1,rfl,rfl,by simp;omega,by rw[he,ZNH r h0p h0c]⟩,by show(r.drop 1).length<r.length;rw[Jj];omega⟩
  .have h0n: ¬(0<r.length/\r.getD 0 0=32):=λhh=>by
    have h2:((r.getD 0 0).toNat:Int)=32:=by rw[hh.2];rfl
    have h3:r≠ []:=by rintro rfl;simp at hh
    grind
   rw[he,ZMX r h0n]at hq htl;clear he h0 h0n hem;refine WI.regB tT [0,4] ?_;refine oS ?_;refine oN ?_;refine nz ?_;refine WI.regB tT [0,4,5] ?_;refine oS ?_;refine oN ?_;refine nz ?_;refine WI.regB tT [0,4,5,6] ?_;refine oS ?_;refine oN ?_;refine nz ?_;refine WI.ownA 4 5 1 ?_;refine WI.loop (λφ os=> ∃(j e n:Nat) (b:Tx),φ= [(0,.x (.str r)),(4,.ref 0 b.length 0 b.length),(5,.x (.int .i64 e)),(6,.x (.int .i64 j))]/\os= [.rows false 5 1 (b.map Zl)]/\j<=r.length/\r.length-j<n/\b.length<=j/\e<=b.length/\JT (s.length+1) r [] 0=JT n (r.drop j) b e) (ZK r.length 6) ?_ (λφ os hI=> ?_)
   .exact⟨0,0,s.length+1,[],rfl,rfl,J0,J0,J1,J1,rfl⟩
   .obtain⟨j,e,n,b,rfl,rfl,hj,hn,hb,hee,hv⟩:=hI;obtain⟨n,rfl⟩: ∃m,n=m+1:=⟨n-1,J0⟩;refine nz ?_;refine WI.regB tT [0,4,5,6,20] ?_
    iterate 2 refine oS ?_
    iterate 2 refine oG (hok:=by first|exact se|(clear uu;grind)|exact sd) ?_
    refine oN ?_;refine nz ?_;refine cd (λh1=> ?_) (λh1=> ?_)
    .have hj4:j<r.length:=by omega
     have e1:((j:Int)+1).toNat=j+1:=by omega
     have e2:((j:Int)+2).toNat=j+2:=by omega
     have hb8:(r.getD j 0).toNat<256:=ZD0 _;have hb81:(r.getD (j+1) 0).toNat<256:=ZD0 _;have hb82:(r.getD (j+2) 0).toNat<256:=ZD0 _;have hfe:=Zfx (r.getD (j+1) 0);have hbe:=ZeD (r.getD j 0).toNat (decide (b.length=0));have uu:=JW uu e1 e2;refine WI.regB tT [0,4,5,6,7] ?_
     iterate 2 refine oS ?_
     refine oG (hok:=by first|exact se|(clear uu;grind)|exact sd) ?_;refine oS ?_;refine oN ?_;refine nz ?_;refine WI.regB tT [0,4,5,6,7,32] ?_;refine oS ?_;refine oG (hok:=by first|exact se|(clear uu;grind)|exact sd) ?_;refine oS ?_
     iterate 6 refine oG (hok:=by first|exact se|(clear uu;grind)|exact sd) ?_
     refine oS ?_
     iterate 4 refine oG (hok:=by first|exact se|(clear uu;grind)|exact sd) ?_
     refine oC (hok:=by first|exact se|(clear uu;grind)|exact sd) ?_
     iterate 15 refine oG (hok:=by first|exact se|(clear uu;grind)|exact sd) ?_
     refine oS ?_;refine oN ?_;refine nz ?_;refine cd (λh2=> ?_) (λh2=> ?_)
     .have hst:=Zcj n r b j e (ZSw (by clear uu;grind)) (by clear uu;grind) (by rw[hfe];clear uu;grind);refine WI.post ?_;refine WI.regB tT [0,4,6] ?_
      iterate 3 refine oS ?_
      iterate 4 refine oG (hok:=by first|exact se|(clear uu;grind)|exact sd) ?_
      refine oS ?_;refine oP ?_;refine Je [0] ?_;refine KM ?_;refine nz ?_;refine WI.regB tT [0,4,6] ?_;refine oS ?_;refine oG (hok:=by first|exact se|(clear uu;grind)|exact sd) ?_;refine oS ?_;refine oN ?_;refine nz ?_;refine WI.regB tT [0,4,5,6] ?_;refine oS ?_;refine oG (hok:=by first|exact se|(clear uu;grind)|exact sd) ?_;refine oS ?_;refine oN ?_;refine nz ?_;refine WI.orderA [0,4,5,6] ?_;refine WI.regB tT [0,4,5,6] ?_;refine oS ?_;refine oG (hok:=by first|exact se|(clear uu;grind)|exact sd) ?_;refine oS ?_;refine oN ?_;refine nz ?_
      first|exact⟨⟨j+2,b.length+1,n,b++ [r.getD (j+1) 0],by rw[Zg];first|done|rfl,by rw[YI];first|done|rfl,J0,J0,by rw[Zg];simp;omega,J1,by rw[hv,hst]⟩,by simp[ZK,Ab.get,D.val,ZE];omega⟩|exact⟨⟨j+3,b.length+1,n,b++ [orB (Qf (r.getD (j+1) 0).toNat) (Qf (r.getD (j+2) 0).toNat)],by rw[Zg];first|done|rfl,by rw[YI];first|done|rfl,J0,J0,by rw[Zg];simp;omega,J1,by rw[hv,hst]⟩,by simp[ZK,Ab.get,D.val,ZE];omega⟩|exact⟨⟨j+1,e,n,b++ [r.getD j 0],by rw[Zg];first|done|rfl,by rw[YI];first|done|rfl,J0,J0,by rw[Zg];simp;omega,by simp;omega,by rw[hv,hst]⟩,by simp[ZK,Ab.get,D.val,ZE];omega⟩|exact⟨⟨j+1,b.length+1,n,b++ [r.getD j 0],by rw[Zg];first|done|rfl,by rw[YI];first|done|rfl,J0,J0,by rw[Zg];simp;omega,J1,by rw[hv,hst]⟩,by simp[ZK,Ab.get,D.val,ZE];omega⟩
     .refine WI.regB tT [0,4,5,6,7,74] ?_;refine oS ?_;refine oG (hok:=by first|exact se|(clear uu;grind)|exact sd) ?_;refine oS ?_
      iterate 6 refine oG (hok:=by first|exact se|(clear uu;grind)|exact sd) ?_
      refine oS ?_
      iterate 4 refine oG (hok:=by first|exact se|(clear uu;grind)|exact sd) ?_
      refine oC (hok:=by first|exact se|(clear uu;grind)|exact sd) ?_
      iterate 2 refine oG (hok:=by first|exact se|(clear uu;grind)|exact sd) ?_
      refine oS ?_
      iterate 4 refine oG (hok:=by first|exact se|(clear uu;grind)|exact sd) ?_
      refine oC (hok:=by first|exact se|(clear uu;grind)|exact sd) ?_
      iterate 2 refine oG (hok:=by first|exact se|(clear uu;grind)|exact sd) ?_
      refine oS ?_;refine oN ?_;refine nz ?_;refine cd (λh3=> ?_) (λh3=> ?_)
      .have hx1:Qf (r.getD (j+1) 0).toNat<16:=by clear uu;grind
       have hx2:Qf (r.getD (j+2) 0).toNat<16:=by clear uu;grind
       have hst:=ZfX n r b j e (ZSw (by clear uu;grind)) (by clear uu;grind) (by rw[hfe];clear uu;grind) hx1 hx2;have uu:=YZ uu (ZjF _ _ hx1 hx2);refine WI.post ?_;refine WI.dregB tT [0,4,6] ?_
       iterate 3 refine YD ?_
       iterate 2 refine KR (hok:=by first|exact se|(clear uu;grind)|exact sd) ?_
       refine dAC (hok:=by first|exact se|(clear uu;grind)|exact sd) ?_;refine KR (hok:=by first|exact se|(clear uu;grind)|exact sd) ?_
       iterate 2 refine YD ?_
       iterate 2 refine KR (hok:=by first|exact se|(clear uu;grind)|exact sd) ?_
       refine dAC (hok:=by first|exact se|(clear uu;grind)|exact sd) ?_
       iterate 2 refine KR (hok:=by first|exact se|(clear uu;grind)|exact sd) ?_
       iterate 2 refine dAG (hok:=by first|exact se|(clear uu;grind)|exact sd) ?_
       refine YD ?_;refine dP ?_;refine Je [0] ?_;refine KM ?_;refine nz ?_;refine WI.regB tT [0,4,6] ?_;refine oS ?_;refine oG (hok:=by first|exact se|(clear uu;grind)|exact sd) ?_;refine oS ?_;refine oN ?_;refine nz ?_;refine WI.regB tT [0,4,5,6] ?_;refine oS ?_;refine oG (hok:=by first|exact se|(clear uu;grind)|exact sd) ?_;refine oS ?_;refine oN ?_;refine nz ?_;refine WI.orderA [0,4,5,6] ?_;refine WI.regB tT [0,4,5,6] ?_;refine oS ?_;refine oG (hok:=by first|exact se|(clear uu;grind)|exact sd) ?_;refine oS ?_;refine oN ?_;refine nz ?_
       first|exact⟨⟨j+2,b.length+1,n,b++ [r.getD (j+1) 0],by rw[Zg];first|done|rfl,by rw[YI];first|done|rfl,J0,J0,by rw[Zg];simp;omega,J1,by rw[hv,hst]⟩,by simp[ZK,Ab.get,D.val,ZE];omega⟩|exact⟨⟨j+3,b.length+1,n,b++ [orB (Qf (r.getD (j+1) 0).toNat) (Qf (r.getD (j+2) 0).toNat)],by rw[Zg];first|done|rfl,by rw[YI];first|done|rfl,J0,J0,by rw[Zg];simp;omega,J1,by rw[hv,hst]⟩,by simp[ZK,Ab.get,D.val,ZE];omega⟩|exact⟨⟨j+1,e,n,b++ [r.getD j 0],by rw[Zg];first|done|rfl,by rw[YI];first|done|rfl,J0,J0,by rw[Zg];simp;omega,by simp;omega,by rw[hv,hst]⟩,by simp[ZK,Ab.get,D.val,ZE];omega⟩|exact⟨⟨j+1,b.length+1,n,b++ [r.getD j 0],by rw[Zg];first|done|rfl,by rw[YI];first|done|rfl,J0,J0,by rw[Zg];simp;omega,J1,by rw[hv,hst]⟩,by simp[ZK,Ab.get,D.val,ZE];omega⟩
      .refine WI.regB tT [0,4,5,6,7,120] ?_;refine oS ?_;refine oG (hok:=by first|exact se|(clear uu;grind)|exact sd) ?_;refine oS ?_;refine oN ?_;refine nz ?_;refine cd (λh4=> ?_) (λh4=> ?_)
       .have hst:=ZXj n r b j e hj4 (ZMY (by first|exact h4|simpa using h4));refine WI.post ?_;refine WI.regB tT [0,4,5,6] ?_
        iterate 2 refine oS ?_
        iterate 2 refine oG (hok:=by first|exact se|(clear uu;grind)|exact sd) ?_
        refine oS ?_;refine oP ?_;refine Je [0] ?_;refine KM ?_;refine nz ?_;refine WI.orderA [0,4,5,6] ?_;refine WI.regB tT [0,4,5,6] ?_;refine oS ?_;refine oG (hok:=by first|exact se|(clear uu;grind)|exact sd) ?_;refine oS ?_;refine oN ?_;refine nz ?_
        first|exact⟨⟨j+2,b.length+1,n,b++ [r.getD (j+1) 0],by rw[Zg];first|done|rfl,by rw[YI];first|done|rfl,J0,J0,by rw[Zg];simp;omega,J1,by rw[hv,hst]⟩,by simp[ZK,Ab.get,D.val,ZE];omega⟩|exact⟨⟨j+3,b.length+1,n,b++ [orB (Qf (r.getD (j+1) 0).toNat) (Qf (r.getD (j+2) 0).toNat)],by rw[Zg];first|done|rfl,by rw[YI];first|done|rfl,J0,J0,by rw[Zg];simp;omega,J1,by rw[hv,hst]⟩,by simp[ZK,Ab.get,D.val,ZE];omega⟩|exact⟨⟨j+1,e,n,b++ [r.getD j 0],by rw[Zg];first|done|rfl,by rw[YI];first|done|rfl,J0,J0,by rw[Zg];simp;omega,by simp;omega,by rw[hv,hst]⟩,by simp[ZK,Ab.get,D.val,ZE];omega⟩|exact⟨⟨j+1,b.length+1,n,b++ [r.getD j 0],by rw[Zg];first|done|rfl,by rw[YI];first|done|rfl,J0,J0,by rw[Zg];simp;omega,J1,by rw[hv,hst]⟩,by simp[ZK,Ab.get,D.val,ZE];omega⟩
       .refine WI.regB tT [0,4,6,7,127] ?_;refine oS ?_;refine oG (hok:=by first|exact se|(clear uu;grind)|exact sd) ?_;refine oS ?_
        iterate 3 refine oG (hok:=by first|exact se|(clear uu;grind)|exact sd) ?_
        refine oS ?_;refine oG (hok:=by first|exact se|(clear uu;grind)|exact sd) ?_;refine oC (hok:=by first|exact se|(clear uu;grind)|exact sd) ?_
        iterate 5 refine oG (hok:=by first|exact se|(clear uu;grind)|exact sd) ?_
        refine oS ?_
        iterate 8 refine oG (hok:=by first|exact se|(clear uu;grind)|exact sd) ?_
        refine oS ?_;refine oN ?_;refine nz ?_;refine cd (λh5=> ?_) (λh5=> ?_)
        .refine WI.regB tT [2,3] ?_
         iterate 2 refine oS ?_
         refine oN ?_;refine nz ?_;refine lf ?_;have hno:JT (n+1) (r.drop j) b e=none:=by
          by_cases hc:r.getD j 0=92
          .have hc':((r.getD j 0).toNat:Int)=92:=by rw[hc];rfl
           exact ZfP n r b j e hj4 hc (by rw[hfe];clear uu;grind) (by clear uu;grind)
          .exact ZeK n r b j e hj4 hc (by rw[hbe];clear uu;grind)
         rw[hv,hno]at hq;cases hq;rfl
        .have hc9:r.getD j 0≠92:=by
          intro hc;have hc':((r.getD j 0).toNat:Int)=92:=by rw[hc];rfl
          have hs9:spc (r.getD j 0).toNat=true:=by rw[hc];exact ZiN
          clear uu;grind
         have hst:=ZX5 n r b j e hj4 hc9 (by rw[hbe];clear uu;grind) (neD (k:=32) (by decide) (by clear uu;grind));refine WI.post ?_;refine WI.regB tT [0,4,6] ?_
         iterate 2 refine oS ?_
         iterate 2 refine oG (hok:=by first|exact se|(clear uu;grind)|exact sd) ?_
         refine oS ?_;refine oP ?_;refine Je [0] ?_;refine KM ?_;refine nz ?_;refine WI.regB tT [0,4,5,6] ?_;refine oS ?_;refine oG (hok:=by first|exact se|(clear uu;grind)|exact sd) ?_;refine oS ?_;refine oN ?_;refine nz ?_;refine WI.orderA [0,4,5,6] ?_;refine WI.regB tT [0,4,5,6] ?_;refine oS ?_;refine oG (hok:=by first|exact se|(clear uu;grind)|exact sd) ?_;refine oS ?_;refine oN ?_;refine nz ?_
         first|exact⟨⟨j+2,b.length+1,n,b++ [r.getD (j+1) 0],by rw[Zg];first|done|rfl,by rw[YI];first|done|rfl,J0,J0,by rw[Zg];simp;omega,J1,by rw[hv,hst]⟩,by simp[ZK,Ab.get,D.val,ZE];omega⟩|exact⟨⟨j+3,b.length+1,n,b++ [orB (Qf (r.getD (j+1) 0).toNat) (Qf (r.getD (j+2) 0).toNat)],by rw[Zg];first|done|rfl,by rw[YI];first|done|rfl,J0,J0,by rw[Zg];simp;omega,J1,by rw[hv,hst]⟩,by simp[ZK,Ab.get,D.val,ZE];omega⟩|exact⟨⟨j+1,e,n,b++ [r.getD j 0],by rw[Zg];first|done|rfl,by rw[YI];first|done|rfl,J0,J0,by rw[Zg];simp;omega,by simp;omega,by rw[hv,hst]⟩,by simp[ZK,Ab.get,D.val,ZE];omega⟩|exact⟨⟨j+1,b.length+1,n,b++ [r.getD j 0],by rw[Zg];first|done|rfl,by rw[YI];first|done|rfl,J0,J0,by rw[Zg];simp;omega,J1,by rw[hv,hst]⟩,by simp[ZK,Ab.get,D.val,ZE];omega⟩
    .have hv2:JT (s.length+1) r [] 0=some (b,e):=by rw[hv,ZBl J0];rfl
     rw[hv2]at hq;have e1:(List.map Zl b).take e=(b.take e).map Zl:=by rw[ZWl]
     have uu:=YZ uu e1;refine WI.regB tT [2,3] ?_
     iterate 2 refine oS ?_
     iterate 2 refine oG (hok:=by first|exact se|(clear uu;grind)|exact sd) ?_
     iterate 2 refine oS ?_
     refine oN ?_;refine nz ?_;refine lf ?_;cases hq;rfl
def ZL8:J8->J5
 | [.x (.str s)]=>some (decide (s.length<=900000),.tup [.x (.str (ZID s).1),.x (.bool (ZID s).2)])
 |_=>none
theorem ZdK: ∀args r,ZL8 args=some (true,r)->ZC Tryz.prog 184 args r:=by
 intro args r h;unfold ZL8 at h;split at h
 .rename_i s;simp only[Ze,Za,ZT,Zc,true_and]at h;obtain⟨h1,rfl⟩:=h;exact(Zgo s h1)
 .cases h
def pre(p:Tx):List Tx->List Tx
 | []=> [p]
 |x::l=>(p++x)::l
def YR(a:UInt8):Tx->List Tx
 | []=> [[]]
 |c::r=>if c=92 then(match r with
   | []=> [[c]]
   |d::r'=>pre [c,d] (YR a r'))else if c=a then []::YR a r else pre [c] (YR a r)
theorem ZZg(p:Tx)(l:List Tx):pre p l≠ []:=by cases l<;>simp[pre]
theorem ZJN(a:UInt8)(s:Tx):YR a s≠ []:=by
 unfold YR;split
 .simp
 .split
  .split
   .simp
   .exact ZZg _ _
  .split
   .simp
   .exact ZZg _ _
theorem ZPh(p q:Tx)(l:List Tx)(h:l≠ []):pre p (pre q l)=pre (p++q) l:=by
 rcases l with _|⟨x,l⟩
 .exact absurd rfl h
 .simp[pre]
theorem ZPT(l:List Tx)(h:l≠ []):pre [] l=l:=by
 rcases l with _|⟨x,l⟩
 .exact absurd rfl h
 .simp[pre]
theorem ZYi(a:UInt8)(s:Tx)(j:Nat)(h:j<s.length)(hc:s.getD j 0=92):YR a (s.drop j)=pre ((s.drop j).take 2) (YR a (s.drop (j+2))):=by
 rw[Kx s j h,hc];rcases hr:s.drop (j+1)with _|⟨d,r⟩
 .have:s.drop (j+2)= []:=by rw[<-ZM4,show s.drop j=s.drop (j+0)from rfl];have:=congrArg (List.drop 1) hr;rw[ZM4]at this;simpa using this
  rw[this];rfl
 .have:s.drop (j+2)=r:=by have:=congrArg (List.drop 1) hr;rw[ZM4]at this;simpa using this
  rw[this]
  conv=>lhs;unfold YR
  rw[if_pos rfl];rfl
theorem Zen(a:UInt8)(ha:a≠92)(s:Tx)(j:Nat)(h:j<s.length)(hc:s.getD j 0=a):YR a (s.drop j)= []::YR a (s.drop (j+1)):=by
 rw[Kx s j h,hc]
 conv=>lhs;unfold YR
 rw[if_neg ha,if_pos rfl]
theorem ZaC(a:UInt8)(s:Tx)(j:Nat)(h:j<s.length)(h1:s.getD j 0≠92)(h2:s.getD j 0≠a):YR a (s.drop j)=pre [s.getD j 0] (YR a (s.drop (j+1))):=by
 rw[Kx s j h]
 conv=>lhs;unfold YR
 rw[if_neg h1,if_neg h2]
theorem ZOY(s:Tx)(f j k:Nat)(h:f<=j)(hj:j<=s.length):(s.take (j+k)).drop f=(s.take j).drop f++(s.drop j).take k:=by
 rw[List.take_add,Zbb (by simp;omega)]
theorem Zhb(s:Tx)(j:Nat)(h:j<s.length):(s.drop j).take 1= [s.getD j 0]:=by rw[Kx s j h];rfl
structure SpI (a:UInt8) (s:Tx) (f j:Nat) (ps:List Tx):Prop where
 fj:f<=j
 jl:j<=s.length+1
 fl:f<=s.length
 pl:ps.length<=f
 eq:YR a s=ps++pre ((s.take j).drop f) (YR a (s.drop j))
theorem SpI.start(a:UInt8)(s:Tx):SpI a s 0 0 []:=⟨Zm _,J0,J0,J1,by show YR a s=pre [] (YR a s);rw[ZPT _ (ZJN a s)]⟩
theorem SpI.slash{a:UInt8}{s:Tx}{f j:Nat}{ps:List Tx}(I:SpI a s f j ps)(h:j<s.length)(hc:s.getD j 0=92):SpI a s f (j+2) ps:=
 ⟨by have:=I.fj;omega,J0,I.fl,I.pl,by rw[I.eq,ZYi a s j h hc,ZPh _ _ _ (ZJN _ _),ZOY s f j 2 I.fj J0]⟩
theorem SpI.hit{a:UInt8}(ha:a≠92){s:Tx}{f j:Nat}{ps:List Tx}(I:SpI a s f j ps)(h:j<s.length)(hc:s.getD j 0=a):SpI a s (j+1) (j+1) (ps++ [(s.take j).drop f]):=
 ⟨Zm _,J0,J0,by have:=I.pl;have:=I.fj;simp;omega,by
  rw[I.eq,Zen a ha s j h hc,ZBl (l:=s.take (j+1)) (by simp;omega),ZPT _ (ZJN _ _)];simp[pre]⟩
theorem SpI.plain{a:UInt8}{s:Tx}{f j:Nat}{ps:List Tx}(I:SpI a s f j ps)(h:j<s.length)(h1:s.getD j 0≠92)(h2:s.getD j 0≠a):SpI a s f (j+1) ps:=
 ⟨by have:=I.fj;omega,J0,I.fl,I.pl,by rw[I.eq,ZaC a s j h h1 h2,ZPh _ _ _ (ZJN _ _),ZOY s f j 1 I.fj J0,Zhb s j h]⟩
theorem SpI.fin{a:UInt8}{s:Tx}{f j:Nat}{ps:List Tx}(I:SpI a s f j ps)(h:s.length<=j):YR a s=ps++ [s.drop f]:=by
 rw[I.eq,ZBl h,YX h];simp[YR,pre]
theorem ZAs(l:List Tx)(x:Tx):rows ZA l++ [[X.str x]]=rows ZA (l++ [x]):=by simp[rows,ZA]
theorem cD{c a:UInt8}(h:(c.toNat:Int)=a.toNat):c=a:=ZMx.1 J0
theorem nD{c a:UInt8}(h: ¬(c.toNat:Int)=a.toNat):c≠a:=λe=>h (by rw[e])
theorem ZTZ(a:UInt8)(ha:a≠92)(s:Tx)(hl:s.length<=1000000):ZC Tryz.prog 166 [.x (.str s),.x (.int .u8 a.toNat)] (.x (.sl (rows ZA (YR a s)))):=by
 refine ZI.pure (fC 166 true ?_) rfl;intro C0 E0;have uu:=trivial;have tT:=(ZD:SsOk Tryz.prog ZO);refine nz ?_;refine rg tT [0,1] ?_;refine rg tT [0,1,5] ?_;refine rg tT [0,1,5,6] ?_;refine rg tT [0,1,5,6,7] ?_;refine WI.ownA 5 9 1 ?_;refine WI.loop (λφ os=> ∃(f j:Nat) (ps:List Tx),φ= [(0,.x (.str s)),(1,.x (.int .u8 a.toNat)),(5,.ref 0 ps.length 0 ps.length),(6,.x (.int .i64 f)),(7,.x (.int .i64 j))]/\os= [.rows false 9 1 (rows ZA ps)]/\SpI a s f j ps) (ZK (s.length+1) 7) ?_ (λφ os hI=> ?_)
 .exact⟨0,0,[],rfl,rfl,SpI.start a s⟩
 .obtain⟨f,j,ps,rfl,rfl,I⟩:=hI;have i1:=I.fj;have i2:=I.jl;have i3:=I.fl;have i4:=I.pl;refine nz ?_;refine rg tT [0,1,5,6,7,11] ?_;refine cd (λh0=> ?_) (λh0=> ?_)
  .have hj4:j<s.length:=by omega
   refine rg tT [0,1,5,6,7,16] ?_;refine rg tT [0,1,5,6,7,16,17] ?_;refine cd (λh1=> ?_) (λh1=> ?_)
   .have hc:s.getD j 0=92:=ZSw (by first|exact h1|simpa using h1);refine rg tT [0,1,5,6,7] ?_;refine WI.orderA [0,1,5,6,7] ?_;refine rg tT [0,1,5,6,7] ?_
    first|exact⟨⟨f,j+2,ps,rfl,rfl,I.slash hj4 hc⟩,by simp[ZK,Ab.get,D.val,ZE];omega⟩|exact⟨⟨j+1,j+1,ps++ [(s.take j).drop f],by rw[Zg];first|done|rfl,by rw[<-ZAs];first|done|rfl,I.hit ha hj4 hc⟩,by simp[ZK,Ab.get,D.val,ZE];omega⟩|exact⟨⟨f,j+1,ps,rfl,rfl,I.plain hj4 hc1 hc2⟩,by simp[ZK,Ab.get,D.val,ZE];omega⟩
   .have hc1:s.getD j 0≠92:=neD (k:=92) (by decide) (by first|exact h1|simpa using h1);refine rg tT [0,1,5,6,7,21] ?_;refine cd (λh2=> ?_) (λh2=> ?_)
    .have hc:s.getD j 0=a:=cD (by first|exact h2|simpa using h2);refine rgp tT [0,1,5,7] ?_;refine Je [0] ?_;refine KM ?_;refine nz ?_;refine rg tT [0,1,5,6,7] ?_;refine WI.orderA [0,1,5,6,7] ?_;refine rg tT [0,1,5,6,7] ?_
     first|exact⟨⟨f,j+2,ps,rfl,rfl,I.slash hj4 hc⟩,by simp[ZK,Ab.get,D.val,ZE];omega⟩|exact⟨⟨j+1,j+1,ps++ [(s.take j).drop f],by rw[Zg];first|done|rfl,by rw[<-ZAs];first|done|rfl,I.hit ha hj4 hc⟩,by simp[ZK,Ab.get,D.val,ZE];omega⟩|exact⟨⟨f,j+1,ps,rfl,rfl,I.plain hj4 hc1 hc2⟩,by simp[ZK,Ab.get,D.val,ZE];omega⟩
    .have hc2:s.getD j 0≠a:=nD (by first|exact h2|simpa using h2);refine WI.orderA [0,1,5,6,7] ?_;refine rg tT [0,1,5,6,7] ?_
     first|exact⟨⟨f,j+2,ps,rfl,rfl,I.slash hj4 hc⟩,by simp[ZK,Ab.get,D.val,ZE];omega⟩|exact⟨⟨j+1,j+1,ps++ [(s.take j).drop f],by rw[Zg];first|done|rfl,by rw[<-ZAs];first|done|rfl,I.hit ha hj4 hc⟩,by simp[ZK,Ab.get,D.val,ZE];omega⟩|exact⟨⟨f,j+1,ps,rfl,rfl,I.plain hj4 hc1 hc2⟩,by simp[ZK,Ab.get,D.val,ZE];omega⟩
  .refine rg tT [4] ?_;refine lf ?_;rw[ZAs,I.fin J0,YX (by simp[rows])]
def QN:J8->J5
 | [.x (.str s),.x (.int .u8 n)]=>some (decide (s.length<=1000000)&&(decide (n=43\/n=44)),.x (.sl (rows ZA (YR (UInt8.ofNat n.toNat) s))))
 |_=>none
theorem ZJv: ∀args r,QN args=some (true,r)->ZC Tryz.prog 166 args r:=by
 intro args r h;unfold QN at h;split at h
 .rename_i s n;simp only[Ze,Za,ZT,Zc,true_and]at h;obtain⟨⟨h1,h2⟩,rfl⟩:=h;exact(by rcases h2 with rfl|rfl;exact ZTZ 43 (by decide) s h1;exact ZTZ 44 (by decide) s h1)
 .cases h
theorem ZSu(a:UInt8)(ha:a≠92)(s:Tx)(hl:s.length<=1000000):ZC Tryz.prog 158 [.x (.str s),.x (.int .u8 a.toNat)] (.x (.sl (rows ZA (YR a s)))):=by
 refine ZI.pure (fC 158 true ?_) rfl;intro C0 E0;have uu:=trivial;have tT:=(ZD:SsOk Tryz.prog ZO);refine nz ?_;refine rg tT [0,1] ?_;refine rg tT [0,1,5] ?_;refine rg tT [0,1,5,6] ?_;refine rg tT [0,1,5,6,7] ?_;refine WI.ownA 5 9 1 ?_;refine WI.loop (λφ os=> ∃(f j:Nat) (ps:List Tx),φ= [(0,.x (.str s)),(1,.x (.int .u8 a.toNat)),(5,.ref 0 ps.length 0 ps.length),(6,.x (.int .i64 f)),(7,.x (.int .i64 j))]/\os= [.rows false 9 1 (rows ZA ps)]/\SpI a s f j ps) (ZK (s.length+1) 7) ?_ (λφ os hI=> ?_)
 .exact⟨0,0,[],rfl,rfl,SpI.start a s⟩
 .obtain⟨f,j,ps,rfl,rfl,I⟩:=hI;have i1:=I.fj;have i2:=I.jl;have i3:=I.fl;have i4:=I.pl;refine nz ?_;refine rg tT [0,1,5,6,7,11] ?_;refine cd (λh0=> ?_) (λh0=> ?_)
  .have hj4:j<s.length:=by omega
   refine rg tT [0,1,5,6,7,17] ?_;refine cd (λh1=> ?_) (λh1=> ?_)
   .have hc:s.getD j 0=92:=ZSw (by first|exact h1|simpa using h1);refine rg tT [0,1,5,6,7] ?_;refine WI.orderA [0,1,5,6,7] ?_;refine rg tT [0,1,5,6,7] ?_
    first|exact⟨⟨f,j+2,ps,rfl,rfl,I.slash hj4 hc⟩,by simp[ZK,Ab.get,D.val,ZE];omega⟩|exact⟨⟨j+1,j+1,ps++ [(s.take j).drop f],by rw[Zg];first|done|rfl,by rw[<-ZAs];first|done|rfl,I.hit ha hj4 hc⟩,by simp[ZK,Ab.get,D.val,ZE];omega⟩|exact⟨⟨f,j+1,ps,rfl,rfl,I.plain hj4 hc1 hc2⟩,by simp[ZK,Ab.get,D.val,ZE];omega⟩
   .have hc1:s.getD j 0≠92:=neD (k:=92) (by decide) (by first|exact h1|simpa using h1);refine rg tT [0,1,5,6,7,24] ?_;refine cd (λh2=> ?_) (λh2=> ?_)
    .have hc:s.getD j 0=a:=cD (by first|exact h2|simpa using h2);refine rgp tT [0,1,5,7] ?_;refine Je [0] ?_;refine KM ?_;refine nz ?_;refine rg tT [0,1,5,6,7] ?_;refine WI.orderA [0,1,5,6,7] ?_;refine rg tT [0,1,5,6,7] ?_
     first|exact⟨⟨f,j+2,ps,rfl,rfl,I.slash hj4 hc⟩,by simp[ZK,Ab.get,D.val,ZE];omega⟩|exact⟨⟨j+1,j+1,ps++ [(s.take j).drop f],by rw[Zg];first|done|rfl,by rw[<-ZAs];first|done|rfl,I.hit ha hj4 hc⟩,by simp[ZK,Ab.get,D.val,ZE];omega⟩|exact⟨⟨f,j+1,ps,rfl,rfl,I.plain hj4 hc1 hc2⟩,by simp[ZK,Ab.get,D.val,ZE];omega⟩
    .have hc2:s.getD j 0≠a:=nD (by first|exact h2|simpa using h2);refine WI.orderA [0,1,5,6,7] ?_;refine rg tT [0,1,5,6,7] ?_
     first|exact⟨⟨f,j+2,ps,rfl,rfl,I.slash hj4 hc⟩,by simp[ZK,Ab.get,D.val,ZE];omega⟩|exact⟨⟨j+1,j+1,ps++ [(s.take j).drop f],by rw[Zg];first|done|rfl,by rw[<-ZAs];first|done|rfl,I.hit ha hj4 hc⟩,by simp[ZK,Ab.get,D.val,ZE];omega⟩|exact⟨⟨f,j+1,ps,rfl,rfl,I.plain hj4 hc1 hc2⟩,by simp[ZK,Ab.get,D.val,ZE];omega⟩
  .refine rg tT [4] ?_;refine lf ?_;rw[ZAs,I.fin J0,YX (by simp[rows])]
def ZGi:J8->J5
 | [.x (.str s),.x (.int .u8 n)]=>some (decide (s.length<=1000000)&&(decide (n=43\/n=44)),.x (.sl (rows ZA (YR (UInt8.ofNat n.toNat) s))))
 |_=>none
theorem ZWV: ∀args r,ZGi args=some (true,r)->ZC Tryz.prog 158 args r:=by
 intro args r h;unfold ZGi at h;split at h
 .rename_i s n;simp only[Ze,Za,ZT,Zc,true_and]at h;obtain⟨⟨h1,h2⟩,rfl⟩:=h;exact(by rcases h2 with rfl|rfl;exact ZSu 43 (by decide) s h1;exact ZSu 44 (by decide) s h1)
 .cases h
def ZPE(n:Nat):Bool:=decide (97<=n/\n<=122)||decide (65<=n/\n<=90)
def ZPI(n:Nat):Bool:=decide (48<=n/\n<=57)||decide (n=45)
def tyC(i:Nat)(c:UInt8):Bool:=ZPE c.toNat||(decide (0<i)&&ZPI c.toNat)
def tyU(s:List UInt8):Nat->Bool
 |0=>true
 |j+1=>tyU s j&&tyC j (s.getD j 0)
def tyA(s:List UInt8)(j:Nat):Bool:=(decide (s≠ [])&&decide (s.length<=64))&&tyU s j
def JJ(s:List UInt8):Bool:=tyA s s.length
theorem ZPQ(s:List UInt8):JJ s=(decide (1<=s.length/\s.length<=64)&&tyU s s.length):=by
 unfold JJ tyA;congr 1;rcases s with _|⟨c,s⟩<;>simp
theorem ZZ2(s:List UInt8): ∀(n j:Nat),j<n->tyC j (s.getD j 0)=false->tyU s n=false
 |n+1,j,hj,h=>by
  rw[tyU];by_cases e:j=n
  .subst e;rw[h,ZDv]
  .rw[ZZ2 s n j J0 h,ZHM]
theorem ZeX(j:Nat)(c:UInt8):(((decide ((QF c).toNat>=97)&&decide ((QF c).toNat<=122))||(decide (j>0)&&((decide ((QF c).toNat>=48)&&decide ((QF c).toNat<=57))||decide ((QF c).toNat=45)))))=tyC j c:=by
 have h8:=ZD0 c;unfold tyC ZPE ZPI;by_cases h:65<=c.toNat/\c.toNat<=90
 .have e:(QF c).toNat=c.toNat+32:=by have:=ZIt h;omega
  rw[e,Qj];simp only[ZBX,ZT,Zc];omega
 .have e:QF c=c:=if_neg h;rw[e,Qj];simp only[ZBX,ZT,Zc];omega
theorem ZUr(s:List UInt8):(!s== []&&decide ((s.length:Int)<=64))=tyA s 0:=by
 unfold tyA;rw[tyU,QS,Qj];simp;omega
theorem ZVJ(s:List UInt8)(j:Nat):(tyA s j&&(decide (((QF (s.getD j 0)).toNat:Int)>=97)&&decide (((QF (s.getD j 0)).toNat:Int)<=122)||decide ((j:Int)>0)&&(decide (((QF (s.getD j 0)).toNat:Int)>=48)&&decide (((QF (s.getD j 0)).toNat:Int)<=57)||((QF (s.getD j 0)).toNat:Int)==45)))=tyA s (j+1):=by
 have h:=ZeX j (s.getD j 0);unfold tyA;rw[tyU,<-h,<-ZLe];congr 1;rw[Qj];simp only[ZBX,ZT,Zc,beq_iff_eq];omega
theorem ZUZ(s:List UInt8)(i:Nat)(h:i<s.length):((ZH s).map Zl)[i]? =some [X.int .u8 (QF (s.getD i 0)).toNat]:=by
 simp[ZH,h,Zl]
def ZOk:Tabs:=ZR (ZO) 37 ZB1
theorem ZQI:SsOk Tryz.prog ZOk:=ZG (ZD) (ZU 37) ZQD
theorem ZS1:(∀a,ZOk.q 37 a=ZB1 a)/\(∀f a o,ZOk.r f a o=none)/\(∀f a o,ZOk.k f a o=none):=⟨λ_=>rfl,λ_ _ _=>rfl,λ_ _ _=>rfl⟩
theorem ZZv(j:Nat)(c:UInt8):tyC j c=((decide (((c.toNat:Int))>=97)&&decide ((c.toNat:Int)<=122)||decide ((c.toNat:Int)>=65)&&decide ((c.toNat:Int)<=90))||(decide ((j:Int)≠0)&&(decide ((c.toNat:Int)>=48)&&decide ((c.toNat:Int)<=57)||decide ((c.toNat:Int)=45)))):=by
 unfold tyC ZPE ZPI;rw[Qj];simp only[ZBX,ZT,Zc];omega
theorem Ze8(s:List UInt8)(hl:s.length<=1000000):ZC Tryz.prog 115 [.x (.str s)] (.x (.bool (JJ s))):=by
 refine ZI.pure (fC 115 true ?_) rfl;intro C0 E0;have uu:=trivial;have tT:=(ZD:SsOk Tryz.prog ZO);refine nz ?_;refine rg tT [0] ?_;refine rg tT [0,3] ?_;refine WI.loop (λφ os=> ∃(j:Nat),φ= [(0,.x (.str s)),(3,.x (.int .i64 j))]/\os= []/\j<=s.length/\tyU s j=true) (ZK s.length 3) ?_ (λφ os hI=> ?_)
 .exact⟨0,rfl,rfl,J0,rfl⟩
 .obtain⟨j,rfl,rfl,hj,hu⟩:=hI;refine nz ?_;refine rg tT [0,3,9] ?_;refine cd (λh0=> ?_) (λh0=> ?_)
  .refine rg tT [0,3,4] ?_;refine rg tT [0,3,4,5] ?_;refine rg tT [0,3,47] ?_;refine cd (λh1=> ?_) (λh1=> ?_)
   .have hc:tyC j (s.getD j 0)=false:=by rw[ZZv];grind
    refine rg tT [2] ?_;refine lf ?_;rw[ZPQ,ZZ2 s s.length j J0 hc,ZDv]
   .have hc:tyC j (s.getD j 0)=true:=by rw[ZZv];grind
    refine rg tT [0,3] ?_;exact⟨⟨j+1,rfl,rfl,J0,by rw[tyU,hu,hc];rfl⟩,by simp[ZK,Ab.get,D.val,ZE];omega⟩
  .refine rg tT [2] ?_;refine lf ?_;rw[ZPQ,show s.length=j by omega,hu,QS];congr 2;rw[Qj];simp;omega
def ZDf:J8->J5
 | [.x (.str s)]=>some (decide (s.length<=1000000),.x (.bool (JJ s)))
 |_=>none
theorem ZQS: ∀args r,ZDf args=some (true,r)->ZC Tryz.prog 115 args r:=by
 intro args r h;unfold ZDf at h;split at h
 .rename_i s;simp only[Ze,Za,ZT,Zc,true_and]at h;obtain⟨h1,rfl⟩:=h;exact(Ze8 s h1)
 .cases h
theorem ZcL(s:List UInt8)(hl:s.length<=1000000):ZC Tryz.prog 208 [.x (.str s)] (.x (.bool (JJ s))):=by
 refine ZI.pure (fC 208 true ?_) rfl;intro C0 E0;have uu:=ξ6 @ZB1.eq_1 @ZB1.eq_2 @ZDs @Ys @Kw @ZS1;have tT:=ZQI;refine nz ?_;refine rg tT [0] ?_;refine rg tT [0,3] ?_;refine rg tT [3,16,17,18] ?_;refine WI.loop (λφ os=> ∃(j:Nat),φ= [(3,.x (.bool (tyA s j))),(16,.ref 0 s.length 0 s.length),(17,.x (.int .i64 s.length)),(18,.x (.int .i64 j))]/\os= [.rows true 5 1 ((ZH s).map Zl)]/\j<=s.length) (ZK s.length 18) ?_ (λφ os hI=> ?_)
 .exact⟨0,by rw[<-ZUr];rfl,rfl,J0⟩
 .obtain⟨j,rfl,rfl,hj⟩:=hI;refine nz ?_;refine rg tT [3,16,17,18,19] ?_;refine cd (λh0=> ?_) (λh0=> ?_)
  .have hj4:j<s.length:=by omega
   have uu:=YZ uu (ZUZ s j hj4);refine rg tT [3,4,5,16,17,18] ?_;refine rg tT [3,4,5,6,16,17,18] ?_;refine rg tT [3,16,17,18] ?_;refine rg tT [3,16,17,18] ?_;exact⟨⟨j+1,by rw[<-ZVJ];rfl,rfl,J0⟩,by simp[ZK,Ab.get,D.val,ZE];omega⟩
  .refine rg tT [2] ?_;refine lf ?_;rw[show JJ s=tyA s j from by rw[show j=s.length by omega];rfl]
def ZAh:J8->J5
 | [.x (.str s)]=>some (decide (s.length<=1000000),.x (.bool (JJ s)))
 |_=>none
theorem ZNi: ∀args r,ZAh args=some (true,r)->ZC Tryz.prog 208 args r:=by
 intro args r h;unfold ZAh at h;split at h
 .rename_i s;simp only[Ze,Za,ZT,Zc,true_and]at h;obtain⟨h1,rfl⟩:=h;exact(ZcL s h1)
 .cases h
theorem ZcJ(s:List UInt8)(hl:s.length<=1000000):ZC Tryz.prog 114 [.x (.str s)] (.x (.bool (JJ s))):=by
 refine ZI.pure (fC 114 true ?_) rfl;intro C0 E0;have uu:=ξ6 @ZB1.eq_1 @ZB1.eq_2 @ZDs @Ys @Kw @ZS1;have tT:=ZQI;refine nz ?_;refine rg tT [0] ?_;refine rg tT [0,3] ?_;refine rg tT [3,16,17,18] ?_;refine WI.loop (λφ os=> ∃(j:Nat),φ= [(3,.x (.bool (tyA s j))),(16,.ref 0 s.length 0 s.length),(17,.x (.int .i64 s.length)),(18,.x (.int .i64 j))]/\os= [.rows true 5 1 ((ZH s).map Zl)]/\j<=s.length) (ZK s.length 18) ?_ (λφ os hI=> ?_)
 .exact⟨0,by rw[<-ZUr];rfl,rfl,J0⟩
 .obtain⟨j,rfl,rfl,hj⟩:=hI;refine nz ?_;refine rg tT [3,16,17,18,19] ?_;refine cd (λh0=> ?_) (λh0=> ?_)
  .have hj4:j<s.length:=by omega
   have uu:=YZ uu (ZUZ s j hj4);refine rg tT [3,4,5,16,17,18] ?_;refine rg tT [3,4,5,6,16,17,18] ?_;refine rg tT [3,16,17,18] ?_;refine rg tT [3,16,17,18] ?_;exact⟨⟨j+1,by rw[<-ZVJ];rfl,rfl,J0⟩,by simp[ZK,Ab.get,D.val,ZE];omega⟩
  .refine rg tT [2] ?_;refine lf ?_;rw[show JJ s=tyA s j from by rw[show j=s.length by omega];rfl]
def ZEH:J8->J5
 | [.x (.str s)]=>some (decide (s.length<=1000000),.x (.bool (JJ s)))
 |_=>none
theorem ZWY: ∀args r,ZEH args=some (true,r)->ZC Tryz.prog 114 args r:=by
 intro args r h;unfold ZEH at h;split at h
 .rename_i s;simp only[Ze,Za,ZT,Zc,true_and]at h;obtain⟨h1,rfl⟩:=h;exact(ZcJ s h1)
 .cases h
end Go.Proofs.YtpjfdjcejamebaaGreatDoor
end
section
namespace Go.Proofs
open Go.Shelf Go.RowKit Go.Lib
variable {P:Program} {ρ:Ren}
set_option maxHeartbeats 2000000 in
set_option maxRecDepth 100000 in
theorem Any1.stringslite_Cut_one(L:Lays.n220 P ρ)(s:ByteArray)(b:UInt8)(w:World)(hs:s.size<4294967281):
  Calls P (ρ.f 220) #[.string s,.string ⟨#[b]⟩] w λe w'=>e= .returned (.tuple #[.string ⟨(Lib.cut s.data.toList [b]).1.toArray⟩,.string ⟨(Lib.cut s.data.toList [b]).2.1.toArray⟩,.bool (Lib.cut s.data.toList [b]).2.2])/\ ∃n,w'=w.drewN n:=by
 rcases Lib.indexB_cases s ⟨#[b]⟩with hix|⟨i,hix,hroom⟩
 .obtain⟨e1,e2,e3⟩:=Lib.cutB_miss s ⟨#[b]⟩ hix;rw[show [b]=(⟨#[b]⟩:ByteArray).data.toList from rfl,e1,e2,e3];have t3:=L.t3;have t4:=L.t4;have t9:=L.t9;have a3: ∀w,(isAgg (ρ.t 3)).run P w= .ok false w:=run_isAgg_plain L.t3 rfl;have a4: ∀w,(isAgg (ρ.t 4)).run P w= .ok false w:=run_isAgg_plain L.t4 rfl;have a9: ∀w,(isAgg (ρ.t 9)).run P w= .ok false w:=run_isAgg_plain L.t9 rfl;have e219: ∀args w,(callFunc (ρ.f 219) args).run P w= .ok (.enter (ρ.f 219) args) w:=enters_of L.f219 J3 rfl;have mixed:=L.mixed;have z3:=L.z3;have v3:=L.v3;have z4:=L.z4;have v4:=L.v4;have z9:=L.z9;have v9:=L.v9
  go_enter L.f220,Body.n220_ntmps ρ
  go_wp2_with (go_at_fn (ρ.f 219);refine(Any.stringslite_Index_one {L with} _ _ _).mono ?_;rintro e w' ⟨rfl,rfl⟩;rw[<-Lib.index_one,show Lib.index s.data.toList [b]=_ from hix])
  go_ret3
  exact⟨rfl,0,rfl⟩
 .obtain⟨e1,e2,e3⟩:=Lib.cutB_hit s ⟨#[b]⟩ i hix;rw[show [b]=(⟨#[b]⟩:ByteArray).data.toList from rfl,e1,e2,e3];have hb1:(⟨#[b]⟩:ByteArray).size=1:=rfl;have c1:(0:Int)<= ↑i:=by omega
  have c2:(↑i:Int)<= ↑s.size:=by omega
  have c3:(0:Int)<= ↑i+1:=by omega
  have c4:(↑i+1:Int)<= ↑s.size:=by omega
  have t3:=L.t3;have t4:=L.t4;have t9:=L.t9;have a3: ∀w,(isAgg (ρ.t 3)).run P w= .ok false w:=run_isAgg_plain L.t3 rfl;have a4: ∀w,(isAgg (ρ.t 4)).run P w= .ok false w:=run_isAgg_plain L.t4 rfl;have a9: ∀w,(isAgg (ρ.t 9)).run P w= .ok false w:=run_isAgg_plain L.t9 rfl;have e219: ∀args w,(callFunc (ρ.f 219) args).run P w= .ok (.enter (ρ.f 219) args) w:=enters_of L.f219 J3 rfl;have mixed:=L.mixed;have z3:=L.z3;have v3:=L.v3;have z4:=L.z4;have v4:=L.v4;have z9:=L.z9;have v9:=L.v9
  go_enter L.f220,Body.n220_ntmps ρ
  go_wp2_with (go_at_fn (ρ.f 219);refine(Any.stringslite_Index_one {L with} _ _ _).mono ?_;rintro e w' ⟨rfl,rfl⟩;rw[<-Lib.index_one,show Lib.index s.data.toList [b]=_ from hix])
  go_region_o
  go_wp2
  go_ret3
  exact⟨rfl,1,rfl⟩
set_option maxHeartbeats 1000000 in
theorem Any1.strings_Cut_one(L:Lays.n145 P ρ)(s:ByteArray)(b:UInt8)(w:World)(hs:s.size<4294967281):
  Calls P (ρ.f 145) #[.string s,.string ⟨#[b]⟩] w λe w'=>e= .returned (.tuple #[.string ⟨(Lib.cut s.data.toList [b]).1.toArray⟩,.string ⟨(Lib.cut s.data.toList [b]).2.1.toArray⟩,.bool (Lib.cut s.data.toList [b]).2.2])/\ ∃n,w'=w.drewN n:=by
 have t4:=L.t4;have t9:=L.t9;have t59:=L.t59;have a4: ∀w,(isAgg (ρ.t 4)).run P w= .ok false w:=run_isAgg_plain L.t4 rfl;have a9: ∀w,(isAgg (ρ.t 9)).run P w= .ok false w:=run_isAgg_plain L.t9 rfl;have a59: ∀w,(isAgg (ρ.t 59)).run P w= .ok false w:=run_isAgg_plain L.t59 rfl;have e220: ∀args w,(callFunc (ρ.f 220) args).run P w= .ok (.enter (ρ.f 220) args) w:=enters_of L.f220 J3 rfl;have mixed:=L.mixed;have z4:=L.z4;have v4:=L.v4;have z9:=L.z9;have v9:=L.v9;have z59:=L.z59;have v59:=L.v59
 go_enter L.f145,Body.n145_ntmps ρ
 go_wp2_with (go_at_fn (ρ.f 220);refine(Any1.stringslite_Cut_one {L with} _ _ _ hs).mono ?_;rintro e w' ⟨rfl,n,rfl⟩)
 go_ret3
 exact⟨rfl,n,rfl⟩
end Go.Proofs
namespace Go.Proofs.YtpjfdjcejamebaaGreatDoor
open Go.RowKit Go.Bo Go.Ab
def KU(c:UInt8):List UInt8->List UInt8×List UInt8×Bool
 | []=>([],[],false)
 |b::l=>if b=c then([],l,true)else(b::(KU c l).1,(KU c l).2.1,(KU c l).2.2)
theorem ZVE(c:UInt8): ∀s,Lib.cut s [c]=KU c s
 | []=>by simp[Lib.cut,KU,Lib.index]
 |b::l=>by
  have ih:=ZVE c l;unfold Lib.cut at ih|-;by_cases h:b=c
  .subst h;have hp: [b].isPrefixOf (b::l)=true:=by simp[List.isPrefixOf]
   simp[Lib.index,hp,KU]
  .have hp: [c].isPrefixOf (b::l)=false:=by simp[List.isPrefixOf];exactλe=>h e.symm
   rw[KU,if_neg h,<-ih];have hn:=Lib.index_ge l [c];by_cases hi:Lib.index l [c]= -1
   .simp[Lib.index,hp,hi]
   .obtain⟨n,hn⟩: ∃n:Nat,Lib.index l [c]=n:=⟨(Lib.index l [c]).toNat,J0⟩;simp only[Lib.index,hp,hn,JG,ξN];simp;omega
theorem ZiG(s:List UInt8)(c:UInt8)(hl:s.length<=1000000):ZC Tryz.prog 206 [.x (.str s),.x (.str [c])] (.tup [.x (.str (KU c s).1),.x (.str (KU c s).2.1),.x (.bool (KU c s).2.2)]):=by
 intro w st vs hst hvl;obtain⟨hsz,hv⟩:=hvl;obtain⟨v0,v1,rfl⟩: ∃v0 v1,vs= #[v0,v1]:=by
  obtain⟨vl⟩:=vs
  match vl,hsz with
  | [a,b],_=>exact⟨a,b,rfl⟩
 have h0:=hv 0 _ v0 rfl rfl;have h1:=hv 1 _ v1 rfl rfl;cases h0 with
 |x h0=>
 cases h1 with
 |x h1=>
 cases h1 with
 |str _=>
 cases h0 with
 |str _=>
 have hbs:(ZZ s).size=s.length:=by simp[ZZ,ByteArray.size]
 refine(Any1.strings_Cut_one Tryz.lays145 (ZZ s) c w J0).mono ?_;rintro e w' ⟨rfl,n,rfl⟩;refine⟨_,st,rfl,⟨rfl,rfl,rfl,by simp[World.drewN],λ_ _ _=>rfl⟩,λ_ _ h=>h,λ_ _ h=> .inl h,?_⟩;have e1:(ZZ s).data.toList=s:=by simp[ZZ]
 rw[e1,ZVE];exact V.tup3 (V.mkstr _ _ _) (V.mkstr _ _ _) (.x (.bool _))
theorem ZWf:Go.Ab.Enters Tryz.prog 206:=Go.Proofs.enters_of Tryz.lays145.f145 J3 rfl
def cutG:J8->J5
 | [.x (.str s),.x (.str [c])]=>some (decide (s.length<=1000000),.tup [.x (.str (KU c s).1),.x (.str (KU c s).2.1),.x (.bool (KU c s).2.2)])
 |_=>none
theorem Zfp: ∀args r,cutG args=some (true,r)->ZC Tryz.prog 206 args r:=by
 intro args r h;unfold cutG at h;split at h
 .rename_i s c;simp only[Ze,Za,ZT,Zc,true_and]at h;obtain⟨h1,rfl⟩:=h;exact(ZiG s c h1)
 .cases h
abbrev Av:=Tx×Tx
def Zn:RC Av:=⟨2,λp=> [.str p.1,.str p.2],λ
 | [.str a,.str b]=>some (a,b)
 |_=>none⟩
theorem ZEG:Zn.Good:=⟨λ_=>rfl,λ_=>rfl,λr x h=>by
 simp only[Zn]at h;split at h
 .cases h;rfl
 .cases h⟩
abbrev JV:RC (List Av):=rSl Zn
theorem ZD6:JV.Good:=ZCf ZEG
theorem ZO6(l:List Av):ZV Zn (rows Zn l)=some l:=Zf ZEG l
theorem ZLR(l:List (List Av)):ZV JV (rows JV l)=some l:=Zf ZD6 l
theorem ZJk(l:List Av)(a b:Tx):rows Zn l++ [[X.str a,X.str b]]=rows Zn (l++ [(a,b)]):=by simp[rows,Zn]
theorem ZJ4(l:List (List Av))(x:List Av):rows JV l++ [[X.sl (rows Zn x)]]=rows JV (l++ [x]):=by simp[rows,JV,rSl]
def Yw(s:Tx):Av×Bool:=
 if(KU 61 s).2.2=false\/JJ (ZEP (KU 61 s).1)=false then(([],[]),false)
 else((ZEP (KU 61 s).1,(ZF4 (KU 61 s).2.1).1),(ZF4 (KU 61 s).2.1).2)
theorem ZKe(c:UInt8): ∀s,(KU c s).1.length<=s.length/\(KU c s).2.1.length<=s.length
 | []=>by simp[KU]
 |b::l=>by
  obtain⟨h1,h2⟩:=ZKe c l;unfold KU;split
  .simp
  .simp;omega
theorem ZMq(s:Tx):(ZEP s).length<=s.length:=ZJw (ZOw _) (ZUn _)
def ZG3:Tabs:=ZR (ZR (ZR (ZR (ZO) 206 cutG) 207 ZL4) 208 ZAh) 209 ZL2
theorem ZYV:SsOk Tryz.prog ZG3:=ZG (ZG (ZG (ZG (ZD) ZWf Zfp) (ZU 207) Zaw) (ZU 208) ZNi) (ZU 209) ZaT
theorem Zbm:(∀a,ZG3.q 206 a=cutG a)/\(∀a,ZG3.q 207 a=ZL4 a)/\(∀a,ZG3.q 208 a=ZAh a)/\(∀a,ZG3.q 209 a=ZL2 a)/\(∀f a o,ZG3.r f a o=none)/\(∀f a o,ZG3.k f a o=none):=⟨λ_=>rfl,λ_=>rfl,λ_=>rfl,λ_=>rfl,λ_ _ _=>rfl,λ_ _ _=>rfl⟩
theorem ZeY(s:Tx)(hl:s.length<=900000):ZC Tryz.prog 187 [.x (.str s)] (.tup [.agg [.x (.str (Yw s).1.1),.x (.str (Yw s).1.2)],.x (.bool (Yw s).2)]):=by
 have h1:=ZKe 61 s;have h2:=ZMq (KU 61 s).1;rcases hq:Yw s with⟨⟨a,v⟩,ok⟩
 unfold Yw at hq;refine ZI.pure (fC 187 true ?_) rfl;intro C0 E0;have uu:=KJ @cutG.eq_1 @cutG.eq_2 @ZL4.eq_1 @ZL4.eq_2 @ZAh.eq_1 @ZAh.eq_2 @ZL2.eq_1 @ZL2.eq_2 @Zbm;have tT:=ZYV;refine nz ?_;refine rg tT [0,2] ?_;refine rg tT [2,4,5,6] ?_;refine rg tT [2,4,5,6] ?_;refine rg tT [2,4,5,22] ?_;refine cd (λh0=> ?_) (λh0=> ?_)
 .refine rg tT [2,3] ?_;refine lf ?_;rw[if_pos (by clear uu;grind)]at hq;cases hq;rfl
 .refine rg tT [2,4,6,7] ?_;refine rg tT [2,3] ?_;refine lf ?_;rw[if_neg (by clear uu;grind)]at hq;cases hq;rfl
def ZFo:J8->J5
 | [.x (.str s)]=>some (decide (s.length<=900000),.tup [.agg [.x (.str (Yw s).1.1),.x (.str (Yw s).1.2)],.x (.bool (Yw s).2)])
 |_=>none
theorem ZYw: ∀args r,ZFo args=some (true,r)->ZC Tryz.prog 187 args r:=by
 intro args r h;unfold ZFo at h;split at h
 .rename_i s;simp only[Ze,Za,ZT,Zc,true_and]at h;obtain⟨h1,rfl⟩:=h;exact(ZeY s h1)
 .cases h
theorem ZbO(s:Tx):ZF4 s=((ZID s).1,(ZID s).2&& !((ZID s).1== [])):=by
 have key: ∀(n:Nat) (r b:Tx) (e:Nat) (x:Tx×Nat),e<=b.length->JT n r b e=some x->x.2<=x.1.length:=by
  intro n
  induction n with
  |zero=>intro r b e x _ h;cases h
  |succ n ih=>
   intro r b e x he h;rcases r with _|⟨c,r⟩
   .rw[JT]at h;cases h;exact he
   .rw[JT]at h;split at h
    .split at h
     .exact ih _ _ _ _ J1 h
     .cases h
    .split at h
     .cases h
     .split at h
      .exact ih _ _ _ _ (by simp;omega) h
      .exact ih _ _ _ _ J1 h
 unfold ZF4 ZID;split
 .rfl
 .rename_i b e h;have hk:=key _ _ _ _ _ J1 h;simp only at hk;rw[ZBP];congr 1;rcases b with _|⟨c,b⟩
  .simp at hk;simp;omega
  .rcases e with _|e
   .simp
   .simp
def eqI:Tx->Nat
 | []=>0
 |c::s=>if c=61 then 0 else eqI s+1
theorem ZUe: ∀s:Tx,(eqI s=s.length->KU 61 s=(s,[],false))/\(eqI s≠s.length->KU 61 s=(s.take (eqI s),s.drop (eqI s+1),true))
 | []=>⟨λ_=>rfl,λh=>absurd rfl h⟩
 |c::s=>by
  obtain⟨h1,h2⟩:=ZUe s;unfold eqI KU;by_cases h:c=61
  .rw[if_pos h,if_pos h];simp
  .rw[if_neg h,if_neg h];refine⟨λe=> ?_,λe=> ?_⟩
   .rw[h1 (by simpa using e)]
   .rw[h2 (by simpa using e)];simp
theorem ZcC(s:Tx)(j:Nat)(h:j<s.length)(hc:s.getD j 0≠61):j+eqI (s.drop j)=j+1+eqI (s.drop (j+1)):=by
 rw[Kx s j h]
 conv=>lhs;unfold eqI
 rw[if_neg hc];omega
theorem Zam(s:Tx)(j:Nat)(h:j<s.length)(hc:s.getD j 0=61):eqI (s.drop j)=0:=by
 rw[Kx s j h,hc];rfl
def ZIi:Tabs:=ZR (ZR (ZR (ZO) 183 ZJD) 115 ZDf) 184 ZL8
theorem ZXL:SsOk Tryz.prog ZIi:=ZG (ZG (ZG (ZD) (ZU 183) ZaK) (ZU 115) ZQS) (ZU 184) ZdK
theorem Zbs:(∀a,ZIi.q 183 a=ZJD a)/\(∀a,ZIi.q 115 a=ZDf a)/\(∀a,ZIi.q 184 a=ZL8 a)/\(∀f a o,ZIi.r f a o=none)/\(∀f a o,ZIi.k f a o=none):=⟨λ_=>rfl,λ_=>rfl,λ_=>rfl,λ_ _ _=>rfl,λ_ _ _=>rfl⟩
theorem ZeM(s:Tx)(hl:s.length<=900000):ZC Tryz.prog 159 [.x (.str s)] (.tup [.agg [.x (.str (Yw s).1.1),.x (.str (Yw s).1.2)],.x (.bool (Yw s).2)]):=by
 have hcut:=ZUe s;rcases hq:Yw s with⟨⟨a,v⟩,ok⟩
 unfold Yw at hq;rw[ZbO]at hq;refine ZI.pure (fC 159 true ?_) rfl;intro C0 E0;have uu:=ξ7 @ZJD.eq_1 @ZJD.eq_2 @ZDf.eq_1 @ZDf.eq_2 @ZL8.eq_1 @ZL8.eq_2 @Zbs;have tT:=ZXL;refine nz ?_;refine rg tT [0,2] ?_;refine rg tT [0,2,4] ?_;refine WI.loop (λφ os=> ∃(j:Nat),φ= [(0,.x (.str s)),(2,.ptr 0 0),(4,.x (.int .i64 j))]/\os= [.box [.x (.str []),.x (.str [])]]/\j<=s.length/\eqI s=j+eqI (s.drop j)) (ZK s.length 4) ?_ (λφ os hI=> ?_)
 .exact⟨0,rfl,rfl,J0,J1⟩
 .obtain⟨j,rfl,rfl,hj,hat⟩:=hI;refine nz ?_;refine rg tT [0,2,4,16] ?_;refine cd (λh0=> ?_) (λh0=> ?_)
  .have hj4:j<s.length:=by clear uu;grind
   have hst:=ZcC s j hj4 (neD (k:=61) (by decide) (by clear uu;grind));refine rg tT [0,2,4] ?_;exact⟨⟨j+1,rfl,rfl,J0,by rw[hat,hst]⟩,by simp[ZK,Ab.get,D.val,ZE];omega⟩
  .have hej:eqI s=j:=by
    by_cases hj4:j<s.length
    .rw[hat,Zam s j hj4 (cD (a:=61) (by clear uu;show((s.getD j 0).toNat:Int)=61;grind))];rfl
    .rw[hat,ZBl J0];rfl
   clear hat;rw[hej]at hcut;have e1:((j:Int)+1).toNat=j+1:=by omega
   have hl1:decide ((s.take j).length<=1000000)=true:=ZL (by rw[Yu];omega);have htl:=ZMq (s.take j);have hl2:decide ((ZEP (s.take j)).length<=1000000)=true:=ZL (by rw[Yu]at htl;omega);have hl3:decide ((s.drop (j+1)).length<=900000)=true:=ZL (by rw[Jj];omega);have uu:=ξ5 uu e1 hl1 hl2 hl3;refine rg tT [0,2,4,30] ?_;refine cd (λh1=> ?_) (λh1=> ?_)
   .refine rg tT [2,3] ?_;refine lf ?_;have h3:(KU 61 s).2.2=false\/JJ (ZEP (KU 61 s).1)=false:=by
     by_cases hz:j=s.length
     .rw[hcut.1 hz];exact .inl rfl
     .rw[hcut.2 hz];right;clear uu;grind
    rw[if_pos h3]at hq;cases hq;rfl
   .refine rg tT [0,2,4,5,6] ?_;refine rg tT [2,3] ?_;refine lf ?_;have hz:j≠s.length:=by clear uu;grind
    rw[hcut.2 hz]at hq;rw[if_neg (by clear uu;grind)]at hq;cases hq;rfl
def ZJM:J8->J5
 | [.x (.str s)]=>some (decide (s.length<=900000),.tup [.agg [.x (.str (Yw s).1.1),.x (.str (Yw s).1.2)],.x (.bool (Yw s).2)])
 |_=>none
theorem ZXm: ∀args r,ZJM args=some (true,r)->ZC Tryz.prog 159 args r:=by
 intro args r h;unfold ZJM at h;split at h
 .rename_i s;simp only[Ze,Za,ZT,Zc,true_and]at h;obtain⟨h1,rfl⟩:=h;exact(ZeM s h1)
 .cases h
theorem ZUL(p:Tx)(l:List Tx)(n:Nat)(h: ∀x∈l,x.length+p.length<=n)(hp:p.length<=n): ∀x∈pre p l,x.length<=n:=by
 rcases l with _|⟨y,l⟩
 .intro x hx;simp[pre]at hx;subst hx;exact hp
 .intro x hx;simp only[pre,Kr]at hx;rcases hx with rfl|hx
  .have:=h y J1;simp;omega
  .have:=h x (by simp[hx]);omega
theorem ZUB(p:Tx)(l:List Tx)(n:Nat)(h:l.length<=n)(h1:1<=n):(pre p l).length<=n:=by
 rcases l with _|⟨y,l⟩
 .exact h1
 .exact h
theorem ZiV{a c:UInt8}{r:Tx}(h1:c≠92)(h2:c=a):YR a (c::r)= []::YR a r:=by
 conv=>lhs;unfold YR
 rw[if_neg h1,if_pos h2]
theorem ZiO{a c:UInt8}{r:Tx}(h1:c≠92)(h2:c≠a):YR a (c::r)=pre [c] (YR a r):=by
 conv=>lhs;unfold YR
 rw[if_neg h1,if_neg h2]
theorem ZA8(a:UInt8): ∀(n:Nat) (s:Tx),s.length<=n->(∀x∈YR a s,x.length<=s.length)/\(YR a s).length<=s.length+1
 |_,[],_=>by simp[YR]
 |n+1,c::r,hn=>by
  have hn':r.length<=n:=by simpa using hn
  by_cases h1:c=92
  .rcases r with _|⟨d,r⟩
   .subst h1;simp[YR]
   .obtain⟨h2,h3⟩:=ZA8 a n r (by simp at hn';omega);have e:YR a (c::d::r)=pre [c,d] (YR a r):=by subst h1;rfl
    rw[e];exact⟨ZUL _ _ _ (λx hx=>by have:=h2 x hx;simp;omega) J1,ZUB _ _ _ (by simp;omega) J1⟩
  .obtain⟨h2,h3⟩:=ZA8 a n r hn';by_cases h4:c=a
   .have e:YR a (c::r)= []::YR a r:=ZiV h1 h4;rw[e];refine⟨λx hx=> ?_,by simp;omega⟩;rcases Kr.1 hx with rfl|hx
    .simp
    .have:=h2 x hx;simp;omega
   .have e:YR a (c::r)=pre [c] (YR a r):=ZiO h1 h4;rw[e];exact⟨ZUL _ _ _ (λx hx=>by have:=h2 x hx;simp;omega) J1,ZUB _ _ _ (by simp;omega) J1⟩
def ZFO(s:Tx):List (Av×Bool):=(YR 43 s).map Yw
def Zk(s:Tx):List Av×Bool:=if(ZFO s).all (·.2)=true then((ZFO s).map (·.1),true)else([],false)
theorem Zw{α:Type}(p:α->Bool)(l:List α)(j:Nat)(h:j<l.length)(hp:p l[j]=false):l.all p=false:=by
 rw[Bool.eq_false_iff];intro hh;have:=Yc.1 hh l[j] (YM h);rw[hp]at this;cases this
theorem JL{α:Type}(p:α->Bool)(l:List α)(j:Nat)(h:j<l.length):(l.take (j+1)).all p=((l.take j).all p&&p l[j]):=by
 rw[Jg h,ZNK];simp
def ZK5:Tabs:=ZR (ZR (ZO) 166 QN) 187 ZFo
theorem ZP4:SsOk Tryz.prog ZK5:=ZG (ZG (ZD) (ZU 166) ZJv) (ZU 187) ZYw
theorem ZRP:(∀a,ZK5.q 166 a=QN a)/\(∀a,ZK5.q 187 a=ZFo a)/\(∀f a o,ZK5.r f a o=none)/\(∀f a o,ZK5.k f a o=none):=⟨λ_=>rfl,λ_=>rfl,λ_ _ _=>rfl,λ_ _ _=>rfl⟩
theorem Zf3(s:Tx)(hl:s.length<=900000):ZC Tryz.prog 167 [.x (.str s)] (.tup [.x (.sl (rows Zn (Zk s).1)),.x (.bool (Zk s).2)]):=by
 obtain⟨hb1,hb2⟩:=ZA8 43 _ s (Zm _);rcases hq:Zk s with⟨d,ok⟩
 unfold Zk ZFO at hq;have hsp:YR (UInt8.ofNat (43:Int).toNat) s=YR 43 s:=rfl;refine ZI.pure (fC 167 true ?_) rfl;intro C0 E0;have uu:=ξ6 @QN.eq_1 @QN.eq_2 @ZFo.eq_1 @ZFo.eq_2 hsp @ZRP;have tT:=ZP4;refine nz ?_;refine rg tT [0] ?_;refine rg tT [0,4] ?_;refine rg tT [4,10,11,12] ?_;refine WI.ownA 4 161 2 ?_;generalize YR 43 s=l at hq hb1 hb2|-;refine WI.loop (λφ os=> ∃(j:Nat),φ= [(4,.ref 0 j 0 j),(10,.x (.sl (rows ZA l))),(11,.x (.int .i64 l.length)),(12,.x (.int .i64 j))]/\os= [.rows false 161 2 (rows Zn ((l.take j).map λx=>(Yw x).1))]/\j<=l.length/\(l.take j).all (λx=>(Yw x).2)=true) (ZK l.length 12) ?_ (λφ os hI=> ?_)
 .exact⟨0,rfl,rfl,J0,rfl⟩
 .obtain⟨j,rfl,rfl,hj,hall⟩:=hI;refine nz ?_;refine rg tT [4,10,11,12,13] ?_;refine cd (λh0=> ?_) (λh0=> ?_)
  .have hj4:j<l.length:=by omega
   have hbj:=hb1 _ (YM hj4);have hsc:decide (l[j].length<=900000)=true:=ZL J0;have uu:=YZ uu hsc;refine rg tT [4,6,10,11,12] ?_;refine rg tT [4,7,8,10,11,12] ?_;refine rg tT [4,7,10,11,12,22] ?_;refine cd (λh1=> ?_) (λh1=> ?_)
   .have hf:(l.map Yw).all (·.2)=false:=by rw[ZF6];exact Zw _ l j hj4 (by simpa using h1)
    rw[if_neg (by rw[hf];decide)]at hq;refine rg tT [2,3] ?_;refine WI.nnA ?_;refine lf ?_;cases hq;rfl
   .refine rgp tT [4,10,11,12] ?_;refine Je [0] ?_;refine KM ?_;refine nz ?_;refine WI.orderA [4,10,11,12] ?_;refine rg tT [4,10,11,12] ?_;exact⟨⟨j+1,rfl,by rw[Jg hj4,Ji,ZMj,<-ZJk],J0,by rw[JL _ l j hj4,hall];simpa using h1⟩,by simp[ZK,Ab.get,D.val,ZE];omega⟩
  .have e1:(rows Zn ((l.take j).map λx=>(Yw x).1)).length=j:=by simp[rows];omega
   have e2:(l.take j).length=j:=by simp;omega
   have uu:=JW uu e1 e2;refine rg tT [2,3] ?_;refine WI.nnA ?_;refine lf ?_;have hf:(l.map Yw).all (·.2)=true:=by rw[ZF6];rw[YX J0]at hall;exact hall
   rw[if_pos hf]at hq;cases hq;rw[YX (l:=l) J0,YX (by simp[rows];omega),Js];rfl
def ZIv:J8->J5
 | [.x (.str s)]=>some (decide (s.length<=900000),.tup [.x (.sl (rows Zn (Zk s).1)),.x (.bool (Zk s).2)])
 |_=>none
theorem ZXT: ∀args r,ZIv args=some (true,r)->ZC Tryz.prog 167 args r:=by
 intro args r h;unfold ZIv at h;split at h
 .rename_i s;simp only[Ze,Za,ZT,Zc,true_and]at h;obtain⟨h1,rfl⟩:=h;exact(Zf3 s h1)
 .cases h
def QW(r:List Av):List Tx:=r.map λp=>ZH p.1
def ZAB(r:List Av)(j:Nat):Bool:=JJ (r.getD j ([],[])).1&&(!((r.getD j ([],[])).2== [])&&(decide ((r.getD j ([],[])).2.length<=256)&& !decide (ZH (r.getD j ([],[])).1∈QW (r.take j))))
def okP(r:List Av):Nat->Bool
 |0=>true
 |j+1=>okP r j&&ZAB r j
def Yh(r:List Av):Bool:=okP r r.length&&decide (1<=r.length/\r.length<=8)
theorem ZHa(r:List Av): ∀(n j:Nat),j<n->ZAB r j=false->okP r n=false
 |n+1,j,hj,h=>by
  rw[okP];by_cases e:j=n
  .subst e;rw[h,ZDv]
  .rw[ZHa r n j J0 h,ZHM]
def ZCM(r:List Av)(j:Nat):List (Tx×Int):=(r.take j).map λp=>(ZH p.1,(1:Int))
theorem ZPS: ∀(l:List Av) (k:Tx),ZJ (l.map λp=>(ZH p.1,(1:Int))) k=if k∈QW l then some 1 else none
 | [],k=>by simp[QW,ZJ]
 |p::l,k=>by
  have ih:=ZPS l k;by_cases h:k=ZH p.1
  .simp[ZJ,h,QW]
  .have e:(k∈QW (p::l))=(k∈QW l):=by simp[QW,h]
   have e2:ZJ ((p::l).map λp=>(ZH p.1,(1:Int))) k=ZJ (l.map λp=>(ZH p.1,(1:Int))) k:=by simp[ZJ,h]
   rw[e2,ih];simp only[e]
theorem ZRo(r:List Av)(j:Nat)(h:j<r.length)(hn:ZH (r.getD j ([],[])).1∉QW (r.take j)):Zv (ZCM r j) (ZH (r.getD j ([],[])).1) 1=ZCM r (j+1):=by
 unfold ZCM;rw[ZBh (by rw[ZPS,if_neg hn]),Jg h,Ji];simp[h]
theorem ZTj(r:List Av)(j:Nat)(k:Tx):JX (Yk Ka kcI (ZCM r j)) [X.str k]=if k∈QW (r.take j)then some [D.x (X.int .i64 1)]else none:=by
 rw[ZEq Ka kcI hkS (ZCM r j) k];unfold ZCM;rw[ZPS];split<;>rfl
theorem ZC2(r:List Av)(j:Nat)(h:j<r.length):(rows Zn r)[j]? =some [X.str (r.getD j ([],[])).1,X.str (r.getD j ([],[])).2]:=by
 simp[rows,h,Zn]
def QO:J8->J5
 | [.x (.str s)]=>some (decide (s.length<=1000000),.x (.str (ZH s)))
 |_=>none
theorem ZJy: ∀args r,QO args=some (true,r)->ZC Tryz.prog 37 args r:=by
 intro args r h;unfold QO at h;split at h
 .rename_i s;simp only[Ze,Za,ZT,Zc,true_and]at h;obtain⟨h1,rfl⟩:=h;exact(ZPZ s J0)
 .cases h
def ZIs:Tabs:=ZR (ZR (ZO) 37 QO) 208 ZAh
theorem ZOp:SsOk Tryz.prog ZIs:=ZG (ZG (ZD) (ZU 37) ZJy) (ZU 208) ZNi
theorem ZQ9:(∀a,ZIs.q 37 a=QO a)/\(∀a,ZIs.q 208 a=ZAh a)/\(∀f a o,ZIs.r f a o=none)/\(∀f a o,ZIs.k f a o=none):=⟨λ_=>rfl,λ_=>rfl,λ_ _ _=>rfl,λ_ _ _=>rfl⟩
theorem ZiF(r:List Av)(hb: ∀p∈r,p.1.length<=900000):ZC Tryz.prog 188 [.x (.sl (rows Zn r))] (.x (.bool (Yh r))):=by
 refine ZC.wf (λhw=> ?_);have hl:r.length<=maxLen:=by have:=(hw _ (ZCa)).1;rwa [Zh]at this
 clear hw;simp only[maxLen]at hl;refine ZI.pure (fC 188 true ?_) rfl;intro C0 E0;have uu:=ξ5 @QO.eq_1 @QO.eq_2 @ZAh.eq_1 @ZAh.eq_2 @ZQ9;have tT:=ZOp;refine nz ?_;refine rg tT [0] ?_;refine rg tT [0,3] ?_;refine rg tT [0,3,8,9,10] ?_;refine WI.loop (λφ os=> ∃(j:Nat),φ= [(0,.x (.sl (rows Zn r))),(3,.mref 0),(8,.x (.sl (rows Zn r))),(9,.x (.int .i64 r.length)),(10,.x (.int .i64 j))]/\os= [.mpo .str false (Yk Ka kcI (ZCM r j))]/\j<=r.length/\okP r j=true) (ZK r.length 10) ?_ (λφ os hI=> ?_)
 .exact⟨0,rfl,rfl,J0,rfl⟩
 .obtain⟨j,rfl,rfl,hj,hok⟩:=hI;refine nz ?_;refine rg tT [0,3,8,9,10,11] ?_;refine cd (λh0=> ?_) (λh0=> ?_)
  .have hj4:j<r.length:=by omega
   have har:=ZC2 r j hj4;have hbj:(r.getD j ([],[])).1.length<=900000:=by rw[show r.getD j ([],[])=r[j] by simp[hj4]];exact hb _ (YM hj4)
   have hgt:=ZTj r j (ZH (r.getD j ([],[])).1);have uu:=YZ uu har;refine rg tT [0,3,5,8,9,10] ?_;refine rg tT [0,3,5,6,8,9,10] ?_;by_cases hin:ZH (r.getD j ([],[])).1∈QW (r.take j)
   .rw[if_pos hin]at hgt;have uu:=YZ uu hgt;refine rg tT [0,3,6,8,9,10,37] ?_;refine ct (λh1=> ?_) (λh1=> ?_)
    .refine rg tT [2] ?_;refine lf ?_;have hno:ZAB r j=false:=by unfold ZAB;rw[ZL hin];simp
     rw[show Yh r=false by unfold Yh;rw[ZHa r r.length j hj4 hno];rfl]
    .clear uu;simp at h1
   .rw[if_neg hin]at hgt;have uu:=YZ uu hgt;have hset:=ZD3 Ka kcI hkS (ZCM r j) (ZH (r.getD j ([],[])).1) 1;rw[ZRo r j hj4 hin]at hset;have hset':Yg (Yk Ka kcI (ZCM r j)) [X.str (ZH (r.getD j ([],[])).1)] [D.x (X.int .i64 1)]=Yk Ka kcI (ZCM r (j+1)):=hset;have uu:=YZ uu hset';refine rg tT [0,3,6,8,9,10,37] ?_;refine cd (λh1=> ?_) (λh1=> ?_)
    .refine rg tT [2] ?_;refine lf ?_;have hno:ZAB r j=false:=by unfold ZAB;clear uu;grind
     rw[show Yh r=false by unfold Yh;rw[ZHa r r.length j hj4 hno];rfl]
    .have hone:ZAB r j=true:=by unfold ZAB;rw[decide_eq_false hin];clear uu;grind
     refine WI.post ?_;refine WI.regB tT [0,3,8,9,10] ?_
     iterate 2 refine oS ?_
     iterate 3 refine oG ?_
     refine oP ?_;refine Je [0] ?_ (ho:=by simp (disch:=decide) only[zV,zO,Ob.mpb,frzL,ZA4,ZCs,onF,Ob.onI,mpP,JZ,Yl,ZAD,D.vw,vwL,D.on,D.inP,Yr,Zq,D.ren,Zy,inv,YW,Ob.mp,Ob.ren,D.nn,ZDr,Nat.reduceBEq,Nat.reduceEqDiff,Nat.reduceAdd,↓reduceIte,ZFK,ZAN];rfl);refine KM ?_;refine nz ?_;refine rg tT [0,3,8,9,10] ?_;exact⟨⟨j+1,rfl,by first|done|rfl,J0,by rw[okP,hok,hone];rfl⟩,by simp[ZK,Ab.get,D.val,ZE];omega⟩
  .refine rg tT [2] ?_;refine lf ?_;have hz:r.length=j:=by omega
   rw[show Yh r=decide (1<=r.length/\r.length<=8) by unfold Yh;rw[hz,hok,ZBP]];congr 2;rw[Qj];simp;omega
def ZPl:J8->J5
 | [.x (.sl R)]=>(ZV Zn R).bind λr=>some (decide (∀p∈r,p.1.length<=900000),.x (.bool (Yh r)))
 |_=>none
theorem Zd1: ∀args r,ZPl args=some (true,r)->ZC Tryz.prog 188 args r:=by
 intro args r h;unfold ZPl at h;split at h
 .rename_i R;obtain⟨r,hr0,h⟩:=Zp h;simp only[Ze,Za,ZT,Zc,true_and]at h;obtain⟨h1,rfl⟩:=h;rw[<-ZY ZEG hr0];exact(ZiF r h1)
 .cases h
abbrev Dn:=List (List Av)
def smD(d:Dn):Prop:= ∀r∈d,∀p∈r,p.1.length<=900000
instance (d:Dn):Decidable (smD d):=by unfold smD;infer_instance
def Jb(d:Dn):Int:=if d.length>32 then 3 else if d.all Yh=true then 0 else 5
theorem ZE1(d:Dn)(j:Nat)(h:j<d.length):(rows JV d)[j]? =some [X.sl (rows Zn (d.getD j []))]:=by
 simp[rows,h,JV,rSl]
def ZL5:Tabs:=ZR (ZO) 188 ZPl
theorem ZWE:SsOk Tryz.prog ZL5:=ZG (ZD) (ZU 188) Zd1
theorem ZZO:(∀a,ZL5.q 188 a=ZPl a)/\(∀f a o,ZL5.r f a o=none)/\(∀f a o,ZL5.k f a o=none):=⟨λ_=>rfl,λ_ _ _=>rfl,λ_ _ _=>rfl⟩
theorem Zev(d:Dn)(hb:smD d):ZC Tryz.prog 168 [.x (.sl (rows JV d))] (.x (.int .i64 (Jb d))):=by
 unfold Jb;refine ZI.pure (fC 168 true ?_) rfl;intro C0 E0;have uu:=ξ4 @ZPl.eq_1 @ZPl.eq_2 @ZO6 @ZZO;have tT:=ZWE;refine nz ?_;refine rg tT [0] ?_;refine rg tT [0,7] ?_;refine cd (λh0=> ?_) (λh0=> ?_)
 .refine rg tT [2] ?_;refine lf ?_;rw[if_pos J0]
 .refine rg tT [8,9,10] ?_;refine WI.loop (λφ os=> ∃(j:Nat),φ= [(8,.x (.sl (rows JV d))),(9,.x (.int .i64 d.length)),(10,.x (.int .i64 j))]/\os= []/\j<=d.length/\(d.take j).all Yh=true) (ZK d.length 10) ?_ (λφ os hI=> ?_)
  .exact⟨0,rfl,rfl,J0,rfl⟩
  .obtain⟨j,rfl,rfl,hj,hall⟩:=hI;refine nz ?_;refine rg tT [8,9,10,11] ?_;refine cd (λh1=> ?_) (λh1=> ?_)
   .have hj4:j<d.length:=by omega
    have hdj:d[j]=d.getD j []:=by simp[hj4]
    have hsm:decide (∀p∈d.getD j [],p.1.length<=900000)=true:=ZL (by rw[<-hdj];exact hb _ (YM hj4));have uu:=JW uu (ZE1 d j hj4) hsm;refine rg tT [4,8,9,10] ?_;refine rg tT [8,9,10,16] ?_;refine cd (λh2=> ?_) (λh2=> ?_)
    .refine rg tT [2] ?_;refine lf ?_;rw[if_neg J0,if_neg (by rw[Zw Yh d j hj4 (by rw[hdj];simpa using h2)];decide)]
    .refine rg tT [8,9,10] ?_;exact⟨⟨j+1,rfl,rfl,J0,by rw[JL _ d j hj4,hall,hdj];simpa using h2⟩,by simp[ZK,Ab.get,D.val,ZE];omega⟩
   .refine rg tT [2] ?_;refine lf ?_;rw[YX J0]at hall;rw[if_neg J0,if_pos hall]
def ZDa:J8->J5
 | [.x (.sl R)]=>(ZV JV R).bind λd=>some (decide (smD d),.x (.int .i64 (Jb d)))
 |_=>none
theorem ZQX: ∀args r,ZDa args=some (true,r)->ZC Tryz.prog 168 args r:=by
 intro args r h;unfold ZDa at h;split at h
 .rename_i R;obtain⟨d,hr0,h⟩:=Zp h;simp only[Ze,Za,ZT,Zc,true_and]at h;obtain⟨h1,rfl⟩:=h;rw[<-ZY ZD6 hr0];exact(Zev d h1)
 .cases h
def mxD:Dn->Nat
 | []=>0
 |r::d=>max r.length (mxD d)
theorem ZNE: ∀(d:Dn) (r:List Av),mxD (d++ [r])=max (mxD d) r.length
 | [],r=>by simp[mxD]
 |x::d,r=>by rw[Qi,mxD,mxD,ZNE d r];omega
theorem ZZE(a b:Nat):(if(a:Int)>(b:Int)then(a:Int)else(b:Int))=((max b a:Nat):Int):=by split<;>omega
def ZCN(s:Tx):List (List Av×Bool):=(YR 44 s).map Zk
def ZAk(s:Tx):Dn:=(ZCN s).map (·.1)
def YN(s:Tx):Dn×Int:=
 if s.length>4096 then([],3)else if s= []then([],0)
 else if(ZCN s).all (·.2)=true then(if mxD (ZAk s)>8 then([],3)else if Jb (ZAk s)≠0 then([],Jb (ZAk s))else(ZAk s,0))
 else([],5)
theorem ZYG(s:Tx):(Yw s).1.1.length<=s.length:=by
 unfold Yw;have h1:=(ZKe 61 s).1;have h2:=ZMq (KU 61 s).1;split
 .simp
 .simp;omega
theorem Zbp(s:Tx)(hs:s.length<=900000): ∀p∈(Zk s).1,p.1.length<=900000:=by
 unfold Zk ZFO;split
 .intro p hp;obtain⟨q,h1,rfl⟩:=YT.1 hp;obtain⟨x,h2,rfl⟩:=YT.1 h1;have:=(ZA8 43 _ s (Zm _)).1 x h2;have:=ZYG x;omega
 .intro p hp;simp at hp
theorem ZHk(s:Tx)(hs:s.length<=900000):(Zk s).1.length<=900001:=by
 unfold Zk ZFO;split
 .have:=(ZA8 43 _ s (Zm _)).2;simp;omega
 .simp
theorem ZG2(s:Tx)(hs:s.length<=900000):smD (ZAk s):=by
 intro r hr;unfold ZAk ZCN at hr;obtain⟨q,h1,rfl⟩:=YT.1 hr;obtain⟨x,h2,rfl⟩:=YT.1 h1;have:=(ZA8 44 _ s (Zm _)).1 x h2;exact Zbp x J0
def ZGW:Tabs:=ZR (ZR (ZR (ZO) 166 QN) 167 ZIv) 168 ZDa
theorem ZWT:SsOk Tryz.prog ZGW:=ZG (ZG (ZG (ZD) (ZU 166) ZJv) (ZU 167) ZXT) (ZU 168) ZQX
theorem ZZV:(∀a,ZGW.q 166 a=QN a)/\(∀a,ZGW.q 167 a=ZIv a)/\(∀a,ZGW.q 168 a=ZDa a)/\(∀f a o,ZGW.r f a o=none)/\(∀f a o,ZGW.k f a o=none):=⟨λ_=>rfl,λ_=>rfl,λ_=>rfl,λ_ _ _=>rfl,λ_ _ _=>rfl⟩
theorem ZeO(s:Tx):ZC Tryz.prog 131 [.x (.str s)] (.tup [.x (.sl (rows JV (YN s).1)),.x (.int .i64 (YN s).2)]):=by
 rcases hq:YN s with⟨d,e⟩
 unfold YN at hq;have hsp:YR (UInt8.ofNat (44:Int).toNat) s=YR 44 s:=rfl;refine ZI.pure (fC 131 true ?_) rfl;intro C0 E0;have uu:=KJ @QN.eq_1 @QN.eq_2 @ZIv.eq_1 @ZIv.eq_2 @ZDa.eq_1 @ZDa.eq_2 hsp @ZLR (YZ @ZO6 @ZZV);have tT:=ZWT;refine nz ?_;refine rg tT [0] ?_;refine rg tT [0,11] ?_;refine cd (λh0=> ?_) (λh0=> ?_)
 .refine rg tT [2,3] ?_;refine WI.nnA ?_;refine lf ?_;rw[if_pos J0]at hq;cases hq;rfl
 .refine rg tT [0,15] ?_;refine cd (λh1=> ?_) (λh1=> ?_)
  .refine rg tT [2,3] ?_;refine WI.nnA ?_;refine lf ?_;rw[if_neg J0,if_pos (by simpa using h1)]at hq;cases hq;rfl
  .have hne:s≠ []:=by simpa using h1
   rw[if_neg J0,if_neg hne]at hq;have hs:s.length<=900000:=by omega
   obtain⟨hb1,hb2⟩:=ZA8 44 _ s (Zm _);have hsm:=ZG2 s hs;refine rg tT [0,4] ?_;refine rg tT [0,4,5] ?_;refine rg tT [4,5,19,20,21] ?_;refine WI.ownA 4 159 1 ?_;have hrl:ZCN s=(YR 44 s).map Zk:=rfl;have hnl:ZAk s=((YR 44 s).map Zk).map (·.1):=rfl;generalize YR 44 s=l at hb1 hb2 hrl hnl|-;generalize ZCN s=rl at hq hrl;generalize ZAk s=nl at hq hnl hsm;subst hrl hnl;refine WI.loop (λφ os=> ∃(j:Nat),φ= [(4,.ref 0 j 0 j),(5,.x (.int .i64 (mxD ((l.take j).map λx=>(Zk x).1)))),(19,.x (.sl (rows ZA l))),(20,.x (.int .i64 l.length)),(21,.x (.int .i64 j))]/\os= [.rows false 159 1 (rows JV ((l.take j).map λx=>(Zk x).1))]/\j<=l.length/\(l.take j).all (λx=>(Zk x).2)=true) (ZK l.length 21) ?_ (λφ os hI=> ?_)
   .exact⟨0,rfl,rfl,J0,rfl⟩
   .obtain⟨j,rfl,rfl,hj,hall⟩:=hI;refine nz ?_;refine rg tT [4,5,19,20,21,22] ?_;refine cd (λh2=> ?_) (λh2=> ?_)
    .have hj4:j<l.length:=by omega
     have hbj:=hb1 _ (YM hj4);have hpc:=ZHk l[j] J0;have hsc:decide (l[j].length<=900000)=true:=ZL J0;have hmt:(l.take (j+1)).map (λx=>(Zk x).1)=(l.take j).map (λx=>(Zk x).1)++ [(Zk l[j]).1]:=by rw[Jg hj4,Ji];rfl
     have hmx:mxD ((l.take (j+1)).map λx=>(Zk x).1)=max (mxD ((l.take j).map λx=>(Zk x).1)) (Zk l[j]).1.length:=by rw[hmt,ZNE]
     have uu:=YZ uu hsc;refine rg tT [4,5,7,19,20,21] ?_;refine rg tT [4,5,8,9,19,20,21] ?_;refine rg tT [4,5,8,19,20,21,31] ?_;refine cd (λh3=> ?_) (λh3=> ?_)
     .have hf:(l.map Zk).all (·.2)=false:=by rw[ZF6];exact Zw _ l j hj4 (by simpa using h3)
      rw[if_neg (by rw[hf];decide)]at hq;refine rg tT [2,3] ?_;refine WI.nnA ?_;refine lf ?_;cases hq;rfl
     .refine rg tT [4,5,8,19,20,21] ?_;refine rgp tT [4,5,19,20,21] ?_;refine Je [0] ?_;refine KM ?_;refine nz ?_;refine WI.orderA [4,5,19,20,21] ?_;refine rg tT [4,5,19,20,21] ?_;exact⟨⟨j+1,by rw[hmx,ZZE];first|done|rfl,by rw[hmt,<-ZJ4];first|done|rfl,J0,by rw[JL _ l j hj4,hall];simpa using h3⟩,by simp[ZK,Ab.get,D.val,ZE];omega⟩
    .obtain rfl:j=l.length:=by omega
     rw[JS]at hall|-;have hf:(l.map Zk).all (·.2)=true:=by rw[ZF6];exact hall
     rw[if_pos hf]at hq;have hmm:(l.map Zk).map (·.1)=l.map (λx=>(Zk x).1):=by rw[Js];rfl
     rw[hmm]at hq hsm;have hml:(l.map λx=>(Zk x).1).length=l.length:=Yb ..;generalize(l.map λx=>(Zk x).1)=m at hq hsm hml|-;have e1:m.take l.length=m:=YX J0;have e2:decide (smD m)=true:=ZL hsm;have uu:=ξ4 uu hml e1 e2;refine rg tT [4,42] ?_;refine cd (λh4=> ?_) (λh4=> ?_)
     .refine rg tT [2,3] ?_;refine WI.nnA ?_;refine lf ?_;rw[if_pos J0]at hq;cases hq;rfl
     .rw[if_neg J0]at hq;refine rg tT [4,10] ?_;refine rg tT [4,10,46] ?_;refine cd (λh5=> ?_) (λh5=> ?_)
      .refine rg tT [2,3] ?_;refine WI.nnA ?_;refine lf ?_;rw[if_pos (by simpa using h5)]at hq;cases hq;rfl
      .refine rg tT [2,3] ?_;refine WI.nnA ?_;refine lf ?_;rw[if_neg (by simpa using h5)]at hq;cases hq;first|rfl|rw[e1]
def Qk:J8->J5
 | [.x (.str s)]=>some (true,.tup [.x (.sl (rows JV (YN s).1)),.x (.int .i64 (YN s).2)])
 |_=>none
theorem ZIA: ∀args r,Qk args=some (true,r)->ZC Tryz.prog 131 args r:=by
 intro args r h;unfold Qk at h;split at h
 .rename_i s;simp only[Ze,Za,ZT,Zc,true_and]at h;obtain rfl:=h;exact(ZeO s)
 .cases h
theorem Zd3(r:List Av)(j:Nat)(h:j<r.length)(x:Tx):x∈QW (r.take (j+1))↔x∈QW (r.take j)\/x=ZH (r.getD j ([],[])).1:=by
 unfold QW;rw[Jg h,Ji,Km];simp[h]
theorem Zf7(r:List Av)(j k:Nat)(h:j<k)(hk:k<=r.length):ZH (r.getD j ([],[])).1∈QW (r.take k):=by
 unfold QW;refine YT.2 ⟨r[j]' J0,?_,by simp[show j<r.length by omega]⟩;exact List.mem_take_iff_getElem.2 ⟨j,J0,rfl⟩
def ZE9:J8->J5
 | [.x (.str s)]=>some (decide (s.length<=1000000),.x (.str (ZH s)))
 |_=>none
theorem ZTo: ∀args r,ZE9 args=some (true,r)->ZC Tryz.prog 32 args r:=by
 intro args r h;unfold ZE9 at h;split at h
 .rename_i s;simp only[Ze,Za,ZT,Zc,true_and]at h;obtain⟨h1,rfl⟩:=h;exact(ZNL s J0)
 .cases h
def ZIz:Tabs:=ZR (ZR (ZO) 115 ZDf) 32 ZE9
theorem ZWq:SsOk Tryz.prog ZIz:=ZG (ZG (ZD) (ZU 115) ZQS) (ZU 32) ZTo
theorem ZYr:(∀a,ZIz.q 115 a=ZDf a)/\(∀a,ZIz.q 32 a=ZE9 a)/\(∀f a o,ZIz.r f a o=none)/\(∀f a o,ZIz.k f a o=none):=⟨λ_=>rfl,λ_=>rfl,λ_ _ _=>rfl,λ_ _ _=>rfl⟩
set_option maxHeartbeats 1000000 in
theorem Ze9(d:Dn)(hb:smD d)(hld:d.length<=1000000)(hlr: ∀r∈d,r.length<=1000000):ZC Tryz.prog 160 [.x (.sl (rows JV d))] (.x (.int .i64 (Jb d))):=by
 unfold Jb;refine ZI.pure (fC 160 true ?_) rfl;intro C0 E0;have uu:=ξ5 @ZDf.eq_1 @ZDf.eq_2 @ZE9.eq_1 @ZE9.eq_2 @ZYr;have tT:=ZWq;refine nz ?_;refine rg tT [0] ?_;refine rg tT [0,9] ?_;refine cd (λh0=> ?_) (λh0=> ?_)
 .refine rg tT [2] ?_;refine lf ?_;rw[if_pos J0]
 .refine rg tT [0,3] ?_;refine WI.loop (λφ os=> ∃(i:Nat),φ= [(0,.x (.sl (rows JV d))),(3,.x (.int .i64 i))]/\os= []/\i<=d.length/\(d.take i).all Yh=true) (ZK d.length 3) ?_ (λφ os hI=> ?_)
  .exact⟨0,rfl,rfl,J0,rfl⟩
  .obtain⟨i,rfl,rfl,hi,hall⟩:=hI;refine nz ?_;refine rg tT [0,3,13] ?_;refine cd (λh1=> ?_) (λh1=> ?_)
   .have hi4:i<d.length:=by omega
    have hdi:d[i]=d.getD i []:=by simp[hi4]
    have hrw:=ZE1 d i hi4;have hri: ∀p∈d.getD i [],p.1.length<=900000:=by rw[<-hdi];exact hb _ (YM hi4)
    have hrl:(d.getD i []).length<=1000000:=by rw[<-hdi];exact hlr _ (YM hi4)
    rcases hdr:d.getD i []with r0
    obtain⟨r,hr0⟩: ∃r,r=r0:=⟨r0,rfl⟩;subst hr0;rw[hdr]at hri hrl hrw;have uu:=YZ uu hrw;refine rg tT [0,3,29] ?_;refine cd (λh2=> ?_) (λh2=> ?_)
    .refine rg tT [2] ?_;refine lf ?_;rw[if_neg J0,if_neg (by rw[Zw Yh d i hi4 (by rw[hdi,hdr];unfold Yh;rw[decide_eq_false J0,ZDv])];decide)]
    .refine rg tT [0,3,4] ?_;refine WI.loop (λφ os=> ∃(k:Nat),φ= [(0,.x (.sl (rows JV d))),(3,.x (.int .i64 i)),(4,.x (.int .i64 k))]/\os= []/\k<=r.length/\okP r k=true) (ZK r.length 4) ?_ (λφ os hI=> ?_)
     .exact⟨0,rfl,rfl,J0,rfl⟩
     .obtain⟨k,rfl,rfl,hk,hok⟩:=hI;refine nz ?_;refine rg tT [0,3,4,36] ?_;refine cd (λh3=> ?_) (λh3=> ?_)
      .have hk4:k<r.length:=by omega
       have hka:=ZC2 r k hk4;have hem:=ZJG (r.getD k ([],[])).2;have hkl:(r.getD k ([],[])).1.length<=900000:=by rw[show r.getD k ([],[])=r[k] by simp[hk4]];exact hri _ (YM hk4)
       have hsc:decide ((r.getD k ([],[])).1.length<=1000000)=true:=ZL J0;have uu:=JW uu hka hsc;refine rg tT [0,3,4,5] ?_;refine rg tT [0,3,4,5,61] ?_;refine cd (λh4=> ?_) (λh4=> ?_)
       .refine rg tT [2] ?_;refine lf ?_;have hno:ZAB r k=false:=by unfold ZAB;clear uu;grind
        rw[if_neg J0,if_neg (by rw[Zw Yh d i hi4 (by rw[hdi,hdr];unfold Yh;rw[ZHa r r.length k hk4 hno];rfl)];decide)]
       .refine rg tT [0,3,4,5,6] ?_;refine WI.loop (λφ os=> ∃(j:Nat),φ= [(0,.x (.sl (rows JV d))),(3,.x (.int .i64 i)),(4,.x (.int .i64 k)),(5,.ptr 0 0),(6,.x (.int .i64 j))]/\os= [.box [.x (.str (r.getD k ([],[])).1),.x (.str (r.getD k ([],[])).2)]]/\j<=k/\ZH (r.getD k ([],[])).1∉QW (r.take j)) (ZK k 6) ?_ (λφ os hI=> ?_)
        .exact⟨0,rfl,rfl,J0,by simp[QW]⟩
        .obtain⟨j,rfl,rfl,hj,hnin⟩:=hI;refine nz ?_;refine rg tT [0,3,4,5,6,64] ?_;refine cd (λh5=> ?_) (λh5=> ?_)
         .have hj4:j<k:=by omega
          have hja:=ZC2 r j J0;have hjl:(r.getD j ([],[])).1.length<=900000:=by rw[show r.getD j ([],[])=r[j] by simp[show j<r.length by omega]];exact hri _ (YM _)
          have hsj:decide ((r.getD j ([],[])).1.length<=1000000)=true:=ZL J0;have uu:=JW uu hja hsj;refine WI.dregB tT [0,3,4,5,6,79] ?_
          iterate 2 refine YD ?_
          iterate 2 refine JO ?_
          refine YD ?_;refine JO ?_;refine YD ?_;refine JO ?_;refine dQC ?_;refine YD ?_;refine JO ?_;refine dAC ?_;refine KR ?_;refine dN ?_;refine nz ?_;refine cd (λh6=> ?_) (λh6=> ?_)
          .refine rg tT [2] ?_;refine lf ?_;have hin:ZH (r.getD k ([],[])).1∈QW (r.take k):=by rw[<-show ZH (r.getD j ([],[])).1=ZH (r.getD k ([],[])).1 by simpa using h6];exact Zf7 r j k hj4 J0
           have hno:ZAB r k=false:=by unfold ZAB;rw[ZL hin];simp
           rw[if_neg J0,if_neg (by rw[Zw Yh d i hi4 (by rw[hdi,hdr];unfold Yh;rw[ZHa r r.length k hk4 hno];rfl)];decide)]
          .refine rg tT [0,3,4,5,6] ?_;exact⟨⟨j+1,rfl,rfl,J0,λhh=>by rcases(Zd3 r j J0 _).1 hh with h|h;exact hnin h;exact h6 h.symm⟩,by simp[ZK,Ab.get,D.val,ZE];omega⟩
         .have hone:ZAB r k=true:=by
           have hjk:j=k:=by omega
           rw[hjk]at hnin;unfold ZAB;rw[decide_eq_false hnin,hem];clear uu hall hdi hrw hka;grind
          refine rgp tT [0,3,4] ?_;refine Je [] ?_;refine KM ?_;refine nz ?_;exact⟨⟨k+1,rfl,rfl,J0,by rw[okP,hok,ZBP];exact hone⟩,by simp[ZK,Ab.get,D.val,ZE];omega⟩
      .refine rg tT [0,3] ?_;exact⟨⟨i+1,rfl,rfl,J0,by rw[JL _ d i hi4,hall,hdi];show Yh (d.getD i [])=true;rw[hdr];unfold Yh;rw[show r.length=k by omega,hok];exact ZL ⟨J0,J0⟩⟩,by simp[ZK,Ab.get,D.val,ZE];omega⟩
   .refine rg tT [2] ?_;refine lf ?_;rw[if_neg J0,if_pos (by rw[YX J0]at hall;exact hall)]
def ZDg:J8->J5
 | [.x (.sl R)]=>(ZV JV R).bind λd=>some (decide (smD d)&&(decide (d.length<=1000000)&&(decide (∀r∈d,r.length<=1000000))),.x (.int .i64 (Jb d)))
 |_=>none
theorem ZQg: ∀args r,ZDg args=some (true,r)->ZC Tryz.prog 160 args r:=by
 intro args r h;unfold ZDg at h;split at h
 .rename_i R;obtain⟨d,hr0,h⟩:=Zp h;simp only[Ze,Za,ZT,Zc,true_and]at h;obtain⟨⟨h1,h2,h3⟩,rfl⟩:=h;rw[<-ZY ZD6 hr0];exact(Ze9 d h1 h2 h3)
 .cases h
def ZJ5(d:Dn):Bool:=d.any λr=>decide (r.length>8)
theorem ZVi(d:Dn)(r:List Av):ZJ5 (d++ [r])=(ZJ5 d||decide (r.length>8)):=by simp[ZJ5]
theorem ZRi: ∀d:Dn,ZJ5 d=decide (mxD d>8)
 | []=>rfl
 |r::d=>by
  have:=ZRi d;unfold ZJ5 at this|-;rw[ZV0,this,mxD,Qj];simp only[ZBX,Zc];omega
theorem Zcq(x:Tx)(h:(YR 43 x).all (λy=>(Yw y).2)=true):Zk x=((YR 43 x).map (λy=>(Yw y).1),true):=by
 unfold Zk ZFO;rw[if_pos (by rw[ZF6];exact h),Js];rfl
theorem ZYN(x:Tx)(h:(YR 43 x).all (λy=>(Yw y).2)=false):Zk x=([],false):=by
 unfold Zk ZFO;rw[if_neg (by rw[ZF6];show ¬(YR 43 x).all (λy=>(Yw y).2)=true;rw[h];decide)]
def ZGe:Tabs:=ZR (ZR (ZR (ZO) 158 ZGi) 159 ZJM) 160 ZDg
theorem ZWA:SsOk Tryz.prog ZGe:=ZG (ZG (ZG (ZD) (ZU 158) ZWV) (ZU 159) ZXm) (ZU 160) ZQg
theorem ZXR:(∀a,ZGe.q 158 a=ZGi a)/\(∀a,ZGe.q 159 a=ZJM a)/\(∀a,ZGe.q 160 a=ZDg a)/\(∀f a o,ZGe.r f a o=none)/\(∀f a o,ZGe.k f a o=none):=⟨λ_=>rfl,λ_=>rfl,λ_=>rfl,λ_ _ _=>rfl,λ_ _ _=>rfl⟩
set_option maxHeartbeats 1000000 in
theorem ZdB(s:Tx):ZC Tryz.prog 119 [.x (.str s)] (.tup [.x (.sl (rows JV (YN s).1)),.x (.int .i64 (YN s).2)]):=by
 rcases hq:YN s with⟨d,e⟩
 unfold YN at hq;have hsp: ∀t,YR (UInt8.ofNat (44:Int).toNat) t=YR 44 t:=λt=>rfl
 have hsq: ∀t,YR (UInt8.ofNat (43:Int).toNat) t=YR 43 t:=λt=>rfl
 refine ZI.pure (fC 119 true ?_) rfl;intro C0 E0;have uu:=KJ @ZGi.eq_1 @ZGi.eq_2 @ZJM.eq_1 @ZJM.eq_2 @ZDg.eq_1 @ZDg.eq_2 hsp hsq (JW @ZLR @ZO6 @ZXR);have tT:=ZWA;refine nz ?_;refine rg tT [0] ?_;refine rg tT [0,16] ?_;refine cd (λh0=> ?_) (λh0=> ?_)
 .refine rg tT [2,3] ?_;refine WI.nnA ?_;refine lf ?_;rw[if_pos J0]at hq;cases hq;rfl
 .refine rg tT [0,18] ?_;refine cd (λh1=> ?_) (λh1=> ?_)
  .refine rg tT [2,3] ?_;refine WI.nnA ?_;refine lf ?_;rw[if_neg J0,if_pos (by simpa using h1)]at hq;cases hq;rfl
  .have hne:s≠ []:=by simpa using h1
   rw[if_neg J0,if_neg hne]at hq;have hs:s.length<=900000:=by omega
   obtain⟨hb1,hb2⟩:=ZA8 44 _ s (Zm _);have hsm:=ZG2 s hs;refine rg tT [0,4] ?_;refine rg tT [0,4,5] ?_;refine rg tT [4,5,6] ?_;refine rg tT [4,5,6,7] ?_;refine WI.ownA 4 159 1 ?_;have hrl:ZCN s=(YR 44 s).map Zk:=rfl;have hnl:ZAk s=((YR 44 s).map Zk).map (·.1):=rfl;generalize YR 44 s=l at hb1 hb2 hrl hnl|-;generalize ZCN s=rl at hq hrl;generalize ZAk s=nl at hq hnl hsm;subst hrl hnl;refine WI.loop (λφ os=> ∃(i:Nat),φ= [(4,.ref 0 i 0 i),(5,.x (.bool (ZJ5 ((l.take i).map λx=>(Zk x).1)))),(6,.x (.sl (rows ZA l))),(7,.x (.int .i64 i))]/\os= [.rows false 159 1 (rows JV ((l.take i).map λx=>(Zk x).1))]/\i<=l.length/\(l.take i).all (λx=>(Zk x).2)=true) (ZK l.length 7) ?_ (λφ os hI=> ?_)
   .exact⟨0,rfl,rfl,J0,rfl⟩
   .obtain⟨i,rfl,rfl,hi,hall⟩:=hI;refine nz ?_;refine rg tT [4,5,6,7,24] ?_;refine cd (λh2=> ?_) (λh2=> ?_)
    .have hi4:i<l.length:=by omega
     have hbi:=hb1 _ (YM hi4);have hsc:decide (l[i].length<=1000000)=true:=ZL J0;obtain⟨hc1,hc2⟩:=ZA8 43 _ l[i] (Zm _);have hmt:(l.take (i+1)).map (λx=>(Zk x).1)=(l.take i).map (λx=>(Zk x).1)++ [(Zk l[i]).1]:=by rw[Jg hi4,Ji];rfl
     have hpo:=Zcq l[i];have hpb:=ZYN l[i];have uu:=YZ uu hsc;refine rg tT [4,5,6,7,8] ?_;refine rg tT [4,5,6,7,8,9] ?_;refine rg tT [4,5,6,7,8,9,10] ?_;refine WI.ownA 9 161 2 ?_;generalize YR 43 l[i]=m at hc1 hc2 hpo hpb|-;refine WI.loop (λφ os=> ∃(k:Nat),φ= [(4,.ref 0 i 0 i),(5,.x (.bool (ZJ5 ((l.take i).map λx=>(Zk x).1)))),(6,.x (.sl (rows ZA l))),(7,.x (.int .i64 i)),(8,.x (.sl (rows ZA m))),(9,.ref 1 k 0 k),(10,.x (.int .i64 k))]/\os= [.rows false 159 1 (rows JV ((l.take i).map λx=>(Zk x).1)),.rows false 161 2 (rows Zn ((m.take k).map λx=>(Yw x).1))]/\k<=m.length/\(m.take k).all (λx=>(Yw x).2)=true) (ZK m.length 10) ?_ (λφ os hI=> ?_)
     .exact⟨0,rfl,rfl,J0,rfl⟩
     .obtain⟨k,rfl,rfl,hk,hok⟩:=hI;refine nz ?_;refine rg tT [4,5,6,7,8,9,10,35] ?_;refine cd (λh3=> ?_) (λh3=> ?_)
      .have hk4:k<m.length:=by omega
       have hbk:=hc1 _ (YM hk4);have hsd:decide (m[k].length<=900000)=true:=ZL J0;have uu:=YZ uu hsd;refine rg tT [4,5,6,7,8,9,10,11,12] ?_;refine rg tT [4,5,6,7,8,9,10,11,47] ?_;refine cd (λh4=> ?_) (λh4=> ?_)
       .have hbad:=hpb (Zw _ m k hk4 (by simpa using h4));have hf:(l.map Zk).all (·.2)=false:=by rw[ZF6];exact Zw _ l i hi4 (by show(Zk l[i]).2=false;rw[hbad])
        rw[if_neg (by rw[hf];decide)]at hq;refine rg tT [2,3] ?_;refine WI.nnA ?_;refine lf ?_;cases hq;rfl
       .refine rgp tT [4,5,6,7,8,9,10] ?_;refine Je [0,1] ?_;refine KM ?_;refine nz ?_;refine rg tT [4,5,6,7,8,9,10] ?_;exact⟨⟨k+1,rfl,by rw[Jg hk4,Ji,ZMj,<-ZJk],J0,by rw[JL _ m k hk4,hok];simpa using h4⟩,by simp[ZK,Ab.get,D.val,ZE];omega⟩
      .obtain rfl:k=m.length:=by omega
       rw[JS]at hok|-;have hpx:=hpo hok;have hql:(m.map λx=>(Yw x).1).length=m.length:=Yb ..;generalize(m.map λx=>(Yw x).1)=q at hpx hql|-;have hpx1:(Zk l[i]).1=q:=by rw[hpx]
       have hpx2:(Zk l[i]).2=true:=by rw[hpx]
       rw[<-hql];have e1:q.take q.length=q:=JS;have uu:=YZ uu e1;refine rg tT [4,5,6,7,9] ?_;refine rgp tT [4,5,6,7] ?_;refine Je [0] ?_;refine KM ?_;refine nz ?_;refine WI.orderA [4,5,6,7] ?_;refine rg tT [4,5,6,7] ?_;exact⟨⟨i+1,by rw[hmt,ZVi,hpx1,<-show decide ((q.length:Int)>8)=decide (q.length>8) by rw[Qj,Zc,Zc];omega];first|done|rfl,by rw[hmt,<-ZJ4,hpx1];first|done|rfl,J0,by rw[JL _ l i hi4,hall,hpx2];rfl⟩,by simp[ZK,Ab.get,D.val,ZE];omega⟩
    .obtain rfl:i=l.length:=by omega
     rw[JS]at hall|-;have hf:(l.map Zk).all (·.2)=true:=by rw[ZF6];exact hall
     rw[if_pos hf]at hq;have hmm:(l.map Zk).map (·.1)=l.map (λx=>(Zk x).1):=by rw[Js];rfl
     rw[hmm]at hq hsm;have hml:(l.map λx=>(Zk x).1).length=l.length:=Yb ..;have hcnt: ∀r∈(l.map λx=>(Zk x).1),r.length<=1000000:=by
      intro r hr;obtain⟨x,h1,rfl⟩:=YT.1 hr;have:=ZHk x (by have:=hb1 x h1;omega);omega
     generalize(l.map λx=>(Zk x).1)=m at hq hsm hml hcnt|-;have e1:m.take l.length=m:=YX J0;have e2:(decide (smD m)&&(decide (m.length<=1000000)&&decide (∀r∈m,r.length<=1000000)))=true:=by rw[ZL hsm,ZL hcnt,ZL (show m.length<=1000000 by omega)];rfl
     have hlm:=ZRi m;have uu:=ξ4 uu hml e1 e2;refine rg tT [4,67] ?_;refine cd (λh5=> ?_) (λh5=> ?_)
     .refine rg tT [2,3] ?_;refine WI.nnA ?_;refine lf ?_;have hz:mxD m>8\/m.length>32:=by rw[hlm]at h5;clear uu;grind
      by_cases hm8:mxD m>8
      .rw[if_pos hm8]at hq;cases hq;rfl
      .have h32:Jb m=3:=by unfold Jb;rw[if_pos J0]
       rw[if_neg hm8,h32,if_pos (by decide)]at hq;cases hq;rfl
     .have hm8: ¬mxD m>8:=by rw[hlm]at h5;intro hh;rw[ZL hh]at h5;simp at h5
      rw[if_neg hm8]at hq;refine rg tT [4,13] ?_;refine rg tT [4,13,71] ?_;refine cd (λh6=> ?_) (λh6=> ?_)
      .refine rg tT [2,3] ?_;refine WI.nnA ?_;refine lf ?_;rw[if_pos (by simpa using h6)]at hq;cases hq;rfl
      .refine rg tT [2,3] ?_;refine WI.nnA ?_;refine lf ?_;rw[if_neg (by simpa using h6)]at hq;cases hq;first|rfl|rw[e1]
def ZBQ:J8->J5
 | [.x (.str s)]=>some (true,.tup [.x (.sl (rows JV (YN s).1)),.x (.int .i64 (YN s).2)])
 |_=>none
theorem ZJ1: ∀args r,ZBQ args=some (true,r)->ZC Tryz.prog 119 args r:=by
 intro args r h;unfold ZBQ at h;split at h
 .rename_i s;simp only[Ze,Za,ZT,Zc,true_and]at h;obtain rfl:=h;exact(ZdB s)
 .cases h
theorem Zgk(r:List Av)(hb: ∀p∈r,p.1.length<=900000)(hl:r.length<=1000000):ZN Tryz.prog 188 [.ref 0 r.length 0 r.length] [.rows false 161 2 (rows Zn r)] (.x (.bool (Yh r))) [.rows false 161 2 (rows Zn r)]:=by
 refine ZI.mcalls (fC 188 true ?_);intro C0 E0;have uu:=ξ5 @QO.eq_1 @QO.eq_2 @ZAh.eq_1 @ZAh.eq_2 @ZQ9;have tT:=ZOp;refine nz ?_;refine rg tT [0] ?_;refine rg tT [0,3] ?_;refine rg tT [0,3,8,9,10] ?_;refine WI.loop (λφ os=> ∃(j:Nat),φ= [(0,.ref 0 r.length 0 r.length),(3,.mref 1),(8,.ref 0 r.length 0 r.length),(9,.x (.int .i64 r.length)),(10,.x (.int .i64 j))]/\os= [.rows false 161 2 (rows Zn r),.mpo .str false (Yk Ka kcI (ZCM r j))]/\j<=r.length/\okP r j=true) (ZK r.length 10) ?_ (λφ os hI=> ?_)
 .exact⟨0,rfl,rfl,J0,rfl⟩
 .obtain⟨j,rfl,rfl,hj,hok⟩:=hI;refine nz ?_;refine rg tT [0,3,8,9,10,11] ?_;refine cd (λh0=> ?_) (λh0=> ?_)
  .have hj4:j<r.length:=by omega
   have har:=ZC2 r j hj4;have hbj:(r.getD j ([],[])).1.length<=900000:=by rw[show r.getD j ([],[])=r[j] by simp[hj4]];exact hb _ (YM hj4)
   have hgt:=ZTj r j (ZH (r.getD j ([],[])).1);have uu:=YZ uu har;refine rg tT [0,3,5,8,9,10] ?_;refine rg tT [0,3,5,6,8,9,10] ?_;by_cases hin:ZH (r.getD j ([],[])).1∈QW (r.take j)
   .rw[if_pos hin]at hgt;have uu:=YZ uu hgt;refine rg tT [0,3,6,8,9,10,37] ?_;refine ct (λh1=> ?_) (λh1=> ?_)
    .refine rg tT [2] ?_;refine WI.pickA [0] ?_;refine lf ?_;have hno:ZAB r j=false:=by unfold ZAB;rw[ZL hin];simp
     rw[show Yh r=false by unfold Yh;rw[ZHa r r.length j hj4 hno];rfl];first|rfl|exact⟨rfl,rfl⟩
    .clear uu;simp at h1
   .rw[if_neg hin]at hgt;have uu:=YZ uu hgt;have hset:=ZD3 Ka kcI hkS (ZCM r j) (ZH (r.getD j ([],[])).1) 1;rw[ZRo r j hj4 hin]at hset;have hset':Yg (Yk Ka kcI (ZCM r j)) [X.str (ZH (r.getD j ([],[])).1)] [D.x (X.int .i64 1)]=Yk Ka kcI (ZCM r (j+1)):=hset;have uu:=YZ uu hset';refine rg tT [0,3,6,8,9,10,37] ?_;refine cd (λh1=> ?_) (λh1=> ?_)
    .refine rg tT [2] ?_;refine WI.pickA [0] ?_;refine lf ?_;have hno:ZAB r j=false:=by unfold ZAB;clear uu;grind
     rw[show Yh r=false by unfold Yh;rw[ZHa r r.length j hj4 hno];rfl];first|rfl|exact⟨rfl,rfl⟩
    .have hone:ZAB r j=true:=by unfold ZAB;rw[decide_eq_false hin];clear uu;grind
     refine WI.post ?_;refine WI.regB tT [0,3,8,9,10] ?_
     iterate 2 refine oS ?_
     iterate 3 refine oG ?_
     refine oP ?_;refine Je [0,1] ?_ (ho:=by simp (disch:=decide) only[zV,zO,Ob.mpb,frzL,ZA4,ZCs,onF,Ob.onI,mpP,JZ,Yl,ZAD,D.vw,vwL,D.on,D.inP,Yr,Zq,D.ren,Zy,inv,YW,Ob.mp,Ob.ren,D.nn,ZDr,Nat.reduceBEq,Nat.reduceEqDiff,Nat.reduceAdd,↓reduceIte,ZFK,ZAN];rfl);refine KM ?_;refine nz ?_;refine rg tT [0,3,8,9,10] ?_;exact⟨⟨j+1,rfl,by first|done|rfl,J0,by rw[okP,hok,hone];rfl⟩,by simp[ZK,Ab.get,D.val,ZE];omega⟩
  .refine rg tT [2] ?_;refine WI.pickA [0] ?_;refine lf ?_;have hz:r.length=j:=by omega
   rw[show Yh r=decide (1<=r.length/\r.length<=8) by unfold Yh;rw[hz,hok,ZBP]];refine⟨?_,rfl⟩;congr 2;rw[Qj];simp;omega
def RF(d:Dn):List J8:=Qh 1 (d.map (rows Zn))
def FM(d:Dn):J7:=fam 161 2 (d.map (rows Zn))
abbrev obD(d:Dn):J7:= .drw 159 1 (RF d)::FM d
theorem ZOV(d:Dn):(RF d).length=d.length:=by unfold RF;rw[ZPx,Yb]
theorem ZLG(d:Dn):(FM d).length=d.length:=by unfold FM;rw[ZMC,Yb]
theorem Zds(d:Dn)(j:Nat)(h:j<d.length):(d.map (rows Zn))[j]? =some (rows Zn (d.getD j [])):=by simp[h]
theorem ZXn(d:Dn)(j:Nat)(h:j<d.length):(RF d)[j]? =some [.ref (j+1) (d.getD j []).length 0 (d.getD j []).length]:=by
 unfold RF;rw[ZQc _ 1 j _ (Zds d j h),Zh,ZPe]
theorem ZXN(d:Dn)(Y:J7)(j:Nat)(h:j<d.length):(FM d++Y)[j]? =some (.rows false 161 2 (rows Zn (d.getD j []))):=Zhp _ _ _ Y j _ (Zds d j h)
theorem ZL1(d:Dn)(j:Nat)(h:j<d.length):(FM d)[j]? =some (.rows false 161 2 (rows Zn (d.getD j []))):=by rw[<-ZXN d [] j h,Kj]
theorem ZZ1(d:Dn)(Y:J7)(j:Nat)(h:j<d.length)(r:List Av):(FM d++Y).set j (.rows false 161 2 (rows Zn r))=FM (d.set j r)++Y:=by
 unfold FM;rw[Zfg _ _ _ Y j _ (by rw[Yb];exact h),ZMl]
theorem ZfH(d:Dn)(j:Nat)(h:j<d.length)(r:List Av):(FM d).set j (.rows false 161 2 (rows Zn r))=FM (d.set j r):=by
 have:=ZZ1 d [] j h r;rwa [Kj,Kj]at this
theorem ZaI(d:Dn)(j:Nat)(r:List Av)(h:r.length=(d.getD j []).length):RF (d.set j r)=RF d:=by
 unfold RF;refine ZMU _ _ _ ?_;rw[ZMl,ZMl,Zh];apply ZDN;intro i;rw[ZCx];split
 .rename_i hij;subst hij;rw[YG,YG];by_cases hj:j<d.length
  .simp[hj,Zh]at h|-;rw[h]
  .simp[hj]
 .rfl
theorem Zep(d:Dn)(r:List Av):RF (d++ [r])=RF d++ [[.ref (d.length+1) r.length 0 r.length]]:=by
 unfold RF;rw[Ji,ZMj,ZNY,Yb,Zh,ZPe]
theorem ZfO(d:Dn)(r:List Av):FM (d++ [r])=FM d++ [.rows false 161 2 (rows Zn r)]:=by
 unfold FM;rw[Ji,ZMj,ZcQ]
theorem ZUx(d:Dn):(obD d).all (Ob.inP (λi=>decide (i<(obD d).length)))=true:=Zah 159 161 2 (d.map (rows Zn))
theorem ZWp:Enters Tryz.prog 188:=ZU 188
theorem ZPz(d:Dn)(j:Nat):d.set j (d.getD j [])=d:=by
 by_cases h:j<d.length
 .rw[show d.getD j []=d[j] by simp[h]];simp
 .rw[List.set_eq_of_length_le J0]
theorem ZgS(d:Dn)(j:Nat)(hj:j<d.length)(hb:smD d)(hl:(d.getD j []).length<=1000000):ZN Tryz.prog 188 [.ref (j+1) (d.getD j []).length 0 (d.getD j []).length] (obD d) (.x (.bool (Yh (d.getD j [])))) (obD d):=by
 have hbj: ∀p∈d.getD j [],p.1.length<=900000:=by rw[show d.getD j []=d[j] by simp[hj]];exact hb _ (YM hj)
 have hc:=Zgk (d.getD j []) hbj hl;have:=ZN.row (args:= [.ref (j+1) (d.getD j []).length 0 (d.getD j []).length]) (OS:=obD d) (j+1) (by rw[show Zy (inv [j+1]) [D.ref (j+1) (d.getD j []).length 0 (d.getD j []).length]= [D.ref 0 (d.getD j []).length 0 (d.getD j []).length] by simp only[Zy,D.ren,inv,if_true]];exact hc) (by rw[ZCD];exact ZL1 d j hj) rfl (by simp[Yr,D.inP,Zq]) (λf=>rfl);rw[ZCp,ZfH d j hj,ZPz]at this;exact this
theorem ZhJ(d:Dn)(hb:smD d)(hl: ∀r∈d,r.length<=1000000)(hld:d.length<=1000000):ZN Tryz.prog 168 [.ref 0 d.length 0 d.length] (obD d) (.x (.int .i64 (Jb d))) (obD d):=by
 have hRl:=ZOV d;have hFl:=ZLG d;unfold Jb;refine ZI.mcalls (fC 168 true ?_);intro C0 E0;have uu:=ξ6 hRl hFl @ZJR @ZJn @ZJQ @ZJj;have tT:=(ZD:SsOk Tryz.prog ZO);refine nz ?_;refine rg tT [0] ?_;refine rg tT [0,7] ?_;refine cd (λh0=> ?_) (λh0=> ?_)
 .refine rg tT [2] ?_;refine lf ?_;rw[if_pos J0];exact⟨rfl,rfl⟩
 .refine rg tT [8,9,10] ?_;refine WI.loop (λφ os=> ∃(j:Nat),φ= [(8,.ref 0 d.length 0 d.length),(9,.x (.int .i64 d.length)),(10,.x (.int .i64 j))]/\os=obD d/\j<=d.length/\(d.take j).all Yh=true) (ZK d.length 10) ?_ (λφ os hI=> ?_)
  .exact⟨0,rfl,rfl,J0,rfl⟩
  .obtain⟨j,rfl,rfl,hj,hall⟩:=hI;refine nz ?_;refine rg tT [8,9,10,11] ?_;refine cd (λh1=> ?_) (λh1=> ?_)
   .have hj4:j<d.length:=by omega
    have hdj:d[j]=d.getD j []:=by simp[hj4]
    have hlj:(d.getD j []).length<=1000000:=by rw[<-hdj];exact hl _ (YM hj4)
    have hrf:=ZXn d j hj4;have hfm:=ZL1 d j hj4;have uu:=JW uu hrf hfm;refine rg tT [4,8,9,10] ?_;refine rg (ZDZ ZD ZWp (ZgS d j hj4 hb hlj)) [8,9,10,16] ?_;refine cd (λh2=> ?_) (λh2=> ?_)
    .refine rg tT [2] ?_;refine lf ?_;rw[if_neg J0,if_neg (by rw[Zw Yh d j hj4 (by rw[hdj];simpa using h2)];decide)];exact⟨rfl,rfl⟩
    .refine rg tT [8,9,10] ?_;exact⟨⟨j+1,rfl,rfl,J0,by rw[JL _ d j hj4,hall,hdj];simpa using h2⟩,by simp[ZK,Ab.get,D.val,ZE];omega⟩
   .refine rg tT [2] ?_;refine lf ?_;rw[YX J0]at hall;rw[if_neg J0,if_pos hall];exact⟨rfl,rfl⟩
theorem Ze5(s:Tx)(hl:s.length<=900000)(hok:(Zk s).2=true):ZN Tryz.prog 167 [.x (.str s)] [] (.tup [.ref 0 (Zk s).1.length 0 (Zk s).1.length,.x (.bool true)]) [.rows false 161 2 (rows Zn (Zk s).1)]:=by
 obtain⟨hb1,hb2⟩:=ZA8 43 _ s (Zm _);have hpl:(Zk s).1=(YR 43 s).map (λx=>(Yw x).1)/\(YR 43 s).all (λx=>(Yw x).2)=true:=by
  unfold Zk ZFO at hok|-;split at hok
  .rename_i h;rw[if_pos h];rw[ZF6]at h;exact⟨by rw[Js];rfl,h⟩
  .cases hok
 obtain⟨hpl,hpa⟩:=hpl;rw[hpl];clear hok hpl;have hsp:YR (UInt8.ofNat (43:Int).toNat) s=YR 43 s:=rfl;refine ZI.mcalls (fC 167 false ?_);intro C0 E0;have uu:=ξ6 @QN.eq_1 @QN.eq_2 @ZFo.eq_1 @ZFo.eq_2 hsp @ZRP;have tT:=ZP4;refine nz ?_;refine rg tT [0] ?_;refine rg tT [0,4] ?_;refine rg tT [4,10,11,12] ?_;refine WI.ownA 4 161 2 ?_;generalize YR 43 s=l at hpa hb1 hb2|-;refine WI.loop (λφ os=> ∃(j:Nat),φ= [(4,.ref 0 j 0 j),(10,.x (.sl (rows ZA l))),(11,.x (.int .i64 l.length)),(12,.x (.int .i64 j))]/\os= [.rows false 161 2 (rows Zn ((l.take j).map λx=>(Yw x).1))]/\j<=l.length) (ZK l.length 12) ?_ (λφ os hI=> ?_)
 .exact⟨0,rfl,rfl,J0⟩
 .obtain⟨j,rfl,rfl,hj⟩:=hI;refine nz ?_;refine rg tT [4,10,11,12,13] ?_;refine cd (λh0=> ?_) (λh0=> ?_)
  .have hj4:j<l.length:=by omega
   have hbj:=hb1 _ (YM hj4);have hpj:(Yw l[j]).2=true:=Yc.1 hpa _ (YM hj4);have hsc:decide (l[j].length<=900000)=true:=ZL J0;have uu:=YZ uu hsc;refine rg tT [4,6,10,11,12] ?_;refine rg tT [4,7,8,10,11,12] ?_;refine rg tT [4,7,10,11,12,22] ?_;refine ce (λh1=> ?_) (λh1=> ?_)
   .rw[hpj]at h1;simp at h1
   .refine rgp tT [4,10,11,12] ?_;refine Je [0] ?_;refine KM ?_;refine nz ?_;refine WI.orderA [4,10,11,12] ?_;refine rg tT [4,10,11,12] ?_;exact⟨⟨j+1,rfl,by rw[Jg hj4,Ji,ZMj,<-ZJk],J0⟩,by simp[ZK,Ab.get,D.val,ZE];omega⟩
  .have e1:(rows Zn ((l.take j).map λx=>(Yw x).1)).length=j:=by simp[rows];omega
   have e2:(l.take j).length=j:=by simp;omega
   have uu:=JW uu e1 e2;refine rg tT [2,3] ?_;refine lf ?_;have hz:l.length=j:=by omega
   rw[YX (l:=l) J0,Yb,hz];exact⟨rfl,rfl⟩
theorem ZT1:Enters Tryz.prog 167:=ZU 167
theorem ZeN(d:Dn)(s:Tx)(hl:s.length<=900000)(hok:(Zk s).2=true):ZN Tryz.prog 167 [.x (.str s)] (obD d) (.tup [.ref (d.length+1) (Zk s).1.length 0 (Zk s).1.length,.x (.bool true)]) (.drw 159 1 (RF d)::FM (d++ [(Zk s).1])):=by
 have:=ZN.new (OS:=obD d) (Ze5 s hl hok) rfl (λp=>rfl);rw[ZMj,JG,ZLG]at this;rw[ZfO];exact this
theorem ZSx:Enters Tryz.prog 168:=ZU 168
theorem ZJz(s:Tx)(d:Dn)(hq:YN s=(d,0))(hne:s≠ []):s.length<=4096/\(YR 44 s).all (λx=>(Zk x).2)=true/\d=(YR 44 s).map (λx=>(Zk x).1)/\mxD d<=8/\Jb d=0:=by
 unfold YN at hq;by_cases h1:s.length>4096
 .rw[if_pos h1]at hq;cases hq
 rw[if_neg h1,if_neg hne]at hq;by_cases h2:(ZCN s).all (·.2)=true
 .rw[if_pos h2]at hq;by_cases h3:mxD (ZAk s)>8
  .rw[if_pos h3]at hq;cases hq
  rw[if_neg h3]at hq;by_cases h4:Jb (ZAk s)≠0
  .rw[if_pos h4]at hq;simp only[Za]at hq;exact absurd hq.2 h4
  rw[if_neg h4]at hq;simp only[Za]at hq;obtain⟨rfl,-⟩:=hq;refine⟨J0,?_,?_,J0,Classical.not_not.1 h4⟩
  .unfold ZCN at h2;rw[ZF6]at h2;exact h2
  .unfold ZAk ZCN;rw[Js];rfl
 .rw[if_neg h2]at hq;cases hq
def ZOr:Tabs:=ZR (ZO) 166 QN
theorem ZXe:SsOk Tryz.prog ZOr:=ZG (ZD) (ZU 166) ZJv
theorem Zce:(∀a,ZOr.q 166 a=QN a)/\(∀f a o,ZOr.r f a o=none)/\(∀f a o,ZOr.k f a o=none):=⟨λ_=>rfl,λ_ _ _=>rfl,λ_ _ _=>rfl⟩
set_option maxHeartbeats 1000000 in
theorem ZfQ(s:Tx)(d:Dn)(hq:YN s=(d,0))(hne:s≠ []):ZN Tryz.prog 131 [.x (.str s)] [] (.tup [.ref 0 d.length 0 d.length,.x (.int .i64 0)]) (obD d):=by
 obtain⟨hs4,hall,hd,hmx8,hck⟩:=ZJz s d hq hne;clear hq;obtain⟨hb1,hb2⟩:=ZA8 44 _ s (Zm _);have hsm:smD d:=by
  have:=ZG2 s J0;unfold ZAk ZCN at this;rw[Js]at this;rw[hd];exact this
 have hsp:YR (UInt8.ofNat (44:Int).toNat) s=YR 44 s:=rfl;refine ZI.mcalls (fC 131 false ?_);intro C0 E0;have uu:=ξ8 @QN.eq_1 @QN.eq_2 hsp @ZJR @ZJn @ZJQ @ZJj @Zce;have tT:=ZXe;refine nz ?_;refine rg tT [0] ?_;refine rg tT [0,11] ?_;refine ce (λh0=> ?_) (λh0=> ?_)
 .simp at h0;omega
 .refine rg tT [0,15] ?_;refine ce (λh1=> ?_) (λh1=> ?_)
  .exact hne (by simpa using h1)
  .refine rg tT [0,4] ?_;refine rg tT [0,4,5] ?_;refine rg tT [4,5,19,20,21] ?_;refine WI.ownA 4 159 1 ?_;refine WI.toDA 0 ?_;generalize YR 44 s=l at hb1 hb2 hall hd|-;refine WI.loop (λφ os=> ∃(j:Nat),φ= [(4,.ref 0 j 0 j),(5,.x (.int .i64 (mxD ((l.take j).map λx=>(Zk x).1)))),(19,.x (.sl (rows ZA l))),(20,.x (.int .i64 l.length)),(21,.x (.int .i64 j))]/\os=obD ((l.take j).map λx=>(Zk x).1)/\j<=l.length) (ZK l.length 21) ?_ (λφ os hI=> ?_)
   .exact⟨0,rfl,rfl,J0⟩
   .obtain⟨j,rfl,rfl,hj⟩:=hI;refine nz ?_;refine rg tT [4,5,19,20,21,22] ?_;refine cd (λh2=> ?_) (λh2=> ?_)
    .have hj4:j<l.length:=by omega
     have hbj:=hb1 _ (YM hj4);have hpc:=ZHk l[j] J0;have hpj:(Zk l[j]).2=true:=Yc.1 hall _ (YM hj4);have hmt:(l.take (j+1)).map (λx=>(Zk x).1)=(l.take j).map (λx=>(Zk x).1)++ [(Zk l[j]).1]:=by rw[Jg hj4,Ji];rfl
     have hmx:mxD ((l.take (j+1)).map λx=>(Zk x).1)=max (mxD ((l.take j).map λx=>(Zk x).1)) (Zk l[j]).1.length:=by rw[hmt,ZNE]
     have hml:((l.take j).map λx=>(Zk x).1).length=j:=by rw[Yb,Yu];omega
     have hcall:=ZeN ((l.take j).map λx=>(Zk x).1) l[j] J0 hpj;rw[hml]at hcall;generalize hM:(l.take j).map (λx=>(Zk x).1)=M at hmt hmx hml hcall|-;generalize hR:(Zk l[j]).1=r at hmt hmx hcall hpc|-;have hrl:=ZOV M;have hfl:=ZLG (M++ [r]);rw[Zg,ZKx,hml]at hfl;have hfg: ∀x:Ob,(FM (M++ [r])++ [x])[j+1]? =some x:=λx=>by rw[Qe J0,hfl,ZIN];rfl
     rw[hml]at hrl;have hsn:=Zep M r;rw[hml]at hsn;have hfm:(FM (M++ [r]))[j]? =some (.rows false 161 2 (rows Zn r)):=by rw[ZL1 (M++ [r]) j (by simp;omega)];simp[hml]
     have uu:=ξ5 uu hrl hfl hfg hfm;refine rg tT [4,5,7,19,20,21] ?_;refine rg (ZDZ ZD ZT1 hcall) [4,5,8,9,19,20,21] ?_;refine rg tT [4,5,8,19,20,21,31] ?_;refine ce (λh3=> ?_) (λh3=> ?_)
     .simp at h3
     .refine rg tT [4,5,8,19,20,21] ?_;refine WI.post ?_;refine WI.regB tT [4,5,19,20,21] ?_
      iterate 2 refine oS ?_
      iterate 2 refine oG ?_
      refine oS ?_;refine oP ?_;refine ZNh (obD (M++ [r])) _ (by rw[obD,hsn];rfl) (KE _) (ZUx _) (by simp only[ZAe,ZGw,D.inP,JG,hfl];simp) ?_;refine KM ?_;refine nz ?_;refine WI.orderA [4,5,19,20,21] ?_;refine rg tT [4,5,19,20,21] ?_;exact⟨⟨j+1,by rw[hmx,ZZE];first|done|rfl,by rw[hmt],J0⟩,by simp[ZK,Ab.get,D.val,ZE];omega⟩
    .obtain rfl:j=l.length:=by omega
     rw[JS,<-hd];have hdl:d.length=l.length:=by rw[hd,Yb]
     rw[<-hdl];have hcc:=ZhJ d hsm (λr hr=>by rw[hd]at hr;obtain⟨x,h1,rfl⟩:=YT.1 hr;have:=ZHk x (by have:=hb1 x h1;omega);omega) J0;rw[hck]at hcc;refine rg tT [4,42] ?_;refine ce (λh4=> ?_) (λh4=> ?_)
     .simp at h4;omega
     .refine rg (ZDZ ZD ZSx hcc) [4,10] ?_;refine rg tT [4,10,46] ?_;refine ce (λh5=> ?_) (λh5=> ?_)
      .simp at h5
      .refine rg tT [2,3] ?_;refine lf ?_;exact⟨rfl,rfl⟩
def dgD(n:Nat):UInt8:=ZE4.getD n 0
def ZJT(c:UInt8):Bool:=decide ((c.toNat:Int)<32)||decide ((c.toNat:Int)=127)
def slD(c:UInt8)(f l:Bool):Bool:=spc c.toNat||(f&&(decide ((c.toNat:Int)=32)||decide ((c.toNat:Int)=35))||l&&decide ((c.toNat:Int)=32))
def ZDt(c:UInt8)(f l:Bool):Tx:=if ZJT c=true then [92,dgD (c.toNat/16),dgD (c.toNat % 16)]else if slD c f l=true then [92,c]else [c]
def ZAO(s:Tx)(j:Nat):Tx:=ZDt (s.getD j 0) (decide (j=0)) (decide (j+1=s.length))
def ZAc(s:Tx):Nat->Tx
 |0=> []
 |j+1=>ZAc s j++ZAO s j
def ZDL(s:Tx):Tx:=ZAc s s.length
theorem ZdG(c:UInt8)(f l:Bool):(ZDt c f l).length<=3:=by unfold ZDt;split;simp;split<;>simp
theorem ZFF(s:Tx): ∀j,(ZAc s j).length<=3*j
 |0=>by simp[ZAc]
 |j+1=>by
  have h1:=ZFF s j;have h2:=ZdG (s.getD j 0) (decide (j=0)) (decide (j+1=s.length));rw[ZAc,Zg];unfold ZAO;omega
theorem Zda(n:Nat)(h:n<256):IntKind.u8.wrap ((n:Int).tdiv 16)=((n/16:Nat):Int):=by
 rw[show(n:Int).tdiv 16=((n/16:Nat):Int)from rfl,IntWalk.u8_in _ J0]
theorem Zdw(n:Nat):(n:Int).tmod 16=((n % 16:Nat):Int):=rfl
theorem Zdz(b:Tx)(c d e:UInt8):b.map Zl++ [[X.int .u8 (c.toNat:Int)],[X.int .u8 (d.toNat:Int)],[X.int .u8 (e.toNat:Int)]]=(b++ [c,d,e]).map Zl:=by rw[Ji];rfl
theorem Zd6(b:Tx)(c:UInt8):b.map Zl++ [[X.int .u8 (c.toNat:Int)]]=(b++ [c]).map Zl:=by rw[Ji];rfl
def ZOZ:Tabs:=ZR (ZO) 202 ZCK
theorem ZYX:SsOk Tryz.prog ZOZ:=ZG (ZD) (ZU 202) ZNA
theorem Zcy:(∀a,ZOZ.q 202 a=ZCK a)/\(∀f a o,ZOZ.r f a o=none)/\(∀f a o,ZOZ.k f a o=none):=⟨λ_=>rfl,λ_ _ _=>rfl,λ_ _ _=>rfl⟩
theorem ZeB(s:Tx)(hl:s.length<=1000000):ZC Tryz.prog 176 [.x (.str s)] (.x (.str (ZDL s))):=by
 have hsl: ∀n,inB [44,43,34,92,60,62,59,61] n=spc n:=λn=>rfl
 have hud: ∀n:Nat,([48,49,50,51,52,53,54,55,56,57,97,98,99,100,101,102]:Tx).getD n 0=dgD n:=λn=>rfl
 refine ZI.pure (fC 176 true ?_) rfl;intro C0 E0;have uu:=ξ7 @ZCK.eq_1 @ZCK.eq_2 hsl hud @Ys @Kw @Zcy;have tT:=ZYX;refine nz ?_;refine rg tT [0] ?_;refine rg tT [0,3] ?_;refine rg tT [0,3,9,10,11] ?_;refine WI.ownA 3 5 1 ?_;refine WI.loop (λφ os=> ∃(j:Nat),φ= [(0,.x (.str s)),(3,.ref 1 (ZAc s j).length 0 (ZAc s j).length),(9,.ref 0 s.length 0 s.length),(10,.x (.int .i64 s.length)),(11,.x (.int .i64 j))]/\os= [.rows true 5 1 (s.map Zl),.rows false 5 1 ((ZAc s j).map Zl)]/\j<=s.length) (ZK s.length 11) ?_ (λφ os hI=> ?_)
 .exact⟨0,rfl,rfl,J0⟩
 .obtain⟨j,rfl,rfl,hj⟩:=hI;have hle:=ZFF s j;refine nz ?_;refine rg tT [0,3,9,10,11,12] ?_;refine cd (λh0=> ?_) (λh0=> ?_)
  .have hj4:j<s.length:=by omega
   have hst:ZAc s (j+1)=ZAc s j++ZAO s j:=rfl;have hb8:(s.getD j 0).toNat<256:=ZD0 _;have q0:(decide (0<=((s.getD j 0).toNat:Int)))=true:=ZL J0;have q1:=Zda _ hb8;have q2:=Zdw (s.getD j 0).toNat;have q3:decide (((s.getD j 0).toNat/16:Nat)<(16:Int))=true:=ZL J0;have q4:decide (((s.getD j 0).toNat % 16:Nat)<(16:Int))=true:=ZL J0;have uu:=ξ7 uu (ZTh s j hj4) q0 q1 q2 q3 q4;refine rg tT [0,3,4,5,9,10,11] ?_;refine rg tT [0,3,5,6,7,9,10,11] ?_;refine rg tT [0,3,5,6,7,9,10,11,23] ?_;refine cd (λh1=> ?_) (λh1=> ?_)
   .have hA:ZAO s j= [92,dgD ((s.getD j 0).toNat/16),dgD ((s.getD j 0).toNat % 16)]:=by unfold ZAO ZDt ZJT;rw[if_pos (by clear uu;grind)]
    have hn:(ZAO s j).length=3:=by rw[hA];rfl
    have hrow:(ZAc s j).map Zl++ [[X.int .u8 92],[X.int .u8 ((dgD ((s.getD j 0).toNat/16)).toNat:Int)],[X.int .u8 ((dgD ((s.getD j 0).toNat % 16)).toNat:Int)]]=(ZAc s j++ZAO s j).map Zl:=by rw[hA];exact Zdz _ 92 _ _
    refine WI.post ?_;refine WI.dregB tT [0,3,9,10,11] ?_
    iterate 2 refine YD ?_
    iterate 2 refine KR ?_
    refine YD ?_
    iterate 2 refine KR ?_
    iterate 2 refine dAG ?_
    refine YD ?_;refine dP ?_;refine Je [0,1] ?_;refine KM ?_;refine nz ?_;refine WI.orderA [0,3,9,10,11] ?_;refine rg tT [0,3,9,10,11] ?_;exact⟨⟨j+1,by rw[hst,Zg,hn];first|done|rfl,by rw[hst,<-hrow];first|done|rfl,J0⟩,by simp[ZK,Ab.get,D.val,ZE];omega⟩
   .refine rg tT [0,3,5,9,10,11,39] ?_;refine cd (λh2=> ?_) (λh2=> ?_)
    .have hA:ZAO s j= [92,s.getD j 0]:=by unfold ZAO ZDt ZJT slD;rw[if_neg (by clear uu;grind),if_pos (by clear uu;grind)]
     have hn:(ZAO s j).length=1+1:=by rw[hA];rfl
     have hrow:(ZAc s j).map Zl++ [[X.int .u8 92]]++ [[X.int .u8 ((s.getD j 0).toNat:Int)]]=(ZAc s j++ZAO s j).map Zl:=by rw[hA,Yp,Ji];rfl
     refine rgp tT [0,3,5,9,10,11] ?_;refine Je [0,1] ?_;refine KM ?_;refine nz ?_;refine rgp tT [0,3,9,10,11] ?_;refine Je [0,1] ?_;refine KM ?_;refine nz ?_;refine WI.orderA [0,3,9,10,11] ?_;refine rg tT [0,3,9,10,11] ?_;exact⟨⟨j+1,by rw[hst,Zg,hn];first|done|rfl,by rw[hst,<-hrow];first|done|rfl,J0⟩,by simp[ZK,Ab.get,D.val,ZE];omega⟩
    .have hA:ZAO s j= [s.getD j 0]:=by unfold ZAO ZDt ZJT slD;rw[if_neg (by clear uu;grind),if_neg (by clear uu;grind)]
     have hn:(ZAO s j).length=1:=by rw[hA];rfl
     have hrow:(ZAc s j).map Zl++ [[X.int .u8 ((s.getD j 0).toNat:Int)]]=(ZAc s j++ZAO s j).map Zl:=by rw[hA];exact Zd6 _ _
     refine rgp tT [0,3,9,10,11] ?_;refine Je [0,1] ?_;refine KM ?_;refine nz ?_;refine WI.orderA [0,3,9,10,11] ?_;refine rg tT [0,3,9,10,11] ?_;exact⟨⟨j+1,by rw[hst,Zg,hn];first|done|rfl,by rw[hst,<-hrow];first|done|rfl,J0⟩,by simp[ZK,Ab.get,D.val,ZE];omega⟩
  .have uu:=YZ uu (ZOL (ZAc s j));refine rg tT [2] ?_;refine lf ?_;obtain rfl:j=s.length:=by omega
   first|rfl|(simp only[Kw,ZOL];first|done|rfl)
def ZIa:J8->J5
 | [.x (.str s)]=>some (decide (s.length<=1000000),.x (.str (ZDL s)))
 |_=>none
theorem ZYQ: ∀args r,ZIa args=some (true,r)->ZC Tryz.prog 176 args r:=by
 intro args r h;unfold ZIa at h;split at h
 .rename_i s;simp only[Ze,Za,ZT,Zc,true_and]at h;obtain⟨h1,rfl⟩:=h;exact(ZeB s h1)
 .cases h
theorem ZeE: ∀m:Fin 16,(ZE4.take (m.val+1)).drop m.val= [dgD m.val]:=by decide+kernel
theorem ZXO(m:Nat)(h:m<16):(ZE4.take (m+1)).drop m= [dgD m]:=ZeE ⟨m,h⟩
theorem ZY0(m:Nat)(h:m<16):IntKind.u8.wrap ((m:Int)+1)=((m+1:Nat):Int):=by rw[IntWalk.u8_in _ J0];rfl
theorem ZUR(s:Tx)(j:Nat)(h:j<s.length):List.drop j (List.take ((j:Int)+1).toNat s)= [s.getD j 0]:=by
 rw[show((j:Int)+1).toNat=j+1 by omega,Jg h,Zbb (by simp;omega),ZBl (by simp;omega)];simp[h]
theorem Zc5:ZE4.length=16:=rfl
def ZNs:Tabs:=ZR (ZO) 204 ZAz
theorem ZaA:SsOk Tryz.prog ZNs:=ZG (ZD) (ZU 204) ZMR
theorem Zbi:(∀a,ZNs.q 204 a=ZAz a)/\(∀f a o,ZNs.r f a o=none)/\(∀f a o,ZNs.k f a o=none):=⟨λ_=>rfl,λ_ _ _=>rfl,λ_ _ _=>rfl⟩
theorem ZeL(s:Tx)(hl:s.length<=1000000):ZC Tryz.prog 182 [.x (.str s)] (.x (.str (ZDL s))):=by
 refine ZI.pure (fC 182 true ?_) rfl;intro C0 E0;have uu:=JW @ZAz.eq_1 @ZAz.eq_2 @Zbi;have tT:=ZaA;refine nz ?_;refine rg tT [0] ?_;refine rg tT [0,3] ?_;refine rg tT [0,3,4] ?_;refine rg tT [0,3,4,5] ?_;refine WI.loop (λφ os=> ∃(j:Nat),φ= [(0,.x (.str s)),(3,.x (.str ZE4)),(4,.x (.str (ZAc s j))),(5,.x (.int .i64 j))]/\os= []/\j<=s.length) (ZK s.length 5) ?_ (λφ os hI=> ?_)
 .exact⟨0,rfl,rfl,J0⟩
 .obtain⟨j,rfl,rfl,hj⟩:=hI;have hle:=ZFF s j;refine nz ?_;refine rg tT [0,3,4,5,10] ?_;refine cd (λh0=> ?_) (λh0=> ?_)
  .have hj4:j<s.length:=by omega
   have hst:ZAc s (j+1)=ZAc s j++ZAO s j:=rfl;have hb8:(s.getD j 0).toNat<256:=ZD0 _;have q0:(decide (0<=((s.getD j 0).toNat:Int)))=true:=ZL J0;have uu:=YZ uu q0;refine rg tT [0,3,4,5,6] ?_;refine rg tT [0,3,4,5,6,23] ?_;refine cd (λh1=> ?_) (λh1=> ?_)
   .have hA:ZAO s j= [92,dgD ((s.getD j 0).toNat/16),dgD ((s.getD j 0).toNat % 16)]:=by unfold ZAO ZDt ZJT;rw[if_pos (by clear uu;grind)]
    have uu:=ξn uu (ξn (show decide (((s.getD j 0).toNat/16:Nat)<=(((s.getD j 0).toNat/16+1:Nat):Int))=true from ZL J0) (ξn (show decide (((s.getD j 0).toNat/16+1:Nat)<=((16:Nat):Int))=true from ZL J0) (ξn (Zda _ hb8) (ξn (Zdw (s.getD j 0).toNat) (ξn (ZXO ((s.getD j 0).toNat/16) J0) (ξn (ZXO ((s.getD j 0).toNat % 16) J0) (ξn (ZY0 ((s.getD j 0).toNat/16) J0) (ξn (ZY0 ((s.getD j 0).toNat % 16) J0) Zc5))))))));refine WI.dregB tT [0,3,4,5] ?_;refine YD ?_;refine KR ?_
    iterate 2 refine YD ?_
    refine KR ?_;refine YD ?_
    iterate 4 refine KR ?_
    iterate 2 refine YD ?_
    refine KR ?_;refine YD ?_
    iterate 4 refine KR ?_
    refine YD ?_;refine dN ?_;refine nz ?_;refine rg tT [0,3,4,5] ?_;exact⟨⟨j+1,by rw[hst,hA];first|done|rfl|simp,rfl,J0⟩,by simp[ZK,Ab.get,D.val,ZE];omega⟩
   .refine rg tT [0,3,4,5,48] ?_;refine cd (λh2=> ?_) (λh2=> ?_)
    .have hA:ZAO s j= [92,s.getD j 0]:=by unfold ZAO ZDt ZJT slD;rw[if_neg (by clear uu;grind),if_pos (by clear uu;grind)]
     have uu:=YZ uu (ZUR s j hj4);refine rg tT [0,3,4,5] ?_;refine rg tT [0,3,4,5] ?_;exact⟨⟨j+1,by rw[hst,hA];first|done|rfl|simp,rfl,J0⟩,by simp[ZK,Ab.get,D.val,ZE];omega⟩
    .have hA:ZAO s j= [s.getD j 0]:=by unfold ZAO ZDt ZJT slD;rw[if_neg (by clear uu;grind),if_neg (by clear uu;grind)]
     have uu:=YZ uu (ZUR s j hj4);refine rg tT [0,3,4,5] ?_;refine rg tT [0,3,4,5] ?_;exact⟨⟨j+1,by rw[hst,hA];first|done|rfl|simp,rfl,J0⟩,by simp[ZK,Ab.get,D.val,ZE];omega⟩
  .refine rg tT [2] ?_;refine lf ?_;obtain rfl:j=s.length:=by omega
   rfl
def ZIZ:J8->J5
 | [.x (.str s)]=>some (decide (s.length<=1000000),.x (.str (ZDL s)))
 |_=>none
theorem ZZP: ∀args r,ZIZ args=some (true,r)->ZC Tryz.prog 182 args r:=by
 intro args r h;unfold ZIZ at h;split at h
 .rename_i s;simp only[Ze,Za,ZT,Zc,true_and]at h;obtain⟨h1,rfl⟩:=h;exact(ZeL s h1)
 .cases h
def QI(c:UInt8):List Tx->Tx
 | []=> []
 | [x]=>x
 |x::y::r=>x++c::QI c (y::r)
theorem ZDy(c:UInt8): ∀l,Lib.join l [c]=QI c l
 | []=>rfl
 | [x]=>by rw[Lib.join_one];rfl
 |x::y::r=>by
  have:=ZDy c (y::r);simp only[Lib.join,List.intercalate,List.intersperse_cons_cons,ZSi,QI]at this|-;rw[this];rfl
theorem ZAx(c:UInt8){x:Tx}{l:List Tx}(h:l≠ []):QI c (x::l)=x++c::QI c l:=by
 cases l with
 |nil=>exact absurd rfl h
 |cons y r=>rfl
theorem ZJf(c:UInt8): ∀(l:List Tx) (x:Tx),l≠ []->QI c (l++ [x])=QI c l++ [c]++x
 | [],x,h=>absurd rfl h
 | [y],x,_=>by simp[QI]
 |y::z::r,x,_=>by
  have:=ZJf c (z::r) x J1;have e:QI c (y::z::r)=y++c::QI c (z::r):=rfl;have e2:QI c (y::(z::r++ [x]))=y++c::QI c (z::r++ [x]):=ZAx c J1;rw[Qi,e2,this,e];simp
theorem ZFD(c:UInt8)(m:Nat): ∀l:List Tx,(∀x∈l,x.length<=m)->(QI c l).length<=l.length*(m+1)
 | [],_=>by simp[QI]
 | [x],h=>by have:=h x J1;simp[QI];omega
 |x::y::r,h=>by
  have h1:=ZFD c m (y::r) (λz hz=>h z (ZBB _ hz));have h2:=h x J1;rw[ZAx c J1,Zg,JG,JG,Jm];omega
theorem ZJx(l:List Tx)(x:Tx):rows ZA l++ [[X.str x]]=rows ZA (l++ [x]):=by simp[rows,ZA]
def QT(p:Av):Tx:=p.1++ [61]++ZDL p.2
def Yn(r:List Av):Tx:=QI 43 (r.map QT)
def KV(d:Dn):Tx:=QI 44 (d.map Yn)
def QU(d:Dn):Tx×Int:=if Jb d≠0 then([],Jb d)else if(KV d).length>4096 then([],3)else(KV d,0)
theorem ZRe(r:List Av): ∀(n j:Nat),okP r n=true->j<n->ZAB r j=true
 |n+1,j,h,hj=>by
  rw[okP,ZT]at h;by_cases e:j=n
  .subst e;exact h.2
  .exact ZRe r n j h.1 J0
theorem ZBz{r:List Av}(h:Yh r=true):r.length<=8/\1<=r.length/\ ∀p∈r,p.1.length<=64/\p.2.length<=256:=by
 unfold Yh at h;rw[ZT,Zc]at h;refine⟨h.2.2,h.2.1,λp hp=> ?_⟩;obtain⟨j,hj,rfl⟩:=ZVs hp;have h1:=ZRe r r.length j h.1 hj;unfold ZAB at h1;rw[ZPQ,show r.getD j ([],[])=r[j] by simp[hj]]at h1;simp only[ZT,Zc]at h1;exact⟨h1.1.1.2,h1.2.2.1⟩
theorem ZEL{d:Dn}(h:Jb d=0):d.length<=32/\ ∀r∈d,Yh r=true:=by
 unfold Jb at h;split at h
 .cases h
 .split at h
  .rename_i h2;exact⟨J0,Yc.1 h2⟩
  .cases h
theorem ZTE{p:Av}(h:p.1.length<=64/\p.2.length<=256):(QT p).length<=840:=by
 have:=ZFF p.2 p.2.length;unfold QT ZDL;simp only[Zg,JG,ξN];omega
theorem ZJr{r:List Av}(h:Yh r=true):(Yn r).length<=6800:=by
 obtain⟨h1,-,h2⟩:=ZBz h;have:=ZFD 43 840 (r.map QT) (λx hx=>by obtain⟨p,hp,rfl⟩:=YT.1 hx;exact ZTE (h2 p hp));rw[Yb]at this;unfold Yn;omega
theorem Zag{d:Dn}(h:Jb d=0):(KV d).length<=250000:=by
 obtain⟨h1,h2⟩:=ZEL h;have:=ZFD 44 6800 (d.map Yn) (λx hx=>by obtain⟨r,hr,rfl⟩:=YT.1 hx;exact ZJr (h2 r hr));rw[Yb]at this;unfold KV;omega
def ZE0:Tabs:=Jt (ZR (ZR (ZR (ZO) 168 ZDa) 176 ZIa) 97 ZAV) 97 (Qz ZAV)
theorem ZV6:SsOk Tryz.prog ZE0:=Yz (ZG (ZG (ZG (ZD) (ZU 168) ZQX) (ZU 176) ZYQ) ZFT ZHK) ZFT (ZEI ZHK)
theorem ZY2:(∀a,ZE0.q 168 a=ZDa a)/\(∀a,ZE0.q 176 a=ZIa a)/\(∀a,ZE0.q 97 a=ZAV a)/\(∀a o,ZE0.t 97 a o=Yo (Qz ZAV) a o)/\(∀f a o,ZE0.r f a o=none)/\(∀f a o,ZE0.k f a o=none):=⟨λ_=>rfl,λ_=>rfl,λ_=>rfl,λ_ _=>rfl,λ_ _ _=>rfl,λ_ _ _=>rfl⟩
set_option maxHeartbeats 1000000 in
theorem Zgw(d:Dn)(hb:smD d):ZC Tryz.prog 143 [.x (.sl (rows JV d))] (.tup [.x (.str (QU d).1),.x (.int .i64 (QU d).2)]):=by
 rcases hq:QU d with⟨u,e⟩
 unfold QU at hq;have hsd:decide (smD d)=true:=ZL hb;refine ZI.pure (fC 143 true ?_) rfl;intro C0 E0;have uu:=KJ @ZDa.eq_1 @ZDa.eq_2 @ZIa.eq_1 @ZIa.eq_2 @ZAV.eq_1 @ZAV.eq_2 @ZLR @ZO6 (JW hsd @ZY2 @Qz.eq_1);have tT:=ZV6;refine nz ?_;refine WI.regB tT [0] ?_
 iterate 2 refine oS ?_
 refine oN ?_;refine nz ?_;refine WI.regB tT [0,4] ?_;refine oS ?_;refine oC (hok:=by first|exact se|(exact ZL J0)|(exact ZL (by simp;omega))|exact sd) ?_;refine oS ?_;refine oN ?_;refine nz ?_;refine WI.regB tT [0,4,15] ?_;refine oS ?_;refine oG (hok:=by first|exact se|(exact ZL J0)|(exact ZL (by simp;omega))|exact sd) ?_;refine oN ?_;refine nz ?_;refine cd (λh0=> ?_) (λh0=> ?_)
 .refine WI.regB tT [2,3] ?_
  iterate 3 refine oS ?_
  refine oN ?_;refine nz ?_;refine lf ?_;rw[if_pos (by simpa using h0)]at hq;cases hq;rfl
 .rw[if_neg (by simpa using h0)]at hq;have hck:Jb d=0:=by simpa using h0
  obtain⟨hd32,hmay⟩:=ZEL hck;refine WI.regB tT [0,5] ?_;refine oS ?_;refine oN ?_;refine nz ?_;refine WI.regB tT [5,17,18,19] ?_;refine oS ?_;refine oG (hok:=by first|exact se|(exact ZL J0)|(exact ZL (by simp;omega))|exact sd) ?_;refine oS ?_;refine oN ?_;refine nz ?_;refine WI.ownA 5 9 1 ?_;refine WI.loop (λφ os=> ∃(j:Nat),φ= [(5,.ref 0 j 0 j),(17,.x (.sl (rows JV d))),(18,.x (.int .i64 d.length)),(19,.x (.int .i64 j))]/\os= [.rows false 9 1 (rows ZA ((d.take j).map Yn))]/\j<=d.length) (ZK d.length 19) ?_ (λφ os hI=> ?_)
  .exact⟨0,rfl,rfl,J0⟩
  .obtain⟨j,rfl,rfl,hj⟩:=hI;refine nz ?_;refine WI.regB tT [5,17,18,19,20] ?_;refine oG (hok:=by first|exact se|(exact ZL J0)|(exact ZL (by simp;omega))|exact sd) ?_;refine oN ?_;refine nz ?_;refine cd (λh1=> ?_) (λh1=> ?_)
   .have hj4:j<d.length:=by omega
    have hmj:Yh (d.getD j [])=true:=by rw[show d.getD j []=d[j] by simp[hj4]];exact hmay _ (YM hj4)
    obtain⟨hr8,-,hpb⟩:=ZBz hmj;have hpl:=ZJr hmj;have hst:(d.take (j+1)).map Yn=(d.take j).map Yn++ [Yn (d.getD j [])]:=by rw[Jg hj4,Ji,show d.getD j []=d[j] by simp[hj4]];rfl
    have hrow:=ZE1 d j hj4;generalize d.getD j []=r at hmj hr8 hpb hpl hst hrow|-;have uu:=YZ uu hrow;refine WI.regB tT [5,7,17,18,19] ?_
    iterate 2 refine oG (hok:=by first|exact se|(exact ZL J0)|(exact ZL (by simp;omega))|exact sd) ?_
    refine oS ?_;refine oN ?_;refine nz ?_;refine WI.regB tT [5,7,8,17,18,19] ?_;refine oS ?_;refine oN ?_;refine nz ?_;refine WI.regB tT [5,8,17,18,19,23,24,25] ?_;refine oS ?_;refine oG (hok:=by first|exact se|(exact ZL J0)|(exact ZL (by simp;omega))|exact sd) ?_;refine oS ?_;refine oN ?_;refine nz ?_;refine WI.ownA 8 9 1 ?_;refine WI.orderA [5,8,17,18,19,23,24,25] ?_;refine WI.loop (λφ os=> ∃(k:Nat),φ= [(5,.ref 0 j 0 j),(8,.ref 1 k 0 k),(17,.x (.sl (rows JV d))),(18,.x (.int .i64 d.length)),(19,.x (.int .i64 j)),(23,.x (.sl (rows Zn r))),(24,.x (.int .i64 r.length)),(25,.x (.int .i64 k))]/\os= [.rows false 9 1 (rows ZA ((d.take j).map Yn)),.rows false 9 1 (rows ZA ((r.take k).map QT))]/\k<=r.length) (ZK r.length 25) ?_ (λφ os hI=> ?_)
    .exact⟨0,rfl,rfl,J0⟩
    .obtain⟨k,rfl,rfl,hk⟩:=hI;refine nz ?_;refine WI.regB tT [5,8,17,18,19,23,24,25,26] ?_;refine oG (hok:=by first|exact se|(exact ZL J0)|(exact ZL (by simp;omega))|exact sd) ?_;refine oN ?_;refine nz ?_;refine cd (λh2=> ?_) (λh2=> ?_)
     .have hk4:k<r.length:=by omega
      have har:=ZC2 r k hk4;have hpk:(r.getD k ([],[])).1.length<=64/\(r.getD k ([],[])).2.length<=256:=by rw[show r.getD k ([],[])=r[k] by simp[hk4]];exact hpb _ (YM hk4)
      have hel:=ZFF (r.getD k ([],[])).2 (r.getD k ([],[])).2.length;have hel2:(ZDL (r.getD k ([],[])).2).length<=800:=by unfold ZDL;omega
      have hsk:(r.take (k+1)).map QT=(r.take k).map QT++ [QT (r.getD k ([],[]))]:=by rw[Jg hk4,Ji,show r.getD k ([],[])=r[k] by simp[hk4]];rfl
      have hsc:decide ((r.getD k ([],[])).2.length<=1000000)=true:=ZL J0;have uu:=JW uu har hsc;refine WI.regB tT [5,8,10,17,18,19,23,24,25] ?_
      iterate 2 refine oG (hok:=by first|exact se|(exact ZL J0)|(exact ZL (by simp;omega))|exact sd) ?_
      refine oG ?_;refine oG (hok:=by first|exact se|(exact ZL J0)|(exact ZL (by simp;omega))|exact sd) ?_;refine oN ?_;refine nz ?_;refine WI.post ?_;refine WI.dregB tT [5,8,17,18,19,23,24,25] ?_
      iterate 2 refine YD ?_
      refine JO (hok:=by first|exact se|(exact ZL J0)|(exact ZL (by simp;omega))|exact sd) ?_;refine KR (hok:=by first|exact se|(exact ZL J0)|(exact ZL (by simp;omega))|exact sd) ?_;refine YD ?_;refine JO (hok:=by first|exact se|(exact ZL J0)|(exact ZL (by simp;omega))|exact sd) ?_;refine dQC (hok:=by first|exact se|(exact ZL J0)|(exact ZL (by simp;omega))|exact sd) ?_;refine KR (hok:=by first|exact se|(exact ZL J0)|(exact ZL (by simp;omega))|exact sd) ?_
      iterate 2 refine dAG (hok:=by first|exact se|(exact ZL J0)|(exact ZL (by simp;omega))|exact sd) ?_
      refine YD ?_;refine dP ?_;refine Je [0,1] ?_;refine KM ?_;refine nz ?_;refine WI.regB tT [5,8,17,18,19,23,24,25] ?_;refine oG (hok:=by first|exact se|(exact ZL J0)|(exact ZL (by simp;omega))|exact sd) ?_;refine oS ?_;refine oN ?_;refine nz ?_;exact⟨⟨k+1,rfl,by rw[hsk,<-ZJx];first|done|rfl,J0⟩,by simp[ZK,Ab.get,D.val,ZE];omega⟩
     .obtain rfl:k=r.length:=by omega
      rw[JS];have hjl:decide ((Lib.join (r.map QT) [43]).length<=140737488355328/\(r.map QT).length<=140737488355328)=true:=ZL ⟨by rw[ZDy];unfold Yn at hpl;omega,by rw[Yb];omega⟩;have e1:(r.map QT).length=r.length:=Yb ..;have e2:(r.map QT).take r.length=r.map QT:=YX J0;have e3:Lib.join (r.map QT) [43]=Yn r:=ZDy 43 _;have uu:=ξ5 uu e1 e2 hjl e3;refine WI.post ?_;refine WI.regB tT [5,17,18,19] ?_
      iterate 2 refine oS ?_
      refine oC (hok:=by first|exact se|(exact ZL J0)|(exact ZL (by simp;omega))|exact sd) ?_
      iterate 2 refine oG (hok:=by first|exact se|(exact ZL J0)|(exact ZL (by simp;omega))|exact sd) ?_
      refine oS ?_;refine oP ?_;refine Je [0] ?_;refine KM ?_;refine nz ?_;refine WI.orderA [5,17,18,19] ?_;refine WI.regB tT [5,17,18,19] ?_;refine oG (hok:=by first|exact se|(exact ZL J0)|(exact ZL (by simp;omega))|exact sd) ?_;refine oS ?_;refine oN ?_;refine nz ?_;exact⟨⟨j+1,rfl,by rw[hst,<-ZJx];first|done|rfl,J0⟩,by simp[ZK,Ab.get,D.val,ZE];omega⟩
   .obtain rfl:j=d.length:=by omega
    rw[JS];have hnl:=Zag hck;have hjl:decide ((Lib.join (d.map Yn) [44]).length<=140737488355328/\(d.map Yn).length<=140737488355328)=true:=ZL ⟨by rw[ZDy];unfold KV at hnl;omega,by rw[Yb];omega⟩;have e1:(d.map Yn).length=d.length:=Yb ..;have e2:(d.map Yn).take d.length=d.map Yn:=YX J0;have e3:Lib.join (d.map Yn) [44]=KV d:=ZDy 44 _;have uu:=ξ5 uu e1 e2 hjl e3;refine WI.regB tT [11] ?_;refine oS ?_;refine oC (hok:=by first|exact se|(exact ZL J0)|(exact ZL (by simp;omega))|exact sd) ?_;refine oS ?_;refine oN ?_;refine nz ?_;refine WI.regB tT [11,50] ?_;refine oS ?_
    iterate 2 refine oG (hok:=by first|exact se|(exact ZL J0)|(exact ZL (by simp;omega))|exact sd) ?_
    refine oN ?_;refine nz ?_;refine cd (λh3=> ?_) (λh3=> ?_)
    .refine WI.regB tT [2,3] ?_
     iterate 2 refine oS ?_
     refine oN ?_;refine nz ?_;refine lf ?_;rw[if_pos J0]at hq;cases hq;rfl
    .refine WI.regB tT [2,3] ?_
     iterate 3 refine oS ?_
     refine oN ?_;refine nz ?_;refine lf ?_;rw[if_neg J0]at hq;cases hq;rfl
def Qo:J8->J5
 | [.x (.sl R)]=>(ZV JV R).bind λd=>some (decide (smD d),.tup [.x (.str (QU d).1),.x (.int .i64 (QU d).2)])
 |_=>none
theorem ZG4: ∀args r,Qo args=some (true,r)->ZC Tryz.prog 143 args r:=by
 intro args r h;unfold Qo at h;split at h
 .rename_i R;obtain⟨d,hr0,h⟩:=Zp h;simp only[Ze,Za,ZT,Zc,true_and]at h;obtain⟨h1,rfl⟩:=h;rw[<-ZY ZD6 hr0];exact(Zgw d h1)
 .cases h
def ZLv:Tabs:=ZR (ZO) 182 ZIZ
theorem ZWS:SsOk Tryz.prog ZLv:=ZG (ZD) (ZU 182) ZZP
theorem ZX2:(∀a,ZLv.q 182 a=ZIZ a)/\(∀f a o,ZLv.r f a o=none)/\(∀f a o,ZLv.k f a o=none):=⟨λ_=>rfl,λ_ _ _=>rfl,λ_ _ _=>rfl⟩
theorem ZP8(r:List Av)(k:Nat)(h:k<r.length):Yn (r.take (k+1))=(if k=0 then []else Yn (r.take k)++ [43])++QT (r.getD k ([],[])):=by
 have e:(r.take (k+1)).map QT=(r.take k).map QT++ [QT (r.getD k ([],[]))]:=by rw[Jg h,Ji,show r.getD k ([],[])=r[k] by simp[h]];rfl
 unfold Yn;rw[e];split
 .rename_i h0;subst h0;simp[QI]
 .rw[ZJf _ _ _ (by intro hh;have:=congrArg List.length hh;rw[Yb,Yu,ξN]at this;omega)]
theorem Zdy(r:List Av)(hr:Yh r=true):ZC Tryz.prog 157 [.x (.sl (rows Zn r))] (.x (.str (Yn r))):=by
 obtain⟨hr8,-,hpb⟩:=ZBz hr;have hpl: ∀k,(Yn (r.take k)).length<=6800:=λk=>by
  have:=ZFD 43 840 ((r.take k).map QT) (λx hx=>by obtain⟨p,hp,rfl⟩:=YT.1 hx;exact ZTE (hpb p (ZBL hp)));rw[Yb,Yu]at this;have h2:min k r.length<=8:=by omega
  unfold Yn;omega
 refine ZI.pure (fC 157 true ?_) rfl;intro C0 E0;have uu:=JW @ZIZ.eq_1 @ZIZ.eq_2 @ZX2;have tT:=ZWS;refine nz ?_;refine WI.regB tT [0] ?_;refine oS ?_;refine oN ?_;refine nz ?_;refine WI.regB tT [0,3] ?_;refine oS ?_;refine oN ?_;refine nz ?_;refine WI.regB tT [0,3,4] ?_;refine oS ?_;refine oN ?_;refine nz ?_;refine WI.loop (λφ os=> ∃(k:Nat),φ= [(0,.x (.sl (rows Zn r))),(3,.x (.str (Yn (r.take k)))),(4,.x (.int .i64 k))]/\os= []/\k<=r.length) (ZK r.length 4) ?_ (λφ os hI=> ?_)
 .exact⟨0,rfl,rfl,J0⟩
 .obtain⟨k,rfl,rfl,hk⟩:=hI;refine nz ?_;refine WI.regB tT [0,3,4,8] ?_
  iterate 2 refine oS ?_
  iterate 2 refine oG (hok:=by first|exact se|(exact ZL J0)|(exact ZL (by simp;omega))|exact sd) ?_
  refine oN ?_;refine nz ?_;refine cd (λh0=> ?_) (λh0=> ?_)
  .have hk4:k<r.length:=by omega
   have hlk:=hpl k;have har:=ZC2 r k hk4;have hpk:(r.getD k ([],[])).1.length<=64/\(r.getD k ([],[])).2.length<=256:=by rw[show r.getD k ([],[])=r[k] by simp[hk4]];exact hpb _ (YM hk4)
   have hel:=ZFF (r.getD k ([],[])).2 (r.getD k ([],[])).2.length;have hel2:(ZDL (r.getD k ([],[])).2).length<=800:=by unfold ZDL;omega
   have hsc:decide ((r.getD k ([],[])).2.length<=1000000)=true:=ZL J0;have uu:=JW uu har hsc;refine WI.regB tT [0,3,4,12] ?_;refine oS ?_;refine oG (hok:=by first|exact se|(exact ZL J0)|(exact ZL (by simp;omega))|exact sd) ?_;refine oN ?_;refine nz ?_;refine cd (λh1=> ?_) (λh1=> ?_)
   .have hst:Yn (r.take (k+1))=Yn (r.take k)++ [43]++(r.getD k ([],[])).1++ [61]++ZDL (r.getD k ([],[])).2:=by rw[ZP8 r k hk4,if_neg J0];unfold QT;simp
    refine WI.regB tT [0,3,4] ?_;refine oS ?_;refine oG (hok:=by first|exact se|(exact ZL J0)|(exact ZL (by simp;omega))|exact sd) ?_;refine oS ?_;refine oN ?_;refine nz ?_;refine WI.dregB tT [0,3,4] ?_
    iterate 3 refine YD ?_
    refine JO (hok:=by first|exact se|(exact ZL J0)|(exact ZL (by simp;omega))|exact sd) ?_;refine YD ?_;refine JO (hok:=by first|exact se|(exact ZL J0)|(exact ZL (by simp;omega))|exact sd) ?_
    iterate 2 refine KR (hok:=by first|exact se|(exact ZL J0)|(exact ZL (by simp;omega))|exact sd) ?_
    iterate 2 refine YD ?_
    refine JO (hok:=by first|exact se|(exact ZL J0)|(exact ZL (by simp;omega))|exact sd) ?_;refine YD ?_;refine JO (hok:=by first|exact se|(exact ZL J0)|(exact ZL (by simp;omega))|exact sd) ?_;refine dQC (hok:=by first|exact se|(exact ZL J0)|(exact ZL (by simp;omega))|exact sd) ?_;refine KR (hok:=by first|exact se|(exact ZL J0)|(exact ZL (by simp;omega))|exact sd) ?_;refine YD ?_;refine dN ?_;refine nz ?_;refine WI.regB tT [0,3,4] ?_;refine oS ?_;refine oG (hok:=by first|exact se|(exact ZL J0)|(exact ZL (by simp;omega))|exact sd) ?_;refine oS ?_;refine oN ?_;refine nz ?_;exact⟨⟨k+1,by rw[hst];first|done|rfl,rfl,J0⟩,by simp[ZK,Ab.get,D.val,ZE];omega⟩
   .have hst:Yn (r.take (k+1))=Yn (r.take k)++(r.getD k ([],[])).1++ [61]++ZDL (r.getD k ([],[])).2:=by
     rw[ZP8 r k hk4,if_pos J0];obtain rfl:k=0:=by omega
     unfold QT;simp[Yn,QI]
    refine WI.dregB tT [0,3,4] ?_
    iterate 3 refine YD ?_
    refine JO (hok:=by first|exact se|(exact ZL J0)|(exact ZL (by simp;omega))|exact sd) ?_;refine YD ?_;refine JO (hok:=by first|exact se|(exact ZL J0)|(exact ZL (by simp;omega))|exact sd) ?_
    iterate 2 refine KR (hok:=by first|exact se|(exact ZL J0)|(exact ZL (by simp;omega))|exact sd) ?_
    iterate 2 refine YD ?_
    refine JO (hok:=by first|exact se|(exact ZL J0)|(exact ZL (by simp;omega))|exact sd) ?_;refine YD ?_;refine JO (hok:=by first|exact se|(exact ZL J0)|(exact ZL (by simp;omega))|exact sd) ?_;refine dQC (hok:=by first|exact se|(exact ZL J0)|(exact ZL (by simp;omega))|exact sd) ?_;refine KR (hok:=by first|exact se|(exact ZL J0)|(exact ZL (by simp;omega))|exact sd) ?_;refine YD ?_;refine dN ?_;refine nz ?_;refine WI.regB tT [0,3,4] ?_;refine oS ?_;refine oG (hok:=by first|exact se|(exact ZL J0)|(exact ZL (by simp;omega))|exact sd) ?_;refine oS ?_;refine oN ?_;refine nz ?_;exact⟨⟨k+1,by rw[hst];first|done|rfl,rfl,J0⟩,by simp[ZK,Ab.get,D.val,ZE];omega⟩
  .refine WI.regB tT [2] ?_
   iterate 2 refine oS ?_
   refine oN ?_;refine nz ?_;refine lf ?_;obtain rfl:k=r.length:=by omega
   rw[JS]
def ZDV:J8->J5
 | [.x (.sl R)]=>(ZV Zn R).bind λr=>some (decide (Yh r=true),.x (.str (Yn r)))
 |_=>none
theorem ZQ0: ∀args r,ZDV args=some (true,r)->ZC Tryz.prog 157 args r:=by
 intro args r h;unfold ZDV at h;split at h
 .rename_i R;obtain⟨r,hr0,h⟩:=Zp h;simp only[Ze,Za,ZT,Zc,true_and]at h;obtain⟨h1,rfl⟩:=h;rw[<-ZY ZEG hr0];exact(Zdy r h1)
 .cases h
theorem ZQz(d:Dn)(k:Nat)(h:k<d.length):KV (d.take (k+1))=(if k=0 then []else KV (d.take k)++ [44])++Yn (d.getD k []):=by
 have e:(d.take (k+1)).map Yn=(d.take k).map Yn++ [Yn (d.getD k [])]:=by rw[Jg h,Ji,show d.getD k []=d[k] by simp[h]];rfl
 unfold KV;rw[e];split
 .rename_i h0;subst h0;simp[QI]
 .rw[ZJf _ _ _ (by intro hh;have:=congrArg List.length hh;rw[Yb,Yu,ξN]at this;omega)]
def ZI1:Tabs:=ZR (ZR (ZO) 160 ZDg) 157 ZDV
theorem ZWM:SsOk Tryz.prog ZI1:=ZG (ZG (ZD) (ZU 160) ZQg) (ZU 157) ZQ0
theorem ZZT:(∀a,ZI1.q 160 a=ZDg a)/\(∀a,ZI1.q 157 a=ZDV a)/\(∀f a o,ZI1.r f a o=none)/\(∀f a o,ZI1.k f a o=none):=⟨λ_=>rfl,λ_=>rfl,λ_ _ _=>rfl,λ_ _ _=>rfl⟩
theorem Zhl(d:Dn)(hb:smD d)(hld:d.length<=1000000)(hlr: ∀r∈d,r.length<=1000000):ZC Tryz.prog 145 [.x (.sl (rows JV d))] (.tup [.x (.str (QU d).1),.x (.int .i64 (QU d).2)]):=by
 rcases hq:QU d with⟨u,e⟩
 unfold QU at hq;have hsd:(decide (smD d)&&(decide (d.length<=1000000)&&decide (∀r∈d,r.length<=1000000)))=true:=by rw[ZL hb,ZL hld,ZL hlr];rfl
 refine ZI.pure (fC 145 true ?_) rfl;intro C0 E0;have uu:=ξ8 @ZDg.eq_1 @ZDg.eq_2 @ZDV.eq_1 @ZDV.eq_2 @ZLR @ZO6 hsd @ZZT;have tT:=ZWM;refine nz ?_;refine WI.regB tT [0] ?_
 iterate 2 refine oS ?_
 refine oN ?_;refine nz ?_;refine WI.regB tT [0,4] ?_;refine oS ?_;refine oC (hok:=by first|exact se|(exact ZL J0)|(exact ZL (by simp;omega))|exact sd) ?_;refine oS ?_;refine oN ?_;refine nz ?_;refine WI.regB tT [0,4,10] ?_;refine oS ?_;refine oG (hok:=by first|exact se|(exact ZL J0)|(exact ZL (by simp;omega))|exact sd) ?_;refine oN ?_;refine nz ?_;refine cd (λh0=> ?_) (λh0=> ?_)
 .refine WI.regB tT [2,3] ?_
  iterate 3 refine oS ?_
  refine oN ?_;refine nz ?_;refine lf ?_;rw[if_pos (by simpa using h0)]at hq;cases hq;rfl
 .rw[if_neg (by simpa using h0)]at hq;have hck:Jb d=0:=by simpa using h0
  obtain⟨hd32,hmay⟩:=ZEL hck;have hpl: ∀k,(KV (d.take k)).length<=250000:=λk=>by
   have:=ZFD 44 6800 ((d.take k).map Yn) (λx hx=>by obtain⟨p,hp,rfl⟩:=YT.1 hx;exact ZJr (hmay p (ZBL hp)));rw[Yb,Yu]at this;have h2:min k d.length<=32:=by omega
   unfold KV;omega
  refine WI.regB tT [0,5] ?_;refine oS ?_;refine oN ?_;refine nz ?_;refine WI.regB tT [0,5,6] ?_;refine oS ?_;refine oN ?_;refine nz ?_;refine WI.loop (λφ os=> ∃(k:Nat),φ= [(0,.x (.sl (rows JV d))),(5,.x (.str (KV (d.take k)))),(6,.x (.int .i64 k))]/\os= []/\k<=d.length) (ZK d.length 6) ?_ (λφ os hI=> ?_)
  .exact⟨0,rfl,rfl,J0⟩
  .obtain⟨k,rfl,rfl,hk⟩:=hI;refine nz ?_;refine WI.regB tT [0,5,6,15] ?_
   iterate 2 refine oS ?_
   iterate 2 refine oG (hok:=by first|exact se|(exact ZL J0)|(exact ZL (by simp;omega))|exact sd) ?_
   refine oN ?_;refine nz ?_;refine cd (λh1=> ?_) (λh1=> ?_)
   .have hk4:k<d.length:=by omega
    have hlk:=hpl k;have hrow:=ZE1 d k hk4;have hmk:Yh (d.getD k [])=true:=by rw[show d.getD k []=d[k] by simp[hk4]];exact hmay _ (YM hk4)
    have hpk:=ZJr hmk;have uu:=JW uu hrow (ZL hmk);refine WI.regB tT [0,5,6,19] ?_;refine oS ?_;refine oG (hok:=by first|exact se|(exact ZL J0)|(exact ZL (by simp;omega))|exact sd) ?_;refine oN ?_;refine nz ?_;refine cd (λh2=> ?_) (λh2=> ?_)
    .have hst:KV (d.take (k+1))=KV (d.take k)++ [44]++Yn (d.getD k []):=by rw[ZQz d k hk4,if_neg J0]
     refine WI.regB tT [0,5,6] ?_;refine oS ?_;refine oG (hok:=by first|exact se|(exact ZL J0)|(exact ZL (by simp;omega))|exact sd) ?_;refine oS ?_;refine oN ?_;refine nz ?_;refine WI.regB tT [0,5,6] ?_
     iterate 3 refine oS ?_
     iterate 2 refine oG (hok:=by first|exact se|(exact ZL J0)|(exact ZL (by simp;omega))|exact sd) ?_
     refine oC (hok:=by first|exact se|(exact ZL J0)|(exact ZL (by simp;omega))|exact sd) ?_;refine oG (hok:=by first|exact se|(exact ZL J0)|(exact ZL (by simp;omega))|exact sd) ?_;refine oS ?_;refine oN ?_;refine nz ?_;refine WI.regB tT [0,5,6] ?_;refine oS ?_;refine oG (hok:=by first|exact se|(exact ZL J0)|(exact ZL (by simp;omega))|exact sd) ?_;refine oS ?_;refine oN ?_;refine nz ?_;exact⟨⟨k+1,by rw[hst];first|done|rfl,rfl,J0⟩,by simp[ZK,Ab.get,D.val,ZE];omega⟩
    .have hst:KV (d.take (k+1))=KV (d.take k)++Yn (d.getD k []):=by
      rw[ZQz d k hk4,if_pos J0];obtain rfl:k=0:=by omega
      simp[KV,QI]
     refine WI.regB tT [0,5,6] ?_
     iterate 3 refine oS ?_
     iterate 2 refine oG (hok:=by first|exact se|(exact ZL J0)|(exact ZL (by simp;omega))|exact sd) ?_
     refine oC (hok:=by first|exact se|(exact ZL J0)|(exact ZL (by simp;omega))|exact sd) ?_;refine oG (hok:=by first|exact se|(exact ZL J0)|(exact ZL (by simp;omega))|exact sd) ?_;refine oS ?_;refine oN ?_;refine nz ?_;refine WI.regB tT [0,5,6] ?_;refine oS ?_;refine oG (hok:=by first|exact se|(exact ZL J0)|(exact ZL (by simp;omega))|exact sd) ?_;refine oS ?_;refine oN ?_;refine nz ?_;exact⟨⟨k+1,by rw[hst];first|done|rfl,rfl,J0⟩,by simp[ZK,Ab.get,D.val,ZE];omega⟩
   .obtain rfl:k=d.length:=by omega
    have hlk:=hpl d.length;rw[JS]at hlk|-;refine WI.regB tT [5,31] ?_;refine oS ?_
    iterate 2 refine oG (hok:=by first|exact se|(exact ZL J0)|(exact ZL (by simp;omega))|exact sd) ?_
    refine oN ?_;refine nz ?_;refine cd (λh3=> ?_) (λh3=> ?_)
    .refine WI.regB tT [2,3] ?_
     iterate 2 refine oS ?_
     refine oN ?_;refine nz ?_;refine lf ?_;rw[if_pos J0]at hq;cases hq;rfl
    .refine WI.regB tT [2,3] ?_
     iterate 3 refine oS ?_
     refine oN ?_;refine nz ?_;refine lf ?_;rw[if_neg J0]at hq;cases hq;rfl
def ZHu:J8->J5
 | [.x (.sl R)]=>(ZV JV R).bind λd=>some (decide (smD d)&&(decide (d.length<=1000000)&&(decide (∀r∈d,r.length<=1000000))),.tup [.x (.str (QU d).1),.x (.int .i64 (QU d).2)])
 |_=>none
theorem ZSU: ∀args r,ZHu args=some (true,r)->ZC Tryz.prog 145 args r:=by
 intro args r h;unfold ZHu at h;split at h
 .rename_i R;obtain⟨d,hr0,h⟩:=Zp h;simp only[Ze,Za,ZT,Zc,true_and]at h;obtain⟨⟨h1,h2,h3⟩,rfl⟩:=h;rw[<-ZY ZD6 hr0];exact(Zhl d h1 h2 h3)
 .cases h
end Go.Proofs.YtpjfdjcejamebaaGreatDoor
end
section
namespace Go.Proofs
open Go.Shelf Go.RowKit Go.Lib Go.Sort
def encAv(x:ByteArray×ByteArray):List Value:= [.string x.1,.string x.2]
def cmpS(a b:ByteArray):Int:=if Op.bytesLess a.toList b.toList=true then-1 else if Op.bytesLess b.toList a.toList=true then 1 else 0
def cmpAv(x y:ByteArray×ByteArray):Int:=cmpS x.1 y.1
theorem ZbF(s:ByteArray)(W:World):Calls Tryz.prog 135 #[.string s] W λe w'=>e= .returned (.bool false)/\w'=W:=by
 go_enter Tryz.func135,Tryz.ntmps135
 go_wp2
 go_ret
 exact⟨J1,rfl⟩
theorem cmpS_c(a b:ByteArray)(W:World):Calls Tryz.prog 101 #[.string a,.string b] W λe w'=>e= .returned (.int .i64 (cmpS a b))/\w'=W:=by
 go_enter Tryz.func101,Tryz.ntmps101
 go_wp2_with (go_at_call 135;refine(ZbF _ _).mono ?_;rintro e w' ⟨rfl,hw⟩;rw[hw])
 all_goals(go_ret;refine⟨?_,rfl⟩;unfold cmpS;(repeat' split)<;>first|rfl|(exfalso;simp_all;done)|(exfalso;rcases YtpjfdjcejamebaaGreatDoor.bl_tot a.toList b.toList (by simp_all)with hh|hh<;>simp_all))
theorem ltAv(x y:ByteArray×ByteArray):ltOf cmpAv x y=Op.bytesLess x.1.toList y.1.toList:=by
 unfold ltOf cmpAv cmpS;cases h:Op.bytesLess x.1.toList y.1.toList<;>cases h2:Op.bytesLess y.1.toList x.1.toList<;>simp
theorem swoAv:SWO (ltOf cmpAv) where
 irrefl x:=by rw[ltAv];exact YtpjfdjcejamebaaGreatDoor.bl_irr _
 trans x y z h1 h2:=by rw[ltAv]at*;exact YtpjfdjcejamebaaGreatDoor.bl_trans _ _ _ h1 h2
 ntrans x y z h1 h2:=by
  rw[ltAv]at*;cases h:Op.bytesLess x.1.toList z.1.toList with
  |false=>rfl
  |true=>
   by_cases e1:x.1.toList=y.1.toList
   .rw[e1]at h;rw[h]at h2;cases h2
   .rcases YtpjfdjcejamebaaGreatDoor.bl_tot _ _ e1 with h3|h3
    .rw[h3]at h1;cases h1
    .have:=YtpjfdjcejamebaaGreatDoor.bl_trans _ _ _ h3 h;rw[this]at h2;cases h2
theorem Zh3(x y:ByteArray×ByteArray)(W:World):Calls Tryz.prog 142 #[.agg #[.string x.1,.string x.2],.agg #[.string y.1,.string y.2]] W λe w'=>e= .returned (.int .i64 (cmpAv x y))/\ ∃q os',w'=grow (W.drewN q) os':=by
 have hcon:=λW'=>cmpS_c x.1 y.1 W'
 unfold cmpAv;generalize cmpS x.1 y.1=r at hcon|-
 go_enter Tryz.func142,Tryz.ntmps142
 go_wp2_with (go_at_call 101;refine(hcon _).mono ?_;rintro e w' ⟨rfl,rfl⟩)
 go_ret
 exact⟨rfl,0,_,by rw[alloc_eq_grow,alloc_eq_grow,grow_grow];rfl⟩
theorem cmpLaysAv(blk off size:Nat)(w:World):CmpLays Tryz.prog 142 #[] encAv 2 cmpAv blk off size w:=λ_ _ _ _ x y=>Zh3 x y _
theorem ZWd{α:Type}[Inhabited α](enc:α->List Value)(k:Nat){w:World}{g n:Nat}{os:Array Obj}{cur:Array Value}{e:TypeId}{fr:Nat×Nat}(d:Array α)(hb:w.heap[g]? =some (.cells cur e fr)):
  (sortWorldK enc k w g 0 n d os).heap[g]? =some (.cells (putCells id 0 (flatK enc k d) cur) e fr):=by
 have hg:g<w.heap.size:=(ξH hb).1;unfold sortWorldK putRowK;rw[heap_grow_old _ _ (by simpa using hg)];simp[putRow,mapBlock,Sort.ahead,ZVr,hb,onCells]
theorem grown_sortK{α:Type}[Inhabited α](enc:α->List Value)(k:Nat){w:World}{g n:Nat}{os:Array Obj}(d:Array α):w.grownBy (sortWorldK enc k w g 0 n d os) (some g):=by
 unfold sortWorldK putRowK;refine⟨rfl,rfl,rfl,J1,λk hk hne=> ?_⟩;rw[heap_grow_old _ _ (by simpa using hk)];have:g≠k:=λe=>hne (by rw[e])
 simp[putRow,mapBlock,Sort.ahead,ZVr,this]
theorem ZXC(cur F:Array Value)(h:F.size<=cur.size):(putCells id 0 F cur).toList.take F.size=F.toList:=by
 apply ZDN;intro j;by_cases hj:j<F.size
 .rw[List.getElem?_take_of_lt hj,ξR,ξR];simp[putCells,hj,show j<cur.size by omega]
 .rw[List.getElem?_take_eq_none J0,ZCW (by simp;omega)]
theorem own_sortK{α:Type}[Inhabited α](enc:α->List Value)(k:Nat){w:World}{g n cap:Nat}{e:TypeId}{os:Array Obj}{cur:Array Value}{d:Array α}{m:Nat}(hm:d.size=m)(hb:w.heap[g]? =some (.cells cur e (0,0)))(h1:m<=cap)(h2:cap<=maxLen)(h3:cur.size=cap*k):
  (sortWorldK enc k w g 0 n d os).ownsRow 0 e k (.slice (some ⟨g,0,none⟩) m cap) m (flatK enc k d).toList:=by
 subst hm;have hle:d.size*k<=cap*k:=Kn _ h1;exact⟨J1,.inr ⟨g,cap,_,rfl,KE _,ZWd enc k d hb,h1,h2,by simp[putCells,h3],by
  have:=ZXC cur (flatK enc k d) (by simp;omega);rwa [size_flatK]at this⟩⟩
end Go.Proofs
end
section
namespace Go.Proofs.YtpjfdjcejamebaaGreatDoor
open Go.RowKit Go.Bo Go.Ab
def ZDI(p:Av):List Av->List Av
 | []=> [p]
 |q::o=>if Op.bytesLess q.1 p.1=true then q::ZDI p o else p::q::o
def ZAd(r:List Av):List Av:=r.foldl (λo p=>ZDI p o) []
theorem ZKc(p:Av): ∀o,(ZDI p o).Perm (p::o)
 | []=>ZO8 _
 |q::o=>by
  unfold ZDI;split
  .exact((ZKc p o).cons q).trans (List.Perm.swap p q o)
  .exact ZO8 _
theorem ZNc: ∀(r o:List Av),(r.foldl (λo p=>ZDI p o) o).Perm (r++o)
 | [],o=>ZO8 _
 |p::r,o=>by
  rw[ZMi];exact(ZNc r _).trans (((ZKc p o).append_left r).trans List.perm_middle)
theorem ZFu(r:List Av):(ZAd r).Perm r:=by have:=ZNc r [];rwa [Kj]at this
theorem ZKH(r:List Av):(ZAd r).length=r.length:=(ZFu r).length_eq
theorem ZYf(r:List Av)(p:Av):ZAd (r++ [p])=ZDI p (ZAd r):=by unfold ZAd;rw[ZSn];rfl
theorem ZYd(a b c:Tx)(h1:Op.bytesLess a b=false)(h2:Op.bytesLess b c=false):Op.bytesLess a c=false:=by
 cases h:Op.bytesLess a c with
 |false=>rfl
 |true=>
  by_cases e1:a=b
  .subst e1;rw[h]at h2;cases h2
  .rcases bl_tot _ _ e1 with h3|h3
   .rw[h3]at h1;cases h1
   .have:=bl_trans _ _ _ h3 h;rw[this]at h2;cases h2
abbrev SrA(l:List Av):Prop:=l.Pairwise λa b=>Op.bytesLess b.1 a.1=false
theorem ZMJ(p:Av): ∀o,SrA o->SrA (ZDI p o)
 | [],_=>List.pairwise_singleton _ _
 |q::o,h=>by
  obtain⟨h1,h2⟩:=ZSt.1 h;unfold ZDI;split
  .rename_i hl;refine ZSt.2 ⟨λx hx=> ?_,ZMJ p o h2⟩;rcases Kr.1 ((ZKc p o).mem_iff.1 hx)with rfl|hx
   .exact ZT9 _ _ hl
   .exact h1 x hx
  .rename_i hl;have hl:Op.bytesLess q.1 p.1=false:=by simpa using hl
   refine ZSt.2 ⟨λx hx=> ?_,h⟩;rcases Kr.1 hx with rfl|hx
   .exact hl
   .exact ZYd _ _ _ (h1 x hx) hl
theorem ZKz: ∀(r o:List Av),SrA o->SrA (r.foldl (λo p=>ZDI p o) o)
 | [],o,h=>h
 |p::r,o,h=>by rw[ZMi];exact ZKz r _ (ZMJ p o h)
theorem ZTr(r:List Av):SrA (ZAd r):=ZKz r [] List.Pairwise.nil
theorem Zfy{r l:List Av}(hp:l.Perm r)(hs:SrA l)(hn:(r.map (·.1)).Nodup):l=ZAd r:=by
 refine List.Perm.eq_of_pairwise (le:=λa b=>Op.bytesLess b.1 a.1=false) (λa b ha hb h1 h2=> ?_) hs (ZTr r) (hp.trans (ZFu r).symm);have ha':=hp.mem_iff.1 ha;have hb':=(ZFu r).mem_iff.1 hb;have he:a.1=b.1:=ZMZ λhne=>by
  rcases bl_tot _ _ hne with h|h
  .rw[h]at h2;cases h2
  .rw[h]at h1;cases h1
 obtain⟨i,hi,rfl⟩:=ZVs ha';obtain⟨j,hj,rfl⟩:=ZVs hb';have key: ∀(i j:Nat) (hi:i<r.length) (hj:j<r.length),i<j->r[i].1≠r[j].1:=λi j hi hj hij=>by
  have:=ZJ6.1 hn i j (by simpa using hi) (by simpa using hj) hij;simpa using this
 have:i=j:=by
  rcases Nat.lt_trichotomy i j with h|h|h
  .exact absurd he (key i j hi hj h)
  .exact h
  .exact absurd he.symm (key j i hj hi h)
 subst this;rfl
def bsA(p:Av):ByteArray×ByteArray:=(ZZ p.1,ZZ p.2)
theorem ZhZ(x:ByteArray×ByteArray):bsA (x.1.toList,x.2.toList)=x:=by
 have key: ∀b:ByteArray,ZZ b.toList=b:=λb=>by
  unfold ZZ;rw[ByteArray.toList_eq]
 unfold bsA;rw[key,key]
theorem Zhr(r:List Av)(hn:(r.map (·.1)).Nodup)(d':Array (ByteArray×ByteArray))(hp:Sort.PermIn 0 r.length (r.map bsA).toArray d')(hs:Sort.SortedIn (Go.Proofs.ltOf Go.Proofs.cmpAv) 0 r.length d'):d'=((ZAd r).map bsA).toArray:=by
 obtain⟨hsz,-,hpm⟩:=hp;have hsz':d'.size=r.length:=by rw[hsz];simp
 have hex:(d'.extract 0 r.length).toList=d'.toList:=by rw[<-hsz'];simp
 have hex2:((r.map bsA).toArray.extract 0 r.length).toList=r.map bsA:=by simp[YX]
 rw[hex,hex2]at hpm;have hl:d'.toList=(d'.toList.map λx=>(x.1.toList,x.2.toList)).map bsA:=by
  rw[Js]
  conv=>lhs;rw[<-ZO0 d'.toList]
  exact ZBF λx _=>(ZhZ x).symm
 have hperm:(d'.toList.map λx=>(x.1.toList,x.2.toList)).Perm r:=by
  have:=hpm.map λx:ByteArray×ByteArray=>(x.1.toList,x.2.toList)
  rw[Js]at this;have e:(r.map ((λx:ByteArray×ByteArray=>(x.1.toList,x.2.toList))∘bsA))=r:=by
   conv=>rhs;rw[<-ZO0 r]
   exact ZBF λp _=>by simp[bsA,KI]
  rwa [e]at this
 have hsr:SrA (d'.toList.map λx=>(x.1.toList,x.2.toList)):=by
  show List.Pairwise _ _;rw[List.pairwise_map,ZJ6];intro i j hi hj hij;have:=hs i j (KE _) hij (by rw[<-hsz'];simpa using hj);rw[Go.Proofs.ltAv]at this;simp at hi hj;simp only[getElem!_pos d' i hi,getElem!_pos d' j hj]at this;simpa using this
 apply ZDz.1;rw[hl,Zfy hperm hsr hn]
theorem ZU4(r:List Av)(i:Nat)(hi:i<r.length):(Go.Sort.flatK Go.Proofs.encAv 2 (r.map bsA).toArray).toList[i*2]? =some (Value.string (ZZ r[i].1))/\(Go.Sort.flatK Go.Proofs.encAv 2 (r.map bsA).toArray).toList[i*2+1]? =some (Value.string (ZZ r[i].2)):=by
 have e1:i*2/2=i:=by omega
 have e2:(i*2+1)/2=i:=by omega
 have e3:i*2 % 2=0:=by omega
 have e4:(i*2+1) % 2=1:=by omega
 have hg:(r.map bsA)[i]! =bsA r[i]:=by rw[getElem!_pos _ i (by simpa using hi)];simp
 constructor
 .simp[Go.Sort.flatK,show i*2<r.length*2 by omega,e1,e3,hg,Go.Proofs.encAv,bsA,hi]
 .simp[Go.Sort.flatK,show i*2+1<r.length*2 by omega,e2,e4,hg,Go.Proofs.encAv,bsA,hi]
set_option maxHeartbeats 1000000 in
theorem ZiJ(e:Nat)(r:List Av)(hn:(r.map (·.1)).Nodup)(hne:r≠ [])(hl:r.length<=1000000)(lim:Nat)(hlim:lim<=64):ZN Tryz.prog 175 [.ref 0 r.length 0 r.length,.x (.int .i64 0),.x (.int .i64 r.length),.x (.int .i64 lim),.fn 142 []] [.rows false e 2 (rows Zn r)] (.tup []) [.rows false e 2 (rows Zn (ZAd r))]:=by
 intro c E vs R hvl;obtain⟨hsz,hv⟩:=hvl;obtain⟨v0,v1,v2,v3,v4,rfl⟩: ∃v0 v1 v2 v3 v4,vs= #[v0,v1,v2,v3,v4]:=by
  obtain⟨vl⟩:=vs
  match vl,hsz with
  | [a,b,c,d,e],_=>exact⟨a,b,c,d,e,rfl⟩
 have h0:=hv 0 _ v0 rfl rfl;have h1:=hv 1 _ v1 rfl rfl;have h2:=hv 2 _ v2 rfl rfl;have h3:=hv 3 _ v3 rfl rfl;have h4:=hv 4 _ v4 rfl rfl;clear hv hsz;obtain rfl:v1= .int .i64 0:=by cases h1 with|x h=>cases h;rfl
 obtain rfl:v2= .int .i64 r.length:=by cases h2 with|x h=>cases h;rfl
 obtain rfl:v3= .int .i64 lim:=by cases h3 with|x h=>cases h;rfl
 obtain rfl:v4= .func (.func 142) #[] #[]:=by
  cases h4 with
  |fn vs hl _=>rw[show vs= #[]from ZgI hl.symm]
 clear h1 h2 h3 h4;have hlen:(rows Zn r).length=r.length:=Zh _ _;cases h0 with
 |ref hr _=>
  have ho: [Ob.rows false e 2 (rows Zn r)][0]? =some (Ob.rows false e 2 (rows Zn r)):=rfl;obtain⟨k1,k2⟩:=hr.at ho rfl;obtain⟨k3,b,a,cap,a',cap',k4,rfl,k6,k7,k8,k9,k10,k11⟩:=k2 hlen;obtain⟨rfl,rfl⟩:=k8 rfl;obtain⟨p,hp,hok⟩:=R.at ho;rw[hp]at k4;have hpb:p=(b,.slice a' r.length cap'):=ZCX k4;subst hpb;have hpos:0<r.length:=ZLa.2 hne;obtain⟨xs,⟨q1,q2⟩,q3,q4⟩:=hok;rcases q2 with⟨q2,q5⟩|⟨g,cp,cells,fr,q5,q6,q7,q8,q9,q10,q11⟩
  .rw[hlen]at q5;omega
  .simp only[Value.slice.injEq]at q5;obtain⟨rfl,_,rfl⟩:=q5;rw[hlen]at q10 q7 q1;have hfr:fr=(0,0):=by
    rcases q11 with q11|⟨q11,_⟩
    .exact q11
    .cases q11
   subst hfr;have hxs:xs=(Go.Sort.flatK Go.Proofs.encAv 2 (r.map bsA).toArray).toList:=by
    apply List.ext_getElem (by rw[q1];simp);intro t ht ht2;have htr:t/2<r.length:=by rw[q1]at ht;omega
    obtain⟨f1,f2⟩:=ZU4 r (t/2) htr;have hrw:(rows Zn r)[t/2]? =some [X.str r[t/2].1,X.str r[t/2].2]:=by simp[rows,htr,Zn]
    apply ZCX;rw[<-YC ht2];rcases Nat.mod_two_eq_zero_or_one t with hm|hm
    .have et:t/2*2=t:=by omega
     rw[et]at f1;rw[f1];have:=q4 (t/2) _ 0 (.str r[t/2].1) xs[t] hrw rfl (by rw[JK,et];exact YC ht);generalize xs[t]=u at this|-;cases this;rfl
    .have et:t/2*2+1=t:=by omega
     rw[et]at f2;rw[f2];have:=q4 (t/2) _ 1 (.str r[t/2].2) xs[t] hrw rfl (by rw[et];exact YC ht);generalize xs[t]=u at this|-;cases this;rfl
   have hglt:=(ξH q6).1;have hds:(r.map bsA).toArray.size=r.length:=by simp
   have hH:Go.Sort.HoldsK Go.Proofs.encAv 2 E.w g 0 (r.map bsA).toArray:=by
    intro j hj;rw[Go.Sort.size_flatK,hds]at hj;have hjx:cells.toList[j]? =xs[j]? :=by rw[<-q10,List.getElem?_take_of_lt hj]
    refine⟨?_,by simp[World.frozen?,q6]⟩;simp only[World.cell?,q6,Option.isSome_none,JP,if_false,Jn];rw[<-ξR,hjx,hxs,ξR];have hjs:j<(Go.Sort.flatK Go.Proofs.encAv 2 (r.map bsA).toArray).size:=by rw[Go.Sort.size_flatK,hds];exact hj
    rw[ξL hjs,getElem!_pos _ j hjs];rfl
   have eg: ∀args w,(callFunc 142 args).run Tryz.prog w= .ok (.enter 142 args) w:=Go.Proofs.enters_of Tryz.func142 J3 rfl;have hk2: ∀x,(Go.Proofs.encAv x).length=2:=λ_=>rfl
   have h11: ∀x,∀v∈Go.Proofs.encAv x,v.oneCell'=true:=λx v hv=>by simp[Go.Proofs.encAv]at hv;rcases hv with rfl|rfl<;>rfl
   have:=Go.Proofs.AnyQ.pdqsortCmpFunc_all Tryz.pdqAva 2 (by exact Tryz.isAgg161) (by exact Tryz.sizeOf161) Go.Proofs.encAv Go.Proofs.cmpAv 142 #[] Go.Proofs.swoAv g 0 cap' (r.map bsA).toArray E.w eg (Go.Proofs.cmpLaysAv g 0 _ E.w) ⟨hk2,h11,hH,hglt⟩ (r.length+1) 0 r.length lim (r.map bsA).toArray E.w J0 rfl (Go.Proofs.SWK.start hH) (KE _) (by rw[hds];exact Zm _) (by rw[hds];omega) J0 (Or.inl rfl);rw[hds]at this;refine this.mono ?_;rintro _ w' ⟨rfl,nn,oss,rfl⟩;have hps:=Go.Sort.pdq_sorts (Go.Proofs.ltOf Go.Proofs.cmpAv) Go.Proofs.swoAv (r.map bsA).toArray 0 r.length lim true true (KE _) (by rw[hds];exact Zm _) (Or.inl rfl);have hd':=Zhr r hn _ hps.1 hps.2;rw[hd'];have hown:=Go.Proofs.own_sortK (n:=nn) (os:=oss) Go.Proofs.encAv 2 (d:=((ZAd r).map bsA).toArray) (m:=r.length) (by simp[ZKH]) q6 q7 q8 q9;have hg:=Go.Proofs.grown_sortK (n:=nn) (os:=oss) (w:=E.w) (g:=g) Go.Proofs.encAv 2 ((ZAd r).map bsA).toArray;have hls:(rows Zn (ZAd r)).length=r.length:=by rw[Zh,ZKH]
   obtain⟨R',ev⟩:=R.set ho hp _ (.rows false e 2 (rows Zn (ZAd r))) (b,.slice (some ⟨g,0,none⟩) r.length cap') ⟨hg.os,hg.tape,hg.output,hg.size,λk hk hm=>hg.block k hk (λe=>hm (by cases e;rfl))⟩ (λb' hb'=> .inl hb') (λsz rs1 h=>by
     simp only[Ob.sl?,Ze,Za]at h;obtain⟨rfl,rfl⟩:=h;exact⟨(rows Zn (ZAd r)).length,rfl,.inl ⟨by rw[hls,hlen],rfl⟩⟩) (λk h=>by cases h) (λev=>by
     refine⟨_,by rw[hls];exact QG.of_owns hown false,λz hz=> ?_,λi z j x v h1 h2 h3=> ?_⟩
     .obtain⟨q,_,rfl⟩:=YT.1 hz;rfl
     .unfold rows at h1;rw[YG]at h1;obtain⟨q,hq,rfl⟩:=Zd h1;have hi:=(Zb hq).1;obtain⟨f1,f2⟩:=ZU4 (ZAd r) i hi;have hqe:(ZAd r)[i]=q:=(Zb hq).2;rw[hqe]at f1 f2
      match j with
      |0=>
       simp only[Zn,ZCF,Ze]at h2;subst h2;rw[JK,f1]at h3;cases h3;exact .str _
      |1=>
       simp only[Zn,ZCF,ZCD,Ze]at h2;subst h2;rw[f2]at h3;cases h3;exact .str _
      |j+2=>simp[Zn]at h2)
   exact⟨_,_,rfl,rfl,R',ev,.tup #[] rfl (λj d v h=>by simp at h)⟩
theorem ZZL(n:Nat)(h:n<=1000000):ZC Tryz.prog 113 [.x (.int .u64 n)] (.x (.int .i64 (Lib.bitLen n))):=by
 intro w st vs hst hvl;obtain⟨hsz,hv⟩:=hvl;obtain⟨v0,rfl⟩: ∃v0,vs= #[v0]:=by
  obtain⟨vl⟩:=vs
  match vl,hsz with
  | [a],_=>exact⟨a,rfl⟩
 have h0:=hv 0 _ v0 rfl rfl;obtain rfl:v0= .int .u64 n:=by cases h0 with|x h=>cases h;rfl
 have:=Tryz.bits_Len (n:Int) w J0 J0;rw[ZIE]at this;refine this.mono ?_;rintro e w' ⟨rfl,rfl⟩;exact⟨_,st,rfl,Kept.refl _ _,λ_ _ h=>h,λ_ _ h=> .inl h,.x (.int _ _)⟩
def ZG8:J8->J5
 | [.x (.int .u64 n)]=>some (decide (0<=n/\n<=1000000),.x (.int .i64 (Lib.bitLen n.toNat)))
 |_=>none
theorem ZTs: ∀args r,ZG8 args=some (true,r)->ZC Tryz.prog 113 args r:=by
 intro args r h;unfold ZG8 at h;split at h
 .rename_i n;simp only[Ze,Za,ZT,Zc,true_and]at h;obtain⟨h1,rfl⟩:=h;exact(by obtain⟨m,rfl⟩: ∃m:Nat,n=m:=⟨n.toNat,J0⟩;rw[ZIE];exact ZZL m J0)
 .cases h
def Zf6:Tabs:=ZR (ZO) 113 ZG8
theorem ZV3:SsOk Tryz.prog Zf6:=ZG (ZD) (ZU 113) ZTs
theorem ZVW:Enters Tryz.prog 175:=ZU 175
theorem Zf8(e:Nat)(r:List Av)(hn:(r.map (·.1)).Nodup)(hne:r≠ [])(hl:r.length<=1000000):ZN Tryz.prog 141 [.ref 0 r.length 0 r.length,.fn 142 []] [.rows false e 2 (rows Zn r)] (.tup []) [.rows false e 2 (rows Zn (ZAd r))]:=by
 have hbl:Lib.bitLen r.length<=62:=Lib.bitLen_le r.length 62 J0 J0;have hw:IntKind.u64.wrap (r.length:Int)=r.length:=by simp[IntKind.wrap,IntKind.bits,IntKind.signed];omega
 have hc:=ZiJ e r hn hne hl (Lib.bitLen r.length) J0;have hdd:decide (0<=(r.length:Int)/\(r.length:Int)<=1000000)=true:=ZL J0;refine ZI.mcalls (fC 141 true ?_);intro C0 E0;have uu:=ξ8 @ZG8.eq_1 @ZG8.eq_2 hw hdd @ZJR @ZJn @ZJQ @ZJj;have tT:=(ZDZ ZV3 ZVW hc);refine nz ?_;refine rg tT [0,1,4] ?_;refine WI.regB tT [] ?_
 iterate 3 refine oS ?_
 refine oG ?_;refine oC ?_;refine oS ?_;refine oC ?_;refine osN ?_
 first|refine lfN ?_|refine Ziz ?_|refine ZjB ?_
 exact⟨rfl,rfl⟩
theorem ZRt:Enters Tryz.prog 141:=ZU 141
def ZCr(p:Av):Av:=(ZH p.1,fld p.2)
def Jk(r:List Av):List Av:=ZAd (r.map ZCr)
def KB(r:List Av):Bool:=r.all λp=> !(fld p.2== [])
def JA(s:Tx):Tx×Int:=if(YN s).2≠0 then([],(YN s).2)else if(YN s).1.all KB=true then QU ((YN s).1.map Jk)else([],5)
theorem ZP3(r:List Av): ∀n,n<=r.length->okP r n=true->(QW (r.take n)).Nodup
 |0,_,_=>by simp[QW]
 |n+1,hn,h=>by
  rw[okP,ZT]at h;have ih:=ZP3 r n J0 h.1;have h2:=h.2;unfold ZAB at h2;simp only[ZT,ZHD,decide_eq_false_iff_not]at h2;have hg:r.getD n ([],[])=r[n]:=by simp[show n<r.length by omega]
  rw[hg]at h2;unfold QW at ih h2|-;rw[Jg J0,Ji,ZF7];refine⟨ih,J1,λa ha b hb=> ?_⟩;simp only[YO,ZAu,ξZ]at hb;subst hb;rintro rfl;exact h2.2.2.2 ha
theorem ZXu{r:List Av}(h:Yh r=true):((r.map ZCr).map (·.1)).Nodup:=by
 unfold Yh at h;rw[ZT]at h;have:=ZP3 r r.length (Zm _) h.1;rw[JS]at this;rw[Js];exact this
theorem ZRf(r:List Av):(Jk r).length=r.length:=by unfold Jk;rw[ZKH,Yb]
def ZBM(r:List Av)(k:Nat):List Av:=(r.take k).map ZCr++r.drop k
theorem ZTX(r:List Av)(k:Nat):(ZBM r k).length=r.length:=by unfold ZBM;simp;omega
theorem Zfb(r:List Av)(k:Nat)(h:k<r.length):(rows Zn (ZBM r k))[k]? =some [X.str (r.getD k ([],[])).1,X.str (r.getD k ([],[])).2]:=by
 have e:(ZBM r k)[k]? =some (r.getD k ([],[])):=by
  unfold ZBM;rw[Qe (by simp;omega)];simp[h,ZOx (Nat.le_of_lt h)]
 unfold rows;rw[YG,e];rfl
theorem ZdE(r:List Av)(k:Nat)(h:k<r.length):(rows Zn (ZBM r (k+1)))[k]? =some [X.str (ZH (r.getD k ([],[])).1),X.str (fld (r.getD k ([],[])).2)]:=by
 have e:(ZBM r (k+1))[k]? =some (ZCr (r.getD k ([],[]))):=by
  unfold ZBM;rw[Ym (by simp;omega),YG,KH,if_pos J0];simp[h]
 unfold rows;rw[YG,e];rfl
theorem ZcN(r:List Av)(k:Nat)(h:k<r.length):(rows Zn (ZBM r k)).set k [X.str (ZH (r.getD k ([],[])).1),X.str (fld (r.getD k ([],[])).2)]=rows Zn (ZBM r (k+1)):=by
 have e:(ZBM r k).set k (ZCr (r.getD k ([],[])))=ZBM r (k+1):=by
  unfold ZBM;rw[ZEy _ _ (by simp;omega),Jg h,Ji];have h1:k-((r.take k).map ZCr).length=0:=by simp;omega
  rw[h1,ZEY h,ZDM,Yp];simp[h]
 rw[<-e];unfold rows;rw[ZMl];rfl
theorem Zbc(r:List Av):ZBM r r.length=r.map ZCr:=by unfold ZBM;simp
theorem ZYh(r:List Av):ZBM r 0=r:=by unfold ZBM;simp
def ZDE(d:Dn)(j:Nat):Dn:=(d.take j).map Jk++d.drop j
theorem Zat(d:Dn)(j:Nat):(ZDE d j).length=d.length:=by unfold ZDE;simp;omega
theorem Zf2(d:Dn)(j:Nat)(h:j<d.length):(ZDE d j).getD j []=d.getD j []:=by
 unfold ZDE;rw[ZIW,Qe (by simp;omega)];simp[h,ZOx (Nat.le_of_lt h)]
theorem Zcg(d:Dn)(j:Nat)(h:j<d.length):(ZDE d j).set j (Jk (d.getD j []))=ZDE d (j+1):=by
 unfold ZDE;rw[ZEy _ _ (by simp;omega),Jg h,Ji];have h1:j-((d.take j).map Jk).length=0:=by simp;omega
 rw[h1,ZEY h,ZDM,Yp];simp[h]
theorem Zax(d:Dn):ZDE d d.length=d.map Jk:=by unfold ZDE;simp
theorem ZZt(d:Dn):ZDE d 0=d:=by unfold ZDE;simp
end Go.Proofs.YtpjfdjcejamebaaGreatDoor
end
