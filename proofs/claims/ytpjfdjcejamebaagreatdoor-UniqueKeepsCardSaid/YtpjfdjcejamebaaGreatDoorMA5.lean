import Derived.Test.YtpjfdjcejamebaaGreatDoorMA4
import Derived.Test.YtpjfdjcejamebaaGreatDoorLA6
import Derived.Test.YtpjfdjcejamebaaGreatDoorMA3
set_option linter.unusedSimpArgs false
set_option linter.unusedVariables false
set_option maxRecDepth 100000
section
namespace Go.Proofs.YtpjfdjcejamebaaGreatDoor
open Go.RowKit Go.Bo Go.Ab
def unB:List (X×J6)->Option BM
 | []=>some []
 |(.str s,R)::l=>(ZV ZA R).bind λr=>(unB l).map λq=>(s,r)::q
 |_=>none
theorem ZaM: ∀B:BM,unB (enB B)=some B
 | []=>rfl
 |b::B=>by
  have h:=ZaM B;unfold enB at h|-;simp only[YO,unB,Zf ZM,h,ZAC,Yl]
theorem ZUM: ∀ {l:List (X×J6)} {B:BM},unB l=some B->l=enB B
 | [],B,h=>by cases h;rfl
 |p::l,B,h=>by
  obtain⟨x,R⟩:=p;cases x with
  |str s=>
   simp only[unB]at h;obtain⟨r,h1,h⟩:=Zp h;obtain⟨q,h2,rfl⟩:=Zd h;rw[ZUM h2,<-ZY ZM h1];rfl
  |_=>cases h
def Zh2(P:W2):Option EM:=Jz ZA Ql P
theorem Zdx(m:EM):Zh2 (enM m)=some m:=ZRQ ZM ZAv m
def unT(o:Ob):Option (List (Tx×Zi)×List (Tx×Zt)×EM×BM):=match o with
 | .fam 9 [P1,P2,P3] b=>(Jz ZA Yd P1).bind λL=>(Jz ZA Jy P2).bind λM=>(Zh2 P3).bind λm=>(unB b).map λB=>(L,M,m,B)
 |_=>none
theorem ZSJ(L:List (Tx×Zi))(M:List (Tx×Zt))(m:EM)(B:BM):unT (Kc L M m B)=some (L,M,m,B):=by
 simp only[unT,Kc,ZC1,ZCy,Zdx,ZaM,ZAC,Yl]
theorem ZI4{o:Ob}{L:List (Tx×Zi)}{M:List (Tx×Zt)}{m:EM}{B:BM}(h:unT o=some (L,M,m,B)):o=Kc L M m B:=by
 unfold unT at h;split at h
 .rename_i P1 P2 P3 b;obtain⟨L',h1,h⟩:=Zp h;obtain⟨M',h2,h⟩:=Zp h;obtain⟨m',h3,h⟩:=Zp h;obtain⟨B',h4,h⟩:=Zd h;cases h;rw[Ye ZM JE h1,Ye ZM JN h2,Ye ZM ZAv h3,ZUM h4];rfl
 .cases h
def ZDo:J8->J7->J5
 | [.iref 0 0,.x (.str n)],[o]=>(unT o).map λq=>(decide (okT q.2.2.1 q.2.2.2),.tup [.agg [.x (.str (QV q.2.2.1 n).1),.x (.sl (rows ZQ (QV q.2.2.1 n).2.1))],.x (.bool (ZJ q.2.2.1 n).isSome)])
 |_,_=>none
def okW(k:Nat)(m:EM)(B:BM)(n:Tx):Prop:=okT m B/\ZN1 B k n=true/\(YP B k n).length<=999999
instance (k:Nat) (m:EM) (B:BM) (n:Tx):Decidable (okW k m B n):=inferInstanceAs (Decidable (_/\_))
def ZAf:J8->J7->J5
 | [.iref 0 0],[o]=>(unT o).map λq=>(decide (okW 40 q.2.2.1 q.2.2.2 []),.x (.sl (rows ZA (YP q.2.2.2 40 []))))
 |_,_=>none
theorem ZSD: ∀args os r,ZDo args os=some (true,r)->r.clean=true/\ ∃X,ZN Tryz.prog 54 args os r (os++X):=by
 intro args os r h;unfold ZDo at h;split at h
 .obtain⟨⟨L,M,m,B⟩,h1,h2⟩:=Zd h;simp only[Za,Zc]at h2;obtain⟨h3,rfl⟩:=h2;rw[ZI4 h1];exact⟨rfl,[],Zg2 L M m B _ h3⟩
 .cases h
theorem ZN3: ∀args os r,ZAf args os=some (true,r)->r.clean=true/\ ∃X,ZN Tryz.prog 53 args os r (os++X):=by
 intro args os r h;unfold ZAf at h;split at h
 .obtain⟨⟨L,M,m,B⟩,h1,h2⟩:=Zd h;simp only[Za,Zc]at h2;obtain⟨h3,rfl⟩:=h2;rw[ZI4 h1];exact⟨rfl,[],Za0 L M m B 40 h3.1 ((ZLo B 40 []).1 h3.2.1) h3.2.2⟩
 .cases h
def ZLw:J8->J7->Option (Bool×D×J7)
 | [.iref 0 0,.agg [.x (.str dn),.x (.sl R)]],[o]=>(unT o).bind λq=>(ZV ZQ R).map λl=>(decide (okT q.2.2.1 q.2.2.2/\QJ l/\ZLT q.2.1 l),.x (.int .i64 (ZBn q.1 q.2.1 q.2.2.1 dn l)),[Kc q.1 q.2.1 (ZBt (ZBn q.1 q.2.1 q.2.2.1 dn l) q.2.2.1 dn l) (ZAm (ZBn q.1 q.2.1 q.2.2.1 dn l) q.2.2.2 dn)])
 |_,_=>none
def okD(m:EM)(B:BM)(n:Tx):Prop:=okT m B/\((ZJ m n).isSome=true->Yf B n= []->n∈Yf B (YV n)/\YV n≠n)
instance (m:EM) (B:BM) (n:Tx):Decidable (okD m B n):=inferInstanceAs (Decidable (_/\_))
theorem ZcA: ∀args os r os',ZLw args os=some (true,r,os')->ZN Tryz.prog 31 args os r os':=by
 intro args os r os' h;unfold ZLw at h;split at h
 .obtain⟨⟨L,M,m,B⟩,h1,h⟩:=Zp h;obtain⟨l,h2,h⟩:=Zd h;simp only[Za,Zc]at h;obtain⟨h3,rfl,rfl⟩:=h;rw[ZI4 h1,<-ZY Zr h2];exact Zgx L M m B _ l h3.1 h3.2.1 h3.2.2
 .cases h
theorem ZfT{l:List Tx}(hs:SoL l)(s:Tx)(hn: ∀x∈l,YL x≠YL s):SoL (ZEo l s):=by
 have h1: ∀x∈l.take (Yt l s),Op.bytesLess (YL x) (YL s)=true:=λx hx=>by
  obtain⟨j,hj,rfl⟩:=ZM5.1 hx;rw[List.getElem_take];exact ZNt l s j (by rw[Yu]at hj;omega)
 have h2: ∀x∈l.drop (Yt l s),Op.bytesLess (YL s) (YL x)=true:=λx hx=>by
  obtain⟨j,hj,rfl⟩:=ZM5.1 hx;rw[Jj]at hj;rw[List.getElem_drop];have h3:=mt (ZUd hs s (Yt l s+j) J0).1 J0;rcases bl_tot _ _ (hn _ (YM (h:=show Yt l s+j<l.length by omega)))with h4|h4
  .exact absurd h4 h3
  .exact h4
 have h0:SoL (l.take (Yt l s)++l.drop (Yt l s)):=by rw[ZDA];exact hs
 obtain⟨k1,k2,k3⟩:=ZSN.1 h0;refine ZSN.2 ⟨k1,ZSt.2 ⟨h2,k2⟩,λa ha b hb=> ?_⟩;rcases Kr.1 hb with rfl|hb
 .exact h1 a ha
 .exact k3 a ha b hb
theorem ZbZ{l:List Tx}{s x:Tx}:x∈ZEo l s↔x=s\/x∈l:=by
 have h:x∈l↔x∈l.take (Yt l s)\/x∈l.drop (Yt l s):=by rw[<-Km,ZDA]
 unfold ZEo;rw[Km,Kr,h];constructor
 .rintro(h|h|h)
  .exact .inr (.inl h)
  .exact .inl h
  .exact .inr (.inr h)
 .rintro(h|h|h)
  .exact .inr (.inl h)
  .exact .inl h
  .exact .inr (.inr h)
theorem Zhg(P1 P2:W2):ZN Tryz.prog 30 [.ptr 0 0] [.box [.mref 1,.mref 2],.mpo .str true P1,.mpo .str true P2] (.ptr 5 0) [.box [.mref 1,.mref 2],.mpo .str true P1,.mpo .str true P2,.mpo .str true [],.mpo .str false [],.box [.ptr 0 0,.mref 3,.mref 4]]:=by
 refine ZI.mcalls (fC 30 true ?_);intro C0 E0;have uu:=trivial;have tT:=(ZD:SsOk Tryz.prog ZO);refine nz ?_;refine rg tT [0] ?_;refine rg tT [2] ?_;refine lf ?_
 first|rfl|exact⟨rfl,rfl⟩|trivial
def ZLx:J8->J7->Option (Bool×D×J7)
 | [.ptr 0 0],[.box [.mref 1,.mref 2],.mpo .str true P1,.mpo .str true P2]=>some (true,.ptr 5 0,[.box [.mref 1,.mref 2],.mpo .str true P1,.mpo .str true P2,.mpo .str true [],.mpo .str false [],.box [.ptr 0 0,.mref 3,.mref 4]])
 |_,_=>none
theorem ZcM: ∀args os r os',ZLx args os=some (true,r,os')->ZN Tryz.prog 30 args os r os':=by
 intro args os r os' h;unfold ZLx at h;split at h
 .cases h;exact Zhg _ _
 .cases h
theorem Zer:ZEO 9 [JM (tyL plT),JH (clL plC),enM []] (enB []) (Qa (JM (tyL plT)) (JH (clL plC)) (.mpo .str true (enM []):: .mpo .str false []:: [])):=ZIR (Bt:= []) (Y:= []) (ZO8 _) ⟨.nil,.nil,J1⟩ rfl
abbrev Kp(L:List (Tx×Zi))(M:List (Tx×Zt)):Ob:= .fam 0 [JM L,JH M] []
def ZId:J8->J7->Option (Bool×(Nat->D)×Ob)
 | [],_=>some (true,λj=> .iref j j,Kp (tyL plT) (clL plC))
 |_,_=>none
theorem ZZU: ∀args os r ob,ZId args os=some (true,r,ob)->ZDQ Tryz.prog 10 args os r ob:=by
 intro args os r ob h;unfold ZId at h;split at h
 .cases h;exact ZDQ.fam ZPb rfl (.inr ⟨_,_,rfl,rfl,rfl⟩)
 .cases h
theorem Zfu(L:List (Tx×Zi))(M:List (Tx×Zt))(n:Tx)(hn:n.length<=140737488355328):ZN Tryz.prog 12 [.iref 0 0,.x (.str n)] [Kp L M] (.tup [tyD (tyV L (ZH n)),.x (.bool (ZJ L (ZH n)).isSome)]) [Kp L M]:=
 ZKC (args:= [.x (.str n)]) rfl rfl λos h=>by
  rcases h with⟨_,_,_,_,_,hP,_⟩|⟨P1,P2,hP,_,rfl⟩
  .cases hP
  .simp only[ZF1,and_true]at hP;obtain⟨rfl,rfl⟩:=hP;exactλc E vs R hvl=>(ZY6 L M n hn c E vs R hvl).mono λe w' ⟨v,E',h1,h2,h3,h4,h5⟩=>⟨v,E',_,_,h1,h2,h3,h4,h5,rfl,.inr ⟨_,_,rfl,rfl,rfl⟩⟩
def ZGt:J8->J7->J5
 | [.iref 0 0,.x (.str n)],[.fam 0 [P1,P2] []]=>(Jz ZA Yd P1).bind λL=>(Jz ZA Jy P2).map λM=>(decide (n.length<=140737488355328),.tup [tyD (tyV L (ZH n)),.x (.bool (ZJ L (ZH n)).isSome)])
 |_,_=>none
theorem ZXz: ∀args os r,ZGt args os=some (true,r)->r.clean=true/\ ∃X,ZN Tryz.prog 12 args os r (os++X):=by
 intro args os r h;unfold ZGt at h;split at h
 .obtain⟨L,h1,h⟩:=Zp h;obtain⟨M,h2,h⟩:=Zd h;simp only[Za,Zc]at h;obtain⟨h3,rfl⟩:=h;rw[Ye ZM JE h1,Ye ZM JN h2];exact⟨rfl,[],Zfu L M _ h3⟩
 .cases h
def Qw(L:List (Tx×Zi))(a b:List ZX)(n:Tx):Bool:=(ZJ L (ZH n)).isSome&&(ZEs a n).any λv=>ZFH b n v (tyV L (ZH n)).2.1
def ZF5(L:List (Tx×Zi))(a b:List ZX)(l:List Tx):Bool:=l.any (Qw L a b)
def ZEX:Tabs:=ZDB (ZR (ZR (ZO) 93 ZGz) 94 ZHI) 12 ZGt
theorem ZXI:SsOk Tryz.prog ZEX:=ZAJ (ZG (ZG (ZD) (ZU 93) ZPR) (ZU 94) ZO4) (ZU 12) ZXz
theorem ZdP:(∀a,ZEX.q 93 a=ZGz a)/\(∀a,ZEX.q 94 a=ZHI a)/\(∀a,ZEX.q 12 a=none)/\(∀a o,ZEX.t 12 a o=(JI ZGt a o).map λr=>(r.1,r.2,o))/\(∀a o,ZEX.r 12 a o=JI ZGt a o)/\(∀a o,ZEX.r 93 a o=none)/\(∀a o,ZEX.r 94 a o=none)/\(∀f a o,ZEX.k f a o=none):=⟨λ_=>rfl,λ_=>rfl,λ_=>rfl,λ_ _=>rfl,λ_ _=>rfl,λ_ _=>rfl,λ_ _=>rfl,λ_ _ _=>rfl⟩
theorem ZGk(l:List Tx)(j:Nat)(h:j<l.length):(rows ZA l)[j]? =some [X.str (l.getD j [])]:=by simp[rows,ZA,h]
set_option maxHeartbeats 4000000 in
theorem ZUA(L:List (Tx×Zi))(M:List (Tx×Zt))(da db:Tx)(a b:List ZX)(l:List Tx)(ha:QJ a)(hb:QJ b)(hl:l.length<=1000000/\ ∀n∈l,n.length<=1000000):ZN Tryz.prog 55 [.iref 0 0,.agg [.x (.str da),.x (.sl (rows ZQ a))],.agg [.x (.str db),.x (.sl (rows ZQ b))],.x (.sl (rows ZA l))] [Kp L M] (.x (.bool (ZF5 L a b l))) [Kp L M]:=by
 have hul:ZV ZQ (rows ZQ a)=some a:=Zf Zr a;have hub:ZV ZQ (rows ZQ b)=some b:=Zf Zr b;have hut:Jz ZA Yd (JM L)=some L:=ZC1 L;have huc:Jz ZA Jy (JH M)=some M:=ZCy M;have hrl:=Zh ZA l;have hO: [Kp L M].all (Ob.inP (λi=>decide (i< [Kp L M].length)))=true:=rfl;have hll:=hl.1;rcases hres:ZF5 L a b l with v
 unfold ZF5 at hres;refine ZI.mcallsX (fC 55 true ?_) (by first|decide|(simp;done)) hO (by first|rfl|exact hR);intro C0 E0;have uu:=KJ @ZGz.eq_1 @ZGz.eq_2 @ZHI.eq_1 @ZHI.eq_2 @ZGt.eq_1 @ZGt.eq_2 hul hub (ξ4 hut huc hrl @ZdP);have tT:=ZXI;refine nz ?_;refine rg tT [0,3,5,6] ?_;refine rg tT [0,5,6,15,16,17] ?_;refine WI.loop (λφ os=> ∃(j:Nat),φ= [(0,.iref 0 0),(5,.ptr 1 0),(6,.ptr 2 0),(15,.x (.sl (rows ZA l))),(16,.x (.int .i64 l.length)),(17,.x (.int .i64 j))]/\os= [Kp L M,.box [.x (.str da),.x (.sl (rows ZQ a))],.box [.x (.str db),.x (.sl (rows ZQ b))]]/\j<=l.length/\(l.take j).any (Qw L a b)=false) (ZK l.length 17) ?_ (λφ os hI=> ?_)
 .exact⟨0,rfl,rfl,J0,rfl⟩
 .obtain⟨j,rfl,rfl,hj,hno⟩:=hI;refine nz ?_;refine rg tT [0,5,6,15,16,17,18] ?_;refine cd (λh0=> ?_) (λh0=> ?_)
  .have hj4:j<l.length:=by clear uu;omega
   have hrw:=ZGk l j hj4;have hat:=ZFR (Qw L a b) l j hj4;have hmem:l.getD j []∈l:=by rw[show l.getD j []=l[j] by simp[hj4]];exact YM hj4
   have hln:=hl.2 _ hmem;generalize l.getD j []=n at hrw hat hmem hln;have c1:decide (n.length<=140737488355328)=true:=ZL J0;have c2:decide (QJ a/\n.length<=140737488355328)=true:=ZL ⟨ha,J0⟩;have c3:decide (QJ b/\n.length<=140737488355328)=true:=ZL ⟨hb,J0⟩;have uu:=ξ6 uu hrw c1 c2 c3 @tyD.eq_1;refine rg tT [0,5,6,10,15,16,17] ?_;refine rg tT [0,5,6,10,11,12,15,16,17] ?_;refine rg tT [0,5,6,10,11,15,16,17,28] ?_;refine cd (λh1=> ?_) (λh1=> ?_) (kA:=λh=>h.h)
   .have hx:Qw L a b n=false:=by unfold Qw;rw[show(ZJ L (ZH n)).isSome=false by clear uu;simpa using h1];rfl
    refine WI.pickA [0,1,2] ?_;refine WI.orderA [0,5,6,15,16,17] ?_;refine nz ?_;refine rg tT [0,5,6,15,16,17] ?_;exact⟨⟨j+1,rfl,rfl,J0,by rw[hat,hno,hx];rfl⟩,by simp[ZK,Ab.get,D.val,ZE];omega⟩
   .refine rg tT [0,5,6,10,11,15,16,17,31,32,33] ?_;refine WI.orderA [0,5,6,10,11,15,16,17,31,32,33] ?_;rcases hg:ZEs a n with V
    have hgl:=ZTB a n ha;rw[hg]at hgl;have hrv:=Zh ZA V;have hn1:Qw L a b n=((ZJ L (ZH n)).isSome&&V.any λv=>ZFH b n v (tyV L (ZH n)).2.1):=by unfold Qw;rw[hg]
    refine WI.loop (λφ os=> ∃(k:Nat),φ= [(0,.iref 0 0),(5,.ptr 1 0),(6,.ptr 2 0),(10,.x (.str n)),(11,.ptr 3 0),(15,.x (.sl (rows ZA l))),(16,.x (.int .i64 l.length)),(17,.x (.int .i64 j)),(31,.x (.sl (rows ZA V))),(32,.x (.int .i64 V.length)),(33,.x (.int .i64 k))]/\os= [Kp L M,.box [.x (.str da),.x (.sl (rows ZQ a))],.box [.x (.str db),.x (.sl (rows ZQ b))],.box [.x (.str (tyV L (ZH n)).1),.x (.int .i64 (tyV L (ZH n)).2.1),.x (.bool (tyV L (ZH n)).2.2.1)]]/\k<=V.length/\(V.take k).any (λv=>ZFH b n v (tyV L (ZH n)).2.1)=false) (ZK V.length 33) ?_ (λφ os hI=> ?_)
    .exact⟨0,rfl,rfl,J0,rfl⟩
    .obtain⟨k,rfl,rfl,hk,hno2⟩:=hI;refine nz ?_;refine rg tT [0,5,6,10,11,15,16,17,31,32,33,34] ?_;refine cd (λh2=> ?_) (λh2=> ?_) (kB:=λh=>h.h)
     .have hk4:k<V.length:=by clear uu;omega
      have hrv2:=ZGk V k hk4;have hat2:=ZFR (λv=>ZFH b n v (tyV L (ZH n)).2.1) V k hk4;have hmv:V.getD k []∈V:=by rw[show V.getD k []=V[k] by simp[hk4]];exact YM hk4
      generalize V.getD k []=w at hrv2 hat2 hmv;have uu:=YZ uu hrv2;refine rg tT [0,5,6,10,11,14,15,16,17,31,32,33] ?_;refine rg tT [0,5,6,10,11,15,16,17,31,32,33,42] ?_;refine cd (λh3=> ?_) (λh3=> ?_)
      .have hv:v=true:=by
        rw[<-hres];refine ZND.2 ⟨n,hmem,?_⟩;rw[hn1,show(ZJ L (ZH n)).isSome=true by clear uu;simpa using h1,ZBP];exact ZND.2 ⟨w,hmv,by clear uu;simpa using h3⟩
       subst hv;refine rg tT [8] ?_;refine lf ?_;exact⟨rfl,_,rfl⟩
      .have hx2:ZFH b n w (tyV L (ZH n)).2.1=false:=by clear uu;simpa using h3
       refine rg tT [0,5,6,10,11,15,16,17,31,32,33] ?_;exact⟨⟨k+1,rfl,rfl,J0,by rw[hat2,hno2,hx2];rfl⟩,by simp[ZK,Ab.get,D.val,ZE];omega⟩
     .have hx:Qw L a b n=false:=by
       rw[YX (by clear uu;omega)]at hno2;rw[hn1,hno2,ZDv]
      refine WI.pickA [0,1,2] ?_;refine WI.orderA [0,5,6,15,16,17] ?_;refine nz ?_;refine rg tT [0,5,6,15,16,17] ?_;exact⟨⟨j+1,rfl,rfl,J0,by rw[hat,hno,hx];rfl⟩,by simp[ZK,Ab.get,D.val,ZE];omega⟩
  .rw[YX (by clear uu;omega)]at hno;have hv:v=false:=by rw[<-hres,hno]
   subst hv;refine rg tT [8] ?_;refine lf ?_;exact⟨rfl,_,rfl⟩
def ZHJ:J8->J7->J5
 | [.iref 0 0,.agg [.x (.str _),.x (.sl A)],.agg [.x (.str _),.x (.sl B)],.x (.sl R)],[.fam 0 [P1,P2] []]=>(Jz ZA Yd P1).bind λL=>(Jz ZA Jy P2).bind λ_=>(ZV ZQ A).bind λa=>(ZV ZQ B).bind λb=>(ZV ZA R).map λl=>(decide (QJ a/\QJ b/\l.length<=1000000/\ ∀n∈l,n.length<=1000000),.x (.bool (ZF5 L a b l)))
 |_,_=>none
theorem ZW8: ∀args os r,ZHJ args os=some (true,r)->r.clean=true/\ ∃X,ZN Tryz.prog 55 args os r (os++X):=by
 intro args os r h;unfold ZHJ at h;split at h
 .obtain⟨L,h1,h⟩:=Zp h;obtain⟨M,h2,h⟩:=Zp h;obtain⟨a,h3,h⟩:=Zp h;obtain⟨b,h4,h⟩:=Zp h;obtain⟨l,h5,h⟩:=Zd h;simp only[Za,Zc]at h;obtain⟨h6,rfl⟩:=h;rw[Ye ZM JE h1,Ye ZM JN h2,<-ZY Zr h3,<-ZY Zr h4,<-ZY ZM h5];exact⟨rfl,[],ZUA L M _ _ a b l h6.1 h6.2.1 h6.2.2⟩
 .cases h
def ZHW(f:Tx->Bool)(W:List Tx):Tx×Bool:=match W.find? f with
 |some n=>(n,true)
 |none=>([],false)
theorem ZYu{f:Tx->Bool}{W:List Tx}{j:Nat}(h:j<W.length)(hno:(W.take j).any f=false)(hf:f (W.getD j [])=true):ZHW f W=(W.getD j [],true):=by
 have e:W=W.take j++W.getD j []::W.drop (j+1):=by
  conv=>lhs;rw[<-ZDA j W,ZEY h]
  simp[h]
 have hn:(W.take j).find? f=none:=by
  rw[ZRc];intro x hx hfx;rw[ZND.2 ⟨x,hx,hfx⟩]at hno;cases hno
 unfold ZHW
 conv=>lhs;rw[e]
 rw[List.find?_append,hn,Option.none_or,List.find?_cons_of_pos hf]
theorem ZbT{f:Tx->Bool}{W:List Tx}(hno:W.any f=false):ZHW f W=([],false):=by
 have hn:W.find? f=none:=by
  rw[ZRc];intro x hx hfx;rw[ZND.2 ⟨x,hx,hfx⟩]at hno;cases hno
 unfold ZHW;rw[hn]
def ZDK(L:List (Tx×Zi))(m:EM)(e:KG)(l:List Tx)(n:Tx):Bool:= !decide (n=e.1)&&ZF5 L e.2.1 (QV m n).2.1 l
def okU(m:EM)(B:BM):Prop:=okW 40 m B []/\ ∀n∈YP B 40 [],QJ (QV m n).2.1
instance (m:EM) (B:BM):Decidable (okU m B):=inferInstanceAs (Decidable (_/\_))
def ZCq:Tabs:=ZDB (ZDB (ZDB (ZO) 53 ZAf) 54 ZDo) 55 ZHJ
theorem ZZY:SsOk Tryz.prog ZCq:=ZAJ (ZAJ (ZAJ (ZD) (ZU 53) ZN3) (ZU 54) ZSD) (ZU 55) ZW8
theorem ZbA:(∀a,ZCq.q 53 a=none)/\(∀a o,ZCq.t 53 a o=(JI ZAf a o).map λr=>(r.1,r.2,o))/\(∀a o,ZCq.r 53 a o=JI ZAf a o)/\(∀a,ZCq.q 54 a=none)/\(∀a o,ZCq.t 54 a o=(JI ZDo a o).map λr=>(r.1,r.2,o))/\(∀a o,ZCq.r 54 a o=JI ZDo a o)/\(∀a,ZCq.q 55 a=none)/\(∀a o,ZCq.t 55 a o=(JI ZHJ a o).map λr=>(r.1,r.2,o))/\(∀a o,ZCq.r 55 a o=JI ZHJ a o)/\(∀f a o,ZCq.k f a o=none):=⟨λ_=>rfl,λ_ _=>rfl,λ_ _=>rfl,λ_=>rfl,λ_ _=>rfl,λ_ _=>rfl,λ_=>rfl,λ_ _=>rfl,λ_ _=>rfl,λ_ _ _=>rfl⟩
set_option maxHeartbeats 4000000 in
theorem ZgG(LT:List (Tx×Zi))(MT:List (Tx×Zt))(m:EM)(B:BM)(L:List (Tx×Zi))(M:List (Tx×Zt))(e:KG)(l:List Tx)(hu:okU m B)(he:QJ e.2.1)(hl:l.length<=1000000/\ ∀n∈l,n.length<=1000000):ZN Tryz.prog 28 [.iref 0 0,.iref 1 1,.agg [.x (.str e.1),.x (.sl (rows ZQ e.2.1))],.x (.sl (rows ZA l))] [Kc LT MT m B,Kp L M] (.tup [.x (.str (ZHW (ZDK L m e l) (YP B 40 [])).1),.x (.bool (ZHW (ZDK L m e l) (YP B 40 [])).2)]) [Kc LT MT m B,Kp L M]:=by
 obtain⟨hw,hsm⟩:=hu;have hul:ZV ZQ (rows ZQ e.2.1)=some e.2.1:=Zf Zr _;have hur:ZV ZA (rows ZA l)=some l:=Zf ZM l;have hut:=ZSJ LT MT m B;have hu1:Jz ZA Yd (JM L)=some L:=ZC1 L;have hu2:Jz ZA Jy (JH M)=some M:=ZCy M;have c2:=ZL hw;have c3:=ZL hw.1;have hwl:=hw.2.2;have hO: [Kc LT MT m B,Kp L M].all (Ob.inP (λi=>decide (i< [Kc LT MT m B,Kp L M].length)))=true:=rfl;rcases hres:ZHW (ZDK L m e l) (YP B 40 [])with⟨v,b⟩
 refine ZI.mcallsX (fC 28 true ?_) (by first|decide|(simp;done)) hO (by first|rfl|exact hR);intro C0 E0;have uu:=KJ @ZAf.eq_1 @ZAf.eq_2 @ZDo.eq_1 @ZDo.eq_2 @ZHJ.eq_1 @ZHJ.eq_2 hul hur (ξ6 hut hu1 hu2 @c2 @c3 @ZbA);have tT:=ZZY;refine nz ?_;refine rg tT [0,1,3,6] ?_;refine rg tT [0,1,3,6,15,16,17] ?_;generalize YP B 40 []=W at hsm hwl hres|-;have hrw0:=Zh ZA W;refine WI.loop (λφ os=> ∃(j:Nat),φ= [(0,.iref 0 0),(1,.iref 1 1),(3,.x (.sl (rows ZA l))),(6,.ptr 2 0),(15,.x (.sl (rows ZA W))),(16,.x (.int .i64 W.length)),(17,.x (.int .i64 j))]/\os= [Kc LT MT m B,Kp L M,.box [.x (.str e.1),.x (.sl (rows ZQ e.2.1))]]/\j<=W.length/\(W.take j).any (ZDK L m e l)=false) (ZK W.length 17) ?_ (λφ os hI=> ?_)
 .exact⟨0,rfl,rfl,J0,rfl⟩
 .obtain⟨j,rfl,rfl,hj,hno⟩:=hI;refine nz ?_;refine rg tT [0,1,3,6,15,16,17,18] ?_;refine cd (λh0=> ?_) (λh0=> ?_)
  .have hj4:j<W.length:=by clear uu;omega
   have hrw:=ZGk W j hj4;have hat:=ZFR (ZDK L m e l) W j hj4;have hfi:=ZYu (f:=ZDK L m e l) hj4 hno;have hsn:=hsm (W.getD j []) (by rw[show W.getD j []=W[j] by simp[hj4]];exact YM hj4);generalize W.getD j []=n at hrw hat hsn hfi;have hme:ZDK L m e l n=(!decide (n=e.1)&&ZF5 L e.2.1 (QV m n).2.1 l):=rfl;have hug:ZV ZQ (rows ZQ (QV m n).2.1)=some (QV m n).2.1:=Zf Zr _;have c4:decide (QJ e.2.1/\QJ (QV m n).2.1/\l.length<=1000000/\ ∀n∈l,n.length<=1000000)=true:=ZL ⟨he,hsn,hl⟩;have uu:=ξ5 uu hrw hug c4 hrw0;refine rg tT [0,1,3,6,11,15,16,17] ?_;refine rg tT [0,1,3,6,11,12,15,16,17] ?_;by_cases hne:n=e.1
   .have hb:(n==e.1)=true:=by simpa using hne
    have uu:=YZ uu hb;refine rg tT [0,1,3,6,11,15,16,17,37] ?_;refine ce (λh1=> ?_) (λh1=> ?_) (kB:=λh=>h.h)
    .simp at h1
    .have hx:ZDK L m e l n=false:=by rw[hme,ZL hne];rfl
     refine WI.pickA [0,1,2] ?_;refine WI.orderA [0,1,3,6,15,16,17] ?_;refine nz ?_;refine rg tT [0,1,3,6,15,16,17] ?_;exact⟨⟨j+1,rfl,rfl,J0,by rw[hat,hno,hx];rfl⟩,by simp[ZK,Ab.get,D.val,ZE];omega⟩
   .have hb:(n==e.1)=false:=by simpa using hne
    have uu:=YZ uu hb;refine rg tT [0,1,3,6,11,15,16,17,37] ?_;refine cd (λh1=> ?_) (λh1=> ?_) (kB:=λh=>h.h)
    .have hm:ZDK L m e l n=true:=by rw[hme,decide_eq_false hne,show ZF5 L e.2.1 (QV m n).2.1 l=true by clear uu;simpa using h1];rfl
     rw[hfi hm]at hres;cases hres;refine rg tT [8,9] ?_;refine lf ?_;exact⟨rfl,_,rfl⟩
    .have hx:ZDK L m e l n=false:=by rw[hme,show ZF5 L e.2.1 (QV m n).2.1 l=false by clear uu;simpa using h1,ZDv]
     refine WI.pickA [0,1,2] ?_;refine WI.orderA [0,1,3,6,15,16,17] ?_;refine nz ?_;refine rg tT [0,1,3,6,15,16,17] ?_;exact⟨⟨j+1,rfl,rfl,J0,by rw[hat,hno,hx];rfl⟩,by simp[ZK,Ab.get,D.val,ZE];omega⟩
  .rw[YX (by clear uu;omega)]at hno;rw[ZbT hno]at hres;cases hres;refine rg tT [8,9] ?_;refine lf ?_;exact⟨rfl,_,rfl⟩
abbrev rP2:=Jh ZA (Jh ZA ZA0)
def twL(f:Tx->Tx->Bool):List Tx->List (Tx×Tx×Unit)
 | []=> []
 |a::r=>((r.filter (f a)).map λb=>(a,b,()))++twL f r
theorem ZXE{f:Tx->Tx->Bool}: ∀ {W:List Tx},W.Pairwise (λa b=>f a b=false)->twL f W= []
 | [],_=>rfl
 |a::r,h=>by
  obtain⟨h1,h2⟩:=ZSt.1 h;unfold twL;rw[ZXE h2,Kj,Zau,List.filter_eq_nil_iff];intro b hb;rw[h1 b hb];decide
def fU(L:List (Tx×Zi))(m:EM)(n:Tx)(a b:Tx):Bool:=ZF5 L (QV m a).2.1 (QV m b).2.1 [n]
theorem Zbe(f:Tx->Tx->Bool)(W:List Tx)(i:Nat)(h:i<W.length):twL f (W.drop i)=(((W.drop (i+1)).filter (f (W.getD i []))).map λb=>(W.getD i [],b,()))++twL f (W.drop (i+1)):=by
 rw[ZEY h,twL,show W.getD i []=W[i] by simp[h]]
theorem Zb4{α β:Type}(g:α->β)(f:α->Bool)(R:List α)(k:Nat)(d:α)(h:k<R.length):((R.take (k+1)).filter f).map g=((R.take k).filter f).map g++(if f (R.getD k d)=true then [g (R.getD k d)]else []):=by
 rw[Jg h,List.filter_append,Ji,show R.getD k d=R[k] by simp[h]];congr 1;by_cases e:f R[k]=true<;>simp[e]
theorem ZOB(l:List (Tx×Tx×Unit))(a b:Tx):rows rP2 l++ [[X.str a,X.str b]]=rows rP2 (l++ [(a,b,())]):=by simp[rows,Jh,ZA,ZA0]
def ZIw:J8->J7->Option (Bool×D×J7)
 | [.iref 0 0,.agg [.x (.str _),.x (.sl A)],.agg [.x (.str _),.x (.sl B)],.ref 1 k 0 k'],[.fam 0 [P1,P2] [],.rows _ _ 1 R]=>(Jz ZA Yd P1).bind λL=>(Jz ZA Jy P2).bind λM=>(ZV ZQ A).bind λa=>(ZV ZQ B).bind λb=>(ZV ZA R).map λl=>(decide (k=l.length/\k'=l.length/\QJ a/\QJ b/\l.length<=1000000/\ ∀n∈l,n.length<=1000000),.x (.bool (ZF5 L a b l)),[Kp L M,.frz 1 R])
 |_,_=>none
theorem ZaL: ∀args os r os',ZIw args os=some (true,r,os')->ZN Tryz.prog 55 args os r os':=by
 intro args os r os' h;unfold ZIw at h;split at h
 .rename_i da A db B k k' P1 P2 fz e R;obtain⟨L,h1,h⟩:=Zp h;obtain⟨M,h2,h⟩:=Zp h;obtain⟨a,h3,h⟩:=Zp h;obtain⟨b,h4,h⟩:=Zp h;obtain⟨l,h5,h⟩:=Zd h;simp only[Za,Zc]at h;obtain⟨⟨rfl,rfl,h6,h7,h8⟩,rfl,rfl⟩:=h;rw[Ye ZM JE h1,Ye ZM JN h2,<-ZY Zr h3,<-ZY Zr h4,<-ZY ZM h5];refine ZN.frzL (pre:= [.iref 0 0,.agg [.x (.str da),.x (.sl (rows ZQ a))],.agg [.x (.str db),.x (.sl (rows ZQ b))]]) (x:= .sl (rows ZA l)) (os2:= [Kp L M,.frz 1 (rows ZA l)]) ?_ ?_
  .have hr:=Zh ZA l;simp only[Ya,Yi,ZCD,ZCF,hr,if_true,ZAC,Yl,ZBy,ZCp,ZDM];rw[YX J0];rfl
  .exact ZN.atR (ρ:= [0]) (args:= [.iref 0 0,.agg [.x (.str da),.x (.sl (rows ZQ a))],.agg [.x (.str db),.x (.sl (rows ZQ b))],.x (.sl (rows ZA l))]) (OS:= [Kp L M,.frz 1 (rows ZA l)]) (os':= [Kp L M]) rfl (ZUA L M da db a b l h6 h7 h8) (Zm 1)
 .cases h
def ZCe:Tabs:=Jt (ZDB (ZDB (ZO) 53 ZAf) 54 ZDo) 55 ZIw
theorem ZXW:SsOk Tryz.prog ZCe:=Yz (ZAJ (ZAJ (ZD) (ZU 53) ZN3) (ZU 54) ZSD) (ZU 55) ZaL
theorem Zbo:(∀a,ZCe.q 53 a=none)/\(∀a o,ZCe.t 53 a o=(JI ZAf a o).map λr=>(r.1,r.2,o))/\(∀a o,ZCe.r 53 a o=JI ZAf a o)/\(∀a,ZCe.q 54 a=none)/\(∀a o,ZCe.t 54 a o=(JI ZDo a o).map λr=>(r.1,r.2,o))/\(∀a o,ZCe.r 54 a o=JI ZDo a o)/\(∀a,ZCe.q 55 a=none)/\(∀a o,ZCe.t 55 a o=Yo ZIw a o)/\(∀a o,ZCe.r 55 a o=none)/\(∀f a o,ZCe.k f a o=none):=⟨λ_=>rfl,λ_ _=>rfl,λ_ _=>rfl,λ_=>rfl,λ_ _=>rfl,λ_ _=>rfl,λ_=>rfl,λ_ _=>rfl,λ_ _=>rfl,λ_ _ _=>rfl⟩
set_option maxHeartbeats 4000000 in
theorem Zbd(LT:List (Tx×Zi))(MT:List (Tx×Zt))(m:EM)(B:BM)(L:List (Tx×Zi))(M:List (Tx×Zt))(n:Tx)(hu:okU m B)(h11:(YP B 40 []).length<=1100)(hn:n.length<=1000000):ZN Tryz.prog 29 [.iref 0 0,.iref 1 1,.x (.str n)] [Kc LT MT m B,Kp L M] (.x (.sl (rows rP2 (twL (fU L m n) (YP B 40 []))))) [Kc LT MT m B,Kp L M]:=by
 obtain⟨hw,hsm⟩:=hu;have hut:=ZSJ LT MT m B;have hu1:Jz ZA Yd (JM L)=some L:=ZC1 L;have hu2:Jz ZA Jy (JH M)=some M:=ZCy M;have hun:ZV ZA [[X.str n]]=some [n]:=Zf ZM [n];have c2:=ZL hw;have c3:=ZL hw.1;have hO: [Kc LT MT m B,Kp L M].all (Ob.inP (λi=>decide (i< [Kc LT MT m B,Kp L M].length)))=true:=rfl;refine ZI.mcallsX (fC 29 true ?_) (by first|decide|(simp;done)) hO (by first|rfl|exact hR);intro C0 E0;have uu:=KJ @ZAf.eq_1 @ZAf.eq_2 @ZDo.eq_1 @ZDo.eq_2 @ZIw.eq_1 @ZIw.eq_2 hun hut (ξ5 hu1 hu2 @c2 @c3 @Zbo);have tT:=ZXW;refine nz ?_;refine rg tT [0,1,2] ?_;refine rg tT [0,1,2,7] ?_;refine rg tT [0,1,2,7,8] ?_;refine rg tT [0,1,2,7,8,19,20,21] ?_;refine WI.ownA 7 66 2 ?_;generalize YP B 40 []=W at hsm h11|-;have hrw0:=Zh ZA W;have uu:=YZ uu hrw0;refine WI.loop (λφ os=> ∃(i:Nat) (acc:List (Tx×Tx×Unit)),φ= [(0,.iref 0 0),(1,.iref 1 1),(2,.x (.str n)),(7,.ref 2 acc.length 0 acc.length),(8,.x (.sl (rows ZA W))),(19,.x (.sl (rows ZA W))),(20,.x (.int .i64 W.length)),(21,.x (.int .i64 i))]/\os= [Kc LT MT m B,Kp L M,.rows false 66 2 (rows rP2 acc)]/\i<=W.length/\acc.length<=i*1100/\twL (fU L m n) W=acc++twL (fU L m n) (W.drop i)) (ZK W.length 21) ?_ (λφ os hI=> ?_)
 .exact⟨0,[],rfl,rfl,J0,J1,J1⟩
 .obtain⟨i,acc,rfl,rfl,hi,hac,htw⟩:=hI;refine nz ?_;refine rg tT [0,1,2,7,8,19,20,21,22] ?_;refine cd (λh0=> ?_) (λh0=> ?_)
  .have hi4:i<W.length:=by clear uu;omega
   have hrw:=ZGk W i hi4;have htd:=Zbe (fU L m n) W i hi4;have hsa:=hsm (W.getD i []) (by rw[show W.getD i []=W[i] by simp[hi4]];exact YM hi4);generalize W.getD i []=a at hrw htd hsa;have hug:ZV ZQ (rows ZQ (QV m a).2.1)=some (QV m a).2.1:=Zf Zr _;have hd1:decide ((i:Int)+1<=(W.length:Int))=true:=ZL J0;have e1:((i:Int)+1).toNat=i+1:=by omega
   have uu:=ξ5 uu hrw hug hd1 e1;refine rg tT [0,1,2,7,8,9,10,19,20,21] ?_;refine rg tT [0,1,2,7,8,9,10,11,19,20,21] ?_;refine rg tT [0,1,2,7,8,10,11,19,20,21,35,36,37] ?_;refine WI.orderA [0,1,2,7,8,10,11,19,20,21,35,36,37] ?_;have hRl:(W.drop (i+1)).length=W.length-(i+1):=Jj;have hsR: ∀x∈W.drop (i+1),QJ (QV m x).2.1:=λx hx=>hsm x (ZB0 hx)
   generalize hRe:W.drop (i+1)=R at hRl hsR htd|-;have hrR:=Zh ZA R;have uu:=YZ uu hrR;refine WI.loop (λφ os=> ∃(k:Nat) (acc2:List (Tx×Tx×Unit)),φ= [(0,.iref 0 0),(1,.iref 1 1),(2,.x (.str n)),(7,.ref 2 acc2.length 0 acc2.length),(8,.x (.sl (rows ZA W))),(10,.x (.str a)),(11,.ptr 3 0),(19,.x (.sl (rows ZA W))),(20,.x (.int .i64 W.length)),(21,.x (.int .i64 i)),(35,.x (.sl (rows ZA R))),(36,.x (.int .i64 R.length)),(37,.x (.int .i64 k))]/\os= [Kc LT MT m B,Kp L M,.rows false 66 2 (rows rP2 acc2),.box [.x (.str (QV m a).1),.x (.sl (rows ZQ (QV m a).2.1))]]/\k<=R.length/\acc2.length<=acc.length+k/\acc2=acc++((R.take k).filter (fU L m n a)).map λb=>(a,b,())) (ZK R.length 37) ?_ (λφ os hI=> ?_)
   .exact⟨0,acc,rfl,rfl,J0,J0,J1⟩
   .obtain⟨k,acc2,rfl,rfl,hk,hak,hac2⟩:=hI;refine nz ?_;refine rg tT [0,1,2,7,8,10,11,19,20,21,35,36,37,38] ?_;refine cd (λh1=> ?_) (λh1=> ?_)
    .have hk4:k<R.length:=by clear uu;omega
     have hrw2:=ZGk R k hk4;have hst:=Zb4 (λb=>((a,b,()):Tx×Tx×Unit)) (fU L m n a) R k [] hk4;have hsb:=hsR (R.getD k []) (by rw[show R.getD k []=R[k] by simp[hk4]];exact YM hk4);generalize R.getD k []=b at hrw2 hst hsb;have hub:ZV ZQ (rows ZQ (QV m b).2.1)=some (QV m b).2.1:=Zf Zr _;have hra:=Zh rP2 acc2;have c4:decide (1= [n].length/\1= [n].length/\QJ (QV m a).2.1/\QJ (QV m b).2.1/\ [n].length<=1000000/\ ∀x∈ [n],x.length<=1000000)=true:=ZL ⟨rfl,rfl,hsa,hsb,J1,by simpa using hn⟩;have uu:=ξ5 uu hrw2 hub c4 hra;refine rg tT [0,1,2,7,8,10,11,14,19,20,21,35,36,37] ?_;refine rg tT [0,1,2,7,8,10,11,14,15,19,20,21,35,36,37] ?_;refine rg tT [0,1,2,7,8,10,11,14,19,20,21,35,36,37,52] ?_;refine cd (λh2=> ?_) (λh2=> ?_)
     .have hx:fU L m n a b=true:=by clear uu;exact h2
      refine rg tT [0,1,2,7,8,10,11,19,20,21,35,36,37] ?_;refine WI.pickA [0,1,2,3] ?_;refine WI.orderA [0,1,2,7,8,10,11,19,20,21,35,36,37] ?_;refine rg tT [0,1,2,7,8,10,11,19,20,21,35,36,37] ?_
      first|exact⟨⟨k+1,acc2++ [(a,b,())],by rw[Zg];first|done|rfl,by rw[<-ZOB];first|done|rfl,J0,by rw[Zg,ZKx];omega,by rw[hst,if_pos hx,hac2,Yp]⟩,by simp[ZK,Ab.get,D.val,ZE];omega⟩|exact⟨⟨k+1,acc2,rfl,rfl,J0,J0,by rw[hst,if_neg hx,Kj];exact hac2⟩,by simp[ZK,Ab.get,D.val,ZE];omega⟩
     .have hx: ¬fU L m n a b=true:=by clear uu;unfold fU;simpa using h2
      refine WI.pickA [0,1,2,3] ?_;refine WI.orderA [0,1,2,7,8,10,11,19,20,21,35,36,37] ?_;refine rg tT [0,1,2,7,8,10,11,19,20,21,35,36,37] ?_
      first|exact⟨⟨k+1,acc2++ [(a,b,())],by rw[Zg];first|done|rfl,by rw[<-ZOB];first|done|rfl,J0,by rw[Zg,ZKx];omega,by rw[hst,if_pos hx,hac2,Yp]⟩,by simp[ZK,Ab.get,D.val,ZE];omega⟩|exact⟨⟨k+1,acc2,rfl,rfl,J0,J0,by rw[hst,if_neg hx,Kj];exact hac2⟩,by simp[ZK,Ab.get,D.val,ZE];omega⟩
    .obtain rfl:k=R.length:=by clear uu;omega
     rw[JS]at hac2;have hac3:acc2.length<=(i+1)*1100:=by omega
     have htw2:twL (fU L m n) W=acc2++twL (fU L m n) R:=by rw[htw,htd,hac2,Yp]
     refine WI.pickA [0,1,2] ?_;refine WI.orderA [0,1,2,7,8,19,20,21] ?_;refine rg tT [0,1,2,7,8,19,20,21] ?_;exact⟨⟨i+1,acc2,rfl,rfl,J0,hac3,by rw[hRe];exact htw2⟩,by simp[ZK,Ab.get,D.val,ZE];omega⟩
  .obtain rfl:i=W.length:=by clear uu;omega
   rw[List.drop_length]at htw;have htw3:twL (fU L m n) W=acc:=by rw[htw];simp[twL]
   rw[htw3];refine rg tT [6] ?_;refine lf ?_;exact⟨rfl,_,rfl⟩
def ZEa:Bool->Tx->Tx
 |_,[]=> []
 |f,c::r=>ZDt c f (decide (r= []))++ZEa false r
theorem ZXK(s:Tx): ∀j,j<=s.length->ZAc s j++ZEa (decide (j=0)) (s.drop j)=ZEa true s
 |0,_=>rfl
 |j+1,h=>by
  have ih:=ZXK s j J0;rw[Kx s j J0,ZEa]at ih;have h1:(s.drop (j+1)= [])=(j+1=s.length):=by simp;omega
  simp only[h1]at ih;rw[ZAc,ZAO,Yp];exact ih
theorem ZYv(s:Tx):ZDL s=ZEa true s:=by
 have:=ZXK s s.length (Zm _);rw[List.drop_length]at this;rw[<-this];simp[ZDL,ZEa]
def vl(r b:Tx)(e:Nat):Option (Tx×Nat):=JT (r.length+1) r b e
theorem ZNg{n:Nat}{r b:Tx}{e:Nat}(h:r.length<n):JT n r b e=vl r b e:=ZJh _ _ _ _ _ h (Nat.lt_succ_self _)
theorem ZMc: ∀n:Fin 16,ZHb (dgD n.val)=false/\ZBU (dgD n.val).toNat=(n.val,true)/\dgD n.val≠92/\dgD n.val≠43/\dgD n.val≠44:=by decide+kernel
theorem ZgL(c:UInt8):orB (c.toNat/16) (c.toNat % 16)=c:=by
 unfold orB;apply ZMx.1;have:=ZD0 c;simp;omega
theorem Zhd(c:UInt8)(l:Bool)(r b:Tx)(e:Nat):vl (ZDt c (decide (b.length=0)) l++r) b e=vl r (b++ [c]) (if c=32/\slD c (decide (b.length=0)) l=false then e else b.length+1):=by
 have hc:=ZD0 c;unfold ZDt;by_cases h1:ZJT c=true
 .rw[if_pos h1];have h32: ¬c=32:=λh=>by subst h;revert h1;decide
  rw[if_neg (λh=>h32 h.1)];obtain⟨a1,a2,a3,_⟩:=ZMc ⟨c.toNat/16,J0⟩;obtain⟨b1,b2,b3,_⟩:=ZMc ⟨c.toNat % 16,J0⟩;simp only at a1 a2 b1 b2;have he:KD (dgD (c.toNat/16)::dgD (c.toNat % 16)::r)=(c,2,true):=by
   unfold KD;rw[if_neg J1];simp only[ZLF,ZSo,a1,a2,b2,JP,if_false,Bool.true_eq_false,false_or,JG];rw[if_neg J0,ZgL]
  show JT ([92,dgD (c.toNat/16),dgD (c.toNat % 16)]++r).length.succ (92::dgD (c.toNat/16)::dgD (c.toNat % 16)::r) b e=_;rw[JT,if_pos rfl,he,if_pos rfl];exact ZNg (by simp<;>omega)
 .rw[if_neg h1];by_cases h2:slD c (decide (b.length=0)) l=true
  .rw[if_pos h2,if_neg (by rw[h2];simp)];have hf:ZHb c=true:=by
    unfold slD at h2;unfold ZHb;simp only[ZBX,ZT,Zc]at h2|-;rcases h2 with h2|⟨_,h2|h2⟩|⟨_,h2⟩
    .exact .inl (.inl h2)
    .exact .inl (.inr J0)
    .exact .inr J0
    .exact .inl (.inr J0)
   have he:KD (c::r)=(c,1,true):=by
    unfold KD;rw[if_neg J1,ZLF,if_pos hf]
   show JT ([92,c]++r).length.succ (92::c::r) b e=_;rw[JT,if_pos rfl,he,if_pos rfl];exact ZNg (by simp<;>omega)
  .rw[if_neg h2];have h3:spc c.toNat=false:=by
    cases hs:spc c.toNat
    .rfl
    .exact absurd (by unfold slD;rw[hs];rfl) h2
   have h4:b.length=0->c.toNat≠35:=λhz h35=>h2 (by unfold slD;simp[hz,h35])
   have h92: ¬c=92:=λh=>by subst h;revert h3;decide
   have hb:ZIX c.toNat (decide (b.length=0))=false:=by
    unfold ZJT at h1;simp only[ZBX,Zc,not_or]at h1;unfold ZIX;simp only[ZTa,ZWX,decide_eq_false_iff_not];refine⟨⟨⟨J0,J0⟩,.inr h3⟩,?_⟩;by_cases hz:b.length=0
    .right;exact h4 hz
    .left;simpa using hz
   show JT ([c]++r).length.succ (c::r) b e=_;rw[JT,if_neg h92,hb,if_neg J1];by_cases h32:c=32
   .rw[if_pos h32,if_pos ⟨h32,by simpa using h2⟩];exact ZNg (by simp<;>omega)
   .rw[if_neg h32,if_neg (λh=>h32 h.1)];exact ZNg (by simp<;>omega)
theorem ZXJ: ∀(s b:Tx) (e:Nat),vl (ZEa (decide (b.length=0)) s) b e=some (b++s,if s= []then e else b.length+s.length)
 | [],b,e=>by rw[Kj,if_pos rfl];rfl
 |c::r,b,e=>by
  have ih:=ZXJ r (b++ [c]) (if c=32/\slD c (decide (b.length=0)) (decide (r= []))=false then e else b.length+1);rw[show decide ((b++ [c]).length=0)=false by simp]at ih;rw[ZEa,Zhd,ih]
  conv=>rhs;rw[if_neg J1]
  rcases r with _|⟨d,r⟩
  .rw[if_pos rfl];have: ¬(c=32/\slD c (decide (b.length=0)) (decide (([]:Tx)= []))=false):=by
    rintro⟨rfl,h⟩
    revert h
    simp[slD]
   rw[if_neg this];simp
  .rw[if_neg J1];simp;omega
theorem ZeZ(c:UInt8)(r:Tx):trL (ZEa true (c::r))=ZEa true (c::r):=by
 rw[ZEa];unfold ZDt;split
 .rw[Qi,ZCd,if_neg (by decide)]
 .split
  .rw[Qi,ZCd,if_neg (by decide)]
  .rename_i h1 h2;rw[Qi,ZCd,if_neg];rintro rfl;exact h2 (by simp[slD])
theorem ZYk{v:Tx}(h:v≠ []):ZF4 (ZDL v)=(v,true):=by
 obtain⟨c,r,rfl⟩:=List.exists_cons_of_ne_nil h;unfold ZF4;rw[ZYv,ZeZ];have:=ZXJ (c::r) [] 0;rw[if_neg h]at this;unfold vl at this;rw[show JT ((ZEa true (c::r)).length+1) (ZEa true (c::r)) [] 0=_ from this];simp
def ZA3(a:UInt8)(x:Tx):Prop:= ∀y,YR a (x++y)=pre x (YR a y)
theorem ZKj(a:UInt8):ZA3 a []:=λy=>(ZPT _ (ZJN a y)).symm
theorem ZCi{a:UInt8}{x y:Tx}(h1:ZA3 a x)(h2:ZA3 a y):ZA3 a (x++y):=λz=>by
 rw[Yp,h1,h2,ZPh _ _ _ (ZJN _ _)]
theorem ZFj{a c:UInt8}(h1:c≠92)(h2:c≠a):ZA3 a [c]:=λy=>by
 show YR a (c::y)=_
 conv=>lhs;unfold YR
 rw[if_neg h1,if_neg h2]
theorem ZPr(a c:UInt8):ZA3 a [92,c]:=λy=>by
 show YR a (92::c::y)=_
 conv=>lhs;unfold YR
 rw[if_pos rfl]
theorem ZXF{a:UInt8}(ha:a≠92){x:Tx}(h:ZA3 a x)(y:Tx):YR a (x++a::y)=x::YR a y:=by
 rw[h]
 conv=>lhs;arg 2;unfold YR
 rw[if_neg ha,if_pos rfl];simp[pre]
theorem ZW4{a:UInt8}{x:Tx}(h:ZA3 a x):YR a x= [x]:=by
 have:=h [];rw[Kj]at this;rw[this];show pre x [[]]= [x];simp[pre]
theorem ZOz{a:UInt8}(ha:a≠92): ∀l:List Tx,l≠ []->(∀x∈l,ZA3 a x)->YR a (QI a l)=l
 | [],h,_=>absurd rfl h
 | [x],_,h=>ZW4 (h x (List.mem_singleton_self x))
 |x::y::r,_,h=>by
  rw[ZAx a J1,ZXF ha (h x J1),ZOz ha (y::r) J1 (λz hz=>h z (ZBB _ hz))]
theorem ZPs{a b:UInt8}(hb:b≠92)(hab:b≠a): ∀l:List Tx,(∀x∈l,ZA3 a x)->ZA3 a (QI b l)
 | [],_=>ZKj a
 | [x],h=>h x (List.mem_singleton_self x)
 |x::y::r,h=>by
  rw[ZAx b J1,show x++b::QI b (y::r)=x++([b]++QI b (y::r))from rfl];exact ZCi (h x J1) (ZCi (ZFj hb hab) (ZPs hb hab (y::r) (λz hz=>h z (ZBB _ hz))))
theorem ZW9{a:UInt8}(ha:a=43\/a=44)(c:UInt8)(f l:Bool):ZA3 a (ZDt c f l):=by
 have hc:=ZD0 c;unfold ZDt;split
 .obtain⟨_,_,b3,b4,b5⟩:=ZMc ⟨c.toNat % 16,J0⟩;exact ZCi (x:= [92,dgD (c.toNat/16)]) (y:= [dgD (c.toNat % 16)]) (ZPr a _) (ZFj b3 (by rcases ha with rfl|rfl;exact b4;exact b5))
 .split
  .exact ZPr a c
  .rename_i h;have h3: ¬spc c.toNat=true:=λh3=>h (by simp[slD,h3])
   refine ZFj (λe=> ?_) (λe=> ?_)
   .subst e;exact h3 (by decide)
   .subst e;rcases ha with rfl|rfl<;>exact h3 (by decide)
theorem ZOn{a:UInt8}(ha:a=43\/a=44): ∀(s:Tx) (f:Bool),ZA3 a (ZEa f s)
 | [],f=>ZKj a
 |c::r,f=>ZCi (ZW9 ha c f _) (ZOn ha r false)
theorem ZMW{a:UInt8}: ∀s:Tx,(∀c∈s,c≠92/\c≠a)->ZA3 a s
 | [],_=>ZKj a
 |c::r,h=>ZCi (x:= [c]) (ZFj (h c J1).1 (h c J1).2) (ZMW r (λx hx=>h x (ZBB _ hx)))
theorem ZUm(s:Tx): ∀n,n<=s.length->tyU s n=true-> ∀c∈s.take n,ZPE c.toNat=true\/ZPI c.toNat=true
 |0,_,_,c,hc=>by simp at hc
 |n+1,hn,hg,c,hc=>by
  rw[tyU,ZT]at hg;rw[Jg J0,Km,ξZ]at hc;rcases hc with hc|rfl
  .exact ZUm s n J0 hg.1 c hc
  .have:=hg.2;rw[show s.getD n 0=s[n] by simp[show n<s.length by omega]]at this;unfold tyC at this;simp only[ZBX,ZT]at this;rcases this with h|h
   .exact .inl h
   .exact .inr h.2
theorem ZRa{s:Tx}(h:JJ s=true): ∀c∈s,ZPE c.toNat=true\/ZPI c.toNat=true:=by
 unfold JJ tyA at h;simp only[ZT]at h;intro c hc;exact ZUm s s.length (Zm _) h.2 c (by rw[JS];exact hc)
theorem ZZC{c:UInt8}(h:ZPE c.toNat=true\/ZPI c.toNat=true):c≠92/\c≠43/\c≠44/\c≠61/\c≠32:=by
 refine⟨?_,?_,?_,?_,?_⟩<;>rintro rfl<;>revert h<;>decide
theorem ZUi{c:UInt8}: ∀(t u:Tx),c∉t->KU c (t++c::u)=(t,u,true)
 | [],u,_=>by simp[KU]
 |b::t,u,h=>by
  have h1: ¬b=c:=λe=>h (by simp[e])
  rw[Qi,KU,if_neg h1,ZUi t u (λhm=>h (ZBB _ hm))]
theorem Zdm{l:Tx}(h: ∀c∈l,c≠32):l.dropWhile (· ==32)=l:=by
 cases l with
 |nil=>rfl
 |cons c l=>rw[ZVt,if_neg (by simpa using h c J1)]
theorem Zf5{t:Tx}(h: ∀c∈t,c≠32):ZEP t=t:=by
 have h1:trR t=t:=by
  unfold trR;rw[Zdm (λc hc=>h c (List.mem_reverse.1 hc)),List.reverse_reverse]
 unfold ZEP trL;rw[h1,Zdm h]
theorem ZYY{p:Av}(ht:JJ p.1=true)(hv:p.2≠ []):Yw (QT p)=(p,true):=by
 have hm:=λ(c:UInt8) (hc:c∈p.1)=>ZZC (ZRa ht c hc)
 have hc:KU 61 (QT p)=(p.1,ZDL p.2,true):=by
  unfold QT;rw[Yp];exact ZUi _ _ (λh=>(hm _ h).2.2.2.1 rfl)
 have htr:ZEP p.1=p.1:=Zf5 λc h=>(hm c h).2.2.2.2
 unfold Yw;rw[hc];simp only[htr,ht,ZYk hv];simp
theorem ZQ8{a:UInt8}(ha:a=43\/a=44){p:Av}(ht:JJ p.1=true):ZA3 a (QT p):=by
 unfold QT;rw[ZYv];refine ZCi (ZCi (ZMW _ λc hc=> ?_) (ZFj (by decide) (by rcases ha with rfl|rfl<;>decide))) (ZOn ha _ _);have:=ZZC (ZRa ht c hc);rcases ha with rfl|rfl
 .exact⟨this.1,this.2.1⟩
 .exact⟨this.1,this.2.2.1⟩
theorem ZEw{r:List Av}(h:Yh r=true):r≠ []/\r.length<=8/\ ∀p∈r,JJ p.1=true/\p.2≠ []:=by
 unfold Yh at h;simp only[ZT,Zc]at h;refine⟨λe=>by rw[e]at h;simp at h,h.2.2,λp hp=> ?_⟩;obtain⟨j,hj,rfl⟩:=ZM5.1 hp;have h1:=ZRe r _ j h.1 hj;unfold ZAB at h1;rw[show r.getD j ([],[])=r[j] by simp[hj]]at h1;simp only[ZT]at h1;exact⟨h1.1,by simpa using h1.2.1⟩
theorem ZY5{r:List Av}(h:Yh r=true):ZA3 44 (Yn r):=
 ZPs (by decide) (by decide) _ λx hx=>by
  obtain⟨p,hp,rfl⟩:=YT.1 hx;exact ZQ8 (.inr rfl) ((ZEw h).2.2 p hp).1
theorem ZYl{r:List Av}(h:Yh r=true):Zk (Yn r)=(r,true):=by
 obtain⟨h0,_,h2⟩:=ZEw h;have hl:ZFO (Yn r)=r.map λp=>(p,true):=by
  unfold ZFO Yn;rw[ZOz (by decide) _ (by simpa using h0) (λx hx=>by
   obtain⟨p,hp,rfl⟩:=YT.1 hx;exact ZQ8 (.inl rfl) (h2 p hp).1),Js]
  exact ZBF λp hp=>ZYY (h2 p hp).1 (h2 p hp).2
 unfold Zk;rw[hl,if_pos J1,Js];exact congrArg (·,true) (List.map_id' _)
theorem ZE2{d:Dn}(h:Jb d=0):d.length<=32/\ ∀r∈d,Yh r=true:=by
 unfold Jb at h;split at h
 .cases h
 .split at h
  .rename_i h1 h2;exact⟨J0,Yc.1 h2⟩
  .cases h
theorem Zhh(p:Av):QT p≠ []:=by unfold QT;simp
theorem ZTi{r:List Av}(h:r≠ []):Yn r≠ []:=by
 obtain⟨p,r,rfl⟩:=List.exists_cons_of_ne_nil h;unfold Yn;cases r with
 |nil=>exact Zhh p
 |cons q r=>rw[YO,ZAx 43 J1];simp
theorem ZZ6: ∀ {d:Dn} {n:Nat},(∀r∈d,r.length<=n)->mxD d<=n
 | [],n,_=>by simp[mxD]
 |r::d,n,h=>by
  have h1:=h r J1;have h2:=ZZ6 (d:=d) (λx hx=>h x (ZBB _ hx));rw[mxD];omega
theorem ZQj{d:Dn}(h:Jb d=0)(hl:(KV d).length<=4096):YN (KV d)=(d,0):=by
 obtain⟨h1,h2⟩:=ZE2 h;cases d with
 |nil=>rfl
 |cons r d=>
  have hr:=h2 r J1;have hne:KV (r::d)≠ []:=by
   unfold KV;cases d with
   |nil=>exact ZTi (ZEw hr).1
   |cons q d=>rw[YO,ZAx 44 J1];simp
  have hL:ZCN (KV (r::d))=(r::d).map λr=>(r,true):=by
   unfold ZCN KV;rw[ZOz (by decide) _ J1 (λx hx=>by
    obtain⟨q,hq,rfl⟩:=YT.1 hx;exact ZY5 (h2 q hq)),Js]
   exact ZBF λq hq=>ZYl (h2 q hq)
  have hn:ZAk (KV (r::d))=r::d:=by unfold ZAk;rw[hL,Js];exact List.map_id' _
  unfold YN;rw[if_neg J0,if_neg hne,hL,if_pos J1,hn,if_neg (by have:=ZZ6 (d:=r::d) (n:=8) (λx hx=>(ZEw (h2 x hx)).2.1);omega),if_neg (by rw[h];simp)]
structure NmD (s:Tx) (d:Dn):Prop where
 rd:YN s=(d,0)
 nam:s=KV d
 chk:Jb d=0
 nrm:d.map Jk=d
 full:d.all KB=true
 len:s.length<=4096
theorem ZZ7{s:Tx}(h:okS s=true): ∃d,NmD s d:=by
 have hr:=ZRN h;have hno:JA s=(s,0):=of_decide_eq_true h;unfold JA at hno;rw[if_neg (by rw[hr];simp)]at hno;split at hno
 .rename_i hf;unfold QU at hno;split at hno
  .rename_i h1;exact absurd (congrArg Prod.snd hno) h1
  .rename_i h1;split at hno
   .cases hno
   .rename_i h2;have hs:KV ((YN s).1.map Jk)=s:=congrArg Prod.fst hno;have hb:=ZQj (ZIC.1 h1) J0;rw[hs]at hb;have hd:(YN s).1.map Jk=(YN s).1:=by
     conv=>rhs;rw[hb]
    refine⟨(YN s).1,?_,?_,?_,hd,hf,by rw[<-hs];omega⟩
    .exact ZCh rfl hr
    .rw[hd]at hs;exact hs.symm
    .rw[hd]at h1;exact ZIC.1 h1
 .cases hno
theorem NmD.ok{s:Tx}{d:Dn}(h:NmD s d):okS s=true:=by
 refine ZL ?_;unfold JA;rw[h.rd];simp only[ne_eq,not_true_eq_false,if_false,h.full,if_true,h.nrm];unfold QU;rw[if_neg (by rw[h.chk];simp),if_neg (by have:=h.len;rw[h.nam]at this;omega),<-h.nam]
theorem ZW5{d:Dn}(h1:d.length<=32)(h2: ∀r∈d,Yh r=true):Jb d=0:=by
 unfold Jb;rw[if_neg J0,if_pos (Yc.2 h2)]
theorem ZML{a:UInt8}: ∀ {l:List Tx} {x:Tx},x∈l->x.length<=(QI a l).length
 | [y],x,h=>by rw[ξZ.1 h];exact Zm _
 |y::z::r,x,h=>by
  rw[ZAx a J1,Zg,JG];rcases Kr.1 h with rfl|h
  .omega
  .have:=ZML (a:=a) h;omega
theorem NmD.parts{s:Tx}{d:Dn}(h:NmD s d):YQ s=d.map Yn:=by
 unfold YQ;rw[if_pos h.ok,h.rd];refine ZBF λr hr=> ?_
 have h1:=(ZE2 h.chk).2 r hr;have h2:Jb [r]=0:=ZW5 J1 (by simpa using h1);have h3:(Yn r).length<=s.length:=by
  rw[h.nam];exact ZML (YT.2 ⟨r,hr,rfl⟩)
 have:=h.len;unfold QU;rw[if_neg (by rw[h2];simp),if_neg (by show ¬(Yn r).length>4096;omega)];rfl
theorem NmD.tail{s:Tx}{r:List Av}{d:Dn}(h:NmD s (r::d)):NmD (KV d) d:=by
 obtain⟨h1,h2⟩:=ZE2 h.chk;have hc:Jb d=0:=ZW5 (by simp at h1;omega) (λx hx=>h2 x (ZBB _ hx));have hl:(KV d).length<=4096:=by
  have:=h.len;rw[h.nam]at this;unfold KV at this|-;cases d with
  |nil=>simp[QI]
  |cons q d=>rw[YO,ZAx 44 J1,Zg,JG]at this;omega
 have hn:=h.nrm;rw[YO,ZF1]at hn;have hf:=h.full;rw[ZAe,ZT]at hf;exact⟨ZQj hc hl,rfl,hc,hn.2,hf.2,hl⟩
theorem ZPa{s:Tx}(h:Ke s=true): ∃r d,NmD s (r::d)/\YL s=Yn r/\YV s=KV d:=by
 have h0:YQ s≠ []:=of_decide_eq_true h;have hok:okS s=true:=by
  cases e:okS s
  .exact absurd (by unfold YQ;rw[e];rfl) h0
  .rfl
 obtain⟨d,hd⟩:=ZZ7 hok;have hp:=hd.parts;cases d with
 |nil=>rw[hp]at h0;exact absurd rfl h0
 |cons r d=>
  refine⟨r,d,hd,?_,?_⟩
  .unfold YL;rw[hp];rfl
  .unfold YV;rw[hp];rfl
theorem ZbL{d:Dn}(h: ∀r∈d,Yh r=true):KV d= []↔d= []:=by
 constructor
 .intro e;cases d with
  |nil=>rfl
  |cons r d=>
   have h1:=(ZEw (h r J1)).1;unfold KV at e;cases d with
   |nil=>exact absurd e (ZTi h1)
   |cons q d=>rw[YO,ZAx 44 J1]at e;simp at e
 .rintro rfl;rfl
theorem ZPW{s:Tx}(h:Ke s=true):s=if YV s= []then YL s else YL s++44::YV s:=by
 obtain⟨r,d,hd,h1,h2⟩:=ZPa h;have hm:=(ZE2 hd.chk).2;rw[h1,h2]
 conv=>lhs;rw[hd.nam]
 cases d with
 |nil=>rfl
 |cons q d=>
  rw[if_neg (λe=>by have:=(ZbL (λx hx=>hm x (ZBB _ hx))).1 e;cases this)];unfold KV;rw[YO,ZAx 44 J1]
theorem ZbY{s t:Tx}(h1:Ke s=true)(h2:Ke t=true)(hl:YL s=YL t)(hp:YV s=YV t):s=t:=by
 rw[ZPW h1,ZPW h2,hl,hp]
theorem ZhT{s:Tx}(h:Ke s=true):YV s≠s:=by
 intro e;have h1:=ZPW h;obtain⟨r,d,hd,h3,h4⟩:=ZPa h;have h5:=ZTi (ZEw ((ZE2 hd.chk).2 r J1)).1;split at h1
 .rename_i h6;rw[e]at h6;rw[h3]at h1;exact h5 (h1.symm.trans h6)
 .have:=congrArg List.length h1;rw[Zg,JG,e]at this;omega
def ZC4(s:Tx):Nat:=(YQ s).length
theorem ZHx{s:Tx}(h:Ke s=true):ZC4 s=ZC4 (YV s)+1/\ZC4 s<=32:=by
 obtain⟨r,d,hd,h1,h2⟩:=ZPa h;have h3:=(ZE2 hd.chk).1;unfold ZC4;rw[h2,hd.parts,hd.tail.parts];simp at h3|-;omega
structure InvT (m:EM) (B:BM):Prop where
 ln:m.length<=1024
 kn:(m.map (·.1)).Nodup
 key: ∀p∈m,p.2.1=p.1/\Ke p.1=true/\QJ p.2.2.1
 par: ∀s∈m.map (·.1),YV s= []\/YV s∈m.map (·.1)
 bn:(B.map (·.1)).Nodup
 so: ∀b∈B,SoL b.2
 row: ∀p s,s∈Yf B p↔s∈m.map (·.1)/\YV s=p
theorem ZfW:InvT [] []:=⟨J1,.nil,J1,J1,.nil,J1,λp s=>by simp[Yf,ZJ]⟩
theorem ZZw{l:List Tx}(h:SoL l):l.Nodup:=h.imp λ{a b} hab e=>by rw[e,bl_irr]at hab;cases hab
theorem ZHY{α:Type}[DecidableEq α]: ∀(l l':List α),l.Nodup->(∀x∈l,x∈l')->l.length<=l'.length
 | [],_,_,_=>by simp
 |x::l,l',hn,hs=>by
  have h0:=hs x J1;have ih:=ZHY l (l'.erase x) (ZBV.1 hn).2 (λy hy=>(List.mem_erase_of_ne (λe=>(ZBV.1 hn).1 (by rw[<-e];exact hy))).2 (hs y (ZBB _ hy)));rw[List.length_erase_of_mem h0]at ih;have:=List.length_pos_of_mem h0;rw[JG];omega
section
variable {m:EM} {B:BM}
theorem InvT.has(h:InvT m B){s:Tx}(hs:s∈m.map (·.1)):Ke s=true:=by
 obtain⟨p,hp,rfl⟩:=YT.1 hs;exact(h.key p hp).2.1
theorem ZXh{B:BM}(hn:(B.map (·.1)).Nodup){b:Tx×List Tx}(hb:b∈B):Yf B b.1=b.2:=by
 unfold Yf;rw[ZBO hn (k:=b.1) (v:=b.2) hb];rfl
theorem InvT.rowNd(h:InvT m B)(p:Tx):(Yf B p).Nodup:=by
 unfold Yf;cases e:ZJ B p with
 |none=>exact ZSg
 |some l=>exact ZZw (h.so _ (Qm e))
theorem InvT.rowSo(h:InvT m B)(p:Tx):SoL (Yf B p):=by
 unfold Yf;cases e:ZJ B p with
 |none=>exact .nil
 |some l=>exact h.so _ (Qm e)
theorem InvT.rowLe(h:InvT m B)(p:Tx):(Yf B p).length<=1024:=by
 have:=ZHY _ _ (h.rowNd p) (λx hx=>((h.row p x).1 hx).1);rw[Yb]at this;have:=h.ln;omega
theorem InvT.ok(h:InvT m B):okT m B:=by
 refine⟨h.bn,λb hb=>⟨h.so b hb,?_⟩,λp hp=>(h.key p hp).2.2,by have:=h.ln;omega⟩;have:=h.rowLe b.1;rw[ZXh h.bn hb]at this;omega
theorem InvT.up(h:InvT m B){p s:Tx}(hs:s∈Yf B p):YV s=p/\ZC4 s=ZC4 p+1/\ZC4 s<=32/\s∈m.map (·.1):=by
 obtain⟨h1,h2⟩:=(h.row p s).1 hs;have:=ZHx (h.has h1);exact⟨h2,by rw[<-h2];exact this.1,this.2,h1⟩
theorem InvT.deep(h:InvT m B): ∀(k:Nat) (n:Tx),33<=ZC4 n+k->deep B k n
 |0,n,hk=>by
  refine ZhH.2 λs hs=> ?_
  have:=h.up hs;omega
 |k+1,n,hk=>λs hs=>h.deep k s (by have:=(h.up hs).2.1;omega)
def ZRK:Nat->Tx->Tx
 |0,x=>x
 |j+1,x=>YV (ZRK j x)
theorem InvT.walkUp(h:InvT m B): ∀(k:Nat) (n x:Tx),x∈YP B k n-> ∃j,x∈m.map (·.1)/\ZRK (j+1) x=n/\ZC4 x=ZC4 n+j+1
 |0,n,x,hx=>by cases hx
 |k+1,n,x,hx=>by
  obtain⟨s,hs,hx⟩:=ZJl.1 hx;have hu:=h.up hs;rcases Kr.1 hx with rfl|hx
  .exact⟨0,hu.2.2.2,hu.1,J0⟩
  .obtain⟨j,h1,h2,h3⟩:=h.walkUp k s x hx;exact⟨j+1,h1,by show YV (ZRK (j+1) x)=n;rw[h2];exact hu.1,J0⟩
theorem InvT.walkNd(h:InvT m B): ∀(k:Nat) (n:Tx),(YP B k n).Nodup
 |0,n=>ZSg
 |k+1,n=>by
  refine List.pairwise_flatMap.2 ⟨λs hs=>ZBV.2 ⟨λhx=> ?_,h.walkNd k s⟩,?_⟩
  .obtain⟨j,_,_,h3⟩:=h.walkUp k s s hx;omega
  .have hself: ∀s∈Yf B n,∀x∈s::YP B k s,∃i,ZRK i x=s/\ZC4 x=ZC4 n+1+i:=λs hs x hx=>by
    have hu:=h.up hs;rcases Kr.1 hx with rfl|hx
    .exact⟨0,rfl,J0⟩
    .obtain⟨j,_,h2,h3⟩:=h.walkUp k s x hx;exact⟨j+1,h2,J0⟩
   refine(ZJ6.2 λi j hi hj hij=> ?_);intro x hx y hy e;subst e;obtain⟨a,ha,ha2⟩:=hself _ (YM hi) x hx;obtain⟨b,hb,hb2⟩:=hself _ (YM hj) x hy;obtain rfl:a=b:=by omega
   have:=(ZJ6.1 (h.rowNd n)) i j hi hj hij;exact this (ha.symm.trans hb)
theorem ZXb{k:Nat}: ∀ {n y x:Tx},y∈YP B k n->x∈Yf B y->x∈YP B (k+1) n:=by
 induction k with
 |zero=>intro n y x hy _;cases hy
 |succ k ih=>
  intro n y x hy hx;obtain⟨s,hs,hy⟩:=ZJl.1 hy;refine ZJl.2 ⟨s,hs,ZBB _ ?_⟩;rcases Kr.1 hy with rfl|hy
  .exact ZJl.2 ⟨x,hx,ZCa ..⟩
  .exact ih hy hx
theorem InvT.walkAll(h:InvT m B): ∀(k:Nat) (x:Tx),x∈m.map (·.1)->ZC4 x<=k->x∈YP B k []
 |0,x,hx,hk=>by have:=ZHx (h.has hx);omega
 |k+1,x,hx,hk=>by
  have hp:=ZHx (h.has hx);rcases h.par x hx with h1|h1
  .exact ZJl.2 ⟨x,(h.row [] x).2 ⟨hx,h1⟩,ZCa ..⟩
  .exact ZXb (h.walkAll k _ h1 J0) ((h.row _ x).2 ⟨hx,rfl⟩)
theorem InvT.walkMem(h:InvT m B)(x:Tx):x∈YP B 40 []↔x∈m.map (·.1):=
 ⟨λhx=>(h.walkUp 40 [] x hx).elim λj hj=>hj.1,λhx=>h.walkAll 40 x hx (by have:=(ZHx (h.has hx)).2;omega)⟩
theorem InvT.walkLen(h:InvT m B):(YP B 40 []).length=m.length:=by
 have h1:=ZHY _ _ (h.walkNd 40 []) (λx hx=>(h.walkMem x).1 hx);have h2:=ZHY _ _ h.kn (λx hx=>(h.walkMem x).2 hx);rw[Yb]at h1 h2;omega
theorem InvT.okWn(h:InvT m B)(n:Tx):okW 40 m B n:=by
 refine⟨h.ok,(ZLo B 40 n).2 (h.deep 40 n J0),?_⟩;have h1:=ZHY _ _ (h.walkNd 40 n) (λx hx=>(h.walkUp 40 n x hx).elim λj hj=>hj.1);rw[Yb]at h1;have:=h.ln;omega
theorem ZRv(A:List (Tx×KG))(k:Tx)(v:KG)(x:Tx):x∈(Zv A k v).map (·.1)↔x=k\/x∈A.map (·.1):=by
 have h1:x∈(Zv A k v).map (·.1)↔ZJ (Zv A k v) x≠none:=by rw[Ne,Kl];simp
 have h2:x∈A.map (·.1)↔ZJ A x≠none:=by rw[Ne,Kl];simp
 rw[h1,h2,ZQ6];by_cases e:x=k
 .simp[e]
 .simp[e]
theorem ZPq(B:BM)(k:Tx)(l:List Tx)(p:Tx):Yf (Zv B k l) p=if p=k then l else Yf B p:=by
 unfold Yf;rw[ZQ6];split<;>rfl
theorem ZLd{β:Type}{A:List (Tx×β)}(h:(A.map (·.1)).Nodup)(k:Tx)(v:β):((Zv A k v).map (·.1)).Nodup:=by
 refine((ZD9 A k v).map _).nodup_iff.2 (ZBV.2 ⟨?_,mdel_nodup h k⟩);rw[<-Kl,ZKo _ _ h,if_pos rfl]
theorem InvT.addOk(h:InvT m B){dn:Tx}{e:KG}(he:e.1=dn)(hs:Ke dn=true)(hn:ZJ m dn=none)(hp:YV dn= []\/(ZJ m (YV dn)).isSome=true)(hl:m.length<1024)(hsm:QJ e.2.1):
  InvT (Zv m dn e) (Zv B (YV dn) (ZEo (Yf B (YV dn)) dn)):=by
 have hnk:dn∉m.map (·.1):=Kl.1 hn;refine⟨?_,ZLd h.kn _ _,λp hp=> ?_,λs hs2=> ?_,ZLd h.bn _ _,λb hb=> ?_,λp s=> ?_⟩
 .rw[ZBh hn,Zg,ZKx];omega
 .rw[ZBh hn]at hp;rcases Km.1 hp with hp|hp
  .exact h.key p hp
  .obtain rfl:=ξZ.1 hp;exact⟨he,hs,hsm⟩
 .rw[ZRv]at hs2|-;rcases hs2 with rfl|hs2
  .refine hp.imp id λh1=> .inr ?_
   exact ZMZ λh2=>by rw[Kl.2 h2]at h1;cases h1
  .exact(h.par s hs2).imp id .inr
 .have hm:=(ZD9 B (YV dn) (ZEo (Yf B (YV dn)) dn)).mem_iff.1 hb;rcases Kr.1 hm with rfl|hm
  .refine ZfT (h.rowSo _) dn λx hx e=> ?_
   obtain⟨h1,h2⟩:=(h.row _ x).1 hx;exact hnk (by rw[<-ZbY (h.has h1) hs e h2];exact h1)
  .exact h.so b ((ZEz B _).mem hm)
 .rw[ZPq,ZRv];split
  .rename_i e;subst e;rw[ZbZ,h.row];constructor
   .rintro(rfl|⟨h1,h2⟩)
    .exact⟨.inl rfl,rfl⟩
    .exact⟨.inr h1,h2⟩
   .rintro⟨rfl|h1,h2⟩
    .exact .inl rfl
    .exact .inr ⟨h1,h2⟩
  .rename_i e;rw[h.row];constructor
   .rintro⟨h1,h2⟩;exact⟨.inr h1,h2⟩
   .rintro⟨rfl|h1,h2⟩
    .exact absurd h2.symm e
    .exact⟨h1,h2⟩
theorem InvT.add(h:InvT m B)(L:List (Tx×Zi))(M:List (Tx×Zt))(dn:Tx)(l:List ZX)(hs:QJ (Zs l)):InvT (ZBt (ZBn L M m dn l) m dn l) (ZAm (ZBn L M m dn l) B dn):=by
 by_cases h0:ZBn L M m dn l=0
 .unfold ZBt ZAm;rw[if_pos h0,if_pos h0];unfold ZBn at h0;split at h0
  .cases h0
  .rename_i h1;split at h0
   .cases h0
   .rename_i h2;split at h0
    .cases h0
    .rename_i h3;split at h0
     .rename_i h4;exact absurd h0 h4
     .split at h0
      .cases h0
      .rename_i h5;refine h.addOk rfl (by simpa using h1) (by simpa using h2) ?_ J0 hs;by_cases e:YV dn= []
       .exact .inl e
       .right;cases e2:(ZJ m (YV dn)).isSome
        .exact absurd ⟨e2,e⟩ h3
        .rfl
 .unfold ZBt ZAm;rw[if_neg h0,if_neg h0];exact h
theorem InvT.delOk(h:InvT m B){n:Tx}{v:KG}(hv:ZJ m n=some v)(h0:Yf B n= []):InvT (YH m n) (Zv (YH B n) (YV n) (ZWL (Yf (YH B n) (YV n)) n)):=by
 have hn:n∈m.map (·.1):=YT.2 ⟨_,Qm hv,rfl⟩;have hpn:=ZhT (h.has hn);have hk: ∀x,x∈(YH m n).map (·.1)↔x∈m.map (·.1)/\x≠n:=λx=>by
  have h1:x∈(YH m n).map (·.1)↔ZJ (YH m n) x≠none:=by rw[Ne,Kl];simp
  have h2:x∈m.map (·.1)↔ZJ m x≠none:=by rw[Ne,Kl];simp
  rw[h1,h2,ZKo _ _ h.kn];by_cases e:x=n
  .simp[e]
  .simp[e]
 have hr: ∀p,Yf (YH B n) p=if p=n then []else Yf B p:=λp=>by
  unfold Yf;rw[ZKo _ _ h.bn];split<;>rfl
 refine⟨?_,mdel_nodup h.kn _,λp hp=>h.key p ((ZEz m _).mem hp),λs hs=> ?_,ZLd (mdel_nodup h.bn _) _ _,λb hb=> ?_,λp s=> ?_⟩
 .have:=Zeh m n;have:=h.ln;omega
 .rw[hk]at hs|-;refine(h.par s hs.1).imp id λh1=>⟨h1,λe=> ?_⟩
  have:s∈Yf B n:=(h.row n s).2 ⟨hs.1,e⟩;rw[h0]at this;cases this
 .rcases Kr.1 ((ZD9 (YH B n) (YV n) (ZWL (Yf (YH B n) (YV n)) n)).mem_iff.1 hb)with rfl|hb
  .rw[hr,if_neg hpn];exact(h.rowSo (YV n)).filter _
  .exact h.so b ((ZEz B _).mem ((ZEz _ _).mem hb))
 .rw[ZPq,hk];split
  .rename_i e;subst e;rw[hr,if_neg hpn];unfold ZWL;rw[List.mem_filter,h.row];simp only[ZHD,beq_eq_false_iff_ne,ne_eq];exact⟨λ⟨⟨a,b⟩,c⟩=>⟨⟨a,c⟩,b⟩,λ⟨⟨a,c⟩,b⟩=>⟨⟨a,b⟩,c⟩⟩
  .rename_i e;rw[hr];split
   .rename_i e2;subst e2;refine⟨λh=>(by cases h),λ⟨⟨a,_⟩,b⟩=> ?_⟩;have:s∈Yf B p:=(h.row p s).2 ⟨a,b⟩;rw[h0]at this;cases this
   .rw[h.row];refine⟨λ⟨a,b⟩=>⟨⟨a,λe3=> ?_⟩,b⟩,λ⟨⟨a,_⟩,b⟩=>⟨a,b⟩⟩;subst e3;exact e b.symm
theorem InvT.del(h:InvT m B)(n:Tx):InvT (ZVe (ZWv m B n) m n) (ZVp (ZWv m B n) B n):=by
 by_cases h0:ZWv m B n=0
 .unfold ZVe ZVp;rw[if_pos h0,if_pos h0];unfold ZWv at h0;split at h0
  .cases h0
  .rename_i h1;split at h0
   .cases h0
   .rename_i h2;obtain⟨v,hv⟩:=Option.isSome_iff_exists.1 (show(ZJ m n).isSome=true from by
     cases e:(ZJ m n).isSome
     .exact absurd e h1
     .rfl)
    exact h.delOk hv (ZIC.1 h2)
 .unfold ZVe ZVp;rw[if_neg h0,if_neg h0];exact h
end
theorem ZQO{α:Type}(p:α->Bool)(l:List α)(j:Nat)(h:j<l.length):(l.take (j+1)).all p=((l.take j).all p&&p l[j]):=by
 rw[Jg h,ZNK];simp
theorem ZJo{α:Type}(p:α->Bool)(l:List α)(j:Nat)(h:j<l.length)(hp:p l[j]=false):l.all p=false:=by
 rw[Bool.eq_false_iff];intro hh;have:=Yc.1 hh l[j] (YM h);rw[hp]at this;cases this
def ZVv(v:Tx):Bool:=decide (v.length<=300)
def ZKt(a:ZX):Bool:=decide (a.1.length<=80/\a.2.1.length<=8)&&a.2.1.all ZVv
def ZDD(e:KG):Bool:=decide (e.1.length<=300/\e.2.1.length<=12)&&e.2.1.all ZKt
theorem ZgE(d:Tx)(bs:List ZX):ZC Tryz.prog 8 [.agg [.x (.str d),.x (.sl (rows ZQ bs))]] (.x (.bool (ZDD (d,bs,())))):=by
 have hfe:ZDD (d,bs,())=(decide (d.length<=300/\bs.length<=12)&&bs.all ZKt):=rfl;rw[hfe];clear hfe;refine ZI.pure (fC 8 true ?_) rfl;intro C0 E0;have uu:=trivial;have tT:=(ZD:SsOk Tryz.prog ZO);refine nz ?_;refine rg tT [1] ?_;refine rg tT [1,14] ?_;refine cd (λh0=> ?_) (λh0=> ?_)
 .refine rg tT [2] ?_;refine lf ?_;rw[decide_eq_false (by clear uu;grind)];rfl
 .have hal:d.length<=300/\bs.length<=12:=by clear uu;grind
  refine rg tT [1,3] ?_;refine WI.loop (λφ os=> ∃(i:Nat),φ= [(1,.ptr 0 0),(3,.x (.int .i64 i))]/\os= [.box [.x (.str d),.x (.sl (rows ZQ bs))]]/\i<=bs.length/\(bs.take i).all ZKt=true) (ZK bs.length 3) ?_ (λφ os hI=> ?_)
  .exact⟨0,rfl,rfl,J0,rfl⟩
  .obtain⟨i,rfl,rfl,hi,hall⟩:=hI;refine nz ?_;refine rg tT [1,3,19] ?_;refine cd (λh1=> ?_) (λh1=> ?_)
   .have hi4:i<bs.length:=by omega
    refine rg tT [1,3,39] ?_;refine cd (λh2=> ?_) (λh2=> ?_)
    .refine rg tT [2] ?_;refine lf ?_;rw[ZJo _ bs i hi4 (by unfold ZKt;rw[decide_eq_false (by clear uu;grind)];rfl),ZDv]
    .have hvl:bs[i].1.length<=80/\bs[i].2.1.length<=8:=by clear uu;grind
     refine rg tT [1,3,4] ?_;refine WI.loop (λφ os=> ∃(k:Nat),φ= [(1,.ptr 0 0),(3,.x (.int .i64 i)),(4,.x (.int .i64 k))]/\os= [.box [.x (.str d),.x (.sl (rows ZQ bs))]]/\k<=bs[i].2.1.length/\(bs[i].2.1.take k).all ZVv=true) (ZK bs[i].2.1.length 4) ?_ (λφ os hI=> ?_)
     .exact⟨0,rfl,rfl,J0,rfl⟩
     .obtain⟨k,rfl,rfl,hk,hnk⟩:=hI;refine nz ?_;refine rg tT [1,3,4,48] ?_;refine cd (λh3=> ?_) (λh3=> ?_)
      .have hk4:k<bs[i].2.1.length:=by omega
       refine rg tT [1,3,4,61] ?_;refine cd (λh4=> ?_) (λh4=> ?_)
       .refine rg tT [2] ?_;refine lf ?_;rw[ZJo _ bs i hi4 (by unfold ZKt;rw[ZJo _ bs[i].2.1 k hk4 (decide_eq_false (by clear uu;grind)),ZDv]),ZDv]
       .refine rg tT [1,3,4] ?_;exact⟨⟨k+1,rfl,rfl,J0,by rw[ZQO _ bs[i].2.1 k hk4,hnk,show ZVv bs[i].2.1[k]=true from ZL J0];rfl⟩,by simp[ZK,Ab.get,D.val,ZE];omega⟩
      .have hfa:ZKt bs[i]=true:=by unfold ZKt;rw[YX J0]at hnk;rw[hnk,ZL hvl];rfl
       refine rg tT [1,3] ?_;exact⟨⟨i+1,rfl,rfl,J0,by rw[ZQO _ bs i hi4,hall,hfa];rfl⟩,by simp[ZK,Ab.get,D.val,ZE];omega⟩
   .refine rg tT [2] ?_;refine lf ?_;rw[YX J0]at hall;rw[hall,ZL hal];rfl
def ZLu:J8->J5
 | [.agg [.x (.str d),.x (.sl A)]]=>(ZV ZQ A).bind λa=>some (true,.x (.bool (ZDD (d,a,()))))
 |_=>none
theorem ZcW: ∀args r,ZLu args=some (true,r)->ZC Tryz.prog 8 args r:=by
 intro args r h;unfold ZLu at h;split at h
 .rename_i d A;obtain⟨a,hr0,h⟩:=Zp h;simp only[Ze,Za,ZT,Zc,true_and]at h;obtain rfl:=h;rw[<-ZY Zr hr0];exact(ZgE d a)
 .cases h
theorem Zh5{e:KG}(h:ZDD e=true):e.1.length<=300/\e.2.1.length<=12/\ ∀a∈e.2.1,a.1.length<=80/\a.2.1.length<=8/\ ∀v∈a.2.1,v.length<=300:=by
 unfold ZDD at h;rw[ZT,Zc]at h;refine⟨h.1.1,h.1.2,λa ha=> ?_⟩;have h2:=Yc.1 h.2 a ha;unfold ZKt at h2;rw[ZT,Zc]at h2;exact⟨h2.1.1,h2.1.2,λv hv=>of_decide_eq_true (Yc.1 h2.2 v hv)⟩
theorem ZMT(l:List ZX)(hb: ∀a∈l,a.2.1.length<=8): ∀j,j<=l.length-> ∀a∈Zs (l.take j),a.2.1.length<=j*8
 |0,_=>by simp[Zs]
 |j+1,h=>by
  rw[ZCA l j J0];have:=ZQs (Zs (l.take j)) (ZH (l.getD j ([],[],())).1) (l.getD j ([],[],())).2.1 (j*8) 8 (ZMT l hb j J0) (by rw[show l.getD j ([],[],())=l[j] by simp[show j<l.length by omega]];exact hb _ (YM _));intro a ha;have:=this a ha;omega
theorem Zbh(l:List ZX)(n:Tx)(vs:List Tx)(k:Nat)(hl: ∀a∈l,a.1.length<=k)(hn:n.length<=k): ∀a∈QH l n vs,a.1.length<=k:=by
 unfold QH;split
 .exact hl
 .intro a ha;rcases Km.1 ha with ha|ha
  .rcases Km.1 ha with ha|ha
   .exact hl a (ZBL ha)
   .rw[ξZ.1 ha];exact hn
  .refine hl a ?_;unfold ZBj at ha;split at ha<;>exact ZB0 ha
theorem ZNo(l:List ZX)(k:Nat)(hb: ∀a∈l,a.1.length<=k): ∀j,j<=l.length-> ∀a∈Zs (l.take j),a.1.length<=k
 |0,_=>by simp[Zs]
 |j+1,h=>by
  rw[ZCA l j J0];refine Zbh _ _ _ k (ZNo l k hb j J0) ?_;rw[ZDs,show l.getD j ([],[],())=l[j] by simp[show j<l.length by omega]];exact hb _ (YM _)
theorem Zgy{e:KG}(h:ZDD e=true):QJ e.2.1/\QJ (Zs e.2.1)/\ZLT (clL plC) e.2.1:=by
 obtain⟨h1,h2,h3⟩:=Zh5 h;have c1:=ZGQ e.2.1 e.2.1.length (Zm _);have c2:=ZMT e.2.1 (λa ha=>(h3 a ha).2.1) e.2.1.length (Zm _);have c3:=ZNo e.2.1 80 (λa ha=>(h3 a ha).1) e.2.1.length (Zm _);rw[JS]at c1 c2 c3;refine⟨⟨J0,λa ha=>by have:=(h3 a ha).1;omega,λa ha=>by have:=(h3 a ha).2.1;omega⟩,⟨J0,λa ha=>by have:=c3 a ha;omega,λa ha=>by have:=c2 a ha;omega⟩,?_⟩;exact⟨by decide+kernel,⟨J0,λa ha=>⟨by have:=(h3 a ha).1;omega,by have:=(h3 a ha).2.1;omega⟩⟩,λa ha v hv=>by have:=(h3 a ha).2.2 v hv;omega⟩
def ClA(l:List ZX):Prop:= ∀a∈l,a.2.1≠ []/\a.2.1.Nodup
theorem ZfB{b:List Tx}(h:b.Nodup)(v:Tx):(ZF0 b v).Nodup:=by
 unfold ZF0;split
 .exact h
 .rename_i hv;rw[ZF7];exact⟨h,J1,λa ha c hc e=>by rw[ξZ]at hc;subst hc;subst e;exact hv ha⟩
theorem ZVD: ∀(vs b:List Tx),b.Nodup->(ZBm b vs).Nodup
 | [],_,h=>h
 |v::vs,b,h=>ZVD vs _ (ZfB h v)
theorem Zeq(b:List Tx)(v:Tx):ZF0 b v≠ []:=by
 unfold ZF0;split
 .rename_i h;intro e;rw[e]at h;cases h
 .simp
theorem ZT8: ∀(vs b:List Tx),vs≠ []\/b≠ []->ZBm b vs≠ []
 | [],_,h=>by rcases h with h|h;exact absurd rfl h;exact h
 |v::vs,b,_=>ZT8 vs _ (.inr (Zeq b v))
theorem ZP7: ∀(x b:List Tx),(b++x).Nodup->ZBm b x=b++x
 | [],b,_=>by simp[ZBm]
 |v::x,b,h=>by
  have hv:v∉b:=λhv=>by
   rw[ZF7]at h;exact h.2.2 v hv v J1 rfl
  show ZBm (ZF0 b v) x=_;rw[show ZF0 b v=b++ [v]from if_neg hv,ZP7 x (b++ [v]) (by simpa using h)];simp
theorem Zfi{l:List ZX}(hc:ClA l)(n:Tx)(vs:List Tx):ClA (QH l n vs):=by
 unfold QH;split
 .exact hc
 .rename_i hv;intro a ha;rcases Km.1 ha with ha|ha
  .rcases Km.1 ha with ha|ha
   .exact hc a (ZBL ha)
   .rw[ξZ]at ha;subst ha;exact⟨ZT8 _ _ (.inl (by simp[hv])),ZVD _ _ J1⟩
  .exact hc a (ZNC ha)
theorem ZX7(l:List ZX):ClA (Zs l):=by
 have key: ∀(l acc:List ZX),ClA acc->ClA (l.foldl (λacc a=>QH acc (ZH a.1) a.2.1) acc):=λl=>by
  induction l with
  |nil=>intro acc h;exact h
  |cons a l ih=>intro acc h;exact ih _ (Zfi h _ _)
 exact key l [] (λ_ h=>by cases h)
theorem ZWQ(l:List ZX):SoA (Zs l):=by have:=ZHo l l.length (Zm _);rwa [ZGI]at this
def ZSK(l:List ZX):Prop:= ∀a∈l,ZH a.1=a.1
theorem Zan{l:List ZX}{n:Tx}{vs:List Tx}(h: ∀a∈l,Op.bytesLess a.1 n=true)(h1:vs≠ [])(h2:vs.Nodup):QH l n vs=l++ [(n,vs,())]:=by
 have hp:Zu l n=l.length:=Za3 l n l.length (Zm _) (by rw[JS];exact h) (λh=>absurd h J0);have hh:ZBr l n=false:=by unfold ZBr;rw[hp,ZCW (Zm _)]
 unfold QH ZBj Kk;rw[if_neg h1,hh,hp,JS,if_neg (by decide),if_neg (by decide),List.drop_length,Kj,ZP7 _ _ (by simpa using h2)];rfl
theorem ZPp: ∀(l acc:List ZX),SoA (acc++l)->ClA l->ZSK l->l.foldl (λacc a=>QH acc (ZH a.1) a.2.1) acc=acc++l
 | [],acc,_,_,_=>by simp
 |a::l,acc,h1,h2,h3=>by
  have ha:=h2 a ZCa;rw[ZMi,h3 a ZCa,Zan (λb hb=>(ZSN.1 h1).2.2 b hb a ZCa) ha.1 ha.2,
   ZPp l _ (by simpa using h1) (λb hb=>h2 b (ZBB _ hb)) (λb hb=>h3 b (ZBB _ hb))]
  simp[show(a.1,a.2.1,())=a from rfl]
theorem Za7{l:List ZX}(h:ZSK l)(n:Tx)(vs:List Tx):ZSK (QH l (ZH n) vs):=by
 unfold QH;split
 .exact h
 .intro a ha;rcases Km.1 ha with ha|ha
  .rcases Km.1 ha with ha|ha
   .exact h a (ZBL ha)
   .rw[ξZ.1 ha];exact ZVB n
  .exact h a (ZNC ha)
theorem ZRR: ∀(l acc:List ZX),ZSK acc->ZSK (l.foldl (λacc a=>QH acc (ZH a.1) a.2.1) acc)
 | [],_,h=>h
 |a::l,acc,h=>ZRR l _ (Za7 h _ _)
theorem ZMP(l:List ZX):Zs (Zs l)=Zs l:=ZPp (Zs l) [] (ZWQ l) (ZX7 l) (ZRR l [] (λ_ h=>by cases h))
theorem ZSz(k:Int)(a b:Tx):(eqV k a b=1)=(eqV k b a=1):=by
 unfold eqV;apply propext;by_cases h1:(JR k a).2=true<;>by_cases h2:(JR k b).2=true<;>simp[h1,h2,eq_comm]
theorem ZZ0(L:List (Tx×Zi))(a b:List ZX)(n:Tx):Qw L a b n=Qw L b a n:=by
 unfold Qw ZFH;congr 1;rw[Qj];simp only[ZND,Zc];constructor
 .rintro⟨v,hv,w,hw,h⟩;exact⟨w,hw,v,hv,by rw[ZSz];exact h⟩
 .rintro⟨v,hv,w,hw,h⟩;exact⟨w,hw,v,hv,by rw[ZSz];exact h⟩
theorem ZOU(l:List ZX)(n:Tx):ZEs (Zs l) n=ZEs l n:=by unfold ZEs;rw[ZMP]
theorem ZOb(L:List (Tx×Zi))(a b:List ZX)(n:Tx):Qw L (Zs a) b n=Qw L a b n/\Qw L a (Zs b) n=Qw L a b n:=by
 unfold Qw ZFH;rw[ZOU,ZOU];exact⟨rfl,rfl⟩
theorem Zc8(L:List (Tx×Zi))(a b:List ZX)(n:Tx):Qw L a b (ZH n)=Qw L a b n:=by
 unfold Qw ZFH ZEs;rw[ZVB]
structure Uq (L:List (Tx×Zi)) (n:Tx) (m:EM) (B:BM):Prop where
 inv:InvT m B
 cl: ∀p∈m,Zs p.2.2.1=p.2.2.1
 un: ∀p∈m,∀q∈m,p.1≠q.1->Qw L p.2.2.1 q.2.2.1 n=false
theorem Zg6(L:List (Tx×Zi))(n:Tx):Uq L n [] []:=⟨ZfW,J1,J1⟩
section
variable {L:List (Tx×Zi)} {n:Tx} {m:EM} {B:BM}
theorem Uq.get(h:Uq L n m B){x:Tx}(hx:x∈m.map (·.1)): ∃p∈m,p.1=x/\QV m x=(x,p.2.2.1,()):=by
 obtain⟨p,hp,rfl⟩:=YT.1 hx;have hl:=ZBO h.inv.kn (k:=p.1) (v:=p.2) hp;refine⟨p,hp,rfl,?_⟩;unfold QV;rw[hl];exact ZCh (h.inv.key p hp).1 (ZCh (h.cl p hp) rfl)
theorem Uq.ok(h:Uq L n m B):okU m B/\(YP B 40 []).length<=1100:=by
 refine⟨⟨h.inv.okWn [],λx hx=> ?_⟩,by rw[h.inv.walkLen];have:=h.inv.ln;omega⟩;obtain⟨p,hp,_,he⟩:=h.get ((h.inv.walkMem x).1 hx);rw[he];exact(h.inv.key p hp).2.2
theorem Uq.two(h:Uq L n m B)(n':Tx)(hn: ∀a b,Qw L a b n'=Qw L a b n):twL (fU L m n') (YP B 40 [])= []:=by
 refine ZXE ((h.inv.walkNd 40 []).imp_of_mem λ{a b} ha hb hne=> ?_);obtain⟨p,hp,e1,e2⟩:=h.get ((h.inv.walkMem a).1 ha);obtain⟨q,hq,e3,e4⟩:=h.get ((h.inv.walkMem b).1 hb);unfold fU ZF5;rw[e2,e4,ZV0,List.any_nil,ZFC,hn];exact h.un p hp q hq (by rw[e1,e3];exact hne)
theorem Uq.add(h:Uq L n m B)(LT:List (Tx×Zi))(MT:List (Tx×Zt))(e:KG)(hs:QJ (Zs e.2.1))(hc:(ZHW (ZDK L m e [n]) (YP B 40 [])).2=false):Uq L n (ZBt (ZBn LT MT m e.1 e.2.1) m e.1 e.2.1) (ZAm (ZBn LT MT m e.1 e.2.1) B e.1):=by
 have hi:=h.inv.add LT MT e.1 e.2.1 hs;by_cases h0:ZBn LT MT m e.1 e.2.1=0
 .have hn:ZJ m e.1=none:=by
   unfold ZBn at h0;split at h0
   .cases h0
   .split at h0
    .cases h0
    .rename_i h2;simpa using h2
  have hk:e.1∉m.map (·.1):=Kl.1 hn;have hno: ∀p∈m,Qw L e.2.1 p.2.2.1 n=false:=λp hp=>by
   have hx:p.1∈m.map (·.1):=YT.2 ⟨p,hp,rfl⟩;obtain⟨q,hq,e1,e2⟩:=h.get hx;have hqp:q=p:=by
    have h1:=ZBO h.inv.kn (k:=q.1) (v:=q.2) hq;have h2:=ZBO h.inv.kn (k:=p.1) (v:=p.2) hp;rw[e1,h2]at h1;exact ZCh e1 (ZCX h1).symm
   subst hqp;cases hsh:Qw L e.2.1 q.2.2.1 n with
   |false=>rfl
   |true=>
    exfalso;have hm:ZDK L m e [n] q.1=true:=by
     unfold ZDK ZF5;rw[e2,ZV0,hsh,ZLW,QS,ZHD,decide_eq_false_iff_not];intro e3;rw[e3]at hx;exact hk hx
    have hmem:=(h.inv.walkMem q.1).2 hx;unfold ZHW at hc;cases hf:(YP B 40 []).find? (ZDK L m e [n])with
    |some y=>rw[hf]at hc;cases hc
    |none=>rw[ZRc]at hf;exact hf _ hmem hm
  unfold ZBt at hi|-;rw[if_pos h0]at hi|-;rw[ZBh hn]at hi|-;refine⟨hi,λp hp=> ?_,λp hp q hq hne=> ?_⟩
  .rcases Km.1 hp with hp|hp
   .exact h.cl p hp
   .rw[ξZ]at hp;subst hp;exact ZMP e.2.1
  .rcases Km.1 hp with hp|hp<;>rcases Km.1 hq with hq|hq
   .exact h.un p hp q hq hne
   .rw[ξZ]at hq;subst hq;rw[ZZ0];simp only;rw[(ZOb L _ _ n).1];exact hno p hp
   .rw[ξZ]at hp;subst hp;simp only;rw[(ZOb L _ _ n).1];exact hno q hq
   .rw[ξZ]at hp hq;subst hp;subst hq;exact absurd rfl hne
 .unfold ZBt ZAm at hi|-;rw[if_neg h0]at hi|-;rw[if_neg h0];exact h
end
def ZJL:Tabs:=ZR (ZR (ZR (ZO) 110 ZDW) 119 ZBQ) 157 ZDV
theorem ZYm:SsOk Tryz.prog ZJL:=ZG (ZG (ZG (ZD) (ZU 110) ZQd) (ZU 119) ZJ1) (ZU 157) ZQ0
theorem ZdN:(∀a,ZJL.q 110 a=ZDW a)/\(∀a,ZJL.q 119 a=ZBQ a)/\(∀a,ZJL.q 157 a=ZDV a)/\(∀f a o,ZJL.r f a o=none)/\(∀f a o,ZJL.k f a o=none):=⟨λ_=>rfl,λ_=>rfl,λ_=>rfl,λ_ _ _=>rfl,λ_ _ _=>rfl⟩
theorem Zc2(s:Tx):ZC Tryz.prog 116 [.x (.str s)] (.tup [.x (.sl (rows ZA (YQ s))),.x (.bool (okS s))]):=by
 obtain⟨d,hd⟩: ∃d,(YN s).1=d:=⟨_,rfl⟩;refine ZI.pure (fC 116 true ?_) rfl;intro C0 E0;have uu:=ξ8 @ZDW.eq_1 @ZDW.eq_2 @ZBQ.eq_1 @ZBQ.eq_2 @ZDV.eq_1 @ZDV.eq_2 hd @ZdN;have tT:=ZYm;refine nz ?_;refine rg tT [0] ?_;refine rg tT [0,4,5] ?_;refine rg tT [0,21] ?_;refine cd (λh0=> ?_) (λh0=> ?_)
 .have hok:okS s=false:=by unfold okS;exact decide_eq_false (λe=>by rw[e]at h0;simp at h0)
  have hpp:YQ s= []:=by unfold YQ;rw[hok];rfl
  refine rg tT [2,3] ?_;refine WI.nnA ?_;refine lf ?_;rw[hok,hpp];rfl
 .have hno:JA s=(s,0):=by
   have h1:(JA s).2=0/\(JA s).1=s:=by clear uu;grind
   exact ZCh h1.2 h1.1
  have hok:okS s=true:=ZL hno;obtain⟨d',hn⟩:=ZZ7 hok;obtain rfl:d'=d:=by rw[<-hd,hn.rd]
  have hpp:=hn.parts;obtain⟨hd32,hmay⟩:=ZE2 hn.chk;refine rg tT [6] ?_;refine rg tT [6,8] ?_;refine rg tT [6,8,9] ?_;refine WI.ownA 8 9 1 ?_;refine WI.loop (λφ os=> ∃(j:Nat),φ= [(6,.x (.sl (rows JV d'))),(8,.ref 0 j 0 j),(9,.x (.int .i64 j))]/\os= [.rows false 9 1 (rows ZA ((d'.take j).map Yn))]/\j<=d'.length) (ZK d'.length 9) ?_ (λφ os hI=> ?_)
  .exact⟨0,rfl,rfl,J0⟩
  .obtain⟨j,rfl,rfl,hj⟩:=hI;refine nz ?_;refine rg tT [6,8,9,30] ?_;refine cd (λh1=> ?_) (λh1=> ?_)
   .have hj4:j<d'.length:=by omega
    have hrow:=ZE1 d' j hj4;have hmj:=hmay (d'.getD j []) (by rw[show d'.getD j []=d'[j] by simp[hj4]];exact YM hj4);have hst:(d'.take (j+1)).map Yn=(d'.take j).map Yn++ [Yn (d'.getD j [])]:=by rw[Jg hj4,Ji,show d'.getD j []=d'[j] by simp[hj4]];rfl
    have hln:(rows ZA ((d'.take j).map Yn)).length=j:=by rw[Zh,Yb,Yu];omega
    generalize d'.getD j []=r at hrow hmj hst;have hua:ZV Zn (rows Zn r)=some r:=Zf ZEG r;have uu:=ξ5 uu hrow hmj hua hln;refine rg tT [6,8,9] ?_;refine WI.pickA [0] ?_;refine rg tT [6,8,9] ?_;exact⟨⟨j+1,rfl,by rw[hst,<-ZJx];first|done|rfl,J0⟩,by simp[ZK,Ab.get,D.val,ZE];omega⟩
   .obtain rfl:j=d'.length:=by omega
    rw[JS,<-hpp];have hln2:(rows ZA (YQ s)).length=d'.length:=by rw[hpp,Zh,Yb]
    have htk:(rows ZA (YQ s)).take d'.length=rows ZA (YQ s):=by rw[<-hln2,JS]
    have uu:=JW uu hln2 htk;refine rg tT [2,3] ?_;refine WI.nnA ?_;refine lf ?_;rw[hok]
def ZBK:J8->J5
 | [.x (.str s)]=>some (true,.tup [.x (.sl (rows ZA (YQ s))),.x (.bool (okS s))])
 |_=>none
theorem ZNw: ∀args r,ZBK args=some (true,r)->ZC Tryz.prog 116 args r:=by
 intro args r h;unfold ZBK at h;split at h
 .rename_i s;simp only[Ze,Za,ZT,Zc,true_and]at h;obtain rfl:=h;exact(Zc2 s)
 .cases h
theorem Zcz(l:List Tx)(hl:l.length<=32)(hb: ∀x∈l,x.length<=4096):ZC Tryz.prog 117 [.x (.sl (rows ZA l))] (.x (.str (QI 44 l))):=by
 refine ZI.pure (fC 117 true ?_) rfl;intro C0 E0;have uu:=trivial;have tT:=(ZD:SsOk Tryz.prog ZO);refine nz ?_;refine WI.regB tT [0] ?_;refine oS ?_;refine oN ?_;refine nz ?_;refine WI.regB tT [0,3] ?_;refine oS ?_;refine oN ?_;refine nz ?_;refine WI.regB tT [0,3,4] ?_;refine oS ?_;refine oN ?_;refine nz ?_;refine WI.loop (λφ os=> ∃(j:Nat),φ= [(0,.x (.sl (rows ZA l))),(3,.x (.str (QI 44 (l.take j)))),(4,.x (.int .i64 j))]/\os= []/\j<=l.length) (ZK l.length 4) ?_ (λφ os hI=> ?_)
 .exact⟨0,rfl,rfl,J0⟩
 .obtain⟨j,rfl,rfl,hj⟩:=hI;refine nz ?_;refine WI.regB tT [0,3,4,8] ?_
  iterate 2 refine oS ?_
  iterate 2 refine oG (hok:=by first|exact se|(clear uu;simp only[Zg,JG,ξN,Zc];omega)|exact sd) ?_
  refine oN ?_;refine nz ?_;refine cd (λh0=> ?_) (λh0=> ?_)
  .have hj4:j<l.length:=by omega
   have hrow:(rows ZA l)[j]? =some [X.str (l.getD j [])]:=by simp[rows,hj4,ZA]
   have hrl:=Zh ZA l;have hxl:=hb (l.getD j []) (by rw[show l.getD j []=l[j] by simp[hj4]];exact YM hj4);have hjl:=ZFD 44 4096 (l.take j) (λx hx=>hb x (ZBL hx));rw[Yu]at hjl;have hst0:l.take (j+1)=l.take j++ [l.getD j []]:=by rw[Jg hj4,show l.getD j []=l[j] by simp[hj4]]
   generalize l.getD j []=x at hrow hst0 hxl;have uu:=JW uu hrow hrl;refine WI.regB tT [0,3,4,12] ?_;refine oS ?_;refine oG (hok:=by first|exact se|(clear uu;simp only[Zg,JG,ξN,Zc];omega)|exact sd) ?_;refine oN ?_;refine nz ?_;refine cd (λh1=> ?_) (λh1=> ?_)
   .have hst:QI 44 (l.take (j+1))=QI 44 (l.take j)++ [44]++x:=by
     rw[hst0,ZJf 44 _ _ (λe=>by have h9:=congrArg List.length e;rw[Yu,ξN]at h9;omega)]
    refine WI.regB tT [0,3,4] ?_;refine oS ?_;refine oG (hok:=by first|exact se|(clear uu;simp only[Zg,JG,ξN,Zc];omega)|exact sd) ?_;refine oS ?_;refine oN ?_;refine nz ?_;refine WI.regB tT [0,3,4] ?_
    iterate 3 refine oS ?_
    iterate 3 refine oG (hok:=by first|exact se|(clear uu;simp only[Zg,JG,ξN,Zc];omega)|exact sd) ?_
    refine oS ?_;refine oN ?_;refine nz ?_;refine WI.regB tT [0,3,4] ?_;refine oS ?_;refine oG (hok:=by first|exact se|(clear uu;simp only[Zg,JG,ξN,Zc];omega)|exact sd) ?_;refine oS ?_;refine oN ?_;refine nz ?_;exact⟨⟨j+1,by rw[hst];first|done|rfl,rfl,J0⟩,by simp[ZK,Ab.get,D.val,ZE];omega⟩
   .have hst:QI 44 (l.take (j+1))=QI 44 (l.take j)++x:=by
     obtain rfl:j=0:=by omega
     rw[hst0];simp[QI]
    refine WI.regB tT [0,3,4] ?_
    iterate 3 refine oS ?_
    iterate 3 refine oG (hok:=by first|exact se|(clear uu;simp only[Zg,JG,ξN,Zc];omega)|exact sd) ?_
    refine oS ?_;refine oN ?_;refine nz ?_;refine WI.regB tT [0,3,4] ?_;refine oS ?_;refine oG (hok:=by first|exact se|(clear uu;simp only[Zg,JG,ξN,Zc];omega)|exact sd) ?_;refine oS ?_;refine oN ?_;refine nz ?_;exact⟨⟨j+1,by rw[hst];first|done|rfl,rfl,J0⟩,by simp[ZK,Ab.get,D.val,ZE];omega⟩
  .refine WI.regB tT [2] ?_
   iterate 2 refine oS ?_
   refine oN ?_;refine nz ?_;refine lf ?_;obtain rfl:j=l.length:=by omega
   rw[JS]
def ZB9:J8->J5
 | [.x (.sl R)]=>(ZV ZA R).bind λl=>some (decide (l.length<=32)&&(decide (∀x∈l,x.length<=4096)),.x (.str (QI 44 l)))
 |_=>none
theorem ZWP: ∀args r,ZB9 args=some (true,r)->ZC Tryz.prog 117 args r:=by
 intro args r h;unfold ZB9 at h;split at h
 .rename_i R;obtain⟨l,hr0,h⟩:=Zp h;simp only[Ze,Za,ZT,Zc,true_and]at h;obtain⟨⟨h1,h2⟩,rfl⟩:=h;rw[<-ZY ZM hr0];exact(Zcz l h1 h2)
 .cases h
def ZLH:Tabs:=ZR (ZR (ZO) 116 ZBK) 117 ZB9
theorem ZKf:SsOk Tryz.prog ZLH:=ZG (ZG (ZD) (ZU 116) ZNw) (ZU 117) ZWP
theorem ZM8:(∀a,ZLH.q 116 a=ZBK a)/\(∀a,ZLH.q 117 a=ZB9 a)/\(∀f a o,ZLH.r f a o=none)/\(∀f a o,ZLH.k f a o=none):=⟨λ_=>rfl,λ_=>rfl,λ_ _ _=>rfl,λ_ _ _=>rfl⟩
theorem ZYx(s:Tx):ZC Tryz.prog 86 [.x (.str s)] (.tup [.x (.str (YV s)),.x (.bool (Ke s))]):=by
 obtain⟨hp1,hp2⟩:=ZLM s;unfold YV Ke;have hrl:=Zh ZA (YQ s);have hu:ZV ZA ((rows ZA (YQ s)).drop 1)=some ((YQ s).drop 1):=by rw[show(rows ZA (YQ s)).drop 1=rows ZA ((YQ s).drop 1) by simp[rows]];exact Zf ZM _
 have c1:decide (((YQ s).drop 1).length<=32)=true:=ZL (by rw[Jj];omega);have c2:decide (∀x∈(YQ s).drop 1,x.length<=4096)=true:=ZL λx hx=>hp2 x (ZB0 hx)
 refine ZI.pure (fC 86 true ?_) rfl;intro C0 E0;have uu:=KJ @ZBK.eq_1 @ZBK.eq_2 @ZB9.eq_1 @ZB9.eq_2 hrl hu @c1 @c2 @ZM8;have tT:=ZKf;refine nz ?_;refine rg tT [0] ?_;refine rg tT [4] ?_;refine rg tT [4,13] ?_;refine cd (λh0=> ?_) (λh0=> ?_)
 .have h9:YQ s= []:=by clear uu;exact ZbB.1 (by first|omega|simpa using h0)
  refine rg tT [2,3] ?_;refine lf ?_;rw[h9];rfl
 .have h9:YQ s≠ []:=by clear uu;intro e;rw[e]at h0;simp at h0
  refine rg tT [2,3] ?_;refine lf ?_;rw[ZL h9]
def ZMp:J8->J5
 | [.x (.str s)]=>some (true,.tup [.x (.str (YV s)),.x (.bool (Ke s))])
 |_=>none
theorem ZTn: ∀args r,ZMp args=some (true,r)->ZC Tryz.prog 86 args r:=by
 intro args r h;unfold ZMp at h;split at h
 .rename_i s;simp only[Ze,Za,ZT,Zc,true_and]at h;obtain rfl:=h;exact(ZYx s)
 .cases h
theorem Zfd(s:Tx):ZC Tryz.prog 118 [.x (.str s)] (.tup [.x (.str (YL s)),.x (.bool (Ke s))]):=by
 unfold YL Ke;have hrl:=Zh ZA (YQ s);refine ZI.pure (fC 118 true ?_) rfl;intro C0 E0;have uu:=ξ6 @ZBK.eq_1 @ZBK.eq_2 hrl @ZM8 @ZB9.eq_1 @ZB9.eq_2;have tT:=ZKf;refine nz ?_;refine rg tT [0] ?_;refine rg tT [4] ?_;refine rg tT [4,13] ?_;refine cd (λh0=> ?_) (λh0=> ?_)
 .have h9:YQ s= []:=by clear uu;exact ZbB.1 (by first|omega|simpa using h0)
  refine rg tT [2,3] ?_;refine lf ?_;rw[h9];rfl
 .have h9:YQ s≠ []:=by clear uu;intro e;rw[e]at h0;simp at h0
  have hrw:(rows ZA (YQ s))[0]? =some [X.str ((YQ s).headD [])]:=by
   obtain⟨x,l,e⟩:=List.exists_cons_of_ne_nil h9;rw[e];rfl
  have uu:=YZ uu hrw;refine rg tT [2,3] ?_;refine lf ?_;rw[ZL h9]
def ZSM:J8->J5
 | [.x (.str s)]=>some (true,.tup [.x (.str (YL s)),.x (.bool (Ke s))])
 |_=>none
theorem ZXg: ∀args r,ZSM args=some (true,r)->ZC Tryz.prog 118 args r:=by
 intro args r h;unfold ZSM at h;split at h
 .rename_i s;simp only[Ze,Za,ZT,Zc,true_and]at h;obtain rfl:=h;exact(Zfd s)
 .cases h
theorem ZcG(s:Tx):ZC Tryz.prog 85 [.x (.str s)] (.x (.int .i64 (if okS s=true then((YQ s).length:Int)else-1))):=by
 have hrl:=Zh ZA (YQ s);refine ZI.pure (fC 85 true ?_) rfl;intro C0 E0;have uu:=ξ6 @ZBK.eq_1 @ZBK.eq_2 hrl @ZM8 @ZB9.eq_1 @ZB9.eq_2;have tT:=ZKf;refine nz ?_;refine rg tT [0] ?_;refine rg tT [3,4] ?_;refine rg tT [3,11] ?_;refine cd (λh0=> ?_) (λh0=> ?_)
 .refine rg tT [2] ?_;refine lf ?_;rw[if_neg (by clear uu;simpa using h0)]
 .refine rg tT [2] ?_;refine lf ?_;rw[if_pos (by clear uu;simpa using h0)]
def ZPd:J8->J5
 | [.x (.str s)]=>some (true,.x (.int .i64 (if okS s=true then((YQ s).length:Int)else-1)))
 |_=>none
theorem ZVy: ∀args r,ZPd args=some (true,r)->ZC Tryz.prog 85 args r:=by
 intro args r h;unfold ZPd at h;split at h
 .rename_i s;simp only[Ze,Za,ZT,Zc,true_and]at h;obtain rfl:=h;exact(ZcG s)
 .cases h
def Zhs:Tabs:=ZR (ZR (ZR (ZR (ZR (ZR (ZR (ZR (Jt (ZDB (ZDB (ZR (ZR (ZR (ZR (ZR (ZR (Jt (ZR (ZO) 49 ZPO) 10 ZHZ) 56 ZFA) 100 ZEV) 131 Qk) 94 ZHI) 93 ZGz) 58 Ku) 12 ZFr) 17 ZEE) 61 ZVq) 116 ZBK) 86 ZMp) 118 ZSM) 85 ZPd) 119 ZBQ) 70 ZEv) 91 ZMh) 32 ZFJ
theorem ZYj:SsOk Tryz.prog Zhs:=ZG (ZG (ZG (ZG (ZG (ZG (ZG (ZG (Yz (ZAJ (ZAJ (ZG (ZG (ZG (ZG (ZG (ZG (Yz (ZG (ZD) (ZU 49) ZWR) (ZU 10) ZQT) (ZU 56) ZOm) (ZU 100) ZMn) (ZU 131) ZIA) (ZU 94) ZO4) (ZU 93) ZPR) (ZU 58) ZGT) (ZU 12) ZQp) (ZU 17) ZNd) (ZU 61) ZcI) (ZU 116) ZNw) (ZU 86) ZTn) (ZU 118) ZXg) (ZU 85) ZVy) (ZU 119) ZJ1) (ZU 70) ZOO) (ZU 91) ZTx) (ZU 32) ZOT
def nilX:X->X
 | .sl []=>.nils
 | x=>x
theorem rplain_d:ZC Tryz.prog 11 [] (.agg [.x (.sl (rows Yd plT)),.x (.sl ((rows Jy plC).map (List.map nilX)))]):=evP 100 11 ZD []
def rplG:J8->J5
 | []=>some (true,.agg [.x (.sl (rows Yd plT)),.x (.sl ((rows Jy plC).map (List.map nilX)))])
 |_=>none
theorem rplG_ok: ∀args r,rplG args=some (true,r)->ZC Tryz.prog 11 args r:=by
 intro args r h;unfold rplG at h;split at h
 .simp only[Ze,Za,ZT,Zc,true_and]at h;obtain rfl:=h;exact rplain_d
 .cases h
def tUa:Tabs:=ZR (Zhs) 11 rplG
theorem tUa_ok:SsOk Tryz.prog tUa:=ZG (ZYj) (ZU 11) rplG_ok
def w20(l:X):D:=.agg [.x (.sl (rows Yd plT)),.x (.sl ((rows Jy plC).map (List.map nilX))),.x l]
def e20(d c:Tx):D:=.agg [.x (.str d),.x (.sl (rows ZQ (Zhz c)))]
def c20(d c:Tx):List X:=[.str d,.sl [[.str [100,99],.sl [[.str c]]],[.str [111,98,106,101,99,116,99,108,97,115,115],.sl [[.str [100,111,109,97,105,110]]]]]]
def dcb:Tx:=[100,99,61,98]
def dcc:Tx:=[100,99,61,99]
def s20:Nat->X
 | 0=>.nils
 | 1=>.sl [c20 dcb [98]]
 | 2=>.sl [c20 dcb [98],c20 dcc [99]]
 |_=>.sl [c20 dcb [98],c20 dcc [99],c20 (dcb++44::dcc) [66]]
def n20:Nat->D
 | 0=>e20 dcb [98]
 | 1=>e20 dcc [99]
 |_=>e20 (dcb++44::dcc) [66]
theorem addw0:ZC Tryz.prog 50 [w20 (s20 0),n20 0] (.tup [w20 (s20 1),.x (.int .i64 0)]):=evP 400 50 tUa_ok []
theorem addw1:ZC Tryz.prog 50 [w20 (s20 1),n20 1] (.tup [w20 (s20 2),.x (.int .i64 0)]):=evP 400 50 tUa_ok []
theorem addw2:ZC Tryz.prog 50 [w20 (s20 2),n20 2] (.tup [w20 (s20 3),.x (.int .i64 0)]):=evP 400 50 tUa_ok []
def addW(a:J8):J5:=if D.beqL a [w20 (s20 0),n20 0]=true then some (true,.tup [w20 (s20 1),.x (.int .i64 0)]) else if D.beqL a [w20 (s20 1),n20 1]=true then some (true,.tup [w20 (s20 2),.x (.int .i64 0)]) else if D.beqL a [w20 (s20 2),n20 2]=true then some (true,.tup [w20 (s20 3),.x (.int .i64 0)]) else none
theorem addW_ok: ∀a r,addW a=some (true,r)->ZC Tryz.prog 50 a r:=by
 intro a r h
 unfold addW at h
 split at h
 . rename_i k;cases D.beqL_eq k;cases h;exact addw0
 split at h
 . rename_i k;cases D.beqL_eq k;cases h;exact addw1
 split at h
 . rename_i k;cases D.beqL_eq k;cases h;exact addw2
 . cases h
theorem ZYe:ZC Tryz.prog 25 [] (.x (.bool true)):=evP 400 25 (ZG tUa_ok (ZU 50) addW_ok) []
def ZEr:J8->J5
 | []=>some (true,.x (.bool true))
 |_=>none
theorem ZTt: ∀args r,ZEr args=some (true,r)->ZC Tryz.prog 25 args r:=by
 intro args r h;unfold ZEr at h;split at h
 .simp only[Ze,Za,ZT,Zc,true_and]at h;obtain rfl:=h;exact ZYe
 .cases h
def ZON:Tabs:=ZR (ZO) 8 ZLu
theorem ZYp:SsOk Tryz.prog ZON:=ZG (ZD) (ZU 8) ZcW
theorem Zck:(∀a,ZON.q 8 a=ZLu a)/\(∀f a o,ZON.r f a o=none)/\(∀f a o,ZON.k f a o=none):=⟨λ_=>rfl,λ_ _ _=>rfl,λ_ _ _=>rfl⟩
theorem ZfE(l:List KG):ZC Tryz.prog 24 [.x (.sl (rows Ql l))] (.x (.bool (decide (l.length<=16)&&l.all ZDD))):=by
 have hrl:=Zh Ql l;rcases hres:(decide (l.length<=16)&&l.all ZDD)with v
 refine ZI.pure (fC 24 true ?_) rfl;intro C0 E0;have uu:=ξ4 @ZLu.eq_1 @ZLu.eq_2 hrl @Zck;have tT:=ZYp;refine nz ?_;refine rg tT [0] ?_;refine rg tT [0,6] ?_;refine cd (λh0=> ?_) (λh0=> ?_)
 .rw[decide_eq_false (show ¬l.length<=16 by clear uu hres;omega),ZHM]at hres;subst hres;refine rg tT [2] ?_;refine lf ?_
  first|rfl|exact⟨rfl,rfl⟩|trivial
 .rw[ZL (show l.length<=16 by clear uu hres;omega),ZBP]at hres;refine rg tT [0,3] ?_;refine WI.loop (λφ os=> ∃(j:Nat),φ= [(0,.x (.sl (rows Ql l))),(3,.x (.int .i64 j))]/\os= []/\j<=l.length/\(l.take j).all ZDD=true) (ZK l.length 3) ?_ (λφ os hI=> ?_)
  .exact⟨0,rfl,rfl,J0,rfl⟩
  .obtain⟨j,rfl,rfl,hj,hall⟩:=hI;refine nz ?_;refine rg tT [0,3,10] ?_;refine cd (λh1=> ?_) (λh1=> ?_)
   .have hj4:j<l.length:=by clear uu;omega
    have hal:=JL ZDD l j hj4;have hno:=Zw ZDD l j hj4;refine rg tT [0,3,18] ?_;refine cd (λh2=> ?_) (λh2=> ?_)
    .have hf:ZDD l[j]=false:=by clear uu;simpa using h2
     rw[hno hf]at hres;subst hres;refine rg tT [2] ?_;refine lf ?_
     first|rfl|exact⟨rfl,rfl⟩|trivial
    .have hf:ZDD l[j]=true:=by clear uu;simpa using h2
     refine rg tT [0,3] ?_;exact⟨⟨j+1,rfl,rfl,J0,by rw[hal,hall,hf];rfl⟩,by simp[ZK,Ab.get,D.val,ZE];omega⟩
   .rw[YX (by clear uu;omega)]at hall;rw[hall]at hres;subst hres;refine rg tT [2] ?_;refine lf ?_
    first|rfl|exact⟨rfl,rfl⟩|trivial
def ZIq:J8->J5
 | [.x (.sl R)]=>(ZV Ql R).bind λl=>some (true,.x (.bool (decide (l.length<=16)&&l.all ZDD)))
 |_=>none
theorem ZZD: ∀args r,ZIq args=some (true,r)->ZC Tryz.prog 24 args r:=by
 intro args r h;unfold ZIq at h;split at h
 .rename_i R;obtain⟨l,hr0,h⟩:=Zp h;simp only[Ze,Za,ZT,Zc,true_and]at h;obtain rfl:=h;rw[<-ZY ZAv hr0];exact(ZfE l)
 .cases h
def ZPH:J8->J7->Option (Bool×D×J7)
 | [.iref 0 0,.iref 1 1,.agg [.x (.str dn),.x (.sl A)],.ref 2 k 0 k'],[o,.fam 0 [P1,P2] [],.rows _ _ 1 R]=>(unT o).bind λq=>(Jz ZA Yd P1).bind λL=>(Jz ZA Jy P2).bind λM=>(ZV ZQ A).bind λa=>(ZV ZA R).map λl=>(decide (k=l.length/\k'=l.length/\okU q.2.2.1 q.2.2.2/\QJ a/\l.length<=1000000/\ ∀n∈l,n.length<=1000000),.tup [.x (.str (ZHW (ZDK L q.2.2.1 (dn,a,()) l) (YP q.2.2.2 40 [])).1),.x (.bool (ZHW (ZDK L q.2.2.1 (dn,a,()) l) (YP q.2.2.2 40 [])).2)],[Kc q.1 q.2.1 q.2.2.1 q.2.2.2,Kp L M,.frz 1 R])
 |_,_=>none
theorem ZeV: ∀args os r os',ZPH args os=some (true,r,os')->ZN Tryz.prog 28 args os r os':=by
 intro args os r os' h;unfold ZPH at h;split at h
 .rename_i dn A k k' o P1 P2 fz e R;obtain⟨⟨LT,MT,m,B⟩,h0,h⟩:=Zp h;obtain⟨L,h1,h⟩:=Zp h;obtain⟨M,h2,h⟩:=Zp h;obtain⟨a,h3,h⟩:=Zp h;obtain⟨l,h5,h⟩:=Zd h;simp only[Za,Zc]at h;obtain⟨⟨rfl,rfl,h6,h7,h8⟩,rfl,rfl⟩:=h;rw[ZI4 h0,Ye ZM JE h1,Ye ZM JN h2,<-ZY Zr h3,<-ZY ZM h5];refine ZN.frzL (pre:= [.iref 0 0,.iref 1 1,.agg [.x (.str dn),.x (.sl (rows ZQ a))]]) (x:= .sl (rows ZA l)) (os2:= [Kc LT MT m B,Kp L M,.frz 1 (rows ZA l)]) ?_ ?_
  .have hr:=Zh ZA l;simp only[Ya,Yi,ZCD,ZCF,hr,if_true,ZAC,Yl,ZBy,ZCp,ZDM];rw[YX J0];rfl
  .exact ZN.atR (ρ:= [0,1]) (args:= [.iref 0 0,.iref 1 1,.agg [.x (.str dn),.x (.sl (rows ZQ a))],.x (.sl (rows ZA l))]) (OS:= [Kc LT MT m B,Kp L M,.frz 1 (rows ZA l)]) (os':= [Kc LT MT m B,Kp L M]) rfl (ZgG LT MT m B L M (dn,a,()) l h6 h7 h8) (Zm 2)
 .cases h
def ZG6:J8->J7->J5
 | [.iref 0 0,.iref 1 1,.x (.str n)],[o,.fam 0 [P1,P2] []]=>(unT o).bind λq=>(Jz ZA Yd P1).bind λL=>(Jz ZA Jy P2).map λ_=>(decide (okU q.2.2.1 q.2.2.2/\(YP q.2.2.2 40 []).length<=1100/\n.length<=1000000),.x (.sl (rows rP2 (twL (fU L q.2.2.1 n) (YP q.2.2.2 40 [])))))
 |_,_=>none
theorem ZZi: ∀args os r,ZG6 args os=some (true,r)->r.clean=true/\ ∃X,ZN Tryz.prog 29 args os r (os++X):=by
 intro args os r h;unfold ZG6 at h;split at h
 .obtain⟨⟨LT,MT,m,B⟩,h0,h⟩:=Zp h;obtain⟨L,h1,h⟩:=Zp h;obtain⟨M,h2,h⟩:=Zd h;simp only[Za,Zc]at h;obtain⟨h6,rfl⟩:=h;rw[ZI4 h0,Ye ZM JE h1,Ye ZM JN h2];exact⟨rfl,[],Zbd LT MT m B L M _ h6.1 h6.2.1 h6.2.2⟩
 .cases h
theorem ZaZ:ZN Tryz.prog 10 [] [] (.iref 0 0) [Kp (tyL plT) (clL plC)]:=by
 intro c E vs R hvl;refine(ZPb c E vs R hvl).mono ?_;rintro e w' ⟨v,E',rfl,rfl,R',ev,hv⟩;obtain⟨q,hq,_⟩:=R'.at (i:=0) rfl;cases hv with
 |ptr ho hb=>
  rw[hq]at hb;cases hb;exact⟨_,⟨E'.w,E'.st,[(_,ZCv (ZCo _ E'.ob))]⟩,rfl,rfl,R'.fam (k:=0) (A:= [JM (tyL plT),JH (clL plC)]) (B:= []) (.inr ⟨_,_,rfl,rfl,rfl⟩) hq,⟨ev.st,λid b cu o kd ho _ _=>(by simp at ho),λid o sz m ho _=>(by simp at ho)⟩,.iref (o:=Kp (tyL plT) (clL plC)) (cu:=ZCv (ZCo _ E'.ob)) rfl rfl rfl⟩
def ZIu:J8->J7->Option (Bool×D×J7)
 | [],[]=>some (true,.iref 0 0,[Kp (tyL plT) (clL plC)])
 |_,_=>none
theorem ZYE: ∀args os r os',ZIu args os=some (true,r,os')->ZN Tryz.prog 10 args os r os':=by
 intro args os r os' h;unfold ZIu at h;split at h
 .cases h;exact ZaZ
 .cases h
def ZHG:Tabs:=Jt (Jt (ZO) 10 ZHZ) 30 ZLx
theorem ZXk:SsOk Tryz.prog ZHG:=Yz (Yz (ZD) (ZU 10) ZQT) (ZU 30) ZcM
theorem Zb1:(∀a,ZHG.q 10 a=none)/\(∀a o,ZHG.t 10 a o=Yo ZHZ a o)/\(∀a,ZHG.q 30 a=none)/\(∀a o,ZHG.t 30 a o=Yo ZLx a o)/\(∀f a o,ZHG.r f a o=none)/\(∀f a o,ZHG.k f a o=none):=⟨λ_=>rfl,λ_ _=>rfl,λ_=>rfl,λ_ _=>rfl,λ_ _ _=>rfl,λ_ _ _=>rfl⟩
def Kt:Tabs:=ZVw (Jt (ZDB (Jt (Jt (ZR (ZR (ZR (ZO) 24 ZIq) 25 ZEr) 32 ZFJ) 31 ZLw) 28 ZPH) 29 ZG6) 10 ZIu) 10 ZId
theorem ZYo:SsOk Tryz.prog Kt:=ZaW (Yz (ZAJ (Yz (Yz (ZG (ZG (ZG (ZD) (ZU 24) ZZD) (ZU 25) ZTt) (ZU 32) ZOT) (ZU 31) ZcA) (ZU 28) ZeV) (ZU 29) ZZi) (ZU 10) ZYE) (ZU 10) ZZU
theorem ZdC:(∀a,Kt.q 24 a=ZIq a)/\(∀a,Kt.q 25 a=ZEr a)/\(∀a,Kt.q 32 a=ZFJ a)/\(∀a,Kt.q 31 a=none)/\(∀a o,Kt.t 31 a o=Yo ZLw a o)/\(∀a,Kt.q 28 a=none)/\(∀a o,Kt.t 28 a o=Yo ZPH a o)/\(∀a,Kt.q 29 a=none)/\(∀a o,Kt.t 29 a o=(JI ZG6 a o).map λr=>(r.1,r.2,o))/\(∀a o,Kt.r 29 a o=JI ZG6 a o)/\(∀a,Kt.q 10 a=none)/\(∀a o,Kt.t 10 a o=Yo ZIu a o)/\(∀a o,Kt.k 10 a o=ZId a o)/\(∀a o,Kt.r 10 a o=none)/\(∀a o,Kt.r 24 a o=none)/\(∀a o,Kt.r 25 a o=none)/\(∀a o,Kt.r 28 a o=none)/\(∀a o,Kt.r 31 a o=none)/\(∀a o,Kt.r 32 a o=none):=⟨λ_=>rfl,λ_=>rfl,λ_=>rfl,λ_=>rfl,λ_ _=>rfl,λ_=>rfl,λ_ _=>rfl,λ_=>rfl,λ_ _=>rfl,λ_ _=>rfl,λ_=>rfl,λ_ _=>rfl,λ_ _=>rfl,λ_ _=>rfl,λ_ _=>rfl,λ_ _=>rfl,λ_ _=>rfl,λ_ _=>rfl,λ_ _=>rfl⟩
set_option maxHeartbeats 4000000 in
theorem ZRC(l:List KG)(n:Tx):ZC Tryz.prog 7 [.x (.sl (rows Ql l)),.x (.str n)] (.x (.bool true)):=by
 have hrl:=Zh Ql l;have hun:=ZSJ (tyL plT) (clL plC);have hu1:Jz ZA Yd (JM (tyL plT))=some (tyL plT):=ZC1 _;have hu2:Jz ZA Jy (JH (clL plC))=some (clL plC):=ZCy _;have hun1:ZV ZA [[X.str n]]=some [n]:=Zf ZM [n];refine ZI.pure (fC 7 true ?_) rfl;intro C0 E0;have uu:=KJ @ZCZ @ZCk @ZDe @ZDd @ZAU @ZAS @ZHZ.eq_1 @ZHZ.eq_2 (KJ @ZLx.eq_1 @ZLx.eq_2 @ZLw.eq_1 @ZLw.eq_2 @ZPH.eq_1 @ZPH.eq_2 @ZG6.eq_1 @ZG6.eq_2 (KJ @ZId.eq_1 @ZId.eq_2 @ZIu.eq_1 @ZIu.eq_2 @ZIq.eq_1 @ZIq.eq_2 @ZEr.eq_1 @ZEr.eq_2 (ξ8 @ZFJ.eq_1 @ZFJ.eq_2 hrl hu1 hu2 hun1 @Zb1 @ZdC)));have tT:=ZYo;refine nz ?_;refine rg tT [0,1] ?_;refine rg tT [0,1,16] ?_;refine cd (λh0=> ?_) (λh0=> ?_)
 .refine rg tT [4] ?_;refine lf ?_
  first|rfl|exact⟨rfl,rfl⟩|trivial
 .have hfe:(l.length<=16/\l.all ZDD=true)/\n.length<=100:=by clear uu;grind
  refine rg ZXk [0,1,5] ?_;refine WI.pickA [5,0,1,2,3,4] ?_ (ho:=by simp (disch:=decide) only[zV,zO,Ob.mpb,frzL,ZA4,ZCs,onF,Ob.onI,mpP,JZ,Yl,ZAD,D.vw,vwL,D.on,D.inP,Yr,Zq,D.ren,Zy,inv,YW,Ob.mp,Ob.ren,D.nn,ZDr,Nat.reduceBEq,Nat.reduceEqDiff,Nat.reduceAdd,↓reduceIte,ZiB,ZiQ,ZCZ,ZCk];rfl);refine WI.famA 9 Zer ?_;refine rg tT [0,1,5,21] ?_;refine ce (λh1=> ?_) (λh1=> ?_)
  .simp at h1
  .refine rg tT [0,1,5,6] ?_;refine WI.loop (λφ os=> ∃(i:Nat) (m:EM) (B:BM),φ= [(0,.x (.sl (rows Ql l))),(1,.x (.str n)),(5,.iref 0 0),(6,.x (.int .i64 i))]/\os= [Kc (tyL plT) (clL plC) m B]/\i<=l.length/\Uq (tyL plT) n m B) (ZK l.length 6) ?_ (λφ os hI=> ?_)
   .exact⟨0,[],[],rfl,rfl,J0,Zg6 _ _⟩
   .obtain⟨i,m,B,rfl,rfl,hi,hR⟩:=hI;have hunm:=hun m B;have uu:=YZ uu hunm;refine nz ?_;refine rg tT [0,1,5,6,25] ?_;refine cd (λh2=> ?_) (λh2=> ?_)
    .have hi4:i<l.length:=by clear uu;omega
     have hfi:ZDD l[i]=true:=Yc.1 hfe.1.2 _ (YM hi4);have hsm:=Zgy hfi;have hua:ZV ZQ (rows ZQ l[i].2.1)=some l[i].2.1:=Zf Zr _;have c1:decide (1= [n].length/\1= [n].length/\okU m B/\QJ l[i].2.1/\ [n].length<=1000000/\ ∀x∈ [n],x.length<=1000000)=true:=ZL ⟨rfl,rfl,hR.ok.1,hsm.1,J1,by simpa using (show n.length<=1000000 by omega)⟩;have c2:decide (okT m B/\QJ l[i].2.1/\ZLT (clL plC) l[i].2.1)=true:=ZL ⟨hR.inv.ok,hsm.1,hsm.2.2⟩;have uu:=ξ4 uu hua c1 c2;refine WI.dregB tT [0,1,5,6,8] ?_;refine YD ?_;refine dKC ?_
     iterate 2 refine YD ?_
     iterate 2 refine JO ?_
     refine YD ?_;refine dKG ?_;refine dAC ?_;refine YD ?_
     iterate 2 refine KR ?_
     iterate 2 refine YD ?_
     refine dN ?_;refine nz ?_;refine rg tT [0,1,5,6,41] ?_;refine cd (λh3=> ?_) (λh3=> ?_)
     .have hadd:=hR.add (tyL plT) (clL plC) l[i] hsm.2.1 (by clear uu;simpa using h3);refine rg tT [0,1,5,6] ?_;refine WI.pickA [0] ?_;refine WI.orderA [0,1,5,6] ?_;refine rg tT [0,1,5,6] ?_
      first|exact⟨⟨i+1,_,_,rfl,rfl,J0,hadd⟩,by simp[ZK,Ab.get,D.val,ZE];omega⟩|exact⟨⟨i+1,_,_,rfl,rfl,J0,hR⟩,by simp[ZK,Ab.get,D.val,ZE];omega⟩
     .refine WI.pickA [0] ?_;refine WI.orderA [0,1,5,6] ?_;refine rg tT [0,1,5,6] ?_
      first|exact⟨⟨i+1,_,_,rfl,rfl,J0,hadd⟩,by simp[ZK,Ab.get,D.val,ZE];omega⟩|exact⟨⟨i+1,_,_,rfl,rfl,J0,hR⟩,by simp[ZK,Ab.get,D.val,ZE];omega⟩
    .have c3:decide (okU m B/\(YP B 40 []).length<=1100/\(ZH n).length<=1000000)=true:=ZL ⟨hR.ok.1,hR.ok.2,by rw[ZDs];omega⟩;have c4:decide (n.length<=1000000)=true:=ZL J0;have htw:=hR.two (ZH n) (λa b=>Zc8 _ a b n);have uu:=ξ4 uu c3 c4 htw;refine rg tT [4] ?_;refine lf ?_
     first|rfl|exact⟨rfl,rfl⟩|trivial
end Go.Proofs.YtpjfdjcejamebaaGreatDoor
end
