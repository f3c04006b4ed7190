import Derived.Test.YtpjfdjcejamebaaGreatDoorLA4
import Derived.LoopN
import Derived.Lib.SlKeysI
set_option linter.unusedSimpArgs false
set_option linter.unusedVariables false
section
namespace Go.Ab
open Go.RowKit Go.Bo
def YB (S:Tabs):Bool→List (Nat×D)→List Ob→List IOp→Option (Bool×List (Nat×D)×List Ob)
 |b,φ,os,[]=>some (b,φ,os)
 |b,φ,os,o::l=>match Yu S φ os o with
  |some r=>YB S (b&&r.1) r.2.1 r.2.2 l
  |none=>none
theorem ZDb (S:Tabs): ∀(l:List IOp) (b:Bool) (φ:List (Nat×D)) (os:List Ob),YB S b φ os l=(Qg S φ os l).map fun q=>(b&&q.1,q.2)
 | [],b,φ,os=>by simp[YB,Qg]
 |o::l,b,φ,os=>by
  simp only[YB,Qg];cases Yu S φ os o with
  |none=>rfl
  |some r=>
   simp only[Option.bind_some,ZDb S l];cases Qg S r.2.1 r.2.2 l with
   |none=>rfl
   |some q=>simp[Bool.and_assoc]
def YL (S:Tabs) (os0:List Ob) (k:Nat) (rs:List Nat):Nat→Bool→List (Nat×D)→Nat→List Ob→List Ob→Option (List Ob)→List IOp→Option (Bool×List (Nat×D)×List Ob)
 |_,b,φ,_,_,C,last,[]=>some (b,φ,last.getD (os0++C))
 |i,b,φ,id,os,C,last,o::l=>
  if o.e.frame then match Ym S φ [] o with
   |some r=>YL S os0 k rs (i+1) (b&&r.1) (putO φ o.dst r.2) id os C last l
   |none=>none
  else if Zo i rs then match Ym S φ os0 o with
   |some r=>YL S os0 k rs (i+1) (b&&r.1) (putO φ o.dst r.2) id os C last l
   |none=>none
  else if i<k then match Ym S φ os0 o with
   |some r=>YL S os0 k rs (i+1) (b&&r.1) (putO φ o.dst r.2) id os C last l
   |none=>match ZDZ φ os o with
    |some r=>YL S os0 k rs (i+1) (b&&r.1) (putO φ o.dst r.2) id os C last l
    |none=>match QM S φ os0 id o with
     |some r=>YL S os0 k rs (i+1) (b&&r.1) (putO φ o.dst r.2.1) (id+1) (os++ [r.2.2]) (C++ [r.2.2]) last l
     |none=>none
  else match KX S φ os o with
   |some r=>YL S os0 k rs (i+1) (b&&(r.1&&(match rs with| []=>true|_=>Js os0 r.2.2))) (putO φ o.dst r.2.1) id r.2.2 C (some r.2.2) l
   |none=>none
theorem ZC9 (rs:List Nat) (os0:List Ob) (G):ZH7 rs os0 (none::G)=ZH7 rs os0 G:=by cases rs<;>rfl
theorem ZT9 (rs:List Nat) (os0:List Ob) (x:List Ob) (G):ZH7 rs os0 (some x::G)=((match rs with| []=>true|_=>Js os0 x)&&ZH7 rs os0 G):=by cases rs<;>rfl
theorem Yw (G:List (Option (List Ob))) (i:Nat) (b:List Ob):Zp (none::G) (fun _=>true) i b=Zp G (fun _=>true) 0 b:=by
 simp only[Zp];exact Yd _ _ _ _ _ (fun _ _ _=>rfl)|>.trans (by
  have: ∀(G:List (Option (List Ob))) (i j:Nat) (b:List Ob),Zp G (fun _=>true) i b=Zp G (fun _=>true) j b:=by
   intro G
   induction G with
   |nil=>intro i j b;rfl
   |cons x G ih=>intro i j b;cases x<;>simp only[Zp]<;>exact ih _ _ _
  exact this _ _ _ _)
theorem ZEc (G:List (Option (List Ob))) (i:Nat) (b x:List Ob):Zp (some x::G) (fun _=>true) i b=Zp G (fun _=>true) 0 x:=by
 have: ∀(G:List (Option (List Ob))) (i j:Nat) (b:List Ob),Zp G (fun _=>true) i b=Zp G (fun _=>true) j b:=by
  intro G
  induction G with
  |nil=>intro i j b;rfl
  |cons x G ih=>intro i j b;cases x<;>simp only[Zp]<;>exact ih _ _ _
 simp only[Zp,if_true];exact this _ _ _ _
theorem ZBb (S:Tabs) (os0:List Ob) (k:Nat) (rs:List Nat): ∀(l:List IOp) (i:Nat) (b:Bool) (φ:List (Nat×D)) (id:Nat) (os C:List Ob) (last:Option (List Ob)),
  YL S os0 k rs i b φ id os C last l=(JQ S os0 k rs i φ id os l).map fun q=>(b&&(q.1&&ZH7 rs os0 q.2.2),YT φ q.2.1,Zp q.2.2 (fun _=>true) 0 (last.getD (os0++C++Zu q.2.1)))
 | [],i,b,φ,id,os,C,last=>by
  have:ZH7 rs os0 []=true:=by cases rs<;>rfl
  simp[YL,JQ,YT,Zu,Zp,this]
 |o::l,i,b,φ,id,os,C,last=>by
  simp only[YL,JQ];split
  ·cases Ym S φ [] o with
   |none=>rfl
   |some r=>
    simp only[Option.bind_some,ZBb S os0 k rs l];cases JQ S os0 k rs (i+1) (putO φ o.dst r.2) id os l with
    |none=>rfl
    |some q=>simp only[Option.map_some,Bool.and_assoc,YT,Zu,ZC9,Yw]
  ·split
   ·cases Ym S φ os0 o with
    |none=>rfl
    |some r=>
     simp only[Option.bind_some,ZBb S os0 k rs l];cases JQ S os0 k rs (i+1) (putO φ o.dst r.2) id os l with
     |none=>rfl
     |some q=>simp only[Option.map_some,Bool.and_assoc,YT,Zu,ZC9,Yw]
   ·split
    ·cases Ym S φ os0 o with
     |some r=>
      simp only[ZBb S os0 k rs l];cases JQ S os0 k rs (i+1) (putO φ o.dst r.2) id os l with
      |none=>rfl
      |some q=>simp only[Option.map_some,Bool.and_assoc,YT,Zu,ZC9,Yw]
     |none=>
      cases ZDZ φ os o with
      |some r=>
       simp only[ZBb S os0 k rs l];cases JQ S os0 k rs (i+1) (putO φ o.dst r.2) id os l with
       |none=>rfl
       |some q=>simp only[Option.map_some,Bool.and_assoc,YT,Zu,ZC9,Yw]
      |none=>
       cases QM S φ os0 id o with
       |none=>rfl
       |some r=>
        simp only[Option.bind_some,ZBb S os0 k rs l];cases JQ S os0 k rs (i+1) (putO φ o.dst r.2.1) (id+1) (os++ [r.2.2]) l with
        |none=>rfl
        |some q=>simp only[Option.map_some,Bool.and_assoc,YT,Zu,ZC9,Yw,List.append_assoc,List.cons_append,List.nil_append]
    ·cases KX S φ os o with
     |none=>rfl
     |some r=>
      simp only[Option.bind_some,ZBb S os0 k rs l];cases JQ S os0 k rs (i+1) (putO φ o.dst r.2.1) id r.2.2 l with
      |none=>rfl
      |some q=>simp only[Option.map_some,Bool.and_assoc,YT,Zu,ZT9,ZEc,Option.getD_some];congr 1;simp only[Zc,and_true];ac_rfl
section
variable {P:Program} {c:Ctx} {E0:Env} {os0 os:List Ob} {n:Nat} {Q:Exit→List (Nat×D)→List Ob→Prop} {φ:List (Nat×D)}
theorem WI.regA {S:Tabs} (hS:SsOk P S) (ks:List Nat) {l:List IOp} (h: ∀K:List (Nat×D)→List Ob→Prop,(∀φ' os',Q .normal φ' os'→K φ' os')→YI (YB S true φ os l) (fun φ' os'=>K (Go.Ab.keep ks φ') os')):WI P c E0 os0 n (.reg l) Q φ os:=
 WI.regK hS ks (fun K hK=>by
  have:=h K hK;rw[ZDb]at this;obtain⟨ok,φ',os',h1,h2,h3⟩:=this;obtain⟨⟨ok2,q⟩,h4,h5⟩:=Zd h1;simp at h5;obtain⟨rfl,rfl⟩:=h5;exact⟨_,_,_,h4,h2,h3⟩)
theorem WI.dregA {S:Tabs} (hS:SsOk P S) (ks:List Nat) {k:Nat} {rs:List Nat} {l:List IOp} (h: ∀K:List (Nat×D)→List Ob→Prop,(∀φ' os',Q .normal φ' os'→K φ' os')→YI (YL S os k rs 0 true φ os.length os [] none l) (fun φ' os'=>K (Go.Ab.keep ks φ') os')):WI P c E0 os0 n (.dreg k rs l) Q φ os:=
 WI.dregK hS ks (fun K hK=>by
  have:=h K hK;rw[ZBb]at this;obtain⟨ok,φ',os',h1,h2,h3⟩:=this;obtain⟨q,h4,h5⟩:=Zd h1;simp at h5;obtain⟨h5,rfl,rfl⟩:=h5;refine⟨_,_,_,?_,h5.trans h2,h3⟩;simp only[ZLL,h4,Option.map_some])
end
theorem ZLT (φ:List (Nat×D)): ∀(ts:List Nat) (t:Nat),get (ts.map fun u=>(u,get φ u)) t=get φ t∨get (ts.map fun u=>(u,get φ u)) t= .und
 | [],t=> .inr rfl
 |u::ts,t=>by
  simp only[List.map_cons,get];split
  ·rename_i h;subst h;exact .inl rfl
  ·exact ZLT φ ts t
theorem WI.order {P:Program} {c:Ctx} {E0:Env} {os0 os:List Ob} {n:Nat} {Q:Exit→List (Nat×D)→List Ob→Prop} {φ:List (Nat×D)} {ic:IC} (ts:List Nat) (h:WI P c E0 os0 n ic Q (ts.map fun u=>(u,get φ u)) os):WI P c E0 os0 n ic Q φ os:=
 WI.weak (fun E _ R hf=>⟨E,rfl,R,hf.size,hf.defers,fun t=>by
  rcases ZLT φ ts t with h|h
  ·rw[h];exact hf.slot t
  ·rw[h];exact .und _⟩) h
mutual
theorem X.beq_refl: ∀x:X,X.beq x x=true
 | .int k n=>by simp[X.beq]
 | .bool a=>by simp[X.beq]
 | .str s=>by simp[X.beq]
 | .nilp=>rfl
 | .nils=>rfl
 | .sl a=>by simp only[X.beq];exact X.beqR_refl a
theorem X.beqR_refl: ∀a:List (List X),X.beqR a a=true
 | []=>rfl
 |r::l=>by simp only[X.beqR,ZW];exact⟨X.beqL_refl r,X.beqR_refl l⟩
theorem X.beqL_refl: ∀a:List X,X.beqL a a=true
 | []=>rfl
 |x::l=>by simp only[X.beqL,ZW];exact⟨X.beq_refl x,X.beqL_refl l⟩
end
mutual
theorem D.beq_refl: ∀d:D,D.beq d d=true
 | .x a=>by simp only[D.beq];exact X.beq_refl a
 | .ref a b c d=>by simp[D.beq]
 | .ptr a b=>by simp[D.beq]
 | .eptr a b c d=>by simp[D.beq]
 | .vptr a=>by simp only[D.beq];exact X.beqL_refl a
 | .mref a=>by simp[D.beq]
 | .mnil=>rfl
 | .iref a b=>by simp[D.beq]
 | .stk a b=>by simp[D.beq]
 | .bref a b c=>by simp[D.beq]
 | .agg a=>by simp only[D.beq];exact D.beqL_refl a
 | .tup a=>by simp only[D.beq];exact D.beqL_refl a
 | .full a=>by simp only[D.beq];exact X.beqR_refl a
 | .nz a=>by simp only[D.beq];exact X.beqR_refl a
 | .fn f a=>by simp only[D.beq,ZW];exact⟨by simp,D.beqL_refl a⟩
 | .opt a d=>by simp only[D.beq,ZW];exact⟨by simp,D.beq_refl d⟩
 | .und=>rfl
theorem D.beqL_refl: ∀a:List D,D.beqL a a=true
 | []=>rfl
 |e::l=>by simp only[D.beqL,ZW];exact⟨D.beq_refl e,D.beqL_refl l⟩
end
theorem beqR_refl: ∀a:List (List D),beqR a a=true
 | []=>rfl
 |r::l=>by simp only[beqR,ZW];exact⟨D.beqL_refl r,beqR_refl l⟩
theorem ZLp (p:Pr):ZKz p p=true:=by simp only[ZKz,ZW];exact⟨X.beqL_refl p.1,D.beqL_refl p.2⟩
theorem ZC5: ∀a:List Pr,ZFB a a=true
 | []=>rfl
 |p::l=>by simp only[ZFB,ZW];exact⟨ZLp p,ZC5 l⟩
theorem ZU7: ∀a:Option Pr,ZZb a a=true
 |none=>rfl
 |some p=>ZLp p
theorem Ob.beq_refl (o:Ob):Ob.beq o o=true:=by
 cases o with
 |box ds=>simp only[Ob.beq];exact D.beqL_refl ds
 |rows f e s rs=>simp only[Ob.beq,ZW];exact⟨by simp,Nat.beq_refl e,Nat.beq_refl s,X.beqR_refl rs⟩
 |drw e s rs=>simp only[Ob.beq,ZW];exact⟨Nat.beq_refl e,Nat.beq_refl s,beqR_refl rs⟩
 |frz s rs=>simp only[Ob.beq,ZW];exact⟨Nat.beq_refl s,X.beqR_refl rs⟩
 |mpo dk ag l=>simp only[Ob.beq,ZW];exact⟨by simp,by simp,ZC5 l⟩
 |mit dk ag l it R cur=>simp only[Ob.beq,ZW];exact⟨by simp,by simp,ZC5 l,Nat.beq_refl it,ZC5 R,ZU7 cur⟩
 |mpn dk ag l key sid=>simp only[Ob.beq,ZW];exact⟨by simp,by simp,ZC5 l,X.beqL_refl key,Nat.beq_refl sid⟩
 |itr=>rfl
 |stp=>rfl
 |nit=>rfl
 |sit s pos=>simp only[Ob.beq,ZW];exact⟨by simp,Nat.beq_refl pos⟩
 |dead=>rfl
def Qe (φ:List (Nat×D)):Option IO→Option D
 |none=>none
 |some l=>some (ZE φ l)
def KO (dx:D) (lo hi mx:Option D):Option (Bool×D):=
 match dx.val with
 | .x (.str s)=>match lo,hi,mx with
  |none,none,none=>some (dx.cond,.x (.str s))
  |some l,none,none=>(ZF l.val).map fun(n:Int)=>(dx.cond&&(l.cond&&(decide (0≤n)&&decide (n≤s.length))),.x (.str (s.drop n.toNat)))
  |none,some h,none=>(ZF h.val).map fun(m:Int)=>(dx.cond&&(h.cond&&(decide (0≤m)&&decide (m≤s.length))),.x (.str (s.take m.toNat)))
  |some l,some h,none=>(ZF l.val).bind fun(n:Int)=>(ZF h.val).map fun(m:Int)=>(dx.cond&&((l.cond&&h.cond)&&(decide (0≤n)&&(decide (n≤m)&&decide (m≤s.length)))),.x (.str ((s.take m.toNat).drop n.toNat)))
  |_,_,_=>none
 |_=>none
def Kx (os:List Ob) (sz:Nat) (dx:D) (lo hi mx:Option D):Option (Bool×D):=
 match dx.val with
 | .x .nils=>(Jq (lo)).bind fun p=>(Jq (hi)).bind fun q=>(Jq (mx)).map fun r=>(dx.cond&&((mx.isNone||hi.isSome)&&(p&&(q&&r))),.x .nils)
 | .x (.sl rs)=>match lo,hi,mx with
  |none,none,none=>some (dx.cond,.x (.sl rs))
  |some l,none,none=>(ZF l.val).map fun(n:Int)=>(dx.cond&&(l.cond&&(decide (0≤n)&&(decide (n≤rs.length)&&rs.all fun r=>decide (r.length=sz)))),.x (.sl (rs.drop n.toNat)))
  |none,some h,none=>(ZF h.val).map fun(m:Int)=>(dx.cond&&(h.cond&&(decide (0≤m)&&(decide (m≤rs.length)&&rs.all fun r=>decide (r.length=sz)))),.x (.sl (rs.take m.toNat)))
  |some l,some h,none=>(ZF l.val).bind fun(n:Int)=>(ZF h.val).map fun(m:Int)=>(dx.cond&&((l.cond&&h.cond)&&(decide (0≤n)&&(decide (n≤m)&&(decide (m≤rs.length)&&rs.all fun r=>decide (r.length=sz))))),.x (.sl ((rs.take m.toNat).drop n.toNat)))
  |l,some h,some mi=>(Jq l).bind fun z=>(ZF h.val).bind fun(n:Int)=>(ZF mi.val).map fun(m:Int)=>(dx.cond&&(z&&(h.cond&&(mi.cond&&(decide (0≤n)&&(decide (n≤rs.length)&&(decide (n=m)&&rs.all fun r=>decide (r.length=sz))))))),.full (rs.take n.toNat))
  |_,_,_=>none
 | .ref id ext off len=>match os[id]? with
  |some o=>match o.slice? with
   |some (sz',rs)=>match lo,hi,mx with
    |some l,none,none=>(ZF l.val).map fun(n:Int)=>(dx.cond&&(l.cond&&(decide (sz'=sz)&&(decide (rs.length=ext)&&(decide (0≤n)&&decide (n≤len))))),.ref id ext (off+n.toNat) (len-n.toNat))
    |none,some h,none=>(ZF h.val).map fun(m:Int)=>(dx.cond&&(h.cond&&(decide (sz'=sz)&&(decide (rs.length=ext)&&(decide (0≤m)&&decide (m≤len))))),.ref id ext off m.toNat)
    |some l,some h,none=>(ZF l.val).bind fun(n:Int)=>(ZF h.val).map fun(m:Int)=>(dx.cond&&((l.cond&&h.cond)&&(decide (sz'=sz)&&(decide (rs.length=ext)&&(decide (0≤n)&&(decide (n≤m)&&decide (m≤len)))))),.ref id ext (off+n.toNat) (m.toNat-n.toNat))
    |_,_,_=>none
   |none=>none
  |none=>none
 |_=>none
theorem ZEo (φ:List (Nat×D)) (x:IO) (lo hi mx:Option IO):ZFP φ x lo hi mx=KO (ZE φ x) (Qe φ lo) (Qe φ hi) (Qe φ mx):=by
 cases lo<;>cases hi<;>cases mx<;>rfl
theorem ZGj (φ:List (Nat×D)) (os:List Ob) (sz:Nat) (x:IO) (lo hi mx:Option IO):ZGY φ os sz x lo hi mx=Kx os sz (ZE φ x) (Qe φ lo) (Qe φ hi) (Qe φ mx):=by
 cases lo<;>cases hi<;>cases mx<;>rfl
def ZA7 (φ:List (Nat×D)):List IO→List D
 | []=> []
 |y::ys=>(ZE φ y).val::ZA7 φ ys
def Qf (φ:List (Nat×D)):List IO→Bool
 | []=>true
 |y::ys=>(ZE φ y).cond&&Qf φ ys
theorem ZEg (φ:List (Nat×D)): ∀l,(l.map fun y=>(ZE φ y).val)=ZA7 φ l
 | []=>rfl
 |y::ys=>by simp[ZA7,ZEg φ ys]
theorem ZDY (φ:List (Nat×D)): ∀l:List IO,(l.all fun y=>(ZE φ y).cond)=Qf φ l
 | []=>rfl
 |y::ys=>by simp[Qf,ZDY φ ys]
def ZB7 (T:FuncId→List D→List Ob→Option (Bool×D×List Ob)) (df:D) (vs:List D) (cs:Bool) (os:List Ob):Option (Bool×D×List Ob):=match df.val with
 | .fn g caps=>(T g (vs++caps) os).map fun r=>(df.cond&&(cs&&r.1),r.2)
 |_=>none
def ZCD (T:FuncId→List D→List Ob→Option (Bool×D)) (df:D) (vs:List D) (cs:Bool) (os:List Ob):Option (Bool×D):=match df.val with
 | .fn g caps=>(T g (vs++caps) os).map fun r=>(df.cond&&(cs&&r.1),r.2)
 |_=>none
def ZBz (T:FuncId→List D→List Ob→Option (Bool×(Nat→D)×Ob)) (df:D) (vs:List D) (cs:Bool) (os:List Ob) (id:Nat):Option (Bool×D×Ob):=match df.val with
 | .fn g caps=>(T g (vs++caps) os).map fun r=>(df.cond&&(cs&&r.1),r.2.1 id,r.2.2)
 |_=>none
theorem ZOP (T:FuncId→List D→List Ob→Option (Bool×D×List Ob)) (φ:List (Nat×D)) (os:List Ob) (e:IE):ZEX T φ os e=match e with
  | .call f xs=>ZB7 T (ZE φ f) (ZA7 φ xs) (Qf φ xs) os
  |_=>none:=by
 cases e<;>first|rfl|skip
 simp only[ZEX,ZEg,ZDY,ZB7];generalize(ZE φ _).val=u;cases u<;>rfl
theorem ZMn (T:FuncId→List D→List Ob→Option (Bool×D)) (φ:List (Nat×D)) (os:List Ob) (e:IE):ZAe T φ os e=match e with
  | .call f xs=>ZCD T (ZE φ f) (ZA7 φ xs) (Qf φ xs) os
  |_=>none:=by
 cases e<;>first|rfl|skip
 simp only[ZAe,ZEg,ZDY,ZCD];generalize(ZE φ _).val=u;cases u<;>rfl
theorem ZOJ (T:FuncId→List D→List Ob→Option (Bool×(Nat→D)×Ob)) (φ:List (Nat×D)) (os:List Ob) (id:Nat) (e:IE):ZCj T φ os id e=match e with
  | .call f xs=>ZBz T (ZE φ f) (ZA7 φ xs) (Qf φ xs) os id
  |_=>none:=by
 cases e<;>first|rfl|skip
 simp only[ZCj,ZEg,ZDY,ZBz];generalize(ZE φ _).val=u;cases u<;>rfl
section
variable {S:Tabs} {os0 os C:List Ob} {k i id:Nat} {rs:List Nat} {φ φ':List (Nat×D)} {os':List Ob} {last:Option (List Ob)} {o:IOp} {l:List IOp} {ok:Bool} {d:D} {ob:Ob} {K:List (Nat×D)→List Ob→Prop}
theorem ZJy (s:List UInt8):(s.map Zk).take s.length=s.map Zk:=YN (by simp)
theorem ZOM (l:List (List UInt8)) (w:List UInt8):rows ZJ l++ [[X.str w]]=rows ZJ (l++ [w]):=Qx ZJ l [w]
theorem ZMP (s:List UInt8) (i:Nat) (h:i<s.length):(s.map Zk)[i]? =some [X.int .u8 (s[i].toNat:Int)]:=by simp[Zk,h]
theorem ZLu (s:List UInt8):(s.map Zk).length=s.length:=List.length_map ..
theorem Jn (s:List UInt8):(s.map Zk).map ZBr=s:=by
 rw[List.map_map]
 conv=>rhs;rw[←List.map_id s]
 refine List.map_congr_left (fun b _=> ?_);simp[ZBr,Zk]
theorem YX (s:List UInt8):((s.map Zk).all ZCz)=true:=by
 rw[List.all_eq_true];intro r hr;obtain⟨b,_,rfl⟩:=List.mem_map.1 hr;rfl
theorem ZTu {α:Type} (c:RC α):Zg c []=some []:=rfl
theorem ZJf (n:Nat):Nat.beq n n=true:=Nat.beq_refl n
theorem ZKE (m n:Nat) (h:m≠n):Nat.beq m n=false:=by
 cases hb:Nat.beq m n with
 |false=>rfl
 |true=>exact absurd (Nat.eq_of_beq_eq_true hb) h
theorem ZTb (b:Bool):(b||b==false)=true:=by cases b<;>rfl
theorem ZQU (dk:KK) (ag:Bool) (l:List Pr):(Ob.mpo dk ag l).map? =some (dk,ag,l):=rfl
theorem ZQh (dk:KK) (ag:Bool) (l:List Pr) (it:Nat) (R:List Pr) (cur:Option Pr):(Ob.mit dk ag l it R cur).map? =some (dk,ag,l):=rfl
theorem ZQu (dk:KK) (ag:Bool) (l:List Pr) (key:List X) (sid:Nat):(Ob.mpn dk ag l key sid).map? =some (dk,ag,l):=rfl
theorem ZRG (dk:KK) (ag:Bool) (l:List Pr):(Ob.mpo dk ag l).upd? =some (dk,ag,l):=rfl
theorem ZRS (dk:KK) (ag:Bool) (l:List Pr) (key:List X) (sid:Nat):(Ob.mpn dk ag l key sid).upd? =some (dk,ag,l):=rfl
theorem ZQF (k:IntKind) (n:Int):Jp (.int k) (.x (.int k n))=some [.int k n]:=by simp[Jp]
theorem ZQR (s:List UInt8):Jp .str (.x (.str s))=some [.str s]:=rfl
theorem ZOy (k:IntKind) (n:Int):keyD (.int k) [.int k n]= .x (.int k n):=rfl
theorem ZOE (s:List UInt8):keyD .str [.str s]= .x (.str s):=rfl
theorem ZOT (d:D):ZDW false [d]=d:=rfl
theorem ZRB (ds:List D):ZDW true ds= .agg ds:=rfl
theorem ZdU (y:X):agD (.x y)=false:=rfl
theorem ZWF (ds:List D):agD (.agg ds)=true:=rfl
theorem ZWs (a b c d:Nat):agD (.ref a b c d)=false:=rfl
theorem ZWT (a b:Nat):agD (.ptr a b)=false:=rfl
theorem ZQC (a:Nat):agD (.mref a)=false:=rfl
theorem ZcR (k:KK):(k=k)=True:=eq_self k
theorem Zc7 (b:Bool):(b=b)=True:=eq_self b
theorem Zcw (b:Nat):(b=b)=True:=eq_self b
theorem ZNv (k:List X):JL [] k=none:=rfl
def ZcX (N it:Nat) (_:List (Nat×D)) (os:List Ob):Nat:=match os[it]? with|some (.sit _ p)=>N-p|_=>0
def Zce (mid:Nat) (_:List (Nat×D)) (os:List Ob):Nat:=match os[mid]? with|some (.mit _ _ _ _ R _)=>R.length|_=>0
theorem osN (h:K φ os):YI (YB S true φ os []) K:=⟨true,φ,os,rfl,rfl,h⟩
theorem osS (he:Yu S φ os o=some (ok,φ',os')) (hok:ok=true) (h:YI (YB S true φ' os' l) K):YI (YB S true φ os (o::l)) K:=by
 subst hok;simp only[YB,he,Bool.and_true];exact h
theorem dsN (h:K φ (last.getD (os0++C))):YI (YL S os0 k rs i true φ id os C last []) K:=⟨true,φ,_,rfl,rfl,h⟩
theorem dsF (hf:o.e.frame=true) (he:(Ym S φ [] o).map (fun r=>(r.1,putO φ o.dst r.2))=some (ok,φ')) (hok:ok=true) (h:YI (YL S os0 k rs (i+1) true φ' id os C last l) K):YI (YL S os0 k rs i true φ id os C last (o::l)) K:=by
 subst hok;obtain⟨r,h1,h2⟩:=Zd he;simp only[Zc]at h2;obtain⟨h2,rfl⟩:=h2;simp only[YL,hf,if_true,h1,h2,Bool.and_true];exact h
theorem dsQ (hf:o.e.frame=false) (hm:Zo i rs=false) (hk:Nat.ble (i+1) k=true) (he:(Ym S φ os0 o).map (fun r=>(r.1,putO φ o.dst r.2))=some (ok,φ')) (hok:ok=true) (h:YI (YL S os0 k rs (i+1) true φ' id os C last l) K):YI (YL S os0 k rs i true φ id os C last (o::l)) K:=by
 subst hok;obtain⟨r,h1,h2⟩:=Zd he;simp only[Zc]at h2;obtain⟨h2,rfl⟩:=h2;have hk':i<k:=ξ hk;simp only[YL,hf,hm,if_true,h1,h2,hk',Bool.and_true,Bool.false_eq_true,if_false];exact h
theorem ZUf {S:Tabs} {φ:List (Nat×D)} {os0 os:List Ob} {id:Nat} {o:IOp} {r:Bool×D×Ob} (h:QM S φ os0 id o=some r):ZDZ φ os o=none:=by
 obtain⟨dst,e,g⟩:=o;cases g with
 |some p=>rfl
 |none=>
  cases e with
  |b2s x=>simp[QM,evC,Kv,ZCj]at h
  |_=>rfl
theorem dsK (hf:o.e.frame=false) (hm:Zo i rs=false) (hk:Nat.ble (i+1) k=true) (hn:Ym S φ os0 o=none) (he:(QM S φ os0 id o).map (fun r=>(r.1,putO φ o.dst r.2.1,r.2.2))=some (ok,φ',ob)) (hok:ok=true) (h:YI (YL S os0 k rs (i+1) true φ' (id+1) (os++ [ob]) (C++ [ob]) last l) K):YI (YL S os0 k rs i true φ id os C last (o::l)) K:=by
 subst hok;obtain⟨r,h1,h2⟩:=Zd he;simp only[Zc]at h2;obtain⟨h2,rfl,rfl⟩:=h2;have hk':i<k:=ξ hk;simp only[YL,hf,hm,if_true,hn,ZUf h1,h1,h2,hk',Bool.and_true,Bool.false_eq_true,if_false];exact h
theorem dsA (hf:o.e.frame=false) (hm:Zo i rs=false) (hk:Nat.ble (i+1) k=false) (he:(KX S φ os o).map (fun r=>(r.1&&(match rs with| []=>true|_=>Js os0 r.2.2),putO φ o.dst r.2.1,r.2.2))=some (ok,φ',os')) (hok:ok=true) (h:YI (YL S os0 k rs (i+1) true φ' id os' C (some os') l) K):YI (YL S os0 k rs i true φ id os C last (o::l)) K:=by
 subst hok;obtain⟨r,h1,h2⟩:=Zd he;simp only[Zc]at h2;obtain⟨h2,rfl,rfl⟩:=h2;have hk': ¬i<k:=fun h=>by have:=Nat.ble_eq_true_of_le h;rw[Nat.succ_eq_add_one,hk]at this;cases this
 simp only[YL,hf,hm,h1,h2,hk',Bool.true_and,Bool.false_eq_true,if_false];exact h
end
section
variable {κ β:Type} (kc:κ→List X) (vc:β→List X)
def YS (L:List (κ×β)):List Pr:=L.map fun p=>(kc p.1,(vc p.2).map D.x)
theorem ZGX (L:List (κ×β)):(YS kc vc L).length=L.length:=by simp[YS]
theorem Zav (L:List (κ×β)) (i:Nat):(YS kc vc L)[i]? =(L[i]?).map fun p=>(kc p.1,(vc p.2).map D.x):=by simp[YS]
theorem ZdH (f:Nat→Nat) (l:List X):Zx f (l.map D.x)=l.map D.x:=by
 rw[Jm,List.map_map];rfl
theorem Zd0 (p:Nat→Bool) (l:List X):YY p (l.map D.x)=true:=by
 rw[Qo,List.all_eq_true];intro d hd;obtain⟨x,_,rfl⟩:=List.mem_map.1 hd;rfl
theorem ZdR (l:List X):JD (l.map D.x)= []:=by
 induction l with
 |nil=>rfl
 |cons x l ih=>simp only[List.map_cons,JD,ZFC,ih];rfl
theorem Zej (ρ:List Nat) (os:List Ob) (l:List X):(l.map D.x).map (Kr ρ os)=l.map D.x:=by
 rw[List.map_map];refine List.map_congr_left fun x _=> ?_
 simp only[Function.comp,Kr,D.vw,D.on,D.inP,if_true]
theorem Ka (f:Nat→Nat) (L:List (κ×β)):(YS kc vc L).map (Yy f)=YS kc vc L:=by
 rw[YS,List.map_map];refine List.map_congr_left fun p _=> ?_
 simp only[Function.comp,Yy,ZdH]
theorem ZAE (L:List (κ×β)):ZBF (YS kc vc L)= []:=by
 induction L with
 |nil=>rfl
 |cons p L ih=>simp only[YS,List.map_cons,ZBF,ZdR]at ih⊢;exact ih
theorem KN (p:Nat→Bool) (L:List (κ×β)):(YS kc vc L).all (QD p)=true:=by
 rw[List.all_eq_true];intro q hq;obtain⟨r,_,rfl⟩:=List.mem_map.1 hq;exact Zd0 p _
theorem ZCQ (ρ:List Nat) (os:List Ob) (L:List (κ×β)):(YS kc vc L).map (Qt (Kr ρ os))=YS kc vc L:=by
 rw[YS,List.map_map];refine List.map_congr_left fun p _=> ?_
 simp only[Function.comp,Qt,Zej]
theorem ZGs (L:List (κ×β)) (i:Nat):(YS kc vc L).eraseIdx i=YS kc vc (L.eraseIdx i):=by
 induction L generalizing i with
 |nil=>rfl
 |cons p L ih=>cases i with
  |zero=>rfl
  |succ i=>simp only[YS,List.map_cons,List.eraseIdx_cons_succ]at ih⊢;rw[ih]
variable [DecidableEq κ] (hk: ∀a b:κ,ZBc (kc a) (kc b)=decide (a=b))
include hk
theorem ZER (L:List (κ×β)) (c:κ):JL (YS kc vc L) (kc c)=(ZR L c).map fun v=>(vc v).map D.x:=by
 induction L with
 |nil=>rfl
 |cons p L ih=>
  simp only[YS,List.map_cons,JL,hk]at ih⊢;by_cases h:c=p.1
  ·simp[ZR,h]
  ·simp only[h,decide_false,Bool.false_eq_true,if_false];rw[ih];simp[ZR,h]
theorem ZCg (L:List (κ×β)) (c:κ) (v:β):Yf (YS kc vc L) (kc c) ((vc v).map D.x)=YS kc vc (JN L c v):=by
 induction L with
 |nil=>rfl
 |cons p L ih=>
  simp only[YS,List.map_cons,Yf,hk,JN]at ih⊢;by_cases h:c=p.1
  ·simp[h]
  ·simp only[h,decide_false,Bool.false_eq_true,if_false];rw[ih];simp
end
def Ke {κ β:Type} (c:RC κ) (d:RC β):List Pr→Option (List (κ×β))
 | []=>some []
 |q::M=>(c.dec q.1).bind fun a=>(ZBh q.2).bind fun xs=>(d.dec xs).bind fun b=>(Ke c d M).map fun L=>(a,b)::L
theorem ZI0: ∀l:List X,ZBh (l.map D.x)=some l
 | []=>rfl
 |x::l=>by simp only[List.map_cons,ZBh,ZI0 l,Option.map_some]
theorem ZSN {κ β:Type} {c:RC κ} {d:RC β} (hc:c.Good) (hd:d.Good): ∀L:List (κ×β),Ke c d (YS c.enc d.enc L)=some L
 | []=>rfl
 |p::L=>by
  have ih:=ZSN hc hd L;simp only[YS,List.map_cons,Ke,hc.de,hd.de,ZI0,Option.bind_some]at ih⊢;rw[ih];rfl
theorem Yo {κ β:Type} {c:RC κ} {d:RC β} (hc:c.Good) (hd:d.Good): ∀ {M:List Pr} {L:List (κ×β)},Ke c d M=some L→M=YS c.enc d.enc L
 | [],L,h=>by cases h;rfl
 |q::M,L,h=>by
  simp only[Ke]at h;obtain⟨a,h1,h⟩:=Zr h;obtain⟨xs,h2,h⟩:=Zr h;obtain⟨b,h3,h⟩:=Zr h;obtain⟨L',h4,rfl⟩:=Zd h;have e:=Yo hc hd h4;obtain⟨q1,q2⟩:=q;simp only at h1 h2;rw[e,ZFD h2];rw[←hc.ed _ _ h1,←hd.ed _ _ h3];rfl
abbrev Kl (n:Int):List X:= [.int .i64 n]
abbrev Jo (s:List UInt8):List X:= [.str s]
theorem hkS (a b:List UInt8):ZBc (Jo a) (Jo b)=decide (a=b):=by
 simp only[Jo,ZBc,X.keq,Bool.and_true];rw[Bool.eq_iff_iff];simp
section
variable {κ β:Type} [DecidableEq κ]
theorem ZGF {A:List (κ×β)} {c:κ} {w:β} (h:ZR A c=none):JN A c w=A++ [(c,w)]:=by
 induction A with
 |nil=>rfl
 |cons p A ih=>
  by_cases e:c=p.1
  ·simp[ZR,e]at h
  ·have hl:ZR (p::A) c=ZR A c:=by simp[ZR,e]
   rw[hl]at h;simp[JN,e,ih h]
end
open Go Go.RowKit Go.Bo
theorem zC:type_of% @Option.map_some.{0,0}∧type_of% @Option.bind_some.{0,0}∧type_of% @Bool.and_true∧type_of% @Bool.true_and∧type_of% @Bool.false_eq_true:=
 ⟨@Option.map_some.{0,0},@Option.bind_some.{0,0},@Bool.and_true,@Bool.true_and,@Bool.false_eq_true⟩
theorem zG:type_of% @Bool.not_true∧type_of% @Bool.not_false∧type_of% @Bool.or_true∧type_of% @Bool.true_or∧type_of% @Bool.or_false∧type_of% @Bool.false_or∧type_of% @Bool.and_false∧type_of% @Bool.false_and∧type_of% @beq_self_eq_true.{0}∧type_of% @ZTb∧type_of% @Bool.and_self∧type_of% @Bool.not_or_self∧type_of% @Bool.or_not_self∧type_of% @beq_true∧type_of% @beq_false∧type_of% @Bool.not_not:=
 ⟨@Bool.not_true,@Bool.not_false,@Bool.or_true,@Bool.true_or,@Bool.or_false,@Bool.false_or,@Bool.and_false,@Bool.false_and,@beq_self_eq_true.{0},@ZTb,@Bool.and_self,@Bool.not_or_self,@Bool.or_not_self,@beq_true,@beq_false,@Bool.not_not⟩
theorem zL:type_of% @List.getElem?_cons_zero.{0}∧type_of% @List.getElem?_cons_succ.{0}∧type_of% @List.drop_zero.{0}∧type_of% @List.take_zero.{0}∧type_of% @List.drop_succ_cons.{0}∧type_of% @List.take_succ_cons.{0}∧type_of% @List.drop_nil.{0}∧type_of% @List.take_nil.{0}∧type_of% @KR.{0}∧type_of% @ξN.{0}∧type_of% @List.map_cons.{0,0}∧type_of% @List.map_nil.{0,0}∧type_of% @List.cons_append.{0}∧type_of% @List.nil_append.{0}∧type_of% @List.set_cons_zero.{0}∧type_of% @List.set_cons_succ.{0}∧type_of% @Nat.add_zero∧type_of% @Nat.zero_add∧type_of% @if_true.{1}∧type_of% @decide_true:=
 ⟨@List.getElem?_cons_zero.{0},@List.getElem?_cons_succ.{0},@List.drop_zero.{0},@List.take_zero.{0},@List.drop_succ_cons.{0},@List.take_succ_cons.{0},@List.drop_nil.{0},@List.take_nil.{0},@KR.{0},@ξN.{0},@List.map_cons.{0,0},@List.map_nil.{0,0},@List.cons_append.{0},@List.nil_append.{0},@List.set_cons_zero.{0},@List.set_cons_succ.{0},@Nat.add_zero,@Nat.zero_add,@if_true.{1},@decide_true⟩
theorem zR:type_of% @YR∧type_of% @ZNH∧type_of% @ZMP∧type_of% @ZLu∧type_of% @ZMw∧type_of% @ZMu∧type_of% @ZLX∧type_of% @ZOG∧type_of% @ZQK∧type_of% @ZNP∧type_of% @ZNE∧type_of% @Int.toNat_natCast∧type_of% @Int.natCast_nonneg:=
 ⟨@YR,@ZNH,@ZMP,@ZLu,@ZMw,@ZMu,@ZLX,@ZOG,@ZQK,@ZNP,@ZNE,@Int.toNat_natCast,@Int.natCast_nonneg⟩
theorem zB:type_of% @Bool.or_eq_true∧type_of% @ZW∧type_of% @Bool.not_eq_true'∧type_of% @Bool.or_eq_false_iff∧type_of% @Bool.and_eq_false_iff∧type_of% @Bool.not_eq_false'∧type_of% @Zj∧type_of% @decide_eq_false_iff_not∧type_of% @Bool.not_eq_true∧type_of% @gt_iff_lt.{0}∧type_of% @ge_iff_le.{0}∧type_of% @Int.not_lt∧type_of% @Int.not_le∧type_of% @bne_iff_ne.{0}∧type_of% @ne_eq.{1}∧type_of% @beq_iff_eq.{0}∧type_of% @bne_eq_false_iff_eq.{0}∧type_of% @beq_eq_false_iff_ne.{0}:=
 ⟨@Bool.or_eq_true,@ZW,@Bool.not_eq_true',@Bool.or_eq_false_iff,@Bool.and_eq_false_iff,@Bool.not_eq_false',@Zj,@decide_eq_false_iff_not,@Bool.not_eq_true,@gt_iff_lt.{0},@ge_iff_le.{0},@Int.not_lt,@Int.not_le,@bne_iff_ne.{0},@ne_eq.{1},@beq_iff_eq.{0},@bne_eq_false_iff_eq.{0},@beq_eq_false_iff_ne.{0}⟩
theorem zF:type_of% @zL∧type_of% @zR∧type_of% @Option.map_some.{0,0}∧type_of% @Option.bind_some.{0,0}∧type_of% @Bool.and_true∧type_of% @Bool.true_and∧type_of% @Qr∧type_of% @Qv∧type_of% @Qx∧type_of% @Zs.{0}∧type_of% @List.take_length.{0}:=
 ⟨@zL,@zR,@Option.map_some.{0,0},@Option.bind_some.{0,0},@Bool.and_true,@Bool.true_and,@Qr,@Qv,@Qx,@Zs.{0},@List.take_length.{0}⟩
theorem zV:type_of% @List.map_cons.{0,0}∧type_of% @List.map_nil.{0,0}∧type_of% @List.getElem?_cons_zero.{0}∧type_of% @List.getElem?_cons_succ.{0}∧type_of% @List.set_cons_zero.{0}∧type_of% @List.set_cons_succ.{0}∧type_of% @List.getD_cons_zero.{0}∧type_of% @List.getD_cons_succ.{0}∧type_of% @Nat.add_zero∧type_of% @Nat.zero_add∧type_of% @Bool.or_true∧type_of% @Bool.true_or∧type_of% @Bool.or_false∧type_of% @Bool.false_or∧type_of% @Bool.and_true∧type_of% @Bool.true_and∧type_of% @Bool.and_false∧type_of% @Bool.false_and∧type_of% @if_true.{1}∧type_of% @if_false.{1}∧type_of% @YR∧type_of% @Qr∧type_of% @Qv∧type_of% @Qx∧type_of% @Zs.{0}∧type_of% @KR.{0}∧type_of% @ξN.{0}∧type_of% @beq_self_eq_true.{0}∧type_of% @Bool.false_eq_true∧type_of% @List.drop_zero.{0}∧type_of% @Nat.beq_eq∧type_of% @ZJf∧type_of% @ZKE:=
 ⟨@List.map_cons.{0,0},@List.map_nil.{0,0},@List.getElem?_cons_zero.{0},@List.getElem?_cons_succ.{0},@List.set_cons_zero.{0},@List.set_cons_succ.{0},@List.getD_cons_zero.{0},@List.getD_cons_succ.{0},@Nat.add_zero,@Nat.zero_add,@Bool.or_true,@Bool.true_or,@Bool.or_false,@Bool.false_or,@Bool.and_true,@Bool.true_and,@Bool.and_false,@Bool.false_and,@if_true.{1},@if_false.{1},@YR,@Qr,@Qv,@Qx,@Zs.{0},@KR.{0},@ξN.{0},@beq_self_eq_true.{0},@Bool.false_eq_true,@List.drop_zero.{0},@Nat.beq_eq,@ZJf,@ZKE⟩
theorem zW:type_of% @List.getD_cons_zero.{0}∧type_of% @List.getD_cons_succ.{0}∧type_of% @ZJf∧type_of% @ZKE∧type_of% @Nat.sub_self∧type_of% @List.append_nil.{0}∧type_of% @Nat.le_refl:=
 ⟨@List.getD_cons_zero.{0},@List.getD_cons_succ.{0},@ZJf,@ZKE,@Nat.sub_self,@List.append_nil.{0},@Nat.le_refl⟩
theorem zM:type_of% @zL∧type_of% @zG∧type_of% @zR∧type_of% @zC∧type_of% @decide_false∧type_of% @IntWalk.i64_in∧type_of% @ZEo∧type_of% @ZGj∧type_of% @Qr∧type_of% @Qv∧type_of% @Qx∧type_of% @ZGn∧type_of% @ZGv∧type_of% @ZEa∧type_of% @ZDV∧type_of% @ZCu∧type_of% @Jn∧type_of% @YX∧type_of% @List.length_replicate.{0}∧type_of% @Option.map_none.{0,0}∧type_of% @Option.bind_none.{0,0}∧type_of% @Bool.cond_true_left∧type_of% @Bool.cond_false_right∧type_of% @List.reverse_cons.{0}∧type_of% @List.reverse_nil.{0}∧type_of% @List.mapM_cons.{0,0,0}∧type_of% @List.mapM_nil.{0,0,0}∧type_of% @Option.pure_def.{0}∧type_of% @Option.bind_eq_bind.{0}∧type_of% @true_and∧type_of% @and_true∧type_of% @if_false.{1}∧type_of% @bne_self_eq_false.{0}∧type_of% @List.all_cons.{0}∧type_of% @List.all_nil.{0}:=
 ⟨@zL,@zG,@zR,@zC,@decide_false,@IntWalk.i64_in,@ZEo,@ZGj,@Qr,@Qv,@Qx,@ZGn,@ZGv,@ZEa,@ZDV,@ZCu,@Jn,@YX,@List.length_replicate.{0},@Option.map_none.{0,0},@Option.bind_none.{0,0},@Bool.cond_true_left,@Bool.cond_false_right,@List.reverse_cons.{0},@List.reverse_nil.{0},@List.mapM_cons.{0,0,0},@List.mapM_nil.{0,0,0},@Option.pure_def.{0},@Option.bind_eq_bind.{0},@true_and,@and_true,@if_false.{1},@bne_self_eq_false.{0},@List.all_cons.{0},@List.all_nil.{0}⟩
theorem zS:type_of% @zL∧type_of% @zG∧type_of% @zR∧type_of% @zC∧type_of% @Ob.beq_refl∧type_of% @List.reverse_cons.{0}∧type_of% @List.reverse_nil.{0}∧type_of% @Jn∧type_of% @YX∧type_of% @ZTu∧type_of% @ZGn∧type_of% @ZGv∧type_of% @ZEa∧type_of% @ZDV∧type_of% @ZCu∧type_of% @List.length_replicate.{0}∧type_of% @Qr∧type_of% @Qv∧type_of% @Qx∧type_of% @ZQl∧type_of% @ZQo∧type_of% @ZOW∧type_of% @ZMD∧type_of% @ZKj∧type_of% @Option.getD_none.{0}∧type_of% @Option.getD_some.{0}∧type_of% @ZEo∧type_of% @ZGj∧type_of% @Option.bind_none.{0,0}∧type_of% @Option.map_none.{0,0}∧type_of% @YI.some_iff∧type_of% @true_and∧type_of% @and_true∧type_of% @if_false.{1}∧type_of% @List.all_cons.{0}∧type_of% @List.all_nil.{0}∧type_of% @List.mapM_cons.{0,0,0}∧type_of% @List.mapM_nil.{0,0,0}∧type_of% @Option.pure_def.{0}∧type_of% @Option.bind_eq_bind.{0}∧type_of% @decide_false∧type_of% @Bool.cond_true_left∧type_of% @Bool.cond_false_right∧type_of% @Bool.not_eq_true'∧type_of% @ZOP∧type_of% @ZMn∧type_of% @ZOJ∧type_of% @bne_self_eq_false.{0}∧type_of% @Bool.bne_false∧type_of% @Bool.bne_true:=
 ⟨@zL,@zG,@zR,@zC,@Ob.beq_refl,@List.reverse_cons.{0},@List.reverse_nil.{0},@Jn,@YX,@ZTu,@ZGn,@ZGv,@ZEa,@ZDV,@ZCu,@List.length_replicate.{0},@Qr,@Qv,@Qx,@ZQl,@ZQo,@ZOW,@ZMD,@ZKj,@Option.getD_none.{0},@Option.getD_some.{0},@ZEo,@ZGj,@Option.bind_none.{0,0},@Option.map_none.{0,0},@YI.some_iff,@true_and,@and_true,@if_false.{1},@List.all_cons.{0},@List.all_nil.{0},@List.mapM_cons.{0,0,0},@List.mapM_nil.{0,0,0},@Option.pure_def.{0},@Option.bind_eq_bind.{0},@decide_false,@Bool.cond_true_left,@Bool.cond_false_right,@Bool.not_eq_true',@ZOP,@ZMn,@ZOJ,@bne_self_eq_false.{0},@Bool.bne_false,@Bool.bne_true⟩
theorem zO:type_of% @ZQU∧type_of% @ZQh∧type_of% @ZQu∧type_of% @ZRG∧type_of% @ZRS∧type_of% @ZQF∧type_of% @ZQR∧type_of% @ZOy∧type_of% @ZOE∧type_of% @ZOT∧type_of% @ZRB∧type_of% @ZdU∧type_of% @ZWF∧type_of% @ZWs∧type_of% @ZWT∧type_of% @ZQC∧type_of% @ZcR∧type_of% @Zc7∧type_of% @Zcw∧type_of% @ZNv∧type_of% @Ka∧type_of% @ZAE∧type_of% @KN∧type_of% @ZCQ∧type_of% @ZGX∧type_of% @ZGs:=
 ⟨@ZQU,@ZQh,@ZQu,@ZRG,@ZRS,@ZQF,@ZQR,@ZOy,@ZOE,@ZOT,@ZRB,@ZdU,@ZWF,@ZWs,@ZWT,@ZQC,@ZcR,@Zc7,@Zcw,@ZNv,@Ka,@ZAE,@KN,@ZCQ,@ZGX,@ZGs⟩
section
variable {P:Program} {c:Ctx} {E0:Env} {os0 os:List Ob} {n:Nat} {Q:Exit→List (Nat×D)→List Ob→Prop} {φ:List (Nat×D)}
theorem WI.regB {S:Tabs} (hS:SsOk P S) (ks:List Nat) {l:List IOp} (h:YI (YB S true φ os l) (fun φ' os'=>Q .normal (Go.Ab.keep ks φ') os')):WI P c E0 os0 n (.reg l) Q φ os:=
 WI.regA hS ks (fun K hK=>by
  obtain⟨ok,φ',os',h1,h2,h3⟩:=h;exact⟨ok,φ',os',h1,h2,hK _ _ h3⟩)
theorem WI.dregB {S:Tabs} (hS:SsOk P S) (ks:List Nat) {k:Nat} {rs:List Nat} {l:List IOp} (h:YI (YL S os k rs 0 true φ os.length os [] none l) (fun φ' os'=>Q .normal (Go.Ab.keep ks φ') os')):WI P c E0 os0 n (.dreg k rs l) Q φ os:=
 WI.dregA hS ks (fun K hK=>by
  obtain⟨ok,φ',os',h1,h2,h3⟩:=h;exact⟨ok,φ',os',h1,h2,hK _ _ h3⟩)
theorem WI.post {ic:IC} (h:WI P c E0 os0 n ic (fun x φ os=> ∃φ2 os2,Wk c E0 os0 n φ os φ2 os2∧Q x φ2 os2) φ os):WI P c E0 os0 n ic Q φ os:=by
 intro code hc E a R hf;refine wp_mono (h code hc E a R hf) ?_;rintro x a' w' ⟨E',φ',os',rfl,R',hf',φ2,os2,hw,hq⟩;obtain⟨E2,e2,R2,f2⟩:=hw E' a' R' hf';exact⟨E2,φ2,os2,e2,R2,f2,hq⟩
theorem Wk.refl:Wk c E0 os0 n φ os φ os:=fun E a R hf=>⟨E,rfl,R,hf⟩
theorem Wk.trans {φ1 φ2:List (Nat×D)} {os1 os2:List Ob} (h:Wk c E0 os0 n φ os φ1 os1) (h':Wk c E0 os0 n φ1 os1 φ2 os2):Wk c E0 os0 n φ os φ2 os2:=fun E a R hf=>by
 obtain⟨E1,e1,R1,f1⟩:=h E a R hf;obtain⟨E2,e2,R2,f2⟩:=h' E1 a R1 f1;exact⟨E2,e2.trans e1,R2,f2⟩
theorem oP {S:Tabs} {ks:List Nat} {φ':List (Nat×D)} (h: ∃φ2 os2,Wk c E0 os0 n φ' os φ2 os2∧Q .normal φ2 os2) (hk:keep ks φ=φ':=by simp only[keep,KT,Nat.reduceEqDiff,if_true,if_false,↓reduceIte,Bool.false_eq_true];rfl):YI (YB S true φ os []) (fun φ' os'=> ∃φ2 os2,Wk c E0 os0 n (keep ks φ') os' φ2 os2∧Q .normal φ2 os2):=osN (by rw[hk];exact h)
theorem dP {S:Tabs} {ks rs:List Nat} {k i id:Nat} {C os1 os':List Ob} {last:Option (List Ob)} {φ':List (Nat×D)} (h: ∃φ2 os2,Wk c E0 os0 n φ' os' φ2 os2∧Q .normal φ2 os2) (hk:keep ks φ=φ':=by simp only[keep,KT,Nat.reduceEqDiff,if_true,if_false,↓reduceIte,Bool.false_eq_true];rfl) (hl:last.getD (os1++C)=os':=by simp only[Option.getD_none,Option.getD_some,List.append_nil,List.cons_append,List.nil_append];rfl):YI (YL S os1 k rs i true φ id os C last []) (fun φ' os'=> ∃φ2 os2,Wk c E0 os0 n (keep ks φ') os' φ2 os2∧Q .normal φ2 os2):=dsN (by rw[hk,hl];exact h)
theorem Je (h:Q .normal φ os): ∃φ2 os2,Wk c E0 os0 n φ os φ2 os2∧Q .normal φ2 os2:=⟨φ,os,Wk.refl,h⟩
theorem JA (ρ:List Nat) {φ':List (Nat×D)} {os':List Ob} (h: ∃φ2 os2,Wk c E0 os0 n φ' os' φ2 os2∧Q .normal φ2 os2) (hok:ZK9 ρ os0.length os.length=true:=by rfl) (hp:QK ρ os φ=φ':=by simp (disch:=decide) only[zV,zO,Ob.mpb,frzL,QK,ZAW,Kr,Ob.onI,Qt,Yy,Option.map_some,Option.map_none,D.vw,vwL,D.on,D.inP,YY,Zo,D.ren,Zx,Yb,YO,Ob.mp,Ob.ren,D.nn,ZBE,Nat.reduceBEq,Nat.reduceEqDiff,Nat.reduceAdd,↓reduceIte];rfl) (ho:ZAW ρ os=os':=by simp (disch:=decide) only[zV,zO,Ob.mpb,frzL,QK,ZAW,Kr,Ob.onI,Qt,Yy,Option.map_some,Option.map_none,D.vw,vwL,D.on,D.inP,YY,Zo,D.ren,Zx,Yb,YO,Ob.mp,Ob.ren,D.nn,ZBE,Nat.reduceBEq,Nat.reduceEqDiff,Nat.reduceAdd,↓reduceIte];rfl): ∃φ2 os2,Wk c E0 os0 n φ os φ2 os2∧Q .normal φ2 os2:=by
 obtain⟨φ2,os2,h1,h2⟩:=h;subst hp ho;exact⟨φ2,os2,(Wk.pick ρ hok).trans h1,h2⟩
theorem ZRC (l:List Nat) {os':List Ob} (h: ∃φ2 os2,Wk c E0 os0 n φ os' φ2 os2∧Q .normal φ2 os2) (ho:frzL l os=os':=by simp only[frzL,List.getElem?_cons_zero,List.getElem?_cons_succ,List.set_cons_zero,List.set_cons_succ];rfl): ∃φ2 os2,Wk c E0 os0 n φ os φ2 os2∧Q .normal φ2 os2:=by
 obtain⟨φ2,os2,h1,h2⟩:=h;subst ho;exact⟨φ2,os2,(Wk.freeze l).trans h1,h2⟩
theorem WI.nnA {ic:IC} {φ':List (Nat×D)} {os':List Ob} (h:WI P c E0 os0 n ic Q φ' os') (hp:ZBE φ=φ':=by simp only[zV,zO,Ob.mpb,frzL,QK,ZAW,Kr,Ob.onI,Qt,Yy,Option.map_some,Option.map_none,D.vw,vwL,D.on,D.inP,YY,Zo,D.ren,Zx,Yb,YO,Ob.mp,Ob.ren,D.nn,ZBE,Nat.reduceBEq,Nat.reduceEqDiff,Nat.reduceAdd,↓reduceIte];rfl) (ho:os.map (Ob.mpb D.nn)=os':=by simp only[zV,zO,Ob.mpb,frzL,QK,ZAW,Kr,Ob.onI,Qt,Yy,Option.map_some,Option.map_none,D.vw,vwL,D.on,D.inP,YY,Zo,D.ren,Zx,Yb,YO,Ob.mp,Ob.ren,D.nn,ZBE,Nat.reduceBEq,Nat.reduceEqDiff,Nat.reduceAdd,↓reduceIte];rfl):WI P c E0 os0 n ic Q φ os:=WI.nn (by rw[hp,ho];exact h)
theorem WI.pickA (ρ:List Nat) {ic:IC} {φ':List (Nat×D)} {os':List Ob} (h:WI P c E0 os0 n ic Q φ' os') (hok:ZK9 ρ os0.length os.length=true:=by rfl) (hp:QK ρ os φ=φ':=by simp (disch:=decide) only[zV,zO,Ob.mpb,frzL,QK,ZAW,Kr,Ob.onI,Qt,Yy,Option.map_some,Option.map_none,D.vw,vwL,D.on,D.inP,YY,Zo,D.ren,Zx,Yb,YO,Ob.mp,Ob.ren,D.nn,ZBE,Nat.reduceBEq,Nat.reduceEqDiff,Nat.reduceAdd,↓reduceIte];rfl) (ho:ZAW ρ os=os':=by simp (disch:=decide) only[zV,zO,Ob.mpb,frzL,QK,ZAW,Kr,Ob.onI,Qt,Yy,Option.map_some,Option.map_none,D.vw,vwL,D.on,D.inP,YY,Zo,D.ren,Zx,Yb,YO,Ob.mp,Ob.ren,D.nn,ZBE,Nat.reduceBEq,Nat.reduceEqDiff,Nat.reduceAdd,↓reduceIte];rfl):WI P c E0 os0 n ic Q φ os:=WI.pick ρ hok (by rw[hp,ho];exact h)
theorem WI.freezeA (l:List Nat) {ic:IC} {os':List Ob} (h:WI P c E0 os0 n ic Q φ os') (ho:frzL l os=os':=by simp only[frzL,List.getElem?_cons_zero,List.getElem?_cons_succ,List.set_cons_zero,List.set_cons_succ];rfl):WI P c E0 os0 n ic Q φ os:=WI.freeze l (by rw[ho];exact h)
theorem WI.ownA (t e sz:Nat) {ic:IC} {φ':List (Nat×D)} {os':List Ob} (h:WI P c E0 os0 n ic Q φ' os') (ht:get φ t= .x .nils:=by rfl) (hp:put φ t (.ref os.length 0 0 0)=φ':=by simp only[put,Nat.reduceEqDiff,↓reduceIte,ξN,KR,Nat.reduceAdd];rfl) (ho:os++ [.rows false e sz []]=os':=by simp only[List.nil_append,List.cons_append];rfl):WI P c E0 os0 n ic Q φ os:=WI.own t e sz ht (by rw[hp,ho];exact h)
theorem WI.nextSA {t t2 it m:Nat} {x:IO} {s:List UInt8} {pos:Nat} (ks:List Nat) {φ1 φ2:List (Nat×D)} {os2:List Ob} (hend: ¬pos<s.length→Q .normal φ1 os) (hgo:pos<s.length→Q .normal φ2 os2) (hx:(ZE φ x).val= .iref m it:=by rfl) (hcd:(ZE φ x).cond=true:=by rfl) (ho:os[it]? =some (.sit s pos):=by rfl)
  (h1:Go.Ab.keep ks (Go.Ab.put (Go.Ab.put φ t (.tup [.x (.bool false)])) t2 (.x (.bool false)))=φ1:=by simp only[put,keep,KT,Nat.reduceEqDiff,if_true,if_false,↓reduceIte,Bool.false_eq_true];rfl) (h2:Go.Ab.keep ks (Go.Ab.put (Go.Ab.put φ t (.tup [.x (.bool true),.x (.int .i64 pos),.x (.int .i32 (KA s pos).1)])) t2 (.x (.bool true)))=φ2:=by simp only[put,keep,KT,Nat.reduceEqDiff,if_true,if_false,↓reduceIte,Bool.false_eq_true];rfl)
  (h3:os.set it (.sit s (pos+(KA s pos).2))=os2:=by simp only[List.set_cons_zero,List.set_cons_succ];rfl):WI P c E0 os0 n (.reg [⟨some t,.nxt true x,none⟩,⟨some t2,.ext (.t t) 0,none⟩]) Q φ os:=WI.nextS ks hx hcd ho (by rw[h1];exact hend) (by rw[h2,h3];exact hgo)
theorem WI.nextMA {t t2 it mid:Nat} {x:IO} {dk:KK} {ag:Bool} {l R0:List Pr} {cur:Option Pr} (ks:List Nat) {φ1 φ2:List (Nat×D)} {os2:Nat→Pr→List Ob} (hend:R0= []→Q .normal φ1 os) (hgo: ∀(i:Nat) (q:Pr),R0[i]? =some q→Q .normal φ2 (os2 i q)) (hx:(ZE φ x).val= .iref mid it:=by rfl) (hcd:(ZE φ x).cond=true:=by rfl) (ho:os[mid]? =some (.mit dk ag l it R0 cur):=by rfl)
  (h1:Go.Ab.keep ks (Go.Ab.put (Go.Ab.put φ t (.tup [.x (.bool false)])) t2 (.x (.bool false)))=φ1:=by simp only[put,keep,KT,Nat.reduceEqDiff,if_true,if_false,↓reduceIte,Bool.false_eq_true];rfl) (h2:Go.Ab.keep ks (Go.Ab.put (Go.Ab.put φ t .und) t2 (.x (.bool true)))=φ2:=by simp only[put,keep,KT,Nat.reduceEqDiff,if_true,if_false,↓reduceIte,Bool.false_eq_true];rfl)
  (h3: ∀i q,os.set mid (.mit dk ag l it (R0.eraseIdx i) (some q))=os2 i q:=by intro i q;simp only[List.set_cons_zero,List.set_cons_succ];rfl):WI P c E0 os0 n (.reg [⟨some t,.nxt false x,none⟩,⟨some t2,.ext (.t t) 0,none⟩]) Q φ os:=WI.nextM ks hx hcd ho (by rw[h1];exact hend) (by rw[h2];intro i q h;rw[h3];exact hgo i q h)
theorem WI.orderA (ts:List Nat) {ic:IC} {φ':List (Nat×D)} (h:WI P c E0 os0 n ic Q φ' os) (hp:ts.map (fun u=>(u,get φ u))=φ':=by simp only[List.map_cons,List.map_nil,Ab.get,Nat.reduceEqDiff,↓reduceIte,if_true,if_false];rfl):WI P c E0 os0 n ic Q φ os:=WI.order ts (by rw[hp];exact h)
end
section
variable {S:Tabs} {os0 os C:List Ob} {k i id:Nat} {rs:List Nat} {φ φ':List (Nat×D)} {os':List Ob} {last:Option (List Ob)} {o:IOp} {l:List IOp} {ok:Bool} {d:D} {ob:Ob} {K:List (Nat×D)→List Ob→Prop} {Q:Exit→List (Nat×D)→List Ob→Prop} {ks:List Nat}
theorem oN (h:Q .normal φ' os) (hk:keep ks φ=φ':=by simp only[keep,KT,Nat.reduceEqDiff,if_true,if_false,↓reduceIte,Bool.false_eq_true];rfl):YI (YB S true φ os []) (fun φ' os'=>Q .normal (keep ks φ') os'):=osN (by rw[hk];exact h)
theorem dN (h:Q .normal φ' os') (hk:keep ks φ=φ':=by simp only[keep,KT,Nat.reduceEqDiff,if_true,if_false,↓reduceIte,Bool.false_eq_true];rfl) (hl:last.getD (os0++C)=os':=by simp only[Option.getD_none,Option.getD_some,List.append_nil,List.cons_append,List.nil_append];rfl):YI (YL S os0 k rs i true φ id os C last []) (fun φ' os'=>Q .normal (keep ks φ') os'):=dsN (by rw[hk,hl];exact h)
theorem oS (h:YI (YB S true φ' os' l) K) (he:Yu S φ os o=some (ok,φ',os'):=by simp only[zC,Yu,ZS,ZE,Ab.get,Ab.put,putO,Nat.reduceEqDiff,↓reduceIte,D.val,D.cond,reduceCtorEq,Nat.reduceAdd,Nat.add_zero,Nat.zero_add];rfl) (hok:ok=true:=by rfl):YI (YB S true φ os (o::l)) K:=osS he hok h
theorem oG (h:YI (YB S true φ' os' l) K) (he:Yu S φ os o=some (ok,φ',os'):=by simp (disch:=omega) only[uu,zM,Yu,ZS,ZE,Ab.get,Ab.put,putO,Nat.reduceEqDiff,↓reduceIte,D.val,D.cond,reduceCtorEq,Zy,ZAC,Ob.isDrw,JK,Qc,Kg,ZBC,apm,Ku,IE.isCall,D.cells?,Nat.reduceAdd,Nat.reduceLeDiff,Ob.slice?,Ob.dsl?,Ob.drw?,Nat.reduceSub,Nat.reduceMul,Int.reduceToNat,Int.reduceLE,Int.reduceLT,Int.reduceAdd,Int.reduceSub,Int.reduceMul,Int.reduceNeg,Int.reduceEq,Zq,ZB1,Jw,ZF,JH,Ya,Yj,JJ,KO,Kx,Qe,Jq,eqR,eqD,ZAS,eqX,nzD,ZAm,unD,ZAs,QM,evC,Kv,Ki,Nat.reduceLT,zO];rfl) (hok:ok=true:=by first|with_reducible rfl|omega|(simp;done)|(simp;omega)|rfl|(clear uu;grind)|(clear h;clear uu;grind)):YI (YB S true φ os (o::l)) K:=osS he hok h
theorem oC (h:YI (YB S true φ' os' l) K) (he:Yu S φ os o=some (ok,φ',os'):=by simp (disch:=omega) only[uu,zS,zW,zO,ZGA,ZEL,D.nn,D.na,ZY,JR,IE.isCall,Nat.reduceAdd,Nat.reduceSub,Nat.reduceMul,Nat.reduceLeDiff,Nat.reduceLT,Nat.reduceBEq,Int.reduceToNat,Int.reduceLE,Int.reduceLT,Int.reduceAdd,Int.reduceSub,Int.reduceMul,Int.reduceNeg,Int.reduceEq,Nat.reduceEqDiff,YB,YL,Yu,ZS,Zy,ZAC,Ob.isDrw,JK,Qc,Kg,ZBC,apm,ZE,Ab.get,Ab.put,putO,keep,KT,D.val,D.cond,D.cells?,D.scalar,X.scalar,D.plain,D.isX,ZAm,ZAz,eqD,ZAS,eqX,unD,ZF,ZAs,Jw,Zq,Kj,Yv,Yj,Ya,JH,JJ,KO,Kx,Ob.slice?,↓reduceIte,reduceCtorEq,Ym,QM,evC,Kv,Ki,KX,Jk,Js,eqR,nzD,Ku,ZB7,ZCD,ZBz,ZA7,Qf,Qe,ZV,IE.frame,Zo,Jq,IntWalk.i64_in,YU,JI,ZFC,JD,ZGe,ZBF,QD,Yy,QF,Ks,YY,D.inP,Ob.inP,Zx,D.ren,Yb,YO,Ob.ren,Jz,KZ,Jy,ZCJ,KV];rfl) (hok:ok=true:=by first|with_reducible rfl|omega|(simp;done)|(simp;omega)|rfl|(clear uu;grind)|(clear h;clear uu;grind)):YI (YB S true φ os (o::l)) K:=osS he hok h
theorem Zn (h:YI (YL S os0 k rs (i+1) true φ' id os C last l) K) (hf:o.e.frame=true:=by rfl) (he:(Ym S φ [] o).map (fun r=>(r.1,putO φ o.dst r.2))=some (ok,φ'):=by simp only[zC,Ym,KX,Jk,Js,Ob.beq_refl,Yu,ZS,ZE,Ab.get,Ab.put,putO,Nat.reduceEqDiff,↓reduceIte,D.val,D.cond,reduceCtorEq,Nat.reduceAdd,Nat.add_zero,Nat.zero_add];rfl) (hok:ok=true:=by rfl):YI (YL S os0 k rs i true φ id os C last (o::l)) K:=dsF hf he hok h
theorem Ye (h:YI (YL S os0 k rs (i+1) true φ' id os C last l) K) (hf:o.e.frame=true:=by rfl) (he:(Ym S φ [] o).map (fun r=>(r.1,putO φ o.dst r.2))=some (ok,φ'):=by simp (disch:=omega) only[uu,zM,Ym,KX,Jk,Js,Ob.beq_refl,Yu,ZS,ZE,Ab.get,Ab.put,putO,Nat.reduceEqDiff,↓reduceIte,D.val,D.cond,reduceCtorEq,Zy,ZAC,Ob.isDrw,JK,Qc,Kg,ZBC,apm,Ku,IE.isCall,D.cells?,Nat.reduceAdd,Nat.reduceLeDiff,Ob.slice?,Ob.dsl?,Ob.drw?,Nat.reduceSub,Nat.reduceMul,Int.reduceToNat,Int.reduceLE,Int.reduceLT,Int.reduceAdd,Int.reduceSub,Int.reduceMul,Int.reduceNeg,Int.reduceEq,Zq,ZB1,Jw,ZF,JH,Ya,Yj,JJ,KO,Kx,Qe,Jq,eqR,eqD,ZAS,eqX,nzD,ZAm,unD,ZAs,QM,evC,Kv,Ki,Nat.reduceLT,zO];rfl) (hok:ok=true:=by first|with_reducible rfl|omega|(simp;done)|(simp;omega)|rfl|(clear uu;grind)|(clear h;clear uu;grind)):YI (YL S os0 k rs i true φ id os C last (o::l)) K:=dsF hf he hok h
theorem YG (h:YI (YL S os0 k rs (i+1) true φ' id os C last l) K) (hf:o.e.frame=false:=by rfl) (hm:Zo i rs=false:=by rfl) (hk:Nat.ble (i+1) k=true:=by rfl) (he:(Ym S φ os0 o).map (fun r=>(r.1,putO φ o.dst r.2))=some (ok,φ'):=by simp (disch:=omega) only[uu,zM,Ym,KX,Jk,Js,Ob.beq_refl,Yu,ZS,ZE,Ab.get,Ab.put,putO,Nat.reduceEqDiff,↓reduceIte,D.val,D.cond,reduceCtorEq,Zy,ZAC,Ob.isDrw,JK,Qc,Kg,ZBC,apm,Ku,IE.isCall,D.cells?,Nat.reduceAdd,Nat.reduceLeDiff,Ob.slice?,Ob.dsl?,Ob.drw?,Nat.reduceSub,Nat.reduceMul,Int.reduceToNat,Int.reduceLE,Int.reduceLT,Int.reduceAdd,Int.reduceSub,Int.reduceMul,Int.reduceNeg,Int.reduceEq,Zq,ZB1,Jw,ZF,JH,Ya,Yj,JJ,KO,Kx,Qe,Jq,eqR,eqD,ZAS,eqX,nzD,ZAm,unD,ZAs,QM,evC,Kv,Ki,Nat.reduceLT,zO];rfl) (hok:ok=true:=by first|with_reducible rfl|omega|(simp;done)|(simp;omega)|rfl|(clear uu;grind)|(clear h;clear uu;grind)):YI (YL S os0 k rs i true φ id os C last (o::l)) K:=dsQ hf hm hk he hok h
theorem dKG (h:YI (YL S os0 k rs (i+1) true φ' (id+1) (os++ [ob]) (C++ [ob]) last l) K) (hf:o.e.frame=false:=by rfl) (hm:Zo i rs=false:=by rfl) (hk:Nat.ble (i+1) k=true:=by rfl) (hn:Ym S φ os0 o=none:=by simp (disch:=omega) only[uu,zS,zW,zO,ZGA,ZEL,D.nn,D.na,ZY,JR,IE.isCall,Nat.reduceAdd,Nat.reduceSub,Nat.reduceMul,Nat.reduceLeDiff,Nat.reduceLT,Nat.reduceBEq,Int.reduceToNat,Int.reduceLE,Int.reduceLT,Int.reduceAdd,Int.reduceSub,Int.reduceMul,Int.reduceNeg,Int.reduceEq,Nat.reduceEqDiff,YB,YL,Yu,ZS,Zy,ZAC,Ob.isDrw,JK,Qc,Kg,ZBC,apm,ZE,Ab.get,Ab.put,putO,keep,KT,D.val,D.cond,D.cells?,D.scalar,X.scalar,D.plain,D.isX,ZAm,ZAz,eqD,ZAS,eqX,unD,ZF,ZAs,Jw,Zq,Kj,Yv,Yj,Ya,JH,JJ,KO,Kx,Ob.slice?,↓reduceIte,reduceCtorEq,Ym,QM,evC,Kv,Ki,KX,Jk,Js,eqR,nzD,Ku,ZB7,ZCD,ZBz,ZA7,Qf,Qe,ZV,IE.frame,Zo,Jq,IntWalk.i64_in,YU,JI,ZFC,JD,ZGe,ZBF,QD,Yy,QF,Ks,YY,D.inP,Ob.inP,Zx,D.ren,Yb,YO,Ob.ren,Jz,KZ,Jy,ZCJ,KV]) (he:(QM S φ os0 id o).map (fun r=>(r.1,putO φ o.dst r.2.1,r.2.2))=some (ok,φ',ob):=by simp (disch:=omega) only[uu,zS,zW,zO,ZGA,ZEL,D.nn,D.na,ZY,JR,IE.isCall,Nat.reduceAdd,Nat.reduceSub,Nat.reduceMul,Nat.reduceLeDiff,Nat.reduceLT,Nat.reduceBEq,Int.reduceToNat,Int.reduceLE,Int.reduceLT,Int.reduceAdd,Int.reduceSub,Int.reduceMul,Int.reduceNeg,Int.reduceEq,Nat.reduceEqDiff,YB,YL,Yu,ZS,Zy,ZAC,Ob.isDrw,JK,Qc,Kg,ZBC,apm,ZE,Ab.get,Ab.put,putO,keep,KT,D.val,D.cond,D.cells?,D.scalar,X.scalar,D.plain,D.isX,ZAm,ZAz,eqD,ZAS,eqX,unD,ZF,ZAs,Jw,Zq,Kj,Yv,Yj,Ya,JH,JJ,KO,Kx,Ob.slice?,↓reduceIte,reduceCtorEq,Ym,QM,evC,Kv,Ki,KX,Jk,Js,eqR,nzD,Ku,ZB7,ZCD,ZBz,ZA7,Qf,Qe,ZV,IE.frame,Zo,Jq,IntWalk.i64_in,YU,JI,ZFC,JD,ZGe,ZBF,QD,Yy,QF,Ks,YY,D.inP,Ob.inP,Zx,D.ren,Yb,YO,Ob.ren,Jz,KZ,Jy,ZCJ,KV];rfl) (hok:ok=true:=by first|with_reducible rfl|omega|(simp;done)|(simp;omega)|rfl|(clear uu;grind)|(clear h;clear uu;grind)):YI (YL S os0 k rs i true φ id os C last (o::l)) K:=dsK hf hm hk hn he hok h
theorem dAG (h:YI (YL S os0 k rs (i+1) true φ' id os' C (some os') l) K) (hf:o.e.frame=false:=by rfl) (hm:Zo i rs=false:=by rfl) (hk:Nat.ble (i+1) k=false:=by rfl) (he:(KX S φ os o).map (fun r=>(r.1&&(match rs with| []=>true|_=>Js os0 r.2.2),putO φ o.dst r.2.1,r.2.2))=some (ok,φ',os'):=by simp (disch:=omega) only[uu,zM,Ym,KX,Jk,Js,Ob.beq_refl,Yu,ZS,ZE,Ab.get,Ab.put,putO,Nat.reduceEqDiff,↓reduceIte,D.val,D.cond,reduceCtorEq,Zy,ZAC,Ob.isDrw,JK,Qc,Kg,ZBC,apm,Ku,IE.isCall,D.cells?,Nat.reduceAdd,Nat.reduceLeDiff,Ob.slice?,Ob.dsl?,Ob.drw?,Nat.reduceSub,Nat.reduceMul,Int.reduceToNat,Int.reduceLE,Int.reduceLT,Int.reduceAdd,Int.reduceSub,Int.reduceMul,Int.reduceNeg,Int.reduceEq,Zq,ZB1,Jw,ZF,JH,Ya,Yj,JJ,KO,Kx,Qe,Jq,eqR,eqD,ZAS,eqX,nzD,ZAm,unD,ZAs,QM,evC,Kv,Ki,Nat.reduceLT,zO];rfl) (hok:ok=true:=by first|with_reducible rfl|omega|(simp;done)|(simp;omega)|rfl|(clear uu;grind)|(clear h;clear uu;grind)):YI (YL S os0 k rs i true φ id os C last (o::l)) K:=dsA hf hm hk he hok h
theorem Qi (h:YI (YL S os0 k rs (i+1) true φ' id os C last l) K) (hf:o.e.frame=false:=by rfl) (hm:Zo i rs=false:=by rfl) (hk:Nat.ble (i+1) k=true:=by rfl) (he:(Ym S φ os0 o).map (fun r=>(r.1,putO φ o.dst r.2))=some (ok,φ'):=by simp (disch:=omega) only[uu,zS,zW,zO,ZGA,ZEL,D.nn,D.na,ZY,JR,IE.isCall,Nat.reduceAdd,Nat.reduceSub,Nat.reduceMul,Nat.reduceLeDiff,Nat.reduceLT,Nat.reduceBEq,Int.reduceToNat,Int.reduceLE,Int.reduceLT,Int.reduceAdd,Int.reduceSub,Int.reduceMul,Int.reduceNeg,Int.reduceEq,Nat.reduceEqDiff,YB,YL,Yu,ZS,Zy,ZAC,Ob.isDrw,JK,Qc,Kg,ZBC,apm,ZE,Ab.get,Ab.put,putO,keep,KT,D.val,D.cond,D.cells?,D.scalar,X.scalar,D.plain,D.isX,ZAm,ZAz,eqD,ZAS,eqX,unD,ZF,ZAs,Jw,Zq,Kj,Yv,Yj,Ya,JH,JJ,KO,Kx,Ob.slice?,↓reduceIte,reduceCtorEq,Ym,QM,evC,Kv,Ki,KX,Jk,Js,eqR,nzD,Ku,ZB7,ZCD,ZBz,ZA7,Qf,Qe,ZV,IE.frame,Zo,Jq,IntWalk.i64_in,YU,JI,ZFC,JD,ZGe,ZBF,QD,Yy,QF,Ks,YY,D.inP,Ob.inP,Zx,D.ren,Yb,YO,Ob.ren,Jz,KZ,Jy,ZCJ,KV];rfl) (hok:ok=true:=by first|with_reducible rfl|omega|(simp;done)|(simp;omega)|rfl|(clear uu;grind)|(clear h;clear uu;grind)):YI (YL S os0 k rs i true φ id os C last (o::l)) K:=dsQ hf hm hk he hok h
theorem dAC (h:YI (YL S os0 k rs (i+1) true φ' id os' C (some os') l) K) (hf:o.e.frame=false:=by rfl) (hm:Zo i rs=false:=by rfl) (hk:Nat.ble (i+1) k=false:=by rfl) (he:(KX S φ os o).map (fun r=>(r.1&&(match rs with| []=>true|_=>Js os0 r.2.2),putO φ o.dst r.2.1,r.2.2))=some (ok,φ',os'):=by simp (disch:=omega) only[uu,zS,zW,zO,ZGA,ZEL,D.nn,D.na,ZY,JR,IE.isCall,Nat.reduceAdd,Nat.reduceSub,Nat.reduceMul,Nat.reduceLeDiff,Nat.reduceLT,Nat.reduceBEq,Int.reduceToNat,Int.reduceLE,Int.reduceLT,Int.reduceAdd,Int.reduceSub,Int.reduceMul,Int.reduceNeg,Int.reduceEq,Nat.reduceEqDiff,YB,YL,Yu,ZS,Zy,ZAC,Ob.isDrw,JK,Qc,Kg,ZBC,apm,ZE,Ab.get,Ab.put,putO,keep,KT,D.val,D.cond,D.cells?,D.scalar,X.scalar,D.plain,D.isX,ZAm,ZAz,eqD,ZAS,eqX,unD,ZF,ZAs,Jw,Zq,Kj,Yv,Yj,Ya,JH,JJ,KO,Kx,Ob.slice?,↓reduceIte,reduceCtorEq,Ym,QM,evC,Kv,Ki,KX,Jk,Js,eqR,nzD,Ku,ZB7,ZCD,ZBz,ZA7,Qf,Qe,ZV,IE.frame,Zo,Jq,IntWalk.i64_in,YU,JI,ZFC,JD,ZGe,ZBF,QD,Yy,QF,Ks,YY,D.inP,Ob.inP,Zx,D.ren,Yb,YO,Ob.ren,Jz,KZ,Jy,ZCJ,KV];rfl) (hok:ok=true:=by first|with_reducible rfl|omega|(simp;done)|(simp;omega)|rfl|(clear uu;grind)|(clear h;clear uu;grind)):YI (YL S os0 k rs i true φ id os C last (o::l)) K:=dsA hf hm hk he hok h
end
theorem lfN {fz:Bool} {T:Tab} {φ:List (Nat×D)} {os os2:List Ob} {rs:List IRes} {ds:List D} {r R:D} (h:r=R) (he:QG fz T φ os rs=some (true,ds,os2):=by simp (disch:=omega) only[uu,zF,keep,KT,Bool.false_eq_true,if_false,QG,ZHI,ZGG,ZC8,Yj,Ya,ZS,ZE,Ab.get,Nat.reduceEqDiff,↓reduceIte,D.val,D.cond,Nat.reduceAdd,Nat.reduceLeDiff,Ob.slice?,Ob.dsl?,Ob.drw?,Option.bind_none];rfl) (hr:mkR ds=r:=by simp only[mkR];rfl):((Exit.normal:Exit)= .normal∨(Exit.normal:Exit)= .ret)∧ ∃ds os2,QG fz T φ os rs=some (true,ds,os2)∧mkR ds=R:=⟨.inl rfl,ds,os2,he,by rw[hr];exact h⟩
theorem Zez {fz:Bool} {T:Tab} {φ:List (Nat×D)} {os os2 OS:List Ob} {rs:List IRes} {ds:List D} {r R:D} (h:r=R∧os2=OS) (he:QG fz T φ os rs=some (true,ds,os2):=by simp (disch:=omega) only[uu,zF,keep,KT,Bool.false_eq_true,if_false,QG,ZHI,ZGG,ZC8,Yj,Ya,ZS,ZE,Ab.get,Nat.reduceEqDiff,↓reduceIte,D.val,D.cond,Nat.reduceAdd,Nat.reduceLeDiff,Ob.slice?,Ob.dsl?,Ob.drw?,Option.bind_none];rfl) (hr:mkR ds=r:=by simp only[mkR];rfl):((Exit.normal:Exit)= .normal∨(Exit.normal:Exit)= .ret)∧ ∃ds os2,QG fz T φ os rs=some (true,ds,os2)∧mkR ds=R∧os2=OS:=⟨.inl rfl,ds,os2,he,by rw[hr];exact h⟩
theorem lfR {fz:Bool} {T:Tab} {φ:List (Nat×D)} {os os2:List Ob} {rs:List IRes} {ds:List D} {r R:D} (h:r=R) (he:QG fz T φ os rs=some (true,ds,os2):=by simp (disch:=omega) only[uu,zF,keep,KT,Bool.false_eq_true,if_false,QG,ZHI,ZGG,ZC8,Yj,Ya,ZS,ZE,Ab.get,Nat.reduceEqDiff,↓reduceIte,D.val,D.cond,Nat.reduceAdd,Nat.reduceLeDiff,Ob.slice?,Ob.dsl?,Ob.drw?,Option.bind_none];rfl) (hr:mkR ds=r:=by simp only[mkR];rfl):((Exit.ret:Exit)= .normal∨(Exit.ret:Exit)= .ret)∧ ∃ds os2,QG fz T φ os rs=some (true,ds,os2)∧mkR ds=R:=⟨.inr rfl,ds,os2,he,by rw[hr];exact h⟩
theorem ZE5 {fz:Bool} {T:Tab} {φ:List (Nat×D)} {os os2 OS:List Ob} {rs:List IRes} {ds:List D} {r R:D} (h:r=R∧os2=OS) (he:QG fz T φ os rs=some (true,ds,os2):=by simp (disch:=omega) only[uu,zF,keep,KT,Bool.false_eq_true,if_false,QG,ZHI,ZGG,ZC8,Yj,Ya,ZS,ZE,Ab.get,Nat.reduceEqDiff,↓reduceIte,D.val,D.cond,Nat.reduceAdd,Nat.reduceLeDiff,Ob.slice?,Ob.dsl?,Ob.drw?,Option.bind_none];rfl) (hr:mkR ds=r:=by simp only[mkR];rfl):((Exit.ret:Exit)= .normal∨(Exit.ret:Exit)= .ret)∧ ∃ds os2,QG fz T φ os rs=some (true,ds,os2)∧mkR ds=R∧os2=OS:=⟨.inr rfl,ds,os2,he,by rw[hr];exact h⟩
theorem ZDv {fz:Bool} {T:Tab} {φ:List (Nat×D)} {os os2 OS:List Ob} {rs:List IRes} {ds:List D} {r R:D} (h:r=R∧ ∃Y,os2=OS++Y) (he:QG fz T φ os rs=some (true,ds,os2):=by simp (disch:=omega) only[uu,zF,keep,KT,Bool.false_eq_true,if_false,QG,ZHI,ZGG,ZC8,Yj,Ya,ZS,ZE,Ab.get,Nat.reduceEqDiff,↓reduceIte,D.val,D.cond,Nat.reduceAdd,Nat.reduceLeDiff,Ob.slice?,Ob.dsl?,Ob.drw?,Option.bind_none];rfl) (hr:mkR ds=r:=by simp only[mkR];rfl):((Exit.ret:Exit)= .normal∨(Exit.ret:Exit)= .ret)∧ ∃ds os2,QG fz T φ os rs=some (true,ds,os2)∧mkR ds=R∧ ∃Y,os2=OS++Y:=⟨.inr rfl,ds,os2,he,by rw[hr];exact h⟩
variable {P:Program}
def QE (g:List D→Option (Bool×D)) (args:List D) (os:List Ob):Option (Bool×D×List Ob):=
 (Ya os args).bind fun p=>(g (p.1.map .x)).map fun r=>(r.1,r.2,p.2)
theorem ZCR {f:FuncId} {g:List D→Option (Bool×D)} (h: ∀args r,g args=some (true,r)→ZC P f args r): ∀args os r os',QE g args os=some (true,r,os')→ZU P f args os r os':=by
 intro args os r os' hh;obtain⟨p,hp,hh⟩:=Zr hh;obtain⟨⟨q1,q2⟩,hq,e⟩:=Zd hh;simp only[Zc]at e;obtain⟨rfl,rfl,rfl⟩:=e;have hc:=h _ _ hq;intro c E vs R hvl;obtain⟨hlen,hv0⟩:=hvl;obtain⟨st',R1,ev1,hl1,hv1⟩:=ZA1 (vs:=vs.toList) R (fun j d v hd hv=>hv0 j d v hd (by simpa using hv)) (by simpa using hlen) hp;have hvl':VL ⟨E.w,st',[]⟩ [] (p.1.map D.x) vs:=by
  refine⟨by simpa using hl1,fun j d v hd hv=> ?_⟩;rw[YC]at hd;obtain⟨y,hy,rfl⟩:=Zd hd;exact .x (hv1 j y v hy (by simpa using hv))
 refine(hc E.w st' vs (fun b o hb=>(R1.stm b o hb).1) hvl').mono ?_;rintro e w' ⟨v,st2,rfl,hk,hs1,hs2,hv⟩;obtain⟨R2,ev2⟩:=R1.world w' st2 hk hs1 hs2;refine⟨v,_,rfl,rfl,R2,ev1.trans ev2,hv.mono (E:=⟨w',st2,[]⟩) (os:= []) ?_⟩;exact⟨fun _ _ h=>⟨h,rfl⟩,fun _ _ _ _ _ h=>by simp at h,fun _ _ _ _ h=>by simp at h⟩
section
variable {c:Ctx} {E0:Env} {os0:List Ob} {n:Nat}
def ZKh (P:Program) (c:Ctx) (E0:Env) (os0:List Ob) (n:Nat) (b:IC) (Q:Exit→List (Nat×D)→List Ob→Prop):Nat→List (Nat×D)→List Ob→Prop
 |0,_,_=>False
 |k+1,φ,os=>WI P c E0 os0 n b (ZEY (ZKh P c E0 os0 n b Q k) Q) φ os
theorem WI.loopN {b:IC} {Q:Exit→List (Nat×D)→List Ob→Prop} (k:Nat) {φ:List (Nat×D)} {os:List Ob} (h:ZKh P c E0 os0 n b Q k φ os):WI P c E0 os0 n (.loop b) Q φ os:=by
 intro code hc E a R hf;obtain⟨cb,rfl,h1⟩:=ZGx hc;refine wp_loop_rounds k ?_;clear hc
 induction k generalizing φ os E a with
 |zero=>exact h.elim
 |succ k ih=>
  rw[rounds_succ];refine wp_mono (h cb h1 E a R hf) ?_;rintro e a' w' ⟨E',φ',os',rfl,k2,k3,k4⟩;cases e with
  |normal=>exact ih k4 E' a' k2 k3
  |_=>exact⟨E',φ',os',rfl,k2,k3,k4⟩
theorem WI.round {b:IC} {Q:Exit→List (Nat×D)→List Ob→Prop} {k:Nat} {φ:List (Nat×D)} {os:List Ob} (h:WI P c E0 os0 n b (ZEY (ZKh P c E0 os0 n b Q k) Q) φ os):ZKh P c E0 os0 n b Q (k+1) φ os:=h
end
section
variable {P:Program}
theorem ZU.turn {α:Type} (enc:α→X) (val:α→Value) (hvx: ∀w st a,VX w st (enc a) (val a)) (hinv: ∀w st a v,VX w st (enc a) v→v=val a) {f:FuncId} {e:Nat} {zs ys:List α} (hl:ys.length=zs.length) (h00:zs= []→ys= [])
  (h0:zs= []→ ∀p cap w,Calls P f #[.slice p 0 cap] w fun e w'=>e= .returned (.tuple #[])∧w'=w)
  (h1: ∀(g cap:Nat) (w:World) (cells:Array Value),zs≠ []→w.heap[g]? =some (.cells cells e (0,0))→cells.toList.take zs.length=zs.map val→zs.length≤cap→cap≤maxLen→cells.size=cap*1→
   Calls P f #[.slice (some ⟨g,0,none⟩) zs.length cap] w fun e' w'=>e'= .returned (.tuple #[])∧w.grownBy w' (some g)∧w'.ownsRow 0 e 1 (.slice (some ⟨g,0,none⟩) zs.length cap) zs.length (ys.map val)):
  ZU P f [.ref 0 zs.length 0 zs.length] [.rows false e 1 (zs.map fun a=> [enc a])] (.tup []) [.rows false e 1 (ys.map fun a=> [enc a])]:=by
 intro c E vs R hvl;obtain⟨hsz,hv⟩:=hvl;obtain⟨v0,rfl⟩: ∃v0,vs= #[v0]:=by
  obtain⟨vl⟩:=vs
  match vl,hsz with
  | [a],_=>exact⟨a,rfl⟩
 have h:=hv 0 _ v0 rfl rfl;cases h with
 |ref hr _=>
  have ho: [Ob.rows false e 1 (zs.map fun a=> [enc a])][0]? =some (Ob.rows false e 1 (zs.map fun a=> [enc a])):=rfl;obtain⟨k1,k2⟩:=hr.at ho rfl;obtain⟨k3,b,a,cap,a',cap',k4,rfl,k6,k7,k8,k9,k10,k11⟩:=k2 (by simp);obtain⟨rfl,rfl⟩:=k8 rfl;obtain⟨p,hp,hok⟩:=R.at ho;rw[hp]at k4;have hpb:p=(b,.slice a' zs.length cap'):=Option.some.inj k4;subst hpb;by_cases hz:zs= []
  ·subst hz;obtain rfl:=h00 rfl;refine(h0 rfl a' cap' E.w).mono ?_;rintro _ w' ⟨rfl,rfl⟩;exact⟨_,E,rfl,rfl,R,Evo.refl _ _,.tup #[] rfl (fun j d v h=>by simp at h)⟩
  ·have hpos:0<zs.length:=List.length_pos_iff.2 hz;obtain⟨xs,⟨q1,q2⟩,q3,q4⟩:=hok;rcases q2 with⟨q2,q5⟩|⟨g,cp,cells,fr,q5,q6,q7,q8,q9,q10,q11⟩
   ·simp only[List.length_map]at q5;omega
   ·simp only[Value.slice.injEq]at q5;obtain⟨rfl,_,rfl⟩:=q5;simp only[List.length_map,Nat.mul_one]at q10 q7 q1;have hfr:fr=(0,0):=by
     rcases q11 with q11|⟨q11,_⟩
     ·exact q11
     ·cases q11
    subst hfr;have hxs:xs=zs.map val:=by
     apply List.ext_getElem (by rw[q1];simp);intro i hi hi2;have hiz:i<zs.length:=by rw[q1]at hi;exact hi
     have:=q4 i [enc zs[i]] 0 (enc zs[i]) xs[i] (by rw[YC,YE hiz];rfl) rfl (by rw[Nat.mul_one,Nat.add_zero];exact YE hi);rw[hinv _ _ _ _ this];simp
    refine(h1 g cap' E.w cells hz q6 (by rw[q10,hxs]) q7 q8 q9).mono ?_;rintro _ w' ⟨rfl,hg,hown⟩;obtain⟨R',ev⟩:=R.set ho hp w' (.rows false e 1 (ys.map fun a=> [enc a])) (b,.slice (some ⟨g,0,none⟩) zs.length cap') ⟨hg.os,hg.tape,hg.output,hg.size,fun k hk hm=>hg.block k hk (fun e=>hm (by cases e;rfl))⟩ (fun b' hb'=> .inl hb') (fun sz rs1 h=>by
      simp only[Ob.sl?,Zf,Zc]at h;obtain⟨rfl,rfl⟩:=h;exact⟨(ys.map fun a=> [enc a]).length,rfl,.inl ⟨by simp[hl],rfl⟩⟩) (fun k h=>by cases h) (fun ev=>by
      refine⟨ys.map val,?_,fun r hr=> ?_,fun i r j x v h1 h2 h3=> ?_⟩
      ·have:=KM.of_owns hown false;simpa[hl]using this
      ·obtain⟨a,_,rfl⟩:=List.mem_map.1 hr;rfl
      ·rw[YC]at h1;obtain⟨a,ha,rfl⟩:=Zd h1
       match j with
       |0=>
        simp only[List.getElem?_cons_zero,Zf]at h2;subst h2;rw[Nat.mul_one,Nat.add_zero,YC,ha]at h3;simp only[Option.map_some,Zf]at h3;subst h3;exact hvx _ _ a
       |j+1=>simp at h2)
    exact⟨_,_,rfl,rfl,R',ev,.tup #[] rfl (fun j d v h=>by simp at h)⟩
end
variable {P:Program} {c:Ctx} {E0:Env} {os0:List Ob} {n:Nat} {Q:Exit→List (Nat×D)→List Ob→Prop} {φ:List (Nat×D)} {os:List Ob}
theorem WI.join {x y:IC} (J:List (Nat×D)→List Ob→Prop) (h:WI P c E0 os0 n x (ZEY J Q) φ os) (h2: ∀φ' os',J φ' os'→WI P c E0 os0 n y Q φ' os'):WI P c E0 os0 n (.seq x y) Q φ os:=by
 refine WI.seq (h.mono fun e φ' os' hh=> ?_);cases e with
 |normal=>exact h2 φ' os' hh
 |_=>exact hh
def ZCi (kp:List Nat) (φ:List (Nat×D)) (o:IOp):Bool:=match o.g,o.e with
 |none,.ld _ _ x=>(match(ZE φ x).val with| .ptr _ _=>true| .vptr _=>true| .eptr id _ _ _=>Zo id kp|_=>false)
 |_,_=>false
def KW:List Ob→List Ob→Bool
 | [],_=>true
 | .box ds::l,y::l'=>Ob.beq (.box ds) y&&KW l l'
 |_::l,_::l'=>KW l l'
 |_::_,[]=>false
theorem ZHh: ∀ {a b:List Ob},KW a b=true→ ∀(id:Nat) (ds:List D),a[id]? =some (.box ds)→b[id]? =some (.box ds)
 | [],b,_,id,ds,h=>by simp at h
 |x::l,[],hb,id,ds,h=>by cases x<;>simp[KW]at hb
 |x::l,y::l',hb,id,ds,h=>by
  cases id with
  |zero=>
   simp only[List.getElem?_cons_zero,Zf]at h⊢;subst h;simp only[KW,ZW]at hb;exact(Ob.beq_eq hb.1).symm
  |succ id=>
   simp only[List.getElem?_cons_succ]at h⊢;have:KW l l'=true:=by
    cases x with
    |box d=>simp only[KW,ZW]at hb;exact hb.2
    |_=>simpa only[KW]using hb
   exact ZHh this id ds h
def ZHe (a b:List Ob) (i:Nat):Bool:=match a[i]?,b[i]? with
 |some x,some y=>Ob.beq x y
 |_,_=>false
theorem ZPR {a b:List Ob} {i:Nat} (h:ZHe a b i=true) {o:Ob} (ho:a[i]? =some o):b[i]? =some o:=by
 unfold ZHe at h;rw[ho]at h;cases hb:b[i]? with
 |none=>rw[hb]at h;cases h
 |some y=>rw[hb]at h;rw[Ob.beq_eq h]
def ZId:List Nat→List Ob→List Ob→Bool
 | [],_,_=>true
 |i::l,a,b=>ZHe a b i&&ZId l a b
theorem ZJq {a b:List Ob}: ∀ {l:List Nat},ZId l a b=true→ ∀i,Zo i l=true→ ∀o,a[i]? =some o→b[i]? =some o
 | [],_,i,hi,_,_=>by cases hi
 |j::l,h,i,hi,o,ho=>by
  simp only[ZId,ZW]at h;simp only[Zo,Bool.or_eq_true]at hi;rcases hi with hi|hi
  ·rw[Nat.eq_of_beq_eq_true hi]at ho⊢;exact ZPR h.1 ho
  ·exact ZJq h.2 i hi o ho
def ZBR (kp:List Nat) (a b:List Ob):Bool:=KW a b&&ZId kp a b
theorem ZIh {kp:List Nat} {a b:List Ob} (h:ZBR kp a b=true):(∀(id:Nat) (ds:List D),a[id]? =some (.box ds)→b[id]? =some (.box ds))∧ ∀i,Zo i kp=true→ ∀o,a[i]? =some o→b[i]? =some o:=by
 simp only[ZBR,ZW]at h;exact⟨ZHh h.1,ZJq h.2⟩
def ZB6 (kp:List Nat) (os:List Ob):List (Option (List Ob))→Bool
 | []=>true
 |none::l=>ZB6 kp os l
 |some x::l=>ZBR kp os x&&ZB6 kp os l
theorem ZEw {kp:List Nat} {os:List Ob}: ∀ {G:List (Option (List Ob))},ZB6 kp os G=true→ ∀(j:Nat) (x:List Ob),G[j]? =some (some x)→ZBR kp os x=true
 | [],_,j,x,h=>by simp at h
 |none::l,hb,j,x,h=>by
  cases j with
  |zero=>simp at h
  |succ j=>exact ZEw (G:=l) hb j x (by simpa using h)
 |some y::l,hb,j,x,h=>by
  simp only[ZB6,ZW]at hb;cases j with
  |zero=>simp at h;subst h;exact hb.1
  |succ j=>exact ZEw hb.2 j x (by simpa using h)
theorem ZEk {id:Nat} {o:Ob}: ∀ {G:List (Option (List Ob))} (dn:Nat→Bool) (i:Nat) (b:List Ob),(∀(j:Nat) (x:List Ob),G[j]? =some (some x)→x[id]? =some o)→b[id]? =some o→(Zp G dn i b)[id]? =some o
 | [],_,_,b,_,h=>h
 |none::l,dn,i,b,hG,h=>by simp only[Zp];exact ZEk dn (i+1) b (fun j x hj=>hG (j+1) x (by simpa using hj)) h
 |some y::l,dn,i,b,hG,h=>by
  simp only[Zp];refine ZEk dn (i+1) _ (fun j x hj=>hG (j+1) x (by simpa using hj)) ?_;split
  ·exact hG 0 y rfl
  ·exact h
def bxR (kp:List Nat) (rs:List Nat):Nat→List (Nat×D)→List Qb→List IOp→Bool
 |i,φ,r::F,o::l=>(!Zo i rs||ZCi kp φ o)&&bxR kp rs (i+1) (putO φ r.1 r.2.1) F l
 |_,_,_,_=>true
theorem ZVM {kp rs:List Nat}: ∀ {l:List IOp} {F:List Qb} {i:Nat} {φ:List (Nat×D)},bxR kp rs i φ F l=true→ ∀(q:Nat) (io:IOp),l[q]? =some io→q<F.length→Zo (i+q) rs=true→ZCi kp (YT φ (F.take q)) io=true
 | [],F,i,φ,_,q,io,h,_,_=>by simp at h
 |o::l,[],i,φ,_,q,io,_,h,_=>by simp at h
 |o::l,r::F,i,φ,hb,q,io,h,hq,hm=>by
  simp only[bxR,ZW]at hb;cases q with
  |zero=>
   simp at h;subst h;have:=hb.1;rw[Nat.add_zero]at hm;simpa[hm,YT]using this
  |succ q=>
   have:=ZVM hb.2 q io (by simpa using h) (by simpa using hq) (by rw[show i+1+q=i+(q+1) by omega];exact hm);simpa[YT]using this
theorem ZbW {kp:List Nat} {S:Tabs} {φ:List (Nat×D)} {os0 os1:List Ob} {o:IOp} {r:Bool×D} (hb:ZCi kp φ o=true) (h:Ym S φ os0 o=some r) (hx: ∀(id:Nat) (ds:List D),os0[id]? =some (.box ds)→os1[id]? =some (.box ds)) (hx2: ∀i,Zo i kp=true→ ∀o,os0[i]? =some o→os1[i]? =some o):Ym S φ os1 o=some r:=by
 unfold ZCi at hb;split at hb
 ·rename_i n ag x hg he;simp only[Ym,hg,he,Jk]at h⊢;split at hb
  ·rename_i id off hv;have key:ZS S.q φ os0 (.ld n ag x)=ZS S.q φ os1 (.ld n ag x)∨ZS S.q φ os0 (.ld n ag x)=none:=by
    simp only[ZS,hv];cases h0:os0[id]? with
    |none=>exact .inr rfl
    |some ob=>
     cases ob with
     |box ds=>rw[hx id ds h0];exact .inl rfl
     |_=>exact .inr rfl
   rcases key with key|key
   ·rw[←key];cases hq:ZS S.q φ os0 (.ld n ag x)with
    |some q=>rw[hq]at h;exact h
    |none=>rw[hq]at h;simp only[ZAe]at h;cases h
   ·rw[key]at h;simp only[ZAe]at h;cases h
  ·rename_i cs hv;have key:ZS S.q φ os0 (.ld n ag x)=ZS S.q φ os1 (.ld n ag x):=by simp only[ZS,hv]
   rw[←key];cases hq:ZS S.q φ os0 (.ld n ag x)with
   |some q=>rw[hq]at h;exact h
   |none=>rw[hq]at h;simp only[ZAe]at h;cases h
  ·rename_i id e1 i1 o1 hv;have key:ZS S.q φ os0 (.ld n ag x)=ZS S.q φ os1 (.ld n ag x)∨ZS S.q φ os0 (.ld n ag x)=none:=by
    simp only[ZS,hv];cases h0:os0[id]? with
    |none=>exact .inr rfl
    |some ob=>rw[hx2 id hb ob h0];exact .inl rfl
   rcases key with key|key
   ·rw[←key];cases hq:ZS S.q φ os0 (.ld n ag x)with
    |some q=>rw[hq]at h;exact h
    |none=>rw[hq]at h;simp only[ZAe]at h;cases h
   ·rw[key]at h;simp only[ZAe]at h;cases h
  ·cases hb
 ·cases hb
section
variable {P:Program} {S:Tabs} {c:Ctx} {n:Nat} {Q:Exit→Act→World→Prop} {ops:Array Oper} {il:List IOp} {k:Nat} {rs kp:List Nat} {E0:Env} {os0:List Ob}
theorem ZUm (hS:SsOk P S) (D0:Draw ops.toList il k rs) (hcomp:ops.toList.mapM (YV P n ops)=some il) {φ0:List (Nat×D)} {F:List Qb} {G:List (Option (List Ob))} (hrun:JQ S os0 k rs 0 φ0 os0.length os0 il=some (true,F,G)) (hbx:bxR kp rs 0 φ0 F il=true) (hal:ZB6 kp os0 G=true)
  (hQ: ∀E' a',Rel c E' (Zp G (fun _=>true) 0 (os0++Zu F))→Evo E0 os0 E' (Zp G (fun _=>true) 0 (os0++Zu F))→Fr n E' (Zp G (fun _=>true) 0 (os0++Zu F)) (YT φ0 F) a'→Q .normal a' E'.w):
  ∀(fuel:Nat) (listed:Array Bool) (a:Act) (E:Env),listed.size=ops.size→ZH2 ops.toList (fun j=>listed.getD j false)→(List.range ops.size).countP (fun j=> !listed.getD j false)≤fuel→
   Rel c E (YK os0 F G (fun j=>listed.getD j false))→Evo E0 os0 E (YK os0 F G (fun j=>listed.getD j false))→a.tmps.size=n→a.defers= []→(∀t,V E (YK os0 F G (fun j=>listed.getD j false)) (look F (fun j=>listed.getD j false) 0 (Go.Ab.get φ0 t) t) (a.tmps.getD t undef))→
   wpAny P .any ops Q fuel listed a E.w:=by
 obtain⟨hlen,hat⟩:=ZAl hcomp;simp only[Array.length_toList]at hlen;obtain⟨hFl,hGl,hF⟩:=ZBq hrun;simp only[Nat.zero_add]at hF;have rec_of: ∀(j:Nat) (r:Qb),F[j]? =some r→ ∃y,il[j]? =some y∧y.dst=r.1:=by
  intro j r hj;have hjl:=(Za hj).1;have hy:il[j]? =some (il[j]'(by omega)):=YE _;obtain⟨d,x,s,h1,_⟩:=hF j _ hy;rw[hj]at h1;cases h1;exact⟨_,hy,rfl⟩
 have st_of: ∀(j:Nat) (x:List Ob),G[j]? =some (some x)→ ∃y,il[j]? =some y∧y.ex rs j=false∧k≤j:=by
  intro j x hj;have hjl:=(Za hj).1;have hy:il[j]? =some (il[j]'(by omega)):=YE _;obtain⟨d,x',s,_,h2,h3⟩:=hF j _ hy;rw[hj]at h2;cases h2;cases h3 with
  |turn hf hk h=>exact⟨_,hy,hf,hk⟩
 have mk_of: ∀(j:Nat) (t:Option Nat) (d:D) (x:Ob),F[j]? =some (t,d,some x)→ ∃y,il[j]? =some y∧y.ex rs j=false∧j<k:=by
  intro j t d x hj;have hjl:=(Za hj).1;have hy:il[j]? =some (il[j]'(by omega)):=YE _;obtain⟨d',x',s,h1,_,h3⟩:=hF j _ hy;rw[hj]at h1;cases h1;cases h3 with
  |make hf hk h=>exact⟨_,hy,hf,hk⟩
 have oper_of: ∀j,j<ops.size→ ∃o,ops.toList[j]? =some o:=fun j hj=>⟨ops[j],by simp[hj]⟩
 have fin: ∀(listed:Array Bool) (a:Act) (E:Env),listed.size=ops.size→Rel c E (YK os0 F G (fun j=>listed.getD j false))→Evo E0 os0 E (YK os0 F G (fun j=>listed.getD j false))→a.tmps.size=n→a.defers= []→(∀t,V E (YK os0 F G (fun j=>listed.getD j false)) (look F (fun j=>listed.getD j false) 0 (Go.Ab.get φ0 t) t) (a.tmps.getD t undef))→
   (Region.ready .any ops listed= []→Q .normal a E.w):=by
  intro listed a E hsz R ev h1 h2 h3 hr;have all: ∀j,j<ops.size→listed.getD j false=true:=by
   intro j hj;cases hb:listed.getD j false with
   |true=>rfl
   |false=>
    exfalso;obtain⟨j0,⟨hj0,hj1⟩,hj2⟩:=ZNM (k:=ops.size) (f:=fun j=>listed.getD j false) ⟨j,hj,hb⟩;have:j0∈Region.ready .any ops listed:=(ZBp hsz).2 ⟨hj1,ops[j0]'(by omega),by simp,fun j hj=>hj2 j (D0.back j0 _ (by simp) j hj)⟩;rw[hr]at this;cases this
  have e1:YK os0 F G (fun j=>listed.getD j false)=Zp G (fun _=>true) 0 (os0++Zu F):=by
   unfold YK;rw[ZH9 F _ 0 (fun j r hj=>by rw[Nat.zero_add];exact all j (by have:=(Za hj).1;omega))];exact Yd G _ _ _ _ (fun j x hj=>by rw[Nat.zero_add];exact all j (by have:=(Za hj).1;omega))
  rw[e1]at R ev h3;refine hQ E a R ev ⟨h1,h2,fun t=> ?_⟩;have:=ZEN F φ0 F.length 0 t;rw[List.take_length]at this;rw[this];have e:look F (fun j=>decide (j<0+F.length)) 0 (Go.Ab.get φ0 t) t=look F (fun j=>listed.getD j false) 0 (Go.Ab.get φ0 t) t:=QV F _ _ _ _ _ (fun j d o hj=>by
   have hjl:=(Za hj).1;simp only[Nat.zero_add,hjl,decide_true,all j (by omega)])
  rw[e];exact h3 t
 intro fuel
 induction fuel with
 |zero=>
  intro listed a E hsz hcl hfu R ev h1 h2 h3;have hr:Region.ready .any ops listed= []:=by
   apply List.eq_nil_iff_forall_not_mem.2;intro i hi;obtain⟨g1,o,ho,_⟩:=(ZBp hsz).1 hi;have hlt:i<ops.size:=by have:=(Za ho).1;simpa using this
   have h0:(List.range ops.size).countP (fun j=> !listed.getD j false)=0:=by omega
   have:=List.countP_eq_zero.1 h0 i (List.mem_range.2 hlt);rw[g1]at this;simp at this
  exact⟨hr,fin listed a E hsz R ev h1 h2 h3 hr⟩
 |succ fuel ih=>
  intro listed a E hsz hcl hfu R ev h1 h2 h3;refine⟨fin listed a E hsz R ev h1 h2 h3,fun i hi=> ?_⟩;obtain⟨g1,o,ho,g2⟩:=(ZBp hsz).1 hi;have hlt:i<ops.size:=by have:=(Za ho).1;simpa using this
  have hil:il[i]? =some (il[i]'(by omega)):=YE _;have hio:=hat i o _ ho hil;obtain⟨d,x,s,hFi,hGi,hst⟩:=hF i _ hil;generalize hioe:il[i]'(by omega)=io at*;have hlook: ∀t∈io.reads,Go.Ab.get (YT φ0 (F.take i)) t=look F (fun j=>listed.getD j false) 0 (Go.Ab.get φ0 t) t:=by
   intro t ht;rw[ZEN F φ0 i 0 t];refine QV F _ _ _ _ _ (fun j d' o' hj=> ?_);obtain⟨y,hy,hyd⟩:=rec_of j _ hj;have hjl:j<ops.size:=by have:=(Za hy).1;omega
   obtain⟨p,hp⟩:=oper_of j hjl;simp only[Nat.zero_add];rcases D0.reads i j io y t o p hil hy ho hp ht hyd with⟨w1,w2⟩|⟨w1,w2⟩
   ·rw[g2 j w2];simpa using w1
   ·have:listed.getD j false=false:=by
     cases hb:listed.getD j false with
     |false=>rfl
     |true=>
      have h9:listed.getD i false=true:=hcl j _ hp hb i w2;rw[g1]at h9;cases h9
    rw[this];simp;omega
  let φs:List (Nat×D):=io.reads.map fun t=>(t,look F (fun j=>listed.getD j false) 0 (Go.Ab.get φ0 t) t)
  have hget: ∀t,Go.Ab.get φs t=look F (fun j=>listed.getD j false) 0 (Go.Ab.get φ0 t) t∨(Go.Ab.get φs t= .und∧t∉io.reads):=by
   intro t;have key: ∀l:List Nat,Go.Ab.get (l.map fun t=>(t,look F (fun j=>listed.getD j false) 0 (Go.Ab.get φ0 t) t)) t=if t∈l then look F (fun j=>listed.getD j false) 0 (Go.Ab.get φ0 t) t else .und:=by
    intro l
    induction l with
    |nil=>rfl
    |cons u l ihl=>
     simp only[List.map_cons,Go.Ab.get,List.mem_cons];by_cases hu:u=t
     ·subst hu;simp
     ·have: ¬t=u:=fun e=>hu e.symm
      simp only[hu,if_false,ihl,this,false_or]
   rw[key io.reads];by_cases ht:t∈io.reads
   ·rw[if_pos ht];exact .inl rfl
   ·rw[if_neg ht];exact .inr ⟨rfl,ht⟩
  have hfs:Fr n E (YK os0 F G (fun j=>listed.getD j false)) φs a:=⟨h1,h2,fun t=>by
   rcases hget t with h|⟨h,_⟩<;>rw[h]
   ·exact h3 t
   ·exact .und _⟩
  have hagree: ∀t∈io.reads,Go.Ab.get φs t=Go.Ab.get (YT φ0 (F.take i)) t:=fun t ht=>by
   rw[hlook t ht];rcases hget t with h|⟨_,h⟩
   ·exact h
   ·exact absurd ht h
  have hdst:io.dst=o.dst∧(o.dst.all fun t=>decide (t<n))=true:=by
   simp only[YV,Yk]at hio;obtain⟨e,he,hc⟩:=hio;split at hc
   ·rename_i hd;split at hc
    ·cases hc;exact⟨rfl,hd⟩
    ·obtain⟨s,_,hc⟩:=Zd hc;cases hc;exact⟨rfl,hd⟩
   ·cases hc
  have huniq: ∀(j u:Nat) (d':D) (o':Option Ob),F[j]? =some (some u,d',o')→io.dst=some u→j=i:=by
   intro j u d' o' hj hd;obtain⟨y,hy,hyd⟩:=rec_of j _ hj;exact(D0.own i j io y u hil hy hd hyd).symm
  have hnext:(fun j=>(listed.setIfInBounds i true).getD j false)=fun j=>listed.getD j false||decide (j=0+i):=by
   funext j;rw[ZAw _ _ _ (by omega),Nat.zero_add]
  have step: ∀(v:Value) (E':Env) (os':List Ob),os'=YK os0 F G (fun j=>(listed.setIfInBounds i true).getD j false)→Rel c E' os'→Evo E (YK os0 F G (fun j=>listed.getD j false)) E' os'→V E' os' d v→
    wpAny P .any ops Q fuel (listed.setIfInBounds i true) (a.put o.dst v) E'.w:=by
   intro v E' os' hos R' e' hv;subst hos;refine ih _ _ E' (by simp[hsz]) ?_ ?_ R' (ev.trans e') ?_ (by cases hd:o.dst<;>simp[Act.put,h2]) (fun t=> ?_)
   ·intro q p hp hq j hj;show(listed.setIfInBounds i true).getD j false=true
    replace hq:(listed.setIfInBounds i true).getD q false=true:=hq
    rw[ZAw _ _ _ (by omega)]at hq⊢;by_cases hqi:q=i
    ·subst hqi;rw[ho]at hp;cases hp;rw[g2 j hj];rfl
    ·simp only[hqi,decide_false,Bool.or_false]at hq;have h9:listed.getD j false=true:=hcl q p hp hq j hj;rw[h9];rfl
   ·have hlt':(List.range ops.size).countP (fun j=> !(listed.setIfInBounds i true).getD j false)<(List.range ops.size).countP (fun j=> !listed.getD j false):=
     ZHn (List.mem_range.2 hlt) (by rw[g1];rfl) (by rw[ZAw _ _ _ (by omega)];simp) (fun j hj=>by
      rw[ZAw _ _ _ (by omega)]at hj;simp only[Bool.not_or,ZW]at hj;exact hj.1)
    omega
   ·cases hd:o.dst with
    |none=>exact h1
    |some t=>simp[Act.put,h1]
   ·rw[hnext,ZJL F _ 0 _ i io.dst d x t hFi huniq,←hnext];by_cases ht:io.dst=some t
    ·rw[if_pos ht];rw[←hdst.1,ht];have:(a.put (some t) v).tmps.getD t undef=v:=by
      have hb:t<n:=by have:=hdst.2;rw[←hdst.1,ht]at this;simpa using this
      simp[Act.put,Array.getD_eq_getD_getElem?,h1,hb]
     rw[this];exact hv
    ·rw[if_neg ht];have:(a.put o.dst v).tmps.getD t undef=a.tmps.getD t undef:=by
      rw[←hdst.1];cases hd:io.dst with
      |none=>rfl
      |some u=>
       have hne:u≠t:=fun e=>ht (by rw[hd,e])
       simp[Act.put,Array.getD_eq_getD_getElem?,hne]
     rw[this];exact(h3 t).mono e'
  have hsm: ∀j,listed.getD j false=true→j≠i:=fun j hj e=>by subst e;rw[g1]at hj;cases hj
  refine ZQ6 ho ?_;have later:io.ex rs i=false→ ∀(j:Nat) (x':List Ob),i<j→G[j]? =some (some x')→listed.getD j false=false:=by
   intro hf j x' hij hj;obtain⟨y,hy,hyf,hkj⟩:=st_of j x' hj;have hjl:j<ops.size:=by have:=(Za hy).1;omega
   obtain⟨p,hp⟩:=oper_of j hjl;cases hb:listed.getD j false with
   |false=>rfl
   |true=>
    have h9:listed.getD i false=true:=D0.tail j p y hkj hp hy hyf _ hcl (hcl j p hp hb) i io hij hil hf;rw[g1]at h9;cases h9
  cases hst with
  |frame hf hq=>
   have hos:YK os0 F G (fun j=>(listed.setIfInBounds i true).getD j false)=YK os0 F G (fun j=>listed.getD j false):=by
    unfold YK;rw[hnext,QR F _ 0 i io.dst d hFi];refine Yd G _ _ _ _ (fun j x' hj=> ?_);have:j≠i:=fun e=>by subst e;rw[hGi]at hj;cases hj
    simp[this]
   rw[←ZBo S [] hagree]at hq;exact ZDI (os:= []) (Y:=YK os0 F G (fun j=>listed.getD j false)) hS R hfs hio hq (fun v E' R' e' hv=>step v E' _ hos.symm R' e' hv)
  |look hf hq=>
   have hos:YK os0 F G (fun j=>(listed.setIfInBounds i true).getD j false)=YK os0 F G (fun j=>listed.getD j false):=by
    unfold YK;rw[hnext,QR F _ 0 i io.dst d hFi];refine Yd G _ _ _ _ (fun j x' hj=> ?_);have:j≠i:=fun e=>by subst e;rw[hGi]at hj;cases hj
    simp[this]
   have hb:=ZVM hbx i io hil (by omega) (by rw[Nat.zero_add];exact hf);have hq2:Ym S (YT φ0 (F.take i)) (YK os0 F G (fun j=>listed.getD j false)) io=some (true,d):=ZbW hb hq (fun id ds hid=>by
    unfold YK;refine ZEk _ 0 _ (fun j x hj=>(ZIh (ZEw hal j x hj)).1 id ds hid) ?_;have:=(Za hid).1;rw[Yt this];exact hid) (fun i hi o hid=>by
    unfold YK;refine ZEk _ 0 _ (fun j x hj=>(ZIh (ZEw hal j x hj)).2 i hi o hid) ?_;have:=(Za hid).1;rw[Yt this];exact hid)
   rw[←ZBo S _ hagree]at hq2;exact ZDI (os:=YK os0 F G (fun j=>listed.getD j false)) (Y:= []) hS (by rw[List.append_nil];exact R) (by rw[List.append_nil];exact hfs) hio hq2 (fun v E' R' e' hv=>step v E' _ (by rw[hos,List.append_nil]) R' (by rw[List.append_nil]at e'⊢;exact e') hv)
  |read hf hk hq=>
   have no: ∀(j:Nat) (x':List Ob),G[j]? =some (some x')→listed.getD j false=false:=fun j x' hj=>by
    obtain⟨_,_,_,hkj⟩:=st_of j x' hj;exact later hf j x' (by omega) hj
   have hob:YK os0 F G (fun j=>listed.getD j false)=os0++Yx F (fun j=>listed.getD j false) 0:=Yq G _ 0 _ (fun j x' hj=>by rw[Nat.zero_add];exact no j x' hj);have hos:YK os0 F G (fun j=>(listed.setIfInBounds i true).getD j false)=YK os0 F G (fun j=>listed.getD j false):=by
    unfold YK;rw[hnext,QR F _ 0 i io.dst d hFi];refine Yd G _ _ _ _ (fun j x' hj=> ?_);have:j≠i:=fun e=>by subst e;rw[hGi]at hj;cases hj
    simp[this]
   rw[←ZBo S os0 hagree]at hq;rw[hob]at R hfs;exact ZDI hS R hfs hio hq (fun v E' R' e' hv=>step v E' _ (by rw[hos,hob]) R' (by rw[hob];exact e') hv)
  |near hf hk hq=>
   have no: ∀(j:Nat) (x':List Ob),G[j]? =some (some x')→listed.getD j false=false:=fun j x' hj=>by
    obtain⟨_,_,_,hkj⟩:=st_of j x' hj;exact later hf j x' (by omega) hj
   have hob:YK os0 F G (fun j=>listed.getD j false)=os0++Yx F (fun j=>listed.getD j false) 0:=Yq G _ 0 _ (fun j x' hj=>by rw[Nat.zero_add];exact no j x' hj);have hos:YK os0 F G (fun j=>(listed.setIfInBounds i true).getD j false)=YK os0 F G (fun j=>listed.getD j false):=by
    unfold YK;rw[hnext,QR F _ 0 i io.dst d hFi];refine Yd G _ _ _ _ (fun j x' hj=> ?_);have:j≠i:=fun e=>by subst e;rw[hGi]at hj;cases hj
    simp[this]
   have hcur:Zp (G.take i) (fun _=>true) 0 (os0++Zu (F.take i))=os0++Zu (F.take i):=by
    rw[←ZA6 G i 0];refine Yq G _ 0 _ (fun j x' hj=> ?_);obtain⟨_,_,_,hkj⟩:=st_of j x' hj;simp;omega
   rw[hcur]at hq;obtain⟨u,id,ext,off,len,rs',hg,he,hx,hr,hb,rfl⟩:=ZLt hq;have hx':Go.Ab.get φs u= .ref id ext off len:=by
    rw[←hx];exact hagree u (by simp[IOp.reads,he,IE.reads,IO.reads])
   have hv:=hfs.slot u;rw[hx']at hv;have hr':Zq (YK os0 F G (fun j=>listed.getD j false)) (.ref id ext off len)=some rs':=by
    cases hv with
    |ref h1 h2=>
     obtain⟨o',sz',rs2,k1,k2,k3⟩:=h1;rw[hob]at k1⊢;refine ZLs ?_ hr;by_cases hid:id<os0.length
     ·rw[Yt hid,Yt hid]
     ·rw[List.getElem?_append_right (by omega)]at k1⊢;rw[List.getElem?_append_right (by omega)];have hsome: ∃ob,(Zu (F.take i))[id-os0.length]? =some ob:=by
       cases hc:(Zu (F.take i))[id-os0.length]? with
       |some ob=>exact⟨ob,rfl⟩
       |none=>
        simp only[Zq]at hr;rw[List.getElem?_append_right (by omega),hc]at hr;cases hr
      obtain⟨ob,hob'⟩:=hsome;rw[hob',k1];rcases ZJo F (fun j=>listed.getD j false) 0 _ _ k1 with h|h
      ·subst h;cases k2
      ·rw[ZF3 F i _ _ hob']at h;exact h.symm
   have hq2:Ym S φs (YK os0 F G (fun j=>listed.getD j false)) io=some (true,.x (.str (rs'.map ZBr))):=by
    simp only[Ym,hg,he,Jk,ZS,ZE,hx',D.val,D.cond,hr',Option.map_some,hb,Bool.and_true]
   exact ZDI (os:=YK os0 F G (fun j=>listed.getD j false)) (Y:= []) hS (by rw[List.append_nil];exact R) (by rw[List.append_nil];exact hfs) hio hq2 (fun v E' R' e' hv=>step v E' _ (by rw[hos,List.append_nil]) R' (by rw[List.append_nil]at e'⊢;exact e') hv)
  |make hf hk hq=>
   rename_i ob';have no: ∀(j:Nat) (x':List Ob),G[j]? =some (some x')→listed.getD j false=false:=fun j x' hj=>by
    obtain⟨_,_,_,hkj⟩:=st_of j x' hj;exact later hf j x' (by omega) hj
   have hob:YK os0 F G (fun j=>listed.getD j false)=os0++Yx F (fun j=>listed.getD j false) 0:=Yq G _ 0 _ (fun j x' hj=>by rw[Nat.zero_add];exact no j x' hj);obtain⟨m1,m2⟩:=ZJU F (fun j=>listed.getD j false) 0 i io.dst d ob' hFi (by simpa using g1);have hos:YK os0 F G (fun j=>(listed.setIfInBounds i true).getD j false)=(os0++Yx F (fun j=>listed.getD j false) 0).set (os0.length+Ys F i) ob':=by
    unfold YK;rw[hnext,m2,List.set_append_right _ _ (by omega),Nat.add_sub_cancel_left];refine Yq G _ 0 _ (fun j x' hj=> ?_);have:j≠i:=fun e=>by subst e;rw[hGi]at hj;cases hj
    simp only[Nat.zero_add,no j x' hj,this,decide_false,Bool.or_false]
   rw[←ZMV S os0 _ hagree]at hq;rw[hob]at R hfs;refine ZXG hS R hfs hio (id:=os0.length+Ys F i) ?_ hq (fun v E' R' e' hv=>step v E' _ hos.symm R' (by rw[hob];exact e') hv);rw[List.getElem?_append_right (by omega),Nat.add_sub_cancel_left];exact m1
  |turn hf hk hq=>
   rename_i s';have early: ∀(j:Nat) (y:IOp),j<i→il[j]? =some y→y.ex rs j=false→listed.getD j false=true:=fun j y hj hy hyf=>D0.tail i o io hk ho hil hf _ hcl g2 j y hj hy hyf
   have hcr:Yx F (fun j=>listed.getD j false) 0=Zu F:=ZJg F _ 0 (fun j t d' x' hj=>by
    obtain⟨y,hy,hyf,hjk⟩:=mk_of j t d' x' hj;rw[Nat.zero_add];exact early j y (by omega) hy hyf)
   have hrt:Zu (F.take i)=Zu F:=ZCy F i (fun j t d' x' hj=>by obtain⟨_,_,_,hjk⟩:=mk_of j t d' x' hj;omega);have hob:YK os0 F G (fun j=>listed.getD j false)=Zp (G.take i) (fun _=>true) 0 (os0++Zu (F.take i)):=by
    unfold YK;rw[hcr,hrt,←ZA6 G i 0];refine Yd G _ _ _ _ (fun j x' hj=> ?_);obtain⟨y,hy,hyf,hkj⟩:=st_of j x' hj;simp only[Nat.zero_add];rcases Nat.lt_trichotomy j i with h|h|h
    ·rw[early j y h hy hyf];simp[h]
    ·subst h;rw[g1];simp
    ·rw[later hf j x' h hj];simp;omega
   have hos:YK os0 F G (fun j=>(listed.setIfInBounds i true).getD j false)=s':=by
    unfold YK;rw[hnext];refine ZDR G _ 0 _ i s' hGi (by simp) (fun j x' hij hj=> ?_);have:j≠i:=by omega
    simp only[Nat.zero_add,later hf j x' hij hj,this,decide_false,Bool.or_false]
   rw[←hob,←ZMN S _ hagree]at hq;exact ZVF hS R hfs hio hq (fun v E' R' e' hv=>step v E' _ hos.symm R' e' hv)
def ZJv (kp:List Nat) (S:Tabs) (φ:List (Nat×D)) (os:List Ob) (k:Nat) (rs:List Nat) (l:List IOp):Option (Bool×List (Nat×D)×List Ob):=
 (JQ S os k rs 0 φ os.length os l).map fun q=>(q.1&&(bxR kp rs 0 φ q.2.1 l&&ZB6 kp os q.2.2),YT φ q.2.1,Zp q.2.2 (fun _=>true) 0 (os++Zu q.2.1))
theorem ZYW (hm:P.follows .mixedOrders=true) (hS:SsOk P S) (hok:ZCx ops.toList il k rs=true) (hcomp:ops.toList.mapM (YV P n ops)=some il) {id:Nat} {φ0 φ2:List (Nat×D)} {os2:List Ob} {E:Env} {a:Act} (R:Rel c E os0) (hf:Fr n E os0 φ0 a) (hrun:ZJv kp S φ0 os0 k rs il=some (true,φ2,os2))
  (hQ: ∀E' a',Rel c E' os2→Evo E os0 E' os2→Fr n E' os2 φ2 a'→Q .normal a' E'.w):(Code.region id ops true).wp P Q a E.w:=by
 simp only[ZJv,Kh]at hrun;obtain⟨⟨ok,F,G⟩,hrun,h3⟩:=hrun;simp at h3;obtain⟨⟨rfl,hbx,hal⟩,rfl,rfl⟩:=h3;have D0:=Draw.of hok;obtain⟨R1,e1⟩:=R.world {E.w with drawn:=E.w.drawn+1} E.st ⟨rfl,rfl,rfl,Nat.le_refl _,fun _ _ _=>rfl⟩ (fun _ _ h=>h) (fun _ _ h=> .inl h);obtain⟨E2,w2,R2,e2⟩:=ZEs F 0 R1;have hrep:(fun j=>(Array.replicate ops.size false).getD j false)=fun _=>false:=by
  funext j;rw[Array.getD_eq_getD_getElem?];by_cases h:j<ops.size<;>simp[h]
 have hob:YK os0 F G (fun _=>false)=os0++Yx F (fun _=>false) 0:=Yq G _ 0 _ (fun _ _ _=>rfl);have hinit:=ZUm (E0:=E) hS D0 hcomp hrun hbx hal hQ ops.size (Array.replicate ops.size false) a E2 (by simp) (by rw[hrep];intro i o _ h;cases h) (by
  have:=List.countP_le_length (p:=fun j=> !(Array.replicate ops.size false).getD j false) (l:=List.range ops.size);simpa using this) (by rw[hrep,hob];exact R2) (by rw[hrep,hob];exact e1.trans e2) hf.size hf.defers (fun t=>by
   rw[hrep,hob,ZC0 F _ 0 _ t (fun j d o _=>rfl)];exact((hf.slot t).mono e1).mono e2)
 refine wp_region_any hm ?_;rw[w2]at hinit;exact hinit
end
def Yp (kp:List Nat) (S:Tabs) (os0:List Ob) (k:Nat) (rs:List Nat):Nat→Bool→List (Nat×D)→Nat→List Ob→List Ob→Option (List Ob)→List IOp→Option (Bool×List (Nat×D)×List Ob)
 |_,b,φ,_,_,C,last,[]=>some (b,φ,last.getD (os0++C))
 |i,b,φ,id,os,C,last,o::l=>
  if o.e.frame then match Ym S φ [] o with
   |some r=>Yp kp S os0 k rs (i+1) (b&&(r.1&&(!Zo i rs||ZCi kp φ o))) (putO φ o.dst r.2) id os C last l
   |none=>none
  else if Zo i rs then match Ym S φ os0 o with
   |some r=>Yp kp S os0 k rs (i+1) (b&&(r.1&&(!Zo i rs||ZCi kp φ o))) (putO φ o.dst r.2) id os C last l
   |none=>none
  else if i<k then match Ym S φ os0 o with
   |some r=>Yp kp S os0 k rs (i+1) (b&&(r.1&&(!Zo i rs||ZCi kp φ o))) (putO φ o.dst r.2) id os C last l
   |none=>match ZDZ φ os o with
    |some r=>Yp kp S os0 k rs (i+1) (b&&(r.1&&(!Zo i rs||ZCi kp φ o))) (putO φ o.dst r.2) id os C last l
    |none=>match QM S φ os0 id o with
     |some r=>Yp kp S os0 k rs (i+1) (b&&(r.1&&(!Zo i rs||ZCi kp φ o))) (putO φ o.dst r.2.1) (id+1) (os++ [r.2.2]) (C++ [r.2.2]) last l
     |none=>none
  else match KX S φ os o with
   |some r=>Yp kp S os0 k rs (i+1) (b&&(r.1&&((!Zo i rs||ZCi kp φ o)&&ZBR kp os0 r.2.2))) (putO φ o.dst r.2.1) id r.2.2 C (some r.2.2) l
   |none=>none
theorem ZBX {kp:List Nat} (S:Tabs) (os0:List Ob) (k:Nat) (rs:List Nat): ∀(l:List IOp) (i:Nat) (b:Bool) (φ:List (Nat×D)) (id:Nat) (os C:List Ob) (last:Option (List Ob)),
  Yp kp S os0 k rs i b φ id os C last l=(JQ S os0 k rs i φ id os l).map fun q=>(b&&(q.1&&(bxR kp rs i φ q.2.1 l&&ZB6 kp os0 q.2.2)),YT φ q.2.1,Zp q.2.2 (fun _=>true) 0 (last.getD (os0++C++Zu q.2.1)))
 | [],i,b,φ,id,os,C,last=>by
  simp[Yp,JQ,YT,Zu,Zp,bxR,ZB6]
 |o::l,i,b,φ,id,os,C,last=>by
  simp only[Yp,JQ];split
  ·cases Ym S φ [] o with
   |none=>rfl
   |some r=>
    simp only[Option.bind_some,ZBX S os0 k rs l];cases JQ S os0 k rs (i+1) (putO φ o.dst r.2) id os l with
    |none=>rfl
    |some q=>simp only[Option.map_some,bxR,ZB6,YT,Zu,Yw];congr 1;simp only[Zc,and_true];ac_rfl
  ·split
   ·cases Ym S φ os0 o with
    |none=>rfl
    |some r=>
     simp only[Option.bind_some,ZBX S os0 k rs l];cases JQ S os0 k rs (i+1) (putO φ o.dst r.2) id os l with
     |none=>rfl
     |some q=>simp only[Option.map_some,bxR,ZB6,YT,Zu,Yw];congr 1;simp only[Zc,and_true];ac_rfl
   ·split
    ·cases Ym S φ os0 o with
     |some r=>
      simp only[ZBX S os0 k rs l];cases JQ S os0 k rs (i+1) (putO φ o.dst r.2) id os l with
      |none=>rfl
      |some q=>simp only[Option.map_some,bxR,ZB6,YT,Zu,Yw];congr 1;simp only[Zc,and_true];ac_rfl
     |none=>
      cases ZDZ φ os o with
      |some r=>
       simp only[ZBX S os0 k rs l];cases JQ S os0 k rs (i+1) (putO φ o.dst r.2) id os l with
       |none=>rfl
       |some q=>simp only[Option.map_some,bxR,ZB6,YT,Zu,Yw];congr 1;simp only[Zc,and_true];ac_rfl
      |none=>
       cases QM S φ os0 id o with
       |none=>rfl
       |some r=>
        simp only[Option.bind_some,ZBX S os0 k rs l];cases JQ S os0 k rs (i+1) (putO φ o.dst r.2.1) (id+1) (os++ [r.2.2]) l with
        |none=>rfl
        |some q=>simp only[Option.map_some,bxR,ZB6,YT,Zu,Yw,List.append_assoc,List.cons_append,List.nil_append];congr 1;simp only[Zc,and_true];ac_rfl
    ·cases KX S φ os o with
     |none=>rfl
     |some r=>
      simp only[Option.bind_some,ZBX S os0 k rs l];cases JQ S os0 k rs (i+1) (putO φ o.dst r.2.1) id r.2.2 l with
      |none=>rfl
      |some q=>simp only[Option.map_some,bxR,ZB6,YT,Zu,ZEc,Option.getD_some];congr 1;simp only[Zc,and_true];ac_rfl
section
variable {P:Program} {c:Ctx} {E0:Env} {os0 os:List Ob} {n:Nat} {Q:Exit→List (Nat×D)→List Ob→Prop} {φ:List (Nat×D)}
theorem WI.dregX {S:Tabs} (hS:SsOk P S) (kp ks:List Nat) {k:Nat} {rs:List Nat} {l:List IOp} (h:YI (Yp kp S os k rs 0 true φ os.length os [] none l) (fun φ' os'=>Q .normal (Go.Ab.keep ks φ') os')):WI P c E0 os0 n (.dreg k rs l) Q φ os:=by
 obtain⟨ok,φ',os',h1,rfl,h3⟩:=h;rw[ZBX]at h1;have h2:ZJv kp S φ os k rs l=some (true,φ',os'):=by
  rw[←h1];unfold ZJv;cases JQ S os k rs 0 φ os.length os l with
  |none=>rfl
  |some q=>simp
 intro code hc E a R hf;obtain⟨id,ops,rfl,h4,h5,h6⟩:=ZF2 hc;exact ZYW h5 hS h6 h4 R.rel hf h2 (fun E' a' R' e' f'=>⟨E',_,os',rfl,⟨R',R.evo.trans e'⟩,f'.keep ks,h3⟩)
end
section
variable {S:Tabs} {os0 os C:List Ob} {k i id:Nat} {rs kp:List Nat} {φ φ':List (Nat×D)} {os':List Ob} {last:Option (List Ob)} {o:IOp} {l:List IOp} {ok:Bool} {d:D} {ob:Ob} {K:List (Nat×D)→List Ob→Prop} {Q:Exit→List (Nat×D)→List Ob→Prop} {ks:List Nat}
theorem xsN (h:K φ (last.getD (os0++C))):YI (Yp kp S os0 k rs i true φ id os C last []) K:=⟨true,φ,_,rfl,rfl,h⟩
theorem xsF (hf:o.e.frame=true) (hm:Zo i rs=false) (he:(Ym S φ [] o).map (fun r=>(r.1,putO φ o.dst r.2))=some (ok,φ')) (hok:ok=true) (h:YI (Yp kp S os0 k rs (i+1) true φ' id os C last l) K):YI (Yp kp S os0 k rs i true φ id os C last (o::l)) K:=by
 subst hok;obtain⟨r,h1,h2⟩:=Zd he;simp only[Zc]at h2;obtain⟨h2,rfl⟩:=h2;simp only[Yp,hf,hm,if_true,h1,h2,Bool.and_true,Bool.not_false,Bool.true_or];exact h
theorem xsQ (hf:o.e.frame=false) (hm:Zo i rs=false) (hk:Nat.ble (i+1) k=true) (he:(Ym S φ os0 o).map (fun r=>(r.1,putO φ o.dst r.2))=some (ok,φ')) (hok:ok=true) (h:YI (Yp kp S os0 k rs (i+1) true φ' id os C last l) K):YI (Yp kp S os0 k rs i true φ id os C last (o::l)) K:=by
 subst hok;obtain⟨r,h1,h2⟩:=Zd he;simp only[Zc]at h2;obtain⟨h2,rfl⟩:=h2;have hk':i<k:=ξ hk;simp only[Yp,hf,hm,if_true,h1,h2,hk',Bool.and_true,Bool.not_false,Bool.true_or,Bool.false_eq_true,if_false];exact h
theorem xsA (hf:o.e.frame=false) (hm:Zo i rs=false) (hk:Nat.ble (i+1) k=false) (he:(KX S φ os o).map (fun r=>(r.1&&ZBR kp os0 r.2.2,putO φ o.dst r.2.1,r.2.2))=some (ok,φ',os')) (hok:ok=true) (h:YI (Yp kp S os0 k rs (i+1) true φ' id os' C (some os') l) K):YI (Yp kp S os0 k rs i true φ id os C last (o::l)) K:=by
 subst hok;obtain⟨r,h1,h2⟩:=Zd he;simp only[Zc]at h2;obtain⟨h2,rfl,rfl⟩:=h2;have hk': ¬i<k:=fun h=>by have:=Nat.ble_eq_true_of_le h;rw[Nat.succ_eq_add_one,hk]at this;cases this
 simp only[Yp,hf,hm,h1,h2,hk',Bool.true_and,Bool.not_false,Bool.true_or,Bool.false_eq_true,if_false];exact h
theorem xFS (h:YI (Yp kp S os0 k rs (i+1) true φ' id os C last l) K) (hf:o.e.frame=true:=by rfl) (hm:Zo i rs=false:=by rfl) (he:(Ym S φ [] o).map (fun r=>(r.1,putO φ o.dst r.2))=some (ok,φ'):=by simp only[zC,Ym,KX,Jk,Js,Ob.beq_refl,Yu,ZS,ZE,Ab.get,Ab.put,putO,Nat.reduceEqDiff,↓reduceIte,D.val,D.cond,reduceCtorEq,Nat.reduceAdd,Nat.add_zero,Nat.zero_add];rfl) (hok:ok=true:=by rfl):YI (Yp kp S os0 k rs i true φ id os C last (o::l)) K:=xsF hf hm he hok h
theorem xFG (h:YI (Yp kp S os0 k rs (i+1) true φ' id os C last l) K) (hf:o.e.frame=true:=by rfl) (hm:Zo i rs=false:=by rfl) (he:(Ym S φ [] o).map (fun r=>(r.1,putO φ o.dst r.2))=some (ok,φ'):=by simp (disch:=omega) only[uu,zM,Ym,KX,Jk,Js,Ob.beq_refl,Yu,ZS,ZE,Ab.get,Ab.put,putO,Nat.reduceEqDiff,↓reduceIte,D.val,D.cond,reduceCtorEq,Zy,ZAC,Ob.isDrw,JK,Qc,Kg,ZBC,apm,Ku,IE.isCall,D.cells?,Nat.reduceAdd,Nat.reduceLeDiff,Ob.slice?,Ob.dsl?,Ob.drw?,Nat.reduceSub,Nat.reduceMul,Int.reduceToNat,Int.reduceLE,Int.reduceLT,Int.reduceAdd,Int.reduceSub,Int.reduceMul,Int.reduceNeg,Int.reduceEq,Zq,ZB1,Jw,ZF,JH,Ya,Yj,JJ,KO,Kx,Qe,Jq,eqR,eqD,ZAS,eqX,nzD,ZAm,unD,ZAs,QM,evC,Kv,Ki,Nat.reduceLT,zO];rfl) (hok:ok=true:=by first|with_reducible rfl|omega|(simp;done)|(simp;omega)|rfl|(clear uu;grind)|(clear h;clear uu;grind)):YI (Yp kp S os0 k rs i true φ id os C last (o::l)) K:=xsF hf hm he hok h
theorem xQG (h:YI (Yp kp S os0 k rs (i+1) true φ' id os C last l) K) (hf:o.e.frame=false:=by rfl) (hm:Zo i rs=false:=by rfl) (hk:Nat.ble (i+1) k=true:=by rfl) (he:(Ym S φ os0 o).map (fun r=>(r.1,putO φ o.dst r.2))=some (ok,φ'):=by simp (disch:=omega) only[uu,zM,Ym,KX,Jk,Js,Ob.beq_refl,Yu,ZS,ZE,Ab.get,Ab.put,putO,Nat.reduceEqDiff,↓reduceIte,D.val,D.cond,reduceCtorEq,Zy,ZAC,Ob.isDrw,JK,Qc,Kg,ZBC,apm,Ku,IE.isCall,D.cells?,Nat.reduceAdd,Nat.reduceLeDiff,Ob.slice?,Ob.dsl?,Ob.drw?,Nat.reduceSub,Nat.reduceMul,Int.reduceToNat,Int.reduceLE,Int.reduceLT,Int.reduceAdd,Int.reduceSub,Int.reduceMul,Int.reduceNeg,Int.reduceEq,Zq,ZB1,Jw,ZF,JH,Ya,Yj,JJ,KO,Kx,Qe,Jq,eqR,eqD,ZAS,eqX,nzD,ZAm,unD,ZAs,QM,evC,Kv,Ki,Nat.reduceLT,zO];rfl) (hok:ok=true:=by first|with_reducible rfl|omega|(simp;done)|(simp;omega)|rfl|(clear uu;grind)|(clear h;clear uu;grind)):YI (Yp kp S os0 k rs i true φ id os C last (o::l)) K:=xsQ hf hm hk he hok h
theorem xAG (h:YI (Yp kp S os0 k rs (i+1) true φ' id os' C (some os') l) K) (hf:o.e.frame=false:=by rfl) (hm:Zo i rs=false:=by rfl) (hk:Nat.ble (i+1) k=false:=by rfl) (he:(KX S φ os o).map (fun r=>(r.1&&ZBR kp os0 r.2.2,putO φ o.dst r.2.1,r.2.2))=some (ok,φ',os'):=by simp (disch:=omega) only[uu,zM,Ym,KX,Jk,ZBR,KW,ZId,ZHe,Ob.beq_refl,Yu,ZS,ZE,Ab.get,Ab.put,putO,Nat.reduceEqDiff,↓reduceIte,D.val,D.cond,reduceCtorEq,Zy,ZAC,Ob.isDrw,JK,Qc,Kg,ZBC,apm,Ku,IE.isCall,D.cells?,Nat.reduceAdd,Nat.reduceLeDiff,Ob.slice?,Ob.dsl?,Ob.drw?,Nat.reduceSub,Nat.reduceMul,Int.reduceToNat,Int.reduceLE,Int.reduceLT,Int.reduceAdd,Int.reduceSub,Int.reduceMul,Int.reduceNeg,Int.reduceEq,Zq,ZB1,Jw,ZF,JH,Ya,Yj,JJ,KO,Kx,Qe,Jq,eqR,eqD,ZAS,eqX,nzD,ZAm,unD,ZAs,QM,evC,Kv,Ki,Nat.reduceLT,zO];rfl) (hok:ok=true:=by first|with_reducible rfl|omega|(simp;done)|(simp;omega)|rfl|(clear uu;grind)|(clear h;clear uu;grind)):YI (Yp kp S os0 k rs i true φ id os C last (o::l)) K:=xsA hf hm hk he hok h
theorem xQC (h:YI (Yp kp S os0 k rs (i+1) true φ' id os C last l) K) (hf:o.e.frame=false:=by rfl) (hm:Zo i rs=false:=by rfl) (hk:Nat.ble (i+1) k=true:=by rfl) (he:(Ym S φ os0 o).map (fun r=>(r.1,putO φ o.dst r.2))=some (ok,φ'):=by simp (disch:=omega) only[uu,zS,zW,zO,ZGA,ZEL,D.nn,D.na,ZY,JR,IE.isCall,Nat.reduceAdd,Nat.reduceSub,Nat.reduceMul,Nat.reduceLeDiff,Nat.reduceLT,Nat.reduceBEq,Int.reduceToNat,Int.reduceLE,Int.reduceLT,Int.reduceAdd,Int.reduceSub,Int.reduceMul,Int.reduceNeg,Int.reduceEq,Nat.reduceEqDiff,YB,Yp,Yu,ZS,Zy,ZAC,Ob.isDrw,JK,Qc,Kg,ZBC,apm,ZE,Ab.get,Ab.put,putO,keep,KT,D.val,D.cond,D.cells?,D.scalar,X.scalar,D.plain,D.isX,ZAm,ZAz,eqD,ZAS,eqX,unD,ZF,ZAs,Jw,Zq,Kj,Yv,Yj,Ya,JH,JJ,KO,Kx,Ob.slice?,↓reduceIte,reduceCtorEq,Ym,QM,evC,Kv,Ki,KX,Jk,Js,eqR,nzD,Ku,ZB7,ZCD,ZBz,ZA7,Qf,Qe,ZV,IE.frame,Zo,Jq,IntWalk.i64_in,YU,JI,ZFC,JD,ZGe,ZBF,QD,Yy,QF,Ks,YY,D.inP,Ob.inP,Zx,D.ren,Yb,YO,Ob.ren,Jz,KZ,Jy,ZCJ,KV];rfl) (hok:ok=true:=by first|with_reducible rfl|omega|(simp;done)|(simp;omega)|rfl|(clear uu;grind)|(clear h;clear uu;grind)):YI (Yp kp S os0 k rs i true φ id os C last (o::l)) K:=xsQ hf hm hk he hok h
theorem xAC (h:YI (Yp kp S os0 k rs (i+1) true φ' id os' C (some os') l) K) (hf:o.e.frame=false:=by rfl) (hm:Zo i rs=false:=by rfl) (hk:Nat.ble (i+1) k=false:=by rfl) (he:(KX S φ os o).map (fun r=>(r.1&&ZBR kp os0 r.2.2,putO φ o.dst r.2.1,r.2.2))=some (ok,φ',os'):=by simp (disch:=omega) only[uu,zS,zW,zO,ZGA,ZEL,D.nn,D.na,ZY,JR,IE.isCall,Nat.reduceAdd,Nat.reduceSub,Nat.reduceMul,Nat.reduceLeDiff,Nat.reduceLT,Nat.reduceBEq,Int.reduceToNat,Int.reduceLE,Int.reduceLT,Int.reduceAdd,Int.reduceSub,Int.reduceMul,Int.reduceNeg,Int.reduceEq,Nat.reduceEqDiff,YB,Yp,Yu,ZS,Zy,ZAC,Ob.isDrw,JK,Qc,Kg,ZBC,apm,ZE,Ab.get,Ab.put,putO,keep,KT,D.val,D.cond,D.cells?,D.scalar,X.scalar,D.plain,D.isX,ZAm,ZAz,eqD,ZAS,eqX,unD,ZF,ZAs,Jw,Zq,Kj,Yv,Yj,Ya,JH,JJ,KO,Kx,Ob.slice?,↓reduceIte,reduceCtorEq,Ym,QM,evC,Kv,Ki,KX,Jk,ZBR,KW,ZId,ZHe,eqR,nzD,Ku,ZB7,ZCD,ZBz,ZA7,Qf,Qe,ZV,IE.frame,Zo,Jq,IntWalk.i64_in,YU,JI,ZFC,JD,ZGe,ZBF,QD,Yy,QF,Ks,YY,D.inP,Ob.inP,Zx,D.ren,Yb,YO,Ob.ren,Jz,KZ,Jy,ZCJ,KV];rfl) (hok:ok=true:=by first|with_reducible rfl|omega|(simp;done)|(simp;omega)|rfl|(clear uu;grind)|(clear h;clear uu;grind)):YI (Yp kp S os0 k rs i true φ id os C last (o::l)) K:=xsA hf hm hk he hok h
end
section
variable {P:Program} {c:Ctx} {E0:Env} {os0 os:List Ob} {n:Nat} {Q:Exit→List (Nat×D)→List Ob→Prop} {φ:List (Nat×D)}
theorem xP {kp:List Nat} {S:Tabs} {ks rs:List Nat} {k i id:Nat} {C os1 os':List Ob} {last:Option (List Ob)} {φ':List (Nat×D)} (h: ∃φ2 os2,Wk c E0 os0 n φ' os' φ2 os2∧Q .normal φ2 os2) (hk:keep ks φ=φ':=by simp only[keep,KT,Nat.reduceEqDiff,if_true,if_false,↓reduceIte,Bool.false_eq_true];rfl) (hl:last.getD (os1++C)=os':=by simp only[Option.getD_none,Option.getD_some,List.append_nil,List.cons_append,List.nil_append];rfl):YI (Yp kp S os1 k rs i true φ id os C last []) (fun φ' os'=> ∃φ2 os2,Wk c E0 os0 n (keep ks φ') os' φ2 os2∧Q .normal φ2 os2):=xsN (by rw[hk,hl];exact h)
end
structure Bx (B:Prop):Prop where
 h:B
theorem sd {p:Bool} (h:p=true:=by first|with_reducible rfl|omega|(simp;done)|(simp;omega)|rfl|(clear uu;grind)|(clear h;clear uu;grind)):p=true:=h
theorem se {p:Bool} (h:p=true:=by first|with_reducible rfl|omega):p=true:=h
section
variable {S:Tabs} {os:List Ob} {φ:List (Nat×D)} {l:List IOp} {K:List (Nat×D)→List Ob→Prop} {d:Option Nat} {g:Option (Nat×Bool)}
theorem oMk {x:IO} (h:YI (YB S true φ os (⟨d,.mv x,none⟩::l)) K):YI (YB S true φ os (⟨d,.mv x,none⟩::l)) K:=h
theorem oKk {x:IO} (h:YI (YB S true φ os (⟨d,.nck x,none⟩::l)) K):YI (YB S true φ os (⟨d,.nck x,none⟩::l)) K:=h
theorem oFk {a:Nat} {x:IO} (h:YI (YB S true φ os (⟨d,.fad a x,none⟩::l)) K):YI (YB S true φ os (⟨d,.fad a x,none⟩::l)) K:=h
theorem oGk {o:IOp} (h:YI (YB S true φ os (o::l)) K):YI (YB S true φ os (o::l)) K:=h
theorem oCk {f:IO} {xs:List IO} (h:YI (YB S true φ os (⟨d,.call f xs,g⟩::l)) K):YI (YB S true φ os (⟨d,.call f xs,g⟩::l)) K:=h
end
section
variable {P:Program} {c:Ctx} {E0:Env} {os0 os:List Ob} {n:Nat} {Q:Exit→List (Nat×D)→List Ob→Prop} {φ:List (Nat×D)}
theorem nz {A B:Prop} (h:A) (k:Bx A→B:=by(intro h;(repeat first|with_reducible refine ZI ?_|with_reducible refine WI.seq ?_|with_reducible refine WI.block ?_|with_reducible refine WI.skip ?_|with_reducible refine QJ ?_|with_reducible refine ZNN ?_|with_reducible refine WI.exit ?_|with_reducible refine ZA2 ?_|((with_reducible refine ZPq ?_ ?_);(focus decide))|with_reducible refine Jv ?_|with_reducible refine ZRm ?_);exact h.h)):B:=k ⟨h⟩
theorem rg {S:Tabs} (hS:SsOk P S) (ks:List Nat) {l:List IOp} {A B:Prop} (h:A) (k:Bx B→YI (YB S true φ os l) (fun φ' os'=>Q .normal (Go.Ab.keep ks φ') os'):=by(intro h;(repeat first|((with_reducible refine oMk ?_);refine oS ?_)|((with_reducible refine oKk ?_);refine oS ?_)|((with_reducible refine oFk ?_);refine oS ?_)|((with_reducible refine oGk ?_);(fail_if_success (with_reducible refine oCk ?_));refine oG ?_)|((with_reducible refine oCk ?_);refine oC ?_));refine oN ?_;exact h.h)) (k2:Bx A→B:=by(intro h;refine nz ?_;exact h.h)):WI P c E0 os0 n (.reg l) Q φ os:=WI.regB hS ks (k ⟨k2 ⟨h⟩⟩)
theorem rgp {S:Tabs} (hS:SsOk P S) (ks:List Nat) {l:List IOp} {A:Prop} (h:A) (k:Bx A→YI (YB S true φ os l) (fun φ' os'=> ∃φ2 os2,Wk c E0 os0 n (Go.Ab.keep ks φ') os' φ2 os2∧Q .normal φ2 os2):=by(intro h;(repeat first|((with_reducible refine oMk ?_);refine oS ?_)|((with_reducible refine oKk ?_);refine oS ?_)|((with_reducible refine oFk ?_);refine oS ?_)|((with_reducible refine oGk ?_);(fail_if_success (with_reducible refine oCk ?_));refine oG ?_)|((with_reducible refine oCk ?_);refine oC ?_));refine oP ?_;exact h.h)):WI P c E0 os0 n (.reg l) Q φ os:=WI.post (WI.regB hS ks (k ⟨h⟩))
theorem cd {x:IO} {y z:IC} {b:Bool} {p q A B:Prop} (ht:p→A) (he:q→B) (hv:(ZE φ x).val= .x (.bool b):=by exact rfl) (hcd:(ZE φ x).cond=true:=by exact rfl) (hp:b=true→p:=by(intro h;first|(simp only[zB]at h;exact h)|exact h)) (hq:b=false→q:=by(intro h;first|(simp only[zB]at h;exact h)|exact h)) (kA:Bx A→WI P c E0 os0 n y Q φ os:=by(intro h;refine nz ?_;exact h.h)) (kB:Bx B→WI P c E0 os0 n z Q φ os:=by(intro h;refine nz ?_;exact h.h)):WI P c E0 os0 n (.cond x y z) Q φ os:=
 WI.cond hv hcd (fun h=>kA ⟨ht (hp h)⟩) (fun h=>kB ⟨he (hq h)⟩)
theorem ce {x:IO} {y z:IC} {b:Bool} {q B:Prop} (ht:b=true→False) (he:q→B) (hv:(ZE φ x).val= .x (.bool b):=by exact rfl) (hcd:(ZE φ x).cond=true:=by exact rfl) (hq:b=false→q:=by(intro h;first|(simp only[zB]at h;exact h)|exact h)) (kB:Bx B→WI P c E0 os0 n z Q φ os:=by(intro h;refine nz ?_;exact h.h)):WI P c E0 os0 n (.cond x y z) Q φ os:=
 WI.cond hv hcd (fun h=>(ht h).elim) (fun h=>kB ⟨he (hq h)⟩)
theorem ct {x:IO} {y z:IC} {b:Bool} {p A:Prop} (ht:p→A) (he:b=false→False) (hv:(ZE φ x).val= .x (.bool b):=by exact rfl) (hcd:(ZE φ x).cond=true:=by exact rfl) (hp:b=true→p:=by(intro h;first|(simp only[zB]at h;exact h)|exact h)) (kA:Bx A→WI P c E0 os0 n y Q φ os:=by(intro h;refine nz ?_;exact h.h)):WI P c E0 os0 n (.cond x y z) Q φ os:=
 WI.cond hv hcd (fun h=>kA ⟨ht (hp h)⟩) (fun h=>(he h).elim)
theorem lf {A:Prop} (h:A) (k:Bx A→WI P c E0 os0 n .ret Q φ os:=by(intro h;refine WI.ret ?_;(repeat first|with_reducible refine JO ?_|with_reducible refine Kk ?_|with_reducible refine ZWp ?_);(first|refine lfR ?_|refine ZE5 ?_|refine ZDv ?_);exact h.h)):WI P c E0 os0 n .ret Q φ os:=k ⟨h⟩
end
section
variable {P:Program} {c:Ctx} {E E0:Env} {os os0:List Ob} {n:Nat} {Q:Exit→List (Nat×D)→List Ob→Prop} {φ:List (Nat×D)}
theorem ZXV {α:Type} (l:List α) (i:Nat) (x:α) (h:l[i]? =some x):l.set i x=l:=by
 apply List.ext_getElem?;intro j;rw[List.getElem?_set];by_cases hj:i=j
 ·subst hj;rw[if_pos rfl,h];simp[(Za h).1]
 ·simp[hj]
theorem Rel.swap (R:Rel c E os) {i:Nat} {o o':Ob} (ho:os[i]? =some o) (hs:o'.sl? =o.sl?) (hk:o.kd=none) (hm: ∀p b,o'.mb p b→o.mb p b) (hok: ∀(E':Env) (os':List Ob) p,Evo E os E' os'→E'.w=E.w→OK E os o p→OK E' os' o' p):Rel c E (os.set i o')∧Evo E os E (os.set i o'):=by
 obtain⟨p,hp,h⟩:=R.at ho;have:=R.set ho hp E.w o' p (Kept.refl _ _) (fun b hb=> .inl (hm p b hb)) (fun sz m hm=>⟨m,by rw[hs];exact hm,.inl ⟨rfl,rfl⟩⟩) (fun k h=>by rw[hk]at h;cases h) (fun ev=>hok _ _ p ev rfl h);rw[ZXV _ _ _ hp]at this;exact this
theorem Rel.toD (R:Rel c E os) {i e sz:Nat} {rs:List (List X)} (ho:os[i]? =some (.rows false e sz rs)):Rel c E (os.set i (.drw e sz (JY rs)))∧Evo E os E (os.set i (.drw e sz (JY rs))):=by
 refine R.swap ho (by simp[Ob.sl?,Qu]) rfl (fun p b h=>h) (fun E' os' p ev hw h=> ?_);obtain⟨xs,h1,h2,h3⟩:=h;refine⟨xs,by rw[hw,Qu];exact h1,fun r hr=> ?_,fun i r j d v hr hd hv=> ?_⟩
 ·obtain⟨r0,h0,rfl⟩:=List.mem_map.1 hr;rw[List.length_map];exact h2 r0 h0
 ·obtain⟨r0,x,g1,g2,rfl⟩:=ZOg hr hd;have:=h3 i r0 j x v g1 g2 hv;exact⟨.x (this.mono ev.st),this.one⟩
theorem Rel.toX (R:Rel c E os) {i e sz:Nat} {rs:List (List X)} (ho:os[i]? =some (.drw e sz (JY rs))):Rel c E (os.set i (.rows false e sz rs))∧Evo E os E (os.set i (.rows false e sz rs)):=by
 refine R.swap ho (by simp[Ob.sl?,Qu]) rfl (fun p b h=>h) (fun E' os' p ev hw h=> ?_);obtain⟨xs,h1,h2,h3⟩:=h;refine⟨xs,by rw[hw];rw[Qu]at h1;exact h1,fun r hr=> ?_,fun i r j x v hr hx hv=> ?_⟩
 ·have:=h2 (r.map D.x) (List.mem_map.2 ⟨r,hr,rfl⟩);rwa [List.length_map]at this
 ·have hr':(JY rs)[i]? =some (r.map D.x):=by unfold JY;rw[YC,hr];rfl
  exact(h3 i _ j (.x x) v hr' (by rw[YC,hx];rfl) hv).1.xx.mono ev.st
theorem Wk.toD {i e sz:Nat} {rs:List (List X)} (ho:os[i]? =some (.rows false e sz rs)):Wk c E0 os0 n φ os φ (os.set i (.drw e sz (JY rs))):=fun E a R hf=>by
 obtain⟨R1,e1⟩:=R.rel.toD ho;exact⟨E,rfl,⟨R1,R.evo.trans e1⟩,hf.mono e1⟩
theorem Wk.toX {i e sz:Nat} {rs:List (List X)} (ho:os[i]? =some (.drw e sz (JY rs))):Wk c E0 os0 n φ os φ (os.set i (.rows false e sz rs)):=fun E a R hf=>by
 obtain⟨R1,e1⟩:=R.rel.toX ho;exact⟨E,rfl,⟨R1,R.evo.trans e1⟩,hf.mono e1⟩
theorem WI.toDA (i:Nat) {e sz:Nat} {rs:List (List X)} {ic:IC} {os':List Ob} (h:WI P c E0 os0 n ic Q φ os') (ho:os[i]? =some (.rows false e sz rs):=by rfl) (hs:os.set i (.drw e sz (JY rs))=os':=by simp only[List.set_cons_zero,List.set_cons_succ];rfl):WI P c E0 os0 n ic Q φ os:=WI.weak (Wk.toD ho) (by rw[hs];exact h)
theorem WI.toXA (i:Nat) {e sz:Nat} {rs:List (List X)} {ic:IC} {os':List Ob} (h:WI P c E0 os0 n ic Q φ os') (ho:os[i]? =some (.drw e sz (JY rs)):=by rfl) (hs:os.set i (.rows false e sz rs)=os':=by simp only[List.set_cons_zero,List.set_cons_succ];rfl):WI P c E0 os0 n ic Q φ os:=WI.weak (Wk.toX ho) (by rw[hs];exact h)
end
section
variable {P:Program} {c:Ctx} {E E0:Env} {os os0:List Ob} {n:Nat} {Q:Exit→List (Nat×D)→List Ob→Prop} {φ:List (Nat×D)}
end
section
variable {P:Program} {c:Ctx} {E0:Env} {os os0:List Ob} {n:Nat} {Q:Exit→List (Nat×D)→List Ob→Prop} {φ:List (Nat×D)}
end
section
variable {P:Program} {c:Ctx} {E0:Env} {os os0:List Ob} {n:Nat} {Q:Exit→List (Nat×D)→List Ob→Prop} {φ:List (Nat×D)}
def kN (K:List (Nat×D)→List Ob→Prop):Exit→List (Nat×D)→List Ob→Prop:=fun _ φ os=>K φ os
theorem ZaD {K:List (Nat×D)→List Ob→Prop} (h:K φ os): ∃φ2 os2,Wk c E0 os0 n φ os φ2 os2∧kN K .normal φ2 os2:=⟨φ,os,Wk.refl,h⟩
end
def ZEj:List Ob→List Ob→Bool
 | [],[]=>true
 |x::l,y::l'=>Ob.beq x y&&ZEj l l'
 |_,_=>false
theorem ZJJ: ∀ {a b:List Ob},ZEj a b=true→a=b
 | [],b,h=>by cases b<;>simp[ZEj]at h;rfl
 |x::l,b,h=>by
  cases b<;>simp[ZEj]at h
  rw[Ob.beq_eq h.1,ZJJ h.2]
theorem ZGg: ∀a:List Ob,ZEj a a=true
 | []=>rfl
 |x::l=>by simp only[ZEj,ZW];exact⟨Ob.beq_refl x,ZGg l⟩
def ptT (S:Tabs) (f:FuncId) (A:List D) (O:List Ob) (r:D) (O':List Ob):Tabs:=⟨S.q,fun f' args os=>if f'=f∧D.beqL args A=true∧ZEj os O=true then some (true,r,O')else S.t f' args os,S.r,S.k⟩
theorem ZCA {P:Program} {S:Tabs} (hS:SsOk P S) {f:FuncId} {A:List D} {O O':List Ob} {r:D} (he:Enters P f) (hm:ZU P f A O r O'):SsOk P (ptT S f A O r O'):=by
 refine⟨hS.q,fun f' args os r' os' h=> ?_,hS.r,hS.k⟩;simp only[ptT]at h;split at h
 ·rename_i hh;obtain⟨rfl,h2,h3⟩:=hh;rw[D.beqL_eq h2,ZJJ h3];simp only[Zf,Zc,true_and]at h;obtain⟨rfl,rfl⟩:=h;exact⟨he,hm⟩
 ·exact hS.t f' args os r' os' h
theorem ZGZ (S:Tabs) (f:FuncId) (A:List D) (O:List Ob) (r:D) (O':List Ob):(ptT S f A O r O').t f A O=some (true,r,O'):=if_pos ⟨rfl,D.beqL_refl A,ZGg O⟩
theorem ZF7 (S:Tabs) (f:FuncId) (A:List D) (O:List Ob) (r:D) (O':List Ob):(ptT S f A O r O').q=S.q:=rfl
theorem ZF6 (S:Tabs) (f:FuncId) (A:List D) (O:List Ob) (r:D) (O':List Ob):(ptT S f A O r O').r=S.r:=rfl
theorem ZGB (S:Tabs) (f:FuncId) (A:List D) (O:List Ob) (r:D) (O':List Ob):(ptT S f A O r O').k=S.k:=rfl
theorem D.ren_id (f:Nat→Nat) (h: ∀i,f i=i) (d:D):d.ren f=d:=by
 refine D.rec (motive_1:=fun d=>d.ren f=d) (motive_2:=fun l=>Zx f l=l) ?_ ?_ ?_ ?_ ?_ ?_ ?_ ?_ ?_ ?_ ?_ ?_ ?_ ?_ ?_ ?_ ?_ ?_ ?_ d
 all_goals intros
 all_goals first|rfl|(simp only[D.ren,Zx,h];done)|(simp only[D.ren,Zx,h];simp_all)
theorem ZFu (f:Nat→Nat) (h: ∀i,f i=i): ∀l:List D,Zx f l=l
 | []=>rfl
 |d::l=>by rw[Zx,D.ren_id f h,ZFu f h l]
theorem ZQf (f:Nat→Nat) (h: ∀i,f i=i) (p:Pr):Yy f p=p:=by
 unfold Yy;rw[ZFu f h]
theorem ZOw {α:Type} (f:α→α) (h: ∀x,f x=x) (l:List α):l.map f=l:=by
 induction l with
 |nil=>rfl
 |cons a l ih=>rw[List.map_cons,h,ih]
theorem Ob.ren_id (f:Nat→Nat) (h: ∀i,f i=i) (o:Ob):o.ren f=o:=by
 cases o<;>simp only[Ob.ren,h,ZFu f h,ZOw (Yy f) (ZQf f h),ZOw (Zx f) (ZFu f h)]
 rename_i cur;cases cur<;>simp only[Option.map_none,Option.map_some,ZQf f h]
theorem ZWK (h:List D→List Ob→Option (Bool×D×List Ob)) (args:List D) (OS:List Ob) (i:Nat) (fz:Bool) (e sz:Nat) (rs:List (List X)) (fz':Bool) (e' sz':Nat) (rs':List (List X)) (ok:Bool) (r:D)
  (hi:JD args= [i]) (hn:YY (fun j=>Zo j [i]) args=true) (ho:OS[i]? =some (.rows fz e sz rs)) (hr: ∀f,r.ren f=r)
  (hh:h (Zx (Yb [i]) args) [.rows fz e sz rs]=some (ok,r,[.rows fz' e' sz' rs'])):YU h args OS=some (ok,r,OS.set i (.rows fz' e' sz' rs')):=by
 have hlt:i<OS.length:=(Za ho).1;have hg:OS.getD i .dead= .rows fz e sz rs:=by rw[List.getD_eq_getElem?_getD,ho];rfl
 have hm:Zo i []=false:=rfl;have hre:JI OS 64 (JD args) []= [i]:=by
  rw[hi];simp only[JI,hm,hg,ZGe];rfl
 have hfp:YO [i] OS= [.rows fz e sz rs]:=by
  unfold YO;simp only[List.map_cons,List.map_nil,hg];rfl
 unfold YU;rw[hre,hfp,hh,if_pos (by
  unfold QF;simp only[List.all_cons,List.all_nil,hg,hn,ZM hlt,Ks];rfl)]
 rw[Option.bind_some,if_pos (by simp),hr];congr 3;unfold KZ;simp only[List.map_cons,List.map_nil,Jy,List.drop_succ_cons,List.drop_zero,KR,ξN,List.append_nil];rfl
def fam (e sz:Nat) (l:List (List (List X))):List Ob:=l.map fun rs=> .rows false e sz rs
def ZDL (sz:Nat) (l:List (List (List X))):List Ob:=l.map fun rs=> .frz sz rs
theorem ZIC (e sz:Nat) (l:List (List (List X))):(fam e sz l).length=l.length:=by simp[fam]
theorem ZEA (sz:Nat) (l:List (List (List X))):(ZDL sz l).length=l.length:=by simp[ZDL]
theorem ZRL (o:Ob) (e sz:Nat): ∀(l A:List (List (List X))),frzL (List.range' (A.length+1) l.length) (o::(ZDL sz A++fam e sz l))=o::ZDL sz (A++l)
 | [],A=>by simp[frzL,fam]
 |r::l,A=>by
  have ih:=ZRL o e sz l (A++ [r]);have hg:(o::(ZDL sz A++fam e sz (r::l)))[A.length+1]? =some (.rows false e sz r):=by
   rw[List.getElem?_cons_succ,List.getElem?_append_right (by rw[ZEA];exact Nat.le_refl _),ZEA,Nat.sub_self];rfl
  have hs:(o::(ZDL sz A++fam e sz (r::l))).set (A.length+1) (.frz sz r)=o::(ZDL sz (A++ [r])++fam e sz l):=by
   rw[List.set_cons_succ,List.set_append_right _ _ (by rw[ZEA];exact Nat.le_refl _),ZEA,Nat.sub_self];simp[ZDL,fam]
  rw[KR,List.range'_succ,frzL,hg];dsimp only;rw[hs];rw[Zs,List.length_singleton,List.append_assoc]at ih;exact ih
def KS:Nat→List (List (List X))→List (List D)
 |_,[]=> []
 |k,rs::l=> [.ref k rs.length 0 rs.length]::KS (k+1) l
theorem ZRP (sz:Nat) (os:List Ob): ∀(l:List (List (List X))) (k:Nat),(∀i r,l[i]? =some r→os[k+i]? =some (.frz sz r))→((KS k l).map (List.map (Kr [0] os))).map (Zx (Yb [0]))=JY (l.map fun rs=> [.sl rs])
 | [],k,_=>rfl
 |r::l,k,h=>by
  have h0:=h 0 r rfl;have ih:=ZRP sz os l (k+1) (fun i x hx=>by rw[show k+1+i=k+(i+1) by omega];exact h (i+1) x hx);have hv:Kr [0] os (.ref k r.length 0 r.length)= .x (.sl r):=by
   unfold Kr;rw[D.vw,show os[k]? =some (.frz sz r)from h0];dsimp only;rw[if_pos rfl,List.drop_zero,List.take_length];rfl
  rw[KS,List.map_cons,List.map_cons,ih,List.map_cons,List.map_nil,hv];rfl
theorem Zau (e sz:Nat) (l:List (List (List X))):ZAW [0] (.drw e 1 (KS 1 l)::ZDL sz l)= [.drw e 1 (JY (l.map fun rs=> [.sl rs]))]:=by
 have h:=ZRP sz (.drw e 1 (KS 1 l)::ZDL sz l) l 1 (fun i r hr=>by rw[Nat.add_comm,List.getElem?_cons_succ];unfold ZDL;rw[YC,hr];rfl);unfold ZAW YO;simp only[List.map_cons,List.map_nil,List.getD_cons_zero,Ob.mp,Ob.onI,Ob.ren];rw[h]
theorem ZA0 (k i:Nat):Zo i (List.range k)=decide (i<k):=by
 rw[Bool.eq_iff_iff,ZAA,List.mem_range,Zj]
theorem ZAk {k i:Nat} (h:i<k):Yb (List.range k) i=i:=ZHN List.nodup_range (by rw[List.getElem?_range h])
theorem ZLx {OS X:List Ob} (hO:OS.all (Ob.inP (fun i=>decide (i<OS.length)))=true):YO (List.range OS.length) (OS++X)=OS:=by
 apply List.ext_getElem?;intro i;unfold YO;rw[YC];by_cases h:i<OS.length
 ·rw[List.getElem?_range h,Option.map_some,List.getD_eq_getElem?_getD,Yt h,YE h,Option.getD_some];have hp:=List.all_eq_true.1 hO _ (List.getElem_mem h);have:=Ob.ren_ren (F:=fun i=>i) (g:=Yb (List.range OS.length)) (p:=fun i=>decide (i<OS.length)) (fun j hj=>ZAk (of_decide_eq_true hj)) OS[i] hp;rw[Ob.ren_id _ (fun _=>rfl)]at this;rw[this]
 ·rw[List.getElem?_eq_none (by simp;omega),List.getElem?_eq_none (by omega)];rfl
section
variable {P:Program} {c:Ctx} {E0:Env} {os0:List Ob} {n:Nat} {Q:Exit→List (Nat×D)→List Ob→Prop} {φ:List (Nat×D)}
theorem ZQg (p:Nat→Bool): ∀(φ:List (Nat×D)),φ.all (fun q=>q.2.inP p)=true→ ∀t,(get φ t).inP p=true
 | [],_,t=>rfl
 |(s,d)::φ,h,t=>by
  rw[List.all_cons,ZW]at h;unfold Go.Ab.get;split
  ·exact h.1
  ·exact ZQg p φ h.2 t
theorem Wk.dropT {OS X:List Ob} (h0:os0.length≤OS.length) (hO:OS.all (Ob.inP (fun i=>decide (i<OS.length)))=true) (hφ:φ.all (fun p=>p.2.inP (fun i=>decide (i<OS.length)))=true):Wk c E0 os0 n φ (OS++X) φ OS:=by
 intro E a R hf;have hn:(List.range OS.length).Nodup:=List.nodup_range;have hlt: ∀r∈List.range OS.length,r<(OS++X).length:=fun r hr=>by have:=List.mem_range.1 hr;simp;omega
 have hm:(fun i=>Zo i (List.range OS.length))=fun i=>decide (i<OS.length):=funext (ZA0 _)
 have R2:=R.rel.pickO hn hlt (fun r hr=>by
  have h:=List.mem_range.1 hr;rw[List.getD_eq_getElem?_getD,Yt h,YE h,Option.getD_some,hm];exact List.all_eq_true.1 hO _ (List.getElem_mem h))
 have e2:=ZHa (ρ:=List.range OS.length) R.rel hlt;rw[ZLx hO]at R2 e2;refine⟨fpE (List.range OS.length) E,rfl,⟨R2,?_⟩,hf.size,hf.defers,fun t=> ?_⟩
 ·have e01:=R.evo;refine⟨e01.st,fun id b cu ds k ho hkd hb=> ?_,fun id o sz rs ho hs=> ?_⟩
  ·have hi:=(Za ho).1;obtain⟨cu1,ds1,k1,kd1,k2⟩:=e01.bl id b cu ds k ho hkd hb;obtain⟨cu2,ds2,k3,kd2,k4⟩:=e2.bl id b cu1 ds1 k (by rw[ZA0];exact ZM (by omega)) k1 kd1 k2;rw[ZAk (by omega)]at k3 k4;exact⟨cu2,ds2,k3,kd2,k4⟩
  ·have hi:=(Za ho).1;obtain⟨o1,rs1,k1,k2,k3⟩:=e01.rf id o sz rs ho hs;obtain⟨o2,rs2,k4,k5,k6⟩:=e2.rf id o1 sz rs1 (by rw[ZA0];exact ZM (by omega)) k1 k2;rw[ZAk (by omega)]at k4 k6;refine⟨o2,rs2,k4,k5,?_⟩;rcases k3 with⟨k3,k3'⟩|k3<;>rcases k6 with⟨k6,k6'⟩|k6
   ·exact .inl ⟨k3.trans k6,k6'.trans k3'⟩
   ·exact .inr (by omega)
   ·exact .inr (by omega)
   ·exact .inr (by omega)
 ·have hp:=ZQg _ φ hφ t;have h1:V (fpE (List.range OS.length) E) OS ((get φ t).ren (Yb (List.range OS.length))) (a.tmps.getD t undef):=(hf.slot t).monoR e2 (by rw[hm];exact hp);have h2:=D.ren_ren (F:=fun i=>i) (g:=Yb (List.range OS.length)) (p:=fun i=>decide (i<OS.length)) (fun j hj=>ZAk (of_decide_eq_true hj)) (get φ t) hp;rw[D.ren_id _ (fun _=>rfl)]at h2;rwa [h2]at h1
theorem ZKL (OS X:List Ob) {os:List Ob} (e:os=OS++X) (h0:os0.length≤OS.length) (hO:OS.all (Ob.inP (fun i=>decide (i<OS.length)))=true) (hφ:φ.all (fun p=>p.2.inP (fun i=>decide (i<OS.length)))=true) (h: ∃φ2 os2,Wk c E0 os0 n φ OS φ2 os2∧Q .normal φ2 os2): ∃φ2 os2,Wk c E0 os0 n φ os φ2 os2∧Q .normal φ2 os2:=by
 subst e;obtain⟨φ2,os2,h1,h2⟩:=h;exact⟨φ2,os2,(Wk.dropT h0 hO hφ).trans h1,h2⟩
theorem WI.dropT (OS X:List Ob) {os:List Ob} {ic:IC} (e:os=OS++X) (h0:os0.length≤OS.length) (hO:OS.all (Ob.inP (fun i=>decide (i<OS.length)))=true) (hφ:φ.all (fun p=>p.2.inP (fun i=>decide (i<OS.length)))=true) (h:WI P c E0 os0 n ic Q φ OS):WI P c E0 os0 n ic Q φ os:=by
 subst e;exact WI.weak (Wk.dropT h0 hO hφ) h
end
theorem ZZW (p:Nat→Bool) (e sz:Nat) (l:List (List (List X))):(fam e sz l).all (Ob.inP p)=true:=by
 unfold fam;rw[List.all_map];exact List.all_eq_true.2 fun _ _=>rfl
theorem ZMJ: ∀(l:List (List (List X))) (k:Nat),(KS k l).length=l.length
 | [],_=>rfl
 |r::l,k=>by rw[KS,KR,ZMJ l,KR]
theorem ZMR: ∀(l:List (List (List X))) (k i:Nat) (r:List (List X)),l[i]? =some r→(KS k l)[i]? =some [.ref (k+i) r.length 0 r.length]
 | [],_,i,r,h=>by simp at h
 |r::l,k,0,x,h=>by simp at h;subst h;rfl
 |r::l,k,i+1,x,h=>by
  rw[KS,List.getElem?_cons_succ,ZMR l (k+1) i x (by simpa using h),show k+1+i=k+(i+1) by omega]
theorem ZKc: ∀(l:List (List (List X))) (k:Nat) (r:List (List X)),KS k (l++ [r])=KS k l++ [[.ref (k+l.length) r.length 0 r.length]]
 | [],k,r=>rfl
 |x::l,k,r=>by rw[List.cons_append,KS,ZKc l,KS,KR,show k+1+l.length=k+(l.length+1) by omega];rfl
theorem ZIy: ∀(l l':List (List (List X))) (k:Nat),l.map List.length=l'.map List.length→KS k l=KS k l'
 | [],[],_,_=>rfl
 | [],_::_,_,h=>by simp at h
 |_::_,[],_,h=>by simp at h
 |x::l,y::l',k,h=>by
  rw[List.map_cons,List.map_cons,List.cons.injEq]at h;rw[KS,KS,h.1,ZIy l l' _ h.2]
theorem ZMO (n:Nat): ∀(l:List (List (List X))) (k:Nat),k+l.length≤n→(KS k l).all (YY (fun i=>decide (i<n)))=true
 | [],_,_=>rfl
 |r::l,k,h=>by
  rw[KR]at h;rw[KS,List.all_cons,ZMO n l (k+1) (by omega),Bool.and_true];simp only[YY,D.inP,Bool.and_true,Zj];omega
def Zcj (e:Nat) (l:List (List (List X))):Ob:= .drw e 1 (KS 1 l)
theorem ZZG (e e2 sz:Nat) (l:List (List (List X))):(Zcj e l::fam e2 sz l).all (Ob.inP (fun i=>decide (i<(Zcj e l::fam e2 sz l).length)))=true:=by
 rw[List.all_cons,ZZW,Bool.and_true,KR,ZIC];exact ZMO _ l 1 (by omega)
theorem Zcn (e sz:Nat) (l:List (List (List X))) (Y:List Ob) (i:Nat) (r:List (List X)) (h:l[i]? =some r):(fam e sz l++Y)[i]? =some (.rows false e sz r):=by
 have hi:=(Za h).1;rw[Yt (by rw[ZIC];exact hi)];unfold fam;rw[YC,h];rfl
theorem Zaq (e sz:Nat) (l:List (List (List X))) (Y:List Ob) (i:Nat) (r:List (List X)) (h:i<l.length):(fam e sz l++Y).set i (.rows false e sz r)=fam e sz (l.set i r)++Y:=by
 rw[List.set_append_left _ _ (by rw[ZIC];exact h)];unfold fam;rw[List.map_set]
theorem ZX6 (e sz:Nat) (l:List (List (List X))) (r:List (List X)):fam e sz (l++ [r])=fam e sz l++ [.rows false e sz r]:=by simp[fam]
def ZRd (A:List D) (O:List Ob) (r:D) (O':List Ob) (args:List D) (os:List Ob):Option (Bool×D×List Ob):=if D.beqL args A=true∧ZEj os O=true then some (true,r,O')else none
theorem ZRO {P:Program} {f:FuncId} {A:List D} {O O':List Ob} {r:D} (hc:ZU P f A O r O'): ∀args os r' os',ZRd A O r O' args os=some (true,r',os')→ZU P f args os r' os':=by
 intro args os r' os' h;unfold ZRd at h;split at h
 ·rename_i hh;rw[D.beqL_eq hh.1,ZJJ hh.2];simp only[Zf,Zc,true_and]at h;obtain⟨rfl,rfl⟩:=h;exact hc
 ·cases h
theorem ZQx (A:List D) (O:List Ob) (r:D) (O':List Ob):ZRd A O r O' A O=some (true,r,O'):=if_pos ⟨D.beqL_refl A,ZGg O⟩
theorem ZU.row {P:Program} {f:FuncId} {args:List D} {OS:List Ob} {r:D} (i:Nat) {fz fz':Bool} {e sz e' sz':Nat} {rs rs':List (List X)} (hc:ZU P f (Zx (Yb [i]) args) [.rows fz e sz rs] r [.rows fz' e' sz' rs'])
  (ho:OS[i]? =some (.rows fz e sz rs)) (hi:JD args= [i]) (hn:YY (fun j=>Zo j [i]) args=true) (hr: ∀f,r.ren f=r):ZU P f args OS r (OS.set i (.rows fz' e' sz' rs')):=
 ZU.lift (ZRO hc) _ _ _ _ (ZWK _ _ _ i fz e sz rs fz' e' sz' rs' true _ hi hn ho hr (ZQx _ _ _ _))
theorem ZU.new {P:Program} {f:FuncId} {args:List D} {OS os':List Ob} {r:D} (hc:ZU P f args [] r os') (hi:JD args= []) (hn: ∀p,YY p args=true):ZU P f args OS (r.ren (fun i=>OS.length+i)) (OS++os'.map (Ob.ren (fun i=>OS.length+i))):=by
 have hren: ∀g,Zx g args=args:=fun g=>by
  have:=ZGE (F:=fun i=>i) (g:=g) (p:=fun _=>false) (fun i h=>by cases h) args (hn _);rwa [ZFu _ (fun _=>rfl)]at this
 refine ZU.lift (h:=ZRd args [] r os') (ZRO hc) _ _ _ _ ?_;have hre:JI OS 64 (JD args) []= []:=by rw[hi];rfl
 have hf:Jz [] OS.length os'.length=fun i=>OS.length+i:=funext fun i=>by simp[Jz]
 unfold YU;rw[hre,if_pos (by simp[QF,hn,Ks]),hren,show YO [] OS= []from rfl,ZQx,Option.bind_some];dsimp only;rw[if_pos (show([]:List Nat).length≤os'.length from Nat.zero_le _)];unfold KZ;rw[hf];cases os'<;>rfl
section
variable {P:Program}
theorem ZN.mcallsX {f:FuncId} {args:List D} {r:D} {os os':List Ob} (h:ZN P f args os (fun r' os2=>r'=r∧ ∃X,os2=os'++X)) (h0:os.length≤os'.length) (hO:os'.all (Ob.inP (fun i=>decide (i<os'.length)))=true) (hr:r.inP (fun i=>decide (i<os'.length))=true):ZU P f args os r os':=by
 intro c E vs R hvl;refine(h c E vs R hvl).mono ?_;rintro e w' ⟨v,E',r',os2,rfl,rfl,R',ev,hv,rfl,X,rfl⟩;have hn:(List.range os'.length).Nodup:=List.nodup_range;have hlt: ∀r∈List.range os'.length,r<(os'++X).length:=fun r hr=>by have:=List.mem_range.1 hr;simp;omega
 have hm:(fun i=>Zo i (List.range os'.length))=fun i=>decide (i<os'.length):=funext (ZA0 _)
 have R2:=R'.pickO hn hlt (fun r hr=>by
  have h:=List.mem_range.1 hr;rw[List.getD_eq_getElem?_getD,Yt h,YE h,Option.getD_some,hm];exact List.all_eq_true.1 hO _ (List.getElem_mem h))
 have e2:=ZHa (ρ:=List.range os'.length) R' hlt;rw[ZLx hO]at R2 e2;refine⟨v,fpE (List.range os'.length) E',rfl,rfl,R2,?_,?_⟩
 ·refine⟨ev.st,fun id b cu ds k ho hkd hb=> ?_,fun id o sz rs ho hs=> ?_⟩
  ·have hi:=(Za ho).1;obtain⟨cu1,ds1,k1,kd1,k2⟩:=ev.bl id b cu ds k ho hkd hb;obtain⟨cu2,ds2,k3,kd2,k4⟩:=e2.bl id b cu1 ds1 k (by rw[ZA0];exact ZM (by omega)) k1 kd1 k2;rw[ZAk (by omega)]at k3 k4;exact⟨cu2,ds2,k3,kd2,k4⟩
  ·have hi:=(Za ho).1;obtain⟨o1,rs1,k1,k2,k3⟩:=ev.rf id o sz rs ho hs;obtain⟨o2,rs2,k4,k5,k6⟩:=e2.rf id o1 sz rs1 (by rw[ZA0];exact ZM (by omega)) k1 k2;rw[ZAk (by omega)]at k4 k6;refine⟨o2,rs2,k4,k5,?_⟩;rcases k3 with⟨k3,k3'⟩|k3<;>rcases k6 with⟨k6,k6'⟩|k6
   ·exact .inl ⟨k3.trans k6,k6'.trans k3'⟩
   ·exact .inr (by omega)
   ·exact .inr (by omega)
   ·exact .inr (by omega)
 ·have h1:V (fpE (List.range os'.length) E') os' (r'.ren (Yb (List.range os'.length))) v:=hv.monoR e2 (by rw[hm];exact hr);have h2:=D.ren_ren (F:=fun i=>i) (g:=Yb (List.range os'.length)) (p:=fun i=>decide (i<os'.length)) (fun j hj=>ZAk (of_decide_eq_true hj)) r' hr;rw[D.ren_id _ (fun _=>rfl)]at h2;rwa [h2]at h1
end
theorem ZC.mc {P:Program} {f:FuncId} {args:List D} {r:D} (h:ZC P f args r) (OS:List Ob) (hi:JD args= []:=by rfl) (hn: ∀p,YY p args=true:=by intro p;rfl) (hr: ∀g,r.ren g=r:=by intro g;rfl):ZU P f args OS r OS:=by
 have h0:ZU P f args [] r []:=by
  intro c E vs R hvl;have hob:E.ob= []:=List.eq_nil_of_length_eq_zero (by have:=R.len;simpa using this);obtain⟨w,st,ob⟩:=E;simp only at hob;subst hob;refine(h w st vs (fun b o h=>(R.stm b o h).1) hvl).mono ?_;rintro e w' ⟨v,st',rfl,hk,h1,h2,hv⟩;obtain⟨R',ev⟩:=R.world w' st' hk h1 h2;exact⟨v,_,rfl,rfl,R',ev,hv⟩
 have:=ZU.new (OS:=OS) h0 hi hn;rw[hr,List.map_nil,List.append_nil]at this;exact this
variable {P:Program} {c:Ctx} {E0:Env} {os0:List Ob} {n:Nat} {Q:Exit→List (Nat×D)→List Ob→Prop} {φ:List (Nat×D)} {os:List Ob}
def WR (P:Program) (c:Ctx) (E0:Env) (os0:List Ob) (n:Nat) (l:List IOp) (Q:Exit→List (Nat×D)→List Ob→Prop) (φ:List (Nat×D)) (os:List Ob):Prop:=
 ∀(ops:Array Oper) (lo:List Oper),lo.mapM (YV P n ops)=some l→ ∀(E:Env) (a:Act),Run c E0 os0 E os→Fr n E os φ a→
  wpList P ops (fun x a' w'=> ∃E' φ' os',E'.w=w'∧Run c E0 os0 E' os'∧Fr n E' os' φ' a'∧Q x φ' os') lo a E.w
theorem WR.reg {l:List IOp} (h:WR P c E0 os0 n l Q φ os):WI P c E0 os0 n (.reg l) Q φ os:=by
 intro code hc E a R hf;obtain⟨id,ops,rfl,h1⟩:=ZFc hc;exact wp_region_list (h ops _ h1 E a R hf)
theorem WR.regB {S:Tabs} (hS:SsOk P S) (ks:List Nat) {l:List IOp} (h:YI (YB S true φ os l) (fun φ' os'=>Q .normal (Go.Ab.keep ks φ') os')):WR P c E0 os0 n l Q φ os:=by
 intro ops lo h1 E a R hf;rw[ZDb]at h;obtain⟨ok,φ',os',h2,rfl,h3⟩:=h;obtain⟨⟨ok2,q⟩,h4,h5⟩:=Zd h2;simp at h5;obtain⟨rfl,rfl⟩:=h5;exact ZJk hS R.rel hf h1 h4 (fun E' a' R' e' f'=>⟨E',_,_,rfl,⟨R',R.evo.trans e'⟩,f'.keep ks,h3⟩)
theorem ZKi {α β:Type} (f:α→Option β): ∀(k:Nat) (lo:List α) (l:List β),lo.mapM f=some l→(lo.take k).mapM f=some (l.take k)∧(lo.drop k).mapM f=some (l.drop k)
 |0,lo,l,h=>by simpa using h
 |k+1,[],l,h=>by simp at h;subst h;simp
 |k+1,x::lo,l,h=>by
  simp only[List.mapM_cons,Option.bind_eq_bind,Yk,Option.pure_def]at h;obtain⟨y,h1,l',h2,h3⟩:=h;cases h3;obtain⟨i1,i2⟩:=ZKi f k lo l' h2;refine⟨?_,by simpa using i2⟩;simp only[List.take_succ_cons,List.mapM_cons,h1,i1,Option.bind_eq_bind,Option.bind_some,Option.pure_def]
theorem ZQ2 {S:Tabs} (hS:SsOk P S) {ops:Array Oper} {Q:Exit→Act→World→Prop} {lo2:List Oper}: ∀ {l:List Oper} {il:List IOp} {E:Env} {os:List Ob} {φ:List (Nat×D)} {a:Act},Rel c E os→Fr n E os φ a→l.mapM (YV P n ops)=some il→ ∀ {φ':List (Nat×D)} {os':List Ob},Qg S φ os il=some (true,φ',os')→
  (∀E' a',Rel c E' os'→Evo E os E' os'→Fr n E' os' φ' a'→wpList P ops Q lo2 a' E'.w)→wpList P ops Q (l++lo2) a E.w
 | [],il,E,os,φ,a,R,hf,hm,φ',os',h,hQ=>by
  simp at hm;subst hm;cases h;exact hQ E a R (Evo.refl _ _) hf
 |o::l,il,E,os,φ,a,R,hf,hm,φ',os',h,hQ=>by
  simp only[List.mapM_cons,Option.bind_eq_bind,Yk,Option.pure_def]at hm;obtain⟨io,hio,il',hil,hm⟩:=hm;cases hm;simp only[Qg,Yk,Kh]at h;obtain⟨⟨ok,φ1,os1⟩,h1,⟨ok2,φ2,os2⟩,h2,h3⟩:=h;simp at h3;obtain⟨⟨rfl,rfl⟩,rfl,rfl⟩:=h3;rw[List.cons_append];refine wpList_step fun K hK=>ZQZ hS R hf hio h1 (fun E1 a1 R1 e1 f1=> ?_)
  exact hK _ _ (ZQ2 hS R1 f1 hil h2 (fun E' a' R' e' f'=>hQ E' a' R' (e1.trans e') f'))
theorem WR.cut {S:Tabs} (hS:SsOk P S) (ks:List Nat) (k:Nat) {l:List IOp} (h:YI (YB S true φ os (l.take k)) (fun φ1 os1=> ∃φ2 os2,Wk c E0 os0 n (Go.Ab.keep ks φ1) os1 φ2 os2∧kN (fun φ2 os2=>WR P c E0 os0 n (l.drop k) Q φ2 os2) .normal φ2 os2)):WR P c E0 os0 n l Q φ os:=by
 intro ops lo h1 E a R hf;rw[ZDb]at h;obtain⟨ok,φ',os',h2,rfl,φ2,os2,hw,h3⟩:=h;obtain⟨⟨ok2,q⟩,h4,h5⟩:=Zd h2;simp at h5;obtain⟨rfl,rfl⟩:=h5;obtain⟨i1,i2⟩:=ZKi _ k lo l h1;rw[←List.take_append_drop k lo];refine ZQ2 hS R.rel hf i1 h4 (fun E' a' R' e' f'=> ?_);obtain⟨E2,hE,R2,f2⟩:=hw E' a' ⟨R',R.evo.trans e'⟩ (f'.keep ks);rw[←hE];exact h3 ops _ i2 E2 a' R2 f2
theorem WI.cutA {S:Tabs} (hS:SsOk P S) (ks:List Nat) (k:Nat) {l:List IOp} (h:YI (YB S true φ os (l.take k)) (fun φ1 os1=> ∃φ2 os2,Wk c E0 os0 n (Go.Ab.keep ks φ1) os1 φ2 os2∧kN (fun φ2 os2=>WR P c E0 os0 n (l.drop k) Q φ2 os2) .normal φ2 os2)):WI P c E0 os0 n (.reg l) Q φ os:=
 WR.reg (WR.cut hS ks k h)
def X.nn0:X→X
 | .nils=> .sl []
 |x=>x
theorem VX.nn0 {w:World} {st:Nat→Nat→Prop} {x:X} {v:Value} (h:VX w st x v):VX w st x.nn0 v:=by
 unfold X.nn0;split
 ·exact h.nn
 ·exact h
def D.nn1:D→D
 | .x (.sl rs)=> .x (.sl (rs.map (List.map X.nn0)))
 |d=>d
theorem V.nn1 {E:Env} {os:List Ob} {d:D} {v:Value} (h:V E os d v):V E os d.nn1 v:=by
 unfold D.nn1;split
 ·cases h with
  |x h=>
  cases h with
  |sl _ a n c sz val hn hc hm hsz hcell hnil hsp hval=>
   refine .x (.sl _ a n c sz val (by simpa using hn) hc hm (fun r hr=> ?_) hcell hnil hsp (fun i j r x hr hx=> ?_))
   ·obtain⟨r0,h0,rfl⟩:=List.mem_map.1 hr;rw[List.length_map];exact hsz r0 h0
   ·rw[YC]at hr;obtain⟨r0,h0,rfl⟩:=Zd hr;rw[YC]at hx;obtain⟨x0,hx0,rfl⟩:=Zd hx;exact(hval i j r0 x0 h0 hx0).nn0
 ·exact h
def ZJ5 (φ:List (Nat×D)):List (Nat×D):=φ.map fun p=>(p.1,p.2.nn1)
theorem Za5 (φ:List (Nat×D)) (t:Nat):get (ZJ5 φ) t=(get φ t).nn1:=by
 induction φ with
 |nil=>rfl
 |cons p φ ih=>
  obtain⟨u,d⟩:=p;simp only[ZJ5,List.map_cons,get];split
  ·rfl
  ·exact ih
theorem Wk.nn1:Wk c E0 os0 n φ os (ZJ5 φ) os:=fun E a R hf=>⟨E,rfl,R,hf.size,hf.defers,fun t=>by rw[Za5];exact(hf.slot t).nn1⟩
theorem Zed {φ':List (Nat×D)} (h: ∃φ2 os2,Wk c E0 os0 n φ' os φ2 os2∧Q .normal φ2 os2) (hp:ZJ5 φ=φ':=by simp only[ZJ5,D.nn1,X.nn0,List.map_cons,List.map_nil];rfl): ∃φ2 os2,Wk c E0 os0 n φ os φ2 os2∧Q .normal φ2 os2:=by
 obtain⟨φ2,os2,h1,h2⟩:=h;subst hp;exact⟨φ2,os2,Wk.nn1.trans h1,h2⟩
end Go.Ab
end
