import Derived.Test.YtpjfdjcejamebaaGreatDoorLA4
import Derived.LoopN
import Derived.Lib.SlKeysI
set_option linter.unusedSimpArgs false
set_option linter.unusedVariables false
section
namespace Go.Ab
open Go.RowKit Go.Bo
def YD (S:Tabs):Bool→List (Nat×D)→List Ob→List IOp→Option (Bool×List (Nat×D)×List Ob)
 |b,φ,os,[]=>some (b,φ,os)
 |b,φ,os,o::l=>match Ja S φ os o with
  |some r=>YD S (b&&r.1) r.2.1 r.2.2 l
  |none=>none
theorem ZDQ (S:Tabs): ∀(l:List IOp) (b:Bool) (φ:List (Nat×D)) (os:List Ob),YD S b φ os l=(Qh S φ os l).map fun q=>(b&&q.1,q.2)
 | [],b,φ,os=>by simp[YD,Qh]
 |o::l,b,φ,os=>by
  simp only[YD,Qh];cases Ja S φ os o with
  |none=>rfl
  |some r=>
   simp only[Option.bind_some,ZDQ S l];cases Qh S r.2.1 r.2.2 l with
   |none=>rfl
   |some q=>simp[Bool.and_assoc]
def YQ (S:Tabs) (os0:List Ob) (k:Nat) (rs:List Nat):Nat→Bool→List (Nat×D)→Nat→List Ob→List Ob→Option (List Ob)→List IOp→Option (Bool×List (Nat×D)×List Ob)
 |_,b,φ,_,_,C,last,[]=>some (b,φ,last.getD (os0++C))
 |i,b,φ,id,os,C,last,o::l=>
  if o.e.frame then match KJ S φ [] o with
   |some r=>YQ S os0 k rs (i+1) (b&&r.1) (putO φ o.dst r.2) id os C last l
   |none=>none
  else if YH i rs then match KJ S φ os0 o with
   |some r=>YQ S os0 k rs (i+1) (b&&r.1) (putO φ o.dst r.2) id os C last l
   |none=>none
  else if i<k then match KJ S φ os0 o with
   |some r=>YQ S os0 k rs (i+1) (b&&r.1) (putO φ o.dst r.2) id os C last l
   |none=>match ZF5 φ os o with
    |some r=>YQ S os0 k rs (i+1) (b&&r.1) (putO φ o.dst r.2) id os C last l
    |none=>match evK S φ os0 id o with
     |some r=>YQ S os0 k rs (i+1) (b&&r.1) (putO φ o.dst r.2.1) (id+1) (os++ [r.2.2]) (C++ [r.2.2]) last l
     |none=>none
  else match evA S φ os o with
   |some r=>YQ S os0 k rs (i+1) (b&&(r.1&&(match rs with| []=>true|_=>KT os0 r.2.2))) (putO φ o.dst r.2.1) id r.2.2 C (some r.2.2) l
   |none=>none
theorem ZCq (rs:List Nat) (os0:List Ob) (G):ZHr rs os0 (none::G)=ZHr rs os0 G:=by cases rs<;>rfl
theorem ZUR (rs:List Nat) (os0:List Ob) (x:List Ob) (G):ZHr rs os0 (some x::G)=((match rs with| []=>true|_=>KT os0 x)&&ZHr rs os0 G):=by cases rs<;>rfl
theorem QM (G:List (Option (List Ob))) (i:Nat) (b:List Ob):Zw (none::G) (fun _=>true) i b=Zw G (fun _=>true) 0 b:=by
 simp only[Zw];exact JY _ _ _ _ _ (fun _ _ _=>rfl)|>.trans (by
  have: ∀(G:List (Option (List Ob))) (i j:Nat) (b:List Ob),Zw G (fun _=>true) i b=Zw G (fun _=>true) j b:=by
   intro G
   induction G with
   |nil=>intro i j b;rfl
   |cons x G ih=>intro i j b;cases x<;>simp only[Zw]<;>exact ih _ _ _
  exact this _ _ _ _)
theorem ZJ0 (G:List (Option (List Ob))) (i:Nat) (b x:List Ob):Zw (some x::G) (fun _=>true) i b=Zw G (fun _=>true) 0 x:=by
 have: ∀(G:List (Option (List Ob))) (i j:Nat) (b:List Ob),Zw G (fun _=>true) i b=Zw G (fun _=>true) j b:=by
  intro G
  induction G with
  |nil=>intro i j b;rfl
  |cons x G ih=>intro i j b;cases x<;>simp only[Zw]<;>exact ih _ _ _
 simp only[Zw,if_true];exact this _ _ _ _
theorem ZBU (S:Tabs) (os0:List Ob) (k:Nat) (rs:List Nat): ∀(l:List IOp) (i:Nat) (b:Bool) (φ:List (Nat×D)) (id:Nat) (os C:List Ob) (last:Option (List Ob)),
  YQ S os0 k rs i b φ id os C last l=(Kq S os0 k rs i φ id os l).map fun q=>(b&&(q.1&&ZHr rs os0 q.2.2),JU φ q.2.1,Zw q.2.2 (fun _=>true) 0 (last.getD (os0++C++YP q.2.1)))
 | [],i,b,φ,id,os,C,last=>by
  have:ZHr rs os0 []=true:=by cases rs<;>rfl
  simp[YQ,Kq,JU,YP,Zw,this]
 |o::l,i,b,φ,id,os,C,last=>by
  simp only[YQ,Kq];split
  ·cases KJ S φ [] o with
   |none=>rfl
   |some r=>
    simp only[Option.bind_some,ZBU S os0 k rs l];cases Kq S os0 k rs (i+1) (putO φ o.dst r.2) id os l with
    |none=>rfl
    |some q=>simp only[Option.map_some,Bool.and_assoc,JU,YP,ZCq,QM]
  ·split
   ·cases KJ S φ os0 o with
    |none=>rfl
    |some r=>
     simp only[Option.bind_some,ZBU S os0 k rs l];cases Kq S os0 k rs (i+1) (putO φ o.dst r.2) id os l with
     |none=>rfl
     |some q=>simp only[Option.map_some,Bool.and_assoc,JU,YP,ZCq,QM]
   ·split
    ·cases KJ S φ os0 o with
     |some r=>
      simp only[ZBU S os0 k rs l];cases Kq S os0 k rs (i+1) (putO φ o.dst r.2) id os l with
      |none=>rfl
      |some q=>simp only[Option.map_some,Bool.and_assoc,JU,YP,ZCq,QM]
     |none=>
      cases ZF5 φ os o with
      |some r=>
       simp only[ZBU S os0 k rs l];cases Kq S os0 k rs (i+1) (putO φ o.dst r.2) id os l with
       |none=>rfl
       |some q=>simp only[Option.map_some,Bool.and_assoc,JU,YP,ZCq,QM]
      |none=>
       cases evK S φ os0 id o with
       |none=>rfl
       |some r=>
        simp only[Option.bind_some,ZBU S os0 k rs l];cases Kq S os0 k rs (i+1) (putO φ o.dst r.2.1) (id+1) (os++ [r.2.2]) l with
        |none=>rfl
        |some q=>simp only[Option.map_some,Bool.and_assoc,JU,YP,ZCq,QM,List.append_assoc,List.cons_append,List.nil_append]
    ·cases evA S φ os o with
     |none=>rfl
     |some r=>
      simp only[Option.bind_some,ZBU S os0 k rs l];cases Kq S os0 k rs (i+1) (putO φ o.dst r.2.1) id r.2.2 l with
      |none=>rfl
      |some q=>simp only[Option.map_some,Bool.and_assoc,JU,YP,ZUR,ZJ0,Option.getD_some];congr 1;simp only[Ze,and_true];ac_rfl
section
variable {P:Program} {c:Ctx} {E0:Env} {os0 os:List Ob} {n:Nat} {Q:Exit→List (Nat×D)→List Ob→Prop} {φ:List (Nat×D)}
theorem WI.regA {S:Tabs} (hS:SsOk P S) (ks:List Nat) {l:List IOp} (h: ∀K:List (Nat×D)→List Ob→Prop,(∀φ' os',Q .normal φ' os'→K φ' os')→Yi (YD S true φ os l) (fun φ' os'=>K (Go.Ab.keep ks φ') os')):WI P c E0 os0 n (.reg l) Q φ os:=
 WI.regK hS ks (fun K hK=>by
  have:=h K hK;rw[ZDQ]at this;obtain⟨ok,φ',os',h1,h2,h3⟩:=this;obtain⟨⟨ok2,q⟩,h4,h5⟩:=Zh h1;simp at h5;obtain⟨rfl,rfl⟩:=h5;exact⟨_,_,_,h4,h2,h3⟩)
theorem WI.dregA {S:Tabs} (hS:SsOk P S) (ks:List Nat) {k:Nat} {rs:List Nat} {l:List IOp} (h: ∀K:List (Nat×D)→List Ob→Prop,(∀φ' os',Q .normal φ' os'→K φ' os')→Yi (YQ S os k rs 0 true φ os.length os [] none l) (fun φ' os'=>K (Go.Ab.keep ks φ') os')):WI P c E0 os0 n (.dreg k rs l) Q φ os:=
 WI.dregK hS ks (fun K hK=>by
  have:=h K hK;rw[ZBU]at this;obtain⟨ok,φ',os',h1,h2,h3⟩:=this;obtain⟨q,h4,h5⟩:=Zh h1;simp at h5;obtain⟨h5,rfl,rfl⟩:=h5;refine⟨_,_,_,?_,h5.trans h2,h3⟩;simp only[ZLF,h4,Option.map_some])
end
theorem ZMa (φ:List (Nat×D)): ∀(ts:List Nat) (t:Nat),get (ts.map fun u=>(u,get φ u)) t=get φ t∨get (ts.map fun u=>(u,get φ u)) t= .und
 | [],t=> .inr rfl
 |u::ts,t=>by
  simp only[List.map_cons,get];split
  ·rename_i h;subst h;exact .inl rfl
  ·exact ZMa φ ts t
theorem WI.order {P:Program} {c:Ctx} {E0:Env} {os0 os:List Ob} {n:Nat} {Q:Exit→List (Nat×D)→List Ob→Prop} {φ:List (Nat×D)} {ic:IC} (ts:List Nat) (h:WI P c E0 os0 n ic Q (ts.map fun u=>(u,get φ u)) os):WI P c E0 os0 n ic Q φ os:=
 WI.weak (fun E _ R hf=>⟨E,rfl,R,hf.size,hf.defers,fun t=>by
  rcases ZMa φ ts t with h|h
  ·rw[h];exact hf.slot t
  ·rw[h];exact .und _⟩) h
mutual
theorem X.beq_refl: ∀x:X,X.beq x x=true
 | .int k n=>by simp[X.beq]
 | .bool a=>by simp[X.beq]
 | .str s=>by simp[X.beq]
 | .nilp=>rfl
 | .nils=>rfl
 | .sl a=>by simp only[X.beq];exact X.beqR_refl a
theorem X.beqR_refl: ∀a:List (List X),X.beqR a a=true
 | []=>rfl
 |r::l=>by simp only[X.beqR,ZY];exact⟨X.beqL_refl r,X.beqR_refl l⟩
theorem X.beqL_refl: ∀a:List X,X.beqL a a=true
 | []=>rfl
 |x::l=>by simp only[X.beqL,ZY];exact⟨X.beq_refl x,X.beqL_refl l⟩
end
mutual
theorem D.beq_refl: ∀d:D,D.beq d d=true
 | .x a=>by simp only[D.beq];exact X.beq_refl a
 | .ref a b c d=>by simp[D.beq]
 | .ptr a b=>by simp[D.beq]
 | .eptr a b c d=>by simp[D.beq]
 | .vptr a=>by simp only[D.beq];exact X.beqL_refl a
 | .mref a=>by simp[D.beq]
 | .mnil=>rfl
 | .iref a b=>by simp[D.beq]
 | .stk a b=>by simp[D.beq]
 | .bref a b c=>by simp[D.beq]
 | .agg a=>by simp only[D.beq];exact D.beqL_refl a
 | .tup a=>by simp only[D.beq];exact D.beqL_refl a
 | .full a=>by simp only[D.beq];exact X.beqR_refl a
 | .nz a=>by simp only[D.beq];exact X.beqR_refl a
 | .fn f a=>by simp only[D.beq,ZY];exact⟨by simp,D.beqL_refl a⟩
 | .opt a d=>by simp only[D.beq,ZY];exact⟨by simp,D.beq_refl d⟩
 | .und=>rfl
theorem D.beqL_refl: ∀a:List D,D.beqL a a=true
 | []=>rfl
 |e::l=>by simp only[D.beqL,ZY];exact⟨D.beq_refl e,D.beqL_refl l⟩
end
theorem beqR_refl: ∀a:List (List D),beqR a a=true
 | []=>rfl
 |r::l=>by simp only[beqR,ZY];exact⟨D.beqL_refl r,beqR_refl l⟩
theorem ZLy (p:Pr):ZLI p p=true:=by simp only[ZLI,ZY];exact⟨X.beqL_refl p.1,D.beqL_refl p.2⟩
theorem ZCu: ∀a:List Pr,ZEx a a=true
 | []=>rfl
 |p::l=>by simp only[ZEx,ZY];exact⟨ZLy p,ZCu l⟩
theorem ZVt: ∀a:Option Pr,ZX0 a a=true
 |none=>rfl
 |some p=>ZLy p
theorem Ob.beq_refl (o:Ob):Ob.beq o o=true:=by
 cases o with
 |box ds=>simp only[Ob.beq];exact D.beqL_refl ds
 |rows f e s rs=>simp only[Ob.beq,ZY];exact⟨by simp,Nat.beq_refl e,Nat.beq_refl s,X.beqR_refl rs⟩
 |drw e s rs=>simp only[Ob.beq,ZY];exact⟨Nat.beq_refl e,Nat.beq_refl s,beqR_refl rs⟩
 |frz s rs=>simp only[Ob.beq,ZY];exact⟨Nat.beq_refl s,X.beqR_refl rs⟩
 |mpo dk ag l=>simp only[Ob.beq,ZY];exact⟨by simp,by simp,ZCu l⟩
 |mit dk ag l it R cur=>simp only[Ob.beq,ZY];exact⟨by simp,by simp,ZCu l,Nat.beq_refl it,ZCu R,ZVt cur⟩
 |mpn dk ag l key sid=>simp only[Ob.beq,ZY];exact⟨by simp,by simp,ZCu l,X.beqL_refl key,Nat.beq_refl sid⟩
 |itr=>rfl
 |stp=>rfl
 |nit=>rfl
 |sit s pos=>simp only[Ob.beq,ZY];exact⟨by simp,Nat.beq_refl pos⟩
 |dead=>rfl
def ZBT (φ:List (Nat×D)):Option IO→Option D
 |none=>none
 |some l=>some (ZF φ l)
def ZAG (dx:D) (lo hi mx:Option D):Option (Bool×D):=
 match dx.val with
 | .x (.str s)=>match lo,hi,mx with
  |none,none,none=>some (dx.cond,.x (.str s))
  |some l,none,none=>(ZE l.val).map fun(n:Int)=>(dx.cond&&(l.cond&&(decide (0≤n)&&decide (n≤s.length))),.x (.str (s.drop n.toNat)))
  |none,some h,none=>(ZE h.val).map fun(m:Int)=>(dx.cond&&(h.cond&&(decide (0≤m)&&decide (m≤s.length))),.x (.str (s.take m.toNat)))
  |some l,some h,none=>(ZE l.val).bind fun(n:Int)=>(ZE h.val).map fun(m:Int)=>(dx.cond&&((l.cond&&h.cond)&&(decide (0≤n)&&(decide (n≤m)&&decide (m≤s.length)))),.x (.str ((s.take m.toNat).drop n.toNat)))
  |_,_,_=>none
 |_=>none
def ZBA (os:List Ob) (sz:Nat) (dx:D) (lo hi mx:Option D):Option (Bool×D):=
 match dx.val with
 | .x .nils=>(Kf (lo)).bind fun p=>(Kf (hi)).bind fun q=>(Kf (mx)).map fun r=>(dx.cond&&((mx.isNone||hi.isSome)&&(p&&(q&&r))),.x .nils)
 | .x (.sl rs)=>match lo,hi,mx with
  |none,none,none=>some (dx.cond,.x (.sl rs))
  |some l,none,none=>(ZE l.val).map fun(n:Int)=>(dx.cond&&(l.cond&&(decide (0≤n)&&(decide (n≤rs.length)&&rs.all fun r=>decide (r.length=sz)))),.x (.sl (rs.drop n.toNat)))
  |none,some h,none=>(ZE h.val).map fun(m:Int)=>(dx.cond&&(h.cond&&(decide (0≤m)&&(decide (m≤rs.length)&&rs.all fun r=>decide (r.length=sz)))),.x (.sl (rs.take m.toNat)))
  |some l,some h,none=>(ZE l.val).bind fun(n:Int)=>(ZE h.val).map fun(m:Int)=>(dx.cond&&((l.cond&&h.cond)&&(decide (0≤n)&&(decide (n≤m)&&(decide (m≤rs.length)&&rs.all fun r=>decide (r.length=sz))))),.x (.sl ((rs.take m.toNat).drop n.toNat)))
  |l,some h,some mi=>(Kf l).bind fun z=>(ZE h.val).bind fun(n:Int)=>(ZE mi.val).map fun(m:Int)=>(dx.cond&&(z&&(h.cond&&(mi.cond&&(decide (0≤n)&&(decide (n≤rs.length)&&(decide (n=m)&&rs.all fun r=>decide (r.length=sz))))))),.full (rs.take n.toNat))
  |_,_,_=>none
 | .ref id ext off len=>match os[id]? with
  |some o=>match o.slice? with
   |some (sz',rs)=>match lo,hi,mx with
    |some l,none,none=>(ZE l.val).map fun(n:Int)=>(dx.cond&&(l.cond&&(decide (sz'=sz)&&(decide (rs.length=ext)&&(decide (0≤n)&&decide (n≤len))))),.ref id ext (off+n.toNat) (len-n.toNat))
    |none,some h,none=>(ZE h.val).map fun(m:Int)=>(dx.cond&&(h.cond&&(decide (sz'=sz)&&(decide (rs.length=ext)&&(decide (0≤m)&&decide (m≤len))))),.ref id ext off m.toNat)
    |some l,some h,none=>(ZE l.val).bind fun(n:Int)=>(ZE h.val).map fun(m:Int)=>(dx.cond&&((l.cond&&h.cond)&&(decide (sz'=sz)&&(decide (rs.length=ext)&&(decide (0≤n)&&(decide (n≤m)&&decide (m≤len)))))),.ref id ext (off+n.toNat) (m.toNat-n.toNat))
    |_,_,_=>none
   |none=>none
  |none=>none
 |_=>none
theorem ZER (φ:List (Nat×D)) (x:IO) (lo hi mx:Option IO):ZFy φ x lo hi mx=ZAG (ZF φ x) (ZBT φ lo) (ZBT φ hi) (ZBT φ mx):=by
 cases lo<;>cases hi<;>cases mx<;>rfl
theorem ZGG (φ:List (Nat×D)) (os:List Ob) (sz:Nat) (x:IO) (lo hi mx:Option IO):ZGV φ os sz x lo hi mx=ZBA os sz (ZF φ x) (ZBT φ lo) (ZBT φ hi) (ZBT φ mx):=by
 cases lo<;>cases hi<;>cases mx<;>rfl
def ZBk (φ:List (Nat×D)):List IO→List D
 | []=> []
 |y::ys=>(ZF φ y).val::ZBk φ ys
def ZAj (φ:List (Nat×D)):List IO→Bool
 | []=>true
 |y::ys=>(ZF φ y).cond&&ZAj φ ys
theorem ZEg (φ:List (Nat×D)): ∀l,(l.map fun y=>(ZF φ y).val)=ZBk φ l
 | []=>rfl
 |y::ys=>by simp[ZBk,ZEg φ ys]
theorem ZDD (φ:List (Nat×D)): ∀l:List IO,(l.all fun y=>(ZF φ y).cond)=ZAj φ l
 | []=>rfl
 |y::ys=>by simp[ZAj,ZDD φ ys]
def ZEE (T:FuncId→List D→List Ob→Option (Bool×D×List Ob)) (df:D) (vs:List D) (cs:Bool) (os:List Ob):Option (Bool×D×List Ob):=match df.val with
 | .fn g caps=>(T g (vs++caps) os).map fun r=>(df.cond&&(cs&&r.1),r.2)
 |_=>none
def ZDr (T:FuncId→List D→List Ob→Option (Bool×D)) (df:D) (vs:List D) (cs:Bool) (os:List Ob):Option (Bool×D):=match df.val with
 | .fn g caps=>(T g (vs++caps) os).map fun r=>(df.cond&&(cs&&r.1),r.2)
 |_=>none
def ZEK (T:FuncId→List D→List Ob→Option (Bool×(Nat→D)×Ob)) (df:D) (vs:List D) (cs:Bool) (os:List Ob) (id:Nat):Option (Bool×D×Ob):=match df.val with
 | .fn g caps=>(T g (vs++caps) os).map fun r=>(df.cond&&(cs&&r.1),r.2.1 id,r.2.2)
 |_=>none
theorem ZOX (T:FuncId→List D→List Ob→Option (Bool×D×List Ob)) (φ:List (Nat×D)) (os:List Ob) (e:IE):ZEl T φ os e=match e with
  | .call f xs=>ZEE T (ZF φ f) (ZBk φ xs) (ZAj φ xs) os
  |_=>none:=by
 cases e<;>first|rfl|skip
 simp only[ZEl,ZEg,ZDD,ZEE];generalize(ZF φ _).val=u;cases u<;>rfl
theorem ZNH (T:FuncId→List D→List Ob→Option (Bool×D)) (φ:List (Nat×D)) (os:List Ob) (e:IE):ZDO T φ os e=match e with
  | .call f xs=>ZDr T (ZF φ f) (ZBk φ xs) (ZAj φ xs) os
  |_=>none:=by
 cases e<;>first|rfl|skip
 simp only[ZDO,ZEg,ZDD,ZDr];generalize(ZF φ _).val=u;cases u<;>rfl
theorem ZOC (T:FuncId→List D→List Ob→Option (Bool×(Nat→D)×Ob)) (φ:List (Nat×D)) (os:List Ob) (id:Nat) (e:IE):ZCT T φ os id e=match e with
  | .call f xs=>ZEK T (ZF φ f) (ZBk φ xs) (ZAj φ xs) os id
  |_=>none:=by
 cases e<;>first|rfl|skip
 simp only[ZCT,ZEg,ZDD,ZEK];generalize(ZF φ _).val=u;cases u<;>rfl
section
variable {S:Tabs} {os0 os C:List Ob} {k i id:Nat} {rs:List Nat} {φ φ':List (Nat×D)} {os':List Ob} {last:Option (List Ob)} {o:IOp} {l:List IOp} {ok:Bool} {d:D} {ob:Ob} {K:List (Nat×D)→List Ob→Prop}
theorem ZKv (s:List UInt8):(s.map Zl).take s.length=s.map Zl:=YL (by simp)
theorem ZOO (l:List (List UInt8)) (w:List UInt8):rows ZI l++ [[X.str w]]=rows ZI (l++ [w]):=Qy ZI l [w]
theorem ZLf (s:List UInt8) (i:Nat) (h:i<s.length):(s.map Zl)[i]? =some [X.int .u8 (s[i].toNat:Int)]:=by simp[Zl,h]
theorem ZMB (s:List UInt8):(s.map Zl).length=s.length:=List.length_map ..
theorem Jh (s:List UInt8):(s.map Zl).map ZB6=s:=by
 rw[List.map_map]
 conv=>rhs;rw[←List.map_id s]
 refine List.map_congr_left (fun b _=> ?_);simp[ZB6,Zl]
theorem YV (s:List UInt8):((s.map Zl).all ZCl)=true:=by
 rw[List.all_eq_true];intro r hr;obtain⟨b,_,rfl⟩:=List.mem_map.1 hr;rfl
theorem ZUm {α:Type} (c:RC α):Zd c []=some []:=rfl
theorem ZKN (n:Nat):Nat.beq n n=true:=Nat.beq_refl n
theorem ZKG (m n:Nat) (h:m≠n):Nat.beq m n=false:=by
 cases hb:Nat.beq m n with
 |false=>rfl
 |true=>exact absurd (Nat.eq_of_beq_eq_true hb) h
theorem ZUk (b:Bool):(b||b==false)=true:=by cases b<;>rfl
theorem ZQ4 (dk:KK) (ag:Bool) (l:List Pr):(Ob.mpo dk ag l).map? =some (dk,ag,l):=rfl
theorem ZQY (dk:KK) (ag:Bool) (l:List Pr) (it:Nat) (R:List Pr) (cur:Option Pr):(Ob.mit dk ag l it R cur).map? =some (dk,ag,l):=rfl
theorem ZRo (dk:KK) (ag:Bool) (l:List Pr) (key:List X) (sid:Nat):(Ob.mpn dk ag l key sid).map? =some (dk,ag,l):=rfl
theorem ZQV (dk:KK) (ag:Bool) (l:List Pr):(Ob.mpo dk ag l).upd? =some (dk,ag,l):=rfl
theorem ZQx (dk:KK) (ag:Bool) (l:List Pr) (key:List X) (sid:Nat):(Ob.mpn dk ag l key sid).upd? =some (dk,ag,l):=rfl
theorem ZRQ (k:IntKind) (n:Int):Ji (.int k) (.x (.int k n))=some [.int k n]:=by simp[Ji]
theorem ZRB (s:List UInt8):Ji .str (.x (.str s))=some [.str s]:=rfl
theorem ZOh (k:IntKind) (n:Int):keyD (.int k) [.int k n]= .x (.int k n):=rfl
theorem ZOj (s:List UInt8):keyD .str [.str s]= .x (.str s):=rfl
theorem ZOq (d:D):ZDL false [d]=d:=rfl
theorem ZQf (ds:List D):ZDL true ds= .agg ds:=rfl
theorem ZeY (y:X):agD (.x y)=false:=rfl
theorem ZWg (ds:List D):agD (.agg ds)=true:=rfl
theorem ZWm (a b c d:Nat):agD (.ref a b c d)=false:=rfl
theorem ZXV (a b:Nat):agD (.ptr a b)=false:=rfl
theorem ZRi (a:Nat):agD (.mref a)=false:=rfl
theorem ZdG (k:KK):(k=k)=True:=eq_self k
theorem Zd6 (b:Bool):(b=b)=True:=eq_self b
theorem Zdi (b:Nat):(b=b)=True:=eq_self b
theorem ZOT (k:List X):JA [] k=none:=rfl
def ZeF (N it:Nat) (_:List (Nat×D)) (os:List Ob):Nat:=match os[it]? with|some (.sit _ p)=>N-p|_=>0
def ZeR (mid:Nat) (_:List (Nat×D)) (os:List Ob):Nat:=match os[mid]? with|some (.mit _ _ _ _ R _)=>R.length|_=>0
theorem osN (h:K φ os):Yi (YD S true φ os []) K:=⟨true,φ,os,rfl,rfl,h⟩
theorem osS (he:Ja S φ os o=some (ok,φ',os')) (hok:ok=true) (h:Yi (YD S true φ' os' l) K):Yi (YD S true φ os (o::l)) K:=by
 subst hok;simp only[YD,he,Bool.and_true];exact h
theorem dsN (h:K φ (last.getD (os0++C))):Yi (YQ S os0 k rs i true φ id os C last []) K:=⟨true,φ,_,rfl,rfl,h⟩
theorem dsF (hf:o.e.frame=true) (he:(KJ S φ [] o).map (fun r=>(r.1,putO φ o.dst r.2))=some (ok,φ')) (hok:ok=true) (h:Yi (YQ S os0 k rs (i+1) true φ' id os C last l) K):Yi (YQ S os0 k rs i true φ id os C last (o::l)) K:=by
 subst hok;obtain⟨r,h1,h2⟩:=Zh he;simp only[Ze]at h2;obtain⟨h2,rfl⟩:=h2;simp only[YQ,hf,if_true,h1,h2,Bool.and_true];exact h
theorem dsQ (hf:o.e.frame=false) (hm:YH i rs=false) (hk:Nat.ble (i+1) k=true) (he:(KJ S φ os0 o).map (fun r=>(r.1,putO φ o.dst r.2))=some (ok,φ')) (hok:ok=true) (h:Yi (YQ S os0 k rs (i+1) true φ' id os C last l) K):Yi (YQ S os0 k rs i true φ id os C last (o::l)) K:=by
 subst hok;obtain⟨r,h1,h2⟩:=Zh he;simp only[Ze]at h2;obtain⟨h2,rfl⟩:=h2;have hk':i<k:=ξ hk;simp only[YQ,hf,hm,if_true,h1,h2,hk',Bool.and_true,Bool.false_eq_true,if_false];exact h
theorem ZUd {S:Tabs} {φ:List (Nat×D)} {os0 os:List Ob} {id:Nat} {o:IOp} {r:Bool×D×Ob} (h:evK S φ os0 id o=some r):ZF5 φ os o=none:=by
 obtain⟨dst,e,g⟩:=o;cases g with
 |some p=>rfl
 |none=>
  cases e with
  |b2s x=>simp[evK,evC,ZAK,ZCT]at h
  |_=>rfl
theorem dsK (hf:o.e.frame=false) (hm:YH i rs=false) (hk:Nat.ble (i+1) k=true) (hn:KJ S φ os0 o=none) (he:(evK S φ os0 id o).map (fun r=>(r.1,putO φ o.dst r.2.1,r.2.2))=some (ok,φ',ob)) (hok:ok=true) (h:Yi (YQ S os0 k rs (i+1) true φ' (id+1) (os++ [ob]) (C++ [ob]) last l) K):Yi (YQ S os0 k rs i true φ id os C last (o::l)) K:=by
 subst hok;obtain⟨r,h1,h2⟩:=Zh he;simp only[Ze]at h2;obtain⟨h2,rfl,rfl⟩:=h2;have hk':i<k:=ξ hk;simp only[YQ,hf,hm,if_true,hn,ZUd h1,h1,h2,hk',Bool.and_true,Bool.false_eq_true,if_false];exact h
theorem dsA (hf:o.e.frame=false) (hm:YH i rs=false) (hk:Nat.ble (i+1) k=false) (he:(evA S φ os o).map (fun r=>(r.1&&(match rs with| []=>true|_=>KT os0 r.2.2),putO φ o.dst r.2.1,r.2.2))=some (ok,φ',os')) (hok:ok=true) (h:Yi (YQ S os0 k rs (i+1) true φ' id os' C (some os') l) K):Yi (YQ S os0 k rs i true φ id os C last (o::l)) K:=by
 subst hok;obtain⟨r,h1,h2⟩:=Zh he;simp only[Ze]at h2;obtain⟨h2,rfl,rfl⟩:=h2;have hk': ¬i<k:=fun h=>by have:=Nat.ble_eq_true_of_le h;rw[Nat.succ_eq_add_one,hk]at this;cases this
 simp only[YQ,hf,hm,h1,h2,hk',Bool.true_and,Bool.false_eq_true,if_false];exact h
end
section
variable {κ β:Type} (kc:κ→List X) (vc:β→List X)
def YU (L:List (κ×β)):List Pr:=L.map fun p=>(kc p.1,(vc p.2).map D.x)
theorem ZGR (L:List (κ×β)):(YU kc vc L).length=L.length:=by simp[YU]
theorem Zbt (L:List (κ×β)) (i:Nat):(YU kc vc L)[i]? =(L[i]?).map fun p=>(kc p.1,(vc p.2).map D.x):=by simp[YU]
theorem ZdY (f:Nat→Nat) (l:List X):Zy f (l.map D.x)=l.map D.x:=by
 rw[Jf,List.map_map];rfl
theorem Zet (p:Nat→Bool) (l:List X):YY p (l.map D.x)=true:=by
 rw[QX,List.all_eq_true];intro d hd;obtain⟨x,_,rfl⟩:=List.mem_map.1 hd;rfl
theorem Zd4 (l:List X):JC (l.map D.x)= []:=by
 induction l with
 |nil=>rfl
 |cons x l ih=>simp only[List.map_cons,JC,ZHR,ih];rfl
theorem ZfW (ρ:List Nat) (os:List Ob) (l:List X):(l.map D.x).map (Kn ρ os)=l.map D.x:=by
 rw[List.map_map];refine List.map_congr_left fun x _=> ?_
 simp only[Function.comp,Kn,D.vw,D.on,D.inP,if_true]
theorem KX (f:Nat→Nat) (L:List (κ×β)):(YU kc vc L).map (Yt f)=YU kc vc L:=by
 rw[YU,List.map_map];refine List.map_congr_left fun p _=> ?_
 simp only[Function.comp,Yt,ZdY]
theorem Qq (L:List (κ×β)):ZBv (YU kc vc L)= []:=by
 induction L with
 |nil=>rfl
 |cons p L ih=>simp only[YU,List.map_cons,ZBv,Zd4]at ih⊢;exact ih
theorem KM (p:Nat→Bool) (L:List (κ×β)):(YU kc vc L).all (Qj p)=true:=by
 rw[List.all_eq_true];intro q hq;obtain⟨r,_,rfl⟩:=List.mem_map.1 hq;exact Zet p _
theorem ZCB (ρ:List Nat) (os:List Ob) (L:List (κ×β)):(YU kc vc L).map (Qm (Kn ρ os))=YU kc vc L:=by
 rw[YU,List.map_map];refine List.map_congr_left fun p _=> ?_
 simp only[Function.comp,Qm,ZfW]
theorem ZGo (L:List (κ×β)) (i:Nat):(YU kc vc L).eraseIdx i=YU kc vc (L.eraseIdx i):=by
 induction L generalizing i with
 |nil=>rfl
 |cons p L ih=>cases i with
  |zero=>rfl
  |succ i=>simp only[YU,List.map_cons,List.eraseIdx_cons_succ]at ih⊢;rw[ih]
variable [DecidableEq κ] (hk: ∀a b:κ,ZBS (kc a) (kc b)=decide (a=b))
include hk
theorem ZD4 (L:List (κ×β)) (c:κ):JA (YU kc vc L) (kc c)=(ZS L c).map fun v=>(vc v).map D.x:=by
 induction L with
 |nil=>rfl
 |cons p L ih=>
  simp only[YU,List.map_cons,JA,hk]at ih⊢;by_cases h:c=p.1
  ·simp[ZS,h]
  ·simp only[h,decide_false,Bool.false_eq_true,if_false];rw[ih];simp[ZS,h]
theorem ZCP (L:List (κ×β)) (c:κ) (v:β):Ya (YU kc vc L) (kc c) ((vc v).map D.x)=YU kc vc (JB L c v):=by
 induction L with
 |nil=>rfl
 |cons p L ih=>
  simp only[YU,List.map_cons,Ya,hk,JB]at ih⊢;by_cases h:c=p.1
  ·simp[h]
  ·simp only[h,decide_false,Bool.false_eq_true,if_false];rw[ih];simp
end
def KY {κ β:Type} (c:RC κ) (d:RC β):List Pr→Option (List (κ×β))
 | []=>some []
 |q::M=>(c.dec q.1).bind fun a=>(ZBX q.2).bind fun xs=>(d.dec xs).bind fun b=>(KY c d M).map fun L=>(a,b)::L
theorem ZIn: ∀l:List X,ZBX (l.map D.x)=some l
 | []=>rfl
 |x::l=>by simp only[List.map_cons,ZBX,ZIn l,Option.map_some]
theorem ZS1 {κ β:Type} {c:RC κ} {d:RC β} (hc:c.Good) (hd:d.Good): ∀L:List (κ×β),KY c d (YU c.enc d.enc L)=some L
 | []=>rfl
 |p::L=>by
  have ih:=ZS1 hc hd L;simp only[YU,List.map_cons,KY,hc.de,hd.de,ZIn,Option.bind_some]at ih⊢;rw[ih];rfl
theorem Yl {κ β:Type} {c:RC κ} {d:RC β} (hc:c.Good) (hd:d.Good): ∀ {M:List Pr} {L:List (κ×β)},KY c d M=some L→M=YU c.enc d.enc L
 | [],L,h=>by cases h;rfl
 |q::M,L,h=>by
  simp only[KY]at h;obtain⟨a,h1,h⟩:=Zp h;obtain⟨xs,h2,h⟩:=Zp h;obtain⟨b,h3,h⟩:=Zp h;obtain⟨L',h4,rfl⟩:=Zh h;have e:=Yl hc hd h4;obtain⟨q1,q2⟩:=q;simp only at h1 h2;rw[e,ZFA h2];rw[←hc.ed _ _ h1,←hd.ed _ _ h3];rfl
abbrev Kg (n:Int):List X:= [.int .i64 n]
abbrev Jg (s:List UInt8):List X:= [.str s]
theorem hkS (a b:List UInt8):ZBS (Jg a) (Jg b)=decide (a=b):=by
 simp only[Jg,ZBS,X.keq,Bool.and_true];rw[Bool.eq_iff_iff];simp
section
variable {κ β:Type} [DecidableEq κ]
theorem ZGq {A:List (κ×β)} {c:κ} {w:β} (h:ZS A c=none):JB A c w=A++ [(c,w)]:=by
 induction A with
 |nil=>rfl
 |cons p A ih=>
  by_cases e:c=p.1
  ·simp[ZS,e]at h
  ·have hl:ZS (p::A) c=ZS A c:=by simp[ZS,e]
   rw[hl]at h;simp[JB,e,ih h]
end
open Go Go.RowKit Go.Bo
theorem zC:type_of% @Option.map_some.{0,0}∧type_of% @Option.bind_some.{0,0}∧type_of% @Bool.and_true∧type_of% @Bool.true_and∧type_of% @Bool.false_eq_true:=
 ⟨@Option.map_some.{0,0},@Option.bind_some.{0,0},@Bool.and_true,@Bool.true_and,@Bool.false_eq_true⟩
theorem zG:type_of% @Bool.not_true∧type_of% @Bool.not_false∧type_of% @Bool.or_true∧type_of% @Bool.true_or∧type_of% @Bool.or_false∧type_of% @Bool.false_or∧type_of% @Bool.and_false∧type_of% @Bool.false_and∧type_of% @beq_self_eq_true.{0}∧type_of% @ZUk∧type_of% @Bool.and_self∧type_of% @Bool.not_or_self∧type_of% @Bool.or_not_self∧type_of% @beq_true∧type_of% @beq_false∧type_of% @Bool.not_not:=
 ⟨@Bool.not_true,@Bool.not_false,@Bool.or_true,@Bool.true_or,@Bool.or_false,@Bool.false_or,@Bool.and_false,@Bool.false_and,@beq_self_eq_true.{0},@ZUk,@Bool.and_self,@Bool.not_or_self,@Bool.or_not_self,@beq_true,@beq_false,@Bool.not_not⟩
theorem zL:type_of% @List.getElem?_cons_zero.{0}∧type_of% @List.getElem?_cons_succ.{0}∧type_of% @List.drop_zero.{0}∧type_of% @List.take_zero.{0}∧type_of% @List.drop_succ_cons.{0}∧type_of% @List.take_succ_cons.{0}∧type_of% @List.drop_nil.{0}∧type_of% @List.take_nil.{0}∧type_of% @Jz.{0}∧type_of% @ξN.{0}∧type_of% @List.map_cons.{0,0}∧type_of% @List.map_nil.{0,0}∧type_of% @List.cons_append.{0}∧type_of% @List.nil_append.{0}∧type_of% @List.set_cons_zero.{0}∧type_of% @List.set_cons_succ.{0}∧type_of% @Nat.add_zero∧type_of% @Nat.zero_add∧type_of% @if_true.{1}∧type_of% @decide_true:=
 ⟨@List.getElem?_cons_zero.{0},@List.getElem?_cons_succ.{0},@List.drop_zero.{0},@List.take_zero.{0},@List.drop_succ_cons.{0},@List.take_succ_cons.{0},@List.drop_nil.{0},@List.take_nil.{0},@Jz.{0},@ξN.{0},@List.map_cons.{0,0},@List.map_nil.{0,0},@List.cons_append.{0},@List.nil_append.{0},@List.set_cons_zero.{0},@List.set_cons_succ.{0},@Nat.add_zero,@Nat.zero_add,@if_true.{1},@decide_true⟩
theorem zR:type_of% @YE∧type_of% @ZOZ∧type_of% @ZLf∧type_of% @ZMB∧type_of% @ZNm∧type_of% @ZNw∧type_of% @ZLu∧type_of% @ZPC∧type_of% @ZQ0∧type_of% @ZOP∧type_of% @ZOv∧type_of% @Int.toNat_natCast∧type_of% @Int.natCast_nonneg:=
 ⟨@YE,@ZOZ,@ZLf,@ZMB,@ZNm,@ZNw,@ZLu,@ZPC,@ZQ0,@ZOP,@ZOv,@Int.toNat_natCast,@Int.natCast_nonneg⟩
theorem zB:type_of% @Bool.or_eq_true∧type_of% @ZY∧type_of% @Bool.not_eq_true'∧type_of% @Bool.or_eq_false_iff∧type_of% @Bool.and_eq_false_iff∧type_of% @Bool.not_eq_false'∧type_of% @Zi∧type_of% @decide_eq_false_iff_not∧type_of% @Bool.not_eq_true∧type_of% @gt_iff_lt.{0}∧type_of% @ge_iff_le.{0}∧type_of% @Int.not_lt∧type_of% @Int.not_le∧type_of% @bne_iff_ne.{0}∧type_of% @ne_eq.{1}∧type_of% @beq_iff_eq.{0}∧type_of% @bne_eq_false_iff_eq.{0}∧type_of% @beq_eq_false_iff_ne.{0}:=
 ⟨@Bool.or_eq_true,@ZY,@Bool.not_eq_true',@Bool.or_eq_false_iff,@Bool.and_eq_false_iff,@Bool.not_eq_false',@Zi,@decide_eq_false_iff_not,@Bool.not_eq_true,@gt_iff_lt.{0},@ge_iff_le.{0},@Int.not_lt,@Int.not_le,@bne_iff_ne.{0},@ne_eq.{1},@beq_iff_eq.{0},@bne_eq_false_iff_eq.{0},@beq_eq_false_iff_ne.{0}⟩
theorem zF:type_of% @zL∧type_of% @zR∧type_of% @Option.map_some.{0,0}∧type_of% @Option.bind_some.{0,0}∧type_of% @Bool.and_true∧type_of% @Bool.true_and∧type_of% @Qn∧type_of% @Qk∧type_of% @Qy∧type_of% @Zr.{0}∧type_of% @List.take_length.{0}:=
 ⟨@zL,@zR,@Option.map_some.{0,0},@Option.bind_some.{0,0},@Bool.and_true,@Bool.true_and,@Qn,@Qk,@Qy,@Zr.{0},@List.take_length.{0}⟩
theorem zV:type_of% @List.map_cons.{0,0}∧type_of% @List.map_nil.{0,0}∧type_of% @List.getElem?_cons_zero.{0}∧type_of% @List.getElem?_cons_succ.{0}∧type_of% @List.set_cons_zero.{0}∧type_of% @List.set_cons_succ.{0}∧type_of% @List.getD_cons_zero.{0}∧type_of% @List.getD_cons_succ.{0}∧type_of% @Nat.add_zero∧type_of% @Nat.zero_add∧type_of% @Bool.or_true∧type_of% @Bool.true_or∧type_of% @Bool.or_false∧type_of% @Bool.false_or∧type_of% @Bool.and_true∧type_of% @Bool.true_and∧type_of% @Bool.and_false∧type_of% @Bool.false_and∧type_of% @if_true.{1}∧type_of% @if_false.{1}∧type_of% @YE∧type_of% @Qn∧type_of% @Qk∧type_of% @Qy∧type_of% @Zr.{0}∧type_of% @Jz.{0}∧type_of% @ξN.{0}∧type_of% @beq_self_eq_true.{0}∧type_of% @Bool.false_eq_true∧type_of% @List.drop_zero.{0}∧type_of% @Nat.beq_eq∧type_of% @ZKN∧type_of% @ZKG:=
 ⟨@List.map_cons.{0,0},@List.map_nil.{0,0},@List.getElem?_cons_zero.{0},@List.getElem?_cons_succ.{0},@List.set_cons_zero.{0},@List.set_cons_succ.{0},@List.getD_cons_zero.{0},@List.getD_cons_succ.{0},@Nat.add_zero,@Nat.zero_add,@Bool.or_true,@Bool.true_or,@Bool.or_false,@Bool.false_or,@Bool.and_true,@Bool.true_and,@Bool.and_false,@Bool.false_and,@if_true.{1},@if_false.{1},@YE,@Qn,@Qk,@Qy,@Zr.{0},@Jz.{0},@ξN.{0},@beq_self_eq_true.{0},@Bool.false_eq_true,@List.drop_zero.{0},@Nat.beq_eq,@ZKN,@ZKG⟩
theorem zW:type_of% @List.getD_cons_zero.{0}∧type_of% @List.getD_cons_succ.{0}∧type_of% @ZKN∧type_of% @ZKG∧type_of% @Nat.sub_self∧type_of% @List.append_nil.{0}∧type_of% @Nat.le_refl:=
 ⟨@List.getD_cons_zero.{0},@List.getD_cons_succ.{0},@ZKN,@ZKG,@Nat.sub_self,@List.append_nil.{0},@Nat.le_refl⟩
theorem zM:type_of% @zL∧type_of% @zG∧type_of% @zR∧type_of% @zC∧type_of% @decide_false∧type_of% @IntWalk.i64_in∧type_of% @ZER∧type_of% @ZGG∧type_of% @Qn∧type_of% @Qk∧type_of% @Qy∧type_of% @ZGi∧type_of% @ZGn∧type_of% @ZEm∧type_of% @ZDN∧type_of% @ZCX∧type_of% @Jh∧type_of% @YV∧type_of% @List.length_replicate.{0}∧type_of% @Option.map_none.{0,0}∧type_of% @Option.bind_none.{0,0}∧type_of% @Bool.cond_true_left∧type_of% @Bool.cond_false_right∧type_of% @List.reverse_cons.{0}∧type_of% @List.reverse_nil.{0}∧type_of% @List.mapM_cons.{0,0,0}∧type_of% @List.mapM_nil.{0,0,0}∧type_of% @Option.pure_def.{0}∧type_of% @Option.bind_eq_bind.{0}∧type_of% @true_and∧type_of% @and_true∧type_of% @if_false.{1}∧type_of% @bne_self_eq_false.{0}∧type_of% @List.all_cons.{0}∧type_of% @List.all_nil.{0}:=
 ⟨@zL,@zG,@zR,@zC,@decide_false,@IntWalk.i64_in,@ZER,@ZGG,@Qn,@Qk,@Qy,@ZGi,@ZGn,@ZEm,@ZDN,@ZCX,@Jh,@YV,@List.length_replicate.{0},@Option.map_none.{0,0},@Option.bind_none.{0,0},@Bool.cond_true_left,@Bool.cond_false_right,@List.reverse_cons.{0},@List.reverse_nil.{0},@List.mapM_cons.{0,0,0},@List.mapM_nil.{0,0,0},@Option.pure_def.{0},@Option.bind_eq_bind.{0},@true_and,@and_true,@if_false.{1},@bne_self_eq_false.{0},@List.all_cons.{0},@List.all_nil.{0}⟩
theorem zS:type_of% @zL∧type_of% @zG∧type_of% @zR∧type_of% @zC∧type_of% @Ob.beq_refl∧type_of% @List.reverse_cons.{0}∧type_of% @List.reverse_nil.{0}∧type_of% @Jh∧type_of% @YV∧type_of% @ZUm∧type_of% @ZGi∧type_of% @ZGn∧type_of% @ZEm∧type_of% @ZDN∧type_of% @ZCX∧type_of% @List.length_replicate.{0}∧type_of% @Qn∧type_of% @Qk∧type_of% @Qy∧type_of% @ZRb∧type_of% @ZQo∧type_of% @ZOI∧type_of% @ZMX∧type_of% @ZKE∧type_of% @Option.getD_none.{0}∧type_of% @Option.getD_some.{0}∧type_of% @ZER∧type_of% @ZGG∧type_of% @Option.bind_none.{0,0}∧type_of% @Option.map_none.{0,0}∧type_of% @Yi.some_iff∧type_of% @true_and∧type_of% @and_true∧type_of% @if_false.{1}∧type_of% @List.all_cons.{0}∧type_of% @List.all_nil.{0}∧type_of% @List.mapM_cons.{0,0,0}∧type_of% @List.mapM_nil.{0,0,0}∧type_of% @Option.pure_def.{0}∧type_of% @Option.bind_eq_bind.{0}∧type_of% @decide_false∧type_of% @Bool.cond_true_left∧type_of% @Bool.cond_false_right∧type_of% @Bool.not_eq_true'∧type_of% @ZOX∧type_of% @ZNH∧type_of% @ZOC∧type_of% @bne_self_eq_false.{0}∧type_of% @Bool.bne_false∧type_of% @Bool.bne_true:=
 ⟨@zL,@zG,@zR,@zC,@Ob.beq_refl,@List.reverse_cons.{0},@List.reverse_nil.{0},@Jh,@YV,@ZUm,@ZGi,@ZGn,@ZEm,@ZDN,@ZCX,@List.length_replicate.{0},@Qn,@Qk,@Qy,@ZRb,@ZQo,@ZOI,@ZMX,@ZKE,@Option.getD_none.{0},@Option.getD_some.{0},@ZER,@ZGG,@Option.bind_none.{0,0},@Option.map_none.{0,0},@Yi.some_iff,@true_and,@and_true,@if_false.{1},@List.all_cons.{0},@List.all_nil.{0},@List.mapM_cons.{0,0,0},@List.mapM_nil.{0,0,0},@Option.pure_def.{0},@Option.bind_eq_bind.{0},@decide_false,@Bool.cond_true_left,@Bool.cond_false_right,@Bool.not_eq_true',@ZOX,@ZNH,@ZOC,@bne_self_eq_false.{0},@Bool.bne_false,@Bool.bne_true⟩
theorem zO:type_of% @ZQ4∧type_of% @ZQY∧type_of% @ZRo∧type_of% @ZQV∧type_of% @ZQx∧type_of% @ZRQ∧type_of% @ZRB∧type_of% @ZOh∧type_of% @ZOj∧type_of% @ZOq∧type_of% @ZQf∧type_of% @ZeY∧type_of% @ZWg∧type_of% @ZWm∧type_of% @ZXV∧type_of% @ZRi∧type_of% @ZdG∧type_of% @Zd6∧type_of% @Zdi∧type_of% @ZOT∧type_of% @KX∧type_of% @Qq∧type_of% @KM∧type_of% @ZCB∧type_of% @ZGR∧type_of% @ZGo:=
 ⟨@ZQ4,@ZQY,@ZRo,@ZQV,@ZQx,@ZRQ,@ZRB,@ZOh,@ZOj,@ZOq,@ZQf,@ZeY,@ZWg,@ZWm,@ZXV,@ZRi,@ZdG,@Zd6,@Zdi,@ZOT,@KX,@Qq,@KM,@ZCB,@ZGR,@ZGo⟩
section
variable {P:Program} {c:Ctx} {E0:Env} {os0 os:List Ob} {n:Nat} {Q:Exit→List (Nat×D)→List Ob→Prop} {φ:List (Nat×D)}
theorem WI.regB {S:Tabs} (hS:SsOk P S) (ks:List Nat) {l:List IOp} (h:Yi (YD S true φ os l) (fun φ' os'=>Q .normal (Go.Ab.keep ks φ') os')):WI P c E0 os0 n (.reg l) Q φ os:=
 WI.regA hS ks (fun K hK=>by
  obtain⟨ok,φ',os',h1,h2,h3⟩:=h;exact⟨ok,φ',os',h1,h2,hK _ _ h3⟩)
theorem WI.dregB {S:Tabs} (hS:SsOk P S) (ks:List Nat) {k:Nat} {rs:List Nat} {l:List IOp} (h:Yi (YQ S os k rs 0 true φ os.length os [] none l) (fun φ' os'=>Q .normal (Go.Ab.keep ks φ') os')):WI P c E0 os0 n (.dreg k rs l) Q φ os:=
 WI.dregA hS ks (fun K hK=>by
  obtain⟨ok,φ',os',h1,h2,h3⟩:=h;exact⟨ok,φ',os',h1,h2,hK _ _ h3⟩)
theorem WI.post {ic:IC} (h:WI P c E0 os0 n ic (fun x φ os=> ∃φ2 os2,Wk c E0 os0 n φ os φ2 os2∧Q x φ2 os2) φ os):WI P c E0 os0 n ic Q φ os:=by
 intro code hc E a R hf;refine wp_mono (h code hc E a R hf) ?_;rintro x a' w' ⟨E',φ',os',rfl,R',hf',φ2,os2,hw,hq⟩;obtain⟨E2,e2,R2,f2⟩:=hw E' a' R' hf';exact⟨E2,φ2,os2,e2,R2,f2,hq⟩
theorem Wk.refl:Wk c E0 os0 n φ os φ os:=fun E a R hf=>⟨E,rfl,R,hf⟩
theorem Wk.trans {φ1 φ2:List (Nat×D)} {os1 os2:List Ob} (h:Wk c E0 os0 n φ os φ1 os1) (h':Wk c E0 os0 n φ1 os1 φ2 os2):Wk c E0 os0 n φ os φ2 os2:=fun E a R hf=>by
 obtain⟨E1,e1,R1,f1⟩:=h E a R hf;obtain⟨E2,e2,R2,f2⟩:=h' E1 a R1 f1;exact⟨E2,e2.trans e1,R2,f2⟩
theorem oP {S:Tabs} {ks:List Nat} {φ':List (Nat×D)} (h: ∃φ2 os2,Wk c E0 os0 n φ' os φ2 os2∧Q .normal φ2 os2) (hk:keep ks φ=φ':=by simp only[keep,Kr,Nat.reduceEqDiff,if_true,if_false,↓reduceIte,Bool.false_eq_true];rfl):Yi (YD S true φ os []) (fun φ' os'=> ∃φ2 os2,Wk c E0 os0 n (keep ks φ') os' φ2 os2∧Q .normal φ2 os2):=osN (by rw[hk];exact h)
theorem dP {S:Tabs} {ks rs:List Nat} {k i id:Nat} {C os1 os':List Ob} {last:Option (List Ob)} {φ':List (Nat×D)} (h: ∃φ2 os2,Wk c E0 os0 n φ' os' φ2 os2∧Q .normal φ2 os2) (hk:keep ks φ=φ':=by simp only[keep,Kr,Nat.reduceEqDiff,if_true,if_false,↓reduceIte,Bool.false_eq_true];rfl) (hl:last.getD (os1++C)=os':=by simp only[Option.getD_none,Option.getD_some,List.append_nil,List.cons_append,List.nil_append];rfl):Yi (YQ S os1 k rs i true φ id os C last []) (fun φ' os'=> ∃φ2 os2,Wk c E0 os0 n (keep ks φ') os' φ2 os2∧Q .normal φ2 os2):=dsN (by rw[hk,hl];exact h)
theorem JR (h:Q .normal φ os): ∃φ2 os2,Wk c E0 os0 n φ os φ2 os2∧Q .normal φ2 os2:=⟨φ,os,Wk.refl,h⟩
theorem Yo (ρ:List Nat) {φ':List (Nat×D)} {os':List Ob} (h: ∃φ2 os2,Wk c E0 os0 n φ' os' φ2 os2∧Q .normal φ2 os2) (hok:ZLd ρ os0.length os.length=true:=by rfl) (hp:QH ρ os φ=φ':=by simp (disch:=decide) only[zV,zO,Ob.mpb,frzL,QH,ZAO,Kn,Ob.onI,Qm,Yt,Option.map_some,Option.map_none,D.vw,vwL,D.on,D.inP,YY,YH,D.ren,Zy,Yb,YS,Ob.mp,Ob.ren,D.nn,ZA6,Nat.reduceBEq,Nat.reduceEqDiff,Nat.reduceAdd,↓reduceIte];rfl) (ho:ZAO ρ os=os':=by simp (disch:=decide) only[zV,zO,Ob.mpb,frzL,QH,ZAO,Kn,Ob.onI,Qm,Yt,Option.map_some,Option.map_none,D.vw,vwL,D.on,D.inP,YY,YH,D.ren,Zy,Yb,YS,Ob.mp,Ob.ren,D.nn,ZA6,Nat.reduceBEq,Nat.reduceEqDiff,Nat.reduceAdd,↓reduceIte];rfl): ∃φ2 os2,Wk c E0 os0 n φ os φ2 os2∧Q .normal φ2 os2:=by
 obtain⟨φ2,os2,h1,h2⟩:=h;subst hp ho;exact⟨φ2,os2,(Wk.pick ρ hok).trans h1,h2⟩
theorem ZQa (l:List Nat) {os':List Ob} (h: ∃φ2 os2,Wk c E0 os0 n φ os' φ2 os2∧Q .normal φ2 os2) (ho:frzL l os=os':=by simp only[frzL,List.getElem?_cons_zero,List.getElem?_cons_succ,List.set_cons_zero,List.set_cons_succ];rfl): ∃φ2 os2,Wk c E0 os0 n φ os φ2 os2∧Q .normal φ2 os2:=by
 obtain⟨φ2,os2,h1,h2⟩:=h;subst ho;exact⟨φ2,os2,(Wk.freeze l).trans h1,h2⟩
theorem WI.nnA {ic:IC} {φ':List (Nat×D)} {os':List Ob} (h:WI P c E0 os0 n ic Q φ' os') (hp:ZA6 φ=φ':=by simp only[zV,zO,Ob.mpb,frzL,QH,ZAO,Kn,Ob.onI,Qm,Yt,Option.map_some,Option.map_none,D.vw,vwL,D.on,D.inP,YY,YH,D.ren,Zy,Yb,YS,Ob.mp,Ob.ren,D.nn,ZA6,Nat.reduceBEq,Nat.reduceEqDiff,Nat.reduceAdd,↓reduceIte];rfl) (ho:os.map (Ob.mpb D.nn)=os':=by simp only[zV,zO,Ob.mpb,frzL,QH,ZAO,Kn,Ob.onI,Qm,Yt,Option.map_some,Option.map_none,D.vw,vwL,D.on,D.inP,YY,YH,D.ren,Zy,Yb,YS,Ob.mp,Ob.ren,D.nn,ZA6,Nat.reduceBEq,Nat.reduceEqDiff,Nat.reduceAdd,↓reduceIte];rfl):WI P c E0 os0 n ic Q φ os:=WI.nn (by rw[hp,ho];exact h)
theorem WI.pickA (ρ:List Nat) {ic:IC} {φ':List (Nat×D)} {os':List Ob} (h:WI P c E0 os0 n ic Q φ' os') (hok:ZLd ρ os0.length os.length=true:=by rfl) (hp:QH ρ os φ=φ':=by simp (disch:=decide) only[zV,zO,Ob.mpb,frzL,QH,ZAO,Kn,Ob.onI,Qm,Yt,Option.map_some,Option.map_none,D.vw,vwL,D.on,D.inP,YY,YH,D.ren,Zy,Yb,YS,Ob.mp,Ob.ren,D.nn,ZA6,Nat.reduceBEq,Nat.reduceEqDiff,Nat.reduceAdd,↓reduceIte];rfl) (ho:ZAO ρ os=os':=by simp (disch:=decide) only[zV,zO,Ob.mpb,frzL,QH,ZAO,Kn,Ob.onI,Qm,Yt,Option.map_some,Option.map_none,D.vw,vwL,D.on,D.inP,YY,YH,D.ren,Zy,Yb,YS,Ob.mp,Ob.ren,D.nn,ZA6,Nat.reduceBEq,Nat.reduceEqDiff,Nat.reduceAdd,↓reduceIte];rfl):WI P c E0 os0 n ic Q φ os:=WI.pick ρ hok (by rw[hp,ho];exact h)
theorem WI.freezeA (l:List Nat) {ic:IC} {os':List Ob} (h:WI P c E0 os0 n ic Q φ os') (ho:frzL l os=os':=by simp only[frzL,List.getElem?_cons_zero,List.getElem?_cons_succ,List.set_cons_zero,List.set_cons_succ];rfl):WI P c E0 os0 n ic Q φ os:=WI.freeze l (by rw[ho];exact h)
theorem WI.ownA (t e sz:Nat) {ic:IC} {φ':List (Nat×D)} {os':List Ob} (h:WI P c E0 os0 n ic Q φ' os') (ht:get φ t= .x .nils:=by rfl) (hp:put φ t (.ref os.length 0 0 0)=φ':=by simp only[put,Nat.reduceEqDiff,↓reduceIte,ξN,Jz,Nat.reduceAdd];rfl) (ho:os++ [.rows false e sz []]=os':=by simp only[List.nil_append,List.cons_append];rfl):WI P c E0 os0 n ic Q φ os:=WI.own t e sz ht (by rw[hp,ho];exact h)
theorem WI.nextSA {t t2 it m:Nat} {x:IO} {s:List UInt8} {pos:Nat} (ks:List Nat) {φ1 φ2:List (Nat×D)} {os2:List Ob} (hend: ¬pos<s.length→Q .normal φ1 os) (hgo:pos<s.length→Q .normal φ2 os2) (hx:(ZF φ x).val= .iref m it:=by rfl) (hcd:(ZF φ x).cond=true:=by rfl) (ho:os[it]? =some (.sit s pos):=by rfl)
  (h1:Go.Ab.keep ks (Go.Ab.put (Go.Ab.put φ t (.tup [.x (.bool false)])) t2 (.x (.bool false)))=φ1:=by simp only[put,keep,Kr,Nat.reduceEqDiff,if_true,if_false,↓reduceIte,Bool.false_eq_true];rfl) (h2:Go.Ab.keep ks (Go.Ab.put (Go.Ab.put φ t (.tup [.x (.bool true),.x (.int .i64 pos),.x (.int .i32 (Jt s pos).1)])) t2 (.x (.bool true)))=φ2:=by simp only[put,keep,Kr,Nat.reduceEqDiff,if_true,if_false,↓reduceIte,Bool.false_eq_true];rfl)
  (h3:os.set it (.sit s (pos+(Jt s pos).2))=os2:=by simp only[List.set_cons_zero,List.set_cons_succ];rfl):WI P c E0 os0 n (.reg [⟨some t,.nxt true x,none⟩,⟨some t2,.ext (.t t) 0,none⟩]) Q φ os:=WI.nextS ks hx hcd ho (by rw[h1];exact hend) (by rw[h2,h3];exact hgo)
theorem WI.nextMA {t t2 it mid:Nat} {x:IO} {dk:KK} {ag:Bool} {l R0:List Pr} {cur:Option Pr} (ks:List Nat) {φ1 φ2:List (Nat×D)} {os2:Nat→Pr→List Ob} (hend:R0= []→Q .normal φ1 os) (hgo: ∀(i:Nat) (q:Pr),R0[i]? =some q→Q .normal φ2 (os2 i q)) (hx:(ZF φ x).val= .iref mid it:=by rfl) (hcd:(ZF φ x).cond=true:=by rfl) (ho:os[mid]? =some (.mit dk ag l it R0 cur):=by rfl)
  (h1:Go.Ab.keep ks (Go.Ab.put (Go.Ab.put φ t (.tup [.x (.bool false)])) t2 (.x (.bool false)))=φ1:=by simp only[put,keep,Kr,Nat.reduceEqDiff,if_true,if_false,↓reduceIte,Bool.false_eq_true];rfl) (h2:Go.Ab.keep ks (Go.Ab.put (Go.Ab.put φ t .und) t2 (.x (.bool true)))=φ2:=by simp only[put,keep,Kr,Nat.reduceEqDiff,if_true,if_false,↓reduceIte,Bool.false_eq_true];rfl)
  (h3: ∀i q,os.set mid (.mit dk ag l it (R0.eraseIdx i) (some q))=os2 i q:=by intro i q;simp only[List.set_cons_zero,List.set_cons_succ];rfl):WI P c E0 os0 n (.reg [⟨some t,.nxt false x,none⟩,⟨some t2,.ext (.t t) 0,none⟩]) Q φ os:=WI.nextM ks hx hcd ho (by rw[h1];exact hend) (by rw[h2];intro i q h;rw[h3];exact hgo i q h)
theorem WI.orderA (ts:List Nat) {ic:IC} {φ':List (Nat×D)} (h:WI P c E0 os0 n ic Q φ' os) (hp:ts.map (fun u=>(u,get φ u))=φ':=by simp only[List.map_cons,List.map_nil,Ab.get,Nat.reduceEqDiff,↓reduceIte,if_true,if_false];rfl):WI P c E0 os0 n ic Q φ os:=WI.order ts (by rw[hp];exact h)
end
section
variable {S:Tabs} {os0 os C:List Ob} {k i id:Nat} {rs:List Nat} {φ φ':List (Nat×D)} {os':List Ob} {last:Option (List Ob)} {o:IOp} {l:List IOp} {ok:Bool} {d:D} {ob:Ob} {K:List (Nat×D)→List Ob→Prop} {Q:Exit→List (Nat×D)→List Ob→Prop} {ks:List Nat}
theorem oN (h:Q .normal φ' os) (hk:keep ks φ=φ':=by simp only[keep,Kr,Nat.reduceEqDiff,if_true,if_false,↓reduceIte,Bool.false_eq_true];rfl):Yi (YD S true φ os []) (fun φ' os'=>Q .normal (keep ks φ') os'):=osN (by rw[hk];exact h)
theorem dN (h:Q .normal φ' os') (hk:keep ks φ=φ':=by simp only[keep,Kr,Nat.reduceEqDiff,if_true,if_false,↓reduceIte,Bool.false_eq_true];rfl) (hl:last.getD (os0++C)=os':=by simp only[Option.getD_none,Option.getD_some,List.append_nil,List.cons_append,List.nil_append];rfl):Yi (YQ S os0 k rs i true φ id os C last []) (fun φ' os'=>Q .normal (keep ks φ') os'):=dsN (by rw[hk,hl];exact h)
theorem oS (h:Yi (YD S true φ' os' l) K) (he:Ja S φ os o=some (ok,φ',os'):=by simp only[zC,Ja,ZX,ZF,Ab.get,Ab.put,putO,Nat.reduceEqDiff,↓reduceIte,D.val,D.cond,reduceCtorEq,Nat.reduceAdd,Nat.add_zero,Nat.zero_add];rfl) (hok:ok=true:=by rfl):Yi (YD S true φ os (o::l)) K:=osS he hok h
theorem oG (h:Yi (YD S true φ' os' l) K) (he:Ja S φ os o=some (ok,φ',os'):=by simp (disch:=omega) only[uu,zM,Ja,ZX,ZF,Ab.get,Ab.put,putO,Nat.reduceEqDiff,↓reduceIte,D.val,D.cond,reduceCtorEq,YF,ZCc,Ob.isDrw,Ju,ZBl,ZAd,ZDn,apm,ZAJ,IE.isCall,D.cells?,Nat.reduceAdd,Nat.reduceLeDiff,Ob.slice?,Ob.dsl?,Ob.drw?,Nat.reduceSub,Nat.reduceMul,Int.reduceToNat,Int.reduceLE,Int.reduceLT,Int.reduceAdd,Int.reduceSub,Int.reduceMul,Int.reduceNeg,Int.reduceEq,Zv,ZEX,Ku,ZE,Jo,Yn,Yv,Jq,ZAG,ZBA,ZBT,Kf,eqR,eqD,ZCI,eqX,nzD,ZC0,unD,ZCy,evK,evC,ZAK,Qw,Nat.reduceLT,zO];rfl) (hok:ok=true:=by first|with_reducible rfl|omega|(simp;done)|(simp;omega)|rfl|(clear uu;grind)|(clear h;clear uu;grind)):Yi (YD S true φ os (o::l)) K:=osS he hok h
theorem oC (h:Yi (YD S true φ' os' l) K) (he:Ja S φ os o=some (ok,φ',os'):=by simp (disch:=omega) only[uu,zS,zW,zO,ZKJ,ZHo,D.nn,D.na,Za,JT,IE.isCall,Nat.reduceAdd,Nat.reduceSub,Nat.reduceMul,Nat.reduceLeDiff,Nat.reduceLT,Nat.reduceBEq,Int.reduceToNat,Int.reduceLE,Int.reduceLT,Int.reduceAdd,Int.reduceSub,Int.reduceMul,Int.reduceNeg,Int.reduceEq,Nat.reduceEqDiff,YD,YQ,Ja,ZX,YF,ZCc,Ob.isDrw,Ju,ZBl,ZAd,ZDn,apm,ZF,Ab.get,Ab.put,putO,keep,Kr,D.val,D.cond,D.cells?,D.scalar,X.scalar,D.plain,D.isX,ZC0,ZBu,eqD,ZCI,eqX,unD,ZE,ZCy,Ku,Zv,QP,Yu,Yv,Yn,Jo,Jq,ZAG,ZBA,Ob.slice?,↓reduceIte,reduceCtorEq,KJ,evK,evC,ZAK,Qw,evA,QJ,KT,eqR,nzD,ZAJ,ZEE,ZDr,ZEK,ZBk,ZAj,ZBT,ZW,IE.frame,YH,Kf,IntWalk.i64_in,YW,JL,ZHR,JC,ZJG,ZBv,Qj,Yt,Qc,Qb,YY,D.inP,Ob.inP,Zy,D.ren,Yb,YS,Ob.ren,KI,Kp,KS,newT,Kt];rfl) (hok:ok=true:=by first|with_reducible rfl|omega|(simp;done)|(simp;omega)|rfl|(clear uu;grind)|(clear h;clear uu;grind)):Yi (YD S true φ os (o::l)) K:=osS he hok h
theorem Zo (h:Yi (YQ S os0 k rs (i+1) true φ' id os C last l) K) (hf:o.e.frame=true:=by rfl) (he:(KJ S φ [] o).map (fun r=>(r.1,putO φ o.dst r.2))=some (ok,φ'):=by simp only[zC,KJ,evA,QJ,KT,Ob.beq_refl,Ja,ZX,ZF,Ab.get,Ab.put,putO,Nat.reduceEqDiff,↓reduceIte,D.val,D.cond,reduceCtorEq,Nat.reduceAdd,Nat.add_zero,Nat.zero_add];rfl) (hok:ok=true:=by rfl):Yi (YQ S os0 k rs i true φ id os C last (o::l)) K:=dsF hf he hok h
theorem Ym (h:Yi (YQ S os0 k rs (i+1) true φ' id os C last l) K) (hf:o.e.frame=true:=by rfl) (he:(KJ S φ [] o).map (fun r=>(r.1,putO φ o.dst r.2))=some (ok,φ'):=by simp (disch:=omega) only[uu,zM,KJ,evA,QJ,KT,Ob.beq_refl,Ja,ZX,ZF,Ab.get,Ab.put,putO,Nat.reduceEqDiff,↓reduceIte,D.val,D.cond,reduceCtorEq,YF,ZCc,Ob.isDrw,Ju,ZBl,ZAd,ZDn,apm,ZAJ,IE.isCall,D.cells?,Nat.reduceAdd,Nat.reduceLeDiff,Ob.slice?,Ob.dsl?,Ob.drw?,Nat.reduceSub,Nat.reduceMul,Int.reduceToNat,Int.reduceLE,Int.reduceLT,Int.reduceAdd,Int.reduceSub,Int.reduceMul,Int.reduceNeg,Int.reduceEq,Zv,ZEX,Ku,ZE,Jo,Yn,Yv,Jq,ZAG,ZBA,ZBT,Kf,eqR,eqD,ZCI,eqX,nzD,ZC0,unD,ZCy,evK,evC,ZAK,Qw,Nat.reduceLT,zO];rfl) (hok:ok=true:=by first|with_reducible rfl|omega|(simp;done)|(simp;omega)|rfl|(clear uu;grind)|(clear h;clear uu;grind)):Yi (YQ S os0 k rs i true φ id os C last (o::l)) K:=dsF hf he hok h
theorem YK (h:Yi (YQ S os0 k rs (i+1) true φ' id os C last l) K) (hf:o.e.frame=false:=by rfl) (hm:YH i rs=false:=by rfl) (hk:Nat.ble (i+1) k=true:=by rfl) (he:(KJ S φ os0 o).map (fun r=>(r.1,putO φ o.dst r.2))=some (ok,φ'):=by simp (disch:=omega) only[uu,zM,KJ,evA,QJ,KT,Ob.beq_refl,Ja,ZX,ZF,Ab.get,Ab.put,putO,Nat.reduceEqDiff,↓reduceIte,D.val,D.cond,reduceCtorEq,YF,ZCc,Ob.isDrw,Ju,ZBl,ZAd,ZDn,apm,ZAJ,IE.isCall,D.cells?,Nat.reduceAdd,Nat.reduceLeDiff,Ob.slice?,Ob.dsl?,Ob.drw?,Nat.reduceSub,Nat.reduceMul,Int.reduceToNat,Int.reduceLE,Int.reduceLT,Int.reduceAdd,Int.reduceSub,Int.reduceMul,Int.reduceNeg,Int.reduceEq,Zv,ZEX,Ku,ZE,Jo,Yn,Yv,Jq,ZAG,ZBA,ZBT,Kf,eqR,eqD,ZCI,eqX,nzD,ZC0,unD,ZCy,evK,evC,ZAK,Qw,Nat.reduceLT,zO];rfl) (hok:ok=true:=by first|with_reducible rfl|omega|(simp;done)|(simp;omega)|rfl|(clear uu;grind)|(clear h;clear uu;grind)):Yi (YQ S os0 k rs i true φ id os C last (o::l)) K:=dsQ hf hm hk he hok h
theorem dKG (h:Yi (YQ S os0 k rs (i+1) true φ' (id+1) (os++ [ob]) (C++ [ob]) last l) K) (hf:o.e.frame=false:=by rfl) (hm:YH i rs=false:=by rfl) (hk:Nat.ble (i+1) k=true:=by rfl) (hn:KJ S φ os0 o=none:=by simp (disch:=omega) only[uu,zS,zW,zO,ZKJ,ZHo,D.nn,D.na,Za,JT,IE.isCall,Nat.reduceAdd,Nat.reduceSub,Nat.reduceMul,Nat.reduceLeDiff,Nat.reduceLT,Nat.reduceBEq,Int.reduceToNat,Int.reduceLE,Int.reduceLT,Int.reduceAdd,Int.reduceSub,Int.reduceMul,Int.reduceNeg,Int.reduceEq,Nat.reduceEqDiff,YD,YQ,Ja,ZX,YF,ZCc,Ob.isDrw,Ju,ZBl,ZAd,ZDn,apm,ZF,Ab.get,Ab.put,putO,keep,Kr,D.val,D.cond,D.cells?,D.scalar,X.scalar,D.plain,D.isX,ZC0,ZBu,eqD,ZCI,eqX,unD,ZE,ZCy,Ku,Zv,QP,Yu,Yv,Yn,Jo,Jq,ZAG,ZBA,Ob.slice?,↓reduceIte,reduceCtorEq,KJ,evK,evC,ZAK,Qw,evA,QJ,KT,eqR,nzD,ZAJ,ZEE,ZDr,ZEK,ZBk,ZAj,ZBT,ZW,IE.frame,YH,Kf,IntWalk.i64_in,YW,JL,ZHR,JC,ZJG,ZBv,Qj,Yt,Qc,Qb,YY,D.inP,Ob.inP,Zy,D.ren,Yb,YS,Ob.ren,KI,Kp,KS,newT,Kt]) (he:(evK S φ os0 id o).map (fun r=>(r.1,putO φ o.dst r.2.1,r.2.2))=some (ok,φ',ob):=by simp (disch:=omega) only[uu,zS,zW,zO,ZKJ,ZHo,D.nn,D.na,Za,JT,IE.isCall,Nat.reduceAdd,Nat.reduceSub,Nat.reduceMul,Nat.reduceLeDiff,Nat.reduceLT,Nat.reduceBEq,Int.reduceToNat,Int.reduceLE,Int.reduceLT,Int.reduceAdd,Int.reduceSub,Int.reduceMul,Int.reduceNeg,Int.reduceEq,Nat.reduceEqDiff,YD,YQ,Ja,ZX,YF,ZCc,Ob.isDrw,Ju,ZBl,ZAd,ZDn,apm,ZF,Ab.get,Ab.put,putO,keep,Kr,D.val,D.cond,D.cells?,D.scalar,X.scalar,D.plain,D.isX,ZC0,ZBu,eqD,ZCI,eqX,unD,ZE,ZCy,Ku,Zv,QP,Yu,Yv,Yn,Jo,Jq,ZAG,ZBA,Ob.slice?,↓reduceIte,reduceCtorEq,KJ,evK,evC,ZAK,Qw,evA,QJ,KT,eqR,nzD,ZAJ,ZEE,ZDr,ZEK,ZBk,ZAj,ZBT,ZW,IE.frame,YH,Kf,IntWalk.i64_in,YW,JL,ZHR,JC,ZJG,ZBv,Qj,Yt,Qc,Qb,YY,D.inP,Ob.inP,Zy,D.ren,Yb,YS,Ob.ren,KI,Kp,KS,newT,Kt];rfl) (hok:ok=true:=by first|with_reducible rfl|omega|(simp;done)|(simp;omega)|rfl|(clear uu;grind)|(clear h;clear uu;grind)):Yi (YQ S os0 k rs i true φ id os C last (o::l)) K:=dsK hf hm hk hn he hok h
theorem dAG (h:Yi (YQ S os0 k rs (i+1) true φ' id os' C (some os') l) K) (hf:o.e.frame=false:=by rfl) (hm:YH i rs=false:=by rfl) (hk:Nat.ble (i+1) k=false:=by rfl) (he:(evA S φ os o).map (fun r=>(r.1&&(match rs with| []=>true|_=>KT os0 r.2.2),putO φ o.dst r.2.1,r.2.2))=some (ok,φ',os'):=by simp (disch:=omega) only[uu,zM,KJ,evA,QJ,KT,Ob.beq_refl,Ja,ZX,ZF,Ab.get,Ab.put,putO,Nat.reduceEqDiff,↓reduceIte,D.val,D.cond,reduceCtorEq,YF,ZCc,Ob.isDrw,Ju,ZBl,ZAd,ZDn,apm,ZAJ,IE.isCall,D.cells?,Nat.reduceAdd,Nat.reduceLeDiff,Ob.slice?,Ob.dsl?,Ob.drw?,Nat.reduceSub,Nat.reduceMul,Int.reduceToNat,Int.reduceLE,Int.reduceLT,Int.reduceAdd,Int.reduceSub,Int.reduceMul,Int.reduceNeg,Int.reduceEq,Zv,ZEX,Ku,ZE,Jo,Yn,Yv,Jq,ZAG,ZBA,ZBT,Kf,eqR,eqD,ZCI,eqX,nzD,ZC0,unD,ZCy,evK,evC,ZAK,Qw,Nat.reduceLT,zO];rfl) (hok:ok=true:=by first|with_reducible rfl|omega|(simp;done)|(simp;omega)|rfl|(clear uu;grind)|(clear h;clear uu;grind)):Yi (YQ S os0 k rs i true φ id os C last (o::l)) K:=dsA hf hm hk he hok h
theorem QV (h:Yi (YQ S os0 k rs (i+1) true φ' id os C last l) K) (hf:o.e.frame=false:=by rfl) (hm:YH i rs=false:=by rfl) (hk:Nat.ble (i+1) k=true:=by rfl) (he:(KJ S φ os0 o).map (fun r=>(r.1,putO φ o.dst r.2))=some (ok,φ'):=by simp (disch:=omega) only[uu,zS,zW,zO,ZKJ,ZHo,D.nn,D.na,Za,JT,IE.isCall,Nat.reduceAdd,Nat.reduceSub,Nat.reduceMul,Nat.reduceLeDiff,Nat.reduceLT,Nat.reduceBEq,Int.reduceToNat,Int.reduceLE,Int.reduceLT,Int.reduceAdd,Int.reduceSub,Int.reduceMul,Int.reduceNeg,Int.reduceEq,Nat.reduceEqDiff,YD,YQ,Ja,ZX,YF,ZCc,Ob.isDrw,Ju,ZBl,ZAd,ZDn,apm,ZF,Ab.get,Ab.put,putO,keep,Kr,D.val,D.cond,D.cells?,D.scalar,X.scalar,D.plain,D.isX,ZC0,ZBu,eqD,ZCI,eqX,unD,ZE,ZCy,Ku,Zv,QP,Yu,Yv,Yn,Jo,Jq,ZAG,ZBA,Ob.slice?,↓reduceIte,reduceCtorEq,KJ,evK,evC,ZAK,Qw,evA,QJ,KT,eqR,nzD,ZAJ,ZEE,ZDr,ZEK,ZBk,ZAj,ZBT,ZW,IE.frame,YH,Kf,IntWalk.i64_in,YW,JL,ZHR,JC,ZJG,ZBv,Qj,Yt,Qc,Qb,YY,D.inP,Ob.inP,Zy,D.ren,Yb,YS,Ob.ren,KI,Kp,KS,newT,Kt];rfl) (hok:ok=true:=by first|with_reducible rfl|omega|(simp;done)|(simp;omega)|rfl|(clear uu;grind)|(clear h;clear uu;grind)):Yi (YQ S os0 k rs i true φ id os C last (o::l)) K:=dsQ hf hm hk he hok h
theorem dAC (h:Yi (YQ S os0 k rs (i+1) true φ' id os' C (some os') l) K) (hf:o.e.frame=false:=by rfl) (hm:YH i rs=false:=by rfl) (hk:Nat.ble (i+1) k=false:=by rfl) (he:(evA S φ os o).map (fun r=>(r.1&&(match rs with| []=>true|_=>KT os0 r.2.2),putO φ o.dst r.2.1,r.2.2))=some (ok,φ',os'):=by simp (disch:=omega) only[uu,zS,zW,zO,ZKJ,ZHo,D.nn,D.na,Za,JT,IE.isCall,Nat.reduceAdd,Nat.reduceSub,Nat.reduceMul,Nat.reduceLeDiff,Nat.reduceLT,Nat.reduceBEq,Int.reduceToNat,Int.reduceLE,Int.reduceLT,Int.reduceAdd,Int.reduceSub,Int.reduceMul,Int.reduceNeg,Int.reduceEq,Nat.reduceEqDiff,YD,YQ,Ja,ZX,YF,ZCc,Ob.isDrw,Ju,ZBl,ZAd,ZDn,apm,ZF,Ab.get,Ab.put,putO,keep,Kr,D.val,D.cond,D.cells?,D.scalar,X.scalar,D.plain,D.isX,ZC0,ZBu,eqD,ZCI,eqX,unD,ZE,ZCy,Ku,Zv,QP,Yu,Yv,Yn,Jo,Jq,ZAG,ZBA,Ob.slice?,↓reduceIte,reduceCtorEq,KJ,evK,evC,ZAK,Qw,evA,QJ,KT,eqR,nzD,ZAJ,ZEE,ZDr,ZEK,ZBk,ZAj,ZBT,ZW,IE.frame,YH,Kf,IntWalk.i64_in,YW,JL,ZHR,JC,ZJG,ZBv,Qj,Yt,Qc,Qb,YY,D.inP,Ob.inP,Zy,D.ren,Yb,YS,Ob.ren,KI,Kp,KS,newT,Kt];rfl) (hok:ok=true:=by first|with_reducible rfl|omega|(simp;done)|(simp;omega)|rfl|(clear uu;grind)|(clear h;clear uu;grind)):Yi (YQ S os0 k rs i true φ id os C last (o::l)) K:=dsA hf hm hk he hok h
end
theorem lfN {fz:Bool} {T:Tab} {φ:List (Nat×D)} {os os2:List Ob} {rs:List IRes} {ds:List D} {r R:D} (h:r=R) (he:QA fz T φ os rs=some (true,ds,os2):=by simp (disch:=omega) only[uu,zF,keep,Kr,Bool.false_eq_true,if_false,QA,ZHP,ZGZ,ZCi,Yv,Yn,ZX,ZF,Ab.get,Nat.reduceEqDiff,↓reduceIte,D.val,D.cond,Nat.reduceAdd,Nat.reduceLeDiff,Ob.slice?,Ob.dsl?,Ob.drw?,Option.bind_none];rfl) (hr:mkR ds=r:=by simp only[mkR];rfl):((Exit.normal:Exit)= .normal∨(Exit.normal:Exit)= .ret)∧ ∃ds os2,QA fz T φ os rs=some (true,ds,os2)∧mkR ds=R:=⟨.inl rfl,ds,os2,he,by rw[hr];exact h⟩
theorem Zff {fz:Bool} {T:Tab} {φ:List (Nat×D)} {os os2 OS:List Ob} {rs:List IRes} {ds:List D} {r R:D} (h:r=R∧os2=OS) (he:QA fz T φ os rs=some (true,ds,os2):=by simp (disch:=omega) only[uu,zF,keep,Kr,Bool.false_eq_true,if_false,QA,ZHP,ZGZ,ZCi,Yv,Yn,ZX,ZF,Ab.get,Nat.reduceEqDiff,↓reduceIte,D.val,D.cond,Nat.reduceAdd,Nat.reduceLeDiff,Ob.slice?,Ob.dsl?,Ob.drw?,Option.bind_none];rfl) (hr:mkR ds=r:=by simp only[mkR];rfl):((Exit.normal:Exit)= .normal∨(Exit.normal:Exit)= .ret)∧ ∃ds os2,QA fz T φ os rs=some (true,ds,os2)∧mkR ds=R∧os2=OS:=⟨.inl rfl,ds,os2,he,by rw[hr];exact h⟩
theorem lfR {fz:Bool} {T:Tab} {φ:List (Nat×D)} {os os2:List Ob} {rs:List IRes} {ds:List D} {r R:D} (h:r=R) (he:QA fz T φ os rs=some (true,ds,os2):=by simp (disch:=omega) only[uu,zF,keep,Kr,Bool.false_eq_true,if_false,QA,ZHP,ZGZ,ZCi,Yv,Yn,ZX,ZF,Ab.get,Nat.reduceEqDiff,↓reduceIte,D.val,D.cond,Nat.reduceAdd,Nat.reduceLeDiff,Ob.slice?,Ob.dsl?,Ob.drw?,Option.bind_none];rfl) (hr:mkR ds=r:=by simp only[mkR];rfl):((Exit.ret:Exit)= .normal∨(Exit.ret:Exit)= .ret)∧ ∃ds os2,QA fz T φ os rs=some (true,ds,os2)∧mkR ds=R:=⟨.inr rfl,ds,os2,he,by rw[hr];exact h⟩
theorem ZE4 {fz:Bool} {T:Tab} {φ:List (Nat×D)} {os os2 OS:List Ob} {rs:List IRes} {ds:List D} {r R:D} (h:r=R∧os2=OS) (he:QA fz T φ os rs=some (true,ds,os2):=by simp (disch:=omega) only[uu,zF,keep,Kr,Bool.false_eq_true,if_false,QA,ZHP,ZGZ,ZCi,Yv,Yn,ZX,ZF,Ab.get,Nat.reduceEqDiff,↓reduceIte,D.val,D.cond,Nat.reduceAdd,Nat.reduceLeDiff,Ob.slice?,Ob.dsl?,Ob.drw?,Option.bind_none];rfl) (hr:mkR ds=r:=by simp only[mkR];rfl):((Exit.ret:Exit)= .normal∨(Exit.ret:Exit)= .ret)∧ ∃ds os2,QA fz T φ os rs=some (true,ds,os2)∧mkR ds=R∧os2=OS:=⟨.inr rfl,ds,os2,he,by rw[hr];exact h⟩
theorem ZD1 {fz:Bool} {T:Tab} {φ:List (Nat×D)} {os os2 OS:List Ob} {rs:List IRes} {ds:List D} {r R:D} (h:r=R∧ ∃Y,os2=OS++Y) (he:QA fz T φ os rs=some (true,ds,os2):=by simp (disch:=omega) only[uu,zF,keep,Kr,Bool.false_eq_true,if_false,QA,ZHP,ZGZ,ZCi,Yv,Yn,ZX,ZF,Ab.get,Nat.reduceEqDiff,↓reduceIte,D.val,D.cond,Nat.reduceAdd,Nat.reduceLeDiff,Ob.slice?,Ob.dsl?,Ob.drw?,Option.bind_none];rfl) (hr:mkR ds=r:=by simp only[mkR];rfl):((Exit.ret:Exit)= .normal∨(Exit.ret:Exit)= .ret)∧ ∃ds os2,QA fz T φ os rs=some (true,ds,os2)∧mkR ds=R∧ ∃Y,os2=OS++Y:=⟨.inr rfl,ds,os2,he,by rw[hr];exact h⟩
variable {P:Program}
def KN (g:List D→Option (Bool×D)) (args:List D) (os:List Ob):Option (Bool×D×List Ob):=
 (Yn os args).bind fun p=>(g (p.1.map .x)).map fun r=>(r.1,r.2,p.2)
theorem ZAq {f:FuncId} {g:List D→Option (Bool×D)} (h: ∀args r,g args=some (true,r)→ZD P f args r): ∀args os r os',KN g args os=some (true,r,os')→ZV P f args os r os':=by
 intro args os r os' hh;obtain⟨p,hp,hh⟩:=Zp hh;obtain⟨⟨q1,q2⟩,hq,e⟩:=Zh hh;simp only[Ze]at e;obtain⟨rfl,rfl,rfl⟩:=e;have hc:=h _ _ hq;intro c E vs R hvl;obtain⟨hlen,hv0⟩:=hvl;obtain⟨st',R1,ev1,hl1,hv1⟩:=ZAz (vs:=vs.toList) R (fun j d v hd hv=>hv0 j d v hd (by simpa using hv)) (by simpa using hlen) hp;have hvl':VL ⟨E.w,st',[]⟩ [] (p.1.map D.x) vs:=by
  refine⟨by simpa using hl1,fun j d v hd hv=> ?_⟩;rw[YA]at hd;obtain⟨y,hy,rfl⟩:=Zh hd;exact .x (hv1 j y v hy (by simpa using hv))
 refine(hc E.w st' vs (fun b o hb=>(R1.stm b o hb).1) hvl').mono ?_;rintro e w' ⟨v,st2,rfl,hk,hs1,hs2,hv⟩;obtain⟨R2,ev2⟩:=R1.world w' st2 hk hs1 hs2;refine⟨v,_,rfl,rfl,R2,ev1.trans ev2,hv.mono (E:=⟨w',st2,[]⟩) (os:= []) ?_⟩;exact⟨fun _ _ h=>⟨h,rfl⟩,fun _ _ _ _ _ h=>by simp at h,fun _ _ _ _ h=>by simp at h⟩
section
variable {c:Ctx} {E0:Env} {os0:List Ob} {n:Nat}
def ZKe (P:Program) (c:Ctx) (E0:Env) (os0:List Ob) (n:Nat) (b:IC) (Q:Exit→List (Nat×D)→List Ob→Prop):Nat→List (Nat×D)→List Ob→Prop
 |0,_,_=>False
 |k+1,φ,os=>WI P c E0 os0 n b (ZEi (ZKe P c E0 os0 n b Q k) Q) φ os
theorem WI.loopN {b:IC} {Q:Exit→List (Nat×D)→List Ob→Prop} (k:Nat) {φ:List (Nat×D)} {os:List Ob} (h:ZKe P c E0 os0 n b Q k φ os):WI P c E0 os0 n (.loop b) Q φ os:=by
 intro code hc E a R hf;obtain⟨cb,rfl,h1⟩:=ZGt hc;refine wp_loop_rounds k ?_;clear hc
 induction k generalizing φ os E a with
 |zero=>exact h.elim
 |succ k ih=>
  rw[rounds_succ];refine wp_mono (h cb h1 E a R hf) ?_;rintro e a' w' ⟨E',φ',os',rfl,k2,k3,k4⟩;cases e with
  |normal=>exact ih k4 E' a' k2 k3
  |_=>exact⟨E',φ',os',rfl,k2,k3,k4⟩
theorem WI.round {b:IC} {Q:Exit→List (Nat×D)→List Ob→Prop} {k:Nat} {φ:List (Nat×D)} {os:List Ob} (h:WI P c E0 os0 n b (ZEi (ZKe P c E0 os0 n b Q k) Q) φ os):ZKe P c E0 os0 n b Q (k+1) φ os:=h
end
section
variable {P:Program}
theorem ZV.turn {α:Type} (enc:α→X) (val:α→Value) (hvx: ∀w st a,VX w st (enc a) (val a)) (hinv: ∀w st a v,VX w st (enc a) v→v=val a) {f:FuncId} {e:Nat} {zs ys:List α} (hl:ys.length=zs.length) (h00:zs= []→ys= [])
  (h0:zs= []→ ∀p cap w,Calls P f #[.slice p 0 cap] w fun e w'=>e= .returned (.tuple #[])∧w'=w)
  (h1: ∀(g cap:Nat) (w:World) (cells:Array Value),zs≠ []→w.heap[g]? =some (.cells cells e (0,0))→cells.toList.take zs.length=zs.map val→zs.length≤cap→cap≤maxLen→cells.size=cap*1→
   Calls P f #[.slice (some ⟨g,0,none⟩) zs.length cap] w fun e' w'=>e'= .returned (.tuple #[])∧w.grownBy w' (some g)∧w'.ownsRow 0 e 1 (.slice (some ⟨g,0,none⟩) zs.length cap) zs.length (ys.map val)):
  ZV P f [.ref 0 zs.length 0 zs.length] [.rows false e 1 (zs.map fun a=> [enc a])] (.tup []) [.rows false e 1 (ys.map fun a=> [enc a])]:=by
 intro c E vs R hvl;obtain⟨hsz,hv⟩:=hvl;obtain⟨v0,rfl⟩: ∃v0,vs= #[v0]:=by
  obtain⟨vl⟩:=vs
  match vl,hsz with
  | [a],_=>exact⟨a,rfl⟩
 have h:=hv 0 _ v0 rfl rfl;cases h with
 |ref hr _=>
  have ho: [Ob.rows false e 1 (zs.map fun a=> [enc a])][0]? =some (Ob.rows false e 1 (zs.map fun a=> [enc a])):=rfl;obtain⟨k1,k2⟩:=hr.at ho rfl;obtain⟨k3,b,a,cap,a',cap',k4,rfl,k6,k7,k8,k9,k10,k11⟩:=k2 (by simp);obtain⟨rfl,rfl⟩:=k8 rfl;obtain⟨p,hp,hok⟩:=R.at ho;rw[hp]at k4;have hpb:p=(b,.slice a' zs.length cap'):=Option.some.inj k4;subst hpb;by_cases hz:zs= []
  ·subst hz;obtain rfl:=h00 rfl;refine(h0 rfl a' cap' E.w).mono ?_;rintro _ w' ⟨rfl,rfl⟩;exact⟨_,E,rfl,rfl,R,Evo.refl _ _,.tup #[] rfl (fun j d v h=>by simp at h)⟩
  ·have hpos:0<zs.length:=List.length_pos_iff.2 hz;obtain⟨xs,⟨q1,q2⟩,q3,q4⟩:=hok;rcases q2 with⟨q2,q5⟩|⟨g,cp,cells,fr,q5,q6,q7,q8,q9,q10,q11⟩
   ·simp only[List.length_map]at q5;omega
   ·simp only[Value.slice.injEq]at q5;obtain⟨rfl,_,rfl⟩:=q5;simp only[List.length_map,Nat.mul_one]at q10 q7 q1;have hfr:fr=(0,0):=by
     rcases q11 with q11|⟨q11,_⟩
     ·exact q11
     ·cases q11
    subst hfr;have hxs:xs=zs.map val:=by
     apply List.ext_getElem (by rw[q1];simp);intro i hi hi2;have hiz:i<zs.length:=by rw[q1]at hi;exact hi
     have:=q4 i [enc zs[i]] 0 (enc zs[i]) xs[i] (by rw[YA,YC hiz];rfl) rfl (by rw[Nat.mul_one,Nat.add_zero];exact YC hi);rw[hinv _ _ _ _ this];simp
    refine(h1 g cap' E.w cells hz q6 (by rw[q10,hxs]) q7 q8 q9).mono ?_;rintro _ w' ⟨rfl,hg,hown⟩;obtain⟨R',ev⟩:=R.set ho hp w' (.rows false e 1 (ys.map fun a=> [enc a])) (b,.slice (some ⟨g,0,none⟩) zs.length cap') ⟨hg.os,hg.tape,hg.output,hg.size,fun k hk hm=>hg.block k hk (fun e=>hm (by cases e;rfl))⟩ (fun b' hb'=> .inl hb') (fun sz rs1 h=>by
      simp only[Ob.sl?,Zg,Ze]at h;obtain⟨rfl,rfl⟩:=h;exact⟨(ys.map fun a=> [enc a]).length,rfl,.inl ⟨by simp[hl],rfl⟩⟩) (fun k h=>by cases h) (fun ev=>by
      refine⟨ys.map val,?_,fun r hr=> ?_,fun i r j x v h1 h2 h3=> ?_⟩
      ·have:=KL.of_owns hown false;simpa[hl]using this
      ·obtain⟨a,_,rfl⟩:=List.mem_map.1 hr;rfl
      ·rw[YA]at h1;obtain⟨a,ha,rfl⟩:=Zh h1
       match j with
       |0=>
        simp only[List.getElem?_cons_zero,Zg]at h2;subst h2;rw[Nat.mul_one,Nat.add_zero,YA,ha]at h3;simp only[Option.map_some,Zg]at h3;subst h3;exact hvx _ _ a
       |j+1=>simp at h2)
    exact⟨_,_,rfl,rfl,R',ev,.tup #[] rfl (fun j d v h=>by simp at h)⟩
end
variable {P:Program} {c:Ctx} {E0:Env} {os0:List Ob} {n:Nat} {Q:Exit→List (Nat×D)→List Ob→Prop} {φ:List (Nat×D)} {os:List Ob}
theorem WI.join {x y:IC} (J:List (Nat×D)→List Ob→Prop) (h:WI P c E0 os0 n x (ZEi J Q) φ os) (h2: ∀φ' os',J φ' os'→WI P c E0 os0 n y Q φ' os'):WI P c E0 os0 n (.seq x y) Q φ os:=by
 refine WI.seq (h.mono fun e φ' os' hh=> ?_);cases e with
 |normal=>exact h2 φ' os' hh
 |_=>exact hh
section
variable {P:Program} {S:Tabs} {c:Ctx} {n:Nat} {Q:Exit→Act→World→Prop} {ops:Array Oper} {il:List IOp} {k:Nat} {rs kp:List Nat} {E0:Env} {os0:List Ob}
end
section
variable {P:Program} {c:Ctx} {E0:Env} {os0 os:List Ob} {n:Nat} {Q:Exit→List (Nat×D)→List Ob→Prop} {φ:List (Nat×D)}
end
section
variable {S:Tabs} {os0 os C:List Ob} {k i id:Nat} {rs kp:List Nat} {φ φ':List (Nat×D)} {os':List Ob} {last:Option (List Ob)} {o:IOp} {l:List IOp} {ok:Bool} {d:D} {ob:Ob} {K:List (Nat×D)→List Ob→Prop} {Q:Exit→List (Nat×D)→List Ob→Prop} {ks:List Nat}
end
section
variable {P:Program} {c:Ctx} {E0:Env} {os0 os:List Ob} {n:Nat} {Q:Exit→List (Nat×D)→List Ob→Prop} {φ:List (Nat×D)}
end
structure Bx (B:Prop):Prop where
 h:B
theorem sd {p:Bool} (h:p=true:=by first|with_reducible rfl|omega|(simp;done)|(simp;omega)|rfl|(clear uu;grind)|(clear h;clear uu;grind)):p=true:=h
theorem se {p:Bool} (h:p=true:=by first|with_reducible rfl|omega):p=true:=h
section
variable {S:Tabs} {os:List Ob} {φ:List (Nat×D)} {l:List IOp} {K:List (Nat×D)→List Ob→Prop} {d:Option Nat} {g:Option (Nat×Bool)}
theorem oMk {x:IO} (h:Yi (YD S true φ os (⟨d,.mv x,none⟩::l)) K):Yi (YD S true φ os (⟨d,.mv x,none⟩::l)) K:=h
theorem oKk {x:IO} (h:Yi (YD S true φ os (⟨d,.nck x,none⟩::l)) K):Yi (YD S true φ os (⟨d,.nck x,none⟩::l)) K:=h
theorem oFk {a:Nat} {x:IO} (h:Yi (YD S true φ os (⟨d,.fad a x,none⟩::l)) K):Yi (YD S true φ os (⟨d,.fad a x,none⟩::l)) K:=h
theorem oGk {o:IOp} (h:Yi (YD S true φ os (o::l)) K):Yi (YD S true φ os (o::l)) K:=h
theorem oCk {f:IO} {xs:List IO} (h:Yi (YD S true φ os (⟨d,.call f xs,g⟩::l)) K):Yi (YD S true φ os (⟨d,.call f xs,g⟩::l)) K:=h
end
section
variable {P:Program} {c:Ctx} {E0:Env} {os0 os:List Ob} {n:Nat} {Q:Exit→List (Nat×D)→List Ob→Prop} {φ:List (Nat×D)}
theorem nz {A B:Prop} (h:A) (k:Bx A→B:=by(intro h;(repeat first|with_reducible refine ZJ ?_|with_reducible refine WI.seq ?_|with_reducible refine WI.block ?_|with_reducible refine WI.skip ?_|with_reducible refine QB ?_|with_reducible refine ZOu ?_|with_reducible refine WI.exit ?_|with_reducible refine ZAu ?_|((with_reducible refine ZQS ?_ ?_);(focus decide))|with_reducible refine Jp ?_|with_reducible refine ZTB ?_);exact h.h)):B:=k ⟨h⟩
theorem rg {S:Tabs} (hS:SsOk P S) (ks:List Nat) {l:List IOp} {A B:Prop} (h:A) (k:Bx B→Yi (YD S true φ os l) (fun φ' os'=>Q .normal (Go.Ab.keep ks φ') os'):=by(intro h;(repeat first|((with_reducible refine oMk ?_);refine oS ?_)|((with_reducible refine oKk ?_);refine oS ?_)|((with_reducible refine oFk ?_);refine oS ?_)|((with_reducible refine oGk ?_);(fail_if_success (with_reducible refine oCk ?_));refine oG ?_)|((with_reducible refine oCk ?_);refine oC ?_));refine oN ?_;exact h.h)) (k2:Bx A→B:=by(intro h;refine nz ?_;exact h.h)):WI P c E0 os0 n (.reg l) Q φ os:=WI.regB hS ks (k ⟨k2 ⟨h⟩⟩)
theorem rgp {S:Tabs} (hS:SsOk P S) (ks:List Nat) {l:List IOp} {A:Prop} (h:A) (k:Bx A→Yi (YD S true φ os l) (fun φ' os'=> ∃φ2 os2,Wk c E0 os0 n (Go.Ab.keep ks φ') os' φ2 os2∧Q .normal φ2 os2):=by(intro h;(repeat first|((with_reducible refine oMk ?_);refine oS ?_)|((with_reducible refine oKk ?_);refine oS ?_)|((with_reducible refine oFk ?_);refine oS ?_)|((with_reducible refine oGk ?_);(fail_if_success (with_reducible refine oCk ?_));refine oG ?_)|((with_reducible refine oCk ?_);refine oC ?_));refine oP ?_;exact h.h)):WI P c E0 os0 n (.reg l) Q φ os:=WI.post (WI.regB hS ks (k ⟨h⟩))
theorem cd {x:IO} {y z:IC} {b:Bool} {p q A B:Prop} (ht:p→A) (he:q→B) (hv:(ZF φ x).val= .x (.bool b):=by exact rfl) (hcd:(ZF φ x).cond=true:=by exact rfl) (hp:b=true→p:=by(intro h;first|(simp only[zB]at h;exact h)|exact h)) (hq:b=false→q:=by(intro h;first|(simp only[zB]at h;exact h)|exact h)) (kA:Bx A→WI P c E0 os0 n y Q φ os:=by(intro h;refine nz ?_;exact h.h)) (kB:Bx B→WI P c E0 os0 n z Q φ os:=by(intro h;refine nz ?_;exact h.h)):WI P c E0 os0 n (.cond x y z) Q φ os:=
 WI.cond hv hcd (fun h=>kA ⟨ht (hp h)⟩) (fun h=>kB ⟨he (hq h)⟩)
theorem ce {x:IO} {y z:IC} {b:Bool} {q B:Prop} (ht:b=true→False) (he:q→B) (hv:(ZF φ x).val= .x (.bool b):=by exact rfl) (hcd:(ZF φ x).cond=true:=by exact rfl) (hq:b=false→q:=by(intro h;first|(simp only[zB]at h;exact h)|exact h)) (kB:Bx B→WI P c E0 os0 n z Q φ os:=by(intro h;refine nz ?_;exact h.h)):WI P c E0 os0 n (.cond x y z) Q φ os:=
 WI.cond hv hcd (fun h=>(ht h).elim) (fun h=>kB ⟨he (hq h)⟩)
theorem ct {x:IO} {y z:IC} {b:Bool} {p A:Prop} (ht:p→A) (he:b=false→False) (hv:(ZF φ x).val= .x (.bool b):=by exact rfl) (hcd:(ZF φ x).cond=true:=by exact rfl) (hp:b=true→p:=by(intro h;first|(simp only[zB]at h;exact h)|exact h)) (kA:Bx A→WI P c E0 os0 n y Q φ os:=by(intro h;refine nz ?_;exact h.h)):WI P c E0 os0 n (.cond x y z) Q φ os:=
 WI.cond hv hcd (fun h=>kA ⟨ht (hp h)⟩) (fun h=>(he h).elim)
theorem lf {A:Prop} (h:A) (k:Bx A→WI P c E0 os0 n .ret Q φ os:=by(intro h;refine WI.ret ?_;(repeat first|with_reducible refine JE ?_|with_reducible refine Ke ?_|with_reducible refine ZWO ?_);(first|refine lfR ?_|refine ZE4 ?_|refine ZD1 ?_);exact h.h)):WI P c E0 os0 n .ret Q φ os:=k ⟨h⟩
end
section
variable {P:Program} {c:Ctx} {E E0:Env} {os os0:List Ob} {n:Nat} {Q:Exit→List (Nat×D)→List Ob→Prop} {φ:List (Nat×D)}
theorem ZZO {α:Type} (l:List α) (i:Nat) (x:α) (h:l[i]? =some x):l.set i x=l:=by
 apply List.ext_getElem?;intro j;rw[List.getElem?_set];by_cases hj:i=j
 ·subst hj;rw[if_pos rfl,h];simp[(Zf h).1]
 ·simp[hj]
theorem Rel.swap (R:Rel c E os) {i:Nat} {o o':Ob} (ho:os[i]? =some o) (hs:o'.sl? =o.sl?) (hk:o.kd=none) (hm: ∀p b,o'.mb p b→o.mb p b) (hok: ∀(E':Env) (os':List Ob) p,Evo E os E' os'→E'.w=E.w→OK E os o p→OK E' os' o' p):Rel c E (os.set i o')∧Evo E os E (os.set i o'):=by
 obtain⟨p,hp,h⟩:=R.at ho;have:=R.set ho hp E.w o' p (Kept.refl _ _) (fun b hb=> .inl (hm p b hb)) (fun sz m hm=>⟨m,by rw[hs];exact hm,.inl ⟨rfl,rfl⟩⟩) (fun k h=>by rw[hk]at h;cases h) (fun ev=>hok _ _ p ev rfl h);rw[ZZO _ _ _ hp]at this;exact this
theorem Rel.toD (R:Rel c E os) {i e sz:Nat} {rs:List (List X)} (ho:os[i]? =some (.rows false e sz rs)):Rel c E (os.set i (.drw e sz (JI rs)))∧Evo E os E (os.set i (.drw e sz (JI rs))):=by
 refine R.swap ho (by simp[Ob.sl?,Qo]) rfl (fun p b h=>h) (fun E' os' p ev hw h=> ?_);obtain⟨xs,h1,h2,h3⟩:=h;refine⟨xs,by rw[hw,Qo];exact h1,fun r hr=> ?_,fun i r j d v hr hd hv=> ?_⟩
 ·obtain⟨r0,h0,rfl⟩:=List.mem_map.1 hr;rw[List.length_map];exact h2 r0 h0
 ·obtain⟨r0,x,g1,g2,rfl⟩:=ZNU hr hd;have:=h3 i r0 j x v g1 g2 hv;exact⟨.x (this.mono ev.st),this.one⟩
theorem Rel.toX (R:Rel c E os) {i e sz:Nat} {rs:List (List X)} (ho:os[i]? =some (.drw e sz (JI rs))):Rel c E (os.set i (.rows false e sz rs))∧Evo E os E (os.set i (.rows false e sz rs)):=by
 refine R.swap ho (by simp[Ob.sl?,Qo]) rfl (fun p b h=>h) (fun E' os' p ev hw h=> ?_);obtain⟨xs,h1,h2,h3⟩:=h;refine⟨xs,by rw[hw];rw[Qo]at h1;exact h1,fun r hr=> ?_,fun i r j x v hr hx hv=> ?_⟩
 ·have:=h2 (r.map D.x) (List.mem_map.2 ⟨r,hr,rfl⟩);rwa [List.length_map]at this
 ·have hr':(JI rs)[i]? =some (r.map D.x):=by unfold JI;rw[YA,hr];rfl
  exact(h3 i _ j (.x x) v hr' (by rw[YA,hx];rfl) hv).1.xx.mono ev.st
theorem Wk.toD {i e sz:Nat} {rs:List (List X)} (ho:os[i]? =some (.rows false e sz rs)):Wk c E0 os0 n φ os φ (os.set i (.drw e sz (JI rs))):=fun E a R hf=>by
 obtain⟨R1,e1⟩:=R.rel.toD ho;exact⟨E,rfl,⟨R1,R.evo.trans e1⟩,hf.mono e1⟩
theorem Wk.toX {i e sz:Nat} {rs:List (List X)} (ho:os[i]? =some (.drw e sz (JI rs))):Wk c E0 os0 n φ os φ (os.set i (.rows false e sz rs)):=fun E a R hf=>by
 obtain⟨R1,e1⟩:=R.rel.toX ho;exact⟨E,rfl,⟨R1,R.evo.trans e1⟩,hf.mono e1⟩
theorem WI.toDA (i:Nat) {e sz:Nat} {rs:List (List X)} {ic:IC} {os':List Ob} (h:WI P c E0 os0 n ic Q φ os') (ho:os[i]? =some (.rows false e sz rs):=by rfl) (hs:os.set i (.drw e sz (JI rs))=os':=by simp only[List.set_cons_zero,List.set_cons_succ];rfl):WI P c E0 os0 n ic Q φ os:=WI.weak (Wk.toD ho) (by rw[hs];exact h)
theorem WI.toXA (i:Nat) {e sz:Nat} {rs:List (List X)} {ic:IC} {os':List Ob} (h:WI P c E0 os0 n ic Q φ os') (ho:os[i]? =some (.drw e sz (JI rs)):=by rfl) (hs:os.set i (.rows false e sz rs)=os':=by simp only[List.set_cons_zero,List.set_cons_succ];rfl):WI P c E0 os0 n ic Q φ os:=WI.weak (Wk.toX ho) (by rw[hs];exact h)
end
section
variable {P:Program} {c:Ctx} {E E0:Env} {os os0:List Ob} {n:Nat} {Q:Exit→List (Nat×D)→List Ob→Prop} {φ:List (Nat×D)}
end
section
variable {P:Program} {c:Ctx} {E0:Env} {os os0:List Ob} {n:Nat} {Q:Exit→List (Nat×D)→List Ob→Prop} {φ:List (Nat×D)}
end
section
variable {P:Program} {c:Ctx} {E0:Env} {os os0:List Ob} {n:Nat} {Q:Exit→List (Nat×D)→List Ob→Prop} {φ:List (Nat×D)}
def kN (K:List (Nat×D)→List Ob→Prop):Exit→List (Nat×D)→List Ob→Prop:=fun _ φ os=>K φ os
theorem Zap {K:List (Nat×D)→List Ob→Prop} (h:K φ os): ∃φ2 os2,Wk c E0 os0 n φ os φ2 os2∧kN K .normal φ2 os2:=⟨φ,os,Wk.refl,h⟩
end
def ZET:List Ob→List Ob→Bool
 | [],[]=>true
 |x::l,y::l'=>Ob.beq x y&&ZET l l'
 |_,_=>false
theorem ZJg: ∀ {a b:List Ob},ZET a b=true→a=b
 | [],b,h=>by cases b<;>simp[ZET]at h;rfl
 |x::l,b,h=>by
  cases b<;>simp[ZET]at h
  rw[Ob.beq_eq h.1,ZJg h.2]
theorem ZGJ: ∀a:List Ob,ZET a a=true
 | []=>rfl
 |x::l=>by simp only[ZET,ZY];exact⟨Ob.beq_refl x,ZGJ l⟩
def ptT (S:Tabs) (f:FuncId) (A:List D) (O:List Ob) (r:D) (O':List Ob):Tabs:=⟨S.q,fun f' args os=>if f'=f∧D.beqL args A=true∧ZET os O=true then some (true,r,O')else S.t f' args os,S.r,S.k⟩
theorem ZBp {P:Program} {S:Tabs} (hS:SsOk P S) {f:FuncId} {A:List D} {O O':List Ob} {r:D} (he:Enters P f) (hm:ZV P f A O r O'):SsOk P (ptT S f A O r O'):=by
 refine⟨hS.q,fun f' args os r' os' h=> ?_,hS.r,hS.k⟩;simp only[ptT]at h;split at h
 ·rename_i hh;obtain⟨rfl,h2,h3⟩:=hh;rw[D.beqL_eq h2,ZJg h3];simp only[Zg,Ze,true_and]at h;obtain⟨rfl,rfl⟩:=h;exact⟨he,hm⟩
 ·exact hS.t f' args os r' os' h
theorem ZGI (S:Tabs) (f:FuncId) (A:List D) (O:List Ob) (r:D) (O':List Ob):(ptT S f A O r O').t f A O=some (true,r,O'):=if_pos ⟨rfl,D.beqL_refl A,ZGJ O⟩
theorem ZGz (S:Tabs) (f:FuncId) (A:List D) (O:List Ob) (r:D) (O':List Ob):(ptT S f A O r O').q=S.q:=rfl
theorem ZGh (S:Tabs) (f:FuncId) (A:List D) (O:List Ob) (r:D) (O':List Ob):(ptT S f A O r O').r=S.r:=rfl
theorem ZF7 (S:Tabs) (f:FuncId) (A:List D) (O:List Ob) (r:D) (O':List Ob):(ptT S f A O r O').k=S.k:=rfl
theorem D.ren_id (f:Nat→Nat) (h: ∀i,f i=i) (d:D):d.ren f=d:=by
 refine D.rec (motive_1:=fun d=>d.ren f=d) (motive_2:=fun l=>Zy f l=l) ?_ ?_ ?_ ?_ ?_ ?_ ?_ ?_ ?_ ?_ ?_ ?_ ?_ ?_ ?_ ?_ ?_ ?_ ?_ d
 all_goals intros
 all_goals first|rfl|(simp only[D.ren,Zy,h];done)|(simp only[D.ren,Zy,h];simp_all)
theorem ZFg (f:Nat→Nat) (h: ∀i,f i=i): ∀l:List D,Zy f l=l
 | []=>rfl
 |d::l=>by rw[Zy,D.ren_id f h,ZFg f h l]
theorem ZRT (f:Nat→Nat) (h: ∀i,f i=i) (p:Pr):Yt f p=p:=by
 unfold Yt;rw[ZFg f h]
theorem ZOF {α:Type} (f:α→α) (h: ∀x,f x=x) (l:List α):l.map f=l:=by
 induction l with
 |nil=>rfl
 |cons a l ih=>rw[List.map_cons,h,ih]
theorem Ob.ren_id (f:Nat→Nat) (h: ∀i,f i=i) (o:Ob):o.ren f=o:=by
 cases o<;>simp only[Ob.ren,h,ZFg f h,ZOF (Yt f) (ZRT f h),ZOF (Zy f) (ZFg f h)]
 rename_i cur;cases cur<;>simp only[Option.map_none,Option.map_some,ZRT f h]
theorem ZWL (h:List D→List Ob→Option (Bool×D×List Ob)) (args:List D) (OS:List Ob) (i:Nat) (fz:Bool) (e sz:Nat) (rs:List (List X)) (fz':Bool) (e' sz':Nat) (rs':List (List X)) (ok:Bool) (r:D)
  (hi:JC args= [i]) (hn:YY (fun j=>YH j [i]) args=true) (ho:OS[i]? =some (.rows fz e sz rs)) (hr: ∀f,r.ren f=r)
  (hh:h (Zy (Yb [i]) args) [.rows fz e sz rs]=some (ok,r,[.rows fz' e' sz' rs'])):YW h args OS=some (ok,r,OS.set i (.rows fz' e' sz' rs')):=by
 have hlt:i<OS.length:=(Zf ho).1;have hg:OS.getD i .dead= .rows fz e sz rs:=by rw[List.getD_eq_getElem?_getD,ho];rfl
 have hm:YH i []=false:=rfl;have hre:JL OS 64 (JC args) []= [i]:=by
  rw[hi];simp only[JL,hm,hg,ZJG];rfl
 have hfp:YS [i] OS= [.rows fz e sz rs]:=by
  unfold YS;simp only[List.map_cons,List.map_nil,hg];rfl
 unfold YW;rw[hre,hfp,hh,if_pos (by
  unfold Qc;simp only[List.all_cons,List.all_nil,hg,hn,ZM hlt,Qb];rfl)]
 rw[Option.bind_some,if_pos (by simp),hr];congr 3;unfold Kp;simp only[List.map_cons,List.map_nil,KS,List.drop_succ_cons,List.drop_zero,Jz,ξN,List.append_nil];rfl
def fam (e sz:Nat) (l:List (List (List X))):List Ob:=l.map fun rs=> .rows false e sz rs
def ZC3 (sz:Nat) (l:List (List (List X))):List Ob:=l.map fun rs=> .frz sz rs
theorem ZIN (e sz:Nat) (l:List (List (List X))):(fam e sz l).length=l.length:=by simp[fam]
theorem ZDt (sz:Nat) (l:List (List (List X))):(ZC3 sz l).length=l.length:=by simp[ZC3]
theorem ZRP (o:Ob) (e sz:Nat): ∀(l A:List (List (List X))),frzL (List.range' (A.length+1) l.length) (o::(ZC3 sz A++fam e sz l))=o::ZC3 sz (A++l)
 | [],A=>by simp[frzL,fam]
 |r::l,A=>by
  have ih:=ZRP o e sz l (A++ [r]);have hg:(o::(ZC3 sz A++fam e sz (r::l)))[A.length+1]? =some (.rows false e sz r):=by
   rw[List.getElem?_cons_succ,List.getElem?_append_right (by rw[ZDt];exact Nat.le_refl _),ZDt,Nat.sub_self];rfl
  have hs:(o::(ZC3 sz A++fam e sz (r::l))).set (A.length+1) (.frz sz r)=o::(ZC3 sz (A++ [r])++fam e sz l):=by
   rw[List.set_cons_succ,List.set_append_right _ _ (by rw[ZDt];exact Nat.le_refl _),ZDt,Nat.sub_self];simp[ZC3,fam]
  rw[Jz,List.range'_succ,frzL,hg];dsimp only;rw[hs];rw[Zr,List.length_singleton,List.append_assoc]at ih;exact ih
def KR:Nat→List (List (List X))→List (List D)
 |_,[]=> []
 |k,rs::l=> [.ref k rs.length 0 rs.length]::KR (k+1) l
theorem ZRI (sz:Nat) (os:List Ob): ∀(l:List (List (List X))) (k:Nat),(∀i r,l[i]? =some r→os[k+i]? =some (.frz sz r))→((KR k l).map (List.map (Kn [0] os))).map (Zy (Yb [0]))=JI (l.map fun rs=> [.sl rs])
 | [],k,_=>rfl
 |r::l,k,h=>by
  have h0:=h 0 r rfl;have ih:=ZRI sz os l (k+1) (fun i x hx=>by rw[show k+1+i=k+(i+1) by omega];exact h (i+1) x hx);have hv:Kn [0] os (.ref k r.length 0 r.length)= .x (.sl r):=by
   unfold Kn;rw[D.vw,show os[k]? =some (.frz sz r)from h0];dsimp only;rw[if_pos rfl,List.drop_zero,List.take_length];rfl
  rw[KR,List.map_cons,List.map_cons,ih,List.map_cons,List.map_nil,hv];rfl
theorem ZbN (e sz:Nat) (l:List (List (List X))):ZAO [0] (.drw e 1 (KR 1 l)::ZC3 sz l)= [.drw e 1 (JI (l.map fun rs=> [.sl rs]))]:=by
 have h:=ZRI sz (.drw e 1 (KR 1 l)::ZC3 sz l) l 1 (fun i r hr=>by rw[Nat.add_comm,List.getElem?_cons_succ];unfold ZC3;rw[YA,hr];rfl);unfold ZAO YS;simp only[List.map_cons,List.map_nil,List.getD_cons_zero,Ob.mp,Ob.onI,Ob.ren];rw[h]
theorem ZAw (k i:Nat):YH i (List.range k)=decide (i<k):=by
 rw[Bool.eq_iff_iff,Qt,List.mem_range,Zi]
theorem ZAi {k i:Nat} (h:i<k):Yb (List.range k) i=i:=ZHh List.nodup_range (by rw[List.getElem?_range h])
theorem ZMW {OS X:List Ob} (hO:OS.all (Ob.inP (fun i=>decide (i<OS.length)))=true):YS (List.range OS.length) (OS++X)=OS:=by
 apply List.ext_getElem?;intro i;unfold YS;rw[YA];by_cases h:i<OS.length
 ·rw[List.getElem?_range h,Option.map_some,List.getD_eq_getElem?_getD,Yr h,YC h,Option.getD_some];have hp:=List.all_eq_true.1 hO _ (List.getElem_mem h);have:=Ob.ren_ren (F:=fun i=>i) (g:=Yb (List.range OS.length)) (p:=fun i=>decide (i<OS.length)) (fun j hj=>ZAi (of_decide_eq_true hj)) OS[i] hp;rw[Ob.ren_id _ (fun _=>rfl)]at this;rw[this]
 ·rw[List.getElem?_eq_none (by simp;omega),List.getElem?_eq_none (by omega)];rfl
section
variable {P:Program} {c:Ctx} {E0:Env} {os0:List Ob} {n:Nat} {Q:Exit→List (Nat×D)→List Ob→Prop} {φ:List (Nat×D)}
theorem ZQj (p:Nat→Bool): ∀(φ:List (Nat×D)),φ.all (fun q=>q.2.inP p)=true→ ∀t,(get φ t).inP p=true
 | [],_,t=>rfl
 |(s,d)::φ,h,t=>by
  rw[List.all_cons,ZY]at h;unfold Go.Ab.get;split
  ·exact h.1
  ·exact ZQj p φ h.2 t
theorem Wk.dropT {OS X:List Ob} (h0:os0.length≤OS.length) (hO:OS.all (Ob.inP (fun i=>decide (i<OS.length)))=true) (hφ:φ.all (fun p=>p.2.inP (fun i=>decide (i<OS.length)))=true):Wk c E0 os0 n φ (OS++X) φ OS:=by
 intro E a R hf;have hn:(List.range OS.length).Nodup:=List.nodup_range;have hlt: ∀r∈List.range OS.length,r<(OS++X).length:=fun r hr=>by have:=List.mem_range.1 hr;simp;omega
 have hm:(fun i=>YH i (List.range OS.length))=fun i=>decide (i<OS.length):=funext (ZAw _)
 have R2:=R.rel.pickO hn hlt (fun r hr=>by
  have h:=List.mem_range.1 hr;rw[List.getD_eq_getElem?_getD,Yr h,YC h,Option.getD_some,hm];exact List.all_eq_true.1 hO _ (List.getElem_mem h))
 have e2:=ZHp (ρ:=List.range OS.length) R.rel hlt;rw[ZMW hO]at R2 e2;refine⟨fpE (List.range OS.length) E,rfl,⟨R2,?_⟩,hf.size,hf.defers,fun t=> ?_⟩
 ·have e01:=R.evo;refine⟨e01.st,fun id b cu ds k ho hkd hb=> ?_,fun id o sz rs ho hs=> ?_⟩
  ·have hi:=(Zf ho).1;obtain⟨cu1,ds1,k1,kd1,k2⟩:=e01.bl id b cu ds k ho hkd hb;obtain⟨cu2,ds2,k3,kd2,k4⟩:=e2.bl id b cu1 ds1 k (by rw[ZAw];exact ZM (by omega)) k1 kd1 k2;rw[ZAi (by omega)]at k3 k4;exact⟨cu2,ds2,k3,kd2,k4⟩
  ·have hi:=(Zf ho).1;obtain⟨o1,rs1,k1,k2,k3⟩:=e01.rf id o sz rs ho hs;obtain⟨o2,rs2,k4,k5,k6⟩:=e2.rf id o1 sz rs1 (by rw[ZAw];exact ZM (by omega)) k1 k2;rw[ZAi (by omega)]at k4 k6;refine⟨o2,rs2,k4,k5,?_⟩;rcases k3 with⟨k3,k3'⟩|k3<;>rcases k6 with⟨k6,k6'⟩|k6
   ·exact .inl ⟨k3.trans k6,k6'.trans k3'⟩
   ·exact .inr (by omega)
   ·exact .inr (by omega)
   ·exact .inr (by omega)
 ·have hp:=ZQj _ φ hφ t;have h1:V (fpE (List.range OS.length) E) OS ((get φ t).ren (Yb (List.range OS.length))) (a.tmps.getD t undef):=(hf.slot t).monoR e2 (by rw[hm];exact hp);have h2:=D.ren_ren (F:=fun i=>i) (g:=Yb (List.range OS.length)) (p:=fun i=>decide (i<OS.length)) (fun j hj=>ZAi (of_decide_eq_true hj)) (get φ t) hp;rw[D.ren_id _ (fun _=>rfl)]at h2;rwa [h2]at h1
theorem ZKS (OS X:List Ob) {os:List Ob} (e:os=OS++X) (h0:os0.length≤OS.length) (hO:OS.all (Ob.inP (fun i=>decide (i<OS.length)))=true) (hφ:φ.all (fun p=>p.2.inP (fun i=>decide (i<OS.length)))=true) (h: ∃φ2 os2,Wk c E0 os0 n φ OS φ2 os2∧Q .normal φ2 os2): ∃φ2 os2,Wk c E0 os0 n φ os φ2 os2∧Q .normal φ2 os2:=by
 subst e;obtain⟨φ2,os2,h1,h2⟩:=h;exact⟨φ2,os2,(Wk.dropT h0 hO hφ).trans h1,h2⟩
theorem WI.dropT (OS X:List Ob) {os:List Ob} {ic:IC} (e:os=OS++X) (h0:os0.length≤OS.length) (hO:OS.all (Ob.inP (fun i=>decide (i<OS.length)))=true) (hφ:φ.all (fun p=>p.2.inP (fun i=>decide (i<OS.length)))=true) (h:WI P c E0 os0 n ic Q φ OS):WI P c E0 os0 n ic Q φ os:=by
 subst e;exact WI.weak (Wk.dropT h0 hO hφ) h
end
theorem ZY7 (p:Nat→Bool) (e sz:Nat) (l:List (List (List X))):(fam e sz l).all (Ob.inP p)=true:=by
 unfold fam;rw[List.all_map];exact List.all_eq_true.2 fun _ _=>rfl
theorem ZMR: ∀(l:List (List (List X))) (k:Nat),(KR k l).length=l.length
 | [],_=>rfl
 |r::l,k=>by rw[KR,Jz,ZMR l,Jz]
theorem ZMi: ∀(l:List (List (List X))) (k i:Nat) (r:List (List X)),l[i]? =some r→(KR k l)[i]? =some [.ref (k+i) r.length 0 r.length]
 | [],_,i,r,h=>by simp at h
 |r::l,k,0,x,h=>by simp at h;subst h;rfl
 |r::l,k,i+1,x,h=>by
  rw[KR,List.getElem?_cons_succ,ZMi l (k+1) i x (by simpa using h),show k+1+i=k+(i+1) by omega]
theorem ZKg: ∀(l:List (List (List X))) (k:Nat) (r:List (List X)),KR k (l++ [r])=KR k l++ [[.ref (k+l.length) r.length 0 r.length]]
 | [],k,r=>rfl
 |x::l,k,r=>by rw[List.cons_append,KR,ZKg l,KR,Jz,show k+1+l.length=k+(l.length+1) by omega];rfl
theorem ZIs: ∀(l l':List (List (List X))) (k:Nat),l.map List.length=l'.map List.length→KR k l=KR k l'
 | [],[],_,_=>rfl
 | [],_::_,_,h=>by simp at h
 |_::_,[],_,h=>by simp at h
 |x::l,y::l',k,h=>by
  rw[List.map_cons,List.map_cons,List.cons.injEq]at h;rw[KR,KR,h.1,ZIs l l' _ h.2]
theorem ZL2 (n:Nat): ∀(l:List (List (List X))) (k:Nat),k+l.length≤n→(KR k l).all (YY (fun i=>decide (i<n)))=true
 | [],_,_=>rfl
 |r::l,k,h=>by
  rw[Jz]at h;rw[KR,List.all_cons,ZL2 n l (k+1) (by omega),Bool.and_true];simp only[YY,D.inP,Bool.and_true,Zi];omega
def Zeg (e:Nat) (l:List (List (List X))):Ob:= .drw e 1 (KR 1 l)
theorem ZZP (e e2 sz:Nat) (l:List (List (List X))):(Zeg e l::fam e2 sz l).all (Ob.inP (fun i=>decide (i<(Zeg e l::fam e2 sz l).length)))=true:=by
 rw[List.all_cons,ZY7,Bool.and_true,Jz,ZIN];exact ZL2 _ l 1 (by omega)
theorem ZdO (e sz:Nat) (l:List (List (List X))) (Y:List Ob) (i:Nat) (r:List (List X)) (h:l[i]? =some r):(fam e sz l++Y)[i]? =some (.rows false e sz r):=by
 have hi:=(Zf h).1;rw[Yr (by rw[ZIN];exact hi)];unfold fam;rw[YA,h];rfl
theorem Zby (e sz:Nat) (l:List (List (List X))) (Y:List Ob) (i:Nat) (r:List (List X)) (h:i<l.length):(fam e sz l++Y).set i (.rows false e sz r)=fam e sz (l.set i r)++Y:=by
 rw[List.set_append_left _ _ (by rw[ZIN];exact h)];unfold fam;rw[List.map_set]
theorem ZX8 (e sz:Nat) (l:List (List (List X))) (r:List (List X)):fam e sz (l++ [r])=fam e sz l++ [.rows false e sz r]:=by simp[fam]
def ZRw (A:List D) (O:List Ob) (r:D) (O':List Ob) (args:List D) (os:List Ob):Option (Bool×D×List Ob):=if D.beqL args A=true∧ZET os O=true then some (true,r,O')else none
theorem ZQg {P:Program} {f:FuncId} {A:List D} {O O':List Ob} {r:D} (hc:ZV P f A O r O'): ∀args os r' os',ZRw A O r O' args os=some (true,r',os')→ZV P f args os r' os':=by
 intro args os r' os' h;unfold ZRw at h;split at h
 ·rename_i hh;rw[D.beqL_eq hh.1,ZJg hh.2];simp only[Zg,Ze,true_and]at h;obtain⟨rfl,rfl⟩:=h;exact hc
 ·cases h
theorem ZQv (A:List D) (O:List Ob) (r:D) (O':List Ob):ZRw A O r O' A O=some (true,r,O'):=if_pos ⟨D.beqL_refl A,ZGJ O⟩
theorem ZV.row {P:Program} {f:FuncId} {args:List D} {OS:List Ob} {r:D} (i:Nat) {fz fz':Bool} {e sz e' sz':Nat} {rs rs':List (List X)} (hc:ZV P f (Zy (Yb [i]) args) [.rows fz e sz rs] r [.rows fz' e' sz' rs'])
  (ho:OS[i]? =some (.rows fz e sz rs)) (hi:JC args= [i]) (hn:YY (fun j=>YH j [i]) args=true) (hr: ∀f,r.ren f=r):ZV P f args OS r (OS.set i (.rows fz' e' sz' rs')):=
 ZV.lift (ZQg hc) _ _ _ _ (ZWL _ _ _ i fz e sz rs fz' e' sz' rs' true _ hi hn ho hr (ZQv _ _ _ _))
theorem ZV.new {P:Program} {f:FuncId} {args:List D} {OS os':List Ob} {r:D} (hc:ZV P f args [] r os') (hi:JC args= []) (hn: ∀p,YY p args=true):ZV P f args OS (r.ren (fun i=>OS.length+i)) (OS++os'.map (Ob.ren (fun i=>OS.length+i))):=by
 have hren: ∀g,Zy g args=args:=fun g=>by
  have:=ZGU (F:=fun i=>i) (g:=g) (p:=fun _=>false) (fun i h=>by cases h) args (hn _);rwa [ZFg _ (fun _=>rfl)]at this
 refine ZV.lift (h:=ZRw args [] r os') (ZQg hc) _ _ _ _ ?_;have hre:JL OS 64 (JC args) []= []:=by rw[hi];rfl
 have hf:KI [] OS.length os'.length=fun i=>OS.length+i:=funext fun i=>by simp[KI]
 unfold YW;rw[hre,if_pos (by simp[Qc,hn,Qb]),hren,show YS [] OS= []from rfl,ZQv,Option.bind_some];dsimp only;rw[if_pos (show([]:List Nat).length≤os'.length from Nat.zero_le _)];unfold Kp;rw[hf];cases os'<;>rfl
section
variable {P:Program}
theorem ZN.mcallsX {f:FuncId} {args:List D} {r:D} {os os':List Ob} (h:ZN P f args os (fun r' os2=>r'=r∧ ∃X,os2=os'++X)) (h0:os.length≤os'.length) (hO:os'.all (Ob.inP (fun i=>decide (i<os'.length)))=true) (hr:r.inP (fun i=>decide (i<os'.length))=true):ZV P f args os r os':=by
 intro c E vs R hvl;refine(h c E vs R hvl).mono ?_;rintro e w' ⟨v,E',r',os2,rfl,rfl,R',ev,hv,rfl,X,rfl⟩;have hn:(List.range os'.length).Nodup:=List.nodup_range;have hlt: ∀r∈List.range os'.length,r<(os'++X).length:=fun r hr=>by have:=List.mem_range.1 hr;simp;omega
 have hm:(fun i=>YH i (List.range os'.length))=fun i=>decide (i<os'.length):=funext (ZAw _)
 have R2:=R'.pickO hn hlt (fun r hr=>by
  have h:=List.mem_range.1 hr;rw[List.getD_eq_getElem?_getD,Yr h,YC h,Option.getD_some,hm];exact List.all_eq_true.1 hO _ (List.getElem_mem h))
 have e2:=ZHp (ρ:=List.range os'.length) R' hlt;rw[ZMW hO]at R2 e2;refine⟨v,fpE (List.range os'.length) E',rfl,rfl,R2,?_,?_⟩
 ·refine⟨ev.st,fun id b cu ds k ho hkd hb=> ?_,fun id o sz rs ho hs=> ?_⟩
  ·have hi:=(Zf ho).1;obtain⟨cu1,ds1,k1,kd1,k2⟩:=ev.bl id b cu ds k ho hkd hb;obtain⟨cu2,ds2,k3,kd2,k4⟩:=e2.bl id b cu1 ds1 k (by rw[ZAw];exact ZM (by omega)) k1 kd1 k2;rw[ZAi (by omega)]at k3 k4;exact⟨cu2,ds2,k3,kd2,k4⟩
  ·have hi:=(Zf ho).1;obtain⟨o1,rs1,k1,k2,k3⟩:=ev.rf id o sz rs ho hs;obtain⟨o2,rs2,k4,k5,k6⟩:=e2.rf id o1 sz rs1 (by rw[ZAw];exact ZM (by omega)) k1 k2;rw[ZAi (by omega)]at k4 k6;refine⟨o2,rs2,k4,k5,?_⟩;rcases k3 with⟨k3,k3'⟩|k3<;>rcases k6 with⟨k6,k6'⟩|k6
   ·exact .inl ⟨k3.trans k6,k6'.trans k3'⟩
   ·exact .inr (by omega)
   ·exact .inr (by omega)
   ·exact .inr (by omega)
 ·have h1:V (fpE (List.range os'.length) E') os' (r'.ren (Yb (List.range os'.length))) v:=hv.monoR e2 (by rw[hm];exact hr);have h2:=D.ren_ren (F:=fun i=>i) (g:=Yb (List.range os'.length)) (p:=fun i=>decide (i<os'.length)) (fun j hj=>ZAi (of_decide_eq_true hj)) r' hr;rw[D.ren_id _ (fun _=>rfl)]at h2;rwa [h2]at h1
end
theorem ZD.mc {P:Program} {f:FuncId} {args:List D} {r:D} (h:ZD P f args r) (OS:List Ob) (hi:JC args= []:=by rfl) (hn: ∀p,YY p args=true:=by intro p;rfl) (hr: ∀g,r.ren g=r:=by intro g;rfl):ZV P f args OS r OS:=by
 have h0:ZV P f args [] r []:=by
  intro c E vs R hvl;have hob:E.ob= []:=List.eq_nil_of_length_eq_zero (by have:=R.len;simpa using this);obtain⟨w,st,ob⟩:=E;simp only at hob;subst hob;refine(h w st vs (fun b o h=>(R.stm b o h).1) hvl).mono ?_;rintro e w' ⟨v,st',rfl,hk,h1,h2,hv⟩;obtain⟨R',ev⟩:=R.world w' st' hk h1 h2;exact⟨v,_,rfl,rfl,R',ev,hv⟩
 have:=ZV.new (OS:=OS) h0 hi hn;rw[hr,List.map_nil,List.append_nil]at this;exact this
variable {P:Program} {c:Ctx} {E0:Env} {os0:List Ob} {n:Nat} {Q:Exit→List (Nat×D)→List Ob→Prop} {φ:List (Nat×D)} {os:List Ob}
def WR (P:Program) (c:Ctx) (E0:Env) (os0:List Ob) (n:Nat) (l:List IOp) (Q:Exit→List (Nat×D)→List Ob→Prop) (φ:List (Nat×D)) (os:List Ob):Prop:=
 ∀(ops:Array Oper) (lo:List Oper),lo.mapM (Yk P n ops)=some l→ ∀(E:Env) (a:Act),Run c E0 os0 E os→Fr n E os φ a→
  wpList P ops (fun x a' w'=> ∃E' φ' os',E'.w=w'∧Run c E0 os0 E' os'∧Fr n E' os' φ' a'∧Q x φ' os') lo a E.w
theorem WR.reg {l:List IOp} (h:WR P c E0 os0 n l Q φ os):WI P c E0 os0 n (.reg l) Q φ os:=by
 intro code hc E a R hf;obtain⟨id,ops,rfl,h1⟩:=ZF4 hc;exact wp_region_list (h ops _ h1 E a R hf)
theorem WR.regB {S:Tabs} (hS:SsOk P S) (ks:List Nat) {l:List IOp} (h:Yi (YD S true φ os l) (fun φ' os'=>Q .normal (Go.Ab.keep ks φ') os')):WR P c E0 os0 n l Q φ os:=by
 intro ops lo h1 E a R hf;rw[ZDQ]at h;obtain⟨ok,φ',os',h2,rfl,h3⟩:=h;obtain⟨⟨ok2,q⟩,h4,h5⟩:=Zh h2;simp at h5;obtain⟨rfl,rfl⟩:=h5;exact ZKK hS R.rel hf h1 h4 (fun E' a' R' e' f'=>⟨E',_,_,rfl,⟨R',R.evo.trans e'⟩,f'.keep ks,h3⟩)
theorem ZKb {α β:Type} (f:α→Option β): ∀(k:Nat) (lo:List α) (l:List β),lo.mapM f=some l→(lo.take k).mapM f=some (l.take k)∧(lo.drop k).mapM f=some (l.drop k)
 |0,lo,l,h=>by simpa using h
 |k+1,[],l,h=>by simp at h;subst h;simp
 |k+1,x::lo,l,h=>by
  simp only[List.mapM_cons,Option.bind_eq_bind,Yh,Option.pure_def]at h;obtain⟨y,h1,l',h2,h3⟩:=h;cases h3;obtain⟨i1,i2⟩:=ZKb f k lo l' h2;refine⟨?_,by simpa using i2⟩;simp only[List.take_succ_cons,List.mapM_cons,h1,i1,Option.bind_eq_bind,Option.bind_some,Option.pure_def]
theorem ZQ3 {S:Tabs} (hS:SsOk P S) {ops:Array Oper} {Q:Exit→Act→World→Prop} {lo2:List Oper}: ∀ {l:List Oper} {il:List IOp} {E:Env} {os:List Ob} {φ:List (Nat×D)} {a:Act},Rel c E os→Fr n E os φ a→l.mapM (Yk P n ops)=some il→ ∀ {φ':List (Nat×D)} {os':List Ob},Qh S φ os il=some (true,φ',os')→
  (∀E' a',Rel c E' os'→Evo E os E' os'→Fr n E' os' φ' a'→wpList P ops Q lo2 a' E'.w)→wpList P ops Q (l++lo2) a E.w
 | [],il,E,os,φ,a,R,hf,hm,φ',os',h,hQ=>by
  simp at hm;subst hm;cases h;exact hQ E a R (Evo.refl _ _) hf
 |o::l,il,E,os,φ,a,R,hf,hm,φ',os',h,hQ=>by
  simp only[List.mapM_cons,Option.bind_eq_bind,Yh,Option.pure_def]at hm;obtain⟨io,hio,il',hil,hm⟩:=hm;cases hm;simp only[Qh,Yh,Kh]at h;obtain⟨⟨ok,φ1,os1⟩,h1,⟨ok2,φ2,os2⟩,h2,h3⟩:=h;simp at h3;obtain⟨⟨rfl,rfl⟩,rfl,rfl⟩:=h3;rw[List.cons_append];refine wpList_step fun K hK=>ZRd hS R hf hio h1 (fun E1 a1 R1 e1 f1=> ?_)
  exact hK _ _ (ZQ3 hS R1 f1 hil h2 (fun E' a' R' e' f'=>hQ E' a' R' (e1.trans e') f'))
theorem WR.cut {S:Tabs} (hS:SsOk P S) (ks:List Nat) (k:Nat) {l:List IOp} (h:Yi (YD S true φ os (l.take k)) (fun φ1 os1=> ∃φ2 os2,Wk c E0 os0 n (Go.Ab.keep ks φ1) os1 φ2 os2∧kN (fun φ2 os2=>WR P c E0 os0 n (l.drop k) Q φ2 os2) .normal φ2 os2)):WR P c E0 os0 n l Q φ os:=by
 intro ops lo h1 E a R hf;rw[ZDQ]at h;obtain⟨ok,φ',os',h2,rfl,φ2,os2,hw,h3⟩:=h;obtain⟨⟨ok2,q⟩,h4,h5⟩:=Zh h2;simp at h5;obtain⟨rfl,rfl⟩:=h5;obtain⟨i1,i2⟩:=ZKb _ k lo l h1;rw[←List.take_append_drop k lo];refine ZQ3 hS R.rel hf i1 h4 (fun E' a' R' e' f'=> ?_);obtain⟨E2,hE,R2,f2⟩:=hw E' a' ⟨R',R.evo.trans e'⟩ (f'.keep ks);rw[←hE];exact h3 ops _ i2 E2 a' R2 f2
theorem WI.cutA {S:Tabs} (hS:SsOk P S) (ks:List Nat) (k:Nat) {l:List IOp} (h:Yi (YD S true φ os (l.take k)) (fun φ1 os1=> ∃φ2 os2,Wk c E0 os0 n (Go.Ab.keep ks φ1) os1 φ2 os2∧kN (fun φ2 os2=>WR P c E0 os0 n (l.drop k) Q φ2 os2) .normal φ2 os2)):WI P c E0 os0 n (.reg l) Q φ os:=
 WR.reg (WR.cut hS ks k h)
def X.nn0:X→X
 | .nils=> .sl []
 |x=>x
theorem VX.nn0 {w:World} {st:Nat→Nat→Prop} {x:X} {v:Value} (h:VX w st x v):VX w st x.nn0 v:=by
 unfold X.nn0;split
 ·exact h.nn
 ·exact h
def D.nn1:D→D
 | .x (.sl rs)=> .x (.sl (rs.map (List.map X.nn0)))
 |d=>d
theorem V.nn1 {E:Env} {os:List Ob} {d:D} {v:Value} (h:V E os d v):V E os d.nn1 v:=by
 unfold D.nn1;split
 ·cases h with
  |x h=>
  cases h with
  |sl _ a n c sz val hn hc hm hsz hcell hnil hsp hval=>
   refine .x (.sl _ a n c sz val (by simpa using hn) hc hm (fun r hr=> ?_) hcell hnil hsp (fun i j r x hr hx=> ?_))
   ·obtain⟨r0,h0,rfl⟩:=List.mem_map.1 hr;rw[List.length_map];exact hsz r0 h0
   ·rw[YA]at hr;obtain⟨r0,h0,rfl⟩:=Zh hr;rw[YA]at hx;obtain⟨x0,hx0,rfl⟩:=Zh hx;exact(hval i j r0 x0 h0 hx0).nn0
 ·exact h
def ZJr (φ:List (Nat×D)):List (Nat×D):=φ.map fun p=>(p.1,p.2.nn1)
theorem Zbb (φ:List (Nat×D)) (t:Nat):get (ZJr φ) t=(get φ t).nn1:=by
 induction φ with
 |nil=>rfl
 |cons p φ ih=>
  obtain⟨u,d⟩:=p;simp only[ZJr,List.map_cons,get];split
  ·rfl
  ·exact ih
theorem Wk.nn1:Wk c E0 os0 n φ os (ZJr φ) os:=fun E a R hf=>⟨E,rfl,R,hf.size,hf.defers,fun t=>by rw[Zbb];exact(hf.slot t).nn1⟩
theorem Zfq {φ':List (Nat×D)} (h: ∃φ2 os2,Wk c E0 os0 n φ' os φ2 os2∧Q .normal φ2 os2) (hp:ZJr φ=φ':=by simp only[ZJr,D.nn1,X.nn0,List.map_cons,List.map_nil];rfl): ∃φ2 os2,Wk c E0 os0 n φ os φ2 os2∧Q .normal φ2 os2:=by
 obtain⟨φ2,os2,h1,h2⟩:=h;subst hp;exact⟨φ2,os2,Wk.nn1.trans h1,h2⟩
end Go.Ab
end
