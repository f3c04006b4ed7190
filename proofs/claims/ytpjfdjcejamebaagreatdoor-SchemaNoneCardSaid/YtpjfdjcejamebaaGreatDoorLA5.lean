import Derived.Test.YtpjfdjcejamebaaGreatDoorLA4
import Derived.LoopN
import Derived.Lib.SlKeysI
set_option linter.unusedSimpArgs false
set_option linter.unusedVariables false
section
namespace Go.Ab
open Go.RowKit Go.Bo
def runOpsA (S:Tabs):Bool→List (Nat×D)→List Ob→List IOp→Option (Bool×List (Nat×D)×List Ob)
 |b,φ,os,[]=>some (b,φ,os)
 |b,φ,os,o::l=>match stepOp S φ os o with
  |some r=>runOpsA S (b&&r.1) r.2.1 r.2.2 l
  |none=>none
theorem runOpsA_eq (S:Tabs): ∀(l:List IOp) (b:Bool) (φ:List (Nat×D)) (os:List Ob),runOpsA S b φ os l=(runOps S φ os l).map fun q=>(b&&q.1,q.2)
 | [],b,φ,os=>by simp[runOpsA,runOps]
 |o::l,b,φ,os=>by
  simp only[runOpsA,runOps]
  cases stepOp S φ os o with
  |none=>rfl
  |some r=>
   simp only[Option.bind_some,runOpsA_eq S l]
   cases runOps S r.2.1 r.2.2 l with
   |none=>rfl
   |some q=>simp[Bool.and_assoc]
def runDA (S:Tabs) (os0:List Ob) (k:Nat) (rs:List Nat):Nat→Bool→List (Nat×D)→Nat→List Ob→List Ob→Option (List Ob)→List IOp→Option (Bool×List (Nat×D)×List Ob)
 |_,b,φ,_,_,C,last,[]=>some (b,φ,last.getD (os0++C))
 |i,b,φ,id,os,C,last,o::l=>
  if o.e.frame then match evQ S φ [] o with
   |some r=>runDA S os0 k rs (i+1) (b&&r.1) (putO φ o.dst r.2) id os C last l
   |none=>none
  else if memB i rs then match evQ S φ os0 o with
   |some r=>runDA S os0 k rs (i+1) (b&&r.1) (putO φ o.dst r.2) id os C last l
   |none=>none
  else if i<k then match evQ S φ os0 o with
   |some r=>runDA S os0 k rs (i+1) (b&&r.1) (putO φ o.dst r.2) id os C last l
   |none=>match nearQ φ os o with
    |some r=>runDA S os0 k rs (i+1) (b&&r.1) (putO φ o.dst r.2) id os C last l
    |none=>match evK S φ os0 id o with
     |some r=>runDA S os0 k rs (i+1) (b&&r.1) (putO φ o.dst r.2.1) (id+1) (os++ [r.2.2]) (C++ [r.2.2]) last l
     |none=>none
  else match evA S φ os o with
   |some r=>runDA S os0 k rs (i+1) (b&&(r.1&&(match rs with| []=>true|_=>prefB os0 r.2.2))) (putO φ o.dst r.2.1) id r.2.2 C (some r.2.2) l
   |none=>none
theorem preG_none (rs:List Nat) (os0:List Ob) (G):preG rs os0 (none::G)=preG rs os0 G:=by cases rs<;>rfl
theorem preG_some (rs:List Nat) (os0:List Ob) (x:List Ob) (G):preG rs os0 (some x::G)=((match rs with| []=>true|_=>prefB os0 x)&&preG rs os0 G):=by cases rs<;>rfl
theorem lookS_true_none (G:List (Option (List Ob))) (i:Nat) (b:List Ob):lookS (none::G) (fun _=>true) i b=lookS G (fun _=>true) 0 b:=by
 simp only[lookS];exact lookS_congr _ _ _ _ _ (fun _ _ _=>rfl)|>.trans (by
  have: ∀(G:List (Option (List Ob))) (i j:Nat) (b:List Ob),lookS G (fun _=>true) i b=lookS G (fun _=>true) j b:=by
   intro G
   induction G with
   |nil=>intro i j b;rfl
   |cons x G ih=>intro i j b;cases x<;>simp only[lookS]<;>exact ih _ _ _
  exact this _ _ _ _)
theorem lookS_true_some (G:List (Option (List Ob))) (i:Nat) (b x:List Ob):lookS (some x::G) (fun _=>true) i b=lookS G (fun _=>true) 0 x:=by
 have: ∀(G:List (Option (List Ob))) (i j:Nat) (b:List Ob),lookS G (fun _=>true) i b=lookS G (fun _=>true) j b:=by
  intro G
  induction G with
  |nil=>intro i j b;rfl
  |cons x G ih=>intro i j b;cases x<;>simp only[lookS]<;>exact ih _ _ _
 simp only[lookS,if_true];exact this _ _ _ _
theorem runDA_eq (S:Tabs) (os0:List Ob) (k:Nat) (rs:List Nat): ∀(l:List IOp) (i:Nat) (b:Bool) (φ:List (Nat×D)) (id:Nat) (os C:List Ob) (last:Option (List Ob)),
  runDA S os0 k rs i b φ id os C last l=(runR S os0 k rs i φ id os l).map fun q=>(b&&(q.1&&preG rs os0 q.2.2),recφ φ q.2.1,lookS q.2.2 (fun _=>true) 0 (last.getD (os0++C++recO q.2.1)))
 | [],i,b,φ,id,os,C,last=>by
  have:preG rs os0 []=true:=by cases rs<;>rfl
  simp[runDA,runR,recφ,recO,lookS,this]
 |o::l,i,b,φ,id,os,C,last=>by
  simp only[runDA,runR]
  split
  ·cases evQ S φ [] o with
   |none=>rfl
   |some r=>
    simp only[Option.bind_some,runDA_eq S os0 k rs l]
    cases runR S os0 k rs (i+1) (putO φ o.dst r.2) id os l with
    |none=>rfl
    |some q=>simp only[Option.map_some,Bool.and_assoc,recφ,recO,preG_none,lookS_true_none]
  ·split
   ·cases evQ S φ os0 o with
    |none=>rfl
    |some r=>
     simp only[Option.bind_some,runDA_eq S os0 k rs l]
     cases runR S os0 k rs (i+1) (putO φ o.dst r.2) id os l with
     |none=>rfl
     |some q=>simp only[Option.map_some,Bool.and_assoc,recφ,recO,preG_none,lookS_true_none]
   ·split
    ·cases evQ S φ os0 o with
     |some r=>
      simp only[runDA_eq S os0 k rs l]
      cases runR S os0 k rs (i+1) (putO φ o.dst r.2) id os l with
      |none=>rfl
      |some q=>simp only[Option.map_some,Bool.and_assoc,recφ,recO,preG_none,lookS_true_none]
     |none=>
      cases nearQ φ os o with
      |some r=>
       simp only[runDA_eq S os0 k rs l]
       cases runR S os0 k rs (i+1) (putO φ o.dst r.2) id os l with
       |none=>rfl
       |some q=>simp only[Option.map_some,Bool.and_assoc,recφ,recO,preG_none,lookS_true_none]
      |none=>
       cases evK S φ os0 id o with
       |none=>rfl
       |some r=>
        simp only[Option.bind_some,runDA_eq S os0 k rs l]
        cases runR S os0 k rs (i+1) (putO φ o.dst r.2.1) (id+1) (os++ [r.2.2]) l with
        |none=>rfl
        |some q=>simp only[Option.map_some,Bool.and_assoc,recφ,recO,preG_none,lookS_true_none,List.append_assoc,List.cons_append,List.nil_append]
    ·cases evA S φ os o with
     |none=>rfl
     |some r=>
      simp only[Option.bind_some,runDA_eq S os0 k rs l]
      cases runR S os0 k rs (i+1) (putO φ o.dst r.2.1) id r.2.2 l with
      |none=>rfl
      |some q=>simp only[Option.map_some,Bool.and_assoc,recφ,recO,preG_some,lookS_true_some,Option.getD_some];congr 1;simp only[ξP,and_true];ac_rfl
section
variable {P:Program} {c:Ctx} {E0:Env} {os0 os:List Ob} {n:Nat} {Q:Exit→List (Nat×D)→List Ob→Prop} {φ:List (Nat×D)}
theorem WI.regA {S:Tabs} (hS:SsOk P S) (ks:List Nat) {l:List IOp} (h: ∀K:List (Nat×D)→List Ob→Prop,(∀φ' os',Q .normal φ' os'→K φ' os')→Res (runOpsA S true φ os l) (fun φ' os'=>K (Go.Ab.keep ks φ') os')):WI P c E0 os0 n (.reg l) Q φ os:=
 WI.regK hS ks (fun K hK=>by
  have:=h K hK
  rw[runOpsA_eq]at this
  obtain⟨ok,φ',os',h1,h2,h3⟩:=this
  obtain⟨⟨ok2,q⟩,h4,h5⟩:=ξM h1
  simp at h5
  obtain⟨rfl,rfl⟩:=h5
  exact⟨_,_,_,h4,h2,h3⟩)
theorem WI.dregA {S:Tabs} (hS:SsOk P S) (ks:List Nat) {k:Nat} {rs:List Nat} {l:List IOp} (h: ∀K:List (Nat×D)→List Ob→Prop,(∀φ' os',Q .normal φ' os'→K φ' os')→Res (runDA S os k rs 0 true φ os.length os [] none l) (fun φ' os'=>K (Go.Ab.keep ks φ') os')):WI P c E0 os0 n (.dreg k rs l) Q φ os:=
 WI.dregK hS ks (fun K hK=>by
  have:=h K hK
  rw[runDA_eq]at this
  obtain⟨ok,φ',os',h1,h2,h3⟩:=this
  obtain⟨q,h4,h5⟩:=ξM h1
  simp at h5
  obtain⟨h5,rfl,rfl⟩:=h5
  refine⟨_,_,_,?_,h5.trans h2,h3⟩
  simp only[runD,h4,Option.map_some])
end
theorem get_order (φ:List (Nat×D)): ∀(ts:List Nat) (t:Nat),get (ts.map fun u=>(u,get φ u)) t=get φ t∨get (ts.map fun u=>(u,get φ u)) t= .und
 | [],t=> .inr rfl
 |u::ts,t=>by
  simp only[List.map_cons,get]
  split
  ·rename_i h;subst h;exact .inl rfl
  ·exact get_order φ ts t
theorem WI.order {P:Program} {c:Ctx} {E0:Env} {os0 os:List Ob} {n:Nat} {Q:Exit→List (Nat×D)→List Ob→Prop} {φ:List (Nat×D)} {ic:IC} (ts:List Nat) (h:WI P c E0 os0 n ic Q (ts.map fun u=>(u,get φ u)) os):WI P c E0 os0 n ic Q φ os:=
 WI.weak (fun E _ R hf=>⟨E,rfl,R,hf.size,hf.defers,fun t=>by
  rcases get_order φ ts t with h|h
  ·rw[h];exact hf.slot t
  ·rw[h];exact .und _⟩) h
mutual
theorem X.beq_refl: ∀x:X,X.beq x x=true
 | .int k n=>by simp[X.beq]
 | .bool a=>by simp[X.beq]
 | .str s=>by simp[X.beq]
 | .nilp=>rfl
 | .nils=>rfl
 | .sl a=>by simp only[X.beq];exact X.beqR_refl a
theorem X.beqR_refl: ∀a:List (List X),X.beqR a a=true
 | []=>rfl
 |r::l=>by simp only[X.beqR,ξa];exact⟨X.beqL_refl r,X.beqR_refl l⟩
theorem X.beqL_refl: ∀a:List X,X.beqL a a=true
 | []=>rfl
 |x::l=>by simp only[X.beqL,ξa];exact⟨X.beq_refl x,X.beqL_refl l⟩
end
mutual
theorem D.beq_refl: ∀d:D,D.beq d d=true
 | .x a=>by simp only[D.beq];exact X.beq_refl a
 | .ref a b c d=>by simp[D.beq]
 | .ptr a b=>by simp[D.beq]
 | .eptr a b c d=>by simp[D.beq]
 | .vptr a=>by simp only[D.beq];exact X.beqL_refl a
 | .mref a=>by simp[D.beq]
 | .mnil=>rfl
 | .iref a b=>by simp[D.beq]
 | .stk a b=>by simp[D.beq]
 | .bref a b c=>by simp[D.beq]
 | .agg a=>by simp only[D.beq];exact D.beqL_refl a
 | .tup a=>by simp only[D.beq];exact D.beqL_refl a
 | .full a=>by simp only[D.beq];exact X.beqR_refl a
 | .nz a=>by simp only[D.beq];exact X.beqR_refl a
 | .fn f a=>by simp only[D.beq,ξa];exact⟨by simp,D.beqL_refl a⟩
 | .opt a d=>by simp only[D.beq,ξa];exact⟨by simp,D.beq_refl d⟩
 | .und=>rfl
theorem D.beqL_refl: ∀a:List D,D.beqL a a=true
 | []=>rfl
 |e::l=>by simp only[D.beqL,ξa];exact⟨D.beq_refl e,D.beqL_refl l⟩
end
theorem beqR_refl: ∀a:List (List D),beqR a a=true
 | []=>rfl
 |r::l=>by simp only[beqR,ξa];exact⟨D.beqL_refl r,beqR_refl l⟩
theorem beqP_refl (p:Pr):beqP p p=true:=by simp only[beqP,ξa];exact⟨X.beqL_refl p.1,D.beqL_refl p.2⟩
theorem beqM_refl: ∀a:List Pr,beqM a a=true
 | []=>rfl
 |p::l=>by simp only[beqM,ξa];exact⟨beqP_refl p,beqM_refl l⟩
theorem beqO_refl: ∀a:Option Pr,beqO a a=true
 |none=>rfl
 |some p=>beqP_refl p
theorem Ob.beq_refl (o:Ob):Ob.beq o o=true:=by
 cases o with
 |box ds=>simp only[Ob.beq];exact D.beqL_refl ds
 |rows f e s rs=>simp only[Ob.beq,ξa];exact⟨by simp,Nat.beq_refl e,Nat.beq_refl s,X.beqR_refl rs⟩
 |drw e s rs=>simp only[Ob.beq,ξa];exact⟨Nat.beq_refl e,Nat.beq_refl s,beqR_refl rs⟩
 |frz s rs=>simp only[Ob.beq,ξa];exact⟨Nat.beq_refl s,X.beqR_refl rs⟩
 |mpo dk ag l=>simp only[Ob.beq,ξa];exact⟨by simp,by simp,beqM_refl l⟩
 |mit dk ag l it R cur=>simp only[Ob.beq,ξa];exact⟨by simp,by simp,beqM_refl l,Nat.beq_refl it,beqM_refl R,beqO_refl cur⟩
 |mpn dk ag l key sid=>simp only[Ob.beq,ξa];exact⟨by simp,by simp,beqM_refl l,X.beqL_refl key,Nat.beq_refl sid⟩
 |itr=>rfl
 |stp=>rfl
 |nit=>rfl
 |sit s pos=>simp only[Ob.beq,ξa];exact⟨by simp,Nat.beq_refl pos⟩
 |dead=>rfl
def optV (φ:List (Nat×D)):Option IO→Option D
 |none=>none
 |some l=>some (opv φ l)
def slcStrD (dx:D) (lo hi mx:Option D):Option (Bool×D):=
 match dx.val with
 | .x (.str s)=>match lo,hi,mx with
  |none,none,none=>some (dx.cond,.x (.str s))
  |some l,none,none=>(intOf? l.val).map fun(n:Int)=>(dx.cond&&(l.cond&&(decide (0≤n)&&decide (n≤s.length))),.x (.str (s.drop n.toNat)))
  |none,some h,none=>(intOf? h.val).map fun(m:Int)=>(dx.cond&&(h.cond&&(decide (0≤m)&&decide (m≤s.length))),.x (.str (s.take m.toNat)))
  |some l,some h,none=>(intOf? l.val).bind fun(n:Int)=>(intOf? h.val).map fun(m:Int)=>(dx.cond&&((l.cond&&h.cond)&&(decide (0≤n)&&(decide (n≤m)&&decide (m≤s.length)))),.x (.str ((s.take m.toNat).drop n.toNat)))
  |_,_,_=>none
 |_=>none
def slcSlD (os:List Ob) (sz:Nat) (dx:D) (lo hi mx:Option D):Option (Bool×D):=
 match dx.val with
 | .x .nils=>(zeroO (lo)).bind fun p=>(zeroO (hi)).bind fun q=>(zeroO (mx)).map fun r=>(dx.cond&&((mx.isNone||hi.isSome)&&(p&&(q&&r))),.x .nils)
 | .x (.sl rs)=>match lo,hi,mx with
  |none,none,none=>some (dx.cond,.x (.sl rs))
  |some l,none,none=>(intOf? l.val).map fun(n:Int)=>(dx.cond&&(l.cond&&(decide (0≤n)&&(decide (n≤rs.length)&&rs.all fun r=>decide (r.length=sz)))),.x (.sl (rs.drop n.toNat)))
  |none,some h,none=>(intOf? h.val).map fun(m:Int)=>(dx.cond&&(h.cond&&(decide (0≤m)&&(decide (m≤rs.length)&&rs.all fun r=>decide (r.length=sz)))),.x (.sl (rs.take m.toNat)))
  |some l,some h,none=>(intOf? l.val).bind fun(n:Int)=>(intOf? h.val).map fun(m:Int)=>(dx.cond&&((l.cond&&h.cond)&&(decide (0≤n)&&(decide (n≤m)&&(decide (m≤rs.length)&&rs.all fun r=>decide (r.length=sz))))),.x (.sl ((rs.take m.toNat).drop n.toNat)))
  |l,some h,some mi=>(zeroO l).bind fun z=>(intOf? h.val).bind fun(n:Int)=>(intOf? mi.val).map fun(m:Int)=>(dx.cond&&(z&&(h.cond&&(mi.cond&&(decide (0≤n)&&(decide (n≤rs.length)&&(decide (n=m)&&rs.all fun r=>decide (r.length=sz))))))),.full (rs.take n.toNat))
  |_,_,_=>none
 | .ref id ext off len=>match os[id]? with
  |some o=>match o.slice? with
   |some (sz',rs)=>match lo,hi,mx with
    |some l,none,none=>(intOf? l.val).map fun(n:Int)=>(dx.cond&&(l.cond&&(decide (sz'=sz)&&(decide (rs.length=ext)&&(decide (0≤n)&&decide (n≤len))))),.ref id ext (off+n.toNat) (len-n.toNat))
    |none,some h,none=>(intOf? h.val).map fun(m:Int)=>(dx.cond&&(h.cond&&(decide (sz'=sz)&&(decide (rs.length=ext)&&(decide (0≤m)&&decide (m≤len))))),.ref id ext off m.toNat)
    |some l,some h,none=>(intOf? l.val).bind fun(n:Int)=>(intOf? h.val).map fun(m:Int)=>(dx.cond&&((l.cond&&h.cond)&&(decide (sz'=sz)&&(decide (rs.length=ext)&&(decide (0≤n)&&(decide (n≤m)&&decide (m≤len)))))),.ref id ext (off+n.toNat) (m.toNat-n.toNat))
    |_,_,_=>none
   |none=>none
  |none=>none
 |_=>none
theorem slcStr_eq (φ:List (Nat×D)) (x:IO) (lo hi mx:Option IO):slcStr φ x lo hi mx=slcStrD (opv φ x) (optV φ lo) (optV φ hi) (optV φ mx):=by
 cases lo<;>cases hi<;>cases mx<;>rfl
theorem slcSl_eq (φ:List (Nat×D)) (os:List Ob) (sz:Nat) (x:IO) (lo hi mx:Option IO):slcSl φ os sz x lo hi mx=slcSlD os sz (opv φ x) (optV φ lo) (optV φ hi) (optV φ mx):=by
 cases lo<;>cases hi<;>cases mx<;>rfl
def valsL (φ:List (Nat×D)):List IO→List D
 | []=> []
 |y::ys=>(opv φ y).val::valsL φ ys
def condsL (φ:List (Nat×D)):List IO→Bool
 | []=>true
 |y::ys=>(opv φ y).cond&&condsL φ ys
theorem valsL_map (φ:List (Nat×D)): ∀l,(l.map fun y=>(opv φ y).val)=valsL φ l
 | []=>rfl
 |y::ys=>by simp[valsL,valsL_map φ ys]
theorem condsL_all (φ:List (Nat×D)): ∀l:List IO,(l.all fun y=>(opv φ y).cond)=condsL φ l
 | []=>rfl
 |y::ys=>by simp[condsL,condsL_all φ ys]
def callT1 (T:FuncId→List D→List Ob→Option (Bool×D×List Ob)) (df:D) (vs:List D) (cs:Bool) (os:List Ob):Option (Bool×D×List Ob):=match df.val with
 | .fn g caps=>(T g (vs++caps) os).map fun r=>(df.cond&&(cs&&r.1),r.2)
 |_=>none
def callR1 (T:FuncId→List D→List Ob→Option (Bool×D)) (df:D) (vs:List D) (cs:Bool) (os:List Ob):Option (Bool×D):=match df.val with
 | .fn g caps=>(T g (vs++caps) os).map fun r=>(df.cond&&(cs&&r.1),r.2)
 |_=>none
def callK1 (T:FuncId→List D→List Ob→Option (Bool×(Nat→D)×Ob)) (df:D) (vs:List D) (cs:Bool) (os:List Ob) (id:Nat):Option (Bool×D×Ob):=match df.val with
 | .fn g caps=>(T g (vs++caps) os).map fun r=>(df.cond&&(cs&&r.1),r.2.1 id,r.2.2)
 |_=>none
theorem callT_eq (T:FuncId→List D→List Ob→Option (Bool×D×List Ob)) (φ:List (Nat×D)) (os:List Ob) (e:IE):callT T φ os e=match e with
  | .call f xs=>callT1 T (opv φ f) (valsL φ xs) (condsL φ xs) os
  |_=>none:=by
 cases e<;>first|rfl|skip
 simp only[callT,valsL_map,condsL_all,callT1]
 generalize(opv φ _).val=u
 cases u<;>rfl
theorem callR_eq (T:FuncId→List D→List Ob→Option (Bool×D)) (φ:List (Nat×D)) (os:List Ob) (e:IE):callR T φ os e=match e with
  | .call f xs=>callR1 T (opv φ f) (valsL φ xs) (condsL φ xs) os
  |_=>none:=by
 cases e<;>first|rfl|skip
 simp only[callR,valsL_map,condsL_all,callR1]
 generalize(opv φ _).val=u
 cases u<;>rfl
theorem callK_eq (T:FuncId→List D→List Ob→Option (Bool×(Nat→D)×Ob)) (φ:List (Nat×D)) (os:List Ob) (id:Nat) (e:IE):callK T φ os id e=match e with
  | .call f xs=>callK1 T (opv φ f) (valsL φ xs) (condsL φ xs) os id
  |_=>none:=by
 cases e<;>first|rfl|skip
 simp only[callK,valsL_map,condsL_all,callK1]
 generalize(opv φ _).val=u
 cases u<;>rfl
section
variable {S:Tabs} {os0 os C:List Ob} {k i id:Nat} {rs:List Nat} {φ φ':List (Nat×D)} {os':List Ob} {last:Option (List Ob)} {o:IOp} {l:List IOp} {ok:Bool} {d:D} {ob:Ob} {K:List (Nat×D)→List Ob→Prop}
theorem bytes_take (s:List UInt8):(s.map byteRow).take s.length=s.map byteRow:=ξT (by simp)
theorem rows_str (l:List (List UInt8)) (w:List UInt8):rows rStr l++ [[X.str w]]=rows rStr (l++ [w]):=rows_app rStr l [w]
theorem bytes_get (s:List UInt8) (i:Nat) (h:i<s.length):(s.map byteRow)[i]? =some [X.int .u8 (s[i].toNat:Int)]:=by simp[byteRow,h]
theorem bytes_len (s:List UInt8):(s.map byteRow).length=s.length:=List.length_map ..
theorem bytes_row (s:List UInt8):(s.map byteRow).map rowByte=s:=by
 rw[List.map_map]
 conv=>rhs;rw[←List.map_id s]
 refine List.map_congr_left (fun b _=> ?_)
 simp[rowByte,byteRow]
theorem bytes_all (s:List UInt8):((s.map byteRow).all isByte)=true:=by
 rw[List.all_eq_true];intro r hr
 obtain⟨b,_,rfl⟩:=List.mem_map.1 hr
 rfl
theorem un_nil {α:Type} (c:RC α):unrows c []=some []:=rfl
theorem beqN_t (n:Nat):Nat.beq n n=true:=Nat.beq_refl n
theorem beqN_f (m n:Nat) (h:m≠n):Nat.beq m n=false:=by
 cases hb:Nat.beq m n with
 |false=>rfl
 |true=>exact absurd (Nat.eq_of_beq_eq_true hb) h
theorem or_eqf (b:Bool):(b||b==false)=true:=by cases b<;>rfl
theorem map_mpo (dk:KK) (ag:Bool) (l:List Pr):(Ob.mpo dk ag l).map? =some (dk,ag,l):=rfl
theorem map_mit (dk:KK) (ag:Bool) (l:List Pr) (it:Nat) (R:List Pr) (cur:Option Pr):(Ob.mit dk ag l it R cur).map? =some (dk,ag,l):=rfl
theorem map_mpn (dk:KK) (ag:Bool) (l:List Pr) (key:List X) (sid:Nat):(Ob.mpn dk ag l key sid).map? =some (dk,ag,l):=rfl
theorem upd_mpo (dk:KK) (ag:Bool) (l:List Pr):(Ob.mpo dk ag l).upd? =some (dk,ag,l):=rfl
theorem upd_mpn (dk:KK) (ag:Bool) (l:List Pr) (key:List X) (sid:Nat):(Ob.mpn dk ag l key sid).upd? =some (dk,ag,l):=rfl
theorem key_int (k:IntKind) (n:Int):keyOf (.int k) (.x (.int k n))=some [.int k n]:=by simp[keyOf]
theorem key_str (s:List UInt8):keyOf .str (.x (.str s))=some [.str s]:=rfl
theorem keyD_int (k:IntKind) (n:Int):keyD (.int k) [.int k n]= .x (.int k n):=rfl
theorem keyD_str (s:List UInt8):keyD .str [.str s]= .x (.str s):=rfl
theorem cell_one (d:D):cellD false [d]=d:=rfl
theorem cell_ag (ds:List D):cellD true ds= .agg ds:=rfl
theorem ag_x (y:X):agD (.x y)=false:=rfl
theorem ag_agg (ds:List D):agD (.agg ds)=true:=rfl
theorem ag_ref (a b c d:Nat):agD (.ref a b c d)=false:=rfl
theorem ag_ptr (a b:Nat):agD (.ptr a b)=false:=rfl
theorem ag_mref (a:Nat):agD (.mref a)=false:=rfl
theorem eqKK (k:KK):(k=k)=True:=eq_self k
theorem eqBB (b:Bool):(b=b)=True:=eq_self b
theorem eqNN (b:Nat):(b=b)=True:=eq_self b
theorem mget_nil (k:List X):mgetX [] k=none:=rfl
def strI (N it:Nat) (_:List (Nat×D)) (os:List Ob):Nat:=match os[it]? with|some (.sit _ p)=>N-p|_=>0
def mapI (mid:Nat) (_:List (Nat×D)) (os:List Ob):Nat:=match os[mid]? with|some (.mit _ _ _ _ R _)=>R.length|_=>0
theorem osN (h:K φ os):Res (runOpsA S true φ os []) K:=⟨true,φ,os,rfl,rfl,h⟩
theorem osS (he:stepOp S φ os o=some (ok,φ',os')) (hok:ok=true) (h:Res (runOpsA S true φ' os' l) K):Res (runOpsA S true φ os (o::l)) K:=by
 subst hok
 simp only[runOpsA,he,Bool.and_true]
 exact h
theorem dsN (h:K φ (last.getD (os0++C))):Res (runDA S os0 k rs i true φ id os C last []) K:=⟨true,φ,_,rfl,rfl,h⟩
theorem dsF (hf:o.e.frame=true) (he:(evQ S φ [] o).map (fun r=>(r.1,putO φ o.dst r.2))=some (ok,φ')) (hok:ok=true) (h:Res (runDA S os0 k rs (i+1) true φ' id os C last l) K):Res (runDA S os0 k rs i true φ id os C last (o::l)) K:=by
 subst hok
 obtain⟨r,h1,h2⟩:=ξM he
 simp only[ξP]at h2
 obtain⟨h2,rfl⟩:=h2
 simp only[runDA,hf,if_true,h1,h2,Bool.and_true]
 exact h
theorem dsQ (hf:o.e.frame=false) (hm:memB i rs=false) (hk:Nat.ble (i+1) k=true) (he:(evQ S φ os0 o).map (fun r=>(r.1,putO φ o.dst r.2))=some (ok,φ')) (hok:ok=true) (h:Res (runDA S os0 k rs (i+1) true φ' id os C last l) K):Res (runDA S os0 k rs i true φ id os C last (o::l)) K:=by
 subst hok
 obtain⟨r,h1,h2⟩:=ξM he
 simp only[ξP]at h2
 obtain⟨h2,rfl⟩:=h2
 have hk':i<k:=ξ hk
 simp only[runDA,hf,hm,if_true,h1,h2,hk',Bool.and_true,Bool.false_eq_true,if_false]
 exact h
theorem nearQ_evK {S:Tabs} {φ:List (Nat×D)} {os0 os:List Ob} {id:Nat} {o:IOp} {r:Bool×D×Ob} (h:evK S φ os0 id o=some r):nearQ φ os o=none:=by
 obtain⟨dst,e,g⟩:=o
 cases g with
 |some p=>rfl
 |none=>
  cases e with
  |b2s x=>simp[evK,evC,evC1,callK]at h
  |_=>rfl
theorem dsK (hf:o.e.frame=false) (hm:memB i rs=false) (hk:Nat.ble (i+1) k=true) (hn:evQ S φ os0 o=none) (he:(evK S φ os0 id o).map (fun r=>(r.1,putO φ o.dst r.2.1,r.2.2))=some (ok,φ',ob)) (hok:ok=true) (h:Res (runDA S os0 k rs (i+1) true φ' (id+1) (os++ [ob]) (C++ [ob]) last l) K):Res (runDA S os0 k rs i true φ id os C last (o::l)) K:=by
 subst hok
 obtain⟨r,h1,h2⟩:=ξM he
 simp only[ξP]at h2
 obtain⟨h2,rfl,rfl⟩:=h2
 have hk':i<k:=ξ hk
 simp only[runDA,hf,hm,if_true,hn,nearQ_evK h1,h1,h2,hk',Bool.and_true,Bool.false_eq_true,if_false]
 exact h
theorem dsA (hf:o.e.frame=false) (hm:memB i rs=false) (hk:Nat.ble (i+1) k=false) (he:(evA S φ os o).map (fun r=>(r.1&&(match rs with| []=>true|_=>prefB os0 r.2.2),putO φ o.dst r.2.1,r.2.2))=some (ok,φ',os')) (hok:ok=true) (h:Res (runDA S os0 k rs (i+1) true φ' id os' C (some os') l) K):Res (runDA S os0 k rs i true φ id os C last (o::l)) K:=by
 subst hok
 obtain⟨r,h1,h2⟩:=ξM he
 simp only[ξP]at h2
 obtain⟨h2,rfl,rfl⟩:=h2
 have hk': ¬i<k:=fun h=>by have:=Nat.ble_eq_true_of_le h;rw[Nat.succ_eq_add_one,hk]at this;cases this
 simp only[runDA,hf,hm,h1,h2,hk',Bool.true_and,Bool.false_eq_true,if_false]
 exact h
end
section
variable {κ β:Type} (kc:κ→List X) (vc:β→List X)
def encM (L:List (κ×β)):List Pr:=L.map fun p=>(kc p.1,(vc p.2).map D.x)
theorem encM_len (L:List (κ×β)):(encM kc vc L).length=L.length:=by simp[encM]
theorem encM_at (L:List (κ×β)) (i:Nat):(encM kc vc L)[i]? =(L[i]?).map fun p=>(kc p.1,(vc p.2).map D.x):=by simp[encM]
theorem renL_x (f:Nat→Nat) (l:List X):renL f (l.map D.x)=l.map D.x:=by
 rw[renL_map,List.map_map];rfl
theorem inL_x (p:Nat→Bool) (l:List X):inL p (l.map D.x)=true:=by
 rw[inL_all,List.all_eq_true];intro d hd;obtain⟨x,_,rfl⟩:=List.mem_map.1 hd;rfl
theorem idsL_x (l:List X):idsL (l.map D.x)= []:=by
 induction l with
 |nil=>rfl
 |cons x l ih=>simp only[List.map_cons,idsL,idsD,ih];rfl
theorem on_x (ρ:List Nat) (os:List Ob) (l:List X):(l.map D.x).map (onF ρ os)=l.map D.x:=by
 rw[List.map_map];refine List.map_congr_left fun x _=> ?_
 simp only[Function.comp,onF,D.vw,D.on,D.inP,if_true]
theorem encM_ren (f:Nat→Nat) (L:List (κ×β)):(encM kc vc L).map (renP f)=encM kc vc L:=by
 rw[encM,List.map_map];refine List.map_congr_left fun p _=> ?_
 simp only[Function.comp,renP,renL_x]
theorem encM_ids (L:List (κ×β)):idsM (encM kc vc L)= []:=by
 induction L with
 |nil=>rfl
 |cons p L ih=>simp only[encM,List.map_cons,idsM,idsL_x]at ih⊢;exact ih
theorem encM_all (p:Nat→Bool) (L:List (κ×β)):(encM kc vc L).all (inPr p)=true:=by
 rw[List.all_eq_true];intro q hq;obtain⟨r,_,rfl⟩:=List.mem_map.1 hq;exact inL_x p _
theorem encM_on (ρ:List Nat) (os:List Ob) (L:List (κ×β)):(encM kc vc L).map (mpP (onF ρ os))=encM kc vc L:=by
 rw[encM,List.map_map];refine List.map_congr_left fun p _=> ?_
 simp only[Function.comp,mpP,on_x]
theorem encM_erase (L:List (κ×β)) (i:Nat):(encM kc vc L).eraseIdx i=encM kc vc (L.eraseIdx i):=by
 induction L generalizing i with
 |nil=>rfl
 |cons p L ih=>cases i with
  |zero=>rfl
  |succ i=>simp only[encM,List.map_cons,List.eraseIdx_cons_succ]at ih⊢;rw[ih]
variable [DecidableEq κ] (hk: ∀a b:κ,keqL (kc a) (kc b)=decide (a=b))
include hk
theorem encM_get (L:List (κ×β)) (c:κ):mgetX (encM kc vc L) (kc c)=(mlook L c).map fun v=>(vc v).map D.x:=by
 induction L with
 |nil=>rfl
 |cons p L ih=>
  simp only[encM,List.map_cons,mgetX,hk]at ih⊢
  by_cases h:c=p.1
  ·simp[mlook,h]
  ·simp only[h,decide_false,Bool.false_eq_true,if_false]
   rw[ih]
   simp[mlook,h]
theorem encM_set (L:List (κ×β)) (c:κ) (v:β):msetX (encM kc vc L) (kc c) ((vc v).map D.x)=encM kc vc (mset L c v):=by
 induction L with
 |nil=>rfl
 |cons p L ih=>
  simp only[encM,List.map_cons,msetX,hk,mset]at ih⊢
  by_cases h:c=p.1
  ·simp[h]
  ·simp only[h,decide_false,Bool.false_eq_true,if_false]
   rw[ih];simp
end
def unM {κ β:Type} (c:RC κ) (d:RC β):List Pr→Option (List (κ×β))
 | []=>some []
 |q::M=>(c.dec q.1).bind fun a=>(plainXs q.2).bind fun xs=>(d.dec xs).bind fun b=>(unM c d M).map fun L=>(a,b)::L
theorem plainXs_map: ∀l:List X,plainXs (l.map D.x)=some l
 | []=>rfl
 |x::l=>by simp only[List.map_cons,plainXs,plainXs_map l,Option.map_some]
theorem un_M {κ β:Type} {c:RC κ} {d:RC β} (hc:c.Good) (hd:d.Good): ∀L:List (κ×β),unM c d (encM c.enc d.enc L)=some L
 | []=>rfl
 |p::L=>by
  have ih:=un_M hc hd L
  simp only[encM,List.map_cons,unM,hc.de,hd.de,plainXs_map,Option.bind_some]at ih⊢
  rw[ih];rfl
theorem unM_inv {κ β:Type} {c:RC κ} {d:RC β} (hc:c.Good) (hd:d.Good): ∀ {M:List Pr} {L:List (κ×β)},unM c d M=some L→M=encM c.enc d.enc L
 | [],L,h=>by cases h;rfl
 |q::M,L,h=>by
  simp only[unM]at h
  obtain⟨a,h1,h⟩:=ξB h
  obtain⟨xs,h2,h⟩:=ξB h
  obtain⟨b,h3,h⟩:=ξB h
  obtain⟨L',h4,rfl⟩:=ξM h
  have e:=unM_inv hc hd h4
  obtain⟨q1,q2⟩:=q
  simp only at h1 h2
  rw[e,plainXs_get h2]
  rw[←hc.ed _ _ h1,←hd.ed _ _ h3]
  rfl
abbrev kcI (n:Int):List X:= [.int .i64 n]
abbrev kcS (s:List UInt8):List X:= [.str s]
theorem hkS (a b:List UInt8):keqL (kcS a) (kcS b)=decide (a=b):=by
 simp only[kcS,keqL,X.keq,Bool.and_true];rw[Bool.eq_iff_iff];simp
section
variable {κ β:Type} [DecidableEq κ]
theorem mset_new {A:List (κ×β)} {c:κ} {w:β} (h:mlook A c=none):mset A c w=A++ [(c,w)]:=by
 induction A with
 |nil=>rfl
 |cons p A ih=>
  by_cases e:c=p.1
  ·simp[mlook,e]at h
  ·have hl:mlook (p::A) c=mlook A c:=by simp[mlook,e]
   rw[hl]at h
   simp[mset,e,ih h]
end
open Go Go.RowKit Go.Bo
theorem zC:type_of% @Option.map_some.{0,0}∧type_of% @Option.bind_some.{0,0}∧type_of% @Bool.and_true∧type_of% @Bool.true_and∧type_of% @Bool.false_eq_true:=
 ⟨@Option.map_some.{0,0},@Option.bind_some.{0,0},@Bool.and_true,@Bool.true_and,@Bool.false_eq_true⟩
theorem zG:type_of% @Bool.not_true∧type_of% @Bool.not_false∧type_of% @Bool.or_true∧type_of% @Bool.true_or∧type_of% @Bool.or_false∧type_of% @Bool.false_or∧type_of% @Bool.and_false∧type_of% @Bool.false_and∧type_of% @beq_self_eq_true.{0}∧type_of% @or_eqf∧type_of% @Bool.and_self∧type_of% @Bool.not_or_self∧type_of% @Bool.or_not_self∧type_of% @beq_true∧type_of% @beq_false∧type_of% @Bool.not_not:=
 ⟨@Bool.not_true,@Bool.not_false,@Bool.or_true,@Bool.true_or,@Bool.or_false,@Bool.false_or,@Bool.and_false,@Bool.false_and,@beq_self_eq_true.{0},@or_eqf,@Bool.and_self,@Bool.not_or_self,@Bool.or_not_self,@beq_true,@beq_false,@Bool.not_not⟩
theorem zL:type_of% @List.getElem?_cons_zero.{0}∧type_of% @List.getElem?_cons_succ.{0}∧type_of% @List.drop_zero.{0}∧type_of% @List.take_zero.{0}∧type_of% @List.drop_succ_cons.{0}∧type_of% @List.take_succ_cons.{0}∧type_of% @List.drop_nil.{0}∧type_of% @List.take_nil.{0}∧type_of% @ξC.{0}∧type_of% @ξN.{0}∧type_of% @List.map_cons.{0,0}∧type_of% @List.map_nil.{0,0}∧type_of% @List.cons_append.{0}∧type_of% @List.nil_append.{0}∧type_of% @List.set_cons_zero.{0}∧type_of% @List.set_cons_succ.{0}∧type_of% @Nat.add_zero∧type_of% @Nat.zero_add∧type_of% @if_true.{1}∧type_of% @decide_true:=
 ⟨@List.getElem?_cons_zero.{0},@List.getElem?_cons_succ.{0},@List.drop_zero.{0},@List.take_zero.{0},@List.drop_succ_cons.{0},@List.take_succ_cons.{0},@List.drop_nil.{0},@List.take_nil.{0},@ξC.{0},@ξN.{0},@List.map_cons.{0,0},@List.map_nil.{0,0},@List.cons_append.{0},@List.nil_append.{0},@List.set_cons_zero.{0},@List.set_cons_succ.{0},@Nat.add_zero,@Nat.zero_add,@if_true.{1},@decide_true⟩
theorem zR:type_of% @rows_len∧type_of% @rows_get∧type_of% @bytes_get∧type_of% @bytes_len∧type_of% @enc_rInt∧type_of% @enc_rStr∧type_of% @enc_rBool∧type_of% @enc_rEnd∧type_of% @enc_rSl∧type_of% @enc_rCat∧type_of% @enc_rVia∧type_of% @Int.toNat_natCast∧type_of% @Int.natCast_nonneg:=
 ⟨@rows_len,@rows_get,@bytes_get,@bytes_len,@enc_rInt,@enc_rStr,@enc_rBool,@enc_rEnd,@enc_rSl,@enc_rCat,@enc_rVia,@Int.toNat_natCast,@Int.natCast_nonneg⟩
theorem zB:type_of% @Bool.or_eq_true∧type_of% @ξa∧type_of% @Bool.not_eq_true'∧type_of% @Bool.or_eq_false_iff∧type_of% @Bool.and_eq_false_iff∧type_of% @Bool.not_eq_false'∧type_of% @ξe∧type_of% @decide_eq_false_iff_not∧type_of% @Bool.not_eq_true∧type_of% @gt_iff_lt.{0}∧type_of% @ge_iff_le.{0}∧type_of% @Int.not_lt∧type_of% @Int.not_le∧type_of% @bne_iff_ne.{0}∧type_of% @ne_eq.{1}∧type_of% @beq_iff_eq.{0}∧type_of% @bne_eq_false_iff_eq.{0}∧type_of% @beq_eq_false_iff_ne.{0}:=
 ⟨@Bool.or_eq_true,@ξa,@Bool.not_eq_true',@Bool.or_eq_false_iff,@Bool.and_eq_false_iff,@Bool.not_eq_false',@ξe,@decide_eq_false_iff_not,@Bool.not_eq_true,@gt_iff_lt.{0},@ge_iff_le.{0},@Int.not_lt,@Int.not_le,@bne_iff_ne.{0},@ne_eq.{1},@beq_iff_eq.{0},@bne_eq_false_iff_eq.{0},@beq_eq_false_iff_ne.{0}⟩
theorem zF:type_of% @zL∧type_of% @zR∧type_of% @Option.map_some.{0,0}∧type_of% @Option.bind_some.{0,0}∧type_of% @Bool.and_true∧type_of% @Bool.true_and∧type_of% @rows_drop∧type_of% @rows_take∧type_of% @rows_app∧type_of% @ξA.{0}∧type_of% @List.take_length.{0}:=
 ⟨@zL,@zR,@Option.map_some.{0,0},@Option.bind_some.{0,0},@Bool.and_true,@Bool.true_and,@rows_drop,@rows_take,@rows_app,@ξA.{0},@List.take_length.{0}⟩
theorem zV:type_of% @List.map_cons.{0,0}∧type_of% @List.map_nil.{0,0}∧type_of% @List.getElem?_cons_zero.{0}∧type_of% @List.getElem?_cons_succ.{0}∧type_of% @List.set_cons_zero.{0}∧type_of% @List.set_cons_succ.{0}∧type_of% @List.getD_cons_zero.{0}∧type_of% @List.getD_cons_succ.{0}∧type_of% @Nat.add_zero∧type_of% @Nat.zero_add∧type_of% @Bool.or_true∧type_of% @Bool.true_or∧type_of% @Bool.or_false∧type_of% @Bool.false_or∧type_of% @Bool.and_true∧type_of% @Bool.true_and∧type_of% @Bool.and_false∧type_of% @Bool.false_and∧type_of% @if_true.{1}∧type_of% @if_false.{1}∧type_of% @rows_len∧type_of% @rows_drop∧type_of% @rows_take∧type_of% @rows_app∧type_of% @ξA.{0}∧type_of% @ξC.{0}∧type_of% @ξN.{0}∧type_of% @beq_self_eq_true.{0}∧type_of% @Bool.false_eq_true∧type_of% @List.drop_zero.{0}∧type_of% @Nat.beq_eq∧type_of% @beqN_t∧type_of% @beqN_f:=
 ⟨@List.map_cons.{0,0},@List.map_nil.{0,0},@List.getElem?_cons_zero.{0},@List.getElem?_cons_succ.{0},@List.set_cons_zero.{0},@List.set_cons_succ.{0},@List.getD_cons_zero.{0},@List.getD_cons_succ.{0},@Nat.add_zero,@Nat.zero_add,@Bool.or_true,@Bool.true_or,@Bool.or_false,@Bool.false_or,@Bool.and_true,@Bool.true_and,@Bool.and_false,@Bool.false_and,@if_true.{1},@if_false.{1},@rows_len,@rows_drop,@rows_take,@rows_app,@ξA.{0},@ξC.{0},@ξN.{0},@beq_self_eq_true.{0},@Bool.false_eq_true,@List.drop_zero.{0},@Nat.beq_eq,@beqN_t,@beqN_f⟩
theorem zW:type_of% @List.getD_cons_zero.{0}∧type_of% @List.getD_cons_succ.{0}∧type_of% @beqN_t∧type_of% @beqN_f∧type_of% @Nat.sub_self∧type_of% @List.append_nil.{0}∧type_of% @Nat.le_refl:=
 ⟨@List.getD_cons_zero.{0},@List.getD_cons_succ.{0},@beqN_t,@beqN_f,@Nat.sub_self,@List.append_nil.{0},@Nat.le_refl⟩
theorem zM:type_of% @zL∧type_of% @zG∧type_of% @zR∧type_of% @zC∧type_of% @decide_false∧type_of% @IntWalk.i64_in∧type_of% @slcStr_eq∧type_of% @slcSl_eq∧type_of% @rows_drop∧type_of% @rows_take∧type_of% @rows_app∧type_of% @all_rStr∧type_of% @all_rInt∧type_of% @all_rAttr∧type_of% @all_rEntry∧type_of% @all_rChange∧type_of% @bytes_row∧type_of% @bytes_all∧type_of% @List.length_replicate.{0}∧type_of% @Option.map_none.{0,0}∧type_of% @Option.bind_none.{0,0}∧type_of% @Bool.cond_true_left∧type_of% @Bool.cond_false_right∧type_of% @List.reverse_cons.{0}∧type_of% @List.reverse_nil.{0}∧type_of% @List.mapM_cons.{0,0,0}∧type_of% @List.mapM_nil.{0,0,0}∧type_of% @Option.pure_def.{0}∧type_of% @Option.bind_eq_bind.{0}∧type_of% @true_and∧type_of% @and_true∧type_of% @if_false.{1}∧type_of% @bne_self_eq_false.{0}∧type_of% @List.all_cons.{0}∧type_of% @List.all_nil.{0}:=
 ⟨@zL,@zG,@zR,@zC,@decide_false,@IntWalk.i64_in,@slcStr_eq,@slcSl_eq,@rows_drop,@rows_take,@rows_app,@all_rStr,@all_rInt,@all_rAttr,@all_rEntry,@all_rChange,@bytes_row,@bytes_all,@List.length_replicate.{0},@Option.map_none.{0,0},@Option.bind_none.{0,0},@Bool.cond_true_left,@Bool.cond_false_right,@List.reverse_cons.{0},@List.reverse_nil.{0},@List.mapM_cons.{0,0,0},@List.mapM_nil.{0,0,0},@Option.pure_def.{0},@Option.bind_eq_bind.{0},@true_and,@and_true,@if_false.{1},@bne_self_eq_false.{0},@List.all_cons.{0},@List.all_nil.{0}⟩
theorem zS:type_of% @zL∧type_of% @zG∧type_of% @zR∧type_of% @zC∧type_of% @Ob.beq_refl∧type_of% @List.reverse_cons.{0}∧type_of% @List.reverse_nil.{0}∧type_of% @bytes_row∧type_of% @bytes_all∧type_of% @un_nil∧type_of% @all_rStr∧type_of% @all_rInt∧type_of% @all_rAttr∧type_of% @all_rEntry∧type_of% @all_rChange∧type_of% @List.length_replicate.{0}∧type_of% @rows_drop∧type_of% @rows_take∧type_of% @rows_app∧type_of% @un_rStr∧type_of% @un_rInt∧type_of% @un_rAttr∧type_of% @un_rEntry∧type_of% @un_rChange∧type_of% @Option.getD_none.{0}∧type_of% @Option.getD_some.{0}∧type_of% @slcStr_eq∧type_of% @slcSl_eq∧type_of% @Option.bind_none.{0,0}∧type_of% @Option.map_none.{0,0}∧type_of% @Res.some_iff∧type_of% @true_and∧type_of% @and_true∧type_of% @if_false.{1}∧type_of% @List.all_cons.{0}∧type_of% @List.all_nil.{0}∧type_of% @List.mapM_cons.{0,0,0}∧type_of% @List.mapM_nil.{0,0,0}∧type_of% @Option.pure_def.{0}∧type_of% @Option.bind_eq_bind.{0}∧type_of% @decide_false∧type_of% @Bool.cond_true_left∧type_of% @Bool.cond_false_right∧type_of% @Bool.not_eq_true'∧type_of% @callT_eq∧type_of% @callR_eq∧type_of% @callK_eq∧type_of% @bne_self_eq_false.{0}∧type_of% @Bool.bne_false∧type_of% @Bool.bne_true:=
 ⟨@zL,@zG,@zR,@zC,@Ob.beq_refl,@List.reverse_cons.{0},@List.reverse_nil.{0},@bytes_row,@bytes_all,@un_nil,@all_rStr,@all_rInt,@all_rAttr,@all_rEntry,@all_rChange,@List.length_replicate.{0},@rows_drop,@rows_take,@rows_app,@un_rStr,@un_rInt,@un_rAttr,@un_rEntry,@un_rChange,@Option.getD_none.{0},@Option.getD_some.{0},@slcStr_eq,@slcSl_eq,@Option.bind_none.{0,0},@Option.map_none.{0,0},@Res.some_iff,@true_and,@and_true,@if_false.{1},@List.all_cons.{0},@List.all_nil.{0},@List.mapM_cons.{0,0,0},@List.mapM_nil.{0,0,0},@Option.pure_def.{0},@Option.bind_eq_bind.{0},@decide_false,@Bool.cond_true_left,@Bool.cond_false_right,@Bool.not_eq_true',@callT_eq,@callR_eq,@callK_eq,@bne_self_eq_false.{0},@Bool.bne_false,@Bool.bne_true⟩
theorem zO:type_of% @map_mpo∧type_of% @map_mit∧type_of% @map_mpn∧type_of% @upd_mpo∧type_of% @upd_mpn∧type_of% @key_int∧type_of% @key_str∧type_of% @keyD_int∧type_of% @keyD_str∧type_of% @cell_one∧type_of% @cell_ag∧type_of% @ag_x∧type_of% @ag_agg∧type_of% @ag_ref∧type_of% @ag_ptr∧type_of% @ag_mref∧type_of% @eqKK∧type_of% @eqBB∧type_of% @eqNN∧type_of% @mget_nil∧type_of% @encM_ren∧type_of% @encM_ids∧type_of% @encM_all∧type_of% @encM_on∧type_of% @encM_len∧type_of% @encM_erase:=
 ⟨@map_mpo,@map_mit,@map_mpn,@upd_mpo,@upd_mpn,@key_int,@key_str,@keyD_int,@keyD_str,@cell_one,@cell_ag,@ag_x,@ag_agg,@ag_ref,@ag_ptr,@ag_mref,@eqKK,@eqBB,@eqNN,@mget_nil,@encM_ren,@encM_ids,@encM_all,@encM_on,@encM_len,@encM_erase⟩
section
variable {P:Program} {c:Ctx} {E0:Env} {os0 os:List Ob} {n:Nat} {Q:Exit→List (Nat×D)→List Ob→Prop} {φ:List (Nat×D)}
theorem WI.regB {S:Tabs} (hS:SsOk P S) (ks:List Nat) {l:List IOp} (h:Res (runOpsA S true φ os l) (fun φ' os'=>Q .normal (Go.Ab.keep ks φ') os')):WI P c E0 os0 n (.reg l) Q φ os:=
 WI.regA hS ks (fun K hK=>by
  obtain⟨ok,φ',os',h1,h2,h3⟩:=h
  exact⟨ok,φ',os',h1,h2,hK _ _ h3⟩)
theorem WI.dregB {S:Tabs} (hS:SsOk P S) (ks:List Nat) {k:Nat} {rs:List Nat} {l:List IOp} (h:Res (runDA S os k rs 0 true φ os.length os [] none l) (fun φ' os'=>Q .normal (Go.Ab.keep ks φ') os')):WI P c E0 os0 n (.dreg k rs l) Q φ os:=
 WI.dregA hS ks (fun K hK=>by
  obtain⟨ok,φ',os',h1,h2,h3⟩:=h
  exact⟨ok,φ',os',h1,h2,hK _ _ h3⟩)
theorem WI.post {ic:IC} (h:WI P c E0 os0 n ic (fun x φ os=> ∃φ2 os2,Wk c E0 os0 n φ os φ2 os2∧Q x φ2 os2) φ os):WI P c E0 os0 n ic Q φ os:=by
 intro code hc E a R hf
 refine wp_mono (h code hc E a R hf) ?_
 rintro x a' w' ⟨E',φ',os',rfl,R',hf',φ2,os2,hw,hq⟩
 obtain⟨E2,e2,R2,f2⟩:=hw E' a' R' hf'
 exact⟨E2,φ2,os2,e2,R2,f2,hq⟩
theorem Wk.refl:Wk c E0 os0 n φ os φ os:=fun E a R hf=>⟨E,rfl,R,hf⟩
theorem Wk.trans {φ1 φ2:List (Nat×D)} {os1 os2:List Ob} (h:Wk c E0 os0 n φ os φ1 os1) (h':Wk c E0 os0 n φ1 os1 φ2 os2):Wk c E0 os0 n φ os φ2 os2:=fun E a R hf=>by
 obtain⟨E1,e1,R1,f1⟩:=h E a R hf
 obtain⟨E2,e2,R2,f2⟩:=h' E1 a R1 f1
 exact⟨E2,e2.trans e1,R2,f2⟩
theorem oP {S:Tabs} {ks:List Nat} {φ':List (Nat×D)} (h: ∃φ2 os2,Wk c E0 os0 n φ' os φ2 os2∧Q .normal φ2 os2) (hk:keep ks φ=φ':=by simp only[keep,memN,Nat.reduceEqDiff,if_true,if_false,↓reduceIte,Bool.false_eq_true];rfl):Res (runOpsA S true φ os []) (fun φ' os'=> ∃φ2 os2,Wk c E0 os0 n (keep ks φ') os' φ2 os2∧Q .normal φ2 os2):=osN (by rw[hk];exact h)
theorem dP {S:Tabs} {ks rs:List Nat} {k i id:Nat} {C os1 os':List Ob} {last:Option (List Ob)} {φ':List (Nat×D)} (h: ∃φ2 os2,Wk c E0 os0 n φ' os' φ2 os2∧Q .normal φ2 os2) (hk:keep ks φ=φ':=by simp only[keep,memN,Nat.reduceEqDiff,if_true,if_false,↓reduceIte,Bool.false_eq_true];rfl) (hl:last.getD (os1++C)=os':=by simp only[Option.getD_none,Option.getD_some,List.append_nil,List.cons_append,List.nil_append];rfl):Res (runDA S os1 k rs i true φ id os C last []) (fun φ' os'=> ∃φ2 os2,Wk c E0 os0 n (keep ks φ') os' φ2 os2∧Q .normal φ2 os2):=dsN (by rw[hk,hl];exact h)
theorem pEnd (h:Q .normal φ os): ∃φ2 os2,Wk c E0 os0 n φ os φ2 os2∧Q .normal φ2 os2:=⟨φ,os,Wk.refl,h⟩
theorem pPick (ρ:List Nat) {φ':List (Nat×D)} {os':List Ob} (h: ∃φ2 os2,Wk c E0 os0 n φ' os' φ2 os2∧Q .normal φ2 os2) (hok:nrmB ρ os0.length os.length=true:=by rfl) (hp:nrmφ ρ os φ=φ':=by simp (disch:=decide) only[zV,zO,Ob.mpb,frzL,nrmφ,nrmO,onF,Ob.onI,mpP,renP,Option.map_some,Option.map_none,D.vw,vwL,D.on,D.inP,inL,memB,D.ren,renL,inv,fpO,Ob.mp,Ob.ren,D.nn,nnφ,Nat.reduceBEq,Nat.reduceEqDiff,Nat.reduceAdd,↓reduceIte];rfl) (ho:nrmO ρ os=os':=by simp (disch:=decide) only[zV,zO,Ob.mpb,frzL,nrmφ,nrmO,onF,Ob.onI,mpP,renP,Option.map_some,Option.map_none,D.vw,vwL,D.on,D.inP,inL,memB,D.ren,renL,inv,fpO,Ob.mp,Ob.ren,D.nn,nnφ,Nat.reduceBEq,Nat.reduceEqDiff,Nat.reduceAdd,↓reduceIte];rfl): ∃φ2 os2,Wk c E0 os0 n φ os φ2 os2∧Q .normal φ2 os2:=by
 obtain⟨φ2,os2,h1,h2⟩:=h
 subst hp ho
 exact⟨φ2,os2,(Wk.pick ρ hok).trans h1,h2⟩
theorem pFreeze (l:List Nat) {os':List Ob} (h: ∃φ2 os2,Wk c E0 os0 n φ os' φ2 os2∧Q .normal φ2 os2) (ho:frzL l os=os':=by simp only[frzL,List.getElem?_cons_zero,List.getElem?_cons_succ,List.set_cons_zero,List.set_cons_succ];rfl): ∃φ2 os2,Wk c E0 os0 n φ os φ2 os2∧Q .normal φ2 os2:=by
 obtain⟨φ2,os2,h1,h2⟩:=h
 subst ho
 exact⟨φ2,os2,(Wk.freeze l).trans h1,h2⟩
theorem WI.nnA {ic:IC} {φ':List (Nat×D)} {os':List Ob} (h:WI P c E0 os0 n ic Q φ' os') (hp:nnφ φ=φ':=by simp only[zV,zO,Ob.mpb,frzL,nrmφ,nrmO,onF,Ob.onI,mpP,renP,Option.map_some,Option.map_none,D.vw,vwL,D.on,D.inP,inL,memB,D.ren,renL,inv,fpO,Ob.mp,Ob.ren,D.nn,nnφ,Nat.reduceBEq,Nat.reduceEqDiff,Nat.reduceAdd,↓reduceIte];rfl) (ho:os.map (Ob.mpb D.nn)=os':=by simp only[zV,zO,Ob.mpb,frzL,nrmφ,nrmO,onF,Ob.onI,mpP,renP,Option.map_some,Option.map_none,D.vw,vwL,D.on,D.inP,inL,memB,D.ren,renL,inv,fpO,Ob.mp,Ob.ren,D.nn,nnφ,Nat.reduceBEq,Nat.reduceEqDiff,Nat.reduceAdd,↓reduceIte];rfl):WI P c E0 os0 n ic Q φ os:=WI.nn (by rw[hp,ho];exact h)
theorem WI.pickA (ρ:List Nat) {ic:IC} {φ':List (Nat×D)} {os':List Ob} (h:WI P c E0 os0 n ic Q φ' os') (hok:nrmB ρ os0.length os.length=true:=by rfl) (hp:nrmφ ρ os φ=φ':=by simp (disch:=decide) only[zV,zO,Ob.mpb,frzL,nrmφ,nrmO,onF,Ob.onI,mpP,renP,Option.map_some,Option.map_none,D.vw,vwL,D.on,D.inP,inL,memB,D.ren,renL,inv,fpO,Ob.mp,Ob.ren,D.nn,nnφ,Nat.reduceBEq,Nat.reduceEqDiff,Nat.reduceAdd,↓reduceIte];rfl) (ho:nrmO ρ os=os':=by simp (disch:=decide) only[zV,zO,Ob.mpb,frzL,nrmφ,nrmO,onF,Ob.onI,mpP,renP,Option.map_some,Option.map_none,D.vw,vwL,D.on,D.inP,inL,memB,D.ren,renL,inv,fpO,Ob.mp,Ob.ren,D.nn,nnφ,Nat.reduceBEq,Nat.reduceEqDiff,Nat.reduceAdd,↓reduceIte];rfl):WI P c E0 os0 n ic Q φ os:=WI.pick ρ hok (by rw[hp,ho];exact h)
theorem WI.freezeA (l:List Nat) {ic:IC} {os':List Ob} (h:WI P c E0 os0 n ic Q φ os') (ho:frzL l os=os':=by simp only[frzL,List.getElem?_cons_zero,List.getElem?_cons_succ,List.set_cons_zero,List.set_cons_succ];rfl):WI P c E0 os0 n ic Q φ os:=WI.freeze l (by rw[ho];exact h)
theorem WI.ownA (t e sz:Nat) {ic:IC} {φ':List (Nat×D)} {os':List Ob} (h:WI P c E0 os0 n ic Q φ' os') (ht:get φ t= .x .nils:=by rfl) (hp:put φ t (.ref os.length 0 0 0)=φ':=by simp only[put,Nat.reduceEqDiff,↓reduceIte,ξN,ξC,Nat.reduceAdd];rfl) (ho:os++ [.rows false e sz []]=os':=by simp only[List.nil_append,List.cons_append];rfl):WI P c E0 os0 n ic Q φ os:=WI.own t e sz ht (by rw[hp,ho];exact h)
theorem WI.nextSA {t t2 it m:Nat} {x:IO} {s:List UInt8} {pos:Nat} (ks:List Nat) {φ1 φ2:List (Nat×D)} {os2:List Ob} (hend: ¬pos<s.length→Q .normal φ1 os) (hgo:pos<s.length→Q .normal φ2 os2) (hx:(opv φ x).val= .iref m it:=by rfl) (hcd:(opv φ x).cond=true:=by rfl) (ho:os[it]? =some (.sit s pos):=by rfl)
  (h1:Go.Ab.keep ks (Go.Ab.put (Go.Ab.put φ t (.tup [.x (.bool false)])) t2 (.x (.bool false)))=φ1:=by simp only[put,keep,memN,Nat.reduceEqDiff,if_true,if_false,↓reduceIte,Bool.false_eq_true];rfl) (h2:Go.Ab.keep ks (Go.Ab.put (Go.Ab.put φ t (.tup [.x (.bool true),.x (.int .i64 pos),.x (.int .i32 (runeAt s pos).1)])) t2 (.x (.bool true)))=φ2:=by simp only[put,keep,memN,Nat.reduceEqDiff,if_true,if_false,↓reduceIte,Bool.false_eq_true];rfl)
  (h3:os.set it (.sit s (pos+(runeAt s pos).2))=os2:=by simp only[List.set_cons_zero,List.set_cons_succ];rfl):WI P c E0 os0 n (.reg [⟨some t,.nxt true x,none⟩,⟨some t2,.ext (.t t) 0,none⟩]) Q φ os:=WI.nextS ks hx hcd ho (by rw[h1];exact hend) (by rw[h2,h3];exact hgo)
theorem WI.nextMA {t t2 it mid:Nat} {x:IO} {dk:KK} {ag:Bool} {l R0:List Pr} {cur:Option Pr} (ks:List Nat) {φ1 φ2:List (Nat×D)} {os2:Nat→Pr→List Ob} (hend:R0= []→Q .normal φ1 os) (hgo: ∀(i:Nat) (q:Pr),R0[i]? =some q→Q .normal φ2 (os2 i q)) (hx:(opv φ x).val= .iref mid it:=by rfl) (hcd:(opv φ x).cond=true:=by rfl) (ho:os[mid]? =some (.mit dk ag l it R0 cur):=by rfl)
  (h1:Go.Ab.keep ks (Go.Ab.put (Go.Ab.put φ t (.tup [.x (.bool false)])) t2 (.x (.bool false)))=φ1:=by simp only[put,keep,memN,Nat.reduceEqDiff,if_true,if_false,↓reduceIte,Bool.false_eq_true];rfl) (h2:Go.Ab.keep ks (Go.Ab.put (Go.Ab.put φ t .und) t2 (.x (.bool true)))=φ2:=by simp only[put,keep,memN,Nat.reduceEqDiff,if_true,if_false,↓reduceIte,Bool.false_eq_true];rfl)
  (h3: ∀i q,os.set mid (.mit dk ag l it (R0.eraseIdx i) (some q))=os2 i q:=by intro i q;simp only[List.set_cons_zero,List.set_cons_succ];rfl):WI P c E0 os0 n (.reg [⟨some t,.nxt false x,none⟩,⟨some t2,.ext (.t t) 0,none⟩]) Q φ os:=WI.nextM ks hx hcd ho (by rw[h1];exact hend) (by rw[h2];intro i q h;rw[h3];exact hgo i q h)
theorem WI.orderA (ts:List Nat) {ic:IC} {φ':List (Nat×D)} (h:WI P c E0 os0 n ic Q φ' os) (hp:ts.map (fun u=>(u,get φ u))=φ':=by simp only[List.map_cons,List.map_nil,Ab.get,Nat.reduceEqDiff,↓reduceIte,if_true,if_false];rfl):WI P c E0 os0 n ic Q φ os:=WI.order ts (by rw[hp];exact h)
end
section
variable {S:Tabs} {os0 os C:List Ob} {k i id:Nat} {rs:List Nat} {φ φ':List (Nat×D)} {os':List Ob} {last:Option (List Ob)} {o:IOp} {l:List IOp} {ok:Bool} {d:D} {ob:Ob} {K:List (Nat×D)→List Ob→Prop} {Q:Exit→List (Nat×D)→List Ob→Prop} {ks:List Nat}
theorem oN (h:Q .normal φ' os) (hk:keep ks φ=φ':=by simp only[keep,memN,Nat.reduceEqDiff,if_true,if_false,↓reduceIte,Bool.false_eq_true];rfl):Res (runOpsA S true φ os []) (fun φ' os'=>Q .normal (keep ks φ') os'):=osN (by rw[hk];exact h)
theorem dN (h:Q .normal φ' os') (hk:keep ks φ=φ':=by simp only[keep,memN,Nat.reduceEqDiff,if_true,if_false,↓reduceIte,Bool.false_eq_true];rfl) (hl:last.getD (os0++C)=os':=by simp only[Option.getD_none,Option.getD_some,List.append_nil,List.cons_append,List.nil_append];rfl):Res (runDA S os0 k rs i true φ id os C last []) (fun φ' os'=>Q .normal (keep ks φ') os'):=dsN (by rw[hk,hl];exact h)
theorem oS (h:Res (runOpsA S true φ' os' l) K) (he:stepOp S φ os o=some (ok,φ',os'):=by simp only[zC,stepOp,aval,opv,Ab.get,Ab.put,putO,Nat.reduceEqDiff,↓reduceIte,D.val,D.cond,reduceCtorEq,Nat.reduceAdd,Nat.add_zero,Nat.zero_add];rfl) (hok:ok=true:=by rfl):Res (runOpsA S true φ os (o::l)) K:=osS he hok h
theorem oG (h:Res (runOpsA S true φ' os' l) K) (he:stepOp S φ os o=some (ok,φ',os'):=by simp (disch:=omega) only[uu,zM,stepOp,aval,opv,Ab.get,Ab.put,putO,Nat.reduceEqDiff,↓reduceIte,D.val,D.cond,reduceCtorEq,aact,keepB,Ob.isDrw,cellsK,drwOf,wholeD,appK,apm,actT,IE.isCall,D.cells?,Nat.reduceAdd,Nat.reduceLeDiff,Ob.slice?,Ob.dsl?,Ob.drw?,Nat.reduceSub,Nat.reduceMul,Int.reduceToNat,Int.reduceLE,Int.reduceLT,Int.reduceAdd,Int.reduceSub,Int.reduceMul,Int.reduceNeg,Int.reduceEq,rowsOf,srcOf,okRef,intOf?,partsD,freezeL,freezeD,buildD,slcStrD,slcSlD,optV,zeroO,eqR,eqD,eqFs,eqX,nzD,binD,unD,lenD,evK,evC,evC1,metG,Nat.reduceLT,zO];rfl) (hok:ok=true:=by first|with_reducible rfl|omega|(simp;done)|(simp;omega)|rfl):Res (runOpsA S true φ os (o::l)) K:=osS he hok h
theorem oC (h:Res (runOpsA S true φ' os' l) K) (he:stepOp S φ os o=some (ok,φ',os'):=by simp (disch:=omega) only[uu,zS,zW,zO,viaNN,viaNNT,D.nn,D.na,addQ,addT,IE.isCall,Nat.reduceAdd,Nat.reduceSub,Nat.reduceMul,Nat.reduceLeDiff,Nat.reduceLT,Nat.reduceBEq,Int.reduceToNat,Int.reduceLE,Int.reduceLT,Int.reduceAdd,Int.reduceSub,Int.reduceMul,Int.reduceNeg,Int.reduceEq,Nat.reduceEqDiff,runOpsA,runDA,stepOp,aval,aact,keepB,Ob.isDrw,cellsK,drwOf,wholeD,appK,apm,opv,Ab.get,Ab.put,putO,keep,memN,D.val,D.cond,D.cells?,D.scalar,X.scalar,D.plain,D.isX,binD,bitsD,eqD,eqFs,eqX,unD,intOf?,lenD,okRef,rowsOf,viewD,viewX,freezeD,freezeL,partsD,buildD,slcStrD,slcSlD,Ob.slice?,↓reduceIte,reduceCtorEq,evQ,evK,evC,evC1,metG,evA,avalR,prefB,eqR,nzD,actT,callT1,callR1,callK1,valsL,condsL,optV,noTabs,IE.frame,memB,zeroO,IntWalk.i64_in,liftT,reach,idsD,idsL,idsO,idsM,inPr,renP,fpOk,nodupB,inL,D.inP,Ob.inP,renL,D.ren,inv,fpO,Ob.ren,fpF,fpO',setAll,newT,readT];rfl) (hok:ok=true:=by first|with_reducible rfl|omega|(simp;done)|(simp;omega)|rfl):Res (runOpsA S true φ os (o::l)) K:=osS he hok h
theorem dFS (h:Res (runDA S os0 k rs (i+1) true φ' id os C last l) K) (hf:o.e.frame=true:=by rfl) (he:(evQ S φ [] o).map (fun r=>(r.1,putO φ o.dst r.2))=some (ok,φ'):=by simp only[zC,evQ,evA,avalR,prefB,Ob.beq_refl,stepOp,aval,opv,Ab.get,Ab.put,putO,Nat.reduceEqDiff,↓reduceIte,D.val,D.cond,reduceCtorEq,Nat.reduceAdd,Nat.add_zero,Nat.zero_add];rfl) (hok:ok=true:=by rfl):Res (runDA S os0 k rs i true φ id os C last (o::l)) K:=dsF hf he hok h
theorem dFG (h:Res (runDA S os0 k rs (i+1) true φ' id os C last l) K) (hf:o.e.frame=true:=by rfl) (he:(evQ S φ [] o).map (fun r=>(r.1,putO φ o.dst r.2))=some (ok,φ'):=by simp (disch:=omega) only[uu,zM,evQ,evA,avalR,prefB,Ob.beq_refl,stepOp,aval,opv,Ab.get,Ab.put,putO,Nat.reduceEqDiff,↓reduceIte,D.val,D.cond,reduceCtorEq,aact,keepB,Ob.isDrw,cellsK,drwOf,wholeD,appK,apm,actT,IE.isCall,D.cells?,Nat.reduceAdd,Nat.reduceLeDiff,Ob.slice?,Ob.dsl?,Ob.drw?,Nat.reduceSub,Nat.reduceMul,Int.reduceToNat,Int.reduceLE,Int.reduceLT,Int.reduceAdd,Int.reduceSub,Int.reduceMul,Int.reduceNeg,Int.reduceEq,rowsOf,srcOf,okRef,intOf?,partsD,freezeL,freezeD,buildD,slcStrD,slcSlD,optV,zeroO,eqR,eqD,eqFs,eqX,nzD,binD,unD,lenD,evK,evC,evC1,metG,Nat.reduceLT,zO];rfl) (hok:ok=true:=by first|with_reducible rfl|omega|(simp;done)|(simp;omega)|rfl):Res (runDA S os0 k rs i true φ id os C last (o::l)) K:=dsF hf he hok h
theorem dQG (h:Res (runDA S os0 k rs (i+1) true φ' id os C last l) K) (hf:o.e.frame=false:=by rfl) (hm:memB i rs=false:=by rfl) (hk:Nat.ble (i+1) k=true:=by rfl) (he:(evQ S φ os0 o).map (fun r=>(r.1,putO φ o.dst r.2))=some (ok,φ'):=by simp (disch:=omega) only[uu,zM,evQ,evA,avalR,prefB,Ob.beq_refl,stepOp,aval,opv,Ab.get,Ab.put,putO,Nat.reduceEqDiff,↓reduceIte,D.val,D.cond,reduceCtorEq,aact,keepB,Ob.isDrw,cellsK,drwOf,wholeD,appK,apm,actT,IE.isCall,D.cells?,Nat.reduceAdd,Nat.reduceLeDiff,Ob.slice?,Ob.dsl?,Ob.drw?,Nat.reduceSub,Nat.reduceMul,Int.reduceToNat,Int.reduceLE,Int.reduceLT,Int.reduceAdd,Int.reduceSub,Int.reduceMul,Int.reduceNeg,Int.reduceEq,rowsOf,srcOf,okRef,intOf?,partsD,freezeL,freezeD,buildD,slcStrD,slcSlD,optV,zeroO,eqR,eqD,eqFs,eqX,nzD,binD,unD,lenD,evK,evC,evC1,metG,Nat.reduceLT,zO];rfl) (hok:ok=true:=by first|with_reducible rfl|omega|(simp;done)|(simp;omega)|rfl):Res (runDA S os0 k rs i true φ id os C last (o::l)) K:=dsQ hf hm hk he hok h
theorem dKG (h:Res (runDA S os0 k rs (i+1) true φ' (id+1) (os++ [ob]) (C++ [ob]) last l) K) (hf:o.e.frame=false:=by rfl) (hm:memB i rs=false:=by rfl) (hk:Nat.ble (i+1) k=true:=by rfl) (hn:evQ S φ os0 o=none:=by simp (disch:=omega) only[uu,zS,zW,zO,viaNN,viaNNT,D.nn,D.na,addQ,addT,IE.isCall,Nat.reduceAdd,Nat.reduceSub,Nat.reduceMul,Nat.reduceLeDiff,Nat.reduceLT,Nat.reduceBEq,Int.reduceToNat,Int.reduceLE,Int.reduceLT,Int.reduceAdd,Int.reduceSub,Int.reduceMul,Int.reduceNeg,Int.reduceEq,Nat.reduceEqDiff,runOpsA,runDA,stepOp,aval,aact,keepB,Ob.isDrw,cellsK,drwOf,wholeD,appK,apm,opv,Ab.get,Ab.put,putO,keep,memN,D.val,D.cond,D.cells?,D.scalar,X.scalar,D.plain,D.isX,binD,bitsD,eqD,eqFs,eqX,unD,intOf?,lenD,okRef,rowsOf,viewD,viewX,freezeD,freezeL,partsD,buildD,slcStrD,slcSlD,Ob.slice?,↓reduceIte,reduceCtorEq,evQ,evK,evC,evC1,metG,evA,avalR,prefB,eqR,nzD,actT,callT1,callR1,callK1,valsL,condsL,optV,noTabs,IE.frame,memB,zeroO,IntWalk.i64_in,liftT,reach,idsD,idsL,idsO,idsM,inPr,renP,fpOk,nodupB,inL,D.inP,Ob.inP,renL,D.ren,inv,fpO,Ob.ren,fpF,fpO',setAll,newT,readT]) (he:(evK S φ os0 id o).map (fun r=>(r.1,putO φ o.dst r.2.1,r.2.2))=some (ok,φ',ob):=by simp (disch:=omega) only[uu,zS,zW,zO,viaNN,viaNNT,D.nn,D.na,addQ,addT,IE.isCall,Nat.reduceAdd,Nat.reduceSub,Nat.reduceMul,Nat.reduceLeDiff,Nat.reduceLT,Nat.reduceBEq,Int.reduceToNat,Int.reduceLE,Int.reduceLT,Int.reduceAdd,Int.reduceSub,Int.reduceMul,Int.reduceNeg,Int.reduceEq,Nat.reduceEqDiff,runOpsA,runDA,stepOp,aval,aact,keepB,Ob.isDrw,cellsK,drwOf,wholeD,appK,apm,opv,Ab.get,Ab.put,putO,keep,memN,D.val,D.cond,D.cells?,D.scalar,X.scalar,D.plain,D.isX,binD,bitsD,eqD,eqFs,eqX,unD,intOf?,lenD,okRef,rowsOf,viewD,viewX,freezeD,freezeL,partsD,buildD,slcStrD,slcSlD,Ob.slice?,↓reduceIte,reduceCtorEq,evQ,evK,evC,evC1,metG,evA,avalR,prefB,eqR,nzD,actT,callT1,callR1,callK1,valsL,condsL,optV,noTabs,IE.frame,memB,zeroO,IntWalk.i64_in,liftT,reach,idsD,idsL,idsO,idsM,inPr,renP,fpOk,nodupB,inL,D.inP,Ob.inP,renL,D.ren,inv,fpO,Ob.ren,fpF,fpO',setAll,newT,readT];rfl) (hok:ok=true:=by first|with_reducible rfl|omega|(simp;done)|(simp;omega)|rfl):Res (runDA S os0 k rs i true φ id os C last (o::l)) K:=dsK hf hm hk hn he hok h
theorem dAG (h:Res (runDA S os0 k rs (i+1) true φ' id os' C (some os') l) K) (hf:o.e.frame=false:=by rfl) (hm:memB i rs=false:=by rfl) (hk:Nat.ble (i+1) k=false:=by rfl) (he:(evA S φ os o).map (fun r=>(r.1&&(match rs with| []=>true|_=>prefB os0 r.2.2),putO φ o.dst r.2.1,r.2.2))=some (ok,φ',os'):=by simp (disch:=omega) only[uu,zM,evQ,evA,avalR,prefB,Ob.beq_refl,stepOp,aval,opv,Ab.get,Ab.put,putO,Nat.reduceEqDiff,↓reduceIte,D.val,D.cond,reduceCtorEq,aact,keepB,Ob.isDrw,cellsK,drwOf,wholeD,appK,apm,actT,IE.isCall,D.cells?,Nat.reduceAdd,Nat.reduceLeDiff,Ob.slice?,Ob.dsl?,Ob.drw?,Nat.reduceSub,Nat.reduceMul,Int.reduceToNat,Int.reduceLE,Int.reduceLT,Int.reduceAdd,Int.reduceSub,Int.reduceMul,Int.reduceNeg,Int.reduceEq,rowsOf,srcOf,okRef,intOf?,partsD,freezeL,freezeD,buildD,slcStrD,slcSlD,optV,zeroO,eqR,eqD,eqFs,eqX,nzD,binD,unD,lenD,evK,evC,evC1,metG,Nat.reduceLT,zO];rfl) (hok:ok=true:=by first|with_reducible rfl|omega|(simp;done)|(simp;omega)|rfl):Res (runDA S os0 k rs i true φ id os C last (o::l)) K:=dsA hf hm hk he hok h
theorem dQC (h:Res (runDA S os0 k rs (i+1) true φ' id os C last l) K) (hf:o.e.frame=false:=by rfl) (hm:memB i rs=false:=by rfl) (hk:Nat.ble (i+1) k=true:=by rfl) (he:(evQ S φ os0 o).map (fun r=>(r.1,putO φ o.dst r.2))=some (ok,φ'):=by simp (disch:=omega) only[uu,zS,zW,zO,viaNN,viaNNT,D.nn,D.na,addQ,addT,IE.isCall,Nat.reduceAdd,Nat.reduceSub,Nat.reduceMul,Nat.reduceLeDiff,Nat.reduceLT,Nat.reduceBEq,Int.reduceToNat,Int.reduceLE,Int.reduceLT,Int.reduceAdd,Int.reduceSub,Int.reduceMul,Int.reduceNeg,Int.reduceEq,Nat.reduceEqDiff,runOpsA,runDA,stepOp,aval,aact,keepB,Ob.isDrw,cellsK,drwOf,wholeD,appK,apm,opv,Ab.get,Ab.put,putO,keep,memN,D.val,D.cond,D.cells?,D.scalar,X.scalar,D.plain,D.isX,binD,bitsD,eqD,eqFs,eqX,unD,intOf?,lenD,okRef,rowsOf,viewD,viewX,freezeD,freezeL,partsD,buildD,slcStrD,slcSlD,Ob.slice?,↓reduceIte,reduceCtorEq,evQ,evK,evC,evC1,metG,evA,avalR,prefB,eqR,nzD,actT,callT1,callR1,callK1,valsL,condsL,optV,noTabs,IE.frame,memB,zeroO,IntWalk.i64_in,liftT,reach,idsD,idsL,idsO,idsM,inPr,renP,fpOk,nodupB,inL,D.inP,Ob.inP,renL,D.ren,inv,fpO,Ob.ren,fpF,fpO',setAll,newT,readT];rfl) (hok:ok=true:=by first|with_reducible rfl|omega|(simp;done)|(simp;omega)|rfl):Res (runDA S os0 k rs i true φ id os C last (o::l)) K:=dsQ hf hm hk he hok h
theorem dAC (h:Res (runDA S os0 k rs (i+1) true φ' id os' C (some os') l) K) (hf:o.e.frame=false:=by rfl) (hm:memB i rs=false:=by rfl) (hk:Nat.ble (i+1) k=false:=by rfl) (he:(evA S φ os o).map (fun r=>(r.1&&(match rs with| []=>true|_=>prefB os0 r.2.2),putO φ o.dst r.2.1,r.2.2))=some (ok,φ',os'):=by simp (disch:=omega) only[uu,zS,zW,zO,viaNN,viaNNT,D.nn,D.na,addQ,addT,IE.isCall,Nat.reduceAdd,Nat.reduceSub,Nat.reduceMul,Nat.reduceLeDiff,Nat.reduceLT,Nat.reduceBEq,Int.reduceToNat,Int.reduceLE,Int.reduceLT,Int.reduceAdd,Int.reduceSub,Int.reduceMul,Int.reduceNeg,Int.reduceEq,Nat.reduceEqDiff,runOpsA,runDA,stepOp,aval,aact,keepB,Ob.isDrw,cellsK,drwOf,wholeD,appK,apm,opv,Ab.get,Ab.put,putO,keep,memN,D.val,D.cond,D.cells?,D.scalar,X.scalar,D.plain,D.isX,binD,bitsD,eqD,eqFs,eqX,unD,intOf?,lenD,okRef,rowsOf,viewD,viewX,freezeD,freezeL,partsD,buildD,slcStrD,slcSlD,Ob.slice?,↓reduceIte,reduceCtorEq,evQ,evK,evC,evC1,metG,evA,avalR,prefB,eqR,nzD,actT,callT1,callR1,callK1,valsL,condsL,optV,noTabs,IE.frame,memB,zeroO,IntWalk.i64_in,liftT,reach,idsD,idsL,idsO,idsM,inPr,renP,fpOk,nodupB,inL,D.inP,Ob.inP,renL,D.ren,inv,fpO,Ob.ren,fpF,fpO',setAll,newT,readT];rfl) (hok:ok=true:=by first|with_reducible rfl|omega|(simp;done)|(simp;omega)|rfl):Res (runDA S os0 k rs i true φ id os C last (o::l)) K:=dsA hf hm hk he hok h
end
theorem lfN {fz:Bool} {T:Tab} {φ:List (Nat×D)} {os os2:List Ob} {rs:List IRes} {ds:List D} {r R:D} (h:r=R) (he:retD fz T φ os rs=some (true,ds,os2):=by simp (disch:=omega) only[uu,zF,keep,memN,Bool.false_eq_true,if_false,retD,resD,finD,plainD,freezeD,freezeL,aval,opv,Ab.get,Nat.reduceEqDiff,↓reduceIte,D.val,D.cond,Nat.reduceAdd,Nat.reduceLeDiff,Ob.slice?,Ob.dsl?,Ob.drw?,Option.bind_none];rfl) (hr:mkR ds=r:=by simp only[mkR];rfl):((Exit.normal:Exit)= .normal∨(Exit.normal:Exit)= .ret)∧ ∃ds os2,retD fz T φ os rs=some (true,ds,os2)∧mkR ds=R:=⟨.inl rfl,ds,os2,he,by rw[hr];exact h⟩
theorem lfN2 {fz:Bool} {T:Tab} {φ:List (Nat×D)} {os os2 OS:List Ob} {rs:List IRes} {ds:List D} {r R:D} (h:r=R∧os2=OS) (he:retD fz T φ os rs=some (true,ds,os2):=by simp (disch:=omega) only[uu,zF,keep,memN,Bool.false_eq_true,if_false,retD,resD,finD,plainD,freezeD,freezeL,aval,opv,Ab.get,Nat.reduceEqDiff,↓reduceIte,D.val,D.cond,Nat.reduceAdd,Nat.reduceLeDiff,Ob.slice?,Ob.dsl?,Ob.drw?,Option.bind_none];rfl) (hr:mkR ds=r:=by simp only[mkR];rfl):((Exit.normal:Exit)= .normal∨(Exit.normal:Exit)= .ret)∧ ∃ds os2,retD fz T φ os rs=some (true,ds,os2)∧mkR ds=R∧os2=OS:=⟨.inl rfl,ds,os2,he,by rw[hr];exact h⟩
theorem lfR {fz:Bool} {T:Tab} {φ:List (Nat×D)} {os os2:List Ob} {rs:List IRes} {ds:List D} {r R:D} (h:r=R) (he:retD fz T φ os rs=some (true,ds,os2):=by simp (disch:=omega) only[uu,zF,keep,memN,Bool.false_eq_true,if_false,retD,resD,finD,plainD,freezeD,freezeL,aval,opv,Ab.get,Nat.reduceEqDiff,↓reduceIte,D.val,D.cond,Nat.reduceAdd,Nat.reduceLeDiff,Ob.slice?,Ob.dsl?,Ob.drw?,Option.bind_none];rfl) (hr:mkR ds=r:=by simp only[mkR];rfl):((Exit.ret:Exit)= .normal∨(Exit.ret:Exit)= .ret)∧ ∃ds os2,retD fz T φ os rs=some (true,ds,os2)∧mkR ds=R:=⟨.inr rfl,ds,os2,he,by rw[hr];exact h⟩
theorem lfR2 {fz:Bool} {T:Tab} {φ:List (Nat×D)} {os os2 OS:List Ob} {rs:List IRes} {ds:List D} {r R:D} (h:r=R∧os2=OS) (he:retD fz T φ os rs=some (true,ds,os2):=by simp (disch:=omega) only[uu,zF,keep,memN,Bool.false_eq_true,if_false,retD,resD,finD,plainD,freezeD,freezeL,aval,opv,Ab.get,Nat.reduceEqDiff,↓reduceIte,D.val,D.cond,Nat.reduceAdd,Nat.reduceLeDiff,Ob.slice?,Ob.dsl?,Ob.drw?,Option.bind_none];rfl) (hr:mkR ds=r:=by simp only[mkR];rfl):((Exit.ret:Exit)= .normal∨(Exit.ret:Exit)= .ret)∧ ∃ds os2,retD fz T φ os rs=some (true,ds,os2)∧mkR ds=R∧os2=OS:=⟨.inr rfl,ds,os2,he,by rw[hr];exact h⟩
theorem lfRX {fz:Bool} {T:Tab} {φ:List (Nat×D)} {os os2 OS:List Ob} {rs:List IRes} {ds:List D} {r R:D} (h:r=R∧ ∃Y,os2=OS++Y) (he:retD fz T φ os rs=some (true,ds,os2):=by simp (disch:=omega) only[uu,zF,keep,memN,Bool.false_eq_true,if_false,retD,resD,finD,plainD,freezeD,freezeL,aval,opv,Ab.get,Nat.reduceEqDiff,↓reduceIte,D.val,D.cond,Nat.reduceAdd,Nat.reduceLeDiff,Ob.slice?,Ob.dsl?,Ob.drw?,Option.bind_none];rfl) (hr:mkR ds=r:=by simp only[mkR];rfl):((Exit.ret:Exit)= .normal∨(Exit.ret:Exit)= .ret)∧ ∃ds os2,retD fz T φ os rs=some (true,ds,os2)∧mkR ds=R∧ ∃Y,os2=OS++Y:=⟨.inr rfl,ds,os2,he,by rw[hr];exact h⟩
variable {P:Program}
def frzT (g:List D→Option (Bool×D)) (args:List D) (os:List Ob):Option (Bool×D×List Ob):=
 (freezeL os args).bind fun p=>(g (p.1.map .x)).map fun r=>(r.1,r.2,p.2)
theorem frzT_ok {f:FuncId} {g:List D→Option (Bool×D)} (h: ∀args r,g args=some (true,r)→PCalls P f args r): ∀args os r os',frzT g args os=some (true,r,os')→MCalls P f args os r os':=by
 intro args os r os' hh
 obtain⟨p,hp,hh⟩:=ξB hh
 obtain⟨⟨q1,q2⟩,hq,e⟩:=ξM hh
 simp only[ξP]at e
 obtain⟨rfl,rfl,rfl⟩:=e
 have hc:=h _ _ hq
 intro c E vs R hvl
 obtain⟨hlen,hv0⟩:=hvl
 obtain⟨st',R1,ev1,hl1,hv1⟩:=freezeL_ok (vs:=vs.toList) R (fun j d v hd hv=>hv0 j d v hd (by simpa using hv)) (by simpa using hlen) hp
 have hvl':VL ⟨E.w,st',[]⟩ [] (p.1.map D.x) vs:=by
  refine⟨by simpa using hl1,fun j d v hd hv=> ?_⟩
  rw[ξp]at hd
  obtain⟨y,hy,rfl⟩:=ξM hd
  exact .x (hv1 j y v hy (by simpa using hv))
 refine(hc E.w st' vs (fun b o hb=>(R1.stm b o hb).1) hvl').mono ?_
 rintro e w' ⟨v,st2,rfl,hk,hs1,hs2,hv⟩
 obtain⟨R2,ev2⟩:=R1.world w' st2 hk hs1 hs2
 refine⟨v,_,rfl,rfl,R2,ev1.trans ev2,hv.mono (E:=⟨w',st2,[]⟩) (os:= []) ?_⟩
 exact⟨fun _ _ h=>⟨h,rfl⟩,fun _ _ _ _ _ h=>by simp at h,fun _ _ _ _ h=>by simp at h⟩
section
variable {c:Ctx} {E0:Env} {os0:List Ob} {n:Nat}
def Rounds (P:Program) (c:Ctx) (E0:Env) (os0:List Ob) (n:Nat) (b:IC) (Q:Exit→List (Nat×D)→List Ob→Prop):Nat→List (Nat×D)→List Ob→Prop
 |0,_,_=>False
 |k+1,φ,os=>WI P c E0 os0 n b (thenQ (Rounds P c E0 os0 n b Q k) Q) φ os
theorem WI.loopN {b:IC} {Q:Exit→List (Nat×D)→List Ob→Prop} (k:Nat) {φ:List (Nat×D)} {os:List Ob} (h:Rounds P c E0 os0 n b Q k φ os):WI P c E0 os0 n (.loop b) Q φ os:=by
 intro code hc E a R hf
 obtain⟨cb,rfl,h1⟩:=inv_loop hc
 refine wp_loop_rounds k ?_
 clear hc
 induction k generalizing φ os E a with
 |zero=>exact h.elim
 |succ k ih=>
  rw[rounds_succ]
  refine wp_mono (h cb h1 E a R hf) ?_
  rintro e a' w' ⟨E',φ',os',rfl,k2,k3,k4⟩
  cases e with
  |normal=>exact ih k4 E' a' k2 k3
  |_=>exact⟨E',φ',os',rfl,k2,k3,k4⟩
theorem WI.round {b:IC} {Q:Exit→List (Nat×D)→List Ob→Prop} {k:Nat} {φ:List (Nat×D)} {os:List Ob} (h:WI P c E0 os0 n b (thenQ (Rounds P c E0 os0 n b Q k) Q) φ os):Rounds P c E0 os0 n b Q (k+1) φ os:=h
end
section
variable {P:Program}
theorem MCalls.turn {α:Type} (enc:α→X) (val:α→Value) (hvx: ∀w st a,VX w st (enc a) (val a)) (hinv: ∀w st a v,VX w st (enc a) v→v=val a) {f:FuncId} {e:Nat} {zs ys:List α} (hl:ys.length=zs.length) (h00:zs= []→ys= [])
  (h0:zs= []→ ∀p cap w,Calls P f #[.slice p 0 cap] w fun e w'=>e= .returned (.tuple #[])∧w'=w)
  (h1: ∀(g cap:Nat) (w:World) (cells:Array Value),zs≠ []→w.heap[g]? =some (.cells cells e (0,0))→cells.toList.take zs.length=zs.map val→zs.length≤cap→cap≤maxLen→cells.size=cap*1→
   Calls P f #[.slice (some ⟨g,0,none⟩) zs.length cap] w fun e' w'=>e'= .returned (.tuple #[])∧w.grownBy w' (some g)∧w'.ownsRow 0 e 1 (.slice (some ⟨g,0,none⟩) zs.length cap) zs.length (ys.map val)):
  MCalls P f [.ref 0 zs.length 0 zs.length] [.rows false e 1 (zs.map fun a=> [enc a])] (.tup []) [.rows false e 1 (ys.map fun a=> [enc a])]:=by
 intro c E vs R hvl
 obtain⟨hsz,hv⟩:=hvl
 obtain⟨v0,rfl⟩: ∃v0,vs= #[v0]:=by
  obtain⟨vl⟩:=vs
  match vl,hsz with
  | [a],_=>exact⟨a,rfl⟩
 have h:=hv 0 _ v0 rfl rfl
 cases h with
 |ref hr _=>
  have ho: [Ob.rows false e 1 (zs.map fun a=> [enc a])][0]? =some (Ob.rows false e 1 (zs.map fun a=> [enc a])):=rfl
  obtain⟨k1,k2⟩:=hr.at ho rfl
  obtain⟨k3,b,a,cap,a',cap',k4,rfl,k6,k7,k8,k9,k10,k11⟩:=k2 (by simp)
  obtain⟨rfl,rfl⟩:=k8 rfl
  obtain⟨p,hp,hok⟩:=R.at ho
  rw[hp]at k4
  have hpb:p=(b,.slice a' zs.length cap'):=Option.some.inj k4
  subst hpb
  by_cases hz:zs= []
  ·subst hz
   obtain rfl:=h00 rfl
   refine(h0 rfl a' cap' E.w).mono ?_
   rintro _ w' ⟨rfl,rfl⟩
   exact⟨_,E,rfl,rfl,R,Evo.refl _ _,.tup #[] rfl (fun j d v h=>by simp at h)⟩
  ·have hpos:0<zs.length:=List.length_pos_iff.2 hz
   obtain⟨xs,⟨q1,q2⟩,q3,q4⟩:=hok
   rcases q2 with⟨q2,q5⟩|⟨g,cp,cells,fr,q5,q6,q7,q8,q9,q10,q11⟩
   ·simp only[List.length_map]at q5;omega
   ·simp only[Value.slice.injEq]at q5
    obtain⟨rfl,_,rfl⟩:=q5
    simp only[List.length_map,Nat.mul_one]at q10 q7 q1
    have hfr:fr=(0,0):=by
     rcases q11 with q11|⟨q11,_⟩
     ·exact q11
     ·cases q11
    subst hfr
    have hxs:xs=zs.map val:=by
     apply List.ext_getElem (by rw[q1];simp)
     intro i hi hi2
     have hiz:i<zs.length:=by rw[q1]at hi;exact hi
     have:=q4 i [enc zs[i]] 0 (enc zs[i]) xs[i] (by rw[ξp,ξg hiz];rfl) rfl (by rw[Nat.mul_one,Nat.add_zero];exact ξg hi)
     rw[hinv _ _ _ _ this]
     simp
    refine(h1 g cap' E.w cells hz q6 (by rw[q10,hxs]) q7 q8 q9).mono ?_
    rintro _ w' ⟨rfl,hg,hown⟩
    obtain⟨R',ev⟩:=R.set ho hp w' (.rows false e 1 (ys.map fun a=> [enc a])) (b,.slice (some ⟨g,0,none⟩) zs.length cap') ⟨hg.os,hg.tape,hg.output,hg.size,fun k hk hm=>hg.block k hk (fun e=>hm (by cases e;rfl))⟩ (fun b' hb'=> .inl hb') (fun sz rs1 h=>by
      simp only[Ob.sl?,ξI,ξP]at h
      obtain⟨rfl,rfl⟩:=h
      exact⟨(ys.map fun a=> [enc a]).length,rfl,.inl ⟨by simp[hl],rfl⟩⟩) (fun k h=>by cases h) (fun ev=>by
      refine⟨ys.map val,?_,fun r hr=> ?_,fun i r j x v h1 h2 h3=> ?_⟩
      ·have:=Row.of_owns hown false
       simpa[hl]using this
      ·obtain⟨a,_,rfl⟩:=List.mem_map.1 hr;rfl
      ·rw[ξp]at h1
       obtain⟨a,ha,rfl⟩:=ξM h1
       match j with
       |0=>
        simp only[List.getElem?_cons_zero,ξI]at h2
        subst h2
        rw[Nat.mul_one,Nat.add_zero,ξp,ha]at h3
        simp only[Option.map_some,ξI]at h3
        subst h3
        exact hvx _ _ a
       |j+1=>simp at h2)
    exact⟨_,_,rfl,rfl,R',ev,.tup #[] rfl (fun j d v h=>by simp at h)⟩
end
variable {P:Program} {c:Ctx} {E0:Env} {os0:List Ob} {n:Nat} {Q:Exit→List (Nat×D)→List Ob→Prop} {φ:List (Nat×D)} {os:List Ob}
theorem WI.join {x y:IC} (J:List (Nat×D)→List Ob→Prop) (h:WI P c E0 os0 n x (thenQ J Q) φ os) (h2: ∀φ' os',J φ' os'→WI P c E0 os0 n y Q φ' os'):WI P c E0 os0 n (.seq x y) Q φ os:=by
 refine WI.seq (h.mono fun e φ' os' hh=> ?_)
 cases e with
 |normal=>exact h2 φ' os' hh
 |_=>exact hh
def boxLd (kp:List Nat) (φ:List (Nat×D)) (o:IOp):Bool:=match o.g,o.e with
 |none,.ld _ _ x=>(match(opv φ x).val with| .ptr _ _=>true| .vptr _=>true| .eptr id _ _ _=>memB id kp|_=>false)
 |_,_=>false
def boxes0B:List Ob→List Ob→Bool
 | [],_=>true
 | .box ds::l,y::l'=>Ob.beq (.box ds) y&&boxes0B l l'
 |_::l,_::l'=>boxes0B l l'
 |_::_,[]=>false
theorem boxes0B_spec: ∀ {a b:List Ob},boxes0B a b=true→ ∀(id:Nat) (ds:List D),a[id]? =some (.box ds)→b[id]? =some (.box ds)
 | [],b,_,id,ds,h=>by simp at h
 |x::l,[],hb,id,ds,h=>by cases x<;>simp[boxes0B]at hb
 |x::l,y::l',hb,id,ds,h=>by
  cases id with
  |zero=>
   simp only[List.getElem?_cons_zero,ξI]at h⊢
   subst h
   simp only[boxes0B,ξa]at hb
   exact(Ob.beq_eq hb.1).symm
  |succ id=>
   simp only[List.getElem?_cons_succ]at h⊢
   have:boxes0B l l'=true:=by
    cases x with
    |box d=>simp only[boxes0B,ξa]at hb;exact hb.2
    |_=>simpa only[boxes0B]using hb
   exact boxes0B_spec this id ds h
def sameAt (a b:List Ob) (i:Nat):Bool:=match a[i]?,b[i]? with
 |some x,some y=>Ob.beq x y
 |_,_=>false
theorem sameAt_spec {a b:List Ob} {i:Nat} (h:sameAt a b i=true) {o:Ob} (ho:a[i]? =some o):b[i]? =some o:=by
 unfold sameAt at h
 rw[ho]at h
 cases hb:b[i]? with
 |none=>rw[hb]at h;cases h
 |some y=>rw[hb]at h;rw[Ob.beq_eq h]
def sameL:List Nat→List Ob→List Ob→Bool
 | [],_,_=>true
 |i::l,a,b=>sameAt a b i&&sameL l a b
theorem sameL_spec {a b:List Ob}: ∀ {l:List Nat},sameL l a b=true→ ∀i,memB i l=true→ ∀o,a[i]? =some o→b[i]? =some o
 | [],_,i,hi,_,_=>by cases hi
 |j::l,h,i,hi,o,ho=>by
  simp only[sameL,ξa]at h
  simp only[memB,Bool.or_eq_true]at hi
  rcases hi with hi|hi
  ·rw[Nat.eq_of_beq_eq_true hi]at ho⊢;exact sameAt_spec h.1 ho
  ·exact sameL_spec h.2 i hi o ho
def boxesB (kp:List Nat) (a b:List Ob):Bool:=boxes0B a b&&sameL kp a b
theorem boxesB_spec {kp:List Nat} {a b:List Ob} (h:boxesB kp a b=true):(∀(id:Nat) (ds:List D),a[id]? =some (.box ds)→b[id]? =some (.box ds))∧ ∀i,memB i kp=true→ ∀o,a[i]? =some o→b[i]? =some o:=by
 simp only[boxesB,ξa]at h
 exact⟨boxes0B_spec h.1,sameL_spec h.2⟩
def allC (kp:List Nat) (os:List Ob):List (Option (List Ob))→Bool
 | []=>true
 |none::l=>allC kp os l
 |some x::l=>boxesB kp os x&&allC kp os l
theorem allC_spec {kp:List Nat} {os:List Ob}: ∀ {G:List (Option (List Ob))},allC kp os G=true→ ∀(j:Nat) (x:List Ob),G[j]? =some (some x)→boxesB kp os x=true
 | [],_,j,x,h=>by simp at h
 |none::l,hb,j,x,h=>by
  cases j with
  |zero=>simp at h
  |succ j=>exact allC_spec (G:=l) hb j x (by simpa using h)
 |some y::l,hb,j,x,h=>by
  simp only[allC,ξa]at hb
  cases j with
  |zero=>simp at h;subst h;exact hb.1
  |succ j=>exact allC_spec hb.2 j x (by simpa using h)
theorem lookS_box {id:Nat} {o:Ob}: ∀ {G:List (Option (List Ob))} (dn:Nat→Bool) (i:Nat) (b:List Ob),(∀(j:Nat) (x:List Ob),G[j]? =some (some x)→x[id]? =some o)→b[id]? =some o→(lookS G dn i b)[id]? =some o
 | [],_,_,b,_,h=>h
 |none::l,dn,i,b,hG,h=>by simp only[lookS];exact lookS_box dn (i+1) b (fun j x hj=>hG (j+1) x (by simpa using hj)) h
 |some y::l,dn,i,b,hG,h=>by
  simp only[lookS]
  refine lookS_box dn (i+1) _ (fun j x hj=>hG (j+1) x (by simpa using hj)) ?_
  split
  ·exact hG 0 y rfl
  ·exact h
def bxR (kp:List Nat) (rs:List Nat):Nat→List (Nat×D)→List Rec→List IOp→Bool
 |i,φ,r::F,o::l=>(!memB i rs||boxLd kp φ o)&&bxR kp rs (i+1) (putO φ r.1 r.2.1) F l
 |_,_,_,_=>true
theorem bxR_at {kp rs:List Nat}: ∀ {l:List IOp} {F:List Rec} {i:Nat} {φ:List (Nat×D)},bxR kp rs i φ F l=true→ ∀(q:Nat) (io:IOp),l[q]? =some io→q<F.length→memB (i+q) rs=true→boxLd kp (recφ φ (F.take q)) io=true
 | [],F,i,φ,_,q,io,h,_,_=>by simp at h
 |o::l,[],i,φ,_,q,io,_,h,_=>by simp at h
 |o::l,r::F,i,φ,hb,q,io,h,hq,hm=>by
  simp only[bxR,ξa]at hb
  cases q with
  |zero=>
   simp at h;subst h
   have:=hb.1
   rw[Nat.add_zero]at hm
   simpa[hm,recφ]using this
  |succ q=>
   have:=bxR_at hb.2 q io (by simpa using h) (by simpa using hq) (by rw[show i+1+q=i+(q+1) by omega];exact hm)
   simpa[recφ]using this
theorem evQ_box {kp:List Nat} {S:Tabs} {φ:List (Nat×D)} {os0 os1:List Ob} {o:IOp} {r:Bool×D} (hb:boxLd kp φ o=true) (h:evQ S φ os0 o=some r) (hx: ∀(id:Nat) (ds:List D),os0[id]? =some (.box ds)→os1[id]? =some (.box ds)) (hx2: ∀i,memB i kp=true→ ∀o,os0[i]? =some o→os1[i]? =some o):evQ S φ os1 o=some r:=by
 unfold boxLd at hb
 split at hb
 ·rename_i n ag x hg he
  simp only[evQ,hg,he,avalR]at h⊢
  split at hb
  ·rename_i id off hv
   have key:aval S.q φ os0 (.ld n ag x)=aval S.q φ os1 (.ld n ag x)∨aval S.q φ os0 (.ld n ag x)=none:=by
    simp only[aval,hv]
    cases h0:os0[id]? with
    |none=>exact .inr rfl
    |some ob=>
     cases ob with
     |box ds=>rw[hx id ds h0];exact .inl rfl
     |_=>exact .inr rfl
   rcases key with key|key
   ·rw[←key];
    cases hq:aval S.q φ os0 (.ld n ag x)with
    |some q=>rw[hq]at h;exact h
    |none=>rw[hq]at h;simp only[callR]at h;cases h
   ·rw[key]at h;simp only[callR]at h;cases h
  ·rename_i cs hv
   have key:aval S.q φ os0 (.ld n ag x)=aval S.q φ os1 (.ld n ag x):=by simp only[aval,hv]
   rw[←key]
   cases hq:aval S.q φ os0 (.ld n ag x)with
   |some q=>rw[hq]at h;exact h
   |none=>rw[hq]at h;simp only[callR]at h;cases h
  ·rename_i id e1 i1 o1 hv
   have key:aval S.q φ os0 (.ld n ag x)=aval S.q φ os1 (.ld n ag x)∨aval S.q φ os0 (.ld n ag x)=none:=by
    simp only[aval,hv]
    cases h0:os0[id]? with
    |none=>exact .inr rfl
    |some ob=>rw[hx2 id hb ob h0];exact .inl rfl
   rcases key with key|key
   ·rw[←key]
    cases hq:aval S.q φ os0 (.ld n ag x)with
    |some q=>rw[hq]at h;exact h
    |none=>rw[hq]at h;simp only[callR]at h;cases h
   ·rw[key]at h;simp only[callR]at h;cases h
  ·cases hb
 ·cases hb
section
variable {P:Program} {S:Tabs} {c:Ctx} {n:Nat} {Q:Exit→Act→World→Prop} {ops:Array Oper} {il:List IOp} {k:Nat} {rs kp:List Nat} {E0:Env} {os0:List Ob}
theorem draw_anyB (hS:SsOk P S) (D0:Draw ops.toList il k rs) (hcomp:ops.toList.mapM (compOper P n ops)=some il) {φ0:List (Nat×D)} {F:List Rec} {G:List (Option (List Ob))} (hrun:runR S os0 k rs 0 φ0 os0.length os0 il=some (true,F,G)) (hbx:bxR kp rs 0 φ0 F il=true) (hal:allC kp os0 G=true)
  (hQ: ∀E' a',Rel c E' (lookS G (fun _=>true) 0 (os0++recO F))→Evo E0 os0 E' (lookS G (fun _=>true) 0 (os0++recO F))→Fr n E' (lookS G (fun _=>true) 0 (os0++recO F)) (recφ φ0 F) a'→Q .normal a' E'.w):
  ∀(fuel:Nat) (listed:Array Bool) (a:Act) (E:Env),listed.size=ops.size→Closed ops.toList (fun j=>listed.getD j false)→(List.range ops.size).countP (fun j=> !listed.getD j false)≤fuel→
   Rel c E (obs os0 F G (fun j=>listed.getD j false))→Evo E0 os0 E (obs os0 F G (fun j=>listed.getD j false))→a.tmps.size=n→a.defers= []→(∀t,V E (obs os0 F G (fun j=>listed.getD j false)) (look F (fun j=>listed.getD j false) 0 (Go.Ab.get φ0 t) t) (a.tmps.getD t undef))→
   wpAny P .any ops Q fuel listed a E.w:=by
 obtain⟨hlen,hat⟩:=mapM_get hcomp
 simp only[Array.length_toList]at hlen
 obtain⟨hFl,hGl,hF⟩:=runR_at hrun
 simp only[Nat.zero_add]at hF
 have rec_of: ∀(j:Nat) (r:Rec),F[j]? =some r→ ∃y,il[j]? =some y∧y.dst=r.1:=by
  intro j r hj
  have hjl:=(ξG hj).1
  have hy:il[j]? =some (il[j]'(by omega)):=ξg _
  obtain⟨d,x,s,h1,_⟩:=hF j _ hy
  rw[hj]at h1;cases h1
  exact⟨_,hy,rfl⟩
 have st_of: ∀(j:Nat) (x:List Ob),G[j]? =some (some x)→ ∃y,il[j]? =some y∧y.ex rs j=false∧k≤j:=by
  intro j x hj
  have hjl:=(ξG hj).1
  have hy:il[j]? =some (il[j]'(by omega)):=ξg _
  obtain⟨d,x',s,_,h2,h3⟩:=hF j _ hy
  rw[hj]at h2;cases h2
  cases h3 with
  |turn hf hk h=>exact⟨_,hy,hf,hk⟩
 have mk_of: ∀(j:Nat) (t:Option Nat) (d:D) (x:Ob),F[j]? =some (t,d,some x)→ ∃y,il[j]? =some y∧y.ex rs j=false∧j<k:=by
  intro j t d x hj
  have hjl:=(ξG hj).1
  have hy:il[j]? =some (il[j]'(by omega)):=ξg _
  obtain⟨d',x',s,h1,_,h3⟩:=hF j _ hy
  rw[hj]at h1;cases h1
  cases h3 with
  |make hf hk h=>exact⟨_,hy,hf,hk⟩
 have oper_of: ∀j,j<ops.size→ ∃o,ops.toList[j]? =some o:=fun j hj=>⟨ops[j],by simp[hj]⟩
 have fin: ∀(listed:Array Bool) (a:Act) (E:Env),listed.size=ops.size→Rel c E (obs os0 F G (fun j=>listed.getD j false))→Evo E0 os0 E (obs os0 F G (fun j=>listed.getD j false))→a.tmps.size=n→a.defers= []→(∀t,V E (obs os0 F G (fun j=>listed.getD j false)) (look F (fun j=>listed.getD j false) 0 (Go.Ab.get φ0 t) t) (a.tmps.getD t undef))→
   (Region.ready .any ops listed= []→Q .normal a E.w):=by
  intro listed a E hsz R ev h1 h2 h3 hr
  have all: ∀j,j<ops.size→listed.getD j false=true:=by
   intro j hj
   cases hb:listed.getD j false with
   |true=>rfl
   |false=>
    exfalso
    obtain⟨j0,⟨hj0,hj1⟩,hj2⟩:=least_of (k:=ops.size) (f:=fun j=>listed.getD j false) ⟨j,hj,hb⟩
    have:j0∈Region.ready .any ops listed:=(ready_iff hsz).2 ⟨hj1,ops[j0]'(by omega),by simp,fun j hj=>hj2 j (D0.back j0 _ (by simp) j hj)⟩
    rw[hr]at this;cases this
  have e1:obs os0 F G (fun j=>listed.getD j false)=lookS G (fun _=>true) 0 (os0++recO F):=by
   unfold obs
   rw[crs_all F _ 0 (fun j r hj=>by rw[Nat.zero_add];exact all j (by have:=(ξG hj).1;omega))]
   exact lookS_congr G _ _ _ _ (fun j x hj=>by rw[Nat.zero_add];exact all j (by have:=(ξG hj).1;omega))
  rw[e1]at R ev h3
  refine hQ E a R ev ⟨h1,h2,fun t=> ?_⟩
  have:=look_seq F φ0 F.length 0 t
  rw[List.take_length]at this
  rw[this]
  have e:look F (fun j=>decide (j<0+F.length)) 0 (Go.Ab.get φ0 t) t=look F (fun j=>listed.getD j false) 0 (Go.Ab.get φ0 t) t:=look_congr F _ _ _ _ _ (fun j d o hj=>by
   have hjl:=(ξG hj).1
   simp only[Nat.zero_add,hjl,decide_true,all j (by omega)])
  rw[e];exact h3 t
 intro fuel
 induction fuel with
 |zero=>
  intro listed a E hsz hcl hfu R ev h1 h2 h3
  have hr:Region.ready .any ops listed= []:=by
   apply List.eq_nil_iff_forall_not_mem.2
   intro i hi
   obtain⟨g1,o,ho,_⟩:=(ready_iff hsz).1 hi
   have hlt:i<ops.size:=by have:=(ξG ho).1;simpa using this
   have h0:(List.range ops.size).countP (fun j=> !listed.getD j false)=0:=by omega
   have:=List.countP_eq_zero.1 h0 i (List.mem_range.2 hlt)
   rw[g1]at this;simp at this
  exact⟨hr,fin listed a E hsz R ev h1 h2 h3 hr⟩
 |succ fuel ih=>
  intro listed a E hsz hcl hfu R ev h1 h2 h3
  refine⟨fin listed a E hsz R ev h1 h2 h3,fun i hi=> ?_⟩
  obtain⟨g1,o,ho,g2⟩:=(ready_iff hsz).1 hi
  have hlt:i<ops.size:=by have:=(ξG ho).1;simpa using this
  have hil:il[i]? =some (il[i]'(by omega)):=ξg _
  have hio:=hat i o _ ho hil
  obtain⟨d,x,s,hFi,hGi,hst⟩:=hF i _ hil
  generalize hioe:il[i]'(by omega)=io at*
  have hlook: ∀t∈io.reads,Go.Ab.get (recφ φ0 (F.take i)) t=look F (fun j=>listed.getD j false) 0 (Go.Ab.get φ0 t) t:=by
   intro t ht
   rw[look_seq F φ0 i 0 t]
   refine look_congr F _ _ _ _ _ (fun j d' o' hj=> ?_)
   obtain⟨y,hy,hyd⟩:=rec_of j _ hj
   have hjl:j<ops.size:=by have:=(ξG hy).1;omega
   obtain⟨p,hp⟩:=oper_of j hjl
   simp only[Nat.zero_add]
   rcases D0.reads i j io y t o p hil hy ho hp ht hyd with⟨w1,w2⟩|⟨w1,w2⟩
   ·rw[g2 j w2];simpa using w1
   ·have:listed.getD j false=false:=by
     cases hb:listed.getD j false with
     |false=>rfl
     |true=>
      have h9:listed.getD i false=true:=hcl j _ hp hb i w2
      rw[g1]at h9;cases h9
    rw[this];simp;omega
  let φs:List (Nat×D):=io.reads.map fun t=>(t,look F (fun j=>listed.getD j false) 0 (Go.Ab.get φ0 t) t)
  have hget: ∀t,Go.Ab.get φs t=look F (fun j=>listed.getD j false) 0 (Go.Ab.get φ0 t) t∨(Go.Ab.get φs t= .und∧t∉io.reads):=by
   intro t
   have key: ∀l:List Nat,Go.Ab.get (l.map fun t=>(t,look F (fun j=>listed.getD j false) 0 (Go.Ab.get φ0 t) t)) t=if t∈l then look F (fun j=>listed.getD j false) 0 (Go.Ab.get φ0 t) t else .und:=by
    intro l
    induction l with
    |nil=>rfl
    |cons u l ihl=>
     simp only[List.map_cons,Go.Ab.get,List.mem_cons]
     by_cases hu:u=t
     ·subst hu;simp
     ·have: ¬t=u:=fun e=>hu e.symm
      simp only[hu,if_false,ihl,this,false_or]
   rw[key io.reads]
   by_cases ht:t∈io.reads
   ·rw[if_pos ht];exact .inl rfl
   ·rw[if_neg ht];exact .inr ⟨rfl,ht⟩
  have hfs:Fr n E (obs os0 F G (fun j=>listed.getD j false)) φs a:=⟨h1,h2,fun t=>by
   rcases hget t with h|⟨h,_⟩<;>rw[h]
   ·exact h3 t
   ·exact .und _⟩
  have hagree: ∀t∈io.reads,Go.Ab.get φs t=Go.Ab.get (recφ φ0 (F.take i)) t:=fun t ht=>by
   rw[hlook t ht]
   rcases hget t with h|⟨_,h⟩
   ·exact h
   ·exact absurd ht h
  have hdst:io.dst=o.dst∧(o.dst.all fun t=>decide (t<n))=true:=by
   simp only[compOper,ξb]at hio
   obtain⟨e,he,hc⟩:=hio
   split at hc
   ·rename_i hd
    split at hc
    ·cases hc;exact⟨rfl,hd⟩
    ·obtain⟨s,_,hc⟩:=ξM hc
     cases hc;exact⟨rfl,hd⟩
   ·cases hc
  have huniq: ∀(j u:Nat) (d':D) (o':Option Ob),F[j]? =some (some u,d',o')→io.dst=some u→j=i:=by
   intro j u d' o' hj hd
   obtain⟨y,hy,hyd⟩:=rec_of j _ hj
   exact(D0.own i j io y u hil hy hd hyd).symm
  have hnext:(fun j=>(listed.setIfInBounds i true).getD j false)=fun j=>listed.getD j false||decide (j=0+i):=by
   funext j;rw[getD_set _ _ _ (by omega),Nat.zero_add]
  have step: ∀(v:Value) (E':Env) (os':List Ob),os'=obs os0 F G (fun j=>(listed.setIfInBounds i true).getD j false)→Rel c E' os'→Evo E (obs os0 F G (fun j=>listed.getD j false)) E' os'→V E' os' d v→
    wpAny P .any ops Q fuel (listed.setIfInBounds i true) (a.put o.dst v) E'.w:=by
   intro v E' os' hos R' e' hv
   subst hos
   refine ih _ _ E' (by simp[hsz]) ?_ ?_ R' (ev.trans e') ?_ (by cases hd:o.dst<;>simp[Act.put,h2]) (fun t=> ?_)
   ·intro q p hp hq j hj
    show(listed.setIfInBounds i true).getD j false=true
    replace hq:(listed.setIfInBounds i true).getD q false=true:=hq
    rw[getD_set _ _ _ (by omega)]at hq⊢
    by_cases hqi:q=i
    ·subst hqi
     rw[ho]at hp;cases hp
     rw[g2 j hj];rfl
    ·simp only[hqi,decide_false,Bool.or_false]at hq
     have h9:listed.getD j false=true:=hcl q p hp hq j hj
     rw[h9];rfl
   ·have hlt':(List.range ops.size).countP (fun j=> !(listed.setIfInBounds i true).getD j false)<(List.range ops.size).countP (fun j=> !listed.getD j false):=
     countP_lt (List.mem_range.2 hlt) (by rw[g1];rfl) (by rw[getD_set _ _ _ (by omega)];simp) (fun j hj=>by
      rw[getD_set _ _ _ (by omega)]at hj
      simp only[Bool.not_or,ξa]at hj
      exact hj.1)
    omega
   ·cases hd:o.dst with
    |none=>exact h1
    |some t=>simp[Act.put,h1]
   ·rw[hnext,look_add F _ 0 _ i io.dst d x t hFi huniq,←hnext]
    by_cases ht:io.dst=some t
    ·rw[if_pos ht]
     rw[←hdst.1,ht]
     have:(a.put (some t) v).tmps.getD t undef=v:=by
      have hb:t<n:=by have:=hdst.2;rw[←hdst.1,ht]at this;simpa using this
      simp[Act.put,Array.getD_eq_getD_getElem?,h1,hb]
     rw[this];exact hv
    ·rw[if_neg ht]
     have:(a.put o.dst v).tmps.getD t undef=a.tmps.getD t undef:=by
      rw[←hdst.1]
      cases hd:io.dst with
      |none=>rfl
      |some u=>
       have hne:u≠t:=fun e=>ht (by rw[hd,e])
       simp[Act.put,Array.getD_eq_getD_getElem?,hne]
     rw[this]
     exact(h3 t).mono e'
  have hsm: ∀j,listed.getD j false=true→j≠i:=fun j hj e=>by subst e;rw[g1]at hj;cases hj
  refine wpOp_of ho ?_
  have later:io.ex rs i=false→ ∀(j:Nat) (x':List Ob),i<j→G[j]? =some (some x')→listed.getD j false=false:=by
   intro hf j x' hij hj
   obtain⟨y,hy,hyf,hkj⟩:=st_of j x' hj
   have hjl:j<ops.size:=by have:=(ξG hy).1;omega
   obtain⟨p,hp⟩:=oper_of j hjl
   cases hb:listed.getD j false with
   |false=>rfl
   |true=>
    have h9:listed.getD i false=true:=D0.tail j p y hkj hp hy hyf _ hcl (hcl j p hp hb) i io hij hil hf
    rw[g1]at h9;cases h9
  cases hst with
  |frame hf hq=>
   have hos:obs os0 F G (fun j=>(listed.setIfInBounds i true).getD j false)=obs os0 F G (fun j=>listed.getD j false):=by
    unfold obs
    rw[hnext,crs_quiet F _ 0 i io.dst d hFi]
    refine lookS_congr G _ _ _ _ (fun j x' hj=> ?_)
    have:j≠i:=fun e=>by subst e;rw[hGi]at hj;cases hj
    simp[this]
   rw[←evQ_congr S [] hagree]at hq
   exact evQ_ok (os:= []) (Y:=obs os0 F G (fun j=>listed.getD j false)) hS R hfs hio hq (fun v E' R' e' hv=>step v E' _ hos.symm R' e' hv)
  |look hf hq=>
   have hos:obs os0 F G (fun j=>(listed.setIfInBounds i true).getD j false)=obs os0 F G (fun j=>listed.getD j false):=by
    unfold obs
    rw[hnext,crs_quiet F _ 0 i io.dst d hFi]
    refine lookS_congr G _ _ _ _ (fun j x' hj=> ?_)
    have:j≠i:=fun e=>by subst e;rw[hGi]at hj;cases hj
    simp[this]
   have hb:=bxR_at hbx i io hil (by omega) (by rw[Nat.zero_add];exact hf)
   have hq2:evQ S (recφ φ0 (F.take i)) (obs os0 F G (fun j=>listed.getD j false)) io=some (true,d):=evQ_box hb hq (fun id ds hid=>by
    unfold obs
    refine lookS_box _ 0 _ (fun j x hj=>(boxesB_spec (allC_spec hal j x hj)).1 id ds hid) ?_
    have:=(ξG hid).1
    rw[ξl this];exact hid) (fun i hi o hid=>by
    unfold obs
    refine lookS_box _ 0 _ (fun j x hj=>(boxesB_spec (allC_spec hal j x hj)).2 i hi o hid) ?_
    have:=(ξG hid).1
    rw[ξl this];exact hid)
   rw[←evQ_congr S _ hagree]at hq2
   exact evQ_ok (os:=obs os0 F G (fun j=>listed.getD j false)) (Y:= []) hS (by rw[List.append_nil];exact R) (by rw[List.append_nil];exact hfs) hio hq2 (fun v E' R' e' hv=>step v E' _ (by rw[hos,List.append_nil]) R' (by rw[List.append_nil]at e'⊢;exact e') hv)
  |read hf hk hq=>
   have no: ∀(j:Nat) (x':List Ob),G[j]? =some (some x')→listed.getD j false=false:=fun j x' hj=>by
    obtain⟨_,_,_,hkj⟩:=st_of j x' hj
    exact later hf j x' (by omega) hj
   have hob:obs os0 F G (fun j=>listed.getD j false)=os0++crs F (fun j=>listed.getD j false) 0:=lookS_none G _ 0 _ (fun j x' hj=>by rw[Nat.zero_add];exact no j x' hj)
   have hos:obs os0 F G (fun j=>(listed.setIfInBounds i true).getD j false)=obs os0 F G (fun j=>listed.getD j false):=by
    unfold obs
    rw[hnext,crs_quiet F _ 0 i io.dst d hFi]
    refine lookS_congr G _ _ _ _ (fun j x' hj=> ?_)
    have:j≠i:=fun e=>by subst e;rw[hGi]at hj;cases hj
    simp[this]
   rw[←evQ_congr S os0 hagree]at hq
   rw[hob]at R hfs
   exact evQ_ok hS R hfs hio hq (fun v E' R' e' hv=>step v E' _ (by rw[hos,hob]) R' (by rw[hob];exact e') hv)
  |near hf hk hq=>
   have no: ∀(j:Nat) (x':List Ob),G[j]? =some (some x')→listed.getD j false=false:=fun j x' hj=>by
    obtain⟨_,_,_,hkj⟩:=st_of j x' hj
    exact later hf j x' (by omega) hj
   have hob:obs os0 F G (fun j=>listed.getD j false)=os0++crs F (fun j=>listed.getD j false) 0:=lookS_none G _ 0 _ (fun j x' hj=>by rw[Nat.zero_add];exact no j x' hj)
   have hos:obs os0 F G (fun j=>(listed.setIfInBounds i true).getD j false)=obs os0 F G (fun j=>listed.getD j false):=by
    unfold obs
    rw[hnext,crs_quiet F _ 0 i io.dst d hFi]
    refine lookS_congr G _ _ _ _ (fun j x' hj=> ?_)
    have:j≠i:=fun e=>by subst e;rw[hGi]at hj;cases hj
    simp[this]
   have hcur:lookS (G.take i) (fun _=>true) 0 (os0++recO (F.take i))=os0++recO (F.take i):=by
    rw[←lookS_take G i 0]
    refine lookS_none G _ 0 _ (fun j x' hj=> ?_)
    obtain⟨_,_,_,hkj⟩:=st_of j x' hj
    simp;omega
   rw[hcur]at hq
   obtain⟨u,id,ext,off,len,rs',hg,he,hx,hr,hb,rfl⟩:=nearQ_inv hq
   have hx':Go.Ab.get φs u= .ref id ext off len:=by
    rw[←hx];exact hagree u (by simp[IOp.reads,he,IE.reads,IO.reads])
   have hv:=hfs.slot u
   rw[hx']at hv
   have hr':rowsOf (obs os0 F G (fun j=>listed.getD j false)) (.ref id ext off len)=some rs':=by
    cases hv with
    |ref h1 h2=>
     obtain⟨o',sz',rs2,k1,k2,k3⟩:=h1
     rw[hob]at k1⊢
     refine rowsOf_eq ?_ hr
     by_cases hid:id<os0.length
     ·rw[ξl hid,ξl hid]
     ·rw[List.getElem?_append_right (by omega)]at k1⊢
      rw[List.getElem?_append_right (by omega)]
      have hsome: ∃ob,(recO (F.take i))[id-os0.length]? =some ob:=by
       cases hc:(recO (F.take i))[id-os0.length]? with
       |some ob=>exact⟨ob,rfl⟩
       |none=>
        simp only[rowsOf]at hr
        rw[List.getElem?_append_right (by omega),hc]at hr
        cases hr
      obtain⟨ob,hob'⟩:=hsome
      rw[hob',k1]
      rcases crs_or F (fun j=>listed.getD j false) 0 _ _ k1 with h|h
      ·subst h;cases k2
      ·rw[recO_pre F i _ _ hob']at h;exact h.symm
   have hq2:evQ S φs (obs os0 F G (fun j=>listed.getD j false)) io=some (true,.x (.str (rs'.map rowByte))):=by
    simp only[evQ,hg,he,avalR,aval,opv,hx',D.val,D.cond,hr',Option.map_some,hb,Bool.and_true]
   exact evQ_ok (os:=obs os0 F G (fun j=>listed.getD j false)) (Y:= []) hS (by rw[List.append_nil];exact R) (by rw[List.append_nil];exact hfs) hio hq2 (fun v E' R' e' hv=>step v E' _ (by rw[hos,List.append_nil]) R' (by rw[List.append_nil]at e'⊢;exact e') hv)
  |make hf hk hq=>
   rename_i ob'
   have no: ∀(j:Nat) (x':List Ob),G[j]? =some (some x')→listed.getD j false=false:=fun j x' hj=>by
    obtain⟨_,_,_,hkj⟩:=st_of j x' hj
    exact later hf j x' (by omega) hj
   have hob:obs os0 F G (fun j=>listed.getD j false)=os0++crs F (fun j=>listed.getD j false) 0:=lookS_none G _ 0 _ (fun j x' hj=>by rw[Nat.zero_add];exact no j x' hj)
   obtain⟨m1,m2⟩:=crs_make F (fun j=>listed.getD j false) 0 i io.dst d ob' hFi (by simpa using g1)
   have hos:obs os0 F G (fun j=>(listed.setIfInBounds i true).getD j false)=(os0++crs F (fun j=>listed.getD j false) 0).set (os0.length+place F i) ob':=by
    unfold obs
    rw[hnext,m2,List.set_append_right _ _ (by omega),Nat.add_sub_cancel_left]
    refine lookS_none G _ 0 _ (fun j x' hj=> ?_)
    have:j≠i:=fun e=>by subst e;rw[hGi]at hj;cases hj
    simp only[Nat.zero_add,no j x' hj,this,decide_false,Bool.or_false]
   rw[←evK_congr S os0 _ hagree]at hq
   rw[hob]at R hfs
   refine evK_ok hS R hfs hio (id:=os0.length+place F i) ?_ hq (fun v E' R' e' hv=>step v E' _ hos.symm R' (by rw[hob];exact e') hv)
   rw[List.getElem?_append_right (by omega),Nat.add_sub_cancel_left]
   exact m1
  |turn hf hk hq=>
   rename_i s'
   have early: ∀(j:Nat) (y:IOp),j<i→il[j]? =some y→y.ex rs j=false→listed.getD j false=true:=fun j y hj hy hyf=>D0.tail i o io hk ho hil hf _ hcl g2 j y hj hy hyf
   have hcr:crs F (fun j=>listed.getD j false) 0=recO F:=crs_mk F _ 0 (fun j t d' x' hj=>by
    obtain⟨y,hy,hyf,hjk⟩:=mk_of j t d' x' hj
    rw[Nat.zero_add];exact early j y (by omega) hy hyf)
   have hrt:recO (F.take i)=recO F:=recO_take F i (fun j t d' x' hj=>by obtain⟨_,_,_,hjk⟩:=mk_of j t d' x' hj;omega)
   have hob:obs os0 F G (fun j=>listed.getD j false)=lookS (G.take i) (fun _=>true) 0 (os0++recO (F.take i)):=by
    unfold obs
    rw[hcr,hrt,←lookS_take G i 0]
    refine lookS_congr G _ _ _ _ (fun j x' hj=> ?_)
    obtain⟨y,hy,hyf,hkj⟩:=st_of j x' hj
    simp only[Nat.zero_add]
    rcases Nat.lt_trichotomy j i with h|h|h
    ·rw[early j y h hy hyf];simp[h]
    ·subst h;rw[g1];simp
    ·rw[later hf j x' h hj];simp;omega
   have hos:obs os0 F G (fun j=>(listed.setIfInBounds i true).getD j false)=s':=by
    unfold obs
    rw[hnext]
    refine lookS_last G _ 0 _ i s' hGi (by simp) (fun j x' hij hj=> ?_)
    have:j≠i:=by omega
    simp only[Nat.zero_add,later hf j x' hij hj,this,decide_false,Bool.or_false]
   rw[←hob,←evA_congr S _ hagree]at hq
   exact evA_ok hS R hfs hio hq (fun v E' R' e' hv=>step v E' _ hos.symm R' e' hv)
def runDB0 (kp:List Nat) (S:Tabs) (φ:List (Nat×D)) (os:List Ob) (k:Nat) (rs:List Nat) (l:List IOp):Option (Bool×List (Nat×D)×List Ob):=
 (runR S os k rs 0 φ os.length os l).map fun q=>(q.1&&(bxR kp rs 0 φ q.2.1 l&&allC kp os q.2.2),recφ φ q.2.1,lookS q.2.2 (fun _=>true) 0 (os++recO q.2.1))
theorem draw_wpB (hm:P.follows .mixedOrders=true) (hS:SsOk P S) (hok:drawOk ops.toList il k rs=true) (hcomp:ops.toList.mapM (compOper P n ops)=some il) {id:Nat} {φ0 φ2:List (Nat×D)} {os2:List Ob} {E:Env} {a:Act} (R:Rel c E os0) (hf:Fr n E os0 φ0 a) (hrun:runDB0 kp S φ0 os0 k rs il=some (true,φ2,os2))
  (hQ: ∀E' a',Rel c E' os2→Evo E os0 E' os2→Fr n E' os2 φ2 a'→Q .normal a' E'.w):(Code.region id ops true).wp P Q a E.w:=by
 simp only[runDB0,ξm]at hrun
 obtain⟨⟨ok,F,G⟩,hrun,h3⟩:=hrun
 simp at h3
 obtain⟨⟨rfl,hbx,hal⟩,rfl,rfl⟩:=h3
 have D0:=Draw.of hok
 obtain⟨R1,e1⟩:=R.world {E.w with drawn:=E.w.drawn+1} E.st ⟨rfl,rfl,rfl,Nat.le_refl _,fun _ _ _=>rfl⟩ (fun _ _ h=>h) (fun _ _ h=> .inl h)
 obtain⟨E2,w2,R2,e2⟩:=push_dead F 0 R1
 have hrep:(fun j=>(Array.replicate ops.size false).getD j false)=fun _=>false:=by
  funext j
  rw[Array.getD_eq_getD_getElem?]
  by_cases h:j<ops.size<;>simp[h]
 have hob:obs os0 F G (fun _=>false)=os0++crs F (fun _=>false) 0:=lookS_none G _ 0 _ (fun _ _ _=>rfl)
 have hinit:=draw_anyB (E0:=E) hS D0 hcomp hrun hbx hal hQ ops.size (Array.replicate ops.size false) a E2 (by simp) (by rw[hrep];intro i o _ h;cases h) (by
  have:=List.countP_le_length (p:=fun j=> !(Array.replicate ops.size false).getD j false) (l:=List.range ops.size)
  simpa using this) (by rw[hrep,hob];exact R2) (by rw[hrep,hob];exact e1.trans e2) hf.size hf.defers (fun t=>by
   rw[hrep,hob,look_none F _ 0 _ t (fun j d o _=>rfl)]
   exact((hf.slot t).mono e1).mono e2)
 refine wp_region_any hm ?_
 rw[w2]at hinit
 exact hinit
end
def runDB (kp:List Nat) (S:Tabs) (os0:List Ob) (k:Nat) (rs:List Nat):Nat→Bool→List (Nat×D)→Nat→List Ob→List Ob→Option (List Ob)→List IOp→Option (Bool×List (Nat×D)×List Ob)
 |_,b,φ,_,_,C,last,[]=>some (b,φ,last.getD (os0++C))
 |i,b,φ,id,os,C,last,o::l=>
  if o.e.frame then match evQ S φ [] o with
   |some r=>runDB kp S os0 k rs (i+1) (b&&(r.1&&(!memB i rs||boxLd kp φ o))) (putO φ o.dst r.2) id os C last l
   |none=>none
  else if memB i rs then match evQ S φ os0 o with
   |some r=>runDB kp S os0 k rs (i+1) (b&&(r.1&&(!memB i rs||boxLd kp φ o))) (putO φ o.dst r.2) id os C last l
   |none=>none
  else if i<k then match evQ S φ os0 o with
   |some r=>runDB kp S os0 k rs (i+1) (b&&(r.1&&(!memB i rs||boxLd kp φ o))) (putO φ o.dst r.2) id os C last l
   |none=>match nearQ φ os o with
    |some r=>runDB kp S os0 k rs (i+1) (b&&(r.1&&(!memB i rs||boxLd kp φ o))) (putO φ o.dst r.2) id os C last l
    |none=>match evK S φ os0 id o with
     |some r=>runDB kp S os0 k rs (i+1) (b&&(r.1&&(!memB i rs||boxLd kp φ o))) (putO φ o.dst r.2.1) (id+1) (os++ [r.2.2]) (C++ [r.2.2]) last l
     |none=>none
  else match evA S φ os o with
   |some r=>runDB kp S os0 k rs (i+1) (b&&(r.1&&((!memB i rs||boxLd kp φ o)&&boxesB kp os0 r.2.2))) (putO φ o.dst r.2.1) id r.2.2 C (some r.2.2) l
   |none=>none
theorem runDB_eq {kp:List Nat} (S:Tabs) (os0:List Ob) (k:Nat) (rs:List Nat): ∀(l:List IOp) (i:Nat) (b:Bool) (φ:List (Nat×D)) (id:Nat) (os C:List Ob) (last:Option (List Ob)),
  runDB kp S os0 k rs i b φ id os C last l=(runR S os0 k rs i φ id os l).map fun q=>(b&&(q.1&&(bxR kp rs i φ q.2.1 l&&allC kp os0 q.2.2)),recφ φ q.2.1,lookS q.2.2 (fun _=>true) 0 (last.getD (os0++C++recO q.2.1)))
 | [],i,b,φ,id,os,C,last=>by
  simp[runDB,runR,recφ,recO,lookS,bxR,allC]
 |o::l,i,b,φ,id,os,C,last=>by
  simp only[runDB,runR]
  split
  ·cases evQ S φ [] o with
   |none=>rfl
   |some r=>
    simp only[Option.bind_some,runDB_eq S os0 k rs l]
    cases runR S os0 k rs (i+1) (putO φ o.dst r.2) id os l with
    |none=>rfl
    |some q=>simp only[Option.map_some,bxR,allC,recφ,recO,lookS_true_none];congr 1;simp only[ξP,and_true];ac_rfl
  ·split
   ·cases evQ S φ os0 o with
    |none=>rfl
    |some r=>
     simp only[Option.bind_some,runDB_eq S os0 k rs l]
     cases runR S os0 k rs (i+1) (putO φ o.dst r.2) id os l with
     |none=>rfl
     |some q=>simp only[Option.map_some,bxR,allC,recφ,recO,lookS_true_none];congr 1;simp only[ξP,and_true];ac_rfl
   ·split
    ·cases evQ S φ os0 o with
     |some r=>
      simp only[runDB_eq S os0 k rs l]
      cases runR S os0 k rs (i+1) (putO φ o.dst r.2) id os l with
      |none=>rfl
      |some q=>simp only[Option.map_some,bxR,allC,recφ,recO,lookS_true_none];congr 1;simp only[ξP,and_true];ac_rfl
     |none=>
      cases nearQ φ os o with
      |some r=>
       simp only[runDB_eq S os0 k rs l]
       cases runR S os0 k rs (i+1) (putO φ o.dst r.2) id os l with
       |none=>rfl
       |some q=>simp only[Option.map_some,bxR,allC,recφ,recO,lookS_true_none];congr 1;simp only[ξP,and_true];ac_rfl
      |none=>
       cases evK S φ os0 id o with
       |none=>rfl
       |some r=>
        simp only[Option.bind_some,runDB_eq S os0 k rs l]
        cases runR S os0 k rs (i+1) (putO φ o.dst r.2.1) (id+1) (os++ [r.2.2]) l with
        |none=>rfl
        |some q=>simp only[Option.map_some,bxR,allC,recφ,recO,lookS_true_none,List.append_assoc,List.cons_append,List.nil_append];congr 1;simp only[ξP,and_true];ac_rfl
    ·cases evA S φ os o with
     |none=>rfl
     |some r=>
      simp only[Option.bind_some,runDB_eq S os0 k rs l]
      cases runR S os0 k rs (i+1) (putO φ o.dst r.2.1) id r.2.2 l with
      |none=>rfl
      |some q=>simp only[Option.map_some,bxR,allC,recφ,recO,lookS_true_some,Option.getD_some];congr 1;simp only[ξP,and_true];ac_rfl
section
variable {P:Program} {c:Ctx} {E0:Env} {os0 os:List Ob} {n:Nat} {Q:Exit→List (Nat×D)→List Ob→Prop} {φ:List (Nat×D)}
theorem WI.dregX {S:Tabs} (hS:SsOk P S) (kp ks:List Nat) {k:Nat} {rs:List Nat} {l:List IOp} (h:Res (runDB kp S os k rs 0 true φ os.length os [] none l) (fun φ' os'=>Q .normal (Go.Ab.keep ks φ') os')):WI P c E0 os0 n (.dreg k rs l) Q φ os:=by
 obtain⟨ok,φ',os',h1,rfl,h3⟩:=h
 rw[runDB_eq]at h1
 have h2:runDB0 kp S φ os k rs l=some (true,φ',os'):=by
  rw[←h1];unfold runDB0
  cases runR S os k rs 0 φ os.length os l with
  |none=>rfl
  |some q=>simp
 intro code hc E a R hf
 obtain⟨id,ops,rfl,h4,h5,h6⟩:=inv_dreg hc
 exact draw_wpB h5 hS h6 h4 R.rel hf h2 (fun E' a' R' e' f'=>⟨E',_,os',rfl,⟨R',R.evo.trans e'⟩,f'.keep ks,h3⟩)
end
section
variable {S:Tabs} {os0 os C:List Ob} {k i id:Nat} {rs kp:List Nat} {φ φ':List (Nat×D)} {os':List Ob} {last:Option (List Ob)} {o:IOp} {l:List IOp} {ok:Bool} {d:D} {ob:Ob} {K:List (Nat×D)→List Ob→Prop} {Q:Exit→List (Nat×D)→List Ob→Prop} {ks:List Nat}
theorem xsN (h:K φ (last.getD (os0++C))):Res (runDB kp S os0 k rs i true φ id os C last []) K:=⟨true,φ,_,rfl,rfl,h⟩
theorem xsF (hf:o.e.frame=true) (hm:memB i rs=false) (he:(evQ S φ [] o).map (fun r=>(r.1,putO φ o.dst r.2))=some (ok,φ')) (hok:ok=true) (h:Res (runDB kp S os0 k rs (i+1) true φ' id os C last l) K):Res (runDB kp S os0 k rs i true φ id os C last (o::l)) K:=by
 subst hok
 obtain⟨r,h1,h2⟩:=ξM he
 simp only[ξP]at h2
 obtain⟨h2,rfl⟩:=h2
 simp only[runDB,hf,hm,if_true,h1,h2,Bool.and_true,Bool.not_false,Bool.true_or]
 exact h
theorem xsQ (hf:o.e.frame=false) (hm:memB i rs=false) (hk:Nat.ble (i+1) k=true) (he:(evQ S φ os0 o).map (fun r=>(r.1,putO φ o.dst r.2))=some (ok,φ')) (hok:ok=true) (h:Res (runDB kp S os0 k rs (i+1) true φ' id os C last l) K):Res (runDB kp S os0 k rs i true φ id os C last (o::l)) K:=by
 subst hok
 obtain⟨r,h1,h2⟩:=ξM he
 simp only[ξP]at h2
 obtain⟨h2,rfl⟩:=h2
 have hk':i<k:=ξ hk
 simp only[runDB,hf,hm,if_true,h1,h2,hk',Bool.and_true,Bool.not_false,Bool.true_or,Bool.false_eq_true,if_false]
 exact h
theorem xsA (hf:o.e.frame=false) (hm:memB i rs=false) (hk:Nat.ble (i+1) k=false) (he:(evA S φ os o).map (fun r=>(r.1&&boxesB kp os0 r.2.2,putO φ o.dst r.2.1,r.2.2))=some (ok,φ',os')) (hok:ok=true) (h:Res (runDB kp S os0 k rs (i+1) true φ' id os' C (some os') l) K):Res (runDB kp S os0 k rs i true φ id os C last (o::l)) K:=by
 subst hok
 obtain⟨r,h1,h2⟩:=ξM he
 simp only[ξP]at h2
 obtain⟨h2,rfl,rfl⟩:=h2
 have hk': ¬i<k:=fun h=>by have:=Nat.ble_eq_true_of_le h;rw[Nat.succ_eq_add_one,hk]at this;cases this
 simp only[runDB,hf,hm,h1,h2,hk',Bool.true_and,Bool.not_false,Bool.true_or,Bool.false_eq_true,if_false]
 exact h
theorem xFS (h:Res (runDB kp S os0 k rs (i+1) true φ' id os C last l) K) (hf:o.e.frame=true:=by rfl) (hm:memB i rs=false:=by rfl) (he:(evQ S φ [] o).map (fun r=>(r.1,putO φ o.dst r.2))=some (ok,φ'):=by simp only[zC,evQ,evA,avalR,prefB,Ob.beq_refl,stepOp,aval,opv,Ab.get,Ab.put,putO,Nat.reduceEqDiff,↓reduceIte,D.val,D.cond,reduceCtorEq,Nat.reduceAdd,Nat.add_zero,Nat.zero_add];rfl) (hok:ok=true:=by rfl):Res (runDB kp S os0 k rs i true φ id os C last (o::l)) K:=xsF hf hm he hok h
theorem xFG (h:Res (runDB kp S os0 k rs (i+1) true φ' id os C last l) K) (hf:o.e.frame=true:=by rfl) (hm:memB i rs=false:=by rfl) (he:(evQ S φ [] o).map (fun r=>(r.1,putO φ o.dst r.2))=some (ok,φ'):=by simp (disch:=omega) only[uu,zM,evQ,evA,avalR,prefB,Ob.beq_refl,stepOp,aval,opv,Ab.get,Ab.put,putO,Nat.reduceEqDiff,↓reduceIte,D.val,D.cond,reduceCtorEq,aact,keepB,Ob.isDrw,cellsK,drwOf,wholeD,appK,apm,actT,IE.isCall,D.cells?,Nat.reduceAdd,Nat.reduceLeDiff,Ob.slice?,Ob.dsl?,Ob.drw?,Nat.reduceSub,Nat.reduceMul,Int.reduceToNat,Int.reduceLE,Int.reduceLT,Int.reduceAdd,Int.reduceSub,Int.reduceMul,Int.reduceNeg,Int.reduceEq,rowsOf,srcOf,okRef,intOf?,partsD,freezeL,freezeD,buildD,slcStrD,slcSlD,optV,zeroO,eqR,eqD,eqFs,eqX,nzD,binD,unD,lenD,evK,evC,evC1,metG,Nat.reduceLT,zO];rfl) (hok:ok=true:=by first|with_reducible rfl|omega|(simp;done)|(simp;omega)|rfl):Res (runDB kp S os0 k rs i true φ id os C last (o::l)) K:=xsF hf hm he hok h
theorem xQG (h:Res (runDB kp S os0 k rs (i+1) true φ' id os C last l) K) (hf:o.e.frame=false:=by rfl) (hm:memB i rs=false:=by rfl) (hk:Nat.ble (i+1) k=true:=by rfl) (he:(evQ S φ os0 o).map (fun r=>(r.1,putO φ o.dst r.2))=some (ok,φ'):=by simp (disch:=omega) only[uu,zM,evQ,evA,avalR,prefB,Ob.beq_refl,stepOp,aval,opv,Ab.get,Ab.put,putO,Nat.reduceEqDiff,↓reduceIte,D.val,D.cond,reduceCtorEq,aact,keepB,Ob.isDrw,cellsK,drwOf,wholeD,appK,apm,actT,IE.isCall,D.cells?,Nat.reduceAdd,Nat.reduceLeDiff,Ob.slice?,Ob.dsl?,Ob.drw?,Nat.reduceSub,Nat.reduceMul,Int.reduceToNat,Int.reduceLE,Int.reduceLT,Int.reduceAdd,Int.reduceSub,Int.reduceMul,Int.reduceNeg,Int.reduceEq,rowsOf,srcOf,okRef,intOf?,partsD,freezeL,freezeD,buildD,slcStrD,slcSlD,optV,zeroO,eqR,eqD,eqFs,eqX,nzD,binD,unD,lenD,evK,evC,evC1,metG,Nat.reduceLT,zO];rfl) (hok:ok=true:=by first|with_reducible rfl|omega|(simp;done)|(simp;omega)|rfl):Res (runDB kp S os0 k rs i true φ id os C last (o::l)) K:=xsQ hf hm hk he hok h
theorem xAG (h:Res (runDB kp S os0 k rs (i+1) true φ' id os' C (some os') l) K) (hf:o.e.frame=false:=by rfl) (hm:memB i rs=false:=by rfl) (hk:Nat.ble (i+1) k=false:=by rfl) (he:(evA S φ os o).map (fun r=>(r.1&&boxesB kp os0 r.2.2,putO φ o.dst r.2.1,r.2.2))=some (ok,φ',os'):=by simp (disch:=omega) only[uu,zM,evQ,evA,avalR,boxesB,boxes0B,sameL,sameAt,Ob.beq_refl,stepOp,aval,opv,Ab.get,Ab.put,putO,Nat.reduceEqDiff,↓reduceIte,D.val,D.cond,reduceCtorEq,aact,keepB,Ob.isDrw,cellsK,drwOf,wholeD,appK,apm,actT,IE.isCall,D.cells?,Nat.reduceAdd,Nat.reduceLeDiff,Ob.slice?,Ob.dsl?,Ob.drw?,Nat.reduceSub,Nat.reduceMul,Int.reduceToNat,Int.reduceLE,Int.reduceLT,Int.reduceAdd,Int.reduceSub,Int.reduceMul,Int.reduceNeg,Int.reduceEq,rowsOf,srcOf,okRef,intOf?,partsD,freezeL,freezeD,buildD,slcStrD,slcSlD,optV,zeroO,eqR,eqD,eqFs,eqX,nzD,binD,unD,lenD,evK,evC,evC1,metG,Nat.reduceLT,zO];rfl) (hok:ok=true:=by first|with_reducible rfl|omega|(simp;done)|(simp;omega)|rfl):Res (runDB kp S os0 k rs i true φ id os C last (o::l)) K:=xsA hf hm hk he hok h
theorem xQC (h:Res (runDB kp S os0 k rs (i+1) true φ' id os C last l) K) (hf:o.e.frame=false:=by rfl) (hm:memB i rs=false:=by rfl) (hk:Nat.ble (i+1) k=true:=by rfl) (he:(evQ S φ os0 o).map (fun r=>(r.1,putO φ o.dst r.2))=some (ok,φ'):=by simp (disch:=omega) only[uu,zS,zW,zO,viaNN,viaNNT,D.nn,D.na,addQ,addT,IE.isCall,Nat.reduceAdd,Nat.reduceSub,Nat.reduceMul,Nat.reduceLeDiff,Nat.reduceLT,Nat.reduceBEq,Int.reduceToNat,Int.reduceLE,Int.reduceLT,Int.reduceAdd,Int.reduceSub,Int.reduceMul,Int.reduceNeg,Int.reduceEq,Nat.reduceEqDiff,runOpsA,runDB,stepOp,aval,aact,keepB,Ob.isDrw,cellsK,drwOf,wholeD,appK,apm,opv,Ab.get,Ab.put,putO,keep,memN,D.val,D.cond,D.cells?,D.scalar,X.scalar,D.plain,D.isX,binD,bitsD,eqD,eqFs,eqX,unD,intOf?,lenD,okRef,rowsOf,viewD,viewX,freezeD,freezeL,partsD,buildD,slcStrD,slcSlD,Ob.slice?,↓reduceIte,reduceCtorEq,evQ,evK,evC,evC1,metG,evA,avalR,prefB,eqR,nzD,actT,callT1,callR1,callK1,valsL,condsL,optV,noTabs,IE.frame,memB,zeroO,IntWalk.i64_in,liftT,reach,idsD,idsL,idsO,idsM,inPr,renP,fpOk,nodupB,inL,D.inP,Ob.inP,renL,D.ren,inv,fpO,Ob.ren,fpF,fpO',setAll,newT,readT];rfl) (hok:ok=true:=by first|with_reducible rfl|omega|(simp;done)|(simp;omega)|rfl):Res (runDB kp S os0 k rs i true φ id os C last (o::l)) K:=xsQ hf hm hk he hok h
theorem xAC (h:Res (runDB kp S os0 k rs (i+1) true φ' id os' C (some os') l) K) (hf:o.e.frame=false:=by rfl) (hm:memB i rs=false:=by rfl) (hk:Nat.ble (i+1) k=false:=by rfl) (he:(evA S φ os o).map (fun r=>(r.1&&boxesB kp os0 r.2.2,putO φ o.dst r.2.1,r.2.2))=some (ok,φ',os'):=by simp (disch:=omega) only[uu,zS,zW,zO,viaNN,viaNNT,D.nn,D.na,addQ,addT,IE.isCall,Nat.reduceAdd,Nat.reduceSub,Nat.reduceMul,Nat.reduceLeDiff,Nat.reduceLT,Nat.reduceBEq,Int.reduceToNat,Int.reduceLE,Int.reduceLT,Int.reduceAdd,Int.reduceSub,Int.reduceMul,Int.reduceNeg,Int.reduceEq,Nat.reduceEqDiff,runOpsA,runDB,stepOp,aval,aact,keepB,Ob.isDrw,cellsK,drwOf,wholeD,appK,apm,opv,Ab.get,Ab.put,putO,keep,memN,D.val,D.cond,D.cells?,D.scalar,X.scalar,D.plain,D.isX,binD,bitsD,eqD,eqFs,eqX,unD,intOf?,lenD,okRef,rowsOf,viewD,viewX,freezeD,freezeL,partsD,buildD,slcStrD,slcSlD,Ob.slice?,↓reduceIte,reduceCtorEq,evQ,evK,evC,evC1,metG,evA,avalR,boxesB,boxes0B,sameL,sameAt,eqR,nzD,actT,callT1,callR1,callK1,valsL,condsL,optV,noTabs,IE.frame,memB,zeroO,IntWalk.i64_in,liftT,reach,idsD,idsL,idsO,idsM,inPr,renP,fpOk,nodupB,inL,D.inP,Ob.inP,renL,D.ren,inv,fpO,Ob.ren,fpF,fpO',setAll,newT,readT];rfl) (hok:ok=true:=by first|with_reducible rfl|omega|(simp;done)|(simp;omega)|rfl):Res (runDB kp S os0 k rs i true φ id os C last (o::l)) K:=xsA hf hm hk he hok h
end
section
variable {P:Program} {c:Ctx} {E0:Env} {os0 os:List Ob} {n:Nat} {Q:Exit→List (Nat×D)→List Ob→Prop} {φ:List (Nat×D)}
theorem xP {kp:List Nat} {S:Tabs} {ks rs:List Nat} {k i id:Nat} {C os1 os':List Ob} {last:Option (List Ob)} {φ':List (Nat×D)} (h: ∃φ2 os2,Wk c E0 os0 n φ' os' φ2 os2∧Q .normal φ2 os2) (hk:keep ks φ=φ':=by simp only[keep,memN,Nat.reduceEqDiff,if_true,if_false,↓reduceIte,Bool.false_eq_true];rfl) (hl:last.getD (os1++C)=os':=by simp only[Option.getD_none,Option.getD_some,List.append_nil,List.cons_append,List.nil_append];rfl):Res (runDB kp S os1 k rs i true φ id os C last []) (fun φ' os'=> ∃φ2 os2,Wk c E0 os0 n (keep ks φ') os' φ2 os2∧Q .normal φ2 os2):=xsN (by rw[hk,hl];exact h)
end
structure Bx (B:Prop):Prop where
 h:B
theorem sd {p:Bool} (h:p=true:=by first|with_reducible rfl|omega|(simp;done)|(simp;omega)|rfl|(clear uu;grind)):p=true:=h
theorem se {p:Bool} (h:p=true:=by first|with_reducible rfl|omega):p=true:=h
section
variable {S:Tabs} {os:List Ob} {φ:List (Nat×D)} {l:List IOp} {K:List (Nat×D)→List Ob→Prop} {d:Option Nat} {g:Option (Nat×Bool)}
theorem oMk {x:IO} (h:Res (runOpsA S true φ os (⟨d,.mv x,none⟩::l)) K):Res (runOpsA S true φ os (⟨d,.mv x,none⟩::l)) K:=h
theorem oKk {x:IO} (h:Res (runOpsA S true φ os (⟨d,.nck x,none⟩::l)) K):Res (runOpsA S true φ os (⟨d,.nck x,none⟩::l)) K:=h
theorem oFk {a:Nat} {x:IO} (h:Res (runOpsA S true φ os (⟨d,.fad a x,none⟩::l)) K):Res (runOpsA S true φ os (⟨d,.fad a x,none⟩::l)) K:=h
theorem oGk {o:IOp} (h:Res (runOpsA S true φ os (o::l)) K):Res (runOpsA S true φ os (o::l)) K:=h
theorem oCk {f:IO} {xs:List IO} (h:Res (runOpsA S true φ os (⟨d,.call f xs,g⟩::l)) K):Res (runOpsA S true φ os (⟨d,.call f xs,g⟩::l)) K:=h
end
section
variable {P:Program} {c:Ctx} {E0:Env} {os0 os:List Ob} {n:Nat} {Q:Exit→List (Nat×D)→List Ob→Prop} {φ:List (Nat×D)}
theorem nz {A B:Prop} (h:A) (k:Bx A→B:=by(intro h;(repeat first|with_reducible refine thenQ_normal ?_|with_reducible refine WI.seq ?_|with_reducible refine WI.block ?_|with_reducible refine WI.skip ?_|with_reducible refine blockQ_normal ?_|with_reducible refine jumpQ_normal ?_|with_reducible refine WI.exit ?_|with_reducible refine blockQ_hit ?_|((with_reducible refine blockQ_miss ?_ ?_);(focus decide))|with_reducible refine thenQ_exit ?_|with_reducible refine jumpQ_exit ?_);exact h.h)):B:=k ⟨h⟩
theorem rg {S:Tabs} (hS:SsOk P S) (ks:List Nat) {l:List IOp} {A B:Prop} (h:A) (k:Bx B→Res (runOpsA S true φ os l) (fun φ' os'=>Q .normal (Go.Ab.keep ks φ') os'):=by(intro h;(repeat first|((with_reducible refine oMk ?_);refine oS ?_)|((with_reducible refine oKk ?_);refine oS ?_)|((with_reducible refine oFk ?_);refine oS ?_)|((with_reducible refine oGk ?_);(fail_if_success (with_reducible refine oCk ?_));refine oG ?_)|((with_reducible refine oCk ?_);refine oC ?_));refine oN ?_;exact h.h)) (k2:Bx A→B:=by(intro h;refine nz ?_;exact h.h)):WI P c E0 os0 n (.reg l) Q φ os:=WI.regB hS ks (k ⟨k2 ⟨h⟩⟩)
theorem rgp {S:Tabs} (hS:SsOk P S) (ks:List Nat) {l:List IOp} {A:Prop} (h:A) (k:Bx A→Res (runOpsA S true φ os l) (fun φ' os'=> ∃φ2 os2,Wk c E0 os0 n (Go.Ab.keep ks φ') os' φ2 os2∧Q .normal φ2 os2):=by(intro h;(repeat first|((with_reducible refine oMk ?_);refine oS ?_)|((with_reducible refine oKk ?_);refine oS ?_)|((with_reducible refine oFk ?_);refine oS ?_)|((with_reducible refine oGk ?_);(fail_if_success (with_reducible refine oCk ?_));refine oG ?_)|((with_reducible refine oCk ?_);refine oC ?_));refine oP ?_;exact h.h)):WI P c E0 os0 n (.reg l) Q φ os:=WI.post (WI.regB hS ks (k ⟨h⟩))
theorem cd {x:IO} {y z:IC} {b:Bool} {p q A B:Prop} (ht:p→A) (he:q→B) (hv:(opv φ x).val= .x (.bool b):=by exact rfl) (hcd:(opv φ x).cond=true:=by exact rfl) (hp:b=true→p:=by(intro h;first|(simp only[zB]at h;exact h)|exact h)) (hq:b=false→q:=by(intro h;first|(simp only[zB]at h;exact h)|exact h)) (kA:Bx A→WI P c E0 os0 n y Q φ os:=by(intro h;refine nz ?_;exact h.h)) (kB:Bx B→WI P c E0 os0 n z Q φ os:=by(intro h;refine nz ?_;exact h.h)):WI P c E0 os0 n (.cond x y z) Q φ os:=
 WI.cond hv hcd (fun h=>kA ⟨ht (hp h)⟩) (fun h=>kB ⟨he (hq h)⟩)
theorem ce {x:IO} {y z:IC} {b:Bool} {q B:Prop} (ht:b=true→False) (he:q→B) (hv:(opv φ x).val= .x (.bool b):=by exact rfl) (hcd:(opv φ x).cond=true:=by exact rfl) (hq:b=false→q:=by(intro h;first|(simp only[zB]at h;exact h)|exact h)) (kB:Bx B→WI P c E0 os0 n z Q φ os:=by(intro h;refine nz ?_;exact h.h)):WI P c E0 os0 n (.cond x y z) Q φ os:=
 WI.cond hv hcd (fun h=>(ht h).elim) (fun h=>kB ⟨he (hq h)⟩)
theorem ct {x:IO} {y z:IC} {b:Bool} {p A:Prop} (ht:p→A) (he:b=false→False) (hv:(opv φ x).val= .x (.bool b):=by exact rfl) (hcd:(opv φ x).cond=true:=by exact rfl) (hp:b=true→p:=by(intro h;first|(simp only[zB]at h;exact h)|exact h)) (kA:Bx A→WI P c E0 os0 n y Q φ os:=by(intro h;refine nz ?_;exact h.h)):WI P c E0 os0 n (.cond x y z) Q φ os:=
 WI.cond hv hcd (fun h=>kA ⟨ht (hp h)⟩) (fun h=>(he h).elim)
theorem lf {A:Prop} (h:A) (k:Bx A→WI P c E0 os0 n .ret Q φ os:=by(intro h;refine WI.ret ?_;(repeat first|with_reducible refine thenQ_ret ?_|with_reducible refine blockQ_ret ?_|with_reducible refine jumpQ_ret ?_);(first|refine lfR ?_|refine lfR2 ?_|refine lfRX ?_);exact h.h)):WI P c E0 os0 n .ret Q φ os:=k ⟨h⟩
end
section
variable {P:Program} {c:Ctx} {E E0:Env} {os os0:List Ob} {n:Nat} {Q:Exit→List (Nat×D)→List Ob→Prop} {φ:List (Nat×D)}
theorem set_self {α:Type} (l:List α) (i:Nat) (x:α) (h:l[i]? =some x):l.set i x=l:=by
 apply List.ext_getElem?
 intro j
 rw[List.getElem?_set]
 by_cases hj:i=j
 ·subst hj;rw[if_pos rfl,h];simp[(ξG h).1]
 ·simp[hj]
theorem Rel.swap (R:Rel c E os) {i:Nat} {o o':Ob} (ho:os[i]? =some o) (hs:o'.sl? =o.sl?) (hk:o.kd=none) (hm: ∀p b,o'.mb p b→o.mb p b) (hok: ∀(E':Env) (os':List Ob) p,Evo E os E' os'→E'.w=E.w→OK E os o p→OK E' os' o' p):Rel c E (os.set i o')∧Evo E os E (os.set i o'):=by
 obtain⟨p,hp,h⟩:=R.at ho
 have:=R.set ho hp E.w o' p (Kept.refl _ _) (fun b hb=> .inl (hm p b hb)) (fun sz m hm=>⟨m,by rw[hs];exact hm,.inl ⟨rfl,rfl⟩⟩) (fun k h=>by rw[hk]at h;cases h) (fun ev=>hok _ _ p ev rfl h)
 rw[set_self _ _ _ hp]at this
 exact this
theorem Rel.toD (R:Rel c E os) {i e sz:Nat} {rs:List (List X)} (ho:os[i]? =some (.rows false e sz rs)):Rel c E (os.set i (.drw e sz (xRows rs)))∧Evo E os E (os.set i (.drw e sz (xRows rs))):=by
 refine R.swap ho (by simp[Ob.sl?,xRows_len]) rfl (fun p b h=>h) (fun E' os' p ev hw h=> ?_)
 obtain⟨xs,h1,h2,h3⟩:=h
 refine⟨xs,by rw[hw,xRows_len];exact h1,fun r hr=> ?_,fun i r j d v hr hd hv=> ?_⟩
 ·obtain⟨r0,h0,rfl⟩:=List.mem_map.1 hr
  rw[List.length_map];exact h2 r0 h0
 ·obtain⟨r0,x,g1,g2,rfl⟩:=xRows_at hr hd
  have:=h3 i r0 j x v g1 g2 hv
  exact⟨.x (this.mono ev.st),this.one⟩
theorem Rel.toX (R:Rel c E os) {i e sz:Nat} {rs:List (List X)} (ho:os[i]? =some (.drw e sz (xRows rs))):Rel c E (os.set i (.rows false e sz rs))∧Evo E os E (os.set i (.rows false e sz rs)):=by
 refine R.swap ho (by simp[Ob.sl?,xRows_len]) rfl (fun p b h=>h) (fun E' os' p ev hw h=> ?_)
 obtain⟨xs,h1,h2,h3⟩:=h
 refine⟨xs,by rw[hw];rw[xRows_len]at h1;exact h1,fun r hr=> ?_,fun i r j x v hr hx hv=> ?_⟩
 ·have:=h2 (r.map D.x) (List.mem_map.2 ⟨r,hr,rfl⟩)
  rwa [List.length_map]at this
 ·have hr':(xRows rs)[i]? =some (r.map D.x):=by unfold xRows;rw[ξp,hr];rfl
  exact(h3 i _ j (.x x) v hr' (by rw[ξp,hx];rfl) hv).1.xx.mono ev.st
theorem Wk.toD {i e sz:Nat} {rs:List (List X)} (ho:os[i]? =some (.rows false e sz rs)):Wk c E0 os0 n φ os φ (os.set i (.drw e sz (xRows rs))):=fun E a R hf=>by
 obtain⟨R1,e1⟩:=R.rel.toD ho
 exact⟨E,rfl,⟨R1,R.evo.trans e1⟩,hf.mono e1⟩
theorem Wk.toX {i e sz:Nat} {rs:List (List X)} (ho:os[i]? =some (.drw e sz (xRows rs))):Wk c E0 os0 n φ os φ (os.set i (.rows false e sz rs)):=fun E a R hf=>by
 obtain⟨R1,e1⟩:=R.rel.toX ho
 exact⟨E,rfl,⟨R1,R.evo.trans e1⟩,hf.mono e1⟩
theorem WI.toDA (i:Nat) {e sz:Nat} {rs:List (List X)} {ic:IC} {os':List Ob} (h:WI P c E0 os0 n ic Q φ os') (ho:os[i]? =some (.rows false e sz rs):=by rfl) (hs:os.set i (.drw e sz (xRows rs))=os':=by simp only[List.set_cons_zero,List.set_cons_succ];rfl):WI P c E0 os0 n ic Q φ os:=WI.weak (Wk.toD ho) (by rw[hs];exact h)
theorem WI.toXA (i:Nat) {e sz:Nat} {rs:List (List X)} {ic:IC} {os':List Ob} (h:WI P c E0 os0 n ic Q φ os') (ho:os[i]? =some (.drw e sz (xRows rs)):=by rfl) (hs:os.set i (.rows false e sz rs)=os':=by simp only[List.set_cons_zero,List.set_cons_succ];rfl):WI P c E0 os0 n ic Q φ os:=WI.weak (Wk.toX ho) (by rw[hs];exact h)
end
section
variable {P:Program} {c:Ctx} {E E0:Env} {os os0:List Ob} {n:Nat} {Q:Exit→List (Nat×D)→List Ob→Prop} {φ:List (Nat×D)}
end
section
variable {P:Program} {c:Ctx} {E0:Env} {os os0:List Ob} {n:Nat} {Q:Exit→List (Nat×D)→List Ob→Prop} {φ:List (Nat×D)}
end
section
variable {P:Program} {c:Ctx} {E0:Env} {os os0:List Ob} {n:Nat} {Q:Exit→List (Nat×D)→List Ob→Prop} {φ:List (Nat×D)}
def kN (K:List (Nat×D)→List Ob→Prop):Exit→List (Nat×D)→List Ob→Prop:=fun _ φ os=>K φ os
theorem pEndN {K:List (Nat×D)→List Ob→Prop} (h:K φ os): ∃φ2 os2,Wk c E0 os0 n φ os φ2 os2∧kN K .normal φ2 os2:=⟨φ,os,Wk.refl,h⟩
end
def obsEq:List Ob→List Ob→Bool
 | [],[]=>true
 |x::l,y::l'=>Ob.beq x y&&obsEq l l'
 |_,_=>false
theorem obsEq_eq: ∀ {a b:List Ob},obsEq a b=true→a=b
 | [],b,h=>by cases b<;>simp[obsEq]at h;rfl
 |x::l,b,h=>by
  cases b<;>simp[obsEq]at h
  rw[Ob.beq_eq h.1,obsEq_eq h.2]
theorem obsEq_refl: ∀a:List Ob,obsEq a a=true
 | []=>rfl
 |x::l=>by simp only[obsEq,ξa];exact⟨Ob.beq_refl x,obsEq_refl l⟩
def ptT (S:Tabs) (f:FuncId) (A:List D) (O:List Ob) (r:D) (O':List Ob):Tabs:=⟨S.q,fun f' args os=>if f'=f∧D.beqL args A=true∧obsEq os O=true then some (true,r,O')else S.t f' args os,S.r,S.k⟩
theorem ptT_ok {P:Program} {S:Tabs} (hS:SsOk P S) {f:FuncId} {A:List D} {O O':List Ob} {r:D} (he:Enters P f) (hm:MCalls P f A O r O'):SsOk P (ptT S f A O r O'):=by
 refine⟨hS.q,fun f' args os r' os' h=> ?_,hS.r,hS.k⟩
 simp only[ptT]at h
 split at h
 ·rename_i hh
  obtain⟨rfl,h2,h3⟩:=hh
  rw[D.beqL_eq h2,obsEq_eq h3]
  simp only[ξI,ξP,true_and]at h
  obtain⟨rfl,rfl⟩:=h
  exact⟨he,hm⟩
 ·exact hS.t f' args os r' os' h
theorem ptT_t (S:Tabs) (f:FuncId) (A:List D) (O:List Ob) (r:D) (O':List Ob):(ptT S f A O r O').t f A O=some (true,r,O'):=if_pos ⟨rfl,D.beqL_refl A,obsEq_refl O⟩
theorem ptT_q (S:Tabs) (f:FuncId) (A:List D) (O:List Ob) (r:D) (O':List Ob):(ptT S f A O r O').q=S.q:=rfl
theorem ptT_r (S:Tabs) (f:FuncId) (A:List D) (O:List Ob) (r:D) (O':List Ob):(ptT S f A O r O').r=S.r:=rfl
theorem ptT_k (S:Tabs) (f:FuncId) (A:List D) (O:List Ob) (r:D) (O':List Ob):(ptT S f A O r O').k=S.k:=rfl
theorem D.ren_id (f:Nat→Nat) (h: ∀i,f i=i) (d:D):d.ren f=d:=by
 refine D.rec (motive_1:=fun d=>d.ren f=d) (motive_2:=fun l=>renL f l=l) ?_ ?_ ?_ ?_ ?_ ?_ ?_ ?_ ?_ ?_ ?_ ?_ ?_ ?_ ?_ ?_ ?_ ?_ ?_ d
 all_goals intros
 all_goals first|rfl|(simp only[D.ren,renL,h];done)|(simp only[D.ren,renL,h];simp_all)
theorem renL_id (f:Nat→Nat) (h: ∀i,f i=i): ∀l:List D,renL f l=l
 | []=>rfl
 |d::l=>by rw[renL,D.ren_id f h,renL_id f h l]
theorem renP_id (f:Nat→Nat) (h: ∀i,f i=i) (p:Pr):renP f p=p:=by
 unfold renP;rw[renL_id f h]
theorem map_same {α:Type} (f:α→α) (h: ∀x,f x=x) (l:List α):l.map f=l:=by
 induction l with
 |nil=>rfl
 |cons a l ih=>rw[List.map_cons,h,ih]
theorem Ob.ren_id (f:Nat→Nat) (h: ∀i,f i=i) (o:Ob):o.ren f=o:=by
 cases o<;>simp only[Ob.ren,h,renL_id f h,map_same (renP f) (renP_id f h),map_same (renL f) (renL_id f h)]
 rename_i cur
 cases cur<;>simp only[Option.map_none,Option.map_some,renP_id f h]
theorem liftT_row (h:List D→List Ob→Option (Bool×D×List Ob)) (args:List D) (OS:List Ob) (i:Nat) (fz:Bool) (e sz:Nat) (rs:List (List X)) (fz':Bool) (e' sz':Nat) (rs':List (List X)) (ok:Bool) (r:D)
  (hi:idsL args= [i]) (hn:inL (fun j=>memB j [i]) args=true) (ho:OS[i]? =some (.rows fz e sz rs)) (hr: ∀f,r.ren f=r)
  (hh:h (renL (inv [i]) args) [.rows fz e sz rs]=some (ok,r,[.rows fz' e' sz' rs'])):liftT h args OS=some (ok,r,OS.set i (.rows fz' e' sz' rs')):=by
 have hlt:i<OS.length:=(ξG ho).1
 have hg:OS.getD i .dead= .rows fz e sz rs:=by rw[List.getD_eq_getElem?_getD,ho];rfl
 have hm:memB i []=false:=rfl
 have hre:reach OS 64 (idsL args) []= [i]:=by
  rw[hi]
  simp only[reach,hm,hg,idsO]
  rfl
 have hfp:fpO [i] OS= [.rows fz e sz rs]:=by
  unfold fpO
  simp only[List.map_cons,List.map_nil,hg];rfl
 unfold liftT
 rw[hre,hfp,hh,if_pos (by
  unfold fpOk
  simp only[List.all_cons,List.all_nil,hg,hn,ξt hlt,nodupB]
  rfl)]
 rw[Option.bind_some,if_pos (by simp),hr]
 congr 3
 unfold fpO'
 simp only[List.map_cons,List.map_nil,setAll,List.drop_succ_cons,List.drop_zero,ξC,ξN,List.append_nil]
 rfl
def fam (e sz:Nat) (l:List (List (List X))):List Ob:=l.map fun rs=> .rows false e sz rs
def famF (sz:Nat) (l:List (List (List X))):List Ob:=l.map fun rs=> .frz sz rs
theorem fam_len (e sz:Nat) (l:List (List (List X))):(fam e sz l).length=l.length:=by simp[fam]
theorem famF_len (sz:Nat) (l:List (List (List X))):(famF sz l).length=l.length:=by simp[famF]
theorem frz_fam (o:Ob) (e sz:Nat): ∀(l A:List (List (List X))),frzL (List.range' (A.length+1) l.length) (o::(famF sz A++fam e sz l))=o::famF sz (A++l)
 | [],A=>by simp[frzL,fam]
 |r::l,A=>by
  have ih:=frz_fam o e sz l (A++ [r])
  have hg:(o::(famF sz A++fam e sz (r::l)))[A.length+1]? =some (.rows false e sz r):=by
   rw[List.getElem?_cons_succ,List.getElem?_append_right (by rw[famF_len];exact Nat.le_refl _),famF_len,Nat.sub_self];rfl
  have hs:(o::(famF sz A++fam e sz (r::l))).set (A.length+1) (.frz sz r)=o::(famF sz (A++ [r])++fam e sz l):=by
   rw[List.set_cons_succ,List.set_append_right _ _ (by rw[famF_len];exact Nat.le_refl _),famF_len,Nat.sub_self]
   simp[famF,fam]
  rw[ξC,List.range'_succ,frzL,hg]
  dsimp only
  rw[hs]
  rw[ξA,List.length_singleton,List.append_assoc]at ih
  exact ih
def refsL:Nat→List (List (List X))→List (List D)
 |_,[]=> []
 |k,rs::l=> [.ref k rs.length 0 rs.length]::refsL (k+1) l
theorem refs_vw (sz:Nat) (os:List Ob): ∀(l:List (List (List X))) (k:Nat),(∀i r,l[i]? =some r→os[k+i]? =some (.frz sz r))→((refsL k l).map (List.map (onF [0] os))).map (renL (inv [0]))=xRows (l.map fun rs=> [.sl rs])
 | [],k,_=>rfl
 |r::l,k,h=>by
  have h0:=h 0 r rfl
  have ih:=refs_vw sz os l (k+1) (fun i x hx=>by rw[show k+1+i=k+(i+1) by omega];exact h (i+1) x hx)
  have hv:onF [0] os (.ref k r.length 0 r.length)= .x (.sl r):=by
   unfold onF
   rw[D.vw,show os[k]? =some (.frz sz r)from h0]
   dsimp only
   rw[if_pos rfl,List.drop_zero,List.take_length]
   rfl
  rw[refsL,List.map_cons,List.map_cons,ih,List.map_cons,List.map_nil,hv]
  rfl
theorem nrm_fam (e sz:Nat) (l:List (List (List X))):nrmO [0] (.drw e 1 (refsL 1 l)::famF sz l)= [.drw e 1 (xRows (l.map fun rs=> [.sl rs]))]:=by
 have h:=refs_vw sz (.drw e 1 (refsL 1 l)::famF sz l) l 1 (fun i r hr=>by rw[Nat.add_comm,List.getElem?_cons_succ];unfold famF;rw[ξp,hr];rfl)
 unfold nrmO fpO
 simp only[List.map_cons,List.map_nil,List.getD_cons_zero,Ob.mp,Ob.onI,Ob.ren]
 rw[h]
theorem memB_range (k i:Nat):memB i (List.range k)=decide (i<k):=by
 rw[Bool.eq_iff_iff,memB_iff,List.mem_range,ξe]
theorem inv_range {k i:Nat} (h:i<k):inv (List.range k) i=i:=inv_of List.nodup_range (by rw[List.getElem?_range h])
theorem fpO_range {OS X:List Ob} (hO:OS.all (Ob.inP (fun i=>decide (i<OS.length)))=true):fpO (List.range OS.length) (OS++X)=OS:=by
 apply List.ext_getElem?
 intro i
 unfold fpO
 rw[ξp]
 by_cases h:i<OS.length
 ·rw[List.getElem?_range h,Option.map_some,List.getD_eq_getElem?_getD,ξl h,ξg h,Option.getD_some]
  have hp:=List.all_eq_true.1 hO _ (List.getElem_mem h)
  have:=Ob.ren_ren (F:=fun i=>i) (g:=inv (List.range OS.length)) (p:=fun i=>decide (i<OS.length)) (fun j hj=>inv_range (of_decide_eq_true hj)) OS[i] hp
  rw[Ob.ren_id _ (fun _=>rfl)]at this
  rw[this]
 ·rw[List.getElem?_eq_none (by simp;omega),List.getElem?_eq_none (by omega)];rfl
section
variable {P:Program} {c:Ctx} {E0:Env} {os0:List Ob} {n:Nat} {Q:Exit→List (Nat×D)→List Ob→Prop} {φ:List (Nat×D)}
theorem get_inP (p:Nat→Bool): ∀(φ:List (Nat×D)),φ.all (fun q=>q.2.inP p)=true→ ∀t,(get φ t).inP p=true
 | [],_,t=>rfl
 |(s,d)::φ,h,t=>by
  rw[List.all_cons,ξa]at h
  unfold Go.Ab.get
  split
  ·exact h.1
  ·exact get_inP p φ h.2 t
theorem Wk.dropT {OS X:List Ob} (h0:os0.length≤OS.length) (hO:OS.all (Ob.inP (fun i=>decide (i<OS.length)))=true) (hφ:φ.all (fun p=>p.2.inP (fun i=>decide (i<OS.length)))=true):Wk c E0 os0 n φ (OS++X) φ OS:=by
 intro E a R hf
 have hn:(List.range OS.length).Nodup:=List.nodup_range
 have hlt: ∀r∈List.range OS.length,r<(OS++X).length:=fun r hr=>by have:=List.mem_range.1 hr;simp;omega
 have hm:(fun i=>memB i (List.range OS.length))=fun i=>decide (i<OS.length):=funext (memB_range _)
 have R2:=R.rel.pickO hn hlt (fun r hr=>by
  have h:=List.mem_range.1 hr
  rw[List.getD_eq_getElem?_getD,ξl h,ξg h,Option.getD_some,hm]
  exact List.all_eq_true.1 hO _ (List.getElem_mem h))
 have e2:=fp_evo (ρ:=List.range OS.length) R.rel hlt
 rw[fpO_range hO]at R2 e2
 refine⟨fpE (List.range OS.length) E,rfl,⟨R2,?_⟩,hf.size,hf.defers,fun t=> ?_⟩
 ·have e01:=R.evo
  refine⟨e01.st,fun id b cu ds k ho hkd hb=> ?_,fun id o sz rs ho hs=> ?_⟩
  ·have hi:=(ξG ho).1
   obtain⟨cu1,ds1,k1,kd1,k2⟩:=e01.bl id b cu ds k ho hkd hb
   obtain⟨cu2,ds2,k3,kd2,k4⟩:=e2.bl id b cu1 ds1 k (by rw[memB_range];exact ξt (by omega)) k1 kd1 k2
   rw[inv_range (by omega)]at k3 k4
   exact⟨cu2,ds2,k3,kd2,k4⟩
  ·have hi:=(ξG ho).1
   obtain⟨o1,rs1,k1,k2,k3⟩:=e01.rf id o sz rs ho hs
   obtain⟨o2,rs2,k4,k5,k6⟩:=e2.rf id o1 sz rs1 (by rw[memB_range];exact ξt (by omega)) k1 k2
   rw[inv_range (by omega)]at k4 k6
   refine⟨o2,rs2,k4,k5,?_⟩
   rcases k3 with⟨k3,k3'⟩|k3<;>rcases k6 with⟨k6,k6'⟩|k6
   ·exact .inl ⟨k3.trans k6,k6'.trans k3'⟩
   ·exact .inr (by omega)
   ·exact .inr (by omega)
   ·exact .inr (by omega)
 ·have hp:=get_inP _ φ hφ t
  have h1:V (fpE (List.range OS.length) E) OS ((get φ t).ren (inv (List.range OS.length))) (a.tmps.getD t undef):=(hf.slot t).monoR e2 (by rw[hm];exact hp)
  have h2:=D.ren_ren (F:=fun i=>i) (g:=inv (List.range OS.length)) (p:=fun i=>decide (i<OS.length)) (fun j hj=>inv_range (of_decide_eq_true hj)) (get φ t) hp
  rw[D.ren_id _ (fun _=>rfl)]at h2
  rwa [h2]at h1
theorem pDropT (OS X:List Ob) {os:List Ob} (e:os=OS++X) (h0:os0.length≤OS.length) (hO:OS.all (Ob.inP (fun i=>decide (i<OS.length)))=true) (hφ:φ.all (fun p=>p.2.inP (fun i=>decide (i<OS.length)))=true) (h: ∃φ2 os2,Wk c E0 os0 n φ OS φ2 os2∧Q .normal φ2 os2): ∃φ2 os2,Wk c E0 os0 n φ os φ2 os2∧Q .normal φ2 os2:=by
 subst e
 obtain⟨φ2,os2,h1,h2⟩:=h
 exact⟨φ2,os2,(Wk.dropT h0 hO hφ).trans h1,h2⟩
theorem WI.dropT (OS X:List Ob) {os:List Ob} {ic:IC} (e:os=OS++X) (h0:os0.length≤OS.length) (hO:OS.all (Ob.inP (fun i=>decide (i<OS.length)))=true) (hφ:φ.all (fun p=>p.2.inP (fun i=>decide (i<OS.length)))=true) (h:WI P c E0 os0 n ic Q φ OS):WI P c E0 os0 n ic Q φ os:=by
 subst e
 exact WI.weak (Wk.dropT h0 hO hφ) h
end
theorem rows_inP (p:Nat→Bool) (e sz:Nat) (l:List (List (List X))):(fam e sz l).all (Ob.inP p)=true:=by
 unfold fam
 rw[List.all_map]
 exact List.all_eq_true.2 fun _ _=>rfl
theorem refsL_len: ∀(l:List (List (List X))) (k:Nat),(refsL k l).length=l.length
 | [],_=>rfl
 |r::l,k=>by rw[refsL,ξC,refsL_len l,ξC]
theorem refsL_get: ∀(l:List (List (List X))) (k i:Nat) (r:List (List X)),l[i]? =some r→(refsL k l)[i]? =some [.ref (k+i) r.length 0 r.length]
 | [],_,i,r,h=>by simp at h
 |r::l,k,0,x,h=>by simp at h;subst h;rfl
 |r::l,k,i+1,x,h=>by
  rw[refsL,List.getElem?_cons_succ,refsL_get l (k+1) i x (by simpa using h),show k+1+i=k+(i+1) by omega]
theorem refsL_snoc: ∀(l:List (List (List X))) (k:Nat) (r:List (List X)),refsL k (l++ [r])=refsL k l++ [[.ref (k+l.length) r.length 0 r.length]]
 | [],k,r=>rfl
 |x::l,k,r=>by rw[List.cons_append,refsL,refsL_snoc l,refsL,ξC,show k+1+l.length=k+(l.length+1) by omega];rfl
theorem refsL_congr: ∀(l l':List (List (List X))) (k:Nat),l.map List.length=l'.map List.length→refsL k l=refsL k l'
 | [],[],_,_=>rfl
 | [],_::_,_,h=>by simp at h
 |_::_,[],_,h=>by simp at h
 |x::l,y::l',k,h=>by
  rw[List.map_cons,List.map_cons,List.cons.injEq]at h
  rw[refsL,refsL,h.1,refsL_congr l l' _ h.2]
theorem refsL_inP (n:Nat): ∀(l:List (List (List X))) (k:Nat),k+l.length≤n→(refsL k l).all (inL (fun i=>decide (i<n)))=true
 | [],_,_=>rfl
 |r::l,k,h=>by
  rw[ξC]at h
  rw[refsL,List.all_cons,refsL_inP n l (k+1) (by omega),Bool.and_true]
  simp only[inL,D.inP,Bool.and_true,ξe];omega
def outF (e:Nat) (l:List (List (List X))):Ob:= .drw e 1 (refsL 1 l)
theorem outF_inP (e e2 sz:Nat) (l:List (List (List X))):(outF e l::fam e2 sz l).all (Ob.inP (fun i=>decide (i<(outF e l::fam e2 sz l).length)))=true:=by
 rw[List.all_cons,rows_inP,Bool.and_true,ξC,fam_len]
 exact refsL_inP _ l 1 (by omega)
theorem fam_at (e sz:Nat) (l:List (List (List X))) (Y:List Ob) (i:Nat) (r:List (List X)) (h:l[i]? =some r):(fam e sz l++Y)[i]? =some (.rows false e sz r):=by
 have hi:=(ξG h).1
 rw[ξl (by rw[fam_len];exact hi)]
 unfold fam;rw[ξp,h];rfl
theorem fam_set (e sz:Nat) (l:List (List (List X))) (Y:List Ob) (i:Nat) (r:List (List X)) (h:i<l.length):(fam e sz l++Y).set i (.rows false e sz r)=fam e sz (l.set i r)++Y:=by
 rw[List.set_append_left _ _ (by rw[fam_len];exact h)]
 unfold fam;rw[List.map_set]
theorem fam_snoc (e sz:Nat) (l:List (List (List X))) (r:List (List X)):fam e sz (l++ [r])=fam e sz l++ [.rows false e sz r]:=by simp[fam]
def oneT (A:List D) (O:List Ob) (r:D) (O':List Ob) (args:List D) (os:List Ob):Option (Bool×D×List Ob):=if D.beqL args A=true∧obsEq os O=true then some (true,r,O')else none
theorem oneT_ok {P:Program} {f:FuncId} {A:List D} {O O':List Ob} {r:D} (hc:MCalls P f A O r O'): ∀args os r' os',oneT A O r O' args os=some (true,r',os')→MCalls P f args os r' os':=by
 intro args os r' os' h
 unfold oneT at h
 split at h
 ·rename_i hh
  rw[D.beqL_eq hh.1,obsEq_eq hh.2]
  simp only[ξI,ξP,true_and]at h
  obtain⟨rfl,rfl⟩:=h
  exact hc
 ·cases h
theorem oneT_at (A:List D) (O:List Ob) (r:D) (O':List Ob):oneT A O r O' A O=some (true,r,O'):=if_pos ⟨D.beqL_refl A,obsEq_refl O⟩
theorem MCalls.row {P:Program} {f:FuncId} {args:List D} {OS:List Ob} {r:D} (i:Nat) {fz fz':Bool} {e sz e' sz':Nat} {rs rs':List (List X)} (hc:MCalls P f (renL (inv [i]) args) [.rows fz e sz rs] r [.rows fz' e' sz' rs'])
  (ho:OS[i]? =some (.rows fz e sz rs)) (hi:idsL args= [i]) (hn:inL (fun j=>memB j [i]) args=true) (hr: ∀f,r.ren f=r):MCalls P f args OS r (OS.set i (.rows fz' e' sz' rs')):=
 MCalls.lift (oneT_ok hc) _ _ _ _ (liftT_row _ _ _ i fz e sz rs fz' e' sz' rs' true _ hi hn ho hr (oneT_at _ _ _ _))
theorem MCalls.new {P:Program} {f:FuncId} {args:List D} {OS os':List Ob} {r:D} (hc:MCalls P f args [] r os') (hi:idsL args= []) (hn: ∀p,inL p args=true):MCalls P f args OS (r.ren (fun i=>OS.length+i)) (OS++os'.map (Ob.ren (fun i=>OS.length+i))):=by
 have hren: ∀g,renL g args=args:=fun g=>by
  have:=renL_ren (F:=fun i=>i) (g:=g) (p:=fun _=>false) (fun i h=>by cases h) args (hn _)
  rwa [renL_id _ (fun _=>rfl)]at this
 refine MCalls.lift (h:=oneT args [] r os') (oneT_ok hc) _ _ _ _ ?_
 have hre:reach OS 64 (idsL args) []= []:=by rw[hi];rfl
 have hf:fpF [] OS.length os'.length=fun i=>OS.length+i:=funext fun i=>by simp[fpF]
 unfold liftT
 rw[hre,if_pos (by simp[fpOk,hn,nodupB]),hren,show fpO [] OS= []from rfl,oneT_at,Option.bind_some]
 dsimp only
 rw[if_pos (show([]:List Nat).length≤os'.length from Nat.zero_le _)]
 unfold fpO'
 rw[hf]
 cases os'<;>rfl
section
variable {P:Program}
theorem FCalls.mcallsX {f:FuncId} {args:List D} {r:D} {os os':List Ob} (h:FCalls P f args os (fun r' os2=>r'=r∧ ∃X,os2=os'++X)) (h0:os.length≤os'.length) (hO:os'.all (Ob.inP (fun i=>decide (i<os'.length)))=true) (hr:r.inP (fun i=>decide (i<os'.length))=true):MCalls P f args os r os':=by
 intro c E vs R hvl
 refine(h c E vs R hvl).mono ?_
 rintro e w' ⟨v,E',r',os2,rfl,rfl,R',ev,hv,rfl,X,rfl⟩
 have hn:(List.range os'.length).Nodup:=List.nodup_range
 have hlt: ∀r∈List.range os'.length,r<(os'++X).length:=fun r hr=>by have:=List.mem_range.1 hr;simp;omega
 have hm:(fun i=>memB i (List.range os'.length))=fun i=>decide (i<os'.length):=funext (memB_range _)
 have R2:=R'.pickO hn hlt (fun r hr=>by
  have h:=List.mem_range.1 hr
  rw[List.getD_eq_getElem?_getD,ξl h,ξg h,Option.getD_some,hm]
  exact List.all_eq_true.1 hO _ (List.getElem_mem h))
 have e2:=fp_evo (ρ:=List.range os'.length) R' hlt
 rw[fpO_range hO]at R2 e2
 refine⟨v,fpE (List.range os'.length) E',rfl,rfl,R2,?_,?_⟩
 ·refine⟨ev.st,fun id b cu ds k ho hkd hb=> ?_,fun id o sz rs ho hs=> ?_⟩
  ·have hi:=(ξG ho).1
   obtain⟨cu1,ds1,k1,kd1,k2⟩:=ev.bl id b cu ds k ho hkd hb
   obtain⟨cu2,ds2,k3,kd2,k4⟩:=e2.bl id b cu1 ds1 k (by rw[memB_range];exact ξt (by omega)) k1 kd1 k2
   rw[inv_range (by omega)]at k3 k4
   exact⟨cu2,ds2,k3,kd2,k4⟩
  ·have hi:=(ξG ho).1
   obtain⟨o1,rs1,k1,k2,k3⟩:=ev.rf id o sz rs ho hs
   obtain⟨o2,rs2,k4,k5,k6⟩:=e2.rf id o1 sz rs1 (by rw[memB_range];exact ξt (by omega)) k1 k2
   rw[inv_range (by omega)]at k4 k6
   refine⟨o2,rs2,k4,k5,?_⟩
   rcases k3 with⟨k3,k3'⟩|k3<;>rcases k6 with⟨k6,k6'⟩|k6
   ·exact .inl ⟨k3.trans k6,k6'.trans k3'⟩
   ·exact .inr (by omega)
   ·exact .inr (by omega)
   ·exact .inr (by omega)
 ·have h1:V (fpE (List.range os'.length) E') os' (r'.ren (inv (List.range os'.length))) v:=hv.monoR e2 (by rw[hm];exact hr)
  have h2:=D.ren_ren (F:=fun i=>i) (g:=inv (List.range os'.length)) (p:=fun i=>decide (i<os'.length)) (fun j hj=>inv_range (of_decide_eq_true hj)) r' hr
  rw[D.ren_id _ (fun _=>rfl)]at h2
  rwa [h2]at h1
end
theorem PCalls.mc {P:Program} {f:FuncId} {args:List D} {r:D} (h:PCalls P f args r) (OS:List Ob) (hi:idsL args= []:=by rfl) (hn: ∀p,inL p args=true:=by intro p;rfl) (hr: ∀g,r.ren g=r:=by intro g;rfl):MCalls P f args OS r OS:=by
 have h0:MCalls P f args [] r []:=by
  intro c E vs R hvl
  have hob:E.ob= []:=List.eq_nil_of_length_eq_zero (by have:=R.len;simpa using this)
  obtain⟨w,st,ob⟩:=E
  simp only at hob
  subst hob
  refine(h w st vs (fun b o h=>(R.stm b o h).1) hvl).mono ?_
  rintro e w' ⟨v,st',rfl,hk,h1,h2,hv⟩
  obtain⟨R',ev⟩:=R.world w' st' hk h1 h2
  exact⟨v,_,rfl,rfl,R',ev,hv⟩
 have:=MCalls.new (OS:=OS) h0 hi hn
 rw[hr,List.map_nil,List.append_nil]at this
 exact this
variable {P:Program} {c:Ctx} {E0:Env} {os0:List Ob} {n:Nat} {Q:Exit→List (Nat×D)→List Ob→Prop} {φ:List (Nat×D)} {os:List Ob}
def WR (P:Program) (c:Ctx) (E0:Env) (os0:List Ob) (n:Nat) (l:List IOp) (Q:Exit→List (Nat×D)→List Ob→Prop) (φ:List (Nat×D)) (os:List Ob):Prop:=
 ∀(ops:Array Oper) (lo:List Oper),lo.mapM (compOper P n ops)=some l→ ∀(E:Env) (a:Act),Run c E0 os0 E os→Fr n E os φ a→
  wpList P ops (fun x a' w'=> ∃E' φ' os',E'.w=w'∧Run c E0 os0 E' os'∧Fr n E' os' φ' a'∧Q x φ' os') lo a E.w
theorem WR.reg {l:List IOp} (h:WR P c E0 os0 n l Q φ os):WI P c E0 os0 n (.reg l) Q φ os:=by
 intro code hc E a R hf
 obtain⟨id,ops,rfl,h1⟩:=inv_reg hc
 exact wp_region_list (h ops _ h1 E a R hf)
theorem WR.regB {S:Tabs} (hS:SsOk P S) (ks:List Nat) {l:List IOp} (h:Res (runOpsA S true φ os l) (fun φ' os'=>Q .normal (Go.Ab.keep ks φ') os')):WR P c E0 os0 n l Q φ os:=by
 intro ops lo h1 E a R hf
 rw[runOpsA_eq]at h
 obtain⟨ok,φ',os',h2,rfl,h3⟩:=h
 obtain⟨⟨ok2,q⟩,h4,h5⟩:=ξM h2
 simp at h5
 obtain⟨rfl,rfl⟩:=h5
 exact ops_ok hS R.rel hf h1 h4 (fun E' a' R' e' f'=>⟨E',_,_,rfl,⟨R',R.evo.trans e'⟩,f'.keep ks,h3⟩)
theorem mapM_split {α β:Type} (f:α→Option β): ∀(k:Nat) (lo:List α) (l:List β),lo.mapM f=some l→(lo.take k).mapM f=some (l.take k)∧(lo.drop k).mapM f=some (l.drop k)
 |0,lo,l,h=>by simpa using h
 |k+1,[],l,h=>by simp at h;subst h;simp
 |k+1,x::lo,l,h=>by
  simp only[List.mapM_cons,Option.bind_eq_bind,ξb,Option.pure_def]at h
  obtain⟨y,h1,l',h2,h3⟩:=h
  cases h3
  obtain⟨i1,i2⟩:=mapM_split f k lo l' h2
  refine⟨?_,by simpa using i2⟩
  simp only[List.take_succ_cons,List.mapM_cons,h1,i1,Option.bind_eq_bind,Option.bind_some,Option.pure_def]
theorem ops_ok2 {S:Tabs} (hS:SsOk P S) {ops:Array Oper} {Q:Exit→Act→World→Prop} {lo2:List Oper}: ∀ {l:List Oper} {il:List IOp} {E:Env} {os:List Ob} {φ:List (Nat×D)} {a:Act},Rel c E os→Fr n E os φ a→l.mapM (compOper P n ops)=some il→ ∀ {φ':List (Nat×D)} {os':List Ob},runOps S φ os il=some (true,φ',os')→
  (∀E' a',Rel c E' os'→Evo E os E' os'→Fr n E' os' φ' a'→wpList P ops Q lo2 a' E'.w)→wpList P ops Q (l++lo2) a E.w
 | [],il,E,os,φ,a,R,hf,hm,φ',os',h,hQ=>by
  simp at hm;subst hm
  cases h
  exact hQ E a R (Evo.refl _ _) hf
 |o::l,il,E,os,φ,a,R,hf,hm,φ',os',h,hQ=>by
  simp only[List.mapM_cons,Option.bind_eq_bind,ξb,Option.pure_def]at hm
  obtain⟨io,hio,il',hil,hm⟩:=hm
  cases hm
  simp only[runOps,ξb,ξm]at h
  obtain⟨⟨ok,φ1,os1⟩,h1,⟨ok2,φ2,os2⟩,h2,h3⟩:=h
  simp at h3
  obtain⟨⟨rfl,rfl⟩,rfl,rfl⟩:=h3
  rw[List.cons_append]
  refine wpList_step fun K hK=>step_ok hS R hf hio h1 (fun E1 a1 R1 e1 f1=> ?_)
  exact hK _ _ (ops_ok2 hS R1 f1 hil h2 (fun E' a' R' e' f'=>hQ E' a' R' (e1.trans e') f'))
theorem WR.cut {S:Tabs} (hS:SsOk P S) (ks:List Nat) (k:Nat) {l:List IOp} (h:Res (runOpsA S true φ os (l.take k)) (fun φ1 os1=> ∃φ2 os2,Wk c E0 os0 n (Go.Ab.keep ks φ1) os1 φ2 os2∧kN (fun φ2 os2=>WR P c E0 os0 n (l.drop k) Q φ2 os2) .normal φ2 os2)):WR P c E0 os0 n l Q φ os:=by
 intro ops lo h1 E a R hf
 rw[runOpsA_eq]at h
 obtain⟨ok,φ',os',h2,rfl,φ2,os2,hw,h3⟩:=h
 obtain⟨⟨ok2,q⟩,h4,h5⟩:=ξM h2
 simp at h5
 obtain⟨rfl,rfl⟩:=h5
 obtain⟨i1,i2⟩:=mapM_split _ k lo l h1
 rw[←List.take_append_drop k lo]
 refine ops_ok2 hS R.rel hf i1 h4 (fun E' a' R' e' f'=> ?_)
 obtain⟨E2,hE,R2,f2⟩:=hw E' a' ⟨R',R.evo.trans e'⟩ (f'.keep ks)
 rw[←hE]
 exact h3 ops _ i2 E2 a' R2 f2
theorem WI.cutA {S:Tabs} (hS:SsOk P S) (ks:List Nat) (k:Nat) {l:List IOp} (h:Res (runOpsA S true φ os (l.take k)) (fun φ1 os1=> ∃φ2 os2,Wk c E0 os0 n (Go.Ab.keep ks φ1) os1 φ2 os2∧kN (fun φ2 os2=>WR P c E0 os0 n (l.drop k) Q φ2 os2) .normal φ2 os2)):WI P c E0 os0 n (.reg l) Q φ os:=
 WR.reg (WR.cut hS ks k h)
def X.nn0:X→X
 | .nils=> .sl []
 |x=>x
theorem VX.nn0 {w:World} {st:Nat→Nat→Prop} {x:X} {v:Value} (h:VX w st x v):VX w st x.nn0 v:=by
 unfold X.nn0
 split
 ·exact h.nn
 ·exact h
def D.nn1:D→D
 | .x (.sl rs)=> .x (.sl (rs.map (List.map X.nn0)))
 |d=>d
theorem V.nn1 {E:Env} {os:List Ob} {d:D} {v:Value} (h:V E os d v):V E os d.nn1 v:=by
 unfold D.nn1
 split
 ·cases h with
  |x h=>
  cases h with
  |sl _ a n c sz val hn hc hm hsz hcell hnil hsp hval=>
   refine .x (.sl _ a n c sz val (by simpa using hn) hc hm (fun r hr=> ?_) hcell hnil hsp (fun i j r x hr hx=> ?_))
   ·obtain⟨r0,h0,rfl⟩:=List.mem_map.1 hr
    rw[List.length_map];exact hsz r0 h0
   ·rw[ξp]at hr
    obtain⟨r0,h0,rfl⟩:=ξM hr
    rw[ξp]at hx
    obtain⟨x0,hx0,rfl⟩:=ξM hx
    exact(hval i j r0 x0 h0 hx0).nn0
 ·exact h
def nn1φ (φ:List (Nat×D)):List (Nat×D):=φ.map fun p=>(p.1,p.2.nn1)
theorem get_nn1 (φ:List (Nat×D)) (t:Nat):get (nn1φ φ) t=(get φ t).nn1:=by
 induction φ with
 |nil=>rfl
 |cons p φ ih=>
  obtain⟨u,d⟩:=p
  simp only[nn1φ,List.map_cons,get]
  split
  ·rfl
  ·exact ih
theorem Wk.nn1:Wk c E0 os0 n φ os (nn1φ φ) os:=fun E a R hf=>⟨E,rfl,R,hf.size,hf.defers,fun t=>by rw[get_nn1];exact(hf.slot t).nn1⟩
theorem pNn1 {φ':List (Nat×D)} (h: ∃φ2 os2,Wk c E0 os0 n φ' os φ2 os2∧Q .normal φ2 os2) (hp:nn1φ φ=φ':=by simp only[nn1φ,D.nn1,X.nn0,List.map_cons,List.map_nil];rfl): ∃φ2 os2,Wk c E0 os0 n φ os φ2 os2∧Q .normal φ2 os2:=by
 obtain⟨φ2,os2,h1,h2⟩:=h
 subst hp
 exact⟨φ2,os2,Wk.nn1.trans h1,h2⟩
end Go.Ab
end
