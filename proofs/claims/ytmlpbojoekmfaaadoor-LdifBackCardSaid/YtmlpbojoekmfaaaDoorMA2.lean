import Derived.Test.YtmlpbojoekmfaaaDoorMA1
import Derived.Test.YtmlpbojoekmfaaaDoorLA5
import Derived.Test.YtmlpbojoekmfaaaDoorIc
set_option linter.unusedSimpArgs false
set_option linter.unusedVariables false
section
namespace Go.Proofs.YtmlpbojoekmfaaaDoor
open Go.RowKit Go.Bo Go.Ab
theorem xlast (R:List (List X)) (r:List D):(xRows R++ [r])[R.length]? =some r:=by
 rw[List.getElem?_append_right (by simp[xRows_len]),xRows_len];simp
theorem xset (R:List (List X)) (r r':List D):(xRows R++ [r]).set R.length r'=xRows R++ [r']:=by
 rw[List.set_append_right _ _ (by simp[xRows_len]),xRows_len];simp
theorem xlen (R:List (List X)) (r:List D):(xRows R++ [r]).length=R.length+1:=by simp[xRows_len]
theorem addA_c (R:List (List X)) (hR:R.length≤1000000000) (dn a v:Tx):MCalls Tryd.prog 38 [.eptr 0 (R.length+1) R.length 0,.x (.str a),.x (.str v)] [.drw 46 2 (xRows R++ [[.x (.str dn),.x .nils]])] (.tup [])
  [.drw 46 2 (xRows R++ [[.x (.str dn),.ref 1 1 0 1]]),.drw 48 2 [[.x (.str a),.ref 3 1 0 1]],.rows false 9 1 [[.str v]],.rows false 9 1 [[.str v]]]:=by
 have e1:=xlast R
 have e2:=xset R
 have e3:=xlen R
 have e4:((0:Nat):Int)=0:=rfl
 refine FCalls.mcalls (fcallsG (fz:=false) G_ok (p:=i38) rfl _ (ξ rfl) _ (fun C0 E0=> ?_))
 dsimp only[i38,qt,qi,qs,qb,qm,qa,qh,qj,qT,qF,qe,ql,qL,qf,q2,q3,q8,qz,qp,qP,qc,qk,qx,qy,qo,qr,qC,argsφ]
 have uu:=ξn @e1 (ξn @e2 (ξn @e3 (@e4)))
 have tT:=(noTabs_ok:SsOk Tryd.prog noTabs)
 refine nz ?_
 refine rg tT [0,1,2,6] ?_
 refine rg tT [0,1,2,6,26] ?_
 refine ct (fun h0=> ?_) (fun h0=> ?_)
 ·refine rg tT [0,2,6] ?_
  refine WI.post ?_
  refine WI.regB tT [0,2,6] ?_
  refine oS ?_
  refine oG ?_
  refine oS ?_
  refine oP ?_
  refine pPickN [0,2] ?_
  refine pToD 1 ?_ (hs:=by simp only[List.set_cons_zero,List.set_cons_succ,xRows_cons,xRows_nil,List.map_cons,List.map_nil];rfl)
  refine pEnd ?_
  refine nz ?_
  refine WI.dregX tT [0] [] ?_
  iterate 3 refine xFS ?_
  refine xRG ?_
  refine xFS ?_
  refine xFG ?_
  iterate 3 refine xFS ?_
  refine xQG ?_
  refine xFS ?_
  refine xFG ?_
  refine xQG ?_
  refine xFS ?_
  refine xQG ?_
  refine xFS ?_
  refine xKG ?_
  iterate 2 refine xAG ?_
  refine xFS ?_
  refine xAG ?_
  refine xsN ?_
  first|refine lfN ?_|refine lfN2 ?_
  first|rfl|exact⟨rfl,rfl⟩|trivial
 ·exact absurd h0 (by decide)
theorem addB_c (R Q:List (List X)) (hR:R.length≤1000000000) (hQ:Q.length≤1000000000) (dn a v:Tx) (vs:List Tx) (hv:vs.length≤1000000000):MCalls Tryd.prog 38 [.eptr 0 (R.length+1) R.length 0,.x (.str a),.x (.str v)]
  [.drw 46 2 (xRows R++ [[.x (.str dn),.ref 1 (Q.length+1) 0 (Q.length+1)]]),.drw 48 2 (xRows Q++ [[.x (.str a),.ref 2 vs.length 0 vs.length]]),.rows false 9 1 (rows rStr vs)] (.tup [])
  [.drw 46 2 (xRows R++ [[.x (.str dn),.ref 1 (Q.length+1) 0 (Q.length+1)]]),.drw 48 2 (xRows Q++ [[.x (.str a),.ref 2 (vs.length+1) 0 (vs.length+1)]]),.rows false 9 1 (rows rStr vs++ [[.str v]]),.rows false 9 1 [[.str v]]]:=by
 have e1:=xlast R
 have e2:=xset R
 have e3:=xlen R
 have f1:=xlast Q
 have f2:=xset Q
 have f3:=xlen Q
 have g1:(((Q.length+1:Nat):Int)-1).toNat=Q.length:=by omega
 have g2:((((Q.length+1:Nat):Int))==0)=false:=beq_false_of_ne (by omega)
 refine FCalls.mcalls (fcallsG (fz:=false) G_ok (p:=i38) rfl _ (ξ rfl) _ (fun C0 E0=> ?_))
 dsimp only[i38,qt,qi,qs,qb,qm,qa,qh,qj,qT,qF,qe,ql,qL,qf,q2,q3,q8,qz,qp,qP,qc,qk,qx,qy,qo,qr,qC,argsφ]
 have uu:=ξn @e1 (ξn @e2 (ξn @e3 (ξn @f1 (ξn @f2 (ξn @f3 (ξn @g1 (@g2)))))))
 have tT:=(noTabs_ok:SsOk Tryd.prog noTabs)
 refine nz ?_
 refine rg tT [0,1,2,6] ?_
 refine rg tT [0,1,2,6,26] ?_
 refine ce (fun h0=> ?_) (fun h0=> ?_)
 ·simp at h0
 ·refine WI.dregX tT [0] [] ?_
  iterate 3 refine xFS ?_
  refine xRG ?_
  refine xFS ?_
  refine xFG ?_
  iterate 3 refine xFS ?_
  refine xQG ?_
  refine xFS ?_
  refine xFG ?_
  refine xQG ?_
  refine xFS ?_
  refine xQG ?_
  refine xFS ?_
  refine xKG ?_
  iterate 2 refine xAG ?_
  refine xFS ?_
  refine xAG ?_
  refine xsN ?_
  first|refine lfN ?_|refine lfN2 ?_
  first|rfl|exact⟨rfl,rfl⟩|trivial
theorem addC_c (R Q:List (List X)) (hR:R.length≤1000000000) (hQ:Q.length≤1000000000) (dn ty a v:Tx) (vs:List Tx) (hv:vs.length≤1000000000) (hta:ty≠a):MCalls Tryd.prog 38 [.eptr 0 (R.length+1) R.length 0,.x (.str a),.x (.str v)]
  [.drw 46 2 (xRows R++ [[.x (.str dn),.ref 1 (Q.length+1) 0 (Q.length+1)]]),.drw 48 2 (xRows Q++ [[.x (.str ty),.ref 2 vs.length 0 vs.length]]),.rows false 9 1 (rows rStr vs)] (.tup [])
  [.drw 46 2 (xRows R++ [[.x (.str dn),.ref 1 (Q.length+2) 0 (Q.length+2)]]),.drw 48 2 (xRows (Q++ [[.str ty,.sl (rows rStr vs)]])++ [[.x (.str a),.ref 4 1 0 1]]),.frz 1 (rows rStr vs),.rows false 9 1 [[.str v]],.rows false 9 1 [[.str v]]]:=by
 have e1:=xlast R
 have e2:=xset R
 have e3:=xlen R
 have f1:=xlast Q
 have f2:=xset Q
 have f3:=xlen Q
 have kq:(Q++ [[X.str ty,X.sl (rows rStr vs)]]).length=Q.length+1:=by simp
 have k1: ∀r,(xRows (Q++ [[X.str ty,X.sl (rows rStr vs)]])++ [r])[Q.length+1]? =some r:=fun r=>by rw[←kq];exact xlast _ r
 have k2: ∀r r',(xRows (Q++ [[X.str ty,X.sl (rows rStr vs)]])++ [r]).set (Q.length+1) r'=xRows (Q++ [[X.str ty,X.sl (rows rStr vs)]])++ [r']:=fun r r'=>by rw[←kq];exact xset _ r r'
 have k3: ∀r,(xRows (Q++ [[X.str ty,X.sl (rows rStr vs)]])++ [r]).length=Q.length+1+1:=fun r=>by rw[xlen,kq]
 have g1:(((Q.length+1:Nat):Int)-1).toNat=Q.length:=by omega
 have g2:((((Q.length+1:Nat):Int))==0)=false:=beq_false_of_ne (by omega)
 have g3:((((Q.length+1:Nat):Int))+1-1).toNat=Q.length+1:=by omega
 refine FCalls.mcalls (fcallsG (fz:=false) G_ok (p:=i38) rfl _ (ξ rfl) _ (fun C0 E0=> ?_))
 dsimp only[i38,qt,qi,qs,qb,qm,qa,qh,qj,qT,qF,qe,ql,qL,qf,q2,q3,q8,qz,qp,qP,qc,qk,qx,qy,qo,qr,qC,argsφ]
 have uu:=ξn @e1 (ξn @e2 (ξn @e3 (ξn @f1 (ξn @f2 (ξn @f3 (ξn @g1 (ξn @g2 (ξn @g3 (ξn @k1 (ξn @k2 (@k3)))))))))))
 have tT:=(noTabs_ok:SsOk Tryd.prog noTabs)
 refine nz ?_
 refine rg tT [0,1,2,6] ?_
 refine rg tT [0,1,2,6,26] ?_
 refine ct (fun h0=> ?_) (fun h0=> ?_)
 ·refine rg tT [0,2,6] ?_
  refine WI.post ?_
  refine WI.regB tT [0,2,6] ?_
  refine oS ?_
  refine oG ?_
  refine oS ?_
  refine oP ?_
  refine pFrz [2] ?_
  refine pPickN [0,1,2] ?_
  rw[show xRows Q++ [[D.x (.str ty),D.x (.sl (rows rStr vs))]]++xRows [[.str a,.nils]]=xRows (Q++ [[.str ty,.sl (rows rStr vs)]])++ [[D.x (.str a),D.x .nils]]from by rw[xRows_app];rfl]
  refine pEnd ?_
  refine nz ?_
  refine WI.dregX tT [0] [] ?_
  iterate 3 refine xFS ?_
  refine xRG ?_
  refine xFS ?_
  refine xFG ?_
  iterate 3 refine xFS ?_
  refine xQG ?_
  refine xFS ?_
  refine xFG ?_
  refine xQG ?_
  refine xFS ?_
  refine xQG ?_
  refine xFS ?_
  refine xKG ?_
  iterate 2 refine xAG ?_
  refine xFS ?_
  refine xAG ?_
  refine xsN ?_
  first|refine lfN ?_|refine lfN2 ?_
  first|rfl|exact⟨rfl,rfl⟩|trivial
 ·simp at h0;exact hta h0
def plainO (l:List TEntry):List Ob:= [.drw 46 2 (xRows (rows rEntry l))]
def form2 (es:List TEntry) (dn:Tx):List Ob:= [.drw 46 2 (xRows (rows rEntry es)++ [[.x (.str dn),.x .nils]])]
def form3 (es:List TEntry) (dn:Tx) (bs:List TAttr) (ty:Tx) (vs:List Tx):List Ob:=
 [.drw 46 2 (xRows (rows rEntry es)++ [[.x (.str dn),.ref 1 (bs.length+1) 0 (bs.length+1)]]),.drw 48 2 (xRows (rows rAttr bs)++ [[.x (.str ty),.ref 2 vs.length 0 vs.length]]),.rows false 9 1 (rows rStr vs)]
theorem xsnocE (es:List TEntry) (dn:Tx) (l:List TAttr):xRows (rows rEntry es)++ [[.x (.str dn),.x (.sl (rows rAttr l))]]=xRows (rows rEntry (es++ [(dn,l,())])):=by
 rw[show rows rEntry (es++ [(dn,l,())])=rows rEntry es++rows rEntry [(dn,l,())] by simp[rows],xRows_app];rfl
theorem xsnocA (bs:List TAttr) (ty:Tx) (vs:List Tx):xRows (rows rAttr bs)++ [[.x (.str ty),.x (.sl (rows rStr vs))]]=xRows (rows rAttr (bs++ [(ty,vs,())])):=by
 rw[show rows rAttr (bs++ [(ty,vs,())])=rows rAttr bs++rows rAttr [(ty,vs,())] by simp[rows],xRows_app];rfl
section
variable {P:Program} {c:Ctx} {E0:Env} {n:Nat} {Q:Exit→List (Nat×D)→List Ob→Prop} {φ:List (Nat×D)}
theorem pClose2 {es:List TEntry} {dn:Tx} (h: ∃φ2 os2,Wk c E0 [] n φ (plainO (es++ [(dn,[],())])) φ2 os2∧Q .normal φ2 os2): ∃φ2 os2,Wk c E0 [] n φ (form2 es dn) φ2 os2∧Q .normal φ2 os2:=by
 unfold form2
 refine pNnLast 0 ?_
 rw[show([]:List (List X))=rows rAttr []from rfl,xsnocE]
 exact h
theorem pClose3 {es:List TEntry} {dn:Tx} {bs:List TAttr} {ty:Tx} {vs:List Tx} (h: ∃φ2 os2,Wk c E0 [] n φ (plainO (es++ [(dn,bs++ [(ty,vs,())],())])) φ2 os2∧Q .normal φ2 os2) (h1: ∀(os:List Ob) e sz rs,os[0]? =some (.drw e sz rs)→nrmφ [0,1] os φ=φ) (h2: ∀(os:List Ob) e sz rs,os[0]? =some (.drw e sz rs)→nrmφ [0] os φ=φ): ∃φ2 os2,Wk c E0 [] n φ (form3 es dn bs ty vs) φ2 os2∧Q .normal φ2 os2:=by
 unfold form3
 have hl:(bs++ [(ty,vs,())]).length=bs.length+1:=by simp
 rw[←hl]
 refine pFrz [2] ?_
 refine pPickN [0,1] ?_ (hp:=h1 _ _ _ _ rfl)
 rw[xsnocA]
 refine pToX 1 ?_
 refine pFrz [1] ?_
 refine pPickN [0] ?_ (hp:=h2 _ _ _ _ rfl)
 rw[xsnocE,ξT (by simp)]
 exact h
end
inductive St:List TEntry→Bool→List Ob→Prop
 |plain (l:List TEntry):St l true (plainO l)
 |two (es:List TEntry) (dn:Tx):St (es++ [(dn,[],())]) false (form2 es dn)
 |three (es:List TEntry) (dn:Tx) (bs:List TAttr) (ty:Tx) (vs:List Tx):St (es++ [(dn,bs++ [(ty,vs,())],())]) false (form3 es dn bs ty vs)
def addA (l:List TAttr) (a v:Tx):List TAttr:=match l.getLast? with
 |some (ty,vs,_)=>if ty=a then l.dropLast++ [(ty,vs++ [v],())]else l++ [(a,[v],())]
 |none=> [(a,[v],())]
def addE (l:List TEntry) (a v:Tx):List TEntry:=match l.getLast? with
 |some (dn,bs,_)=>l.dropLast++ [(dn,addA bs a v,())]
 |none=>l
theorem addE_two (es:List TEntry) (dn a v:Tx):addE (es++ [(dn,[],())]) a v=es++ [(dn,[(a,[v],())],())]:=by
 simp[addE,addA]
theorem addE_same (es:List TEntry) (dn:Tx) (bs:List TAttr) (ty:Tx) (vs:List Tx) (v:Tx):addE (es++ [(dn,bs++ [(ty,vs,())],())]) ty v=es++ [(dn,bs++ [(ty,vs++ [v],())],())]:=by
 simp[addE,addA]
theorem addE_other (es:List TEntry) (dn:Tx) (bs:List TAttr) (ty a:Tx) (vs:List Tx) (v:Tx) (h:ty≠a):addE (es++ [(dn,bs++ [(ty,vs,())],())]) a v=es++ [(dn,bs++ [(ty,vs,())]++ [(a,[v],())],())]:=by
 simp[addE,addA,h]
def runL:Nat→Bool→Tx→List TEntry→Option (List TEntry)
 |0,_,r,l=>if r= []then some l else none
 |n+1,f,r,l=>if r= []then some l else if(cutB 10 r).2.2=false then none
  else if(cutB 10 r).1= []∧f=false∧(cutB 10 r).2.1≠ []then runL n true (cutB 10 r).2.1 l
  else if(valR (cutB 10 r).1).2.2=false∨f≠decide ((valR (cutB 10 r).1).1=dnT)then none
  else if f=true then runL n false (cutB 10 r).2.1 (l++ [((valR (cutB 10 r).1).2.1,[],())])
  else runL n false (cutB 10 r).2.1 (addE l (valR (cutB 10 r).1).1 (valR (cutB 10 r).1).2.1)
def readL (s:Tx):List TEntry×Int:=match runL s.length true s []with
 |some l=>if chkL l=0 then(l,0)else([],5)
 |none=>([],5)
theorem runL_nil (n:Nat) (f:Bool) (l:List TEntry):runL n f [] l=some l:=by
 cases n<;>simp[runL]
theorem cutB_ltL (c:UInt8): ∀s,(cutB c s).2.2=true→(cutB c s).2.1.length<s.length
 | [],h=>by simp[cutB]at h
 |b::l,h=>by
  have ih:=cutB_ltL c l
  unfold cutB at h⊢
  split
  ·simp
  ·rename_i hb
   rw[if_neg hb]at h
   have:=ih h
   simp at this⊢;omega
def BdL (S:Nat) (l:List TEntry) (k:Nat):Prop:=l.length≤k∧ ∀e∈l,e.1.length≤S∧e.2.1.length≤k∧ ∀a∈e.2.1,a.1.length≤S∧a.2.1.length≤k∧ ∀v∈a.2.1,v.length≤S
theorem BdL.up {S k m:Nat} {l:List TEntry} (h:BdL S l k) (hm:k≤m):BdL S l m:=⟨by have:=h.1;omega,fun e he=>⟨(h.2 e he).1,by have:=(h.2 e he).2.1;omega,fun a ha=>⟨((h.2 e he).2.2 a ha).1,by have:=((h.2 e he).2.2 a ha).2.1;omega,((h.2 e he).2.2 a ha).2.2⟩⟩⟩
theorem BdL.new {S k:Nat} {l:List TEntry} (h:BdL S l k) (v:Tx) (hv:v.length≤S):BdL S (l++ [(v,[],())]) (k+1):=by
 refine⟨by have:=h.1;simp;omega,fun e he=> ?_⟩
 rcases List.mem_append.1 he with he|he
 ·exact(h.up (Nat.le_succ k)).2 e he
 ·rw[List.mem_singleton.1 he];exact⟨hv,by simp,fun a ha=>by cases ha⟩
theorem BdL.add {S k:Nat} {l:List TEntry} (h:BdL S l k) (a v:Tx) (ha:a.length≤S) (hv:v.length≤S):BdL S (addE l a v) (k+1):=by
 have hu:=h.up (Nat.le_succ k)
 unfold addE
 cases hl:l.getLast? with
 |none=>exact hu
 |some x=>
  obtain⟨dn,bs,_⟩:=x
  obtain⟨l',rfl⟩: ∃l',l=l'++ [(dn,bs,())]:=by
   rw[List.getLast?_eq_some_iff]at hl
   obtain⟨ys,h⟩:=hl;exact⟨ys,h⟩
  have hx:=h.2 (dn,bs,()) (by simp)
  simp only[List.dropLast_concat]
  refine⟨by have:=h.1;simp at this⊢;omega,fun e he=> ?_⟩
  rcases List.mem_append.1 he with he|he
  ·exact hu.2 e (List.mem_append_left _ he)
  ·rw[List.mem_singleton.1 he]
   refine⟨hx.1,?_⟩
   have new: ∀b:TAttr,b=(a,[v],())→b.1.length≤S∧b.2.1.length≤k+1∧ ∀w∈b.2.1,w.length≤S:=by
    rintro b rfl;exact⟨ha,by simp,fun w hw=>by rw[List.mem_singleton.1 hw];exact hv⟩
   have old: ∀b∈bs,b.1.length≤S∧b.2.1.length≤k+1∧ ∀w∈b.2.1,w.length≤S:=fun b hb=>⟨(hx.2.2 b hb).1,by have:=(hx.2.2 b hb).2.1;omega,(hx.2.2 b hb).2.2⟩
   show(addA bs a v).length≤k+1∧ ∀b∈addA bs a v,_
   unfold addA
   cases hb:bs.getLast? with
   |none=>exact⟨by simp,fun b hb=>new b (List.mem_singleton.1 hb)⟩
   |some y=>
    obtain⟨ty,vs,_⟩:=y
    obtain⟨b',rfl⟩: ∃b',bs=b'++ [(ty,vs,())]:=by
     rw[List.getLast?_eq_some_iff]at hb
     obtain⟨ys,h⟩:=hb;exact⟨ys,h⟩
    have hk:=hx.2.1
    simp at hk
    dsimp only
    split
    ·refine⟨by simp;omega,fun b hb=> ?_⟩
     rw[List.dropLast_concat]at hb
     rcases List.mem_append.1 hb with hb|hb
     ·exact old b (List.mem_append_left _ hb)
     ·rw[List.mem_singleton.1 hb]
      have hy:=hx.2.2 (ty,vs,()) (by simp)
      refine⟨hy.1,by have:=hy.2.1;simp at this⊢;omega,fun w hw=> ?_⟩
      rcases List.mem_append.1 hw with hw|hw
      ·exact hy.2.2 w hw
      ·rw[List.mem_singleton.1 hw];exact hv
    ·refine⟨by simp;omega,fun b hb=> ?_⟩
     rcases List.mem_append.1 hb with hb|hb
     ·exact old b hb
     ·exact new b (List.mem_singleton.1 hb)
theorem addA_e (es:List TEntry) (h:es.length≤1000000) (dn a v:Tx):MCalls Tryd.prog 38 [.eptr 0 (es.length+1) es.length 0,.x (.str a),.x (.str v)] [.drw 46 2 (xRows (rows rEntry es)++ [[.x (.str dn),.x .nils]])] (.tup [])
  [.drw 46 2 (xRows (rows rEntry es)++ [[.x (.str dn),.ref 1 1 0 1]]),.drw 48 2 [[.x (.str a),.ref 3 1 0 1]],.rows false 9 1 [[.str v]],.rows false 9 1 [[.str v]]]:=by
 have:=addA_c (rows rEntry es) (by rw[rows_len];omega) dn a v
 rwa [rows_len]at this
theorem addB_e (es:List TEntry) (bs:List TAttr) (h:es.length≤1000000) (hb:bs.length≤1000000) (dn a v:Tx) (vs:List Tx) (hv:vs.length≤1000000):MCalls Tryd.prog 38 [.eptr 0 (es.length+1) es.length 0,.x (.str a),.x (.str v)]
  [.drw 46 2 (xRows (rows rEntry es)++ [[.x (.str dn),.ref 1 (bs.length+1) 0 (bs.length+1)]]),.drw 48 2 (xRows (rows rAttr bs)++ [[.x (.str a),.ref 2 vs.length 0 vs.length]]),.rows false 9 1 (rows rStr vs)] (.tup [])
  [.drw 46 2 (xRows (rows rEntry es)++ [[.x (.str dn),.ref 1 (bs.length+1) 0 (bs.length+1)]]),.drw 48 2 (xRows (rows rAttr bs)++ [[.x (.str a),.ref 2 (vs.length+1) 0 (vs.length+1)]]),.rows false 9 1 (rows rStr vs++ [[.str v]]),.rows false 9 1 [[.str v]]]:=by
 have:=addB_c (rows rEntry es) (rows rAttr bs) (by rw[rows_len];omega) (by rw[rows_len];omega) dn a v vs (by omega)
 rwa [rows_len,rows_len]at this
theorem addC_e (es:List TEntry) (bs:List TAttr) (h:es.length≤1000000) (hb:bs.length≤1000000) (dn ty a v:Tx) (vs:List Tx) (hv:vs.length≤1000000) (hta:ty≠a):MCalls Tryd.prog 38 [.eptr 0 (es.length+1) es.length 0,.x (.str a),.x (.str v)]
  [.drw 46 2 (xRows (rows rEntry es)++ [[.x (.str dn),.ref 1 (bs.length+1) 0 (bs.length+1)]]),.drw 48 2 (xRows (rows rAttr bs)++ [[.x (.str ty),.ref 2 vs.length 0 vs.length]]),.rows false 9 1 (rows rStr vs)] (.tup [])
  [.drw 46 2 (xRows (rows rEntry es)++ [[.x (.str dn),.ref 1 (bs.length+2) 0 (bs.length+2)]]),.drw 48 2 (xRows (rows rAttr bs++ [[.str ty,.sl (rows rStr vs)]])++ [[.x (.str a),.ref 4 1 0 1]]),.frz 1 (rows rStr vs),.rows false 9 1 [[.str v]],.rows false 9 1 [[.str v]]]:=by
 have:=addC_c (rows rEntry es) (rows rAttr bs) (by rw[rows_len];omega) (by rw[rows_len];omega) dn ty a v vs (by omega) hta
 rwa [rows_len,rows_len]at this
theorem add_enters:Go.Ab.Enters Tryd.prog 38:=G_enters G_ok (p:=i38) rfl
theorem BdL.smC {S k:Nat} {l:List TEntry} (h:BdL S l k) (hk:k≤1000000) (hS:S≤1000000):smC l:=fun e he=>⟨by have:=(h.2 e he).2.1;omega,fun a ha=>by have:=((h.2 e he).2.2 a ha).1;omega⟩
theorem St.open {l:List TEntry} {os:List Ob} (h:St l false os):(∃es dn,l=es++ [(dn,[],())]∧os=form2 es dn)∨ ∃es dn bs ty vs,l=es++ [(dn,bs++ [(ty,vs,())],())]∧os=form3 es dn bs ty vs:=by
 cases h with
 |two es dn=>exact .inl ⟨es,dn,rfl,rfl⟩
 |three es dn bs ty vs=>exact .inr ⟨es,dn,bs,ty,vs,rfl,rfl⟩
theorem St.shut {l:List TEntry} {os:List Ob} (h:St l true os):os=plainO l:=by cases h;rfl
theorem St.one (es:List TEntry) (dn ty:Tx) (vs:List Tx):St (es++ [(dn,[(ty,vs,())],())]) false (form3 es dn [] ty vs):=St.three es dn [] ty vs
def tabLd11:Tabs:=addQ (addQ (addQ (noTabs) 36 cutG) 37 valueG) 28 checkG
theorem tabLd11_ok:SsOk Tryd.prog tabLd11:=addQ_ok (addQ_ok (addQ_ok (noTabs_ok) cut_enters cutG_ok) (G_enters G_ok (p:=i37) rfl) valueG_ok) (G_enters G_ok (p:=i28) rfl) checkG_ok
theorem tabLd11_q36 (a:List D):tabLd11.q 36 a=cutG a:=rfl
theorem tabLd11_q37 (a:List D):tabLd11.q 37 a=valueG a:=rfl
theorem tabLd11_q28 (a:List D):tabLd11.q 28 a=checkG a:=rfl
theorem tabLd11_r (f:FuncId) (a:List D) (o:List Ob):tabLd11.r f a o=none:=rfl
theorem tabLd11_k (f:FuncId) (a:List D) (o:List Ob):tabLd11.k f a o=none:=rfl
set_option maxHeartbeats 4000000 in
theorem lread_c (s:Tx) (hl:s.length≤1000000):PCalls Tryd.prog 17 [.x (.str s)] (.tup [.x (.sl (rows rEntry (readL s).1)),.x (.int .i64 (readL s).2)]):=by
 rcases hq:readL s with⟨ls,e⟩
 unfold readL at hq
 refine FCalls.pure (fcallsG (fz:=true) G_ok (p:=i17) rfl _ (ξ rfl) _ (fun C0 E0=> ?_)) rfl
 dsimp only[i17,qt,qi,qs,qb,qm,qa,qh,qj,qT,qF,qe,ql,qL,qf,q2,q3,q8,qz,qp,qP,qc,qk,qx,qy,qo,qr,qC,argsφ]
 have uu:=ξn @cutG.eq_1 (ξn @cutG.eq_2 (ξn @valueG.eq_1 (ξn @valueG.eq_2 (ξn @checkG.eq_1 (ξn @checkG.eq_2 (ξn @un_rEntry (ξn @xRows_len (ξn @List.take_length.{0} (ξn @ptT_t (ξn @ptT_q (ξn @ptT_r (ξn @ptT_k (ξn @tabLd11_r (ξn @tabLd11_k (ξn @tabLd11_q28 (ξn @tabLd11_q36 (@tabLd11_q37)))))))))))))))))
 refine WI.seq ?_
 refine WI.regB tabLd11_ok [0] ?_
 iterate 2 refine oS ?_
 refine oN ?_
 refine thenQ_normal ?_
 refine WI.scopeP 0 rfl (fun φ os=> ∃(N k:Nat) (f:Bool) (r:Tx) (l:List TEntry),φ= [(4,.ref 0 k 0 k),(5,.x (.bool f)),(6,.x (.str r))]∧St l f os∧k=l.length∧r.length≤N∧r.length≤s.length∧BdL s.length l (s.length-r.length)∧runL N f r l=runL s.length true s []) (fun φ _=>match get φ 6 with| .x (.str r)=>r.length|_=>0) (fun φ os hI=> ?_) (fun hp=> ?_)
 ·obtain⟨N,k,f,r,l,rfl,hst,rfl,hN,hr,hbd,hrun⟩:=hI
  have hc:=cutB_lenL 10 r
  have uu:=ξn uu (ξn (ξt (show r.length≤1000000 by omega)) (ξt (show(cutB 10 r).1.length≤1000000 by omega)))
  refine WI.seq ?_
  refine WI.seq ?_
  refine WI.regB tabLd11_ok [4,5,6,15] ?_
  refine oS ?_
  refine oG (hok:=by first|exact se|first|(simp[xRows_len,rows_len];done)|(simp[xRows_len,rows_len];omega)|(clear uu;grind)|exact sd) ?_
  refine oN ?_
  refine thenQ_normal ?_
  refine WI.cond (b:=_) rfl rfl (fun h0=> ?_) (fun h0=> ?_)
  ·try simp only[zB]at h0
   have hne:r≠ []:=by clear uu;grind
   obtain⟨M,rfl⟩: ∃M,N=M+1:=⟨N-1,by have:0<r.length:=List.length_pos_iff.2 hne;omega⟩
   rw[runL,if_neg hne]at hrun
   refine WI.seq ?_
   refine WI.regB tabLd11_ok [4,5,7,8,9] ?_
   refine oS ?_
   refine oC (hok:=by first|exact se|first|(simp[xRows_len,rows_len];done)|(simp[xRows_len,rows_len];omega)|(clear uu;grind)|exact sd) ?_
   refine oS ?_
   iterate 3 refine oG ?_
   iterate 3 refine oS ?_
   refine oN ?_
   refine thenQ_normal ?_
   refine WI.seq ?_
   refine WI.seq ?_
   refine WI.regB tabLd11_ok [4,5,7,8,23] ?_
   refine oS ?_
   refine oG (hok:=by first|exact se|first|(simp[xRows_len,rows_len];done)|(simp[xRows_len,rows_len];omega)|(clear uu;grind)|exact sd) ?_
   refine oN ?_
   refine thenQ_normal ?_
   refine WI.cond (b:=_) rfl rfl (fun h1=> ?_) (fun h1=> ?_)
   ·try simp only[zB]at h1
    refine WI.seq ?_
    refine WI.regB tabLd11_ok [2,3] ?_
    iterate 2 refine oS ?_
    refine oN ?_
    refine thenQ_normal ?_
    refine WI.nnA ?_ (ho:=rfl)
    refine WI.ret ?_
    refine thenQ_ret ?_
    refine thenQ_ret ?_
    refine jumpQ_ret ?_
    first|refine lfR ?_|refine lfR2 ?_
    rw[if_pos (by clear uu;grind)]at hrun;rw[←hrun]at hq;cases hq;rfl
   ·try simp only[zB]at h1
    have hct:(cutB 10 r).2.2=true:=by clear uu;grind
    rw[if_neg (by rw[hct];simp)]at hrun
    have hlt:=cutB_ltL 10 r hct
    have hvl:=valR_len (cutB 10 r).1
    refine WI.skip ?_
    refine thenQ_normal ?_
    refine WI.seq ?_
    refine WI.regB tabLd11_ok [4,5,6,7] ?_
    iterate 2 refine oS ?_
    refine oN ?_
    refine thenQ_normal ?_
    refine WI.seq ?_
    refine WI.seq ?_
    refine WI.regB tabLd11_ok [4,5,6,7,34] ?_
    refine oS ?_
    refine oG (hok:=by first|exact se|first|(simp[xRows_len,rows_len];done)|(simp[xRows_len,rows_len];omega)|(clear uu;grind)|exact sd) ?_
    refine oS ?_
    iterate 3 refine oG (hok:=by first|exact se|first|(simp[xRows_len,rows_len];done)|(simp[xRows_len,rows_len];omega)|(clear uu;grind)|exact sd) ?_
    refine oS ?_
    iterate 3 refine oG (hok:=by first|exact se|first|(simp[xRows_len,rows_len];done)|(simp[xRows_len,rows_len];omega)|(clear uu;grind)|exact sd) ?_
    refine oN ?_
    refine thenQ_normal ?_
    refine WI.cond (b:=_) rfl rfl (fun h2=> ?_) (fun h2=> ?_)
    ·try simp only[zB]at h2
     have h2':(cutB 10 r).1= []∧f=false∧(cutB 10 r).2.1≠ []:=by clear uu;grind
     rw[if_pos h2']at hrun
     obtain⟨-,rfl,-⟩:=h2'
     have hop:=hst.open
     have hbd':=hbd.up (show s.length-r.length≤s.length-(cutB 10 r).2.1.length by omega)
     refine WI.seq ?_
     rcases hop with⟨es,dn,rfl,rfl⟩|⟨es,dn,bs,ty,vs,rfl,rfl⟩
     ·refine WI.post ?_
      refine WI.regB tabLd11_ok [4,5,6] ?_
      refine oS ?_
      refine oP ?_
      refine pClose2 ?_
      refine pEnd ?_
      refine thenQ_normal ?_
      refine WI.goto ?_
      refine thenQ_goto ?_
      refine thenQ_goto ?_
      refine⟨rfl,?_⟩
      exact⟨⟨M,_,_,_,_,rfl,by first|exact St.plain _|exact St.two _ _|exact St.one _ _ _ _|exact St.three _ _ _ _ _,by simp,by omega,by omega,hbd',hrun⟩,by simp[Ab.get];omega⟩
     ·refine WI.post ?_
      refine WI.regB tabLd11_ok [4,5,6] ?_
      refine oS ?_
      refine oP ?_
      refine pClose3 ?_ (fun os e sz rs h=>by simp[nrmφ,onF,D.vw,D.on,D.inP,memB,D.ren,inv,h]) (fun os e sz rs h=>by simp[nrmφ,onF,D.vw,D.on,D.inP,memB,D.ren,inv,h])
      refine pEnd ?_
      refine thenQ_normal ?_
      refine WI.goto ?_
      refine thenQ_goto ?_
      refine thenQ_goto ?_
      refine⟨rfl,?_⟩
      exact⟨⟨M,_,_,_,_,rfl,by first|exact St.plain _|exact St.two _ _|exact St.one _ _ _ _|exact St.three _ _ _ _ _,by simp,by omega,by omega,hbd',hrun⟩,by simp[Ab.get];omega⟩
    ·try simp only[zB]at h2
     rw[if_neg (by clear uu;grind)]at hrun
     refine WI.skip ?_
     refine thenQ_normal ?_
     refine WI.seq ?_
     refine WI.regB tabLd11_ok [4,5,6,10,11,12] ?_
     refine oS ?_
     refine oC (hok:=by first|exact se|first|(simp[xRows_len,rows_len];done)|(simp[xRows_len,rows_len];omega)|(clear uu;grind)|exact sd) ?_
     refine oS ?_
     iterate 3 refine oG ?_
     iterate 3 refine oS ?_
     refine oN ?_
     refine thenQ_normal ?_
     refine WI.seq ?_
     refine WI.seq ?_
     refine WI.regB tabLd11_ok [4,5,6,10,11,48] ?_
     refine oS ?_
     refine oG (hok:=by first|exact se|first|(simp[xRows_len,rows_len];done)|(simp[xRows_len,rows_len];omega)|(clear uu;grind)|exact sd) ?_
     refine oS ?_
     iterate 5 refine oG (hok:=by first|exact se|first|(simp[xRows_len,rows_len];done)|(simp[xRows_len,rows_len];omega)|(clear uu;grind)|exact sd) ?_
     refine oN ?_
     refine thenQ_normal ?_
     refine WI.cond (b:=_) rfl rfl (fun h3=> ?_) (fun h3=> ?_)
     ·try simp only[zB]at h3
      refine WI.seq ?_
      refine WI.regB tabLd11_ok [2,3] ?_
      iterate 2 refine oS ?_
      refine oN ?_
      refine thenQ_normal ?_
      refine WI.nnA ?_ (ho:=rfl)
      refine WI.ret ?_
      refine thenQ_ret ?_
      refine thenQ_ret ?_
      refine jumpQ_ret ?_
      first|refine lfR ?_|refine lfR2 ?_
      rw[if_pos (by clear uu;grind)]at hrun;rw[←hrun]at hq;cases hq;rfl
     ·try simp only[zB]at h3
      rw[if_neg (by clear uu;grind)]at hrun
      refine WI.skip ?_
      refine thenQ_normal ?_
      refine WI.seq ?_
      refine WI.seq ?_
      refine WI.regB tabLd11_ok [4,5,6,10,11,49] ?_
      refine oS ?_
      refine oN ?_
      refine thenQ_normal ?_
      refine WI.cond (b:=_) rfl rfl (fun h4=> ?_) (fun h4=> ?_)
      ·try simp only[zB]at h4
       obtain rfl:f=true:=h4
       rw[if_pos rfl]at hrun
       obtain rfl:=hst.shut
       unfold plainO
       have hbd':=(hbd.new (valR (cutB 10 r).1).2.1 (by omega)).up (show s.length-r.length+1≤s.length-(cutB 10 r).2.1.length by omega)
       have hl1:=hbd.1
       refine WI.seq ?_
       refine WI.post ?_
       refine WI.regB tabLd11_ok [4,6] ?_
       iterate 2 refine oS ?_
       iterate 3 refine oG (hok:=by first|exact se|first|(simp[xRows_len,rows_len];done)|(simp[xRows_len,rows_len];omega)|(clear uu;grind)|exact sd) ?_
       refine oS ?_
       refine oP ?_
       refine pPickN [0] ?_
       refine pEnd ?_
       refine thenQ_normal ?_
       refine WI.seq ?_
       refine WI.post ?_
       refine WI.regB tabLd11_ok [4,5,6] ?_
       refine oS ?_
       refine oP ?_
       refine pOrd [4,5,6] ?_
       refine pEnd ?_
       refine thenQ_normal ?_
       refine WI.goto ?_
       refine thenQ_goto ?_
       refine thenQ_goto ?_
       refine⟨rfl,?_⟩
       exact⟨⟨M,_,_,_,_,rfl,by first|exact St.plain _|exact St.two _ _|exact St.one _ _ _ _|exact St.three _ _ _ _ _,by simp,by omega,by omega,hbd',hrun⟩,by simp[Ab.get];omega⟩
      ·try simp only[zB]at h4
       obtain rfl:f=false:=by simpa using h4
       rw[if_neg (by simp)]at hrun
       have hbd':=(hbd.add (valR (cutB 10 r).1).1 (valR (cutB 10 r).1).2.1 (by omega) (by omega)).up (show s.length-r.length+1≤s.length-(cutB 10 r).2.1.length by omega)
       have hop3:(∃es dn,l=es++ [(dn,[],())]∧os=form2 es dn)∨(∃es dn bs vs,l=es++ [(dn,bs++ [((valR (cutB 10 r).1).1,vs,())],())]∧os=form3 es dn bs (valR (cutB 10 r).1).1 vs)∨(∃es dn bs ty vs,ty≠(valR (cutB 10 r).1).1∧l=es++ [(dn,bs++ [(ty,vs,())],())]∧os=form3 es dn bs ty vs):=by
        rcases hst.open with⟨es,dn,h⟩|⟨es,dn,bs,ty,vs,h⟩
        ·exact .inl ⟨es,dn,h⟩
        ·by_cases ht:ty=(valR (cutB 10 r).1).1
         ·subst ht;exact .inr (.inl ⟨es,dn,bs,vs,h⟩)
         ·exact .inr (.inr ⟨es,dn,bs,ty,vs,ht,h⟩)
       refine WI.skip ?_
       refine thenQ_normal ?_
       refine WI.seq ?_
       rcases hop3 with⟨es,dn,rfl,rfl⟩|⟨es,dn,bs,vs,rfl,rfl⟩|⟨es,dn,bs,ty,vs,hta,rfl,rfl⟩
       ·have he:es.length≤1000000:=by have:=hbd.1;simp at this;omega
        rw[addE_two]at hrun hbd'
        rw[show(es++ [(dn,([]:List TAttr),())]).length=es.length+1 by simp]
        unfold form2
        have g1:(((es.length+1:Nat):Int)-1).toNat=es.length:=by omega
        have uu:=ξn uu g1
        refine WI.post ?_
        refine WI.regB (ptT_ok tabLd11_ok add_enters (addA_e es he dn (valR (cutB 10 r).1).1 (valR (cutB 10 r).1).2.1)) [4,5,6] ?_
        iterate 2 refine oS ?_
        iterate 3 refine oG (hok:=by first|exact se|first|(simp[xRows_len,rows_len];done)|(simp[xRows_len,rows_len];omega)|(clear uu;grind)|exact sd) ?_
        iterate 2 refine oS ?_
        refine oC (hok:=by first|exact se|first|(simp[xRows_len,rows_len];done)|(simp[xRows_len,rows_len];omega)|(clear uu;grind)|exact sd) ?_
        refine oP ?_
        refine pPickN [0,1,3] ?_
        refine pTo (form3 es dn [] (valR (cutB 10 r).1).1 [(valR (cutB 10 r).1).2.1]) (by simp[form3,rows,xRows];rfl) ?_
        refine pEnd ?_
        refine thenQ_normal ?_
        refine WI.goto ?_
        refine thenQ_goto ?_
        refine⟨rfl,?_⟩
        exact⟨⟨M,_,_,_,_,rfl,by first|exact St.plain _|exact St.two _ _|exact St.one _ _ _ _|exact St.three _ _ _ _ _,by simp,by omega,by omega,hbd',hrun⟩,by simp[Ab.get];omega⟩
       ·have he:es.length≤1000000:=by have:=hbd.1;simp at this;omega
        have hb0:=hbd.2 (dn,bs++ [((valR (cutB 10 r).1).1,vs,())],()) (by simp)
        have hb1:bs.length≤1000000:=by have:=hb0.2.1;simp at this;omega
        have hb2:vs.length≤1000000:=by have:=(hb0.2.2 ((valR (cutB 10 r).1).1,vs,()) (by simp)).2.1;simp at this;omega
        rw[addE_same]at hrun hbd'
        rw[show(es++ [(dn,bs++ [((valR (cutB 10 r).1).1,vs,())],())]).length=es.length+1 by simp]
        unfold form3
        have g1:(((es.length+1:Nat):Int)-1).toNat=es.length:=by omega
        have uu:=ξn uu g1
        refine WI.post ?_
        refine WI.regB (ptT_ok tabLd11_ok add_enters (addB_e es bs he hb1 dn (valR (cutB 10 r).1).1 (valR (cutB 10 r).1).2.1 vs hb2)) [4,5,6] ?_
        iterate 2 refine oS ?_
        iterate 3 refine oG (hok:=by first|exact se|first|(simp[xRows_len,rows_len];done)|(simp[xRows_len,rows_len];omega)|(clear uu;grind)|exact sd) ?_
        iterate 2 refine oS ?_
        refine oC (hok:=by first|exact se|first|(simp[xRows_len,rows_len];done)|(simp[xRows_len,rows_len];omega)|(clear uu;grind)|exact sd) ?_
        refine oP ?_
        refine pPickN [0,1,2] ?_
        refine pTo (form3 es dn bs (valR (cutB 10 r).1).1 (vs++ [(valR (cutB 10 r).1).2.1])) (by unfold form3;rw[ξA];simp[rows];first|rfl|exact⟨rfl,rfl⟩) ?_
        refine pEnd ?_
        refine thenQ_normal ?_
        refine WI.goto ?_
        refine thenQ_goto ?_
        refine⟨rfl,?_⟩
        exact⟨⟨M,_,_,_,_,rfl,by first|exact St.plain _|exact St.two _ _|exact St.one _ _ _ _|exact St.three _ _ _ _ _,by simp,by omega,by omega,hbd',hrun⟩,by simp[Ab.get];omega⟩
       ·have he:es.length≤1000000:=by have:=hbd.1;simp at this;omega
        have hb0:=hbd.2 (dn,bs++ [(ty,vs,())],()) (by simp)
        have hb1:bs.length≤1000000:=by have:=hb0.2.1;simp at this;omega
        have hb2:vs.length≤1000000:=by have:=(hb0.2.2 (ty,vs,()) (by simp)).2.1;simp at this;omega
        rw[addE_other _ _ _ _ _ _ _ hta]at hrun hbd'
        rw[show(es++ [(dn,bs++ [(ty,vs,())],())]).length=es.length+1 by simp]
        unfold form3
        have g1:(((es.length+1:Nat):Int)-1).toNat=es.length:=by omega
        have uu:=ξn uu g1
        refine WI.post ?_
        refine WI.regB (ptT_ok tabLd11_ok add_enters (addC_e es bs he hb1 dn ty (valR (cutB 10 r).1).1 (valR (cutB 10 r).1).2.1 vs hb2 hta)) [4,5,6] ?_
        iterate 2 refine oS ?_
        iterate 3 refine oG (hok:=by first|exact se|first|(simp[xRows_len,rows_len];done)|(simp[xRows_len,rows_len];omega)|(clear uu;grind)|exact sd) ?_
        iterate 2 refine oS ?_
        refine oC (hok:=by first|exact se|first|(simp[xRows_len,rows_len];done)|(simp[xRows_len,rows_len];omega)|(clear uu;grind)|exact sd) ?_
        refine oP ?_
        refine pPickN [0,1,4] ?_
        refine pTo (form3 es dn (bs++ [(ty,vs,())]) (valR (cutB 10 r).1).1 [(valR (cutB 10 r).1).2.1]) (by unfold form3;rw[ξA];simp[rows];first|rfl|exact⟨rfl,rfl⟩) ?_
        refine pEnd ?_
        refine thenQ_normal ?_
        refine WI.goto ?_
        refine thenQ_goto ?_
        refine⟨rfl,?_⟩
        exact⟨⟨M,_,_,_,_,rfl,by first|exact St.plain _|exact St.two _ _|exact St.one _ _ _ _|exact St.three _ _ _ _ _,by simp,by omega,by omega,hbd',hrun⟩,by simp[Ab.get];omega⟩
  ·try simp only[zB]at h0
   obtain rfl:r= []:=by clear uu;grind
   rw[runL_nil]at hrun
   rw[←hrun]at hq
   have hl1:=hbd.1
   have uu:=ξn uu (ξt (hbd.smC (by omega) hl))
   have hop3:os=plainO l∨(∃es dn,l=es++ [(dn,[],())]∧os=form2 es dn)∨(∃es dn bs ty vs,l=es++ [(dn,bs++ [(ty,vs,())],())]∧os=form3 es dn bs ty vs):=by
    cases f with
    |true=>exact .inl hst.shut
    |false=>exact .inr hst.open
   refine WI.skip ?_
   refine thenQ_normal ?_
   refine WI.seq ?_
   refine WI.seq ?_
   rcases hop3 with rfl|⟨es,dn,rfl,rfl⟩|⟨es,dn,bs,ty,vs,rfl,rfl⟩
   ·unfold plainO
    refine WI.toXA 0 ?_
    refine WI.regB tabLd11_ok [4,65] ?_
    refine oS ?_
    refine oC (hok:=by first|exact se|first|(simp[xRows_len,rows_len];done)|(simp[xRows_len,rows_len];omega)|(clear uu;grind)|exact sd) ?_
    refine oG (hok:=by first|exact se|first|(simp[xRows_len,rows_len];done)|(simp[xRows_len,rows_len];omega)|(clear uu;grind)|exact sd) ?_
    refine oN ?_
    refine thenQ_normal ?_
    refine WI.cond (b:=_) rfl rfl (fun h5=> ?_) (fun h5=> ?_)
    ·try simp only[zB]at h5
     refine WI.seq ?_
     refine WI.regB tabLd11_ok [2,3] ?_
     iterate 2 refine oS ?_
     refine oN ?_
     refine thenQ_normal ?_
     refine WI.nnA ?_
     refine WI.ret ?_
     refine thenQ_ret ?_
     refine jumpQ_ret ?_
     first|refine lfR ?_|refine lfR2 ?_
     dsimp only at hq;rw[if_neg (by clear uu;grind)]at hq;cases hq;rfl
    ·try simp only[zB]at h5
     refine WI.skip ?_
     refine thenQ_normal ?_
     refine WI.seq ?_
     refine WI.regB tabLd11_ok [2,3] ?_
     iterate 3 refine oS ?_
     refine oN ?_
     refine thenQ_normal ?_
     refine WI.nnA ?_
     refine WI.ret ?_
     refine jumpQ_ret ?_
     first|refine lfR ?_|refine lfR2 ?_
     dsimp only at hq;rw[if_pos (by clear uu;grind)]at hq;cases hq;rfl
   ·refine WI.ofP ?_
    refine pClose2 ?_
    unfold plainO
    refine pToX 0 ?_
    refine pEndN ?_
    try dsimp only
    refine WI.regB tabLd11_ok [4,65] ?_
    refine oS ?_
    refine oC (hok:=by first|exact se|first|(simp[xRows_len,rows_len];done)|(simp[xRows_len,rows_len];omega)|(clear uu;grind)|exact sd) ?_
    refine oG (hok:=by first|exact se|first|(simp[xRows_len,rows_len];done)|(simp[xRows_len,rows_len];omega)|(clear uu;grind)|exact sd) ?_
    refine oN ?_
    refine thenQ_normal ?_
    refine WI.cond (b:=_) rfl rfl (fun h5=> ?_) (fun h5=> ?_)
    ·try simp only[zB]at h5
     refine WI.seq ?_
     refine WI.regB tabLd11_ok [2,3] ?_
     iterate 2 refine oS ?_
     refine oN ?_
     refine thenQ_normal ?_
     refine WI.nnA ?_
     refine WI.ret ?_
     refine thenQ_ret ?_
     refine jumpQ_ret ?_
     first|refine lfR ?_|refine lfR2 ?_
     dsimp only at hq;rw[if_neg (by clear uu;grind)]at hq;cases hq;rfl
    ·try simp only[zB]at h5
     refine WI.skip ?_
     refine thenQ_normal ?_
     refine WI.seq ?_
     refine WI.regB tabLd11_ok [2,3] ?_
     iterate 3 refine oS ?_
     refine oN ?_
     refine thenQ_normal ?_
     refine WI.nnA ?_
     refine WI.ret ?_
     refine jumpQ_ret ?_
     first|refine lfR ?_|refine lfR2 ?_
     dsimp only at hq;rw[if_pos (by clear uu;grind)]at hq;cases hq;rw[ξT (by simp)]
   ·refine WI.ofP ?_
    refine pClose3 ?_ (fun os e sz rs h=>by simp[nrmφ,onF,D.vw,D.on,D.inP,memB,D.ren,inv,h]) (fun os e sz rs h=>by simp[nrmφ,onF,D.vw,D.on,D.inP,memB,D.ren,inv,h])
    unfold plainO
    refine pToX 0 ?_
    refine pEndN ?_
    try dsimp only
    refine WI.regB tabLd11_ok [4,65] ?_
    refine oS ?_
    refine oC (hok:=by first|exact se|first|(simp[xRows_len,rows_len];done)|(simp[xRows_len,rows_len];omega)|(clear uu;grind)|exact sd) ?_
    refine oG (hok:=by first|exact se|first|(simp[xRows_len,rows_len];done)|(simp[xRows_len,rows_len];omega)|(clear uu;grind)|exact sd) ?_
    refine oN ?_
    refine thenQ_normal ?_
    refine WI.cond (b:=_) rfl rfl (fun h5=> ?_) (fun h5=> ?_)
    ·try simp only[zB]at h5
     refine WI.seq ?_
     refine WI.regB tabLd11_ok [2,3] ?_
     iterate 2 refine oS ?_
     refine oN ?_
     refine thenQ_normal ?_
     refine WI.nnA ?_
     refine WI.ret ?_
     refine thenQ_ret ?_
     refine jumpQ_ret ?_
     first|refine lfR ?_|refine lfR2 ?_
     dsimp only at hq;rw[if_neg (by clear uu;grind)]at hq;cases hq;rfl
    ·try simp only[zB]at h5
     refine WI.skip ?_
     refine thenQ_normal ?_
     refine WI.seq ?_
     refine WI.regB tabLd11_ok [2,3] ?_
     iterate 3 refine oS ?_
     refine oN ?_
     refine thenQ_normal ?_
     refine WI.nnA ?_
     refine WI.ret ?_
     refine jumpQ_ret ?_
     first|refine lfR ?_|refine lfR2 ?_
     dsimp only at hq;rw[if_pos (by clear uu;grind)]at hq;cases hq;rw[ξT (by simp)]
 ·refine WI.seq ?_
  refine WI.regB tabLd11_ok [0,4] ?_
  refine oS ?_
  refine oN ?_
  refine thenQ_normal ?_
  refine WI.seq ?_
  refine WI.regB tabLd11_ok [0,4,5] ?_
  refine oS ?_
  refine oN ?_
  refine thenQ_normal ?_
  refine WI.seq ?_
  refine WI.ownA 4 46 2 ?_
  refine WI.toDA 0 ?_
  refine WI.regB tabLd11_ok [4,5,6] ?_
  iterate 2 refine oS ?_
  refine oN ?_
  refine thenQ_normal ?_
  refine WI.seq ?_
  refine WI.label ?_
  refine thenQ_normal ?_
  exact hp _ _ (⟨s.length,0,true,s,[],rfl,St.plain [],rfl,Nat.le_refl _,Nat.le_refl _,⟨by simp,fun e he=>by cases he⟩,rfl⟩)
def lreadG:List D→Option (Bool×D)
 | [.x (.str s)]=>some (decide (s.length≤1000000),.tup [.x (.sl (rows rEntry (readL s).1)),.x (.int .i64 (readL s).2)])
 |_=>none
theorem lreadG_ok: ∀args r,lreadG args=some (true,r)→PCalls Tryd.prog 17 args r:=by
 intro args r h
 unfold lreadG at h
 split at h
 ·rename_i s
  simp only[ξI,ξP,ξa,ξe,true_and]at h
  obtain⟨h1,rfl⟩:=h
  exact(lread_c s h1)
 ·cases h
theorem take_extT {α:Type} {a b:List α} {i:Nat} (h:a.take i=b.take i) (ha:i<a.length) (hb:i<b.length) (he:a[i]=b[i]):a.take (i+1)=b.take (i+1):=by
 rw[List.take_add_one,List.take_add_one,h];simp[ξg ha,ξg hb,he]
theorem texts_c (a b:List (List UInt8)):PCalls Tryd.prog 49 [.x (.sl (rows rStr a)),.x (.sl (rows rStr b))] (.x (.bool (decide (a=b)))):=by
 refine PCalls.wf (fun hw=> ?_)
 have ha:a.length≤maxLen:=by have:=(hw _ (List.mem_cons_self)).1;rwa [rows_len]at this
 have hb:b.length≤maxLen:=by have:=(hw _ (List.mem_cons_of_mem _ List.mem_cons_self)).1;rwa [rows_len]at this
 clear hw
 simp only[maxLen]at ha hb
 refine FCalls.pure (fcallsG (fz:=true) G_ok (p:=i49) rfl _ (ξ rfl) _ (fun c E0=> ?_)) rfl
 dsimp only[i49,qt,qi,qs,qb,qm,qa,qh,qj,qT,qF,qe,ql,qL,qf,q2,q3,q8,qz,qp,qP,qc,qk,qx,qy,qo,qr,qC,argsφ]
 have uu:=trivial
 have tT:=(noTabs_ok:SsOk Tryd.prog noTabs)
 refine nz ?_
 refine rg tT [0,1] ?_
 refine rg tT [0,1,10] ?_
 refine cd (fun h0=> ?_) (fun h0=> ?_)
 ·refine rg tT [4] ?_
  refine lf ?_
  rw[decide_eq_false (fun e=>h0 (by rw[e]))]
 ·refine rg tT [0,1,5] ?_
  refine WI.loop (fun φ os=> ∃i:Nat,φ= [(0,.x (.sl (rows rStr a))),(1,.x (.sl (rows rStr b))),(5,.x (.int .i64 i))]∧os= []∧i≤a.length∧a.take i=b.take i) (down a.length 5) ?_ (fun φ os hI=> ?_)
  ·exact⟨0,rfl,rfl,by omega,by simp⟩
  ·obtain⟨i,rfl,rfl,hi,he⟩:=hI
   refine nz ?_
   refine rg tT [0,1,5,14] ?_
   refine cd (fun h1=> ?_) (fun h1=> ?_)
   ·refine WI.dregB tT [0,1,5,25] ?_
    iterate 2 refine dFS ?_
    iterate 2 refine dQG ?_
    iterate 2 refine dFS ?_
    iterate 2 refine dQG ?_
    refine dFG ?_
    refine dN ?_
    refine nz ?_
    refine cd (fun h2=> ?_) (fun h2=> ?_)
    ·refine rg tT [4] ?_
     refine lf ?_
     rw[decide_eq_false (fun e=>h2 (by subst e;rfl))]
    ·refine rg tT [0,1,5] ?_
     exact⟨⟨i+1,by simp,rfl,by omega,take_extT he (by omega) (by omega) h2⟩,by simp[down,Ab.get,D.val,intOf?];omega⟩
   ·refine rg tT [4] ?_
    refine lf ?_
    rw[ξt];rw[ξT (by omega),ξT (by omega)]at he;exact he
def textsG:List D→Option (Bool×D)
 | [.x (.sl A),.x (.sl B)]=>(unrows rStr A).bind fun a=>(unrows rStr B).map fun b=>(true,.x (.bool (decide (a=b))))
 |_=>none
theorem textsG_ok: ∀args r,textsG args=some (true,r)→PCalls Tryd.prog 49 args r:=by
 intro args r h
 unfold textsG at h
 split at h
 ·simp only[ξb,ξm]at h
  obtain⟨a,h1,b,h2,h3⟩:=h
  cases h3
  rw[←rows_unrows good_rStr h1,←rows_unrows good_rStr h2]
  exact texts_c a b
 ·cases h
def addTexts (S:Tabs):Tabs:=addQ S 49 (viaNN textsG)
theorem addTexts_ok {S:Tabs} (hS:SsOk Tryd.prog S):SsOk Tryd.prog (addTexts S):=addQ_ok hS (G_enters G_ok (p:=i49) rfl) (viaNN_ok textsG_ok)
def sm300 (v:Tx):Bool:=decide (v.length≤300)
def fewA (a:TAttr):Bool:=decide (a.1.length≤80∧a.2.1.length≤8)&&a.2.1.all sm300
def fewE (e:TEntry):Bool:=decide (e.1.length≤300∧e.2.1.length≤12)&&e.2.1.all fewA
def fewL (l:List TEntry):Bool:=decide (l.length≤10∨(1024<l.length∧l.length≤1100))&&l.all fewE
theorem fewE_c (d:Tx) (bs:List TAttr):PCalls Tryd.prog 25 [.agg [.x (.str d),.x (.sl (rows rAttr bs))]] (.x (.bool (fewE (d,bs,())))):=by
 have hfe:fewE (d,bs,())=(decide (d.length≤300∧bs.length≤12)&&bs.all fewA):=rfl
 rw[hfe]
 clear hfe
 refine FCalls.pure (fcallsG (fz:=true) G_ok (p:=i25) rfl _ (ξ rfl) _ (fun C0 E0=> ?_)) rfl
 dsimp only[i25,qt,qi,qs,qb,qm,qa,qh,qj,qT,qF,qe,ql,qL,qf,q2,q3,q8,qz,qp,qP,qc,qk,qx,qy,qo,qr,qC,argsφ]
 have uu:=trivial
 have tT:=(noTabs_ok:SsOk Tryd.prog noTabs)
 refine nz ?_
 refine WI.regB tT [1] ?_
 refine oG ?_
 refine oS ?_
 refine oN ?_
 refine nz ?_
 refine WI.regB tT [1,14] ?_
 refine oS ?_
 iterate 3 refine oG (hok:=by first|exact se|(clear uu;grind)|exact sd) ?_
 refine oS ?_
 iterate 5 refine oG (hok:=by first|exact se|(clear uu;grind)|exact sd) ?_
 refine oN ?_
 refine nz ?_
 refine cd (fun h0=> ?_) (fun h0=> ?_)
 ·refine WI.regB tT [2] ?_
  refine oS ?_
  refine oN ?_
  refine nz ?_
  refine lf ?_
  rw[decide_eq_false (by clear uu;grind)];rfl
 ·have hal:d.length≤300∧bs.length≤12:=by clear uu;grind
  refine WI.regB tT [1,3] ?_
  refine oS ?_
  refine oN ?_
  refine nz ?_
  refine WI.loop (fun φ os=> ∃(i:Nat),φ= [(1,.ptr 0 0),(3,.x (.int .i64 i))]∧os= [.box [.x (.str d),.x (.sl (rows rAttr bs))]]∧i≤bs.length∧(bs.take i).all fewA=true) (down bs.length 3) ?_ (fun φ os hI=> ?_)
  ·exact⟨0,rfl,rfl,by omega,rfl⟩
  ·obtain⟨i,rfl,rfl,hi,hall⟩:=hI
   refine nz ?_
   refine WI.regB tT [1,3,19] ?_
   iterate 2 refine oS ?_
   iterate 3 refine oG (hok:=by first|exact se|(clear uu;grind)|exact sd) ?_
   refine oN ?_
   refine nz ?_
   refine cd (fun h1=> ?_) (fun h1=> ?_)
   ·have hi4:i<bs.length:=by omega
    refine WI.regB tT [1,3,39] ?_
    refine oS ?_
    refine oG (hok:=by first|exact se|(clear uu;grind)|exact sd) ?_
    refine oS ?_
    refine oG (hok:=by first|exact se|(clear uu;grind)|exact sd) ?_
    refine oS ?_
    iterate 3 refine oG (hok:=by first|exact se|(clear uu;grind)|exact sd) ?_
    refine oS ?_
    iterate 9 refine oG (hok:=by first|exact se|(clear uu;grind)|exact sd) ?_
    refine oN ?_
    refine nz ?_
    refine cd (fun h2=> ?_) (fun h2=> ?_)
    ·refine WI.regB tT [2] ?_
     refine oS ?_
     refine oN ?_
     refine nz ?_
     refine lf ?_
     rw[lall_false _ bs i hi4 (by unfold fewA;rw[decide_eq_false (by clear uu;grind)];rfl),Bool.and_false]
    ·have hvl:bs[i].1.length≤80∧bs[i].2.1.length≤8:=by clear uu;grind
     refine WI.regB tT [1,3,4] ?_
     refine oS ?_
     refine oN ?_
     refine nz ?_
     refine WI.loop (fun φ os=> ∃(k:Nat),φ= [(1,.ptr 0 0),(3,.x (.int .i64 i)),(4,.x (.int .i64 k))]∧os= [.box [.x (.str d),.x (.sl (rows rAttr bs))]]∧k≤bs[i].2.1.length∧(bs[i].2.1.take k).all sm300=true) (down bs[i].2.1.length 4) ?_ (fun φ os hI=> ?_)
     ·exact⟨0,rfl,rfl,by omega,rfl⟩
     ·obtain⟨k,rfl,rfl,hk,hnk⟩:=hI
      refine nz ?_
      refine WI.regB tT [1,3,4,48] ?_
      iterate 2 refine oS ?_
      refine oG (hok:=by first|exact se|(clear uu;grind)|exact sd) ?_
      refine oS ?_
      refine oG (hok:=by first|exact se|(clear uu;grind)|exact sd) ?_
      refine oS ?_
      iterate 3 refine oG (hok:=by first|exact se|(clear uu;grind)|exact sd) ?_
      refine oN ?_
      refine nz ?_
      refine cd (fun h3=> ?_) (fun h3=> ?_)
      ·have hk4:k<bs[i].2.1.length:=by omega
       refine WI.regB tT [1,3,4,61] ?_
       refine oS ?_
       refine oG (hok:=by first|exact se|(clear uu;grind)|exact sd) ?_
       refine oS ?_
       refine oG (hok:=by first|exact se|(clear uu;grind)|exact sd) ?_
       refine oS ?_
       refine oG (hok:=by first|exact se|(clear uu;grind)|exact sd) ?_
       refine oS ?_
       iterate 4 refine oG (hok:=by first|exact se|(clear uu;grind)|exact sd) ?_
       refine oN ?_
       refine nz ?_
       refine cd (fun h4=> ?_) (fun h4=> ?_)
       ·refine WI.regB tT [2] ?_
        refine oS ?_
        refine oN ?_
        refine nz ?_
        refine lf ?_
        rw[lall_false _ bs i hi4 (by unfold fewA;rw[lall_false _ bs[i].2.1 k hk4 (decide_eq_false (by clear uu;grind)),Bool.and_false]),Bool.and_false]
       ·refine WI.regB tT [1,3,4] ?_
        refine oS ?_
        refine oG (hok:=by first|exact se|(clear uu;grind)|exact sd) ?_
        refine oS ?_
        refine oN ?_
        refine nz ?_
        exact⟨⟨k+1,rfl,rfl,by omega,by rw[lall_snoc _ bs[i].2.1 k hk4,hnk,show sm300 bs[i].2.1[k]=true from ξt (by omega)];rfl⟩,by simp[down,Ab.get,D.val,intOf?];omega⟩
      ·have hfa:fewA bs[i]=true:=by unfold fewA;rw[ξT (by omega)]at hnk;rw[hnk,ξt hvl];rfl
       refine WI.regB tT [1,3] ?_
       refine oS ?_
       refine oG (hok:=by first|exact se|(clear uu;grind)|exact sd) ?_
       refine oS ?_
       refine oN ?_
       refine nz ?_
       exact⟨⟨i+1,rfl,rfl,by omega,by rw[lall_snoc _ bs i hi4,hall,hfa];rfl⟩,by simp[down,Ab.get,D.val,intOf?];omega⟩
   ·refine WI.regB tT [2] ?_
    refine oS ?_
    refine oN ?_
    refine nz ?_
    refine lf ?_
    rw[ξT (by omega)]at hall;rw[hall,ξt hal];rfl
def fewEG:List D→Option (Bool×D)
 | [.agg [.x (.str d),.x (.sl A)]]=>(unrows rAttr A).bind fun a=>some (true,.x (.bool (fewE (d,a,()))))
 |_=>none
theorem fewEG_ok: ∀args r,fewEG args=some (true,r)→PCalls Tryd.prog 25 args r:=by
 intro args r h
 unfold fewEG at h
 split at h
 ·rename_i d A
  obtain⟨a,hr0,h⟩:=ξB h
  simp only[ξI,ξP,ξa,ξe,true_and]at h
  obtain rfl:=h
  rw[←rows_unrows good_rAttr hr0]
  exact(fewE_c d a)
 ·cases h
def tabLe1:Tabs:=addQ (noTabs) 25 fewEG
theorem tabLe1_ok:SsOk Tryd.prog tabLe1:=addQ_ok (noTabs_ok) (G_enters G_ok (p:=i25) rfl) fewEG_ok
theorem tabLe1_q25 (a:List D):tabLe1.q 25 a=fewEG a:=rfl
theorem tabLe1_r (f:FuncId) (a:List D) (o:List Ob):tabLe1.r f a o=none:=rfl
theorem tabLe1_k (f:FuncId) (a:List D) (o:List Ob):tabLe1.k f a o=none:=rfl
theorem fewL_c (l:List TEntry):PCalls Tryd.prog 11 [.x (.sl (rows rEntry l))] (.x (.bool (fewL l))):=by
 unfold fewL
 refine FCalls.pure (fcallsG (fz:=true) G_ok (p:=i11) rfl _ (ξ rfl) _ (fun C0 E0=> ?_)) rfl
 dsimp only[i11,qt,qi,qs,qb,qm,qa,qh,qj,qT,qF,qe,ql,qL,qf,q2,q3,q8,qz,qp,qP,qc,qk,qx,qy,qo,qr,qC,argsφ]
 have uu:=ξn @fewEG.eq_1 (ξn @fewEG.eq_2 (ξn @tabLe1_r (ξn @tabLe1_k (@tabLe1_q25))))
 have tT:=tabLe1_ok
 refine nz ?_
 refine WI.regB tT [0] ?_
 refine oS ?_
 refine oN ?_
 refine nz ?_
 refine WI.regB tT [0,16] ?_
 refine oS ?_
 iterate 2 refine oG (hok:=by first|exact se|(clear uu;grind)|exact sd) ?_
 refine oS ?_
 iterate 4 refine oG (hok:=by first|exact se|(clear uu;grind)|exact sd) ?_
 refine oS ?_
 iterate 4 refine oG (hok:=by first|exact se|(clear uu;grind)|exact sd) ?_
 refine oN ?_
 refine nz ?_
 refine cd (fun h0=> ?_) (fun h0=> ?_)
 ·refine WI.regB tT [2] ?_
  refine oS ?_
  refine oN ?_
  refine nz ?_
  refine lf ?_
  rw[decide_eq_false (by clear uu;grind)];rfl
 ·have hll:l.length≤10∨(1024<l.length∧l.length≤1100):=by clear uu;grind
  refine WI.regB tT [0,3] ?_
  refine oS ?_
  refine oN ?_
  refine nz ?_
  refine WI.loop (fun φ os=> ∃(i:Nat),φ= [(0,.x (.sl (rows rEntry l))),(3,.x (.int .i64 i))]∧os= []∧i≤l.length∧(l.take i).all fewE=true) (down l.length 3) ?_ (fun φ os hI=> ?_)
  ·exact⟨0,rfl,rfl,by omega,rfl⟩
  ·obtain⟨i,rfl,rfl,hi,hall⟩:=hI
   refine nz ?_
   refine WI.regB tT [0,3,20] ?_
   iterate 2 refine oS ?_
   iterate 2 refine oG (hok:=by first|exact se|(clear uu;grind)|exact sd) ?_
   refine oN ?_
   refine nz ?_
   refine cd (fun h1=> ?_) (fun h1=> ?_)
   ·have hi4:i<l.length:=by omega
    refine WI.regB tT [0,3,28] ?_
    iterate 2 refine oS ?_
    iterate 2 refine oG (hok:=by first|exact se|(clear uu;grind)|exact sd) ?_
    refine oC (hok:=by first|exact se|(clear uu;grind)|exact sd) ?_
    refine oG (hok:=by first|exact se|(clear uu;grind)|exact sd) ?_
    refine oN ?_
    refine nz ?_
    refine cd (fun h2=> ?_) (fun h2=> ?_)
    ·refine WI.regB tT [2] ?_
     refine oS ?_
     refine oN ?_
     refine nz ?_
     refine lf ?_
     rw[lall_false _ l i hi4 (by clear uu;grind),Bool.and_false]
    ·refine WI.regB tT [0,3] ?_
     refine oS ?_
     refine oG (hok:=by first|exact se|(clear uu;grind)|exact sd) ?_
     refine oS ?_
     refine oN ?_
     refine nz ?_
     exact⟨⟨i+1,rfl,rfl,by omega,by rw[lall_snoc _ l i hi4,hall,show fewE l[i]=true from by clear uu;grind];rfl⟩,by simp[down,Ab.get,D.val,intOf?];omega⟩
   ·refine WI.regB tT [2] ?_
    refine oS ?_
    refine oN ?_
    refine nz ?_
    refine lf ?_
    rw[ξT (by omega)]at hall;rw[hall,ξt hll];rfl
def fewLG:List D→Option (Bool×D)
 | [.x (.sl L)]=>(unrows rEntry L).bind fun l=>some (true,.x (.bool (fewL l)))
 |_=>none
theorem fewLG_ok: ∀args r,fewLG args=some (true,r)→PCalls Tryd.prog 11 args r:=by
 intro args r h
 unfold fewLG at h
 split at h
 ·rename_i L
  obtain⟨l,hr0,h⟩:=ξB h
  simp only[ξI,ξP,ξa,ξe,true_and]at h
  obtain rfl:=h
  rw[←rows_unrows good_rEntry hr0]
  exact(fewL_c l)
 ·cases h
theorem equal_w (d e:List UInt8) (a b:List TAttr) (ha:a.length≤9223372036854775807) (hb:b.length≤9223372036854775807):PCalls Tryd.prog 27 [.agg [.x (.str d),.x (.sl (rows rAttr a))],.agg [.x (.str e),.x (.sl (rows rAttr b))]] (.x (.bool (decide (d=e∧a=b)))):=by
 have hS:=addTexts_ok (noTabs_ok (P:=Tryd.prog))
 refine FCalls.pure (fcallsG (fz:=true) G_ok (p:=i27) rfl _ (ξ rfl) _ (fun c E0=> ?_)) rfl
 dsimp only[i27,qt,qi,qs,qb,qm,qa,qh,qj,qT,qF,qe,ql,qL,qf,q2,q3,q8,qz,qp,qP,qc,qk,qx,qy,qo,qr,qC,argsφ]
 refine WI.seq ?_
 refine WI.regA hS [2,3] (fun K hK=> ?_)
 refine osS (by simp (disch:=omega) only[zL,zC,stepOp,aval,opv,Ab.get,Ab.put,putO,Nat.reduceEqDiff,↓reduceIte,D.val,D.cond,reduceCtorEq,aact,actT,IE.isCall,D.cells?,Nat.reduceAdd,Nat.reduceLeDiff,addTexts,textsG];rfl) rfl ?_
 refine osS (by simp (disch:=omega) only[zL,zC,stepOp,aval,opv,Ab.get,Ab.put,putO,Nat.reduceEqDiff,↓reduceIte,D.val,D.cond,reduceCtorEq,aact,actT,IE.isCall,D.cells?,Nat.reduceAdd,Nat.reduceLeDiff,addTexts,textsG];rfl) rfl ?_
 refine osS (by simp only[zC,stepOp,aval,opv,Ab.get,Ab.put,putO,Nat.reduceEqDiff,↓reduceIte,D.val,D.cond,reduceCtorEq];rfl) rfl ?_
 refine osN ?_
 simp only[keep,memN,Nat.reduceEqDiff,if_true,if_false,↓reduceIte,Option.getD_none,Option.getD_some,List.append_nil,List.cons_append,List.nil_append,Bool.false_eq_true]
 refine hK _ _ ?_
 clear hK K
 refine thenQ_normal ?_
 refine WI.seq ?_
 refine WI.seq ?_
 refine WI.regA hS [2,3,19] (fun K hK=> ?_)
 refine osS (by simp only[zC,stepOp,aval,opv,Ab.get,Ab.put,putO,Nat.reduceEqDiff,↓reduceIte,D.val,D.cond,reduceCtorEq,Nat.reduceAdd,Nat.add_zero,Nat.zero_add];rfl) rfl ?_
 refine osS (by simp (disch:=omega) only[zL,zR,zC,stepOp,aval,opv,Ab.get,Ab.put,putO,Nat.reduceEqDiff,↓reduceIte,D.val,D.cond,reduceCtorEq,Nat.reduceAdd,Nat.reduceLeDiff,Ob.slice?,Ob.dsl?,Ob.drw?,Option.bind_none,addTexts,textsG];rfl) (by first|with_reducible rfl|omega|(simp;done)|(simp;omega)|rfl) ?_
 refine osS (by simp only[zC,stepOp,aval,opv,Ab.get,Ab.put,putO,Nat.reduceEqDiff,↓reduceIte,D.val,D.cond,reduceCtorEq,Nat.reduceAdd,Nat.add_zero,Nat.zero_add];rfl) rfl ?_
 refine osS (by simp (disch:=omega) only[zL,zR,zC,stepOp,aval,opv,Ab.get,Ab.put,putO,Nat.reduceEqDiff,↓reduceIte,D.val,D.cond,reduceCtorEq,Nat.reduceAdd,Nat.reduceLeDiff,Ob.slice?,Ob.dsl?,Ob.drw?,Option.bind_none,addTexts,textsG];rfl) (by first|with_reducible rfl|omega|(simp;done)|(simp;omega)|rfl) ?_
 refine osS (by simp (disch:=omega) only[zG,zN,zC,stepOp,aval,opv,Ab.get,Ab.put,putO,Nat.reduceEqDiff,↓reduceIte,D.val,D.cond,reduceCtorEq,binD,bitsD,Nat.reduceAdd,Nat.reduceSub,Nat.reduceMul,Nat.reduceLeDiff,Int.reduceToNat,Int.reduceLE,Int.reduceLT,Int.reduceAdd,Int.reduceSub,Int.reduceMul,Int.reduceNeg,Int.reduceEq,bne_self_eq_false,addTexts,textsG];rfl) (by first|with_reducible rfl|omega|(simp;done)|(simp;omega)|rfl) ?_
 refine osS (by simp only[zC,stepOp,aval,opv,Ab.get,Ab.put,putO,Nat.reduceEqDiff,↓reduceIte,D.val,D.cond,reduceCtorEq];rfl) rfl ?_
 refine osS (by simp (disch:=omega) only[zG,zC,stepOp,aval,opv,Ab.get,Ab.put,putO,Nat.reduceEqDiff,↓reduceIte,D.val,D.cond,reduceCtorEq,Nat.reduceAdd,Nat.add_zero,Nat.zero_add,addTexts,textsG];rfl) rfl ?_
 refine osS (by simp (disch:=omega) only[zL,zG,zR,zC,stepOp,aval,opv,Ab.get,Ab.put,putO,Nat.reduceEqDiff,↓reduceIte,D.val,D.cond,reduceCtorEq,Nat.reduceAdd,Nat.reduceLeDiff,Ob.slice?,Ob.dsl?,Ob.drw?,Option.bind_none,addTexts,textsG];rfl) (by first|with_reducible rfl|omega|(simp;done)|(simp;omega)|rfl) ?_
 refine osS (by simp (disch:=omega) only[zL,zG,zR,zC,stepOp,aval,opv,Ab.get,Ab.put,putO,Nat.reduceEqDiff,↓reduceIte,D.val,D.cond,reduceCtorEq,lenD,okRef,Nat.reduceAdd,Nat.reduceLeDiff,Ob.slice?,Ob.dsl?,Ob.drw?,Option.bind_none,addTexts,textsG];rfl) (by first|with_reducible rfl|omega|(simp;done)|(simp;omega)|rfl) ?_
 refine osS (by simp (disch:=omega) only[zG,zC,stepOp,aval,opv,Ab.get,Ab.put,putO,Nat.reduceEqDiff,↓reduceIte,D.val,D.cond,reduceCtorEq,Nat.reduceAdd,Nat.add_zero,Nat.zero_add,addTexts,textsG];rfl) rfl ?_
 refine osS (by simp (disch:=omega) only[zL,zG,zR,zC,stepOp,aval,opv,Ab.get,Ab.put,putO,Nat.reduceEqDiff,↓reduceIte,D.val,D.cond,reduceCtorEq,Nat.reduceAdd,Nat.reduceLeDiff,Ob.slice?,Ob.dsl?,Ob.drw?,Option.bind_none,addTexts,textsG];rfl) (by first|with_reducible rfl|omega|(simp;done)|(simp;omega)|rfl) ?_
 refine osS (by simp (disch:=omega) only[zL,zG,zR,zC,stepOp,aval,opv,Ab.get,Ab.put,putO,Nat.reduceEqDiff,↓reduceIte,D.val,D.cond,reduceCtorEq,lenD,okRef,Nat.reduceAdd,Nat.reduceLeDiff,Ob.slice?,Ob.dsl?,Ob.drw?,Option.bind_none,addTexts,textsG];rfl) (by first|with_reducible rfl|omega|(simp;done)|(simp;omega)|rfl) ?_
 refine osS (by simp (disch:=omega) only[zG,zN,zC,stepOp,aval,opv,Ab.get,Ab.put,putO,Nat.reduceEqDiff,↓reduceIte,D.val,D.cond,reduceCtorEq,binD,bitsD,Nat.reduceAdd,Nat.reduceSub,Nat.reduceMul,Nat.reduceLeDiff,Int.reduceToNat,Int.reduceLE,Int.reduceLT,Int.reduceAdd,Int.reduceSub,Int.reduceMul,Int.reduceNeg,Int.reduceEq,bne_self_eq_false,addTexts,textsG];rfl) (by first|with_reducible rfl|omega|(simp;done)|(simp;omega)|rfl) ?_
 refine osS (by simp (disch:=omega) only[zG,zC,stepOp,aval,opv,Ab.get,Ab.put,putO,Nat.reduceEqDiff,↓reduceIte,D.val,D.cond,reduceCtorEq,Bool.cond_true_left,Bool.cond_false_right,cond_true,cond_false,addTexts,textsG];rfl) (by first|with_reducible rfl|omega|(simp;done)|(simp;omega)|rfl) ?_
 refine osN ?_
 simp only[keep,memN,Nat.reduceEqDiff,if_true,if_false,↓reduceIte,Option.getD_none,Option.getD_some,List.append_nil,List.cons_append,List.nil_append,Bool.false_eq_true]
 refine hK _ _ ?_
 clear hK K
 refine thenQ_normal ?_
 refine WI.cond (b:=_) rfl rfl (fun h0=> ?_) (fun h0=> ?_)
 ·try simp only[zB]at h0
  refine WI.seq ?_
  refine WI.regA hS [4] (fun K hK=> ?_)
  refine osS (by simp only[zC,stepOp,aval,opv,Ab.get,Ab.put,putO,Nat.reduceEqDiff,↓reduceIte,D.val,D.cond,reduceCtorEq];rfl) rfl ?_
  refine osN ?_
  simp only[keep,memN,Nat.reduceEqDiff,if_true,if_false,↓reduceIte,Option.getD_none,Option.getD_some,List.append_nil,List.cons_append,List.nil_append,Bool.false_eq_true]
  refine hK _ _ ?_
  clear hK K
  refine thenQ_normal ?_
  refine WI.ret ?_
  refine thenQ_ret ?_
  refine⟨.inr rfl,?_⟩
  simp (disch:=omega) only[zF,keep,memN,Bool.false_eq_true,if_false,retD,resD,finD,plainD,freezeD,freezeL,aval,opv,Ab.get,Nat.reduceEqDiff,↓reduceIte,D.val,D.cond,Nat.reduceAdd,Nat.reduceLeDiff,Ob.slice?,Ob.dsl?,Ob.drw?,Option.bind_none,addTexts,textsG]
  refine⟨_,_,rfl,?_⟩
  simp only[mkR]
  rw[decide_eq_false (by rintro⟨rfl,rfl⟩;simp at h0)]
 ·try simp only[zB]at h0
  refine WI.skip ?_
  refine thenQ_normal ?_
  refine WI.seq ?_
  refine WI.seq ?_
  refine WI.regA hS [2,3,5] (fun K hK=> ?_)
  refine osS (by simp only[zC,stepOp,aval,opv,Ab.get,Ab.put,putO,Nat.reduceEqDiff,↓reduceIte,D.val,D.cond,reduceCtorEq];rfl) rfl ?_
  refine osN ?_
  simp only[keep,memN,Nat.reduceEqDiff,if_true,if_false,↓reduceIte,Option.getD_none,Option.getD_some,List.append_nil,List.cons_append,List.nil_append,Bool.false_eq_true]
  refine hK _ _ ?_
  clear hK K
  refine thenQ_normal ?_
  refine WI.block ?_
  refine WI.loop (fun φ os=> ∃i:Nat,φ= [(2,.ptr 0 0),(3,.ptr 1 0),(5,.x (.int .i64 i))]∧os= [.box [.x (.str d),.x (.sl (rows rAttr a))],.box [.x (.str e),.x (.sl (rows rAttr b))]]∧i≤a.length∧a.take i=b.take i) (down a.length 5) ?_ (fun φ os hI=> ?_)
  ·exact⟨0,rfl,rfl,by omega,by simp⟩
  ·obtain⟨i,rfl,rfl,hi,he⟩:=hI
   refine WI.seq ?_
   refine WI.seq ?_
   refine WI.regA hS [2,3,5,24] (fun K hK=> ?_)
   refine osS (by simp only[zC,stepOp,aval,opv,Ab.get,Ab.put,putO,Nat.reduceEqDiff,↓reduceIte,D.val,D.cond,reduceCtorEq];rfl) rfl ?_
   refine osS (by simp only[zC,stepOp,aval,opv,Ab.get,Ab.put,putO,Nat.reduceEqDiff,↓reduceIte,D.val,D.cond,reduceCtorEq,Nat.reduceAdd,Nat.add_zero,Nat.zero_add];rfl) rfl ?_
   refine osS (by simp (disch:=omega) only[zL,zR,zC,stepOp,aval,opv,Ab.get,Ab.put,putO,Nat.reduceEqDiff,↓reduceIte,D.val,D.cond,reduceCtorEq,Nat.reduceAdd,Nat.reduceLeDiff,Ob.slice?,Ob.dsl?,Ob.drw?,Option.bind_none,addTexts,textsG];rfl) (by first|with_reducible rfl|omega|(simp;done)|(simp;omega)|rfl) ?_
   refine osS (by simp (disch:=omega) only[zL,zR,zC,stepOp,aval,opv,Ab.get,Ab.put,putO,Nat.reduceEqDiff,↓reduceIte,D.val,D.cond,reduceCtorEq,lenD,okRef,Nat.reduceAdd,Nat.reduceLeDiff,Ob.slice?,Ob.dsl?,Ob.drw?,Option.bind_none,addTexts,textsG];rfl) (by first|with_reducible rfl|omega|(simp;done)|(simp;omega)|rfl) ?_
   refine osS (by simp (disch:=omega) only[zG,zN,zC,stepOp,aval,opv,Ab.get,Ab.put,putO,Nat.reduceEqDiff,↓reduceIte,D.val,D.cond,reduceCtorEq,binD,bitsD,Nat.reduceAdd,Nat.reduceSub,Nat.reduceMul,Nat.reduceLeDiff,Int.reduceToNat,Int.reduceLE,Int.reduceLT,Int.reduceAdd,Int.reduceSub,Int.reduceMul,Int.reduceNeg,Int.reduceEq,bne_self_eq_false,addTexts,textsG];rfl) (by first|with_reducible rfl|omega|(simp;done)|(simp;omega)|rfl) ?_
   refine osN ?_
   simp only[keep,memN,Nat.reduceEqDiff,if_true,if_false,↓reduceIte,Option.getD_none,Option.getD_some,List.append_nil,List.cons_append,List.nil_append,Bool.false_eq_true]
   refine hK _ _ ?_
   clear hK K
   refine thenQ_normal ?_
   refine WI.cond (b:=_) rfl rfl (fun h1=> ?_) (fun h1=> ?_)
   ·try simp only[zB]at h1
    refine WI.skip ?_
    refine thenQ_normal ?_
    refine WI.seq ?_
    refine WI.block ?_
    refine WI.seq ?_
    refine WI.dregA hS [2,3,5,55] (fun K hK=> ?_)
    refine dsF rfl (by simp only[zC,evQ,evA,avalR,prefB,Ob.beq_refl,stepOp,aval,opv,Ab.get,Ab.put,putO,Nat.reduceEqDiff,↓reduceIte,D.val,D.cond,reduceCtorEq,Nat.reduceAdd,Nat.add_zero,Nat.zero_add];rfl) rfl ?_
    refine dsQ rfl rfl rfl (by simp (disch:=omega) only[zL,zR,zC,evQ,evA,avalR,prefB,Ob.beq_refl,stepOp,aval,opv,Ab.get,Ab.put,putO,Nat.reduceEqDiff,↓reduceIte,D.val,D.cond,reduceCtorEq,Nat.reduceAdd,Nat.reduceLeDiff,Ob.slice?,Ob.dsl?,Ob.drw?,Option.bind_none,addTexts,textsG];rfl) (by first|with_reducible rfl|omega|(simp;done)|(simp;omega)|rfl) ?_
    refine dsF rfl (by simp only[zC,evQ,evA,avalR,prefB,Ob.beq_refl,stepOp,aval,opv,Ab.get,Ab.put,putO,Nat.reduceEqDiff,↓reduceIte,D.val,D.cond,reduceCtorEq];rfl) rfl ?_
    refine dsQ rfl rfl rfl (by simp (disch:=omega) only[zL,zR,zC,evQ,evA,avalR,prefB,Ob.beq_refl,stepOp,aval,opv,Ab.get,Ab.put,putO,Nat.reduceEqDiff,↓reduceIte,D.val,D.cond,reduceCtorEq,intOf?,Nat.reduceAdd,Nat.reduceLeDiff,Ob.slice?,Ob.dsl?,Ob.drw?,Option.bind_none,Nat.reduceSub,Nat.reduceMul,Int.reduceToNat,Int.reduceLE,Int.reduceLT,Int.reduceAdd,Int.reduceSub,Int.reduceMul,Int.reduceNeg,Int.reduceEq,decide_false,IntWalk.i64_in,addTexts,textsG];rfl) (by first|with_reducible rfl|omega|(simp;done)|(simp;omega)|rfl) ?_
    refine dsF rfl (by simp only[zC,evQ,evA,avalR,prefB,Ob.beq_refl,stepOp,aval,opv,Ab.get,Ab.put,putO,Nat.reduceEqDiff,↓reduceIte,D.val,D.cond,reduceCtorEq,Nat.reduceAdd,Nat.add_zero,Nat.zero_add];rfl) rfl ?_
    refine dsQ rfl rfl rfl (by simp (disch:=omega) only[zL,zR,zC,evQ,evA,avalR,prefB,Ob.beq_refl,stepOp,aval,opv,Ab.get,Ab.put,putO,Nat.reduceEqDiff,↓reduceIte,D.val,D.cond,reduceCtorEq,Nat.reduceAdd,Nat.reduceLeDiff,Ob.slice?,Ob.dsl?,Ob.drw?,Option.bind_none,addTexts,textsG];rfl) (by first|with_reducible rfl|omega|(simp;done)|(simp;omega)|rfl) ?_
    refine dsF rfl (by simp only[zC,evQ,evA,avalR,prefB,Ob.beq_refl,stepOp,aval,opv,Ab.get,Ab.put,putO,Nat.reduceEqDiff,↓reduceIte,D.val,D.cond,reduceCtorEq,Nat.reduceAdd,Nat.add_zero,Nat.zero_add];rfl) rfl ?_
    refine dsQ rfl rfl rfl (by simp (disch:=omega) only[zL,zR,zC,evQ,evA,avalR,prefB,Ob.beq_refl,stepOp,aval,opv,Ab.get,Ab.put,putO,Nat.reduceEqDiff,↓reduceIte,D.val,D.cond,reduceCtorEq,Nat.reduceAdd,Nat.reduceLeDiff,Ob.slice?,Ob.dsl?,Ob.drw?,Option.bind_none,addTexts,textsG];rfl) (by first|with_reducible rfl|omega|(simp;done)|(simp;omega)|rfl) ?_
    refine dsF rfl (by simp only[zC,evQ,evA,avalR,prefB,Ob.beq_refl,stepOp,aval,opv,Ab.get,Ab.put,putO,Nat.reduceEqDiff,↓reduceIte,D.val,D.cond,reduceCtorEq];rfl) rfl ?_
    refine dsQ rfl rfl rfl (by simp (disch:=omega) only[zL,zR,zC,evQ,evA,avalR,prefB,Ob.beq_refl,stepOp,aval,opv,Ab.get,Ab.put,putO,Nat.reduceEqDiff,↓reduceIte,D.val,D.cond,reduceCtorEq,intOf?,Nat.reduceAdd,Nat.reduceLeDiff,Ob.slice?,Ob.dsl?,Ob.drw?,Option.bind_none,Nat.reduceSub,Nat.reduceMul,Int.reduceToNat,Int.reduceLE,Int.reduceLT,Int.reduceAdd,Int.reduceSub,Int.reduceMul,Int.reduceNeg,Int.reduceEq,decide_false,IntWalk.i64_in,addTexts,textsG];rfl) (by first|with_reducible rfl|omega|(simp;done)|(simp;omega)|rfl) ?_
    refine dsF rfl (by simp only[zC,evQ,evA,avalR,prefB,Ob.beq_refl,stepOp,aval,opv,Ab.get,Ab.put,putO,Nat.reduceEqDiff,↓reduceIte,D.val,D.cond,reduceCtorEq,Nat.reduceAdd,Nat.add_zero,Nat.zero_add];rfl) rfl ?_
    refine dsQ rfl rfl rfl (by simp (disch:=omega) only[zL,zR,zC,evQ,evA,avalR,prefB,Ob.beq_refl,stepOp,aval,opv,Ab.get,Ab.put,putO,Nat.reduceEqDiff,↓reduceIte,D.val,D.cond,reduceCtorEq,Nat.reduceAdd,Nat.reduceLeDiff,Ob.slice?,Ob.dsl?,Ob.drw?,Option.bind_none,addTexts,textsG];rfl) (by first|with_reducible rfl|omega|(simp;done)|(simp;omega)|rfl) ?_
    refine dsF rfl (by simp (disch:=omega) only[zG,zN,zC,evQ,evA,avalR,prefB,Ob.beq_refl,stepOp,aval,opv,Ab.get,Ab.put,putO,Nat.reduceEqDiff,↓reduceIte,D.val,D.cond,reduceCtorEq,binD,bitsD,Nat.reduceAdd,Nat.reduceSub,Nat.reduceMul,Nat.reduceLeDiff,Int.reduceToNat,Int.reduceLE,Int.reduceLT,Int.reduceAdd,Int.reduceSub,Int.reduceMul,Int.reduceNeg,Int.reduceEq,bne_self_eq_false,addTexts,textsG];rfl) (by first|with_reducible rfl|omega|(simp;done)|(simp;omega)|rfl) ?_
    refine dsF rfl (by simp only[zC,evQ,evA,avalR,prefB,Ob.beq_refl,stepOp,aval,opv,Ab.get,Ab.put,putO,Nat.reduceEqDiff,↓reduceIte,D.val,D.cond,reduceCtorEq];rfl) rfl ?_
    refine dsF rfl (by simp (disch:=omega) only[zG,zC,evQ,evA,avalR,prefB,Ob.beq_refl,stepOp,aval,opv,Ab.get,Ab.put,putO,Nat.reduceEqDiff,↓reduceIte,D.val,D.cond,reduceCtorEq,Nat.reduceAdd,Nat.add_zero,Nat.zero_add,addTexts,textsG];rfl) rfl ?_
    refine dsQ rfl rfl rfl (by simp (disch:=omega) only[zL,zG,zR,zC,evQ,evA,avalR,prefB,Ob.beq_refl,stepOp,aval,opv,Ab.get,Ab.put,putO,Nat.reduceEqDiff,↓reduceIte,D.val,D.cond,reduceCtorEq,Nat.reduceAdd,Nat.reduceLeDiff,Ob.slice?,Ob.dsl?,Ob.drw?,Option.bind_none,addTexts,textsG];rfl) (by first|with_reducible rfl|omega|(simp;done)|(simp;omega)|rfl) ?_
    refine dsF rfl (by simp (disch:=omega) only[zG,zC,evQ,evA,avalR,prefB,Ob.beq_refl,stepOp,aval,opv,Ab.get,Ab.put,putO,Nat.reduceEqDiff,↓reduceIte,D.val,D.cond,reduceCtorEq,addTexts,textsG];rfl) rfl ?_
    refine dsQ rfl rfl rfl (by simp (disch:=omega) only[zL,zG,zR,zC,evQ,evA,avalR,prefB,Ob.beq_refl,stepOp,aval,opv,Ab.get,Ab.put,putO,Nat.reduceEqDiff,↓reduceIte,D.val,D.cond,reduceCtorEq,intOf?,Nat.reduceAdd,Nat.reduceLeDiff,Ob.slice?,Ob.dsl?,Ob.drw?,Option.bind_none,Nat.reduceSub,Nat.reduceMul,Int.reduceToNat,Int.reduceLE,Int.reduceLT,Int.reduceAdd,Int.reduceSub,Int.reduceMul,Int.reduceNeg,Int.reduceEq,decide_false,IntWalk.i64_in,addTexts,textsG];rfl) (by first|with_reducible rfl|omega|(simp;done)|(simp;omega)|rfl) ?_
    refine dsF rfl (by simp (disch:=omega) only[zG,zC,evQ,evA,avalR,prefB,Ob.beq_refl,stepOp,aval,opv,Ab.get,Ab.put,putO,Nat.reduceEqDiff,↓reduceIte,D.val,D.cond,reduceCtorEq,Nat.reduceAdd,Nat.add_zero,Nat.zero_add,addTexts,textsG];rfl) rfl ?_
    refine dsQ rfl rfl rfl (by simp (disch:=omega) only[zL,zG,zR,zC,evQ,evA,avalR,prefB,Ob.beq_refl,stepOp,aval,opv,Ab.get,Ab.put,putO,Nat.reduceEqDiff,↓reduceIte,D.val,D.cond,reduceCtorEq,Nat.reduceAdd,Nat.reduceLeDiff,Ob.slice?,Ob.dsl?,Ob.drw?,Option.bind_none,addTexts,textsG];rfl) (by first|with_reducible rfl|omega|(simp;done)|(simp;omega)|rfl) ?_
    refine dsF rfl (by simp (disch:=omega) only[zG,zC,evQ,evA,avalR,prefB,Ob.beq_refl,stepOp,aval,opv,Ab.get,Ab.put,putO,Nat.reduceEqDiff,↓reduceIte,D.val,D.cond,reduceCtorEq,Nat.reduceAdd,Nat.add_zero,Nat.zero_add,addTexts,textsG];rfl) rfl ?_
    refine dsQ rfl rfl rfl (by simp (disch:=omega) only[zL,zG,zR,zC,evQ,evA,avalR,prefB,Ob.beq_refl,stepOp,aval,opv,Ab.get,Ab.put,putO,Nat.reduceEqDiff,↓reduceIte,D.val,D.cond,reduceCtorEq,Nat.reduceAdd,Nat.reduceLeDiff,Ob.slice?,Ob.dsl?,Ob.drw?,Option.bind_none,addTexts,textsG];rfl) (by first|with_reducible rfl|omega|(simp;done)|(simp;omega)|rfl) ?_
    refine dsF rfl (by simp (disch:=omega) only[zG,zC,evQ,evA,avalR,prefB,Ob.beq_refl,stepOp,aval,opv,Ab.get,Ab.put,putO,Nat.reduceEqDiff,↓reduceIte,D.val,D.cond,reduceCtorEq,addTexts,textsG];rfl) rfl ?_
    refine dsQ rfl rfl rfl (by simp (disch:=omega) only[zL,zG,zR,zC,evQ,evA,avalR,prefB,Ob.beq_refl,stepOp,aval,opv,Ab.get,Ab.put,putO,Nat.reduceEqDiff,↓reduceIte,D.val,D.cond,reduceCtorEq,intOf?,Nat.reduceAdd,Nat.reduceLeDiff,Ob.slice?,Ob.dsl?,Ob.drw?,Option.bind_none,Nat.reduceSub,Nat.reduceMul,Int.reduceToNat,Int.reduceLE,Int.reduceLT,Int.reduceAdd,Int.reduceSub,Int.reduceMul,Int.reduceNeg,Int.reduceEq,decide_false,IntWalk.i64_in,addTexts,textsG];rfl) (by first|with_reducible rfl|omega|(simp;done)|(simp;omega)|rfl) ?_
    refine dsF rfl (by simp (disch:=omega) only[zG,zC,evQ,evA,avalR,prefB,Ob.beq_refl,stepOp,aval,opv,Ab.get,Ab.put,putO,Nat.reduceEqDiff,↓reduceIte,D.val,D.cond,reduceCtorEq,Nat.reduceAdd,Nat.add_zero,Nat.zero_add,addTexts,textsG];rfl) rfl ?_
    refine dsQ rfl rfl rfl (by simp (disch:=omega) only[zL,zG,zR,zC,evQ,evA,avalR,prefB,Ob.beq_refl,stepOp,aval,opv,Ab.get,Ab.put,putO,Nat.reduceEqDiff,↓reduceIte,D.val,D.cond,reduceCtorEq,Nat.reduceAdd,Nat.reduceLeDiff,Ob.slice?,Ob.dsl?,Ob.drw?,Option.bind_none,addTexts,textsG];rfl) (by first|with_reducible rfl|omega|(simp;done)|(simp;omega)|rfl) ?_
    refine dsA rfl rfl rfl (by simp (disch:=omega) only[zS,zO,viaNN,viaNNT,D.nn,D.na,addQ,addT,IE.isCall,Nat.reduceAdd,Nat.reduceSub,Nat.reduceMul,Nat.reduceLeDiff,Nat.reduceLT,Nat.reduceBEq,Int.reduceToNat,Int.reduceLE,Int.reduceLT,Int.reduceAdd,Int.reduceSub,Int.reduceMul,Int.reduceNeg,Int.reduceEq,Nat.reduceEqDiff,runOpsA,runDA,stepOp,aval,aact,opv,Ab.get,Ab.put,putO,keep,memN,D.val,D.cond,D.cells?,D.scalar,X.scalar,D.plain,D.isX,binD,bitsD,eqD,eqFs,eqX,unD,intOf?,lenD,okRef,rowsOf,viewD,viewX,freezeD,freezeL,partsD,buildD,slcStrD,slcSlD,Ob.slice?,↓reduceIte,reduceCtorEq,evQ,evK,evC,evC1,metG,evA,avalR,prefB,eqR,nzD,actT,callT1,callR1,callK1,valsL,condsL,optV,noTabs,IE.frame,memB,zeroO,IntWalk.i64_in,addTexts,textsG];rfl) (by first|with_reducible rfl|omega|(simp;done)|(simp;omega)|rfl) ?_
    refine dsF rfl (by simp (disch:=omega) only[zG,zC,evQ,evA,avalR,prefB,Ob.beq_refl,stepOp,aval,opv,Ab.get,Ab.put,putO,Nat.reduceEqDiff,↓reduceIte,D.val,D.cond,reduceCtorEq,unD,addTexts,textsG];rfl) (by first|with_reducible rfl|omega|(simp;done)|(simp;omega)|rfl) ?_
    refine dsF rfl (by simp (disch:=omega) only[zG,zC,evQ,evA,avalR,prefB,Ob.beq_refl,stepOp,aval,opv,Ab.get,Ab.put,putO,Nat.reduceEqDiff,↓reduceIte,D.val,D.cond,reduceCtorEq,Bool.cond_true_left,Bool.cond_false_right,cond_true,cond_false,addTexts,textsG];rfl) (by first|with_reducible rfl|omega|(simp;done)|(simp;omega)|rfl) ?_
    refine dsN ?_
    simp only[keep,memN,Nat.reduceEqDiff,if_true,if_false,↓reduceIte,Option.getD_none,Option.getD_some,List.append_nil,List.cons_append,List.nil_append,Bool.false_eq_true]
    refine hK _ _ ?_
    clear hK K
    refine thenQ_normal ?_
    refine WI.cond (b:=_) rfl rfl (fun h2=> ?_) (fun h2=> ?_)
    ·try simp only[zB]at h2
     refine WI.seq ?_
     refine WI.regA hS [4] (fun K hK=> ?_)
     refine osS (by simp only[zC,stepOp,aval,opv,Ab.get,Ab.put,putO,Nat.reduceEqDiff,↓reduceIte,D.val,D.cond,reduceCtorEq];rfl) rfl ?_
     refine osN ?_
     simp only[keep,memN,Nat.reduceEqDiff,if_true,if_false,↓reduceIte,Option.getD_none,Option.getD_some,List.append_nil,List.cons_append,List.nil_append,Bool.false_eq_true]
     refine hK _ _ ?_
     clear hK K
     refine thenQ_normal ?_
     refine WI.ret ?_
     refine blockQ_ret ?_
     refine thenQ_ret ?_
     refine thenQ_ret ?_
     refine blockQ_ret ?_
     refine thenQ_ret ?_
     refine⟨.inr rfl,?_⟩
     simp (disch:=omega) only[zF,keep,memN,Bool.false_eq_true,if_false,retD,resD,finD,plainD,freezeD,freezeL,aval,opv,Ab.get,Nat.reduceEqDiff,↓reduceIte,D.val,D.cond,Nat.reduceAdd,Nat.reduceLeDiff,Ob.slice?,Ob.dsl?,Ob.drw?,Option.bind_none,addTexts,textsG]
     refine⟨_,_,rfl,?_⟩
     simp only[mkR]
     rw[decide_eq_false (by rintro⟨rfl,rfl⟩;simp at h2)]
    ·try simp only[zB]at h2
     refine WI.skip ?_
     refine blockQ_normal ?_
     refine thenQ_normal ?_
     refine WI.regA hS [2,3,5] (fun K hK=> ?_)
     refine osS (by simp only[zC,stepOp,aval,opv,Ab.get,Ab.put,putO,Nat.reduceEqDiff,↓reduceIte,D.val,D.cond,reduceCtorEq];rfl) rfl ?_
     refine osS (by simp (disch:=omega) only[zG,zN,zC,stepOp,aval,opv,Ab.get,Ab.put,putO,Nat.reduceEqDiff,↓reduceIte,D.val,D.cond,reduceCtorEq,binD,bitsD,Nat.reduceAdd,Nat.reduceSub,Nat.reduceMul,Nat.reduceLeDiff,Int.reduceToNat,Int.reduceLE,Int.reduceLT,Int.reduceAdd,Int.reduceSub,Int.reduceMul,Int.reduceNeg,Int.reduceEq,bne_self_eq_false,addTexts,textsG];rfl) (by first|with_reducible rfl|omega|(simp;done)|(simp;omega)|rfl) ?_
     refine osS (by simp only[zC,stepOp,aval,opv,Ab.get,Ab.put,putO,Nat.reduceEqDiff,↓reduceIte,D.val,D.cond,reduceCtorEq];rfl) rfl ?_
     refine osN ?_
     simp only[keep,memN,Nat.reduceEqDiff,if_true,if_false,↓reduceIte,Option.getD_none,Option.getD_some,List.append_nil,List.cons_append,List.nil_append,Bool.false_eq_true]
     refine hK _ _ ?_
     clear hK K
     refine thenQ_normal ?_
     exact⟨⟨i+1,by simp,rfl,by omega,take_extT he (by omega) (by omega) (Prod.ext h2.1 (Prod.ext h2.2 rfl))⟩,by simp[down,Ab.get,D.val,intOf?];omega⟩
   ·try simp only[zB]at h1
    refine WI.exit ?_
    refine thenQ_exit ?_
    refine thenQ_exit ?_
    refine blockQ_hit ?_
    refine thenQ_normal ?_
    refine WI.seq ?_
    refine WI.regA hS [4] (fun K hK=> ?_)
    refine osS (by simp only[zC,stepOp,aval,opv,Ab.get,Ab.put,putO,Nat.reduceEqDiff,↓reduceIte,D.val,D.cond,reduceCtorEq];rfl) rfl ?_
    refine osN ?_
    simp only[keep,memN,Nat.reduceEqDiff,if_true,if_false,↓reduceIte,Option.getD_none,Option.getD_some,List.append_nil,List.cons_append,List.nil_append,Bool.false_eq_true]
    refine hK _ _ ?_
    clear hK K
    refine thenQ_normal ?_
    refine WI.ret ?_
    refine⟨.inr rfl,?_⟩
    simp (disch:=omega) only[zF,keep,memN,Bool.false_eq_true,if_false,retD,resD,finD,plainD,freezeD,freezeL,aval,opv,Ab.get,Nat.reduceEqDiff,↓reduceIte,D.val,D.cond,Nat.reduceAdd,Nat.reduceLeDiff,Ob.slice?,Ob.dsl?,Ob.drw?,Option.bind_none,addTexts,textsG]
    refine⟨_,_,rfl,?_⟩
    simp only[mkR]
    rw[ξt];rw[ξT (by omega),ξT (by omega)]at he;exact⟨h0.1,he⟩
theorem equal_c (d e:List UInt8) (a b:List TAttr):PCalls Tryd.prog 27 [.agg [.x (.str d),.x (.sl (rows rAttr a))],.agg [.x (.str e),.x (.sl (rows rAttr b))]] (.x (.bool (decide (d=e∧a=b)))):=by
 refine PCalls.wfA (fun hw=> ?_)
 have ha:a.length≤maxLen:=by have:=(hw 0 1 _ rfl).1;rwa [rows_len]at this
 have hb:b.length≤maxLen:=by have:=(hw 1 1 _ rfl).1;rwa [rows_len]at this
 exact equal_w d e a b ha hb
def equalG:List D→Option (Bool×D)
 | [.agg [.x (.str d),.x (.sl A)],.agg [.x (.str e),.x (.sl B)]]=>(unrows rAttr A).bind fun a=>(unrows rAttr B).map fun b=>(true,.x (.bool (decide (d=e∧a=b))))
 |_=>none
theorem equalG_ok: ∀args r,equalG args=some (true,r)→PCalls Tryd.prog 27 args r:=by
 intro args r h
 unfold equalG at h
 split at h
 ·simp only[ξb,ξm]at h
  obtain⟨a,h1,b,h2,h3⟩:=h
  cases h3
  rw[←rows_unrows good_rAttr h1,←rows_unrows good_rAttr h2]
  exact equal_c _ _ a b
 ·cases h
theorem equal_enters:Go.Ab.Enters Tryd.prog 27:=G_enters G_ok (p:=i27) rfl
def tabLe2:Tabs:=addQ (addQ (addQ (addQ (noTabs) 13 (viaNN lputG)) 17 lreadG) 15 lineG) 27 (viaNN equalG)
theorem tabLe2_ok:SsOk Tryd.prog tabLe2:=addQ_ok (addQ_ok (addQ_ok (addQ_ok (noTabs_ok) (G_enters G_ok (p:=i13) rfl) (viaNN_ok lputG_ok)) (G_enters G_ok (p:=i17) rfl) lreadG_ok) (G_enters G_ok (p:=i15) rfl) lineG_ok) equal_enters (viaNN_ok equalG_ok)
theorem awake34_c:PCalls Tryd.prog 12 [] (.x (.bool true)):=ev_closedS G_ok 300 (p:=i12) rfl tabLe2_ok (by kernel_rfl) rfl
def awake34G:List D→Option (Bool×D)
 | []=>some (true,.x (.bool true))
 |_=>none
theorem awake34G_ok: ∀args r,awake34G args=some (true,r)→PCalls Tryd.prog 12 args r:=by
 intro args r h
 unfold awake34G at h
 split at h
 ·simp only[ξI,ξP,ξa,ξe,true_and]at h
  obtain rfl:=h
  exact awake34_c
 ·cases h
theorem fewL_sm {l:List TEntry} (h:fewL l=true):smL l:=by
 unfold fewL at h
 rw[ξa]at h
 intro e he
 have h1:=List.all_eq_true.1 h.2 e he
 unfold fewE at h1
 rw[ξa,ξe]at h1
 refine⟨by omega,by omega,fun a ha=> ?_⟩
 have h2:=List.all_eq_true.1 h1.2 a ha
 unfold fewA at h2
 rw[ξa,ξe]at h2
 refine⟨by omega,by omega,fun v hv=> ?_⟩
 have h3:=of_decide_eq_true (List.all_eq_true.1 h2.2 v hv)
 omega
def tabLe3:Tabs:=addQ (addQ (addQ (addQ (addQ (addQ (noTabs) 13 (viaNN lputG)) 15 lineG) 11 (viaNN fewLG)) 14 (viaNN lputRG)) 16 lineRG) 12 awake34G
theorem tabLe3_ok:SsOk Tryd.prog tabLe3:=addQ_ok (addQ_ok (addQ_ok (addQ_ok (addQ_ok (addQ_ok (noTabs_ok) (G_enters G_ok (p:=i13) rfl) (viaNN_ok lputG_ok)) (G_enters G_ok (p:=i15) rfl) lineG_ok) (G_enters G_ok (p:=i11) rfl) (viaNN_ok fewLG_ok)) (G_enters G_ok (p:=i14) rfl) (viaNN_ok lputRG_ok)) (G_enters G_ok (p:=i16) rfl) lineRG_ok) (G_enters G_ok (p:=i12) rfl) awake34G_ok
theorem tabLe3_q13 (a:List D):tabLe3.q 13 a=viaNN lputG a:=rfl
theorem tabLe3_q15 (a:List D):tabLe3.q 15 a=lineG a:=rfl
theorem tabLe3_q11 (a:List D):tabLe3.q 11 a=viaNN fewLG a:=rfl
theorem tabLe3_q14 (a:List D):tabLe3.q 14 a=viaNN lputRG a:=rfl
theorem tabLe3_q16 (a:List D):tabLe3.q 16 a=lineRG a:=rfl
theorem tabLe3_q12 (a:List D):tabLe3.q 12 a=awake34G a:=rfl
theorem tabLe3_r (f:FuncId) (a:List D) (o:List Ob):tabLe3.r f a o=none:=rfl
theorem tabLe3_k (f:FuncId) (a:List D) (o:List Ob):tabLe3.k f a o=none:=rfl
theorem ldifPuts_c (l:List TEntry) (a v:Tx):PCalls Tryd.prog 4 [.x (.sl (rows rEntry l)),.x (.str a),.x (.str v)] (.x (.bool true)):=by
 refine FCalls.pure (fcallsG (fz:=true) G_ok (p:=i4) rfl _ (ξ rfl) _ (fun C0 E0=> ?_)) rfl
 dsimp only[i4,qt,qi,qs,qb,qm,qa,qh,qj,qT,qF,qe,ql,qL,qf,q2,q3,q8,qz,qp,qP,qc,qk,qx,qy,qo,qr,qC,argsφ]
 have uu:=ξn @lputG.eq_1 (ξn @lputG.eq_2 (ξn @lineG.eq_1 (ξn @lineG.eq_2 (ξn @fewLG.eq_1 (ξn @fewLG.eq_2 (ξn @lputRG.eq_1 (ξn @lputRG.eq_2 (ξn @lineRG.eq_1 (ξn @lineRG.eq_2 (ξn @awake34G.eq_1 (ξn @awake34G.eq_2 (ξn @tabLe3_r (ξn @tabLe3_k (ξn @tabLe3_q11 (ξn @tabLe3_q12 (ξn @tabLe3_q13 (ξn @tabLe3_q14 (ξn @tabLe3_q15 (@tabLe3_q16)))))))))))))))))))
 have tT:=tabLe3_ok
 refine nz ?_
 refine WI.regB tT [0,1,2] ?_
 refine oS ?_
 refine oN ?_
 refine nz ?_
 refine WI.regB tT [0,1,2,23] ?_
 refine oS ?_
 refine oC (hok:=by first|exact se|(clear uu;grind)|exact sd) ?_
 refine oG (hok:=by first|exact se|(clear uu;grind)|exact sd) ?_
 refine oS ?_
 iterate 4 refine oG (hok:=by first|exact se|(clear uu;grind)|exact sd) ?_
 refine oS ?_
 iterate 4 refine oG (hok:=by first|exact se|(clear uu;grind)|exact sd) ?_
 refine oN ?_
 refine nz ?_
 refine cd (fun h0=> ?_) (fun h0=> ?_)
 ·refine WI.regB tT [6] ?_
  refine oC (hok:=by first|exact se|(clear uu;grind)|exact sd) ?_
  refine oS ?_
  refine oN ?_
  refine nz ?_
  refine lf ?_
  first|rfl|(simp;done)
 ·have hfw:fewL l=true:=by clear uu;grind
  have hlm:a.length≤100∧v.length≤300:=by clear uu;grind
  have uu:=ξn uu (ξn (ξt (fewL_sm hfw)) (ξn (ξt (show a.length≤1000000 by omega)) (ξt (show v.length≤1000000 by omega))))
  refine WI.regB tT [0,1,2,7,8] ?_
  refine oS ?_
  refine oC (hok:=by first|exact se|(clear uu;grind)|exact sd) ?_
  refine oS ?_
  iterate 2 refine oG ?_
  iterate 2 refine oS ?_
  refine oN ?_
  refine nz ?_
  refine WI.regB tT [1,2,7,8,9,10] ?_
  refine oS ?_
  refine oC (hok:=by first|exact se|(clear uu;grind)|exact sd) ?_
  refine oS ?_
  iterate 2 refine oG ?_
  iterate 2 refine oS ?_
  refine oN ?_
  refine nz ?_
  refine WI.regB tT [6] ?_
  iterate 2 refine oS ?_
  refine oG (hok:=by first|exact se|(clear uu;grind)|exact sd) ?_
  refine oS ?_
  iterate 4 refine oG (hok:=by first|exact se|(clear uu;grind)|exact sd) ?_
  refine oS ?_
  iterate 2 refine oG (hok:=by first|exact se|(clear uu;grind)|exact sd) ?_
  refine oC (hok:=by first|exact se|(clear uu;grind)|exact sd) ?_
  iterate 2 refine oG (hok:=by first|exact se|(clear uu;grind)|exact sd) ?_
  refine oC (hok:=by first|exact se|(clear uu;grind)|exact sd) ?_
  iterate 2 refine oG (hok:=by first|exact se|(clear uu;grind)|exact sd) ?_
  refine oS ?_
  refine oC (hok:=by first|exact se|(clear uu;grind)|exact sd) ?_
  refine oG (hok:=by first|exact se|(clear uu;grind)|exact sd) ?_
  refine oS ?_
  refine oN ?_
  refine nz ?_
  refine lf ?_
  first|rfl|(simp;done)
abbrev cnT:Tx:= [99,110]
theorem ltr_see: ∀x:Fin 64,seeN (ltr x.val).toNat=true:=by decide+kernel
theorem okL_see (c:UInt8) (h:okL c=true):seeN c.toNat=true:=by
 rw[←ok_ltr c h];exact ltr_see ⟨nVal c,nVal_lt c⟩
theorem putS_see (s:Tx):seeA (putS s)=true:=by
 obtain⟨p,L,-,-,-,ha,he⟩:=putS_ok s
 rw[he]
 unfold padS seeA
 rw[List.all_append,ξa]
 exact⟨List.all_eq_true.2 fun c hc=>okL_see c (List.all_eq_true.1 ha c hc),List.all_eq_true.2 fun c hc=>by rw[List.eq_of_mem_replicate hc];rfl⟩
theorem lineL_see (v:Tx): ∃t,lineL cnT v=t++ [10]∧seeA t=true:=by
 unfold lineL
 split
 ·exact⟨[99,110,58],rfl,rfl⟩
 split
 ·rename_i h
  refine⟨cnT++ [58,32]++v,rfl,?_⟩
  unfold safB at h
  simp only[ξa]at h
  have h1:=h.1.1.1
  unfold seeA at h1⊢
  rw[List.all_append,h1];rfl
 ·refine⟨cnT++ [58,58,32]++putS v,rfl,?_⟩
  have h1:=putS_see v
  unfold seeA at h1⊢
  rw[List.all_append,h1];rfl
def tabLe4:Tabs:=addQ (addQ (noTabs) 15 lineG) 12 awake34G
theorem tabLe4_ok:SsOk Tryd.prog tabLe4:=addQ_ok (addQ_ok (noTabs_ok) (G_enters G_ok (p:=i15) rfl) lineG_ok) (G_enters G_ok (p:=i12) rfl) awake34G_ok
theorem tabLe4_q15 (a:List D):tabLe4.q 15 a=lineG a:=rfl
theorem tabLe4_q12 (a:List D):tabLe4.q 12 a=awake34G a:=rfl
theorem tabLe4_r (f:FuncId) (a:List D) (o:List Ob):tabLe4.r f a o=none:=rfl
theorem tabLe4_k (f:FuncId) (a:List D) (o:List Ob):tabLe4.k f a o=none:=rfl
theorem ldifLines_c (v:Tx):PCalls Tryd.prog 6 [.x (.str v)] (.x (.bool true)):=by
 obtain⟨t,ht,hs⟩:=lineL_see v
 have hll:=lineL_len cnT v
 obtain⟨s,hd⟩: ∃s,s=lineL cnT v:=⟨_,rfl⟩
 rw[←hd]at ht hll
 have hd:lineL [99,110] v=s:=hd.symm
 have htl:s.length=t.length+1:=by rw[ht];simp
 have hgl:s.getD t.length 0=10:=by rw[ht];simp
 have hgi:((s.length:Int)-1).toNat=t.length:=by omega
 have hne:s≠ []:=by rw[ht];simp
 have hgt: ∀i,i<t.length→32≤(s.getD i 0).toNat∧(s.getD i 0).toNat≤126:=fun i hi=>by
  rw[ht]
  have:=List.all_eq_true.1 hs t[i] (List.getElem_mem hi)
  simp only[List.getD_eq_getElem?_getD,ξl hi,ξg hi,Option.getD_some]
  exact of_decide_eq_true this
 simp only[ξC,ξN]at hll
 clear ht
 refine FCalls.pure (fcallsG (fz:=true) G_ok (p:=i6) rfl _ (ξ rfl) _ (fun C0 E0=> ?_)) rfl
 dsimp only[i6,qt,qi,qs,qb,qm,qa,qh,qj,qT,qF,qe,ql,qL,qf,q2,q3,q8,qz,qp,qP,qc,qk,qx,qy,qo,qr,qC,argsφ]
 have uu:=ξn @lineG.eq_1 (ξn @lineG.eq_2 (ξn @awake34G.eq_1 (ξn @awake34G.eq_2 (ξn hd (ξn @tabLe4_r (ξn @tabLe4_k (ξn @tabLe4_q12 (@tabLe4_q15))))))))
 have tT:=tabLe4_ok
 refine nz ?_
 refine WI.regB tT [0] ?_
 refine oS ?_
 refine oN ?_
 refine nz ?_
 refine WI.regB tT [0,7] ?_
 refine oS ?_
 iterate 2 refine oG (hok:=by first|exact se|(clear uu;grind)|exact sd) ?_
 refine oN ?_
 refine nz ?_
 refine cd (fun h0=> ?_) (fun h0=> ?_)
 ·refine WI.regB tT [2] ?_
  refine oC (hok:=by first|exact se|(clear uu;grind)|exact sd) ?_
  refine oS ?_
  refine oN ?_
  refine nz ?_
  refine lf ?_
  first|rfl|exact⟨rfl,rfl⟩|trivial
 ·have hvl:v.length≤300:=by clear uu;grind
  have uu:=ξn uu (ξt (show v.length≤1000000 by omega))
  refine WI.regB tT [3] ?_
  refine oS ?_
  refine oC (hok:=by first|exact se|(clear uu;grind)|exact sd) ?_
  refine oS ?_
  refine oN ?_
  refine nz ?_
  refine WI.regB tT [3,20] ?_
  refine oS ?_
  refine oG (hok:=by first|exact se|(clear uu;grind)|exact sd) ?_
  refine oS ?_
  iterate 7 refine oG (hok:=by first|exact se|(clear uu;grind)|exact sd) ?_
  refine oN ?_
  refine nz ?_
  refine cd (fun h1=> ?_) (fun h1=> ?_)
  ·refine WI.regB tT [2] ?_
   refine oS ?_
   refine oN ?_
   refine nz ?_
   refine lf ?_
   exfalso;rcases h1 with h1|h1;exact hne h1;rw[hgi,hgl]at h1;exact h1 rfl
  ·refine WI.regB tT [3,4] ?_
   refine oS ?_
   refine oN ?_
   refine nz ?_
   refine WI.loop (fun φ os=> ∃(i:Nat),φ= [(3,.x (.str s)),(4,.x (.int .i64 i))]∧os= []∧i≤t.length) (down s.length 4) ?_ (fun φ os hI=> ?_)
   ·exact⟨0,rfl,rfl,by omega⟩
   ·obtain⟨i,rfl,rfl,hi⟩:=hI
    refine nz ?_
    refine WI.regB tT [3,4,25] ?_
    iterate 2 refine oS ?_
    iterate 3 refine oG (hok:=by first|exact se|(clear uu;grind)|exact sd) ?_
    refine oN ?_
    refine nz ?_
    refine cd (fun h2=> ?_) (fun h2=> ?_)
    ·have hi4:i<t.length:=by omega
     have hgi4:=hgt i hi4
     refine WI.regB tT [3,4,37] ?_
     iterate 2 refine oS ?_
     iterate 2 refine oG (hok:=by first|exact se|(clear uu;grind)|exact sd) ?_
     refine oS ?_
     iterate 5 refine oG (hok:=by first|exact se|(clear uu;grind)|exact sd) ?_
     refine oN ?_
     refine nz ?_
     refine cd (fun h3=> ?_) (fun h3=> ?_)
     ·refine WI.regB tT [2] ?_
      refine oS ?_
      refine oN ?_
      refine nz ?_
      refine lf ?_
      exfalso;clear uu;grind
     ·refine WI.regB tT [3,4] ?_
      refine oS ?_
      refine oG (hok:=by first|exact se|(clear uu;grind)|exact sd) ?_
      refine oS ?_
      refine oN ?_
      refine nz ?_
      exact⟨⟨i+1,rfl,rfl,by omega⟩,by simp[down,Ab.get,D.val,intOf?];omega⟩
    ·refine WI.regB tT [2] ?_
     refine oC (hok:=by first|exact se|(clear uu;grind)|exact sd) ?_
     refine oS ?_
     refine oN ?_
     refine nz ?_
     refine lf ?_
     rfl
theorem cutB_app (c:UInt8): ∀(t r:Tx),(∀x∈t,x≠c)→cutB c (t++c::r)=(t,r,true)
 | [],r,_=>by simp[cutB]
 |b::t,r,h=>by
  have h1:=cutB_app c t r (fun x hx=>h x (List.mem_cons_of_mem _ hx))
  rw[List.cons_append,cutB,if_neg (h b List.mem_cons_self),h1]
theorem cutB_split (c:UInt8): ∀s:Tx,(cutB c s).2.2=true→s=(cutB c s).1++c::(cutB c s).2.1
 | [],h=>by simp[cutB]at h
 |b::l,h=>by
  have ih:=cutB_split c l
  unfold cutB at h⊢
  split
  ·rename_i e;rw[e];rfl
  ·rename_i e
   rw[if_neg e]at h
   rw[List.cons_append,←ih h]
theorem see_ne (t:Tx) (h:seeA t=true): ∀x∈t,x≠10:=fun x hx e=>by
 have:=List.all_eq_true.1 h x hx
 subst e;simp[seeN]at this
theorem lineL_one (a v:Tx) (ha: ∀x∈a,x≠10): ∃t,lineL a v=t++ [10]∧(∀x∈t,x≠10)∧t≠ []:=by
 have app: ∀p q:Tx,(∀x∈p,x≠10)→(∀x∈q,x≠10)→ ∀x∈p++q,x≠10:=fun p q hp hq x hx=>(List.mem_append.1 hx).elim (hp x) (hq x)
 unfold lineL
 split
 ·exact⟨a++ [58],by simp,app _ _ ha (by simp),by simp⟩
 split
 ·rename_i h
  refine⟨a++ [58,32]++v,rfl,app _ _ (app _ _ ha (by simp)) (see_ne v ?_),by simp⟩
  unfold safB at h
  simp only[ξa]at h
  exact h.1.1.1
 ·exact⟨a++ [58,58,32]++putS v,rfl,app _ _ (app _ _ ha (by simp)) (see_ne _ (putS_see v)),by simp⟩
theorem valR_line (a v t:Tx) (ha: ∀x∈a,x≠58) (ht:lineL a v=t++ [10]):valR t=(a,v,true):=by
 have fin: ∀r:Tx,t=a++58::r→valW r=(v,true)→valR t=(a,v,true):=fun r h1 h2=>by
  unfold valR
  rw[h1,cutB_app 58 a r ha]
  dsimp only
  rw[h2,if_pos rfl,←h1,ht];simp
 by_cases h0:v= []
 ·subst h0
  refine fin [] ?_ rfl
  have:t++ [10]=(a++ [58])++ [10]:=by rw[←ht];unfold lineL;simp
  exact List.append_cancel_right this
 by_cases h1:safB v=true
 ·refine fin (32::v) ?_ rfl
  have:t++ [10]=(a++58::32::v)++ [10]:=by rw[←ht];unfold lineL;rw[if_neg h0,if_pos h1];simp
  exact List.append_cancel_right this
 ·refine fin (58::32::putS v) ?_ ?_
  ·have:t++ [10]=(a++58::58::32::putS v)++ [10]:=by rw[←ht];unfold lineL;rw[if_neg h0,if_neg h1];simp
   exact List.append_cancel_right this
  ·unfold valW
   rw[if_neg (by simp),if_pos (by simp[Lib.hasPrefix,List.isPrefixOf]),show(58::32::putS v:Tx).drop 2=putS v from rfl,read_put];rfl
theorem ty_see (s:Tx) (h:tyL s=true):(∀x∈s,x≠58)∧(∀x∈s,x≠10)∧s≠dnT:=by
 unfold tyL at h
 rw[ξa,ξe]at h
 have h2:=h.1
 unfold typB tyA at h2
 rw[ξa]at h2
 have key: ∀x∈s,∃j,tyC j x=true:=fun x hx=>by
  obtain⟨i,hi,rfl⟩:=List.getElem_of_mem hx
  have:=tyU_get s s.length i h2.2 hi
  rw[show s.getD i 0=s[i] by simp[hi]]at this
  exact⟨i,this⟩
 refine⟨fun x hx e=> ?_,fun x hx e=> ?_,fun e=>h.2 (by rw[e];rfl)⟩
 ·obtain⟨j,hj⟩:=key x hx;subst e;revert hj;unfold tyC letN digN;simp
 ·obtain⟨j,hj⟩:=key x hx;subst e;revert hj;unfold tyC letN digN;simp
theorem runL_new (n:Nat) (v rest:Tx) (l:List TEntry) (hn:(lineL dnT v++rest).length≤n): ∃m,rest.length≤m∧runL n true (lineL dnT v++rest) l=runL m false rest (l++ [(v,[],())]):=by
 obtain⟨t,ht,h1,h2⟩:=lineL_one dnT v (by decide)
 have hv:=valR_line dnT v t (by decide) ht
 rw[ht,List.append_assoc]at hn⊢
 have hc:=cutB_app 10 t rest h1
 rw[show t++([10]++rest)=t++10::rest from rfl]at hn⊢
 simp only[ξA,ξC]at hn
 obtain⟨m,rfl⟩: ∃m,n=m+1:=⟨n-1,by omega⟩
 refine⟨m,by omega,?_⟩
 rw[runL,if_neg (by simp),hc,if_neg (by simp),if_neg (by simp),hv,if_neg (by simp),if_pos rfl]
theorem runL_add (n:Nat) (a v rest:Tx) (l:List TEntry) (ha:tyL a=true) (hn:(lineL a v++rest).length≤n): ∃m,rest.length≤m∧runL n false (lineL a v++rest) l=runL m false rest (addE l a v):=by
 obtain⟨q1,q2,q3⟩:=ty_see a ha
 obtain⟨t,ht,h1,h2⟩:=lineL_one a v q2
 have hv:=valR_line a v t q1 ht
 rw[ht,List.append_assoc]at hn⊢
 have hc:=cutB_app 10 t rest h1
 rw[show t++([10]++rest)=t++10::rest from rfl]at hn⊢
 simp only[ξA,ξC]at hn
 obtain⟨m,rfl⟩: ∃m,n=m+1:=⟨n-1,by omega⟩
 refine⟨m,by omega,?_⟩
 rw[runL,if_neg (by simp),hc,if_neg (by simp),if_neg (by simp[h2]),hv,if_neg (by simp[q3]),if_neg (by simp)]
theorem runL_gap (n:Nat) (rest:Tx) (l:List TEntry) (h:rest≠ []) (hn:(10::rest).length≤n): ∃m,rest.length≤m∧runL n false (10::rest) l=runL m true rest l:=by
 simp only[ξC]at hn
 obtain⟨m,rfl⟩: ∃m,n=m+1:=⟨n-1,by omega⟩
 refine⟨m,by omega,?_⟩
 rw[runL,if_neg (by simp),show cutB 10 (10::rest)=([],rest,true)from by rw[cutB,if_pos rfl],if_neg (by simp),if_pos ⟨rfl,rfl,h⟩]
def pairsL (l:List TAttr):List (Tx×Tx):=l.flatMap fun a=>a.2.1.map fun v=>(a.1,v)
def runA (bs:List TAttr) (ps:List (Tx×Tx)):List TAttr:=ps.foldl (fun bs p=>addA bs p.1 p.2) bs
def grpE (e:TEntry):TEntry:=(e.1,runA [] (pairsL e.2.1),())
theorem attL_pairs: ∀l:List TAttr,attL l=(pairsL l).flatMap fun p=>lineL p.1 p.2
 | []=>rfl
 |a::l=>by
  have ih:=attL_pairs l
  unfold attL pairsL at ih⊢
  rw[List.flatMap_cons,List.flatMap_cons,List.flatMap_append,ih,List.flatMap_map];rfl
theorem addE_last (l:List TEntry) (dn:Tx) (bs:List TAttr) (a v:Tx):addE (l++ [(dn,bs,())]) a v=l++ [(dn,addA bs a v,())]:=by simp[addE]
theorem runL_pairs: ∀(ps:List (Tx×Tx)) (n:Nat) (rest:Tx) (l:List TEntry) (dn:Tx) (bs:List TAttr),(∀p∈ps,tyL p.1=true)→(ps.flatMap (fun p=>lineL p.1 p.2)++rest).length≤n→ ∃m,rest.length≤m∧runL n false (ps.flatMap (fun p=>lineL p.1 p.2)++rest) (l++ [(dn,bs,())])=runL m false rest (l++ [(dn,runA bs ps,())])
 | [],n,rest,l,dn,bs,_,hn=>⟨n,by simpa using hn,by simp[runA]⟩
 |p::ps,n,rest,l,dn,bs,h,hn=>by
  rw[List.flatMap_cons,List.append_assoc]at hn⊢
  obtain⟨m,h1,h2⟩:=runL_add n p.1 p.2 (ps.flatMap (fun p=>lineL p.1 p.2)++rest) (l++ [(dn,bs,())]) (h p List.mem_cons_self) hn
  rw[addE_last]at h2
  obtain⟨k,h3,h4⟩:=runL_pairs ps m rest l dn (addA bs p.1 p.2) (fun q hq=>h q (List.mem_cons_of_mem _ hq)) h1
  exact⟨k,h3,by rw[h2,h4];rfl⟩
theorem runL_one (e:TEntry) (n:Nat) (rest:Tx) (l:List TEntry) (h:badE e=false) (hn:(oneL e++rest).length≤n): ∃m,rest.length≤m∧runL n true (oneL e++rest) l=runL m false rest (l++ [grpE e]):=by
 unfold badE at h
 rw[Bool.or_eq_false_iff]at h
 unfold oneL at hn⊢
 rw[List.append_assoc]at hn⊢
 obtain⟨m,h1,h2⟩:=runL_new n e.1 (attL e.2.1++rest) l hn
 rw[attL_pairs]at h1 h2⊢
 obtain⟨k,h3,h4⟩:=runL_pairs (pairsL e.2.1) m rest l e.1 [] (fun p hp=>by
  obtain⟨a,ha,hp⟩:=List.mem_flatMap.1 hp
  obtain⟨v,hv,rfl⟩:=List.mem_map.1 hp
  have:=List.any_eq_false.1 h.2 a ha
  simpa using this) h1
 exact⟨k,h3,by rw[h2,h4];rfl⟩
theorem oneL_ne (e:TEntry):oneL e≠ []:=by
 obtain⟨t,ht,h1,h2⟩:=lineL_one dnT e.1 (by decide)
 unfold oneL;rw[ht];simp
theorem join_consL (z:Tx) (q:List Tx) (h:q≠ []):Lib.join (z::q) [10]=z++10::Lib.join q [10]:=by
 cases q with
 |nil=>exact absurd rfl h
 |cons a b=>simp[Lib.join,List.intercalate,List.intersperse_cons_cons,List.flatten_cons]
theorem join_neL (e:TEntry) (es:List TEntry):Lib.join ((e::es).map oneL) [10]≠ []:=by
 have:=oneL_ne e
 cases es with
 |nil=>rw[List.map_singleton,Lib.join_one];exact this
 |cons a b=>rw[List.map_cons,join_consL _ _ (by simp)];simp[this]
theorem runL_all: ∀(es:List TEntry) (e:TEntry) (n:Nat) (l:List TEntry),(e::es).any badE=false→(Lib.join ((e::es).map oneL) [10]).length≤n→runL n true (Lib.join ((e::es).map oneL) [10]) l=some (l++(e::es).map grpE)
 | [],e,n,l,h,hn=>by
  rw[List.map_singleton,Lib.join_one]at hn⊢
  have hb:badE e=false:=by simpa using h
  obtain⟨m,h1,h2⟩:=runL_one e n [] l hb (by rw[List.append_nil];exact hn)
  rw[List.append_nil]at h2
  rw[h2,runL_nil];rfl
 |e2::es,e,n,l,h,hn=>by
  rw[List.any_cons,Bool.or_eq_false_iff]at h
  rw[List.map_cons,join_consL _ _ (by simp)]at hn⊢
  obtain⟨m,h1,h2⟩:=runL_one e n _ l h.1 hn
  obtain⟨k,h3,h4⟩:=runL_gap m _ (l++ [grpE e]) (join_neL e2 es) h1
  rw[h2,h4,runL_all es e2 k _ h.2 h3];simp
theorem last_split {α:Type} (l:List α) (x:α) (h:l.getLast? =some x): ∃l',l=l'++ [x]:=by
 rw[List.getLast?_eq_some_iff]at h;exact h
theorem none_nil {α:Type} (l:List α) (h:l.getLast? =none):l= []:=by simpa using h
theorem addA_cases (bs:List TAttr) (a v:Tx):(bs= []∧addA bs a v= [(a,[v],())])∨(∃b' vs,bs=b'++ [(a,vs,())]∧addA bs a v=b'++ [(a,vs++ [v],())])∨ ∃b' ty vs,ty≠a∧bs=b'++ [(ty,vs,())]∧addA bs a v=bs++ [(a,[v],())]:=by
 unfold addA
 cases hb:bs.getLast? with
 |none=>exact .inl ⟨none_nil bs hb,rfl⟩
 |some y=>
  obtain⟨ty,vs,_⟩:=y
  obtain⟨b',rfl⟩:=last_split bs _ hb
  dsimp only
  split
  ·rename_i e;subst e;exact .inr (.inl ⟨b',vs,rfl,by simp⟩)
  ·rename_i e;exact .inr (.inr ⟨b',ty,vs,e,rfl,rfl⟩)
theorem attL_app (p q:List TAttr):attL (p++q)=attL p++attL q:=by unfold attL;rw[List.flatMap_append]
theorem attL_sing (a:Tx) (vs:List Tx):attL [(a,vs,())]=vs.flatMap (lineL a):=by unfold attL valL;simp
theorem attL_add (bs:List TAttr) (a v:Tx):attL (addA bs a v)=attL bs++lineL a v:=by
 rcases addA_cases bs a v with⟨rfl,h⟩|⟨b',vs,rfl,h⟩|⟨b',ty,vs,hne,rfl,h⟩<;>rw[h]
 ·rw[attL_sing];simp[attL]
 ·rw[attL_app,attL_app,attL_sing,attL_sing];simp
 ·rw[attL_app,attL_sing];simp
theorem attL_run: ∀(ps:List (Tx×Tx)) (bs:List TAttr),attL (runA bs ps)=attL bs++ps.flatMap fun p=>lineL p.1 p.2
 | [],bs=>by simp[runA]
 |p::ps,bs=>by
  have:=attL_run ps (addA bs p.1 p.2)
  rw[attL_add]at this
  rw[List.flatMap_cons,←List.append_assoc,←this];rfl
theorem oneL_grp (e:TEntry):oneL (grpE e)=oneL e:=by
 unfold oneL grpE;dsimp only;rw[attL_run,attL_pairs e.2.1];simp[attL]
def nbL (bs:List TAttr):Prop:= ∀j (h:j+1<bs.length),bs[j+1].1≠bs[j].1
theorem nb_add (bs:List TAttr) (a v:Tx) (h:nbL bs):nbL (addA bs a v):=by
 rcases addA_cases bs a v with⟨rfl,e⟩|⟨b',vs,rfl,e⟩|⟨b',ty,vs,hne,rfl,e⟩<;>rw[e]
 ·intro j hj;simp at hj
 ·intro j hj
  have hj2:j+1<(b'++ [(a,vs,())]).length:=by simp at hj⊢;omega
  have:=h j hj2
  have fst: ∀i (h1:i<(b'++ [(a,vs++ [v],())]).length) (h2:i<(b'++ [(a,vs,())]).length),(b'++ [(a,vs++ [v],())])[i].1=(b'++ [(a,vs,())])[i].1:=fun i h1 h2=>by
   by_cases hi:i<b'.length
   ·rw[List.getElem_append_left hi,List.getElem_append_left hi]
   ·have:i=b'.length:=by simp at h1;omega
    subst this;simp
  rw[fst (j+1) hj hj2,fst j (by omega) (by omega)];exact this
 ·intro j hj
  by_cases h1:j+1<(b'++ [(ty,vs,())]).length
  ·rw[List.getElem_append_left h1,List.getElem_append_left (show j<(b'++ [(ty,vs,())]).length by omega)];exact h j h1
  ·have hj3:j=b'.length:=by simp at hj h1;omega
   subst hj3
   rw[List.getElem_append_left (by simp:b'.length<(b'++ [(ty,vs,())]).length),List.getElem_append_right (by simp)]
   simp;exact fun e=>hne e.symm
theorem nb_run: ∀(ps:List (Tx×Tx)) (bs:List TAttr),nbL bs→nbL (runA bs ps)
 | [],_,h=>h
 |p::ps,bs,h=>nb_run ps _ (nb_add bs p.1 p.2 h)
theorem nb_grp (e:TEntry):nbL (grpE e).2.1:=nb_run _ [] (fun j hj=>by simp at hj)
theorem mem_add (bs:List TAttr) (a v:Tx) (h: ∀b∈bs,tyL b.1=true∧b.2.1≠ []) (ha:tyL a=true): ∀b∈addA bs a v,tyL b.1=true∧b.2.1≠ []:=by
 rcases addA_cases bs a v with⟨rfl,e⟩|⟨b',vs,rfl,e⟩|⟨b',ty,vs,hne,rfl,e⟩<;>rw[e]<;>intro b hb
 ·rw[List.mem_singleton.1 hb];exact⟨ha,by simp⟩
 ·rcases List.mem_append.1 hb with hb|hb
  ·exact h b (List.mem_append_left _ hb)
  ·rw[List.mem_singleton.1 hb];exact⟨ha,by simp⟩
 ·rcases List.mem_append.1 hb with hb|hb
  ·exact h b hb
  ·rw[List.mem_singleton.1 hb];exact⟨ha,by simp⟩
theorem mem_run: ∀(ps:List (Tx×Tx)) (bs:List TAttr),(∀p∈ps,tyL p.1=true)→(∀b∈bs,tyL b.1=true∧b.2.1≠ [])→ ∀b∈runA bs ps,tyL b.1=true∧b.2.1≠ []
 | [],_,_,h=>h
 |p::ps,bs,hp,h=>mem_run ps _ (fun q hq=>hp q (List.mem_cons_of_mem _ hq)) (mem_add bs p.1 p.2 h (hp p List.mem_cons_self))
theorem pairs_ty (e:TEntry) (h:badE e=false): ∀p∈pairsL e.2.1,tyL p.1=true:=fun p hp=>by
 unfold badE at h
 rw[Bool.or_eq_false_iff]at h
 obtain⟨a,ha,hp⟩:=List.mem_flatMap.1 hp
 obtain⟨v,hv,rfl⟩:=List.mem_map.1 hp
 have:=List.any_eq_false.1 h.2 a ha
 simpa using this
theorem grp_good (e:TEntry) (h:badE e=false):badE (grpE e)=false∧noV (grpE e)=false:=by
 have hm:=mem_run (pairsL e.2.1) [] (pairs_ty e h) (fun b hb=>by cases hb)
 unfold badE at h⊢
 unfold noV grpE
 rw[Bool.or_eq_false_iff]at h⊢
 refine⟨⟨h.1,List.any_eq_false.2 fun b hb=>by simp[(hm b hb).1]⟩,List.any_eq_false.2 fun b hb=>by simp[(hm b hb).2]⟩
theorem chkL_iff (l:List TEntry):chkL l=0↔l.length≤1024∧l.any badE=false∧l.any noV=false:=by
 unfold chkL
 constructor
 ·intro h
  split at h
  ·omega
  split at h
  ·omega
  split at h
  ·omega
  ·rename_i h1 h2 h3;exact⟨by omega,by simpa using h2,by simpa using h3⟩
 ·rintro⟨h1,h2,h3⟩
  rw[if_neg (by omega),if_neg (by rw[h2];simp),if_neg (by rw[h3];simp)]
theorem put_then (l:List TEntry) (h:chkL l=0):readL (putL l).1=(l.map grpE,0)∧putL (l.map grpE)=((putL l).1,0)∧putL l=((putL l).1,0):=by
 obtain⟨h1,h2,h3⟩:=(chkL_iff l).1 h
 have hp:putL l=(Lib.join (l.map oneL) [10],0):=by unfold putL;rw[if_neg (not_not_intro h)]
 have hm:(l.map grpE).map oneL=l.map oneL:=by rw[List.map_map];exact List.map_congr_left fun e _=>oneL_grp e
 have hc:chkL (l.map grpE)=0:=(chkL_iff _).2 ⟨by simpa using h1,by
  rw[List.any_map,List.any_eq_false];intro e he
  have:=List.any_eq_false.1 h2 e he
  simp[(grp_good e (by simpa using this)).1],by
  rw[List.any_map,List.any_eq_false];intro e he
  have:=List.any_eq_false.1 h2 e he
  simp[(grp_good e (by simpa using this)).2]⟩
 rw[hp]
 refine⟨?_,by unfold putL;rw[if_neg (not_not_intro hc),hm],rfl⟩
 unfold readL
 cases l with
 |nil=>rfl
 |cons e es=>rw[runL_all es e _ [] h2 (Nat.le_refl _)];dsimp only[List.nil_append];rw[if_pos hc]
theorem valR_back (t a v:Tx) (h:valR t=(a,v,true)):lineL a v=t++ [10]:=by
 unfold valR at h
 split at h
 ·have h1:=congrArg (fun x=>x.1) h
  have h2:=congrArg (fun x=>x.2.1) h
  have h3:=congrArg (fun x=>x.2.2) h
  dsimp only at h1 h2 h3
  rw[ξa,beq_iff_eq]at h3
  rw[←h1,←h2];exact h3.2
 ·exact absurd (congrArg (fun x=>x.2.2) h) (by simp)
def sofar (f:Bool) (l:List TEntry):Tx:=if l= []then []else if f=true then Lib.join (l.map oneL) [10]++ [10]else Lib.join (l.map oneL) [10]
theorem join_last (l:List TEntry) (e:TEntry):Lib.join ((l++ [e]).map oneL) [10]=sofar true l++oneL e:=by
 unfold sofar
 rw[List.map_append,List.map_singleton]
 split
 ·rename_i h;subst h;simp[Lib.join_one]
 ·rename_i h
  rw[join_snocL _ _ (by simpa using h),if_pos rfl]
theorem runL_back (S:Nat) (s:Tx) (hS:s.length=S): ∀(n:Nat) (f:Bool) (r:Tx) (l x:List TEntry),r.length≤S→BdL S l (S-r.length)→s=sofar f l++r→(f=true→l≠ []→r≠ [])→(f=false→l≠ [])→runL n f r l=some x→s=Lib.join (x.map oneL) [10]∧BdL S x S:=by
 have fin: ∀(f:Bool) (l x:List TEntry) (r:Tx),r= []→BdL S l (S-r.length)→s=sofar f l++r→(f=true→l≠ []→r≠ [])→some l=some x→s=Lib.join (x.map oneL) [10]∧BdL S x S:=by
  intro f l x r hr hb hs h1 he
  cases he
  subst hr
  refine⟨?_,hb.up (by simp)⟩
  rw[hs,List.append_nil]
  unfold sofar
  split
  ·rename_i h;subst h;rfl
  ·rename_i h
   cases f with
   |true=>exact absurd rfl (h1 rfl h)
   |false=>rw[if_neg (by simp)]
 intro n
 induction n with
 |zero=>
  intro f r l x hr hb hs h1 h2 h
  rw[runL]at h
  split at h
  ·rename_i e;exact fin f l x r e hb hs h1 h
  ·cases h
 |succ n ih=>
  intro f r l x hr hb hs h1 h2 h
  rw[runL]at h
  split at h
  ·rename_i e;exact fin f l x r e hb hs h1 h
  split at h
  ·cases h
  rename_i hr0 hc
  have hsp:=cutB_split 10 r (by simpa using hc)
  have hlen:=congrArg List.length hsp
  simp only[ξA,ξC]at hlen
  rcases hcut:cutB 10 r with⟨t,rest,b⟩
  rw[hcut]at h hsp hlen
  dsimp only at h hsp hlen
  split at h
  ·rename_i hg
   obtain⟨g1,g2,g3⟩:=hg
   subst g2;subst g1
   refine ih true rest l x (by omega) (hb.up (by omega)) ?_ (fun _ _=>g3) (fun e=>by cases e) h
   rw[hs,hsp]
   unfold sofar
   rw[if_neg (h2 rfl),if_neg (h2 rfl),if_neg (by simp),if_pos rfl];simp
  split at h
  ·cases h
  rename_i hng hv
  rcases hval:valR t with⟨a,v,ok⟩
  have hvl:=valR_len t
  rw[hval]at h hv hvl
  dsimp only at h hv hvl
  have hok:ok=true:=by revert hv;cases ok<;>simp
  subst hok
  have hfa:f=decide (a=dnT):=by
   by_cases e:f=decide (a=dnT)
   ·exact e
   ·exact absurd (Or.inr e) hv
  have hln:=valR_back t a v hval
  split at h
  ·rename_i hf
   subst hf
   have ha:a=dnT:=of_decide_eq_true hfa.symm
   subst ha
   refine ih false rest _ x (by omega) ((hb.new v (by omega)).up (by omega)) ?_ (fun e=>by cases e) (fun _=>by simp) h
   rw[hs,hsp]
   conv=>rhs;unfold sofar
   rw[if_neg (by simp),if_neg (by simp),join_last]
   unfold oneL
   dsimp only
   rw[hln];simp[attL]
  ·rename_i hf
   have hf:f=false:=by simpa using hf
   subst hf
   have hl0:=h2 rfl
   obtain⟨l',⟨dn,bs,u⟩,rfl⟩: ∃l' e,l=l'++ [e]:=⟨l.dropLast,l.getLast hl0,(List.dropLast_concat_getLast hl0).symm⟩
   rw[addE_last]at h
   have hb':=hb.add a v (by omega) (by omega)
   rw[addE_last]at hb'
   refine ih false rest _ x (by omega) (hb'.up (by omega)) ?_ (fun e=>by cases e) (fun _=>by simp) h
   rw[hs,hsp]
   unfold sofar
   rw[if_neg (by simp),if_neg (by simp),if_neg (by simp),if_neg (by simp),join_last,join_last]
   unfold oneL
   dsimp only
   rw[attL_add,hln];simp
theorem read_then (s:Tx):(∃x,readL s=(x,0)∧putL x=(s,0)∧BdL s.length x s.length)∨readL s=([],5):=by
 cases hr:runL s.length true s []with
 |none=>exact .inr (by unfold readL;rw[hr])
 |some x=>
  by_cases hc:chkL x=0
  ·obtain⟨h1,h2⟩:=runL_back s.length s rfl s.length true s [] x (Nat.le_refl _) ⟨by simp,fun e he=>by cases he⟩ (by unfold sofar;simp) (fun _ e=>absurd rfl e) (fun e=>by cases e) hr
   exact .inl ⟨x,by unfold readL;rw[hr];dsimp only;rw[if_pos hc],by unfold putL;rw[if_neg (not_not_intro hc),←h1],h2⟩
  ·exact .inr (by unfold readL;rw[hr];dsimp only;rw[if_neg hc])
theorem BdL.sm {S k:Nat} {l:List TEntry} (h:BdL S l k) (hS:S≤2000) (hk:k≤2000):smL l:=fun e he=>⟨by have:=(h.2 e he).1;omega,by have:=(h.2 e he).2.1;omega,fun a ha=>⟨by have:=((h.2 e he).2.2 a ha).1;omega,by have:=((h.2 e he).2.2 a ha).2.1;omega,fun v hv=>by have:=((h.2 e he).2.2 a ha).2.2 v hv;omega⟩⟩
theorem fmc_len {α β:Type} (f:α→List β) (B:Nat): ∀l:List α,(∀x∈l,(f x).length≤B)→(l.flatMap f).length≤l.length*B
 | [],_=>by simp
 |x::l,h=>by
  have h1:=h x List.mem_cons_self
  have ih:=fmc_len f B l (fun y hy=>h y (List.mem_cons_of_mem _ hy))
  simp only[List.flatMap_cons,ξA,ξC,Nat.add_mul,Nat.one_mul];omega
theorem bd_run (S:Nat) (dn:Tx): ∀(ps:List (Tx×Tx)) (bs:List TAttr) (k:Nat),(∀p∈ps,p.1.length≤S∧p.2.length≤S)→BdL S [(dn,bs,())] k→BdL S [(dn,runA bs ps,())] (k+ps.length)
 | [],_,_,_,h=>h
 |p::ps,bs,k,hp,h=>by
  have h1:=h.add p.1 p.2 (hp p List.mem_cons_self).1 (hp p List.mem_cons_self).2
  rw[show addE [(dn,bs,())] p.1 p.2= [(dn,addA bs p.1 p.2,())]from addE_last [] dn bs p.1 p.2]at h1
  exact(bd_run S dn ps _ _ (fun q hq=>hp q (List.mem_cons_of_mem _ hq)) h1).up (by simp only[ξC];omega)
theorem few_at {l:List TEntry} (h:fewL l=true) (e:TEntry) (he:e∈l):e.1.length≤300∧e.2.1.length≤12∧ ∀a∈e.2.1,a.1.length≤80∧a.2.1.length≤8∧ ∀v∈a.2.1,v.length≤300:=by
 unfold fewL at h
 rw[ξa]at h
 have h1:=List.all_eq_true.1 h.2 e he
 unfold fewE at h1
 rw[ξa,ξe]at h1
 refine⟨h1.1.1,h1.1.2,fun a ha=> ?_⟩
 have h2:=List.all_eq_true.1 h1.2 a ha
 unfold fewA at h2
 rw[ξa,ξe]at h2
 exact⟨h2.1.1,h2.1.2,fun v hv=>of_decide_eq_true (List.all_eq_true.1 h2.2 v hv)⟩
theorem grp_sm {l:List TEntry} (h:fewL l=true):smL (l.map grpE):=by
 intro e' he'
 obtain⟨e,he,rfl⟩:=List.mem_map.1 he'
 obtain⟨h1,h2,h3⟩:=few_at h e he
 have hp: ∀p∈pairsL e.2.1,p.1.length≤300∧p.2.length≤300:=fun p hp=>by
  obtain⟨a,ha,hp⟩:=List.mem_flatMap.1 hp
  obtain⟨v,hv,rfl⟩:=List.mem_map.1 hp
  exact⟨by have:=(h3 a ha).1;show a.1.length≤300;omega,(h3 a ha).2.2 v hv⟩
 have hn:(pairsL e.2.1).length≤96:=by
  have:(pairsL e.2.1).length≤e.2.1.length*8:=fmc_len (fun a:TAttr=>a.2.1.map fun v=>(a.1,v)) 8 e.2.1 (fun a ha=>by rw[List.length_map];exact(h3 a ha).2.1)
  omega
 have hb:=bd_run 300 e.1 (pairsL e.2.1) [] 1 hp ⟨by simp,fun x hx=>by rw[List.mem_singleton.1 hx];exact⟨h1,by simp,fun a ha=>by cases ha⟩⟩
 exact hb.sm (by omega) (by omega) (grpE e) (List.mem_singleton.2 rfl)
theorem few_len {l:List TEntry} (h:fewL l=true):(putL l).1.length≤1000000:=by
 unfold putL
 split
 ·simp
 rename_i hc
 have h1:=(chkL_iff l).1 (by simpa using hc)
 have hl:l.length≤10:=by
  unfold fewL at h
  rw[ξa,ξe]at h
  omega
 have hj:=join_len 68000 (l.map oneL) (fun x hx=>by
  obtain⟨e,he,rfl⟩:=List.mem_map.1 hx
  obtain⟨h1,h2,h3⟩:=few_at h e he
  have q1:=lineL_len dnT e.1
  have q2:=fm_len valL 5600 e.2.1 (fun a ha=>by
   have:=fm_len (lineL a.1) 700 a.2.1 (fun v hv=>by have:=lineL_len a.1 v;have:=(h3 a ha).2.2 v hv;have:=(h3 a ha).1;omega)
   have:=(h3 a ha).2.1
   unfold valL;omega)
  unfold oneL attL
  simp only[ξA,ξC,ξN]at q1⊢
  omega)
 rw[List.length_map]at hj
 dsimp only
 omega
theorem back_casesL (l:List TEntry) (h:fewL l=true): ∃pa pe m f,putL l=(pa,pe)∧readL pa=(m,f)∧pa.length≤1000000∧(pe=0→f=0∧m.length=l.length∧putL m=(pa,0)∧smL m∧ ∀i (hi:i<m.length),nbL m[i].2.1):=by
 have hl:=few_len h
 by_cases hc:chkL l=0
 ·obtain⟨h1,h2,h3⟩:=put_then l hc
  refine⟨(putL l).1,0,_,0,h3,h1,hl,fun _=>⟨rfl,by simp,h2,grp_sm h,fun i hi=> ?_⟩⟩
  obtain⟨e,_,he⟩:=List.mem_map.1 (List.getElem_mem hi)
  rw[←he];exact nb_grp e
 ·have hp:putL l=([],chkL l):=by unfold putL;rw[if_pos hc]
  exact⟨[],chkL l,(readL []).1,(readL []).2,hp,rfl,by simp,fun e=>absurd e hc⟩
theorem few_ll {l:List TEntry} (h:fewL l=true):l.length≤1100:=by
 unfold fewL at h
 rw[ξa,ξe]at h
 omega
theorem forth_casesL (s:Tx) (hs:s.length≤1500): ∃x g t h,readL s=(x,g)∧putL x=(t,h)∧smL x∧((g=0∧t=s∧h=0)∨(g=5∧x= [])):=by
 rcases read_then s with⟨x,h1,h2,h3⟩|h
 ·exact⟨x,0,s,0,h1,h2,h3.sm (by omega) (by omega),.inl ⟨rfl,rfl,rfl⟩⟩
 ·exact⟨[],5,_,_,h,rfl,(fun e he=>by cases he),.inr ⟨rfl,rfl⟩⟩
def tabLe5:Tabs:=addQ (addQ (addQ (addQ (addQ (noTabs) 13 (viaNN lputG)) 17 lreadG) 11 (viaNN fewLG)) 14 (viaNN lputRG)) 12 awake34G
theorem tabLe5_ok:SsOk Tryd.prog tabLe5:=addQ_ok (addQ_ok (addQ_ok (addQ_ok (addQ_ok (noTabs_ok) (G_enters G_ok (p:=i13) rfl) (viaNN_ok lputG_ok)) (G_enters G_ok (p:=i17) rfl) lreadG_ok) (G_enters G_ok (p:=i11) rfl) (viaNN_ok fewLG_ok)) (G_enters G_ok (p:=i14) rfl) (viaNN_ok lputRG_ok)) (G_enters G_ok (p:=i12) rfl) awake34G_ok
theorem tabLe5_q13 (a:List D):tabLe5.q 13 a=viaNN lputG a:=rfl
theorem tabLe5_q17 (a:List D):tabLe5.q 17 a=lreadG a:=rfl
theorem tabLe5_q11 (a:List D):tabLe5.q 11 a=viaNN fewLG a:=rfl
theorem tabLe5_q14 (a:List D):tabLe5.q 14 a=viaNN lputRG a:=rfl
theorem tabLe5_q12 (a:List D):tabLe5.q 12 a=awake34G a:=rfl
theorem tabLe5_r (f:FuncId) (a:List D) (o:List Ob):tabLe5.r f a o=none:=rfl
theorem tabLe5_k (f:FuncId) (a:List D) (o:List Ob):tabLe5.k f a o=none:=rfl
set_option maxHeartbeats 4000000 in
theorem ldifBack_c (l:List TEntry) (s:Tx):PCalls Tryd.prog 5 [.x (.sl (rows rEntry l)),.x (.str s)] (.x (.bool true)):=by
 refine FCalls.pure (fcallsG (fz:=true) G_ok (p:=i5) rfl _ (ξ rfl) _ (fun C0 E0=> ?_)) rfl
 dsimp only[i5,qt,qi,qs,qb,qm,qa,qh,qj,qT,qF,qe,ql,qL,qf,q2,q3,q8,qz,qp,qP,qc,qk,qx,qy,qo,qr,qC,argsφ]
 have uu:=ξn @lputG.eq_1 (ξn @lputG.eq_2 (ξn @lreadG.eq_1 (ξn @lreadG.eq_2 (ξn @fewLG.eq_1 (ξn @fewLG.eq_2 (ξn @lputRG.eq_1 (ξn @lputRG.eq_2 (ξn @awake34G.eq_1 (ξn @awake34G.eq_2 (ξn @tabLe5_r (ξn @tabLe5_k (ξn @tabLe5_q11 (ξn @tabLe5_q12 (ξn @tabLe5_q13 (ξn @tabLe5_q14 (@tabLe5_q17))))))))))))))))
 have tT:=tabLe5_ok
 refine nz ?_
 refine WI.regB tT [0,1] ?_
 refine oS ?_
 refine oN ?_
 refine nz ?_
 refine WI.regB tT [0,1,24] ?_
 refine oS ?_
 refine oC (hok:=by first|exact se|(clear uu;grind)|exact sd) ?_
 refine oG (hok:=by first|exact se|(clear uu;grind)|exact sd) ?_
 refine oS ?_
 iterate 4 refine oG (hok:=by first|exact se|(clear uu;grind)|exact sd) ?_
 refine oN ?_
 refine nz ?_
 refine cd (fun h0=> ?_) (fun h0=> ?_)
 ·refine WI.regB tT [4] ?_
  refine oC (hok:=by first|exact se|(clear uu;grind)|exact sd) ?_
  refine oS ?_
  refine oN ?_
  refine nz ?_
  refine lf ?_
  first|rfl|exact⟨rfl,rfl⟩|trivial
 ·have hfw:fewL l=true:=by clear uu;grind
  have hsl:s.length≤1500:=by clear uu;grind
  obtain⟨pa,pe,m,f,q1,q2,q3,q4⟩:=back_casesL l hfw
  obtain⟨x,g,t,hh,p1,p2,p3,p4⟩:=forth_casesL s hsl
  have uu:=ξn uu (ξn (ξt (fewL_sm hfw)) (ξn q1 (ξn q2 (ξn p1 (ξn p2 (ξn (ξt p3) (ξn (ξt q3) (ξt (show s.length≤1000000 by omega)))))))))
  refine WI.regB tT [0,1,5,6] ?_
  refine oS ?_
  refine oC (hok:=by first|exact se|(clear uu;grind)|exact sd) ?_
  refine oS ?_
  iterate 2 refine oG ?_
  iterate 2 refine oS ?_
  refine oN ?_
  refine nz ?_
  refine WI.regB tT [0,1,5,6,7,8] ?_
  refine oS ?_
  refine oC (hok:=by first|exact se|(clear uu;grind)|exact sd) ?_
  refine oS ?_
  iterate 2 refine oG ?_
  iterate 2 refine oS ?_
  refine oN ?_
  refine nz ?_
  refine WI.regB tT [0,1,5,6,7,8,9,10] ?_
  refine oS ?_
  refine oC (hok:=by first|exact se|(clear uu;grind)|exact sd) ?_
  refine oS ?_
  iterate 2 refine oG ?_
  iterate 2 refine oS ?_
  refine oN ?_
  refine nz ?_
  refine WI.regB tT [0,1,5,6,7,8,9,10,11,12] ?_
  refine oS ?_
  refine oC (hok:=by first|exact se|(clear uu;grind)|exact sd) ?_
  refine oS ?_
  iterate 2 refine oG ?_
  iterate 2 refine oS ?_
  refine oN ?_
  refine nz ?_
  refine WI.regB tT [0,1,5,7,8,9,10,11,12,47] ?_
  refine oS ?_
  refine oG (hok:=by first|exact se|(clear uu;grind)|exact sd) ?_
  refine oN ?_
  refine nz ?_
  refine cd (fun h1=> ?_) (fun h1=> ?_)
  ·have hpe:pe=0:=by clear uu;grind
   obtain⟨z1,z2,z3,z4,z5⟩:=q4 hpe
   have hml:m.length≤1100:=by rw[z2];exact few_ll hfw
   have uu:=ξn uu (ξn z3 (ξt z4))
   refine WI.regB tT [0,1,5,7,8,9,10,11,12,13,14] ?_
   refine oS ?_
   refine oC (hok:=by first|exact se|(clear uu;grind)|exact sd) ?_
   refine oS ?_
   iterate 2 refine oG ?_
   iterate 2 refine oS ?_
   refine oN ?_
   refine nz ?_
   refine WI.regB tT [1,7,9,10,11,12,70] ?_
   refine oS ?_
   refine oG (hok:=by first|exact se|(clear uu;grind)|exact sd) ?_
   refine oS ?_
   iterate 6 refine oG (hok:=by first|exact se|(clear uu;grind)|exact sd) ?_
   refine oS ?_
   iterate 4 refine oG (hok:=by first|exact se|(clear uu;grind)|exact sd) ?_
   refine oS ?_
   iterate 3 refine oG (hok:=by first|exact se|(clear uu;grind)|exact sd) ?_
   refine oN ?_
   refine nz ?_
   refine cd (fun h2=> ?_) (fun h2=> ?_)
   ·refine WI.regB tT [4] ?_
    refine oS ?_
    refine oN ?_
    refine nz ?_
    refine lf ?_
    exfalso;clear uu;grind
   ·refine WI.regB tT [1,7,9,10,11,12,15] ?_
    refine oS ?_
    refine oN ?_
    refine nz ?_
    refine WI.loop (fun φ os=> ∃(i:Nat),φ= [(1,.x (.str s)),(7,.x (.sl (rows rEntry m))),(9,.x (.sl (rows rEntry x))),(10,.x (.int .i64 g)),(11,.x (.str t)),(12,.x (.int .i64 hh)),(15,.x (.int .i64 i))]∧os= []∧i≤m.length) (down m.length 15) ?_ (fun φ os hI=> ?_)
    ·exact⟨0,rfl,rfl,by omega⟩
    ·obtain⟨i,rfl,rfl,hi⟩:=hI
     refine nz ?_
     refine WI.regB tT [1,7,9,10,11,12,15,74] ?_
     iterate 2 refine oS ?_
     iterate 2 refine oG (hok:=by first|exact se|(clear uu;grind)|exact sd) ?_
     refine oN ?_
     refine nz ?_
     refine cd (fun h3=> ?_) (fun h3=> ?_)
     ·have hi4:i<m.length:=by omega
      have hnb:=z5 i hi4
      have hsm:=(z4 _ (List.getElem_mem hi4)).2.1
      refine WI.regB tT [1,7,9,10,11,12,15,16] ?_
      refine oS ?_
      refine oN ?_
      refine nz ?_
      refine WI.loop (fun φ os=> ∃(k:Nat),φ= [(1,.x (.str s)),(7,.x (.sl (rows rEntry m))),(9,.x (.sl (rows rEntry x))),(10,.x (.int .i64 g)),(11,.x (.str t)),(12,.x (.int .i64 hh)),(15,.x (.int .i64 i)),(16,.x (.int .i64 (k+1:Nat)))]∧os= []∧k≤m[i].2.1.length) (down m[i].2.1.length 16) ?_ (fun φ os hI=> ?_)
      ·exact⟨0,rfl,rfl,by omega⟩
      ·obtain⟨k,rfl,rfl,hk⟩:=hI
       refine nz ?_
       refine WI.regB tT [1,7,9,10,11,12,15,16,84] ?_
       iterate 3 refine oS ?_
       refine oG (hok:=by first|exact se|(clear uu;grind)|exact sd) ?_
       refine oS ?_
       iterate 3 refine oG (hok:=by first|exact se|(clear uu;grind)|exact sd) ?_
       refine oN ?_
       refine nz ?_
       refine cd (fun h4=> ?_) (fun h4=> ?_)
       ·have hk4:k+1<m[i].2.1.length:=by omega
        have hk5:k<m[i].2.1.length:=by omega
        have hki:(((k+1:Nat):Int)-1).toNat=k:=by omega
        have hne:=hnb k hk4
        refine WI.dregB tT [1,7,9,10,11,12,15,16,106] ?_
        iterate 2 refine dFS ?_
        refine dQG (hok:=by first|exact se|(clear uu;grind)|exact sd) ?_
        refine dFS ?_
        refine dQG (hok:=by first|exact se|(clear uu;grind)|exact sd) ?_
        refine dFS ?_
        refine dQG (hok:=by first|exact se|(clear uu;grind)|exact sd) ?_
        refine dFS ?_
        refine dQG (hok:=by first|exact se|(clear uu;grind)|exact sd) ?_
        iterate 2 refine dFS ?_
        refine dQG (hok:=by first|exact se|(clear uu;grind)|exact sd) ?_
        refine dFS ?_
        refine dQG (hok:=by first|exact se|(clear uu;grind)|exact sd) ?_
        refine dFS ?_
        refine dFG (hok:=by first|exact se|(clear uu;grind)|exact sd) ?_
        refine dQG (hok:=by first|exact se|(clear uu;grind)|exact sd) ?_
        refine dFS ?_
        refine dQG (hok:=by first|exact se|(clear uu;grind)|exact sd) ?_
        refine dFG (hok:=by first|exact se|(clear uu;grind)|exact sd) ?_
        refine dN ?_
        refine nz ?_
        refine cd (fun h5=> ?_) (fun h5=> ?_)
        ·refine WI.regB tT [4] ?_
         refine oS ?_
         refine oN ?_
         refine nz ?_
         refine lf ?_
         exfalso;first|exact hne h5|(clear uu;grind)
        ·refine WI.regB tT [1,7,9,10,11,12,15,16] ?_
         refine oS ?_
         refine oG (hok:=by first|exact se|(clear uu;grind)|exact sd) ?_
         refine oS ?_
         refine oN ?_
         refine nz ?_
         exact⟨⟨k+1,rfl,rfl,by omega⟩,by simp[down,Ab.get,D.val,intOf?];omega⟩
       ·refine WI.regB tT [1,7,9,10,11,12,15] ?_
        refine oS ?_
        refine oG (hok:=by first|exact se|(clear uu;grind)|exact sd) ?_
        refine oS ?_
        refine oN ?_
        refine nz ?_
        exact⟨⟨i+1,rfl,rfl,by omega⟩,by simp[down,Ab.get,D.val,intOf?];omega⟩
     ·refine WI.regB tT [4] ?_
      refine oS ?_
      refine oG (hok:=by first|exact se|(clear uu;grind)|exact sd) ?_
      refine oS ?_
      iterate 4 refine oG (hok:=by first|exact se|(clear uu;grind)|exact sd) ?_
      refine oS ?_
      iterate 3 refine oG (hok:=by first|exact se|(clear uu;grind)|exact sd) ?_
      refine oS ?_
      iterate 8 refine oG (hok:=by first|exact se|(clear uu;grind)|exact sd) ?_
      refine oS ?_
      refine oC (hok:=by first|exact se|(clear uu;grind)|exact sd) ?_
      refine oG (hok:=by first|exact se|(clear uu;grind)|exact sd) ?_
      refine oS ?_
      refine oN ?_
      refine nz ?_
      refine lf ?_
      congr 2;rcases p4 with⟨w1,w2,w3⟩|⟨w1,w2⟩;(subst w1;subst w2;subst w3;simp);(subst w1;subst w2;simp)
  ·refine WI.regB tT [4] ?_
   refine oS ?_
   refine oG (hok:=by first|exact se|(clear uu;grind)|exact sd) ?_
   refine oS ?_
   iterate 4 refine oG (hok:=by first|exact se|(clear uu;grind)|exact sd) ?_
   refine oS ?_
   iterate 3 refine oG (hok:=by first|exact se|(clear uu;grind)|exact sd) ?_
   refine oS ?_
   iterate 8 refine oG (hok:=by first|exact se|(clear uu;grind)|exact sd) ?_
   refine oS ?_
   refine oC (hok:=by first|exact se|(clear uu;grind)|exact sd) ?_
   refine oG (hok:=by first|exact se|(clear uu;grind)|exact sd) ?_
   refine oS ?_
   refine oN ?_
   refine nz ?_
   refine lf ?_
   congr 2;rcases p4 with⟨w1,w2,w3⟩|⟨w1,w2⟩;(subst w1;subst w2;subst w3;simp);(subst w1;subst w2;simp)
end Go.Proofs.YtmlpbojoekmfaaaDoor
end
