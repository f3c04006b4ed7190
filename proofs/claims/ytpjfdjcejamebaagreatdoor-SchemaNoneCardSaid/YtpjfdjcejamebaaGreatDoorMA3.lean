import Derived.Test.YtpjfdjcejamebaaGreatDoorMA2
import Derived.Test.YtpjfdjcejamebaaGreatDoorLA5
import Derived.Test.YtpjfdjcejamebaaGreatDoorSh
import Derived.Sort.KeysCollected
import Derived.Test.YtpjfdjcejamebaaGreatDoorIc
import Derived.Shelf.Spec.SlicesGrow
import Derived.Test.YtpjfdjcejamebaaGreatDoorMA1
set_option linter.unusedSimpArgs false
set_option linter.unusedVariables false
section
namespace Go.Proofs.YtpjfdjcejamebaaGreatDoor
open Go.RowKit Go.Bo Go.Ab
abbrev TTyp:=Tx×(Int×(Bool×Unit))
abbrev rTyp:RC TTyp:=rCat rStr (rCat (rInt .i64) (rCat rBool rEnd))
theorem good_rTyp:rTyp.Good:=good_rCat good_rStr (good_rCat (good_rInt .i64) (good_rCat good_rBool good_rEnd))
abbrev TCls:=Tx×(List Tx×(List Tx×Unit))
abbrev rCls:RC TCls:=rCat rStr (rCat (rSl rStr) (rCat (rSl rStr) rEnd))
theorem good_rCls:rCls.Good:=good_rCat good_rStr (good_rCat (good_rSl good_rStr) (good_rCat (good_rSl good_rStr) good_rEnd))
def lowT (t:TTyp):TTyp:=(lowS t.1,t.2)
def lowC' (c:TCls):TCls:=(lowS c.1,c.2.1.map lowS,c.2.2.1.map lowS,())
def tyL (T:List TTyp):List (Tx×TTyp):=T.map fun t=>(lowS t.1,lowT t)
def clL (C:List TCls):List (Tx×TCls):=C.map fun c=>(lowS c.1,lowC' c)
def tyM (L:List (Tx×TTyp)):List Pr:=encM kcS rTyp.enc L
def clM (M:List (Tx×TCls)):List Pr:=encM kcS rCls.enc M
abbrev scO (L:List (Tx×TTyp)) (M:List (Tx×TCls)):List Ob:= [.box [.mref 1,.mref 2],.mpo .str true (tyM L),.mpo .str true (clM M)]
def tyV (L:List (Tx×TTyp)) (k:Tx):TTyp:=(mlook L k).getD ([],0,false,())
def clV (M:List (Tx×TCls)) (k:Tx):TCls:=(mlook M k).getD ([],[],[],())
def tyD (t:TTyp):D:= .agg [.x (.str t.1),.x (.int .i64 t.2.1),.x (.bool t.2.2.1)]
def clD (c:TCls):D:= .agg [.x (.str c.1),.x (.sl (rows rStr c.2.1)),.x (.sl (rows rStr c.2.2.1))]
theorem ty_get (L:List (Tx×TTyp)) (k:Tx):mgetX (tyM L) [X.str k]=(mlook L k).map fun t=> [.x (.str t.1),.x (.int .i64 t.2.1),.x (.bool t.2.2.1)]:=by
 unfold tyM
 rw[encM_get kcS rTyp.enc hkS L k]
 rfl
theorem cl_get (M:List (Tx×TCls)) (k:Tx):mgetX (clM M) [X.str k]=(mlook M k).map fun c=> [.x (.str c.1),.x (.sl (rows rStr c.2.1)),.x (.sl (rows rStr c.2.2.1))]:=by
 unfold clM
 rw[encM_get kcS rCls.enc hkS M k]
 rfl
theorem ty_set (L:List (Tx×TTyp)) (k:Tx) (t:TTyp):msetX (tyM L) [X.str k] [.x (.str t.1),.x (.int .i64 t.2.1),.x (.bool t.2.2.1)]=tyM (mset L k t):=encM_set kcS rTyp.enc hkS L k t
theorem cl_set (M:List (Tx×TCls)) (k:Tx) (c:TCls):msetX (clM M) [X.str k] [.x (.str c.1),.x (.sl (rows rStr c.2.1)),.x (.sl (rows rStr c.2.2.1))]=clM (mset M k c):=encM_set kcS rCls.enc hkS M k c
theorem ty_ren (f:Nat→Nat) (L:List (Tx×TTyp)):(tyM L).map (renP f)=tyM L:=encM_ren _ _ _ _
theorem cl_ren (f:Nat→Nat) (M:List (Tx×TCls)):(clM M).map (renP f)=clM M:=encM_ren _ _ _ _
theorem ty_ids (L:List (Tx×TTyp)):idsM (tyM L)= []:=encM_ids _ _ _
theorem cl_ids (M:List (Tx×TCls)):idsM (clM M)= []:=encM_ids _ _ _
theorem ty_all (p:Nat→Bool) (L:List (Tx×TTyp)):(tyM L).all (inPr p)=true:=encM_all _ _ _ _
theorem cl_all (p:Nat→Bool) (M:List (Tx×TCls)):(clM M).all (inPr p)=true:=encM_all _ _ _ _
theorem ty_on (ρ:List Nat) (os:List Ob) (L:List (Tx×TTyp)):(tyM L).map (mpP (onF ρ os))=tyM L:=encM_on _ _ _ _ _
theorem cl_on (ρ:List Nat) (os:List Ob) (M:List (Tx×TCls)):(clM M).map (mpP (onF ρ os))=clM M:=encM_on _ _ _ _ _
theorem un_ty (L:List (Tx×TTyp)):unM rStr rTyp (tyM L)=some L:=un_M good_rStr good_rTyp L
theorem un_cl (M:List (Tx×TCls)):unM rStr rCls (clM M)=some M:=un_M good_rStr good_rCls M
theorem scO_inP (L:List (Tx×TTyp)) (M:List (Tx×TCls)):(scO L M).all (Ob.inP (fun i=>decide (i<(scO L M).length)))=true:=by
 simp[Ob.inP,inL,D.inP,ty_all,cl_all]
def lowerYG:List D→Option (Bool×D)
 | [.x (.str s)]=>some (decide (s.length≤140737488355328),.x (.str (lowS s)))
 |_=>none
theorem lowerYG_ok: ∀args r,lowerYG args=some (true,r)→PCalls Tryz.prog 37 args r:=by
 intro args r h
 unfold lowerYG at h
 split at h
 ·rename_i s
  simp only[ξI,ξP,ξa,ξe,true_and]at h
  obtain⟨h1,rfl⟩:=h
  exact(lower_c s h1)
 ·cases h
def tabSm1:Tabs:=addQ (noTabs) 37 lowerYG
theorem tabSm1_ok:SsOk Tryz.prog tabSm1:=addQ_ok (noTabs_ok) (G_enters G_ok (p:=i37) rfl) lowerYG_ok
theorem tabSm1_q37 (a:List D):tabSm1.q 37 a=lowerYG a:=rfl
theorem tabSm1_r (f:FuncId) (a:List D) (o:List Ob):tabSm1.r f a o=none:=rfl
theorem tabSm1_k (f:FuncId) (a:List D) (o:List Ob):tabSm1.k f a o=none:=rfl
theorem find_c (L:List (Tx×TTyp)) (M:List (Tx×TCls)) (n:Tx) (hn:n.length≤140737488355328):MCalls Tryz.prog 36 [.ptr 0 0,.x (.str n)] (scO L M) (.tup [tyD (tyV L (lowS n)),.x (.bool (mlook L (lowS n)).isSome)]) (scO L M):=by
 have hg:=ty_get L (lowS n)
 have hO:=scO_inP L M
 unfold tyV
 rcases hm:mlook L (lowS n)with _|⟨a,k,b,u⟩
 ·rw[hm,Option.map_none]at hg
  refine FCalls.mcallsX (fcallsG (fz:=true) G_ok (p:=i36) rfl _ (ξ rfl) _ (fun C0 E0=> ?_)) (by first|decide|(simp;done)) hO (by first|rfl|exact hR)
  dsimp only[i36,qt,qi,qs,qb,qm,qa,qh,qj,qT,qF,qe,ql,qL,qf,q2,q3,q8,qz,qp,qP,qc,qk,qx,qy,qo,qr,qC,argsφ]
  have uu:=ξn @lowerYG.eq_1 (ξn @lowerYG.eq_2 (ξn hg (ξn @tabSm1_r (ξn @tabSm1_k (@tabSm1_q37)))))
  have tT:=tabSm1_ok
  refine nz ?_
  refine WI.regB tT [0,1,4] ?_
  refine oG ?_
  refine oS ?_
  refine oN ?_
  refine nz ?_
  refine WI.dregB tT [4,6,7] ?_
  iterate 3 refine dFS ?_
  refine dQG (hok:=by first|exact se|(exact ξt (by omega))|exact sd) ?_
  refine dFS ?_
  refine dQC (hok:=by first|exact se|(exact ξt (by omega))|exact sd) ?_
  refine dQG (hok:=by first|exact se|(exact ξt (by omega))|exact sd) ?_
  refine dFS ?_
  iterate 2 refine dFG ?_
  refine dKG ?_
  refine dAG (hok:=by first|exact se|(exact ξt (by omega))|exact sd) ?_
  refine dFS ?_
  refine dN ?_
  refine nz ?_
  refine WI.regB tT [4,5] ?_
  refine oG (hok:=by first|exact se|(exact ξt (by omega))|exact sd) ?_
  refine oS ?_
  refine oG (hok:=by first|exact se|(exact ξt (by omega))|exact sd) ?_
  refine oS ?_
  refine oN ?_
  refine nz ?_
  refine lf ?_
  exact⟨rfl,_,rfl⟩
 ·rw[hm,Option.map_some]at hg
  refine FCalls.mcallsX (fcallsG (fz:=true) G_ok (p:=i36) rfl _ (ξ rfl) _ (fun C0 E0=> ?_)) (by first|decide|(simp;done)) hO (by first|rfl|exact hR)
  dsimp only[i36,qt,qi,qs,qb,qm,qa,qh,qj,qT,qF,qe,ql,qL,qf,q2,q3,q8,qz,qp,qP,qc,qk,qx,qy,qo,qr,qC,argsφ]
  have uu:=ξn @lowerYG.eq_1 (ξn @lowerYG.eq_2 (ξn hg (ξn @tabSm1_r (ξn @tabSm1_k (@tabSm1_q37)))))
  have tT:=tabSm1_ok
  refine nz ?_
  refine WI.regB tT [0,1,4] ?_
  refine oG ?_
  refine oS ?_
  refine oN ?_
  refine nz ?_
  refine WI.dregB tT [4,6,7] ?_
  iterate 3 refine dFS ?_
  refine dQG (hok:=by first|exact se|(exact ξt (by omega))|exact sd) ?_
  refine dFS ?_
  refine dQC (hok:=by first|exact se|(exact ξt (by omega))|exact sd) ?_
  refine dQG (hok:=by first|exact se|(exact ξt (by omega))|exact sd) ?_
  refine dFS ?_
  iterate 2 refine dFG ?_
  refine dKG ?_
  refine dAG (hok:=by first|exact se|(exact ξt (by omega))|exact sd) ?_
  refine dFS ?_
  refine dN ?_
  refine nz ?_
  refine WI.regB tT [4,5] ?_
  refine oG (hok:=by first|exact se|(exact ξt (by omega))|exact sd) ?_
  refine oS ?_
  refine oG (hok:=by first|exact se|(exact ξt (by omega))|exact sd) ?_
  refine oS ?_
  refine oN ?_
  refine nz ?_
  refine lf ?_
  exact⟨rfl,_,rfl⟩
def findT:List D→List Ob→Option (Bool×D×List Ob)
 | [.ptr 0 0,.x (.str n)],[.box [.mref 1,.mref 2],.mpo .str true P1,.mpo .str true P2]=>(unM rStr rTyp P1).bind fun L=>(unM rStr rCls P2).bind fun M=>some (decide (n.length≤140737488355328),.tup [tyD (tyV L (lowS n)),.x (.bool (mlook L (lowS n)).isSome)],[.box [.mref 1,.mref 2],.mpo .str true (tyM L),.mpo .str true (clM M)])
 |_,_=>none
theorem findT_ok: ∀args os r os',findT args os=some (true,r,os')→MCalls Tryz.prog 36 args os r os':=by
 intro args os r os' h
 unfold findT at h
 split at h
 ·rename_i n P1 P2
  obtain⟨L,hm0,h⟩:=ξB h
  obtain⟨M,hm1,h⟩:=ξB h
  simp only[ξI,ξP,ξa,ξe,true_and]at h
  obtain⟨h1,rfl,rfl⟩:=h
  rw[unM_inv good_rStr good_rTyp hm0]
  rw[unM_inv good_rStr good_rCls hm1]
  exact find_c L M n h1
 ·cases h
def findrR:List D→List Ob→Option (Bool×D)
 | [.ptr 0 0,.x (.str n)],[.box [.mref 1,.mref 2],.mpo .str true P1,.mpo .str true P2]=>(unM rStr rTyp P1).bind fun L=>(unM rStr rCls P2).bind fun M=>some (decide (n.length≤140737488355328),.tup [tyD (tyV L (lowS n)),.x (.bool (mlook L (lowS n)).isSome)])
 |_,_=>none
theorem findrR_ok: ∀args os r,findrR args os=some (true,r)→r.clean=true∧ ∃X,MCalls Tryz.prog 36 args os r (os++X):=by
 intro args os r h
 unfold findrR at h
 split at h
 ·rename_i n P1 P2
  obtain⟨L,hm0,h⟩:=ξB h
  obtain⟨M,hm1,h⟩:=ξB h
  simp only[ξI,ξP,ξa,ξe,true_and]at h
  obtain⟨h1,rfl⟩:=h
  rw[unM_inv good_rStr good_rTyp hm0]
  rw[unM_inv good_rStr good_rCls hm1]
  exact⟨rfl,[],by rw[List.append_nil];exact find_c L M n h1⟩
 ·cases h
def tabSmR:Tabs:=addR (noTabs) 36 findrR
theorem tabSmR_ok:SsOk Tryz.prog tabSmR:=addR_ok (noTabs_ok) (G_enters G_ok (p:=i36) rfl) findrR_ok
theorem tabSmR_q36 (a:List D):tabSmR.q 36 a=none:=rfl
theorem tabSmR_t36 (a:List D) (o:List Ob):tabSmR.t 36 a o=(readT findrR a o).map fun r=>(r.1,r.2,o):=rfl
theorem tabSmR_r36 (a:List D) (o:List Ob):tabSmR.r 36 a o=readT findrR a o:=rfl
theorem tabSmR_k (f:FuncId) (a:List D) (o:List Ob):tabSmR.k f a o=none:=rfl
def tabSm2:Tabs:=addT (noTabs) 36 findT
theorem tabSm2_ok:SsOk Tryz.prog tabSm2:=addT_ok (noTabs_ok) (G_enters G_ok (p:=i36) rfl) findT_ok
theorem tabSm2_q36 (a:List D):tabSm2.q 36 a=none:=rfl
theorem tabSm2_t36 (a:List D) (o:List Ob):tabSm2.t 36 a o=liftT findT a o:=rfl
theorem tabSm2_r (f:FuncId) (a:List D) (o:List Ob):tabSm2.r f a o=none:=rfl
theorem tabSm2_k (f:FuncId) (a:List D) (o:List Ob):tabSm2.k f a o=none:=rfl
theorem type_c (L:List (Tx×TTyp)) (M:List (Tx×TCls)) (n:Tx) (hn:n.length≤140737488355328):MCalls Tryz.prog 12 [.ptr 0 0,.x (.str n)] (scO L M) (.tup [tyD (tyV L (lowS n)),.x (.bool (mlook L (lowS n)).isSome)]) (scO L M):=by
 have hO:=scO_inP L M
 have h1:=un_ty L
 have h2:=un_cl M
 unfold tyD
 refine FCalls.mcallsX (fcallsG (fz:=true) G_ok (p:=i12) rfl _ (ξ rfl) _ (fun C0 E0=> ?_)) (by first|decide|(simp;done)) hO (by first|rfl|exact hR)
 dsimp only[i12,qt,qi,qs,qb,qm,qa,qh,qj,qT,qF,qe,ql,qL,qf,q2,q3,q8,qz,qp,qP,qc,qk,qx,qy,qo,qr,qC,argsφ]
 have uu:=ξn @findT.eq_1 (ξn @findT.eq_2 (ξn h1 (ξn h2 (ξn @tyD.eq_1 (ξn @ty_ren (ξn @cl_ren (ξn @ty_ids (ξn @cl_ids (ξn @ty_all (ξn @cl_all (ξn @tabSm2_r (ξn @tabSm2_k (ξn @tabSm2_q36 (@tabSm2_t36))))))))))))))
 have tT:=tabSm2_ok
 refine nz ?_
 refine WI.regB tT [0,1,4] ?_
 refine oG ?_
 refine oS ?_
 refine oN ?_
 refine nz ?_
 refine WI.regB tT [0,1,4,7] ?_
 refine oS ?_
 refine oG (hok:=by first|exact se|(exact ξt (by omega))|exact sd) ?_
 refine oN ?_
 refine nz ?_
 refine ce (fun h0=> ?_) (fun h0=> ?_)
 ·simp at h0
 ·refine WI.regB tT [4,5] ?_
  iterate 5 refine oS ?_
  refine oC (hok:=by first|exact se|(exact ξt (by omega))|exact sd) ?_
  iterate 2 refine oG ?_
  refine oG (hok:=by first|exact se|(exact ξt (by omega))|exact sd) ?_
  refine oS ?_
  refine oN ?_
  refine nz ?_
  refine lf ?_
  exact⟨rfl,_,rfl⟩
def typeT:List D→List Ob→Option (Bool×D×List Ob)
 | [.ptr 0 0,.x (.str n)],[.box [.mref 1,.mref 2],.mpo .str true P1,.mpo .str true P2]=>(unM rStr rTyp P1).bind fun L=>(unM rStr rCls P2).bind fun M=>some (decide (n.length≤140737488355328),.tup [tyD (tyV L (lowS n)),.x (.bool (mlook L (lowS n)).isSome)],[.box [.mref 1,.mref 2],.mpo .str true (tyM L),.mpo .str true (clM M)])
 |_,_=>none
theorem typeT_ok: ∀args os r os',typeT args os=some (true,r,os')→MCalls Tryz.prog 12 args os r os':=by
 intro args os r os' h
 unfold typeT at h
 split at h
 ·rename_i n P1 P2
  obtain⟨L,hm0,h⟩:=ξB h
  obtain⟨M,hm1,h⟩:=ξB h
  simp only[ξI,ξP,ξa,ξe,true_and]at h
  obtain⟨h1,rfl,rfl⟩:=h
  rw[unM_inv good_rStr good_rTyp hm0]
  rw[unM_inv good_rStr good_rCls hm1]
  exact type_c L M n h1
 ·cases h
theorem typeN_c (n:Tx):PCalls Tryz.prog 12 [.x .nilp,.x (.str n)] (.tup [tyD ([],0,false,()),.x (.bool false)]):=by
 refine FCalls.pure (fcallsG (fz:=true) G_ok (p:=i12) rfl _ (ξ rfl) _ (fun C0 E0=> ?_)) rfl
 dsimp only[i12,qt,qi,qs,qb,qm,qa,qh,qj,qT,qF,qe,ql,qL,qf,q2,q3,q8,qz,qp,qP,qc,qk,qx,qy,qo,qr,qC,argsφ]
 have uu:=trivial
 have tT:=(noTabs_ok:SsOk Tryz.prog noTabs)
 refine nz ?_
 refine rg tT [0,1,4] ?_
 refine rg tT [0,1,4,7] ?_
 refine ct (fun h0=> ?_) (fun h0=> ?_)
 ·refine rg tT [4,5] ?_
  refine lf ?_
  first|rfl|exact⟨rfl,rfl⟩|trivial
 ·simp at h0
def tabSm3:Tabs:=addQ (noTabs) 37 lowerYG
theorem tabSm3_ok:SsOk Tryz.prog tabSm3:=addQ_ok (noTabs_ok) (G_enters G_ok (p:=i37) rfl) lowerYG_ok
theorem tabSm3_q37 (a:List D):tabSm3.q 37 a=lowerYG a:=rfl
theorem tabSm3_r (f:FuncId) (a:List D) (o:List Ob):tabSm3.r f a o=none:=rfl
theorem tabSm3_k (f:FuncId) (a:List D) (o:List Ob):tabSm3.k f a o=none:=rfl
theorem class_c (L:List (Tx×TTyp)) (M:List (Tx×TCls)) (n:Tx) (hn:n.length≤140737488355328):MCalls Tryz.prog 14 [.ptr 0 0,.x (.str n)] (scO L M) (.tup [clD (clV M (lowS n)),.x (.bool (mlook M (lowS n)).isSome)]) (scO L M):=by
 have hg:=cl_get M (lowS n)
 have hO:=scO_inP L M
 unfold clV
 rcases hm:mlook M (lowS n)with _|⟨a,m,y,u⟩
 ·rw[hm,Option.map_none]at hg
  refine FCalls.mcallsX (fcallsG (fz:=true) G_ok (p:=i14) rfl _ (ξ rfl) _ (fun C0 E0=> ?_)) (by first|decide|(simp;done)) hO (by first|rfl|exact hR)
  dsimp only[i14,qt,qi,qs,qb,qm,qa,qh,qj,qT,qF,qe,ql,qL,qf,q2,q3,q8,qz,qp,qP,qc,qk,qx,qy,qo,qr,qC,argsφ]
  have uu:=ξn @lowerYG.eq_1 (ξn @lowerYG.eq_2 (ξn hg (ξn @tabSm3_r (ξn @tabSm3_k (@tabSm3_q37)))))
  have tT:=tabSm3_ok
  refine nz ?_
  refine WI.regB tT [0,1,4] ?_
  refine oG ?_
  refine oS ?_
  refine oN ?_
  refine nz ?_
  refine WI.regB tT [0,1,4,9] ?_
  refine oS ?_
  refine oG (hok:=by first|exact se|(exact ξt (by omega))|exact sd) ?_
  refine oN ?_
  refine nz ?_
  refine ce (fun h0=> ?_) (fun h0=> ?_)
  ·simp at h0
  ·refine WI.dregB tT [4,6,7] ?_
   iterate 4 refine dFS ?_
   refine dQG (hok:=by first|exact se|(exact ξt (by omega))|exact sd) ?_
   refine dFS ?_
   refine dQC (hok:=by first|exact se|(exact ξt (by omega))|exact sd) ?_
   refine dQG (hok:=by first|exact se|(exact ξt (by omega))|exact sd) ?_
   refine dFS ?_
   iterate 2 refine dFG ?_
   refine dKG ?_
   refine dAG (hok:=by first|exact se|(exact ξt (by omega))|exact sd) ?_
   refine dFS ?_
   refine dN ?_
   refine nz ?_
   refine WI.regB tT [4,5] ?_
   refine oG (hok:=by first|exact se|(exact ξt (by omega))|exact sd) ?_
   refine oS ?_
   refine oG (hok:=by first|exact se|(exact ξt (by omega))|exact sd) ?_
   refine oS ?_
   refine oN ?_
   refine nz ?_
   refine WI.nnA ?_
   refine lf ?_
   exact⟨rfl,_,rfl⟩
 ·rw[hm,Option.map_some]at hg
  refine FCalls.mcallsX (fcallsG (fz:=true) G_ok (p:=i14) rfl _ (ξ rfl) _ (fun C0 E0=> ?_)) (by first|decide|(simp;done)) hO (by first|rfl|exact hR)
  dsimp only[i14,qt,qi,qs,qb,qm,qa,qh,qj,qT,qF,qe,ql,qL,qf,q2,q3,q8,qz,qp,qP,qc,qk,qx,qy,qo,qr,qC,argsφ]
  have uu:=ξn @lowerYG.eq_1 (ξn @lowerYG.eq_2 (ξn hg (ξn @tabSm3_r (ξn @tabSm3_k (@tabSm3_q37)))))
  have tT:=tabSm3_ok
  refine nz ?_
  refine WI.regB tT [0,1,4] ?_
  refine oG ?_
  refine oS ?_
  refine oN ?_
  refine nz ?_
  refine WI.regB tT [0,1,4,9] ?_
  refine oS ?_
  refine oG (hok:=by first|exact se|(exact ξt (by omega))|exact sd) ?_
  refine oN ?_
  refine nz ?_
  refine ce (fun h0=> ?_) (fun h0=> ?_)
  ·simp at h0
  ·refine WI.dregB tT [4,6,7] ?_
   iterate 4 refine dFS ?_
   refine dQG (hok:=by first|exact se|(exact ξt (by omega))|exact sd) ?_
   refine dFS ?_
   refine dQC (hok:=by first|exact se|(exact ξt (by omega))|exact sd) ?_
   refine dQG (hok:=by first|exact se|(exact ξt (by omega))|exact sd) ?_
   refine dFS ?_
   iterate 2 refine dFG ?_
   refine dKG ?_
   refine dAG (hok:=by first|exact se|(exact ξt (by omega))|exact sd) ?_
   refine dFS ?_
   refine dN ?_
   refine nz ?_
   refine WI.regB tT [4,5] ?_
   refine oG (hok:=by first|exact se|(exact ξt (by omega))|exact sd) ?_
   refine oS ?_
   refine oG (hok:=by first|exact se|(exact ξt (by omega))|exact sd) ?_
   refine oS ?_
   refine oN ?_
   refine nz ?_
   refine lf ?_
   exact⟨rfl,_,rfl⟩
def classT:List D→List Ob→Option (Bool×D×List Ob)
 | [.ptr 0 0,.x (.str n)],[.box [.mref 1,.mref 2],.mpo .str true P1,.mpo .str true P2]=>(unM rStr rTyp P1).bind fun L=>(unM rStr rCls P2).bind fun M=>some (decide (n.length≤140737488355328),.tup [clD (clV M (lowS n)),.x (.bool (mlook M (lowS n)).isSome)],[.box [.mref 1,.mref 2],.mpo .str true (tyM L),.mpo .str true (clM M)])
 |_,_=>none
theorem classT_ok: ∀args os r os',classT args os=some (true,r,os')→MCalls Tryz.prog 14 args os r os':=by
 intro args os r os' h
 unfold classT at h
 split at h
 ·rename_i n P1 P2
  obtain⟨L,hm0,h⟩:=ξB h
  obtain⟨M,hm1,h⟩:=ξB h
  simp only[ξI,ξP,ξa,ξe,true_and]at h
  obtain⟨h1,rfl,rfl⟩:=h
  rw[unM_inv good_rStr good_rTyp hm0]
  rw[unM_inv good_rStr good_rCls hm1]
  exact class_c L M n h1
 ·cases h
theorem classN_c (n:Tx):PCalls Tryz.prog 14 [.x .nilp,.x (.str n)] (.tup [clD ([],[],[],()),.x (.bool false)]):=by
 refine FCalls.pure (fcallsG (fz:=true) G_ok (p:=i14) rfl _ (ξ rfl) _ (fun C0 E0=> ?_)) rfl
 dsimp only[i14,qt,qi,qs,qb,qm,qa,qh,qj,qT,qF,qe,ql,qL,qf,q2,q3,q8,qz,qp,qP,qc,qk,qx,qy,qo,qr,qC,argsφ]
 have uu:=trivial
 have tT:=(noTabs_ok:SsOk Tryz.prog noTabs)
 refine nz ?_
 refine rg tT [0,1,4] ?_
 refine rg tT [0,1,4,9] ?_
 refine ct (fun h0=> ?_) (fun h0=> ?_)
 ·refine rg tT [4,5] ?_
  refine WI.nnA ?_
  refine lf ?_
  first|rfl|exact⟨rfl,rfl⟩|trivial
 ·simp at h0
theorem code_c (b:Bool) (c:Int):PCalls Tryz.prog 40 [.x (.bool b),.x (.int .i64 c)] (.x (.int .i64 (if b=true then c else 0))):=by
 refine FCalls.pure (fcallsG (fz:=true) G_ok (p:=i40) rfl _ (ξ rfl) _ (fun C0 E0=> ?_)) rfl
 dsimp only[i40,qt,qi,qs,qb,qm,qa,qh,qj,qT,qF,qe,ql,qL,qf,q2,q3,q8,qz,qp,qP,qc,qk,qx,qy,qo,qr,qC,argsφ]
 have uu:=trivial
 have tT:=(noTabs_ok:SsOk Tryz.prog noTabs)
 refine nz ?_
 refine rg tT [0,1] ?_
 refine rg tT [1,5] ?_
 refine cd (fun h0=> ?_) (fun h0=> ?_)
 ·refine rg tT [4] ?_
  refine lf ?_
  (clear uu;grind)
 ·refine rg tT [4] ?_
  refine lf ?_
  (clear uu;grind)
def codeG:List D→Option (Bool×D)
 | [.x (.bool b),.x (.int .i64 c)]=>some (true,.x (.int .i64 (if b=true then c else 0)))
 |_=>none
theorem codeG_ok: ∀args r,codeG args=some (true,r)→PCalls Tryz.prog 40 args r:=by
 intro args r h
 unfold codeG at h
 split at h
 ·rename_i b c
  simp only[ξI,ξP,ξa,ξe,true_and]at h
  obtain rfl:=h
  exact(code_c b c)
 ·cases h
def nrmK (k:Int) (v:Tx):Tx:=(normV k v).1
def seenV (k:Int) (l:List Tx):List (Tx×Int):=l.map fun v=>(nrmK k v,(1:Int))
def twV (k:Int) (l:List Tx):Bool:= !decide (l.map (nrmK k)).Nodup
theorem seenV_look (k:Int): ∀(l:List Tx) (x:Tx),mlook (seenV k l) x=if x∈l.map (nrmK k)then some 1 else none
 | [],x=>by simp[seenV,mlook]
 |v::l,x=>by
  have ih:=seenV_look k l x
  by_cases h:x=nrmK k v
  ·simp[seenV,mlook,h]
  ·have e:(x∈(v::l).map (nrmK k))=(x∈l.map (nrmK k)):=by simp[h]
   have e2:mlook (seenV k (v::l)) x=mlook (seenV k l) x:=by simp[seenV,mlook,h]
   rw[e2,ih];simp only[e]
theorem seenV_get (k:Int) (l:List Tx) (x:Tx):mgetX (encM kcS kcI (seenV k l)) [X.str x]=if x∈l.map (nrmK k)then some [D.x (X.int .i64 1)]else none:=by
 rw[encM_get kcS kcI hkS (seenV k l) x,seenV_look]
 split<;>rfl
theorem seenV_set (k:Int) (l:List Tx) (v:Tx) (h:nrmK k v∉l.map (nrmK k)):msetX (encM kcS kcI (seenV k l)) [X.str (nrmK k v)] [D.x (X.int .i64 1)]=encM kcS kcI (seenV k (l++ [v])):=by
 have e:=encM_set kcS kcI hkS (seenV k l) (nrmK k v) 1
 rw[mset_new (by rw[seenV_look,if_neg h])]at e
 have e2:seenV k (l++ [v])=seenV k l++ [(nrmK k v,1)]:=by simp[seenV]
 rw[e2];exact e
theorem str_row (l:List Tx) (j:Nat) (h:j<l.length):(rows rStr l)[j]? =some [X.str (l.getD j [])]:=by
 simp[rows,h,rStr]
theorem tw_yes (k:Int) (l:List Tx) (j:Nat) (h:j<l.length) (hin:nrmK k (l.getD j [])∈(l.take j).map (nrmK k)):twV k l=true:=by
 unfold twV
 rw[Bool.not_eq_true',decide_eq_false_iff_not]
 intro hn
 have e:l=l.take j++l.getD j []::l.drop (j+1):=by
  have:=List.take_append_drop j l
  rw[List.drop_eq_getElem_cons h]at this
  rw[show l.getD j []=l[j] by simp[h]];exact this.symm
 rw[e,List.map_append,List.map_cons]at hn
 have:=(List.nodup_append.1 hn).2.2 _ hin _ (List.mem_cons_self)
 exact this rfl
def tabSm4:Tabs:=addQ (noTabs) 65 rnormG
theorem tabSm4_ok:SsOk Tryz.prog tabSm4:=addQ_ok (noTabs_ok) (G_enters G_ok (p:=i65) rfl) rnormG_ok
theorem tabSm4_q65 (a:List D):tabSm4.q 65 a=rnormG a:=rfl
theorem tabSm4_r (f:FuncId) (a:List D) (o:List Ob):tabSm4.r f a o=none:=rfl
theorem tabSm4_k (f:FuncId) (a:List D) (o:List Ob):tabSm4.k f a o=none:=rfl
theorem twice_c (k:Int) (l:List Tx) (hl:l.length≤1000000):PCalls Tryz.prog 67 [.x (.int .i64 k),.x (.sl (rows rStr l))] (.x (.bool (twV k l))):=by
 refine FCalls.pure (fcallsG (fz:=true) G_ok (p:=i67) rfl _ (ξ rfl) _ (fun C0 E0=> ?_)) rfl
 dsimp only[i67,qt,qi,qs,qb,qm,qa,qh,qj,qT,qF,qe,ql,qL,qf,q2,q3,q8,qz,qp,qP,qc,qk,qx,qy,qo,qr,qC,argsφ]
 have uu:=ξn @rnormG.eq_1 (ξn @rnormG.eq_2 (ξn @tabSm4_r (ξn @tabSm4_k (@tabSm4_q65))))
 have tT:=tabSm4_ok
 refine nz ?_
 refine rg tT [0,1] ?_
 refine rg tT [0,1,5] ?_
 refine rg tT [0,5,11,12,13] ?_
 refine WI.loop (fun φ os=> ∃(j:Nat),φ= [(0,.x (.int .i64 k)),(5,.mref 0),(11,.x (.sl (rows rStr l))),(12,.x (.int .i64 l.length)),(13,.x (.int .i64 j))]∧os= [.mpo .str false (encM kcS kcI (seenV k (l.take j)))]∧j≤l.length∧((l.take j).map (nrmK k)).Nodup) (down l.length 13) ?_ (fun φ os hI=> ?_)
 ·exact⟨0,rfl,rfl,by omega,by simp⟩
 ·obtain⟨j,rfl,rfl,hj,hnd⟩:=hI
  refine nz ?_
  refine rg tT [0,5,11,12,13,14] ?_
  refine cd (fun h0=> ?_) (fun h0=> ?_)
  ·have hj4:j<l.length:=by omega
   have hrw:=str_row l j hj4
   have hgt:=seenV_get k (l.take j) (nrmK k (l.getD j []))
   have htk:l.take (j+1)=l.take j++ [l.getD j []]:=by rw[List.take_succ_eq_append_getElem hj4];simp[hj4]
   have hnk:(normV k (l.getD j [])).1=nrmK k (l.getD j []):=rfl
   have uu:=ξn uu (ξn hrw hnk)
   refine rg tT [0,5,7,11,12,13] ?_
   refine rg tT [0,5,8,11,12,13] ?_
   by_cases hin:nrmK k (l.getD j [])∈(l.take j).map (nrmK k)
   ·rw[if_pos hin]at hgt
    have uu:=ξn uu hgt
    refine rg tT [0,5,8,11,12,13,26] ?_
    refine ct (fun h1=> ?_) (fun h1=> ?_)
    ·refine rg tT [4] ?_
     refine lf ?_
     rw[tw_yes k l j hj4 hin]
    ·simp at h1
   ·rw[if_neg hin]at hgt
    have hset:=seenV_set k (l.take j) (l.getD j []) hin
    have uu:=ξn uu (ξn hgt hset)
    refine rg tT [0,5,8,11,12,13,26] ?_
    refine ce (fun h1=> ?_) (fun h1=> ?_)
    ·simp at h1
    ·refine WI.post ?_
     refine WI.regB tT [0,5,11,12,13] ?_
     iterate 2 refine oS ?_
     iterate 3 refine oG ?_
     refine oP ?_
     refine pPick [0] ?_ (ho:=by simp (disch:=decide) only[zV,zO,Ob.mpb,frzL,nrmφ,nrmO,onF,Ob.onI,mpP,renP,Option.map_some,Option.map_none,D.vw,vwL,D.on,D.inP,inL,memB,D.ren,renL,inv,fpO,Ob.mp,Ob.ren,D.nn,nnφ,Nat.reduceBEq,Nat.reduceEqDiff,Nat.reduceAdd,↓reduceIte,encM_on,encM_ren];rfl)
     refine pEnd ?_
     refine nz ?_
     have hnd2:((l.take (j+1)).map (nrmK k)).Nodup:=by
      rw[htk,List.map_append,List.nodup_append]
      exact⟨hnd,by simp,fun a ha b hb=>by simp only[List.map_cons,List.map_nil,List.mem_singleton]at hb;subst hb;rintro rfl;exact hin ha⟩
     refine rg tT [0,5,11,12,13] ?_
     exact⟨⟨j+1,rfl,by rw[htk],by omega,hnd2⟩,by simp[down,Ab.get,D.val,intOf?];omega⟩
  ·refine rg tT [4] ?_
   refine lf ?_
   rw[ξT (by omega)]at hnd;unfold twV;rw[ξt hnd];rfl
def twiceG:List D→Option (Bool×D)
 | [.x (.int .i64 k),.x (.sl R)]=>(unrows rStr R).bind fun l=>some (decide (l.length≤1000000),.x (.bool (twV k l)))
 |_=>none
theorem twiceG_ok: ∀args r,twiceG args=some (true,r)→PCalls Tryz.prog 67 args r:=by
 intro args r h
 unfold twiceG at h
 split at h
 ·rename_i k R
  obtain⟨l,hr0,h⟩:=ξB h
  simp only[ξI,ξP,ξa,ξe,true_and]at h
  obtain⟨h1,rfl⟩:=h
  rw[←rows_unrows good_rStr hr0]
  exact(twice_c k l h1)
 ·cases h
def atD (a:TAttr):D:= .agg [.x (.str a.1),.x (.sl (rows rStr a.2.1))]
def w1 (t:TTyp) (_:TAttr):Int:=if t.1= []then 17 else 0
def w2 (_:TTyp) (a:TAttr):Int:=if a.2.1.length=0 then 19 else 0
def w3 (t:TTyp) (a:TAttr):Int:=if a.2.1.all (fun v=>(normV t.2.1 v).2)=true then 0 else 21
def w5 (t:TTyp) (a:TAttr):Int:=if t.2.2.1=true∧1<a.2.1.length then 19 else 0
def tabSm5:Tabs:=addQ (addQ (noTabs) 40 codeG) 65 rnormG
theorem tabSm5_ok:SsOk Tryz.prog tabSm5:=addQ_ok (addQ_ok (noTabs_ok) (G_enters G_ok (p:=i40) rfl) codeG_ok) (G_enters G_ok (p:=i65) rfl) rnormG_ok
theorem tabSm5_q40 (a:List D):tabSm5.q 40 a=codeG a:=rfl
theorem tabSm5_q65 (a:List D):tabSm5.q 65 a=rnormG a:=rfl
theorem tabSm5_r (f:FuncId) (a:List D) (o:List Ob):tabSm5.r f a o=none:=rfl
theorem tabSm5_k (f:FuncId) (a:List D) (o:List Ob):tabSm5.k f a o=none:=rfl
theorem w1_c (t:TTyp) (a:TAttr):PCalls Tryz.prog 62 [tyD t,atD a] (.x (.int .i64 (w1 t a))):=by
 unfold w1 tyD atD
 refine FCalls.pure (fcallsG (fz:=true) G_ok (p:=i62) rfl _ (ξ rfl) _ (fun C0 E0=> ?_)) rfl
 dsimp only[i62,qt,qi,qs,qb,qm,qa,qh,qj,qT,qF,qe,ql,qL,qf,q2,q3,q8,qz,qp,qP,qc,qk,qx,qy,qo,qr,qC,argsφ]
 have uu:=ξn @codeG.eq_1 (ξn @codeG.eq_2 (ξn @tabSm5_r (ξn @tabSm5_k (ξn @tabSm5_q40 (ξn @tabSm5_q65 (ξn @rnormG.eq_1 (@rnormG.eq_2)))))))
 have tT:=tabSm5_ok
 refine nz ?_
 refine rg tT [2] ?_
 refine rg tT [4] ?_
 refine lf ?_
 (clear uu;grind)
theorem w2_c (t:TTyp) (a:TAttr):PCalls Tryz.prog 63 [tyD t,atD a] (.x (.int .i64 (w2 t a))):=by
 unfold w2 tyD atD
 refine FCalls.pure (fcallsG (fz:=true) G_ok (p:=i63) rfl _ (ξ rfl) _ (fun C0 E0=> ?_)) rfl
 dsimp only[i63,qt,qi,qs,qb,qm,qa,qh,qj,qT,qF,qe,ql,qL,qf,q2,q3,q8,qz,qp,qP,qc,qk,qx,qy,qo,qr,qC,argsφ]
 have uu:=ξn @codeG.eq_1 (ξn @codeG.eq_2 (ξn @tabSm5_r (ξn @tabSm5_k (ξn @tabSm5_q40 (ξn @tabSm5_q65 (ξn @rnormG.eq_1 (@rnormG.eq_2)))))))
 have tT:=tabSm5_ok
 refine nz ?_
 refine rg tT [3] ?_
 refine rg tT [4] ?_
 refine lf ?_
 (clear uu;grind)
theorem w3_c (t:TTyp) (a:TAttr) (hl:a.2.1.length≤1000000):PCalls Tryz.prog 64 [tyD t,atD a] (.x (.int .i64 (w3 t a))):=by
 unfold w3 tyD atD
 obtain⟨n,l,u⟩:=a
 simp only at hl⊢
 refine FCalls.pure (fcallsG (fz:=true) G_ok (p:=i64) rfl _ (ξ rfl) _ (fun C0 E0=> ?_)) rfl
 dsimp only[i64,qt,qi,qs,qb,qm,qa,qh,qj,qT,qF,qe,ql,qL,qf,q2,q3,q8,qz,qp,qP,qc,qk,qx,qy,qo,qr,qC,argsφ]
 have uu:=ξn @rnormG.eq_1 (ξn @rnormG.eq_2 (ξn @tabSm5_r (ξn @tabSm5_k (ξn @tabSm5_q40 (ξn @tabSm5_q65 (ξn @codeG.eq_1 (@codeG.eq_2)))))))
 have tT:=tabSm5_ok
 refine nz ?_
 refine rg tT [2,3] ?_
 refine rg tT [2,10,11,12] ?_
 refine WI.pickA [0] ?_
 refine WI.orderA [2,10,11,12] ?_
 refine WI.loop (fun φ os=> ∃(j:Nat),φ= [(2,.ptr 0 0),(10,.x (.sl (rows rStr l))),(11,.x (.int .i64 l.length)),(12,.x (.int .i64 j))]∧os= [.box [.x (.str t.1),.x (.int .i64 t.2.1),.x (.bool t.2.2.1)]]∧j≤l.length∧(l.take j).all (fun v=>(normV t.2.1 v).2)=true) (down l.length 12) ?_ (fun φ os hI=> ?_)
 ·exact⟨0,rfl,rfl,by omega,rfl⟩
 ·obtain⟨j,rfl,rfl,hj,hall⟩:=hI
  refine nz ?_
  refine rg tT [2,10,11,12,13] ?_
  refine cd (fun h0=> ?_) (fun h0=> ?_)
  ·have hj4:j<l.length:=by omega
   have hrw:=str_row l j hj4
   have hgj:l[j]=l.getD j []:=by simp[hj4]
   have hal:=all_snoc (fun v=>(normV t.2.1 v).2) l j hj4
   rw[hgj]at hal
   have uu:=ξn uu hrw
   refine rg tT [2,6,10,11,12] ?_
   refine rg tT [2,8,10,11,12] ?_
   refine rg tT [2,10,11,12,24] ?_
   refine cd (fun h1=> ?_) (fun h1=> ?_)
   ·refine rg tT [4] ?_
    refine lf ?_
    rw[if_neg (by rw[all_take_false (fun v=>(normV t.2.1 v).2) l j hj4 (by rw[hgj];simpa using h1)];decide)]
   ·have hall2:(l.take (j+1)).all (fun v=>(normV t.2.1 v).2)=true:=by rw[hal,hall];simpa using h1
    refine rg tT [2,10,11,12] ?_
    exact⟨⟨j+1,rfl,rfl,by omega,hall2⟩,by simp[down,Ab.get,D.val,intOf?];omega⟩
  ·refine rg tT [4] ?_
   refine lf ?_
   rw[ξT (by omega)]at hall;rw[if_pos hall]
theorem w5_c (t:TTyp) (a:TAttr):PCalls Tryz.prog 68 [tyD t,atD a] (.x (.int .i64 (w5 t a))):=by
 unfold w5 tyD atD
 refine FCalls.pure (fcallsG (fz:=true) G_ok (p:=i68) rfl _ (ξ rfl) _ (fun C0 E0=> ?_)) rfl
 dsimp only[i68,qt,qi,qs,qb,qm,qa,qh,qj,qT,qF,qe,ql,qL,qf,q2,q3,q8,qz,qp,qP,qc,qk,qx,qy,qo,qr,qC,argsφ]
 have uu:=ξn @codeG.eq_1 (ξn @codeG.eq_2 (ξn @tabSm5_r (ξn @tabSm5_k (ξn @tabSm5_q40 (ξn @tabSm5_q65 (ξn @rnormG.eq_1 (@rnormG.eq_2)))))))
 have tT:=tabSm5_ok
 refine nz ?_
 refine rg tT [2,3] ?_
 refine rg tT [4] ?_
 refine lf ?_
 (clear uu;grind)
abbrev Sn:=List (Tx×Int)
def snG (S:Sn) (k:Tx):Int:=(mlook S k).getD 0
def snS (S:Sn) (k:Tx):Sn:=mset S k (snG S k+1)
theorem sn_get (S:Sn) (k:Tx):(mgetX (encM kcS kcI S) [X.str k])=(mlook S k).map fun n=> [D.x (X.int .i64 n)]:=by
 rw[encM_get kcS kcI hkS S k];rfl
theorem sn_set (S:Sn) (k:Tx) (n:Int):msetX (encM kcS kcI S) [X.str k] [D.x (X.int .i64 n)]=encM kcS kcI (mset S k n):=encM_set kcS kcI hkS S k n
def w4 (S:Sn) (t:TTyp) (a:TAttr):Int:=if 0<snG S t.1∨twV t.2.1 a.2.1=true then 20 else 0
def tabSm6:Tabs:=addQ (addQ (noTabs) 40 codeG) 67 twiceG
theorem tabSm6_ok:SsOk Tryz.prog tabSm6:=addQ_ok (addQ_ok (noTabs_ok) (G_enters G_ok (p:=i40) rfl) codeG_ok) (G_enters G_ok (p:=i67) rfl) twiceG_ok
theorem tabSm6_q40 (a:List D):tabSm6.q 40 a=codeG a:=rfl
theorem tabSm6_q67 (a:List D):tabSm6.q 67 a=twiceG a:=rfl
theorem tabSm6_r (f:FuncId) (a:List D) (o:List Ob):tabSm6.r f a o=none:=rfl
theorem tabSm6_k (f:FuncId) (a:List D) (o:List Ob):tabSm6.k f a o=none:=rfl
theorem w4_c (S:Sn) (t:TTyp) (a:TAttr) (hs:0≤snG S t.1∧snG S t.1≤1000000) (hl:a.2.1.length≤1000000):MCalls Tryz.prog 66 [tyD t,atD a,.ptr 0 0] [.box [.mref 1],.mpo .str false (encM kcS kcI S)] (.x (.int .i64 (w4 S t a))) [.box [.mref 1],.mpo .str false (encM kcS kcI (snS S t.1))]:=by
 have hO:([.box [.mref 1],.mpo .str false (encM kcS kcI (snS S t.1))]:List Ob).all (Ob.inP (fun i=>decide (i<([.box [.mref 1],.mpo .str false (encM kcS kcI (snS S t.1))]:List Ob).length)))=true:=by simp[Ob.inP,inL,D.inP,encM_all]
 have hla:decide (a.2.1.length≤1000000)=true:=ξt hl
 have hg:=sn_get S t.1
 unfold w4 tyD atD snS
 unfold snS at hO
 unfold snG at hs hO⊢
 rcases hm:mlook S t.1 with _|n
 ·rw[hm]at hg hO
  simp only[Option.getD_none,Option.map_none]at hg hO⊢
  have hst:msetX (encM kcS kcI S) [X.str t.1] [D.x (X.int .i64 1)]=encM kcS kcI (mset S t.1 (0+1)):=sn_set S t.1 1
  refine FCalls.mcallsX (fcallsG (fz:=true) G_ok (p:=i66) rfl _ (ξ rfl) _ (fun C0 E0=> ?_)) (by first|decide|(simp;done)) hO (by first|rfl|exact hR)
  dsimp only[i66,qt,qi,qs,qb,qm,qa,qh,qj,qT,qF,qe,ql,qL,qf,q2,q3,q8,qz,qp,qP,qc,qk,qx,qy,qo,qr,qC,argsφ]
  have uu:=ξn @codeG.eq_1 (ξn @codeG.eq_2 (ξn @twiceG.eq_1 (ξn @twiceG.eq_2 (ξn hg (ξn hst (ξn hla (ξn @tabSm6_r (ξn @tabSm6_k (ξn @tabSm6_q40 (@tabSm6_q67))))))))))
  have tT:=tabSm6_ok
  refine nz ?_
  refine WI.regB tT [2,3,4] ?_
  iterate 2 refine oG ?_
  refine oS ?_
  refine oN ?_
  refine nz ?_
  refine WI.regB tT [2,3,6] ?_
  refine oG (hok:=by first|exact se|(clear uu;grind)|exact sd) ?_
  refine oS ?_
  iterate 3 refine oG (hok:=by first|exact se|(clear uu;grind)|exact sd) ?_
  refine oS ?_
  iterate 4 refine oG (hok:=by first|exact se|(clear uu;grind)|exact sd) ?_
  refine oC (hok:=by first|exact se|(clear uu;grind)|exact sd) ?_
  refine oG (hok:=by first|exact se|(clear uu;grind)|exact sd) ?_
  refine oS ?_
  refine oN ?_
  refine nz ?_
  refine WI.regB tT [6] ?_
  refine oG (hok:=by first|exact se|(clear uu;grind)|exact sd) ?_
  refine oS ?_
  iterate 4 refine oG (hok:=by first|exact se|(clear uu;grind)|exact sd) ?_
  refine oN ?_
  refine nz ?_
  refine WI.regB tT [5] ?_
  refine oS ?_
  refine oC (hok:=by first|exact se|(clear uu;grind)|exact sd) ?_
  refine oS ?_
  refine oN ?_
  refine nz ?_
  refine lf ?_
  refine⟨?_,_,rfl⟩;clear uu;grind
 ·rw[hm]at hg hO hs
  simp only[Option.getD_some,Option.map_some]at hg hO hs⊢
  have hst:=sn_set S t.1 (n+1)
  refine FCalls.mcallsX (fcallsG (fz:=true) G_ok (p:=i66) rfl _ (ξ rfl) _ (fun C0 E0=> ?_)) (by first|decide|(simp;done)) hO (by first|rfl|exact hR)
  dsimp only[i66,qt,qi,qs,qb,qm,qa,qh,qj,qT,qF,qe,ql,qL,qf,q2,q3,q8,qz,qp,qP,qc,qk,qx,qy,qo,qr,qC,argsφ]
  have uu:=ξn @codeG.eq_1 (ξn @codeG.eq_2 (ξn @twiceG.eq_1 (ξn @twiceG.eq_2 (ξn hg (ξn hst (ξn hla (ξn @tabSm6_r (ξn @tabSm6_k (ξn @tabSm6_q40 (@tabSm6_q67))))))))))
  have tT:=tabSm6_ok
  refine nz ?_
  refine WI.regB tT [2,3,4] ?_
  iterate 2 refine oG ?_
  refine oS ?_
  refine oN ?_
  refine nz ?_
  refine WI.regB tT [2,3,6] ?_
  refine oG (hok:=by first|exact se|(clear uu;grind)|exact sd) ?_
  refine oS ?_
  iterate 3 refine oG (hok:=by first|exact se|(clear uu;grind)|exact sd) ?_
  refine oS ?_
  iterate 4 refine oG (hok:=by first|exact se|(clear uu;grind)|exact sd) ?_
  refine oC (hok:=by first|exact se|(clear uu;grind)|exact sd) ?_
  refine oG (hok:=by first|exact se|(clear uu;grind)|exact sd) ?_
  refine oS ?_
  refine oN ?_
  refine nz ?_
  refine WI.regB tT [6] ?_
  refine oG (hok:=by first|exact se|(clear uu;grind)|exact sd) ?_
  refine oS ?_
  iterate 4 refine oG (hok:=by first|exact se|(clear uu;grind)|exact sd) ?_
  refine oN ?_
  refine nz ?_
  refine WI.regB tT [5] ?_
  refine oS ?_
  refine oC (hok:=by first|exact se|(clear uu;grind)|exact sd) ?_
  refine oS ?_
  refine oN ?_
  refine nz ?_
  refine lf ?_
  refine⟨?_,_,rfl⟩;clear uu;grind
def w4T:List D→List Ob→Option (Bool×D×List Ob)
 | [.agg [.x (.str n),.x (.int .i64 k),.x (.bool b)],.agg [.x (.str nm),.x (.sl R)],.ptr 0 0],[.box [.mref 1],.mpo .str false P1]=>(unM rStr (rInt .i64) P1).bind fun S=>(unrows rStr R).bind fun l=>some (decide ((0≤snG S n∧snG S n≤1000000)∧l.length≤1000000),.x (.int .i64 (w4 S (n,k,b,()) (nm,l,()))),[.box [.mref 1],.mpo .str false (encM kcS kcI (snS S n))])
 |_,_=>none
theorem w4T_ok: ∀args os r os',w4T args os=some (true,r,os')→MCalls Tryz.prog 66 args os r os':=by
 intro args os r os' h
 unfold w4T at h
 split at h
 ·rename_i n k b nm R P1
  obtain⟨S,hm0,h⟩:=ξB h
  obtain⟨l,hr0,h⟩:=ξB h
  simp only[ξI,ξP,ξa,ξe,true_and]at h
  obtain⟨h1,rfl,rfl⟩:=h
  rw[unM_inv good_rStr (good_rInt .i64) hm0]
  rw[←rows_unrows good_rStr hr0]
  exact w4_c S (n,k,b,()) (nm,l,()) h1.1 h1.2
 ·cases h
def entD (e:TEntry):D:= .agg [.x (.str e.1),.x (.sl (rows rAttr e.2.1))]
def goA (g:TTyp→TAttr→Int) (L:List (Tx×TTyp)):List TAttr→Int
 | []=>0
 |a::l=>if g (tyV L (lowS a.1)) a≠0 then g (tyV L (lowS a.1)) a else goA g L l
theorem at_row (l:List TAttr) (j:Nat) (h:j<l.length):(rows rAttr l)[j]? =some [X.str (l.getD j ([],[],())).1,X.sl (rows rStr (l.getD j ([],[],())).2.1)]:=by
 simp[rows,h,rAttr,rCat,rStr,rSl,rEnd]
theorem drop_getD {α:Type} (l:List α) (z:α) (j:Nat) (h:j<l.length):l.drop j=l.getD j z::l.drop (j+1):=by
 rw[List.drop_eq_getElem_cons h];simp[h]
theorem attrsP_c (L:List (Tx×TTyp)) (M:List (Tx×TCls)) (e:TEntry) (f:FuncId) (g:TTyp→TAttr→Int) (hen:Enters Tryz.prog f) (hg: ∀t,∀a∈e.2.1,PCalls Tryz.prog f [tyD t,atD a] (.x (.int .i64 (g t a)))) (hl:e.2.1.length≤1000000) (hn: ∀a∈e.2.1,a.1.length≤1000000):
  MCalls Tryz.prog 69 [.ptr 0 0,entD e,.fn f []] (scO L M) (.x (.int .i64 (goA g L e.2.1))) (scO L M):=by
 obtain⟨dn,l,u⟩:=e
 simp only at hg hl hn⊢
 have hO:=scO_inP L M
 have h1:=un_ty L
 have h2:=un_cl M
 unfold entD
 refine FCalls.mcallsX (fcallsG (fz:=true) G_ok (p:=i69) rfl _ (ξ rfl) _ (fun C0 E0=> ?_)) (by first|decide|(simp;done)) hO (by first|rfl|exact hR)
 dsimp only[i69,qt,qi,qs,qb,qm,qa,qh,qj,qT,qF,qe,ql,qL,qf,q2,q3,q8,qz,qp,qP,qc,qk,qx,qy,qo,qr,qC,argsφ]
 have uu:=ξn @findrR.eq_1 (ξn @findrR.eq_2 (ξn h1 (ξn h2 (ξn @ty_ren (ξn @cl_ren (ξn @ty_ids (ξn @cl_ids (ξn @ty_all (ξn @cl_all (ξn @ptT_t (ξn @ptT_q (ξn @ptT_r (ξn @ptT_k (ξn @tabSmR_r36 (ξn @tabSmR_k (ξn @tabSmR_q36 (@tabSmR_t36)))))))))))))))))
 refine WI.seq ?_
 refine WI.regB tabSmR_ok [0,2,4] ?_
 refine oG ?_
 refine oS ?_
 refine oN ?_
 refine thenQ_normal ?_
 refine WI.seq ?_
 refine WI.seq ?_
 refine WI.regB tabSmR_ok [0,2,13,14,15] ?_
 refine oS ?_
 iterate 2 refine oG (hok:=by first|exact se|(exact ξt (by omega))|exact sd) ?_
 refine oS ?_
 refine oN ?_
 refine thenQ_normal ?_
 refine WI.block ?_
 refine WI.dropT (scO L M) _ rfl (by simp) hO (by simp[D.inP,inL]) ?_
 refine WI.orderA [0,2,13,14,15] ?_
 refine WI.loop (fun φ os=> ∃(i:Nat),φ= [(0,.ptr 0 0),(2,.fn f []),(13,.x (.sl (rows rAttr l))),(14,.x (.int .i64 l.length)),(15,.x (.int .i64 i))]∧os=scO L M∧i≤l.length∧goA g L (l.drop i)=goA g L l) (down l.length 15) ?_ (fun φ os hI=> ?_)
 ·exact⟨0,rfl,rfl,by omega,rfl⟩
 ·obtain⟨i,rfl,rfl,hi,hgo⟩:=hI
  refine WI.seq ?_
  refine WI.regB tabSmR_ok [0,2,13,14,15,16] ?_
  refine oG (hok:=by first|exact se|(exact ξt (by omega))|exact sd) ?_
  refine oN ?_
  refine thenQ_normal ?_
  refine WI.seq ?_
  refine WI.cond (b:=_) rfl rfl (fun h0=> ?_) (fun h0=> ?_)
  ·try simp only[zB]at h0
   refine WI.skip ?_
   refine thenQ_normal ?_
   refine WI.seq ?_
   refine WI.block ?_
   refine WI.seq ?_
   have hi4:i<l.length:=by omega
   have hrw:=at_row l i hi4
   have hdr:=drop_getD l ([],[],()) i hi4
   have hma:l.getD i ([],[],())∈l:=by rw[show l.getD i ([],[],())=l[i] by simp[hi4]];exact List.getElem_mem hi4
   generalize l.getD i ([],[],())=a at hrw hdr hma
   have hna:=hn a hma
   have hga:=hg (tyV L (lowS a.1)) a hma
   rw[hdr,goA]at hgo
   obtain⟨t,ht⟩: ∃t,t=tyV L (lowS a.1):=⟨_,rfl⟩
   rw[←ht]at hga hgo
   have hmc:MCalls Tryz.prog f [.agg [.x (.str t.1),.x (.int .i64 t.2.1),.x (.bool t.2.2.1)],.agg [.x (.str a.1),.x (.sl (rows rStr a.2.1))]] [.box [.mref 1,.mref 2],.mpo .str true (tyM L),.mpo .str true (clM M),.box [.x (.str a.1),.x (.sl (rows rStr a.2.1))],.box [.x (.str t.1),.x (.int .i64 t.2.1),.x (.bool t.2.2.1)]] (.x (.int .i64 (g t a))) [.box [.mref 1,.mref 2],.mpo .str true (tyM L),.mpo .str true (clM M),.box [.x (.str a.1),.x (.sl (rows rStr a.2.1))],.box [.x (.str t.1),.x (.int .i64 t.2.1),.x (.bool t.2.2.1)]]:=PCalls.mc hga _
   have uu:=ξn uu (ξn hrw (ξn ht.symm (@tyD.eq_1)))
   refine WI.regB tabSmR_ok [0,2,8,13,14,15] ?_
   iterate 2 refine oG (hok:=by first|exact se|(exact ξt (by omega))|exact sd) ?_
   refine oG ?_
   refine oG (hok:=by first|exact se|(exact ξt (by omega))|exact sd) ?_
   refine oN ?_
   refine thenQ_normal ?_
   refine WI.seq ?_
   refine WI.dregB tabSmR_ok [0,2,8,9,13,14,15] ?_
   iterate 5 refine dFS ?_
   refine dQG (hok:=by first|exact se|(exact ξt (by omega))|exact sd) ?_
   refine dQC (hok:=by first|exact se|(exact ξt (by omega))|exact sd) ?_
   refine dFS ?_
   iterate 2 refine dFG ?_
   refine dKG ?_
   refine dAG (hok:=by first|exact se|(exact ξt (by omega))|exact sd) ?_
   refine dFS ?_
   refine dN ?_
   refine thenQ_normal ?_
   refine WI.seq ?_
   refine WI.regB (ptT_ok noTabs_ok hen hmc) [0,2,11,13,14,15] ?_
   refine oS ?_
   iterate 2 refine oG (hok:=by first|exact se|(exact ξt (by omega))|exact sd) ?_
   refine oC (hok:=by first|exact se|(exact ξt (by omega))|exact sd) ?_
   refine oS ?_
   refine oN ?_
   refine thenQ_normal ?_
   refine WI.seq ?_
   refine WI.post ?_
   refine WI.regB tabSmR_ok [0,2,11,13,14,15,34] ?_
   refine oS ?_
   refine oG (hok:=by first|exact se|(exact ξt (by omega))|exact sd) ?_
   refine oP ?_
   refine pDropT (scO L M) _ rfl (by simp) hO (by simp[D.inP,inL]) ?_
   refine pEnd ?_
   refine thenQ_normal ?_
   refine WI.cond (b:=_) rfl rfl (fun h1=> ?_) (fun h1=> ?_)
   ·try simp only[zB]at h1
    refine WI.seq ?_
    refine WI.regB tabSmR_ok [6] ?_
    iterate 2 refine oS ?_
    refine oN ?_
    refine thenQ_normal ?_
    refine WI.ret ?_
    refine blockQ_ret ?_
    refine thenQ_ret ?_
    refine thenQ_ret ?_
    refine blockQ_ret ?_
    refine thenQ_ret ?_
    first|refine lfR ?_|refine lfR2 ?_|refine lfRX ?_
    refine⟨?_,_,rfl⟩;rw[←hgo,if_pos (by simpa using h1)]
   ·try simp only[zB]at h1
    rw[if_neg (by simpa using h1)]at hgo
    have hgo2:=hgo
    refine WI.skip ?_
    refine blockQ_normal ?_
    refine thenQ_normal ?_
    refine WI.regB tabSmR_ok [0,2,13,14,15] ?_
    refine oG (hok:=by first|exact se|(exact ξt (by omega))|exact sd) ?_
    refine oS ?_
    refine oN ?_
    refine thenQ_normal ?_
    exact⟨⟨i+1,rfl,rfl,by omega,hgo2⟩,by simp[down,Ab.get,D.val,intOf?];omega⟩
  ·try simp only[zB]at h0
   refine WI.exit ?_
   refine thenQ_exit ?_
   refine thenQ_exit ?_
   refine blockQ_hit ?_
   refine thenQ_normal ?_
   refine WI.seq ?_
   refine WI.regB tabSmR_ok [6] ?_
   refine oS ?_
   refine oN ?_
   refine thenQ_normal ?_
   refine WI.ret ?_
   first|refine lfR ?_|refine lfR2 ?_|refine lfRX ?_
   rw[List.drop_of_length_le (by omega)]at hgo;refine⟨?_,[],by simp⟩;rw[←hgo];rfl
def goS (L:List (Tx×TTyp)):Sn→List TAttr→Int×Sn
 |S,[]=>(0,S)
 |S,a::l=>if w4 S (tyV L (lowS a.1)) a≠0 then(w4 S (tyV L (lowS a.1)) a,snS S (tyV L (lowS a.1)).1)else goS L (snS S (tyV L (lowS a.1)).1) l
abbrev sc5 (L:List (Tx×TTyp)) (M:List (Tx×TCls)) (S:Sn):List Ob:= [.box [.mref 1,.mref 2],.mpo .str true (tyM L),.mpo .str true (clM M),.box [.mref 4],.mpo .str false (encM kcS kcI S)]
theorem sc5_inP (L:List (Tx×TTyp)) (M:List (Tx×TCls)) (S:Sn):(sc5 L M S).all (Ob.inP (fun i=>decide (i<(sc5 L M S).length)))=true:=by
 simp[Ob.inP,inL,D.inP,ty_all,cl_all,encM_all]
theorem mlook_mset (S:Sn) (k:Tx) (v:Int) (k':Tx):mlook (mset S k v) k'=if k'=k then some v else mlook S k':=by
 induction S with
 |nil=>by_cases h:k'=k<;>simp[mset,mlook,h]
 |cons p S ih=>
  by_cases h1:k=p.1
  ·subst h1
   by_cases h:k'=p.1<;>simp[mset,mlook,h]
  ·by_cases h:k'=p.1
   ·have hne: ¬p.1=k:=fun e=>h1 e.symm
    subst h
    simp[mset,mlook,h1,hne]
   ·simp only[mset,mlook,h1,h,if_false,List.find?_cons,decide_false]at ih⊢
    exact ih
theorem snG_snS (S:Sn) (k k':Tx):snG (snS S k) k'=if k'=k then snG S k+1 else snG S k':=by
 unfold snG snS
 rw[mlook_mset]
 split<;>rfl
theorem un_sn (S:Sn):unM rStr (rInt .i64) (encM kcS kcI S)=some S:=un_M good_rStr (good_rInt .i64) S
def tabSm8:Tabs:=addT (addR (noTabs) 36 findrR) 66 w4T
theorem tabSm8_ok:SsOk Tryz.prog tabSm8:=addT_ok (addR_ok (noTabs_ok) (G_enters G_ok (p:=i36) rfl) findrR_ok) (G_enters G_ok (p:=i66) rfl) w4T_ok
theorem tabSm8_q36 (a:List D):tabSm8.q 36 a=none:=rfl
theorem tabSm8_t36 (a:List D) (o:List Ob):tabSm8.t 36 a o=(readT findrR a o).map fun r=>(r.1,r.2,o):=rfl
theorem tabSm8_r36 (a:List D) (o:List Ob):tabSm8.r 36 a o=readT findrR a o:=rfl
theorem tabSm8_q66 (a:List D):tabSm8.q 66 a=none:=rfl
theorem tabSm8_t66 (a:List D) (o:List Ob):tabSm8.t 66 a o=liftT w4T a o:=rfl
theorem tabSm8_r66 (a:List D) (o:List Ob):tabSm8.r 66 a o=none:=rfl
theorem tabSm8_k (f:FuncId) (a:List D) (o:List Ob):tabSm8.k f a o=none:=rfl
theorem attrsS_c (L:List (Tx×TTyp)) (M:List (Tx×TCls)) (e:TEntry) (S0:Sn) (hS0: ∀k,0≤snG S0 k∧snG S0 k≤1) (hl:e.2.1.length≤1000000) (hn: ∀a∈e.2.1,a.1.length≤1000000∧a.2.1.length≤1000000):
  MCalls Tryz.prog 69 [.ptr 0 0,entD e,.fn 66 [.ptr 3 0]] (sc5 L M S0) (.x (.int .i64 (goS L S0 e.2.1).1)) (sc5 L M (goS L S0 e.2.1).2):=by
 obtain⟨dn,l,u⟩:=e
 simp only at hl hn⊢
 have hO:=sc5_inP L M (goS L S0 l).2
 have h1:=un_ty L
 have h2:=un_cl M
 unfold entD
 refine FCalls.mcallsX (fcallsG (fz:=true) G_ok (p:=i69) rfl _ (ξ rfl) _ (fun C0 E0=> ?_)) (by first|decide|(simp;done)) hO (by first|rfl|exact hR)
 dsimp only[i69,qt,qi,qs,qb,qm,qa,qh,qj,qT,qF,qe,ql,qL,qf,q2,q3,q8,qz,qp,qP,qc,qk,qx,qy,qo,qr,qC,argsφ]
 have uu:=ξn @findrR.eq_1 (ξn @findrR.eq_2 (ξn @w4T.eq_1 (ξn @w4T.eq_2 (ξn h1 (ξn h2 (ξn @un_sn (ξn @ty_ren (ξn @cl_ren (ξn @ty_ids (ξn @cl_ids (ξn @ty_all (ξn @cl_all (ξn @encM_ren (ξn @encM_ids (ξn @encM_all (ξn @tabSm8_r36 (ξn @tabSm8_r66 (ξn @tabSm8_k (ξn @tabSm8_q36 (ξn @tabSm8_q66 (ξn @tabSm8_t36 (@tabSm8_t66))))))))))))))))))))))
 have tT:=tabSm8_ok
 refine nz ?_
 refine WI.regB tT [0,2,4] ?_
 refine oG ?_
 refine oS ?_
 refine oN ?_
 refine nz ?_
 refine WI.regB tT [0,2,13,14,15] ?_
 refine oS ?_
 iterate 2 refine oG (hok:=by first|exact se|(exact ξt (by omega))|exact sd) ?_
 refine oS ?_
 refine oN ?_
 refine nz ?_
 refine WI.dropT (sc5 L M S0) _ rfl (by simp) (sc5_inP L M S0) (by simp[D.inP,inL]) ?_
 refine WI.orderA [0,2,13,14,15] ?_
 refine WI.loop (fun φ os=> ∃(i:Nat) (S:Sn),φ= [(0,.ptr 0 0),(2,.fn 66 [.ptr 3 0]),(13,.x (.sl (rows rAttr l))),(14,.x (.int .i64 l.length)),(15,.x (.int .i64 i))]∧os=sc5 L M S∧i≤l.length∧(∀k,0≤snG S k∧snG S k≤1)∧goS L S (l.drop i)=goS L S0 l) (down l.length 15) ?_ (fun φ os hI=> ?_)
 ·exact⟨0,S0,rfl,rfl,by omega,hS0,rfl⟩
 ·obtain⟨i,S,rfl,rfl,hi,hSi,hgo⟩:=hI
  refine nz ?_
  refine WI.regB tT [0,2,13,14,15,16] ?_
  refine oG (hok:=by first|exact se|(exact ξt (by omega))|exact sd) ?_
  refine oN ?_
  refine nz ?_
  refine cd (fun h0=> ?_) (fun h0=> ?_)
  ·have hi4:i<l.length:=by omega
   have hrw:=at_row l i hi4
   have hdr:=drop_getD l ([],[],()) i hi4
   have hma:l.getD i ([],[],())∈l:=by rw[show l.getD i ([],[],())=l[i] by simp[hi4]];exact List.getElem_mem hi4
   generalize l.getD i ([],[],())=a at hrw hdr hma
   obtain⟨hna,hna2⟩:=hn a hma
   rw[hdr,goS]at hgo
   obtain⟨t,ht⟩: ∃t,t=tyV L (lowS a.1):=⟨_,rfl⟩
   rw[←ht]at hgo
   have hdd:decide ((0≤snG S t.1∧snG S t.1≤1000000)∧a.2.1.length≤1000000)=true:=ξt ⟨⟨(hSi t.1).1,by have:=(hSi t.1).2;omega⟩,hna2⟩
   obtain⟨tn,tk,tb,tu⟩:=t
   obtain⟨an,al,au⟩:=a
   have uu:=ξn uu (ξn hrw (ξn ht.symm (ξn (@tyD.eq_1) hdd)))
   refine WI.regB tT [0,2,8,13,14,15] ?_
   iterate 2 refine oG (hok:=by first|exact se|(exact ξt (by omega))|exact sd) ?_
   refine oG ?_
   refine oG (hok:=by first|exact se|(exact ξt (by omega))|exact sd) ?_
   refine oN ?_
   refine nz ?_
   refine WI.dregB tT [0,2,8,9,13,14,15] ?_
   iterate 5 refine dFS ?_
   refine dQG (hok:=by first|exact se|(exact ξt (by omega))|exact sd) ?_
   refine dQC (hok:=by first|exact se|(exact ξt (by omega))|exact sd) ?_
   refine dFS ?_
   iterate 2 refine dFG ?_
   refine dKG ?_
   refine dAG (hok:=by first|exact se|(exact ξt (by omega))|exact sd) ?_
   refine dFS ?_
   refine dN ?_
   refine nz ?_
   refine WI.regB tT [0,2,11,13,14,15] ?_
   refine oS ?_
   iterate 2 refine oG (hok:=by first|exact se|(exact ξt (by omega))|exact sd) ?_
   refine oC (hok:=by first|exact se|(exact ξt (by omega))|exact sd) ?_
   refine oS ?_
   refine oN ?_
   refine nz ?_
   refine WI.post ?_
   refine WI.regB tT [0,2,11,13,14,15,34] ?_
   refine oS ?_
   refine oG (hok:=by first|exact se|(exact ξt (by omega))|exact sd) ?_
   refine oP ?_
   refine pDropT (sc5 L M (snS S tn)) _ rfl (by simp) (sc5_inP L M _) (by simp[D.inP,inL]) ?_
   refine pEnd ?_
   refine nz ?_
   refine cd (fun h1=> ?_) (fun h1=> ?_)
   ·refine WI.regB tT [6] ?_
    iterate 2 refine oS ?_
    refine oN ?_
    refine nz ?_
    refine lf ?_
    rw[if_pos (by simpa using h1)]at hgo;rw[←hgo];exact⟨rfl,_,rfl⟩
   ·rw[if_neg (by simpa using h1)]at hgo
    have hgo2:=hgo
    have hw0:w4 S (tn,tk,tb,tu) (an,al,au)=0:=by simpa using h1
    have hSn: ∀k,0≤snG (snS S tn) k∧snG (snS S tn) k≤1:=fun k=>by
     rw[snG_snS]
     have hz: ¬0<snG S tn:=fun hh=>by unfold w4 at hw0;rw[if_pos (.inl hh)]at hw0;simp at hw0
     have:=hSi k
     have:=hSi tn
     split<;>omega
    refine WI.regB tT [0,2,13,14,15] ?_
    refine oG (hok:=by first|exact se|(exact ξt (by omega))|exact sd) ?_
    refine oS ?_
    refine oN ?_
    refine nz ?_
    exact⟨⟨i+1,_,rfl,rfl,by omega,hSn,hgo2⟩,by simp[down,Ab.get,D.val,intOf?];omega⟩
  ·refine WI.regB tT [6] ?_
   refine oS ?_
   refine oN ?_
   refine nz ?_
   refine lf ?_
   rw[List.drop_of_length_le (by omega)]at hgo;rw[←hgo];exact⟨rfl,[],by simp[goS]⟩
def smA (l:List TAttr):Prop:=l.length≤1000000∧ ∀a∈l,a.1.length≤1000000∧a.2.1.length≤1000000
instance (l:List TAttr):Decidable (smA l):=by unfold smA;infer_instance
def attrsG (g:TTyp→TAttr→Int) (dn:Tx) (A:List (List X)) (P1 P2:List Pr):Option (Bool×D×List Ob):=
 (unM rStr rTyp P1).bind fun L=>(unM rStr rCls P2).bind fun M=>(unrows rAttr A).bind fun l=>some (decide (smA l),.x (.int .i64 (goA g L l)),scO L M)
def attrsH (dn:Tx) (A:List (List X)) (P1 P2 P3:List Pr):Option (Bool×D×List Ob):=
 (unM rStr rTyp P1).bind fun L=>(unM rStr rCls P2).bind fun M=>(unM rStr (rInt .i64) P3).bind fun S=>(unrows rAttr A).bind fun l=>some (decide (smA l)&&decide (S.length=0),.x (.int .i64 (goS L S l).1),sc5 L M (goS L S l).2)
def attrsT:List D→List Ob→Option (Bool×D×List Ob)
 | [.ptr 0 0,.agg [.x (.str dn),.x (.sl A)],.fn 62 []],[.box [.mref 1,.mref 2],.mpo .str true P1,.mpo .str true P2]=>attrsG w1 dn A P1 P2
 | [.ptr 0 0,.agg [.x (.str dn),.x (.sl A)],.fn 63 []],[.box [.mref 1,.mref 2],.mpo .str true P1,.mpo .str true P2]=>attrsG w2 dn A P1 P2
 | [.ptr 0 0,.agg [.x (.str dn),.x (.sl A)],.fn 64 []],[.box [.mref 1,.mref 2],.mpo .str true P1,.mpo .str true P2]=>attrsG w3 dn A P1 P2
 | [.ptr 0 0,.agg [.x (.str dn),.x (.sl A)],.fn 66 [.ptr 3 0]],[.box [.mref 1,.mref 2],.mpo .str true P1,.mpo .str true P2,.box [.mref 4],.mpo .str false P3]=>attrsH dn A P1 P2 P3
 | [.ptr 0 0,.agg [.x (.str dn),.x (.sl A)],.fn 68 []],[.box [.mref 1,.mref 2],.mpo .str true P1,.mpo .str true P2]=>attrsG w5 dn A P1 P2
 |_,_=>none
theorem w1_enters:Enters Tryz.prog 62:=G_enters G_ok (p:=i62) rfl
theorem w2_enters:Enters Tryz.prog 63:=G_enters G_ok (p:=i63) rfl
theorem w3_enters:Enters Tryz.prog 64:=G_enters G_ok (p:=i64) rfl
theorem w5_enters:Enters Tryz.prog 68:=G_enters G_ok (p:=i68) rfl
theorem attrsG_ok {f:FuncId} {g:TTyp→TAttr→Int} (hen:Enters Tryz.prog f) (hg: ∀t (a:TAttr),a.2.1.length≤1000000→PCalls Tryz.prog f [tyD t,atD a] (.x (.int .i64 (g t a)))) {dn:Tx} {A:List (List X)} {P1 P2:List Pr} {r:D} {os':List Ob} (h:attrsG g dn A P1 P2=some (true,r,os')):
  MCalls Tryz.prog 69 [.ptr 0 0,.agg [.x (.str dn),.x (.sl A)],.fn f []] [.box [.mref 1,.mref 2],.mpo .str true P1,.mpo .str true P2] r os':=by
 unfold attrsG at h
 obtain⟨L,k1,h⟩:=ξB h
 obtain⟨M,k2,h⟩:=ξB h
 obtain⟨l,k3,h⟩:=ξB h
 simp only[ξI,ξP,ξe]at h
 obtain⟨⟨hl,hn⟩,rfl,rfl⟩:=h
 rw[unM_inv good_rStr good_rTyp k1,unM_inv good_rStr good_rCls k2,←rows_unrows good_rAttr k3]
 exact attrsP_c L M (dn,l,()) f g hen (fun t a ha=>hg t a (hn a ha).2) hl (fun a ha=>(hn a ha).1)
theorem attrsT_ok: ∀args os r os',attrsT args os=some (true,r,os')→MCalls Tryz.prog 69 args os r os':=by
 intro args os r os' h
 unfold attrsT at h
 split at h
 ·exact attrsG_ok w1_enters (fun t a _=>w1_c t a) h
 ·exact attrsG_ok w2_enters (fun t a _=>w2_c t a) h
 ·exact attrsG_ok w3_enters (fun t a hl=>w3_c t a hl) h
 ·unfold attrsH at h
  obtain⟨L,k1,h⟩:=ξB h
  obtain⟨M,k2,h⟩:=ξB h
  obtain⟨S,k4,h⟩:=ξB h
  obtain⟨l,k3,h⟩:=ξB h
  simp only[ξI,ξP,ξa,ξe]at h
  obtain⟨⟨⟨hl,hn⟩,hS⟩,rfl,rfl⟩:=h
  rw[unM_inv good_rStr good_rTyp k1,unM_inv good_rStr good_rCls k2,unM_inv good_rStr (good_rInt .i64) k4,←rows_unrows good_rAttr k3]
  obtain rfl:=List.eq_nil_of_length_eq_zero hS
  exact attrsS_c L M (_,l,()) [] (fun k=>by simp[snG,mlook]) hl hn
 ·exact attrsG_ok w5_enters (fun t a _=>w5_c t a) h
 ·cases h
def valsR (L:List (Tx×TTyp)) (l:List TAttr):Int:=
 if goA w1 L l≠0 then goA w1 L l else if goA w2 L l≠0 then goA w2 L l else if goA w3 L l≠0 then goA w3 L l else if(goS L [] l).1≠0 then(goS L [] l).1 else goA w5 L l
theorem un_at (l:List TAttr):unrows rAttr (rows rAttr l)=some l:=unrows_rows good_rAttr l
def tabSm9:Tabs:=addT (noTabs) 69 attrsT
theorem tabSm9_ok:SsOk Tryz.prog tabSm9:=addT_ok (noTabs_ok) (G_enters G_ok (p:=i69) rfl) attrsT_ok
theorem tabSm9_q69 (a:List D):tabSm9.q 69 a=none:=rfl
theorem tabSm9_t69 (a:List D) (o:List Ob):tabSm9.t 69 a o=liftT attrsT a o:=rfl
theorem tabSm9_r (f:FuncId) (a:List D) (o:List Ob):tabSm9.r f a o=none:=rfl
theorem tabSm9_k (f:FuncId) (a:List D) (o:List Ob):tabSm9.k f a o=none:=rfl
theorem values_c (L:List (Tx×TTyp)) (M:List (Tx×TCls)) (e:TEntry) (he:smA e.2.1):MCalls Tryz.prog 39 [.ptr 0 0,entD e] (scO L M) (.x (.int .i64 (valsR L e.2.1))) (scO L M):=by
 obtain⟨dn,l,u⟩:=e
 simp only at he⊢
 have hsm:=ξt he
 have hO:=scO_inP L M
 have h1:=un_ty L
 have h2:=un_cl M
 have h3:unM rStr (rInt .i64) []=some []:=rfl
 rcases hv:valsR L l with v
 unfold valsR at hv
 unfold entD
 refine FCalls.mcallsX (fcallsG (fz:=true) G_ok (p:=i39) rfl _ (ξ rfl) _ (fun C0 E0=> ?_)) (by first|decide|(simp;done)) hO (by first|rfl|exact hR)
 dsimp only[i39,qt,qi,qs,qb,qm,qa,qh,qj,qT,qF,qe,ql,qL,qf,q2,q3,q8,qz,qp,qP,qc,qk,qx,qy,qo,qr,qC,argsφ]
 have uu:=ξn @attrsT.eq_1 (ξn @attrsT.eq_2 (ξn @attrsT.eq_3 (ξn @attrsT.eq_4 (ξn @attrsT.eq_5 (ξn @attrsT.eq_6 (ξn @attrsG.eq_1 (ξn @attrsH.eq_1 (ξn h1 (ξn h2 (ξn h3 (ξn @un_sn (ξn @un_at (ξn hsm (ξn @ty_ren (ξn @cl_ren (ξn @ty_ids (ξn @cl_ids (ξn @ty_all (ξn @cl_all (ξn @encM_ren (ξn @encM_ids (ξn @encM_all (ξn @tabSm9_r (ξn @tabSm9_k (ξn @tabSm9_q69 (@tabSm9_t69))))))))))))))))))))))))))
 have tT:=tabSm9_ok
 refine nz ?_
 refine rg tT [0,3] ?_
 refine rg tT [0,3,5] ?_
 refine rg tT [0,3,11,12] ?_
 refine WI.loopN 6 ?_
 refine WI.round ?_
 refine nz ?_
 refine rg tT [0,3,11,12,13] ?_
 refine ct (fun h0=> ?_) (fun h0=> ?_)
 ·refine rg tT [0,3,7,11,12] ?_
  refine rg tT [0,3,8,11,12] ?_
  refine rg tT [0,3,8,11,12,20] ?_
  refine cd (fun h1=> ?_) (fun h1=> ?_)
  ·refine rg tT [4] ?_
   refine lf ?_
   refine⟨?_,_,rfl⟩;clear uu;grind
  ·refine rg tT [0,3,11,12] ?_
   refine WI.round ?_
   refine nz ?_
   refine rg tT [0,3,11,12,13] ?_
   refine ct (fun h0=> ?_) (fun h0=> ?_)
   ·refine rg tT [0,3,7,11,12] ?_
    refine rg tT [0,3,8,11,12] ?_
    refine rg tT [0,3,8,11,12,20] ?_
    refine cd (fun h1=> ?_) (fun h1=> ?_)
    ·refine rg tT [4] ?_
     refine lf ?_
     refine⟨?_,_,rfl⟩;clear uu;grind
    ·refine rg tT [0,3,11,12] ?_
     refine WI.round ?_
     refine nz ?_
     refine rg tT [0,3,11,12,13] ?_
     refine ct (fun h0=> ?_) (fun h0=> ?_)
     ·refine rg tT [0,3,7,11,12] ?_
      refine rg tT [0,3,8,11,12] ?_
      refine rg tT [0,3,8,11,12,20] ?_
      refine cd (fun h1=> ?_) (fun h1=> ?_)
      ·refine rg tT [4] ?_
       refine lf ?_
       refine⟨?_,_,rfl⟩;clear uu;grind
      ·refine rg tT [0,3,11,12] ?_
       refine WI.round ?_
       refine nz ?_
       refine rg tT [0,3,11,12,13] ?_
       refine ct (fun h0=> ?_) (fun h0=> ?_)
       ·refine rg tT [0,3,7,11,12] ?_
        refine rg tT [0,3,8,11,12] ?_
        refine rg tT [0,3,8,11,12,20] ?_
        refine cd (fun h1=> ?_) (fun h1=> ?_)
        ·refine rg tT [4] ?_
         refine lf ?_
         refine⟨?_,_,rfl⟩;clear uu;grind
        ·refine rg tT [0,3,11,12] ?_
         refine WI.round ?_
         refine nz ?_
         refine rg tT [0,3,11,12,13] ?_
         refine ct (fun h0=> ?_) (fun h0=> ?_)
         ·refine rg tT [0,3,7,11,12] ?_
          refine rg tT [0,3,8,11,12] ?_
          refine rg tT [0,3,8,11,12,20] ?_
          refine cd (fun h1=> ?_) (fun h1=> ?_)
          ·refine rg tT [4] ?_
           refine lf ?_
           refine⟨?_,_,rfl⟩;clear uu;grind
          ·refine rg tT [0,3,11,12] ?_
           refine WI.round ?_
           refine nz ?_
           refine rg tT [0,3,11,12,13] ?_
           refine ce (fun h0=> ?_) (fun h0=> ?_)
           ·exact absurd h0 (by decide)
           ·refine rg tT [4] ?_
            refine lf ?_
            refine⟨?_,_,rfl⟩;clear uu;grind
         ·exact absurd h0 (by decide)
       ·exact absurd h0 (by decide)
     ·exact absurd h0 (by decide)
   ·exact absurd h0 (by decide)
 ·exact absurd h0 (by decide)
def valuesT:List D→List Ob→Option (Bool×D×List Ob)
 | [.ptr 0 0,.agg [.x (.str dn),.x (.sl R)]],[.box [.mref 1,.mref 2],.mpo .str true P1,.mpo .str true P2]=>(unM rStr rTyp P1).bind fun L=>(unM rStr rCls P2).bind fun M=>(unrows rAttr R).bind fun l=>some (decide (smA l),.x (.int .i64 (valsR L l)),[.box [.mref 1,.mref 2],.mpo .str true (tyM L),.mpo .str true (clM M)])
 |_,_=>none
theorem valuesT_ok: ∀args os r os',valuesT args os=some (true,r,os')→MCalls Tryz.prog 39 args os r os':=by
 intro args os r os' h
 unfold valuesT at h
 split at h
 ·rename_i dn R P1 P2
  obtain⟨L,hm0,h⟩:=ξB h
  obtain⟨M,hm1,h⟩:=ξB h
  obtain⟨l,hr0,h⟩:=ξB h
  simp only[ξI,ξP,ξa,ξe,true_and]at h
  obtain⟨h1,rfl,rfl⟩:=h
  rw[unM_inv good_rStr good_rTyp hm0]
  rw[unM_inv good_rStr good_rCls hm1]
  rw[←rows_unrows good_rAttr hr0]
  exact values_c L M (dn,l,()) h1
 ·cases h
def OC:Tx:= [111,98,106,101,99,116,99,108,97,115,115]
def snL (l:List Tx):Sn:=l.foldl snS []
theorem snL_snoc (l:List Tx) (k:Tx):snL (l++ [k])=snS (snL l) k:=by unfold snL;rw[List.foldl_append];rfl
theorem snL_look (l:List Tx) (k:Tx):mlook (snL l) k=if k∈l then some (l.count k:Int)else none:=by
 suffices h: ∀(n:Nat) (l:List Tx),l.length=n→mlook (snL l) k=if k∈l then some (l.count k:Int)else none from h _ l rfl
 intro n
 induction n with
 |zero=>intro l hl;obtain rfl:=List.eq_nil_of_length_eq_zero hl;rfl
 |succ n ihn=>
  intro l hl
  rcases List.eq_nil_or_concat l with rfl|⟨l0,x,rfl⟩
  ·simp at hl
  have ih:=ihn l0 (by simpa using hl)
  rw[List.concat_eq_append,snL_snoc]
  unfold snS
  rw[mlook_mset]
  by_cases h:k=x
  ·subst h
   rw[if_pos rfl,if_pos (by simp)]
   unfold snG
   rw[ih,List.count_append]
   by_cases hk:k∈l0
   ·rw[if_pos hk];simp
   ·rw[if_neg hk,List.count_eq_zero_of_not_mem hk];simp
  ·rw[if_neg h,ih,List.count_append]
   have hx: ¬x=k:=fun e=>h e.symm
   by_cases hk:k∈l0
   ·rw[if_pos hk,if_pos (by simp[hk])];simp[hx]
   ·rw[if_neg hk,if_neg (by simp[hk,h])]
abbrev snM (l:List Tx):List Pr:=encM kcS kcI (snL l)
theorem snM_yes {l:List Tx} {k:Tx} (h:k∈l):mgetX (snM l) [X.str k]=some [D.x (X.int .i64 (l.count k))]:=by
 rw[sn_get,snL_look,if_pos h];rfl
theorem snM_no {l:List Tx} {k:Tx} (h:k∉l):mgetX (snM l) [X.str k]=none:=by
 rw[sn_get,snL_look,if_neg h];rfl
theorem snM_up {l:List Tx} {k:Tx} (h:k∈l):msetX (snM l) [X.str k] [D.x (X.int .i64 ((l.count k:Int)+1))]=snM (l++ [k]):=by
 rw[sn_set]
 unfold snM
 rw[snL_snoc]
 unfold snS snG
 rw[snL_look,if_pos h];rfl
theorem snM_new {l:List Tx} {k:Tx} (h:k∉l):msetX (snM l) [X.str k] [D.x (X.int .i64 1)]=snM (l++ [k]):=by
 rw[sn_set]
 unfold snM
 rw[snL_snoc]
 unfold snS snG
 rw[snL_look,if_neg h];rfl
theorem snL_keys (l:List Tx) (k:Tx):k∈l↔ ∃n,(k,n)∈snL l:=by
 have key: ∀(S:Sn) (k:Tx),(mlook S k).isSome=true↔ ∃n,(k,n)∈S:=by
  intro S k
  induction S with
  |nil=>simp[mlook]
  |cons p S ih=>
   by_cases h:k=p.1
   ·subst h;simp[mlook];exact⟨p.2,.inl rfl⟩
   ·have e:mlook (p::S) k=mlook S k:=by simp[mlook,h]
    rw[e,ih]
    constructor
    ·rintro⟨n,hn⟩;exact⟨n,List.mem_cons_of_mem _ hn⟩
    ·rintro⟨n,hn⟩
     rcases List.mem_cons.1 hn with hh|hh
     ·exact absurd (congrArg Prod.fst hh) h
     ·exact⟨n,hh⟩
 rw[←key,snL_look]
 split<;>simp_all
def namA (l:List TAttr):List Tx:=l.map fun a=>lowS a.1
def clsA (l:List TAttr):List Tx:=l.foldl (fun c a=>if lowS a.1=OC then a.2.1 else c) []
def mayC (M:List (Tx×TCls)) (cs:List Tx):List Tx:=cs.flatMap fun n=>(clV M (lowS n)).2.1++(clV M (lowS n)).2.2.1
def clOk (M:List (Tx×TCls)) (H:List Tx) (n:Tx):Bool:=(mlook M (lowS n)).isSome&&(clV M (lowS n)).2.1.all fun x=>decide (x∈H)
def chkC (L:List (Tx×TTyp)) (M:List (Tx×TCls)) (l:List TAttr):Int:=
 if valsR L l≠0 then valsR L l
 else if((clsA l).all (clOk M (namA l))&&((namA l).all (fun h=>decide (h∈OC::mayC M (clsA l)))&&decide (clsA l≠ [])))=true then 0 else 65
theorem namA_take (l:List TAttr) (i:Nat) (h:i<l.length):namA (l.take (i+1))=namA (l.take i)++ [lowS (l.getD i ([],[],())).1]:=by
 unfold namA;rw[List.take_succ_eq_append_getElem h,List.map_append];simp[h]
theorem clsA_take (l:List TAttr) (i:Nat) (h:i<l.length):clsA (l.take (i+1))=if lowS (l.getD i ([],[],())).1=OC then(l.getD i ([],[],())).2.1 else clsA (l.take i):=by
 unfold clsA;rw[List.take_succ_eq_append_getElem h,List.foldl_append];simp[h]
theorem clsA_sm {l:List TAttr} (h:smA l) (hv: ∀a∈l,∀v∈a.2.1,v.length≤1000000):(clsA l).length≤1000000∧ ∀v∈clsA l,v.length≤1000000:=by
 have key: ∀(m:List TAttr) (c:List Tx),(∀a∈m,a∈l)→(c.length≤1000000∧ ∀v∈c,v.length≤1000000)→(m.foldl (fun c a=>if lowS a.1=OC then a.2.1 else c) c).length≤1000000∧ ∀v∈m.foldl (fun c a=>if lowS a.1=OC then a.2.1 else c) c,v.length≤1000000:=by
  intro m
  induction m with
  |nil=>intro c _ hc;exact hc
  |cons a m ih=>
   intro c hm hc
   rw[List.foldl_cons]
   refine ih _ (fun x hx=>hm x (List.mem_cons_of_mem _ hx)) ?_
   split
   ·exact⟨(h.2 a (hm a List.mem_cons_self)).2,hv a (hm a List.mem_cons_self)⟩
   ·exact hc
 exact key l [] (fun _ h=>h) (by simp)
def bdC (M:List (Tx×TCls)):Prop:= ∀k,(clV M k).2.1.length≤1000000∧(clV M k).2.2.1.length≤1000000
theorem mayC_take (M:List (Tx×TCls)) (cs:List Tx) (i:Nat) (h:i<cs.length):mayC M (cs.take (i+1))=mayC M (cs.take i)++((clV M (lowS (cs.getD i []))).2.1++(clV M (lowS (cs.getD i []))).2.2.1):=by
 unfold mayC;rw[List.take_succ_eq_append_getElem h,List.flatMap_append];simp[h]
theorem mayC_len {M:List (Tx×TCls)} (hM:bdC M): ∀cs:List Tx,(mayC M cs).length≤cs.length*2000000
 | []=>by simp[mayC]
 |n::cs=>by
  have:=mayC_len hM cs
  have:=hM (lowS n)
  unfold mayC at*
  rw[List.flatMap_cons,ξA,ξA,ξC];omega
def tabSma:Tabs:=addQ (addQ (addT (addT (noTabs) 39 valuesT) 14 classT) 37 lowerYG) 40 codeG
theorem tabSma_ok:SsOk Tryz.prog tabSma:=addQ_ok (addQ_ok (addT_ok (addT_ok (noTabs_ok) (G_enters G_ok (p:=i39) rfl) valuesT_ok) (G_enters G_ok (p:=i14) rfl) classT_ok) (G_enters G_ok (p:=i37) rfl) lowerYG_ok) (G_enters G_ok (p:=i40) rfl) codeG_ok
theorem tabSma_q39 (a:List D):tabSma.q 39 a=none:=rfl
theorem tabSma_t39 (a:List D) (o:List Ob):tabSma.t 39 a o=liftT valuesT a o:=rfl
theorem tabSma_q14 (a:List D):tabSma.q 14 a=none:=rfl
theorem tabSma_t14 (a:List D) (o:List Ob):tabSma.t 14 a o=liftT classT a o:=rfl
theorem tabSma_q37 (a:List D):tabSma.q 37 a=lowerYG a:=rfl
theorem tabSma_q40 (a:List D):tabSma.q 40 a=codeG a:=rfl
theorem tabSma_r (f:FuncId) (a:List D) (o:List Ob):tabSma.r f a o=none:=rfl
theorem tabSma_k (f:FuncId) (a:List D) (o:List Ob):tabSma.k f a o=none:=rfl
theorem mem_eraseP {α:Type} {l:List α} {i:Nat} {q:α} (h:l[i]? =some q): ∀x,x∈l↔x=q∨x∈l.eraseIdx i:=by
 intro x
 have hp:l.Perm (q::l.eraseIdx i):=by
  obtain⟨hi,he⟩:=ξG h
  rw[List.eraseIdx_eq_take_drop_succ]
  conv=>lhs;rw[←List.take_append_drop i l,List.drop_eq_getElem_cons hi,he]
  exact List.perm_middle
 rw[hp.mem_iff,List.mem_cons]
abbrev scE (L:List (Tx×TTyp)) (M:List (Tx×TCls)) (dn:Tx) (l:List TAttr) (H:List Tx):List Ob:= [.box [.mref 1,.mref 2],.mpo .str true (tyM L),.mpo .str true (clM M),.box [.x (.str dn),.x (.sl (rows rAttr l))],.mpo .str false (snM H)]
abbrev scF (L:List (Tx×TTyp)) (M:List (Tx×TCls)) (dn:Tx) (l:List TAttr) (H Y:List Tx):List Ob:= [.box [.mref 1,.mref 2],.mpo .str true (tyM L),.mpo .str true (clM M),.box [.x (.str dn),.x (.sl (rows rAttr l))],.mpo .str false (snM H),.mpo .str false (snM Y)]
theorem scE_inP (L:List (Tx×TTyp)) (M:List (Tx×TCls)) (dn:Tx) (l:List TAttr) (H:List Tx):(scE L M dn l H).all (Ob.inP (fun i=>decide (i<(scE L M dn l H).length)))=true:=by
 simp[Ob.inP,inL,D.inP,ty_all,cl_all,encM_all]
theorem scF_inP (L:List (Tx×TTyp)) (M:List (Tx×TCls)) (dn:Tx) (l:List TAttr) (H Y:List Tx):(scF L M dn l H Y).all (Ob.inP (fun i=>decide (i<(scF L M dn l H Y).length)))=true:=by
 simp[Ob.inP,inL,D.inP,ty_all,cl_all,encM_all]
abbrev scG (L:List (Tx×TTyp)) (M:List (Tx×TCls)) (dn:Tx) (l:List TAttr) (H Y:List Tx) (c:TCls):List Ob:= [.box [.mref 1,.mref 2],.mpo .str true (tyM L),.mpo .str true (clM M),.box [.x (.str dn),.x (.sl (rows rAttr l))],.mpo .str false (snM H),.mpo .str false (snM Y),.box [.x (.str c.1),.x (.sl (rows rStr c.2.1)),.x (.sl (rows rStr c.2.2.1))]]
set_option maxHeartbeats 4000000 in
theorem check_c (L:List (Tx×TTyp)) (M:List (Tx×TCls)) (e:TEntry) (he:smA e.2.1) (hv: ∀a∈e.2.1,∀v∈a.2.1,v.length≤1000000) (hM:bdC M):MCalls Tryz.prog 17 [.ptr 0 0,entD e] (scO L M) (.x (.int .i64 (chkC L M e.2.1))) (scO L M):=by
 obtain⟨dn,l,u⟩:=e
 simp only at he hv⊢
 have hsm:=ξt he
 have hll:l.length≤1000000:=he.1
 have hO:=scO_inP L M
 have h1':=un_ty L
 have h2':=un_cl M
 obtain⟨hcl,hcv⟩:=clsA_sm he hv
 have hoc:(OC:Tx)= [111,98,106,101,99,116,99,108,97,115,115]:=rfl
 have hns:msetX [] [X.str [111,98,106,101,99,116,99,108,97,115,115]] [D.x (X.int .i64 1)]=snM [OC]:=by rfl
 rcases hres:chkC L M l with v
 unfold chkC at hres
 unfold entD
 refine FCalls.mcallsX (fcallsG (fz:=true) G_ok (p:=i17) rfl _ (ξ rfl) _ (fun C0 E0=> ?_)) (by first|decide|(simp;done)) hO (by first|rfl|exact hR)
 dsimp only[i17,qt,qi,qs,qb,qm,qa,qh,qj,qT,qF,qe,ql,qL,qf,q2,q3,q8,qz,qp,qP,qc,qk,qx,qy,qo,qr,qC,argsφ]
 have uu:=ξn @valuesT.eq_1 (ξn @valuesT.eq_2 (ξn @classT.eq_1 (ξn @classT.eq_2 (ξn @lowerYG.eq_1 (ξn @lowerYG.eq_2 (ξn @codeG.eq_1 (ξn @codeG.eq_2 (ξn @h1' (ξn @h2' (ξn @un_at (ξn hsm (ξn hns (ξn @ty_ren (ξn @cl_ren (ξn @ty_ids (ξn @cl_ids (ξn @ty_all (ξn @cl_all (ξn @encM_ren (ξn @encM_ids (ξn @encM_all (ξn @tabSma_r (ξn @tabSma_k (ξn @tabSma_q14 (ξn @tabSma_q37 (ξn @tabSma_q39 (ξn @tabSma_q40 (ξn @tabSma_t39 (@tabSma_t14)))))))))))))))))))))))))))))
 refine WI.seq ?_
 refine WI.regB tabSma_ok [0,3] ?_
 refine oG ?_
 refine oS ?_
 refine oN ?_
 refine thenQ_normal ?_
 refine WI.seq ?_
 refine WI.seq ?_
 refine WI.regB tabSma_ok [0,3,22] ?_
 refine oS ?_
 refine oG (hok:=by first|exact se|(exact ξt (by omega))|(clear uu;grind)|exact sd) ?_
 refine oN ?_
 refine thenQ_normal ?_
 refine WI.cond (b:=_) rfl rfl (fun h0=> ?_) (fun h0=> ?_)
 ·exfalso
  simp at h0
 ·try simp only[zB]at h0
  refine WI.skip ?_
  refine thenQ_normal ?_
  refine WI.seq ?_
  refine WI.seq ?_
  refine WI.regB tabSma_ok [0,3,5] ?_
  refine oS ?_
  refine oG (hok:=by first|exact se|(exact ξt (by omega))|(clear uu;grind)|exact sd) ?_
  refine oC (hok:=by first|exact se|(exact ξt (by omega))|(clear uu;grind)|exact sd) ?_
  refine oS ?_
  refine oN ?_
  refine thenQ_normal ?_
  refine WI.seq ?_
  refine WI.regB tabSma_ok [0,3,5,27] ?_
  refine oS ?_
  refine oG (hok:=by first|exact se|(exact ξt (by omega))|(clear uu;grind)|exact sd) ?_
  refine oN ?_
  refine thenQ_normal ?_
  refine WI.cond (b:=_) rfl rfl (fun h1=> ?_) (fun h1=> ?_)
  ·try simp only[zB]at h1
   rw[if_pos (by simpa using h1)]at hres
   refine WI.seq ?_
   refine WI.regB tabSma_ok [4] ?_
   iterate 2 refine oS ?_
   refine oN ?_
   refine thenQ_normal ?_
   refine WI.ret ?_
   refine thenQ_ret ?_
   first|refine lfR ?_|refine lfR2 ?_|refine lfRX ?_
   exact⟨by rw[hres],_,rfl⟩
  ·try simp only[zB]at h1
   rw[if_neg (by simpa using h1)]at hres
   refine WI.skip ?_
   refine thenQ_normal ?_
   refine WI.seq ?_
   refine WI.regB tabSma_ok [0,3,6] ?_
   refine oG (hok:=by first|exact se|(exact ξt (by omega))|(clear uu;grind)|exact sd) ?_
   refine oS ?_
   refine oN ?_
   refine thenQ_normal ?_
   refine WI.seq ?_
   refine WI.regB tabSma_ok [0,3,6,7] ?_
   refine oS ?_
   refine oN ?_
   refine thenQ_normal ?_
   refine WI.seq ?_
   refine WI.seq ?_
   refine WI.regB tabSma_ok [0,6,7,31,32,33] ?_
   refine oS ?_
   iterate 2 refine oG (hok:=by first|exact se|(exact ξt (by omega))|(clear uu;grind)|exact sd) ?_
   refine oS ?_
   refine oN ?_
   refine thenQ_normal ?_
   refine WI.block ?_
   refine WI.nnA ?_
   refine WI.orderA [0,6,7,31,32,33] ?_
   refine WI.loop (fun φ os=> ∃(i:Nat),φ= [(0,.ptr 0 0),(6,.mref 4),(7,.x (.sl (rows rStr (clsA (l.take i))))),(31,.x (.sl (rows rAttr l))),(32,.x (.int .i64 l.length)),(33,.x (.int .i64 i))]∧os=scE L M dn l (namA (l.take i))∧i≤l.length) (down l.length 33) ?_ (fun φ os hI=> ?_)
   ·exact⟨0,rfl,rfl,by omega⟩
   ·obtain⟨i,rfl,rfl,hi⟩:=hI
    refine WI.seq ?_
    refine WI.regB tabSma_ok [0,6,7,31,32,33,34] ?_
    refine oG (hok:=by first|exact se|(exact ξt (by omega))|(clear uu;grind)|exact sd) ?_
    refine oN ?_
    refine thenQ_normal ?_
    refine WI.seq ?_
    refine WI.cond (b:=_) rfl rfl (fun h2=> ?_) (fun h2=> ?_)
    ·try simp only[zB]at h2
     refine WI.skip ?_
     refine thenQ_normal ?_
     refine WI.seq ?_
     refine WI.block ?_
     refine WI.seq ?_
     have hi4:i<l.length:=by omega
     have hrw:=at_row l i hi4
     have hnt:=namA_take l i hi4
     have hct:=clsA_take l i hi4
     have hma:l.getD i ([],[],())∈l:=by rw[show l.getD i ([],[],())=l[i] by simp[hi4]];exact List.getElem_mem hi4
     generalize l.getD i ([],[],())=a at hrw hnt hct hma
     have hna:=(he.2 a hma).1
     have hcn:(namA (l.take i)).count (lowS a.1)≤1000000:=Nat.le_trans List.count_le_length (by unfold namA;rw[List.length_map,List.length_take];have:=he.1;omega)
     have uu:=ξn uu hrw
     refine WI.regB tabSma_ok [0,6,7,9,31,32,33] ?_
     iterate 2 refine oG (hok:=by first|exact se|(exact ξt (by omega))|(clear uu;grind)|exact sd) ?_
     refine oG ?_
     refine oG (hok:=by first|exact se|(exact ξt (by omega))|(clear uu;grind)|exact sd) ?_
     refine oN ?_
     refine thenQ_normal ?_
     refine WI.seq ?_
     refine WI.regB tabSma_ok [0,6,7,9,10,31,32,33] ?_
     refine oS ?_
     refine oG (hok:=by first|exact se|(exact ξt (by omega))|(clear uu;grind)|exact sd) ?_
     refine oC (hok:=by first|exact se|(exact ξt (by omega))|(clear uu;grind)|exact sd) ?_
     refine oS ?_
     refine oN ?_
     refine thenQ_normal ?_
     refine WI.seq ?_
     by_cases hk:lowS a.1∈namA (l.take i)
     ·have hg1:=snM_yes hk
      have hg2:=snM_up hk
      have uu:=ξn uu (ξn hg1 hg2)
      refine WI.regB tabSma_ok [0,6,7,9,10,31,32,33] ?_
      iterate 2 refine oS ?_
      iterate 3 refine oG (hok:=by first|exact se|(exact ξt (by omega))|(clear uu;grind)|exact sd) ?_
      refine oN ?_
      refine thenQ_normal ?_
      refine WI.seq ?_
      refine WI.regB tabSma_ok [0,6,7,9,31,32,33,45] ?_
      refine oS ?_
      refine oG (hok:=by first|exact se|(exact ξt (by omega))|(clear uu;grind)|exact sd) ?_
      refine oN ?_
      refine thenQ_normal ?_
      refine WI.cond (b:=_) rfl rfl (fun h3=> ?_) (fun h3=> ?_)
      ·try simp only[zB]at h3
       rw[if_pos (by rw[hoc];simpa using h3)]at hct
       refine WI.regB tabSma_ok [0,6,7,31,32,33] ?_
       refine oS ?_
       refine oG (hok:=by first|exact se|(exact ξt (by omega))|(clear uu;grind)|exact sd) ?_
       refine oS ?_
       refine oN ?_
       refine blockQ_normal ?_
       refine thenQ_normal ?_
       refine WI.orderA [0,6,7,31,32,33] ?_
       refine WI.dropT (scE L M dn l (namA (l.take i)++ [lowS a.1])) _ rfl (by simp) (scE_inP L M dn l _) (by simp[D.inP,inL]) ?_
       refine WI.regB tabSma_ok [0,6,7,31,32,33] ?_
       refine oG (hok:=by first|exact se|(exact ξt (by omega))|(clear uu;grind)|exact sd) ?_
       refine oS ?_
       refine oN ?_
       refine thenQ_normal ?_
       exact⟨⟨i+1,by rw[hct];first|done|rfl,by rw[hnt],by omega⟩,by simp[down,Ab.get,D.val,intOf?];omega⟩
      ·try simp only[zB]at h3
       rw[if_neg (fun e=>h3 (e.trans hoc))]at hct
       refine WI.skip ?_
       refine blockQ_normal ?_
       refine thenQ_normal ?_
       refine WI.orderA [0,6,7,31,32,33] ?_
       refine WI.dropT (scE L M dn l (namA (l.take i)++ [lowS a.1])) _ rfl (by simp) (scE_inP L M dn l _) (by simp[D.inP,inL]) ?_
       refine WI.regB tabSma_ok [0,6,7,31,32,33] ?_
       refine oG (hok:=by first|exact se|(exact ξt (by omega))|(clear uu;grind)|exact sd) ?_
       refine oS ?_
       refine oN ?_
       refine thenQ_normal ?_
       exact⟨⟨i+1,by rw[hct];first|done|rfl,by rw[hnt],by omega⟩,by simp[down,Ab.get,D.val,intOf?];omega⟩
     ·have hg1:=snM_no hk
      have hg2:=snM_new hk
      have uu:=ξn uu (ξn hg1 hg2)
      refine WI.regB tabSma_ok [0,6,7,9,10,31,32,33] ?_
      iterate 2 refine oS ?_
      iterate 3 refine oG (hok:=by first|exact se|(exact ξt (by omega))|(clear uu;grind)|exact sd) ?_
      refine oN ?_
      refine thenQ_normal ?_
      refine WI.seq ?_
      refine WI.regB tabSma_ok [0,6,7,9,31,32,33,45] ?_
      refine oS ?_
      refine oG (hok:=by first|exact se|(exact ξt (by omega))|(clear uu;grind)|exact sd) ?_
      refine oN ?_
      refine thenQ_normal ?_
      refine WI.cond (b:=_) rfl rfl (fun h3=> ?_) (fun h3=> ?_)
      ·try simp only[zB]at h3
       rw[if_pos (by rw[hoc];simpa using h3)]at hct
       refine WI.regB tabSma_ok [0,6,7,31,32,33] ?_
       refine oS ?_
       refine oG (hok:=by first|exact se|(exact ξt (by omega))|(clear uu;grind)|exact sd) ?_
       refine oS ?_
       refine oN ?_
       refine blockQ_normal ?_
       refine thenQ_normal ?_
       refine WI.orderA [0,6,7,31,32,33] ?_
       refine WI.dropT (scE L M dn l (namA (l.take i)++ [lowS a.1])) _ rfl (by simp) (scE_inP L M dn l _) (by simp[D.inP,inL]) ?_
       refine WI.regB tabSma_ok [0,6,7,31,32,33] ?_
       refine oG (hok:=by first|exact se|(exact ξt (by omega))|(clear uu;grind)|exact sd) ?_
       refine oS ?_
       refine oN ?_
       refine thenQ_normal ?_
       exact⟨⟨i+1,by rw[hct];first|done|rfl,by rw[hnt],by omega⟩,by simp[down,Ab.get,D.val,intOf?];omega⟩
      ·try simp only[zB]at h3
       rw[if_neg (fun e=>h3 (e.trans hoc))]at hct
       refine WI.skip ?_
       refine blockQ_normal ?_
       refine thenQ_normal ?_
       refine WI.orderA [0,6,7,31,32,33] ?_
       refine WI.dropT (scE L M dn l (namA (l.take i)++ [lowS a.1])) _ rfl (by simp) (scE_inP L M dn l _) (by simp[D.inP,inL]) ?_
       refine WI.regB tabSma_ok [0,6,7,31,32,33] ?_
       refine oG (hok:=by first|exact se|(exact ξt (by omega))|(clear uu;grind)|exact sd) ?_
       refine oS ?_
       refine oN ?_
       refine thenQ_normal ?_
       exact⟨⟨i+1,by rw[hct];first|done|rfl,by rw[hnt],by omega⟩,by simp[down,Ab.get,D.val,intOf?];omega⟩
    ·try simp only[zB]at h2
     refine WI.exit ?_
     refine thenQ_exit ?_
     refine thenQ_exit ?_
     refine blockQ_hit ?_
     refine thenQ_normal ?_
     refine WI.seq ?_
     obtain rfl:i=l.length:=by omega
     rw[List.take_length]
     refine WI.orderA [0,6,7] ?_
     generalize namA l=H at hres⊢
     generalize clsA l=cs at hres hcl hcv⊢
     refine WI.regB tabSma_ok [0,6,7,11] ?_
     iterate 2 refine oG (hok:=by first|exact se|(exact ξt (by omega))|(clear uu;grind)|exact sd) ?_
     iterate 2 refine oS ?_
     refine oN ?_
     refine thenQ_normal ?_
     refine WI.seq ?_
     refine WI.seq ?_
     refine WI.regB tabSma_ok [0,6,7,11,51,52,53] ?_
     refine oS ?_
     refine oG (hok:=by first|exact se|(exact ξt (by omega))|(clear uu;grind)|exact sd) ?_
     refine oS ?_
     refine oN ?_
     refine thenQ_normal ?_
     refine WI.block ?_
     refine WI.orderA [0,6,7,11,51,52,53] ?_
     refine WI.loop (fun φ os=> ∃(i:Nat),φ= [(0,.ptr 0 0),(6,.mref 4),(7,.x (.sl (rows rStr cs))),(11,.mref 5),(51,.x (.sl (rows rStr cs))),(52,.x (.int .i64 cs.length)),(53,.x (.int .i64 i))]∧os=scF L M dn l H (OC::mayC M (cs.take i))∧i≤cs.length∧(cs.take i).all (clOk M H)=true) (down cs.length 53) ?_ (fun φ os hI=> ?_)
     ·exact⟨0,rfl,rfl,by omega,rfl⟩
     ·obtain⟨i,rfl,rfl,hi,hall⟩:=hI
      refine WI.seq ?_
      refine WI.regB tabSma_ok [0,6,7,11,51,52,53,54] ?_
      refine oG (hok:=by first|exact se|(exact ξt (by omega))|(clear uu;grind)|exact sd) ?_
      refine oN ?_
      refine thenQ_normal ?_
      refine WI.seq ?_
      refine WI.cond (b:=_) rfl rfl (fun h4=> ?_) (fun h4=> ?_)
      ·try simp only[zB]at h4
       refine WI.skip ?_
       refine thenQ_normal ?_
       refine WI.seq ?_
       refine WI.block ?_
       refine WI.seq ?_
       have hi4:i<cs.length:=by omega
       have hrw:=str_row cs i hi4
       have hmt:=mayC_take M cs i hi4
       have hnl:(cs.getD i []).length≤1000000:=by rw[show cs.getD i []=cs[i] by simp[hi4]];exact hcv _ (List.getElem_mem hi4)
       have hal:=all_snoc (clOk M H) cs i hi4
       have hgi:cs[i]=cs.getD i []:=by simp[hi4]
       have hno:clOk M H (cs.getD i [])=false→cs.all (clOk M H)=false:=fun h=>all_take_false (clOk M H) cs i hi4 (by rw[hgi];exact h)
       rw[hgi]at hal
       have hYl:=mayC_len hM (cs.take i)
       rw[List.length_take]at hYl
       generalize mayC M (cs.take i)=Y0 at hmt hYl⊢
       generalize cs.getD i []=n at hrw hmt hnl hal hno
       have hb:=hM (lowS n)
       have hcd:clOk M H n=((mlook M (lowS n)).isSome&&(clV M (lowS n)).2.1.all fun x=>decide (x∈H)):=rfl
       obtain⟨c,hc⟩: ∃c,c=clV M (lowS n):=⟨_,rfl⟩
       rw[←hc]at hmt hb hcd
       have hd47:decide (n.length≤140737488355328)=true:=ξt (by omega)
       have uu:=ξn uu (ξn hrw (ξn hc.symm (ξn (@clD.eq_1) hd47)))
       refine WI.regB tabSma_ok [0,6,7,11,13,51,52,53] ?_
       iterate 2 refine oG (hok:=by first|exact se|(exact ξt (by omega))|(clear uu;grind)|exact sd) ?_
       refine oS ?_
       refine oN ?_
       refine thenQ_normal ?_
       refine WI.seq ?_
       refine WI.regB tabSma_ok [0,6,7,11,14,15,51,52,53] ?_
       iterate 2 refine oS ?_
       refine oC (hok:=by first|exact se|(exact ξt (by omega))|(clear uu;grind)|exact sd) ?_
       refine oS ?_
       iterate 3 refine oG ?_
       refine oG (hok:=by first|exact se|(exact ξt (by omega))|(clear uu;grind)|exact sd) ?_
       refine oS ?_
       refine oN ?_
       refine thenQ_normal ?_
       refine WI.seq ?_
       refine WI.seq ?_
       refine WI.regB tabSma_ok [0,6,7,11,14,51,52,53,64] ?_
       refine oS ?_
       refine oG (hok:=by first|exact se|(exact ξt (by omega))|(clear uu;grind)|exact sd) ?_
       refine oN ?_
       refine thenQ_normal ?_
       refine WI.cond (b:=_) rfl rfl (fun h5=> ?_) (fun h5=> ?_)
       ·try simp only[zB]at h5
        have hno2:=hno (by rw[hcd];clear uu;grind)
        rw[hno2,Bool.false_and,if_neg (by decide)]at hres
        refine WI.seq ?_
        refine WI.regB tabSma_ok [4] ?_
        refine oS ?_
        refine oN ?_
        refine thenQ_normal ?_
        refine WI.ret ?_
        refine thenQ_ret ?_
        refine blockQ_ret ?_
        refine thenQ_ret ?_
        refine thenQ_ret ?_
        refine blockQ_ret ?_
        refine thenQ_ret ?_
        first|refine lfR ?_|refine lfR2 ?_|refine lfRX ?_
        exact⟨by rw[hres],_,rfl⟩
       ·try simp only[zB]at h5
        have hso:(mlook M (lowS n)).isSome=true:=by clear uu;grind
        rw[hso,Bool.true_and]at hcd
        refine WI.skip ?_
        refine thenQ_normal ?_
        refine WI.seq ?_
        refine WI.seq ?_
        refine WI.regB tabSma_ok [0,6,7,11,14,51,52,53,66,67,68] ?_
        refine oS ?_
        iterate 2 refine oG (hok:=by first|exact se|(exact ξt (by omega))|(clear uu;grind)|exact sd) ?_
        refine oS ?_
        refine oN ?_
        refine thenQ_normal ?_
        refine WI.block ?_
        refine WI.orderA [0,6,7,11,14,51,52,53,66,67,68] ?_
        refine WI.loop (fun φ os=> ∃(k:Nat),φ= [(0,.ptr 0 0),(6,.mref 4),(7,.x (.sl (rows rStr cs))),(11,.mref 5),(14,.ptr 6 0),(51,.x (.sl (rows rStr cs))),(52,.x (.int .i64 cs.length)),(53,.x (.int .i64 i)),(66,.x (.sl (rows rStr c.2.1))),(67,.x (.int .i64 c.2.1.length)),(68,.x (.int .i64 k))]∧os=scG L M dn l H (OC::(Y0++c.2.1.take k)) c∧k≤c.2.1.length∧(c.2.1.take k).all (fun x=>decide (x∈H))=true) (down c.2.1.length 68) ?_ (fun φ os hI=> ?_)
        ·exact⟨0,rfl,by rw[List.take_zero,List.append_nil],by omega,rfl⟩
        ·obtain⟨k,rfl,rfl,hk,hka⟩:=hI
         refine WI.seq ?_
         refine WI.regB tabSma_ok [0,6,7,11,14,51,52,53,66,67,68,69] ?_
         refine oG (hok:=by first|exact se|(exact ξt (by omega))|(clear uu;grind)|exact sd) ?_
         refine oN ?_
         refine thenQ_normal ?_
         refine WI.seq ?_
         refine WI.cond (b:=_) rfl rfl (fun h6=> ?_) (fun h6=> ?_)
         ·try simp only[zB]at h6
          refine WI.skip ?_
          refine thenQ_normal ?_
          refine WI.seq ?_
          refine WI.block ?_
          refine WI.seq ?_
          have hk4:k<c.2.1.length:=by omega
          have hrk:=str_row c.2.1 k hk4
          have hgk:c.2.1[k]=c.2.1.getD k []:=by simp[hk4]
          have htk:OC::(Y0++c.2.1.take (k+1))=(OC::(Y0++c.2.1.take k))++ [c.2.1.getD k []]:=by rw[List.take_succ_eq_append_getElem hk4,hgk];simp
          have hak:=all_snoc (fun x=>decide (x∈H)) c.2.1 k hk4
          have hnk:c.2.1.getD k []∉H→c.2.1.all (fun x=>decide (x∈H))=false:=fun h=>all_take_false (fun x=>decide (x∈H)) c.2.1 k hk4 (by rw[hgk];exact decide_eq_false h)
          rw[hgk]at hak
          have hYk:(OC::(Y0++c.2.1.take k)).length≤4000000000000:=by rw[ξC,ξA,List.length_take];omega
          generalize c.2.1.getD k []=x at hrk htk hak hnk
          generalize OC::(Y0++c.2.1.take k)=Y at htk hYk
          have hcy:=Nat.le_trans (List.count_le_length (a:=x) (l:=Y)) hYk
          have uu:=ξn uu hrk
          refine WI.regB tabSma_ok [0,6,7,11,14,17,51,52,53,66,67,68] ?_
          iterate 2 refine oG (hok:=by first|exact se|(exact ξt (by omega))|(clear uu;grind)|exact sd) ?_
          refine oS ?_
          refine oN ?_
          refine thenQ_normal ?_
          refine WI.seq ?_
          refine WI.seq ?_
          by_cases hxH:x∈H
          ·have hg1:=snM_yes hxH
           have hcp:0<H.count x:=List.count_pos_iff.2 hxH
           have uu:=ξn uu hg1
           refine WI.regB tabSma_ok [0,6,7,11,14,17,51,52,53,66,67,68,75] ?_
           iterate 2 refine oS ?_
           iterate 2 refine oG (hok:=by first|exact se|(exact ξt (by omega))|(clear uu;grind)|exact sd) ?_
           refine oN ?_
           refine thenQ_normal ?_
           refine WI.cond (b:=_) rfl rfl (fun h7=> ?_) (fun h7=> ?_)
           ·exfalso
            have:((H.count x:Nat):Int)=0:=by simpa using h7
            omega
           ·try simp only[zB]at h7
            have hka2:(c.2.1.take (k+1)).all (fun x=>decide (x∈H))=true:=by rw[hak,hka,ξt hxH];rfl
            refine WI.skip ?_
            refine thenQ_normal ?_
            by_cases hxY:x∈Y
            ·have hg2:=snM_yes hxY
             have hg3:=snM_up hxY
             have uu:=ξn uu (ξn hg2 hg3)
             refine WI.regB tabSma_ok [0,6,7,11,14,51,52,53,66,67,68] ?_
             iterate 2 refine oS ?_
             iterate 3 refine oG (hok:=by first|exact se|(exact ξt (by omega))|(clear uu;grind)|exact sd) ?_
             refine oN ?_
             refine blockQ_normal ?_
             refine thenQ_normal ?_
             refine WI.regB tabSma_ok [0,6,7,11,14,51,52,53,66,67,68] ?_
             refine oG (hok:=by first|exact se|(exact ξt (by omega))|(clear uu;grind)|exact sd) ?_
             refine oS ?_
             refine oN ?_
             refine thenQ_normal ?_
             exact⟨⟨k+1,rfl,by rw[htk],by omega,hka2⟩,by simp[down,Ab.get,D.val,intOf?];omega⟩
            ·have hg2:=snM_no hxY
             have hg3:=snM_new hxY
             have uu:=ξn uu (ξn hg2 hg3)
             refine WI.regB tabSma_ok [0,6,7,11,14,51,52,53,66,67,68] ?_
             iterate 2 refine oS ?_
             iterate 3 refine oG (hok:=by first|exact se|(exact ξt (by omega))|(clear uu;grind)|exact sd) ?_
             refine oN ?_
             refine blockQ_normal ?_
             refine thenQ_normal ?_
             refine WI.regB tabSma_ok [0,6,7,11,14,51,52,53,66,67,68] ?_
             refine oG (hok:=by first|exact se|(exact ξt (by omega))|(clear uu;grind)|exact sd) ?_
             refine oS ?_
             refine oN ?_
             refine thenQ_normal ?_
             exact⟨⟨k+1,rfl,by rw[htk],by omega,hka2⟩,by simp[down,Ab.get,D.val,intOf?];omega⟩
          ·have hg1:=snM_no hxH
           have uu:=ξn uu hg1
           refine WI.regB tabSma_ok [0,6,7,11,14,17,51,52,53,66,67,68,75] ?_
           iterate 2 refine oS ?_
           iterate 2 refine oG (hok:=by first|exact se|(exact ξt (by omega))|(clear uu;grind)|exact sd) ?_
           refine oN ?_
           refine thenQ_normal ?_
           refine WI.cond (b:=_) rfl rfl (fun h7=> ?_) (fun h7=> ?_)
           ·try simp only[zB]at h7
            refine WI.seq ?_
            refine WI.regB tabSma_ok [4] ?_
            refine oS ?_
            refine oN ?_
            refine thenQ_normal ?_
            refine WI.ret ?_
            refine thenQ_ret ?_
            refine blockQ_ret ?_
            refine thenQ_ret ?_
            refine thenQ_ret ?_
            refine blockQ_ret ?_
            refine thenQ_ret ?_
            refine blockQ_ret ?_
            refine thenQ_ret ?_
            refine thenQ_ret ?_
            refine blockQ_ret ?_
            refine thenQ_ret ?_
            first|refine lfR ?_|refine lfR2 ?_|refine lfRX ?_
            rw[hno (by rw[hcd];exact hnk hxH),Bool.false_and,if_neg (by decide)]at hres;exact⟨by rw[hres],_,rfl⟩
           ·exfalso
            simp at h7
         ·try simp only[zB]at h6
          refine WI.exit ?_
          refine thenQ_exit ?_
          refine thenQ_exit ?_
          refine blockQ_hit ?_
          refine thenQ_normal ?_
          refine WI.seq ?_
          obtain rfl:k=c.2.1.length:=by omega
          rw[List.take_length]at hka
          rw[List.take_length]
          rw[hka]at hcd
          have hall2:(cs.take (i+1)).all (clOk M H)=true:=by rw[hal,hall,hcd];rfl
          refine WI.regB tabSma_ok [0,6,7,11,51,52,53,82,83,84] ?_
          refine oS ?_
          iterate 2 refine oG (hok:=by first|exact se|(exact ξt (by omega))|(clear uu;grind)|exact sd) ?_
          refine oS ?_
          refine oN ?_
          refine thenQ_normal ?_
          refine WI.block ?_
          refine WI.orderA [0,6,7,11,51,52,53,82,83,84] ?_
          refine WI.loop (fun φ os=> ∃(k:Nat),φ= [(0,.ptr 0 0),(6,.mref 4),(7,.x (.sl (rows rStr cs))),(11,.mref 5),(51,.x (.sl (rows rStr cs))),(52,.x (.int .i64 cs.length)),(53,.x (.int .i64 i)),(82,.x (.sl (rows rStr c.2.2.1))),(83,.x (.int .i64 c.2.2.1.length)),(84,.x (.int .i64 k))]∧os=scG L M dn l H (OC::(Y0++(c.2.1++c.2.2.1.take k))) c∧k≤c.2.2.1.length) (down c.2.2.1.length 84) ?_ (fun φ os hI=> ?_)
          ·exact⟨0,rfl,by rw[List.take_zero,List.append_nil],by omega⟩
          ·obtain⟨k,rfl,rfl,hk⟩:=hI
           refine WI.seq ?_
           refine WI.regB tabSma_ok [0,6,7,11,51,52,53,82,83,84,85] ?_
           refine oG (hok:=by first|exact se|(exact ξt (by omega))|(clear uu;grind)|exact sd) ?_
           refine oN ?_
           refine thenQ_normal ?_
           refine WI.seq ?_
           refine WI.cond (b:=_) rfl rfl (fun h8=> ?_) (fun h8=> ?_)
           ·try simp only[zB]at h8
            refine WI.skip ?_
            refine thenQ_normal ?_
            refine WI.seq ?_
            refine WI.block ?_
            refine WI.seq ?_
            have hk4:k<c.2.2.1.length:=by omega
            have hrk:=str_row c.2.2.1 k hk4
            have hgk:c.2.2.1[k]=c.2.2.1.getD k []:=by simp[hk4]
            have htk:OC::(Y0++(c.2.1++c.2.2.1.take (k+1)))=(OC::(Y0++(c.2.1++c.2.2.1.take k)))++ [c.2.2.1.getD k []]:=by rw[List.take_succ_eq_append_getElem hk4,hgk];simp
            have hYk:(OC::(Y0++(c.2.1++c.2.2.1.take k))).length≤4000000000000:=by rw[ξC,ξA,ξA,List.length_take];omega
            generalize c.2.2.1.getD k []=x at hrk htk
            generalize OC::(Y0++(c.2.1++c.2.2.1.take k))=Y at htk hYk
            have hcy:=Nat.le_trans (List.count_le_length (a:=x) (l:=Y)) hYk
            have uu:=ξn uu hrk
            refine WI.regB tabSma_ok [0,6,7,11,19,51,52,53,82,83,84] ?_
            iterate 2 refine oG (hok:=by first|exact se|(exact ξt (by omega))|(clear uu;grind)|exact sd) ?_
            refine oS ?_
            refine oN ?_
            refine thenQ_normal ?_
            by_cases hxY:x∈Y
            ·have hg2:=snM_yes hxY
             have hg3:=snM_up hxY
             have uu:=ξn uu (ξn hg2 hg3)
             refine WI.regB tabSma_ok [0,6,7,11,51,52,53,82,83,84] ?_
             iterate 2 refine oS ?_
             iterate 3 refine oG (hok:=by first|exact se|(exact ξt (by omega))|(clear uu;grind)|exact sd) ?_
             refine oN ?_
             refine blockQ_normal ?_
             refine thenQ_normal ?_
             refine WI.regB tabSma_ok [0,6,7,11,51,52,53,82,83,84] ?_
             refine oG (hok:=by first|exact se|(exact ξt (by omega))|(clear uu;grind)|exact sd) ?_
             refine oS ?_
             refine oN ?_
             refine thenQ_normal ?_
             exact⟨⟨k+1,rfl,by rw[htk],by omega⟩,by simp[down,Ab.get,D.val,intOf?];omega⟩
            ·have hg2:=snM_no hxY
             have hg3:=snM_new hxY
             have uu:=ξn uu (ξn hg2 hg3)
             refine WI.regB tabSma_ok [0,6,7,11,51,52,53,82,83,84] ?_
             iterate 2 refine oS ?_
             iterate 3 refine oG (hok:=by first|exact se|(exact ξt (by omega))|(clear uu;grind)|exact sd) ?_
             refine oN ?_
             refine blockQ_normal ?_
             refine thenQ_normal ?_
             refine WI.regB tabSma_ok [0,6,7,11,51,52,53,82,83,84] ?_
             refine oG (hok:=by first|exact se|(exact ξt (by omega))|(clear uu;grind)|exact sd) ?_
             refine oS ?_
             refine oN ?_
             refine thenQ_normal ?_
             exact⟨⟨k+1,rfl,by rw[htk],by omega⟩,by simp[down,Ab.get,D.val,intOf?];omega⟩
           ·try simp only[zB]at h8
            refine WI.exit ?_
            refine thenQ_exit ?_
            refine thenQ_exit ?_
            refine blockQ_hit ?_
            refine blockQ_normal ?_
            refine thenQ_normal ?_
            obtain rfl:k=c.2.2.1.length:=by omega
            rw[List.take_length]
            refine WI.dropT (scF L M dn l H (OC::(Y0++(c.2.1++c.2.2.1)))) _ rfl (by simp) (scF_inP L M dn l _ _) (by simp[D.inP,inL]) ?_
            refine WI.orderA [0,6,7,11,51,52,53] ?_
            refine WI.regB tabSma_ok [0,6,7,11,51,52,53] ?_
            refine oG (hok:=by first|exact se|(exact ξt (by omega))|(clear uu;grind)|exact sd) ?_
            refine oS ?_
            refine oN ?_
            refine thenQ_normal ?_
            exact⟨⟨i+1,rfl,by rw[hmt],by omega,hall2⟩,by simp[down,Ab.get,D.val,intOf?];omega⟩
      ·try simp only[zB]at h4
       refine WI.exit ?_
       refine thenQ_exit ?_
       refine thenQ_exit ?_
       refine blockQ_hit ?_
       refine thenQ_normal ?_
       refine WI.seq ?_
       refine WI.seq ?_
       obtain rfl:i=cs.length:=by omega
       rw[List.take_length]at hall⊢
       refine WI.orderA [6,7,11] ?_
       rw[hall,Bool.true_and]at hres
       generalize OC::mayC M cs=Y at hres⊢
       refine WI.regB tabSma_ok [7,11,95] ?_
       refine oS ?_
       refine oG (hok:=by first|exact se|(exact ξt (by omega))|(clear uu;grind)|exact sd) ?_
       refine oN ?_
       refine thenQ_normal ?_
       refine WI.block ?_
       refine WI.orderA [7,11,95] ?_
       refine WI.loop (fun φ os=> ∃(R:Sn) (cur:Option Pr),φ= [(7,.x (.sl (rows rStr cs))),(11,.mref 5),(95,.iref 4 6)]∧os= [.box [.mref 1,.mref 2],.mpo .str true (tyM L),.mpo .str true (clM M),.box [.x (.str dn),.x (.sl (rows rAttr l))],.mit .str false (snM H) 6 (encM kcS kcI R) cur,.mpo .str false (snM Y),.itr]∧(∀p∈R,p.1∈H)∧(∀h∈H,h∈Y∨ ∃n,(h,n)∈R)) (mapI 4) ?_ (fun φ os hI=> ?_)
       ·exact⟨snL H,none,rfl,rfl,fun p hp=>(snL_keys H p.1).2 ⟨p.2,hp⟩,fun h hh=> .inr ((snL_keys H h).1 hh)⟩
       ·obtain⟨R,cur,rfl,rfl,hR1,hR2⟩:=hI
        refine WI.seq ?_
        refine WI.nextMA [7,11,95,97] (fun hn37=> ?_) (fun i37 q37 hn37=> ?_)
        ·simp only[encM,List.map_eq_nil_iff]at hn37;subst hn37
         have hHY:H.all (fun h=>decide (h∈Y))=true:=List.all_eq_true.2 fun h hh=>ξt (by rcases hR2 h hh with h1|⟨n,h1⟩;exact h1;cases h1)
         rw[hHY,Bool.true_and]at hres
         refine thenQ_normal ?_
         refine WI.seq ?_
         refine WI.cond (b:=_) rfl rfl (fun h9=> ?_) (fun h9=> ?_)
         ·exact absurd h9 (by decide)
         ·try simp only[zB]at h9
          refine WI.exit ?_
          refine thenQ_exit ?_
          refine thenQ_exit ?_
          refine blockQ_hit ?_
          refine thenQ_normal ?_
          refine WI.seq ?_
          refine WI.regB tabSma_ok [4] ?_
          refine oS ?_
          iterate 2 refine oG (hok:=by first|exact se|(exact ξt (by omega))|(clear uu;grind)|exact sd) ?_
          refine oC (hok:=by first|exact se|(exact ξt (by omega))|(clear uu;grind)|exact sd) ?_
          refine oS ?_
          refine oN ?_
          refine thenQ_normal ?_
          refine WI.ret ?_
          first|refine lfR ?_|refine lfR2 ?_|refine lfRX ?_
          refine⟨?_,_,rfl⟩;rw[←hres];clear uu;rcases cs with _|⟨x,cs⟩<;>simp;omega
        ·rw[encM_at]at hn37
         obtain⟨p,hp,rfl⟩:=ξM hn37
         have hi37:=(ξG hp).1
         have hpH:=hR1 p (List.mem_of_getElem? hp)
         refine thenQ_normal ?_
         refine WI.seq ?_
         refine WI.cond (b:=_) rfl rfl (fun h9=> ?_) (fun h9=> ?_)
         ·try simp only[zB]at h9
          refine WI.skip ?_
          refine thenQ_normal ?_
          refine WI.block ?_
          refine WI.seq ?_
          refine WI.regB tabSma_ok [7,11,20,95] ?_
          refine oG (hok:=by first|exact se|(exact ξt (by omega))|(clear uu;grind)|exact sd) ?_
          refine oG ?_
          refine oS ?_
          refine oN ?_
          refine thenQ_normal ?_
          refine WI.seq ?_
          by_cases hpY:p.1∈Y
          ·have hg1:=snM_yes hpY
           have hcp:0<Y.count p.1:=List.count_pos_iff.2 hpY
           have uu:=ξn uu hg1
           refine WI.regB tabSma_ok [7,11,95,103] ?_
           iterate 2 refine oS ?_
           iterate 2 refine oG (hok:=by first|exact se|(exact ξt (by omega))|(clear uu;grind)|exact sd) ?_
           refine oN ?_
           refine thenQ_normal ?_
           refine WI.cond (b:=_) rfl rfl (fun h10=> ?_) (fun h10=> ?_)
           ·exfalso
            have:((Y.count p.1:Nat):Int)=0:=by simpa using h10
            omega
           ·try simp only[zB]at h10
            have hR3: ∀h∈H,h∈Y∨ ∃n,(h,n)∈R.eraseIdx i37:=fun h hh=>by
             rcases hR2 h hh with h1|⟨n,h1⟩
             ·exact .inl h1
             ·rcases(mem_eraseP hp (h,n)).1 h1 with h2|h2
              ·exact .inl (by rw[show h=p.1 from congrArg Prod.fst h2];exact hpY)
              ·exact .inr ⟨n,h2⟩
            refine WI.orderA [7,11,95] ?_
            refine WI.skip ?_
            refine blockQ_normal ?_
            refine thenQ_normal ?_
            exact⟨⟨R.eraseIdx i37,_,rfl,rfl,fun q hq=>hR1 q (List.mem_of_mem_eraseIdx hq),hR3⟩,by simp only[mapI,List.getElem?_cons_succ,List.getElem?_cons_zero,encM_len,encM_erase];rw[List.length_eraseIdx,if_pos hi37];omega⟩
          ·have hg1:=snM_no hpY
           have uu:=ξn uu hg1
           refine WI.regB tabSma_ok [7,11,95,103] ?_
           iterate 2 refine oS ?_
           iterate 2 refine oG (hok:=by first|exact se|(exact ξt (by omega))|(clear uu;grind)|exact sd) ?_
           refine oN ?_
           refine thenQ_normal ?_
           refine WI.cond (b:=_) rfl rfl (fun h10=> ?_) (fun h10=> ?_)
           ·try simp only[zB]at h10
            refine WI.seq ?_
            refine WI.regB tabSma_ok [4] ?_
            refine oS ?_
            refine oN ?_
            refine thenQ_normal ?_
            refine WI.ret ?_
            refine blockQ_ret ?_
            refine thenQ_ret ?_
            refine blockQ_ret ?_
            refine thenQ_ret ?_
            first|refine lfR ?_|refine lfR2 ?_|refine lfRX ?_
            rw[show H.all (fun h=>decide (h∈Y))=false from by rw[List.all_eq_false];exact⟨p.1,hpH,by simpa using hpY⟩,Bool.false_and,if_neg (by decide)]at hres;exact⟨by rw[hres],_,rfl⟩
           ·exfalso
            simp at h10
         ·exact absurd h9 (by decide)
def srtS (l:List (List UInt8)):List (List UInt8):=l.mergeSort fun x y=>decide (x≤y)
theorem own_of_mapk {P:Program} {k:TypeId} {w:World} {b:Nat} {l':List (ByteArray×Value)} (hk:P.underlying k=some .string) (h:MapK Value.string w b l') (hn:l'.length≤1000000) (hs: ∀a∈l',a.1.size≤maxLen):
  ∃D0:DataW Unit,w.ownsMap P k (fun _=>some (.nil,[])) b l'.length D0∧Maps.size D0=l'.length∧(strKeys D0).Perm (l'.map fun a=>a.1.data.toList):=by
 obtain⟨es,clk,hb,hm,hnd,hc,hbn⟩:=h
 have hlen:es.size=l'.length:=by have:=congrArg List.length hm;simpa using this
 have hkeys:es.toList.map (·.key)=l'.map fun a=>Value.string a.1:=by
  have:=congrArg (List.map Prod.fst) hm
  rw[List.map_map,List.map_map]at this
  exact this
 have hrd: ∀x∈es.toList,∃a∈l',x.key=Value.string a.1:=by
  intro x hx
  have h1:x.key∈es.toList.map (·.key):=List.mem_map.2 ⟨x,hx,rfl⟩
  rw[hkeys]at h1
  obtain⟨a,ha,e⟩:=List.mem_map.1 h1
  exact⟨a,ha,e.symm⟩
 have hread: ∀(x:MapEntry) (a:ByteArray×Value),a∈l'→x.key=Value.string a.1→WideElems.rd (H:=Unit) P k (fun _=>some (.nil,[])) x=some (.string a.1.data.toList,.nil):=by
  intro x a ha e
  have hko:=WideMaps.keyOf_string_mk (P:=P) hk (hs a ha)
  unfold WideElems.rd
  rw[e,hko];rfl
 refine⟨_,⟨es,clk,hb,⟨?_,⟨hc,hbn,?_⟩,?_⟩,by omega,rfl⟩,?_,?_⟩
 ·rw[hlen];simp only[maxLen];omega
 ·rw[hkeys]
  rw[show(l'.map fun a=>Value.string a.1)=(l'.map (·.1)).map Value.string by simp[Function.comp]]
  exact List.Pairwise.map _ (fun a b h e=>h (by cases e;rfl)) hnd
 ·intro x hx
  obtain⟨a,ha,e⟩:=hrd x hx
  exact⟨_,hread x a ha e⟩
 ·show(List.foldr DataW.insert [] _).length=_
  rw[Go.length_sorted];simp[hlen]
 ·show(List.map _ (List.foldr DataW.insert [] _)).Perm _
  refine((WideShapes.sorted_perm _).map _).trans ?_
  have:(es.toList.map (WideElems.rg (H:=Unit) P k (fun _=>some (.nil,[])))).map (fun p=>strOf p.1)=l'.map fun a=>a.1.data.toList:=by
   rw[List.map_map]
   have h2:es.toList.map (fun x=>strOf (WideElems.rg (H:=Unit) P k (fun _=>some (.nil,[])) x).1)=(es.toList.map (·.key)).map (fun v=>match v with| .string s=>s.data.toList|_=> []):=by
    rw[List.map_map]
    refine List.map_congr_left fun x hx=> ?_
    obtain⟨a,ha,e⟩:=hrd x hx
    simp only[WideElems.rg,hread x a ha e,Option.getD_some,strOf,Function.comp,e]
   refine Eq.trans h2 ?_
   rw[hkeys,List.map_map];rfl
  rw[this]
theorem mkeys_c (ag:Bool) (l:List Pr):MCalls Tryz.prog 44 [.mref 0] [.mpo .str ag l] (.fn 74 [.ptr 1 0]) [.mpo .str ag l,.box [.mref 0]]:=by
 intro c E vs hR hvl
 obtain⟨hsz,hv⟩:=hvl
 obtain⟨v0,rfl⟩: ∃v0,vs= #[v0]:=by
  obtain⟨vl⟩:=vs
  match vl,hsz with
  | [a],_=>exact⟨a,rfl⟩
 have h0:=hv 0 _ v0 rfl rfl
 clear hv hsz
 cases h0 with
 | @mref _ b cu dk ag' o ho hk h=>
 have hlen:=hR.len
 refine(callsIn_wide (n:=5)).1 ((AnyZ.keys_in Tryz.mkKeys Fence.wide 5 trivial rfl (some b) E.w).mono ?_)
 rintro e w' ⟨rfl,rfl⟩
 have h0':(E.ob++ [(E.w.heap.size,undef)])[0]? =some (b,cu):=by
  rw[ξl (ξG h).1];exact h
 have h1':(E.ob++ [(E.w.heap.size,undef)])[1]? =some (E.w.heap.size,undef):=by
  rw[List.getElem?_append_right (by rw[hlen];simp),hlen];simp
 obtain⟨R',ev⟩:=hR.push (E.w.alloc (.cells #[.map (some b)] (Tryz.mkKeys_ren.t 23))) (.box [.mref 0]) (E.w.heap.size,undef) (kept_alloc _ _) (fun b' hb=>by cases hb;exact Nat.le_refl _) (fun ev=>⟨#[.map (some b)],_,heap_alloc_new _ _,rfl,fun j d v hd hv=>by
  rcases j with _|j
  ·simp at hd hv;subst hd;subst hv
   exact⟨.mref (dk:= .str) (ag:=ag) (o:= .mpo .str ag l) rfl rfl h0',rfl⟩
  ·simp at hd⟩)
 refine⟨_,_,rfl,rfl,R',ev,.fn _ rfl fun j d v hd hv=> ?_⟩
 rcases j with _|j
 ·simp at hd hv;subst hd;subst hv
  exact .ptr (ds:= [.mref 0]) rfl h1'
 ·simp at hd
theorem mkeys_enters:Go.Ab.Enters Tryz.prog 44:=Go.Proofs.enters_of Tryz.func44 (by kernel_rfl) rfl
def keyS (p:Pr):List UInt8:=match p.1 with
 | [.str s]=>s
 |_=> []
theorem msorts (m : Nat) : AnyZ.SortsIn Tryz.prog Tryz.mkSorted_ren Fence.wide m :=
  ⟨fun blk off cap ss W hH hblk hsz => callsIn_wide.2 (AnyM.slices_Sort_string Tryz.mkSort blk off cap ss W hH hblk hsz),
   fun p cap W => callsIn_wide.2 (AnyM.slices_Sort_string_none Tryz.mkSort p cap W)⟩
theorem msorted_c (ag:Bool) (l:List Pr) (hl:l.length≤1000000) (hs: ∀p∈l,∃s,p.1= [.str s]∧s.length≤maxLen):MCalls Tryz.prog 43 [.fn 74 [.ptr 0 0]] [.box [.mref 1],.mpo .str ag l] (.x (.sl (rows rStr (srtS (l.map keyS))))) [.box [.mref 1],.mpo .str ag l]:=by
 intro c E vs hR hvl
 obtain⟨hsz,hv⟩:=hvl
 obtain⟨v0,rfl⟩: ∃v0,vs= #[v0]:=by
  obtain⟨vl⟩:=vs
  match vl,hsz with
  | [a],_=>exact⟨a,rfl⟩
 have h0:=hv 0 _ v0 rfl rfl
 clear hv hsz
 cases h0 with
 |fn cv hcl hcv=>
 obtain⟨c0,rfl⟩: ∃c0,cv= #[c0]:=by
  obtain⟨vl⟩:=cv
  match vl,hcl with
  | [a],_=>exact⟨a,rfl⟩
 have h1:=hcv 0 _ c0 rfl rfl
 clear hcv hcl
 cases h1 with
 | @ptr _ _ Bm cu ds ho hob=>
 cases ho
 obtain⟨cs,ty,hbox,hcs,hcell⟩:=hR.ok 0 _ _ rfl hob
 obtain⟨m0,rfl⟩: ∃m0,cs= #[m0]:=by
  obtain⟨vl⟩:=cs
  match vl,hcs with
  | [a],_=>exact⟨a,rfl⟩
 have h2:=(hcell 0 _ m0 rfl rfl).1
 cases h2 with
 | @mref _ b cu2 dk ag' o ho2 hk2 hob2=>
 obtain⟨l',hmk,hll,hpr⟩:MapX Value.string kxS E _ b ag l:=hR.ok 1 _ _ rfl hob2
 have hkeyb: ∀(i:Nat) (a:ByteArray×Value),l'[i]? =some a→a.1.size≤maxLen∧(l.map keyS)[i]? =some a.1.data.toList:=by
  intro i a ha
  have hi:i<l.length:=by rw[←hll];exact(ξG ha).1
  have hq:=(hpr i a l[i] ha (ξg hi)).1
  obtain⟨s,e1,e2⟩:=hs l[i] (List.getElem_mem hi)
  rw[e1]at hq
  simp only[kxS,List.cons.injEq,X.str.injEq,and_true]at hq
  rw[ByteArray.toList_eq]at hq
  subst hq
  refine⟨Nat.le_trans (Nat.le_of_eq (Array.length_toList (xs:=a.1.data)).symm) e2,?_⟩
  rw[ξp,ξg hi]
  simp only[Option.map_some,keyS,e1]
 have hkeys:(l'.map fun a=>a.1.data.toList)=l.map keyS:=by
  refine List.ext_getElem? fun i=> ?_
  rw[ξp]
  rcases h:l'[i]? with _|a
  ·rw[Option.map_none,eq_comm,List.getElem?_eq_none_iff,List.length_map,←hll]
   exact List.getElem?_eq_none_iff.1 h
  ·rw[Option.map_some,(hkeyb i a h).2]
 obtain⟨D0,hown,hsize,hperm⟩:=own_of_mapk (P:=Tryz.prog) (k:=Tryz.mkKeys_ren.t 26) (by kernel_rfl) hmk (by omega) (fun a ha=>by obtain⟨i,hi⟩:=List.mem_iff_getElem?.1 ha;exact(hkeyb i a hi).1)
 rw[hkeys]at hperm
 have hlt:Bm<E.w.heap.size:=(ξH hbox).1
 have hseq:=AnyZ.keys_gives (ρ:=Tryz.mkKeys_ren) {Tryz.mkKeys with} Fence.wide (5-1-1-1) trivial rfl (by omega) Bm b _ D0 E.w hlt (by simp[World.cell?,hbox]) hown
 refine(callsIn_wide (n:=5)).1 ((AnyZ.sorted_in Tryz.mkSorted Fence.wide 5 trivial trivial trivial trivial rfl (by omega) (msorts _) (Go.Proofs.enters_of Tryz.func73 (by kernel_rfl) rfl) 74 #[.pointer (some ⟨Bm,0,none⟩)] trivial (Go.Proofs.enters_of Tryz.func74 (by kernel_rfl) rfl) _ _ (by rw[hsize];simp only[maxLen];omega) (by omega) _ hseq).mono ?_)
 rintro e w' ⟨v,ss,rfl,hS,hrow,hnil,hb⟩
 have hks:ss.mergeSort (fun x y=>decide (x≤y))=srtS (l.map keyS):=mergeSort_of_perm (hS.trans hperm)
 have hsl:ss.length=(srtS (l.map keyS)).length:=by rw[←hks];simp
 rw[hks,hsl]at hrow
 generalize srtS (l.map keyS)=ks at hrow
 obtain⟨hR',ev⟩:=hR.world w' (fun b' o'=>E.st b' o'∨(E.w.heap.size≤b'∧b'<w'.heap.size)) ⟨hb.os,hb.tape,hb.output,hb.size,fun k hk _=>hb.block k hk⟩ (fun _ _ h=> .inl h) (fun _ _ h=>h)
 refine⟨v,_,rfl,rfl,hR',ev,?_⟩
 rcases hrow with⟨hxl,⟨rfl,hz⟩|⟨g,cap,cur,rfl,hg,hgb,r1,r2,r3,r4⟩⟩
 ·obtain rfl:=List.eq_nil_of_length_eq_zero hz
  exact .x (.sl [] none 0 0 1 (fun _ _=>undef) rfl (Nat.le_refl _) (by simp) (fun r h=>by cases h) (fun i j hi=>by omega) (fun _=>⟨rfl,rfl⟩) (fun h=>by omega) (fun i j r x h=>by simp at h))
 ·have hglt:g<w'.heap.size:=(ξH hgb).1
  refine .x (.sl _ _ _ _ 1 (fun i _=>encStr (ks[i]?.getD [])) (rows_len ..) r1 r2 (fun r hr=> ?_) (fun i j hi hj=> ?_) (fun h=>by cases h) (fun _ ad h=>by cases h;rfl) (fun i j r x hr hx=> ?_))
  ·simp only[rows,List.mem_map]at hr
   obtain⟨x,_,rfl⟩:=hr
   rfl
  ·obtain rfl:j=0:=Nat.lt_one_iff.1 hj
   refine⟨_,_,rfl,.inr ⟨hg,hglt⟩,?_⟩
   have h1:=congrArg (fun l=>l[i]?) r4
   simp only[List.getElem?_take,Nat.mul_one,hi,if_true,Array.getElem?_toList,ξp,ξg hi,Option.map_some]at h1
   rw[show 0+i*1+0=i from by rw[Nat.zero_add,Nat.mul_one,Nat.add_zero],ξg hi,Option.getD_some]
   have h2:w'.cell? ⟨g,i,none⟩=cur[i]? :=by simp[World.cell?,hgb]
   rw[h2];exact h1
  ·simp only[rows,ξp,Option.map_map,ξm]at hr
   obtain⟨y,hy,rfl⟩:=hr
   simp only[Function.comp,rStr,RC.enc]at hx
   rcases j with _|j
   ·simp at hx;subst hx
    simp only[hy,Option.getD_some]
    exact .str _
   ·simp at hx
theorem msorted_enters:Go.Ab.Enters Tryz.prog 43:=Go.Proofs.enters_of Tryz.func43 (by kernel_rfl) rfl
def mkeysT:List D→List Ob→Option (Bool×D×List Ob)
 | [.mref 0],[.mpo .str ag l]=>some (true,.fn 74 [.ptr 1 0],[.mpo .str ag l,.box [.mref 0]])
 |_,_=>none
theorem mkeysT_ok: ∀args os r os',mkeysT args os=some (true,r,os')→MCalls Tryz.prog 44 args os r os':=by
 intro args os r os' h
 unfold mkeysT at h
 split at h
 ·simp only[ξI,ξP,true_and]at h
  obtain⟨rfl,rfl⟩:=h
  exact mkeys_c _ _
 ·cases h
def keyOkS (p:Pr):Bool:=match p.1 with
 | [.str s]=>decide (s.length≤1000000)
 |_=>false
def msortedT:List D→List Ob→Option (Bool×D×List Ob)
 | [.fn 74 [.ptr 0 0]],[.box [.mref 1],.mpo .str ag l]=>some (decide (l.length≤1000000)&&l.all keyOkS,.x (.sl (rows rStr (srtS (l.map keyS)))),[.box [.mref 1],.mpo .str ag l])
 |_,_=>none
theorem msortedT_ok: ∀args os r os',msortedT args os=some (true,r,os')→MCalls Tryz.prog 43 args os r os':=by
 intro args os r os' h
 unfold msortedT at h
 split at h
 ·simp only[ξI,ξP,ξa,ξe,List.all_eq_true]at h
  obtain⟨⟨h1,h2⟩,rfl,rfl⟩:=h
  refine msorted_c _ _ h1 (fun p hp=> ?_)
  have h3:=h2 p hp
  unfold keyOkS at h3
  split at h3
  ·rename_i s e;exact⟨s,e,by have:=of_decide_eq_true h3;simp only[maxLen];omega⟩
  ·cases h3
 ·cases h
def tabTyps:Tabs:=addT (addT (noTabs) 44 mkeysT) 43 msortedT
theorem tabTyps_ok:SsOk Tryz.prog tabTyps:=addT_ok (addT_ok (noTabs_ok) mkeys_enters mkeysT_ok) msorted_enters msortedT_ok
theorem tabTyps_q44 (a:List D):tabTyps.q 44 a=none:=rfl
theorem tabTyps_t44 (a:List D) (o:List Ob):tabTyps.t 44 a o=liftT mkeysT a o:=rfl
theorem tabTyps_q43 (a:List D):tabTyps.q 43 a=none:=rfl
theorem tabTyps_t43 (a:List D) (o:List Ob):tabTyps.t 43 a o=liftT msortedT a o:=rfl
theorem tabTyps_r (f:FuncId) (a:List D) (o:List Ob):tabTyps.r f a o=none:=rfl
theorem tabTyps_k (f:FuncId) (a:List D) (o:List Ob):tabTyps.k f a o=none:=rfl
theorem tyM_keyS (L:List (Tx×TTyp)):(tyM L).map keyS=L.map (·.1):=by
 unfold tyM encM;rw[List.map_map];rfl
theorem tyM_okS {L:List (Tx×TTyp)} (h: ∀p∈L,p.1.length≤1000000):(tyM L).all keyOkS=true:=by
 rw[List.all_eq_true]
 intro q hq
 obtain⟨p,hp,rfl⟩:=List.mem_map.1 hq
 exact ξt (h p hp)
theorem types_c (L:List (Tx×TTyp)) (M:List (Tx×TCls)) (hl:L.length≤1000000) (h: ∀p∈L,p.1.length≤1000000):MCalls Tryz.prog 19 [.ptr 0 0] (scO L M) (.x (.sl (rows rStr (srtS (L.map (·.1)))))) (scO L M):=by
 have hO:=scO_inP L M
 have hk:=tyM_keyS L
 have hok:=tyM_okS h
 have hlen:(tyM L).length=L.length:=encM_len _ _ _
 have hd:=ξt hl
 refine FCalls.mcallsX (fcallsG (fz:=true) G_ok (p:=i19) rfl _ (ξ rfl) _ (fun C0 E0=> ?_)) (by first|decide|(simp;done)) hO (by first|rfl|exact hR)
 dsimp only[i19,qt,qi,qs,qb,qm,qa,qh,qj,qT,qF,qe,ql,qL,qf,q2,q3,q8,qz,qp,qP,qc,qk,qx,qy,qo,qr,qC,argsφ]
 have uu:=ξn @mkeysT.eq_1 (ξn @mkeysT.eq_2 (ξn @msortedT.eq_1 (ξn @msortedT.eq_2 (ξn hk (ξn hok (ξn hlen (ξn hd (ξn @ty_ren (ξn @cl_ren (ξn @ty_ids (ξn @cl_ids (ξn @ty_all (ξn @cl_all (ξn @encM_ren (ξn @encM_ids (ξn @encM_all (ξn @tabTyps_r (ξn @tabTyps_k (ξn @tabTyps_q43 (ξn @tabTyps_q44 (ξn @tabTyps_t44 (@tabTyps_t43))))))))))))))))))))))
 have tT:=tabTyps_ok
 refine nz ?_
 refine rg tT [0] ?_
 refine rg tT [0,4] ?_
 refine ce (fun h0=> ?_) (fun h0=> ?_)
 ·simp at h0
 ·refine rg tT [2] ?_
  refine lf ?_
  exact⟨rfl,_,rfl⟩
theorem typesN_c:PCalls Tryz.prog 19 [.x .nilp] (.x (.sl [])):=by
 refine FCalls.pure (fcallsG (fz:=true) G_ok (p:=i19) rfl _ (ξ rfl) _ (fun C0 E0=> ?_)) rfl
 dsimp only[i19,qt,qi,qs,qb,qm,qa,qh,qj,qT,qF,qe,ql,qL,qf,q2,q3,q8,qz,qp,qP,qc,qk,qx,qy,qo,qr,qC,argsφ]
 have uu:=trivial
 have tT:=(noTabs_ok:SsOk Tryz.prog noTabs)
 refine nz ?_
 refine rg tT [0] ?_
 refine rg tT [0,4] ?_
 refine ct (fun h0=> ?_) (fun h0=> ?_)
 ·refine rg tT [2] ?_
  refine WI.nnA ?_
  refine lf ?_
  first|rfl|exact⟨rfl,rfl⟩|trivial
 ·simp at h0
theorem checkN_c (e:TEntry):PCalls Tryz.prog 17 [.x .nilp,entD e] (.x (.int .i64 80)):=by
 obtain⟨dn,l,u⟩:=e
 unfold entD
 refine FCalls.pure (fcallsG (fz:=true) G_ok (p:=i17) rfl _ (ξ rfl) _ (fun C0 E0=> ?_)) rfl
 dsimp only[i17,qt,qi,qs,qb,qm,qa,qh,qj,qT,qF,qe,ql,qL,qf,q2,q3,q8,qz,qp,qP,qc,qk,qx,qy,qo,qr,qC,argsφ]
 have uu:=trivial
 have tT:=(noTabs_ok:SsOk Tryz.prog noTabs)
 refine nz ?_
 refine rg tT [0,3] ?_
 refine rg tT [0,3,22] ?_
 refine ct (fun h0=> ?_) (fun h0=> ?_)
 ·refine rg tT [4] ?_
  refine WI.nnA ?_
  refine lf ?_
  first|rfl|exact⟨rfl,rfl⟩|trivial
 ·simp at h0
open Go.RowKit Go.Bo Go.Ab Go.Shelf
def growRen:Ren:=⟨fun|4=>82|n=>n,fun|22=>38|25=>9|n=>n,fun n=>n⟩
theorem growLays:Go.Proofs.Lays8.n4 Tryz.prog growRen where
 mixed:=by kernel_rfl
 f4:=⟨"slices.Grow[[]string,string]",by decide,by kernel_rfl⟩
 t0:=by kernel_rfl
 a0:=fun w=>by kernel_rfl
 z0:=fun w=>by kernel_rfl
 v0:=fun w=>by kernel_rfl
 t3:=by kernel_rfl
 a3:=fun w=>by kernel_rfl
 z3:=fun w=>by kernel_rfl
 v3:=fun w=>by kernel_rfl
 t4:=by kernel_rfl
 a4:=fun w=>by kernel_rfl
 z4:=fun w=>by kernel_rfl
 v4:=fun w=>by kernel_rfl
 t9:=by kernel_rfl
 a9:=fun w=>by kernel_rfl
 z9:=fun w=>by kernel_rfl
 v9:=fun w=>by kernel_rfl
 t20:=by kernel_rfl
 a20:=fun w=>by kernel_rfl
 z20:=fun w=>by kernel_rfl
 v20:=fun w=>by kernel_rfl
 t22:=by kernel_rfl
 a22:=fun w=>by kernel_rfl
 z22:=fun w=>by kernel_rfl
 v22:=fun w=>by kernel_rfl
theorem grow_enters:Go.Ab.Enters Tryz.prog 82:=growLays.f4.enters rfl
theorem grow_c (n:Nat) (hn:n≤1000000):MCalls Tryz.prog 82 [.x .nils,.x (.int .i64 n)] [] (.ref 0 0 0 0) [.rows false 9 1 []]:=by
 intro c E vs R hvl
 obtain⟨hsz,hv⟩:=hvl
 obtain⟨v0,v1,rfl⟩: ∃v0 v1,vs= #[v0,v1]:=by
  obtain⟨vl⟩:=vs
  match vl,hsz with
  | [a,b],_=>exact⟨a,b,rfl⟩
 have h0:=hv 0 _ v0 rfl rfl
 have h1:=hv 1 _ v1 rfl rfl
 cases h0 with
 |x h0=>
 cases h1 with
 |x h1=>
 cases h1 with
 |int _ _=>
 cases h0 with
 |nils=>
 by_cases hz:n=0
 ·subst hz
  refine(Go.Proofs.Any8.slices_Grow_room growLays none 0 0 0 E.w (Nat.le_refl _) (by omega) (by omega) (Nat.le_refl _)).mono ?_
  rintro e w' ⟨rfl,rfl⟩
  obtain⟨E',h1,h2,h3,h4⟩:=push_row R (fz:=false) (e:=9) (sz:=1) (rs:= []) (cu:= .slice none 0 0) (xs:= []) (Kept.refl _ _) ⟨rfl,.inl ⟨rfl,rfl⟩⟩ (fun b hb=>by simp[Value.ownBlock]at hb) (fun r hr=>by cases hr) (fun i r j x v h=>by simp at h)
  exact⟨_,E',rfl,h1,h2,h3,h4⟩
 ·have hi:(Tryz.prog.info? 9).map (fun i=>(i.zero,i.size,i.bytes))=some (some (.string ByteArray.empty),1,16):=by kernel_rfl
  obtain⟨i0,hi0,hi1⟩:=ξM hi
  simp only[ξP]at hi1
  obtain⟨hz0,hs0,hb0⟩:=hi1
  refine(Go.Proofs.Any8.slices_Grow_grow growLays i0 (.string ByteArray.empty) hi0 hz0 (by omega) none 0 0 n [] E.w (Nat.le_refl _) (by omega) (by rw[hb0];omega) (by omega) (by simp) (fun _=>rfl) (fun a h=>by cases h)).mono ?_
  rintro e w' ⟨rfl,rfl⟩
  have hG:=grownCap_le_maxLen E.w (0+n) 0 9 (by unfold maxLen;omega)
  have hGn:0+n≤grownCap E.w (0+n) 0 9:=grownCap_ge E.w _ _ _
  have hgr:growRen.t 25=9:=rfl
  rw[hgr]
  generalize grownCap E.w (0+n) 0 9=G at hG hGn⊢
  have hcs:(([]:List Value).toArray++Builtin.zeroCells (Value.string ByteArray.empty).cells (0+n-0)++Builtin.zeroCells (Value.string ByteArray.empty).cells (G-(0+n))).size=G*1:=by
   simp[Builtin.zeroCells,Value.cells]<;>omega
  obtain⟨E',h1,h2,h3,h4⟩:=push_row R (fz:=false) (e:=9) (sz:=1) (rs:= []) (cu:= .slice (some ⟨E.w.heap.size,0,none⟩) 0 G) (xs:= [])
   (Kept.of_none (((Ext.refl E.w).dr.al (.cells (([]:List Value).toArray++Builtin.zeroCells (Value.string ByteArray.empty).cells (0+n-0)++Builtin.zeroCells (Value.string ByteArray.empty).cells (G-(0+n))) 9)).grown none))
   ⟨rfl,.inr ⟨E.w.heap.size,G,_,(0,0),rfl,heap_alloc_new _ _,Nat.zero_le _,hG,hcs,by simp,.inl rfl⟩⟩ (fun b hb=>by simp[Value.ownBlock]at hb;omega) (fun r hr=>by cases hr) (fun i r j x v h=>by simp at h)
  exact⟨_,E',rfl,h1,h2,h3,h4⟩
def growT:List D→List Ob→Option (Bool×D×List Ob)
 | [.x .nils,.x (.int .i64 n)],[]=>some (decide (0≤n∧n.toNat≤1000000),.ref 0 0 0 0,[.rows false 9 1 []])
 |_,_=>none
theorem growT_ok: ∀args os r os',growT args os=some (true,r,os')→MCalls Tryz.prog 82 args os r os':=by
 intro args os r os' h
 unfold growT at h
 split at h
 ·rename_i n
  simp only[ξI,ξP,ξe]at h
  obtain⟨⟨h1,h2⟩,rfl,rfl⟩:=h
  have:=grow_c n.toNat h2
  rwa [Int.toNat_of_nonneg h1]at this
 ·cases h
def tabGrow:Tabs:=addT (noTabs) 82 growT
theorem tabGrow_ok:SsOk Tryz.prog tabGrow:=addT_ok (noTabs_ok) grow_enters growT_ok
theorem tabGrow_q82 (a:List D):tabGrow.q 82 a=none:=rfl
theorem tabGrow_t82 (a:List D) (o:List Ob):tabGrow.t 82 a o=liftT growT a o:=rfl
theorem tabGrow_r (f:FuncId) (a:List D) (o:List Ob):tabGrow.r f a o=none:=rfl
theorem tabGrow_k (f:FuncId) (a:List D) (o:List Ob):tabGrow.k f a o=none:=rfl
theorem concat_c (a b:List (List UInt8)) (ha:a.length≤100000) (hb:b.length≤100000):PCalls Tryz.prog 47 [.x (.sl [[.sl (rows rStr a)],[.sl (rows rStr b)]])] (.x (.sl (rows rStr (a++b)))):=by
 refine FCalls.pure (fcallsG (fz:=true) G_ok (p:=i47) rfl _ (ξ rfl) _ (fun C0 E0=> ?_)) rfl
 dsimp only[i47,qt,qi,qs,qb,qm,qa,qh,qj,qT,qF,qe,ql,qL,qf,q2,q3,q8,qz,qp,qP,qc,qk,qx,qy,qo,qr,qC,argsφ]
 have uu:=ξn @growT.eq_1 (ξn @growT.eq_2 (ξn @tabGrow_r (ξn @tabGrow_k (ξn @tabGrow_q82 (@tabGrow_t82)))))
 have tT:=tabGrow_ok
 refine nz ?_
 refine WI.regB tT [0] ?_
 refine oS ?_
 refine oN ?_
 refine nz ?_
 refine WI.regB tT [0,3] ?_
 refine oS ?_
 refine oN ?_
 refine nz ?_
 refine WI.regB tT [0,3,9,10,11] ?_
 refine oS ?_
 refine oG (hok:=by first|exact se|(exact ξt (by omega))|exact sd) ?_
 refine oS ?_
 refine oN ?_
 refine nz ?_
 refine WI.loopN 3 ?_
 refine WI.round ?_
 refine nz ?_
 refine WI.regB tT [0,3,9,10,11,12] ?_
 refine oG (hok:=by first|exact se|(exact ξt (by omega))|exact sd) ?_
 refine oN ?_
 refine nz ?_
 refine ct (fun h0=> ?_) (fun h0=> ?_)
 ·refine WI.regB tT [0,3,5,9,10,11] ?_
  iterate 2 refine oG (hok:=by first|exact se|(exact ξt (by omega))|exact sd) ?_
  refine oS ?_
  refine oN ?_
  refine nz ?_
  refine WI.regB tT [0,3,9,10,11] ?_
  iterate 2 refine oS ?_
  iterate 2 refine oG (hok:=by first|exact se|(exact ξt (by omega))|exact sd) ?_
  refine oS ?_
  refine oN ?_
  refine nz ?_
  refine WI.regB tT [0,3,9,10,11,20] ?_
  refine oS ?_
  refine oG (hok:=by first|exact se|(exact ξt (by omega))|exact sd) ?_
  refine oN ?_
  refine nz ?_
  refine ce (fun h1=> ?_) (fun h1=> ?_)
  ·first|omega|(simp at h1;done)|(simp at h1;omega)
  ·refine WI.regB tT [0,3,9,10,11] ?_
   refine oG (hok:=by first|exact se|(exact ξt (by omega))|exact sd) ?_
   refine oS ?_
   refine oN ?_
   refine nz ?_
   refine WI.round ?_
   refine nz ?_
   refine WI.regB tT [0,3,9,10,11,12] ?_
   refine oG (hok:=by first|exact se|(exact ξt (by omega))|exact sd) ?_
   refine oN ?_
   refine nz ?_
   refine ct (fun h0=> ?_) (fun h0=> ?_)
   ·refine WI.regB tT [0,3,5,9,10,11] ?_
    iterate 2 refine oG (hok:=by first|exact se|(exact ξt (by omega))|exact sd) ?_
    refine oS ?_
    refine oN ?_
    refine nz ?_
    refine WI.regB tT [0,3,9,10,11] ?_
    iterate 2 refine oS ?_
    iterate 2 refine oG (hok:=by first|exact se|(exact ξt (by omega))|exact sd) ?_
    refine oS ?_
    refine oN ?_
    refine nz ?_
    refine WI.regB tT [0,3,9,10,11,20] ?_
    refine oS ?_
    refine oG (hok:=by first|exact se|(exact ξt (by omega))|exact sd) ?_
    refine oN ?_
    refine nz ?_
    refine ce (fun h1=> ?_) (fun h1=> ?_)
    ·first|omega|(simp at h1;done)|(simp at h1;omega)
    ·refine WI.regB tT [0,3,9,10,11] ?_
     refine oG (hok:=by first|exact se|(exact ξt (by omega))|exact sd) ?_
     refine oS ?_
     refine oN ?_
     refine nz ?_
     refine WI.round ?_
     refine nz ?_
     refine WI.regB tT [0,3,9,10,11,12] ?_
     refine oG (hok:=by first|exact se|(exact ξt (by omega))|exact sd) ?_
     refine oN ?_
     refine nz ?_
     refine ce (fun h0=> ?_) (fun h0=> ?_)
     ·exact absurd h0 (by decide)
     ·refine WI.regB tT [0,6] ?_
      refine oS ?_
      refine oC (hok:=by first|exact se|(exact ξt (by omega))|exact sd) ?_
      refine oS ?_
      refine oN ?_
      refine nz ?_
      refine WI.regB tT [6,25,26,27] ?_
      refine oS ?_
      refine oG (hok:=by first|exact se|(exact ξt (by omega))|exact sd) ?_
      refine oS ?_
      refine oN ?_
      refine nz ?_
      refine WI.loopN 3 ?_
      refine WI.round ?_
      refine nz ?_
      refine WI.regB tT [6,25,26,27,28] ?_
      refine oG (hok:=by first|exact se|(exact ξt (by omega))|exact sd) ?_
      refine oN ?_
      refine nz ?_
      refine ct (fun h2=> ?_) (fun h2=> ?_)
      ·refine WI.regB tT [6,8,25,26,27] ?_
       iterate 2 refine oG (hok:=by first|exact se|(exact ξt (by omega))|exact sd) ?_
       refine oS ?_
       refine oN ?_
       refine nz ?_
       refine WI.regB tT [6,25,26,27] ?_
       iterate 2 refine oS ?_
       refine oG (hok:=by first|exact se|(exact ξt (by omega))|exact sd) ?_
       refine oS ?_
       refine oN ?_
       refine nz ?_
       refine WI.regB tT [6,25,26,27] ?_
       refine oG (hok:=by first|exact se|(exact ξt (by omega))|exact sd) ?_
       refine oS ?_
       refine oN ?_
       refine nz ?_
       refine WI.round ?_
       refine nz ?_
       refine WI.regB tT [6,25,26,27,28] ?_
       refine oG (hok:=by first|exact se|(exact ξt (by omega))|exact sd) ?_
       refine oN ?_
       refine nz ?_
       refine ct (fun h2=> ?_) (fun h2=> ?_)
       ·refine WI.regB tT [6,8,25,26,27] ?_
        iterate 2 refine oG (hok:=by first|exact se|(exact ξt (by omega))|exact sd) ?_
        refine oS ?_
        refine oN ?_
        refine nz ?_
        refine WI.regB tT [6,25,26,27] ?_
        iterate 2 refine oS ?_
        refine oG (hok:=by first|exact se|(exact ξt (by omega))|exact sd) ?_
        refine oS ?_
        refine oN ?_
        refine nz ?_
        refine WI.regB tT [6,25,26,27] ?_
        refine oG (hok:=by first|exact se|(exact ξt (by omega))|exact sd) ?_
        refine oS ?_
        refine oN ?_
        refine nz ?_
        refine WI.round ?_
        refine nz ?_
        refine WI.regB tT [6,25,26,27,28] ?_
        refine oG (hok:=by first|exact se|(exact ξt (by omega))|exact sd) ?_
        refine oN ?_
        refine nz ?_
        refine ce (fun h2=> ?_) (fun h2=> ?_)
        ·exact absurd h2 (by decide)
        ·refine WI.regB tT [2] ?_
         iterate 2 refine oS ?_
         refine oN ?_
         refine nz ?_
         refine lf ?_
         rw[ξT (by simp)]
       ·exact absurd h2 (by decide)
      ·exact absurd h2 (by decide)
   ·exact absurd h0 (by decide)
 ·exact absurd h0 (by decide)
theorem rows_snoc (l:List Tx) (x:Tx):rows rStr (l++ [x])=rows rStr l++ [[X.str x]]:=by simp[rows,rStr]
theorem tp_row (l:List TTyp) (j:Nat) (h:j<l.length):(rows rTyp l)[j]? =some [X.str (l.getD j ([],0,false,())).1,X.int .i64 (l.getD j ([],0,false,())).2.1,X.bool (l.getD j ([],0,false,())).2.2.1]:=by
 simp[rows,h,rTyp,rCat,rStr,rInt,rBool,rEnd]
theorem cs_row (l:List TCls) (j:Nat) (h:j<l.length):(rows rCls l)[j]? =some [X.str (l.getD j ([],[],[],())).1,X.sl (rows rStr (l.getD j ([],[],[],())).2.1),X.sl (rows rStr (l.getD j ([],[],[],())).2.2.1)]:=by
 simp[rows,h,rCls,rCat,rStr,rSl,rEnd]
theorem chk1_c (n:Tx) (k:Int) (b:Bool):PCalls Tryz.prog 77 [.agg [.x (.str n),.x (.int .i64 k),.x (.bool b)]] (.x (.str n)):=by
 refine FCalls.pure (fcallsG (fz:=true) G_ok (p:=i77) rfl _ (ξ rfl) _ (fun C0 E0=> ?_)) rfl
 dsimp only[i77,qt,qi,qs,qb,qm,qa,qh,qj,qT,qF,qe,ql,qL,qf,q2,q3,q8,qz,qp,qP,qc,qk,qx,qy,qo,qr,qC,argsφ]
 have uu:=trivial
 have tT:=(noTabs_ok:SsOk Tryz.prog noTabs)
 refine nz ?_
 refine rg tT [1] ?_
 refine rg tT [2] ?_
 refine lf ?_
 first|rfl|exact⟨rfl,rfl⟩|trivial
theorem chk3_c (n:Tx) (R R':List (List X)):PCalls Tryz.prog 80 [.agg [.x (.str n),.x (.sl R),.x (.sl R')]] (.x (.str n)):=by
 refine FCalls.pure (fcallsG (fz:=true) G_ok (p:=i80) rfl _ (ξ rfl) _ (fun C0 E0=> ?_)) rfl
 dsimp only[i80,qt,qi,qs,qb,qm,qa,qh,qj,qT,qF,qe,ql,qL,qf,q2,q3,q8,qz,qp,qP,qc,qk,qx,qy,qo,qr,qC,argsφ]
 have uu:=trivial
 have tT:=(noTabs_ok:SsOk Tryz.prog noTabs)
 refine nz ?_
 refine rg tT [1] ?_
 refine rg tT [2] ?_
 refine lf ?_
 first|rfl|exact⟨rfl,rfl⟩|trivial
theorem chk4_c:PCalls Tryz.prog 81 [] (.x (.int .i64 0)):=by
 refine FCalls.pure (fcallsG (fz:=true) G_ok (p:=i81) rfl _ (ξ rfl) _ (fun C0 E0=> ?_)) rfl
 dsimp only[i81,qt,qi,qs,qb,qm,qa,qh,qj,qT,qF,qe,ql,qL,qf,q2,q3,q8,qz,qp,qP,qc,qk,qx,qy,qo,qr,qC,argsφ]
 have uu:=trivial
 have tT:=(noTabs_ok:SsOk Tryz.prog noTabs)
 refine nz ?_
 refine rg tT [] ?_
 refine rg tT [0] ?_
 refine lf ?_
 first|rfl|exact⟨rfl,rfl⟩|trivial
def chk1G:List D→Option (Bool×D)
 | [.agg [.x (.str n),.x (.int .i64 k),.x (.bool b)]]=>some (true,.x (.str n))
 |_=>none
theorem chk1G_ok: ∀args r,chk1G args=some (true,r)→PCalls Tryz.prog 77 args r:=by
 intro args r h
 unfold chk1G at h
 split at h
 ·rename_i n k b
  simp only[ξI,ξP,ξa,ξe,true_and]at h
  obtain rfl:=h
  exact(chk1_c n k b)
 ·cases h
def chk3G:List D→Option (Bool×D)
 | [.agg [.x (.str n),.x (.sl R),.x (.sl T)]]=>some (true,.x (.str n))
 |_=>none
theorem chk3G_ok: ∀args r,chk3G args=some (true,r)→PCalls Tryz.prog 80 args r:=by
 intro args r h
 unfold chk3G at h
 split at h
 ·rename_i n R T
  simp only[ξI,ξP,ξa,ξe,true_and]at h
  obtain rfl:=h
  exact(chk3_c n R T)
 ·cases h
def tabEach:Tabs:=addQ (addQ (addQ (noTabs) 37 lowerYG) 77 chk1G) 80 chk3G
theorem tabEach_ok:SsOk Tryz.prog tabEach:=addQ_ok (addQ_ok (addQ_ok (noTabs_ok) (G_enters G_ok (p:=i37) rfl) lowerYG_ok) (G_enters G_ok (p:=i77) rfl) chk1G_ok) (G_enters G_ok (p:=i80) rfl) chk3G_ok
theorem tabEach_q37 (a:List D):tabEach.q 37 a=lowerYG a:=rfl
theorem tabEach_q77 (a:List D):tabEach.q 77 a=chk1G a:=rfl
theorem tabEach_q80 (a:List D):tabEach.q 80 a=chk3G a:=rfl
theorem tabEach_r (f:FuncId) (a:List D) (o:List Ob):tabEach.r f a o=none:=rfl
theorem tabEach_k (f:FuncId) (a:List D) (o:List Ob):tabEach.k f a o=none:=rfl
theorem eachS_c (l:List Tx) (hl:l.length≤100000) (hn: ∀x∈l,x.length≤140737488355328):PCalls Tryz.prog 46 [.x (.sl (rows rStr l)),.fn 37 []] (.x (.sl (rows rStr (l.map lowS)))):=by
 refine FCalls.pure (fcallsG (fz:=true) G_ok (p:=i46) rfl _ (ξ rfl) _ (fun C0 E0=> ?_)) rfl
 dsimp only[i46,qt,qi,qs,qb,qm,qa,qh,qj,qT,qF,qe,ql,qL,qf,q2,q3,q8,qz,qp,qP,qc,qk,qx,qy,qo,qr,qC,argsφ]
 have uu:=ξn @lowerYG.eq_1 (ξn @lowerYG.eq_2 (ξn @tabEach_r (ξn @tabEach_k (ξn @tabEach_q37 (ξn @tabEach_q77 (ξn @tabEach_q80 (ξn @chk1G.eq_1 (ξn @chk1G.eq_2 (ξn @chk3G.eq_1 (@chk3G.eq_2))))))))))
 have tT:=tabEach_ok
 refine nz ?_
 refine rg tT [0,1] ?_
 refine rg tT [0,1,5] ?_
 refine rg tT [1,5,8,9,10] ?_
 refine WI.ownA 5 9 1 ?_
 refine WI.loop (fun φ os=> ∃(j:Nat),φ= [(1,.fn 37 []),(5,.ref 0 ((l.take j).map lowS).length 0 ((l.take j).map lowS).length),(8,.x (.sl (rows rStr l))),(9,.x (.int .i64 l.length)),(10,.x (.int .i64 j))]∧os= [.rows false 9 1 (rows rStr ((l.take j).map lowS))]∧j≤l.length) (down l.length 10) ?_ (fun φ os hI=> ?_)
 ·exact⟨0,rfl,rfl,by omega⟩
 ·obtain⟨j,rfl,rfl,hj⟩:=hI
  refine nz ?_
  refine rg tT [1,5,8,9,10,11] ?_
  refine cd (fun h0=> ?_) (fun h0=> ?_)
  ·have hj4:j<l.length:=by omega
   have hrw:=str_row l j hj4
   have htk:(l.take (j+1)).map lowS=(l.take j).map lowS++ [lowS (l.getD j [])]:=by rw[List.take_succ_eq_append_getElem hj4,List.map_append];simp[hj4]
   have hd:=ξt (hn (l.getD j []) (by rw[show l.getD j []=l[j] by simp[hj4]];exact List.getElem_mem hj4))
   have hlen:((l.take j).map lowS).length=j:=by rw[List.length_map,List.length_take];omega
   have hlen2:((l.take j).map lowS).length≤100000:=by rw[hlen];omega
   generalize l.getD j []=x at hrw htk hd
   have uu:=ξn uu (ξn hrw hd)
   refine rg tT [1,5,7,8,9,10] ?_
   refine rg tT [1,5,8,9,10] ?_
   refine WI.pickA [0] ?_
   refine rg tT [1,5,8,9,10] ?_
   exact⟨⟨j+1,by rw[htk,ξA];rfl,by rw[htk,rows_snoc],by omega⟩,by simp[down,Ab.get,D.val,intOf?];omega⟩
  ·obtain rfl:j=l.length:=by omega
   rw[List.take_length]
   refine rg tT [4] ?_
   refine WI.freezeA [0] ?_
   refine WI.pickA [] ?_
   refine lf ?_
   first|rfl|exact⟨rfl,rfl⟩|trivial
theorem eachT_c (l:List TTyp) (hl:l.length≤100000):PCalls Tryz.prog 76 [.x (.sl (rows rTyp l)),.fn 77 []] (.x (.sl (rows rStr (l.map (·.1))))):=by
 refine FCalls.pure (fcallsG (fz:=true) G_ok (p:=i76) rfl _ (ξ rfl) _ (fun C0 E0=> ?_)) rfl
 dsimp only[i76,qt,qi,qs,qb,qm,qa,qh,qj,qT,qF,qe,ql,qL,qf,q2,q3,q8,qz,qp,qP,qc,qk,qx,qy,qo,qr,qC,argsφ]
 have uu:=ξn @chk1G.eq_1 (ξn @chk1G.eq_2 (ξn @tabEach_r (ξn @tabEach_k (ξn @tabEach_q37 (ξn @tabEach_q77 (ξn @tabEach_q80 (ξn @chk3G.eq_1 (ξn @chk3G.eq_2 (ξn @lowerYG.eq_1 (@lowerYG.eq_2))))))))))
 have tT:=tabEach_ok
 refine nz ?_
 refine rg tT [0,1] ?_
 refine rg tT [0,1,5] ?_
 refine rg tT [1,5,8,9,10] ?_
 refine WI.ownA 5 9 1 ?_
 refine WI.loop (fun φ os=> ∃(j:Nat),φ= [(1,.fn 77 []),(5,.ref 0 ((l.take j).map (·.1)).length 0 ((l.take j).map (·.1)).length),(8,.x (.sl (rows rTyp l))),(9,.x (.int .i64 l.length)),(10,.x (.int .i64 j))]∧os= [.rows false 9 1 (rows rStr ((l.take j).map (·.1)))]∧j≤l.length) (down l.length 10) ?_ (fun φ os hI=> ?_)
 ·exact⟨0,rfl,rfl,by omega⟩
 ·obtain⟨j,rfl,rfl,hj⟩:=hI
  refine nz ?_
  refine rg tT [1,5,8,9,10,11] ?_
  refine cd (fun h0=> ?_) (fun h0=> ?_)
  ·have hj4:j<l.length:=by omega
   have hrw:=tp_row l j hj4
   have htk:(l.take (j+1)).map (·.1)=(l.take j).map (·.1)++ [(l.getD j ([],0,false,())).1]:=by rw[List.take_succ_eq_append_getElem hj4,List.map_append];simp[hj4]
   have hlen:((l.take j).map (·.1)).length=j:=by rw[List.length_map,List.length_take];omega
   have hlen2:((l.take j).map (·.1)).length≤100000:=by rw[hlen];omega
   generalize l.getD j ([],0,false,())=x at hrw htk
   have uu:=ξn uu hrw
   refine rg tT [1,5,7,8,9,10] ?_
   refine rg tT [1,5,8,9,10] ?_
   refine WI.pickA [0] ?_
   refine rg tT [1,5,8,9,10] ?_
   exact⟨⟨j+1,by rw[htk,ξA];rfl,by rw[htk,rows_snoc],by omega⟩,by simp[down,Ab.get,D.val,intOf?];omega⟩
  ·obtain rfl:j=l.length:=by omega
   rw[List.take_length]
   refine rg tT [4] ?_
   refine WI.freezeA [0] ?_
   refine WI.pickA [] ?_
   refine lf ?_
   first|rfl|exact⟨rfl,rfl⟩|trivial
theorem eachC_c (l:List TCls) (hl:l.length≤100000):PCalls Tryz.prog 79 [.x (.sl (rows rCls l)),.fn 80 []] (.x (.sl (rows rStr (l.map (·.1))))):=by
 refine FCalls.pure (fcallsG (fz:=true) G_ok (p:=i79) rfl _ (ξ rfl) _ (fun C0 E0=> ?_)) rfl
 dsimp only[i79,qt,qi,qs,qb,qm,qa,qh,qj,qT,qF,qe,ql,qL,qf,q2,q3,q8,qz,qp,qP,qc,qk,qx,qy,qo,qr,qC,argsφ]
 have uu:=ξn @chk3G.eq_1 (ξn @chk3G.eq_2 (ξn @tabEach_r (ξn @tabEach_k (ξn @tabEach_q37 (ξn @tabEach_q77 (ξn @tabEach_q80 (ξn @chk1G.eq_1 (ξn @chk1G.eq_2 (ξn @lowerYG.eq_1 (@lowerYG.eq_2))))))))))
 have tT:=tabEach_ok
 refine nz ?_
 refine rg tT [0,1] ?_
 refine rg tT [0,1,5] ?_
 refine rg tT [1,5,8,9,10] ?_
 refine WI.ownA 5 9 1 ?_
 refine WI.loop (fun φ os=> ∃(j:Nat),φ= [(1,.fn 80 []),(5,.ref 0 ((l.take j).map (·.1)).length 0 ((l.take j).map (·.1)).length),(8,.x (.sl (rows rCls l))),(9,.x (.int .i64 l.length)),(10,.x (.int .i64 j))]∧os= [.rows false 9 1 (rows rStr ((l.take j).map (·.1)))]∧j≤l.length) (down l.length 10) ?_ (fun φ os hI=> ?_)
 ·exact⟨0,rfl,rfl,by omega⟩
 ·obtain⟨j,rfl,rfl,hj⟩:=hI
  refine nz ?_
  refine rg tT [1,5,8,9,10,11] ?_
  refine cd (fun h0=> ?_) (fun h0=> ?_)
  ·have hj4:j<l.length:=by omega
   have hrw:=cs_row l j hj4
   have htk:(l.take (j+1)).map (·.1)=(l.take j).map (·.1)++ [(l.getD j ([],[],[],())).1]:=by rw[List.take_succ_eq_append_getElem hj4,List.map_append];simp[hj4]
   have hlen:((l.take j).map (·.1)).length=j:=by rw[List.length_map,List.length_take];omega
   have hlen2:((l.take j).map (·.1)).length≤100000:=by rw[hlen];omega
   generalize l.getD j ([],[],[],())=x at hrw htk
   have uu:=ξn uu hrw
   refine rg tT [1,5,7,8,9,10] ?_
   refine rg tT [1,5,8,9,10] ?_
   refine WI.pickA [0] ?_
   refine rg tT [1,5,8,9,10] ?_
   exact⟨⟨j+1,by rw[htk,ξA];rfl,by rw[htk,rows_snoc],by omega⟩,by simp[down,Ab.get,D.val,intOf?];omega⟩
  ·obtain rfl:j=l.length:=by omega
   rw[List.take_length]
   refine rg tT [4] ?_
   refine WI.freezeA [0] ?_
   refine WI.pickA [] ?_
   refine lf ?_
   first|rfl|exact⟨rfl,rfl⟩|trivial
def rulV (T:List TTyp):Int:=if T.all (fun t=>decide (1≤t.2.1∧t.2.1≤5))=true then 0 else 1
def namV (l:List Tx) (b:Int):Int:=if l.all typB=true then(if b≠0 then b else if decide (l.map lowS).Nodup=true then 0 else 9)else 13
theorem chk2_c (T:List TTyp) (hT:T.length≤100000):MCalls Tryz.prog 78 [.ptr 0 0] [.box [.x (.sl (rows rTyp T))]] (.x (.int .i64 (rulV T))) [.box [.x (.sl (rows rTyp T))]]:=by
 have hO: [Ob.box [.x (.sl (rows rTyp T))]].all (Ob.inP (fun i=>decide (i< [Ob.box [.x (.sl (rows rTyp T))]].length)))=true:=rfl
 refine FCalls.mcallsX (fcallsG (fz:=true) G_ok (p:=i78) rfl _ (ξ rfl) _ (fun C0 E0=> ?_)) (by first|decide|(simp;done)) hO (by first|rfl|exact hR)
 dsimp only[i78,qt,qi,qs,qb,qm,qa,qh,qj,qT,qF,qe,ql,qL,qf,q2,q3,q8,qz,qp,qP,qc,qk,qx,qy,qo,qr,qC,argsφ]
 have uu:=trivial
 have tT:=(noTabs_ok:SsOk Tryz.prog noTabs)
 refine nz ?_
 refine rg tT [0] ?_
 refine rg tT [4,5,6] ?_
 refine WI.orderA [4,5,6] ?_
 refine WI.loop (fun φ os=> ∃(j:Nat),φ= [(4,.x (.sl (rows rTyp T))),(5,.x (.int .i64 T.length)),(6,.x (.int .i64 j))]∧os= [.box [.x (.sl (rows rTyp T))]]∧j≤T.length∧(T.take j).all (fun t=>decide (1≤t.2.1∧t.2.1≤5))=true) (down T.length 6) ?_ (fun φ os hI=> ?_)
 ·exact⟨0,rfl,rfl,by omega,rfl⟩
 ·obtain⟨j,rfl,rfl,hj,hall⟩:=hI
  refine nz ?_
  refine rg tT [4,5,6,7] ?_
  refine cd (fun h0=> ?_) (fun h0=> ?_)
  ·have hj4:j<T.length:=by omega
   have hrw:=tp_row T j hj4
   have hgj:T[j]=T.getD j ([],0,false,()):=by simp[hj4]
   have hal:=all_snoc (fun t:TTyp=>decide (1≤t.2.1∧t.2.1≤5)) T j hj4
   have hno:decide (1≤(T.getD j ([],0,false,())).2.1∧(T.getD j ([],0,false,())).2.1≤5)=false→T.all (fun t=>decide (1≤t.2.1∧t.2.1≤5))=false:=fun h=>all_take_false (fun t:TTyp=>decide (1≤t.2.1∧t.2.1≤5)) T j hj4 (by rw[hgj];exact h)
   rw[hgj]at hal
   generalize T.getD j ([],0,false,())=x at hrw hal hno
   have uu:=ξn uu hrw
   refine rg tT [3,4,5,6] ?_
   refine rg tT [4,5,6,17] ?_
   refine cd (fun h1=> ?_) (fun h1=> ?_)
   ·have hno2:=hno (decide_eq_false (by clear uu;grind))
    refine rg tT [1] ?_
    refine lf ?_
    exact⟨by unfold rulV;rw[hno2];rfl,_,rfl⟩
   ·have hall2:(T.take (j+1)).all (fun t=>decide (1≤t.2.1∧t.2.1≤5))=true:=by rw[hal,hall,ξt (show 1≤x.2.1∧x.2.1≤5 by clear uu;grind)];rfl
    refine WI.pickA [0] ?_
    refine rg tT [4,5,6] ?_
    exact⟨⟨j+1,rfl,rfl,by omega,hall2⟩,by simp[down,Ab.get,D.val,intOf?];omega⟩
  ·refine rg tT [1] ?_
   refine lf ?_
   exact⟨by unfold rulV;rw[ξT (by omega)]at hall;rw[hall];rfl,_,rfl⟩
def chk2T:List D→List Ob→Option (Bool×D×List Ob)
 | [.ptr 0 0],[.box [.x (.sl R)]]=>(unrows rTyp R).bind fun T=>some (decide (T.length≤100000),.x (.int .i64 (rulV T)),[.box [.x (.sl (rows rTyp T))]])
 |_,_=>none
theorem chk2T_ok: ∀args os r os',chk2T args os=some (true,r,os')→MCalls Tryz.prog 78 args os r os':=by
 intro args os r os' h
 unfold chk2T at h
 split at h
 ·rename_i R
  obtain⟨T,hr0,h⟩:=ξB h
  simp only[ξI,ξP,ξa,ξe,true_and]at h
  obtain⟨h1,rfl,rfl⟩:=h
  rw[←rows_unrows good_rTyp hr0]
  exact chk2_c T h1
 ·cases h
theorem un_tp (T:List TTyp):unrows rTyp (rows rTyp T)=some T:=unrows_rows good_rTyp T
def chk4G:List D→Option (Bool×D)
 | []=>some (true,.x (.int .i64 0))
 |_=>none
theorem chk4G_ok: ∀args r,chk4G args=some (true,r)→PCalls Tryz.prog 81 args r:=by
 intro args r h
 unfold chk4G at h
 split at h
 ·simp only[ξI,ξP,ξa,ξe,true_and]at h
  obtain rfl:=h
  exact chk4_c
 ·cases h
def tabNms:Tabs:=addT (addQ (addQ (addQ (noTabs) 37 lowerYG) 114 typedSG) 81 chk4G) 78 chk2T
theorem tabNms_ok:SsOk Tryz.prog tabNms:=addT_ok (addQ_ok (addQ_ok (addQ_ok (noTabs_ok) (G_enters G_ok (p:=i37) rfl) lowerYG_ok) (G_enters G_ok (p:=i114) rfl) typedSG_ok) (G_enters G_ok (p:=i81) rfl) chk4G_ok) (G_enters G_ok (p:=i78) rfl) chk2T_ok
theorem tabNms_q37 (a:List D):tabNms.q 37 a=lowerYG a:=rfl
theorem tabNms_q114 (a:List D):tabNms.q 114 a=typedSG a:=rfl
theorem tabNms_q81 (a:List D):tabNms.q 81 a=chk4G a:=rfl
theorem tabNms_q78 (a:List D):tabNms.q 78 a=none:=rfl
theorem tabNms_t78 (a:List D) (o:List Ob):tabNms.t 78 a o=liftT chk2T a o:=rfl
theorem tabNms_r (f:FuncId) (a:List D) (o:List Ob):tabNms.r f a o=none:=rfl
theorem tabNms_k (f:FuncId) (a:List D) (o:List Ob):tabNms.k f a o=none:=rfl
theorem nm_snoc {l:List Tx} {j:Nat} (h:j<l.length):(l.take (j+1)).map lowS=(l.take j).map lowS++ [lowS (l.getD j [])]:=by
 rw[List.take_succ_eq_append_getElem h,List.map_append];simp[h]
theorem nm_dup {l:List Tx} {j:Nat} (h:j<l.length) (hin:lowS (l.getD j [])∈(l.take j).map lowS):decide (l.map lowS).Nodup=false:=by
 refine decide_eq_false fun hn=> ?_
 have e:l=l.take j++l.getD j []::l.drop (j+1):=by
  have:=List.take_append_drop j l
  rw[List.drop_eq_getElem_cons h]at this
  rw[show l.getD j []=l[j] by simp[h]];exact this.symm
 rw[e,List.map_append,List.map_cons]at hn
 exact(List.nodup_append.1 hn).2.2 _ hin _ List.mem_cons_self rfl
theorem namesA_c (T:List TTyp) (hT:T.length≤100000) (l:List Tx) (hl:l.length≤100000) (hn: ∀x∈l,x.length≤1000000):MCalls Tryz.prog 75 [.x (.sl (rows rStr l)),.fn 78 [.ptr 0 0]] [.box [.x (.sl (rows rTyp T))]] (.x (.int .i64 (namV l (rulV T)))) [.box [.x (.sl (rows rTyp T))]]:=by
 obtain⟨B,hB⟩: ∃B,B=rulV T:=⟨_,rfl⟩
 rw[←hB]
 have hno:l.all typB=false→namV l B=13:=fun h=>by unfold namV;rw[h];rfl
 have hbb:l.all typB=true→B≠0→namV l B=B:=fun h h2=>by unfold namV;rw[if_pos h,if_pos h2]
 have hdu:l.all typB=true→B=0→decide (l.map lowS).Nodup=false→namV l B=9:=fun h h2 h3=>by unfold namV;rw[if_pos h,if_neg (by simp[h2]),h3];rfl
 have hok:l.all typB=true→B=0→(l.map lowS).Nodup→namV l B=0:=fun h h2 h3=>by unfold namV;rw[if_pos h,if_neg (by simp[h2]),ξt h3];rfl
 have hO:=(rfl: [Ob.box [.x (.sl (rows rTyp T))]].all (Ob.inP (fun i=>decide (i< [Ob.box [.x (.sl (rows rTyp T))]].length)))=true)
 refine FCalls.mcallsX (fcallsG (fz:=true) G_ok (p:=i75) rfl _ (ξ rfl) _ (fun C0 E0=> ?_)) (by first|decide|(simp;done)) hO (by first|rfl|exact hR)
 dsimp only[i75,qt,qi,qs,qb,qm,qa,qh,qj,qT,qF,qe,ql,qL,qf,q2,q3,q8,qz,qp,qP,qc,qk,qx,qy,qo,qr,qC,argsφ]
 have uu:=ξn @lowerYG.eq_1 (ξn @lowerYG.eq_2 (ξn @typedSG.eq_1 (ξn @typedSG.eq_2 (ξn @chk2T.eq_1 (ξn @chk2T.eq_2 (ξn @chk4G.eq_1 (ξn @chk4G.eq_2 (ξn @un_tp (ξn @tabNms_r (ξn @tabNms_k (ξn @tabNms_q114 (ξn @tabNms_q37 (ξn @tabNms_q78 (ξn @tabNms_q81 (@tabNms_t78)))))))))))))))
 have tT:=tabNms_ok
 refine nz ?_
 refine WI.regB tT [0,1] ?_
 refine oS ?_
 refine oN ?_
 refine nz ?_
 refine WI.regB tT [0,1,11,12,13] ?_
 refine oS ?_
 refine oG (hok:=by first|exact se|(exact ξt (by omega))|(clear uu;grind)|exact sd) ?_
 refine oS ?_
 refine oN ?_
 refine nz ?_
 refine WI.orderA [0,1,11,12,13] ?_
 refine WI.loop (fun φ os=> ∃(j:Nat),φ= [(0,.x (.sl (rows rStr l))),(1,.fn 78 [.ptr 0 0]),(11,.x (.sl (rows rStr l))),(12,.x (.int .i64 l.length)),(13,.x (.int .i64 j))]∧os= [.box [.x (.sl (rows rTyp T))]]∧j≤l.length∧(l.take j).all typB=true) (down l.length 13) ?_ (fun φ os hI=> ?_)
 ·exact⟨0,rfl,rfl,by omega,rfl⟩
 ·obtain⟨j,rfl,rfl,hj,hall⟩:=hI
  refine nz ?_
  refine WI.regB tT [0,1,11,12,13,14] ?_
  refine oG (hok:=by first|exact se|(exact ξt (by omega))|(clear uu;grind)|exact sd) ?_
  refine oN ?_
  refine nz ?_
  refine cd (fun h0=> ?_) (fun h0=> ?_)
  ·have hj4:j<l.length:=by omega
   have hrw:=str_row l j hj4
   have hgj:l[j]=l.getD j []:=by simp[hj4]
   have hal:=all_snoc typB l j hj4
   have hnt:typB (l.getD j [])=false→l.all typB=false:=fun h=>all_take_false typB l j hj4 (by rw[hgj];exact h)
   have hd:=ξt (hn l[j] (List.getElem_mem hj4))
   rw[hgj]at hal hd
   generalize l.getD j []=x at hrw hal hnt hd
   have uu:=ξn uu (ξn hrw hd)
   refine WI.regB tT [0,1,6,11,12,13] ?_
   iterate 2 refine oG (hok:=by first|exact se|(exact ξt (by omega))|(clear uu;grind)|exact sd) ?_
   refine oS ?_
   refine oN ?_
   refine nz ?_
   refine WI.regB tT [0,1,11,12,13,19] ?_
   refine oS ?_
   refine oC (hok:=by first|exact se|(exact ξt (by omega))|(clear uu;grind)|exact sd) ?_
   refine oG (hok:=by first|exact se|(exact ξt (by omega))|(clear uu;grind)|exact sd) ?_
   refine oN ?_
   refine nz ?_
   refine cd (fun h1=> ?_) (fun h1=> ?_)
   ·have hxf:typB x=false:=by clear uu;grind
    refine WI.regB tT [4] ?_
    refine oS ?_
    refine oN ?_
    refine nz ?_
    refine lf ?_
    exact⟨by rw[hno (hnt hxf)],_,rfl⟩
   ·have hxt:typB x=true:=by clear uu;grind
    have hall2:(l.take (j+1)).all typB=true:=by rw[hal,hall,hxt];rfl
    refine WI.regB tT [0,1,11,12,13] ?_
    refine oG (hok:=by first|exact se|(exact ξt (by omega))|(clear uu;grind)|exact sd) ?_
    refine oS ?_
    refine oN ?_
    refine nz ?_
    exact⟨⟨j+1,rfl,rfl,by omega,hall2⟩,by simp[down,Ab.get,D.val,intOf?];omega⟩
  ·obtain rfl:j=l.length:=by omega
   rw[List.take_length]at hall
   refine WI.regB tT [0,7] ?_
   refine oS ?_
   refine oC (hok:=by first|exact se|(exact ξt (by omega))|(clear uu;grind)|exact sd) ?_
   refine oS ?_
   refine oN ?_
   refine nz ?_
   refine WI.regB tT [0,7,24] ?_
   refine oS ?_
   refine oG (hok:=by first|exact se|(exact ξt (by omega))|(clear uu;grind)|exact sd) ?_
   refine oN ?_
   refine nz ?_
   refine cd (fun h2=> ?_) (fun h2=> ?_)
   ·have hB0: ¬B=0:=by clear uu;subst hB;grind
    refine WI.regB tT [4] ?_
    iterate 2 refine oS ?_
    refine oN ?_
    refine nz ?_
    refine lf ?_
    exact⟨by rw[hbb hall hB0,hB],_,rfl⟩
   ·have hB0:B=0:=by clear uu;subst hB;grind
    refine WI.regB tT [0,8] ?_
    refine oG (hok:=by first|exact se|(exact ξt (by omega))|(clear uu;grind)|exact sd) ?_
    refine oS ?_
    refine oN ?_
    refine nz ?_
    refine WI.regB tT [8,27,28,29] ?_
    refine oS ?_
    refine oG (hok:=by first|exact se|(exact ξt (by omega))|(clear uu;grind)|exact sd) ?_
    refine oS ?_
    refine oN ?_
    refine nz ?_
    refine WI.orderA [8,27,28,29] ?_
    refine WI.loop (fun φ os=> ∃(j:Nat),φ= [(8,.mref 1),(27,.x (.sl (rows rStr l))),(28,.x (.int .i64 l.length)),(29,.x (.int .i64 j))]∧os= [.box [.x (.sl (rows rTyp T))],.mpo .str false (snM ((l.take j).map lowS))]∧j≤l.length∧((l.take j).map lowS).Nodup) (down l.length 29) ?_ (fun φ os hI=> ?_)
    ·exact⟨0,rfl,rfl,by omega,by simp⟩
    ·obtain⟨j,rfl,rfl,hj,hnd⟩:=hI
     refine nz ?_
     refine WI.regB tT [8,27,28,29,30] ?_
     refine oG (hok:=by first|exact se|(exact ξt (by omega))|(clear uu;grind)|exact sd) ?_
     refine oN ?_
     refine nz ?_
     refine cd (fun h3=> ?_) (fun h3=> ?_)
     ·have hj4:j<l.length:=by omega
      have hrw:=str_row l j hj4
      have hd:=ξt (show(l.getD j []).length≤140737488355328 by rw[show l.getD j []=l[j] by simp[hj4]];have:=hn _ (List.getElem_mem hj4);omega)
      have uu:=ξn uu (ξn hrw hd)
      refine WI.regB tT [8,10,27,28,29] ?_
      iterate 2 refine oG (hok:=by first|exact se|(exact ξt (by omega))|(clear uu;grind)|exact sd) ?_
      refine oS ?_
      refine oN ?_
      refine nz ?_
      by_cases hin:lowS (l.getD j [])∈(l.take j).map lowS
      ·have hg1:=snM_yes hin
       have hcp:=List.count_pos_iff.2 hin
       have uu:=ξn uu hg1
       refine WI.regB tT [8,10,27,28,29,37] ?_
       iterate 2 refine oS ?_
       refine oC (hok:=by first|exact se|(exact ξt (by omega))|(clear uu;grind)|exact sd) ?_
       iterate 2 refine oG (hok:=by first|exact se|(exact ξt (by omega))|(clear uu;grind)|exact sd) ?_
       refine oN ?_
       refine nz ?_
       refine ct (fun h4=> ?_) (fun h4=> ?_)
       ·refine WI.regB tT [4] ?_
        refine oS ?_
        refine oN ?_
        refine nz ?_
        refine lf ?_
        exact⟨by rw[hdu hall hB0 (nm_dup hj4 hin)],_,rfl⟩
       ·first|exact h4 (Int.natCast_pos.2 hcp)|exact(of_decide_eq_false h4) (Int.natCast_pos.2 hcp)|(simp at h4;exact absurd hcp (by omega))
      ·have hg1:=snM_no hin
       have hg2:=snM_new hin
       have uu:=ξn uu (ξn hg1 hg2)
       refine WI.regB tT [8,10,27,28,29,37] ?_
       iterate 2 refine oS ?_
       refine oC (hok:=by first|exact se|(exact ξt (by omega))|(clear uu;grind)|exact sd) ?_
       iterate 2 refine oG (hok:=by first|exact se|(exact ξt (by omega))|(clear uu;grind)|exact sd) ?_
       refine oN ?_
       refine nz ?_
       refine ce (fun h4=> ?_) (fun h4=> ?_)
       ·simp at h4
       ·refine WI.regB tT [8,27,28,29] ?_
        iterate 2 refine oS ?_
        refine oC (hok:=by first|exact se|(exact ξt (by omega))|(clear uu;grind)|exact sd) ?_
        iterate 3 refine oG (hok:=by first|exact se|(exact ξt (by omega))|(clear uu;grind)|exact sd) ?_
        refine oN ?_
        refine nz ?_
        have hnd2:((l.take (j+1)).map lowS).Nodup:=by
         rw[nm_snoc hj4,List.nodup_append]
         exact⟨hnd,by simp,fun a ha b hb=>by simp only[List.mem_singleton]at hb;subst hb;rintro rfl;exact hin ha⟩
        refine WI.regB tT [8,27,28,29] ?_
        refine oG (hok:=by first|exact se|(exact ξt (by omega))|(clear uu;grind)|exact sd) ?_
        refine oS ?_
        refine oN ?_
        refine nz ?_
        exact⟨⟨j+1,rfl,by rw[nm_snoc hj4],by omega,hnd2⟩,by simp[down,Ab.get,D.val,intOf?];omega⟩
     ·refine WI.regB tT [4] ?_
      refine oS ?_
      refine oN ?_
      refine nz ?_
      refine lf ?_
      exact⟨by rw[ξT (by omega)]at hnd;rw[hok hall hB0 hnd],_,rfl⟩
theorem namesB_c (l:List Tx) (hl:l.length≤100000) (hn: ∀x∈l,x.length≤1000000):PCalls Tryz.prog 75 [.x (.sl (rows rStr l)),.fn 81 []] (.x (.int .i64 (namV l 0))):=by
 obtain⟨B,hB⟩: ∃B,B=(0:Int):=⟨_,rfl⟩
 rw[←hB]
 have hno:l.all typB=false→namV l B=13:=fun h=>by unfold namV;rw[h];rfl
 have hbb:l.all typB=true→B≠0→namV l B=B:=fun h h2=>by unfold namV;rw[if_pos h,if_pos h2]
 have hdu:l.all typB=true→B=0→decide (l.map lowS).Nodup=false→namV l B=9:=fun h h2 h3=>by unfold namV;rw[if_pos h,if_neg (by simp[h2]),h3];rfl
 have hok:l.all typB=true→B=0→(l.map lowS).Nodup→namV l B=0:=fun h h2 h3=>by unfold namV;rw[if_pos h,if_neg (by simp[h2]),ξt h3];rfl
 refine FCalls.pure (fcallsG (fz:=true) G_ok (p:=i75) rfl _ (ξ rfl) _ (fun C0 E0=> ?_)) rfl
 dsimp only[i75,qt,qi,qs,qb,qm,qa,qh,qj,qT,qF,qe,ql,qL,qf,q2,q3,q8,qz,qp,qP,qc,qk,qx,qy,qo,qr,qC,argsφ]
 have uu:=ξn @lowerYG.eq_1 (ξn @lowerYG.eq_2 (ξn @typedSG.eq_1 (ξn @typedSG.eq_2 (ξn @chk2T.eq_1 (ξn @chk2T.eq_2 (ξn @chk4G.eq_1 (ξn @chk4G.eq_2 (ξn @tabNms_r (ξn @tabNms_k (ξn @tabNms_q114 (ξn @tabNms_q37 (ξn @tabNms_q78 (ξn @tabNms_q81 (@tabNms_t78))))))))))))))
 have tT:=tabNms_ok
 refine nz ?_
 refine WI.regB tT [0,1] ?_
 refine oS ?_
 refine oN ?_
 refine nz ?_
 refine WI.regB tT [0,1,11,12,13] ?_
 refine oS ?_
 refine oG (hok:=by first|exact se|(exact ξt (by omega))|(clear uu;grind)|exact sd) ?_
 refine oS ?_
 refine oN ?_
 refine nz ?_
 refine WI.orderA [0,1,11,12,13] ?_
 refine WI.loop (fun φ os=> ∃(j:Nat),φ= [(0,.x (.sl (rows rStr l))),(1,.fn 81 []),(11,.x (.sl (rows rStr l))),(12,.x (.int .i64 l.length)),(13,.x (.int .i64 j))]∧os= []∧j≤l.length∧(l.take j).all typB=true) (down l.length 13) ?_ (fun φ os hI=> ?_)
 ·exact⟨0,rfl,rfl,by omega,rfl⟩
 ·obtain⟨j,rfl,rfl,hj,hall⟩:=hI
  refine nz ?_
  refine WI.regB tT [0,1,11,12,13,14] ?_
  refine oG (hok:=by first|exact se|(exact ξt (by omega))|(clear uu;grind)|exact sd) ?_
  refine oN ?_
  refine nz ?_
  refine cd (fun h0=> ?_) (fun h0=> ?_)
  ·have hj4:j<l.length:=by omega
   have hrw:=str_row l j hj4
   have hgj:l[j]=l.getD j []:=by simp[hj4]
   have hal:=all_snoc typB l j hj4
   have hnt:typB (l.getD j [])=false→l.all typB=false:=fun h=>all_take_false typB l j hj4 (by rw[hgj];exact h)
   have hd:=ξt (hn l[j] (List.getElem_mem hj4))
   rw[hgj]at hal hd
   generalize l.getD j []=x at hrw hal hnt hd
   have uu:=ξn uu (ξn hrw hd)
   refine WI.regB tT [0,1,6,11,12,13] ?_
   iterate 2 refine oG (hok:=by first|exact se|(exact ξt (by omega))|(clear uu;grind)|exact sd) ?_
   refine oS ?_
   refine oN ?_
   refine nz ?_
   refine WI.regB tT [0,1,11,12,13,19] ?_
   refine oS ?_
   refine oC (hok:=by first|exact se|(exact ξt (by omega))|(clear uu;grind)|exact sd) ?_
   refine oG (hok:=by first|exact se|(exact ξt (by omega))|(clear uu;grind)|exact sd) ?_
   refine oN ?_
   refine nz ?_
   refine cd (fun h1=> ?_) (fun h1=> ?_)
   ·have hxf:typB x=false:=by clear uu;grind
    refine WI.regB tT [4] ?_
    refine oS ?_
    refine oN ?_
    refine nz ?_
    refine lf ?_
    rw[hno (hnt hxf)]
   ·have hxt:typB x=true:=by clear uu;grind
    have hall2:(l.take (j+1)).all typB=true:=by rw[hal,hall,hxt];rfl
    refine WI.regB tT [0,1,11,12,13] ?_
    refine oG (hok:=by first|exact se|(exact ξt (by omega))|(clear uu;grind)|exact sd) ?_
    refine oS ?_
    refine oN ?_
    refine nz ?_
    exact⟨⟨j+1,rfl,rfl,by omega,hall2⟩,by simp[down,Ab.get,D.val,intOf?];omega⟩
  ·obtain rfl:j=l.length:=by omega
   rw[List.take_length]at hall
   refine WI.regB tT [0,7] ?_
   refine oS ?_
   refine oC (hok:=by first|exact se|(exact ξt (by omega))|(clear uu;grind)|exact sd) ?_
   refine oS ?_
   refine oN ?_
   refine nz ?_
   refine WI.regB tT [0,7,24] ?_
   refine oS ?_
   refine oG (hok:=by first|exact se|(exact ξt (by omega))|(clear uu;grind)|exact sd) ?_
   refine oN ?_
   refine nz ?_
   refine cd (fun h2=> ?_) (fun h2=> ?_)
   ·have hB0: ¬B=0:=by clear uu;subst hB;grind
    refine WI.regB tT [4] ?_
    iterate 2 refine oS ?_
    refine oN ?_
    refine nz ?_
    refine lf ?_
    rw[hbb hall hB0,hB]
   ·have hB0:B=0:=by clear uu;subst hB;grind
    refine WI.regB tT [0,8] ?_
    refine oG (hok:=by first|exact se|(exact ξt (by omega))|(clear uu;grind)|exact sd) ?_
    refine oS ?_
    refine oN ?_
    refine nz ?_
    refine WI.regB tT [8,27,28,29] ?_
    refine oS ?_
    refine oG (hok:=by first|exact se|(exact ξt (by omega))|(clear uu;grind)|exact sd) ?_
    refine oS ?_
    refine oN ?_
    refine nz ?_
    refine WI.orderA [8,27,28,29] ?_
    refine WI.loop (fun φ os=> ∃(j:Nat),φ= [(8,.mref 0),(27,.x (.sl (rows rStr l))),(28,.x (.int .i64 l.length)),(29,.x (.int .i64 j))]∧os= [.mpo .str false (snM ((l.take j).map lowS))]∧j≤l.length∧((l.take j).map lowS).Nodup) (down l.length 29) ?_ (fun φ os hI=> ?_)
    ·exact⟨0,rfl,rfl,by omega,by simp⟩
    ·obtain⟨j,rfl,rfl,hj,hnd⟩:=hI
     refine nz ?_
     refine WI.regB tT [8,27,28,29,30] ?_
     refine oG (hok:=by first|exact se|(exact ξt (by omega))|(clear uu;grind)|exact sd) ?_
     refine oN ?_
     refine nz ?_
     refine cd (fun h3=> ?_) (fun h3=> ?_)
     ·have hj4:j<l.length:=by omega
      have hrw:=str_row l j hj4
      have hd:=ξt (show(l.getD j []).length≤140737488355328 by rw[show l.getD j []=l[j] by simp[hj4]];have:=hn _ (List.getElem_mem hj4);omega)
      have uu:=ξn uu (ξn hrw hd)
      refine WI.regB tT [8,10,27,28,29] ?_
      iterate 2 refine oG (hok:=by first|exact se|(exact ξt (by omega))|(clear uu;grind)|exact sd) ?_
      refine oS ?_
      refine oN ?_
      refine nz ?_
      by_cases hin:lowS (l.getD j [])∈(l.take j).map lowS
      ·have hg1:=snM_yes hin
       have hcp:=List.count_pos_iff.2 hin
       have uu:=ξn uu hg1
       refine WI.regB tT [8,10,27,28,29,37] ?_
       iterate 2 refine oS ?_
       refine oC (hok:=by first|exact se|(exact ξt (by omega))|(clear uu;grind)|exact sd) ?_
       iterate 2 refine oG (hok:=by first|exact se|(exact ξt (by omega))|(clear uu;grind)|exact sd) ?_
       refine oN ?_
       refine nz ?_
       refine ct (fun h4=> ?_) (fun h4=> ?_)
       ·refine WI.regB tT [4] ?_
        refine oS ?_
        refine oN ?_
        refine nz ?_
        refine lf ?_
        rw[hdu hall hB0 (nm_dup hj4 hin)]
       ·first|exact h4 (Int.natCast_pos.2 hcp)|exact(of_decide_eq_false h4) (Int.natCast_pos.2 hcp)|(simp at h4;exact absurd hcp (by omega))
      ·have hg1:=snM_no hin
       have hg2:=snM_new hin
       have uu:=ξn uu (ξn hg1 hg2)
       refine WI.regB tT [8,10,27,28,29,37] ?_
       iterate 2 refine oS ?_
       refine oC (hok:=by first|exact se|(exact ξt (by omega))|(clear uu;grind)|exact sd) ?_
       iterate 2 refine oG (hok:=by first|exact se|(exact ξt (by omega))|(clear uu;grind)|exact sd) ?_
       refine oN ?_
       refine nz ?_
       refine ce (fun h4=> ?_) (fun h4=> ?_)
       ·simp at h4
       ·refine WI.regB tT [8,27,28,29] ?_
        iterate 2 refine oS ?_
        refine oC (hok:=by first|exact se|(exact ξt (by omega))|(clear uu;grind)|exact sd) ?_
        iterate 3 refine oG (hok:=by first|exact se|(exact ξt (by omega))|(clear uu;grind)|exact sd) ?_
        refine oN ?_
        refine nz ?_
        have hnd2:((l.take (j+1)).map lowS).Nodup:=by
         rw[nm_snoc hj4,List.nodup_append]
         exact⟨hnd,by simp,fun a ha b hb=>by simp only[List.mem_singleton]at hb;subst hb;rintro rfl;exact hin ha⟩
        refine WI.regB tT [8,27,28,29] ?_
        refine oG (hok:=by first|exact se|(exact ξt (by omega))|(clear uu;grind)|exact sd) ?_
        refine oS ?_
        refine oN ?_
        refine nz ?_
        exact⟨⟨j+1,rfl,by rw[nm_snoc hj4],by omega,hnd2⟩,by simp[down,Ab.get,D.val,intOf?];omega⟩
     ·refine WI.regB tT [4] ?_
      refine oS ?_
      refine oN ?_
      refine nz ?_
      refine lf ?_
      rw[ξT (by omega)]at hnd;rw[hok hall hB0 hnd]
def smN (l:List Tx):Prop:=l.length≤100000∧ ∀x∈l,x.length≤1000000
instance (l:List Tx):Decidable (smN l):=inferInstanceAs (Decidable (_∧_))
def eachTG:List D→Option (Bool×D)
 | [.x (.sl R),.fn 77 []]=>(unrows rTyp R).bind fun l=>some (decide (l.length≤100000),.x (.sl (rows rStr (l.map (·.1)))))
 |_=>none
theorem eachTG_ok: ∀args r,eachTG args=some (true,r)→PCalls Tryz.prog 76 args r:=by
 intro args r h
 unfold eachTG at h
 split at h
 ·rename_i R
  obtain⟨l,hr0,h⟩:=ξB h
  simp only[ξI,ξP,ξa,ξe,true_and]at h
  obtain⟨h1,rfl⟩:=h
  rw[←rows_unrows good_rTyp hr0]
  exact(eachT_c l h1)
 ·cases h
def eachCG:List D→Option (Bool×D)
 | [.x (.sl R),.fn 80 []]=>(unrows rCls R).bind fun l=>some (decide (l.length≤100000),.x (.sl (rows rStr (l.map (·.1)))))
 |_=>none
theorem eachCG_ok: ∀args r,eachCG args=some (true,r)→PCalls Tryz.prog 79 args r:=by
 intro args r h
 unfold eachCG at h
 split at h
 ·rename_i R
  obtain⟨l,hr0,h⟩:=ξB h
  simp only[ξI,ξP,ξa,ξe,true_and]at h
  obtain⟨h1,rfl⟩:=h
  rw[←rows_unrows good_rCls hr0]
  exact(eachC_c l h1)
 ·cases h
def namesAT:List D→List Ob→Option (Bool×D×List Ob)
 | [.x (.sl R),.fn 78 [.ptr 0 0]],[.box [.x (.sl R2)]]=>(unrows rStr R).bind fun l=>(unrows rTyp R2).bind fun T=>some (decide (T.length≤100000∧smN l),.x (.int .i64 (namV l (rulV T))),[.box [.x (.sl (rows rTyp T))]])
 |_,_=>none
theorem namesAT_ok: ∀args os r os',namesAT args os=some (true,r,os')→MCalls Tryz.prog 75 args os r os':=by
 intro args os r os' h
 unfold namesAT at h
 split at h
 ·rename_i R R2
  obtain⟨l,hr0,h⟩:=ξB h
  obtain⟨T,hr1,h⟩:=ξB h
  simp only[ξI,ξP,ξa,ξe,true_and]at h
  obtain⟨h1,rfl,rfl⟩:=h
  rw[←rows_unrows good_rStr hr0]
  rw[←rows_unrows good_rTyp hr1]
  exact namesA_c T h1.1 l h1.2.1 h1.2.2
 ·cases h
def namesBG:List D→Option (Bool×D)
 | [.x (.sl R),.fn 81 []]=>(unrows rStr R).bind fun l=>some (decide (smN l),.x (.int .i64 (namV l 0)))
 |_=>none
theorem namesBG_ok: ∀args r,namesBG args=some (true,r)→PCalls Tryz.prog 75 args r:=by
 intro args r h
 unfold namesBG at h
 split at h
 ·rename_i R
  obtain⟨l,hr0,h⟩:=ξB h
  simp only[ξI,ξP,ξa,ξe,true_and]at h
  obtain⟨h1,rfl⟩:=h
  rw[←rows_unrows good_rStr hr0]
  exact(namesB_c l h1.1 h1.2)
 ·cases h
def tabChk:Tabs:=addQ (addT (addQ (addQ (noTabs) 76 eachTG) 79 eachCG) 75 namesAT) 75 namesBG
theorem tabChk_ok:SsOk Tryz.prog tabChk:=addQ_ok (addT_ok (addQ_ok (addQ_ok (noTabs_ok) (G_enters G_ok (p:=i76) rfl) eachTG_ok) (G_enters G_ok (p:=i79) rfl) eachCG_ok) (G_enters G_ok (p:=i75) rfl) namesAT_ok) (G_enters G_ok (p:=i75) rfl) namesBG_ok
theorem tabChk_q76 (a:List D):tabChk.q 76 a=eachTG a:=rfl
theorem tabChk_q79 (a:List D):tabChk.q 79 a=eachCG a:=rfl
theorem tabChk_t75 (a:List D) (o:List Ob):tabChk.t 75 a o=liftT namesAT a o:=rfl
theorem tabChk_q75 (a:List D):tabChk.q 75 a=namesBG a:=rfl
theorem tabChk_r (f:FuncId) (a:List D) (o:List Ob):tabChk.r f a o=none:=rfl
theorem tabChk_k (f:FuncId) (a:List D) (o:List Ob):tabChk.k f a o=none:=rfl
theorem un_st (l:List Tx):unrows rStr (rows rStr l)=some l:=unrows_rows good_rStr l
theorem un_cs (l:List TCls):unrows rCls (rows rCls l)=some l:=unrows_rows good_rCls l
def chkN (T:List TTyp) (C:List TCls):Int:=if 1024<T.length∨1024<C.length then 3 else if namV (T.map (·.1)) (rulV T)≠0 then namV (T.map (·.1)) (rulV T)else namV (C.map (·.1)) 0
def smT (T:List TTyp):Prop:=T.length≤100000∧ ∀x∈T,x.1.length≤1000000
def smC (C:List TCls):Prop:=C.length≤100000∧ ∀x∈C,x.1.length≤1000000∧(x.2.1.length≤50000∧ ∀n∈x.2.1,n.length≤140737488355328)∧(x.2.2.1.length≤50000∧ ∀n∈x.2.2.1,n.length≤140737488355328)
instance (T:List TTyp):Decidable (smT T):=inferInstanceAs (Decidable (_∧_))
instance (C:List TCls):Decidable (smC C):=inferInstanceAs (Decidable (_∧_))
theorem checkS_c (T:List TTyp) (C:List TCls) (hT:smT T) (hC:smC C):PCalls Tryz.prog 45 [.x (.sl (rows rTyp T)),.x (.sl (rows rCls C))] (.x (.int .i64 (chkN T C))):=by
 have hTl:=hT.1
 have hCl:=hC.1
 have hd1:decide (T.length≤100000∧smN (T.map (·.1)))=true:=ξt ⟨hTl,by rw[smN,List.length_map];exact⟨hTl,fun x hx=>by obtain⟨t,ht,rfl⟩:=List.mem_map.1 hx;exact hT.2 t ht⟩⟩
 have hd2:decide (smN (C.map (·.1)))=true:=ξt (by rw[smN,List.length_map];exact⟨hCl,fun x hx=>by obtain⟨t,ht,rfl⟩:=List.mem_map.1 hx;exact(hC.2 t ht).1⟩)
 have hd3:=ξt hTl
 have hd4:=ξt hCl
 rcases hres:chkN T C with v
 unfold chkN at hres
 refine FCalls.pure (fcallsG (fz:=true) G_ok (p:=i45) rfl _ (ξ rfl) _ (fun C0 E0=> ?_)) rfl
 dsimp only[i45,qt,qi,qs,qb,qm,qa,qh,qj,qT,qF,qe,ql,qL,qf,q2,q3,q8,qz,qp,qP,qc,qk,qx,qy,qo,qr,qC,argsφ]
 have uu:=ξn @eachTG.eq_1 (ξn @eachTG.eq_2 (ξn @eachCG.eq_1 (ξn @eachCG.eq_2 (ξn @namesAT.eq_1 (ξn @namesAT.eq_2 (ξn @namesBG.eq_1 (ξn @namesBG.eq_2 (ξn @un_tp (ξn @un_st (ξn @un_cs (ξn hd1 (ξn hd2 (ξn hd3 (ξn hd4 (ξn @tabChk_r (ξn @tabChk_k (ξn @tabChk_q75 (ξn @tabChk_q76 (ξn @tabChk_q79 (@tabChk_t75))))))))))))))))))))
 have tT:=tabChk_ok
 refine nz ?_
 refine rg tT [1,2] ?_
 refine rg tT [1,2,13] ?_
 refine cd (fun h0=> ?_) (fun h0=> ?_)
 ·rw[if_pos (by clear uu;grind)]at hres
  refine rg tT [4] ?_
  refine lf ?_
  rw[hres]
 ·rw[if_neg (by clear uu;grind)]at hres
  refine rg tT [1,5] ?_
  refine rg tT [1,5,19] ?_
  refine cd (fun h1=> ?_) (fun h1=> ?_)
  ·rw[if_pos (by simpa using h1)]at hres
   refine rg tT [4] ?_
   refine lf ?_
   rw[hres]
  ·rw[if_neg (by simpa using h1)]at hres
   refine rg tT [4] ?_
   refine lf ?_
   rw[hres]
def checkSG:List D→Option (Bool×D)
 | [.x (.sl R),.x (.sl R2)]=>(unrows rTyp R).bind fun T=>(unrows rCls R2).bind fun C=>some (decide (smT T∧smC C),.x (.int .i64 (chkN T C)))
 |_=>none
theorem checkSG_ok: ∀args r,checkSG args=some (true,r)→PCalls Tryz.prog 45 args r:=by
 intro args r h
 unfold checkSG at h
 split at h
 ·rename_i R R2
  obtain⟨T,hr0,h⟩:=ξB h
  obtain⟨C,hr1,h⟩:=ξB h
  simp only[ξI,ξP,ξa,ξe,true_and]at h
  obtain⟨h1,rfl⟩:=h
  rw[←rows_unrows good_rTyp hr0]
  rw[←rows_unrows good_rCls hr1]
  exact(checkS_c T C h1.1 h1.2)
 ·cases h
theorem nodup_at {α:Type} (f:α→Tx) (l:List α) (d:α) (i:Nat) (h:i<l.length) (hn:(l.map f).Nodup):f (l.getD i d)∉(l.take i).map f:=by
 intro hin
 have e:l=l.take i++l.getD i d::l.drop (i+1):=by
  have:=List.take_append_drop i l
  rw[List.drop_eq_getElem_cons h]at this
  rw[show l.getD i d=l[i] by simp[h]];exact this.symm
 rw[e,List.map_append,List.map_cons]at hn
 exact(List.nodup_append.1 hn).2.2 _ hin _ List.mem_cons_self rfl
theorem tyL_keys (T:List TTyp):(tyL T).map (·.1)=T.map fun t=>lowS t.1:=by unfold tyL;rw[List.map_map];rfl
theorem clL_keys (C:List TCls):(clL C).map (·.1)=C.map fun c=>lowS c.1:=by unfold clL;rw[List.map_map];rfl
theorem tyL_at (T:List TTyp) (i:Nat) (h:i<T.length) (hn:(T.map fun t=>lowS t.1).Nodup):
  msetX (tyM (tyL (T.take i))) [X.str (lowS (T.getD i ([],0,false,())).1)] [.x (.str (lowS (T.getD i ([],0,false,())).1)),.x (.int .i64 (T.getD i ([],0,false,())).2.1),.x (.bool (T.getD i ([],0,false,())).2.2.1)]=tyM (tyL (T.take (i+1))):=by
 have h1:=nodup_at (fun t:TTyp=>lowS t.1) T ([],0,false,()) i h hn
 rw[←tyL_keys]at h1
 have h2:=ty_set (tyL (T.take i)) (lowS (T.getD i ([],0,false,())).1) (lowT (T.getD i ([],0,false,())))
 rw[mset_new (mlook_none.2 h1)]at h2
 refine Eq.trans h2 ?_
 rw[List.take_succ_eq_append_getElem h]
 unfold tyL
 rw[List.map_append]
 simp[h]
theorem clL_at (C:List TCls) (i:Nat) (h:i<C.length) (hn:(C.map fun t=>lowS t.1).Nodup):
  msetX (clM (clL (C.take i))) [X.str (lowS (C.getD i ([],[],[],())).1)] [.x (.str (lowS (C.getD i ([],[],[],())).1)),.x (.sl (rows rStr ((C.getD i ([],[],[],())).2.1.map lowS))),.x (.sl (rows rStr ((C.getD i ([],[],[],())).2.2.1.map lowS)))]=clM (clL (C.take (i+1))):=by
 have h1:=nodup_at (fun t:TCls=>lowS t.1) C ([],[],[],()) i h hn
 rw[←clL_keys]at h1
 have h2:=cl_set (clL (C.take i)) (lowS (C.getD i ([],[],[],())).1) (lowC' (C.getD i ([],[],[],())))
 rw[mset_new (mlook_none.2 h1)]at h2
 refine Eq.trans h2 ?_
 rw[List.take_succ_eq_append_getElem h]
 unfold clL
 rw[List.map_append]
 simp[h]
theorem namV_zero {l:List Tx} {b:Int} (h:namV l b=0):l.all typB=true∧b=0∧(l.map lowS).Nodup:=by
 unfold namV at h
 split at h
 ·split at h
  ·omega
  ·split at h
   ·rename_i h1 h2 h3;exact⟨h1,by omega,of_decide_eq_true h3⟩
   ·omega
 ·omega
theorem chkN_zero {T:List TTyp} {C:List TCls} (h:chkN T C=0):(T.map fun t=>lowS t.1).Nodup∧(C.map fun t=>lowS t.1).Nodup:=by
 unfold chkN at h
 split at h
 ·omega
 ·split at h
  ·rename_i h1;exact absurd h h1
  ·rename_i h1
   have h2:=(namV_zero (Decidable.not_not.1 h1)).2.2
   have h3:=(namV_zero h).2.2
   rw[List.map_map]at h2 h3
   exact⟨h2,h3⟩
def clsT (T:List TTyp) (c:TCls):Bool:=(c.2.1.map lowS++c.2.2.1.map lowS).all fun n=>(mlook (tyL T) (lowS n)).isSome
def newV (T:List TTyp) (C:List TCls):Int:=if chkN T C≠0 then chkN T C else if C.all (clsT T)=true then(if(mlook (tyL T) (lowS OC)).isSome=true then 0 else 8)else 8
def eachSG:List D→Option (Bool×D)
 | [.x (.sl R),.fn 37 []]=>(unrows rStr R).bind fun l=>some (decide (l.length≤100000∧ ∀x∈l,x.length≤140737488355328),.x (.sl (rows rStr (l.map lowS))))
 |_=>none
theorem eachSG_ok: ∀args r,eachSG args=some (true,r)→PCalls Tryz.prog 46 args r:=by
 intro args r h
 unfold eachSG at h
 split at h
 ·rename_i R
  obtain⟨l,hr0,h⟩:=ξB h
  simp only[ξI,ξP,ξa,ξe,true_and]at h
  obtain⟨h1,rfl⟩:=h
  rw[←rows_unrows good_rStr hr0]
  exact(eachS_c l h1.1 h1.2)
 ·cases h
def conG:List D→Option (Bool×D)
 | [.x (.sl [[.sl R],[.sl R']])]=>(unrows rStr R).bind fun a=>(unrows rStr R').map fun b=>(decide (a.length≤100000∧b.length≤100000),.x (.sl (rows rStr (a++b))))
 |_=>none
theorem conG_ok: ∀args r,conG args=some (true,r)→PCalls Tryz.prog 47 args r:=by
 intro args r h
 unfold conG at h
 split at h
 ·rename_i R R'
  obtain⟨a,h1,h⟩:=ξB h
  obtain⟨b,h2,h3⟩:=ξM h
  simp only[ξP,ξe]at h3
  obtain⟨h4,rfl⟩:=h3
  rw[←rows_unrows good_rStr h1,←rows_unrows good_rStr h2]
  exact concat_c a b h4.1 h4.2
 ·cases h
def tabNew:Tabs:=addT (addT (addQ (addQ (addQ (addQ (noTabs) 45 checkSG) 37 lowerYG) 46 eachSG) 47 conG) 47 (frzT conG)) 36 findT
theorem tabNew_ok:SsOk Tryz.prog tabNew:=addT_ok (addT_ok (addQ_ok (addQ_ok (addQ_ok (addQ_ok (noTabs_ok) (G_enters G_ok (p:=i45) rfl) checkSG_ok) (G_enters G_ok (p:=i37) rfl) lowerYG_ok) (G_enters G_ok (p:=i46) rfl) eachSG_ok) (G_enters G_ok (p:=i47) rfl) conG_ok) (G_enters G_ok (p:=i47) rfl) (frzT_ok conG_ok)) (G_enters G_ok (p:=i36) rfl) findT_ok
theorem tabNew_q45 (a:List D):tabNew.q 45 a=checkSG a:=rfl
theorem tabNew_q37 (a:List D):tabNew.q 37 a=lowerYG a:=rfl
theorem tabNew_q46 (a:List D):tabNew.q 46 a=eachSG a:=rfl
theorem tabNew_q47 (a:List D):tabNew.q 47 a=conG a:=rfl
theorem tabNew_t47 (a:List D) (o:List Ob):tabNew.t 47 a o=liftT (frzT conG) a o:=rfl
theorem tabNew_q36 (a:List D):tabNew.q 36 a=none:=rfl
theorem tabNew_t36 (a:List D) (o:List Ob):tabNew.t 36 a o=liftT findT a o:=rfl
theorem tabNew_r (f:FuncId) (a:List D) (o:List Ob):tabNew.r f a o=none:=rfl
theorem tabNew_k (f:FuncId) (a:List D) (o:List Ob):tabNew.k f a o=none:=rfl
abbrev scH (L:List (Tx×TTyp)) (M:List (Tx×TCls)) (c d:TCls):List Ob:= [.box [.mref 1,.mref 2],.mpo .str true (tyM L),.mpo .str true (clM M),.box [.x (.str c.1),.x (.sl (rows rStr c.2.1)),.x (.sl (rows rStr c.2.2.1))],.box [.x (.str d.1),.x (.sl (rows rStr d.2.1)),.x (.sl (rows rStr d.2.2.1))]]
theorem scH_inP (L:List (Tx×TTyp)) (M:List (Tx×TCls)) (c d:TCls):(scH L M c d).all (Ob.inP (fun i=>decide (i<(scH L M c d).length)))=true:=by
 simp[Ob.inP,inL,D.inP,ty_all,cl_all]
set_option maxHeartbeats 4000000 in
theorem new_c (T:List TTyp) (C:List TCls) (hT:smT T) (hC:smC C) (r:D) (OS:List Ob) (hz:newV T C=0→r= .tup [.ptr 0 0,.x (.int .i64 0)]∧OS=scO (tyL T) (clL C)) (hnz:newV T C≠0→r= .tup [.x .nilp,.x (.int .i64 (newV T C))]∧OS= []):
  MCalls Tryz.prog 22 [.x (.sl (rows rTyp T)),.x (.sl (rows rCls C))] [] r OS:=by
 have hO:OS.all (Ob.inP (fun i=>decide (i<OS.length)))=true:=by
  by_cases h:newV T C=0
  ·rw[(hz h).2];exact scO_inP _ _
  ·rw[(hnz h).2];rfl
 have hTl:=hT.1
 have hz':=hz
 have hnz':=hnz
 have hCl:=hC.1
 have hd1:decide (smT T∧smC C)=true:=ξt ⟨hT,hC⟩
 rcases hch:chkN T C with v
 unfold newV at hz hnz
 rw[hch]at hz hnz
 have hoc:OC= [111,98,106,101,99,116,99,108,97,115,115]:=rfl
 have hR:r.inP (fun i=>decide (i<OS.length))=true:=by
  by_cases h:newV T C=0
  ·rw[(hz' h).1,(hz' h).2];rfl
  ·rw[(hnz' h).1,(hnz' h).2];rfl
 refine FCalls.mcallsX (fcallsG (fz:=true) G_ok (p:=i22) rfl _ (ξ rfl) _ (fun C0 E0=> ?_)) (by first|decide|(simp;done)) hO (by first|rfl|exact hR)
 dsimp only[i22,qt,qi,qs,qb,qm,qa,qh,qj,qT,qF,qe,ql,qL,qf,q2,q3,q8,qz,qp,qP,qc,qk,qx,qy,qo,qr,qC,argsφ]
 have uu:=ξn @checkSG.eq_1 (ξn @checkSG.eq_2 (ξn @lowerYG.eq_1 (ξn @lowerYG.eq_2 (ξn @eachSG.eq_1 (ξn @eachSG.eq_2 (ξn @conG.eq_1 (ξn @conG.eq_2 (ξn @findT.eq_1 (ξn @findT.eq_2 (ξn @un_tp (ξn @un_st (ξn @un_cs (ξn @un_ty (ξn @un_cl (ξn hd1 (ξn hch (ξn @ty_ren (ξn @cl_ren (ξn @ty_ids (ξn @cl_ids (ξn @ty_all (ξn @cl_all (ξn @encM_ren (ξn @encM_ids (ξn @encM_all (ξn @tabNew_r (ξn @tabNew_k (ξn @tabNew_q36 (ξn @tabNew_q37 (ξn @tabNew_q45 (ξn @tabNew_q46 (ξn @tabNew_q47 (ξn @tabNew_t47 (ξn @tabNew_t36 (@frzT.eq_1)))))))))))))))))))))))))))))))))))
 refine WI.seq ?_
 refine WI.regB tabNew_ok [0,1] ?_
 iterate 2 refine oS ?_
 refine oN ?_
 refine thenQ_normal ?_
 refine WI.seq ?_
 refine WI.seq ?_
 refine WI.regB tabNew_ok [0,1,6] ?_
 iterate 2 refine oS ?_
 refine oC ?_
 refine oS ?_
 refine oN ?_
 refine thenQ_normal ?_
 refine WI.seq ?_
 refine WI.regB tabNew_ok [0,1,6,23] ?_
 refine oS ?_
 refine oG ?_
 refine oN ?_
 refine thenQ_normal ?_
 refine WI.cond (b:=_) rfl rfl (fun h0=> ?_) (fun h0=> ?_)
 ·try simp only[zB]at h0
  have hv0: ¬v=0:=by simpa using h0
  refine WI.seq ?_
  refine WI.regB tabNew_ok [4,5] ?_
  iterate 3 refine oS ?_
  refine oN ?_
  refine thenQ_normal ?_
  refine WI.ret ?_
  refine thenQ_ret ?_
  first|refine lfR ?_|refine lfR2 ?_|refine lfRX ?_
  obtain⟨rfl,rfl⟩:=(by rw[if_pos hv0]at hnz;exact hnz hv0);exact⟨rfl,[],rfl⟩
 ·try simp only[zB]at h0
  have hv0:v=0:=by simpa using h0
  subst hv0
  obtain⟨hnT,hnC⟩:=chkN_zero hch
  rw[if_neg (by simp)]at hz hnz
  refine WI.skip ?_
  refine thenQ_normal ?_
  refine WI.seq ?_
  refine WI.regB tabNew_ok [0,1,7] ?_
  iterate 6 refine oG ?_
  refine oS ?_
  refine oN ?_
  refine thenQ_normal ?_
  refine WI.seq ?_
  refine WI.seq ?_
  refine WI.regB tabNew_ok [1,7,31,32,33] ?_
  refine oS ?_
  refine oG ?_
  refine oS ?_
  refine oN ?_
  refine thenQ_normal ?_
  refine WI.block ?_
  refine WI.pickA [2,0,1] ?_
  refine WI.orderA [1,7,31,32,33] ?_
  refine WI.loop (fun φ os=> ∃(i:Nat),φ= [(1,.x (.sl (rows rCls C))),(7,.ptr 0 0),(31,.x (.sl (rows rTyp T))),(32,.x (.int .i64 T.length)),(33,.x (.int .i64 i))]∧os=scO (tyL (T.take i)) []∧i≤T.length) (down T.length 33) ?_ (fun φ os hI=> ?_)
  ·exact⟨0,rfl,rfl,by omega⟩
  ·obtain⟨i,rfl,rfl,hi⟩:=hI
   refine WI.seq ?_
   refine WI.regB tabNew_ok [1,7,31,32,33,34] ?_
   refine oG ?_
   refine oN ?_
   refine thenQ_normal ?_
   refine WI.seq ?_
   refine WI.cond (b:=_) rfl rfl (fun h1=> ?_) (fun h1=> ?_)
   ·try simp only[zB]at h1
    refine WI.skip ?_
    refine thenQ_normal ?_
    refine WI.seq ?_
    refine WI.block ?_
    refine WI.seq ?_
    have hi4:i<T.length:=by omega
    have hrw:=tp_row T i hi4
    have hst:=tyL_at T i hi4 hnT
    have hxl:=hT.2 T[i] (List.getElem_mem hi4)
    rw[show T[i]=T.getD i ([],0,false,()) by simp[hi4]]at hxl
    generalize T.getD i ([],0,false,())=x at hrw hst hxl
    have hd47:decide (x.1.length≤140737488355328)=true:=ξt (by omega)
    have uu:=ξn uu (ξn hrw (ξn hst hd47))
    refine WI.regB tabNew_ok [1,7,9,31,32,33] ?_
    iterate 4 refine oG ?_
    refine oN ?_
    refine thenQ_normal ?_
    refine WI.seq ?_
    refine WI.regB tabNew_ok [1,7,9,31,32,33] ?_
    refine oS ?_
    refine oG ?_
    refine oC ?_
    refine oS ?_
    refine oG ?_
    refine oN ?_
    refine thenQ_normal ?_
    refine WI.dregB tabNew_ok [1,7,31,32,33] ?_
    iterate 5 refine dFS ?_
    refine dQG ?_
    refine dFS ?_
    iterate 2 refine dQG ?_
    refine dAG ?_
    refine dN ?_
    refine blockQ_normal ?_
    refine thenQ_normal ?_
    refine WI.orderA [1,7,31,32,33] ?_
    refine WI.dropT (scO (tyL (T.take (i+1))) []) _ rfl (by simp) (scO_inP _ _) (by simp[D.inP,inL]) ?_
    refine WI.regB tabNew_ok [1,7,31,32,33] ?_
    refine oG ?_
    refine oS ?_
    refine oN ?_
    refine thenQ_normal ?_
    exact⟨⟨i+1,rfl,rfl,by omega⟩,by simp[down,Ab.get,D.val,intOf?];omega⟩
   ·try simp only[zB]at h1
    refine WI.exit ?_
    refine thenQ_exit ?_
    refine thenQ_exit ?_
    refine blockQ_hit ?_
    refine thenQ_normal ?_
    refine WI.seq ?_
    refine WI.seq ?_
    obtain rfl:i=T.length:=by omega
    rw[List.take_length]
    generalize hL:tyL T=L at hz hnz⊢
    refine WI.regB tabNew_ok [7,51,52,53] ?_
    refine oS ?_
    refine oG ?_
    refine oS ?_
    refine oN ?_
    refine thenQ_normal ?_
    refine WI.block ?_
    refine WI.loop (fun φ os=> ∃(i:Nat),φ= [(7,.ptr 0 0),(51,.x (.sl (rows rCls C))),(52,.x (.int .i64 C.length)),(53,.x (.int .i64 i))]∧os=scO L (clL (C.take i))∧i≤C.length∧(C.take i).all (clsT T)=true) (down C.length 53) ?_ (fun φ os hI=> ?_)
    ·exact⟨0,rfl,rfl,by omega,rfl⟩
    ·obtain⟨i,rfl,rfl,hi,hall⟩:=hI
     refine WI.seq ?_
     refine WI.regB tabNew_ok [7,51,52,53,54] ?_
     refine oG ?_
     refine oN ?_
     refine thenQ_normal ?_
     refine WI.seq ?_
     refine WI.cond (b:=_) rfl rfl (fun h2=> ?_) (fun h2=> ?_)
     ·try simp only[zB]at h2
      refine WI.skip ?_
      refine thenQ_normal ?_
      refine WI.seq ?_
      refine WI.block ?_
      refine WI.seq ?_
      have hi4:i<C.length:=by omega
      have hrw:=cs_row C i hi4
      have hst:=clL_at C i hi4 hnC
      have hal:=all_snoc (clsT T) C i hi4
      have hgi:C[i]=C.getD i ([],[],[],()):=by simp[hi4]
      have hno:clsT T (C.getD i ([],[],[],()))=false→C.all (clsT T)=false:=fun h=>all_take_false (clsT T) C i hi4 (by rw[hgi];exact h)
      have hxl:=hC.2 C[i] (List.getElem_mem hi4)
      rw[hgi]at hxl hal
      generalize C.getD i ([],[],[],())=x at hrw hst hxl hal hno
      obtain⟨hx1,hx2,hx3⟩:=hxl
      have hst2:msetX (clM (clL (C.take i))) [X.str (lowC' x).1] [.x (.str (lowC' x).1),.x (.sl (rows rStr (lowC' x).2.1)),.x (.sl (rows rStr (lowC' x).2.2.1))]=clM (clL (C.take (i+1))):=hst
      have hd47:decide (x.1.length≤140737488355328)=true:=ξt (by omega)
      have hd48:decide (x.2.1.length≤100000∧ ∀n∈x.2.1,n.length≤140737488355328)=true:=ξt ⟨by omega,hx2.2⟩
      have hd49:decide (x.2.2.1.length≤100000∧ ∀n∈x.2.2.1,n.length≤140737488355328)=true:=ξt ⟨by omega,hx3.2⟩
      have hl1:(x.2.1.map lowS).length≤50000:=by rw[List.length_map];exact hx2.1
      have hl2:(x.2.2.1.map lowS).length≤50000:=by rw[List.length_map];exact hx3.1
      have hct:clsT T x=(x.2.1.map lowS++x.2.2.1.map lowS).all fun n=>(mlook L (lowS n)).isSome:=by rw[←hL];rfl
      have hln: ∀n∈x.2.1.map lowS++x.2.2.1.map lowS,n.length≤140737488355328:=fun n hn=>by
       rcases List.mem_append.1 hn with h|h
       ·obtain⟨y,hy,rfl⟩:=List.mem_map.1 h;rw[lowS_len];exact hx2.2 y hy
       ·obtain⟨y,hy,rfl⟩:=List.mem_map.1 h;rw[lowS_len];exact hx3.2 y hy
      have hd50:decide ((x.2.1.map lowS).length≤100000∧(x.2.2.1.map lowS).length≤100000)=true:=ξt ⟨by omega,by omega⟩
      have uu:=ξn uu (ξn hrw (ξn hst2 (ξn hd47 (ξn hd48 (ξn hd49 hd50)))))
      refine WI.regB tabNew_ok [7,11,51,52,53] ?_
      iterate 4 refine oG ?_
      refine oN ?_
      refine thenQ_normal ?_
      refine WI.seq ?_
      refine WI.dregB tabNew_ok [7,12,51,52,53] ?_
      refine dFS ?_
      refine dQG ?_
      refine dQC ?_
      refine dFS ?_
      refine dQG ?_
      refine dQC ?_
      refine dFS ?_
      refine dQG ?_
      refine dQC ?_
      refine dFG ?_
      refine dKG ?_
      refine dAG ?_
      refine dN ?_
      refine thenQ_normal ?_
      refine WI.seq ?_
      refine WI.seq ?_
      refine WI.regB tabNew_ok [7,12,51,52,53,72,73,74] ?_
      refine oS ?_
      refine oG ?_
      refine oS ?_
      iterate 2 refine oG ?_
      refine oC ?_
      refine oG ?_
      refine oS ?_
      refine oN ?_
      refine thenQ_normal ?_
      refine WI.block ?_
      refine WI.orderA [7,12,51,52,53,72,73,74] ?_
      refine WI.dropT (scH L (clL (C.take i)) x (lowC' x)) _ rfl (by simp) (scH_inP _ _ _ _) (by simp[D.inP,inL]) ?_
      generalize hN:x.2.1.map lowS++x.2.2.1.map lowS=N at hct hln⊢
      have hNl:N.length≤100000:=by rw[←hN,ξA];omega
      refine WI.loop (fun φ os=> ∃(k:Nat),φ= [(7,.ptr 0 0),(12,.ptr 4 0),(51,.x (.sl (rows rCls C))),(52,.x (.int .i64 C.length)),(53,.x (.int .i64 i)),(72,.x (.sl (rows rStr N))),(73,.x (.int .i64 N.length)),(74,.x (.int .i64 k))]∧os=scH L (clL (C.take i)) x (lowC' x)∧k≤N.length∧(N.take k).all (fun n=>(mlook L (lowS n)).isSome)=true) (down N.length 74) ?_ (fun φ os hI=> ?_)
      ·exact⟨0,rfl,rfl,by omega,rfl⟩
      ·obtain⟨k,rfl,rfl,hk,hka⟩:=hI
       refine WI.seq ?_
       refine WI.regB tabNew_ok [7,12,51,52,53,72,73,74,75] ?_
       refine oG ?_
       refine oN ?_
       refine thenQ_normal ?_
       refine WI.seq ?_
       refine WI.cond (b:=_) rfl rfl (fun h3=> ?_) (fun h3=> ?_)
       ·try simp only[zB]at h3
        refine WI.skip ?_
        refine thenQ_normal ?_
        refine WI.seq ?_
        refine WI.block ?_
        refine WI.seq ?_
        have hk4:k<N.length:=by omega
        have hrk:=str_row N k hk4
        have hgk:N[k]=N.getD k []:=by simp[hk4]
        have hak:=all_snoc (fun n=>(mlook L (lowS n)).isSome) N k hk4
        have hnk:(mlook L (lowS (N.getD k []))).isSome=false→N.all (fun n=>(mlook L (lowS n)).isSome)=false:=fun h=>all_take_false (fun n=>(mlook L (lowS n)).isSome) N k hk4 (by rw[hgk];exact h)
        have hnl:=hln N[k] (List.getElem_mem hk4)
        rw[hgk]at hak hnl
        generalize N.getD k []=y at hrk hak hnk hnl
        have hdy:=ξt hnl
        have uu:=ξn uu (ξn hrk (ξn hdy (@tyD.eq_1)))
        refine WI.regB tabNew_ok [7,12,14,51,52,53,72,73,74] ?_
        iterate 2 refine oG ?_
        refine oS ?_
        refine oN ?_
        refine thenQ_normal ?_
        refine WI.seq ?_
        refine WI.regB tabNew_ok [7,12,16,51,52,53,72,73,74] ?_
        iterate 5 refine oS ?_
        refine oC ?_
        refine oS ?_
        iterate 4 refine oG ?_
        refine oS ?_
        refine oN ?_
        refine thenQ_normal ?_
        refine WI.seq ?_
        refine WI.regB tabNew_ok [7,12,51,52,53,72,73,74,88] ?_
        refine oS ?_
        refine oG ?_
        refine oN ?_
        refine thenQ_normal ?_
        refine WI.cond (b:=_) rfl rfl (fun h4=> ?_) (fun h4=> ?_)
        ·try simp only[zB]at h4
         have hys:(mlook L (lowS y)).isSome=false:=by clear uu;grind
         rw[hno (by rw[hct];exact hnk hys)]at hnz
         refine WI.seq ?_
         refine WI.regB tabNew_ok [4,5] ?_
         iterate 2 refine oS ?_
         refine oN ?_
         refine thenQ_normal ?_
         refine WI.ret ?_
         refine blockQ_ret ?_
         refine thenQ_ret ?_
         refine thenQ_ret ?_
         refine blockQ_ret ?_
         refine thenQ_ret ?_
         refine blockQ_ret ?_
         refine thenQ_ret ?_
         refine thenQ_ret ?_
         refine blockQ_ret ?_
         refine thenQ_ret ?_
         first|refine lfR ?_|refine lfR2 ?_|refine lfRX ?_
         obtain⟨rfl,rfl⟩:=hnz (by simp);exact⟨rfl,_,rfl⟩
        ·try simp only[zB]at h4
         have hys:(mlook L (lowS y)).isSome=true:=by clear uu;grind
         have hka2:(N.take (k+1)).all (fun n=>(mlook L (lowS n)).isSome)=true:=by rw[hak,hka,hys];rfl
         refine WI.skip ?_
         refine blockQ_normal ?_
         refine thenQ_normal ?_
         refine WI.orderA [7,12,51,52,53,72,73,74] ?_
         refine WI.dropT (scH L (clL (C.take i)) x (lowC' x)) _ rfl (by simp) (scH_inP _ _ _ _) (by simp[D.inP,inL]) ?_
         refine WI.regB tabNew_ok [7,12,51,52,53,72,73,74] ?_
         refine oG ?_
         refine oS ?_
         refine oN ?_
         refine thenQ_normal ?_
         exact⟨⟨k+1,rfl,rfl,by omega,hka2⟩,by simp[down,Ab.get,D.val,intOf?];omega⟩
       ·try simp only[zB]at h3
        refine WI.exit ?_
        refine thenQ_exit ?_
        refine thenQ_exit ?_
        refine blockQ_hit ?_
        refine thenQ_normal ?_
        obtain rfl:k=N.length:=by omega
        rw[List.take_length]at hka
        rw[hka]at hct
        have hall2:(C.take (i+1)).all (clsT T)=true:=by rw[hal,hall,hct];rfl
        refine WI.dregB tabNew_ok [7,51,52,53] ?_
        iterate 4 refine dFS ?_
        refine dQG ?_
        refine dFS ?_
        iterate 2 refine dQG ?_
        refine dAG ?_
        refine dN ?_
        refine blockQ_normal ?_
        refine thenQ_normal ?_
        refine WI.orderA [7,51,52,53] ?_
        refine WI.dropT (scO L (clL (C.take (i+1)))) _ rfl (by simp) (scO_inP _ _) (by simp[D.inP,inL]) ?_
        refine WI.regB tabNew_ok [7,51,52,53] ?_
        refine oG ?_
        refine oS ?_
        refine oN ?_
        refine thenQ_normal ?_
        exact⟨⟨i+1,rfl,rfl,by omega,hall2⟩,by simp[down,Ab.get,D.val,intOf?];omega⟩
     ·try simp only[zB]at h2
      refine WI.exit ?_
      refine thenQ_exit ?_
      refine thenQ_exit ?_
      refine blockQ_hit ?_
      refine thenQ_normal ?_
      refine WI.seq ?_
      refine WI.seq ?_
      obtain rfl:i=C.length:=by omega
      rw[List.take_length]at hall⊢
      rw[hall,if_pos rfl,hoc]at hz hnz
      refine WI.orderA [7] ?_
      have uu:=ξn uu (@tyD.eq_1)
      refine WI.regB tabNew_ok [7,18] ?_
      iterate 4 refine oS ?_
      refine oC ?_
      refine oS ?_
      iterate 4 refine oG ?_
      refine oS ?_
      refine oN ?_
      refine thenQ_normal ?_
      refine WI.seq ?_
      refine WI.regB tabNew_ok [7,108] ?_
      refine oS ?_
      refine oG ?_
      refine oN ?_
      refine thenQ_normal ?_
      refine WI.cond (b:=_) rfl rfl (fun h5=> ?_) (fun h5=> ?_)
      ·try simp only[zB]at h5
       have hys: ¬(mlook L (lowS [111,98,106,101,99,116,99,108,97,115,115])).isSome=true:=by clear uu;grind
       rw[if_neg hys]at hnz
       refine WI.seq ?_
       refine WI.regB tabNew_ok [4,5] ?_
       iterate 2 refine oS ?_
       refine oN ?_
       refine thenQ_normal ?_
       refine WI.ret ?_
       refine thenQ_ret ?_
       first|refine lfR ?_|refine lfR2 ?_|refine lfRX ?_
       obtain⟨rfl,rfl⟩:=hnz (by simp);exact⟨rfl,_,rfl⟩
      ·try simp only[zB]at h5
       have hys:(mlook L (lowS [111,98,106,101,99,116,99,108,97,115,115])).isSome=true:=by clear uu;grind
       rw[if_pos hys]at hz
       refine WI.skip ?_
       refine thenQ_normal ?_
       refine WI.seq ?_
       refine WI.regB tabNew_ok [4,5] ?_
       iterate 3 refine oS ?_
       refine oN ?_
       refine thenQ_normal ?_
       refine WI.ret ?_
       first|refine lfR ?_|refine lfR2 ?_|refine lfRX ?_
       obtain⟨rfl,rfl⟩:=hz rfl;exact⟨rfl,_,rfl⟩
def igT (n:Tx):TTyp:=(n,1,false,())
theorem rowsT_app (a b:List TTyp):rows rTyp (a++b)=rows rTyp a++rows rTyp b:=List.map_append
theorem ign_c (l:List Tx) (hl:l.length≤1000):MCalls Tryz.prog 34 [.ref 0 l.length 0 l.length] [.rows false 9 1 (rows rStr l)] (.ref 1 l.length 0 l.length) [.rows false 9 1 (rows rStr l),.rows false 35 3 (rows rTyp (l.map igT))]:=by
 have hO: [Ob.rows false 9 1 (rows rStr l),.rows false 35 3 (rows rTyp (l.map igT))].all (Ob.inP (fun i=>decide (i< [Ob.rows false 9 1 (rows rStr l),.rows false 35 3 (rows rTyp (l.map igT))].length)))=true:=rfl
 refine FCalls.mcalls (fcallsG (fz:=false) G_ok (p:=i34) rfl _ (ξ rfl) _ (fun C0 E0=> ?_))
 dsimp only[i34,qt,qi,qs,qb,qm,qa,qh,qj,qT,qF,qe,ql,qL,qf,q2,q3,q8,qz,qp,qP,qc,qk,qx,qy,qo,qr,qC,argsφ]
 have uu:=trivial
 have tT:=(noTabs_ok:SsOk Tryz.prog noTabs)
 refine nz ?_
 refine rg tT [0] ?_
 refine rg tT [0,3] ?_
 refine rg tT [3,6,7,8] ?_
 refine WI.ownA 3 35 3 ?_
 refine WI.orderA [3,6,7,8] ?_
 refine WI.loop (fun φ os=> ∃(j:Nat),φ= [(3,.ref 1 ((l.take j).map igT).length 0 ((l.take j).map igT).length),(6,.ref 0 l.length 0 l.length),(7,.x (.int .i64 l.length)),(8,.x (.int .i64 j))]∧os= [.rows false 9 1 (rows rStr l),.rows false 35 3 (rows rTyp ((l.take j).map igT))]∧j≤l.length) (down l.length 8) ?_ (fun φ os hI=> ?_)
 ·exact⟨0,rfl,rfl,by omega⟩
 ·obtain⟨j,rfl,rfl,hj⟩:=hI
  refine nz ?_
  refine rg tT [3,6,7,8,9] ?_
  refine cd (fun h0=> ?_) (fun h0=> ?_)
  ·have hj4:j<l.length:=by omega
   have hrw:=str_row l j hj4
   have htk:(l.take (j+1)).map igT=(l.take j).map igT++ [igT (l.getD j [])]:=by rw[List.take_succ_eq_append_getElem hj4,List.map_append];simp[hj4]
   have hlen:((l.take j).map igT).length≤1000:=by rw[List.length_map,List.length_take];omega
   generalize l.getD j []=x at hrw htk
   have uu:=ξn uu hrw
   refine rg tT [3,5,6,7,8] ?_
   refine rg tT [3,6,7,8] ?_
   refine WI.pickA [0,1] ?_
   refine rg tT [3,6,7,8] ?_
   exact⟨⟨j+1,by rw[htk,ξA];rfl,by rw[htk,rowsT_app];rfl,by omega⟩,by simp[down,Ab.get,D.val,intOf?];omega⟩
  ·obtain rfl:j=l.length:=by omega
   rw[List.take_length]
   refine rg tT [2] ?_
   refine lf ?_
   exact⟨by rw[List.length_map],rfl⟩
end Go.Proofs.YtpjfdjcejamebaaGreatDoor
end
