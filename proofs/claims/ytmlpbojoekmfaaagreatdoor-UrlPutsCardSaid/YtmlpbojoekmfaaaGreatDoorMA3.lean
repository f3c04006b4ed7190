import Derived.Test.YtmlpbojoekmfaaaGreatDoorMA2
import Derived.Test.YtmlpbojoekmfaaaGreatDoorLA5
import Derived.Test.YtmlpbojoekmfaaaGreatDoorSh
import Derived.Test.YtmlpbojoekmfaaaGreatDoorIc
import Derived.Test.YtmlpbojoekmfaaaGreatDoorMA1
import Derived.Lib.Join
set_option linter.unusedSimpArgs false
set_option linter.unusedVariables false
section
namespace Go.Proofs.YtmlpbojoekmfaaaGreatDoor
open Go.RowKit Go.Bo Go.Ab
theorem neC {c:UInt8} {k:Nat} (hk:k<256) (h:(c.toNat:Int)≠k):c≠UInt8.ofNat k:=fun e=>h (by rw[e];simp;omega)
def brAt:Txt→Nat
 | []=>0
 |c::s=>if c=41∨c=40 then 0 else brAt s+1
theorem brAt_le: ∀s,brAt s≤s.length
 | []=>by simp[brAt]
 |c::s=>by have:=brAt_le s;unfold brAt;split<;>simp;omega
theorem brAt_step (s:Txt) (j:Nat) (h:j<s.length) (hc: ¬(s.getD j 0=41∨s.getD j 0=40)):j+brAt (s.drop j)=j+1+brAt (s.drop (j+1)):=by
 have e:s.getD j 0=s[j]:=by simp[h]
 rw[List.drop_eq_getElem_cons h,←e]
 conv=>lhs;unfold brAt
 rw[if_neg hc];omega
theorem brAt_stop (s:Txt) (j:Nat) (h:j<s.length) (hc:s.getD j 0=41∨s.getD j 0=40):brAt (s.drop j)=0:=by
 have e:s.getD j 0=s[j]:=by simp[h]
 rw[List.drop_eq_getElem_cons h,←e]
 unfold brAt
 rw[if_pos hc]
def kindR (c:UInt8):Int:=if c=38 then 0 else if c=124 then 1 else if c=33 then 2 else-1
def readR:Nat→Txt→Flt×Txt×Bool
 |0,s=>(zF,s,false)
 |d+1,s=>if s.length<2∨s.getD 0 0≠40 then(zF,s,false)else
   if kindR (s.getD 1 0)<0 then
    if 1+brAt (s.drop 1)=s.length∨s.getD (1+brAt (s.drop 1)) 0=40 then(zF,s,false)else(leafR ((s.take (1+brAt (s.drop 1))).drop 1),s.drop (1+brAt (s.drop 1)+1),true)
   else if(loopF (readR d) ((s.drop 2).length+1) [] (s.drop 2)).2.2=true then(.mk (kindR (s.getD 1 0)) [] [] [] [] [] (loopF (readR d) ((s.drop 2).length+1) [] (s.drop 2)).1,(loopF (readR d) ((s.drop 2).length+1) [] (s.drop 2)).2.1,true)else(zF,(loopF (readR d) ((s.drop 2).length+1) [] (s.drop 2)).2.1,false)
theorem readR_len: ∀(d:Nat) (s:Txt),(readR d s).2.2=true→(readR d s).2.1.length<s.length
 |0,s,h=>by simp[readR]at h
 |d+1,s,h=>by
  have ih:=loopF_len (readR d) (readR_len d) ((s.drop 2).length+1) [] (s.drop 2)
  unfold readR at h⊢
  split at h
  ·cases h
  ·rename_i h2
   rw[if_neg h2]
   have hd:(s.drop 2).length+2=s.length:=by simp;omega
   split at h
   ·rename_i h3;rw[if_pos h3]
    split at h
    ·cases h
    ·rename_i h4;rw[if_neg h4]
     show(s.drop _).length<s.length
     rw[List.length_drop];omega
   ·rename_i h3;rw[if_neg h3]
    split at h
    ·rename_i h4;rw[if_pos h4]
     have:=ih h4
     show(loopF _ _ _ _).2.1.length<s.length
     omega
    ·cases h
def readRmG (N:Nat) (rd:Txt→Flt×Txt×Bool):List D→Option (Bool×D)
 | [.x (.str s),.x (.int .i64 m)]=>some (decide (s.length≤900000∧m=N),.tup [fltD (rd s).1,.x (.str (rd s).2.1),.x (.bool (rd s).2.2)])
 |_=>none
theorem readRmG_ok (N:Nat) (rd:Txt→Flt×Txt×Bool) (ih: ∀s:Txt,s.length≤900000→PCalls Tryz.prog 38 [.x (.str s),.x (.int .i64 N)] (.tup [fltD (rd s).1,.x (.str (rd s).2.1),.x (.bool (rd s).2.2)])): ∀args r,readRmG N rd args=some (true,r)→PCalls Tryz.prog 38 args r:=by
 intro args r h
 unfold readRmG at h
 split at h
 ·rename_i s m
  simp only[ξI,ξP,ξa,ξe,true_and]at h
  obtain⟨h1,rfl⟩:=h
  exact(by obtain⟨h1,rfl⟩:=h1;exact ih s h1)
 ·cases h
def tabFx11 (g:List D→Option (Bool×D)):Tabs:=addQ (addQ (noTabs) 38 g) 53 leafRG
theorem tabFx11_ok (g:List D→Option (Bool×D)) (hg: ∀args r,g args=some (true,r)→PCalls Tryz.prog 38 args r):SsOk Tryz.prog (tabFx11 g):=addQ_ok (addQ_ok (noTabs_ok) (G_enters G_ok (p:=i38) rfl) hg) (G_enters G_ok (p:=i53) rfl) leafRG_ok
theorem tabFx11_q38 (g:List D→Option (Bool×D)) (a:List D):(tabFx11 g).q 38 a=g a:=rfl
theorem tabFx11_q53 (g:List D→Option (Bool×D)) (a:List D):(tabFx11 g).q 53 a=leafRG a:=rfl
theorem tabFx11_r (g:List D→Option (Bool×D)) (f:FuncId) (a:List D) (o:List Ob):(tabFx11 g).r f a o=none:=rfl
theorem tabFx11_k (g:List D→Option (Bool×D)) (f:FuncId) (a:List D) (o:List Ob):(tabFx11 g).k f a o=none:=rfl
set_option maxHeartbeats 4000000 in
theorem readR_c: ∀(d:Nat),d≤1000→ ∀(s:Txt),s.length≤900000→PCalls Tryz.prog 38 [.x (.str s),.x (.int .i64 d)] (.tup [fltD (readR d s).1,.x (.str (readR d s).2.1),.x (.bool (readR d s).2.2)])
 |0,_,s,hs=>by
  show PCalls Tryz.prog 38 [.x (.str s),.x (.int .i64 (0:Nat))] (.tup [.agg [.x (.int .i64 0),.x (.str []),.x (.str []),.x (.str []),.x (.sl []),.x (.str []),.x (.sl [])],.x (.str s),.x (.bool false)])
  refine FCalls.pure (fcallsG (fz:=true) G_ok (p:=i38) rfl _ (ξ rfl) _ (fun C0 E0=> ?_)) rfl
  dsimp only[i38,qt,qi,qs,qb,qm,qa,qh,qj,qT,qF,qe,ql,qL,qf,q2,q3,q8,qz,qp,qP,qc,qk,qx,qy,qo,qr,qC,argsφ]
  have uu:=trivial
  have tT:=(noTabs_ok:SsOk Tryz.prog noTabs)
  refine nz ?_
  refine rg tT [0,1,4] ?_
  refine rg tT [0,1,4,24] ?_
  refine ct (fun h0=> ?_) (fun h0=> ?_)
  ·refine rg tT [4,5,6] ?_
   refine WI.nnA ?_
   refine lf ?_
   first|rfl|exact⟨rfl,rfl⟩|trivial
  ·simp at h0
 |N+1,hN,S,hs=>by
  have ih:=fun s hs=>readR_c N (by omega) s hs
  have hr:=readR_len N
  rcases hq:readR (N+1) S with⟨⟨k,a,v,h,mm,t,l⟩,rest,b⟩
  simp only[fltD]
  unfold readR at hq
  generalize readR N=r at ih hr hq
  have e1:((N+1:Nat):Int)-1=(N:Int):=by omega
  have eN:decide (((N+1:Nat):Int)<1)=false:=decide_eq_false (by omega)
  refine FCalls.pure (fcallsG (fz:=true) G_ok (p:=i38) rfl _ (ξ rfl) _ (fun C0 E0=> ?_)) rfl
  dsimp only[i38,qt,qi,qs,qb,qm,qa,qh,qj,qT,qF,qe,ql,qL,qf,q2,q3,q8,qz,qp,qP,qc,qk,qx,qy,qo,qr,qC,argsφ]
  have uu:=ξn @readRmG.eq_1 (ξn @readRmG.eq_2 (ξn @leafRG.eq_1 (ξn @leafRG.eq_2 (ξn @eN (ξn @e1 (ξn @List.getD_cons_zero.{0} (ξn @tabFx11_r (ξn @tabFx11_k (ξn @tabFx11_q38 (@tabFx11_q53))))))))))
  have tT:=(tabFx11_ok (readRmG N r) (readRmG_ok N r ih))
  refine nz ?_
  refine rg tT [0,1,4] ?_
  refine rg tT [0,1,4,24] ?_
  refine cd (fun h0=> ?_) (fun h0=> ?_)
  ·refine rg tT [4,5,6] ?_
   refine WI.nnA ?_
   refine lf ?_
   by_cases hq0:S.length<2∨S.getD 0 0≠40
   ·rw[if_pos hq0]at hq;cases hq;rfl
   ·exfalso
    have hq1: ¬S.length<2:=fun h=>hq0 (.inl h)
    have hq2:S.getD 0 0=40:=Decidable.not_not.1 fun h=>hq0 (.inr h)
    have hq3:((S.getD 0 0).toNat:Int)=40:=by rw[hq2];rfl
    omega
  ·have hq0: ¬(S.length<2∨S.getD 0 0≠40):=by
    rintro(h|h)
    ·omega
    ·exact h (cN (k:=40) (by decide) (by omega))
   rw[if_neg hq0]at hq
   have hS2:2≤S.length:=by omega
   refine rg tT [0,1,4,7] ?_
   refine rg tT [0,1,4,7,28] ?_
   refine rg tT [0,1,4,7,28,29] ?_
   refine cd (fun h1=> ?_) (fun h1=> ?_)
   ·have hk:kindR (S.getD 1 0)=0:=by rw[show S.getD 1 0=38 from cN (k:=38) (by decide) (by simpa using h1)];rfl
    refine rg tT [0,1,4,7] ?_
    refine rg tT [0,1,4,7,36] ?_
    refine cd (fun h4=> ?_) (fun h4=> ?_)
    ·rw[if_pos (show kindR (S.getD 1 0)<0 by rw[hk];first|decide|omega|(simp at h4))]at hq
     refine rg tT [0,4,8] ?_
     refine WI.loop (fun φ os=> ∃(j:Nat),φ= [(0,.x (.str S)),(4,.ptr 0 0),(8,.x (.int .i64 j))]∧os= [.box [.x (.int .i64 0),.x (.str []),.x (.str []),.x (.str []),.x .nils,.x (.str []),.x .nils]]∧1≤j∧j≤S.length∧1+brAt (S.drop 1)=j+brAt (S.drop j)) (down S.length 8) ?_ (fun φ os hI=> ?_)
     ·exact⟨1,rfl,rfl,by omega,by omega,rfl⟩
     ·obtain⟨j,rfl,rfl,hj1,hj,hat⟩:=hI
      refine nz ?_
      refine rg tT [0,4,8,52] ?_
      refine cd (fun h5=> ?_) (fun h5=> ?_)
      ·have hj4:j<S.length:=by omega
       have hst:=brAt_step S j hj4 (fun e=>e.elim (fun e=>neC (k:=41) (by decide) (by omega) e) (fun e=>neC (k:=40) (by decide) (by omega) e))
       refine rg tT [0,4,8] ?_
       exact⟨⟨j+1,rfl,rfl,by omega,by omega,by rw[hat,hst]⟩,by simp[down,Ab.get,D.val,intOf?];omega⟩
      ·have hej:1+brAt (S.drop 1)=j:=by
        by_cases hj4:j<S.length
        ·rw[hat,brAt_stop S j hj4 (if e:((S.getD j 0).toNat:Int)=41 then .inl (cN (k:=41) (by decide) e)else .inr (cN (k:=40) (by decide) (by omega)))];rfl
        ·rw[hat,List.drop_of_length_le (by omega)];rfl
       rw[hej]at hq
       refine rg tT [0,4,8,64] ?_
       refine cd (fun h6=> ?_) (fun h6=> ?_)
       ·rw[if_pos (if e:j=S.length then .inl e else .inr (cN (k:=40) (by decide) (by omega)))]at hq
        refine rg tT [4,5,6] ?_
        refine WI.nnA ?_
        refine lf ?_
        try rw[List.take_length]
        first|(cases hq;rfl)|(rw[hlp,loop_nil]at hq;cases hq;rfl)|(rw[hlp,loop_fail r n _ c s hc40 (by rw[hx])]at hq;cases hq;rfl)|(rw[hlp,loop_end r n _ s c (cN (k:=41) (by decide) (by simpa using h9))]at hq;cases hq;rfl)|(rw[hlp,loop_no r n _ c s (by rintro rfl;simp at h7) (by rintro rfl;simp at h9)]at hq;cases hq;rfl)
       ·rw[if_neg (fun e=>e.elim (fun e=>by omega) (fun e=>neC (k:=40) (by decide) (by omega) e))]at hq
        have e2:((j:Int)+1).toNat=j+1:=by omega
        have hv1:decide (((S.take j).drop 1).length≤900000)=true:=ξt (by rw[List.length_drop,List.length_take];omega)
        rcases hx:leafR ((S.take j).drop 1)with⟨k1,a1,v1,h1',m1,t1,l1⟩
        rw[hx]at hq
        have uu:=ξn uu (ξn e2 (ξn hv1 hx))
        refine WI.dregB tT [4,5,6] ?_
        iterate 2 refine dFS ?_
        refine dFG ?_
        refine dAC ?_
        iterate 2 refine dFS ?_
        iterate 2 refine dFG ?_
        refine dAG ?_
        iterate 2 refine dFS ?_
        refine dN ?_
        refine nz ?_
        refine WI.nnA ?_
        refine lf ?_
        try rw[List.take_length]
        first|(cases hq;rfl)|(rw[hlp,loop_nil]at hq;cases hq;rfl)|(rw[hlp,loop_fail r n _ c s hc40 (by rw[hx])]at hq;cases hq;rfl)|(rw[hlp,loop_end r n _ s c (cN (k:=41) (by decide) (by simpa using h9))]at hq;cases hq;rfl)|(rw[hlp,loop_no r n _ c s (by rintro rfl;simp at h7) (by rintro rfl;simp at h9)]at hq;cases hq;rfl)
    ·rw[if_neg (show ¬kindR (S.getD 1 0)<0 by rw[hk];first|decide|omega|(simp at h4))]at hq
     refine rg tT [0,1,4,9] ?_
     refine rg tT [0,1,4,9] ?_
     refine WI.orderA [1,4,9,0] ?_
     have hd2:(S.drop 2).length≤900000:=by rw[List.length_drop];omega
     generalize S.drop 2=T at hq hd2⊢
     refine WI.loop (fun φ os=> ∃(s:Txt) (l:List Flt) (n:Nat),s.length<n∧l.length+s.length≤T.length∧loopF r (T.length+1) [] T=loopF r n l s∧((l= []∧φ= [(1,.x (.int .i64 (N+1:Nat))),(4,.ptr 0 0),(9,.ptr 1 0),(0,.x (.str s))]∧os= [.box [.x (.int .i64 0),.x (.str []),.x (.str []),.x (.str []),.x .nils,.x (.str []),.x .nils],.box [.x (.int .i64 (kindR (S.getD 1 0))),.x (.str []),.x (.str []),.x (.str []),.x .nils,.x (.str []),.x .nils]])∨(φ= [(1,.x (.int .i64 (N+1:Nat))),(4,.ptr 0 0),(9,.ptr 1 0),(0,.x (.str s))]∧os= [.box [.x (.int .i64 0),.x (.str []),.x (.str []),.x (.str []),.x .nils,.x (.str []),.x .nils],.box [.x (.int .i64 (kindR (S.getD 1 0))),.x (.str []),.x (.str []),.x (.str []),.x .nils,.x (.str []),.ref 2 l.length 0 l.length],.rows false 49 7 (rows rFlt l)]))) (fun φ _=>(match get φ 0 with| .x (.str s)=>s.length|_=>0)) ?_ (fun φ os hI=> ?_)
     ·exact⟨T,[],T.length+1,by omega,by simp,rfl,.inl ⟨rfl,rfl,by rw[hk]⟩⟩
     ·obtain⟨s,l',n,hsn,hls,hlp,hcase⟩:=hI
      refine nz ?_
      obtain⟨n,rfl⟩: ∃n',n=n'+1:=⟨n-1,by omega⟩
      rcases hcase with⟨rfl,rfl,rfl⟩|⟨rfl,rfl⟩<;>rcases s with _|⟨c,s⟩
      ·refine rg tT [0,1,4,9,85] ?_
       refine ce (fun h7=> ?_) (fun h7=> ?_)
       ·simp at h7
       ·refine rg tT [0,4,9,111] ?_
        refine ct (fun h9=> ?_) (fun h9=> ?_)
        ·refine rg tT [4,5,6] ?_
         refine WI.nnA ?_
         refine lf ?_
         try rw[List.take_length]
         first|(cases hq;rfl)|(rw[hlp,loop_nil]at hq;cases hq;rfl)|(rw[hlp,loop_fail r n _ c s hc40 (by rw[hx])]at hq;cases hq;rfl)|(rw[hlp,loop_end r n _ s c (cN (k:=41) (by decide) (by simpa using h9))]at hq;cases hq;rfl)|(rw[hlp,loop_no r n _ c s (by rintro rfl;simp at h7) (by rintro rfl;simp at h9)]at hq;cases hq;rfl)
        ·simp at h9
      ·have hb8:c.toNat<256:=UInt8.toNat_lt _
       have hsl:s.length≤899999:=by simp at hls;omega
       refine rg tT [0,1,4,9,85] ?_
       refine cd (fun h7=> ?_) (fun h7=> ?_)
       ·have hc40:c=40:=cN (k:=40) (by decide) (by simpa using h7)
        rcases hx:r (c::s)with⟨⟨k1,a1,v1,h1',m1,t1,l1⟩,rest',ok⟩
        have hr1:=hr (c::s)
        rw[hx]at hr1
        have uu:=ξn uu hx
        refine rg tT [0,1,4,9,10,11,12] ?_
        refine rg tT [0,1,4,9,10,11,95] ?_
        refine cd (fun h8=> ?_) (fun h8=> ?_)
        ·obtain rfl:ok=false:=by simpa using h8
         refine rg tT [4,5,6] ?_
         refine WI.nnA ?_
         refine lf ?_
         try rw[List.take_length]
         first|(cases hq;rfl)|(rw[hlp,loop_nil]at hq;cases hq;rfl)|(rw[hlp,loop_fail r n _ c s hc40 (by rw[hx])]at hq;cases hq;rfl)|(rw[hlp,loop_end r n _ s c (cN (k:=41) (by decide) (by simpa using h9))]at hq;cases hq;rfl)|(rw[hlp,loop_no r n _ c s (by rintro rfl;simp at h7) (by rintro rfl;simp at h9)]at hq;cases hq;rfl)
        ·obtain rfl:ok=true:=by simpa using h8
         have hr2:rest'.length<s.length+1:=hr1 rfl
         have hsn':s.length+1<n+1:=hsn
         refine rgp tT [1,4,9,11] ?_
         refine pPick [0,1,4] ?_
         refine pEnd ?_
         refine nz ?_
         refine rg tT [0,1,4,9] ?_
         exact⟨by first|exact⟨rest',[.mk k1 a1 v1 h1' m1 t1 l1],n,by omega,by simp at hls⊢;omega,by rw[hlp,loop_go _ _ _ _ _ hc40 (by rw[hx]),hx,List.nil_append],.inr ⟨rfl,by rw[rows_oneF];first|done|rfl⟩⟩|exact⟨rest',l'++ [.mk k1 a1 v1 h1' m1 t1 l1],n,by omega,by simp at hls⊢;omega,by rw[hlp,loop_go _ _ _ _ _ hc40 (by rw[hx]),hx],.inr ⟨by first|rfl|simp,by rw[←rows_snocF];first|rfl|simp⟩⟩,by show rest'.length<s.length+1;omega⟩
       ·refine rg tT [0,4,9,111] ?_
        refine cd (fun h9=> ?_) (fun h9=> ?_)
        ·refine rg tT [4,5,6] ?_
         refine WI.nnA ?_
         refine lf ?_
         try rw[List.take_length]
         first|(cases hq;rfl)|(rw[hlp,loop_nil]at hq;cases hq;rfl)|(rw[hlp,loop_fail r n _ c s hc40 (by rw[hx])]at hq;cases hq;rfl)|(rw[hlp,loop_end r n _ s c (cN (k:=41) (by decide) (by simpa using h9))]at hq;cases hq;rfl)|(rw[hlp,loop_no r n _ c s (by rintro rfl;simp at h7) (by rintro rfl;simp at h9)]at hq;cases hq;rfl)
        ·refine WI.dregB tT [4,5,6] ?_
         refine dAG ?_
         refine dFS ?_
         refine dFG ?_
         refine dAG ?_
         iterate 2 refine dFS ?_
         refine dN ?_
         refine nz ?_
         refine WI.nnA ?_
         refine lf ?_
         try rw[List.take_length]
         first|(cases hq;rfl)|(rw[hlp,loop_nil]at hq;cases hq;rfl)|(rw[hlp,loop_fail r n _ c s hc40 (by rw[hx])]at hq;cases hq;rfl)|(rw[hlp,loop_end r n _ s c (cN (k:=41) (by decide) (by simpa using h9))]at hq;cases hq;rfl)|(rw[hlp,loop_no r n _ c s (by rintro rfl;simp at h7) (by rintro rfl;simp at h9)]at hq;cases hq;rfl)
      ·refine rg tT [0,1,4,9,85] ?_
       refine ce (fun h7=> ?_) (fun h7=> ?_)
       ·simp at h7
       ·refine rg tT [0,4,9,111] ?_
        refine ct (fun h9=> ?_) (fun h9=> ?_)
        ·refine rg tT [4,5,6] ?_
         refine WI.nnA ?_
         refine WI.freezeA [2] ?_
         refine WI.pickA [0] ?_
         refine lf ?_
         try rw[List.take_length]
         first|(cases hq;rfl)|(rw[hlp,loop_nil]at hq;cases hq;rfl)|(rw[hlp,loop_fail r n _ c s hc40 (by rw[hx])]at hq;cases hq;rfl)|(rw[hlp,loop_end r n _ s c (cN (k:=41) (by decide) (by simpa using h9))]at hq;cases hq;rfl)|(rw[hlp,loop_no r n _ c s (by rintro rfl;simp at h7) (by rintro rfl;simp at h9)]at hq;cases hq;rfl)
        ·simp at h9
      ·have hb8:c.toNat<256:=UInt8.toNat_lt _
       have hsl:s.length≤899999:=by simp at hls;omega
       refine rg tT [0,1,4,9,85] ?_
       refine cd (fun h7=> ?_) (fun h7=> ?_)
       ·have hc40:c=40:=cN (k:=40) (by decide) (by simpa using h7)
        rcases hx:r (c::s)with⟨⟨k1,a1,v1,h1',m1,t1,l1⟩,rest',ok⟩
        have hr1:=hr (c::s)
        rw[hx]at hr1
        have uu:=ξn uu hx
        refine rg tT [0,1,4,9,10,11,12] ?_
        refine rg tT [0,1,4,9,10,11,95] ?_
        refine cd (fun h8=> ?_) (fun h8=> ?_)
        ·obtain rfl:ok=false:=by simpa using h8
         refine rg tT [4,5,6] ?_
         refine WI.nnA ?_
         refine WI.freezeA [2] ?_
         refine WI.pickA [0] ?_
         refine lf ?_
         try rw[List.take_length]
         first|(cases hq;rfl)|(rw[hlp,loop_nil]at hq;cases hq;rfl)|(rw[hlp,loop_fail r n _ c s hc40 (by rw[hx])]at hq;cases hq;rfl)|(rw[hlp,loop_end r n _ s c (cN (k:=41) (by decide) (by simpa using h9))]at hq;cases hq;rfl)|(rw[hlp,loop_no r n _ c s (by rintro rfl;simp at h7) (by rintro rfl;simp at h9)]at hq;cases hq;rfl)
        ·obtain rfl:ok=true:=by simpa using h8
         have hr2:rest'.length<s.length+1:=hr1 rfl
         have hsn':s.length+1<n+1:=hsn
         refine rgp tT [1,4,9,11] ?_
         refine pPick [0,1,2] ?_
         refine pEnd ?_
         refine nz ?_
         refine rg tT [0,1,4,9] ?_
         exact⟨by first|exact⟨rest',[.mk k1 a1 v1 h1' m1 t1 l1],n,by omega,by simp at hls⊢;omega,by rw[hlp,loop_go _ _ _ _ _ hc40 (by rw[hx]),hx,List.nil_append],.inr ⟨rfl,by rw[rows_oneF];first|done|rfl⟩⟩|exact⟨rest',l'++ [.mk k1 a1 v1 h1' m1 t1 l1],n,by omega,by simp at hls⊢;omega,by rw[hlp,loop_go _ _ _ _ _ hc40 (by rw[hx]),hx],.inr ⟨by first|rfl|simp,by rw[←rows_snocF];first|rfl|simp⟩⟩,by show rest'.length<s.length+1;omega⟩
       ·refine rg tT [0,4,9,111] ?_
        refine cd (fun h9=> ?_) (fun h9=> ?_)
        ·refine rg tT [4,5,6] ?_
         refine WI.nnA ?_
         refine WI.freezeA [2] ?_
         refine WI.pickA [0] ?_
         refine lf ?_
         try rw[List.take_length]
         first|(cases hq;rfl)|(rw[hlp,loop_nil]at hq;cases hq;rfl)|(rw[hlp,loop_fail r n _ c s hc40 (by rw[hx])]at hq;cases hq;rfl)|(rw[hlp,loop_end r n _ s c (cN (k:=41) (by decide) (by simpa using h9))]at hq;cases hq;rfl)|(rw[hlp,loop_no r n _ c s (by rintro rfl;simp at h7) (by rintro rfl;simp at h9)]at hq;cases hq;rfl)
        ·refine WI.dregB tT [4,5,6] ?_
         refine dAG ?_
         refine dFS ?_
         refine dFG ?_
         refine dAG ?_
         iterate 2 refine dFS ?_
         refine dN ?_
         refine nz ?_
         refine WI.nnA ?_
         refine WI.freezeA [2] ?_
         refine WI.pickA [0] ?_
         refine lf ?_
         try rw[List.take_length]
         first|(cases hq;rfl)|(rw[hlp,loop_nil]at hq;cases hq;rfl)|(rw[hlp,loop_fail r n _ c s hc40 (by rw[hx])]at hq;cases hq;rfl)|(rw[hlp,loop_end r n _ s c (cN (k:=41) (by decide) (by simpa using h9))]at hq;cases hq;rfl)|(rw[hlp,loop_no r n _ c s (by rintro rfl;simp at h7) (by rintro rfl;simp at h9)]at hq;cases hq;rfl)
   ·have n38:S.getD 1 0≠38:=fun e=>by rw[e]at h1;exact absurd h1 (by decide)
    refine rg tT [0,1,4,7,28,31] ?_
    refine cd (fun h2=> ?_) (fun h2=> ?_)
    ·have hk:kindR (S.getD 1 0)=1:=by rw[show S.getD 1 0=124 from cN (k:=124) (by decide) (by simpa using h2)];rfl
     refine rg tT [0,1,4,7] ?_
     refine rg tT [0,1,4,7,36] ?_
     refine cd (fun h4=> ?_) (fun h4=> ?_)
     ·rw[if_pos (show kindR (S.getD 1 0)<0 by rw[hk];first|decide|omega|(simp at h4))]at hq
      refine rg tT [0,4,8] ?_
      refine WI.loop (fun φ os=> ∃(j:Nat),φ= [(0,.x (.str S)),(4,.ptr 0 0),(8,.x (.int .i64 j))]∧os= [.box [.x (.int .i64 0),.x (.str []),.x (.str []),.x (.str []),.x .nils,.x (.str []),.x .nils]]∧1≤j∧j≤S.length∧1+brAt (S.drop 1)=j+brAt (S.drop j)) (down S.length 8) ?_ (fun φ os hI=> ?_)
      ·exact⟨1,rfl,rfl,by omega,by omega,rfl⟩
      ·obtain⟨j,rfl,rfl,hj1,hj,hat⟩:=hI
       refine nz ?_
       refine rg tT [0,4,8,52] ?_
       refine cd (fun h5=> ?_) (fun h5=> ?_)
       ·have hj4:j<S.length:=by omega
        have hst:=brAt_step S j hj4 (fun e=>e.elim (fun e=>neC (k:=41) (by decide) (by omega) e) (fun e=>neC (k:=40) (by decide) (by omega) e))
        refine rg tT [0,4,8] ?_
        exact⟨⟨j+1,rfl,rfl,by omega,by omega,by rw[hat,hst]⟩,by simp[down,Ab.get,D.val,intOf?];omega⟩
       ·have hej:1+brAt (S.drop 1)=j:=by
         by_cases hj4:j<S.length
         ·rw[hat,brAt_stop S j hj4 (if e:((S.getD j 0).toNat:Int)=41 then .inl (cN (k:=41) (by decide) e)else .inr (cN (k:=40) (by decide) (by omega)))];rfl
         ·rw[hat,List.drop_of_length_le (by omega)];rfl
        rw[hej]at hq
        refine rg tT [0,4,8,64] ?_
        refine cd (fun h6=> ?_) (fun h6=> ?_)
        ·rw[if_pos (if e:j=S.length then .inl e else .inr (cN (k:=40) (by decide) (by omega)))]at hq
         refine rg tT [4,5,6] ?_
         refine WI.nnA ?_
         refine lf ?_
         try rw[List.take_length]
         first|(cases hq;rfl)|(rw[hlp,loop_nil]at hq;cases hq;rfl)|(rw[hlp,loop_fail r n _ c s hc40 (by rw[hx])]at hq;cases hq;rfl)|(rw[hlp,loop_end r n _ s c (cN (k:=41) (by decide) (by simpa using h9))]at hq;cases hq;rfl)|(rw[hlp,loop_no r n _ c s (by rintro rfl;simp at h7) (by rintro rfl;simp at h9)]at hq;cases hq;rfl)
        ·rw[if_neg (fun e=>e.elim (fun e=>by omega) (fun e=>neC (k:=40) (by decide) (by omega) e))]at hq
         have e2:((j:Int)+1).toNat=j+1:=by omega
         have hv1:decide (((S.take j).drop 1).length≤900000)=true:=ξt (by rw[List.length_drop,List.length_take];omega)
         rcases hx:leafR ((S.take j).drop 1)with⟨k1,a1,v1,h1',m1,t1,l1⟩
         rw[hx]at hq
         have uu:=ξn uu (ξn e2 (ξn hv1 hx))
         refine WI.dregB tT [4,5,6] ?_
         iterate 2 refine dFS ?_
         refine dFG ?_
         refine dAC ?_
         iterate 2 refine dFS ?_
         iterate 2 refine dFG ?_
         refine dAG ?_
         iterate 2 refine dFS ?_
         refine dN ?_
         refine nz ?_
         refine WI.nnA ?_
         refine lf ?_
         try rw[List.take_length]
         first|(cases hq;rfl)|(rw[hlp,loop_nil]at hq;cases hq;rfl)|(rw[hlp,loop_fail r n _ c s hc40 (by rw[hx])]at hq;cases hq;rfl)|(rw[hlp,loop_end r n _ s c (cN (k:=41) (by decide) (by simpa using h9))]at hq;cases hq;rfl)|(rw[hlp,loop_no r n _ c s (by rintro rfl;simp at h7) (by rintro rfl;simp at h9)]at hq;cases hq;rfl)
     ·rw[if_neg (show ¬kindR (S.getD 1 0)<0 by rw[hk];first|decide|omega|(simp at h4))]at hq
      refine rg tT [0,1,4,9] ?_
      refine rg tT [0,1,4,9] ?_
      refine WI.orderA [1,4,9,0] ?_
      have hd2:(S.drop 2).length≤900000:=by rw[List.length_drop];omega
      generalize S.drop 2=T at hq hd2⊢
      refine WI.loop (fun φ os=> ∃(s:Txt) (l:List Flt) (n:Nat),s.length<n∧l.length+s.length≤T.length∧loopF r (T.length+1) [] T=loopF r n l s∧((l= []∧φ= [(1,.x (.int .i64 (N+1:Nat))),(4,.ptr 0 0),(9,.ptr 1 0),(0,.x (.str s))]∧os= [.box [.x (.int .i64 0),.x (.str []),.x (.str []),.x (.str []),.x .nils,.x (.str []),.x .nils],.box [.x (.int .i64 (kindR (S.getD 1 0))),.x (.str []),.x (.str []),.x (.str []),.x .nils,.x (.str []),.x .nils]])∨(φ= [(1,.x (.int .i64 (N+1:Nat))),(4,.ptr 0 0),(9,.ptr 1 0),(0,.x (.str s))]∧os= [.box [.x (.int .i64 0),.x (.str []),.x (.str []),.x (.str []),.x .nils,.x (.str []),.x .nils],.box [.x (.int .i64 (kindR (S.getD 1 0))),.x (.str []),.x (.str []),.x (.str []),.x .nils,.x (.str []),.ref 2 l.length 0 l.length],.rows false 49 7 (rows rFlt l)]))) (fun φ _=>(match get φ 0 with| .x (.str s)=>s.length|_=>0)) ?_ (fun φ os hI=> ?_)
      ·exact⟨T,[],T.length+1,by omega,by simp,rfl,.inl ⟨rfl,rfl,by rw[hk]⟩⟩
      ·obtain⟨s,l',n,hsn,hls,hlp,hcase⟩:=hI
       refine nz ?_
       obtain⟨n,rfl⟩: ∃n',n=n'+1:=⟨n-1,by omega⟩
       rcases hcase with⟨rfl,rfl,rfl⟩|⟨rfl,rfl⟩<;>rcases s with _|⟨c,s⟩
       ·refine rg tT [0,1,4,9,85] ?_
        refine ce (fun h7=> ?_) (fun h7=> ?_)
        ·simp at h7
        ·refine rg tT [0,4,9,111] ?_
         refine ct (fun h9=> ?_) (fun h9=> ?_)
         ·refine rg tT [4,5,6] ?_
          refine WI.nnA ?_
          refine lf ?_
          try rw[List.take_length]
          first|(cases hq;rfl)|(rw[hlp,loop_nil]at hq;cases hq;rfl)|(rw[hlp,loop_fail r n _ c s hc40 (by rw[hx])]at hq;cases hq;rfl)|(rw[hlp,loop_end r n _ s c (cN (k:=41) (by decide) (by simpa using h9))]at hq;cases hq;rfl)|(rw[hlp,loop_no r n _ c s (by rintro rfl;simp at h7) (by rintro rfl;simp at h9)]at hq;cases hq;rfl)
         ·simp at h9
       ·have hb8:c.toNat<256:=UInt8.toNat_lt _
        have hsl:s.length≤899999:=by simp at hls;omega
        refine rg tT [0,1,4,9,85] ?_
        refine cd (fun h7=> ?_) (fun h7=> ?_)
        ·have hc40:c=40:=cN (k:=40) (by decide) (by simpa using h7)
         rcases hx:r (c::s)with⟨⟨k1,a1,v1,h1',m1,t1,l1⟩,rest',ok⟩
         have hr1:=hr (c::s)
         rw[hx]at hr1
         have uu:=ξn uu hx
         refine rg tT [0,1,4,9,10,11,12] ?_
         refine rg tT [0,1,4,9,10,11,95] ?_
         refine cd (fun h8=> ?_) (fun h8=> ?_)
         ·obtain rfl:ok=false:=by simpa using h8
          refine rg tT [4,5,6] ?_
          refine WI.nnA ?_
          refine lf ?_
          try rw[List.take_length]
          first|(cases hq;rfl)|(rw[hlp,loop_nil]at hq;cases hq;rfl)|(rw[hlp,loop_fail r n _ c s hc40 (by rw[hx])]at hq;cases hq;rfl)|(rw[hlp,loop_end r n _ s c (cN (k:=41) (by decide) (by simpa using h9))]at hq;cases hq;rfl)|(rw[hlp,loop_no r n _ c s (by rintro rfl;simp at h7) (by rintro rfl;simp at h9)]at hq;cases hq;rfl)
         ·obtain rfl:ok=true:=by simpa using h8
          have hr2:rest'.length<s.length+1:=hr1 rfl
          have hsn':s.length+1<n+1:=hsn
          refine rgp tT [1,4,9,11] ?_
          refine pPick [0,1,4] ?_
          refine pEnd ?_
          refine nz ?_
          refine rg tT [0,1,4,9] ?_
          exact⟨by first|exact⟨rest',[.mk k1 a1 v1 h1' m1 t1 l1],n,by omega,by simp at hls⊢;omega,by rw[hlp,loop_go _ _ _ _ _ hc40 (by rw[hx]),hx,List.nil_append],.inr ⟨rfl,by rw[rows_oneF];first|done|rfl⟩⟩|exact⟨rest',l'++ [.mk k1 a1 v1 h1' m1 t1 l1],n,by omega,by simp at hls⊢;omega,by rw[hlp,loop_go _ _ _ _ _ hc40 (by rw[hx]),hx],.inr ⟨by first|rfl|simp,by rw[←rows_snocF];first|rfl|simp⟩⟩,by show rest'.length<s.length+1;omega⟩
        ·refine rg tT [0,4,9,111] ?_
         refine cd (fun h9=> ?_) (fun h9=> ?_)
         ·refine rg tT [4,5,6] ?_
          refine WI.nnA ?_
          refine lf ?_
          try rw[List.take_length]
          first|(cases hq;rfl)|(rw[hlp,loop_nil]at hq;cases hq;rfl)|(rw[hlp,loop_fail r n _ c s hc40 (by rw[hx])]at hq;cases hq;rfl)|(rw[hlp,loop_end r n _ s c (cN (k:=41) (by decide) (by simpa using h9))]at hq;cases hq;rfl)|(rw[hlp,loop_no r n _ c s (by rintro rfl;simp at h7) (by rintro rfl;simp at h9)]at hq;cases hq;rfl)
         ·refine WI.dregB tT [4,5,6] ?_
          refine dAG ?_
          refine dFS ?_
          refine dFG ?_
          refine dAG ?_
          iterate 2 refine dFS ?_
          refine dN ?_
          refine nz ?_
          refine WI.nnA ?_
          refine lf ?_
          try rw[List.take_length]
          first|(cases hq;rfl)|(rw[hlp,loop_nil]at hq;cases hq;rfl)|(rw[hlp,loop_fail r n _ c s hc40 (by rw[hx])]at hq;cases hq;rfl)|(rw[hlp,loop_end r n _ s c (cN (k:=41) (by decide) (by simpa using h9))]at hq;cases hq;rfl)|(rw[hlp,loop_no r n _ c s (by rintro rfl;simp at h7) (by rintro rfl;simp at h9)]at hq;cases hq;rfl)
       ·refine rg tT [0,1,4,9,85] ?_
        refine ce (fun h7=> ?_) (fun h7=> ?_)
        ·simp at h7
        ·refine rg tT [0,4,9,111] ?_
         refine ct (fun h9=> ?_) (fun h9=> ?_)
         ·refine rg tT [4,5,6] ?_
          refine WI.nnA ?_
          refine WI.freezeA [2] ?_
          refine WI.pickA [0] ?_
          refine lf ?_
          try rw[List.take_length]
          first|(cases hq;rfl)|(rw[hlp,loop_nil]at hq;cases hq;rfl)|(rw[hlp,loop_fail r n _ c s hc40 (by rw[hx])]at hq;cases hq;rfl)|(rw[hlp,loop_end r n _ s c (cN (k:=41) (by decide) (by simpa using h9))]at hq;cases hq;rfl)|(rw[hlp,loop_no r n _ c s (by rintro rfl;simp at h7) (by rintro rfl;simp at h9)]at hq;cases hq;rfl)
         ·simp at h9
       ·have hb8:c.toNat<256:=UInt8.toNat_lt _
        have hsl:s.length≤899999:=by simp at hls;omega
        refine rg tT [0,1,4,9,85] ?_
        refine cd (fun h7=> ?_) (fun h7=> ?_)
        ·have hc40:c=40:=cN (k:=40) (by decide) (by simpa using h7)
         rcases hx:r (c::s)with⟨⟨k1,a1,v1,h1',m1,t1,l1⟩,rest',ok⟩
         have hr1:=hr (c::s)
         rw[hx]at hr1
         have uu:=ξn uu hx
         refine rg tT [0,1,4,9,10,11,12] ?_
         refine rg tT [0,1,4,9,10,11,95] ?_
         refine cd (fun h8=> ?_) (fun h8=> ?_)
         ·obtain rfl:ok=false:=by simpa using h8
          refine rg tT [4,5,6] ?_
          refine WI.nnA ?_
          refine WI.freezeA [2] ?_
          refine WI.pickA [0] ?_
          refine lf ?_
          try rw[List.take_length]
          first|(cases hq;rfl)|(rw[hlp,loop_nil]at hq;cases hq;rfl)|(rw[hlp,loop_fail r n _ c s hc40 (by rw[hx])]at hq;cases hq;rfl)|(rw[hlp,loop_end r n _ s c (cN (k:=41) (by decide) (by simpa using h9))]at hq;cases hq;rfl)|(rw[hlp,loop_no r n _ c s (by rintro rfl;simp at h7) (by rintro rfl;simp at h9)]at hq;cases hq;rfl)
         ·obtain rfl:ok=true:=by simpa using h8
          have hr2:rest'.length<s.length+1:=hr1 rfl
          have hsn':s.length+1<n+1:=hsn
          refine rgp tT [1,4,9,11] ?_
          refine pPick [0,1,2] ?_
          refine pEnd ?_
          refine nz ?_
          refine rg tT [0,1,4,9] ?_
          exact⟨by first|exact⟨rest',[.mk k1 a1 v1 h1' m1 t1 l1],n,by omega,by simp at hls⊢;omega,by rw[hlp,loop_go _ _ _ _ _ hc40 (by rw[hx]),hx,List.nil_append],.inr ⟨rfl,by rw[rows_oneF];first|done|rfl⟩⟩|exact⟨rest',l'++ [.mk k1 a1 v1 h1' m1 t1 l1],n,by omega,by simp at hls⊢;omega,by rw[hlp,loop_go _ _ _ _ _ hc40 (by rw[hx]),hx],.inr ⟨by first|rfl|simp,by rw[←rows_snocF];first|rfl|simp⟩⟩,by show rest'.length<s.length+1;omega⟩
        ·refine rg tT [0,4,9,111] ?_
         refine cd (fun h9=> ?_) (fun h9=> ?_)
         ·refine rg tT [4,5,6] ?_
          refine WI.nnA ?_
          refine WI.freezeA [2] ?_
          refine WI.pickA [0] ?_
          refine lf ?_
          try rw[List.take_length]
          first|(cases hq;rfl)|(rw[hlp,loop_nil]at hq;cases hq;rfl)|(rw[hlp,loop_fail r n _ c s hc40 (by rw[hx])]at hq;cases hq;rfl)|(rw[hlp,loop_end r n _ s c (cN (k:=41) (by decide) (by simpa using h9))]at hq;cases hq;rfl)|(rw[hlp,loop_no r n _ c s (by rintro rfl;simp at h7) (by rintro rfl;simp at h9)]at hq;cases hq;rfl)
         ·refine WI.dregB tT [4,5,6] ?_
          refine dAG ?_
          refine dFS ?_
          refine dFG ?_
          refine dAG ?_
          iterate 2 refine dFS ?_
          refine dN ?_
          refine nz ?_
          refine WI.nnA ?_
          refine WI.freezeA [2] ?_
          refine WI.pickA [0] ?_
          refine lf ?_
          try rw[List.take_length]
          first|(cases hq;rfl)|(rw[hlp,loop_nil]at hq;cases hq;rfl)|(rw[hlp,loop_fail r n _ c s hc40 (by rw[hx])]at hq;cases hq;rfl)|(rw[hlp,loop_end r n _ s c (cN (k:=41) (by decide) (by simpa using h9))]at hq;cases hq;rfl)|(rw[hlp,loop_no r n _ c s (by rintro rfl;simp at h7) (by rintro rfl;simp at h9)]at hq;cases hq;rfl)
    ·have n124:S.getD 1 0≠124:=fun e=>by rw[e]at h2;exact absurd h2 (by decide)
     refine rg tT [0,1,4,7,33] ?_
     refine cd (fun h3=> ?_) (fun h3=> ?_)
     ·have hk:kindR (S.getD 1 0)=2:=by rw[show S.getD 1 0=33 from cN (k:=33) (by decide) (by simpa using h3)];rfl
      refine rg tT [0,1,4,7] ?_
      refine rg tT [0,1,4,7,36] ?_
      refine cd (fun h4=> ?_) (fun h4=> ?_)
      ·rw[if_pos (show kindR (S.getD 1 0)<0 by rw[hk];first|decide|omega|(simp at h4))]at hq
       refine rg tT [0,4,8] ?_
       refine WI.loop (fun φ os=> ∃(j:Nat),φ= [(0,.x (.str S)),(4,.ptr 0 0),(8,.x (.int .i64 j))]∧os= [.box [.x (.int .i64 0),.x (.str []),.x (.str []),.x (.str []),.x .nils,.x (.str []),.x .nils]]∧1≤j∧j≤S.length∧1+brAt (S.drop 1)=j+brAt (S.drop j)) (down S.length 8) ?_ (fun φ os hI=> ?_)
       ·exact⟨1,rfl,rfl,by omega,by omega,rfl⟩
       ·obtain⟨j,rfl,rfl,hj1,hj,hat⟩:=hI
        refine nz ?_
        refine rg tT [0,4,8,52] ?_
        refine cd (fun h5=> ?_) (fun h5=> ?_)
        ·have hj4:j<S.length:=by omega
         have hst:=brAt_step S j hj4 (fun e=>e.elim (fun e=>neC (k:=41) (by decide) (by omega) e) (fun e=>neC (k:=40) (by decide) (by omega) e))
         refine rg tT [0,4,8] ?_
         exact⟨⟨j+1,rfl,rfl,by omega,by omega,by rw[hat,hst]⟩,by simp[down,Ab.get,D.val,intOf?];omega⟩
        ·have hej:1+brAt (S.drop 1)=j:=by
          by_cases hj4:j<S.length
          ·rw[hat,brAt_stop S j hj4 (if e:((S.getD j 0).toNat:Int)=41 then .inl (cN (k:=41) (by decide) e)else .inr (cN (k:=40) (by decide) (by omega)))];rfl
          ·rw[hat,List.drop_of_length_le (by omega)];rfl
         rw[hej]at hq
         refine rg tT [0,4,8,64] ?_
         refine cd (fun h6=> ?_) (fun h6=> ?_)
         ·rw[if_pos (if e:j=S.length then .inl e else .inr (cN (k:=40) (by decide) (by omega)))]at hq
          refine rg tT [4,5,6] ?_
          refine WI.nnA ?_
          refine lf ?_
          try rw[List.take_length]
          first|(cases hq;rfl)|(rw[hlp,loop_nil]at hq;cases hq;rfl)|(rw[hlp,loop_fail r n _ c s hc40 (by rw[hx])]at hq;cases hq;rfl)|(rw[hlp,loop_end r n _ s c (cN (k:=41) (by decide) (by simpa using h9))]at hq;cases hq;rfl)|(rw[hlp,loop_no r n _ c s (by rintro rfl;simp at h7) (by rintro rfl;simp at h9)]at hq;cases hq;rfl)
         ·rw[if_neg (fun e=>e.elim (fun e=>by omega) (fun e=>neC (k:=40) (by decide) (by omega) e))]at hq
          have e2:((j:Int)+1).toNat=j+1:=by omega
          have hv1:decide (((S.take j).drop 1).length≤900000)=true:=ξt (by rw[List.length_drop,List.length_take];omega)
          rcases hx:leafR ((S.take j).drop 1)with⟨k1,a1,v1,h1',m1,t1,l1⟩
          rw[hx]at hq
          have uu:=ξn uu (ξn e2 (ξn hv1 hx))
          refine WI.dregB tT [4,5,6] ?_
          iterate 2 refine dFS ?_
          refine dFG ?_
          refine dAC ?_
          iterate 2 refine dFS ?_
          iterate 2 refine dFG ?_
          refine dAG ?_
          iterate 2 refine dFS ?_
          refine dN ?_
          refine nz ?_
          refine WI.nnA ?_
          refine lf ?_
          try rw[List.take_length]
          first|(cases hq;rfl)|(rw[hlp,loop_nil]at hq;cases hq;rfl)|(rw[hlp,loop_fail r n _ c s hc40 (by rw[hx])]at hq;cases hq;rfl)|(rw[hlp,loop_end r n _ s c (cN (k:=41) (by decide) (by simpa using h9))]at hq;cases hq;rfl)|(rw[hlp,loop_no r n _ c s (by rintro rfl;simp at h7) (by rintro rfl;simp at h9)]at hq;cases hq;rfl)
      ·rw[if_neg (show ¬kindR (S.getD 1 0)<0 by rw[hk];first|decide|omega|(simp at h4))]at hq
       refine rg tT [0,1,4,9] ?_
       refine rg tT [0,1,4,9] ?_
       refine WI.orderA [1,4,9,0] ?_
       have hd2:(S.drop 2).length≤900000:=by rw[List.length_drop];omega
       generalize S.drop 2=T at hq hd2⊢
       refine WI.loop (fun φ os=> ∃(s:Txt) (l:List Flt) (n:Nat),s.length<n∧l.length+s.length≤T.length∧loopF r (T.length+1) [] T=loopF r n l s∧((l= []∧φ= [(1,.x (.int .i64 (N+1:Nat))),(4,.ptr 0 0),(9,.ptr 1 0),(0,.x (.str s))]∧os= [.box [.x (.int .i64 0),.x (.str []),.x (.str []),.x (.str []),.x .nils,.x (.str []),.x .nils],.box [.x (.int .i64 (kindR (S.getD 1 0))),.x (.str []),.x (.str []),.x (.str []),.x .nils,.x (.str []),.x .nils]])∨(φ= [(1,.x (.int .i64 (N+1:Nat))),(4,.ptr 0 0),(9,.ptr 1 0),(0,.x (.str s))]∧os= [.box [.x (.int .i64 0),.x (.str []),.x (.str []),.x (.str []),.x .nils,.x (.str []),.x .nils],.box [.x (.int .i64 (kindR (S.getD 1 0))),.x (.str []),.x (.str []),.x (.str []),.x .nils,.x (.str []),.ref 2 l.length 0 l.length],.rows false 49 7 (rows rFlt l)]))) (fun φ _=>(match get φ 0 with| .x (.str s)=>s.length|_=>0)) ?_ (fun φ os hI=> ?_)
       ·exact⟨T,[],T.length+1,by omega,by simp,rfl,.inl ⟨rfl,rfl,by rw[hk]⟩⟩
       ·obtain⟨s,l',n,hsn,hls,hlp,hcase⟩:=hI
        refine nz ?_
        obtain⟨n,rfl⟩: ∃n',n=n'+1:=⟨n-1,by omega⟩
        rcases hcase with⟨rfl,rfl,rfl⟩|⟨rfl,rfl⟩<;>rcases s with _|⟨c,s⟩
        ·refine rg tT [0,1,4,9,85] ?_
         refine ce (fun h7=> ?_) (fun h7=> ?_)
         ·simp at h7
         ·refine rg tT [0,4,9,111] ?_
          refine ct (fun h9=> ?_) (fun h9=> ?_)
          ·refine rg tT [4,5,6] ?_
           refine WI.nnA ?_
           refine lf ?_
           try rw[List.take_length]
           first|(cases hq;rfl)|(rw[hlp,loop_nil]at hq;cases hq;rfl)|(rw[hlp,loop_fail r n _ c s hc40 (by rw[hx])]at hq;cases hq;rfl)|(rw[hlp,loop_end r n _ s c (cN (k:=41) (by decide) (by simpa using h9))]at hq;cases hq;rfl)|(rw[hlp,loop_no r n _ c s (by rintro rfl;simp at h7) (by rintro rfl;simp at h9)]at hq;cases hq;rfl)
          ·simp at h9
        ·have hb8:c.toNat<256:=UInt8.toNat_lt _
         have hsl:s.length≤899999:=by simp at hls;omega
         refine rg tT [0,1,4,9,85] ?_
         refine cd (fun h7=> ?_) (fun h7=> ?_)
         ·have hc40:c=40:=cN (k:=40) (by decide) (by simpa using h7)
          rcases hx:r (c::s)with⟨⟨k1,a1,v1,h1',m1,t1,l1⟩,rest',ok⟩
          have hr1:=hr (c::s)
          rw[hx]at hr1
          have uu:=ξn uu hx
          refine rg tT [0,1,4,9,10,11,12] ?_
          refine rg tT [0,1,4,9,10,11,95] ?_
          refine cd (fun h8=> ?_) (fun h8=> ?_)
          ·obtain rfl:ok=false:=by simpa using h8
           refine rg tT [4,5,6] ?_
           refine WI.nnA ?_
           refine lf ?_
           try rw[List.take_length]
           first|(cases hq;rfl)|(rw[hlp,loop_nil]at hq;cases hq;rfl)|(rw[hlp,loop_fail r n _ c s hc40 (by rw[hx])]at hq;cases hq;rfl)|(rw[hlp,loop_end r n _ s c (cN (k:=41) (by decide) (by simpa using h9))]at hq;cases hq;rfl)|(rw[hlp,loop_no r n _ c s (by rintro rfl;simp at h7) (by rintro rfl;simp at h9)]at hq;cases hq;rfl)
          ·obtain rfl:ok=true:=by simpa using h8
           have hr2:rest'.length<s.length+1:=hr1 rfl
           have hsn':s.length+1<n+1:=hsn
           refine rgp tT [1,4,9,11] ?_
           refine pPick [0,1,4] ?_
           refine pEnd ?_
           refine nz ?_
           refine rg tT [0,1,4,9] ?_
           exact⟨by first|exact⟨rest',[.mk k1 a1 v1 h1' m1 t1 l1],n,by omega,by simp at hls⊢;omega,by rw[hlp,loop_go _ _ _ _ _ hc40 (by rw[hx]),hx,List.nil_append],.inr ⟨rfl,by rw[rows_oneF];first|done|rfl⟩⟩|exact⟨rest',l'++ [.mk k1 a1 v1 h1' m1 t1 l1],n,by omega,by simp at hls⊢;omega,by rw[hlp,loop_go _ _ _ _ _ hc40 (by rw[hx]),hx],.inr ⟨by first|rfl|simp,by rw[←rows_snocF];first|rfl|simp⟩⟩,by show rest'.length<s.length+1;omega⟩
         ·refine rg tT [0,4,9,111] ?_
          refine cd (fun h9=> ?_) (fun h9=> ?_)
          ·refine rg tT [4,5,6] ?_
           refine WI.nnA ?_
           refine lf ?_
           try rw[List.take_length]
           first|(cases hq;rfl)|(rw[hlp,loop_nil]at hq;cases hq;rfl)|(rw[hlp,loop_fail r n _ c s hc40 (by rw[hx])]at hq;cases hq;rfl)|(rw[hlp,loop_end r n _ s c (cN (k:=41) (by decide) (by simpa using h9))]at hq;cases hq;rfl)|(rw[hlp,loop_no r n _ c s (by rintro rfl;simp at h7) (by rintro rfl;simp at h9)]at hq;cases hq;rfl)
          ·refine WI.dregB tT [4,5,6] ?_
           refine dAG ?_
           refine dFS ?_
           refine dFG ?_
           refine dAG ?_
           iterate 2 refine dFS ?_
           refine dN ?_
           refine nz ?_
           refine WI.nnA ?_
           refine lf ?_
           try rw[List.take_length]
           first|(cases hq;rfl)|(rw[hlp,loop_nil]at hq;cases hq;rfl)|(rw[hlp,loop_fail r n _ c s hc40 (by rw[hx])]at hq;cases hq;rfl)|(rw[hlp,loop_end r n _ s c (cN (k:=41) (by decide) (by simpa using h9))]at hq;cases hq;rfl)|(rw[hlp,loop_no r n _ c s (by rintro rfl;simp at h7) (by rintro rfl;simp at h9)]at hq;cases hq;rfl)
        ·refine rg tT [0,1,4,9,85] ?_
         refine ce (fun h7=> ?_) (fun h7=> ?_)
         ·simp at h7
         ·refine rg tT [0,4,9,111] ?_
          refine ct (fun h9=> ?_) (fun h9=> ?_)
          ·refine rg tT [4,5,6] ?_
           refine WI.nnA ?_
           refine WI.freezeA [2] ?_
           refine WI.pickA [0] ?_
           refine lf ?_
           try rw[List.take_length]
           first|(cases hq;rfl)|(rw[hlp,loop_nil]at hq;cases hq;rfl)|(rw[hlp,loop_fail r n _ c s hc40 (by rw[hx])]at hq;cases hq;rfl)|(rw[hlp,loop_end r n _ s c (cN (k:=41) (by decide) (by simpa using h9))]at hq;cases hq;rfl)|(rw[hlp,loop_no r n _ c s (by rintro rfl;simp at h7) (by rintro rfl;simp at h9)]at hq;cases hq;rfl)
          ·simp at h9
        ·have hb8:c.toNat<256:=UInt8.toNat_lt _
         have hsl:s.length≤899999:=by simp at hls;omega
         refine rg tT [0,1,4,9,85] ?_
         refine cd (fun h7=> ?_) (fun h7=> ?_)
         ·have hc40:c=40:=cN (k:=40) (by decide) (by simpa using h7)
          rcases hx:r (c::s)with⟨⟨k1,a1,v1,h1',m1,t1,l1⟩,rest',ok⟩
          have hr1:=hr (c::s)
          rw[hx]at hr1
          have uu:=ξn uu hx
          refine rg tT [0,1,4,9,10,11,12] ?_
          refine rg tT [0,1,4,9,10,11,95] ?_
          refine cd (fun h8=> ?_) (fun h8=> ?_)
          ·obtain rfl:ok=false:=by simpa using h8
           refine rg tT [4,5,6] ?_
           refine WI.nnA ?_
           refine WI.freezeA [2] ?_
           refine WI.pickA [0] ?_
           refine lf ?_
           try rw[List.take_length]
           first|(cases hq;rfl)|(rw[hlp,loop_nil]at hq;cases hq;rfl)|(rw[hlp,loop_fail r n _ c s hc40 (by rw[hx])]at hq;cases hq;rfl)|(rw[hlp,loop_end r n _ s c (cN (k:=41) (by decide) (by simpa using h9))]at hq;cases hq;rfl)|(rw[hlp,loop_no r n _ c s (by rintro rfl;simp at h7) (by rintro rfl;simp at h9)]at hq;cases hq;rfl)
          ·obtain rfl:ok=true:=by simpa using h8
           have hr2:rest'.length<s.length+1:=hr1 rfl
           have hsn':s.length+1<n+1:=hsn
           refine rgp tT [1,4,9,11] ?_
           refine pPick [0,1,2] ?_
           refine pEnd ?_
           refine nz ?_
           refine rg tT [0,1,4,9] ?_
           exact⟨by first|exact⟨rest',[.mk k1 a1 v1 h1' m1 t1 l1],n,by omega,by simp at hls⊢;omega,by rw[hlp,loop_go _ _ _ _ _ hc40 (by rw[hx]),hx,List.nil_append],.inr ⟨rfl,by rw[rows_oneF];first|done|rfl⟩⟩|exact⟨rest',l'++ [.mk k1 a1 v1 h1' m1 t1 l1],n,by omega,by simp at hls⊢;omega,by rw[hlp,loop_go _ _ _ _ _ hc40 (by rw[hx]),hx],.inr ⟨by first|rfl|simp,by rw[←rows_snocF];first|rfl|simp⟩⟩,by show rest'.length<s.length+1;omega⟩
         ·refine rg tT [0,4,9,111] ?_
          refine cd (fun h9=> ?_) (fun h9=> ?_)
          ·refine rg tT [4,5,6] ?_
           refine WI.nnA ?_
           refine WI.freezeA [2] ?_
           refine WI.pickA [0] ?_
           refine lf ?_
           try rw[List.take_length]
           first|(cases hq;rfl)|(rw[hlp,loop_nil]at hq;cases hq;rfl)|(rw[hlp,loop_fail r n _ c s hc40 (by rw[hx])]at hq;cases hq;rfl)|(rw[hlp,loop_end r n _ s c (cN (k:=41) (by decide) (by simpa using h9))]at hq;cases hq;rfl)|(rw[hlp,loop_no r n _ c s (by rintro rfl;simp at h7) (by rintro rfl;simp at h9)]at hq;cases hq;rfl)
          ·refine WI.dregB tT [4,5,6] ?_
           refine dAG ?_
           refine dFS ?_
           refine dFG ?_
           refine dAG ?_
           iterate 2 refine dFS ?_
           refine dN ?_
           refine nz ?_
           refine WI.nnA ?_
           refine WI.freezeA [2] ?_
           refine WI.pickA [0] ?_
           refine lf ?_
           try rw[List.take_length]
           first|(cases hq;rfl)|(rw[hlp,loop_nil]at hq;cases hq;rfl)|(rw[hlp,loop_fail r n _ c s hc40 (by rw[hx])]at hq;cases hq;rfl)|(rw[hlp,loop_end r n _ s c (cN (k:=41) (by decide) (by simpa using h9))]at hq;cases hq;rfl)|(rw[hlp,loop_no r n _ c s (by rintro rfl;simp at h7) (by rintro rfl;simp at h9)]at hq;cases hq;rfl)
     ·have n33:S.getD 1 0≠33:=fun e=>by rw[e]at h3;exact absurd h3 (by decide)
      have hk:kindR (S.getD 1 0)= -1:=by unfold kindR;rw[if_neg n38,if_neg n124,if_neg n33]
      refine rg tT [0,1,4,7,36] ?_
      refine cd (fun h4=> ?_) (fun h4=> ?_)
      ·rw[if_pos (show kindR (S.getD 1 0)<0 by rw[hk];first|decide|omega|(simp at h4))]at hq
       refine rg tT [0,4,8] ?_
       refine WI.loop (fun φ os=> ∃(j:Nat),φ= [(0,.x (.str S)),(4,.ptr 0 0),(8,.x (.int .i64 j))]∧os= [.box [.x (.int .i64 0),.x (.str []),.x (.str []),.x (.str []),.x .nils,.x (.str []),.x .nils]]∧1≤j∧j≤S.length∧1+brAt (S.drop 1)=j+brAt (S.drop j)) (down S.length 8) ?_ (fun φ os hI=> ?_)
       ·exact⟨1,rfl,rfl,by omega,by omega,rfl⟩
       ·obtain⟨j,rfl,rfl,hj1,hj,hat⟩:=hI
        refine nz ?_
        refine rg tT [0,4,8,52] ?_
        refine cd (fun h5=> ?_) (fun h5=> ?_)
        ·have hj4:j<S.length:=by omega
         have hst:=brAt_step S j hj4 (fun e=>e.elim (fun e=>neC (k:=41) (by decide) (by omega) e) (fun e=>neC (k:=40) (by decide) (by omega) e))
         refine rg tT [0,4,8] ?_
         exact⟨⟨j+1,rfl,rfl,by omega,by omega,by rw[hat,hst]⟩,by simp[down,Ab.get,D.val,intOf?];omega⟩
        ·have hej:1+brAt (S.drop 1)=j:=by
          by_cases hj4:j<S.length
          ·rw[hat,brAt_stop S j hj4 (if e:((S.getD j 0).toNat:Int)=41 then .inl (cN (k:=41) (by decide) e)else .inr (cN (k:=40) (by decide) (by omega)))];rfl
          ·rw[hat,List.drop_of_length_le (by omega)];rfl
         rw[hej]at hq
         refine rg tT [0,4,8,64] ?_
         refine cd (fun h6=> ?_) (fun h6=> ?_)
         ·rw[if_pos (if e:j=S.length then .inl e else .inr (cN (k:=40) (by decide) (by omega)))]at hq
          refine rg tT [4,5,6] ?_
          refine WI.nnA ?_
          refine lf ?_
          try rw[List.take_length]
          first|(cases hq;rfl)|(rw[hlp,loop_nil]at hq;cases hq;rfl)|(rw[hlp,loop_fail r n _ c s hc40 (by rw[hx])]at hq;cases hq;rfl)|(rw[hlp,loop_end r n _ s c (cN (k:=41) (by decide) (by simpa using h9))]at hq;cases hq;rfl)|(rw[hlp,loop_no r n _ c s (by rintro rfl;simp at h7) (by rintro rfl;simp at h9)]at hq;cases hq;rfl)
         ·rw[if_neg (fun e=>e.elim (fun e=>by omega) (fun e=>neC (k:=40) (by decide) (by omega) e))]at hq
          have e2:((j:Int)+1).toNat=j+1:=by omega
          have hv1:decide (((S.take j).drop 1).length≤900000)=true:=ξt (by rw[List.length_drop,List.length_take];omega)
          rcases hx:leafR ((S.take j).drop 1)with⟨k1,a1,v1,h1',m1,t1,l1⟩
          rw[hx]at hq
          have uu:=ξn uu (ξn e2 (ξn hv1 hx))
          refine WI.dregB tT [4,5,6] ?_
          iterate 2 refine dFS ?_
          refine dFG ?_
          refine dAC ?_
          iterate 2 refine dFS ?_
          iterate 2 refine dFG ?_
          refine dAG ?_
          iterate 2 refine dFS ?_
          refine dN ?_
          refine nz ?_
          refine WI.nnA ?_
          refine lf ?_
          try rw[List.take_length]
          first|(cases hq;rfl)|(rw[hlp,loop_nil]at hq;cases hq;rfl)|(rw[hlp,loop_fail r n _ c s hc40 (by rw[hx])]at hq;cases hq;rfl)|(rw[hlp,loop_end r n _ s c (cN (k:=41) (by decide) (by simpa using h9))]at hq;cases hq;rfl)|(rw[hlp,loop_no r n _ c s (by rintro rfl;simp at h7) (by rintro rfl;simp at h9)]at hq;cases hq;rfl)
      ·rw[if_neg (show ¬kindR (S.getD 1 0)<0 by rw[hk];first|decide|omega|(simp at h4))]at hq
       refine rg tT [0,1,4,9] ?_
       refine rg tT [0,1,4,9] ?_
       refine WI.orderA [1,4,9,0] ?_
       have hd2:(S.drop 2).length≤900000:=by rw[List.length_drop];omega
       generalize S.drop 2=T at hq hd2⊢
       refine WI.loop (fun φ os=> ∃(s:Txt) (l:List Flt) (n:Nat),s.length<n∧l.length+s.length≤T.length∧loopF r (T.length+1) [] T=loopF r n l s∧((l= []∧φ= [(1,.x (.int .i64 (N+1:Nat))),(4,.ptr 0 0),(9,.ptr 1 0),(0,.x (.str s))]∧os= [.box [.x (.int .i64 0),.x (.str []),.x (.str []),.x (.str []),.x .nils,.x (.str []),.x .nils],.box [.x (.int .i64 (kindR (S.getD 1 0))),.x (.str []),.x (.str []),.x (.str []),.x .nils,.x (.str []),.x .nils]])∨(φ= [(1,.x (.int .i64 (N+1:Nat))),(4,.ptr 0 0),(9,.ptr 1 0),(0,.x (.str s))]∧os= [.box [.x (.int .i64 0),.x (.str []),.x (.str []),.x (.str []),.x .nils,.x (.str []),.x .nils],.box [.x (.int .i64 (kindR (S.getD 1 0))),.x (.str []),.x (.str []),.x (.str []),.x .nils,.x (.str []),.ref 2 l.length 0 l.length],.rows false 49 7 (rows rFlt l)]))) (fun φ _=>(match get φ 0 with| .x (.str s)=>s.length|_=>0)) ?_ (fun φ os hI=> ?_)
       ·exact⟨T,[],T.length+1,by omega,by simp,rfl,.inl ⟨rfl,rfl,by rw[hk]⟩⟩
       ·obtain⟨s,l',n,hsn,hls,hlp,hcase⟩:=hI
        refine nz ?_
        obtain⟨n,rfl⟩: ∃n',n=n'+1:=⟨n-1,by omega⟩
        rcases hcase with⟨rfl,rfl,rfl⟩|⟨rfl,rfl⟩<;>rcases s with _|⟨c,s⟩
        ·refine rg tT [0,1,4,9,85] ?_
         refine ce (fun h7=> ?_) (fun h7=> ?_)
         ·simp at h7
         ·refine rg tT [0,4,9,111] ?_
          refine ct (fun h9=> ?_) (fun h9=> ?_)
          ·refine rg tT [4,5,6] ?_
           refine WI.nnA ?_
           refine lf ?_
           try rw[List.take_length]
           first|(cases hq;rfl)|(rw[hlp,loop_nil]at hq;cases hq;rfl)|(rw[hlp,loop_fail r n _ c s hc40 (by rw[hx])]at hq;cases hq;rfl)|(rw[hlp,loop_end r n _ s c (cN (k:=41) (by decide) (by simpa using h9))]at hq;cases hq;rfl)|(rw[hlp,loop_no r n _ c s (by rintro rfl;simp at h7) (by rintro rfl;simp at h9)]at hq;cases hq;rfl)
          ·simp at h9
        ·have hb8:c.toNat<256:=UInt8.toNat_lt _
         have hsl:s.length≤899999:=by simp at hls;omega
         refine rg tT [0,1,4,9,85] ?_
         refine cd (fun h7=> ?_) (fun h7=> ?_)
         ·have hc40:c=40:=cN (k:=40) (by decide) (by simpa using h7)
          rcases hx:r (c::s)with⟨⟨k1,a1,v1,h1',m1,t1,l1⟩,rest',ok⟩
          have hr1:=hr (c::s)
          rw[hx]at hr1
          have uu:=ξn uu hx
          refine rg tT [0,1,4,9,10,11,12] ?_
          refine rg tT [0,1,4,9,10,11,95] ?_
          refine cd (fun h8=> ?_) (fun h8=> ?_)
          ·obtain rfl:ok=false:=by simpa using h8
           refine rg tT [4,5,6] ?_
           refine WI.nnA ?_
           refine lf ?_
           try rw[List.take_length]
           first|(cases hq;rfl)|(rw[hlp,loop_nil]at hq;cases hq;rfl)|(rw[hlp,loop_fail r n _ c s hc40 (by rw[hx])]at hq;cases hq;rfl)|(rw[hlp,loop_end r n _ s c (cN (k:=41) (by decide) (by simpa using h9))]at hq;cases hq;rfl)|(rw[hlp,loop_no r n _ c s (by rintro rfl;simp at h7) (by rintro rfl;simp at h9)]at hq;cases hq;rfl)
          ·obtain rfl:ok=true:=by simpa using h8
           have hr2:rest'.length<s.length+1:=hr1 rfl
           have hsn':s.length+1<n+1:=hsn
           refine rgp tT [1,4,9,11] ?_
           refine pPick [0,1,4] ?_
           refine pEnd ?_
           refine nz ?_
           refine rg tT [0,1,4,9] ?_
           exact⟨by first|exact⟨rest',[.mk k1 a1 v1 h1' m1 t1 l1],n,by omega,by simp at hls⊢;omega,by rw[hlp,loop_go _ _ _ _ _ hc40 (by rw[hx]),hx,List.nil_append],.inr ⟨rfl,by rw[rows_oneF];first|done|rfl⟩⟩|exact⟨rest',l'++ [.mk k1 a1 v1 h1' m1 t1 l1],n,by omega,by simp at hls⊢;omega,by rw[hlp,loop_go _ _ _ _ _ hc40 (by rw[hx]),hx],.inr ⟨by first|rfl|simp,by rw[←rows_snocF];first|rfl|simp⟩⟩,by show rest'.length<s.length+1;omega⟩
         ·refine rg tT [0,4,9,111] ?_
          refine cd (fun h9=> ?_) (fun h9=> ?_)
          ·refine rg tT [4,5,6] ?_
           refine WI.nnA ?_
           refine lf ?_
           try rw[List.take_length]
           first|(cases hq;rfl)|(rw[hlp,loop_nil]at hq;cases hq;rfl)|(rw[hlp,loop_fail r n _ c s hc40 (by rw[hx])]at hq;cases hq;rfl)|(rw[hlp,loop_end r n _ s c (cN (k:=41) (by decide) (by simpa using h9))]at hq;cases hq;rfl)|(rw[hlp,loop_no r n _ c s (by rintro rfl;simp at h7) (by rintro rfl;simp at h9)]at hq;cases hq;rfl)
          ·refine WI.dregB tT [4,5,6] ?_
           refine dAG ?_
           refine dFS ?_
           refine dFG ?_
           refine dAG ?_
           iterate 2 refine dFS ?_
           refine dN ?_
           refine nz ?_
           refine WI.nnA ?_
           refine lf ?_
           try rw[List.take_length]
           first|(cases hq;rfl)|(rw[hlp,loop_nil]at hq;cases hq;rfl)|(rw[hlp,loop_fail r n _ c s hc40 (by rw[hx])]at hq;cases hq;rfl)|(rw[hlp,loop_end r n _ s c (cN (k:=41) (by decide) (by simpa using h9))]at hq;cases hq;rfl)|(rw[hlp,loop_no r n _ c s (by rintro rfl;simp at h7) (by rintro rfl;simp at h9)]at hq;cases hq;rfl)
        ·refine rg tT [0,1,4,9,85] ?_
         refine ce (fun h7=> ?_) (fun h7=> ?_)
         ·simp at h7
         ·refine rg tT [0,4,9,111] ?_
          refine ct (fun h9=> ?_) (fun h9=> ?_)
          ·refine rg tT [4,5,6] ?_
           refine WI.nnA ?_
           refine WI.freezeA [2] ?_
           refine WI.pickA [0] ?_
           refine lf ?_
           try rw[List.take_length]
           first|(cases hq;rfl)|(rw[hlp,loop_nil]at hq;cases hq;rfl)|(rw[hlp,loop_fail r n _ c s hc40 (by rw[hx])]at hq;cases hq;rfl)|(rw[hlp,loop_end r n _ s c (cN (k:=41) (by decide) (by simpa using h9))]at hq;cases hq;rfl)|(rw[hlp,loop_no r n _ c s (by rintro rfl;simp at h7) (by rintro rfl;simp at h9)]at hq;cases hq;rfl)
          ·simp at h9
        ·have hb8:c.toNat<256:=UInt8.toNat_lt _
         have hsl:s.length≤899999:=by simp at hls;omega
         refine rg tT [0,1,4,9,85] ?_
         refine cd (fun h7=> ?_) (fun h7=> ?_)
         ·have hc40:c=40:=cN (k:=40) (by decide) (by simpa using h7)
          rcases hx:r (c::s)with⟨⟨k1,a1,v1,h1',m1,t1,l1⟩,rest',ok⟩
          have hr1:=hr (c::s)
          rw[hx]at hr1
          have uu:=ξn uu hx
          refine rg tT [0,1,4,9,10,11,12] ?_
          refine rg tT [0,1,4,9,10,11,95] ?_
          refine cd (fun h8=> ?_) (fun h8=> ?_)
          ·obtain rfl:ok=false:=by simpa using h8
           refine rg tT [4,5,6] ?_
           refine WI.nnA ?_
           refine WI.freezeA [2] ?_
           refine WI.pickA [0] ?_
           refine lf ?_
           try rw[List.take_length]
           first|(cases hq;rfl)|(rw[hlp,loop_nil]at hq;cases hq;rfl)|(rw[hlp,loop_fail r n _ c s hc40 (by rw[hx])]at hq;cases hq;rfl)|(rw[hlp,loop_end r n _ s c (cN (k:=41) (by decide) (by simpa using h9))]at hq;cases hq;rfl)|(rw[hlp,loop_no r n _ c s (by rintro rfl;simp at h7) (by rintro rfl;simp at h9)]at hq;cases hq;rfl)
          ·obtain rfl:ok=true:=by simpa using h8
           have hr2:rest'.length<s.length+1:=hr1 rfl
           have hsn':s.length+1<n+1:=hsn
           refine rgp tT [1,4,9,11] ?_
           refine pPick [0,1,2] ?_
           refine pEnd ?_
           refine nz ?_
           refine rg tT [0,1,4,9] ?_
           exact⟨by first|exact⟨rest',[.mk k1 a1 v1 h1' m1 t1 l1],n,by omega,by simp at hls⊢;omega,by rw[hlp,loop_go _ _ _ _ _ hc40 (by rw[hx]),hx,List.nil_append],.inr ⟨rfl,by rw[rows_oneF];first|done|rfl⟩⟩|exact⟨rest',l'++ [.mk k1 a1 v1 h1' m1 t1 l1],n,by omega,by simp at hls⊢;omega,by rw[hlp,loop_go _ _ _ _ _ hc40 (by rw[hx]),hx],.inr ⟨by first|rfl|simp,by rw[←rows_snocF];first|rfl|simp⟩⟩,by show rest'.length<s.length+1;omega⟩
         ·refine rg tT [0,4,9,111] ?_
          refine cd (fun h9=> ?_) (fun h9=> ?_)
          ·refine rg tT [4,5,6] ?_
           refine WI.nnA ?_
           refine WI.freezeA [2] ?_
           refine WI.pickA [0] ?_
           refine lf ?_
           try rw[List.take_length]
           first|(cases hq;rfl)|(rw[hlp,loop_nil]at hq;cases hq;rfl)|(rw[hlp,loop_fail r n _ c s hc40 (by rw[hx])]at hq;cases hq;rfl)|(rw[hlp,loop_end r n _ s c (cN (k:=41) (by decide) (by simpa using h9))]at hq;cases hq;rfl)|(rw[hlp,loop_no r n _ c s (by rintro rfl;simp at h7) (by rintro rfl;simp at h9)]at hq;cases hq;rfl)
          ·refine WI.dregB tT [4,5,6] ?_
           refine dAG ?_
           refine dFS ?_
           refine dFG ?_
           refine dAG ?_
           iterate 2 refine dFS ?_
           refine dN ?_
           refine nz ?_
           refine WI.nnA ?_
           refine WI.freezeA [2] ?_
           refine WI.pickA [0] ?_
           refine lf ?_
           try rw[List.take_length]
           first|(cases hq;rfl)|(rw[hlp,loop_nil]at hq;cases hq;rfl)|(rw[hlp,loop_fail r n _ c s hc40 (by rw[hx])]at hq;cases hq;rfl)|(rw[hlp,loop_end r n _ s c (cN (k:=41) (by decide) (by simpa using h9))]at hq;cases hq;rfl)|(rw[hlp,loop_no r n _ c s (by rintro rfl;simp at h7) (by rintro rfl;simp at h9)]at hq;cases hq;rfl)
def readR20G:List D→Option (Bool×D)
 | [.x (.str s),.x (.int .i64 20)]=>some (decide (s.length≤900000),.tup [fltD (readR 20 s).1,.x (.str (readR 20 s).2.1),.x (.bool (readR 20 s).2.2)])
 |_=>none
theorem readR20G_ok: ∀args r,readR20G args=some (true,r)→PCalls Tryz.prog 38 args r:=by
 intro args r h
 unfold readR20G at h
 split at h
 ·rename_i s
  simp only[ξI,ξP,ξa,ξe,true_and]at h
  obtain⟨h1,rfl⟩:=h
  exact(readR_c 20 (by omega) s h1)
 ·cases h
theorem bstr_inj {a b:List UInt8} (h:bstr a=bstr b):a=b:=by
 have:=congrArg (fun x=>x.data.toList) h
 simpa[bstr]using this
theorem contS (l:List (List UInt8)) (s:List UInt8):Lib.containsS (l.map bstr) (bstr s)=decide (s∈l):=by
 rw[Bool.eq_iff_iff,Lib.containsS_iff,ξe,List.mem_map]
 exact⟨fun⟨a,h1,h2⟩=>bstr_inj h2▸h1,fun h=>⟨s,h,rfl⟩⟩
theorem cont_c (l:List (List UInt8)) (s:List UInt8) (hl:l.length≤1000000):PCalls Tryz.prog 129 [.x (.sl (rows rStr l)),.x (.str s)] (.x (.bool (decide (s∈l)))):=by
 intro w st vs hst hvl
 obtain⟨hsz,hv⟩:=hvl
 obtain⟨v0,v1,rfl⟩: ∃v0 v1,vs= #[v0,v1]:=by
  obtain⟨vl⟩:=vs
  match vl,hsz with
  | [a,b],_=>exact⟨a,b,rfl⟩
 have h0:=hv 0 _ v0 rfl rfl
 have h1:=hv 1 _ v1 rfl rfl
 clear hv hsz
 cases h0 with
 |x h0=>
 cases h1 with
 |x h1=>
 cases h1 with
 |str _=>
 cases h0 with
 |sl _ a n c sz val hn hc hm hsz hcell hnil hsp hval=>
  rw[rows_len]at hn
  subst hn
  match l,hl,hc,hsz,hcell,hval with
  | [],_,_,_,_,_=>
   refine(Tryz.slices_Contains_string_empty a c (bstr s) w).mono ?_
   rintro e w' ⟨rfl,rfl⟩
   exact⟨_,st,rfl,Kept.refl _ _,fun _ _ h=>h,fun _ _ h=> .inl h,.x (.bool _)⟩
  |x::r,hl,hc,hsz,hcell,hval=>
   obtain rfl:1=sz:=hsz [.str x] (by simp[rows,rStr])
   obtain⟨b,off,rfl,hs0,_⟩:=hcell 0 0 (by simp) (by omega)
   have hcells: ∀j,j<((x::r).map bstr).length→w.cell? ⟨b,off+j,none⟩=some (.string (((x::r).map bstr).getD j ByteArray.empty)):=by
    intro j hj
    rw[List.length_map]at hj
    obtain⟨b',off',e,_,hw⟩:=hcell j 0 hj (by omega)
    simp only[ξI,Addr.mk.injEq]at e
    obtain⟨rfl,rfl,_⟩:=e
    have hx:=hval j 0 [.str (x::r)[j]] (.str (x::r)[j]) (by simp only[rows,ξp,ξg hj];rfl) rfl
    have hd:((x::r).map bstr).getD j ByteArray.empty=bstr (x::r)[j]:=by rw[List.getD_eq_getElem?_getD,ξp,ξg hj];rfl
    rw[show off+j=off+j*1+0 by omega,hw,hd]
    generalize val j 0=u at hx
    cases hx with
    |str _=>rfl
   have:=Tryz.slices_Contains_string b off (x::r).length c ((x::r).map bstr) (bstr s) w (by simp) (by omega) hcells
   rw[ξT (by simp),contS]at this
   refine this.mono ?_
   rintro e w' ⟨rfl,rfl⟩
   exact⟨_,st,rfl,Kept.refl _ _,fun _ _ h=>h,fun _ _ h=> .inl h,.x (.bool _)⟩
theorem cont_enters:Go.Ab.Enters Tryz.prog 129:=Go.Proofs.enters_of Tryz.lays110.f110 (by kernel_rfl) rfl
def contG:List D→Option (Bool×D)
 | [.x (.sl R),.x (.str s)]=>(unrows rStr R).bind fun l=>some (decide (l.length≤1000000),.x (.bool (decide (s∈l))))
 |_=>none
theorem contG_ok: ∀args r,contG args=some (true,r)→PCalls Tryz.prog 129 args r:=by
 intro args r h
 unfold contG at h
 split at h
 ·rename_i R s
  obtain⟨l,hr0,h⟩:=ξB h
  simp only[ξI,ξP,ξa,ξe,true_and]at h
  obtain⟨h1,rfl⟩:=h
  rw[←rows_unrows good_rStr hr0]
  exact(cont_c l s h1)
 ·cases h
def noneB (h:Txt) (m:List Txt) (t:Txt):Bool:=decide (h= [])&&decide (t= [])&&decide (m.length=0)
def partsB (h:Txt) (m:List Txt) (t:Txt):Bool:=decide (m.length≤16)&& !decide ([]∈m)&&(decide (h≠ [])||decide (t≠ [])||decide (m.length>0))
theorem fnone_c (h:Txt) (m:List Txt) (t:Txt):PCalls Tryz.prog 121 [.agg [.x (.str h),.x (.sl (rows rStr m)),.x (.str t)]] (.x (.bool (noneB h m t))):=by
 unfold noneB
 refine FCalls.pure (fcallsG (fz:=true) G_ok (p:=i121) rfl _ (ξ rfl) _ (fun C0 E0=> ?_)) rfl
 dsimp only[i121,qt,qi,qs,qb,qm,qa,qh,qj,qT,qF,qe,ql,qL,qf,q2,q3,q8,qz,qp,qP,qc,qk,qx,qy,qo,qr,qC,argsφ]
 have uu:=trivial
 have tT:=(noTabs_ok:SsOk Tryz.prog noTabs)
 refine nz ?_
 refine rg tT [1] ?_
 refine rg tT [2] ?_
 refine lf ?_
 congr 2;rw[Bool.eq_iff_iff];simp
def fnoneG:List D→Option (Bool×D)
 | [.agg [.x (.str hd),.x (.sl M),.x (.str t)]]=>(unrows rStr M).bind fun m=>some (true,.x (.bool (noneB hd m t)))
 |_=>none
theorem fnoneG_ok: ∀args r,fnoneG args=some (true,r)→PCalls Tryz.prog 121 args r:=by
 intro args r h
 unfold fnoneG at h
 split at h
 ·rename_i hd M t
  obtain⟨m,hr0,h⟩:=ξB h
  simp only[ξI,ξP,ξa,ξe,true_and]at h
  obtain rfl:=h
  rw[←rows_unrows good_rStr hr0]
  exact(fnone_c hd m t)
 ·cases h
def tabFxA:Tabs:=addQ (noTabs) 129 contG
theorem tabFxA_ok:SsOk Tryz.prog tabFxA:=addQ_ok (noTabs_ok) cont_enters contG_ok
theorem tabFxA_q129 (a:List D):tabFxA.q 129 a=contG a:=rfl
theorem tabFxA_r (f:FuncId) (a:List D) (o:List Ob):tabFxA.r f a o=none:=rfl
theorem tabFxA_k (f:FuncId) (a:List D) (o:List Ob):tabFxA.k f a o=none:=rfl
theorem fparts_c (h:Txt) (m:List Txt) (t:Txt):PCalls Tryz.prog 122 [.agg [.x (.str h),.x (.sl (rows rStr m)),.x (.str t)]] (.x (.bool (partsB h m t))):=by
 unfold partsB
 refine PCalls.wfA (fun hw=> ?_)
 have hl:m.length≤maxLen:=by have:=(hw 0 1 _ rfl).1;rwa [rows_len]at this
 clear hw
 simp only[maxLen]at hl
 refine FCalls.pure (fcallsG (fz:=true) G_ok (p:=i122) rfl _ (ξ rfl) _ (fun C0 E0=> ?_)) rfl
 dsimp only[i122,qt,qi,qs,qb,qm,qa,qh,qj,qT,qF,qe,ql,qL,qf,q2,q3,q8,qz,qp,qP,qc,qk,qx,qy,qo,qr,qC,argsφ]
 have uu:=ξn @contG.eq_1 (ξn @contG.eq_2 (ξn @un_T (ξn @tabFxA_r (ξn @tabFxA_k (@tabFxA_q129)))))
 have tT:=tabFxA_ok
 refine nz ?_
 refine WI.regB tT [1] ?_
 refine oG ?_
 refine oS ?_
 refine oN ?_
 refine nz ?_
 refine WI.regB tT [2] ?_
 refine oS ?_
 iterate 3 refine oG (hok:=by first|exact se|(by_cases hm:m.length≤16<;>by_cases h1:h= []<;>by_cases h2:t= []<;>by_cases h3: []∈m<;>simp[hm,h1,h2,h3]<;>omega)|exact sd) ?_
 refine oS ?_
 iterate 2 refine oG (hok:=by first|exact se|(by_cases hm:m.length≤16<;>by_cases h1:h= []<;>by_cases h2:t= []<;>by_cases h3: []∈m<;>simp[hm,h1,h2,h3]<;>omega)|exact sd) ?_
 refine oC (hok:=by first|exact se|(by_cases hm:m.length≤16<;>by_cases h1:h= []<;>by_cases h2:t= []<;>by_cases h3: []∈m<;>simp[hm,h1,h2,h3]<;>omega)|exact sd) ?_
 iterate 2 refine oG (hok:=by first|exact se|(by_cases hm:m.length≤16<;>by_cases h1:h= []<;>by_cases h2:t= []<;>by_cases h3: []∈m<;>simp[hm,h1,h2,h3]<;>omega)|exact sd) ?_
 refine oS ?_
 iterate 15 refine oG (hok:=by first|exact se|(by_cases hm:m.length≤16<;>by_cases h1:h= []<;>by_cases h2:t= []<;>by_cases h3: []∈m<;>simp[hm,h1,h2,h3]<;>omega)|exact sd) ?_
 refine oS ?_
 refine oN ?_
 refine nz ?_
 refine lf ?_
 congr 2;rw[Bool.eq_iff_iff];by_cases h1:m.length≤16<;>by_cases h2: []∈m<;>by_cases h3:h= []<;>by_cases h4:t= []<;>by_cases h5:m= []<;>simp[h1,h2,h3,h4,h5,List.length_pos_iff]<;>first|omega
def fpartsG:List D→Option (Bool×D)
 | [.agg [.x (.str hd),.x (.sl M),.x (.str t)]]=>(unrows rStr M).bind fun m=>some (true,.x (.bool (partsB hd m t)))
 |_=>none
theorem fpartsG_ok: ∀args r,fpartsG args=some (true,r)→PCalls Tryz.prog 122 args r:=by
 intro args r h
 unfold fpartsG at h
 split at h
 ·rename_i hd M t
  obtain⟨m,hr0,h⟩:=ξB h
  simp only[ξI,ξP,ξa,ξe,true_and]at h
  obtain rfl:=h
  rw[←rows_unrows good_rStr hr0]
  exact(fparts_c hd m t)
 ·cases h
def fitsB (k:Int) (a v h:Txt) (m:List Txt) (t:Txt) (n:Nat):Bool:=
 if k=0∨k=1∨k=2 then decide (a= [])&&decide (v= [])&&noneB h m t&&(decide (k≠2)||decide (n=1))
 else if k=4 then decide (n=0)&&decide (v= [])&&partsB h m t
 else if k=7 then decide (n=0)&&decide (v= [])&&noneB h m t
 else decide (n=0)&&noneB h m t
def tabFxB:Tabs:=addQ (addQ (noTabs) 121 fnoneG) 122 fpartsG
theorem tabFxB_ok:SsOk Tryz.prog tabFxB:=addQ_ok (addQ_ok (noTabs_ok) (G_enters G_ok (p:=i121) rfl) fnoneG_ok) (G_enters G_ok (p:=i122) rfl) fpartsG_ok
theorem tabFxB_q121 (a:List D):tabFxB.q 121 a=fnoneG a:=rfl
theorem tabFxB_q122 (a:List D):tabFxB.q 122 a=fpartsG a:=rfl
theorem tabFxB_r (f:FuncId) (a:List D) (o:List Ob):tabFxB.r f a o=none:=rfl
theorem tabFxB_k (f:FuncId) (a:List D) (o:List Ob):tabFxB.k f a o=none:=rfl
theorem fits_c (k:Int) (a v h:Txt) (m:List Txt) (t:Txt) (l:List Flt):PCalls Tryz.prog 105 [.agg [.x (.int .i64 k),.x (.str a),.x (.str v),.x (.str h),.x (.sl (rows rStr m)),.x (.str t),.x (.sl (rows rFlt l))]] (.x (.bool (fitsB k a v h m t l.length))):=by
 unfold fitsB
 refine FCalls.pure (fcallsG (fz:=true) G_ok (p:=i105) rfl _ (ξ rfl) _ (fun C0 E0=> ?_)) rfl
 dsimp only[i105,qt,qi,qs,qb,qm,qa,qh,qj,qT,qF,qe,ql,qL,qf,q2,q3,q8,qz,qp,qP,qc,qk,qx,qy,qo,qr,qC,argsφ]
 have uu:=ξn @fnoneG.eq_1 (ξn @fnoneG.eq_2 (ξn @fpartsG.eq_1 (ξn @fpartsG.eq_2 (ξn @un_T (ξn @tabFxB_r (ξn @tabFxB_k (ξn @tabFxB_q121 (@tabFxB_q122))))))))
 have tT:=tabFxB_ok
 refine nz ?_
 obtain rfl|rfl|rfl|rfl|rfl|hk:k=0∨k=1∨k=2∨k=4∨k=7∨(k≠0∧k≠1∧k≠2∧k≠4∧k≠7):=by omega
 ·refine WI.regB tT [1] ?_
  refine oG ?_
  refine oS ?_
  refine oN ?_
  refine nz ?_
  refine WI.regB tT [1,4] ?_
  refine oS ?_
  refine oG (hok:=by first|exact se|(by_cases h1:a= []<;>by_cases h2:v= []<;>cases h3:noneB h m t<;>simp[h1,h2])|exact sd) ?_
  refine oN ?_
  refine nz ?_
  refine WI.regB tT [1,4,5] ?_
  refine oG (hok:=by first|exact se|(by_cases h1:a= []<;>by_cases h2:v= []<;>cases h3:noneB h m t<;>simp[h1,h2])|exact sd) ?_
  refine oS ?_
  refine oN ?_
  refine nz ?_
  refine ct (fun h0=> ?_) (fun h0=> ?_)
  ·refine ct (fun h2=> ?_) (fun h2=> ?_)
   ·refine WI.regB tT [2] ?_
    refine oS ?_
    iterate 2 refine oG (hok:=by first|exact se|(by_cases h1:a= []<;>by_cases h2:v= []<;>cases h3:noneB h m t<;>simp[h1,h2])|exact sd) ?_
    refine oS ?_
    iterate 4 refine oG (hok:=by first|exact se|(by_cases h1:a= []<;>by_cases h2:v= []<;>cases h3:noneB h m t<;>simp[h1,h2])|exact sd) ?_
    refine oS ?_
    iterate 2 refine oG (hok:=by first|exact se|(by_cases h1:a= []<;>by_cases h2:v= []<;>cases h3:noneB h m t<;>simp[h1,h2])|exact sd) ?_
    refine oC (hok:=by first|exact se|(by_cases h1:a= []<;>by_cases h2:v= []<;>cases h3:noneB h m t<;>simp[h1,h2])|exact sd) ?_
    refine oG (hok:=by first|exact se|(by_cases h1:a= []<;>by_cases h2:v= []<;>cases h3:noneB h m t<;>simp[h1,h2])|exact sd) ?_
    refine oS ?_
    iterate 10 refine oG (hok:=by first|exact se|(by_cases h1:a= []<;>by_cases h2:v= []<;>cases h3:noneB h m t<;>simp[h1,h2])|exact sd) ?_
    refine oS ?_
    refine oN ?_
    refine nz ?_
    refine lf ?_
    congr 2;rw[Bool.eq_iff_iff];simp_all<;>(intros;omega)
   ·simp at h2
  ·simp at h0
 ·refine WI.regB tT [1] ?_
  refine oG ?_
  refine oS ?_
  refine oN ?_
  refine nz ?_
  refine WI.regB tT [1,4] ?_
  refine oS ?_
  refine oG (hok:=by first|exact se|(by_cases h1:a= []<;>by_cases h2:v= []<;>cases h3:noneB h m t<;>simp[h1,h2])|exact sd) ?_
  refine oN ?_
  refine nz ?_
  refine WI.regB tT [1,4,5] ?_
  refine oG (hok:=by first|exact se|(by_cases h1:a= []<;>by_cases h2:v= []<;>cases h3:noneB h m t<;>simp[h1,h2])|exact sd) ?_
  refine oS ?_
  refine oN ?_
  refine nz ?_
  refine ce (fun h0=> ?_) (fun h0=> ?_)
  ·simp at h0
  ·refine WI.regB tT [1,4,5] ?_
   refine oG (hok:=by first|exact se|(by_cases h1:a= []<;>by_cases h2:v= []<;>cases h3:noneB h m t<;>simp[h1,h2])|exact sd) ?_
   refine oS ?_
   refine oN ?_
   refine nz ?_
   refine ct (fun h1=> ?_) (fun h1=> ?_)
   ·refine ct (fun h2=> ?_) (fun h2=> ?_)
    ·refine WI.regB tT [2] ?_
     refine oS ?_
     iterate 2 refine oG (hok:=by first|exact se|(by_cases h1:a= []<;>by_cases h2:v= []<;>cases h3:noneB h m t<;>simp[h1,h2])|exact sd) ?_
     refine oS ?_
     iterate 4 refine oG (hok:=by first|exact se|(by_cases h1:a= []<;>by_cases h2:v= []<;>cases h3:noneB h m t<;>simp[h1,h2])|exact sd) ?_
     refine oS ?_
     iterate 2 refine oG (hok:=by first|exact se|(by_cases h1:a= []<;>by_cases h2:v= []<;>cases h3:noneB h m t<;>simp[h1,h2])|exact sd) ?_
     refine oC (hok:=by first|exact se|(by_cases h1:a= []<;>by_cases h2:v= []<;>cases h3:noneB h m t<;>simp[h1,h2])|exact sd) ?_
     refine oG (hok:=by first|exact se|(by_cases h1:a= []<;>by_cases h2:v= []<;>cases h3:noneB h m t<;>simp[h1,h2])|exact sd) ?_
     refine oS ?_
     iterate 10 refine oG (hok:=by first|exact se|(by_cases h1:a= []<;>by_cases h2:v= []<;>cases h3:noneB h m t<;>simp[h1,h2])|exact sd) ?_
     refine oS ?_
     refine oN ?_
     refine nz ?_
     refine lf ?_
     congr 2;rw[Bool.eq_iff_iff];simp_all<;>(intros;omega)
    ·simp at h2
   ·simp at h1
 ·refine WI.regB tT [1] ?_
  refine oG ?_
  refine oS ?_
  refine oN ?_
  refine nz ?_
  refine WI.regB tT [1,4] ?_
  refine oS ?_
  refine oG (hok:=by first|exact se|(by_cases h1:a= []<;>by_cases h2:v= []<;>cases h3:noneB h m t<;>simp[h1,h2])|exact sd) ?_
  refine oN ?_
  refine nz ?_
  refine WI.regB tT [1,4,5] ?_
  refine oG (hok:=by first|exact se|(by_cases h1:a= []<;>by_cases h2:v= []<;>cases h3:noneB h m t<;>simp[h1,h2])|exact sd) ?_
  refine oS ?_
  refine oN ?_
  refine nz ?_
  refine ce (fun h0=> ?_) (fun h0=> ?_)
  ·simp at h0
  ·refine WI.regB tT [1,4,5] ?_
   refine oG (hok:=by first|exact se|(by_cases h1:a= []<;>by_cases h2:v= []<;>cases h3:noneB h m t<;>simp[h1,h2])|exact sd) ?_
   refine oS ?_
   refine oN ?_
   refine nz ?_
   refine ce (fun h1=> ?_) (fun h1=> ?_)
   ·simp at h1
   ·refine WI.regB tT [1,4,5] ?_
    refine oG (hok:=by first|exact se|(by_cases h1:a= []<;>by_cases h2:v= []<;>cases h3:noneB h m t<;>simp[h1,h2])|exact sd) ?_
    refine oS ?_
    refine oN ?_
    refine nz ?_
    refine ct (fun h2=> ?_) (fun h2=> ?_)
    ·refine WI.regB tT [2] ?_
     refine oS ?_
     iterate 2 refine oG (hok:=by first|exact se|(by_cases h1:a= []<;>by_cases h2:v= []<;>cases h3:noneB h m t<;>simp[h1,h2])|exact sd) ?_
     refine oS ?_
     iterate 4 refine oG (hok:=by first|exact se|(by_cases h1:a= []<;>by_cases h2:v= []<;>cases h3:noneB h m t<;>simp[h1,h2])|exact sd) ?_
     refine oS ?_
     iterate 2 refine oG (hok:=by first|exact se|(by_cases h1:a= []<;>by_cases h2:v= []<;>cases h3:noneB h m t<;>simp[h1,h2])|exact sd) ?_
     refine oC (hok:=by first|exact se|(by_cases h1:a= []<;>by_cases h2:v= []<;>cases h3:noneB h m t<;>simp[h1,h2])|exact sd) ?_
     refine oG (hok:=by first|exact se|(by_cases h1:a= []<;>by_cases h2:v= []<;>cases h3:noneB h m t<;>simp[h1,h2])|exact sd) ?_
     refine oS ?_
     iterate 10 refine oG (hok:=by first|exact se|(by_cases h1:a= []<;>by_cases h2:v= []<;>cases h3:noneB h m t<;>simp[h1,h2])|exact sd) ?_
     refine oS ?_
     refine oN ?_
     refine nz ?_
     refine lf ?_
     congr 2;rw[Bool.eq_iff_iff];simp_all<;>(intros;omega)
    ·simp at h2
 ·refine WI.regB tT [1] ?_
  refine oG ?_
  refine oS ?_
  refine oN ?_
  refine nz ?_
  refine WI.regB tT [1,4] ?_
  refine oS ?_
  refine oG (hok:=by first|exact se|(by_cases h1:a= []<;>by_cases h2:v= []<;>cases h3:noneB h m t<;>simp[h1,h2])|exact sd) ?_
  refine oN ?_
  refine nz ?_
  refine WI.regB tT [1,4,5] ?_
  refine oG (hok:=by first|exact se|(by_cases h1:a= []<;>by_cases h2:v= []<;>cases h3:noneB h m t<;>simp[h1,h2])|exact sd) ?_
  refine oS ?_
  refine oN ?_
  refine nz ?_
  refine ce (fun h0=> ?_) (fun h0=> ?_)
  ·simp at h0
  ·refine WI.regB tT [1,4,5] ?_
   refine oG (hok:=by first|exact se|(by_cases h1:a= []<;>by_cases h2:v= []<;>cases h3:noneB h m t<;>simp[h1,h2])|exact sd) ?_
   refine oS ?_
   refine oN ?_
   refine nz ?_
   refine ce (fun h1=> ?_) (fun h1=> ?_)
   ·simp at h1
   ·refine WI.regB tT [1,4,5] ?_
    refine oG (hok:=by first|exact se|(by_cases h1:a= []<;>by_cases h2:v= []<;>cases h3:noneB h m t<;>simp[h1,h2])|exact sd) ?_
    refine oS ?_
    refine oN ?_
    refine nz ?_
    refine ce (fun h2=> ?_) (fun h2=> ?_)
    ·simp at h2
    ·refine WI.regB tT [1,4,33] ?_
     refine oG (hok:=by first|exact se|(by_cases h1:a= []<;>by_cases h2:v= []<;>cases h3:noneB h m t<;>simp[h1,h2])|exact sd) ?_
     refine oS ?_
     refine oN ?_
     refine nz ?_
     refine ct (fun h3=> ?_) (fun h3=> ?_)
     ·refine WI.regB tT [2] ?_
      refine oS ?_
      iterate 3 refine oG (hok:=by first|exact se|(by_cases h1:a= []<;>by_cases h2:v= []<;>cases h3:noneB h m t<;>simp[h1,h2])|exact sd) ?_
      refine oS ?_
      iterate 4 refine oG (hok:=by first|exact se|(by_cases h1:a= []<;>by_cases h2:v= []<;>cases h3:noneB h m t<;>simp[h1,h2])|exact sd) ?_
      refine oS ?_
      iterate 2 refine oG (hok:=by first|exact se|(by_cases h1:a= []<;>by_cases h2:v= []<;>cases h3:noneB h m t<;>simp[h1,h2])|exact sd) ?_
      refine oC (hok:=by first|exact se|(by_cases h1:a= []<;>by_cases h2:v= []<;>cases h3:noneB h m t<;>simp[h1,h2])|exact sd) ?_
      refine oG (hok:=by first|exact se|(by_cases h1:a= []<;>by_cases h2:v= []<;>cases h3:noneB h m t<;>simp[h1,h2])|exact sd) ?_
      refine oS ?_
      refine oN ?_
      refine nz ?_
      refine lf ?_
      congr 2;rw[Bool.eq_iff_iff];simp_all<;>(intros;omega)
     ·simp at h3
 ·refine WI.regB tT [1] ?_
  refine oG ?_
  refine oS ?_
  refine oN ?_
  refine nz ?_
  refine WI.regB tT [1,4] ?_
  refine oS ?_
  refine oG (hok:=by first|exact se|(by_cases h1:a= []<;>by_cases h2:v= []<;>cases h3:noneB h m t<;>simp[h1,h2])|exact sd) ?_
  refine oN ?_
  refine nz ?_
  refine WI.regB tT [1,4,5] ?_
  refine oG (hok:=by first|exact se|(by_cases h1:a= []<;>by_cases h2:v= []<;>cases h3:noneB h m t<;>simp[h1,h2])|exact sd) ?_
  refine oS ?_
  refine oN ?_
  refine nz ?_
  refine ce (fun h0=> ?_) (fun h0=> ?_)
  ·simp at h0
  ·refine WI.regB tT [1,4,5] ?_
   refine oG (hok:=by first|exact se|(by_cases h1:a= []<;>by_cases h2:v= []<;>cases h3:noneB h m t<;>simp[h1,h2])|exact sd) ?_
   refine oS ?_
   refine oN ?_
   refine nz ?_
   refine ce (fun h1=> ?_) (fun h1=> ?_)
   ·simp at h1
   ·refine WI.regB tT [1,4,5] ?_
    refine oG (hok:=by first|exact se|(by_cases h1:a= []<;>by_cases h2:v= []<;>cases h3:noneB h m t<;>simp[h1,h2])|exact sd) ?_
    refine oS ?_
    refine oN ?_
    refine nz ?_
    refine ce (fun h2=> ?_) (fun h2=> ?_)
    ·simp at h2
    ·refine WI.regB tT [1,4,33] ?_
     refine oG (hok:=by first|exact se|(by_cases h1:a= []<;>by_cases h2:v= []<;>cases h3:noneB h m t<;>simp[h1,h2])|exact sd) ?_
     refine oS ?_
     refine oN ?_
     refine nz ?_
     refine ce (fun h3=> ?_) (fun h3=> ?_)
     ·simp at h3
     ·refine WI.regB tT [1,49] ?_
      refine oG (hok:=by first|exact se|(by_cases h1:a= []<;>by_cases h2:v= []<;>cases h3:noneB h m t<;>simp[h1,h2])|exact sd) ?_
      refine oS ?_
      refine oN ?_
      refine nz ?_
      refine ct (fun h4=> ?_) (fun h4=> ?_)
      ·refine WI.regB tT [2] ?_
       refine oS ?_
       iterate 3 refine oG (hok:=by first|exact se|(by_cases h1:a= []<;>by_cases h2:v= []<;>cases h3:noneB h m t<;>simp[h1,h2])|exact sd) ?_
       refine oS ?_
       iterate 4 refine oG (hok:=by first|exact se|(by_cases h1:a= []<;>by_cases h2:v= []<;>cases h3:noneB h m t<;>simp[h1,h2])|exact sd) ?_
       refine oS ?_
       iterate 2 refine oG (hok:=by first|exact se|(by_cases h1:a= []<;>by_cases h2:v= []<;>cases h3:noneB h m t<;>simp[h1,h2])|exact sd) ?_
       refine oC (hok:=by first|exact se|(by_cases h1:a= []<;>by_cases h2:v= []<;>cases h3:noneB h m t<;>simp[h1,h2])|exact sd) ?_
       refine oG (hok:=by first|exact se|(by_cases h1:a= []<;>by_cases h2:v= []<;>cases h3:noneB h m t<;>simp[h1,h2])|exact sd) ?_
       refine oS ?_
       refine oN ?_
       refine nz ?_
       refine lf ?_
       congr 2;rw[Bool.eq_iff_iff];simp_all<;>(intros;omega)
      ·simp at h4
 ·refine WI.regB tT [1] ?_
  refine oG ?_
  refine oS ?_
  refine oN ?_
  refine nz ?_
  refine WI.regB tT [1,4] ?_
  refine oS ?_
  refine oG (hok:=by first|exact se|(by_cases h1:a= []<;>by_cases h2:v= []<;>cases h3:noneB h m t<;>simp[h1,h2])|exact sd) ?_
  refine oN ?_
  refine nz ?_
  refine WI.regB tT [1,4,5] ?_
  refine oG (hok:=by first|exact se|(by_cases h1:a= []<;>by_cases h2:v= []<;>cases h3:noneB h m t<;>simp[h1,h2])|exact sd) ?_
  refine oS ?_
  refine oN ?_
  refine nz ?_
  refine ce (fun h0=> ?_) (fun h0=> ?_)
  ·simp at h0;omega
  ·refine WI.regB tT [1,4,5] ?_
   refine oG (hok:=by first|exact se|(by_cases h1:a= []<;>by_cases h2:v= []<;>cases h3:noneB h m t<;>simp[h1,h2])|exact sd) ?_
   refine oS ?_
   refine oN ?_
   refine nz ?_
   refine ce (fun h1=> ?_) (fun h1=> ?_)
   ·simp at h1;omega
   ·refine WI.regB tT [1,4,5] ?_
    refine oG (hok:=by first|exact se|(by_cases h1:a= []<;>by_cases h2:v= []<;>cases h3:noneB h m t<;>simp[h1,h2])|exact sd) ?_
    refine oS ?_
    refine oN ?_
    refine nz ?_
    refine ce (fun h2=> ?_) (fun h2=> ?_)
    ·simp at h2;omega
    ·refine WI.regB tT [1,4,33] ?_
     refine oG (hok:=by first|exact se|(by_cases h1:a= []<;>by_cases h2:v= []<;>cases h3:noneB h m t<;>simp[h1,h2])|exact sd) ?_
     refine oS ?_
     refine oN ?_
     refine nz ?_
     refine ce (fun h3=> ?_) (fun h3=> ?_)
     ·simp at h3;omega
     ·refine WI.regB tT [1,49] ?_
      refine oG (hok:=by first|exact se|(by_cases h1:a= []<;>by_cases h2:v= []<;>cases h3:noneB h m t<;>simp[h1,h2])|exact sd) ?_
      refine oS ?_
      refine oN ?_
      refine nz ?_
      refine ce (fun h4=> ?_) (fun h4=> ?_)
      ·simp at h4;omega
      ·refine WI.regB tT [2] ?_
       refine oS ?_
       iterate 3 refine oG (hok:=by first|exact se|(by_cases h1:a= []<;>by_cases h2:v= []<;>cases h3:noneB h m t<;>simp[h1,h2])|exact sd) ?_
       refine oS ?_
       iterate 2 refine oG (hok:=by first|exact se|(by_cases h1:a= []<;>by_cases h2:v= []<;>cases h3:noneB h m t<;>simp[h1,h2])|exact sd) ?_
       refine oC (hok:=by first|exact se|(by_cases h1:a= []<;>by_cases h2:v= []<;>cases h3:noneB h m t<;>simp[h1,h2])|exact sd) ?_
       refine oG (hok:=by first|exact se|(by_cases h1:a= []<;>by_cases h2:v= []<;>cases h3:noneB h m t<;>simp[h1,h2])|exact sd) ?_
       refine oS ?_
       refine oN ?_
       refine nz ?_
       refine lf ?_
       congr 2;rw[Bool.eq_iff_iff];simp_all<;>(intros;omega)
theorem textsL_c (h:Txt) (m:List Txt) (t:Txt) (hm:m.length≤1000000):MCalls Tryz.prog 107 [.agg [.x (.str h),.x (.sl (rows rStr m)),.x (.str t)]] [] (.ref 0 (m.length+2) 0 (m.length+2)) [.rows false 9 1 (rows rStr (h::t::m))]:=by
 refine FCalls.mcalls (fcallsG (fz:=false) G_ok (p:=i107) rfl _ (ξ rfl) _ (fun C0 E0=> ?_))
 dsimp only[i107,qt,qi,qs,qb,qm,qa,qh,qj,qT,qF,qe,ql,qL,qf,q2,q3,q8,qz,qp,qP,qc,qk,qx,qy,qo,qr,qC,argsφ]
 have uu:=trivial
 have tT:=(noTabs_ok:SsOk Tryz.prog noTabs)
 refine nz ?_
 refine rg tT [1] ?_
 refine rg tT [2] ?_
 refine WI.pickA [1] ?_
 refine lf ?_
 rw[Nat.add_comm 2];exact ξn rfl rfl
def textsLK:List D→List Ob→Option (Bool×D×Ob)
 | [.agg [.x (.str h),.x (.sl M),.x (.str t)]],[]=>(unrows rStr M).bind fun m=>some (decide (m.length≤1000000),.ref 0 (m.length+2) 0 (m.length+2),.rows false 9 1 (rows rStr (h::t::m)))
 |_,_=>none
theorem textsLK_ok: ∀args os r ob,textsLK args os=some (true,r,ob)→(∃fz e sz rs,ob= .rows fz e sz rs)∧MCalls Tryz.prog 107 args os r (os++ [ob]):=by
 intro args os r ob h
 unfold textsLK at h
 split at h
 ·obtain⟨m,hr,h⟩:=ξB h
  simp only[ξI,ξP,ξe]at h
  obtain⟨h1,rfl,rfl⟩:=h
  rw[←rows_unrows good_rStr hr]
  exact⟨⟨_,_,_,_,rfl⟩,textsL_c _ _ _ h1⟩
 ·cases h
def fitsG:List D→Option (Bool×D)
 | [.agg [.x (.int .i64 k),.x (.str a),.x (.str v),.x (.str hd),.x (.sl M),.x (.str t),.x (.sl L)]]=>(unrows rStr M).bind fun m=>(unrows rFlt L).bind fun l=>some (true,.x (.bool (fitsB k a v hd m t l.length)))
 |_=>none
theorem fitsG_ok: ∀args r,fitsG args=some (true,r)→PCalls Tryz.prog 105 args r:=by
 intro args r h
 unfold fitsG at h
 split at h
 ·rename_i k a v hd M t L
  obtain⟨m,hr0,h⟩:=ξB h
  obtain⟨l,hr1,h⟩:=ξB h
  simp only[ξI,ξP,ξa,ξe,true_and]at h
  obtain rfl:=h
  rw[←rows_unrows good_rStr hr0]
  rw[←rows_unrows good_rFlt hr1]
  exact(fits_c k a v hd m t l)
 ·cases h
def tabFxC:Tabs:=addK (addQ (addQ (noTabs) 105 fitsG) 106 typedG) 107 textsLK
theorem tabFxC_ok:SsOk Tryz.prog tabFxC:=addK_ok (addQ_ok (addQ_ok (noTabs_ok) (G_enters G_ok (p:=i105) rfl) fitsG_ok) (G_enters G_ok (p:=i106) rfl) typedG_ok) (G_enters G_ok (p:=i107) rfl) textsLK_ok
theorem tabFxC_q105 (a:List D):tabFxC.q 105 a=fitsG a:=rfl
theorem tabFxC_q106 (a:List D):tabFxC.q 106 a=typedG a:=rfl
theorem tabFxC_q107 (a:List D):tabFxC.q 107 a=none:=rfl
theorem tabFxC_t107 (a:List D) (o:List Ob):tabFxC.t 107 a o=liftT (fun args os=>(textsLK args os).map fun q=>(q.1,q.2.1,os++ [q.2.2])) a o:=rfl
theorem tabFxC_k107 (a:List D) (o:List Ob):tabFxC.k 107 a o=newT textsLK a o:=rfl
theorem tabFxC_r (f:FuncId) (a:List D) (o:List Ob):tabFxC.r f a o=none:=rfl
def lensB (v h t:Txt) (m:List Txt):Prop:= ∃s∈(h::t::m)++ [v],s.length>1024
instance (v h t:Txt) (m:List Txt):Decidable (lensB v h t m):=by unfold lensB;infer_instance
def oneF (k:Int) (a v h:Txt) (m:List Txt) (t:Txt) (n:Nat):Int:=
 if k<0∨k>8 then 1 else if n>64 then 3 else if fitsB k a v h m t n=false then 5 else if k>2∧typB a=false then 13 else if lensB v h t m then 3 else 0
theorem rows_snocB (l:List Txt) (x:Txt):rows rStr l++ [[X.str x]]=rows rStr (l++ [x]):=by simp[rows,rStr]
theorem fits_m (k:Int) (a v h:Txt) (m:List Txt) (t:Txt) (n:Nat) (e:fitsB k a v h m t n=true):m.length≤16:=by
 unfold fitsB noneB partsB at e
 split at e
 ·simp at e;have:=e.1.2.2;simp[this]
 ·split at e
  ·simp at e;omega
  ·split at e
   ·simp at e;simp[e.2.2]
   ·simp at e;simp[e.2.2]
theorem one_c (k:Int) (a v h:Txt) (m:List Txt) (t:Txt) (l:List Flt) (ha:a.length≤1000000):PCalls Tryz.prog 92 [.agg [.x (.int .i64 k),.x (.str a),.x (.str v),.x (.str h),.x (.sl (rows rStr m)),.x (.str t),.x (.sl (rows rFlt l))]] (.x (.int .i64 (oneF k a v h m t l.length))):=by
 unfold oneF
 refine FCalls.pure (fcallsG (fz:=true) G_ok (p:=i92) rfl _ (ξ rfl) _ (fun C0 E0=> ?_)) rfl
 dsimp only[i92,qt,qi,qs,qb,qm,qa,qh,qj,qT,qF,qe,ql,qL,qf,q2,q3,q8,qz,qp,qP,qc,qk,qx,qy,qo,qr,qC,argsφ]
 have uu:=ξn @fitsG.eq_1 (ξn @fitsG.eq_2 (ξn @typedG.eq_1 (ξn @typedG.eq_2 (ξn @un_T (ξn @un_F (ξn @textsLK.eq_1 (ξn @textsLK.eq_2 (ξn @tabFxC_r (ξn @tabFxC_k107 (ξn @tabFxC_q105 (ξn @tabFxC_q106 (ξn @tabFxC_q107 (@tabFxC_t107)))))))))))))
 have tT:=tabFxC_ok
 refine nz ?_
 refine rg tT [1] ?_
 refine rg tT [1,5] ?_
 refine cd (fun h0=> ?_) (fun h0=> ?_)
 ·refine rg tT [2] ?_
  refine lf ?_
  clear uu;congr 2;grind
 ·refine rg tT [1,14] ?_
  refine cd (fun h1=> ?_) (fun h1=> ?_)
  ·refine rg tT [2] ?_
   refine lf ?_
   clear uu;congr 2;grind
  ·refine rg tT [1,19] ?_
   refine cd (fun h2=> ?_) (fun h2=> ?_)
   ·refine rg tT [2] ?_
    refine lf ?_
    clear uu;congr 2;grind
   ·have hm16:=fits_m k a v h m t l.length (by simpa using h2)
    refine rg tT [1,23] ?_
    refine cd (fun h3=> ?_) (fun h3=> ?_)
    ·refine rg tT [2] ?_
     refine lf ?_
     clear uu;congr 2;grind
    ·refine WI.post ?_
     refine WI.dregB tT [39,40,41] ?_
     refine dFS ?_
     refine dQG (hok:=by first|exact se|(exact ξt (by omega))|(simp[rows];done)|exact sd) ?_
     refine dKC (hok:=by first|exact se|(exact ξt (by omega))|(simp[rows];done)|exact sd) ?_
     refine dFS ?_
     refine dQG (hok:=by first|exact se|(exact ξt (by omega))|(simp[rows];done)|exact sd) ?_
     refine dKG (hok:=by first|exact se|(exact ξt (by omega))|(simp[rows];done)|exact sd) ?_
     iterate 2 refine dAG (hok:=by first|exact se|(exact ξt (by omega))|(simp[rows];done)|exact sd) ?_
     refine dFS ?_
     refine dP ?_
     refine pPick [0,1] ?_
     refine pEnd ?_
     refine nz ?_
     rw[rows_snocB,show m.length+2+1=(h::t::m++ [v]).length by simp]
     have hL:lensB v h t m↔ ∃s∈(h::t::m++ [v]),s.length>1024:=Iff.rfl
     have hql:(h::t::m++ [v]).length≤100:=by simp;omega
     generalize h::t::m++ [v]=q at hL hql⊢
     refine WI.loop (fun φ os=> ∃(j:Nat),φ= [(39,.ref 1 q.length 0 q.length),(40,.x (.int .i64 q.length)),(41,.x (.int .i64 j))]∧os= [.box [.x (.int .i64 k),.x (.str a),.x (.str v),.x (.str h),.x (.sl (rows rStr m)),.x (.str t),.x (.sl (rows rFlt l))],.rows false 9 1 (rows rStr q)]∧j≤q.length∧(∀s∈q.take j,¬s.length>1024)) (down q.length 41) ?_ (fun φ os hI=> ?_)
     ·exact⟨0,rfl,rfl,by omega,by simp⟩
     ·obtain⟨j,rfl,rfl,hj,hall⟩:=hI
      refine nz ?_
      refine rg tT [39,40,41,42] ?_
      refine cd (fun h4=> ?_) (fun h4=> ?_)
      ·have hj4:j<q.length:=by omega
       refine rg tT [4,39,40,41] ?_
       refine rg tT [39,40,41,47] ?_
       refine cd (fun h5=> ?_) (fun h5=> ?_)
       ·refine rg tT [2] ?_
        refine lf ?_
        have hy:lensB v h t m:=hL.2 ⟨q[j],List.getElem_mem hj4,by omega⟩
        clear uu;congr 2;grind
       ·refine rg tT [39,40,41] ?_
        exact⟨⟨j+1,rfl,rfl,by omega,by rw[List.take_succ_eq_append_getElem hj4];intro s hs;rcases List.mem_append.1 hs with hs|hs;exact hall s hs;rw[List.mem_singleton]at hs;subst hs;omega⟩,by simp[down,Ab.get,D.val,intOf?];omega⟩
      ·refine rg tT [2] ?_
       refine lf ?_
       have hy: ¬lensB v h t m:=fun hh=>by obtain⟨s,h1,h2⟩:=hL.1 hh;exact hall s (by rw[ξT (by omega)];exact h1) h2
       clear uu;congr 2;grind
mutual
def smF:Flt→Prop
 | .mk _ a _ _ _ _ l=>a.length≤900000∧smFL l
def smFL:List Flt→Prop
 | []=>True
 |f::l=>smF f∧smFL l
end
theorem smFL_get: ∀(l:List Flt) (i:Nat) (h:i<l.length),smFL l→smF l[i]
 |f::l,0,_,h=>by rw[smFL]at h;exact h.1
 |f::l,i+1,hi,h=>by rw[smFL]at h;exact smFL_get l i (by simpa using hi) h.2
mutual
instance smF_dec: ∀f:Flt,Decidable (smF f)
 | .mk k a v h m t l=>by rw[smF];exact @instDecidableAnd _ _ _ (smFL_dec l)
instance smFL_dec: ∀l:List Flt,Decidable (smFL l)
 | []=>by rw[smFL];infer_instance
 |f::l=>by rw[smFL];exact @instDecidableAnd _ _ (smF_dec f) (smFL_dec l)
end
mutual
def allF:Flt→Int
 | .mk k a v h m t l=>if oneF k a v h m t l.length=0 then allFL l else oneF k a v h m t l.length
def allFL:List Flt→Int
 | []=>0
 |x::l=>if allF x=0 then allFL l else allF x
end
def oneG:List D→Option (Bool×D)
 | [.agg [.x (.int .i64 k),.x (.str a),.x (.str v),.x (.str hd),.x (.sl M),.x (.str t),.x (.sl L)]]=>(unrows rStr M).bind fun m=>(unrows rFlt L).bind fun l=>some (decide (a.length≤1000000),.x (.int .i64 (oneF k a v hd m t l.length)))
 |_=>none
theorem oneG_ok: ∀args r,oneG args=some (true,r)→PCalls Tryz.prog 92 args r:=by
 intro args r h
 unfold oneG at h
 split at h
 ·rename_i k a v hd M t L
  obtain⟨m,hr0,h⟩:=ξB h
  obtain⟨l,hr1,h⟩:=ξB h
  simp only[ξI,ξP,ξa,ξe,true_and]at h
  obtain⟨h1,rfl⟩:=h
  rw[←rows_unrows good_rStr hr0]
  rw[←rows_unrows good_rFlt hr1]
  exact(one_c k a v hd m t l h1)
 ·cases h
def allmG (N:Nat):List D→Option (Bool×D)
 | [.agg [.x (.int .i64 k),.x (.str a),.x (.str v),.x (.str hd),.x (.sl M),.x (.str t),.x (.sl L)]]=>(unrows rStr M).bind fun mm=>(unrows rFlt L).bind fun l=>some (decide (szF (.mk k a v hd mm t l)≤N∧smF (.mk k a v hd mm t l)),.x (.int .i64 (allF (.mk k a v hd mm t l))))
 |_=>none
theorem allmG_ok (N:Nat) (ih: ∀(f:Flt),szF f≤N∧smF f→PCalls Tryz.prog 68 [fltD f] (.x (.int .i64 (allF f)))): ∀args r,allmG N args=some (true,r)→PCalls Tryz.prog 68 args r:=by
 intro args r h
 unfold allmG at h
 split at h
 ·rename_i k a v hd M t L
  obtain⟨mm,hr0,h⟩:=ξB h
  obtain⟨l,hr1,h⟩:=ξB h
  simp only[ξI,ξP,ξa,ξe,true_and]at h
  obtain⟨h1,rfl⟩:=h
  rw[←rows_unrows good_rStr hr0]
  rw[←rows_unrows good_rFlt hr1]
  exact ih (.mk k a v hd mm t l) h1
 ·cases h
def tabFxD (g:List D→Option (Bool×D)):Tabs:=addQ (addQ (noTabs) 92 oneG) 68 g
theorem tabFxD_ok (g:List D→Option (Bool×D)) (hg: ∀args r,g args=some (true,r)→PCalls Tryz.prog 68 args r):SsOk Tryz.prog (tabFxD g):=addQ_ok (addQ_ok (noTabs_ok) (G_enters G_ok (p:=i92) rfl) oneG_ok) (G_enters G_ok (p:=i68) rfl) hg
theorem tabFxD_q92 (g:List D→Option (Bool×D)) (a:List D):(tabFxD g).q 92 a=oneG a:=rfl
theorem tabFxD_q68 (g:List D→Option (Bool×D)) (a:List D):(tabFxD g).q 68 a=g a:=rfl
theorem tabFxD_r (g:List D→Option (Bool×D)) (f:FuncId) (a:List D) (o:List Ob):(tabFxD g).r f a o=none:=rfl
theorem tabFxD_k (g:List D→Option (Bool×D)) (f:FuncId) (a:List D) (o:List Ob):(tabFxD g).k f a o=none:=rfl
theorem all_c: ∀(N:Nat) (f:Flt),szF f≤N∧smF f→PCalls Tryz.prog 68 [fltD f] (.x (.int .i64 (allF f)))
 |0,.mk k a v h mm t l,hs=>by have:=hs.1;simp only[szF]at this;omega
 |N+1,.mk k a v h mm t l,hs=>by
  have ih:=all_c N
  have hsz:szFL l≤N:=by have:=hs.1;simp only[szF]at this;omega
  have hsm:a.length≤900000∧smFL l:=by have:=hs.2;rwa [smF]at this
  have hal:=hsm.1
  clear hs
  refine PCalls.wfA (fun hw=> ?_)
  have hl:l.length≤maxLen:=by have:=(hw 0 6 _ rfl).1;rwa [rows_len]at this
  clear hw
  simp only[maxLen]at hl
  dsimp only[fltD]
  rw[allF]
  refine FCalls.pure (fcallsG (fz:=true) G_ok (p:=i68) rfl _ (ξ rfl) _ (fun C0 E0=> ?_)) rfl
  dsimp only[i68,qt,qi,qs,qb,qm,qa,qh,qj,qT,qF,qe,ql,qL,qf,q2,q3,q8,qz,qp,qP,qc,qk,qx,qy,qo,qr,qC,argsφ]
  have uu:=ξn @oneG.eq_1 (ξn @oneG.eq_2 (ξn @allmG.eq_1 (ξn @allmG.eq_2 (ξn @un_F (ξn @un_T (ξn @enc_rFlt (ξn @tabFxD_r (ξn @tabFxD_k (ξn @tabFxD_q68 (@tabFxD_q92))))))))))
  have tT:=(tabFxD_ok (allmG N) (allmG_ok N ih))
  refine nz ?_
  refine rg tT [1] ?_
  refine rg tT [1,3] ?_
  refine rg tT [1,3,10] ?_
  refine cd (fun h0=> ?_) (fun h0=> ?_)
  ·refine rg tT [2] ?_
   refine lf ?_
   clear uu;congr 2;grind
  ·refine rg tT [13,14,15] ?_
   refine WI.loop (fun φ os=> ∃(j:Nat),φ= [(13,.x (.sl (rows rFlt l))),(14,.x (.int .i64 l.length)),(15,.x (.int .i64 j))]∧os= [.box [.x (.int .i64 k),.x (.str a),.x (.str v),.x (.str h),.x (.sl (rows rStr mm)),.x (.str t),.x (.sl (rows rFlt l))]]∧j≤l.length∧allFL l=allFL (l.drop j)) (down l.length 15) ?_ (fun φ os hI=> ?_)
   ·exact⟨0,rfl,rfl,by omega,rfl⟩
   ·obtain⟨j,rfl,rfl,hj,hd⟩:=hI
    refine nz ?_
    refine rg tT [13,14,15,16] ?_
    refine cd (fun h1=> ?_) (fun h1=> ?_)
    ·have hj4:j<l.length:=by omega
     have hs2:=smFL_get l j hj4 hsm.2
     have hs1:szF l[j]≤N:=Nat.le_trans (szFL_get l j hj4) hsz
     rcases hx:l[j]with⟨k1,a1,v1,h1',m1,t1,l1⟩
     rw[hx]at hs1 hs2
     have uu:=ξn uu (ξn hx (show decide (szF (.mk k1 a1 v1 h1' m1 t1 l1)≤N∧smF (.mk k1 a1 v1 h1' m1 t1 l1))=true from ξt ⟨hs1,hs2⟩))
     refine rg tT [5,13,14,15] ?_
     refine rgp tT [6,13,14,15] ?_
     refine pPick [0] ?_
     refine pEnd ?_
     refine nz ?_
     refine rg tT [6,13,14,15,22] ?_
     refine cd (fun h2=> ?_) (fun h2=> ?_)
     ·refine rg tT [2] ?_
      refine lf ?_
      rw[if_pos (by simpa using h0),hd,List.drop_eq_getElem_cons hj4,allFL,hx,if_neg (by simpa using h2)]
     ·refine rg tT [13,14,15] ?_
      exact⟨⟨j+1,rfl,rfl,by omega,by rw[hd,List.drop_eq_getElem_cons hj4,allFL,hx,if_pos h2]⟩,by simp[down,Ab.get,D.val,intOf?];omega⟩
    ·refine rg tT [2] ?_
     refine lf ?_
     rw[if_pos (by simpa using h0),hd,List.drop_of_length_le (by omega),allFL]
theorem subsD_c (h:Txt) (m:List Txt) (t:Txt):PCalls Tryz.prog 123 [.agg [.x (.str h),.x (.sl (rows rStr m)),.x (.str t)]] (.x (.int .i64 (if partsB h m t=true then 0 else 5))):=by
 refine PCalls.wfA (fun hw=> ?_)
 have hl:m.length≤maxLen:=by have:=(hw 0 1 _ rfl).1;rwa [rows_len]at this
 clear hw
 simp only[maxLen]at hl
 have hp:partsB h m t=(decide (m.length≤16)&& !decide ([]∈m)&&(decide (h≠ [])||decide (t≠ [])||decide (m.length>0))):=rfl
 refine FCalls.pure (fcallsG (fz:=true) G_ok (p:=i123) rfl _ (ξ rfl) _ (fun C0 E0=> ?_)) rfl
 dsimp only[i123,qt,qi,qs,qb,qm,qa,qh,qj,qT,qF,qe,ql,qL,qf,q2,q3,q8,qz,qp,qP,qc,qk,qx,qy,qo,qr,qC,argsφ]
 have uu:=trivial
 have tT:=(noTabs_ok:SsOk Tryz.prog noTabs)
 refine nz ?_
 refine WI.regB tT [1] ?_
 refine oG ?_
 refine oS ?_
 refine oN ?_
 refine nz ?_
 refine WI.regB tT [1,23] ?_
 refine oS ?_
 iterate 2 refine oG (hok:=by first|exact se|(clear uu;grind)|exact sd) ?_
 refine oS ?_
 iterate 4 refine oG (hok:=by first|exact se|(clear uu;grind)|exact sd) ?_
 refine oS ?_
 iterate 5 refine oG (hok:=by first|exact se|(clear uu;grind)|exact sd) ?_
 refine oS ?_
 iterate 5 refine oG (hok:=by first|exact se|(clear uu;grind)|exact sd) ?_
 refine oN ?_
 refine nz ?_
 refine cd (fun h0=> ?_) (fun h0=> ?_)
 ·refine WI.regB tT [2] ?_
  refine oS ?_
  refine oN ?_
  refine nz ?_
  refine lf ?_
  clear uu;congr 2;grind
 ·refine WI.regB tT [1,3] ?_
  refine oS ?_
  refine oN ?_
  refine nz ?_
  refine WI.loop (fun φ os=> ∃(j:Nat),φ= [(1,.ptr 0 0),(3,.x (.int .i64 j))]∧os= [.box [.x (.str h),.x (.sl (rows rStr m)),.x (.str t)]]∧j≤m.length∧ []∉m.take j) (down m.length 3) ?_ (fun φ os hI=> ?_)
  ·exact⟨0,rfl,rfl,by omega,by simp⟩
  ·obtain⟨j,rfl,rfl,hj,hall⟩:=hI
   refine nz ?_
   refine WI.regB tT [1,3,28] ?_
   iterate 2 refine oS ?_
   iterate 3 refine oG (hok:=by first|exact se|(clear uu;grind)|exact sd) ?_
   refine oN ?_
   refine nz ?_
   refine cd (fun h1=> ?_) (fun h1=> ?_)
   ·have hj4:j<m.length:=by omega
    refine WI.regB tT [1,3,36] ?_
    refine oS ?_
    refine oG (hok:=by first|exact se|(clear uu;grind)|exact sd) ?_
    refine oS ?_
    iterate 3 refine oG (hok:=by first|exact se|(clear uu;grind)|exact sd) ?_
    refine oN ?_
    refine nz ?_
    refine cd (fun h2=> ?_) (fun h2=> ?_)
    ·refine WI.regB tT [2] ?_
     refine oS ?_
     refine oN ?_
     refine nz ?_
     refine lf ?_
     have hin: []∈m:=by have:=List.getElem_mem hj4;rwa [show m[j]= [] by simpa using h2]at this
     clear uu;congr 2;grind
    ·refine WI.regB tT [1,3] ?_
     refine oS ?_
     refine oG (hok:=by first|exact se|(clear uu;grind)|exact sd) ?_
     refine oS ?_
     refine oN ?_
     refine nz ?_
     exact⟨⟨j+1,rfl,rfl,by omega,by rw[List.take_succ_eq_append_getElem hj4,List.mem_append,List.mem_singleton];rintro(hs|hs);exact hall hs;rw[←hs]at h2;simp at h2⟩,by simp[down,Ab.get,D.val,intOf?];omega⟩
   ·refine WI.regB tT [2] ?_
    refine oS ?_
    refine oN ?_
    refine nz ?_
    refine lf ?_
    rw[ξT (by omega)]at hall
    have hm0:m.length>0∨m= []:=by rcases m with _|⟨x,m⟩;exact .inr rfl;exact .inl (by simp)
    clear uu;congr 2;grind
def subsDG:List D→Option (Bool×D)
 | [.agg [.x (.str hd),.x (.sl M),.x (.str t)]]=>(unrows rStr M).bind fun m=>some (true,.x (.int .i64 (if partsB hd m t=true then 0 else 5)))
 |_=>none
theorem subsDG_ok: ∀args r,subsDG args=some (true,r)→PCalls Tryz.prog 123 args r:=by
 intro args r h
 unfold subsDG at h
 split at h
 ·rename_i hd M t
  obtain⟨m,hr0,h⟩:=ξB h
  simp only[ξI,ξP,ξa,ξe,true_and]at h
  obtain rfl:=h
  rw[←rows_unrows good_rStr hr0]
  exact(subsD_c hd m t)
 ·cases h
def tabFxE:Tabs:=addQ (noTabs) 123 subsDG
theorem tabFxE_ok:SsOk Tryz.prog tabFxE:=addQ_ok (noTabs_ok) (G_enters G_ok (p:=i123) rfl) subsDG_ok
theorem tabFxE_q123 (a:List D):tabFxE.q 123 a=subsDG a:=rfl
theorem tabFxE_r (f:FuncId) (a:List D) (o:List Ob):tabFxE.r f a o=none:=rfl
theorem tabFxE_k (f:FuncId) (a:List D) (o:List Ob):tabFxE.k f a o=none:=rfl
theorem fields_c (k:Int) (a v h:Txt) (m:List Txt) (t:Txt) (l:List Flt) (hk:0≤k∧k≤8):PCalls Tryz.prog 108 [.agg [.x (.int .i64 k),.x (.str a),.x (.str v),.x (.str h),.x (.sl (rows rStr m)),.x (.str t),.x (.sl (rows rFlt l))]] (.x (.bool (fitsB k a v h m t l.length))):=by
 have hf:fitsB k a v h m t l.length=(if k=0∨k=1∨k=2 then decide (a= [])&&decide (v= [])&&noneB h m t&&(decide (k≠2)||decide (l.length=1))
 else if k=4 then decide (l.length=0)&&decide (v= [])&&partsB h m t
 else if k=7 then decide (l.length=0)&&decide (v= [])&&noneB h m t
 else decide (l.length=0)&&noneB h m t):=rfl
 have hn:noneB h m t=(decide (h= [])&&decide (t= [])&&decide (m.length=0)):=rfl
 refine FCalls.pure (fcallsG (fz:=true) G_ok (p:=i108) rfl _ (ξ rfl) _ (fun C0 E0=> ?_)) rfl
 dsimp only[i108,qt,qi,qs,qb,qm,qa,qh,qj,qT,qF,qe,ql,qL,qf,q2,q3,q8,qz,qp,qP,qc,qk,qx,qy,qo,qr,qC,argsφ]
 have uu:=ξn @subsDG.eq_1 (ξn @subsDG.eq_2 (ξn @un_T (ξn @tabFxE_r (ξn @tabFxE_k (@tabFxE_q123)))))
 have tT:=tabFxE_ok
 refine nz ?_
 refine WI.regB tT [1] ?_
 refine oG ?_
 refine oS ?_
 refine oN ?_
 refine nz ?_
 refine WI.regB tT [1,3] ?_
 refine oS ?_
 refine oG (hok:=by first|exact se|(clear uu;grind)|exact sd) ?_
 refine oS ?_
 refine oN ?_
 refine nz ?_
 refine WI.regB tT [1,3,4] ?_
 refine oS ?_
 refine oG (hok:=by first|exact se|(clear uu;grind)|exact sd) ?_
 refine oS ?_
 iterate 3 refine oG (hok:=by first|exact se|(clear uu;grind)|exact sd) ?_
 refine oS ?_
 iterate 3 refine oG (hok:=by first|exact se|(clear uu;grind)|exact sd) ?_
 refine oS ?_
 refine oN ?_
 refine nz ?_
 refine WI.regB tT [1,3,4,5] ?_
 refine oS ?_
 refine oG (hok:=by first|exact se|(clear uu;grind)|exact sd) ?_
 refine oS ?_
 iterate 3 refine oG (hok:=by first|exact se|(clear uu;grind)|exact sd) ?_
 refine oS ?_
 iterate 3 refine oG (hok:=by first|exact se|(clear uu;grind)|exact sd) ?_
 refine oS ?_
 iterate 3 refine oG (hok:=by first|exact se|(clear uu;grind)|exact sd) ?_
 refine oS ?_
 refine oN ?_
 refine nz ?_
 refine WI.regB tT [1,3,66] ?_
 refine oS ?_
 refine oG (hok:=by first|exact se|(clear uu;grind)|exact sd) ?_
 refine oS ?_
 iterate 5 refine oG (hok:=by first|exact se|(clear uu;grind)|exact sd) ?_
 refine oS ?_
 iterate 7 refine oG (hok:=by first|exact se|(clear uu;grind)|exact sd) ?_
 refine oS ?_
 iterate 8 refine oG (hok:=by first|exact se|(clear uu;grind)|exact sd) ?_
 refine oS ?_
 iterate 9 refine oG (hok:=by first|exact se|(clear uu;grind)|exact sd) ?_
 refine oN ?_
 refine nz ?_
 refine cd (fun h0=> ?_) (fun h0=> ?_)
 ·refine WI.regB tT [2] ?_
  refine oS ?_
  refine oN ?_
  refine nz ?_
  refine lf ?_
  clear uu;congr 2;grind
 ·refine WI.regB tT [1,68] ?_
  refine oS ?_
  refine oG (hok:=by first|exact se|(clear uu;grind)|exact sd) ?_
  refine oN ?_
  refine nz ?_
  refine cd (fun h1=> ?_) (fun h1=> ?_)
  ·refine WI.regB tT [2] ?_
   refine oS ?_
   refine oG (hok:=by first|exact se|(clear uu;grind)|exact sd) ?_
   refine oC (hok:=by first|exact se|(clear uu;grind)|exact sd) ?_
   refine oG (hok:=by first|exact se|(clear uu;grind)|exact sd) ?_
   refine oS ?_
   refine oN ?_
   refine nz ?_
   refine lf ?_
   clear uu;congr 2;have h1':k=4:=by simpa using h1
   subst h1';rw[hf];clear hf h1 hn;revert h0;cases partsB h m t<;>simp<;>grind
  ·refine WI.regB tT [2] ?_
   iterate 2 refine oS ?_
   iterate 2 refine oG (hok:=by first|exact se|(clear uu;grind)|exact sd) ?_
   refine oS ?_
   iterate 5 refine oG (hok:=by first|exact se|(clear uu;grind)|exact sd) ?_
   refine oS ?_
   iterate 6 refine oG (hok:=by first|exact se|(clear uu;grind)|exact sd) ?_
   refine oS ?_
   refine oN ?_
   refine nz ?_
   refine lf ?_
   clear uu;congr 2;have h1':k≠4:=by simpa using h1
   have h01:=h0.1.1;have h02:=h0.1.2;have h03:=h0.2;clear h0;rw[hf,hn];clear hf hn h1
   have h04:l.length=0∨l.length≠0:=by omega
   have h05:k=0∨k=1∨k=2∨(k≠0∧k≠1∧k≠2):=by omega
   rcases h05 with rfl|rfl|rfl|h05<;>grind (splits:=20)
def fieldsG:List D→Option (Bool×D)
 | [.agg [.x (.int .i64 k),.x (.str a),.x (.str v),.x (.str hd),.x (.sl M),.x (.str t),.x (.sl L)]]=>(unrows rStr M).bind fun m=>(unrows rFlt L).bind fun l=>some (decide (0≤k∧k≤8),.x (.bool (fitsB k a v hd m t l.length)))
 |_=>none
theorem fieldsG_ok: ∀args r,fieldsG args=some (true,r)→PCalls Tryz.prog 108 args r:=by
 intro args r h
 unfold fieldsG at h
 split at h
 ·rename_i k a v hd M t L
  obtain⟨m,hr0,h⟩:=ξB h
  obtain⟨l,hr1,h⟩:=ξB h
  simp only[ξI,ξP,ξa,ξe,true_and]at h
  obtain⟨h1,rfl⟩:=h
  rw[←rows_unrows good_rStr hr0]
  rw[←rows_unrows good_rFlt hr1]
  exact(fields_c k a v hd m t l h1)
 ·cases h
def tabFxF:Tabs:=addQ (addQ (noTabs) 108 fieldsG) 19 TypedG
theorem tabFxF_ok:SsOk Tryz.prog tabFxF:=addQ_ok (addQ_ok (noTabs_ok) (G_enters G_ok (p:=i108) rfl) fieldsG_ok) (G_enters G_ok (p:=i19) rfl) TypedG_ok
theorem tabFxF_q108 (a:List D):tabFxF.q 108 a=fieldsG a:=rfl
theorem tabFxF_q19 (a:List D):tabFxF.q 19 a=TypedG a:=rfl
theorem tabFxF_r (f:FuncId) (a:List D) (o:List Ob):tabFxF.r f a o=none:=rfl
theorem tabFxF_k (f:FuncId) (a:List D) (o:List Ob):tabFxF.k f a o=none:=rfl
theorem oneD_c (k:Int) (a v h:Txt) (m:List Txt) (t:Txt) (l:List Flt) (ha:a.length≤1000000):PCalls Tryz.prog 95 [.agg [.x (.int .i64 k),.x (.str a),.x (.str v),.x (.str h),.x (.sl (rows rStr m)),.x (.str t),.x (.sl (rows rFlt l))]] (.x (.int .i64 (oneF k a v h m t l.length))):=by
 have hL:lensB v h t m↔((v.length>1024∨h.length>1024)∨t.length>1024)∨ ∃s∈m,s.length>1024:=by
  unfold lensB;constructor
  ·rintro⟨s,h1,h2⟩;simp at h1;rcases h1 with rfl|rfl|h1|rfl;exact .inl (.inl (.inr h2));exact .inl (.inr h2);exact .inr ⟨s,h1,h2⟩;exact .inl (.inl (.inl h2))
  ·rintro(((h1|h1)|h1)|⟨s,h1,h2⟩);exact⟨v,by simp,h1⟩;exact⟨h,by simp,h1⟩;exact⟨t,by simp,h1⟩;exact⟨s,by simp[h1],h2⟩
 refine PCalls.wfA (fun hw=> ?_)
 have hl:m.length≤maxLen:=by have:=(hw 0 4 _ rfl).1;rwa [rows_len]at this
 clear hw
 simp only[maxLen]at hl
 unfold oneF
 refine FCalls.pure (fcallsG (fz:=true) G_ok (p:=i95) rfl _ (ξ rfl) _ (fun C0 E0=> ?_)) rfl
 dsimp only[i95,qt,qi,qs,qb,qm,qa,qh,qj,qT,qF,qe,ql,qL,qf,q2,q3,q8,qz,qp,qP,qc,qk,qx,qy,qo,qr,qC,argsφ]
 have uu:=ξn @fieldsG.eq_1 (ξn @fieldsG.eq_2 (ξn @TypedG.eq_1 (ξn @TypedG.eq_2 (ξn @un_T (ξn @un_F (ξn @tabFxF_r (ξn @tabFxF_k (ξn @tabFxF_q108 (@tabFxF_q19)))))))))
 have tT:=tabFxF_ok
 refine nz ?_
 refine WI.regB tT [1] ?_
 refine oG ?_
 refine oS ?_
 refine oN ?_
 refine nz ?_
 refine WI.regB tT [1,4] ?_
 refine oS ?_
 iterate 2 refine oG (hok:=by first|exact se|(clear uu;grind)|exact sd) ?_
 refine oS ?_
 iterate 4 refine oG (hok:=by first|exact se|(clear uu;grind)|exact sd) ?_
 refine oS ?_
 refine oN ?_
 refine nz ?_
 refine cd (fun h0=> ?_) (fun h0=> ?_)
 ·refine WI.regB tT [2] ?_
  refine oS ?_
  refine oN ?_
  refine nz ?_
  refine lf ?_
  clear uu;congr 2;grind
 ·refine WI.regB tT [1,13] ?_
  refine oS ?_
  iterate 3 refine oG (hok:=by first|exact se|(clear uu;grind)|exact sd) ?_
  refine oS ?_
  refine oN ?_
  refine nz ?_
  refine cd (fun h1=> ?_) (fun h1=> ?_)
  ·refine WI.regB tT [2] ?_
   refine oS ?_
   refine oN ?_
   refine nz ?_
   refine lf ?_
   clear uu;congr 2;grind
  ·refine WI.regB tT [1,18] ?_
   refine oG (hok:=by first|exact se|(clear uu;grind)|exact sd) ?_
   refine oC (hok:=by first|exact se|(clear uu;grind)|exact sd) ?_
   refine oG (hok:=by first|exact se|(clear uu;grind)|exact sd) ?_
   refine oS ?_
   refine oN ?_
   refine nz ?_
   refine cd (fun h2=> ?_) (fun h2=> ?_)
   ·refine WI.regB tT [2] ?_
    refine oS ?_
    refine oN ?_
    refine nz ?_
    refine lf ?_
    clear uu;congr 2;grind
   ·refine WI.regB tT [1,22] ?_
    refine oS ?_
    iterate 2 refine oG (hok:=by first|exact se|(clear uu;grind)|exact sd) ?_
    refine oS ?_
    iterate 2 refine oG (hok:=by first|exact se|(clear uu;grind)|exact sd) ?_
    refine oC (hok:=by first|exact se|(clear uu;grind)|exact sd) ?_
    iterate 2 refine oG (hok:=by first|exact se|(clear uu;grind)|exact sd) ?_
    refine oS ?_
    refine oN ?_
    refine nz ?_
    refine cd (fun h3=> ?_) (fun h3=> ?_)
    ·refine WI.regB tT [2] ?_
     refine oS ?_
     refine oN ?_
     refine nz ?_
     refine lf ?_
     clear uu;congr 2;grind
    ·refine WI.regB tT [1,32] ?_
     refine oS ?_
     iterate 3 refine oG (hok:=by first|exact se|(clear uu;grind)|exact sd) ?_
     refine oS ?_
     iterate 6 refine oG (hok:=by first|exact se|(clear uu;grind)|exact sd) ?_
     refine oS ?_
     iterate 6 refine oG (hok:=by first|exact se|(clear uu;grind)|exact sd) ?_
     refine oS ?_
     refine oN ?_
     refine nz ?_
     refine cd (fun h4=> ?_) (fun h4=> ?_)
     ·refine WI.regB tT [2] ?_
      refine oS ?_
      refine oN ?_
      refine nz ?_
      refine lf ?_
      clear uu;congr 2;grind
     ·refine WI.regB tT [1,3] ?_
      refine oS ?_
      refine oN ?_
      refine nz ?_
      refine WI.loop (fun φ os=> ∃(j:Nat),φ= [(1,.ptr 0 0),(3,.x (.int .i64 j))]∧os= [.box [.x (.int .i64 k),.x (.str a),.x (.str v),.x (.str h),.x (.sl (rows rStr m)),.x (.str t),.x (.sl (rows rFlt l))]]∧j≤m.length∧(∀s∈m.take j,¬s.length>1024)) (down m.length 3) ?_ (fun φ os hI=> ?_)
      ·exact⟨0,rfl,rfl,by omega,by simp⟩
      ·obtain⟨j,rfl,rfl,hj,hall⟩:=hI
       refine nz ?_
       refine WI.regB tT [1,3,56] ?_
       iterate 3 refine oS ?_
       iterate 3 refine oG (hok:=by first|exact se|(clear uu;grind)|exact sd) ?_
       refine oN ?_
       refine nz ?_
       refine cd (fun h5=> ?_) (fun h5=> ?_)
       ·have hj4:j<m.length:=by omega
        refine WI.regB tT [1,3,66] ?_
        iterate 2 refine oS ?_
        refine oG (hok:=by first|exact se|(clear uu;grind)|exact sd) ?_
        refine oS ?_
        iterate 4 refine oG (hok:=by first|exact se|(clear uu;grind)|exact sd) ?_
        refine oN ?_
        refine nz ?_
        refine cd (fun h6=> ?_) (fun h6=> ?_)
        ·refine WI.regB tT [2] ?_
         refine oS ?_
         refine oN ?_
         refine nz ?_
         refine lf ?_
         have hy:lensB v h t m:=hL.2 (.inr ⟨m[j],List.getElem_mem hj4,by omega⟩)
         clear uu;congr 2;grind
        ·refine WI.regB tT [1,3] ?_
         refine oS ?_
         refine oG (hok:=by first|exact se|(clear uu;grind)|exact sd) ?_
         refine oS ?_
         refine oN ?_
         refine nz ?_
         exact⟨⟨j+1,rfl,rfl,by omega,by rw[List.take_succ_eq_append_getElem hj4];intro s hs;rcases List.mem_append.1 hs with hs|hs;exact hall s hs;rw[List.mem_singleton]at hs;subst hs;omega⟩,by simp[down,Ab.get,D.val,intOf?];omega⟩
       ·refine WI.regB tT [2] ?_
        refine oS ?_
        refine oN ?_
        refine nz ?_
        refine lf ?_
        have hy: ¬ ∃s∈m,s.length>1024:=fun⟨s,h1,h2⟩=>hall s (by rw[ξT (by omega)];exact h1) h2
        clear uu;congr 2;grind
def oneDG:List D→Option (Bool×D)
 | [.agg [.x (.int .i64 k),.x (.str a),.x (.str v),.x (.str hd),.x (.sl M),.x (.str t),.x (.sl L)]]=>(unrows rStr M).bind fun m=>(unrows rFlt L).bind fun l=>some (decide (a.length≤1000000),.x (.int .i64 (oneF k a v hd m t l.length)))
 |_=>none
theorem oneDG_ok: ∀args r,oneDG args=some (true,r)→PCalls Tryz.prog 95 args r:=by
 intro args r h
 unfold oneDG at h
 split at h
 ·rename_i k a v hd M t L
  obtain⟨m,hr0,h⟩:=ξB h
  obtain⟨l,hr1,h⟩:=ξB h
  simp only[ξI,ξP,ξa,ξe,true_and]at h
  obtain⟨h1,rfl⟩:=h
  rw[←rows_unrows good_rStr hr0]
  rw[←rows_unrows good_rFlt hr1]
  exact(oneD_c k a v hd m t l h1)
 ·cases h
def allDmG (N:Nat):List D→Option (Bool×D)
 | [.agg [.x (.int .i64 k),.x (.str a),.x (.str v),.x (.str hd),.x (.sl M),.x (.str t),.x (.sl L)]]=>(unrows rStr M).bind fun mm=>(unrows rFlt L).bind fun l=>some (decide (szF (.mk k a v hd mm t l)≤N∧smF (.mk k a v hd mm t l)),.x (.int .i64 (allF (.mk k a v hd mm t l))))
 |_=>none
theorem allDmG_ok (N:Nat) (ih: ∀(f:Flt),szF f≤N∧smF f→PCalls Tryz.prog 76 [fltD f] (.x (.int .i64 (allF f)))): ∀args r,allDmG N args=some (true,r)→PCalls Tryz.prog 76 args r:=by
 intro args r h
 unfold allDmG at h
 split at h
 ·rename_i k a v hd M t L
  obtain⟨mm,hr0,h⟩:=ξB h
  obtain⟨l,hr1,h⟩:=ξB h
  simp only[ξI,ξP,ξa,ξe,true_and]at h
  obtain⟨h1,rfl⟩:=h
  rw[←rows_unrows good_rStr hr0]
  rw[←rows_unrows good_rFlt hr1]
  exact ih (.mk k a v hd mm t l) h1
 ·cases h
def tabFxG (g:List D→Option (Bool×D)):Tabs:=addQ (addQ (noTabs) 95 oneDG) 76 g
theorem tabFxG_ok (g:List D→Option (Bool×D)) (hg: ∀args r,g args=some (true,r)→PCalls Tryz.prog 76 args r):SsOk Tryz.prog (tabFxG g):=addQ_ok (addQ_ok (noTabs_ok) (G_enters G_ok (p:=i95) rfl) oneDG_ok) (G_enters G_ok (p:=i76) rfl) hg
theorem tabFxG_q95 (g:List D→Option (Bool×D)) (a:List D):(tabFxG g).q 95 a=oneDG a:=rfl
theorem tabFxG_q76 (g:List D→Option (Bool×D)) (a:List D):(tabFxG g).q 76 a=g a:=rfl
theorem tabFxG_r (g:List D→Option (Bool×D)) (f:FuncId) (a:List D) (o:List Ob):(tabFxG g).r f a o=none:=rfl
theorem tabFxG_k (g:List D→Option (Bool×D)) (f:FuncId) (a:List D) (o:List Ob):(tabFxG g).k f a o=none:=rfl
theorem allD_c: ∀(N:Nat) (f:Flt),szF f≤N∧smF f→PCalls Tryz.prog 76 [fltD f] (.x (.int .i64 (allF f)))
 |0,.mk k a v h mm t l,hs=>by have:=hs.1;simp only[szF]at this;omega
 |N+1,.mk k a v h mm t l,hs=>by
  have ih:=allD_c N
  have hsz:szFL l≤N:=by have:=hs.1;simp only[szF]at this;omega
  have hsm:a.length≤900000∧smFL l:=by have:=hs.2;rwa [smF]at this
  have hal:=hsm.1
  clear hs
  refine PCalls.wfA (fun hw=> ?_)
  have hl:l.length≤maxLen:=by have:=(hw 0 6 _ rfl).1;rwa [rows_len]at this
  clear hw
  simp only[maxLen]at hl
  dsimp only[fltD]
  rw[allF]
  refine FCalls.pure (fcallsG (fz:=true) G_ok (p:=i76) rfl _ (ξ rfl) _ (fun C0 E0=> ?_)) rfl
  dsimp only[i76,qt,qi,qs,qb,qm,qa,qh,qj,qT,qF,qe,ql,qL,qf,q2,q3,q8,qz,qp,qP,qc,qk,qx,qy,qo,qr,qC,argsφ]
  have uu:=ξn @oneDG.eq_1 (ξn @oneDG.eq_2 (ξn @allDmG.eq_1 (ξn @allDmG.eq_2 (ξn @un_F (ξn @un_T (ξn @enc_rFlt (ξn @tabFxG_r (ξn @tabFxG_k (ξn @tabFxG_q76 (@tabFxG_q95))))))))))
  have tT:=(tabFxG_ok (allDmG N) (allDmG_ok N ih))
  refine nz ?_
  refine rg tT [1] ?_
  refine rg tT [1,3] ?_
  refine rg tT [1,3,9] ?_
  refine cd (fun h0=> ?_) (fun h0=> ?_)
  ·refine rg tT [2] ?_
   refine lf ?_
   clear uu;congr 2;grind
  ·refine rg tT [1,4] ?_
   refine WI.loop (fun φ os=> ∃(j:Nat),φ= [(1,.ptr 0 0),(4,.x (.int .i64 j))]∧os= [.box [.x (.int .i64 k),.x (.str a),.x (.str v),.x (.str h),.x (.sl (rows rStr mm)),.x (.str t),.x (.sl (rows rFlt l))]]∧j≤l.length∧allFL l=allFL (l.drop j)) (down l.length 4) ?_ (fun φ os hI=> ?_)
   ·exact⟨0,rfl,rfl,by omega,rfl⟩
   ·obtain⟨j,rfl,rfl,hj,hd⟩:=hI
    refine nz ?_
    refine rg tT [1,4,15] ?_
    refine cd (fun h1=> ?_) (fun h1=> ?_)
    ·have hj4:j<l.length:=by omega
     have hs2:=smFL_get l j hj4 hsm.2
     have hs1:szF l[j]≤N:=Nat.le_trans (szFL_get l j hj4) hsz
     rcases hx:l[j]with⟨k1,a1,v1,h1',m1,t1,l1⟩
     rw[hx]at hs1 hs2
     have uu:=ξn uu (ξn hx (show decide (szF (.mk k1 a1 v1 h1' m1 t1 l1)≤N∧smF (.mk k1 a1 v1 h1' m1 t1 l1))=true from ξt ⟨hs1,hs2⟩))
     refine rg tT [1,4,5] ?_
     refine rg tT [1,4,5,25] ?_
     refine cd (fun h2=> ?_) (fun h2=> ?_)
     ·refine rg tT [2] ?_
      refine lf ?_
      rw[if_pos (by simpa using h0),hd,List.drop_eq_getElem_cons hj4,allFL,hx,if_neg (by simpa using h2)]
     ·refine rg tT [1,4] ?_
      exact⟨⟨j+1,rfl,rfl,by omega,by rw[hd,List.drop_eq_getElem_cons hj4,allFL,hx,if_pos h2]⟩,by simp[down,Ab.get,D.val,intOf?];omega⟩
    ·refine rg tT [2] ?_
     refine lf ?_
     rw[if_pos (by simpa using h0),hd,List.drop_of_length_le (by omega),allFL]
def deepmG (N:Nat):List D→Option (Bool×D)
 | [.agg [.x (.int .i64 k),.x (.str a),.x (.str v),.x (.str hd),.x (.sl M),.x (.str t),.x (.sl L)],.x (.int .i64 m)]=>(unrows rStr M).bind fun mm=>(unrows rFlt L).bind fun l=>some (decide (szF (.mk k a v hd mm t l)≤N∧0≤m∧m≤64),.x (.int .i64 (depF (.mk k a v hd mm t l) m.toNat:Nat)))
 |_=>none
theorem deepmG_ok (N:Nat) (ih: ∀(f:Flt) (m:Int),szF f≤N∧0≤m∧m≤64→PCalls Tryz.prog 94 [fltD f,.x (.int .i64 m)] (.x (.int .i64 (depF f m.toNat:Nat)))): ∀args r,deepmG N args=some (true,r)→PCalls Tryz.prog 94 args r:=by
 intro args r h
 unfold deepmG at h
 split at h
 ·rename_i k a v hd M t L m
  obtain⟨mm,hr0,h⟩:=ξB h
  obtain⟨l,hr1,h⟩:=ξB h
  simp only[ξI,ξP,ξa,ξe,true_and]at h
  obtain⟨h1,rfl⟩:=h
  rw[←rows_unrows good_rStr hr0]
  rw[←rows_unrows good_rFlt hr1]
  exact ih (.mk k a v hd mm t l) m h1
 ·cases h
def tabFxH (g:List D→Option (Bool×D)):Tabs:=addQ (noTabs) 94 g
theorem tabFxH_ok (g:List D→Option (Bool×D)) (hg: ∀args r,g args=some (true,r)→PCalls Tryz.prog 94 args r):SsOk Tryz.prog (tabFxH g):=addQ_ok (noTabs_ok) (G_enters G_ok (p:=i94) rfl) hg
theorem tabFxH_q94 (g:List D→Option (Bool×D)) (a:List D):(tabFxH g).q 94 a=g a:=rfl
theorem tabFxH_r (g:List D→Option (Bool×D)) (f:FuncId) (a:List D) (o:List Ob):(tabFxH g).r f a o=none:=rfl
theorem tabFxH_k (g:List D→Option (Bool×D)) (f:FuncId) (a:List D) (o:List Ob):(tabFxH g).k f a o=none:=rfl
theorem deep_c: ∀(N:Nat) (f:Flt) (m:Int),szF f≤N∧0≤m∧m≤64→PCalls Tryz.prog 94 [fltD f,.x (.int .i64 m)] (.x (.int .i64 (depF f m.toNat:Nat)))
 |0,.mk k a v h mm t l,m,hs=>by have:=hs.1;simp only[szF]at this;omega
 |N+1,.mk k a v h mm t l,m,hs=>by
  have ih:=deep_c N
  have hsz:szFL l≤N:=by have:=hs.1;simp only[szF]at this;omega
  have hm:=hs.2
  clear hs
  refine PCalls.wfA (fun hw=> ?_)
  have hl:l.length≤maxLen:=by have:=(hw 0 6 _ rfl).1;rwa [rows_len]at this
  clear hw
  simp only[maxLen]at hl
  dsimp only[fltD]
  obtain⟨q,rfl⟩: ∃q:Nat,m=q:=⟨m.toNat,by omega⟩
  rw[Int.toNat_natCast]
  rcases q with _|q
  ·rw[depF]
   refine FCalls.pure (fcallsG (fz:=true) G_ok (p:=i94) rfl _ (ξ rfl) _ (fun C0 E0=> ?_)) rfl
   dsimp only[i94,qt,qi,qs,qb,qm,qa,qh,qj,qT,qF,qe,ql,qL,qf,q2,q3,q8,qz,qp,qP,qc,qk,qx,qy,qo,qr,qC,argsφ]
   have uu:= @un_F
   have tT:=(noTabs_ok:SsOk Tryz.prog noTabs)
   refine nz ?_
   refine WI.regB tT [1,2] ?_
   refine oG ?_
   refine oS ?_
   refine oN ?_
   refine nz ?_
   refine WI.regB tT [1,2,5] ?_
   refine oS ?_
   refine oN ?_
   refine nz ?_
   refine WI.regB tT [1,2,5,6] ?_
   refine oS ?_
   refine oN ?_
   refine nz ?_
   refine WI.loop (fun φ os=>φ= [(1,.x (.int .i64 (0:Nat))),(2,.ptr 0 0),(5,.x (.int .i64 0)),(6,.x (.int .i64 0))]∧os= [.box [.x (.int .i64 k),.x (.str a),.x (.str v),.x (.str h),.x (.sl (rows rStr mm)),.x (.str t),.x (.sl (rows rFlt l))]]) (down 0 6) ?_ (fun φ os hI=> ?_)
   ·exact⟨rfl,rfl⟩
   ·obtain⟨rfl,rfl⟩:=hI
    refine nz ?_
    refine WI.regB tT [1,2,5,6,15] ?_
    iterate 2 refine oS ?_
    iterate 3 refine oG (hok:=by first|exact se|(clear uu;grind)|exact sd) ?_
    refine oS ?_
    iterate 3 refine oG (hok:=by first|exact se|(clear uu;grind)|exact sd) ?_
    refine oN ?_
    refine nz ?_
    refine ce (fun h0=> ?_) (fun h0=> ?_)
    ·simp at h0
    ·refine WI.regB tT [4] ?_
     refine oS ?_
     refine oG (hok:=by first|exact se|(clear uu;grind)|exact sd) ?_
     refine oS ?_
     refine oN ?_
     refine nz ?_
     refine lf ?_
     first|rfl|exact⟨rfl,rfl⟩|trivial
  ·rw[depF]
   have hdb:=fun x=>depF_b x q
   have e1:((q+1:Nat):Int)-1=(q:Int):=by omega
   have hfb:=depFL_b l q
   refine FCalls.pure (fcallsG (fz:=true) G_ok (p:=i94) rfl _ (ξ rfl) _ (fun C0 E0=> ?_)) rfl
   dsimp only[i94,qt,qi,qs,qb,qm,qa,qh,qj,qT,qF,qe,ql,qL,qf,q2,q3,q8,qz,qp,qP,qc,qk,qx,qy,qo,qr,qC,argsφ]
   have uu:=ξn @deepmG.eq_1 (ξn @deepmG.eq_2 (ξn @un_F (ξn @un_T (ξn @enc_rFlt (ξn @e1 (ξn @tabFxH_r (ξn @tabFxH_k (@tabFxH_q94))))))))
   have tT:=(tabFxH_ok (deepmG N) (deepmG_ok N ih))
   refine nz ?_
   refine WI.regB tT [1,2] ?_
   refine oG ?_
   refine oS ?_
   refine oN ?_
   refine nz ?_
   refine WI.regB tT [1,2,5] ?_
   refine oS ?_
   refine oN ?_
   refine nz ?_
   refine WI.regB tT [1,2,5,6] ?_
   refine oS ?_
   refine oN ?_
   refine nz ?_
   refine WI.loop (fun φ os=> ∃(j:Nat),φ= [(1,.x (.int .i64 (q+1:Nat))),(2,.ptr 0 0),(5,.x (.int .i64 (depFL (l.take j) q:Nat))),(6,.x (.int .i64 j))]∧os= [.box [.x (.int .i64 k),.x (.str a),.x (.str v),.x (.str h),.x (.sl (rows rStr mm)),.x (.str t),.x (.sl (rows rFlt l))]]∧j≤l.length) (down l.length 6) ?_ (fun φ os hI=> ?_)
   ·exact⟨0,rfl,rfl,by omega⟩
   ·obtain⟨j,rfl,rfl,hj⟩:=hI
    refine nz ?_
    refine WI.regB tT [1,2,5,6,15] ?_
    iterate 2 refine oS ?_
    iterate 3 refine oG (hok:=by first|exact se|(clear uu;grind)|exact sd) ?_
    refine oS ?_
    iterate 3 refine oG (hok:=by first|exact se|(clear uu;grind)|exact sd) ?_
    refine oN ?_
    refine nz ?_
    refine cd (fun h0=> ?_) (fun h0=> ?_)
    ·have hj4:j<l.length:=by omega
     have hst:=depFL_snoc (l.take j) l[j] q
     rw[←List.take_succ_eq_append_getElem hj4]at hst
     rcases hx:l[j]with⟨k1,a1,v1,h1',m1,t1,l1⟩
     have hs1:szF l[j]≤N:=Nat.le_trans (szFL_get l j hj4) hsz
     rw[hx]at hs1 hst
     have uu:=ξn uu hx
     refine WI.regB tT [1,2,5,6] ?_
     iterate 2 refine oS ?_
     refine oG (hok:=by first|exact se|(clear uu;grind)|exact sd) ?_
     refine oS ?_
     iterate 2 refine oG (hok:=by first|exact se|(clear uu;grind)|exact sd) ?_
     refine oS ?_
     refine oG (hok:=by first|exact se|(clear uu;grind)|exact sd) ?_
     refine oC (hok:=by first|exact se|(clear uu;grind)|exact sd) ?_
     refine oG (hok:=by first|exact se|(clear uu;grind)|exact sd) ?_
     refine oS ?_
     refine oN ?_
     refine nz ?_
     refine WI.regB tT [1,2,5,6] ?_
     refine oS ?_
     refine oG (hok:=by first|exact se|(clear uu;grind)|exact sd) ?_
     refine oS ?_
     refine oN ?_
     refine nz ?_
     exact⟨⟨j+1,by rw[hst];first|rfl|(rw[mx_eq];rfl),rfl,by omega⟩,by simp[down,Ab.get,D.val,intOf?];omega⟩
    ·refine WI.regB tT [4] ?_
     refine oS ?_
     refine oG (hok:=by first|exact se|(clear uu;grind)|exact sd) ?_
     refine oS ?_
     refine oN ?_
     refine nz ?_
     refine lf ?_
     rw[ξT (by omega),IntWalk.i64_in _ (by omega)];rfl
def midW (m:List Txt):Nat:=(m.map fun x=>x.length+1).sum
mutual
def wF:Flt→Nat
 | .mk _ a v h m t l=>a.length+v.length+h.length+t.length+midW m+5+wFL l
def wFL:List Flt→Nat
 | []=>0
 |f::l=>wF f+wFL l
end
theorem wFL_get: ∀(l:List Flt) (i:Nat) (h:i<l.length),wF l[i]≤wFL l
 |f::l,0,_=>by rw[wFL];simp
 |f::l,i+1,hi=>by have:=wFL_get l i (by simpa using hi);rw[wFL];simp;omega
theorem wFL_app: ∀(l m:List Flt),wFL (l++m)=wFL l+wFL m
 | [],m=>by simp[wFL]
 |f::l,m=>by simp[wFL,wFL_app l m];omega
mutual
theorem sm_w: ∀f:Flt,wF f≤900000→smF f
 | .mk k a v h m t l,e=>by rw[wF]at e;rw[smF];exact⟨by omega,smL_w l (by omega)⟩
theorem smL_w: ∀l:List Flt,wFL l≤900000→smFL l
 | [],_=>by rw[smFL];trivial
 |f::l,e=>by rw[wFL]at e;rw[smFL];exact⟨sm_w f (by omega),smL_w l (by omega)⟩
end
def midX (m:List Txt):Txt:=m.flatMap fun x=>escS x++ [42]
def hdX (k:Int) (a v h:Txt) (m:List Txt) (t:Txt):Txt:=
 if k=0 then [38]else if k=1 then [124]else if k=2 then [33]else if k=3 then a++ [61]++escS v else if k=5 then a++ [62,61]++escS v
 else if k=6 then a++ [60,61]++escS v else if k=8 then a++ [126,61]++escS v else if k=7 then a++ [61,42]
 else a++ [61]++escS h++ [42]++midX m++escS t
mutual
def putX:Flt→Txt
 | .mk k a v h m t l=> [40]++hdX k a v h m t++putXL l++ [41]
def putXL:List Flt→Txt
 | []=> []
 |f::l=>putX f++putXL l
end
theorem midX_len (m:List Txt):(midX m).length≤3*midW m:=by
 induction m with
 |nil=>simp[midX]
 |cons x m ih=>
  have h1:=escS_len x
  unfold midX midW at ih⊢
  simp only[List.flatMap_cons,ξA,List.map_cons,List.sum_cons,ξC,ξN]
  omega
theorem hdX_len (k:Int) (a v h:Txt) (m:List Txt) (t:Txt):(hdX k a v h m t).length≤3*(a.length+v.length+h.length+t.length+midW m)+2:=by
 have h1:=escS_len v
 have h2:=escS_len h
 have h3:=escS_len t
 have h4:=midX_len m
 unfold hdX
 split;simp
 split;simp
 split;simp
 split;simp;omega
 split;simp;omega
 split;simp;omega
 split;simp;omega
 split;simp;omega
 simp;omega
mutual
theorem putX_len: ∀f:Flt,(putX f).length≤3*wF f
 | .mk k a v h m t l=>by
  have h1:=hdX_len k a v h m t
  have h2:=putXL_len l
  rw[putX,wF];simp only[ξA,ξC,ξN];omega
theorem putXL_len: ∀l:List Flt,(putXL l).length≤3*wFL l
 | []=>by simp[putXL]
 |f::l=>by
  have h1:=putX_len f
  have h2:=putXL_len l
  rw[putXL,wFL,ξA];omega
end
theorem putXL_snoc: ∀(l:List Flt) (x:Flt),putXL (l++ [x])=putXL l++putX x
 | [],x=>by simp[putXL]
 |y::l,x=>by rw[List.cons_append,putXL,putXL,putXL_snoc l x,List.append_assoc]
theorem midX_snoc (m:List Txt) (x:Txt):midX (m++ [x])=midX m++(escS x++ [42]):=by simp[midX]
theorem midW_app (l m:List Txt):midW (l++m)=midW l+midW m:=by simp[midW]
theorem wFL_take (l:List Flt) (j:Nat):wFL (l.take j)≤wFL l:=by
 have:=wFL_app (l.take j) (l.drop j);rw[List.take_append_drop]at this;omega
theorem midW_take (l:List Txt) (j:Nat):midW (l.take j)≤midW l:=by
 have:=midW_app (l.take j) (l.drop j);rw[List.take_append_drop]at this;omega
theorem midW_get (m:List Txt) (j:Nat) (h:j<m.length):m[j].length≤midW m:=by
 have h1:=midW_take m (j+1)
 rw[List.take_succ_eq_append_getElem h,midW_app]at h1
 simp[midW]at h1⊢;omega
def putmG (N:Nat):List D→Option (Bool×D)
 | [.agg [.x (.int .i64 k),.x (.str a),.x (.str v),.x (.str hd),.x (.sl M),.x (.str t),.x (.sl L)]]=>(unrows rStr M).bind fun mm=>(unrows rFlt L).bind fun l=>some (decide (szF (.mk k a v hd mm t l)≤N∧wF (.mk k a v hd mm t l)≤300000),.x (.str (putX (.mk k a v hd mm t l))))
 |_=>none
theorem putmG_ok (N:Nat) (ih: ∀(f:Flt),szF f≤N∧wF f≤300000→PCalls Tryz.prog 55 [fltD f] (.x (.str (putX f)))): ∀args r,putmG N args=some (true,r)→PCalls Tryz.prog 55 args r:=by
 intro args r h
 unfold putmG at h
 split at h
 ·rename_i k a v hd M t L
  obtain⟨mm,hr0,h⟩:=ξB h
  obtain⟨l,hr1,h⟩:=ξB h
  simp only[ξI,ξP,ξa,ξe,true_and]at h
  obtain⟨h1,rfl⟩:=h
  rw[←rows_unrows good_rStr hr0]
  rw[←rows_unrows good_rFlt hr1]
  exact ih (.mk k a v hd mm t l) h1
 ·cases h
def tabFxI (g:List D→Option (Bool×D)):Tabs:=addQ (addQ (noTabs) 77 escRG) 55 g
theorem tabFxI_ok (g:List D→Option (Bool×D)) (hg: ∀args r,g args=some (true,r)→PCalls Tryz.prog 55 args r):SsOk Tryz.prog (tabFxI g):=addQ_ok (addQ_ok (noTabs_ok) (G_enters G_ok (p:=i77) rfl) escRG_ok) (G_enters G_ok (p:=i55) rfl) hg
theorem tabFxI_q77 (g:List D→Option (Bool×D)) (a:List D):(tabFxI g).q 77 a=escRG a:=rfl
theorem tabFxI_q55 (g:List D→Option (Bool×D)) (a:List D):(tabFxI g).q 55 a=g a:=rfl
theorem tabFxI_r (g:List D→Option (Bool×D)) (f:FuncId) (a:List D) (o:List Ob):(tabFxI g).r f a o=none:=rfl
theorem tabFxI_k (g:List D→Option (Bool×D)) (f:FuncId) (a:List D) (o:List Ob):(tabFxI g).k f a o=none:=rfl
set_option maxHeartbeats 1000000 in
theorem putR_c: ∀(N:Nat) (f:Flt),szF f≤N∧wF f≤300000→PCalls Tryz.prog 55 [fltD f] (.x (.str (putX f)))
 |0,.mk k a v h mm t l,hs=>by have:=hs.1;simp only[szF]at this;omega
 |N+1,.mk k a v h mm t l,hs=>by
  have ih:=putR_c N
  have hsz:szFL l≤N:=by have:=hs.1;simp only[szF]at this;omega
  have hwf:a.length+v.length+h.length+t.length+midW mm+5+wFL l≤300000:=by have:=hs.2;rwa [wF]at this
  have hmx:=midX_len mm
  have hpl:=putXL_len l
  have hev:=escS_len v
  have heh:=escS_len h
  have het:=escS_len t
  clear hs
  refine PCalls.wfA (fun hw=> ?_)
  have hl:l.length≤maxLen:=by have:=(hw 0 6 _ rfl).1;rwa [rows_len]at this
  have hml:mm.length≤maxLen:=by have:=(hw 0 4 _ rfl).1;rwa [rows_len]at this
  clear hw
  simp only[maxLen]at hl hml
  dsimp only[fltD]
  rw[putX]
  refine FCalls.pure (fcallsG (fz:=true) G_ok (p:=i55) rfl _ (ξ rfl) _ (fun C0 E0=> ?_)) rfl
  dsimp only[i55,qt,qi,qs,qb,qm,qa,qh,qj,qT,qF,qe,ql,qL,qf,q2,q3,q8,qz,qp,qP,qc,qk,qx,qy,qo,qr,qC,argsφ]
  have uu:=ξn @escRG.eq_1 (ξn @escRG.eq_2 (ξn @putmG.eq_1 (ξn @putmG.eq_2 (ξn @un_F (ξn @un_T (ξn @enc_rFlt (ξn @tabFxI_r (ξn @tabFxI_k (ξn @tabFxI_q55 (@tabFxI_q77))))))))))
  refine WI.seq ?_
  refine WI.regB (tabFxI_ok (putmG N) (putmG_ok N ih)) [1] ?_
  refine oG ?_
  refine oS ?_
  refine oN ?_
  refine thenQ_normal ?_
  refine WI.seq ?_
  refine WI.regB (tabFxI_ok (putmG N) (putmG_ok N ih)) [1,3] ?_
  refine oS ?_
  refine oN ?_
  refine thenQ_normal ?_
  refine WI.join (fun φ os=>φ= [(1,.ptr 0 0),(3,.x (.str (40::hdX k a v h mm t)))]∧os= [.box [.x (.int .i64 k),.x (.str a),.x (.str v),.x (.str h),.x (.sl (rows rStr mm)),.x (.str t),.x (.sl (rows rFlt l))]]) ?_ (fun φ os hJ=> ?_)
  ·refine WI.seq ?_
   refine WI.regB (tabFxI_ok (putmG N) (putmG_ok N ih)) [1,3,7] ?_
   refine oS ?_
   refine oG (hok:=by first|exact se|(rw[ξe];simp only[ξA,ξC,ξN];omega)|exact sd) ?_
   refine oN ?_
   refine thenQ_normal ?_
   refine WI.block ?_
   refine WI.seq ?_
   refine WI.regB (tabFxI_ok (putmG N) (putmG_ok N ih)) [1,3,7,43] ?_
   refine oG (hok:=by first|exact se|(rw[ξe];simp only[ξA,ξC,ξN];omega)|exact sd) ?_
   refine oS ?_
   refine oN ?_
   refine thenQ_normal ?_
   refine WI.cond (b:=_) rfl rfl (fun h0=> ?_) (fun h0=> ?_)
   ·try simp only[zB]at h0
    refine WI.regB (tabFxI_ok (putmG N) (putmG_ok N ih)) [1,3] ?_
    refine oS ?_
    refine oG (hok:=by first|exact se|(rw[ξe];simp only[ξA,ξC,ξN];omega)|exact sd) ?_
    refine oS ?_
    refine oN ?_
    refine blockQ_normal ?_
    refine thenQ_normal ?_
    refine⟨?_,rfl⟩;clear uu;simp only[hdX];(repeat' split)<;>first|rfl|(exfalso;omega)|(try rw[ξT (by omega)];simp)
   ·try simp only[zB]at h0
    refine WI.seq ?_
    refine WI.regB (tabFxI_ok (putmG N) (putmG_ok N ih)) [1,3,7,47] ?_
    refine oG (hok:=by first|exact se|(rw[ξe];simp only[ξA,ξC,ξN];omega)|exact sd) ?_
    refine oS ?_
    refine oN ?_
    refine thenQ_normal ?_
    refine WI.cond (b:=_) rfl rfl (fun h1=> ?_) (fun h1=> ?_)
    ·try simp only[zB]at h1
     refine WI.regB (tabFxI_ok (putmG N) (putmG_ok N ih)) [1,3] ?_
     refine oS ?_
     refine oG (hok:=by first|exact se|(rw[ξe];simp only[ξA,ξC,ξN];omega)|exact sd) ?_
     refine oS ?_
     refine oN ?_
     refine blockQ_normal ?_
     refine thenQ_normal ?_
     refine⟨?_,rfl⟩;clear uu;simp only[hdX];(repeat' split)<;>first|rfl|(exfalso;omega)|(try rw[ξT (by omega)];simp)
    ·try simp only[zB]at h1
     refine WI.seq ?_
     refine WI.regB (tabFxI_ok (putmG N) (putmG_ok N ih)) [1,3,7,51] ?_
     refine oG (hok:=by first|exact se|(rw[ξe];simp only[ξA,ξC,ξN];omega)|exact sd) ?_
     refine oS ?_
     refine oN ?_
     refine thenQ_normal ?_
     refine WI.cond (b:=_) rfl rfl (fun h2=> ?_) (fun h2=> ?_)
     ·try simp only[zB]at h2
      refine WI.regB (tabFxI_ok (putmG N) (putmG_ok N ih)) [1,3] ?_
      refine oS ?_
      refine oG (hok:=by first|exact se|(rw[ξe];simp only[ξA,ξC,ξN];omega)|exact sd) ?_
      refine oS ?_
      refine oN ?_
      refine blockQ_normal ?_
      refine thenQ_normal ?_
      refine⟨?_,rfl⟩;clear uu;simp only[hdX];(repeat' split)<;>first|rfl|(exfalso;omega)|(try rw[ξT (by omega)];simp)
     ·try simp only[zB]at h2
      refine WI.seq ?_
      refine WI.regB (tabFxI_ok (putmG N) (putmG_ok N ih)) [1,3,7,55] ?_
      refine oG (hok:=by first|exact se|(rw[ξe];simp only[ξA,ξC,ξN];omega)|exact sd) ?_
      refine oS ?_
      refine oN ?_
      refine thenQ_normal ?_
      refine WI.cond (b:=_) rfl rfl (fun h3=> ?_) (fun h3=> ?_)
      ·try simp only[zB]at h3
       refine WI.dregB (tabFxI_ok (putmG N) (putmG_ok N ih)) [1,3] ?_
       iterate 2 refine dFS ?_
       refine dQG (hok:=by first|exact se|(rw[ξe];simp only[ξA,ξC,ξN];omega)|exact sd) ?_
       iterate 2 refine dFG (hok:=by first|exact se|(rw[ξe];simp only[ξA,ξC,ξN];omega)|exact sd) ?_
       refine dFS ?_
       refine dQG (hok:=by first|exact se|(rw[ξe];simp only[ξA,ξC,ξN];omega)|exact sd) ?_
       refine dQC (hok:=by first|exact se|(rw[ξe];simp only[ξA,ξC,ξN];omega)|exact sd) ?_
       refine dFG (hok:=by first|exact se|(rw[ξe];simp only[ξA,ξC,ξN];omega)|exact sd) ?_
       refine dFS ?_
       refine dN ?_
       refine blockQ_normal ?_
       refine thenQ_normal ?_
       refine⟨?_,rfl⟩;clear uu;simp only[hdX];(repeat' split)<;>first|rfl|(exfalso;omega)|(try rw[ξT (by omega)];simp)
      ·try simp only[zB]at h3
       refine WI.seq ?_
       refine WI.regB (tabFxI_ok (putmG N) (putmG_ok N ih)) [1,3,7,66] ?_
       refine oG (hok:=by first|exact se|(rw[ξe];simp only[ξA,ξC,ξN];omega)|exact sd) ?_
       refine oS ?_
       refine oN ?_
       refine thenQ_normal ?_
       refine WI.cond (b:=_) rfl rfl (fun h4=> ?_) (fun h4=> ?_)
       ·try simp only[zB]at h4
        refine WI.dregB (tabFxI_ok (putmG N) (putmG_ok N ih)) [1,3] ?_
        iterate 2 refine dFS ?_
        refine dQG (hok:=by first|exact se|(rw[ξe];simp only[ξA,ξC,ξN];omega)|exact sd) ?_
        iterate 2 refine dFG (hok:=by first|exact se|(rw[ξe];simp only[ξA,ξC,ξN];omega)|exact sd) ?_
        refine dFS ?_
        refine dQG (hok:=by first|exact se|(rw[ξe];simp only[ξA,ξC,ξN];omega)|exact sd) ?_
        refine dQC (hok:=by first|exact se|(rw[ξe];simp only[ξA,ξC,ξN];omega)|exact sd) ?_
        refine dFG (hok:=by first|exact se|(rw[ξe];simp only[ξA,ξC,ξN];omega)|exact sd) ?_
        refine dFS ?_
        refine dN ?_
        refine blockQ_normal ?_
        refine thenQ_normal ?_
        refine⟨?_,rfl⟩;clear uu;simp only[hdX];(repeat' split)<;>first|rfl|(exfalso;omega)|(try rw[ξT (by omega)];simp)
       ·try simp only[zB]at h4
        refine WI.seq ?_
        refine WI.regB (tabFxI_ok (putmG N) (putmG_ok N ih)) [1,3,7,77] ?_
        refine oG (hok:=by first|exact se|(rw[ξe];simp only[ξA,ξC,ξN];omega)|exact sd) ?_
        refine oS ?_
        refine oN ?_
        refine thenQ_normal ?_
        refine WI.cond (b:=_) rfl rfl (fun h5=> ?_) (fun h5=> ?_)
        ·try simp only[zB]at h5
         refine WI.dregB (tabFxI_ok (putmG N) (putmG_ok N ih)) [1,3] ?_
         iterate 2 refine dFS ?_
         refine dQG (hok:=by first|exact se|(rw[ξe];simp only[ξA,ξC,ξN];omega)|exact sd) ?_
         iterate 2 refine dFG (hok:=by first|exact se|(rw[ξe];simp only[ξA,ξC,ξN];omega)|exact sd) ?_
         refine dFS ?_
         refine dQG (hok:=by first|exact se|(rw[ξe];simp only[ξA,ξC,ξN];omega)|exact sd) ?_
         refine dQC (hok:=by first|exact se|(rw[ξe];simp only[ξA,ξC,ξN];omega)|exact sd) ?_
         refine dFG (hok:=by first|exact se|(rw[ξe];simp only[ξA,ξC,ξN];omega)|exact sd) ?_
         refine dFS ?_
         refine dN ?_
         refine blockQ_normal ?_
         refine thenQ_normal ?_
         refine⟨?_,rfl⟩;clear uu;simp only[hdX];(repeat' split)<;>first|rfl|(exfalso;omega)|(try rw[ξT (by omega)];simp)
        ·try simp only[zB]at h5
         refine WI.seq ?_
         refine WI.regB (tabFxI_ok (putmG N) (putmG_ok N ih)) [1,3,7,88] ?_
         refine oG (hok:=by first|exact se|(rw[ξe];simp only[ξA,ξC,ξN];omega)|exact sd) ?_
         refine oS ?_
         refine oN ?_
         refine thenQ_normal ?_
         refine WI.cond (b:=_) rfl rfl (fun h6=> ?_) (fun h6=> ?_)
         ·try simp only[zB]at h6
          refine WI.dregB (tabFxI_ok (putmG N) (putmG_ok N ih)) [1,3] ?_
          iterate 2 refine dFS ?_
          refine dQG (hok:=by first|exact se|(rw[ξe];simp only[ξA,ξC,ξN];omega)|exact sd) ?_
          iterate 2 refine dFG (hok:=by first|exact se|(rw[ξe];simp only[ξA,ξC,ξN];omega)|exact sd) ?_
          refine dFS ?_
          refine dQG (hok:=by first|exact se|(rw[ξe];simp only[ξA,ξC,ξN];omega)|exact sd) ?_
          refine dQC (hok:=by first|exact se|(rw[ξe];simp only[ξA,ξC,ξN];omega)|exact sd) ?_
          refine dFG (hok:=by first|exact se|(rw[ξe];simp only[ξA,ξC,ξN];omega)|exact sd) ?_
          refine dFS ?_
          refine dN ?_
          refine blockQ_normal ?_
          refine thenQ_normal ?_
          refine⟨?_,rfl⟩;clear uu;simp only[hdX];(repeat' split)<;>first|rfl|(exfalso;omega)|(try rw[ξT (by omega)];simp)
         ·try simp only[zB]at h6
          refine WI.seq ?_
          refine WI.regB (tabFxI_ok (putmG N) (putmG_ok N ih)) [1,3,99] ?_
          refine oG (hok:=by first|exact se|(rw[ξe];simp only[ξA,ξC,ξN];omega)|exact sd) ?_
          refine oS ?_
          refine oN ?_
          refine thenQ_normal ?_
          refine WI.cond (b:=_) rfl rfl (fun h7=> ?_) (fun h7=> ?_)
          ·try simp only[zB]at h7
           refine WI.regB (tabFxI_ok (putmG N) (putmG_ok N ih)) [1,3] ?_
           iterate 2 refine oS ?_
           iterate 3 refine oG (hok:=by first|exact se|(rw[ξe];simp only[ξA,ξC,ξN];omega)|exact sd) ?_
           refine oS ?_
           refine oN ?_
           refine blockQ_normal ?_
           refine thenQ_normal ?_
           refine⟨?_,rfl⟩;clear uu;simp only[hdX];(repeat' split)<;>first|rfl|(exfalso;omega)|(try rw[ξT (by omega)];simp)
          ·try simp only[zB]at h7
           refine WI.seq ?_
           refine WI.dregB (tabFxI_ok (putmG N) (putmG_ok N ih)) [1,3] ?_
           iterate 2 refine dFS ?_
           refine dQG (hok:=by first|exact se|(rw[ξe];simp only[ξA,ξC,ξN];omega)|exact sd) ?_
           iterate 2 refine dFG (hok:=by first|exact se|(rw[ξe];simp only[ξA,ξC,ξN];omega)|exact sd) ?_
           iterate 2 refine dFS ?_
           refine dQG (hok:=by first|exact se|(rw[ξe];simp only[ξA,ξC,ξN];omega)|exact sd) ?_
           refine dQC (hok:=by first|exact se|(rw[ξe];simp only[ξA,ξC,ξN];omega)|exact sd) ?_
           iterate 2 refine dFG (hok:=by first|exact se|(rw[ξe];simp only[ξA,ξC,ξN];omega)|exact sd) ?_
           refine dFS ?_
           refine dN ?_
           refine thenQ_normal ?_
           refine WI.seq ?_
           refine WI.seq ?_
           refine WI.regB (tabFxI_ok (putmG N) (putmG_ok N ih)) [1,3,4] ?_
           refine oS ?_
           refine oN ?_
           refine thenQ_normal ?_
           refine WI.block ?_
           refine WI.loop (fun φ os=> ∃(j:Nat),φ= [(1,.ptr 0 0),(3,.x (.str (40::(a++([61]++(escS h++([42]++midX (mm.take j)))))))),(4,.x (.int .i64 j))]∧os= [.box [.x (.int .i64 k),.x (.str a),.x (.str v),.x (.str h),.x (.sl (rows rStr mm)),.x (.str t),.x (.sl (rows rFlt l))]]∧j≤mm.length) (down mm.length 4) ?_ (fun φ os hI=> ?_)
           ·exact⟨0,by simp[midX],rfl,by omega⟩
           ·obtain⟨j,rfl,rfl,hj⟩:=hI
            refine WI.seq ?_
            refine WI.seq ?_
            refine WI.regB (tabFxI_ok (putmG N) (putmG_ok N ih)) [1,3,4,24] ?_
            iterate 3 refine oS ?_
            iterate 3 refine oG (hok:=by first|exact se|(rw[ξe];simp only[ξA,ξC,ξN];omega)|exact sd) ?_
            refine oN ?_
            refine thenQ_normal ?_
            refine WI.cond (b:=_) rfl rfl (fun h8=> ?_) (fun h8=> ?_)
            ·try simp only[zB]at h8
             refine WI.skip ?_
             refine thenQ_normal ?_
             refine WI.seq ?_
             refine WI.block ?_
             have hj4:j<mm.length:=by omega
             have hjl:=midX_len (mm.take j)
             have hjw:=midW_take mm j
             have hjg:=midW_get mm j hj4
             have hje:=escS_len mm[j]
             have hst:=midX_snoc (mm.take j) mm[j]
             rw[←List.take_succ_eq_append_getElem hj4]at hst
             refine WI.regB (tabFxI_ok (putmG N) (putmG_ok N ih)) [1,3,4] ?_
             iterate 3 refine oS ?_
             refine oG (hok:=by first|exact se|(rw[ξe];simp only[ξA,ξC,ξN];omega)|exact sd) ?_
             refine oS ?_
             iterate 2 refine oG (hok:=by first|exact se|(rw[ξe];simp only[ξA,ξC,ξN];omega)|exact sd) ?_
             refine oC (hok:=by first|exact se|(rw[ξe];simp only[ξA,ξC,ξN];omega)|exact sd) ?_
             iterate 2 refine oG (hok:=by first|exact se|(rw[ξe];simp only[ξA,ξC,ξN];omega)|exact sd) ?_
             refine oS ?_
             refine oN ?_
             refine blockQ_normal ?_
             refine thenQ_normal ?_
             refine WI.regB (tabFxI_ok (putmG N) (putmG_ok N ih)) [1,3,4] ?_
             refine oS ?_
             refine oG (hok:=by first|exact se|(rw[ξe];simp only[ξA,ξC,ξN];omega)|exact sd) ?_
             refine oS ?_
             refine oN ?_
             refine thenQ_normal ?_
             exact⟨⟨j+1,by rw[hst];simp,rfl,by omega⟩,by simp[down,Ab.get,D.val,intOf?];omega⟩
            ·try simp only[zB]at h8
             refine WI.exit ?_
             refine thenQ_exit ?_
             refine thenQ_exit ?_
             refine blockQ_hit ?_
             refine thenQ_normal ?_
             refine WI.regB (tabFxI_ok (putmG N) (putmG_ok N ih)) [1,3] ?_
             iterate 3 refine oS ?_
             refine oG (hok:=by first|exact se|(rw[ξe];simp only[ξA,ξC,ξN];omega)|exact sd) ?_
             refine oC (hok:=by first|exact se|(rw[ξe];simp only[ξA,ξC,ξN];omega)|exact sd) ?_
             refine oG (hok:=by first|exact se|(rw[ξe];simp only[ξA,ξC,ξN];omega)|exact sd) ?_
             refine oS ?_
             refine oN ?_
             refine blockQ_normal ?_
             refine thenQ_normal ?_
             refine⟨?_,rfl⟩;clear uu;simp only[hdX];(repeat' split)<;>first|rfl|(exfalso;omega)|(try rw[ξT (by omega)];simp)
  ·obtain⟨rfl,rfl⟩:=hJ
   refine WI.seq ?_
   refine WI.seq ?_
   refine WI.regB (tabFxI_ok (putmG N) (putmG_ok N ih)) [1,3,5] ?_
   refine oS ?_
   refine oN ?_
   refine thenQ_normal ?_
   refine WI.block ?_
   refine WI.loop (fun φ os=> ∃(j:Nat),φ= [(1,.ptr 0 0),(3,.x (.str (40::(hdX k a v h mm t++putXL (l.take j))))),(5,.x (.int .i64 j))]∧os= [.box [.x (.int .i64 k),.x (.str a),.x (.str v),.x (.str h),.x (.sl (rows rStr mm)),.x (.str t),.x (.sl (rows rFlt l))]]∧j≤l.length) (down l.length 5) ?_ (fun φ os hI=> ?_)
   ·exact⟨0,by simp[putXL],rfl,by omega⟩
   ·obtain⟨j,rfl,rfl,hj⟩:=hI
    refine WI.seq ?_
    refine WI.seq ?_
    refine WI.regB (tabFxI_ok (putmG N) (putmG_ok N ih)) [1,3,5,110] ?_
    iterate 2 refine oS ?_
    iterate 3 refine oG (hok:=by first|exact se|(rw[ξe];simp only[ξA,ξC,ξN];omega)|exact sd) ?_
    refine oN ?_
    refine thenQ_normal ?_
    refine WI.cond (b:=_) rfl rfl (fun h9=> ?_) (fun h9=> ?_)
    ·try simp only[zB]at h9
     refine WI.skip ?_
     refine thenQ_normal ?_
     refine WI.seq ?_
     refine WI.block ?_
     have hj4:j<l.length:=by omega
     have hs1:szF l[j]≤N:=Nat.le_trans (szFL_get l j hj4) hsz
     have hw1:wF l[j]≤300000:=Nat.le_trans (wFL_get l j hj4) (by omega)
     have hst:=putXL_snoc (l.take j) l[j]
     rw[←List.take_succ_eq_append_getElem hj4]at hst
     have hq1:=putXL_len (l.take j)
     have hq2:=wFL_take l j
     have hq3:=putX_len l[j]
     have hq4:=hdX_len k a v h mm t
     rcases hx:l[j]with⟨k1,a1,v1,h1',m1,t1,l1⟩
     rw[hx]at hs1 hst hw1 hq3
     have uu:=ξn uu hx
     refine WI.regB (tabFxI_ok (putmG N) (putmG_ok N ih)) [1,3,5] ?_
     iterate 2 refine oS ?_
     refine oG (hok:=by first|exact se|(rw[ξe];simp only[ξA,ξC,ξN];omega)|exact sd) ?_
     refine oS ?_
     iterate 2 refine oG (hok:=by first|exact se|(rw[ξe];simp only[ξA,ξC,ξN];omega)|exact sd) ?_
     refine oC (hok:=by first|exact se|(rw[ξe];simp only[ξA,ξC,ξN];omega)|exact sd) ?_
     refine oG (hok:=by first|exact se|(rw[ξe];simp only[ξA,ξC,ξN];omega)|exact sd) ?_
     refine oS ?_
     refine oN ?_
     refine blockQ_normal ?_
     refine thenQ_normal ?_
     refine WI.regB (tabFxI_ok (putmG N) (putmG_ok N ih)) [1,3,5] ?_
     refine oS ?_
     refine oG (hok:=by first|exact se|(rw[ξe];simp only[ξA,ξC,ξN];omega)|exact sd) ?_
     refine oS ?_
     refine oN ?_
     refine thenQ_normal ?_
     exact⟨⟨j+1,by rw[hst];simp,rfl,by omega⟩,by simp[down,Ab.get,D.val,intOf?];omega⟩
    ·try simp only[zB]at h9
     have hq1:=putXL_len (l.take j)
     have hq2:=wFL_take l j
     have hq4:=hdX_len k a v h mm t
     refine WI.exit ?_
     refine thenQ_exit ?_
     refine thenQ_exit ?_
     refine blockQ_hit ?_
     refine thenQ_normal ?_
     refine WI.seq ?_
     refine WI.regB (tabFxI_ok (putmG N) (putmG_ok N ih)) [2] ?_
     refine oS ?_
     refine oG (hok:=by first|exact se|(rw[ξe];simp only[ξA,ξC,ξN];omega)|exact sd) ?_
     refine oS ?_
     refine oN ?_
     refine thenQ_normal ?_
     refine WI.ret ?_
     first|refine lfR ?_|refine lfR2 ?_
     rw[ξT (by omega)];simp
def putRG:List D→Option (Bool×D)
 | [.agg [.x (.int .i64 k),.x (.str a),.x (.str v),.x (.str hd),.x (.sl M),.x (.str t),.x (.sl L)]]=>(unrows rStr M).bind fun mm=>(unrows rFlt L).bind fun l=>some (decide (wF (.mk k a v hd mm t l)≤300000),.x (.str (putX (.mk k a v hd mm t l))))
 |_=>none
theorem putRG_ok: ∀args r,putRG args=some (true,r)→PCalls Tryz.prog 55 args r:=by
 intro args r h
 unfold putRG at h
 split at h
 ·rename_i k a v hd M t L
  obtain⟨mm,hr0,h⟩:=ξB h
  obtain⟨l,hr1,h⟩:=ξB h
  simp only[ξI,ξP,ξa,ξe,true_and]at h
  obtain⟨h1,rfl⟩:=h
  rw[←rows_unrows good_rStr hr0]
  rw[←rows_unrows good_rFlt hr1]
  exact putR_c _ (.mk k a v hd mm t l) ⟨Nat.le_refl _,h1⟩
 ·cases h
def chkF (f:Flt):Int:=if(depF f 64:Int)>16 then 7 else allF f
def all1G:List D→Option (Bool×D)
 | [.agg [.x (.int .i64 k),.x (.str a),.x (.str v),.x (.str hd),.x (.sl M),.x (.str t),.x (.sl L)]]=>(unrows rStr M).bind fun mm=>(unrows rFlt L).bind fun l=>some (decide (smF (.mk k a v hd mm t l)),.x (.int .i64 (allF (.mk k a v hd mm t l))))
 |_=>none
theorem all1G_ok: ∀args r,all1G args=some (true,r)→PCalls Tryz.prog 68 args r:=by
 intro args r h
 unfold all1G at h
 split at h
 ·rename_i k a v hd M t L
  obtain⟨mm,hr0,h⟩:=ξB h
  obtain⟨l,hr1,h⟩:=ξB h
  simp only[ξI,ξP,ξa,ξe,true_and]at h
  obtain⟨h1,rfl⟩:=h
  rw[←rows_unrows good_rStr hr0]
  rw[←rows_unrows good_rFlt hr1]
  exact all_c _ (.mk k a v hd mm t l) ⟨Nat.le_refl _,h1⟩
 ·cases h
def allD1G:List D→Option (Bool×D)
 | [.agg [.x (.int .i64 k),.x (.str a),.x (.str v),.x (.str hd),.x (.sl M),.x (.str t),.x (.sl L)]]=>(unrows rStr M).bind fun mm=>(unrows rFlt L).bind fun l=>some (decide (smF (.mk k a v hd mm t l)),.x (.int .i64 (allF (.mk k a v hd mm t l))))
 |_=>none
theorem allD1G_ok: ∀args r,allD1G args=some (true,r)→PCalls Tryz.prog 76 args r:=by
 intro args r h
 unfold allD1G at h
 split at h
 ·rename_i k a v hd M t L
  obtain⟨mm,hr0,h⟩:=ξB h
  obtain⟨l,hr1,h⟩:=ξB h
  simp only[ξI,ξP,ξa,ξe,true_and]at h
  obtain⟨h1,rfl⟩:=h
  rw[←rows_unrows good_rStr hr0]
  rw[←rows_unrows good_rFlt hr1]
  exact allD_c _ (.mk k a v hd mm t l) ⟨Nat.le_refl _,h1⟩
 ·cases h
def deep1G:List D→Option (Bool×D)
 | [.agg [.x (.int .i64 k),.x (.str a),.x (.str v),.x (.str hd),.x (.sl M),.x (.str t),.x (.sl L)],.x (.int .i64 64)]=>(unrows rStr M).bind fun mm=>(unrows rFlt L).bind fun l=>some (true,.x (.int .i64 (depF (.mk k a v hd mm t l) 64:Nat)))
 |_=>none
theorem deep1G_ok: ∀args r,deep1G args=some (true,r)→PCalls Tryz.prog 94 args r:=by
 intro args r h
 unfold deep1G at h
 split at h
 ·rename_i k a v hd M t L
  obtain⟨mm,hr0,h⟩:=ξB h
  obtain⟨l,hr1,h⟩:=ξB h
  simp only[ξI,ξP,ξa,ξe,true_and]at h
  obtain rfl:=h
  rw[←rows_unrows good_rStr hr0]
  rw[←rows_unrows good_rFlt hr1]
  exact deep_c _ (.mk k a v hd mm t l) 64 ⟨Nat.le_refl _,by omega,by omega⟩
 ·cases h
def tabFxJ:Tabs:=addQ (noTabs) 94 deep1G
theorem tabFxJ_ok:SsOk Tryz.prog tabFxJ:=addQ_ok (noTabs_ok) (G_enters G_ok (p:=i94) rfl) deep1G_ok
theorem tabFxJ_q94 (a:List D):tabFxJ.q 94 a=deep1G a:=rfl
theorem tabFxJ_r (f:FuncId) (a:List D) (o:List Ob):tabFxJ.r f a o=none:=rfl
theorem tabFxJ_k (f:FuncId) (a:List D) (o:List Ob):tabFxJ.k f a o=none:=rfl
theorem DepthD_c (f:Flt):PCalls Tryz.prog 75 [fltD f] (.x (.int .i64 (depF f 64:Nat))):=by
 obtain⟨k,a,v,h,mm,t,l⟩:=f
 dsimp only[fltD]
 refine FCalls.pure (fcallsG (fz:=true) G_ok (p:=i75) rfl _ (ξ rfl) _ (fun C0 E0=> ?_)) rfl
 dsimp only[i75,qt,qi,qs,qb,qm,qa,qh,qj,qT,qF,qe,ql,qL,qf,q2,q3,q8,qz,qp,qP,qc,qk,qx,qy,qo,qr,qC,argsφ]
 have uu:=ξn @deep1G.eq_1 (ξn @deep1G.eq_2 (ξn @un_F (ξn @un_T (ξn @tabFxJ_r (ξn @tabFxJ_k (@tabFxJ_q94))))))
 have tT:=tabFxJ_ok
 refine nz ?_
 refine rg tT [1] ?_
 refine rg tT [2] ?_
 refine lf ?_
 first|rfl|exact⟨rfl,rfl⟩|trivial
def DepDG:List D→Option (Bool×D)
 | [.agg [.x (.int .i64 k),.x (.str a),.x (.str v),.x (.str hd),.x (.sl M),.x (.str t),.x (.sl L)]]=>(unrows rStr M).bind fun mm=>(unrows rFlt L).bind fun l=>some (true,.x (.int .i64 (depF (.mk k a v hd mm t l) 64:Nat)))
 |_=>none
theorem DepDG_ok: ∀args r,DepDG args=some (true,r)→PCalls Tryz.prog 75 args r:=by
 intro args r h
 unfold DepDG at h
 split at h
 ·rename_i k a v hd M t L
  obtain⟨mm,hr0,h⟩:=ξB h
  obtain⟨l,hr1,h⟩:=ξB h
  simp only[ξI,ξP,ξa,ξe,true_and]at h
  obtain rfl:=h
  rw[←rows_unrows good_rStr hr0]
  rw[←rows_unrows good_rFlt hr1]
  exact DepthD_c (.mk k a v hd mm t l)
 ·cases h
def tabFxK:Tabs:=addQ (addQ (noTabs) 67 Dep11G) 68 all1G
theorem tabFxK_ok:SsOk Tryz.prog tabFxK:=addQ_ok (addQ_ok (noTabs_ok) (G_enters G_ok (p:=i67) rfl) Dep11G_ok) (G_enters G_ok (p:=i68) rfl) all1G_ok
theorem tabFxK_q67 (a:List D):tabFxK.q 67 a=Dep11G a:=rfl
theorem tabFxK_q68 (a:List D):tabFxK.q 68 a=all1G a:=rfl
theorem tabFxK_r (f:FuncId) (a:List D) (o:List Ob):tabFxK.r f a o=none:=rfl
theorem tabFxK_k (f:FuncId) (a:List D) (o:List Ob):tabFxK.k f a o=none:=rfl
def tabFxL:Tabs:=addQ (addQ (noTabs) 75 DepDG) 76 allD1G
theorem tabFxL_ok:SsOk Tryz.prog tabFxL:=addQ_ok (addQ_ok (noTabs_ok) (G_enters G_ok (p:=i75) rfl) DepDG_ok) (G_enters G_ok (p:=i76) rfl) allD1G_ok
theorem tabFxL_q75 (a:List D):tabFxL.q 75 a=DepDG a:=rfl
theorem tabFxL_q76 (a:List D):tabFxL.q 76 a=allD1G a:=rfl
theorem tabFxL_r (f:FuncId) (a:List D) (o:List Ob):tabFxL.r f a o=none:=rfl
theorem tabFxL_k (f:FuncId) (a:List D) (o:List Ob):tabFxL.k f a o=none:=rfl
theorem chk_c (f:Flt) (hs:smF f):PCalls Tryz.prog 47 [fltD f] (.x (.int .i64 (chkF f))):=by
 obtain⟨k,a,v,h,mm,t,l⟩:=f
 dsimp only[fltD]
 unfold chkF
 refine FCalls.pure (fcallsG (fz:=true) G_ok (p:=i47) rfl _ (ξ rfl) _ (fun C0 E0=> ?_)) rfl
 dsimp only[i47,qt,qi,qs,qb,qm,qa,qh,qj,qT,qF,qe,ql,qL,qf,q2,q3,q8,qz,qp,qP,qc,qk,qx,qy,qo,qr,qC,argsφ]
 have uu:=ξn @Dep11G.eq_1 (ξn @Dep11G.eq_2 (ξn @all1G.eq_1 (ξn @all1G.eq_2 (ξn @un_F (ξn @un_T (ξn @tabFxK_r (ξn @tabFxK_k (ξn @tabFxK_q67 (@tabFxK_q68)))))))))
 have tT:=tabFxK_ok
 refine nz ?_
 refine WI.regB tT [1] ?_
 refine oG ?_
 refine oS ?_
 refine oN ?_
 refine nz ?_
 refine WI.regB tT [1,5] ?_
 refine oG (hok:=by first|exact se|(exact ξt hs)|exact sd) ?_
 refine oC (hok:=by first|exact se|(exact ξt hs)|exact sd) ?_
 refine oG (hok:=by first|exact se|(exact ξt hs)|exact sd) ?_
 refine oN ?_
 refine nz ?_
 refine cd (fun h0=> ?_) (fun h0=> ?_)
 ·refine WI.regB tT [2] ?_
  refine oS ?_
  refine oN ?_
  refine nz ?_
  refine lf ?_
  rw[if_pos (by simpa using h0)]
 ·refine WI.regB tT [2] ?_
  refine oG (hok:=by first|exact se|(exact ξt hs)|exact sd) ?_
  refine oC (hok:=by first|exact se|(exact ξt hs)|exact sd) ?_
  refine oS ?_
  refine oN ?_
  refine nz ?_
  refine lf ?_
  rw[if_neg (by simpa using h0)]
theorem chkD_c (f:Flt) (hs:smF f):PCalls Tryz.prog 54 [fltD f] (.x (.int .i64 (chkF f))):=by
 obtain⟨k,a,v,h,mm,t,l⟩:=f
 dsimp only[fltD]
 unfold chkF
 refine FCalls.pure (fcallsG (fz:=true) G_ok (p:=i54) rfl _ (ξ rfl) _ (fun C0 E0=> ?_)) rfl
 dsimp only[i54,qt,qi,qs,qb,qm,qa,qh,qj,qT,qF,qe,ql,qL,qf,q2,q3,q8,qz,qp,qP,qc,qk,qx,qy,qo,qr,qC,argsφ]
 have uu:=ξn @DepDG.eq_1 (ξn @DepDG.eq_2 (ξn @allD1G.eq_1 (ξn @allD1G.eq_2 (ξn @un_F (ξn @un_T (ξn @tabFxL_r (ξn @tabFxL_k (ξn @tabFxL_q75 (@tabFxL_q76)))))))))
 have tT:=tabFxL_ok
 refine nz ?_
 refine WI.regB tT [1] ?_
 refine oG ?_
 refine oS ?_
 refine oN ?_
 refine nz ?_
 refine WI.regB tT [1,5] ?_
 refine oG (hok:=by first|exact se|(exact ξt hs)|exact sd) ?_
 refine oC (hok:=by first|exact se|(exact ξt hs)|exact sd) ?_
 refine oG (hok:=by first|exact se|(exact ξt hs)|exact sd) ?_
 refine oN ?_
 refine nz ?_
 refine cd (fun h0=> ?_) (fun h0=> ?_)
 ·refine WI.regB tT [2] ?_
  refine oS ?_
  refine oN ?_
  refine nz ?_
  refine lf ?_
  rw[if_pos (by simpa using h0)]
 ·refine WI.regB tT [2] ?_
  refine oG (hok:=by first|exact se|(exact ξt hs)|exact sd) ?_
  refine oC (hok:=by first|exact se|(exact ξt hs)|exact sd) ?_
  refine oS ?_
  refine oN ?_
  refine nz ?_
  refine lf ?_
  rw[if_neg (by simpa using h0)]
def chkG:List D→Option (Bool×D)
 | [.agg [.x (.int .i64 k),.x (.str a),.x (.str v),.x (.str hd),.x (.sl M),.x (.str t),.x (.sl L)]]=>(unrows rStr M).bind fun mm=>(unrows rFlt L).bind fun l=>some (decide (smF (.mk k a v hd mm t l)),.x (.int .i64 (chkF (.mk k a v hd mm t l))))
 |_=>none
theorem chkG_ok: ∀args r,chkG args=some (true,r)→PCalls Tryz.prog 47 args r:=by
 intro args r h
 unfold chkG at h
 split at h
 ·rename_i k a v hd M t L
  obtain⟨mm,hr0,h⟩:=ξB h
  obtain⟨l,hr1,h⟩:=ξB h
  simp only[ξI,ξP,ξa,ξe,true_and]at h
  obtain⟨h1,rfl⟩:=h
  rw[←rows_unrows good_rStr hr0]
  rw[←rows_unrows good_rFlt hr1]
  exact chk_c (.mk k a v hd mm t l) h1
 ·cases h
def chkDG:List D→Option (Bool×D)
 | [.agg [.x (.int .i64 k),.x (.str a),.x (.str v),.x (.str hd),.x (.sl M),.x (.str t),.x (.sl L)]]=>(unrows rStr M).bind fun mm=>(unrows rFlt L).bind fun l=>some (decide (smF (.mk k a v hd mm t l)),.x (.int .i64 (chkF (.mk k a v hd mm t l))))
 |_=>none
theorem chkDG_ok: ∀args r,chkDG args=some (true,r)→PCalls Tryz.prog 54 args r:=by
 intro args r h
 unfold chkDG at h
 split at h
 ·rename_i k a v hd M t L
  obtain⟨mm,hr0,h⟩:=ξB h
  obtain⟨l,hr1,h⟩:=ξB h
  simp only[ξI,ξP,ξa,ξe,true_and]at h
  obtain⟨h1,rfl⟩:=h
  rw[←rows_unrows good_rStr hr0]
  rw[←rows_unrows good_rFlt hr1]
  exact chkD_c (.mk k a v hd mm t l) h1
 ·cases h
def tabFxM:Tabs:=addQ (addQ (noTabs) 54 chkDG) 55 putRG
theorem tabFxM_ok:SsOk Tryz.prog tabFxM:=addQ_ok (addQ_ok (noTabs_ok) (G_enters G_ok (p:=i54) rfl) chkDG_ok) (G_enters G_ok (p:=i55) rfl) putRG_ok
theorem tabFxM_q54 (a:List D):tabFxM.q 54 a=chkDG a:=rfl
theorem tabFxM_q55 (a:List D):tabFxM.q 55 a=putRG a:=rfl
theorem tabFxM_r (f:FuncId) (a:List D) (o:List Ob):tabFxM.r f a o=none:=rfl
theorem tabFxM_k (f:FuncId) (a:List D) (o:List Ob):tabFxM.k f a o=none:=rfl
def putF (f:Flt):Txt×Int:=if chkF f≠0 then([],chkF f)else if(putX f).length>4096 then([],3)else(putX f,0)
theorem PutD_c (f:Flt) (hw:wF f≤300000):PCalls Tryz.prog 39 [fltD f] (.tup [.x (.str (putF f).1),.x (.int .i64 (putF f).2)]):=by
 have hs:=sm_w f (by omega)
 have hpl:=putX_len f
 obtain⟨k,a,v,h,mm,t,l⟩:=f
 dsimp only[fltD]
 unfold putF
 refine FCalls.pure (fcallsG (fz:=true) G_ok (p:=i39) rfl _ (ξ rfl) _ (fun C0 E0=> ?_)) rfl
 dsimp only[i39,qt,qi,qs,qb,qm,qa,qh,qj,qT,qF,qe,ql,qL,qf,q2,q3,q8,qz,qp,qP,qc,qk,qx,qy,qo,qr,qC,argsφ]
 have uu:=ξn @chkDG.eq_1 (ξn @chkDG.eq_2 (ξn @putRG.eq_1 (ξn @putRG.eq_2 (ξn @un_F (ξn @un_T (ξn @tabFxM_r (ξn @tabFxM_k (ξn @tabFxM_q54 (@tabFxM_q55)))))))))
 have tT:=tabFxM_ok
 refine nz ?_
 refine WI.regB tT [1] ?_
 refine oG ?_
 iterate 2 refine oS ?_
 refine oN ?_
 refine nz ?_
 refine WI.regB tT [1,4] ?_
 refine oG (hok:=by first|exact se|(exact ξt hs)|(exact ξt hw)|exact sd) ?_
 refine oC (hok:=by first|exact se|(exact ξt hs)|(exact ξt hw)|exact sd) ?_
 refine oS ?_
 refine oN ?_
 refine nz ?_
 refine WI.regB tT [1,4,9] ?_
 refine oS ?_
 refine oG (hok:=by first|exact se|(exact ξt hs)|(exact ξt hw)|exact sd) ?_
 refine oN ?_
 refine nz ?_
 refine cd (fun h0=> ?_) (fun h0=> ?_)
 ·refine WI.regB tT [2,3] ?_
  iterate 3 refine oS ?_
  refine oN ?_
  refine nz ?_
  refine lf ?_
  rw[if_pos (by simpa using h0)]
 ·refine WI.regB tT [5] ?_
  refine oG (hok:=by first|exact se|(exact ξt hs)|(exact ξt hw)|exact sd) ?_
  refine oC (hok:=by first|exact se|(exact ξt hs)|(exact ξt hw)|exact sd) ?_
  refine oS ?_
  refine oN ?_
  refine nz ?_
  refine WI.regB tT [5,15] ?_
  refine oS ?_
  iterate 2 refine oG (hok:=by first|exact se|(exact ξt hs)|(exact ξt hw)|exact sd) ?_
  refine oN ?_
  refine nz ?_
  refine cd (fun h1=> ?_) (fun h1=> ?_)
  ·refine WI.regB tT [2,3] ?_
   iterate 2 refine oS ?_
   refine oN ?_
   refine nz ?_
   refine lf ?_
   rw[if_neg (by simpa using h0),if_pos (by omega)]
  ·refine WI.regB tT [2,3] ?_
   iterate 3 refine oS ?_
   refine oN ?_
   refine nz ?_
   refine lf ?_
   rw[if_neg (by simpa using h0),if_neg (by omega)]
def PutDG:List D→Option (Bool×D)
 | [.agg [.x (.int .i64 k),.x (.str a),.x (.str v),.x (.str hd),.x (.sl M),.x (.str t),.x (.sl L)]]=>(unrows rStr M).bind fun mm=>(unrows rFlt L).bind fun l=>some (decide (wF (.mk k a v hd mm t l)≤300000),.tup [.x (.str (putF (.mk k a v hd mm t l)).1),.x (.int .i64 (putF (.mk k a v hd mm t l)).2)])
 |_=>none
theorem PutDG_ok: ∀args r,PutDG args=some (true,r)→PCalls Tryz.prog 39 args r:=by
 intro args r h
 unfold PutDG at h
 split at h
 ·rename_i k a v hd M t L
  obtain⟨mm,hr0,h⟩:=ξB h
  obtain⟨l,hr1,h⟩:=ξB h
  simp only[ξI,ξP,ξa,ξe,true_and]at h
  obtain⟨h1,rfl⟩:=h
  rw[←rows_unrows good_rStr hr0]
  rw[←rows_unrows good_rFlt hr1]
  exact PutD_c (.mk k a v hd mm t l) h1
 ·cases h
theorem loopF_w (r:Txt→Flt×Txt×Bool) (hr: ∀s,(r s).2.2=true→wF (r s).1+6*(r s).2.1.length≤6*s.length): ∀(n:Nat) (l:List Flt) (s:Txt),(loopF r n l s).2.2=true→wFL (loopF r n l s).1+6*(loopF r n l s).2.1.length+6≤wFL l+6*s.length
 |0,l,s,h=>by simp[loopF]at h
 |n+1,l,[],h=>by rw[loop_nil]at h;cases h
 |n+1,l,c::s,h=>by
  by_cases h40:c=40
  ·cases hq:(r (c::s)).2.2 with
   |false=>rw[loop_fail r n l c s h40 hq]at h;cases h
   |true=>
    rw[loop_go r n l c s h40 hq]at h⊢
    have h1:=loopF_w r hr n _ _ h
    have h2:=hr _ hq
    rw[wFL_app]at h1
    simp only[wFL]at h1
    omega
  ·by_cases h41:c=41
   ·rw[loop_end r n l s c h41];simp;omega
   ·rw[loop_no r n l c s h40 h41]at h;cases h
theorem unE_c (c:UInt8) (s:Txt) (hc:c≠92):unE (c::s)=(unE s).map (c:: ·):=by
 conv=>lhs;unfold unE
 rw[if_neg hc]
theorem unE_e (x y:UInt8) (s:Txt):unE (92::x::y::s)=if hx x<16∧hx y<16 then(unE s).map (hxV x y:: ·)else none:=by
 conv=>lhs;unfold unE
 rw[if_pos rfl]
theorem unE_len: ∀(n:Nat) (s b:Txt),s.length≤n→unE s=some b→b.length≤s.length
 |_,[],b,_,h=>by rw[show unE []=some []from rfl]at h;cases h;simp
 |n+1,c::s,b,hn,h=>by
  by_cases hc:c=92
  ·subst hc
   rcases s with _|⟨x,_|⟨y,r⟩⟩
   ·exact absurd h (by simp[show unE [92]=none from rfl])
   ·exact absurd h (by simp[show unE [92,x]=none from rfl])
   ·rw[unE_e]at h
    split at h
    ·obtain⟨b',h1,rfl⟩:=ξM h
     have:=unE_len n r b' (by simp at hn;omega) h1
     simp;omega
    ·cases h
  ·rw[unE_c c s hc]at h
   obtain⟨b',h1,rfl⟩:=ξM h
   have:=unE_len n s b' (by simp at hn;omega) h1
   simp;omega
theorem valF_len (s:Txt):(valF s).1.length≤s.length:=by
 unfold valF
 split
 ·simp
 ·rename_i b e;exact unE_len _ s b (Nat.le_refl _) e
theorem unR_cc (c:UInt8) (s:Txt) (hc:c≠92):unR (c::s)=c::unR s:=by
 conv=>lhs;unfold unR
 rw[if_neg hc]
theorem unR_e (x y:UInt8) (s:Txt):unR (92::x::y::s)=if hx x<16∧hx y<16 then hxV x y::unR s else 92::unR (x::y::s):=by
 conv=>lhs;unfold unR
 rw[if_pos rfl]
theorem unR_len: ∀(n:Nat) (s:Txt),s.length≤n→(unR s).length≤s.length
 |_,[],_=>by simp[unR]
 |n+1,c::s,hn=>by
  by_cases hc:c=92
  ·subst hc
   rcases s with _|⟨x,_|⟨y,r⟩⟩
   ·rw[show unR [92]= [92]from rfl];simp
   ·have:=unR_len n [x] (by simp at hn⊢;omega)
    rw[show unR [92,x]=92::unR [x]from rfl];simp at this⊢;omega
   ·rw[unR_e]
    split
    ·have:=unR_len n r (by simp at hn;omega);simp;omega
    ·have:=unR_len n (x::y::r) (by simp at hn⊢;omega);simp at this⊢;omega
  ·rw[unR_cc c s hc]
   have:=unR_len n s (by simp at hn;omega)
   simp;omega
theorem spl_w (c:UInt8): ∀s:Txt,midW (spl c s)=s.length+1
 | []=>by simp[spl,midW]
 |b::l=>by
  have ih:=spl_w c l
  unfold spl
  split
  ·unfold midW at ih⊢;simp only[List.map_cons,List.sum_cons,ξN,ih,ξC];omega
  ·split
   ·rename_i x r e;rw[e]at ih;unfold midW at ih⊢;simp only[List.map_cons,List.sum_cons,ξC]at ih⊢;omega
   ·rename_i e;exact absurd e (spl_ne c l)
theorem midW_map (g:Txt→Txt) (hg: ∀s,(g s).length≤s.length): ∀l,midW (l.map g)≤midW l
 | []=>by simp[midW]
 |x::l=>by
  have ih:=midW_map g hg l
  have:=hg x
  unfold midW at ih⊢;simp only[List.map_cons,List.sum_cons];omega
theorem mid_three (l:List Txt) (h:2≤l.length):(l.getD 0 []).length+midW ((l.take (l.length-1)).drop 1)+(l.getD (l.length-1) []).length+2=midW l:=by
 obtain⟨a,m,b,rfl⟩: ∃a m b,l=a::(m++ [b]):=by
  rcases l with _|⟨a,r⟩
  ·simp at h
  ·refine⟨a,r.dropLast,r.getLast (by intro e;subst e;simp at h),?_⟩
   rw[List.dropLast_concat_getLast]
 have e:(a::(m++ [b])).length-1=m.length+1:=by simp
 rw[e]
 simp[midW];omega
theorem subF_w (q:List Txt) (h:1<q.length):(subF q).1.1.length+midW (subF q).1.2.1+(subF q).1.2.2.length≤midW q:=by
 unfold subF
 split
 ·have h5:=mid_three (q.map fun s=>(valF s).1) (by rw[List.length_map];omega)
  have h4:=midW_map (fun s=>(valF s).1) valF_len q
  rw[List.length_map]at h5
  refine Nat.le_trans ?_ h4
  rw[←h5]
  exact Nat.le_add_right _ 2
 ·exact Nat.zero_le _
theorem wF_mk (k:Int) (a v h:Txt) (m:List Txt) (t:Txt):wF (.mk k a v h m t [])=a.length+v.length+h.length+t.length+midW m+5:=by
 rw[wF,wFL]
theorem midW_nil:midW []=0:=rfl
theorem restF_w (k:Int×Txt) (rest:Txt):wF (restF k rest).1≤k.2.length+rest.length+6:=by
 have h1:=valF_len rest
 unfold restF
 split
 ·rw[wF_mk,midW_nil];simp only[ξN];omega
 ·split
  ·rename_i h
   have h2:=subF_w (spl 42 rest) h.2
   have h3:=spl_w 42 rest
   rw[wF_mk];simp only[ξN];omega
  ·rw[wF_mk,midW_nil];simp;omega
theorem cutB_two (c:UInt8): ∀s:Txt,(cutB c s).2.2=true→(cutB c s).1.length+(cutB c s).2.1.length+1=s.length
 | [],h=>by simp[cutB]at h
 |b::l,h=>by
  unfold cutB at h⊢
  split at h
  ·rename_i e;rw[if_pos e];simp
  ·rename_i e;rw[if_neg e];simp at h⊢;have:=cutB_two c l h;omega
theorem leafF_w (s:Txt):wF (leafF s).1≤s.length+6:=by
 unfold leafF
 split
 ·rename_i h
  have h1:=restF_w (kindF (cutB 61 s).1) (cutB 61 s).2.1
  have h2:=kindF_len (cutB 61 s).1
  have h3:=cutB_two 61 s h
  omega
 ·simp[zF,wF,wFL,midW]
theorem readF_w: ∀(d:Nat) (s:Txt),(readF d s).2.2=true→wF (readF d s).1+6*(readF d s).2.1.length≤6*s.length
 |0,s,h=>by simp[readF]at h
 |d+1,s,h=>by
  have ih:=loopF_w (readF d) (readF_w d) ((s.drop 2).length+1) [] (s.drop 2)
  unfold readF at h⊢
  split at h
  ·cases h
  ·rename_i h2
   rw[if_neg h2]
   simp only at h⊢
   have hd:(s.drop 2).length+2=s.length:=by simp;omega
   have hd1:(s.drop 1).length+1=s.length:=by simp;omega
   split at h
   ·rename_i h3;rw[if_pos h3];have:=ih h;simp only[wF,wFL,midW,List.map_nil,List.sum_nil,ξN]at this⊢;omega
   ·rename_i h3;rw[if_neg h3]
    split at h
    ·rename_i h3;rw[if_pos h3];have:=ih h;simp only[wF,wFL,midW,List.map_nil,List.sum_nil,ξN]at this⊢;omega
    ·rename_i h3;rw[if_neg h3]
     split at h
     ·rename_i h3;rw[if_pos h3];have:=ih h;simp only[wF,wFL,midW,List.map_nil,List.sum_nil,ξN]at this⊢;omega
     ·rename_i h3;rw[if_neg h3]
      split at h
      ·rename_i h3;rw[if_pos h3]
       have h4:=cutB_two 41 _ h3
       have h5:=leafF_w (cutB 41 (s.drop 1)).1
       show wF (leafF (cutB 41 (s.drop 1)).1).1+6*(cutB 41 (s.drop 1)).2.1.length≤6*s.length
       have h6:wF (leafF (cutB 41 (s.drop 1)).1).1≤6*(cutB 41 (s.drop 1)).1.length+6:=by omega
       omega
      ·cases h
theorem restR_w (name rest:Txt):wF (restR name rest)≤name.length+rest.length+6:=by
 have h1:=unR_len _ rest (Nat.le_refl _)
 have h3:=spl_w 42 rest
 have h4:midW (starR rest)≤rest.length+1:=by
  rw[←h3];exact midW_map unR (fun s=>unR_len _ s (Nat.le_refl _)) (spl 42 rest)
 have h6:=starR_b rest
 have ht:(name.take (name.length-1)).length≤name.length:=by simp
 unfold restR
 simp only
 split
 ·rw[wF_mk,midW_nil];simp only[ξN];omega
 ·split
  ·rw[wF_mk,midW_nil];simp only[ξN];omega
  ·split
   ·rw[wF_mk,midW_nil];simp only[ξN];omega
   ·split
    ·rw[wF_mk,midW_nil];simp only[ξN];omega
    ·split
     ·rename_i h1
      obtain⟨x,hx⟩:=List.length_eq_one_iff.1 h1
      rw[hx]at h4⊢
      have h8:midW [x]=x.length+1:=by simp[midW]
      rw[wF_mk,midW_nil];simp only[ξN,List.getD_cons_zero];omega
     ·have h5:=mid_three (starR rest) (by omega)
      rw[wF_mk];simp only[ξN];omega
theorem leafR_w (s:Txt):wF (leafR s)≤s.length+6:=by
 unfold leafR
 split
 ·simp[wF,wFL,midW]
 ·rename_i h
  have h1:=restR_w (s.take (eqAt s)) (s.drop (eqAt s+1))
  have h2:=eqAt_le s
  rw[List.length_take,List.length_drop]at h1
  omega
theorem readR_w: ∀(d:Nat) (s:Txt),(readR d s).2.2=true→wF (readR d s).1+6*(readR d s).2.1.length≤6*s.length
 |0,s,h=>by simp[readR]at h
 |d+1,s,h=>by
  have ih:=loopF_w (readR d) (readR_w d) ((s.drop 2).length+1) [] (s.drop 2)
  unfold readR at h⊢
  split at h
  ·cases h
  ·rename_i h2
   rw[if_neg h2]
   have hd:(s.drop 2).length+2=s.length:=by simp;omega
   split at h
   ·rename_i h3;rw[if_pos h3]
    split at h
    ·cases h
    ·rename_i h4;rw[if_neg h4]
     have h5:=leafR_w ((s.take (1+brAt (s.drop 1))).drop 1)
     have h6:=brAt_le (s.drop 1)
     show wF (leafR _)+6*(s.drop _).length≤6*s.length
     rw[List.length_drop]at h6⊢
     have h7:((s.take (1+brAt (s.drop 1))).drop 1).length=brAt (s.drop 1):=by rw[List.length_drop,List.length_take];omega
     rw[h7]at h5
     omega
   ·rename_i h3;rw[if_neg h3]
    split at h
    ·rename_i h4;rw[if_pos h4];have:=ih h4;simp only[wF,wFL,midW,List.map_nil,List.sum_nil,ξN]at this⊢;omega
    ·cases h
theorem readR_no: ∀(d:Nat) (s:Txt),(readR d s).2.2=false→(readR d s).1=zF
 |0,s,h=>by simp[readR]
 |d+1,s,h=>by
  unfold readR at h⊢
  split at h
  ·rename_i h2;rw[if_pos h2]
  ·rename_i h2
   rw[if_neg h2]
   split at h
   ·rename_i h3;rw[if_pos h3]
    split at h
    ·rename_i h4;rw[if_pos h4]
    ·cases h
   ·rename_i h3;rw[if_neg h3]
    split at h
    ·cases h
    ·rename_i h4;rw[if_neg h4]
theorem readR_w20 (s:Txt) (hs:s.length≤4096):wF (readR 20 s).1≤300000:=by
 cases h:(readR 20 s).2.2 with
 |true=>have:=readR_w 20 s h;omega
 |false=>rw[readR_no 20 s h];simp[zF,wF,wFL,midW]
def ReadF (s:Txt):Flt×Int:=if s.length>4096 then(zF,3)else if(readF 20 s).2.2=true∧(readF 20 s).2.1= []∧chkF (readF 20 s).1=0 then((readF 20 s).1,0)else(zF,5)
def ReadR (s:Txt):Flt×Int:=if s.length>4096 then(zF,3)else if(readR 20 s).2.2=true∧(readR 20 s).2.1= []∧(putF (readR 20 s).1).2=0∧(putF (readR 20 s).1).1=s then((readR 20 s).1,0)else(zF,5)
def tabFxN:Tabs:=addQ (addQ (noTabs) 46 read20G) 47 chkG
theorem tabFxN_ok:SsOk Tryz.prog tabFxN:=addQ_ok (addQ_ok (noTabs_ok) (G_enters G_ok (p:=i46) rfl) read20G_ok) (G_enters G_ok (p:=i47) rfl) chkG_ok
theorem tabFxN_q46 (a:List D):tabFxN.q 46 a=read20G a:=rfl
theorem tabFxN_q47 (a:List D):tabFxN.q 47 a=chkG a:=rfl
theorem tabFxN_r (f:FuncId) (a:List D) (o:List Ob):tabFxN.r f a o=none:=rfl
theorem tabFxN_k (f:FuncId) (a:List D) (o:List Ob):tabFxN.k f a o=none:=rfl
theorem Read_c (s:Txt):PCalls Tryz.prog 31 [.x (.str s)] (.tup [fltD (ReadF s).1,.x (.int .i64 (ReadF s).2)]):=by
 rcases hq:ReadF s with⟨⟨k,a,v,h,mm,t,l⟩,e⟩
 dsimp only[fltD]
 unfold ReadF at hq
 refine FCalls.pure (fcallsG (fz:=true) G_ok (p:=i31) rfl _ (ξ rfl) _ (fun C0 E0=> ?_)) rfl
 dsimp only[i31,qt,qi,qs,qb,qm,qa,qh,qj,qT,qF,qe,ql,qL,qf,q2,q3,q8,qz,qp,qP,qc,qk,qx,qy,qo,qr,qC,argsφ]
 have uu:=ξn @read20G.eq_1 (ξn @read20G.eq_2 (ξn @chkG.eq_1 (ξn @chkG.eq_2 (ξn @un_F (ξn @un_T (ξn @tabFxN_r (ξn @tabFxN_k (ξn @tabFxN_q46 (@tabFxN_q47)))))))))
 have tT:=tabFxN_ok
 refine nz ?_
 refine WI.regB tT [0,2] ?_
 refine oG ?_
 refine oS ?_
 refine oN ?_
 refine nz ?_
 refine WI.regB tT [0,2,9] ?_
 refine oS ?_
 iterate 2 refine oG (hok:=by first|exact se|(exact ξt hs)|(simp[hs];done)|exact sd) ?_
 refine oN ?_
 refine nz ?_
 refine cd (fun h0=> ?_) (fun h0=> ?_)
 ·refine WI.regB tT [2,3] ?_
  iterate 2 refine oG (hok:=by first|exact se|(exact ξt hs)|(simp[hs];done)|exact sd) ?_
  refine oS ?_
  refine oN ?_
  refine nz ?_
  refine WI.nnA ?_
  refine lf ?_
  rw[if_pos (by omega)]at hq;cases hq;rfl
 ·rw[if_neg (by omega)]at hq
  have hw:=readF_w 20 s
  rcases hx:readF 20 s with⟨⟨k1,a1,v1,h1',m1,t1,l1⟩,rest,ok⟩
  rw[hx]at hq hw
  simp only at hq hw
  have uu:=ξn uu hx
  refine WI.regB tT [2,4,5,6] ?_
  refine oS ?_
  refine oC (hok:=by first|exact se|(exact ξt hs)|(simp[hs];done)|exact sd) ?_
  refine oS ?_
  iterate 4 refine oG ?_
  refine oG (hok:=by first|exact se|(exact ξt hs)|(simp[hs];done)|exact sd) ?_
  iterate 2 refine oS ?_
  refine oN ?_
  refine nz ?_
  cases ok
  ·refine WI.regB tT [2,4,27] ?_
   refine oS ?_
   refine oG (hok:=by first|exact se|(exact ξt hs)|(simp[hs];done)|exact sd) ?_
   refine oS ?_
   iterate 3 refine oG (hok:=by first|exact se|(exact ξt hs)|(simp[hs];done)|exact sd) ?_
   refine oS ?_
   refine oG (hok:=by first|exact se|(exact ξt hs)|(simp[hs];done)|exact sd) ?_
   refine oC (hok:=by first|exact se|(exact ξt hs)|(simp[hs];done)|exact sd) ?_
   iterate 2 refine oG (hok:=by first|exact se|(exact ξt hs)|(simp[hs];done)|exact sd) ?_
   refine oN ?_
   refine nz ?_
   refine ct (fun h1=> ?_) (fun h1=> ?_)
   ·refine WI.regB tT [2,3] ?_
    iterate 2 refine oG (hok:=by first|exact se|(exact ξt hs)|(simp[hs];done)|exact sd) ?_
    refine oS ?_
    refine oN ?_
    refine nz ?_
    refine WI.nnA ?_
    refine lf ?_
    rw[if_neg (by simp)]at hq;cases hq;rfl
   ·simp at h1
  ·have hs:=sm_w (.mk k1 a1 v1 h1' m1 t1 l1) (by have:=hw rfl;omega)
   refine WI.regB tT [2,4,27] ?_
   refine oS ?_
   refine oG (hok:=by first|exact se|(exact ξt hs)|(simp[hs];done)|exact sd) ?_
   refine oS ?_
   iterate 3 refine oG (hok:=by first|exact se|(exact ξt hs)|(simp[hs];done)|exact sd) ?_
   refine oS ?_
   refine oG (hok:=by first|exact se|(exact ξt hs)|(simp[hs];done)|exact sd) ?_
   refine oC (hok:=by first|exact se|(exact ξt hs)|(simp[hs];done)|exact sd) ?_
   iterate 2 refine oG (hok:=by first|exact se|(exact ξt hs)|(simp[hs];done)|exact sd) ?_
   refine oN ?_
   refine nz ?_
   refine cd (fun h1=> ?_) (fun h1=> ?_)
   ·refine WI.regB tT [2,3] ?_
    iterate 2 refine oG (hok:=by first|exact se|(exact ξt hs)|(simp[hs];done)|exact sd) ?_
    refine oS ?_
    refine oN ?_
    refine nz ?_
    refine WI.nnA ?_
    refine lf ?_
    rw[if_neg (by clear uu;grind)]at hq;cases hq;rfl
   ·refine WI.regB tT [2,3] ?_
    iterate 2 refine oG (hok:=by first|exact se|(exact ξt hs)|(simp[hs];done)|exact sd) ?_
    refine oS ?_
    refine oN ?_
    refine nz ?_
    refine WI.nnA ?_
    refine lf ?_
    rw[if_pos (by clear uu;grind)]at hq;cases hq;rfl
def tabFxO:Tabs:=addQ (addQ (noTabs) 38 readR20G) 39 PutDG
theorem tabFxO_ok:SsOk Tryz.prog tabFxO:=addQ_ok (addQ_ok (noTabs_ok) (G_enters G_ok (p:=i38) rfl) readR20G_ok) (G_enters G_ok (p:=i39) rfl) PutDG_ok
theorem tabFxO_q38 (a:List D):tabFxO.q 38 a=readR20G a:=rfl
theorem tabFxO_q39 (a:List D):tabFxO.q 39 a=PutDG a:=rfl
theorem tabFxO_r (f:FuncId) (a:List D) (o:List Ob):tabFxO.r f a o=none:=rfl
theorem tabFxO_k (f:FuncId) (a:List D) (o:List Ob):tabFxO.k f a o=none:=rfl
theorem ReadR_c (s:Txt):PCalls Tryz.prog 20 [.x (.str s)] (.tup [fltD (ReadR s).1,.x (.int .i64 (ReadR s).2)]):=by
 rcases hq:ReadR s with⟨⟨k,a,v,h,mm,t,l⟩,e⟩
 dsimp only[fltD]
 unfold ReadR at hq
 refine FCalls.pure (fcallsG (fz:=true) G_ok (p:=i20) rfl _ (ξ rfl) _ (fun C0 E0=> ?_)) rfl
 dsimp only[i20,qt,qi,qs,qb,qm,qa,qh,qj,qT,qF,qe,ql,qL,qf,q2,q3,q8,qz,qp,qP,qc,qk,qx,qy,qo,qr,qC,argsφ]
 have uu:=ξn @readR20G.eq_1 (ξn @readR20G.eq_2 (ξn @PutDG.eq_1 (ξn @PutDG.eq_2 (ξn @un_F (ξn @un_T (ξn @tabFxO_r (ξn @tabFxO_k (ξn @tabFxO_q38 (@tabFxO_q39)))))))))
 have tT:=tabFxO_ok
 refine nz ?_
 refine WI.regB tT [0,2] ?_
 refine oG ?_
 refine oS ?_
 refine oN ?_
 refine nz ?_
 refine WI.regB tT [0,2,11] ?_
 refine oS ?_
 iterate 2 refine oG (hok:=by first|exact se|(exact ξt hw)|(simp[hw];done)|exact sd) ?_
 refine oN ?_
 refine nz ?_
 refine cd (fun h0=> ?_) (fun h0=> ?_)
 ·refine WI.regB tT [2,3] ?_
  iterate 2 refine oG (hok:=by first|exact se|(exact ξt hw)|(simp[hw];done)|exact sd) ?_
  refine oS ?_
  refine oN ?_
  refine nz ?_
  refine WI.nnA ?_
  refine lf ?_
  rw[if_pos (by omega)]at hq;cases hq;rfl
 ·rw[if_neg (by omega)]at hq
  have hw:=readR_w20 s (by omega)
  rcases hx:readR 20 s with⟨⟨k1,a1,v1,h1',m1,t1,l1⟩,rest,ok⟩
  rw[hx]at hq hw
  simp only at hq hw
  have uu:=ξn uu hx
  refine WI.regB tT [0,2,4,5,6] ?_
  refine oS ?_
  refine oC (hok:=by first|exact se|(exact ξt hw)|(simp[hw];done)|exact sd) ?_
  refine oS ?_
  iterate 4 refine oG ?_
  refine oG (hok:=by first|exact se|(exact ξt hw)|(simp[hw];done)|exact sd) ?_
  iterate 2 refine oS ?_
  refine oN ?_
  refine nz ?_
  refine WI.regB tT [0,2,4,5,6,7,8] ?_
  refine oG (hok:=by first|exact se|(exact ξt hw)|(simp[hw];done)|exact sd) ?_
  refine oC (hok:=by first|exact se|(exact ξt hw)|(simp[hw];done)|exact sd) ?_
  refine oS ?_
  iterate 2 refine oG ?_
  iterate 2 refine oS ?_
  refine oN ?_
  refine nz ?_
  refine WI.regB tT [2,4,38] ?_
  refine oS ?_
  refine oG (hok:=by first|exact se|(exact ξt hw)|(simp[hw];done)|exact sd) ?_
  refine oS ?_
  iterate 3 refine oG (hok:=by first|exact se|(exact ξt hw)|(simp[hw];done)|exact sd) ?_
  refine oS ?_
  iterate 3 refine oG (hok:=by first|exact se|(exact ξt hw)|(simp[hw];done)|exact sd) ?_
  refine oS ?_
  iterate 4 refine oG (hok:=by first|exact se|(exact ξt hw)|(simp[hw];done)|exact sd) ?_
  refine oN ?_
  refine nz ?_
  refine cd (fun h1=> ?_) (fun h1=> ?_)
  ·refine WI.regB tT [2,3] ?_
   iterate 2 refine oG (hok:=by first|exact se|(exact ξt hw)|(simp[hw];done)|exact sd) ?_
   refine oS ?_
   refine oN ?_
   refine nz ?_
   refine WI.nnA ?_
   refine lf ?_
   rw[if_neg (by clear uu;grind)]at hq;cases hq;rfl
  ·refine WI.regB tT [2,3] ?_
   iterate 2 refine oG (hok:=by first|exact se|(exact ξt hw)|(simp[hw];done)|exact sd) ?_
   refine oS ?_
   refine oN ?_
   refine nz ?_
   refine WI.nnA ?_
   refine lf ?_
   rw[if_pos (by clear uu;grind)]at hq;cases hq;rfl
def ReadG:List D→Option (Bool×D)
 | [.x (.str s)]=>some (true,.tup [fltD (ReadF s).1,.x (.int .i64 (ReadF s).2)])
 |_=>none
theorem ReadG_ok: ∀args r,ReadG args=some (true,r)→PCalls Tryz.prog 31 args r:=by
 intro args r h
 unfold ReadG at h
 split at h
 ·rename_i s
  simp only[ξI,ξP,ξa,ξe,true_and]at h
  obtain rfl:=h
  exact(Read_c s)
 ·cases h
def ReadRG:List D→Option (Bool×D)
 | [.x (.str s)]=>some (true,.tup [fltD (ReadR s).1,.x (.int .i64 (ReadR s).2)])
 |_=>none
theorem ReadRG_ok: ∀args r,ReadRG args=some (true,r)→PCalls Tryz.prog 20 args r:=by
 intro args r h
 unfold ReadRG at h
 split at h
 ·rename_i s
  simp only[ξI,ξP,ξa,ξe,true_and]at h
  obtain rfl:=h
  exact(ReadR_c s)
 ·cases h
def chkU (ho d f:Tx) (a:List Tx) (sc:Int):Int:=
 if ho.length>255∨d.length>4096∨a.length>64 then 3
 else if(ho.all fun c=>hstN c.toNat)=false then 5
 else if namU d a=false then 13
 else if sc<0∨sc>2 then 2
 else if f= []then 0 else(ReadF f).2
def tabUr5:Tabs:=addQ (addQ (addQ (noTabs) 29 hostG) 30 namedG) 31 ReadG
theorem tabUr5_ok:SsOk Tryz.prog tabUr5:=addQ_ok (addQ_ok (addQ_ok (noTabs_ok) (G_enters G_ok (p:=i29) rfl) hostG_ok) (G_enters G_ok (p:=i30) rfl) namedG_ok) (G_enters G_ok (p:=i31) rfl) ReadG_ok
theorem tabUr5_q29 (a:List D):tabUr5.q 29 a=hostG a:=rfl
theorem tabUr5_q30 (a:List D):tabUr5.q 30 a=namedG a:=rfl
theorem tabUr5_q31 (a:List D):tabUr5.q 31 a=ReadG a:=rfl
theorem tabUr5_r (f:FuncId) (a:List D) (o:List Ob):tabUr5.r f a o=none:=rfl
theorem tabUr5_k (f:FuncId) (a:List D) (o:List Ob):tabUr5.k f a o=none:=rfl
theorem ucheck_c (ho d f:Tx) (a:List Tx) (sc:Int) (hs:smT a):PCalls Tryz.prog 14 [.agg [.x (.str ho),.x (.str d),.x (.str f),.x (.sl (rows rStr a)),.x (.int .i64 sc)]] (.x (.int .i64 (chkU ho d f a sc))):=by
 have hs':decide (smT a)=true:=ξt hs
 unfold chkU
 rcases hq:ReadF f with⟨⟨k,a1,v,h',mm,t,l⟩,e⟩
 refine FCalls.pure (fcallsG (fz:=true) G_ok (p:=i14) rfl _ (ξ rfl) _ (fun C0 E0=> ?_)) rfl
 dsimp only[i14,qt,qi,qs,qb,qm,qa,qh,qj,qT,qF,qe,ql,qL,qf,q2,q3,q8,qz,qp,qP,qc,qk,qx,qy,qo,qr,qC,argsφ]
 have uu:=ξn @hostG.eq_1 (ξn @hostG.eq_2 (ξn @namedG.eq_1 (ξn @namedG.eq_2 (ξn @ReadG.eq_1 (ξn @ReadG.eq_2 (ξn @un_T (ξn @un_F (ξn hq (ξn @fltD.eq_1 (ξn @tabUr5_r (ξn @tabUr5_k (ξn @tabUr5_q29 (ξn @tabUr5_q30 (@tabUr5_q31))))))))))))))
 have tT:=tabUr5_ok
 refine nz ?_
 refine WI.regB tT [1] ?_
 refine oG ?_
 refine oS ?_
 refine oN ?_
 refine nz ?_
 refine WI.regB tT [1,5] ?_
 refine oS ?_
 iterate 3 refine oG (hok:=by first|exact se|(clear uu;grind)|exact sd) ?_
 refine oS ?_
 iterate 5 refine oG (hok:=by first|exact se|(clear uu;grind)|exact sd) ?_
 refine oS ?_
 iterate 5 refine oG (hok:=by first|exact se|(clear uu;grind)|exact sd) ?_
 refine oS ?_
 refine oN ?_
 refine nz ?_
 refine cd (fun h0=> ?_) (fun h0=> ?_)
 ·refine WI.regB tT [2] ?_
  refine oS ?_
  refine oN ?_
  refine nz ?_
  refine WI.nnA ?_
  refine lf ?_
  clear uu;congr 2;grind
 ·have e1:a.length≤64:=by clear uu;grind
  have e2:ho.length≤255:=by clear uu;grind
  have uu:=ξn uu (ξn (ξt (ξn e1 hs)) (ξt (show ho.length≤1000000 by omega)))
  refine WI.regB tT [1,22] ?_
  refine oS ?_
  refine oG (hok:=by first|exact se|(clear uu;grind)|exact sd) ?_
  refine oC (hok:=by first|exact se|(clear uu;grind)|exact sd) ?_
  refine oG (hok:=by first|exact se|(clear uu;grind)|exact sd) ?_
  refine oS ?_
  refine oN ?_
  refine nz ?_
  refine cd (fun h1=> ?_) (fun h1=> ?_)
  ·refine WI.regB tT [2] ?_
   refine oS ?_
   refine oN ?_
   refine nz ?_
   refine WI.nnA ?_
   refine lf ?_
   clear uu;congr 2;grind
  ·refine WI.regB tT [1,27] ?_
   refine oG (hok:=by first|exact se|(clear uu;grind)|exact sd) ?_
   refine oC (hok:=by first|exact se|(clear uu;grind)|exact sd) ?_
   refine oG (hok:=by first|exact se|(clear uu;grind)|exact sd) ?_
   refine oS ?_
   refine oN ?_
   refine nz ?_
   refine cd (fun h2=> ?_) (fun h2=> ?_)
   ·refine WI.regB tT [2] ?_
    refine oS ?_
    refine oN ?_
    refine nz ?_
    refine WI.nnA ?_
    refine lf ?_
    clear uu;congr 2;grind
   ·refine WI.regB tT [1,31] ?_
    refine oS ?_
    iterate 2 refine oG (hok:=by first|exact se|(clear uu;grind)|exact sd) ?_
    refine oS ?_
    iterate 4 refine oG (hok:=by first|exact se|(clear uu;grind)|exact sd) ?_
    refine oS ?_
    refine oN ?_
    refine nz ?_
    refine cd (fun h3=> ?_) (fun h3=> ?_)
    ·refine WI.regB tT [2] ?_
     refine oS ?_
     refine oN ?_
     refine nz ?_
     refine WI.nnA ?_
     refine lf ?_
     clear uu;congr 2;grind
    ·refine WI.regB tT [1,40] ?_
     refine oS ?_
     iterate 2 refine oG (hok:=by first|exact se|(clear uu;grind)|exact sd) ?_
     refine oS ?_
     refine oN ?_
     refine nz ?_
     refine cd (fun h4=> ?_) (fun h4=> ?_)
     ·refine WI.regB tT [2] ?_
      refine oS ?_
      refine oN ?_
      refine nz ?_
      refine WI.nnA ?_
      refine lf ?_
      clear uu;congr 2;grind
     ·refine WI.regB tT [4] ?_
      refine oS ?_
      refine oG (hok:=by first|exact se|(clear uu;grind)|exact sd) ?_
      refine oC (hok:=by first|exact se|(clear uu;grind)|exact sd) ?_
      refine oS ?_
      iterate 3 refine oG ?_
      refine oG (hok:=by first|exact se|(clear uu;grind)|exact sd) ?_
      refine oS ?_
      refine oN ?_
      refine nz ?_
      refine WI.regB tT [2] ?_
      iterate 2 refine oS ?_
      refine oN ?_
      refine nz ?_
      refine WI.nnA ?_
      refine lf ?_
      clear uu;congr 2;grind
def ucheckG:List D→Option (Bool×D)
 | [.agg [.x (.str ho),.x (.str d),.x (.str f),.x (.sl A),.x (.int .i64 sc)]]=>(unrows rStr A).bind fun a=>some (decide (smT a),.x (.int .i64 (chkU ho d f a sc)))
 |_=>none
theorem ucheckG_ok: ∀args r,ucheckG args=some (true,r)→PCalls Tryz.prog 14 args r:=by
 intro args r h
 unfold ucheckG at h
 split at h
 ·rename_i ho d f A sc
  obtain⟨a,hr0,h⟩:=ξB h
  simp only[ξI,ξP,ξa,ξe,true_and]at h
  obtain⟨h1,rfl⟩:=h
  rw[←rows_unrows good_rStr hr0]
  exact(ucheck_c ho d f a sc h1)
 ·cases h
theorem join_map (l:List (List UInt8)):(l.map bstr).map (·.data.toList)=l:=by
 rw[List.map_map]
 conv=>rhs;rw[←List.map_id l]
 exact List.map_congr_left fun x _=>by simp[bstr]
theorem join_c (l:List (List UInt8)) (sep:List UInt8) (h:(Lib.join l sep).length≤140737488355328) (hl:l.length≤140737488355328):PCalls Tryz.prog 15 [.x (.sl (rows rStr l)),.x (.str sep)] (.x (.str (Lib.join l sep))):=by
 intro w st vs hst hvl
 obtain⟨hsz,hv⟩:=hvl
 obtain⟨v0,v1,rfl⟩: ∃v0 v1,vs= #[v0,v1]:=by
  obtain⟨vl⟩:=vs
  match vl,hsz with
  | [a,b],_=>exact⟨a,b,rfl⟩
 have h0:=hv 0 _ v0 rfl rfl
 have h1:=hv 1 _ v1 rfl rfl
 clear hv hsz
 cases h0 with
 |x h0=>
 cases h1 with
 |x h1=>
 cases h1 with
 |str _=>
 cases h0 with
 |sl _ a n c sz val hn hc hm hsz hcell hnil hsp hval=>
  rw[rows_len]at hn
  subst hn
  match l,h,hl,hc,hsz,hcell,hval with
  | [],_,_,_,_,_,_=>
   refine(Tryz.strings_Join_none a c (bstr sep) w).mono ?_
   rintro e w' ⟨rfl,rfl⟩
   exact⟨_,st,rfl,Kept.refl _ _,fun _ _ h=>h,fun _ _ h=> .inl h,.x (.str [])⟩
  |x::r,h,hl,hc,hsz,hcell,hval=>
   obtain rfl:1=sz:=hsz [.str x] (by simp[rows,rStr])
   obtain⟨b,off,rfl,hs0,_⟩:=hcell 0 0 (by simp) (by omega)
   have hcells: ∀(j:Nat) y,((x::r).map bstr)[j]? =some y→w.cell? ⟨b,off+j,none⟩=some (.string y):=by
    intro j y hy
    rw[ξp]at hy
    obtain⟨z,hz,rfl⟩:=ξM hy
    have hj:j<(x::r).length:=(ξG hz).1
    obtain⟨b',off',e,_,hw⟩:=hcell j 0 hj (by omega)
    simp only[ξI,Addr.mk.injEq]at e
    obtain⟨rfl,rfl,_⟩:=e
    have hx:=hval j 0 [.str z] (.str z) (by simp only[rows,ξp,hz];rfl) rfl
    rw[show off+j=off+j*1+0 by omega,hw]
    generalize val j 0=u at hx
    cases hx with
    |str _=>rfl
   have hlen:(Lib.join (((x::r).map bstr).map (·.data.toList)) (bstr sep).data.toList).length≤140737488355328:=by
    rw[join_map];simpa[bstr]using h
   have hc':((x::r).map bstr).length≤c:=by rw[List.length_map];exact hc
   have:=Tryz.strings_Join b off c ((x::r).map bstr) (bstr sep) w hcells (hst _ _ hs0) (by rw[List.length_map];exact hl) hc' hlen
   rw[List.length_map,join_map]at this
   refine this.mono ?_
   rintro e w' ⟨rfl,hb⟩
   refine⟨_,st,rfl,Kept.of_none (Ext.grown hb none),fun _ _ h=>h,fun _ _ h=> .inl h,?_⟩
   have:(bstr sep).data.toList=sep:=by simp[bstr]
   rw[this]
   exact .x (.str _)
theorem join_enters:Go.Ab.Enters Tryz.prog 15:=Go.Proofs.enters_of Tryz.lays156.f156 (by kernel_rfl) rfl
end Go.Proofs.YtmlpbojoekmfaaaGreatDoor
end
