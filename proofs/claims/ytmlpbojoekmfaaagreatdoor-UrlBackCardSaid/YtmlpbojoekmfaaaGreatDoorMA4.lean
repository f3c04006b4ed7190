import Derived.Test.YtmlpbojoekmfaaaGreatDoorMA3
import Derived.Test.YtmlpbojoekmfaaaGreatDoorLA5
import Derived.Test.YtmlpbojoekmfaaaGreatDoorIc
import Derived.Test.YtmlpbojoekmfaaaGreatDoorSh
import Derived.Test.YtmlpbojoekmfaaaGreatDoorMA2
set_option linter.unusedSimpArgs false
set_option linter.unusedVariables false
section
namespace Go.Proofs.YtmlpbojoekmfaaaGreatDoor
open Go.RowKit Go.Bo Go.Ab
def joinUG:List D→Option (Bool×D)
 | [.x (.sl L),.x (.str s)]=>(unrows rStr L).bind fun l=>some (decide ((Lib.join l s).length≤140737488355328)&&(decide (l.length≤140737488355328)),.x (.str (Lib.join l s)))
 |_=>none
theorem joinUG_ok: ∀args r,joinUG args=some (true,r)→PCalls Tryz.prog 15 args r:=by
 intro args r h
 unfold joinUG at h
 split at h
 ·rename_i L s
  obtain⟨l,hr0,h⟩:=ξB h
  simp only[ξI,ξP,ξa,ξe,true_and]at h
  obtain⟨⟨h1,h2⟩,rfl⟩:=h
  rw[←rows_unrows good_rStr hr0]
  exact(join_c l s h1 h2)
 ·cases h
def ldapT:Tx:= [108,100,97,112,58,47,47]
def scpW (sc:Int):Tx:=if sc=0 then [98,97,115,101]else if sc=1 then [111,110,101]else [115,117,98]
def adrU (ho d f:Tx) (a:List Tx) (sc:Int):Tx:=Lib.join [ldapT++ho++ [47]++ueS d,Lib.join a [44],scpW sc,ueS f] [63]
def putU (ho d f:Tx) (a:List Tx) (sc:Int):Tx×Int:=if chkU ho d f a sc≠0 then([],chkU ho d f a sc)else(adrU ho d f a sc,0)
theorem join4 (a b c d s:Tx):Lib.join [a,b,c,d] s=a++s++b++s++c++s++d:=by
 simp[Lib.join,List.intercalate]
theorem joinA_len: ∀(l:List Tx) (n:Nat),(∀x∈l,x.length≤n)→(Lib.join l [44]).length≤l.length*(n+1)
 | [],_,_=>by simp[Lib.join]
 | [x],n,h=>by rw[Lib.join_one];have:=h x List.mem_cons_self;simp;omega
 |x::y::r,n,h=>by
  have h1:=h x List.mem_cons_self
  have ih:=joinA_len (y::r) n (fun z hz=>h z (List.mem_cons_of_mem _ hz))
  have e:Lib.join (x::y::r) [44]=x++([44]++Lib.join (y::r) [44]):=by
   simp only[Lib.join,List.intercalate,List.intersperse_cons_cons,List.flatten_cons]
  rw[e]
  simp only[ξA,ξC,ξN,Nat.add_mul,Nat.one_mul]at ih⊢
  omega
theorem chkU_lim (ho d f:Tx) (a:List Tx) (sc:Int) (h:chkU ho d f a sc=0):ho.length≤255∧d.length≤4096∧a.length≤64∧0≤sc∧sc≤2:=by
 unfold chkU at h
 split at h
 ·omega
 split at h
 ·omega
 split at h
 ·omega
 split at h
 ·omega
 omega
theorem un_u4 (a b c d:Tx):unrows rStr [[.str a],[.str b],[.str c],[.str d]]=some [a,b,c,d]:=rfl
def tabUr6:Tabs:=addT (addQ (addQ (addQ (addQ (noTabs) 14 ucheckG) 9 urlEscG) 16 scopesG) 15 joinUG) 15 (frzT joinUG)
theorem tabUr6_ok:SsOk Tryz.prog tabUr6:=addT_ok (addQ_ok (addQ_ok (addQ_ok (addQ_ok (noTabs_ok) (G_enters G_ok (p:=i14) rfl) ucheckG_ok) (G_enters G_ok (p:=i9) rfl) urlEscG_ok) (G_enters G_ok (p:=i16) rfl) scopesG_ok) join_enters joinUG_ok) join_enters (frzT_ok joinUG_ok)
theorem tabUr6_q14 (a:List D):tabUr6.q 14 a=ucheckG a:=rfl
theorem tabUr6_q9 (a:List D):tabUr6.q 9 a=urlEscG a:=rfl
theorem tabUr6_q16 (a:List D):tabUr6.q 16 a=scopesG a:=rfl
theorem tabUr6_q15 (a:List D):tabUr6.q 15 a=joinUG a:=rfl
theorem tabUr6_t15 (a:List D) (o:List Ob):tabUr6.t 15 a o=liftT (frzT joinUG) a o:=rfl
theorem tabUr6_r (f:FuncId) (a:List D) (o:List Ob):tabUr6.r f a o=none:=rfl
theorem tabUr6_k (f:FuncId) (a:List D) (o:List Ob):tabUr6.k f a o=none:=rfl
theorem uput_c (ho d f:Tx) (a:List Tx) (sc:Int) (hs:smT a) (hf:f.length≤300000):PCalls Tryz.prog 7 [.agg [.x (.str ho),.x (.str d),.x (.str f),.x (.sl (rows rStr a)),.x (.int .i64 sc)]] (.tup [.x (.str (putU ho d f a sc).1),.x (.int .i64 (putU ho d f a sc).2)]):=by
 have hs':decide (smT a)=true:=ξt hs
 unfold putU
 refine FCalls.pure (fcallsG (fz:=true) G_ok (p:=i7) rfl _ (ξ rfl) _ (fun C0 E0=> ?_)) rfl
 dsimp only[i7,qt,qi,qs,qb,qm,qa,qh,qj,qT,qF,qe,ql,qL,qf,q2,q3,q8,qz,qp,qP,qc,qk,qx,qy,qo,qr,qC,argsφ]
 have uu:=ξn @ucheckG.eq_1 (ξn @ucheckG.eq_2 (ξn @urlEscG.eq_1 (ξn @urlEscG.eq_2 (ξn @scopesG.eq_1 (ξn @scopesG.eq_2 (ξn @joinUG.eq_1 (ξn @joinUG.eq_2 (ξn @un_T (ξn @scpT.eq_1 (ξn @un_u4 (ξn @tabUr6_r (ξn @tabUr6_k (ξn @tabUr6_q14 (ξn @tabUr6_q15 (ξn @tabUr6_q16 (ξn @tabUr6_q9 (ξn @tabUr6_t15 (@frzT.eq_1))))))))))))))))))
 have tT:=tabUr6_ok
 refine nz ?_
 refine WI.regB tT [1] ?_
 refine oG ?_
 iterate 2 refine oS ?_
 refine oN ?_
 refine nz ?_
 refine WI.regB tT [1,4] ?_
 refine oG (hok:=by first|exact se|(rw[join4];clear uu;simp only[ξa,ξe,ξA,ξC,ξN];omega)|(exact ξt (by omega))|(clear uu;grind)|exact sd) ?_
 refine oC (hok:=by first|exact se|(rw[join4];clear uu;simp only[ξa,ξe,ξA,ξC,ξN];omega)|(exact ξt (by omega))|(clear uu;grind)|exact sd) ?_
 refine oS ?_
 refine oN ?_
 refine nz ?_
 refine WI.regB tT [1,4,9] ?_
 refine oS ?_
 refine oG (hok:=by first|exact se|(rw[join4];clear uu;simp only[ξa,ξe,ξA,ξC,ξN];omega)|(exact ξt (by omega))|(clear uu;grind)|exact sd) ?_
 refine oN ?_
 refine nz ?_
 refine cd (fun h0=> ?_) (fun h0=> ?_)
 ·refine WI.regB tT [2,3] ?_
  iterate 3 refine oS ?_
  refine oN ?_
  refine nz ?_
  refine lf ?_
  rw[if_pos (by clear uu;grind)]
 ·have hc0:chkU ho d f a sc=0:=by clear uu;grind
  obtain⟨l1,l2,l3,l4,l5⟩:=chkU_lim ho d f a sc hc0
  have l6:=joinA_len a 1000000 hs
  have l7:=ueS_len d
  have l8:=ueS_len f
  have hsc:sc=0∨sc=1∨sc=2:=by omega
  have l9:(Lib.join a [44]).length≤64*1000001:=Nat.le_trans l6 (Nat.mul_le_mul_right _ l3)
  rcases hsc with rfl|rfl|rfl
  ·refine WI.dregB tT [5] ?_
   refine dFS ?_
   refine dQG (hok:=by first|exact se|(rw[join4];clear uu;simp only[ξa,ξe,ξA,ξC,ξN];omega)|(exact ξt (by omega))|(clear uu;grind)|exact sd) ?_
   iterate 2 refine dFG (hok:=by first|exact se|(rw[join4];clear uu;simp only[ξa,ξe,ξA,ξC,ξN];omega)|(exact ξt (by omega))|(clear uu;grind)|exact sd) ?_
   refine dFS ?_
   refine dQG (hok:=by first|exact se|(rw[join4];clear uu;simp only[ξa,ξe,ξA,ξC,ξN];omega)|(exact ξt (by omega))|(clear uu;grind)|exact sd) ?_
   refine dQC (hok:=by first|exact se|(rw[join4];clear uu;simp only[ξa,ξe,ξA,ξC,ξN];omega)|(exact ξt (by omega))|(clear uu;grind)|exact sd) ?_
   refine dFG (hok:=by first|exact se|(rw[join4];clear uu;simp only[ξa,ξe,ξA,ξC,ξN];omega)|(exact ξt (by omega))|(clear uu;grind)|exact sd) ?_
   refine dFS ?_
   refine dQG (hok:=by first|exact se|(rw[join4];clear uu;simp only[ξa,ξe,ξA,ξC,ξN];omega)|(exact ξt (by omega))|(clear uu;grind)|exact sd) ?_
   iterate 2 refine dQC (hok:=by first|exact se|(rw[join4];clear uu;simp only[ξa,ξe,ξA,ξC,ξN];omega)|(exact ξt (by omega))|(clear uu;grind)|exact sd) ?_
   refine dFS ?_
   refine dQG (hok:=by first|exact se|(rw[join4];clear uu;simp only[ξa,ξe,ξA,ξC,ξN];omega)|(exact ξt (by omega))|(clear uu;grind)|exact sd) ?_
   refine dFG (hok:=by first|exact se|(rw[join4];clear uu;simp only[ξa,ξe,ξA,ξC,ξN];omega)|(exact ξt (by omega))|(clear uu;grind)|exact sd) ?_
   refine dFS ?_
   refine dQG (hok:=by first|exact se|(rw[join4];clear uu;simp only[ξa,ξe,ξA,ξC,ξN];omega)|(exact ξt (by omega))|(clear uu;grind)|exact sd) ?_
   refine dQC (hok:=by first|exact se|(rw[join4];clear uu;simp only[ξa,ξe,ξA,ξC,ξN];omega)|(exact ξt (by omega))|(clear uu;grind)|exact sd) ?_
   refine dAG (hok:=by first|exact se|(rw[join4];clear uu;simp only[ξa,ξe,ξA,ξC,ξN];omega)|(exact ξt (by omega))|(clear uu;grind)|exact sd) ?_
   refine dFS ?_
   refine dN ?_
   refine nz ?_
   refine WI.regB tT [2,3] ?_
   refine oS ?_
   refine oC (hok:=by first|exact se|(rw[join4];clear uu;simp only[ξa,ξe,ξA,ξC,ξN];omega)|(exact ξt (by omega))|(clear uu;grind)|exact sd) ?_
   iterate 2 refine oS ?_
   refine oN ?_
   refine nz ?_
   refine lf ?_
   rw[if_neg (not_not_intro hc0)];first|rfl|(simp[adrU,ldapT,scpW];done)
  ·refine WI.dregB tT [5] ?_
   refine dFS ?_
   refine dQG (hok:=by first|exact se|(rw[join4];clear uu;simp only[ξa,ξe,ξA,ξC,ξN];omega)|(exact ξt (by omega))|(clear uu;grind)|exact sd) ?_
   iterate 2 refine dFG (hok:=by first|exact se|(rw[join4];clear uu;simp only[ξa,ξe,ξA,ξC,ξN];omega)|(exact ξt (by omega))|(clear uu;grind)|exact sd) ?_
   refine dFS ?_
   refine dQG (hok:=by first|exact se|(rw[join4];clear uu;simp only[ξa,ξe,ξA,ξC,ξN];omega)|(exact ξt (by omega))|(clear uu;grind)|exact sd) ?_
   refine dQC (hok:=by first|exact se|(rw[join4];clear uu;simp only[ξa,ξe,ξA,ξC,ξN];omega)|(exact ξt (by omega))|(clear uu;grind)|exact sd) ?_
   refine dFG (hok:=by first|exact se|(rw[join4];clear uu;simp only[ξa,ξe,ξA,ξC,ξN];omega)|(exact ξt (by omega))|(clear uu;grind)|exact sd) ?_
   refine dFS ?_
   refine dQG (hok:=by first|exact se|(rw[join4];clear uu;simp only[ξa,ξe,ξA,ξC,ξN];omega)|(exact ξt (by omega))|(clear uu;grind)|exact sd) ?_
   iterate 2 refine dQC (hok:=by first|exact se|(rw[join4];clear uu;simp only[ξa,ξe,ξA,ξC,ξN];omega)|(exact ξt (by omega))|(clear uu;grind)|exact sd) ?_
   refine dFS ?_
   refine dQG (hok:=by first|exact se|(rw[join4];clear uu;simp only[ξa,ξe,ξA,ξC,ξN];omega)|(exact ξt (by omega))|(clear uu;grind)|exact sd) ?_
   refine dFG (hok:=by first|exact se|(rw[join4];clear uu;simp only[ξa,ξe,ξA,ξC,ξN];omega)|(exact ξt (by omega))|(clear uu;grind)|exact sd) ?_
   refine dFS ?_
   refine dQG (hok:=by first|exact se|(rw[join4];clear uu;simp only[ξa,ξe,ξA,ξC,ξN];omega)|(exact ξt (by omega))|(clear uu;grind)|exact sd) ?_
   refine dQC (hok:=by first|exact se|(rw[join4];clear uu;simp only[ξa,ξe,ξA,ξC,ξN];omega)|(exact ξt (by omega))|(clear uu;grind)|exact sd) ?_
   refine dAG (hok:=by first|exact se|(rw[join4];clear uu;simp only[ξa,ξe,ξA,ξC,ξN];omega)|(exact ξt (by omega))|(clear uu;grind)|exact sd) ?_
   refine dFS ?_
   refine dN ?_
   refine nz ?_
   refine WI.regB tT [2,3] ?_
   refine oS ?_
   refine oC (hok:=by first|exact se|(rw[join4];clear uu;simp only[ξa,ξe,ξA,ξC,ξN];omega)|(exact ξt (by omega))|(clear uu;grind)|exact sd) ?_
   iterate 2 refine oS ?_
   refine oN ?_
   refine nz ?_
   refine lf ?_
   rw[if_neg (not_not_intro hc0)];first|rfl|(simp[adrU,ldapT,scpW];done)
  ·refine WI.dregB tT [5] ?_
   refine dFS ?_
   refine dQG (hok:=by first|exact se|(rw[join4];clear uu;simp only[ξa,ξe,ξA,ξC,ξN];omega)|(exact ξt (by omega))|(clear uu;grind)|exact sd) ?_
   iterate 2 refine dFG (hok:=by first|exact se|(rw[join4];clear uu;simp only[ξa,ξe,ξA,ξC,ξN];omega)|(exact ξt (by omega))|(clear uu;grind)|exact sd) ?_
   refine dFS ?_
   refine dQG (hok:=by first|exact se|(rw[join4];clear uu;simp only[ξa,ξe,ξA,ξC,ξN];omega)|(exact ξt (by omega))|(clear uu;grind)|exact sd) ?_
   refine dQC (hok:=by first|exact se|(rw[join4];clear uu;simp only[ξa,ξe,ξA,ξC,ξN];omega)|(exact ξt (by omega))|(clear uu;grind)|exact sd) ?_
   refine dFG (hok:=by first|exact se|(rw[join4];clear uu;simp only[ξa,ξe,ξA,ξC,ξN];omega)|(exact ξt (by omega))|(clear uu;grind)|exact sd) ?_
   refine dFS ?_
   refine dQG (hok:=by first|exact se|(rw[join4];clear uu;simp only[ξa,ξe,ξA,ξC,ξN];omega)|(exact ξt (by omega))|(clear uu;grind)|exact sd) ?_
   iterate 2 refine dQC (hok:=by first|exact se|(rw[join4];clear uu;simp only[ξa,ξe,ξA,ξC,ξN];omega)|(exact ξt (by omega))|(clear uu;grind)|exact sd) ?_
   refine dFS ?_
   refine dQG (hok:=by first|exact se|(rw[join4];clear uu;simp only[ξa,ξe,ξA,ξC,ξN];omega)|(exact ξt (by omega))|(clear uu;grind)|exact sd) ?_
   refine dFG (hok:=by first|exact se|(rw[join4];clear uu;simp only[ξa,ξe,ξA,ξC,ξN];omega)|(exact ξt (by omega))|(clear uu;grind)|exact sd) ?_
   refine dFS ?_
   refine dQG (hok:=by first|exact se|(rw[join4];clear uu;simp only[ξa,ξe,ξA,ξC,ξN];omega)|(exact ξt (by omega))|(clear uu;grind)|exact sd) ?_
   refine dQC (hok:=by first|exact se|(rw[join4];clear uu;simp only[ξa,ξe,ξA,ξC,ξN];omega)|(exact ξt (by omega))|(clear uu;grind)|exact sd) ?_
   refine dAG (hok:=by first|exact se|(rw[join4];clear uu;simp only[ξa,ξe,ξA,ξC,ξN];omega)|(exact ξt (by omega))|(clear uu;grind)|exact sd) ?_
   refine dFS ?_
   refine dN ?_
   refine nz ?_
   refine WI.regB tT [2,3] ?_
   refine oS ?_
   refine oC (hok:=by first|exact se|(rw[join4];clear uu;simp only[ξa,ξe,ξA,ξC,ξN];omega)|(exact ξt (by omega))|(clear uu;grind)|exact sd) ?_
   iterate 2 refine oS ?_
   refine oN ?_
   refine nz ?_
   refine lf ?_
   rw[if_neg (not_not_intro hc0)];first|rfl|(simp[adrU,ldapT,scpW];done)
def uputG:List D→Option (Bool×D)
 | [.agg [.x (.str ho),.x (.str d),.x (.str f),.x (.sl A),.x (.int .i64 sc)]]=>(unrows rStr A).bind fun a=>some (decide (smT a)&&(decide (f.length≤300000)),.tup [.x (.str (putU ho d f a sc).1),.x (.int .i64 (putU ho d f a sc).2)])
 |_=>none
theorem uputG_ok: ∀args r,uputG args=some (true,r)→PCalls Tryz.prog 7 args r:=by
 intro args r h
 unfold uputG at h
 split at h
 ·rename_i ho d f A sc
  obtain⟨a,hr0,h⟩:=ξB h
  simp only[ξI,ξP,ξa,ξe,true_and]at h
  obtain⟨⟨h1,h2⟩,rfl⟩:=h
  rw[←rows_unrows good_rStr hr0]
  exact(uput_c ho d f a sc h1 h2)
 ·cases h
theorem cutP_c (s p:List UInt8):PCalls Tryz.prog 24 [.x (.str s),.x (.str p)] (.tup [.x (.str (Lib.trimPrefix s p)),.x (.bool (Lib.hasPrefix s p))]):=by
 intro w st vs hst hvl
 obtain⟨hsz,hv⟩:=hvl
 obtain⟨v0,v1,rfl⟩: ∃v0 v1,vs= #[v0,v1]:=by
  obtain⟨vl⟩:=vs
  match vl,hsz with
  | [a,b],_=>exact⟨a,b,rfl⟩
 have h0:=hv 0 _ v0 rfl rfl
 have h1:=hv 1 _ v1 rfl rfl
 cases h0 with
 |x h0=>
 cases h1 with
 |x h1=>
 cases h1 with
 |str _=>
 cases h0 with
 |str _=>
 refine(Tryz.strings_CutPrefix (bstr s) (bstr p) w).mono ?_
 rintro e w' ⟨rfl,rfl⟩
 refine⟨_,st,rfl,Kept.refl _ _,fun _ _ h=>h,fun _ _ h=> .inl h,?_⟩
 have e1:(bstr s).data.toList=s:=by simp[bstr]
 have e2:(bstr p).data.toList=p:=by simp[bstr]
 rw[e1,e2]
 exact V.tup2 (V.mkstr _ _ _) _
theorem cutP_enters:Go.Ab.Enters Tryz.prog 24:=Go.Proofs.enters_of Tryz.lays103.f103 (by kernel_rfl) rfl
def cutPG:List D→Option (Bool×D)
 | [.x (.str s),.x (.str p)]=>some (true,.tup [.x (.str (Lib.trimPrefix s p)),.x (.bool (Lib.hasPrefix s p))])
 |_=>none
theorem cutPG_ok: ∀args r,cutPG args=some (true,r)→PCalls Tryz.prog 24 args r:=by
 intro args r h
 unfold cutPG at h
 split at h
 ·rename_i s p
  simp only[ξI,ξP,ξa,ξe,true_and]at h
  obtain rfl:=h
  exact(cutP_c s p)
 ·cases h
theorem spl_sm (c:UInt8): ∀s:Tx,∀x∈spl c s,x.length≤s.length
 | []=>by intro x hx;simp[spl]at hx;simp[hx]
 |a::s=>by
  have ih:=spl_sm c s
  intro x hx
  rw[spl]at hx
  split at hx
  ·rcases List.mem_cons.1 hx with rfl|hx
   ·simp
   ·have:=ih x hx;simp;omega
  ·split at hx
   ·rename_i y r he
    rw[he]at ih
    rcases List.mem_cons.1 hx with rfl|hx
    ·have:=ih y List.mem_cons_self;simp;omega
    ·have:=ih x (List.mem_cons_of_mem _ hx);simp;omega
   ·simp at hx;subst hx;simp
abbrev Url:=Tx×Tx×Tx×List Tx×Int
def urlD (u:Url):D:= .agg [.x (.str u.1),.x (.str u.2.1),.x (.str u.2.2.1),.x (.sl (rows rStr u.2.2.2.1)),.x (.int .i64 u.2.2.2.2)]
def atsU (t:Tx):List Tx:=if t= []then []else spl 44 t
def readP (a b c d:Tx):Url×Int:=
 if(cutB 47 a).2.2=true∧(plnU (cutB 47 a).2.1).2=true∧(plnU d).2=true then
  if chkU (cutB 47 a).1 (plnU (cutB 47 a).2.1).1 (plnU d).1 (atsU b) (scpN c)=0 then
   (((cutB 47 a).1,(plnU (cutB 47 a).2.1).1,(plnU d).1,atsU b,scpN c),0)
  else(([],[],[],[],0),5)
 else(([],[],[],[],0),5)
def readU (s:Tx):Url×Int:=
 if Lib.hasPrefix s ldapT=true∧(spl 63 (Lib.trimPrefix s ldapT)).length=4 then
  readP ((spl 63 (Lib.trimPrefix s ldapT)).getD 0 []) ((spl 63 (Lib.trimPrefix s ldapT)).getD 1 []) ((spl 63 (Lib.trimPrefix s ldapT)).getD 2 []) ((spl 63 (Lib.trimPrefix s ldapT)).getD 3 [])
 else(([],[],[],[],0),5)
theorem trimP_len (s p:Tx):(Lib.trimPrefix s p).length≤s.length:=by
 unfold Lib.trimPrefix;split<;>simp
theorem spl4 (l:List Tx) (h:l.length=4): ∃a b c d,l= [a,b,c,d]:=by
 match l,h with
 | [a,b,c,d],_=>exact⟨a,b,c,d,rfl⟩
theorem uxD_len: ∀(n:Nat) (s b:Tx),s.length≤n→uxD s=some b→b.length≤s.length
 |0,s,b,h,e=>by
  have:s= []:=List.length_eq_zero_iff.1 (by omega)
  subst this;simp[uxD]at e;subst e;simp
 |n+1,[],b,h,e=>by simp[uxD]at e;subst e;simp
 |n+1,c::r,b,h,e=>by
  unfold uxD at e
  simp only[ξC]at h
  split at e
  ·split at e
   ·rename_i hh l r'
    simp only[ξC]at h
    split at e
    ·rcases hx:uxD r' with _|b'
     ·rw[hx]at e;simp at e
     ·rw[hx]at e;simp at e;subst e
      have:=uxD_len n r' b' (by omega) hx
      simp;omega
    ·simp at e
   ·simp at e
  ·rcases hx:uxD r with _|b'
   ·rw[hx]at e;simp at e
   ·rw[hx]at e;simp at e;subst e
    have:=uxD_len n r b' (by omega) hx
    simp;omega
theorem plnU_len (s:Tx):(plnU s).1.length≤s.length:=by
 unfold plnU;split
 ·simp
 ·rename_i b hb;exact uxD_len _ s b (Nat.le_refl _) hb
def tabUr7:Tabs:=addQ (addQ (addQ (addQ (addQ (addQ (noTabs) 24 cutPG) 25 splitG) 26 cutG) 27 plainG) 28 scopeG) 14 (viaNN ucheckG)
theorem tabUr7_ok:SsOk Tryz.prog tabUr7:=addQ_ok (addQ_ok (addQ_ok (addQ_ok (addQ_ok (addQ_ok (noTabs_ok) cutP_enters cutPG_ok) split_enters splitG_ok) cut_enters cutG_ok) (G_enters G_ok (p:=i27) rfl) plainG_ok) (G_enters G_ok (p:=i28) rfl) scopeG_ok) (G_enters G_ok (p:=i14) rfl) (viaNN_ok ucheckG_ok)
theorem tabUr7_q24 (a:List D):tabUr7.q 24 a=cutPG a:=rfl
theorem tabUr7_q25 (a:List D):tabUr7.q 25 a=splitG a:=rfl
theorem tabUr7_q26 (a:List D):tabUr7.q 26 a=cutG a:=rfl
theorem tabUr7_q27 (a:List D):tabUr7.q 27 a=plainG a:=rfl
theorem tabUr7_q28 (a:List D):tabUr7.q 28 a=scopeG a:=rfl
theorem tabUr7_q14 (a:List D):tabUr7.q 14 a=viaNN ucheckG a:=rfl
theorem tabUr7_r (f:FuncId) (a:List D) (o:List Ob):tabUr7.r f a o=none:=rfl
theorem tabUr7_k (f:FuncId) (a:List D) (o:List Ob):tabUr7.k f a o=none:=rfl
set_option maxHeartbeats 4000000 in
theorem uread_c (s:Tx) (hl:s.length≤100000):PCalls Tryz.prog 11 [.x (.str s)] (.tup [urlD (readU s).1,.x (.int .i64 (readU s).2)]):=by
 have hr:=trimP_len s ldapT
 rcases hq:readU s with⟨⟨ho,d,f,a,sc⟩,e⟩
 unfold readU at hq
 dsimp only[urlD]
 unfold ldapT at hq hr
 refine FCalls.pure (fcallsG (fz:=true) G_ok (p:=i11) rfl _ (ξ rfl) _ (fun C0 E0=> ?_)) rfl
 dsimp only[i11,qt,qi,qs,qb,qm,qa,qh,qj,qT,qF,qe,ql,qL,qf,q2,q3,q8,qz,qp,qP,qc,qk,qx,qy,qo,qr,qC,argsφ]
 have uu:=ξn @cutPG.eq_1 (ξn @cutPG.eq_2 (ξn @splitG.eq_1 (ξn @splitG.eq_2 (ξn @cutG.eq_1 (ξn @cutG.eq_2 (ξn @plainG.eq_1 (ξn @plainG.eq_2 (ξn @scopeG.eq_1 (ξn @scopeG.eq_2 (ξn @ucheckG.eq_1 (ξn @ucheckG.eq_2 (ξn @un_T (ξn @tabUr7_r (ξn @tabUr7_k (ξn @tabUr7_q14 (ξn @tabUr7_q24 (ξn @tabUr7_q25 (ξn @tabUr7_q26 (ξn @tabUr7_q27 (@tabUr7_q28))))))))))))))))))))
 have tT:=tabUr7_ok
 refine nz ?_
 refine WI.regB tT [0,2] ?_
 refine oG ?_
 refine oS ?_
 refine oN ?_
 refine nz ?_
 refine WI.regB tT [2,4,5] ?_
 refine oS ?_
 refine oC (hok:=by first|exact se|(clear uu;grind)|exact sd) ?_
 refine oS ?_
 iterate 2 refine oG ?_
 iterate 2 refine oS ?_
 refine oN ?_
 refine nz ?_
 refine WI.regB tT [2,5,6] ?_
 refine oS ?_
 refine oC (hok:=by first|exact se|(clear uu;grind)|exact sd) ?_
 refine oS ?_
 refine oN ?_
 refine nz ?_
 refine WI.regB tT [2,6,28] ?_
 refine oS ?_
 refine oG (hok:=by first|exact se|(clear uu;grind)|exact sd) ?_
 refine oS ?_
 iterate 4 refine oG (hok:=by first|exact se|(clear uu;grind)|exact sd) ?_
 refine oN ?_
 refine nz ?_
 refine cd (fun h0=> ?_) (fun h0=> ?_)
 ·refine WI.regB tT [2,3] ?_
  iterate 2 refine oG (hok:=by first|exact se|(clear uu;grind)|exact sd) ?_
  refine oS ?_
  refine oN ?_
  refine nz ?_
  refine WI.nnA ?_
  refine lf ?_
  rw[if_neg (by clear uu;grind)]at hq;cases hq;rfl
 ·have hpf:Lib.hasPrefix s [108,100,97,112,58,47,47]=true:=by clear uu;grind
  have hp4:(spl 63 (Lib.trimPrefix s [108,100,97,112,58,47,47])).length=4:=by clear uu;grind
  obtain⟨p0,p1,p2,p3,hp⟩:=spl4 _ hp4
  have hsm:=spl_sm 63 (Lib.trimPrefix s [108,100,97,112,58,47,47])
  rw[if_pos ⟨hpf,hp4⟩]at hq
  simp only[hp,List.mem_cons,List.not_mem_nil,or_false,forall_eq_or_imp,forall_eq]at hq hsm
  obtain⟨m0,m1,m2,m3⟩:=hsm
  have hq:readP p0 p1 p2 p3=((ho,d,f,a,sc),e):=hq
  have c1:=(cutB_lenD 47 p0).1
  have c2:=(cutB_lenD 47 p0).2
  have hs1:decide (smT (spl 44 p1))=true:=ξt fun x hx=>by have:=spl_sm 44 p1 x hx;omega
  have hs0:decide (smT [])=true:=ξt fun x hx=>by cases hx
  have hpl:=plnU_len (cutB 47 p0).2.1
  have hpf:=plnU_len p3
  have d3:decide (p3.length≤1000000)=true:=ξt (by omega)
  have d1:decide (p1.length≤1000000)=true:=ξt (by omega)
  have d0:decide (p0.length≤1000000)=true:=ξt (by omega)
  have dc:decide ((cutB 47 p0).2.1.length≤1000000)=true:=ξt (by omega)
  have uu:=ξn uu (ξn hp (ξn hs1 (ξn hs0 (ξn d3 (ξn d1 (ξn d0 dc))))))
  have hsp: ∀q:Bool,readP p0 p1 p2 p3=if(cutB 47 p0).2.2=true∧(plnU (cutB 47 p0).2.1).2=true∧(plnU p3).2=true then(if chkU (cutB 47 p0).1 (plnU (cutB 47 p0).2.1).1 (plnU p3).1 (atsU p1) (scpN p2)=0 then(((cutB 47 p0).1,(plnU (cutB 47 p0).2.1).1,(plnU p3).1,atsU p1,scpN p2),0)else(([],[],[],[],0),5))else(([],[],[],[],0),5):=fun _=>rfl
  rw[hsp true]at hq
  refine WI.regB tT [2,6,7,8,9] ?_
  refine oS ?_
  iterate 2 refine oG (hok:=by first|exact se|(clear uu;grind)|exact sd) ?_
  refine oC (hok:=by first|exact se|(clear uu;grind)|exact sd) ?_
  refine oS ?_
  iterate 3 refine oG ?_
  iterate 3 refine oS ?_
  refine oN ?_
  refine nz ?_
  refine WI.regB tT [2,6,7,9,10,11] ?_
  refine oS ?_
  refine oC (hok:=by first|exact se|(clear uu;grind)|exact sd) ?_
  refine oS ?_
  iterate 2 refine oG ?_
  iterate 2 refine oS ?_
  refine oN ?_
  refine nz ?_
  refine WI.regB tT [2,6,7,9,10,11,12,13] ?_
  refine oS ?_
  iterate 2 refine oG (hok:=by first|exact se|(clear uu;grind)|exact sd) ?_
  refine oC (hok:=by first|exact se|(clear uu;grind)|exact sd) ?_
  refine oS ?_
  iterate 2 refine oG ?_
  iterate 2 refine oS ?_
  refine oN ?_
  refine nz ?_
  refine WI.regB tT [2,6,7,10,12,59] ?_
  refine oS ?_
  refine oG (hok:=by first|exact se|(clear uu;grind)|exact sd) ?_
  refine oS ?_
  iterate 3 refine oG (hok:=by first|exact se|(clear uu;grind)|exact sd) ?_
  refine oS ?_
  iterate 3 refine oG (hok:=by first|exact se|(clear uu;grind)|exact sd) ?_
  refine oN ?_
  refine nz ?_
  refine cd (fun h1=> ?_) (fun h1=> ?_)
  ·refine WI.regB tT [2,3] ?_
   iterate 2 refine oG (hok:=by first|exact se|(clear uu;grind)|exact sd) ?_
   refine oS ?_
   refine oN ?_
   refine nz ?_
   refine WI.nnA ?_
   refine lf ?_
   rw[if_neg (by rintro⟨g1,g2,g3⟩;rw[g1,g2,g3]at h1;simp at h1)]at hq;cases hq;rfl
  ·have hg:(cutB 47 p0).2.2=true∧(plnU (cutB 47 p0).2.1).2=true∧(plnU p3).2=true:=by
    clear hq uu
    revert h1
    cases(cutB 47 p0).2.2<;>cases(plnU (cutB 47 p0).2.1).2<;>cases(plnU p3).2<;>simp
   rw[if_pos hg]at hq
   refine WI.regB tT [2,6,14] ?_
   iterate 4 refine oS ?_
   iterate 2 refine oG (hok:=by first|exact se|(clear uu;grind)|exact sd) ?_
   refine oC (hok:=by first|exact se|(clear uu;grind)|exact sd) ?_
   refine oG (hok:=by first|exact se|(clear uu;grind)|exact sd) ?_
   refine oG ?_
   refine oG (hok:=by first|exact se|(clear uu;grind)|exact sd) ?_
   refine oN ?_
   refine nz ?_
   refine WI.regB tT [2,6,14,72] ?_
   refine oS ?_
   iterate 3 refine oG (hok:=by first|exact se|(clear uu;grind)|exact sd) ?_
   refine oN ?_
   refine nz ?_
   refine cd (fun h2=> ?_) (fun h2=> ?_)
   ·have ha:atsU p1=spl 44 p1:=if_neg (by intro e;rw[e]at h2;simp at h2)
    rw[ha]at hq
    refine WI.regB tT [2,14] ?_
    refine oS ?_
    iterate 2 refine oG (hok:=by first|exact se|(clear uu;grind)|exact sd) ?_
    refine oC (hok:=by first|exact se|(clear uu;grind)|exact sd) ?_
    refine oS ?_
    refine oG (hok:=by first|exact se|(clear uu;grind)|exact sd) ?_
    refine oN ?_
    refine nz ?_
    refine WI.regB tT [2,14,80] ?_
    refine oG (hok:=by first|exact se|(clear uu;grind)|exact sd) ?_
    refine oC (hok:=by first|exact se|(clear uu;grind)|exact sd) ?_
    refine oG (hok:=by first|exact se|(clear uu;grind)|exact sd) ?_
    refine oN ?_
    refine nz ?_
    refine cd (fun h3=> ?_) (fun h3=> ?_)
    ·refine WI.regB tT [2,3] ?_
     iterate 2 refine oG (hok:=by first|exact se|(clear uu;grind)|exact sd) ?_
     refine oS ?_
     refine oN ?_
     refine nz ?_
     refine WI.nnA ?_
     refine lf ?_
     rw[if_neg h3]at hq;cases hq;rfl
    ·refine WI.regB tT [2,3] ?_
     iterate 2 refine oG (hok:=by first|exact se|(clear uu;grind)|exact sd) ?_
     refine oS ?_
     refine oN ?_
     refine nz ?_
     refine WI.nnA ?_
     refine lf ?_
     rw[if_pos h3]at hq;cases hq;rfl
   ·have ha:atsU p1= []:=if_pos (by simpa using h2)
    rw[ha]at hq
    refine WI.regB tT [2,14,80] ?_
    refine oG (hok:=by first|exact se|(clear uu;grind)|exact sd) ?_
    refine oC (hok:=by first|exact se|(clear uu;grind)|exact sd) ?_
    refine oG (hok:=by first|exact se|(clear uu;grind)|exact sd) ?_
    refine oN ?_
    refine nz ?_
    refine cd (fun h3=> ?_) (fun h3=> ?_)
    ·refine WI.regB tT [2,3] ?_
     iterate 2 refine oG (hok:=by first|exact se|(clear uu;grind)|exact sd) ?_
     refine oS ?_
     refine oN ?_
     refine nz ?_
     refine WI.nnA ?_
     refine lf ?_
     rw[if_neg h3]at hq;cases hq;rfl
    ·refine WI.regB tT [2,3] ?_
     iterate 2 refine oG (hok:=by first|exact se|(clear uu;grind)|exact sd) ?_
     refine oS ?_
     refine oN ?_
     refine nz ?_
     refine WI.nnA ?_
     refine lf ?_
     rw[if_pos h3]at hq;cases hq;rfl
def ureadG:List D→Option (Bool×D)
 | [.x (.str s)]=>some (decide (s.length≤100000),.tup [urlD (readU s).1,.x (.int .i64 (readU s).2)])
 |_=>none
theorem ureadG_ok: ∀args r,ureadG args=some (true,r)→PCalls Tryz.prog 11 args r:=by
 intro args r h
 unfold ureadG at h
 split at h
 ·rename_i s
  simp only[ξI,ξP,ξa,ξe,true_and]at h
  obtain⟨h1,rfl⟩:=h
  exact(uread_c s h1)
 ·cases h
theorem joinC (x:Tx) (l:List Tx) (s:Tx) (h:l≠ []):Lib.join (x::l) s=x++(s++Lib.join l s):=by
 cases l with
 |nil=>exact absurd rfl h
 |cons y r=>simp only[Lib.join,List.intercalate,List.intersperse_cons_cons,List.flatten_cons]
theorem join_spl (c:UInt8): ∀s:Tx,Lib.join (spl c s) [c]=s
 | []=>by simp[spl,Lib.join,List.intercalate]
 |b::r=>by
  have ih:=join_spl c r
  rw[spl];split
  ·rename_i h;rw[joinC _ _ _ (spl_ne c r),ih,h];rfl
  ·split
   ·rename_i y l he
    rw[he]at ih
    cases l with
    |nil=>rw[Lib.join_one]at ih⊢;rw[ih]
    |cons z l=>rw[joinC _ _ _ (by simp)]at ih⊢;rw[←ih];rfl
   ·exact absurd ‹spl c r=[]› (spl_ne c r)
theorem spl_join (c:UInt8): ∀l:List Tx,l≠ []→(∀x∈l,∀b∈x,b≠c)→spl c (Lib.join l [c])=l
 | [],h,_=>absurd rfl h
 | [x],_,h=>by rw[Lib.join_one];exact spl_none c x (h x List.mem_cons_self)
 |x::y::r,_,h=>by
  rw[joinC _ _ _ (by simp)]
  show spl c (x++c::(Lib.join (y::r) [c]))=_
  rw[spl_app c _ x (h x List.mem_cons_self),spl_join c (y::r) (by simp) (fun z hz=>h z (List.mem_cons_of_mem _ hz))]
theorem ueF: ∀c:Fin 256,(∀x∈ueB (UInt8.ofNat c.val),x≠63∧x≠47)∧((ueB (UInt8.ofNat c.val)= [UInt8.ofNat c.val]∧UInt8.ofNat c.val≠37)∨(ueB (UInt8.ofNat c.val)= [37,udg (c.val/16),udg (c.val % 16)]∧ux (udg (c.val/16))=c.val/16∧ux (udg (c.val % 16))=c.val % 16∧orB (c.val/16) (c.val % 16)=UInt8.ofNat c.val)):=by decide+kernel
theorem ueF' (c:UInt8):(∀x∈ueB c,x≠63∧x≠47)∧((ueB c= [c]∧c≠37)∨(ueB c= [37,udg (c.toNat/16),udg (c.toNat % 16)]∧ux (udg (c.toNat/16))=c.toNat/16∧ux (udg (c.toNat % 16))=c.toNat % 16∧orB (c.toNat/16) (c.toNat % 16)=c)):=by
 have h:=ueF ⟨c.toNat,UInt8.toNat_lt c⟩
 simpa only[UInt8.ofNat_toNat]using h
theorem ueS_by (s:Tx): ∀x∈ueS s,x≠63∧x≠47:=by
 intro x hx
 unfold ueS at hx
 obtain⟨c,_,hc⟩:=List.mem_flatMap.1 hx
 exact(ueF' c).1 x hc
theorem uxD_ueS: ∀s:Tx,uxD (ueS s)=some s
 | []=>by simp[ueS,uxD]
 |c::s=>by
  have ih:=uxD_ueS s
  have e:ueS (c::s)=ueB c++ueS s:=by simp[ueS]
  have h8:=UInt8.toNat_lt c
  rcases(ueF' c).2 with⟨h1,h2⟩|⟨h1,h2,h3,h4⟩
  ·rw[e,h1]
   show uxD (c::ueS s)=_
   unfold uxD;rw[if_neg h2,ih];rfl
  ·rw[e,h1]
   show uxD (37::udg (c.toNat/16)::udg (c.toNat % 16)::ueS s)=_
   unfold uxD;rw[if_pos rfl]
   dsimp only
   rw[h2,h3,if_pos (by omega),ih,h4];rfl
theorem plnU_ueS (s:Tx):plnU (ueS s)=(s,true):=by rw[plnU_some _ _ (uxD_ueS s)];simp
theorem plnU_back (s:Tx) (h:(plnU s).2=true):ueS (plnU s).1=s:=by
 unfold plnU at h⊢
 split
 ·rename_i e;rw[e]at h;cases h
 ·rename_i b e;rw[e]at h;exact of_decide_eq_true h
theorem cutB_app (c:UInt8) (y:Tx): ∀x:Tx,(∀b∈x,b≠c)→cutB c (x++c::y)=(x,y,true)
 | [],_=>by simp[cutB]
 |b::x,h=>by
  have ih:=cutB_app c y x (fun z hz=>h z (List.mem_cons_of_mem _ hz))
  show cutB c (b::(x++c::y))=_
  rw[cutB,if_neg (h b List.mem_cons_self),ih]
theorem cutB_back (c:UInt8): ∀s:Tx,(cutB c s).2.2=true→s=(cutB c s).1++c::(cutB c s).2.1
 | [],h=>by simp[cutB]at h
 |b::s,h=>by
  have ih:=cutB_back c s
  unfold cutB at h⊢
  split
  ·rename_i e;simp[e]
  ·rename_i e;rw[if_neg e]at h;show _=b::(_++_);rw[←ih h]
theorem typB_by (s:Tx) (h:typB s=true):s≠ []∧ ∀x∈s,x≠63∧x≠44:=by
 rw[typB_eq,ξa]at h
 have h1:=of_decide_eq_true h.1
 refine⟨fun e=>by rw[e]at h1;simp at h1,fun x hx=> ?_⟩
 obtain⟨j,hj,rfl⟩:=List.getElem_of_mem hx
 have h2:=tyU_get s s.length j h.2 hj
 rw[show s.getD j 0=s[j] by simp[hj]]at h2
 generalize s[j]=c at h2
 constructor<;>rintro rfl<;>revert h2<;>cases j<;>simp[tyC,letN,digN]
theorem hst_by (s:Tx) (h:(s.all fun c=>hstN c.toNat)=true): ∀x∈s,x≠63∧x≠47:=by
 intro x hx
 have h2:=List.all_eq_true.1 h x hx
 constructor<;>rintro rfl<;>revert h2<;>decide
theorem scpW_by (sc:Int): ∀x∈scpW sc,x≠63:=by
 unfold scpW;split
 ·decide
 split
 ·decide
 ·decide
theorem scpN_W (sc:Int) (h0:0≤sc) (h2:sc≤2):scpN (scpW sc)=sc:=by
 have:sc=0∨sc=1∨sc=2:=by omega
 rcases this with rfl|rfl|rfl<;>decide
theorem scpW_N (s:Tx) (h:0≤scpN s):scpW (scpN s)=s:=by
 unfold scpN at h⊢
 split
 ·rename_i e;rw[e];decide
 split
 ·rename_i e;rw[e];decide
 split
 ·rename_i e;rw[e];decide
 ·rename_i a b c;rw[if_neg a,if_neg b,if_neg c]at h;omega
theorem chkU_zero (ho d f:Tx) (a:List Tx) (sc:Int) (h:chkU ho d f a sc=0):(ho.all fun c=>hstN c.toNat)=true∧a.all typB=true:=by
 unfold chkU at h
 split at h
 ·omega
 split at h
 ·omega
 rename_i h1
 split at h
 ·omega
 rename_i h2
 refine⟨by simpa using h1,?_⟩
 unfold namU at h2
 revert h2
 cases a.all typB<;>simp
theorem join_by (a:List Tx) (h: ∀x∈a,∀b∈x,b≠63): ∀b∈Lib.join a [44],b≠63:=by
 induction a with
 |nil=>intro b hb;simp[Lib.join,List.intercalate]at hb
 |cons x r ih=>
  cases r with
  |nil=>rw[Lib.join_one];exact h x List.mem_cons_self
  |cons y r=>
   rw[joinC _ _ _ (by simp)]
   intro b hb
   rcases List.mem_append.1 hb with hb|hb
   ·exact h x List.mem_cons_self b hb
   ·rcases List.mem_append.1 hb with hb|hb
    ·rw[List.mem_singleton.1 hb];decide
    ·exact ih (fun z hz=>h z (List.mem_cons_of_mem _ hz)) b hb
theorem ats_join (a:List Tx) (h: ∀x∈a,x≠ []∧ ∀b∈x,b≠44):atsU (Lib.join a [44])=a:=by
 unfold atsU
 cases a with
 |nil=>rfl
 |cons x r=>
  rw[if_neg,spl_join 44 _ (by simp) (fun z hz=>(h z hz).2)]
  intro e
  cases r with
  |nil=>rw[Lib.join_one]at e;exact(h x List.mem_cons_self).1 e
  |cons y r=>rw[joinC _ _ _ (by simp)]at e;simp at e
theorem hasP (p s:Tx):Lib.hasPrefix (p++s) p=true∧Lib.trimPrefix (p++s) p=s:=by
 have h:Lib.hasPrefix (p++s) p=true:=by simp[Lib.hasPrefix]
 exact⟨h,by unfold Lib.trimPrefix;rw[h];simp⟩
theorem hasP_back (s p:Tx) (h:Lib.hasPrefix s p=true):s=p++Lib.trimPrefix s p:=by
 unfold Lib.trimPrefix;rw[if_pos h]
 have:p<+:s:=by simpa[Lib.hasPrefix]using h
 obtain⟨t,rfl⟩:=this
 simp
theorem u_back (ho d f:Tx) (a:List Tx) (sc:Int) (h:chkU ho d f a sc=0):readU (adrU ho d f a sc)=((ho,d,f,a,sc),0):=by
 obtain⟨k1,k2⟩:=chkU_zero _ _ _ _ _ h
 obtain⟨l1,l2,l3,l4,l5⟩:=chkU_lim ho d f a sc h
 have hh:=hst_by ho k1
 have ha: ∀x∈a,x≠ []∧ ∀b∈x,b≠63∧b≠44:=fun x hx=>typB_by x (List.all_eq_true.1 k2 x hx)
 have e:adrU ho d f a sc=ldapT++Lib.join [ho++47::ueS d,Lib.join a [44],scpW sc,ueS f] [63]:=by
  unfold adrU;rw[join4,join4];simp
 have hs:spl 63 (Lib.join [ho++47::ueS d,Lib.join a [44],scpW sc,ueS f] [63])= [ho++47::ueS d,Lib.join a [44],scpW sc,ueS f]:=by
  refine spl_join 63 _ (by simp) ?_
  intro x hx
  simp only[List.mem_cons,List.not_mem_nil,or_false]at hx
  rcases hx with rfl|rfl|rfl|rfl
  ·intro b hb
   rcases List.mem_append.1 hb with hb|hb
   ·exact(hh b hb).1
   ·rcases List.mem_cons.1 hb with rfl|hb
    ·decide
    ·exact(ueS_by d b hb).1
  ·exact join_by a fun x hx b hb=>((ha x hx).2 b hb).1
  ·exact scpW_by sc
  ·exact fun b hb=>(ueS_by f b hb).1
 obtain⟨p1,p2⟩:=hasP ldapT (Lib.join [ho++47::ueS d,Lib.join a [44],scpW sc,ueS f] [63])
 unfold readU
 rw[e,p1,p2,hs,if_pos ⟨rfl,rfl⟩]
 show readP (ho++47::ueS d) (Lib.join a [44]) (scpW sc) (ueS f)=_
 unfold readP
 rw[cutB_app 47 (ueS d) ho (fun b hb=>(hh b hb).2)]
 dsimp only
 rw[plnU_ueS,plnU_ueS,if_pos ⟨rfl,rfl,rfl⟩]
 dsimp only
 rw[ats_join a (fun x hx=>⟨(ha x hx).1,fun b hb=>((ha x hx).2 b hb).2⟩),scpN_W sc l4 l5,h,if_pos rfl]
theorem join_ats (p:Tx):Lib.join (atsU p) [44]=p:=by
 unfold atsU;split
 ·rename_i e;rw[e];rfl
 ·exact join_spl 44 p
theorem u_forth (s:Tx):(∃ho d f a sc,readU s=((ho,d,f,a,sc),0)∧chkU ho d f a sc=0∧adrU ho d f a sc=s∧a.length≤s.length+1∧(∀x∈a,x.length≤s.length)∧f.length≤s.length)∨readU s=(([],[],[],[],0),5):=by
 unfold readU
 split
 ·rename_i h
  obtain⟨p0,p1,p2,p3,hp⟩:=spl4 _ h.2
  have hj:=join_spl 63 (Lib.trimPrefix s ldapT)
  have hb:=hasP_back s ldapT h.1
  have hm:=spl_sm 63 (Lib.trimPrefix s ldapT)
  have ht:=trimP_len s ldapT
  rw[hp]at hj hm⊢
  show(∃ho d f a sc,readP p0 p1 p2 p3=_∧_)∨readP p0 p1 p2 p3=_
  unfold readP
  split
  ·rename_i g
   split
   ·rename_i hc
    refine .inl ⟨_,_,_,_,_,rfl,hc,?_,?_,?_,?_⟩
    ·obtain⟨l1,l2,l3,l4,l5⟩:=chkU_lim _ _ _ _ _ hc
     unfold adrU
     rw[plnU_back _ g.2.1,plnU_back _ g.2.2,join_ats,scpW_N p2 l4]
     rw[join4]at hj⊢
     have h0:=cutB_back 47 p0 g.1
     conv=>rhs;rw[hb,←hj,h0]
     simp
    ·have:=hm p1 (by simp)
     unfold atsU;split
     ·simp
     ·have:=(splM 44 p1).1;omega
    ·intro x hx
     have:=hm p1 (by simp)
     unfold atsU at hx
     split at hx
     ·cases hx
     ·have:=spl_sm 44 p1 x hx;omega
    ·have:=hm p3 (by simp)
     have:=plnU_len p3;omega
   ·exact .inr rfl
  ·exact .inr rfl
 ·exact .inr rfl
theorem forB (p:UInt8→Bool) (h:(List.range 256).all (fun n=>p (UInt8.ofNat n))=true) (c:UInt8):p c=true:=by
 have h1:=List.all_eq_true.1 h c.toNat (List.mem_range.2 (UInt8.toNat_lt c))
 rwa [show UInt8.ofNat c.toNat=c by simp]at h1
theorem escB_by (c:UInt8):((escB c).all fun x=>decide (x≠40)&&decide (x≠41)&&decide (x≠42))=true:=forB (fun c=>(escB c).all fun x=>decide (x≠40)&&decide (x≠41)&&decide (x≠42)) (by decide+kernel) c
theorem escS_by (s:Txt): ∀x∈escS s,x≠40∧x≠41∧x≠42:=by
 intro x hx
 obtain⟨c,_,h2⟩:=List.mem_flatMap.1 hx
 have:=List.all_eq_true.1 (escB_by c) x h2
 simpa[and_assoc]using this
theorem escB_mk (c:UInt8):(!mkN c.toNat||(decide (hx (dgt (c.toNat/16))<16)&&decide (hx (dgt (c.toNat % 16))<16)&&decide (hxV (dgt (c.toNat/16)) (dgt (c.toNat % 16))=c)))=true:=
 forB (fun c=> !mkN c.toNat||(decide (hx (dgt (c.toNat/16))<16)&&decide (hx (dgt (c.toNat % 16))<16)&&decide (hxV (dgt (c.toNat/16)) (dgt (c.toNat % 16))=c))) (by decide+kernel) c
theorem escB_no (c:UInt8):(mkN c.toNat||decide (c≠92))=true:=forB (fun c=>mkN c.toNat||decide (c≠92)) (by decide+kernel) c
theorem escS_cons (c:UInt8) (s:Txt):escS (c::s)=escB c++escS s:=rfl
theorem unE_put: ∀v:Txt,unE (escS v)=some v
 | []=>rfl
 |c::s=>by
  have ih:=unE_put s
  rw[escS_cons]
  by_cases h:mkN c.toNat=true
  ·have h1:=escB_mk c
   simp only[h,Bool.not_true,Bool.false_or,ξa,ξe]at h1
   rw[escB,if_pos h]
   show unE (92::_::_::escS s)=_
   rw[unE_e,if_pos ⟨h1.1.1,h1.1.2⟩,ih,h1.2];rfl
  ·have h1:=escB_no c
   simp only[h,Bool.false_or,ξe]at h1
   rw[escB,if_neg h]
   show unE (c::escS s)=_
   rw[unE_c c _ h1,ih];rfl
theorem unR_put: ∀v:Txt,unR (escS v)=v
 | []=>rfl
 |c::s=>by
  have ih:=unR_put s
  rw[escS_cons]
  by_cases h:mkN c.toNat=true
  ·have h1:=escB_mk c
   simp only[h,Bool.not_true,Bool.false_or,ξa,ξe]at h1
   rw[escB,if_pos h]
   show unR (92::_::_::escS s)=_
   rw[unR_e,if_pos ⟨h1.1.1,h1.1.2⟩,ih,h1.2]
  ·have h1:=escB_no c
   simp only[h,Bool.false_or,ξe]at h1
   rw[escB,if_neg h]
   show unR (c::escS s)=_
   rw[unR_cc c _ h1,ih]
theorem valF_put (v:Txt):valF (escS v)=(v,true):=by
 rw[valF_some _ _ (unE_put v)];simp
theorem valF_ok (s:Txt) (h:(valF s).2=true):escS (valF s).1=s:=by
 unfold valF at h⊢
 split at h
 ·cases h
 ·exact of_decide_eq_true h
def jn:List Txt→Txt
 | []=> []
 | [x]=>x
 |x::y::l=>x++ [42]++jn (y::l)
theorem jn_cons (x:Txt) (l:List Txt) (h:l≠ []):jn (x::l)=x++ [42]++jn l:=by
 cases l with
 |nil=>exact absurd rfl h
 |cons y l=>rfl
theorem jn_spl: ∀s:Txt,jn (spl 42 s)=s
 | []=>rfl
 |b::l=>by
  have ih:=jn_spl l
  have hn:=spl_ne 42 l
  unfold spl
  split
  ·rename_i h;rw[jn_cons _ _ hn,ih,h];rfl
  ·split
   ·rename_i x r e
    rw[e]at ih
    rcases r with _|⟨y,r⟩
    ·simp only[jn]at ih⊢;rw[ih]
    ·simp only[jn]at ih⊢;rw[←ih];simp
   ·rename_i e;exact absurd e hn
theorem jn_three (a:Txt) (m:List Txt) (b:Txt):jn (a::(m++ [b]))=a++ [42]++(m.flatMap fun x=>x++ [42])++b:=by
 induction m generalizing a with
 |nil=>simp[jn]
 |cons x m ih=>rw[List.cons_append,jn_cons _ _ (by simp),ih];simp
theorem spl_jn: ∀(l:List Txt),l≠ []→(∀x∈l,∀c∈x,c≠42)→spl 42 (jn l)=l
 | [],h,_=>absurd rfl h
 | [x],_,h=>by rw[jn,spl_none 42 x (h x (by simp))]
 |x::y::l,_,h=>by
  rw[jn_cons _ _ (by simp),List.append_assoc]
  show spl 42 (x++42::jn (y::l))=_
  rw[spl_app 42 _ x (h x (by simp)),spl_jn (y::l) (by simp) (fun z hz=>h z (by simp[hz]))]
theorem cutB_eq2 (c:UInt8): ∀s:Txt,(cutB c s).2.2=true→s=(cutB c s).1++c::(cutB c s).2.1
 | [],h=>by simp[cutB]at h
 |b::l,h=>by
  unfold cutB at h⊢
  split at h
  ·rename_i e;rw[if_pos e,e];rfl
  ·rename_i e;rw[if_neg e];simp at h⊢;exact cutB_eq2 c l h
theorem cutB_put (c:UInt8) (t:Txt): ∀a:Txt,(∀x∈a,x≠c)→cutB c (a++c::t)=(a,t,true)
 | [],_=>by simp[cutB]
 |b::l,h=>by
  rw[List.cons_append,cutB,if_neg (h b (by simp)),cutB_put c t l (fun x hx=>h x (by simp[hx]))]
theorem suf_eq (s p:Txt) (h:Lib.hasSuffix s p=true):s=Lib.trimSuffix s p++p:=by
 unfold Lib.trimSuffix;rw[if_pos h]
 obtain⟨t,rfl⟩:=List.isSuffixOf_iff_suffix.1 h
 simp
theorem suf_one (a:Txt) (c d:UInt8):Lib.hasSuffix (a++ [c]) [d]=decide (c=d):=by
 unfold Lib.hasSuffix
 rw[Bool.eq_iff_iff,List.isSuffixOf_iff_suffix,ξe]
 constructor
 ·rintro⟨t,h⟩
  have:=congrArg List.getLast? h
  simp at this;exact this.symm
 ·rintro rfl;exact⟨a,rfl⟩
theorem kindF_put (name:Txt):(kindF name).1=3∧name=(kindF name).2∨(kindF name).1=5∧name=(kindF name).2++ [62]∨(kindF name).1=6∧name=(kindF name).2++ [60]∨(kindF name).1=8∧name=(kindF name).2++ [126]:=by
 unfold kindF
 split
 ·rename_i h;exact .inr (.inr (.inr ⟨rfl,suf_eq _ _ h⟩))
 ·split
  ·rename_i h;exact .inr (.inr (.inl ⟨rfl,suf_eq _ _ h⟩))
  ·split
   ·rename_i h;exact .inr (.inl ⟨rfl,suf_eq _ _ h⟩)
   ·exact .inl ⟨rfl,rfl⟩
theorem putX_mk (k:Int) (a v h:Txt) (m:List Txt) (t:Txt):putX (.mk k a v h m t [])= [40]++hdX k a v h m t++ [41]:=by
 rw[putX,putXL,List.append_nil]
theorem three_of (l:List Txt) (h:1<l.length): ∃a m b,l=a::(m++ [b]):=by
 rcases l with _|⟨a,r⟩
 ·simp at h
 ·exact⟨a,r.dropLast,r.getLast (by intro e;subst e;simp at h),by rw[List.dropLast_concat_getLast]⟩
theorem mid_get (a:Txt) (m:List Txt) (b:Txt):(a::(m++ [b])).getD 0 []=a∧((a::(m++ [b])).take ((a::(m++ [b])).length-1)).drop 1=m∧(a::(m++ [b])).getD ((a::(m++ [b])).length-1) []=b:=by
 have e:(a::(m++ [b])).length-1=m.length+1:=by simp
 rw[e];simp
theorem subF_put (l:List Txt) (h:1<l.length) (hk:(subF l).2=true):jn l=escS (subF l).1.1++ [42]++midX (subF l).1.2.1++escS (subF l).1.2.2:=by
 have hall:l.all (fun s=>(valF s).2)=true:=by
  cases e:l.all (fun s=>(valF s).2)with
  |true=>rfl
  |false=>unfold subF at hk;rw[e]at hk;exact absurd hk (by simp)
 obtain⟨a,m,b,rfl⟩:=three_of l h
 have hv: ∀s∈a::(m++ [b]),escS (valF s).1=s:=fun s hs=>valF_ok s (List.all_eq_true.1 hall s hs)
 have hm:(a::(m++ [b])).map (fun s=>(valF s).1)=(valF a).1::(m.map (fun s=>(valF s).1)++ [(valF b).1]):=by simp
 have hl:(a::(m++ [b])).length=((valF a).1::(m.map (fun s=>(valF s).1)++ [(valF b).1])).length:=by simp
 have g:=mid_get (valF a).1 (m.map (fun s=>(valF s).1)) (valF b).1
 unfold subF
 rw[if_pos hall,hm,hl]
 simp only
 rw[g.1,g.2.1,g.2.2,hv a (by simp),hv b (by simp),jn_three]
 congr 2
 unfold midX
 rw[List.flatMap_map]
 clear hm hl g hall hk h
 induction m with
 |nil=>rfl
 |cons x m ih=>
  rw[List.flatMap_cons,List.flatMap_cons,ih (fun s hs=>hv s (by simp at hs⊢;rcases hs with rfl|hs|rfl;exact .inl rfl;exact .inr (.inr (.inl hs));exact .inr (.inr (.inr rfl)))),hv x (by simp)]
theorem leafF_put (s:Txt) (h:(leafF s).2=true):putX (leafF s).1= [40]++s++ [41]:=by
 unfold leafF at h⊢
 split at h
 ·rename_i hc
  rw[if_pos hc]
  have e:=cutB_eq2 61 s hc
  have hk:=kindF_put (cutB 61 s).1
  generalize(cutB 61 s).1=name at h e hk⊢
  generalize(cutB 61 s).2.1=rest at h e⊢
  rw[e]
  generalize kindF name=kp at h hk⊢
  obtain⟨k,a⟩:=kp
  unfold restF at h⊢
  simp only at hk h⊢
  split
  ·rename_i h1
   obtain⟨rfl,rfl⟩:=h1
   rcases hk with hk|hk|hk|hk<;>simp at hk
   subst hk
   rw[putX_mk];simp[hdX]
  ·rename_i h1
   rw[if_neg h1]at h
   split
   ·rename_i h2
    rw[if_pos h2]at h
    simp only at h
    have h3:=subF_put _ h2.2 h
    rw[jn_spl]at h3
    obtain⟨rfl,_⟩:=h2
    rcases hk with hk|hk|hk|hk<;>simp at hk
    subst hk
    generalize hq:subF (spl 42 rest)=q at h h3⊢
    rw[putX_mk,h3];simp[hdX]
   ·rename_i h2
    rw[if_neg h2]at h
    simp only at h
    have h3:=valF_ok rest h
    rw[putX_mk]
    rcases hk with⟨rfl,rfl⟩|⟨rfl,rfl⟩|⟨rfl,rfl⟩|⟨rfl,rfl⟩<;>simp[hdX,h3]
 ·cases h
theorem loopF_put (r:Txt→Flt×Txt×Bool) (hr: ∀s,(r s).2.2=true→s=putX (r s).1++(r s).2.1): ∀(n:Nat) (l:List Flt) (s:Txt),(loopF r n l s).2.2=true→putXL l++s=putXL (loopF r n l s).1++41::(loopF r n l s).2.1
 |0,l,s,h=>by simp[loopF]at h
 |n+1,l,[],h=>by rw[loop_nil]at h;cases h
 |n+1,l,c::s,h=>by
  by_cases h40:c=40
  ·cases hq:(r (c::s)).2.2 with
   |false=>rw[loop_fail r n l c s h40 hq]at h;cases h
   |true=>
    rw[loop_go r n l c s h40 hq]at h⊢
    have h1:=loopF_put r hr n _ _ h
    have h2:=hr _ hq
    rw[putXL_snoc]at h1
    rw[←h1,List.append_assoc,←h2]
  ·by_cases h41:c=41
   ·rw[loop_end r n l s c h41,h41]
   ·rw[loop_no r n l c s h40 h41]at h;cases h
theorem two_of (s:Txt) (h: ¬s.length<2):s=s.getD 0 0::s.getD 1 0::s.drop 2:=by
 rcases s with _|⟨a,_|⟨b,s⟩⟩
 ·simp at h
 ·simp at h
 ·rfl
theorem putX_kind (k:Int) (l:List Flt) (c:UInt8) (hk:hdX k [] [] [] [] []= [c]):putX (.mk k [] [] [] [] [] l)=40::c::(putXL l++ [41]):=by
 rw[putX,hk];simp
theorem readF_put: ∀(d:Nat) (s:Txt),(readF d s).2.2=true→s=putX (readF d s).1++(readF d s).2.1
 |0,s,h=>by simp[readF]at h
 |d+1,s,h=>by
  have ih:=loopF_put (readF d) (readF_put d) ((s.drop 2).length+1) [] (s.drop 2)
  unfold readF at h⊢
  split at h
  ·cases h
  ·rename_i h2
   rw[if_neg h2]
   have hl: ¬s.length<2:=fun e=>h2 (.inl e)
   have h40:s.getD 0 0=40:=Decidable.not_not.1 fun e=>h2 (.inr e)
   have hs:=two_of s hl
   rw[h40]at hs
   simp only at h⊢
   simp only[putXL,List.nil_append]at ih
   split at h
   ·rename_i h3;rw[if_pos h3];rw[h3]at hs
    rw[putX_kind 0 _ 38 rfl];conv=>lhs;rw[hs,ih h]
    simp
   ·rename_i h3;rw[if_neg h3]
    split at h
    ·rename_i h3;rw[if_pos h3];rw[h3]at hs
     rw[putX_kind 1 _ 124 rfl];conv=>lhs;rw[hs,ih h]
     simp
    ·rename_i h3;rw[if_neg h3]
     split at h
     ·rename_i h3;rw[if_pos h3];rw[h3]at hs
      rw[putX_kind 2 _ 33 rfl];conv=>lhs;rw[hs,ih h]
      simp
     ·rename_i h3;rw[if_neg h3]
      split at h
      ·rename_i h3;rw[if_pos h3]
       have h4:=cutB_eq2 41 _ h3
       have h5:=leafF_put _ h
       simp only
       rw[h5]
       have hs1:s=40::s.drop 1:=by(conv=>lhs;rw[hs]);rw[hs];rfl
       conv=>lhs;rw[hs1,h4]
       simp
      ·cases h
def okC (c:UInt8):Bool:=letN c.toNat||digN c.toNat
theorem typ_all (a:Txt) (h:typB a=true):a≠ []∧ ∀c∈a,okC c=true:=by
 rw[typB_eq,ξa,ξe]at h
 refine⟨by rintro rfl;simp at h,fun c hc=> ?_⟩
 obtain⟨i,hi,rfl⟩:=List.mem_iff_getElem.1 hc
 have:=tyU_get a a.length i h.2 hi
 rw[show a.getD i 0=a[i] by simp[hi]]at this
 unfold tyC at this;unfold okC
 simp only[Bool.or_eq_true,ξa]at this⊢
 rcases this with h|h
 ·exact .inl h
 ·exact .inr h.2
theorem okC_by (c:UInt8):(!okC c||(decide (c≠40)&&decide (c≠41)&&decide (c≠42)&&decide (c≠60)&&decide (c≠61)&&decide (c≠62)&&decide (c≠126)&&decide (c≠38)&&decide (c≠124)&&decide (c≠33)))=true:=
 forB (fun c=> !okC c||(decide (c≠40)&&decide (c≠41)&&decide (c≠42)&&decide (c≠60)&&decide (c≠61)&&decide (c≠62)&&decide (c≠126)&&decide (c≠38)&&decide (c≠124)&&decide (c≠33))) (by decide+kernel) c
theorem okC_ne {c:UInt8} (h:okC c=true):c≠40∧c≠41∧c≠42∧c≠60∧c≠61∧c≠62∧c≠126∧c≠38∧c≠124∧c≠33:=by
 have:=okC_by c
 simp only[h,Bool.not_true,Bool.false_or,ξa,ξe]at this
 obtain⟨⟨⟨⟨⟨⟨⟨⟨⟨a,b⟩,c⟩,d⟩,e⟩,f⟩,g⟩,i⟩,j⟩,k⟩:=this
 exact⟨a,b,c,d,e,f,g,i,j,k⟩
structure Leaf (k:Int) (a v h:Txt) (m:List Txt) (t:Txt):Prop where
 ne:a≠ []
 ok: ∀c∈a,okC c=true
 kd:(k=3∨k=5∨k=6∨k=8)∧h= []∧m= []∧t= []∨k=7∧v= []∧h= []∧m= []∧t= []∨k=4∧v= []∧partsB h m t=true
theorem none_eq {h:Txt} {m:List Txt} {t:Txt} (e:noneB h m t=true):h= []∧m= []∧t= []:=by
 unfold noneB at e
 simp only[ξa,ξe]at e
 exact⟨e.1.1,List.length_eq_zero_iff.1 e.2,e.1.2⟩
theorem one_ok (k:Int) (a v h:Txt) (m:List Txt) (t:Txt) (l:List Flt) (e:oneF k a v h m t l.length=0):
  ((k=0∨k=1∨k=2)∧a= []∧v= []∧h= []∧m= []∧t= [])∨(l= []∧Leaf k a v h m t):=by
 unfold oneF at e
 split at e
 ·cases e
 rename_i h1
 split at e
 ·cases e
 split at e
 ·cases e
 rename_i h3
 split at e
 ·cases e
 rename_i h4
 have h3':fitsB k a v h m t l.length=true:=by simpa using h3
 unfold fitsB at h3'
 split at h3'
 ·rename_i h5
  simp only[ξa,ξe]at h3'
  obtain⟨n1,n2,n3⟩:=none_eq h3'.1.2
  exact .inl ⟨h5,h3'.1.1.1,h3'.1.1.2,n1,n2,n3⟩
 ·rename_i h5
  have ht:typB a=true:=by
   cases hh:typB a with
   |true=>rfl
   |false=>exact absurd ⟨by omega,hh⟩ h4
  obtain⟨t1,t2⟩:=typ_all a ht
  split at h3'
  ·rename_i h6
   simp only[ξa,ξe]at h3'
   exact .inr ⟨List.length_eq_zero_iff.1 h3'.1.1,t1,t2,.inr (.inr ⟨h6,h3'.1.2,h3'.2⟩)⟩
  ·split at h3'
   ·rename_i h7
    simp only[ξa,ξe]at h3'
    obtain⟨n1,n2,n3⟩:=none_eq h3'.2
    exact .inr ⟨List.length_eq_zero_iff.1 h3'.1.1,t1,t2,.inr (.inl ⟨h7,h3'.1.2,n1,n2,n3⟩)⟩
   ·simp only[ξa,ξe]at h3'
    obtain⟨n1,n2,n3⟩:=none_eq h3'.2
    exact .inr ⟨List.length_eq_zero_iff.1 h3'.1,t1,t2,.inl ⟨by omega,n1,n2,n3⟩⟩
theorem not_in {a:Txt} {c:UInt8} (ho: ∀x∈a,okC x=true) (hc:okC c=false): ∀x∈a,x≠c:=fun x hx e=>by
 have:=ho x hx;rw[e,hc]at this;cases this
theorem midX_by (m:List Txt): ∀x∈midX m,x≠40∧x≠41:=by
 intro x hx
 obtain⟨s,_,h2⟩:=List.mem_flatMap.1 hx
 rcases List.mem_append.1 h2 with h|h
 ·exact⟨(escS_by s x h).1,(escS_by s x h).2.1⟩
 ·rw[List.mem_singleton]at h;subst h;exact⟨by decide,by decide⟩
theorem hd_by {k:Int} {a v h:Txt} {m:List Txt} {t:Txt} (L:Leaf k a v h m t): ∀x∈hdX k a v h m t,x≠40∧x≠41:=by
 have ha: ∀x∈a,x≠40∧x≠41:=fun x hx=>⟨(okC_ne (L.ok x hx)).1,(okC_ne (L.ok x hx)).2.1⟩
 have he: ∀s,∀x∈escS s,x≠40∧x≠41:=fun s x hx=>⟨(escS_by s x hx).1,(escS_by s x hx).2.1⟩
 have hq: ∀c:UInt8,(c≠40∧c≠41)→ ∀x∈ [c],x≠40∧x≠41:=fun c hc x hx=>by rw[List.mem_singleton]at hx;subst hx;exact hc
 have ap: ∀p q:Txt,(∀x∈p,x≠40∧x≠41)→(∀x∈q,x≠40∧x≠41)→ ∀x∈p++q,x≠40∧x≠41:=fun p q h1 h2 x hx=>(List.mem_append.1 hx).elim (h1 x) (h2 x)
 have h2: ∀c d:UInt8,(c≠40∧c≠41)→(d≠40∧d≠41)→ ∀x∈ [c,d],x≠40∧x≠41:=fun c d hc hd=>ap [c] [d] (hq c hc) (hq d hd)
 rcases L.kd with⟨hk,-,-,-⟩|⟨rfl,-,-,-,-⟩|⟨rfl,-,-⟩
 ·rcases hk with rfl|rfl|rfl|rfl
  ·exact ap _ _ (ap _ _ ha (hq 61 (by decide))) (he v)
  ·exact ap _ _ (ap _ _ ha (h2 62 61 (by decide) (by decide))) (he v)
  ·exact ap _ _ (ap _ _ ha (h2 60 61 (by decide) (by decide))) (he v)
  ·exact ap _ _ (ap _ _ ha (h2 126 61 (by decide) (by decide))) (he v)
 ·exact ap _ _ ha (h2 61 42 (by decide) (by decide))
 ·exact ap _ _ (ap _ _ (ap _ _ (ap _ _ (ap _ _ ha (hq 61 (by decide))) (he h)) (hq 42 (by decide))) (midX_by m)) (he t)
theorem hd_first {k:Int} {a v h:Txt} {m:List Txt} {t:Txt} (L:Leaf k a v h m t): ∃c r,hdX k a v h m t=c::r∧okC c=true:=by
 rcases ha:a with _|⟨c,a'⟩
 ·exact absurd ha L.ne
 ·have hc:=L.ok c (by rw[ha];simp)
  rcases L.kd with⟨hk,-,-,-⟩|⟨rfl,-,-,-,-⟩|⟨rfl,-,-⟩
  ·rcases hk with rfl|rfl|rfl|rfl<;>exact⟨c,_,rfl,hc⟩
  ·exact⟨c,_,rfl,hc⟩
  ·exact⟨c,_,rfl,hc⟩
theorem kind_none (a:Txt) (hn:a≠ []) (ho: ∀c∈a,okC c=true):kindF a=(3,a):=by
 obtain⟨b,c,rfl⟩: ∃b c,a=b++ [c]:=⟨a.dropLast,a.getLast hn,(List.dropLast_concat_getLast hn).symm⟩
 have hc:=okC_ne (ho c (by simp))
 unfold kindF
 rw[suf_one,suf_one,suf_one,decide_eq_false hc.2.2.2.2.2.2.1,decide_eq_false hc.2.2.2.1,decide_eq_false hc.2.2.2.2.2.1]
 rfl
theorem trim_one (a:Txt) (c:UInt8):Lib.trimSuffix (a++ [c]) [c]=a:=by
 unfold Lib.trimSuffix;rw[suf_one];simp
theorem kind_sign (a:Txt) (k:Int) (c:UInt8) (h:(k,c)=(5,62)∨(k,c)=(6,60)∨(k,c)=(8,126)):kindF (a++ [c])=(k,a):=by
 unfold kindF
 rw[suf_one,suf_one,suf_one]
 rcases h with h|h|h<;>cases h<;>simp[trim_one]
theorem esc_star (v:Txt):escS v≠ [42]:=fun e=>(escS_by v 42 (by rw[e];simp)).2.2 rfl
theorem spl_esc (v:Txt):spl 42 (escS v)= [escS v]:=spl_none 42 _ fun x hx=>(escS_by v x hx).2.2
theorem midX_map (m:List Txt):midX m=(m.map escS).flatMap fun x=>x++ [42]:=by unfold midX;rw[List.flatMap_map]
theorem parts_jn (h:Txt) (m:List Txt) (t:Txt):escS h++ [42]++midX m++escS t=jn (escS h::(m.map escS++ [escS t])):=by rw[jn_three,midX_map]
theorem parts_spl (h:Txt) (m:List Txt) (t:Txt):spl 42 (escS h++ [42]++midX m++escS t)=escS h::(m.map escS++ [escS t]):=by
 rw[parts_jn]
 refine spl_jn _ (by simp) fun x hx c hc=> ?_
 rcases List.mem_cons.1 hx with rfl|hx
 ·exact(escS_by _ c hc).2.2
 ·rcases List.mem_append.1 hx with hx|hx
  ·obtain⟨s,_,rfl⟩:=List.mem_map.1 hx;exact(escS_by _ c hc).2.2
  ·rw[List.mem_singleton]at hx;subst hx;exact(escS_by _ c hc).2.2
theorem esc_ne {v:Txt} (h:v≠ []):escS v≠ []:=fun e=>h (by have:=unR_put v;rw[e]at this;exact this.symm)
theorem parts_star (h:Txt) (m:List Txt) (t:Txt) (hp:partsB h m t=true):escS h++ [42]++midX m++escS t≠ [42]:=by
 intro e
 have h1:=parts_spl h m t
 rw[e]at h1
 have h2:spl 42 [42]= [[],[]]:=rfl
 rw[h2]at h1
 have h3:m= []:=by
  rcases m with _|⟨x,m⟩
  ·rfl
  ·have:=congrArg List.length h1;simp at this
 subst h3
 simp at h1
 unfold partsB at hp
 have e1:h= []:=by
  rcases h with _|⟨x,h⟩
  ·rfl
  ·exact absurd h1.1 (esc_ne (by simp))
 have e2:t= []:=by
  rcases t with _|⟨x,t⟩
  ·rfl
  ·exact absurd h1.2 (esc_ne (by simp))
 rw[e1,e2]at hp
 simp at hp
theorem subF_back (h:Txt) (m:List Txt) (t:Txt):subF (escS h::(m.map escS++ [escS t]))=((h,m,t),true):=by
 have hv: ∀v,(valF (escS v))=(v,true):=valF_put
 have hall:(escS h::(m.map escS++ [escS t])).all (fun s=>(valF s).2)=true:=by
  rw[List.all_eq_true];intro x hx
  rcases List.mem_cons.1 hx with rfl|hx
  ·rw[hv]
  ·rcases List.mem_append.1 hx with hx|hx
   ·obtain⟨s,_,rfl⟩:=List.mem_map.1 hx;rw[hv]
   ·rw[List.mem_singleton]at hx;subst hx;rw[hv]
 have hm:(escS h::(m.map escS++ [escS t])).map (fun s=>(valF s).1)=h::(m++ [t]):=by
  simp only[List.map_cons,List.map_append,List.map_map,List.map_nil,hv]
  congr 2
  rw[show((fun s=>(valF s).1)∘escS)=id from funext fun s=>by simp[hv]];simp
 have hl:(escS h::(m.map escS++ [escS t])).length=(h::(m++ [t])).length:=by simp
 have g:=mid_get h m t
 unfold subF
 rw[if_pos hall,hm,hl,g.1,g.2.1,g.2.2]
theorem leaf_back {k:Int} {a v h:Txt} {m:List Txt} {t:Txt} (L:Leaf k a v h m t):leafF (hdX k a v h m t)=(.mk k a v h m t [],true):=by
 have h61: ∀x∈a,x≠61:=not_in L.ok (by decide)
 have hsg: ∀c:UInt8,c≠61→ ∀x∈a++ [c],x≠61:=fun c hc x hx=>(List.mem_append.1 hx).elim (h61 x) (fun h=>by rw[List.mem_singleton]at h;subst h;exact hc)
 rcases L.kd with⟨hk,rfl,rfl,rfl⟩|⟨rfl,rfl,rfl,rfl,rfl⟩|⟨rfl,rfl,hp⟩
 ·rcases hk with rfl|rfl|rfl|rfl
  ·have e:hdX 3 a v [] [] []=a++61::escS v:=by simp[hdX]
   rw[e,leafF,cutB_put 61 _ a h61]
   simp only[if_true,kind_none a L.ne L.ok]
   unfold restF
   rw[if_neg (fun hh=>esc_star v hh.2),spl_esc,if_neg (by simp),valF_put]
  ·have e:hdX 5 a v [] [] []=(a++ [62])++61::escS v:=by simp[hdX]
   rw[e,leafF,cutB_put 61 _ _ (hsg 62 (by decide))]
   simp only[if_true,kind_sign a 5 62 (.inl rfl)]
   unfold restF
   rw[if_neg (by simp),if_neg (by simp),valF_put]
  ·have e:hdX 6 a v [] [] []=(a++ [60])++61::escS v:=by simp[hdX]
   rw[e,leafF,cutB_put 61 _ _ (hsg 60 (by decide))]
   simp only[if_true,kind_sign a 6 60 (.inr (.inl rfl))]
   unfold restF
   rw[if_neg (by simp),if_neg (by simp),valF_put]
  ·have e:hdX 8 a v [] [] []=(a++ [126])++61::escS v:=by simp[hdX]
   rw[e,leafF,cutB_put 61 _ _ (hsg 126 (by decide))]
   simp only[if_true,kind_sign a 8 126 (.inr (.inr rfl))]
   unfold restF
   rw[if_neg (by simp),if_neg (by simp),valF_put]
 ·have e:hdX 7 a [] [] [] []=a++61:: [42]:=by simp[hdX]
  rw[e,leafF,cutB_put 61 _ a h61]
  simp only[if_true,kind_none a L.ne L.ok]
  unfold restF
  rw[if_pos ⟨rfl,rfl⟩]
 ·have e:hdX 4 a [] h m t=a++61::(escS h++ [42]++midX m++escS t):=by simp[hdX]
  rw[e,leafF,cutB_put 61 _ a h61]
  simp only[if_true,kind_none a L.ne L.ok]
  unfold restF
  rw[if_neg (fun hh=>parts_star h m t hp hh.2),parts_spl,if_pos ⟨rfl,by simp⟩,subF_back]
theorem eqAt_put (t:Txt): ∀a:Txt,(∀x∈a,x≠61)→eqAt (a++61::t)=a.length
 | [],_=>by simp[eqAt]
 |b::l,h=>by
  rw[List.cons_append,eqAt,if_neg (h b (by simp)),eqAt_put t l (fun x hx=>h x (by simp[hx]))];rfl
theorem star_esc (v:Txt):starR (escS v)= [v]:=by unfold starR;rw[spl_esc];simp[unR_put]
theorem star_parts (h:Txt) (m:List Txt) (t:Txt):starR (escS h++ [42]++midX m++escS t)=h::(m++ [t]):=by
 unfold starR;rw[parts_spl]
 simp only[List.map_cons,List.map_append,List.map_map,List.map_nil,unR_put]
 congr 2
 rw[show(unR∘escS)=id from funext fun s=>unR_put s];simp
theorem last_of (a:Txt) (c:UInt8):(a++ [c]).getD ((a++ [c]).length-1) 0=c∧(a++ [c]).take ((a++ [c]).length-1)=a:=by simp
theorem leafR_cut (nm rest:Txt) (hn:nm≠ []) (h61: ∀x∈nm,x≠61):leafR (nm++61::rest)=restR nm rest:=by
 have hl:nm.length≠0:=fun e=>hn (List.length_eq_zero_iff.1 e)
 unfold leafR
 rw[eqAt_put rest nm h61,if_neg (by simp;omega)]
 simp
theorem restR_plain (a rest:Txt) (hn:a≠ []) (ho: ∀c∈a,okC c=true):restR a rest=if rest= [42]then .mk 7 a [] [] [] [] []
  else if(starR rest).length=1 then .mk 3 a ((starR rest).getD 0 []) [] [] [] []
  else .mk 4 a [] ((starR rest).getD 0 []) (((starR rest).take ((starR rest).length-1)).drop 1) ((starR rest).getD ((starR rest).length-1) []) []:=by
 obtain⟨b,c,rfl⟩: ∃b c,a=b++ [c]:=⟨a.dropLast,a.getLast hn,(List.dropLast_concat_getLast hn).symm⟩
 have hc:=okC_ne (ho c (by simp))
 unfold restR
 simp only
 rw[(last_of b c).1,if_neg hc.2.2.2.2.2.1,if_neg hc.2.2.2.1,if_neg hc.2.2.2.2.2.2.1]
theorem leafR_back {k:Int} {a v h:Txt} {m:List Txt} {t:Txt} (L:Leaf k a v h m t):leafR (hdX k a v h m t)= .mk k a v h m t []:=by
 have h61: ∀x∈a,x≠61:=not_in L.ok (by decide)
 have hsg: ∀c:UInt8,c≠61→ ∀x∈a++ [c],x≠61:=fun c hc x hx=>(List.mem_append.1 hx).elim (h61 x) (fun h=>by rw[List.mem_singleton]at h;subst h;exact hc)
 rcases L.kd with⟨hk,rfl,rfl,rfl⟩|⟨rfl,rfl,rfl,rfl,rfl⟩|⟨rfl,rfl,hp⟩
 ·rcases hk with rfl|rfl|rfl|rfl
  ·have e:hdX 3 a v [] [] []=a++61::escS v:=by simp[hdX]
   rw[e,leafR_cut a _ L.ne h61,restR_plain a _ L.ne L.ok,if_neg (esc_star v),star_esc,if_pos (by simp)];rfl
  ·have e:hdX 5 a v [] [] []=(a++ [62])++61::escS v:=by simp[hdX]
   rw[e,leafR_cut _ _ (by simp) (hsg 62 (by decide))]
   unfold restR;simp only;rw[(last_of a 62).1,(last_of a 62).2,if_pos rfl,unR_put]
  ·have e:hdX 6 a v [] [] []=(a++ [60])++61::escS v:=by simp[hdX]
   rw[e,leafR_cut _ _ (by simp) (hsg 60 (by decide))]
   unfold restR;simp only;rw[(last_of a 60).1,(last_of a 60).2,if_neg (by decide),if_pos rfl,unR_put]
  ·have e:hdX 8 a v [] [] []=(a++ [126])++61::escS v:=by simp[hdX]
   rw[e,leafR_cut _ _ (by simp) (hsg 126 (by decide))]
   unfold restR;simp only;rw[(last_of a 126).1,(last_of a 126).2,if_neg (by decide),if_neg (by decide),if_pos rfl,unR_put]
 ·have e:hdX 7 a [] [] [] []=a++61:: [42]:=by simp[hdX]
  rw[e,leafR_cut a _ L.ne h61,restR_plain a _ L.ne L.ok,if_pos rfl]
 ·have e:hdX 4 a [] h m t=a++61::(escS h++ [42]++midX m++escS t):=by simp[hdX]
  have g:=mid_get h m t
  rw[e,leafR_cut a _ L.ne h61,restR_plain a _ L.ne L.ok,if_neg (parts_star h m t hp),star_parts,if_neg (by simp),g.1,g.2.1,g.2.2]
theorem brAt_put (t:Txt): ∀a:Txt,(∀x∈a,x≠40∧x≠41)→brAt (a++41::t)=a.length
 | [],_=>by simp[brAt]
 |b::l,h=>by
  have hb:=h b (by simp)
  rw[List.cons_append,brAt,if_neg (fun e=>e.elim hb.2 hb.1),brAt_put t l (fun x hx=>h x (by simp[hx]))];rfl
theorem putX_40 (f:Flt): ∃r,putX f=40::r:=by
 obtain⟨k,a,v,h,m,t,l⟩:=f
 rw[putX];exact⟨_,rfl⟩
theorem putXL_ge: ∀l:List Flt,l.length≤(putXL l).length
 | []=>by simp
 |f::l=>by
  obtain⟨r,e⟩:=putX_40 f
  have:=putXL_ge l
  rw[putXL,e];simp;omega
theorem loop_back (r:Txt→Flt×Txt×Bool): ∀(l l0:List Flt) (t:Txt) (n:Nat),l.length<n→(∀f∈l,∀t,r (putX f++t)=(f,t,true))→loopF r n l0 (putXL l++41::t)=(l0++l,t,true)
 | [],l0,t,n+1,_,_=>by rw[putXL,List.nil_append,loop_end r n l0 t 41 rfl,List.append_nil]
 |f::l,l0,t,n+1,hn,h=>by
  obtain⟨q,e⟩:=putX_40 f
  have h1:=h f (by simp) (putXL l++41::t)
  have h2:=loop_back r l (l0++ [f]) t n (by simpa using hn) (fun g hg=>h g (by simp[hg]))
  rw[putXL,List.append_assoc]
  rw[e,List.cons_append]at h1⊢
  rw[loop_go r n l0 40 _ rfl (by rw[h1]),h1,h2];simp
 |_,_,_,0,h,_=>by omega
theorem allFL_get: ∀(l:List Flt),allFL l=0→ ∀f∈l,allF f=0
 | [],_,f,h=>by simp at h
 |x::l,e,f,h=>by
  rw[allFL]at e
  split at e
  ·rename_i h0
   rcases List.mem_cons.1 h with rfl|h
   ·exact h0
   ·exact allFL_get l e f h
  ·rename_i h0;exact absurd e h0
theorem depFL_get: ∀(l:List Flt) (m:Nat),∀f∈l,depF f m≤depFL l m
 |x::l,m,f,h=>by
  rw[depFL]
  rcases List.mem_cons.1 h with rfl|h
  ·omega
  ·have:=depFL_get l m f h;omega
theorem list_text (k:Int) (l:List Flt) (c:UInt8) (t:Txt) (hk:hdX k [] [] [] [] []= [c]):putX (.mk k [] [] [] [] [] l)++t=40::c::(putXL l++41::t):=by
 rw[putX_kind k l c hk];simp
theorem leaf_text (k:Int) (a v h:Txt) (m:List Txt) (t:Txt) (u:Txt):putX (.mk k a v h m t [])++u=40::(hdX k a v h m t++41::u):=by
 rw[putX_mk];simp
theorem readF_back: ∀(d M:Nat) (f:Flt),d≤M→depF f M≤d→allF f=0→ ∀t,readF d (putX f++t)=(f,t,true)
 |0,M,f,_,h,_,t=>by have:=(depF_b f M).1;omega
 |d+1,0,f,h,_,_,t=>by omega
 |d+1,M+1,.mk k a v h m tl l,hM,hd,ha,t=>by
  rw[depF]at hd
  rw[allF]at ha
  have h1:oneF k a v h m tl l.length=0:=by
   split at ha
   ·assumption
   ·exact ha
  rw[if_pos h1]at ha
  have ih: ∀f∈l,∀t,readF d (putX f++t)=(f,t,true):=fun f hf=>readF_back d M f (by omega) (by have:=depFL_get l M f hf;omega) (allFL_get l ha f hf)
  have hlb:loopF (readF d) ((putXL l++41::t).length+1) [] (putXL l++41::t)=(l,t,true):=by
   rw[loop_back (readF d) l [] t _ (by have:=putXL_ge l;simp;omega) ih];rfl
  rcases one_ok k a v h m tl l h1 with⟨hk,rfl,rfl,rfl,rfl,rfl⟩|⟨rfl,L⟩
  ·rcases hk with rfl|rfl|rfl
   ·rw[list_text 0 l 38 t rfl]
    unfold readF
    rw[if_neg (by simp)]
    simp only[List.getD_cons_zero,List.getD_cons_succ,List.drop_succ_cons,List.drop_zero,if_true,hlb]
   ·rw[list_text 1 l 124 t rfl]
    unfold readF
    rw[if_neg (by simp)]
    simp only[List.getD_cons_zero,List.getD_cons_succ,List.drop_succ_cons,List.drop_zero,hlb]
    rw[if_neg (by decide),if_pos trivial]
   ·rw[list_text 2 l 33 t rfl]
    unfold readF
    rw[if_neg (by simp)]
    simp only[List.getD_cons_zero,List.getD_cons_succ,List.drop_succ_cons,List.drop_zero,hlb]
    rw[if_neg (by decide),if_neg (by decide),if_pos trivial]
  ·rw[leaf_text]
   obtain⟨c,r,hc,hoc⟩:=hd_first L
   have hb:=hd_by L
   have hlf:=leaf_back L
   have hn:=okC_ne hoc
   unfold readF
   rw[if_neg (by rw[hc];simp)]
   simp only
   have hg:(40::(hdX k a v h m tl++41::t)).getD 1 0=c:=by rw[hc];rfl
   rw[hg,if_neg hn.2.2.2.2.2.2.2.1,if_neg hn.2.2.2.2.2.2.2.2.1,if_neg hn.2.2.2.2.2.2.2.2.2]
   rw[show(40::(hdX k a v h m tl++41::t)).drop 1=hdX k a v h m tl++41::t from rfl,cutB_put 41 t _ (fun x hx=>(hb x hx).2)]
   simp only[if_true,hlf]
theorem readR_back: ∀(d M:Nat) (f:Flt),d≤M→depF f M≤d→allF f=0→ ∀t,readR d (putX f++t)=(f,t,true)
 |0,M,f,_,h,_,t=>by have:=(depF_b f M).1;omega
 |d+1,0,f,h,_,_,t=>by omega
 |d+1,M+1,.mk k a v h m tl l,hM,hd,ha,t=>by
  rw[depF]at hd
  rw[allF]at ha
  have h1:oneF k a v h m tl l.length=0:=by
   split at ha
   ·assumption
   ·exact ha
  rw[if_pos h1]at ha
  have ih: ∀f∈l,∀t,readR d (putX f++t)=(f,t,true):=fun f hf=>readR_back d M f (by omega) (by have:=depFL_get l M f hf;omega) (allFL_get l ha f hf)
  have hlb:loopF (readR d) ((putXL l++41::t).length+1) [] (putXL l++41::t)=(l,t,true):=by
   rw[loop_back (readR d) l [] t _ (by have:=putXL_ge l;simp;omega) ih];rfl
  rcases one_ok k a v h m tl l h1 with⟨hk,rfl,rfl,rfl,rfl,rfl⟩|⟨rfl,L⟩
  ·rcases hk with rfl|rfl|rfl
   ·rw[list_text 0 l 38 t rfl]
    unfold readR
    rw[if_neg (by simp),if_neg (by simp[kindR])]
    simp only[List.getD_cons_zero,List.getD_cons_succ,List.drop_succ_cons,List.drop_zero,if_true,hlb]
    simp[kindR]
   ·rw[list_text 1 l 124 t rfl]
    unfold readR
    rw[if_neg (by simp),if_neg (by simp[kindR])]
    simp only[List.getD_cons_zero,List.getD_cons_succ,List.drop_succ_cons,List.drop_zero,if_true,hlb]
    simp[kindR]
   ·rw[list_text 2 l 33 t rfl]
    unfold readR
    rw[if_neg (by simp),if_neg (by simp[kindR])]
    simp only[List.getD_cons_zero,List.getD_cons_succ,List.drop_succ_cons,List.drop_zero,if_true,hlb]
    simp[kindR]
  ·rw[leaf_text]
   obtain⟨c,r,hc,hoc⟩:=hd_first L
   have hb:=hd_by L
   have hlf:=leafR_back L
   have hn:=okC_ne hoc
   have hbr:brAt ((40::(hdX k a v h m tl++41::t)).drop 1)=(hdX k a v h m tl).length:=brAt_put t _ hb
   have hg:(40::(hdX k a v h m tl++41::t)).getD 1 0=c:=by rw[hc];rfl
   have hkr:kindR c= -1:=by unfold kindR;rw[if_neg hn.2.2.2.2.2.2.2.1,if_neg hn.2.2.2.2.2.2.2.2.1,if_neg hn.2.2.2.2.2.2.2.2.2]
   unfold readR
   rw[if_neg (by rw[hc];simp),hg,hkr,if_pos (by decide),hbr]
   have e1:(40::(hdX k a v h m tl++41::t)).getD (1+(hdX k a v h m tl).length) 0=41:=by
    rw[Nat.add_comm,List.getD_cons_succ];simp
   have e2:((40::(hdX k a v h m tl++41::t)).take (1+(hdX k a v h m tl).length)).drop 1=hdX k a v h m tl:=by
    rw[Nat.add_comm,List.take_succ_cons];simp
   have e3:(40::(hdX k a v h m tl++41::t)).drop (1+(hdX k a v h m tl).length+1)=t:=by
    rw[show 1+(hdX k a v h m tl).length+1=(hdX k a v h m tl).length+1+1 by omega,List.drop_succ_cons];simp
   rw[e1,e2,e3,if_neg (by rintro(h|h);simp at h;omega;exact absurd h (by decide)),hlf]
theorem chk_ok (f:Flt) (h:chkF f=0):depF f 64≤16∧allF f=0:=by
 unfold chkF at h
 split at h
 ·cases h
 ·exact⟨by omega,h⟩
theorem Read_eq (s:Txt):ReadF s=ReadR s:=by
 unfold ReadF ReadR
 split
 ·rfl
 ·rename_i hs
  by_cases c1:(readF 20 s).2.2=true∧(readF 20 s).2.1= []∧chkF (readF 20 s).1=0
  ·have h1:=readF_put 20 s c1.1
   rw[c1.2.1,List.append_nil]at h1
   obtain⟨d,a⟩:=chk_ok _ c1.2.2
   have h2:=readR_back 20 64 (readF 20 s).1 (by omega) (by omega) a []
   rw[List.append_nil,←h1]at h2
   have h3:putF (readF 20 s).1=(s,0):=by
    unfold putF;rw[if_neg (by simp[c1.2.2]),←h1,if_neg hs]
   rw[if_pos c1,h2,if_pos ⟨rfl,rfl,by rw[h3],by rw[h3]⟩]
  ·rw[if_neg c1,if_neg]
   rintro⟨h1,h2,h3,h4⟩
   have hc:chkF (readR 20 s).1=0:=by
    unfold putF at h3
    split at h3
    ·exact h3
    ·rename_i hh;exact Decidable.not_not.1 hh
   have hp:putX (readR 20 s).1=s:=by
    unfold putF at h3 h4
    rw[if_neg (by simp[hc])]at h3 h4
    split at h3
    ·cases h3
    ·rename_i hh;rw[if_neg hh]at h4;exact h4
   obtain⟨d,a⟩:=chk_ok _ hc
   have h5:=readF_back 20 64 (readR 20 s).1 (by omega) (by omega) a []
   rw[List.append_nil,hp]at h5
   exact c1 (by rw[h5];exact⟨rfl,rfl,hc⟩)
theorem take_extT {α:Type} {a b:List α} {i:Nat} (h:a.take i=b.take i) (ha:i<a.length) (hb:i<b.length) (he:a[i]=b[i]):a.take (i+1)=b.take (i+1):=by
 rw[List.take_add_one,List.take_add_one,h];simp[ξg ha,ξg hb,he]
theorem texts_c (a b:List (List UInt8)):PCalls Tryz.prog 13 [.x (.sl (rows rStr a)),.x (.sl (rows rStr b))] (.x (.bool (decide (a=b)))):=by
 refine PCalls.wf (fun hw=> ?_)
 have ha:a.length≤maxLen:=by have:=(hw _ (List.mem_cons_self)).1;rwa [rows_len]at this
 have hb:b.length≤maxLen:=by have:=(hw _ (List.mem_cons_of_mem _ List.mem_cons_self)).1;rwa [rows_len]at this
 clear hw
 simp only[maxLen]at ha hb
 refine FCalls.pure (fcallsG (fz:=true) G_ok (p:=i13) rfl _ (ξ rfl) _ (fun c E0=> ?_)) rfl
 dsimp only[i13,qt,qi,qs,qb,qm,qa,qh,qj,qT,qF,qe,ql,qL,qf,q2,q3,q8,qz,qp,qP,qc,qk,qx,qy,qo,qr,qC,argsφ]
 have uu:=trivial
 have tT:=(noTabs_ok:SsOk Tryz.prog noTabs)
 refine nz ?_
 refine rg tT [0,1] ?_
 refine rg tT [0,1,10] ?_
 refine cd (fun h0=> ?_) (fun h0=> ?_)
 ·refine rg tT [4] ?_
  refine lf ?_
  rw[decide_eq_false (fun e=>h0 (by rw[e]))]
 ·refine rg tT [0,1,5] ?_
  refine WI.loop (fun φ os=> ∃i:Nat,φ= [(0,.x (.sl (rows rStr a))),(1,.x (.sl (rows rStr b))),(5,.x (.int .i64 i))]∧os= []∧i≤a.length∧a.take i=b.take i) (down a.length 5) ?_ (fun φ os hI=> ?_)
  ·exact⟨0,rfl,rfl,by omega,by simp⟩
  ·obtain⟨i,rfl,rfl,hi,he⟩:=hI
   refine nz ?_
   refine rg tT [0,1,5,14] ?_
   refine cd (fun h1=> ?_) (fun h1=> ?_)
   ·refine WI.dregB tT [0,1,5,25] ?_
    iterate 2 refine dFS ?_
    iterate 2 refine dQG ?_
    iterate 2 refine dFS ?_
    iterate 2 refine dQG ?_
    refine dFG ?_
    refine dN ?_
    refine nz ?_
    refine cd (fun h2=> ?_) (fun h2=> ?_)
    ·refine rg tT [4] ?_
     refine lf ?_
     rw[decide_eq_false (fun e=>h2 (by subst e;rfl))]
    ·refine rg tT [0,1,5] ?_
     exact⟨⟨i+1,by simp,rfl,by omega,take_extT he (by omega) (by omega) h2⟩,by simp[down,Ab.get,D.val,intOf?];omega⟩
   ·refine rg tT [4] ?_
    refine lf ?_
    rw[ξt];rw[ξT (by omega),ξT (by omega)]at he;exact he
def textsG:List D→Option (Bool×D)
 | [.x (.sl A),.x (.sl B)]=>(unrows rStr A).bind fun a=>(unrows rStr B).map fun b=>(true,.x (.bool (decide (a=b))))
 |_=>none
theorem textsG_ok: ∀args r,textsG args=some (true,r)→PCalls Tryz.prog 13 args r:=by
 intro args r h
 unfold textsG at h
 split at h
 ·simp only[ξb,ξm]at h
  obtain⟨a,h1,b,h2,h3⟩:=h
  cases h3
  rw[←rows_unrows good_rStr h1,←rows_unrows good_rStr h2]
  exact texts_c a b
 ·cases h
theorem join_snoc (l:List Tx) (x:Tx) (s:Tx) (h:l≠ []):Lib.join (l++ [x]) s=Lib.join l s++(s++x):=by
 induction l with
 |nil=>exact absurd rfl h
 |cons y r ih=>
  cases r with
  |nil=>rw[List.cons_append,joinC _ _ _ (by simp),List.nil_append,Lib.join_one,Lib.join_one]
  |cons z r=>
   rw[List.cons_append,joinC _ _ _ (by simp),ih (by simp),joinC y (z::r) s (by simp)]
   simp
theorem join_take (a:List Tx) (j:Nat) (h:j<a.length):Lib.join (a.take (j+1)) [44]=(if j=0 then []else Lib.join (a.take j) [44]++ [44])++a.getD j []:=by
 rw[List.take_succ_eq_append_getElem h,show a.getD j []=a[j] by simp[h]]
 split
 ·rename_i e;subst e;rw[List.take_zero,List.nil_append,Lib.join_one];rfl
 ·rename_i e
  rw[join_snoc _ _ _ (by intro e2;have:=congrArg List.length e2;simp at this;rcases this with h1|h1<;>simp_all)]
  simp
def tabUs2:Tabs:=addQ (addQ (addQ (addQ (addQ (noTabs) 10 escLG) 17 hostLG) 18 readR2G) 19 TypedG) 20 ReadRG
theorem tabUs2_ok:SsOk Tryz.prog tabUs2:=addQ_ok (addQ_ok (addQ_ok (addQ_ok (addQ_ok (noTabs_ok) (G_enters G_ok (p:=i10) rfl) escLG_ok) (G_enters G_ok (p:=i17) rfl) hostLG_ok) (G_enters G_ok (p:=i18) rfl) readR2G_ok) (G_enters G_ok (p:=i19) rfl) TypedG_ok) (G_enters G_ok (p:=i20) rfl) ReadRG_ok
theorem tabUs2_q10 (a:List D):tabUs2.q 10 a=escLG a:=rfl
theorem tabUs2_q17 (a:List D):tabUs2.q 17 a=hostLG a:=rfl
theorem tabUs2_q18 (a:List D):tabUs2.q 18 a=readR2G a:=rfl
theorem tabUs2_q19 (a:List D):tabUs2.q 19 a=TypedG a:=rfl
theorem tabUs2_q20 (a:List D):tabUs2.q 20 a=ReadRG a:=rfl
theorem tabUs2_r (f:FuncId) (a:List D) (o:List Ob):tabUs2.r f a o=none:=rfl
theorem tabUs2_k (f:FuncId) (a:List D) (o:List Ob):tabUs2.k f a o=none:=rfl
set_option maxHeartbeats 4000000 in
theorem putL_c (ho d f:Tx) (a:List Tx) (sc:Int) (hs:smT a) (hl:ho.length≤100000∧d.length≤100000∧f.length≤100000):PCalls Tryz.prog 8 [.agg [.x (.str ho),.x (.str d),.x (.str f),.x (.sl (rows rStr a)),.x (.int .i64 sc)]] (.tup [.x (.str (putU ho d f a sc).1),.x (.int .i64 (putU ho d f a sc).2)]):=by
 have he:=Read_eq f
 have hck:chkU ho d f a sc=if ho.length>255∨d.length>4096∨a.length>64 then 3 else if(ho.all fun c=>hstN c.toNat)=false then 5 else if namU d a=false then 13 else if sc<0∨sc>2 then 2 else if f= []then 0 else(ReadF f).2:=rfl
 rcases hq:ReadF f with⟨⟨k,a1,v,h',mm,t,l⟩,e⟩
 rw[hq]at he hck
 have hy:=he.symm
 have hle1:=ueS_len d
 have hle2:=ueS_len f
 unfold putU
 refine FCalls.pure (fcallsG (fz:=true) G_ok (p:=i8) rfl _ (ξ rfl) _ (fun C0 E0=> ?_)) rfl
 dsimp only[i8,qt,qi,qs,qb,qm,qa,qh,qj,qT,qF,qe,ql,qL,qf,q2,q3,q8,qz,qp,qP,qc,qk,qx,qy,qo,qr,qC,argsφ]
 have uu:=ξn @escLG.eq_1 (ξn @escLG.eq_2 (ξn @hostLG.eq_1 (ξn @hostLG.eq_2 (ξn @readR2G.eq_1 (ξn @readR2G.eq_2 (ξn @TypedG.eq_1 (ξn @TypedG.eq_2 (ξn @ReadRG.eq_1 (ξn @ReadRG.eq_2 (ξn @un_T (ξn @un_F (ξn hy (ξn @fltD.eq_1 (ξn @tabUs2_r (ξn @tabUs2_k (ξn @tabUs2_q10 (ξn @tabUs2_q17 (ξn @tabUs2_q18 (ξn @tabUs2_q19 (@tabUs2_q20))))))))))))))))))))
 have tT:=tabUs2_ok
 refine nz ?_
 refine WI.regB tT [1] ?_
 refine oG ?_
 iterate 2 refine oS ?_
 refine oN ?_
 refine nz ?_
 refine WI.regB tT [1,27] ?_
 refine oS ?_
 iterate 3 refine oG (hok:=by first|exact se|(refine ξt ?_;clear uu hck;simp only[ξA,ξC,ξN];have hl7:ldapT.length=7:=rfl;omega)|(clear uu hck;grind)|exact sd) ?_
 refine oS ?_
 iterate 5 refine oG (hok:=by first|exact se|(refine ξt ?_;clear uu hck;simp only[ξA,ξC,ξN];have hl7:ldapT.length=7:=rfl;omega)|(clear uu hck;grind)|exact sd) ?_
 refine oS ?_
 iterate 5 refine oG (hok:=by first|exact se|(refine ξt ?_;clear uu hck;simp only[ξA,ξC,ξN];have hl7:ldapT.length=7:=rfl;omega)|(clear uu hck;grind)|exact sd) ?_
 refine oN ?_
 refine nz ?_
 refine cd (fun h0=> ?_) (fun h0=> ?_)
 ·refine WI.regB tT [2,3] ?_
  iterate 2 refine oS ?_
  refine oN ?_
  refine nz ?_
  refine lf ?_
  rw[show chkU ho d f a sc=3 from by rw[hck,if_pos (by clear uu;grind)]];rfl
 ·have n0: ¬(ho.length>255∨d.length>4096∨a.length>64):=by clear uu;grind
  rw[if_neg n0]at hck
  have hla:a.length≤64:=by omega
  refine WI.regB tT [1,31] ?_
  refine oS ?_
  refine oG (hok:=by first|exact se|(refine ξt ?_;clear uu hck;simp only[ξA,ξC,ξN];have hl7:ldapT.length=7:=rfl;omega)|(clear uu hck;grind)|exact sd) ?_
  refine oC (hok:=by first|exact se|(refine ξt ?_;clear uu hck;simp only[ξA,ξC,ξN];have hl7:ldapT.length=7:=rfl;omega)|(clear uu hck;grind)|exact sd) ?_
  refine oG (hok:=by first|exact se|(refine ξt ?_;clear uu hck;simp only[ξA,ξC,ξN];have hl7:ldapT.length=7:=rfl;omega)|(clear uu hck;grind)|exact sd) ?_
  refine oN ?_
  refine nz ?_
  refine cd (fun h1=> ?_) (fun h1=> ?_)
  ·refine WI.regB tT [2,3] ?_
   iterate 2 refine oS ?_
   refine oN ?_
   refine nz ?_
   refine lf ?_
   rw[show chkU ho d f a sc=5 from by rw[hck,if_pos (by simpa using h1)]];rfl
  ·rw[if_neg (by simpa using h1)]at hck
   refine WI.regB tT [1,5] ?_
   refine oS ?_
   refine oG (hok:=by first|exact se|(refine ξt ?_;clear uu hck;simp only[ξA,ξC,ξN];have hl7:ldapT.length=7:=rfl;omega)|(clear uu hck;grind)|exact sd) ?_
   refine oC (hok:=by first|exact se|(refine ξt ?_;clear uu hck;simp only[ξA,ξC,ξN];have hl7:ldapT.length=7:=rfl;omega)|(clear uu hck;grind)|exact sd) ?_
   refine oS ?_
   iterate 2 refine oG ?_
   iterate 2 refine oS ?_
   refine oN ?_
   refine nz ?_
   refine WI.regB tT [1,6] ?_
   refine oS ?_
   refine oG (hok:=by first|exact se|(refine ξt ?_;clear uu hck;simp only[ξA,ξC,ξN];have hl7:ldapT.length=7:=rfl;omega)|(clear uu hck;grind)|exact sd) ?_
   refine oS ?_
   refine oN ?_
   refine nz ?_
   refine WI.dregB tT [1,6,7] ?_
   refine dFS ?_
   refine dQG (hok:=by first|exact se|(refine ξt ?_;clear uu hck;simp only[ξA,ξC,ξN];have hl7:ldapT.length=7:=rfl;omega)|(clear uu hck;grind)|exact sd) ?_
   iterate 2 refine dFG (hok:=by first|exact se|(refine ξt ?_;clear uu hck;simp only[ξA,ξC,ξN];have hl7:ldapT.length=7:=rfl;omega)|(clear uu hck;grind)|exact sd) ?_
   refine dFS ?_
   refine dQG (hok:=by first|exact se|(refine ξt ?_;clear uu hck;simp only[ξA,ξC,ξN];have hl7:ldapT.length=7:=rfl;omega)|(clear uu hck;grind)|exact sd) ?_
   refine dQC (hok:=by first|exact se|(refine ξt ?_;clear uu hck;simp only[ξA,ξC,ξN];have hl7:ldapT.length=7:=rfl;omega)|(clear uu hck;grind)|exact sd) ?_
   iterate 2 refine dFG (hok:=by first|exact se|(refine ξt ?_;clear uu hck;simp only[ξA,ξC,ξN];have hl7:ldapT.length=7:=rfl;omega)|(clear uu hck;grind)|exact sd) ?_
   refine dFS ?_
   refine dN ?_
   refine nz ?_
   refine WI.regB tT [1,6,7,8] ?_
   refine oS ?_
   refine oN ?_
   refine nz ?_
   refine WI.loop (fun φ os=> ∃(j:Nat),φ= [(1,.ptr 0 0),(6,.x (.bool (((readS d).2==0)&&(a.take j).all typB))),(7,.x (.str (ldapT++ho++ [47]++ueS d++ [63]++Lib.join (a.take j) [44]))),(8,.x (.int .i64 j))]∧os= [.box [.x (.str ho),.x (.str d),.x (.str f),.x (.sl (rows rStr a)),.x (.int .i64 sc)]]∧j≤a.length) (down a.length 8) ?_ (fun φ os hI=> ?_)
   ·exact⟨0,by simp[Lib.join,ldapT],rfl,by omega⟩
   ·obtain⟨j,rfl,rfl,hj⟩:=hI
    have hlj:=joinA_len (a.take j) 1000000 (fun x hx=>hs x (List.mem_of_mem_take hx))
    have hlt:(a.take j).length≤64:=by rw[List.length_take];omega
    have hlj:(Lib.join (a.take j) [44]).length≤64*1000001:=Nat.le_trans hlj (Nat.mul_le_mul_right _ hlt)
    refine nz ?_
    refine WI.regB tT [1,6,7,8,53] ?_
    iterate 2 refine oS ?_
    iterate 3 refine oG (hok:=by first|exact se|(refine ξt ?_;clear uu hck;simp only[ξA,ξC,ξN];have hl7:ldapT.length=7:=rfl;omega)|(clear uu hck;grind)|exact sd) ?_
    refine oN ?_
    refine nz ?_
    refine cd (fun h2=> ?_) (fun h2=> ?_)
    ·have hj4:j<a.length:=by omega
     have hdj:a[j]=a.getD j []:=by simp[hj4]
     have hsm:decide ((a.getD j []).length≤1000000)=true:=ξt (by rw[←hdj];exact hs _ (List.getElem_mem hj4))
     have hsm':=of_decide_eq_true hsm
     have hjt:=join_take a j hj4
     have uu:=ξn uu (ξn (rtx_row a j hj4) hsm)
     refine WI.regB tT [1,6,7,8] ?_
     iterate 2 refine oS ?_
     iterate 5 refine oG (hok:=by first|exact se|(refine ξt ?_;clear uu hck;simp only[ξA,ξC,ξN];have hl7:ldapT.length=7:=rfl;omega)|(clear uu hck;grind)|exact sd) ?_
     refine oC (hok:=by first|exact se|(refine ξt ?_;clear uu hck;simp only[ξA,ξC,ξN];have hl7:ldapT.length=7:=rfl;omega)|(clear uu hck;grind)|exact sd) ?_
     refine oG (hok:=by first|exact se|(refine ξt ?_;clear uu hck;simp only[ξA,ξC,ξN];have hl7:ldapT.length=7:=rfl;omega)|(clear uu hck;grind)|exact sd) ?_
     refine oS ?_
     refine oN ?_
     refine nz ?_
     refine WI.regB tT [1,6,7,8,66] ?_
     refine oS ?_
     refine oG (hok:=by first|exact se|(refine ξt ?_;clear uu hck;simp only[ξA,ξC,ξN];have hl7:ldapT.length=7:=rfl;omega)|(clear uu hck;grind)|exact sd) ?_
     refine oN ?_
     refine nz ?_
     refine cd (fun h3=> ?_) (fun h3=> ?_)
     ·rw[if_neg (show ¬j=0 by clear uu;grind)]at hjt
      refine WI.regB tT [1,6,7,8] ?_
      refine oS ?_
      refine oG (hok:=by first|exact se|(refine ξt ?_;clear uu hck;simp only[ξA,ξC,ξN];have hl7:ldapT.length=7:=rfl;omega)|(clear uu hck;grind)|exact sd) ?_
      refine oS ?_
      refine oN ?_
      refine nz ?_
      refine WI.regB tT [1,6,7,8] ?_
      iterate 2 refine oS ?_
      refine oG (hok:=by first|exact se|(refine ξt ?_;clear uu hck;simp only[ξA,ξC,ξN];have hl7:ldapT.length=7:=rfl;omega)|(clear uu hck;grind)|exact sd) ?_
      refine oS ?_
      iterate 3 refine oG (hok:=by first|exact se|(refine ξt ?_;clear uu hck;simp only[ξA,ξC,ξN];have hl7:ldapT.length=7:=rfl;omega)|(clear uu hck;grind)|exact sd) ?_
      refine oS ?_
      refine oN ?_
      refine nz ?_
      refine WI.regB tT [1,6,7,8] ?_
      refine oS ?_
      refine oG (hok:=by first|exact se|(refine ξt ?_;clear uu hck;simp only[ξA,ξC,ξN];have hl7:ldapT.length=7:=rfl;omega)|(clear uu hck;grind)|exact sd) ?_
      refine oS ?_
      refine oN ?_
      refine nz ?_
      exact⟨⟨j+1,by rw[all_snoc _ a j hj4,hdj,←Bool.and_assoc,hjt];simp[ldapT],rfl,by omega⟩,by simp[down,Ab.get,D.val,intOf?];omega⟩
     ·have hj0:j=0:=by clear uu hck;omega
      have hjt:Lib.join (a.take (j+1)) [44]=Lib.join (a.take j) [44]++a.getD j []:=by rw[hjt,if_pos hj0,hj0];rfl
      refine WI.regB tT [1,6,7,8] ?_
      iterate 2 refine oS ?_
      refine oG (hok:=by first|exact se|(refine ξt ?_;clear uu hck;simp only[ξA,ξC,ξN];have hl7:ldapT.length=7:=rfl;omega)|(clear uu hck;grind)|exact sd) ?_
      refine oS ?_
      iterate 3 refine oG (hok:=by first|exact se|(refine ξt ?_;clear uu hck;simp only[ξA,ξC,ξN];have hl7:ldapT.length=7:=rfl;omega)|(clear uu hck;grind)|exact sd) ?_
      refine oS ?_
      refine oN ?_
      refine nz ?_
      refine WI.regB tT [1,6,7,8] ?_
      refine oS ?_
      refine oG (hok:=by first|exact se|(refine ξt ?_;clear uu hck;simp only[ξA,ξC,ξN];have hl7:ldapT.length=7:=rfl;omega)|(clear uu hck;grind)|exact sd) ?_
      refine oS ?_
      refine oN ?_
      refine nz ?_
      exact⟨⟨j+1,by rw[all_snoc _ a j hj4,hdj,←Bool.and_assoc,hjt];simp[ldapT],rfl,by omega⟩,by simp[down,Ab.get,D.val,intOf?];omega⟩
    ·obtain rfl:j=a.length:=by omega
     have hnm:namU d a=true↔((readS d).2=0∧a.all typB=true):=by unfold namU;simp
     rw[List.take_length]at*
     refine WI.regB tT [1,7,77] ?_
     refine oS ?_
     refine oG (hok:=by first|exact se|(refine ξt ?_;clear uu hck;simp only[ξA,ξC,ξN];have hl7:ldapT.length=7:=rfl;omega)|(clear uu hck;grind)|exact sd) ?_
     refine oN ?_
     refine nz ?_
     refine cd (fun h4=> ?_) (fun h4=> ?_)
     ·refine WI.regB tT [2,3] ?_
      iterate 2 refine oS ?_
      refine oN ?_
      refine nz ?_
      refine lf ?_
      rw[show chkU ho d f a sc=13 from by rw[hck,if_pos (by cases hb:namU d a;rfl;exfalso;have:=hnm.1 hb;clear uu hck;grind)]];rfl
     ·rw[if_neg (by rw[hnm.2 h4];simp)]at hck
      refine WI.regB tT [1,7,85] ?_
      refine oS ?_
      iterate 2 refine oG (hok:=by first|exact se|(refine ξt ?_;clear uu hck;simp only[ξA,ξC,ξN];have hl7:ldapT.length=7:=rfl;omega)|(clear uu hck;grind)|exact sd) ?_
      refine oS ?_
      iterate 4 refine oG (hok:=by first|exact se|(refine ξt ?_;clear uu hck;simp only[ξA,ξC,ξN];have hl7:ldapT.length=7:=rfl;omega)|(clear uu hck;grind)|exact sd) ?_
      refine oN ?_
      refine nz ?_
      refine cd (fun h5=> ?_) (fun h5=> ?_)
      ·refine WI.regB tT [2,3] ?_
       iterate 2 refine oS ?_
       refine oN ?_
       refine nz ?_
       refine lf ?_
       rw[show chkU ho d f a sc=2 from by rw[hck,if_pos (by clear uu;grind)]];rfl
      ·rw[if_neg (by clear uu;grind)]at hck
       have hsc:sc=0∨sc=1∨sc=2:=by clear uu;grind
       refine WI.regB tT [1,7,88] ?_
       refine oS ?_
       iterate 2 refine oG (hok:=by first|exact se|(refine ξt ?_;clear uu hck;simp only[ξA,ξC,ξN];have hl7:ldapT.length=7:=rfl;omega)|(clear uu hck;grind)|exact sd) ?_
       refine oN ?_
       refine nz ?_
       refine cd (fun h6=> ?_) (fun h6=> ?_)
       ·refine WI.regB tT [1,7,10] ?_
        refine oS ?_
        refine oG (hok:=by first|exact se|(refine ξt ?_;clear uu hck;simp only[ξA,ξC,ξN];have hl7:ldapT.length=7:=rfl;omega)|(clear uu hck;grind)|exact sd) ?_
        refine oC (hok:=by first|exact se|(refine ξt ?_;clear uu hck;simp only[ξA,ξC,ξN];have hl7:ldapT.length=7:=rfl;omega)|(clear uu hck;grind)|exact sd) ?_
        refine oS ?_
        iterate 3 refine oG ?_
        refine oG (hok:=by first|exact se|(refine ξt ?_;clear uu hck;simp only[ξA,ξC,ξN];have hl7:ldapT.length=7:=rfl;omega)|(clear uu hck;grind)|exact sd) ?_
        refine oS ?_
        refine oN ?_
        refine nz ?_
        refine WI.regB tT [1,7,10,96] ?_
        refine oS ?_
        refine oG (hok:=by first|exact se|(refine ξt ?_;clear uu hck;simp only[ξA,ξC,ξN];have hl7:ldapT.length=7:=rfl;omega)|(clear uu hck;grind)|exact sd) ?_
        refine oN ?_
        refine nz ?_
        refine cd (fun h7=> ?_) (fun h7=> ?_)
        ·refine WI.regB tT [2,3] ?_
         iterate 3 refine oS ?_
         refine oN ?_
         refine nz ?_
         refine lf ?_
         rw[show chkU ho d f a sc=e from by rw[hck,if_neg (by clear uu hck;grind)],if_pos (by clear uu hck;grind)]
        ·refine WI.regB tT [1,7,11] ?_
         refine oG (hok:=by first|exact se|(refine ξt ?_;clear uu hck;simp only[ξA,ξC,ξN];have hl7:ldapT.length=7:=rfl;omega)|(clear uu hck;grind)|exact sd) ?_
         refine oS ?_
         refine oN ?_
         refine nz ?_
         rcases hsc with rfl|rfl|rfl
         ·refine WI.dregB tT [2,3] ?_
          refine dFS ?_
          refine dFG (hok:=by first|exact se|(refine ξt ?_;clear uu hck;simp only[ξA,ξC,ξN];have hl7:ldapT.length=7:=rfl;omega)|(clear uu hck;grind)|exact sd) ?_
          iterate 2 refine dFS ?_
          iterate 3 refine dQG (hok:=by first|exact se|(refine ξt ?_;clear uu hck;simp only[ξA,ξC,ξN];have hl7:ldapT.length=7:=rfl;omega)|(clear uu hck;grind)|exact sd) ?_
          iterate 2 refine dFG (hok:=by first|exact se|(refine ξt ?_;clear uu hck;simp only[ξA,ξC,ξN];have hl7:ldapT.length=7:=rfl;omega)|(clear uu hck;grind)|exact sd) ?_
          refine dFS ?_
          refine dQG (hok:=by first|exact se|(refine ξt ?_;clear uu hck;simp only[ξA,ξC,ξN];have hl7:ldapT.length=7:=rfl;omega)|(clear uu hck;grind)|exact sd) ?_
          refine dQC (hok:=by first|exact se|(refine ξt ?_;clear uu hck;simp only[ξA,ξC,ξN];have hl7:ldapT.length=7:=rfl;omega)|(clear uu hck;grind)|exact sd) ?_
          refine dFG (hok:=by first|exact se|(refine ξt ?_;clear uu hck;simp only[ξA,ξC,ξN];have hl7:ldapT.length=7:=rfl;omega)|(clear uu hck;grind)|exact sd) ?_
          iterate 2 refine dFS ?_
          refine dN ?_
          refine nz ?_
          refine lf ?_
          rw[show chkU ho d f a _=0 from by first|(rw[hck,if_pos (by clear uu hck;grind)];done)|(rw[hck,if_neg (by clear uu hck;grind)];clear uu hck;grind)];first|(simp[adrU,join4,ldapT,scpW];done)
         ·refine WI.dregB tT [2,3] ?_
          refine dFS ?_
          refine dFG (hok:=by first|exact se|(refine ξt ?_;clear uu hck;simp only[ξA,ξC,ξN];have hl7:ldapT.length=7:=rfl;omega)|(clear uu hck;grind)|exact sd) ?_
          iterate 2 refine dFS ?_
          iterate 3 refine dQG (hok:=by first|exact se|(refine ξt ?_;clear uu hck;simp only[ξA,ξC,ξN];have hl7:ldapT.length=7:=rfl;omega)|(clear uu hck;grind)|exact sd) ?_
          iterate 2 refine dFG (hok:=by first|exact se|(refine ξt ?_;clear uu hck;simp only[ξA,ξC,ξN];have hl7:ldapT.length=7:=rfl;omega)|(clear uu hck;grind)|exact sd) ?_
          refine dFS ?_
          refine dQG (hok:=by first|exact se|(refine ξt ?_;clear uu hck;simp only[ξA,ξC,ξN];have hl7:ldapT.length=7:=rfl;omega)|(clear uu hck;grind)|exact sd) ?_
          refine dQC (hok:=by first|exact se|(refine ξt ?_;clear uu hck;simp only[ξA,ξC,ξN];have hl7:ldapT.length=7:=rfl;omega)|(clear uu hck;grind)|exact sd) ?_
          refine dFG (hok:=by first|exact se|(refine ξt ?_;clear uu hck;simp only[ξA,ξC,ξN];have hl7:ldapT.length=7:=rfl;omega)|(clear uu hck;grind)|exact sd) ?_
          iterate 2 refine dFS ?_
          refine dN ?_
          refine nz ?_
          refine lf ?_
          rw[show chkU ho d f a _=0 from by first|(rw[hck,if_pos (by clear uu hck;grind)];done)|(rw[hck,if_neg (by clear uu hck;grind)];clear uu hck;grind)];first|(simp[adrU,join4,ldapT,scpW];done)
         ·refine WI.dregB tT [2,3] ?_
          refine dFS ?_
          refine dFG (hok:=by first|exact se|(refine ξt ?_;clear uu hck;simp only[ξA,ξC,ξN];have hl7:ldapT.length=7:=rfl;omega)|(clear uu hck;grind)|exact sd) ?_
          iterate 2 refine dFS ?_
          iterate 3 refine dQG (hok:=by first|exact se|(refine ξt ?_;clear uu hck;simp only[ξA,ξC,ξN];have hl7:ldapT.length=7:=rfl;omega)|(clear uu hck;grind)|exact sd) ?_
          iterate 2 refine dFG (hok:=by first|exact se|(refine ξt ?_;clear uu hck;simp only[ξA,ξC,ξN];have hl7:ldapT.length=7:=rfl;omega)|(clear uu hck;grind)|exact sd) ?_
          refine dFS ?_
          refine dQG (hok:=by first|exact se|(refine ξt ?_;clear uu hck;simp only[ξA,ξC,ξN];have hl7:ldapT.length=7:=rfl;omega)|(clear uu hck;grind)|exact sd) ?_
          refine dQC (hok:=by first|exact se|(refine ξt ?_;clear uu hck;simp only[ξA,ξC,ξN];have hl7:ldapT.length=7:=rfl;omega)|(clear uu hck;grind)|exact sd) ?_
          refine dFG (hok:=by first|exact se|(refine ξt ?_;clear uu hck;simp only[ξA,ξC,ξN];have hl7:ldapT.length=7:=rfl;omega)|(clear uu hck;grind)|exact sd) ?_
          iterate 2 refine dFS ?_
          refine dN ?_
          refine nz ?_
          refine lf ?_
          rw[show chkU ho d f a _=0 from by first|(rw[hck,if_pos (by clear uu hck;grind)];done)|(rw[hck,if_neg (by clear uu hck;grind)];clear uu hck;grind)];first|(simp[adrU,join4,ldapT,scpW];done)
       ·refine WI.regB tT [1,7,11] ?_
        refine oG (hok:=by first|exact se|(refine ξt ?_;clear uu hck;simp only[ξA,ξC,ξN];have hl7:ldapT.length=7:=rfl;omega)|(clear uu hck;grind)|exact sd) ?_
        refine oS ?_
        refine oN ?_
        refine nz ?_
        rcases hsc with rfl|rfl|rfl
        ·refine WI.dregB tT [2,3] ?_
         refine dFS ?_
         refine dFG (hok:=by first|exact se|(refine ξt ?_;clear uu hck;simp only[ξA,ξC,ξN];have hl7:ldapT.length=7:=rfl;omega)|(clear uu hck;grind)|exact sd) ?_
         iterate 2 refine dFS ?_
         iterate 3 refine dQG (hok:=by first|exact se|(refine ξt ?_;clear uu hck;simp only[ξA,ξC,ξN];have hl7:ldapT.length=7:=rfl;omega)|(clear uu hck;grind)|exact sd) ?_
         iterate 2 refine dFG (hok:=by first|exact se|(refine ξt ?_;clear uu hck;simp only[ξA,ξC,ξN];have hl7:ldapT.length=7:=rfl;omega)|(clear uu hck;grind)|exact sd) ?_
         refine dFS ?_
         refine dQG (hok:=by first|exact se|(refine ξt ?_;clear uu hck;simp only[ξA,ξC,ξN];have hl7:ldapT.length=7:=rfl;omega)|(clear uu hck;grind)|exact sd) ?_
         refine dQC (hok:=by first|exact se|(refine ξt ?_;clear uu hck;simp only[ξA,ξC,ξN];have hl7:ldapT.length=7:=rfl;omega)|(clear uu hck;grind)|exact sd) ?_
         refine dFG (hok:=by first|exact se|(refine ξt ?_;clear uu hck;simp only[ξA,ξC,ξN];have hl7:ldapT.length=7:=rfl;omega)|(clear uu hck;grind)|exact sd) ?_
         iterate 2 refine dFS ?_
         refine dN ?_
         refine nz ?_
         refine lf ?_
         rw[show chkU ho d f a _=0 from by first|(rw[hck,if_pos (by clear uu hck;grind)];done)|(rw[hck,if_neg (by clear uu hck;grind)];clear uu hck;grind)];first|(simp[adrU,join4,ldapT,scpW];done)
        ·refine WI.dregB tT [2,3] ?_
         refine dFS ?_
         refine dFG (hok:=by first|exact se|(refine ξt ?_;clear uu hck;simp only[ξA,ξC,ξN];have hl7:ldapT.length=7:=rfl;omega)|(clear uu hck;grind)|exact sd) ?_
         iterate 2 refine dFS ?_
         iterate 3 refine dQG (hok:=by first|exact se|(refine ξt ?_;clear uu hck;simp only[ξA,ξC,ξN];have hl7:ldapT.length=7:=rfl;omega)|(clear uu hck;grind)|exact sd) ?_
         iterate 2 refine dFG (hok:=by first|exact se|(refine ξt ?_;clear uu hck;simp only[ξA,ξC,ξN];have hl7:ldapT.length=7:=rfl;omega)|(clear uu hck;grind)|exact sd) ?_
         refine dFS ?_
         refine dQG (hok:=by first|exact se|(refine ξt ?_;clear uu hck;simp only[ξA,ξC,ξN];have hl7:ldapT.length=7:=rfl;omega)|(clear uu hck;grind)|exact sd) ?_
         refine dQC (hok:=by first|exact se|(refine ξt ?_;clear uu hck;simp only[ξA,ξC,ξN];have hl7:ldapT.length=7:=rfl;omega)|(clear uu hck;grind)|exact sd) ?_
         refine dFG (hok:=by first|exact se|(refine ξt ?_;clear uu hck;simp only[ξA,ξC,ξN];have hl7:ldapT.length=7:=rfl;omega)|(clear uu hck;grind)|exact sd) ?_
         iterate 2 refine dFS ?_
         refine dN ?_
         refine nz ?_
         refine lf ?_
         rw[show chkU ho d f a _=0 from by first|(rw[hck,if_pos (by clear uu hck;grind)];done)|(rw[hck,if_neg (by clear uu hck;grind)];clear uu hck;grind)];first|(simp[adrU,join4,ldapT,scpW];done)
        ·refine WI.dregB tT [2,3] ?_
         refine dFS ?_
         refine dFG (hok:=by first|exact se|(refine ξt ?_;clear uu hck;simp only[ξA,ξC,ξN];have hl7:ldapT.length=7:=rfl;omega)|(clear uu hck;grind)|exact sd) ?_
         iterate 2 refine dFS ?_
         iterate 3 refine dQG (hok:=by first|exact se|(refine ξt ?_;clear uu hck;simp only[ξA,ξC,ξN];have hl7:ldapT.length=7:=rfl;omega)|(clear uu hck;grind)|exact sd) ?_
         iterate 2 refine dFG (hok:=by first|exact se|(refine ξt ?_;clear uu hck;simp only[ξA,ξC,ξN];have hl7:ldapT.length=7:=rfl;omega)|(clear uu hck;grind)|exact sd) ?_
         refine dFS ?_
         refine dQG (hok:=by first|exact se|(refine ξt ?_;clear uu hck;simp only[ξA,ξC,ξN];have hl7:ldapT.length=7:=rfl;omega)|(clear uu hck;grind)|exact sd) ?_
         refine dQC (hok:=by first|exact se|(refine ξt ?_;clear uu hck;simp only[ξA,ξC,ξN];have hl7:ldapT.length=7:=rfl;omega)|(clear uu hck;grind)|exact sd) ?_
         refine dFG (hok:=by first|exact se|(refine ξt ?_;clear uu hck;simp only[ξA,ξC,ξN];have hl7:ldapT.length=7:=rfl;omega)|(clear uu hck;grind)|exact sd) ?_
         iterate 2 refine dFS ?_
         refine dN ?_
         refine nz ?_
         refine lf ?_
         rw[show chkU ho d f a _=0 from by first|(rw[hck,if_pos (by clear uu hck;grind)];done)|(rw[hck,if_neg (by clear uu hck;grind)];clear uu hck;grind)];first|(simp[adrU,join4,ldapT,scpW];done)
def tabUs3:Tabs:=addQ (noTabs) 13 (viaNN textsG)
theorem tabUs3_ok:SsOk Tryz.prog tabUs3:=addQ_ok (noTabs_ok) (G_enters G_ok (p:=i13) rfl) (viaNN_ok textsG_ok)
theorem tabUs3_q13 (a:List D):tabUs3.q 13 a=viaNN textsG a:=rfl
theorem tabUs3_r (f:FuncId) (a:List D) (o:List Ob):tabUs3.r f a o=none:=rfl
theorem tabUs3_k (f:FuncId) (a:List D) (o:List Ob):tabUs3.k f a o=none:=rfl
theorem sameU_c (ho1 d1 f1:Tx) (a1:List Tx) (c1:Int) (ho2 d2 f2:Tx) (a2:List Tx) (c2:Int):PCalls Tryz.prog 12 [.agg [.x (.str ho1),.x (.str d1),.x (.str f1),.x (.sl (rows rStr a1)),.x (.int .i64 c1)],.agg [.x (.str ho2),.x (.str d2),.x (.str f2),.x (.sl (rows rStr a2)),.x (.int .i64 c2)]] (.x (.bool (decide (ho1=ho2∧d1=d2∧c1=c2∧f1=f2∧a1=a2)))):=by
 refine FCalls.pure (fcallsG (fz:=true) G_ok (p:=i12) rfl _ (ξ rfl) _ (fun C0 E0=> ?_)) rfl
 dsimp only[i12,qt,qi,qs,qb,qm,qa,qh,qj,qT,qF,qe,ql,qL,qf,q2,q3,q8,qz,qp,qP,qc,qk,qx,qy,qo,qr,qC,argsφ]
 have uu:=ξn @textsG.eq_1 (ξn @textsG.eq_2 (ξn @un_T (ξn @tabUs3_r (ξn @tabUs3_k (@tabUs3_q13)))))
 have tT:=tabUs3_ok
 refine nz ?_
 refine WI.regB tT [2,3] ?_
 iterate 2 refine oG ?_
 refine oS ?_
 refine oN ?_
 refine nz ?_
 refine WI.regB tT [4] ?_
 refine oS ?_
 refine oG (hok:=by first|exact se|(clear uu;grind)|exact sd) ?_
 refine oS ?_
 iterate 2 refine oG (hok:=by first|exact se|(clear uu;grind)|exact sd) ?_
 refine oS ?_
 iterate 6 refine oG (hok:=by first|exact se|(clear uu;grind)|exact sd) ?_
 refine oS ?_
 iterate 6 refine oG (hok:=by first|exact se|(clear uu;grind)|exact sd) ?_
 refine oS ?_
 iterate 6 refine oG (hok:=by first|exact se|(clear uu;grind)|exact sd) ?_
 refine oS ?_
 iterate 4 refine oG (hok:=by first|exact se|(clear uu;grind)|exact sd) ?_
 refine oC (hok:=by first|exact se|(clear uu;grind)|exact sd) ?_
 refine oG (hok:=by first|exact se|(clear uu;grind)|exact sd) ?_
 refine oS ?_
 refine oN ?_
 refine nz ?_
 refine lf ?_
 clear uu;congr 2;rw[Bool.eq_iff_iff];simp only[ξa,beq_iff_eq,ξe];grind
def sameUG:List D→Option (Bool×D)
 | [.agg [.x (.str ho1),.x (.str d1),.x (.str f1),.x (.sl A1),.x (.int .i64 c1)],.agg [.x (.str ho2),.x (.str d2),.x (.str f2),.x (.sl A2),.x (.int .i64 c2)]]=>(unrows rStr A1).bind fun a1=>(unrows rStr A2).bind fun a2=>some (true,.x (.bool (decide (ho1=ho2∧d1=d2∧c1=c2∧f1=f2∧a1=a2))))
 |_=>none
theorem sameUG_ok: ∀args r,sameUG args=some (true,r)→PCalls Tryz.prog 12 args r:=by
 intro args r h
 unfold sameUG at h
 split at h
 ·rename_i ho1 d1 f1 A1 c1 ho2 d2 f2 A2 c2
  obtain⟨a1,hr0,h⟩:=ξB h
  obtain⟨a2,hr1,h⟩:=ξB h
  simp only[ξI,ξP,ξa,ξe,true_and]at h
  obtain rfl:=h
  rw[←rows_unrows good_rStr hr0]
  rw[←rows_unrows good_rStr hr1]
  exact(sameU_c ho1 d1 f1 a1 c1 ho2 d2 f2 a2 c2)
 ·cases h
def tabUs4:Tabs:=addQ (addQ (addQ (addQ (noTabs) 11 ureadG) 7 (viaNN uputG)) 9 urlEscG) 13 (viaNN textsG)
theorem tabUs4_ok:SsOk Tryz.prog tabUs4:=addQ_ok (addQ_ok (addQ_ok (addQ_ok (noTabs_ok) (G_enters G_ok (p:=i11) rfl) ureadG_ok) (G_enters G_ok (p:=i7) rfl) (viaNN_ok uputG_ok)) (G_enters G_ok (p:=i9) rfl) urlEscG_ok) (G_enters G_ok (p:=i13) rfl) (viaNN_ok textsG_ok)
theorem awake35_c:PCalls Tryz.prog 6 [] (.x (.bool true)):=ev_closedS G_ok 300 (p:=i6) rfl tabUs4_ok (by kernel_rfl) rfl
def awake35G:List D→Option (Bool×D)
 | []=>some (true,.x (.bool true))
 |_=>none
theorem awake35G_ok: ∀args r,awake35G args=some (true,r)→PCalls Tryz.prog 6 args r:=by
 intro args r h
 unfold awake35G at h
 split at h
 ·simp only[ξI,ξP,ξa,ξe,true_and]at h
  obtain rfl:=h
  exact awake35_c
 ·cases h
def putLG:List D→Option (Bool×D)
 | [.agg [.x (.str ho),.x (.str d),.x (.str f),.x (.sl A),.x (.int .i64 sc)]]=>(unrows rStr A).bind fun a=>some (decide (smT a)&&(decide (ho.length≤100000∧d.length≤100000∧f.length≤100000)),.tup [.x (.str (putU ho d f a sc).1),.x (.int .i64 (putU ho d f a sc).2)])
 |_=>none
theorem putLG_ok: ∀args r,putLG args=some (true,r)→PCalls Tryz.prog 8 args r:=by
 intro args r h
 unfold putLG at h
 split at h
 ·rename_i ho d f A sc
  obtain⟨a,hr0,h⟩:=ξB h
  simp only[ξI,ξP,ξa,ξe,true_and]at h
  obtain⟨⟨h1,h2⟩,rfl⟩:=h
  rw[←rows_unrows good_rStr hr0]
  exact(putL_c ho d f a sc h1 h2)
 ·cases h
theorem fewU_lim (ho d f:Tx) (a:List Tx) (h:fewU ho d f a=true):ho.length≤300∧d.length≤300∧a.length≤70∧f.length≤300∧ ∀x∈a,x.length≤80:=by
 unfold fewU at h
 rw[ξa,ξe]at h
 obtain⟨⟨h1,h2,h3,h4⟩,h5⟩:=h
 exact⟨h1,h2,h3,h4,fun x hx=>of_decide_eq_true (List.all_eq_true.1 h5 x hx)⟩
def tabUs5:Tabs:=addQ (addQ (addQ (addQ (addQ (addQ (noTabs) 7 (viaNN uputG)) 9 urlEscG) 5 (viaNN fewUG)) 8 (viaNN putLG)) 10 escLG) 6 awake35G
theorem tabUs5_ok:SsOk Tryz.prog tabUs5:=addQ_ok (addQ_ok (addQ_ok (addQ_ok (addQ_ok (addQ_ok (noTabs_ok) (G_enters G_ok (p:=i7) rfl) (viaNN_ok uputG_ok)) (G_enters G_ok (p:=i9) rfl) urlEscG_ok) (G_enters G_ok (p:=i5) rfl) (viaNN_ok fewUG_ok)) (G_enters G_ok (p:=i8) rfl) (viaNN_ok putLG_ok)) (G_enters G_ok (p:=i10) rfl) escLG_ok) (G_enters G_ok (p:=i6) rfl) awake35G_ok
theorem tabUs5_q7 (a:List D):tabUs5.q 7 a=viaNN uputG a:=rfl
theorem tabUs5_q9 (a:List D):tabUs5.q 9 a=urlEscG a:=rfl
theorem tabUs5_q5 (a:List D):tabUs5.q 5 a=viaNN fewUG a:=rfl
theorem tabUs5_q8 (a:List D):tabUs5.q 8 a=viaNN putLG a:=rfl
theorem tabUs5_q10 (a:List D):tabUs5.q 10 a=escLG a:=rfl
theorem tabUs5_q6 (a:List D):tabUs5.q 6 a=awake35G a:=rfl
theorem tabUs5_r (f:FuncId) (a:List D) (o:List Ob):tabUs5.r f a o=none:=rfl
theorem tabUs5_k (f:FuncId) (a:List D) (o:List Ob):tabUs5.k f a o=none:=rfl
theorem urlPuts_c (ho d f:Tx) (a:List Tx) (sc:Int) (s:Tx):PCalls Tryz.prog 3 [.agg [.x (.str ho),.x (.str d),.x (.str f),.x (.sl (rows rStr a)),.x (.int .i64 sc)],.x (.str s)] (.x (.bool true)):=by
 refine FCalls.pure (fcallsG (fz:=true) G_ok (p:=i3) rfl _ (ξ rfl) _ (fun C0 E0=> ?_)) rfl
 dsimp only[i3,qt,qi,qs,qb,qm,qa,qh,qj,qT,qF,qe,ql,qL,qf,q2,q3,q8,qz,qp,qP,qc,qk,qx,qy,qo,qr,qC,argsφ]
 have uu:=ξn @uputG.eq_1 (ξn @uputG.eq_2 (ξn @urlEscG.eq_1 (ξn @urlEscG.eq_2 (ξn @fewUG.eq_1 (ξn @fewUG.eq_2 (ξn @putLG.eq_1 (ξn @putLG.eq_2 (ξn @escLG.eq_1 (ξn @escLG.eq_2 (ξn @awake35G.eq_1 (ξn @awake35G.eq_2 (ξn @un_T (ξn @tabUs5_r (ξn @tabUs5_k (ξn @tabUs5_q10 (ξn @tabUs5_q5 (ξn @tabUs5_q6 (ξn @tabUs5_q7 (ξn @tabUs5_q8 (@tabUs5_q9))))))))))))))))))))
 have tT:=tabUs5_ok
 refine nz ?_
 refine WI.regB tT [1,2] ?_
 refine oG ?_
 refine oS ?_
 refine oN ?_
 refine nz ?_
 refine WI.regB tT [1,2,16] ?_
 refine oG (hok:=by first|exact se|(clear uu;grind)|exact sd) ?_
 refine oC (hok:=by first|exact se|(clear uu;grind)|exact sd) ?_
 refine oG (hok:=by first|exact se|(clear uu;grind)|exact sd) ?_
 refine oS ?_
 iterate 4 refine oG (hok:=by first|exact se|(clear uu;grind)|exact sd) ?_
 refine oN ?_
 refine nz ?_
 refine cd (fun h0=> ?_) (fun h0=> ?_)
 ·refine WI.regB tT [4] ?_
  refine oC (hok:=by first|exact se|(clear uu;grind)|exact sd) ?_
  refine oS ?_
  refine oN ?_
  refine nz ?_
  refine lf ?_
  first|rfl|(simp;done)
 ·have hfw:fewU ho d f a=true:=by clear uu;grind
  obtain⟨l1,l2,l3,l4,l5⟩:=fewU_lim ho d f a hfw
  have hsm:decide (smT a)=true:=ξt fun x hx=>by have:=l5 x hx;omega
  have hd1:decide (f.length≤300000)=true:=ξt (by omega)
  have hd2:decide (ho.length≤100000∧d.length≤100000∧f.length≤100000)=true:=ξt (by omega)
  have uu:=ξn uu (ξn hsm (ξn hd1 hd2))
  refine WI.regB tT [1,2,5,6] ?_
  refine oG (hok:=by first|exact se|(clear uu;grind)|exact sd) ?_
  refine oC (hok:=by first|exact se|(clear uu;grind)|exact sd) ?_
  refine oS ?_
  iterate 2 refine oG ?_
  iterate 2 refine oS ?_
  refine oN ?_
  refine nz ?_
  refine WI.regB tT [1,5,6,7,8] ?_
  refine oG (hok:=by first|exact se|(clear uu;grind)|exact sd) ?_
  refine oC (hok:=by first|exact se|(clear uu;grind)|exact sd) ?_
  refine oS ?_
  iterate 2 refine oG ?_
  iterate 2 refine oS ?_
  refine oN ?_
  refine nz ?_
  refine WI.regB tT [4] ?_
  iterate 2 refine oS ?_
  refine oG (hok:=by first|exact se|(clear uu;grind)|exact sd) ?_
  refine oS ?_
  iterate 4 refine oG (hok:=by first|exact se|(clear uu;grind)|exact sd) ?_
  refine oS ?_
  refine oG (hok:=by first|exact se|(clear uu;grind)|exact sd) ?_
  refine oC (hok:=by first|exact se|(clear uu;grind)|exact sd) ?_
  refine oG (hok:=by first|exact se|(clear uu;grind)|exact sd) ?_
  refine oC (hok:=by first|exact se|(clear uu;grind)|exact sd) ?_
  iterate 2 refine oG (hok:=by first|exact se|(clear uu;grind)|exact sd) ?_
  refine oS ?_
  refine oC (hok:=by first|exact se|(clear uu;grind)|exact sd) ?_
  refine oG (hok:=by first|exact se|(clear uu;grind)|exact sd) ?_
  refine oS ?_
  refine oN ?_
  refine nz ?_
  refine lf ?_
  first|rfl|(simp;done)
theorem readU_nil:readU []=(([],[],[],[],0),5):=rfl
theorem adrU_len (ho d f:Tx) (a:List Tx) (sc:Int) (h:fewU ho d f a=true):(adrU ho d f a sc).length≤100000:=by
 obtain⟨l1,l2,l3,l4,l5⟩:=fewU_lim ho d f a h
 have h1:=ueS_len d
 have h2:=ueS_len f
 have h3:=Nat.le_trans (joinA_len a 80 l5) (Nat.mul_le_mul_right _ l3)
 have h4:(scpW sc).length≤4:=by unfold scpW;split;decide;split<;>decide
 unfold adrU
 rw[join4]
 simp only[ξA,ξC,ξN]
 have h5:ldapT.length=7:=rfl
 omega
theorem back_cases (ho d f:Tx) (a:List Tx) (sc:Int) (h:fewU ho d f a=true): ∃t e u g,putU ho d f a sc=(t,e)∧readU t=(u,g)∧t.length≤100000∧((e=0∧g=0∧u=(ho,d,f,a,sc))∨(e≠0)):=by
 by_cases hc:chkU ho d f a sc=0
 ·exact⟨adrU ho d f a sc,0,_,_,by unfold putU;rw[if_neg (not_not_intro hc)],u_back ho d f a sc hc,adrU_len ho d f a sc h,.inl ⟨rfl,rfl,rfl⟩⟩
 ·exact⟨[],chkU ho d f a sc,_,_,by unfold putU;rw[if_pos hc],readU_nil,by simp,.inr hc⟩
theorem forth_cases (s:Tx) (hs:s.length≤600): ∃ho d f a sc g t h,readU s=((ho,d,f,a,sc),g)∧putU ho d f a sc=(t,h)∧(∀x∈a,x.length≤1000000)∧f.length≤100000∧d.length≤100000∧ho.length≤100000∧((g=0∧h=0∧t=s)∨(g=5∧ho= []∧d= []∧f= []∧a= []∧sc=0)):=by
 rcases u_forth s with⟨ho,d,f,a,sc,h1,h2,h3,h4,h5,h6⟩|h
 ·obtain⟨k1,k2,k3,k4,k5⟩:=chkU_lim _ _ _ _ _ h2
  exact⟨ho,d,f,a,sc,0,s,0,h1,by unfold putU;rw[if_neg (not_not_intro h2),h3],fun x hx=>by have:=h5 x hx;omega,by omega,by omega,by omega,.inl ⟨rfl,rfl,rfl⟩⟩
 ·exact⟨[],[],[],[],0,5,_,_,h,rfl,by simp,by simp,by simp,by simp,.inr ⟨rfl,rfl,rfl,rfl,rfl,rfl⟩⟩
def tabUs6:Tabs:=addQ (addQ (addQ (addQ (addQ (addQ (noTabs) 7 (viaNN uputG)) 11 ureadG) 5 (viaNN fewUG)) 8 (viaNN putLG)) 12 (viaNN sameUG)) 6 awake35G
theorem tabUs6_ok:SsOk Tryz.prog tabUs6:=addQ_ok (addQ_ok (addQ_ok (addQ_ok (addQ_ok (addQ_ok (noTabs_ok) (G_enters G_ok (p:=i7) rfl) (viaNN_ok uputG_ok)) (G_enters G_ok (p:=i11) rfl) ureadG_ok) (G_enters G_ok (p:=i5) rfl) (viaNN_ok fewUG_ok)) (G_enters G_ok (p:=i8) rfl) (viaNN_ok putLG_ok)) (G_enters G_ok (p:=i12) rfl) (viaNN_ok sameUG_ok)) (G_enters G_ok (p:=i6) rfl) awake35G_ok
theorem tabUs6_q7 (a:List D):tabUs6.q 7 a=viaNN uputG a:=rfl
theorem tabUs6_q11 (a:List D):tabUs6.q 11 a=ureadG a:=rfl
theorem tabUs6_q5 (a:List D):tabUs6.q 5 a=viaNN fewUG a:=rfl
theorem tabUs6_q8 (a:List D):tabUs6.q 8 a=viaNN putLG a:=rfl
theorem tabUs6_q12 (a:List D):tabUs6.q 12 a=viaNN sameUG a:=rfl
theorem tabUs6_q6 (a:List D):tabUs6.q 6 a=awake35G a:=rfl
theorem tabUs6_r (f:FuncId) (a:List D) (o:List Ob):tabUs6.r f a o=none:=rfl
theorem tabUs6_k (f:FuncId) (a:List D) (o:List Ob):tabUs6.k f a o=none:=rfl
set_option maxHeartbeats 4000000 in
theorem urlBack_c (ho d f:Tx) (a:List Tx) (sc:Int) (s:Tx):PCalls Tryz.prog 4 [.agg [.x (.str ho),.x (.str d),.x (.str f),.x (.sl (rows rStr a)),.x (.int .i64 sc)],.x (.str s)] (.x (.bool true)):=by
 refine FCalls.pure (fcallsG (fz:=true) G_ok (p:=i4) rfl _ (ξ rfl) _ (fun C0 E0=> ?_)) rfl
 dsimp only[i4,qt,qi,qs,qb,qm,qa,qh,qj,qT,qF,qe,ql,qL,qf,q2,q3,q8,qz,qp,qP,qc,qk,qx,qy,qo,qr,qC,argsφ]
 have uu:=ξn @uputG.eq_1 (ξn @uputG.eq_2 (ξn @ureadG.eq_1 (ξn @ureadG.eq_2 (ξn @fewUG.eq_1 (ξn @fewUG.eq_2 (ξn @putLG.eq_1 (ξn @putLG.eq_2 (ξn @sameUG.eq_1 (ξn @sameUG.eq_2 (ξn @awake35G.eq_1 (ξn @awake35G.eq_2 (ξn @un_T (ξn @un_F (ξn @urlD.eq_1 (ξn @tabUs6_r (ξn @tabUs6_k (ξn @tabUs6_q11 (ξn @tabUs6_q12 (ξn @tabUs6_q5 (ξn @tabUs6_q6 (ξn @tabUs6_q7 (@tabUs6_q8))))))))))))))))))))))
 have tT:=tabUs6_ok
 refine nz ?_
 refine WI.regB tT [1,2] ?_
 refine oG ?_
 refine oS ?_
 refine oN ?_
 refine nz ?_
 refine WI.regB tT [1,2,20] ?_
 refine oG (hok:=by first|exact se|(clear uu;grind)|exact sd) ?_
 refine oC (hok:=by first|exact se|(clear uu;grind)|exact sd) ?_
 refine oG (hok:=by first|exact se|(clear uu;grind)|exact sd) ?_
 refine oS ?_
 iterate 4 refine oG (hok:=by first|exact se|(clear uu;grind)|exact sd) ?_
 refine oN ?_
 refine nz ?_
 refine cd (fun h0=> ?_) (fun h0=> ?_)
 ·refine WI.regB tT [4] ?_
  refine oC (hok:=by first|exact se|(clear uu;grind)|exact sd) ?_
  refine oS ?_
  refine oN ?_
  refine nz ?_
  refine WI.nnA ?_
  refine lf ?_
  rfl
 ·have hfw:fewU ho d f a=true:=by clear uu;grind
  have hsl:s.length≤600:=by clear uu;grind
  obtain⟨l1,l2,l3,l4,l5⟩:=fewU_lim ho d f a hfw
  have hsm:decide (smT a)=true:=ξt fun x hx=>by have:=l5 x hx;omega
  have hd1:decide (f.length≤300000)=true:=ξt (by omega)
  obtain⟨t1,e1,⟨ho1,de1,f1,a1,sc1⟩,g1,q1,q2,q3,q4⟩:=back_cases ho d f a sc hfw
  obtain⟨ho2,de2,f2,a2,sc2,g2,t2,h2',p1,p2,p3,p4,p5,p6,p7⟩:=forth_cases s hsl
  have hsm2:decide (smT a2)=true:=ξt p3
  have hd2:decide (ho2.length≤100000∧de2.length≤100000∧f2.length≤100000)=true:=ξt ⟨p6,p5,p4⟩
  have hd3:decide (t1.length≤100000)=true:=ξt q3
  have hd4:decide (s.length≤100000)=true:=ξt (by omega)
  have uu:=ξn uu (ξn hsm (ξn hd1 (ξn q1 (ξn q2 (ξn p1 (ξn p2 (ξn hsm2 (ξn hd2 (ξn hd3 hd4)))))))))
  refine WI.regB tT [1,2,5,6] ?_
  refine oG (hok:=by first|exact se|(clear uu;grind)|exact sd) ?_
  refine oC (hok:=by first|exact se|(clear uu;grind)|exact sd) ?_
  refine oS ?_
  iterate 2 refine oG ?_
  iterate 2 refine oS ?_
  refine oN ?_
  refine nz ?_
  refine WI.regB tT [1,2,6,7,8] ?_
  refine oS ?_
  refine oC (hok:=by first|exact se|(clear uu;grind)|exact sd) ?_
  refine oS ?_
  iterate 3 refine oG ?_
  refine oG (hok:=by first|exact se|(clear uu;grind)|exact sd) ?_
  refine oS ?_
  refine oN ?_
  refine nz ?_
  refine WI.regB tT [1,2,6,7,8,9,10] ?_
  refine oS ?_
  refine oC (hok:=by first|exact se|(clear uu;grind)|exact sd) ?_
  refine oS ?_
  iterate 3 refine oG ?_
  refine oG (hok:=by first|exact se|(clear uu;grind)|exact sd) ?_
  refine oS ?_
  refine oN ?_
  refine nz ?_
  refine WI.regB tT [1,2,6,7,8,9,10,11,12] ?_
  refine oG (hok:=by first|exact se|(clear uu;grind)|exact sd) ?_
  refine oC (hok:=by first|exact se|(clear uu;grind)|exact sd) ?_
  refine oS ?_
  iterate 2 refine oG ?_
  iterate 2 refine oS ?_
  refine oN ?_
  refine nz ?_
  refine WI.regB tT [4] ?_
  refine oS ?_
  refine oG (hok:=by first|exact se|(clear uu;grind)|exact sd) ?_
  refine oS ?_
  iterate 5 refine oG (hok:=by first|exact se|(clear uu;grind)|exact sd) ?_
  refine oC (hok:=by first|exact se|(clear uu;grind)|exact sd) ?_
  iterate 2 refine oG (hok:=by first|exact se|(clear uu;grind)|exact sd) ?_
  refine oS ?_
  iterate 17 refine oG (hok:=by first|exact se|(clear uu;grind)|exact sd) ?_
  refine oC (hok:=by first|exact se|(clear uu;grind)|exact sd) ?_
  iterate 3 refine oG (hok:=by first|exact se|(clear uu;grind)|exact sd) ?_
  refine oS ?_
  refine oC (hok:=by first|exact se|(clear uu;grind)|exact sd) ?_
  refine oG (hok:=by first|exact se|(clear uu;grind)|exact sd) ?_
  refine oS ?_
  refine oN ?_
  refine nz ?_
  refine WI.nnA ?_
  refine lf ?_
  congr 2
  rw[ξa]
  refine⟨?_,?_⟩
  ·rcases q4 with⟨z1,z2,z3⟩|z1
   ·cases z3;subst z1;subst z2;simp
   ·simp[z1]
  ·rcases p7 with⟨z1,z2,z3⟩|⟨z1,z2,z3,z4,z5,z6⟩
   ·subst z1;subst z2;subst z3;simp
   ·subst z1;subst z2;subst z3;subst z4;subst z5;subst z6;simp
end Go.Proofs.YtmlpbojoekmfaaaGreatDoor
end
