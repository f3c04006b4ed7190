import Derived.Test.YtpjfdjcejamebaaGreatDoorMA3
set_option linter.unusedSimpArgs false
set_option linter.unusedVariables false
section
namespace Go.Proofs.YtpjfdjcejamebaaGreatDoor
open Go.RowKit Go.Bo Go.Ab
def plT:List TTyp:= [([99,110],1,false,()),([115,110],1,false,()),([111,117],1,false,()),([100,99],1,false,()),([111],1,false,()),([100,101,115,99,114,105,112,116,105,111,110],1,false,()),([109,97,105,108],1,false,()),([111,98,106,101,99,116,99,108,97,115,115],1,false,()),([117,115,101,114,112,97,115,115,119,111,114,100],4,true,()),([117,105,100],1,true,()),([117,105,100,110,117,109,98,101,114],3,true,()),([109,101,109,98,101,114],5,false,()),([115,101,114,105,97,108,110,117,109,98,101,114],2,false,())]
def plC:List TCls:= [([116,111,112],[],[],()),([112,101,114,115,111,110],[[99,110],[115,110]],[[100,101,115,99,114,105,112,116,105,111,110],[117,115,101,114,112,97,115,115,119,111,114,100],[109,97,105,108],[117,105,100],[117,105,100,110,117,109,98,101,114],[115,101,114,105,97,108,110,117,109,98,101,114],[109,101,109,98,101,114]],()),([111,114,103,97,110,105,122,97,116,105,111,110,97,108,117,110,105,116],[[111,117]],[[100,101,115,99,114,105,112,116,105,111,110],[109,101,109,98,101,114]],()),([100,111,109,97,105,110],[[100,99]],[[100,101,115,99,114,105,112,116,105,111,110],[111]],()),([103,114,111,117,112],[[99,110]],[[109,101,109,98,101,114],[100,101,115,99,114,105,112,116,105,111,110]],())]
theorem pl_new:newV plT plC=0:=by decide+kernel
theorem pl_smT:smT plT:=by decide+kernel
theorem pl_smC:smC plC:=by decide+kernel
def ignK:List D→List Ob→Option (Bool×D×Ob)
 | [.ref 0 8 0 8],[.rows false 9 1 [[.str a],[.str b],[.str c],[.str d],[.str e],[.str f],[.str g],[.str h]]]=>some (true,.ref 1 8 0 8,.rows false 35 3 [[.str a,.int .i64 1,.bool false],[.str b,.int .i64 1,.bool false],[.str c,.int .i64 1,.bool false],[.str d,.int .i64 1,.bool false],[.str e,.int .i64 1,.bool false],[.str f,.int .i64 1,.bool false],[.str g,.int .i64 1,.bool false],[.str h,.int .i64 1,.bool false]])
 |_,_=>none
theorem ignK_ok: ∀args os r ob,ignK args os=some (true,r,ob)→(∃fz e sz rs,ob= .rows fz e sz rs)∧MCalls Tryz.prog 34 args os r (os++ [ob]):=by
 intro args os r ob h
 unfold ignK at h
 split at h
 ·rename_i a b c d e f g h
  simp only[ξI,ξP,true_and]at h
  obtain⟨rfl,rfl⟩:=h
  exact⟨⟨_,_,_,_,rfl⟩,ign_c [a,b,c,d,e,f,g,h] (by simp)⟩
 ·cases h
def tabIgn:Tabs:=addK (noTabs) 34 ignK
theorem tabIgn_ok:SsOk Tryz.prog tabIgn:=addK_ok (noTabs_ok) (G_enters G_ok (p:=i34) rfl) ignK_ok
theorem tabIgn_q34 (a:List D):tabIgn.q 34 a=none:=rfl
theorem tabIgn_t34 (a:List D) (o:List Ob):tabIgn.t 34 a o=liftT (fun args os=>(ignK args os).map fun q=>(q.1,q.2.1,os++ [q.2.2])) a o:=rfl
theorem tabIgn_k34 (a:List D) (o:List Ob):tabIgn.k 34 a o=newT ignK a o:=rfl
theorem tabIgn_r (f:FuncId) (a:List D) (o:List Ob):tabIgn.r f a o=none:=rfl
theorem new_enters:Enters Tryz.prog 22:=G_enters G_ok (p:=i22) rfl
theorem plain_c:MCalls Tryz.prog 10 [] [] (.ptr 0 0) (scO (tyL plT) (clL plC)):=by
 have hO:=scO_inP (tyL plT) (clL plC)
 have hnew:MCalls Tryz.prog 22 [.x (.sl [[.str [99,110],.int .i64 1,.bool false],[.str [115,110],.int .i64 1,.bool false],[.str [111,117],.int .i64 1,.bool false],[.str [100,99],.int .i64 1,.bool false],[.str [111],.int .i64 1,.bool false],[.str [100,101,115,99,114,105,112,116,105,111,110],.int .i64 1,.bool false],[.str [109,97,105,108],.int .i64 1,.bool false],[.str [111,98,106,101,99,116,99,108,97,115,115],.int .i64 1,.bool false],[.str [117,115,101,114,112,97,115,115,119,111,114,100],.int .i64 4,.bool true],[.str [117,105,100],.int .i64 1,.bool true],[.str [117,105,100,110,117,109,98,101,114],.int .i64 3,.bool true],[.str [109,101,109,98,101,114],.int .i64 5,.bool false],[.str [115,101,114,105,97,108,110,117,109,98,101,114],.int .i64 2,.bool false]]),.x (.sl [[.str [116,111,112],.sl [],.sl []],[.str [112,101,114,115,111,110],.sl [[.str [99,110]],[.str [115,110]]],.sl [[.str [100,101,115,99,114,105,112,116,105,111,110]],[.str [117,115,101,114,112,97,115,115,119,111,114,100]],[.str [109,97,105,108]],[.str [117,105,100]],[.str [117,105,100,110,117,109,98,101,114]],[.str [115,101,114,105,97,108,110,117,109,98,101,114]],[.str [109,101,109,98,101,114]]]],[.str [111,114,103,97,110,105,122,97,116,105,111,110,97,108,117,110,105,116],.sl [[.str [111,117]]],.sl [[.str [100,101,115,99,114,105,112,116,105,111,110]],[.str [109,101,109,98,101,114]]]],[.str [100,111,109,97,105,110],.sl [[.str [100,99]]],.sl [[.str [100,101,115,99,114,105,112,116,105,111,110]],[.str [111]]]],[.str [103,114,111,117,112],.sl [[.str [99,110]]],.sl [[.str [109,101,109,98,101,114]],[.str [100,101,115,99,114,105,112,116,105,111,110]]]]])] [] (.tup [.ptr 0 0,.x (.int .i64 0)]) (scO (tyL plT) (clL plC)):=
  new_c plT plC pl_smT pl_smC _ _ (fun _=>⟨rfl,rfl⟩) (fun h=>absurd pl_new h)
 refine FCalls.mcallsX (fcallsG (fz:=true) G_ok (p:=i10) rfl _ (ξ rfl) _ (fun C0 E0=> ?_)) (by first|decide|(simp;done)) hO (by first|rfl|exact hR)
 dsimp only[i10,qt,qi,qs,qb,qm,qa,qh,qj,qT,qF,qe,ql,qL,qf,q2,q3,q8,qz,qp,qP,qc,qk,qx,qy,qo,qr,qC,argsφ]
 have uu:=ξn @ptT_t (ξn @ptT_q (ξn @ptT_r (ξn @ptT_k (ξn @ty_ren (ξn @cl_ren (ξn @ty_ids (ξn @cl_ids (ξn @ty_all (ξn @cl_all (ξn @tabIgn_r (ξn @tabIgn_k34 (ξn @tabIgn_q34 (ξn @tabIgn_t34 (ξn @ignK.eq_1 (@ignK.eq_2)))))))))))))))
 refine WI.seq ?_
 refine WI.regB tabIgn_ok [] ?_
 refine oS ?_
 refine oN ?_
 refine thenQ_normal ?_
 refine WI.seq ?_
 refine WI.regB tabIgn_ok [1] ?_
 refine oG ?_
 refine oC ?_
 refine oS ?_
 refine oN ?_
 refine thenQ_normal ?_
 refine WI.seq ?_
 refine WI.regB tabIgn_ok [1] ?_
 refine oS ?_
 iterate 7 refine oG ?_
 refine oS ?_
 refine oN ?_
 refine thenQ_normal ?_
 refine WI.seq ?_
 refine WI.pickA [1] ?_
 refine WI.cutA noTabs_ok [15,29] 15 ?_
 simp only[List.take_succ_cons,List.take_zero,List.drop_succ_cons,List.drop_zero]
 refine oS ?_
 iterate 14 refine oG ?_
 refine oP ?_
 refine pFreeze [0,9] ?_
 refine pPick [] ?_
 refine pNn1 ?_
 refine pEndN ?_
 refine WR.regB (ptT_ok noTabs_ok new_enters hnew) [2] ?_
 refine oC ?_
 refine oS ?_
 iterate 2 refine oG ?_
 iterate 2 refine oS ?_
 refine oN ?_
 refine thenQ_normal ?_
 refine WI.seq ?_
 refine WI.regB noTabs_ok [0] ?_
 iterate 2 refine oS ?_
 refine oN ?_
 refine thenQ_normal ?_
 refine WI.ret ?_
 refine lfRX ?_
 exact⟨rfl,[],rfl⟩
def perA:List TAttr:= [([111,98,106,101,99,116,67,108,97,115,115],[[116,111,112],[80,101,114,115,111,110]],()),([99,110],[[97]],()),([115,110],[[98]],())]
def perU:List TAttr:= [([117,105,100,78,117,109,98,101,114],[[120]],())]
theorem aw_1:tyV (tyL plT) (lowS [85,73,68,78,117,109,98,101,114])=([117,105,100,110,117,109,98,101,114],3,true,()):=by decide+kernel
theorem aw_2:(mlook (tyL plT) (lowS [85,73,68,78,117,109,98,101,114])).isSome=true:=by decide+kernel
theorem aw_3:clV (clL plC) (lowS [68,111,109,97,105,110])=([100,111,109,97,105,110],[[100,99]],[[100,101,115,99,114,105,112,116,105,111,110],[111]],()):=by decide+kernel
theorem aw_4:(mlook (clL plC) (lowS [68,111,109,97,105,110])).isSome=true:=by decide+kernel
theorem aw_5:chkC (tyL plT) (clL plC) perA=0:=by decide+kernel
theorem aw_6:chkC (tyL plT) (clL plC) (perA.take 2)=65:=by decide+kernel
theorem aw_7:chkC (tyL plT) (clL plC) (perA++perU)=21:=by decide+kernel
theorem aw_8:(srtS ((tyL plT).map (·.1))).length=13:=by unfold srtS;rw[List.length_mergeSort];decide+kernel
theorem aw_9:newV [] []=8:=by decide+kernel
theorem aw_10:newV [([97],1,false,()),([65],1,false,())] []=9:=by decide+kernel
def okM (M:List (Tx×TCls)):Prop:= ∀p∈M,p.2.2.1.length≤1000000∧p.2.2.2.1.length≤1000000
instance (M:List (Tx×TCls)):Decidable (okM M):=inferInstanceAs (Decidable (∀p∈M,_))
theorem bdC_of {M:List (Tx×TCls)} (h:okM M):bdC M:=by
 intro k
 unfold clV
 rcases hm:mlook M k with _|c
 ·simp
 ·have:=h _ (mlook_mem hm)
  simpa using this
def okCk (M:List (Tx×TCls)) (l:List TAttr):Prop:=okM M∧smA l∧ ∀a∈l,∀v∈a.2.1,v.length≤1000000
instance (M:List (Tx×TCls)) (l:List TAttr):Decidable (okCk M l):=inferInstanceAs (Decidable (_∧_∧_))
def checkT:List D→List Ob→Option (Bool×D×List Ob)
 | [.ptr 0 0,.agg [.x (.str dn),.x (.sl R)]],[.box [.mref 1,.mref 2],.mpo .str true P1,.mpo .str true P2]=>(unM rStr rTyp P1).bind fun L=>(unM rStr rCls P2).bind fun M=>(unrows rAttr R).bind fun l=>some (decide (okCk M l),.x (.int .i64 (chkC L M l)),[.box [.mref 1,.mref 2],.mpo .str true (tyM L),.mpo .str true (clM M)])
 |_,_=>none
theorem checkT_ok: ∀args os r os',checkT args os=some (true,r,os')→MCalls Tryz.prog 17 args os r os':=by
 intro args os r os' h
 unfold checkT at h
 split at h
 ·rename_i dn R P1 P2
  obtain⟨L,hm0,h⟩:=ξB h
  obtain⟨M,hm1,h⟩:=ξB h
  obtain⟨l,hr0,h⟩:=ξB h
  simp only[ξI,ξP,ξa,ξe,true_and]at h
  obtain⟨h1,rfl,rfl⟩:=h
  rw[unM_inv good_rStr good_rTyp hm0]
  rw[unM_inv good_rStr good_rCls hm1]
  rw[←rows_unrows good_rAttr hr0]
  exact check_c L M (dn,l,()) h1.2.1 h1.2.2 (bdC_of h1.1)
 ·cases h
def okTy (L:List (Tx×TTyp)):Prop:=L.length≤1000000∧ ∀p∈L,p.1.length≤1000000
instance (L:List (Tx×TTyp)):Decidable (okTy L):=inferInstanceAs (Decidable (_∧_))
def typesT:List D→List Ob→Option (Bool×D×List Ob)
 | [.ptr 0 0],[.box [.mref 1,.mref 2],.mpo .str true P1,.mpo .str true P2]=>(unM rStr rTyp P1).bind fun L=>(unM rStr rCls P2).bind fun M=>some (decide (okTy L),.x (.sl (rows rStr (srtS (L.map (·.1))))),[.box [.mref 1,.mref 2],.mpo .str true (tyM L),.mpo .str true (clM M)])
 |_,_=>none
theorem typesT_ok: ∀args os r os',typesT args os=some (true,r,os')→MCalls Tryz.prog 19 args os r os':=by
 intro args os r os' h
 unfold typesT at h
 split at h
 ·rename_i P1 P2
  obtain⟨L,hm0,h⟩:=ξB h
  obtain⟨M,hm1,h⟩:=ξB h
  simp only[ξI,ξP,ξa,ξe,true_and]at h
  obtain⟨h1,rfl,rfl⟩:=h
  rw[unM_inv good_rStr good_rTyp hm0]
  rw[unM_inv good_rStr good_rCls hm1]
  exact types_c L M h1.1 h1.2
 ·cases h
theorem MCalls.nn {P:Program} {f:FuncId} {args:List D} {os os':List Ob} {r:D} (h:MCalls P f (args.map D.nn) os r os'):MCalls P f args os r os':=by
 intro c E vs R hvl
 refine h c E vs R ⟨by rw[List.length_map];exact hvl.1,fun j d v hd hv=> ?_⟩
 rw[ξp]at hd
 obtain⟨d0,hd0,rfl⟩:=ξM hd
 exact(hvl.2 j d0 v hd0 hv).nn
theorem person_c:PCalls Tryz.prog 33 [] (.agg [.x (.str [99,110,61,97]),.x (.sl [[X.str [111,98,106,101,99,116,67,108,97,115,115],X.sl [[X.str [116,111,112]],[X.str [80,101,114,115,111,110]]]],[X.str [99,110],X.sl [[X.str [97]]]],[X.str [115,110],X.sl [[X.str [98]]]]])]):=(ev_closed G_ok 300 (p:=i33) rfl (by kernel_rfl) rfl).2
def personG:List D→Option (Bool×D)
 | []=>some (true,.agg [.x (.str [99,110,61,97]),.x (.sl [[X.str [111,98,106,101,99,116,67,108,97,115,115],X.sl [[X.str [116,111,112]],[X.str [80,101,114,115,111,110]]]],[X.str [99,110],X.sl [[X.str [97]]]],[X.str [115,110],X.sl [[X.str [98]]]]])])
 |_=>none
theorem personG_ok: ∀args r,personG args=some (true,r)→PCalls Tryz.prog 33 args r:=by
 intro args r h
 unfold personG at h
 split at h
 ·simp only[ξI,ξP,ξa,ξe,true_and]at h
  obtain rfl:=h
  exact person_c
 ·cases h
theorem personK_c:MCalls Tryz.prog 33 [] [] (.agg [.x (.str [99,110,61,97]),.ref 0 3 0 3]) [.rows false 72 2 [[X.str [111,98,106,101,99,116,67,108,97,115,115],X.sl [[X.str [116,111,112]],[X.str [80,101,114,115,111,110]]]],[X.str [99,110],X.sl [[X.str [97]]]],[X.str [115,110],X.sl [[X.str [98]]]]]]:=by
 refine FCalls.mcallsX (fcallsG (fz:=false) G_ok (p:=i33) rfl _ (ξ rfl) _ (fun C0 E0=> ?_)) (by first|decide|(simp;done)) rfl rfl
 dsimp only[i33,qt,qi,qs,qb,qm,qa,qh,qj,qT,qF,qe,ql,qL,qf,q2,q3,q8,qz,qp,qP,qc,qk,qx,qy,qo,qr,qC,argsφ]
 have uu:=trivial
 have tT:=(noTabs_ok:SsOk Tryz.prog noTabs)
 refine nz ?_
 refine rg tT [0] ?_
 refine rg tT [0] ?_
 refine WI.pickA [4,0] ?_
 refine lf ?_
 exact⟨rfl,_,rfl⟩
theorem newF_c (T:List TTyp) (h:newV T []≠0) (hT:smT T):MCalls Tryz.prog 22 [.x (.sl (rows rTyp T)),.x .nils] [] (.tup [.x .nilp,.x (.int .i64 (newV T []))]) []:=
 MCalls.nn (new_c T [] hT (by decide) _ _ (fun e=>absurd e h) (fun _=>⟨rfl,rfl⟩))
theorem newE_c:MCalls Tryz.prog 22 [.x .nils,.x .nils] [] (.tup [.x .nilp,.x (.int .i64 8)]) []:=
 MCalls.nn (new_c [] [] (by decide) (by decide) _ _ (fun e=>by rw[aw_9]at e;cases e) (fun _=>⟨by rw[aw_9],rfl⟩))
def newFT:List D→List Ob→Option (Bool×D×List Ob)
 | [.x (.sl R),.x .nils],[]=>(unrows rTyp R).map fun T=>(decide (newV T []≠0∧smT T),.tup [.x .nilp,.x (.int .i64 (newV T []))],[])
 | [.x .nils,.x .nils],[]=>some (true,.tup [.x .nilp,.x (.int .i64 8)],[])
 |_,_=>none
theorem newFT_ok: ∀args os r os',newFT args os=some (true,r,os')→MCalls Tryz.prog 22 args os r os':=by
 intro args os r os' h
 unfold newFT at h
 split at h
 ·rename_i R
  obtain⟨T,h1,h2⟩:=ξM h
  simp only[ξP,ξe]at h2
  obtain⟨⟨h3,h4⟩,rfl,rfl⟩:=h2
  rw[←rows_unrows good_rTyp h1]
  exact newF_c T h3 h4
 ·simp only[ξI,ξP,true_and]at h
  obtain⟨rfl,rfl⟩:=h
  exact newE_c
 ·cases h
def personK:List D→List Ob→Option (Bool×D×Ob)
 | [],[]=>some (true,.agg [.x (.str [99,110,61,97]),.ref 0 3 0 3],.rows false 72 2 [[X.str [111,98,106,101,99,116,67,108,97,115,115],X.sl [[X.str [116,111,112]],[X.str [80,101,114,115,111,110]]]],[X.str [99,110],X.sl [[X.str [97]]]],[X.str [115,110],X.sl [[X.str [98]]]]])
 |_,_=>none
theorem personK_ok: ∀args os r ob,personK args os=some (true,r,ob)→(∃fz e sz rs,ob= .rows fz e sz rs)∧MCalls Tryz.prog 33 args os r (os++ [ob]):=by
 intro args os r ob h
 unfold personK at h
 split at h
 ·simp only[ξI,ξP,true_and]at h
  obtain⟨rfl,rfl⟩:=h
  exact⟨⟨_,_,_,_,rfl⟩,personK_c⟩
 ·cases h
def tabPK:Tabs:=addK (noTabs) 33 personK
theorem tabPK_ok:SsOk Tryz.prog tabPK:=addK_ok (noTabs_ok) (G_enters G_ok (p:=i33) rfl) personK_ok
theorem tabPK_q33 (a:List D):tabPK.q 33 a=none:=rfl
theorem tabPK_t33 (a:List D) (o:List Ob):tabPK.t 33 a o=liftT (fun args os=>(personK args os).map fun q=>(q.1,q.2.1,os++ [q.2.2])) a o:=rfl
theorem tabPK_k33 (a:List D) (o:List Ob):tabPK.k 33 a o=newT personK a o:=rfl
theorem tabPK_r (f:FuncId) (a:List D) (o:List Ob):tabPK.r f a o=none:=rfl
def tabAw:Tabs:=addT (addT (addT (addT (addT (addQ (noTabs) 33 personG) 22 newFT) 12 typeT) 14 classT) 17 checkT) 19 typesT
theorem tabAw_ok:SsOk Tryz.prog tabAw:=addT_ok (addT_ok (addT_ok (addT_ok (addT_ok (addQ_ok (noTabs_ok) (G_enters G_ok (p:=i33) rfl) personG_ok) (G_enters G_ok (p:=i22) rfl) newFT_ok) (G_enters G_ok (p:=i12) rfl) typeT_ok) (G_enters G_ok (p:=i14) rfl) classT_ok) (G_enters G_ok (p:=i17) rfl) checkT_ok) (G_enters G_ok (p:=i19) rfl) typesT_ok
theorem tabAw_q33 (a:List D):tabAw.q 33 a=personG a:=rfl
theorem tabAw_q22 (a:List D):tabAw.q 22 a=none:=rfl
theorem tabAw_t22 (a:List D) (o:List Ob):tabAw.t 22 a o=liftT newFT a o:=rfl
theorem tabAw_q12 (a:List D):tabAw.q 12 a=none:=rfl
theorem tabAw_t12 (a:List D) (o:List Ob):tabAw.t 12 a o=liftT typeT a o:=rfl
theorem tabAw_q14 (a:List D):tabAw.q 14 a=none:=rfl
theorem tabAw_t14 (a:List D) (o:List Ob):tabAw.t 14 a o=liftT classT a o:=rfl
theorem tabAw_q17 (a:List D):tabAw.q 17 a=none:=rfl
theorem tabAw_t17 (a:List D) (o:List Ob):tabAw.t 17 a o=liftT checkT a o:=rfl
theorem tabAw_q19 (a:List D):tabAw.q 19 a=none:=rfl
theorem tabAw_t19 (a:List D) (o:List Ob):tabAw.t 19 a o=liftT typesT a o:=rfl
theorem tabAw_r (f:FuncId) (a:List D) (o:List Ob):tabAw.r f a o=none:=rfl
theorem tabAw_k (f:FuncId) (a:List D) (o:List Ob):tabAw.k f a o=none:=rfl
theorem plain_enters:Enters Tryz.prog 10:=G_enters G_ok (p:=i10) rfl
theorem aw_u1:unrows rAttr [[X.str [111,98,106,101,99,116,67,108,97,115,115],X.sl [[X.str [116,111,112]],[X.str [80,101,114,115,111,110]]]],[X.str [99,110],X.sl [[X.str [97]]]],[X.str [115,110],X.sl [[X.str [98]]]]]=some perA:=rfl
theorem aw_u2:unrows rAttr [[X.str [111,98,106,101,99,116,67,108,97,115,115],X.sl [[X.str [116,111,112]],[X.str [80,101,114,115,111,110]]]],[X.str [99,110],X.sl [[X.str [97]]]]]=some (perA.take 2):=rfl
theorem aw_u3:unrows rAttr [[X.str [111,98,106,101,99,116,67,108,97,115,115],X.sl [[X.str [116,111,112]],[X.str [80,101,114,115,111,110]]]],[X.str [99,110],X.sl [[X.str [97]]]],[X.str [115,110],X.sl [[X.str [98]]]],[X.str [117,105,100,78,117,109,98,101,114],X.sl [[X.str [120]]]]]=some (perA++perU):=rfl
theorem aw_u4:unrows rTyp [[X.str [97],X.int .i64 1,X.bool false],[X.str [65],X.int .i64 1,X.bool false]]=some [([97],1,false,()),([65],1,false,())]:=rfl
theorem aw_k1:decide (okCk (clL plC) perA)=true:=by decide+kernel
theorem aw_k2:decide (okCk (clL plC) (perA.take 2))=true:=by decide+kernel
theorem aw_k3:decide (okCk (clL plC) (perA++perU))=true:=by decide+kernel
theorem aw_k4:decide (okTy (tyL plT))=true:=by decide+kernel
theorem aw_k5:decide (newV [([97],1,false,()),([65],1,false,())] []≠0∧smT [([97],1,false,()),([65],1,false,())])=true:=by decide+kernel
theorem aw_k6:(rows rStr (srtS ((tyL plT).map (·.1)))).length=13:=by rw[rows_len,aw_8]
set_option maxHeartbeats 4000000 in
theorem awake09_c:PCalls Tryz.prog 9 [] (.x (.bool true)):=by
 have hu1:=un_ty (tyL plT)
 have hu2:=un_cl (clL plC)
 refine FCalls.pure (fcallsG (fz:=true) G_ok (p:=i9) rfl _ (ξ rfl) _ (fun C0 E0=> ?_)) rfl
 dsimp only[i9,qt,qi,qs,qb,qm,qa,qh,qj,qT,qF,qe,ql,qL,qf,q2,q3,q8,qz,qp,qP,qc,qk,qx,qy,qo,qr,qC,argsφ]
 have uu:=ξn @ptT_t (ξn @ptT_q (ξn @ptT_r (ξn @ptT_k (ξn @ty_ren (ξn @cl_ren (ξn @ty_ids (ξn @cl_ids (ξn @ty_all (ξn @cl_all (ξn @typeT.eq_1 (ξn @typeT.eq_2 (ξn @classT.eq_1 (ξn @classT.eq_2 (ξn @checkT.eq_1 (ξn @checkT.eq_2 (ξn @typesT.eq_1 (ξn @typesT.eq_2 (ξn @personG.eq_1 (ξn @personG.eq_2 (ξn @newFT.eq_1 (ξn @newFT.eq_2 (ξn @newFT.eq_3 (ξn @personK.eq_1 (ξn @personK.eq_2 (ξn hu1 (ξn hu2 (ξn @aw_1 (ξn @aw_2 (ξn @aw_3 (ξn @aw_4 (ξn @aw_5 (ξn @aw_6 (ξn @aw_7 (ξn @aw_9 (ξn @aw_10 (ξn @aw_u1 (ξn @aw_u2 (ξn @aw_u3 (ξn @aw_u4 (ξn @aw_k1 (ξn @aw_k2 (ξn @aw_k3 (ξn @aw_k4 (ξn @aw_k5 (ξn @aw_k6 (ξn @@tyD.eq_1 (ξn @@clD.eq_1 (ξn @@tabPK_r (ξn @@tabPK_q33 (ξn @@tabPK_t33 (ξn @@tabPK_k33 (ξn @tabAw_r (ξn @tabAw_k (ξn @tabAw_q12 (ξn @tabAw_q14 (ξn @tabAw_q17 (ξn @tabAw_q19 (ξn @tabAw_q22 (ξn @tabAw_q33 (ξn @tabAw_t22 (ξn @tabAw_t12 (ξn @tabAw_t14 (ξn @tabAw_t17 (@tabAw_t19))))))))))))))))))))))))))))))))))))))))))))))))))))))))))))))))
 refine WI.seq ?_
 refine WI.regB tabAw_ok [] ?_
 refine oS ?_
 refine oN ?_
 refine thenQ_normal ?_
 refine WI.seq ?_
 refine WI.regB (ptT_ok noTabs_ok plain_enters plain_c) [1] ?_
 refine oC ?_
 refine oS ?_
 refine oN ?_
 refine thenQ_normal ?_
 refine WI.seq ?_
 refine WI.seq ?_
 refine WI.regB tabAw_ok [1,14] ?_
 refine oS ?_
 refine oG ?_
 refine oN ?_
 refine thenQ_normal ?_
 refine WI.cond (b:=_) rfl rfl (fun h0=> ?_) (fun h0=> ?_)
 ·exfalso
  simp at h0
 ·try simp only[zB]at h0
  refine WI.skip ?_
  refine thenQ_normal ?_
  refine WI.seq ?_
  refine WI.regB tabAw_ok [1,2,3] ?_
  refine oS ?_
  refine oC ?_
  refine oS ?_
  iterate 4 refine oG ?_
  refine oS ?_
  refine oN ?_
  refine thenQ_normal ?_
  refine WI.seq ?_
  refine WI.regB tabAw_ok [1,2,3,4,5] ?_
  refine oS ?_
  refine oC ?_
  refine oS ?_
  iterate 4 refine oG ?_
  refine oS ?_
  refine oN ?_
  refine thenQ_normal ?_
  refine WI.seq ?_
  refine WI.regB tabAw_ok [1,2,3,4,5,6] ?_
  refine oC ?_
  iterate 2 refine oG ?_
  refine oN ?_
  refine thenQ_normal ?_
  refine WI.seq ?_
  refine WI.regB tabAw_ok [1,2,3,4,5,6] ?_
  refine oS ?_
  iterate 2 refine oG ?_
  refine oS ?_
  refine oG ?_
  refine oN ?_
  refine thenQ_normal ?_
  refine WI.seq ?_
  refine WI.regB tabAw_ok [1,2,3,4,5,6,8] ?_
  refine oC ?_
  refine oS ?_
  iterate 2 refine oG ?_
  iterate 2 refine oS ?_
  refine oN ?_
  refine thenQ_normal ?_
  refine WI.seq ?_
  refine WI.cutA tabAw_ok [1,2,3,4,5,6,8,37] 3 ?_
  simp only[List.take_succ_cons,List.take_zero,List.drop_succ_cons,List.drop_zero]
  iterate 3 refine oG ?_
  refine oP ?_
  refine pFreeze [6] ?_
  refine pPick [0,1,2,3,4,5] ?_ (ho:=by simp (disch:=decide) only[zV,zO,Ob.mpb,frzL,nrmφ,nrmO,onF,Ob.onI,mpP,renP,Option.map_some,Option.map_none,D.vw,vwL,D.on,D.inP,inL,memB,D.ren,renL,inv,fpO,Ob.mp,Ob.ren,D.nn,nnφ,Nat.reduceBEq,Nat.reduceEqDiff,Nat.reduceAdd,↓reduceIte,ty_on,cl_on,ty_ren,cl_ren];rfl)
  refine pEndN ?_
  refine WR.regB tabAw_ok [1,2,3,4,5,6,8,10] ?_
  refine oC ?_
  refine oS ?_
  iterate 2 refine oG ?_
  iterate 2 refine oS ?_
  refine oN ?_
  refine thenQ_normal ?_
  refine WI.seq ?_
  refine WI.regB tabPK_ok [1,2,3,4,5,6,8,10,11] ?_
  refine oC ?_
  iterate 2 refine oG ?_
  refine oN ?_
  refine thenQ_normal ?_
  refine WI.seq ?_
  refine WI.regB tabAw_ok [1,2,3,4,5,6,8,10,11] ?_
  refine oS ?_
  iterate 5 refine oG ?_
  refine oS ?_
  refine oG ?_
  refine oN ?_
  refine thenQ_normal ?_
  refine WI.seq ?_
  refine WI.freezeA [6] ?_
  refine WI.pickA [0,1,2,3,4,5,7] ?_ (ho:=by simp (disch:=decide) only[zV,zO,Ob.mpb,frzL,nrmφ,nrmO,onF,Ob.onI,mpP,renP,Option.map_some,Option.map_none,D.vw,vwL,D.on,D.inP,inL,memB,D.ren,renL,inv,fpO,Ob.mp,Ob.ren,D.nn,nnφ,Nat.reduceBEq,Nat.reduceEqDiff,Nat.reduceAdd,↓reduceIte,ty_on,cl_on,ty_ren,cl_ren];rfl)
  refine WI.regB tabAw_ok [0] ?_
  iterate 3 refine oG ?_
  refine oS ?_
  iterate 2 refine oG ?_
  refine oS ?_
  iterate 4 refine oG ?_
  refine oS ?_
  iterate 5 refine oG ?_
  refine oS ?_
  iterate 2 refine oG ?_
  refine oS ?_
  refine oG ?_
  iterate 2 refine oC ?_
  iterate 2 refine oG ?_
  refine oS ?_
  iterate 2 refine oG ?_
  refine oC ?_
  iterate 2 refine oG ?_
  refine oS ?_
  iterate 2 refine oG ?_
  refine oC ?_
  iterate 2 refine oG ?_
  refine oS ?_
  iterate 3 refine oG ?_
  refine oS ?_
  iterate 3 refine oG ?_
  refine oS ?_
  refine oG ?_
  refine oC ?_
  iterate 3 refine oG ?_
  refine oS ?_
  refine oN ?_
  refine thenQ_normal ?_
  refine WI.ret ?_
  first|refine lfR ?_|refine lfR2 ?_|refine lfRX ?_
  first|rfl|exact⟨rfl,rfl⟩|trivial
def typeNG:List D→Option (Bool×D)
 | [.x .nilp,.x (.str n)]=>some (true,.tup [tyD ([],0,false,()),.x (.bool false)])
 |_=>none
theorem typeNG_ok: ∀args r,typeNG args=some (true,r)→PCalls Tryz.prog 12 args r:=by
 intro args r h
 unfold typeNG at h
 split at h
 ·rename_i n
  simp only[ξI,ξP,ξa,ξe,true_and]at h
  obtain rfl:=h
  exact(typeN_c n)
 ·cases h
def classNG:List D→Option (Bool×D)
 | [.x .nilp,.x (.str n)]=>some (true,.tup [clD ([],[],[],()),.x (.bool false)])
 |_=>none
theorem classNG_ok: ∀args r,classNG args=some (true,r)→PCalls Tryz.prog 14 args r:=by
 intro args r h
 unfold classNG at h
 split at h
 ·rename_i n
  simp only[ξI,ξP,ξa,ξe,true_and]at h
  obtain rfl:=h
  exact(classN_c n)
 ·cases h
def typesNG:List D→Option (Bool×D)
 | [.x .nilp]=>some (true,.x (.sl []))
 |_=>none
theorem typesNG_ok: ∀args r,typesNG args=some (true,r)→PCalls Tryz.prog 19 args r:=by
 intro args r h
 unfold typesNG at h
 split at h
 ·simp only[ξI,ξP,ξa,ξe,true_and]at h
  obtain rfl:=h
  exact typesN_c
 ·cases h
def checkNG:List D→Option (Bool×D)
 | [.x .nilp,.agg [.x (.str dn),.x (.sl R)]]=>(unrows rAttr R).bind fun l=>some (true,.x (.int .i64 80))
 |_=>none
theorem checkNG_ok: ∀args r,checkNG args=some (true,r)→PCalls Tryz.prog 17 args r:=by
 intro args r h
 unfold checkNG at h
 split at h
 ·rename_i dn R
  obtain⟨l,hr0,h⟩:=ξB h
  simp only[ξI,ξP,ξa,ξe,true_and]at h
  obtain rfl:=h
  rw[←rows_unrows good_rAttr hr0]
  exact(checkN_c (dn,l,()))
 ·cases h
def awake09G:List D→Option (Bool×D)
 | []=>some (true,.x (.bool true))
 |_=>none
theorem awake09G_ok: ∀args r,awake09G args=some (true,r)→PCalls Tryz.prog 9 args r:=by
 intro args r h
 unfold awake09G at h
 split at h
 ·simp only[ξI,ξP,ξa,ξe,true_and]at h
  obtain rfl:=h
  exact awake09_c
 ·cases h
def tabNone:Tabs:=addQ (addQ (addQ (addQ (addQ (noTabs) 12 typeNG) 14 classNG) 19 typesNG) 17 checkNG) 9 awake09G
theorem tabNone_ok:SsOk Tryz.prog tabNone:=addQ_ok (addQ_ok (addQ_ok (addQ_ok (addQ_ok (noTabs_ok) (G_enters G_ok (p:=i12) rfl) typeNG_ok) (G_enters G_ok (p:=i14) rfl) classNG_ok) (G_enters G_ok (p:=i19) rfl) typesNG_ok) (G_enters G_ok (p:=i17) rfl) checkNG_ok) (G_enters G_ok (p:=i9) rfl) awake09G_ok
theorem tabNone_q12 (a:List D):tabNone.q 12 a=typeNG a:=rfl
theorem tabNone_q14 (a:List D):tabNone.q 14 a=classNG a:=rfl
theorem tabNone_q19 (a:List D):tabNone.q 19 a=typesNG a:=rfl
theorem tabNone_q17 (a:List D):tabNone.q 17 a=checkNG a:=rfl
theorem tabNone_q9 (a:List D):tabNone.q 9 a=awake09G a:=rfl
theorem tabNone_r (f:FuncId) (a:List D) (o:List Ob):tabNone.r f a o=none:=rfl
theorem tabNone_k (f:FuncId) (a:List D) (o:List Ob):tabNone.k f a o=none:=rfl
theorem schemaNone_c (e:TEntry) (n:Tx):PCalls Tryz.prog 5 [entD e,.x (.str n)] (.x (.bool true)):=by
 obtain⟨dn,l,u⟩:=e
 unfold entD
 refine FCalls.pure (fcallsG (fz:=true) G_ok (p:=i5) rfl _ (ξ rfl) _ (fun C0 E0=> ?_)) rfl
 dsimp only[i5,qt,qi,qs,qb,qm,qa,qh,qj,qT,qF,qe,ql,qL,qf,q2,q3,q8,qz,qp,qP,qc,qk,qx,qy,qo,qr,qC,argsφ]
 have uu:=ξn @typeNG.eq_1 (ξn @typeNG.eq_2 (ξn @classNG.eq_1 (ξn @classNG.eq_2 (ξn @typesNG.eq_1 (ξn @typesNG.eq_2 (ξn @checkNG.eq_1 (ξn @checkNG.eq_2 (ξn @awake09G.eq_1 (ξn @awake09G.eq_2 (ξn @un_at (ξn @@tyD.eq_1 (ξn @@clD.eq_1 (ξn @tabNone_r (ξn @tabNone_k (ξn @tabNone_q12 (ξn @tabNone_q14 (ξn @tabNone_q17 (ξn @tabNone_q19 (@tabNone_q9)))))))))))))))))))
 have tT:=tabNone_ok
 refine nz ?_
 refine rg tT [1,2] ?_
 refine rg tT [1,2,5] ?_
 refine rg tT [1,2,5,6,7] ?_
 refine rg tT [2,5,6,7,8,9] ?_
 refine rg tT [4] ?_
 refine lf ?_
 first|rfl|exact⟨rfl,rfl⟩|trivial
end Go.Proofs.YtpjfdjcejamebaaGreatDoor
end
