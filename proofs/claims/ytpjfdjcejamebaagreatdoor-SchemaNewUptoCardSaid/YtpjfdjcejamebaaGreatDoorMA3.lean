import Derived.Test.YtpjfdjcejamebaaGreatDoorMA2
import Derived.Test.YtpjfdjcejamebaaGreatDoorLA5
import Derived.Test.YtpjfdjcejamebaaGreatDoorSh
import Derived.Sort.KeysCollected
import Derived.Test.YtpjfdjcejamebaaGreatDoorIc
import Derived.Shelf.Spec.SlicesGrow
import Derived.Test.YtpjfdjcejamebaaGreatDoorMA1
set_option linter.unusedSimpArgs false
set_option linter.unusedVariables false
section
namespace Go.Proofs.YtpjfdjcejamebaaGreatDoor
open Go.RowKit Go.Bo Go.Ab
def OC:Tx:= [111,98,106,101,99,116,99,108,97,115,115]
def snL (l:List Tx):Sn:=l.foldl snS []
theorem ZJd (l:List Tx) (k:Tx):snL (l++ [k])=snS (snL l) k:=by unfold snL;rw[List.foldl_append];rfl
theorem ZEA (l:List Tx) (k:Tx):ZS (snL l) k=if k∈l then some (l.count k:Int)else none:=by
 suffices h: ∀(n:Nat) (l:List Tx),l.length=n→ZS (snL l) k=if k∈l then some (l.count k:Int)else none from h _ l rfl
 intro n
 induction n with
 |zero=>intro l hl;obtain rfl:=List.eq_nil_of_length_eq_zero hl;rfl
 |succ n ihn=>
  intro l hl;rcases List.eq_nil_or_concat l with rfl|⟨l0,x,rfl⟩
  ·simp at hl
  have ih:=ihn l0 (by simpa using hl);rw[List.concat_eq_append,ZJd];unfold snS;rw[ZKd];by_cases h:k=x
  ·subst h;rw[if_pos rfl,if_pos (by simp)];unfold Ki;rw[ih,List.count_append];by_cases hk:k∈l0
   ·rw[if_pos hk];simp
   ·rw[if_neg hk,List.count_eq_zero_of_not_mem hk];simp
  ·rw[if_neg h,ih,List.count_append];have hx: ¬x=k:=fun e=>h e.symm
   by_cases hk:k∈l0
   ·rw[if_pos hk,if_pos (by simp[hk])];simp[hx]
   ·rw[if_neg hk,if_neg (by simp[hk,h])]
abbrev snM (l:List Tx):List Pr:=YU Jg Kg (snL l)
theorem ZB0 {l:List Tx} {k:Tx} (h:k∈l):JA (snM l) [X.str k]=some [D.x (X.int .i64 (l.count k))]:=by
 rw[ZN1,ZEA,if_pos h];rfl
theorem ZEC {l:List Tx} {k:Tx} (h:k∉l):JA (snM l) [X.str k]=none:=by
 rw[ZN1,ZEA,if_neg h];rfl
theorem ZOK {l:List Tx} {k:Tx} (h:k∈l):Ya (snM l) [X.str k] [D.x (X.int .i64 ((l.count k:Int)+1))]=snM (l++ [k]):=by
 rw[ZKI];unfold snM;rw[ZJd];unfold snS Ki;rw[ZEA,if_pos h];rfl
theorem ZF1 {l:List Tx} {k:Tx} (h:k∉l):Ya (snM l) [X.str k] [D.x (X.int .i64 1)]=snM (l++ [k]):=by
 rw[ZKI];unfold snM;rw[ZJd];unfold snS Ki;rw[ZEA,if_neg h];rfl
theorem ZO0 (l:List Tx) (k:Tx):k∈l↔ ∃n,(k,n)∈snL l:=by
 have key: ∀(S:Sn) (k:Tx),(ZS S k).isSome=true↔ ∃n,(k,n)∈S:=by
  intro S k
  induction S with
  |nil=>simp[ZS]
  |cons p S ih=>
   by_cases h:k=p.1
   ·subst h;simp[ZS];exact⟨p.2,.inl rfl⟩
   ·have e:ZS (p::S) k=ZS S k:=by simp[ZS,h]
    rw[e,ih];constructor
    ·rintro⟨n,hn⟩;exact⟨n,List.mem_cons_of_mem _ hn⟩
    ·rintro⟨n,hn⟩;rcases List.mem_cons.1 hn with hh|hh
     ·exact absurd (congrArg Prod.fst hh) h
     ·exact⟨n,hh⟩
 rw[←key,ZEA];split<;>simp_all
def KD (l:List Zt):List Tx:=l.map fun a=>ZB a.1
def ZAN (l:List Zt):List Tx:=l.foldl (fun c a=>if ZB a.1=OC then a.2.1 else c) []
def Kz (M:List (Tx×Zk)) (cs:List Tx):List Tx:=cs.flatMap fun n=>(clV M (ZB n)).2.1++(clV M (ZB n)).2.2.1
def ZAL (M:List (Tx×Zk)) (H:List Tx) (n:Tx):Bool:=(ZS M (ZB n)).isSome&&(clV M (ZB n)).2.1.all fun x=>decide (x∈H)
def ZFE (L:List (Tx×Zb)) (M:List (Tx×Zk)) (l:List Zt):Int:=
 if ZEV L l≠0 then ZEV L l
 else if((ZAN l).all (ZAL M (KD l))&&((KD l).all (fun h=>decide (h∈OC::Kz M (ZAN l)))&&decide (ZAN l≠ [])))=true then 0 else 65
theorem ZMC (l:List Zt) (i:Nat) (h:i<l.length):KD (l.take (i+1))=KD (l.take i)++ [ZB (l.getD i ([],[],())).1]:=by
 unfold KD;rw[List.take_succ_eq_append_getElem h,List.map_append];simp[h]
theorem ZMZ (l:List Zt) (i:Nat) (h:i<l.length):ZAN (l.take (i+1))=if ZB (l.getD i ([],[],())).1=OC then(l.getD i ([],[],())).2.1 else ZAN (l.take i):=by
 unfold ZAN;rw[List.take_succ_eq_append_getElem h,List.foldl_append];simp[h]
theorem ZQb {l:List Zt} (h:smA l) (hv: ∀a∈l,∀v∈a.2.1,v.length≤1000000):(ZAN l).length≤1000000∧ ∀v∈ZAN l,v.length≤1000000:=by
 have key: ∀(m:List Zt) (c:List Tx),(∀a∈m,a∈l)→(c.length≤1000000∧ ∀v∈c,v.length≤1000000)→(m.foldl (fun c a=>if ZB a.1=OC then a.2.1 else c) c).length≤1000000∧ ∀v∈m.foldl (fun c a=>if ZB a.1=OC then a.2.1 else c) c,v.length≤1000000:=by
  intro m
  induction m with
  |nil=>intro c _ hc;exact hc
  |cons a m ih=>
   intro c hm hc;rw[List.foldl_cons];refine ih _ (fun x hx=>hm x (List.mem_cons_of_mem _ hx)) ?_;split
   ·exact⟨(h.2 a (hm a List.mem_cons_self)).2,hv a (hm a List.mem_cons_self)⟩
   ·exact hc
 exact key l [] (fun _ h=>h) (by simp)
def bdC (M:List (Tx×Zk)):Prop:= ∀k,(clV M k).2.1.length≤1000000∧(clV M k).2.2.1.length≤1000000
theorem ZLp (M:List (Tx×Zk)) (cs:List Tx) (i:Nat) (h:i<cs.length):Kz M (cs.take (i+1))=Kz M (cs.take i)++((clV M (ZB (cs.getD i []))).2.1++(clV M (ZB (cs.getD i []))).2.2.1):=by
 unfold Kz;rw[List.take_succ_eq_append_getElem h,List.flatMap_append];simp[h]
theorem ZNB {M:List (Tx×Zk)} (hM:bdC M): ∀cs:List Tx,(Kz M cs).length≤cs.length*2000000
 | []=>by simp[Kz]
 |n::cs=>by
  have:=ZNB hM cs;have:=hM (ZB n);unfold Kz at*;rw[List.flatMap_cons,Zr,Zr,Jz];omega
def ZBs:Tabs:=Za (Za (JT (JT (ZW) 39 ZDR) 14 ZBF) 37 YI) 40 KG
theorem ZVy:SsOk Tryz.prog ZBs:=ZL (ZL (Ye (Ye (ZG) (ZC ZH (p:=i39) rfl) ZSg) (ZC ZH (p:=i14) rfl) ZL6) (ZC ZH (p:=i37) rfl) ZAy) (ZC ZH (p:=i40) rfl) ZJT
theorem ZSJ (a:List D):ZBs.q 39 a=none:=rfl
theorem ZSK (a:List D) (o:List Ob):ZBs.t 39 a o=YW ZDR a o:=rfl
theorem ZSZ (a:List D):ZBs.q 14 a=none:=rfl
theorem ZSF (a:List D) (o:List Ob):ZBs.t 14 a o=YW ZBF a o:=rfl
theorem ZS0 (a:List D):ZBs.q 37 a=YI a:=rfl
theorem ZTW (a:List D):ZBs.q 40 a=KG a:=rfl
theorem ZZZ (f:FuncId) (a:List D) (o:List Ob):ZBs.r f a o=none:=rfl
theorem ZY5 (f:FuncId) (a:List D) (o:List Ob):ZBs.k f a o=none:=rfl
theorem ZSC {α:Type} {l:List α} {i:Nat} {q:α} (h:l[i]? =some q): ∀x,x∈l↔x=q∨x∈l.eraseIdx i:=by
 intro x;have hp:l.Perm (q::l.eraseIdx i):=by
  obtain⟨hi,he⟩:=Zf h;rw[List.eraseIdx_eq_take_drop_succ]
  conv=>lhs;rw[←List.take_append_drop i l,List.drop_eq_getElem_cons hi,he]
  exact List.perm_middle
 rw[hp.mem_iff,List.mem_cons]
abbrev scE (L:List (Tx×Zb)) (M:List (Tx×Zk)) (dn:Tx) (l:List Zt) (H:List Tx):List Ob:= [.box [.mref 1,.mref 2],.mpo .str true (Kj L),.mpo .str true (Kv M),.box [.x (.str dn),.x (.sl (rows YR l))],.mpo .str false (snM H)]
abbrev scF (L:List (Tx×Zb)) (M:List (Tx×Zk)) (dn:Tx) (l:List Zt) (H Y:List Tx):List Ob:= [.box [.mref 1,.mref 2],.mpo .str true (Kj L),.mpo .str true (Kv M),.box [.x (.str dn),.x (.sl (rows YR l))],.mpo .str false (snM H),.mpo .str false (snM Y)]
theorem ZIH (L:List (Tx×Zb)) (M:List (Tx×Zk)) (dn:Tx) (l:List Zt) (H:List Tx):(scE L M dn l H).all (Ob.inP (fun i=>decide (i<(scE L M dn l H).length)))=true:=by
 simp[Ob.inP,YY,D.inP,Km,Ks,KM]
theorem Zbu (L:List (Tx×Zb)) (M:List (Tx×Zk)) (dn:Tx) (l:List Zt) (H Y:List Tx):(scF L M dn l H Y).all (Ob.inP (fun i=>decide (i<(scF L M dn l H Y).length)))=true:=by
 simp[Ob.inP,YY,D.inP,Km,Ks,KM]
abbrev scG (L:List (Tx×Zb)) (M:List (Tx×Zk)) (dn:Tx) (l:List Zt) (H Y:List Tx) (c:Zk):List Ob:= [.box [.mref 1,.mref 2],.mpo .str true (Kj L),.mpo .str true (Kv M),.box [.x (.str dn),.x (.sl (rows YR l))],.mpo .str false (snM H),.mpo .str false (snM Y),.box [.x (.str c.1),.x (.sl (rows ZI c.2.1)),.x (.sl (rows ZI c.2.2.1))]]
set_option maxHeartbeats 4000000 in
theorem ZRN (L:List (Tx×Zb)) (M:List (Tx×Zk)) (e:Kl) (he:smA e.2.1) (hv: ∀a∈e.2.1,∀v∈a.2.1,v.length≤1000000) (hM:bdC M):ZV Tryz.prog 17 [.ptr 0 0,ZAM e] (QG L M) (.x (.int .i64 (ZFE L M e.2.1))) (QG L M):=by
 obtain⟨dn,l,u⟩:=e;simp only at he hv⊢;have hsm:=ZM he;have hll:l.length≤1000000:=he.1;have hO:=QZ L M;have h1':=ZEd L;have h2':=ZEj M;obtain⟨hcl,hcv⟩:=ZQb he hv;have hoc:(OC:Tx)= [111,98,106,101,99,116,99,108,97,115,115]:=rfl;have hns:Ya [] [X.str [111,98,106,101,99,116,99,108,97,115,115]] [D.x (X.int .i64 1)]=snM [OC]:=by rfl
 rcases hres:ZFE L M l with v
 unfold ZFE at hres;unfold ZAM;refine ZN.mcallsX (ZO (fz:=true) ZH (p:=i17) rfl _ (ξ rfl) _ (fun C0 E0=> ?_)) (by first|decide|(simp;done)) hO (by first|rfl|exact hR);dsimp only[i17,qt,qi,qs,qb,qm,qa,qh,qj,qT,qF,qe,ql,qL,qf,q2,q3,q8,qz,qp,qP,qc,qk,qx,qy,qo,qr,qC,ZQ];have uu:=ZA @ZDR.eq_1 (ZA @ZDR.eq_2 (ZA @ZBF.eq_1 (ZA @ZBF.eq_2 (ZA @YI.eq_1 (ZA @YI.eq_2 (ZA @KG.eq_1 (ZA @KG.eq_2 (ZA @h1' (ZA @h2' (ZA @ZJ7 (ZA hsm (ZA hns (ZA @ZAA (ZA @ZAE (ZA @ZBE (ZA @ZBG (ZA @Km (ZA @Ks (ZA @KX (ZA @Qq (ZA @KM (ZA @ZZZ (ZA @ZY5 (ZA @ZSZ (ZA @ZS0 (ZA @ZSJ (ZA @ZTW (ZA @ZSK (@ZSF)))))))))))))))))))))))))))));have tT:=ZVy;refine nz ?_;refine rg tT [0,3] ?_;refine rg tT [0,3,22] ?_;refine ce (fun h0=> ?_) (fun h0=> ?_)
 ·simp at h0
 ·refine rg tT [0,3,5] ?_;refine rg tT [0,3,5,27] ?_;refine cd (fun h1=> ?_) (fun h1=> ?_)
  ·rw[if_pos (by simpa using h1)]at hres;refine rg tT [4] ?_;refine lf ?_;exact⟨by rw[hres],_,rfl⟩
  ·rw[if_neg (by simpa using h1)]at hres;refine rg tT [0,3,6] ?_;refine rg tT [0,3,6,7] ?_;refine rg tT [0,6,7,31,32,33] ?_;refine WI.nnA ?_;refine WI.orderA [0,6,7,31,32,33] ?_;refine WI.loop (fun φ os=> ∃(i:Nat),φ= [(0,.ptr 0 0),(6,.mref 4),(7,.x (.sl (rows ZI (ZAN (l.take i))))),(31,.x (.sl (rows YR l))),(32,.x (.int .i64 l.length)),(33,.x (.int .i64 i))]∧os=scE L M dn l (KD (l.take i))∧i≤l.length) (ZK l.length 33) ?_ (fun φ os hI=> ?_)
   ·exact⟨0,rfl,rfl,by omega⟩
   ·obtain⟨i,rfl,rfl,hi⟩:=hI;refine nz ?_;refine rg tT [0,6,7,31,32,33,34] ?_;refine cd (fun h2=> ?_) (fun h2=> ?_)
    ·have hi4:i<l.length:=by omega
     have hrw:=ZBD l i hi4;have hnt:=ZMC l i hi4;have hct:=ZMZ l i hi4;have hma:l.getD i ([],[],())∈l:=by rw[show l.getD i ([],[],())=l[i] by simp[hi4]];exact List.getElem_mem hi4
     generalize l.getD i ([],[],())=a at hrw hnt hct hma;have hna:=(he.2 a hma).1;have hcn:(KD (l.take i)).count (ZB a.1)≤1000000:=Nat.le_trans List.count_le_length (by unfold KD;rw[List.length_map,List.length_take];have:=he.1;omega);have uu:=ZA uu hrw;refine rg tT [0,6,7,9,31,32,33] ?_;refine rg tT [0,6,7,9,10,31,32,33] ?_;by_cases hk:ZB a.1∈KD (l.take i)
     ·have hg1:=ZB0 hk;have hg2:=ZOK hk;have uu:=ZA uu (ZA hg1 hg2);refine rg tT [0,6,7,9,10,31,32,33] ?_;refine rg tT [0,6,7,9,31,32,33,45] ?_;refine cd (fun h3=> ?_) (fun h3=> ?_)
      ·rw[if_pos (by rw[hoc];simpa using h3)]at hct;refine rg tT [0,6,7,31,32,33] ?_;refine WI.orderA [0,6,7,31,32,33] ?_;refine WI.dropT (scE L M dn l (KD (l.take i)++ [ZB a.1])) _ rfl (by simp) (ZIH L M dn l _) (by simp[D.inP,YY]) ?_;refine rg tT [0,6,7,31,32,33] ?_;exact⟨⟨i+1,by rw[hct];first|done|rfl,by rw[hnt],by omega⟩,by simp[ZK,Ab.get,D.val,ZE];omega⟩
      ·rw[if_neg (fun e=>h3 (e.trans hoc))]at hct;refine WI.orderA [0,6,7,31,32,33] ?_;refine WI.dropT (scE L M dn l (KD (l.take i)++ [ZB a.1])) _ rfl (by simp) (ZIH L M dn l _) (by simp[D.inP,YY]) ?_;refine rg tT [0,6,7,31,32,33] ?_;exact⟨⟨i+1,by rw[hct];first|done|rfl,by rw[hnt],by omega⟩,by simp[ZK,Ab.get,D.val,ZE];omega⟩
     ·have hg1:=ZEC hk;have hg2:=ZF1 hk;have uu:=ZA uu (ZA hg1 hg2);refine rg tT [0,6,7,9,10,31,32,33] ?_;refine rg tT [0,6,7,9,31,32,33,45] ?_;refine cd (fun h3=> ?_) (fun h3=> ?_)
      ·rw[if_pos (by rw[hoc];simpa using h3)]at hct;refine rg tT [0,6,7,31,32,33] ?_;refine WI.orderA [0,6,7,31,32,33] ?_;refine WI.dropT (scE L M dn l (KD (l.take i)++ [ZB a.1])) _ rfl (by simp) (ZIH L M dn l _) (by simp[D.inP,YY]) ?_;refine rg tT [0,6,7,31,32,33] ?_;exact⟨⟨i+1,by rw[hct];first|done|rfl,by rw[hnt],by omega⟩,by simp[ZK,Ab.get,D.val,ZE];omega⟩
      ·rw[if_neg (fun e=>h3 (e.trans hoc))]at hct;refine WI.orderA [0,6,7,31,32,33] ?_;refine WI.dropT (scE L M dn l (KD (l.take i)++ [ZB a.1])) _ rfl (by simp) (ZIH L M dn l _) (by simp[D.inP,YY]) ?_;refine rg tT [0,6,7,31,32,33] ?_;exact⟨⟨i+1,by rw[hct];first|done|rfl,by rw[hnt],by omega⟩,by simp[ZK,Ab.get,D.val,ZE];omega⟩
    ·obtain rfl:i=l.length:=by omega
     rw[List.take_length];refine WI.orderA [0,6,7] ?_;generalize KD l=H at hres⊢;generalize ZAN l=cs at hres hcl hcv⊢;refine rg tT [0,6,7,11] ?_;refine rg tT [0,6,7,11,51,52,53] ?_;refine WI.orderA [0,6,7,11,51,52,53] ?_;refine WI.loop (fun φ os=> ∃(i:Nat),φ= [(0,.ptr 0 0),(6,.mref 4),(7,.x (.sl (rows ZI cs))),(11,.mref 5),(51,.x (.sl (rows ZI cs))),(52,.x (.int .i64 cs.length)),(53,.x (.int .i64 i))]∧os=scF L M dn l H (OC::Kz M (cs.take i))∧i≤cs.length∧(cs.take i).all (ZAL M H)=true) (ZK cs.length 53) ?_ (fun φ os hI=> ?_)
     ·exact⟨0,rfl,rfl,by omega,rfl⟩
     ·obtain⟨i,rfl,rfl,hi,hall⟩:=hI;refine nz ?_;refine rg tT [0,6,7,11,51,52,53,54] ?_;refine cd (fun h4=> ?_) (fun h4=> ?_)
      ·have hi4:i<cs.length:=by omega
       have hrw:=Yg cs i hi4;have hmt:=ZLp M cs i hi4;have hnl:(cs.getD i []).length≤1000000:=by rw[show cs.getD i []=cs[i] by simp[hi4]];exact hcv _ (List.getElem_mem hi4)
       have hal:=Zx (ZAL M H) cs i hi4;have hgi:cs[i]=cs.getD i []:=by simp[hi4]
       have hno:ZAL M H (cs.getD i [])=false→cs.all (ZAL M H)=false:=fun h=>ZZ (ZAL M H) cs i hi4 (by rw[hgi];exact h)
       rw[hgi]at hal;have hYl:=ZNB hM (cs.take i);rw[List.length_take]at hYl;generalize Kz M (cs.take i)=Y0 at hmt hYl⊢;generalize cs.getD i []=n at hrw hmt hnl hal hno;have hb:=hM (ZB n);have hcd:ZAL M H n=((ZS M (ZB n)).isSome&&(clV M (ZB n)).2.1.all fun x=>decide (x∈H)):=rfl;obtain⟨c,hc⟩: ∃c,c=clV M (ZB n):=⟨_,rfl⟩;rw[←hc]at hmt hb hcd;have hd47:decide (n.length≤140737488355328)=true:=ZM (by omega);have uu:=ZA uu (ZA hrw (ZA hc.symm (ZA (@clD.eq_1) hd47)));refine rg tT [0,6,7,11,13,51,52,53] ?_;refine rg tT [0,6,7,11,14,15,51,52,53] ?_;refine rg tT [0,6,7,11,14,51,52,53,64] ?_;refine cd (fun h5=> ?_) (fun h5=> ?_)
       ·have hno2:=hno (by rw[hcd];clear uu;grind);rw[hno2,Bool.false_and,if_neg (by decide)]at hres;refine rg tT [4] ?_;refine lf ?_;exact⟨by rw[hres],_,rfl⟩
       ·have hso:(ZS M (ZB n)).isSome=true:=by clear uu;grind
        rw[hso,Bool.true_and]at hcd;refine rg tT [0,6,7,11,14,51,52,53,66,67,68] ?_;refine WI.orderA [0,6,7,11,14,51,52,53,66,67,68] ?_;refine WI.loop (fun φ os=> ∃(k:Nat),φ= [(0,.ptr 0 0),(6,.mref 4),(7,.x (.sl (rows ZI cs))),(11,.mref 5),(14,.ptr 6 0),(51,.x (.sl (rows ZI cs))),(52,.x (.int .i64 cs.length)),(53,.x (.int .i64 i)),(66,.x (.sl (rows ZI c.2.1))),(67,.x (.int .i64 c.2.1.length)),(68,.x (.int .i64 k))]∧os=scG L M dn l H (OC::(Y0++c.2.1.take k)) c∧k≤c.2.1.length∧(c.2.1.take k).all (fun x=>decide (x∈H))=true) (ZK c.2.1.length 68) ?_ (fun φ os hI=> ?_)
        ·exact⟨0,rfl,by rw[List.take_zero,List.append_nil],by omega,rfl⟩
        ·obtain⟨k,rfl,rfl,hk,hka⟩:=hI;refine nz ?_;refine rg tT [0,6,7,11,14,51,52,53,66,67,68,69] ?_;refine cd (fun h6=> ?_) (fun h6=> ?_)
         ·have hk4:k<c.2.1.length:=by omega
          have hrk:=Yg c.2.1 k hk4;have hgk:c.2.1[k]=c.2.1.getD k []:=by simp[hk4]
          have htk:OC::(Y0++c.2.1.take (k+1))=(OC::(Y0++c.2.1.take k))++ [c.2.1.getD k []]:=by rw[List.take_succ_eq_append_getElem hk4,hgk];simp
          have hak:=Zx (fun x=>decide (x∈H)) c.2.1 k hk4;have hnk:c.2.1.getD k []∉H→c.2.1.all (fun x=>decide (x∈H))=false:=fun h=>ZZ (fun x=>decide (x∈H)) c.2.1 k hk4 (by rw[hgk];exact decide_eq_false h)
          rw[hgk]at hak;have hYk:(OC::(Y0++c.2.1.take k)).length≤4000000000000:=by rw[Jz,Zr,List.length_take];omega
          generalize c.2.1.getD k []=x at hrk htk hak hnk;generalize OC::(Y0++c.2.1.take k)=Y at htk hYk;have hcy:=Nat.le_trans (List.count_le_length (a:=x) (l:=Y)) hYk;have uu:=ZA uu hrk;refine rg tT [0,6,7,11,14,17,51,52,53,66,67,68] ?_;by_cases hxH:x∈H
          ·have hg1:=ZB0 hxH;have hcp:0<H.count x:=List.count_pos_iff.2 hxH;have uu:=ZA uu hg1;refine rg tT [0,6,7,11,14,17,51,52,53,66,67,68,75] ?_;refine ce (fun h7=> ?_) (fun h7=> ?_)
           ·have:((H.count x:Nat):Int)=0:=by simpa using h7
            omega
           ·have hka2:(c.2.1.take (k+1)).all (fun x=>decide (x∈H))=true:=by rw[hak,hka,ZM hxH];rfl
            by_cases hxY:x∈Y
            ·have hg2:=ZB0 hxY;have hg3:=ZOK hxY;have uu:=ZA uu (ZA hg2 hg3);refine rg tT [0,6,7,11,14,51,52,53,66,67,68] ?_;refine rg tT [0,6,7,11,14,51,52,53,66,67,68] ?_;exact⟨⟨k+1,rfl,by rw[htk],by omega,hka2⟩,by simp[ZK,Ab.get,D.val,ZE];omega⟩
            ·have hg2:=ZEC hxY;have hg3:=ZF1 hxY;have uu:=ZA uu (ZA hg2 hg3);refine rg tT [0,6,7,11,14,51,52,53,66,67,68] ?_;refine rg tT [0,6,7,11,14,51,52,53,66,67,68] ?_;exact⟨⟨k+1,rfl,by rw[htk],by omega,hka2⟩,by simp[ZK,Ab.get,D.val,ZE];omega⟩
          ·have hg1:=ZEC hxH;have uu:=ZA uu hg1;refine rg tT [0,6,7,11,14,17,51,52,53,66,67,68,75] ?_;refine ct (fun h7=> ?_) (fun h7=> ?_)
           ·refine rg tT [4] ?_;refine lf ?_;rw[hno (by rw[hcd];exact hnk hxH),Bool.false_and,if_neg (by decide)]at hres;exact⟨by rw[hres],_,rfl⟩
           ·simp at h7
         ·obtain rfl:k=c.2.1.length:=by omega
          rw[List.take_length]at hka;rw[List.take_length];rw[hka]at hcd;have hall2:(cs.take (i+1)).all (ZAL M H)=true:=by rw[hal,hall,hcd];rfl
          refine rg tT [0,6,7,11,51,52,53,82,83,84] ?_;refine WI.orderA [0,6,7,11,51,52,53,82,83,84] ?_;refine WI.loop (fun φ os=> ∃(k:Nat),φ= [(0,.ptr 0 0),(6,.mref 4),(7,.x (.sl (rows ZI cs))),(11,.mref 5),(51,.x (.sl (rows ZI cs))),(52,.x (.int .i64 cs.length)),(53,.x (.int .i64 i)),(82,.x (.sl (rows ZI c.2.2.1))),(83,.x (.int .i64 c.2.2.1.length)),(84,.x (.int .i64 k))]∧os=scG L M dn l H (OC::(Y0++(c.2.1++c.2.2.1.take k))) c∧k≤c.2.2.1.length) (ZK c.2.2.1.length 84) ?_ (fun φ os hI=> ?_)
          ·exact⟨0,rfl,by rw[List.take_zero,List.append_nil],by omega⟩
          ·obtain⟨k,rfl,rfl,hk⟩:=hI;refine nz ?_;refine rg tT [0,6,7,11,51,52,53,82,83,84,85] ?_;refine cd (fun h8=> ?_) (fun h8=> ?_)
           ·have hk4:k<c.2.2.1.length:=by omega
            have hrk:=Yg c.2.2.1 k hk4;have hgk:c.2.2.1[k]=c.2.2.1.getD k []:=by simp[hk4]
            have htk:OC::(Y0++(c.2.1++c.2.2.1.take (k+1)))=(OC::(Y0++(c.2.1++c.2.2.1.take k)))++ [c.2.2.1.getD k []]:=by rw[List.take_succ_eq_append_getElem hk4,hgk];simp
            have hYk:(OC::(Y0++(c.2.1++c.2.2.1.take k))).length≤4000000000000:=by rw[Jz,Zr,Zr,List.length_take];omega
            generalize c.2.2.1.getD k []=x at hrk htk;generalize OC::(Y0++(c.2.1++c.2.2.1.take k))=Y at htk hYk;have hcy:=Nat.le_trans (List.count_le_length (a:=x) (l:=Y)) hYk;have uu:=ZA uu hrk;refine rg tT [0,6,7,11,19,51,52,53,82,83,84] ?_;by_cases hxY:x∈Y
            ·have hg2:=ZB0 hxY;have hg3:=ZOK hxY;have uu:=ZA uu (ZA hg2 hg3);refine rg tT [0,6,7,11,51,52,53,82,83,84] ?_;refine rg tT [0,6,7,11,51,52,53,82,83,84] ?_;exact⟨⟨k+1,rfl,by rw[htk],by omega⟩,by simp[ZK,Ab.get,D.val,ZE];omega⟩
            ·have hg2:=ZEC hxY;have hg3:=ZF1 hxY;have uu:=ZA uu (ZA hg2 hg3);refine rg tT [0,6,7,11,51,52,53,82,83,84] ?_;refine rg tT [0,6,7,11,51,52,53,82,83,84] ?_;exact⟨⟨k+1,rfl,by rw[htk],by omega⟩,by simp[ZK,Ab.get,D.val,ZE];omega⟩
           ·obtain rfl:k=c.2.2.1.length:=by omega
            rw[List.take_length];refine WI.dropT (scF L M dn l H (OC::(Y0++(c.2.1++c.2.2.1)))) _ rfl (by simp) (Zbu L M dn l _ _) (by simp[D.inP,YY]) ?_;refine WI.orderA [0,6,7,11,51,52,53] ?_;refine rg tT [0,6,7,11,51,52,53] ?_;exact⟨⟨i+1,rfl,by rw[hmt],by omega,hall2⟩,by simp[ZK,Ab.get,D.val,ZE];omega⟩
      ·obtain rfl:i=cs.length:=by omega
       rw[List.take_length]at hall⊢;refine WI.orderA [6,7,11] ?_;rw[hall,Bool.true_and]at hres;generalize OC::Kz M cs=Y at hres⊢;refine rg tT [7,11,95] ?_;refine WI.orderA [7,11,95] ?_;refine WI.loop (fun φ os=> ∃(R:Sn) (cur:Option Pr),φ= [(7,.x (.sl (rows ZI cs))),(11,.mref 5),(95,.iref 4 6)]∧os= [.box [.mref 1,.mref 2],.mpo .str true (Kj L),.mpo .str true (Kv M),.box [.x (.str dn),.x (.sl (rows YR l))],.mit .str false (snM H) 6 (YU Jg Kg R) cur,.mpo .str false (snM Y),.itr]∧(∀p∈R,p.1∈H)∧(∀h∈H,h∈Y∨ ∃n,(h,n)∈R)) (ZeR 4) ?_ (fun φ os hI=> ?_)
       ·exact⟨snL H,none,rfl,rfl,fun p hp=>(ZO0 H p.1).2 ⟨p.2,hp⟩,fun h hh=> .inr ((ZO0 H h).1 hh)⟩
       ·obtain⟨R,cur,rfl,rfl,hR1,hR2⟩:=hI;refine nz ?_;refine WI.nextMA [7,11,95,97] (fun hn37=> ?_) (fun i37 q37 hn37=> ?_)
        ·simp only[YU,List.map_eq_nil_iff]at hn37;subst hn37;have hHY:H.all (fun h=>decide (h∈Y))=true:=List.all_eq_true.2 fun h hh=>ZM (by rcases hR2 h hh with h1|⟨n,h1⟩;exact h1;cases h1)
         rw[hHY,Bool.true_and]at hres;refine nz ?_;refine ce (fun h9=> ?_) (fun h9=> ?_)
         ·exact absurd h9 (by decide)
         ·refine rg tT [4] ?_;refine lf ?_;refine⟨?_,_,rfl⟩;rw[←hres];clear uu;rcases cs with _|⟨x,cs⟩<;>simp;omega
        ·rw[Zbt]at hn37;obtain⟨p,hp,rfl⟩:=Zh hn37;have hi37:=(Zf hp).1;have hpH:=hR1 p (List.mem_of_getElem? hp);refine nz ?_;refine ct (fun h9=> ?_) (fun h9=> ?_)
         ·refine rg tT [7,11,20,95] ?_;by_cases hpY:p.1∈Y
          ·have hg1:=ZB0 hpY;have hcp:0<Y.count p.1:=List.count_pos_iff.2 hpY;have uu:=ZA uu hg1;refine rg tT [7,11,95,103] ?_;refine ce (fun h10=> ?_) (fun h10=> ?_) (kB:=fun h=>h.h)
           ·have:((Y.count p.1:Nat):Int)=0:=by simpa using h10
            omega
           ·have hR3: ∀h∈H,h∈Y∨ ∃n,(h,n)∈R.eraseIdx i37:=fun h hh=>by
             rcases hR2 h hh with h1|⟨n,h1⟩
             ·exact .inl h1
             ·rcases(ZSC hp (h,n)).1 h1 with h2|h2
              ·exact .inl (by rw[show h=p.1 from congrArg Prod.fst h2];exact hpY)
              ·exact .inr ⟨n,h2⟩
            refine WI.orderA [7,11,95] ?_;refine nz ?_;exact⟨⟨R.eraseIdx i37,_,rfl,rfl,fun q hq=>hR1 q (List.mem_of_mem_eraseIdx hq),hR3⟩,by simp only[ZeR,List.getElem?_cons_succ,List.getElem?_cons_zero,ZGR,ZGo];rw[List.length_eraseIdx,if_pos hi37];omega⟩
          ·have hg1:=ZEC hpY;have uu:=ZA uu hg1;refine rg tT [7,11,95,103] ?_;refine ct (fun h10=> ?_) (fun h10=> ?_)
           ·refine rg tT [4] ?_;refine lf ?_;rw[show H.all (fun h=>decide (h∈Y))=false from by rw[List.all_eq_false];exact⟨p.1,hpH,by simpa using hpY⟩,Bool.false_and,if_neg (by decide)]at hres;exact⟨by rw[hres],_,rfl⟩
           ·simp at h10
         ·exact absurd h9 (by decide)
def ZA8 (l:List (List UInt8)):List (List UInt8):=l.mergeSort fun x y=>decide (x≤y)
theorem ZLg (l:List (List UInt8)):(ZA8 l).Perm l:=List.mergeSort_perm ..
theorem ZPq {P:Program} {k:TypeId} {w:World} {b:Nat} {l':List (ByteArray×Value)} (hk:P.underlying k=some .string) (h:KV Value.string w b l') (hn:l'.length≤1000000) (hs: ∀a∈l',a.1.size≤maxLen):
  ∃D0:DataW Unit,w.ownsMap P k (fun _=>some (.nil,[])) b l'.length D0∧Maps.size D0=l'.length∧(strKeys D0).Perm (l'.map fun a=>a.1.data.toList):=by
 obtain⟨es,clk,hb,hm,hnd,hc,hbn⟩:=h;have hlen:es.size=l'.length:=by have:=congrArg List.length hm;simpa using this
 have hkeys:es.toList.map (·.key)=l'.map fun a=>Value.string a.1:=by
  have:=congrArg (List.map Prod.fst) hm;rw[List.map_map,List.map_map]at this;exact this
 have hrd: ∀x∈es.toList,∃a∈l',x.key=Value.string a.1:=by
  intro x hx;have h1:x.key∈es.toList.map (·.key):=List.mem_map.2 ⟨x,hx,rfl⟩;rw[hkeys]at h1;obtain⟨a,ha,e⟩:=List.mem_map.1 h1;exact⟨a,ha,e.symm⟩
 have hread: ∀(x:MapEntry) (a:ByteArray×Value),a∈l'→x.key=Value.string a.1→WideElems.rd (H:=Unit) P k (fun _=>some (.nil,[])) x=some (.string a.1.data.toList,.nil):=by
  intro x a ha e;have hko:=WideMaps.keyOf_string_mk (P:=P) hk (hs a ha);unfold WideElems.rd;rw[e,hko];rfl
 refine⟨_,⟨es,clk,hb,⟨?_,⟨hc,hbn,?_⟩,?_⟩,by omega,rfl⟩,?_,?_⟩
 ·rw[hlen];simp only[maxLen];omega
 ·rw[hkeys];rw[show(l'.map fun a=>Value.string a.1)=(l'.map (·.1)).map Value.string by simp[Function.comp]];exact List.Pairwise.map _ (fun a b h e=>h (by cases e;rfl)) hnd
 ·intro x hx;obtain⟨a,ha,e⟩:=hrd x hx;exact⟨_,hread x a ha e⟩
 ·show(List.foldr DataW.insert [] _).length=_;rw[Go.length_sorted];simp[hlen]
 ·show(List.map _ (List.foldr DataW.insert [] _)).Perm _;refine((WideShapes.sorted_perm _).map _).trans ?_;have:(es.toList.map (WideElems.rg (H:=Unit) P k (fun _=>some (.nil,[])))).map (fun p=>strOf p.1)=l'.map fun a=>a.1.data.toList:=by
   rw[List.map_map];have h2:es.toList.map (fun x=>strOf (WideElems.rg (H:=Unit) P k (fun _=>some (.nil,[])) x).1)=(es.toList.map (·.key)).map (fun v=>match v with| .string s=>s.data.toList|_=> []):=by
    rw[List.map_map];refine List.map_congr_left fun x hx=> ?_
    obtain⟨a,ha,e⟩:=hrd x hx;simp only[WideElems.rg,hread x a ha e,Option.getD_some,strOf,Function.comp,e]
   refine Eq.trans h2 ?_;rw[hkeys,List.map_map];rfl
  rw[this]
theorem Zc9 (ag:Bool) (l:List Pr):ZV Tryz.prog 44 [.mref 0] [.mpo .str ag l] (.fn 74 [.ptr 1 0]) [.mpo .str ag l,.box [.mref 0]]:=by
 intro c E vs hR hvl;obtain⟨hsz,hv⟩:=hvl;obtain⟨v0,rfl⟩: ∃v0,vs= #[v0]:=by
  obtain⟨vl⟩:=vs
  match vl,hsz with
  | [a],_=>exact⟨a,rfl⟩
 have h0:=hv 0 _ v0 rfl rfl;clear hv hsz;cases h0 with
 | @mref _ b cu dk ag' o ho hk h=>
 have hlen:=hR.len;refine(callsIn_wide (n:=5)).1 ((AnyZ.keys_in Tryz.mkKeys Fence.wide 5 trivial rfl (some b) E.w).mono ?_);rintro e w' ⟨rfl,rfl⟩;have h0':(E.ob++ [(E.w.heap.size,undef)])[0]? =some (b,cu):=by
  rw[Yr (Zf h).1];exact h
 have h1':(E.ob++ [(E.w.heap.size,undef)])[1]? =some (E.w.heap.size,undef):=by
  rw[List.getElem?_append_right (by rw[hlen];simp),hlen];simp
 obtain⟨R',ev⟩:=hR.push (E.w.alloc (.cells #[.map (some b)] (Tryz.mkKeys_ren.t 23))) (.box [.mref 0]) (E.w.heap.size,undef) (JO _ _) (fun b' hb=>by cases hb;exact Nat.le_refl _) (fun ev=>⟨#[.map (some b)],_,heap_alloc_new _ _,rfl,fun j d v hd hv=>by
  rcases j with _|j
  ·simp at hd hv;subst hd;subst hv;exact⟨.mref (dk:= .str) (ag:=ag) (o:= .mpo .str ag l) rfl rfl h0',rfl⟩
  ·simp at hd⟩)
 refine⟨_,_,rfl,rfl,R',ev,.fn _ rfl fun j d v hd hv=> ?_⟩;rcases j with _|j
 ·simp at hd hv;subst hd;subst hv;exact .ptr (ds:= [.mref 0]) rfl h1'
 ·simp at hd
theorem ZO6:Go.Ab.Enters Tryz.prog 44:=Go.Proofs.enters_of Tryz.func44 (by kernel_rfl) rfl
def ZGM (p:Pr):List UInt8:=match p.1 with
 | [.str s]=>s
 |_=> []
theorem Zeo (m : Nat) : AnyZ.SortsIn Tryz.prog Tryz.mkSorted_ren Fence.wide m :=
  ⟨fun blk off cap ss W hH hblk hsz => callsIn_wide.2 (AnyM.slices_Sort_string Tryz.mkSort blk off cap ss W hH hblk hsz),
   fun p cap W => callsIn_wide.2 (AnyM.slices_Sort_string_none Tryz.mkSort p cap W)⟩
theorem ZWS (ag:Bool) (l:List Pr) (hl:l.length≤1000000) (hs: ∀p∈l,∃s,p.1= [.str s]∧s.length≤maxLen):ZV Tryz.prog 43 [.fn 74 [.ptr 0 0]] [.box [.mref 1],.mpo .str ag l] (.x (.sl (rows ZI (ZA8 (l.map ZGM))))) [.box [.mref 1],.mpo .str ag l]:=by
 intro c E vs hR hvl;obtain⟨hsz,hv⟩:=hvl;obtain⟨v0,rfl⟩: ∃v0,vs= #[v0]:=by
  obtain⟨vl⟩:=vs
  match vl,hsz with
  | [a],_=>exact⟨a,rfl⟩
 have h0:=hv 0 _ v0 rfl rfl;clear hv hsz;cases h0 with
 |fn cv hcl hcv=>
 obtain⟨c0,rfl⟩: ∃c0,cv= #[c0]:=by
  obtain⟨vl⟩:=cv
  match vl,hcl with
  | [a],_=>exact⟨a,rfl⟩
 have h1:=hcv 0 _ c0 rfl rfl;clear hcv hcl;cases h1 with
 | @ptr _ _ Bm cu ds ho hob=>
 cases ho;obtain⟨cs,ty,hbox,hcs,hcell⟩:=hR.ok 0 _ _ rfl hob;obtain⟨m0,rfl⟩: ∃m0,cs= #[m0]:=by
  obtain⟨vl⟩:=cs
  match vl,hcs with
  | [a],_=>exact⟨a,rfl⟩
 have h2:=(hcell 0 _ m0 rfl rfl).1;cases h2 with
 | @mref _ b cu2 dk ag' o ho2 hk2 hob2=>
 obtain⟨l',hmk,hll,hpr⟩:Qr Value.string kxS E _ b ag l:=hR.ok 1 _ _ rfl hob2;have hkeyb: ∀(i:Nat) (a:ByteArray×Value),l'[i]? =some a→a.1.size≤maxLen∧(l.map ZGM)[i]? =some a.1.data.toList:=by
  intro i a ha;have hi:i<l.length:=by rw[←hll];exact(Zf ha).1
  have hq:=(hpr i a l[i] ha (YC hi)).1;obtain⟨s,e1,e2⟩:=hs l[i] (List.getElem_mem hi);rw[e1]at hq;simp only[kxS,List.cons.injEq,X.str.injEq,and_true]at hq;rw[ByteArray.toList_eq]at hq;subst hq;refine⟨Nat.le_trans (Nat.le_of_eq (Array.length_toList (xs:=a.1.data)).symm) e2,?_⟩;rw[YA,YC hi];simp only[Option.map_some,ZGM,e1]
 have hkeys:(l'.map fun a=>a.1.data.toList)=l.map ZGM:=by
  refine List.ext_getElem? fun i=> ?_
  rw[YA];rcases h:l'[i]? with _|a
  ·rw[Option.map_none,eq_comm,List.getElem?_eq_none_iff,List.length_map,←hll];exact List.getElem?_eq_none_iff.1 h
  ·rw[Option.map_some,(hkeyb i a h).2]
 obtain⟨D0,hown,hsize,hperm⟩:=ZPq (P:=Tryz.prog) (k:=Tryz.mkKeys_ren.t 26) (by kernel_rfl) hmk (by omega) (fun a ha=>by obtain⟨i,hi⟩:=List.mem_iff_getElem?.1 ha;exact(hkeyb i a hi).1);rw[hkeys]at hperm;have hlt:Bm<E.w.heap.size:=(Ql hbox).1;have hseq:=AnyZ.keys_gives (ρ:=Tryz.mkKeys_ren) {Tryz.mkKeys with} Fence.wide (5-1-1-1) trivial rfl (by omega) Bm b _ D0 E.w hlt (by simp[World.cell?,hbox]) hown;refine(callsIn_wide (n:=5)).1 ((AnyZ.sorted_in Tryz.mkSorted Fence.wide 5 trivial trivial trivial trivial rfl (by omega) (Zeo _) (Go.Proofs.enters_of Tryz.func73 (by kernel_rfl) rfl) 74 #[.pointer (some ⟨Bm,0,none⟩)] trivial (Go.Proofs.enters_of Tryz.func74 (by kernel_rfl) rfl) _ _ (by rw[hsize];simp only[maxLen];omega) (by omega) _ hseq).mono ?_);rintro e w' ⟨v,ss,rfl,hS,hrow,hnil,hb⟩;have hks:ss.mergeSort (fun x y=>decide (x≤y))=ZA8 (l.map ZGM):=mergeSort_of_perm (hS.trans hperm);have hsl:ss.length=(ZA8 (l.map ZGM)).length:=by rw[←hks];simp
 rw[hks,hsl]at hrow;generalize ZA8 (l.map ZGM)=ks at hrow;obtain⟨hR',ev⟩:=hR.world w' (fun b' o'=>E.st b' o'∨(E.w.heap.size≤b'∧b'<w'.heap.size)) ⟨hb.os,hb.tape,hb.output,hb.size,fun k hk _=>hb.block k hk⟩ (fun _ _ h=> .inl h) (fun _ _ h=>h);refine⟨v,_,rfl,rfl,hR',ev,?_⟩;rcases hrow with⟨hxl,⟨rfl,hz⟩|⟨g,cap,cur,rfl,hg,hgb,r1,r2,r3,r4⟩⟩
 ·obtain rfl:=List.eq_nil_of_length_eq_zero hz;exact .x (.sl [] none 0 0 1 (fun _ _=>undef) rfl (Nat.le_refl _) (by simp) (fun r h=>by cases h) (fun i j hi=>by omega) (fun _=>⟨rfl,rfl⟩) (fun h=>by omega) (fun i j r x h=>by simp at h))
 ·have hglt:g<w'.heap.size:=(Ql hgb).1;refine .x (.sl _ _ _ _ 1 (fun i _=>encStr (ks[i]?.getD [])) (YE ..) r1 r2 (fun r hr=> ?_) (fun i j hi hj=> ?_) (fun h=>by cases h) (fun _ ad h=>by cases h;rfl) (fun i j r x hr hx=> ?_))
  ·simp only[rows,List.mem_map]at hr;obtain⟨x,_,rfl⟩:=hr;rfl
  ·obtain rfl:j=0:=Nat.lt_one_iff.1 hj;refine⟨_,_,rfl,.inr ⟨hg,hglt⟩,?_⟩;have h1:=congrArg (fun l=>l[i]?) r4;simp only[List.getElem?_take,Nat.mul_one,hi,if_true,Array.getElem?_toList,YA,YC hi,Option.map_some]at h1;rw[show 0+i*1+0=i from by rw[Nat.zero_add,Nat.mul_one,Nat.add_zero],YC hi,Option.getD_some];have h2:w'.cell? ⟨g,i,none⟩=cur[i]? :=by simp[World.cell?,hgb]
   rw[h2];exact h1
  ·simp only[rows,YA,Option.map_map,Kh]at hr;obtain⟨y,hy,rfl⟩:=hr;simp only[Function.comp,ZI,RC.enc]at hx;rcases j with _|j
   ·simp at hx;subst hx;simp only[hy,Option.getD_some];exact .str _
   ·simp at hx
theorem ZK4:Go.Ab.Enters Tryz.prog 43:=Go.Proofs.enters_of Tryz.func43 (by kernel_rfl) rfl
def ZFM:List D→List Ob→Option (Bool×D×List Ob)
 | [.mref 0],[.mpo .str ag l]=>some (true,.fn 74 [.ptr 1 0],[.mpo .str ag l,.box [.mref 0]])
 |_,_=>none
theorem ZWB: ∀args os r os',ZFM args os=some (true,r,os')→ZV Tryz.prog 44 args os r os':=by
 intro args os r os' h;unfold ZFM at h;split at h
 ·simp only[Zg,Ze,true_and]at h;obtain⟨rfl,rfl⟩:=h;exact Zc9 _ _
 ·cases h
def ZM6 (p:Pr):Bool:=match p.1 with
 | [.str s]=>decide (s.length≤1000000)
 |_=>false
def ZCJ:List D→List Ob→Option (Bool×D×List Ob)
 | [.fn 74 [.ptr 0 0]],[.box [.mref 1],.mpo .str ag l]=>some (decide (l.length≤1000000)&&l.all ZM6,.x (.sl (rows ZI (ZA8 (l.map ZGM)))),[.box [.mref 1],.mpo .str ag l])
 |_,_=>none
theorem ZPZ: ∀args os r os',ZCJ args os=some (true,r,os')→ZV Tryz.prog 43 args os r os':=by
 intro args os r os' h;unfold ZCJ at h;split at h
 ·simp only[Zg,Ze,ZY,Zi,List.all_eq_true]at h;obtain⟨⟨h1,h2⟩,rfl,rfl⟩:=h;refine ZWS _ _ h1 (fun p hp=> ?_);have h3:=h2 p hp;unfold ZM6 at h3;split at h3
  ·rename_i s e;exact⟨s,e,by have:=of_decide_eq_true h3;simp only[maxLen];omega⟩
  ·cases h3
 ·cases h
def ZCM:Tabs:=JT (JT (ZW) 44 ZFM) 43 ZCJ
theorem ZSB:SsOk Tryz.prog ZCM:=Ye (Ye (ZG) ZO6 ZWB) ZK4 ZPZ
theorem ZP8 (a:List D):ZCM.q 44 a=none:=rfl
theorem ZQO (a:List D) (o:List Ob):ZCM.t 44 a o=YW ZFM a o:=rfl
theorem ZPX (a:List D):ZCM.q 43 a=none:=rfl
theorem ZPl (a:List D) (o:List Ob):ZCM.t 43 a o=YW ZCJ a o:=rfl
theorem ZUY (f:FuncId) (a:List D) (o:List Ob):ZCM.r f a o=none:=rfl
theorem ZV4 (f:FuncId) (a:List D) (o:List Ob):ZCM.k f a o=none:=rfl
theorem ZXh (L:List (Tx×Zb)):(Kj L).map ZGM=L.map (·.1):=by
 unfold Kj YU;rw[List.map_map];rfl
theorem ZbV {L:List (Tx×Zb)} (h: ∀p∈L,p.1.length≤1000000):(Kj L).all ZM6=true:=by
 rw[List.all_eq_true];intro q hq;obtain⟨p,hp,rfl⟩:=List.mem_map.1 hq;exact ZM (h p hp)
theorem ZRh (L:List (Tx×Zb)) (M:List (Tx×Zk)) (hl:L.length≤1000000) (h: ∀p∈L,p.1.length≤1000000):ZV Tryz.prog 19 [.ptr 0 0] (QG L M) (.x (.sl (rows ZI (ZA8 (L.map (·.1)))))) (QG L M):=by
 have hO:=QZ L M;have hk:=ZXh L;have hok:=ZbV h;have hlen:(Kj L).length=L.length:=ZGR _ _ _;have hd:=ZM hl;refine ZN.mcallsX (ZO (fz:=true) ZH (p:=i19) rfl _ (ξ rfl) _ (fun C0 E0=> ?_)) (by first|decide|(simp;done)) hO (by first|rfl|exact hR);dsimp only[i19,qt,qi,qs,qb,qm,qa,qh,qj,qT,qF,qe,ql,qL,qf,q2,q3,q8,qz,qp,qP,qc,qk,qx,qy,qo,qr,qC,ZQ];have uu:=ZA @ZFM.eq_1 (ZA @ZFM.eq_2 (ZA @ZCJ.eq_1 (ZA @ZCJ.eq_2 (ZA hk (ZA hok (ZA hlen (ZA hd (ZA @ZAA (ZA @ZAE (ZA @ZBE (ZA @ZBG (ZA @Km (ZA @Ks (ZA @KX (ZA @Qq (ZA @KM (ZA @ZUY (ZA @ZV4 (ZA @ZPX (ZA @ZP8 (ZA @ZQO (@ZPl))))))))))))))))))))));have tT:=ZSB;refine nz ?_;refine rg tT [0] ?_;refine rg tT [0,4] ?_;refine ce (fun h0=> ?_) (fun h0=> ?_)
 ·simp at h0
 ·refine rg tT [2] ?_;refine lf ?_;exact⟨rfl,_,rfl⟩
open Go.RowKit Go.Bo Go.Ab Go.Shelf
def ZQq:Ren:=⟨fun|4=>82|n=>n,fun|22=>38|25=>9|n=>n,fun n=>n⟩
theorem ZJF:Go.Proofs.Lays8.n4 Tryz.prog ZQq where
 mixed:=by kernel_rfl
 f4:=⟨"slices.Grow[[]string,string]",by decide,by kernel_rfl⟩
 t0:=by kernel_rfl
 a0:=fun w=>by kernel_rfl
 z0:=fun w=>by kernel_rfl
 v0:=fun w=>by kernel_rfl
 t3:=by kernel_rfl
 a3:=fun w=>by kernel_rfl
 z3:=fun w=>by kernel_rfl
 v3:=fun w=>by kernel_rfl
 t4:=by kernel_rfl
 a4:=fun w=>by kernel_rfl
 z4:=fun w=>by kernel_rfl
 v4:=fun w=>by kernel_rfl
 t9:=by kernel_rfl
 a9:=fun w=>by kernel_rfl
 z9:=fun w=>by kernel_rfl
 v9:=fun w=>by kernel_rfl
 t20:=by kernel_rfl
 a20:=fun w=>by kernel_rfl
 z20:=fun w=>by kernel_rfl
 v20:=fun w=>by kernel_rfl
 t22:=by kernel_rfl
 a22:=fun w=>by kernel_rfl
 z22:=fun w=>by kernel_rfl
 v22:=fun w=>by kernel_rfl
theorem ZP3:Go.Ab.Enters Tryz.prog 82:=ZJF.f4.enters rfl
theorem Zdk (n:Nat) (hn:n≤1000000):ZV Tryz.prog 82 [.x .nils,.x (.int .i64 n)] [] (.ref 0 0 0 0) [.rows false 9 1 []]:=by
 intro c E vs R hvl;obtain⟨hsz,hv⟩:=hvl;obtain⟨v0,v1,rfl⟩: ∃v0 v1,vs= #[v0,v1]:=by
  obtain⟨vl⟩:=vs
  match vl,hsz with
  | [a,b],_=>exact⟨a,b,rfl⟩
 have h0:=hv 0 _ v0 rfl rfl;have h1:=hv 1 _ v1 rfl rfl;cases h0 with
 |x h0=>
 cases h1 with
 |x h1=>
 cases h1 with
 |int _ _=>
 cases h0 with
 |nils=>
 by_cases hz:n=0
 ·subst hz;refine(Go.Proofs.Any8.slices_Grow_room ZJF none 0 0 0 E.w (Nat.le_refl _) (by omega) (by omega) (Nat.le_refl _)).mono ?_;rintro e w' ⟨rfl,rfl⟩;obtain⟨E',h1,h2,h3,h4⟩:=QT R (fz:=false) (e:=9) (sz:=1) (rs:= []) (cu:= .slice none 0 0) (xs:= []) (Kept.refl _ _) ⟨rfl,.inl ⟨rfl,rfl⟩⟩ (fun b hb=>by simp[Value.ownBlock]at hb) (fun r hr=>by cases hr) (fun i r j x v h=>by simp at h);exact⟨_,E',rfl,h1,h2,h3,h4⟩
 ·have hi:(Tryz.prog.info? 9).map (fun i=>(i.zero,i.size,i.bytes))=some (some (.string ByteArray.empty),1,16):=by kernel_rfl
  obtain⟨i0,hi0,hi1⟩:=Zh hi;simp only[Ze]at hi1;obtain⟨hz0,hs0,hb0⟩:=hi1;refine(Go.Proofs.Any8.slices_Grow_grow ZJF i0 (.string ByteArray.empty) hi0 hz0 (by omega) none 0 0 n [] E.w (Nat.le_refl _) (by omega) (by rw[hb0];omega) (by omega) (by simp) (fun _=>rfl) (fun a h=>by cases h)).mono ?_;rintro e w' ⟨rfl,rfl⟩;have hG:=grownCap_le_maxLen E.w (0+n) 0 9 (by unfold maxLen;omega);have hGn:0+n≤grownCap E.w (0+n) 0 9:=grownCap_ge E.w _ _ _;have hgr:ZQq.t 25=9:=rfl;rw[hgr];generalize grownCap E.w (0+n) 0 9=G at hG hGn⊢;have hcs:(([]:List Value).toArray++Builtin.zeroCells (Value.string ByteArray.empty).cells (0+n-0)++Builtin.zeroCells (Value.string ByteArray.empty).cells (G-(0+n))).size=G*1:=by
   simp[Builtin.zeroCells,Value.cells]<;>omega
  obtain⟨E',h1,h2,h3,h4⟩:=QT R (fz:=false) (e:=9) (sz:=1) (rs:= []) (cu:= .slice (some ⟨E.w.heap.size,0,none⟩) 0 G) (xs:= [])
   (Kept.of_none (((KO.refl E.w).dr.al (.cells (([]:List Value).toArray++Builtin.zeroCells (Value.string ByteArray.empty).cells (0+n-0)++Builtin.zeroCells (Value.string ByteArray.empty).cells (G-(0+n))) 9)).grown none))
   ⟨rfl,.inr ⟨E.w.heap.size,G,_,(0,0),rfl,heap_alloc_new _ _,Nat.zero_le _,hG,hcs,by simp,.inl rfl⟩⟩ (fun b hb=>by simp[Value.ownBlock]at hb;omega) (fun r hr=>by cases hr) (fun i r j x v h=>by simp at h)
  exact⟨_,E',rfl,h1,h2,h3,h4⟩
def ZIU:List D→List Ob→Option (Bool×D×List Ob)
 | [.x .nils,.x (.int .i64 n)],[]=>some (decide (0≤n∧n.toNat≤1000000),.ref 0 0 0 0,[.rows false 9 1 []])
 |_,_=>none
theorem ZXp: ∀args os r os',ZIU args os=some (true,r,os')→ZV Tryz.prog 82 args os r os':=by
 intro args os r os' h;unfold ZIU at h;split at h
 ·rename_i n;simp only[Zg,Ze,Zi]at h;obtain⟨⟨h1,h2⟩,rfl,rfl⟩:=h;have:=Zdk n.toNat h2;rwa [Int.toNat_of_nonneg h1]at this
 ·cases h
def ZFW:Tabs:=JT (ZW) 82 ZIU
theorem ZTe:SsOk Tryz.prog ZFW:=Ye (ZG) ZP3 ZXp
theorem ZPn (a:List D):ZFW.q 82 a=none:=rfl
theorem ZP0 (a:List D) (o:List Ob):ZFW.t 82 a o=YW ZIU a o:=rfl
theorem ZVg (f:FuncId) (a:List D) (o:List Ob):ZFW.r f a o=none:=rfl
theorem ZVD (f:FuncId) (a:List D) (o:List Ob):ZFW.k f a o=none:=rfl
theorem ZZh (a b:List (List UInt8)) (ha:a.length≤100000) (hb:b.length≤100000):ZD Tryz.prog 47 [.x (.sl [[.sl (rows ZI a)],[.sl (rows ZI b)]])] (.x (.sl (rows ZI (a++b)))):=by
 refine ZN.pure (ZO (fz:=true) ZH (p:=i47) rfl _ (ξ rfl) _ (fun C0 E0=> ?_)) rfl;dsimp only[i47,qt,qi,qs,qb,qm,qa,qh,qj,qT,qF,qe,ql,qL,qf,q2,q3,q8,qz,qp,qP,qc,qk,qx,qy,qo,qr,qC,ZQ];have uu:=ZA @ZIU.eq_1 (ZA @ZIU.eq_2 (ZA @ZVg (ZA @ZVD (ZA @ZPn (@ZP0)))));have tT:=ZTe;refine nz ?_;refine rg tT [0] ?_;refine rg tT [0,3] ?_;refine rg tT [0,3,9,10,11] ?_;refine WI.loopN 3 ?_;refine WI.round ?_;refine nz ?_;refine rg tT [0,3,9,10,11,12] ?_;refine ct (fun h0=> ?_) (fun h0=> ?_)
 ·refine rg tT [0,3,5,9,10,11] ?_;refine rg tT [0,3,9,10,11] ?_;refine rg tT [0,3,9,10,11,20] ?_;refine ce (fun h1=> ?_) (fun h1=> ?_)
  ·first|omega|(simp at h1;done)|(simp at h1;omega)
  ·refine rg tT [0,3,9,10,11] ?_;refine WI.round ?_;refine nz ?_;refine rg tT [0,3,9,10,11,12] ?_;refine ct (fun h0=> ?_) (fun h0=> ?_)
   ·refine rg tT [0,3,5,9,10,11] ?_;refine rg tT [0,3,9,10,11] ?_;refine rg tT [0,3,9,10,11,20] ?_;refine ce (fun h1=> ?_) (fun h1=> ?_)
    ·first|omega|(simp at h1;done)|(simp at h1;omega)
    ·refine rg tT [0,3,9,10,11] ?_;refine WI.round ?_;refine nz ?_;refine rg tT [0,3,9,10,11,12] ?_;refine ce (fun h0=> ?_) (fun h0=> ?_)
     ·exact absurd h0 (by decide)
     ·refine rg tT [0,6] ?_;refine rg tT [6,25,26,27] ?_;refine WI.loopN 3 ?_;refine WI.round ?_;refine nz ?_;refine rg tT [6,25,26,27,28] ?_;refine ct (fun h2=> ?_) (fun h2=> ?_)
      ·refine rg tT [6,8,25,26,27] ?_;refine rg tT [6,25,26,27] ?_;refine rg tT [6,25,26,27] ?_;refine WI.round ?_;refine nz ?_;refine rg tT [6,25,26,27,28] ?_;refine ct (fun h2=> ?_) (fun h2=> ?_)
       ·refine rg tT [6,8,25,26,27] ?_;refine rg tT [6,25,26,27] ?_;refine rg tT [6,25,26,27] ?_;refine WI.round ?_;refine nz ?_;refine rg tT [6,25,26,27,28] ?_;refine ce (fun h2=> ?_) (fun h2=> ?_)
        ·exact absurd h2 (by decide)
        ·refine rg tT [2] ?_;refine lf ?_;rw[YL (by simp)]
       ·exact absurd h2 (by decide)
      ·exact absurd h2 (by decide)
   ·exact absurd h0 (by decide)
 ·exact absurd h0 (by decide)
theorem QN (l:List Tx) (x:Tx):rows ZI (l++ [x])=rows ZI l++ [[X.str x]]:=by simp[rows,ZI]
theorem ZCm (l:List Zb) (j:Nat) (h:j<l.length):(rows Zn l)[j]? =some [X.str (l.getD j ([],0,false,())).1,X.int .i64 (l.getD j ([],0,false,())).2.1,X.bool (l.getD j ([],0,false,())).2.2.1]:=by
 simp[rows,h,Zn,YZ,ZI,Qu,ZDP,Kw]
theorem ZFm (l:List Zk) (j:Nat) (h:j<l.length):(rows Zu l)[j]? =some [X.str (l.getD j ([],[],[],())).1,X.sl (rows ZI (l.getD j ([],[],[],())).2.1),X.sl (rows ZI (l.getD j ([],[],[],())).2.2.1)]:=by
 simp[rows,h,Zu,YZ,ZI,Qi,Kw]
theorem ZdW (n:Tx) (k:Int) (b:Bool):ZD Tryz.prog 77 [.agg [.x (.str n),.x (.int .i64 k),.x (.bool b)]] (.x (.str n)):=by
 refine ZN.pure (ZO (fz:=true) ZH (p:=i77) rfl _ (ξ rfl) _ (fun C0 E0=> ?_)) rfl;dsimp only[i77,qt,qi,qs,qb,qm,qa,qh,qj,qT,qF,qe,ql,qL,qf,q2,q3,q8,qz,qp,qP,qc,qk,qx,qy,qo,qr,qC,ZQ];have uu:=trivial;have tT:=(ZG:SsOk Tryz.prog ZW);refine nz ?_;refine rg tT [1] ?_;refine rg tT [2] ?_;refine lf ?_
 first|rfl|exact⟨rfl,rfl⟩|trivial
theorem ZeV (n:Tx) (R R':List (List X)):ZD Tryz.prog 80 [.agg [.x (.str n),.x (.sl R),.x (.sl R')]] (.x (.str n)):=by
 refine ZN.pure (ZO (fz:=true) ZH (p:=i80) rfl _ (ξ rfl) _ (fun C0 E0=> ?_)) rfl;dsimp only[i80,qt,qi,qs,qb,qm,qa,qh,qj,qT,qF,qe,ql,qL,qf,q2,q3,q8,qz,qp,qP,qc,qk,qx,qy,qo,qr,qC,ZQ];have uu:=trivial;have tT:=(ZG:SsOk Tryz.prog ZW);refine nz ?_;refine rg tT [1] ?_;refine rg tT [2] ?_;refine lf ?_
 first|rfl|exact⟨rfl,rfl⟩|trivial
theorem ZdE:ZD Tryz.prog 81 [] (.x (.int .i64 0)):=by
 refine ZN.pure (ZO (fz:=true) ZH (p:=i81) rfl _ (ξ rfl) _ (fun C0 E0=> ?_)) rfl;dsimp only[i81,qt,qi,qs,qb,qm,qa,qh,qj,qT,qF,qe,ql,qL,qf,q2,q3,q8,qz,qp,qP,qc,qk,qx,qy,qo,qr,qC,ZQ];have uu:=trivial;have tT:=(ZG:SsOk Tryz.prog ZW);refine nz ?_;refine rg tT [] ?_;refine rg tT [0] ?_;refine lf ?_
 first|rfl|exact⟨rfl,rfl⟩|trivial
def ZCU:List D→Option (Bool×D)
 | [.agg [.x (.str n),.x (.int .i64 k),.x (.bool b)]]=>some (true,.x (.str n))
 |_=>none
theorem ZYk: ∀args r,ZCU args=some (true,r)→ZD Tryz.prog 77 args r:=by
 intro args r h;unfold ZCU at h;split at h
 ·rename_i n k b;simp only[Zg,Ze,ZY,Zi,true_and]at h;obtain rfl:=h;exact(ZdW n k b)
 ·cases h
def ZCR:List D→Option (Bool×D)
 | [.agg [.x (.str n),.x (.sl R),.x (.sl T)]]=>some (true,.x (.str n))
 |_=>none
theorem ZYL: ∀args r,ZCR args=some (true,r)→ZD Tryz.prog 80 args r:=by
 intro args r h;unfold ZCR at h;split at h
 ·rename_i n R T;simp only[Zg,Ze,ZY,Zi,true_and]at h;obtain rfl:=h;exact(ZeV n R T)
 ·cases h
def ZDj:Tabs:=Za (Za (Za (ZW) 37 YI) 77 ZCU) 80 ZCR
theorem ZF8:SsOk Tryz.prog ZDj:=ZL (ZL (ZL (ZG) (ZC ZH (p:=i37) rfl) ZAy) (ZC ZH (p:=i77) rfl) ZYk) (ZC ZH (p:=i80) rfl) ZYL
theorem ZEy (a:List D):ZDj.q 37 a=YI a:=rfl
theorem ZE6 (a:List D):ZDj.q 77 a=ZCU a:=rfl
theorem ZFF (a:List D):ZDj.q 80 a=ZCR a:=rfl
theorem ZHb (f:FuncId) (a:List D) (o:List Ob):ZDj.r f a o=none:=rfl
theorem ZH3 (f:FuncId) (a:List D) (o:List Ob):ZDj.k f a o=none:=rfl
theorem ZbM (l:List Tx) (hl:l.length≤100000) (hn: ∀x∈l,x.length≤140737488355328):ZD Tryz.prog 46 [.x (.sl (rows ZI l)),.fn 37 []] (.x (.sl (rows ZI (l.map ZB)))):=by
 refine ZN.pure (ZO (fz:=true) ZH (p:=i46) rfl _ (ξ rfl) _ (fun C0 E0=> ?_)) rfl;dsimp only[i46,qt,qi,qs,qb,qm,qa,qh,qj,qT,qF,qe,ql,qL,qf,q2,q3,q8,qz,qp,qP,qc,qk,qx,qy,qo,qr,qC,ZQ];have uu:=ZA @YI.eq_1 (ZA @YI.eq_2 (ZA @ZHb (ZA @ZH3 (ZA @ZEy (ZA @ZE6 (ZA @ZFF (ZA @ZCU.eq_1 (ZA @ZCU.eq_2 (ZA @ZCR.eq_1 (@ZCR.eq_2))))))))));have tT:=ZF8;refine nz ?_;refine rg tT [0,1] ?_;refine rg tT [0,1,5] ?_;refine rg tT [1,5,8,9,10] ?_;refine WI.ownA 5 9 1 ?_;refine WI.loop (fun φ os=> ∃(j:Nat),φ= [(1,.fn 37 []),(5,.ref 0 ((l.take j).map ZB).length 0 ((l.take j).map ZB).length),(8,.x (.sl (rows ZI l))),(9,.x (.int .i64 l.length)),(10,.x (.int .i64 j))]∧os= [.rows false 9 1 (rows ZI ((l.take j).map ZB))]∧j≤l.length) (ZK l.length 10) ?_ (fun φ os hI=> ?_)
 ·exact⟨0,rfl,rfl,by omega⟩
 ·obtain⟨j,rfl,rfl,hj⟩:=hI;refine nz ?_;refine rg tT [1,5,8,9,10,11] ?_;refine cd (fun h0=> ?_) (fun h0=> ?_)
  ·have hj4:j<l.length:=by omega
   have hrw:=Yg l j hj4;have htk:(l.take (j+1)).map ZB=(l.take j).map ZB++ [ZB (l.getD j [])]:=by rw[List.take_succ_eq_append_getElem hj4,List.map_append];simp[hj4]
   have hd:=ZM (hn (l.getD j []) (by rw[show l.getD j []=l[j] by simp[hj4]];exact List.getElem_mem hj4));have hlen:((l.take j).map ZB).length=j:=by rw[List.length_map,List.length_take];omega
   have hlen2:((l.take j).map ZB).length≤100000:=by rw[hlen];omega
   generalize l.getD j []=x at hrw htk hd;have uu:=ZA uu (ZA hrw hd);refine rg tT [1,5,7,8,9,10] ?_;refine rg tT [1,5,8,9,10] ?_;refine WI.pickA [0] ?_;refine rg tT [1,5,8,9,10] ?_;exact⟨⟨j+1,by rw[htk,Zr];rfl,by rw[htk,QN],by omega⟩,by simp[ZK,Ab.get,D.val,ZE];omega⟩
  ·obtain rfl:j=l.length:=by omega
   rw[List.take_length];refine rg tT [4] ?_;refine WI.freezeA [0] ?_;refine WI.pickA [] ?_;refine lf ?_
   first|rfl|exact⟨rfl,rfl⟩|trivial
theorem Zcn (l:List Zb) (hl:l.length≤100000):ZD Tryz.prog 76 [.x (.sl (rows Zn l)),.fn 77 []] (.x (.sl (rows ZI (l.map (·.1))))):=by
 refine ZN.pure (ZO (fz:=true) ZH (p:=i76) rfl _ (ξ rfl) _ (fun C0 E0=> ?_)) rfl;dsimp only[i76,qt,qi,qs,qb,qm,qa,qh,qj,qT,qF,qe,ql,qL,qf,q2,q3,q8,qz,qp,qP,qc,qk,qx,qy,qo,qr,qC,ZQ];have uu:=ZA @ZCU.eq_1 (ZA @ZCU.eq_2 (ZA @ZHb (ZA @ZH3 (ZA @ZEy (ZA @ZE6 (ZA @ZFF (ZA @ZCR.eq_1 (ZA @ZCR.eq_2 (ZA @YI.eq_1 (@YI.eq_2))))))))));have tT:=ZF8;refine nz ?_;refine rg tT [0,1] ?_;refine rg tT [0,1,5] ?_;refine rg tT [1,5,8,9,10] ?_;refine WI.ownA 5 9 1 ?_;refine WI.loop (fun φ os=> ∃(j:Nat),φ= [(1,.fn 77 []),(5,.ref 0 ((l.take j).map (·.1)).length 0 ((l.take j).map (·.1)).length),(8,.x (.sl (rows Zn l))),(9,.x (.int .i64 l.length)),(10,.x (.int .i64 j))]∧os= [.rows false 9 1 (rows ZI ((l.take j).map (·.1)))]∧j≤l.length) (ZK l.length 10) ?_ (fun φ os hI=> ?_)
 ·exact⟨0,rfl,rfl,by omega⟩
 ·obtain⟨j,rfl,rfl,hj⟩:=hI;refine nz ?_;refine rg tT [1,5,8,9,10,11] ?_;refine cd (fun h0=> ?_) (fun h0=> ?_)
  ·have hj4:j<l.length:=by omega
   have hrw:=ZCm l j hj4;have htk:(l.take (j+1)).map (·.1)=(l.take j).map (·.1)++ [(l.getD j ([],0,false,())).1]:=by rw[List.take_succ_eq_append_getElem hj4,List.map_append];simp[hj4]
   have hlen:((l.take j).map (·.1)).length=j:=by rw[List.length_map,List.length_take];omega
   have hlen2:((l.take j).map (·.1)).length≤100000:=by rw[hlen];omega
   generalize l.getD j ([],0,false,())=x at hrw htk;have uu:=ZA uu hrw;refine rg tT [1,5,7,8,9,10] ?_;refine rg tT [1,5,8,9,10] ?_;refine WI.pickA [0] ?_;refine rg tT [1,5,8,9,10] ?_;exact⟨⟨j+1,by rw[htk,Zr];rfl,by rw[htk,QN],by omega⟩,by simp[ZK,Ab.get,D.val,ZE];omega⟩
  ·obtain rfl:j=l.length:=by omega
   rw[List.take_length];refine rg tT [4] ?_;refine WI.freezeA [0] ?_;refine WI.pickA [] ?_;refine lf ?_
   first|rfl|exact⟨rfl,rfl⟩|trivial
theorem Zbh (l:List Zk) (hl:l.length≤100000):ZD Tryz.prog 79 [.x (.sl (rows Zu l)),.fn 80 []] (.x (.sl (rows ZI (l.map (·.1))))):=by
 refine ZN.pure (ZO (fz:=true) ZH (p:=i79) rfl _ (ξ rfl) _ (fun C0 E0=> ?_)) rfl;dsimp only[i79,qt,qi,qs,qb,qm,qa,qh,qj,qT,qF,qe,ql,qL,qf,q2,q3,q8,qz,qp,qP,qc,qk,qx,qy,qo,qr,qC,ZQ];have uu:=ZA @ZCR.eq_1 (ZA @ZCR.eq_2 (ZA @ZHb (ZA @ZH3 (ZA @ZEy (ZA @ZE6 (ZA @ZFF (ZA @ZCU.eq_1 (ZA @ZCU.eq_2 (ZA @YI.eq_1 (@YI.eq_2))))))))));have tT:=ZF8;refine nz ?_;refine rg tT [0,1] ?_;refine rg tT [0,1,5] ?_;refine rg tT [1,5,8,9,10] ?_;refine WI.ownA 5 9 1 ?_;refine WI.loop (fun φ os=> ∃(j:Nat),φ= [(1,.fn 80 []),(5,.ref 0 ((l.take j).map (·.1)).length 0 ((l.take j).map (·.1)).length),(8,.x (.sl (rows Zu l))),(9,.x (.int .i64 l.length)),(10,.x (.int .i64 j))]∧os= [.rows false 9 1 (rows ZI ((l.take j).map (·.1)))]∧j≤l.length) (ZK l.length 10) ?_ (fun φ os hI=> ?_)
 ·exact⟨0,rfl,rfl,by omega⟩
 ·obtain⟨j,rfl,rfl,hj⟩:=hI;refine nz ?_;refine rg tT [1,5,8,9,10,11] ?_;refine cd (fun h0=> ?_) (fun h0=> ?_)
  ·have hj4:j<l.length:=by omega
   have hrw:=ZFm l j hj4;have htk:(l.take (j+1)).map (·.1)=(l.take j).map (·.1)++ [(l.getD j ([],[],[],())).1]:=by rw[List.take_succ_eq_append_getElem hj4,List.map_append];simp[hj4]
   have hlen:((l.take j).map (·.1)).length=j:=by rw[List.length_map,List.length_take];omega
   have hlen2:((l.take j).map (·.1)).length≤100000:=by rw[hlen];omega
   generalize l.getD j ([],[],[],())=x at hrw htk;have uu:=ZA uu hrw;refine rg tT [1,5,7,8,9,10] ?_;refine rg tT [1,5,8,9,10] ?_;refine WI.pickA [0] ?_;refine rg tT [1,5,8,9,10] ?_;exact⟨⟨j+1,by rw[htk,Zr];rfl,by rw[htk,QN],by omega⟩,by simp[ZK,Ab.get,D.val,ZE];omega⟩
  ·obtain rfl:j=l.length:=by omega
   rw[List.take_length];refine rg tT [4] ?_;refine WI.freezeA [0] ?_;refine WI.pickA [] ?_;refine lf ?_
   first|rfl|exact⟨rfl,rfl⟩|trivial
def ZC2 (T:List Zb):Int:=if T.all (fun t=>decide (1≤t.2.1∧t.2.1≤5))=true then 0 else 1
def Jm (l:List Tx) (b:Int):Int:=if l.all YO=true then(if b≠0 then b else if decide (l.map ZB).Nodup=true then 0 else 9)else 13
theorem Zea (T:List Zb) (hT:T.length≤100000):ZV Tryz.prog 78 [.ptr 0 0] [.box [.x (.sl (rows Zn T))]] (.x (.int .i64 (ZC2 T))) [.box [.x (.sl (rows Zn T))]]:=by
 have hO: [Ob.box [.x (.sl (rows Zn T))]].all (Ob.inP (fun i=>decide (i< [Ob.box [.x (.sl (rows Zn T))]].length)))=true:=rfl;refine ZN.mcallsX (ZO (fz:=true) ZH (p:=i78) rfl _ (ξ rfl) _ (fun C0 E0=> ?_)) (by first|decide|(simp;done)) hO (by first|rfl|exact hR);dsimp only[i78,qt,qi,qs,qb,qm,qa,qh,qj,qT,qF,qe,ql,qL,qf,q2,q3,q8,qz,qp,qP,qc,qk,qx,qy,qo,qr,qC,ZQ];have uu:=trivial;have tT:=(ZG:SsOk Tryz.prog ZW);refine nz ?_;refine rg tT [0] ?_;refine rg tT [4,5,6] ?_;refine WI.orderA [4,5,6] ?_;refine WI.loop (fun φ os=> ∃(j:Nat),φ= [(4,.x (.sl (rows Zn T))),(5,.x (.int .i64 T.length)),(6,.x (.int .i64 j))]∧os= [.box [.x (.sl (rows Zn T))]]∧j≤T.length∧(T.take j).all (fun t=>decide (1≤t.2.1∧t.2.1≤5))=true) (ZK T.length 6) ?_ (fun φ os hI=> ?_)
 ·exact⟨0,rfl,rfl,by omega,rfl⟩
 ·obtain⟨j,rfl,rfl,hj,hall⟩:=hI;refine nz ?_;refine rg tT [4,5,6,7] ?_;refine cd (fun h0=> ?_) (fun h0=> ?_)
  ·have hj4:j<T.length:=by omega
   have hrw:=ZCm T j hj4;have hgj:T[j]=T.getD j ([],0,false,()):=by simp[hj4]
   have hal:=Zx (fun t:Zb=>decide (1≤t.2.1∧t.2.1≤5)) T j hj4;have hno:decide (1≤(T.getD j ([],0,false,())).2.1∧(T.getD j ([],0,false,())).2.1≤5)=false→T.all (fun t=>decide (1≤t.2.1∧t.2.1≤5))=false:=fun h=>ZZ (fun t:Zb=>decide (1≤t.2.1∧t.2.1≤5)) T j hj4 (by rw[hgj];exact h)
   rw[hgj]at hal;generalize T.getD j ([],0,false,())=x at hrw hal hno;have uu:=ZA uu hrw;refine rg tT [3,4,5,6] ?_;refine rg tT [4,5,6,17] ?_;refine cd (fun h1=> ?_) (fun h1=> ?_)
   ·have hno2:=hno (decide_eq_false (by clear uu;grind));refine rg tT [1] ?_;refine lf ?_;exact⟨by unfold ZC2;rw[hno2];rfl,_,rfl⟩
   ·have hall2:(T.take (j+1)).all (fun t=>decide (1≤t.2.1∧t.2.1≤5))=true:=by rw[hal,hall,ZM (show 1≤x.2.1∧x.2.1≤5 by clear uu;grind)];rfl
    refine WI.pickA [0] ?_;refine rg tT [4,5,6] ?_;exact⟨⟨j+1,rfl,rfl,by omega,hall2⟩,by simp[ZK,Ab.get,D.val,ZE];omega⟩
  ·refine rg tT [1] ?_;refine lf ?_;exact⟨by unfold ZC2;rw[YL (by omega)]at hall;rw[hall];rfl,_,rfl⟩
def ZEt:List D→List Ob→Option (Bool×D×List Ob)
 | [.ptr 0 0],[.box [.x (.sl R)]]=>(Zd Zn R).bind fun T=>some (decide (T.length≤100000),.x (.int .i64 (ZC2 T)),[.box [.x (.sl (rows Zn T))]])
 |_,_=>none
theorem ZYV: ∀args os r os',ZEt args os=some (true,r,os')→ZV Tryz.prog 78 args os r os':=by
 intro args os r os' h;unfold ZEt at h;split at h
 ·rename_i R;obtain⟨T,hr0,h⟩:=Zp h;simp only[Zg,Ze,ZY,Zi,true_and]at h;obtain⟨h1,rfl,rfl⟩:=h;rw[←ZR YG hr0];exact Zea T h1
 ·cases h
theorem ZEe (T:List Zb):Zd Zn (rows Zn T)=some T:=JG YG T
def ZEq:List D→Option (Bool×D)
 | []=>some (true,.x (.int .i64 0))
 |_=>none
theorem ZXm: ∀args r,ZEq args=some (true,r)→ZD Tryz.prog 81 args r:=by
 intro args r h;unfold ZEq at h;split at h
 ·simp only[Zg,Ze,ZY,Zi,true_and]at h;obtain rfl:=h;exact ZdE
 ·cases h
def ZCe:Tabs:=JT (Za (Za (Za (ZW) 37 YI) 114 ZBW) 81 ZEq) 78 ZEt
theorem ZMM:SsOk Tryz.prog ZCe:=Ye (ZL (ZL (ZL (ZG) (ZC ZH (p:=i37) rfl) ZAy) (ZC ZH (p:=ZSz) rfl) ZSV) (ZC ZH (p:=i81) rfl) ZXm) (ZC ZH (p:=i78) rfl) ZYV
theorem ZJ3 (a:List D):ZCe.q 37 a=YI a:=rfl
theorem ZIp (a:List D):ZCe.q 114 a=ZBW a:=rfl
theorem ZKl (a:List D):ZCe.q 81 a=ZEq a:=rfl
theorem ZKp (a:List D):ZCe.q 78 a=none:=rfl
theorem ZJo (a:List D) (o:List Ob):ZCe.t 78 a o=YW ZEt a o:=rfl
theorem ZOg (f:FuncId) (a:List D) (o:List Ob):ZCe.r f a o=none:=rfl
theorem ZPD (f:FuncId) (a:List D) (o:List Ob):ZCe.k f a o=none:=rfl
theorem ZIY {l:List Tx} {j:Nat} (h:j<l.length):(l.take (j+1)).map ZB=(l.take j).map ZB++ [ZB (l.getD j [])]:=by
 rw[List.take_succ_eq_append_getElem h,List.map_append];simp[h]
theorem ZWl {l:List Tx} {j:Nat} (h:j<l.length) (hin:ZB (l.getD j [])∈(l.take j).map ZB):decide (l.map ZB).Nodup=false:=by
 refine decide_eq_false fun hn=> ?_
 have e:l=l.take j++l.getD j []::l.drop (j+1):=by
  have:=List.take_append_drop j l;rw[List.drop_eq_getElem_cons h]at this;rw[show l.getD j []=l[j] by simp[h]];exact this.symm
 rw[e,List.map_append,List.map_cons]at hn;exact(List.nodup_append.1 hn).2.2 _ hin _ List.mem_cons_self rfl
theorem ZaI (T:List Zb) (hT:T.length≤100000) (l:List Tx) (hl:l.length≤100000) (hn: ∀x∈l,x.length≤1000000):ZV Tryz.prog 75 [.x (.sl (rows ZI l)),.fn 78 [.ptr 0 0]] [.box [.x (.sl (rows Zn T))]] (.x (.int .i64 (Jm l (ZC2 T)))) [.box [.x (.sl (rows Zn T))]]:=by
 obtain⟨B,hB⟩: ∃B,B=ZC2 T:=⟨_,rfl⟩;rw[←hB];have hno:l.all YO=false→Jm l B=13:=fun h=>by unfold Jm;rw[h];rfl
 have hbb:l.all YO=true→B≠0→Jm l B=B:=fun h h2=>by unfold Jm;rw[if_pos h,if_pos h2]
 have hdu:l.all YO=true→B=0→decide (l.map ZB).Nodup=false→Jm l B=9:=fun h h2 h3=>by unfold Jm;rw[if_pos h,if_neg (by simp[h2]),h3];rfl
 have hok:l.all YO=true→B=0→(l.map ZB).Nodup→Jm l B=0:=fun h h2 h3=>by unfold Jm;rw[if_pos h,if_neg (by simp[h2]),ZM h3];rfl
 have hO:=(rfl: [Ob.box [.x (.sl (rows Zn T))]].all (Ob.inP (fun i=>decide (i< [Ob.box [.x (.sl (rows Zn T))]].length)))=true);refine ZN.mcallsX (ZO (fz:=true) ZH (p:=i75) rfl _ (ξ rfl) _ (fun C0 E0=> ?_)) (by first|decide|(simp;done)) hO (by first|rfl|exact hR);dsimp only[i75,qt,qi,qs,qb,qm,qa,qh,qj,qT,qF,qe,ql,qL,qf,q2,q3,q8,qz,qp,qP,qc,qk,qx,qy,qo,qr,qC,ZQ];have uu:=ZA @YI.eq_1 (ZA @YI.eq_2 (ZA @ZBW.eq_1 (ZA @ZBW.eq_2 (ZA @ZEt.eq_1 (ZA @ZEt.eq_2 (ZA @ZEq.eq_1 (ZA @ZEq.eq_2 (ZA @ZEe (ZA @ZOg (ZA @ZPD (ZA @ZIp (ZA @ZJ3 (ZA @ZKp (ZA @ZKl (@ZJo)))))))))))))));have tT:=ZMM;refine nz ?_;refine rg tT [0,1] ?_;refine rg tT [0,1,11,12,13] ?_;refine WI.orderA [0,1,11,12,13] ?_;refine WI.loop (fun φ os=> ∃(j:Nat),φ= [(0,.x (.sl (rows ZI l))),(1,.fn 78 [.ptr 0 0]),(11,.x (.sl (rows ZI l))),(12,.x (.int .i64 l.length)),(13,.x (.int .i64 j))]∧os= [.box [.x (.sl (rows Zn T))]]∧j≤l.length∧(l.take j).all YO=true) (ZK l.length 13) ?_ (fun φ os hI=> ?_)
 ·exact⟨0,rfl,rfl,by omega,rfl⟩
 ·obtain⟨j,rfl,rfl,hj,hall⟩:=hI;refine nz ?_;refine rg tT [0,1,11,12,13,14] ?_;refine cd (fun h0=> ?_) (fun h0=> ?_)
  ·have hj4:j<l.length:=by omega
   have hrw:=Yg l j hj4;have hgj:l[j]=l.getD j []:=by simp[hj4]
   have hal:=Zx YO l j hj4;have hnt:YO (l.getD j [])=false→l.all YO=false:=fun h=>ZZ YO l j hj4 (by rw[hgj];exact h)
   have hd:=ZM (hn l[j] (List.getElem_mem hj4));rw[hgj]at hal hd;generalize l.getD j []=x at hrw hal hnt hd;have uu:=ZA uu (ZA hrw hd);refine rg tT [0,1,6,11,12,13] ?_;refine rg tT [0,1,11,12,13,19] ?_;refine cd (fun h1=> ?_) (fun h1=> ?_)
   ·have hxf:YO x=false:=by clear uu;grind
    refine rg tT [4] ?_;refine lf ?_;exact⟨by rw[hno (hnt hxf)],_,rfl⟩
   ·have hxt:YO x=true:=by clear uu;grind
    have hall2:(l.take (j+1)).all YO=true:=by rw[hal,hall,hxt];rfl
    refine rg tT [0,1,11,12,13] ?_;exact⟨⟨j+1,rfl,rfl,by omega,hall2⟩,by simp[ZK,Ab.get,D.val,ZE];omega⟩
  ·obtain rfl:j=l.length:=by omega
   rw[List.take_length]at hall;refine rg tT [0,7] ?_;refine rg tT [0,7,24] ?_;refine cd (fun h2=> ?_) (fun h2=> ?_)
   ·have hB0: ¬B=0:=by clear uu;subst hB;grind
    refine rg tT [4] ?_;refine lf ?_;exact⟨by rw[hbb hall hB0,hB],_,rfl⟩
   ·have hB0:B=0:=by clear uu;subst hB;grind
    refine rg tT [0,8] ?_;refine rg tT [8,27,28,29] ?_;refine WI.orderA [8,27,28,29] ?_;refine WI.loop (fun φ os=> ∃(j:Nat),φ= [(8,.mref 1),(27,.x (.sl (rows ZI l))),(28,.x (.int .i64 l.length)),(29,.x (.int .i64 j))]∧os= [.box [.x (.sl (rows Zn T))],.mpo .str false (snM ((l.take j).map ZB))]∧j≤l.length∧((l.take j).map ZB).Nodup) (ZK l.length 29) ?_ (fun φ os hI=> ?_)
    ·exact⟨0,rfl,rfl,by omega,by simp⟩
    ·obtain⟨j,rfl,rfl,hj,hnd⟩:=hI;refine nz ?_;refine rg tT [8,27,28,29,30] ?_;refine cd (fun h3=> ?_) (fun h3=> ?_)
     ·have hj4:j<l.length:=by omega
      have hrw:=Yg l j hj4;have hd:=ZM (show(l.getD j []).length≤140737488355328 by rw[show l.getD j []=l[j] by simp[hj4]];have:=hn _ (List.getElem_mem hj4);omega);have uu:=ZA uu (ZA hrw hd);refine rg tT [8,10,27,28,29] ?_;by_cases hin:ZB (l.getD j [])∈(l.take j).map ZB
      ·have hg1:=ZB0 hin;have hcp:=List.count_pos_iff.2 hin;have uu:=ZA uu hg1;refine rg tT [8,10,27,28,29,37] ?_;refine ct (fun h4=> ?_) (fun h4=> ?_)
       ·refine rg tT [4] ?_;refine lf ?_;exact⟨by rw[hdu hall hB0 (ZWl hj4 hin)],_,rfl⟩
       ·first|exact h4 (Int.natCast_pos.2 hcp)|exact(of_decide_eq_false h4) (Int.natCast_pos.2 hcp)|(simp at h4;exact absurd hcp (by omega))
      ·have hg1:=ZEC hin;have hg2:=ZF1 hin;have uu:=ZA uu (ZA hg1 hg2);refine rg tT [8,10,27,28,29,37] ?_;refine ce (fun h4=> ?_) (fun h4=> ?_)
       ·simp at h4
       ·refine rg tT [8,27,28,29] ?_;have hnd2:((l.take (j+1)).map ZB).Nodup:=by
         rw[ZIY hj4,List.nodup_append];exact⟨hnd,by simp,fun a ha b hb=>by simp only[List.mem_singleton]at hb;subst hb;rintro rfl;exact hin ha⟩
        refine rg tT [8,27,28,29] ?_;exact⟨⟨j+1,rfl,by rw[ZIY hj4],by omega,hnd2⟩,by simp[ZK,Ab.get,D.val,ZE];omega⟩
     ·refine rg tT [4] ?_;refine lf ?_;exact⟨by rw[YL (by omega)]at hnd;rw[hok hall hB0 hnd],_,rfl⟩
theorem ZYY (l:List Tx) (hl:l.length≤100000) (hn: ∀x∈l,x.length≤1000000):ZD Tryz.prog 75 [.x (.sl (rows ZI l)),.fn 81 []] (.x (.int .i64 (Jm l 0))):=by
 obtain⟨B,hB⟩: ∃B,B=(0:Int):=⟨_,rfl⟩;rw[←hB];have hno:l.all YO=false→Jm l B=13:=fun h=>by unfold Jm;rw[h];rfl
 have hbb:l.all YO=true→B≠0→Jm l B=B:=fun h h2=>by unfold Jm;rw[if_pos h,if_pos h2]
 have hdu:l.all YO=true→B=0→decide (l.map ZB).Nodup=false→Jm l B=9:=fun h h2 h3=>by unfold Jm;rw[if_pos h,if_neg (by simp[h2]),h3];rfl
 have hok:l.all YO=true→B=0→(l.map ZB).Nodup→Jm l B=0:=fun h h2 h3=>by unfold Jm;rw[if_pos h,if_neg (by simp[h2]),ZM h3];rfl
 refine ZN.pure (ZO (fz:=true) ZH (p:=i75) rfl _ (ξ rfl) _ (fun C0 E0=> ?_)) rfl;dsimp only[i75,qt,qi,qs,qb,qm,qa,qh,qj,qT,qF,qe,ql,qL,qf,q2,q3,q8,qz,qp,qP,qc,qk,qx,qy,qo,qr,qC,ZQ];have uu:=ZA @YI.eq_1 (ZA @YI.eq_2 (ZA @ZBW.eq_1 (ZA @ZBW.eq_2 (ZA @ZEt.eq_1 (ZA @ZEt.eq_2 (ZA @ZEq.eq_1 (ZA @ZEq.eq_2 (ZA @ZOg (ZA @ZPD (ZA @ZIp (ZA @ZJ3 (ZA @ZKp (ZA @ZKl (@ZJo))))))))))))));have tT:=ZMM;refine nz ?_;refine rg tT [0,1] ?_;refine rg tT [0,1,11,12,13] ?_;refine WI.orderA [0,1,11,12,13] ?_;refine WI.loop (fun φ os=> ∃(j:Nat),φ= [(0,.x (.sl (rows ZI l))),(1,.fn 81 []),(11,.x (.sl (rows ZI l))),(12,.x (.int .i64 l.length)),(13,.x (.int .i64 j))]∧os= []∧j≤l.length∧(l.take j).all YO=true) (ZK l.length 13) ?_ (fun φ os hI=> ?_)
 ·exact⟨0,rfl,rfl,by omega,rfl⟩
 ·obtain⟨j,rfl,rfl,hj,hall⟩:=hI;refine nz ?_;refine rg tT [0,1,11,12,13,14] ?_;refine cd (fun h0=> ?_) (fun h0=> ?_)
  ·have hj4:j<l.length:=by omega
   have hrw:=Yg l j hj4;have hgj:l[j]=l.getD j []:=by simp[hj4]
   have hal:=Zx YO l j hj4;have hnt:YO (l.getD j [])=false→l.all YO=false:=fun h=>ZZ YO l j hj4 (by rw[hgj];exact h)
   have hd:=ZM (hn l[j] (List.getElem_mem hj4));rw[hgj]at hal hd;generalize l.getD j []=x at hrw hal hnt hd;have uu:=ZA uu (ZA hrw hd);refine rg tT [0,1,6,11,12,13] ?_;refine rg tT [0,1,11,12,13,19] ?_;refine cd (fun h1=> ?_) (fun h1=> ?_)
   ·have hxf:YO x=false:=by clear uu;grind
    refine rg tT [4] ?_;refine lf ?_;rw[hno (hnt hxf)]
   ·have hxt:YO x=true:=by clear uu;grind
    have hall2:(l.take (j+1)).all YO=true:=by rw[hal,hall,hxt];rfl
    refine rg tT [0,1,11,12,13] ?_;exact⟨⟨j+1,rfl,rfl,by omega,hall2⟩,by simp[ZK,Ab.get,D.val,ZE];omega⟩
  ·obtain rfl:j=l.length:=by omega
   rw[List.take_length]at hall;refine rg tT [0,7] ?_;refine rg tT [0,7,24] ?_;refine cd (fun h2=> ?_) (fun h2=> ?_)
   ·have hB0: ¬B=0:=by clear uu;subst hB;grind
    refine rg tT [4] ?_;refine lf ?_;rw[hbb hall hB0,hB]
   ·have hB0:B=0:=by clear uu;subst hB;grind
    refine rg tT [0,8] ?_;refine rg tT [8,27,28,29] ?_;refine WI.orderA [8,27,28,29] ?_;refine WI.loop (fun φ os=> ∃(j:Nat),φ= [(8,.mref 0),(27,.x (.sl (rows ZI l))),(28,.x (.int .i64 l.length)),(29,.x (.int .i64 j))]∧os= [.mpo .str false (snM ((l.take j).map ZB))]∧j≤l.length∧((l.take j).map ZB).Nodup) (ZK l.length 29) ?_ (fun φ os hI=> ?_)
    ·exact⟨0,rfl,rfl,by omega,by simp⟩
    ·obtain⟨j,rfl,rfl,hj,hnd⟩:=hI;refine nz ?_;refine rg tT [8,27,28,29,30] ?_;refine cd (fun h3=> ?_) (fun h3=> ?_)
     ·have hj4:j<l.length:=by omega
      have hrw:=Yg l j hj4;have hd:=ZM (show(l.getD j []).length≤140737488355328 by rw[show l.getD j []=l[j] by simp[hj4]];have:=hn _ (List.getElem_mem hj4);omega);have uu:=ZA uu (ZA hrw hd);refine rg tT [8,10,27,28,29] ?_;by_cases hin:ZB (l.getD j [])∈(l.take j).map ZB
      ·have hg1:=ZB0 hin;have hcp:=List.count_pos_iff.2 hin;have uu:=ZA uu hg1;refine rg tT [8,10,27,28,29,37] ?_;refine ct (fun h4=> ?_) (fun h4=> ?_)
       ·refine rg tT [4] ?_;refine lf ?_;rw[hdu hall hB0 (ZWl hj4 hin)]
       ·first|exact h4 (Int.natCast_pos.2 hcp)|exact(of_decide_eq_false h4) (Int.natCast_pos.2 hcp)|(simp at h4;exact absurd hcp (by omega))
      ·have hg1:=ZEC hin;have hg2:=ZF1 hin;have uu:=ZA uu (ZA hg1 hg2);refine rg tT [8,10,27,28,29,37] ?_;refine ce (fun h4=> ?_) (fun h4=> ?_)
       ·simp at h4
       ·refine rg tT [8,27,28,29] ?_;have hnd2:((l.take (j+1)).map ZB).Nodup:=by
         rw[ZIY hj4,List.nodup_append];exact⟨hnd,by simp,fun a ha b hb=>by simp only[List.mem_singleton]at hb;subst hb;rintro rfl;exact hin ha⟩
        refine rg tT [8,27,28,29] ?_;exact⟨⟨j+1,rfl,by rw[ZIY hj4],by omega,hnd2⟩,by simp[ZK,Ab.get,D.val,ZE];omega⟩
     ·refine rg tT [4] ?_;refine lf ?_;rw[YL (by omega)]at hnd;rw[hok hall hB0 hnd]
def smN (l:List Tx):Prop:=l.length≤100000∧ ∀x∈l,x.length≤1000000
instance (l:List Tx):Decidable (smN l):=inferInstanceAs (Decidable (_∧_))
def ZFa:List D→Option (Bool×D)
 | [.x (.sl R),.fn 77 []]=>(Zd Zn R).bind fun l=>some (decide (l.length≤100000),.x (.sl (rows ZI (l.map (·.1)))))
 |_=>none
theorem ZUj: ∀args r,ZFa args=some (true,r)→ZD Tryz.prog 76 args r:=by
 intro args r h;unfold ZFa at h;split at h
 ·rename_i R;obtain⟨l,hr0,h⟩:=Zp h;simp only[Zg,Ze,ZY,Zi,true_and]at h;obtain⟨h1,rfl⟩:=h;rw[←ZR YG hr0];exact(Zcn l h1)
 ·cases h
def ZFn:List D→Option (Bool×D)
 | [.x (.sl R),.fn 80 []]=>(Zd Zu R).bind fun l=>some (decide (l.length≤100000),.x (.sl (rows ZI (l.map (·.1)))))
 |_=>none
theorem ZUw: ∀args r,ZFn args=some (true,r)→ZD Tryz.prog 79 args r:=by
 intro args r h;unfold ZFn at h;split at h
 ·rename_i R;obtain⟨l,hr0,h⟩:=Zp h;simp only[Zg,Ze,ZY,Zi,true_and]at h;obtain⟨h1,rfl⟩:=h;rw[←ZR YM hr0];exact(Zbh l h1)
 ·cases h
def ZDZ:List D→List Ob→Option (Bool×D×List Ob)
 | [.x (.sl R),.fn 78 [.ptr 0 0]],[.box [.x (.sl R2)]]=>(Zd ZI R).bind fun l=>(Zd Zn R2).bind fun T=>some (decide (T.length≤100000∧smN l),.x (.int .i64 (Jm l (ZC2 T))),[.box [.x (.sl (rows Zn T))]])
 |_,_=>none
theorem ZSx: ∀args os r os',ZDZ args os=some (true,r,os')→ZV Tryz.prog 75 args os r os':=by
 intro args os r os' h;unfold ZDZ at h;split at h
 ·rename_i R R2;obtain⟨l,hr0,h⟩:=Zp h;obtain⟨T,hr1,h⟩:=Zp h;simp only[Zg,Ze,ZY,Zi,true_and]at h;obtain⟨h1,rfl,rfl⟩:=h;rw[←ZR ZT hr0];rw[←ZR YG hr1];exact ZaI T h1.1 l h1.2.1 h1.2.2
 ·cases h
def ZDX:List D→Option (Bool×D)
 | [.x (.sl R),.fn 81 []]=>(Zd ZI R).bind fun l=>some (decide (smN l),.x (.int .i64 (Jm l 0)))
 |_=>none
theorem ZR1: ∀args r,ZDX args=some (true,r)→ZD Tryz.prog 75 args r:=by
 intro args r h;unfold ZDX at h;split at h
 ·rename_i R;obtain⟨l,hr0,h⟩:=Zp h;simp only[Zg,Ze,ZY,Zi,true_and]at h;obtain⟨h1,rfl⟩:=h;rw[←ZR ZT hr0];exact(ZYY l h1.1 h1.2)
 ·cases h
def ZD2:Tabs:=Za (JT (Za (Za (ZW) 76 ZFa) 79 ZFn) 75 ZDZ) 75 ZDX
theorem ZVK:SsOk Tryz.prog ZD2:=ZL (Ye (ZL (ZL (ZG) (ZC ZH (p:=i76) rfl) ZUj) (ZC ZH (p:=i79) rfl) ZUw) (ZC ZH (p:=i75) rfl) ZSx) (ZC ZH (p:=i75) rfl) ZR1
theorem ZS3 (a:List D):ZD2.q 76 a=ZFa a:=rfl
theorem ZTr (a:List D):ZD2.q 79 a=ZFn a:=rfl
theorem ZTg (a:List D) (o:List Ob):ZD2.t 75 a o=YW ZDZ a o:=rfl
theorem ZSc (a:List D):ZD2.q 75 a=ZDX a:=rfl
theorem ZX3 (f:FuncId) (a:List D) (o:List Ob):ZD2.r f a o=none:=rfl
theorem ZY6 (f:FuncId) (a:List D) (o:List Ob):ZD2.k f a o=none:=rfl
theorem ZGb (l:List Tx):Zd ZI (rows ZI l)=some l:=JG ZT l
theorem ZGu (l:List Zk):Zd Zu (rows Zu l)=some l:=JG YM l
def ZBi (T:List Zb) (C:List Zk):Int:=if 1024<T.length∨1024<C.length then 3 else if Jm (T.map (·.1)) (ZC2 T)≠0 then Jm (T.map (·.1)) (ZC2 T)else Jm (C.map (·.1)) 0
def Jk (T:List Zb):Prop:=T.length≤100000∧ ∀x∈T,x.1.length≤1000000
def smC (C:List Zk):Prop:=C.length≤100000∧ ∀x∈C,x.1.length≤1000000∧(x.2.1.length≤50000∧ ∀n∈x.2.1,n.length≤140737488355328)∧(x.2.2.1.length≤50000∧ ∀n∈x.2.2.1,n.length≤140737488355328)
instance (T:List Zb):Decidable (Jk T):=inferInstanceAs (Decidable (_∧_))
instance (C:List Zk):Decidable (smC C):=inferInstanceAs (Decidable (_∧_))
theorem ZYH (T:List Zb) (C:List Zk) (hT:Jk T) (hC:smC C):ZD Tryz.prog 45 [.x (.sl (rows Zn T)),.x (.sl (rows Zu C))] (.x (.int .i64 (ZBi T C))):=by
 have hTl:=hT.1;have hCl:=hC.1;have hd1:decide (T.length≤100000∧smN (T.map (·.1)))=true:=ZM ⟨hTl,by rw[smN,List.length_map];exact⟨hTl,fun x hx=>by obtain⟨t,ht,rfl⟩:=List.mem_map.1 hx;exact hT.2 t ht⟩⟩;have hd2:decide (smN (C.map (·.1)))=true:=ZM (by rw[smN,List.length_map];exact⟨hCl,fun x hx=>by obtain⟨t,ht,rfl⟩:=List.mem_map.1 hx;exact(hC.2 t ht).1⟩);have hd3:=ZM hTl;have hd4:=ZM hCl;rcases hres:ZBi T C with v
 unfold ZBi at hres;refine ZN.pure (ZO (fz:=true) ZH (p:=i45) rfl _ (ξ rfl) _ (fun C0 E0=> ?_)) rfl;dsimp only[i45,qt,qi,qs,qb,qm,qa,qh,qj,qT,qF,qe,ql,qL,qf,q2,q3,q8,qz,qp,qP,qc,qk,qx,qy,qo,qr,qC,ZQ];have uu:=ZA @ZFa.eq_1 (ZA @ZFa.eq_2 (ZA @ZFn.eq_1 (ZA @ZFn.eq_2 (ZA @ZDZ.eq_1 (ZA @ZDZ.eq_2 (ZA @ZDX.eq_1 (ZA @ZDX.eq_2 (ZA @ZEe (ZA @ZGb (ZA @ZGu (ZA hd1 (ZA hd2 (ZA hd3 (ZA hd4 (ZA @ZX3 (ZA @ZY6 (ZA @ZSc (ZA @ZS3 (ZA @ZTr (@ZTg))))))))))))))))))));have tT:=ZVK;refine nz ?_;refine rg tT [1,2] ?_;refine rg tT [1,2,13] ?_;refine cd (fun h0=> ?_) (fun h0=> ?_)
 ·rw[if_pos (by clear uu;grind)]at hres;refine rg tT [4] ?_;refine lf ?_;rw[hres]
 ·rw[if_neg (by clear uu;grind)]at hres;refine rg tT [1,5] ?_;refine rg tT [1,5,19] ?_;refine cd (fun h1=> ?_) (fun h1=> ?_)
  ·rw[if_pos (by simpa using h1)]at hres;refine rg tT [4] ?_;refine lf ?_;rw[hres]
  ·rw[if_neg (by simpa using h1)]at hres;refine rg tT [4] ?_;refine lf ?_;rw[hres]
def ZDb:List D→Option (Bool×D)
 | [.x (.sl R),.x (.sl R2)]=>(Zd Zn R).bind fun T=>(Zd Zu R2).bind fun C=>some (decide (Jk T∧smC C),.x (.int .i64 (ZBi T C)))
 |_=>none
theorem ZTE: ∀args r,ZDb args=some (true,r)→ZD Tryz.prog 45 args r:=by
 intro args r h;unfold ZDb at h;split at h
 ·rename_i R R2;obtain⟨T,hr0,h⟩:=Zp h;obtain⟨C,hr1,h⟩:=Zp h;simp only[Zg,Ze,ZY,Zi,true_and]at h;obtain⟨h1,rfl⟩:=h;rw[←ZR YG hr0];rw[←ZR YM hr1];exact(ZYH T C h1.1 h1.2)
 ·cases h
theorem ZJD {α:Type} (f:α→Tx) (l:List α) (d:α) (i:Nat) (h:i<l.length) (hn:(l.map f).Nodup):f (l.getD i d)∉(l.take i).map f:=by
 intro hin;have e:l=l.take i++l.getD i d::l.drop (i+1):=by
  have:=List.take_append_drop i l;rw[List.drop_eq_getElem_cons h]at this;rw[show l.getD i d=l[i] by simp[h]];exact this.symm
 rw[e,List.map_append,List.map_cons]at hn;exact(List.nodup_append.1 hn).2.2 _ hin _ List.mem_cons_self rfl
theorem ZGk (T:List Zb):(Zs T).map (·.1)=T.map fun t=>ZB t.1:=by unfold Zs;rw[List.map_map];rfl
theorem ZPP (C:List Zk):(YJ C).map (·.1)=C.map fun c=>ZB c.1:=by unfold YJ;rw[List.map_map];rfl
theorem Zdd (T:List Zb) (i:Nat) (h:i<T.length) (hn:(T.map fun t=>ZB t.1).Nodup):
  Ya (Kj (Zs (T.take i))) [X.str (ZB (T.getD i ([],0,false,())).1)] [.x (.str (ZB (T.getD i ([],0,false,())).1)),.x (.int .i64 (T.getD i ([],0,false,())).2.1),.x (.bool (T.getD i ([],0,false,())).2.2.1)]=Kj (Zs (T.take (i+1))):=by
 have h1:=ZJD (fun t:Zb=>ZB t.1) T ([],0,false,()) i h hn;rw[←ZGk]at h1;have h2:=ZdZ (Zs (T.take i)) (ZB (T.getD i ([],0,false,())).1) (ZPK (T.getD i ([],0,false,())));rw[ZGq (ZAr.2 h1)]at h2;refine Eq.trans h2 ?_;rw[List.take_succ_eq_append_getElem h];unfold Zs;rw[List.map_append];simp[h]
theorem ZdC (C:List Zk) (i:Nat) (h:i<C.length) (hn:(C.map fun t=>ZB t.1).Nodup):
  Ya (Kv (YJ (C.take i))) [X.str (ZB (C.getD i ([],[],[],())).1)] [.x (.str (ZB (C.getD i ([],[],[],())).1)),.x (.sl (rows ZI ((C.getD i ([],[],[],())).2.1.map ZB))),.x (.sl (rows ZI ((C.getD i ([],[],[],())).2.2.1.map ZB)))]=Kv (YJ (C.take (i+1))):=by
 have h1:=ZJD (fun t:Zk=>ZB t.1) C ([],[],[],()) i h hn;rw[←ZPP]at h1;have h2:=Zdo (YJ (C.take i)) (ZB (C.getD i ([],[],[],())).1) (ZAx (C.getD i ([],[],[],())));rw[ZGq (ZAr.2 h1)]at h2;refine Eq.trans h2 ?_;rw[List.take_succ_eq_append_getElem h];unfold YJ;rw[List.map_append];simp[h]
theorem ZIA {l:List Tx} {b:Int} (h:Jm l b=0):l.all YO=true∧b=0∧(l.map ZB).Nodup:=by
 unfold Jm at h;split at h
 ·split at h
  ·omega
  ·split at h
   ·rename_i h1 h2 h3;exact⟨h1,by omega,of_decide_eq_true h3⟩
   ·omega
 ·omega
theorem ZUo {T:List Zb} {C:List Zk} (h:ZBi T C=0):(T.map fun t=>ZB t.1).Nodup∧(C.map fun t=>ZB t.1).Nodup:=by
 unfold ZBi at h;split at h
 ·omega
 ·split at h
  ·rename_i h1;exact absurd h h1
  ·rename_i h1;have h2:=(ZIA (Decidable.not_not.1 h1)).2.2;have h3:=(ZIA h).2.2;rw[List.map_map]at h2 h3;exact⟨h2,h3⟩
def ZAa (T:List Zb) (c:Zk):Bool:=(c.2.1.map ZB++c.2.2.1.map ZB).all fun n=>(ZS (Zs T) (ZB n)).isSome
def Yx (T:List Zb) (C:List Zk):Int:=if ZBi T C≠0 then ZBi T C else if C.all (ZAa T)=true then(if(ZS (Zs T) (ZB OC)).isSome=true then 0 else 8)else 8
def ZFP:List D→Option (Bool×D)
 | [.x (.sl R),.fn 37 []]=>(Zd ZI R).bind fun l=>some (decide (l.length≤100000∧ ∀x∈l,x.length≤140737488355328),.x (.sl (rows ZI (l.map ZB))))
 |_=>none
theorem ZUu: ∀args r,ZFP args=some (true,r)→ZD Tryz.prog 46 args r:=by
 intro args r h;unfold ZFP at h;split at h
 ·rename_i R;obtain⟨l,hr0,h⟩:=Zp h;simp only[Zg,Ze,ZY,Zi,true_and]at h;obtain⟨h1,rfl⟩:=h;rw[←ZR ZT hr0];exact(ZbM l h1.1 h1.2)
 ·cases h
def ZHy:List D→Option (Bool×D)
 | [.x (.sl [[.sl R],[.sl R']])]=>(Zd ZI R).bind fun a=>(Zd ZI R').map fun b=>(decide (a.length≤100000∧b.length≤100000),.x (.sl (rows ZI (a++b))))
 |_=>none
theorem ZRK: ∀args r,ZHy args=some (true,r)→ZD Tryz.prog 47 args r:=by
 intro args r h;unfold ZHy at h;split at h
 ·rename_i R R';obtain⟨a,h1,h⟩:=Zp h;obtain⟨b,h2,h3⟩:=Zh h;simp only[Ze,Zi]at h3;obtain⟨h4,rfl⟩:=h3;rw[←ZR ZT h1,←ZR ZT h2];exact ZZh a b h4.1 h4.2
 ·cases h
def ZBN:Tabs:=JT (JT (Za (Za (Za (Za (ZW) 45 ZDb) 37 YI) 46 ZFP) 47 ZHy) 47 (KN ZHy)) 36 ZCV
theorem ZT5:SsOk Tryz.prog ZBN:=Ye (Ye (ZL (ZL (ZL (ZL (ZG) (ZC ZH (p:=i45) rfl) ZTE) (ZC ZH (p:=i37) rfl) ZAy) (ZC ZH (p:=i46) rfl) ZUu) (ZC ZH (p:=i47) rfl) ZRK) (ZC ZH (p:=i47) rfl) (ZAq ZRK)) (ZC ZH (p:=i36) rfl) ZNe
theorem ZSM (a:List D):ZBN.q 45 a=ZDb a:=rfl
theorem ZTV (a:List D):ZBN.q 37 a=YI a:=rfl
theorem ZTR (a:List D):ZBN.q 46 a=ZFP a:=rfl
theorem ZTp (a:List D):ZBN.q 47 a=ZHy a:=rfl
theorem ZSw (a:List D) (o:List Ob):ZBN.t 47 a o=YW (KN ZHy) a o:=rfl
theorem ZSt (a:List D):ZBN.q 36 a=none:=rfl
theorem ZTq (a:List D) (o:List Ob):ZBN.t 36 a o=YW ZCV a o:=rfl
theorem ZYD (f:FuncId) (a:List D) (o:List Ob):ZBN.r f a o=none:=rfl
theorem ZZm (f:FuncId) (a:List D) (o:List Ob):ZBN.k f a o=none:=rfl
abbrev scH (L:List (Tx×Zb)) (M:List (Tx×Zk)) (c d:Zk):List Ob:= [.box [.mref 1,.mref 2],.mpo .str true (Kj L),.mpo .str true (Kv M),.box [.x (.str c.1),.x (.sl (rows ZI c.2.1)),.x (.sl (rows ZI c.2.2.1))],.box [.x (.str d.1),.x (.sl (rows ZI d.2.1)),.x (.sl (rows ZI d.2.2.1))]]
theorem ZQZ (L:List (Tx×Zb)) (M:List (Tx×Zk)) (c d:Zk):(scH L M c d).all (Ob.inP (fun i=>decide (i<(scH L M c d).length)))=true:=by
 simp[Ob.inP,YY,D.inP,Km,Ks]
set_option maxHeartbeats 4000000 in
theorem ZMr (T:List Zb) (C:List Zk) (hT:Jk T) (hC:smC C) (r:D) (OS:List Ob) (hz:Yx T C=0→r= .tup [.ptr 0 0,.x (.int .i64 0)]∧OS=QG (Zs T) (YJ C)) (hnz:Yx T C≠0→r= .tup [.x .nilp,.x (.int .i64 (Yx T C))]∧OS= []):
  ZV Tryz.prog 22 [.x (.sl (rows Zn T)),.x (.sl (rows Zu C))] [] r OS:=by
 have hO:OS.all (Ob.inP (fun i=>decide (i<OS.length)))=true:=by
  by_cases h:Yx T C=0
  ·rw[(hz h).2];exact QZ _ _
  ·rw[(hnz h).2];rfl
 have hTl:=hT.1;have hz':=hz;have hnz':=hnz;have hCl:=hC.1;have hd1:decide (Jk T∧smC C)=true:=ZM ⟨hT,hC⟩;rcases hch:ZBi T C with v
 unfold Yx at hz hnz;rw[hch]at hz hnz;have hoc:OC= [111,98,106,101,99,116,99,108,97,115,115]:=rfl;have hR:r.inP (fun i=>decide (i<OS.length))=true:=by
  by_cases h:Yx T C=0
  ·rw[(hz' h).1,(hz' h).2];rfl
  ·rw[(hnz' h).1,(hnz' h).2];rfl
 refine ZN.mcallsX (ZO (fz:=true) ZH (p:=i22) rfl _ (ξ rfl) _ (fun C0 E0=> ?_)) (by first|decide|(simp;done)) hO (by first|rfl|exact hR);dsimp only[i22,qt,qi,qs,qb,qm,qa,qh,qj,qT,qF,qe,ql,qL,qf,q2,q3,q8,qz,qp,qP,qc,qk,qx,qy,qo,qr,qC,ZQ];have uu:=ZA @ZDb.eq_1 (ZA @ZDb.eq_2 (ZA @YI.eq_1 (ZA @YI.eq_2 (ZA @ZFP.eq_1 (ZA @ZFP.eq_2 (ZA @ZHy.eq_1 (ZA @ZHy.eq_2 (ZA @ZCV.eq_1 (ZA @ZCV.eq_2 (ZA @ZEe (ZA @ZGb (ZA @ZGu (ZA @ZEd (ZA @ZEj (ZA hd1 (ZA hch (ZA @ZAA (ZA @ZAE (ZA @ZBE (ZA @ZBG (ZA @Km (ZA @Ks (ZA @KX (ZA @Qq (ZA @KM (ZA @ZYD (ZA @ZZm (ZA @ZSt (ZA @ZTV (ZA @ZSM (ZA @ZTR (ZA @ZTp (ZA @ZSw (ZA @ZTq (@KN.eq_1)))))))))))))))))))))))))))))))))));have tT:=ZT5;refine nz ?_;refine rg tT [0,1] ?_;refine rg tT [0,1,6] ?_;refine rg tT [0,1,6,23] ?_;refine cd (fun h0=> ?_) (fun h0=> ?_)
 ·have hv0: ¬v=0:=by simpa using h0
  refine rg tT [4,5] ?_;refine lf ?_;obtain⟨rfl,rfl⟩:=(by rw[if_pos hv0]at hnz;exact hnz hv0);exact⟨rfl,[],rfl⟩
 ·have hv0:v=0:=by simpa using h0
  subst hv0;obtain⟨hnT,hnC⟩:=ZUo hch;rw[if_neg (by simp)]at hz hnz;refine rg tT [0,1,7] ?_;refine rg tT [1,7,31,32,33] ?_;refine WI.pickA [2,0,1] ?_;refine WI.orderA [1,7,31,32,33] ?_;refine WI.loop (fun φ os=> ∃(i:Nat),φ= [(1,.x (.sl (rows Zu C))),(7,.ptr 0 0),(31,.x (.sl (rows Zn T))),(32,.x (.int .i64 T.length)),(33,.x (.int .i64 i))]∧os=QG (Zs (T.take i)) []∧i≤T.length) (ZK T.length 33) ?_ (fun φ os hI=> ?_)
  ·exact⟨0,rfl,rfl,by omega⟩
  ·obtain⟨i,rfl,rfl,hi⟩:=hI;refine nz ?_;refine rg tT [1,7,31,32,33,34] ?_;refine cd (fun h1=> ?_) (fun h1=> ?_)
   ·have hi4:i<T.length:=by omega
    have hrw:=ZCm T i hi4;have hst:=Zdd T i hi4 hnT;have hxl:=hT.2 T[i] (List.getElem_mem hi4);rw[show T[i]=T.getD i ([],0,false,()) by simp[hi4]]at hxl;generalize T.getD i ([],0,false,())=x at hrw hst hxl;have hd47:decide (x.1.length≤140737488355328)=true:=ZM (by omega);have uu:=ZA uu (ZA hrw (ZA hst hd47));refine rg tT [1,7,9,31,32,33] ?_;refine rg tT [1,7,9,31,32,33] ?_;refine WI.dregB tT [1,7,31,32,33] ?_
    iterate 5 refine Zo ?_
    refine YK ?_;refine Zo ?_
    iterate 2 refine YK ?_
    refine dAG ?_;refine dN ?_;refine nz ?_;refine WI.orderA [1,7,31,32,33] ?_;refine WI.dropT (QG (Zs (T.take (i+1))) []) _ rfl (by simp) (QZ _ _) (by simp[D.inP,YY]) ?_;refine rg tT [1,7,31,32,33] ?_;exact⟨⟨i+1,rfl,rfl,by omega⟩,by simp[ZK,Ab.get,D.val,ZE];omega⟩
   ·obtain rfl:i=T.length:=by omega
    rw[List.take_length];generalize hL:Zs T=L at hz hnz⊢;refine rg tT [7,51,52,53] ?_;refine WI.loop (fun φ os=> ∃(i:Nat),φ= [(7,.ptr 0 0),(51,.x (.sl (rows Zu C))),(52,.x (.int .i64 C.length)),(53,.x (.int .i64 i))]∧os=QG L (YJ (C.take i))∧i≤C.length∧(C.take i).all (ZAa T)=true) (ZK C.length 53) ?_ (fun φ os hI=> ?_)
    ·exact⟨0,rfl,rfl,by omega,rfl⟩
    ·obtain⟨i,rfl,rfl,hi,hall⟩:=hI;refine nz ?_;refine rg tT [7,51,52,53,54] ?_;refine cd (fun h2=> ?_) (fun h2=> ?_)
     ·have hi4:i<C.length:=by omega
      have hrw:=ZFm C i hi4;have hst:=ZdC C i hi4 hnC;have hal:=Zx (ZAa T) C i hi4;have hgi:C[i]=C.getD i ([],[],[],()):=by simp[hi4]
      have hno:ZAa T (C.getD i ([],[],[],()))=false→C.all (ZAa T)=false:=fun h=>ZZ (ZAa T) C i hi4 (by rw[hgi];exact h)
      have hxl:=hC.2 C[i] (List.getElem_mem hi4);rw[hgi]at hxl hal;generalize C.getD i ([],[],[],())=x at hrw hst hxl hal hno;obtain⟨hx1,hx2,hx3⟩:=hxl;have hst2:Ya (Kv (YJ (C.take i))) [X.str (ZAx x).1] [.x (.str (ZAx x).1),.x (.sl (rows ZI (ZAx x).2.1)),.x (.sl (rows ZI (ZAx x).2.2.1))]=Kv (YJ (C.take (i+1))):=hst;have hd47:decide (x.1.length≤140737488355328)=true:=ZM (by omega);have hd48:decide (x.2.1.length≤100000∧ ∀n∈x.2.1,n.length≤140737488355328)=true:=ZM ⟨by omega,hx2.2⟩;have hd49:decide (x.2.2.1.length≤100000∧ ∀n∈x.2.2.1,n.length≤140737488355328)=true:=ZM ⟨by omega,hx3.2⟩;have hl1:(x.2.1.map ZB).length≤50000:=by rw[List.length_map];exact hx2.1
      have hl2:(x.2.2.1.map ZB).length≤50000:=by rw[List.length_map];exact hx3.1
      have hct:ZAa T x=(x.2.1.map ZB++x.2.2.1.map ZB).all fun n=>(ZS L (ZB n)).isSome:=by rw[←hL];rfl
      have hln: ∀n∈x.2.1.map ZB++x.2.2.1.map ZB,n.length≤140737488355328:=fun n hn=>by
       rcases List.mem_append.1 hn with h|h
       ·obtain⟨y,hy,rfl⟩:=List.mem_map.1 h;rw[Qp];exact hx2.2 y hy
       ·obtain⟨y,hy,rfl⟩:=List.mem_map.1 h;rw[Qp];exact hx3.2 y hy
      have hd50:decide ((x.2.1.map ZB).length≤100000∧(x.2.2.1.map ZB).length≤100000)=true:=ZM ⟨by omega,by omega⟩;have uu:=ZA uu (ZA hrw (ZA hst2 (ZA hd47 (ZA hd48 (ZA hd49 hd50)))));refine rg tT [7,11,51,52,53] ?_;refine WI.dregB tT [7,12,51,52,53] ?_;refine Zo ?_;refine YK ?_;refine QV ?_;refine Zo ?_;refine YK ?_;refine QV ?_;refine Zo ?_;refine YK ?_;refine QV ?_;refine Ym ?_;refine dKG ?_;refine dAG ?_;refine dN ?_;refine nz ?_;refine rg tT [7,12,51,52,53,72,73,74] ?_;refine WI.orderA [7,12,51,52,53,72,73,74] ?_;refine WI.dropT (scH L (YJ (C.take i)) x (ZAx x)) _ rfl (by simp) (ZQZ _ _ _ _) (by simp[D.inP,YY]) ?_;generalize hN:x.2.1.map ZB++x.2.2.1.map ZB=N at hct hln⊢;have hNl:N.length≤100000:=by rw[←hN,Zr];omega
      refine WI.loop (fun φ os=> ∃(k:Nat),φ= [(7,.ptr 0 0),(12,.ptr 4 0),(51,.x (.sl (rows Zu C))),(52,.x (.int .i64 C.length)),(53,.x (.int .i64 i)),(72,.x (.sl (rows ZI N))),(73,.x (.int .i64 N.length)),(74,.x (.int .i64 k))]∧os=scH L (YJ (C.take i)) x (ZAx x)∧k≤N.length∧(N.take k).all (fun n=>(ZS L (ZB n)).isSome)=true) (ZK N.length 74) ?_ (fun φ os hI=> ?_)
      ·exact⟨0,rfl,rfl,by omega,rfl⟩
      ·obtain⟨k,rfl,rfl,hk,hka⟩:=hI;refine nz ?_;refine rg tT [7,12,51,52,53,72,73,74,75] ?_;refine cd (fun h3=> ?_) (fun h3=> ?_)
       ·have hk4:k<N.length:=by omega
        have hrk:=Yg N k hk4;have hgk:N[k]=N.getD k []:=by simp[hk4]
        have hak:=Zx (fun n=>(ZS L (ZB n)).isSome) N k hk4;have hnk:(ZS L (ZB (N.getD k []))).isSome=false→N.all (fun n=>(ZS L (ZB n)).isSome)=false:=fun h=>ZZ (fun n=>(ZS L (ZB n)).isSome) N k hk4 (by rw[hgk];exact h)
        have hnl:=hln N[k] (List.getElem_mem hk4);rw[hgk]at hak hnl;generalize N.getD k []=y at hrk hak hnk hnl;have hdy:=ZM hnl;have uu:=ZA uu (ZA hrk (ZA hdy (@Ka.eq_1)));refine rg tT [7,12,14,51,52,53,72,73,74] ?_;refine rg tT [7,12,16,51,52,53,72,73,74] ?_;refine rg tT [7,12,51,52,53,72,73,74,88] ?_;refine cd (fun h4=> ?_) (fun h4=> ?_)
        ·have hys:(ZS L (ZB y)).isSome=false:=by clear uu;grind
         rw[hno (by rw[hct];exact hnk hys)]at hnz;refine rg tT [4,5] ?_;refine lf ?_;obtain⟨rfl,rfl⟩:=hnz (by simp);exact⟨rfl,_,rfl⟩
        ·have hys:(ZS L (ZB y)).isSome=true:=by clear uu;grind
         have hka2:(N.take (k+1)).all (fun n=>(ZS L (ZB n)).isSome)=true:=by rw[hak,hka,hys];rfl
         refine WI.orderA [7,12,51,52,53,72,73,74] ?_;refine WI.dropT (scH L (YJ (C.take i)) x (ZAx x)) _ rfl (by simp) (ZQZ _ _ _ _) (by simp[D.inP,YY]) ?_;refine rg tT [7,12,51,52,53,72,73,74] ?_;exact⟨⟨k+1,rfl,rfl,by omega,hka2⟩,by simp[ZK,Ab.get,D.val,ZE];omega⟩
       ·obtain rfl:k=N.length:=by omega
        rw[List.take_length]at hka;rw[hka]at hct;have hall2:(C.take (i+1)).all (ZAa T)=true:=by rw[hal,hall,hct];rfl
        refine WI.dregB tT [7,51,52,53] ?_
        iterate 4 refine Zo ?_
        refine YK ?_;refine Zo ?_
        iterate 2 refine YK ?_
        refine dAG ?_;refine dN ?_;refine nz ?_;refine WI.orderA [7,51,52,53] ?_;refine WI.dropT (QG L (YJ (C.take (i+1)))) _ rfl (by simp) (QZ _ _) (by simp[D.inP,YY]) ?_;refine rg tT [7,51,52,53] ?_;exact⟨⟨i+1,rfl,rfl,by omega,hall2⟩,by simp[ZK,Ab.get,D.val,ZE];omega⟩
     ·obtain rfl:i=C.length:=by omega
      rw[List.take_length]at hall⊢;rw[hall,if_pos rfl,hoc]at hz hnz;refine WI.orderA [7] ?_;have uu:=ZA uu (@Ka.eq_1);refine rg tT [7,18] ?_;refine rg tT [7,108] ?_;refine cd (fun h5=> ?_) (fun h5=> ?_)
      ·have hys: ¬(ZS L (ZB [111,98,106,101,99,116,99,108,97,115,115])).isSome=true:=by clear uu;grind
       rw[if_neg hys]at hnz;refine rg tT [4,5] ?_;refine lf ?_;obtain⟨rfl,rfl⟩:=hnz (by simp);exact⟨rfl,_,rfl⟩
      ·have hys:(ZS L (ZB [111,98,106,101,99,116,99,108,97,115,115])).isSome=true:=by clear uu;grind
       rw[if_pos hys]at hz;refine rg tT [4,5] ?_;refine lf ?_;obtain⟨rfl,rfl⟩:=hz rfl;exact⟨rfl,_,rfl⟩
def igT (n:Tx):Zb:=(n,1,false,())
theorem ZVr (a b:List Zb):rows Zn (a++b)=rows Zn a++rows Zn b:=List.map_append
theorem Zep (l:List Tx) (hl:l.length≤1000):ZV Tryz.prog 34 [.ref 0 l.length 0 l.length] [.rows false 9 1 (rows ZI l)] (.ref 1 l.length 0 l.length) [.rows false 9 1 (rows ZI l),.rows false 35 3 (rows Zn (l.map igT))]:=by
 have hO: [Ob.rows false 9 1 (rows ZI l),.rows false 35 3 (rows Zn (l.map igT))].all (Ob.inP (fun i=>decide (i< [Ob.rows false 9 1 (rows ZI l),.rows false 35 3 (rows Zn (l.map igT))].length)))=true:=rfl;refine ZN.mcalls (ZO (fz:=false) ZH (p:=i34) rfl _ (ξ rfl) _ (fun C0 E0=> ?_));dsimp only[i34,qt,qi,qs,qb,qm,qa,qh,qj,qT,qF,qe,ql,qL,qf,q2,q3,q8,qz,qp,qP,qc,qk,qx,qy,qo,qr,qC,ZQ];have uu:=trivial;have tT:=(ZG:SsOk Tryz.prog ZW);refine nz ?_;refine rg tT [0] ?_;refine rg tT [0,3] ?_;refine rg tT [3,6,7,8] ?_;refine WI.ownA 3 35 3 ?_;refine WI.orderA [3,6,7,8] ?_;refine WI.loop (fun φ os=> ∃(j:Nat),φ= [(3,.ref 1 ((l.take j).map igT).length 0 ((l.take j).map igT).length),(6,.ref 0 l.length 0 l.length),(7,.x (.int .i64 l.length)),(8,.x (.int .i64 j))]∧os= [.rows false 9 1 (rows ZI l),.rows false 35 3 (rows Zn ((l.take j).map igT))]∧j≤l.length) (ZK l.length 8) ?_ (fun φ os hI=> ?_)
 ·exact⟨0,rfl,rfl,by omega⟩
 ·obtain⟨j,rfl,rfl,hj⟩:=hI;refine nz ?_;refine rg tT [3,6,7,8,9] ?_;refine cd (fun h0=> ?_) (fun h0=> ?_)
  ·have hj4:j<l.length:=by omega
   have hrw:=Yg l j hj4;have htk:(l.take (j+1)).map igT=(l.take j).map igT++ [igT (l.getD j [])]:=by rw[List.take_succ_eq_append_getElem hj4,List.map_append];simp[hj4]
   have hlen:((l.take j).map igT).length≤1000:=by rw[List.length_map,List.length_take];omega
   generalize l.getD j []=x at hrw htk;have uu:=ZA uu hrw;refine rg tT [3,5,6,7,8] ?_;refine rg tT [3,6,7,8] ?_;refine WI.pickA [0,1] ?_;refine rg tT [3,6,7,8] ?_;exact⟨⟨j+1,by rw[htk,Zr];rfl,by rw[htk,ZVr];rfl,by omega⟩,by simp[ZK,Ab.get,D.val,ZE];omega⟩
  ·obtain rfl:j=l.length:=by omega
   rw[List.take_length];refine rg tT [2] ?_;refine lf ?_;exact⟨by rw[List.length_map],rfl⟩
def plT:List Zb:= [([99,110],1,false,()),([115,110],1,false,()),([111,117],1,false,()),([100,99],1,false,()),([111],1,false,()),([100,101,115,99,114,105,112,116,105,111,110],1,false,()),([109,97,105,108],1,false,()),([111,98,106,101,99,116,99,108,97,115,115],1,false,()),([117,115,101,114,112,97,115,115,119,111,114,100],4,true,()),([117,105,100],1,true,()),([117,105,100,110,117,109,98,101,114],3,true,()),([109,101,109,98,101,114],5,false,()),([115,101,114,105,97,108,110,117,109,98,101,114],2,false,())]
def plC:List Zk:= [([116,111,112],[],[],()),([112,101,114,115,111,110],[[99,110],[115,110]],[[100,101,115,99,114,105,112,116,105,111,110],[117,115,101,114,112,97,115,115,119,111,114,100],[109,97,105,108],[117,105,100],[117,105,100,110,117,109,98,101,114],[115,101,114,105,97,108,110,117,109,98,101,114],[109,101,109,98,101,114]],()),([111,114,103,97,110,105,122,97,116,105,111,110,97,108,117,110,105,116],[[111,117]],[[100,101,115,99,114,105,112,116,105,111,110],[109,101,109,98,101,114]],()),([100,111,109,97,105,110],[[100,99]],[[100,101,115,99,114,105,112,116,105,111,110],[111]],()),([103,114,111,117,112],[[99,110]],[[109,101,109,98,101,114],[100,101,115,99,114,105,112,116,105,111,110]],())]
theorem Zee:Yx plT plC=0:=by decide+kernel
theorem Zel:Jk plT:=by decide+kernel
theorem Zd8:smC plC:=by decide+kernel
def ZJU:List D→List Ob→Option (Bool×D×Ob)
 | [.ref 0 8 0 8],[.rows false 9 1 [[.str a],[.str b],[.str c],[.str d],[.str e],[.str f],[.str g],[.str h]]]=>some (true,.ref 1 8 0 8,.rows false 35 3 [[.str a,.int .i64 1,.bool false],[.str b,.int .i64 1,.bool false],[.str c,.int .i64 1,.bool false],[.str d,.int .i64 1,.bool false],[.str e,.int .i64 1,.bool false],[.str f,.int .i64 1,.bool false],[.str g,.int .i64 1,.bool false],[.str h,.int .i64 1,.bool false]])
 |_,_=>none
theorem Zc7: ∀args os r ob,ZJU args os=some (true,r,ob)→(∃fz e sz rs,ob= .rows fz e sz rs)∧ZV Tryz.prog 34 args os r (os++ [ob]):=by
 intro args os r ob h;unfold ZJU at h;split at h
 ·rename_i a b c d e f g h;simp only[Zg,Ze,true_and]at h;obtain⟨rfl,rfl⟩:=h;exact⟨⟨_,_,_,_,rfl⟩,Zep [a,b,c,d,e,f,g,h] (by simp)⟩
 ·cases h
def ZH5:Tabs:=ZN9 (ZW) 34 ZJU
theorem ZH9:SsOk Tryz.prog ZH5:=ZRf (ZG) (ZC ZH (p:=i34) rfl) Zc7
theorem ZSL (a:List D):ZH5.q 34 a=none:=rfl
theorem ZR6 (a:List D) (o:List Ob):ZH5.t 34 a o=YW (fun args os=>(ZJU args os).map fun q=>(q.1,q.2.1,os++ [q.2.2])) a o:=rfl
theorem ZS2 (a:List D) (o:List Ob):ZH5.k 34 a o=newT ZJU a o:=rfl
theorem ZYs (f:FuncId) (a:List D) (o:List Ob):ZH5.r f a o=none:=rfl
theorem ZSY:Enters Tryz.prog 22:=ZC ZH (p:=i22) rfl
theorem Zcx:ZV Tryz.prog 10 [] [] (.ptr 0 0) (QG (Zs plT) (YJ plC)):=by
 have hO:=QZ (Zs plT) (YJ plC);have hnew:ZV Tryz.prog 22 [.x (.sl [[.str [99,110],.int .i64 1,.bool false],[.str [115,110],.int .i64 1,.bool false],[.str [111,117],.int .i64 1,.bool false],[.str [100,99],.int .i64 1,.bool false],[.str [111],.int .i64 1,.bool false],[.str [100,101,115,99,114,105,112,116,105,111,110],.int .i64 1,.bool false],[.str [109,97,105,108],.int .i64 1,.bool false],[.str [111,98,106,101,99,116,99,108,97,115,115],.int .i64 1,.bool false],[.str [117,115,101,114,112,97,115,115,119,111,114,100],.int .i64 4,.bool true],[.str [117,105,100],.int .i64 1,.bool true],[.str [117,105,100,110,117,109,98,101,114],.int .i64 3,.bool true],[.str [109,101,109,98,101,114],.int .i64 5,.bool false],[.str [115,101,114,105,97,108,110,117,109,98,101,114],.int .i64 2,.bool false]]),.x (.sl [[.str [116,111,112],.sl [],.sl []],[.str [112,101,114,115,111,110],.sl [[.str [99,110]],[.str [115,110]]],.sl [[.str [100,101,115,99,114,105,112,116,105,111,110]],[.str [117,115,101,114,112,97,115,115,119,111,114,100]],[.str [109,97,105,108]],[.str [117,105,100]],[.str [117,105,100,110,117,109,98,101,114]],[.str [115,101,114,105,97,108,110,117,109,98,101,114]],[.str [109,101,109,98,101,114]]]],[.str [111,114,103,97,110,105,122,97,116,105,111,110,97,108,117,110,105,116],.sl [[.str [111,117]]],.sl [[.str [100,101,115,99,114,105,112,116,105,111,110]],[.str [109,101,109,98,101,114]]]],[.str [100,111,109,97,105,110],.sl [[.str [100,99]]],.sl [[.str [100,101,115,99,114,105,112,116,105,111,110]],[.str [111]]]],[.str [103,114,111,117,112],.sl [[.str [99,110]]],.sl [[.str [109,101,109,98,101,114]],[.str [100,101,115,99,114,105,112,116,105,111,110]]]]])] [] (.tup [.ptr 0 0,.x (.int .i64 0)]) (QG (Zs plT) (YJ plC)):=
  ZMr plT plC Zel Zd8 _ _ (fun _=>⟨rfl,rfl⟩) (fun h=>absurd Zee h)
 refine ZN.mcallsX (ZO (fz:=true) ZH (p:=i10) rfl _ (ξ rfl) _ (fun C0 E0=> ?_)) (by first|decide|(simp;done)) hO (by first|rfl|exact hR);dsimp only[i10,qt,qi,qs,qb,qm,qa,qh,qj,qT,qF,qe,ql,qL,qf,q2,q3,q8,qz,qp,qP,qc,qk,qx,qy,qo,qr,qC,ZQ];have uu:=ZA @ZGI (ZA @ZGz (ZA @ZGh (ZA @ZF7 (ZA @ZAA (ZA @ZAE (ZA @ZBE (ZA @ZBG (ZA @Km (ZA @Ks (ZA @ZYs (ZA @ZS2 (ZA @ZSL (ZA @ZR6 (ZA @ZJU.eq_1 (@ZJU.eq_2)))))))))))))));refine WI.seq ?_;refine WI.regB ZH9 [] ?_;refine oS ?_;refine oN ?_;refine ZJ ?_;refine WI.seq ?_;refine WI.regB ZH9 [1] ?_;refine oG ?_;refine oC ?_;refine oS ?_;refine oN ?_;refine ZJ ?_;refine WI.seq ?_;refine WI.regB ZH9 [1] ?_;refine oS ?_
 iterate 7 refine oG ?_
 refine oS ?_;refine oN ?_;refine ZJ ?_;refine WI.seq ?_;refine WI.pickA [1] ?_;refine WI.cutA ZG [15,29] 15 ?_;simp only[List.take_succ_cons,List.take_zero,List.drop_succ_cons,List.drop_zero];refine oS ?_
 iterate 14 refine oG ?_
 refine oP ?_;refine ZQa [0,9] ?_;refine Yo [] ?_;refine Zfq ?_;refine Zap ?_;refine WR.regB (ZBp ZG ZSY hnew) [2] ?_;refine oC ?_;refine oS ?_
 iterate 2 refine oG ?_
 iterate 2 refine oS ?_
 refine oN ?_;refine ZJ ?_;refine WI.seq ?_;refine WI.regB ZG [0] ?_
 iterate 2 refine oS ?_
 refine oN ?_;refine ZJ ?_;refine WI.ret ?_;refine ZD1 ?_;exact⟨rfl,[],rfl⟩
def ZGa:List Zt:= [([111,98,106,101,99,116,67,108,97,115,115],[[116,111,112],[80,101,114,115,111,110]],()),([99,110],[[97]],()),([115,110],[[98]],())]
def ZaE:List Zt:= [([117,105,100,78,117,109,98,101,114],[[120]],())]
theorem Zfi:JH (Zs plT) (ZB [85,73,68,78,117,109,98,101,114])=([117,105,100,110,117,109,98,101,114],3,true,()):=by decide+kernel
theorem Zfp:(ZS (Zs plT) (ZB [85,73,68,78,117,109,98,101,114])).isSome=true:=by decide+kernel
theorem Zft:clV (YJ plC) (ZB [68,111,109,97,105,110])=([100,111,109,97,105,110],[[100,99]],[[100,101,115,99,114,105,112,116,105,111,110],[111]],()):=by decide+kernel
theorem Zfo:(ZS (YJ plC) (ZB [68,111,109,97,105,110])).isSome=true:=by decide+kernel
theorem Zfl:ZFE (Zs plT) (YJ plC) ZGa=0:=by decide+kernel
theorem ZfZ:ZFE (Zs plT) (YJ plC) (ZGa.take 2)=65:=by decide+kernel
theorem ZfT:ZFE (Zs plT) (YJ plC) (ZGa++ZaE)=21:=by decide+kernel
theorem Zfk:(ZA8 ((Zs plT).map (·.1))).length=13:=by unfold ZA8;rw[List.length_mergeSort];decide+kernel
theorem ZYd:Yx [] []=8:=by decide+kernel
theorem Ze6:Yx [([97],1,false,()),([65],1,false,())] []=9:=by decide+kernel
def okM (M:List (Tx×Zk)):Prop:= ∀p∈M,p.2.2.1.length≤1000000∧p.2.2.2.1.length≤1000000
instance (M:List (Tx×Zk)):Decidable (okM M):=inferInstanceAs (Decidable (∀p∈M,_))
theorem ZWa {M:List (Tx×Zk)} (h:okM M):bdC M:=by
 intro k;unfold clV;rcases hm:ZS M k with _|c
 ·simp
 ·have:=h _ (ZHz hm);simpa using this
def ZJO (M:List (Tx×Zk)) (l:List Zt):Prop:=okM M∧smA l∧ ∀a∈l,∀v∈a.2.1,v.length≤1000000
instance (M:List (Tx×Zk)) (l:List Zt):Decidable (ZJO M l):=inferInstanceAs (Decidable (_∧_∧_))
def ZFp:List D→List Ob→Option (Bool×D×List Ob)
 | [.ptr 0 0,.agg [.x (.str dn),.x (.sl R)]],[.box [.mref 1,.mref 2],.mpo .str true P1,.mpo .str true P2]=>(KY ZI Zn P1).bind fun L=>(KY ZI Zu P2).bind fun M=>(Zd YR R).bind fun l=>some (decide (ZJO M l),.x (.int .i64 (ZFE L M l)),[.box [.mref 1,.mref 2],.mpo .str true (Kj L),.mpo .str true (Kv M)])
 |_,_=>none
theorem ZWz: ∀args os r os',ZFp args os=some (true,r,os')→ZV Tryz.prog 17 args os r os':=by
 intro args os r os' h;unfold ZFp at h;split at h
 ·rename_i dn R P1 P2;obtain⟨L,hm0,h⟩:=Zp h;obtain⟨M,hm1,h⟩:=Zp h;obtain⟨l,hr0,h⟩:=Zp h;simp only[Zg,Ze,ZY,Zi,true_and]at h;obtain⟨h1,rfl,rfl⟩:=h;rw[Yl ZT YG hm0];rw[Yl ZT YM hm1];rw[←ZR JK hr0];exact ZRN L M (dn,l,()) h1.2.1 h1.2.2 (ZWa h1.1)
 ·cases h
def ZLH (L:List (Tx×Zb)):Prop:=L.length≤1000000∧ ∀p∈L,p.1.length≤1000000
instance (L:List (Tx×Zb)):Decidable (ZLH L):=inferInstanceAs (Decidable (_∧_))
def ZFi:List D→List Ob→Option (Bool×D×List Ob)
 | [.ptr 0 0],[.box [.mref 1,.mref 2],.mpo .str true P1,.mpo .str true P2]=>(KY ZI Zn P1).bind fun L=>(KY ZI Zu P2).bind fun M=>some (decide (ZLH L),.x (.sl (rows ZI (ZA8 (L.map (·.1))))),[.box [.mref 1,.mref 2],.mpo .str true (Kj L),.mpo .str true (Kv M)])
 |_,_=>none
theorem ZTz: ∀args os r os',ZFi args os=some (true,r,os')→ZV Tryz.prog 19 args os r os':=by
 intro args os r os' h;unfold ZFi at h;split at h
 ·rename_i P1 P2;obtain⟨L,hm0,h⟩:=Zp h;obtain⟨M,hm1,h⟩:=Zp h;simp only[Zg,Ze,ZY,Zi,true_and]at h;obtain⟨h1,rfl,rfl⟩:=h;rw[Yl ZT YG hm0];rw[Yl ZT YM hm1];exact ZRh L M h1.1 h1.2
 ·cases h
theorem ZV.nn {P:Program} {f:FuncId} {args:List D} {os os':List Ob} {r:D} (h:ZV P f (args.map D.nn) os r os'):ZV P f args os r os':=by
 intro c E vs R hvl;refine h c E vs R ⟨by rw[List.length_map];exact hvl.1,fun j d v hd hv=> ?_⟩;rw[YA]at hd;obtain⟨d0,hd0,rfl⟩:=Zh hd;exact(hvl.2 j d0 v hd0 hv).nn
theorem ZZA:ZD Tryz.prog 33 [] (.agg [.x (.str [99,110,61,97]),.x (.sl [[X.str [111,98,106,101,99,116,67,108,97,115,115],X.sl [[X.str [116,111,112]],[X.str [80,101,114,115,111,110]]]],[X.str [99,110],X.sl [[X.str [97]]]],[X.str [115,110],X.sl [[X.str [98]]]]])]):=(ZVu ZH 300 (p:=i33) rfl (by kernel_rfl) rfl).2
def ZDa:List D→Option (Bool×D)
 | []=>some (true,.agg [.x (.str [99,110,61,97]),.x (.sl [[X.str [111,98,106,101,99,116,67,108,97,115,115],X.sl [[X.str [116,111,112]],[X.str [80,101,114,115,111,110]]]],[X.str [99,110],X.sl [[X.str [97]]]],[X.str [115,110],X.sl [[X.str [98]]]]])])
 |_=>none
theorem ZTL: ∀args r,ZDa args=some (true,r)→ZD Tryz.prog 33 args r:=by
 intro args r h;unfold ZDa at h;split at h
 ·simp only[Zg,Ze,ZY,Zi,true_and]at h;obtain rfl:=h;exact ZZA
 ·cases h
theorem ZXR:ZV Tryz.prog 33 [] [] (.agg [.x (.str [99,110,61,97]),.ref 0 3 0 3]) [.rows false 72 2 [[X.str [111,98,106,101,99,116,67,108,97,115,115],X.sl [[X.str [116,111,112]],[X.str [80,101,114,115,111,110]]]],[X.str [99,110],X.sl [[X.str [97]]]],[X.str [115,110],X.sl [[X.str [98]]]]]]:=by
 refine ZN.mcallsX (ZO (fz:=false) ZH (p:=i33) rfl _ (ξ rfl) _ (fun C0 E0=> ?_)) (by first|decide|(simp;done)) rfl rfl;dsimp only[i33,qt,qi,qs,qb,qm,qa,qh,qj,qT,qF,qe,ql,qL,qf,q2,q3,q8,qz,qp,qP,qc,qk,qx,qy,qo,qr,qC,ZQ];have uu:=trivial;have tT:=(ZG:SsOk Tryz.prog ZW);refine nz ?_;refine rg tT [0] ?_;refine rg tT [0] ?_;refine WI.pickA [4,0] ?_;refine lf ?_;exact⟨rfl,_,rfl⟩
theorem Zdj (T:List Zb) (h:Yx T []≠0) (hT:Jk T):ZV Tryz.prog 22 [.x (.sl (rows Zn T)),.x .nils] [] (.tup [.x .nilp,.x (.int .i64 (Yx T []))]) []:=
 ZV.nn (ZMr T [] hT (by decide) _ _ (fun e=>absurd e h) (fun _=>⟨rfl,rfl⟩))
theorem ZeM:ZV Tryz.prog 22 [.x .nils,.x .nils] [] (.tup [.x .nilp,.x (.int .i64 8)]) []:=
 ZV.nn (ZMr [] [] (by decide) (by decide) _ _ (fun e=>by rw[ZYd]at e;cases e) (fun _=>⟨by rw[ZYd],rfl⟩))
def ZGH:List D→List Ob→Option (Bool×D×List Ob)
 | [.x (.sl R),.x .nils],[]=>(Zd Zn R).map fun T=>(decide (Yx T []≠0∧Jk T),.tup [.x .nilp,.x (.int .i64 (Yx T []))],[])
 | [.x .nils,.x .nils],[]=>some (true,.tup [.x .nilp,.x (.int .i64 8)],[])
 |_,_=>none
theorem ZZM: ∀args os r os',ZGH args os=some (true,r,os')→ZV Tryz.prog 22 args os r os':=by
 intro args os r os' h;unfold ZGH at h;split at h
 ·rename_i R;obtain⟨T,h1,h2⟩:=Zh h;simp only[Ze,Zi]at h2;obtain⟨⟨h3,h4⟩,rfl,rfl⟩:=h2;rw[←ZR YG h1];exact Zdj T h3 h4
 ·simp only[Zg,Ze,true_and]at h;obtain⟨rfl,rfl⟩:=h;exact ZeM
 ·cases h
def ZCA:List D→List Ob→Option (Bool×D×Ob)
 | [],[]=>some (true,.agg [.x (.str [99,110,61,97]),.ref 0 3 0 3],.rows false 72 2 [[X.str [111,98,106,101,99,116,67,108,97,115,115],X.sl [[X.str [116,111,112]],[X.str [80,101,114,115,111,110]]]],[X.str [99,110],X.sl [[X.str [97]]]],[X.str [115,110],X.sl [[X.str [98]]]]])
 |_,_=>none
theorem ZTX: ∀args os r ob,ZCA args os=some (true,r,ob)→(∃fz e sz rs,ob= .rows fz e sz rs)∧ZV Tryz.prog 33 args os r (os++ [ob]):=by
 intro args os r ob h;unfold ZCA at h;split at h
 ·simp only[Zg,Ze,true_and]at h;obtain⟨rfl,rfl⟩:=h;exact⟨⟨_,_,_,_,rfl⟩,ZXR⟩
 ·cases h
def ZJ2:Tabs:=ZN9 (ZW) 33 ZCA
theorem ZZq:SsOk Tryz.prog ZJ2:=ZRf (ZG) (ZC ZH (p:=i33) rfl) ZTX
theorem ZWA (a:List D):ZJ2.q 33 a=none:=rfl
theorem ZWC (a:List D) (o:List Ob):ZJ2.t 33 a o=YW (fun args os=>(ZCA args os).map fun q=>(q.1,q.2.1,os++ [q.2.2])) a o:=rfl
theorem ZW9 (a:List D) (o:List Ob):ZJ2.k 33 a o=newT ZCA a o:=rfl
theorem Zb9 (f:FuncId) (a:List D) (o:List Ob):ZJ2.r f a o=none:=rfl
def ZAW:Tabs:=JT (JT (JT (JT (JT (Za (ZW) 33 ZDa) 22 ZGH) 12 ZIR) 14 ZBF) 17 ZFp) 19 ZFi
theorem Ko:SsOk Tryz.prog ZAW:=Ye (Ye (Ye (Ye (Ye (ZL (ZG) (ZC ZH (p:=i33) rfl) ZTL) (ZC ZH (p:=i22) rfl) ZZM) (ZC ZH (p:=i12) rfl) ZX4) (ZC ZH (p:=i14) rfl) ZL6) (ZC ZH (p:=i17) rfl) ZWz) (ZC ZH (p:=i19) rfl) ZTz
theorem ZVa (a:List D):ZAW.q 33 a=ZDa a:=rfl
theorem ZW4 (a:List D):ZAW.q 22 a=none:=rfl
theorem ZVU (a:List D) (o:List Ob):ZAW.t 22 a o=YW ZGH a o:=rfl
theorem ZXe (a:List D):ZAW.q 12 a=none:=rfl
theorem ZVW (a:List D) (o:List Ob):ZAW.t 12 a o=YW ZIR a o:=rfl
theorem ZWD (a:List D):ZAW.q 14 a=none:=rfl
theorem ZVf (a:List D) (o:List Ob):ZAW.t 14 a o=YW ZBF a o:=rfl
theorem ZUr (a:List D):ZAW.q 17 a=none:=rfl
theorem ZXY (a:List D) (o:List Ob):ZAW.t 17 a o=YW ZFp a o:=rfl
theorem ZXW (a:List D):ZAW.q 19 a=none:=rfl
theorem ZUV (a:List D) (o:List Ob):ZAW.t 19 a o=YW ZFi a o:=rfl
theorem Zch (f:FuncId) (a:List D) (o:List Ob):ZAW.r f a o=none:=rfl
theorem Zct (f:FuncId) (a:List D) (o:List Ob):ZAW.k f a o=none:=rfl
theorem ZOw:Enters Tryz.prog 10:=ZC ZH (p:=i10) rfl
theorem ZfE:Zd YR [[X.str [111,98,106,101,99,116,67,108,97,115,115],X.sl [[X.str [116,111,112]],[X.str [80,101,114,115,111,110]]]],[X.str [99,110],X.sl [[X.str [97]]]],[X.str [115,110],X.sl [[X.str [98]]]]]=some ZGa:=rfl
theorem Zes:Zd YR [[X.str [111,98,106,101,99,116,67,108,97,115,115],X.sl [[X.str [116,111,112]],[X.str [80,101,114,115,111,110]]]],[X.str [99,110],X.sl [[X.str [97]]]]]=some (ZGa.take 2):=rfl
theorem Zeq:Zd YR [[X.str [111,98,106,101,99,116,67,108,97,115,115],X.sl [[X.str [116,111,112]],[X.str [80,101,114,115,111,110]]]],[X.str [99,110],X.sl [[X.str [97]]]],[X.str [115,110],X.sl [[X.str [98]]]],[X.str [117,105,100,78,117,109,98,101,114],X.sl [[X.str [120]]]]]=some (ZGa++ZaE):=rfl
theorem Ze5:Zd Zn [[X.str [97],X.int .i64 1,X.bool false],[X.str [65],X.int .i64 1,X.bool false]]=some [([97],1,false,()),([65],1,false,())]:=rfl
theorem ZfB:decide (ZJO (YJ plC) ZGa)=true:=by decide+kernel
theorem Ze9:decide (ZJO (YJ plC) (ZGa.take 2))=true:=by decide+kernel
theorem ZfD:decide (ZJO (YJ plC) (ZGa++ZaE))=true:=by decide+kernel
theorem ZfA:decide (ZLH (Zs plT))=true:=by decide+kernel
theorem Zez:decide (Yx [([97],1,false,()),([65],1,false,())] []≠0∧Jk [([97],1,false,()),([65],1,false,())])=true:=by decide+kernel
theorem Ze0:(rows ZI (ZA8 ((Zs plT).map (·.1)))).length=13:=by rw[YE,Zfk]
set_option maxHeartbeats 4000000 in
theorem ZWG:ZD Tryz.prog 9 [] (.x (.bool true)):=by
 have hu1:=ZEd (Zs plT);have hu2:=ZEj (YJ plC);refine ZN.pure (ZO (fz:=true) ZH (p:=i9) rfl _ (ξ rfl) _ (fun C0 E0=> ?_)) rfl;dsimp only[i9,qt,qi,qs,qb,qm,qa,qh,qj,qT,qF,qe,ql,qL,qf,q2,q3,q8,qz,qp,qP,qc,qk,qx,qy,qo,qr,qC,ZQ];have uu:=ZA @ZGI (ZA @ZGz (ZA @ZGh (ZA @ZF7 (ZA @ZAA (ZA @ZAE (ZA @ZBE (ZA @ZBG (ZA @Km (ZA @Ks (ZA @ZIR.eq_1 (ZA @ZIR.eq_2 (ZA @ZBF.eq_1 (ZA @ZBF.eq_2 (ZA @ZFp.eq_1 (ZA @ZFp.eq_2 (ZA @ZFi.eq_1 (ZA @ZFi.eq_2 (ZA @ZDa.eq_1 (ZA @ZDa.eq_2 (ZA @ZGH.eq_1 (ZA @ZGH.eq_2 (ZA @ZGH.eq_3 (ZA @ZCA.eq_1 (ZA @ZCA.eq_2 (ZA hu1 (ZA hu2 (ZA @Zfi (ZA @Zfp (ZA @Zft (ZA @Zfo (ZA @Zfl (ZA @ZfZ (ZA @ZfT (ZA @ZYd (ZA @Ze6 (ZA @ZfE (ZA @Zes (ZA @Zeq (ZA @Ze5 (ZA @ZfB (ZA @Ze9 (ZA @ZfD (ZA @ZfA (ZA @Zez (ZA @Ze0 (ZA @@Ka.eq_1 (ZA @@clD.eq_1 (ZA @@Zb9 (ZA @@ZWA (ZA @@ZWC (ZA @@ZW9 (ZA @Zch (ZA @Zct (ZA @ZXe (ZA @ZWD (ZA @ZUr (ZA @ZXW (ZA @ZW4 (ZA @ZVa (ZA @ZVU (ZA @ZVW (ZA @ZVf (ZA @ZXY (@ZUV))))))))))))))))))))))))))))))))))))))))))))))))))))))))))))))));refine WI.seq ?_;refine WI.regB Ko [] ?_;refine oS ?_;refine oN ?_;refine ZJ ?_;refine WI.seq ?_;refine WI.regB (ZBp ZG ZOw Zcx) [1] ?_;refine oC ?_;refine oS ?_;refine oN ?_;refine ZJ ?_;refine WI.seq ?_;refine WI.seq ?_;refine WI.regB Ko [1,14] ?_;refine oS ?_;refine oG ?_;refine oN ?_;refine ZJ ?_;refine WI.cond (b:=_) rfl rfl (fun h0=> ?_) (fun h0=> ?_)
 ·exfalso;simp at h0
 ·try simp only[zB]at h0
  refine WI.skip ?_;refine ZJ ?_;refine WI.seq ?_;refine WI.regB Ko [1,2,3] ?_;refine oS ?_;refine oC ?_;refine oS ?_
  iterate 4 refine oG ?_
  refine oS ?_;refine oN ?_;refine ZJ ?_;refine WI.seq ?_;refine WI.regB Ko [1,2,3,4,5] ?_;refine oS ?_;refine oC ?_;refine oS ?_
  iterate 4 refine oG ?_
  refine oS ?_;refine oN ?_;refine ZJ ?_;refine WI.seq ?_;refine WI.regB Ko [1,2,3,4,5,6] ?_;refine oC ?_
  iterate 2 refine oG ?_
  refine oN ?_;refine ZJ ?_;refine WI.seq ?_;refine WI.regB Ko [1,2,3,4,5,6] ?_;refine oS ?_
  iterate 2 refine oG ?_
  refine oS ?_;refine oG ?_;refine oN ?_;refine ZJ ?_;refine WI.seq ?_;refine WI.regB Ko [1,2,3,4,5,6,8] ?_;refine oC ?_;refine oS ?_
  iterate 2 refine oG ?_
  iterate 2 refine oS ?_
  refine oN ?_;refine ZJ ?_;refine WI.seq ?_;refine WI.cutA Ko [1,2,3,4,5,6,8,37] 3 ?_;simp only[List.take_succ_cons,List.take_zero,List.drop_succ_cons,List.drop_zero]
  iterate 3 refine oG ?_
  refine oP ?_;refine ZQa [6] ?_;refine Yo [0,1,2,3,4,5] ?_ (ho:=by simp (disch:=decide) only[zV,zO,Ob.mpb,frzL,QH,ZAO,Kn,Ob.onI,Qm,Yt,Option.map_some,Option.map_none,D.vw,vwL,D.on,D.inP,YY,YH,D.ren,Zy,Yb,YS,Ob.mp,Ob.ren,D.nn,ZA6,Nat.reduceBEq,Nat.reduceEqDiff,Nat.reduceAdd,↓reduceIte,Zam,ZaW,ZAA,ZAE];rfl);refine Zap ?_;refine WR.regB Ko [1,2,3,4,5,6,8,10] ?_;refine oC ?_;refine oS ?_
  iterate 2 refine oG ?_
  iterate 2 refine oS ?_
  refine oN ?_;refine ZJ ?_;refine WI.seq ?_;refine WI.regB ZZq [1,2,3,4,5,6,8,10,11] ?_;refine oC ?_
  iterate 2 refine oG ?_
  refine oN ?_;refine ZJ ?_;refine WI.seq ?_;refine WI.regB Ko [1,2,3,4,5,6,8,10,11] ?_;refine oS ?_
  iterate 5 refine oG ?_
  refine oS ?_;refine oG ?_;refine oN ?_;refine ZJ ?_;refine WI.seq ?_;refine WI.freezeA [6] ?_;refine WI.pickA [0,1,2,3,4,5,7] ?_ (ho:=by simp (disch:=decide) only[zV,zO,Ob.mpb,frzL,QH,ZAO,Kn,Ob.onI,Qm,Yt,Option.map_some,Option.map_none,D.vw,vwL,D.on,D.inP,YY,YH,D.ren,Zy,Yb,YS,Ob.mp,Ob.ren,D.nn,ZA6,Nat.reduceBEq,Nat.reduceEqDiff,Nat.reduceAdd,↓reduceIte,Zam,ZaW,ZAA,ZAE];rfl);refine WI.regB Ko [0] ?_
  iterate 3 refine oG ?_
  refine oS ?_
  iterate 2 refine oG ?_
  refine oS ?_
  iterate 4 refine oG ?_
  refine oS ?_
  iterate 5 refine oG ?_
  refine oS ?_
  iterate 2 refine oG ?_
  refine oS ?_;refine oG ?_
  iterate 2 refine oC ?_
  iterate 2 refine oG ?_
  refine oS ?_
  iterate 2 refine oG ?_
  refine oC ?_
  iterate 2 refine oG ?_
  refine oS ?_
  iterate 2 refine oG ?_
  refine oC ?_
  iterate 2 refine oG ?_
  refine oS ?_
  iterate 3 refine oG ?_
  refine oS ?_
  iterate 3 refine oG ?_
  refine oS ?_;refine oG ?_;refine oC ?_
  iterate 3 refine oG ?_
  refine oS ?_;refine oN ?_;refine ZJ ?_;refine WI.ret ?_
  first|refine lfR ?_|refine ZE4 ?_|refine ZD1 ?_
  first|rfl|exact⟨rfl,rfl⟩|trivial
def ZCL:List D→Option (Bool×D)
 | []=>some (true,.x (.bool true))
 |_=>none
theorem ZQR: ∀args r,ZCL args=some (true,r)→ZD Tryz.prog 9 args r:=by
 intro args r h;unfold ZCL at h;split at h
 ·simp only[Zg,Ze,ZY,Zi,true_and]at h;obtain rfl:=h;exact ZWG
 ·cases h
theorem Zfm (l:List Tx) (s:Tx) (hl:l.length≤4000000000000):ZD Tryz.prog 42 [.x (.sl (rows ZI l)),.x (.str s)] (.x (.bool (decide (s∈l)))):=by
 refine ZN.pure (ZO (fz:=true) ZH (p:=i42) rfl _ (ξ rfl) _ (fun C0 E0=> ?_)) rfl;dsimp only[i42,qt,qi,qs,qb,qm,qa,qh,qj,qT,qF,qe,ql,qL,qf,q2,q3,q8,qz,qp,qP,qc,qk,qx,qy,qo,qr,qC,ZQ];have uu:=trivial;have tT:=(ZG:SsOk Tryz.prog ZW);refine nz ?_;refine rg tT [0,1] ?_;refine rg tT [0,1,5] ?_;refine WI.loop (fun φ os=> ∃(j:Nat),φ= [(0,.x (.sl (rows ZI l))),(1,.x (.str s)),(5,.x (.int .i64 j))]∧os= []∧j≤l.length∧s∉l.take j) (ZK l.length 5) ?_ (fun φ os hI=> ?_)
 ·exact⟨0,rfl,rfl,by omega,by simp⟩
 ·obtain⟨j,rfl,rfl,hj,hn⟩:=hI;refine nz ?_;refine rg tT [0,1,5,9] ?_;refine cd (fun h0=> ?_) (fun h0=> ?_)
  ·have hj4:j<l.length:=by omega
   have hrw:=Yg l j hj4;have hg:l.getD j []=l[j]:=by simp[hj4]
   have hm:l.getD j []∈l:=by rw[hg];exact List.getElem_mem hj4
   have htk:l.take (j+1)=l.take j++ [l.getD j []]:=by rw[List.take_succ_eq_append_getElem hj4,hg]
   generalize l.getD j []=x at hrw hm htk;have uu:=ZA uu hrw;refine rg tT [0,1,5,17] ?_;refine cd (fun h1=> ?_) (fun h1=> ?_)
   ·have hx:x=s:=by simpa using h1
    refine rg tT [4] ?_;refine lf ?_;subst hx;rw[ZM hm]
   ·have hx: ¬x=s:=by simpa using h1
    have hn2:s∉l.take (j+1):=by rw[htk];simp;exact⟨hn,fun e=>hx e.symm⟩
    refine rg tT [0,1,5] ?_;exact⟨⟨j+1,rfl,rfl,by omega,hn2⟩,by simp[ZK,Ab.get,D.val,ZE];omega⟩
  ·refine rg tT [4] ?_;refine lf ?_;rw[YL (by omega)]at hn;rw[decide_eq_false hn]
def inG:List D→Option (Bool×D)
 | [.x (.sl R),.x (.str s)]=>(Zd ZI R).bind fun l=>some (decide (l.length≤4000000000000),.x (.bool (decide (s∈l))))
 |_=>none
theorem ZK0: ∀args r,inG args=some (true,r)→ZD Tryz.prog 42 args r:=by
 intro args r h;unfold inG at h;split at h
 ·rename_i R s;obtain⟨l,hr0,h⟩:=Zp h;simp only[Zg,Ze,ZY,Zi,true_and]at h;obtain⟨h1,rfl⟩:=h;rw[←ZR ZT hr0];exact(Zfm l s h1)
 ·cases h
def ZMt:Tabs:=Za (ZW) 32 ZAI
theorem ZZy:SsOk Tryz.prog ZMt:=ZL (ZG) (ZC ZH (p:=i32) rfl) ZJy
theorem ZXG (a:List D):ZMt.q 32 a=ZAI a:=rfl
theorem ZbF (f:FuncId) (a:List D) (o:List Ob):ZMt.r f a o=none:=rfl
theorem ZbD (f:FuncId) (a:List D) (o:List Ob):ZMt.k f a o=none:=rfl
theorem ZYC (l:List Tx) (hl:l.length≤100000) (hn: ∀x∈l,x.length≤1000000):ZD Tryz.prog 38 [.x (.sl (rows ZI l))] (.x (.sl (rows ZI (l.map ZB)))):=by
 refine ZN.pure (ZO (fz:=true) ZH (p:=i38) rfl _ (ξ rfl) _ (fun C0 E0=> ?_)) rfl;dsimp only[i38,qt,qi,qs,qb,qm,qa,qh,qj,qT,qF,qe,ql,qL,qf,q2,q3,q8,qz,qp,qP,qc,qk,qx,qy,qo,qr,qC,ZQ];have uu:=ZA @ZAI.eq_1 (ZA @ZAI.eq_2 (ZA @ZbF (ZA @ZbD (@ZXG))));have tT:=ZZy;refine nz ?_;refine rg tT [0] ?_;refine rg tT [0,3] ?_;refine rg tT [0,3,4] ?_;refine WI.ownA 3 9 1 ?_;refine WI.loop (fun φ os=> ∃(j:Nat),φ= [(0,.x (.sl (rows ZI l))),(3,.ref 0 ((l.take j).map ZB).length 0 ((l.take j).map ZB).length),(4,.x (.int .i64 j))]∧os= [.rows false 9 1 (rows ZI ((l.take j).map ZB))]∧j≤l.length) (ZK l.length 4) ?_ (fun φ os hI=> ?_)
 ·exact⟨0,rfl,rfl,by omega⟩
 ·obtain⟨j,rfl,rfl,hj⟩:=hI;refine nz ?_;refine rg tT [0,3,4,8] ?_;refine cd (fun h0=> ?_) (fun h0=> ?_)
  ·have hj4:j<l.length:=by omega
   have hrw:=Yg l j hj4;have htk:(l.take (j+1)).map ZB=(l.take j).map ZB++ [ZB (l.getD j [])]:=by rw[List.take_succ_eq_append_getElem hj4,List.map_append];simp[hj4]
   have hd:=ZM (hn (l.getD j []) (by rw[show l.getD j []=l[j] by simp[hj4]];exact List.getElem_mem hj4));have hlen2:((l.take j).map ZB).length≤100000:=by rw[List.length_map,List.length_take];omega
   generalize l.getD j []=x at hrw htk hd;have uu:=ZA uu (ZA hrw hd);refine rg tT [0,3,4] ?_;refine WI.pickA [0] ?_;refine rg tT [0,3,4] ?_;exact⟨⟨j+1,by rw[htk,Zr];rfl,by rw[htk,QN],by omega⟩,by simp[ZK,Ab.get,D.val,ZE];omega⟩
  ·obtain rfl:j=l.length:=by omega
   rw[List.take_length];refine rg tT [2] ?_;refine WI.freezeA [0] ?_;refine WI.pickA [] ?_;refine lf ?_
   first|rfl|exact⟨rfl,rfl⟩|trivial
def ZBg:List D→Option (Bool×D)
 | [.x (.sl R)]=>(Zd ZI R).bind fun l=>some (decide (l.length≤100000∧ ∀x∈l,x.length≤1000000),.x (.sl (rows ZI (l.map ZB))))
 |_=>none
theorem ZTT: ∀args r,ZBg args=some (true,r)→ZD Tryz.prog 38 args r:=by
 intro args r h;unfold ZBg at h;split at h
 ·rename_i R;obtain⟨l,hr0,h⟩:=Zp h;simp only[Zg,Ze,ZY,Zi,true_and]at h;obtain⟨h1,rfl⟩:=h;rw[←ZR ZT hr0];exact(ZYC l h1.1 h1.2)
 ·cases h
def sD (T:List Zb) (C:List Zk):D:= .agg [.x (.sl (rows Zn T)),.x (.sl (rows Zu C))]
def Yw:List D→Option (Bool×D)
 | [.x (.str s)]=>some (decide (s.length≤140737488355328),.x (.str (ZB s)))
 |_=>none
theorem ZE5: ∀args r,Yw args=some (true,r)→ZD Tryz.prog 32 args r:=by
 intro args r h;unfold Yw at h;split at h
 ·rename_i s;simp only[Zg,Ze,ZY,Zi,true_and]at h;obtain⟨h1,rfl⟩:=h;exact(ZG4 s h1)
 ·cases h
def ZKV:Tabs:=Za (Za (ZW) 32 Yw) 38 ZBg
theorem ZOy:SsOk Tryz.prog ZKV:=ZL (ZL (ZG) (ZC ZH (p:=i32) rfl) ZE5) (ZC ZH (p:=i38) rfl) ZTT
theorem ZMh (a:List D):ZKV.q 32 a=Yw a:=rfl
theorem ZL1 (a:List D):ZKV.q 38 a=ZBg a:=rfl
theorem ZQh (f:FuncId) (a:List D) (o:List Ob):ZKV.r f a o=none:=rfl
theorem ZQs (f:FuncId) (a:List D) (o:List Ob):ZKV.k f a o=none:=rfl
theorem ZdT {T:List Zb} {k:Tx} {j:Nat} (h:ZS (Zs (T.take j)) k=none) (hj:j<T.length) (hne:ZB (T.getD j ([],0,false,())).1≠k):ZS (Zs (T.take (j+1))) k=none:=by
 rw[ZAr,ZGk]at h⊢;rw[List.take_succ_eq_append_getElem hj,List.map_append];intro hin;rcases List.mem_append.1 hin with h1|h1
 ·exact h h1
 ·refine hne ?_;simp[hj]at h1⊢;exact h1.symm
theorem Zcy {T:List Zb} {k:Tx} {j:Nat} (h:ZS (Zs (T.take j)) k=none) (hj:j<T.length) (he:ZB (T.getD j ([],0,false,())).1=k):ZS (Zs T) k=some (ZPK (T.getD j ([],0,false,()))):=by
 have hg:T.getD j ([],0,false,())=T[j]:=by simp[hj]
 rw[hg]at he⊢;have e:Zs T=Zs (T.take j)++((ZB T[j].1,ZPK T[j])::Zs (T.drop (j+1))):=by
  have e2:Zs (T[j]::T.drop (j+1))=(ZB T[j].1,ZPK T[j])::Zs (T.drop (j+1)):=rfl;rw[←e2,←List.drop_eq_getElem_cons hj];unfold Zs;rw[←List.map_append,List.take_append_drop]
 have h0:(Zs (T.take j)).find? (fun p=>decide (k=p.1))=none:=by unfold ZS at h;simpa using h
 unfold ZS;rw[e,List.find?_append,h0,Option.none_or,List.find?_cons_of_pos (by simpa using he.symm)];rfl
theorem ZQW (T:List Zb) (C:List Zk) (n:Tx) (hT:Jk T) (hn:n.length≤140737488355328):ZD Tryz.prog 13 [sD T C,.x (.str n)] (.tup [Ka (JH (Zs T) (ZB n)),.x (.bool (ZS (Zs T) (ZB n)).isSome)]):=by
 have hTl:=hT.1;have hdn:=ZM hn;unfold sD JH;rcases hm:ZS (Zs T) (ZB n)with _|t
 all_goals
  unfold Ka;refine ZN.pure (ZO (fz:=true) ZH (p:=i13) rfl _ (ξ rfl) _ (fun C0 E0=> ?_)) rfl;dsimp only[i13,qt,qi,qs,qb,qm,qa,qh,qj,qT,qF,qe,ql,qL,qf,q2,q3,q8,qz,qp,qP,qc,qk,qx,qy,qo,qr,qC,ZQ];have uu:=ZA @Yw.eq_1 (ZA @Yw.eq_2 (ZA hdn (ZA @ZQh (ZA @ZQs (ZA @ZMh (ZA @ZL1 (ZA @ZBg.eq_1 (@ZBg.eq_2))))))));have tT:=ZOy;refine nz ?_;refine rg tT [1,2,4] ?_;refine rg tT [1,2,4,6] ?_;refine WI.orderA [1,2,4,6] ?_;refine WI.loop (fun φ os=> ∃(j:Nat),φ= [(1,.x (.str n)),(2,.ptr 0 0),(4,.ptr 1 0),(6,.x (.int .i64 j))]∧os= [.box [.x (.sl (rows Zn T)),.x (.sl (rows Zu C))],.box [.x (.str []),.x (.int .i64 0),.x (.bool false)]]∧j≤T.length∧ZS (Zs (T.take j)) (ZB n)=none) (ZK T.length 6) ?_ (fun φ os hI=> ?_)
  ·exact⟨0,rfl,rfl,by omega,rfl⟩
  ·obtain⟨j,rfl,rfl,hj,hno⟩:=hI;refine nz ?_;refine rg tT [1,2,4,6,12] ?_;refine cd (fun h0=> ?_) (fun h0=> ?_)
   ·have hj4:j<T.length:=by omega
    have hrw:=ZCm T j hj4;have hy:=Zcy hno hj4;have hN:=ZdT hno hj4;have hxl:=hT.2 (T.getD j ([],0,false,())) (by rw[show T.getD j ([],0,false,())=T[j] by simp[hj4]];exact List.getElem_mem hj4);generalize T.getD j ([],0,false,())=x at hrw hy hN hxl;have hd47:decide (x.1.length≤140737488355328)=true:=ZM (by omega);have uu:=ZA uu (ZA hrw hd47);refine rg tT [1,2,4,6,24] ?_;refine cd (fun h1=> ?_) (fun h1=> ?_)
    ·have hx:ZB x.1=ZB n:=by simpa using h1
     have hy2:=hy hx;rw[hm]at hy2;refine rg tT [4,7] ?_;refine rg tT [4,7] ?_;refine rg tT [4,5] ?_;refine lf ?_
     first|(cases hy2;done)|(cases hy2;rfl)
    ·have hx: ¬ZB x.1=ZB n:=by simpa using h1
     have hno2:=hN hx;refine rg tT [1,2,4,6] ?_;exact⟨⟨j+1,rfl,rfl,by omega,hno2⟩,by simp[ZK,Ab.get,D.val,ZE];omega⟩
   ·refine rg tT [4,5] ?_;refine lf ?_;rw[YL (by omega)]at hno;rw[hm]at hno;first|rfl|(cases hno;done)
theorem Zdv {C:List Zk} {k:Tx} {j:Nat} (h:ZS (YJ (C.take j)) k=none) (hj:j<C.length) (hne:ZB (C.getD j ([],[],[],())).1≠k):ZS (YJ (C.take (j+1))) k=none:=by
 rw[ZAr,ZPP]at h⊢;rw[List.take_succ_eq_append_getElem hj,List.map_append];intro hin;rcases List.mem_append.1 hin with h1|h1
 ·exact h h1
 ·refine hne ?_;simp[hj]at h1⊢;exact h1.symm
theorem ZbU {C:List Zk} {k:Tx} {j:Nat} (h:ZS (YJ (C.take j)) k=none) (hj:j<C.length) (he:ZB (C.getD j ([],[],[],())).1=k):ZS (YJ C) k=some (ZAx (C.getD j ([],[],[],()))):=by
 have hg:C.getD j ([],[],[],())=C[j]:=by simp[hj]
 rw[hg]at he⊢;have e:YJ C=YJ (C.take j)++((ZB C[j].1,ZAx C[j])::YJ (C.drop (j+1))):=by
  have e2:YJ (C[j]::C.drop (j+1))=(ZB C[j].1,ZAx C[j])::YJ (C.drop (j+1)):=rfl;rw[←e2,←List.drop_eq_getElem_cons hj];unfold YJ;rw[←List.map_append,List.take_append_drop]
 have h0:(YJ (C.take j)).find? (fun p=>decide (k=p.1))=none:=by unfold ZS at h;simpa using h
 unfold ZS;rw[e,List.find?_append,h0,Option.none_or,List.find?_cons_of_pos (by simpa using he.symm)];rfl
def ZE1 (C:List Zk):Prop:=C.length≤100000∧ ∀x∈C,x.1.length≤1000000∧(x.2.1.length≤50000∧ ∀n∈x.2.1,n.length≤1000000)∧(x.2.2.1.length≤50000∧ ∀n∈x.2.2.1,n.length≤1000000)
instance (C:List Zk):Decidable (ZE1 C):=inferInstanceAs (Decidable (_∧_))
theorem ZZd (T:List Zb) (C:List Zk) (n:Tx) (hC:ZE1 C) (hn:n.length≤1000000):ZD Tryz.prog 15 [sD T C,.x (.str n)] (.tup [clD (clV (YJ C) (ZB n)),.x (.bool (ZS (YJ C) (ZB n)).isSome)]):=by
 have hCl:=hC.1;have hdn:decide (n.length≤140737488355328)=true:=ZM (by omega);unfold sD clV;rcases hm:ZS (YJ C) (ZB n)with _|t
 all_goals
  unfold clD;refine ZN.pure (ZO (fz:=true) ZH (p:=i15) rfl _ (ξ rfl) _ (fun C0 E0=> ?_)) rfl;dsimp only[i15,qt,qi,qs,qb,qm,qa,qh,qj,qT,qF,qe,ql,qL,qf,q2,q3,q8,qz,qp,qP,qc,qk,qx,qy,qo,qr,qC,ZQ];have uu:=ZA @Yw.eq_1 (ZA @Yw.eq_2 (ZA @ZBg.eq_1 (ZA @ZBg.eq_2 (ZA @ZGb (ZA hdn (ZA @ZQh (ZA @ZQs (ZA @ZMh (@ZL1)))))))));have tT:=ZOy;refine nz ?_;refine rg tT [1,2,4] ?_;refine rg tT [1,2,4,6] ?_;refine WI.nnA ?_;refine WI.orderA [1,2,4,6] ?_;refine WI.loop (fun φ os=> ∃(j:Nat),φ= [(1,.x (.str n)),(2,.ptr 0 0),(4,.ptr 1 0),(6,.x (.int .i64 j))]∧os= [.box [.x (.sl (rows Zn T)),.x (.sl (rows Zu C))],.box [.x (.str []),.x (.sl []),.x (.sl [])]]∧j≤C.length∧ZS (YJ (C.take j)) (ZB n)=none) (ZK C.length 6) ?_ (fun φ os hI=> ?_)
  ·exact⟨0,rfl,rfl,by omega,rfl⟩
  ·obtain⟨j,rfl,rfl,hj,hno⟩:=hI;refine nz ?_;refine rg tT [1,2,4,6,12] ?_;refine cd (fun h0=> ?_) (fun h0=> ?_)
   ·have hj4:j<C.length:=by omega
    have hrw:=ZFm C j hj4;have hy:=ZbU hno hj4;have hN:=Zdv hno hj4;have hxl:=hC.2 (C.getD j ([],[],[],())) (by rw[show C.getD j ([],[],[],())=C[j] by simp[hj4]];exact List.getElem_mem hj4);generalize C.getD j ([],[],[],())=x at hrw hy hN hxl;obtain⟨hx1,hx2,hx3⟩:=hxl;have hd47:decide (x.1.length≤140737488355328)=true:=ZM (by omega);have hd48:decide (x.2.1.length≤100000∧ ∀n∈x.2.1,n.length≤1000000)=true:=ZM ⟨by omega,hx2.2⟩;have hd49:decide (x.2.2.1.length≤100000∧ ∀n∈x.2.2.1,n.length≤1000000)=true:=ZM ⟨by omega,hx3.2⟩;have uu:=ZA uu (ZA hrw (ZA hd47 (ZA hd48 hd49)));refine rg tT [1,2,4,6,7] ?_;refine rg tT [1,2,4,6,7,25] ?_;refine cd (fun h1=> ?_) (fun h1=> ?_)
    ·have hx:ZB x.1=ZB n:=by simpa using h1
     have hy2:=hy hx;rw[hm]at hy2;refine WI.dregB tT [4,5] ?_;refine Zo ?_;refine YK ?_;refine QV ?_;refine Zo ?_;refine YK ?_;refine QV ?_;refine Zo ?_;refine YK ?_;refine dAC ?_;refine Ym ?_;refine dAG ?_;refine Zo ?_;refine dN ?_;refine nz ?_;refine lf ?_
     first|(cases hy2;done)|(cases hy2;rfl)
    ·have hx: ¬ZB x.1=ZB n:=by simpa using h1
     have hno2:=hN hx;refine WI.pickA [0,1] ?_;refine rg tT [1,2,4,6] ?_;exact⟨⟨j+1,rfl,rfl,by omega,hno2⟩,by simp[ZK,Ab.get,D.val,ZE];omega⟩
   ·refine rg tT [4,5] ?_;refine WI.nnA ?_;refine lf ?_;rw[YL (by omega)]at hno;rw[hm]at hno;first|rfl|(cases hno;done)
def ZBB:List D→Option (Bool×D)
 | [.agg [.x (.sl R),.x (.sl R2)],.x (.str n)]=>(Zd Zn R).bind fun T=>(Zd Zu R2).bind fun C=>some (decide (Jk T∧n.length≤1000000),.tup [Ka (JH (Zs T) (ZB n)),.x (.bool (ZS (Zs T) (ZB n)).isSome)])
 |_=>none
theorem ZMO: ∀args r,ZBB args=some (true,r)→ZD Tryz.prog 13 args r:=by
 intro args r h;unfold ZBB at h;split at h
 ·rename_i R R2 n;obtain⟨T,hr0,h⟩:=Zp h;obtain⟨C,hr1,h⟩:=Zp h;simp only[Zg,Ze,ZY,Zi,true_and]at h;obtain⟨h1,rfl⟩:=h;rw[←ZR YG hr0];rw[←ZR YM hr1];exact(ZQW T C n h1.1 (by omega))
 ·cases h
def ZDW:List D→Option (Bool×D)
 | [.agg [.x (.sl R),.x (.sl R2)],.x (.str n)]=>(Zd Zn R).bind fun T=>(Zd Zu R2).bind fun C=>some (decide (ZE1 C∧n.length≤1000000),.tup [clD (clV (YJ C) (ZB n)),.x (.bool (ZS (YJ C) (ZB n)).isSome)])
 |_=>none
theorem ZSr: ∀args r,ZDW args=some (true,r)→ZD Tryz.prog 15 args r:=by
 intro args r h;unfold ZDW at h;split at h
 ·rename_i R R2 n;obtain⟨T,hr0,h⟩:=Zp h;obtain⟨C,hr1,h⟩:=Zp h;simp only[Zg,Ze,ZY,Zi,true_and]at h;obtain⟨h1,rfl⟩:=h;rw[←ZR YG hr0];rw[←ZR YM hr1];exact(ZZd T C n h1.1 h1.2)
 ·cases h
def nmL (L:List (Tx×Zb)) (a:Zt):Tx:=(JH L (ZB a.1)).1
def ZEM (k:Int) (a b:Tx):Prop:=eqV k a b≠1
instance (k:Int) (a b:Tx):Decidable (ZEM k a b):=inferInstanceAs (Decidable (¬_))
def ZE9 (L:List (Tx×Zb)):List Tx→List Zt→Bool
 |_,[]=>false
 |S,a::l=>(decide (nmL L a∈S)|| !decide (a.2.1.Pairwise (ZEM (JH L (ZB a.1)).2.1)))||ZE9 L (S++ [nmL L a]) l
def ZIQ (L:List (Tx×Zb)) (l:List Zt):Int:=
 if ZE9 L [] l=true then 20 else if l.all (fun a=> !((JH L (ZB a.1)).2.2.1&&decide (1<a.2.1.length)))=true then 0 else 19
theorem ZXQ {α:Type} {P:α→α→Prop} {l:List α} {k:Nat} (h:k<l.length):(l.take (k+1)).Pairwise P↔(l.take k).Pairwise P∧ ∀x∈l.take k,P x l[k]:=by
 rw[List.take_succ_eq_append_getElem h,List.pairwise_append];simp
def ZGD:Tabs:=Za (JT (Za (Za (ZW) 13 ZBB) 42 inG) 42 (KN inG)) 91 ZCF
theorem ZYU:SsOk Tryz.prog ZGD:=ZL (Ye (ZL (ZL (ZG) (ZC ZH (p:=i13) rfl) ZMO) (ZC ZH (p:=i42) rfl) ZK0) (ZC ZH (p:=i42) rfl) (ZAq ZK0)) (ZC ZH (p:=i91) rfl) ZPk
theorem ZWZ (a:List D):ZGD.q 13 a=ZBB a:=rfl
theorem ZXF (a:List D):ZGD.q 42 a=inG a:=rfl
theorem ZVZ (a:List D) (o:List Ob):ZGD.t 42 a o=YW (KN inG) a o:=rfl
theorem ZVI (a:List D):ZGD.q 91 a=ZCF a:=rfl
theorem Zcc (f:FuncId) (a:List D) (o:List Ob):ZGD.r f a o=none:=rfl
theorem ZcP (f:FuncId) (a:List D) (o:List Ob):ZGD.k f a o=none:=rfl
set_option maxHeartbeats 4000000 in
theorem Zeb (T:List Zb) (C:List Zk) (e:Kl) (hT:Jk T) (he:smA e.2.1) (hv: ∀a∈e.2.1,∀v∈a.2.1,v.length≤1000000):ZD Tryz.prog 71 [sD T C,ZAM e] (.x (.int .i64 (ZIQ (Zs T) e.2.1))):=by
 obtain⟨dn,l,u⟩:=e;simp only at he hv⊢;have hll:l.length≤1000000:=he.1;rcases hres:ZIQ (Zs T) l with v
 unfold ZIQ at hres;have hTd:=ZM hT;unfold sD ZAM;refine ZN.pure (ZO (fz:=true) ZH (p:=i71) rfl _ (ξ rfl) _ (fun C0 E0=> ?_)) rfl;dsimp only[i71,qt,qi,qs,qb,qm,qa,qh,qj,qT,qF,qe,ql,qL,qf,q2,q3,q8,qz,qp,qP,qc,qk,qx,qy,qo,qr,qC,ZQ];have uu:=ZA @ZBB.eq_1 (ZA @ZBB.eq_2 (ZA @inG.eq_1 (ZA @inG.eq_2 (ZA @ZCF.eq_1 (ZA @ZCF.eq_2 (ZA @ZEe (ZA @ZGb (ZA @ZGu (ZA @@Ka.eq_1 (ZA @Zcc (ZA @ZcP (ZA @ZWZ (ZA @ZXF (ZA @ZVI (ZA @ZVZ (@KN.eq_1))))))))))))))));have tT:=ZYU;refine nz ?_;refine rg tT [2,3] ?_;refine rg tT [2,3,5] ?_;refine rg tT [2,3,5,6] ?_;refine WI.ownA 5 9 1 ?_;refine WI.loop (fun φ os=> ∃(i:Nat),φ= [(2,.ptr 0 0),(3,.ptr 1 0),(5,.ref 2 ((l.take i).map (nmL (Zs T))).length 0 ((l.take i).map (nmL (Zs T))).length),(6,.x (.int .i64 i))]∧os= [.box [.x (.sl (rows Zn T)),.x (.sl (rows Zu C))],.box [.x (.str dn),.x (.sl (rows YR l))],.rows false 9 1 (rows ZI ((l.take i).map (nmL (Zs T))))]∧i≤l.length∧ZE9 (Zs T) ((l.take i).map (nmL (Zs T))) (l.drop i)=ZE9 (Zs T) [] l) (ZK l.length 6) ?_ (fun φ os hI=> ?_)
 ·exact⟨0,rfl,rfl,by omega,rfl⟩
 ·obtain⟨i,rfl,rfl,hi,hdf⟩:=hI;refine nz ?_;refine rg tT [2,3,5,6,19] ?_;refine cd (fun h0=> ?_) (fun h0=> ?_)
  ·have hi4:i<l.length:=by omega
   have hrw:=ZBD l i hi4;have hdr:=ZHU l ([],[],()) i hi4;have hnt:(l.take (i+1)).map (nmL (Zs T))=(l.take i).map (nmL (Zs T))++ [nmL (Zs T) (l.getD i ([],[],()))]:=by rw[List.take_succ_eq_append_getElem hi4,List.map_append];simp[hi4]
   have hma:l.getD i ([],[],())∈l:=by rw[show l.getD i ([],[],())=l[i] by simp[hi4]];exact List.getElem_mem hi4
   generalize l.getD i ([],[],())=a at hrw hdr hma hnt;obtain⟨hna,hnv⟩:=he.2 a hma;have hva:=hv a hma;rw[hdr,ZE9]at hdf;obtain⟨an,vs,au⟩:=a;simp only at hna hnv hva hdf hrw hnt;obtain⟨t,ht⟩: ∃t,t=JH (Zs T) (ZB an):=⟨_,rfl⟩;have hnm:nmL (Zs T) (an,vs,au)=t.1:=by rw[ht];rfl
   rw[←ht,hnm]at hdf;rw[hnm]at hnt;have hSl:((l.take i).map (nmL (Zs T))).length≤1000000:=by rw[List.length_map,List.length_take];omega
   generalize(l.take i).map (nmL (Zs T))=S at hdf hnt hSl⊢;have hd1:decide (Jk T∧an.length≤1000000)=true:=ZM ⟨hT,hna⟩;have hd2:decide (S.length≤4000000000000)=true:=ZM (by omega);have hrt:(rows ZI S).take S.length=rows ZI S:=YL (by rw[YE];exact Nat.le_refl _);have uu:=ZA uu (ZA hrw (ZA ht.symm (ZA hd1 (ZA hd2 hrt))));refine WI.dregB tT [2,3,5,6,7] ?_;refine YK ?_;refine Zo ?_;refine YK ?_;refine Zo ?_;refine YK ?_;refine Zo ?_;refine YK ?_;refine QV ?_;refine Zo ?_
   iterate 2 refine Ym ?_
   refine dKG ?_;refine dAG ?_;refine Zo ?_;refine dN ?_;refine nz ?_;refine rg tT [2,3,5,6,7,36] ?_;refine cd (fun h1=> ?_) (fun h1=> ?_)
   ·have hin:t.1∈S:=by clear uu;grind
    rw[ZM hin,Bool.true_or,Bool.true_or]at hdf;refine rg tT [4] ?_;refine WI.nnA ?_;refine lf ?_;rw[←hdf,if_pos rfl]at hres;rw[hres]
   ·have hin: ¬t.1∈S:=by clear uu;grind
    rw[decide_eq_false hin,Bool.false_or]at hdf;refine rg tT [2,3,5,6,7] ?_;refine rg tT [2,3,5,6,7,9] ?_;refine rg tT [2,3,5,6,7,9,10] ?_;refine WI.pickA [0,1,2,3] ?_;refine WI.loop (fun φ os=> ∃(k:Nat),φ= [(2,.ptr 0 0),(3,.ptr 1 0),(5,.ref 2 (S.length+1) 0 (S.length+1)),(6,.x (.int .i64 i)),(7,.ptr 3 0),(9,.x (.sl (rows ZI vs))),(10,.x (.int .i64 k))]∧os= [.box [.x (.sl (rows Zn T)),.x (.sl (rows Zu C))],.box [.x (.str dn),.x (.sl (rows YR l))],.rows false 9 1 (rows ZI S++ [[X.str t.1]]),.box [.x (.str t.1),.x (.int .i64 t.2.1),.x (.bool t.2.2.1)]]∧k≤vs.length∧(vs.take k).Pairwise (ZEM t.2.1)) (ZK vs.length 10) ?_ (fun φ os hI=> ?_)
    ·exact⟨0,rfl,rfl,by omega,.nil⟩
    ·obtain⟨k,rfl,rfl,hk,hpw⟩:=hI;refine nz ?_;refine rg tT [2,3,5,6,7,9,10,51] ?_;refine cd (fun h2=> ?_) (fun h2=> ?_)
     ·have hk4:k<vs.length:=by omega
      have hrk:=Yg vs k hk4;refine rg tT [2,3,5,6,7,9,10,11] ?_;refine WI.loop (fun φ os=> ∃(j:Nat),φ= [(2,.ptr 0 0),(3,.ptr 1 0),(5,.ref 2 (S.length+1) 0 (S.length+1)),(6,.x (.int .i64 i)),(7,.ptr 3 0),(9,.x (.sl (rows ZI vs))),(10,.x (.int .i64 k)),(11,.x (.int .i64 j))]∧os= [.box [.x (.sl (rows Zn T)),.x (.sl (rows Zu C))],.box [.x (.str dn),.x (.sl (rows YR l))],.rows false 9 1 (rows ZI S++ [[X.str t.1]]),.box [.x (.str t.1),.x (.int .i64 t.2.1),.x (.bool t.2.2.1)]]∧j≤k∧ ∀x∈vs.take j,ZEM t.2.1 x (vs.getD k [])) (ZK k 11) ?_ (fun φ os hI=> ?_)
      ·exact⟨0,rfl,rfl,by omega,by simp⟩
      ·obtain⟨j,rfl,rfl,hj,hne⟩:=hI;refine nz ?_;refine rg tT [2,3,5,6,7,9,10,11,56] ?_;refine cd (fun h3=> ?_) (fun h3=> ?_)
       ·have hj4:j<k:=by omega
        have hrj:=Yg vs j (by omega);have hgj:vs.getD j []=vs[j]:=by simp[show j<vs.length by omega]
        have hgk:vs.getD k []=vs[k]:=by simp[hk4]
        have uu:=ZA uu (ZA hrk hrj);refine WI.dregB tT [2,3,5,6,7,9,10,11,70] ?_;refine Zo ?_;refine YK ?_
        iterate 2 refine Zo ?_
        iterate 2 refine YK ?_
        iterate 2 refine Zo ?_
        iterate 2 refine YK ?_
        refine dAC ?_;refine Ym ?_;refine dN ?_;refine nz ?_;refine cd (fun h4=> ?_) (fun h4=> ?_)
        ·have h1e:eqV t.2.1 (vs.getD j []) (vs.getD k [])=1:=by simpa using h4
         have hnp: ¬vs.Pairwise (ZEM t.2.1):=fun hp=>(List.pairwise_iff_getElem.1 hp j k (by omega) hk4 hj4) (by rw[←hgj,←hgk];exact h1e)
         rw[decide_eq_false hnp,Bool.not_false,Bool.true_or]at hdf;refine rg tT [4] ?_;refine WI.nnA ?_;refine lf ?_;rw[←hdf,if_pos rfl]at hres;rw[hres]
        ·have h1e: ¬eqV t.2.1 (vs.getD j []) (vs.getD k [])=1:=by simpa using h4
         have hne2: ∀x∈vs.take (j+1),ZEM t.2.1 x (vs.getD k []):=fun x hx=>by
          rw[List.take_succ_eq_append_getElem (by omega)]at hx;rcases List.mem_append.1 hx with h|h
          ·exact hne x h
          ·rw[List.mem_singleton.1 h,←hgj];exact h1e
         refine rg tT [2,3,5,6,7,9,10,11] ?_;exact⟨⟨j+1,rfl,rfl,by omega,hne2⟩,by simp[ZK,Ab.get,D.val,ZE];omega⟩
       ·obtain rfl:k=j:=by omega
        have hpw2:(vs.take (k+1)).Pairwise (ZEM t.2.1):=(ZXQ hk4).2 ⟨hpw,fun x hx=>by have:=hne x hx;rwa [show vs.getD k []=vs[k] by simp[hk4]]at this⟩;refine rg tT [2,3,5,6,7,9,10] ?_;exact⟨⟨k+1,rfl,rfl,by omega,hpw2⟩,by simp[ZK,Ab.get,D.val,ZE];omega⟩
     ·obtain rfl:k=vs.length:=by omega
      rw[List.take_length]at hpw;rw[ZM hpw,Bool.not_true,Bool.false_or]at hdf;refine WI.pickA [0,1,2] ?_;refine WI.orderA [2,3,5,6] ?_;refine rg tT [2,3,5,6] ?_;exact⟨⟨i+1,by rw[hnt,Zr];rfl,by rw[hnt,QN],by omega,by rw[hnt];exact hdf⟩,by simp[ZK,Ab.get,D.val,ZE];omega⟩
  ·obtain rfl:i=l.length:=by omega
   rw[List.drop_of_length_le (Nat.le_refl _),ZE9]at hdf;rw[←hdf,if_neg (by simp)]at hres;refine WI.pickA [0,1] ?_;refine WI.orderA [2,3] ?_;refine rg tT [2,3,12] ?_;refine WI.loop (fun φ os=> ∃(i:Nat),φ= [(2,.ptr 0 0),(3,.ptr 1 0),(12,.x (.int .i64 i))]∧os= [.box [.x (.sl (rows Zn T)),.x (.sl (rows Zu C))],.box [.x (.str dn),.x (.sl (rows YR l))]]∧i≤l.length∧(l.take i).all (fun a=> !((JH (Zs T) (ZB a.1)).2.2.1&&decide (1<a.2.1.length)))=true) (ZK l.length 12) ?_ (fun φ os hI=> ?_)
   ·exact⟨0,rfl,rfl,by omega,rfl⟩
   ·obtain⟨i,rfl,rfl,hi,hall⟩:=hI;refine nz ?_;refine rg tT [2,3,12,75] ?_;refine cd (fun h5=> ?_) (fun h5=> ?_)
    ·have hi4:i<l.length:=by omega
     have hrw:=ZBD l i hi4;have hga:l[i]=l.getD i ([],[],()):=by simp[hi4]
     have hal:=Zx (fun a:Zt=> !((JH (Zs T) (ZB a.1)).2.2.1&&decide (1<a.2.1.length))) l i hi4;have hno:(!((JH (Zs T) (ZB (l.getD i ([],[],())).1)).2.2.1&&decide (1<(l.getD i ([],[],())).2.1.length)))=false→l.all (fun a:Zt=> !((JH (Zs T) (ZB a.1)).2.2.1&&decide (1<a.2.1.length)))=false:=fun h=>ZZ (fun a:Zt=> !((JH (Zs T) (ZB a.1)).2.2.1&&decide (1<a.2.1.length))) l i hi4 (by rw[hga];exact h)
     have hma:l.getD i ([],[],())∈l:=by rw[←hga];exact List.getElem_mem hi4
     rw[hga]at hal;generalize l.getD i ([],[],())=a at hrw hma hal hno;obtain⟨hna,hnv⟩:=he.2 a hma;obtain⟨an,vs,au⟩:=a;simp only at hna hnv hrw hal hno;obtain⟨t,ht⟩: ∃t,t=JH (Zs T) (ZB an):=⟨_,rfl⟩;rw[←ht]at hal hno;have hd1:decide (Jk T∧an.length≤1000000)=true:=ZM ⟨hT,hna⟩;have uu:=ZA uu (ZA hrw (ZA ht.symm hd1));refine WI.dregB tT [2,3,12,13] ?_;refine YK ?_;refine Zo ?_;refine YK ?_;refine Zo ?_;refine YK ?_;refine Zo ?_;refine YK ?_;refine QV ?_;refine Zo ?_
     iterate 2 refine Ym ?_
     refine dKG ?_;refine dAG ?_;refine Zo ?_;refine dN ?_;refine nz ?_;refine rg tT [2,3,12,100] ?_;refine cd (fun h6=> ?_) (fun h6=> ?_)
     ·have hb:(t.2.2.1&&decide (1<vs.length))=true:=by clear uu;grind
      rw[hno (by rw[hb];rfl),if_neg (by simp)]at hres;refine rg tT [4] ?_;refine WI.nnA ?_;refine lf ?_;rw[hres]
     ·have hb:(t.2.2.1&&decide (1<vs.length))=false:=by clear uu;grind
      have hall2:(l.take (i+1)).all (fun a:Zt=> !((JH (Zs T) (ZB a.1)).2.2.1&&decide (1<a.2.1.length)))=true:=by rw[hal,hall,hb];rfl
      refine WI.pickA [0,1] ?_;refine WI.orderA [2,3,12] ?_;refine rg tT [2,3,12] ?_;exact⟨⟨i+1,rfl,rfl,by omega,hall2⟩,by simp[ZK,Ab.get,D.val,ZE];omega⟩
    ·refine rg tT [4] ?_;refine WI.nnA ?_;refine lf ?_;rw[YL (by omega)]at hall;rw[hall,if_pos rfl]at hres;rw[hres]
def smE (l:List Zt):Prop:=smA l∧ ∀a∈l,∀v∈a.2.1,v.length≤1000000
instance (l:List Zt):Decidable (smE l):=inferInstanceAs (Decidable (_∧_))
def ZIV:List D→Option (Bool×D)
 | [.agg [.x (.sl R),.x (.sl R2)],.agg [.x (.str dn),.x (.sl R3)]]=>(Zd Zn R).bind fun T=>(Zd Zu R2).bind fun C=>(Zd YR R3).bind fun l=>some (decide (Jk T∧smE l),.x (.int .i64 (ZIQ (Zs T) l)))
 |_=>none
theorem ZYe: ∀args r,ZIV args=some (true,r)→ZD Tryz.prog 71 args r:=by
 intro args r h;unfold ZIV at h;split at h
 ·rename_i R R2 dn R3;obtain⟨T,hr0,h⟩:=Zp h;obtain⟨C,hr1,h⟩:=Zp h;obtain⟨l,hr2,h⟩:=Zp h;simp only[Zg,Ze,ZY,Zi,true_and]at h;obtain⟨h1,rfl⟩:=h;rw[←ZR YG hr0];rw[←ZR YM hr1];rw[←ZR JK hr2];exact(Zeb T C (dn,l,()) h1.1 h1.2.1 h1.2.2)
 ·cases h
def v1F (L:List (Tx×Zb)) (a:Zt):Bool:=(ZS L (ZB a.1)).isSome
def v2F (a:Zt):Bool:= !decide (a.2.1.length=0)
def v3F (L:List (Tx×Zb)) (a:Zt):Bool:=a.2.1.all fun v=>(Yd (JH L (ZB a.1)).2.1 v).2
def ZDJ (L:List (Tx×Zb)) (l:List Zt):Int:=
 if l.all (v1F L)=true then(if l.all v2F=true then(if l.all (v3F L)=true then ZIQ L l else 21)else 19)else 17
def ZIi:Tabs:=Za (Za (Za (ZW) 13 ZBB) 71 ZIV) 70 ZAF
theorem ZYf:SsOk Tryz.prog ZIi:=ZL (ZL (ZL (ZG) (ZC ZH (p:=i13) rfl) ZMO) (ZC ZH (p:=i71) rfl) ZYe) (ZC ZH (p:=i70) rfl) ZKt
theorem ZWJ (a:List D):ZIi.q 13 a=ZBB a:=rfl
theorem ZU4 (a:List D):ZIi.q 71 a=ZIV a:=rfl
theorem ZVi (a:List D):ZIi.q 70 a=ZAF a:=rfl
theorem ZcW (f:FuncId) (a:List D) (o:List Ob):ZIi.r f a o=none:=rfl
theorem ZcK (f:FuncId) (a:List D) (o:List Ob):ZIi.k f a o=none:=rfl
set_option maxHeartbeats 4000000 in
theorem ZV7 (T:List Zb) (C:List Zk) (e:Kl) (hT:Jk T) (he:smE e.2.1):ZD Tryz.prog 41 [sD T C,ZAM e] (.x (.int .i64 (ZDJ (Zs T) e.2.1))):=by
 obtain⟨dn,l,u⟩:=e;simp only at he⊢;have hll:l.length≤1000000:=he.1.1;rcases hres:ZDJ (Zs T) l with v
 unfold ZDJ at hres;have hd0:decide (Jk T∧smE l)=true:=ZM ⟨hT,he⟩;unfold sD ZAM;refine ZN.pure (ZO (fz:=true) ZH (p:=i41) rfl _ (ξ rfl) _ (fun C0 E0=> ?_)) rfl;dsimp only[i41,qt,qi,qs,qb,qm,qa,qh,qj,qT,qF,qe,ql,qL,qf,q2,q3,q8,qz,qp,qP,qc,qk,qx,qy,qo,qr,qC,ZQ];have uu:=ZA @ZBB.eq_1 (ZA @ZBB.eq_2 (ZA @ZIV.eq_1 (ZA @ZIV.eq_2 (ZA @ZAF.eq_1 (ZA @ZAF.eq_2 (ZA @ZEe (ZA @ZGu (ZA @ZJ7 (ZA hd0 (ZA @@Ka.eq_1 (ZA @ZcW (ZA @ZcK (ZA @ZWJ (ZA @ZVi (@ZU4)))))))))))))));have tT:=ZYf;refine nz ?_;refine rg tT [2,3] ?_;refine rg tT [2,3,5] ?_;refine WI.orderA [2,3,5] ?_;refine WI.loop (fun φ os=> ∃(i:Nat),φ= [(2,.ptr 0 0),(3,.ptr 1 0),(5,.x (.int .i64 i))]∧os= [.box [.x (.sl (rows Zn T)),.x (.sl (rows Zu C))],.box [.x (.str dn),.x (.sl (rows YR l))]]∧i≤l.length∧(l.take i).all (v1F (Zs T))=true) (ZK l.length 5) ?_ (fun φ os hI=> ?_)
 ·exact⟨0,rfl,rfl,by omega,rfl⟩
 ·obtain⟨i,rfl,rfl,hi,hall⟩:=hI;refine nz ?_;refine rg tT [2,3,5,19] ?_;refine cd (fun h0=> ?_) (fun h0=> ?_)
  ·have hi4:i<l.length:=by omega
   have hrw:=ZBD l i hi4;have hga:l[i]=l.getD i ([],[],()):=by simp[hi4]
   have hal:=Zx (v1F (Zs T)) l i hi4;have hno:v1F (Zs T) (l.getD i ([],[],()))=false→l.all (v1F (Zs T))=false:=fun h=>ZZ (v1F (Zs T)) l i hi4 (by rw[hga];exact h)
   have hma:l.getD i ([],[],())∈l:=by rw[←hga];exact List.getElem_mem hi4
   rw[hga]at hal;generalize l.getD i ([],[],())=a at hrw hma hal hno;obtain⟨hna,hnv⟩:=he.1.2 a hma;have hv1:v1F (Zs T) a=(ZS (Zs T) (ZB a.1)).isSome:=rfl;have hd1:decide (Jk T∧a.1.length≤1000000)=true:=ZM ⟨hT,hna⟩;have uu:=ZA uu (ZA hrw hd1);refine WI.dregB tT [2,3,5,7] ?_;refine YK ?_;refine Zo ?_;refine YK ?_;refine Zo ?_;refine YK ?_;refine Zo ?_;refine YK ?_;refine QV ?_;refine Zo ?_
   iterate 2 refine Ym ?_
   refine dKG ?_;refine dAG ?_;refine Zo ?_;refine dN ?_;refine nz ?_;refine rg tT [2,3,5,34] ?_;refine cd (fun h1=> ?_) (fun h1=> ?_)
   ·have hb:v1F (Zs T) a=false:=by rw[hv1];clear uu;grind
    rw[hno hb,if_neg (by simp)]at hres;refine rg tT [4] ?_;refine lf ?_;rw[hres]
   ·have hb:v1F (Zs T) a=true:=by rw[hv1];clear uu;grind
    have hall2:(l.take (i+1)).all (v1F (Zs T))=true:=by rw[hal,hall,hb];rfl
    refine WI.pickA [0,1] ?_;refine WI.orderA [2,3,5] ?_;refine rg tT [2,3,5] ?_;exact⟨⟨i+1,rfl,rfl,by omega,hall2⟩,by simp[ZK,Ab.get,D.val,ZE];omega⟩
  ·rw[YL (by omega)]at hall;rw[hall,if_pos rfl]at hres;refine rg tT [2,3,8] ?_;refine WI.orderA [2,3,8] ?_;refine WI.loop (fun φ os=> ∃(i:Nat),φ= [(2,.ptr 0 0),(3,.ptr 1 0),(8,.x (.int .i64 i))]∧os= [.box [.x (.sl (rows Zn T)),.x (.sl (rows Zu C))],.box [.x (.str dn),.x (.sl (rows YR l))]]∧i≤l.length∧(l.take i).all v2F=true) (ZK l.length 8) ?_ (fun φ os hI=> ?_)
   ·exact⟨0,rfl,rfl,by omega,rfl⟩
   ·obtain⟨i,rfl,rfl,hi,hall⟩:=hI;refine nz ?_;refine rg tT [2,3,8,39] ?_;refine cd (fun h2=> ?_) (fun h2=> ?_)
    ·have hi4:i<l.length:=by omega
     have hrw:=ZBD l i hi4;have hga:l[i]=l.getD i ([],[],()):=by simp[hi4]
     have hal:=Zx v2F l i hi4;have hno:v2F (l.getD i ([],[],()))=false→l.all v2F=false:=fun h=>ZZ v2F l i hi4 (by rw[hga];exact h)
     rw[hga]at hal;generalize l.getD i ([],[],())=a at hrw hal hno;have hv1:v2F a= !decide (a.2.1.length=0):=rfl;have uu:=ZA uu hrw;refine rg tT [2,3,8,49] ?_;refine cd (fun h3=> ?_) (fun h3=> ?_)
     ·have hb:v2F a=false:=by rw[hv1];clear uu;simp at h3⊢;exact h3
      rw[hno hb,if_neg (by simp)]at hres;refine rg tT [4] ?_;refine lf ?_;rw[hres]
     ·have hb:v2F a=true:=by rw[hv1];clear uu;simp at h3⊢;exact h3
      have hall2:(l.take (i+1)).all v2F=true:=by rw[hal,hall,hb];rfl
      refine rg tT [2,3,8] ?_;exact⟨⟨i+1,rfl,rfl,by omega,hall2⟩,by simp[ZK,Ab.get,D.val,ZE];omega⟩
    ·rw[YL (by omega)]at hall;rw[hall,if_pos rfl]at hres;refine rg tT [2,3,9] ?_;refine WI.orderA [2,3,9] ?_;refine WI.loop (fun φ os=> ∃(i:Nat),φ= [(2,.ptr 0 0),(3,.ptr 1 0),(9,.x (.int .i64 i))]∧os= [.box [.x (.sl (rows Zn T)),.x (.sl (rows Zu C))],.box [.x (.str dn),.x (.sl (rows YR l))]]∧i≤l.length∧(l.take i).all (v3F (Zs T))=true) (ZK l.length 9) ?_ (fun φ os hI=> ?_)
     ·exact⟨0,rfl,rfl,by omega,rfl⟩
     ·obtain⟨i,rfl,rfl,hi,hall⟩:=hI;refine nz ?_;refine rg tT [2,3,9,54] ?_;refine cd (fun h4=> ?_) (fun h4=> ?_)
      ·have hi4:i<l.length:=by omega
       have hrw:=ZBD l i hi4;have hga:l[i]=l.getD i ([],[],()):=by simp[hi4]
       have hal:=Zx (v3F (Zs T)) l i hi4;have hno:v3F (Zs T) (l.getD i ([],[],()))=false→l.all (v3F (Zs T))=false:=fun h=>ZZ (v3F (Zs T)) l i hi4 (by rw[hga];exact h)
       have hma:l.getD i ([],[],())∈l:=by rw[←hga];exact List.getElem_mem hi4
       rw[hga]at hal;generalize l.getD i ([],[],())=a at hrw hma hal hno;obtain⟨hna,hnv⟩:=he.1.2 a hma;obtain⟨an,vs,au⟩:=a;simp only at hna hnv hrw hal hno;obtain⟨t,ht⟩: ∃t,t=JH (Zs T) (ZB an):=⟨_,rfl⟩;have hv1:v3F (Zs T) (an,vs,au)=vs.all fun v=>(Yd t.2.1 v).2:=by rw[ht];rfl
       have hd1:decide (Jk T∧an.length≤1000000)=true:=ZM ⟨hT,hna⟩;have uu:=ZA uu (ZA hrw (ZA ht.symm hd1));refine WI.dregB tT [2,3,9,10] ?_;refine YK ?_;refine Zo ?_;refine YK ?_;refine Zo ?_;refine YK ?_;refine Zo ?_;refine YK ?_;refine QV ?_;refine Zo ?_
       iterate 2 refine Ym ?_
       refine dKG ?_;refine dAG ?_;refine Zo ?_;refine dN ?_;refine nz ?_;refine rg tT [2,3,9,10,12] ?_;refine WI.orderA [2,3,9,10,12] ?_;refine WI.loop (fun φ os=> ∃(k:Nat),φ= [(2,.ptr 0 0),(3,.ptr 1 0),(9,.x (.int .i64 i)),(10,.ptr 2 0),(12,.x (.int .i64 k))]∧os= [.box [.x (.sl (rows Zn T)),.x (.sl (rows Zu C))],.box [.x (.str dn),.x (.sl (rows YR l))],.box [.x (.str t.1),.x (.int .i64 t.2.1),.x (.bool t.2.2.1)]]∧k≤vs.length∧(vs.take k).all (fun v=>(Yd t.2.1 v).2)=true) (ZK vs.length 12) ?_ (fun φ os hI=> ?_)
       ·exact⟨0,rfl,rfl,by omega,rfl⟩
       ·obtain⟨k,rfl,rfl,hk,hka⟩:=hI;refine nz ?_;refine rg tT [2,3,9,10,12,76] ?_;refine cd (fun h5=> ?_) (fun h5=> ?_)
        ·have hk4:k<vs.length:=by omega
         have hrk:=Yg vs k hk4;have hgk:vs[k]=vs.getD k []:=by simp[hk4]
         have hak:=Zx (fun v=>(Yd t.2.1 v).2) vs k hk4;have hnk:(Yd t.2.1 (vs.getD k [])).2=false→vs.all (fun v=>(Yd t.2.1 v).2)=false:=fun h=>ZZ (fun v=>(Yd t.2.1 v).2) vs k hk4 (by rw[hgk];exact h)
         rw[hgk]at hak;generalize vs.getD k []=y at hrk hak hnk;have uu:=ZA uu hrk;refine WI.dregB tT [2,3,9,10,12,14] ?_;refine Zo ?_;refine YK ?_;refine Zo ?_;refine YK ?_;refine Zo ?_;refine YK ?_;refine Zo ?_;refine YK ?_;refine Zo ?_
         iterate 2 refine YK ?_
         refine dAC ?_;refine Zo ?_
         iterate 2 refine Ym ?_
         iterate 2 refine Zo ?_
         refine dN ?_;refine nz ?_;refine rg tT [2,3,9,10,12,95] ?_;refine cd (fun h6=> ?_) (fun h6=> ?_)
         ·have hb:(Yd t.2.1 y).2=false:=by clear uu;grind
          rw[hno (by rw[hv1];exact hnk hb),if_neg (by simp)]at hres;refine rg tT [4] ?_;refine lf ?_;rw[hres]
         ·have hb:(Yd t.2.1 y).2=true:=by clear uu;grind
          have hka2:(vs.take (k+1)).all (fun v=>(Yd t.2.1 v).2)=true:=by rw[hak,hka,hb];rfl
          refine rg tT [2,3,9,10,12] ?_;exact⟨⟨k+1,rfl,rfl,by omega,hka2⟩,by simp[ZK,Ab.get,D.val,ZE];omega⟩
        ·obtain rfl:k=vs.length:=by omega
         rw[List.take_length]at hka;have hall2:(l.take (i+1)).all (v3F (Zs T))=true:=by rw[hal,hall,hv1,hka];rfl
         refine WI.pickA [0,1] ?_;refine WI.orderA [2,3,9] ?_;refine rg tT [2,3,9] ?_;exact⟨⟨i+1,rfl,rfl,by omega,hall2⟩,by simp[ZK,Ab.get,D.val,ZE];omega⟩
      ·rw[YL (by omega)]at hall;rw[hall,if_pos rfl]at hres;refine rg tT [4] ?_;refine lf ?_;rw[hres]
def ZCN:List D→Option (Bool×D)
 | [.agg [.x (.sl R),.x (.sl R2)],.agg [.x (.str dn),.x (.sl R3)]]=>(Zd Zn R).bind fun T=>(Zd Zu R2).bind fun C=>(Zd YR R3).bind fun l=>some (decide (Jk T∧smE l),.x (.int .i64 (ZDJ (Zs T) l)))
 |_=>none
theorem ZPt: ∀args r,ZCN args=some (true,r)→ZD Tryz.prog 41 args r:=by
 intro args r h;unfold ZCN at h;split at h
 ·rename_i R R2 dn R3;obtain⟨T,hr0,h⟩:=Zp h;obtain⟨C,hr1,h⟩:=Zp h;obtain⟨l,hr2,h⟩:=Zp h;simp only[Zg,Ze,ZY,Zi,true_and]at h;obtain⟨h1,rfl⟩:=h;rw[←ZR YG hr0];rw[←ZR YM hr1];rw[←ZR JK hr2];exact(ZV7 T C (dn,l,()) h1.1 h1.2)
 ·cases h
def ocF (M:List (Tx×Zk)) (cs:List Tx) (h:Tx):Bool:=decide (h=OC)||decide (h∈Kz M cs)
def ZLW (L:List (Tx×Zb)) (M:List (Tx×Zk)) (l:List Zt):Int:=
 if ZDJ L l≠0 then ZDJ L l else if(ZAN l).length=0 then 65 else if(ZAN l).all (ZAL M (KD l))=true then(if(KD l).all (ocF M (ZAN l))=true then 0 else 65)else 65
theorem ZU6 {C:List Zk} (h:ZE1 C) (k:Tx):(clV (YJ C) k).2.1.length≤50000∧(clV (YJ C) k).2.2.1.length≤50000:=by
 unfold clV;rcases hm:ZS (YJ C) k with _|c
 ·simp
 ·obtain⟨x,hx,e⟩:=List.mem_map.1 (ZHz hm);have:=h.2 x hx;simp only[Ze]at e;rw[←e.2];simp only[Option.getD_some,ZAx,List.length_map];exact⟨this.2.1.1,this.2.2.1⟩
theorem ZK8 {C:List Zk} (h:ZE1 C): ∀cs:List Tx,(Kz (YJ C) cs).length≤cs.length*100000
 | []=>by simp[Kz]
 |n::cs=>by
  have:=ZK8 h cs;have:=ZU6 h (ZB n);unfold Kz at*;rw[List.flatMap_cons,Zr,Zr,Jz];omega
def ZEf:Tabs:=JT (Za (Za (Za (Za (ZW) 41 ZCN) 15 ZDW) 32 ZAI) 42 inG) 42 (KN inG)
theorem ZX1:SsOk Tryz.prog ZEf:=Ye (ZL (ZL (ZL (ZL (ZG) (ZC ZH (p:=i41) rfl) ZPt) (ZC ZH (p:=i15) rfl) ZSr) (ZC ZH (p:=i32) rfl) ZJy) (ZC ZH (p:=i42) rfl) ZK0) (ZC ZH (p:=i42) rfl) (ZAq ZK0)
theorem ZVv (a:List D):ZEf.q 41 a=ZCN a:=rfl
theorem ZUS (a:List D):ZEf.q 15 a=ZDW a:=rfl
theorem ZVl (a:List D):ZEf.q 32 a=ZAI a:=rfl
theorem ZVp (a:List D):ZEf.q 42 a=inG a:=rfl
theorem ZUK (a:List D) (o:List Ob):ZEf.t 42 a o=YW (KN inG) a o:=rfl
theorem Zck (f:FuncId) (a:List D) (o:List Ob):ZEf.r f a o=none:=rfl
theorem Zcl (f:FuncId) (a:List D) (o:List Ob):ZEf.k f a o=none:=rfl
set_option maxHeartbeats 4000000 in
theorem ZYj (T:List Zb) (C:List Zk) (e:Kl) (hT:Jk T) (hC:ZE1 C) (he:smE e.2.1):ZD Tryz.prog 18 [sD T C,ZAM e] (.x (.int .i64 (ZLW (Zs T) (YJ C) e.2.1))):=by
 obtain⟨dn,l,u⟩:=e;simp only at he⊢;have hll:l.length≤1000000:=he.1.1;obtain⟨hcl,hcv⟩:=ZQb he.1 he.2;have hoc:(OC:Tx)= [111,98,106,101,99,116,99,108,97,115,115]:=rfl;rcases hres:ZLW (Zs T) (YJ C) l with v
 unfold ZLW at hres;have hd0:decide (Jk T∧smE l)=true:=ZM ⟨hT,he⟩;unfold sD ZAM;refine ZN.pure (ZO (fz:=true) ZH (p:=i18) rfl _ (ξ rfl) _ (fun C0 E0=> ?_)) rfl;dsimp only[i18,qt,qi,qs,qb,qm,qa,qh,qj,qT,qF,qe,ql,qL,qf,q2,q3,q8,qz,qp,qP,qc,qk,qx,qy,qo,qr,qC,ZQ];have uu:=ZA @ZCN.eq_1 (ZA @ZCN.eq_2 (ZA @ZDW.eq_1 (ZA @ZDW.eq_2 (ZA @ZAI.eq_1 (ZA @ZAI.eq_2 (ZA @inG.eq_1 (ZA @inG.eq_2 (ZA @ZEe (ZA @ZGb (ZA @ZGu (ZA @ZJ7 (ZA hd0 (ZA @Zck (ZA @Zcl (ZA @ZUS (ZA @ZVl (ZA @ZVv (ZA @ZVp (ZA @ZUK (@KN.eq_1))))))))))))))))))));have tT:=ZX1;refine nz ?_;refine rg tT [2,3] ?_;refine rg tT [2,3,5] ?_;refine rg tT [2,3,5,19] ?_;refine cd (fun h0=> ?_) (fun h0=> ?_)
 ·rw[if_pos (by simpa using h0)]at hres;refine rg tT [4] ?_;refine lf ?_;rw[hres]
 ·rw[if_neg (by simpa using h0)]at hres;refine rg tT [2,3,6,7,8] ?_;refine rg tT [2,3,6,7,8,9] ?_;refine WI.ownA 6 9 1 ?_;refine WI.ownA 8 9 1 ?_;refine WI.nnA ?_;refine WI.orderA [2,3,6,7,8,9] ?_;refine WI.loop (fun φ os=> ∃(i:Nat),φ= [(2,.ptr 0 0),(3,.ptr 1 0),(6,.ref 2 (KD (l.take i)).length 0 (KD (l.take i)).length),(7,.x (.sl (rows ZI (ZAN (l.take i))))),(8,.ref 3 0 0 0),(9,.x (.int .i64 i))]∧os= [.box [.x (.sl (rows Zn T)),.x (.sl (rows Zu C))],.box [.x (.str dn),.x (.sl (rows YR l))],.rows false 9 1 (rows ZI (KD (l.take i))),.rows false 9 1 []]∧i≤l.length) (ZK l.length 9) ?_ (fun φ os hI=> ?_)
  ·exact⟨0,rfl,rfl,by omega⟩
  ·obtain⟨i,rfl,rfl,hi⟩:=hI;refine nz ?_;refine rg tT [2,3,6,7,8,9,25] ?_;refine cd (fun h1=> ?_) (fun h1=> ?_)
   ·have hi4:i<l.length:=by omega
    have hrw:=ZBD l i hi4;have hnt:=ZMC l i hi4;have hct:=ZMZ l i hi4;have hma:l.getD i ([],[],())∈l:=by rw[show l.getD i ([],[],())=l[i] by simp[hi4]];exact List.getElem_mem hi4
    generalize l.getD i ([],[],())=a at hrw hnt hct hma;have hd1:=ZM (he.1.2 a hma).1;have hnl:(KD (l.take i)).length≤1000000:=by unfold KD;rw[List.length_map,List.length_take];omega
    have uu:=ZA uu (ZA hrw hd1);refine rg tT [2,3,6,7,8,9] ?_;refine rg tT [2,3,6,7,8,9,45] ?_;refine cd (fun h2=> ?_) (fun h2=> ?_)
    ·rw[if_pos (by rw[hoc];simpa using h2)]at hct;refine rg tT [2,3,6,7,8,9] ?_;refine WI.pickA [0,1,2,3] ?_;refine WI.orderA [2,3,6,7,8,9] ?_;refine rg tT [2,3,6,7,8,9] ?_;exact⟨⟨i+1,by rw[hnt,hct,Zr];first|done|rfl,by rw[hnt,QN],by omega⟩,by simp[ZK,Ab.get,D.val,ZE];omega⟩
    ·rw[if_neg (fun e=>h2 (e.trans hoc))]at hct;refine WI.pickA [0,1,2,3] ?_;refine WI.orderA [2,3,6,7,8,9] ?_;refine rg tT [2,3,6,7,8,9] ?_;exact⟨⟨i+1,by rw[hnt,hct,Zr];first|done|rfl,by rw[hnt,QN],by omega⟩,by simp[ZK,Ab.get,D.val,ZE];omega⟩
   ·obtain rfl:i=l.length:=by omega
    rw[List.take_length];have hHl:(KD l).length≤1000000:=by unfold KD;rw[List.length_map];omega
    generalize KD l=H at hres hHl⊢;generalize ZAN l=cs at hres hcl hcv⊢;refine rg tT [2,6,7,8,54] ?_;refine cd (fun h3=> ?_) (fun h3=> ?_)
    ·rw[if_pos (by simpa using h3)]at hres;refine rg tT [4] ?_;refine lf ?_;rw[hres]
    ·rw[if_neg (by simpa using h3)]at hres;refine rg tT [2,6,7,8,10] ?_;refine WI.orderA [2,6,7,8,10] ?_;refine WI.loop (fun φ os=> ∃(i:Nat),φ= [(2,.ptr 0 0),(6,.ref 2 H.length 0 H.length),(7,.x (.sl (rows ZI cs))),(8,.ref 3 (Kz (YJ C) (cs.take i)).length 0 (Kz (YJ C) (cs.take i)).length),(10,.x (.int .i64 i))]∧os= [.box [.x (.sl (rows Zn T)),.x (.sl (rows Zu C))],.box [.x (.str dn),.x (.sl (rows YR l))],.rows false 9 1 (rows ZI H),.rows false 9 1 (rows ZI (Kz (YJ C) (cs.take i)))]∧i≤cs.length∧(cs.take i).all (ZAL (YJ C) H)=true) (ZK cs.length 10) ?_ (fun φ os hI=> ?_)
     ·exact⟨0,rfl,rfl,by omega,rfl⟩
     ·obtain⟨i,rfl,rfl,hi,hall⟩:=hI;refine nz ?_;refine rg tT [2,6,7,8,10,58] ?_;refine cd (fun h4=> ?_) (fun h4=> ?_)
      ·have hi4:i<cs.length:=by omega
       have hrw:=Yg cs i hi4;have hmt:=ZLp (YJ C) cs i hi4;have hgi:cs[i]=cs.getD i []:=by simp[hi4]
       have hnl:(cs.getD i []).length≤1000000:=by rw[←hgi];exact hcv _ (List.getElem_mem hi4)
       have hal:=Zx (ZAL (YJ C) H) cs i hi4;have hno:ZAL (YJ C) H (cs.getD i [])=false→cs.all (ZAL (YJ C) H)=false:=fun h=>ZZ (ZAL (YJ C) H) cs i hi4 (by rw[hgi];exact h)
       rw[hgi]at hal;have hYl:=ZK8 hC (cs.take i);rw[List.length_take]at hYl;have hYm:(Kz (YJ C) (cs.take i)).length≤100000000000:=Nat.le_trans hYl (Nat.le_trans (Nat.mul_le_mul_right _ (show min i cs.length≤1000000 by omega)) (by omega));generalize Kz (YJ C) (cs.take i)=Y at hmt hYm⊢;generalize cs.getD i []=n at hrw hmt hnl hal hno;have hb:=ZU6 hC (ZB n);have hcd:ZAL (YJ C) H n=((ZS (YJ C) (ZB n)).isSome&&(clV (YJ C) (ZB n)).2.1.all fun x=>decide (x∈H)):=rfl;obtain⟨c,hc⟩: ∃c,c=clV (YJ C) (ZB n):=⟨_,rfl⟩;rw[←hc]at hmt hb hcd;have hd1:decide (ZE1 C∧n.length≤1000000)=true:=ZM ⟨hC,hnl⟩;have uu:=ZA uu (ZA hrw (ZA hc.symm (ZA (@clD.eq_1) hd1)));refine WI.dregB tT [2,6,7,8,10,11,12] ?_;refine YK ?_
       iterate 2 refine Zo ?_
       iterate 2 refine YK ?_
       refine QV ?_;refine Zo ?_
       iterate 2 refine Ym ?_
       refine dKG ?_;refine dAG ?_;refine Zo ?_;refine dN ?_;refine nz ?_;refine rg tT [2,6,7,8,10,11,71] ?_;refine cd (fun h5=> ?_) (fun h5=> ?_)
       ·have hb5:ZAL (YJ C) H n=false:=by rw[hcd];clear uu;grind
        rw[hno hb5,if_neg (by simp)]at hres;refine rg tT [4] ?_;refine lf ?_;rw[hres]
       ·have hso:(ZS (YJ C) (ZB n)).isSome=true:=by clear uu;grind
        rw[hso,Bool.true_and]at hcd;refine rg tT [2,6,7,8,10,11,13] ?_;refine WI.orderA [2,6,7,8,10,11,13] ?_;refine WI.loop (fun φ os=> ∃(k:Nat),φ= [(2,.ptr 0 0),(6,.ref 2 H.length 0 H.length),(7,.x (.sl (rows ZI cs))),(8,.ref 3 Y.length 0 Y.length),(10,.x (.int .i64 i)),(11,.ptr 4 0),(13,.x (.int .i64 k))]∧os= [.box [.x (.sl (rows Zn T)),.x (.sl (rows Zu C))],.box [.x (.str dn),.x (.sl (rows YR l))],.rows false 9 1 (rows ZI H),.rows false 9 1 (rows ZI Y),.box [.x (.str c.1),.x (.sl (rows ZI c.2.1)),.x (.sl (rows ZI c.2.2.1))]]∧k≤c.2.1.length∧(c.2.1.take k).all (fun x=>decide (x∈H))=true) (ZK c.2.1.length 13) ?_ (fun φ os hI=> ?_)
        ·exact⟨0,rfl,rfl,by omega,rfl⟩
        ·obtain⟨k,rfl,rfl,hk,hka⟩:=hI;refine nz ?_;refine rg tT [2,6,7,8,10,11,13,76] ?_;refine cd (fun h6=> ?_) (fun h6=> ?_)
         ·have hk4:k<c.2.1.length:=by omega
          have hrk:=Yg c.2.1 k hk4;have hgk:c.2.1[k]=c.2.1.getD k []:=by simp[hk4]
          have hak:=Zx (fun x=>decide (x∈H)) c.2.1 k hk4;have hnk:c.2.1.getD k []∉H→c.2.1.all (fun x=>decide (x∈H))=false:=fun h=>ZZ (fun x=>decide (x∈H)) c.2.1 k hk4 (by rw[hgk];exact decide_eq_false h)
          rw[hgk]at hak;generalize c.2.1.getD k []=x at hrk hak hnk;have hd2:decide (H.length≤4000000000000)=true:=ZM (by omega);have hrt:(rows ZI H).take H.length=rows ZI H:=YL (by rw[YE];exact Nat.le_refl _);have uu:=ZA uu (ZA hrk (ZA hd2 hrt));refine rg tT [2,6,7,8,10,11,13,86] ?_;refine cd (fun h7=> ?_) (fun h7=> ?_)
          ·have hxn:x∉H:=by clear uu;grind
           rw[hno (by rw[hcd];exact hnk hxn),if_neg (by simp)]at hres;refine rg tT [4] ?_;refine lf ?_;rw[hres]
          ·have hxi:x∈H:=by clear uu;grind
           have hka2:(c.2.1.take (k+1)).all (fun x=>decide (x∈H))=true:=by rw[hak,hka,ZM hxi];rfl
           refine rg tT [2,6,7,8,10,11,13] ?_;exact⟨⟨k+1,rfl,rfl,by omega,hka2⟩,by simp[ZK,Ab.get,D.val,ZE];omega⟩
         ·obtain rfl:k=c.2.1.length:=by omega
          rw[List.take_length]at hka;rw[hka]at hcd;have hall2:(cs.take (i+1)).all (ZAL (YJ C) H)=true:=by rw[hal,hall,hcd];rfl
          refine rg tT [2,6,7,8,10,11] ?_;refine rg tT [2,6,7,8,10] ?_;refine WI.pickA [0,1,2,3] ?_;refine WI.orderA [2,6,7,8,10] ?_;refine rg tT [2,6,7,8,10] ?_;exact⟨⟨i+1,by rw[hmt,Zr,Zr,Nat.add_assoc];first|done|rfl,by rw[hmt];simp[rows,List.append_assoc],by omega,hall2⟩,by simp[ZK,Ab.get,D.val,ZE];omega⟩
      ·obtain rfl:i=cs.length:=by omega
       rw[List.take_length]at hall⊢;rw[hall,if_pos rfl]at hres;have hYl:=ZK8 hC cs;have hYm:(Kz (YJ C) cs).length≤100000000000:=Nat.le_trans hYl (Nat.le_trans (Nat.mul_le_mul_right _ hcl) (by omega));generalize hYY:Kz (YJ C) cs=Y at hYm⊢;refine WI.orderA [6,8] ?_;refine rg tT [6,8,14] ?_;refine WI.orderA [6,8,14] ?_;refine WI.loop (fun φ os=> ∃(i:Nat),φ= [(6,.ref 2 H.length 0 H.length),(8,.ref 3 Y.length 0 Y.length),(14,.x (.int .i64 i))]∧os= [.box [.x (.sl (rows Zn T)),.x (.sl (rows Zu C))],.box [.x (.str dn),.x (.sl (rows YR l))],.rows false 9 1 (rows ZI H),.rows false 9 1 (rows ZI Y)]∧i≤H.length∧(H.take i).all (ocF (YJ C) cs)=true) (ZK H.length 14) ?_ (fun φ os hI=> ?_)
       ·exact⟨0,rfl,rfl,by omega,rfl⟩
       ·obtain⟨i,rfl,rfl,hi,hall⟩:=hI;refine nz ?_;refine rg tT [6,8,14,98] ?_;refine cd (fun h8=> ?_) (fun h8=> ?_)
        ·have hi4:i<H.length:=by omega
         have hrw:=Yg H i hi4;have hgi:H[i]=H.getD i []:=by simp[hi4]
         have hal:=Zx (ocF (YJ C) cs) H i hi4;have hno:ocF (YJ C) cs (H.getD i [])=false→H.all (ocF (YJ C) cs)=false:=fun h=>ZZ (ocF (YJ C) cs) H i hi4 (by rw[hgi];exact h)
         rw[hgi]at hal;generalize H.getD i []=x at hrw hal hno;have hof:ocF (YJ C) cs x=(decide (x= [111,98,106,101,99,116,99,108,97,115,115])||decide (x∈Y)):=by rw[←hYY,←hoc];rfl
         have hd2:decide (Y.length≤4000000000000)=true:=ZM (by omega);have hrt:(rows ZI Y).take Y.length=rows ZI Y:=YL (by rw[YE];exact Nat.le_refl _);have uu:=ZA uu (ZA hrw (ZA hd2 hrt));by_cases hxo:x= [111,98,106,101,99,116,99,108,97,115,115]
         ·have hg:(x== [111,98,106,101,99,116,99,108,97,115,115])=true:=by rw[hxo];exact beq_self_eq_true _
          have uu:=ZA uu hg;refine rg tT [6,8,14,114] ?_;refine ce (fun h9=> ?_) (fun h9=> ?_)
          ·simp at h9
          ·have hall2:(H.take (i+1)).all (ocF (YJ C) cs)=true:=by rw[hal,hall,hof,ZM hxo];rfl
           refine rg tT [6,8,14] ?_;exact⟨⟨i+1,rfl,rfl,by omega,hall2⟩,by simp[ZK,Ab.get,D.val,ZE];omega⟩
         ·have hg:(x== [111,98,106,101,99,116,99,108,97,115,115])=false:=by rw[beq_eq_false_iff_ne];exact hxo
          have uu:=ZA uu hg;refine rg tT [6,8,14,114] ?_;refine cd (fun h9=> ?_) (fun h9=> ?_)
          ·have hxn:x∉Y:=by clear uu;grind
           rw[hno (by rw[hof,decide_eq_false hxo,decide_eq_false hxn];rfl),if_neg (by simp)]at hres;refine rg tT [4] ?_;refine lf ?_;rw[hres]
          ·have hxi:x∈Y:=by clear uu;grind
           have hall2:(H.take (i+1)).all (ocF (YJ C) cs)=true:=by rw[hal,hall,hof,ZM hxi,Bool.or_true];rfl
           refine rg tT [6,8,14] ?_;exact⟨⟨i+1,rfl,rfl,by omega,hall2⟩,by simp[ZK,Ab.get,D.val,ZE];omega⟩
        ·refine rg tT [4] ?_;refine lf ?_;rw[YL (by omega)]at hall;rw[hall,if_pos rfl]at hres;rw[hres]
theorem ZIf {g:Zb→Zt→Int} {L:List (Tx×Zb)} {P:Zt→Bool} {k:Int} (hk:k≠0) (l:List Zt) (h: ∀a∈l,g (JH L (ZB a.1)) a=if P a=true then 0 else k):goA g L l=if l.all P=true then 0 else k:=by
 induction l with
 |nil=>rfl
 |cons a l ih=>
  have ha:=h a List.mem_cons_self;have ih:=ih (fun x hx=>h x (List.mem_cons_of_mem _ hx));unfold goA;rw[ha,List.all_cons];cases hp:P a
  ·simp[hk]
  ·rw[if_neg (by simp),Bool.true_and];exact ih
def ZOp (L:List (Tx×Zb)):Prop:= ∀p∈L,p.2.1≠ []
instance (L:List (Tx×Zb)):Decidable (ZOp L):=inferInstanceAs (Decidable (∀p∈L,_))
theorem ZVn {L:List (Tx×Zb)} (h:ZOp L) (k:Tx):((JH L k).1= [])=((ZS L k).isSome=false):=by
 unfold JH;rcases hm:ZS L k with _|t
 ·simp
 ·have:=h _ (ZHz hm);simp only[Option.getD_some,Option.isSome_some,Bool.true_eq_false,eq_iff_iff,iff_false];exact this
theorem Ze4 {k:Int} {l:List Tx} (h:l.all (fun v=>(Yd k v).2)=true):twV k l= !decide (l.Pairwise (ZEM k)):=by
 unfold twV;congr 1;rw[decide_eq_decide,List.Nodup,List.pairwise_map];have hv: ∀v∈l,(Yd k v).2=true:=by simpa using h
 constructor
 ·intro hp;refine hp.imp_of_mem fun {a b} ha hb hne=> ?_
  unfold ZEM eqV;rw[if_pos ⟨hv a ha,hv b hb⟩,if_neg (show ¬(Yd k a).1=(Yd k b).1 from hne)];decide
 ·intro hp;refine hp.imp_of_mem fun {a b} ha hb hne=> ?_
  unfold ZEM eqV at hne;rw[if_pos ⟨hv a ha,hv b hb⟩]at hne;intro e;exact hne (if_pos e)
theorem ZUT (L:List (Tx×Zb)): ∀(l:List Zt) (S:Sn) (S':List Tx),(∀k,(0<Ki S k↔k∈S')∧0≤Ki S k)→l.all (v3F L)=true→(goS L S l).1=if ZE9 L S' l=true then 20 else 0
 | [],S,S',_,_=>by simp[goS,ZE9]
 |a::l,S,S',hS,hv=>by
  rw[List.all_cons,ZY]at hv;have ht:=Ze4 (k:=(JH L (ZB a.1)).2.1) hv.1;have hS2: ∀k,(0<Ki (snS S (JH L (ZB a.1)).1) k↔k∈S'++ [nmL L a])∧0≤Ki (snS S (JH L (ZB a.1)).1) k:=by
   intro k;rw[ZRH];have h1:=hS k;have h2:=hS (JH L (ZB a.1)).1;have e:nmL L a=(JH L (ZB a.1)).1:=rfl;rw[e,List.mem_append,List.mem_singleton];split
   ·rename_i hk;subst hk;exact⟨⟨fun _=> .inr rfl,fun _=>by omega⟩,by omega⟩
   ·rename_i hk;exact⟨⟨fun h=> .inl (h1.1.1 h),fun h=>by rcases h with h|h;exact h1.1.2 h;exact absurd h hk⟩,h1.2⟩
  have ih:=ZUT L l _ _ hS2 hv.2;have hm:0<Ki S (JH L (ZB a.1)).1↔nmL L a∈S':=(hS _).1;unfold goS ZE9 w4;rw[ht];by_cases h1:nmL L a∈S'
  ·have h0:=hm.2 h1;simp[h1,h0]
  ·have h0: ¬0<Ki S (JH L (ZB a.1)).1:=fun h=>h1 (hm.1 h)
   by_cases h2:a.2.1.Pairwise (ZEM (JH L (ZB a.1)).2.1)
   ·rw[ZM h2,decide_eq_false h1];simp only[h0,Bool.not_true,Bool.false_or,Bool.false_eq_true,or_self,if_false,ne_eq,not_true_eq_false];exact ih
   ·simp[h0,h1,h2]
theorem Zc1 {L:List (Tx×Zb)} (h:ZOp L) (l:List Zt):ZEV L l=ZDJ L l:=by
 have e1:goA w1 L l=if l.all (v1F L)=true then 0 else 17:=ZIf (by decide) l (fun a _=>by
  unfold w1 v1F;have hf:=ZVn h (ZB a.1);cases hb:(ZS L (ZB a.1)).isSome
  ·rw[if_pos (by rw[hf];exact hb)];rfl
  ·rw[if_neg (by rw[hf,hb];decide)];rfl)
 have e2:goA w2 L l=if l.all v2F=true then 0 else 19:=ZIf (by decide) l (fun a _=>by
  unfold w2 v2F;by_cases h:a.2.1.length=0<;>simp[h])
 have e3:goA w3 L l=if l.all (v3F L)=true then 0 else 21:=ZIf (by decide) l (fun a _=>rfl)
 have e5:goA w5 L l=if l.all (fun a=> !((JH L (ZB a.1)).2.2.1&&decide (1<a.2.1.length)))=true then 0 else 19:=ZIf (by decide) l (fun a _=>by
  unfold w5;cases h1:(JH L (ZB a.1)).2.2.1<;>by_cases h2:1<a.2.1.length<;>simp[h1,h2])
 unfold ZEV ZDJ ZIQ;rw[e1,e2,e3,e5];by_cases h1:l.all (v1F L)=true
 ·by_cases h2:l.all v2F=true
  ·by_cases h3:l.all (v3F L)=true
   ·have e4:=ZUT L l [] [] (fun k=>⟨by simp[Ki,ZS],by simp[Ki,ZS]⟩) h3;rw[e4];simp only[h1,h2,h3,if_true,ne_eq,not_true_eq_false,if_false];by_cases h4:ZE9 L [] l=true<;>simp[h4]
   ·simp[h1,h2,h3]
  ·simp[h1,h2]
 ·simp[h1]
theorem ZeJ {L:List (Tx×Zb)} (M:List (Tx×Zk)) (h:ZOp L) (l:List Zt):ZFE L M l=ZLW L M l:=by
 unfold ZFE ZLW;rw[Zc1 h];have e:(KD l).all (fun h=>decide (h∈OC::Kz M (ZAN l)))=(KD l).all (ocF M (ZAN l)):=by
  congr 1;funext x;unfold ocF;rw[Bool.eq_iff_iff];simp
 rw[e];by_cases h0:ZDJ L l≠0
 ·rw[if_pos h0,if_pos h0]
 ·rw[if_neg h0,if_neg h0];rcases hc:ZAN l with _|⟨c,cs⟩
  ·simp
  ·generalize(c::cs).all (ZAL M (KD l))=b1;generalize(KD l).all (ocF M (c::cs))=b2;cases b1<;>cases b2<;>simp
end Go.Proofs.YtpjfdjcejamebaaGreatDoor
end
