import Derived.Test.YtpjfdjcejamebaaGreatDoorMA2
import Derived.Test.YtpjfdjcejamebaaGreatDoorLA5
import Derived.Test.YtpjfdjcejamebaaGreatDoorSh
import Derived.Sort.KeysCollected
import Derived.Test.YtpjfdjcejamebaaGreatDoorIc
import Derived.Shelf.Spec.SlicesGrow
import Derived.Test.YtpjfdjcejamebaaGreatDoorMA1
set_option linter.unusedSimpArgs false
set_option linter.unusedVariables false
section
namespace Go.Proofs.YtpjfdjcejamebaaGreatDoor
open Go.RowKit Go.Bo Go.Ab
def smA (l:List Zv):Prop:=l.length≤1000000∧ ∀a∈l,a.1.length≤1000000∧a.2.1.length≤1000000
instance (l:List Zv):Decidable (smA l):=by unfold smA;infer_instance
def ZEQ (g:Zi→Zv→Int) (dn:Tx) (A:List (List X)) (P1 P2:List Pr):Option (Bool×D×List Ob):=
 (Ke ZJ Zw P1).bind fun L=>(Ke ZJ YW P2).bind fun M=>(Zg YP A).bind fun l=>some (decide (smA l),.x (.int .i64 (goA g L l)),Qa L M)
def ZNi (dn:Tx) (A:List (List X)) (P1 P2 P3:List Pr):Option (Bool×D×List Ob):=
 (Ke ZJ Zw P1).bind fun L=>(Ke ZJ YW P2).bind fun M=>(Ke ZJ (ZBZ .i64) P3).bind fun S=>(Zg YP A).bind fun l=>some (decide (smA l)&&decide (S.length=0),.x (.int .i64 (goS L S l).1),sc5 L M (goS L S l).2)
def ZBJ:List D→List Ob→Option (Bool×D×List Ob)
 | [.ptr 0 0,.agg [.x (.str dn),.x (.sl A)],.fn 62 []],[.box [.mref 1,.mref 2],.mpo .str true P1,.mpo .str true P2]=>ZEQ w1 dn A P1 P2
 | [.ptr 0 0,.agg [.x (.str dn),.x (.sl A)],.fn 63 []],[.box [.mref 1,.mref 2],.mpo .str true P1,.mpo .str true P2]=>ZEQ w2 dn A P1 P2
 | [.ptr 0 0,.agg [.x (.str dn),.x (.sl A)],.fn 64 []],[.box [.mref 1,.mref 2],.mpo .str true P1,.mpo .str true P2]=>ZEQ w3 dn A P1 P2
 | [.ptr 0 0,.agg [.x (.str dn),.x (.sl A)],.fn 66 [.ptr 3 0]],[.box [.mref 1,.mref 2],.mpo .str true P1,.mpo .str true P2,.box [.mref 4],.mpo .str false P3]=>ZNi dn A P1 P2 P3
 | [.ptr 0 0,.agg [.x (.str dn),.x (.sl A)],.fn 68 []],[.box [.mref 1,.mref 2],.mpo .str true P1,.mpo .str true P2]=>ZEQ w5 dn A P1 P2
 |_,_=>none
theorem ZU2:Enters Tryz.prog 62:=ZB ZH (p:=i62) rfl
theorem ZVq:Enters Tryz.prog 63:=ZB ZH (p:=i63) rfl
theorem ZUl:Enters Tryz.prog 64:=ZB ZH (p:=i64) rfl
theorem ZWj:Enters Tryz.prog 68:=ZB ZH (p:=i68) rfl
theorem ZEp {f:FuncId} {g:Zi→Zv→Int} (hen:Enters Tryz.prog f) (hg: ∀t (a:Zv),a.2.1.length≤1000000→ZC Tryz.prog f [QA t,atD a] (.x (.int .i64 (g t a)))) {dn:Tx} {A:List (List X)} {P1 P2:List Pr} {r:D} {os':List Ob} (h:ZEQ g dn A P1 P2=some (true,r,os')):
  ZU Tryz.prog 69 [.ptr 0 0,.agg [.x (.str dn),.x (.sl A)],.fn f []] [.box [.mref 1,.mref 2],.mpo .str true P1,.mpo .str true P2] r os':=by
 unfold ZEQ at h;obtain⟨L,k1,h⟩:=Zr h;obtain⟨M,k2,h⟩:=Zr h;obtain⟨l,k3,h⟩:=Zr h;simp only[Zf,Zc,Zj]at h;obtain⟨⟨hl,hn⟩,rfl,rfl⟩:=h;rw[Yo Zb YM k1,Yo Zb Yc k2,←ZX JW k3];exact ZYw L M (dn,l,()) f g hen (fun t a ha=>hg t a (hn a ha).2) hl (fun a ha=>(hn a ha).1)
theorem ZTj: ∀args os r os',ZBJ args os=some (true,r,os')→ZU Tryz.prog 69 args os r os':=by
 intro args os r os' h;unfold ZBJ at h;split at h
 ·exact ZEp ZU2 (fun t a _=>Zeo t a) h
 ·exact ZEp ZVq (fun t a _=>Zet t a) h
 ·exact ZEp ZUl (fun t a hl=>Ze3 t a hl) h
 ·unfold ZNi at h;obtain⟨L,k1,h⟩:=Zr h;obtain⟨M,k2,h⟩:=Zr h;obtain⟨S,k4,h⟩:=Zr h;obtain⟨l,k3,h⟩:=Zr h;simp only[Zf,Zc,ZW,Zj]at h;obtain⟨⟨⟨hl,hn⟩,hS⟩,rfl,rfl⟩:=h;rw[Yo Zb YM k1,Yo Zb Yc k2,Yo Zb (Qq .i64) k4,←ZX JW k3];obtain rfl:=List.eq_nil_of_length_eq_zero hS;exact ZY3 L M (_,l,()) [] (fun k=>by simp[Kn,ZR]) hl hn
 ·exact ZEp ZWj (fun t a _=>Zew t a) h
 ·cases h
def ZEq (L:List (Tx×Zi)) (l:List Zv):Int:=
 if goA w1 L l≠0 then goA w1 L l else if goA w2 L l≠0 then goA w2 L l else if goA w3 L l≠0 then goA w3 L l else if(goS L [] l).1≠0 then(goS L [] l).1 else goA w5 L l
theorem ZKU (l:List Zv):Zg YP (rows YP l)=some l:=JS JW l
def ZG7:Tabs:=JR (ZV) 69 ZBJ
theorem ZXC:SsOk Tryz.prog ZG7:=Yl (ZG) (ZB ZH (p:=i69) rfl) ZTj
theorem ZTH (a:List D):ZG7.q 69 a=none:=rfl
theorem ZR5 (a:List D) (o:List Ob):ZG7.t 69 a o=YU ZBJ a o:=rfl
theorem ZXO (f:FuncId) (a:List D) (o:List Ob):ZG7.r f a o=none:=rfl
theorem ZZM (f:FuncId) (a:List D) (o:List Ob):ZG7.k f a o=none:=rfl
theorem ZZX (L:List (Tx×Zi)) (M:List (Tx×Zt)) (e:Ky) (he:smA e.2.1):ZU Tryz.prog 39 [.ptr 0 0,ZAT e] (Qa L M) (.x (.int .i64 (ZEq L e.2.1))) (Qa L M):=by
 obtain⟨dn,l,u⟩:=e;simp only at he⊢;have hsm:=ZM he;have hO:=Ql L M;have h1:=ZEd L;have h2:=ZEr M;have h3:Ke ZJ (ZBZ .i64) []=some []:=rfl;rcases hv:ZEq L l with v
 unfold ZEq at hv;unfold ZAT;refine ZN.mcallsX (ZP (fz:=true) ZH (p:=i39) rfl _ (ξ rfl) _ (fun C0 E0=> ?_)) (by first|decide|(simp;done)) hO (by first|rfl|exact hR);dsimp only[i39,qt,qi,qs,qb,qm,qa,qh,qj,qT,qF,qe,ql,qL,qf,q2,q3,q8,qz,qp,qP,qc,qk,qx,qy,qo,qr,qC,ZQ];have uu:=ZA @ZBJ.eq_1 (ZA @ZBJ.eq_2 (ZA @ZBJ.eq_3 (ZA @ZBJ.eq_4 (ZA @ZBJ.eq_5 (ZA @ZBJ.eq_6 (ZA @ZEQ.eq_1 (ZA @ZNi.eq_1 (ZA h1 (ZA h2 (ZA h3 (ZA @ZZw (ZA @ZKU (ZA hsm (ZA @ZAK (ZA @ZAG (ZA @ZBP (ZA @ZBK (ZA @Ko (ZA @Kp (ZA @Ka (ZA @ZAE (ZA @KN (ZA @ZXO (ZA @ZZM (ZA @ZTH (@ZR5))))))))))))))))))))))))));have tT:=ZXC;refine nz ?_;refine rg tT [0,3] ?_;refine rg tT [0,3,5] ?_;refine rg tT [0,3,11,12] ?_;refine WI.loopN 6 ?_;refine WI.round ?_;refine nz ?_;refine rg tT [0,3,11,12,13] ?_;refine ct (fun h0=> ?_) (fun h0=> ?_)
 ·refine rg tT [0,3,7,11,12] ?_;refine rg tT [0,3,8,11,12] ?_;refine rg tT [0,3,8,11,12,20] ?_;refine cd (fun h1=> ?_) (fun h1=> ?_)
  ·refine rg tT [4] ?_;refine lf ?_;refine⟨?_,_,rfl⟩;clear uu;grind
  ·refine rg tT [0,3,11,12] ?_;refine WI.round ?_;refine nz ?_;refine rg tT [0,3,11,12,13] ?_;refine ct (fun h0=> ?_) (fun h0=> ?_)
   ·refine rg tT [0,3,7,11,12] ?_;refine rg tT [0,3,8,11,12] ?_;refine rg tT [0,3,8,11,12,20] ?_;refine cd (fun h1=> ?_) (fun h1=> ?_)
    ·refine rg tT [4] ?_;refine lf ?_;refine⟨?_,_,rfl⟩;clear uu;grind
    ·refine rg tT [0,3,11,12] ?_;refine WI.round ?_;refine nz ?_;refine rg tT [0,3,11,12,13] ?_;refine ct (fun h0=> ?_) (fun h0=> ?_)
     ·refine rg tT [0,3,7,11,12] ?_;refine rg tT [0,3,8,11,12] ?_;refine rg tT [0,3,8,11,12,20] ?_;refine cd (fun h1=> ?_) (fun h1=> ?_)
      ·refine rg tT [4] ?_;refine lf ?_;refine⟨?_,_,rfl⟩;clear uu;grind
      ·refine rg tT [0,3,11,12] ?_;refine WI.round ?_;refine nz ?_;refine rg tT [0,3,11,12,13] ?_;refine ct (fun h0=> ?_) (fun h0=> ?_)
       ·refine rg tT [0,3,7,11,12] ?_;refine rg tT [0,3,8,11,12] ?_;refine rg tT [0,3,8,11,12,20] ?_;refine cd (fun h1=> ?_) (fun h1=> ?_)
        ·refine rg tT [4] ?_;refine lf ?_;refine⟨?_,_,rfl⟩;clear uu;grind
        ·refine rg tT [0,3,11,12] ?_;refine WI.round ?_;refine nz ?_;refine rg tT [0,3,11,12,13] ?_;refine ct (fun h0=> ?_) (fun h0=> ?_)
         ·refine rg tT [0,3,7,11,12] ?_;refine rg tT [0,3,8,11,12] ?_;refine rg tT [0,3,8,11,12,20] ?_;refine cd (fun h1=> ?_) (fun h1=> ?_)
          ·refine rg tT [4] ?_;refine lf ?_;refine⟨?_,_,rfl⟩;clear uu;grind
          ·refine rg tT [0,3,11,12] ?_;refine WI.round ?_;refine nz ?_;refine rg tT [0,3,11,12,13] ?_;refine ce (fun h0=> ?_) (fun h0=> ?_)
           ·exact absurd h0 (by decide)
           ·refine rg tT [4] ?_;refine lf ?_;refine⟨?_,_,rfl⟩;clear uu;grind
         ·exact absurd h0 (by decide)
       ·exact absurd h0 (by decide)
     ·exact absurd h0 (by decide)
   ·exact absurd h0 (by decide)
 ·exact absurd h0 (by decide)
def ZDt:List D→List Ob→Option (Bool×D×List Ob)
 | [.ptr 0 0,.agg [.x (.str dn),.x (.sl R)]],[.box [.mref 1,.mref 2],.mpo .str true P1,.mpo .str true P2]=>(Ke ZJ Zw P1).bind fun L=>(Ke ZJ YW P2).bind fun M=>(Zg YP R).bind fun l=>some (decide (smA l),.x (.int .i64 (ZEq L l)),[.box [.mref 1,.mref 2],.mpo .str true (Km L),.mpo .str true (Kz M)])
 |_,_=>none
theorem ZSB: ∀args os r os',ZDt args os=some (true,r,os')→ZU Tryz.prog 39 args os r os':=by
 intro args os r os' h;unfold ZDt at h;split at h
 ·rename_i dn R P1 P2;obtain⟨L,hm0,h⟩:=Zr h;obtain⟨M,hm1,h⟩:=Zr h;obtain⟨l,hr0,h⟩:=Zr h;simp only[Zf,Zc,ZW,Zj,true_and]at h;obtain⟨h1,rfl,rfl⟩:=h;rw[Yo Zb YM hm0];rw[Yo Zb Yc hm1];rw[←ZX JW hr0];exact ZZX L M (dn,l,()) h1
 ·cases h
def OC:Tx:= [111,98,106,101,99,116,99,108,97,115,115]
def snL (l:List Tx):Sn:=l.foldl snS []
theorem ZI5 (l:List Tx) (k:Tx):snL (l++ [k])=snS (snL l) k:=by unfold snL;rw[List.foldl_append];rfl
theorem ZEO (l:List Tx) (k:Tx):ZR (snL l) k=if k∈l then some (l.count k:Int)else none:=by
 suffices h: ∀(n:Nat) (l:List Tx),l.length=n→ZR (snL l) k=if k∈l then some (l.count k:Int)else none from h _ l rfl
 intro n
 induction n with
 |zero=>intro l hl;obtain rfl:=List.eq_nil_of_length_eq_zero hl;rfl
 |succ n ihn=>
  intro l hl;rcases List.eq_nil_or_concat l with rfl|⟨l0,x,rfl⟩
  ·simp at hl
  have ih:=ihn l0 (by simpa using hl);rw[List.concat_eq_append,ZI5];unfold snS;rw[ZJz];by_cases h:k=x
  ·subst h;rw[if_pos rfl,if_pos (by simp)];unfold Kn;rw[ih,List.count_append];by_cases hk:k∈l0
   ·rw[if_pos hk];simp
   ·rw[if_neg hk,List.count_eq_zero_of_not_mem hk];simp
  ·rw[if_neg h,ih,List.count_append];have hx: ¬x=k:=fun e=>h e.symm
   by_cases hk:k∈l0
   ·rw[if_pos hk,if_pos (by simp[hk])];simp[hx]
   ·rw[if_neg hk,if_neg (by simp[hk,h])]
abbrev snM (l:List Tx):List Pr:=YS Jo Kl (snL l)
theorem ZCX {l:List Tx} {k:Tx} (h:k∈l):JL (snM l) [X.str k]=some [D.x (X.int .i64 (l.count k))]:=by
 rw[ZO3,ZEO,if_pos h];rfl
theorem ZD9 {l:List Tx} {k:Tx} (h:k∉l):JL (snM l) [X.str k]=none:=by
 rw[ZO3,ZEO,if_neg h];rfl
theorem ZNo {l:List Tx} {k:Tx} (h:k∈l):Yf (snM l) [X.str k] [D.x (X.int .i64 ((l.count k:Int)+1))]=snM (l++ [k]):=by
 rw[ZJx];unfold snM;rw[ZI5];unfold snS Kn;rw[ZEO,if_pos h];rfl
theorem ZFf {l:List Tx} {k:Tx} (h:k∉l):Yf (snM l) [X.str k] [D.x (X.int .i64 1)]=snM (l++ [k]):=by
 rw[ZJx];unfold snM;rw[ZI5];unfold snS Kn;rw[ZEO,if_neg h];rfl
theorem ZMx (l:List Tx) (k:Tx):k∈l↔ ∃n,(k,n)∈snL l:=by
 have key: ∀(S:Sn) (k:Tx),(ZR S k).isSome=true↔ ∃n,(k,n)∈S:=by
  intro S k
  induction S with
  |nil=>simp[ZR]
  |cons p S ih=>
   by_cases h:k=p.1
   ·subst h;simp[ZR];exact⟨p.2,.inl rfl⟩
   ·have e:ZR (p::S) k=ZR S k:=by simp[ZR,h]
    rw[e,ih];constructor
    ·rintro⟨n,hn⟩;exact⟨n,List.mem_cons_of_mem _ hn⟩
    ·rintro⟨n,hn⟩;rcases List.mem_cons.1 hn with hh|hh
     ·exact absurd (congrArg Prod.fst hh) h
     ·exact⟨n,hh⟩
 rw[←key,ZEO];split<;>simp_all
def KH (l:List Zv):List Tx:=l.map fun a=>ZD a.1
def ZAU (l:List Zv):List Tx:=l.foldl (fun c a=>if ZD a.1=OC then a.2.1 else c) []
def QB (M:List (Tx×Zt)) (cs:List Tx):List Tx:=cs.flatMap fun n=>(clV M (ZD n)).2.1++(clV M (ZD n)).2.2.1
def ZAV (M:List (Tx×Zt)) (H:List Tx) (n:Tx):Bool:=(ZR M (ZD n)).isSome&&(clV M (ZD n)).2.1.all fun x=>decide (x∈H)
def ZE6 (L:List (Tx×Zi)) (M:List (Tx×Zt)) (l:List Zv):Int:=
 if ZEq L l≠0 then ZEq L l
 else if((ZAU l).all (ZAV M (KH l))&&((KH l).all (fun h=>decide (h∈OC::QB M (ZAU l)))&&decide (ZAU l≠ [])))=true then 0 else 65
theorem ZLU (l:List Zv) (i:Nat) (h:i<l.length):KH (l.take (i+1))=KH (l.take i)++ [ZD (l.getD i ([],[],())).1]:=by
 unfold KH;rw[List.take_succ_eq_append_getElem h,List.map_append];simp[h]
theorem ZLg (l:List Zv) (i:Nat) (h:i<l.length):ZAU (l.take (i+1))=if ZD (l.getD i ([],[],())).1=OC then(l.getD i ([],[],())).2.1 else ZAU (l.take i):=by
 unfold ZAU;rw[List.take_succ_eq_append_getElem h,List.foldl_append];simp[h]
theorem ZQQ {l:List Zv} (h:smA l) (hv: ∀a∈l,∀v∈a.2.1,v.length≤1000000):(ZAU l).length≤1000000∧ ∀v∈ZAU l,v.length≤1000000:=by
 have key: ∀(m:List Zv) (c:List Tx),(∀a∈m,a∈l)→(c.length≤1000000∧ ∀v∈c,v.length≤1000000)→(m.foldl (fun c a=>if ZD a.1=OC then a.2.1 else c) c).length≤1000000∧ ∀v∈m.foldl (fun c a=>if ZD a.1=OC then a.2.1 else c) c,v.length≤1000000:=by
  intro m
  induction m with
  |nil=>intro c _ hc;exact hc
  |cons a m ih=>
   intro c hm hc;rw[List.foldl_cons];refine ih _ (fun x hx=>hm x (List.mem_cons_of_mem _ hx)) ?_;split
   ·exact⟨(h.2 a (hm a List.mem_cons_self)).2,hv a (hm a List.mem_cons_self)⟩
   ·exact hc
 exact key l [] (fun _ h=>h) (by simp)
def bdC (M:List (Tx×Zt)):Prop:= ∀k,(clV M k).2.1.length≤1000000∧(clV M k).2.2.1.length≤1000000
theorem ZLj (M:List (Tx×Zt)) (cs:List Tx) (i:Nat) (h:i<cs.length):QB M (cs.take (i+1))=QB M (cs.take i)++((clV M (ZD (cs.getD i []))).2.1++(clV M (ZD (cs.getD i []))).2.2.1):=by
 unfold QB;rw[List.take_succ_eq_append_getElem h,List.flatMap_append];simp[h]
theorem ZN7 {M:List (Tx×Zt)} (hM:bdC M): ∀cs:List Tx,(QB M cs).length≤cs.length*2000000
 | []=>by simp[QB]
 |n::cs=>by
  have:=ZN7 hM cs;have:=hM (ZD n);unfold QB at*;rw[List.flatMap_cons,Zs,Zs,KR];omega
def ZB2:Tabs:=ZY (ZY (JR (JR (ZV) 39 ZDt) 14 QS) 37 YF) 40 KI
theorem ZWD:SsOk Tryz.prog ZB2:=ZL (ZL (Yl (Yl (ZG) (ZB ZH (p:=i39) rfl) ZSB) (ZB ZH (p:=i14) rfl) ZHw) (ZB ZH (p:=i37) rfl) ZA4) (ZB ZH (p:=i40) rfl) ZJX
theorem ZS1 (a:List D):ZB2.q 39 a=none:=rfl
theorem ZSr (a:List D) (o:List Ob):ZB2.t 39 a o=YU ZDt a o:=rfl
theorem ZR6 (a:List D):ZB2.q 14 a=none:=rfl
theorem ZSd (a:List D) (o:List Ob):ZB2.t 14 a o=YU QS a o:=rfl
theorem ZRZ (a:List D):ZB2.q 37 a=YF a:=rfl
theorem ZTN (a:List D):ZB2.q 40 a=KI a:=rfl
theorem ZYD (f:FuncId) (a:List D) (o:List Ob):ZB2.r f a o=none:=rfl
theorem ZYB (f:FuncId) (a:List D) (o:List Ob):ZB2.k f a o=none:=rfl
theorem ZRW {α:Type} {l:List α} {i:Nat} {q:α} (h:l[i]? =some q): ∀x,x∈l↔x=q∨x∈l.eraseIdx i:=by
 intro x;have hp:l.Perm (q::l.eraseIdx i):=by
  obtain⟨hi,he⟩:=Za h;rw[List.eraseIdx_eq_take_drop_succ]
  conv=>lhs;rw[←List.take_append_drop i l,List.drop_eq_getElem_cons hi,he]
  exact List.perm_middle
 rw[hp.mem_iff,List.mem_cons]
abbrev scE (L:List (Tx×Zi)) (M:List (Tx×Zt)) (dn:Tx) (l:List Zv) (H:List Tx):List Ob:= [.box [.mref 1,.mref 2],.mpo .str true (Km L),.mpo .str true (Kz M),.box [.x (.str dn),.x (.sl (rows YP l))],.mpo .str false (snM H)]
abbrev scF (L:List (Tx×Zi)) (M:List (Tx×Zt)) (dn:Tx) (l:List Zv) (H Y:List Tx):List Ob:= [.box [.mref 1,.mref 2],.mpo .str true (Km L),.mpo .str true (Kz M),.box [.x (.str dn),.x (.sl (rows YP l))],.mpo .str false (snM H),.mpo .str false (snM Y)]
theorem ZIZ (L:List (Tx×Zi)) (M:List (Tx×Zt)) (dn:Tx) (l:List Zv) (H:List Tx):(scE L M dn l H).all (Ob.inP (fun i=>decide (i<(scE L M dn l H).length)))=true:=by
 simp[Ob.inP,YY,D.inP,Ko,Kp,KN]
theorem Zbv (L:List (Tx×Zi)) (M:List (Tx×Zt)) (dn:Tx) (l:List Zv) (H Y:List Tx):(scF L M dn l H Y).all (Ob.inP (fun i=>decide (i<(scF L M dn l H Y).length)))=true:=by
 simp[Ob.inP,YY,D.inP,Ko,Kp,KN]
abbrev scG (L:List (Tx×Zi)) (M:List (Tx×Zt)) (dn:Tx) (l:List Zv) (H Y:List Tx) (c:Zt):List Ob:= [.box [.mref 1,.mref 2],.mpo .str true (Km L),.mpo .str true (Kz M),.box [.x (.str dn),.x (.sl (rows YP l))],.mpo .str false (snM H),.mpo .str false (snM Y),.box [.x (.str c.1),.x (.sl (rows ZJ c.2.1)),.x (.sl (rows ZJ c.2.2.1))]]
set_option maxHeartbeats 4000000 in
theorem ZQS (L:List (Tx×Zi)) (M:List (Tx×Zt)) (e:Ky) (he:smA e.2.1) (hv: ∀a∈e.2.1,∀v∈a.2.1,v.length≤1000000) (hM:bdC M):ZU Tryz.prog 17 [.ptr 0 0,ZAT e] (Qa L M) (.x (.int .i64 (ZE6 L M e.2.1))) (Qa L M):=by
 obtain⟨dn,l,u⟩:=e;simp only at he hv⊢;have hsm:=ZM he;have hll:l.length≤1000000:=he.1;have hO:=Ql L M;have h1':=ZEd L;have h2':=ZEr M;obtain⟨hcl,hcv⟩:=ZQQ he hv;have hoc:(OC:Tx)= [111,98,106,101,99,116,99,108,97,115,115]:=rfl;have hns:Yf [] [X.str [111,98,106,101,99,116,99,108,97,115,115]] [D.x (X.int .i64 1)]=snM [OC]:=by rfl
 rcases hres:ZE6 L M l with v
 unfold ZE6 at hres;unfold ZAT;refine ZN.mcallsX (ZP (fz:=true) ZH (p:=i17) rfl _ (ξ rfl) _ (fun C0 E0=> ?_)) (by first|decide|(simp;done)) hO (by first|rfl|exact hR);dsimp only[i17,qt,qi,qs,qb,qm,qa,qh,qj,qT,qF,qe,ql,qL,qf,q2,q3,q8,qz,qp,qP,qc,qk,qx,qy,qo,qr,qC,ZQ];have uu:=ZA @ZDt.eq_1 (ZA @ZDt.eq_2 (ZA @QS.eq_1 (ZA @QS.eq_2 (ZA @YF.eq_1 (ZA @YF.eq_2 (ZA @KI.eq_1 (ZA @KI.eq_2 (ZA @h1' (ZA @h2' (ZA @ZKU (ZA hsm (ZA hns (ZA @ZAK (ZA @ZAG (ZA @ZBP (ZA @ZBK (ZA @Ko (ZA @Kp (ZA @Ka (ZA @ZAE (ZA @KN (ZA @ZYD (ZA @ZYB (ZA @ZR6 (ZA @ZRZ (ZA @ZS1 (ZA @ZTN (ZA @ZSr (@ZSd)))))))))))))))))))))))))))));have tT:=ZWD;refine nz ?_;refine rg tT [0,3] ?_;refine rg tT [0,3,22] ?_;refine ce (fun h0=> ?_) (fun h0=> ?_)
 ·simp at h0
 ·refine rg tT [0,3,5] ?_;refine rg tT [0,3,5,27] ?_;refine cd (fun h1=> ?_) (fun h1=> ?_)
  ·rw[if_pos (by simpa using h1)]at hres;refine rg tT [4] ?_;refine lf ?_;exact⟨by rw[hres],_,rfl⟩
  ·rw[if_neg (by simpa using h1)]at hres;refine rg tT [0,3,6] ?_;refine rg tT [0,3,6,7] ?_;refine rg tT [0,6,7,31,32,33] ?_;refine WI.nnA ?_;refine WI.orderA [0,6,7,31,32,33] ?_;refine WI.loop (fun φ os=> ∃(i:Nat),φ= [(0,.ptr 0 0),(6,.mref 4),(7,.x (.sl (rows ZJ (ZAU (l.take i))))),(31,.x (.sl (rows YP l))),(32,.x (.int .i64 l.length)),(33,.x (.int .i64 i))]∧os=scE L M dn l (KH (l.take i))∧i≤l.length) (ZK l.length 33) ?_ (fun φ os hI=> ?_)
   ·exact⟨0,rfl,rfl,by omega⟩
   ·obtain⟨i,rfl,rfl,hi⟩:=hI;refine nz ?_;refine rg tT [0,6,7,31,32,33,34] ?_;refine cd (fun h2=> ?_) (fun h2=> ?_)
    ·have hi4:i<l.length:=by omega
     have hrw:=ZBT l i hi4;have hnt:=ZLU l i hi4;have hct:=ZLg l i hi4;have hma:l.getD i ([],[],())∈l:=by rw[show l.getD i ([],[],())=l[i] by simp[hi4]];exact List.getElem_mem hi4
     generalize l.getD i ([],[],())=a at hrw hnt hct hma;have hna:=(he.2 a hma).1;have hcn:(KH (l.take i)).count (ZD a.1)≤1000000:=Nat.le_trans List.count_le_length (by unfold KH;rw[List.length_map,List.length_take];have:=he.1;omega);have uu:=ZA uu hrw;refine rg tT [0,6,7,9,31,32,33] ?_;refine rg tT [0,6,7,9,10,31,32,33] ?_;by_cases hk:ZD a.1∈KH (l.take i)
     ·have hg1:=ZCX hk;have hg2:=ZNo hk;have uu:=ZA uu (ZA hg1 hg2);refine rg tT [0,6,7,9,10,31,32,33] ?_;refine rg tT [0,6,7,9,31,32,33,45] ?_;refine cd (fun h3=> ?_) (fun h3=> ?_)
      ·rw[if_pos (by rw[hoc];simpa using h3)]at hct;refine rg tT [0,6,7,31,32,33] ?_;refine WI.orderA [0,6,7,31,32,33] ?_;refine WI.dropT (scE L M dn l (KH (l.take i)++ [ZD a.1])) _ rfl (by simp) (ZIZ L M dn l _) (by simp[D.inP,YY]) ?_;refine rg tT [0,6,7,31,32,33] ?_;exact⟨⟨i+1,by rw[hct];first|done|rfl,by rw[hnt],by omega⟩,by simp[ZK,Ab.get,D.val,ZF];omega⟩
      ·rw[if_neg (fun e=>h3 (e.trans hoc))]at hct;refine WI.orderA [0,6,7,31,32,33] ?_;refine WI.dropT (scE L M dn l (KH (l.take i)++ [ZD a.1])) _ rfl (by simp) (ZIZ L M dn l _) (by simp[D.inP,YY]) ?_;refine rg tT [0,6,7,31,32,33] ?_;exact⟨⟨i+1,by rw[hct];first|done|rfl,by rw[hnt],by omega⟩,by simp[ZK,Ab.get,D.val,ZF];omega⟩
     ·have hg1:=ZD9 hk;have hg2:=ZFf hk;have uu:=ZA uu (ZA hg1 hg2);refine rg tT [0,6,7,9,10,31,32,33] ?_;refine rg tT [0,6,7,9,31,32,33,45] ?_;refine cd (fun h3=> ?_) (fun h3=> ?_)
      ·rw[if_pos (by rw[hoc];simpa using h3)]at hct;refine rg tT [0,6,7,31,32,33] ?_;refine WI.orderA [0,6,7,31,32,33] ?_;refine WI.dropT (scE L M dn l (KH (l.take i)++ [ZD a.1])) _ rfl (by simp) (ZIZ L M dn l _) (by simp[D.inP,YY]) ?_;refine rg tT [0,6,7,31,32,33] ?_;exact⟨⟨i+1,by rw[hct];first|done|rfl,by rw[hnt],by omega⟩,by simp[ZK,Ab.get,D.val,ZF];omega⟩
      ·rw[if_neg (fun e=>h3 (e.trans hoc))]at hct;refine WI.orderA [0,6,7,31,32,33] ?_;refine WI.dropT (scE L M dn l (KH (l.take i)++ [ZD a.1])) _ rfl (by simp) (ZIZ L M dn l _) (by simp[D.inP,YY]) ?_;refine rg tT [0,6,7,31,32,33] ?_;exact⟨⟨i+1,by rw[hct];first|done|rfl,by rw[hnt],by omega⟩,by simp[ZK,Ab.get,D.val,ZF];omega⟩
    ·obtain rfl:i=l.length:=by omega
     rw[List.take_length];refine WI.orderA [0,6,7] ?_;generalize KH l=H at hres⊢;generalize ZAU l=cs at hres hcl hcv⊢;refine rg tT [0,6,7,11] ?_;refine rg tT [0,6,7,11,51,52,53] ?_;refine WI.orderA [0,6,7,11,51,52,53] ?_;refine WI.loop (fun φ os=> ∃(i:Nat),φ= [(0,.ptr 0 0),(6,.mref 4),(7,.x (.sl (rows ZJ cs))),(11,.mref 5),(51,.x (.sl (rows ZJ cs))),(52,.x (.int .i64 cs.length)),(53,.x (.int .i64 i))]∧os=scF L M dn l H (OC::QB M (cs.take i))∧i≤cs.length∧(cs.take i).all (ZAV M H)=true) (ZK cs.length 53) ?_ (fun φ os hI=> ?_)
     ·exact⟨0,rfl,rfl,by omega,rfl⟩
     ·obtain⟨i,rfl,rfl,hi,hall⟩:=hI;refine nz ?_;refine rg tT [0,6,7,11,51,52,53,54] ?_;refine cd (fun h4=> ?_) (fun h4=> ?_)
      ·have hi4:i<cs.length:=by omega
       have hrw:=JF cs i hi4;have hmt:=ZLj M cs i hi4;have hnl:(cs.getD i []).length≤1000000:=by rw[show cs.getD i []=cs[i] by simp[hi4]];exact hcv _ (List.getElem_mem hi4)
       have hal:=YJ (ZAV M H) cs i hi4;have hgi:cs[i]=cs.getD i []:=by simp[hi4]
       have hno:ZAV M H (cs.getD i [])=false→cs.all (ZAV M H)=false:=fun h=>Ze (ZAV M H) cs i hi4 (by rw[hgi];exact h)
       rw[hgi]at hal;have hYl:=ZN7 hM (cs.take i);rw[List.length_take]at hYl;generalize QB M (cs.take i)=Y0 at hmt hYl⊢;generalize cs.getD i []=n at hrw hmt hnl hal hno;have hb:=hM (ZD n);have hcd:ZAV M H n=((ZR M (ZD n)).isSome&&(clV M (ZD n)).2.1.all fun x=>decide (x∈H)):=rfl;obtain⟨c,hc⟩: ∃c,c=clV M (ZD n):=⟨_,rfl⟩;rw[←hc]at hmt hb hcd;have hd47:decide (n.length≤140737488355328)=true:=ZM (by omega);have uu:=ZA uu (ZA hrw (ZA hc.symm (ZA (@clD.eq_1) hd47)));refine rg tT [0,6,7,11,13,51,52,53] ?_;refine rg tT [0,6,7,11,14,15,51,52,53] ?_;refine rg tT [0,6,7,11,14,51,52,53,64] ?_;refine cd (fun h5=> ?_) (fun h5=> ?_)
       ·have hno2:=hno (by rw[hcd];clear uu;grind);rw[hno2,Bool.false_and,if_neg (by decide)]at hres;refine rg tT [4] ?_;refine lf ?_;exact⟨by rw[hres],_,rfl⟩
       ·have hso:(ZR M (ZD n)).isSome=true:=by clear uu;grind
        rw[hso,Bool.true_and]at hcd;refine rg tT [0,6,7,11,14,51,52,53,66,67,68] ?_;refine WI.orderA [0,6,7,11,14,51,52,53,66,67,68] ?_;refine WI.loop (fun φ os=> ∃(k:Nat),φ= [(0,.ptr 0 0),(6,.mref 4),(7,.x (.sl (rows ZJ cs))),(11,.mref 5),(14,.ptr 6 0),(51,.x (.sl (rows ZJ cs))),(52,.x (.int .i64 cs.length)),(53,.x (.int .i64 i)),(66,.x (.sl (rows ZJ c.2.1))),(67,.x (.int .i64 c.2.1.length)),(68,.x (.int .i64 k))]∧os=scG L M dn l H (OC::(Y0++c.2.1.take k)) c∧k≤c.2.1.length∧(c.2.1.take k).all (fun x=>decide (x∈H))=true) (ZK c.2.1.length 68) ?_ (fun φ os hI=> ?_)
        ·exact⟨0,rfl,by rw[List.take_zero,List.append_nil],by omega,rfl⟩
        ·obtain⟨k,rfl,rfl,hk,hka⟩:=hI;refine nz ?_;refine rg tT [0,6,7,11,14,51,52,53,66,67,68,69] ?_;refine cd (fun h6=> ?_) (fun h6=> ?_)
         ·have hk4:k<c.2.1.length:=by omega
          have hrk:=JF c.2.1 k hk4;have hgk:c.2.1[k]=c.2.1.getD k []:=by simp[hk4]
          have htk:OC::(Y0++c.2.1.take (k+1))=(OC::(Y0++c.2.1.take k))++ [c.2.1.getD k []]:=by rw[List.take_succ_eq_append_getElem hk4,hgk];simp
          have hak:=YJ (fun x=>decide (x∈H)) c.2.1 k hk4;have hnk:c.2.1.getD k []∉H→c.2.1.all (fun x=>decide (x∈H))=false:=fun h=>Ze (fun x=>decide (x∈H)) c.2.1 k hk4 (by rw[hgk];exact decide_eq_false h)
          rw[hgk]at hak;have hYk:(OC::(Y0++c.2.1.take k)).length≤4000000000000:=by rw[KR,Zs,List.length_take];omega
          generalize c.2.1.getD k []=x at hrk htk hak hnk;generalize OC::(Y0++c.2.1.take k)=Y at htk hYk;have hcy:=Nat.le_trans (List.count_le_length (a:=x) (l:=Y)) hYk;have uu:=ZA uu hrk;refine rg tT [0,6,7,11,14,17,51,52,53,66,67,68] ?_;by_cases hxH:x∈H
          ·have hg1:=ZCX hxH;have hcp:0<H.count x:=List.count_pos_iff.2 hxH;have uu:=ZA uu hg1;refine rg tT [0,6,7,11,14,17,51,52,53,66,67,68,75] ?_;refine ce (fun h7=> ?_) (fun h7=> ?_)
           ·have:((H.count x:Nat):Int)=0:=by simpa using h7
            omega
           ·have hka2:(c.2.1.take (k+1)).all (fun x=>decide (x∈H))=true:=by rw[hak,hka,ZM hxH];rfl
            by_cases hxY:x∈Y
            ·have hg2:=ZCX hxY;have hg3:=ZNo hxY;have uu:=ZA uu (ZA hg2 hg3);refine rg tT [0,6,7,11,14,51,52,53,66,67,68] ?_;refine rg tT [0,6,7,11,14,51,52,53,66,67,68] ?_;exact⟨⟨k+1,rfl,by rw[htk],by omega,hka2⟩,by simp[ZK,Ab.get,D.val,ZF];omega⟩
            ·have hg2:=ZD9 hxY;have hg3:=ZFf hxY;have uu:=ZA uu (ZA hg2 hg3);refine rg tT [0,6,7,11,14,51,52,53,66,67,68] ?_;refine rg tT [0,6,7,11,14,51,52,53,66,67,68] ?_;exact⟨⟨k+1,rfl,by rw[htk],by omega,hka2⟩,by simp[ZK,Ab.get,D.val,ZF];omega⟩
          ·have hg1:=ZD9 hxH;have uu:=ZA uu hg1;refine rg tT [0,6,7,11,14,17,51,52,53,66,67,68,75] ?_;refine ct (fun h7=> ?_) (fun h7=> ?_)
           ·refine rg tT [4] ?_;refine lf ?_;rw[hno (by rw[hcd];exact hnk hxH),Bool.false_and,if_neg (by decide)]at hres;exact⟨by rw[hres],_,rfl⟩
           ·simp at h7
         ·obtain rfl:k=c.2.1.length:=by omega
          rw[List.take_length]at hka;rw[List.take_length];rw[hka]at hcd;have hall2:(cs.take (i+1)).all (ZAV M H)=true:=by rw[hal,hall,hcd];rfl
          refine rg tT [0,6,7,11,51,52,53,82,83,84] ?_;refine WI.orderA [0,6,7,11,51,52,53,82,83,84] ?_;refine WI.loop (fun φ os=> ∃(k:Nat),φ= [(0,.ptr 0 0),(6,.mref 4),(7,.x (.sl (rows ZJ cs))),(11,.mref 5),(51,.x (.sl (rows ZJ cs))),(52,.x (.int .i64 cs.length)),(53,.x (.int .i64 i)),(82,.x (.sl (rows ZJ c.2.2.1))),(83,.x (.int .i64 c.2.2.1.length)),(84,.x (.int .i64 k))]∧os=scG L M dn l H (OC::(Y0++(c.2.1++c.2.2.1.take k))) c∧k≤c.2.2.1.length) (ZK c.2.2.1.length 84) ?_ (fun φ os hI=> ?_)
          ·exact⟨0,rfl,by rw[List.take_zero,List.append_nil],by omega⟩
          ·obtain⟨k,rfl,rfl,hk⟩:=hI;refine nz ?_;refine rg tT [0,6,7,11,51,52,53,82,83,84,85] ?_;refine cd (fun h8=> ?_) (fun h8=> ?_)
           ·have hk4:k<c.2.2.1.length:=by omega
            have hrk:=JF c.2.2.1 k hk4;have hgk:c.2.2.1[k]=c.2.2.1.getD k []:=by simp[hk4]
            have htk:OC::(Y0++(c.2.1++c.2.2.1.take (k+1)))=(OC::(Y0++(c.2.1++c.2.2.1.take k)))++ [c.2.2.1.getD k []]:=by rw[List.take_succ_eq_append_getElem hk4,hgk];simp
            have hYk:(OC::(Y0++(c.2.1++c.2.2.1.take k))).length≤4000000000000:=by rw[KR,Zs,Zs,List.length_take];omega
            generalize c.2.2.1.getD k []=x at hrk htk;generalize OC::(Y0++(c.2.1++c.2.2.1.take k))=Y at htk hYk;have hcy:=Nat.le_trans (List.count_le_length (a:=x) (l:=Y)) hYk;have uu:=ZA uu hrk;refine rg tT [0,6,7,11,19,51,52,53,82,83,84] ?_;by_cases hxY:x∈Y
            ·have hg2:=ZCX hxY;have hg3:=ZNo hxY;have uu:=ZA uu (ZA hg2 hg3);refine rg tT [0,6,7,11,51,52,53,82,83,84] ?_;refine rg tT [0,6,7,11,51,52,53,82,83,84] ?_;exact⟨⟨k+1,rfl,by rw[htk],by omega⟩,by simp[ZK,Ab.get,D.val,ZF];omega⟩
            ·have hg2:=ZD9 hxY;have hg3:=ZFf hxY;have uu:=ZA uu (ZA hg2 hg3);refine rg tT [0,6,7,11,51,52,53,82,83,84] ?_;refine rg tT [0,6,7,11,51,52,53,82,83,84] ?_;exact⟨⟨k+1,rfl,by rw[htk],by omega⟩,by simp[ZK,Ab.get,D.val,ZF];omega⟩
           ·obtain rfl:k=c.2.2.1.length:=by omega
            rw[List.take_length];refine WI.dropT (scF L M dn l H (OC::(Y0++(c.2.1++c.2.2.1)))) _ rfl (by simp) (Zbv L M dn l _ _) (by simp[D.inP,YY]) ?_;refine WI.orderA [0,6,7,11,51,52,53] ?_;refine rg tT [0,6,7,11,51,52,53] ?_;exact⟨⟨i+1,rfl,by rw[hmt],by omega,hall2⟩,by simp[ZK,Ab.get,D.val,ZF];omega⟩
      ·obtain rfl:i=cs.length:=by omega
       rw[List.take_length]at hall⊢;refine WI.orderA [6,7,11] ?_;rw[hall,Bool.true_and]at hres;generalize OC::QB M cs=Y at hres⊢;refine rg tT [7,11,95] ?_;refine WI.orderA [7,11,95] ?_;refine WI.loop (fun φ os=> ∃(R:Sn) (cur:Option Pr),φ= [(7,.x (.sl (rows ZJ cs))),(11,.mref 5),(95,.iref 4 6)]∧os= [.box [.mref 1,.mref 2],.mpo .str true (Km L),.mpo .str true (Kz M),.box [.x (.str dn),.x (.sl (rows YP l))],.mit .str false (snM H) 6 (YS Jo Kl R) cur,.mpo .str false (snM Y),.itr]∧(∀p∈R,p.1∈H)∧(∀h∈H,h∈Y∨ ∃n,(h,n)∈R)) (Zce 4) ?_ (fun φ os hI=> ?_)
       ·exact⟨snL H,none,rfl,rfl,fun p hp=>(ZMx H p.1).2 ⟨p.2,hp⟩,fun h hh=> .inr ((ZMx H h).1 hh)⟩
       ·obtain⟨R,cur,rfl,rfl,hR1,hR2⟩:=hI;refine nz ?_;refine WI.nextMA [7,11,95,97] (fun hn37=> ?_) (fun i37 q37 hn37=> ?_)
        ·simp only[YS,List.map_eq_nil_iff]at hn37;subst hn37;have hHY:H.all (fun h=>decide (h∈Y))=true:=List.all_eq_true.2 fun h hh=>ZM (by rcases hR2 h hh with h1|⟨n,h1⟩;exact h1;cases h1)
         rw[hHY,Bool.true_and]at hres;refine nz ?_;refine ce (fun h9=> ?_) (fun h9=> ?_)
         ·exact absurd h9 (by decide)
         ·refine rg tT [4] ?_;refine lf ?_;refine⟨?_,_,rfl⟩;rw[←hres];clear uu;rcases cs with _|⟨x,cs⟩<;>simp;omega
        ·rw[Zav]at hn37;obtain⟨p,hp,rfl⟩:=Zd hn37;have hi37:=(Za hp).1;have hpH:=hR1 p (List.mem_of_getElem? hp);refine nz ?_;refine ct (fun h9=> ?_) (fun h9=> ?_)
         ·refine rg tT [7,11,20,95] ?_;by_cases hpY:p.1∈Y
          ·have hg1:=ZCX hpY;have hcp:0<Y.count p.1:=List.count_pos_iff.2 hpY;have uu:=ZA uu hg1;refine rg tT [7,11,95,103] ?_;refine ce (fun h10=> ?_) (fun h10=> ?_) (kB:=fun h=>h.h)
           ·have:((Y.count p.1:Nat):Int)=0:=by simpa using h10
            omega
           ·have hR3: ∀h∈H,h∈Y∨ ∃n,(h,n)∈R.eraseIdx i37:=fun h hh=>by
             rcases hR2 h hh with h1|⟨n,h1⟩
             ·exact .inl h1
             ·rcases(ZRW hp (h,n)).1 h1 with h2|h2
              ·exact .inl (by rw[show h=p.1 from congrArg Prod.fst h2];exact hpY)
              ·exact .inr ⟨n,h2⟩
            refine WI.orderA [7,11,95] ?_;refine nz ?_;exact⟨⟨R.eraseIdx i37,_,rfl,rfl,fun q hq=>hR1 q (List.mem_of_mem_eraseIdx hq),hR3⟩,by simp only[Zce,List.getElem?_cons_succ,List.getElem?_cons_zero,ZGX,ZGs];rw[List.length_eraseIdx,if_pos hi37];omega⟩
          ·have hg1:=ZD9 hpY;have uu:=ZA uu hg1;refine rg tT [7,11,95,103] ?_;refine ct (fun h10=> ?_) (fun h10=> ?_)
           ·refine rg tT [4] ?_;refine lf ?_;rw[show H.all (fun h=>decide (h∈Y))=false from by rw[List.all_eq_false];exact⟨p.1,hpH,by simpa using hpY⟩,Bool.false_and,if_neg (by decide)]at hres;exact⟨by rw[hres],_,rfl⟩
           ·simp at h10
         ·exact absurd h9 (by decide)
def ZBd (l:List (List UInt8)):List (List UInt8):=l.mergeSort fun x y=>decide (x≤y)
theorem ZWf (l:List (List UInt8)):(ZBd l).Perm l:=List.mergeSort_perm ..
theorem ZPH {P:Program} {k:TypeId} {w:World} {b:Nat} {l':List (ByteArray×Value)} (hk:P.underlying k=some .string) (h:Kb Value.string w b l') (hn:l'.length≤1000000) (hs: ∀a∈l',a.1.size≤maxLen):
  ∃D0:DataW Unit,w.ownsMap P k (fun _=>some (.nil,[])) b l'.length D0∧Maps.size D0=l'.length∧(strKeys D0).Perm (l'.map fun a=>a.1.data.toList):=by
 obtain⟨es,clk,hb,hm,hnd,hc,hbn⟩:=h;have hlen:es.size=l'.length:=by have:=congrArg List.length hm;simpa using this
 have hkeys:es.toList.map (·.key)=l'.map fun a=>Value.string a.1:=by
  have:=congrArg (List.map Prod.fst) hm;rw[List.map_map,List.map_map]at this;exact this
 have hrd: ∀x∈es.toList,∃a∈l',x.key=Value.string a.1:=by
  intro x hx;have h1:x.key∈es.toList.map (·.key):=List.mem_map.2 ⟨x,hx,rfl⟩;rw[hkeys]at h1;obtain⟨a,ha,e⟩:=List.mem_map.1 h1;exact⟨a,ha,e.symm⟩
 have hread: ∀(x:MapEntry) (a:ByteArray×Value),a∈l'→x.key=Value.string a.1→WideElems.rd (H:=Unit) P k (fun _=>some (.nil,[])) x=some (.string a.1.data.toList,.nil):=by
  intro x a ha e;have hko:=WideMaps.keyOf_string_mk (P:=P) hk (hs a ha);unfold WideElems.rd;rw[e,hko];rfl
 refine⟨_,⟨es,clk,hb,⟨?_,⟨hc,hbn,?_⟩,?_⟩,by omega,rfl⟩,?_,?_⟩
 ·rw[hlen];simp only[maxLen];omega
 ·rw[hkeys];rw[show(l'.map fun a=>Value.string a.1)=(l'.map (·.1)).map Value.string by simp[Function.comp]];exact List.Pairwise.map _ (fun a b h e=>h (by cases e;rfl)) hnd
 ·intro x hx;obtain⟨a,ha,e⟩:=hrd x hx;exact⟨_,hread x a ha e⟩
 ·show(List.foldr DataW.insert [] _).length=_;rw[Go.length_sorted];simp[hlen]
 ·show(List.map _ (List.foldr DataW.insert [] _)).Perm _;refine((WideShapes.sorted_perm _).map _).trans ?_;have:(es.toList.map (WideElems.rg (H:=Unit) P k (fun _=>some (.nil,[])))).map (fun p=>strOf p.1)=l'.map fun a=>a.1.data.toList:=by
   rw[List.map_map];have h2:es.toList.map (fun x=>strOf (WideElems.rg (H:=Unit) P k (fun _=>some (.nil,[])) x).1)=(es.toList.map (·.key)).map (fun v=>match v with| .string s=>s.data.toList|_=> []):=by
    rw[List.map_map];refine List.map_congr_left fun x hx=> ?_
    obtain⟨a,ha,e⟩:=hrd x hx;simp only[WideElems.rg,hread x a ha e,Option.getD_some,strOf,Function.comp,e]
   refine Eq.trans h2 ?_;rw[hkeys,List.map_map];rfl
  rw[this]
theorem ZcH (ag:Bool) (l:List Pr):ZU Tryz.prog 44 [.mref 0] [.mpo .str ag l] (.fn 74 [.ptr 1 0]) [.mpo .str ag l,.box [.mref 0]]:=by
 intro c E vs hR hvl;obtain⟨hsz,hv⟩:=hvl;obtain⟨v0,rfl⟩: ∃v0,vs= #[v0]:=by
  obtain⟨vl⟩:=vs
  match vl,hsz with
  | [a],_=>exact⟨a,rfl⟩
 have h0:=hv 0 _ v0 rfl rfl;clear hv hsz;cases h0 with
 | @mref _ b cu dk ag' o ho hk h=>
 have hlen:=hR.len;refine(callsIn_wide (n:=5)).1 ((AnyZ.keys_in Tryz.mkKeys Fence.wide 5 trivial rfl (some b) E.w).mono ?_);rintro e w' ⟨rfl,rfl⟩;have h0':(E.ob++ [(E.w.heap.size,undef)])[0]? =some (b,cu):=by
  rw[Yt (Za h).1];exact h
 have h1':(E.ob++ [(E.w.heap.size,undef)])[1]? =some (E.w.heap.size,undef):=by
  rw[List.getElem?_append_right (by rw[hlen];simp),hlen];simp
 obtain⟨R',ev⟩:=hR.push (E.w.alloc (.cells #[.map (some b)] (Tryz.mkKeys_ren.t 23))) (.box [.mref 0]) (E.w.heap.size,undef) (JU _ _) (fun b' hb=>by cases hb;exact Nat.le_refl _) (fun ev=>⟨#[.map (some b)],_,heap_alloc_new _ _,rfl,fun j d v hd hv=>by
  rcases j with _|j
  ·simp at hd hv;subst hd;subst hv;exact⟨.mref (dk:= .str) (ag:=ag) (o:= .mpo .str ag l) rfl rfl h0',rfl⟩
  ·simp at hd⟩)
 refine⟨_,_,rfl,rfl,R',ev,.fn _ rfl fun j d v hd hv=> ?_⟩;rcases j with _|j
 ·simp at hd hv;subst hd;subst hv;exact .ptr (ds:= [.mref 0]) rfl h1'
 ·simp at hd
theorem ZOB:Go.Ab.Enters Tryz.prog 44:=Go.Proofs.enters_of Tryz.func44 (by kernel_rfl) rfl
def ZGI (p:Pr):List UInt8:=match p.1 with
 | [.str s]=>s
 |_=> []
theorem Zcs (m : Nat) : AnyZ.SortsIn Tryz.prog Tryz.mkSorted_ren Fence.wide m :=
  ⟨fun blk off cap ss W hH hblk hsz => callsIn_wide.2 (AnyM.slices_Sort_string Tryz.mkSort blk off cap ss W hH hblk hsz),
   fun p cap W => callsIn_wide.2 (AnyM.slices_Sort_string_none Tryz.mkSort p cap W)⟩
theorem ZXB (ag:Bool) (l:List Pr) (hl:l.length≤1000000) (hs: ∀p∈l,∃s,p.1= [.str s]∧s.length≤maxLen):ZU Tryz.prog 43 [.fn 74 [.ptr 0 0]] [.box [.mref 1],.mpo .str ag l] (.x (.sl (rows ZJ (ZBd (l.map ZGI))))) [.box [.mref 1],.mpo .str ag l]:=by
 intro c E vs hR hvl;obtain⟨hsz,hv⟩:=hvl;obtain⟨v0,rfl⟩: ∃v0,vs= #[v0]:=by
  obtain⟨vl⟩:=vs
  match vl,hsz with
  | [a],_=>exact⟨a,rfl⟩
 have h0:=hv 0 _ v0 rfl rfl;clear hv hsz;cases h0 with
 |fn cv hcl hcv=>
 obtain⟨c0,rfl⟩: ∃c0,cv= #[c0]:=by
  obtain⟨vl⟩:=cv
  match vl,hcl with
  | [a],_=>exact⟨a,rfl⟩
 have h1:=hcv 0 _ c0 rfl rfl;clear hcv hcl;cases h1 with
 | @ptr _ _ Bm cu ds ho hob=>
 cases ho;obtain⟨cs,ty,hbox,hcs,hcell⟩:=hR.ok 0 _ _ rfl hob;obtain⟨m0,rfl⟩: ∃m0,cs= #[m0]:=by
  obtain⟨vl⟩:=cs
  match vl,hcs with
  | [a],_=>exact⟨a,rfl⟩
 have h2:=(hcell 0 _ m0 rfl rfl).1;cases h2 with
 | @mref _ b cu2 dk ag' o ho2 hk2 hob2=>
 obtain⟨l',hmk,hll,hpr⟩:Qw Value.string kxS E _ b ag l:=hR.ok 1 _ _ rfl hob2;have hkeyb: ∀(i:Nat) (a:ByteArray×Value),l'[i]? =some a→a.1.size≤maxLen∧(l.map ZGI)[i]? =some a.1.data.toList:=by
  intro i a ha;have hi:i<l.length:=by rw[←hll];exact(Za ha).1
  have hq:=(hpr i a l[i] ha (YE hi)).1;obtain⟨s,e1,e2⟩:=hs l[i] (List.getElem_mem hi);rw[e1]at hq;simp only[kxS,List.cons.injEq,X.str.injEq,and_true]at hq;rw[ByteArray.toList_eq]at hq;subst hq;refine⟨Nat.le_trans (Nat.le_of_eq (Array.length_toList (xs:=a.1.data)).symm) e2,?_⟩;rw[YC,YE hi];simp only[Option.map_some,ZGI,e1]
 have hkeys:(l'.map fun a=>a.1.data.toList)=l.map ZGI:=by
  refine List.ext_getElem? fun i=> ?_
  rw[YC];rcases h:l'[i]? with _|a
  ·rw[Option.map_none,eq_comm,List.getElem?_eq_none_iff,List.length_map,←hll];exact List.getElem?_eq_none_iff.1 h
  ·rw[Option.map_some,(hkeyb i a h).2]
 obtain⟨D0,hown,hsize,hperm⟩:=ZPH (P:=Tryz.prog) (k:=Tryz.mkKeys_ren.t 26) (by kernel_rfl) hmk (by omega) (fun a ha=>by obtain⟨i,hi⟩:=List.mem_iff_getElem?.1 ha;exact(hkeyb i a hi).1);rw[hkeys]at hperm;have hlt:Bm<E.w.heap.size:=(ξH hbox).1;have hseq:=AnyZ.keys_gives (ρ:=Tryz.mkKeys_ren) {Tryz.mkKeys with} Fence.wide (5-1-1-1) trivial rfl (by omega) Bm b _ D0 E.w hlt (by simp[World.cell?,hbox]) hown;refine(callsIn_wide (n:=5)).1 ((AnyZ.sorted_in Tryz.mkSorted Fence.wide 5 trivial trivial trivial trivial rfl (by omega) (Zcs _) (Go.Proofs.enters_of Tryz.func73 (by kernel_rfl) rfl) 74 #[.pointer (some ⟨Bm,0,none⟩)] trivial (Go.Proofs.enters_of Tryz.func74 (by kernel_rfl) rfl) _ _ (by rw[hsize];simp only[maxLen];omega) (by omega) _ hseq).mono ?_);rintro e w' ⟨v,ss,rfl,hS,hrow,hnil,hb⟩;have hks:ss.mergeSort (fun x y=>decide (x≤y))=ZBd (l.map ZGI):=mergeSort_of_perm (hS.trans hperm);have hsl:ss.length=(ZBd (l.map ZGI)).length:=by rw[←hks];simp
 rw[hks,hsl]at hrow;generalize ZBd (l.map ZGI)=ks at hrow;obtain⟨hR',ev⟩:=hR.world w' (fun b' o'=>E.st b' o'∨(E.w.heap.size≤b'∧b'<w'.heap.size)) ⟨hb.os,hb.tape,hb.output,hb.size,fun k hk _=>hb.block k hk⟩ (fun _ _ h=> .inl h) (fun _ _ h=>h);refine⟨v,_,rfl,rfl,hR',ev,?_⟩;rcases hrow with⟨hxl,⟨rfl,hz⟩|⟨g,cap,cur,rfl,hg,hgb,r1,r2,r3,r4⟩⟩
 ·obtain rfl:=List.eq_nil_of_length_eq_zero hz;exact .x (.sl [] none 0 0 1 (fun _ _=>undef) rfl (Nat.le_refl _) (by simp) (fun r h=>by cases h) (fun i j hi=>by omega) (fun _=>⟨rfl,rfl⟩) (fun h=>by omega) (fun i j r x h=>by simp at h))
 ·have hglt:g<w'.heap.size:=(ξH hgb).1;refine .x (.sl _ _ _ _ 1 (fun i _=>encStr (ks[i]?.getD [])) (YR ..) r1 r2 (fun r hr=> ?_) (fun i j hi hj=> ?_) (fun h=>by cases h) (fun _ ad h=>by cases h;rfl) (fun i j r x hr hx=> ?_))
  ·simp only[rows,List.mem_map]at hr;obtain⟨x,_,rfl⟩:=hr;rfl
  ·obtain rfl:j=0:=Nat.lt_one_iff.1 hj;refine⟨_,_,rfl,.inr ⟨hg,hglt⟩,?_⟩;have h1:=congrArg (fun l=>l[i]?) r4;simp only[List.getElem?_take,Nat.mul_one,hi,if_true,Array.getElem?_toList,YC,YE hi,Option.map_some]at h1;rw[show 0+i*1+0=i from by rw[Nat.zero_add,Nat.mul_one,Nat.add_zero],YE hi,Option.getD_some];have h2:w'.cell? ⟨g,i,none⟩=cur[i]? :=by simp[World.cell?,hgb]
   rw[h2];exact h1
  ·simp only[rows,YC,Option.map_map,Kh]at hr;obtain⟨y,hy,rfl⟩:=hr;simp only[Function.comp,ZJ,RC.enc]at hx;rcases j with _|j
   ·simp at hx;subst hx;simp only[hy,Option.getD_some];exact .str _
   ·simp at hx
theorem ZKv:Go.Ab.Enters Tryz.prog 43:=Go.Proofs.enters_of Tryz.func43 (by kernel_rfl) rfl
def ZFY:List D→List Ob→Option (Bool×D×List Ob)
 | [.mref 0],[.mpo .str ag l]=>some (true,.fn 74 [.ptr 1 0],[.mpo .str ag l,.box [.mref 0]])
 |_,_=>none
theorem ZTd: ∀args os r os',ZFY args os=some (true,r,os')→ZU Tryz.prog 44 args os r os':=by
 intro args os r os' h;unfold ZFY at h;split at h
 ·simp only[Zf,Zc,true_and]at h;obtain⟨rfl,rfl⟩:=h;exact ZcH _ _
 ·cases h
def ZNG (p:Pr):Bool:=match p.1 with
 | [.str s]=>decide (s.length≤1000000)
 |_=>false
def ZCM:List D→List Ob→Option (Bool×D×List Ob)
 | [.fn 74 [.ptr 0 0]],[.box [.mref 1],.mpo .str ag l]=>some (decide (l.length≤1000000)&&l.all ZNG,.x (.sl (rows ZJ (ZBd (l.map ZGI)))),[.box [.mref 1],.mpo .str ag l])
 |_,_=>none
theorem ZP0: ∀args os r os',ZCM args os=some (true,r,os')→ZU Tryz.prog 43 args os r os':=by
 intro args os r os' h;unfold ZCM at h;split at h
 ·simp only[Zf,Zc,ZW,Zj,List.all_eq_true]at h;obtain⟨⟨h1,h2⟩,rfl,rfl⟩:=h;refine ZXB _ _ h1 (fun p hp=> ?_);have h3:=h2 p hp;unfold ZNG at h3;split at h3
  ·rename_i s e;exact⟨s,e,by have:=of_decide_eq_true h3;simp only[maxLen];omega⟩
  ·cases h3
 ·cases h
def ZCS:Tabs:=JR (JR (ZV) 44 ZFY) 43 ZCM
theorem ZS7:SsOk Tryz.prog ZCS:=Yl (Yl (ZG) ZOB ZTd) ZKv ZP0
theorem ZPi (a:List D):ZCS.q 44 a=none:=rfl
theorem ZPs (a:List D) (o:List Ob):ZCS.t 44 a o=YU ZFY a o:=rfl
theorem ZPU (a:List D):ZCS.q 43 a=none:=rfl
theorem ZPK (a:List D) (o:List Ob):ZCS.t 43 a o=YU ZCM a o:=rfl
theorem ZVv (f:FuncId) (a:List D) (o:List Ob):ZCS.r f a o=none:=rfl
theorem ZUX (f:FuncId) (a:List D) (o:List Ob):ZCS.k f a o=none:=rfl
theorem ZYA (L:List (Tx×Zi)):(Km L).map ZGI=L.map (·.1):=by
 unfold Km YS;rw[List.map_map];rfl
theorem Zbk {L:List (Tx×Zi)} (h: ∀p∈L,p.1.length≤1000000):(Km L).all ZNG=true:=by
 rw[List.all_eq_true];intro q hq;obtain⟨p,hp,rfl⟩:=List.mem_map.1 hq;exact ZM (h p hp)
theorem ZQp (L:List (Tx×Zi)) (M:List (Tx×Zt)) (hl:L.length≤1000000) (h: ∀p∈L,p.1.length≤1000000):ZU Tryz.prog 19 [.ptr 0 0] (Qa L M) (.x (.sl (rows ZJ (ZBd (L.map (·.1)))))) (Qa L M):=by
 have hO:=Ql L M;have hk:=ZYA L;have hok:=Zbk h;have hlen:(Km L).length=L.length:=ZGX _ _ _;have hd:=ZM hl;refine ZN.mcallsX (ZP (fz:=true) ZH (p:=i19) rfl _ (ξ rfl) _ (fun C0 E0=> ?_)) (by first|decide|(simp;done)) hO (by first|rfl|exact hR);dsimp only[i19,qt,qi,qs,qb,qm,qa,qh,qj,qT,qF,qe,ql,qL,qf,q2,q3,q8,qz,qp,qP,qc,qk,qx,qy,qo,qr,qC,ZQ];have uu:=ZA @ZFY.eq_1 (ZA @ZFY.eq_2 (ZA @ZCM.eq_1 (ZA @ZCM.eq_2 (ZA hk (ZA hok (ZA hlen (ZA hd (ZA @ZAK (ZA @ZAG (ZA @ZBP (ZA @ZBK (ZA @Ko (ZA @Kp (ZA @Ka (ZA @ZAE (ZA @KN (ZA @ZVv (ZA @ZUX (ZA @ZPU (ZA @ZPi (ZA @ZPs (@ZPK))))))))))))))))))))));have tT:=ZS7;refine nz ?_;refine rg tT [0] ?_;refine rg tT [0,4] ?_;refine ce (fun h0=> ?_) (fun h0=> ?_)
 ·simp at h0
 ·refine rg tT [2] ?_;refine lf ?_;exact⟨rfl,_,rfl⟩
open Go.RowKit Go.Bo Go.Ab Go.Shelf
def ZQT:Ren:=⟨fun|4=>82|n=>n,fun|22=>38|25=>9|n=>n,fun n=>n⟩
theorem ZJS:Go.Proofs.Lays8.n4 Tryz.prog ZQT where
 mixed:=by kernel_rfl
 f4:=⟨"slices.Grow[[]string,string]",by decide,by kernel_rfl⟩
 t0:=by kernel_rfl
 a0:=fun w=>by kernel_rfl
 z0:=fun w=>by kernel_rfl
 v0:=fun w=>by kernel_rfl
 t3:=by kernel_rfl
 a3:=fun w=>by kernel_rfl
 z3:=fun w=>by kernel_rfl
 v3:=fun w=>by kernel_rfl
 t4:=by kernel_rfl
 a4:=fun w=>by kernel_rfl
 z4:=fun w=>by kernel_rfl
 v4:=fun w=>by kernel_rfl
 t9:=by kernel_rfl
 a9:=fun w=>by kernel_rfl
 z9:=fun w=>by kernel_rfl
 v9:=fun w=>by kernel_rfl
 t20:=by kernel_rfl
 a20:=fun w=>by kernel_rfl
 z20:=fun w=>by kernel_rfl
 v20:=fun w=>by kernel_rfl
 t22:=by kernel_rfl
 a22:=fun w=>by kernel_rfl
 z22:=fun w=>by kernel_rfl
 v22:=fun w=>by kernel_rfl
theorem ZPg:Go.Ab.Enters Tryz.prog 82:=ZJS.f4.enters rfl
theorem Zde (n:Nat) (hn:n≤1000000):ZU Tryz.prog 82 [.x .nils,.x (.int .i64 n)] [] (.ref 0 0 0 0) [.rows false 9 1 []]:=by
 intro c E vs R hvl;obtain⟨hsz,hv⟩:=hvl;obtain⟨v0,v1,rfl⟩: ∃v0 v1,vs= #[v0,v1]:=by
  obtain⟨vl⟩:=vs
  match vl,hsz with
  | [a,b],_=>exact⟨a,b,rfl⟩
 have h0:=hv 0 _ v0 rfl rfl;have h1:=hv 1 _ v1 rfl rfl;cases h0 with
 |x h0=>
 cases h1 with
 |x h1=>
 cases h1 with
 |int _ _=>
 cases h0 with
 |nils=>
 by_cases hz:n=0
 ·subst hz;refine(Go.Proofs.Any8.slices_Grow_room ZJS none 0 0 0 E.w (Nat.le_refl _) (by omega) (by omega) (Nat.le_refl _)).mono ?_;rintro e w' ⟨rfl,rfl⟩;obtain⟨E',h1,h2,h3,h4⟩:=QY R (fz:=false) (e:=9) (sz:=1) (rs:= []) (cu:= .slice none 0 0) (xs:= []) (Kept.refl _ _) ⟨rfl,.inl ⟨rfl,rfl⟩⟩ (fun b hb=>by simp[Value.ownBlock]at hb) (fun r hr=>by cases hr) (fun i r j x v h=>by simp at h);exact⟨_,E',rfl,h1,h2,h3,h4⟩
 ·have hi:(Tryz.prog.info? 9).map (fun i=>(i.zero,i.size,i.bytes))=some (some (.string ByteArray.empty),1,16):=by kernel_rfl
  obtain⟨i0,hi0,hi1⟩:=Zd hi;simp only[Zc]at hi1;obtain⟨hz0,hs0,hb0⟩:=hi1;refine(Go.Proofs.Any8.slices_Grow_grow ZJS i0 (.string ByteArray.empty) hi0 hz0 (by omega) none 0 0 n [] E.w (Nat.le_refl _) (by omega) (by rw[hb0];omega) (by omega) (by simp) (fun _=>rfl) (fun a h=>by cases h)).mono ?_;rintro e w' ⟨rfl,rfl⟩;have hG:=grownCap_le_maxLen E.w (0+n) 0 9 (by unfold maxLen;omega);have hGn:0+n≤grownCap E.w (0+n) 0 9:=grownCap_ge E.w _ _ _;have hgr:ZQT.t 25=9:=rfl;rw[hgr];generalize grownCap E.w (0+n) 0 9=G at hG hGn⊢;have hcs:(([]:List Value).toArray++Builtin.zeroCells (Value.string ByteArray.empty).cells (0+n-0)++Builtin.zeroCells (Value.string ByteArray.empty).cells (G-(0+n))).size=G*1:=by
   simp[Builtin.zeroCells,Value.cells]<;>omega
  obtain⟨E',h1,h2,h3,h4⟩:=QY R (fz:=false) (e:=9) (sz:=1) (rs:= []) (cu:= .slice (some ⟨E.w.heap.size,0,none⟩) 0 G) (xs:= [])
   (Kept.of_none (((KP.refl E.w).dr.al (.cells (([]:List Value).toArray++Builtin.zeroCells (Value.string ByteArray.empty).cells (0+n-0)++Builtin.zeroCells (Value.string ByteArray.empty).cells (G-(0+n))) 9)).grown none))
   ⟨rfl,.inr ⟨E.w.heap.size,G,_,(0,0),rfl,heap_alloc_new _ _,Nat.zero_le _,hG,hcs,by simp,.inl rfl⟩⟩ (fun b hb=>by simp[Value.ownBlock]at hb;omega) (fun r hr=>by cases hr) (fun i r j x v h=>by simp at h)
  exact⟨_,E',rfl,h1,h2,h3,h4⟩
def ZIH:List D→List Ob→Option (Bool×D×List Ob)
 | [.x .nils,.x (.int .i64 n)],[]=>some (decide (0≤n∧n.toNat≤1000000),.ref 0 0 0 0,[.rows false 9 1 []])
 |_,_=>none
theorem ZXe: ∀args os r os',ZIH args os=some (true,r,os')→ZU Tryz.prog 82 args os r os':=by
 intro args os r os' h;unfold ZIH at h;split at h
 ·rename_i n;simp only[Zf,Zc,Zj]at h;obtain⟨⟨h1,h2⟩,rfl,rfl⟩:=h;have:=Zde n.toNat h2;rwa [Int.toNat_of_nonneg h1]at this
 ·cases h
def ZFN:Tabs:=JR (ZV) 82 ZIH
theorem ZTC:SsOk Tryz.prog ZFN:=Yl (ZG) ZPg ZXe
theorem ZPn (a:List D):ZFN.q 82 a=none:=rfl
theorem ZPQ (a:List D) (o:List Ob):ZFN.t 82 a o=YU ZIH a o:=rfl
theorem ZUu (f:FuncId) (a:List D) (o:List Ob):ZFN.r f a o=none:=rfl
theorem ZUQ (f:FuncId) (a:List D) (o:List Ob):ZFN.k f a o=none:=rfl
theorem ZZh (a b:List (List UInt8)) (ha:a.length≤100000) (hb:b.length≤100000):ZC Tryz.prog 47 [.x (.sl [[.sl (rows ZJ a)],[.sl (rows ZJ b)]])] (.x (.sl (rows ZJ (a++b)))):=by
 refine ZN.pure (ZP (fz:=true) ZH (p:=i47) rfl _ (ξ rfl) _ (fun C0 E0=> ?_)) rfl;dsimp only[i47,qt,qi,qs,qb,qm,qa,qh,qj,qT,qF,qe,ql,qL,qf,q2,q3,q8,qz,qp,qP,qc,qk,qx,qy,qo,qr,qC,ZQ];have uu:=ZA @ZIH.eq_1 (ZA @ZIH.eq_2 (ZA @ZUu (ZA @ZUQ (ZA @ZPn (@ZPQ)))));have tT:=ZTC;refine nz ?_;refine rg tT [0] ?_;refine rg tT [0,3] ?_;refine rg tT [0,3,9,10,11] ?_;refine WI.loopN 3 ?_;refine WI.round ?_;refine nz ?_;refine rg tT [0,3,9,10,11,12] ?_;refine ct (fun h0=> ?_) (fun h0=> ?_)
 ·refine rg tT [0,3,5,9,10,11] ?_;refine rg tT [0,3,9,10,11] ?_;refine rg tT [0,3,9,10,11,20] ?_;refine ce (fun h1=> ?_) (fun h1=> ?_)
  ·first|omega|(simp at h1;done)|(simp at h1;omega)
  ·refine rg tT [0,3,9,10,11] ?_;refine WI.round ?_;refine nz ?_;refine rg tT [0,3,9,10,11,12] ?_;refine ct (fun h0=> ?_) (fun h0=> ?_)
   ·refine rg tT [0,3,5,9,10,11] ?_;refine rg tT [0,3,9,10,11] ?_;refine rg tT [0,3,9,10,11,20] ?_;refine ce (fun h1=> ?_) (fun h1=> ?_)
    ·first|omega|(simp at h1;done)|(simp at h1;omega)
    ·refine rg tT [0,3,9,10,11] ?_;refine WI.round ?_;refine nz ?_;refine rg tT [0,3,9,10,11,12] ?_;refine ce (fun h0=> ?_) (fun h0=> ?_)
     ·exact absurd h0 (by decide)
     ·refine rg tT [0,6] ?_;refine rg tT [6,25,26,27] ?_;refine WI.loopN 3 ?_;refine WI.round ?_;refine nz ?_;refine rg tT [6,25,26,27,28] ?_;refine ct (fun h2=> ?_) (fun h2=> ?_)
      ·refine rg tT [6,8,25,26,27] ?_;refine rg tT [6,25,26,27] ?_;refine rg tT [6,25,26,27] ?_;refine WI.round ?_;refine nz ?_;refine rg tT [6,25,26,27,28] ?_;refine ct (fun h2=> ?_) (fun h2=> ?_)
       ·refine rg tT [6,8,25,26,27] ?_;refine rg tT [6,25,26,27] ?_;refine rg tT [6,25,26,27] ?_;refine WI.round ?_;refine nz ?_;refine rg tT [6,25,26,27,28] ?_;refine ce (fun h2=> ?_) (fun h2=> ?_)
        ·exact absurd h2 (by decide)
        ·refine rg tT [2] ?_;refine lf ?_;rw[YN (by simp)]
       ·exact absurd h2 (by decide)
      ·exact absurd h2 (by decide)
   ·exact absurd h0 (by decide)
 ·exact absurd h0 (by decide)
theorem ZAt (l:List Tx) (x:Tx):rows ZJ (l++ [x])=rows ZJ l++ [[X.str x]]:=by simp[rows,ZJ]
theorem ZKD (l:List Zi) (j:Nat) (h:j<l.length):(rows Zw l)[j]? =some [X.str (l.getD j ([],0,false,())).1,X.int .i64 (l.getD j ([],0,false,())).2.1,X.bool (l.getD j ([],0,false,())).2.2.1]:=by
 simp[rows,h,Zw,Jc,ZJ,ZBZ,ZJh,ZAy]
theorem ZOp (l:List Zt) (j:Nat) (h:j<l.length):(rows YW l)[j]? =some [X.str (l.getD j ([],[],[],())).1,X.sl (rows ZJ (l.getD j ([],[],[],())).2.1),X.sl (rows ZJ (l.getD j ([],[],[],())).2.2.1)]:=by
 simp[rows,h,YW,Jc,ZJ,rSl,ZAy]
theorem ZcK (n:Tx) (k:Int) (b:Bool):ZC Tryz.prog 77 [.agg [.x (.str n),.x (.int .i64 k),.x (.bool b)]] (.x (.str n)):=by
 refine ZN.pure (ZP (fz:=true) ZH (p:=i77) rfl _ (ξ rfl) _ (fun C0 E0=> ?_)) rfl;dsimp only[i77,qt,qi,qs,qb,qm,qa,qh,qj,qT,qF,qe,ql,qL,qf,q2,q3,q8,qz,qp,qP,qc,qk,qx,qy,qo,qr,qC,ZQ];have uu:=trivial;have tT:=(ZG:SsOk Tryz.prog ZV);refine nz ?_;refine rg tT [1] ?_;refine rg tT [2] ?_;refine lf ?_
 first|rfl|exact⟨rfl,rfl⟩|trivial
theorem Zc1 (n:Tx) (R R':List (List X)):ZC Tryz.prog 80 [.agg [.x (.str n),.x (.sl R),.x (.sl R')]] (.x (.str n)):=by
 refine ZN.pure (ZP (fz:=true) ZH (p:=i80) rfl _ (ξ rfl) _ (fun C0 E0=> ?_)) rfl;dsimp only[i80,qt,qi,qs,qb,qm,qa,qh,qj,qT,qF,qe,ql,qL,qf,q2,q3,q8,qz,qp,qP,qc,qk,qx,qy,qo,qr,qC,ZQ];have uu:=trivial;have tT:=(ZG:SsOk Tryz.prog ZV);refine nz ?_;refine rg tT [1] ?_;refine rg tT [2] ?_;refine lf ?_
 first|rfl|exact⟨rfl,rfl⟩|trivial
theorem Zcr:ZC Tryz.prog 81 [] (.x (.int .i64 0)):=by
 refine ZN.pure (ZP (fz:=true) ZH (p:=i81) rfl _ (ξ rfl) _ (fun C0 E0=> ?_)) rfl;dsimp only[i81,qt,qi,qs,qb,qm,qa,qh,qj,qT,qF,qe,ql,qL,qf,q2,q3,q8,qz,qp,qP,qc,qk,qx,qy,qo,qr,qC,ZQ];have uu:=trivial;have tT:=(ZG:SsOk Tryz.prog ZV);refine nz ?_;refine rg tT [] ?_;refine rg tT [0] ?_;refine lf ?_
 first|rfl|exact⟨rfl,rfl⟩|trivial
def ZCq:List D→Option (Bool×D)
 | [.agg [.x (.str n),.x (.int .i64 k),.x (.bool b)]]=>some (true,.x (.str n))
 |_=>none
theorem ZXZ: ∀args r,ZCq args=some (true,r)→ZC Tryz.prog 77 args r:=by
 intro args r h;unfold ZCq at h;split at h
 ·rename_i n k b;simp only[Zf,Zc,ZW,Zj,true_and]at h;obtain rfl:=h;exact(ZcK n k b)
 ·cases h
def ZCp:List D→Option (Bool×D)
 | [.agg [.x (.str n),.x (.sl R),.x (.sl T)]]=>some (true,.x (.str n))
 |_=>none
theorem ZZK: ∀args r,ZCp args=some (true,r)→ZC Tryz.prog 80 args r:=by
 intro args r h;unfold ZCp at h;split at h
 ·rename_i n R T;simp only[Zf,Zc,ZW,Zj,true_and]at h;obtain rfl:=h;exact(Zc1 n R T)
 ·cases h
def ZDk:Tabs:=ZY (ZY (ZY (ZV) 37 YF) 77 ZCq) 80 ZCp
theorem ZGr:SsOk Tryz.prog ZDk:=ZL (ZL (ZL (ZG) (ZB ZH (p:=i37) rfl) ZA4) (ZB ZH (p:=i77) rfl) ZXZ) (ZB ZH (p:=i80) rfl) ZZK
theorem ZEz (a:List D):ZDk.q 37 a=YF a:=rfl
theorem ZFA (a:List D):ZDk.q 77 a=ZCq a:=rfl
theorem ZE9 (a:List D):ZDk.q 80 a=ZCp a:=rfl
theorem ZHJ (f:FuncId) (a:List D) (o:List Ob):ZDk.r f a o=none:=rfl
theorem ZHf (f:FuncId) (a:List D) (o:List Ob):ZDk.k f a o=none:=rfl
theorem ZbZ (l:List Tx) (hl:l.length≤100000) (hn: ∀x∈l,x.length≤140737488355328):ZC Tryz.prog 46 [.x (.sl (rows ZJ l)),.fn 37 []] (.x (.sl (rows ZJ (l.map ZD)))):=by
 refine ZN.pure (ZP (fz:=true) ZH (p:=i46) rfl _ (ξ rfl) _ (fun C0 E0=> ?_)) rfl;dsimp only[i46,qt,qi,qs,qb,qm,qa,qh,qj,qT,qF,qe,ql,qL,qf,q2,q3,q8,qz,qp,qP,qc,qk,qx,qy,qo,qr,qC,ZQ];have uu:=ZA @YF.eq_1 (ZA @YF.eq_2 (ZA @ZHJ (ZA @ZHf (ZA @ZEz (ZA @ZFA (ZA @ZE9 (ZA @ZCq.eq_1 (ZA @ZCq.eq_2 (ZA @ZCp.eq_1 (@ZCp.eq_2))))))))));have tT:=ZGr;refine nz ?_;refine rg tT [0,1] ?_;refine rg tT [0,1,5] ?_;refine rg tT [1,5,8,9,10] ?_;refine WI.ownA 5 9 1 ?_;refine WI.loop (fun φ os=> ∃(j:Nat),φ= [(1,.fn 37 []),(5,.ref 0 ((l.take j).map ZD).length 0 ((l.take j).map ZD).length),(8,.x (.sl (rows ZJ l))),(9,.x (.int .i64 l.length)),(10,.x (.int .i64 j))]∧os= [.rows false 9 1 (rows ZJ ((l.take j).map ZD))]∧j≤l.length) (ZK l.length 10) ?_ (fun φ os hI=> ?_)
 ·exact⟨0,rfl,rfl,by omega⟩
 ·obtain⟨j,rfl,rfl,hj⟩:=hI;refine nz ?_;refine rg tT [1,5,8,9,10,11] ?_;refine cd (fun h0=> ?_) (fun h0=> ?_)
  ·have hj4:j<l.length:=by omega
   have hrw:=JF l j hj4;have htk:(l.take (j+1)).map ZD=(l.take j).map ZD++ [ZD (l.getD j [])]:=by rw[List.take_succ_eq_append_getElem hj4,List.map_append];simp[hj4]
   have hd:=ZM (hn (l.getD j []) (by rw[show l.getD j []=l[j] by simp[hj4]];exact List.getElem_mem hj4));have hlen:((l.take j).map ZD).length=j:=by rw[List.length_map,List.length_take];omega
   have hlen2:((l.take j).map ZD).length≤100000:=by rw[hlen];omega
   generalize l.getD j []=x at hrw htk hd;have uu:=ZA uu (ZA hrw hd);refine rg tT [1,5,7,8,9,10] ?_;refine rg tT [1,5,8,9,10] ?_;refine WI.pickA [0] ?_;refine rg tT [1,5,8,9,10] ?_;exact⟨⟨j+1,by rw[htk,Zs];rfl,by rw[htk,ZAt],by omega⟩,by simp[ZK,Ab.get,D.val,ZF];omega⟩
  ·obtain rfl:j=l.length:=by omega
   rw[List.take_length];refine rg tT [4] ?_;refine WI.freezeA [0] ?_;refine WI.pickA [] ?_;refine lf ?_
   first|rfl|exact⟨rfl,rfl⟩|trivial
theorem ZaT (l:List Zi) (hl:l.length≤100000):ZC Tryz.prog 76 [.x (.sl (rows Zw l)),.fn 77 []] (.x (.sl (rows ZJ (l.map (·.1))))):=by
 refine ZN.pure (ZP (fz:=true) ZH (p:=i76) rfl _ (ξ rfl) _ (fun C0 E0=> ?_)) rfl;dsimp only[i76,qt,qi,qs,qb,qm,qa,qh,qj,qT,qF,qe,ql,qL,qf,q2,q3,q8,qz,qp,qP,qc,qk,qx,qy,qo,qr,qC,ZQ];have uu:=ZA @ZCq.eq_1 (ZA @ZCq.eq_2 (ZA @ZHJ (ZA @ZHf (ZA @ZEz (ZA @ZFA (ZA @ZE9 (ZA @ZCp.eq_1 (ZA @ZCp.eq_2 (ZA @YF.eq_1 (@YF.eq_2))))))))));have tT:=ZGr;refine nz ?_;refine rg tT [0,1] ?_;refine rg tT [0,1,5] ?_;refine rg tT [1,5,8,9,10] ?_;refine WI.ownA 5 9 1 ?_;refine WI.loop (fun φ os=> ∃(j:Nat),φ= [(1,.fn 77 []),(5,.ref 0 ((l.take j).map (·.1)).length 0 ((l.take j).map (·.1)).length),(8,.x (.sl (rows Zw l))),(9,.x (.int .i64 l.length)),(10,.x (.int .i64 j))]∧os= [.rows false 9 1 (rows ZJ ((l.take j).map (·.1)))]∧j≤l.length) (ZK l.length 10) ?_ (fun φ os hI=> ?_)
 ·exact⟨0,rfl,rfl,by omega⟩
 ·obtain⟨j,rfl,rfl,hj⟩:=hI;refine nz ?_;refine rg tT [1,5,8,9,10,11] ?_;refine cd (fun h0=> ?_) (fun h0=> ?_)
  ·have hj4:j<l.length:=by omega
   have hrw:=ZKD l j hj4;have htk:(l.take (j+1)).map (·.1)=(l.take j).map (·.1)++ [(l.getD j ([],0,false,())).1]:=by rw[List.take_succ_eq_append_getElem hj4,List.map_append];simp[hj4]
   have hlen:((l.take j).map (·.1)).length=j:=by rw[List.length_map,List.length_take];omega
   have hlen2:((l.take j).map (·.1)).length≤100000:=by rw[hlen];omega
   generalize l.getD j ([],0,false,())=x at hrw htk;have uu:=ZA uu hrw;refine rg tT [1,5,7,8,9,10] ?_;refine rg tT [1,5,8,9,10] ?_;refine WI.pickA [0] ?_;refine rg tT [1,5,8,9,10] ?_;exact⟨⟨j+1,by rw[htk,Zs];rfl,by rw[htk,ZAt],by omega⟩,by simp[ZK,Ab.get,D.val,ZF];omega⟩
  ·obtain rfl:j=l.length:=by omega
   rw[List.take_length];refine rg tT [4] ?_;refine WI.freezeA [0] ?_;refine WI.pickA [] ?_;refine lf ?_
   first|rfl|exact⟨rfl,rfl⟩|trivial
theorem ZbD (l:List Zt) (hl:l.length≤100000):ZC Tryz.prog 79 [.x (.sl (rows YW l)),.fn 80 []] (.x (.sl (rows ZJ (l.map (·.1))))):=by
 refine ZN.pure (ZP (fz:=true) ZH (p:=i79) rfl _ (ξ rfl) _ (fun C0 E0=> ?_)) rfl;dsimp only[i79,qt,qi,qs,qb,qm,qa,qh,qj,qT,qF,qe,ql,qL,qf,q2,q3,q8,qz,qp,qP,qc,qk,qx,qy,qo,qr,qC,ZQ];have uu:=ZA @ZCp.eq_1 (ZA @ZCp.eq_2 (ZA @ZHJ (ZA @ZHf (ZA @ZEz (ZA @ZFA (ZA @ZE9 (ZA @ZCq.eq_1 (ZA @ZCq.eq_2 (ZA @YF.eq_1 (@YF.eq_2))))))))));have tT:=ZGr;refine nz ?_;refine rg tT [0,1] ?_;refine rg tT [0,1,5] ?_;refine rg tT [1,5,8,9,10] ?_;refine WI.ownA 5 9 1 ?_;refine WI.loop (fun φ os=> ∃(j:Nat),φ= [(1,.fn 80 []),(5,.ref 0 ((l.take j).map (·.1)).length 0 ((l.take j).map (·.1)).length),(8,.x (.sl (rows YW l))),(9,.x (.int .i64 l.length)),(10,.x (.int .i64 j))]∧os= [.rows false 9 1 (rows ZJ ((l.take j).map (·.1)))]∧j≤l.length) (ZK l.length 10) ?_ (fun φ os hI=> ?_)
 ·exact⟨0,rfl,rfl,by omega⟩
 ·obtain⟨j,rfl,rfl,hj⟩:=hI;refine nz ?_;refine rg tT [1,5,8,9,10,11] ?_;refine cd (fun h0=> ?_) (fun h0=> ?_)
  ·have hj4:j<l.length:=by omega
   have hrw:=ZOp l j hj4;have htk:(l.take (j+1)).map (·.1)=(l.take j).map (·.1)++ [(l.getD j ([],[],[],())).1]:=by rw[List.take_succ_eq_append_getElem hj4,List.map_append];simp[hj4]
   have hlen:((l.take j).map (·.1)).length=j:=by rw[List.length_map,List.length_take];omega
   have hlen2:((l.take j).map (·.1)).length≤100000:=by rw[hlen];omega
   generalize l.getD j ([],[],[],())=x at hrw htk;have uu:=ZA uu hrw;refine rg tT [1,5,7,8,9,10] ?_;refine rg tT [1,5,8,9,10] ?_;refine WI.pickA [0] ?_;refine rg tT [1,5,8,9,10] ?_;exact⟨⟨j+1,by rw[htk,Zs];rfl,by rw[htk,ZAt],by omega⟩,by simp[ZK,Ab.get,D.val,ZF];omega⟩
  ·obtain rfl:j=l.length:=by omega
   rw[List.take_length];refine rg tT [4] ?_;refine WI.freezeA [0] ?_;refine WI.pickA [] ?_;refine lf ?_
   first|rfl|exact⟨rfl,rfl⟩|trivial
def ZGu (T:List Zi):Int:=if T.all (fun t=>decide (1≤t.2.1∧t.2.1≤5))=true then 0 else 1
def Kc (l:List Tx) (b:Int):Int:=if l.all JB=true then(if b≠0 then b else if decide (l.map ZD).Nodup=true then 0 else 9)else 13
theorem ZdF (T:List Zi) (hT:T.length≤100000):ZU Tryz.prog 78 [.ptr 0 0] [.box [.x (.sl (rows Zw T))]] (.x (.int .i64 (ZGu T))) [.box [.x (.sl (rows Zw T))]]:=by
 have hO: [Ob.box [.x (.sl (rows Zw T))]].all (Ob.inP (fun i=>decide (i< [Ob.box [.x (.sl (rows Zw T))]].length)))=true:=rfl;refine ZN.mcallsX (ZP (fz:=true) ZH (p:=i78) rfl _ (ξ rfl) _ (fun C0 E0=> ?_)) (by first|decide|(simp;done)) hO (by first|rfl|exact hR);dsimp only[i78,qt,qi,qs,qb,qm,qa,qh,qj,qT,qF,qe,ql,qL,qf,q2,q3,q8,qz,qp,qP,qc,qk,qx,qy,qo,qr,qC,ZQ];have uu:=trivial;have tT:=(ZG:SsOk Tryz.prog ZV);refine nz ?_;refine rg tT [0] ?_;refine rg tT [4,5,6] ?_;refine WI.orderA [4,5,6] ?_;refine WI.loop (fun φ os=> ∃(j:Nat),φ= [(4,.x (.sl (rows Zw T))),(5,.x (.int .i64 T.length)),(6,.x (.int .i64 j))]∧os= [.box [.x (.sl (rows Zw T))]]∧j≤T.length∧(T.take j).all (fun t=>decide (1≤t.2.1∧t.2.1≤5))=true) (ZK T.length 6) ?_ (fun φ os hI=> ?_)
 ·exact⟨0,rfl,rfl,by omega,rfl⟩
 ·obtain⟨j,rfl,rfl,hj,hall⟩:=hI;refine nz ?_;refine rg tT [4,5,6,7] ?_;refine cd (fun h0=> ?_) (fun h0=> ?_)
  ·have hj4:j<T.length:=by omega
   have hrw:=ZKD T j hj4;have hgj:T[j]=T.getD j ([],0,false,()):=by simp[hj4]
   have hal:=YJ (fun t:Zi=>decide (1≤t.2.1∧t.2.1≤5)) T j hj4;have hno:decide (1≤(T.getD j ([],0,false,())).2.1∧(T.getD j ([],0,false,())).2.1≤5)=false→T.all (fun t=>decide (1≤t.2.1∧t.2.1≤5))=false:=fun h=>Ze (fun t:Zi=>decide (1≤t.2.1∧t.2.1≤5)) T j hj4 (by rw[hgj];exact h)
   rw[hgj]at hal;generalize T.getD j ([],0,false,())=x at hrw hal hno;have uu:=ZA uu hrw;refine rg tT [3,4,5,6] ?_;refine rg tT [4,5,6,17] ?_;refine cd (fun h1=> ?_) (fun h1=> ?_)
   ·have hno2:=hno (decide_eq_false (by clear uu;grind));refine rg tT [1] ?_;refine lf ?_;exact⟨by unfold ZGu;rw[hno2];rfl,_,rfl⟩
   ·have hall2:(T.take (j+1)).all (fun t=>decide (1≤t.2.1∧t.2.1≤5))=true:=by rw[hal,hall,ZM (show 1≤x.2.1∧x.2.1≤5 by clear uu;grind)];rfl
    refine WI.pickA [0] ?_;refine rg tT [4,5,6] ?_;exact⟨⟨j+1,rfl,rfl,by omega,hall2⟩,by simp[ZK,Ab.get,D.val,ZF];omega⟩
  ·refine rg tT [1] ?_;refine lf ?_;exact⟨by unfold ZGu;rw[YN (by omega)]at hall;rw[hall];rfl,_,rfl⟩
def ZEf:List D→List Ob→Option (Bool×D×List Ob)
 | [.ptr 0 0],[.box [.x (.sl R)]]=>(Zg Zw R).bind fun T=>some (decide (T.length≤100000),.x (.int .i64 (ZGu T)),[.box [.x (.sl (rows Zw T))]])
 |_,_=>none
theorem ZYN: ∀args os r os',ZEf args os=some (true,r,os')→ZU Tryz.prog 78 args os r os':=by
 intro args os r os' h;unfold ZEf at h;split at h
 ·rename_i R;obtain⟨T,hr0,h⟩:=Zr h;simp only[Zf,Zc,ZW,Zj,true_and]at h;obtain⟨h1,rfl,rfl⟩:=h;rw[←ZX YM hr0];exact ZdF T h1
 ·cases h
theorem ZIA (T:List Zi):Zg Zw (rows Zw T)=some T:=JS YM T
def ZEe:List D→Option (Bool×D)
 | []=>some (true,.x (.int .i64 0))
 |_=>none
theorem ZYU: ∀args r,ZEe args=some (true,r)→ZC Tryz.prog 81 args r:=by
 intro args r h;unfold ZEe at h;split at h
 ·simp only[Zf,Zc,ZW,Zj,true_and]at h;obtain rfl:=h;exact Zcr
 ·cases h
def ZDB:Tabs:=JR (ZY (ZY (ZY (ZV) 37 YF) 114 ZBv) 81 ZEe) 78 ZEf
theorem ZLZ:SsOk Tryz.prog ZDB:=Yl (ZL (ZL (ZL (ZG) (ZB ZH (p:=i37) rfl) ZA4) (ZB ZH (p:=ZRk) rfl) ZS8) (ZB ZH (p:=i81) rfl) ZYU) (ZB ZH (p:=i78) rfl) ZYN
theorem ZKF (a:List D):ZDB.q 37 a=YF a:=rfl
theorem ZIx (a:List D):ZDB.q 114 a=ZBv a:=rfl
theorem ZKT (a:List D):ZDB.q 81 a=ZEe a:=rfl
theorem ZKZ (a:List D):ZDB.q 78 a=none:=rfl
theorem ZKH (a:List D) (o:List Ob):ZDB.t 78 a o=YU ZEf a o:=rfl
theorem ZNl (f:FuncId) (a:List D) (o:List Ob):ZDB.r f a o=none:=rfl
theorem ZNh (f:FuncId) (a:List D) (o:List Ob):ZDB.k f a o=none:=rfl
theorem ZIe {l:List Tx} {j:Nat} (h:j<l.length):(l.take (j+1)).map ZD=(l.take j).map ZD++ [ZD (l.getD j [])]:=by
 rw[List.take_succ_eq_append_getElem h,List.map_append];simp[h]
theorem ZUF {l:List Tx} {j:Nat} (h:j<l.length) (hin:ZD (l.getD j [])∈(l.take j).map ZD):decide (l.map ZD).Nodup=false:=by
 refine decide_eq_false fun hn=> ?_
 have e:l=l.take j++l.getD j []::l.drop (j+1):=by
  have:=List.take_append_drop j l;rw[List.drop_eq_getElem_cons h]at this;rw[show l.getD j []=l[j] by simp[h]];exact this.symm
 rw[e,List.map_append,List.map_cons]at hn;exact(List.nodup_append.1 hn).2.2 _ hin _ List.mem_cons_self rfl
theorem ZYf (T:List Zi) (hT:T.length≤100000) (l:List Tx) (hl:l.length≤100000) (hn: ∀x∈l,x.length≤1000000):ZU Tryz.prog 75 [.x (.sl (rows ZJ l)),.fn 78 [.ptr 0 0]] [.box [.x (.sl (rows Zw T))]] (.x (.int .i64 (Kc l (ZGu T)))) [.box [.x (.sl (rows Zw T))]]:=by
 obtain⟨B,hB⟩: ∃B,B=ZGu T:=⟨_,rfl⟩;rw[←hB];have hno:l.all JB=false→Kc l B=13:=fun h=>by unfold Kc;rw[h];rfl
 have hbb:l.all JB=true→B≠0→Kc l B=B:=fun h h2=>by unfold Kc;rw[if_pos h,if_pos h2]
 have hdu:l.all JB=true→B=0→decide (l.map ZD).Nodup=false→Kc l B=9:=fun h h2 h3=>by unfold Kc;rw[if_pos h,if_neg (by simp[h2]),h3];rfl
 have hok:l.all JB=true→B=0→(l.map ZD).Nodup→Kc l B=0:=fun h h2 h3=>by unfold Kc;rw[if_pos h,if_neg (by simp[h2]),ZM h3];rfl
 have hO:=(rfl: [Ob.box [.x (.sl (rows Zw T))]].all (Ob.inP (fun i=>decide (i< [Ob.box [.x (.sl (rows Zw T))]].length)))=true);refine ZN.mcallsX (ZP (fz:=true) ZH (p:=i75) rfl _ (ξ rfl) _ (fun C0 E0=> ?_)) (by first|decide|(simp;done)) hO (by first|rfl|exact hR);dsimp only[i75,qt,qi,qs,qb,qm,qa,qh,qj,qT,qF,qe,ql,qL,qf,q2,q3,q8,qz,qp,qP,qc,qk,qx,qy,qo,qr,qC,ZQ];have uu:=ZA @YF.eq_1 (ZA @YF.eq_2 (ZA @ZBv.eq_1 (ZA @ZBv.eq_2 (ZA @ZEf.eq_1 (ZA @ZEf.eq_2 (ZA @ZEe.eq_1 (ZA @ZEe.eq_2 (ZA @ZIA (ZA @ZNl (ZA @ZNh (ZA @ZIx (ZA @ZKF (ZA @ZKZ (ZA @ZKT (@ZKH)))))))))))))));have tT:=ZLZ;refine nz ?_;refine rg tT [0,1] ?_;refine rg tT [0,1,11,12,13] ?_;refine WI.orderA [0,1,11,12,13] ?_;refine WI.loop (fun φ os=> ∃(j:Nat),φ= [(0,.x (.sl (rows ZJ l))),(1,.fn 78 [.ptr 0 0]),(11,.x (.sl (rows ZJ l))),(12,.x (.int .i64 l.length)),(13,.x (.int .i64 j))]∧os= [.box [.x (.sl (rows Zw T))]]∧j≤l.length∧(l.take j).all JB=true) (ZK l.length 13) ?_ (fun φ os hI=> ?_)
 ·exact⟨0,rfl,rfl,by omega,rfl⟩
 ·obtain⟨j,rfl,rfl,hj,hall⟩:=hI;refine nz ?_;refine rg tT [0,1,11,12,13,14] ?_;refine cd (fun h0=> ?_) (fun h0=> ?_)
  ·have hj4:j<l.length:=by omega
   have hrw:=JF l j hj4;have hgj:l[j]=l.getD j []:=by simp[hj4]
   have hal:=YJ JB l j hj4;have hnt:JB (l.getD j [])=false→l.all JB=false:=fun h=>Ze JB l j hj4 (by rw[hgj];exact h)
   have hd:=ZM (hn l[j] (List.getElem_mem hj4));rw[hgj]at hal hd;generalize l.getD j []=x at hrw hal hnt hd;have uu:=ZA uu (ZA hrw hd);refine rg tT [0,1,6,11,12,13] ?_;refine rg tT [0,1,11,12,13,19] ?_;refine cd (fun h1=> ?_) (fun h1=> ?_)
   ·have hxf:JB x=false:=by clear uu;grind
    refine rg tT [4] ?_;refine lf ?_;exact⟨by rw[hno (hnt hxf)],_,rfl⟩
   ·have hxt:JB x=true:=by clear uu;grind
    have hall2:(l.take (j+1)).all JB=true:=by rw[hal,hall,hxt];rfl
    refine rg tT [0,1,11,12,13] ?_;exact⟨⟨j+1,rfl,rfl,by omega,hall2⟩,by simp[ZK,Ab.get,D.val,ZF];omega⟩
  ·obtain rfl:j=l.length:=by omega
   rw[List.take_length]at hall;refine rg tT [0,7] ?_;refine rg tT [0,7,24] ?_;refine cd (fun h2=> ?_) (fun h2=> ?_)
   ·have hB0: ¬B=0:=by clear uu;subst hB;grind
    refine rg tT [4] ?_;refine lf ?_;exact⟨by rw[hbb hall hB0,hB],_,rfl⟩
   ·have hB0:B=0:=by clear uu;subst hB;grind
    refine rg tT [0,8] ?_;refine rg tT [8,27,28,29] ?_;refine WI.orderA [8,27,28,29] ?_;refine WI.loop (fun φ os=> ∃(j:Nat),φ= [(8,.mref 1),(27,.x (.sl (rows ZJ l))),(28,.x (.int .i64 l.length)),(29,.x (.int .i64 j))]∧os= [.box [.x (.sl (rows Zw T))],.mpo .str false (snM ((l.take j).map ZD))]∧j≤l.length∧((l.take j).map ZD).Nodup) (ZK l.length 29) ?_ (fun φ os hI=> ?_)
    ·exact⟨0,rfl,rfl,by omega,by simp⟩
    ·obtain⟨j,rfl,rfl,hj,hnd⟩:=hI;refine nz ?_;refine rg tT [8,27,28,29,30] ?_;refine cd (fun h3=> ?_) (fun h3=> ?_)
     ·have hj4:j<l.length:=by omega
      have hrw:=JF l j hj4;have hd:=ZM (show(l.getD j []).length≤140737488355328 by rw[show l.getD j []=l[j] by simp[hj4]];have:=hn _ (List.getElem_mem hj4);omega);have uu:=ZA uu (ZA hrw hd);refine rg tT [8,10,27,28,29] ?_;by_cases hin:ZD (l.getD j [])∈(l.take j).map ZD
      ·have hg1:=ZCX hin;have hcp:=List.count_pos_iff.2 hin;have uu:=ZA uu hg1;refine rg tT [8,10,27,28,29,37] ?_;refine ct (fun h4=> ?_) (fun h4=> ?_)
       ·refine rg tT [4] ?_;refine lf ?_;exact⟨by rw[hdu hall hB0 (ZUF hj4 hin)],_,rfl⟩
       ·first|exact h4 (Int.natCast_pos.2 hcp)|exact(of_decide_eq_false h4) (Int.natCast_pos.2 hcp)|(simp at h4;exact absurd hcp (by omega))
      ·have hg1:=ZD9 hin;have hg2:=ZFf hin;have uu:=ZA uu (ZA hg1 hg2);refine rg tT [8,10,27,28,29,37] ?_;refine ce (fun h4=> ?_) (fun h4=> ?_)
       ·simp at h4
       ·refine rg tT [8,27,28,29] ?_;have hnd2:((l.take (j+1)).map ZD).Nodup:=by
         rw[ZIe hj4,List.nodup_append];exact⟨hnd,by simp,fun a ha b hb=>by simp only[List.mem_singleton]at hb;subst hb;rintro rfl;exact hin ha⟩
        refine rg tT [8,27,28,29] ?_;exact⟨⟨j+1,rfl,by rw[ZIe hj4],by omega,hnd2⟩,by simp[ZK,Ab.get,D.val,ZF];omega⟩
     ·refine rg tT [4] ?_;refine lf ?_;exact⟨by rw[YN (by omega)]at hnd;rw[hok hall hB0 hnd],_,rfl⟩
theorem ZZg (l:List Tx) (hl:l.length≤100000) (hn: ∀x∈l,x.length≤1000000):ZC Tryz.prog 75 [.x (.sl (rows ZJ l)),.fn 81 []] (.x (.int .i64 (Kc l 0))):=by
 obtain⟨B,hB⟩: ∃B,B=(0:Int):=⟨_,rfl⟩;rw[←hB];have hno:l.all JB=false→Kc l B=13:=fun h=>by unfold Kc;rw[h];rfl
 have hbb:l.all JB=true→B≠0→Kc l B=B:=fun h h2=>by unfold Kc;rw[if_pos h,if_pos h2]
 have hdu:l.all JB=true→B=0→decide (l.map ZD).Nodup=false→Kc l B=9:=fun h h2 h3=>by unfold Kc;rw[if_pos h,if_neg (by simp[h2]),h3];rfl
 have hok:l.all JB=true→B=0→(l.map ZD).Nodup→Kc l B=0:=fun h h2 h3=>by unfold Kc;rw[if_pos h,if_neg (by simp[h2]),ZM h3];rfl
 refine ZN.pure (ZP (fz:=true) ZH (p:=i75) rfl _ (ξ rfl) _ (fun C0 E0=> ?_)) rfl;dsimp only[i75,qt,qi,qs,qb,qm,qa,qh,qj,qT,qF,qe,ql,qL,qf,q2,q3,q8,qz,qp,qP,qc,qk,qx,qy,qo,qr,qC,ZQ];have uu:=ZA @YF.eq_1 (ZA @YF.eq_2 (ZA @ZBv.eq_1 (ZA @ZBv.eq_2 (ZA @ZEf.eq_1 (ZA @ZEf.eq_2 (ZA @ZEe.eq_1 (ZA @ZEe.eq_2 (ZA @ZNl (ZA @ZNh (ZA @ZIx (ZA @ZKF (ZA @ZKZ (ZA @ZKT (@ZKH))))))))))))));have tT:=ZLZ;refine nz ?_;refine rg tT [0,1] ?_;refine rg tT [0,1,11,12,13] ?_;refine WI.orderA [0,1,11,12,13] ?_;refine WI.loop (fun φ os=> ∃(j:Nat),φ= [(0,.x (.sl (rows ZJ l))),(1,.fn 81 []),(11,.x (.sl (rows ZJ l))),(12,.x (.int .i64 l.length)),(13,.x (.int .i64 j))]∧os= []∧j≤l.length∧(l.take j).all JB=true) (ZK l.length 13) ?_ (fun φ os hI=> ?_)
 ·exact⟨0,rfl,rfl,by omega,rfl⟩
 ·obtain⟨j,rfl,rfl,hj,hall⟩:=hI;refine nz ?_;refine rg tT [0,1,11,12,13,14] ?_;refine cd (fun h0=> ?_) (fun h0=> ?_)
  ·have hj4:j<l.length:=by omega
   have hrw:=JF l j hj4;have hgj:l[j]=l.getD j []:=by simp[hj4]
   have hal:=YJ JB l j hj4;have hnt:JB (l.getD j [])=false→l.all JB=false:=fun h=>Ze JB l j hj4 (by rw[hgj];exact h)
   have hd:=ZM (hn l[j] (List.getElem_mem hj4));rw[hgj]at hal hd;generalize l.getD j []=x at hrw hal hnt hd;have uu:=ZA uu (ZA hrw hd);refine rg tT [0,1,6,11,12,13] ?_;refine rg tT [0,1,11,12,13,19] ?_;refine cd (fun h1=> ?_) (fun h1=> ?_)
   ·have hxf:JB x=false:=by clear uu;grind
    refine rg tT [4] ?_;refine lf ?_;rw[hno (hnt hxf)]
   ·have hxt:JB x=true:=by clear uu;grind
    have hall2:(l.take (j+1)).all JB=true:=by rw[hal,hall,hxt];rfl
    refine rg tT [0,1,11,12,13] ?_;exact⟨⟨j+1,rfl,rfl,by omega,hall2⟩,by simp[ZK,Ab.get,D.val,ZF];omega⟩
  ·obtain rfl:j=l.length:=by omega
   rw[List.take_length]at hall;refine rg tT [0,7] ?_;refine rg tT [0,7,24] ?_;refine cd (fun h2=> ?_) (fun h2=> ?_)
   ·have hB0: ¬B=0:=by clear uu;subst hB;grind
    refine rg tT [4] ?_;refine lf ?_;rw[hbb hall hB0,hB]
   ·have hB0:B=0:=by clear uu;subst hB;grind
    refine rg tT [0,8] ?_;refine rg tT [8,27,28,29] ?_;refine WI.orderA [8,27,28,29] ?_;refine WI.loop (fun φ os=> ∃(j:Nat),φ= [(8,.mref 0),(27,.x (.sl (rows ZJ l))),(28,.x (.int .i64 l.length)),(29,.x (.int .i64 j))]∧os= [.mpo .str false (snM ((l.take j).map ZD))]∧j≤l.length∧((l.take j).map ZD).Nodup) (ZK l.length 29) ?_ (fun φ os hI=> ?_)
    ·exact⟨0,rfl,rfl,by omega,by simp⟩
    ·obtain⟨j,rfl,rfl,hj,hnd⟩:=hI;refine nz ?_;refine rg tT [8,27,28,29,30] ?_;refine cd (fun h3=> ?_) (fun h3=> ?_)
     ·have hj4:j<l.length:=by omega
      have hrw:=JF l j hj4;have hd:=ZM (show(l.getD j []).length≤140737488355328 by rw[show l.getD j []=l[j] by simp[hj4]];have:=hn _ (List.getElem_mem hj4);omega);have uu:=ZA uu (ZA hrw hd);refine rg tT [8,10,27,28,29] ?_;by_cases hin:ZD (l.getD j [])∈(l.take j).map ZD
      ·have hg1:=ZCX hin;have hcp:=List.count_pos_iff.2 hin;have uu:=ZA uu hg1;refine rg tT [8,10,27,28,29,37] ?_;refine ct (fun h4=> ?_) (fun h4=> ?_)
       ·refine rg tT [4] ?_;refine lf ?_;rw[hdu hall hB0 (ZUF hj4 hin)]
       ·first|exact h4 (Int.natCast_pos.2 hcp)|exact(of_decide_eq_false h4) (Int.natCast_pos.2 hcp)|(simp at h4;exact absurd hcp (by omega))
      ·have hg1:=ZD9 hin;have hg2:=ZFf hin;have uu:=ZA uu (ZA hg1 hg2);refine rg tT [8,10,27,28,29,37] ?_;refine ce (fun h4=> ?_) (fun h4=> ?_)
       ·simp at h4
       ·refine rg tT [8,27,28,29] ?_;have hnd2:((l.take (j+1)).map ZD).Nodup:=by
         rw[ZIe hj4,List.nodup_append];exact⟨hnd,by simp,fun a ha b hb=>by simp only[List.mem_singleton]at hb;subst hb;rintro rfl;exact hin ha⟩
        refine rg tT [8,27,28,29] ?_;exact⟨⟨j+1,rfl,by rw[ZIe hj4],by omega,hnd2⟩,by simp[ZK,Ab.get,D.val,ZF];omega⟩
     ·refine rg tT [4] ?_;refine lf ?_;rw[YN (by omega)]at hnd;rw[hok hall hB0 hnd]
def smN (l:List Tx):Prop:=l.length≤100000∧ ∀x∈l,x.length≤1000000
instance (l:List Tx):Decidable (smN l):=inferInstanceAs (Decidable (_∧_))
def ZFl:List D→Option (Bool×D)
 | [.x (.sl R),.fn 77 []]=>(Zg Zw R).bind fun l=>some (decide (l.length≤100000),.x (.sl (rows ZJ (l.map (·.1)))))
 |_=>none
theorem ZVb: ∀args r,ZFl args=some (true,r)→ZC Tryz.prog 76 args r:=by
 intro args r h;unfold ZFl at h;split at h
 ·rename_i R;obtain⟨l,hr0,h⟩:=Zr h;simp only[Zf,Zc,ZW,Zj,true_and]at h;obtain⟨h1,rfl⟩:=h;rw[←ZX YM hr0];exact(ZaT l h1)
 ·cases h
def ZFe:List D→Option (Bool×D)
 | [.x (.sl R),.fn 80 []]=>(Zg YW R).bind fun l=>some (decide (l.length≤100000),.x (.sl (rows ZJ (l.map (·.1)))))
 |_=>none
theorem ZUv: ∀args r,ZFe args=some (true,r)→ZC Tryz.prog 79 args r:=by
 intro args r h;unfold ZFe at h;split at h
 ·rename_i R;obtain⟨l,hr0,h⟩:=Zr h;simp only[Zf,Zc,ZW,Zj,true_and]at h;obtain⟨h1,rfl⟩:=h;rw[←ZX Yc hr0];exact(ZbD l h1)
 ·cases h
def ZDf:List D→List Ob→Option (Bool×D×List Ob)
 | [.x (.sl R),.fn 78 [.ptr 0 0]],[.box [.x (.sl R2)]]=>(Zg ZJ R).bind fun l=>(Zg Zw R2).bind fun T=>some (decide (T.length≤100000∧smN l),.x (.int .i64 (Kc l (ZGu T))),[.box [.x (.sl (rows Zw T))]])
 |_,_=>none
theorem ZTF: ∀args os r os',ZDf args os=some (true,r,os')→ZU Tryz.prog 75 args os r os':=by
 intro args os r os' h;unfold ZDf at h;split at h
 ·rename_i R R2;obtain⟨l,hr0,h⟩:=Zr h;obtain⟨T,hr1,h⟩:=Zr h;simp only[Zf,Zc,ZW,Zj,true_and]at h;obtain⟨h1,rfl,rfl⟩:=h;rw[←ZX Zb hr0];rw[←ZX YM hr1];exact ZYf T h1.1 l h1.2.1 h1.2.2
 ·cases h
def ZDs:List D→Option (Bool×D)
 | [.x (.sl R),.fn 81 []]=>(Zg ZJ R).bind fun l=>some (decide (smN l),.x (.int .i64 (Kc l 0)))
 |_=>none
theorem ZRl: ∀args r,ZDs args=some (true,r)→ZC Tryz.prog 75 args r:=by
 intro args r h;unfold ZDs at h;split at h
 ·rename_i R;obtain⟨l,hr0,h⟩:=Zr h;simp only[Zf,Zc,ZW,Zj,true_and]at h;obtain⟨h1,rfl⟩:=h;rw[←ZX Zb hr0];exact(ZZg l h1.1 h1.2)
 ·cases h
def ZEP:Tabs:=ZY (JR (ZY (ZY (ZV) 76 ZFl) 79 ZFe) 75 ZDf) 75 ZDs
theorem ZWi:SsOk Tryz.prog ZEP:=ZL (Yl (ZL (ZL (ZG) (ZB ZH (p:=i76) rfl) ZVb) (ZB ZH (p:=i79) rfl) ZUv) (ZB ZH (p:=i75) rfl) ZTF) (ZB ZH (p:=i75) rfl) ZRl
theorem ZSH (a:List D):ZEP.q 76 a=ZFl a:=rfl
theorem ZTV (a:List D):ZEP.q 79 a=ZFe a:=rfl
theorem ZSz (a:List D) (o:List Ob):ZEP.t 75 a o=YU ZDf a o:=rfl
theorem ZSg (a:List D):ZEP.q 75 a=ZDs a:=rfl
theorem ZY2 (f:FuncId) (a:List D) (o:List Ob):ZEP.r f a o=none:=rfl
theorem ZYx (f:FuncId) (a:List D) (o:List Ob):ZEP.k f a o=none:=rfl
theorem ZIY (l:List Tx):Zg ZJ (rows ZJ l)=some l:=JS Zb l
theorem ZKA (l:List Zt):Zg YW (rows YW l)=some l:=JS Yc l
def ZGd (T:List Zi) (C:List Zt):Int:=if 1024<T.length∨1024<C.length then 3 else if Kc (T.map (·.1)) (ZGu T)≠0 then Kc (T.map (·.1)) (ZGu T)else Kc (C.map (·.1)) 0
def smT (T:List Zi):Prop:=T.length≤100000∧ ∀x∈T,x.1.length≤1000000
def smC (C:List Zt):Prop:=C.length≤100000∧ ∀x∈C,x.1.length≤1000000∧(x.2.1.length≤50000∧ ∀n∈x.2.1,n.length≤140737488355328)∧(x.2.2.1.length≤50000∧ ∀n∈x.2.2.1,n.length≤140737488355328)
instance (T:List Zi):Decidable (smT T):=inferInstanceAs (Decidable (_∧_))
instance (C:List Zt):Decidable (smC C):=inferInstanceAs (Decidable (_∧_))
theorem ZZL (T:List Zi) (C:List Zt) (hT:smT T) (hC:smC C):ZC Tryz.prog 45 [.x (.sl (rows Zw T)),.x (.sl (rows YW C))] (.x (.int .i64 (ZGd T C))):=by
 have hTl:=hT.1;have hCl:=hC.1;have hd1:decide (T.length≤100000∧smN (T.map (·.1)))=true:=ZM ⟨hTl,by rw[smN,List.length_map];exact⟨hTl,fun x hx=>by obtain⟨t,ht,rfl⟩:=List.mem_map.1 hx;exact hT.2 t ht⟩⟩;have hd2:decide (smN (C.map (·.1)))=true:=ZM (by rw[smN,List.length_map];exact⟨hCl,fun x hx=>by obtain⟨t,ht,rfl⟩:=List.mem_map.1 hx;exact(hC.2 t ht).1⟩);have hd3:=ZM hTl;have hd4:=ZM hCl;rcases hres:ZGd T C with v
 unfold ZGd at hres;refine ZN.pure (ZP (fz:=true) ZH (p:=i45) rfl _ (ξ rfl) _ (fun C0 E0=> ?_)) rfl;dsimp only[i45,qt,qi,qs,qb,qm,qa,qh,qj,qT,qF,qe,ql,qL,qf,q2,q3,q8,qz,qp,qP,qc,qk,qx,qy,qo,qr,qC,ZQ];have uu:=ZA @ZFl.eq_1 (ZA @ZFl.eq_2 (ZA @ZFe.eq_1 (ZA @ZFe.eq_2 (ZA @ZDf.eq_1 (ZA @ZDf.eq_2 (ZA @ZDs.eq_1 (ZA @ZDs.eq_2 (ZA @ZIA (ZA @ZIY (ZA @ZKA (ZA hd1 (ZA hd2 (ZA hd3 (ZA hd4 (ZA @ZY2 (ZA @ZYx (ZA @ZSg (ZA @ZSH (ZA @ZTV (@ZSz))))))))))))))))))));have tT:=ZWi;refine nz ?_;refine rg tT [1,2] ?_;refine rg tT [1,2,13] ?_;refine cd (fun h0=> ?_) (fun h0=> ?_)
 ·rw[if_pos (by clear uu;grind)]at hres;refine rg tT [4] ?_;refine lf ?_;rw[hres]
 ·rw[if_neg (by clear uu;grind)]at hres;refine rg tT [1,5] ?_;refine rg tT [1,5,19] ?_;refine cd (fun h1=> ?_) (fun h1=> ?_)
  ·rw[if_pos (by simpa using h1)]at hres;refine rg tT [4] ?_;refine lf ?_;rw[hres]
  ·rw[if_neg (by simpa using h1)]at hres;refine rg tT [4] ?_;refine lf ?_;rw[hres]
def ZDe:List D→Option (Bool×D)
 | [.x (.sl R),.x (.sl R2)]=>(Zg Zw R).bind fun T=>(Zg YW R2).bind fun C=>some (decide (smT T∧smC C),.x (.int .i64 (ZGd T C)))
 |_=>none
theorem ZS5: ∀args r,ZDe args=some (true,r)→ZC Tryz.prog 45 args r:=by
 intro args r h;unfold ZDe at h;split at h
 ·rename_i R R2;obtain⟨T,hr0,h⟩:=Zr h;obtain⟨C,hr1,h⟩:=Zr h;simp only[Zf,Zc,ZW,Zj,true_and]at h;obtain⟨h1,rfl⟩:=h;rw[←ZX YM hr0];rw[←ZX Yc hr1];exact(ZZL T C h1.1 h1.2)
 ·cases h
theorem ZNc {α:Type} (f:α→Tx) (l:List α) (d:α) (i:Nat) (h:i<l.length) (hn:(l.map f).Nodup):f (l.getD i d)∉(l.take i).map f:=by
 intro hin;have e:l=l.take i++l.getD i d::l.drop (i+1):=by
  have:=List.take_append_drop i l;rw[List.drop_eq_getElem_cons h]at this;rw[show l.getD i d=l[i] by simp[h]];exact this.symm
 rw[e,List.map_append,List.map_cons]at hn;exact(List.nodup_append.1 hn).2.2 _ hin _ List.mem_cons_self rfl
theorem ZO6 (T:List Zi):(YA T).map (·.1)=T.map fun t=>ZD t.1:=by unfold YA;rw[List.map_map];rfl
theorem ZM8 (C:List Zt):(YH C).map (·.1)=C.map fun c=>ZD c.1:=by unfold YH;rw[List.map_map];rfl
theorem ZdD (T:List Zi) (i:Nat) (h:i<T.length) (hn:(T.map fun t=>ZD t.1).Nodup):
  Yf (Km (YA (T.take i))) [X.str (ZD (T.getD i ([],0,false,())).1)] [.x (.str (ZD (T.getD i ([],0,false,())).1)),.x (.int .i64 (T.getD i ([],0,false,())).2.1),.x (.bool (T.getD i ([],0,false,())).2.2.1)]=Km (YA (T.take (i+1))):=by
 have h1:=ZNc (fun t:Zi=>ZD t.1) T ([],0,false,()) i h hn;rw[←ZO6]at h1;have h2:=Zdr (YA (T.take i)) (ZD (T.getD i ([],0,false,())).1) (ZN6 (T.getD i ([],0,false,())));rw[ZGF (ZB4.2 h1)]at h2;refine Eq.trans h2 ?_;rw[List.take_succ_eq_append_getElem h];unfold YA;rw[List.map_append];simp[h]
theorem ZdC (C:List Zt) (i:Nat) (h:i<C.length) (hn:(C.map fun t=>ZD t.1).Nodup):
  Yf (Kz (YH (C.take i))) [X.str (ZD (C.getD i ([],[],[],())).1)] [.x (.str (ZD (C.getD i ([],[],[],())).1)),.x (.sl (rows ZJ ((C.getD i ([],[],[],())).2.1.map ZD))),.x (.sl (rows ZJ ((C.getD i ([],[],[],())).2.2.1.map ZD)))]=Kz (YH (C.take (i+1))):=by
 have h1:=ZNc (fun t:Zt=>ZD t.1) C ([],[],[],()) i h hn;rw[←ZM8]at h1;have h2:=Zct (YH (C.take i)) (ZD (C.getD i ([],[],[],())).1) (ZA8 (C.getD i ([],[],[],())));rw[ZGF (ZB4.2 h1)]at h2;refine Eq.trans h2 ?_;rw[List.take_succ_eq_append_getElem h];unfold YH;rw[List.map_append];simp[h]
theorem ZMC {l:List Tx} {b:Int} (h:Kc l b=0):l.all JB=true∧b=0∧(l.map ZD).Nodup:=by
 unfold Kc at h;split at h
 ·split at h
  ·omega
  ·split at h
   ·rename_i h1 h2 h3;exact⟨h1,by omega,of_decide_eq_true h3⟩
   ·omega
 ·omega
theorem ZUc {T:List Zi} {C:List Zt} (h:ZGd T C=0):(T.map fun t=>ZD t.1).Nodup∧(C.map fun t=>ZD t.1).Nodup:=by
 unfold ZGd at h;split at h
 ·omega
 ·split at h
  ·rename_i h1;exact absurd h h1
  ·rename_i h1;have h2:=(ZMC (Decidable.not_not.1 h1)).2.2;have h3:=(ZMC h).2.2;rw[List.map_map]at h2 h3;exact⟨h2,h3⟩
def ZHZ (T:List Zi) (c:Zt):Bool:=(c.2.1.map ZD++c.2.2.1.map ZD).all fun n=>(ZR (YA T) (ZD n)).isSome
def ZBy (T:List Zi) (C:List Zt):Int:=if ZGd T C≠0 then ZGd T C else if C.all (ZHZ T)=true then(if(ZR (YA T) (ZD OC)).isSome=true then 0 else 8)else 8
def ZFS:List D→Option (Bool×D)
 | [.x (.sl R),.fn 37 []]=>(Zg ZJ R).bind fun l=>some (decide (l.length≤100000∧ ∀x∈l,x.length≤140737488355328),.x (.sl (rows ZJ (l.map ZD))))
 |_=>none
theorem ZUG: ∀args r,ZFS args=some (true,r)→ZC Tryz.prog 46 args r:=by
 intro args r h;unfold ZFS at h;split at h
 ·rename_i R;obtain⟨l,hr0,h⟩:=Zr h;simp only[Zf,Zc,ZW,Zj,true_and]at h;obtain⟨h1,rfl⟩:=h;rw[←ZX Zb hr0];exact(ZbZ l h1.1 h1.2)
 ·cases h
def ZHt:List D→Option (Bool×D)
 | [.x (.sl [[.sl R],[.sl R']])]=>(Zg ZJ R).bind fun a=>(Zg ZJ R').map fun b=>(decide (a.length≤100000∧b.length≤100000),.x (.sl (rows ZJ (a++b))))
 |_=>none
theorem ZRN: ∀args r,ZHt args=some (true,r)→ZC Tryz.prog 47 args r:=by
 intro args r h;unfold ZHt at h;split at h
 ·rename_i R R';obtain⟨a,h1,h⟩:=Zr h;obtain⟨b,h2,h3⟩:=Zd h;simp only[Zc,Zj]at h3;obtain⟨h4,rfl⟩:=h3;rw[←ZX Zb h1,←ZX Zb h2];exact ZZh a b h4.1 h4.2
 ·cases h
def ZBN:Tabs:=JR (JR (ZY (ZY (ZY (ZY (ZV) 45 ZDe) 37 YF) 46 ZFS) 47 ZHt) 47 (QE ZHt)) 36 ZCm
theorem ZVD:SsOk Tryz.prog ZBN:=Yl (Yl (ZL (ZL (ZL (ZL (ZG) (ZB ZH (p:=i45) rfl) ZS5) (ZB ZH (p:=i37) rfl) ZA4) (ZB ZH (p:=i46) rfl) ZUG) (ZB ZH (p:=i47) rfl) ZRN) (ZB ZH (p:=i47) rfl) (ZCR ZRN)) (ZB ZH (p:=i36) rfl) ZOQ
theorem ZSm (a:List D):ZBN.q 45 a=ZDe a:=rfl
theorem ZTa (a:List D):ZBN.q 37 a=YF a:=rfl
theorem ZTS (a:List D):ZBN.q 46 a=ZFS a:=rfl
theorem ZSt (a:List D):ZBN.q 47 a=ZHt a:=rfl
theorem ZRY (a:List D) (o:List Ob):ZBN.t 47 a o=YU (QE ZHt) a o:=rfl
theorem ZTL (a:List D):ZBN.q 36 a=none:=rfl
theorem ZRb (a:List D) (o:List Ob):ZBN.t 36 a o=YU ZCm a o:=rfl
theorem ZZD (f:FuncId) (a:List D) (o:List Ob):ZBN.r f a o=none:=rfl
theorem ZXm (f:FuncId) (a:List D) (o:List Ob):ZBN.k f a o=none:=rfl
abbrev scH (L:List (Tx×Zi)) (M:List (Tx×Zt)) (c d:Zt):List Ob:= [.box [.mref 1,.mref 2],.mpo .str true (Km L),.mpo .str true (Kz M),.box [.x (.str c.1),.x (.sl (rows ZJ c.2.1)),.x (.sl (rows ZJ c.2.2.1))],.box [.x (.str d.1),.x (.sl (rows ZJ d.2.1)),.x (.sl (rows ZJ d.2.2.1))]]
theorem ZQI (L:List (Tx×Zi)) (M:List (Tx×Zt)) (c d:Zt):(scH L M c d).all (Ob.inP (fun i=>decide (i<(scH L M c d).length)))=true:=by
 simp[Ob.inP,YY,D.inP,Ko,Kp]
set_option maxHeartbeats 4000000 in
theorem ZS9 (T:List Zi) (C:List Zt) (hT:smT T) (hC:smC C) (r:D) (OS:List Ob) (hz:ZBy T C=0→r= .tup [.ptr 0 0,.x (.int .i64 0)]∧OS=Qa (YA T) (YH C)) (hnz:ZBy T C≠0→r= .tup [.x .nilp,.x (.int .i64 (ZBy T C))]∧OS= []):
  ZU Tryz.prog 22 [.x (.sl (rows Zw T)),.x (.sl (rows YW C))] [] r OS:=by
 have hO:OS.all (Ob.inP (fun i=>decide (i<OS.length)))=true:=by
  by_cases h:ZBy T C=0
  ·rw[(hz h).2];exact Ql _ _
  ·rw[(hnz h).2];rfl
 have hTl:=hT.1;have hz':=hz;have hnz':=hnz;have hCl:=hC.1;have hd1:decide (smT T∧smC C)=true:=ZM ⟨hT,hC⟩;rcases hch:ZGd T C with v
 unfold ZBy at hz hnz;rw[hch]at hz hnz;have hoc:OC= [111,98,106,101,99,116,99,108,97,115,115]:=rfl;have hR:r.inP (fun i=>decide (i<OS.length))=true:=by
  by_cases h:ZBy T C=0
  ·rw[(hz' h).1,(hz' h).2];rfl
  ·rw[(hnz' h).1,(hnz' h).2];rfl
 refine ZN.mcallsX (ZP (fz:=true) ZH (p:=i22) rfl _ (ξ rfl) _ (fun C0 E0=> ?_)) (by first|decide|(simp;done)) hO (by first|rfl|exact hR);dsimp only[i22,qt,qi,qs,qb,qm,qa,qh,qj,qT,qF,qe,ql,qL,qf,q2,q3,q8,qz,qp,qP,qc,qk,qx,qy,qo,qr,qC,ZQ];have uu:=ZA @ZDe.eq_1 (ZA @ZDe.eq_2 (ZA @YF.eq_1 (ZA @YF.eq_2 (ZA @ZFS.eq_1 (ZA @ZFS.eq_2 (ZA @ZHt.eq_1 (ZA @ZHt.eq_2 (ZA @ZCm.eq_1 (ZA @ZCm.eq_2 (ZA @ZIA (ZA @ZIY (ZA @ZKA (ZA @ZEd (ZA @ZEr (ZA hd1 (ZA hch (ZA @ZAK (ZA @ZAG (ZA @ZBP (ZA @ZBK (ZA @Ko (ZA @Kp (ZA @Ka (ZA @ZAE (ZA @KN (ZA @ZZD (ZA @ZXm (ZA @ZTL (ZA @ZTa (ZA @ZSm (ZA @ZTS (ZA @ZSt (ZA @ZRY (ZA @ZRb (@QE.eq_1)))))))))))))))))))))))))))))))))));have tT:=ZVD;refine nz ?_;refine rg tT [0,1] ?_;refine rg tT [0,1,6] ?_;refine rg tT [0,1,6,23] ?_;refine cd (fun h0=> ?_) (fun h0=> ?_)
 ·have hv0: ¬v=0:=by simpa using h0
  refine rg tT [4,5] ?_;refine lf ?_;obtain⟨rfl,rfl⟩:=(by rw[if_pos hv0]at hnz;exact hnz hv0);exact⟨rfl,[],rfl⟩
 ·have hv0:v=0:=by simpa using h0
  subst hv0;obtain⟨hnT,hnC⟩:=ZUc hch;rw[if_neg (by simp)]at hz hnz;refine rg tT [0,1,7] ?_;refine rg tT [1,7,31,32,33] ?_;refine WI.pickA [2,0,1] ?_;refine WI.orderA [1,7,31,32,33] ?_;refine WI.loop (fun φ os=> ∃(i:Nat),φ= [(1,.x (.sl (rows YW C))),(7,.ptr 0 0),(31,.x (.sl (rows Zw T))),(32,.x (.int .i64 T.length)),(33,.x (.int .i64 i))]∧os=Qa (YA (T.take i)) []∧i≤T.length) (ZK T.length 33) ?_ (fun φ os hI=> ?_)
  ·exact⟨0,rfl,rfl,by omega⟩
  ·obtain⟨i,rfl,rfl,hi⟩:=hI;refine nz ?_;refine rg tT [1,7,31,32,33,34] ?_;refine cd (fun h1=> ?_) (fun h1=> ?_)
   ·have hi4:i<T.length:=by omega
    have hrw:=ZKD T i hi4;have hst:=ZdD T i hi4 hnT;have hxl:=hT.2 T[i] (List.getElem_mem hi4);rw[show T[i]=T.getD i ([],0,false,()) by simp[hi4]]at hxl;generalize T.getD i ([],0,false,())=x at hrw hst hxl;have hd47:decide (x.1.length≤140737488355328)=true:=ZM (by omega);have uu:=ZA uu (ZA hrw (ZA hst hd47));refine rg tT [1,7,9,31,32,33] ?_;refine rg tT [1,7,9,31,32,33] ?_;refine WI.dregB tT [1,7,31,32,33] ?_
    iterate 5 refine Zn ?_
    refine YG ?_;refine Zn ?_
    iterate 2 refine YG ?_
    refine dAG ?_;refine dN ?_;refine nz ?_;refine WI.orderA [1,7,31,32,33] ?_;refine WI.dropT (Qa (YA (T.take (i+1))) []) _ rfl (by simp) (Ql _ _) (by simp[D.inP,YY]) ?_;refine rg tT [1,7,31,32,33] ?_;exact⟨⟨i+1,rfl,rfl,by omega⟩,by simp[ZK,Ab.get,D.val,ZF];omega⟩
   ·obtain rfl:i=T.length:=by omega
    rw[List.take_length];generalize hL:YA T=L at hz hnz⊢;refine rg tT [7,51,52,53] ?_;refine WI.loop (fun φ os=> ∃(i:Nat),φ= [(7,.ptr 0 0),(51,.x (.sl (rows YW C))),(52,.x (.int .i64 C.length)),(53,.x (.int .i64 i))]∧os=Qa L (YH (C.take i))∧i≤C.length∧(C.take i).all (ZHZ T)=true) (ZK C.length 53) ?_ (fun φ os hI=> ?_)
    ·exact⟨0,rfl,rfl,by omega,rfl⟩
    ·obtain⟨i,rfl,rfl,hi,hall⟩:=hI;refine nz ?_;refine rg tT [7,51,52,53,54] ?_;refine cd (fun h2=> ?_) (fun h2=> ?_)
     ·have hi4:i<C.length:=by omega
      have hrw:=ZOp C i hi4;have hst:=ZdC C i hi4 hnC;have hal:=YJ (ZHZ T) C i hi4;have hgi:C[i]=C.getD i ([],[],[],()):=by simp[hi4]
      have hno:ZHZ T (C.getD i ([],[],[],()))=false→C.all (ZHZ T)=false:=fun h=>Ze (ZHZ T) C i hi4 (by rw[hgi];exact h)
      have hxl:=hC.2 C[i] (List.getElem_mem hi4);rw[hgi]at hxl hal;generalize C.getD i ([],[],[],())=x at hrw hst hxl hal hno;obtain⟨hx1,hx2,hx3⟩:=hxl;have hst2:Yf (Kz (YH (C.take i))) [X.str (ZA8 x).1] [.x (.str (ZA8 x).1),.x (.sl (rows ZJ (ZA8 x).2.1)),.x (.sl (rows ZJ (ZA8 x).2.2.1))]=Kz (YH (C.take (i+1))):=hst;have hd47:decide (x.1.length≤140737488355328)=true:=ZM (by omega);have hd48:decide (x.2.1.length≤100000∧ ∀n∈x.2.1,n.length≤140737488355328)=true:=ZM ⟨by omega,hx2.2⟩;have hd49:decide (x.2.2.1.length≤100000∧ ∀n∈x.2.2.1,n.length≤140737488355328)=true:=ZM ⟨by omega,hx3.2⟩;have hl1:(x.2.1.map ZD).length≤50000:=by rw[List.length_map];exact hx2.1
      have hl2:(x.2.2.1.map ZD).length≤50000:=by rw[List.length_map];exact hx3.1
      have hct:ZHZ T x=(x.2.1.map ZD++x.2.2.1.map ZD).all fun n=>(ZR L (ZD n)).isSome:=by rw[←hL];rfl
      have hln: ∀n∈x.2.1.map ZD++x.2.2.1.map ZD,n.length≤140737488355328:=fun n hn=>by
       rcases List.mem_append.1 hn with h|h
       ·obtain⟨y,hy,rfl⟩:=List.mem_map.1 h;rw[ZDx];exact hx2.2 y hy
       ·obtain⟨y,hy,rfl⟩:=List.mem_map.1 h;rw[ZDx];exact hx3.2 y hy
      have hd50:decide ((x.2.1.map ZD).length≤100000∧(x.2.2.1.map ZD).length≤100000)=true:=ZM ⟨by omega,by omega⟩;have uu:=ZA uu (ZA hrw (ZA hst2 (ZA hd47 (ZA hd48 (ZA hd49 hd50)))));refine rg tT [7,11,51,52,53] ?_;refine WI.dregB tT [7,12,51,52,53] ?_;refine Zn ?_;refine YG ?_;refine Qi ?_;refine Zn ?_;refine YG ?_;refine Qi ?_;refine Zn ?_;refine YG ?_;refine Qi ?_;refine Ye ?_;refine dKG ?_;refine dAG ?_;refine dN ?_;refine nz ?_;refine rg tT [7,12,51,52,53,72,73,74] ?_;refine WI.orderA [7,12,51,52,53,72,73,74] ?_;refine WI.dropT (scH L (YH (C.take i)) x (ZA8 x)) _ rfl (by simp) (ZQI _ _ _ _) (by simp[D.inP,YY]) ?_;generalize hN:x.2.1.map ZD++x.2.2.1.map ZD=N at hct hln⊢;have hNl:N.length≤100000:=by rw[←hN,Zs];omega
      refine WI.loop (fun φ os=> ∃(k:Nat),φ= [(7,.ptr 0 0),(12,.ptr 4 0),(51,.x (.sl (rows YW C))),(52,.x (.int .i64 C.length)),(53,.x (.int .i64 i)),(72,.x (.sl (rows ZJ N))),(73,.x (.int .i64 N.length)),(74,.x (.int .i64 k))]∧os=scH L (YH (C.take i)) x (ZA8 x)∧k≤N.length∧(N.take k).all (fun n=>(ZR L (ZD n)).isSome)=true) (ZK N.length 74) ?_ (fun φ os hI=> ?_)
      ·exact⟨0,rfl,rfl,by omega,rfl⟩
      ·obtain⟨k,rfl,rfl,hk,hka⟩:=hI;refine nz ?_;refine rg tT [7,12,51,52,53,72,73,74,75] ?_;refine cd (fun h3=> ?_) (fun h3=> ?_)
       ·have hk4:k<N.length:=by omega
        have hrk:=JF N k hk4;have hgk:N[k]=N.getD k []:=by simp[hk4]
        have hak:=YJ (fun n=>(ZR L (ZD n)).isSome) N k hk4;have hnk:(ZR L (ZD (N.getD k []))).isSome=false→N.all (fun n=>(ZR L (ZD n)).isSome)=false:=fun h=>Ze (fun n=>(ZR L (ZD n)).isSome) N k hk4 (by rw[hgk];exact h)
        have hnl:=hln N[k] (List.getElem_mem hk4);rw[hgk]at hak hnl;generalize N.getD k []=y at hrk hak hnk hnl;have hdy:=ZM hnl;have uu:=ZA uu (ZA hrk (ZA hdy (@QA.eq_1)));refine rg tT [7,12,14,51,52,53,72,73,74] ?_;refine rg tT [7,12,16,51,52,53,72,73,74] ?_;refine rg tT [7,12,51,52,53,72,73,74,88] ?_;refine cd (fun h4=> ?_) (fun h4=> ?_)
        ·have hys:(ZR L (ZD y)).isSome=false:=by clear uu;grind
         rw[hno (by rw[hct];exact hnk hys)]at hnz;refine rg tT [4,5] ?_;refine lf ?_;obtain⟨rfl,rfl⟩:=hnz (by simp);exact⟨rfl,_,rfl⟩
        ·have hys:(ZR L (ZD y)).isSome=true:=by clear uu;grind
         have hka2:(N.take (k+1)).all (fun n=>(ZR L (ZD n)).isSome)=true:=by rw[hak,hka,hys];rfl
         refine WI.orderA [7,12,51,52,53,72,73,74] ?_;refine WI.dropT (scH L (YH (C.take i)) x (ZA8 x)) _ rfl (by simp) (ZQI _ _ _ _) (by simp[D.inP,YY]) ?_;refine rg tT [7,12,51,52,53,72,73,74] ?_;exact⟨⟨k+1,rfl,rfl,by omega,hka2⟩,by simp[ZK,Ab.get,D.val,ZF];omega⟩
       ·obtain rfl:k=N.length:=by omega
        rw[List.take_length]at hka;rw[hka]at hct;have hall2:(C.take (i+1)).all (ZHZ T)=true:=by rw[hal,hall,hct];rfl
        refine WI.dregB tT [7,51,52,53] ?_
        iterate 4 refine Zn ?_
        refine YG ?_;refine Zn ?_
        iterate 2 refine YG ?_
        refine dAG ?_;refine dN ?_;refine nz ?_;refine WI.orderA [7,51,52,53] ?_;refine WI.dropT (Qa L (YH (C.take (i+1)))) _ rfl (by simp) (Ql _ _) (by simp[D.inP,YY]) ?_;refine rg tT [7,51,52,53] ?_;exact⟨⟨i+1,rfl,rfl,by omega,hall2⟩,by simp[ZK,Ab.get,D.val,ZF];omega⟩
     ·obtain rfl:i=C.length:=by omega
      rw[List.take_length]at hall⊢;rw[hall,if_pos rfl,hoc]at hz hnz;refine WI.orderA [7] ?_;have uu:=ZA uu (@QA.eq_1);refine rg tT [7,18] ?_;refine rg tT [7,108] ?_;refine cd (fun h5=> ?_) (fun h5=> ?_)
      ·have hys: ¬(ZR L (ZD [111,98,106,101,99,116,99,108,97,115,115])).isSome=true:=by clear uu;grind
       rw[if_neg hys]at hnz;refine rg tT [4,5] ?_;refine lf ?_;obtain⟨rfl,rfl⟩:=hnz (by simp);exact⟨rfl,_,rfl⟩
      ·have hys:(ZR L (ZD [111,98,106,101,99,116,99,108,97,115,115])).isSome=true:=by clear uu;grind
       rw[if_pos hys]at hz;refine rg tT [4,5] ?_;refine lf ?_;obtain⟨rfl,rfl⟩:=hz rfl;exact⟨rfl,_,rfl⟩
def igT (n:Tx):Zi:=(n,1,false,())
theorem ZWo (a b:List Zi):rows Zw (a++b)=rows Zw a++rows Zw b:=List.map_append
theorem ZeH (l:List Tx) (hl:l.length≤1000):ZU Tryz.prog 34 [.ref 0 l.length 0 l.length] [.rows false 9 1 (rows ZJ l)] (.ref 1 l.length 0 l.length) [.rows false 9 1 (rows ZJ l),.rows false 35 3 (rows Zw (l.map igT))]:=by
 have hO: [Ob.rows false 9 1 (rows ZJ l),.rows false 35 3 (rows Zw (l.map igT))].all (Ob.inP (fun i=>decide (i< [Ob.rows false 9 1 (rows ZJ l),.rows false 35 3 (rows Zw (l.map igT))].length)))=true:=rfl;refine ZN.mcalls (ZP (fz:=false) ZH (p:=i34) rfl _ (ξ rfl) _ (fun C0 E0=> ?_));dsimp only[i34,qt,qi,qs,qb,qm,qa,qh,qj,qT,qF,qe,ql,qL,qf,q2,q3,q8,qz,qp,qP,qc,qk,qx,qy,qo,qr,qC,ZQ];have uu:=trivial;have tT:=(ZG:SsOk Tryz.prog ZV);refine nz ?_;refine rg tT [0] ?_;refine rg tT [0,3] ?_;refine rg tT [3,6,7,8] ?_;refine WI.ownA 3 35 3 ?_;refine WI.orderA [3,6,7,8] ?_;refine WI.loop (fun φ os=> ∃(j:Nat),φ= [(3,.ref 1 ((l.take j).map igT).length 0 ((l.take j).map igT).length),(6,.ref 0 l.length 0 l.length),(7,.x (.int .i64 l.length)),(8,.x (.int .i64 j))]∧os= [.rows false 9 1 (rows ZJ l),.rows false 35 3 (rows Zw ((l.take j).map igT))]∧j≤l.length) (ZK l.length 8) ?_ (fun φ os hI=> ?_)
 ·exact⟨0,rfl,rfl,by omega⟩
 ·obtain⟨j,rfl,rfl,hj⟩:=hI;refine nz ?_;refine rg tT [3,6,7,8,9] ?_;refine cd (fun h0=> ?_) (fun h0=> ?_)
  ·have hj4:j<l.length:=by omega
   have hrw:=JF l j hj4;have htk:(l.take (j+1)).map igT=(l.take j).map igT++ [igT (l.getD j [])]:=by rw[List.take_succ_eq_append_getElem hj4,List.map_append];simp[hj4]
   have hlen:((l.take j).map igT).length≤1000:=by rw[List.length_map,List.length_take];omega
   generalize l.getD j []=x at hrw htk;have uu:=ZA uu hrw;refine rg tT [3,5,6,7,8] ?_;refine rg tT [3,6,7,8] ?_;refine WI.pickA [0,1] ?_;refine rg tT [3,6,7,8] ?_;exact⟨⟨j+1,by rw[htk,Zs];rfl,by rw[htk,ZWo];rfl,by omega⟩,by simp[ZK,Ab.get,D.val,ZF];omega⟩
  ·obtain rfl:j=l.length:=by omega
   rw[List.take_length];refine rg tT [2] ?_;refine lf ?_;exact⟨by rw[List.length_map],rfl⟩
def Qs:List Zi:= [([99,110],1,false,()),([115,110],1,false,()),([111,117],1,false,()),([100,99],1,false,()),([111],1,false,()),([100,101,115,99,114,105,112,116,105,111,110],1,false,()),([109,97,105,108],1,false,()),([111,98,106,101,99,116,99,108,97,115,115],1,false,()),([117,115,101,114,112,97,115,115,119,111,114,100],4,true,()),([117,105,100],1,true,()),([117,105,100,110,117,109,98,101,114],3,true,()),([109,101,109,98,101,114],5,false,()),([115,101,114,105,97,108,110,117,109,98,101,114],2,false,())]
def plC:List Zt:= [([116,111,112],[],[],()),([112,101,114,115,111,110],[[99,110],[115,110]],[[100,101,115,99,114,105,112,116,105,111,110],[117,115,101,114,112,97,115,115,119,111,114,100],[109,97,105,108],[117,105,100],[117,105,100,110,117,109,98,101,114],[115,101,114,105,97,108,110,117,109,98,101,114],[109,101,109,98,101,114]],()),([111,114,103,97,110,105,122,97,116,105,111,110,97,108,117,110,105,116],[[111,117]],[[100,101,115,99,114,105,112,116,105,111,110],[109,101,109,98,101,114]],()),([100,111,109,97,105,110],[[100,99]],[[100,101,115,99,114,105,112,116,105,111,110],[111]],()),([103,114,111,117,112],[[99,110]],[[109,101,109,98,101,114],[100,101,115,99,114,105,112,116,105,111,110]],())]
theorem ZdI:ZBy Qs plC=0:=by decide+kernel
theorem ZM6:smT Qs:=by decide+kernel
theorem Zda:smC plC:=by decide+kernel
def ZJb:List D→List Ob→Option (Bool×D×Ob)
 | [.ref 0 8 0 8],[.rows false 9 1 [[.str a],[.str b],[.str c],[.str d],[.str e],[.str f],[.str g],[.str h]]]=>some (true,.ref 1 8 0 8,.rows false 35 3 [[.str a,.int .i64 1,.bool false],[.str b,.int .i64 1,.bool false],[.str c,.int .i64 1,.bool false],[.str d,.int .i64 1,.bool false],[.str e,.int .i64 1,.bool false],[.str f,.int .i64 1,.bool false],[.str g,.int .i64 1,.bool false],[.str h,.int .i64 1,.bool false]])
 |_,_=>none
theorem Zaj: ∀args os r ob,ZJb args os=some (true,r,ob)→(∃fz e sz rs,ob= .rows fz e sz rs)∧ZU Tryz.prog 34 args os r (os++ [ob]):=by
 intro args os r ob h;unfold ZJb at h;split at h
 ·rename_i a b c d e f g h;simp only[Zf,Zc,true_and]at h;obtain⟨rfl,rfl⟩:=h;exact⟨⟨_,_,_,_,rfl⟩,ZeH [a,b,c,d,e,f,g,h] (by simp)⟩
 ·cases h
def ZG9:Tabs:=ZNq (ZV) 34 ZJb
theorem ZHS:SsOk Tryz.prog ZG9:=ZRK (ZG) (ZB ZH (p:=i34) rfl) Zaj
theorem ZSq (a:List D):ZG9.q 34 a=none:=rfl
theorem ZRf (a:List D) (o:List Ob):ZG9.t 34 a o=YU (fun args os=>(ZJb args os).map fun q=>(q.1,q.2.1,os++ [q.2.2])) a o:=rfl
theorem ZSL (a:List D) (o:List Ob):ZG9.k 34 a o=ZCJ ZJb a o:=rfl
theorem ZXR (f:FuncId) (a:List D) (o:List Ob):ZG9.r f a o=none:=rfl
theorem ZSS:Enters Tryz.prog 22:=ZB ZH (p:=i22) rfl
theorem ZQL:ZU Tryz.prog 10 [] [] (.ptr 0 0) (Qa (YA Qs) (YH plC)):=by
 have hO:=Ql (YA Qs) (YH plC);have hnew:ZU Tryz.prog 22 [.x (.sl [[.str [99,110],.int .i64 1,.bool false],[.str [115,110],.int .i64 1,.bool false],[.str [111,117],.int .i64 1,.bool false],[.str [100,99],.int .i64 1,.bool false],[.str [111],.int .i64 1,.bool false],[.str [100,101,115,99,114,105,112,116,105,111,110],.int .i64 1,.bool false],[.str [109,97,105,108],.int .i64 1,.bool false],[.str [111,98,106,101,99,116,99,108,97,115,115],.int .i64 1,.bool false],[.str [117,115,101,114,112,97,115,115,119,111,114,100],.int .i64 4,.bool true],[.str [117,105,100],.int .i64 1,.bool true],[.str [117,105,100,110,117,109,98,101,114],.int .i64 3,.bool true],[.str [109,101,109,98,101,114],.int .i64 5,.bool false],[.str [115,101,114,105,97,108,110,117,109,98,101,114],.int .i64 2,.bool false]]),.x (.sl [[.str [116,111,112],.sl [],.sl []],[.str [112,101,114,115,111,110],.sl [[.str [99,110]],[.str [115,110]]],.sl [[.str [100,101,115,99,114,105,112,116,105,111,110]],[.str [117,115,101,114,112,97,115,115,119,111,114,100]],[.str [109,97,105,108]],[.str [117,105,100]],[.str [117,105,100,110,117,109,98,101,114]],[.str [115,101,114,105,97,108,110,117,109,98,101,114]],[.str [109,101,109,98,101,114]]]],[.str [111,114,103,97,110,105,122,97,116,105,111,110,97,108,117,110,105,116],.sl [[.str [111,117]]],.sl [[.str [100,101,115,99,114,105,112,116,105,111,110]],[.str [109,101,109,98,101,114]]]],[.str [100,111,109,97,105,110],.sl [[.str [100,99]]],.sl [[.str [100,101,115,99,114,105,112,116,105,111,110]],[.str [111]]]],[.str [103,114,111,117,112],.sl [[.str [99,110]]],.sl [[.str [109,101,109,98,101,114]],[.str [100,101,115,99,114,105,112,116,105,111,110]]]]])] [] (.tup [.ptr 0 0,.x (.int .i64 0)]) (Qa (YA Qs) (YH plC)):=
  ZS9 Qs plC ZM6 Zda _ _ (fun _=>⟨rfl,rfl⟩) (fun h=>absurd ZdI h)
 refine ZN.mcallsX (ZP (fz:=true) ZH (p:=i10) rfl _ (ξ rfl) _ (fun C0 E0=> ?_)) (by first|decide|(simp;done)) hO (by first|rfl|exact hR);dsimp only[i10,qt,qi,qs,qb,qm,qa,qh,qj,qT,qF,qe,ql,qL,qf,q2,q3,q8,qz,qp,qP,qc,qk,qx,qy,qo,qr,qC,ZQ];have uu:=ZA @ZGZ (ZA @ZF7 (ZA @ZF6 (ZA @ZGB (ZA @ZAK (ZA @ZAG (ZA @ZBP (ZA @ZBK (ZA @Ko (ZA @Kp (ZA @ZXR (ZA @ZSL (ZA @ZSq (ZA @ZRf (ZA @ZJb.eq_1 (@ZJb.eq_2)))))))))))))));refine WI.seq ?_;refine WI.regB ZHS [] ?_;refine oS ?_;refine oN ?_;refine ZI ?_;refine WI.seq ?_;refine WI.regB ZHS [1] ?_;refine oG ?_;refine oC ?_;refine oS ?_;refine oN ?_;refine ZI ?_;refine WI.seq ?_;refine WI.regB ZHS [1] ?_;refine oS ?_
 iterate 7 refine oG ?_
 refine oS ?_;refine oN ?_;refine ZI ?_;refine WI.seq ?_;refine WI.pickA [1] ?_;refine WI.cutA ZG [15,29] 15 ?_;simp only[List.take_succ_cons,List.take_zero,List.drop_succ_cons,List.drop_zero];refine oS ?_
 iterate 14 refine oG ?_
 refine oP ?_;refine ZRC [0,9] ?_;refine JA [] ?_;refine Zed ?_;refine ZaD ?_;refine WR.regB (ZCA ZG ZSS hnew) [2] ?_;refine oC ?_;refine oS ?_
 iterate 2 refine oG ?_
 iterate 2 refine oS ?_
 refine oN ?_;refine ZI ?_;refine WI.seq ?_;refine WI.regB ZG [0] ?_
 iterate 2 refine oS ?_
 refine oN ?_;refine ZI ?_;refine WI.ret ?_;refine ZDv ?_;exact⟨rfl,[],rfl⟩
def ZGo:List Zv:= [([111,98,106,101,99,116,67,108,97,115,115],[[116,111,112],[80,101,114,115,111,110]],()),([99,110],[[97]],()),([115,110],[[98]],())]
def ZXc:List Zv:= [([117,105,100,78,117,109,98,101,114],[[120]],())]
theorem Zev:Ja (YA Qs) (ZD [85,73,68,78,117,109,98,101,114])=([117,105,100,110,117,109,98,101,114],3,true,()):=by decide+kernel
theorem Zef:(ZR (YA Qs) (ZD [85,73,68,78,117,109,98,101,114])).isSome=true:=by decide+kernel
theorem Ze1:clV (YH plC) (ZD [68,111,109,97,105,110])=([100,111,109,97,105,110],[[100,99]],[[100,101,115,99,114,105,112,116,105,111,110],[111]],()):=by decide+kernel
theorem Zeg:(ZR (YH plC) (ZD [68,111,109,97,105,110])).isSome=true:=by decide+kernel
theorem Zem:ZE6 (YA Qs) (YH plC) ZGo=0:=by decide+kernel
theorem Zei:ZE6 (YA Qs) (YH plC) (ZGo.take 2)=65:=by decide+kernel
theorem Ze0:ZE6 (YA Qs) (YH plC) (ZGo++ZXc)=21:=by decide+kernel
theorem Ze2:(ZBd ((YA Qs).map (·.1))).length=13:=by unfold ZBd;rw[List.length_mergeSort];decide+kernel
theorem ZYE:ZBy [] []=8:=by decide+kernel
theorem Zd9:ZBy [([97],1,false,()),([65],1,false,())] []=9:=by decide+kernel
def okM (M:List (Tx×Zt)):Prop:= ∀p∈M,p.2.2.1.length≤1000000∧p.2.2.2.1.length≤1000000
instance (M:List (Tx×Zt)):Decidable (okM M):=inferInstanceAs (Decidable (∀p∈M,_))
theorem ZTx {M:List (Tx×Zt)} (h:okM M):bdC M:=by
 intro k;unfold clV;rcases hm:ZR M k with _|c
 ·simp
 ·have:=h _ (ZHF hm);simpa using this
def ZI3 (M:List (Tx×Zt)) (l:List Zv):Prop:=okM M∧smA l∧ ∀a∈l,∀v∈a.2.1,v.length≤1000000
instance (M:List (Tx×Zt)) (l:List Zv):Decidable (ZI3 M l):=inferInstanceAs (Decidable (_∧_∧_))
def ZFs:List D→List Ob→Option (Bool×D×List Ob)
 | [.ptr 0 0,.agg [.x (.str dn),.x (.sl R)]],[.box [.mref 1,.mref 2],.mpo .str true P1,.mpo .str true P2]=>(Ke ZJ Zw P1).bind fun L=>(Ke ZJ YW P2).bind fun M=>(Zg YP R).bind fun l=>some (decide (ZI3 M l),.x (.int .i64 (ZE6 L M l)),[.box [.mref 1,.mref 2],.mpo .str true (Km L),.mpo .str true (Kz M)])
 |_,_=>none
theorem ZUe: ∀args os r os',ZFs args os=some (true,r,os')→ZU Tryz.prog 17 args os r os':=by
 intro args os r os' h;unfold ZFs at h;split at h
 ·rename_i dn R P1 P2;obtain⟨L,hm0,h⟩:=Zr h;obtain⟨M,hm1,h⟩:=Zr h;obtain⟨l,hr0,h⟩:=Zr h;simp only[Zf,Zc,ZW,Zj,true_and]at h;obtain⟨h1,rfl,rfl⟩:=h;rw[Yo Zb YM hm0];rw[Yo Zb Yc hm1];rw[←ZX JW hr0];exact ZQS L M (dn,l,()) h1.2.1 h1.2.2 (ZTx h1.1)
 ·cases h
def ZNO (L:List (Tx×Zi)):Prop:=L.length≤1000000∧ ∀p∈L,p.1.length≤1000000
instance (L:List (Tx×Zi)):Decidable (ZNO L):=inferInstanceAs (Decidable (_∧_))
def ZFX:List D→List Ob→Option (Bool×D×List Ob)
 | [.ptr 0 0],[.box [.mref 1,.mref 2],.mpo .str true P1,.mpo .str true P2]=>(Ke ZJ Zw P1).bind fun L=>(Ke ZJ YW P2).bind fun M=>some (decide (ZNO L),.x (.sl (rows ZJ (ZBd (L.map (·.1))))),[.box [.mref 1,.mref 2],.mpo .str true (Km L),.mpo .str true (Kz M)])
 |_,_=>none
theorem ZVH: ∀args os r os',ZFX args os=some (true,r,os')→ZU Tryz.prog 19 args os r os':=by
 intro args os r os' h;unfold ZFX at h;split at h
 ·rename_i P1 P2;obtain⟨L,hm0,h⟩:=Zr h;obtain⟨M,hm1,h⟩:=Zr h;simp only[Zf,Zc,ZW,Zj,true_and]at h;obtain⟨h1,rfl,rfl⟩:=h;rw[Yo Zb YM hm0];rw[Yo Zb Yc hm1];exact ZQp L M h1.1 h1.2
 ·cases h
theorem ZU.nn {P:Program} {f:FuncId} {args:List D} {os os':List Ob} {r:D} (h:ZU P f (args.map D.nn) os r os'):ZU P f args os r os':=by
 intro c E vs R hvl;refine h c E vs R ⟨by rw[List.length_map];exact hvl.1,fun j d v hd hv=> ?_⟩;rw[YC]at hd;obtain⟨d0,hd0,rfl⟩:=Zd hd;exact(hvl.2 j d0 v hd0 hv).nn
theorem ZYq:ZC Tryz.prog 33 [] (.agg [.x (.str [99,110,61,97]),.x (.sl [[X.str [111,98,106,101,99,116,67,108,97,115,115],X.sl [[X.str [116,111,112]],[X.str [80,101,114,115,111,110]]]],[X.str [99,110],X.sl [[X.str [97]]]],[X.str [115,110],X.sl [[X.str [98]]]]])]):=(ZH0 ZH 300 (p:=i33) rfl (by kernel_rfl) rfl).2
def ZDr:List D→Option (Bool×D)
 | []=>some (true,.agg [.x (.str [99,110,61,97]),.x (.sl [[X.str [111,98,106,101,99,116,67,108,97,115,115],X.sl [[X.str [116,111,112]],[X.str [80,101,114,115,111,110]]]],[X.str [99,110],X.sl [[X.str [97]]]],[X.str [115,110],X.sl [[X.str [98]]]]])])
 |_=>none
theorem ZSU: ∀args r,ZDr args=some (true,r)→ZC Tryz.prog 33 args r:=by
 intro args r h;unfold ZDr at h;split at h
 ·simp only[Zf,Zc,ZW,Zj,true_and]at h;obtain rfl:=h;exact ZYq
 ·cases h
theorem ZUY:ZU Tryz.prog 33 [] [] (.agg [.x (.str [99,110,61,97]),.ref 0 3 0 3]) [.rows false 72 2 [[X.str [111,98,106,101,99,116,67,108,97,115,115],X.sl [[X.str [116,111,112]],[X.str [80,101,114,115,111,110]]]],[X.str [99,110],X.sl [[X.str [97]]]],[X.str [115,110],X.sl [[X.str [98]]]]]]:=by
 refine ZN.mcallsX (ZP (fz:=false) ZH (p:=i33) rfl _ (ξ rfl) _ (fun C0 E0=> ?_)) (by first|decide|(simp;done)) rfl rfl;dsimp only[i33,qt,qi,qs,qb,qm,qa,qh,qj,qT,qF,qe,ql,qL,qf,q2,q3,q8,qz,qp,qP,qc,qk,qx,qy,qo,qr,qC,ZQ];have uu:=trivial;have tT:=(ZG:SsOk Tryz.prog ZV);refine nz ?_;refine rg tT [0] ?_;refine rg tT [0] ?_;refine WI.pickA [4,0] ?_;refine lf ?_;exact⟨rfl,_,rfl⟩
theorem Zc0 (T:List Zi) (h:ZBy T []≠0) (hT:smT T):ZU Tryz.prog 22 [.x (.sl (rows Zw T)),.x .nils] [] (.tup [.x .nilp,.x (.int .i64 (ZBy T []))]) []:=
 ZU.nn (ZS9 T [] hT (by decide) _ _ (fun e=>absurd e h) (fun _=>⟨rfl,rfl⟩))
theorem Zdj:ZU Tryz.prog 22 [.x .nils,.x .nils] [] (.tup [.x .nilp,.x (.int .i64 8)]) []:=
 ZU.nn (ZS9 [] [] (by decide) (by decide) _ _ (fun e=>by rw[ZYE]at e;cases e) (fun _=>⟨by rw[ZYE],rfl⟩))
def ZGt:List D→List Ob→Option (Bool×D×List Ob)
 | [.x (.sl R),.x .nils],[]=>(Zg Zw R).map fun T=>(decide (ZBy T []≠0∧smT T),.tup [.x .nilp,.x (.int .i64 (ZBy T []))],[])
 | [.x .nils,.x .nils],[]=>some (true,.tup [.x .nilp,.x (.int .i64 8)],[])
 |_,_=>none
theorem ZXt: ∀args os r os',ZGt args os=some (true,r,os')→ZU Tryz.prog 22 args os r os':=by
 intro args os r os' h;unfold ZGt at h;split at h
 ·rename_i R;obtain⟨T,h1,h2⟩:=Zd h;simp only[Zc,Zj]at h2;obtain⟨⟨h3,h4⟩,rfl,rfl⟩:=h2;rw[←ZX YM h1];exact Zc0 T h3 h4
 ·simp only[Zf,Zc,true_and]at h;obtain⟨rfl,rfl⟩:=h;exact Zdj
 ·cases h
def ZCb:List D→List Ob→Option (Bool×D×Ob)
 | [],[]=>some (true,.agg [.x (.str [99,110,61,97]),.ref 0 3 0 3],.rows false 72 2 [[X.str [111,98,106,101,99,116,67,108,97,115,115],X.sl [[X.str [116,111,112]],[X.str [80,101,114,115,111,110]]]],[X.str [99,110],X.sl [[X.str [97]]]],[X.str [115,110],X.sl [[X.str [98]]]]])
 |_,_=>none
theorem ZR0: ∀args os r ob,ZCb args os=some (true,r,ob)→(∃fz e sz rs,ob= .rows fz e sz rs)∧ZU Tryz.prog 33 args os r (os++ [ob]):=by
 intro args os r ob h;unfold ZCb at h;split at h
 ·simp only[Zf,Zc,true_and]at h;obtain⟨rfl,rfl⟩:=h;exact⟨⟨_,_,_,_,rfl⟩,ZUY⟩
 ·cases h
def ZJ6:Tabs:=ZNq (ZV) 33 ZCb
theorem ZYn:SsOk Tryz.prog ZJ6:=ZRK (ZG) (ZB ZH (p:=i33) rfl) ZR0
theorem ZV8 (a:List D):ZJ6.q 33 a=none:=rfl
theorem ZWr (a:List D) (o:List Ob):ZJ6.t 33 a o=YU (fun args os=>(ZCb args os).map fun q=>(q.1,q.2.1,os++ [q.2.2])) a o:=rfl
theorem ZWY (a:List D) (o:List Ob):ZJ6.k 33 a o=ZCJ ZCb a o:=rfl
theorem Za7 (f:FuncId) (a:List D) (o:List Ob):ZJ6.r f a o=none:=rfl
def ZAb:Tabs:=JR (JR (JR (JR (JR (ZY (ZV) 33 ZDr) 22 ZGt) 12 ZCt) 14 QS) 17 ZFs) 19 ZFX
theorem Kt:SsOk Tryz.prog ZAb:=Yl (Yl (Yl (Yl (Yl (ZL (ZG) (ZB ZH (p:=i33) rfl) ZSU) (ZB ZH (p:=i22) rfl) ZXt) (ZB ZH (p:=i12) rfl) ZM9) (ZB ZH (p:=i14) rfl) ZHw) (ZB ZH (p:=i17) rfl) ZUe) (ZB ZH (p:=i19) rfl) ZVH
theorem ZT8 (a:List D):ZAb.q 33 a=ZDr a:=rfl
theorem ZU1 (a:List D):ZAb.q 22 a=none:=rfl
theorem ZT7 (a:List D) (o:List Ob):ZAb.t 22 a o=YU ZGt a o:=rfl
theorem ZVp (a:List D):ZAb.q 12 a=none:=rfl
theorem ZXA (a:List D) (o:List Ob):ZAb.t 12 a o=YU ZCt a o:=rfl
theorem ZWA (a:List D):ZAb.q 14 a=none:=rfl
theorem ZWP (a:List D) (o:List Ob):ZAb.t 14 a o=YU QS a o:=rfl
theorem ZTo (a:List D):ZAb.q 17 a=none:=rfl
theorem ZUH (a:List D) (o:List Ob):ZAb.t 17 a o=YU ZFs a o:=rfl
theorem ZVi (a:List D):ZAb.q 19 a=none:=rfl
theorem ZT1 (a:List D) (o:List Ob):ZAb.t 19 a o=YU ZFX a o:=rfl
theorem ZbK (f:FuncId) (a:List D) (o:List Ob):ZAb.r f a o=none:=rfl
theorem Zbl (f:FuncId) (a:List D) (o:List Ob):ZAb.k f a o=none:=rfl
theorem ZNx:Enters Tryz.prog 10:=ZB ZH (p:=i10) rfl
theorem Zd6:Zg YP [[X.str [111,98,106,101,99,116,67,108,97,115,115],X.sl [[X.str [116,111,112]],[X.str [80,101,114,115,111,110]]]],[X.str [99,110],X.sl [[X.str [97]]]],[X.str [115,110],X.sl [[X.str [98]]]]]=some ZGo:=rfl
theorem ZeC:Zg YP [[X.str [111,98,106,101,99,116,67,108,97,115,115],X.sl [[X.str [116,111,112]],[X.str [80,101,114,115,111,110]]]],[X.str [99,110],X.sl [[X.str [97]]]]]=some (ZGo.take 2):=rfl
theorem ZeE:Zg YP [[X.str [111,98,106,101,99,116,67,108,97,115,115],X.sl [[X.str [116,111,112]],[X.str [80,101,114,115,111,110]]]],[X.str [99,110],X.sl [[X.str [97]]]],[X.str [115,110],X.sl [[X.str [98]]]],[X.str [117,105,100,78,117,109,98,101,114],X.sl [[X.str [120]]]]]=some (ZGo++ZXc):=rfl
theorem ZeG:Zg Zw [[X.str [97],X.int .i64 1,X.bool false],[X.str [65],X.int .i64 1,X.bool false]]=some [([97],1,false,()),([65],1,false,())]:=rfl
theorem Zdy:decide (ZI3 (YH plC) ZGo)=true:=by decide+kernel
theorem Zdw:decide (ZI3 (YH plC) (ZGo.take 2))=true:=by decide+kernel
theorem Zd8:decide (ZI3 (YH plC) (ZGo++ZXc))=true:=by decide+kernel
theorem Zd3:decide (ZNO (YA Qs))=true:=by decide+kernel
theorem Zd5:decide (ZBy [([97],1,false,()),([65],1,false,())] []≠0∧smT [([97],1,false,()),([65],1,false,())])=true:=by decide+kernel
theorem ZeI:(rows ZJ (ZBd ((YA Qs).map (·.1)))).length=13:=by rw[YR,Ze2]
set_option maxHeartbeats 4000000 in
theorem ZW5:ZC Tryz.prog 9 [] (.x (.bool true)):=by
 have hu1:=ZEd (YA Qs);have hu2:=ZEr (YH plC);refine ZN.pure (ZP (fz:=true) ZH (p:=i9) rfl _ (ξ rfl) _ (fun C0 E0=> ?_)) rfl;dsimp only[i9,qt,qi,qs,qb,qm,qa,qh,qj,qT,qF,qe,ql,qL,qf,q2,q3,q8,qz,qp,qP,qc,qk,qx,qy,qo,qr,qC,ZQ];have uu:=ZA @ZGZ (ZA @ZF7 (ZA @ZF6 (ZA @ZGB (ZA @ZAK (ZA @ZAG (ZA @ZBP (ZA @ZBK (ZA @Ko (ZA @Kp (ZA @ZCt.eq_1 (ZA @ZCt.eq_2 (ZA @QS.eq_1 (ZA @QS.eq_2 (ZA @ZFs.eq_1 (ZA @ZFs.eq_2 (ZA @ZFX.eq_1 (ZA @ZFX.eq_2 (ZA @ZDr.eq_1 (ZA @ZDr.eq_2 (ZA @ZGt.eq_1 (ZA @ZGt.eq_2 (ZA @ZGt.eq_3 (ZA @ZCb.eq_1 (ZA @ZCb.eq_2 (ZA hu1 (ZA hu2 (ZA @Zev (ZA @Zef (ZA @Ze1 (ZA @Zeg (ZA @Zem (ZA @Zei (ZA @Ze0 (ZA @ZYE (ZA @Zd9 (ZA @Zd6 (ZA @ZeC (ZA @ZeE (ZA @ZeG (ZA @Zdy (ZA @Zdw (ZA @Zd8 (ZA @Zd3 (ZA @Zd5 (ZA @ZeI (ZA @@QA.eq_1 (ZA @@clD.eq_1 (ZA @@Za7 (ZA @@ZV8 (ZA @@ZWr (ZA @@ZWY (ZA @ZbK (ZA @Zbl (ZA @ZVp (ZA @ZWA (ZA @ZTo (ZA @ZVi (ZA @ZU1 (ZA @ZT8 (ZA @ZT7 (ZA @ZXA (ZA @ZWP (ZA @ZUH (@ZT1))))))))))))))))))))))))))))))))))))))))))))))))))))))))))))))));refine WI.seq ?_;refine WI.regB Kt [] ?_;refine oS ?_;refine oN ?_;refine ZI ?_;refine WI.seq ?_;refine WI.regB (ZCA ZG ZNx ZQL) [1] ?_;refine oC ?_;refine oS ?_;refine oN ?_;refine ZI ?_;refine WI.seq ?_;refine WI.seq ?_;refine WI.regB Kt [1,14] ?_;refine oS ?_;refine oG ?_;refine oN ?_;refine ZI ?_;refine WI.cond (b:=_) rfl rfl (fun h0=> ?_) (fun h0=> ?_)
 ·exfalso;simp at h0
 ·try simp only[zB]at h0
  refine WI.skip ?_;refine ZI ?_;refine WI.seq ?_;refine WI.regB Kt [1,2,3] ?_;refine oS ?_;refine oC ?_;refine oS ?_
  iterate 4 refine oG ?_
  refine oS ?_;refine oN ?_;refine ZI ?_;refine WI.seq ?_;refine WI.regB Kt [1,2,3,4,5] ?_;refine oS ?_;refine oC ?_;refine oS ?_
  iterate 4 refine oG ?_
  refine oS ?_;refine oN ?_;refine ZI ?_;refine WI.seq ?_;refine WI.regB Kt [1,2,3,4,5,6] ?_;refine oC ?_
  iterate 2 refine oG ?_
  refine oN ?_;refine ZI ?_;refine WI.seq ?_;refine WI.regB Kt [1,2,3,4,5,6] ?_;refine oS ?_
  iterate 2 refine oG ?_
  refine oS ?_;refine oG ?_;refine oN ?_;refine ZI ?_;refine WI.seq ?_;refine WI.regB Kt [1,2,3,4,5,6,8] ?_;refine oC ?_;refine oS ?_
  iterate 2 refine oG ?_
  iterate 2 refine oS ?_
  refine oN ?_;refine ZI ?_;refine WI.seq ?_;refine WI.cutA Kt [1,2,3,4,5,6,8,37] 3 ?_;simp only[List.take_succ_cons,List.take_zero,List.drop_succ_cons,List.drop_zero]
  iterate 3 refine oG ?_
  refine oP ?_;refine ZRC [6] ?_;refine JA [0,1,2,3,4,5] ?_ (ho:=by simp (disch:=decide) only[zV,zO,Ob.mpb,frzL,QK,ZAW,Kr,Ob.onI,Qt,Yy,Option.map_some,Option.map_none,D.vw,vwL,D.on,D.inP,YY,Zo,D.ren,Zx,Yb,YO,Ob.mp,Ob.ren,D.nn,ZBE,Nat.reduceBEq,Nat.reduceEqDiff,Nat.reduceAdd,↓reduceIte,ZaK,ZZ9,ZAK,ZAG];rfl);refine ZaD ?_;refine WR.regB Kt [1,2,3,4,5,6,8,10] ?_;refine oC ?_;refine oS ?_
  iterate 2 refine oG ?_
  iterate 2 refine oS ?_
  refine oN ?_;refine ZI ?_;refine WI.seq ?_;refine WI.regB ZYn [1,2,3,4,5,6,8,10,11] ?_;refine oC ?_
  iterate 2 refine oG ?_
  refine oN ?_;refine ZI ?_;refine WI.seq ?_;refine WI.regB Kt [1,2,3,4,5,6,8,10,11] ?_;refine oS ?_
  iterate 5 refine oG ?_
  refine oS ?_;refine oG ?_;refine oN ?_;refine ZI ?_;refine WI.seq ?_;refine WI.freezeA [6] ?_;refine WI.pickA [0,1,2,3,4,5,7] ?_ (ho:=by simp (disch:=decide) only[zV,zO,Ob.mpb,frzL,QK,ZAW,Kr,Ob.onI,Qt,Yy,Option.map_some,Option.map_none,D.vw,vwL,D.on,D.inP,YY,Zo,D.ren,Zx,Yb,YO,Ob.mp,Ob.ren,D.nn,ZBE,Nat.reduceBEq,Nat.reduceEqDiff,Nat.reduceAdd,↓reduceIte,ZaK,ZZ9,ZAK,ZAG];rfl);refine WI.regB Kt [0] ?_
  iterate 3 refine oG ?_
  refine oS ?_
  iterate 2 refine oG ?_
  refine oS ?_
  iterate 4 refine oG ?_
  refine oS ?_
  iterate 5 refine oG ?_
  refine oS ?_
  iterate 2 refine oG ?_
  refine oS ?_;refine oG ?_
  iterate 2 refine oC ?_
  iterate 2 refine oG ?_
  refine oS ?_
  iterate 2 refine oG ?_
  refine oC ?_
  iterate 2 refine oG ?_
  refine oS ?_
  iterate 2 refine oG ?_
  refine oC ?_
  iterate 2 refine oG ?_
  refine oS ?_
  iterate 3 refine oG ?_
  refine oS ?_
  iterate 3 refine oG ?_
  refine oS ?_;refine oG ?_;refine oC ?_
  iterate 3 refine oG ?_
  refine oS ?_;refine oN ?_;refine ZI ?_;refine WI.ret ?_
  first|refine lfR ?_|refine ZE5 ?_|refine ZDv ?_
  first|rfl|exact⟨rfl,rfl⟩|trivial
def ZCW:List D→Option (Bool×D)
 | []=>some (true,.x (.bool true))
 |_=>none
theorem ZPe: ∀args r,ZCW args=some (true,r)→ZC Tryz.prog 9 args r:=by
 intro args r h;unfold ZCW at h;split at h
 ·simp only[Zf,Zc,ZW,Zj,true_and]at h;obtain rfl:=h;exact ZW5
 ·cases h
theorem Zeu (l:List Tx) (s:Tx) (hl:l.length≤4000000000000):ZC Tryz.prog 42 [.x (.sl (rows ZJ l)),.x (.str s)] (.x (.bool (decide (s∈l)))):=by
 refine ZN.pure (ZP (fz:=true) ZH (p:=i42) rfl _ (ξ rfl) _ (fun C0 E0=> ?_)) rfl;dsimp only[i42,qt,qi,qs,qb,qm,qa,qh,qj,qT,qF,qe,ql,qL,qf,q2,q3,q8,qz,qp,qP,qc,qk,qx,qy,qo,qr,qC,ZQ];have uu:=trivial;have tT:=(ZG:SsOk Tryz.prog ZV);refine nz ?_;refine rg tT [0,1] ?_;refine rg tT [0,1,5] ?_;refine WI.loop (fun φ os=> ∃(j:Nat),φ= [(0,.x (.sl (rows ZJ l))),(1,.x (.str s)),(5,.x (.int .i64 j))]∧os= []∧j≤l.length∧s∉l.take j) (ZK l.length 5) ?_ (fun φ os hI=> ?_)
 ·exact⟨0,rfl,rfl,by omega,by simp⟩
 ·obtain⟨j,rfl,rfl,hj,hn⟩:=hI;refine nz ?_;refine rg tT [0,1,5,9] ?_;refine cd (fun h0=> ?_) (fun h0=> ?_)
  ·have hj4:j<l.length:=by omega
   have hrw:=JF l j hj4;have hg:l.getD j []=l[j]:=by simp[hj4]
   have hm:l.getD j []∈l:=by rw[hg];exact List.getElem_mem hj4
   have htk:l.take (j+1)=l.take j++ [l.getD j []]:=by rw[List.take_succ_eq_append_getElem hj4,hg]
   generalize l.getD j []=x at hrw hm htk;have uu:=ZA uu hrw;refine rg tT [0,1,5,17] ?_;refine cd (fun h1=> ?_) (fun h1=> ?_)
   ·have hx:x=s:=by simpa using h1
    refine rg tT [4] ?_;refine lf ?_;subst hx;rw[ZM hm]
   ·have hx: ¬x=s:=by simpa using h1
    have hn2:s∉l.take (j+1):=by rw[htk];simp;exact⟨hn,fun e=>hx e.symm⟩
    refine rg tT [0,1,5] ?_;exact⟨⟨j+1,rfl,rfl,by omega,hn2⟩,by simp[ZK,Ab.get,D.val,ZF];omega⟩
  ·refine rg tT [4] ?_;refine lf ?_;rw[YN (by omega)]at hn;rw[decide_eq_false hn]
def inG:List D→Option (Bool×D)
 | [.x (.sl R),.x (.str s)]=>(Zg ZJ R).bind fun l=>some (decide (l.length≤4000000000000),.x (.bool (decide (s∈l))))
 |_=>none
theorem ZKg: ∀args r,inG args=some (true,r)→ZC Tryz.prog 42 args r:=by
 intro args r h;unfold inG at h;split at h
 ·rename_i R s;obtain⟨l,hr0,h⟩:=Zr h;simp only[Zf,Zc,ZW,Zj,true_and]at h;obtain⟨h1,rfl⟩:=h;rw[←ZX Zb hr0];exact(Zeu l s h1)
 ·cases h
def ZMg:Tabs:=ZY (ZV) 32 ZAO
theorem ZZF:SsOk Tryz.prog ZMg:=ZL (ZG) (ZB ZH (p:=i32) rfl) ZJw
theorem ZW8 (a:List D):ZMg.q 32 a=ZAO a:=rfl
theorem ZaX (f:FuncId) (a:List D) (o:List Ob):ZMg.r f a o=none:=rfl
theorem Zb9 (f:FuncId) (a:List D) (o:List Ob):ZMg.k f a o=none:=rfl
theorem ZY7 (l:List Tx) (hl:l.length≤100000) (hn: ∀x∈l,x.length≤1000000):ZC Tryz.prog 38 [.x (.sl (rows ZJ l))] (.x (.sl (rows ZJ (l.map ZD)))):=by
 refine ZN.pure (ZP (fz:=true) ZH (p:=i38) rfl _ (ξ rfl) _ (fun C0 E0=> ?_)) rfl;dsimp only[i38,qt,qi,qs,qb,qm,qa,qh,qj,qT,qF,qe,ql,qL,qf,q2,q3,q8,qz,qp,qP,qc,qk,qx,qy,qo,qr,qC,ZQ];have uu:=ZA @ZAO.eq_1 (ZA @ZAO.eq_2 (ZA @ZaX (ZA @Zb9 (@ZW8))));have tT:=ZZF;refine nz ?_;refine rg tT [0] ?_;refine rg tT [0,3] ?_;refine rg tT [0,3,4] ?_;refine WI.ownA 3 9 1 ?_;refine WI.loop (fun φ os=> ∃(j:Nat),φ= [(0,.x (.sl (rows ZJ l))),(3,.ref 0 ((l.take j).map ZD).length 0 ((l.take j).map ZD).length),(4,.x (.int .i64 j))]∧os= [.rows false 9 1 (rows ZJ ((l.take j).map ZD))]∧j≤l.length) (ZK l.length 4) ?_ (fun φ os hI=> ?_)
 ·exact⟨0,rfl,rfl,by omega⟩
 ·obtain⟨j,rfl,rfl,hj⟩:=hI;refine nz ?_;refine rg tT [0,3,4,8] ?_;refine cd (fun h0=> ?_) (fun h0=> ?_)
  ·have hj4:j<l.length:=by omega
   have hrw:=JF l j hj4;have htk:(l.take (j+1)).map ZD=(l.take j).map ZD++ [ZD (l.getD j [])]:=by rw[List.take_succ_eq_append_getElem hj4,List.map_append];simp[hj4]
   have hd:=ZM (hn (l.getD j []) (by rw[show l.getD j []=l[j] by simp[hj4]];exact List.getElem_mem hj4));have hlen2:((l.take j).map ZD).length≤100000:=by rw[List.length_map,List.length_take];omega
   generalize l.getD j []=x at hrw htk hd;have uu:=ZA uu (ZA hrw hd);refine rg tT [0,3,4] ?_;refine WI.pickA [0] ?_;refine rg tT [0,3,4] ?_;exact⟨⟨j+1,by rw[htk,Zs];rfl,by rw[htk,ZAt],by omega⟩,by simp[ZK,Ab.get,D.val,ZF];omega⟩
  ·obtain rfl:j=l.length:=by omega
   rw[List.take_length];refine rg tT [2] ?_;refine WI.freezeA [0] ?_;refine WI.pickA [] ?_;refine lf ?_
   first|rfl|exact⟨rfl,rfl⟩|trivial
def ZBk:List D→Option (Bool×D)
 | [.x (.sl R)]=>(Zg ZJ R).bind fun l=>some (decide (l.length≤100000∧ ∀x∈l,x.length≤1000000),.x (.sl (rows ZJ (l.map ZD))))
 |_=>none
theorem ZSR: ∀args r,ZBk args=some (true,r)→ZC Tryz.prog 38 args r:=by
 intro args r h;unfold ZBk at h;split at h
 ·rename_i R;obtain⟨l,hr0,h⟩:=Zr h;simp only[Zf,Zc,ZW,Zj,true_and]at h;obtain⟨h1,rfl⟩:=h;rw[←ZX Zb hr0];exact(ZY7 l h1.1 h1.2)
 ·cases h
def sD (T:List Zi) (C:List Zt):D:= .agg [.x (.sl (rows Zw T)),.x (.sl (rows YW C))]
def ZAn:List D→Option (Bool×D)
 | [.x (.str s)]=>some (decide (s.length≤140737488355328),.x (.str (ZD s)))
 |_=>none
theorem ZPa: ∀args r,ZAn args=some (true,r)→ZC Tryz.prog 32 args r:=by
 intro args r h;unfold ZAn at h;split at h
 ·rename_i s;simp only[Zf,Zc,ZW,Zj,true_and]at h;obtain⟨h1,rfl⟩:=h;exact(ZGU s h1)
 ·cases h
def ZKQ:Tabs:=ZY (ZY (ZV) 32 ZAn) 38 ZBk
theorem ZND:SsOk Tryz.prog ZKQ:=ZL (ZL (ZG) (ZB ZH (p:=i32) rfl) ZPa) (ZB ZH (p:=i38) rfl) ZSR
theorem ZL2 (a:List D):ZKQ.q 32 a=ZAn a:=rfl
theorem ZL8 (a:List D):ZKQ.q 38 a=ZBk a:=rfl
theorem ZQr (f:FuncId) (a:List D) (o:List Ob):ZKQ.r f a o=none:=rfl
theorem ZQX (f:FuncId) (a:List D) (o:List Ob):ZKQ.k f a o=none:=rfl
theorem Zdh {T:List Zi} {k:Tx} {j:Nat} (h:ZR (YA (T.take j)) k=none) (hj:j<T.length) (hne:ZD (T.getD j ([],0,false,())).1≠k):ZR (YA (T.take (j+1))) k=none:=by
 rw[ZB4,ZO6]at h⊢;rw[List.take_succ_eq_append_getElem hj,List.map_append];intro hin;rcases List.mem_append.1 hin with h1|h1
 ·exact h h1
 ·refine hne ?_;simp[hj]at h1⊢;exact h1.symm
theorem Zaw {T:List Zi} {k:Tx} {j:Nat} (h:ZR (YA (T.take j)) k=none) (hj:j<T.length) (he:ZD (T.getD j ([],0,false,())).1=k):ZR (YA T) k=some (ZN6 (T.getD j ([],0,false,()))):=by
 have hg:T.getD j ([],0,false,())=T[j]:=by simp[hj]
 rw[hg]at he⊢;have e:YA T=YA (T.take j)++((ZD T[j].1,ZN6 T[j])::YA (T.drop (j+1))):=by
  have e2:YA (T[j]::T.drop (j+1))=(ZD T[j].1,ZN6 T[j])::YA (T.drop (j+1)):=rfl;rw[←e2,←List.drop_eq_getElem_cons hj];unfold YA;rw[←List.map_append,List.take_append_drop]
 have h0:(YA (T.take j)).find? (fun p=>decide (k=p.1))=none:=by unfold ZR at h;simpa using h
 unfold ZR;rw[e,List.find?_append,h0,Option.none_or,List.find?_cons_of_pos (by simpa using he.symm)];rfl
theorem Zah (T:List Zi) (C:List Zt) (n:Tx) (hT:smT T) (hn:n.length≤140737488355328):ZC Tryz.prog 13 [sD T C,.x (.str n)] (.tup [QA (Ja (YA T) (ZD n)),.x (.bool (ZR (YA T) (ZD n)).isSome)]):=by
 have hTl:=hT.1;have hdn:=ZM hn;unfold sD Ja;rcases hm:ZR (YA T) (ZD n)with _|t
 all_goals
  unfold QA;refine ZN.pure (ZP (fz:=true) ZH (p:=i13) rfl _ (ξ rfl) _ (fun C0 E0=> ?_)) rfl;dsimp only[i13,qt,qi,qs,qb,qm,qa,qh,qj,qT,qF,qe,ql,qL,qf,q2,q3,q8,qz,qp,qP,qc,qk,qx,qy,qo,qr,qC,ZQ];have uu:=ZA @ZAn.eq_1 (ZA @ZAn.eq_2 (ZA hdn (ZA @ZQr (ZA @ZQX (ZA @ZL2 (ZA @ZL8 (ZA @ZBk.eq_1 (@ZBk.eq_2))))))));have tT:=ZND;refine nz ?_;refine rg tT [1,2,4] ?_;refine rg tT [1,2,4,6] ?_;refine WI.orderA [1,2,4,6] ?_;refine WI.loop (fun φ os=> ∃(j:Nat),φ= [(1,.x (.str n)),(2,.ptr 0 0),(4,.ptr 1 0),(6,.x (.int .i64 j))]∧os= [.box [.x (.sl (rows Zw T)),.x (.sl (rows YW C))],.box [.x (.str []),.x (.int .i64 0),.x (.bool false)]]∧j≤T.length∧ZR (YA (T.take j)) (ZD n)=none) (ZK T.length 6) ?_ (fun φ os hI=> ?_)
  ·exact⟨0,rfl,rfl,by omega,rfl⟩
  ·obtain⟨j,rfl,rfl,hj,hno⟩:=hI;refine nz ?_;refine rg tT [1,2,4,6,12] ?_;refine cd (fun h0=> ?_) (fun h0=> ?_)
   ·have hj4:j<T.length:=by omega
    have hrw:=ZKD T j hj4;have hy:=Zaw hno hj4;have hN:=Zdh hno hj4;have hxl:=hT.2 (T.getD j ([],0,false,())) (by rw[show T.getD j ([],0,false,())=T[j] by simp[hj4]];exact List.getElem_mem hj4);generalize T.getD j ([],0,false,())=x at hrw hy hN hxl;have hd47:decide (x.1.length≤140737488355328)=true:=ZM (by omega);have uu:=ZA uu (ZA hrw hd47);refine rg tT [1,2,4,6,24] ?_;refine cd (fun h1=> ?_) (fun h1=> ?_)
    ·have hx:ZD x.1=ZD n:=by simpa using h1
     have hy2:=hy hx;rw[hm]at hy2;refine rg tT [4,7] ?_;refine rg tT [4,7] ?_;refine rg tT [4,5] ?_;refine lf ?_
     first|(cases hy2;done)|(cases hy2;rfl)
    ·have hx: ¬ZD x.1=ZD n:=by simpa using h1
     have hno2:=hN hx;refine rg tT [1,2,4,6] ?_;exact⟨⟨j+1,rfl,rfl,by omega,hno2⟩,by simp[ZK,Ab.get,D.val,ZF];omega⟩
   ·refine rg tT [4,5] ?_;refine lf ?_;rw[YN (by omega)]at hno;rw[hm]at hno;first|rfl|(cases hno;done)
theorem ZdN {C:List Zt} {k:Tx} {j:Nat} (h:ZR (YH (C.take j)) k=none) (hj:j<C.length) (hne:ZD (C.getD j ([],[],[],())).1≠k):ZR (YH (C.take (j+1))) k=none:=by
 rw[ZB4,ZM8]at h⊢;rw[List.take_succ_eq_append_getElem hj,List.map_append];intro hin;rcases List.mem_append.1 hin with h1|h1
 ·exact h h1
 ·refine hne ?_;simp[hj]at h1⊢;exact h1.symm
theorem ZaW {C:List Zt} {k:Tx} {j:Nat} (h:ZR (YH (C.take j)) k=none) (hj:j<C.length) (he:ZD (C.getD j ([],[],[],())).1=k):ZR (YH C) k=some (ZA8 (C.getD j ([],[],[],()))):=by
 have hg:C.getD j ([],[],[],())=C[j]:=by simp[hj]
 rw[hg]at he⊢;have e:YH C=YH (C.take j)++((ZD C[j].1,ZA8 C[j])::YH (C.drop (j+1))):=by
  have e2:YH (C[j]::C.drop (j+1))=(ZD C[j].1,ZA8 C[j])::YH (C.drop (j+1)):=rfl;rw[←e2,←List.drop_eq_getElem_cons hj];unfold YH;rw[←List.map_append,List.take_append_drop]
 have h0:(YH (C.take j)).find? (fun p=>decide (k=p.1))=none:=by unfold ZR at h;simpa using h
 unfold ZR;rw[e,List.find?_append,h0,Option.none_or,List.find?_cons_of_pos (by simpa using he.symm)];rfl
def ZD8 (C:List Zt):Prop:=C.length≤100000∧ ∀x∈C,x.1.length≤1000000∧(x.2.1.length≤50000∧ ∀n∈x.2.1,n.length≤1000000)∧(x.2.2.1.length≤50000∧ ∀n∈x.2.2.1,n.length≤1000000)
instance (C:List Zt):Decidable (ZD8 C):=inferInstanceAs (Decidable (_∧_))
theorem ZZE (T:List Zi) (C:List Zt) (n:Tx) (hC:ZD8 C) (hn:n.length≤1000000):ZC Tryz.prog 15 [sD T C,.x (.str n)] (.tup [clD (clV (YH C) (ZD n)),.x (.bool (ZR (YH C) (ZD n)).isSome)]):=by
 have hCl:=hC.1;have hdn:decide (n.length≤140737488355328)=true:=ZM (by omega);unfold sD clV;rcases hm:ZR (YH C) (ZD n)with _|t
 all_goals
  unfold clD;refine ZN.pure (ZP (fz:=true) ZH (p:=i15) rfl _ (ξ rfl) _ (fun C0 E0=> ?_)) rfl;dsimp only[i15,qt,qi,qs,qb,qm,qa,qh,qj,qT,qF,qe,ql,qL,qf,q2,q3,q8,qz,qp,qP,qc,qk,qx,qy,qo,qr,qC,ZQ];have uu:=ZA @ZAn.eq_1 (ZA @ZAn.eq_2 (ZA @ZBk.eq_1 (ZA @ZBk.eq_2 (ZA @ZIY (ZA hdn (ZA @ZQr (ZA @ZQX (ZA @ZL2 (@ZL8)))))))));have tT:=ZND;refine nz ?_;refine rg tT [1,2,4] ?_;refine rg tT [1,2,4,6] ?_;refine WI.nnA ?_;refine WI.orderA [1,2,4,6] ?_;refine WI.loop (fun φ os=> ∃(j:Nat),φ= [(1,.x (.str n)),(2,.ptr 0 0),(4,.ptr 1 0),(6,.x (.int .i64 j))]∧os= [.box [.x (.sl (rows Zw T)),.x (.sl (rows YW C))],.box [.x (.str []),.x (.sl []),.x (.sl [])]]∧j≤C.length∧ZR (YH (C.take j)) (ZD n)=none) (ZK C.length 6) ?_ (fun φ os hI=> ?_)
  ·exact⟨0,rfl,rfl,by omega,rfl⟩
  ·obtain⟨j,rfl,rfl,hj,hno⟩:=hI;refine nz ?_;refine rg tT [1,2,4,6,12] ?_;refine cd (fun h0=> ?_) (fun h0=> ?_)
   ·have hj4:j<C.length:=by omega
    have hrw:=ZOp C j hj4;have hy:=ZaW hno hj4;have hN:=ZdN hno hj4;have hxl:=hC.2 (C.getD j ([],[],[],())) (by rw[show C.getD j ([],[],[],())=C[j] by simp[hj4]];exact List.getElem_mem hj4);generalize C.getD j ([],[],[],())=x at hrw hy hN hxl;obtain⟨hx1,hx2,hx3⟩:=hxl;have hd47:decide (x.1.length≤140737488355328)=true:=ZM (by omega);have hd48:decide (x.2.1.length≤100000∧ ∀n∈x.2.1,n.length≤1000000)=true:=ZM ⟨by omega,hx2.2⟩;have hd49:decide (x.2.2.1.length≤100000∧ ∀n∈x.2.2.1,n.length≤1000000)=true:=ZM ⟨by omega,hx3.2⟩;have uu:=ZA uu (ZA hrw (ZA hd47 (ZA hd48 hd49)));refine rg tT [1,2,4,6,7] ?_;refine rg tT [1,2,4,6,7,25] ?_;refine cd (fun h1=> ?_) (fun h1=> ?_)
    ·have hx:ZD x.1=ZD n:=by simpa using h1
     have hy2:=hy hx;rw[hm]at hy2;refine WI.dregB tT [4,5] ?_;refine Zn ?_;refine YG ?_;refine Qi ?_;refine Zn ?_;refine YG ?_;refine Qi ?_;refine Zn ?_;refine YG ?_;refine dAC ?_;refine Ye ?_;refine dAG ?_;refine Zn ?_;refine dN ?_;refine nz ?_;refine lf ?_
     first|(cases hy2;done)|(cases hy2;rfl)
    ·have hx: ¬ZD x.1=ZD n:=by simpa using h1
     have hno2:=hN hx;refine WI.pickA [0,1] ?_;refine rg tT [1,2,4,6] ?_;exact⟨⟨j+1,rfl,rfl,by omega,hno2⟩,by simp[ZK,Ab.get,D.val,ZF];omega⟩
   ·refine rg tT [4,5] ?_;refine WI.nnA ?_;refine lf ?_;rw[YN (by omega)]at hno;rw[hm]at hno;first|rfl|(cases hno;done)
def QP:List D→Option (Bool×D)
 | [.agg [.x (.sl R),.x (.sl R2)],.x (.str n)]=>(Zg Zw R).bind fun T=>(Zg YW R2).bind fun C=>some (decide (smT T∧n.length≤1000000),.tup [QA (Ja (YA T) (ZD n)),.x (.bool (ZR (YA T) (ZD n)).isSome)])
 |_=>none
theorem ZHv: ∀args r,QP args=some (true,r)→ZC Tryz.prog 13 args r:=by
 intro args r h;unfold QP at h;split at h
 ·rename_i R R2 n;obtain⟨T,hr0,h⟩:=Zr h;obtain⟨C,hr1,h⟩:=Zr h;simp only[Zf,Zc,ZW,Zj,true_and]at h;obtain⟨h1,rfl⟩:=h;rw[←ZX YM hr0];rw[←ZX Yc hr1];exact(Zah T C n h1.1 (by omega))
 ·cases h
def ZAQ:List D→Option (Bool×D)
 | [.agg [.x (.sl R),.x (.sl R2)],.x (.str n)]=>(Zg Zw R).bind fun T=>(Zg YW R2).bind fun C=>some (decide (ZD8 C∧n.length≤1000000),.tup [clD (clV (YH C) (ZD n)),.x (.bool (ZR (YH C) (ZD n)).isSome)])
 |_=>none
theorem ZKk: ∀args r,ZAQ args=some (true,r)→ZC Tryz.prog 15 args r:=by
 intro args r h;unfold ZAQ at h;split at h
 ·rename_i R R2 n;obtain⟨T,hr0,h⟩:=Zr h;obtain⟨C,hr1,h⟩:=Zr h;simp only[Zf,Zc,ZW,Zj,true_and]at h;obtain⟨h1,rfl⟩:=h;rw[←ZX YM hr0];rw[←ZX Yc hr1];exact(ZZE T C n h1.1 h1.2)
 ·cases h
def nmL (L:List (Tx×Zi)) (a:Zv):Tx:=(Ja L (ZD a.1)).1
def ZD0 (k:Int) (a b:Tx):Prop:=eqV k a b≠1
instance (k:Int) (a b:Tx):Decidable (ZD0 k a b):=inferInstanceAs (Decidable (¬_))
def ZE0 (L:List (Tx×Zi)):List Tx→List Zv→Bool
 |_,[]=>false
 |S,a::l=>(decide (nmL L a∈S)|| !decide (a.2.1.Pairwise (ZD0 (Ja L (ZD a.1)).2.1)))||ZE0 L (S++ [nmL L a]) l
def ZIR (L:List (Tx×Zi)) (l:List Zv):Int:=
 if ZE0 L [] l=true then 20 else if l.all (fun a=> !((Ja L (ZD a.1)).2.2.1&&decide (1<a.2.1.length)))=true then 0 else 19
theorem ZTp {α:Type} {P:α→α→Prop} {l:List α} {k:Nat} (h:k<l.length):(l.take (k+1)).Pairwise P↔(l.take k).Pairwise P∧ ∀x∈l.take k,P x l[k]:=by
 rw[List.take_succ_eq_append_getElem h,List.pairwise_append];simp
def ZGT:Tabs:=ZY (JR (ZY (ZY (ZV) 13 QP) 42 inG) 42 (QE inG)) 91 ZCZ
theorem ZYI:SsOk Tryz.prog ZGT:=ZL (Yl (ZL (ZL (ZG) (ZB ZH (p:=i13) rfl) ZHv) (ZB ZH (p:=i42) rfl) ZKg) (ZB ZH (p:=i42) rfl) (ZCR ZKg)) (ZB ZH (p:=i91) rfl) ZPf
theorem ZVL (a:List D):ZGT.q 13 a=QP a:=rfl
theorem ZUz (a:List D):ZGT.q 42 a=inG a:=rfl
theorem ZVz (a:List D) (o:List Ob):ZGT.t 42 a o=YU (QE inG) a o:=rfl
theorem ZVB (a:List D):ZGT.q 91 a=ZCZ a:=rfl
theorem Zbg (f:FuncId) (a:List D) (o:List Ob):ZGT.r f a o=none:=rfl
theorem Zbe (f:FuncId) (a:List D) (o:List Ob):ZGT.k f a o=none:=rfl
set_option maxHeartbeats 4000000 in
theorem Zc8 (T:List Zi) (C:List Zt) (e:Ky) (hT:smT T) (he:smA e.2.1) (hv: ∀a∈e.2.1,∀v∈a.2.1,v.length≤1000000):ZC Tryz.prog 71 [sD T C,ZAT e] (.x (.int .i64 (ZIR (YA T) e.2.1))):=by
 obtain⟨dn,l,u⟩:=e;simp only at he hv⊢;have hll:l.length≤1000000:=he.1;rcases hres:ZIR (YA T) l with v
 unfold ZIR at hres;have hTd:=ZM hT;unfold sD ZAT;refine ZN.pure (ZP (fz:=true) ZH (p:=i71) rfl _ (ξ rfl) _ (fun C0 E0=> ?_)) rfl;dsimp only[i71,qt,qi,qs,qb,qm,qa,qh,qj,qT,qF,qe,ql,qL,qf,q2,q3,q8,qz,qp,qP,qc,qk,qx,qy,qo,qr,qC,ZQ];have uu:=ZA @QP.eq_1 (ZA @QP.eq_2 (ZA @inG.eq_1 (ZA @inG.eq_2 (ZA @ZCZ.eq_1 (ZA @ZCZ.eq_2 (ZA @ZIA (ZA @ZIY (ZA @ZKA (ZA @@QA.eq_1 (ZA @Zbg (ZA @Zbe (ZA @ZVL (ZA @ZUz (ZA @ZVB (ZA @ZVz (@QE.eq_1))))))))))))))));have tT:=ZYI;refine nz ?_;refine rg tT [2,3] ?_;refine rg tT [2,3,5] ?_;refine rg tT [2,3,5,6] ?_;refine WI.ownA 5 9 1 ?_;refine WI.loop (fun φ os=> ∃(i:Nat),φ= [(2,.ptr 0 0),(3,.ptr 1 0),(5,.ref 2 ((l.take i).map (nmL (YA T))).length 0 ((l.take i).map (nmL (YA T))).length),(6,.x (.int .i64 i))]∧os= [.box [.x (.sl (rows Zw T)),.x (.sl (rows YW C))],.box [.x (.str dn),.x (.sl (rows YP l))],.rows false 9 1 (rows ZJ ((l.take i).map (nmL (YA T))))]∧i≤l.length∧ZE0 (YA T) ((l.take i).map (nmL (YA T))) (l.drop i)=ZE0 (YA T) [] l) (ZK l.length 6) ?_ (fun φ os hI=> ?_)
 ·exact⟨0,rfl,rfl,by omega,rfl⟩
 ·obtain⟨i,rfl,rfl,hi,hdf⟩:=hI;refine nz ?_;refine rg tT [2,3,5,6,19] ?_;refine cd (fun h0=> ?_) (fun h0=> ?_)
  ·have hi4:i<l.length:=by omega
   have hrw:=ZBT l i hi4;have hdr:=ZH1 l ([],[],()) i hi4;have hnt:(l.take (i+1)).map (nmL (YA T))=(l.take i).map (nmL (YA T))++ [nmL (YA T) (l.getD i ([],[],()))]:=by rw[List.take_succ_eq_append_getElem hi4,List.map_append];simp[hi4]
   have hma:l.getD i ([],[],())∈l:=by rw[show l.getD i ([],[],())=l[i] by simp[hi4]];exact List.getElem_mem hi4
   generalize l.getD i ([],[],())=a at hrw hdr hma hnt;obtain⟨hna,hnv⟩:=he.2 a hma;have hva:=hv a hma;rw[hdr,ZE0]at hdf;obtain⟨an,vs,au⟩:=a;simp only at hna hnv hva hdf hrw hnt;obtain⟨t,ht⟩: ∃t,t=Ja (YA T) (ZD an):=⟨_,rfl⟩;have hnm:nmL (YA T) (an,vs,au)=t.1:=by rw[ht];rfl
   rw[←ht,hnm]at hdf;rw[hnm]at hnt;have hSl:((l.take i).map (nmL (YA T))).length≤1000000:=by rw[List.length_map,List.length_take];omega
   generalize(l.take i).map (nmL (YA T))=S at hdf hnt hSl⊢;have hd1:decide (smT T∧an.length≤1000000)=true:=ZM ⟨hT,hna⟩;have hd2:decide (S.length≤4000000000000)=true:=ZM (by omega);have hrt:(rows ZJ S).take S.length=rows ZJ S:=YN (by rw[YR];exact Nat.le_refl _);have uu:=ZA uu (ZA hrw (ZA ht.symm (ZA hd1 (ZA hd2 hrt))));refine WI.dregB tT [2,3,5,6,7] ?_;refine YG ?_;refine Zn ?_;refine YG ?_;refine Zn ?_;refine YG ?_;refine Zn ?_;refine YG ?_;refine Qi ?_;refine Zn ?_
   iterate 2 refine Ye ?_
   refine dKG ?_;refine dAG ?_;refine Zn ?_;refine dN ?_;refine nz ?_;refine rg tT [2,3,5,6,7,36] ?_;refine cd (fun h1=> ?_) (fun h1=> ?_)
   ·have hin:t.1∈S:=by clear uu;grind
    rw[ZM hin,Bool.true_or,Bool.true_or]at hdf;refine rg tT [4] ?_;refine WI.nnA ?_;refine lf ?_;rw[←hdf,if_pos rfl]at hres;rw[hres]
   ·have hin: ¬t.1∈S:=by clear uu;grind
    rw[decide_eq_false hin,Bool.false_or]at hdf;refine rg tT [2,3,5,6,7] ?_;refine rg tT [2,3,5,6,7,9] ?_;refine rg tT [2,3,5,6,7,9,10] ?_;refine WI.pickA [0,1,2,3] ?_;refine WI.loop (fun φ os=> ∃(k:Nat),φ= [(2,.ptr 0 0),(3,.ptr 1 0),(5,.ref 2 (S.length+1) 0 (S.length+1)),(6,.x (.int .i64 i)),(7,.ptr 3 0),(9,.x (.sl (rows ZJ vs))),(10,.x (.int .i64 k))]∧os= [.box [.x (.sl (rows Zw T)),.x (.sl (rows YW C))],.box [.x (.str dn),.x (.sl (rows YP l))],.rows false 9 1 (rows ZJ S++ [[X.str t.1]]),.box [.x (.str t.1),.x (.int .i64 t.2.1),.x (.bool t.2.2.1)]]∧k≤vs.length∧(vs.take k).Pairwise (ZD0 t.2.1)) (ZK vs.length 10) ?_ (fun φ os hI=> ?_)
    ·exact⟨0,rfl,rfl,by omega,.nil⟩
    ·obtain⟨k,rfl,rfl,hk,hpw⟩:=hI;refine nz ?_;refine rg tT [2,3,5,6,7,9,10,51] ?_;refine cd (fun h2=> ?_) (fun h2=> ?_)
     ·have hk4:k<vs.length:=by omega
      have hrk:=JF vs k hk4;refine rg tT [2,3,5,6,7,9,10,11] ?_;refine WI.loop (fun φ os=> ∃(j:Nat),φ= [(2,.ptr 0 0),(3,.ptr 1 0),(5,.ref 2 (S.length+1) 0 (S.length+1)),(6,.x (.int .i64 i)),(7,.ptr 3 0),(9,.x (.sl (rows ZJ vs))),(10,.x (.int .i64 k)),(11,.x (.int .i64 j))]∧os= [.box [.x (.sl (rows Zw T)),.x (.sl (rows YW C))],.box [.x (.str dn),.x (.sl (rows YP l))],.rows false 9 1 (rows ZJ S++ [[X.str t.1]]),.box [.x (.str t.1),.x (.int .i64 t.2.1),.x (.bool t.2.2.1)]]∧j≤k∧ ∀x∈vs.take j,ZD0 t.2.1 x (vs.getD k [])) (ZK k 11) ?_ (fun φ os hI=> ?_)
      ·exact⟨0,rfl,rfl,by omega,by simp⟩
      ·obtain⟨j,rfl,rfl,hj,hne⟩:=hI;refine nz ?_;refine rg tT [2,3,5,6,7,9,10,11,56] ?_;refine cd (fun h3=> ?_) (fun h3=> ?_)
       ·have hj4:j<k:=by omega
        have hrj:=JF vs j (by omega);have hgj:vs.getD j []=vs[j]:=by simp[show j<vs.length by omega]
        have hgk:vs.getD k []=vs[k]:=by simp[hk4]
        have uu:=ZA uu (ZA hrk hrj);refine WI.dregB tT [2,3,5,6,7,9,10,11,70] ?_;refine Zn ?_;refine YG ?_
        iterate 2 refine Zn ?_
        iterate 2 refine YG ?_
        iterate 2 refine Zn ?_
        iterate 2 refine YG ?_
        refine dAC ?_;refine Ye ?_;refine dN ?_;refine nz ?_;refine cd (fun h4=> ?_) (fun h4=> ?_)
        ·have h1e:eqV t.2.1 (vs.getD j []) (vs.getD k [])=1:=by simpa using h4
         have hnp: ¬vs.Pairwise (ZD0 t.2.1):=fun hp=>(List.pairwise_iff_getElem.1 hp j k (by omega) hk4 hj4) (by rw[←hgj,←hgk];exact h1e)
         rw[decide_eq_false hnp,Bool.not_false,Bool.true_or]at hdf;refine rg tT [4] ?_;refine WI.nnA ?_;refine lf ?_;rw[←hdf,if_pos rfl]at hres;rw[hres]
        ·have h1e: ¬eqV t.2.1 (vs.getD j []) (vs.getD k [])=1:=by simpa using h4
         have hne2: ∀x∈vs.take (j+1),ZD0 t.2.1 x (vs.getD k []):=fun x hx=>by
          rw[List.take_succ_eq_append_getElem (by omega)]at hx;rcases List.mem_append.1 hx with h|h
          ·exact hne x h
          ·rw[List.mem_singleton.1 h,←hgj];exact h1e
         refine rg tT [2,3,5,6,7,9,10,11] ?_;exact⟨⟨j+1,rfl,rfl,by omega,hne2⟩,by simp[ZK,Ab.get,D.val,ZF];omega⟩
       ·obtain rfl:k=j:=by omega
        have hpw2:(vs.take (k+1)).Pairwise (ZD0 t.2.1):=(ZTp hk4).2 ⟨hpw,fun x hx=>by have:=hne x hx;rwa [show vs.getD k []=vs[k] by simp[hk4]]at this⟩;refine rg tT [2,3,5,6,7,9,10] ?_;exact⟨⟨k+1,rfl,rfl,by omega,hpw2⟩,by simp[ZK,Ab.get,D.val,ZF];omega⟩
     ·obtain rfl:k=vs.length:=by omega
      rw[List.take_length]at hpw;rw[ZM hpw,Bool.not_true,Bool.false_or]at hdf;refine WI.pickA [0,1,2] ?_;refine WI.orderA [2,3,5,6] ?_;refine rg tT [2,3,5,6] ?_;exact⟨⟨i+1,by rw[hnt,Zs];rfl,by rw[hnt,ZAt],by omega,by rw[hnt];exact hdf⟩,by simp[ZK,Ab.get,D.val,ZF];omega⟩
  ·obtain rfl:i=l.length:=by omega
   rw[List.drop_of_length_le (Nat.le_refl _),ZE0]at hdf;rw[←hdf,if_neg (by simp)]at hres;refine WI.pickA [0,1] ?_;refine WI.orderA [2,3] ?_;refine rg tT [2,3,12] ?_;refine WI.loop (fun φ os=> ∃(i:Nat),φ= [(2,.ptr 0 0),(3,.ptr 1 0),(12,.x (.int .i64 i))]∧os= [.box [.x (.sl (rows Zw T)),.x (.sl (rows YW C))],.box [.x (.str dn),.x (.sl (rows YP l))]]∧i≤l.length∧(l.take i).all (fun a=> !((Ja (YA T) (ZD a.1)).2.2.1&&decide (1<a.2.1.length)))=true) (ZK l.length 12) ?_ (fun φ os hI=> ?_)
   ·exact⟨0,rfl,rfl,by omega,rfl⟩
   ·obtain⟨i,rfl,rfl,hi,hall⟩:=hI;refine nz ?_;refine rg tT [2,3,12,75] ?_;refine cd (fun h5=> ?_) (fun h5=> ?_)
    ·have hi4:i<l.length:=by omega
     have hrw:=ZBT l i hi4;have hga:l[i]=l.getD i ([],[],()):=by simp[hi4]
     have hal:=YJ (fun a:Zv=> !((Ja (YA T) (ZD a.1)).2.2.1&&decide (1<a.2.1.length))) l i hi4;have hno:(!((Ja (YA T) (ZD (l.getD i ([],[],())).1)).2.2.1&&decide (1<(l.getD i ([],[],())).2.1.length)))=false→l.all (fun a:Zv=> !((Ja (YA T) (ZD a.1)).2.2.1&&decide (1<a.2.1.length)))=false:=fun h=>Ze (fun a:Zv=> !((Ja (YA T) (ZD a.1)).2.2.1&&decide (1<a.2.1.length))) l i hi4 (by rw[hga];exact h)
     have hma:l.getD i ([],[],())∈l:=by rw[←hga];exact List.getElem_mem hi4
     rw[hga]at hal;generalize l.getD i ([],[],())=a at hrw hma hal hno;obtain⟨hna,hnv⟩:=he.2 a hma;obtain⟨an,vs,au⟩:=a;simp only at hna hnv hrw hal hno;obtain⟨t,ht⟩: ∃t,t=Ja (YA T) (ZD an):=⟨_,rfl⟩;rw[←ht]at hal hno;have hd1:decide (smT T∧an.length≤1000000)=true:=ZM ⟨hT,hna⟩;have uu:=ZA uu (ZA hrw (ZA ht.symm hd1));refine WI.dregB tT [2,3,12,13] ?_;refine YG ?_;refine Zn ?_;refine YG ?_;refine Zn ?_;refine YG ?_;refine Zn ?_;refine YG ?_;refine Qi ?_;refine Zn ?_
     iterate 2 refine Ye ?_
     refine dKG ?_;refine dAG ?_;refine Zn ?_;refine dN ?_;refine nz ?_;refine rg tT [2,3,12,100] ?_;refine cd (fun h6=> ?_) (fun h6=> ?_)
     ·have hb:(t.2.2.1&&decide (1<vs.length))=true:=by clear uu;grind
      rw[hno (by rw[hb];rfl),if_neg (by simp)]at hres;refine rg tT [4] ?_;refine WI.nnA ?_;refine lf ?_;rw[hres]
     ·have hb:(t.2.2.1&&decide (1<vs.length))=false:=by clear uu;grind
      have hall2:(l.take (i+1)).all (fun a:Zv=> !((Ja (YA T) (ZD a.1)).2.2.1&&decide (1<a.2.1.length)))=true:=by rw[hal,hall,hb];rfl
      refine WI.pickA [0,1] ?_;refine WI.orderA [2,3,12] ?_;refine rg tT [2,3,12] ?_;exact⟨⟨i+1,rfl,rfl,by omega,hall2⟩,by simp[ZK,Ab.get,D.val,ZF];omega⟩
    ·refine rg tT [4] ?_;refine WI.nnA ?_;refine lf ?_;rw[YN (by omega)]at hall;rw[hall,if_pos rfl]at hres;rw[hres]
def smE (l:List Zv):Prop:=smA l∧ ∀a∈l,∀v∈a.2.1,v.length≤1000000
instance (l:List Zv):Decidable (smE l):=inferInstanceAs (Decidable (_∧_))
def ZIQ:List D→Option (Bool×D)
 | [.agg [.x (.sl R),.x (.sl R2)],.agg [.x (.str dn),.x (.sl R3)]]=>(Zg Zw R).bind fun T=>(Zg YW R2).bind fun C=>(Zg YP R3).bind fun l=>some (decide (smT T∧smE l),.x (.int .i64 (ZIR (YA T) l)))
 |_=>none
theorem ZZV: ∀args r,ZIQ args=some (true,r)→ZC Tryz.prog 71 args r:=by
 intro args r h;unfold ZIQ at h;split at h
 ·rename_i R R2 dn R3;obtain⟨T,hr0,h⟩:=Zr h;obtain⟨C,hr1,h⟩:=Zr h;obtain⟨l,hr2,h⟩:=Zr h;simp only[Zf,Zc,ZW,Zj,true_and]at h;obtain⟨h1,rfl⟩:=h;rw[←ZX YM hr0];rw[←ZX Yc hr1];rw[←ZX JW hr2];exact(Zc8 T C (dn,l,()) h1.1 h1.2.1 h1.2.2)
 ·cases h
def v1F (L:List (Tx×Zi)) (a:Zv):Bool:=(ZR L (ZD a.1)).isSome
def v2F (a:Zv):Bool:= !decide (a.2.1.length=0)
def v3F (L:List (Tx×Zi)) (a:Zv):Bool:=a.2.1.all fun v=>(Yh (Ja L (ZD a.1)).2.1 v).2
def ZDU (L:List (Tx×Zi)) (l:List Zv):Int:=
 if l.all (v1F L)=true then(if l.all v2F=true then(if l.all (v3F L)=true then ZIR L l else 21)else 19)else 17
def ZIJ:Tabs:=ZY (ZY (ZY (ZV) 13 QP) 71 ZIQ) 70 ZAR
theorem ZZU:SsOk Tryz.prog ZIJ:=ZL (ZL (ZL (ZG) (ZB ZH (p:=i13) rfl) ZHv) (ZB ZH (p:=i71) rfl) ZZV) (ZB ZH (p:=i70) rfl) ZJl
theorem ZVo (a:List D):ZIJ.q 13 a=QP a:=rfl
theorem ZWR (a:List D):ZIJ.q 71 a=ZIQ a:=rfl
theorem ZWa (a:List D):ZIJ.q 70 a=ZAR a:=rfl
theorem ZbG (f:FuncId) (a:List D) (o:List Ob):ZIJ.r f a o=none:=rfl
theorem Zai (f:FuncId) (a:List D) (o:List Ob):ZIJ.k f a o=none:=rfl
set_option maxHeartbeats 4000000 in
theorem ZVK (T:List Zi) (C:List Zt) (e:Ky) (hT:smT T) (he:smE e.2.1):ZC Tryz.prog 41 [sD T C,ZAT e] (.x (.int .i64 (ZDU (YA T) e.2.1))):=by
 obtain⟨dn,l,u⟩:=e;simp only at he⊢;have hll:l.length≤1000000:=he.1.1;rcases hres:ZDU (YA T) l with v
 unfold ZDU at hres;have hd0:decide (smT T∧smE l)=true:=ZM ⟨hT,he⟩;unfold sD ZAT;refine ZN.pure (ZP (fz:=true) ZH (p:=i41) rfl _ (ξ rfl) _ (fun C0 E0=> ?_)) rfl;dsimp only[i41,qt,qi,qs,qb,qm,qa,qh,qj,qT,qF,qe,ql,qL,qf,q2,q3,q8,qz,qp,qP,qc,qk,qx,qy,qo,qr,qC,ZQ];have uu:=ZA @QP.eq_1 (ZA @QP.eq_2 (ZA @ZIQ.eq_1 (ZA @ZIQ.eq_2 (ZA @ZAR.eq_1 (ZA @ZAR.eq_2 (ZA @ZIA (ZA @ZKA (ZA @ZKU (ZA hd0 (ZA @@QA.eq_1 (ZA @ZbG (ZA @Zai (ZA @ZVo (ZA @ZWa (@ZWR)))))))))))))));have tT:=ZZU;refine nz ?_;refine rg tT [2,3] ?_;refine rg tT [2,3,5] ?_;refine WI.orderA [2,3,5] ?_;refine WI.loop (fun φ os=> ∃(i:Nat),φ= [(2,.ptr 0 0),(3,.ptr 1 0),(5,.x (.int .i64 i))]∧os= [.box [.x (.sl (rows Zw T)),.x (.sl (rows YW C))],.box [.x (.str dn),.x (.sl (rows YP l))]]∧i≤l.length∧(l.take i).all (v1F (YA T))=true) (ZK l.length 5) ?_ (fun φ os hI=> ?_)
 ·exact⟨0,rfl,rfl,by omega,rfl⟩
 ·obtain⟨i,rfl,rfl,hi,hall⟩:=hI;refine nz ?_;refine rg tT [2,3,5,19] ?_;refine cd (fun h0=> ?_) (fun h0=> ?_)
  ·have hi4:i<l.length:=by omega
   have hrw:=ZBT l i hi4;have hga:l[i]=l.getD i ([],[],()):=by simp[hi4]
   have hal:=YJ (v1F (YA T)) l i hi4;have hno:v1F (YA T) (l.getD i ([],[],()))=false→l.all (v1F (YA T))=false:=fun h=>Ze (v1F (YA T)) l i hi4 (by rw[hga];exact h)
   have hma:l.getD i ([],[],())∈l:=by rw[←hga];exact List.getElem_mem hi4
   rw[hga]at hal;generalize l.getD i ([],[],())=a at hrw hma hal hno;obtain⟨hna,hnv⟩:=he.1.2 a hma;have hv1:v1F (YA T) a=(ZR (YA T) (ZD a.1)).isSome:=rfl;have hd1:decide (smT T∧a.1.length≤1000000)=true:=ZM ⟨hT,hna⟩;have uu:=ZA uu (ZA hrw hd1);refine WI.dregB tT [2,3,5,7] ?_;refine YG ?_;refine Zn ?_;refine YG ?_;refine Zn ?_;refine YG ?_;refine Zn ?_;refine YG ?_;refine Qi ?_;refine Zn ?_
   iterate 2 refine Ye ?_
   refine dKG ?_;refine dAG ?_;refine Zn ?_;refine dN ?_;refine nz ?_;refine rg tT [2,3,5,34] ?_;refine cd (fun h1=> ?_) (fun h1=> ?_)
   ·have hb:v1F (YA T) a=false:=by rw[hv1];clear uu;grind
    rw[hno hb,if_neg (by simp)]at hres;refine rg tT [4] ?_;refine lf ?_;rw[hres]
   ·have hb:v1F (YA T) a=true:=by rw[hv1];clear uu;grind
    have hall2:(l.take (i+1)).all (v1F (YA T))=true:=by rw[hal,hall,hb];rfl
    refine WI.pickA [0,1] ?_;refine WI.orderA [2,3,5] ?_;refine rg tT [2,3,5] ?_;exact⟨⟨i+1,rfl,rfl,by omega,hall2⟩,by simp[ZK,Ab.get,D.val,ZF];omega⟩
  ·rw[YN (by omega)]at hall;rw[hall,if_pos rfl]at hres;refine rg tT [2,3,8] ?_;refine WI.orderA [2,3,8] ?_;refine WI.loop (fun φ os=> ∃(i:Nat),φ= [(2,.ptr 0 0),(3,.ptr 1 0),(8,.x (.int .i64 i))]∧os= [.box [.x (.sl (rows Zw T)),.x (.sl (rows YW C))],.box [.x (.str dn),.x (.sl (rows YP l))]]∧i≤l.length∧(l.take i).all v2F=true) (ZK l.length 8) ?_ (fun φ os hI=> ?_)
   ·exact⟨0,rfl,rfl,by omega,rfl⟩
   ·obtain⟨i,rfl,rfl,hi,hall⟩:=hI;refine nz ?_;refine rg tT [2,3,8,39] ?_;refine cd (fun h2=> ?_) (fun h2=> ?_)
    ·have hi4:i<l.length:=by omega
     have hrw:=ZBT l i hi4;have hga:l[i]=l.getD i ([],[],()):=by simp[hi4]
     have hal:=YJ v2F l i hi4;have hno:v2F (l.getD i ([],[],()))=false→l.all v2F=false:=fun h=>Ze v2F l i hi4 (by rw[hga];exact h)
     rw[hga]at hal;generalize l.getD i ([],[],())=a at hrw hal hno;have hv1:v2F a= !decide (a.2.1.length=0):=rfl;have uu:=ZA uu hrw;refine rg tT [2,3,8,49] ?_;refine cd (fun h3=> ?_) (fun h3=> ?_)
     ·have hb:v2F a=false:=by rw[hv1];clear uu;simp at h3⊢;exact h3
      rw[hno hb,if_neg (by simp)]at hres;refine rg tT [4] ?_;refine lf ?_;rw[hres]
     ·have hb:v2F a=true:=by rw[hv1];clear uu;simp at h3⊢;exact h3
      have hall2:(l.take (i+1)).all v2F=true:=by rw[hal,hall,hb];rfl
      refine rg tT [2,3,8] ?_;exact⟨⟨i+1,rfl,rfl,by omega,hall2⟩,by simp[ZK,Ab.get,D.val,ZF];omega⟩
    ·rw[YN (by omega)]at hall;rw[hall,if_pos rfl]at hres;refine rg tT [2,3,9] ?_;refine WI.orderA [2,3,9] ?_;refine WI.loop (fun φ os=> ∃(i:Nat),φ= [(2,.ptr 0 0),(3,.ptr 1 0),(9,.x (.int .i64 i))]∧os= [.box [.x (.sl (rows Zw T)),.x (.sl (rows YW C))],.box [.x (.str dn),.x (.sl (rows YP l))]]∧i≤l.length∧(l.take i).all (v3F (YA T))=true) (ZK l.length 9) ?_ (fun φ os hI=> ?_)
     ·exact⟨0,rfl,rfl,by omega,rfl⟩
     ·obtain⟨i,rfl,rfl,hi,hall⟩:=hI;refine nz ?_;refine rg tT [2,3,9,54] ?_;refine cd (fun h4=> ?_) (fun h4=> ?_)
      ·have hi4:i<l.length:=by omega
       have hrw:=ZBT l i hi4;have hga:l[i]=l.getD i ([],[],()):=by simp[hi4]
       have hal:=YJ (v3F (YA T)) l i hi4;have hno:v3F (YA T) (l.getD i ([],[],()))=false→l.all (v3F (YA T))=false:=fun h=>Ze (v3F (YA T)) l i hi4 (by rw[hga];exact h)
       have hma:l.getD i ([],[],())∈l:=by rw[←hga];exact List.getElem_mem hi4
       rw[hga]at hal;generalize l.getD i ([],[],())=a at hrw hma hal hno;obtain⟨hna,hnv⟩:=he.1.2 a hma;obtain⟨an,vs,au⟩:=a;simp only at hna hnv hrw hal hno;obtain⟨t,ht⟩: ∃t,t=Ja (YA T) (ZD an):=⟨_,rfl⟩;have hv1:v3F (YA T) (an,vs,au)=vs.all fun v=>(Yh t.2.1 v).2:=by rw[ht];rfl
       have hd1:decide (smT T∧an.length≤1000000)=true:=ZM ⟨hT,hna⟩;have uu:=ZA uu (ZA hrw (ZA ht.symm hd1));refine WI.dregB tT [2,3,9,10] ?_;refine YG ?_;refine Zn ?_;refine YG ?_;refine Zn ?_;refine YG ?_;refine Zn ?_;refine YG ?_;refine Qi ?_;refine Zn ?_
       iterate 2 refine Ye ?_
       refine dKG ?_;refine dAG ?_;refine Zn ?_;refine dN ?_;refine nz ?_;refine rg tT [2,3,9,10,12] ?_;refine WI.orderA [2,3,9,10,12] ?_;refine WI.loop (fun φ os=> ∃(k:Nat),φ= [(2,.ptr 0 0),(3,.ptr 1 0),(9,.x (.int .i64 i)),(10,.ptr 2 0),(12,.x (.int .i64 k))]∧os= [.box [.x (.sl (rows Zw T)),.x (.sl (rows YW C))],.box [.x (.str dn),.x (.sl (rows YP l))],.box [.x (.str t.1),.x (.int .i64 t.2.1),.x (.bool t.2.2.1)]]∧k≤vs.length∧(vs.take k).all (fun v=>(Yh t.2.1 v).2)=true) (ZK vs.length 12) ?_ (fun φ os hI=> ?_)
       ·exact⟨0,rfl,rfl,by omega,rfl⟩
       ·obtain⟨k,rfl,rfl,hk,hka⟩:=hI;refine nz ?_;refine rg tT [2,3,9,10,12,76] ?_;refine cd (fun h5=> ?_) (fun h5=> ?_)
        ·have hk4:k<vs.length:=by omega
         have hrk:=JF vs k hk4;have hgk:vs[k]=vs.getD k []:=by simp[hk4]
         have hak:=YJ (fun v=>(Yh t.2.1 v).2) vs k hk4;have hnk:(Yh t.2.1 (vs.getD k [])).2=false→vs.all (fun v=>(Yh t.2.1 v).2)=false:=fun h=>Ze (fun v=>(Yh t.2.1 v).2) vs k hk4 (by rw[hgk];exact h)
         rw[hgk]at hak;generalize vs.getD k []=y at hrk hak hnk;have uu:=ZA uu hrk;refine WI.dregB tT [2,3,9,10,12,14] ?_;refine Zn ?_;refine YG ?_;refine Zn ?_;refine YG ?_;refine Zn ?_;refine YG ?_;refine Zn ?_;refine YG ?_;refine Zn ?_
         iterate 2 refine YG ?_
         refine dAC ?_;refine Zn ?_
         iterate 2 refine Ye ?_
         iterate 2 refine Zn ?_
         refine dN ?_;refine nz ?_;refine rg tT [2,3,9,10,12,95] ?_;refine cd (fun h6=> ?_) (fun h6=> ?_)
         ·have hb:(Yh t.2.1 y).2=false:=by clear uu;grind
          rw[hno (by rw[hv1];exact hnk hb),if_neg (by simp)]at hres;refine rg tT [4] ?_;refine lf ?_;rw[hres]
         ·have hb:(Yh t.2.1 y).2=true:=by clear uu;grind
          have hka2:(vs.take (k+1)).all (fun v=>(Yh t.2.1 v).2)=true:=by rw[hak,hka,hb];rfl
          refine rg tT [2,3,9,10,12] ?_;exact⟨⟨k+1,rfl,rfl,by omega,hka2⟩,by simp[ZK,Ab.get,D.val,ZF];omega⟩
        ·obtain rfl:k=vs.length:=by omega
         rw[List.take_length]at hka;have hall2:(l.take (i+1)).all (v3F (YA T))=true:=by rw[hal,hall,hv1,hka];rfl
         refine WI.pickA [0,1] ?_;refine WI.orderA [2,3,9] ?_;refine rg tT [2,3,9] ?_;exact⟨⟨i+1,rfl,rfl,by omega,hall2⟩,by simp[ZK,Ab.get,D.val,ZF];omega⟩
      ·rw[YN (by omega)]at hall;rw[hall,if_pos rfl]at hres;refine rg tT [4] ?_;refine lf ?_;rw[hres]
def ZCY:List D→Option (Bool×D)
 | [.agg [.x (.sl R),.x (.sl R2)],.agg [.x (.str dn),.x (.sl R3)]]=>(Zg Zw R).bind fun T=>(Zg YW R2).bind fun C=>(Zg YP R3).bind fun l=>some (decide (smT T∧smE l),.x (.int .i64 (ZDU (YA T) l)))
 |_=>none
theorem ZPX: ∀args r,ZCY args=some (true,r)→ZC Tryz.prog 41 args r:=by
 intro args r h;unfold ZCY at h;split at h
 ·rename_i R R2 dn R3;obtain⟨T,hr0,h⟩:=Zr h;obtain⟨C,hr1,h⟩:=Zr h;obtain⟨l,hr2,h⟩:=Zr h;simp only[Zf,Zc,ZW,Zj,true_and]at h;obtain⟨h1,rfl⟩:=h;rw[←ZX YM hr0];rw[←ZX Yc hr1];rw[←ZX JW hr2];exact(ZVK T C (dn,l,()) h1.1 h1.2)
 ·cases h
def ocF (M:List (Tx×Zt)) (cs:List Tx) (h:Tx):Bool:=decide (h=OC)||decide (h∈QB M cs)
def ZLF (L:List (Tx×Zi)) (M:List (Tx×Zt)) (l:List Zv):Int:=
 if ZDU L l≠0 then ZDU L l else if(ZAU l).length=0 then 65 else if(ZAU l).all (ZAV M (KH l))=true then(if(KH l).all (ocF M (ZAU l))=true then 0 else 65)else 65
theorem ZTw {C:List Zt} (h:ZD8 C) (k:Tx):(clV (YH C) k).2.1.length≤50000∧(clV (YH C) k).2.2.1.length≤50000:=by
 unfold clV;rcases hm:ZR (YH C) k with _|c
 ·simp
 ·obtain⟨x,hx,e⟩:=List.mem_map.1 (ZHF hm);have:=h.2 x hx;simp only[Zc]at e;rw[←e.2];simp only[Option.getD_some,ZA8,List.length_map];exact⟨this.2.1.1,this.2.2.1⟩
theorem ZKs {C:List Zt} (h:ZD8 C): ∀cs:List Tx,(QB (YH C) cs).length≤cs.length*100000
 | []=>by simp[QB]
 |n::cs=>by
  have:=ZKs h cs;have:=ZTw h (ZD n);unfold QB at*;rw[List.flatMap_cons,Zs,Zs,KR];omega
def ZEZ:Tabs:=JR (ZY (ZY (ZY (ZY (ZV) 41 ZCY) 15 ZAQ) 32 ZAO) 42 inG) 42 (QE inG)
theorem ZYi:SsOk Tryz.prog ZEZ:=Yl (ZL (ZL (ZL (ZL (ZG) (ZB ZH (p:=i41) rfl) ZPX) (ZB ZH (p:=i15) rfl) ZKk) (ZB ZH (p:=i32) rfl) ZJw) (ZB ZH (p:=i42) rfl) ZKg) (ZB ZH (p:=i42) rfl) (ZCR ZKg)
theorem ZUM (a:List D):ZEZ.q 41 a=ZCY a:=rfl
theorem ZUR (a:List D):ZEZ.q 15 a=ZAQ a:=rfl
theorem ZVh (a:List D):ZEZ.q 32 a=ZAO a:=rfl
theorem ZUU (a:List D):ZEZ.q 42 a=inG a:=rfl
theorem ZUt (a:List D) (o:List Ob):ZEZ.t 42 a o=YU (QE inG) a o:=rfl
theorem ZaS (f:FuncId) (a:List D) (o:List Ob):ZEZ.r f a o=none:=rfl
theorem ZcB (f:FuncId) (a:List D) (o:List Ob):ZEZ.k f a o=none:=rfl
set_option maxHeartbeats 4000000 in
theorem ZX3 (T:List Zi) (C:List Zt) (e:Ky) (hT:smT T) (hC:ZD8 C) (he:smE e.2.1):ZC Tryz.prog 18 [sD T C,ZAT e] (.x (.int .i64 (ZLF (YA T) (YH C) e.2.1))):=by
 obtain⟨dn,l,u⟩:=e;simp only at he⊢;have hll:l.length≤1000000:=he.1.1;obtain⟨hcl,hcv⟩:=ZQQ he.1 he.2;have hoc:(OC:Tx)= [111,98,106,101,99,116,99,108,97,115,115]:=rfl;rcases hres:ZLF (YA T) (YH C) l with v
 unfold ZLF at hres;have hd0:decide (smT T∧smE l)=true:=ZM ⟨hT,he⟩;unfold sD ZAT;refine ZN.pure (ZP (fz:=true) ZH (p:=i18) rfl _ (ξ rfl) _ (fun C0 E0=> ?_)) rfl;dsimp only[i18,qt,qi,qs,qb,qm,qa,qh,qj,qT,qF,qe,ql,qL,qf,q2,q3,q8,qz,qp,qP,qc,qk,qx,qy,qo,qr,qC,ZQ];have uu:=ZA @ZCY.eq_1 (ZA @ZCY.eq_2 (ZA @ZAQ.eq_1 (ZA @ZAQ.eq_2 (ZA @ZAO.eq_1 (ZA @ZAO.eq_2 (ZA @inG.eq_1 (ZA @inG.eq_2 (ZA @ZIA (ZA @ZIY (ZA @ZKA (ZA @ZKU (ZA hd0 (ZA @ZaS (ZA @ZcB (ZA @ZUR (ZA @ZVh (ZA @ZUM (ZA @ZUU (ZA @ZUt (@QE.eq_1))))))))))))))))))));have tT:=ZYi;refine nz ?_;refine rg tT [2,3] ?_;refine rg tT [2,3,5] ?_;refine rg tT [2,3,5,19] ?_;refine cd (fun h0=> ?_) (fun h0=> ?_)
 ·rw[if_pos (by simpa using h0)]at hres;refine rg tT [4] ?_;refine lf ?_;rw[hres]
 ·rw[if_neg (by simpa using h0)]at hres;refine rg tT [2,3,6,7,8] ?_;refine rg tT [2,3,6,7,8,9] ?_;refine WI.ownA 6 9 1 ?_;refine WI.ownA 8 9 1 ?_;refine WI.nnA ?_;refine WI.orderA [2,3,6,7,8,9] ?_;refine WI.loop (fun φ os=> ∃(i:Nat),φ= [(2,.ptr 0 0),(3,.ptr 1 0),(6,.ref 2 (KH (l.take i)).length 0 (KH (l.take i)).length),(7,.x (.sl (rows ZJ (ZAU (l.take i))))),(8,.ref 3 0 0 0),(9,.x (.int .i64 i))]∧os= [.box [.x (.sl (rows Zw T)),.x (.sl (rows YW C))],.box [.x (.str dn),.x (.sl (rows YP l))],.rows false 9 1 (rows ZJ (KH (l.take i))),.rows false 9 1 []]∧i≤l.length) (ZK l.length 9) ?_ (fun φ os hI=> ?_)
  ·exact⟨0,rfl,rfl,by omega⟩
  ·obtain⟨i,rfl,rfl,hi⟩:=hI;refine nz ?_;refine rg tT [2,3,6,7,8,9,25] ?_;refine cd (fun h1=> ?_) (fun h1=> ?_)
   ·have hi4:i<l.length:=by omega
    have hrw:=ZBT l i hi4;have hnt:=ZLU l i hi4;have hct:=ZLg l i hi4;have hma:l.getD i ([],[],())∈l:=by rw[show l.getD i ([],[],())=l[i] by simp[hi4]];exact List.getElem_mem hi4
    generalize l.getD i ([],[],())=a at hrw hnt hct hma;have hd1:=ZM (he.1.2 a hma).1;have hnl:(KH (l.take i)).length≤1000000:=by unfold KH;rw[List.length_map,List.length_take];omega
    have uu:=ZA uu (ZA hrw hd1);refine rg tT [2,3,6,7,8,9] ?_;refine rg tT [2,3,6,7,8,9,45] ?_;refine cd (fun h2=> ?_) (fun h2=> ?_)
    ·rw[if_pos (by rw[hoc];simpa using h2)]at hct;refine rg tT [2,3,6,7,8,9] ?_;refine WI.pickA [0,1,2,3] ?_;refine WI.orderA [2,3,6,7,8,9] ?_;refine rg tT [2,3,6,7,8,9] ?_;exact⟨⟨i+1,by rw[hnt,hct,Zs];first|done|rfl,by rw[hnt,ZAt],by omega⟩,by simp[ZK,Ab.get,D.val,ZF];omega⟩
    ·rw[if_neg (fun e=>h2 (e.trans hoc))]at hct;refine WI.pickA [0,1,2,3] ?_;refine WI.orderA [2,3,6,7,8,9] ?_;refine rg tT [2,3,6,7,8,9] ?_;exact⟨⟨i+1,by rw[hnt,hct,Zs];first|done|rfl,by rw[hnt,ZAt],by omega⟩,by simp[ZK,Ab.get,D.val,ZF];omega⟩
   ·obtain rfl:i=l.length:=by omega
    rw[List.take_length];have hHl:(KH l).length≤1000000:=by unfold KH;rw[List.length_map];omega
    generalize KH l=H at hres hHl⊢;generalize ZAU l=cs at hres hcl hcv⊢;refine rg tT [2,6,7,8,54] ?_;refine cd (fun h3=> ?_) (fun h3=> ?_)
    ·rw[if_pos (by simpa using h3)]at hres;refine rg tT [4] ?_;refine lf ?_;rw[hres]
    ·rw[if_neg (by simpa using h3)]at hres;refine rg tT [2,6,7,8,10] ?_;refine WI.orderA [2,6,7,8,10] ?_;refine WI.loop (fun φ os=> ∃(i:Nat),φ= [(2,.ptr 0 0),(6,.ref 2 H.length 0 H.length),(7,.x (.sl (rows ZJ cs))),(8,.ref 3 (QB (YH C) (cs.take i)).length 0 (QB (YH C) (cs.take i)).length),(10,.x (.int .i64 i))]∧os= [.box [.x (.sl (rows Zw T)),.x (.sl (rows YW C))],.box [.x (.str dn),.x (.sl (rows YP l))],.rows false 9 1 (rows ZJ H),.rows false 9 1 (rows ZJ (QB (YH C) (cs.take i)))]∧i≤cs.length∧(cs.take i).all (ZAV (YH C) H)=true) (ZK cs.length 10) ?_ (fun φ os hI=> ?_)
     ·exact⟨0,rfl,rfl,by omega,rfl⟩
     ·obtain⟨i,rfl,rfl,hi,hall⟩:=hI;refine nz ?_;refine rg tT [2,6,7,8,10,58] ?_;refine cd (fun h4=> ?_) (fun h4=> ?_)
      ·have hi4:i<cs.length:=by omega
       have hrw:=JF cs i hi4;have hmt:=ZLj (YH C) cs i hi4;have hgi:cs[i]=cs.getD i []:=by simp[hi4]
       have hnl:(cs.getD i []).length≤1000000:=by rw[←hgi];exact hcv _ (List.getElem_mem hi4)
       have hal:=YJ (ZAV (YH C) H) cs i hi4;have hno:ZAV (YH C) H (cs.getD i [])=false→cs.all (ZAV (YH C) H)=false:=fun h=>Ze (ZAV (YH C) H) cs i hi4 (by rw[hgi];exact h)
       rw[hgi]at hal;have hYl:=ZKs hC (cs.take i);rw[List.length_take]at hYl;have hYm:(QB (YH C) (cs.take i)).length≤100000000000:=Nat.le_trans hYl (Nat.le_trans (Nat.mul_le_mul_right _ (show min i cs.length≤1000000 by omega)) (by omega));generalize QB (YH C) (cs.take i)=Y at hmt hYm⊢;generalize cs.getD i []=n at hrw hmt hnl hal hno;have hb:=ZTw hC (ZD n);have hcd:ZAV (YH C) H n=((ZR (YH C) (ZD n)).isSome&&(clV (YH C) (ZD n)).2.1.all fun x=>decide (x∈H)):=rfl;obtain⟨c,hc⟩: ∃c,c=clV (YH C) (ZD n):=⟨_,rfl⟩;rw[←hc]at hmt hb hcd;have hd1:decide (ZD8 C∧n.length≤1000000)=true:=ZM ⟨hC,hnl⟩;have uu:=ZA uu (ZA hrw (ZA hc.symm (ZA (@clD.eq_1) hd1)));refine WI.dregB tT [2,6,7,8,10,11,12] ?_;refine YG ?_
       iterate 2 refine Zn ?_
       iterate 2 refine YG ?_
       refine Qi ?_;refine Zn ?_
       iterate 2 refine Ye ?_
       refine dKG ?_;refine dAG ?_;refine Zn ?_;refine dN ?_;refine nz ?_;refine rg tT [2,6,7,8,10,11,71] ?_;refine cd (fun h5=> ?_) (fun h5=> ?_)
       ·have hb5:ZAV (YH C) H n=false:=by rw[hcd];clear uu;grind
        rw[hno hb5,if_neg (by simp)]at hres;refine rg tT [4] ?_;refine lf ?_;rw[hres]
       ·have hso:(ZR (YH C) (ZD n)).isSome=true:=by clear uu;grind
        rw[hso,Bool.true_and]at hcd;refine rg tT [2,6,7,8,10,11,13] ?_;refine WI.orderA [2,6,7,8,10,11,13] ?_;refine WI.loop (fun φ os=> ∃(k:Nat),φ= [(2,.ptr 0 0),(6,.ref 2 H.length 0 H.length),(7,.x (.sl (rows ZJ cs))),(8,.ref 3 Y.length 0 Y.length),(10,.x (.int .i64 i)),(11,.ptr 4 0),(13,.x (.int .i64 k))]∧os= [.box [.x (.sl (rows Zw T)),.x (.sl (rows YW C))],.box [.x (.str dn),.x (.sl (rows YP l))],.rows false 9 1 (rows ZJ H),.rows false 9 1 (rows ZJ Y),.box [.x (.str c.1),.x (.sl (rows ZJ c.2.1)),.x (.sl (rows ZJ c.2.2.1))]]∧k≤c.2.1.length∧(c.2.1.take k).all (fun x=>decide (x∈H))=true) (ZK c.2.1.length 13) ?_ (fun φ os hI=> ?_)
        ·exact⟨0,rfl,rfl,by omega,rfl⟩
        ·obtain⟨k,rfl,rfl,hk,hka⟩:=hI;refine nz ?_;refine rg tT [2,6,7,8,10,11,13,76] ?_;refine cd (fun h6=> ?_) (fun h6=> ?_)
         ·have hk4:k<c.2.1.length:=by omega
          have hrk:=JF c.2.1 k hk4;have hgk:c.2.1[k]=c.2.1.getD k []:=by simp[hk4]
          have hak:=YJ (fun x=>decide (x∈H)) c.2.1 k hk4;have hnk:c.2.1.getD k []∉H→c.2.1.all (fun x=>decide (x∈H))=false:=fun h=>Ze (fun x=>decide (x∈H)) c.2.1 k hk4 (by rw[hgk];exact decide_eq_false h)
          rw[hgk]at hak;generalize c.2.1.getD k []=x at hrk hak hnk;have hd2:decide (H.length≤4000000000000)=true:=ZM (by omega);have hrt:(rows ZJ H).take H.length=rows ZJ H:=YN (by rw[YR];exact Nat.le_refl _);have uu:=ZA uu (ZA hrk (ZA hd2 hrt));refine rg tT [2,6,7,8,10,11,13,86] ?_;refine cd (fun h7=> ?_) (fun h7=> ?_)
          ·have hxn:x∉H:=by clear uu;grind
           rw[hno (by rw[hcd];exact hnk hxn),if_neg (by simp)]at hres;refine rg tT [4] ?_;refine lf ?_;rw[hres]
          ·have hxi:x∈H:=by clear uu;grind
           have hka2:(c.2.1.take (k+1)).all (fun x=>decide (x∈H))=true:=by rw[hak,hka,ZM hxi];rfl
           refine rg tT [2,6,7,8,10,11,13] ?_;exact⟨⟨k+1,rfl,rfl,by omega,hka2⟩,by simp[ZK,Ab.get,D.val,ZF];omega⟩
         ·obtain rfl:k=c.2.1.length:=by omega
          rw[List.take_length]at hka;rw[hka]at hcd;have hall2:(cs.take (i+1)).all (ZAV (YH C) H)=true:=by rw[hal,hall,hcd];rfl
          refine rg tT [2,6,7,8,10,11] ?_;refine rg tT [2,6,7,8,10] ?_;refine WI.pickA [0,1,2,3] ?_;refine WI.orderA [2,6,7,8,10] ?_;refine rg tT [2,6,7,8,10] ?_;exact⟨⟨i+1,by rw[hmt,Zs,Zs,Nat.add_assoc];first|done|rfl,by rw[hmt];simp[rows,List.append_assoc],by omega,hall2⟩,by simp[ZK,Ab.get,D.val,ZF];omega⟩
      ·obtain rfl:i=cs.length:=by omega
       rw[List.take_length]at hall⊢;rw[hall,if_pos rfl]at hres;have hYl:=ZKs hC cs;have hYm:(QB (YH C) cs).length≤100000000000:=Nat.le_trans hYl (Nat.le_trans (Nat.mul_le_mul_right _ hcl) (by omega));generalize hYY:QB (YH C) cs=Y at hYm⊢;refine WI.orderA [6,8] ?_;refine rg tT [6,8,14] ?_;refine WI.orderA [6,8,14] ?_;refine WI.loop (fun φ os=> ∃(i:Nat),φ= [(6,.ref 2 H.length 0 H.length),(8,.ref 3 Y.length 0 Y.length),(14,.x (.int .i64 i))]∧os= [.box [.x (.sl (rows Zw T)),.x (.sl (rows YW C))],.box [.x (.str dn),.x (.sl (rows YP l))],.rows false 9 1 (rows ZJ H),.rows false 9 1 (rows ZJ Y)]∧i≤H.length∧(H.take i).all (ocF (YH C) cs)=true) (ZK H.length 14) ?_ (fun φ os hI=> ?_)
       ·exact⟨0,rfl,rfl,by omega,rfl⟩
       ·obtain⟨i,rfl,rfl,hi,hall⟩:=hI;refine nz ?_;refine rg tT [6,8,14,98] ?_;refine cd (fun h8=> ?_) (fun h8=> ?_)
        ·have hi4:i<H.length:=by omega
         have hrw:=JF H i hi4;have hgi:H[i]=H.getD i []:=by simp[hi4]
         have hal:=YJ (ocF (YH C) cs) H i hi4;have hno:ocF (YH C) cs (H.getD i [])=false→H.all (ocF (YH C) cs)=false:=fun h=>Ze (ocF (YH C) cs) H i hi4 (by rw[hgi];exact h)
         rw[hgi]at hal;generalize H.getD i []=x at hrw hal hno;have hof:ocF (YH C) cs x=(decide (x= [111,98,106,101,99,116,99,108,97,115,115])||decide (x∈Y)):=by rw[←hYY,←hoc];rfl
         have hd2:decide (Y.length≤4000000000000)=true:=ZM (by omega);have hrt:(rows ZJ Y).take Y.length=rows ZJ Y:=YN (by rw[YR];exact Nat.le_refl _);have uu:=ZA uu (ZA hrw (ZA hd2 hrt));by_cases hxo:x= [111,98,106,101,99,116,99,108,97,115,115]
         ·have hg:(x== [111,98,106,101,99,116,99,108,97,115,115])=true:=by rw[hxo];exact beq_self_eq_true _
          have uu:=ZA uu hg;refine rg tT [6,8,14,114] ?_;refine ce (fun h9=> ?_) (fun h9=> ?_)
          ·simp at h9
          ·have hall2:(H.take (i+1)).all (ocF (YH C) cs)=true:=by rw[hal,hall,hof,ZM hxo];rfl
           refine rg tT [6,8,14] ?_;exact⟨⟨i+1,rfl,rfl,by omega,hall2⟩,by simp[ZK,Ab.get,D.val,ZF];omega⟩
         ·have hg:(x== [111,98,106,101,99,116,99,108,97,115,115])=false:=by rw[beq_eq_false_iff_ne];exact hxo
          have uu:=ZA uu hg;refine rg tT [6,8,14,114] ?_;refine cd (fun h9=> ?_) (fun h9=> ?_)
          ·have hxn:x∉Y:=by clear uu;grind
           rw[hno (by rw[hof,decide_eq_false hxo,decide_eq_false hxn];rfl),if_neg (by simp)]at hres;refine rg tT [4] ?_;refine lf ?_;rw[hres]
          ·have hxi:x∈Y:=by clear uu;grind
           have hall2:(H.take (i+1)).all (ocF (YH C) cs)=true:=by rw[hal,hall,hof,ZM hxi,Bool.or_true];rfl
           refine rg tT [6,8,14] ?_;exact⟨⟨i+1,rfl,rfl,by omega,hall2⟩,by simp[ZK,Ab.get,D.val,ZF];omega⟩
        ·refine rg tT [4] ?_;refine lf ?_;rw[YN (by omega)]at hall;rw[hall,if_pos rfl]at hres;rw[hres]
end Go.Proofs.YtpjfdjcejamebaaGreatDoor
end
