import Derived.Test.YtpjfdjcejamebaaGreatDoorMA3
import Derived.Test.YtpjfdjcejamebaaGreatDoorLA5
import Derived.Test.YtpjfdjcejamebaaGreatDoorIc
set_option linter.unusedSimpArgs false
set_option linter.unusedVariables false
section
namespace Go.Proofs.YtpjfdjcejamebaaGreatDoor
open Go.RowKit Go.Bo Go.Ab
theorem ZD.nn1 {P:Program} {f:FuncId} {args ds:List D} (h:ZD P f args (.agg ds)):ZD P f args (.agg (ds.map D.nn1)):=by
 intro w st vs hst hvl;refine(h w st vs hst hvl).mono ?_;rintro e w' ⟨v,st',h1,h2,h3,h4,h5⟩;refine⟨v,st',h1,h2,h3,h4,?_⟩;cases h5 with
 |agg us hl h6 hv=>
 refine .agg us (by simpa using hl) h6 (fun j d u hd hu=> ?_);rw[YA]at hd;obtain⟨d0,hd0,rfl⟩:=Zh hd;exact(hv j d0 u hd0 hu).nn1
def ZC5 (a:Zt):Bool:=decide (a.1.length≤80)&&(decide (a.2.1.length≤8)&&a.2.1.all fun v=>decide (v.length≤300))
def ZI7 (e:Kl):Bool:=decide (e.1.length≤300)&&(decide (e.2.1.length≤12)&&e.2.1.all ZC5)
theorem Ze3 (e:Kl):ZD Tryz.prog 8 [ZAM e] (.x (.bool (ZI7 e))):=by
 obtain⟨dn,l,u⟩:=e;rcases hres:ZI7 (dn,l,u)with b
 unfold ZI7 at hres;simp only at hres;unfold ZAM;refine ZN.pure (ZO (fz:=true) ZH (p:=i8) rfl _ (ξ rfl) _ (fun C0 E0=> ?_)) rfl;dsimp only[i8,qt,qi,qs,qb,qm,qa,qh,qj,qT,qF,qe,ql,qL,qf,q2,q3,q8,qz,qp,qP,qc,qk,qx,qy,qo,qr,qC,ZQ];have uu:=trivial;have tT:=(ZG:SsOk Tryz.prog ZW);refine nz ?_;refine rg tT [1] ?_;refine rg tT [1,14] ?_;refine cd (fun h0=> ?_) (fun h0=> ?_)
 ·have hb:(decide (dn.length≤300)&&(decide (l.length≤12)&&l.all ZC5))=false:=by clear uu hres;generalize l.all ZC5=q;grind
  rw[hb]at hres;refine rg tT [2] ?_;refine lf ?_;rw[hres]
 ·have hdl:dn.length≤300∧l.length≤12:=by clear uu hres;grind
  rw[ZM hdl.1,ZM hdl.2,Bool.true_and,Bool.true_and]at hres;refine rg tT [1,3] ?_;refine WI.loop (fun φ os=> ∃(i:Nat),φ= [(1,.ptr 0 0),(3,.x (.int .i64 i))]∧os= [.box [.x (.str dn),.x (.sl (rows YR l))]]∧i≤l.length∧(l.take i).all ZC5=true) (ZK l.length 3) ?_ (fun φ os hI=> ?_)
  ·exact⟨0,rfl,rfl,by omega,rfl⟩
  ·obtain⟨i,rfl,rfl,hi,hall⟩:=hI;refine nz ?_;refine rg tT [1,3,19] ?_;refine cd (fun h1=> ?_) (fun h1=> ?_)
   ·have hi4:i<l.length:=by omega
    have hrw:=ZBD l i hi4;have hga:l[i]=l.getD i ([],[],()):=by simp[hi4]
    have hal:=Zx ZC5 l i hi4;have hno:ZC5 (l.getD i ([],[],()))=false→l.all ZC5=false:=fun h=>ZZ ZC5 l i hi4 (by rw[hga];exact h)
    rw[hga]at hal;generalize l.getD i ([],[],())=a at hrw hal hno;have hfa:ZC5 a=(decide (a.1.length≤80)&&(decide (a.2.1.length≤8)&&a.2.1.all fun v=>decide (v.length≤300))):=rfl;have uu:=ZA uu hrw;refine rg tT [1,3,39] ?_;refine cd (fun h2=> ?_) (fun h2=> ?_)
    ·have hb:ZC5 a=false:=by rw[hfa];clear uu hfa;generalize(a.2.1.all fun v=>decide (v.length≤300))=q;grind
     rw[hno hb]at hres;refine rg tT [2] ?_;refine lf ?_;rw[hres]
    ·have hdl2:a.1.length≤80∧a.2.1.length≤8:=by clear uu hfa;grind
     rw[ZM hdl2.1,ZM hdl2.2,Bool.true_and,Bool.true_and]at hfa;refine rg tT [1,3,4] ?_;refine WI.loop (fun φ os=> ∃(k:Nat),φ= [(1,.ptr 0 0),(3,.x (.int .i64 i)),(4,.x (.int .i64 k))]∧os= [.box [.x (.str dn),.x (.sl (rows YR l))]]∧k≤a.2.1.length∧(a.2.1.take k).all (fun v=>decide (v.length≤300))=true) (ZK a.2.1.length 4) ?_ (fun φ os hI=> ?_)
     ·exact⟨0,rfl,rfl,by omega,rfl⟩
     ·obtain⟨k,rfl,rfl,hk,hka⟩:=hI;refine nz ?_;refine rg tT [1,3,4,48] ?_;refine cd (fun h3=> ?_) (fun h3=> ?_)
      ·have hk4:k<a.2.1.length:=by omega
       have hrk:=Yg a.2.1 k hk4;have hgk:a.2.1[k]=a.2.1.getD k []:=by simp[hk4]
       have hak:=Zx (fun v:Tx=>decide (v.length≤300)) a.2.1 k hk4;have hnk: ¬(a.2.1.getD k []).length≤300→a.2.1.all (fun v=>decide (v.length≤300))=false:=fun h=>ZZ (fun v:Tx=>decide (v.length≤300)) a.2.1 k hk4 (by rw[hgk];exact decide_eq_false h)
       rw[hgk]at hak;generalize a.2.1.getD k []=y at hrk hak hnk;have uu:=ZA uu hrk;refine rg tT [1,3,4,61] ?_;refine cd (fun h4=> ?_) (fun h4=> ?_)
       ·have hy: ¬y.length≤300:=by clear uu;grind
        rw[hno (by rw[hfa];exact hnk hy)]at hres;refine rg tT [2] ?_;refine lf ?_;rw[hres]
       ·have hy:y.length≤300:=by clear uu;grind
        have hka2:(a.2.1.take (k+1)).all (fun v=>decide (v.length≤300))=true:=by rw[hak,hka,ZM hy];rfl
        refine rg tT [1,3,4] ?_;exact⟨⟨k+1,rfl,rfl,by omega,hka2⟩,by simp[ZK,Ab.get,D.val,ZE];omega⟩
      ·obtain rfl:k=a.2.1.length:=by omega
       rw[List.take_length]at hka;have hall2:(l.take (i+1)).all ZC5=true:=by rw[hal,hall,hfa,hka];rfl
       refine rg tT [1,3] ?_;exact⟨⟨i+1,rfl,rfl,by omega,hall2⟩,by simp[ZK,Ab.get,D.val,ZE];omega⟩
   ·refine rg tT [2] ?_;refine lf ?_;rw[YL (by omega)]at hall;rw[←hres,hall]
theorem ZXA {α:Type} {a b:List α} {i:Nat} (h:a.take i=b.take i) (ha:i<a.length) (hb:i<b.length) (he:a[i]=b[i]):a.take (i+1)=b.take (i+1):=by
 rw[List.take_add_one,List.take_add_one,h];simp[YC ha,YC hb,he]
theorem ZbL (a b:List (List UInt8)):ZD Tryz.prog 16 [.x (.sl (rows ZI a)),.x (.sl (rows ZI b))] (.x (.bool (decide (a=b)))):=by
 refine ZD.wf (fun hw=> ?_);have ha:a.length≤maxLen:=by have:=(hw _ (List.mem_cons_self)).1;rwa [YE]at this
 have hb:b.length≤maxLen:=by have:=(hw _ (List.mem_cons_of_mem _ List.mem_cons_self)).1;rwa [YE]at this
 clear hw;simp only[maxLen]at ha hb;refine ZN.pure (ZO (fz:=true) ZH (p:=i16) rfl _ (ξ rfl) _ (fun c E0=> ?_)) rfl;dsimp only[i16,qt,qi,qs,qb,qm,qa,qh,qj,qT,qF,qe,ql,qL,qf,q2,q3,q8,qz,qp,qP,qc,qk,qx,qy,qo,qr,qC,ZQ];have uu:=trivial;have tT:=(ZG:SsOk Tryz.prog ZW);refine nz ?_;refine rg tT [0,1] ?_;refine rg tT [0,1,10] ?_;refine cd (fun h0=> ?_) (fun h0=> ?_)
 ·refine rg tT [4] ?_;refine lf ?_;rw[decide_eq_false (fun e=>h0 (by rw[e]))]
 ·refine rg tT [0,1,5] ?_;refine WI.loop (fun φ os=> ∃i:Nat,φ= [(0,.x (.sl (rows ZI a))),(1,.x (.sl (rows ZI b))),(5,.x (.int .i64 i))]∧os= []∧i≤a.length∧a.take i=b.take i) (ZK a.length 5) ?_ (fun φ os hI=> ?_)
  ·exact⟨0,rfl,rfl,by omega,by simp⟩
  ·obtain⟨i,rfl,rfl,hi,he⟩:=hI;refine nz ?_;refine rg tT [0,1,5,14] ?_;refine cd (fun h1=> ?_) (fun h1=> ?_)
   ·refine WI.dregB tT [0,1,5,25] ?_
    iterate 2 refine Zo ?_
    iterate 2 refine YK ?_
    iterate 2 refine Zo ?_
    iterate 2 refine YK ?_
    refine Ym ?_;refine dN ?_;refine nz ?_;refine cd (fun h2=> ?_) (fun h2=> ?_)
    ·refine rg tT [4] ?_;refine lf ?_;rw[decide_eq_false (fun e=>h2 (by subst e;rfl))]
    ·refine rg tT [0,1,5] ?_;exact⟨⟨i+1,by simp,rfl,by omega,ZXA he (by omega) (by omega) h2⟩,by simp[ZK,Ab.get,D.val,ZE];omega⟩
   ·refine rg tT [4] ?_;refine lf ?_;rw[ZM];rw[YL (by omega),YL (by omega)]at he;exact he
def ZFu:List D→Option (Bool×D)
 | [.x (.sl A),.x (.sl B)]=>(Zd ZI A).bind fun a=>(Zd ZI B).map fun b=>(true,.x (.bool (decide (a=b))))
 |_=>none
theorem ZV6: ∀args r,ZFu args=some (true,r)→ZD Tryz.prog 16 args r:=by
 intro args r h;unfold ZFu at h;split at h
 ·simp only[Yh,Kh]at h;obtain⟨a,h1,b,h2,h3⟩:=h;cases h3;rw[←ZR ZT h1,←ZR ZT h2];exact ZbL a b
 ·cases h
def ZB5:List D→List Ob→Option (Bool×D)
 | [.ptr 0 0,.agg [.x (.str dn),.x (.sl R)]],[.box [.mref 1,.mref 2],.mpo .str true P1,.mpo .str true P2]=>(KY ZI Zn P1).bind fun L=>(KY ZI Zu P2).bind fun M=>(Zd YR R).bind fun l=>some (decide (ZJO M l),.x (.int .i64 (ZFE L M l)))
 |_,_=>none
theorem ZTw: ∀args os r,ZB5 args os=some (true,r)→r.clean=true∧ ∃X,ZV Tryz.prog 17 args os r (os++X):=by
 intro args os r h;unfold ZB5 at h;split at h
 ·rename_i dn R P1 P2;obtain⟨L,hm0,h⟩:=Zp h;obtain⟨M,hm1,h⟩:=Zp h;obtain⟨l,hr0,h⟩:=Zp h;simp only[Zg,Ze,ZY,Zi,true_and]at h;obtain⟨h1,rfl⟩:=h;rw[Yl ZT YG hm0];rw[Yl ZT YM hm1];rw[←ZR JK hr0];exact⟨rfl,[],by rw[List.append_nil];exact ZRN L M (dn,l,()) h1.2.1 h1.2.2 (ZWa h1.1)⟩
 ·cases h
def ZB8:List D→List Ob→Option (Bool×D)
 | [.ptr 0 0],[.box [.mref 1,.mref 2],.mpo .str true P1,.mpo .str true P2]=>(KY ZI Zn P1).bind fun L=>(KY ZI Zu P2).bind fun M=>some (decide (ZLH L),.x (.sl (rows ZI (ZA8 (L.map (·.1))))))
 |_,_=>none
theorem ZR5: ∀args os r,ZB8 args os=some (true,r)→r.clean=true∧ ∃X,ZV Tryz.prog 19 args os r (os++X):=by
 intro args os r h;unfold ZB8 at h;split at h
 ·rename_i P1 P2;obtain⟨L,hm0,h⟩:=Zp h;obtain⟨M,hm1,h⟩:=Zp h;simp only[Zg,Ze,ZY,Zi,true_and]at h;obtain⟨h1,rfl⟩:=h;rw[Yl ZT YG hm0];rw[Yl ZT YM hm1];exact⟨rfl,[],by rw[List.append_nil];exact ZRh L M h1.1 h1.2⟩
 ·cases h
def ZLZ:List D→Option (Bool×D)
 | [.agg [.x (.str dn),.x (.sl R)]]=>(Zd YR R).bind fun l=>some (true,.x (.bool (ZI7 (dn,l,()))))
 |_=>none
theorem Zbc: ∀args r,ZLZ args=some (true,r)→ZD Tryz.prog 8 args r:=by
 intro args r h;unfold ZLZ at h;split at h
 ·rename_i dn R;obtain⟨l,hr0,h⟩:=Zp h;simp only[Zg,Ze,ZY,Zi,true_and]at h;obtain rfl:=h;rw[←ZR JK hr0];exact(Ze3 (dn,l,()))
 ·cases h
def ZDV:List D→Option (Bool×D)
 | [.agg [.x (.sl R),.x (.sl R2)],.agg [.x (.str dn),.x (.sl R3)]]=>(Zd Zn R).bind fun T=>(Zd Zu R2).bind fun C=>(Zd YR R3).bind fun l=>some (decide (Jk T∧(ZE1 C∧smE l)),.x (.int .i64 (ZLW (Zs T) (YJ C) l)))
 |_=>none
theorem ZTU: ∀args r,ZDV args=some (true,r)→ZD Tryz.prog 18 args r:=by
 intro args r h;unfold ZDV at h;split at h
 ·rename_i R R2 dn R3;obtain⟨T,hr0,h⟩:=Zp h;obtain⟨C,hr1,h⟩:=Zp h;obtain⟨l,hr2,h⟩:=Zp h;simp only[Zg,Ze,ZY,Zi,true_and]at h;obtain⟨h1,rfl⟩:=h;rw[←ZR YG hr0];rw[←ZR YM hr1];rw[←ZR JK hr2];exact(ZYj T C (dn,l,()) h1.1 h1.2.1 h1.2.2)
 ·cases h
theorem Zde {e:Kl} (h:ZI7 e=true):smE e.2.1:=by
 simp only[ZI7,ZC5,ZY,Zi,List.all_eq_true]at h;refine⟨⟨by omega,fun a ha=> ?_⟩,fun a ha v hv=> ?_⟩
 ·have:=h.2.2 a ha;omega
 ·have:=(h.2.2 a ha).2.2 v hv;omega
def ZKL:Tabs:=Za (Za (ZW) 115 Kb) 32 Yw
theorem ZO3:SsOk Tryz.prog ZKL:=ZL (ZL (ZG) (ZC ZH (p:=ZLP) rfl) ZH0) (ZC ZH (p:=i32) rfl) ZE5
theorem ZKY (a:List D):ZKL.q 115 a=Kb a:=rfl
theorem ZMD (a:List D):ZKL.q 32 a=Yw a:=rfl
theorem ZQd (f:FuncId) (a:List D) (o:List Ob):ZKL.r f a o=none:=rfl
theorem ZRO (f:FuncId) (a:List D) (o:List Ob):ZKL.k f a o=none:=rfl
theorem Zdw (l:List Tx) (hl:smN l):ZD Tryz.prog 83 [.x (.sl (rows ZI l))] (.x (.int .i64 (if l.all YO=true then 0 else 13))):=by
 have hll:=hl.1;refine ZN.pure (ZO (fz:=true) ZH (p:=i83) rfl _ (ξ rfl) _ (fun C0 E0=> ?_)) rfl;dsimp only[i83,qt,qi,qs,qb,qm,qa,qh,qj,qT,qF,qe,ql,qL,qf,q2,q3,q8,qz,qp,qP,qc,qk,qx,qy,qo,qr,qC,ZQ];have uu:=ZA @Kb.eq_1 (ZA @Kb.eq_2 (ZA @ZQd (ZA @ZRO (ZA @ZKY (ZA @ZMD (ZA @Yw.eq_1 (@Yw.eq_2)))))));have tT:=ZO3;refine nz ?_;refine rg tT [0] ?_;refine rg tT [0,3] ?_;refine WI.loop (fun φ os=> ∃(j:Nat),φ= [(0,.x (.sl (rows ZI l))),(3,.x (.int .i64 j))]∧os= []∧j≤l.length∧(l.take j).all YO=true) (ZK l.length 3) ?_ (fun φ os hI=> ?_)
 ·exact⟨0,rfl,rfl,by omega,rfl⟩
 ·obtain⟨j,rfl,rfl,hj,hall⟩:=hI;refine nz ?_;refine rg tT [0,3,7] ?_;refine cd (fun h0=> ?_) (fun h0=> ?_)
  ·have hj4:j<l.length:=by omega
   have hrw:=Yg l j hj4;have hg:l[j]=l.getD j []:=by simp[hj4]
   have hal:=Zx YO l j hj4;have hno:YO (l.getD j [])=false→l.all YO=false:=fun h=>ZZ YO l j hj4 (by rw[hg];exact h)
   have hxl:=hl.2 l[j] (List.getElem_mem hj4);rw[hg]at hal hxl;generalize l.getD j []=x at hrw hal hno hxl;have uu:=ZA uu hrw;refine rg tT [0,3,15] ?_;refine cd (fun h1=> ?_) (fun h1=> ?_)
   ·have hx:YO x=false:=by clear uu;grind
    rw[hno hx];refine rg tT [2] ?_;refine lf ?_
    first|rfl|exact⟨rfl,rfl⟩|trivial
   ·have hx:YO x=true:=by clear uu;grind
    have hall2:(l.take (j+1)).all YO=true:=by rw[hal,hall,hx];rfl
    refine rg tT [0,3] ?_;exact⟨⟨j+1,rfl,rfl,by omega,hall2⟩,by simp[ZK,Ab.get,D.val,ZE];omega⟩
  ·refine rg tT [2] ?_;refine lf ?_;rw[YL (by omega)]at hall;rw[hall];rfl
theorem ZYw {l:List Tx} {j k:Nat} (hj:j<l.length) (hk:k<j) (h:ZB (l.getD j [])=ZB (l.getD k [])): ¬(l.map ZB).Nodup:=by
 intro hn;have h1:=ZJD ZB l [] j hj hn;refine h1 (List.mem_map.2 ⟨l.getD k [],?_,h.symm⟩);rw[show l.getD k []=l[k] by simp[show k<l.length by omega]];exact List.mem_take_iff_getElem.2 ⟨k,by omega,rfl⟩
theorem ZVF {l:List Tx} {j:Nat} (hj:j<l.length) (h:((l.take j).map ZB).Nodup) (hn:ZB (l.getD j [])∉(l.take j).map ZB):((l.take (j+1)).map ZB).Nodup:=by
 rw[List.take_succ_eq_append_getElem hj,List.map_append,List.nodup_append];refine⟨h,by simp,fun a ha b hb=> ?_⟩;simp only[List.map_cons,List.map_nil,List.mem_singleton]at hb;subst hb;intro e;subst e;exact hn (by rw[show l.getD j []=l[j] by simp[hj]];exact ha)
theorem ZXs {l:List Tx} {x:Tx} {k:Nat} (hk:k<l.length) (h:x∉(l.take k).map ZB) (hne: ¬x=ZB (l.getD k [])):x∉(l.take (k+1)).map ZB:=by
 rw[List.take_succ_eq_append_getElem hk,List.map_append];intro hin;rcases List.mem_append.1 hin with h1|h1
 ·exact h h1
 ·refine hne ?_;simp[hk]at h1⊢;exact h1
theorem ZYB (l:List Tx) (hl:smN l):ZD Tryz.prog 84 [.x (.sl (rows ZI l))] (.x (.bool (!decide ((l.map ZB).Nodup)))):=by
 have hll:=hl.1;have hln: ∀i,i<l.length→(l.getD i []).length≤1000000:=fun i hi=>by rw[show l.getD i []=l[i] by simp[hi]];exact hl.2 _ (List.getElem_mem hi)
 refine ZN.pure (ZO (fz:=true) ZH (p:=i84) rfl _ (ξ rfl) _ (fun C0 E0=> ?_)) rfl;dsimp only[i84,qt,qi,qs,qb,qm,qa,qh,qj,qT,qF,qe,ql,qL,qf,q2,q3,q8,qz,qp,qP,qc,qk,qx,qy,qo,qr,qC,ZQ];have uu:=ZA @Yw.eq_1 (ZA @Yw.eq_2 (ZA @ZQd (ZA @ZRO (ZA @ZKY (ZA @ZMD (ZA @Kb.eq_1 (@Kb.eq_2)))))));have tT:=ZO3;refine nz ?_;refine rg tT [0] ?_;refine rg tT [0,3] ?_;refine WI.loop (fun φ os=> ∃(j:Nat),φ= [(0,.x (.sl (rows ZI l))),(3,.x (.int .i64 j))]∧os= []∧j≤l.length∧((l.take j).map ZB).Nodup) (ZK l.length 3) ?_ (fun φ os hI=> ?_)
 ·exact⟨0,rfl,rfl,by omega,by simp⟩
 ·obtain⟨j,rfl,rfl,hj,hnd⟩:=hI;refine nz ?_;refine rg tT [0,3,8] ?_;refine cd (fun h0=> ?_) (fun h0=> ?_)
  ·have hj4:j<l.length:=by omega
   have hrw:=Yg l j hj4;have hno:=fun k=>ZYw (k:=k) hj4
   have hys:=ZVF hj4 hnd;have hxl:=hln j hj4;generalize l.getD j []=x at hrw hno hys hxl;have hdx:decide (x.length≤140737488355328)=true:=ZM (by omega);have uu:=ZA uu (ZA hrw hdx);refine rg tT [0,3,4] ?_;refine WI.loop (fun φ os=> ∃(k:Nat),φ= [(0,.x (.sl (rows ZI l))),(3,.x (.int .i64 j)),(4,.x (.int .i64 k))]∧os= []∧k≤j∧ZB x∉(l.take k).map ZB) (ZK j 4) ?_ (fun φ os hI=> ?_)
   ·exact⟨0,rfl,rfl,by omega,by simp⟩
   ·obtain⟨k,rfl,rfl,hk,hni⟩:=hI;refine nz ?_;refine rg tT [0,3,4,13] ?_;refine cd (fun h1=> ?_) (fun h1=> ?_)
    ·have hk4:k<j:=by omega
     have hrk:=Yg l k (by omega);have hno2:=hno k hk4;have hyk:=ZXs (show k<l.length by omega) hni;have hyl:=hln k (by omega);generalize l.getD k []=y at hrk hno2 hyk hyl;have hdy:decide (y.length≤140737488355328)=true:=ZM (by omega);have uu:=ZA uu (ZA hrk hdy);refine WI.dregB tT [0,3,4,26] ?_
     iterate 2 refine Zo ?_
     iterate 2 refine YK ?_
     refine QV ?_
     iterate 2 refine Zo ?_
     iterate 2 refine YK ?_
     refine dAC ?_;refine Ym ?_;refine dN ?_;refine nz ?_;refine cd (fun h2=> ?_) (fun h2=> ?_)
     ·have hx:ZB x=ZB y:=by simpa using h2
      refine rg tT [2] ?_;refine lf ?_;rw[decide_eq_false (hno2 hx)];rfl
     ·have hx: ¬ZB x=ZB y:=by simpa using h2
      have hni2:=hyk hx;refine rg tT [0,3,4] ?_;exact⟨⟨k+1,rfl,rfl,by omega,hni2⟩,by simp[ZK,Ab.get,D.val,ZE];omega⟩
    ·obtain rfl:j=k:=by omega
     have hnd2:=hys hni;refine rg tT [0,3] ?_;exact⟨⟨j+1,rfl,rfl,by omega,hnd2⟩,by simp[ZK,Ab.get,D.val,ZE];omega⟩
  ·refine rg tT [2] ?_;refine lf ?_;rw[YL (by omega)]at hnd;rw[ZM hnd];rfl
def ZEu:List D→Option (Bool×D)
 | [.x (.sl R)]=>(Zd ZI R).bind fun l=>some (decide (smN l),.x (.int .i64 (if l.all YO=true then 0 else 13)))
 |_=>none
theorem ZNN: ∀args r,ZEu args=some (true,r)→ZD Tryz.prog 83 args r:=by
 intro args r h;unfold ZEu at h;split at h
 ·rename_i R;obtain⟨l,hr0,h⟩:=Zp h;simp only[Zg,Ze,ZY,Zi,true_and]at h;obtain⟨h1,rfl⟩:=h;rw[←ZR ZT hr0];exact(Zdw l h1)
 ·cases h
def ZBf:List D→Option (Bool×D)
 | [.x (.sl R)]=>(Zd ZI R).bind fun l=>some (decide (smN l),.x (.bool (!decide ((l.map ZB).Nodup))))
 |_=>none
theorem ZKF: ∀args r,ZBf args=some (true,r)→ZD Tryz.prog 84 args r:=by
 intro args r h;unfold ZBf at h;split at h
 ·rename_i R;obtain⟨l,hr0,h⟩:=Zp h;simp only[Zg,Ze,ZY,Zi,true_and]at h;obtain⟨h1,rfl⟩:=h;rw[←ZR ZT hr0];exact(ZYB l h1)
 ·cases h
def ZGs:Tabs:=JT (Za (JT (Za (ZW) 83 ZEu) 83 (KN ZEu)) 84 ZBf) 84 (KN ZBf)
theorem ZZK:SsOk Tryz.prog ZGs:=Ye (ZL (Ye (ZL (ZG) (ZC ZH (p:=i83) rfl) ZNN) (ZC ZH (p:=i83) rfl) (ZAq ZNN)) (ZC ZH (p:=i84) rfl) ZKF) (ZC ZH (p:=i84) rfl) (ZAq ZKF)
theorem ZTx (a:List D):ZGs.q 83 a=ZEu a:=rfl
theorem ZWh (a:List D) (o:List Ob):ZGs.t 83 a o=YW (KN ZEu) a o:=rfl
theorem ZVP (a:List D):ZGs.q 84 a=ZBf a:=rfl
theorem ZV8 (a:List D) (o:List Ob):ZGs.t 84 a o=YW (KN ZBf) a o:=rfl
theorem Zcu (f:FuncId) (a:List D) (o:List Ob):ZGs.r f a o=none:=rfl
theorem ZcB (f:FuncId) (a:List D) (o:List Ob):ZGs.k f a o=none:=rfl
def ZFD (T:List Zb) (C:List Zk):Int:=if Jm (T.map (·.1)) (ZC2 T)≠0 then Jm (T.map (·.1)) (ZC2 T)else Jm (C.map (·.1)) 0
def ZCz (t:Zb):Bool:=decide (1≤t.2.1∧t.2.1≤5)
theorem Zc0 (T:List Zb) (C:List Zk):ZFD T C=if(T.map (·.1)).all YO=true then(if T.all ZCz=true then(if((T.map (·.1)).map ZB).Nodup then(if(C.map (·.1)).all YO=true then(if((C.map (·.1)).map ZB).Nodup then 0 else 9)else 13)else 9)else 1)else 13:=by
 have e:T.all (fun t=>decide (1≤t.2.1∧t.2.1≤5))=T.all ZCz:=rfl;unfold ZFD Jm ZC2;rw[e];generalize(T.map (·.1)).all YO=a;generalize T.all ZCz=b;generalize(C.map (·.1)).all YO=c;by_cases h1:((T.map (·.1)).map ZB).Nodup<;>by_cases h2:((C.map (·.1)).map ZB).Nodup<;>cases a<;>cases b<;>cases c<;>simp[h1,h2,-List.map_map]
theorem ZT7 (T:List Zb) (C:List Zk) (hT:Jk T) (hC:smC C):ZD Tryz.prog 48 [.x (.sl (rows Zn T)),.x (.sl (rows Zu C))] (.x (.int .i64 (ZFD T C))):=by
 have hTl:=hT.1;have hCl:=hC.1;have hd1:decide (smN (T.map (·.1)))=true:=ZM (by rw[smN,List.length_map];exact⟨hTl,fun x hx=>by obtain⟨t,ht,rfl⟩:=List.mem_map.1 hx;exact hT.2 t ht⟩);have hd2:decide (smN (C.map (·.1)))=true:=ZM (by rw[smN,List.length_map];exact⟨hCl,fun x hx=>by obtain⟨t,ht,rfl⟩:=List.mem_map.1 hx;exact(hC.2 t ht).1⟩);rcases hres:ZFD T C with v
 rw[Zc0]at hres;refine ZN.pure (ZO (fz:=true) ZH (p:=i48) rfl _ (ξ rfl) _ (fun C0 E0=> ?_)) rfl;dsimp only[i48,qt,qi,qs,qb,qm,qa,qh,qj,qT,qF,qe,ql,qL,qf,q2,q3,q8,qz,qp,qP,qc,qk,qx,qy,qo,qr,qC,ZQ];have uu:=ZA @ZEu.eq_1 (ZA @ZEu.eq_2 (ZA @ZBf.eq_1 (ZA @ZBf.eq_2 (ZA @ZGb (ZA hd1 (ZA hd2 (ZA @Zcu (ZA @ZcB (ZA @ZTx (ZA @ZVP (ZA @ZWh (ZA @ZV8 (@KN.eq_1)))))))))))));have tT:=ZZK;refine nz ?_;refine rg tT [0,1] ?_;refine rg tT [0,1,5,6] ?_;refine rg tT [0,1,5,6,7] ?_;refine WI.ownA 5 9 1 ?_;refine WI.loop (fun φ os=> ∃(j:Nat),φ= [(0,.x (.sl (rows Zn T))),(1,.x (.sl (rows Zu C))),(5,.ref 0 ((T.take j).map (·.1)).length 0 ((T.take j).map (·.1)).length),(6,.x .nils),(7,.x (.int .i64 j))]∧os= [.rows false 9 1 (rows ZI ((T.take j).map (·.1)))]∧j≤T.length) (ZK T.length 7) ?_ (fun φ os hI=> ?_)
 ·exact⟨0,rfl,rfl,by omega⟩
 ·obtain⟨j,rfl,rfl,hj⟩:=hI;refine nz ?_;refine rg tT [0,1,5,6,7,15] ?_;refine cd (fun h0=> ?_) (fun h0=> ?_)
  ·have hj4:j<T.length:=by omega
   have hrw:=ZCm T j hj4;have htk:(T.take (j+1)).map (·.1)=(T.take j).map (·.1)++ [(T.getD j ([],0,false,())).1]:=by rw[List.take_succ_eq_append_getElem hj4,List.map_append];simp[hj4]
   have hlen2:((T.take j).map (·.1)).length≤100000:=by rw[List.length_map,List.length_take];omega
   generalize T.getD j ([],0,false,())=x at hrw htk;have uu:=ZA uu hrw;refine rg tT [0,1,5,6,7] ?_;refine WI.pickA [0] ?_;refine rg tT [0,1,5,6,7] ?_;exact⟨⟨j+1,by rw[htk,Zr];rfl,by rw[htk,QN],by omega⟩,by simp[ZK,Ab.get,D.val,ZE];omega⟩
  ·obtain rfl:j=T.length:=by omega
   rw[List.take_length];refine WI.freezeA [0] ?_;refine WI.pickA [] ?_;simp only[List.take_length];refine rg tT [0,1,5,6,8] ?_;refine WI.ownA 6 9 1 ?_;refine WI.loop (fun φ os=> ∃(j:Nat),φ= [(0,.x (.sl (rows Zn T))),(1,.x (.sl (rows Zu C))),(5,.x (.sl (rows ZI (T.map (·.1))))),(6,.ref 0 ((C.take j).map (·.1)).length 0 ((C.take j).map (·.1)).length),(8,.x (.int .i64 j))]∧os= [.rows false 9 1 (rows ZI ((C.take j).map (·.1)))]∧j≤C.length) (ZK C.length 8) ?_ (fun φ os hI=> ?_)
   ·exact⟨0,rfl,rfl,by omega⟩
   ·obtain⟨j,rfl,rfl,hj⟩:=hI;refine nz ?_;refine rg tT [0,1,5,6,8,29] ?_;refine cd (fun h1=> ?_) (fun h1=> ?_)
    ·have hj4:j<C.length:=by omega
     have hrw:=ZFm C j hj4;have htk:(C.take (j+1)).map (·.1)=(C.take j).map (·.1)++ [(C.getD j ([],[],[],())).1]:=by rw[List.take_succ_eq_append_getElem hj4,List.map_append];simp[hj4]
     have hlen2:((C.take j).map (·.1)).length≤100000:=by rw[List.length_map,List.length_take];omega
     generalize C.getD j ([],[],[],())=x at hrw htk;have uu:=ZA uu hrw;refine rg tT [0,1,5,6,8] ?_;refine WI.pickA [0] ?_;refine rg tT [0,1,5,6,8] ?_;exact⟨⟨j+1,by rw[htk,Zr];rfl,by rw[htk,QN],by omega⟩,by simp[ZK,Ab.get,D.val,ZE];omega⟩
    ·obtain rfl:j=C.length:=by omega
     rw[List.take_length];refine WI.freezeA [0] ?_;refine WI.pickA [] ?_;simp only[List.take_length];refine rg tT [0,5,6,9] ?_;refine rg tT [0,5,6,9,43] ?_;refine cd (fun h2=> ?_) (fun h2=> ?_)
     ·have hx:(T.map (·.1)).all YO=false:=by clear uu;grind
      rw[if_neg (by rw[hx];decide)]at hres;refine rg tT [4] ?_;refine lf ?_;rw[←hres];simp[hx]
     ·have hx:(T.map (·.1)).all YO=true:=by clear uu;grind
      rw[if_pos hx]at hres;refine rg tT [0,5,6,10] ?_;refine WI.loop (fun φ os=> ∃(j:Nat),φ= [(0,.x (.sl (rows Zn T))),(5,.x (.sl (rows ZI (T.map (·.1))))),(6,.x (.sl (rows ZI (C.map (·.1))))),(10,.x (.int .i64 j))]∧os= []∧j≤T.length∧(T.take j).all ZCz=true) (ZK T.length 10) ?_ (fun φ os hI=> ?_)
      ·exact⟨0,rfl,rfl,by omega,rfl⟩
      ·obtain⟨j,rfl,rfl,hj,hall⟩:=hI;refine nz ?_;refine rg tT [0,5,6,10,48] ?_;refine cd (fun h3=> ?_) (fun h3=> ?_)
       ·have hj4:j<T.length:=by omega
        have hrw:=ZCm T j hj4;have hg:T[j]=T.getD j ([],0,false,()):=by simp[hj4]
        have hal:=Zx ZCz T j hj4;have hno:ZCz (T.getD j ([],0,false,()))=false→T.all ZCz=false:=fun h=>ZZ ZCz T j hj4 (by rw[hg];exact h)
        rw[hg]at hal;generalize T.getD j ([],0,false,())=x at hrw hal hno;have hrx:ZCz x=decide (1≤x.2.1∧x.2.1≤5):=rfl;have uu:=ZA uu hrw;refine rg tT [0,5,6,10,64] ?_;refine cd (fun h4=> ?_) (fun h4=> ?_)
        ·have hx:ZCz x=false:=by clear uu;grind
         rw[hno hx,if_neg (by decide)]at hres;refine rg tT [4] ?_;refine lf ?_;rw[←hres]
        ·have hx:ZCz x=true:=by clear uu;grind
         have hall2:(T.take (j+1)).all ZCz=true:=by rw[hal,hall,hx];rfl
         refine rg tT [0,5,6,10] ?_;exact⟨⟨j+1,rfl,rfl,by omega,hall2⟩,by simp[ZK,Ab.get,D.val,ZE];omega⟩
       ·rw[YL (by omega)]at hall;rw[if_pos hall]at hres;refine rg tT [6,66] ?_;refine cd (fun h5=> ?_) (fun h5=> ?_)
        ·rw[if_neg (by simpa using h5)]at hres;refine rg tT [4] ?_;refine lf ?_;rw[←hres]
        ·rw[if_pos (by simpa using h5)]at hres;refine rg tT [6,11] ?_;refine rg tT [6,11,70] ?_;refine cd (fun h6=> ?_) (fun h6=> ?_)
         ·have hx:(C.map (·.1)).all YO=false:=by clear uu;grind
          rw[if_neg (by rw[hx];decide)]at hres;refine rg tT [4] ?_;refine lf ?_;rw[←hres];simp[hx]
         ·have hx:(C.map (·.1)).all YO=true:=by clear uu;grind
          rw[if_pos hx]at hres;refine rg tT [73] ?_;refine cd (fun h7=> ?_) (fun h7=> ?_)
          ·rw[if_neg (by simpa using h7)]at hres;refine rg tT [4] ?_;refine lf ?_;rw[←hres]
          ·rw[if_pos (by simpa using h7)]at hres;refine rg tT [4] ?_;refine lf ?_;rw[←hres]
def ZCK:List D→Option (Bool×D)
 | [.x (.sl R),.x (.sl R2)]=>(Zd Zn R).bind fun T=>(Zd Zu R2).bind fun C=>some (decide (Jk T∧smC C),.x (.int .i64 (ZFD T C)))
 |_=>none
theorem ZQF: ∀args r,ZCK args=some (true,r)→ZD Tryz.prog 48 args r:=by
 intro args r h;unfold ZCK at h;split at h
 ·rename_i R R2;obtain⟨T,hr0,h⟩:=Zp h;obtain⟨C,hr1,h⟩:=Zp h;simp only[Zg,Ze,ZY,Zi,true_and]at h;obtain⟨h1,rfl⟩:=h;rw[←ZR YG hr0];rw[←ZR YM hr1];exact(ZT7 T C h1.1 h1.2)
 ·cases h
def ZDd:List D→Option (Bool×D)
 | [.agg [.x (.sl R),.x (.sl R2)],.x (.str n)]=>(Zd Zn R).bind fun T=>(Zd Zu R2).bind fun C=>some (decide (Jk T∧n.length≤140737488355328),.tup [Ka (JH (Zs T) (ZB n)),.x (.bool (ZS (Zs T) (ZB n)).isSome)])
 |_=>none
theorem ZRt: ∀args r,ZDd args=some (true,r)→ZD Tryz.prog 13 args r:=by
 intro args r h;unfold ZDd at h;split at h
 ·rename_i R R2 n;obtain⟨T,hr0,h⟩:=Zp h;obtain⟨C,hr1,h⟩:=Zp h;simp only[Zg,Ze,ZY,Zi,true_and]at h;obtain⟨h1,rfl⟩:=h;rw[←ZR YG hr0];rw[←ZR YM hr1];exact(ZQW T C n h1.1 h1.2)
 ·cases h
def ZJv:Tabs:=Za (Za (ZW) 48 ZCK) 13 ZDd
theorem ZX2:SsOk Tryz.prog ZJv:=ZL (ZL (ZG) (ZC ZH (p:=i48) rfl) ZQF) (ZC ZH (p:=i13) rfl) ZRt
theorem ZWc (a:List D):ZJv.q 48 a=ZCK a:=rfl
theorem ZW3 (a:List D):ZJv.q 13 a=ZDd a:=rfl
theorem Zcq (f:FuncId) (a:List D) (o:List Ob):ZJv.r f a o=none:=rfl
theorem ZcM (f:FuncId) (a:List D) (o:List Ob):ZJv.k f a o=none:=rfl
def isT (T:List Zb) (n:Tx):Bool:=(ZS (Zs T) (ZB n)).isSome
theorem ZRR (T:List Zb) (c:Zk):ZAa T c=(c.2.1++c.2.2.1).all (isT T):=by
 unfold ZAa isT;rw[List.all_append,List.all_append,List.all_map,List.all_map];congr 2<;>(funext n;simp[Function.comp,Zce])
theorem ZeU (T:List Zb) (C:List Zk) (hT:Jk T) (hC:smC C) (r:D) (hz:Yx T C=0→r= .tup [sD T C,.x (.int .i64 0)]) (hnz:Yx T C≠0→r= .tup [.agg [.x (.sl []),.x (.sl [])],.x (.int .i64 (Yx T C))]):ZD Tryz.prog 23 [.x (.sl (rows Zn T)),.x (.sl (rows Zu C))] r:=by
 have hTl:=hT.1;have hCl:=hC.1;have hd1:decide (Jk T∧smC C)=true:=ZM ⟨hT,hC⟩;have hoc:OC= [111,98,106,101,99,116,99,108,97,115,115]:=rfl;have hrc:r.clean=true:=by
  by_cases h:Yx T C=0
  ·rw[hz h];rfl
  ·rw[hnz h];rfl
 refine ZN.pure (ZO (fz:=true) ZH (p:=i23) rfl _ (ξ rfl) _ (fun C0 E0=> ?_)) hrc;dsimp only[i23,qt,qi,qs,qb,qm,qa,qh,qj,qT,qF,qe,ql,qL,qf,q2,q3,q8,qz,qp,qP,qc,qk,qx,qy,qo,qr,qC,ZQ];have uu:=ZA @ZCK.eq_1 (ZA @ZCK.eq_2 (ZA @ZDd.eq_1 (ZA @ZDd.eq_2 (ZA @ZEe (ZA @ZGu (ZA hd1 (ZA @Zcq (ZA @ZcM (ZA @ZW3 (@ZWc))))))))));have tT:=ZX2;refine nz ?_;refine rg tT [0,1,4] ?_;refine rg tT [0,1,4,22] ?_;refine cd (fun h0=> ?_) (fun h0=> ?_)
 ·have hb:1024<T.length∨1024<C.length:=by clear uu;grind
  have hv:Yx T C=3:=by unfold Yx ZBi;rw[if_pos hb];rfl
  rw[hv]at hnz;refine rg tT [4,5] ?_;refine WI.nnA ?_;refine lf ?_;rw[hnz (by decide)]
 ·have hb: ¬(1024<T.length∨1024<C.length):=by clear uu;grind
  have hv:ZBi T C=ZFD T C:=by unfold ZBi ZFD;rw[if_neg hb]
  refine rg tT [0,1,4,6] ?_;refine rg tT [0,1,4,6,28] ?_;refine cd (fun h1=> ?_) (fun h1=> ?_)
  ·have hv1: ¬ZFD T C=0:=by simpa using h1
   have hv2:Yx T C=ZFD T C:=by unfold Yx;rw[hv,if_pos hv1]
   rw[hv2]at hnz;refine rg tT [4,5] ?_;refine WI.nnA ?_;refine lf ?_;rw[hnz hv1]
  ·have hv1:ZFD T C=0:=by simpa using h1
   have hv2:Yx T C=if C.all (ZAa T)=true then(if isT T OC=true then 0 else 8)else 8:=by unfold Yx;rw[hv,if_neg (by simpa using hv1)];rfl
   rw[hv2]at hz hnz;refine rg tT [1,4,7] ?_;refine rg tT [1,4,7,8] ?_;refine WI.nnA ?_;refine WI.orderA [1,4,7,8] ?_;refine WI.loop (fun φ os=> ∃(i:Nat),φ= [(1,.x (.sl (rows Zu C))),(4,.ptr 0 0),(7,.ptr 1 0),(8,.x (.int .i64 i))]∧os= [.box [.x (.sl []),.x (.sl [])],.box [.x (.sl (rows Zn T)),.x (.sl (rows Zu C))]]∧i≤C.length∧(C.take i).all (ZAa T)=true) (ZK C.length 8) ?_ (fun φ os hI=> ?_)
   ·exact⟨0,rfl,rfl,by omega,rfl⟩
   ·obtain⟨i,rfl,rfl,hi,hall⟩:=hI;refine nz ?_;refine rg tT [1,4,7,8,37] ?_;refine cd (fun h2=> ?_) (fun h2=> ?_)
    ·refine rg tT [1,4,7,8,9] ?_;refine WI.ownA 9 9 1 ?_;have hi4:i<C.length:=by omega
     have hrw:=ZFm C i hi4;have hgi:C[i]=C.getD i ([],[],[],()):=by simp[hi4]
     have hal:=Zx (ZAa T) C i hi4;have hno:ZAa T (C.getD i ([],[],[],()))=false→C.all (ZAa T)=false:=fun h=>ZZ (ZAa T) C i hi4 (by rw[hgi];exact h)
     have hxl:=hC.2 C[i] (List.getElem_mem hi4);rw[hgi]at hxl hal;generalize C.getD i ([],[],[],())=x at hrw hxl hal hno;rw[ZRR]at hal hno;obtain⟨hx1,hx2,hx3⟩:=hxl;have uu:=ZA uu hrw;refine rg tT [1,4,7,8,9] ?_;refine rg tT [1,4,7,8,9] ?_;refine WI.freezeA [2] ?_;refine WI.pickA [0,1] ?_;rw[show(x.2.1++x.2.2.1).take (x.2.1.length+x.2.2.1.length)=x.2.1++x.2.2.1 by rw[←Zr,List.take_length]];refine rg tT [1,4,7,8,9,10] ?_;have hln: ∀n∈x.2.1++x.2.2.1,n.length≤140737488355328:=fun n hn=>by
      rcases List.mem_append.1 hn with h|h
      ·exact hx2.2 n h
      ·exact hx3.2 n h
     have hNl:(x.2.1++x.2.2.1).length≤100000:=by rw[Zr];omega
     generalize x.2.1++x.2.2.1=N at hno hal hln hNl⊢;refine WI.loop (fun φ os=> ∃(k:Nat),φ= [(1,.x (.sl (rows Zu C))),(4,.ptr 0 0),(7,.ptr 1 0),(8,.x (.int .i64 i)),(9,.x (.sl (rows ZI N))),(10,.x (.int .i64 k))]∧os= [.box [.x (.sl []),.x (.sl [])],.box [.x (.sl (rows Zn T)),.x (.sl (rows Zu C))]]∧k≤N.length∧(N.take k).all (isT T)=true) (ZK N.length 10) ?_ (fun φ os hI=> ?_)
     ·exact⟨0,rfl,rfl,by omega,rfl⟩
     ·obtain⟨k,rfl,rfl,hk,hka⟩:=hI;refine nz ?_;refine rg tT [1,4,7,8,9,10,57] ?_;refine cd (fun h3=> ?_) (fun h3=> ?_)
      ·have hk4:k<N.length:=by omega
       have hrk:=Yg N k hk4;have hgk:N[k]=N.getD k []:=by simp[hk4]
       have hak:=Zx (isT T) N k hk4;have hnk:isT T (N.getD k [])=false→N.all (isT T)=false:=fun h=>ZZ (isT T) N k hk4 (by rw[hgk];exact h)
       have hnl:=hln N[k] (List.getElem_mem hk4);rw[hgk]at hak hnl;generalize N.getD k []=y at hrk hak hnk hnl;have hdy:decide (Jk T∧y.length≤140737488355328)=true:=ZM ⟨hT,hnl⟩;have hyT:isT T y=(ZS (Zs T) (ZB y)).isSome:=rfl;have uu:=ZA uu (ZA hrk (ZA hdy (@Ka.eq_1)));refine WI.dregB tT [1,4,7,8,9,10,12] ?_;refine YK ?_
       iterate 2 refine Zo ?_
       iterate 2 refine YK ?_
       refine QV ?_;refine Zo ?_
       iterate 2 refine Ym ?_
       refine dKG ?_;refine dAG ?_;refine Zo ?_;refine dN ?_;refine nz ?_;refine rg tT [1,4,7,8,9,10,70] ?_;refine cd (fun h4=> ?_) (fun h4=> ?_)
       ·have hys:isT T y=false:=by rw[hyT];clear uu;grind
        rw[hno (hnk hys)]at hnz;refine rg tT [4,5] ?_;refine WI.nnA ?_;refine lf ?_;rw[hnz (by simp)];simp
       ·have hys:isT T y=true:=by rw[hyT];clear uu;grind
        have hka2:(N.take (k+1)).all (isT T)=true:=by rw[hak,hka,hys];rfl
        refine WI.pickA [0,1] ?_;refine rg tT [1,4,7,8,9,10] ?_;exact⟨⟨k+1,rfl,rfl,by omega,hka2⟩,by simp[ZK,Ab.get,D.val,ZE];omega⟩
      ·obtain rfl:k=N.length:=by omega
       rw[List.take_length]at hka;rw[hka]at hal;have hall2:(C.take (i+1)).all (ZAa T)=true:=by rw[hal,hall];rfl
       refine rg tT [1,4,7,8] ?_;exact⟨⟨i+1,rfl,rfl,by omega,hall2⟩,by simp[ZK,Ab.get,D.val,ZE];omega⟩
    ·obtain rfl:i=C.length:=by omega
     rw[List.take_length]at hall;rw[hall,if_pos rfl]at hz hnz;have hdo:decide (Jk T∧ [111,98,106,101,99,116,99,108,97,115,115].length≤140737488355328)=true:=ZM ⟨hT,by decide⟩;have hyT:isT T OC=(ZS (Zs T) (ZB [111,98,106,101,99,116,99,108,97,115,115])).isSome:=rfl;have uu:=ZA uu (ZA hdo (@Ka.eq_1));refine rg tT [4,7,14] ?_;refine rg tT [4,7,78] ?_;refine cd (fun h5=> ?_) (fun h5=> ?_)
     ·have hys:isT T OC=false:=by rw[hyT];clear uu;grind
      rw[hys]at hnz;refine rg tT [4,5] ?_;refine WI.nnA ?_;refine lf ?_;rw[hnz (by simp)];simp
     ·have hys:isT T OC=true:=by rw[hyT];clear uu;grind
      rw[hys,if_pos rfl]at hz;refine rg tT [4,5] ?_;refine WI.nnA ?_;refine lf ?_;rw[hz rfl];rfl
def ZTa (T:List Zb) (C:List Zk):D:=if Yx T C=0 then .tup [sD T C,.x (.int .i64 0)]else .tup [.agg [.x (.sl []),.x (.sl [])],.x (.int .i64 (Yx T C))]
def ZIZ:List D→Option (Bool×D)
 | [.x (.sl R),.x (.sl R2)]=>(Zd Zn R).bind fun T=>(Zd Zu R2).bind fun C=>some (decide (Jk T∧smC C),ZTa T C)
 |_=>none
theorem ZYS: ∀args r,ZIZ args=some (true,r)→ZD Tryz.prog 23 args r:=by
 intro args r h;unfold ZIZ at h;split at h
 ·rename_i R R2;obtain⟨T,hr0,h⟩:=Zp h;obtain⟨C,hr1,h⟩:=Zp h;simp only[Zg,Ze,ZY,Zi,true_and]at h;obtain⟨h1,rfl⟩:=h;rw[←ZR YG hr0];rw[←ZR YM hr1];exact(ZeU T C h1.1 h1.2 _ (fun h=>if_pos h) (fun h=>if_neg h))
 ·cases h
def Kc (p:Tx):List Tx→List Tx
 | []=> [p]
 |q::o=>if Op.bytesLess q p=true then q::Kc p o else p::q::o
def ZAn (p:Tx):List Tx→Nat
 | []=>0
 |q::o=>if Op.bytesLess q p=true then ZAn p o+1 else 0
theorem ZRk (p:Tx): ∀o,ZAn p o≤o.length
 | []=>by simp[ZAn]
 |q::o=>by have:=ZRk p o;unfold ZAn;split<;>simp;omega
theorem ZRC (p:Tx): ∀o,Kc p o=o.take (ZAn p o)++p::o.drop (ZAn p o)
 | []=>rfl
 |q::o=>by
  unfold Kc ZAn;split
  ·rw[ZRC p o];rfl
  ·rfl
theorem ZQ9 (p:Tx): ∀(o:List Tx) (k:Nat),k≤ZAn p o→ ∀h:k<o.length,Op.bytesLess o[k] p=true→k+1≤ZAn p o
 |q::o,0,_,_,hb=>by unfold ZAn;rw[if_pos (by simpa using hb)];omega
 |q::o,k+1,hk,h,hb=>by
  unfold ZAn at hk⊢;split at hk
  ·rename_i hl;rw[if_pos hl];have:=ZQ9 p o k (by omega) (by simpa using h) (by simpa using hb);omega
  ·omega
theorem ZHc (p:Tx): ∀(o:List Tx) (k:Nat),k≤ZAn p o→(∀h:k<o.length,Op.bytesLess o[k] p=false)→k=ZAn p o
 | [],k,hk,_=>by simp[ZAn]at hk⊢;omega
 |q::o,0,_,h=>by
  unfold ZAn;have:=h (by simp);rw[if_neg (by simpa using this)]
 |q::o,k+1,hk,h=>by
  unfold ZAn at hk⊢;split at hk
  ·rename_i hl;rw[if_pos hl];have:=ZHc p o k (by omega) (fun h2=>h (Nat.succ_lt_succ h2));omega
  ·omega
theorem ZCj (p:Tx): ∀o,(Kc p o).Perm (p::o)
 | []=> .refl _
 |q::o=>by
  unfold Kc;split
  ·exact((ZCj p o).cons q).trans (.swap ..)
  ·exact .refl _
theorem ZLr (p:Tx): ∀o,o.Pairwise (fun a b=>Op.bytesLess b a=false)→(Kc p o).Pairwise (fun a b=>Op.bytesLess b a=false)
 | [],_=>by simp[Kc]
 |q::o,h=>by
  rw[List.pairwise_cons]at h;unfold Kc;split
  ·rename_i hl;refine List.pairwise_cons.2 ⟨fun y hy=> ?_,ZLr p o h.2⟩;rcases List.mem_cons.1 ((ZCj p o).mem_iff.1 hy)with rfl|hy
   ·exact ZLY _ _ hl
   ·exact h.1 y hy
  ·rename_i hl;have hl:Op.bytesLess q p=false:=by simpa using hl
   refine List.pairwise_cons.2 ⟨fun y hy=> ?_,List.pairwise_cons.2 h⟩;rcases List.mem_cons.1 hy with rfl|hy
   ·exact hl
   ·exact ZMY _ _ _ (h.1 y hy) hl
def ZJL (l:List Tx):List Tx:=l.foldl (fun o n=>Kc n o) []
theorem ZVw (l:List Tx) (x:Tx):ZJL (l++ [x])=Kc x (ZJL l):=by unfold ZJL;rw[List.foldl_append];rfl
theorem ZMA: ∀l o:List Tx,o.Pairwise (fun a b=>Op.bytesLess b a=false)→(l.foldl (fun o n=>Kc n o) o).Perm (l++o)∧(l.foldl (fun o n=>Kc n o) o).Pairwise (fun a b=>Op.bytesLess b a=false)
 | [],o,h=>⟨.refl _,h⟩
 |x::l,o,h=>by
  have h2:=ZMA l (Kc x o) (ZLr x o h);refine⟨h2.1.trans ?_,h2.2⟩;exact((ZCj x o).append_left l).trans List.perm_middle
theorem Zav: ∀a b:Tx,Op.bytesLess a b=true↔a<b
 |_,[]=>by simp[Op.bytesLess]
 | [],_::_=>by simp[Op.bytesLess]
 |x::a,y::b=>by
  rw[Op.bytesLess,Bool.or_eq_true,ZY,Zi,beq_iff_eq,Zav a b,List.cons_lt_cons_iff]
theorem ZN2 (l:List Tx):ZJL l=ZA8 l:=by
 have h:=ZMA l [] .nil;rw[List.append_nil]at h;refine List.Perm.eq_of_pairwise (le:=fun a b=>a≤b) (fun a b _ _ h1 h2=>List.le_antisymm h1 h2) (h.2.imp fun {a b} hab=> ?_) ?_ (h.1.trans (ZLg l).symm)
 ·intro hlt;rw[(Zav b a).2 hlt]at hab;cases hab
 ·exact(List.pairwise_mergeSort (le:=fun x y:List UInt8=>decide (x≤y)) (fun a b c h1 h2=>by simp only[Zi]at*;exact List.le_trans h1 h2) (fun a b=>by simp only[Bool.or_eq_true,Zi];exact List.le_total a b) l).imp fun {a b} h=>by simpa using h
theorem ZXt (l:List Tx):(ZJL l).length=l.length:=by rw[ZN2];exact(ZLg l).length_eq
def ZMz:Tabs:=Za (ZW) 32 Yw
theorem ZYW:SsOk Tryz.prog ZMz:=ZL (ZG) (ZC ZH (p:=i32) rfl) ZE5
theorem ZUQ (a:List D):ZMz.q 32 a=Yw a:=rfl
theorem ZcE (f:FuncId) (a:List D) (o:List Ob):ZMz.r f a o=none:=rfl
theorem Zcv (f:FuncId) (a:List D) (o:List Ob):ZMz.k f a o=none:=rfl
theorem Zd3 (T:List Zb) (C:List Zk) (hT:Jk T):ZD Tryz.prog 20 [.agg [.x (.sl (rows Zn T)),.x (.sl (rows Zu C))]] (.x (.sl (rows ZI (ZA8 ((Zs T).map (·.1)))))):=by
 have hTl:=hT.1;refine ZN.pure (ZO (fz:=true) ZH (p:=i20) rfl _ (ξ rfl) _ (fun C0 E0=> ?_)) rfl;dsimp only[i20,qt,qi,qs,qb,qm,qa,qh,qj,qT,qF,qe,ql,qL,qf,q2,q3,q8,qz,qp,qP,qc,qk,qx,qy,qo,qr,qC,ZQ];have uu:=ZA @Yw.eq_1 (ZA @Yw.eq_2 (ZA @ZcE (ZA @Zcv (@ZUQ))));have tT:=ZYW;refine nz ?_;refine rg tT [1] ?_;refine rg tT [1,3] ?_;refine rg tT [1,3,4] ?_;refine WI.nnA ?_;refine WI.orderA [1,3,4] ?_;refine WI.loop (fun φ os=> ∃(i:Nat) (o:List Tx),φ= [(1,.ptr 0 0),(3,.x (.sl (rows ZI o))),(4,.x (.int .i64 i))]∧os= [.box [.x (.sl (rows Zn T)),.x (.sl (rows Zu C))]]∧i≤T.length∧o=ZJL ((T.take i).map fun t=>ZB t.1)) (ZK T.length 4) ?_ (fun φ os hI=> ?_)
 ·exact⟨0,[],rfl,rfl,by omega,rfl⟩
 ·obtain⟨i,o,rfl,rfl,hi,ho⟩:=hI;have hol:o.length=i:=by rw[ho,ZXt,List.length_map,List.length_take];omega
  refine nz ?_;refine rg tT [1,3,4,12] ?_;refine cd (fun h0=> ?_) (fun h0=> ?_)
  ·have hi4:i<T.length:=by omega
   have hia:=ZCm T i hi4;have hpl:(T.getD i ([],0,false,())).1.length≤1000000:=by rw[show T.getD i ([],0,false,())=T[i] by simp[hi4]];exact hT.2 _ (List.getElem_mem hi4)
   have hso:Kc (ZB (T.getD i ([],0,false,())).1) o=ZJL ((T.take (i+1)).map fun t=>ZB t.1):=by rw[List.take_succ_eq_append_getElem hi4,List.map_append,List.map_singleton,ZVw,←ho,show T.getD i ([],0,false,())=T[i] by simp[hi4]]
   generalize T.getD i ([],0,false,())=p at hia hpl hso;have hs1:decide (p.1.length≤140737488355328)=true:=ZM (by omega);obtain⟨P,hP⟩: ∃P:Tx,ZB p.1=P:=⟨_,rfl⟩;rw[hP]at hso;have hins:=ZRC P o;have hpp:=ZRk P o;have uu:=ZA uu (ZA hia (ZA hs1 hP));refine rg tT [1,3,4,5] ?_;refine rg tT [1,3,4,5,6] ?_;refine WI.loop (fun φ os=> ∃(k:Nat),φ= [(1,.ptr 0 0),(3,.x (.sl (rows ZI o))),(4,.x (.int .i64 i)),(5,.x (.str P)),(6,.x (.int .i64 k))]∧os= [.box [.x (.sl (rows Zn T)),.x (.sl (rows Zu C))]]∧k≤ZAn P o) (ZK i 6) ?_ (fun φ os hI=> ?_)
   ·exact⟨0,rfl,rfl,by omega⟩
   ·obtain⟨k,rfl,rfl,hk⟩:=hI;refine nz ?_;by_cases hko:k<i
    ·have hka:=Yg o k (by omega);have hdl:=ZM (show(k:Int)<(i:Int) by omega);have hgo:o.getD k []=o[k]:=by simp[show k<o.length by omega]
     have uu:=ZA uu (ZA hka (ZA hdl hol));refine rg tT [1,3,4,5,6,33] ?_;refine cd (fun h1=> ?_) (fun h1=> ?_)
     ·have hk2:=ZQ9 P o k hk (by omega) (by rw[←hgo];clear uu;grind);refine rg tT [1,3,4,5,6] ?_;exact⟨⟨k+1,rfl,rfl,hk2⟩,by simp[ZK,Ab.get,D.val,ZE];omega⟩
     ·have hkp:=ZHc P o k hk (fun hh=>by rw[←hgo];clear uu;grind);refine rg tT [1,3,4,5,6,7] ?_;refine WI.ownA 7 9 1 ?_;have hki:k≤i:=by omega
      rw[←hkp]at hins;have e1:(o.take k).length=k:=by rw[List.length_take];omega
      have e3:(o.drop k).length=i-k:=by rw[List.length_drop];omega
      have e4:(rows ZI (o.take k)++ [[X.str P]]).length=k+1:=by rw[Zr,YE,e1];rfl
      have uu:=ZA uu (ZA e1 (ZA e3 e4));refine rg tT [1,3,4,5,6,7] ?_;refine rg tT [1,3,4,6,7] ?_;refine rg tT [1,3,4] ?_;have hfr:rows ZI (o.take k)++ [[X.str P]]++rows ZI (o.drop k)=rows ZI (Kc P o):=by rw[hins];unfold rows;simp[ZI]
      have hil:(Kc P o).length=i+1:=by rw[(ZCj P o).length_eq,Jz];omega
      have hft:(Kc P o).take (i+1)=Kc P o:=YL (by omega);rw[hfr,show k+1+(i-k)=i+1 by omega];refine WI.freezeA [1] ?_;refine WI.pickA [0] ?_;simp only[hil,hft,if_true];refine rg tT [1,3,4] ?_;exact⟨⟨i+1,Kc P o,rfl,rfl,by omega,hso⟩,by simp[ZK,Ab.get,D.val,ZE];omega⟩
    ·have hdl:=decide_eq_false (show ¬(k:Int)<(i:Int) by omega);have hka:(rows ZI o)[k]? =none:=List.getElem?_eq_none (by rw[YE];omega);have uu:=ZA uu (ZA hdl (ZA hol hka));refine rg tT [1,3,4,5,6,33] ?_;refine ce (fun h1=> ?_) (fun h1=> ?_)
     ·simp at h1
     ·have hkp:=ZHc P o k hk (fun hh=>by omega);refine rg tT [1,3,4,5,6,7] ?_;refine WI.ownA 7 9 1 ?_;have hki:k≤i:=by omega
      rw[←hkp]at hins;have e1:(o.take k).length=k:=by rw[List.length_take];omega
      have e3:(o.drop k).length=i-k:=by rw[List.length_drop];omega
      have e4:(rows ZI (o.take k)++ [[X.str P]]).length=k+1:=by rw[Zr,YE,e1];rfl
      have uu:=ZA uu (ZA e1 (ZA e3 e4));refine rg tT [1,3,4,5,6,7] ?_;refine rg tT [1,3,4,6,7] ?_;refine rg tT [1,3,4] ?_;have hfr:rows ZI (o.take k)++ [[X.str P]]++rows ZI (o.drop k)=rows ZI (Kc P o):=by rw[hins];unfold rows;simp[ZI]
      have hil:(Kc P o).length=i+1:=by rw[(ZCj P o).length_eq,Jz];omega
      have hft:(Kc P o).take (i+1)=Kc P o:=YL (by omega);rw[hfr,show k+1+(i-k)=i+1 by omega];refine WI.freezeA [1] ?_;refine WI.pickA [0] ?_;simp only[hil,hft,if_true];refine rg tT [1,3,4] ?_;exact⟨⟨i+1,Kc P o,rfl,rfl,by omega,hso⟩,by simp[ZK,Ab.get,D.val,ZE];omega⟩
  ·obtain rfl:i=T.length:=by omega
   rw[List.take_length]at ho;have hfin:ZA8 ((Zs T).map (·.1))=o:=by rw[ho,ZGk,ZN2]
   rw[hfin];refine rg tT [2] ?_;refine WI.nnA ?_;refine lf ?_
   first|rfl|exact⟨rfl,rfl⟩|trivial
def ZIe:List D→Option (Bool×D)
 | [.agg [.x (.sl R),.x (.sl R2)]]=>(Zd Zn R).bind fun T=>(Zd Zu R2).bind fun C=>some (decide (Jk T),.x (.sl (rows ZI (ZA8 ((Zs T).map (·.1))))))
 |_=>none
theorem ZYT: ∀args r,ZIe args=some (true,r)→ZD Tryz.prog 20 args r:=by
 intro args r h;unfold ZIe at h;split at h
 ·rename_i R R2;obtain⟨T,hr0,h⟩:=Zp h;obtain⟨C,hr1,h⟩:=Zp h;simp only[Zg,Ze,ZY,Zi,true_and]at h;obtain⟨h1,rfl⟩:=h;rw[←ZR YG hr0];rw[←ZR YM hr1];exact(Zd3 T C h1)
 ·cases h
def ZD8 (t:Zb):Bool:=decide (t.1.length≤80)
def ZEI (c:Zk):Bool:=decide (c.1.length≤80∧c.2.1.length≤5∧c.2.2.1.length≤5)
def ZGm (T:List Zb) (C:List Zk):Bool:=decide (T.length≤12∧C.length≤6)&&(T.all ZD8&&C.all ZEI)
theorem Zc8 (T:List Zb) (C:List Zk):ZD Tryz.prog 21 [.x (.sl (rows Zn T)),.x (.sl (rows Zu C))] (.x (.bool (ZGm T C))):=by
 rcases hres:ZGm T C with b
 unfold ZGm at hres;refine ZN.pure (ZO (fz:=true) ZH (p:=i21) rfl _ (ξ rfl) _ (fun C0 E0=> ?_)) rfl;dsimp only[i21,qt,qi,qs,qb,qm,qa,qh,qj,qT,qF,qe,ql,qL,qf,q2,q3,q8,qz,qp,qP,qc,qk,qx,qy,qo,qr,qC,ZQ];have uu:=trivial;have tT:=(ZG:SsOk Tryz.prog ZW);refine nz ?_;refine rg tT [0,1] ?_;refine rg tT [0,1,14] ?_;refine cd (fun h0=> ?_) (fun h0=> ?_)
 ·have hb: ¬(T.length≤12∧C.length≤6):=by clear uu hres;grind
  rw[decide_eq_false hb]at hres;refine rg tT [4] ?_;refine lf ?_;rw[←hres];rfl
 ·have hb:T.length≤12∧C.length≤6:=by clear uu hres;grind
  rw[ZM hb,Bool.true_and]at hres;refine rg tT [0,1,5] ?_;refine WI.loop (fun φ os=> ∃(j:Nat),φ= [(0,.x (.sl (rows Zn T))),(1,.x (.sl (rows Zu C))),(5,.x (.int .i64 j))]∧os= []∧j≤T.length∧(T.take j).all ZD8=true) (ZK T.length 5) ?_ (fun φ os hI=> ?_)
  ·exact⟨0,rfl,rfl,by omega,rfl⟩
  ·obtain⟨j,rfl,rfl,hj,hall⟩:=hI;refine nz ?_;refine rg tT [0,1,5,18] ?_;refine cd (fun h1=> ?_) (fun h1=> ?_)
   ·have hj4:j<T.length:=by omega
    have hrw:=ZCm T j hj4;have hg:T[j]=T.getD j ([],0,false,()):=by simp[hj4]
    have hal:=Zx ZD8 T j hj4;have hno:ZD8 (T.getD j ([],0,false,()))=false→T.all ZD8=false:=fun h=>ZZ ZD8 T j hj4 (by rw[hg];exact h)
    rw[hg]at hal;generalize T.getD j ([],0,false,())=x at hrw hal hno;have hrx:ZD8 x=decide (x.1.length≤80):=rfl;have uu:=ZA uu hrw;refine rg tT [0,1,5,27] ?_;refine cd (fun h2=> ?_) (fun h2=> ?_)
    ·have hx:ZD8 x=false:=by clear uu;grind
     rw[hno hx]at hres;refine rg tT [4] ?_;refine lf ?_;rw[←hres];rfl
    ·have hx:ZD8 x=true:=by clear uu;grind
     have hall2:(T.take (j+1)).all ZD8=true:=by rw[hal,hall,hx];rfl
     refine rg tT [0,1,5] ?_;exact⟨⟨j+1,rfl,rfl,by omega,hall2⟩,by simp[ZK,Ab.get,D.val,ZE];omega⟩
   ·rw[YL (by omega)]at hall;rw[hall,Bool.true_and]at hres;refine rg tT [1,6] ?_;refine WI.loop (fun φ os=> ∃(j:Nat),φ= [(1,.x (.sl (rows Zu C))),(6,.x (.int .i64 j))]∧os= []∧j≤C.length∧(C.take j).all ZEI=true) (ZK C.length 6) ?_ (fun φ os hI=> ?_)
    ·exact⟨0,rfl,rfl,by omega,rfl⟩
    ·obtain⟨j,rfl,rfl,hj,hall⟩:=hI;refine nz ?_;refine rg tT [1,6,31] ?_;refine cd (fun h3=> ?_) (fun h3=> ?_)
     ·have hj4:j<C.length:=by omega
      have hrw:=ZFm C j hj4;have hg:C[j]=C.getD j ([],[],[],()):=by simp[hj4]
      have hal:=Zx ZEI C j hj4;have hno:ZEI (C.getD j ([],[],[],()))=false→C.all ZEI=false:=fun h=>ZZ ZEI C j hj4 (by rw[hg];exact h)
      rw[hg]at hal;generalize C.getD j ([],[],[],())=x at hrw hal hno;have hrx:ZEI x=decide (x.1.length≤80∧x.2.1.length≤5∧x.2.2.1.length≤5):=rfl;have uu:=ZA uu hrw;refine rg tT [1,6,58] ?_;refine cd (fun h4=> ?_) (fun h4=> ?_)
      ·have hx:ZEI x=false:=by clear uu;grind
       rw[hno hx]at hres;refine rg tT [4] ?_;refine lf ?_;rw[←hres]
      ·have hx:ZEI x=true:=by clear uu;grind
       have hall2:(C.take (j+1)).all ZEI=true:=by rw[hal,hall,hx];rfl
       refine rg tT [1,6] ?_;exact⟨⟨j+1,rfl,rfl,by omega,hall2⟩,by simp[ZK,Ab.get,D.val,ZE];omega⟩
     ·refine rg tT [4] ?_;refine lf ?_;rw[YL (by omega)]at hall;rw[←hres,hall]
def ZFw:List D→Option (Bool×D)
 | [.x (.sl R),.x (.sl R2)]=>(Zd Zn R).bind fun T=>(Zd Zu R2).bind fun C=>some (true,.x (.bool (ZGm T C)))
 |_=>none
theorem ZUJ: ∀args r,ZFw args=some (true,r)→ZD Tryz.prog 21 args r:=by
 intro args r h;unfold ZFw at h;split at h
 ·rename_i R R2;obtain⟨T,hr0,h⟩:=Zp h;obtain⟨C,hr1,h⟩:=Zp h;simp only[Zg,Ze,ZY,Zi,true_and]at h;obtain rfl:=h;rw[←ZR YG hr0];rw[←ZR YM hr1];exact(Zc8 T C)
 ·cases h
def ZXf (T:List Zb) (C:List Zk):D:=if Yx T C=0 then .tup [.ptr 0 0,.x (.int .i64 0)]else .tup [.x .nilp,.x (.int .i64 (Yx T C))]
def ZXg (T:List Zb) (C:List Zk):List Ob:=if Yx T C=0 then QG (Zs T) (YJ C)else []
def newT:List D→List Ob→Option (Bool×D×List Ob)
 | [.x (.sl R),.x (.sl R2)],[]=>(Zd Zn R).bind fun T=>(Zd Zu R2).map fun C=>(decide (Jk T∧smC C),ZXf T C,ZXg T C)
 |_,_=>none
theorem newT_ok: ∀args os r os',newT args os=some (true,r,os')→ZV Tryz.prog 22 args os r os':=by
 intro args os r os' h;unfold newT at h;split at h
 ·rename_i R R';obtain⟨a,h1,h⟩:=Zp h;obtain⟨b,h2,h3⟩:=Zh h;simp only[Ze,Zi]at h3;obtain⟨h4,rfl,rfl⟩:=h3;rw[←ZR YG h1,←ZR YM h2];exact ZMr a b h4.1 h4.2 _ _ (fun h=>⟨if_pos h,if_pos h⟩) (fun h=>⟨if_neg h,if_neg h⟩)
 ·cases h
def Jb:Tabs:=ZJE (ZJE (Za (Za (Za (Za (Za (Za (Za (JT (ZW) 22 newT) 21 ZFw) 8 ZLZ) 9 ZCL) 23 ZIZ) 18 ZDV) 20 ZIe) 16 ZFu) 17 ZB5) 19 ZB8
theorem ZYv:SsOk Tryz.prog Jb:=ZIh (ZIh (ZL (ZL (ZL (ZL (ZL (ZL (ZL (Ye (ZG) (ZC ZH (p:=i22) rfl) newT_ok) (ZC ZH (p:=i21) rfl) ZUJ) (ZC ZH (p:=i8) rfl) Zbc) (ZC ZH (p:=i9) rfl) ZQR) (ZC ZH (p:=i23) rfl) ZYS) (ZC ZH (p:=i18) rfl) ZTU) (ZC ZH (p:=i20) rfl) ZYT) (ZC ZH (p:=i16) rfl) ZV6) (ZC ZH (p:=i17) rfl) ZTw) (ZC ZH (p:=i19) rfl) ZR5
theorem ZUf (a:List D):Jb.q 22 a=none:=rfl
theorem ZTy (a:List D) (o:List Ob):Jb.t 22 a o=YW newT a o:=rfl
theorem ZXB (a:List D):Jb.q 21 a=ZFw a:=rfl
theorem ZYq (a:List D):Jb.q 8 a=ZLZ a:=rfl
theorem ZYg (a:List D):Jb.q 9 a=ZCL a:=rfl
theorem ZXE (a:List D):Jb.q 23 a=ZIZ a:=rfl
theorem ZXd (a:List D):Jb.q 18 a=ZDV a:=rfl
theorem ZVC (a:List D):Jb.q 20 a=ZIe a:=rfl
theorem ZWn (a:List D):Jb.q 16 a=ZFu a:=rfl
theorem ZWw (a:List D):Jb.q 17 a=none:=rfl
theorem ZVQ (a:List D) (o:List Ob):Jb.t 17 a o=(Kt ZB5 a o).map fun r=>(r.1,r.2,o):=rfl
theorem ZT2 (a:List D) (o:List Ob):Jb.r 17 a o=Kt ZB5 a o:=rfl
theorem ZW2 (a:List D):Jb.q 19 a=none:=rfl
theorem ZWq (a:List D) (o:List Ob):Jb.t 19 a o=(Kt ZB8 a o).map fun r=>(r.1,r.2,o):=rfl
theorem ZXM (a:List D) (o:List Ob):Jb.r 19 a o=Kt ZB8 a o:=rfl
theorem ZXC (a:List D) (o:List Ob):Jb.r 16 a o=none:=rfl
theorem ZWE (a:List D) (o:List Ob):Jb.r 18 a o=none:=rfl
theorem ZVq (a:List D) (o:List Ob):Jb.r 20 a o=none:=rfl
theorem ZUH (a:List D) (o:List Ob):Jb.r 21 a o=none:=rfl
theorem ZWQ (a:List D) (o:List Ob):Jb.r 22 a o=none:=rfl
theorem ZU3 (a:List D) (o:List Ob):Jb.r 23 a o=none:=rfl
theorem ZZQ (a:List D) (o:List Ob):Jb.r 8 a o=none:=rfl
theorem ZZf (a:List D) (o:List Ob):Jb.r 9 a o=none:=rfl
theorem ZbZ (f:FuncId) (a:List D) (o:List Ob):Jb.k f a o=none:=rfl
theorem ZbI {T:List Zb} {C:List Zk} (h:ZGm T C=true):Jk T:=by
 simp only[ZGm,ZY,Zi,List.all_eq_true,ZD8]at h;exact⟨by omega,fun x hx=>by have:=h.2.1 x hx;omega⟩
theorem ZcX {T:List Zb} {C:List Zk} (h:ZGm T C=true) (hC: ∀c∈C,(∀n∈c.2.1,n.length≤140737488355328)∧ ∀n∈c.2.2.1,n.length≤140737488355328):smC C:=by
 simp only[ZGm,ZY,Zi,List.all_eq_true,ZEI]at h;exact⟨by omega,fun x hx=>by have h1:=h.2.2 x hx;have h2:=hC x hx;exact⟨by omega,⟨by omega,h2.1⟩,by omega,h2.2⟩⟩
theorem ZQ1 {T:List Zb} (h: ∀t∈T,t.1.length≤1000000) {n:Tx} (hn:isT T n=true):n.length≤1000000:=by
 unfold isT at hn;obtain⟨v,hv⟩:=Option.isSome_iff_exists.1 hn;have h2:ZB n∈(Zs T).map (·.1):=by
  apply Classical.byContradiction;intro hc;rw[ZAr.2 hc]at hv;cases hv
 rw[ZGk]at h2;obtain⟨t,ht,e⟩:=List.mem_map.1 h2;have:=h t ht;rw[←Qp n,←e,Qp];exact this
theorem ZYF {T:List Zb} {C:List Zk} (hT:Jk T) (hC:smC C) (h:Yx T C=0):ZE1 C:=by
 unfold Yx at h;split at h
 ·rename_i h1;exact absurd h h1
 ·split at h
  ·rename_i h2;refine⟨hC.1,fun x hx=> ?_⟩;have h3:=hC.2 x hx;have h4:=List.all_eq_true.1 h2 x hx;rw[ZRR,List.all_append,ZY,List.all_eq_true,List.all_eq_true]at h4;exact⟨h3.1,⟨h3.2.1.1,fun n hn=>ZQ1 hT.2 (h4.1 n hn)⟩,h3.2.2.1,fun n hn=>ZQ1 hT.2 (h4.2 n hn)⟩
  ·cases h
theorem ZdI {T:List Zb} {C:List Zk} (h:Yx T C=0):(T.map (·.1)).all YO=true∧((T.map (·.1)).map ZB).Nodup:=by
 unfold Yx at h;split at h
 ·rename_i h1;exact absurd h h1
 ·rename_i h1;have h1:ZBi T C=0:=Decidable.not_not.1 h1;unfold ZBi at h1;split at h1
  ·cases h1
  ·split at h1
   ·rename_i h2;exact absurd h1 h2
   ·rename_i h2;have h3:=ZIA (Decidable.not_not.1 h2);exact⟨h3.1,h3.2.2⟩
theorem Zbx {s:Tx} (h:YO s=true):s≠ []:=by intro e;subst e;cases h
theorem ZZz {T:List Zb} {C:List Zk} (h:Yx T C=0):ZOp (Zs T):=by
 intro p hp;unfold Zs at hp;obtain⟨t,ht,rfl⟩:=List.mem_map.1 hp;have h2:=List.all_eq_true.1 (ZdI h).1 t.1 (List.mem_map.2 ⟨t,ht,rfl⟩);intro e;have h3:(ZB t.1).length=0:=by rw[show ZB t.1= []from e];rfl
 rw[Qp]at h3;exact Zbx h2 (List.eq_nil_of_length_eq_zero h3)
theorem Zbl {C:List Zk} (hC:smC C):okM (YJ C):=by
 intro p hp;unfold YJ at hp;obtain⟨c,hc,rfl⟩:=List.mem_map.1 hp;have h:=hC.2 c hc;show((c.2.1.map ZB).length≤1000000)∧(c.2.2.1.map ZB).length≤1000000;rw[List.length_map,List.length_map];omega
theorem ZX6 {T:List Zb} (hT:Jk T):ZLH (Zs T):=by
 refine⟨by unfold Zs;rw[List.length_map];have:=hT.1;omega,fun p hp=> ?_⟩;unfold Zs at hp;obtain⟨t,ht,rfl⟩:=List.mem_map.1 hp;have:=hT.2 t ht;show(ZB t.1).length≤1000000;rw[Qp];omega
set_option maxHeartbeats 8000000 in
theorem ZPr (T:List Zb) (C:List Zk) (e:Kl) (hln: ∀c∈C,(∀n∈c.2.1,n.length≤140737488355328)∧ ∀n∈c.2.2.1,n.length≤140737488355328):ZD Tryz.prog 4 [.x (.sl (rows Zn T)),.x (.sl (rows Zu C)),ZAM e] (.x (.bool true)):=by
 obtain⟨dn,l,u⟩:=e;have hu1:=ZEd (Zs T);have hu2:=ZEj (YJ C);have hbs: ∀x:List UInt8,(x==x)=true:=fun x=>beq_self_eq_true x
 have hbi: ∀x:Int,(x==x)=true:=fun x=>beq_self_eq_true x
 have hbb: ∀x:Bool,(x==x)=true:=fun x=>beq_self_eq_true x
 unfold ZAM;refine ZN.pure (ZO (fz:=true) ZH (p:=i4) rfl _ (ξ rfl) _ (fun C0 E0=> ?_)) rfl;dsimp only[i4,qt,qi,qs,qb,qm,qa,qh,qj,qT,qF,qe,ql,qL,qf,q2,q3,q8,qz,qp,qP,qc,qk,qx,qy,qo,qr,qC,ZQ];have uu:=ZA @ZLZ.eq_1 (ZA @ZLZ.eq_2 (ZA @ZFw.eq_1 (ZA @ZFw.eq_2 (ZA @ZCL.eq_1 (ZA @ZCL.eq_2 (ZA @ZIZ.eq_1 (ZA @ZIZ.eq_2 (ZA @ZDV.eq_1 (ZA @ZDV.eq_2 (ZA @ZIe.eq_1 (ZA @ZIe.eq_2 (ZA @ZFu.eq_1 (ZA @ZFu.eq_2 (ZA @ZB5.eq_1 (ZA @ZB5.eq_2 (ZA @ZB8.eq_1 (ZA @ZB8.eq_2 (ZA hu1 (ZA hu2 (ZA @ZEe (ZA @ZGu (ZA @ZJ7 (ZA @ZGb (ZA @ZAA (ZA @ZAE (ZA @ZBE (ZA @ZBG (ZA @Km (ZA @Ks (ZA @@Ka.eq_1 (ZA @@clD.eq_1 (ZA hbs (ZA hbi (ZA hbb (ZA @ZXC (ZA @ZT2 (ZA @ZWE (ZA @ZXM (ZA @ZVq (ZA @ZUH (ZA @ZWQ (ZA @ZU3 (ZA @ZZQ (ZA @ZZf (ZA @ZbZ (ZA @ZWn (ZA @ZWw (ZA @ZXd (ZA @ZW2 (ZA @ZVC (ZA @ZXB (ZA @ZUf (ZA @ZXE (ZA @ZYq (ZA @ZYg (ZA @ZTy (ZA @ZVQ (@ZWq))))))))))))))))))))))))))))))))))))))))))))))))))))))))));have tT:=ZYv;refine nz ?_;refine rg tT [0,1,5] ?_;refine rg tT [0,1,5,19] ?_;refine cd (fun h0=> ?_) (fun h0=> ?_)
 ·refine rg tT [6] ?_;refine lf ?_
  first|rfl|exact⟨rfl,rfl⟩|trivial
 ·have hf:ZGm T C=true∧ZI7 (dn,l,())=true:=by clear uu;grind
  have hE:=Zde hf.2;have hT:=ZbI hf.1;have hC:=ZcX hf.1 hln;have hd0:decide (Jk T∧smC C)=true:=ZM ⟨hT,hC⟩;have hd1:decide (Jk T)=true:=ZM hT;by_cases hv:Yx T C=0
  ·have hr1:ZXf T C= .tup [.ptr 0 0,.x (.int .i64 0)]:=if_pos hv;have hr2:ZXg T C=QG (Zs T) (YJ C):=if_pos hv;have hr3:ZTa T C= .tup [.agg [.x (.sl (rows Zn T)),.x (.sl (rows Zu C))],.x (.int .i64 0)]:=if_pos hv;have hCd:=ZYF hT hC hv;have hd4:decide (Jk T∧(ZE1 C∧smE l))=true:=ZM ⟨hT,hCd,hE⟩;have hd5:decide (ZJO (YJ C) l)=true:=ZM ⟨Zbl hC,hE.1,hE.2⟩;have hd6:decide (ZLH (Zs T))=true:=ZM (ZX6 hT);have hck:=ZeJ (YJ C) (ZZz hv) l;have uu:=ZA uu (ZA hr1 (ZA hr2 (ZA hr3 (ZA hd0 (ZA hd1 (ZA hd4 (ZA hd5 (ZA hd6 hck))))))));refine rg tT [0,1,5,7,8] ?_;refine rg tT [5,7,8,9,10] ?_;refine rg tT [5,7,8,9,10,34] ?_;refine ce (fun h1=> ?_) (fun h1=> ?_)
   ·simp at h1
   ·refine WI.dregB tT [6] ?_;refine Zo ?_;refine Ym ?_;refine Zo ?_
    iterate 3 refine Ym ?_
    refine Zo ?_;refine Ym ?_;refine YK ?_;refine QV ?_
    iterate 2 refine YK ?_
    refine QV ?_
    iterate 2 refine Ym ?_
    refine Zo ?_;refine Ym ?_;refine QV ?_;refine YK ?_
    iterate 2 refine dAC ?_
    refine Ym ?_;refine Zo ?_;refine dAC ?_;refine Ym ?_;refine Zo ?_;refine dN ?_;refine nz ?_;refine lf ?_
    first|rfl|exact⟨rfl,rfl⟩|trivial
  ·have hr1:ZXf T C= .tup [.x .nilp,.x (.int .i64 (Yx T C))]:=if_neg hv;have hr2:ZXg T C= []:=if_neg hv;have hr3:ZTa T C= .tup [.agg [.x (.sl []),.x (.sl [])],.x (.int .i64 (Yx T C))]:=if_neg hv;have uu:=ZA uu (ZA hr1 (ZA hr2 (ZA hr3 hd0)));refine rg tT [0,1,5,7,8] ?_;refine rg tT [5,7,8,9,10] ?_;refine rg tT [5,7,8,9,10,34] ?_;refine ct (fun h1=> ?_) (fun h1=> ?_)
   ·refine rg tT [6] ?_;refine lf ?_
    first|rfl|exact⟨rfl,rfl⟩|trivial
   ·exact hv (by simpa using h1)
end Go.Proofs.YtpjfdjcejamebaaGreatDoor
end
