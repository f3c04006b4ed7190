import Derived.Test.YtpjfdjcejamebaaGreatDoorMA3
import Derived.Test.YtpjfdjcejamebaaGreatDoorLA5
import Derived.Test.YtpjfdjcejamebaaGreatDoorIc
set_option linter.unusedSimpArgs false
set_option linter.unusedVariables false
section
namespace Go.Proofs.YtpjfdjcejamebaaGreatDoor
open Go.RowKit Go.Bo Go.Ab
theorem ZIK {g:Zi→Zv→Int} {L:List (Tx×Zi)} {P:Zv→Bool} {k:Int} (hk:k≠0) (l:List Zv) (h: ∀a∈l,g (Ja L (ZD a.1)) a=if P a=true then 0 else k):goA g L l=if l.all P=true then 0 else k:=by
 induction l with
 |nil=>rfl
 |cons a l ih=>
  have ha:=h a List.mem_cons_self;have ih:=ih (fun x hx=>h x (List.mem_cons_of_mem _ hx));unfold goA;rw[ha,List.all_cons];cases hp:P a
  ·simp[hk]
  ·rw[if_neg (by simp),Bool.true_and];exact ih
def ZMv (L:List (Tx×Zi)):Prop:= ∀p∈L,p.2.1≠ []
instance (L:List (Tx×Zi)):Decidable (ZMv L):=inferInstanceAs (Decidable (∀p∈L,_))
theorem ZVc {L:List (Tx×Zi)} (h:ZMv L) (k:Tx):((Ja L k).1= [])=((ZR L k).isSome=false):=by
 unfold Ja;rcases hm:ZR L k with _|t
 ·simp
 ·have:=h _ (ZHF hm);simp only[Option.getD_some,Option.isSome_some,Bool.true_eq_false,eq_iff_iff,iff_false];exact this
theorem Zd2 {k:Int} {l:List Tx} (h:l.all (fun v=>(Yh k v).2)=true):twV k l= !decide (l.Pairwise (ZD0 k)):=by
 unfold twV;congr 1;rw[decide_eq_decide,List.Nodup,List.pairwise_map];have hv: ∀v∈l,(Yh k v).2=true:=by simpa using h
 constructor
 ·intro hp;refine hp.imp_of_mem fun {a b} ha hb hne=> ?_
  unfold ZD0 eqV;rw[if_pos ⟨hv a ha,hv b hb⟩,if_neg (show ¬(Yh k a).1=(Yh k b).1 from hne)];decide
 ·intro hp;refine hp.imp_of_mem fun {a b} ha hb hne=> ?_
  unfold ZD0 eqV at hne;rw[if_pos ⟨hv a ha,hv b hb⟩]at hne;intro e;exact hne (if_pos e)
theorem ZV3 (L:List (Tx×Zi)): ∀(l:List Zv) (S:Sn) (S':List Tx),(∀k,(0<Kn S k↔k∈S')∧0≤Kn S k)→l.all (v3F L)=true→(goS L S l).1=if ZE0 L S' l=true then 20 else 0
 | [],S,S',_,_=>by simp[goS,ZE0]
 |a::l,S,S',hS,hv=>by
  rw[List.all_cons,ZW]at hv;have ht:=Zd2 (k:=(Ja L (ZD a.1)).2.1) hv.1;have hS2: ∀k,(0<Kn (snS S (Ja L (ZD a.1)).1) k↔k∈S'++ [nmL L a])∧0≤Kn (snS S (Ja L (ZD a.1)).1) k:=by
   intro k;rw[ZRH];have h1:=hS k;have h2:=hS (Ja L (ZD a.1)).1;have e:nmL L a=(Ja L (ZD a.1)).1:=rfl;rw[e,List.mem_append,List.mem_singleton];split
   ·rename_i hk;subst hk;exact⟨⟨fun _=> .inr rfl,fun _=>by omega⟩,by omega⟩
   ·rename_i hk;exact⟨⟨fun h=> .inl (h1.1.1 h),fun h=>by rcases h with h|h;exact h1.1.2 h;exact absurd h hk⟩,h1.2⟩
  have ih:=ZV3 L l _ _ hS2 hv.2;have hm:0<Kn S (Ja L (ZD a.1)).1↔nmL L a∈S':=(hS _).1;unfold goS ZE0 w4;rw[ht];by_cases h1:nmL L a∈S'
  ·have h0:=hm.2 h1;simp[h1,h0]
  ·have h0: ¬0<Kn S (Ja L (ZD a.1)).1:=fun h=>h1 (hm.1 h)
   by_cases h2:a.2.1.Pairwise (ZD0 (Ja L (ZD a.1)).2.1)
   ·rw[ZM h2,decide_eq_false h1];simp only[h0,Bool.not_true,Bool.false_or,Bool.false_eq_true,or_self,if_false,ne_eq,not_true_eq_false];exact ih
   ·simp[h0,h1,h2]
theorem Zaa {L:List (Tx×Zi)} (h:ZMv L) (l:List Zv):ZEq L l=ZDU L l:=by
 have e1:goA w1 L l=if l.all (v1F L)=true then 0 else 17:=ZIK (by decide) l (fun a _=>by
  unfold w1 v1F;have hf:=ZVc h (ZD a.1);cases hb:(ZR L (ZD a.1)).isSome
  ·rw[if_pos (by rw[hf];exact hb)];rfl
  ·rw[if_neg (by rw[hf,hb];decide)];rfl)
 have e2:goA w2 L l=if l.all v2F=true then 0 else 19:=ZIK (by decide) l (fun a _=>by
  unfold w2 v2F;by_cases h:a.2.1.length=0<;>simp[h])
 have e3:goA w3 L l=if l.all (v3F L)=true then 0 else 21:=ZIK (by decide) l (fun a _=>rfl)
 have e5:goA w5 L l=if l.all (fun a=> !((Ja L (ZD a.1)).2.2.1&&decide (1<a.2.1.length)))=true then 0 else 19:=ZIK (by decide) l (fun a _=>by
  unfold w5;cases h1:(Ja L (ZD a.1)).2.2.1<;>by_cases h2:1<a.2.1.length<;>simp[h1,h2])
 unfold ZEq ZDU ZIR;rw[e1,e2,e3,e5];by_cases h1:l.all (v1F L)=true
 ·by_cases h2:l.all v2F=true
  ·by_cases h3:l.all (v3F L)=true
   ·have e4:=ZV3 L l [] [] (fun k=>⟨by simp[Kn,ZR],by simp[Kn,ZR]⟩) h3;rw[e4];simp only[h1,h2,h3,if_true,ne_eq,not_true_eq_false,if_false];by_cases h4:ZE0 L [] l=true<;>simp[h4]
   ·simp[h1,h2,h3]
  ·simp[h1,h2]
 ·simp[h1]
theorem ZdL {L:List (Tx×Zi)} (M:List (Tx×Zt)) (h:ZMv L) (l:List Zv):ZE6 L M l=ZLF L M l:=by
 unfold ZE6 ZLF;rw[Zaa h];have e:(KH l).all (fun h=>decide (h∈OC::QB M (ZAU l)))=(KH l).all (ocF M (ZAU l)):=by
  congr 1;funext x;unfold ocF;rw[Bool.eq_iff_iff];simp
 rw[e];by_cases h0:ZDU L l≠0
 ·rw[if_pos h0,if_pos h0]
 ·rw[if_neg h0,if_neg h0];rcases hc:ZAU l with _|⟨c,cs⟩
  ·simp
  ·generalize(c::cs).all (ZAV M (KH l))=b1;generalize(KH l).all (ocF M (c::cs))=b2;cases b1<;>cases b2<;>simp
theorem ZC.nn1 {P:Program} {f:FuncId} {args ds:List D} (h:ZC P f args (.agg ds)):ZC P f args (.agg (ds.map D.nn1)):=by
 intro w st vs hst hvl;refine(h w st vs hst hvl).mono ?_;rintro e w' ⟨v,st',h1,h2,h3,h4,h5⟩;refine⟨v,st',h1,h2,h3,h4,?_⟩;cases h5 with
 |agg us hl h6 hv=>
 refine .agg us (by simpa using hl) h6 (fun j d u hd hu=> ?_);rw[YC]at hd;obtain⟨d0,hd0,rfl⟩:=Zd hd;exact(hv j d0 u hd0 hu).nn1
theorem ZYr:ZC Tryz.prog 11 [] (.agg [.x (.sl [[.str [99,110],.int .i64 1,.bool false],[.str [115,110],.int .i64 1,.bool false],[.str [111,117],.int .i64 1,.bool false],[.str [100,99],.int .i64 1,.bool false],[.str [111],.int .i64 1,.bool false],[.str [100,101,115,99,114,105,112,116,105,111,110],.int .i64 1,.bool false],[.str [109,97,105,108],.int .i64 1,.bool false],[.str [111,98,106,101,99,116,99,108,97,115,115],.int .i64 1,.bool false],[.str [117,115,101,114,112,97,115,115,119,111,114,100],.int .i64 4,.bool true],[.str [117,105,100],.int .i64 1,.bool true],[.str [117,105,100,110,117,109,98,101,114],.int .i64 3,.bool true],[.str [109,101,109,98,101,114],.int .i64 5,.bool false],[.str [115,101,114,105,97,108,110,117,109,98,101,114],.int .i64 2,.bool false]]),.x (.sl [[.str [116,111,112],.sl [],.sl []],[.str [112,101,114,115,111,110],.sl [[.str [99,110]],[.str [115,110]]],.sl [[.str [100,101,115,99,114,105,112,116,105,111,110]],[.str [117,115,101,114,112,97,115,115,119,111,114,100]],[.str [109,97,105,108]],[.str [117,105,100]],[.str [117,105,100,110,117,109,98,101,114]],[.str [115,101,114,105,97,108,110,117,109,98,101,114]],[.str [109,101,109,98,101,114]]]],[.str [111,114,103,97,110,105,122,97,116,105,111,110,97,108,117,110,105,116],.sl [[.str [111,117]]],.sl [[.str [100,101,115,99,114,105,112,116,105,111,110]],[.str [109,101,109,98,101,114]]]],[.str [100,111,109,97,105,110],.sl [[.str [100,99]]],.sl [[.str [100,101,115,99,114,105,112,116,105,111,110]],[.str [111]]]],[.str [103,114,111,117,112],.sl [[.str [99,110]]],.sl [[.str [109,101,109,98,101,114]],[.str [100,101,115,99,114,105,112,116,105,111,110]]]]])]):=
 ZC.nn1 (ds:= [.x (.sl [[.str [99,110],.int .i64 1,.bool false],[.str [115,110],.int .i64 1,.bool false],[.str [111,117],.int .i64 1,.bool false],[.str [100,99],.int .i64 1,.bool false],[.str [111],.int .i64 1,.bool false],[.str [100,101,115,99,114,105,112,116,105,111,110],.int .i64 1,.bool false],[.str [109,97,105,108],.int .i64 1,.bool false],[.str [111,98,106,101,99,116,99,108,97,115,115],.int .i64 1,.bool false],[.str [117,115,101,114,112,97,115,115,119,111,114,100],.int .i64 4,.bool true],[.str [117,105,100],.int .i64 1,.bool true],[.str [117,105,100,110,117,109,98,101,114],.int .i64 3,.bool true],[.str [109,101,109,98,101,114],.int .i64 5,.bool false],[.str [115,101,114,105,97,108,110,117,109,98,101,114],.int .i64 2,.bool false]]),.x (.sl [[.str [116,111,112],.nils,.nils],[.str [112,101,114,115,111,110],.sl [[.str [99,110]],[.str [115,110]]],.sl [[.str [100,101,115,99,114,105,112,116,105,111,110]],[.str [117,115,101,114,112,97,115,115,119,111,114,100]],[.str [109,97,105,108]],[.str [117,105,100]],[.str [117,105,100,110,117,109,98,101,114]],[.str [115,101,114,105,97,108,110,117,109,98,101,114]],[.str [109,101,109,98,101,114]]]],[.str [111,114,103,97,110,105,122,97,116,105,111,110,97,108,117,110,105,116],.sl [[.str [111,117]]],.sl [[.str [100,101,115,99,114,105,112,116,105,111,110]],[.str [109,101,109,98,101,114]]]],[.str [100,111,109,97,105,110],.sl [[.str [100,99]]],.sl [[.str [100,101,115,99,114,105,112,116,105,111,110]],[.str [111]]]],[.str [103,114,111,117,112],.sl [[.str [99,110]]],.sl [[.str [109,101,109,98,101,114]],[.str [100,101,115,99,114,105,112,116,105,111,110]]]]])]) (ZH0 ZH 300 (p:=i11) rfl (by kernel_rfl) rfl).2
theorem ZXu:ZC Tryz.prog 20 [.agg [.x (.sl [[.str [99,110],.int .i64 1,.bool false],[.str [115,110],.int .i64 1,.bool false],[.str [111,117],.int .i64 1,.bool false],[.str [100,99],.int .i64 1,.bool false],[.str [111],.int .i64 1,.bool false],[.str [100,101,115,99,114,105,112,116,105,111,110],.int .i64 1,.bool false],[.str [109,97,105,108],.int .i64 1,.bool false],[.str [111,98,106,101,99,116,99,108,97,115,115],.int .i64 1,.bool false],[.str [117,115,101,114,112,97,115,115,119,111,114,100],.int .i64 4,.bool true],[.str [117,105,100],.int .i64 1,.bool true],[.str [117,105,100,110,117,109,98,101,114],.int .i64 3,.bool true],[.str [109,101,109,98,101,114],.int .i64 5,.bool false],[.str [115,101,114,105,97,108,110,117,109,98,101,114],.int .i64 2,.bool false]]),.x (.sl [[.str [116,111,112],.sl [],.sl []],[.str [112,101,114,115,111,110],.sl [[.str [99,110]],[.str [115,110]]],.sl [[.str [100,101,115,99,114,105,112,116,105,111,110]],[.str [117,115,101,114,112,97,115,115,119,111,114,100]],[.str [109,97,105,108]],[.str [117,105,100]],[.str [117,105,100,110,117,109,98,101,114]],[.str [115,101,114,105,97,108,110,117,109,98,101,114]],[.str [109,101,109,98,101,114]]]],[.str [111,114,103,97,110,105,122,97,116,105,111,110,97,108,117,110,105,116],.sl [[.str [111,117]]],.sl [[.str [100,101,115,99,114,105,112,116,105,111,110]],[.str [109,101,109,98,101,114]]]],[.str [100,111,109,97,105,110],.sl [[.str [100,99]]],.sl [[.str [100,101,115,99,114,105,112,116,105,111,110]],[.str [111]]]],[.str [103,114,111,117,112],.sl [[.str [99,110]]],.sl [[.str [109,101,109,98,101,114]],[.str [100,101,115,99,114,105,112,116,105,111,110]]]]])]] (.x (.sl [[.str [99,110]],[.str [100,99]],[.str [100,101,115,99,114,105,112,116,105,111,110]],[.str [109,97,105,108]],[.str [109,101,109,98,101,114]],[.str [111]],[.str [111,98,106,101,99,116,99,108,97,115,115]],[.str [111,117]],[.str [115,101,114,105,97,108,110,117,109,98,101,114]],[.str [115,110]],[.str [117,105,100]],[.str [117,105,100,110,117,109,98,101,114]],[.str [117,115,101,114,112,97,115,115,119,111,114,100]]])):=(ZH0 ZH 300 (p:=i20) rfl (by kernel_rfl) rfl).2
theorem Zc2:ZBd ((YA Qs).map (·.1))= [[99,110],[100,99],[100,101,115,99,114,105,112,116,105,111,110],[109,97,105,108],[109,101,109,98,101,114],[111],[111,98,106,101,99,116,99,108,97,115,115],[111,117],[115,101,114,105,97,108,110,117,109,98,101,114],[115,110],[117,105,100],[117,105,100,110,117,109,98,101,114],[117,115,101,114,112,97,115,115,119,111,114,100]]:=by
 refine List.Perm.eq_of_pairwise (le:=fun a b=>decide (a≤b)=true) (fun a b _ _ h1 h2=>List.le_antisymm (by simpa using h1) (by simpa using h2)) ?_ (by decide+kernel) ((ZWf _).trans (by decide+kernel));exact List.pairwise_mergeSort (le:=fun x y:List UInt8=>decide (x≤y)) (fun a b c h1 h2=>by simp only[Zj]at*;exact List.le_trans h1 h2) (fun a b=>by simp only[Bool.or_eq_true,Zj];exact List.le_total a b) _
def ZDK (a:Zv):Bool:=decide (a.1.length≤80)&&(decide (a.2.1.length≤8)&&a.2.1.all fun v=>decide (v.length≤300))
def ZJO (e:Ky):Bool:=decide (e.1.length≤300)&&(decide (e.2.1.length≤12)&&e.2.1.all ZDK)
theorem ZeD (e:Ky):ZC Tryz.prog 8 [ZAT e] (.x (.bool (ZJO e))):=by
 obtain⟨dn,l,u⟩:=e;rcases hres:ZJO (dn,l,u)with b
 unfold ZJO at hres;simp only at hres;unfold ZAT;refine ZN.pure (ZP (fz:=true) ZH (p:=i8) rfl _ (ξ rfl) _ (fun C0 E0=> ?_)) rfl;dsimp only[i8,qt,qi,qs,qb,qm,qa,qh,qj,qT,qF,qe,ql,qL,qf,q2,q3,q8,qz,qp,qP,qc,qk,qx,qy,qo,qr,qC,ZQ];have uu:=trivial;have tT:=(ZG:SsOk Tryz.prog ZV);refine nz ?_;refine rg tT [1] ?_;refine rg tT [1,14] ?_;refine cd (fun h0=> ?_) (fun h0=> ?_)
 ·have hb:(decide (dn.length≤300)&&(decide (l.length≤12)&&l.all ZDK))=false:=by clear uu hres;generalize l.all ZDK=q;grind
  rw[hb]at hres;refine rg tT [2] ?_;refine lf ?_;rw[hres]
 ·have hdl:dn.length≤300∧l.length≤12:=by clear uu hres;grind
  rw[ZM hdl.1,ZM hdl.2,Bool.true_and,Bool.true_and]at hres;refine rg tT [1,3] ?_;refine WI.loop (fun φ os=> ∃(i:Nat),φ= [(1,.ptr 0 0),(3,.x (.int .i64 i))]∧os= [.box [.x (.str dn),.x (.sl (rows YP l))]]∧i≤l.length∧(l.take i).all ZDK=true) (ZK l.length 3) ?_ (fun φ os hI=> ?_)
  ·exact⟨0,rfl,rfl,by omega,rfl⟩
  ·obtain⟨i,rfl,rfl,hi,hall⟩:=hI;refine nz ?_;refine rg tT [1,3,19] ?_;refine cd (fun h1=> ?_) (fun h1=> ?_)
   ·have hi4:i<l.length:=by omega
    have hrw:=ZBT l i hi4;have hga:l[i]=l.getD i ([],[],()):=by simp[hi4]
    have hal:=YJ ZDK l i hi4;have hno:ZDK (l.getD i ([],[],()))=false→l.all ZDK=false:=fun h=>Ze ZDK l i hi4 (by rw[hga];exact h)
    rw[hga]at hal;generalize l.getD i ([],[],())=a at hrw hal hno;have hfa:ZDK a=(decide (a.1.length≤80)&&(decide (a.2.1.length≤8)&&a.2.1.all fun v=>decide (v.length≤300))):=rfl;have uu:=ZA uu hrw;refine rg tT [1,3,39] ?_;refine cd (fun h2=> ?_) (fun h2=> ?_)
    ·have hb:ZDK a=false:=by rw[hfa];clear uu hfa;generalize(a.2.1.all fun v=>decide (v.length≤300))=q;grind
     rw[hno hb]at hres;refine rg tT [2] ?_;refine lf ?_;rw[hres]
    ·have hdl2:a.1.length≤80∧a.2.1.length≤8:=by clear uu hfa;grind
     rw[ZM hdl2.1,ZM hdl2.2,Bool.true_and,Bool.true_and]at hfa;refine rg tT [1,3,4] ?_;refine WI.loop (fun φ os=> ∃(k:Nat),φ= [(1,.ptr 0 0),(3,.x (.int .i64 i)),(4,.x (.int .i64 k))]∧os= [.box [.x (.str dn),.x (.sl (rows YP l))]]∧k≤a.2.1.length∧(a.2.1.take k).all (fun v=>decide (v.length≤300))=true) (ZK a.2.1.length 4) ?_ (fun φ os hI=> ?_)
     ·exact⟨0,rfl,rfl,by omega,rfl⟩
     ·obtain⟨k,rfl,rfl,hk,hka⟩:=hI;refine nz ?_;refine rg tT [1,3,4,48] ?_;refine cd (fun h3=> ?_) (fun h3=> ?_)
      ·have hk4:k<a.2.1.length:=by omega
       have hrk:=JF a.2.1 k hk4;have hgk:a.2.1[k]=a.2.1.getD k []:=by simp[hk4]
       have hak:=YJ (fun v:Tx=>decide (v.length≤300)) a.2.1 k hk4;have hnk: ¬(a.2.1.getD k []).length≤300→a.2.1.all (fun v=>decide (v.length≤300))=false:=fun h=>Ze (fun v:Tx=>decide (v.length≤300)) a.2.1 k hk4 (by rw[hgk];exact decide_eq_false h)
       rw[hgk]at hak;generalize a.2.1.getD k []=y at hrk hak hnk;have uu:=ZA uu hrk;refine rg tT [1,3,4,61] ?_;refine cd (fun h4=> ?_) (fun h4=> ?_)
       ·have hy: ¬y.length≤300:=by clear uu;grind
        rw[hno (by rw[hfa];exact hnk hy)]at hres;refine rg tT [2] ?_;refine lf ?_;rw[hres]
       ·have hy:y.length≤300:=by clear uu;grind
        have hka2:(a.2.1.take (k+1)).all (fun v=>decide (v.length≤300))=true:=by rw[hak,hka,ZM hy];rfl
        refine rg tT [1,3,4] ?_;exact⟨⟨k+1,rfl,rfl,by omega,hka2⟩,by simp[ZK,Ab.get,D.val,ZF];omega⟩
      ·obtain rfl:k=a.2.1.length:=by omega
       rw[List.take_length]at hka;have hall2:(l.take (i+1)).all ZDK=true:=by rw[hal,hall,hfa,hka];rfl
       refine rg tT [1,3] ?_;exact⟨⟨i+1,rfl,rfl,by omega,hall2⟩,by simp[ZK,Ab.get,D.val,ZF];omega⟩
   ·refine rg tT [2] ?_;refine lf ?_;rw[YN (by omega)]at hall;rw[←hres,hall]
theorem ZUr {α:Type} {a b:List α} {i:Nat} (h:a.take i=b.take i) (ha:i<a.length) (hb:i<b.length) (he:a[i]=b[i]):a.take (i+1)=b.take (i+1):=by
 rw[List.take_add_one,List.take_add_one,h];simp[YE ha,YE hb,he]
theorem ZcA (a b:List (List UInt8)):ZC Tryz.prog 16 [.x (.sl (rows ZJ a)),.x (.sl (rows ZJ b))] (.x (.bool (decide (a=b)))):=by
 refine ZC.wf (fun hw=> ?_);have ha:a.length≤maxLen:=by have:=(hw _ (List.mem_cons_self)).1;rwa [YR]at this
 have hb:b.length≤maxLen:=by have:=(hw _ (List.mem_cons_of_mem _ List.mem_cons_self)).1;rwa [YR]at this
 clear hw;simp only[maxLen]at ha hb;refine ZN.pure (ZP (fz:=true) ZH (p:=i16) rfl _ (ξ rfl) _ (fun c E0=> ?_)) rfl;dsimp only[i16,qt,qi,qs,qb,qm,qa,qh,qj,qT,qF,qe,ql,qL,qf,q2,q3,q8,qz,qp,qP,qc,qk,qx,qy,qo,qr,qC,ZQ];have uu:=trivial;have tT:=(ZG:SsOk Tryz.prog ZV);refine nz ?_;refine rg tT [0,1] ?_;refine rg tT [0,1,10] ?_;refine cd (fun h0=> ?_) (fun h0=> ?_)
 ·refine rg tT [4] ?_;refine lf ?_;rw[decide_eq_false (fun e=>h0 (by rw[e]))]
 ·refine rg tT [0,1,5] ?_;refine WI.loop (fun φ os=> ∃i:Nat,φ= [(0,.x (.sl (rows ZJ a))),(1,.x (.sl (rows ZJ b))),(5,.x (.int .i64 i))]∧os= []∧i≤a.length∧a.take i=b.take i) (ZK a.length 5) ?_ (fun φ os hI=> ?_)
  ·exact⟨0,rfl,rfl,by omega,by simp⟩
  ·obtain⟨i,rfl,rfl,hi,he⟩:=hI;refine nz ?_;refine rg tT [0,1,5,14] ?_;refine cd (fun h1=> ?_) (fun h1=> ?_)
   ·refine WI.dregB tT [0,1,5,25] ?_
    iterate 2 refine Zn ?_
    iterate 2 refine YG ?_
    iterate 2 refine Zn ?_
    iterate 2 refine YG ?_
    refine Ye ?_;refine dN ?_;refine nz ?_;refine cd (fun h2=> ?_) (fun h2=> ?_)
    ·refine rg tT [4] ?_;refine lf ?_;rw[decide_eq_false (fun e=>h2 (by subst e;rfl))]
    ·refine rg tT [0,1,5] ?_;exact⟨⟨i+1,by simp,rfl,by omega,ZUr he (by omega) (by omega) h2⟩,by simp[ZK,Ab.get,D.val,ZF];omega⟩
   ·refine rg tT [4] ?_;refine lf ?_;rw[ZM];rw[YN (by omega),YN (by omega)]at he;exact he
def ZFM:List D→Option (Bool×D)
 | [.x (.sl A),.x (.sl B)]=>(Zg ZJ A).bind fun a=>(Zg ZJ B).map fun b=>(true,.x (.bool (decide (a=b))))
 |_=>none
theorem ZWd: ∀args r,ZFM args=some (true,r)→ZC Tryz.prog 16 args r:=by
 intro args r h;unfold ZFM at h;split at h
 ·simp only[Yk,Kh]at h;obtain⟨a,h1,b,h2,h3⟩:=h;cases h3;rw[←ZX Zb h1,←ZX Zb h2];exact ZcA a b
 ·cases h
def ZCd:List D→List Ob→Option (Bool×D)
 | [.ptr 0 0,.agg [.x (.str dn),.x (.sl R)]],[.box [.mref 1,.mref 2],.mpo .str true P1,.mpo .str true P2]=>(Ke ZJ Zw P1).bind fun L=>(Ke ZJ YW P2).bind fun M=>(Zg YP R).bind fun l=>some (decide (ZI3 M l),.x (.int .i64 (ZE6 L M l)))
 |_,_=>none
theorem ZTT: ∀args os r,ZCd args os=some (true,r)→r.clean=true∧ ∃X,ZU Tryz.prog 17 args os r (os++X):=by
 intro args os r h;unfold ZCd at h;split at h
 ·rename_i dn R P1 P2;obtain⟨L,hm0,h⟩:=Zr h;obtain⟨M,hm1,h⟩:=Zr h;obtain⟨l,hr0,h⟩:=Zr h;simp only[Zf,Zc,ZW,Zj,true_and]at h;obtain⟨h1,rfl⟩:=h;rw[Yo Zb YM hm0];rw[Yo Zb Yc hm1];rw[←ZX JW hr0];exact⟨rfl,[],by rw[List.append_nil];exact ZQS L M (dn,l,()) h1.2.1 h1.2.2 (ZTx h1.1)⟩
 ·cases h
def ZCT:List D→List Ob→Option (Bool×D)
 | [.ptr 0 0],[.box [.mref 1,.mref 2],.mpo .str true P1,.mpo .str true P2]=>(Ke ZJ Zw P1).bind fun L=>(Ke ZJ YW P2).bind fun M=>some (decide (ZNO L),.x (.sl (rows ZJ (ZBd (L.map (·.1))))))
 |_,_=>none
theorem ZSO: ∀args os r,ZCT args os=some (true,r)→r.clean=true∧ ∃X,ZU Tryz.prog 19 args os r (os++X):=by
 intro args os r h;unfold ZCT at h;split at h
 ·rename_i P1 P2;obtain⟨L,hm0,h⟩:=Zr h;obtain⟨M,hm1,h⟩:=Zr h;simp only[Zf,Zc,ZW,Zj,true_and]at h;obtain⟨h1,rfl⟩:=h;rw[Yo Zb YM hm0];rw[Yo Zb Yc hm1];exact⟨rfl,[],by rw[List.append_nil];exact ZQp L M h1.1 h1.2⟩
 ·cases h
theorem ZQ8:ZD8 plC:=by decide+kernel
theorem ZbB:ZMv (YA Qs):=by decide+kernel
theorem Za4:decide (ZNO (YA Qs))=true:=by decide+kernel
theorem Zcg:okM (YH plC):=by decide+kernel
theorem Zd7:rows ZJ (ZBd ((YA Qs).map (·.1)))= [[.str [99,110]],[.str [100,99]],[.str [100,101,115,99,114,105,112,116,105,111,110]],[.str [109,97,105,108]],[.str [109,101,109,98,101,114]],[.str [111]],[.str [111,98,106,101,99,116,99,108,97,115,115]],[.str [111,117]],[.str [115,101,114,105,97,108,110,117,109,98,101,114]],[.str [115,110]],[.str [117,105,100]],[.str [117,105,100,110,117,109,98,101,114]],[.str [117,115,101,114,112,97,115,115,119,111,114,100]]]:=by rw[Zc2];rfl
theorem Zcv:Zg Zw [[.str [99,110],.int .i64 1,.bool false],[.str [115,110],.int .i64 1,.bool false],[.str [111,117],.int .i64 1,.bool false],[.str [100,99],.int .i64 1,.bool false],[.str [111],.int .i64 1,.bool false],[.str [100,101,115,99,114,105,112,116,105,111,110],.int .i64 1,.bool false],[.str [109,97,105,108],.int .i64 1,.bool false],[.str [111,98,106,101,99,116,99,108,97,115,115],.int .i64 1,.bool false],[.str [117,115,101,114,112,97,115,115,119,111,114,100],.int .i64 4,.bool true],[.str [117,105,100],.int .i64 1,.bool true],[.str [117,105,100,110,117,109,98,101,114],.int .i64 3,.bool true],[.str [109,101,109,98,101,114],.int .i64 5,.bool false],[.str [115,101,114,105,97,108,110,117,109,98,101,114],.int .i64 2,.bool false]]=some Qs:=rfl
theorem ZdV:Zg YW [[.str [116,111,112],.sl [],.sl []],[.str [112,101,114,115,111,110],.sl [[.str [99,110]],[.str [115,110]]],.sl [[.str [100,101,115,99,114,105,112,116,105,111,110]],[.str [117,115,101,114,112,97,115,115,119,111,114,100]],[.str [109,97,105,108]],[.str [117,105,100]],[.str [117,105,100,110,117,109,98,101,114]],[.str [115,101,114,105,97,108,110,117,109,98,101,114]],[.str [109,101,109,98,101,114]]]],[.str [111,114,103,97,110,105,122,97,116,105,111,110,97,108,117,110,105,116],.sl [[.str [111,117]]],.sl [[.str [100,101,115,99,114,105,112,116,105,111,110]],[.str [109,101,109,98,101,114]]]],[.str [100,111,109,97,105,110],.sl [[.str [100,99]]],.sl [[.str [100,101,115,99,114,105,112,116,105,111,110]],[.str [111]]]],[.str [103,114,111,117,112],.sl [[.str [99,110]]],.sl [[.str [109,101,109,98,101,114]],[.str [100,101,115,99,114,105,112,116,105,111,110]]]]]=some plC:=rfl
def ZCa:List D→Option (Bool×D)
 | []=>some (true,.agg [.x (.sl [[.str [99,110],.int .i64 1,.bool false],[.str [115,110],.int .i64 1,.bool false],[.str [111,117],.int .i64 1,.bool false],[.str [100,99],.int .i64 1,.bool false],[.str [111],.int .i64 1,.bool false],[.str [100,101,115,99,114,105,112,116,105,111,110],.int .i64 1,.bool false],[.str [109,97,105,108],.int .i64 1,.bool false],[.str [111,98,106,101,99,116,99,108,97,115,115],.int .i64 1,.bool false],[.str [117,115,101,114,112,97,115,115,119,111,114,100],.int .i64 4,.bool true],[.str [117,105,100],.int .i64 1,.bool true],[.str [117,105,100,110,117,109,98,101,114],.int .i64 3,.bool true],[.str [109,101,109,98,101,114],.int .i64 5,.bool false],[.str [115,101,114,105,97,108,110,117,109,98,101,114],.int .i64 2,.bool false]]),.x (.sl [[.str [116,111,112],.sl [],.sl []],[.str [112,101,114,115,111,110],.sl [[.str [99,110]],[.str [115,110]]],.sl [[.str [100,101,115,99,114,105,112,116,105,111,110]],[.str [117,115,101,114,112,97,115,115,119,111,114,100]],[.str [109,97,105,108]],[.str [117,105,100]],[.str [117,105,100,110,117,109,98,101,114]],[.str [115,101,114,105,97,108,110,117,109,98,101,114]],[.str [109,101,109,98,101,114]]]],[.str [111,114,103,97,110,105,122,97,116,105,111,110,97,108,117,110,105,116],.sl [[.str [111,117]]],.sl [[.str [100,101,115,99,114,105,112,116,105,111,110]],[.str [109,101,109,98,101,114]]]],[.str [100,111,109,97,105,110],.sl [[.str [100,99]]],.sl [[.str [100,101,115,99,114,105,112,116,105,111,110]],[.str [111]]]],[.str [103,114,111,117,112],.sl [[.str [99,110]]],.sl [[.str [109,101,109,98,101,114]],[.str [100,101,115,99,114,105,112,116,105,111,110]]]]])])
 |_=>none
theorem ZSo: ∀args r,ZCa args=some (true,r)→ZC Tryz.prog 11 args r:=by
 intro args r h;unfold ZCa at h;split at h
 ·simp only[Zf,Zc,ZW,Zj,true_and]at h;obtain rfl:=h;exact ZYr
 ·cases h
def ZLK:List D→Option (Bool×D)
 | [.agg [.x (.str dn),.x (.sl R)]]=>(Zg YP R).bind fun l=>some (true,.x (.bool (ZJO (dn,l,()))))
 |_=>none
theorem ZbX: ∀args r,ZLK args=some (true,r)→ZC Tryz.prog 8 args r:=by
 intro args r h;unfold ZLK at h;split at h
 ·rename_i dn R;obtain⟨l,hr0,h⟩:=Zr h;simp only[Zf,Zc,ZW,Zj,true_and]at h;obtain rfl:=h;rw[←ZX JW hr0];exact(ZeD (dn,l,()))
 ·cases h
def ZDo:List D→Option (Bool×D)
 | [.agg [.x (.sl R),.x (.sl R2)],.agg [.x (.str dn),.x (.sl R3)]]=>(Zg Zw R).bind fun T=>(Zg YW R2).bind fun C=>(Zg YP R3).bind fun l=>some (decide (smT T∧(ZD8 C∧smE l)),.x (.int .i64 (ZLF (YA T) (YH C) l)))
 |_=>none
theorem ZRh: ∀args r,ZDo args=some (true,r)→ZC Tryz.prog 18 args r:=by
 intro args r h;unfold ZDo at h;split at h
 ·rename_i R R2 dn R3;obtain⟨T,hr0,h⟩:=Zr h;obtain⟨C,hr1,h⟩:=Zr h;obtain⟨l,hr2,h⟩:=Zr h;simp only[Zf,Zc,ZW,Zj,true_and]at h;obtain⟨h1,rfl⟩:=h;rw[←ZX YM hr0];rw[←ZX Yc hr1];rw[←ZX JW hr2];exact(ZX3 T C (dn,l,()) h1.1 h1.2.1 h1.2.2)
 ·cases h
def ZBi:List D→Option (Bool×D)
 | [.agg [.x (.sl R),.x (.sl R2)]]=>(Zg Zw R).bind fun T=>(Zg YW R2).map fun C=>(decide (T=Qs∧C=plC),.x (.sl [[.str [99,110]],[.str [100,99]],[.str [100,101,115,99,114,105,112,116,105,111,110]],[.str [109,97,105,108]],[.str [109,101,109,98,101,114]],[.str [111]],[.str [111,98,106,101,99,116,99,108,97,115,115]],[.str [111,117]],[.str [115,101,114,105,97,108,110,117,109,98,101,114]],[.str [115,110]],[.str [117,105,100]],[.str [117,105,100,110,117,109,98,101,114]],[.str [117,115,101,114,112,97,115,115,119,111,114,100]]]))
 |_=>none
theorem ZRp: ∀args r,ZBi args=some (true,r)→ZC Tryz.prog 20 args r:=by
 intro args r h;unfold ZBi at h;split at h
 ·rename_i R R';obtain⟨a,h1,h⟩:=Zr h;obtain⟨b,h2,h3⟩:=Zd h;simp only[Zc,Zj]at h3;obtain⟨⟨rfl,rfl⟩,rfl⟩:=h3;rw[←ZX YM h1,←ZX Yc h2];exact ZXu
 ·cases h
def ZFO:List D→List Ob→Option (Bool×D×List Ob)
 | [],[]=>some (true,.ptr 0 0,Qa (YA Qs) (YH plC))
 |_,_=>none
theorem ZU8: ∀args os r os',ZFO args os=some (true,r,os')→ZU Tryz.prog 10 args os r os':=by
 intro args os r os' h;unfold ZFO at h;split at h
 ·simp only[Zf,Zc,true_and]at h;obtain⟨rfl,rfl⟩:=h;exact ZQL
 ·cases h
def Yr:Tabs:=ZJV (ZJV (JR (JR (ZY (ZY (ZY (ZY (ZY (ZY (ZY (ZY (JR (ZV) 10 ZFO) 8 ZLK) 9 ZCW) 11 ZCa) 13 QP) 15 ZAQ) 18 ZDo) 20 ZBi) 16 ZFM) 12 ZCt) 14 QS) 17 ZCd) 19 ZCT
theorem ZXh:SsOk Tryz.prog Yr:=ZIS (ZIS (Yl (Yl (ZL (ZL (ZL (ZL (ZL (ZL (ZL (ZL (Yl (ZG) (ZB ZH (p:=i10) rfl) ZU8) (ZB ZH (p:=i8) rfl) ZbX) (ZB ZH (p:=i9) rfl) ZPe) (ZB ZH (p:=i11) rfl) ZSo) (ZB ZH (p:=i13) rfl) ZHv) (ZB ZH (p:=i15) rfl) ZKk) (ZB ZH (p:=i18) rfl) ZRh) (ZB ZH (p:=i20) rfl) ZRp) (ZB ZH (p:=i16) rfl) ZWd) (ZB ZH (p:=i12) rfl) ZM9) (ZB ZH (p:=i14) rfl) ZHw) (ZB ZH (p:=i17) rfl) ZTT) (ZB ZH (p:=i19) rfl) ZSO
theorem ZTk (a:List D):Yr.q 10 a=none:=rfl
theorem ZWg (a:List D) (o:List Ob):Yr.t 10 a o=YU ZFO a o:=rfl
theorem ZYb (a:List D):Yr.q 8 a=ZLK a:=rfl
theorem ZXy (a:List D):Yr.q 9 a=ZCW a:=rfl
theorem ZUo (a:List D):Yr.q 11 a=ZCa a:=rfl
theorem ZWq (a:List D):Yr.q 13 a=QP a:=rfl
theorem ZWy (a:List D):Yr.q 15 a=ZAQ a:=rfl
theorem ZVZ (a:List D):Yr.q 18 a=ZDo a:=rfl
theorem ZUy (a:List D):Yr.q 20 a=ZBi a:=rfl
theorem ZUg (a:List D):Yr.q 16 a=ZFM a:=rfl
theorem ZW3 (a:List D):Yr.q 12 a=none:=rfl
theorem ZU0 (a:List D) (o:List Ob):Yr.t 12 a o=YU ZCt a o:=rfl
theorem ZTv (a:List D):Yr.q 14 a=none:=rfl
theorem ZWG (a:List D) (o:List Ob):Yr.t 14 a o=YU QS a o:=rfl
theorem ZW4 (a:List D):Yr.q 17 a=none:=rfl
theorem ZV1 (a:List D) (o:List Ob):Yr.t 17 a o=(KV ZCd a o).map fun r=>(r.1,r.2,o):=rfl
theorem ZUd (a:List D) (o:List Ob):Yr.r 17 a o=KV ZCd a o:=rfl
theorem ZUO (a:List D):Yr.q 19 a=none:=rfl
theorem ZWc (a:List D) (o:List Ob):Yr.t 19 a o=(KV ZCT a o).map fun r=>(r.1,r.2,o):=rfl
theorem ZTf (a:List D) (o:List Ob):Yr.r 19 a o=KV ZCT a o:=rfl
theorem ZTr (a:List D) (o:List Ob):Yr.r 10 a o=none:=rfl
theorem ZUw (a:List D) (o:List Ob):Yr.r 11 a o=none:=rfl
theorem ZVu (a:List D) (o:List Ob):Yr.r 12 a o=none:=rfl
theorem ZUK (a:List D) (o:List Ob):Yr.r 13 a o=none:=rfl
theorem ZWZ (a:List D) (o:List Ob):Yr.r 14 a o=none:=rfl
theorem ZVe (a:List D) (o:List Ob):Yr.r 15 a o=none:=rfl
theorem ZVs (a:List D) (o:List Ob):Yr.r 16 a o=none:=rfl
theorem ZU4 (a:List D) (o:List Ob):Yr.r 18 a o=none:=rfl
theorem ZVA (a:List D) (o:List Ob):Yr.r 20 a o=none:=rfl
theorem ZXo (a:List D) (o:List Ob):Yr.r 8 a o=none:=rfl
theorem ZXr (a:List D) (o:List Ob):Yr.r 9 a o=none:=rfl
theorem ZaU (f:FuncId) (a:List D) (o:List Ob):Yr.k f a o=none:=rfl
theorem Zcu {e:Ky} (h:ZJO e=true):smE e.2.1:=by
 simp only[ZJO,ZDK,ZW,Zj,List.all_eq_true]at h;refine⟨⟨by omega,fun a ha=> ?_⟩,fun a ha v hv=> ?_⟩
 ·have:=h.2.2 a ha;omega
 ·have:=(h.2.2 a ha).2.2 v hv;omega
set_option maxHeartbeats 8000000 in
theorem ZMc (e:Ky) (n:Tx):ZC Tryz.prog 3 [ZAT e,.x (.str n)] (.x (.bool true)):=by
 obtain⟨dn,l,u⟩:=e;have hu1:=ZEd (YA Qs);have hu2:=ZEr (YH plC);obtain⟨rT,hrT⟩: ∃r,r=([[.str [99,110],.int .i64 1,.bool false],[.str [115,110],.int .i64 1,.bool false],[.str [111,117],.int .i64 1,.bool false],[.str [100,99],.int .i64 1,.bool false],[.str [111],.int .i64 1,.bool false],[.str [100,101,115,99,114,105,112,116,105,111,110],.int .i64 1,.bool false],[.str [109,97,105,108],.int .i64 1,.bool false],[.str [111,98,106,101,99,116,99,108,97,115,115],.int .i64 1,.bool false],[.str [117,115,101,114,112,97,115,115,119,111,114,100],.int .i64 4,.bool true],[.str [117,105,100],.int .i64 1,.bool true],[.str [117,105,100,110,117,109,98,101,114],.int .i64 3,.bool true],[.str [109,101,109,98,101,114],.int .i64 5,.bool false],[.str [115,101,114,105,97,108,110,117,109,98,101,114],.int .i64 2,.bool false]]:List (List X)):=⟨_,rfl⟩;obtain⟨rC,hrC⟩: ∃r,r=([[.str [116,111,112],.sl [],.sl []],[.str [112,101,114,115,111,110],.sl [[.str [99,110]],[.str [115,110]]],.sl [[.str [100,101,115,99,114,105,112,116,105,111,110]],[.str [117,115,101,114,112,97,115,115,119,111,114,100]],[.str [109,97,105,108]],[.str [117,105,100]],[.str [117,105,100,110,117,109,98,101,114]],[.str [115,101,114,105,97,108,110,117,109,98,101,114]],[.str [109,101,109,98,101,114]]]],[.str [111,114,103,97,110,105,122,97,116,105,111,110,97,108,117,110,105,116],.sl [[.str [111,117]]],.sl [[.str [100,101,115,99,114,105,112,116,105,111,110]],[.str [109,101,109,98,101,114]]]],[.str [100,111,109,97,105,110],.sl [[.str [100,99]]],.sl [[.str [100,101,115,99,114,105,112,116,105,111,110]],[.str [111]]]],[.str [103,114,111,117,112],.sl [[.str [99,110]]],.sl [[.str [109,101,109,98,101,114]],[.str [100,101,115,99,114,105,112,116,105,111,110]]]]]:List (List X)):=⟨_,rfl⟩;have hn1:=Zcv;have hn2:=ZdV;have hpl:ZCa []=some (true,.agg [.x (.sl rT),.x (.sl rC)]):=by rw[hrT,hrC];rfl
 rw[←hrT]at hn1;rw[←hrC]at hn2;have hnm:ZBi [.agg [.x (.sl rT),.x (.sl rC)]]=some (true,.x (.sl (rows ZJ (ZBd ((YA Qs).map (·.1)))))):=by
  unfold ZBi;simp only[hn1,hn2,Option.bind_some,Option.map_some];rw[Zd7];simp
 have hok:=Za4;have hbs: ∀x:List UInt8,(x==x)=true:=fun x=>beq_self_eq_true x
 have hbi: ∀x:Int,(x==x)=true:=fun x=>beq_self_eq_true x
 have hbb: ∀x:Bool,(x==x)=true:=fun x=>beq_self_eq_true x
 unfold ZAT;refine ZN.pure (ZP (fz:=true) ZH (p:=i3) rfl _ (ξ rfl) _ (fun C0 E0=> ?_)) rfl;dsimp only[i3,qt,qi,qs,qb,qm,qa,qh,qj,qT,qF,qe,ql,qL,qf,q2,q3,q8,qz,qp,qP,qc,qk,qx,qy,qo,qr,qC,ZQ];have uu:=ZA @ZLK.eq_1 (ZA @ZLK.eq_2 (ZA @ZCW.eq_1 (ZA @ZCW.eq_2 (ZA hpl (ZA @ZFO.eq_1 (ZA @ZFO.eq_2 (ZA @QP.eq_1 (ZA @QP.eq_2 (ZA @ZAQ.eq_1 (ZA @ZAQ.eq_2 (ZA @ZDo.eq_1 (ZA @ZDo.eq_2 (ZA hnm (ZA @ZFM.eq_1 (ZA @ZFM.eq_2 (ZA @ZCt.eq_1 (ZA @ZCt.eq_2 (ZA @QS.eq_1 (ZA @QS.eq_2 (ZA @ZCd.eq_1 (ZA @ZCd.eq_2 (ZA @ZCT.eq_1 (ZA @ZCT.eq_2 (ZA hn1 (ZA hn2 (ZA hu1 (ZA hu2 (ZA @ZKU (ZA @ZIY (ZA hok (ZA @ZAK (ZA @ZAG (ZA @ZBP (ZA @ZBK (ZA @Ko (ZA @Kp (ZA @@QA.eq_1 (ZA @@clD.eq_1 (ZA hbs (ZA hbi (ZA hbb (ZA @ZTr (ZA @ZUw (ZA @ZVu (ZA @ZUK (ZA @ZWZ (ZA @ZVe (ZA @ZVs (ZA @ZUd (ZA @ZU4 (ZA @ZTf (ZA @ZVA (ZA @ZXo (ZA @ZXr (ZA @ZaU (ZA @ZTk (ZA @ZUo (ZA @ZW3 (ZA @ZWq (ZA @ZTv (ZA @ZWy (ZA @ZUg (ZA @ZW4 (ZA @ZVZ (ZA @ZUO (ZA @ZUy (ZA @ZYb (ZA @ZXy (ZA @ZWg (ZA @ZU0 (ZA @ZWG (ZA @ZV1 (ZA @ZWc (ZA @ZBi.eq_1 (ZA @ZBi.eq_2 (ZA @ZCa.eq_1 (@ZCa.eq_2)))))))))))))))))))))))))))))))))))))))))))))))))))))))))))))))))))))))))))));have tT:=ZXh;refine nz ?_;refine rg tT [1,2] ?_;refine rg tT [1,2,22] ?_;refine cd (fun h0=> ?_) (fun h0=> ?_)
 ·refine rg tT [4] ?_;refine lf ?_
  first|rfl|exact⟨rfl,rfl⟩|trivial
 ·have hf:ZJO (dn,l,())=true∧n.length≤100:=by clear uu;grind
  have hE:=Zcu hf.1;have hd1:decide (n.length≤140737488355328)=true:=ZM (by omega);have hd2:decide (smT Qs∧n.length≤1000000)=true:=ZM ⟨ZM6,by omega⟩;have hd3:decide (ZD8 plC∧n.length≤1000000)=true:=ZM ⟨ZQ8,by omega⟩;have hd4:decide (smT Qs∧(ZD8 plC∧smE l))=true:=ZM ⟨ZM6,ZQ8,hE⟩;have hd5:decide (ZI3 (YH plC) l)=true:=ZM ⟨Zcg,hE.1,hE.2⟩;have hck:=ZdL (YH plC) ZbB l;have uu:=ZA uu (ZA hd1 (ZA hd2 (ZA hd3 (ZA hd4 (ZA hd5 hck)))));refine rg tT [1,2,5,6] ?_;refine rg tT [1,2,5,6,27] ?_;refine ce (fun h1=> ?_) (fun h1=> ?_)
  ·simp at h1
  ·refine rg tT [1,2,5,6,7,8] ?_;refine rg tT [1,2,5,6,7,8,9,10] ?_;refine rg tT [1,2,5,6,7,8,9,10,11,12] ?_;refine rg tT [2,5,6,7,8,9,10,11,12,13,14] ?_;refine WI.dregB tT [4] ?_
   iterate 2 refine YG ?_
   refine Ye ?_;refine Zn ?_
   iterate 4 refine Ye ?_
   refine Zn ?_;refine Ye ?_;refine YG ?_;refine Ye ?_;refine YG ?_
   iterate 2 refine Ye ?_
   refine Zn ?_;refine Ye ?_;refine YG ?_;refine Ye ?_;refine YG ?_;refine Qi ?_;refine Ye ?_;refine Zn ?_;refine Ye ?_;refine YG ?_;refine Ye ?_;refine YG ?_;refine Qi ?_;refine Ye ?_;refine Zn ?_
   iterate 4 refine Ye ?_
   refine Zn ?_;refine Ye ?_;refine YG ?_;refine Qi ?_
   iterate 2 refine YG ?_
   refine Qi ?_
   iterate 2 refine Ye ?_
   refine Zn ?_;refine Ye ?_;refine Qi ?_;refine YG ?_
   iterate 2 refine dAC ?_
   refine Ye ?_;refine Zn ?_;refine dAC ?_;refine Ye ?_;refine Zn ?_;refine dN ?_;refine nz ?_;refine lf ?_
   first|rfl|exact⟨rfl,rfl⟩|trivial
end Go.Proofs.YtpjfdjcejamebaaGreatDoor
end
