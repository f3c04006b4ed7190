import Derived.Test.YtiogclkbccdefaaGreatDoorLA1
import Derived.Shelf.Spec.SlicesInsertGrow
import Derived.Test.YtiogclkbccdefaaGreatDoorProg
import Derived.Test.YtiogclkbccdefaaGreatDoorLA5
import Derived.Test.YtiogclkbccdefaaGreatDoorSh
import Derived.Lib.SplitLaws
import Derived.Lib.Join
import Derived.Lib.MapLaws
import Derived.Test.YtiogclkbccdefaaGreatDoorLA6
import Derived.Shelf.Spec.SlicesGrow
import Derived.Handy
import Derived.Lib.SlBytesConst
set_option linter.unusedSimpArgs false
set_option linter.unusedVariables false
set_option maxRecDepth 100000
theorem Wa{p:Prop}(h:p:=by simp[ZJ,Ab.get,D.val,ZD];omega):p:=h
theorem We{p:Prop}(h:p:=by first|exact se|(clear uu;grind)|exact sd):p:=h
theorem Wf{A B:Prop}(hZ:A)(k:Go.Ab.Bx A->B:=by(intro hZ;refine oS ?_;refine oN ?_;refine nz ?_;exact hZ.h)):B:=k ⟨hZ⟩
theorem Wj{A B:Prop}(hZ:A)(k:Go.Ab.Bx A->B:=by(intro hZ;refine rg [4] ?_;refine lf ?_;exact hZ.h)):B:=k ⟨hZ⟩
theorem Wn{A B:Prop}(hZ:A)(k:Go.Ab.Bx A->B:=by(intro hZ;refine ZU ?_;refine ZU ?_;exact hZ.h)):B:=k ⟨hZ⟩
theorem Wo{p:Prop}(h:p:=by first|rfl|exact⟨rfl,rfl⟩|trivial):p:=h
theorem Wu{A B:Prop}(hZ:A)(k:Go.Ab.Bx A->B:=by(intro hZ;refine oS ?_;refine oS ?_;exact hZ.h)):B:=k ⟨hZ⟩
theorem Ww{p:Prop}(h:p:=by clear uu;grind):p:=h
theorem Wy{A B:Prop}(hZ:A)(k:Go.Ab.Bx A->B:=by(intro hZ;refine rg [2] ?_;refine lf ?_;exact hZ.h)):B:=k ⟨hZ⟩
theorem W4{A B:Prop}(hZ:A)(k:Go.Ab.Bx A->B:=by(intro hZ;refine oG ?_;refine oG ?_;exact hZ.h)):B:=k ⟨hZ⟩
theorem W5{p:Prop}(h:p:=by exact⟨0,rfl,rfl,J0,rfl⟩):p:=h
theorem WF{A B:Prop}(hZ:A)(k:Go.Ab.Bx A->B:=by(intro hZ;refine oS ?_;refine oG (hok:=We) ?_;exact hZ.h)):B:=k ⟨hZ⟩
theorem WG{p:Prop}(h:p:=by rw[hi,htt];first|(rw[if_pos ⟨h2.1,h2.2⟩];done)|(rw[if_pos ⟨h2.1,h2.2⟩];rfl)|(rw[if_neg (by rcases h2 with h2|h2<;>simp[h2])];done)|(rw[if_neg (by rcases h2 with h2|h2<;>simp[h2])];rfl)):p:=h
theorem WH{p:Prop}(h:p:=by first|exact se|(exact ZI J0)|(rw[YR J1];exact JO _)|exact sd):p:=h
theorem WN{p:Prop}(h:p:=by first|exact se|(rw[YR (Zr _)];exact ZI ⟨hoj2,J0⟩)|exact sd):p:=h
theorem WV{p:Prop}(h:p:=by first|exact⟨⟨M+1,j,rfl,rfl,J0,J0,J0⟩,by simp[dif,Ab.get,D.val,ZD];omega⟩|exact⟨⟨i,M,rfl,rfl,J0,J0,J0⟩,by simp[dif,Ab.get,D.val,ZD];omega⟩):p:=h
theorem Vg{p:Prop}(h:p:=by exact⟨0,rfl,rfl,J0⟩):p:=h
theorem Vh{p:Prop}(h:p:=by simpa using h0):p:=h
theorem Vi{A B:Prop}(hZ:A)(k:Go.Ab.Bx A->B:=by(intro hZ;refine rg [2,3] ?_;refine lf ?_;exact hZ.h)):B:=k ⟨hZ⟩
theorem Vr{A B:Prop}(hZ:A)(k:Go.Ab.Bx A->B:=by(intro hZ;refine rg [6,8,25,26,27] ?_;refine rg [6,25,26,27] ?_;refine rg [6,25,26,27] ?_;refine WI.round ?_;refine rg [6,25,26,27,28] ?_;exact hZ.h)):B:=k ⟨hZ⟩
theorem Vw{p:Prop}(h:p:=by rw[<-ξQ];rw[<-hys,Kp]at hj;split at hj;exact hj;cases hj):p:=h
theorem Vx{A B:Prop}(hZ:A)(k:Go.Ab.Bx A->B:=by(intro hZ;refine Jg [0] ?_;refine KI ?_;refine nz ?_;exact hZ.h)):B:=k ⟨hZ⟩
theorem V9{A B:Prop}(hZ:A)(k:Go.Ab.Bx A->B:=by(intro hZ;refine oN ?_;refine nz ?_;exact hZ.h)):B:=k ⟨hZ⟩
theorem VD{A B:Prop}(hZ:A)(k:Go.Ab.Bx A->B:=by(intro hZ;refine rg [0] ?_;refine rg [0,3] ?_;exact hZ.h)):B:=k ⟨hZ⟩
theorem VN{p:Prop}(h:p:=by refine WI.post ?_;refine WI.regB tT [0,3,4] ?_;refine oS ?_;refine oG (hok:=WH) ?_;refine oS ?_;refine oP ?_;refine Vx ?_;exact⟨⟨i+1,by rw[hst,ZW];rfl,by rw[hst,YU];first|rfl|rw[ZFO hcs]|rw[ZaM hcs],J0⟩,Wa⟩):p:=h
theorem VP{A B:Prop}(hZ:A)(k:Go.Ab.Bx A->B:=by(intro hZ;refine dN ?_;refine nz ?_;exact hZ.h)):B:=k ⟨hZ⟩
theorem VS{A B:Prop}(hZ:A)(k:Go.Ab.Bx A->B:=by(intro hZ;refine rg [0,1] ?_;refine rg [0,1,5] ?_;exact hZ.h)):B:=k ⟨hZ⟩
theorem VV{p:Prop}(h:p:=by exact⟨⟨r.drop 1,rfl,rfl,Wx,by rw[he,ZMV r h0p h0c]⟩,by show(r.drop 1).length<r.length;rw[KQ];omega⟩):p:=h
theorem Ub{A B:Prop}(hZ:A)(k:Go.Ab.Bx A->B:=by(intro hZ;refine nz ?_;refine WI.regB tT [0] ?_;refine Wf ?_;refine WI.regB tT [0,3] ?_;refine Wf ?_;exact hZ.h)):B:=k ⟨hZ⟩
theorem Ul{A B:Prop}(hZ:A)(k:Go.Ab.Bx A->B:=by(intro hZ;refine rg [0,3,5,9,10,11] ?_;refine rg [0,3,9,10,11] ?_;refine rg [0,3,9,10,11,20] ?_;exact hZ.h)):B:=k ⟨hZ⟩
theorem Un{A B:Prop}(hZ:A)(k:Go.Ab.Bx A->B:=by(intro hZ;refine Wf ?_;refine lf ?_;exact hZ.h)):B:=k ⟨hZ⟩
theorem Us{A B:Prop}(hZ:A)(k:Go.Ab.Bx A->B:=by(intro hZ;refine oS ?_;refine W4 ?_;exact hZ.h)):B:=k ⟨hZ⟩
theorem Uu{p:Prop}(h:p:=by decide+kernel):p:=h
theorem Uw{p:Prop}(h:p:=by simp[Act.eval,Act.put]):p:=h
theorem U2{p:Prop}(h:p:=by rw[setRow_other (W1.setRow w.heap.size R1).drew _ k _ J0];show(W1.setRow w.heap.size R1).heap[k]? =_;rw[setRow_other W1 _ k _ J0,hW1];exact heap_alloc_old w.drew _ hk):p:=h
theorem UE{A B:Prop}(hZ:A)(k:Go.Ab.Bx A->B:=by(intro hZ;refine rg [0,3,9,10,11] ?_;refine WI.round ?_;refine rg [0,3,9,10,11,12] ?_;exact hZ.h)):B:=k ⟨hZ⟩
theorem UI{p:Prop}(h:p:=by have hx:=Zw (l:=xs) (i:=i) J0;have h2:=k3 i [.str (l[i])] 0 (.str l[i]) xs[i] (by simp[rows,hi,ZC]) rfl (by rw[Ql];exact hx);rw[hx,YI,Zw hi];rw[ZS3 h2,Yq]):p:=h
theorem US{p:Prop}(h:p:=by exact absurd h0 WT):p:=h
theorem UX{p:Prop}(h:p:=by first|exact⟨⟨j+1,o++ [(QF 32 s)[j]],by first|rfl|simp,by rw[<-ZSn],J0,ho2,Wx⟩,Wa⟩|exact⟨⟨j+1,o,by first|rfl|simp,rfl,J0,ho2,J0⟩,Wa⟩):p:=h
theorem Td{p:Prop}(h:p:=by simp only[List.toList_toArray];rw[h];unfold YY;rw[<-hA,<-hB,ZM5 (by simp only[ZW,hAl,hyl,hBl];omega),YR (by simp only[ZW,hAl,hyl,hBl];omega)]):p:=h
theorem Tl{p:Prop}(h:p:=by simp only[List.toList_toArray];rw[h];unfold YY;rw[<-hA,ZM5 (by simp only[ZW,hAl,hyl,hdl];omega),YR (by simp only[ZW,hAl,hyl,hdl];omega)]):p:=h
theorem T2{p:Prop}(h:p:=by obtain⟨h3,b,a0,cap,a',cap',h4,h5,h6,h7,h8,h9⟩:=h2 hrl;rw[hp]at h4;obtain⟨h10,h11⟩:=h8 rfl;rw[h10,h11]at h5;rw[h5,ZCn h4]):p:=h
theorem T3{p:Prop}(h:p:=by first|omega|(simp at h1;done)|(simp at h1;omega)):p:=h
theorem T9{p:Prop}(h:p:=by rw[KQ];omega):p:=h
theorem TF{p:Prop}(h:p:=by rw[Addr.add_lit,Jk];exact hv j u hj):p:=h
theorem TY{p:Prop}(h:p:=by rw[show i+(n+1-i)=n+1 by omega,<-hG,<-hROW]at h;rw[show((n:Int)+1-(i:Int))=((n+1-i:Nat):Int) by omega];exact h):p:=h
theorem Ge{p:Prop}(h:p:=by simp[rows,ZC]):p:=h
theorem Gp{p:Prop}(h:p:=by rw[Addr.add_lit];exact ZAA (w:=W) (by rw[hW];exact hgW2) (hcx _ _ (by rwa [ZAZ]at hj))):p:=h
theorem GO{p:Prop}(h:p:=by rename_i s;obtain⟨h1,rfl⟩:=Yn h;exact(ZGz s J0)):p:=h
theorem GT{A B:Prop}(hZ:A)(k:Go.Ab.Bx A->B:=by(intro hZ;refine WI.regB tT [2] ?_;refine oS ?_;exact hZ.h)):B:=k ⟨hZ⟩
theorem GV{p:Prop}(h:p:=by refine rg [3,8,9,10] ?_;exact⟨⟨i+1,by first|rfl|simp,by first|rfl|rw[<-hset],J0⟩,Wa⟩):p:=h
theorem Nd{p:Prop}(h:p:=by simp[results,Tryz.results236,go_sem]):p:=h
theorem Nf{p:Prop}(h:p:=by show p.2.ownBlock=some g;rw[hpv];rfl):p:=h
theorem Ng{p:Prop}(h:p:=by rw[Addr.add_lit];exact ZAA (w:=w.drew) hgg (hcx _ _ (by rwa [ZAZ]at hj))):p:=h
theorem Nm{p:Prop}(h:p:=by rw[<-htake,Yv,Qt];omega):p:=h
theorem Nu{A B:Prop}(hZ:A)(k:Go.Ab.Bx A->B:=by(intro hZ;refine oS ?_;refine oP ?_;exact hZ.h)):B:=k ⟨hZ⟩
theorem NN{p:Prop}(h:p:=by rw[hz2,show i+(n+1-i)=n+1 by omega];exact growslice_fits J0 J0):p:=h
theorem NT{p:Prop}(h:p:=by rw[Addr.add_lit,Jk];exact ZAA (w:=W) (by rw[hW];exact hvW) Vw):p:=h
theorem NU{p:Prop}(h:p:=by rw[Addr.add_lit,Jk];exact ZAA (w:=W) (by rw[hW];exact hv1) Vw):p:=h
theorem Xf{p:Prop}(h:p:=by rw[e1,hW1];show w.heap.size<=(w.heap.push _).size;rw[Array.size_push];omega):p:=h
theorem Xt{p:Prop}(h:p:=by rw[hW1];rfl):p:=h
theorem Xz{p:Prop}(h:p:=by have:=ZFK.1 hs _ _ hpl hl hlt;rw[bl_trans _ _ _ this hb]at hst;cases hst):p:=h
theorem X1{A B:Prop}(hZ:A)(k:Go.Ab.Bx A->B:=by(intro hZ;refine ZU ?_;refine Zn ?_;exact hZ.h)):B:=k ⟨hZ⟩
theorem X5{p:Prop}(h:p:=by simp[Op.bytesLess]):p:=h
theorem XF{A B:Prop}(hZ:A)(k:Go.Ab.Bx A->B:=by(intro hZ;refine rg [0] ?_;refine Wy ?_;exact hZ.h)):B:=k ⟨hZ⟩
theorem XI{p:Prop}(h:p:=by rw[hW1];exact(heap_alloc_old w.drew _ hvl).trans hvg):p:=h
theorem XJ{p:Prop}(h:p:=by rw[hW1];exact(heap_alloc_old w.drew _ hgl).trans hgg):p:=h
theorem XN{A B:Prop}(hZ:A)(k:Go.Ab.Bx A->B:=by(intro hZ;refine rg [0,6] ?_;refine rg [6,25,26,27] ?_;refine WI.loopN 3 ?_;refine WI.round ?_;refine rg [6,25,26,27,28] ?_;exact hZ.h)):B:=k ⟨hZ⟩
theorem XV{p:Prop}(h:p:=by exact⟨a,b,rfl⟩):p:=h
theorem XX{A B:Prop}(hZ:A)(k:Go.Ab.Bx A->B:=by(intro hZ;refine nz ?_;refine WI.regB tT [0] ?_;exact hZ.h)):B:=k ⟨hZ⟩
theorem Hk{p:Prop}(h:p:=by rcases r with _|⟨c,r⟩;simp at h0;exact ZMx Vh):p:=h
theorem Ht{p:Prop}(h:p:=by simp[ZV]):p:=h
theorem Hw{p:Prop}(h:p:=by rw[hh.2];rfl):p:=h
theorem Hy{p:Prop}(h:p:=by rw[Yv];omega):p:=h
theorem H4{p:Prop}(h:p:=by exact⟨s,rfl,rfl,J0,rfl⟩):p:=h
theorem H6{A B:Prop}(hZ:A)(k:Go.Ab.Bx A->B:=by(intro hZ;refine VD ?_;refine rg [0,3,9,10,11] ?_;refine WI.loopN 3 ?_;refine WI.round ?_;refine rg [0,3,9,10,11,12] ?_;exact hZ.h)):B:=k ⟨hZ⟩
theorem HG{p:Prop}(h:p:=by rw[hG];exact grownCap_le_maxLen w (n+1) n _ GR):p:=h
theorem HK{p:Prop}(h:p:=by simp only[List.takeWhile_cons,ha,Je,if_false,Qw];simpa using ha):p:=h
theorem HV{p:Prop}(h:p:=by rw[hA,Yv];omega):p:=h
theorem HW{p:Prop}(h:p:=by have uu:=JL uu hrw hd;refine rg [6,7] ?_;refine lf ?_;rw[hhit]):p:=h
theorem Mb{p:Prop}(h:p:=by simp[Op.bytesLess]at h):p:=h
theorem Mc{p:Prop}(h:p:=by rw[setRow_other w.drew g vb _ hvb];exact hvg):p:=h
section
namespace Go.Bo
open Go.RowKit
def ZAj{α:Type}(E:Enc α)(w:World)(ok:Nat->Prop):List α->List Value->Prop
 | [],xs=>xs= []
 |x::l,xs=> ∃c d,xs=c++d/\E.rep w ok x c/\ZAj E w ok l d
section
variable {α:Type} {E:Enc α}
theorem ZAj.len(hE:E.Good){w:World}{ok:Nat->Prop}: ∀ {l:List α} {xs:List Value},ZAj E w ok l xs->xs.length=l.length*E.n
 | [],xs,h=>by rw[show xs= []from h];simp
 |x::l,xs,⟨c,d,h1,h2,h3⟩=>by rw[h1,ZW,hE.len h2,ZAj.len hE h3,Yx,JR,ZM2,ZPa]
theorem ZAj.one(hE:E.Good){w:World}{ok:Nat->Prop}: ∀ {l:List α} {xs:List Value},ZAj E w ok l xs-> ∀u∈xs,u.oneCell'=true
 | [],xs,h,u,hu=>by rw[show xs= []from h]at hu;cases hu
 |x::l,xs,⟨c,d,h1,h2,h3⟩,u,hu=>by
  rw[h1,KT]at hu;rcases hu with hu|hu
  .exact hE.one h2 u hu
  .exact ZAj.one hE h3 u hu
theorem ZAj.stay(hE:E.Good){w w':World}{ok ok':Nat->Prop}(hs:ZHf w w' ok ok'): ∀ {l:List α} {xs:List Value},ZAj E w ok l xs->ZAj E w' ok' l xs
 | [],_,h=>h
 |_::_,_,⟨c,d,h1,h2,h3⟩=>⟨c,d,h1,hE.stay hs h2,ZAj.stay hE hs h3⟩
theorem ZAj.append{w:World}{ok:Nat->Prop}: ∀ {l m:List α} {xs ys:List Value},ZAj E w ok l xs->ZAj E w ok m ys->ZAj E w ok (l++m) (xs++ys)
 | [],_,xs,_,h,k=>by rw[show xs= []from h];exact k
 |_::_,_,_,_,⟨c,d,h1,h2,h3⟩,k=>⟨c,d++_,by rw[h1,Ys],h2,ZAj.append h3 k⟩
theorem ZAj.drop(hE:E.Good){w:World}{ok:Nat->Prop}: ∀ {l:List α} {xs:List Value} (k:Nat),ZAj E w ok l xs->ZAj E w ok (l.drop k) (xs.drop (k*E.n))
 | [],xs,k,h=>by rw[show xs= []from h];simp[ZAj]
 |x::l,xs,0,h=>WM
 |x::l,xs,k+1,⟨c,d,h1,h2,h3⟩=>by
  rw[h1,ZEH,List.drop_append_of_le_length_eq (hE.len h2)];exact ZAj.drop hE k h3
where
 List.drop_append_of_le_length_eq {c d:List Value} {n k:Nat} (h:c.length=n):(c++d).drop ((k+1)*n)=d.drop (k*n):=by
  rw[List.drop_append,ZBB (by rw[h,JR];omega),QY,h,JR,ZM2,Zbd]
theorem ZAj.get(hE:E.Good){w:World}{ok:Nat->Prop}: ∀ {l:List α} {xs:List Value},ZAj E w ok l xs-> ∀i (h:i<l.length),∃cs,E.rep w ok l[i] cs/\ ∀j,j<E.n->xs[i*E.n+j]? =cs[j]?
 | [],_,_,i,h=>WE
 |x::l,xs,⟨c,d,h1,h2,h3⟩,0,h=>⟨c,h2,λj hj=>by rw[h1,ZKL,Jk,Yk (by rw[hE.len h2];exact hj)]⟩
 |x::l,xs,⟨c,d,h1,h2,h3⟩,i+1,h=>by
  obtain⟨cs,k1,k2⟩:=ZAj.get hE h3 i WM;refine⟨cs,Xj,λj hj=> ?_⟩;rw[<-k2 j hj,h1,QI (by rw[hE.len h2,JR];omega),hE.len h2];congr 1;rw[JR];omega
theorem Sl.lt(hE:E.Good)(h0:0<E.n){w:World}{ok:Nat->Prop}{a:Option Addr}{l:List α}(h:Sl E w ok a l):Sl E w (λb=>ok b/\b<w.heap.size) a l:=h.stay hE h0 (λ_ hb ho=>⟨⟨ho,hb⟩,rfl⟩)
theorem Sl.drop{w:World}{ok:Nat->Prop}{g off:Nat}{l:List α}(h:Sl E w ok (some ⟨g,off,none⟩) l)(k:Nat):Sl E w ok (some ⟨g,off+k*E.n,none⟩) (l.drop k):=by
 refine⟨by rw[KQ];have:=h.1;omega,λi hi=> ?_⟩;rw[KQ]at hi;obtain⟨b,o,cs,ha,hb,hr,hc⟩:=h.2 (k+i) J0;cases ha;refine⟨g,off+k*E.n,cs,rfl,hb,by rw[List.getElem_drop];exact hr,λj hj=> ?_⟩;rw[<-hc j hj];congr 2;rw[JR];omega
end
section
variable {P:Program} {w:World}
end
open Go.RowKit Go.Lib
section
variable {P:Program} (w:World)
theorem ZAu(t u ty e:TypeId)(i0:TypeInfo)(size:Nat)(hu:P.underlying t=some (.slice e))(hi:P.info? e=some i0)(hs:i0.size=size)(g o dLen dCap:Nat)(cur:Array Value)(hg:w.heap[g]? =some (.cells cur e (0,0)))
  (a:Addr) (sLen sCap:Nat) (cs:List Value) (hn:cs.length=min sLen dLen*size) (hsrc: ∀j v,cs[j]? =some v->w.cell? (a.add j)=some v) (hfit:o+cs.length<=cur.size) (h1: ∀v∈cs,v.oneCell'=true):
  (Builtin.copy_ #[t,u] ty #[.slice (some ⟨g,o,none⟩) dLen dCap,.slice (some a) sLen sCap]).run P w= .ok (goInt (min sLen dLen)) (w.setRow g (cur.toList.take o++cs++cur.toList.drop (o+cs.length)).toArray):=by
 subst hs;have hf:=run_firstCells_some (P:=P) w i0.size (min sLen dLen) a sLen sCap cs hn hsrc;have hst:=run_storeCells_at P g o e cs 0 cur w hg (by simpa using hfit) h1;simp only[KB]at hst;have hm:Nat.min sLen dLen=min sLen dLen:=rfl;simp[Builtin.copy_,run_underlying hu,Builtin.lenOf,sizeOf,typeInfo,hi,hm,hf,hst];congr 1;omega
end
def YY{α:Type}(l:List α)(i:Nat)(y:List α):List α:=l.take i++y++l.drop i
theorem ZRp{α:Type}(A B C ys:List α)(k:Nat)(hy:ys.length=k)(hC:k<=C.length):
  (((A++B++C).take (A.length+k)++B++(A++B++C).drop (A.length+k+B.length)).take A.length++ys++((A++B++C).take (A.length+k)++B++(A++B++C).drop (A.length+k+B.length)).drop (A.length+ys.length))=A++ys++B++C.drop k:=by
 have e1:(A++B++C).take (A.length+k)=A++(B++C).take k:=by
  rw[Ys,List.take_append,YR J0,ZKF]
 have e2:(A++B++C).drop (A.length+k+B.length)=C.drop k:=by
  rw[show A.length+k+B.length=(A++B).length+k by rw[ZW];omega,List.drop_append,ZBB J0,ZKF,QY]
 have hk:((B++C).take k).length=k:=by rw[Yv,ZW];omega
 rw[e1,e2,hy];have e3:(A++(B++C).take k++B++C.drop k).take A.length=A:=by
  rw[Ys,Ys,List.take_left'];rfl
 have e4:(A++(B++C).take k++B++C.drop k).drop (A.length+k)=B++C.drop k:=by
  rw[Ys,List.drop_left'];rw[ZW,hk]
 rw[e3,e4];simp[Ys]
theorem ZQa{α:Type}(A Z B ys:List α)(k:Nat)(hy:ys.length=k)(hZ:k<=Z.length)(T:List α):
  (((A++Z).take A.length++ys++(A++Z).drop (A.length+ys.length)).take (A.length+k)++B++T)=A++ys++B++T:=by
 rw[List.take_left,ZM5 (by rw[ZW];omega),YR (by rw[ZW];omega)]
theorem ZJ1(w:World)(g:Nat)(a b:Array Value):(w.setRow g a).setRow g b=w.setRow g b:=by
 unfold World.setRow;congr 1;apply Array.ext
 .simp
 .intro i h1 h2;simp only[Array.getElem_modify];split
  .cases w.heap[i]' WC<;>rfl
  .rfl
end Go.Bo
end
section
namespace Go.Proofs.YtiogclkbccdefaaGreatDoor
open Go.RowKit Go.Bo Go.Lib Go.Proofs
theorem ZYj:(Tryz.prog.info? 94).map (λi=>(i.zero,i.size,i.bytes))=some (some (.agg #[.string ByteArray.empty,.slice none 0 0]),2,40):=by kernel_rfl
theorem ZJq: ∃i0,Tryz.prog.info? 94=some i0/\i0.zero=some (.agg #[.string ByteArray.empty,.slice none 0 0])/\i0.size=2/\i0.bytes=40:=by
 have h:=ZYj;cases hq:Tryz.prog.info? 94 with
 |none=>rw[hq]at h;cases h
 |some i0=>rw[hq]at h;simp at h;exact⟨i0,rfl,h.1,h.2.1,h.2.2⟩
set_option maxHeartbeats 4000000 in
set_option maxRecDepth 100000 in
theorem ZdI(w:World)(base:Nat)(v0:Value)(n:Nat)(xs ys:List Value)(vb vc:Nat)(hown:w.ownsRow base 94 2 v0 n xs)(hn:n<=1000000)(hys:ys.length=2)(hv: ∀j u,ys[j]? =some u->w.cell? ⟨vb,j,none⟩=some u)
  (h1y: ∀u∈ys,u.oneCell'=true) (hbase:base<=w.heap.size):
  Calls Tryz.prog 126 #[v0,.int .i64 n,.slice (some ⟨vb,0,none⟩) 1 vc] w λe w'=> ∃v',e= .returned v'/\w'.ownsRow base 94 2 v' (n+1) (xs++ys)/\Grow w w' v0 v':=by
 obtain⟨i0,hi,hz0,hz1,hz2⟩:=ZJq;have hown2:=hown;rcases hown.2 with⟨rfl,rfl⟩|⟨g,cap,cur,rfl,hbg,hgg,hnc,hcm,hcs,htake⟩
 .go_enter Tryz.func126,Tryz.ntmps126
  go_wp2_with (at_builtin;refine ZD0 _ rfl _ _ 29 rfl base 94 i0 (.agg #[.string ByteArray.empty,.slice none 0 0]) 2 40 Tryz.underlying29 hi hz0 hz1 hz2 rfl WT _ 0 xs rfl hown2 ⟨vb,0,none⟩ 1 vc ys rfl (by rw[hys]) (λj u hj=>TF) h1y V5 J0 hbase ?_)
  intro v' w' ho hg
  go_wp2_with fail
  go_ret
  exact⟨v',rfl,ho,hg⟩
 .have hz3: ¬((1:Int)=0):=Wm
  by_cases hcn:n=cap
  all_goals first|subst hcn|skip
  all_goals
   go_enter Tryz.func126,Tryz.ntmps126
   go_wp2_with (at_builtin;refine ZD0 _ rfl _ _ 29 rfl base 94 i0 (.agg #[.string ByteArray.empty,.slice none 0 0]) 2 40 Tryz.underlying29 hi hz0 hz1 hz2 rfl WT _ n xs rfl hown2 ⟨vb,0,none⟩ 1 vc ys rfl (by rw[hys]) (λj u hj=>TF) h1y V5 J0 hbase ?_)
   intro v' w' ho hg
   go_wp2_with fail
   go_ret
   exact⟨v',rfl,ho,hg⟩
theorem ZAA{w:World}{g j:Nat}{c:Array Value}{e:TypeId}{f:Nat×Nat}{v:Value}(h:w.heap[g]? =some (.cells c e f))(hj:c[j]? =some v):w.cell? ⟨g,j,none⟩=some v:=by unfold World.cell?;simp[h,hj]
theorem ZJD{w:World}{g:Nat}{c:Array Value}{e:TypeId}{f:Nat×Nat}(h:w.heap[g]? =some (.cells c e f)):w.shape? g=some (e,c.size):=by unfold World.shape?;rw[h]
theorem ZKU{w:World}{g o:Nat}{c:Array Value}{e:TypeId}(h:w.heap[g]? =some (.cells c e (0,0))):w.frozen? ⟨g,o,none⟩=false:=by unfold World.frozen?;simp[h]
set_option maxHeartbeats 4000000 in
set_option maxRecDepth 100000 in
theorem ZXz(w:World)(g cap n i:Nat)(cur:Array Value)(xs ys:List Value)(vb vc:Nat)(cv:Array Value)(ev:TypeId)(hgg:w.heap[g]? =some (.cells cur 94 (0,0)))(hcs:cur.size=cap*2)(htake:cur.toList.take (n*2)=xs)(hi:i<n)(hn:n<=1000000)(hroom:n+1<=cap)(hc63:cap<=9223372036854775807)
  (hvg:w.heap[vb]? =some (.cells cv ev (0,0))) (hvb:vb≠g) (hys:cv.toList.take 2=ys) (hyl:ys.length=2) (h1x: ∀u∈xs,u.oneCell'=true) (h1y: ∀u∈ys,u.oneCell'=true):
  Calls Tryz.prog 126 #[.slice (some ⟨g,0,none⟩) n cap,.int .i64 i,.slice (some ⟨vb,0,none⟩) 1 vc] w λe w'=> ∃cur',e= .returned (.slice (some ⟨g,0,none⟩) (n+1) cap)/\w'=w.drew.setRow g cur'/\cur'.size=cap*2/\cur'.toList.take ((n+1)*2)=YY xs (i*2) ys:=by
 obtain⟨i0,hi0,hz0,hz1,hz2⟩:=ZJq;have hz3: ¬((1:Int)=0):=Wm
 have hz4: ¬((i:Int)=(n:Int)):=Wm
 have hsz: ∀w,(Go.sizeOf 94).run Tryz.prog w= .ok 2 w:=λw=>by simp[sizeOf,typeInfo,hi0,hz1]
 have hov: ∀o lb cb,(callFunc 163 #[.slice (some ⟨vb,0,none⟩) 1 vc,.slice (some ⟨g,o,none⟩) lb cb]).run Tryz.prog w= .ok (.value (.bool false)) w:=λo lb cb=>by
  rw[run_callFunc_extern Tryz.func163 J3 J3 J3 (e:=Extern.SlicesOverlaps.overlaps #[29,29] #[4]) J3,
   Lib.run_overlaps_apart w 29 4 94 Tryz.underlying29 2 hsz ⟨vb,0,none⟩ ⟨g,o,none⟩ 1 vc lb cb hvb _ _ _ _ (ZJD hvg) (ZJD hgg) (by rw[hcs];omega) (ZKU hvg) (ZKU hvg)]
  rfl
 have hxl:xs.length=n*2:=Nm
 have hdl:(xs.drop (i*2)).length=n*2-i*2:=by rw[KQ,hxl]
 have hcx: ∀j v,xs[j]? =some v->cur[j]? =some v:=λj v hj=>by
  rw[<-htake,Kp]at hj;split at hj
  .rw[<-ξQ];exact hj
  .cases hj
 have hcp1: ∀ty dl dc sl sc,dl=n-i->sl=n+1-i->(Builtin.copy_ #[29,29] ty #[.slice (some ⟨g,(i+1)*2,none⟩) dl dc,.slice (some ⟨g,i*2,none⟩) sl sc]).run Tryz.prog w.drew= .ok (goInt (min (sl:Int) (dl:Int))) (w.drew.setRow g (cur.toList.take ((i+1)*2)++xs.drop (i*2)++cur.toList.drop ((i+1)*2+(xs.drop (i*2)).length)).toArray):=λty dl dc sl sc e1 e2=>
  ZAu (P:=Tryz.prog) w.drew 29 29 ty 94 i0 2 Tryz.underlying29 hi0 hz1 g ((i+1)*2) dl dc cur hgg ⟨g,i*2,none⟩ sl sc (xs.drop (i*2)) (by rw[hdl];omega)
   (λj v hj=>Ng) (by rw[hdl,hcs];omega) (λv hv=>h1x v (ZDD hv))
 obtain⟨cur1,hcur1⟩: ∃cur1,cur1=(cur.toList.take ((i+1)*2)++xs.drop (i*2)++cur.toList.drop ((i+1)*2+(xs.drop (i*2)).length)).toArray:=⟨_,rfl⟩;rw[<-hcur1]at hcp1;have hc1s:cur1.size=cap*2:=by
  rw[hcur1];simp only[ZDi,ZW,Yv,KQ,Qt,hxl,hcs];omega
 have hg1:(w.drew.setRow g cur1).heap[g]? =some (.cells cur1 94 (0,0)):=setRow_heap w.drew g cur _ _ _ hgg;have hv1:(w.drew.setRow g cur1).heap[vb]? =some (.cells cv ev (0,0)):=Mc
 have hcp2: ∀(W:World),(∀k:Nat,W.heap[k]? =(w.drew.setRow g cur1).heap[k]?)-> ∀ty dl dc,dl=n+1-i->(Builtin.copy_ #[29,29] ty #[.slice (some ⟨g,i*2,none⟩) dl dc,.slice (some ⟨vb,0,none⟩) 1 vc]).run Tryz.prog W= .ok (goInt (min ((1:Nat):Int) (dl:Int))) (W.setRow g (cur1.toList.take (i*2)++ys++cur1.toList.drop (i*2+ys.length)).toArray):=λW hW ty dl dc e1=>
  ZAu (P:=Tryz.prog) W 29 29 ty 94 i0 2 Tryz.underlying29 hi0 hz1 g (i*2) dl dc cur1 (by rw[hW];exact hg1) ⟨vb,0,none⟩ 1 vc ys (by rw[hyl];omega)
   (λj v hj=>NU) (by rw[hyl,hc1s];omega) h1y
 obtain⟨cur2,hcur2⟩: ∃cur2,cur2=(cur1.toList.take (i*2)++ys++cur1.toList.drop (i*2+ys.length)).toArray:=⟨_,rfl⟩;have hfin:cur2.size=cap*2/\cur2.toList.take ((n+1)*2)=YY xs (i*2) ys:=by
  constructor
  .rw[hcur2];simp only[ZDi,ZW,Yv,KQ,Qt,hyl,hc1s];omega
  .obtain⟨A,hA⟩: ∃A,A=xs.take (i*2):=⟨_,rfl⟩;obtain⟨B,hB⟩: ∃B,B=xs.drop (i*2):=⟨_,rfl⟩;obtain⟨C,hC⟩: ∃C,C=cur.toList.drop (n*2):=⟨_,rfl⟩;have hAl:A.length=i*2:=HV
   have hBl:B.length=n*2-i*2:=by rw[hB,hdl]
   have hcur:cur.toList=A++B++C:=by rw[hA,hB,hC,ZBb,<-htake,ZBb]
   have hCl:2<=C.length:=by rw[hC,KQ,Qt];omega
   have h:=ZRp A B C ys 2 hyl hCl;rw[hAl]at h;rw[hcur2,hcur1,<-hB,hcur,show(i+1)*2=i*2+2 by omega];exact Td
 rw[<-hcur2]at hcp2;clear hcur2 hcur1;have mixed:Tryz.prog.follows Departure.mixedOrders=true:=by kernel_rfl
 have hw1:IntKind.i64.wrap ((i:Int)+1)=(i:Int)+1:=TH
 have hb1:(0:Int)<=(i:Int)+1:=Wm
 have hin:i<=n:=Wm
 have htn:((i:Int)+1).toNat=i+1:=Wm
 have hb2: ¬(cap=i+1):=Wm
 have hb3:(i:Int)<=(n:Int)+1:=Wm
 have hb4: ¬(cap=i):=Wm
 go_enter Tryz.func126,Tryz.ntmps126
 go_wp2_with (simp only[hov])
 go_region_law_o (refine step_copy_runI rfl _ _ 29 29 rfl _ _ Uw Uw (hcp1 _ _ _ _ _ J0 J0) ?_)
 go_wp2_with (at_builtin;refine wpList_copy_runI _ rfl _ _ 29 29 rfl _ _ rfl rfl (hcp2 _ (λ_=>rfl) _ _ _ J0) ?_)
 go_ret
 exact⟨cur2,rfl,ZJ1 w.drew g _ _,hfin.1,hfin.2⟩
set_option maxHeartbeats 4000000 in
set_option maxRecDepth 100000 in
theorem ZYS(w:World)(g cap n i:Nat)(cur:Array Value)(xs ys:List Value)(vb vc:Nat)(cv:Array Value)(ev:TypeId)(hgg:w.heap[g]? =some (.cells cur 94 (0,0)))(hcs:cur.size=cap*2)(htake:cur.toList.take (n*2)=xs)(hi:i<n)(hn:n<=1000000)(hnc:n<=cap)(hroom:cap<n+1)
  (hvg:w.heap[vb]? =some (.cells cv ev (0,0))) (hys:cv.toList.take 2=ys) (hyl:ys.length=2) (h1x: ∀u∈xs,u.oneCell'=true) (h1y: ∀u∈ys,u.oneCell'=true):
  Calls Tryz.prog 126 #[.slice (some ⟨g,0,none⟩) n cap,.int .i64 i,.slice (some ⟨vb,0,none⟩) 1 vc] w λe w'=> ∃cur' G,e= .returned (.slice (some ⟨w.heap.size,0,none⟩) (n+1) G)/\w'.heap[w.heap.size]? =some (.cells cur' 94 (0,0))/\w.grownBy w' none/\n+1<=G/\G<=maxLen/\cur'.size=G*2/\cur'.toList.take ((n+1)*2)=YY xs (i*2) ys:=by
 obtain⟨i0,hi0,hz0,hz1,hz2⟩:=ZJq;obtain rfl:n=cap:=Wm
 have hz3: ¬((1:Int)=0):=Wm
 have hz4: ¬((i:Int)=(n:Int)):=Wm
 have hxl:xs.length=n*2:=Nm
 have hdl:(xs.drop (i*2)).length=n*2-i*2:=by rw[KQ,hxl]
 have hcx: ∀j v,xs[j]? =some v->cur[j]? =some v:=λj v hj=>by
  rw[<-htake,Kp]at hj;split at hj
  .rw[<-ξQ];exact hj
  .cases hj
 have hgl:g<w.heap.size:=(ξH hgg).1;have hvl:vb<w.heap.size:=(ξH hvg).1;have hold:(Builtin.firstCells i0.size i (.slice (some ⟨g,0,none⟩) i n)).run Tryz.prog w.drew= .ok (xs.take (i*2)).toArray w.drew:=by
  rw[hz1];exact run_firstCells_some w.drew 2 i ⟨g,0,none⟩ i n (xs.take (i*2)) Hy (λj v hj=>by
   rw[Addr.add_lit,Jk];rw[Kp]at hj;split at hj
   .exact ZAA (w:=w.drew) hgg (hcx _ _ hj)
   .cases hj)
 obtain⟨G,hG⟩: ∃G,G=grownCap w (n+1) n 94:=⟨_,rfl⟩;obtain⟨z,hz⟩: ∃z,z=(Value.agg #[.string ByteArray.empty,.slice none 0 0]):=⟨_,rfl⟩;have hzs:z.cells.size=2:=by rw[hz];rfl
 obtain⟨ROW,hROW⟩: ∃ROW:Array Value,ROW=(xs.take (i*2)).toArray++Builtin.zeroCells z.cells (n+1-i)++Builtin.zeroCells z.cells (G-(n+1)):=⟨_,rfl⟩;have hrz: ∀ty,(Builtin.append_ #[29,3] ty #[.slice (some ⟨g,0,none⟩) i n,.int .i64 ((n:Int)+1-(i:Int))]).run Tryz.prog w= .ok (.slice (some ⟨w.heap.size,0,none⟩) (n+1) G) (w.drew.alloc (.cells ROW 94)):=λty=>by
  have h:=Lib.run_append_grow_zeros w 29 3 ty 94 i0 z .i64 .i64 Tryz.underlying29 Tryz.underlying3 hi0 (by rw[hz0,hz]) (some ⟨g,0,none⟩) i n (xs.take (i*2)) hold (n+1-i) J0 J0 J0 J0 (by rw[hz2];omega) NN;exact TY
 have hGn:n+1<=G:=by rw[hG];exact grownCap_ge w _ _ _
 have hGm:G<=maxLen:=HG
 have hzc: ∀k,(Builtin.zeroCells z.cells k).size=k*2:=λk=>by simp[Builtin.zeroCells,hzs]
 have hRs:ROW.size=G*2:=by
  rw[hROW];simp only[Zbj,ZDi,Yv,hzc,hxl];omega
 obtain⟨W1,hW1⟩: ∃W1,W1=w.drew.alloc (.cells ROW 94):=⟨_,rfl⟩;have hN1:W1.heap[w.heap.size]? =some (.cells ROW 94 (0,0)):=by rw[hW1];exact heap_alloc_new w.drew _
 have hgW:W1.heap[g]? =some (.cells cur 94 (0,0)):=XJ
 have hvW:W1.heap[vb]? =some (.cells cv ev (0,0)):=XI
 have hcp1: ∀(W:World),(∀k:Nat,W.heap[k]? =W1.heap[k]?)-> ∀ty dl dc,dl=n+1-i->(Builtin.copy_ #[29,29] ty #[.slice (some ⟨w.heap.size,i*2,none⟩) dl dc,.slice (some ⟨vb,0,none⟩) 1 vc]).run Tryz.prog W= .ok (goInt (min ((1:Nat):Int) (dl:Int))) (W.setRow w.heap.size (ROW.toList.take (i*2)++ys++ROW.toList.drop (i*2+ys.length)).toArray):=λW hW ty dl dc e1=>
  ZAu (P:=Tryz.prog) W 29 29 ty 94 i0 2 Tryz.underlying29 hi0 hz1 w.heap.size (i*2) dl dc ROW (by rw[hW];exact hN1) ⟨vb,0,none⟩ 1 vc ys (by rw[hyl];omega)
   (λj v hj=>NT) (by rw[hyl,hRs];omega) h1y
 obtain⟨R1,hR1⟩: ∃R1,R1=(ROW.toList.take (i*2)++ys++ROW.toList.drop (i*2+ys.length)).toArray:=⟨_,rfl⟩;rw[<-hR1]at hcp1;have hR1s:R1.size=G*2:=by
  rw[hR1];simp only[ZDi,ZW,Yv,KQ,Qt,hyl,hRs];omega
 have hN2:(W1.setRow w.heap.size R1).heap[w.heap.size]? =some (.cells R1 94 (0,0)):=setRow_heap W1 _ ROW _ _ _ hN1;have hgW2:(W1.setRow w.heap.size R1).heap[g]? =some (.cells cur 94 (0,0)):=by rw[setRow_other W1 _ g _ J0];exact hgW
 have hcp2: ∀(W:World),(∀k:Nat,W.heap[k]? =(W1.setRow w.heap.size R1).heap[k]?)-> ∀ty dl dc sl sc,dl=n-i->sl=n-i->(Builtin.copy_ #[29,29] ty #[.slice (some ⟨w.heap.size,(i+1)*2,none⟩) dl dc,.slice (some ⟨g,i*2,none⟩) sl sc]).run Tryz.prog W= .ok (goInt (min (sl:Int) (dl:Int))) (W.setRow w.heap.size (R1.toList.take ((i+1)*2)++xs.drop (i*2)++R1.toList.drop ((i+1)*2+(xs.drop (i*2)).length)).toArray):=λW hW ty dl dc sl sc e1 e2=>
  ZAu (P:=Tryz.prog) W 29 29 ty 94 i0 2 Tryz.underlying29 hi0 hz1 w.heap.size ((i+1)*2) dl dc R1 (by rw[hW];exact hN2) ⟨g,i*2,none⟩ sl sc (xs.drop (i*2)) (by rw[hdl];omega)
   (λj v hj=>Gp) (by rw[hdl,hR1s];omega) (λv hv=>h1x v (ZDD hv))
 obtain⟨R2,hR2⟩: ∃R2,R2=(R1.toList.take ((i+1)*2)++xs.drop (i*2)++R1.toList.drop ((i+1)*2+(xs.drop (i*2)).length)).toArray:=⟨_,rfl⟩;rw[<-hR2]at hcp2;have hfin:R2.size=G*2/\R2.toList.take ((n+1)*2)=YY xs (i*2) ys:=by
  constructor
  .rw[hR2];simp only[ZDi,ZW,Yv,KQ,Qt,hdl,hR1s,hxl];omega
  .obtain⟨Z,hZ⟩: ∃Z,Z=(Builtin.zeroCells z.cells (n+1-i)).toList++(Builtin.zeroCells z.cells (G-(n+1))).toList:=⟨_,rfl⟩;obtain⟨A,hA⟩: ∃A,A=xs.take (i*2):=⟨_,rfl⟩;have hAl:A.length=i*2:=HV
   have hROWl:ROW.toList=A++Z:=by rw[hROW,hZ,hA];simp
   have hZl:2<=Z.length:=by rw[hZ,ZW,Qt,hzc];omega
   have h:=ZQa A Z (xs.drop (i*2)) ys 2 hyl hZl;rw[hAl]at h;rw[hR2,hR1,hROWl,show(i+1)*2=i*2+2 by omega];exact Tl
 have hN3:((W1.setRow w.heap.size R1).drew.setRow w.heap.size R2).heap[w.heap.size]? =some (.cells R2 94 (0,0)):=setRow_heap (W1.setRow w.heap.size R1).drew _ R1 _ _ _ hN2;have hgr:w.grownBy ((W1.setRow w.heap.size R1).drew.setRow w.heap.size R2) none:=by
  refine⟨Xt,Xt,Xt,?_,λk hk _=> ?_⟩
  .have e1:((W1.setRow w.heap.size R1).drew.setRow w.heap.size R2).heap.size=W1.heap.size:=by simp[World.setRow,World.drew]
   exact Xf
  .exact U2
 rw[<-hW1]at hrz;have HN3:=Lib.hid hN3;clear hR2 hR1 hROW hRs hG hW1 hN3;have mixed:Tryz.prog.follows Departure.mixedOrders=true:=by kernel_rfl
 have hw1:IntKind.i64.wrap ((i:Int)+1)=(i:Int)+1:=TH
 have hb1:(0:Int)<=(i:Int)+1:=Wm
 have hin:i<=n:=Wm
 have htn:((i:Int)+1).toNat=i+1:=Wm
 have hb3:(i:Int)<=(n:Int):=Wm
 have hGi: ¬(G=i):=Wm
 have hGim: ¬(G=i+1):=Wm
 have hci: ¬(n=i):=Wm
 have hzz:(n:Int)<(n:Int)+1:=Wm
 have hG63:G<=9223372036854775807:=by unfold maxLen at hGm;omega
 go_enter Tryz.func126,Tryz.ntmps126
 go_wp2_with (first
  |(at_builtin;refine Lib.wpList_append_run _ rfl _ _ _ _ rfl _ _ rfl rfl _ _ (hrz _) ?_)
  |(at_builtin;refine wpList_copy_runI _ rfl _ _ 29 29 rfl _ _ rfl rfl (hcp1 _ (λ_=>rfl) _ _ _ J0) ?_))
 go_region_law_o (refine step_copy_runI rfl _ _ 29 29 rfl (.slice (some ⟨w.heap.size,(i+1)*2,none⟩) (n-i) (G-(i+1))) (.slice (some ⟨g,i*2,none⟩) (n-i) (n-i)) Uw Uw (hcp2 (W1.setRow w.heap.size R1).drew (λ_=>rfl) _ _ _ _ _ rfl rfl) ?_)
 go_wp2
 go_ret
 exact⟨R2,G,rfl,HN3.out,hgr,hGn,hGm,hfin.1,hfin.2⟩
theorem Zcf(w:World)(base:Nat)(v0:Value)(n i:Nat)(xs ys:List Value)(vb vc:Nat)(cv:Array Value)(ev:TypeId)(hown:w.ownsRow base 94 2 v0 n xs)(hi:i<=n)(hn:n<=1000000)(hvg:w.heap[vb]? =some (.cells cv ev (0,0)))(hvb:v0.ownBlock≠some vb)(hys:cv.toList.take 2=ys)(hyl:ys.length=2)
  (h1x: ∀u∈xs,u.oneCell'=true) (h1y: ∀u∈ys,u.oneCell'=true) (hbase:base<=w.heap.size):
  Calls Tryz.prog 126 #[v0,.int .i64 i,.slice (some ⟨vb,0,none⟩) 1 vc] w λe w'=> ∃v',e= .returned v'/\w'.ownsRow base 94 2 v' (n+1) (YY xs (i*2) ys)/\Grow w w' v0 v':=by
 have hxl:=hown.1;by_cases hin:i=n
 .subst hin;have e:YY xs (i*2) ys=xs++ys:=by unfold YY;rw[YR J0,ZBB J0,Kg]
  rw[e];exact ZdI w base v0 i xs ys vb vc hown hn hyl (λj u hj=>ZAA hvg Vw) h1y hbase
 .rcases hown.2 with⟨_,rfl⟩|⟨g,cap,cur,rfl,hbg,hgg,hnc,hcm,hcs,htake⟩
  .omega
  have hlen:(YY xs (i*2) ys).length=(n+1)*2:=by unfold YY;simp only[ZW,Yv,KQ,hxl,hyl];omega
  by_cases hroom:n+1<=cap
  .refine(ZXz w g cap n i cur xs ys vb vc cv ev hgg hcs htake J0 hn hroom (by unfold maxLen at hcm;omega) hvg (λe=>hvb (by rw[e];rfl)) hys hyl h1x h1y).mono ?_;rintro e w' ⟨cur',rfl,rfl,h1,h2⟩;refine⟨_,rfl,⟨hlen,.inr ⟨g,cap,cur',rfl,hbg,setRow_heap w.drew g cur _ _ _ hgg,hroom,hcm,h1,h2⟩⟩,⟨⟨rfl,rfl,rfl,by show w.drew.heap.size<=_;simp,λk _ hk=>setRow_other w.drew g k _ (λq=>hk (by rw[q];rfl))⟩,.inl rfl⟩⟩
  .refine(ZYS w g cap n i cur xs ys vb vc cv ev hgg hcs htake J0 hn hnc J0 hvg hys hyl h1x h1y).mono ?_;rintro e w' ⟨cur',G,rfl,h0,hg,h1,h2,h3,h4⟩;exact⟨_,rfl,⟨hlen,.inr ⟨w.heap.size,G,cur',rfl,hbase,h0,h1,h2,h3,h4⟩⟩,⟨⟨hg.os,hg.tape,hg.output,hg.size,λk hk _=>hg.block k hk J1⟩,.inr ⟨_,rfl,Zr _⟩⟩⟩
theorem ZcY:(Tryz.prog.info? 9).map (λi=>(i.zero,i.size,i.bytes))=some (some (.string ByteArray.empty),1,16):=by kernel_rfl
theorem ZK4: ∃i0,Tryz.prog.info? 9=some i0/\i0.zero=some (.string ByteArray.empty)/\i0.size=1/\i0.bytes=16:=by
 have h:=ZcY;cases hq:Tryz.prog.info? 9 with
 |none=>rw[hq]at h;cases h
 |some i0=>rw[hq]at h;simp at h;exact⟨i0,rfl,h.1,h.2.1,h.2.2⟩
set_option maxHeartbeats 4000000 in
set_option maxRecDepth 100000 in
theorem Zbt(w:World)(base:Nat)(v0:Value)(n:Nat)(xs ys:List Value)(vb vc:Nat)(hown:w.ownsRow base 9 1 v0 n xs)(hn:n<=1000000)(hys:ys.length=1)(hv: ∀j u,ys[j]? =some u->w.cell? ⟨vb,j,none⟩=some u)
  (h1y: ∀u∈ys,u.oneCell'=true) (hbase:base<=w.heap.size):
  Calls Tryz.prog 44 #[v0,.int .i64 n,.slice (some ⟨vb,0,none⟩) 1 vc] w λe w'=> ∃v',e= .returned v'/\w'.ownsRow base 9 1 v' (n+1) (xs++ys)/\Grow w w' v0 v':=by
 obtain⟨i0,hi,hz0,hz1,hz2⟩:=ZK4;have hown2:=hown;rcases hown.2 with⟨rfl,rfl⟩|⟨g,cap,cur,rfl,hbg,hgg,hnc,hcm,hcs,htake⟩
 .go_enter Tryz.func44,Tryz.ntmps44
  go_wp2_with (at_builtin;refine ZD0 _ rfl _ _ 34 rfl base 9 i0 (.string ByteArray.empty) 1 16 Tryz.underlying34 hi hz0 hz1 hz2 rfl WT _ 0 xs rfl hown2 ⟨vb,0,none⟩ 1 vc ys rfl (by rw[hys]) (λj u hj=>TF) h1y V5 J0 hbase ?_)
  intro v' w' ho hg
  go_wp2_with fail
  go_ret
  exact⟨v',rfl,ho,hg⟩
 .have hz3: ¬((1:Int)=0):=Wm
  by_cases hcn:n=cap
  all_goals first|subst hcn|skip
  all_goals
   go_enter Tryz.func44,Tryz.ntmps44
   go_wp2_with (at_builtin;refine ZD0 _ rfl _ _ 34 rfl base 9 i0 (.string ByteArray.empty) 1 16 Tryz.underlying34 hi hz0 hz1 hz2 rfl WT _ n xs rfl hown2 ⟨vb,0,none⟩ 1 vc ys rfl (by rw[hys]) (λj u hj=>TF) h1y V5 J0 hbase ?_)
   intro v' w' ho hg
   go_wp2_with fail
   go_ret
   exact⟨v',rfl,ho,hg⟩
set_option maxHeartbeats 4000000 in
set_option maxRecDepth 100000 in
theorem ZXE(w:World)(g cap n i:Nat)(cur:Array Value)(xs ys:List Value)(vb vc:Nat)(cv:Array Value)(ev:TypeId)(hgg:w.heap[g]? =some (.cells cur 9 (0,0)))(hcs:cur.size=cap)(htake:cur.toList.take (n)=xs)(hi:i<n)(hn:n<=1000000)(hroom:n+1<=cap)(hc63:cap<=9223372036854775807)
  (hvg:w.heap[vb]? =some (.cells cv ev (0,0))) (hvb:vb≠g) (hys:cv.toList.take 1=ys) (hyl:ys.length=1) (h1x: ∀u∈xs,u.oneCell'=true) (h1y: ∀u∈ys,u.oneCell'=true):
  Calls Tryz.prog 44 #[.slice (some ⟨g,0,none⟩) n cap,.int .i64 i,.slice (some ⟨vb,0,none⟩) 1 vc] w λe w'=> ∃cur',e= .returned (.slice (some ⟨g,0,none⟩) (n+1) cap)/\w'=w.drew.setRow g cur'/\cur'.size=cap/\cur'.toList.take ((n+1))=YY xs (i) ys:=by
 obtain⟨i0,hi0,hz0,hz1,hz2⟩:=ZK4;have hz3: ¬((1:Int)=0):=Wm
 have hz4: ¬((i:Int)=(n:Int)):=Wm
 have hsz: ∀w,(Go.sizeOf 9).run Tryz.prog w= .ok 1 w:=λw=>by simp[sizeOf,typeInfo,hi0,hz1]
 have hov: ∀o lb cb,(callFunc 83 #[.slice (some ⟨vb,0,none⟩) 1 vc,.slice (some ⟨g,o,none⟩) lb cb]).run Tryz.prog w= .ok (.value (.bool false)) w:=λo lb cb=>by
  rw[run_callFunc_extern Tryz.func83 J3 J3 J3 (e:=Extern.SlicesOverlaps.overlaps #[34,34] #[4]) J3,
   Lib.run_overlaps_apart w 34 4 9 Tryz.underlying34 1 hsz ⟨vb,0,none⟩ ⟨g,o,none⟩ 1 vc lb cb hvb _ _ _ _ (ZJD hvg) (ZJD hgg) (by rw[hcs];omega) (ZKU hvg) (ZKU hvg)]
  rfl
 have hxl:xs.length=n:=Nm
 have hdl:(xs.drop (i)).length=n-i:=by rw[KQ,hxl]
 have hcx: ∀j v,xs[j]? =some v->cur[j]? =some v:=λj v hj=>by
  rw[<-htake,Kp]at hj;split at hj
  .rw[<-ξQ];exact hj
  .cases hj
 have hcp1: ∀ty dl dc sl sc,dl=n-i->sl=n+1-i->(Builtin.copy_ #[34,34] ty #[.slice (some ⟨g,(i+1),none⟩) dl dc,.slice (some ⟨g,i,none⟩) sl sc]).run Tryz.prog w.drew= .ok (goInt (min (sl:Int) (dl:Int))) (w.drew.setRow g (cur.toList.take ((i+1))++xs.drop (i)++cur.toList.drop ((i+1)+(xs.drop (i)).length)).toArray):=λty dl dc sl sc e1 e2=>
  ZAu (P:=Tryz.prog) w.drew 34 34 ty 9 i0 1 Tryz.underlying34 hi0 hz1 g ((i+1)) dl dc cur hgg ⟨g,i,none⟩ sl sc (xs.drop (i)) (by rw[hdl];omega)
   (λj v hj=>Ng) (by rw[hdl,hcs];omega) (λv hv=>h1x v (ZDD hv))
 obtain⟨cur1,hcur1⟩: ∃cur1,cur1=(cur.toList.take ((i+1))++xs.drop (i)++cur.toList.drop ((i+1)+(xs.drop (i)).length)).toArray:=⟨_,rfl⟩;rw[<-hcur1]at hcp1;have hc1s:cur1.size=cap:=by
  rw[hcur1];simp only[ZDi,ZW,Yv,KQ,Qt,hxl,hcs];omega
 have hg1:(w.drew.setRow g cur1).heap[g]? =some (.cells cur1 9 (0,0)):=setRow_heap w.drew g cur _ _ _ hgg;have hv1:(w.drew.setRow g cur1).heap[vb]? =some (.cells cv ev (0,0)):=Mc
 have hcp2: ∀(W:World),(∀k:Nat,W.heap[k]? =(w.drew.setRow g cur1).heap[k]?)-> ∀ty dl dc,dl=n+1-i->(Builtin.copy_ #[34,34] ty #[.slice (some ⟨g,i,none⟩) dl dc,.slice (some ⟨vb,0,none⟩) 1 vc]).run Tryz.prog W= .ok (goInt (min ((1:Nat):Int) (dl:Int))) (W.setRow g (cur1.toList.take (i)++ys++cur1.toList.drop (i+ys.length)).toArray):=λW hW ty dl dc e1=>
  ZAu (P:=Tryz.prog) W 34 34 ty 9 i0 1 Tryz.underlying34 hi0 hz1 g (i) dl dc cur1 (by rw[hW];exact hg1) ⟨vb,0,none⟩ 1 vc ys (by rw[hyl];omega)
   (λj v hj=>NU) (by rw[hyl,hc1s];omega) h1y
 obtain⟨cur2,hcur2⟩: ∃cur2,cur2=(cur1.toList.take (i)++ys++cur1.toList.drop (i+ys.length)).toArray:=⟨_,rfl⟩;have hfin:cur2.size=cap/\cur2.toList.take ((n+1))=YY xs (i) ys:=by
  constructor
  .rw[hcur2];simp only[ZDi,ZW,Yv,KQ,Qt,hyl,hc1s];omega
  .obtain⟨A,hA⟩: ∃A,A=xs.take (i):=⟨_,rfl⟩;obtain⟨B,hB⟩: ∃B,B=xs.drop (i):=⟨_,rfl⟩;obtain⟨C,hC⟩: ∃C,C=cur.toList.drop (n):=⟨_,rfl⟩;have hAl:A.length=i:=HV
   have hBl:B.length=n-i:=by rw[hB,hdl]
   have hcur:cur.toList=A++B++C:=by rw[hA,hB,hC,ZBb,<-htake,ZBb]
   have hCl:1<=C.length:=by rw[hC,KQ,Qt];omega
   have h:=ZRp A B C ys 1 hyl hCl;rw[hAl]at h;rw[hcur2,hcur1,<-hB,hcur,show(i+1)=i+1 from rfl];exact Td
 rw[<-hcur2]at hcp2;clear hcur2 hcur1;have mixed:Tryz.prog.follows Departure.mixedOrders=true:=by kernel_rfl
 have hw1:IntKind.i64.wrap ((i:Int)+1)=(i:Int)+1:=TH
 have hb1:(0:Int)<=(i:Int)+1:=Wm
 have hin:i<=n:=Wm
 have htn:((i:Int)+1).toNat=i+1:=Wm
 have hb2: ¬(cap=i+1):=Wm
 have hb3:(i:Int)<=(n:Int)+1:=Wm
 have hb4: ¬(cap=i):=Wm
 go_enter Tryz.func44,Tryz.ntmps44
 go_wp2_with (simp only[hov])
 go_region_law_o (refine step_copy_runI rfl _ _ 34 34 rfl _ _ Uw Uw (hcp1 _ _ _ _ _ J0 J0) ?_)
 go_wp2_with (at_builtin;refine wpList_copy_runI _ rfl _ _ 34 34 rfl _ _ rfl rfl (hcp2 _ (λ_=>rfl) _ _ _ J0) ?_)
 go_ret
 exact⟨cur2,rfl,ZJ1 w.drew g _ _,hfin.1,hfin.2⟩
set_option maxHeartbeats 4000000 in
set_option maxRecDepth 100000 in
theorem ZZM(w:World)(g cap n i:Nat)(cur:Array Value)(xs ys:List Value)(vb vc:Nat)(cv:Array Value)(ev:TypeId)(hgg:w.heap[g]? =some (.cells cur 9 (0,0)))(hcs:cur.size=cap)(htake:cur.toList.take (n)=xs)(hi:i<n)(hn:n<=1000000)(hnc:n<=cap)(hroom:cap<n+1)
  (hvg:w.heap[vb]? =some (.cells cv ev (0,0))) (hys:cv.toList.take 1=ys) (hyl:ys.length=1) (h1x: ∀u∈xs,u.oneCell'=true) (h1y: ∀u∈ys,u.oneCell'=true):
  Calls Tryz.prog 44 #[.slice (some ⟨g,0,none⟩) n cap,.int .i64 i,.slice (some ⟨vb,0,none⟩) 1 vc] w λe w'=> ∃cur' G,e= .returned (.slice (some ⟨w.heap.size,0,none⟩) (n+1) G)/\w'.heap[w.heap.size]? =some (.cells cur' 9 (0,0))/\w.grownBy w' none/\n+1<=G/\G<=maxLen/\cur'.size=G/\cur'.toList.take ((n+1))=YY xs (i) ys:=by
 obtain⟨i0,hi0,hz0,hz1,hz2⟩:=ZK4;obtain rfl:n=cap:=Wm
 have hz3: ¬((1:Int)=0):=Wm
 have hz4: ¬((i:Int)=(n:Int)):=Wm
 have hxl:xs.length=n:=Nm
 have hdl:(xs.drop (i)).length=n-i:=by rw[KQ,hxl]
 have hcx: ∀j v,xs[j]? =some v->cur[j]? =some v:=λj v hj=>by
  rw[<-htake,Kp]at hj;split at hj
  .rw[<-ξQ];exact hj
  .cases hj
 have hgl:g<w.heap.size:=(ξH hgg).1;have hvl:vb<w.heap.size:=(ξH hvg).1;have hold:(Builtin.firstCells i0.size i (.slice (some ⟨g,0,none⟩) i n)).run Tryz.prog w.drew= .ok (xs.take (i)).toArray w.drew:=by
  rw[hz1];exact run_firstCells_some w.drew 1 i ⟨g,0,none⟩ i n (xs.take (i)) Hy (λj v hj=>by
   rw[Addr.add_lit,Jk];rw[Kp]at hj;split at hj
   .exact ZAA (w:=w.drew) hgg (hcx _ _ hj)
   .cases hj)
 obtain⟨G,hG⟩: ∃G,G=grownCap w (n+1) n 9:=⟨_,rfl⟩;obtain⟨z,hz⟩: ∃z,z=(Value.string ByteArray.empty):=⟨_,rfl⟩;have hzs:z.cells.size=1:=by rw[hz];rfl
 obtain⟨ROW,hROW⟩: ∃ROW:Array Value,ROW=(xs.take (i)).toArray++Builtin.zeroCells z.cells (n+1-i)++Builtin.zeroCells z.cells (G-(n+1)):=⟨_,rfl⟩;have hrz: ∀ty,(Builtin.append_ #[34,3] ty #[.slice (some ⟨g,0,none⟩) i n,.int .i64 ((n:Int)+1-(i:Int))]).run Tryz.prog w= .ok (.slice (some ⟨w.heap.size,0,none⟩) (n+1) G) (w.drew.alloc (.cells ROW 9)):=λty=>by
  have h:=Lib.run_append_grow_zeros w 34 3 ty 9 i0 z .i64 .i64 Tryz.underlying34 Tryz.underlying3 hi0 (by rw[hz0,hz]) (some ⟨g,0,none⟩) i n (xs.take (i)) hold (n+1-i) J0 J0 J0 J0 (by rw[hz2];omega) NN;exact TY
 have hGn:n+1<=G:=by rw[hG];exact grownCap_ge w _ _ _
 have hGm:G<=maxLen:=HG
 have hzc: ∀k,(Builtin.zeroCells z.cells k).size=k:=λk=>by simp[Builtin.zeroCells,hzs]
 have hRs:ROW.size=G:=by
  rw[hROW];simp only[Zbj,ZDi,Yv,hzc,hxl];omega
 obtain⟨W1,hW1⟩: ∃W1,W1=w.drew.alloc (.cells ROW 9):=⟨_,rfl⟩;have hN1:W1.heap[w.heap.size]? =some (.cells ROW 9 (0,0)):=by rw[hW1];exact heap_alloc_new w.drew _
 have hgW:W1.heap[g]? =some (.cells cur 9 (0,0)):=XJ
 have hvW:W1.heap[vb]? =some (.cells cv ev (0,0)):=XI
 have hcp1: ∀(W:World),(∀k:Nat,W.heap[k]? =W1.heap[k]?)-> ∀ty dl dc,dl=n+1-i->(Builtin.copy_ #[34,34] ty #[.slice (some ⟨w.heap.size,i,none⟩) dl dc,.slice (some ⟨vb,0,none⟩) 1 vc]).run Tryz.prog W= .ok (goInt (min ((1:Nat):Int) (dl:Int))) (W.setRow w.heap.size (ROW.toList.take (i)++ys++ROW.toList.drop (i+ys.length)).toArray):=λW hW ty dl dc e1=>
  ZAu (P:=Tryz.prog) W 34 34 ty 9 i0 1 Tryz.underlying34 hi0 hz1 w.heap.size (i) dl dc ROW (by rw[hW];exact hN1) ⟨vb,0,none⟩ 1 vc ys (by rw[hyl];omega)
   (λj v hj=>NT) (by rw[hyl,hRs];omega) h1y
 obtain⟨R1,hR1⟩: ∃R1,R1=(ROW.toList.take (i)++ys++ROW.toList.drop (i+ys.length)).toArray:=⟨_,rfl⟩;rw[<-hR1]at hcp1;have hR1s:R1.size=G:=by
  rw[hR1];simp only[ZDi,ZW,Yv,KQ,Qt,hyl,hRs];omega
 have hN2:(W1.setRow w.heap.size R1).heap[w.heap.size]? =some (.cells R1 9 (0,0)):=setRow_heap W1 _ ROW _ _ _ hN1;have hgW2:(W1.setRow w.heap.size R1).heap[g]? =some (.cells cur 9 (0,0)):=by rw[setRow_other W1 _ g _ J0];exact hgW
 have hcp2: ∀(W:World),(∀k:Nat,W.heap[k]? =(W1.setRow w.heap.size R1).heap[k]?)-> ∀ty dl dc sl sc,dl=n-i->sl=n-i->(Builtin.copy_ #[34,34] ty #[.slice (some ⟨w.heap.size,(i+1),none⟩) dl dc,.slice (some ⟨g,i,none⟩) sl sc]).run Tryz.prog W= .ok (goInt (min (sl:Int) (dl:Int))) (W.setRow w.heap.size (R1.toList.take ((i+1))++xs.drop (i)++R1.toList.drop ((i+1)+(xs.drop (i)).length)).toArray):=λW hW ty dl dc sl sc e1 e2=>
  ZAu (P:=Tryz.prog) W 34 34 ty 9 i0 1 Tryz.underlying34 hi0 hz1 w.heap.size ((i+1)) dl dc R1 (by rw[hW];exact hN2) ⟨g,i,none⟩ sl sc (xs.drop (i)) (by rw[hdl];omega)
   (λj v hj=>Gp) (by rw[hdl,hR1s];omega) (λv hv=>h1x v (ZDD hv))
 obtain⟨R2,hR2⟩: ∃R2,R2=(R1.toList.take ((i+1))++xs.drop (i)++R1.toList.drop ((i+1)+(xs.drop (i)).length)).toArray:=⟨_,rfl⟩;rw[<-hR2]at hcp2;have hfin:R2.size=G/\R2.toList.take ((n+1))=YY xs (i) ys:=by
  constructor
  .rw[hR2];simp only[ZDi,ZW,Yv,KQ,Qt,hdl,hR1s,hxl];omega
  .obtain⟨Z,hZ⟩: ∃Z,Z=(Builtin.zeroCells z.cells (n+1-i)).toList++(Builtin.zeroCells z.cells (G-(n+1))).toList:=⟨_,rfl⟩;obtain⟨A,hA⟩: ∃A,A=xs.take (i):=⟨_,rfl⟩;have hAl:A.length=i:=HV
   have hROWl:ROW.toList=A++Z:=by rw[hROW,hZ,hA];simp
   have hZl:1<=Z.length:=by rw[hZ,ZW,Qt,hzc];omega
   have h:=ZQa A Z (xs.drop (i)) ys 1 hyl hZl;rw[hAl]at h;rw[hR2,hR1,hROWl,show(i+1)=i+1 from rfl];exact Tl
 have hN3:((W1.setRow w.heap.size R1).drew.setRow w.heap.size R2).heap[w.heap.size]? =some (.cells R2 9 (0,0)):=setRow_heap (W1.setRow w.heap.size R1).drew _ R1 _ _ _ hN2;have hgr:w.grownBy ((W1.setRow w.heap.size R1).drew.setRow w.heap.size R2) none:=by
  refine⟨Xt,Xt,Xt,?_,λk hk _=> ?_⟩
  .have e1:((W1.setRow w.heap.size R1).drew.setRow w.heap.size R2).heap.size=W1.heap.size:=by simp[World.setRow,World.drew]
   exact Xf
  .exact U2
 rw[<-hW1]at hrz;have HN3:=Lib.hid hN3;clear hR2 hR1 hROW hRs hG hW1 hN3;have mixed:Tryz.prog.follows Departure.mixedOrders=true:=by kernel_rfl
 have hw1:IntKind.i64.wrap ((i:Int)+1)=(i:Int)+1:=TH
 have hb1:(0:Int)<=(i:Int)+1:=Wm
 have hin:i<=n:=Wm
 have htn:((i:Int)+1).toNat=i+1:=Wm
 have hb3:(i:Int)<=(n:Int):=Wm
 have hGi: ¬(G=i):=Wm
 have hGim: ¬(G=i+1):=Wm
 have hci: ¬(n=i):=Wm
 have hzz:(n:Int)<(n:Int)+1:=Wm
 have hG63:G<=9223372036854775807:=by unfold maxLen at hGm;omega
 go_enter Tryz.func44,Tryz.ntmps44
 go_wp2_with (first
  |(at_builtin;refine Lib.wpList_append_run _ rfl _ _ _ _ rfl _ _ rfl rfl _ _ (hrz _) ?_)
  |(at_builtin;refine wpList_copy_runI _ rfl _ _ 34 34 rfl _ _ rfl rfl (hcp1 _ (λ_=>rfl) _ _ _ J0) ?_))
 go_region_law_o (refine step_copy_runI rfl _ _ 34 34 rfl (.slice (some ⟨w.heap.size,(i+1),none⟩) (n-i) (G-(i+1))) (.slice (some ⟨g,i,none⟩) (n-i) (n-i)) Uw Uw (hcp2 (W1.setRow w.heap.size R1).drew (λ_=>rfl) _ _ _ _ _ rfl rfl) ?_)
 go_wp2
 go_ret
 exact⟨R2,G,rfl,HN3.out,hgr,hGn,hGm,hfin.1,hfin.2⟩
theorem ZdX(w:World)(base:Nat)(v0:Value)(n i:Nat)(xs ys:List Value)(vb vc:Nat)(cv:Array Value)(ev:TypeId)(hown:w.ownsRow base 9 1 v0 n xs)(hi:i<=n)(hn:n<=1000000)(hvg:w.heap[vb]? =some (.cells cv ev (0,0)))(hvb:v0.ownBlock≠some vb)(hys:cv.toList.take 1=ys)(hyl:ys.length=1)
  (h1x: ∀u∈xs,u.oneCell'=true) (h1y: ∀u∈ys,u.oneCell'=true) (hbase:base<=w.heap.size):
  Calls Tryz.prog 44 #[v0,.int .i64 i,.slice (some ⟨vb,0,none⟩) 1 vc] w λe w'=> ∃v',e= .returned v'/\w'.ownsRow base 9 1 v' (n+1) (YY xs (i) ys)/\Grow w w' v0 v':=by
 have hxl:=hown.1;rw[Ql]at hxl;by_cases hin:i=n
 .subst hin;have e:YY xs (i) ys=xs++ys:=by unfold YY;rw[YR J0,ZBB J0,Kg]
  rw[e];exact Zbt w base v0 i xs ys vb vc hown hn hyl (λj u hj=>ZAA hvg Vw) h1y hbase
 .rcases hown.2 with⟨_,rfl⟩|⟨g,cap,cur,rfl,hbg,hgg,hnc,hcm,hcs,htake⟩
  .omega
  rw[Ql]at hcs htake;have hlen:(YY xs (i) ys).length=(n+1):=by unfold YY;simp only[ZW,Yv,KQ,hxl,hyl];omega
  by_cases hroom:n+1<=cap
  .refine(ZXE w g cap n i cur xs ys vb vc cv ev hgg hcs htake J0 hn hroom (by unfold maxLen at hcm;omega) hvg (λe=>hvb (by rw[e];rfl)) hys hyl h1x h1y).mono ?_;rintro e w' ⟨cur',rfl,rfl,h1,h2⟩;refine⟨_,rfl,⟨by rw[Ql];exact hlen,.inr ⟨g,cap,cur',rfl,hbg,setRow_heap w.drew g cur _ _ _ hgg,hroom,hcm,by rw[Ql];exact h1,by rw[Ql];exact h2⟩⟩,⟨⟨rfl,rfl,rfl,by show w.drew.heap.size<=_;simp,λk _ hk=>setRow_other w.drew g k _ (λq=>hk (by rw[q];rfl))⟩,.inl rfl⟩⟩
  .refine(ZZM w g cap n i cur xs ys vb vc cv ev hgg hcs htake J0 hn hnc J0 hvg hys hyl h1x h1y).mono ?_;rintro e w' ⟨cur',G,rfl,h0,hg,h1,h2,h3,h4⟩;exact⟨_,rfl,⟨by rw[Ql];exact hlen,.inr ⟨w.heap.size,G,cur',rfl,hbase,h0,h1,h2,by rw[Ql];exact h3,by rw[Ql];exact h4⟩⟩,⟨⟨hg.os,hg.tape,hg.output,hg.size,λk hk _=>hg.block k hk J1⟩,.inr ⟨_,rfl,Zr _⟩⟩⟩
end Go.Proofs.YtiogclkbccdefaaGreatDoor
end
section
namespace Go.Ab
open Go.RowKit Go.Bo
theorem ZcB{sz i:Nat}{rs:J6}{r:J9}{xs ys:List Value}{w:World}{st:Nat->Nat->Prop}(hi:i<=rs.length)(hxl:xs.length=rs.length*sz)(hyl:ys.length=1*sz)(hall: ∀r∈rs,r.length=sz)
  (h1: ∀(i:Nat) (r:J9) (j:Nat) (x:X) (v:Value),rs[i]? =some r->r[j]? =some x->xs[i*sz+j]? =some v->VX w st x v)
  (hr:r.length=sz) (h2: ∀(j:Nat) (x:X) (v:Value),r[j]? =some x->ys[j]? =some v->VX w st x v)
  (k:Nat) (q:J9) (j:Nat) (x:X) (v:Value) (hk:(YY rs i [r])[k]? =some q) (hx:q[j]? =some x) (hj:j<sz) (hv:(YY xs (i*sz) ys)[k*sz+j]? =some v):VX w st x v:=by
 have hil:i*sz<=rs.length*sz:=Ky _ hi;have htl:(xs.take (i*sz)).length=(rs.take i).length*sz:=by rw[Yv,Yv,ZOr hi,ZOr J0]
 have hA: ∀(a:Nat) (r:J9) (j:Nat) (x:X) (v:Value),(rs.take i)[a]? =some r->r[j]? =some x->(xs.take (i*sz))[a*sz+j]? =some v->VX w st x v:=λa r j x v e1 e2 e3=>by
  rw[Kp]at e1 e3;split at e1
  .split at e3
   .exact h1 a r j x v e1 e2 e3
   .cases e3
  .cases e1
 have hB: ∀(a:Nat) (q:J9) (j:Nat) (x:X),[r][a]? =some q->q[j]? =some x-> ∃u,ys[a*sz+j]? =some u/\VX w st x u:=λa q j x e1 e2=>by
  cases a with
  |succ a=>simp at e1
  |zero=>
   simp at e1;subst e1;have hjl:j<ys.length:=by rw[hyl,ZM2,<-hr];exact(ZX e2).1
   refine⟨ys[j],by rw[ZKL,Jk];exact Zw hjl,h2 j x _ e2 (Zw hjl)⟩
 have hAB: ∀(a:Nat) (q:J9) (j:Nat) (x:X) (v:Value),(rs.take i++ [r])[a]? =some q->q[j]? =some x->(xs.take (i*sz)++ys)[a*sz+j]? =some v->VX w st x v:=λa q j x v e1 e2 e3=>by
  refine ZDz htl hA hB a q j x v e1 e2 ?_ e3;have hq:q.length=sz:=by
   rcases KT.1 (JE e1)with h|h
   .exact hall q (ZCH h)
   .rw[ZAM]at h;rw[h,hr]
  rw[<-hq];exact(ZX e2).1
 have hC: ∀(a:Nat) (q:J9) (j:Nat) (x:X),(rs.drop i)[a]? =some q->q[j]? =some x-> ∃u,(xs.drop (i*sz))[a*sz+j]? =some u/\VX w st x u:=λa q j x e1 e2=>by
  rw[ZAZ]at e1;have hq:=hall q (JE e1);have hjl:j<sz:=by rw[<-hq];exact(ZX e2).1
  have hal:i+a<rs.length:=(ZX e1).1;have hm:(i+a+1)*sz<=rs.length*sz:=Ky _ J0;rw[JR,ZM2]at hm;have hlt:(i+a)*sz+j<xs.length:=Wm
  refine⟨xs[(i+a)*sz+j],?_,h1 (i+a) q j x _ e1 e2 (Zw hlt)⟩;rw[ZAZ,show i*sz+(a*sz+j)=(i+a)*sz+j by rw[JR];omega];exact Zw hlt
 exact ZDz (by simp only[ZW,htl,hyl,Kh,JR]) hAB hC k q j x v hk hx hj hv
theorem ZK0{α:Type}(l:List α)(i:Nat)(y:List α)(h:i<=l.length):(YY l i y).length=l.length+y.length:=by
 unfold YY;simp only[ZW,Yv,KQ];omega
theorem ZO.ins{P:Program}{f:FuncId}{e sz:Nat}(rs:J6)(r:J9)(i:Nat)(hi:i<=rs.length)(hn:rs.length<=1000000)
  (hraw: ∀(w:World) (v0:Value) (n i:Nat) (xs ys:List Value) (vb vc:Nat) (cv:Array Value) (ev:TypeId),w.ownsRow 0 e sz v0 n xs->i<=n->n<=1000000->w.heap[vb]? =some (.cells cv ev (0,0))->v0.ownBlock≠some vb->cv.toList.take sz=ys->ys.length=sz->(∀u∈xs,u.oneCell'=true)->(∀u∈ys,u.oneCell'=true)->
   Calls P f #[v0,.int .i64 i,.slice (some ⟨vb,0,none⟩) 1 vc] w λx w'=> ∃v',x= .returned v'/\w'.ownsRow 0 e sz v' (n+1) (YY xs (i*sz) ys)/\Grow w w' v0 v'):
  ZO P f [.ref 0 rs.length 0 rs.length,.x (.int .i64 i),.ref 1 1 0 1] [.rows false e sz rs,.rows false e sz [r]] (.ref 0 (rs.length+1) 0 (rs.length+1)) [.rows false e sz (YY rs i [r]),.rows false e sz [r]]:=by
 intro c E vs R hvl;obtain⟨hsz,hv⟩:=hvl;obtain⟨v0,v1,v2,rfl⟩: ∃v0 v1 v2,vs= #[v0,v1,v2]:=by
  obtain⟨vl⟩:=vs
  match vl,hsz with
  | [a,b,c],_=>exact⟨a,b,c,rfl⟩
 have h0:=hv 0 _ v0 rfl rfl;have h1:=hv 1 _ v1 rfl rfl;have h2:=hv 2 _ v2 rfl rfl;clear hv hsz;obtain rfl:v1= .int .i64 i:=by cases h1 with|x h=>cases h;rfl
 clear h1;obtain⟨os,hos⟩: ∃os,os= [Ob.rows false e sz rs,Ob.rows false e sz [r]]:=⟨_,rfl⟩;have ho:os[0]? =some (Ob.rows false e sz rs):=by rw[hos];rfl
 have ho2:os[1]? =some (Ob.rows false e sz [r]):=by rw[hos];rfl
 have hset:os.set 0 (.rows false e sz (YY rs i [r]))= [.rows false e sz (YY rs i [r]),.rows false e sz [r]]:=by rw[hos];rfl
 rw[<-hset];rw[<-hos]at R h0 h2;obtain⟨p,hp,hok⟩:=R.at ho;obtain⟨q,hq,hok2⟩:=R.at ho2;have hlt:0<os.length:=by rw[hos];simp
 have hat: ∀ {id:Nat} {rs:J6} {v:Value} {p:Nat×Value},V E os (.ref id rs.length 0 rs.length) v->os[id]? =some (.rows false e sz rs)->E.ob[id]? =some p->v=p.2:=λhx ho hp=>by
  exact Nj
 obtain rfl:=hat h0 ho hp;obtain rfl:=hat (rs:= [r]) h2 ho2 hq;obtain⟨xs,k1,k2,k3⟩:=hok;obtain⟨ys,l1,l2,l3⟩:=hok2;have hown:=k1.owns;have hrl:r.length=sz:=l2 r J1;rcases l1.owns.2 with⟨_,h⟩|⟨vb,vcap,cv,hq2,_,hvg,hvn,hvm,hvs,hvt⟩
 .simp at h
 have hyl:ys.length=1*sz:=l1.1;have hx1: ∀u∈xs,u.oneCell'=true:=λu hu=>by
  obtain⟨m,hm⟩:=ZFA.1 hu;have hml:=(ZX hm).1;rw[k1.1]at hml;have hsz0:0<sz:=by
   rcases ZPs sz with h|h
   .subst h;simp at hml
   .exact h
  have hmd:m/sz<rs.length:=(Zc8 hsz0).2 hml;have hrr:=Zw hmd;have hrl2:=k2 _ (YK hmd);have hmm:m % sz<(rs[m/sz]).length:=by rw[hrl2];exact Nat.mod_lt _ hsz0
  exact(k3 (m/sz) _ (m % sz) _ u hrr (Zw hmm) (by rw[ZKg,ZXJ];exact hm)).one
 have hy1: ∀u∈ys,u.oneCell'=true:=λu hu=>by
  obtain⟨m,hm⟩:=ZFA.1 hu;have hml:=(ZX hm).1;have hmm:m<r.length:=by rw[hrl];omega
  exact(l3 0 r m _ u J1 (Zw hmm) (by rw[ZKL,Jk];exact hm)).one
 have hdis:p.2.ownBlock≠some vb:=λh=>by
  have:=R.dis 0 1 _ _ p q vb ho hp ho2 hq h (by show q.2.ownBlock=some vb;rw[hq2];rfl);omega
 have hraw2:=hraw E.w p.2 rs.length i xs ys vb vcap cv e hown hi hn hvg hdis (by rw[<-hvt];simp) J0 hx1 hy1;rw[hq2];refine hraw2.mono ?_;rintro x w' ⟨v',rfl,ho',hG⟩;have hil:=ZK0 rs i [r] hi;have hall: ∀q∈YY rs i [r],q.length=sz:=λq hq=>by
  unfold YY at hq;rcases KT.1 hq with h|h
  .rcases KT.1 h with h|h
   .exact k2 q (ZCH h)
   .rw[ZAM]at h;rw[h,hrl]
  .exact k2 q (ZDD h)
 have hrow:QM w' false e sz (YY rs i [r]).length v' (YY xs (i*sz) ys):=by rw[hil];exact NJ
 obtain⟨R',ev⟩:=R.set ho hp w' (.rows false e sz (YY rs i [r])) (p.1,v') (Kept.of_grown hG.grown) (λb hb=>by
  have hb':v'.ownBlock=some b:=hb;rcases hG.own with h|⟨g,h,h2⟩
  .exact U6
  .right;rw[h]at hb';cases hb';exact .inl h2) (λsz1 n1 h=>by
   simp[Ob.sl?]at h;obtain⟨rfl,rfl⟩:=h;exact⟨(YY rs i [r]).length,rfl,.inr (by rw[hil];simp)⟩) (λds h=>W6) (λev=>by
   refine⟨YY xs (i*sz) ys,hrow,hall,λk q j x v e1 e2 e3=> ?_⟩;refine VX.mono (w:=E.w) (st:=E.st) (λb o hb=>ev.st b o hb) ?_;exact ZcB hi k1.1 hyl k2 k3 hrl (λj x v e1 e2=>l3 0 r j x v J1 e1 (by rw[ZKL,Jk];exact e2)) k q j x v e1 e2 (by rw[<-hall q (JE e1)];exact(ZX e2).1) e3)
 refine⟨v',_,rfl,rfl,R',by rw[<-hos];exact ev,?_⟩;have hob':(E.ob.set 0 (p.1,v'))[0]? =some (p.1,v'):=HQ
 rw[show rs.length+1=(YY rs i [r]).length by rw[hil];rfl];refine .ref ⟨.rows false e sz (YY rs i [r]),sz,(YY rs i [r]).length,Xu,rfl,?_⟩ ?_
 .refine⟨Zr _,λ_=>⟨J0,p.1,?_⟩⟩;rcases hrow.2 with⟨h3,h4⟩|⟨g,cap,cells,fr,h3,h4,h5,h6,h7⟩
  .rw[hil]at h4;simp at h4
  .exact VA
 .exact Vv
end Go.Ab
namespace Go.Proofs.YtiogclkbccdefaaGreatDoor
open Go.RowKit Go.Bo Go.Ab
theorem ZiQ(rs:J6)(r:J9)(i:Nat)(hi:i<=rs.length)(hn:rs.length<=1000000):ZO Tryz.prog 126 [.ref 0 rs.length 0 rs.length,.x (.int .i64 i),.ref 1 1 0 1] [.rows false 94 2 rs,.rows false 94 2 [r]] (.ref 0 (rs.length+1) 0 (rs.length+1)) [.rows false 94 2 (YY rs i [r]),.rows false 94 2 [r]]:=
 ZO.ins rs r i hi hn λw v0 n i xs ys vb vc cv ev h1 h2 h3 h4 h5 h6 h7 h8 h9=>Zcf w 0 v0 n i xs ys vb vc cv ev h1 h2 h3 h4 h5 h6 h7 h8 h9 (Kb _)
def Qf(c:UInt8):UInt8:=if 65<=c.toNat/\c.toNat<=90 then UInt8.ofNat (c.toNat+32)else c
theorem ZIe{c:UInt8}(h:65<=c.toNat/\c.toNat<=90):((Qf c).toNat:Int)=(c.toNat:Int)-65+97:=by
 unfold Qf;rw[if_pos h];simp;omega
def ZE(s:List UInt8):List UInt8:=s.map Qf
def ZBu(s:List UInt8)(i:Nat):List UInt8:=(s.take i).map Qf++s.drop i
theorem ZJL(s:List UInt8)(i:Nat):(ZBu s i).length=s.length:=by simp[ZBu];omega
theorem ZZ4(s:List UInt8):ZBu s 0=s:=by simp[ZBu]
theorem Zbm(s:List UInt8)(i:Nat)(h:s.length<=i):ZBu s i=ZE s:=by simp[ZBu,ZE,YR h,ZBB h]
theorem ZcD(s:List UInt8)(i:Nat)(h:i<s.length):(ZBu s i)[i]'(by rw[ZJL];exact h)=s[i]:=by
 simp[ZBu,List.getElem_append,ZOr (Nat.le_of_lt h)]
theorem Zbw(s:List UInt8)(i:Nat)(h:i<s.length)(c:UInt8)(hc:c=Qf s[i]):(ZBu s i).set i c=ZBu s (i+1):=by
 subst hc;unfold ZBu;rw[JW h,ξW h,ZDm _ _ Wx];have hm:i-((s.take i).map Qf).length=0:=Wx
 rw[hm,ZDp,Jj,Ys];rfl
theorem Zbu(s:List UInt8)(i:Nat)(h:i<s.length):((ZBu s i).map Zv)[i]? =some [X.int .u8 s[i].toNat]:=by
 have h2:i<(ZBu s i).length:=by rw[ZJL];exact h
 rw[YI,Zw h2,ZcD s i h];rfl
theorem ZZY(s:List UInt8)(i:Nat)(h:i<s.length)(hc:65<=s[i].toNat/\s[i].toNat<=90):((ZBu s i).map Zv).set i [X.int .u8 (IntKind.u8.wrap (IntKind.u8.wrap ((s[i].toNat:Int)-65)+97))]=(ZBu s (i+1)).map Zv:=by
 have e1:IntKind.u8.wrap ((s[i].toNat:Int)-65)=(s[i].toNat:Int)-65:=IntWalk.u8_in _ J0;have e2:IntKind.u8.wrap ((s[i].toNat:Int)-65+97)=((Qf s[i]).toNat:Int):=by rw[IntWalk.u8_in _ J0,ZIe hc]
 rw[e1,e2,<-Zbw s i h _ rfl,ZM8];rfl
theorem ZY8(s:List UInt8)(i:Nat)(h:i<s.length)(hc:Qf s[i]=s[i]):ZBu s i=ZBu s (i+1):=by
 unfold ZBu;rw[JW h,Jj,Ys,ξW h];simp[hc]
theorem ZFO{c:UInt8}(h: ¬(65<=c.toNat/\c.toNat<=90)):Qf c=c:=if_neg h
theorem ZPG(s:List UInt8)(hl:s.length<=140737488355328):ZL Tryz.prog 63 [.x (.str s)] (.x (.str (ZE s))):=by
 refine ZF.pure (fC 63 true ?_) rfl;intro C0 E0;have uu:=JL @ZJL @JO @QQ;have tT:=(ZB:SsOk Tryz.prog YH);refine rg [0] ?_;refine rg [3] ?_;refine rg [3,8,9,10] ?_;refine WI.loop (λφ os=> ∃(i:Nat),φ= [(3,.ref 0 s.length 0 s.length),(8,.ref 0 s.length 0 s.length),(9,.x (.int .i64 s.length)),(10,.x (.int .i64 i))]/\os= [.rows true 5 1 ((ZBu s i).map Zv)]/\i<=s.length) (ZJ s.length 10) ?_ (λφ os hI=> ?_)
 .exact⟨0,rfl,by rw[ZZ4],J0⟩
 .obtain⟨i,rfl,rfl,hi⟩:=hI;refine rg [3,8,9,10,11] ?_;refine cd (λh0=> ?_) (λh0=> ?_)
  .have hi4:i<s.length:=Wm
   have uu:=YB uu (Zbu s i hi4);have hb8:s[i].toNat<256:=ZEJ _;refine rg [3,4,5,8,9,10] ?_;refine rg [3,4,5,8,9,10,20] ?_;refine cd (λh1=> ?_) (λh1=> ?_)
   .have hcs:65<=s[i].toNat/\s[i].toNat<=90:=Wm
    have uu:=YB uu (ZZY s i hi4 hcs);refine rg [3,8,9,10] ?_;exact GV
   .have hcs: ¬(65<=s[i].toNat/\s[i].toNat<=90):=Wm
    have hset:=ZY8 s i hi4 (ZFO hcs);exact GV
  .have e8:((ZBu s i).map Zv).take s.length=(ZE s).map Zv:=by rw[YR (by simp[ZJL]),Zbm s i J0]
   have uu:=YB uu e8;refine Wy ?_
   exact Wo
def ZK7:J8->J5
 | [.x (.str s)]=>some (decide (s.length<=1000000),.x (.str (ZE s)))
 |_=>none
theorem ZLA:QK Tryz.prog ZK7 63:=by
 intro args r h;unfold ZK7 at h;split at h
 .rename_i s;obtain⟨h1,rfl⟩:=Yn h;exact(ZPG s J0)
 .cases h
theorem ZFb(s:List UInt8):(ZE s).length=s.length:=by simp[ZE]
theorem ZYN(s:List UInt8)(i:Nat)(h:i<s.length):ZE (s.take (i+1))=ZE (s.take i)++ [Qf (s.getD i 0)]:=by
 rw[show s.getD i 0=s[i] by simp[h]];unfold ZE;rw[JW h,Jj];rfl
theorem YU(l:List UInt8)(c:UInt8):(l++ [c]).map Zv=l.map Zv++ [[X.int .u8 c.toNat]]:=by rw[Jj];rfl
theorem ZaM{c:UInt8}(h:65<=c.toNat/\c.toNat<=90):IntKind.u8.wrap ((c.toNat:Int)+32)=((Qf c).toNat:Int):=by
 have:=ZEJ c;rw[IntWalk.u8_in _ J0,ZIe h];omega
theorem ZGz(s:List UInt8)(hl:s.length<=140737488355328):ZL Tryz.prog 97 [.x (.str s)] (.x (.str (ZE s))):=by
 refine ZF.pure (fC 97 true ?_) rfl;intro C0 E0;have uu:=YB @JO @QQ;have tT:=(ZB:SsOk Tryz.prog YH);refine Ub ?_;refine WI.regB tT [0,3,4] ?_;refine Wf ?_;refine WI.ownA 3 5 1 ?_;refine WI.loop (λφ os=> ∃(i:Nat),φ= [(0,.x (.str s)),(3,.ref 0 (ZE (s.take i)).length 0 (ZE (s.take i)).length),(4,.x (.int .i64 i))]/\os= [.rows false 5 1 ((ZE (s.take i)).map Zv)]/\i<=s.length) (ZJ s.length 4) ?_ (λφ os hI=> ?_)
 .exact Vg
 .obtain⟨i,rfl,rfl,hi⟩:=hI;refine nz ?_;refine WI.regB tT [0,3,4,9] ?_
  refine Wu ?_
  iterate 2 refine oG (hok:=WH) ?_
  refine V9 ?_;refine cd (λh0=> ?_) (λh0=> ?_)
  .have hi4:i<s.length:=Wm
   have hlt:(ZE (s.take i)).length+1<=140737488355328:=by rw[ZFb,Yv];omega
   have hst:=ZYN s i hi4;have hb8:(s.getD i 0).toNat<256:=ZEJ _;refine WI.regB tT [0,3,4,5] ?_
   refine Wu ?_;refine oG (hok:=WH) ?_;refine Wf ?_;refine WI.regB tT [0,3,4,5,20] ?_;refine oS ?_;refine oG (hok:=WH) ?_;refine oS ?_
   iterate 3 refine oG (hok:=WH) ?_
   refine V9 ?_;refine cd (λh1=> ?_) (λh1=> ?_)
   .have hcs:65<=(s.getD i 0).toNat/\(s.getD i 0).toNat<=90:=Wm
    refine WI.regB tT [0,3,4,5] ?_;refine oS ?_;refine oG (hok:=WH) ?_;refine Wf ?_;refine WI.regB tT [0,3,4] ?_;refine Wu ?_
    iterate 2 refine oG (hok:=WH) ?_
    refine Wf ?_;exact VN
   .have hcs: ¬(65<=(s.getD i 0).toNat/\(s.getD i 0).toNat<=90):=Wm
    refine WI.regB tT [0,3,4] ?_;refine Wu ?_
    iterate 2 refine oG (hok:=WH) ?_
    refine Wf ?_;exact VN
  .have e8:((ZE (s.take i)).map Zv).take (ZE (s.take i)).length=(ZE s).map Zv:=by rw[YR J1,YR J0]
   have uu:=YB uu e8;refine GT ?_;refine oG (hok:=WH) ?_;refine Un ?_
   exact Wo
def ZIc:J8->J5
 | [.x (.str s)]=>some (decide (s.length<=1000000),.x (.str (ZE s)))
 |_=>none
theorem ZI4:QK Tryz.prog ZIc 97:=by
 intro args r h;unfold ZIc at h;split at h
 .exact GO
 .cases h
abbrev Tx:=List UInt8
end Go.Proofs.YtiogclkbccdefaaGreatDoor
end
section
namespace Go.Proofs
open Go.Shelf Go.RowKit Go.Lib
set_option maxHeartbeats 1000000 in
theorem Any1.strings_Split_one{P:Program}{ρ:Ren}(L:Lays.n146 P ρ)(hi9:(P.info? (ρ.t 9)).map (λi=>(i.zero,i.size,i.bytes))=some (some (.string ByteArray.empty),1,16))(s:ByteArray)(b:UInt8)(w:World)(hs:s.size<4294967281):
  Calls P (ρ.f 146) #[.string s,.string ⟨#[b]⟩] w λe w'=>
   e= .returned (.slice (some ⟨w.heap.size,0,none⟩) (Lib.countB s ⟨#[b]⟩+1) (Lib.countB s ⟨#[b]⟩+1))/\w'=w.alloc (.cells ((Lib.splitB ⟨#[b]⟩ 0 (Lib.countB s ⟨#[b]⟩) s).map Value.string).toArray (ρ.t 9)):=by
 have h1:1<=(⟨#[b]⟩:ByteArray).size:=Zr _;have hle:=Lib.countB_le ⟨#[b]⟩ h1 s.size s (Zr _);have hlen:=Lib.splitB_all ⟨#[b]⟩ h1 0 _ s rfl;have hI: ∀(x:ByteArray) (c:Array Value),x.size<=s.size->Calls P (ρ.f 143) #[.string x,.string ⟨#[b]⟩] (w.alloc (.cells c (ρ.t 9))) λe w'=>e= .returned (.int .i64 (Lib.indexB x ⟨#[b]⟩))/\w'=w.alloc (.cells c (ρ.t 9)):=λx c hx=>by
  refine(Any.strings_Index_one {L with} x b _).mono λe w' ⟨he,hw⟩=>⟨?_,hw⟩
  rw[he,Lib.indexB,Lib.index_one]
 have hC:Calls P (ρ.f 138) #[.string s,.string ⟨#[b]⟩] w λe w'=>e= .returned (.int .i64 (Lib.countB s ⟨#[b]⟩))/\w'=w:=by
  refine(Any.strings_Count_one {L with} s b w).mono λe w' ⟨he,hw⟩=>⟨?_,hw⟩
  rw[he];show _=Ending.returned (Value.int .i64 ((Lib.count s.data.toList [b]:Nat):Int));rw[Lib.count_one];rfl
 have c:=Any.strings_genSplit_core {L with} hi9 s ⟨#[b]⟩ 0 (-1) (Lib.countB s ⟨#[b]⟩+1) w hs h1 (Kb _) hI hC WT WT (by rw[if_pos WT];omega);rw[Zbd,hlen]at c;have e2:Lib.cellsOf (Lib.splitB ⟨#[b]⟩ 0 (Lib.countB s ⟨#[b]⟩) s) (Lib.countB s ⟨#[b]⟩+1)=((Lib.splitB ⟨#[b]⟩ 0 (Lib.countB s ⟨#[b]⟩) s).map Value.string).toArray:=by rw[<-hlen];exact Lib.cellsOf_full _
 rw[e2]at c;have t3:=L.t3;have t9:=L.t9;have t31:=L.t31;have a3:=L.a3;have a9:=L.a9;have a31:=L.a31;have z3:=L.z3;have v3:=L.v3;have z9:=L.z9;have v9:=L.v9;have z31:=L.z31;have v31:=L.v31;have e221: ∀args w,(callFunc (ρ.f 221) args).run P w= .ok (.enter (ρ.f 221) args) w:=enters_of L.f221 J3 rfl
 go_enter L.f146,Body.n146_ntmps ρ
 go_wp2_with (go_at_fn (ρ.f 221);refine c.mono ?_;rintro e w' ⟨rfl,hw⟩;rw[hw])
 go_ret
 exact Gg
end Go.Proofs
namespace Go.Proofs.YtiogclkbccdefaaGreatDoor
open Go.RowKit Go.Bo Go.Ab
def QF(c:UInt8):List UInt8->List (List UInt8)
 | []=> [[]]
 |b::l=>if b=c then []::QF c l else match QF c l with
  |x::r=>(b::x)::r
  | []=> [[b]]
theorem ZiS(c:UInt8): ∀s,QF c s≠ []
 | []=>by simp[QF]
 |b::l=>by unfold QF;split;simp;split<;>simp
theorem Zfw(c b:UInt8)(l:List UInt8)(h:b≠c): ∀k,Lib.splitK [c] 0 k (b::l)=match Lib.splitK [c] 0 k l with
  |x::r=>(b::x)::r
  | []=> [[b]]
 |0=>rfl
 |k+1=>by
  have hp: [c].isPrefixOf (b::l)=false:=by simp[List.isPrefixOf];exactλe=>h e.symm
  simp only[Lib.splitK,Lib.index,hp,Je,if_false];by_cases hi:(Lib.index l [c]== -1)=true
  .simp[hi]
  .have hn:=Lib.index_ge l [c];simp only[hi,Je,if_false];simp at hi;have h1:(Lib.index l [c]+1== -1)=false:=Wx
   obtain⟨n,hn⟩: ∃n:Nat,Lib.index l [c]=n:=⟨(Lib.index l [c]).toNat,J0⟩;simp[hn,h1];intro h;omega
theorem ZYw(c:UInt8): ∀s,Lib.splitK [c] 0 (Lib.count s [c]) s=QF c s
 | []=>by
  have:Lib.count [] [c]=0:=by rw[Lib.count_one];rfl
  rw[this];rfl
 |b::l=>by
  have ih:=ZYw c l;by_cases h:b=c
  .subst h;rw[Lib.count_cons_eq,ZPa];have hp: [b].isPrefixOf (b::l)=true:=by simp[List.isPrefixOf]
   simp only[Lib.splitK,Lib.index,hp,if_true,QF];simp[ih]
  .rw[Lib.count_cons_ne _ _ _ h,Zfw _ _ _ h,ih,QF,if_neg h]
theorem ZeZ(s:List UInt8)(c:UInt8)(h:s.length<=1000000):ZL Tryz.prog 189 [.x (.str s),.x (.str [c])] (.x (.sl (rows ZC (QF c s)))):=by
 intro w st vs hst hvl;obtain⟨hsz,hv⟩:=hvl;obtain⟨v0,v1,rfl⟩: ∃v0 v1,vs= #[v0,v1]:=by
  obtain⟨vl⟩:=vs
  match vl,hsz with
  | [a,b],_=>exact XV
 have h0:=hv 0 _ v0 rfl rfl;have h1:=hv 1 _ v1 rfl rfl;clear hv hsz;cases h0 with
 |x h0=>
 cases h1 with
 |x h1=>
 cases h1 with
 |str _=>
 cases h0 with
 |str _=>
 have hlen:=Lib.splitB_all ⟨#[c]⟩ (Zr _) 0 _ (ZV s) rfl;have hD:(Lib.splitB ⟨#[c]⟩ 0 (Lib.countB (ZV s) ⟨#[c]⟩) (ZV s)).map (·.data.toList)=QF c s:=by
  rw[Lib.splitB_data];have e:(ZV s).data.toList=s:=Ht
  show Lib.splitK [c] 0 (Lib.count (ZV s).data.toList [c]) (ZV s).data.toList=_;rw[e];exact ZYw c s
 have hle:=Lib.countB_le ⟨#[c]⟩ (Zr _) (ZV s).size (ZV s) (Zr _);have hbs:(ZV s).size=s.length:=HE
 refine(Any1.strings_Split_one Tryz.lays146 J3 (ZV s) c w J0).mono ?_;generalize Lib.splitB ⟨#[c]⟩ 0 (Lib.countB (ZV s) ⟨#[c]⟩) (ZV s)=ps at hlen hD|-;generalize Lib.countB (ZV s) ⟨#[c]⟩=k at hlen hle|-;rintro e w' ⟨rfl,rfl⟩;refine⟨_,λb o=>st b o\/(b=w.heap.size/\o<k+1),rfl,?_,λ_ _ h=> .inl h,?_,?_⟩
 .exact Kk w _
 .rintro b o (h|⟨rfl,h⟩)
  .exact .inl h
  .exact .inr ⟨Zr _,J1⟩
 .rw[<-hD];refine .x (.sl _ _ _ _ 1 (λi _=> .string (ps[i]?.getD default)) ?_ (Zr _) ?_ ?_ ?_ (λh=>W6) (λ_ ad h=>N1) ?_)
  .rw[ZQ,Yc];exact hlen
  .show k+1<=maxLen;exact XR
  .intro r hr;simp only[rows,YS]at hr;obtain⟨x,_,rfl⟩:=hr;rfl
  .intro i j hi hj;have hj0:j=0:=Wm
   subst hj0;refine⟨_,_,rfl,.inr ⟨rfl,J0⟩,?_⟩;have hip:i<ps.length:=Wm
   rw[show 0+i*1+0=i by omega,World.cell?_alloc_at _ _ _ _ rfl];simp only[List.getElem?_toArray,YI,Zw hip,Yq,ξY]
  .intro i j r x hr hx;simp only[rows,YI,Option.map_map,Kq]at hr;obtain⟨y,hy,rfl⟩:=hr;simp only[Function.comp,ZC,RC.enc]at hx;rcases j with _|j
   .simp at hx;subst hx;simp only[hy,ξY];have:y=ZV y.data.toList:=Ht
    conv=>rhs;rw[this]
    exact .str _
   .simp at hx
theorem ZRv:Go.Ab.Enters Tryz.prog 189:=Go.Proofs.enters_of Tryz.lays146.f146 J3 rfl
theorem ZSq(l:List (List UInt8)):(l.map ZV).map (·.data.toList)=l:=by
 rw[Jv]
 conv=>rhs;rw[<-ZPA l]
 exact ZBz λx _=>Ht
theorem Zif(l:List (List UInt8))(sep:List UInt8)(h:(Lib.join l sep).length<=140737488355328)(hl:l.length<=140737488355328):ZL Tryz.prog 77 [.x (.sl (rows ZC l)),.x (.str sep)] (.x (.str (Lib.join l sep))):=by
 intro w st vs hst hvl;obtain⟨hsz,hv⟩:=hvl;obtain⟨v0,v1,rfl⟩: ∃v0 v1,vs= #[v0,v1]:=by
  obtain⟨vl⟩:=vs
  match vl,hsz with
  | [a,b],_=>exact XV
 have h0:=hv 0 _ v0 rfl rfl;have h1:=hv 1 _ v1 rfl rfl;clear hv hsz;cases h0 with
 |x h0=>
 cases h1 with
 |x h1=>
 cases h1 with
 |str _=>
 cases h0 with
 |sl _ a n c sz val hn hc hm hsz hcell hnil hsp hval=>
  rw[ZQ]at hn;subst hn
  match l,h,hl,hc,hsz,hcell,hval with
  | [],_,_,_,_,_,_=>
   refine(Tryz.strings_Join_none a c (ZV sep) w).mono ?_;rintro e w' ⟨rfl,rfl⟩;exact⟨_,st,rfl,Kept.refl _ _,λ_ _ h=>h,λ_ _ h=> .inl h,.x (.str [])⟩
  |x::r,h,hl,hc,hsz,hcell,hval=>
   obtain rfl:1=sz:=hsz [.str x] Ge;obtain⟨b,off,rfl,hs0,_⟩:=hcell 0 0 J1 J0;have hcells: ∀(j:Nat) y,((x::r).map ZV)[j]? =some y->w.cell? ⟨b,off+j,none⟩=some (.string y):=by
    intro j y hy;rw[YI]at hy;obtain⟨z,hz,rfl⟩:=Zc hy;have hj:j<(x::r).length:=(ZX hz).1;obtain⟨b',off',e,_,hw⟩:=hcell j 0 hj J0;simp only[Yu,Addr.mk.injEq]at e;obtain⟨rfl,rfl,_⟩:=e;have hx:=hval j 0 [.str z] (.str z) (by simp only[rows,YI,hz];rfl) rfl;rw[show off+j=off+j*1+0 by omega,hw];generalize val j 0=u at hx;cases hx with
    |str _=>rfl
   have hlen:(Lib.join (((x::r).map ZV).map (·.data.toList)) (ZV sep).data.toList).length<=140737488355328:=by
    rw[ZSq];simpa[ZV]using h
   have hc':((x::r).map ZV).length<=c:=by rw[Yc];exact hc
   have:=Tryz.strings_Join b off c ((x::r).map ZV) (ZV sep) w hcells (hst _ _ hs0) (by rw[Yc];exact hl) hc' hlen;rw[Yc,ZSq]at this;refine this.mono ?_;rintro e w' ⟨rfl,hb⟩;refine⟨_,st,rfl,Kept.of_none (Ext.grown hb none),λ_ _ h=>h,λ_ _ h=> .inl h,?_⟩;have:(ZV sep).data.toList=sep:=Ht
   rw[this];exact .x (.str _)
theorem ZFn:Go.Ab.Enters Tryz.prog 77:=Go.Proofs.enters_of Tryz.lays156.f156 J3 rfl
theorem ZS7(s:List UInt8)(i:Nat)(h:i<s.length):(ZV s).get! i=s[i]:=by
 show(ZV s).data[i]! =_;simp[ZV,h]
theorem ZN3{s:List UInt8}{i:Nat}(h:i<s.length)(hb:s[i].toNat<128):Qb s i=(s[i].toNat,1):=by
 unfold Qb;rw[Lib.decode_at,ZS7 s i h];unfold Lib.decodeN;rw[if_pos hb]
theorem ZUV{s:List UInt8}{i:Nat}(h:i<s.length)(hb: ¬s[i].toNat<128):128<=(Qb s i).1/\1<=(Qb s i).2:=by
 unfold Qb;rw[Lib.decode_at,ZS7 s i h];rcases Lib.decodeN_shape ((ZV s).size-i) s[i].toNat ((ZV s).get! (i+1)).toNat ((ZV s).get! (i+2)).toNat ((ZV s).get! (i+3)).toNat with⟨h1,_⟩|⟨_,_,_,h1,h2⟩|⟨_,_,_,_,h1,_,h2⟩|⟨_,_,_,_,_,h1,_,h2⟩|h2
 .omega
 all_goals(rw[h2];simp only;omega)
theorem ZhW(s p:List UInt8):ZL Tryz.prog 201 [.x (.str s),.x (.str p)] (.tup [.x (.str (Lib.trimPrefix s p)),.x (.bool (Lib.hasPrefix s p))]):=by
 intro w st vs hst hvl;obtain⟨hsz,hv⟩:=hvl;obtain⟨v0,v1,rfl⟩: ∃v0 v1,vs= #[v0,v1]:=by
  obtain⟨vl⟩:=vs
  match vl,hsz with
  | [a,b],_=>exact XV
 have h0:=hv 0 _ v0 rfl rfl;have h1:=hv 1 _ v1 rfl rfl;cases h0 with
 |x h0=>
 cases h1 with
 |x h1=>
 cases h1 with
 |str _=>
 cases h0 with
 |str _=>
 refine(Tryz.strings_CutPrefix (ZV s) (ZV p) w).mono ?_;rintro e w' ⟨rfl,rfl⟩;refine⟨_,st,rfl,Kept.refl _ _,λ_ _ h=>h,λ_ _ h=> .inl h,?_⟩;have e1:(ZV s).data.toList=s:=Ht
 have e2:(ZV p).data.toList=p:=Ht
 rw[e1,e2];exact V.tup2 (V.mkstr _ _ _) _
theorem ZFo:Go.Ab.Enters Tryz.prog 201:=Go.Proofs.enters_of Tryz.lays103.f103 J3 rfl
def ZLK:J8->J5
 | [.x (.str s),.x (.str p)]=>some (true,.tup [.x (.str (Lib.trimPrefix s p)),.x (.bool (Lib.hasPrefix s p))])
 |_=>none
theorem ZI3:QK Tryz.prog ZLK 201:=by
 intro args r h;unfold ZLK at h;split at h
 .obtain rfl:=Qv h;exact(ZhW _ _)
 .cases h
def ZNS:J8->J5
 | [.x (.sl R),.x (.str sep)]=>(ZM ZC R).bind λl=>some (decide ((Lib.join l sep).length<=140737488355328/\l.length<=140737488355328),.x (.str (Lib.join l sep)))
 |_=>none
theorem ZGv:QK Tryz.prog ZNS 77:=by
 intro args r h;unfold ZNS at h;split at h
 .obtain⟨l,rfl,i0⟩:=un ZP h;obtain⟨h1,rfl⟩:=Yn i0;exact(Zif l _ h1.1 h1.2)
 .cases h
def ZSD:J8->J5
 | [.x (.str s),.x (.str [c])]=>some (decide (s.length<=1000000),.x (.sl (rows ZC (QF c s))))
 |_=>none
theorem Zab:QK Tryz.prog ZSD 189:=by
 intro args r h;unfold ZSD at h;split at h
 .obtain⟨h1,rfl⟩:=Yn h;exact(ZeZ _ _ h1)
 .cases h
def ZE2(s:List UInt8):List (List UInt8):=(QF 32 s).filter λx=>decide (x≠ [])
def jn:List (List UInt8)->List UInt8
 | []=> []
 | [x]=>x
 |x::y::r=>x++32::jn (y::r)
theorem ZPx: ∀l,Lib.join l [32]=jn l
 | []=>rfl
 | [x]=>by rw[Lib.join_one];rfl
 |x::y::r=>by
  have:=ZPx (y::r);simp only[Lib.join,List.intercalate,List.intersperse_cons_cons,ZUS,jn]at this|-;rw[this];rfl
theorem Zex{x:List UInt8}{l:List (List UInt8)}(h:l≠ []):jn (x::l)=x++32::jn l:=by
 cases l with
 |nil=>exact absurd rfl h
 |cons y r=>rfl
def wt(l:List (List UInt8)):Nat:=(l.map λx=>x.length+1).sum
theorem ZeD: ∀l:List (List UInt8),l≠ []->(jn l).length+1=wt l
 | [x],_=>by simp[jn,wt]
 |x::y::r,_=>by
  have:=ZeD (y::r) J1;show(x++32::jn (y::r)).length+1=(x.length+1)+wt (y::r);rw[ZW,Yx];omega
theorem ZRj(c:UInt8): ∀s,wt (QF c s)=s.length+1
 | []=>rfl
 |b::l=>by
  have ih:=ZRj c l;unfold QF;split
  .show(0+1)+wt (QF c l)=_;rw[ih,Yx];omega
  .split
   .rename_i y r he;rw[he]at ih;have e:wt (y::r)=(y.length+1)+wt r:=rfl;have e2:wt ((b::y)::r)=(y.length+1+1)+wt r:=rfl;rw[Yx];omega
   .rename_i he;exact absurd he (ZiS c l)
theorem ZQw(p:List UInt8->Bool): ∀l,wt (l.filter p)<=wt l
 | []=>Zr _
 |x::l=>by
  have:=ZQw p l;have e:wt (x::l)=(x.length+1)+wt l:=rfl;rw[ZG1];split
  .have e:wt (x::l.filter p)=(x.length+1)+wt (l.filter p):=rfl;omega
  .omega
theorem ZYX: ∀l:List (List UInt8),l.length<=wt l
 | []=>Zr _
 |x::l=>by
  have:=ZYX l;have e:wt (x::l)=(x.length+1)+wt l:=rfl;rw[Yx];omega
theorem ZU0(c:UInt8)(s:List UInt8):(QF c s).length<=s.length+1:=by have:=ZYX (QF c s);rw[ZRj]at this;exact this
theorem ZZn(s:List UInt8):(ZE2 s).length<=s.length+1:=ZEu (ZSj _ _) (ZU0 32 s)
theorem ZPu(s:List UInt8):(jn (ZE2 s)).length<=s.length:=by
 by_cases h:ZE2 s= []
 .rw[h];simp[jn]
 .have h1:=ZeD _ h;have h2:wt (ZE2 s)<=_:=ZQw _ _;rw[ZRj]at h2;omega
def blk(s:List UInt8):List UInt8:=jn (ZE2 s)
theorem ZL3(x:List UInt8)(l:List (List UInt8))(p:List UInt8->Bool):(l++ [x]).filter p=if p x then l.filter p++ [x]else l.filter p:=by
 rw[Zcd,ZG1,List.filter_nil];split<;>simp
theorem ZTK(s:List UInt8)(hl:s.length<=1000000):ZL Tryz.prog 174 [.x (.str s)] (.x (.str (blk s))):=by
 have hsl:=ZU0 32 s;refine ZF.pure (fC 174 true ?_) rfl;intro C0 E0;have uu:=Qu @ZNS.eq_1 @ZSD.eq_1 @ZLK.eq_1 @ZIJ.eq_1;have tT:=aQ (aQ (aT (aQ ZB ZGv ZFn) (ZCh ZGv) ZFn) Zab ZRv) ZI3 ZFo;refine Ub ?_;refine WI.regB tT [3,7,8,9] ?_;refine oS ?_;refine oC (hok:=WN) ?_;refine oG (hok:=WN) ?_;refine Wf ?_;refine WI.ownA 3 9 1 ?_;refine WI.loop (λφ os=> ∃(j:Nat) (o:List (List UInt8)),φ= [(3,.ref 0 o.length 0 o.length),(7,.x (.sl (rows ZC (QF 32 s)))),(8,.x (.int .i64 (QF 32 s).length)),(9,.x (.int .i64 j))]/\os= [.rows false 9 1 (rows ZC o)]/\j<=(QF 32 s).length/\o=((QF 32 s).take j).filter (λx=>decide (x≠ []))/\o.length<=j) (ZJ (QF 32 s).length 9) ?_ (λφ os hI=> ?_)
 .exact⟨0,[],rfl,rfl,J0,rfl,J1⟩
 .obtain⟨j,o,rfl,rfl,hj,ho,hoj⟩:=hI;refine nz ?_;refine WI.regB tT [3,7,8,9,10] ?_;refine oG (hok:=WN) ?_;refine V9 ?_;refine cd (λh0=> ?_) (λh0=> ?_)
  .have hj4:j<(QF 32 s).length:=Wm
   refine WI.regB tT [3,5,7,8,9] ?_
   iterate 2 refine oG (hok:=WN) ?_
   refine Wf ?_;refine WI.regB tT [3,5,7,8,9,14] ?_;refine oS ?_;refine oG (hok:=WN) ?_;refine V9 ?_;refine cd (λh1=> ?_) (λh1=> ?_)
   .have ho2:o++ [(QF 32 s)[j]]=((QF 32 s).take (j+1)).filter (λx=>decide (x≠ [])):=by rw[JW hj4,ZL3,<-ho,if_pos WC]
    refine WI.post ?_;refine WI.regB tT [3,7,8,9] ?_;refine Wu ?_
    iterate 2 refine oG (hok:=WN) ?_
    refine Nu ?_;refine Vx ?_;refine WI.regB tT [3,7,8,9] ?_;refine oG (hok:=WN) ?_;refine Wf ?_
    exact UX
   .have ho2:o=((QF 32 s).take (j+1)).filter (λx=>decide (x≠ [])):=by rw[JW hj4,ZL3,<-ho,if_neg WC]
    refine WI.regB tT [3,7,8,9] ?_;refine oG (hok:=WN) ?_;refine Wf ?_
    exact UX
  .have hoe:o=ZE2 s:=by rw[ho,YR J0];rfl
   have hwl:=ZZn s;have hoj2:(Lib.join o [32]).length<=140737488355328:=by rw[hoe,ZPx];have:=ZPu s;omega
   refine GT ?_;refine oC (hok:=WN) ?_;refine Un ?_;rw[hoe,ZPx];rfl
def ZPk:J8->J5
 | [.x (.str s)]=>some (decide (s.length<=1000000),.x (.str (blk s)))
 |_=>none
theorem ZWc:QK Tryz.prog ZPk 174:=by
 intro args r h;unfold ZPk at h;split at h
 .obtain⟨h1,rfl⟩:=Yn h;exact(ZTK _ h1)
 .cases h
def fld(s:List UInt8):List UInt8:=ZE (blk s)
theorem ZiH(s:List UInt8)(hl:s.length<=1000000):ZL Tryz.prog 141 [.x (.str s)] (.x (.str (fld s))):=by
 have hb:(blk s).length<=s.length:=ZPu s;refine ZF.pure (fC 141 true ?_) rfl;intro C0 E0;have uu:=JL @ZK7.eq_1 @ZPk.eq_1 @ZLK.eq_1;have tT:=aQ (aQ (aQ ZB ZLA) ZWc) ZI3 ZFo;refine XF ?_
 exact Wo
def ZDl(b:UInt8):Bool:=decide (48<=b.toNat/\b.toNat<=57)
def dgs(s:List UInt8):Bool:=decide (s≠ []/\s.length<=32)&&s.all ZDl
theorem ZTL(s:List UInt8)(p:UInt8->Bool)(i:Nat)(h:i<s.length):(s.take (i+1)).all p=((s.take i).all p&&p s[i]):=by
 rw[JW h,ZJh];simp
theorem ZVV(s:List UInt8)(p:UInt8->Bool)(i:Nat)(h:i<s.length)(hp:p s[i]=false):s.all p=false:=by
 rw[List.all_eq_false];exact⟨s[i],YK h,by rw[hp];simp⟩
theorem Zfg{s:List UInt8}{i:Nat}(h:i<s.length)(hr:48<=((Qb s i).1:Int)/\((Qb s i).1:Int)<=57):(Qb s i).2=1/\ZDl s[i]=true:=by
 by_cases hb:s[i].toNat<128
 .rw[ZN3 h hb]at hr|-;simp only at hr;exact⟨rfl,ZI J0⟩
 .have:=(ZUV h hb).1;omega
theorem ZfT{s:List UInt8}{i:Nat}(h:i<s.length)(hr: ¬(48<=((Qb s i).1:Int)/\((Qb s i).1:Int)<=57)):ZDl s[i]=false:=by
 refine decide_eq_false (λhd=>hr ?_);rw[ZN3 h J0];simp only;omega
theorem Zdi(s:List UInt8):ZL Tryz.prog 202 [.x (.str s)] (.x (.bool (dgs s))):=by
 refine ZF.pure (fC 202 true ?_) rfl;intro C0 E0;have uu:=trivial;have tT:=(ZB:SsOk Tryz.prog YH);refine rg [0] ?_;refine rg [0,6] ?_;refine WI.loop (λφ os=> ∃(i:Nat),φ= [(0,.x (.str s)),(6,.iref 0 0)]/\os= [.sit s i]/\i<=s.length/\(s.take i).all ZDl=true) (Zhz s.length 0) ?_ (λφ os hI=> ?_)
 .exact W5
 .obtain⟨i,rfl,rfl,hi,ha⟩:=hI;refine nz ?_;refine WI.nextSA [0,6,7,8] (λhn2=> ?_) (λhn2=> ?_)
  .have ha2:s.all ZDl=true:=by rw[<-ha,YR J0]
   have hdg:dgs s=(!(s== [])&&decide ((s.length:Int)<=32)):=by unfold dgs;rw[ha2,QX];by_cases h1:s= []<;>by_cases h2:s.length<=32<;>simp[h1,h2]<;>omega
   refine nz ?_;refine ce (λh0=> ?_) (λh0=> ?_)
   .exact US
   .refine Wy ?_;rw[hdg]
  .refine nz ?_;refine ct (λh0=> ?_) (λh0=> ?_)
   .refine rg [0,4,6] ?_;refine rg [0,6,15] ?_;refine cd (λh1=> ?_) (λh1=> ?_) (kB:=λh=>h.h)
    .have hd:=ZVV s ZDl i hn2 (ZfT hn2 J0);have hdg:dgs s=false:=by unfold dgs;rw[hd,ZFc]
     refine Wy ?_;rw[hdg]
    .obtain⟨hw,hdd⟩:=Zfg hn2 J0;have ha2:(s.take (i+1)).all ZDl=true:=by rw[ZTL s ZDl i hn2,ha,hdd];rfl
     refine WI.orderA [0,6] ?_;refine nz ?_;exact⟨⟨i+1,by first|rfl|simp,by first|rfl|simp[hw],J0,ha2⟩,by simp[Zhz,hw];omega⟩
   .exact US
def ZLh:J8->J5
 | [.x (.str s)]=>some (true,.x (.bool (dgs s)))
 |_=>none
theorem ZOa:QK Tryz.prog ZLh 202:=by
 intro args r h;unfold ZLh at h;split at h
 .obtain rfl:=Qv h;exact(Zdi _)
 .cases h
def stp:List UInt8->List UInt8
 | []=> []
 | [b]=> [b]
 |b::c::l=>if b=48 then stp (c::l)else b::c::l
theorem ZTM(s:List UInt8)(h:1<s.length)(h0:s[0]=48):stp s=stp (s.drop 1):=by
 match s,h with
 |b::c::l,_=>exact if_pos h0
theorem ZMz(s:List UInt8)(h: ¬(1<s.length/\ ∀(h:0<s.length),s[0]=48)):stp s=s:=by
 match s with
 | []=>rfl
 | [b]=>rfl
 |b::c::l=>rw[stp,if_neg];intro e;exact h ⟨J1,λ_=>e⟩
def KX(s:List UInt8):List UInt8:=Lib.trimPrefix s [45]
def ZFh(s:List UInt8):Bool:=Lib.hasPrefix s [45]
def ZBN(s:List UInt8):List UInt8×Bool:=
 if dgs (KX s)then(if ZFh s/\stp (KX s)≠ [48]then 45::stp (KX s)else stp (KX s),true)else([],false)
theorem b48{b:UInt8}:b=48↔(b.toNat:Int)=48:=⟨λh=>by rw[h];rfl,λh=>ZNF.1 (by show b.toNat=48;omega)⟩
theorem gd0(t:List UInt8)(h:0<t.length):t.getD 0 0=t[0]:=Hj
theorem Zi7(s:List UInt8):ZL Tryz.prog 182 [.x (.str s)] (.tup [.x (.str (ZBN s).1),.x (.bool (ZBN s).2)]):=by
 cases hd:dgs (KX s)with
 |false=>
  have hi:ZBN s=([],false):=by unfold ZBN;rw[if_neg (by rw[hd];simp)]
  rw[hi];unfold KX at hd;refine ZF.pure (fC 182 true ?_) rfl;intro C0 E0;have uu:=JL @ZLh.eq_1 @ZLK.eq_1 hd;have tT:=aQ (aQ ZB ZOa) ZI3 ZFo;refine rg [0] ?_;refine rg [4,5] ?_;refine rg [4,5,13] ?_;refine ct (λh0=> ?_) (λh0=> ?_)
  .refine Vi ?_;rfl
  .simp at h0
 |true=>
  unfold KX at hd;have hd32:(Lib.trimPrefix s [45]).length<=32:=by
   unfold dgs at hd;rw[Zj]at hd;exact(of_decide_eq_true hd.1).2
  have hi:ZBN s=(if ZFh s/\stp (KX s)≠ [48]then 45::stp (KX s)else stp (KX s),true):=by have hd2:dgs (KX s)=true:=hd;unfold ZBN;rw[if_pos hd2]
  unfold KX ZFh at hi;refine ZF.pure (fC 182 true ?_) rfl;intro C0 E0;have uu:=JL @ZLh.eq_1 @ZLK.eq_1 hd;have tT:=aQ (aQ ZB ZOa) ZI3 ZFo;refine rg [0] ?_;refine rg [4,5] ?_;refine rg [4,5,13] ?_;refine ce (λh0=> ?_) (λh0=> ?_)
  .simp at h0
  .refine WI.orderA [4,5] ?_;refine WI.loop (λφ os=> ∃(t:List UInt8),φ= [(4,.x (.str t)),(5,.x (.bool (Lib.hasPrefix s [45])))]/\os= []/\stp t=stp (Lib.trimPrefix s [45])/\t.length<=32) (λφ _=>match φ with|(_,.x (.str t))::_=>t.length|_=>0) ?_ (λφ os hI=> ?_)
   .exact⟨_,rfl,rfl,rfl,hd32⟩
   .obtain⟨t,rfl,rfl,ht,htl⟩:=hI;refine nz ?_;by_cases hl1:1<t.length
    .have hk:t[0]? =some t[0]:=Zw J0;have hdl:=ZI (show(1:Int)<(t.length:Int) by omega);have uu:=JL uu hk hdl;refine rg [4,5,21] ?_;refine cd (λh1=> ?_) (λh1=> ?_)
     .have ht2:stp (t.drop 1)=stp (Lib.trimPrefix s [45]):=by rw[<-ht,ZTM t hl1 ((gd0 t J0).symm.trans (b48.2 h1))]
      refine rg [4,5] ?_;exact⟨⟨t.drop 1,rfl,rfl,ht2,T9⟩,Wx⟩
     .have hts:stp t=t:=ZMz t (λhh=>h1 (b48.1 ((gd0 t J0).trans (hh.2 J0))));have htt:=ht.symm.trans hts;refine rg [4,28] ?_;refine cd (λh2=> ?_) (λh2=> ?_)
      .refine rg [4] ?_;refine Vi ?_;exact WG
      .refine Vi ?_;exact WG
    .have hdl:=decide_eq_false (show ¬(1:Int)<(t.length:Int) by omega);have uu:=YB uu hdl;refine rg [4,5,21] ?_;refine ce (λh1=> ?_) (λh1=> ?_)
     .simp at h1
     .have hts:stp t=t:=ZMz t (λhh=>hl1 hh.1);have htt:=ht.symm.trans hts;refine rg [4,28] ?_;refine cd (λh2=> ?_) (λh2=> ?_)
      .refine rg [4] ?_;refine Vi ?_;exact WG
      .refine Vi ?_;exact WG
end Go.Proofs.YtiogclkbccdefaaGreatDoor
end
section
namespace Go.Ab
open Go.RowKit Go.Bo
theorem Qg.copied{κ:Type}{mk:κ->Value}{w:World}{r:Nat}{l:List (κ×Value)}(h:Qg mk w r l): ∃es clk,w.heap[r]? =some (.map es clk)/\ ∀(w':World) (b:Nat),w'.heap[b]? =some (.map es clk)->Qg mk w' b l:=by
 obtain⟨es,clk,h1,h2⟩:=h;exact⟨es,clk,h1,λw' b hb=>⟨es,clk,hb,h2⟩⟩
theorem YL.copied{E:Env}{os:J7}{b:Nat}{dk:KK}{ag:Bool}{l:W2}(h:YL E os b dk ag l): ∃es clk,E.w.heap[b]? =some (.map es clk)/\ ∀(E':Env) (os':J7) (b':Nat),Evo E os E' os'->E'.w.heap[b']? =some (.map es clk)->YL E' os' b' dk ag l:=by
 cases dk with
 |int k=>
  obtain⟨l',h1,h2,h3⟩:=h;obtain⟨es,clk,k1,k2⟩:=Qg.copied h1;exact⟨es,clk,k1,λE' os' b' ev hb=>⟨l',k2 _ _ hb,h2,λi a q ha hq=>⟨(h3 i a q ha hq).1,(h3 i a q ha hq).2.mono ev⟩⟩⟩
 |str=>
  obtain⟨l',h1,h2,h3⟩:=h;obtain⟨es,clk,k1,k2⟩:=Qg.copied h1;exact⟨es,clk,k1,λE' os' b' ev hb=>⟨l',k2 _ _ hb,h2,λi a q ha hq=>⟨(h3 i a q ha hq).1,(h3 i a q ha hq).2.mono ev⟩⟩⟩
 |st _ _=>exact h.elim
end Go.Ab
namespace Go.Proofs.YtiogclkbccdefaaGreatDoor
open Go.RowKit Go.Bo Go.Ab Go.Lib Go.Sort
theorem ZS3{w:World}{st:Nat->Nat->Prop}{s:Tx}{v:Value}(h:VX w st (.str s) v):v= .string (ZV s):=N1
theorem ZYA{P:Program}{f fc:FuncId}{e:Nat}(l l':List Tx)(s:Tx)(hl':l'.length<=l.length)(hl0:l≠ [])
  (hraw: ∀(w:World) (g b cap:Nat) (cur:Array Value),w.heap[g]? =some (.cells cur e (0,0))->cur.size=cap->cur.toList.take l.length=l.map (λt=> .string (ZV t))->l.length<=cap->cap<=maxLen->b≠g->w.cell? ⟨b,0,none⟩=some (.string (ZV s))->b<w.heap.size->
   Calls P f #[.slice (some ⟨g,0,none⟩) l.length cap,.func (.func fc) #[] #[.pointer (some ⟨b,0,none⟩)]] w λx w'=> ∃cur',x= .returned (.slice (some ⟨g,0,none⟩) l'.length cap)/\w'.heap[g]? =some (.cells cur' e (0,0))/\cur'.size=cap/\cur'.toList.take l'.length=l'.map (λt=> .string (ZV t))/\w.grownBy w' (some g)):
  ZO P f [.ref 0 l.length 0 l.length,.fn fc [.ptr 1 0]] [.rows false e 1 (rows ZC l),.box [.x (.str s)]] (.ref 2 l'.length 0 l'.length) [.old 1 (l.length+1),.box [.x (.str s)],.rows false e 1 (rows ZC l')]:=by
 intro c E vs R hvl;obtain⟨hsz,hv⟩:=hvl;obtain⟨v0,v1,rfl⟩: ∃v0 v1,vs= #[v0,v1]:=by
  obtain⟨vl⟩:=vs
  match vl,hsz with
  | [a,b],_=>exact XV
 have h0:=hv 0 _ v0 rfl rfl;have h1:=hv 1 _ v1 rfl rfl;clear hv hsz;have hrl:(rows ZC l).length=l.length:=ZQ ZC l;have hrl':(rows ZC l').length=l'.length:=ZQ ZC l';have hlen:=R.len;obtain⟨p,hp,hok⟩:=R.at (i:=0) (o:= .rows false e 1 (rows ZC l)) rfl;obtain⟨q,hq,hok2⟩:=R.at (i:=1) (o:= .box [.x (.str s)]) rfl;obtain⟨b,qv⟩:=q;obtain rfl:v0=p.2:=by
  obtain⟨h1,h2⟩:=h0.ref_inv.at (sz:=1) (rs:=rows ZC l) rfl rfl;exact T2
 obtain rfl:v1= .func (.func fc) #[] #[.pointer (some ⟨b,0,none⟩)]:=by
  cases h1 with
  |fn ws hl hv=>
   obtain⟨wl⟩:=ws
   match wl,hl with
   | [a],_=>
    have h2:=hv 0 _ a rfl rfl;cases h2 with
    |ptr ho h=>
     rw[hq]at h;cases h;rfl
 clear h1;obtain⟨xs,k1,k2,k3⟩:=hok;obtain⟨cs,ty,g1,g2,g3⟩:=hok2;have hxl:xs.length=l.length:=by rw[k1.1,hrl,Ql]
 have hxs:xs=l.map λt=> .string (ZV t):=by
  apply ZBg;intro i;by_cases hi:i<l.length
  .exact UI
  .rw[ξV J0,ξV Wx]
 rcases k1.owns.2 with⟨_,h⟩|⟨g,cap,cur,hpv,_,hgg,hnc,hcm,hcs,htake⟩
 .rw[hrl]at h;exact absurd (ZPr.1 h) hl0
 rw[hrl]at hnc hpv htake;rw[Ql]at hcs htake;have hne:b≠g:=λh=>by
  have:=R.dis 0 1 _ _ p (b,qv) g rfl hp rfl hq Nf h;omega
 have hcell:E.w.cell? ⟨b,0,none⟩=some (.string (ZV s)):=by
  have hlt:0<cs.size:=by rw[g2];simp
  have h2:=g3 0 _ cs[0] rfl (ξJ hlt);have h3:cs[0]= .string (ZV s):=by
   have h4:=h2.1;cases h4 with|x h=>exact ZS3 h
  exact ZAA g1 (by rw[ξJ hlt,h3])
 have hbl:b<E.w.heap.size:=(ξH g1).1;have hcal:=hraw E.w g b cap cur hgg hcs (by rw[htake,hxs]) hnc hcm hne hcell hbl;rw[<-hpv]at hcal;refine hcal.mono ?_;rintro x w' ⟨cur',rfl,hg',hcs',ht',hG⟩;have hM:=R.mbs 0 _ p g rfl hp Nf;have hst: ∀off,¬E.st g off:=λoff h=>(R.stm g off h).2 0 _ p rfl hp Nf
 obtain⟨R1,e1⟩:=R.push E.w .dead (0,undef) (Kept.refl _ _) (λb hb=>Xr) (λ_=>trivial);have hel:E.ob.length=2:=hlen;obtain⟨R2,e2⟩:=R1.set (i:=0) (o:= .rows false e 1 (rows ZC l)) (p:=p) rfl (by show(E.ob++ [(0,undef)])[0]? =_;rw[Yk J0];exact hp) w' (.old 1 (l.length+1)) (0,undef) (by
   show Kept (λb=>p.2.ownBlock=some b) E.w w';rw[hpv];exact Kept.of_grown hG) (λb hb=>Xr) (λsz n h=>by
   simp only[Ob.sl?,Yu,YP]at h;obtain⟨rfl,rfl⟩:=h;exact⟨l.length+1,rfl,.inr (by rw[hrl];omega)⟩) (λk h=>W6) (λ_=>trivial)
 have hrow:QM w' false e 1 (rows ZC l').length (.slice (some ⟨g,0,none⟩) l'.length cap) (l'.map λt=> .string (ZV t)):=by
  refine⟨by rw[hrl',Ql,Yc],.inr ⟨g,cap,cur',(0,0),by rw[hrl'],hg',by rw[hrl'];omega,hcm,by rw[Ql];exact hcs',by rw[hrl',Ql];exact ht',.inl rfl⟩⟩
 obtain⟨R3,e3⟩:=R2.set (i:=2) (o:= .dead) (p:=(0,undef)) rfl (by
   show((E.ob++ [(0,undef)]).set 0 (0,undef))[2]? =_;rw[ZAp J0,QI J0,hel];rfl) w' (.rows false e 1 (rows ZC l')) (0,.slice (some ⟨g,0,none⟩) l'.length cap) (Kept.refl _ _) (λb' hb'=>by
   have hb2:(Value.slice (some ⟨g,0,none⟩) l'.length cap).ownBlock=some b':=hb';cases hb2;refine .inr (.inr ⟨λoff h=>hst off h,λi o pi ho hpi hmb=> ?_,hM⟩)
   match i,ho with
   |0,ho=>cases ho;exact hmb
   |1,ho=>
    cases ho;have h5:((E.ob++ [(0,undef)]).set 0 (0,undef))[1]? =some pi:=hpi;rw[ZAp J0,Yk J0,hq]at h5;cases h5;exact hne hmb
   |2,ho=>cases ho;exact hmb
   |i+3,ho=>simp at ho) (λsz n h=>W6) (λk h=>W6) (λev=>by
   refine⟨_,hrow,λr hr=>(by obtain⟨t,_,rfl⟩:=YS.1 hr;rfl),λi r j x v e4 e5 e6=> ?_⟩;have hi:i<l'.length:=by rw[<-hrl'];exact(ZX e4).1
   have hr:r= [.str l'[i]]:=by simpa[rows,hi,ZC,eq_comm]using e4
   subst hr;have hj:j=0:=by
    have:=(ZX e5).1;simp at this;exact this
   subst hj;cases e5;rw[Ql,KB,YI,Zw hi]at e6;cases e6;exact .str _)
 refine⟨_,_,rfl,rfl,R3,(e1.trans e2).trans e3,?_⟩;have hob:(((E.ob++ [(0,undef)]).set 0 (0,undef)).set 2 (0,.slice (some ⟨g,0,none⟩) l'.length cap))[2]? =some (0,.slice (some ⟨g,0,none⟩) l'.length cap):=by
  rw[ZEv (by simp[hel])]
 refine .ref ⟨.rows false e 1 (rows ZC l'),1,(rows ZC l').length,rfl,rfl,?_⟩ rfl;rw[show l'.length=(rows ZC l').length from hrl'.symm]at hob|-;exact⟨Zr _,λ_=>⟨J0,0,_,cap,_,cap,hob,rfl,by rw[hrl'];omega,hcm,λ_=>⟨rfl,rfl⟩,λ_ ad h=>(by cases h;simp),λh=>W6,λad h=>N1⟩⟩
theorem ZYF(rs:J6)(r:J9)(i:Nat)(hi:i<=rs.length)(hn:rs.length<=1000000):ZO Tryz.prog 44 [.ref 0 rs.length 0 rs.length,.x (.int .i64 i),.ref 1 1 0 1] [.rows false 9 1 rs,.rows false 9 1 [r]] (.ref 0 (rs.length+1) 0 (rs.length+1)) [.rows false 9 1 (YY rs i [r]),.rows false 9 1 [r]]:=
 ZO.ins rs r i hi hn λw v0 n i xs ys vb vc cv ev h1 h2 h3 h4 h5 h6 h7 h8 h9=>by
  simp only[Ql];exact ZdX w 0 v0 n i xs ys vb vc cv ev h1 h2 h3 h4 h5 h6 h7 h8 h9 (Kb _)
theorem ZOf(s x:ByteArray)(B:Nat)(W:World)(hc:W.cell? ⟨B,0,none⟩=some (.string s)):FnGives Tryz.prog 56 #[.pointer (some ⟨B,0,none⟩)] #[.string x] (.bool (x.toList==s.toList)) W:=by
 show Calls Tryz.prog 56 #[.string x,.pointer (some ⟨B,0,none⟩)] W _
 go_enter Tryz.func56,Tryz.ntmps56
 go_wp2
 all_goals(go_ret;exact⟨by simp_all,0,rfl⟩)
def KM(l:List Tx)(s:Tx):List Tx:=l.filter λt=> !(t==s)
theorem Zfu(l:List Tx)(s:Tx)(hl:l.length<=1000000)(w:World)(g b cap:Nat)(cur:Array Value)(hgg:w.heap[g]? =some (.cells cur 9 (0,0)))(hcs:cur.size=cap)(htake:cur.toList.take l.length=l.map (λt=> .string (ZV t)))(hlc:l.length<=cap)(hcm:cap<=maxLen)(hbg:b≠g)(hb:w.cell? ⟨b,0,none⟩=some (.string (ZV s)))(hbl:b<w.heap.size):
  Calls Tryz.prog 55 #[.slice (some ⟨g,0,none⟩) l.length cap,.func (.func 56) #[] #[.pointer (some ⟨b,0,none⟩)]] w λx w'=> ∃cur',x= .returned (.slice (some ⟨g,0,none⟩) (KM l s).length cap)/\w'.heap[g]? =some (.cells cur' 9 (0,0))/\cur'.size=cap/\cur'.toList.take (KM l s).length=(KM l s).map (λt=> .string (ZV t))/\w.grownBy w' (some g):=by
 have eg: ∀args w,(callFunc 56 args).run Tryz.prog w= .ok (.enter 56 args) w:=enters_of Tryz.func56 J3 rfl;obtain⟨d,hd⟩: ∃d:Array ByteArray,d=(l.map ZV).toArray:=⟨_,rfl⟩;have hds:d.size=l.length:=by rw[hd];simp
 have hdj: ∀j,(hj:j<l.length)->d[j]! =ZV l[j]:=λj hj=>by
  rw[getElem!_pos d j J0];simp[hd]
 have hcur: ∀j,(hj:j<l.length)->cur[j]? =some (.string (ZV l[j])):=λj hj=>by
  have h:=congrArg (λq=>q[j]?) htake;rw[Kp,if_pos hj,YI,Zw hj,ξQ]at h;exact h
 have hH:Holds Value.string w g 0 d:=λj hj=>by
  rw[hds]at hj;rw[Jk,hdj j hj];exact⟨ZAA hgg (hcur j hj),ZKU hgg⟩
 have hcon:=AnyE.slices_DeleteFunc Tryz.delS Value.string (λ_=>rfl) (λx=>x.toList==(ZV s).toList) 56 #[.pointer (some ⟨b,0,none⟩)] eg ByteArray.empty Tryz.zeroValue9 g 0 cap d w
  (λW x hB=>ZOf (ZV s) x b W ((hB.cell (p:=⟨b,0,none⟩) hbl).trans hb))
  (λn os dk x _=>ZOf (ZV s) x b _ (by
   unfold sortWorld;rw[cell?_grow _ _ _ (by show b<(putRow _ _ _ _ _).heap.size;rw[size_putRow];exact hbl),cell?_putRow_other _ _ g 0 _ _ (Or.inl hbg)];exact hb)) hH (by rw[hds];omega) (by rw[hds];exact hlc)
 change Calls Tryz.prog 55 _ _ _ at hcon;have hfl:(d.toList.filter λx=> !(x.toList==(ZV s).toList))=(KM l s).map ZV:=by
  rw[hd];simp only[List.toList_toArray,KC];unfold KM;rw[List.filter_map];congr 1;apply ZX2;intro t _;simp only[Function.comp,KC]
 rw[hfl,hds]at hcon;have hdl:(KM l s).length<=l.length:=ZSj _ _;refine hcon.mono ?_;rintro e w' ⟨rfl,q,rfl⟩;simp only[Yc];obtain⟨D,hD⟩: ∃D:Array ByteArray,D=((KM l s).map ZV++List.replicate (l.length-(KM l s).length) ByteArray.empty).toArray:=⟨_,rfl⟩;rw[<-hD];have hDs:D.size=l.length:=by rw[hD];simp;omega
 refine⟨putCells Value.string 0 D cur,trivial,?_,?_,?_,⟨rfl,rfl,rfl,?_,λk hk hne=> ?_⟩⟩
 .show(mapBlock (Sort.ahead w q) g (putCells Value.string 0 D)).heap[g]? =_;unfold mapBlock;have h:(Sort.ahead w q).heap[g]? =some (.cells cur 9 (0,0)):=hgg;simp only[ZTC,if_pos rfl,h,Yq];rfl
 .unfold putCells;simp[hcs]
 .apply ZBg;intro j;rw[Kp];by_cases hj:j<(KM l s).length
  .rw[if_pos hj,ξQ,YI,Zw hj];unfold putCells;rw[Array.getElem?_mapIdx,hcur j J0,Yq,if_pos ⟨Kb _,J0⟩,Nat.sub_zero,getElem!_pos D j J0];simp[hD,hj]
  .rw[if_neg hj,ξV Wx]
 .show(Sort.ahead w q).heap.size<=_;rw[size_putRow];exact Zr _
 .show(mapBlock (Sort.ahead w q) g (putCells Value.string 0 D)).heap[k]? =_;unfold mapBlock;have:g≠k:=λh=>hne (by rw[h])
  simp only[ZTC,if_neg this];rfl
theorem Zat(l:List Tx)(s:Tx)(hl:l.length<=1000000)(h0:l≠ []):ZO Tryz.prog 55 [.ref 0 l.length 0 l.length,.fn 56 [.ptr 1 0]] [.rows false 9 1 (rows ZC l),.box [.x (.str s)]] (.ref 2 (KM l s).length 0 (KM l s).length) [.old 1 (l.length+1),.box [.x (.str s)],.rows false 9 1 (rows ZC (KM l s))]:=
 ZYA l (KM l s) s (ZSj _ _) h0 λw g b cap cur h1 h2 h3 h4 h5 h6 h7 h8=>Zfu l s hl w g b cap cur h1 h2 h3 h4 h5 h6 h7 h8
open Go.RowKit Go.Bo Go.Ab Go.Lib
theorem ZSs(OS:J7)(id:Nat)(fz:Bool)(e:Nat)(l:List Tx)(ho:OS[id]? =some (.rows fz e 1 (rows ZC l)))(hl:l.length<=1000000):
  ZBq Tryz.prog 47 [.ref id l.length 0 l.length] OS (λj=> .ref j l.length 0 l.length) (.rows false 9 1 (rows ZC l)):=by
 intro Y jd c E vs hd R hvl;obtain⟨hsz,hv⟩:=hvl;obtain⟨v0,rfl⟩: ∃v0,vs= #[v0]:=by
  obtain⟨vl⟩:=vs
  match vl,hsz with
  | [a],_=>exact⟨a,rfl⟩
 have h0:=hv 0 _ v0 rfl rfl;have hlt:=(ZX ho).1;have ho':(OS++Y)[id]? =some (.rows fz e 1 (rows ZC l)):=by rw[Yk hlt];exact ho
 have hrl:(rows ZC l).length=l.length:=ZQ ZC l;obtain⟨p,hp,hok⟩:=R.at ho';obtain rfl:v0=p.2:=by
  obtain⟨h1,h2⟩:=h0.ref_inv.at (sz:=1) (rs:=rows ZC l) ho' rfl;exact T2
 obtain⟨xs,k1,k2,k3⟩:=hok;have hxl:xs.length=l.length:=by rw[k1.1,hrl,Ql]
 have hxs:xs=l.map λt=> .string (ZV t):=by
  apply ZBg;intro i;by_cases hi:i<l.length
  .exact UI
  .rw[ξV J0,ξV Wx]
 have hvals: ∀(i:Nat) (r:J9) (j:Nat) (x:X) (v:Value),(rows ZC l)[i]? =some r->r[j]? =some x->xs[i*1+j]? =some v->VX E.w E.st x v:=k3;rcases k1.2 with⟨hpv,h⟩|⟨g,cap,cur,fr,hpv,hgg,hnc,hcm,hcs,htake,hfr⟩
 .rw[hpv];refine(Tryz.slices_Clone_string_nil 0 0 E.w).mono ?_;rintro x w' ⟨rfl,rfl⟩;obtain⟨E',q1,q2,q3,q4⟩:=ZNC R hd (Kept.refl _ _) (fz:=false) (e:=9) (sz:=1) (rs:=rows ZC l) (cu:= .slice none 0 0) (xs:=xs) ⟨k1.1,.inl ⟨rfl,h⟩⟩ (λb hb=>Xr) k2 hvals;rw[hrl]at q4;exact⟨_,E',rfl,q1,q2,q3,q4⟩
 .rw[hpv,hrl];rw[hrl]at htake hnc;rw[Ql]at htake;have hc: ∀j,j<(l.map ZV).length->E.w.cell? ⟨g,0+j,none⟩=some (.string ((l.map ZV).getD j ByteArray.empty)):=λj hj=>by
   simp only[Yc]at hj;rw[Jk];refine ZAA hgg ?_;have h:=congrArg (λq=>q[j]?) (htake.trans hxs);rw[Kp,if_pos hj,YI,Zw hj,ξQ]at h;rw[h];simp[List.getD,hj]
  refine(Tryz.slices_Clone_string g 0 l.length cap (l.map ZV) E.w J1 J0 hc).mono ?_;rintro x w' ⟨v',rfl,hown,_,hB⟩;have hmap:((l.map ZV).take l.length).map Value.string=xs:=by
   rw[YR J1,hxs,Jv];rfl
  rw[hmap]at hown;have hrow:QM w' false 9 1 (rows ZC l).length v' xs:=by rw[hrl];exact QM.of_owns hown false
  obtain⟨E',q1,q2,q3,q4⟩:=ZNC R hd (w':=w') ⟨hB.os,hB.tape,hB.output,hB.size,λk hk _=>hB.block k hk⟩ hrow (λb hb=>by
   rcases hown.2 with⟨h1,_⟩|⟨g',cap',cur',h1,h2,_⟩
   .rw[h1]at hb;cases hb
   .rw[h1]at hb;cases hb;exact h2) k2 hvals
  rw[hrl]at q4;exact⟨_,E',rfl,q1,q2,q3,q4⟩
theorem ZJx:Go.Ab.Enters Tryz.prog 47:=QT 47
open Go.RowKit Go.Bo Go.Ab
def ZEy(acc:List (List UInt8))(v:List UInt8):List (List UInt8):=if v∈acc then acc else acc++ [v]
def QN(b vs:List (List UInt8)):List (List UInt8):=vs.foldl ZEy b
theorem ZMf(b:List (List UInt8)):QN b []=b:=rfl
theorem ZQT(b vs:List (List UInt8))(j:Nat)(h:j<vs.length):QN b (vs.take (j+1))=ZEy (QN b (vs.take j)) vs[j]:=by
 unfold QN;rw[JW h,ZM0];rfl
theorem ZbE(acc:List (List UInt8))(v:List UInt8):(ZEy acc v).length<=acc.length+1:=by unfold ZEy;split<;>simp
theorem ZG6(b vs:List (List UInt8)):(QN b vs).length<=b.length+vs.length:=by
 induction vs generalizing b with
 |nil=>simp[QN]
 |cons v vs ih=>have:=ih (ZEy b v);have:=ZbE b v;simp only[QN,ZK2,Yx]at*;omega
def Za(l:List ZN)(n:List UInt8):Nat:=(l.takeWhile λa=>Op.bytesLess a.1 n).length
theorem ZDI(l:List ZN)(n:List UInt8):Za l n<=l.length:=(List.takeWhile_sublist _).length_le
theorem ZRx(l:List ZN)(n:List UInt8)(k:Nat)(hk:k<=l.length)(ha: ∀a∈l.take k,Op.bytesLess a.1 n=true)(hb: ∀h:k<l.length,Op.bytesLess l[k].1 n=false):Za l n=k:=by
 unfold Za;rw[<-ZBb k l,List.takeWhile_append_of_pos ha,ZW,Yv,ZOr hk];by_cases h:k<l.length
 .rw[ξW h,List.takeWhile_cons,hb h];simp
 .rw[ZBB J0];simp
def Qn(l:List ZN)(n:List UInt8):Bool:=match l[Za l n]? with
 |some a=>a.1==n
 |none=>false
def YT(l:List ZN)(n:List UInt8):List (List UInt8):=if Qn l n then(l.getD (Za l n) ([],[],())).2.1 else []
def KJ(l:List ZN)(n:List UInt8):List ZN:=if Qn l n then l.drop (Za l n+1)else l.drop (Za l n)
def ZLD(n:List UInt8)(v:List (List UInt8)):List ZN:=if v= []then []else [(n,v,())]
def ZD3(l:List ZN)(n:List UInt8)(vs:List (List UInt8)):List ZN:=(l.take (Za l n)++ZLD n (QN (YT l n) vs))++KJ l n
theorem ZJi(l:List ZN)(n:List UInt8)(j:Nat)(h:j<Za l n):Op.bytesLess (l[j]'(ZPO h (ZDI l n))).1 n=true:=by
 have hp:(l.takeWhile λa=>Op.bytesLess a.1 n)<+:l:=List.takeWhile_prefix _;have:=Yg.1 (List.all_takeWhile (p:=λa:ZN=>Op.bytesLess a.1 n) (l:=l)) _ (YK (h:=h));rwa [hp.getElem h]at this
theorem ZJg(l:List ZN)(n:List UInt8)(h:Za l n<l.length):Op.bytesLess l[Za l n].1 n=false:=by
 unfold Za at*
 induction l with
 |nil=>simp at h
 |cons a l ih=>
  by_cases ha:Op.bytesLess a.1 n=true
  .simp only[List.takeWhile_cons,ha,if_true,Yx]at h|-;simpa using ih J0
  .exact HK
theorem ZXI(l:List ZN)(n:List UInt8)(j:Nat)(hj:j<l.length)(hk:j<=Za l n)(h:Op.bytesLess l[j].1 n=true):j<Za l n:=by
 rcases Nat.lt_or_eq_of_le hk with h1|h1
 .exact h1
 .subst h1;rw[ZJg l n hj]at h;cases h
theorem ZLk(l:List ZN)(n:List UInt8)(hk:Za l n<l.length)(h:Qn l n=true):l[Za l n].1=n:=by
 unfold Qn at h;rw[Zw hk]at h;simpa using h
theorem ZRF(b:List (List UInt8))(v:List UInt8)(i:Nat)(h:i<b.length):decide (v∈b.take (i+1))=(decide (v∈b.take i)||(b[i]==v)):=by
 rw[JW h,QZ];simp only[Yl,ZBc,beq_iff_eq,KT,ZAM];exact⟨λh=>h.imp id Eq.symm,λh=>h.imp id Eq.symm⟩
theorem bl_irr: ∀a,Op.bytesLess a a=false
 | []=>rfl
 |x::a=>by rw[Op.bytesLess,bl_irr a];simp
theorem ZVx: ∀a b,Op.bytesLess a b=true->Op.bytesLess b a=false
 |_,[],h=>Mb
 | [],_::_,_=>X5
 |x::a,y::b,h=>by
  rw[Op.bytesLess,ZBc,Zj,Yl,beq_iff_eq]at h;rw[Op.bytesLess,ZT6,Bool.and_eq_false_imp,decide_eq_false_iff_not,beq_iff_eq];rcases h with h|⟨rfl,h⟩
  .exact⟨UInt8.lt_asymm h,λe=>by subst e;exact absurd h (UInt8.lt_irrefl _)⟩
  .exact⟨UInt8.lt_irrefl _,λ_=>ZVx a b h⟩
theorem bl_trans: ∀a b c,Op.bytesLess a b=true->Op.bytesLess b c=true->Op.bytesLess a c=true
 |_,[],_,h,_=>Mb
 |_,_::_,[],_,h=>Mb
 | [],_::_,_::_,_,_=>X5
 |x::a,y::b,z::c,h,k=>by
  rw[Op.bytesLess,ZBc,Zj,Yl,beq_iff_eq]at h k|-;rcases h with h|⟨rfl,h⟩<;>rcases k with k|⟨rfl,k⟩
  .exact .inl (UInt8.lt_trans h k)
  .exact .inl h
  .exact .inl k
  .exact .inr ⟨rfl,bl_trans a b c h k⟩
theorem bl_tot: ∀a b,a≠b->Op.bytesLess a b=true\/Op.bytesLess b a=true
 | [],[],h=>absurd rfl h
 |_::_,[],_=> .inr X5
 | [],_::_,_=> .inl X5
 |x::a,y::b,h=>by
  simp only[Op.bytesLess,ZBc,Zj,Yl,beq_iff_eq];by_cases e:x=y
  .subst e;rcases bl_tot a b (λk=>h (by rw[k]))with k|k
   .exact .inl (.inr ⟨rfl,k⟩)
   .exact .inr (.inr ⟨rfl,k⟩)
  .rcases UInt8.lt_or_lt_of_ne e with k|k
   .exact .inl (.inl k)
   .exact .inr (.inl k)
def cmpS(a b:List UInt8):Int:=if Op.bytesLess a b=true then-1 else if Op.bytesLess b a=true then 1 else 0
theorem Ze2(s:List UInt8):ZL Tryz.prog 129 [.x (.str s)] (.x (.bool false)):=by
 have hbs: ∀x:List UInt8,(x !=x)=false:=λx=>TG
 refine ZF.pure (fC 129 true ?_) rfl;intro C0 E0;have uu:=hbs;have tT:=(ZB:SsOk Tryz.prog YH);refine XF ?_
 exact Wo
def ZSi:J8->J5
 | [.x (.str s)]=>some (true,.x (.bool false))
 |_=>none
theorem ZZK:QK Tryz.prog ZSi 129:=by
 intro args r h;unfold ZSi at h;split at h
 .obtain rfl:=Qv h;exact(Ze2 _)
 .cases h
theorem cmpS_c(a b:List UInt8):ZL Tryz.prog 82 [.x (.str a),.x (.str b)] (.x (.int .i64 (cmpS a b))):=by
 unfold cmpS;refine ZF.pure (fC 82 true ?_) rfl;intro C0 E0;have uu:= @ZSi.eq_1;have tT:=aQ ZB ZZK;refine VS ?_;refine rg [0,1,5,6] ?_;refine rg [0,1,6,11] ?_;refine cd (λh0=> ?_) (λh0=> ?_)
 .refine rg [12] ?_;refine cd (λh1=> ?_) (λh1=> ?_)
  .refine Wj ?_
   exact Wo
  .refine Wj ?_
   exact Wo
 .refine rg [0,1,13] ?_;refine cd (λh2=> ?_) (λh2=> ?_)
  .refine Wj ?_
   exact Wo
  .refine rg [0,1,16] ?_;refine cd (λh3=> ?_) (λh3=> ?_)
   .refine Wj ?_;rw[if_pos Ww]
   .refine rg [19] ?_;refine cd (λh4=> ?_) (λh4=> ?_)
    .refine Wj ?_;rw[if_neg Ww,if_pos ((bl_tot a b Ww).resolve_left Ww)]
    .refine Wj ?_;obtain rfl:a=b:=Ww
     rw[bl_irr];rfl
def ZRU:J8->J5
 | [.x (.str a),.x (.str b)]=>some (true,.x (.int .i64 (cmpS a b)))
 |_=>none
theorem ZUD:QK Tryz.prog ZRU 82:=by
 intro args r h;unfold ZRU at h;split at h
 .obtain rfl:=Qv h;exact(cmpS_c _ _)
 .cases h
theorem ZfM(n t:List UInt8)(R:J6):ZL Tryz.prog 125 [.agg [.x (.str n),.x (.sl R)],.x (.str t)] (.x (.int .i64 (cmpS n t))):=by
 refine ZF.pure (fC 125 true ?_) rfl;intro C0 E0;have uu:= @ZRU.eq_1;have tT:=aQ ZB ZUD;refine rg [1,2] ?_;refine Wj ?_
 exact Wo
def ZSP:J8->J5
 | [.agg [.x (.str n),.x (.sl R)],.x (.str t)]=>some (true,.x (.int .i64 (cmpS n t)))
 |_=>none
theorem Zas:QK Tryz.prog ZSP 125:=by
 intro args r h;unfold ZSP at h;split at h
 .obtain rfl:=Qv h;exact(ZfM _ _ _)
 .cases h
theorem ZKR(l:List ZN)(j:Nat)(h:j<l.length):(rows ZK l)[j]? =some [X.str (l.getD j ([],[],())).1,X.sl (rows ZC (l.getD j ([],[],())).2.1)]:=by
 simp[rows,h,ZK,Jh,ZC,rSl,ZAL]
abbrev SoA(l:List ZN):Prop:=l.Pairwise λa b=>Op.bytesLess a.1 b.1=true
theorem Zfp{l:List ZN}(hs:SoA l)(n:List UInt8)(h:Nat)(hl:h<l.length):Op.bytesLess l[h].1 n=true↔h<Za l n:=by
 constructor
 .intro hb;apply ZIM;intro hc;have hle:Za l n<=h:=Wm
  have hpl:Za l n<l.length:=Wm
  have hst:=ZJg l n hpl;rcases Nat.lt_or_eq_of_le hle with hlt|heq
  .exact Xz
  .have:l[Za l n].1=l[h].1:=by congr 2
   rw[this,hb]at hst;cases hst
 .intro hb;exact ZJi l n h hb
theorem ZSV(a b:List UInt8):cmpS a b<0↔Op.bytesLess a b=true:=by
 unfold cmpS;split
 .rename_i h;simp[h]
 .rename_i h;split<;>simp[h]
theorem ZQf(a b:List UInt8):cmpS a b=0↔a=b:=by
 unfold cmpS;split
 .rename_i h;constructor
  .intro k;cases k
  .intro k;subst k;rw[bl_irr]at h;cases h
 .rename_i h;split
  .rename_i h2;constructor
   .intro k;cases k
   .intro k;subst k;rw[bl_irr]at h2;cases h2
  .rename_i h2;constructor
   .intro _;apply ZIM;intro hne;rcases bl_tot a b hne with k|k
    .exact h k
    .exact h2 k
   .intro _;rfl
theorem Zdu(i j:Nat)(h:i+j<=4000000):IntKind.i64.wrap ((IntKind.u64.wrap ((i:Int)+(j:Int))).fdiv (2^min 1 IntKind.u64.bits))=(((i+j)/2:Nat):Int):=by
 have e1:IntKind.u64.wrap ((i:Int)+(j:Int))=((i+j:Nat):Int):=by
  rw[show((i:Int)+(j:Int))=((i+j:Nat):Int) by omega];simp[IntKind.wrap,IntKind.bits,IntKind.signed];omega
 have e2:(2^min 1 IntKind.u64.bits:Int)=2:=rfl;rw[e1,e2];have e3:((i+j:Nat):Int).fdiv 2=(((i+j)/2:Nat):Int):=by
  rw[Int.fdiv_eq_ediv_of_nonneg _ J0];omega
 rw[e3,IntKind.wrap_i64];omega
def dif(φ:J4)(_:J7):Nat:=((ZD (Go.Ab.get φ 10).val).getD 0-(ZD (Go.Ab.get φ 9).val).getD 0).toNat
theorem Ziw(l:List ZN)(n:List UInt8)(hs:SoA l)(hl:l.length<=1000000):ZL Tryz.prog 124 [.x (.sl (rows ZK l)),.x (.str n),.fn 125 []] (.tup [.x (.int .i64 (Za l n)),.x (.bool (Qn l n))]):=by
 have hpl:=ZDI l n;have hhit:Qn l n=match l[Za l n]? with|some a=>a.1==n|none=>false:=rfl
 refine ZF.pure (fC 124 true ?_) rfl;intro C0 E0;have uu:= @ZSP.eq_1;have tT:=aQ ZB Zas;refine rg [0,1,2] ?_;refine rg [0,1,2,8] ?_;refine rg [0,1,2,8,9,10] ?_;refine WI.loop (λφ os=> ∃(i j:Nat),φ= [(0,.x (.sl (rows ZK l))),(1,.x (.str n)),(2,.fn 125 []),(8,.x (.int .i64 l.length)),(9,.x (.int .i64 i)),(10,.x (.int .i64 j))]/\os= []/\i<=Za l n/\Za l n<=j/\j<=l.length) (dif) ?_ (λφ os hI=> ?_)
 .exact⟨0,l.length,rfl,rfl,J0,hpl,J0⟩
 .obtain⟨i,j,rfl,rfl,hi,hj,hjl⟩:=hI;refine rg [0,1,2,8,9,10,17] ?_;refine cd (λh0=> ?_) (λh0=> ?_)
  .refine rg [0,1,2,8,9,10,11] ?_;have hij:i<j:=Wm
   rw[Zdu i j J0];obtain⟨M,hM⟩: ∃M,M=(i+j)/2:=⟨_,rfl⟩;rw[<-hM];have hMl:M<l.length:=Wm
   have hrw:=ZKR l M hMl;have hiff:=Zfp hs n M hMl;rw[show l[M]=l.getD M ([],[],()) by simp[hMl],<-ZSV]at hiff;generalize l.getD M ([],[],())=x at hrw hiff;have uu:=YB uu hrw;refine rg [0,1,2,8,9,10,11,31] ?_;refine cd (λh1=> ?_) (λh1=> ?_)
   .have hlt:M<Za l n:=hiff.1 WC;refine rg [0,1,2,8,9,10] ?_
    exact WV
   .have hlt: ¬M<Za l n:=λh=>absurd (hiff.2 h) WC
    refine rg [0,1,2,8,9,10] ?_
    exact WV
  .obtain rfl:Za l n=i:=Wm
   by_cases hk:Za l n<l.length
   .have hrw:=ZKR l (Za l n) hk;rw[Zw hk,show l[Za l n]=l.getD (Za l n) ([],[],()) by simp[hk]]at hhit;generalize l.getD (Za l n) ([],[],())=x at hrw hhit;have hd:=ZI (show((Za l n:Nat):Int)<(l.length:Int) by omega);have uu:=JL uu hrw hd;refine rg [6,7] ?_;refine lf ?_;have hcb:(cmpS x.1 n==0)=(x.1==n):=by rw[QZ];simp[ZQf]
    rw[hhit,hcb]
   .have hrw:(rows ZK l)[Za l n]? =none:=ξV (by rw[ZQ];omega);rw[ξV J0]at hhit;have hd:=decide_eq_false (show ¬((Za l n:Nat):Int)<(l.length:Int) by omega);exact HW
def ZWY:J8->J5
 | [.x (.sl R),.x (.str n),.fn 125 []]=>(ZM ZK R).bind λl=>some (decide (SoA l/\l.length<=1000000),.tup [.x (.int .i64 (Za l n)),.x (.bool (Qn l n))])
 |_=>none
theorem ZWJ:QK Tryz.prog ZWY 124:=by
 intro args r h;unfold ZWY at h;split at h
 .obtain⟨l,rfl,i0⟩:=un Zf h;obtain⟨h1,rfl⟩:=Yn i0;exact(Ziw l _ h1.1 h1.2)
 .cases h
end Go.Proofs.YtiogclkbccdefaaGreatDoor
end
section
namespace Go.Ab
open Go.RowKit Go.Bo
section
variable {P:Program} {c:Ctx} {E0:Env} {os0 os:J7} {n:Nat} {Q:Exit->J4->J7->Prop} {φ:J4}
theorem Rel.reob{E:Env}(R:Rel c E os){i:Nat}{o o':Ob}(ho:os[i]? =some o)(hk: ∀k,o.kd=some k->o'.kd=some k)(hs: ∀sz n,o.sl? =some (sz,n)->o'.sl? =some (sz,n))(hm: ∀p b,o'.mb p b->o.mb p b)
  (hok: ∀p,E.ob[i]? =some p->OK E os o p->Evo E os E (os.set i o')->OK E (os.set i o') o' p):Rel c E (os.set i o')/\Evo E os E (os.set i o'):=by
 obtain⟨p,hp,hok0⟩:=R.at ho;have hset:E.ob.set i p=E.ob:=by
  apply ZBg;intro j;rw[ZCr];split
  .rename_i h;subst h;rw[hp];simp[(ZX hp).1]
  .rfl
 have hE:(⟨E.w,E.st,E.ob.set i p⟩:Env)=E:=by rw[hset]
 obtain⟨R',ev⟩:=R.set ho hp E.w o' p (Kept.refl _ _) (λb hb=> .inl (hm p b hb)) (λsz n h=>⟨n,hs sz n h,.inl ⟨rfl,rfl⟩⟩) (λk h=>⟨rfl,hk k h⟩) (λev=>by
  rw[hE]at ev|-;exact hok p hp hok0 ev)
 rw[hE]at R' ev;exact⟨R',ev⟩
theorem WI.ownBox(b j e sz:Nat){ds:J8}(hb:os[b]? =some (.box ds))(hj:ds[j]? =some (.x .nils)){ic:IC}(h:WI P c E0 os0 n ic Q φ (os.set b (.box (ds.set j (.ref os.length 0 0 0)))++ [.rows false e sz []])):WI P c E0 os0 n ic Q φ os:=by
 refine WI.weak (λE a R hf=> ?_) h;obtain⟨E',k1,k2,k3,k4⟩:=ZAc (fz:=false) (e:=e) (sz:=sz) (rs:= []) (cu:= .slice none 0 0) (xs:= []) R.rel (Kept.refl _ E.w) ⟨J1,.inl ⟨rfl,rfl⟩⟩ (λb hb=>Xr) (λr hr=>TI) (λi r j x v h=>WE);have hbl:=(ZX hb).1;have hb':(os++ [Ob.rows false e sz []])[b]? =some (.box ds):=by rw[Yk hbl];exact hb
 obtain⟨R2,e2⟩:=k2.reob (o':= .box (ds.set j (.ref os.length 0 0 0))) hb' (λk h=>h) (λsz n h=>W6) (λp b h=>h) (λp hp hok ev=>by
  obtain⟨cs,ty,g1,g2,g3⟩:=hok;refine⟨cs,ty,g1,by rw[ZJG];exact g2,λk d v hd hv=> ?_⟩;rw[ZCr]at hd;split at hd
  .rename_i hjk;subst hjk;split at hd
   .cases hd;have h1:=g3 j _ v hj hv;have h2:=V.nils h1.1;subst h2;exact⟨k4.mono ev,h1.2⟩
   .cases hd
  .exact⟨(g3 k d v hd hv).1.mono ev,(g3 k d v hd hv).2⟩)
 rw[ZMc _ _ hbl]at R2 e2;exact⟨E',k1,⟨R2,(R.evo.trans k3).trans e2⟩,hf.size,hf.defers,λu=>((hf.slot u).mono k3).mono e2⟩
end
end Go.Ab
end
section
namespace Go.Proofs.YtiogclkbccdefaaGreatDoor
open Go.RowKit Go.Bo Go.Ab Go.Shelf
def ZVd:Ren:=⟨λ|4=>113|n=>n,λ|22=>34|25=>9|n=>n,λn=>n⟩
theorem ZMd:Go.Proofs.Lays8.n4 Tryz.prog ZVd where
 mixed:=by kernel_rfl
 f4:=⟨"slices.Grow[[]string,string]",WT,J3⟩
 t0:=by kernel_rfl
 a0:=λw=>by kernel_rfl
 z0:=λw=>by kernel_rfl
 v0:=λw=>by kernel_rfl
 t3:=by kernel_rfl
 a3:=λw=>by kernel_rfl
 z3:=λw=>by kernel_rfl
 v3:=λw=>by kernel_rfl
 t4:=by kernel_rfl
 a4:=λw=>by kernel_rfl
 z4:=λw=>by kernel_rfl
 v4:=λw=>by kernel_rfl
 t9:=by kernel_rfl
 a9:=λw=>by kernel_rfl
 z9:=λw=>by kernel_rfl
 v9:=λw=>by kernel_rfl
 t20:=by kernel_rfl
 a20:=λw=>by kernel_rfl
 z20:=λw=>by kernel_rfl
 v20:=λw=>by kernel_rfl
 t22:=by kernel_rfl
 a22:=λw=>by kernel_rfl
 z22:=λw=>by kernel_rfl
 v22:=λw=>by kernel_rfl
theorem ZLy:Go.Ab.Enters Tryz.prog 113:=ZMd.f4.enters rfl
theorem ZiC(n:Nat)(hn:n<=1000000):ZO Tryz.prog 113 [.x .nils,.x (.int .i64 n)] [] (.ref 0 0 0 0) [.rows false 9 1 []]:=by
 intro c E vs R hvl;obtain⟨hsz,hv⟩:=hvl;obtain⟨v0,v1,rfl⟩: ∃v0 v1,vs= #[v0,v1]:=by
  obtain⟨vl⟩:=vs
  match vl,hsz with
  | [a,b],_=>exact XV
 have h0:=hv 0 _ v0 rfl rfl;have h1:=hv 1 _ v1 rfl rfl;cases h0 with
 |x h0=>
 cases h1 with
 |x h1=>
 cases h1 with
 |int _ _=>
 cases h0 with
 |nils=>
 by_cases hz:n=0
 .subst hz;refine(Go.Proofs.Any8.slices_Grow_room ZMd none 0 0 0 E.w (Zr _) J0 J0 (Zr _)).mono ?_;rintro e w' ⟨rfl,rfl⟩;obtain⟨E',h1,h2,h3,h4⟩:=ZAc R (fz:=false) (e:=9) (sz:=1) (rs:= []) (cu:= .slice none 0 0) (xs:= []) (Kept.refl _ _) ⟨rfl,.inl ⟨rfl,rfl⟩⟩ (λb hb=>by simp[Value.ownBlock]at hb) (λr hr=>TI) (λi r j x v h=>WE);exact⟨_,E',rfl,h1,h2,h3,h4⟩
 .have hi:(Tryz.prog.info? 9).map (λi=>(i.zero,i.size,i.bytes))=some (some (.string ByteArray.empty),1,16):=by kernel_rfl
  obtain⟨i0,hi0,hi1⟩:=Zc hi;simp only[YP]at hi1;obtain⟨hz0,hs0,hb0⟩:=hi1;refine(Go.Proofs.Any8.slices_Grow_grow ZMd i0 (.string ByteArray.empty) hi0 hz0 J0 none 0 0 n [] E.w (Zr _) J0 (by rw[hb0];omega) J0 J1 (λ_=>rfl) (λa h=>W6)).mono ?_;rintro e w' ⟨rfl,rfl⟩;have hG:=grownCap_le_maxLen E.w (0+n) 0 9 GR;have hGn:0+n<=grownCap E.w (0+n) 0 9:=grownCap_ge E.w _ _ _;have hgr:ZVd.t 25=9:=rfl;rw[hgr];generalize grownCap E.w (0+n) 0 9=G at hG hGn|-;have hcs:(([]:List Value).toArray++Builtin.zeroCells (Value.string ByteArray.empty).cells (0+n-0)++Builtin.zeroCells (Value.string ByteArray.empty).cells (G-(0+n))).size=G*1:=by
   simp[Builtin.zeroCells,Value.cells]<;>omega
  obtain⟨E',h1,h2,h3,h4⟩:=ZAc R (fz:=false) (e:=9) (sz:=1) (rs:= []) (cu:= .slice (some ⟨E.w.heap.size,0,none⟩) 0 G) (xs:= [])
   (Kept.of_none (((Ext.refl E.w).dr.al (.cells (([]:List Value).toArray++Builtin.zeroCells (Value.string ByteArray.empty).cells (0+n-0)++Builtin.zeroCells (Value.string ByteArray.empty).cells (G-(0+n))) 9)).grown none))
   ⟨rfl,.inr ⟨E.w.heap.size,G,_,(0,0),rfl,heap_alloc_new _ _,Kb _,hG,hcs,J1,.inl rfl⟩⟩ (λb hb=>by simp[Value.ownBlock]at hb;omega) (λr hr=>TI) (λi r j x v h=>WE)
  exact⟨_,E',rfl,h1,h2,h3,h4⟩
def ZLT:J8->J7->Option (Bool×D×J7)
 | [.x .nils,.x (.int .i64 n)],[]=>some (decide (0<=n/\n.toNat<=1000000),.ref 0 0 0 0,[.rows false 9 1 []])
 |_,_=>none
theorem ZRf: ∀args os r os',ZLT args os=some (true,r,os')->ZO Tryz.prog 113 args os r os':=by
 intro args os r os' h;unfold ZLT at h;split at h
 .rename_i n;simp only[Yu,YP,Yl]at h;obtain⟨⟨h1,h2⟩,rfl,rfl⟩:=h;have:=ZiC n.toNat h2;rwa [Int.toNat_of_nonneg h1]at this
 .cases h
theorem ZT8(a b:List (List UInt8))(ha:a.length<=100000)(hb:b.length<=100000):ZL Tryz.prog 73 [.x (.sl [[.sl (rows ZC a)],[.sl (rows ZC b)]])] (.x (.sl (rows ZC (a++b)))):=by
 refine ZF.pure (fC 73 true ?_) rfl;intro C0 E0;have uu:=YB @ZLT.eq_1 @ZLT.eq_2;have tT:=aT ZB ZRf ZLy;refine H6 ?_;refine ct (λh0=> ?_) (λh0=> ?_)
 .refine Ul ?_;refine ce (λh1=> ?_) (λh1=> ?_)
  .exact T3
  .refine UE ?_;refine ct (λh0=> ?_) (λh0=> ?_)
   .refine Ul ?_;refine ce (λh1=> ?_) (λh1=> ?_)
    .exact T3
    .refine UE ?_;refine ce (λh0=> ?_) (λh0=> ?_)
     .exact US
     .refine XN ?_;refine ct (λh2=> ?_) (λh2=> ?_)
      .refine Vr ?_;refine ct (λh2=> ?_) (λh2=> ?_)
       .refine Vr ?_;refine ce (λh2=> ?_) (λh2=> ?_)
        .exact absurd h2 WT
        .refine Wy ?_;rw[YR J1]
       .exact absurd h2 WT
      .exact absurd h2 WT
   .exact US
 .exact US
theorem ZXK(b:List (List UInt8))(hb:b.length<=100000):ZL Tryz.prog 73 [.x (.sl [[.nils],[.sl (rows ZC b)]])] (.x (.sl (rows ZC b))):=by
 refine ZF.pure (fC 73 true ?_) rfl;intro C0 E0;have uu:=YB @ZLT.eq_1 @ZLT.eq_2;have tT:=aT ZB ZRf ZLy;refine H6 ?_;refine ct (λh0=> ?_) (λh0=> ?_)
 .refine Ul ?_;refine ce (λh1=> ?_) (λh1=> ?_)
  .exact T3
  .refine UE ?_;refine ct (λh0=> ?_) (λh0=> ?_)
   .refine Ul ?_;refine ce (λh1=> ?_) (λh1=> ?_)
    .exact T3
    .refine UE ?_;refine ce (λh0=> ?_) (λh0=> ?_)
     .exact US
     .refine XN ?_;refine ct (λh2=> ?_) (λh2=> ?_)
      .refine Vr ?_;refine ct (λh2=> ?_) (λh2=> ?_)
       .refine Vr ?_;refine ce (λh2=> ?_) (λh2=> ?_)
        .exact absurd h2 WT
        .refine Wy ?_
         first|rfl|(rw[YR J1])
       .exact absurd h2 WT
      .exact absurd h2 WT
   .exact US
 .exact US
open Go.RowKit Go.Bo Go.Ab
theorem Zbl{a b:List UInt8}(h:ZV a=ZV b):a=b:=by
 have:=congrArg (λx=>x.data.toList) h;simpa[ZV]using this
theorem ZjQ(l:List (List UInt8))(s:List UInt8):Lib.containsS (l.map ZV) (ZV s)=decide (s∈l):=by
 rw[QZ,Lib.containsS_iff,Yl,YS];exact⟨λ⟨a,h1,h2⟩=>Zbl h2▸h1,λh=>⟨s,h,rfl⟩⟩
theorem Zh8(l:List (List UInt8))(s:List UInt8)(hl:l.length<=1000000):ZL Tryz.prog 127 [.x (.sl (rows ZC l)),.x (.str s)] (.x (.bool (decide (s∈l)))):=by
 intro w st vs hst hvl;obtain⟨hsz,hv⟩:=hvl;obtain⟨v0,v1,rfl⟩: ∃v0 v1,vs= #[v0,v1]:=by
  obtain⟨vl⟩:=vs
  match vl,hsz with
  | [a,b],_=>exact XV
 have h0:=hv 0 _ v0 rfl rfl;have h1:=hv 1 _ v1 rfl rfl;clear hv hsz;cases h0 with
 |x h0=>
 cases h1 with
 |x h1=>
 cases h1 with
 |str _=>
 cases h0 with
 |sl _ a n c sz val hn hc hm hsz hcell hnil hsp hval=>
  rw[ZQ]at hn;subst hn
  match l,hl,hc,hsz,hcell,hval with
  | [],_,_,_,_,_=>
   refine(Tryz.slices_Contains_string_empty a c (ZV s) w).mono ?_;rintro e w' ⟨rfl,rfl⟩;exact⟨_,st,rfl,Kept.refl _ _,λ_ _ h=>h,λ_ _ h=> .inl h,.x (.bool _)⟩
  |x::r,hl,hc,hsz,hcell,hval=>
   obtain rfl:1=sz:=hsz [.str x] Ge;obtain⟨b,off,rfl,hs0,_⟩:=hcell 0 0 J1 J0;have hcells: ∀j,j<((x::r).map ZV).length->w.cell? ⟨b,off+j,none⟩=some (.string (((x::r).map ZV).getD j ByteArray.empty)):=by
    intro j hj;rw[Yc]at hj;obtain⟨b',off',e,_,hw⟩:=hcell j 0 hj J0;simp only[Yu,Addr.mk.injEq]at e;obtain⟨rfl,rfl,_⟩:=e;have hx:=hval j 0 [.str (x::r)[j]] (.str (x::r)[j]) (by simp only[rows,YI,Zw hj];rfl) rfl;have hd:((x::r).map ZV).getD j ByteArray.empty=ZV (x::r)[j]:=by rw[ZCB,YI,Zw hj];rfl
    rw[show off+j=off+j*1+0 by omega,hw,hd];generalize val j 0=u at hx;cases hx with
    |str _=>rfl
   have:=Tryz.slices_Contains_string b off (x::r).length c ((x::r).map ZV) (ZV s) w J1 J0 hcells;rw[YR J1,ZjQ]at this;refine this.mono ?_;rintro e w' ⟨rfl,rfl⟩;exact⟨_,st,rfl,Kept.refl _ _,λ_ _ h=>h,λ_ _ h=> .inl h,.x (.bool _)⟩
theorem ZLu:Go.Ab.Enters Tryz.prog 127:=Go.Proofs.enters_of Tryz.lays110.f110 J3 rfl
def ZXO:J8->J5
 | [.x (.sl R),.x (.str s)]=>(ZM ZC R).bind λl=>some (decide (l.length<=1000000),.x (.bool (decide (s∈l))))
 |_=>none
theorem ZTn:QK Tryz.prog ZXO 127:=by
 intro args r h;unfold ZXO at h;split at h
 .obtain⟨l,rfl,i0⟩:=un ZP h;obtain⟨h1,rfl⟩:=Yn i0;exact(Zh8 l _ h1)
 .cases h
def inB(s:Tx)(n:Nat):Bool:=s.any λx=>x.toNat==n
theorem ZT3(s:Tx)(i:Nat)(h:i<s.length):(s.map Zv)[i]? =some [X.int .u8 (s.getD i 0).toNat]:=by
 simp[h,Zv]
theorem Zit(s:Tx)(n:Nat)(hl:s.length<=1000000):ZL Tryz.prog 200 [.x (.str s),.x (.int .u8 n)] (.x (.bool (inB s n))):=by
 refine ZF.pure (fC 200 true ?_) rfl;intro C0 E0;have uu:=YB @JO @QQ;have tT:=(ZB:SsOk Tryz.prog YH);refine rg [0,1] ?_;refine rg [1,8,9,10] ?_;refine WI.loop (λφ os=> ∃(j:Nat),φ= [(1,.x (.int .u8 n)),(8,.ref 0 s.length 0 s.length),(9,.x (.int .i64 s.length)),(10,.x (.int .i64 j))]/\os= [.rows true 5 1 (s.map Zv)]/\j<=s.length/\inB (s.take j) n=false) (ZJ s.length 10) ?_ (λφ os hI=> ?_)
 .exact W5
 .obtain⟨j,rfl,rfl,hj,hno⟩:=hI;refine rg [1,8,9,10,11] ?_;refine cd (λh0=> ?_) (λh0=> ?_)
  .have hj4:j<s.length:=Wm
   have hst:inB (s.take (j+1)) n=(inB (s.take j) n||((s.getD j 0).toNat==n)):=by unfold inB;rw[JW hj4,List.any_append];simp[hj4]
   have uu:=YB uu (ZT3 s j hj4);refine rg [1,6,8,9,10] ?_;refine rg [1,8,9,10,16] ?_;refine cd (λh1=> ?_) (λh1=> ?_)
   .refine Wj ?_;have hz:((s.getD j 0).toNat:Int)=n:=by first|exact h1|simpa only[beq_iff_eq]using h1
    have hy:(s.getD j 0).toNat=n:=Wm
    rw[show inB s n=true from List.any_eq_true.2 ⟨s[j],YK hj4,by rw[show s[j]=s.getD j 0 by simp[hj4]];simpa using hy⟩]
   .refine rg [1,8,9,10] ?_;exact⟨⟨j+1,rfl,rfl,J0,by rw[hst,hno];exact beq_false_of_ne (λe=>h1 (by rw[e]))⟩,Wa⟩
  .refine Wj ?_;rw[YR J0]at hno;rw[hno]
def ZOT:J8->J5
 | [.x (.str s),.x (.int .u8 n)]=>some (decide (s.length<=1000000)&&(decide (0<=n)),.x (.bool (inB s n.toNat)))
 |_=>none
theorem ZM3:QK Tryz.prog ZOT 200:=by
 intro args r h;unfold ZOT at h;split at h
 .rename_i s n;obtain⟨h1,h2,rfl⟩:=fn2 h;exact(by obtain⟨m,rfl⟩: ∃m:Nat,n=m:=⟨n.toNat,J0⟩;rw[ZIC];exact Zit s m h1)
 .cases h
def hxD(n:Nat):Nat:=if 48<=n/\n<=57 then n-48 else if 97<=n/\n<=102 then n-97+10 else if 65<=n/\n<=70 then n-65+10 else 16
def ZB1(n:Nat):Nat×Bool:=if hxD n<16 then(hxD n,true)else(0,false)
def ZFd:List UInt8:= [48,49,50,51,52,53,54,55,56,57,97,98,99,100,101,102]
def ZMw(d c:Nat):Bool:=d==c||(decide (65<=c/\c<=70)&&d==c+32)
theorem Zeb: ∀(k:Fin 16) (c:Fin 256),ZMw (ZFd.getD k.val 0).toNat c.val=true->ZB1 c.val=(k.val,true):=Uu
theorem ZdO: ∀c:Fin 256,(∀k:Fin 16,ZMw (ZFd.getD k.val 0).toNat c.val=false)->ZB1 c.val=(0,false):=Uu
theorem ZfN(c:Nat)(hc:c<256)(h: ∀k,k<16->ZMw (ZFd.getD k 0).toNat c=false):ZB1 c=(0,false):=ZdO ⟨c,hc⟩ (λk=>h k.val k.isLt)
theorem ZjS(n:Nat)(hn:n<256):ZL Tryz.prog 188 [.x (.int .u8 n)] (.x (.int .i64 (hxD n))):=by
 refine ZF.pure (fC 188 true ?_) rfl;intro C0 E0;have uu:=trivial;have tT:=(ZB:SsOk Tryz.prog YH);refine VD ?_;refine cd (λh0=> ?_) (λh0=> ?_)
 .refine Wy ?_;rw[hxD,if_pos J0];congr 2;omega
 .refine rg [0,13] ?_;refine cd (λh1=> ?_) (λh1=> ?_)
  .refine Wy ?_;rw[hxD,if_neg J0,if_pos J0];congr 2;omega
  .refine rg [0,24] ?_;refine cd (λh2=> ?_) (λh2=> ?_)
   .refine Wy ?_;rw[hxD,if_neg J0,if_neg J0,if_pos J0];congr 2;omega
   .refine Wy ?_;rw[hxD,if_neg J0,if_neg J0,if_neg J0];rfl
def Za9:J8->J5
 | [.x (.int .u8 n)]=>some (decide (0<=n/\n<256),.x (.int .i64 (hxD n.toNat)))
 |_=>none
theorem Zer:QK Tryz.prog Za9 188:=by
 intro args r h;unfold Za9 at h;split at h
 .rename_i n;obtain⟨h1,rfl⟩:=Yn h;exact(by obtain⟨m,rfl⟩: ∃m:Nat,n=m:=⟨n.toNat,J0⟩;rw[ZIC];exact ZjS m J0)
 .cases h
def ZiN:Tx:= [44,43,34,92,60,62,59,61]
def spc(n:Nat):Bool:=inB ZiN n
theorem Zhm(n:Nat):spc n=(decide ((n:Int)=44)||(decide ((n:Int)=43)||(decide ((n:Int)=34)||(decide ((n:Int)=92)||(decide ((n:Int)=60)||(decide ((n:Int)=62)||(decide ((n:Int)=59)||decide ((n:Int)=61)))))))):=by
 unfold spc inB ZiN;rw[QZ];simp only[List.any_cons,List.any_nil,ZBc,beq_iff_eq,Yl,ZD5,UInt8.reduceToNat];omega
theorem ZYl(n:Nat):ZL Tryz.prog 173 [.x (.int .u8 n)] (.x (.bool (spc n))):=by
 have hq:=Zhm n;refine ZF.pure (fC 173 true ?_) rfl;intro C0 E0;have uu:=trivial;have tT:=(ZB:SsOk Tryz.prog YH);refine XF ?_;clear uu;congr 2;rw[hq];grind
def ZJC:J8->J5
 | [.x (.int .u8 n)]=>some (decide (0<=n),.x (.bool (spc n.toNat)))
 |_=>none
theorem ZMD:QK Tryz.prog ZJC 173:=by
 intro args r h;unfold ZJC at h;split at h
 .rename_i n;obtain⟨h1,rfl⟩:=Yn h;exact(by obtain⟨m,rfl⟩: ∃m:Nat,n=m:=⟨n.toNat,J0⟩;rw[ZIC];exact ZYl m)
 .cases h
def ZIF(n:Nat)(first:Bool):Bool:=decide (n<32)||decide (n=127)||(decide (n≠61)&&spc n)||(first&&decide (n=35))
theorem Zci(n:Nat)(b:Bool):ZL Tryz.prog 225 [.x (.int .u8 n),.x (.bool b)] (.x (.bool (ZIF n b))):=by
 have hq:inB [44,43,34,92,60,62,59,61] n=spc n:=rfl;refine ZF.pure (fC 225 true ?_) rfl;intro C0 E0;have uu:=YB @ZOT.eq_1 hq;have tT:=aQ ZB ZM3;refine rg [0,1] ?_;refine Wj ?_;clear uu;unfold ZIF;congr 2;grind
def ZO0:J8->J5
 | [.x (.int .u8 n),.x (.bool b)]=>some (decide (0<=n),.x (.bool (ZIF n.toNat b)))
 |_=>none
theorem ZXn:QK Tryz.prog ZO0 225:=by
 intro args r h;unfold ZO0 at h;split at h
 .rename_i n b;obtain⟨h1,rfl⟩:=Yn h;exact(by obtain⟨m,rfl⟩: ∃m:Nat,n=m:=⟨n.toNat,J0⟩;rw[ZIC];exact Zci m b)
 .cases h
def ZRW:Value->Int
 | .int _ n=>n
 |_=>0
def ZXD:Array Value:= #[.int .u8 48,.int .u8 49,.int .u8 50,.int .u8 51,.int .u8 52,.int .u8 53,.int .u8 54,.int .u8 55,.int .u8 56,.int .u8 57,.int .u8 97,.int .u8 98,.int .u8 99,.int .u8 100,.int .u8 101,.int .u8 102]
theorem Zdy(c:Nat)(h1:65<=c)(h2:c<=70):IntKind.u8.wrap (IntKind.u8.wrap ((c:Int)-65)+97)=((c+32:Nat):Int):=by
 rw[IntWalk.u8_in ((c:Int)-65) J0,IntWalk.u8_in _ J0];omega
set_option maxHeartbeats 4000000 in
set_option maxRecDepth 100000 in
theorem ZX0(c:Nat)(w:World)(hc:c<256):
  Calls Tryz.prog 236 #[.int .u8 c] w λe w'=>e= .returned (.tuple #[.int .u8 (ZB1 c).1,.bool (ZB1 c).2])/\Below w.heap.size w w':=by
 have kc:=λ(w:World) (C:Array Value) (n c:Nat)=>Lib.run_convert_bytes_const (P:=Tryz.prog) w 27 5 C n c Tryz.underlying27 Tryz.underlying5
 go_enter Tryz.func236,Tryz.ntmps236
 go_wp2_with fail
 go_loopw [9] (λi wr=> ∃(k:Nat),k<=16/\i= .int .i64 k/\wr=w.alloc (.cells ZXD 5 (16,17))/\ ∀m,m<k->ZMw (ZFd.getD m 0).toNat c=false) (λi _=>16-(ZRW i).toNat)
 case atStart=>exact⟨0,J0,rfl,rfl,by intro m hm;omega⟩
 case round=>
  obtain⟨k,hk,rfl,rfl,hno⟩:=hrel;have hcell: ∀m:Fin 16,(w.alloc (.cells ZXD 5 (16,17))).cell? ⟨w.heap.size,m.val,none⟩=some (.int .u8 (ZFd.getD m.val 0).toNat):=by
   intro m;have hb:(w.alloc (.cells ZXD 5 (16,17))).heap[w.heap.size]? =some (.cells ZXD 5 (16,17)):=by
    show(w.heap.push _)[w.heap.size]? =_;simp
   rw[Lib.cell_of_heap hb]
   revert m;intro m;rcases m with⟨m,hm⟩;(repeat(rcases m with _|m;rfl));omega
  by_cases hlt:k<16
  .have hc1:=hcell ⟨k,hlt⟩;have hat:=Zeb ⟨k,hlt⟩ ⟨c,hc⟩;simp only at hc1 hat;cases hq:ZMw (ZFd.getD k 0).toNat c with
   |true=>
    have hat:=hat hq;have hk1:IntKind.u8.wrap (k:Int)=(k:Int):=IntWalk.u8_in _ J0;clear hno hcell;unfold ZMw at hq;generalize(ZFd.getD k 0).toNat=d at hc1 hq;by_cases h1:d=c
    .subst h1
     go_wp2_with fail
     all_goals first|exact bodyPost_ret (v:= .tuple #[.int .u8 (k:Int),.bool true]) Nd rfl ⟨by rw[hat],(Below.refl _ w).alloc (Zr _) _⟩|(exfalso;rename_i hx;revert hx;simp<;>omega)|(exfalso;revert q1;simp;done)|(exfalso;revert q4;simp only[hw]at*;simp_all<;>omega)|(exfalso;revert hq;simp<;>omega)
    .have h2:65<=c/\c<=70/\d=c+32:=by simp[h1]at hq;omega
     obtain⟨h21,h22,rfl⟩:=h2;have hw:=Zdy c h21 h22;have q1:decide (((c+32:Nat):Int)=(c:Int))=false:=decide_eq_false J0;have q2:decide ((c:Int)>=65)=true:=ZI J0;have q3:decide ((c:Int)<=70)=true:=ZI J0
     go_wp2_with fail
     all_goals first|exact bodyPost_ret (v:= .tuple #[.int .u8 (k:Int),.bool true]) Nd rfl ⟨by rw[hat],(Below.refl _ w).alloc (Zr _) _⟩|(exfalso;rename_i hx;revert hx;simp<;>omega)|(exfalso;revert q1;simp;done)|(exfalso;revert q4;simp only[hw]at*;simp_all<;>omega)|(exfalso;revert hq;simp<;>omega)
   |false=>
    have hq':=hq;unfold ZMw at hq;generalize(ZFd.getD k 0).toNat=d at hc1 hq;have q1:decide ((d:Int)=(c:Int))=false:=decide_eq_false (by simp at hq;omega);clear hcell hat;by_cases h1:65<=c
    .by_cases h2:c<=70
     .have hw:=Zdy c h1 h2;have q2:decide ((c:Int)>=65)=true:=ZI J0;have q3:decide ((c:Int)<=70)=true:=ZI J0;have q4:decide ((d:Int)=((c+32:Nat):Int))=false:=decide_eq_false (by simp[h1,h2]at hq;omega)
      go_wp2_with fail
      all_goals first|exact⟨⟨k+1,J0,by first|rfl|simp,trivial,λm hm=>if h:m=k then by subst h;exact hq' else hno m J0⟩,by simp[ZRW];omega⟩|(exfalso;rename_i hx;revert hx;simp<;>omega)|(exfalso;revert q1;simp;done)|(exfalso;revert q4;simp only[hw]at*;simp_all<;>omega)|(exfalso;revert hq;simp<;>omega)
     .have q2:decide ((c:Int)>=65)=true:=ZI J0;have q3:decide ((c:Int)<=70)=false:=decide_eq_false J0
      go_wp2_with fail
      all_goals first|exact⟨⟨k+1,J0,by first|rfl|simp,trivial,λm hm=>if h:m=k then by subst h;exact hq' else hno m J0⟩,by simp[ZRW];omega⟩|(exfalso;rename_i hx;revert hx;simp<;>omega)|(exfalso;revert q1;simp;done)|(exfalso;revert q4;simp only[hw]at*;simp_all<;>omega)|(exfalso;revert hq;simp<;>omega)
    .have q2:decide ((c:Int)>=65)=false:=decide_eq_false J0
     go_wp2_with fail
     all_goals first|exact⟨⟨k+1,J0,by first|rfl|simp,trivial,λm hm=>if h:m=k then by subst h;exact hq' else hno m J0⟩,by simp[ZRW];omega⟩|(exfalso;rename_i hx;revert hx;simp<;>omega)|(exfalso;revert q1;simp;done)|(exfalso;revert q4;simp only[hw]at*;simp_all<;>omega)|(exfalso;revert hq;simp<;>omega)
  .obtain rfl:k=16:=Wm
   have hnn:=ZfN c hc hno;clear hno hcell
   go_wp2_with fail
   exact bodyPost_ret (v:= .tuple #[.int .u8 0,.bool false]) Nd rfl ⟨by rw[hnn];rfl,(Below.refl _ w).alloc (Zr _) _⟩
theorem ZfA(n:Nat)(hn:n<256):ZL Tryz.prog 236 [.x (.int .u8 n)] (.tup [.x (.int .u8 (ZB1 n).1),.x (.bool (ZB1 n).2)]):=by
 intro w st vs hst hvl;obtain⟨hsz,hv⟩:=hvl;obtain⟨v0,rfl⟩: ∃v0,vs= #[v0]:=by
  obtain⟨vl⟩:=vs
  match vl,hsz with
  | [a],_=>exact⟨a,rfl⟩
 have h0:=hv 0 _ v0 rfl rfl;cases h0 with
 |x h0=>
 cases h0 with
 |int _ _=>
 refine(ZX0 n w hn).mono ?_;rintro e w' ⟨rfl,hb⟩;exact⟨_,st,rfl,⟨hb.os,hb.tape,hb.output,hb.size,λk hk _=>hb.block k hk⟩,λ_ _ h=>h,λ_ _ h=> .inl h,V.tup2 (.x (.int _ _)) _⟩
theorem ZSz:Go.Ab.Enters Tryz.prog 236:=enters_of Tryz.func236 J3 rfl
def ZUE:J8->J5
 | [.x (.int .u8 n)]=>some (decide (0<=n/\n<256),.tup [.x (.int .u8 (ZB1 n.toNat).1),.x (.bool (ZB1 n.toNat).2)])
 |_=>none
theorem ZYv:QK Tryz.prog ZUE 236:=by
 intro args r h;unfold ZUE at h;split at h
 .rename_i n;obtain⟨h1,rfl⟩:=Yn h;exact(by obtain⟨m,rfl⟩: ∃m:Nat,n=m:=⟨n.toNat,J0⟩;rw[ZIC];exact ZfA m J0)
 .cases h
def trL(s:Tx):Tx:=s.dropWhile (· ==32)
def trR(s:Tx):Tx:=(s.reverse.dropWhile (· ==32)).reverse
theorem ZOF: ∀l:Tx,l.dropWhile (· ==32)= []↔ ∀x∈l,x=32
 | []=>TG
 |c::l=>by
  rw[ZXk];by_cases h:c=32
  .simp[h,ZOF l]
  .simp[h]
theorem ZIR(r:Tx):(r== [])=decide (r.length=0):=by rcases r with _|⟨c,r⟩<;>simp
theorem ZMx{c:UInt8}(h:(c.toNat:Int)=32):c=32:=by
 apply ZNF.1;show c.toNat=32;omega
theorem ZDE(c:UInt8)(s:Tx):trL (c::s)=if c=32 then trL s else c::s:=by
 unfold trL;rw[ZXk];simp
theorem ZPY(s:Tx):(trL s).length<=s.length:=List.Sublist.length_le (List.dropWhile_sublist _)
theorem ZWE(s:Tx):(trR s).length<=s.length:=by
 unfold trR;rw[ZcE];exact ZEu (List.Sublist.length_le (List.dropWhile_sublist _)) J1
theorem ZR1(s:Tx)(c:UInt8):trR (s++ [c])=if c=32 then trR s else s++ [c]:=by
 unfold trR;rw[Zcr,ZMh,ZTS,QY,ZO5,ZXk];split<;>simp_all
theorem Zjb(s:Tx)(h:0<s.length):s=s.getD 0 0::s.drop 1:=by
 rcases s with _|⟨c,s⟩
 .simp at h
 .rfl
theorem ZW1(s:Tx)(h:0<s.length):s=s.take (s.length-1)++ [s.getD (s.length-1) 0]:=by
 obtain⟨b,c,rfl⟩: ∃b c,s=b++ [c]:=⟨s.dropLast,s.getLast (by intro e;subst e;simp at h),(List.dropLast_concat_getLast _).symm⟩;simp
theorem ZMV(s:Tx)(h:0<s.length)(hc:s.getD 0 0=32):trL s=trL (s.drop 1):=by
 conv=>lhs;rw[Zjb s h]
 rw[ZDE,if_pos hc]
theorem ZMl(s:Tx)(h: ¬(0<s.length/\s.getD 0 0=32)):trL s=s:=by
 rcases s with _|⟨c,s⟩
 .rfl
 .rw[ZDE,if_neg (λe:c=32=>h ⟨J1,e⟩)]
theorem ZSQ(s:Tx)(h:0<s.length)(hc:s.getD (s.length-1) 0=32):trR s=trR (s.take (s.length-1)):=by
 conv=>lhs;rw[ZW1 s h]
 rw[ZR1,if_pos hc]
theorem ZS0(s:Tx)(h: ¬(0<s.length/\s.getD (s.length-1) 0=32)):trR s=s:=by
 by_cases h0:0<s.length
 .conv=>lhs;rw[ZW1 s h0]
  rw[ZR1,if_neg (λe=>h ⟨h0,e⟩)];exact(ZW1 s h0).symm
 .rw[show s= []from ZPr.1 J0];rfl
theorem Zdh(s:Tx)(hl:s.length<=1000000):ZL Tryz.prog 216 [.x (.str s),.x (.int .u8 32)] (.x (.str (trL s))):=by
 refine ZF.pure (fC 216 true ?_) rfl;intro C0 E0;have uu:=trivial;have tT:=(ZB:SsOk Tryz.prog YH);refine rg [0,1] ?_;refine WI.loop (λφ os=> ∃(r:Tx),φ= [(0,.x (.str r)),(1,.x (.int .u8 32))]/\os= []/\r.length<=s.length/\trL s=trL r) ((λφ _=>match get φ 0 with| .x (.str r)=>r.length|_=>0)) ?_ (λφ os hI=> ?_)
 .exact H4
 .obtain⟨r,rfl,rfl,hr,he⟩:=hI;refine rg [0,1,13] ?_;refine cd (λh0=> ?_) (λh0=> ?_)
  .have h0p:0<r.length:=Wm
   have h0c:r.getD 0 0=32:=ZMx J0;refine rg [0,1] ?_;exact VV
  .have h0n: ¬(0<r.length/\r.getD 0 0=32):=λhh=>by
    have h2:((r.getD 0 0).toNat:Int)=32:=Hw
    have h1:=hh.1;omega
   refine Wj ?_;rw[he,ZMl r h0n]
def ZLZ:J8->J5
 | [.x (.str s),.x (.int .u8 32)]=>some (decide (s.length<=1000000),.x (.str (trL s)))
 |_=>none
theorem ZOP:QK Tryz.prog ZLZ 216:=by
 intro args r h;unfold ZLZ at h;split at h
 .obtain⟨h1,rfl⟩:=Yn h;exact(Zdh _ h1)
 .cases h
theorem ZcJ(s:Tx)(hl:s.length<=1000000):ZL Tryz.prog 217 [.x (.str s),.x (.int .u8 32)] (.x (.str (trR s))):=by
 refine ZF.pure (fC 217 true ?_) rfl;intro C0 E0;have uu:=trivial;have tT:=(ZB:SsOk Tryz.prog YH);refine rg [0,1] ?_;refine WI.loop (λφ os=> ∃(r:Tx),φ= [(0,.x (.str r)),(1,.x (.int .u8 32))]/\os= []/\r.length<=s.length/\trR s=trR r) ((λφ _=>match get φ 0 with| .x (.str r)=>r.length|_=>0)) ?_ (λφ os hI=> ?_)
 .exact H4
 .obtain⟨r,rfl,rfl,hr,he⟩:=hI;have e1:((r.length:Int)-1).toNat=r.length-1:=Wm
  have uu:=YB uu e1;refine rg [0,1,16] ?_;refine cd (λh0=> ?_) (λh0=> ?_)
  .have h0p:0<r.length:=Wm
   have h0c:r.getD (r.length-1) 0=32:=ZMx J0;refine rg [0,1] ?_;exact⟨⟨r.take (r.length-1),rfl,rfl,Wx,by rw[he,ZSQ r h0p h0c]⟩,by show(r.take (r.length-1)).length<r.length;rw[Yv];omega⟩
  .have h0n: ¬(0<r.length/\r.getD (r.length-1) 0=32):=λhh=>by
    have h2:((r.getD (r.length-1) 0).toNat:Int)=32:=Hw
    have h1:=hh.1;omega
   refine Wj ?_;rw[he,ZS0 r h0n]
def ZLQ:J8->J5
 | [.x (.str s),.x (.int .u8 32)]=>some (decide (s.length<=1000000),.x (.str (trR s)))
 |_=>none
theorem ZNU:QK Tryz.prog ZLQ 217:=by
 intro args r h;unfold ZLQ at h;split at h
 .obtain⟨h1,rfl⟩:=Yn h;exact(ZcJ _ h1)
 .cases h
theorem ZWh(s:Tx)(hl:s.length<=1000000):ZL Tryz.prog 223 [.x (.str s),.x (.str [32])] (.x (.str (trL s))):=by
 refine ZF.pure (fC 223 true ?_) rfl;intro C0 E0;have uu:=YB @ZLZ.eq_1 @ZLQ.eq_1;have tT:=aQ (aQ ZB ZOP) ZNU;refine rg [0,1] ?_;refine rg [0,1,12] ?_;refine cd (λh0=> ?_) (λh0=> ?_)
 .refine Wj ?_;rw[show s= [] by simpa using h0];rfl
 .refine rg [0,1,21] ?_;refine ct (λh1=> ?_) (λh1=> ?_)
  .refine Wj ?_
   exact Wo
  .simp at h1
def ZKx:J8->J5
 | [.x (.str s),.x (.str [32])]=>some (decide (s.length<=1000000),.x (.str (trL s)))
 |_=>none
theorem ZS4:QK Tryz.prog ZKx 223:=by
 intro args r h;unfold ZKx at h;split at h
 .obtain⟨h1,rfl⟩:=Yn h;exact(ZWh _ h1)
 .cases h
def ZEz(s:Tx):Tx:=trL (trR s)
theorem ZhQ(s:Tx)(hl:s.length<=1000000):ZL Tryz.prog 204 [.x (.str s),.x (.str [32])] (.x (.str (ZEz s))):=by
 have hrl:=ZWE s;refine ZF.pure (fC 204 true ?_) rfl;intro C0 E0;have uu:=YB @ZLZ.eq_1 @ZLQ.eq_1;have tT:=aQ (aQ ZB ZOP) ZNU;refine rg [0,1] ?_;refine rg [0,1,12] ?_;refine cd (λh0=> ?_) (λh0=> ?_)
 .refine Wj ?_;rw[show s= [] by simpa using h0];rfl
 .refine rg [0,1,21] ?_;refine ct (λh1=> ?_) (λh1=> ?_)
  .refine WI.dregB tT [4] ?_;refine Wn ?_;refine Zn ?_;refine dAC ?_;refine X1 ?_;refine dAC ?_;refine ZU ?_;refine VP ?_;refine lf ?_
   exact Wo
  .simp at h1
def ZXy:J8->J5
 | [.x (.str s),.x (.str [32])]=>some (decide (s.length<=1000000),.x (.str (ZEz s)))
 |_=>none
theorem Zb6:QK Tryz.prog ZXy 204:=by
 intro args r h;unfold ZXy at h;split at h
 .obtain⟨h1,rfl⟩:=Yn h;exact(ZhQ _ h1)
 .cases h
theorem ZYs(s:Tx):trR (trL s)=ZEz s:=by
 unfold ZEz;by_cases h: ∀x∈s,x=32
 .have h1:trL s= []:=by unfold trL;rw[ZOF];intro x hx;exact h x hx
  have h2:trR s= []:=by unfold trR;rw[List.reverse_eq_nil_iff,ZOF];intro x hx;exact h x Gw
  rw[h1,h2];rfl
 .have key: ∀s:Tx,(∃x∈s,x≠32)->trR (trL s)=trL (trR s):=by
   intro s
   induction s with
   |nil=>rintro⟨x,hx,_⟩;simp at hx
   |cons c s ih=>
    intro hx;rw[ZDE];by_cases hc:c=32
    .subst hc;rw[if_pos rfl];have hx': ∃x∈s,x≠32:=by
      obtain⟨x,h1,h2⟩:=hx;rcases Jf.1 h1 with rfl|h1
      .exact absurd rfl h2
      .exact⟨x,h1,h2⟩
     rw[ih hx'];have e:trR (32::s)=32::trR s:=by
      unfold trR;obtain⟨x,h1,h2⟩:=hx';rw[ZMh,List.dropWhile_append];rw[if_neg (by rw[List.isEmpty_iff,ZOF];intro hh;exact h2 (hh x WC))];simp
     rw[e,ZDE,if_pos rfl]
    .rw[if_neg hc];have e: ∃t,trR (c::s)=c::t:=by
      unfold trR;rw[ZMh,List.dropWhile_append];split
      .exact⟨[],by simp[hc]⟩
      .exact⟨(s.reverse.dropWhile (· ==32)).reverse,J1⟩
     obtain⟨t,e⟩:=e;rw[e,ZDE,if_neg hc]
  exact key s WM
theorem ZfC(s:Tx)(hl:s.length<=1000000):ZL Tryz.prog 171 [.x (.str s)] (.x (.str (ZEz s))):=by
 rw[<-ZYs];refine ZF.pure (fC 171 true ?_) rfl;intro C0 E0;have uu:=trivial;have tT:=(ZB:SsOk Tryz.prog YH);refine XX ?_;refine Wf ?_;refine WI.loop (λφ os=> ∃(r:Tx),φ= [(0,.x (.str r))]/\os= []/\r.length<=s.length/\trL s=trL r) ((λφ _=>match get φ 0 with| .x (.str r)=>r.length|_=>0)) ?_ (λφ os hI=> ?_)
 .exact H4
 .obtain⟨r,rfl,rfl,hr,he⟩:=hI;have hem:=ZIR r;refine nz ?_;refine WI.regB tT [0,9] ?_;refine WF ?_;refine oS ?_
  iterate 4 refine oG (hok:=We) ?_
  refine V9 ?_;refine cd (λh0=> ?_) (λh0=> ?_)
  .have h0p:0<r.length:=by rcases r with _|⟨c,r⟩;simp at h0;simp
   have h0c:r.getD 0 0=32:=Hk
   refine WI.regB tT [0] ?_;refine WF ?_;refine Wf ?_;exact VV
  .have h0n: ¬(0<r.length/\r.getD 0 0=32):=λhh=>by
    have h2:((r.getD 0 0).toNat:Int)=32:=Hw
    have h3:r≠ []:=by rintro rfl;simp at hh
    grind
   refine WI.orderA [0] ?_;refine WI.loop (λφ os=> ∃(q:Tx),φ= [(0,.x (.str q))]/\os= []/\q.length<=s.length/\trR (trL s)=trR q) ((λφ _=>match get φ 0 with| .x (.str r)=>r.length|_=>0)) ?_ (λφ os hI=> ?_)
   .exact⟨r,rfl,rfl,J0,by rw[he,ZMl r h0n]⟩
   .obtain⟨q,rfl,rfl,hq,hee⟩:=hI;have e1:((q.length:Int)-1).toNat=q.length-1:=Wm
    have hem2:=ZIR q;have uu:=YB uu e1;refine nz ?_;refine WI.regB tT [0,21] ?_;refine WF ?_;refine oS ?_
    iterate 7 refine oG (hok:=We) ?_
    refine V9 ?_;refine cd (λh1=> ?_) (λh1=> ?_)
    .have h1p:0<q.length:=by rcases q with _|⟨c,q⟩;simp at h1;simp
     have h1c:q.getD (q.length-1) 0=32:=ZMx (by have:=h1.2;omega);refine WI.regB tT [0] ?_
     refine Wu ?_
     iterate 3 refine oG (hok:=We) ?_
     refine Wf ?_;exact⟨⟨q.take (q.length-1),rfl,rfl,Wx,by rw[hee,ZSQ q h1p h1c]⟩,by show(q.take (q.length-1)).length<q.length;rw[Yv];omega⟩
    .have h1n: ¬(0<q.length/\q.getD (q.length-1) 0=32):=λhh=>by
      have h2:((q.getD (q.length-1) 0).toNat:Int)=32:=Hw
      have h3:q≠ []:=by rintro rfl;simp at hh
      grind
     refine GT ?_;refine Un ?_;rw[hee,ZS0 q h1n]
def ZSF:J8->J5
 | [.x (.str s)]=>some (decide (s.length<=1000000),.x (.str (ZEz s)))
 |_=>none
theorem ZaD:QK Tryz.prog ZSF 171:=by
 intro args r h;unfold ZSF at h;split at h
 .obtain⟨h1,rfl⟩:=Yn h;exact(ZfC _ h1)
 .cases h
theorem ZkB: ∀(a b:Fin 16),IntKind.u8.wrap ((BitVec.ofInt IntKind.u8.bits (IntKind.u8.wrap ((a.val:Int)*2^min 4 IntKind.u8.bits))|||BitVec.ofInt IntKind.u8.bits (b.val:Int)).toNat:Int)=((UInt8.ofNat (16*a.val+b.val)).toNat:Int):=Uu
def orB(h l:Nat):UInt8:=UInt8.ofNat (16*h+l)
theorem Zj3(h l:Nat)(h1:h<16)(h2:l<16):IntKind.u8.wrap ((BitVec.ofInt IntKind.u8.bits (IntKind.u8.wrap ((h:Int)*2^min 4 IntKind.u8.bits))|||BitVec.ofInt IntKind.u8.bits (l:Int)).toNat:Int)=((orB h l).toNat:Int):=ZkB ⟨_,h1⟩ ⟨_,h2⟩
theorem ZU6(n:Nat):(ZB1 n).1<16:=by unfold ZB1;split<;>simp_all
def ZG9(a:UInt8):Bool:=spc a.toNat||decide (a.toNat=32)||decide (a.toNat=35)
def Ka(s:Tx):UInt8×Nat×Bool:=
 if s= []then(0,0,false)
 else if ZG9 (s.getD 0 0)=true then(s.getD 0 0,1,true)
 else if(ZB1 (s.getD 0 0).toNat).2=false\/s.length<2 then(0,0,false)
 else(orB (ZB1 (s.getD 0 0).toNat).1 (ZB1 (s.getD 1 0).toNat).1,2,(ZB1 (s.getD 1 0).toNat).2)
theorem Zhi(s:Tx)(hl:s.length<=1000000):ZL Tryz.prog 224 [.x (.str s)] (.tup [.x (.int .u8 (Ka s).1.toNat),.x (.int .i64 (Ka s).2.1),.x (.bool (Ka s).2.2)]):=by
 have hq: ∀n,inB [44,43,34,92,60,62,59,61] n=spc n:=λn=>rfl
 have hem:=ZIR s;have hb0:(s.getD 0 0).toNat<256:=ZEJ _;have hb1:(s.getD 1 0).toNat<256:=ZEJ _;have hor:=Zj3 _ _ (ZU6 (s.getD 0 0).toNat) (ZU6 (s.getD 1 0).toNat);rcases he:Ka s with⟨x,n,b⟩
 unfold Ka at he;have hfr:ZG9 (s.getD 0 0)=(spc (s.getD 0 0).toNat||decide ((s.getD 0 0).toNat=32)||decide ((s.getD 0 0).toNat=35)):=rfl;refine ZF.pure (fC 224 true ?_) rfl;intro C0 E0;have uu:=Qu @ZOT.eq_1 @ZUE.eq_1 hq hor;have tT:=aQ (aQ ZB ZM3) ZYv ZSz;refine XX ?_
 refine Wu ?_;refine Wf ?_;refine WI.regB tT [0,9] ?_;refine WF ?_;refine V9 ?_;refine cd (λh0=> ?_) (λh0=> ?_)
 .refine WI.regB tT [2,3,4] ?_;refine Wu ?_;refine Un ?_;rw[if_pos Vh]at he;cases he;rfl
 .have hne:s≠ []:=Vh
  rw[if_neg hne]at he;have hl1:0<s.length:=ZKV.2 hne;refine WI.regB tT [0,22] ?_;refine WF ?_;refine oC (hok:=We) ?_;refine oS ?_
  iterate 4 refine oG (hok:=We) ?_
  refine oS ?_
  iterate 4 refine oG (hok:=We) ?_
  refine V9 ?_;refine cd (λh1=> ?_) (λh1=> ?_)
  .refine WI.regB tT [2,3,4] ?_;refine WF ?_;refine Wu ?_;refine Un ?_;rw[if_pos (by rw[hfr];clear uu;grind)]at he;cases he;rfl
  .rw[if_neg (by rw[hfr];clear uu;grind)]at he;refine WI.regB tT [0,5,6] ?_;refine WF ?_;refine oC (hok:=We) ?_;refine oS ?_
   refine W4 ?_;refine oS ?_;refine Wf ?_;refine WI.regB tT [0,5,37] ?_;refine WF ?_;refine oS ?_
   iterate 4 refine oG (hok:=We) ?_
   refine V9 ?_;refine cd (λh2=> ?_) (λh2=> ?_)
   .refine WI.regB tT [2,3,4] ?_;refine Wu ?_;refine Un ?_;rw[if_pos Ww]at he;cases he;rfl
   .rw[if_neg Ww]at he;have hl2:2<=s.length:=Ww
    refine WI.regB tT [5,6,7] ?_;refine WF ?_;refine oC (hok:=We) ?_;refine Us ?_;refine oS ?_;refine Wf ?_;refine WI.regB tT [2,3,4] ?_;refine WF ?_;refine WF ?_;refine Wu ?_;refine oS ?_;refine Un ?_;cases he;rfl
def ZWl:J8->J5
 | [.x (.str s)]=>some (decide (s.length<=1000000),.tup [.x (.int .u8 (Ka s).1.toNat),.x (.int .i64 (Ka s).2.1),.x (.bool (Ka s).2.2)])
 |_=>none
theorem ZbB:QK Tryz.prog ZWl 224:=by
 intro args r h;unfold ZWl at h;split at h
 .obtain⟨h1,rfl⟩:=Yn h;exact(Zhi _ h1)
 .cases h
end Go.Proofs.YtiogclkbccdefaaGreatDoor
end
