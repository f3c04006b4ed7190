import Derived.Test.YtiogclkbccdefaaGreatDoorLA1
import Derived.Shelf.Spec.SlicesInsertGrow
import Derived.Test.YtiogclkbccdefaaGreatDoorProg
import Derived.Test.YtiogclkbccdefaaGreatDoorLA5
import Derived.Test.YtiogclkbccdefaaGreatDoorSh
import Derived.Lib.SplitLaws
import Derived.Lib.Join
import Derived.Lib.MapLaws
set_option linter.unusedSimpArgs false
set_option linter.unusedVariables false
set_option maxRecDepth 100000
section
namespace Go.Bo
open Go.RowKit
def QS{α:Type}(E:Enc α)(w:World)(ok:Nat→Prop):List α→List Value→Prop
 | [],xs=>xs= []
 |x::l,xs=> ∃c d,xs=c++d∧E.rep w ok x c∧QS E w ok l d
section
variable {α:Type} {E:Enc α}
theorem QS.len(hE:E.Good){w:World}{ok:Nat→Prop}: ∀ {l:List α} {xs:List Value},QS E w ok l xs→xs.length=l.length*E.n
 | [],xs,h=>by rw[show xs= []from h];simp
 |x::l,xs,⟨c,d,h1,h2,h3⟩=>by rw[h1,Zx,hE.len h2,QS.len hE h3,JJ,JL,ZKd,ZM0]
theorem QS.one(hE:E.Good){w:World}{ok:Nat→Prop}: ∀ {l:List α} {xs:List Value},QS E w ok l xs→ ∀u∈xs,u.oneCell'=true
 | [],xs,h,u,hu=>by rw[show xs= []from h]at hu;cases hu
 |x::l,xs,⟨c,d,h1,h2,h3⟩,u,hu=>by
  rw[h1,KT]at hu;rcases hu with hu|hu
  ·exact hE.one h2 u hu
  ·exact QS.one hE h3 u hu
theorem QS.stay(hE:E.Good){w w':World}{ok ok':Nat→Prop}(hs:ZGL w w' ok ok'): ∀ {l:List α} {xs:List Value},QS E w ok l xs→QS E w' ok' l xs
 | [],_,h=>h
 |_::_,_,⟨c,d,h1,h2,h3⟩=>⟨c,d,h1,hE.stay hs h2,QS.stay hE hs h3⟩
theorem QS.append{w:World}{ok:Nat→Prop}: ∀ {l m:List α} {xs ys:List Value},QS E w ok l xs→QS E w ok m ys→QS E w ok (l++m) (xs++ys)
 | [],_,xs,_,h,k=>by rw[show xs= []from h];exact k
 |_::_,_,_,_,⟨c,d,h1,h2,h3⟩,k=>⟨c,d++_,by rw[h1,Yk],h2,QS.append h3 k⟩
theorem QS.drop(hE:E.Good){w:World}{ok:Nat→Prop}: ∀ {l:List α} {xs:List Value} (k:Nat),QS E w ok l xs→QS E w ok (l.drop k) (xs.drop (k*E.n))
 | [],xs,k,h=>by rw[show xs= []from h];simp[QS]
 |x::l,xs,0,h=>by simpa using h
 |x::l,xs,k+1,⟨c,d,h1,h2,h3⟩=>by
  rw[h1,ZDj,List.drop_append_of_le_length_eq (hE.len h2)];exact QS.drop hE k h3
where
 List.drop_append_of_le_length_eq {c d:List Value} {n k:Nat} (h:c.length=n):(c++d).drop ((k+1)*n)=d.drop (k*n):=by
  rw[List.drop_append,ZFa (by rw[h,JL];omega),Qw,h,JL,ZKd,Nat.add_sub_cancel]
theorem QS.get(hE:E.Good){w:World}{ok:Nat→Prop}: ∀ {l:List α} {xs:List Value},QS E w ok l xs→ ∀i (h:i<l.length),∃cs,E.rep w ok l[i] cs∧ ∀j,j<E.n→xs[i*E.n+j]? =cs[j]?
 | [],_,_,i,h=>by simp at h
 |x::l,xs,⟨c,d,h1,h2,h3⟩,0,h=>⟨c,h2,fun j hj=>by rw[h1,ZI4,Yy,YR (by rw[hE.len h2];exact hj)]⟩
 |x::l,xs,⟨c,d,h1,h2,h3⟩,i+1,h=>by
  obtain⟨cs,k1,k2⟩:=QS.get hE h3 i (by simpa using h);refine⟨cs,by simpa using k1,fun j hj=> ?_⟩;rw[←k2 j hj,h1,Ki (by rw[hE.len h2,JL];omega),hE.len h2];congr 1;rw[JL];omega
theorem Sl.lt(hE:E.Good)(h0:0<E.n){w:World}{ok:Nat→Prop}{a:Option Addr}{l:List α}(h:Sl E w ok a l):Sl E w (fun b=>ok b∧b<w.heap.size) a l:=h.stay hE h0 (fun _ hb ho=>⟨⟨ho,hb⟩,rfl⟩)
theorem Sl.drop{w:World}{ok:Nat→Prop}{g off:Nat}{l:List α}(h:Sl E w ok (some ⟨g,off,none⟩) l)(k:Nat):Sl E w ok (some ⟨g,off+k*E.n,none⟩) (l.drop k):=by
 refine⟨by rw[KU];have:=h.1;omega,fun i hi=> ?_⟩;rw[KU]at hi;obtain⟨b,o,cs,ha,hb,hr,hc⟩:=h.2 (k+i) (by omega);cases ha;refine⟨g,off+k*E.n,cs,rfl,hb,by rw[List.getElem_drop];exact hr,fun j hj=> ?_⟩;rw[←hc j hj];congr 2;rw[JL];omega
end
section
variable {P:Program} {w:World}
end
open Go.RowKit Go.Lib
section
variable {P:Program} (w:World)
theorem QZ(t u ty e:TypeId)(i0:TypeInfo)(size:Nat)(hu:P.underlying t=some (.slice e))(hi:P.info? e=some i0)(hs:i0.size=size)(g o dLen dCap:Nat)(cur:Array Value)(hg:w.heap[g]? =some (.cells cur e (0,0)))
  (a:Addr) (sLen sCap:Nat) (cs:List Value) (hn:cs.length=min sLen dLen*size) (hsrc: ∀j v,cs[j]? =some v→w.cell? (a.add j)=some v) (hfit:o+cs.length≤cur.size) (h1: ∀v∈cs,v.oneCell'=true):
  (Builtin.copy_ #[t,u] ty #[.slice (some ⟨g,o,none⟩) dLen dCap,.slice (some a) sLen sCap]).run P w= .ok (goInt (min sLen dLen)) (w.setRow g (cur.toList.take o++cs++cur.toList.drop (o+cs.length)).toArray):=by
 subst hs;have hf:=run_firstCells_some (P:=P) w i0.size (min sLen dLen) a sLen sCap cs hn hsrc;have hst:=run_storeCells_at P g o e cs 0 cur w hg (by simpa using hfit) h1;simp only[Jw]at hst;have hm:Nat.min sLen dLen=min sLen dLen:=rfl;simp[Builtin.copy_,run_underlying hu,Builtin.lenOf,sizeOf,typeInfo,hi,hm,hf,hst];congr 1;omega
end
def YB{α:Type}(l:List α)(i:Nat)(y:List α):List α:=l.take i++y++l.drop i
theorem ZPX{α:Type}(A B C ys:List α)(k:Nat)(hy:ys.length=k)(hC:k≤C.length):
  (((A++B++C).take (A.length+k)++B++(A++B++C).drop (A.length+k+B.length)).take A.length++ys++((A++B++C).take (A.length+k)++B++(A++B++C).drop (A.length+k+B.length)).drop (A.length+ys.length))=A++ys++B++C.drop k:=by
 have e1:(A++B++C).take (A.length+k)=A++(B++C).take k:=by
  rw[Yk,List.take_append,JH (by omega),ZSu]
 have e2:(A++B++C).drop (A.length+k+B.length)=C.drop k:=by
  rw[show A.length+k+B.length=(A++B).length+k by rw[Zx];omega,List.drop_append,ZFa (by omega),ZSu,Qw]
 have hk:((B++C).take k).length=k:=by rw[JA,Zx];omega
 rw[e1,e2,hy];have e3:(A++(B++C).take k++B++C.drop k).take A.length=A:=by
  rw[Yk,Yk,List.take_left'];rfl
 have e4:(A++(B++C).take k++B++C.drop k).drop (A.length+k)=B++C.drop k:=by
  rw[Yk,List.drop_left'];rw[Zx,hk]
 rw[e3,e4];simp[Yk]
theorem ZNO{α:Type}(A Z B ys:List α)(k:Nat)(hy:ys.length=k)(hZ:k≤Z.length)(T:List α):
  (((A++Z).take A.length++ys++(A++Z).drop (A.length+ys.length)).take (A.length+k)++B++T)=A++ys++B++T:=by
 rw[List.take_left,ZKj (by rw[Zx];omega),JH (by rw[Zx];omega)]
theorem ZIY(w:World)(g:Nat)(a b:Array Value):(w.setRow g a).setRow g b=w.setRow g b:=by
 unfold World.setRow;congr 1;apply Array.ext
 ·simp
 ·intro i h1 h2;simp only[Array.getElem_modify];split
  ·cases w.heap[i]'(by simpa using h1)<;>rfl
  ·rfl
end Go.Bo
end
section
namespace Go.Proofs.YtiogclkbccdefaaGreatDoor
open Go.RowKit Go.Bo Go.Lib Go.Proofs
theorem ZU6:(Tryz.prog.info? 94).map (fun i=>(i.zero,i.size,i.bytes))=some (some (.agg #[.string ByteArray.empty,.slice none 0 0]),2,40):=by kernel_rfl
theorem ZHl: ∃i0,Tryz.prog.info? 94=some i0∧i0.zero=some (.agg #[.string ByteArray.empty,.slice none 0 0])∧i0.size=2∧i0.bytes=40:=by
 have h:=ZU6;cases hq:Tryz.prog.info? 94 with
 |none=>rw[hq]at h;cases h
 |some i0=>rw[hq]at h;simp at h;exact⟨i0,rfl,h.1,h.2.1,h.2.2⟩
set_option maxHeartbeats 4000000 in
set_option maxRecDepth 100000 in
theorem ZYj(w : World)(base : Nat)(v0 : Value)(n : Nat)(xs ys : List Value)(vb vc : Nat)(hown : w.ownsRow base 94 2 v0 n xs)(hn : n ≤ 1000000)(hys : ys.length = 2)(hv : ∀ j u, ys[j]? = some u → w.cell? ⟨vb, j, none⟩ = some u)
    (h1y : ∀ u ∈ ys, u.oneCell' = true) (hbase : base ≤ w.heap.size) :
    Calls Tryz.prog 126 #[v0, .int .i64 n, .slice (some ⟨vb, 0, none⟩) 1 vc] w fun e w' => ∃ v', e = .returned v' ∧ w'.ownsRow base 94 2 v' (n + 1) (xs ++ ys) ∧ Grow w w' v0 v' := by
  obtain ⟨i0, hi, hz0, hz1, hz2⟩ := ZHl;have hown2 := hown;rcases hown.2 with ⟨rfl, rfl⟩ | ⟨g, cap, cur, rfl, hbg, hgg, hnc, hcm, hcs, htake⟩
  · go_enter Tryz.func126, Tryz.ntmps126
    go_wp2_with (at_builtin; refine ZCV _ rfl _ _ 29 rfl base 94 i0 (.agg #[.string ByteArray.empty, .slice none 0 0]) 2 40 Tryz.underlying29 hi hz0 hz1 hz2 rfl (by decide) _ 0 xs rfl hown2 ⟨vb, 0, none⟩ 1 vc ys rfl (by rw [hys]) (fun j u hj => by rw [Addr.add_lit, Yy]; exact hv j u hj) h1y (by simp only [maxLen]; omega) (by omega) hbase ?_)
    intro v' w' ho hg
    go_wp2_with fail
    go_ret
    exact ⟨v', rfl, ho, hg⟩
  · have hz3 : ¬ ((1 : Int) = 0) := by omega
    by_cases hcn : n = cap
    all_goals first | subst hcn | skip
    all_goals
     go_enter Tryz.func126, Tryz.ntmps126
     go_wp2_with (at_builtin; refine ZCV _ rfl _ _ 29 rfl base 94 i0 (.agg #[.string ByteArray.empty, .slice none 0 0]) 2 40 Tryz.underlying29 hi hz0 hz1 hz2 rfl (by decide) _ n xs rfl hown2 ⟨vb, 0, none⟩ 1 vc ys rfl (by rw [hys]) (fun j u hj => by rw [Addr.add_lit, Yy]; exact hv j u hj) h1y (by simp only [maxLen]; omega) (by omega) hbase ?_)
     intro v' w' ho hg
     go_wp2_with fail
     go_ret
     exact ⟨v', rfl, ho, hg⟩
theorem Ks{w:World}{g j:Nat}{c:Array Value}{e:TypeId}{f:Nat×Nat}{v:Value}(h:w.heap[g]? =some (.cells c e f))(hj:c[j]? =some v):w.cell? ⟨g,j,none⟩=some v:=by unfold World.cell?;simp[h,hj]
theorem ZHr{w:World}{g:Nat}{c:Array Value}{e:TypeId}{f:Nat×Nat}(h:w.heap[g]? =some (.cells c e f)):w.shape? g=some (e,c.size):=by unfold World.shape?;rw[h]
theorem ZJW{w:World}{g o:Nat}{c:Array Value}{e:TypeId}(h:w.heap[g]? =some (.cells c e (0,0))):w.frozen? ⟨g,o,none⟩=false:=by unfold World.frozen?;simp[h]
set_option maxHeartbeats 4000000 in
set_option maxRecDepth 100000 in
theorem ZTF(w:World)(g cap n i:Nat)(cur:Array Value)(xs ys:List Value)(vb vc:Nat)(cv:Array Value)(ev:TypeId)(hgg:w.heap[g]? =some (.cells cur 94 (0,0)))(hcs:cur.size=cap*2)(htake:cur.toList.take (n*2)=xs)(hi:i<n)(hn:n≤1000000)(hroom:n+1≤cap)(hc63:cap≤9223372036854775807)
  (hvg:w.heap[vb]? =some (.cells cv ev (0,0))) (hvb:vb≠g) (hys:cv.toList.take 2=ys) (hyl:ys.length=2) (h1x: ∀u∈xs,u.oneCell'=true) (h1y: ∀u∈ys,u.oneCell'=true):
  Calls Tryz.prog 126 #[.slice (some ⟨g,0,none⟩) n cap,.int .i64 i,.slice (some ⟨vb,0,none⟩) 1 vc] w fun e w'=> ∃cur',e= .returned (.slice (some ⟨g,0,none⟩) (n+1) cap)∧w'=w.drew.setRow g cur'∧cur'.size=cap*2∧cur'.toList.take ((n+1)*2)=YB xs (i*2) ys:=by
 obtain⟨i0,hi0,hz0,hz1,hz2⟩:=ZHl;have hz3: ¬((1:Int)=0):=by omega
 have hz4: ¬((i:Int)=(n:Int)):=by omega
 have hsz: ∀w,(Go.sizeOf 94).run Tryz.prog w= .ok 2 w:=fun w=>by simp[sizeOf,typeInfo,hi0,hz1]
 have hov: ∀o lb cb,(callFunc 163 #[.slice (some ⟨vb,0,none⟩) 1 vc,.slice (some ⟨g,o,none⟩) lb cb]).run Tryz.prog w= .ok (.value (.bool false)) w:=fun o lb cb=>by
  rw[run_callFunc_extern Tryz.func163 (by kernel_rfl) (by kernel_rfl) (by kernel_rfl) (e:=Extern.SlicesOverlaps.overlaps #[29,29] #[4]) (by kernel_rfl),
   Lib.run_overlaps_apart w 29 4 94 Tryz.underlying29 2 hsz ⟨vb,0,none⟩ ⟨g,o,none⟩ 1 vc lb cb hvb _ _ _ _ (ZHr hvg) (ZHr hgg) (by rw[hcs];omega) (ZJW hvg) (ZJW hvg)]
  rfl
 have hxl:xs.length=n*2:=by rw[←htake,JA,Kl];omega
 have hdl:(xs.drop (i*2)).length=n*2-i*2:=by rw[KU,hxl]
 have hcx: ∀j v,xs[j]? =some v→cur[j]? =some v:=fun j v hj=>by
  rw[←htake,JQ]at hj;split at hj
  ·rw[←Qp];exact hj
  ·cases hj
 have hcp1: ∀ty dl dc sl sc,dl=n-i→sl=n+1-i→(Builtin.copy_ #[29,29] ty #[.slice (some ⟨g,(i+1)*2,none⟩) dl dc,.slice (some ⟨g,i*2,none⟩) sl sc]).run Tryz.prog w.drew= .ok (goInt (min (sl:Int) (dl:Int))) (w.drew.setRow g (cur.toList.take ((i+1)*2)++xs.drop (i*2)++cur.toList.drop ((i+1)*2+(xs.drop (i*2)).length)).toArray):=fun ty dl dc sl sc e1 e2=>
  QZ (P:=Tryz.prog) w.drew 29 29 ty 94 i0 2 Tryz.underlying29 hi0 hz1 g ((i+1)*2) dl dc cur hgg ⟨g,i*2,none⟩ sl sc (xs.drop (i*2)) (by rw[hdl];omega)
   (fun j v hj=>by rw[Addr.add_lit];exact Ks (w:=w.drew) hgg (hcx _ _ (by rwa [ξV]at hj))) (by rw[hdl,hcs];omega) (fun v hv=>h1x v (ZB7 hv))
 obtain⟨cur1,hcur1⟩: ∃cur1,cur1=(cur.toList.take ((i+1)*2)++xs.drop (i*2)++cur.toList.drop ((i+1)*2+(xs.drop (i*2)).length)).toArray:=⟨_,rfl⟩;rw[←hcur1]at hcp1;have hc1s:cur1.size=cap*2:=by
  rw[hcur1];simp only[ZB8,Zx,JA,KU,Kl,hxl,hcs];omega
 have hg1:(w.drew.setRow g cur1).heap[g]? =some (.cells cur1 94 (0,0)):=setRow_heap w.drew g cur _ _ _ hgg;have hv1:(w.drew.setRow g cur1).heap[vb]? =some (.cells cv ev (0,0)):=by rw[setRow_other w.drew g vb _ hvb];exact hvg
 have hcp2: ∀(W:World),(∀k:Nat,W.heap[k]? =(w.drew.setRow g cur1).heap[k]?)→ ∀ty dl dc,dl=n+1-i→(Builtin.copy_ #[29,29] ty #[.slice (some ⟨g,i*2,none⟩) dl dc,.slice (some ⟨vb,0,none⟩) 1 vc]).run Tryz.prog W= .ok (goInt (min ((1:Nat):Int) (dl:Int))) (W.setRow g (cur1.toList.take (i*2)++ys++cur1.toList.drop (i*2+ys.length)).toArray):=fun W hW ty dl dc e1=>
  QZ (P:=Tryz.prog) W 29 29 ty 94 i0 2 Tryz.underlying29 hi0 hz1 g (i*2) dl dc cur1 (by rw[hW];exact hg1) ⟨vb,0,none⟩ 1 vc ys (by rw[hyl];omega)
   (fun j v hj=>by rw[Addr.add_lit,Yy];exact Ks (w:=W) (by rw[hW];exact hv1) (by rw[←Qp];rw[←hys,JQ]at hj;split at hj;exact hj;cases hj)) (by rw[hyl,hc1s];omega) h1y
 obtain⟨cur2,hcur2⟩: ∃cur2,cur2=(cur1.toList.take (i*2)++ys++cur1.toList.drop (i*2+ys.length)).toArray:=⟨_,rfl⟩;have hfin:cur2.size=cap*2∧cur2.toList.take ((n+1)*2)=YB xs (i*2) ys:=by
  constructor
  ·rw[hcur2];simp only[ZB8,Zx,JA,KU,Kl,hyl,hc1s];omega
  ·obtain⟨A,hA⟩: ∃A,A=xs.take (i*2):=⟨_,rfl⟩;obtain⟨B,hB⟩: ∃B,B=xs.drop (i*2):=⟨_,rfl⟩;obtain⟨C,hC⟩: ∃C,C=cur.toList.drop (n*2):=⟨_,rfl⟩;have hAl:A.length=i*2:=by rw[hA,JA];omega
   have hBl:B.length=n*2-i*2:=by rw[hB,hdl]
   have hcur:cur.toList=A++B++C:=by rw[hA,hB,hC,ZCn,←htake,ZCn]
   have hCl:2≤C.length:=by rw[hC,KU,Kl];omega
   have h:=ZPX A B C ys 2 hyl hCl;rw[hAl]at h;rw[hcur2,hcur1,←hB,hcur,show(i+1)*2=i*2+2 by omega];simp only[List.toList_toArray];rw[h];unfold YB;rw[←hA,←hB,ZKj (by simp only[Zx,hAl,hyl,hBl];omega),JH (by simp only[Zx,hAl,hyl,hBl];omega)]
 rw[←hcur2]at hcp2;clear hcur2 hcur1;have mixed:Tryz.prog.follows Departure.mixedOrders=true:=by kernel_rfl
 have hw1:IntKind.i64.wrap ((i:Int)+1)=(i:Int)+1:=by rw[IntKind.wrap_i64];omega
 have hb1:(0:Int)≤(i:Int)+1:=by omega
 have hin:i≤n:=by omega
 have htn:((i:Int)+1).toNat=i+1:=by omega
 have hb2: ¬(cap=i+1):=by omega
 have hb3:(i:Int)≤(n:Int)+1:=by omega
 have hb4: ¬(cap=i):=by omega
 go_enter Tryz.func126,Tryz.ntmps126
 go_wp2_with (simp only[hov])
 go_region_law_o (refine step_copy_runI rfl _ _ 29 29 rfl _ _ (by simp[Act.eval,Act.put]) (by simp[Act.eval,Act.put]) (hcp1 _ _ _ _ _ (by omega) (by omega)) ?_)
 go_wp2_with (at_builtin;refine wpList_copy_runI _ rfl _ _ 29 29 rfl _ _ rfl rfl (hcp2 _ (fun _=>rfl) _ _ _ (by omega)) ?_)
 go_ret
 exact⟨cur2,rfl,ZIY w.drew g _ _,hfin.1,hfin.2⟩
set_option maxHeartbeats 4000000 in
set_option maxRecDepth 100000 in
theorem ZUS(w:World)(g cap n i:Nat)(cur:Array Value)(xs ys:List Value)(vb vc:Nat)(cv:Array Value)(ev:TypeId)(hgg:w.heap[g]? =some (.cells cur 94 (0,0)))(hcs:cur.size=cap*2)(htake:cur.toList.take (n*2)=xs)(hi:i<n)(hn:n≤1000000)(hnc:n≤cap)(hroom:cap<n+1)
  (hvg:w.heap[vb]? =some (.cells cv ev (0,0))) (hys:cv.toList.take 2=ys) (hyl:ys.length=2) (h1x: ∀u∈xs,u.oneCell'=true) (h1y: ∀u∈ys,u.oneCell'=true):
  Calls Tryz.prog 126 #[.slice (some ⟨g,0,none⟩) n cap,.int .i64 i,.slice (some ⟨vb,0,none⟩) 1 vc] w fun e w'=> ∃cur' G,e= .returned (.slice (some ⟨w.heap.size,0,none⟩) (n+1) G)∧w'.heap[w.heap.size]? =some (.cells cur' 94 (0,0))∧w.grownBy w' none∧n+1≤G∧G≤maxLen∧cur'.size=G*2∧cur'.toList.take ((n+1)*2)=YB xs (i*2) ys:=by
 obtain⟨i0,hi0,hz0,hz1,hz2⟩:=ZHl;obtain rfl:n=cap:=by omega
 have hz3: ¬((1:Int)=0):=by omega
 have hz4: ¬((i:Int)=(n:Int)):=by omega
 have hxl:xs.length=n*2:=by rw[←htake,JA,Kl];omega
 have hdl:(xs.drop (i*2)).length=n*2-i*2:=by rw[KU,hxl]
 have hcx: ∀j v,xs[j]? =some v→cur[j]? =some v:=fun j v hj=>by
  rw[←htake,JQ]at hj;split at hj
  ·rw[←Qp];exact hj
  ·cases hj
 have hgl:g<w.heap.size:=(ξH hgg).1;have hvl:vb<w.heap.size:=(ξH hvg).1;have hold:(Builtin.firstCells i0.size i (.slice (some ⟨g,0,none⟩) i n)).run Tryz.prog w.drew= .ok (xs.take (i*2)).toArray w.drew:=by
  rw[hz1];exact run_firstCells_some w.drew 2 i ⟨g,0,none⟩ i n (xs.take (i*2)) (by rw[JA];omega) (fun j v hj=>by
   rw[Addr.add_lit,Yy];rw[JQ]at hj;split at hj
   ·exact Ks (w:=w.drew) hgg (hcx _ _ hj)
   ·cases hj)
 obtain⟨G,hG⟩: ∃G,G=grownCap w (n+1) n 94:=⟨_,rfl⟩;obtain⟨z,hz⟩: ∃z,z=(Value.agg #[.string ByteArray.empty,.slice none 0 0]):=⟨_,rfl⟩;have hzs:z.cells.size=2:=by rw[hz];rfl
 obtain⟨ROW,hROW⟩: ∃ROW:Array Value,ROW=(xs.take (i*2)).toArray++Builtin.zeroCells z.cells (n+1-i)++Builtin.zeroCells z.cells (G-(n+1)):=⟨_,rfl⟩;have hrz: ∀ty,(Builtin.append_ #[29,3] ty #[.slice (some ⟨g,0,none⟩) i n,.int .i64 ((n:Int)+1-(i:Int))]).run Tryz.prog w= .ok (.slice (some ⟨w.heap.size,0,none⟩) (n+1) G) (w.drew.alloc (.cells ROW 94)):=fun ty=>by
  have h:=Lib.run_append_grow_zeros w 29 3 ty 94 i0 z .i64 .i64 Tryz.underlying29 Tryz.underlying3 hi0 (by rw[hz0,hz]) (some ⟨g,0,none⟩) i n (xs.take (i*2)) hold (n+1-i) (by omega) (by omega) (by omega) (by omega) (by rw[hz2];omega) (by rw[hz2,show i+(n+1-i)=n+1 by omega];exact growslice_fits (by omega) (by omega));rw[show i+(n+1-i)=n+1 by omega,←hG,←hROW]at h;rw[show((n:Int)+1-(i:Int))=((n+1-i:Nat):Int) by omega];exact h
 have hGn:n+1≤G:=by rw[hG];exact grownCap_ge w _ _ _
 have hGm:G≤maxLen:=by rw[hG];exact grownCap_le_maxLen w (n+1) n _ (by unfold maxLen;omega)
 have hzc: ∀k,(Builtin.zeroCells z.cells k).size=k*2:=fun k=>by simp[Builtin.zeroCells,hzs]
 have hRs:ROW.size=G*2:=by
  rw[hROW];simp only[ZXz,ZB8,JA,hzc,hxl];omega
 obtain⟨W1,hW1⟩: ∃W1,W1=w.drew.alloc (.cells ROW 94):=⟨_,rfl⟩;have hN1:W1.heap[w.heap.size]? =some (.cells ROW 94 (0,0)):=by rw[hW1];exact heap_alloc_new w.drew _
 have hgW:W1.heap[g]? =some (.cells cur 94 (0,0)):=by rw[hW1];exact(heap_alloc_old w.drew _ hgl).trans hgg
 have hvW:W1.heap[vb]? =some (.cells cv ev (0,0)):=by rw[hW1];exact(heap_alloc_old w.drew _ hvl).trans hvg
 have hcp1: ∀(W:World),(∀k:Nat,W.heap[k]? =W1.heap[k]?)→ ∀ty dl dc,dl=n+1-i→(Builtin.copy_ #[29,29] ty #[.slice (some ⟨w.heap.size,i*2,none⟩) dl dc,.slice (some ⟨vb,0,none⟩) 1 vc]).run Tryz.prog W= .ok (goInt (min ((1:Nat):Int) (dl:Int))) (W.setRow w.heap.size (ROW.toList.take (i*2)++ys++ROW.toList.drop (i*2+ys.length)).toArray):=fun W hW ty dl dc e1=>
  QZ (P:=Tryz.prog) W 29 29 ty 94 i0 2 Tryz.underlying29 hi0 hz1 w.heap.size (i*2) dl dc ROW (by rw[hW];exact hN1) ⟨vb,0,none⟩ 1 vc ys (by rw[hyl];omega)
   (fun j v hj=>by rw[Addr.add_lit,Yy];exact Ks (w:=W) (by rw[hW];exact hvW) (by rw[←Qp];rw[←hys,JQ]at hj;split at hj;exact hj;cases hj)) (by rw[hyl,hRs];omega) h1y
 obtain⟨R1,hR1⟩: ∃R1,R1=(ROW.toList.take (i*2)++ys++ROW.toList.drop (i*2+ys.length)).toArray:=⟨_,rfl⟩;rw[←hR1]at hcp1;have hR1s:R1.size=G*2:=by
  rw[hR1];simp only[ZB8,Zx,JA,KU,Kl,hyl,hRs];omega
 have hN2:(W1.setRow w.heap.size R1).heap[w.heap.size]? =some (.cells R1 94 (0,0)):=setRow_heap W1 _ ROW _ _ _ hN1;have hgW2:(W1.setRow w.heap.size R1).heap[g]? =some (.cells cur 94 (0,0)):=by rw[setRow_other W1 _ g _ (by omega)];exact hgW
 have hcp2: ∀(W:World),(∀k:Nat,W.heap[k]? =(W1.setRow w.heap.size R1).heap[k]?)→ ∀ty dl dc sl sc,dl=n-i→sl=n-i→(Builtin.copy_ #[29,29] ty #[.slice (some ⟨w.heap.size,(i+1)*2,none⟩) dl dc,.slice (some ⟨g,i*2,none⟩) sl sc]).run Tryz.prog W= .ok (goInt (min (sl:Int) (dl:Int))) (W.setRow w.heap.size (R1.toList.take ((i+1)*2)++xs.drop (i*2)++R1.toList.drop ((i+1)*2+(xs.drop (i*2)).length)).toArray):=fun W hW ty dl dc sl sc e1 e2=>
  QZ (P:=Tryz.prog) W 29 29 ty 94 i0 2 Tryz.underlying29 hi0 hz1 w.heap.size ((i+1)*2) dl dc R1 (by rw[hW];exact hN2) ⟨g,i*2,none⟩ sl sc (xs.drop (i*2)) (by rw[hdl];omega)
   (fun j v hj=>by rw[Addr.add_lit];exact Ks (w:=W) (by rw[hW];exact hgW2) (hcx _ _ (by rwa [ξV]at hj))) (by rw[hdl,hR1s];omega) (fun v hv=>h1x v (ZB7 hv))
 obtain⟨R2,hR2⟩: ∃R2,R2=(R1.toList.take ((i+1)*2)++xs.drop (i*2)++R1.toList.drop ((i+1)*2+(xs.drop (i*2)).length)).toArray:=⟨_,rfl⟩;rw[←hR2]at hcp2;have hfin:R2.size=G*2∧R2.toList.take ((n+1)*2)=YB xs (i*2) ys:=by
  constructor
  ·rw[hR2];simp only[ZB8,Zx,JA,KU,Kl,hdl,hR1s,hxl];omega
  ·obtain⟨Z,hZ⟩: ∃Z,Z=(Builtin.zeroCells z.cells (n+1-i)).toList++(Builtin.zeroCells z.cells (G-(n+1))).toList:=⟨_,rfl⟩;obtain⟨A,hA⟩: ∃A,A=xs.take (i*2):=⟨_,rfl⟩;have hAl:A.length=i*2:=by rw[hA,JA];omega
   have hROWl:ROW.toList=A++Z:=by rw[hROW,hZ,hA];simp
   have hZl:2≤Z.length:=by rw[hZ,Zx,Kl,hzc];omega
   have h:=ZNO A Z (xs.drop (i*2)) ys 2 hyl hZl;rw[hAl]at h;rw[hR2,hR1,hROWl,show(i+1)*2=i*2+2 by omega];simp only[List.toList_toArray];rw[h];unfold YB;rw[←hA,ZKj (by simp only[Zx,hAl,hyl,hdl];omega),JH (by simp only[Zx,hAl,hyl,hdl];omega)]
 have hN3:((W1.setRow w.heap.size R1).drew.setRow w.heap.size R2).heap[w.heap.size]? =some (.cells R2 94 (0,0)):=setRow_heap (W1.setRow w.heap.size R1).drew _ R1 _ _ _ hN2;have hgr:w.grownBy ((W1.setRow w.heap.size R1).drew.setRow w.heap.size R2) none:=by
  refine⟨by rw[hW1];rfl,by rw[hW1];rfl,by rw[hW1];rfl,?_,fun k hk _=> ?_⟩
  ·have e1:((W1.setRow w.heap.size R1).drew.setRow w.heap.size R2).heap.size=W1.heap.size:=by simp[World.setRow,World.drew]
   rw[e1,hW1];show w.heap.size≤(w.heap.push _).size;rw[Array.size_push];omega
  ·rw[setRow_other (W1.setRow w.heap.size R1).drew _ k _ (by omega)];show(W1.setRow w.heap.size R1).heap[k]? =_;rw[setRow_other W1 _ k _ (by omega),hW1];exact heap_alloc_old w.drew _ hk
 rw[←hW1]at hrz;have HN3:=Lib.hid hN3;clear hR2 hR1 hROW hRs hG hW1 hN3;have mixed:Tryz.prog.follows Departure.mixedOrders=true:=by kernel_rfl
 have hw1:IntKind.i64.wrap ((i:Int)+1)=(i:Int)+1:=by rw[IntKind.wrap_i64];omega
 have hb1:(0:Int)≤(i:Int)+1:=by omega
 have hin:i≤n:=by omega
 have htn:((i:Int)+1).toNat=i+1:=by omega
 have hb3:(i:Int)≤(n:Int):=by omega
 have hGi: ¬(G=i):=by omega
 have hGim: ¬(G=i+1):=by omega
 have hci: ¬(n=i):=by omega
 have hzz:(n:Int)<(n:Int)+1:=by omega
 have hG63:G≤9223372036854775807:=by unfold maxLen at hGm;omega
 go_enter Tryz.func126,Tryz.ntmps126
 go_wp2_with (first
  |(at_builtin;refine Lib.wpList_append_run _ rfl _ _ _ _ rfl _ _ rfl rfl _ _ (hrz _) ?_)
  |(at_builtin;refine wpList_copy_runI _ rfl _ _ 29 29 rfl _ _ rfl rfl (hcp1 _ (fun _=>rfl) _ _ _ (by omega)) ?_))
 go_region_law_o (refine step_copy_runI rfl _ _ 29 29 rfl (.slice (some ⟨w.heap.size,(i+1)*2,none⟩) (n-i) (G-(i+1))) (.slice (some ⟨g,i*2,none⟩) (n-i) (n-i)) (by simp[Act.eval,Act.put]) (by simp[Act.eval,Act.put]) (hcp2 (W1.setRow w.heap.size R1).drew (fun _=>rfl) _ _ _ _ _ rfl rfl) ?_)
 go_wp2
 go_ret
 exact⟨R2,G,rfl,HN3.out,hgr,hGn,hGm,hfin.1,hfin.2⟩
theorem ZX4(w:World)(base:Nat)(v0:Value)(n i:Nat)(xs ys:List Value)(vb vc:Nat)(cv:Array Value)(ev:TypeId)(hown:w.ownsRow base 94 2 v0 n xs)(hi:i≤n)(hn:n≤1000000)(hvg:w.heap[vb]? =some (.cells cv ev (0,0)))(hvb:v0.ownBlock≠some vb)(hys:cv.toList.take 2=ys)(hyl:ys.length=2)
  (h1x: ∀u∈xs,u.oneCell'=true) (h1y: ∀u∈ys,u.oneCell'=true) (hbase:base≤w.heap.size):
  Calls Tryz.prog 126 #[v0,.int .i64 i,.slice (some ⟨vb,0,none⟩) 1 vc] w fun e w'=> ∃v',e= .returned v'∧w'.ownsRow base 94 2 v' (n+1) (YB xs (i*2) ys)∧Grow w w' v0 v':=by
 have hxl:=hown.1;by_cases hin:i=n
 ·subst hin;have e:YB xs (i*2) ys=xs++ys:=by unfold YB;rw[JH (by omega),ZFa (by omega),Kg]
  rw[e];exact ZYj w base v0 i xs ys vb vc hown hn hyl (fun j u hj=>Ks hvg (by rw[←Qp];rw[←hys,JQ]at hj;split at hj;exact hj;cases hj)) h1y hbase
 ·rcases hown.2 with⟨_,rfl⟩|⟨g,cap,cur,rfl,hbg,hgg,hnc,hcm,hcs,htake⟩
  ·omega
  have hlen:(YB xs (i*2) ys).length=(n+1)*2:=by unfold YB;simp only[Zx,JA,KU,hxl,hyl];omega
  by_cases hroom:n+1≤cap
  ·refine(ZTF w g cap n i cur xs ys vb vc cv ev hgg hcs htake (by omega) hn hroom (by unfold maxLen at hcm;omega) hvg (fun e=>hvb (by rw[e];rfl)) hys hyl h1x h1y).mono ?_;rintro e w' ⟨cur',rfl,rfl,h1,h2⟩;refine⟨_,rfl,⟨hlen,.inr ⟨g,cap,cur',rfl,hbg,setRow_heap w.drew g cur _ _ _ hgg,hroom,hcm,h1,h2⟩⟩,⟨⟨rfl,rfl,rfl,by show w.drew.heap.size≤_;simp,fun k _ hk=>setRow_other w.drew g k _ (fun q=>hk (by rw[q];rfl))⟩,.inl rfl⟩⟩
  ·refine(ZUS w g cap n i cur xs ys vb vc cv ev hgg hcs htake (by omega) hn hnc (by omega) hvg hys hyl h1x h1y).mono ?_;rintro e w' ⟨cur',G,rfl,h0,hg,h1,h2,h3,h4⟩;exact⟨_,rfl,⟨hlen,.inr ⟨w.heap.size,G,cur',rfl,hbase,h0,h1,h2,h3,h4⟩⟩,⟨⟨hg.os,hg.tape,hg.output,hg.size,fun k hk _=>hg.block k hk (by simp)⟩,.inr ⟨_,rfl,Zl _⟩⟩⟩
theorem ZY1:(Tryz.prog.info? 9).map (fun i=>(i.zero,i.size,i.bytes))=some (some (.string ByteArray.empty),1,16):=by kernel_rfl
theorem ZJF: ∃i0,Tryz.prog.info? 9=some i0∧i0.zero=some (.string ByteArray.empty)∧i0.size=1∧i0.bytes=16:=by
 have h:=ZY1;cases hq:Tryz.prog.info? 9 with
 |none=>rw[hq]at h;cases h
 |some i0=>rw[hq]at h;simp at h;exact⟨i0,rfl,h.1,h.2.1,h.2.2⟩
set_option maxHeartbeats 4000000 in
set_option maxRecDepth 100000 in
theorem ZYH(w : World)(base : Nat)(v0 : Value)(n : Nat)(xs ys : List Value)(vb vc : Nat)(hown : w.ownsRow base 9 1 v0 n xs)(hn : n ≤ 1000000)(hys : ys.length = 1)(hv : ∀ j u, ys[j]? = some u → w.cell? ⟨vb, j, none⟩ = some u)
    (h1y : ∀ u ∈ ys, u.oneCell' = true) (hbase : base ≤ w.heap.size) :
    Calls Tryz.prog 44 #[v0, .int .i64 n, .slice (some ⟨vb, 0, none⟩) 1 vc] w fun e w' => ∃ v', e = .returned v' ∧ w'.ownsRow base 9 1 v' (n + 1) (xs ++ ys) ∧ Grow w w' v0 v' := by
  obtain ⟨i0, hi, hz0, hz1, hz2⟩ := ZJF;have hown2 := hown;rcases hown.2 with ⟨rfl, rfl⟩ | ⟨g, cap, cur, rfl, hbg, hgg, hnc, hcm, hcs, htake⟩
  · go_enter Tryz.func44, Tryz.ntmps44
    go_wp2_with (at_builtin; refine ZCV _ rfl _ _ 34 rfl base 9 i0 (.string ByteArray.empty) 1 16 Tryz.underlying34 hi hz0 hz1 hz2 rfl (by decide) _ 0 xs rfl hown2 ⟨vb, 0, none⟩ 1 vc ys rfl (by rw [hys]) (fun j u hj => by rw [Addr.add_lit, Yy]; exact hv j u hj) h1y (by simp only [maxLen]; omega) (by omega) hbase ?_)
    intro v' w' ho hg
    go_wp2_with fail
    go_ret
    exact ⟨v', rfl, ho, hg⟩
  · have hz3 : ¬ ((1 : Int) = 0) := by omega
    by_cases hcn : n = cap
    all_goals first | subst hcn | skip
    all_goals
     go_enter Tryz.func44, Tryz.ntmps44
     go_wp2_with (at_builtin; refine ZCV _ rfl _ _ 34 rfl base 9 i0 (.string ByteArray.empty) 1 16 Tryz.underlying34 hi hz0 hz1 hz2 rfl (by decide) _ n xs rfl hown2 ⟨vb, 0, none⟩ 1 vc ys rfl (by rw [hys]) (fun j u hj => by rw [Addr.add_lit, Yy]; exact hv j u hj) h1y (by simp only [maxLen]; omega) (by omega) hbase ?_)
     intro v' w' ho hg
     go_wp2_with fail
     go_ret
     exact ⟨v', rfl, ho, hg⟩
set_option maxHeartbeats 4000000 in
set_option maxRecDepth 100000 in
theorem ZSM(w:World)(g cap n i:Nat)(cur:Array Value)(xs ys:List Value)(vb vc:Nat)(cv:Array Value)(ev:TypeId)(hgg:w.heap[g]? =some (.cells cur 9 (0,0)))(hcs:cur.size=cap)(htake:cur.toList.take (n)=xs)(hi:i<n)(hn:n≤1000000)(hroom:n+1≤cap)(hc63:cap≤9223372036854775807)
  (hvg:w.heap[vb]? =some (.cells cv ev (0,0))) (hvb:vb≠g) (hys:cv.toList.take 1=ys) (hyl:ys.length=1) (h1x: ∀u∈xs,u.oneCell'=true) (h1y: ∀u∈ys,u.oneCell'=true):
  Calls Tryz.prog 44 #[.slice (some ⟨g,0,none⟩) n cap,.int .i64 i,.slice (some ⟨vb,0,none⟩) 1 vc] w fun e w'=> ∃cur',e= .returned (.slice (some ⟨g,0,none⟩) (n+1) cap)∧w'=w.drew.setRow g cur'∧cur'.size=cap∧cur'.toList.take ((n+1))=YB xs (i) ys:=by
 obtain⟨i0,hi0,hz0,hz1,hz2⟩:=ZJF;have hz3: ¬((1:Int)=0):=by omega
 have hz4: ¬((i:Int)=(n:Int)):=by omega
 have hsz: ∀w,(Go.sizeOf 9).run Tryz.prog w= .ok 1 w:=fun w=>by simp[sizeOf,typeInfo,hi0,hz1]
 have hov: ∀o lb cb,(callFunc 83 #[.slice (some ⟨vb,0,none⟩) 1 vc,.slice (some ⟨g,o,none⟩) lb cb]).run Tryz.prog w= .ok (.value (.bool false)) w:=fun o lb cb=>by
  rw[run_callFunc_extern Tryz.func83 (by kernel_rfl) (by kernel_rfl) (by kernel_rfl) (e:=Extern.SlicesOverlaps.overlaps #[34,34] #[4]) (by kernel_rfl),
   Lib.run_overlaps_apart w 34 4 9 Tryz.underlying34 1 hsz ⟨vb,0,none⟩ ⟨g,o,none⟩ 1 vc lb cb hvb _ _ _ _ (ZHr hvg) (ZHr hgg) (by rw[hcs];omega) (ZJW hvg) (ZJW hvg)]
  rfl
 have hxl:xs.length=n:=by rw[←htake,JA,Kl];omega
 have hdl:(xs.drop (i)).length=n-i:=by rw[KU,hxl]
 have hcx: ∀j v,xs[j]? =some v→cur[j]? =some v:=fun j v hj=>by
  rw[←htake,JQ]at hj;split at hj
  ·rw[←Qp];exact hj
  ·cases hj
 have hcp1: ∀ty dl dc sl sc,dl=n-i→sl=n+1-i→(Builtin.copy_ #[34,34] ty #[.slice (some ⟨g,(i+1),none⟩) dl dc,.slice (some ⟨g,i,none⟩) sl sc]).run Tryz.prog w.drew= .ok (goInt (min (sl:Int) (dl:Int))) (w.drew.setRow g (cur.toList.take ((i+1))++xs.drop (i)++cur.toList.drop ((i+1)+(xs.drop (i)).length)).toArray):=fun ty dl dc sl sc e1 e2=>
  QZ (P:=Tryz.prog) w.drew 34 34 ty 9 i0 1 Tryz.underlying34 hi0 hz1 g ((i+1)) dl dc cur hgg ⟨g,i,none⟩ sl sc (xs.drop (i)) (by rw[hdl];omega)
   (fun j v hj=>by rw[Addr.add_lit];exact Ks (w:=w.drew) hgg (hcx _ _ (by rwa [ξV]at hj))) (by rw[hdl,hcs];omega) (fun v hv=>h1x v (ZB7 hv))
 obtain⟨cur1,hcur1⟩: ∃cur1,cur1=(cur.toList.take ((i+1))++xs.drop (i)++cur.toList.drop ((i+1)+(xs.drop (i)).length)).toArray:=⟨_,rfl⟩;rw[←hcur1]at hcp1;have hc1s:cur1.size=cap:=by
  rw[hcur1];simp only[ZB8,Zx,JA,KU,Kl,hxl,hcs];omega
 have hg1:(w.drew.setRow g cur1).heap[g]? =some (.cells cur1 9 (0,0)):=setRow_heap w.drew g cur _ _ _ hgg;have hv1:(w.drew.setRow g cur1).heap[vb]? =some (.cells cv ev (0,0)):=by rw[setRow_other w.drew g vb _ hvb];exact hvg
 have hcp2: ∀(W:World),(∀k:Nat,W.heap[k]? =(w.drew.setRow g cur1).heap[k]?)→ ∀ty dl dc,dl=n+1-i→(Builtin.copy_ #[34,34] ty #[.slice (some ⟨g,i,none⟩) dl dc,.slice (some ⟨vb,0,none⟩) 1 vc]).run Tryz.prog W= .ok (goInt (min ((1:Nat):Int) (dl:Int))) (W.setRow g (cur1.toList.take (i)++ys++cur1.toList.drop (i+ys.length)).toArray):=fun W hW ty dl dc e1=>
  QZ (P:=Tryz.prog) W 34 34 ty 9 i0 1 Tryz.underlying34 hi0 hz1 g (i) dl dc cur1 (by rw[hW];exact hg1) ⟨vb,0,none⟩ 1 vc ys (by rw[hyl];omega)
   (fun j v hj=>by rw[Addr.add_lit,Yy];exact Ks (w:=W) (by rw[hW];exact hv1) (by rw[←Qp];rw[←hys,JQ]at hj;split at hj;exact hj;cases hj)) (by rw[hyl,hc1s];omega) h1y
 obtain⟨cur2,hcur2⟩: ∃cur2,cur2=(cur1.toList.take (i)++ys++cur1.toList.drop (i+ys.length)).toArray:=⟨_,rfl⟩;have hfin:cur2.size=cap∧cur2.toList.take ((n+1))=YB xs (i) ys:=by
  constructor
  ·rw[hcur2];simp only[ZB8,Zx,JA,KU,Kl,hyl,hc1s];omega
  ·obtain⟨A,hA⟩: ∃A,A=xs.take (i):=⟨_,rfl⟩;obtain⟨B,hB⟩: ∃B,B=xs.drop (i):=⟨_,rfl⟩;obtain⟨C,hC⟩: ∃C,C=cur.toList.drop (n):=⟨_,rfl⟩;have hAl:A.length=i:=by rw[hA,JA];omega
   have hBl:B.length=n-i:=by rw[hB,hdl]
   have hcur:cur.toList=A++B++C:=by rw[hA,hB,hC,ZCn,←htake,ZCn]
   have hCl:1≤C.length:=by rw[hC,KU,Kl];omega
   have h:=ZPX A B C ys 1 hyl hCl;rw[hAl]at h;rw[hcur2,hcur1,←hB,hcur,show(i+1)=i+1 from rfl];simp only[List.toList_toArray];rw[h];unfold YB;rw[←hA,←hB,ZKj (by simp only[Zx,hAl,hyl,hBl];omega),JH (by simp only[Zx,hAl,hyl,hBl];omega)]
 rw[←hcur2]at hcp2;clear hcur2 hcur1;have mixed:Tryz.prog.follows Departure.mixedOrders=true:=by kernel_rfl
 have hw1:IntKind.i64.wrap ((i:Int)+1)=(i:Int)+1:=by rw[IntKind.wrap_i64];omega
 have hb1:(0:Int)≤(i:Int)+1:=by omega
 have hin:i≤n:=by omega
 have htn:((i:Int)+1).toNat=i+1:=by omega
 have hb2: ¬(cap=i+1):=by omega
 have hb3:(i:Int)≤(n:Int)+1:=by omega
 have hb4: ¬(cap=i):=by omega
 go_enter Tryz.func44,Tryz.ntmps44
 go_wp2_with (simp only[hov])
 go_region_law_o (refine step_copy_runI rfl _ _ 34 34 rfl _ _ (by simp[Act.eval,Act.put]) (by simp[Act.eval,Act.put]) (hcp1 _ _ _ _ _ (by omega) (by omega)) ?_)
 go_wp2_with (at_builtin;refine wpList_copy_runI _ rfl _ _ 34 34 rfl _ _ rfl rfl (hcp2 _ (fun _=>rfl) _ _ _ (by omega)) ?_)
 go_ret
 exact⟨cur2,rfl,ZIY w.drew g _ _,hfin.1,hfin.2⟩
set_option maxHeartbeats 4000000 in
set_option maxRecDepth 100000 in
theorem ZUd(w:World)(g cap n i:Nat)(cur:Array Value)(xs ys:List Value)(vb vc:Nat)(cv:Array Value)(ev:TypeId)(hgg:w.heap[g]? =some (.cells cur 9 (0,0)))(hcs:cur.size=cap)(htake:cur.toList.take (n)=xs)(hi:i<n)(hn:n≤1000000)(hnc:n≤cap)(hroom:cap<n+1)
  (hvg:w.heap[vb]? =some (.cells cv ev (0,0))) (hys:cv.toList.take 1=ys) (hyl:ys.length=1) (h1x: ∀u∈xs,u.oneCell'=true) (h1y: ∀u∈ys,u.oneCell'=true):
  Calls Tryz.prog 44 #[.slice (some ⟨g,0,none⟩) n cap,.int .i64 i,.slice (some ⟨vb,0,none⟩) 1 vc] w fun e w'=> ∃cur' G,e= .returned (.slice (some ⟨w.heap.size,0,none⟩) (n+1) G)∧w'.heap[w.heap.size]? =some (.cells cur' 9 (0,0))∧w.grownBy w' none∧n+1≤G∧G≤maxLen∧cur'.size=G∧cur'.toList.take ((n+1))=YB xs (i) ys:=by
 obtain⟨i0,hi0,hz0,hz1,hz2⟩:=ZJF;obtain rfl:n=cap:=by omega
 have hz3: ¬((1:Int)=0):=by omega
 have hz4: ¬((i:Int)=(n:Int)):=by omega
 have hxl:xs.length=n:=by rw[←htake,JA,Kl];omega
 have hdl:(xs.drop (i)).length=n-i:=by rw[KU,hxl]
 have hcx: ∀j v,xs[j]? =some v→cur[j]? =some v:=fun j v hj=>by
  rw[←htake,JQ]at hj;split at hj
  ·rw[←Qp];exact hj
  ·cases hj
 have hgl:g<w.heap.size:=(ξH hgg).1;have hvl:vb<w.heap.size:=(ξH hvg).1;have hold:(Builtin.firstCells i0.size i (.slice (some ⟨g,0,none⟩) i n)).run Tryz.prog w.drew= .ok (xs.take (i)).toArray w.drew:=by
  rw[hz1];exact run_firstCells_some w.drew 1 i ⟨g,0,none⟩ i n (xs.take (i)) (by rw[JA];omega) (fun j v hj=>by
   rw[Addr.add_lit,Yy];rw[JQ]at hj;split at hj
   ·exact Ks (w:=w.drew) hgg (hcx _ _ hj)
   ·cases hj)
 obtain⟨G,hG⟩: ∃G,G=grownCap w (n+1) n 9:=⟨_,rfl⟩;obtain⟨z,hz⟩: ∃z,z=(Value.string ByteArray.empty):=⟨_,rfl⟩;have hzs:z.cells.size=1:=by rw[hz];rfl
 obtain⟨ROW,hROW⟩: ∃ROW:Array Value,ROW=(xs.take (i)).toArray++Builtin.zeroCells z.cells (n+1-i)++Builtin.zeroCells z.cells (G-(n+1)):=⟨_,rfl⟩;have hrz: ∀ty,(Builtin.append_ #[34,3] ty #[.slice (some ⟨g,0,none⟩) i n,.int .i64 ((n:Int)+1-(i:Int))]).run Tryz.prog w= .ok (.slice (some ⟨w.heap.size,0,none⟩) (n+1) G) (w.drew.alloc (.cells ROW 9)):=fun ty=>by
  have h:=Lib.run_append_grow_zeros w 34 3 ty 9 i0 z .i64 .i64 Tryz.underlying34 Tryz.underlying3 hi0 (by rw[hz0,hz]) (some ⟨g,0,none⟩) i n (xs.take (i)) hold (n+1-i) (by omega) (by omega) (by omega) (by omega) (by rw[hz2];omega) (by rw[hz2,show i+(n+1-i)=n+1 by omega];exact growslice_fits (by omega) (by omega));rw[show i+(n+1-i)=n+1 by omega,←hG,←hROW]at h;rw[show((n:Int)+1-(i:Int))=((n+1-i:Nat):Int) by omega];exact h
 have hGn:n+1≤G:=by rw[hG];exact grownCap_ge w _ _ _
 have hGm:G≤maxLen:=by rw[hG];exact grownCap_le_maxLen w (n+1) n _ (by unfold maxLen;omega)
 have hzc: ∀k,(Builtin.zeroCells z.cells k).size=k:=fun k=>by simp[Builtin.zeroCells,hzs]
 have hRs:ROW.size=G:=by
  rw[hROW];simp only[ZXz,ZB8,JA,hzc,hxl];omega
 obtain⟨W1,hW1⟩: ∃W1,W1=w.drew.alloc (.cells ROW 9):=⟨_,rfl⟩;have hN1:W1.heap[w.heap.size]? =some (.cells ROW 9 (0,0)):=by rw[hW1];exact heap_alloc_new w.drew _
 have hgW:W1.heap[g]? =some (.cells cur 9 (0,0)):=by rw[hW1];exact(heap_alloc_old w.drew _ hgl).trans hgg
 have hvW:W1.heap[vb]? =some (.cells cv ev (0,0)):=by rw[hW1];exact(heap_alloc_old w.drew _ hvl).trans hvg
 have hcp1: ∀(W:World),(∀k:Nat,W.heap[k]? =W1.heap[k]?)→ ∀ty dl dc,dl=n+1-i→(Builtin.copy_ #[34,34] ty #[.slice (some ⟨w.heap.size,i,none⟩) dl dc,.slice (some ⟨vb,0,none⟩) 1 vc]).run Tryz.prog W= .ok (goInt (min ((1:Nat):Int) (dl:Int))) (W.setRow w.heap.size (ROW.toList.take (i)++ys++ROW.toList.drop (i+ys.length)).toArray):=fun W hW ty dl dc e1=>
  QZ (P:=Tryz.prog) W 34 34 ty 9 i0 1 Tryz.underlying34 hi0 hz1 w.heap.size (i) dl dc ROW (by rw[hW];exact hN1) ⟨vb,0,none⟩ 1 vc ys (by rw[hyl];omega)
   (fun j v hj=>by rw[Addr.add_lit,Yy];exact Ks (w:=W) (by rw[hW];exact hvW) (by rw[←Qp];rw[←hys,JQ]at hj;split at hj;exact hj;cases hj)) (by rw[hyl,hRs];omega) h1y
 obtain⟨R1,hR1⟩: ∃R1,R1=(ROW.toList.take (i)++ys++ROW.toList.drop (i+ys.length)).toArray:=⟨_,rfl⟩;rw[←hR1]at hcp1;have hR1s:R1.size=G:=by
  rw[hR1];simp only[ZB8,Zx,JA,KU,Kl,hyl,hRs];omega
 have hN2:(W1.setRow w.heap.size R1).heap[w.heap.size]? =some (.cells R1 9 (0,0)):=setRow_heap W1 _ ROW _ _ _ hN1;have hgW2:(W1.setRow w.heap.size R1).heap[g]? =some (.cells cur 9 (0,0)):=by rw[setRow_other W1 _ g _ (by omega)];exact hgW
 have hcp2: ∀(W:World),(∀k:Nat,W.heap[k]? =(W1.setRow w.heap.size R1).heap[k]?)→ ∀ty dl dc sl sc,dl=n-i→sl=n-i→(Builtin.copy_ #[34,34] ty #[.slice (some ⟨w.heap.size,(i+1),none⟩) dl dc,.slice (some ⟨g,i,none⟩) sl sc]).run Tryz.prog W= .ok (goInt (min (sl:Int) (dl:Int))) (W.setRow w.heap.size (R1.toList.take ((i+1))++xs.drop (i)++R1.toList.drop ((i+1)+(xs.drop (i)).length)).toArray):=fun W hW ty dl dc sl sc e1 e2=>
  QZ (P:=Tryz.prog) W 34 34 ty 9 i0 1 Tryz.underlying34 hi0 hz1 w.heap.size ((i+1)) dl dc R1 (by rw[hW];exact hN2) ⟨g,i,none⟩ sl sc (xs.drop (i)) (by rw[hdl];omega)
   (fun j v hj=>by rw[Addr.add_lit];exact Ks (w:=W) (by rw[hW];exact hgW2) (hcx _ _ (by rwa [ξV]at hj))) (by rw[hdl,hR1s];omega) (fun v hv=>h1x v (ZB7 hv))
 obtain⟨R2,hR2⟩: ∃R2,R2=(R1.toList.take ((i+1))++xs.drop (i)++R1.toList.drop ((i+1)+(xs.drop (i)).length)).toArray:=⟨_,rfl⟩;rw[←hR2]at hcp2;have hfin:R2.size=G∧R2.toList.take ((n+1))=YB xs (i) ys:=by
  constructor
  ·rw[hR2];simp only[ZB8,Zx,JA,KU,Kl,hdl,hR1s,hxl];omega
  ·obtain⟨Z,hZ⟩: ∃Z,Z=(Builtin.zeroCells z.cells (n+1-i)).toList++(Builtin.zeroCells z.cells (G-(n+1))).toList:=⟨_,rfl⟩;obtain⟨A,hA⟩: ∃A,A=xs.take (i):=⟨_,rfl⟩;have hAl:A.length=i:=by rw[hA,JA];omega
   have hROWl:ROW.toList=A++Z:=by rw[hROW,hZ,hA];simp
   have hZl:1≤Z.length:=by rw[hZ,Zx,Kl,hzc];omega
   have h:=ZNO A Z (xs.drop (i)) ys 1 hyl hZl;rw[hAl]at h;rw[hR2,hR1,hROWl,show(i+1)=i+1 from rfl];simp only[List.toList_toArray];rw[h];unfold YB;rw[←hA,ZKj (by simp only[Zx,hAl,hyl,hdl];omega),JH (by simp only[Zx,hAl,hyl,hdl];omega)]
 have hN3:((W1.setRow w.heap.size R1).drew.setRow w.heap.size R2).heap[w.heap.size]? =some (.cells R2 9 (0,0)):=setRow_heap (W1.setRow w.heap.size R1).drew _ R1 _ _ _ hN2;have hgr:w.grownBy ((W1.setRow w.heap.size R1).drew.setRow w.heap.size R2) none:=by
  refine⟨by rw[hW1];rfl,by rw[hW1];rfl,by rw[hW1];rfl,?_,fun k hk _=> ?_⟩
  ·have e1:((W1.setRow w.heap.size R1).drew.setRow w.heap.size R2).heap.size=W1.heap.size:=by simp[World.setRow,World.drew]
   rw[e1,hW1];show w.heap.size≤(w.heap.push _).size;rw[Array.size_push];omega
  ·rw[setRow_other (W1.setRow w.heap.size R1).drew _ k _ (by omega)];show(W1.setRow w.heap.size R1).heap[k]? =_;rw[setRow_other W1 _ k _ (by omega),hW1];exact heap_alloc_old w.drew _ hk
 rw[←hW1]at hrz;have HN3:=Lib.hid hN3;clear hR2 hR1 hROW hRs hG hW1 hN3;have mixed:Tryz.prog.follows Departure.mixedOrders=true:=by kernel_rfl
 have hw1:IntKind.i64.wrap ((i:Int)+1)=(i:Int)+1:=by rw[IntKind.wrap_i64];omega
 have hb1:(0:Int)≤(i:Int)+1:=by omega
 have hin:i≤n:=by omega
 have htn:((i:Int)+1).toNat=i+1:=by omega
 have hb3:(i:Int)≤(n:Int):=by omega
 have hGi: ¬(G=i):=by omega
 have hGim: ¬(G=i+1):=by omega
 have hci: ¬(n=i):=by omega
 have hzz:(n:Int)<(n:Int)+1:=by omega
 have hG63:G≤9223372036854775807:=by unfold maxLen at hGm;omega
 go_enter Tryz.func44,Tryz.ntmps44
 go_wp2_with (first
  |(at_builtin;refine Lib.wpList_append_run _ rfl _ _ _ _ rfl _ _ rfl rfl _ _ (hrz _) ?_)
  |(at_builtin;refine wpList_copy_runI _ rfl _ _ 34 34 rfl _ _ rfl rfl (hcp1 _ (fun _=>rfl) _ _ _ (by omega)) ?_))
 go_region_law_o (refine step_copy_runI rfl _ _ 34 34 rfl (.slice (some ⟨w.heap.size,(i+1),none⟩) (n-i) (G-(i+1))) (.slice (some ⟨g,i,none⟩) (n-i) (n-i)) (by simp[Act.eval,Act.put]) (by simp[Act.eval,Act.put]) (hcp2 (W1.setRow w.heap.size R1).drew (fun _=>rfl) _ _ _ _ _ rfl rfl) ?_)
 go_wp2
 go_ret
 exact⟨R2,G,rfl,HN3.out,hgr,hGn,hGm,hfin.1,hfin.2⟩
theorem ZYC(w:World)(base:Nat)(v0:Value)(n i:Nat)(xs ys:List Value)(vb vc:Nat)(cv:Array Value)(ev:TypeId)(hown:w.ownsRow base 9 1 v0 n xs)(hi:i≤n)(hn:n≤1000000)(hvg:w.heap[vb]? =some (.cells cv ev (0,0)))(hvb:v0.ownBlock≠some vb)(hys:cv.toList.take 1=ys)(hyl:ys.length=1)
  (h1x: ∀u∈xs,u.oneCell'=true) (h1y: ∀u∈ys,u.oneCell'=true) (hbase:base≤w.heap.size):
  Calls Tryz.prog 44 #[v0,.int .i64 i,.slice (some ⟨vb,0,none⟩) 1 vc] w fun e w'=> ∃v',e= .returned v'∧w'.ownsRow base 9 1 v' (n+1) (YB xs (i) ys)∧Grow w w' v0 v':=by
 have hxl:=hown.1;rw[Kr]at hxl;by_cases hin:i=n
 ·subst hin;have e:YB xs (i) ys=xs++ys:=by unfold YB;rw[JH (by omega),ZFa (by omega),Kg]
  rw[e];exact ZYH w base v0 i xs ys vb vc hown hn hyl (fun j u hj=>Ks hvg (by rw[←Qp];rw[←hys,JQ]at hj;split at hj;exact hj;cases hj)) h1y hbase
 ·rcases hown.2 with⟨_,rfl⟩|⟨g,cap,cur,rfl,hbg,hgg,hnc,hcm,hcs,htake⟩
  ·omega
  rw[Kr]at hcs htake;have hlen:(YB xs (i) ys).length=(n+1):=by unfold YB;simp only[Zx,JA,KU,hxl,hyl];omega
  by_cases hroom:n+1≤cap
  ·refine(ZSM w g cap n i cur xs ys vb vc cv ev hgg hcs htake (by omega) hn hroom (by unfold maxLen at hcm;omega) hvg (fun e=>hvb (by rw[e];rfl)) hys hyl h1x h1y).mono ?_;rintro e w' ⟨cur',rfl,rfl,h1,h2⟩;refine⟨_,rfl,⟨by rw[Kr];exact hlen,.inr ⟨g,cap,cur',rfl,hbg,setRow_heap w.drew g cur _ _ _ hgg,hroom,hcm,by rw[Kr];exact h1,by rw[Kr];exact h2⟩⟩,⟨⟨rfl,rfl,rfl,by show w.drew.heap.size≤_;simp,fun k _ hk=>setRow_other w.drew g k _ (fun q=>hk (by rw[q];rfl))⟩,.inl rfl⟩⟩
  ·refine(ZUd w g cap n i cur xs ys vb vc cv ev hgg hcs htake (by omega) hn hnc (by omega) hvg hys hyl h1x h1y).mono ?_;rintro e w' ⟨cur',G,rfl,h0,hg,h1,h2,h3,h4⟩;exact⟨_,rfl,⟨by rw[Kr];exact hlen,.inr ⟨w.heap.size,G,cur',rfl,hbase,h0,h1,h2,by rw[Kr];exact h3,by rw[Kr];exact h4⟩⟩,⟨⟨hg.os,hg.tape,hg.output,hg.size,fun k hk _=>hg.block k hk (by simp)⟩,.inr ⟨_,rfl,Zl _⟩⟩⟩
end Go.Proofs.YtiogclkbccdefaaGreatDoor
end
section
namespace Go.Ab
open Go.RowKit Go.Bo
theorem ZYu{sz i:Nat}{rs:List (List X)}{r:List X}{xs ys:List Value}{w:World}{st:Nat→Nat→Prop}(hi:i≤rs.length)(hxl:xs.length=rs.length*sz)(hyl:ys.length=1*sz)(hall: ∀r∈rs,r.length=sz)
  (h1: ∀(i:Nat) (r:List X) (j:Nat) (x:X) (v:Value),rs[i]? =some r→r[j]? =some x→xs[i*sz+j]? =some v→VX w st x v)
  (hr:r.length=sz) (h2: ∀(j:Nat) (x:X) (v:Value),r[j]? =some x→ys[j]? =some v→VX w st x v)
  (k:Nat) (q:List X) (j:Nat) (x:X) (v:Value) (hk:(YB rs i [r])[k]? =some q) (hx:q[j]? =some x) (hj:j<sz) (hv:(YB xs (i*sz) ys)[k*sz+j]? =some v):VX w st x v:=by
 have hil:i*sz≤rs.length*sz:=KB _ hi;have htl:(xs.take (i*sz)).length=(rs.take i).length*sz:=by rw[JA,JA,ZQH hi,ZQH (by omega)]
 have hA: ∀(a:Nat) (r:List X) (j:Nat) (x:X) (v:Value),(rs.take i)[a]? =some r→r[j]? =some x→(xs.take (i*sz))[a*sz+j]? =some v→VX w st x v:=fun a r j x v e1 e2 e3=>by
  rw[JQ]at e1 e3;split at e1
  ·split at e3
   ·exact h1 a r j x v e1 e2 e3
   ·cases e3
  ·cases e1
 have hB: ∀(a:Nat) (q:List X) (j:Nat) (x:X),[r][a]? =some q→q[j]? =some x→ ∃u,ys[a*sz+j]? =some u∧VX w st x u:=fun a q j x e1 e2=>by
  cases a with
  |succ a=>simp at e1
  |zero=>
   simp at e1;subst e1;have hjl:j<ys.length:=by rw[hyl,ZKd,←hr];exact(ZR e2).1
   refine⟨ys[j],by rw[ZI4,Yy];exact Zu hjl,h2 j x _ e2 (Zu hjl)⟩
 have hAB: ∀(a:Nat) (q:List X) (j:Nat) (x:X) (v:Value),(rs.take i++ [r])[a]? =some q→q[j]? =some x→(xs.take (i*sz)++ys)[a*sz+j]? =some v→VX w st x v:=fun a q j x v e1 e2 e3=>by
  refine ZCN htl hA hB a q j x v e1 e2 ?_ e3;have hq:q.length=sz:=by
   rcases KT.1 (YT e1)with h|h
   ·exact hall q (ZDO h)
   ·rw[ZBP]at h;rw[h,hr]
  rw[←hq];exact(ZR e2).1
 have hC: ∀(a:Nat) (q:List X) (j:Nat) (x:X),(rs.drop i)[a]? =some q→q[j]? =some x→ ∃u,(xs.drop (i*sz))[a*sz+j]? =some u∧VX w st x u:=fun a q j x e1 e2=>by
  rw[ξV]at e1;have hq:=hall q (YT e1);have hjl:j<sz:=by rw[←hq];exact(ZR e2).1
  have hal:i+a<rs.length:=(ZR e1).1;have hm:(i+a+1)*sz≤rs.length*sz:=KB _ (by omega);rw[JL,ZKd]at hm;have hlt:(i+a)*sz+j<xs.length:=by omega
  refine⟨xs[(i+a)*sz+j],?_,h1 (i+a) q j x _ e1 e2 (Zu hlt)⟩;rw[ξV,show i*sz+(a*sz+j)=(i+a)*sz+j by rw[JL];omega];exact Zu hlt
 exact ZCN (by simp only[Zx,htl,hyl,ZS0,JL]) hAB hC k q j x v hk hx hj hv
theorem ZIg{α:Type}(l:List α)(i:Nat)(y:List α)(h:i≤l.length):(YB l i y).length=l.length+y.length:=by
 unfold YB;simp only[Zx,JA,KU];omega
theorem ZL.ins{P:Program}{f:FuncId}{e sz:Nat}(rs:List (List X))(r:List X)(i:Nat)(hi:i≤rs.length)(hn:rs.length≤1000000)
  (hraw: ∀(w:World) (v0:Value) (n i:Nat) (xs ys:List Value) (vb vc:Nat) (cv:Array Value) (ev:TypeId),w.ownsRow 0 e sz v0 n xs→i≤n→n≤1000000→w.heap[vb]? =some (.cells cv ev (0,0))→v0.ownBlock≠some vb→cv.toList.take sz=ys→ys.length=sz→(∀u∈xs,u.oneCell'=true)→(∀u∈ys,u.oneCell'=true)→
   Calls P f #[v0,.int .i64 i,.slice (some ⟨vb,0,none⟩) 1 vc] w fun x w'=> ∃v',x= .returned v'∧w'.ownsRow 0 e sz v' (n+1) (YB xs (i*sz) ys)∧Grow w w' v0 v'):
  ZL P f [.ref 0 rs.length 0 rs.length,.x (.int .i64 i),.ref 1 1 0 1] [.rows false e sz rs,.rows false e sz [r]] (.ref 0 (rs.length+1) 0 (rs.length+1)) [.rows false e sz (YB rs i [r]),.rows false e sz [r]]:=by
 intro c E vs R hvl;obtain⟨hsz,hv⟩:=hvl;obtain⟨v0,v1,v2,rfl⟩: ∃v0 v1 v2,vs= #[v0,v1,v2]:=by
  obtain⟨vl⟩:=vs
  match vl,hsz with
  | [a,b,c],_=>exact⟨a,b,c,rfl⟩
 have h0:=hv 0 _ v0 rfl rfl;have h1:=hv 1 _ v1 rfl rfl;have h2:=hv 2 _ v2 rfl rfl;clear hv hsz;obtain rfl:v1= .int .i64 i:=by cases h1 with|x h=>cases h;rfl
 clear h1;obtain⟨os,hos⟩: ∃os,os= [Ob.rows false e sz rs,Ob.rows false e sz [r]]:=⟨_,rfl⟩;have ho:os[0]? =some (Ob.rows false e sz rs):=by rw[hos];rfl
 have ho2:os[1]? =some (Ob.rows false e sz [r]):=by rw[hos];rfl
 have hset:os.set 0 (.rows false e sz (YB rs i [r]))= [.rows false e sz (YB rs i [r]),.rows false e sz [r]]:=by rw[hos];rfl
 rw[←hset];rw[←hos]at R h0 h2;obtain⟨p,hp,hok⟩:=R.at ho;obtain⟨q,hq,hok2⟩:=R.at ho2;have hlt:0<os.length:=by rw[hos];simp
 have hat: ∀ {id:Nat} {rs:List (List X)} {v:Value} {p:Nat×Value},V E os (.ref id rs.length 0 rs.length) v→os[id]? =some (.rows false e sz rs)→E.ob[id]? =some p→v=p.2:=fun hx ho hp=>by
  obtain⟨h1,h2⟩:=hx.ref_inv.at ho rfl;obtain⟨h3,b,a0,cap,a',cap',h4,h5,h6,h7,h8,h9⟩:=h2 rfl;rw[hp]at h4;obtain⟨h10,h11⟩:=h8 rfl;rw[h10,h11]at h5;rw[h5,ZA6 h4]
 obtain rfl:=hat h0 ho hp;obtain rfl:=hat (rs:= [r]) h2 ho2 hq;obtain⟨xs,k1,k2,k3⟩:=hok;obtain⟨ys,l1,l2,l3⟩:=hok2;have hown:=k1.owns;have hrl:r.length=sz:=l2 r (by simp);rcases l1.owns.2 with⟨_,h⟩|⟨vb,vcap,cv,hq2,_,hvg,hvn,hvm,hvs,hvt⟩
 ·simp at h
 have hyl:ys.length=1*sz:=l1.1;have hx1: ∀u∈xs,u.oneCell'=true:=fun u hu=>by
  obtain⟨m,hm⟩:=ZFM.1 hu;have hml:=(ZR hm).1;rw[k1.1]at hml;have hsz0:0<sz:=by
   rcases ZNH sz with h|h
   ·subst h;simp at hml
   ·exact h
  have hmd:m/sz<rs.length:=(ZYe hsz0).2 hml;have hrr:=Zu hmd;have hrl2:=k2 _ (Yl hmd);have hmm:m % sz<(rs[m/sz]).length:=by rw[hrl2];exact Nat.mod_lt _ hsz0
  exact(k3 (m/sz) _ (m % sz) _ u hrr (Zu hmm) (by rw[ZIU,ZTj];exact hm)).one
 have hy1: ∀u∈ys,u.oneCell'=true:=fun u hu=>by
  obtain⟨m,hm⟩:=ZFM.1 hu;have hml:=(ZR hm).1;have hmm:m<r.length:=by rw[hrl];omega
  exact(l3 0 r m _ u (by simp) (Zu hmm) (by rw[ZI4,Yy];exact hm)).one
 have hdis:p.2.ownBlock≠some vb:=fun h=>by
  have:=R.dis 0 1 _ _ p q vb ho hp ho2 hq h (by show q.2.ownBlock=some vb;rw[hq2];rfl);omega
 have hraw2:=hraw E.w p.2 rs.length i xs ys vb vcap cv e hown hi hn hvg hdis (by rw[←hvt];simp) (by omega) hx1 hy1;rw[hq2];refine hraw2.mono ?_;rintro x w' ⟨v',rfl,ho',hG⟩;have hil:=ZIg rs i [r] hi;have hall: ∀q∈YB rs i [r],q.length=sz:=fun q hq=>by
  unfold YB at hq;rcases KT.1 hq with h|h
  ·rcases KT.1 h with h|h
   ·exact k2 q (ZDO h)
   ·rw[ZBP]at h;rw[h,hrl]
  ·exact k2 q (ZB7 h)
 have hrow:KA w' false e sz (YB rs i [r]).length v' (YB xs (i*sz) ys):=by rw[hil];exact KA.of_owns ho' false
 obtain⟨R',ev⟩:=R.set ho hp w' (.rows false e sz (YB rs i [r])) (p.1,v') (Kept.of_grown hG.grown) (fun b hb=>by
  have hb':v'.ownBlock=some b:=hb;rcases hG.own with h|⟨g,h,h2⟩
  ·left;show p.2.ownBlock=some b;rw[←h];exact hb'
  ·right;rw[h]at hb';cases hb';exact .inl h2) (fun sz1 n1 h=>by
   simp[Ob.sl?]at h;obtain⟨rfl,rfl⟩:=h;exact⟨(YB rs i [r]).length,rfl,.inr (by rw[hil];simp)⟩) (fun ds h=>by cases h) (fun ev=>by
   refine⟨YB xs (i*sz) ys,hrow,hall,fun k q j x v e1 e2 e3=> ?_⟩;refine VX.mono (w:=E.w) (st:=E.st) (fun b o hb=>ev.st b o hb) ?_;exact ZYu hi k1.1 hyl k2 k3 hrl (fun j x v e1 e2=>l3 0 r j x v (by simp) e1 (by rw[ZI4,Yy];exact e2)) k q j x v e1 e2 (by rw[←hall q (YT e1)];exact(ZR e2).1) e3)
 refine⟨v',_,rfl,rfl,R',by rw[←hos];exact ev,?_⟩;have hob':(E.ob.set 0 (p.1,v'))[0]? =some (p.1,v'):=by simp[R.len,hlt]
 rw[show rs.length+1=(YB rs i [r]).length by rw[hil];rfl];refine .ref ⟨.rows false e sz (YB rs i [r]),sz,(YB rs i [r]).length,by rw[ZGm hlt],rfl,?_⟩ ?_
 ·refine⟨Zl _,fun _=>⟨by omega,p.1,?_⟩⟩;rcases hrow.2 with⟨h3,h4⟩|⟨g,cap,cells,fr,h3,h4,h5,h6,h7⟩
  ·rw[hil]at h4;simp at h4
  ·subst h3;exact⟨_,cap,_,cap,hob',rfl,h5,h6,fun _=>⟨rfl,rfl⟩,fun _ ad h=>(by cases h;simp),fun h=>(by cases h),fun ad h=>(by cases h;rfl)⟩
 ·rcases hrow.2 with⟨h3,h4⟩|⟨g,cap,cells,fr,h3,h4,h5,h6,h7⟩<;>subst h3<;>rfl
end Go.Ab
namespace Go.Proofs.YtiogclkbccdefaaGreatDoor
open Go.RowKit Go.Bo Go.Ab
theorem Zc5(rs:List (List X))(r:List X)(i:Nat)(hi:i≤rs.length)(hn:rs.length≤1000000):ZL Tryz.prog 126 [.ref 0 rs.length 0 rs.length,.x (.int .i64 i),.ref 1 1 0 1] [.rows false 94 2 rs,.rows false 94 2 [r]] (.ref 0 (rs.length+1) 0 (rs.length+1)) [.rows false 94 2 (YB rs i [r]),.rows false 94 2 [r]]:=
 ZL.ins rs r i hi hn fun w v0 n i xs ys vb vc cv ev h1 h2 h3 h4 h5 h6 h7 h8 h9=>ZX4 w 0 v0 n i xs ys vb vc cv ev h1 h2 h3 h4 h5 h6 h7 h8 h9 (Je _)
end Go.Proofs.YtiogclkbccdefaaGreatDoor
end
section
namespace Go.Proofs.YtiogclkbccdefaaGreatDoor
open Go.RowKit Go.Bo Go.Ab
def QT(c:UInt8):UInt8:=if 65≤c.toNat∧c.toNat≤90 then UInt8.ofNat (c.toNat+32)else c
theorem ZMe{c:UInt8}(h:65≤c.toNat∧c.toNat≤90):((QT c).toNat:Int)=(c.toNat:Int)-65+97:=by
 unfold QT;rw[if_pos h];simp;omega
def ZF(s:List UInt8):List UInt8:=s.map QT
def ZAW(s:List UInt8)(i:Nat):List UInt8:=(s.take i).map QT++s.drop i
theorem ZIP(s:List UInt8)(i:Nat):(ZAW s i).length=s.length:=by simp[ZAW];omega
theorem ZUq(s:List UInt8):ZAW s 0=s:=by simp[ZAW]
theorem ZWm(s:List UInt8)(i:Nat)(h:s.length≤i):ZAW s i=ZF s:=by simp[ZAW,ZF,JH h,ZFa h]
theorem ZX0(s:List UInt8)(i:Nat)(h:i<s.length):(ZAW s i)[i]'(by rw[ZIP];exact h)=s[i]:=by
 simp[ZAW,List.getElem_append,ZQH (Nat.le_of_lt h)]
theorem ZZE(s:List UInt8)(i:Nat)(h:i<s.length)(c:UInt8)(hc:c=QT s[i]):(ZAW s i).set i c=ZAW s (i+1):=by
 subst hc;unfold ZAW;rw[Ko h,ZFd h,ZDD _ _ (by simp;omega)];have hm:i-((s.take i).map QT).length=0:=by simp;omega
 rw[hm,ZCk,KC,Yk];rfl
theorem ZXB(s:List UInt8)(i:Nat)(h:i<s.length):((ZAW s i).map Zk)[i]? =some [X.int .u8 s[i].toNat]:=by
 have h2:i<(ZAW s i).length:=by rw[ZIP];exact h
 rw[Zw,Zu h2,ZX0 s i h];rfl
theorem ZWS(s:List UInt8)(i:Nat)(h:i<s.length)(hc:65≤s[i].toNat∧s[i].toNat≤90):((ZAW s i).map Zk).set i [X.int .u8 (IntKind.u8.wrap (IntKind.u8.wrap ((s[i].toNat:Int)-65)+97))]=(ZAW s (i+1)).map Zk:=by
 have e1:IntKind.u8.wrap ((s[i].toNat:Int)-65)=(s[i].toNat:Int)-65:=IntWalk.u8_in _ (by omega);have e2:IntKind.u8.wrap ((s[i].toNat:Int)-65+97)=((QT s[i]).toNat:Int):=by rw[IntWalk.u8_in _ (by omega),ZMe hc]
 rw[e1,e2,←ZZE s i h _ rfl,ZLA];rfl
theorem ZVt(s:List UInt8)(i:Nat)(h:i<s.length)(hc:QT s[i]=s[i]):ZAW s i=ZAW s (i+1):=by
 unfold ZAW;rw[Ko h,KC,Yk,ZFd h];simp[hc]
theorem ZRJ{c:UInt8}(h: ¬(65≤c.toNat∧c.toNat≤90)):QT c=c:=if_neg h
theorem ZMw(s:List UInt8)(hl:s.length≤140737488355328):ZD Tryz.prog 63 [.x (.str s)] (.x (.str (ZF s))):=by
 refine ZG.pure (fC 63 true ?_) rfl;intro C0 E0;have uu:=Jz @ZIP @Qa @Ky;have tT:=(ZE:SsOk Tryz.prog ZQ);refine nz ?_;refine rg tT [0] ?_;refine rg tT [3] ?_;refine rg tT [3,8,9,10] ?_;refine WI.loop (fun φ os=> ∃(i:Nat),φ= [(3,.ref 0 s.length 0 s.length),(8,.ref 0 s.length 0 s.length),(9,.x (.int .i64 s.length)),(10,.x (.int .i64 i))]∧os= [.rows true 5 1 ((ZAW s i).map Zk)]∧i≤s.length) (ZX s.length 10) ?_ (fun φ os hI=> ?_)
 ·exact⟨0,rfl,by rw[ZUq],by omega⟩
 ·obtain⟨i,rfl,rfl,hi⟩:=hI;refine nz ?_;refine rg tT [3,8,9,10,11] ?_;refine cd (fun h0=> ?_) (fun h0=> ?_)
  ·have hi4:i<s.length:=by omega
   have uu:=Yq uu (ZXB s i hi4);have hb8:s[i].toNat<256:=ZMm _;refine rg tT [3,4,5,8,9,10] ?_;refine rg tT [3,4,5,8,9,10,20] ?_;refine cd (fun h1=> ?_) (fun h1=> ?_)
   ·have hcs:65≤s[i].toNat∧s[i].toNat≤90:=by omega
    have uu:=Yq uu (ZWS s i hi4 hcs);refine rg tT [3,8,9,10] ?_;refine rg tT [3,8,9,10] ?_;exact⟨⟨i+1,by first|rfl|simp,by first|rfl|rw[←hset],by omega⟩,by simp[ZX,Ab.get,D.val,ZH];omega⟩
   ·have hcs: ¬(65≤s[i].toNat∧s[i].toNat≤90):=by omega
    have hset:=ZVt s i hi4 (ZRJ hcs);refine rg tT [3,8,9,10] ?_;exact⟨⟨i+1,by first|rfl|simp,by first|rfl|rw[←hset],by omega⟩,by simp[ZX,Ab.get,D.val,ZH];omega⟩
  ·have e8:((ZAW s i).map Zk).take s.length=(ZF s).map Zk:=by rw[JH (by simp[ZIP]),ZWm s i (by omega)]
   have uu:=Yq uu e8;refine rg tT [2] ?_;refine lf ?_
   first|rfl|exact⟨rfl,rfl⟩|trivial
def ZAx:List D→Option (Bool×D)
 | [.x (.str s)]=>some (decide (s.length≤1000000),.x (.str (ZF s)))
 |_=>none
theorem ZNP: ∀args r,ZAx args=some (true,r)→ZD Tryz.prog 63 args r:=by
 intro args r h;unfold ZAx at h;split at h
 ·rename_i s;simp only[Ze,Za,ZS,Zi,true_and]at h;obtain⟨h1,rfl⟩:=h;exact(ZMw s (by omega))
 ·cases h
end Go.Proofs.YtiogclkbccdefaaGreatDoor
end
section
namespace Go.Proofs.YtiogclkbccdefaaGreatDoor
open Go.RowKit Go.Bo Go.Ab
theorem ZHW(s:List UInt8):(ZF s).length=s.length:=by simp[ZF]
theorem QU(l:List UInt8)(c:UInt8):(l++ [c]).map Zk=l.map Zk++ [[X.int .u8 c.toNat]]:=by rw[KC];rfl
abbrev Tx:=List UInt8
end Go.Proofs.YtiogclkbccdefaaGreatDoor
end
section
namespace Go.Proofs
open Go.Shelf Go.RowKit Go.Lib
set_option maxHeartbeats 1000000 in
theorem Any1.strings_Split_one{P:Program}{ρ:Ren}(L:Lays.n146 P ρ)(hi9:(P.info? (ρ.t 9)).map (fun i=>(i.zero,i.size,i.bytes))=some (some (.string ByteArray.empty),1,16))(s:ByteArray)(b:UInt8)(w:World)(hs:s.size<4294967281):
  Calls P (ρ.f 146) #[.string s,.string ⟨#[b]⟩] w fun e w'=>
   e= .returned (.slice (some ⟨w.heap.size,0,none⟩) (Lib.countB s ⟨#[b]⟩+1) (Lib.countB s ⟨#[b]⟩+1))∧w'=w.alloc (.cells ((Lib.splitB ⟨#[b]⟩ 0 (Lib.countB s ⟨#[b]⟩) s).map Value.string).toArray (ρ.t 9)):=by
 have h1:1≤(⟨#[b]⟩:ByteArray).size:=Zl _;have hle:=Lib.countB_le ⟨#[b]⟩ h1 s.size s (Zl _);have hlen:=Lib.splitB_all ⟨#[b]⟩ h1 0 _ s rfl;have hI: ∀(x:ByteArray) (c:Array Value),x.size≤s.size→Calls P (ρ.f 143) #[.string x,.string ⟨#[b]⟩] (w.alloc (.cells c (ρ.t 9))) fun e w'=>e= .returned (.int .i64 (Lib.indexB x ⟨#[b]⟩))∧w'=w.alloc (.cells c (ρ.t 9)):=fun x c hx=>by
  refine(Any.strings_Index_one {L with} x b _).mono fun e w' ⟨he,hw⟩=>⟨?_,hw⟩
  rw[he,Lib.indexB,Lib.index_one]
 have hC:Calls P (ρ.f 138) #[.string s,.string ⟨#[b]⟩] w fun e w'=>e= .returned (.int .i64 (Lib.countB s ⟨#[b]⟩))∧w'=w:=by
  refine(Any.strings_Count_one {L with} s b w).mono fun e w' ⟨he,hw⟩=>⟨?_,hw⟩
  rw[he];show _=Ending.returned (Value.int .i64 ((Lib.count s.data.toList [b]:Nat):Int));rw[Lib.count_one];rfl
 have c:=Any.strings_genSplit_core {L with} hi9 s ⟨#[b]⟩ 0 (-1) (Lib.countB s ⟨#[b]⟩+1) w hs h1 (Je _) hI hC (by decide) (by decide) (by rw[if_pos (by decide)];omega);rw[Nat.add_sub_cancel,hlen]at c;have e2:Lib.cellsOf (Lib.splitB ⟨#[b]⟩ 0 (Lib.countB s ⟨#[b]⟩) s) (Lib.countB s ⟨#[b]⟩+1)=((Lib.splitB ⟨#[b]⟩ 0 (Lib.countB s ⟨#[b]⟩) s).map Value.string).toArray:=by rw[←hlen];exact Lib.cellsOf_full _
 rw[e2]at c;have t3:=L.t3;have t9:=L.t9;have t31:=L.t31;have a3:=L.a3;have a9:=L.a9;have a31:=L.a31;have z3:=L.z3;have v3:=L.v3;have z9:=L.z9;have v9:=L.v9;have z31:=L.z31;have v31:=L.v31;have e221: ∀args w,(callFunc (ρ.f 221) args).run P w= .ok (.enter (ρ.f 221) args) w:=enters_of L.f221 (by kernel_rfl) rfl
 go_enter L.f146,Body.n146_ntmps ρ
 go_wp2_with (go_at_fn (ρ.f 221);refine c.mono ?_;rintro e w' ⟨rfl,hw⟩;rw[hw])
 go_ret
 exact⟨rfl,rfl⟩
end Go.Proofs
namespace Go.Proofs.YtiogclkbccdefaaGreatDoor
open Go.RowKit Go.Bo Go.Ab
def QQ(c:UInt8):List UInt8→List (List UInt8)
 | []=> [[]]
 |b::l=>if b=c then []::QQ c l else match QQ c l with
  |x::r=>(b::x)::r
  | []=> [[b]]
theorem Zcg(c:UInt8): ∀s,QQ c s≠ []
 | []=>by simp[QQ]
 |b::l=>by unfold QQ;split;simp;split<;>simp
theorem ZaK(c b:UInt8)(l:List UInt8)(h:b≠c): ∀k,Lib.splitK [c] 0 k (b::l)=match Lib.splitK [c] 0 k l with
  |x::r=>(b::x)::r
  | []=> [[b]]
 |0=>rfl
 |k+1=>by
  have hp: [c].isPrefixOf (b::l)=false:=by simp[List.isPrefixOf];exact fun e=>h e.symm
  simp only[Lib.splitK,Lib.index,hp,Yt,if_false];by_cases hi:(Lib.index l [c]== -1)=true
  ·simp[hi]
  ·have hn:=Lib.index_ge l [c];simp only[hi,Yt,if_false];simp at hi;have h1:(Lib.index l [c]+1== -1)=false:=by simp;omega
   obtain⟨n,hn⟩: ∃n:Nat,Lib.index l [c]=n:=⟨(Lib.index l [c]).toNat,by omega⟩;simp[hn,h1];intro h;omega
theorem ZUp(c:UInt8): ∀s,Lib.splitK [c] 0 (Lib.count s [c]) s=QQ c s
 | []=>by
  have:Lib.count [] [c]=0:=by rw[Lib.count_one];rfl
  rw[this];rfl
 |b::l=>by
  have ih:=ZUp c l;by_cases h:b=c
  ·subst h;rw[Lib.count_cons_eq,ZM0];have hp: [b].isPrefixOf (b::l)=true:=by simp[List.isPrefixOf]
   simp only[Lib.splitK,Lib.index,hp,if_true,QQ];simp[ih]
  ·rw[Lib.count_cons_ne _ _ _ h,ZaK _ _ _ h,ih,QQ,if_neg h]
theorem ZaB(s:List UInt8)(c:UInt8)(h:s.length≤1000000):ZD Tryz.prog 189 [.x (.str s),.x (.str [c])] (.x (.sl (rows ZB (QQ c s)))):=by
 intro w st vs hst hvl;obtain⟨hsz,hv⟩:=hvl;obtain⟨v0,v1,rfl⟩: ∃v0 v1,vs= #[v0,v1]:=by
  obtain⟨vl⟩:=vs
  match vl,hsz with
  | [a,b],_=>exact⟨a,b,rfl⟩
 have h0:=hv 0 _ v0 rfl rfl;have h1:=hv 1 _ v1 rfl rfl;clear hv hsz;cases h0 with
 |x h0=>
 cases h1 with
 |x h1=>
 cases h1 with
 |str _=>
 cases h0 with
 |str _=>
 have hlen:=Lib.splitB_all ⟨#[c]⟩ (Zl _) 0 _ (ZN s) rfl;have hD:(Lib.splitB ⟨#[c]⟩ 0 (Lib.countB (ZN s) ⟨#[c]⟩) (ZN s)).map (·.data.toList)=QQ c s:=by
  rw[Lib.splitB_data];have e:(ZN s).data.toList=s:=by simp[ZN]
  show Lib.splitK [c] 0 (Lib.count (ZN s).data.toList [c]) (ZN s).data.toList=_;rw[e];exact ZUp c s
 have hle:=Lib.countB_le ⟨#[c]⟩ (Zl _) (ZN s).size (ZN s) (Zl _);have hbs:(ZN s).size=s.length:=by simp[ZN,ByteArray.size]
 refine(Any1.strings_Split_one Tryz.lays146 (by kernel_rfl) (ZN s) c w (by omega)).mono ?_;generalize Lib.splitB ⟨#[c]⟩ 0 (Lib.countB (ZN s) ⟨#[c]⟩) (ZN s)=ps at hlen hD⊢;generalize Lib.countB (ZN s) ⟨#[c]⟩=k at hlen hle⊢;rintro e w' ⟨rfl,rfl⟩;refine⟨_,fun b o=>st b o∨(b=w.heap.size∧o<k+1),rfl,?_,fun _ _ h=> .inl h,?_,?_⟩
 ·exact Jf w _
 ·rintro b o (h|⟨rfl,h⟩)
  ·exact .inl h
  ·exact .inr ⟨Zl _,by simp⟩
 ·rw[←hD];refine .x (.sl _ _ _ _ 1 (fun i _=> .string (ps[i]?.getD default)) ?_ (Zl _) ?_ ?_ ?_ (fun h=>by cases h) (fun _ ad h=>by cases h;rfl) ?_)
  ·rw[Zo,Yf];exact hlen
  ·show k+1≤maxLen;simp only[maxLen];omega
  ·intro r hr;simp only[rows,YW]at hr;obtain⟨x,_,rfl⟩:=hr;rfl
  ·intro i j hi hj;have hj0:j=0:=by omega
   subst hj0;refine⟨_,_,rfl,.inr ⟨rfl,by omega⟩,?_⟩;have hip:i<ps.length:=by omega
   rw[show 0+i*1+0=i by omega,World.cell?_alloc_at _ _ _ _ rfl];simp only[List.getElem?_toArray,Zw,Zu hip,YS,Qe]
  ·intro i j r x hr hx;simp only[rows,Zw,Option.map_map,Qt]at hr;obtain⟨y,hy,rfl⟩:=hr;simp only[Function.comp,ZB,RC.enc]at hx;rcases j with _|j
   ·simp at hx;subst hx;simp only[hy,Qe];have:y=ZN y.data.toList:=by simp[ZN]
    conv=>rhs;rw[this]
    exact .str _
   ·simp at hx
theorem ZO2:Go.Ab.Enters Tryz.prog 189:=Go.Proofs.enters_of Tryz.lays146.f146 (by kernel_rfl) rfl
theorem ZOt(l:List (List UInt8)):(l.map ZN).map (·.data.toList)=l:=by
 rw[Jq]
 conv=>rhs;rw[←ZM2 l]
 exact ZB4 fun x _=>by simp[ZN]
theorem Zcs(l:List (List UInt8))(sep:List UInt8)(h:(Lib.join l sep).length≤140737488355328)(hl:l.length≤140737488355328):ZD Tryz.prog 77 [.x (.sl (rows ZB l)),.x (.str sep)] (.x (.str (Lib.join l sep))):=by
 intro w st vs hst hvl;obtain⟨hsz,hv⟩:=hvl;obtain⟨v0,v1,rfl⟩: ∃v0 v1,vs= #[v0,v1]:=by
  obtain⟨vl⟩:=vs
  match vl,hsz with
  | [a,b],_=>exact⟨a,b,rfl⟩
 have h0:=hv 0 _ v0 rfl rfl;have h1:=hv 1 _ v1 rfl rfl;clear hv hsz;cases h0 with
 |x h0=>
 cases h1 with
 |x h1=>
 cases h1 with
 |str _=>
 cases h0 with
 |sl _ a n c sz val hn hc hm hsz hcell hnil hsp hval=>
  rw[Zo]at hn;subst hn
  match l,h,hl,hc,hsz,hcell,hval with
  | [],_,_,_,_,_,_=>
   refine(Tryz.strings_Join_none a c (ZN sep) w).mono ?_;rintro e w' ⟨rfl,rfl⟩;exact⟨_,st,rfl,Kept.refl _ _,fun _ _ h=>h,fun _ _ h=> .inl h,.x (.str [])⟩
  |x::r,h,hl,hc,hsz,hcell,hval=>
   obtain rfl:1=sz:=hsz [.str x] (by simp[rows,ZB]);obtain⟨b,off,rfl,hs0,_⟩:=hcell 0 0 (by simp) (by omega);have hcells: ∀(j:Nat) y,((x::r).map ZN)[j]? =some y→w.cell? ⟨b,off+j,none⟩=some (.string y):=by
    intro j y hy;rw[Zw]at hy;obtain⟨z,hz,rfl⟩:=ZT hy;have hj:j<(x::r).length:=(ZR hz).1;obtain⟨b',off',e,_,hw⟩:=hcell j 0 hj (by omega);simp only[Ze,Addr.mk.injEq]at e;obtain⟨rfl,rfl,_⟩:=e;have hx:=hval j 0 [.str z] (.str z) (by simp only[rows,Zw,hz];rfl) rfl;rw[show off+j=off+j*1+0 by omega,hw];generalize val j 0=u at hx;cases hx with
    |str _=>rfl
   have hlen:(Lib.join (((x::r).map ZN).map (·.data.toList)) (ZN sep).data.toList).length≤140737488355328:=by
    rw[ZOt];simpa[ZN]using h
   have hc':((x::r).map ZN).length≤c:=by rw[Yf];exact hc
   have:=Tryz.strings_Join b off c ((x::r).map ZN) (ZN sep) w hcells (hst _ _ hs0) (by rw[Yf];exact hl) hc' hlen;rw[Yf,ZOt]at this;refine this.mono ?_;rintro e w' ⟨rfl,hb⟩;refine⟨_,st,rfl,Kept.of_none (Kt.grown hb none),fun _ _ h=>h,fun _ _ h=> .inl h,?_⟩;have:(ZN sep).data.toList=sep:=by simp[ZN]
   rw[this];exact .x (.str _)
theorem ZD9:Go.Ab.Enters Tryz.prog 77:=Go.Proofs.enters_of Tryz.lays156.f156 (by kernel_rfl) rfl
end Go.Proofs.YtiogclkbccdefaaGreatDoor
end
section
namespace Go.Proofs.YtiogclkbccdefaaGreatDoor
open Go.RowKit Go.Bo Go.Ab
theorem ZPP(s:List UInt8)(i:Nat)(h:i<s.length):(ZN s).get! i=s[i]:=by
 show(ZN s).data[i]! =_;simp[ZN,h]
theorem ZLL{s:List UInt8}{i:Nat}(h:i<s.length)(hb:s[i].toNat<128):Kb s i=(s[i].toNat,1):=by
 unfold Kb;rw[Lib.decode_at,ZPP s i h];unfold Lib.decodeN;rw[if_pos hb]
theorem ZQ3{s:List UInt8}{i:Nat}(h:i<s.length)(hb: ¬s[i].toNat<128):128≤(Kb s i).1∧1≤(Kb s i).2:=by
 unfold Kb;rw[Lib.decode_at,ZPP s i h];rcases Lib.decodeN_shape ((ZN s).size-i) s[i].toNat ((ZN s).get! (i+1)).toNat ((ZN s).get! (i+2)).toNat ((ZN s).get! (i+3)).toNat with⟨h1,_⟩|⟨_,_,_,h1,h2⟩|⟨_,_,_,_,h1,_,h2⟩|⟨_,_,_,_,_,h1,_,h2⟩|h2
 ·omega
 all_goals(rw[h2];simp only;omega)
theorem Zbh(s p:List UInt8):ZD Tryz.prog 201 [.x (.str s),.x (.str p)] (.tup [.x (.str (Lib.trimPrefix s p)),.x (.bool (Lib.hasPrefix s p))]):=by
 intro w st vs hst hvl;obtain⟨hsz,hv⟩:=hvl;obtain⟨v0,v1,rfl⟩: ∃v0 v1,vs= #[v0,v1]:=by
  obtain⟨vl⟩:=vs
  match vl,hsz with
  | [a,b],_=>exact⟨a,b,rfl⟩
 have h0:=hv 0 _ v0 rfl rfl;have h1:=hv 1 _ v1 rfl rfl;cases h0 with
 |x h0=>
 cases h1 with
 |x h1=>
 cases h1 with
 |str _=>
 cases h0 with
 |str _=>
 refine(Tryz.strings_CutPrefix (ZN s) (ZN p) w).mono ?_;rintro e w' ⟨rfl,rfl⟩;refine⟨_,st,rfl,Kept.refl _ _,fun _ _ h=>h,fun _ _ h=> .inl h,?_⟩;have e1:(ZN s).data.toList=s:=by simp[ZN]
 have e2:(ZN p).data.toList=p:=by simp[ZN]
 rw[e1,e2];exact V.tup2 (V.mkstr _ _ _) _
theorem ZGs:Go.Ab.Enters Tryz.prog 201:=Go.Proofs.enters_of Tryz.lays103.f103 (by kernel_rfl) rfl
def ZAP:List D→Option (Bool×D)
 | [.x (.str s),.x (.str p)]=>some (true,.tup [.x (.str (Lib.trimPrefix s p)),.x (.bool (Lib.hasPrefix s p))])
 |_=>none
theorem ZK3: ∀args r,ZAP args=some (true,r)→ZD Tryz.prog 201 args r:=by
 intro args r h;unfold ZAP at h;split at h
 ·rename_i s p;simp only[Ze,Za,ZS,Zi,true_and]at h;obtain rfl:=h;exact(Zbh s p)
 ·cases h
def Qn:List D→Option (Bool×D)
 | [.x (.sl R),.x (.str sep)]=>(ZY ZB R).bind fun l=>some (decide ((Lib.join l sep).length≤140737488355328∧l.length≤140737488355328),.x (.str (Lib.join l sep)))
 |_=>none
theorem ZF3: ∀args r,Qn args=some (true,r)→ZD Tryz.prog 77 args r:=by
 intro args r h;unfold Qn at h;split at h
 ·rename_i R sep;obtain⟨l,hr0,h⟩:=Zv h;simp only[Ze,Za,ZS,Zi,true_and]at h;obtain⟨h1,rfl⟩:=h;rw[←Zb ZO hr0];exact(Zcs l sep h1.1 h1.2)
 ·cases h
def ZHM:List D→Option (Bool×D)
 | [.x (.str s),.x (.str [c])]=>some (decide (s.length≤1000000),.x (.sl (rows ZB (QQ c s))))
 |_=>none
theorem ZUD: ∀args r,ZHM args=some (true,r)→ZD Tryz.prog 189 args r:=by
 intro args r h;unfold ZHM at h;split at h
 ·rename_i s c;simp only[Ze,Za,ZS,Zi,true_and]at h;obtain⟨h1,rfl⟩:=h;exact(ZaB s c h1)
 ·cases h
def ZDG(s:List UInt8):List (List UInt8):=(QQ 32 s).filter fun x=>decide (x≠ [])
def jn:List (List UInt8)→List UInt8
 | []=> []
 | [x]=>x
 |x::y::r=>x++32::jn (y::r)
theorem ZMy: ∀l,Lib.join l [32]=jn l
 | []=>rfl
 | [x]=>by rw[Lib.join_one];rfl
 |x::y::r=>by
  have:=ZMy (y::r);simp only[Lib.join,List.intercalate,List.intersperse_cons_cons,ZO9,jn]at this⊢;rw[this];rfl
def wt(l:List (List UInt8)):Nat:=(l.map fun x=>x.length+1).sum
theorem ZZM: ∀l:List (List UInt8),l≠ []→(jn l).length+1=wt l
 | [x],_=>by simp[jn,wt]
 |x::y::r,_=>by
  have:=ZZM (y::r) (by simp);show(x++32::jn (y::r)).length+1=(x.length+1)+wt (y::r);rw[Zx,JJ];omega
theorem ZQb(c:UInt8): ∀s,wt (QQ c s)=s.length+1
 | []=>rfl
 |b::l=>by
  have ih:=ZQb c l;unfold QQ;split
  ·show(0+1)+wt (QQ c l)=_;rw[ih,JJ];omega
  ·split
   ·rename_i y r he;rw[he]at ih;have e:wt (y::r)=(y.length+1)+wt r:=rfl;have e2:wt ((b::y)::r)=(y.length+1+1)+wt r:=rfl;rw[JJ];omega
   ·rename_i he;exact absurd he (Zcg c l)
theorem ZNR(p:List UInt8→Bool): ∀l,wt (l.filter p)≤wt l
 | []=>Zl _
 |x::l=>by
  have:=ZNR p l;have e:wt (x::l)=(x.length+1)+wt l:=rfl;rw[ZMj];split
  ·have e:wt (x::l.filter p)=(x.length+1)+wt (l.filter p):=rfl;omega
  ·omega
theorem ZVG: ∀l:List (List UInt8),l.length≤wt l
 | []=>Zl _
 |x::l=>by
  have:=ZVG l;have e:wt (x::l)=(x.length+1)+wt l:=rfl;rw[JJ];omega
theorem ZRH(c:UInt8)(s:List UInt8):(QQ c s).length≤s.length+1:=by have:=ZVG (QQ c s);rw[ZQb]at this;exact this
theorem ZUM(s:List UInt8):(ZDG s).length≤s.length+1:=ZJK (ZWX _ _) (ZRH 32 s)
theorem ZRG(s:List UInt8):(jn (ZDG s)).length≤s.length:=by
 by_cases h:ZDG s= []
 ·rw[h];simp[jn]
 ·have h1:=ZZM _ h;have h2:wt (ZDG s)≤_:=ZNR _ _;rw[ZQb]at h2;omega
def blk(s:List UInt8):List UInt8:=jn (ZDG s)
theorem ZKX(x:List UInt8)(l:List (List UInt8))(p:List UInt8→Bool):(l++ [x]).filter p=if p x then l.filter p++ [x]else l.filter p:=by
 rw[List.filter_append,ZMj,List.filter_nil];split<;>simp
def ZFn:Tabs:=ZW (ZW (Jc (ZW (ZQ) 77 Qn) 77 (ZAK Qn)) 189 ZHM) 201 ZAP
theorem ZVE:SsOk Tryz.prog ZFn:=ZJ (ZJ (Ys (ZJ (ZE) ZD9 ZF3) ZD9 (ZDm ZF3)) ZO2 ZUD) ZGs ZK3
theorem ZX5:(∀a,ZFn.q 77 a=Qn a)∧(∀a o,ZFn.t 77 a o=Ym (ZAK Qn) a o)∧(∀a,ZFn.q 189 a=ZHM a)∧(∀a,ZFn.q 201 a=ZAP a)∧(∀f a o,ZFn.r f a o=none)∧(∀f a o,ZFn.k f a o=none):=⟨fun _=>rfl,fun _ _=>rfl,fun _=>rfl,fun _=>rfl,fun _ _ _=>rfl,fun _ _ _=>rfl⟩
theorem ZQf(s:List UInt8)(hl:s.length≤1000000):ZD Tryz.prog 174 [.x (.str s)] (.x (.str (blk s))):=by
 have hsl:=ZRH 32 s;refine ZG.pure (fC 174 true ?_) rfl;intro C0 E0;have uu:=ξ8 @Qn.eq_1 @Qn.eq_2 @ZHM.eq_1 @ZHM.eq_2 @ZX5 @ZAP.eq_1 @ZAP.eq_2 @ZAK.eq_1;have tT:=ZVE;refine nz ?_;refine WI.regB tT [0] ?_;refine oS ?_;refine oN ?_;refine nz ?_;refine WI.regB tT [0,3] ?_;refine oS ?_;refine oN ?_;refine nz ?_;refine WI.regB tT [3,7,8,9] ?_;refine oS ?_;refine oC (hok:=by first|exact se|(rw[JH (Zl _)];exact Zc ⟨hoj2,by omega⟩)|exact sd) ?_;refine oG (hok:=by first|exact se|(rw[JH (Zl _)];exact Zc ⟨hoj2,by omega⟩)|exact sd) ?_;refine oS ?_;refine oN ?_;refine nz ?_;refine WI.ownA 3 9 1 ?_;refine WI.loop (fun φ os=> ∃(j:Nat) (o:List (List UInt8)),φ= [(3,.ref 0 o.length 0 o.length),(7,.x (.sl (rows ZB (QQ 32 s)))),(8,.x (.int .i64 (QQ 32 s).length)),(9,.x (.int .i64 j))]∧os= [.rows false 9 1 (rows ZB o)]∧j≤(QQ 32 s).length∧o=((QQ 32 s).take j).filter (fun x=>decide (x≠ []))∧o.length≤j) (ZX (QQ 32 s).length 9) ?_ (fun φ os hI=> ?_)
 ·exact⟨0,[],rfl,rfl,by omega,rfl,by simp⟩
 ·obtain⟨j,o,rfl,rfl,hj,ho,hoj⟩:=hI;refine nz ?_;refine WI.regB tT [3,7,8,9,10] ?_;refine oG (hok:=by first|exact se|(rw[JH (Zl _)];exact Zc ⟨hoj2,by omega⟩)|exact sd) ?_;refine oN ?_;refine nz ?_;refine cd (fun h0=> ?_) (fun h0=> ?_)
  ·have hj4:j<(QQ 32 s).length:=by omega
   refine WI.regB tT [3,5,7,8,9] ?_
   iterate 2 refine oG (hok:=by first|exact se|(rw[JH (Zl _)];exact Zc ⟨hoj2,by omega⟩)|exact sd) ?_
   refine oS ?_;refine oN ?_;refine nz ?_;refine WI.regB tT [3,5,7,8,9,14] ?_;refine oS ?_;refine oG (hok:=by first|exact se|(rw[JH (Zl _)];exact Zc ⟨hoj2,by omega⟩)|exact sd) ?_;refine oN ?_;refine nz ?_;refine cd (fun h1=> ?_) (fun h1=> ?_)
   ·have ho2:o++ [(QQ 32 s)[j]]=((QQ 32 s).take (j+1)).filter (fun x=>decide (x≠ [])):=by rw[Ko hj4,ZKX,←ho,if_pos (by simpa using h1)]
    refine WI.post ?_;refine WI.regB tT [3,7,8,9] ?_
    iterate 2 refine oS ?_
    iterate 2 refine oG (hok:=by first|exact se|(rw[JH (Zl _)];exact Zc ⟨hoj2,by omega⟩)|exact sd) ?_
    refine oS ?_;refine oP ?_;refine Qm [0] ?_;refine ZAL ?_;refine nz ?_;refine WI.regB tT [3,7,8,9] ?_;refine oG (hok:=by first|exact se|(rw[JH (Zl _)];exact Zc ⟨hoj2,by omega⟩)|exact sd) ?_;refine oS ?_;refine oN ?_;refine nz ?_
    first|exact⟨⟨j+1,o++ [(QQ 32 s)[j]],by first|rfl|simp,by rw[←ZP2],by omega,ho2,by simp;omega⟩,by simp[ZX,Ab.get,D.val,ZH];omega⟩|exact⟨⟨j+1,o,by first|rfl|simp,rfl,by omega,ho2,by omega⟩,by simp[ZX,Ab.get,D.val,ZH];omega⟩
   ·have ho2:o=((QQ 32 s).take (j+1)).filter (fun x=>decide (x≠ [])):=by rw[Ko hj4,ZKX,←ho,if_neg (by simpa using h1)]
    refine WI.regB tT [3,7,8,9] ?_;refine oG (hok:=by first|exact se|(rw[JH (Zl _)];exact Zc ⟨hoj2,by omega⟩)|exact sd) ?_;refine oS ?_;refine oN ?_;refine nz ?_
    first|exact⟨⟨j+1,o++ [(QQ 32 s)[j]],by first|rfl|simp,by rw[←ZP2],by omega,ho2,by simp;omega⟩,by simp[ZX,Ab.get,D.val,ZH];omega⟩|exact⟨⟨j+1,o,by first|rfl|simp,rfl,by omega,ho2,by omega⟩,by simp[ZX,Ab.get,D.val,ZH];omega⟩
  ·have hoe:o=ZDG s:=by rw[ho,JH (by omega)];rfl
   have hwl:=ZUM s;have hoj2:(Lib.join o [32]).length≤140737488355328:=by rw[hoe,ZMy];have:=ZRG s;omega
   refine WI.regB tT [2] ?_;refine oS ?_;refine oC (hok:=by first|exact se|(rw[JH (Zl _)];exact Zc ⟨hoj2,by omega⟩)|exact sd) ?_;refine oS ?_;refine oN ?_;refine nz ?_;refine lf ?_;rw[hoe,ZMy];rfl
def ZE6:List D→Option (Bool×D)
 | [.x (.str s)]=>some (decide (s.length≤1000000),.x (.str (blk s)))
 |_=>none
theorem ZTl: ∀args r,ZE6 args=some (true,r)→ZD Tryz.prog 174 args r:=by
 intro args r h;unfold ZE6 at h;split at h
 ·rename_i s;simp only[Ze,Za,ZS,Zi,true_and]at h;obtain⟨h1,rfl⟩:=h;exact(ZQf s h1)
 ·cases h
def ZHN:Tabs:=ZW (ZW (ZW (ZQ) 63 ZAx) 174 ZE6) 201 ZAP
theorem ZVu:SsOk Tryz.prog ZHN:=ZJ (ZJ (ZJ (ZE) (ZZ 63) ZNP) (ZZ 174) ZTl) ZGs ZK3
theorem ZW8:(∀a,ZHN.q 63 a=ZAx a)∧(∀a,ZHN.q 174 a=ZE6 a)∧(∀a,ZHN.q 201 a=ZAP a)∧(∀f a o,ZHN.r f a o=none)∧(∀f a o,ZHN.k f a o=none):=⟨fun _=>rfl,fun _=>rfl,fun _=>rfl,fun _ _ _=>rfl,fun _ _ _=>rfl⟩
def fld(s:List UInt8):List UInt8:=ZF (blk s)
theorem Zb0(s:List UInt8)(hl:s.length≤1000000):ZD Tryz.prog 141 [.x (.str s)] (.x (.str (fld s))):=by
 have hb:(blk s).length≤s.length:=ZRG s;refine ZG.pure (fC 141 true ?_) rfl;intro C0 E0;have uu:=ξ7 @ZAx.eq_1 @ZAx.eq_2 @ZE6.eq_1 @ZE6.eq_2 @ZW8 @ZAP.eq_1 @ZAP.eq_2;have tT:=ZVu;refine nz ?_;refine rg tT [0] ?_;refine rg tT [2] ?_;refine lf ?_
 first|rfl|exact⟨rfl,rfl⟩|trivial
def ZJZ(b:UInt8):Bool:=decide (48≤b.toNat∧b.toNat≤57)
def dgs(s:List UInt8):Bool:=decide (s≠ []∧s.length≤32)&&s.all ZJZ
theorem ZYt(s:List UInt8)(p:UInt8→Bool)(i:Nat)(h:i<s.length):(s.take (i+1)).all p=((s.take i).all p&&p s[i]):=by
 rw[Ko h,ZM7];simp
theorem ZZ8(s:List UInt8)(p:UInt8→Bool)(i:Nat)(h:i<s.length)(hp:p s[i]=false):s.all p=false:=by
 rw[List.all_eq_false];exact⟨s[i],Yl h,by rw[hp];simp⟩
theorem ZbS{s:List UInt8}{i:Nat}(h:i<s.length)(hr:48≤((Kb s i).1:Int)∧((Kb s i).1:Int)≤57):(Kb s i).2=1∧ZJZ s[i]=true:=by
 by_cases hb:s[i].toNat<128
 ·rw[ZLL h hb]at hr⊢;simp only at hr;exact⟨rfl,Zc (by omega)⟩
 ·have:=(ZQ3 h hb).1;omega
theorem Zan{s:List UInt8}{i:Nat}(h:i<s.length)(hr: ¬(48≤((Kb s i).1:Int)∧((Kb s i).1:Int)≤57)):ZJZ s[i]=false:=by
 refine decide_eq_false (fun hd=>hr ?_);rw[ZLL h (by omega)];simp only;omega
theorem ZX3(s:List UInt8):ZD Tryz.prog 202 [.x (.str s)] (.x (.bool (dgs s))):=by
 refine ZG.pure (fC 202 true ?_) rfl;intro C0 E0;have uu:=trivial;have tT:=(ZE:SsOk Tryz.prog ZQ);refine nz ?_;refine rg tT [0] ?_;refine rg tT [0,6] ?_;refine WI.loop (fun φ os=> ∃(i:Nat),φ= [(0,.x (.str s)),(6,.iref 0 0)]∧os= [.sit s i]∧i≤s.length∧(s.take i).all ZJZ=true) (Zbd s.length 0) ?_ (fun φ os hI=> ?_)
 ·exact⟨0,rfl,rfl,by omega,rfl⟩
 ·obtain⟨i,rfl,rfl,hi,ha⟩:=hI;refine nz ?_;refine WI.nextSA [0,6,7,8] (fun hn2=> ?_) (fun hn2=> ?_)
  ·have ha2:s.all ZJZ=true:=by rw[←ha,JH (by omega)]
   have hdg:dgs s=(!(s== [])&&decide ((s.length:Int)≤32)):=by unfold dgs;rw[ha2,QJ];by_cases h1:s= []<;>by_cases h2:s.length≤32<;>simp[h1,h2]<;>omega
   refine nz ?_;refine ce (fun h0=> ?_) (fun h0=> ?_)
   ·exact absurd h0 (by decide)
   ·refine rg tT [2] ?_;refine lf ?_;rw[hdg]
  ·refine nz ?_;refine ct (fun h0=> ?_) (fun h0=> ?_)
   ·refine rg tT [0,4,6] ?_;refine rg tT [0,6,15] ?_;refine cd (fun h1=> ?_) (fun h1=> ?_) (kB:=fun h=>h.h)
    ·have hd:=ZZ8 s ZJZ i hn2 (Zan hn2 (by omega));have hdg:dgs s=false:=by unfold dgs;rw[hd,ZM1]
     refine rg tT [2] ?_;refine lf ?_;rw[hdg]
    ·obtain⟨hw,hdd⟩:=ZbS hn2 (by omega);have ha2:(s.take (i+1)).all ZJZ=true:=by rw[ZYt s ZJZ i hn2,ha,hdd];rfl
     refine WI.orderA [0,6] ?_;refine nz ?_;exact⟨⟨i+1,by first|rfl|simp,by first|rfl|simp[hw],by omega,ha2⟩,by simp[Zbd,hw];omega⟩
   ·exact absurd h0 (by decide)
def ZCt:List D→Option (Bool×D)
 | [.x (.str s)]=>some (true,.x (.bool (dgs s)))
 |_=>none
theorem ZTO: ∀args r,ZCt args=some (true,r)→ZD Tryz.prog 202 args r:=by
 intro args r h;unfold ZCt at h;split at h
 ·rename_i s;simp only[Ze,Za,ZS,Zi,true_and]at h;obtain rfl:=h;exact(ZX3 s)
 ·cases h
def ZJr:Tabs:=ZW (ZW (ZQ) 202 ZCt) 201 ZAP
theorem ZNT:SsOk Tryz.prog ZJr:=ZJ (ZJ (ZE) (ZZ 202) ZTO) ZGs ZK3
theorem ZO6:(∀a,ZJr.q 202 a=ZCt a)∧(∀a,ZJr.q 201 a=ZAP a)∧(∀f a o,ZJr.r f a o=none)∧(∀f a o,ZJr.k f a o=none):=⟨fun _=>rfl,fun _=>rfl,fun _ _ _=>rfl,fun _ _ _=>rfl⟩
def stp:List UInt8→List UInt8
 | []=> []
 | [b]=> [b]
 |b::c::l=>if b=48 then stp (c::l)else b::c::l
theorem ZZA(s:List UInt8)(h:1<s.length)(h0:s[0]=48):stp s=stp (s.drop 1):=by
 match s,h with
 |b::c::l,_=>exact if_pos h0
theorem ZPo(s:List UInt8)(h: ¬(1<s.length∧ ∀(h:0<s.length),s[0]=48)):stp s=s:=by
 match s with
 | []=>rfl
 | [b]=>rfl
 |b::c::l=>rw[stp,if_neg];intro e;exact h ⟨by simp,fun _=>e⟩
def ZAz(s:List UInt8):List UInt8:=Lib.trimPrefix s [45]
def ZSj(s:List UInt8):Bool:=Lib.hasPrefix s [45]
def ZEx(s:List UInt8):List UInt8×Bool:=
 if dgs (ZAz s)then(if ZSj s∧stp (ZAz s)≠ [48]then 45::stp (ZAz s)else stp (ZAz s),true)else([],false)
theorem b48{b:UInt8}:b=48↔(b.toNat:Int)=48:=⟨fun h=>by rw[h];rfl,fun h=>ZTk.1 (by show b.toNat=48;omega)⟩
theorem gd0(t:List UInt8)(h:0<t.length):t.getD 0 0=t[0]:=by simp[h]
theorem ZdI(s:List UInt8):ZD Tryz.prog 182 [.x (.str s)] (.tup [.x (.str (ZEx s).1),.x (.bool (ZEx s).2)]):=by
 cases hd:dgs (ZAz s)with
 |false=>
  have hi:ZEx s=([],false):=by unfold ZEx;rw[if_neg (by rw[hd];simp)]
  rw[hi];unfold ZAz at hd;refine ZG.pure (fC 182 true ?_) rfl;intro C0 E0;have uu:=ξ6 @ZCt.eq_1 @ZCt.eq_2 @ZAP.eq_1 @ZAP.eq_2 hd @ZO6;have tT:=ZNT;refine nz ?_;refine rg tT [0] ?_;refine rg tT [4,5] ?_;refine rg tT [4,5,13] ?_;refine ct (fun h0=> ?_) (fun h0=> ?_)
  ·refine rg tT [2,3] ?_;refine lf ?_;rfl
  ·simp at h0
 |true=>
  unfold ZAz at hd;have hd32:(Lib.trimPrefix s [45]).length≤32:=by
   unfold dgs at hd;rw[ZS]at hd;exact(of_decide_eq_true hd.1).2
  have hi:ZEx s=(if ZSj s∧stp (ZAz s)≠ [48]then 45::stp (ZAz s)else stp (ZAz s),true):=by have hd2:dgs (ZAz s)=true:=hd;unfold ZEx;rw[if_pos hd2]
  unfold ZAz ZSj at hi;refine ZG.pure (fC 182 true ?_) rfl;intro C0 E0;have uu:=ξ6 @ZCt.eq_1 @ZCt.eq_2 @ZAP.eq_1 @ZAP.eq_2 hd @ZO6;have tT:=ZNT;refine nz ?_;refine rg tT [0] ?_;refine rg tT [4,5] ?_;refine rg tT [4,5,13] ?_;refine ce (fun h0=> ?_) (fun h0=> ?_)
  ·simp at h0
  ·refine WI.orderA [4,5] ?_;refine WI.loop (fun φ os=> ∃(t:List UInt8),φ= [(4,.x (.str t)),(5,.x (.bool (Lib.hasPrefix s [45])))]∧os= []∧stp t=stp (Lib.trimPrefix s [45])∧t.length≤32) (fun φ _=>match φ with|(_,.x (.str t))::_=>t.length|_=>0) ?_ (fun φ os hI=> ?_)
   ·exact⟨_,rfl,rfl,rfl,hd32⟩
   ·obtain⟨t,rfl,rfl,ht,htl⟩:=hI;refine nz ?_;by_cases hl1:1<t.length
    ·have hk:t[0]? =some t[0]:=Zu (by omega);have hdl:=Zc (show(1:Int)<(t.length:Int) by omega);have uu:=Jz uu hk hdl;refine rg tT [4,5,21] ?_;refine cd (fun h1=> ?_) (fun h1=> ?_)
     ·have ht2:stp (t.drop 1)=stp (Lib.trimPrefix s [45]):=by rw[←ht,ZZA t hl1 ((gd0 t (by omega)).symm.trans (b48.2 h1))]
      refine rg tT [4,5] ?_;exact⟨⟨t.drop 1,rfl,rfl,ht2,by rw[KU];omega⟩,by simp;omega⟩
     ·have hts:stp t=t:=ZPo t (fun hh=>h1 (b48.1 ((gd0 t (by omega)).trans (hh.2 (by omega)))));have htt:=ht.symm.trans hts;refine rg tT [4,28] ?_;refine cd (fun h2=> ?_) (fun h2=> ?_)
      ·refine rg tT [4] ?_;refine rg tT [2,3] ?_;refine lf ?_;rw[hi,htt];first|(rw[if_pos ⟨h2.1,h2.2⟩];done)|(rw[if_pos ⟨h2.1,h2.2⟩];rfl)|(rw[if_neg (by rcases h2 with h2|h2<;>simp[h2])];done)|(rw[if_neg (by rcases h2 with h2|h2<;>simp[h2])];rfl)
      ·refine rg tT [2,3] ?_;refine lf ?_;rw[hi,htt];first|(rw[if_pos ⟨h2.1,h2.2⟩];done)|(rw[if_pos ⟨h2.1,h2.2⟩];rfl)|(rw[if_neg (by rcases h2 with h2|h2<;>simp[h2])];done)|(rw[if_neg (by rcases h2 with h2|h2<;>simp[h2])];rfl)
    ·have hdl:=decide_eq_false (show ¬(1:Int)<(t.length:Int) by omega);have uu:=Yq uu hdl;refine rg tT [4,5,21] ?_;refine ce (fun h1=> ?_) (fun h1=> ?_)
     ·simp at h1
     ·have hts:stp t=t:=ZPo t (fun hh=>hl1 hh.1);have htt:=ht.symm.trans hts;refine rg tT [4,28] ?_;refine cd (fun h2=> ?_) (fun h2=> ?_)
      ·refine rg tT [4] ?_;refine rg tT [2,3] ?_;refine lf ?_;rw[hi,htt];first|(rw[if_pos ⟨h2.1,h2.2⟩];done)|(rw[if_pos ⟨h2.1,h2.2⟩];rfl)|(rw[if_neg (by rcases h2 with h2|h2<;>simp[h2])];done)|(rw[if_neg (by rcases h2 with h2|h2<;>simp[h2])];rfl)
      ·refine rg tT [2,3] ?_;refine lf ?_;rw[hi,htt];first|(rw[if_pos ⟨h2.1,h2.2⟩];done)|(rw[if_pos ⟨h2.1,h2.2⟩];rfl)|(rw[if_neg (by rcases h2 with h2|h2<;>simp[h2])];done)|(rw[if_neg (by rcases h2 with h2|h2<;>simp[h2])];rfl)
end Go.Proofs.YtiogclkbccdefaaGreatDoor
end
section
namespace Go.Ab
open Go.RowKit Go.Bo
theorem KY.copied{κ:Type}{mk:κ→Value}{w:World}{r:Nat}{l:List (κ×Value)}(h:KY mk w r l): ∃es clk,w.heap[r]? =some (.map es clk)∧ ∀(w':World) (b:Nat),w'.heap[b]? =some (.map es clk)→KY mk w' b l:=by
 obtain⟨es,clk,h1,h2⟩:=h;exact⟨es,clk,h1,fun w' b hb=>⟨es,clk,hb,h2⟩⟩
theorem Zt.copied{E:Env}{os:List Ob}{b:Nat}{dk:KK}{ag:Bool}{l:List Pr}(h:Zt E os b dk ag l): ∃es clk,E.w.heap[b]? =some (.map es clk)∧ ∀(E':Env) (os':List Ob) (b':Nat),Evo E os E' os'→E'.w.heap[b']? =some (.map es clk)→Zt E' os' b' dk ag l:=by
 cases dk with
 |int k=>
  obtain⟨l',h1,h2,h3⟩:=h;obtain⟨es,clk,k1,k2⟩:=KY.copied h1;exact⟨es,clk,k1,fun E' os' b' ev hb=>⟨l',k2 _ _ hb,h2,fun i a q ha hq=>⟨(h3 i a q ha hq).1,(h3 i a q ha hq).2.mono ev⟩⟩⟩
 |str=>
  obtain⟨l',h1,h2,h3⟩:=h;obtain⟨es,clk,k1,k2⟩:=KY.copied h1;exact⟨es,clk,k1,fun E' os' b' ev hb=>⟨l',k2 _ _ hb,h2,fun i a q ha hq=>⟨(h3 i a q ha hq).1,(h3 i a q ha hq).2.mono ev⟩⟩⟩
 |st _ _=>exact h.elim
end Go.Ab
namespace Go.Proofs.YtiogclkbccdefaaGreatDoor
open Go.RowKit Go.Bo Go.Ab Go.Lib Go.Sort
theorem ZPO{w:World}{st:Nat→Nat→Prop}{s:Tx}{v:Value}(h:VX w st (.str s) v):v= .string (ZN s):=by cases h;rfl
theorem ZTE{P:Program}{f fc:FuncId}{e:Nat}(l l':List Tx)(s:Tx)(hl':l'.length≤l.length)(hl0:l≠ [])
  (hraw: ∀(w:World) (g b cap:Nat) (cur:Array Value),w.heap[g]? =some (.cells cur e (0,0))→cur.size=cap→cur.toList.take l.length=l.map (fun t=> .string (ZN t))→l.length≤cap→cap≤maxLen→b≠g→w.cell? ⟨b,0,none⟩=some (.string (ZN s))→b<w.heap.size→
   Calls P f #[.slice (some ⟨g,0,none⟩) l.length cap,.func (.func fc) #[] #[.pointer (some ⟨b,0,none⟩)]] w fun x w'=> ∃cur',x= .returned (.slice (some ⟨g,0,none⟩) l'.length cap)∧w'.heap[g]? =some (.cells cur' e (0,0))∧cur'.size=cap∧cur'.toList.take l'.length=l'.map (fun t=> .string (ZN t))∧w.grownBy w' (some g)):
  ZL P f [.ref 0 l.length 0 l.length,.fn fc [.ptr 1 0]] [.rows false e 1 (rows ZB l),.box [.x (.str s)]] (.ref 2 l'.length 0 l'.length) [.old 1 (l.length+1),.box [.x (.str s)],.rows false e 1 (rows ZB l')]:=by
 intro c E vs R hvl;obtain⟨hsz,hv⟩:=hvl;obtain⟨v0,v1,rfl⟩: ∃v0 v1,vs= #[v0,v1]:=by
  obtain⟨vl⟩:=vs
  match vl,hsz with
  | [a,b],_=>exact⟨a,b,rfl⟩
 have h0:=hv 0 _ v0 rfl rfl;have h1:=hv 1 _ v1 rfl rfl;clear hv hsz;have hrl:(rows ZB l).length=l.length:=Zo ZB l;have hrl':(rows ZB l').length=l'.length:=Zo ZB l';have hlen:=R.len;obtain⟨p,hp,hok⟩:=R.at (i:=0) (o:= .rows false e 1 (rows ZB l)) rfl;obtain⟨q,hq,hok2⟩:=R.at (i:=1) (o:= .box [.x (.str s)]) rfl;obtain⟨b,qv⟩:=q;obtain rfl:v0=p.2:=by
  obtain⟨h1,h2⟩:=h0.ref_inv.at (sz:=1) (rs:=rows ZB l) rfl rfl;obtain⟨h3,b,a0,cap,a',cap',h4,h5,h6,h7,h8,h9⟩:=h2 hrl;rw[hp]at h4;obtain⟨h10,h11⟩:=h8 rfl;rw[h10,h11]at h5;rw[h5,ZA6 h4]
 obtain rfl:v1= .func (.func fc) #[] #[.pointer (some ⟨b,0,none⟩)]:=by
  cases h1 with
  |fn ws hl hv=>
   obtain⟨wl⟩:=ws
   match wl,hl with
   | [a],_=>
    have h2:=hv 0 _ a rfl rfl;cases h2 with
    |ptr ho h=>
     rw[hq]at h;cases h;rfl
 clear h1;obtain⟨xs,k1,k2,k3⟩:=hok;obtain⟨cs,ty,g1,g2,g3⟩:=hok2;have hxl:xs.length=l.length:=by rw[k1.1,hrl,Kr]
 have hxs:xs=l.map fun t=> .string (ZN t):=by
  apply ZAq;intro i;by_cases hi:i<l.length
  ·have hx:=Zu (l:=xs) (i:=i) (by omega);have h2:=k3 i [.str (l[i])] 0 (.str l[i]) xs[i] (by simp[rows,hi,ZB]) rfl (by rw[Kr];exact hx);rw[hx,Zw,Zu hi];rw[ZPO h2,YS]
  ·rw[ξZ (by omega),ξZ (by simp;omega)]
 rcases k1.owns.2 with⟨_,h⟩|⟨g,cap,cur,hpv,_,hgg,hnc,hcm,hcs,htake⟩
 ·rw[hrl]at h;exact absurd (List.length_eq_zero_iff.1 h) hl0
 rw[hrl]at hnc hpv htake;rw[Kr]at hcs htake;have hne:b≠g:=fun h=>by
  have:=R.dis 0 1 _ _ p (b,qv) g rfl hp rfl hq (by show p.2.ownBlock=some g;rw[hpv];rfl) h;omega
 have hcell:E.w.cell? ⟨b,0,none⟩=some (.string (ZN s)):=by
  have hlt:0<cs.size:=by rw[g2];simp
  have h2:=g3 0 _ cs[0] rfl (ξK hlt);have h3:cs[0]= .string (ZN s):=by
   have h4:=h2.1;cases h4 with|x h=>exact ZPO h
  exact Ks g1 (by rw[ξK hlt,h3])
 have hbl:b<E.w.heap.size:=(ξH g1).1;have hcal:=hraw E.w g b cap cur hgg hcs (by rw[htake,hxs]) hnc hcm hne hcell hbl;rw[←hpv]at hcal;refine hcal.mono ?_;rintro x w' ⟨cur',rfl,hg',hcs',ht',hG⟩;have hM:=R.mbs 0 _ p g rfl hp (by show p.2.ownBlock=some g;rw[hpv];rfl);have hst: ∀off,¬E.st g off:=fun off h=>(R.stm g off h).2 0 _ p rfl hp (by show p.2.ownBlock=some g;rw[hpv];rfl)
 obtain⟨R1,e1⟩:=R.push E.w .dead (0,undef) (Kept.refl _ _) (fun b hb=>by cases hb) (fun _=>trivial);have hel:E.ob.length=2:=hlen;obtain⟨R2,e2⟩:=R1.set (i:=0) (o:= .rows false e 1 (rows ZB l)) (p:=p) rfl (by show(E.ob++ [(0,undef)])[0]? =_;rw[YR (by omega)];exact hp) w' (.old 1 (l.length+1)) (0,undef) (by
   show Kept (fun b=>p.2.ownBlock=some b) E.w w';rw[hpv];exact Kept.of_grown hG) (fun b hb=>by cases hb) (fun sz n h=>by
   simp only[Ob.sl?,Ze,Za]at h;obtain⟨rfl,rfl⟩:=h;exact⟨l.length+1,rfl,.inr (by rw[hrl];omega)⟩) (fun k h=>by cases h) (fun _=>trivial)
 have hrow:KA w' false e 1 (rows ZB l').length (.slice (some ⟨g,0,none⟩) l'.length cap) (l'.map fun t=> .string (ZN t)):=by
  refine⟨by rw[hrl',Kr,Yf],.inr ⟨g,cap,cur',(0,0),by rw[hrl'],hg',by rw[hrl'];omega,hcm,by rw[Kr];exact hcs',by rw[hrl',Kr];exact ht',.inl rfl⟩⟩
 obtain⟨R3,e3⟩:=R2.set (i:=2) (o:= .dead) (p:=(0,undef)) rfl (by
   show((E.ob++ [(0,undef)]).set 0 (0,undef))[2]? =_;rw[ZEe (by omega),Ki (by omega),hel];rfl) w' (.rows false e 1 (rows ZB l')) (0,.slice (some ⟨g,0,none⟩) l'.length cap) (Kept.refl _ _) (fun b' hb'=>by
   have hb2:(Value.slice (some ⟨g,0,none⟩) l'.length cap).ownBlock=some b':=hb';cases hb2;refine .inr (.inr ⟨fun off h=>hst off h,fun i o pi ho hpi hmb=> ?_,hM⟩)
   match i,ho with
   |0,ho=>cases ho;exact hmb
   |1,ho=>
    cases ho;have h5:((E.ob++ [(0,undef)]).set 0 (0,undef))[1]? =some pi:=hpi;rw[ZEe (by omega),YR (by omega),hq]at h5;cases h5;exact hne hmb
   |2,ho=>cases ho;exact hmb
   |i+3,ho=>simp at ho) (fun sz n h=>by cases h) (fun k h=>by cases h) (fun ev=>by
   refine⟨_,hrow,fun r hr=>(by obtain⟨t,_,rfl⟩:=YW.1 hr;rfl),fun i r j x v e4 e5 e6=> ?_⟩;have hi:i<l'.length:=by rw[←hrl'];exact(ZR e4).1
   have hr:r= [.str l'[i]]:=by simpa[rows,hi,ZB,eq_comm]using e4
   subst hr;have hj:j=0:=by
    have:=(ZR e5).1;simp at this;exact this
   subst hj;cases e5;rw[Kr,Jw,Zw,Zu hi]at e6;cases e6;exact .str _)
 refine⟨_,_,rfl,rfl,R3,(e1.trans e2).trans e3,?_⟩;have hob:(((E.ob++ [(0,undef)]).set 0 (0,undef)).set 2 (0,.slice (some ⟨g,0,none⟩) l'.length cap))[2]? =some (0,.slice (some ⟨g,0,none⟩) l'.length cap):=by
  rw[ZGm (by simp[hel])]
 refine .ref ⟨.rows false e 1 (rows ZB l'),1,(rows ZB l').length,rfl,rfl,?_⟩ rfl;rw[show l'.length=(rows ZB l').length from hrl'.symm]at hob⊢;exact⟨Zl _,fun _=>⟨by omega,0,_,cap,_,cap,hob,rfl,by rw[hrl'];omega,hcm,fun _=>⟨rfl,rfl⟩,fun _ ad h=>(by cases h;simp),fun h=>(by cases h),fun ad h=>(by cases h;rfl)⟩⟩
theorem ZUU(rs:List (List X))(r:List X)(i:Nat)(hi:i≤rs.length)(hn:rs.length≤1000000):ZL Tryz.prog 44 [.ref 0 rs.length 0 rs.length,.x (.int .i64 i),.ref 1 1 0 1] [.rows false 9 1 rs,.rows false 9 1 [r]] (.ref 0 (rs.length+1) 0 (rs.length+1)) [.rows false 9 1 (YB rs i [r]),.rows false 9 1 [r]]:=
 ZL.ins rs r i hi hn fun w v0 n i xs ys vb vc cv ev h1 h2 h3 h4 h5 h6 h7 h8 h9=>by
  simp only[Kr];exact ZYC w 0 v0 n i xs ys vb vc cv ev h1 h2 h3 h4 h5 h6 h7 h8 h9 (Je _)
theorem ZLV(s x:ByteArray)(B:Nat)(W:World)(hc:W.cell? ⟨B,0,none⟩=some (.string s)):FnGives Tryz.prog 56 #[.pointer (some ⟨B,0,none⟩)] #[.string x] (.bool (x.toList==s.toList)) W:=by
 show Calls Tryz.prog 56 #[.string x,.pointer (some ⟨B,0,none⟩)] W _
 go_enter Tryz.func56,Tryz.ntmps56
 go_wp2
 all_goals(go_ret;exact⟨by simp_all,0,rfl⟩)
def ZB6(l:List Tx)(s:Tx):List Tx:=l.filter fun t=> !(t==s)
theorem Za1(l:List Tx)(s:Tx)(hl:l.length≤1000000)(w:World)(g b cap:Nat)(cur:Array Value)(hgg:w.heap[g]? =some (.cells cur 9 (0,0)))(hcs:cur.size=cap)(htake:cur.toList.take l.length=l.map (fun t=> .string (ZN t)))(hlc:l.length≤cap)(hcm:cap≤maxLen)(hbg:b≠g)(hb:w.cell? ⟨b,0,none⟩=some (.string (ZN s)))(hbl:b<w.heap.size):
  Calls Tryz.prog 55 #[.slice (some ⟨g,0,none⟩) l.length cap,.func (.func 56) #[] #[.pointer (some ⟨b,0,none⟩)]] w fun x w'=> ∃cur',x= .returned (.slice (some ⟨g,0,none⟩) (ZB6 l s).length cap)∧w'.heap[g]? =some (.cells cur' 9 (0,0))∧cur'.size=cap∧cur'.toList.take (ZB6 l s).length=(ZB6 l s).map (fun t=> .string (ZN t))∧w.grownBy w' (some g):=by
 have eg: ∀args w,(callFunc 56 args).run Tryz.prog w= .ok (.enter 56 args) w:=enters_of Tryz.func56 (by kernel_rfl) rfl;obtain⟨d,hd⟩: ∃d:Array ByteArray,d=(l.map ZN).toArray:=⟨_,rfl⟩;have hds:d.size=l.length:=by rw[hd];simp
 have hdj: ∀j,(hj:j<l.length)→d[j]! =ZN l[j]:=fun j hj=>by
  rw[getElem!_pos d j (by omega)];simp[hd]
 have hcur: ∀j,(hj:j<l.length)→cur[j]? =some (.string (ZN l[j])):=fun j hj=>by
  have h:=congrArg (fun q=>q[j]?) htake;rw[JQ,if_pos hj,Zw,Zu hj,Qp]at h;exact h
 have hH:Holds Value.string w g 0 d:=fun j hj=>by
  rw[hds]at hj;rw[Yy,hdj j hj];exact⟨Ks hgg (hcur j hj),ZJW hgg⟩
 have hcon:=AnyE.slices_DeleteFunc Tryz.delS Value.string (fun _=>rfl) (fun x=>x.toList==(ZN s).toList) 56 #[.pointer (some ⟨b,0,none⟩)] eg ByteArray.empty Tryz.zeroValue9 g 0 cap d w
  (fun W x hB=>ZLV (ZN s) x b W ((hB.cell (p:=⟨b,0,none⟩) hbl).trans hb))
  (fun n os dk x _=>ZLV (ZN s) x b _ (by
   unfold sortWorld;rw[cell?_grow _ _ _ (by show b<(putRow _ _ _ _ _).heap.size;rw[size_putRow];exact hbl),cell?_putRow_other _ _ g 0 _ _ (Or.inl hbg)];exact hb)) hH (by rw[hds];omega) (by rw[hds];exact hlc)
 change Calls Tryz.prog 55 _ _ _ at hcon;have hfl:(d.toList.filter fun x=> !(x.toList==(ZN s).toList))=(ZB6 l s).map ZN:=by
  rw[hd];simp only[List.toList_toArray,Jb];unfold ZB6;rw[List.filter_map];congr 1;apply ZYD;intro t _;simp only[Function.comp,Jb]
 rw[hfl,hds]at hcon;have hdl:(ZB6 l s).length≤l.length:=ZWX _ _;refine hcon.mono ?_;rintro e w' ⟨rfl,q,rfl⟩;simp only[Yf];obtain⟨D,hD⟩: ∃D:Array ByteArray,D=((ZB6 l s).map ZN++List.replicate (l.length-(ZB6 l s).length) ByteArray.empty).toArray:=⟨_,rfl⟩;rw[←hD];have hDs:D.size=l.length:=by rw[hD];simp;omega
 refine⟨putCells Value.string 0 D cur,trivial,?_,?_,?_,⟨rfl,rfl,rfl,?_,fun k hk hne=> ?_⟩⟩
 ·show(mapBlock (Sort.ahead w q) g (putCells Value.string 0 D)).heap[g]? =_;unfold mapBlock;have h:(Sort.ahead w q).heap[g]? =some (.cells cur 9 (0,0)):=hgg;simp only[ZMn,if_pos rfl,h,YS];rfl
 ·unfold putCells;simp[hcs]
 ·apply ZAq;intro j;rw[JQ];by_cases hj:j<(ZB6 l s).length
  ·rw[if_pos hj,Qp,Zw,Zu hj];unfold putCells;rw[Array.getElem?_mapIdx,hcur j (by omega),YS,if_pos ⟨Je _,by omega⟩,Nat.sub_zero,getElem!_pos D j (by omega)];simp[hD,hj]
  ·rw[if_neg hj,ξZ (by simp;omega)]
 ·show(Sort.ahead w q).heap.size≤_;rw[size_putRow];exact Zl _
 ·show(mapBlock (Sort.ahead w q) g (putCells Value.string 0 D)).heap[k]? =_;unfold mapBlock;have:g≠k:=fun h=>hne (by rw[h])
  simp only[ZMn,if_neg this];rfl
theorem Zc6(l:List Tx)(s:Tx)(hl:l.length≤1000000)(h0:l≠ []):ZL Tryz.prog 55 [.ref 0 l.length 0 l.length,.fn 56 [.ptr 1 0]] [.rows false 9 1 (rows ZB l),.box [.x (.str s)]] (.ref 2 (ZB6 l s).length 0 (ZB6 l s).length) [.old 1 (l.length+1),.box [.x (.str s)],.rows false 9 1 (rows ZB (ZB6 l s))]:=
 ZTE l (ZB6 l s) s (ZWX _ _) h0 fun w g b cap cur h1 h2 h3 h4 h5 h6 h7 h8=>Za1 l s hl w g b cap cur h1 h2 h3 h4 h5 h6 h7 h8
open Go.RowKit Go.Bo Go.Ab Go.Lib
theorem ZO3(OS:List Ob)(id:Nat)(fz:Bool)(e:Nat)(l:List Tx)(ho:OS[id]? =some (.rows fz e 1 (rows ZB l)))(hl:l.length≤1000000):
  ZBQ Tryz.prog 47 [.ref id l.length 0 l.length] OS (fun j=> .ref j l.length 0 l.length) (.rows false 9 1 (rows ZB l)):=by
 intro Y jd c E vs hd R hvl;obtain⟨hsz,hv⟩:=hvl;obtain⟨v0,rfl⟩: ∃v0,vs= #[v0]:=by
  obtain⟨vl⟩:=vs
  match vl,hsz with
  | [a],_=>exact⟨a,rfl⟩
 have h0:=hv 0 _ v0 rfl rfl;have hlt:=(ZR ho).1;have ho':(OS++Y)[id]? =some (.rows fz e 1 (rows ZB l)):=by rw[YR hlt];exact ho
 have hrl:(rows ZB l).length=l.length:=Zo ZB l;obtain⟨p,hp,hok⟩:=R.at ho';obtain rfl:v0=p.2:=by
  obtain⟨h1,h2⟩:=h0.ref_inv.at (sz:=1) (rs:=rows ZB l) ho' rfl;obtain⟨h3,b,a0,cap,a',cap',h4,h5,h6,h7,h8,h9⟩:=h2 hrl;rw[hp]at h4;obtain⟨h10,h11⟩:=h8 rfl;rw[h10,h11]at h5;rw[h5,ZA6 h4]
 obtain⟨xs,k1,k2,k3⟩:=hok;have hxl:xs.length=l.length:=by rw[k1.1,hrl,Kr]
 have hxs:xs=l.map fun t=> .string (ZN t):=by
  apply ZAq;intro i;by_cases hi:i<l.length
  ·have hx:=Zu (l:=xs) (i:=i) (by omega);have h2:=k3 i [.str (l[i])] 0 (.str l[i]) xs[i] (by simp[rows,hi,ZB]) rfl (by rw[Kr];exact hx);rw[hx,Zw,Zu hi];rw[ZPO h2,YS]
  ·rw[ξZ (by omega),ξZ (by simp;omega)]
 have hvals: ∀(i:Nat) (r:List X) (j:Nat) (x:X) (v:Value),(rows ZB l)[i]? =some r→r[j]? =some x→xs[i*1+j]? =some v→VX E.w E.st x v:=k3;rcases k1.2 with⟨hpv,h⟩|⟨g,cap,cur,fr,hpv,hgg,hnc,hcm,hcs,htake,hfr⟩
 ·rw[hpv];refine(Tryz.slices_Clone_string_nil 0 0 E.w).mono ?_;rintro x w' ⟨rfl,rfl⟩;obtain⟨E',q1,q2,q3,q4⟩:=ZKo R hd (Kept.refl _ _) (fz:=false) (e:=9) (sz:=1) (rs:=rows ZB l) (cu:= .slice none 0 0) (xs:=xs) ⟨k1.1,.inl ⟨rfl,h⟩⟩ (fun b hb=>by cases hb) k2 hvals;rw[hrl]at q4;exact⟨_,E',rfl,q1,q2,q3,q4⟩
 ·rw[hpv,hrl];rw[hrl]at htake hnc;rw[Kr]at htake;have hc: ∀j,j<(l.map ZN).length→E.w.cell? ⟨g,0+j,none⟩=some (.string ((l.map ZN).getD j ByteArray.empty)):=fun j hj=>by
   simp only[Yf]at hj;rw[Yy];refine Ks hgg ?_;have h:=congrArg (fun q=>q[j]?) (htake.trans hxs);rw[JQ,if_pos hj,Zw,Zu hj,Qp]at h;rw[h];simp[List.getD,hj]
  refine(Tryz.slices_Clone_string g 0 l.length cap (l.map ZN) E.w (by simp) (by omega) hc).mono ?_;rintro x w' ⟨v',rfl,hown,_,hB⟩;have hmap:((l.map ZN).take l.length).map Value.string=xs:=by
   rw[JH (by simp),hxs,Jq];rfl
  rw[hmap]at hown;have hrow:KA w' false 9 1 (rows ZB l).length v' xs:=by rw[hrl];exact KA.of_owns hown false
  obtain⟨E',q1,q2,q3,q4⟩:=ZKo R hd (w':=w') ⟨hB.os,hB.tape,hB.output,hB.size,fun k hk _=>hB.block k hk⟩ hrow (fun b hb=>by
   rcases hown.2 with⟨h1,_⟩|⟨g',cap',cur',h1,h2,_⟩
   ·rw[h1]at hb;cases hb
   ·rw[h1]at hb;cases hb;exact h2) k2 hvals
  rw[hrl]at q4;exact⟨_,E',rfl,q1,q2,q3,q4⟩
theorem ZIa:Go.Ab.Enters Tryz.prog 47:=ZZ 47
end Go.Proofs.YtiogclkbccdefaaGreatDoor
end
section
namespace Go.Proofs.YtiogclkbccdefaaGreatDoor
open Go.RowKit Go.Bo Go.Ab
def ZMr(acc:List (List UInt8))(v:List UInt8):List (List UInt8):=if v∈acc then acc else acc++ [v]
def ZDA(b vs:List (List UInt8)):List (List UInt8):=vs.foldl ZMr b
theorem ZWQ(b vs:List (List UInt8))(j:Nat)(h:j<vs.length):ZDA b (vs.take (j+1))=ZMr (ZDA b (vs.take j)) vs[j]:=by
 unfold ZDA;rw[Ko h,ZSi];rfl
theorem ZWl(acc:List (List UInt8))(v:List UInt8):(ZMr acc v).length≤acc.length+1:=by unfold ZMr;split<;>simp
theorem ZPs(b vs:List (List UInt8)):(ZDA b vs).length≤b.length+vs.length:=by
 induction vs generalizing b with
 |nil=>simp[ZDA]
 |cons v vs ih=>have:=ih (ZMr b v);have:=ZWl b v;simp only[ZDA,ZMl,JJ]at*;omega
def Zm(l:List ZU)(n:List UInt8):Nat:=(l.takeWhile fun a=>Op.bytesLess a.1 n).length
theorem ZFp(l:List ZU)(n:List UInt8):Zm l n≤l.length:=(List.takeWhile_sublist _).length_le
def ZBh(l:List ZU)(n:List UInt8):Bool:=match l[Zm l n]? with
 |some a=>a.1==n
 |none=>false
def KS(l:List ZU)(n:List UInt8):List (List UInt8):=if ZBh l n then(l.getD (Zm l n) ([],[],())).2.1 else []
def ZB0(l:List ZU)(n:List UInt8):List ZU:=if ZBh l n then l.drop (Zm l n+1)else l.drop (Zm l n)
theorem ZLY(l:List ZU)(n:List UInt8)(j:Nat)(h:j<Zm l n):Op.bytesLess (l[j]'(ZND h (ZFp l n))).1 n=true:=by
 have hp:(l.takeWhile fun a=>Op.bytesLess a.1 n)<+:l:=List.takeWhile_prefix _;have:=YQ.1 (List.all_takeWhile (p:=fun a:ZU=>Op.bytesLess a.1 n) (l:=l)) _ (Yl (h:=h));rwa [hp.getElem h]at this
theorem ZLs(l:List ZU)(n:List UInt8)(h:Zm l n<l.length):Op.bytesLess l[Zm l n].1 n=false:=by
 unfold Zm at*
 induction l with
 |nil=>simp at h
 |cons a l ih=>
  by_cases ha:Op.bytesLess a.1 n=true
  ·simp only[List.takeWhile_cons,ha,if_true,JJ]at h⊢;simpa using ih (by omega)
  ·simp only[List.takeWhile_cons,ha,Yt,if_false,ξN];simpa using ha
theorem ZSH(l:List ZU)(n:List UInt8)(hk:Zm l n<l.length)(h:ZBh l n=true):l[Zm l n].1=n:=by
 unfold ZBh at h;rw[Zu hk]at h;simpa using h

theorem bl_irr: ∀a,Op.bytesLess a a=false
 | []=>rfl
 |x::a=>by rw[Op.bytesLess,bl_irr a];simp
theorem ZRj: ∀a b,Op.bytesLess a b=true→Op.bytesLess b a=false
 |_,[],h=>by simp[Op.bytesLess]at h
 | [],_::_,_=>by simp[Op.bytesLess]
 |x::a,y::b,h=>by
  rw[Op.bytesLess,ZEg,ZS,Zi,beq_iff_eq]at h;rw[Op.bytesLess,ZTD,Bool.and_eq_false_imp,decide_eq_false_iff_not,beq_iff_eq];rcases h with h|⟨rfl,h⟩
  ·exact⟨UInt8.lt_asymm h,fun e=>by subst e;exact absurd h (UInt8.lt_irrefl _)⟩
  ·exact⟨UInt8.lt_irrefl _,fun _=>ZRj a b h⟩
theorem bl_trans: ∀a b c,Op.bytesLess a b=true→Op.bytesLess b c=true→Op.bytesLess a c=true
 |_,[],_,h,_=>by simp[Op.bytesLess]at h
 |_,_::_,[],_,h=>by simp[Op.bytesLess]at h
 | [],_::_,_::_,_,_=>by simp[Op.bytesLess]
 |x::a,y::b,z::c,h,k=>by
  rw[Op.bytesLess,ZEg,ZS,Zi,beq_iff_eq]at h k⊢;rcases h with h|⟨rfl,h⟩<;>rcases k with k|⟨rfl,k⟩
  ·exact .inl (UInt8.lt_trans h k)
  ·exact .inl h
  ·exact .inl k
  ·exact .inr ⟨rfl,bl_trans a b c h k⟩
theorem bl_tot: ∀a b,a≠b→Op.bytesLess a b=true∨Op.bytesLess b a=true
 | [],[],h=>absurd rfl h
 |_::_,[],_=> .inr (by simp[Op.bytesLess])
 | [],_::_,_=> .inl (by simp[Op.bytesLess])
 |x::a,y::b,h=>by
  simp only[Op.bytesLess,ZEg,ZS,Zi,beq_iff_eq];by_cases e:x=y
  ·subst e;rcases bl_tot a b (fun k=>h (by rw[k]))with k|k
   ·exact .inl (.inr ⟨rfl,k⟩)
   ·exact .inr (.inr ⟨rfl,k⟩)
  ·rcases UInt8.lt_or_lt_of_ne e with k|k
   ·exact .inl (.inl k)
   ·exact .inr (.inl k)
end Go.Proofs.YtiogclkbccdefaaGreatDoor
end
