import Derived.Test.YtiogclkbccdefaaGreatDoorLA1
import Derived.Shelf.Spec.SlicesInsertGrow
import Derived.Test.YtiogclkbccdefaaGreatDoorProg
import Derived.Test.YtiogclkbccdefaaGreatDoorLA5
import Derived.Test.YtiogclkbccdefaaGreatDoorSh
import Derived.Lib.SplitLaws
import Derived.Lib.Join
import Derived.Lib.MapLaws
set_option linter.unusedSimpArgs false
set_option linter.unusedVariables false
set_option maxRecDepth 100000
section
namespace Go.Bo
open Go.RowKit
def Kr{α:Type}(E:Enc α)(w:World)(ok:Nat→Prop):List α→List Value→Prop
 | [],xs=>xs= []
 |x::l,xs=> ∃c d,xs=c++d∧E.rep w ok x c∧Kr E w ok l d
section
variable {α:Type} {E:Enc α}
theorem Kr.len(hE:E.Good){w:World}{ok:Nat→Prop}: ∀ {l:List α} {xs:List Value},Kr E w ok l xs→xs.length=l.length*E.n
 | [],xs,h=>by rw[show xs= []from h];simp
 |x::l,xs,⟨c,d,h1,h2,h3⟩=>by rw[h1,Zw,hE.len h2,Kr.len hE h3,Jh,Ys,ZJL,ZK7]
theorem Kr.one(hE:E.Good){w:World}{ok:Nat→Prop}: ∀ {l:List α} {xs:List Value},Kr E w ok l xs→ ∀u∈xs,u.oneCell'=true
 | [],xs,h,u,hu=>by rw[show xs= []from h]at hu;cases hu
 |x::l,xs,⟨c,d,h1,h2,h3⟩,u,hu=>by
  rw[h1,KN]at hu;rcases hu with hu|hu
  ·exact hE.one h2 u hu
  ·exact Kr.one hE h3 u hu
theorem Kr.stay(hE:E.Good){w w':World}{ok ok':Nat→Prop}(hs:ZFC w w' ok ok'): ∀ {l:List α} {xs:List Value},Kr E w ok l xs→Kr E w' ok' l xs
 | [],_,h=>h
 |_::_,_,⟨c,d,h1,h2,h3⟩=>⟨c,d,h1,hE.stay hs h2,Kr.stay hE hs h3⟩
theorem Kr.append{w:World}{ok:Nat→Prop}: ∀ {l m:List α} {xs ys:List Value},Kr E w ok l xs→Kr E w ok m ys→Kr E w ok (l++m) (xs++ys)
 | [],_,xs,_,h,k=>by rw[show xs= []from h];exact k
 |_::_,_,_,_,⟨c,d,h1,h2,h3⟩,k=>⟨c,d++_,by rw[h1,KJ],h2,Kr.append h3 k⟩
theorem Kr.drop(hE:E.Good){w:World}{ok:Nat→Prop}: ∀ {l:List α} {xs:List Value} (k:Nat),Kr E w ok l xs→Kr E w ok (l.drop k) (xs.drop (k*E.n))
 | [],xs,k,h=>by rw[show xs= []from h];simp[Kr]
 |x::l,xs,0,h=>by simpa using h
 |x::l,xs,k+1,⟨c,d,h1,h2,h3⟩=>by
  rw[h1,ZNh,List.drop_append_of_le_length_eq (hE.len h2)];exact Kr.drop hE k h3
where
 List.drop_append_of_le_length_eq {c d:List Value} {n k:Nat} (h:c.length=n):(c++d).drop ((k+1)*n)=d.drop (k*n):=by
  rw[List.drop_append,ZED (by rw[h,Ys];omega),ZAJ,h,Ys,ZJL,Nat.add_sub_cancel]
theorem Kr.get(hE:E.Good){w:World}{ok:Nat→Prop}: ∀ {l:List α} {xs:List Value},Kr E w ok l xs→ ∀i (h:i<l.length),∃cs,E.rep w ok l[i] cs∧ ∀j,j<E.n→xs[i*E.n+j]? =cs[j]?
 | [],_,_,i,h=>by simp at h
 |x::l,xs,⟨c,d,h1,h2,h3⟩,0,h=>⟨c,h2,fun j hj=>by rw[h1,ZHT,Yi,Ya (by rw[hE.len h2];exact hj)]⟩
 |x::l,xs,⟨c,d,h1,h2,h3⟩,i+1,h=>by
  obtain⟨cs,k1,k2⟩:=Kr.get hE h3 i (by simpa using h);refine⟨cs,by simpa using k1,fun j hj=> ?_⟩;rw[←k2 j hj,h1,KR (by rw[hE.len h2,Ys];omega),hE.len h2];congr 1;rw[Ys];omega
theorem Sl.lt(hE:E.Good)(h0:0<E.n){w:World}{ok:Nat→Prop}{a:Option Addr}{l:List α}(h:Sl E w ok a l):Sl E w (fun b=>ok b∧b<w.heap.size) a l:=h.stay hE h0 (fun _ hb ho=>⟨⟨ho,hb⟩,rfl⟩)
theorem Sl.drop{w:World}{ok:Nat→Prop}{g off:Nat}{l:List α}(h:Sl E w ok (some ⟨g,off,none⟩) l)(k:Nat):Sl E w ok (some ⟨g,off+k*E.n,none⟩) (l.drop k):=by
 refine⟨by rw[KC];have:=h.1;omega,fun i hi=> ?_⟩;rw[KC]at hi;obtain⟨b,o,cs,ha,hb,hr,hc⟩:=h.2 (k+i) (by omega);cases ha;refine⟨g,off+k*E.n,cs,rfl,hb,by rw[List.getElem_drop];exact hr,fun j hj=> ?_⟩;rw[←hc j hj];congr 2;rw[Ys];omega
end
section
variable {P:Program} {w:World}
end
open Go.RowKit Go.Lib
section
variable {P:Program} (w:World)
theorem Kw(t u ty e:TypeId)(i0:TypeInfo)(size:Nat)(hu:P.underlying t=some (.slice e))(hi:P.info? e=some i0)(hs:i0.size=size)(g o dLen dCap:Nat)(cur:Array Value)(hg:w.heap[g]? =some (.cells cur e (0,0)))
  (a:Addr) (sLen sCap:Nat) (cs:List Value) (hn:cs.length=min sLen dLen*size) (hsrc: ∀j v,cs[j]? =some v→w.cell? (a.add j)=some v) (hfit:o+cs.length≤cur.size) (h1: ∀v∈cs,v.oneCell'=true):
  (Builtin.copy_ #[t,u] ty #[.slice (some ⟨g,o,none⟩) dLen dCap,.slice (some a) sLen sCap]).run P w= .ok (goInt (min sLen dLen)) (w.setRow g (cur.toList.take o++cs++cur.toList.drop (o+cs.length)).toArray):=by
 subst hs;have hf:=run_firstCells_some (P:=P) w i0.size (min sLen dLen) a sLen sCap cs hn hsrc;have hst:=run_storeCells_at P g o e cs 0 cur w hg (by simpa using hfit) h1;simp only[Jf]at hst;have hm:Nat.min sLen dLen=min sLen dLen:=rfl;simp[Builtin.copy_,run_underlying hu,Builtin.lenOf,sizeOf,typeInfo,hi,hm,hf,hst];congr 1;omega
end
def YD{α:Type}(l:List α)(i:Nat)(y:List α):List α:=l.take i++y++l.drop i
theorem ZNy{α:Type}(A B C ys:List α)(k:Nat)(hy:ys.length=k)(hC:k≤C.length):
  (((A++B++C).take (A.length+k)++B++(A++B++C).drop (A.length+k+B.length)).take A.length++ys++((A++B++C).take (A.length+k)++B++(A++B++C).drop (A.length+k+B.length)).drop (A.length+ys.length))=A++ys++B++C.drop k:=by
 have e1:(A++B++C).take (A.length+k)=A++(B++C).take k:=by
  rw[KJ,List.take_append,Yp (by omega),ZRm]
 have e2:(A++B++C).drop (A.length+k+B.length)=C.drop k:=by
  rw[show A.length+k+B.length=(A++B).length+k by rw[Zw];omega,List.drop_append,ZED (by omega),ZRm,ZAJ]
 have hk:((B++C).take k).length=k:=by rw[Yv,Zw];omega
 rw[e1,e2,hy];have e3:(A++(B++C).take k++B++C.drop k).take A.length=A:=by
  rw[KJ,KJ,List.take_left'];rfl
 have e4:(A++(B++C).take k++B++C.drop k).drop (A.length+k)=B++C.drop k:=by
  rw[KJ,List.drop_left'];rw[Zw,hk]
 rw[e3,e4];simp[KJ]
theorem ZMc{α:Type}(A Z B ys:List α)(k:Nat)(hy:ys.length=k)(hZ:k≤Z.length)(T:List α):
  (((A++Z).take A.length++ys++(A++Z).drop (A.length+ys.length)).take (A.length+k)++B++T)=A++ys++B++T:=by
 rw[List.take_left,ZJb (by rw[Zw];omega),Yp (by rw[Zw];omega)]
theorem ZHL(w:World)(g:Nat)(a b:Array Value):(w.setRow g a).setRow g b=w.setRow g b:=by
 unfold World.setRow;congr 1;apply Array.ext
 ·simp
 ·intro i h1 h2;simp only[Array.getElem_modify];split
  ·cases w.heap[i]'(by simpa using h1)<;>rfl
  ·rfl
end Go.Bo
end
section
namespace Go.Proofs.YtiogclkbccdefaaGreatDoor
open Go.RowKit Go.Bo Go.Lib Go.Proofs
theorem ZUb:(Tryz.prog.info? 94).map (fun i=>(i.zero,i.size,i.bytes))=some (some (.agg #[.string ByteArray.empty,.slice none 0 0]),2,40):=by kernel_rfl
theorem ZGj: ∃i0,Tryz.prog.info? 94=some i0∧i0.zero=some (.agg #[.string ByteArray.empty,.slice none 0 0])∧i0.size=2∧i0.bytes=40:=by
 have h:=ZUb;cases hq:Tryz.prog.info? 94 with
 |none=>rw[hq]at h;cases h
 |some i0=>rw[hq]at h;simp at h;exact⟨i0,rfl,h.1,h.2.1,h.2.2⟩
set_option maxHeartbeats 4000000 in
set_option maxRecDepth 100000 in
theorem ZVE(w : World)(base : Nat)(v0 : Value)(n : Nat)(xs ys : List Value)(vb vc : Nat)(hown : w.ownsRow base 94 2 v0 n xs)(hn : n ≤ 1000000)(hys : ys.length = 2)(hv : ∀ j u, ys[j]? = some u → w.cell? ⟨vb, j, none⟩ = some u)
    (h1y : ∀ u ∈ ys, u.oneCell' = true) (hbase : base ≤ w.heap.size) :
    Calls Tryz.prog 126 #[v0, .int .i64 n, .slice (some ⟨vb, 0, none⟩) 1 vc] w fun e w' => ∃ v', e = .returned v' ∧ w'.ownsRow base 94 2 v' (n + 1) (xs ++ ys) ∧ Grow w w' v0 v' := by
  obtain ⟨i0, hi, hz0, hz1, hz2⟩ := ZGj;have hown2 := hown;rcases hown.2 with ⟨rfl, rfl⟩ | ⟨g, cap, cur, rfl, hbg, hgg, hnc, hcm, hcs, htake⟩
  · go_enter Tryz.func126, Tryz.ntmps126
    go_wp2_with (at_builtin; refine ZBj _ rfl _ _ 29 rfl base 94 i0 (.agg #[.string ByteArray.empty, .slice none 0 0]) 2 40 Tryz.underlying29 hi hz0 hz1 hz2 rfl (by decide) _ 0 xs rfl hown2 ⟨vb, 0, none⟩ 1 vc ys rfl (by rw [hys]) (fun j u hj => by rw [Addr.add_lit, Yi]; exact hv j u hj) h1y (by simp only [maxLen]; omega) (by omega) hbase ?_)
    intro v' w' ho hg
    go_wp2_with fail
    go_ret
    exact ⟨v', rfl, ho, hg⟩
  · have hz3 : ¬ ((1 : Int) = 0) := by omega
    by_cases hcn : n = cap
    all_goals first | subst hcn | skip
    all_goals
     go_enter Tryz.func126, Tryz.ntmps126
     go_wp2_with (at_builtin; refine ZBj _ rfl _ _ 29 rfl base 94 i0 (.agg #[.string ByteArray.empty, .slice none 0 0]) 2 40 Tryz.underlying29 hi hz0 hz1 hz2 rfl (by decide) _ n xs rfl hown2 ⟨vb, 0, none⟩ 1 vc ys rfl (by rw [hys]) (fun j u hj => by rw [Addr.add_lit, Yi]; exact hv j u hj) h1y (by simp only [maxLen]; omega) (by omega) hbase ?_)
     intro v' w' ho hg
     go_wp2_with fail
     go_ret
     exact ⟨v', rfl, ho, hg⟩
theorem KO{w:World}{g j:Nat}{c:Array Value}{e:TypeId}{f:Nat×Nat}{v:Value}(h:w.heap[g]? =some (.cells c e f))(hj:c[j]? =some v):w.cell? ⟨g,j,none⟩=some v:=by unfold World.cell?;simp[h,hj]
theorem ZGN{w:World}{g:Nat}{c:Array Value}{e:TypeId}{f:Nat×Nat}(h:w.heap[g]? =some (.cells c e f)):w.shape? g=some (e,c.size):=by unfold World.shape?;rw[h]
theorem ZIH{w:World}{g o:Nat}{c:Array Value}{e:TypeId}(h:w.heap[g]? =some (.cells c e (0,0))):w.frozen? ⟨g,o,none⟩=false:=by unfold World.frozen?;simp[h]
set_option maxHeartbeats 4000000 in
set_option maxRecDepth 100000 in
theorem ZRt(w:World)(g cap n i:Nat)(cur:Array Value)(xs ys:List Value)(vb vc:Nat)(cv:Array Value)(ev:TypeId)(hgg:w.heap[g]? =some (.cells cur 94 (0,0)))(hcs:cur.size=cap*2)(htake:cur.toList.take (n*2)=xs)(hi:i<n)(hn:n≤1000000)(hroom:n+1≤cap)(hc63:cap≤9223372036854775807)
  (hvg:w.heap[vb]? =some (.cells cv ev (0,0))) (hvb:vb≠g) (hys:cv.toList.take 2=ys) (hyl:ys.length=2) (h1x: ∀u∈xs,u.oneCell'=true) (h1y: ∀u∈ys,u.oneCell'=true):
  Calls Tryz.prog 126 #[.slice (some ⟨g,0,none⟩) n cap,.int .i64 i,.slice (some ⟨vb,0,none⟩) 1 vc] w fun e w'=> ∃cur',e= .returned (.slice (some ⟨g,0,none⟩) (n+1) cap)∧w'=w.drew.setRow g cur'∧cur'.size=cap*2∧cur'.toList.take ((n+1)*2)=YD xs (i*2) ys:=by
 obtain⟨i0,hi0,hz0,hz1,hz2⟩:=ZGj;have hz3: ¬((1:Int)=0):=by omega
 have hz4: ¬((i:Int)=(n:Int)):=by omega
 have hsz: ∀w,(Go.sizeOf 94).run Tryz.prog w= .ok 2 w:=fun w=>by simp[sizeOf,typeInfo,hi0,hz1]
 have hov: ∀o lb cb,(callFunc 163 #[.slice (some ⟨vb,0,none⟩) 1 vc,.slice (some ⟨g,o,none⟩) lb cb]).run Tryz.prog w= .ok (.value (.bool false)) w:=fun o lb cb=>by
  rw[run_callFunc_extern Tryz.func163 (by kernel_rfl) (by kernel_rfl) (by kernel_rfl) (e:=Extern.SlicesOverlaps.overlaps #[29,29] #[4]) (by kernel_rfl),
   Lib.run_overlaps_apart w 29 4 94 Tryz.underlying29 2 hsz ⟨vb,0,none⟩ ⟨g,o,none⟩ 1 vc lb cb hvb _ _ _ _ (ZGN hvg) (ZGN hgg) (by rw[hcs];omega) (ZIH hvg) (ZIH hvg)]
  rfl
 have hxl:xs.length=n*2:=by rw[←htake,Yv,KI];omega
 have hdl:(xs.drop (i*2)).length=n*2-i*2:=by rw[KC,hxl]
 have hcx: ∀j v,xs[j]? =some v→cur[j]? =some v:=fun j v hj=>by
  rw[←htake,Yy]at hj;split at hj
  ·rw[←QH];exact hj
  ·cases hj
 have hcp1: ∀ty dl dc sl sc,dl=n-i→sl=n+1-i→(Builtin.copy_ #[29,29] ty #[.slice (some ⟨g,(i+1)*2,none⟩) dl dc,.slice (some ⟨g,i*2,none⟩) sl sc]).run Tryz.prog w.drew= .ok (goInt (min (sl:Int) (dl:Int))) (w.drew.setRow g (cur.toList.take ((i+1)*2)++xs.drop (i*2)++cur.toList.drop ((i+1)*2+(xs.drop (i*2)).length)).toArray):=fun ty dl dc sl sc e1 e2=>
  Kw (P:=Tryz.prog) w.drew 29 29 ty 94 i0 2 Tryz.underlying29 hi0 hz1 g ((i+1)*2) dl dc cur hgg ⟨g,i*2,none⟩ sl sc (xs.drop (i*2)) (by rw[hdl];omega)
   (fun j v hj=>by rw[Addr.add_lit];exact KO (w:=w.drew) hgg (hcx _ _ (by rwa [Ql]at hj))) (by rw[hdl,hcs];omega) (fun v hv=>h1x v (ZBQ hv))
 obtain⟨cur1,hcur1⟩: ∃cur1,cur1=(cur.toList.take ((i+1)*2)++xs.drop (i*2)++cur.toList.drop ((i+1)*2+(xs.drop (i*2)).length)).toArray:=⟨_,rfl⟩;rw[←hcur1]at hcp1;have hc1s:cur1.size=cap*2:=by
  rw[hcur1];simp only[ZBX,Zw,Yv,KC,KI,hxl,hcs];omega
 have hg1:(w.drew.setRow g cur1).heap[g]? =some (.cells cur1 94 (0,0)):=setRow_heap w.drew g cur _ _ _ hgg;have hv1:(w.drew.setRow g cur1).heap[vb]? =some (.cells cv ev (0,0)):=by rw[setRow_other w.drew g vb _ hvb];exact hvg
 have hcp2: ∀(W:World),(∀k:Nat,W.heap[k]? =(w.drew.setRow g cur1).heap[k]?)→ ∀ty dl dc,dl=n+1-i→(Builtin.copy_ #[29,29] ty #[.slice (some ⟨g,i*2,none⟩) dl dc,.slice (some ⟨vb,0,none⟩) 1 vc]).run Tryz.prog W= .ok (goInt (min ((1:Nat):Int) (dl:Int))) (W.setRow g (cur1.toList.take (i*2)++ys++cur1.toList.drop (i*2+ys.length)).toArray):=fun W hW ty dl dc e1=>
  Kw (P:=Tryz.prog) W 29 29 ty 94 i0 2 Tryz.underlying29 hi0 hz1 g (i*2) dl dc cur1 (by rw[hW];exact hg1) ⟨vb,0,none⟩ 1 vc ys (by rw[hyl];omega)
   (fun j v hj=>by rw[Addr.add_lit,Yi];exact KO (w:=W) (by rw[hW];exact hv1) (by rw[←QH];rw[←hys,Yy]at hj;split at hj;exact hj;cases hj)) (by rw[hyl,hc1s];omega) h1y
 obtain⟨cur2,hcur2⟩: ∃cur2,cur2=(cur1.toList.take (i*2)++ys++cur1.toList.drop (i*2+ys.length)).toArray:=⟨_,rfl⟩;have hfin:cur2.size=cap*2∧cur2.toList.take ((n+1)*2)=YD xs (i*2) ys:=by
  constructor
  ·rw[hcur2];simp only[ZBX,Zw,Yv,KC,KI,hyl,hc1s];omega
  ·obtain⟨A,hA⟩: ∃A,A=xs.take (i*2):=⟨_,rfl⟩;obtain⟨B,hB⟩: ∃B,B=xs.drop (i*2):=⟨_,rfl⟩;obtain⟨C,hC⟩: ∃C,C=cur.toList.drop (n*2):=⟨_,rfl⟩;have hAl:A.length=i*2:=by rw[hA,Yv];omega
   have hBl:B.length=n*2-i*2:=by rw[hB,hdl]
   have hcur:cur.toList=A++B++C:=by rw[hA,hB,hC,ZDX,←htake,ZDX]
   have hCl:2≤C.length:=by rw[hC,KC,KI];omega
   have h:=ZNy A B C ys 2 hyl hCl;rw[hAl]at h;rw[hcur2,hcur1,←hB,hcur,show(i+1)*2=i*2+2 by omega];simp only[List.toList_toArray];rw[h];unfold YD;rw[←hA,←hB,ZJb (by simp only[Zw,hAl,hyl,hBl];omega),Yp (by simp only[Zw,hAl,hyl,hBl];omega)]
 rw[←hcur2]at hcp2;clear hcur2 hcur1;have mixed:Tryz.prog.follows Departure.mixedOrders=true:=by kernel_rfl
 have hw1:IntKind.i64.wrap ((i:Int)+1)=(i:Int)+1:=by rw[IntKind.wrap_i64];omega
 have hb1:(0:Int)≤(i:Int)+1:=by omega
 have hin:i≤n:=by omega
 have htn:((i:Int)+1).toNat=i+1:=by omega
 have hb2: ¬(cap=i+1):=by omega
 have hb3:(i:Int)≤(n:Int)+1:=by omega
 have hb4: ¬(cap=i):=by omega
 go_enter Tryz.func126,Tryz.ntmps126
 go_wp2_with (simp only[hov])
 go_region_law_o (refine step_copy_runI rfl _ _ 29 29 rfl _ _ (by simp[Act.eval,Act.put]) (by simp[Act.eval,Act.put]) (hcp1 _ _ _ _ _ (by omega) (by omega)) ?_)
 go_wp2_with (at_builtin;refine wpList_copy_runI _ rfl _ _ 29 29 rfl _ _ rfl rfl (hcp2 _ (fun _=>rfl) _ _ _ (by omega)) ?_)
 go_ret
 exact⟨cur2,rfl,ZHL w.drew g _ _,hfin.1,hfin.2⟩
set_option maxHeartbeats 4000000 in
set_option maxRecDepth 100000 in
theorem ZTE(w:World)(g cap n i:Nat)(cur:Array Value)(xs ys:List Value)(vb vc:Nat)(cv:Array Value)(ev:TypeId)(hgg:w.heap[g]? =some (.cells cur 94 (0,0)))(hcs:cur.size=cap*2)(htake:cur.toList.take (n*2)=xs)(hi:i<n)(hn:n≤1000000)(hnc:n≤cap)(hroom:cap<n+1)
  (hvg:w.heap[vb]? =some (.cells cv ev (0,0))) (hys:cv.toList.take 2=ys) (hyl:ys.length=2) (h1x: ∀u∈xs,u.oneCell'=true) (h1y: ∀u∈ys,u.oneCell'=true):
  Calls Tryz.prog 126 #[.slice (some ⟨g,0,none⟩) n cap,.int .i64 i,.slice (some ⟨vb,0,none⟩) 1 vc] w fun e w'=> ∃cur' G,e= .returned (.slice (some ⟨w.heap.size,0,none⟩) (n+1) G)∧w'.heap[w.heap.size]? =some (.cells cur' 94 (0,0))∧w.grownBy w' none∧n+1≤G∧G≤maxLen∧cur'.size=G*2∧cur'.toList.take ((n+1)*2)=YD xs (i*2) ys:=by
 obtain⟨i0,hi0,hz0,hz1,hz2⟩:=ZGj;obtain rfl:n=cap:=by omega
 have hz3: ¬((1:Int)=0):=by omega
 have hz4: ¬((i:Int)=(n:Int)):=by omega
 have hxl:xs.length=n*2:=by rw[←htake,Yv,KI];omega
 have hdl:(xs.drop (i*2)).length=n*2-i*2:=by rw[KC,hxl]
 have hcx: ∀j v,xs[j]? =some v→cur[j]? =some v:=fun j v hj=>by
  rw[←htake,Yy]at hj;split at hj
  ·rw[←QH];exact hj
  ·cases hj
 have hgl:g<w.heap.size:=(Qb hgg).1;have hvl:vb<w.heap.size:=(Qb hvg).1;have hold:(Builtin.firstCells i0.size i (.slice (some ⟨g,0,none⟩) i n)).run Tryz.prog w.drew= .ok (xs.take (i*2)).toArray w.drew:=by
  rw[hz1];exact run_firstCells_some w.drew 2 i ⟨g,0,none⟩ i n (xs.take (i*2)) (by rw[Yv];omega) (fun j v hj=>by
   rw[Addr.add_lit,Yi];rw[Yy]at hj;split at hj
   ·exact KO (w:=w.drew) hgg (hcx _ _ hj)
   ·cases hj)
 obtain⟨G,hG⟩: ∃G,G=grownCap w (n+1) n 94:=⟨_,rfl⟩;obtain⟨z,hz⟩: ∃z,z=(Value.agg #[.string ByteArray.empty,.slice none 0 0]):=⟨_,rfl⟩;have hzs:z.cells.size=2:=by rw[hz];rfl
 obtain⟨ROW,hROW⟩: ∃ROW:Array Value,ROW=(xs.take (i*2)).toArray++Builtin.zeroCells z.cells (n+1-i)++Builtin.zeroCells z.cells (G-(n+1)):=⟨_,rfl⟩;have hrz: ∀ty,(Builtin.append_ #[29,3] ty #[.slice (some ⟨g,0,none⟩) i n,.int .i64 ((n:Int)+1-(i:Int))]).run Tryz.prog w= .ok (.slice (some ⟨w.heap.size,0,none⟩) (n+1) G) (w.drew.alloc (.cells ROW 94)):=fun ty=>by
  have h:=Lib.run_append_grow_zeros w 29 3 ty 94 i0 z .i64 .i64 Tryz.underlying29 Tryz.underlying3 hi0 (by rw[hz0,hz]) (some ⟨g,0,none⟩) i n (xs.take (i*2)) hold (n+1-i) (by omega) (by omega) (by omega) (by omega) (by rw[hz2];omega) (by rw[hz2,show i+(n+1-i)=n+1 by omega];exact growslice_fits (by omega) (by omega));rw[show i+(n+1-i)=n+1 by omega,←hG,←hROW]at h;rw[show((n:Int)+1-(i:Int))=((n+1-i:Nat):Int) by omega];exact h
 have hGn:n+1≤G:=by rw[hG];exact grownCap_ge w _ _ _
 have hGm:G≤maxLen:=by rw[hG];exact grownCap_le_maxLen w (n+1) n _ (by unfold maxLen;omega)
 have hzc: ∀k,(Builtin.zeroCells z.cells k).size=k*2:=fun k=>by simp[Builtin.zeroCells,hzs]
 have hRs:ROW.size=G*2:=by
  rw[hROW];simp only[ZW5,ZBX,Yv,hzc,hxl];omega
 obtain⟨W1,hW1⟩: ∃W1,W1=w.drew.alloc (.cells ROW 94):=⟨_,rfl⟩;have hN1:W1.heap[w.heap.size]? =some (.cells ROW 94 (0,0)):=by rw[hW1];exact heap_alloc_new w.drew _
 have hgW:W1.heap[g]? =some (.cells cur 94 (0,0)):=by rw[hW1];exact(heap_alloc_old w.drew _ hgl).trans hgg
 have hvW:W1.heap[vb]? =some (.cells cv ev (0,0)):=by rw[hW1];exact(heap_alloc_old w.drew _ hvl).trans hvg
 have hcp1: ∀(W:World),(∀k:Nat,W.heap[k]? =W1.heap[k]?)→ ∀ty dl dc,dl=n+1-i→(Builtin.copy_ #[29,29] ty #[.slice (some ⟨w.heap.size,i*2,none⟩) dl dc,.slice (some ⟨vb,0,none⟩) 1 vc]).run Tryz.prog W= .ok (goInt (min ((1:Nat):Int) (dl:Int))) (W.setRow w.heap.size (ROW.toList.take (i*2)++ys++ROW.toList.drop (i*2+ys.length)).toArray):=fun W hW ty dl dc e1=>
  Kw (P:=Tryz.prog) W 29 29 ty 94 i0 2 Tryz.underlying29 hi0 hz1 w.heap.size (i*2) dl dc ROW (by rw[hW];exact hN1) ⟨vb,0,none⟩ 1 vc ys (by rw[hyl];omega)
   (fun j v hj=>by rw[Addr.add_lit,Yi];exact KO (w:=W) (by rw[hW];exact hvW) (by rw[←QH];rw[←hys,Yy]at hj;split at hj;exact hj;cases hj)) (by rw[hyl,hRs];omega) h1y
 obtain⟨R1,hR1⟩: ∃R1,R1=(ROW.toList.take (i*2)++ys++ROW.toList.drop (i*2+ys.length)).toArray:=⟨_,rfl⟩;rw[←hR1]at hcp1;have hR1s:R1.size=G*2:=by
  rw[hR1];simp only[ZBX,Zw,Yv,KC,KI,hyl,hRs];omega
 have hN2:(W1.setRow w.heap.size R1).heap[w.heap.size]? =some (.cells R1 94 (0,0)):=setRow_heap W1 _ ROW _ _ _ hN1;have hgW2:(W1.setRow w.heap.size R1).heap[g]? =some (.cells cur 94 (0,0)):=by rw[setRow_other W1 _ g _ (by omega)];exact hgW
 have hcp2: ∀(W:World),(∀k:Nat,W.heap[k]? =(W1.setRow w.heap.size R1).heap[k]?)→ ∀ty dl dc sl sc,dl=n-i→sl=n-i→(Builtin.copy_ #[29,29] ty #[.slice (some ⟨w.heap.size,(i+1)*2,none⟩) dl dc,.slice (some ⟨g,i*2,none⟩) sl sc]).run Tryz.prog W= .ok (goInt (min (sl:Int) (dl:Int))) (W.setRow w.heap.size (R1.toList.take ((i+1)*2)++xs.drop (i*2)++R1.toList.drop ((i+1)*2+(xs.drop (i*2)).length)).toArray):=fun W hW ty dl dc sl sc e1 e2=>
  Kw (P:=Tryz.prog) W 29 29 ty 94 i0 2 Tryz.underlying29 hi0 hz1 w.heap.size ((i+1)*2) dl dc R1 (by rw[hW];exact hN2) ⟨g,i*2,none⟩ sl sc (xs.drop (i*2)) (by rw[hdl];omega)
   (fun j v hj=>by rw[Addr.add_lit];exact KO (w:=W) (by rw[hW];exact hgW2) (hcx _ _ (by rwa [Ql]at hj))) (by rw[hdl,hR1s];omega) (fun v hv=>h1x v (ZBQ hv))
 obtain⟨R2,hR2⟩: ∃R2,R2=(R1.toList.take ((i+1)*2)++xs.drop (i*2)++R1.toList.drop ((i+1)*2+(xs.drop (i*2)).length)).toArray:=⟨_,rfl⟩;rw[←hR2]at hcp2;have hfin:R2.size=G*2∧R2.toList.take ((n+1)*2)=YD xs (i*2) ys:=by
  constructor
  ·rw[hR2];simp only[ZBX,Zw,Yv,KC,KI,hdl,hR1s,hxl];omega
  ·obtain⟨Z,hZ⟩: ∃Z,Z=(Builtin.zeroCells z.cells (n+1-i)).toList++(Builtin.zeroCells z.cells (G-(n+1))).toList:=⟨_,rfl⟩;obtain⟨A,hA⟩: ∃A,A=xs.take (i*2):=⟨_,rfl⟩;have hAl:A.length=i*2:=by rw[hA,Yv];omega
   have hROWl:ROW.toList=A++Z:=by rw[hROW,hZ,hA];simp
   have hZl:2≤Z.length:=by rw[hZ,Zw,KI,hzc];omega
   have h:=ZMc A Z (xs.drop (i*2)) ys 2 hyl hZl;rw[hAl]at h;rw[hR2,hR1,hROWl,show(i+1)*2=i*2+2 by omega];simp only[List.toList_toArray];rw[h];unfold YD;rw[←hA,ZJb (by simp only[Zw,hAl,hyl,hdl];omega),Yp (by simp only[Zw,hAl,hyl,hdl];omega)]
 have hN3:((W1.setRow w.heap.size R1).drew.setRow w.heap.size R2).heap[w.heap.size]? =some (.cells R2 94 (0,0)):=setRow_heap (W1.setRow w.heap.size R1).drew _ R1 _ _ _ hN2;have hgr:w.grownBy ((W1.setRow w.heap.size R1).drew.setRow w.heap.size R2) none:=by
  refine⟨by rw[hW1];rfl,by rw[hW1];rfl,by rw[hW1];rfl,?_,fun k hk _=> ?_⟩
  ·have e1:((W1.setRow w.heap.size R1).drew.setRow w.heap.size R2).heap.size=W1.heap.size:=by simp[World.setRow,World.drew]
   rw[e1,hW1];show w.heap.size≤(w.heap.push _).size;rw[Array.size_push];omega
  ·rw[setRow_other (W1.setRow w.heap.size R1).drew _ k _ (by omega)];show(W1.setRow w.heap.size R1).heap[k]? =_;rw[setRow_other W1 _ k _ (by omega),hW1];exact heap_alloc_old w.drew _ hk
 rw[←hW1]at hrz;have HN3:=Lib.hid hN3;clear hR2 hR1 hROW hRs hG hW1 hN3;have mixed:Tryz.prog.follows Departure.mixedOrders=true:=by kernel_rfl
 have hw1:IntKind.i64.wrap ((i:Int)+1)=(i:Int)+1:=by rw[IntKind.wrap_i64];omega
 have hb1:(0:Int)≤(i:Int)+1:=by omega
 have hin:i≤n:=by omega
 have htn:((i:Int)+1).toNat=i+1:=by omega
 have hb3:(i:Int)≤(n:Int):=by omega
 have hGi: ¬(G=i):=by omega
 have hGim: ¬(G=i+1):=by omega
 have hci: ¬(n=i):=by omega
 have hzz:(n:Int)<(n:Int)+1:=by omega
 have hG63:G≤9223372036854775807:=by unfold maxLen at hGm;omega
 go_enter Tryz.func126,Tryz.ntmps126
 go_wp2_with (first
  |(at_builtin;refine Lib.wpList_append_run _ rfl _ _ _ _ rfl _ _ rfl rfl _ _ (hrz _) ?_)
  |(at_builtin;refine wpList_copy_runI _ rfl _ _ 29 29 rfl _ _ rfl rfl (hcp1 _ (fun _=>rfl) _ _ _ (by omega)) ?_))
 go_region_law_o (refine step_copy_runI rfl _ _ 29 29 rfl (.slice (some ⟨w.heap.size,(i+1)*2,none⟩) (n-i) (G-(i+1))) (.slice (some ⟨g,i*2,none⟩) (n-i) (n-i)) (by simp[Act.eval,Act.put]) (by simp[Act.eval,Act.put]) (hcp2 (W1.setRow w.heap.size R1).drew (fun _=>rfl) _ _ _ _ _ rfl rfl) ?_)
 go_wp2
 go_ret
 exact⟨R2,G,rfl,HN3.out,hgr,hGn,hGm,hfin.1,hfin.2⟩
theorem ZWz(w:World)(base:Nat)(v0:Value)(n i:Nat)(xs ys:List Value)(vb vc:Nat)(cv:Array Value)(ev:TypeId)(hown:w.ownsRow base 94 2 v0 n xs)(hi:i≤n)(hn:n≤1000000)(hvg:w.heap[vb]? =some (.cells cv ev (0,0)))(hvb:v0.ownBlock≠some vb)(hys:cv.toList.take 2=ys)(hyl:ys.length=2)
  (h1x: ∀u∈xs,u.oneCell'=true) (h1y: ∀u∈ys,u.oneCell'=true) (hbase:base≤w.heap.size):
  Calls Tryz.prog 126 #[v0,.int .i64 i,.slice (some ⟨vb,0,none⟩) 1 vc] w fun e w'=> ∃v',e= .returned v'∧w'.ownsRow base 94 2 v' (n+1) (YD xs (i*2) ys)∧Grow w w' v0 v':=by
 have hxl:=hown.1;by_cases hin:i=n
 ·subst hin;have e:YD xs (i*2) ys=xs++ys:=by unfold YD;rw[Yp (by omega),ZED (by omega),KS]
  rw[e];exact ZVE w base v0 i xs ys vb vc hown hn hyl (fun j u hj=>KO hvg (by rw[←QH];rw[←hys,Yy]at hj;split at hj;exact hj;cases hj)) h1y hbase
 ·rcases hown.2 with⟨_,rfl⟩|⟨g,cap,cur,rfl,hbg,hgg,hnc,hcm,hcs,htake⟩
  ·omega
  have hlen:(YD xs (i*2) ys).length=(n+1)*2:=by unfold YD;simp only[Zw,Yv,KC,hxl,hyl];omega
  by_cases hroom:n+1≤cap
  ·refine(ZRt w g cap n i cur xs ys vb vc cv ev hgg hcs htake (by omega) hn hroom (by unfold maxLen at hcm;omega) hvg (fun e=>hvb (by rw[e];rfl)) hys hyl h1x h1y).mono ?_;rintro e w' ⟨cur',rfl,rfl,h1,h2⟩;refine⟨_,rfl,⟨hlen,.inr ⟨g,cap,cur',rfl,hbg,setRow_heap w.drew g cur _ _ _ hgg,hroom,hcm,h1,h2⟩⟩,⟨⟨rfl,rfl,rfl,by show w.drew.heap.size≤_;simp,fun k _ hk=>setRow_other w.drew g k _ (fun q=>hk (by rw[q];rfl))⟩,.inl rfl⟩⟩
  ·refine(ZTE w g cap n i cur xs ys vb vc cv ev hgg hcs htake (by omega) hn hnc (by omega) hvg hys hyl h1x h1y).mono ?_;rintro e w' ⟨cur',G,rfl,h0,hg,h1,h2,h3,h4⟩;exact⟨_,rfl,⟨hlen,.inr ⟨w.heap.size,G,cur',rfl,hbase,h0,h1,h2,h3,h4⟩⟩,⟨⟨hg.os,hg.tape,hg.output,hg.size,fun k hk _=>hg.block k hk (by simp)⟩,.inr ⟨_,rfl,Zh _⟩⟩⟩
theorem ZVS:(Tryz.prog.info? 9).map (fun i=>(i.zero,i.size,i.bytes))=some (some (.string ByteArray.empty),1,16):=by kernel_rfl
theorem ZIO: ∃i0,Tryz.prog.info? 9=some i0∧i0.zero=some (.string ByteArray.empty)∧i0.size=1∧i0.bytes=16:=by
 have h:=ZVS;cases hq:Tryz.prog.info? 9 with
 |none=>rw[hq]at h;cases h
 |some i0=>rw[hq]at h;simp at h;exact⟨i0,rfl,h.1,h.2.1,h.2.2⟩
set_option maxHeartbeats 4000000 in
set_option maxRecDepth 100000 in
theorem ZUv(w : World)(base : Nat)(v0 : Value)(n : Nat)(xs ys : List Value)(vb vc : Nat)(hown : w.ownsRow base 9 1 v0 n xs)(hn : n ≤ 1000000)(hys : ys.length = 1)(hv : ∀ j u, ys[j]? = some u → w.cell? ⟨vb, j, none⟩ = some u)
    (h1y : ∀ u ∈ ys, u.oneCell' = true) (hbase : base ≤ w.heap.size) :
    Calls Tryz.prog 44 #[v0, .int .i64 n, .slice (some ⟨vb, 0, none⟩) 1 vc] w fun e w' => ∃ v', e = .returned v' ∧ w'.ownsRow base 9 1 v' (n + 1) (xs ++ ys) ∧ Grow w w' v0 v' := by
  obtain ⟨i0, hi, hz0, hz1, hz2⟩ := ZIO;have hown2 := hown;rcases hown.2 with ⟨rfl, rfl⟩ | ⟨g, cap, cur, rfl, hbg, hgg, hnc, hcm, hcs, htake⟩
  · go_enter Tryz.func44, Tryz.ntmps44
    go_wp2_with (at_builtin; refine ZBj _ rfl _ _ 34 rfl base 9 i0 (.string ByteArray.empty) 1 16 Tryz.underlying34 hi hz0 hz1 hz2 rfl (by decide) _ 0 xs rfl hown2 ⟨vb, 0, none⟩ 1 vc ys rfl (by rw [hys]) (fun j u hj => by rw [Addr.add_lit, Yi]; exact hv j u hj) h1y (by simp only [maxLen]; omega) (by omega) hbase ?_)
    intro v' w' ho hg
    go_wp2_with fail
    go_ret
    exact ⟨v', rfl, ho, hg⟩
  · have hz3 : ¬ ((1 : Int) = 0) := by omega
    by_cases hcn : n = cap
    all_goals first | subst hcn | skip
    all_goals
     go_enter Tryz.func44, Tryz.ntmps44
     go_wp2_with (at_builtin; refine ZBj _ rfl _ _ 34 rfl base 9 i0 (.string ByteArray.empty) 1 16 Tryz.underlying34 hi hz0 hz1 hz2 rfl (by decide) _ n xs rfl hown2 ⟨vb, 0, none⟩ 1 vc ys rfl (by rw [hys]) (fun j u hj => by rw [Addr.add_lit, Yi]; exact hv j u hj) h1y (by simp only [maxLen]; omega) (by omega) hbase ?_)
     intro v' w' ho hg
     go_wp2_with fail
     go_ret
     exact ⟨v', rfl, ho, hg⟩
set_option maxHeartbeats 4000000 in
set_option maxRecDepth 100000 in
theorem ZSC(w:World)(g cap n i:Nat)(cur:Array Value)(xs ys:List Value)(vb vc:Nat)(cv:Array Value)(ev:TypeId)(hgg:w.heap[g]? =some (.cells cur 9 (0,0)))(hcs:cur.size=cap)(htake:cur.toList.take (n)=xs)(hi:i<n)(hn:n≤1000000)(hroom:n+1≤cap)(hc63:cap≤9223372036854775807)
  (hvg:w.heap[vb]? =some (.cells cv ev (0,0))) (hvb:vb≠g) (hys:cv.toList.take 1=ys) (hyl:ys.length=1) (h1x: ∀u∈xs,u.oneCell'=true) (h1y: ∀u∈ys,u.oneCell'=true):
  Calls Tryz.prog 44 #[.slice (some ⟨g,0,none⟩) n cap,.int .i64 i,.slice (some ⟨vb,0,none⟩) 1 vc] w fun e w'=> ∃cur',e= .returned (.slice (some ⟨g,0,none⟩) (n+1) cap)∧w'=w.drew.setRow g cur'∧cur'.size=cap∧cur'.toList.take ((n+1))=YD xs (i) ys:=by
 obtain⟨i0,hi0,hz0,hz1,hz2⟩:=ZIO;have hz3: ¬((1:Int)=0):=by omega
 have hz4: ¬((i:Int)=(n:Int)):=by omega
 have hsz: ∀w,(Go.sizeOf 9).run Tryz.prog w= .ok 1 w:=fun w=>by simp[sizeOf,typeInfo,hi0,hz1]
 have hov: ∀o lb cb,(callFunc 83 #[.slice (some ⟨vb,0,none⟩) 1 vc,.slice (some ⟨g,o,none⟩) lb cb]).run Tryz.prog w= .ok (.value (.bool false)) w:=fun o lb cb=>by
  rw[run_callFunc_extern Tryz.func83 (by kernel_rfl) (by kernel_rfl) (by kernel_rfl) (e:=Extern.SlicesOverlaps.overlaps #[34,34] #[4]) (by kernel_rfl),
   Lib.run_overlaps_apart w 34 4 9 Tryz.underlying34 1 hsz ⟨vb,0,none⟩ ⟨g,o,none⟩ 1 vc lb cb hvb _ _ _ _ (ZGN hvg) (ZGN hgg) (by rw[hcs];omega) (ZIH hvg) (ZIH hvg)]
  rfl
 have hxl:xs.length=n:=by rw[←htake,Yv,KI];omega
 have hdl:(xs.drop (i)).length=n-i:=by rw[KC,hxl]
 have hcx: ∀j v,xs[j]? =some v→cur[j]? =some v:=fun j v hj=>by
  rw[←htake,Yy]at hj;split at hj
  ·rw[←QH];exact hj
  ·cases hj
 have hcp1: ∀ty dl dc sl sc,dl=n-i→sl=n+1-i→(Builtin.copy_ #[34,34] ty #[.slice (some ⟨g,(i+1),none⟩) dl dc,.slice (some ⟨g,i,none⟩) sl sc]).run Tryz.prog w.drew= .ok (goInt (min (sl:Int) (dl:Int))) (w.drew.setRow g (cur.toList.take ((i+1))++xs.drop (i)++cur.toList.drop ((i+1)+(xs.drop (i)).length)).toArray):=fun ty dl dc sl sc e1 e2=>
  Kw (P:=Tryz.prog) w.drew 34 34 ty 9 i0 1 Tryz.underlying34 hi0 hz1 g ((i+1)) dl dc cur hgg ⟨g,i,none⟩ sl sc (xs.drop (i)) (by rw[hdl];omega)
   (fun j v hj=>by rw[Addr.add_lit];exact KO (w:=w.drew) hgg (hcx _ _ (by rwa [Ql]at hj))) (by rw[hdl,hcs];omega) (fun v hv=>h1x v (ZBQ hv))
 obtain⟨cur1,hcur1⟩: ∃cur1,cur1=(cur.toList.take ((i+1))++xs.drop (i)++cur.toList.drop ((i+1)+(xs.drop (i)).length)).toArray:=⟨_,rfl⟩;rw[←hcur1]at hcp1;have hc1s:cur1.size=cap:=by
  rw[hcur1];simp only[ZBX,Zw,Yv,KC,KI,hxl,hcs];omega
 have hg1:(w.drew.setRow g cur1).heap[g]? =some (.cells cur1 9 (0,0)):=setRow_heap w.drew g cur _ _ _ hgg;have hv1:(w.drew.setRow g cur1).heap[vb]? =some (.cells cv ev (0,0)):=by rw[setRow_other w.drew g vb _ hvb];exact hvg
 have hcp2: ∀(W:World),(∀k:Nat,W.heap[k]? =(w.drew.setRow g cur1).heap[k]?)→ ∀ty dl dc,dl=n+1-i→(Builtin.copy_ #[34,34] ty #[.slice (some ⟨g,i,none⟩) dl dc,.slice (some ⟨vb,0,none⟩) 1 vc]).run Tryz.prog W= .ok (goInt (min ((1:Nat):Int) (dl:Int))) (W.setRow g (cur1.toList.take (i)++ys++cur1.toList.drop (i+ys.length)).toArray):=fun W hW ty dl dc e1=>
  Kw (P:=Tryz.prog) W 34 34 ty 9 i0 1 Tryz.underlying34 hi0 hz1 g (i) dl dc cur1 (by rw[hW];exact hg1) ⟨vb,0,none⟩ 1 vc ys (by rw[hyl];omega)
   (fun j v hj=>by rw[Addr.add_lit,Yi];exact KO (w:=W) (by rw[hW];exact hv1) (by rw[←QH];rw[←hys,Yy]at hj;split at hj;exact hj;cases hj)) (by rw[hyl,hc1s];omega) h1y
 obtain⟨cur2,hcur2⟩: ∃cur2,cur2=(cur1.toList.take (i)++ys++cur1.toList.drop (i+ys.length)).toArray:=⟨_,rfl⟩;have hfin:cur2.size=cap∧cur2.toList.take ((n+1))=YD xs (i) ys:=by
  constructor
  ·rw[hcur2];simp only[ZBX,Zw,Yv,KC,KI,hyl,hc1s];omega
  ·obtain⟨A,hA⟩: ∃A,A=xs.take (i):=⟨_,rfl⟩;obtain⟨B,hB⟩: ∃B,B=xs.drop (i):=⟨_,rfl⟩;obtain⟨C,hC⟩: ∃C,C=cur.toList.drop (n):=⟨_,rfl⟩;have hAl:A.length=i:=by rw[hA,Yv];omega
   have hBl:B.length=n-i:=by rw[hB,hdl]
   have hcur:cur.toList=A++B++C:=by rw[hA,hB,hC,ZDX,←htake,ZDX]
   have hCl:1≤C.length:=by rw[hC,KC,KI];omega
   have h:=ZNy A B C ys 1 hyl hCl;rw[hAl]at h;rw[hcur2,hcur1,←hB,hcur,show(i+1)=i+1 from rfl];simp only[List.toList_toArray];rw[h];unfold YD;rw[←hA,←hB,ZJb (by simp only[Zw,hAl,hyl,hBl];omega),Yp (by simp only[Zw,hAl,hyl,hBl];omega)]
 rw[←hcur2]at hcp2;clear hcur2 hcur1;have mixed:Tryz.prog.follows Departure.mixedOrders=true:=by kernel_rfl
 have hw1:IntKind.i64.wrap ((i:Int)+1)=(i:Int)+1:=by rw[IntKind.wrap_i64];omega
 have hb1:(0:Int)≤(i:Int)+1:=by omega
 have hin:i≤n:=by omega
 have htn:((i:Int)+1).toNat=i+1:=by omega
 have hb2: ¬(cap=i+1):=by omega
 have hb3:(i:Int)≤(n:Int)+1:=by omega
 have hb4: ¬(cap=i):=by omega
 go_enter Tryz.func44,Tryz.ntmps44
 go_wp2_with (simp only[hov])
 go_region_law_o (refine step_copy_runI rfl _ _ 34 34 rfl _ _ (by simp[Act.eval,Act.put]) (by simp[Act.eval,Act.put]) (hcp1 _ _ _ _ _ (by omega) (by omega)) ?_)
 go_wp2_with (at_builtin;refine wpList_copy_runI _ rfl _ _ 34 34 rfl _ _ rfl rfl (hcp2 _ (fun _=>rfl) _ _ _ (by omega)) ?_)
 go_ret
 exact⟨cur2,rfl,ZHL w.drew g _ _,hfin.1,hfin.2⟩
set_option maxHeartbeats 4000000 in
set_option maxRecDepth 100000 in
theorem ZUe(w:World)(g cap n i:Nat)(cur:Array Value)(xs ys:List Value)(vb vc:Nat)(cv:Array Value)(ev:TypeId)(hgg:w.heap[g]? =some (.cells cur 9 (0,0)))(hcs:cur.size=cap)(htake:cur.toList.take (n)=xs)(hi:i<n)(hn:n≤1000000)(hnc:n≤cap)(hroom:cap<n+1)
  (hvg:w.heap[vb]? =some (.cells cv ev (0,0))) (hys:cv.toList.take 1=ys) (hyl:ys.length=1) (h1x: ∀u∈xs,u.oneCell'=true) (h1y: ∀u∈ys,u.oneCell'=true):
  Calls Tryz.prog 44 #[.slice (some ⟨g,0,none⟩) n cap,.int .i64 i,.slice (some ⟨vb,0,none⟩) 1 vc] w fun e w'=> ∃cur' G,e= .returned (.slice (some ⟨w.heap.size,0,none⟩) (n+1) G)∧w'.heap[w.heap.size]? =some (.cells cur' 9 (0,0))∧w.grownBy w' none∧n+1≤G∧G≤maxLen∧cur'.size=G∧cur'.toList.take ((n+1))=YD xs (i) ys:=by
 obtain⟨i0,hi0,hz0,hz1,hz2⟩:=ZIO;obtain rfl:n=cap:=by omega
 have hz3: ¬((1:Int)=0):=by omega
 have hz4: ¬((i:Int)=(n:Int)):=by omega
 have hxl:xs.length=n:=by rw[←htake,Yv,KI];omega
 have hdl:(xs.drop (i)).length=n-i:=by rw[KC,hxl]
 have hcx: ∀j v,xs[j]? =some v→cur[j]? =some v:=fun j v hj=>by
  rw[←htake,Yy]at hj;split at hj
  ·rw[←QH];exact hj
  ·cases hj
 have hgl:g<w.heap.size:=(Qb hgg).1;have hvl:vb<w.heap.size:=(Qb hvg).1;have hold:(Builtin.firstCells i0.size i (.slice (some ⟨g,0,none⟩) i n)).run Tryz.prog w.drew= .ok (xs.take (i)).toArray w.drew:=by
  rw[hz1];exact run_firstCells_some w.drew 1 i ⟨g,0,none⟩ i n (xs.take (i)) (by rw[Yv];omega) (fun j v hj=>by
   rw[Addr.add_lit,Yi];rw[Yy]at hj;split at hj
   ·exact KO (w:=w.drew) hgg (hcx _ _ hj)
   ·cases hj)
 obtain⟨G,hG⟩: ∃G,G=grownCap w (n+1) n 9:=⟨_,rfl⟩;obtain⟨z,hz⟩: ∃z,z=(Value.string ByteArray.empty):=⟨_,rfl⟩;have hzs:z.cells.size=1:=by rw[hz];rfl
 obtain⟨ROW,hROW⟩: ∃ROW:Array Value,ROW=(xs.take (i)).toArray++Builtin.zeroCells z.cells (n+1-i)++Builtin.zeroCells z.cells (G-(n+1)):=⟨_,rfl⟩;have hrz: ∀ty,(Builtin.append_ #[34,3] ty #[.slice (some ⟨g,0,none⟩) i n,.int .i64 ((n:Int)+1-(i:Int))]).run Tryz.prog w= .ok (.slice (some ⟨w.heap.size,0,none⟩) (n+1) G) (w.drew.alloc (.cells ROW 9)):=fun ty=>by
  have h:=Lib.run_append_grow_zeros w 34 3 ty 9 i0 z .i64 .i64 Tryz.underlying34 Tryz.underlying3 hi0 (by rw[hz0,hz]) (some ⟨g,0,none⟩) i n (xs.take (i)) hold (n+1-i) (by omega) (by omega) (by omega) (by omega) (by rw[hz2];omega) (by rw[hz2,show i+(n+1-i)=n+1 by omega];exact growslice_fits (by omega) (by omega));rw[show i+(n+1-i)=n+1 by omega,←hG,←hROW]at h;rw[show((n:Int)+1-(i:Int))=((n+1-i:Nat):Int) by omega];exact h
 have hGn:n+1≤G:=by rw[hG];exact grownCap_ge w _ _ _
 have hGm:G≤maxLen:=by rw[hG];exact grownCap_le_maxLen w (n+1) n _ (by unfold maxLen;omega)
 have hzc: ∀k,(Builtin.zeroCells z.cells k).size=k:=fun k=>by simp[Builtin.zeroCells,hzs]
 have hRs:ROW.size=G:=by
  rw[hROW];simp only[ZW5,ZBX,Yv,hzc,hxl];omega
 obtain⟨W1,hW1⟩: ∃W1,W1=w.drew.alloc (.cells ROW 9):=⟨_,rfl⟩;have hN1:W1.heap[w.heap.size]? =some (.cells ROW 9 (0,0)):=by rw[hW1];exact heap_alloc_new w.drew _
 have hgW:W1.heap[g]? =some (.cells cur 9 (0,0)):=by rw[hW1];exact(heap_alloc_old w.drew _ hgl).trans hgg
 have hvW:W1.heap[vb]? =some (.cells cv ev (0,0)):=by rw[hW1];exact(heap_alloc_old w.drew _ hvl).trans hvg
 have hcp1: ∀(W:World),(∀k:Nat,W.heap[k]? =W1.heap[k]?)→ ∀ty dl dc,dl=n+1-i→(Builtin.copy_ #[34,34] ty #[.slice (some ⟨w.heap.size,i,none⟩) dl dc,.slice (some ⟨vb,0,none⟩) 1 vc]).run Tryz.prog W= .ok (goInt (min ((1:Nat):Int) (dl:Int))) (W.setRow w.heap.size (ROW.toList.take (i)++ys++ROW.toList.drop (i+ys.length)).toArray):=fun W hW ty dl dc e1=>
  Kw (P:=Tryz.prog) W 34 34 ty 9 i0 1 Tryz.underlying34 hi0 hz1 w.heap.size (i) dl dc ROW (by rw[hW];exact hN1) ⟨vb,0,none⟩ 1 vc ys (by rw[hyl];omega)
   (fun j v hj=>by rw[Addr.add_lit,Yi];exact KO (w:=W) (by rw[hW];exact hvW) (by rw[←QH];rw[←hys,Yy]at hj;split at hj;exact hj;cases hj)) (by rw[hyl,hRs];omega) h1y
 obtain⟨R1,hR1⟩: ∃R1,R1=(ROW.toList.take (i)++ys++ROW.toList.drop (i+ys.length)).toArray:=⟨_,rfl⟩;rw[←hR1]at hcp1;have hR1s:R1.size=G:=by
  rw[hR1];simp only[ZBX,Zw,Yv,KC,KI,hyl,hRs];omega
 have hN2:(W1.setRow w.heap.size R1).heap[w.heap.size]? =some (.cells R1 9 (0,0)):=setRow_heap W1 _ ROW _ _ _ hN1;have hgW2:(W1.setRow w.heap.size R1).heap[g]? =some (.cells cur 9 (0,0)):=by rw[setRow_other W1 _ g _ (by omega)];exact hgW
 have hcp2: ∀(W:World),(∀k:Nat,W.heap[k]? =(W1.setRow w.heap.size R1).heap[k]?)→ ∀ty dl dc sl sc,dl=n-i→sl=n-i→(Builtin.copy_ #[34,34] ty #[.slice (some ⟨w.heap.size,(i+1),none⟩) dl dc,.slice (some ⟨g,i,none⟩) sl sc]).run Tryz.prog W= .ok (goInt (min (sl:Int) (dl:Int))) (W.setRow w.heap.size (R1.toList.take ((i+1))++xs.drop (i)++R1.toList.drop ((i+1)+(xs.drop (i)).length)).toArray):=fun W hW ty dl dc sl sc e1 e2=>
  Kw (P:=Tryz.prog) W 34 34 ty 9 i0 1 Tryz.underlying34 hi0 hz1 w.heap.size ((i+1)) dl dc R1 (by rw[hW];exact hN2) ⟨g,i,none⟩ sl sc (xs.drop (i)) (by rw[hdl];omega)
   (fun j v hj=>by rw[Addr.add_lit];exact KO (w:=W) (by rw[hW];exact hgW2) (hcx _ _ (by rwa [Ql]at hj))) (by rw[hdl,hR1s];omega) (fun v hv=>h1x v (ZBQ hv))
 obtain⟨R2,hR2⟩: ∃R2,R2=(R1.toList.take ((i+1))++xs.drop (i)++R1.toList.drop ((i+1)+(xs.drop (i)).length)).toArray:=⟨_,rfl⟩;rw[←hR2]at hcp2;have hfin:R2.size=G∧R2.toList.take ((n+1))=YD xs (i) ys:=by
  constructor
  ·rw[hR2];simp only[ZBX,Zw,Yv,KC,KI,hdl,hR1s,hxl];omega
  ·obtain⟨Z,hZ⟩: ∃Z,Z=(Builtin.zeroCells z.cells (n+1-i)).toList++(Builtin.zeroCells z.cells (G-(n+1))).toList:=⟨_,rfl⟩;obtain⟨A,hA⟩: ∃A,A=xs.take (i):=⟨_,rfl⟩;have hAl:A.length=i:=by rw[hA,Yv];omega
   have hROWl:ROW.toList=A++Z:=by rw[hROW,hZ,hA];simp
   have hZl:1≤Z.length:=by rw[hZ,Zw,KI,hzc];omega
   have h:=ZMc A Z (xs.drop (i)) ys 1 hyl hZl;rw[hAl]at h;rw[hR2,hR1,hROWl,show(i+1)=i+1 from rfl];simp only[List.toList_toArray];rw[h];unfold YD;rw[←hA,ZJb (by simp only[Zw,hAl,hyl,hdl];omega),Yp (by simp only[Zw,hAl,hyl,hdl];omega)]
 have hN3:((W1.setRow w.heap.size R1).drew.setRow w.heap.size R2).heap[w.heap.size]? =some (.cells R2 9 (0,0)):=setRow_heap (W1.setRow w.heap.size R1).drew _ R1 _ _ _ hN2;have hgr:w.grownBy ((W1.setRow w.heap.size R1).drew.setRow w.heap.size R2) none:=by
  refine⟨by rw[hW1];rfl,by rw[hW1];rfl,by rw[hW1];rfl,?_,fun k hk _=> ?_⟩
  ·have e1:((W1.setRow w.heap.size R1).drew.setRow w.heap.size R2).heap.size=W1.heap.size:=by simp[World.setRow,World.drew]
   rw[e1,hW1];show w.heap.size≤(w.heap.push _).size;rw[Array.size_push];omega
  ·rw[setRow_other (W1.setRow w.heap.size R1).drew _ k _ (by omega)];show(W1.setRow w.heap.size R1).heap[k]? =_;rw[setRow_other W1 _ k _ (by omega),hW1];exact heap_alloc_old w.drew _ hk
 rw[←hW1]at hrz;have HN3:=Lib.hid hN3;clear hR2 hR1 hROW hRs hG hW1 hN3;have mixed:Tryz.prog.follows Departure.mixedOrders=true:=by kernel_rfl
 have hw1:IntKind.i64.wrap ((i:Int)+1)=(i:Int)+1:=by rw[IntKind.wrap_i64];omega
 have hb1:(0:Int)≤(i:Int)+1:=by omega
 have hin:i≤n:=by omega
 have htn:((i:Int)+1).toNat=i+1:=by omega
 have hb3:(i:Int)≤(n:Int):=by omega
 have hGi: ¬(G=i):=by omega
 have hGim: ¬(G=i+1):=by omega
 have hci: ¬(n=i):=by omega
 have hzz:(n:Int)<(n:Int)+1:=by omega
 have hG63:G≤9223372036854775807:=by unfold maxLen at hGm;omega
 go_enter Tryz.func44,Tryz.ntmps44
 go_wp2_with (first
  |(at_builtin;refine Lib.wpList_append_run _ rfl _ _ _ _ rfl _ _ rfl rfl _ _ (hrz _) ?_)
  |(at_builtin;refine wpList_copy_runI _ rfl _ _ 34 34 rfl _ _ rfl rfl (hcp1 _ (fun _=>rfl) _ _ _ (by omega)) ?_))
 go_region_law_o (refine step_copy_runI rfl _ _ 34 34 rfl (.slice (some ⟨w.heap.size,(i+1),none⟩) (n-i) (G-(i+1))) (.slice (some ⟨g,i,none⟩) (n-i) (n-i)) (by simp[Act.eval,Act.put]) (by simp[Act.eval,Act.put]) (hcp2 (W1.setRow w.heap.size R1).drew (fun _=>rfl) _ _ _ _ _ rfl rfl) ?_)
 go_wp2
 go_ret
 exact⟨R2,G,rfl,HN3.out,hgr,hGn,hGm,hfin.1,hfin.2⟩
theorem ZVD(w:World)(base:Nat)(v0:Value)(n i:Nat)(xs ys:List Value)(vb vc:Nat)(cv:Array Value)(ev:TypeId)(hown:w.ownsRow base 9 1 v0 n xs)(hi:i≤n)(hn:n≤1000000)(hvg:w.heap[vb]? =some (.cells cv ev (0,0)))(hvb:v0.ownBlock≠some vb)(hys:cv.toList.take 1=ys)(hyl:ys.length=1)
  (h1x: ∀u∈xs,u.oneCell'=true) (h1y: ∀u∈ys,u.oneCell'=true) (hbase:base≤w.heap.size):
  Calls Tryz.prog 44 #[v0,.int .i64 i,.slice (some ⟨vb,0,none⟩) 1 vc] w fun e w'=> ∃v',e= .returned v'∧w'.ownsRow base 9 1 v' (n+1) (YD xs (i) ys)∧Grow w w' v0 v':=by
 have hxl:=hown.1;rw[KQ]at hxl;by_cases hin:i=n
 ·subst hin;have e:YD xs (i) ys=xs++ys:=by unfold YD;rw[Yp (by omega),ZED (by omega),KS]
  rw[e];exact ZUv w base v0 i xs ys vb vc hown hn hyl (fun j u hj=>KO hvg (by rw[←QH];rw[←hys,Yy]at hj;split at hj;exact hj;cases hj)) h1y hbase
 ·rcases hown.2 with⟨_,rfl⟩|⟨g,cap,cur,rfl,hbg,hgg,hnc,hcm,hcs,htake⟩
  ·omega
  rw[KQ]at hcs htake;have hlen:(YD xs (i) ys).length=(n+1):=by unfold YD;simp only[Zw,Yv,KC,hxl,hyl];omega
  by_cases hroom:n+1≤cap
  ·refine(ZSC w g cap n i cur xs ys vb vc cv ev hgg hcs htake (by omega) hn hroom (by unfold maxLen at hcm;omega) hvg (fun e=>hvb (by rw[e];rfl)) hys hyl h1x h1y).mono ?_;rintro e w' ⟨cur',rfl,rfl,h1,h2⟩;refine⟨_,rfl,⟨by rw[KQ];exact hlen,.inr ⟨g,cap,cur',rfl,hbg,setRow_heap w.drew g cur _ _ _ hgg,hroom,hcm,by rw[KQ];exact h1,by rw[KQ];exact h2⟩⟩,⟨⟨rfl,rfl,rfl,by show w.drew.heap.size≤_;simp,fun k _ hk=>setRow_other w.drew g k _ (fun q=>hk (by rw[q];rfl))⟩,.inl rfl⟩⟩
  ·refine(ZUe w g cap n i cur xs ys vb vc cv ev hgg hcs htake (by omega) hn hnc (by omega) hvg hys hyl h1x h1y).mono ?_;rintro e w' ⟨cur',G,rfl,h0,hg,h1,h2,h3,h4⟩;exact⟨_,rfl,⟨by rw[KQ];exact hlen,.inr ⟨w.heap.size,G,cur',rfl,hbase,h0,h1,h2,by rw[KQ];exact h3,by rw[KQ];exact h4⟩⟩,⟨⟨hg.os,hg.tape,hg.output,hg.size,fun k hk _=>hg.block k hk (by simp)⟩,.inr ⟨_,rfl,Zh _⟩⟩⟩
end Go.Proofs.YtiogclkbccdefaaGreatDoor
end
section
namespace Go.Ab
open Go.RowKit Go.Bo
theorem ZUp{sz i:Nat}{rs:List (List X)}{r:List X}{xs ys:List Value}{w:World}{st:Nat→Nat→Prop}(hi:i≤rs.length)(hxl:xs.length=rs.length*sz)(hyl:ys.length=1*sz)(hall: ∀r∈rs,r.length=sz)
  (h1: ∀(i:Nat) (r:List X) (j:Nat) (x:X) (v:Value),rs[i]? =some r→r[j]? =some x→xs[i*sz+j]? =some v→VX w st x v)
  (hr:r.length=sz) (h2: ∀(j:Nat) (x:X) (v:Value),r[j]? =some x→ys[j]? =some v→VX w st x v)
  (k:Nat) (q:List X) (j:Nat) (x:X) (v:Value) (hk:(YD rs i [r])[k]? =some q) (hx:q[j]? =some x) (hj:j<sz) (hv:(YD xs (i*sz) ys)[k*sz+j]? =some v):VX w st x v:=by
 have hil:i*sz≤rs.length*sz:=Jg _ hi;have htl:(xs.take (i*sz)).length=(rs.take i).length*sz:=by rw[Yv,Yv,ZOR hi,ZOR (by omega)]
 have hA: ∀(a:Nat) (r:List X) (j:Nat) (x:X) (v:Value),(rs.take i)[a]? =some r→r[j]? =some x→(xs.take (i*sz))[a*sz+j]? =some v→VX w st x v:=fun a r j x v e1 e2 e3=>by
  rw[Yy]at e1 e3;split at e1
  ·split at e3
   ·exact h1 a r j x v e1 e2 e3
   ·cases e3
  ·cases e1
 have hB: ∀(a:Nat) (q:List X) (j:Nat) (x:X),[r][a]? =some q→q[j]? =some x→ ∃u,ys[a*sz+j]? =some u∧VX w st x u:=fun a q j x e1 e2=>by
  cases a with
  |succ a=>simp at e1
  |zero=>
   simp at e1;subst e1;have hjl:j<ys.length:=by rw[hyl,ZJL,←hr];exact(ZP e2).1
   refine⟨ys[j],by rw[ZHT,Yi];exact Zl hjl,h2 j x _ e2 (Zl hjl)⟩
 have hAB: ∀(a:Nat) (q:List X) (j:Nat) (x:X) (v:Value),(rs.take i++ [r])[a]? =some q→q[j]? =some x→(xs.take (i*sz)++ys)[a*sz+j]? =some v→VX w st x v:=fun a q j x v e1 e2 e3=>by
  refine ZBc htl hA hB a q j x v e1 e2 ?_ e3;have hq:q.length=sz:=by
   rcases KN.1 (YJ e1)with h|h
   ·exact hall q (ZCM h)
   ·rw[ZCC]at h;rw[h,hr]
  rw[←hq];exact(ZP e2).1
 have hC: ∀(a:Nat) (q:List X) (j:Nat) (x:X),(rs.drop i)[a]? =some q→q[j]? =some x→ ∃u,(xs.drop (i*sz))[a*sz+j]? =some u∧VX w st x u:=fun a q j x e1 e2=>by
  rw[Ql]at e1;have hq:=hall q (YJ e1);have hjl:j<sz:=by rw[←hq];exact(ZP e2).1
  have hal:i+a<rs.length:=(ZP e1).1;have hm:(i+a+1)*sz≤rs.length*sz:=Jg _ (by omega);rw[Ys,ZJL]at hm;have hlt:(i+a)*sz+j<xs.length:=by omega
  refine⟨xs[(i+a)*sz+j],?_,h1 (i+a) q j x _ e1 e2 (Zl hlt)⟩;rw[Ql,show i*sz+(a*sz+j)=(i+a)*sz+j by rw[Ys];omega];exact Zl hlt
 exact ZBc (by simp only[Zw,htl,hyl,ZVd,Ys]) hAB hC k q j x v hk hx hj hv
theorem ZHY{α:Type}(l:List α)(i:Nat)(y:List α)(h:i≤l.length):(YD l i y).length=l.length+y.length:=by
 unfold YD;simp only[Zw,Yv,KC];omega
theorem ZN.ins{P:Program}{f:FuncId}{e sz:Nat}(rs:List (List X))(r:List X)(i:Nat)(hi:i≤rs.length)(hn:rs.length≤1000000)
  (hraw: ∀(w:World) (v0:Value) (n i:Nat) (xs ys:List Value) (vb vc:Nat) (cv:Array Value) (ev:TypeId),w.ownsRow 0 e sz v0 n xs→i≤n→n≤1000000→w.heap[vb]? =some (.cells cv ev (0,0))→v0.ownBlock≠some vb→cv.toList.take sz=ys→ys.length=sz→(∀u∈xs,u.oneCell'=true)→(∀u∈ys,u.oneCell'=true)→
   Calls P f #[v0,.int .i64 i,.slice (some ⟨vb,0,none⟩) 1 vc] w fun x w'=> ∃v',x= .returned v'∧w'.ownsRow 0 e sz v' (n+1) (YD xs (i*sz) ys)∧Grow w w' v0 v'):
  ZN P f [.ref 0 rs.length 0 rs.length,.x (.int .i64 i),.ref 1 1 0 1] [.rows false e sz rs,.rows false e sz [r]] (.ref 0 (rs.length+1) 0 (rs.length+1)) [.rows false e sz (YD rs i [r]),.rows false e sz [r]]:=by
 intro c E vs R hvl;obtain⟨hsz,hv⟩:=hvl;obtain⟨v0,v1,v2,rfl⟩: ∃v0 v1 v2,vs= #[v0,v1,v2]:=by
  obtain⟨vl⟩:=vs
  match vl,hsz with
  | [a,b,c],_=>exact⟨a,b,c,rfl⟩
 have h0:=hv 0 _ v0 rfl rfl;have h1:=hv 1 _ v1 rfl rfl;have h2:=hv 2 _ v2 rfl rfl;clear hv hsz;obtain rfl:v1= .int .i64 i:=by cases h1 with|x h=>cases h;rfl
 clear h1;obtain⟨os,hos⟩: ∃os,os= [Ob.rows false e sz rs,Ob.rows false e sz [r]]:=⟨_,rfl⟩;have ho:os[0]? =some (Ob.rows false e sz rs):=by rw[hos];rfl
 have ho2:os[1]? =some (Ob.rows false e sz [r]):=by rw[hos];rfl
 have hset:os.set 0 (.rows false e sz (YD rs i [r]))= [.rows false e sz (YD rs i [r]),.rows false e sz [r]]:=by rw[hos];rfl
 rw[←hset];rw[←hos]at R h0 h2;obtain⟨p,hp,hok⟩:=R.at ho;obtain⟨q,hq,hok2⟩:=R.at ho2;have hlt:0<os.length:=by rw[hos];simp
 have hat: ∀ {id:Nat} {rs:List (List X)} {v:Value} {p:Nat×Value},V E os (.ref id rs.length 0 rs.length) v→os[id]? =some (.rows false e sz rs)→E.ob[id]? =some p→v=p.2:=fun hx ho hp=>by
  obtain⟨h1,h2⟩:=hx.ref_inv.at ho rfl;obtain⟨h3,b,a0,cap,a',cap',h4,h5,h6,h7,h8,h9⟩:=h2 rfl;rw[hp]at h4;obtain⟨h10,h11⟩:=h8 rfl;rw[h10,h11]at h5;rw[h5,ZAb h4]
 obtain rfl:=hat h0 ho hp;obtain rfl:=hat (rs:= [r]) h2 ho2 hq;obtain⟨xs,k1,k2,k3⟩:=hok;obtain⟨ys,l1,l2,l3⟩:=hok2;have hown:=k1.owns;have hrl:r.length=sz:=l2 r (by simp);rcases l1.owns.2 with⟨_,h⟩|⟨vb,vcap,cv,hq2,_,hvg,hvn,hvm,hvs,hvt⟩
 ·simp at h
 have hyl:ys.length=1*sz:=l1.1;have hx1: ∀u∈xs,u.oneCell'=true:=fun u hu=>by
  obtain⟨m,hm⟩:=ZCl.1 hu;have hml:=(ZP hm).1;rw[k1.1]at hml;have hsz0:0<sz:=by
   rcases ZLQ sz with h|h
   ·subst h;simp at hml
   ·exact h
  have hmd:m/sz<rs.length:=(ZWG hsz0).2 hml;have hrr:=Zl hmd;have hrl2:=k2 _ (YY hmd);have hmm:m % sz<(rs[m/sz]).length:=by rw[hrl2];exact Nat.mod_lt _ hsz0
  exact(k3 (m/sz) _ (m % sz) _ u hrr (Zl hmm) (by rw[ZGZ,ZQ0];exact hm)).one
 have hy1: ∀u∈ys,u.oneCell'=true:=fun u hu=>by
  obtain⟨m,hm⟩:=ZCl.1 hu;have hml:=(ZP hm).1;have hmm:m<r.length:=by rw[hrl];omega
  exact(l3 0 r m _ u (by simp) (Zl hmm) (by rw[ZHT,Yi];exact hm)).one
 have hdis:p.2.ownBlock≠some vb:=fun h=>by
  have:=R.dis 0 1 _ _ p q vb ho hp ho2 hq h (by show q.2.ownBlock=some vb;rw[hq2];rfl);omega
 have hraw2:=hraw E.w p.2 rs.length i xs ys vb vcap cv e hown hi hn hvg hdis (by rw[←hvt];simp) (by omega) hx1 hy1;rw[hq2];refine hraw2.mono ?_;rintro x w' ⟨v',rfl,ho',hG⟩;have hil:=ZHY rs i [r] hi;have hall: ∀q∈YD rs i [r],q.length=sz:=fun q hq=>by
  unfold YD at hq;rcases KN.1 hq with h|h
  ·rcases KN.1 h with h|h
   ·exact k2 q (ZCM h)
   ·rw[ZCC]at h;rw[h,hrl]
  ·exact k2 q (ZBQ h)
 have hrow:Je w' false e sz (YD rs i [r]).length v' (YD xs (i*sz) ys):=by rw[hil];exact Je.of_owns ho' false
 obtain⟨R',ev⟩:=R.set ho hp w' (.rows false e sz (YD rs i [r])) (p.1,v') (Kept.of_grown hG.grown) (fun b hb=>by
  have hb':v'.ownBlock=some b:=hb;rcases hG.own with h|⟨g,h,h2⟩
  ·left;show p.2.ownBlock=some b;rw[←h];exact hb'
  ·right;rw[h]at hb';cases hb';exact .inl h2) (fun sz1 n1 h=>by
   simp[Ob.sl?]at h;obtain⟨rfl,rfl⟩:=h;exact⟨(YD rs i [r]).length,rfl,.inr (by rw[hil];simp)⟩) (fun ds h=>by cases h) (fun ev=>by
   refine⟨YD xs (i*sz) ys,hrow,hall,fun k q j x v e1 e2 e3=> ?_⟩;refine VX.mono (w:=E.w) (st:=E.st) (fun b o hb=>ev.st b o hb) ?_;exact ZUp hi k1.1 hyl k2 k3 hrl (fun j x v e1 e2=>l3 0 r j x v (by simp) e1 (by rw[ZHT,Yi];exact e2)) k q j x v e1 e2 (by rw[←hall q (YJ e1)];exact(ZP e2).1) e3)
 refine⟨v',_,rfl,rfl,R',by rw[←hos];exact ev,?_⟩;have hob':(E.ob.set 0 (p.1,v'))[0]? =some (p.1,v'):=by simp[R.len,hlt]
 rw[show rs.length+1=(YD rs i [r]).length by rw[hil];rfl];refine .ref ⟨.rows false e sz (YD rs i [r]),sz,(YD rs i [r]).length,by rw[ZFY hlt],rfl,?_⟩ ?_
 ·refine⟨Zh _,fun _=>⟨by omega,p.1,?_⟩⟩;rcases hrow.2 with⟨h3,h4⟩|⟨g,cap,cells,fr,h3,h4,h5,h6,h7⟩
  ·rw[hil]at h4;simp at h4
  ·subst h3;exact⟨_,cap,_,cap,hob',rfl,h5,h6,fun _=>⟨rfl,rfl⟩,fun _ ad h=>(by cases h;simp),fun h=>(by cases h),fun ad h=>(by cases h;rfl)⟩
 ·rcases hrow.2 with⟨h3,h4⟩|⟨g,cap,cells,fr,h3,h4,h5,h6,h7⟩<;>subst h3<;>rfl
end Go.Ab
namespace Go.Proofs.YtiogclkbccdefaaGreatDoor
open Go.RowKit Go.Bo Go.Ab
theorem ZaU(rs:List (List X))(r:List X)(i:Nat)(hi:i≤rs.length)(hn:rs.length≤1000000):ZN Tryz.prog 126 [.ref 0 rs.length 0 rs.length,.x (.int .i64 i),.ref 1 1 0 1] [.rows false 94 2 rs,.rows false 94 2 [r]] (.ref 0 (rs.length+1) 0 (rs.length+1)) [.rows false 94 2 (YD rs i [r]),.rows false 94 2 [r]]:=
 ZN.ins rs r i hi hn fun w v0 n i xs ys vb vc cv ev h1 h2 h3 h4 h5 h6 h7 h8 h9=>ZWz w 0 v0 n i xs ys vb vc cv ev h1 h2 h3 h4 h5 h6 h7 h8 h9 (JA _)
end Go.Proofs.YtiogclkbccdefaaGreatDoor
end
section
namespace Go.Proofs.YtiogclkbccdefaaGreatDoor
open Go.RowKit Go.Bo Go.Ab
def Ko(c:UInt8):UInt8:=if 65≤c.toNat∧c.toNat≤90 then UInt8.ofNat (c.toNat+32)else c
theorem ZLs{c:UInt8}(h:65≤c.toNat∧c.toNat≤90):((Ko c).toNat:Int)=(c.toNat:Int)-65+97:=by
 unfold Ko;rw[if_pos h];simp;omega
def ZE(s:List UInt8):List UInt8:=s.map Ko
def Qs(s:List UInt8)(i:Nat):List UInt8:=(s.take i).map Ko++s.drop i
theorem ZGK(s:List UInt8)(i:Nat):(Qs s i).length=s.length:=by simp[Qs];omega
theorem ZTu(s:List UInt8):Qs s 0=s:=by simp[Qs]
theorem ZVY(s:List UInt8)(i:Nat)(h:s.length≤i):Qs s i=ZE s:=by simp[Qs,ZE,Yp h,ZED h]
theorem ZVn(s:List UInt8)(i:Nat)(h:i<s.length):(Qs s i)[i]'(by rw[ZGK];exact h)=s[i]:=by
 simp[Qs,List.getElem_append,ZOR (Nat.le_of_lt h)]
theorem ZWX(s:List UInt8)(i:Nat)(h:i<s.length)(c:UInt8)(hc:c=Ko s[i]):(Qs s i).set i c=Qs s (i+1):=by
 subst hc;unfold Qs;rw[KT h,ZEc h,ZIA _ _ (by simp;omega)];have hm:i-((s.take i).map Ko).length=0:=by simp;omega
 rw[hm,ZCJ,Jq,KJ];rfl
theorem ZWn(s:List UInt8)(i:Nat)(h:i<s.length):((Qs s i).map Zf)[i]? =some [X.int .u8 s[i].toNat]:=by
 have h2:i<(Qs s i).length:=by rw[ZGK];exact h
 rw[Zr,Zl h2,ZVn s i h];rfl
theorem ZSh(s:List UInt8)(i:Nat)(h:i<s.length)(hc:65≤s[i].toNat∧s[i].toNat≤90):((Qs s i).map Zf).set i [X.int .u8 (IntKind.u8.wrap (IntKind.u8.wrap ((s[i].toNat:Int)-65)+97))]=(Qs s (i+1)).map Zf:=by
 have e1:IntKind.u8.wrap ((s[i].toNat:Int)-65)=(s[i].toNat:Int)-65:=IntWalk.u8_in _ (by omega);have e2:IntKind.u8.wrap ((s[i].toNat:Int)-65+97)=((Ko s[i]).toNat:Int):=by rw[IntWalk.u8_in _ (by omega),ZLs hc]
 rw[e1,e2,←ZWX s i h _ rfl,ZJn];rfl
theorem ZSY(s:List UInt8)(i:Nat)(h:i<s.length)(hc:Ko s[i]=s[i]):Qs s i=Qs s (i+1):=by
 unfold Qs;rw[KT h,Jq,KJ,ZEc h];simp[hc]
theorem ZQV{c:UInt8}(h: ¬(65≤c.toNat∧c.toNat≤90)):Ko c=c:=if_neg h
theorem ZLF(s:List UInt8)(hl:s.length≤140737488355328):ZC Tryz.prog 63 [.x (.str s)] (.x (.str (ZE s))):=by
 refine ZJ.pure (fC 63 true ?_) rfl;intro C0 E0;have uu:=KE @ZGK @Kv @Kb;have tT:=(ZF:SsOk Tryz.prog ZS);refine nz ?_;refine rg tT [0] ?_;refine rg tT [3] ?_;refine rg tT [3,8,9,10] ?_;refine WI.loop (fun φ os=> ∃(i:Nat),φ= [(3,.ref 0 s.length 0 s.length),(8,.ref 0 s.length 0 s.length),(9,.x (.int .i64 s.length)),(10,.x (.int .i64 i))]∧os= [.rows true 5 1 ((Qs s i).map Zf)]∧i≤s.length) (ZV s.length 10) ?_ (fun φ os hI=> ?_)
 ·exact⟨0,rfl,by rw[ZTu],by omega⟩
 ·obtain⟨i,rfl,rfl,hi⟩:=hI;refine nz ?_;refine rg tT [3,8,9,10,11] ?_;refine cd (fun h0=> ?_) (fun h0=> ?_)
  ·have hi4:i<s.length:=by omega
   have uu:=Yq uu (ZWn s i hi4);have hb8:s[i].toNat<256:=ZLJ _;refine rg tT [3,4,5,8,9,10] ?_;refine rg tT [3,4,5,8,9,10,20] ?_;refine cd (fun h1=> ?_) (fun h1=> ?_)
   ·have hcs:65≤s[i].toNat∧s[i].toNat≤90:=by omega
    have uu:=Yq uu (ZSh s i hi4 hcs);refine rg tT [3,8,9,10] ?_;refine rg tT [3,8,9,10] ?_;exact⟨⟨i+1,by first|rfl|simp,by first|rfl|rw[←hset],by omega⟩,by simp[ZV,Ab.get,D.val,ZG];omega⟩
   ·have hcs: ¬(65≤s[i].toNat∧s[i].toNat≤90):=by omega
    have hset:=ZSY s i hi4 (ZQV hcs);refine rg tT [3,8,9,10] ?_;exact⟨⟨i+1,by first|rfl|simp,by first|rfl|rw[←hset],by omega⟩,by simp[ZV,Ab.get,D.val,ZG];omega⟩
  ·have e8:((Qs s i).map Zf).take s.length=(ZE s).map Zf:=by rw[Yp (by simp[ZGK]),ZVY s i (by omega)]
   have uu:=Yq uu e8;refine rg tT [2] ?_;refine lf ?_
   first|rfl|exact⟨rfl,rfl⟩|trivial
def ZAM:List D→Option (Bool×D)
 | [.x (.str s)]=>some (decide (s.length≤1000000),.x (.str (ZE s)))
 |_=>none
theorem ZLz: ∀args r,ZAM args=some (true,r)→ZC Tryz.prog 63 args r:=by
 intro args r h;unfold ZAM at h;split at h
 ·rename_i s;simp only[Za,Zb,ZQ,Zg,true_and]at h;obtain⟨h1,rfl⟩:=h;exact(ZLF s (by omega))
 ·cases h
end Go.Proofs.YtiogclkbccdefaaGreatDoor
end
section
namespace Go.Proofs.YtiogclkbccdefaaGreatDoor
open Go.RowKit Go.Bo Go.Ab
theorem ZG9(s:List UInt8):(ZE s).length=s.length:=by simp[ZE]
theorem Kq(l:List UInt8)(c:UInt8):(l++ [c]).map Zf=l.map Zf++ [[X.int .u8 c.toNat]]:=by rw[Jq];rfl
abbrev Tx:=List UInt8
end Go.Proofs.YtiogclkbccdefaaGreatDoor
end
section
namespace Go.Proofs
open Go.Shelf Go.RowKit Go.Lib
set_option maxHeartbeats 1000000 in
theorem Any1.strings_Split_one{P:Program}{ρ:Ren}(L:Lays.n146 P ρ)(hi9:(P.info? (ρ.t 9)).map (fun i=>(i.zero,i.size,i.bytes))=some (some (.string ByteArray.empty),1,16))(s:ByteArray)(b:UInt8)(w:World)(hs:s.size<4294967281):
  Calls P (ρ.f 146) #[.string s,.string ⟨#[b]⟩] w fun e w'=>
   e= .returned (.slice (some ⟨w.heap.size,0,none⟩) (Lib.countB s ⟨#[b]⟩+1) (Lib.countB s ⟨#[b]⟩+1))∧w'=w.alloc (.cells ((Lib.splitB ⟨#[b]⟩ 0 (Lib.countB s ⟨#[b]⟩) s).map Value.string).toArray (ρ.t 9)):=by
 have h1:1≤(⟨#[b]⟩:ByteArray).size:=Zh _;have hle:=Lib.countB_le ⟨#[b]⟩ h1 s.size s (Zh _);have hlen:=Lib.splitB_all ⟨#[b]⟩ h1 0 _ s rfl;have hI: ∀(x:ByteArray) (c:Array Value),x.size≤s.size→Calls P (ρ.f 143) #[.string x,.string ⟨#[b]⟩] (w.alloc (.cells c (ρ.t 9))) fun e w'=>e= .returned (.int .i64 (Lib.indexB x ⟨#[b]⟩))∧w'=w.alloc (.cells c (ρ.t 9)):=fun x c hx=>by
  refine(Any.strings_Index_one {L with} x b _).mono fun e w' ⟨he,hw⟩=>⟨?_,hw⟩
  rw[he,Lib.indexB,Lib.index_one]
 have hC:Calls P (ρ.f 138) #[.string s,.string ⟨#[b]⟩] w fun e w'=>e= .returned (.int .i64 (Lib.countB s ⟨#[b]⟩))∧w'=w:=by
  refine(Any.strings_Count_one {L with} s b w).mono fun e w' ⟨he,hw⟩=>⟨?_,hw⟩
  rw[he];show _=Ending.returned (Value.int .i64 ((Lib.count s.data.toList [b]:Nat):Int));rw[Lib.count_one];rfl
 have c:=Any.strings_genSplit_core {L with} hi9 s ⟨#[b]⟩ 0 (-1) (Lib.countB s ⟨#[b]⟩+1) w hs h1 (JA _) hI hC (by decide) (by decide) (by rw[if_pos (by decide)];omega);rw[Nat.add_sub_cancel,hlen]at c;have e2:Lib.cellsOf (Lib.splitB ⟨#[b]⟩ 0 (Lib.countB s ⟨#[b]⟩) s) (Lib.countB s ⟨#[b]⟩+1)=((Lib.splitB ⟨#[b]⟩ 0 (Lib.countB s ⟨#[b]⟩) s).map Value.string).toArray:=by rw[←hlen];exact Lib.cellsOf_full _
 rw[e2]at c;have t3:=L.t3;have t9:=L.t9;have t31:=L.t31;have a3:=L.a3;have a9:=L.a9;have a31:=L.a31;have z3:=L.z3;have v3:=L.v3;have z9:=L.z9;have v9:=L.v9;have z31:=L.z31;have v31:=L.v31;have e221: ∀args w,(callFunc (ρ.f 221) args).run P w= .ok (.enter (ρ.f 221) args) w:=enters_of L.f221 (by kernel_rfl) rfl
 go_enter L.f146,Body.n146_ntmps ρ
 go_wp2_with (go_at_fn (ρ.f 221);refine c.mono ?_;rintro e w' ⟨rfl,hw⟩;rw[hw])
 go_ret
 exact⟨rfl,rfl⟩
end Go.Proofs
namespace Go.Proofs.YtiogclkbccdefaaGreatDoor
open Go.RowKit Go.Bo Go.Ab
def Kn(c:UInt8):List UInt8→List (List UInt8)
 | []=> [[]]
 |b::l=>if b=c then []::Kn c l else match Kn c l with
  |x::r=>(b::x)::r
  | []=> [[b]]
theorem ZZE(c:UInt8): ∀s,Kn c s≠ []
 | []=>by simp[Kn]
 |b::l=>by unfold Kn;split;simp;split<;>simp
theorem ZYb(c b:UInt8)(l:List UInt8)(h:b≠c): ∀k,Lib.splitK [c] 0 k (b::l)=match Lib.splitK [c] 0 k l with
  |x::r=>(b::x)::r
  | []=> [[b]]
 |0=>rfl
 |k+1=>by
  have hp: [c].isPrefixOf (b::l)=false:=by simp[List.isPrefixOf];exact fun e=>h e.symm
  simp only[Lib.splitK,Lib.index,hp,Yz,if_false];by_cases hi:(Lib.index l [c]== -1)=true
  ·simp[hi]
  ·have hn:=Lib.index_ge l [c];simp only[hi,Yz,if_false];simp at hi;have h1:(Lib.index l [c]+1== -1)=false:=by simp;omega
   obtain⟨n,hn⟩: ∃n:Nat,Lib.index l [c]=n:=⟨(Lib.index l [c]).toNat,by omega⟩;simp[hn,h1];intro h;omega
theorem ZSg(c:UInt8): ∀s,Lib.splitK [c] 0 (Lib.count s [c]) s=Kn c s
 | []=>by
  have:Lib.count [] [c]=0:=by rw[Lib.count_one];rfl
  rw[this];rfl
 |b::l=>by
  have ih:=ZSg c l;by_cases h:b=c
  ·subst h;rw[Lib.count_cons_eq,ZK7];have hp: [b].isPrefixOf (b::l)=true:=by simp[List.isPrefixOf]
   simp only[Lib.splitK,Lib.index,hp,if_true,Kn];simp[ih]
  ·rw[Lib.count_cons_ne _ _ _ h,ZYb _ _ _ h,ih,Kn,if_neg h]
theorem ZYs(s:List UInt8)(c:UInt8)(h:s.length≤1000000):ZC Tryz.prog 189 [.x (.str s),.x (.str [c])] (.x (.sl (rows ZB (Kn c s)))):=by
 intro w st vs hst hvl;obtain⟨hsz,hv⟩:=hvl;obtain⟨v0,v1,rfl⟩: ∃v0 v1,vs= #[v0,v1]:=by
  obtain⟨vl⟩:=vs
  match vl,hsz with
  | [a,b],_=>exact⟨a,b,rfl⟩
 have h0:=hv 0 _ v0 rfl rfl;have h1:=hv 1 _ v1 rfl rfl;clear hv hsz;cases h0 with
 |x h0=>
 cases h1 with
 |x h1=>
 cases h1 with
 |str _=>
 cases h0 with
 |str _=>
 have hlen:=Lib.splitB_all ⟨#[c]⟩ (Zh _) 0 _ (ZK s) rfl;have hD:(Lib.splitB ⟨#[c]⟩ 0 (Lib.countB (ZK s) ⟨#[c]⟩) (ZK s)).map (·.data.toList)=Kn c s:=by
  rw[Lib.splitB_data];have e:(ZK s).data.toList=s:=by simp[ZK]
  show Lib.splitK [c] 0 (Lib.count (ZK s).data.toList [c]) (ZK s).data.toList=_;rw[e];exact ZSg c s
 have hle:=Lib.countB_le ⟨#[c]⟩ (Zh _) (ZK s).size (ZK s) (Zh _);have hbs:(ZK s).size=s.length:=by simp[ZK,ByteArray.size]
 refine(Any1.strings_Split_one Tryz.lays146 (by kernel_rfl) (ZK s) c w (by omega)).mono ?_;generalize Lib.splitB ⟨#[c]⟩ 0 (Lib.countB (ZK s) ⟨#[c]⟩) (ZK s)=ps at hlen hD⊢;generalize Lib.countB (ZK s) ⟨#[c]⟩=k at hlen hle⊢;rintro e w' ⟨rfl,rfl⟩;refine⟨_,fun b o=>st b o∨(b=w.heap.size∧o<k+1),rfl,?_,fun _ _ h=> .inl h,?_,?_⟩
 ·exact JN w _
 ·rintro b o (h|⟨rfl,h⟩)
  ·exact .inl h
  ·exact .inr ⟨Zh _,by simp⟩
 ·rw[←hD];refine .x (.sl _ _ _ _ 1 (fun i _=> .string (ps[i]?.getD default)) ?_ (Zh _) ?_ ?_ ?_ (fun h=>by cases h) (fun _ ad h=>by cases h;rfl) ?_)
  ·rw[YC,YL];exact hlen
  ·show k+1≤maxLen;simp only[maxLen];omega
  ·intro r hr;simp only[rows,YQ]at hr;obtain⟨x,_,rfl⟩:=hr;rfl
  ·intro i j hi hj;have hj0:j=0:=by omega
   subst hj0;refine⟨_,_,rfl,.inr ⟨rfl,by omega⟩,?_⟩;have hip:i<ps.length:=by omega
   rw[show 0+i*1+0=i by omega,World.cell?_alloc_at _ _ _ _ rfl];simp only[List.getElem?_toArray,Zr,Zl hip,Yd,QG]
  ·intro i j r x hr hx;simp only[rows,Zr,Option.map_map,Ky]at hr;obtain⟨y,hy,rfl⟩:=hr;simp only[Function.comp,ZB,RC.enc]at hx;rcases j with _|j
   ·simp at hx;subst hx;simp only[hy,QG];have:y=ZK y.data.toList:=by simp[ZK]
    conv=>rhs;rw[this]
    exact .str _
   ·simp at hx
theorem ZOz:Go.Ab.Enters Tryz.prog 189:=Go.Proofs.enters_of Tryz.lays146.f146 (by kernel_rfl) rfl
theorem ZOg(l:List (List UInt8)):(l.map ZK).map (·.data.toList)=l:=by
 rw[KP]
 conv=>rhs;rw[←ZLK l]
 exact ZBY fun x _=>by simp[ZK]
theorem ZZb(l:List (List UInt8))(sep:List UInt8)(h:(Lib.join l sep).length≤140737488355328)(hl:l.length≤140737488355328):ZC Tryz.prog 77 [.x (.sl (rows ZB l)),.x (.str sep)] (.x (.str (Lib.join l sep))):=by
 intro w st vs hst hvl;obtain⟨hsz,hv⟩:=hvl;obtain⟨v0,v1,rfl⟩: ∃v0 v1,vs= #[v0,v1]:=by
  obtain⟨vl⟩:=vs
  match vl,hsz with
  | [a,b],_=>exact⟨a,b,rfl⟩
 have h0:=hv 0 _ v0 rfl rfl;have h1:=hv 1 _ v1 rfl rfl;clear hv hsz;cases h0 with
 |x h0=>
 cases h1 with
 |x h1=>
 cases h1 with
 |str _=>
 cases h0 with
 |sl _ a n c sz val hn hc hm hsz hcell hnil hsp hval=>
  rw[YC]at hn;subst hn
  match l,h,hl,hc,hsz,hcell,hval with
  | [],_,_,_,_,_,_=>
   refine(Tryz.strings_Join_none a c (ZK sep) w).mono ?_;rintro e w' ⟨rfl,rfl⟩;exact⟨_,st,rfl,Kept.refl _ _,fun _ _ h=>h,fun _ _ h=> .inl h,.x (.str [])⟩
  |x::r,h,hl,hc,hsz,hcell,hval=>
   obtain rfl:1=sz:=hsz [.str x] (by simp[rows,ZB]);obtain⟨b,off,rfl,hs0,_⟩:=hcell 0 0 (by simp) (by omega);have hcells: ∀(j:Nat) y,((x::r).map ZK)[j]? =some y→w.cell? ⟨b,off+j,none⟩=some (.string y):=by
    intro j y hy;rw[Zr]at hy;obtain⟨z,hz,rfl⟩:=ZT hy;have hj:j<(x::r).length:=(ZP hz).1;obtain⟨b',off',e,_,hw⟩:=hcell j 0 hj (by omega);simp only[Za,Addr.mk.injEq]at e;obtain⟨rfl,rfl,_⟩:=e;have hx:=hval j 0 [.str z] (.str z) (by simp only[rows,Zr,hz];rfl) rfl;rw[show off+j=off+j*1+0 by omega,hw];generalize val j 0=u at hx;cases hx with
    |str _=>rfl
   have hlen:(Lib.join (((x::r).map ZK).map (·.data.toList)) (ZK sep).data.toList).length≤140737488355328:=by
    rw[ZOg];simpa[ZK]using h
   have hc':((x::r).map ZK).length≤c:=by rw[YL];exact hc
   have:=Tryz.strings_Join b off c ((x::r).map ZK) (ZK sep) w hcells (hst _ _ hs0) (by rw[YL];exact hl) hc' hlen;rw[YL,ZOg]at this;refine this.mono ?_;rintro e w' ⟨rfl,hb⟩;refine⟨_,st,rfl,Kept.of_none (KU.grown hb none),fun _ _ h=>h,fun _ _ h=> .inl h,?_⟩;have:(ZK sep).data.toList=sep:=by simp[ZK]
   rw[this];exact .x (.str _)
theorem ZCy:Go.Ab.Enters Tryz.prog 77:=Go.Proofs.enters_of Tryz.lays156.f156 (by kernel_rfl) rfl
end Go.Proofs.YtiogclkbccdefaaGreatDoor
end
section
namespace Go.Proofs.YtiogclkbccdefaaGreatDoor
open Go.RowKit Go.Bo Go.Ab
theorem ZNM(s:List UInt8)(i:Nat)(h:i<s.length):(ZK s).get! i=s[i]:=by
 show(ZK s).data[i]! =_;simp[ZK,h]
theorem ZJt{s:List UInt8}{i:Nat}(h:i<s.length)(hb:s[i].toNat<128):Js s i=(s[i].toNat,1):=by
 unfold Js;rw[Lib.decode_at,ZNM s i h];unfold Lib.decodeN;rw[if_pos hb]
theorem ZPT{s:List UInt8}{i:Nat}(h:i<s.length)(hb: ¬s[i].toNat<128):128≤(Js s i).1∧1≤(Js s i).2:=by
 unfold Js;rw[Lib.decode_at,ZNM s i h];rcases Lib.decodeN_shape ((ZK s).size-i) s[i].toNat ((ZK s).get! (i+1)).toNat ((ZK s).get! (i+2)).toNat ((ZK s).get! (i+3)).toNat with⟨h1,_⟩|⟨_,_,_,h1,h2⟩|⟨_,_,_,_,h1,_,h2⟩|⟨_,_,_,_,_,h1,_,h2⟩|h2
 ·omega
 all_goals(rw[h2];simp only;omega)
theorem ZaL(s p:List UInt8):ZC Tryz.prog 201 [.x (.str s),.x (.str p)] (.tup [.x (.str (Lib.trimPrefix s p)),.x (.bool (Lib.hasPrefix s p))]):=by
 intro w st vs hst hvl;obtain⟨hsz,hv⟩:=hvl;obtain⟨v0,v1,rfl⟩: ∃v0 v1,vs= #[v0,v1]:=by
  obtain⟨vl⟩:=vs
  match vl,hsz with
  | [a,b],_=>exact⟨a,b,rfl⟩
 have h0:=hv 0 _ v0 rfl rfl;have h1:=hv 1 _ v1 rfl rfl;cases h0 with
 |x h0=>
 cases h1 with
 |x h1=>
 cases h1 with
 |str _=>
 cases h0 with
 |str _=>
 refine(Tryz.strings_CutPrefix (ZK s) (ZK p) w).mono ?_;rintro e w' ⟨rfl,rfl⟩;refine⟨_,st,rfl,Kept.refl _ _,fun _ _ h=>h,fun _ _ h=> .inl h,?_⟩;have e1:(ZK s).data.toList=s:=by simp[ZK]
 have e2:(ZK p).data.toList=p:=by simp[ZK]
 rw[e1,e2];exact V.tup2 (V.mkstr _ _ _) _
theorem ZFe:Go.Ab.Enters Tryz.prog 201:=Go.Proofs.enters_of Tryz.lays103.f103 (by kernel_rfl) rfl
def Qe:List D→Option (Bool×D)
 | [.x (.str s),.x (.str p)]=>some (true,.tup [.x (.str (Lib.trimPrefix s p)),.x (.bool (Lib.hasPrefix s p))])
 |_=>none
theorem ZJk: ∀args r,Qe args=some (true,r)→ZC Tryz.prog 201 args r:=by
 intro args r h;unfold Qe at h;split at h
 ·rename_i s p;simp only[Za,Zb,ZQ,Zg,true_and]at h;obtain rfl:=h;exact(ZaL s p)
 ·cases h
def QF:List D→Option (Bool×D)
 | [.x (.sl R),.x (.str sep)]=>(ZZ ZB R).bind fun l=>some (decide ((Lib.join l sep).length≤140737488355328∧l.length≤140737488355328),.x (.str (Lib.join l sep)))
 |_=>none
theorem ZEj: ∀args r,QF args=some (true,r)→ZC Tryz.prog 77 args r:=by
 intro args r h;unfold QF at h;split at h
 ·rename_i R sep;obtain⟨l,hr0,h⟩:=Zt h;simp only[Za,Zb,ZQ,Zg,true_and]at h;obtain⟨h1,rfl⟩:=h;rw[←ZY ZO hr0];exact(ZZb l sep h1.1 h1.2)
 ·cases h
def ZFn:List D→Option (Bool×D)
 | [.x (.str s),.x (.str [c])]=>some (decide (s.length≤1000000),.x (.sl (rows ZB (Kn c s))))
 |_=>none
theorem ZT8: ∀args r,ZFn args=some (true,r)→ZC Tryz.prog 189 args r:=by
 intro args r h;unfold ZFn at h;split at h
 ·rename_i s c;simp only[Za,Zb,ZQ,Zg,true_and]at h;obtain⟨h1,rfl⟩:=h;exact(ZYs s c h1)
 ·cases h
def ZCG(s:List UInt8):List (List UInt8):=(Kn 32 s).filter fun x=>decide (x≠ [])
def jn:List (List UInt8)→List UInt8
 | []=> []
 | [x]=>x
 |x::y::r=>x++32::jn (y::r)
theorem ZLd: ∀l,Lib.join l [32]=jn l
 | []=>rfl
 | [x]=>by rw[Lib.join_one];rfl
 |x::y::r=>by
  have:=ZLd (y::r);simp only[Lib.join,List.intercalate,List.intersperse_cons_cons,ZNV,jn]at this⊢;rw[this];rfl
def wt(l:List (List UInt8)):Nat:=(l.map fun x=>x.length+1).sum
theorem ZXH: ∀l:List (List UInt8),l≠ []→(jn l).length+1=wt l
 | [x],_=>by simp[jn,wt]
 |x::y::r,_=>by
  have:=ZXH (y::r) (by simp);show(x++32::jn (y::r)).length+1=(x.length+1)+wt (y::r);rw[Zw,Jh];omega
theorem ZOs(c:UInt8): ∀s,wt (Kn c s)=s.length+1
 | []=>rfl
 |b::l=>by
  have ih:=ZOs c l;unfold Kn;split
  ·show(0+1)+wt (Kn c l)=_;rw[ih,Jh];omega
  ·split
   ·rename_i y r he;rw[he]at ih;have e:wt (y::r)=(y.length+1)+wt r:=rfl;have e2:wt ((b::y)::r)=(y.length+1+1)+wt r:=rfl;rw[Jh];omega
   ·rename_i he;exact absurd he (ZZE c l)
theorem ZL8(p:List UInt8→Bool): ∀l,wt (l.filter p)≤wt l
 | []=>Zh _
 |x::l=>by
  have:=ZL8 p l;have e:wt (x::l)=(x.length+1)+wt l:=rfl;rw[ZQz];split
  ·have e:wt (x::l.filter p)=(x.length+1)+wt (l.filter p):=rfl;omega
  ·omega
theorem ZSc: ∀l:List (List UInt8),l.length≤wt l
 | []=>Zh _
 |x::l=>by
  have:=ZSc l;have e:wt (x::l)=(x.length+1)+wt l:=rfl;rw[Jh];omega
theorem ZP2(c:UInt8)(s:List UInt8):(Kn c s).length≤s.length+1:=by have:=ZSc (Kn c s);rw[ZOs]at this;exact this
theorem ZT6(s:List UInt8):(ZCG s).length≤s.length+1:=ZHz (ZWH _ _) (ZP2 32 s)
theorem ZQh(s:List UInt8):(jn (ZCG s)).length≤s.length:=by
 by_cases h:ZCG s= []
 ·rw[h];simp[jn]
 ·have h1:=ZXH _ h;have h2:wt (ZCG s)≤_:=ZL8 _ _;rw[ZOs]at h2;omega
def blk(s:List UInt8):List UInt8:=jn (ZCG s)
theorem ZI6(x:List UInt8)(l:List (List UInt8))(p:List UInt8→Bool):(l++ [x]).filter p=if p x then l.filter p++ [x]else l.filter p:=by
 rw[List.filter_append,ZQz,List.filter_nil];split<;>simp
def ZEQ:Tabs:=ZU (ZU (Jp (ZU (ZS) 77 QF) 77 (QX QF)) 189 ZFn) 201 Qe
theorem ZTr:SsOk Tryz.prog ZEQ:=ZH (ZH (Yx (ZH (ZF) ZCy ZEj) ZCy (ZCo ZEj)) ZOz ZT8) ZFe ZJk
theorem ZWb:(∀a,ZEQ.q 77 a=QF a)∧(∀a o,ZEQ.t 77 a o=Ye (QX QF) a o)∧(∀a,ZEQ.q 189 a=ZFn a)∧(∀a,ZEQ.q 201 a=Qe a)∧(∀f a o,ZEQ.r f a o=none)∧(∀f a o,ZEQ.k f a o=none):=⟨fun _=>rfl,fun _ _=>rfl,fun _=>rfl,fun _=>rfl,fun _ _ _=>rfl,fun _ _ _=>rfl⟩
theorem ZOL(s:List UInt8)(hl:s.length≤1000000):ZC Tryz.prog 174 [.x (.str s)] (.x (.str (blk s))):=by
 have hsl:=ZP2 32 s;refine ZJ.pure (fC 174 true ?_) rfl;intro C0 E0;have uu:=ξ8 @QF.eq_1 @QF.eq_2 @ZFn.eq_1 @ZFn.eq_2 @ZWb @Qe.eq_1 @Qe.eq_2 @QX.eq_1;have tT:=ZTr;refine nz ?_;refine WI.regB tT [0] ?_;refine oS ?_;refine oN ?_;refine nz ?_;refine WI.regB tT [0,3] ?_;refine oS ?_;refine oN ?_;refine nz ?_;refine WI.regB tT [3,7,8,9] ?_;refine oS ?_;refine oC (hok:=by first|exact se|(rw[Yp (Zh _)];exact Zd ⟨hoj2,by omega⟩)|exact sd) ?_;refine oG (hok:=by first|exact se|(rw[Yp (Zh _)];exact Zd ⟨hoj2,by omega⟩)|exact sd) ?_;refine oS ?_;refine oN ?_;refine nz ?_;refine WI.ownA 3 9 1 ?_;refine WI.loop (fun φ os=> ∃(j:Nat) (o:List (List UInt8)),φ= [(3,.ref 0 o.length 0 o.length),(7,.x (.sl (rows ZB (Kn 32 s)))),(8,.x (.int .i64 (Kn 32 s).length)),(9,.x (.int .i64 j))]∧os= [.rows false 9 1 (rows ZB o)]∧j≤(Kn 32 s).length∧o=((Kn 32 s).take j).filter (fun x=>decide (x≠ []))∧o.length≤j) (ZV (Kn 32 s).length 9) ?_ (fun φ os hI=> ?_)
 ·exact⟨0,[],rfl,rfl,by omega,rfl,by simp⟩
 ·obtain⟨j,o,rfl,rfl,hj,ho,hoj⟩:=hI;refine nz ?_;refine WI.regB tT [3,7,8,9,10] ?_;refine oG (hok:=by first|exact se|(rw[Yp (Zh _)];exact Zd ⟨hoj2,by omega⟩)|exact sd) ?_;refine oN ?_;refine nz ?_;refine cd (fun h0=> ?_) (fun h0=> ?_)
  ·have hj4:j<(Kn 32 s).length:=by omega
   refine WI.regB tT [3,5,7,8,9] ?_
   iterate 2 refine oG (hok:=by first|exact se|(rw[Yp (Zh _)];exact Zd ⟨hoj2,by omega⟩)|exact sd) ?_
   refine oS ?_;refine oN ?_;refine nz ?_;refine WI.regB tT [3,5,7,8,9,14] ?_;refine oS ?_;refine oG (hok:=by first|exact se|(rw[Yp (Zh _)];exact Zd ⟨hoj2,by omega⟩)|exact sd) ?_;refine oN ?_;refine nz ?_;refine cd (fun h1=> ?_) (fun h1=> ?_)
   ·have ho2:o++ [(Kn 32 s)[j]]=((Kn 32 s).take (j+1)).filter (fun x=>decide (x≠ [])):=by rw[KT hj4,ZI6,←ho,if_pos (by simpa using h1)]
    refine WI.post ?_;refine WI.regB tT [3,7,8,9] ?_
    iterate 2 refine oS ?_
    iterate 2 refine oG (hok:=by first|exact se|(rw[Yp (Zh _)];exact Zd ⟨hoj2,by omega⟩)|exact sd) ?_
    refine oS ?_;refine oP ?_;refine QE [0] ?_;refine QW ?_;refine nz ?_;refine WI.regB tT [3,7,8,9] ?_;refine oG (hok:=by first|exact se|(rw[Yp (Zh _)];exact Zd ⟨hoj2,by omega⟩)|exact sd) ?_;refine oS ?_;refine oN ?_;refine nz ?_
    first|exact⟨⟨j+1,o++ [(Kn 32 s)[j]],by first|rfl|simp,by rw[←ZM7],by omega,ho2,by simp;omega⟩,by simp[ZV,Ab.get,D.val,ZG];omega⟩|exact⟨⟨j+1,o,by first|rfl|simp,rfl,by omega,ho2,by omega⟩,by simp[ZV,Ab.get,D.val,ZG];omega⟩
   ·have ho2:o=((Kn 32 s).take (j+1)).filter (fun x=>decide (x≠ [])):=by rw[KT hj4,ZI6,←ho,if_neg (by simpa using h1)]
    refine WI.regB tT [3,7,8,9] ?_;refine oG (hok:=by first|exact se|(rw[Yp (Zh _)];exact Zd ⟨hoj2,by omega⟩)|exact sd) ?_;refine oS ?_;refine oN ?_;refine nz ?_
    first|exact⟨⟨j+1,o++ [(Kn 32 s)[j]],by first|rfl|simp,by rw[←ZM7],by omega,ho2,by simp;omega⟩,by simp[ZV,Ab.get,D.val,ZG];omega⟩|exact⟨⟨j+1,o,by first|rfl|simp,rfl,by omega,ho2,by omega⟩,by simp[ZV,Ab.get,D.val,ZG];omega⟩
  ·have hoe:o=ZCG s:=by rw[ho,Yp (by omega)];rfl
   have hwl:=ZT6 s;have hoj2:(Lib.join o [32]).length≤140737488355328:=by rw[hoe,ZLd];have:=ZQh s;omega
   refine WI.regB tT [2] ?_;refine oS ?_;refine oC (hok:=by first|exact se|(rw[Yp (Zh _)];exact Zd ⟨hoj2,by omega⟩)|exact sd) ?_;refine oS ?_;refine oN ?_;refine nz ?_;refine lf ?_;rw[hoe,ZLd];rfl
def ZDz:List D→Option (Bool×D)
 | [.x (.str s)]=>some (decide (s.length≤1000000),.x (.str (blk s)))
 |_=>none
theorem ZQw: ∀args r,ZDz args=some (true,r)→ZC Tryz.prog 174 args r:=by
 intro args r h;unfold ZDz at h;split at h
 ·rename_i s;simp only[Za,Zb,ZQ,Zg,true_and]at h;obtain⟨h1,rfl⟩:=h;exact(ZOL s h1)
 ·cases h
def ZF1:Tabs:=ZU (ZU (ZU (ZS) 63 ZAM) 174 ZDz) 201 Qe
theorem ZUc:SsOk Tryz.prog ZF1:=ZH (ZH (ZH (ZF) (Zc 63) ZLz) (Zc 174) ZQw) ZFe ZJk
theorem ZWA:(∀a,ZF1.q 63 a=ZAM a)∧(∀a,ZF1.q 174 a=ZDz a)∧(∀a,ZF1.q 201 a=Qe a)∧(∀f a o,ZF1.r f a o=none)∧(∀f a o,ZF1.k f a o=none):=⟨fun _=>rfl,fun _=>rfl,fun _=>rfl,fun _ _ _=>rfl,fun _ _ _=>rfl⟩
def fld(s:List UInt8):List UInt8:=ZE (blk s)
theorem ZZR(s:List UInt8)(hl:s.length≤1000000):ZC Tryz.prog 141 [.x (.str s)] (.x (.str (fld s))):=by
 have hb:(blk s).length≤s.length:=ZQh s;refine ZJ.pure (fC 141 true ?_) rfl;intro C0 E0;have uu:=ξ7 @ZAM.eq_1 @ZAM.eq_2 @ZDz.eq_1 @ZDz.eq_2 @ZWA @Qe.eq_1 @Qe.eq_2;have tT:=ZUc;refine nz ?_;refine rg tT [0] ?_;refine rg tT [2] ?_;refine lf ?_
 first|rfl|exact⟨rfl,rfl⟩|trivial
def ZIK(b:UInt8):Bool:=decide (48≤b.toNat∧b.toNat≤57)
def dgs(s:List UInt8):Bool:=decide (s≠ []∧s.length≤32)&&s.all ZIK
theorem ZVw(s:List UInt8)(p:UInt8→Bool)(i:Nat)(h:i<s.length):(s.take (i+1)).all p=((s.take i).all p&&p s[i]):=by
 rw[KT h,List.all_append];simp
theorem ZXh(s:List UInt8)(p:UInt8→Bool)(i:Nat)(h:i<s.length)(hp:p s[i]=false):s.all p=false:=by
 rw[List.all_eq_false];exact⟨s[i],YY h,by rw[hp];simp⟩
theorem ZY2{s:List UInt8}{i:Nat}(h:i<s.length)(hr:48≤((Js s i).1:Int)∧((Js s i).1:Int)≤57):(Js s i).2=1∧ZIK s[i]=true:=by
 by_cases hb:s[i].toNat<128
 ·rw[ZJt h hb]at hr⊢;simp only at hr;exact⟨rfl,Zd (by omega)⟩
 ·have:=(ZPT h hb).1;omega
theorem ZYU{s:List UInt8}{i:Nat}(h:i<s.length)(hr: ¬(48≤((Js s i).1:Int)∧((Js s i).1:Int)≤57)):ZIK s[i]=false:=by
 refine decide_eq_false (fun hd=>hr ?_);rw[ZJt h (by omega)];simp only;omega
theorem ZWj(s:List UInt8):ZC Tryz.prog 202 [.x (.str s)] (.x (.bool (dgs s))):=by
 refine ZJ.pure (fC 202 true ?_) rfl;intro C0 E0;have uu:=trivial;have tT:=(ZF:SsOk Tryz.prog ZS);refine nz ?_;refine rg tT [0] ?_;refine rg tT [0,6] ?_;refine WI.loop (fun φ os=> ∃(i:Nat),φ= [(0,.x (.str s)),(6,.iref 0 0)]∧os= [.sit s i]∧i≤s.length∧(s.take i).all ZIK=true) (ZZ6 s.length 0) ?_ (fun φ os hI=> ?_)
 ·exact⟨0,rfl,rfl,by omega,rfl⟩
 ·obtain⟨i,rfl,rfl,hi,ha⟩:=hI;refine nz ?_;refine WI.nextSA [0,6,7,8] (fun hn2=> ?_) (fun hn2=> ?_)
  ·have ha2:s.all ZIK=true:=by rw[←ha,Yp (by omega)]
   have hdg:dgs s=(!(s== [])&&decide ((s.length:Int)≤32)):=by unfold dgs;rw[ha2,ZAD];by_cases h1:s= []<;>by_cases h2:s.length≤32<;>simp[h1,h2]<;>omega
   refine nz ?_;refine ce (fun h0=> ?_) (fun h0=> ?_)
   ·exact absurd h0 (by decide)
   ·refine rg tT [2] ?_;refine lf ?_;rw[hdg]
  ·refine nz ?_;refine ct (fun h0=> ?_) (fun h0=> ?_)
   ·refine rg tT [0,4,6] ?_;refine rg tT [0,6,15] ?_;refine cd (fun h1=> ?_) (fun h1=> ?_) (kB:=fun h=>h.h)
    ·have hd:=ZXh s ZIK i hn2 (ZYU hn2 (by omega));have hdg:dgs s=false:=by unfold dgs;rw[hd,ZK9]
     refine rg tT [2] ?_;refine lf ?_;rw[hdg]
    ·obtain⟨hw,hdd⟩:=ZY2 hn2 (by omega);have ha2:(s.take (i+1)).all ZIK=true:=by rw[ZVw s ZIK i hn2,ha,hdd];rfl
     refine WI.orderA [0,6] ?_;refine nz ?_;exact⟨⟨i+1,by first|rfl|simp,by first|rfl|simp[hw],by omega,ha2⟩,by simp[ZZ6,hw];omega⟩
   ·exact absurd h0 (by decide)
def ZB1:List D→Option (Bool×D)
 | [.x (.str s)]=>some (true,.x (.bool (dgs s)))
 |_=>none
theorem ZR4: ∀args r,ZB1 args=some (true,r)→ZC Tryz.prog 202 args r:=by
 intro args r h;unfold ZB1 at h;split at h
 ·rename_i s;simp only[Za,Zb,ZQ,Zg,true_and]at h;obtain rfl:=h;exact(ZWj s)
 ·cases h
def ZIG:Tabs:=ZU (ZU (ZS) 202 ZB1) 201 Qe
theorem ZML:SsOk Tryz.prog ZIG:=ZH (ZH (ZF) (Zc 202) ZR4) ZFe ZJk
theorem ZNs:(∀a,ZIG.q 202 a=ZB1 a)∧(∀a,ZIG.q 201 a=Qe a)∧(∀f a o,ZIG.r f a o=none)∧(∀f a o,ZIG.k f a o=none):=⟨fun _=>rfl,fun _=>rfl,fun _ _ _=>rfl,fun _ _ _=>rfl⟩
def stp:List UInt8→List UInt8
 | []=> []
 | [b]=> [b]
 |b::c::l=>if b=48 then stp (c::l)else b::c::l
theorem ZV9(s:List UInt8)(h:1<s.length)(h0:s[0]=48):stp s=stp (s.drop 1):=by
 match s,h with
 |b::c::l,_=>exact if_pos h0
theorem ZNG(s:List UInt8)(h: ¬(1<s.length∧ ∀(h:0<s.length),s[0]=48)):stp s=s:=by
 match s with
 | []=>rfl
 | [b]=>rfl
 |b::c::l=>rw[stp,if_neg];intro e;exact h ⟨by simp,fun _=>e⟩
def ZAN(s:List UInt8):List UInt8:=Lib.trimPrefix s [45]
def ZRy(s:List UInt8):Bool:=Lib.hasPrefix s [45]
def ZDt(s:List UInt8):List UInt8×Bool:=
 if dgs (ZAN s)then(if ZRy s∧stp (ZAN s)≠ [48]then 45::stp (ZAN s)else stp (ZAN s),true)else([],false)
theorem b48{b:UInt8}:b=48↔(b.toNat:Int)=48:=⟨fun h=>by rw[h];rfl,fun h=>ZRl.1 (by show b.toNat=48;omega)⟩
theorem gd0(t:List UInt8)(h:0<t.length):t.getD 0 0=t[0]:=by simp[h]
theorem Za8(s:List UInt8):ZC Tryz.prog 182 [.x (.str s)] (.tup [.x (.str (ZDt s).1),.x (.bool (ZDt s).2)]):=by
 cases hd:dgs (ZAN s)with
 |false=>
  have hi:ZDt s=([],false):=by unfold ZDt;rw[if_neg (by rw[hd];simp)]
  rw[hi];unfold ZAN at hd;refine ZJ.pure (fC 182 true ?_) rfl;intro C0 E0;have uu:=ξ6 @ZB1.eq_1 @ZB1.eq_2 @Qe.eq_1 @Qe.eq_2 hd @ZNs;have tT:=ZML;refine nz ?_;refine rg tT [0] ?_;refine rg tT [4,5] ?_;refine rg tT [4,5,13] ?_;refine ct (fun h0=> ?_) (fun h0=> ?_)
  ·refine rg tT [2,3] ?_;refine lf ?_;rfl
  ·simp at h0
 |true=>
  unfold ZAN at hd;have hd32:(Lib.trimPrefix s [45]).length≤32:=by
   unfold dgs at hd;rw[ZQ]at hd;exact(of_decide_eq_true hd.1).2
  have hi:ZDt s=(if ZRy s∧stp (ZAN s)≠ [48]then 45::stp (ZAN s)else stp (ZAN s),true):=by have hd2:dgs (ZAN s)=true:=hd;unfold ZDt;rw[if_pos hd2]
  unfold ZAN ZRy at hi;refine ZJ.pure (fC 182 true ?_) rfl;intro C0 E0;have uu:=ξ6 @ZB1.eq_1 @ZB1.eq_2 @Qe.eq_1 @Qe.eq_2 hd @ZNs;have tT:=ZML;refine nz ?_;refine rg tT [0] ?_;refine rg tT [4,5] ?_;refine rg tT [4,5,13] ?_;refine ce (fun h0=> ?_) (fun h0=> ?_)
  ·simp at h0
  ·refine WI.orderA [4,5] ?_;refine WI.loop (fun φ os=> ∃(t:List UInt8),φ= [(4,.x (.str t)),(5,.x (.bool (Lib.hasPrefix s [45])))]∧os= []∧stp t=stp (Lib.trimPrefix s [45])∧t.length≤32) (fun φ _=>match φ with|(_,.x (.str t))::_=>t.length|_=>0) ?_ (fun φ os hI=> ?_)
   ·exact⟨_,rfl,rfl,rfl,hd32⟩
   ·obtain⟨t,rfl,rfl,ht,htl⟩:=hI;refine nz ?_;by_cases hl1:1<t.length
    ·have hk:t[0]? =some t[0]:=Zl (by omega);have hdl:=Zd (show(1:Int)<(t.length:Int) by omega);have uu:=KE uu hk hdl;refine rg tT [4,5,21] ?_;refine cd (fun h1=> ?_) (fun h1=> ?_)
     ·have ht2:stp (t.drop 1)=stp (Lib.trimPrefix s [45]):=by rw[←ht,ZV9 t hl1 ((gd0 t (by omega)).symm.trans (b48.2 h1))]
      refine rg tT [4,5] ?_;exact⟨⟨t.drop 1,rfl,rfl,ht2,by rw[KC];omega⟩,by simp;omega⟩
     ·have hts:stp t=t:=ZNG t (fun hh=>h1 (b48.1 ((gd0 t (by omega)).trans (hh.2 (by omega)))));have htt:=ht.symm.trans hts;refine rg tT [4,28] ?_;refine cd (fun h2=> ?_) (fun h2=> ?_)
      ·refine rg tT [4] ?_;refine rg tT [2,3] ?_;refine lf ?_;rw[hi,htt];first|(rw[if_pos ⟨h2.1,h2.2⟩];done)|(rw[if_pos ⟨h2.1,h2.2⟩];rfl)|(rw[if_neg (by rcases h2 with h2|h2<;>simp[h2])];done)|(rw[if_neg (by rcases h2 with h2|h2<;>simp[h2])];rfl)
      ·refine rg tT [2,3] ?_;refine lf ?_;rw[hi,htt];first|(rw[if_pos ⟨h2.1,h2.2⟩];done)|(rw[if_pos ⟨h2.1,h2.2⟩];rfl)|(rw[if_neg (by rcases h2 with h2|h2<;>simp[h2])];done)|(rw[if_neg (by rcases h2 with h2|h2<;>simp[h2])];rfl)
    ·have hdl:=decide_eq_false (show ¬(1:Int)<(t.length:Int) by omega);have uu:=Yq uu hdl;refine rg tT [4,5,21] ?_;refine ce (fun h1=> ?_) (fun h1=> ?_)
     ·simp at h1
     ·have hts:stp t=t:=ZNG t (fun hh=>hl1 hh.1);have htt:=ht.symm.trans hts;refine rg tT [4,28] ?_;refine cd (fun h2=> ?_) (fun h2=> ?_)
      ·refine rg tT [4] ?_;refine rg tT [2,3] ?_;refine lf ?_;rw[hi,htt];first|(rw[if_pos ⟨h2.1,h2.2⟩];done)|(rw[if_pos ⟨h2.1,h2.2⟩];rfl)|(rw[if_neg (by rcases h2 with h2|h2<;>simp[h2])];done)|(rw[if_neg (by rcases h2 with h2|h2<;>simp[h2])];rfl)
      ·refine rg tT [2,3] ?_;refine lf ?_;rw[hi,htt];first|(rw[if_pos ⟨h2.1,h2.2⟩];done)|(rw[if_pos ⟨h2.1,h2.2⟩];rfl)|(rw[if_neg (by rcases h2 with h2|h2<;>simp[h2])];done)|(rw[if_neg (by rcases h2 with h2|h2<;>simp[h2])];rfl)
end Go.Proofs.YtiogclkbccdefaaGreatDoor
end
section
namespace Go.Ab
open Go.RowKit Go.Bo
theorem Jw.copied{κ:Type}{mk:κ→Value}{w:World}{r:Nat}{l:List (κ×Value)}(h:Jw mk w r l): ∃es clk,w.heap[r]? =some (.map es clk)∧ ∀(w':World) (b:Nat),w'.heap[b]? =some (.map es clk)→Jw mk w' b l:=by
 obtain⟨es,clk,h1,h2⟩:=h;exact⟨es,clk,h1,fun w' b hb=>⟨es,clk,hb,h2⟩⟩
theorem Zm.copied{E:Env}{os:List Ob}{b:Nat}{dk:KK}{ag:Bool}{l:List Pr}(h:Zm E os b dk ag l): ∃es clk,E.w.heap[b]? =some (.map es clk)∧ ∀(E':Env) (os':List Ob) (b':Nat),Evo E os E' os'→E'.w.heap[b']? =some (.map es clk)→Zm E' os' b' dk ag l:=by
 cases dk with
 |int k=>
  obtain⟨l',h1,h2,h3⟩:=h;obtain⟨es,clk,k1,k2⟩:=Jw.copied h1;exact⟨es,clk,k1,fun E' os' b' ev hb=>⟨l',k2 _ _ hb,h2,fun i a q ha hq=>⟨(h3 i a q ha hq).1,(h3 i a q ha hq).2.mono ev⟩⟩⟩
 |str=>
  obtain⟨l',h1,h2,h3⟩:=h;obtain⟨es,clk,k1,k2⟩:=Jw.copied h1;exact⟨es,clk,k1,fun E' os' b' ev hb=>⟨l',k2 _ _ hb,h2,fun i a q ha hq=>⟨(h3 i a q ha hq).1,(h3 i a q ha hq).2.mono ev⟩⟩⟩
 |st _ _=>exact h.elim
end Go.Ab
namespace Go.Proofs.YtiogclkbccdefaaGreatDoor
open Go.RowKit Go.Bo Go.Ab Go.Lib Go.Sort
theorem ZOm{w:World}{st:Nat→Nat→Prop}{s:Tx}{v:Value}(h:VX w st (.str s) v):v= .string (ZK s):=by cases h;rfl
theorem ZRf{P:Program}{f fc:FuncId}{e:Nat}(l l':List Tx)(s:Tx)(hl':l'.length≤l.length)(hl0:l≠ [])
  (hraw: ∀(w:World) (g b cap:Nat) (cur:Array Value),w.heap[g]? =some (.cells cur e (0,0))→cur.size=cap→cur.toList.take l.length=l.map (fun t=> .string (ZK t))→l.length≤cap→cap≤maxLen→b≠g→w.cell? ⟨b,0,none⟩=some (.string (ZK s))→b<w.heap.size→
   Calls P f #[.slice (some ⟨g,0,none⟩) l.length cap,.func (.func fc) #[] #[.pointer (some ⟨b,0,none⟩)]] w fun x w'=> ∃cur',x= .returned (.slice (some ⟨g,0,none⟩) l'.length cap)∧w'.heap[g]? =some (.cells cur' e (0,0))∧cur'.size=cap∧cur'.toList.take l'.length=l'.map (fun t=> .string (ZK t))∧w.grownBy w' (some g)):
  ZN P f [.ref 0 l.length 0 l.length,.fn fc [.ptr 1 0]] [.rows false e 1 (rows ZB l),.box [.x (.str s)]] (.ref 2 l'.length 0 l'.length) [.old 1 (l.length+1),.box [.x (.str s)],.rows false e 1 (rows ZB l')]:=by
 intro c E vs R hvl;obtain⟨hsz,hv⟩:=hvl;obtain⟨v0,v1,rfl⟩: ∃v0 v1,vs= #[v0,v1]:=by
  obtain⟨vl⟩:=vs
  match vl,hsz with
  | [a,b],_=>exact⟨a,b,rfl⟩
 have h0:=hv 0 _ v0 rfl rfl;have h1:=hv 1 _ v1 rfl rfl;clear hv hsz;have hrl:(rows ZB l).length=l.length:=YC ZB l;have hrl':(rows ZB l').length=l'.length:=YC ZB l';have hlen:=R.len;obtain⟨p,hp,hok⟩:=R.at (i:=0) (o:= .rows false e 1 (rows ZB l)) rfl;obtain⟨q,hq,hok2⟩:=R.at (i:=1) (o:= .box [.x (.str s)]) rfl;obtain⟨b,qv⟩:=q;obtain rfl:v0=p.2:=by
  obtain⟨h1,h2⟩:=h0.ref_inv.at (sz:=1) (rs:=rows ZB l) rfl rfl;obtain⟨h3,b,a0,cap,a',cap',h4,h5,h6,h7,h8,h9⟩:=h2 hrl;rw[hp]at h4;obtain⟨h10,h11⟩:=h8 rfl;rw[h10,h11]at h5;rw[h5,ZAb h4]
 obtain rfl:v1= .func (.func fc) #[] #[.pointer (some ⟨b,0,none⟩)]:=by
  cases h1 with
  |fn ws hl hv=>
   obtain⟨wl⟩:=ws
   match wl,hl with
   | [a],_=>
    have h2:=hv 0 _ a rfl rfl;cases h2 with
    |ptr ho h=>
     rw[hq]at h;cases h;rfl
 clear h1;obtain⟨xs,k1,k2,k3⟩:=hok;obtain⟨cs,ty,g1,g2,g3⟩:=hok2;have hxl:xs.length=l.length:=by rw[k1.1,hrl,KQ]
 have hxs:xs=l.map fun t=> .string (ZK t):=by
  apply ZBS;intro i;by_cases hi:i<l.length
  ·have hx:=Zl (l:=xs) (i:=i) (by omega);have h2:=k3 i [.str (l[i])] 0 (.str l[i]) xs[i] (by simp[rows,hi,ZB]) rfl (by rw[KQ];exact hx);rw[hx,Zr,Zl hi];rw[ZOm h2,Yd]
  ·rw[ZCV (by omega),ZCV (by simp;omega)]
 rcases k1.owns.2 with⟨_,h⟩|⟨g,cap,cur,hpv,_,hgg,hnc,hcm,hcs,htake⟩
 ·rw[hrl]at h;exact absurd (List.length_eq_zero_iff.1 h) hl0
 rw[hrl]at hnc hpv htake;rw[KQ]at hcs htake;have hne:b≠g:=fun h=>by
  have:=R.dis 0 1 _ _ p (b,qv) g rfl hp rfl hq (by show p.2.ownBlock=some g;rw[hpv];rfl) h;omega
 have hcell:E.w.cell? ⟨b,0,none⟩=some (.string (ZK s)):=by
  have hlt:0<cs.size:=by rw[g2];simp
  have h2:=g3 0 _ cs[0] rfl (ξJ hlt);have h3:cs[0]= .string (ZK s):=by
   have h4:=h2.1;cases h4 with|x h=>exact ZOm h
  exact KO g1 (by rw[ξJ hlt,h3])
 have hbl:b<E.w.heap.size:=(Qb g1).1;have hcal:=hraw E.w g b cap cur hgg hcs (by rw[htake,hxs]) hnc hcm hne hcell hbl;rw[←hpv]at hcal;refine hcal.mono ?_;rintro x w' ⟨cur',rfl,hg',hcs',ht',hG⟩;have hM:=R.mbs 0 _ p g rfl hp (by show p.2.ownBlock=some g;rw[hpv];rfl);have hst: ∀off,¬E.st g off:=fun off h=>(R.stm g off h).2 0 _ p rfl hp (by show p.2.ownBlock=some g;rw[hpv];rfl)
 obtain⟨R1,e1⟩:=R.push E.w .dead (0,undef) (Kept.refl _ _) (fun b hb=>by cases hb) (fun _=>trivial);have hel:E.ob.length=2:=hlen;obtain⟨R2,e2⟩:=R1.set (i:=0) (o:= .rows false e 1 (rows ZB l)) (p:=p) rfl (by show(E.ob++ [(0,undef)])[0]? =_;rw[Ya (by omega)];exact hp) w' (.old 1 (l.length+1)) (0,undef) (by
   show Kept (fun b=>p.2.ownBlock=some b) E.w w';rw[hpv];exact Kept.of_grown hG) (fun b hb=>by cases hb) (fun sz n h=>by
   simp only[Ob.sl?,Za,Zb]at h;obtain⟨rfl,rfl⟩:=h;exact⟨l.length+1,rfl,.inr (by rw[hrl];omega)⟩) (fun k h=>by cases h) (fun _=>trivial)
 have hrow:Je w' false e 1 (rows ZB l').length (.slice (some ⟨g,0,none⟩) l'.length cap) (l'.map fun t=> .string (ZK t)):=by
  refine⟨by rw[hrl',KQ,YL],.inr ⟨g,cap,cur',(0,0),by rw[hrl'],hg',by rw[hrl'];omega,hcm,by rw[KQ];exact hcs',by rw[hrl',KQ];exact ht',.inl rfl⟩⟩
 obtain⟨R3,e3⟩:=R2.set (i:=2) (o:= .dead) (p:=(0,undef)) rfl (by
   show((E.ob++ [(0,undef)]).set 0 (0,undef))[2]? =_;rw[ZLP (by omega),KR (by omega),hel];rfl) w' (.rows false e 1 (rows ZB l')) (0,.slice (some ⟨g,0,none⟩) l'.length cap) (Kept.refl _ _) (fun b' hb'=>by
   have hb2:(Value.slice (some ⟨g,0,none⟩) l'.length cap).ownBlock=some b':=hb';cases hb2;refine .inr (.inr ⟨fun off h=>hst off h,fun i o pi ho hpi hmb=> ?_,hM⟩)
   match i,ho with
   |0,ho=>cases ho;exact hmb
   |1,ho=>
    cases ho;have h5:((E.ob++ [(0,undef)]).set 0 (0,undef))[1]? =some pi:=hpi;rw[ZLP (by omega),Ya (by omega),hq]at h5;cases h5;exact hne hmb
   |2,ho=>cases ho;exact hmb
   |i+3,ho=>simp at ho) (fun sz n h=>by cases h) (fun k h=>by cases h) (fun ev=>by
   refine⟨_,hrow,fun r hr=>(by obtain⟨t,_,rfl⟩:=YQ.1 hr;rfl),fun i r j x v e4 e5 e6=> ?_⟩;have hi:i<l'.length:=by rw[←hrl'];exact(ZP e4).1
   have hr:r= [.str l'[i]]:=by simpa[rows,hi,ZB,eq_comm]using e4
   subst hr;have hj:j=0:=by
    have:=(ZP e5).1;simp at this;exact this
   subst hj;cases e5;rw[KQ,Jf,Zr,Zl hi]at e6;cases e6;exact .str _)
 refine⟨_,_,rfl,rfl,R3,(e1.trans e2).trans e3,?_⟩;have hob:(((E.ob++ [(0,undef)]).set 0 (0,undef)).set 2 (0,.slice (some ⟨g,0,none⟩) l'.length cap))[2]? =some (0,.slice (some ⟨g,0,none⟩) l'.length cap):=by
  rw[ZFY (by simp[hel])]
 refine .ref ⟨.rows false e 1 (rows ZB l'),1,(rows ZB l').length,rfl,rfl,?_⟩ rfl;rw[show l'.length=(rows ZB l').length from hrl'.symm]at hob⊢;exact⟨Zh _,fun _=>⟨by omega,0,_,cap,_,cap,hob,rfl,by rw[hrl'];omega,hcm,fun _=>⟨rfl,rfl⟩,fun _ ad h=>(by cases h;simp),fun h=>(by cases h),fun ad h=>(by cases h;rfl)⟩⟩
theorem ZZF(rs:List (List X))(r:List X)(i:Nat)(hi:i≤rs.length)(hn:rs.length≤1000000):ZN Tryz.prog 44 [.ref 0 rs.length 0 rs.length,.x (.int .i64 i),.ref 1 1 0 1] [.rows false 9 1 rs,.rows false 9 1 [r]] (.ref 0 (rs.length+1) 0 (rs.length+1)) [.rows false 9 1 (YD rs i [r]),.rows false 9 1 [r]]:=
 ZN.ins rs r i hi hn fun w v0 n i xs ys vb vc cv ev h1 h2 h3 h4 h5 h6 h7 h8 h9=>by
  simp only[KQ];exact ZVD w 0 v0 n i xs ys vb vc cv ev h1 h2 h3 h4 h5 h6 h7 h8 h9 (JA _)
theorem ZJv(s x:ByteArray)(B:Nat)(W:World)(hc:W.cell? ⟨B,0,none⟩=some (.string s)):FnGives Tryz.prog 56 #[.pointer (some ⟨B,0,none⟩)] #[.string x] (.bool (x.toList==s.toList)) W:=by
 show Calls Tryz.prog 56 #[.string x,.pointer (some ⟨B,0,none⟩)] W _
 go_enter Tryz.func56,Tryz.ntmps56
 go_wp2
 all_goals(go_ret;exact⟨by simp_all,0,rfl⟩)
def ZBV(l:List Tx)(s:Tx):List Tx:=l.filter fun t=> !(t==s)
theorem ZXm(l:List Tx)(s:Tx)(hl:l.length≤1000000)(w:World)(g b cap:Nat)(cur:Array Value)(hgg:w.heap[g]? =some (.cells cur 9 (0,0)))(hcs:cur.size=cap)(htake:cur.toList.take l.length=l.map (fun t=> .string (ZK t)))(hlc:l.length≤cap)(hcm:cap≤maxLen)(hbg:b≠g)(hb:w.cell? ⟨b,0,none⟩=some (.string (ZK s)))(hbl:b<w.heap.size):
  Calls Tryz.prog 55 #[.slice (some ⟨g,0,none⟩) l.length cap,.func (.func 56) #[] #[.pointer (some ⟨b,0,none⟩)]] w fun x w'=> ∃cur',x= .returned (.slice (some ⟨g,0,none⟩) (ZBV l s).length cap)∧w'.heap[g]? =some (.cells cur' 9 (0,0))∧cur'.size=cap∧cur'.toList.take (ZBV l s).length=(ZBV l s).map (fun t=> .string (ZK t))∧w.grownBy w' (some g):=by
 have eg: ∀args w,(callFunc 56 args).run Tryz.prog w= .ok (.enter 56 args) w:=enters_of Tryz.func56 (by kernel_rfl) rfl;obtain⟨d,hd⟩: ∃d:Array ByteArray,d=(l.map ZK).toArray:=⟨_,rfl⟩;have hds:d.size=l.length:=by rw[hd];simp
 have hdj: ∀j,(hj:j<l.length)→d[j]! =ZK l[j]:=fun j hj=>by
  rw[getElem!_pos d j (by omega)];simp[hd]
 have hcur: ∀j,(hj:j<l.length)→cur[j]? =some (.string (ZK l[j])):=fun j hj=>by
  have h:=congrArg (fun q=>q[j]?) htake;rw[Yy,if_pos hj,Zr,Zl hj,QH]at h;exact h
 have hH:Holds Value.string w g 0 d:=fun j hj=>by
  rw[hds]at hj;rw[Yi,hdj j hj];exact⟨KO hgg (hcur j hj),ZIH hgg⟩
 have hcon:=AnyE.slices_DeleteFunc Tryz.delS Value.string (fun _=>rfl) (fun x=>x.toList==(ZK s).toList) 56 #[.pointer (some ⟨b,0,none⟩)] eg ByteArray.empty Tryz.zeroValue9 g 0 cap d w
  (fun W x hB=>ZJv (ZK s) x b W ((hB.cell (p:=⟨b,0,none⟩) hbl).trans hb))
  (fun n os dk x _=>ZJv (ZK s) x b _ (by
   unfold sortWorld;rw[cell?_grow _ _ _ (by show b<(putRow _ _ _ _ _).heap.size;rw[size_putRow];exact hbl),cell?_putRow_other _ _ g 0 _ _ (Or.inl hbg)];exact hb)) hH (by rw[hds];omega) (by rw[hds];exact hlc)
 change Calls Tryz.prog 55 _ _ _ at hcon;have hfl:(d.toList.filter fun x=> !(x.toList==(ZK s).toList))=(ZBV l s).map ZK:=by
  rw[hd];simp only[List.toList_toArray,JJ];unfold ZBV;rw[List.filter_map];congr 1;apply ZUu;intro t _;simp only[Function.comp,JJ]
 rw[hfl,hds]at hcon;have hdl:(ZBV l s).length≤l.length:=ZWH _ _;refine hcon.mono ?_;rintro e w' ⟨rfl,q,rfl⟩;simp only[YL];obtain⟨D,hD⟩: ∃D:Array ByteArray,D=((ZBV l s).map ZK++List.replicate (l.length-(ZBV l s).length) ByteArray.empty).toArray:=⟨_,rfl⟩;rw[←hD];have hDs:D.size=l.length:=by rw[hD];simp;omega
 refine⟨putCells Value.string 0 D cur,trivial,?_,?_,?_,⟨rfl,rfl,rfl,?_,fun k hk hne=> ?_⟩⟩
 ·show(mapBlock (Sort.ahead w q) g (putCells Value.string 0 D)).heap[g]? =_;unfold mapBlock;have h:(Sort.ahead w q).heap[g]? =some (.cells cur 9 (0,0)):=hgg;simp only[ZLc,if_pos rfl,h,Yd];rfl
 ·unfold putCells;simp[hcs]
 ·apply ZBS;intro j;rw[Yy];by_cases hj:j<(ZBV l s).length
  ·rw[if_pos hj,QH,Zr,Zl hj];unfold putCells;rw[Array.getElem?_mapIdx,hcur j (by omega),Yd,if_pos ⟨JA _,by omega⟩,Nat.sub_zero,getElem!_pos D j (by omega)];simp[hD,hj]
  ·rw[if_neg hj,ZCV (by simp;omega)]
 ·show(Sort.ahead w q).heap.size≤_;rw[size_putRow];exact Zh _
 ·show(mapBlock (Sort.ahead w q) g (putCells Value.string 0 D)).heap[k]? =_;unfold mapBlock;have:g≠k:=fun h=>hne (by rw[h])
  simp only[ZLc,if_neg this];rfl
theorem ZZn(l:List Tx)(s:Tx)(hl:l.length≤1000000)(h0:l≠ []):ZN Tryz.prog 55 [.ref 0 l.length 0 l.length,.fn 56 [.ptr 1 0]] [.rows false 9 1 (rows ZB l),.box [.x (.str s)]] (.ref 2 (ZBV l s).length 0 (ZBV l s).length) [.old 1 (l.length+1),.box [.x (.str s)],.rows false 9 1 (rows ZB (ZBV l s))]:=
 ZRf l (ZBV l s) s (ZWH _ _) h0 fun w g b cap cur h1 h2 h3 h4 h5 h6 h7 h8=>ZXm l s hl w g b cap cur h1 h2 h3 h4 h5 h6 h7 h8
open Go.RowKit Go.Bo Go.Ab Go.Lib
theorem ZNH(OS:List Ob)(id:Nat)(fz:Bool)(e:Nat)(l:List Tx)(ho:OS[id]? =some (.rows fz e 1 (rows ZB l)))(hl:l.length≤1000000):
  ZAw Tryz.prog 47 [.ref id l.length 0 l.length] OS (fun j=> .ref j l.length 0 l.length) (.rows false 9 1 (rows ZB l)):=by
 intro Y jd c E vs hd R hvl;obtain⟨hsz,hv⟩:=hvl;obtain⟨v0,rfl⟩: ∃v0,vs= #[v0]:=by
  obtain⟨vl⟩:=vs
  match vl,hsz with
  | [a],_=>exact⟨a,rfl⟩
 have h0:=hv 0 _ v0 rfl rfl;have hlt:=(ZP ho).1;have ho':(OS++Y)[id]? =some (.rows fz e 1 (rows ZB l)):=by rw[Ya hlt];exact ho
 have hrl:(rows ZB l).length=l.length:=YC ZB l;obtain⟨p,hp,hok⟩:=R.at ho';obtain rfl:v0=p.2:=by
  obtain⟨h1,h2⟩:=h0.ref_inv.at (sz:=1) (rs:=rows ZB l) ho' rfl;obtain⟨h3,b,a0,cap,a',cap',h4,h5,h6,h7,h8,h9⟩:=h2 hrl;rw[hp]at h4;obtain⟨h10,h11⟩:=h8 rfl;rw[h10,h11]at h5;rw[h5,ZAb h4]
 obtain⟨xs,k1,k2,k3⟩:=hok;have hxl:xs.length=l.length:=by rw[k1.1,hrl,KQ]
 have hxs:xs=l.map fun t=> .string (ZK t):=by
  apply ZBS;intro i;by_cases hi:i<l.length
  ·have hx:=Zl (l:=xs) (i:=i) (by omega);have h2:=k3 i [.str (l[i])] 0 (.str l[i]) xs[i] (by simp[rows,hi,ZB]) rfl (by rw[KQ];exact hx);rw[hx,Zr,Zl hi];rw[ZOm h2,Yd]
  ·rw[ZCV (by omega),ZCV (by simp;omega)]
 have hvals: ∀(i:Nat) (r:List X) (j:Nat) (x:X) (v:Value),(rows ZB l)[i]? =some r→r[j]? =some x→xs[i*1+j]? =some v→VX E.w E.st x v:=k3;rcases k1.2 with⟨hpv,h⟩|⟨g,cap,cur,fr,hpv,hgg,hnc,hcm,hcs,htake,hfr⟩
 ·rw[hpv];refine(Tryz.slices_Clone_string_nil 0 0 E.w).mono ?_;rintro x w' ⟨rfl,rfl⟩;obtain⟨E',q1,q2,q3,q4⟩:=ZJK R hd (Kept.refl _ _) (fz:=false) (e:=9) (sz:=1) (rs:=rows ZB l) (cu:= .slice none 0 0) (xs:=xs) ⟨k1.1,.inl ⟨rfl,h⟩⟩ (fun b hb=>by cases hb) k2 hvals;rw[hrl]at q4;exact⟨_,E',rfl,q1,q2,q3,q4⟩
 ·rw[hpv,hrl];rw[hrl]at htake hnc;rw[KQ]at htake;have hc: ∀j,j<(l.map ZK).length→E.w.cell? ⟨g,0+j,none⟩=some (.string ((l.map ZK).getD j ByteArray.empty)):=fun j hj=>by
   simp only[YL]at hj;rw[Yi];refine KO hgg ?_;have h:=congrArg (fun q=>q[j]?) (htake.trans hxs);rw[Yy,if_pos hj,Zr,Zl hj,QH]at h;rw[h];simp[List.getD,hj]
  refine(Tryz.slices_Clone_string g 0 l.length cap (l.map ZK) E.w (by simp) (by omega) hc).mono ?_;rintro x w' ⟨v',rfl,hown,_,hB⟩;have hmap:((l.map ZK).take l.length).map Value.string=xs:=by
   rw[Yp (by simp),hxs,KP];rfl
  rw[hmap]at hown;have hrow:Je w' false 9 1 (rows ZB l).length v' xs:=by rw[hrl];exact Je.of_owns hown false
  obtain⟨E',q1,q2,q3,q4⟩:=ZJK R hd (w':=w') ⟨hB.os,hB.tape,hB.output,hB.size,fun k hk _=>hB.block k hk⟩ hrow (fun b hb=>by
   rcases hown.2 with⟨h1,_⟩|⟨g',cap',cur',h1,h2,_⟩
   ·rw[h1]at hb;cases hb
   ·rw[h1]at hb;cases hb;exact h2) k2 hvals
  rw[hrl]at q4;exact⟨_,E',rfl,q1,q2,q3,q4⟩
theorem ZHJ:Go.Ab.Enters Tryz.prog 47:=Zc 47
end Go.Proofs.YtiogclkbccdefaaGreatDoor
end
section
namespace Go.Proofs.YtiogclkbccdefaaGreatDoor
open Go.RowKit Go.Bo Go.Ab
def ZLO(acc:List (List UInt8))(v:List UInt8):List (List UInt8):=if v∈acc then acc else acc++ [v]
def ZB9(b vs:List (List UInt8)):List (List UInt8):=vs.foldl ZLO b
theorem ZSM(b vs:List (List UInt8))(j:Nat)(h:j<vs.length):ZB9 b (vs.take (j+1))=ZLO (ZB9 b (vs.take j)) vs[j]:=by
 unfold ZB9;rw[KT h,ZRU];rfl
theorem ZVf(acc:List (List UInt8))(v:List UInt8):(ZLO acc v).length≤acc.length+1:=by unfold ZLO;split<;>simp
theorem ZPJ(b vs:List (List UInt8)):(ZB9 b vs).length≤b.length+vs.length:=by
 induction vs generalizing b with
 |nil=>simp[ZB9]
 |cons v vs ih=>have:=ih (ZLO b v);have:=ZVf b v;simp only[ZB9,ZLf,Jh]at*;omega
def Zj(l:List ZX)(n:List UInt8):Nat:=(l.takeWhile fun a=>Op.bytesLess a.1 n).length
theorem ZEs(l:List ZX)(n:List UInt8):Zj l n≤l.length:=(List.takeWhile_sublist _).length_le
def ZAx(l:List ZX)(n:List UInt8):Bool:=match l[Zj l n]? with
 |some a=>a.1==n
 |none=>false
def Jm(l:List ZX)(n:List UInt8):List (List UInt8):=if ZAx l n then(l.getD (Zj l n) ([],[],())).2.1 else []
def ZBF(l:List ZX)(n:List UInt8):List ZX:=if ZAx l n then l.drop (Zj l n+1)else l.drop (Zj l n)
theorem ZKh(l:List ZX)(n:List UInt8)(j:Nat)(h:j<Zj l n):Op.bytesLess (l[j]'(ZLr h (ZEs l n))).1 n=true:=by
 have hp:(l.takeWhile fun a=>Op.bytesLess a.1 n)<+:l:=List.takeWhile_prefix _;have:=YK.1 (List.all_takeWhile (p:=fun a:ZX=>Op.bytesLess a.1 n) (l:=l)) _ (YY (h:=h));rwa [hp.getElem h]at this
theorem ZJ8(l:List ZX)(n:List UInt8)(h:Zj l n<l.length):Op.bytesLess l[Zj l n].1 n=false:=by
 unfold Zj at*
 induction l with
 |nil=>simp at h
 |cons a l ih=>
  by_cases ha:Op.bytesLess a.1 n=true
  ·simp only[List.takeWhile_cons,ha,if_true,Jh]at h⊢;simpa using ih (by omega)
  ·simp only[List.takeWhile_cons,ha,Yz,if_false,ξN];simpa using ha
theorem ZQH(l:List ZX)(n:List UInt8)(hk:Zj l n<l.length)(h:ZAx l n=true):l[Zj l n].1=n:=by
 unfold ZAx at h;rw[Zl hk]at h;simpa using h

theorem bl_irr: ∀a,Op.bytesLess a a=false
 | []=>rfl
 |x::a=>by rw[Op.bytesLess,bl_irr a];simp
theorem ZQc: ∀a b,Op.bytesLess a b=true→Op.bytesLess b a=false
 |_,[],h=>by simp[Op.bytesLess]at h
 | [],_::_,_=>by simp[Op.bytesLess]
 |x::a,y::b,h=>by
  rw[Op.bytesLess,ZDc,ZQ,Zg,beq_iff_eq]at h;rw[Op.bytesLess,ZRc,Bool.and_eq_false_imp,decide_eq_false_iff_not,beq_iff_eq];rcases h with h|⟨rfl,h⟩
  ·exact⟨UInt8.lt_asymm h,fun e=>by subst e;exact absurd h (UInt8.lt_irrefl _)⟩
  ·exact⟨UInt8.lt_irrefl _,fun _=>ZQc a b h⟩
theorem bl_trans: ∀a b c,Op.bytesLess a b=true→Op.bytesLess b c=true→Op.bytesLess a c=true
 |_,[],_,h,_=>by simp[Op.bytesLess]at h
 |_,_::_,[],_,h=>by simp[Op.bytesLess]at h
 | [],_::_,_::_,_,_=>by simp[Op.bytesLess]
 |x::a,y::b,z::c,h,k=>by
  rw[Op.bytesLess,ZDc,ZQ,Zg,beq_iff_eq]at h k⊢;rcases h with h|⟨rfl,h⟩<;>rcases k with k|⟨rfl,k⟩
  ·exact .inl (UInt8.lt_trans h k)
  ·exact .inl h
  ·exact .inl k
  ·exact .inr ⟨rfl,bl_trans a b c h k⟩
theorem bl_tot: ∀a b,a≠b→Op.bytesLess a b=true∨Op.bytesLess b a=true
 | [],[],h=>absurd rfl h
 |_::_,[],_=> .inr (by simp[Op.bytesLess])
 | [],_::_,_=> .inl (by simp[Op.bytesLess])
 |x::a,y::b,h=>by
  simp only[Op.bytesLess,ZDc,ZQ,Zg,beq_iff_eq];by_cases e:x=y
  ·subst e;rcases bl_tot a b (fun k=>h (by rw[k]))with k|k
   ·exact .inl (.inr ⟨rfl,k⟩)
   ·exact .inr (.inr ⟨rfl,k⟩)
  ·rcases UInt8.lt_or_lt_of_ne e with k|k
   ·exact .inl (.inl k)
   ·exact .inr (.inl k)
end Go.Proofs.YtiogclkbccdefaaGreatDoor
end
