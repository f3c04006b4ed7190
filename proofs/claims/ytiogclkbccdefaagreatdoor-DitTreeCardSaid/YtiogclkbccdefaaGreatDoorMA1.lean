import Derived.Test.YtiogclkbccdefaaGreatDoorLA1
import Derived.Shelf.Spec.SlicesInsertGrow
import Derived.Test.YtiogclkbccdefaaGreatDoorProg
import Derived.Test.YtiogclkbccdefaaGreatDoorLA5
import Derived.Test.YtiogclkbccdefaaGreatDoorSh
import Derived.Lib.SplitLaws
import Derived.Lib.Join
import Derived.Lib.MapLaws
set_option linter.unusedSimpArgs false
set_option linter.unusedVariables false
set_option maxRecDepth 100000
section
namespace Go.Bo
open Go.RowKit
def ZAA{α:Type}(E:Enc α)(w:World)(ok:Nat->Prop):List α->List Value->Prop
 | [],xs=>xs= []
 |x::l,xs=> ∃c d,xs=c++d/\E.rep w ok x c/\ZAA E w ok l d
section
variable {α:Type} {E:Enc α}
theorem ZAA.len(hE:E.Good){w:World}{ok:Nat->Prop}: ∀ {l:List α} {xs:List Value},ZAA E w ok l xs->xs.length=l.length*E.n
 | [],xs,h=>by rw[show xs= []from h];simp
 |x::l,xs,⟨c,d,h1,h2,h3⟩=>by rw[h1,Zf,hE.len h2,ZAA.len hE h3,JD,Yt,ZMu,ZO0]
theorem ZAA.one(hE:E.Good){w:World}{ok:Nat->Prop}: ∀ {l:List α} {xs:List Value},ZAA E w ok l xs-> ∀u∈xs,u.oneCell'=true
 | [],xs,h,u,hu=>by rw[show xs= []from h]at hu;cases hu
 |x::l,xs,⟨c,d,h1,h2,h3⟩,u,hu=>by
  rw[h1,Qc]at hu;rcases hu with hu|hu
  .exact hE.one h2 u hu
  .exact ZAA.one hE h3 u hu
theorem ZAA.stay(hE:E.Good){w w':World}{ok ok':Nat->Prop}(hs:ZHO w w' ok ok'): ∀ {l:List α} {xs:List Value},ZAA E w ok l xs->ZAA E w' ok' l xs
 | [],_,h=>h
 |_::_,_,⟨c,d,h1,h2,h3⟩=>⟨c,d,h1,hE.stay hs h2,ZAA.stay hE hs h3⟩
theorem ZAA.append{w:World}{ok:Nat->Prop}: ∀ {l m:List α} {xs ys:List Value},ZAA E w ok l xs->ZAA E w ok m ys->ZAA E w ok (l++m) (xs++ys)
 | [],_,xs,_,h,k=>by rw[show xs= []from h];exact k
 |_::_,_,_,_,⟨c,d,h1,h2,h3⟩,k=>⟨c,d++_,by rw[h1,Yh],h2,ZAA.append h3 k⟩
theorem ZAA.drop(hE:E.Good){w:World}{ok:Nat->Prop}: ∀ {l:List α} {xs:List Value} (k:Nat),ZAA E w ok l xs->ZAA E w ok (l.drop k) (xs.drop (k*E.n))
 | [],xs,k,h=>by rw[show xs= []from h];simp[ZAA]
 |x::l,xs,0,h=>by simpa using h
 |x::l,xs,k+1,⟨c,d,h1,h2,h3⟩=>by
  rw[h1,ZDe,List.drop_append_of_le_length_eq (hE.len h2)];exact ZAA.drop hE k h3
where
 List.drop_append_of_le_length_eq {c d:List Value} {n k:Nat} (h:c.length=n):(c++d).drop ((k+1)*n)=d.drop (k*n):=by
  rw[List.drop_append,ZB2 (by rw[h,Yt];omega),ZAR,h,Yt,ZMu,Nat.add_sub_cancel]
theorem ZAA.get(hE:E.Good){w:World}{ok:Nat->Prop}: ∀ {l:List α} {xs:List Value},ZAA E w ok l xs-> ∀i (h:i<l.length),∃cs,E.rep w ok l[i] cs/\ ∀j,j<E.n->xs[i*E.n+j]? =cs[j]?
 | [],_,_,i,h=>by simp at h
 |x::l,xs,⟨c,d,h1,h2,h3⟩,0,h=>⟨c,h2,λj hj=>by rw[h1,ZKU,JW,Yc (by rw[hE.len h2];exact hj)]⟩
 |x::l,xs,⟨c,d,h1,h2,h3⟩,i+1,h=>by
  obtain⟨cs,k1,k2⟩:=ZAA.get hE h3 i (by simpa using h);refine⟨cs,by simpa using k1,λj hj=> ?_⟩;rw[<-k2 j hj,h1,QP (by rw[hE.len h2,Yt];omega),hE.len h2];congr 1;rw[Yt];omega
theorem Sl.lt(hE:E.Good)(h0:0<E.n){w:World}{ok:Nat->Prop}{a:Option Addr}{l:List α}(h:Sl E w ok a l):Sl E w (λb=>ok b/\b<w.heap.size) a l:=h.stay hE h0 (λ_ hb ho=>⟨⟨ho,hb⟩,rfl⟩)
theorem Sl.drop{w:World}{ok:Nat->Prop}{g off:Nat}{l:List α}(h:Sl E w ok (some ⟨g,off,none⟩) l)(k:Nat):Sl E w ok (some ⟨g,off+k*E.n,none⟩) (l.drop k):=by
 refine⟨by rw[KD];have:=h.1;omega,λi hi=> ?_⟩;rw[KD]at hi;obtain⟨b,o,cs,ha,hb,hr,hc⟩:=h.2 (k+i) J0;cases ha;refine⟨g,off+k*E.n,cs,rfl,hb,by rw[List.getElem_drop];exact hr,λj hj=> ?_⟩;rw[<-hc j hj];congr 2;rw[Yt];omega
end
section
variable {P:Program} {w:World}
end
open Go.RowKit Go.Lib
section
variable {P:Program} (w:World)
theorem ZAI(t u ty e:TypeId)(i0:TypeInfo)(size:Nat)(hu:P.underlying t=some (.slice e))(hi:P.info? e=some i0)(hs:i0.size=size)(g o dLen dCap:Nat)(cur:Array Value)(hg:w.heap[g]? =some (.cells cur e (0,0)))
  (a:Addr) (sLen sCap:Nat) (cs:List Value) (hn:cs.length=min sLen dLen*size) (hsrc: ∀j v,cs[j]? =some v->w.cell? (a.add j)=some v) (hfit:o+cs.length<=cur.size) (h1: ∀v∈cs,v.oneCell'=true):
  (Builtin.copy_ #[t,u] ty #[.slice (some ⟨g,o,none⟩) dLen dCap,.slice (some a) sLen sCap]).run P w= .ok (goInt (min sLen dLen)) (w.setRow g (cur.toList.take o++cs++cur.toList.drop (o+cs.length)).toArray):=by
 subst hs;have hf:=run_firstCells_some (P:=P) w i0.size (min sLen dLen) a sLen sCap cs hn hsrc;have hst:=run_storeCells_at P g o e cs 0 cur w hg (by simpa using hfit) h1;simp only[JK]at hst;have hm:Nat.min sLen dLen=min sLen dLen:=rfl;simp[Builtin.copy_,run_underlying hu,Builtin.lenOf,sizeOf,typeInfo,hi,hm,hf,hst];congr 1;omega
end
def YN{α:Type}(l:List α)(i:Nat)(y:List α):List α:=l.take i++y++l.drop i
theorem ZR9{α:Type}(A B C ys:List α)(k:Nat)(hy:ys.length=k)(hC:k<=C.length):
  (((A++B++C).take (A.length+k)++B++(A++B++C).drop (A.length+k+B.length)).take A.length++ys++((A++B++C).take (A.length+k)++B++(A++B++C).drop (A.length+k+B.length)).drop (A.length+ys.length))=A++ys++B++C.drop k:=by
 have e1:(A++B++C).take (A.length+k)=A++(B++C).take k:=by
  rw[Yh,List.take_append,Yi J0,ZVU]
 have e2:(A++B++C).drop (A.length+k+B.length)=C.drop k:=by
  rw[show A.length+k+B.length=(A++B).length+k by rw[Zf];omega,List.drop_append,ZB2 J0,ZVU,ZAR]
 have hk:((B++C).take k).length=k:=by rw[JA,Zf];omega
 rw[e1,e2,hy];have e3:(A++(B++C).take k++B++C.drop k).take A.length=A:=by
  rw[Yh,Yh,List.take_left'];rfl
 have e4:(A++(B++C).take k++B++C.drop k).drop (A.length+k)=B++C.drop k:=by
  rw[Yh,List.drop_left'];rw[Zf,hk]
 rw[e3,e4];simp[Yh]
theorem ZQk{α:Type}(A Z B ys:List α)(k:Nat)(hy:ys.length=k)(hZ:k<=Z.length)(T:List α):
  (((A++Z).take A.length++ys++(A++Z).drop (A.length+ys.length)).take (A.length+k)++B++T)=A++ys++B++T:=by
 rw[List.take_left,ZM7 (by rw[Zf];omega),Yi (by rw[Zf];omega)]
theorem ZJ6(w:World)(g:Nat)(a b:Array Value):(w.setRow g a).setRow g b=w.setRow g b:=by
 unfold World.setRow;congr 1;apply Array.ext
 .simp
 .intro i h1 h2;simp only[Array.getElem_modify];split
  .cases w.heap[i]'(by simpa using h1)<;>rfl
  .rfl
end Go.Bo
end
section
namespace Go.Proofs.YtiogclkbccdefaaGreatDoor
open Go.RowKit Go.Bo Go.Lib Go.Proofs
theorem ZZk:(Tryz.prog.info? 94).map (λi=>(i.zero,i.size,i.bytes))=some (some (.agg #[.string ByteArray.empty,.slice none 0 0]),2,40):=by kernel_rfl
theorem ZJM: ∃i0,Tryz.prog.info? 94=some i0/\i0.zero=some (.agg #[.string ByteArray.empty,.slice none 0 0])/\i0.size=2/\i0.bytes=40:=by
 have h:=ZZk;cases hq:Tryz.prog.info? 94 with
 |none=>rw[hq]at h;cases h
 |some i0=>rw[hq]at h;simp at h;exact⟨i0,rfl,h.1,h.2.1,h.2.2⟩
set_option maxHeartbeats 4000000 in
set_option maxRecDepth 100000 in
theorem Zcc(w : World)(base : Nat)(v0 : Value)(n : Nat)(xs ys : List Value)(vb vc : Nat)(hown : w.ownsRow base 94 2 v0 n xs)(hn : n <= 1000000)(hys : ys.length = 2)(hv : ∀ j u, ys[j]? = some u -> w.cell? ⟨vb, j, none⟩ = some u)
    (h1y : ∀ u ∈ ys, u.oneCell' = true) (hbase : base <= w.heap.size) :
    Calls Tryz.prog 126 #[v0, .int .i64 n, .slice (some ⟨vb, 0, none⟩) 1 vc] w λe w' => ∃ v', e = .returned v' /\ w'.ownsRow base 94 2 v' (n + 1) (xs ++ ys) /\ Grow w w' v0 v' := by
  obtain ⟨i0, hi, hz0, hz1, hz2⟩ := ZJM;have hown2 := hown;rcases hown.2 with ⟨rfl, rfl⟩ | ⟨g, cap, cur, rfl, hbg, hgg, hnc, hcm, hcs, htake⟩
  · go_enter Tryz.func126, Tryz.ntmps126
    go_wp2_with (at_builtin; refine ZDZ _ rfl _ _ 29 rfl base 94 i0 (.agg #[.string ByteArray.empty, .slice none 0 0]) 2 40 Tryz.underlying29 hi hz0 hz1 hz2 rfl (by decide) _ 0 xs rfl hown2 ⟨vb, 0, none⟩ 1 vc ys rfl (by rw [hys]) (λj u hj => by rw [Addr.add_lit, JW]; exact hv j u hj) h1y (by simp only [maxLen]; omega) J0 hbase ?_)
    intro v' w' ho hg
    go_wp2_with fail
    go_ret
    exact ⟨v', rfl, ho, hg⟩
  · have hz3 : ¬ ((1 : Int) = 0) := by omega
    by_cases hcn : n = cap
    all_goals first | subst hcn | skip
    all_goals
     go_enter Tryz.func126, Tryz.ntmps126
     go_wp2_with (at_builtin; refine ZDZ _ rfl _ _ 29 rfl base 94 i0 (.agg #[.string ByteArray.empty, .slice none 0 0]) 2 40 Tryz.underlying29 hi hz0 hz1 hz2 rfl (by decide) _ n xs rfl hown2 ⟨vb, 0, none⟩ 1 vc ys rfl (by rw [hys]) (λj u hj => by rw [Addr.add_lit, JW]; exact hv j u hj) h1y (by simp only [maxLen]; omega) J0 hbase ?_)
     intro v' w' ho hg
     go_wp2_with fail
     go_ret
     exact ⟨v', rfl, ho, hg⟩
theorem QY{w:World}{g j:Nat}{c:Array Value}{e:TypeId}{f:Nat×Nat}{v:Value}(h:w.heap[g]? =some (.cells c e f))(hj:c[j]? =some v):w.cell? ⟨g,j,none⟩=some v:=by unfold World.cell?;simp[h,hj]
theorem ZJO{w:World}{g:Nat}{c:Array Value}{e:TypeId}{f:Nat×Nat}(h:w.heap[g]? =some (.cells c e f)):w.shape? g=some (e,c.size):=by unfold World.shape?;rw[h]
theorem ZLW{w:World}{g o:Nat}{c:Array Value}{e:TypeId}(h:w.heap[g]? =some (.cells c e (0,0))):w.frozen? ⟨g,o,none⟩=false:=by unfold World.frozen?;simp[h]
set_option maxHeartbeats 4000000 in
set_option maxRecDepth 100000 in
theorem ZWW(w:World)(g cap n i:Nat)(cur:Array Value)(xs ys:List Value)(vb vc:Nat)(cv:Array Value)(ev:TypeId)(hgg:w.heap[g]? =some (.cells cur 94 (0,0)))(hcs:cur.size=cap*2)(htake:cur.toList.take (n*2)=xs)(hi:i<n)(hn:n<=1000000)(hroom:n+1<=cap)(hc63:cap<=9223372036854775807)
  (hvg:w.heap[vb]? =some (.cells cv ev (0,0))) (hvb:vb≠g) (hys:cv.toList.take 2=ys) (hyl:ys.length=2) (h1x: ∀u∈xs,u.oneCell'=true) (h1y: ∀u∈ys,u.oneCell'=true):
  Calls Tryz.prog 126 #[.slice (some ⟨g,0,none⟩) n cap,.int .i64 i,.slice (some ⟨vb,0,none⟩) 1 vc] w λe w'=> ∃cur',e= .returned (.slice (some ⟨g,0,none⟩) (n+1) cap)/\w'=w.drew.setRow g cur'/\cur'.size=cap*2/\cur'.toList.take ((n+1)*2)=YN xs (i*2) ys:=by
 obtain⟨i0,hi0,hz0,hz1,hz2⟩:=ZJM;have hz3: ¬((1:Int)=0):=by omega
 have hz4: ¬((i:Int)=(n:Int)):=by omega
 have hsz: ∀w,(Go.sizeOf 94).run Tryz.prog w= .ok 2 w:=λw=>by simp[sizeOf,typeInfo,hi0,hz1]
 have hov: ∀o lb cb,(callFunc 163 #[.slice (some ⟨vb,0,none⟩) 1 vc,.slice (some ⟨g,o,none⟩) lb cb]).run Tryz.prog w= .ok (.value (.bool false)) w:=λo lb cb=>by
  rw[run_callFunc_extern Tryz.func163 J3 J3 J3 (e:=Extern.SlicesOverlaps.overlaps #[29,29] #[4]) J3,
   Lib.run_overlaps_apart w 29 4 94 Tryz.underlying29 2 hsz ⟨vb,0,none⟩ ⟨g,o,none⟩ 1 vc lb cb hvb _ _ _ _ (ZJO hvg) (ZJO hgg) (by rw[hcs];omega) (ZLW hvg) (ZLW hvg)]
  rfl
 have hxl:xs.length=n*2:=by rw[<-htake,JA,QX];omega
 have hdl:(xs.drop (i*2)).length=n*2-i*2:=by rw[KD,hxl]
 have hcx: ∀j v,xs[j]? =some v->cur[j]? =some v:=λj v hj=>by
  rw[<-htake,Jw]at hj;split at hj
  .rw[<-ξL];exact hj
  .cases hj
 have hcp1: ∀ty dl dc sl sc,dl=n-i->sl=n+1-i->(Builtin.copy_ #[29,29] ty #[.slice (some ⟨g,(i+1)*2,none⟩) dl dc,.slice (some ⟨g,i*2,none⟩) sl sc]).run Tryz.prog w.drew= .ok (goInt (min (sl:Int) (dl:Int))) (w.drew.setRow g (cur.toList.take ((i+1)*2)++xs.drop (i*2)++cur.toList.drop ((i+1)*2+(xs.drop (i*2)).length)).toArray):=λty dl dc sl sc e1 e2=>
  ZAI (P:=Tryz.prog) w.drew 29 29 ty 94 i0 2 Tryz.underlying29 hi0 hz1 g ((i+1)*2) dl dc cur hgg ⟨g,i*2,none⟩ sl sc (xs.drop (i*2)) (by rw[hdl];omega)
   (λj v hj=>by rw[Addr.add_lit];exact QY (w:=w.drew) hgg (hcx _ _ (by rwa [ξY]at hj))) (by rw[hdl,hcs];omega) (λv hv=>h1x v (ZB1 hv))
 obtain⟨cur1,hcur1⟩: ∃cur1,cur1=(cur.toList.take ((i+1)*2)++xs.drop (i*2)++cur.toList.drop ((i+1)*2+(xs.drop (i*2)).length)).toArray:=⟨_,rfl⟩;rw[<-hcur1]at hcp1;have hc1s:cur1.size=cap*2:=by
  rw[hcur1];simp only[ZC9,Zf,JA,KD,QX,hxl,hcs];omega
 have hg1:(w.drew.setRow g cur1).heap[g]? =some (.cells cur1 94 (0,0)):=setRow_heap w.drew g cur _ _ _ hgg;have hv1:(w.drew.setRow g cur1).heap[vb]? =some (.cells cv ev (0,0)):=by rw[setRow_other w.drew g vb _ hvb];exact hvg
 have hcp2: ∀(W:World),(∀k:Nat,W.heap[k]? =(w.drew.setRow g cur1).heap[k]?)-> ∀ty dl dc,dl=n+1-i->(Builtin.copy_ #[29,29] ty #[.slice (some ⟨g,i*2,none⟩) dl dc,.slice (some ⟨vb,0,none⟩) 1 vc]).run Tryz.prog W= .ok (goInt (min ((1:Nat):Int) (dl:Int))) (W.setRow g (cur1.toList.take (i*2)++ys++cur1.toList.drop (i*2+ys.length)).toArray):=λW hW ty dl dc e1=>
  ZAI (P:=Tryz.prog) W 29 29 ty 94 i0 2 Tryz.underlying29 hi0 hz1 g (i*2) dl dc cur1 (by rw[hW];exact hg1) ⟨vb,0,none⟩ 1 vc ys (by rw[hyl];omega)
   (λj v hj=>by rw[Addr.add_lit,JW];exact QY (w:=W) (by rw[hW];exact hv1) (by rw[<-ξL];rw[<-hys,Jw]at hj;split at hj;exact hj;cases hj)) (by rw[hyl,hc1s];omega) h1y
 obtain⟨cur2,hcur2⟩: ∃cur2,cur2=(cur1.toList.take (i*2)++ys++cur1.toList.drop (i*2+ys.length)).toArray:=⟨_,rfl⟩;have hfin:cur2.size=cap*2/\cur2.toList.take ((n+1)*2)=YN xs (i*2) ys:=by
  constructor
  .rw[hcur2];simp only[ZC9,Zf,JA,KD,QX,hyl,hc1s];omega
  .obtain⟨A,hA⟩: ∃A,A=xs.take (i*2):=⟨_,rfl⟩;obtain⟨B,hB⟩: ∃B,B=xs.drop (i*2):=⟨_,rfl⟩;obtain⟨C,hC⟩: ∃C,C=cur.toList.drop (n*2):=⟨_,rfl⟩;have hAl:A.length=i*2:=by rw[hA,JA];omega
   have hBl:B.length=n*2-i*2:=by rw[hB,hdl]
   have hcur:cur.toList=A++B++C:=by rw[hA,hB,hC,ZDl,<-htake,ZDl]
   have hCl:2<=C.length:=by rw[hC,KD,QX];omega
   have h:=ZR9 A B C ys 2 hyl hCl;rw[hAl]at h;rw[hcur2,hcur1,<-hB,hcur,show(i+1)*2=i*2+2 by omega];simp only[List.toList_toArray];rw[h];unfold YN;rw[<-hA,<-hB,ZM7 (by simp only[Zf,hAl,hyl,hBl];omega),Yi (by simp only[Zf,hAl,hyl,hBl];omega)]
 rw[<-hcur2]at hcp2;clear hcur2 hcur1;have mixed:Tryz.prog.follows Departure.mixedOrders=true:=by kernel_rfl
 have hw1:IntKind.i64.wrap ((i:Int)+1)=(i:Int)+1:=by rw[IntKind.wrap_i64];omega
 have hb1:(0:Int)<=(i:Int)+1:=by omega
 have hin:i<=n:=by omega
 have htn:((i:Int)+1).toNat=i+1:=by omega
 have hb2: ¬(cap=i+1):=by omega
 have hb3:(i:Int)<=(n:Int)+1:=by omega
 have hb4: ¬(cap=i):=by omega
 go_enter Tryz.func126,Tryz.ntmps126
 go_wp2_with (simp only[hov])
 go_region_law_o (refine step_copy_runI rfl _ _ 29 29 rfl _ _ (by simp[Act.eval,Act.put]) (by simp[Act.eval,Act.put]) (hcp1 _ _ _ _ _ J0 J0) ?_)
 go_wp2_with (at_builtin;refine wpList_copy_runI _ rfl _ _ 29 29 rfl _ _ rfl rfl (hcp2 _ (λ_=>rfl) _ _ _ J0) ?_)
 go_ret
 exact⟨cur2,rfl,ZJ6 w.drew g _ _,hfin.1,hfin.2⟩
set_option maxHeartbeats 4000000 in
set_option maxRecDepth 100000 in
theorem ZXE(w:World)(g cap n i:Nat)(cur:Array Value)(xs ys:List Value)(vb vc:Nat)(cv:Array Value)(ev:TypeId)(hgg:w.heap[g]? =some (.cells cur 94 (0,0)))(hcs:cur.size=cap*2)(htake:cur.toList.take (n*2)=xs)(hi:i<n)(hn:n<=1000000)(hnc:n<=cap)(hroom:cap<n+1)
  (hvg:w.heap[vb]? =some (.cells cv ev (0,0))) (hys:cv.toList.take 2=ys) (hyl:ys.length=2) (h1x: ∀u∈xs,u.oneCell'=true) (h1y: ∀u∈ys,u.oneCell'=true):
  Calls Tryz.prog 126 #[.slice (some ⟨g,0,none⟩) n cap,.int .i64 i,.slice (some ⟨vb,0,none⟩) 1 vc] w λe w'=> ∃cur' G,e= .returned (.slice (some ⟨w.heap.size,0,none⟩) (n+1) G)/\w'.heap[w.heap.size]? =some (.cells cur' 94 (0,0))/\w.grownBy w' none/\n+1<=G/\G<=maxLen/\cur'.size=G*2/\cur'.toList.take ((n+1)*2)=YN xs (i*2) ys:=by
 obtain⟨i0,hi0,hz0,hz1,hz2⟩:=ZJM;obtain rfl:n=cap:=by omega
 have hz3: ¬((1:Int)=0):=by omega
 have hz4: ¬((i:Int)=(n:Int)):=by omega
 have hxl:xs.length=n*2:=by rw[<-htake,JA,QX];omega
 have hdl:(xs.drop (i*2)).length=n*2-i*2:=by rw[KD,hxl]
 have hcx: ∀j v,xs[j]? =some v->cur[j]? =some v:=λj v hj=>by
  rw[<-htake,Jw]at hj;split at hj
  .rw[<-ξL];exact hj
  .cases hj
 have hgl:g<w.heap.size:=(ξH hgg).1;have hvl:vb<w.heap.size:=(ξH hvg).1;have hold:(Builtin.firstCells i0.size i (.slice (some ⟨g,0,none⟩) i n)).run Tryz.prog w.drew= .ok (xs.take (i*2)).toArray w.drew:=by
  rw[hz1];exact run_firstCells_some w.drew 2 i ⟨g,0,none⟩ i n (xs.take (i*2)) (by rw[JA];omega) (λj v hj=>by
   rw[Addr.add_lit,JW];rw[Jw]at hj;split at hj
   .exact QY (w:=w.drew) hgg (hcx _ _ hj)
   .cases hj)
 obtain⟨G,hG⟩: ∃G,G=grownCap w (n+1) n 94:=⟨_,rfl⟩;obtain⟨z,hz⟩: ∃z,z=(Value.agg #[.string ByteArray.empty,.slice none 0 0]):=⟨_,rfl⟩;have hzs:z.cells.size=2:=by rw[hz];rfl
 obtain⟨ROW,hROW⟩: ∃ROW:Array Value,ROW=(xs.take (i*2)).toArray++Builtin.zeroCells z.cells (n+1-i)++Builtin.zeroCells z.cells (G-(n+1)):=⟨_,rfl⟩;have hrz: ∀ty,(Builtin.append_ #[29,3] ty #[.slice (some ⟨g,0,none⟩) i n,.int .i64 ((n:Int)+1-(i:Int))]).run Tryz.prog w= .ok (.slice (some ⟨w.heap.size,0,none⟩) (n+1) G) (w.drew.alloc (.cells ROW 94)):=λty=>by
  have h:=Lib.run_append_grow_zeros w 29 3 ty 94 i0 z .i64 .i64 Tryz.underlying29 Tryz.underlying3 hi0 (by rw[hz0,hz]) (some ⟨g,0,none⟩) i n (xs.take (i*2)) hold (n+1-i) J0 J0 J0 J0 (by rw[hz2];omega) (by rw[hz2,show i+(n+1-i)=n+1 by omega];exact growslice_fits J0 J0);rw[show i+(n+1-i)=n+1 by omega,<-hG,<-hROW]at h;rw[show((n:Int)+1-(i:Int))=((n+1-i:Nat):Int) by omega];exact h
 have hGn:n+1<=G:=by rw[hG];exact grownCap_ge w _ _ _
 have hGm:G<=maxLen:=by rw[hG];exact grownCap_le_maxLen w (n+1) n _ (by unfold maxLen;omega)
 have hzc: ∀k,(Builtin.zeroCells z.cells k).size=k*2:=λk=>by simp[Builtin.zeroCells,hzs]
 have hRs:ROW.size=G*2:=by
  rw[hROW];simp only[ZcC,ZC9,JA,hzc,hxl];omega
 obtain⟨W1,hW1⟩: ∃W1,W1=w.drew.alloc (.cells ROW 94):=⟨_,rfl⟩;have hN1:W1.heap[w.heap.size]? =some (.cells ROW 94 (0,0)):=by rw[hW1];exact heap_alloc_new w.drew _
 have hgW:W1.heap[g]? =some (.cells cur 94 (0,0)):=by rw[hW1];exact(heap_alloc_old w.drew _ hgl).trans hgg
 have hvW:W1.heap[vb]? =some (.cells cv ev (0,0)):=by rw[hW1];exact(heap_alloc_old w.drew _ hvl).trans hvg
 have hcp1: ∀(W:World),(∀k:Nat,W.heap[k]? =W1.heap[k]?)-> ∀ty dl dc,dl=n+1-i->(Builtin.copy_ #[29,29] ty #[.slice (some ⟨w.heap.size,i*2,none⟩) dl dc,.slice (some ⟨vb,0,none⟩) 1 vc]).run Tryz.prog W= .ok (goInt (min ((1:Nat):Int) (dl:Int))) (W.setRow w.heap.size (ROW.toList.take (i*2)++ys++ROW.toList.drop (i*2+ys.length)).toArray):=λW hW ty dl dc e1=>
  ZAI (P:=Tryz.prog) W 29 29 ty 94 i0 2 Tryz.underlying29 hi0 hz1 w.heap.size (i*2) dl dc ROW (by rw[hW];exact hN1) ⟨vb,0,none⟩ 1 vc ys (by rw[hyl];omega)
   (λj v hj=>by rw[Addr.add_lit,JW];exact QY (w:=W) (by rw[hW];exact hvW) (by rw[<-ξL];rw[<-hys,Jw]at hj;split at hj;exact hj;cases hj)) (by rw[hyl,hRs];omega) h1y
 obtain⟨R1,hR1⟩: ∃R1,R1=(ROW.toList.take (i*2)++ys++ROW.toList.drop (i*2+ys.length)).toArray:=⟨_,rfl⟩;rw[<-hR1]at hcp1;have hR1s:R1.size=G*2:=by
  rw[hR1];simp only[ZC9,Zf,JA,KD,QX,hyl,hRs];omega
 have hN2:(W1.setRow w.heap.size R1).heap[w.heap.size]? =some (.cells R1 94 (0,0)):=setRow_heap W1 _ ROW _ _ _ hN1;have hgW2:(W1.setRow w.heap.size R1).heap[g]? =some (.cells cur 94 (0,0)):=by rw[setRow_other W1 _ g _ J0];exact hgW
 have hcp2: ∀(W:World),(∀k:Nat,W.heap[k]? =(W1.setRow w.heap.size R1).heap[k]?)-> ∀ty dl dc sl sc,dl=n-i->sl=n-i->(Builtin.copy_ #[29,29] ty #[.slice (some ⟨w.heap.size,(i+1)*2,none⟩) dl dc,.slice (some ⟨g,i*2,none⟩) sl sc]).run Tryz.prog W= .ok (goInt (min (sl:Int) (dl:Int))) (W.setRow w.heap.size (R1.toList.take ((i+1)*2)++xs.drop (i*2)++R1.toList.drop ((i+1)*2+(xs.drop (i*2)).length)).toArray):=λW hW ty dl dc sl sc e1 e2=>
  ZAI (P:=Tryz.prog) W 29 29 ty 94 i0 2 Tryz.underlying29 hi0 hz1 w.heap.size ((i+1)*2) dl dc R1 (by rw[hW];exact hN2) ⟨g,i*2,none⟩ sl sc (xs.drop (i*2)) (by rw[hdl];omega)
   (λj v hj=>by rw[Addr.add_lit];exact QY (w:=W) (by rw[hW];exact hgW2) (hcx _ _ (by rwa [ξY]at hj))) (by rw[hdl,hR1s];omega) (λv hv=>h1x v (ZB1 hv))
 obtain⟨R2,hR2⟩: ∃R2,R2=(R1.toList.take ((i+1)*2)++xs.drop (i*2)++R1.toList.drop ((i+1)*2+(xs.drop (i*2)).length)).toArray:=⟨_,rfl⟩;rw[<-hR2]at hcp2;have hfin:R2.size=G*2/\R2.toList.take ((n+1)*2)=YN xs (i*2) ys:=by
  constructor
  .rw[hR2];simp only[ZC9,Zf,JA,KD,QX,hdl,hR1s,hxl];omega
  .obtain⟨Z,hZ⟩: ∃Z,Z=(Builtin.zeroCells z.cells (n+1-i)).toList++(Builtin.zeroCells z.cells (G-(n+1))).toList:=⟨_,rfl⟩;obtain⟨A,hA⟩: ∃A,A=xs.take (i*2):=⟨_,rfl⟩;have hAl:A.length=i*2:=by rw[hA,JA];omega
   have hROWl:ROW.toList=A++Z:=by rw[hROW,hZ,hA];simp
   have hZl:2<=Z.length:=by rw[hZ,Zf,QX,hzc];omega
   have h:=ZQk A Z (xs.drop (i*2)) ys 2 hyl hZl;rw[hAl]at h;rw[hR2,hR1,hROWl,show(i+1)*2=i*2+2 by omega];simp only[List.toList_toArray];rw[h];unfold YN;rw[<-hA,ZM7 (by simp only[Zf,hAl,hyl,hdl];omega),Yi (by simp only[Zf,hAl,hyl,hdl];omega)]
 have hN3:((W1.setRow w.heap.size R1).drew.setRow w.heap.size R2).heap[w.heap.size]? =some (.cells R2 94 (0,0)):=setRow_heap (W1.setRow w.heap.size R1).drew _ R1 _ _ _ hN2;have hgr:w.grownBy ((W1.setRow w.heap.size R1).drew.setRow w.heap.size R2) none:=by
  refine⟨by rw[hW1];rfl,by rw[hW1];rfl,by rw[hW1];rfl,?_,λk hk _=> ?_⟩
  .have e1:((W1.setRow w.heap.size R1).drew.setRow w.heap.size R2).heap.size=W1.heap.size:=by simp[World.setRow,World.drew]
   rw[e1,hW1];show w.heap.size<=(w.heap.push _).size;rw[Array.size_push];omega
  .rw[setRow_other (W1.setRow w.heap.size R1).drew _ k _ J0];show(W1.setRow w.heap.size R1).heap[k]? =_;rw[setRow_other W1 _ k _ J0,hW1];exact heap_alloc_old w.drew _ hk
 rw[<-hW1]at hrz;have HN3:=Lib.hid hN3;clear hR2 hR1 hROW hRs hG hW1 hN3;have mixed:Tryz.prog.follows Departure.mixedOrders=true:=by kernel_rfl
 have hw1:IntKind.i64.wrap ((i:Int)+1)=(i:Int)+1:=by rw[IntKind.wrap_i64];omega
 have hb1:(0:Int)<=(i:Int)+1:=by omega
 have hin:i<=n:=by omega
 have htn:((i:Int)+1).toNat=i+1:=by omega
 have hb3:(i:Int)<=(n:Int):=by omega
 have hGi: ¬(G=i):=by omega
 have hGim: ¬(G=i+1):=by omega
 have hci: ¬(n=i):=by omega
 have hzz:(n:Int)<(n:Int)+1:=by omega
 have hG63:G<=9223372036854775807:=by unfold maxLen at hGm;omega
 go_enter Tryz.func126,Tryz.ntmps126
 go_wp2_with (first
  |(at_builtin;refine Lib.wpList_append_run _ rfl _ _ _ _ rfl _ _ rfl rfl _ _ (hrz _) ?_)
  |(at_builtin;refine wpList_copy_runI _ rfl _ _ 29 29 rfl _ _ rfl rfl (hcp1 _ (λ_=>rfl) _ _ _ J0) ?_))
 go_region_law_o (refine step_copy_runI rfl _ _ 29 29 rfl (.slice (some ⟨w.heap.size,(i+1)*2,none⟩) (n-i) (G-(i+1))) (.slice (some ⟨g,i*2,none⟩) (n-i) (n-i)) (by simp[Act.eval,Act.put]) (by simp[Act.eval,Act.put]) (hcp2 (W1.setRow w.heap.size R1).drew (λ_=>rfl) _ _ _ _ _ rfl rfl) ?_)
 go_wp2
 go_ret
 exact⟨R2,G,rfl,HN3.out,hgr,hGn,hGm,hfin.1,hfin.2⟩
theorem Zay(w:World)(base:Nat)(v0:Value)(n i:Nat)(xs ys:List Value)(vb vc:Nat)(cv:Array Value)(ev:TypeId)(hown:w.ownsRow base 94 2 v0 n xs)(hi:i<=n)(hn:n<=1000000)(hvg:w.heap[vb]? =some (.cells cv ev (0,0)))(hvb:v0.ownBlock≠some vb)(hys:cv.toList.take 2=ys)(hyl:ys.length=2)
  (h1x: ∀u∈xs,u.oneCell'=true) (h1y: ∀u∈ys,u.oneCell'=true) (hbase:base<=w.heap.size):
  Calls Tryz.prog 126 #[v0,.int .i64 i,.slice (some ⟨vb,0,none⟩) 1 vc] w λe w'=> ∃v',e= .returned v'/\w'.ownsRow base 94 2 v' (n+1) (YN xs (i*2) ys)/\Grow w w' v0 v':=by
 have hxl:=hown.1;by_cases hin:i=n
 .subst hin;have e:YN xs (i*2) ys=xs++ys:=by unfold YN;rw[Yi J0,ZB2 J0,Ku]
  rw[e];exact Zcc w base v0 i xs ys vb vc hown hn hyl (λj u hj=>QY hvg (by rw[<-ξL];rw[<-hys,Jw]at hj;split at hj;exact hj;cases hj)) h1y hbase
 .rcases hown.2 with⟨_,rfl⟩|⟨g,cap,cur,rfl,hbg,hgg,hnc,hcm,hcs,htake⟩
  .omega
  have hlen:(YN xs (i*2) ys).length=(n+1)*2:=by unfold YN;simp only[Zf,JA,KD,hxl,hyl];omega
  by_cases hroom:n+1<=cap
  .refine(ZWW w g cap n i cur xs ys vb vc cv ev hgg hcs htake J0 hn hroom (by unfold maxLen at hcm;omega) hvg (λe=>hvb (by rw[e];rfl)) hys hyl h1x h1y).mono ?_;rintro e w' ⟨cur',rfl,rfl,h1,h2⟩;refine⟨_,rfl,⟨hlen,.inr ⟨g,cap,cur',rfl,hbg,setRow_heap w.drew g cur _ _ _ hgg,hroom,hcm,h1,h2⟩⟩,⟨⟨rfl,rfl,rfl,by show w.drew.heap.size<=_;simp,λk _ hk=>setRow_other w.drew g k _ (λq=>hk (by rw[q];rfl))⟩,.inl rfl⟩⟩
  .refine(ZXE w g cap n i cur xs ys vb vc cv ev hgg hcs htake J0 hn hnc J0 hvg hys hyl h1x h1y).mono ?_;rintro e w' ⟨cur',G,rfl,h0,hg,h1,h2,h3,h4⟩;exact⟨_,rfl,⟨hlen,.inr ⟨w.heap.size,G,cur',rfl,hbase,h0,h1,h2,h3,h4⟩⟩,⟨⟨hg.os,hg.tape,hg.output,hg.size,λk hk _=>hg.block k hk J1⟩,.inr ⟨_,rfl,Zm _⟩⟩⟩
theorem ZaR:(Tryz.prog.info? 9).map (λi=>(i.zero,i.size,i.bytes))=some (some (.string ByteArray.empty),1,16):=by kernel_rfl
theorem ZLU: ∃i0,Tryz.prog.info? 9=some i0/\i0.zero=some (.string ByteArray.empty)/\i0.size=1/\i0.bytes=16:=by
 have h:=ZaR;cases hq:Tryz.prog.info? 9 with
 |none=>rw[hq]at h;cases h
 |some i0=>rw[hq]at h;simp at h;exact⟨i0,rfl,h.1,h.2.1,h.2.2⟩
set_option maxHeartbeats 4000000 in
set_option maxRecDepth 100000 in
theorem ZaQ(w : World)(base : Nat)(v0 : Value)(n : Nat)(xs ys : List Value)(vb vc : Nat)(hown : w.ownsRow base 9 1 v0 n xs)(hn : n <= 1000000)(hys : ys.length = 1)(hv : ∀ j u, ys[j]? = some u -> w.cell? ⟨vb, j, none⟩ = some u)
    (h1y : ∀ u ∈ ys, u.oneCell' = true) (hbase : base <= w.heap.size) :
    Calls Tryz.prog 44 #[v0, .int .i64 n, .slice (some ⟨vb, 0, none⟩) 1 vc] w λe w' => ∃ v', e = .returned v' /\ w'.ownsRow base 9 1 v' (n + 1) (xs ++ ys) /\ Grow w w' v0 v' := by
  obtain ⟨i0, hi, hz0, hz1, hz2⟩ := ZLU;have hown2 := hown;rcases hown.2 with ⟨rfl, rfl⟩ | ⟨g, cap, cur, rfl, hbg, hgg, hnc, hcm, hcs, htake⟩
  · go_enter Tryz.func44, Tryz.ntmps44
    go_wp2_with (at_builtin; refine ZDZ _ rfl _ _ 34 rfl base 9 i0 (.string ByteArray.empty) 1 16 Tryz.underlying34 hi hz0 hz1 hz2 rfl (by decide) _ 0 xs rfl hown2 ⟨vb, 0, none⟩ 1 vc ys rfl (by rw [hys]) (λj u hj => by rw [Addr.add_lit, JW]; exact hv j u hj) h1y (by simp only [maxLen]; omega) J0 hbase ?_)
    intro v' w' ho hg
    go_wp2_with fail
    go_ret
    exact ⟨v', rfl, ho, hg⟩
  · have hz3 : ¬ ((1 : Int) = 0) := by omega
    by_cases hcn : n = cap
    all_goals first | subst hcn | skip
    all_goals
     go_enter Tryz.func44, Tryz.ntmps44
     go_wp2_with (at_builtin; refine ZDZ _ rfl _ _ 34 rfl base 9 i0 (.string ByteArray.empty) 1 16 Tryz.underlying34 hi hz0 hz1 hz2 rfl (by decide) _ n xs rfl hown2 ⟨vb, 0, none⟩ 1 vc ys rfl (by rw [hys]) (λj u hj => by rw [Addr.add_lit, JW]; exact hv j u hj) h1y (by simp only [maxLen]; omega) J0 hbase ?_)
     intro v' w' ho hg
     go_wp2_with fail
     go_ret
     exact ⟨v', rfl, ho, hg⟩
set_option maxHeartbeats 4000000 in
set_option maxRecDepth 100000 in
theorem ZVd(w:World)(g cap n i:Nat)(cur:Array Value)(xs ys:List Value)(vb vc:Nat)(cv:Array Value)(ev:TypeId)(hgg:w.heap[g]? =some (.cells cur 9 (0,0)))(hcs:cur.size=cap)(htake:cur.toList.take (n)=xs)(hi:i<n)(hn:n<=1000000)(hroom:n+1<=cap)(hc63:cap<=9223372036854775807)
  (hvg:w.heap[vb]? =some (.cells cv ev (0,0))) (hvb:vb≠g) (hys:cv.toList.take 1=ys) (hyl:ys.length=1) (h1x: ∀u∈xs,u.oneCell'=true) (h1y: ∀u∈ys,u.oneCell'=true):
  Calls Tryz.prog 44 #[.slice (some ⟨g,0,none⟩) n cap,.int .i64 i,.slice (some ⟨vb,0,none⟩) 1 vc] w λe w'=> ∃cur',e= .returned (.slice (some ⟨g,0,none⟩) (n+1) cap)/\w'=w.drew.setRow g cur'/\cur'.size=cap/\cur'.toList.take ((n+1))=YN xs (i) ys:=by
 obtain⟨i0,hi0,hz0,hz1,hz2⟩:=ZLU;have hz3: ¬((1:Int)=0):=by omega
 have hz4: ¬((i:Int)=(n:Int)):=by omega
 have hsz: ∀w,(Go.sizeOf 9).run Tryz.prog w= .ok 1 w:=λw=>by simp[sizeOf,typeInfo,hi0,hz1]
 have hov: ∀o lb cb,(callFunc 83 #[.slice (some ⟨vb,0,none⟩) 1 vc,.slice (some ⟨g,o,none⟩) lb cb]).run Tryz.prog w= .ok (.value (.bool false)) w:=λo lb cb=>by
  rw[run_callFunc_extern Tryz.func83 J3 J3 J3 (e:=Extern.SlicesOverlaps.overlaps #[34,34] #[4]) J3,
   Lib.run_overlaps_apart w 34 4 9 Tryz.underlying34 1 hsz ⟨vb,0,none⟩ ⟨g,o,none⟩ 1 vc lb cb hvb _ _ _ _ (ZJO hvg) (ZJO hgg) (by rw[hcs];omega) (ZLW hvg) (ZLW hvg)]
  rfl
 have hxl:xs.length=n:=by rw[<-htake,JA,QX];omega
 have hdl:(xs.drop (i)).length=n-i:=by rw[KD,hxl]
 have hcx: ∀j v,xs[j]? =some v->cur[j]? =some v:=λj v hj=>by
  rw[<-htake,Jw]at hj;split at hj
  .rw[<-ξL];exact hj
  .cases hj
 have hcp1: ∀ty dl dc sl sc,dl=n-i->sl=n+1-i->(Builtin.copy_ #[34,34] ty #[.slice (some ⟨g,(i+1),none⟩) dl dc,.slice (some ⟨g,i,none⟩) sl sc]).run Tryz.prog w.drew= .ok (goInt (min (sl:Int) (dl:Int))) (w.drew.setRow g (cur.toList.take ((i+1))++xs.drop (i)++cur.toList.drop ((i+1)+(xs.drop (i)).length)).toArray):=λty dl dc sl sc e1 e2=>
  ZAI (P:=Tryz.prog) w.drew 34 34 ty 9 i0 1 Tryz.underlying34 hi0 hz1 g ((i+1)) dl dc cur hgg ⟨g,i,none⟩ sl sc (xs.drop (i)) (by rw[hdl];omega)
   (λj v hj=>by rw[Addr.add_lit];exact QY (w:=w.drew) hgg (hcx _ _ (by rwa [ξY]at hj))) (by rw[hdl,hcs];omega) (λv hv=>h1x v (ZB1 hv))
 obtain⟨cur1,hcur1⟩: ∃cur1,cur1=(cur.toList.take ((i+1))++xs.drop (i)++cur.toList.drop ((i+1)+(xs.drop (i)).length)).toArray:=⟨_,rfl⟩;rw[<-hcur1]at hcp1;have hc1s:cur1.size=cap:=by
  rw[hcur1];simp only[ZC9,Zf,JA,KD,QX,hxl,hcs];omega
 have hg1:(w.drew.setRow g cur1).heap[g]? =some (.cells cur1 9 (0,0)):=setRow_heap w.drew g cur _ _ _ hgg;have hv1:(w.drew.setRow g cur1).heap[vb]? =some (.cells cv ev (0,0)):=by rw[setRow_other w.drew g vb _ hvb];exact hvg
 have hcp2: ∀(W:World),(∀k:Nat,W.heap[k]? =(w.drew.setRow g cur1).heap[k]?)-> ∀ty dl dc,dl=n+1-i->(Builtin.copy_ #[34,34] ty #[.slice (some ⟨g,i,none⟩) dl dc,.slice (some ⟨vb,0,none⟩) 1 vc]).run Tryz.prog W= .ok (goInt (min ((1:Nat):Int) (dl:Int))) (W.setRow g (cur1.toList.take (i)++ys++cur1.toList.drop (i+ys.length)).toArray):=λW hW ty dl dc e1=>
  ZAI (P:=Tryz.prog) W 34 34 ty 9 i0 1 Tryz.underlying34 hi0 hz1 g (i) dl dc cur1 (by rw[hW];exact hg1) ⟨vb,0,none⟩ 1 vc ys (by rw[hyl];omega)
   (λj v hj=>by rw[Addr.add_lit,JW];exact QY (w:=W) (by rw[hW];exact hv1) (by rw[<-ξL];rw[<-hys,Jw]at hj;split at hj;exact hj;cases hj)) (by rw[hyl,hc1s];omega) h1y
 obtain⟨cur2,hcur2⟩: ∃cur2,cur2=(cur1.toList.take (i)++ys++cur1.toList.drop (i+ys.length)).toArray:=⟨_,rfl⟩;have hfin:cur2.size=cap/\cur2.toList.take ((n+1))=YN xs (i) ys:=by
  constructor
  .rw[hcur2];simp only[ZC9,Zf,JA,KD,QX,hyl,hc1s];omega
  .obtain⟨A,hA⟩: ∃A,A=xs.take (i):=⟨_,rfl⟩;obtain⟨B,hB⟩: ∃B,B=xs.drop (i):=⟨_,rfl⟩;obtain⟨C,hC⟩: ∃C,C=cur.toList.drop (n):=⟨_,rfl⟩;have hAl:A.length=i:=by rw[hA,JA];omega
   have hBl:B.length=n-i:=by rw[hB,hdl]
   have hcur:cur.toList=A++B++C:=by rw[hA,hB,hC,ZDl,<-htake,ZDl]
   have hCl:1<=C.length:=by rw[hC,KD,QX];omega
   have h:=ZR9 A B C ys 1 hyl hCl;rw[hAl]at h;rw[hcur2,hcur1,<-hB,hcur,show(i+1)=i+1 from rfl];simp only[List.toList_toArray];rw[h];unfold YN;rw[<-hA,<-hB,ZM7 (by simp only[Zf,hAl,hyl,hBl];omega),Yi (by simp only[Zf,hAl,hyl,hBl];omega)]
 rw[<-hcur2]at hcp2;clear hcur2 hcur1;have mixed:Tryz.prog.follows Departure.mixedOrders=true:=by kernel_rfl
 have hw1:IntKind.i64.wrap ((i:Int)+1)=(i:Int)+1:=by rw[IntKind.wrap_i64];omega
 have hb1:(0:Int)<=(i:Int)+1:=by omega
 have hin:i<=n:=by omega
 have htn:((i:Int)+1).toNat=i+1:=by omega
 have hb2: ¬(cap=i+1):=by omega
 have hb3:(i:Int)<=(n:Int)+1:=by omega
 have hb4: ¬(cap=i):=by omega
 go_enter Tryz.func44,Tryz.ntmps44
 go_wp2_with (simp only[hov])
 go_region_law_o (refine step_copy_runI rfl _ _ 34 34 rfl _ _ (by simp[Act.eval,Act.put]) (by simp[Act.eval,Act.put]) (hcp1 _ _ _ _ _ J0 J0) ?_)
 go_wp2_with (at_builtin;refine wpList_copy_runI _ rfl _ _ 34 34 rfl _ _ rfl rfl (hcp2 _ (λ_=>rfl) _ _ _ J0) ?_)
 go_ret
 exact⟨cur2,rfl,ZJ6 w.drew g _ _,hfin.1,hfin.2⟩
set_option maxHeartbeats 4000000 in
set_option maxRecDepth 100000 in
theorem ZZJ(w:World)(g cap n i:Nat)(cur:Array Value)(xs ys:List Value)(vb vc:Nat)(cv:Array Value)(ev:TypeId)(hgg:w.heap[g]? =some (.cells cur 9 (0,0)))(hcs:cur.size=cap)(htake:cur.toList.take (n)=xs)(hi:i<n)(hn:n<=1000000)(hnc:n<=cap)(hroom:cap<n+1)
  (hvg:w.heap[vb]? =some (.cells cv ev (0,0))) (hys:cv.toList.take 1=ys) (hyl:ys.length=1) (h1x: ∀u∈xs,u.oneCell'=true) (h1y: ∀u∈ys,u.oneCell'=true):
  Calls Tryz.prog 44 #[.slice (some ⟨g,0,none⟩) n cap,.int .i64 i,.slice (some ⟨vb,0,none⟩) 1 vc] w λe w'=> ∃cur' G,e= .returned (.slice (some ⟨w.heap.size,0,none⟩) (n+1) G)/\w'.heap[w.heap.size]? =some (.cells cur' 9 (0,0))/\w.grownBy w' none/\n+1<=G/\G<=maxLen/\cur'.size=G/\cur'.toList.take ((n+1))=YN xs (i) ys:=by
 obtain⟨i0,hi0,hz0,hz1,hz2⟩:=ZLU;obtain rfl:n=cap:=by omega
 have hz3: ¬((1:Int)=0):=by omega
 have hz4: ¬((i:Int)=(n:Int)):=by omega
 have hxl:xs.length=n:=by rw[<-htake,JA,QX];omega
 have hdl:(xs.drop (i)).length=n-i:=by rw[KD,hxl]
 have hcx: ∀j v,xs[j]? =some v->cur[j]? =some v:=λj v hj=>by
  rw[<-htake,Jw]at hj;split at hj
  .rw[<-ξL];exact hj
  .cases hj
 have hgl:g<w.heap.size:=(ξH hgg).1;have hvl:vb<w.heap.size:=(ξH hvg).1;have hold:(Builtin.firstCells i0.size i (.slice (some ⟨g,0,none⟩) i n)).run Tryz.prog w.drew= .ok (xs.take (i)).toArray w.drew:=by
  rw[hz1];exact run_firstCells_some w.drew 1 i ⟨g,0,none⟩ i n (xs.take (i)) (by rw[JA];omega) (λj v hj=>by
   rw[Addr.add_lit,JW];rw[Jw]at hj;split at hj
   .exact QY (w:=w.drew) hgg (hcx _ _ hj)
   .cases hj)
 obtain⟨G,hG⟩: ∃G,G=grownCap w (n+1) n 9:=⟨_,rfl⟩;obtain⟨z,hz⟩: ∃z,z=(Value.string ByteArray.empty):=⟨_,rfl⟩;have hzs:z.cells.size=1:=by rw[hz];rfl
 obtain⟨ROW,hROW⟩: ∃ROW:Array Value,ROW=(xs.take (i)).toArray++Builtin.zeroCells z.cells (n+1-i)++Builtin.zeroCells z.cells (G-(n+1)):=⟨_,rfl⟩;have hrz: ∀ty,(Builtin.append_ #[34,3] ty #[.slice (some ⟨g,0,none⟩) i n,.int .i64 ((n:Int)+1-(i:Int))]).run Tryz.prog w= .ok (.slice (some ⟨w.heap.size,0,none⟩) (n+1) G) (w.drew.alloc (.cells ROW 9)):=λty=>by
  have h:=Lib.run_append_grow_zeros w 34 3 ty 9 i0 z .i64 .i64 Tryz.underlying34 Tryz.underlying3 hi0 (by rw[hz0,hz]) (some ⟨g,0,none⟩) i n (xs.take (i)) hold (n+1-i) J0 J0 J0 J0 (by rw[hz2];omega) (by rw[hz2,show i+(n+1-i)=n+1 by omega];exact growslice_fits J0 J0);rw[show i+(n+1-i)=n+1 by omega,<-hG,<-hROW]at h;rw[show((n:Int)+1-(i:Int))=((n+1-i:Nat):Int) by omega];exact h
 have hGn:n+1<=G:=by rw[hG];exact grownCap_ge w _ _ _
 have hGm:G<=maxLen:=by rw[hG];exact grownCap_le_maxLen w (n+1) n _ (by unfold maxLen;omega)
 have hzc: ∀k,(Builtin.zeroCells z.cells k).size=k:=λk=>by simp[Builtin.zeroCells,hzs]
 have hRs:ROW.size=G:=by
  rw[hROW];simp only[ZcC,ZC9,JA,hzc,hxl];omega
 obtain⟨W1,hW1⟩: ∃W1,W1=w.drew.alloc (.cells ROW 9):=⟨_,rfl⟩;have hN1:W1.heap[w.heap.size]? =some (.cells ROW 9 (0,0)):=by rw[hW1];exact heap_alloc_new w.drew _
 have hgW:W1.heap[g]? =some (.cells cur 9 (0,0)):=by rw[hW1];exact(heap_alloc_old w.drew _ hgl).trans hgg
 have hvW:W1.heap[vb]? =some (.cells cv ev (0,0)):=by rw[hW1];exact(heap_alloc_old w.drew _ hvl).trans hvg
 have hcp1: ∀(W:World),(∀k:Nat,W.heap[k]? =W1.heap[k]?)-> ∀ty dl dc,dl=n+1-i->(Builtin.copy_ #[34,34] ty #[.slice (some ⟨w.heap.size,i,none⟩) dl dc,.slice (some ⟨vb,0,none⟩) 1 vc]).run Tryz.prog W= .ok (goInt (min ((1:Nat):Int) (dl:Int))) (W.setRow w.heap.size (ROW.toList.take (i)++ys++ROW.toList.drop (i+ys.length)).toArray):=λW hW ty dl dc e1=>
  ZAI (P:=Tryz.prog) W 34 34 ty 9 i0 1 Tryz.underlying34 hi0 hz1 w.heap.size (i) dl dc ROW (by rw[hW];exact hN1) ⟨vb,0,none⟩ 1 vc ys (by rw[hyl];omega)
   (λj v hj=>by rw[Addr.add_lit,JW];exact QY (w:=W) (by rw[hW];exact hvW) (by rw[<-ξL];rw[<-hys,Jw]at hj;split at hj;exact hj;cases hj)) (by rw[hyl,hRs];omega) h1y
 obtain⟨R1,hR1⟩: ∃R1,R1=(ROW.toList.take (i)++ys++ROW.toList.drop (i+ys.length)).toArray:=⟨_,rfl⟩;rw[<-hR1]at hcp1;have hR1s:R1.size=G:=by
  rw[hR1];simp only[ZC9,Zf,JA,KD,QX,hyl,hRs];omega
 have hN2:(W1.setRow w.heap.size R1).heap[w.heap.size]? =some (.cells R1 9 (0,0)):=setRow_heap W1 _ ROW _ _ _ hN1;have hgW2:(W1.setRow w.heap.size R1).heap[g]? =some (.cells cur 9 (0,0)):=by rw[setRow_other W1 _ g _ J0];exact hgW
 have hcp2: ∀(W:World),(∀k:Nat,W.heap[k]? =(W1.setRow w.heap.size R1).heap[k]?)-> ∀ty dl dc sl sc,dl=n-i->sl=n-i->(Builtin.copy_ #[34,34] ty #[.slice (some ⟨w.heap.size,(i+1),none⟩) dl dc,.slice (some ⟨g,i,none⟩) sl sc]).run Tryz.prog W= .ok (goInt (min (sl:Int) (dl:Int))) (W.setRow w.heap.size (R1.toList.take ((i+1))++xs.drop (i)++R1.toList.drop ((i+1)+(xs.drop (i)).length)).toArray):=λW hW ty dl dc sl sc e1 e2=>
  ZAI (P:=Tryz.prog) W 34 34 ty 9 i0 1 Tryz.underlying34 hi0 hz1 w.heap.size ((i+1)) dl dc R1 (by rw[hW];exact hN2) ⟨g,i,none⟩ sl sc (xs.drop (i)) (by rw[hdl];omega)
   (λj v hj=>by rw[Addr.add_lit];exact QY (w:=W) (by rw[hW];exact hgW2) (hcx _ _ (by rwa [ξY]at hj))) (by rw[hdl,hR1s];omega) (λv hv=>h1x v (ZB1 hv))
 obtain⟨R2,hR2⟩: ∃R2,R2=(R1.toList.take ((i+1))++xs.drop (i)++R1.toList.drop ((i+1)+(xs.drop (i)).length)).toArray:=⟨_,rfl⟩;rw[<-hR2]at hcp2;have hfin:R2.size=G/\R2.toList.take ((n+1))=YN xs (i) ys:=by
  constructor
  .rw[hR2];simp only[ZC9,Zf,JA,KD,QX,hdl,hR1s,hxl];omega
  .obtain⟨Z,hZ⟩: ∃Z,Z=(Builtin.zeroCells z.cells (n+1-i)).toList++(Builtin.zeroCells z.cells (G-(n+1))).toList:=⟨_,rfl⟩;obtain⟨A,hA⟩: ∃A,A=xs.take (i):=⟨_,rfl⟩;have hAl:A.length=i:=by rw[hA,JA];omega
   have hROWl:ROW.toList=A++Z:=by rw[hROW,hZ,hA];simp
   have hZl:1<=Z.length:=by rw[hZ,Zf,QX,hzc];omega
   have h:=ZQk A Z (xs.drop (i)) ys 1 hyl hZl;rw[hAl]at h;rw[hR2,hR1,hROWl,show(i+1)=i+1 from rfl];simp only[List.toList_toArray];rw[h];unfold YN;rw[<-hA,ZM7 (by simp only[Zf,hAl,hyl,hdl];omega),Yi (by simp only[Zf,hAl,hyl,hdl];omega)]
 have hN3:((W1.setRow w.heap.size R1).drew.setRow w.heap.size R2).heap[w.heap.size]? =some (.cells R2 9 (0,0)):=setRow_heap (W1.setRow w.heap.size R1).drew _ R1 _ _ _ hN2;have hgr:w.grownBy ((W1.setRow w.heap.size R1).drew.setRow w.heap.size R2) none:=by
  refine⟨by rw[hW1];rfl,by rw[hW1];rfl,by rw[hW1];rfl,?_,λk hk _=> ?_⟩
  .have e1:((W1.setRow w.heap.size R1).drew.setRow w.heap.size R2).heap.size=W1.heap.size:=by simp[World.setRow,World.drew]
   rw[e1,hW1];show w.heap.size<=(w.heap.push _).size;rw[Array.size_push];omega
  .rw[setRow_other (W1.setRow w.heap.size R1).drew _ k _ J0];show(W1.setRow w.heap.size R1).heap[k]? =_;rw[setRow_other W1 _ k _ J0,hW1];exact heap_alloc_old w.drew _ hk
 rw[<-hW1]at hrz;have HN3:=Lib.hid hN3;clear hR2 hR1 hROW hRs hG hW1 hN3;have mixed:Tryz.prog.follows Departure.mixedOrders=true:=by kernel_rfl
 have hw1:IntKind.i64.wrap ((i:Int)+1)=(i:Int)+1:=by rw[IntKind.wrap_i64];omega
 have hb1:(0:Int)<=(i:Int)+1:=by omega
 have hin:i<=n:=by omega
 have htn:((i:Int)+1).toNat=i+1:=by omega
 have hb3:(i:Int)<=(n:Int):=by omega
 have hGi: ¬(G=i):=by omega
 have hGim: ¬(G=i+1):=by omega
 have hci: ¬(n=i):=by omega
 have hzz:(n:Int)<(n:Int)+1:=by omega
 have hG63:G<=9223372036854775807:=by unfold maxLen at hGm;omega
 go_enter Tryz.func44,Tryz.ntmps44
 go_wp2_with (first
  |(at_builtin;refine Lib.wpList_append_run _ rfl _ _ _ _ rfl _ _ rfl rfl _ _ (hrz _) ?_)
  |(at_builtin;refine wpList_copy_runI _ rfl _ _ 34 34 rfl _ _ rfl rfl (hcp1 _ (λ_=>rfl) _ _ _ J0) ?_))
 go_region_law_o (refine step_copy_runI rfl _ _ 34 34 rfl (.slice (some ⟨w.heap.size,(i+1),none⟩) (n-i) (G-(i+1))) (.slice (some ⟨g,i,none⟩) (n-i) (n-i)) (by simp[Act.eval,Act.put]) (by simp[Act.eval,Act.put]) (hcp2 (W1.setRow w.heap.size R1).drew (λ_=>rfl) _ _ _ _ _ rfl rfl) ?_)
 go_wp2
 go_ret
 exact⟨R2,G,rfl,HN3.out,hgr,hGn,hGm,hfin.1,hfin.2⟩
theorem ZcU(w:World)(base:Nat)(v0:Value)(n i:Nat)(xs ys:List Value)(vb vc:Nat)(cv:Array Value)(ev:TypeId)(hown:w.ownsRow base 9 1 v0 n xs)(hi:i<=n)(hn:n<=1000000)(hvg:w.heap[vb]? =some (.cells cv ev (0,0)))(hvb:v0.ownBlock≠some vb)(hys:cv.toList.take 1=ys)(hyl:ys.length=1)
  (h1x: ∀u∈xs,u.oneCell'=true) (h1y: ∀u∈ys,u.oneCell'=true) (hbase:base<=w.heap.size):
  Calls Tryz.prog 44 #[v0,.int .i64 i,.slice (some ⟨vb,0,none⟩) 1 vc] w λe w'=> ∃v',e= .returned v'/\w'.ownsRow base 9 1 v' (n+1) (YN xs (i) ys)/\Grow w w' v0 v':=by
 have hxl:=hown.1;rw[QZ]at hxl;by_cases hin:i=n
 .subst hin;have e:YN xs (i) ys=xs++ys:=by unfold YN;rw[Yi J0,ZB2 J0,Ku]
  rw[e];exact ZaQ w base v0 i xs ys vb vc hown hn hyl (λj u hj=>QY hvg (by rw[<-ξL];rw[<-hys,Jw]at hj;split at hj;exact hj;cases hj)) h1y hbase
 .rcases hown.2 with⟨_,rfl⟩|⟨g,cap,cur,rfl,hbg,hgg,hnc,hcm,hcs,htake⟩
  .omega
  rw[QZ]at hcs htake;have hlen:(YN xs (i) ys).length=(n+1):=by unfold YN;simp only[Zf,JA,KD,hxl,hyl];omega
  by_cases hroom:n+1<=cap
  .refine(ZVd w g cap n i cur xs ys vb vc cv ev hgg hcs htake J0 hn hroom (by unfold maxLen at hcm;omega) hvg (λe=>hvb (by rw[e];rfl)) hys hyl h1x h1y).mono ?_;rintro e w' ⟨cur',rfl,rfl,h1,h2⟩;refine⟨_,rfl,⟨by rw[QZ];exact hlen,.inr ⟨g,cap,cur',rfl,hbg,setRow_heap w.drew g cur _ _ _ hgg,hroom,hcm,by rw[QZ];exact h1,by rw[QZ];exact h2⟩⟩,⟨⟨rfl,rfl,rfl,by show w.drew.heap.size<=_;simp,λk _ hk=>setRow_other w.drew g k _ (λq=>hk (by rw[q];rfl))⟩,.inl rfl⟩⟩
  .refine(ZZJ w g cap n i cur xs ys vb vc cv ev hgg hcs htake J0 hn hnc J0 hvg hys hyl h1x h1y).mono ?_;rintro e w' ⟨cur',G,rfl,h0,hg,h1,h2,h3,h4⟩;exact⟨_,rfl,⟨by rw[QZ];exact hlen,.inr ⟨w.heap.size,G,cur',rfl,hbase,h0,h1,h2,by rw[QZ];exact h3,by rw[QZ];exact h4⟩⟩,⟨⟨hg.os,hg.tape,hg.output,hg.size,λk hk _=>hg.block k hk J1⟩,.inr ⟨_,rfl,Zm _⟩⟩⟩
end Go.Proofs.YtiogclkbccdefaaGreatDoor
end
section
namespace Go.Ab
open Go.RowKit Go.Bo
theorem ZbT{sz i:Nat}{rs:J6}{r:J9}{xs ys:List Value}{w:World}{st:Nat->Nat->Prop}(hi:i<=rs.length)(hxl:xs.length=rs.length*sz)(hyl:ys.length=1*sz)(hall: ∀r∈rs,r.length=sz)
  (h1: ∀(i:Nat) (r:J9) (j:Nat) (x:X) (v:Value),rs[i]? =some r->r[j]? =some x->xs[i*sz+j]? =some v->VX w st x v)
  (hr:r.length=sz) (h2: ∀(j:Nat) (x:X) (v:Value),r[j]? =some x->ys[j]? =some v->VX w st x v)
  (k:Nat) (q:J9) (j:Nat) (x:X) (v:Value) (hk:(YN rs i [r])[k]? =some q) (hx:q[j]? =some x) (hj:j<sz) (hv:(YN xs (i*sz) ys)[k*sz+j]? =some v):VX w st x v:=by
 have hil:i*sz<=rs.length*sz:=Kn _ hi;have htl:(xs.take (i*sz)).length=(rs.take i).length*sz:=by rw[JA,JA,ZRH hi,ZRH J0]
 have hA: ∀(a:Nat) (r:J9) (j:Nat) (x:X) (v:Value),(rs.take i)[a]? =some r->r[j]? =some x->(xs.take (i*sz))[a*sz+j]? =some v->VX w st x v:=λa r j x v e1 e2 e3=>by
  rw[Jw]at e1 e3;split at e1
  .split at e3
   .exact h1 a r j x v e1 e2 e3
   .cases e3
  .cases e1
 have hB: ∀(a:Nat) (q:J9) (j:Nat) (x:X),[r][a]? =some q->q[j]? =some x-> ∃u,ys[a*sz+j]? =some u/\VX w st x u:=λa q j x e1 e2=>by
  cases a with
  |succ a=>simp at e1
  |zero=>
   simp at e1;subst e1;have hjl:j<ys.length:=by rw[hyl,ZMu,<-hr];exact(ZV e2).1
   refine⟨ys[j],by rw[ZKU,JW];exact YA hjl,h2 j x _ e2 (YA hjl)⟩
 have hAB: ∀(a:Nat) (q:J9) (j:Nat) (x:X) (v:Value),(rs.take i++ [r])[a]? =some q->q[j]? =some x->(xs.take (i*sz)++ys)[a*sz+j]? =some v->VX w st x v:=λa q j x v e1 e2 e3=>by
  refine ZDN htl hA hB a q j x v e1 e2 ?_ e3;have hq:q.length=sz:=by
   rcases Qc.1 (Yl e1)with h|h
   .exact hall q (ZB8 h)
   .rw[ZBK]at h;rw[h,hr]
  rw[<-hq];exact(ZV e2).1
 have hC: ∀(a:Nat) (q:J9) (j:Nat) (x:X),(rs.drop i)[a]? =some q->q[j]? =some x-> ∃u,(xs.drop (i*sz))[a*sz+j]? =some u/\VX w st x u:=λa q j x e1 e2=>by
  rw[ξY]at e1;have hq:=hall q (Yl e1);have hjl:j<sz:=by rw[<-hq];exact(ZV e2).1
  have hal:i+a<rs.length:=(ZV e1).1;have hm:(i+a+1)*sz<=rs.length*sz:=Kn _ J0;rw[Yt,ZMu]at hm;have hlt:(i+a)*sz+j<xs.length:=by omega
  refine⟨xs[(i+a)*sz+j],?_,h1 (i+a) q j x _ e1 e2 (YA hlt)⟩;rw[ξY,show i*sz+(a*sz+j)=(i+a)*sz+j by rw[Yt];omega];exact YA hlt
 exact ZDN (by simp only[Zf,htl,hyl,ZVn,Yt]) hAB hC k q j x v hk hx hj hv
theorem ZKF{α:Type}(l:List α)(i:Nat)(y:List α)(h:i<=l.length):(YN l i y).length=l.length+y.length:=by
 unfold YN;simp only[Zf,JA,KD];omega
theorem ZN.ins{P:Program}{f:FuncId}{e sz:Nat}(rs:J6)(r:J9)(i:Nat)(hi:i<=rs.length)(hn:rs.length<=1000000)
  (hraw: ∀(w:World) (v0:Value) (n i:Nat) (xs ys:List Value) (vb vc:Nat) (cv:Array Value) (ev:TypeId),w.ownsRow 0 e sz v0 n xs->i<=n->n<=1000000->w.heap[vb]? =some (.cells cv ev (0,0))->v0.ownBlock≠some vb->cv.toList.take sz=ys->ys.length=sz->(∀u∈xs,u.oneCell'=true)->(∀u∈ys,u.oneCell'=true)->
   Calls P f #[v0,.int .i64 i,.slice (some ⟨vb,0,none⟩) 1 vc] w λx w'=> ∃v',x= .returned v'/\w'.ownsRow 0 e sz v' (n+1) (YN xs (i*sz) ys)/\Grow w w' v0 v'):
  ZN P f [.ref 0 rs.length 0 rs.length,.x (.int .i64 i),.ref 1 1 0 1] [.rows false e sz rs,.rows false e sz [r]] (.ref 0 (rs.length+1) 0 (rs.length+1)) [.rows false e sz (YN rs i [r]),.rows false e sz [r]]:=by
 intro c E vs R hvl;obtain⟨hsz,hv⟩:=hvl;obtain⟨v0,v1,v2,rfl⟩: ∃v0 v1 v2,vs= #[v0,v1,v2]:=by
  obtain⟨vl⟩:=vs
  match vl,hsz with
  | [a,b,c],_=>exact⟨a,b,c,rfl⟩
 have h0:=hv 0 _ v0 rfl rfl;have h1:=hv 1 _ v1 rfl rfl;have h2:=hv 2 _ v2 rfl rfl;clear hv hsz;obtain rfl:v1= .int .i64 i:=by cases h1 with|x h=>cases h;rfl
 clear h1;obtain⟨os,hos⟩: ∃os,os= [Ob.rows false e sz rs,Ob.rows false e sz [r]]:=⟨_,rfl⟩;have ho:os[0]? =some (Ob.rows false e sz rs):=by rw[hos];rfl
 have ho2:os[1]? =some (Ob.rows false e sz [r]):=by rw[hos];rfl
 have hset:os.set 0 (.rows false e sz (YN rs i [r]))= [.rows false e sz (YN rs i [r]),.rows false e sz [r]]:=by rw[hos];rfl
 rw[<-hset];rw[<-hos]at R h0 h2;obtain⟨p,hp,hok⟩:=R.at ho;obtain⟨q,hq,hok2⟩:=R.at ho2;have hlt:0<os.length:=by rw[hos];simp
 have hat: ∀ {id:Nat} {rs:J6} {v:Value} {p:Nat×Value},V E os (.ref id rs.length 0 rs.length) v->os[id]? =some (.rows false e sz rs)->E.ob[id]? =some p->v=p.2:=λhx ho hp=>by
  obtain⟨h1,h2⟩:=hx.ref_inv.at ho rfl;obtain⟨h3,b,a0,cap,a',cap',h4,h5,h6,h7,h8,h9⟩:=h2 rfl;rw[hp]at h4;obtain⟨h10,h11⟩:=h8 rfl;rw[h10,h11]at h5;rw[h5,ZB9 h4]
 obtain rfl:=hat h0 ho hp;obtain rfl:=hat (rs:= [r]) h2 ho2 hq;obtain⟨xs,k1,k2,k3⟩:=hok;obtain⟨ys,l1,l2,l3⟩:=hok2;have hown:=k1.owns;have hrl:r.length=sz:=l2 r J1;rcases l1.owns.2 with⟨_,h⟩|⟨vb,vcap,cv,hq2,_,hvg,hvn,hvm,hvs,hvt⟩
 .simp at h
 have hyl:ys.length=1*sz:=l1.1;have hx1: ∀u∈xs,u.oneCell'=true:=λu hu=>by
  obtain⟨m,hm⟩:=ZEi.1 hu;have hml:=(ZV hm).1;rw[k1.1]at hml;have hsz0:0<sz:=by
   rcases ZO7 sz with h|h
   .subst h;simp at hml
   .exact h
  have hmd:m/sz<rs.length:=(ZaA hsz0).2 hml;have hrr:=YA hmd;have hrl2:=k2 _ (YZ hmd);have hmm:m % sz<(rs[m/sz]).length:=by rw[hrl2];exact Nat.mod_lt _ hsz0
  exact(k3 (m/sz) _ (m % sz) _ u hrr (YA hmm) (by rw[ZJh,ZWP];exact hm)).one
 have hy1: ∀u∈ys,u.oneCell'=true:=λu hu=>by
  obtain⟨m,hm⟩:=ZEi.1 hu;have hml:=(ZV hm).1;have hmm:m<r.length:=by rw[hrl];omega
  exact(l3 0 r m _ u J1 (YA hmm) (by rw[ZKU,JW];exact hm)).one
 have hdis:p.2.ownBlock≠some vb:=λh=>by
  have:=R.dis 0 1 _ _ p q vb ho hp ho2 hq h (by show q.2.ownBlock=some vb;rw[hq2];rfl);omega
 have hraw2:=hraw E.w p.2 rs.length i xs ys vb vcap cv e hown hi hn hvg hdis (by rw[<-hvt];simp) J0 hx1 hy1;rw[hq2];refine hraw2.mono ?_;rintro x w' ⟨v',rfl,ho',hG⟩;have hil:=ZKF rs i [r] hi;have hall: ∀q∈YN rs i [r],q.length=sz:=λq hq=>by
  unfold YN at hq;rcases Qc.1 hq with h|h
  .rcases Qc.1 h with h|h
   .exact k2 q (ZB8 h)
   .rw[ZBK]at h;rw[h,hrl]
  .exact k2 q (ZB1 h)
 have hrow:Ko w' false e sz (YN rs i [r]).length v' (YN xs (i*sz) ys):=by rw[hil];exact Ko.of_owns ho' false
 obtain⟨R',ev⟩:=R.set ho hp w' (.rows false e sz (YN rs i [r])) (p.1,v') (Kept.of_grown hG.grown) (λb hb=>by
  have hb':v'.ownBlock=some b:=hb;rcases hG.own with h|⟨g,h,h2⟩
  .left;show p.2.ownBlock=some b;rw[<-h];exact hb'
  .right;rw[h]at hb';cases hb';exact .inl h2) (λsz1 n1 h=>by
   simp[Ob.sl?]at h;obtain⟨rfl,rfl⟩:=h;exact⟨(YN rs i [r]).length,rfl,.inr (by rw[hil];simp)⟩) (λds h=>by cases h) (λev=>by
   refine⟨YN xs (i*sz) ys,hrow,hall,λk q j x v e1 e2 e3=> ?_⟩;refine VX.mono (w:=E.w) (st:=E.st) (λb o hb=>ev.st b o hb) ?_;exact ZbT hi k1.1 hyl k2 k3 hrl (λj x v e1 e2=>l3 0 r j x v J1 e1 (by rw[ZKU,JW];exact e2)) k q j x v e1 e2 (by rw[<-hall q (Yl e1)];exact(ZV e2).1) e3)
 refine⟨v',_,rfl,rfl,R',by rw[<-hos];exact ev,?_⟩;have hob':(E.ob.set 0 (p.1,v'))[0]? =some (p.1,v'):=by simp[R.len,hlt]
 rw[show rs.length+1=(YN rs i [r]).length by rw[hil];rfl];refine .ref ⟨.rows false e sz (YN rs i [r]),sz,(YN rs i [r]).length,by rw[ZHt hlt],rfl,?_⟩ ?_
 .refine⟨Zm _,λ_=>⟨J0,p.1,?_⟩⟩;rcases hrow.2 with⟨h3,h4⟩|⟨g,cap,cells,fr,h3,h4,h5,h6,h7⟩
  .rw[hil]at h4;simp at h4
  .subst h3;exact⟨_,cap,_,cap,hob',rfl,h5,h6,λ_=>⟨rfl,rfl⟩,λ_ ad h=>(by cases h;simp),λh=>(by cases h),λad h=>(by cases h;rfl)⟩
 .rcases hrow.2 with⟨h3,h4⟩|⟨g,cap,cells,fr,h3,h4,h5,h6,h7⟩<;>subst h3<;>rfl
end Go.Ab
namespace Go.Proofs.YtiogclkbccdefaaGreatDoor
open Go.RowKit Go.Bo Go.Ab
theorem ZgI(rs:J6)(r:J9)(i:Nat)(hi:i<=rs.length)(hn:rs.length<=1000000):ZN Tryz.prog 126 [.ref 0 rs.length 0 rs.length,.x (.int .i64 i),.ref 1 1 0 1] [.rows false 94 2 rs,.rows false 94 2 [r]] (.ref 0 (rs.length+1) 0 (rs.length+1)) [.rows false 94 2 (YN rs i [r]),.rows false 94 2 [r]]:=
 ZN.ins rs r i hi hn λw v0 n i xs ys vb vc cv ev h1 h2 h3 h4 h5 h6 h7 h8 h9=>Zay w 0 v0 n i xs ys vb vc cv ev h1 h2 h3 h4 h5 h6 h7 h8 h9 (Jy _)
def Ql(c:UInt8):UInt8:=if 65<=c.toNat/\c.toNat<=90 then UInt8.ofNat (c.toNat+32)else c
theorem ZL2{c:UInt8}(h:65<=c.toNat/\c.toNat<=90):((Ql c).toNat:Int)=(c.toNat:Int)-65+97:=by
 unfold Ql;rw[if_pos h];simp;omega
def ZJ(s:List UInt8):List UInt8:=s.map Ql
def ZBB(s:List UInt8)(i:Nat):List UInt8:=(s.take i).map Ql++s.drop i
theorem ZJX(s:List UInt8)(i:Nat):(ZBB s i).length=s.length:=by simp[ZBB];omega
theorem ZYp(s:List UInt8):ZBB s 0=s:=by simp[ZBB]
theorem ZaH(s:List UInt8)(i:Nat)(h:s.length<=i):ZBB s i=ZJ s:=by simp[ZBB,ZJ,Yi h,ZB2 h]
theorem ZZ9(s:List UInt8)(i:Nat)(h:i<s.length):(ZBB s i)[i]'(by rw[ZJX];exact h)=s[i]:=by
 simp[ZBB,List.getElem_append,ZRH (Nat.le_of_lt h)]
theorem Zb8(s:List UInt8)(i:Nat)(h:i<s.length)(c:UInt8)(hc:c=Ql s[i]):(ZBB s i).set i c=ZBB s (i+1):=by
 subst hc;unfold ZBB;rw[Jk h,ZFj h,ZEH _ _ (by simp;omega)];have hm:i-((s.take i).map Ql).length=0:=by simp;omega
 rw[hm,ZDC,Jt,Yh];rfl
theorem Za5(s:List UInt8)(i:Nat)(h:i<s.length):((ZBB s i).map Zk)[i]? =some [X.int .u8 s[i].toNat]:=by
 have h2:i<(ZBB s i).length:=by rw[ZJX];exact h
 rw[YG,YA h2,ZZ9 s i h];rfl
theorem ZZl(s:List UInt8)(i:Nat)(h:i<s.length)(hc:65<=s[i].toNat/\s[i].toNat<=90):((ZBB s i).map Zk).set i [X.int .u8 (IntKind.u8.wrap (IntKind.u8.wrap ((s[i].toNat:Int)-65)+97))]=(ZBB s (i+1)).map Zk:=by
 have e1:IntKind.u8.wrap ((s[i].toNat:Int)-65)=(s[i].toNat:Int)-65:=IntWalk.u8_in _ J0;have e2:IntKind.u8.wrap ((s[i].toNat:Int)-65+97)=((Ql s[i]).toNat:Int):=by rw[IntWalk.u8_in _ J0,ZL2 hc]
 rw[e1,e2,<-Zb8 s i h _ rfl,ZMz];rfl
theorem ZZP(s:List UInt8)(i:Nat)(h:i<s.length)(hc:Ql s[i]=s[i]):ZBB s i=ZBB s (i+1):=by
 unfold ZBB;rw[Jk h,Jt,Yh,ZFj h];simp[hc]
theorem ZL0{c:UInt8}(h: ¬(65<=c.toNat/\c.toNat<=90)):Ql c=c:=if_neg h
theorem ZO3(s:List UInt8)(hl:s.length<=140737488355328):ZC Tryz.prog 63 [.x (.str s)] (.x (.str (ZJ s))):=by
 refine ZI.pure (fC 63 true ?_) rfl;intro C0 E0;have uu:=JX @ZJX @Yv @Kt;have tT:=(ZF:SsOk Tryz.prog ZO);refine nz ?_;refine rg tT [0] ?_;refine rg tT [3] ?_;refine rg tT [3,8,9,10] ?_;refine WI.loop (λφ os=> ∃(i:Nat),φ= [(3,.ref 0 s.length 0 s.length),(8,.ref 0 s.length 0 s.length),(9,.x (.int .i64 s.length)),(10,.x (.int .i64 i))]/\os= [.rows true 5 1 ((ZBB s i).map Zk)]/\i<=s.length) (ZK s.length 10) ?_ (λφ os hI=> ?_)
 .exact⟨0,rfl,by rw[ZYp],J0⟩
 .obtain⟨i,rfl,rfl,hi⟩:=hI;refine nz ?_;refine rg tT [3,8,9,10,11] ?_;refine cd (λh0=> ?_) (λh0=> ?_)
  .have hi4:i<s.length:=by omega
   have uu:=Ya uu (Za5 s i hi4);have hb8:s[i].toNat<256:=ZDm _;refine rg tT [3,4,5,8,9,10] ?_;refine rg tT [3,4,5,8,9,10,20] ?_;refine cd (λh1=> ?_) (λh1=> ?_)
   .have hcs:65<=s[i].toNat/\s[i].toNat<=90:=by omega
    have uu:=Ya uu (ZZl s i hi4 hcs);refine rg tT [3,8,9,10] ?_;refine rg tT [3,8,9,10] ?_;exact⟨⟨i+1,by first|rfl|simp,by first|rfl|rw[<-hset],J0⟩,by simp[ZK,Ab.get,D.val,ZD];omega⟩
   .have hcs: ¬(65<=s[i].toNat/\s[i].toNat<=90):=by omega
    have hset:=ZZP s i hi4 (ZL0 hcs);refine rg tT [3,8,9,10] ?_;exact⟨⟨i+1,by first|rfl|simp,by first|rfl|rw[<-hset],J0⟩,by simp[ZK,Ab.get,D.val,ZD];omega⟩
  .have e8:((ZBB s i).map Zk).take s.length=(ZJ s).map Zk:=by rw[Yi (by simp[ZJX]),ZaH s i J0]
   have uu:=Ya uu e8;refine rg tT [2] ?_;refine lf ?_
   first|rfl|exact⟨rfl,rfl⟩|trivial
def ZBm:J8->J5
 | [.x (.str s)]=>some (decide (s.length<=1000000),.x (.str (ZJ s)))
 |_=>none
theorem ZPe: ∀args r,ZBm args=some (true,r)->ZC Tryz.prog 63 args r:=by
 intro args r h;unfold ZBm at h;split at h
 .rename_i s;simp only[Ze,ZZ,ZS,Zd,true_and]at h;obtain⟨h1,rfl⟩:=h;exact(ZO3 s J0)
 .cases h
theorem ZEv(s:List UInt8):(ZJ s).length=s.length:=by simp[ZJ]
theorem ZYD(s:List UInt8)(i:Nat)(h:i<s.length):ZJ (s.take (i+1))=ZJ (s.take i)++ [Ql (s.getD i 0)]:=by
 rw[show s.getD i 0=s[i] by simp[h]];unfold ZJ;rw[Jk h,Jt];rfl
theorem YM(l:List UInt8)(c:UInt8):(l++ [c]).map Zk=l.map Zk++ [[X.int .u8 c.toNat]]:=by rw[Jt];rfl
theorem ZWk{c:UInt8}(h:65<=c.toNat/\c.toNat<=90):IntKind.u8.wrap ((c.toNat:Int)+32)=((Ql c).toNat:Int):=by
 have:=ZDm c;rw[IntWalk.u8_in _ J0,ZL2 h];omega
theorem ZSx(s:List UInt8)(hl:s.length<=140737488355328):ZC Tryz.prog 97 [.x (.str s)] (.x (.str (ZJ s))):=by
 refine ZI.pure (fC 97 true ?_) rfl;intro C0 E0;have uu:=Ya @Yv @Kt;have tT:=(ZF:SsOk Tryz.prog ZO);refine nz ?_;refine WI.regB tT [0] ?_;refine oS ?_;refine oN ?_;refine nz ?_;refine WI.regB tT [0,3] ?_;refine oS ?_;refine oN ?_;refine nz ?_;refine WI.regB tT [0,3,4] ?_;refine oS ?_;refine oN ?_;refine nz ?_;refine WI.ownA 3 5 1 ?_;refine WI.loop (λφ os=> ∃(i:Nat),φ= [(0,.x (.str s)),(3,.ref 0 (ZJ (s.take i)).length 0 (ZJ (s.take i)).length),(4,.x (.int .i64 i))]/\os= [.rows false 5 1 ((ZJ (s.take i)).map Zk)]/\i<=s.length) (ZK s.length 4) ?_ (λφ os hI=> ?_)
 .exact⟨0,rfl,rfl,J0⟩
 .obtain⟨i,rfl,rfl,hi⟩:=hI;refine nz ?_;refine WI.regB tT [0,3,4,9] ?_
  iterate 2 refine oS ?_
  iterate 2 refine oG (hok:=by first|exact se|(exact ZL J0)|(rw[Yi J1];exact Yv _)|exact sd) ?_
  refine oN ?_;refine nz ?_;refine cd (λh0=> ?_) (λh0=> ?_)
  .have hi4:i<s.length:=by omega
   have hlt:(ZJ (s.take i)).length+1<=140737488355328:=by rw[ZEv,JA];omega
   have hst:=ZYD s i hi4;have hb8:(s.getD i 0).toNat<256:=ZDm _;refine WI.regB tT [0,3,4,5] ?_
   iterate 2 refine oS ?_
   refine oG (hok:=by first|exact se|(exact ZL J0)|(rw[Yi J1];exact Yv _)|exact sd) ?_;refine oS ?_;refine oN ?_;refine nz ?_;refine WI.regB tT [0,3,4,5,20] ?_;refine oS ?_;refine oG (hok:=by first|exact se|(exact ZL J0)|(rw[Yi J1];exact Yv _)|exact sd) ?_;refine oS ?_
   iterate 3 refine oG (hok:=by first|exact se|(exact ZL J0)|(rw[Yi J1];exact Yv _)|exact sd) ?_
   refine oN ?_;refine nz ?_;refine cd (λh1=> ?_) (λh1=> ?_)
   .have hcs:65<=(s.getD i 0).toNat/\(s.getD i 0).toNat<=90:=by omega
    refine WI.regB tT [0,3,4,5] ?_;refine oS ?_;refine oG (hok:=by first|exact se|(exact ZL J0)|(rw[Yi J1];exact Yv _)|exact sd) ?_;refine oS ?_;refine oN ?_;refine nz ?_;refine WI.regB tT [0,3,4] ?_
    iterate 2 refine oS ?_
    iterate 2 refine oG (hok:=by first|exact se|(exact ZL J0)|(rw[Yi J1];exact Yv _)|exact sd) ?_
    refine oS ?_;refine oN ?_;refine nz ?_;refine WI.post ?_;refine WI.regB tT [0,3,4] ?_;refine oS ?_;refine oG (hok:=by first|exact se|(exact ZL J0)|(rw[Yi J1];exact Yv _)|exact sd) ?_;refine oS ?_;refine oP ?_;refine Jf [0] ?_;refine KR ?_;refine nz ?_;exact⟨⟨i+1,by rw[hst,Zf];rfl,by rw[hst,YM];first|rfl|rw[ZL0 hcs]|rw[ZWk hcs],J0⟩,by simp[ZK,Ab.get,D.val,ZD];omega⟩
   .have hcs: ¬(65<=(s.getD i 0).toNat/\(s.getD i 0).toNat<=90):=by omega
    refine WI.regB tT [0,3,4] ?_
    iterate 2 refine oS ?_
    iterate 2 refine oG (hok:=by first|exact se|(exact ZL J0)|(rw[Yi J1];exact Yv _)|exact sd) ?_
    refine oS ?_;refine oN ?_;refine nz ?_;refine WI.post ?_;refine WI.regB tT [0,3,4] ?_;refine oS ?_;refine oG (hok:=by first|exact se|(exact ZL J0)|(rw[Yi J1];exact Yv _)|exact sd) ?_;refine oS ?_;refine oP ?_;refine Jf [0] ?_;refine KR ?_;refine nz ?_;exact⟨⟨i+1,by rw[hst,Zf];rfl,by rw[hst,YM];first|rfl|rw[ZL0 hcs]|rw[ZWk hcs],J0⟩,by simp[ZK,Ab.get,D.val,ZD];omega⟩
  .have e8:((ZJ (s.take i)).map Zk).take (ZJ (s.take i)).length=(ZJ s).map Zk:=by rw[Yi J1,Yi J0]
   have uu:=Ya uu e8;refine WI.regB tT [2] ?_;refine oS ?_;refine oG (hok:=by first|exact se|(exact ZL J0)|(rw[Yi J1];exact Yv _)|exact sd) ?_;refine oS ?_;refine oN ?_;refine nz ?_;refine lf ?_
   first|rfl|exact⟨rfl,rfl⟩|trivial
abbrev Tx:=List UInt8
end Go.Proofs.YtiogclkbccdefaaGreatDoor
end
section
namespace Go.Proofs
open Go.Shelf Go.RowKit Go.Lib
set_option maxHeartbeats 1000000 in
theorem Any1.strings_Split_one{P:Program}{ρ:Ren}(L:Lays.n146 P ρ)(hi9:(P.info? (ρ.t 9)).map (λi=>(i.zero,i.size,i.bytes))=some (some (.string ByteArray.empty),1,16))(s:ByteArray)(b:UInt8)(w:World)(hs:s.size<4294967281):
  Calls P (ρ.f 146) #[.string s,.string ⟨#[b]⟩] w λe w'=>
   e= .returned (.slice (some ⟨w.heap.size,0,none⟩) (Lib.countB s ⟨#[b]⟩+1) (Lib.countB s ⟨#[b]⟩+1))/\w'=w.alloc (.cells ((Lib.splitB ⟨#[b]⟩ 0 (Lib.countB s ⟨#[b]⟩) s).map Value.string).toArray (ρ.t 9)):=by
 have h1:1<=(⟨#[b]⟩:ByteArray).size:=Zm _;have hle:=Lib.countB_le ⟨#[b]⟩ h1 s.size s (Zm _);have hlen:=Lib.splitB_all ⟨#[b]⟩ h1 0 _ s rfl;have hI: ∀(x:ByteArray) (c:Array Value),x.size<=s.size->Calls P (ρ.f 143) #[.string x,.string ⟨#[b]⟩] (w.alloc (.cells c (ρ.t 9))) λe w'=>e= .returned (.int .i64 (Lib.indexB x ⟨#[b]⟩))/\w'=w.alloc (.cells c (ρ.t 9)):=λx c hx=>by
  refine(Any.strings_Index_one {L with} x b _).mono λe w' ⟨he,hw⟩=>⟨?_,hw⟩
  rw[he,Lib.indexB,Lib.index_one]
 have hC:Calls P (ρ.f 138) #[.string s,.string ⟨#[b]⟩] w λe w'=>e= .returned (.int .i64 (Lib.countB s ⟨#[b]⟩))/\w'=w:=by
  refine(Any.strings_Count_one {L with} s b w).mono λe w' ⟨he,hw⟩=>⟨?_,hw⟩
  rw[he];show _=Ending.returned (Value.int .i64 ((Lib.count s.data.toList [b]:Nat):Int));rw[Lib.count_one];rfl
 have c:=Any.strings_genSplit_core {L with} hi9 s ⟨#[b]⟩ 0 (-1) (Lib.countB s ⟨#[b]⟩+1) w hs h1 (Jy _) hI hC (by decide) (by decide) (by rw[if_pos (by decide)];omega);rw[Nat.add_sub_cancel,hlen]at c;have e2:Lib.cellsOf (Lib.splitB ⟨#[b]⟩ 0 (Lib.countB s ⟨#[b]⟩) s) (Lib.countB s ⟨#[b]⟩+1)=((Lib.splitB ⟨#[b]⟩ 0 (Lib.countB s ⟨#[b]⟩) s).map Value.string).toArray:=by rw[<-hlen];exact Lib.cellsOf_full _
 rw[e2]at c;have t3:=L.t3;have t9:=L.t9;have t31:=L.t31;have a3:=L.a3;have a9:=L.a9;have a31:=L.a31;have z3:=L.z3;have v3:=L.v3;have z9:=L.z9;have v9:=L.v9;have z31:=L.z31;have v31:=L.v31;have e221: ∀args w,(callFunc (ρ.f 221) args).run P w= .ok (.enter (ρ.f 221) args) w:=enters_of L.f221 J3 rfl
 go_enter L.f146,Body.n146_ntmps ρ
 go_wp2_with (go_at_fn (ρ.f 221);refine c.mono ?_;rintro e w' ⟨rfl,hw⟩;rw[hw])
 go_ret
 exact⟨rfl,rfl⟩
end Go.Proofs
namespace Go.Proofs.YtiogclkbccdefaaGreatDoor
open Go.RowKit Go.Bo Go.Ab
def Kh(c:UInt8):List UInt8->List (List UInt8)
 | []=> [[]]
 |b::l=>if b=c then []::Kh c l else match Kh c l with
  |x::r=>(b::x)::r
  | []=> [[b]]
theorem Zfs(c:UInt8): ∀s,Kh c s≠ []
 | []=>by simp[Kh]
 |b::l=>by unfold Kh;split;simp;split<;>simp
theorem Zec(c b:UInt8)(l:List UInt8)(h:b≠c): ∀k,Lib.splitK [c] 0 k (b::l)=match Lib.splitK [c] 0 k l with
  |x::r=>(b::x)::r
  | []=> [[b]]
 |0=>rfl
 |k+1=>by
  have hp: [c].isPrefixOf (b::l)=false:=by simp[List.isPrefixOf];exactλe=>h e.symm
  simp only[Lib.splitK,Lib.index,hp,JM,if_false];by_cases hi:(Lib.index l [c]== -1)=true
  .simp[hi]
  .have hn:=Lib.index_ge l [c];simp only[hi,JM,if_false];simp at hi;have h1:(Lib.index l [c]+1== -1)=false:=by simp;omega
   obtain⟨n,hn⟩: ∃n:Nat,Lib.index l [c]=n:=⟨(Lib.index l [c]).toNat,J0⟩;simp[hn,h1];intro h;omega
theorem ZYq(c:UInt8): ∀s,Lib.splitK [c] 0 (Lib.count s [c]) s=Kh c s
 | []=>by
  have:Lib.count [] [c]=0:=by rw[Lib.count_one];rfl
  rw[this];rfl
 |b::l=>by
  have ih:=ZYq c l;by_cases h:b=c
  .subst h;rw[Lib.count_cons_eq,ZO0];have hp: [b].isPrefixOf (b::l)=true:=by simp[List.isPrefixOf]
   simp only[Lib.splitK,Lib.index,hp,if_true,Kh];simp[ih]
  .rw[Lib.count_cons_ne _ _ _ h,Zec _ _ _ h,ih,Kh,if_neg h]
theorem Zde(s:List UInt8)(c:UInt8)(h:s.length<=1000000):ZC Tryz.prog 189 [.x (.str s),.x (.str [c])] (.x (.sl (rows ZB (Kh c s)))):=by
 intro w st vs hst hvl;obtain⟨hsz,hv⟩:=hvl;obtain⟨v0,v1,rfl⟩: ∃v0 v1,vs= #[v0,v1]:=by
  obtain⟨vl⟩:=vs
  match vl,hsz with
  | [a,b],_=>exact⟨a,b,rfl⟩
 have h0:=hv 0 _ v0 rfl rfl;have h1:=hv 1 _ v1 rfl rfl;clear hv hsz;cases h0 with
 |x h0=>
 cases h1 with
 |x h1=>
 cases h1 with
 |str _=>
 cases h0 with
 |str _=>
 have hlen:=Lib.splitB_all ⟨#[c]⟩ (Zm _) 0 _ (ZR s) rfl;have hD:(Lib.splitB ⟨#[c]⟩ 0 (Lib.countB (ZR s) ⟨#[c]⟩) (ZR s)).map (·.data.toList)=Kh c s:=by
  rw[Lib.splitB_data];have e:(ZR s).data.toList=s:=by simp[ZR]
  show Lib.splitK [c] 0 (Lib.count (ZR s).data.toList [c]) (ZR s).data.toList=_;rw[e];exact ZYq c s
 have hle:=Lib.countB_le ⟨#[c]⟩ (Zm _) (ZR s).size (ZR s) (Zm _);have hbs:(ZR s).size=s.length:=by simp[ZR,ByteArray.size]
 refine(Any1.strings_Split_one Tryz.lays146 J3 (ZR s) c w J0).mono ?_;generalize Lib.splitB ⟨#[c]⟩ 0 (Lib.countB (ZR s) ⟨#[c]⟩) (ZR s)=ps at hlen hD|-;generalize Lib.countB (ZR s) ⟨#[c]⟩=k at hlen hle|-;rintro e w' ⟨rfl,rfl⟩;refine⟨_,λb o=>st b o\/(b=w.heap.size/\o<k+1),rfl,?_,λ_ _ h=> .inl h,?_,?_⟩
 .exact KP w _
 .rintro b o (h|⟨rfl,h⟩)
  .exact .inl h
  .exact .inr ⟨Zm _,J1⟩
 .rw[<-hD];refine .x (.sl _ _ _ _ 1 (λi _=> .string (ps[i]?.getD default)) ?_ (Zm _) ?_ ?_ ?_ (λh=>by cases h) (λ_ ad h=>by cases h;rfl) ?_)
  .rw[Zh,YX];exact hlen
  .show k+1<=maxLen;simp only[maxLen];omega
  .intro r hr;simp only[rows,YO]at hr;obtain⟨x,_,rfl⟩:=hr;rfl
  .intro i j hi hj;have hj0:j=0:=by omega
   subst hj0;refine⟨_,_,rfl,.inr ⟨rfl,J0⟩,?_⟩;have hip:i<ps.length:=by omega
   rw[show 0+i*1+0=i by omega,World.cell?_alloc_at _ _ _ _ rfl];simp only[List.getElem?_toArray,YG,YA hip,Yf,ξX]
  .intro i j r x hr hx;simp only[rows,YG,Option.map_map,ξm]at hr;obtain⟨y,hy,rfl⟩:=hr;simp only[Function.comp,ZB,RC.enc]at hx;rcases j with _|j
   .simp at hx;subst hx;simp only[hy,ξX];have:y=ZR y.data.toList:=by simp[ZR]
    conv=>rhs;rw[this]
    exact .str _
   .simp at hx
theorem ZRO:Go.Ab.Enters Tryz.prog 189:=Go.Proofs.enters_of Tryz.lays146.f146 J3 rfl
theorem ZTE(l:List (List UInt8)):(l.map ZR).map (·.data.toList)=l:=by
 rw[Js]
 conv=>rhs;rw[<-ZO1 l]
 exact ZBe λx _=>by simp[ZR]
theorem Zgl(l:List (List UInt8))(sep:List UInt8)(h:(Lib.join l sep).length<=140737488355328)(hl:l.length<=140737488355328):ZC Tryz.prog 77 [.x (.sl (rows ZB l)),.x (.str sep)] (.x (.str (Lib.join l sep))):=by
 intro w st vs hst hvl;obtain⟨hsz,hv⟩:=hvl;obtain⟨v0,v1,rfl⟩: ∃v0 v1,vs= #[v0,v1]:=by
  obtain⟨vl⟩:=vs
  match vl,hsz with
  | [a,b],_=>exact⟨a,b,rfl⟩
 have h0:=hv 0 _ v0 rfl rfl;have h1:=hv 1 _ v1 rfl rfl;clear hv hsz;cases h0 with
 |x h0=>
 cases h1 with
 |x h1=>
 cases h1 with
 |str _=>
 cases h0 with
 |sl _ a n c sz val hn hc hm hsz hcell hnil hsp hval=>
  rw[Zh]at hn;subst hn
  match l,h,hl,hc,hsz,hcell,hval with
  | [],_,_,_,_,_,_=>
   refine(Tryz.strings_Join_none a c (ZR sep) w).mono ?_;rintro e w' ⟨rfl,rfl⟩;exact⟨_,st,rfl,Kept.refl _ _,λ_ _ h=>h,λ_ _ h=> .inl h,.x (.str [])⟩
  |x::r,h,hl,hc,hsz,hcell,hval=>
   obtain rfl:1=sz:=hsz [.str x] (by simp[rows,ZB]);obtain⟨b,off,rfl,hs0,_⟩:=hcell 0 0 J1 J0;have hcells: ∀(j:Nat) y,((x::r).map ZR)[j]? =some y->w.cell? ⟨b,off+j,none⟩=some (.string y):=by
    intro j y hy;rw[YG]at hy;obtain⟨z,hz,rfl⟩:=Zc hy;have hj:j<(x::r).length:=(ZV hz).1;obtain⟨b',off',e,_,hw⟩:=hcell j 0 hj J0;simp only[Ze,Addr.mk.injEq]at e;obtain⟨rfl,rfl,_⟩:=e;have hx:=hval j 0 [.str z] (.str z) (by simp only[rows,YG,hz];rfl) rfl;rw[show off+j=off+j*1+0 by omega,hw];generalize val j 0=u at hx;cases hx with
    |str _=>rfl
   have hlen:(Lib.join (((x::r).map ZR).map (·.data.toList)) (ZR sep).data.toList).length<=140737488355328:=by
    rw[ZTE];simpa[ZR]using h
   have hc':((x::r).map ZR).length<=c:=by rw[YX];exact hc
   have:=Tryz.strings_Join b off c ((x::r).map ZR) (ZR sep) w hcells (hst _ _ hs0) (by rw[YX];exact hl) hc' hlen;rw[YX,ZTE]at this;refine this.mono ?_;rintro e w' ⟨rfl,hb⟩;refine⟨_,st,rfl,Kept.of_none (Qd.grown hb none),λ_ _ h=>h,λ_ _ h=> .inl h,?_⟩;have:(ZR sep).data.toList=sep:=by simp[ZR]
   rw[this];exact .x (.str _)
theorem ZE6:Go.Ab.Enters Tryz.prog 77:=Go.Proofs.enters_of Tryz.lays156.f156 J3 rfl
theorem ZRU(s:List UInt8)(i:Nat)(h:i<s.length):(ZR s).get! i=s[i]:=by
 show(ZR s).data[i]! =_;simp[ZR,h]
theorem ZOW{s:List UInt8}{i:Nat}(h:i<s.length)(hb:s[i].toNat<128):QG s i=(s[i].toNat,1):=by
 unfold QG;rw[Lib.decode_at,ZRU s i h];unfold Lib.decodeN;rw[if_pos hb]
theorem ZTb{s:List UInt8}{i:Nat}(h:i<s.length)(hb: ¬s[i].toNat<128):128<=(QG s i).1/\1<=(QG s i).2:=by
 unfold QG;rw[Lib.decode_at,ZRU s i h];rcases Lib.decodeN_shape ((ZR s).size-i) s[i].toNat ((ZR s).get! (i+1)).toNat ((ZR s).get! (i+2)).toNat ((ZR s).get! (i+3)).toNat with⟨h1,_⟩|⟨_,_,_,h1,h2⟩|⟨_,_,_,_,h1,_,h2⟩|⟨_,_,_,_,_,h1,_,h2⟩|h2
 .omega
 all_goals(rw[h2];simp only;omega)
theorem ZhA(s p:List UInt8):ZC Tryz.prog 201 [.x (.str s),.x (.str p)] (.tup [.x (.str (Lib.trimPrefix s p)),.x (.bool (Lib.hasPrefix s p))]):=by
 intro w st vs hst hvl;obtain⟨hsz,hv⟩:=hvl;obtain⟨v0,v1,rfl⟩: ∃v0 v1,vs= #[v0,v1]:=by
  obtain⟨vl⟩:=vs
  match vl,hsz with
  | [a,b],_=>exact⟨a,b,rfl⟩
 have h0:=hv 0 _ v0 rfl rfl;have h1:=hv 1 _ v1 rfl rfl;cases h0 with
 |x h0=>
 cases h1 with
 |x h1=>
 cases h1 with
 |str _=>
 cases h0 with
 |str _=>
 refine(Tryz.strings_CutPrefix (ZR s) (ZR p) w).mono ?_;rintro e w' ⟨rfl,rfl⟩;refine⟨_,st,rfl,Kept.refl _ _,λ_ _ h=>h,λ_ _ h=> .inl h,?_⟩;have e1:(ZR s).data.toList=s:=by simp[ZR]
 have e2:(ZR p).data.toList=p:=by simp[ZR]
 rw[e1,e2];exact V.tup2 (V.mkstr _ _ _) _
theorem ZHs:Go.Ab.Enters Tryz.prog 201:=Go.Proofs.enters_of Tryz.lays103.f103 J3 rfl
def ZA8:J8->J5
 | [.x (.str s),.x (.str p)]=>some (true,.tup [.x (.str (Lib.trimPrefix s p)),.x (.bool (Lib.hasPrefix s p))])
 |_=>none
theorem ZM5: ∀args r,ZA8 args=some (true,r)->ZC Tryz.prog 201 args r:=by
 intro args r h;unfold ZA8 at h;split at h
 .rename_i s p;simp only[Ze,ZZ,ZS,Zd,true_and]at h;obtain rfl:=h;exact(ZhA s p)
 .cases h
def ZAU:J8->J5
 | [.x (.sl R),.x (.str sep)]=>(Zb ZB R).bind λl=>some (decide ((Lib.join l sep).length<=140737488355328/\l.length<=140737488355328),.x (.str (Lib.join l sep)))
 |_=>none
theorem ZGc: ∀args r,ZAU args=some (true,r)->ZC Tryz.prog 77 args r:=by
 intro args r h;unfold ZAU at h;split at h
 .rename_i R sep;obtain⟨l,hr0,h⟩:=Zv h;simp only[Ze,ZZ,ZS,Zd,true_and]at h;obtain⟨h1,rfl⟩:=h;rw[<-Za ZP hr0];exact(Zgl l sep h1.1 h1.2)
 .cases h
def ZIt:J8->J5
 | [.x (.str s),.x (.str [c])]=>some (decide (s.length<=1000000),.x (.sl (rows ZB (Kh c s))))
 |_=>none
theorem ZZQ: ∀args r,ZIt args=some (true,r)->ZC Tryz.prog 189 args r:=by
 intro args r h;unfold ZIt at h;split at h
 .rename_i s c;simp only[Ze,ZZ,ZS,Zd,true_and]at h;obtain⟨h1,rfl⟩:=h;exact(Zde s c h1)
 .cases h
def ZEG(s:List UInt8):List (List UInt8):=(Kh 32 s).filter λx=>decide (x≠ [])
def jn:List (List UInt8)->List UInt8
 | []=> []
 | [x]=>x
 |x::y::r=>x++32::jn (y::r)
theorem ZOY: ∀l,Lib.join l [32]=jn l
 | []=>rfl
 | [x]=>by rw[Lib.join_one];rfl
 |x::y::r=>by
  have:=ZOY (y::r);simp only[Lib.join,List.intercalate,List.intersperse_cons_cons,ZRk,jn]at this|-;rw[this];rfl
theorem Zdu{x:List UInt8}{l:List (List UInt8)}(h:l≠ []):jn (x::l)=x++32::jn l:=by
 cases l with
 |nil=>exact absurd rfl h
 |cons y r=>rfl
def wt(l:List (List UInt8)):Nat:=(l.map λx=>x.length+1).sum
theorem Zc7: ∀l:List (List UInt8),l≠ []->(jn l).length+1=wt l
 | [x],_=>by simp[jn,wt]
 |x::y::r,_=>by
  have:=Zc7 (y::r) J1;show(x++32::jn (y::r)).length+1=(x.length+1)+wt (y::r);rw[Zf,JD];omega
theorem ZQ0(c:UInt8): ∀s,wt (Kh c s)=s.length+1
 | []=>rfl
 |b::l=>by
  have ih:=ZQ0 c l;unfold Kh;split
  .show(0+1)+wt (Kh c l)=_;rw[ih,JD];omega
  .split
   .rename_i y r he;rw[he]at ih;have e:wt (y::r)=(y.length+1)+wt r:=rfl;have e2:wt ((b::y)::r)=(y.length+1+1)+wt r:=rfl;rw[JD];omega
   .rename_i he;exact absurd he (Zfs c l)
theorem ZPu(p:List UInt8->Bool): ∀l,wt (l.filter p)<=wt l
 | []=>Zm _
 |x::l=>by
  have:=ZPu p l;have e:wt (x::l)=(x.length+1)+wt l:=rfl;rw[ZH5];split
  .have e:wt (x::l.filter p)=(x.length+1)+wt (l.filter p):=rfl;omega
  .omega
theorem ZXr: ∀l:List (List UInt8),l.length<=wt l
 | []=>Zm _
 |x::l=>by
  have:=ZXr l;have e:wt (x::l)=(x.length+1)+wt l:=rfl;rw[JD];omega
theorem ZUX(c:UInt8)(s:List UInt8):(Kh c s).length<=s.length+1:=by have:=ZXr (Kh c s);rw[ZQ0]at this;exact this
theorem ZXn(s:List UInt8):(ZEG s).length<=s.length+1:=ZKz (ZWO _ _) (ZUX 32 s)
theorem ZOw(s:List UInt8):(jn (ZEG s)).length<=s.length:=by
 by_cases h:ZEG s= []
 .rw[h];simp[jn]
 .have h1:=Zc7 _ h;have h2:wt (ZEG s)<=_:=ZPu _ _;rw[ZQ0]at h2;omega
def blk(s:List UInt8):List UInt8:=jn (ZEG s)
theorem ZMJ(x:List UInt8)(l:List (List UInt8))(p:List UInt8->Bool):(l++ [x]).filter p=if p x then l.filter p++ [x]else l.filter p:=by
 rw[List.filter_append,ZH5,List.filter_nil];split<;>simp
def ZGq:Tabs:=ZT (ZT (Jz (ZT (ZO) 77 ZAU) 77 (ZAE ZAU)) 189 ZIt) 201 ZA8
theorem ZYy:SsOk Tryz.prog ZGq:=ZH (ZH (JE (ZH (ZF) ZE6 ZGc) ZE6 (ZDv ZGc)) ZRO ZZQ) ZHs ZM5
theorem ZbW:(∀a,ZGq.q 77 a=ZAU a)/\(∀a o,ZGq.t 77 a o=Yx (ZAE ZAU) a o)/\(∀a,ZGq.q 189 a=ZIt a)/\(∀a,ZGq.q 201 a=ZA8 a)/\(∀f a o,ZGq.r f a o=none)/\(∀f a o,ZGq.k f a o=none):=⟨λ_=>rfl,λ_ _=>rfl,λ_=>rfl,λ_=>rfl,λ_ _ _=>rfl,λ_ _ _=>rfl⟩
theorem ZR0(s:List UInt8)(hl:s.length<=1000000):ZC Tryz.prog 174 [.x (.str s)] (.x (.str (blk s))):=by
 have hsl:=ZUX 32 s;refine ZI.pure (fC 174 true ?_) rfl;intro C0 E0;have uu:=ξ8 @ZAU.eq_1 @ZAU.eq_2 @ZIt.eq_1 @ZIt.eq_2 @ZbW @ZA8.eq_1 @ZA8.eq_2 @ZAE.eq_1;have tT:=ZYy;refine nz ?_;refine WI.regB tT [0] ?_;refine oS ?_;refine oN ?_;refine nz ?_;refine WI.regB tT [0,3] ?_;refine oS ?_;refine oN ?_;refine nz ?_;refine WI.regB tT [3,7,8,9] ?_;refine oS ?_;refine oC (hok:=by first|exact se|(rw[Yi (Zm _)];exact ZL ⟨hoj2,J0⟩)|exact sd) ?_;refine oG (hok:=by first|exact se|(rw[Yi (Zm _)];exact ZL ⟨hoj2,J0⟩)|exact sd) ?_;refine oS ?_;refine oN ?_;refine nz ?_;refine WI.ownA 3 9 1 ?_;refine WI.loop (λφ os=> ∃(j:Nat) (o:List (List UInt8)),φ= [(3,.ref 0 o.length 0 o.length),(7,.x (.sl (rows ZB (Kh 32 s)))),(8,.x (.int .i64 (Kh 32 s).length)),(9,.x (.int .i64 j))]/\os= [.rows false 9 1 (rows ZB o)]/\j<=(Kh 32 s).length/\o=((Kh 32 s).take j).filter (λx=>decide (x≠ []))/\o.length<=j) (ZK (Kh 32 s).length 9) ?_ (λφ os hI=> ?_)
 .exact⟨0,[],rfl,rfl,J0,rfl,J1⟩
 .obtain⟨j,o,rfl,rfl,hj,ho,hoj⟩:=hI;refine nz ?_;refine WI.regB tT [3,7,8,9,10] ?_;refine oG (hok:=by first|exact se|(rw[Yi (Zm _)];exact ZL ⟨hoj2,J0⟩)|exact sd) ?_;refine oN ?_;refine nz ?_;refine cd (λh0=> ?_) (λh0=> ?_)
  .have hj4:j<(Kh 32 s).length:=by omega
   refine WI.regB tT [3,5,7,8,9] ?_
   iterate 2 refine oG (hok:=by first|exact se|(rw[Yi (Zm _)];exact ZL ⟨hoj2,J0⟩)|exact sd) ?_
   refine oS ?_;refine oN ?_;refine nz ?_;refine WI.regB tT [3,5,7,8,9,14] ?_;refine oS ?_;refine oG (hok:=by first|exact se|(rw[Yi (Zm _)];exact ZL ⟨hoj2,J0⟩)|exact sd) ?_;refine oN ?_;refine nz ?_;refine cd (λh1=> ?_) (λh1=> ?_)
   .have ho2:o++ [(Kh 32 s)[j]]=((Kh 32 s).take (j+1)).filter (λx=>decide (x≠ [])):=by rw[Jk hj4,ZMJ,<-ho,if_pos (by simpa using h1)]
    refine WI.post ?_;refine WI.regB tT [3,7,8,9] ?_
    iterate 2 refine oS ?_
    iterate 2 refine oG (hok:=by first|exact se|(rw[Yi (Zm _)];exact ZL ⟨hoj2,J0⟩)|exact sd) ?_
    refine oS ?_;refine oP ?_;refine Jf [0] ?_;refine KR ?_;refine nz ?_;refine WI.regB tT [3,7,8,9] ?_;refine oG (hok:=by first|exact se|(rw[Yi (Zm _)];exact ZL ⟨hoj2,J0⟩)|exact sd) ?_;refine oS ?_;refine oN ?_;refine nz ?_
    first|exact⟨⟨j+1,o++ [(Kh 32 s)[j]],by first|rfl|simp,by rw[<-ZR6],J0,ho2,by simp;omega⟩,by simp[ZK,Ab.get,D.val,ZD];omega⟩|exact⟨⟨j+1,o,by first|rfl|simp,rfl,J0,ho2,J0⟩,by simp[ZK,Ab.get,D.val,ZD];omega⟩
   .have ho2:o=((Kh 32 s).take (j+1)).filter (λx=>decide (x≠ [])):=by rw[Jk hj4,ZMJ,<-ho,if_neg (by simpa using h1)]
    refine WI.regB tT [3,7,8,9] ?_;refine oG (hok:=by first|exact se|(rw[Yi (Zm _)];exact ZL ⟨hoj2,J0⟩)|exact sd) ?_;refine oS ?_;refine oN ?_;refine nz ?_
    first|exact⟨⟨j+1,o++ [(Kh 32 s)[j]],by first|rfl|simp,by rw[<-ZR6],J0,ho2,by simp;omega⟩,by simp[ZK,Ab.get,D.val,ZD];omega⟩|exact⟨⟨j+1,o,by first|rfl|simp,rfl,J0,ho2,J0⟩,by simp[ZK,Ab.get,D.val,ZD];omega⟩
  .have hoe:o=ZEG s:=by rw[ho,Yi J0];rfl
   have hwl:=ZXn s;have hoj2:(Lib.join o [32]).length<=140737488355328:=by rw[hoe,ZOY];have:=ZOw s;omega
   refine WI.regB tT [2] ?_;refine oS ?_;refine oC (hok:=by first|exact se|(rw[Yi (Zm _)];exact ZL ⟨hoj2,J0⟩)|exact sd) ?_;refine oS ?_;refine oN ?_;refine nz ?_;refine lf ?_;rw[hoe,ZOY];rfl
def ZGK:J8->J5
 | [.x (.str s)]=>some (decide (s.length<=1000000),.x (.str (blk s)))
 |_=>none
theorem ZVr: ∀args r,ZGK args=some (true,r)->ZC Tryz.prog 174 args r:=by
 intro args r h;unfold ZGK at h;split at h
 .rename_i s;simp only[Ze,ZZ,ZS,Zd,true_and]at h;obtain⟨h1,rfl⟩:=h;exact(ZR0 s h1)
 .cases h
def ZIW:Tabs:=ZT (ZT (ZT (ZO) 63 ZBm) 174 ZGK) 201 ZA8
theorem ZZW:SsOk Tryz.prog ZIW:=ZH (ZH (ZH (ZF) (ZW 63) ZPe) (ZW 174) ZVr) ZHs ZM5
theorem Za2:(∀a,ZIW.q 63 a=ZBm a)/\(∀a,ZIW.q 174 a=ZGK a)/\(∀a,ZIW.q 201 a=ZA8 a)/\(∀f a o,ZIW.r f a o=none)/\(∀f a o,ZIW.k f a o=none):=⟨λ_=>rfl,λ_=>rfl,λ_=>rfl,λ_ _ _=>rfl,λ_ _ _=>rfl⟩
def fld(s:List UInt8):List UInt8:=ZJ (blk s)
theorem ZhP(s:List UInt8)(hl:s.length<=1000000):ZC Tryz.prog 141 [.x (.str s)] (.x (.str (fld s))):=by
 have hb:(blk s).length<=s.length:=ZOw s;refine ZI.pure (fC 141 true ?_) rfl;intro C0 E0;have uu:=ξ7 @ZBm.eq_1 @ZBm.eq_2 @ZGK.eq_1 @ZGK.eq_2 @Za2 @ZA8.eq_1 @ZA8.eq_2;have tT:=ZZW;refine nz ?_;refine rg tT [0] ?_;refine rg tT [2] ?_;refine lf ?_
 first|rfl|exact⟨rfl,rfl⟩|trivial
def ZKx(b:UInt8):Bool:=decide (48<=b.toNat/\b.toNat<=57)
def dgs(s:List UInt8):Bool:=decide (s≠ []/\s.length<=32)&&s.all ZKx
theorem ZbR(s:List UInt8)(p:UInt8->Bool)(i:Nat)(h:i<s.length):(s.take (i+1)).all p=((s.take i).all p&&p s[i]):=by
 rw[Jk h,ZJ1];simp
theorem ZfK(s:List UInt8)(p:UInt8->Bool)(i:Nat)(h:i<s.length)(hp:p s[i]=false):s.all p=false:=by
 rw[List.all_eq_false];exact⟨s[i],YZ h,by rw[hp];simp⟩
theorem ZeF{s:List UInt8}{i:Nat}(h:i<s.length)(hr:48<=((QG s i).1:Int)/\((QG s i).1:Int)<=57):(QG s i).2=1/\ZKx s[i]=true:=by
 by_cases hb:s[i].toNat<128
 .rw[ZOW h hb]at hr|-;simp only at hr;exact⟨rfl,ZL J0⟩
 .have:=(ZTb h hb).1;omega
theorem Ze3{s:List UInt8}{i:Nat}(h:i<s.length)(hr: ¬(48<=((QG s i).1:Int)/\((QG s i).1:Int)<=57)):ZKx s[i]=false:=by
 refine decide_eq_false (λhd=>hr ?_);rw[ZOW h J0];simp only;omega
theorem ZbL(s:List UInt8):ZC Tryz.prog 202 [.x (.str s)] (.x (.bool (dgs s))):=by
 refine ZI.pure (fC 202 true ?_) rfl;intro C0 E0;have uu:=trivial;have tT:=(ZF:SsOk Tryz.prog ZO);refine nz ?_;refine rg tT [0] ?_;refine rg tT [0,6] ?_;refine WI.loop (λφ os=> ∃(i:Nat),φ= [(0,.x (.str s)),(6,.iref 0 0)]/\os= [.sit s i]/\i<=s.length/\(s.take i).all ZKx=true) (Zgx s.length 0) ?_ (λφ os hI=> ?_)
 .exact⟨0,rfl,rfl,J0,rfl⟩
 .obtain⟨i,rfl,rfl,hi,ha⟩:=hI;refine nz ?_;refine WI.nextSA [0,6,7,8] (λhn2=> ?_) (λhn2=> ?_)
  .have ha2:s.all ZKx=true:=by rw[<-ha,Yi J0]
   have hdg:dgs s=(!(s== [])&&decide ((s.length:Int)<=32)):=by unfold dgs;rw[ha2,QS];by_cases h1:s= []<;>by_cases h2:s.length<=32<;>simp[h1,h2]<;>omega
   refine nz ?_;refine ce (λh0=> ?_) (λh0=> ?_)
   .exact absurd h0 (by decide)
   .refine rg tT [2] ?_;refine lf ?_;rw[hdg]
  .refine nz ?_;refine ct (λh0=> ?_) (λh0=> ?_)
   .refine rg tT [0,4,6] ?_;refine rg tT [0,6,15] ?_;refine cd (λh1=> ?_) (λh1=> ?_) (kB:=λh=>h.h)
    .have hd:=ZfK s ZKx i hn2 (Ze3 hn2 J0);have hdg:dgs s=false:=by unfold dgs;rw[hd,ZFg]
     refine rg tT [2] ?_;refine lf ?_;rw[hdg]
    .obtain⟨hw,hdd⟩:=ZeF hn2 J0;have ha2:(s.take (i+1)).all ZKx=true:=by rw[ZbR s ZKx i hn2,ha,hdd];rfl
     refine WI.orderA [0,6] ?_;refine nz ?_;exact⟨⟨i+1,by first|rfl|simp,by first|rfl|simp[hw],J0,ha2⟩,by simp[Zgx,hw];omega⟩
   .exact absurd h0 (by decide)
def ZDq:J8->J5
 | [.x (.str s)]=>some (true,.x (.bool (dgs s)))
 |_=>none
theorem ZWa: ∀args r,ZDq args=some (true,r)->ZC Tryz.prog 202 args r:=by
 intro args r h;unfold ZDq at h;split at h
 .rename_i s;simp only[Ze,ZZ,ZS,Zd,true_and]at h;obtain rfl:=h;exact(ZbL s)
 .cases h
def ZKj:Tabs:=ZT (ZT (ZO) 202 ZDq) 201 ZA8
theorem ZPX:SsOk Tryz.prog ZKj:=ZH (ZH (ZF) (ZW 202) ZWa) ZHs ZM5
theorem ZRq:(∀a,ZKj.q 202 a=ZDq a)/\(∀a,ZKj.q 201 a=ZA8 a)/\(∀f a o,ZKj.r f a o=none)/\(∀f a o,ZKj.k f a o=none):=⟨λ_=>rfl,λ_=>rfl,λ_ _ _=>rfl,λ_ _ _=>rfl⟩
def stp:List UInt8->List UInt8
 | []=> []
 | [b]=> [b]
 |b::c::l=>if b=48 then stp (c::l)else b::c::l
theorem Zbl(s:List UInt8)(h:1<s.length)(h0:s[0]=48):stp s=stp (s.drop 1):=by
 match s,h with
 |b::c::l,_=>exact if_pos h0
theorem ZR4(s:List UInt8)(h: ¬(1<s.length/\ ∀(h:0<s.length),s[0]=48)):stp s=s:=by
 match s with
 | []=>rfl
 | [b]=>rfl
 |b::c::l=>rw[stp,if_neg];intro e;exact h ⟨J1,λ_=>e⟩
def ZBr(s:List UInt8):List UInt8:=Lib.trimPrefix s [45]
def ZWD(s:List UInt8):Bool:=Lib.hasPrefix s [45]
def ZGB(s:List UInt8):List UInt8×Bool:=
 if dgs (ZBr s)then(if ZWD s/\stp (ZBr s)≠ [48]then 45::stp (ZBr s)else stp (ZBr s),true)else([],false)
theorem b48{b:UInt8}:b=48↔(b.toNat:Int)=48:=⟨λh=>by rw[h];rfl,λh=>ZO8.1 (by show b.toNat=48;omega)⟩
theorem gd0(t:List UInt8)(h:0<t.length):t.getD 0 0=t[0]:=by simp[h]
theorem Zhk(s:List UInt8):ZC Tryz.prog 182 [.x (.str s)] (.tup [.x (.str (ZGB s).1),.x (.bool (ZGB s).2)]):=by
 cases hd:dgs (ZBr s)with
 |false=>
  have hi:ZGB s=([],false):=by unfold ZGB;rw[if_neg (by rw[hd];simp)]
  rw[hi];unfold ZBr at hd;refine ZI.pure (fC 182 true ?_) rfl;intro C0 E0;have uu:=ξ6 @ZDq.eq_1 @ZDq.eq_2 @ZA8.eq_1 @ZA8.eq_2 hd @ZRq;have tT:=ZPX;refine nz ?_;refine rg tT [0] ?_;refine rg tT [4,5] ?_;refine rg tT [4,5,13] ?_;refine ct (λh0=> ?_) (λh0=> ?_)
  .refine rg tT [2,3] ?_;refine lf ?_;rfl
  .simp at h0
 |true=>
  unfold ZBr at hd;have hd32:(Lib.trimPrefix s [45]).length<=32:=by
   unfold dgs at hd;rw[ZS]at hd;exact(of_decide_eq_true hd.1).2
  have hi:ZGB s=(if ZWD s/\stp (ZBr s)≠ [48]then 45::stp (ZBr s)else stp (ZBr s),true):=by have hd2:dgs (ZBr s)=true:=hd;unfold ZGB;rw[if_pos hd2]
  unfold ZBr ZWD at hi;refine ZI.pure (fC 182 true ?_) rfl;intro C0 E0;have uu:=ξ6 @ZDq.eq_1 @ZDq.eq_2 @ZA8.eq_1 @ZA8.eq_2 hd @ZRq;have tT:=ZPX;refine nz ?_;refine rg tT [0] ?_;refine rg tT [4,5] ?_;refine rg tT [4,5,13] ?_;refine ce (λh0=> ?_) (λh0=> ?_)
  .simp at h0
  .refine WI.orderA [4,5] ?_;refine WI.loop (λφ os=> ∃(t:List UInt8),φ= [(4,.x (.str t)),(5,.x (.bool (Lib.hasPrefix s [45])))]/\os= []/\stp t=stp (Lib.trimPrefix s [45])/\t.length<=32) (λφ _=>match φ with|(_,.x (.str t))::_=>t.length|_=>0) ?_ (λφ os hI=> ?_)
   .exact⟨_,rfl,rfl,rfl,hd32⟩
   .obtain⟨t,rfl,rfl,ht,htl⟩:=hI;refine nz ?_;by_cases hl1:1<t.length
    .have hk:t[0]? =some t[0]:=YA J0;have hdl:=ZL (show(1:Int)<(t.length:Int) by omega);have uu:=JX uu hk hdl;refine rg tT [4,5,21] ?_;refine cd (λh1=> ?_) (λh1=> ?_)
     .have ht2:stp (t.drop 1)=stp (Lib.trimPrefix s [45]):=by rw[<-ht,Zbl t hl1 ((gd0 t J0).symm.trans (b48.2 h1))]
      refine rg tT [4,5] ?_;exact⟨⟨t.drop 1,rfl,rfl,ht2,by rw[KD];omega⟩,by simp;omega⟩
     .have hts:stp t=t:=ZR4 t (λhh=>h1 (b48.1 ((gd0 t J0).trans (hh.2 J0))));have htt:=ht.symm.trans hts;refine rg tT [4,28] ?_;refine cd (λh2=> ?_) (λh2=> ?_)
      .refine rg tT [4] ?_;refine rg tT [2,3] ?_;refine lf ?_;rw[hi,htt];first|(rw[if_pos ⟨h2.1,h2.2⟩];done)|(rw[if_pos ⟨h2.1,h2.2⟩];rfl)|(rw[if_neg (by rcases h2 with h2|h2<;>simp[h2])];done)|(rw[if_neg (by rcases h2 with h2|h2<;>simp[h2])];rfl)
      .refine rg tT [2,3] ?_;refine lf ?_;rw[hi,htt];first|(rw[if_pos ⟨h2.1,h2.2⟩];done)|(rw[if_pos ⟨h2.1,h2.2⟩];rfl)|(rw[if_neg (by rcases h2 with h2|h2<;>simp[h2])];done)|(rw[if_neg (by rcases h2 with h2|h2<;>simp[h2])];rfl)
    .have hdl:=decide_eq_false (show ¬(1:Int)<(t.length:Int) by omega);have uu:=Ya uu hdl;refine rg tT [4,5,21] ?_;refine ce (λh1=> ?_) (λh1=> ?_)
     .simp at h1
     .have hts:stp t=t:=ZR4 t (λhh=>hl1 hh.1);have htt:=ht.symm.trans hts;refine rg tT [4,28] ?_;refine cd (λh2=> ?_) (λh2=> ?_)
      .refine rg tT [4] ?_;refine rg tT [2,3] ?_;refine lf ?_;rw[hi,htt];first|(rw[if_pos ⟨h2.1,h2.2⟩];done)|(rw[if_pos ⟨h2.1,h2.2⟩];rfl)|(rw[if_neg (by rcases h2 with h2|h2<;>simp[h2])];done)|(rw[if_neg (by rcases h2 with h2|h2<;>simp[h2])];rfl)
      .refine rg tT [2,3] ?_;refine lf ?_;rw[hi,htt];first|(rw[if_pos ⟨h2.1,h2.2⟩];done)|(rw[if_pos ⟨h2.1,h2.2⟩];rfl)|(rw[if_neg (by rcases h2 with h2|h2<;>simp[h2])];done)|(rw[if_neg (by rcases h2 with h2|h2<;>simp[h2])];rfl)
end Go.Proofs.YtiogclkbccdefaaGreatDoor
end
section
namespace Go.Ab
open Go.RowKit Go.Bo
theorem QH.copied{κ:Type}{mk:κ->Value}{w:World}{r:Nat}{l:List (κ×Value)}(h:QH mk w r l): ∃es clk,w.heap[r]? =some (.map es clk)/\ ∀(w':World) (b:Nat),w'.heap[b]? =some (.map es clk)->QH mk w' b l:=by
 obtain⟨es,clk,h1,h2⟩:=h;exact⟨es,clk,h1,λw' b hb=>⟨es,clk,hb,h2⟩⟩
theorem YE.copied{E:Env}{os:J7}{b:Nat}{dk:KK}{ag:Bool}{l:W2}(h:YE E os b dk ag l): ∃es clk,E.w.heap[b]? =some (.map es clk)/\ ∀(E':Env) (os':J7) (b':Nat),Evo E os E' os'->E'.w.heap[b']? =some (.map es clk)->YE E' os' b' dk ag l:=by
 cases dk with
 |int k=>
  obtain⟨l',h1,h2,h3⟩:=h;obtain⟨es,clk,k1,k2⟩:=QH.copied h1;exact⟨es,clk,k1,λE' os' b' ev hb=>⟨l',k2 _ _ hb,h2,λi a q ha hq=>⟨(h3 i a q ha hq).1,(h3 i a q ha hq).2.mono ev⟩⟩⟩
 |str=>
  obtain⟨l',h1,h2,h3⟩:=h;obtain⟨es,clk,k1,k2⟩:=QH.copied h1;exact⟨es,clk,k1,λE' os' b' ev hb=>⟨l',k2 _ _ hb,h2,λi a q ha hq=>⟨(h3 i a q ha hq).1,(h3 i a q ha hq).2.mono ev⟩⟩⟩
 |st _ _=>exact h.elim
end Go.Ab
namespace Go.Proofs.YtiogclkbccdefaaGreatDoor
open Go.RowKit Go.Bo Go.Ab Go.Lib Go.Sort
theorem ZTL{w:World}{st:Nat->Nat->Prop}{s:Tx}{v:Value}(h:VX w st (.str s) v):v= .string (ZR s):=by cases h;rfl
theorem ZV7{P:Program}{f fc:FuncId}{e:Nat}(l l':List Tx)(s:Tx)(hl':l'.length<=l.length)(hl0:l≠ [])
  (hraw: ∀(w:World) (g b cap:Nat) (cur:Array Value),w.heap[g]? =some (.cells cur e (0,0))->cur.size=cap->cur.toList.take l.length=l.map (λt=> .string (ZR t))->l.length<=cap->cap<=maxLen->b≠g->w.cell? ⟨b,0,none⟩=some (.string (ZR s))->b<w.heap.size->
   Calls P f #[.slice (some ⟨g,0,none⟩) l.length cap,.func (.func fc) #[] #[.pointer (some ⟨b,0,none⟩)]] w λx w'=> ∃cur',x= .returned (.slice (some ⟨g,0,none⟩) l'.length cap)/\w'.heap[g]? =some (.cells cur' e (0,0))/\cur'.size=cap/\cur'.toList.take l'.length=l'.map (λt=> .string (ZR t))/\w.grownBy w' (some g)):
  ZN P f [.ref 0 l.length 0 l.length,.fn fc [.ptr 1 0]] [.rows false e 1 (rows ZB l),.box [.x (.str s)]] (.ref 2 l'.length 0 l'.length) [.old 1 (l.length+1),.box [.x (.str s)],.rows false e 1 (rows ZB l')]:=by
 intro c E vs R hvl;obtain⟨hsz,hv⟩:=hvl;obtain⟨v0,v1,rfl⟩: ∃v0 v1,vs= #[v0,v1]:=by
  obtain⟨vl⟩:=vs
  match vl,hsz with
  | [a,b],_=>exact⟨a,b,rfl⟩
 have h0:=hv 0 _ v0 rfl rfl;have h1:=hv 1 _ v1 rfl rfl;clear hv hsz;have hrl:(rows ZB l).length=l.length:=Zh ZB l;have hrl':(rows ZB l').length=l'.length:=Zh ZB l';have hlen:=R.len;obtain⟨p,hp,hok⟩:=R.at (i:=0) (o:= .rows false e 1 (rows ZB l)) rfl;obtain⟨q,hq,hok2⟩:=R.at (i:=1) (o:= .box [.x (.str s)]) rfl;obtain⟨b,qv⟩:=q;obtain rfl:v0=p.2:=by
  obtain⟨h1,h2⟩:=h0.ref_inv.at (sz:=1) (rs:=rows ZB l) rfl rfl;obtain⟨h3,b,a0,cap,a',cap',h4,h5,h6,h7,h8,h9⟩:=h2 hrl;rw[hp]at h4;obtain⟨h10,h11⟩:=h8 rfl;rw[h10,h11]at h5;rw[h5,ZB9 h4]
 obtain rfl:v1= .func (.func fc) #[] #[.pointer (some ⟨b,0,none⟩)]:=by
  cases h1 with
  |fn ws hl hv=>
   obtain⟨wl⟩:=ws
   match wl,hl with
   | [a],_=>
    have h2:=hv 0 _ a rfl rfl;cases h2 with
    |ptr ho h=>
     rw[hq]at h;cases h;rfl
 clear h1;obtain⟨xs,k1,k2,k3⟩:=hok;obtain⟨cs,ty,g1,g2,g3⟩:=hok2;have hxl:xs.length=l.length:=by rw[k1.1,hrl,QZ]
 have hxs:xs=l.map λt=> .string (ZR t):=by
  apply ZBG;intro i;by_cases hi:i<l.length
  .have hx:=YA (l:=xs) (i:=i) J0;have h2:=k3 i [.str (l[i])] 0 (.str l[i]) xs[i] (by simp[rows,hi,ZB]) rfl (by rw[QZ];exact hx);rw[hx,YG,YA hi];rw[ZTL h2,Yf]
  .rw[ZA2 J0,ZA2 (by simp;omega)]
 rcases k1.owns.2 with⟨_,h⟩|⟨g,cap,cur,hpv,_,hgg,hnc,hcm,hcs,htake⟩
 .rw[hrl]at h;exact absurd (ZaY.1 h) hl0
 rw[hrl]at hnc hpv htake;rw[QZ]at hcs htake;have hne:b≠g:=λh=>by
  have:=R.dis 0 1 _ _ p (b,qv) g rfl hp rfl hq (by show p.2.ownBlock=some g;rw[hpv];rfl) h;omega
 have hcell:E.w.cell? ⟨b,0,none⟩=some (.string (ZR s)):=by
  have hlt:0<cs.size:=by rw[g2];simp
  have h2:=g3 0 _ cs[0] rfl (ξO hlt);have h3:cs[0]= .string (ZR s):=by
   have h4:=h2.1;cases h4 with|x h=>exact ZTL h
  exact QY g1 (by rw[ξO hlt,h3])
 have hbl:b<E.w.heap.size:=(ξH g1).1;have hcal:=hraw E.w g b cap cur hgg hcs (by rw[htake,hxs]) hnc hcm hne hcell hbl;rw[<-hpv]at hcal;refine hcal.mono ?_;rintro x w' ⟨cur',rfl,hg',hcs',ht',hG⟩;have hM:=R.mbs 0 _ p g rfl hp (by show p.2.ownBlock=some g;rw[hpv];rfl);have hst: ∀off,¬E.st g off:=λoff h=>(R.stm g off h).2 0 _ p rfl hp (by show p.2.ownBlock=some g;rw[hpv];rfl)
 obtain⟨R1,e1⟩:=R.push E.w .dead (0,undef) (Kept.refl _ _) (λb hb=>by cases hb) (λ_=>trivial);have hel:E.ob.length=2:=hlen;obtain⟨R2,e2⟩:=R1.set (i:=0) (o:= .rows false e 1 (rows ZB l)) (p:=p) rfl (by show(E.ob++ [(0,undef)])[0]? =_;rw[Yc J0];exact hp) w' (.old 1 (l.length+1)) (0,undef) (by
   show Kept (λb=>p.2.ownBlock=some b) E.w w';rw[hpv];exact Kept.of_grown hG) (λb hb=>by cases hb) (λsz n h=>by
   simp only[Ob.sl?,Ze,ZZ]at h;obtain⟨rfl,rfl⟩:=h;exact⟨l.length+1,rfl,.inr (by rw[hrl];omega)⟩) (λk h=>by cases h) (λ_=>trivial)
 have hrow:Ko w' false e 1 (rows ZB l').length (.slice (some ⟨g,0,none⟩) l'.length cap) (l'.map λt=> .string (ZR t)):=by
  refine⟨by rw[hrl',QZ,YX],.inr ⟨g,cap,cur',(0,0),by rw[hrl'],hg',by rw[hrl'];omega,hcm,by rw[QZ];exact hcs',by rw[hrl',QZ];exact ht',.inl rfl⟩⟩
 obtain⟨R3,e3⟩:=R2.set (i:=2) (o:= .dead) (p:=(0,undef)) rfl (by
   show((E.ob++ [(0,undef)]).set 0 (0,undef))[2]? =_;rw[ZCD J0,QP J0,hel];rfl) w' (.rows false e 1 (rows ZB l')) (0,.slice (some ⟨g,0,none⟩) l'.length cap) (Kept.refl _ _) (λb' hb'=>by
   have hb2:(Value.slice (some ⟨g,0,none⟩) l'.length cap).ownBlock=some b':=hb';cases hb2;refine .inr (.inr ⟨λoff h=>hst off h,λi o pi ho hpi hmb=> ?_,hM⟩)
   match i,ho with
   |0,ho=>cases ho;exact hmb
   |1,ho=>
    cases ho;have h5:((E.ob++ [(0,undef)]).set 0 (0,undef))[1]? =some pi:=hpi;rw[ZCD J0,Yc J0,hq]at h5;cases h5;exact hne hmb
   |2,ho=>cases ho;exact hmb
   |i+3,ho=>simp at ho) (λsz n h=>by cases h) (λk h=>by cases h) (λev=>by
   refine⟨_,hrow,λr hr=>(by obtain⟨t,_,rfl⟩:=YO.1 hr;rfl),λi r j x v e4 e5 e6=> ?_⟩;have hi:i<l'.length:=by rw[<-hrl'];exact(ZV e4).1
   have hr:r= [.str l'[i]]:=by simpa[rows,hi,ZB,eq_comm]using e4
   subst hr;have hj:j=0:=by
    have:=(ZV e5).1;simp at this;exact this
   subst hj;cases e5;rw[QZ,JK,YG,YA hi]at e6;cases e6;exact .str _)
 refine⟨_,_,rfl,rfl,R3,(e1.trans e2).trans e3,?_⟩;have hob:(((E.ob++ [(0,undef)]).set 0 (0,undef)).set 2 (0,.slice (some ⟨g,0,none⟩) l'.length cap))[2]? =some (0,.slice (some ⟨g,0,none⟩) l'.length cap):=by
  rw[ZHt (by simp[hel])]
 refine .ref ⟨.rows false e 1 (rows ZB l'),1,(rows ZB l').length,rfl,rfl,?_⟩ rfl;rw[show l'.length=(rows ZB l').length from hrl'.symm]at hob|-;exact⟨Zm _,λ_=>⟨J0,0,_,cap,_,cap,hob,rfl,by rw[hrl'];omega,hcm,λ_=>⟨rfl,rfl⟩,λ_ ad h=>(by cases h;simp),λh=>(by cases h),λad h=>(by cases h;rfl)⟩⟩
theorem ZZy(rs:J6)(r:J9)(i:Nat)(hi:i<=rs.length)(hn:rs.length<=1000000):ZN Tryz.prog 44 [.ref 0 rs.length 0 rs.length,.x (.int .i64 i),.ref 1 1 0 1] [.rows false 9 1 rs,.rows false 9 1 [r]] (.ref 0 (rs.length+1) 0 (rs.length+1)) [.rows false 9 1 (YN rs i [r]),.rows false 9 1 [r]]:=
 ZN.ins rs r i hi hn λw v0 n i xs ys vb vc cv ev h1 h2 h3 h4 h5 h6 h7 h8 h9=>by
  simp only[QZ];exact ZcU w 0 v0 n i xs ys vb vc cv ev h1 h2 h3 h4 h5 h6 h7 h8 h9 (Jy _)
theorem ZNK(s x:ByteArray)(B:Nat)(W:World)(hc:W.cell? ⟨B,0,none⟩=some (.string s)):FnGives Tryz.prog 56 #[.pointer (some ⟨B,0,none⟩)] #[.string x] (.bool (x.toList==s.toList)) W:=by
 show Calls Tryz.prog 56 #[.string x,.pointer (some ⟨B,0,none⟩)] W _
 go_enter Tryz.func56,Tryz.ntmps56
 go_wp2
 all_goals(go_ret;exact⟨by simp_all,0,rfl⟩)
def Jp(l:List Tx)(s:Tx):List Tx:=l.filter λt=> !(t==s)
theorem Zep(l:List Tx)(s:Tx)(hl:l.length<=1000000)(w:World)(g b cap:Nat)(cur:Array Value)(hgg:w.heap[g]? =some (.cells cur 9 (0,0)))(hcs:cur.size=cap)(htake:cur.toList.take l.length=l.map (λt=> .string (ZR t)))(hlc:l.length<=cap)(hcm:cap<=maxLen)(hbg:b≠g)(hb:w.cell? ⟨b,0,none⟩=some (.string (ZR s)))(hbl:b<w.heap.size):
  Calls Tryz.prog 55 #[.slice (some ⟨g,0,none⟩) l.length cap,.func (.func 56) #[] #[.pointer (some ⟨b,0,none⟩)]] w λx w'=> ∃cur',x= .returned (.slice (some ⟨g,0,none⟩) (Jp l s).length cap)/\w'.heap[g]? =some (.cells cur' 9 (0,0))/\cur'.size=cap/\cur'.toList.take (Jp l s).length=(Jp l s).map (λt=> .string (ZR t))/\w.grownBy w' (some g):=by
 have eg: ∀args w,(callFunc 56 args).run Tryz.prog w= .ok (.enter 56 args) w:=enters_of Tryz.func56 J3 rfl;obtain⟨d,hd⟩: ∃d:Array ByteArray,d=(l.map ZR).toArray:=⟨_,rfl⟩;have hds:d.size=l.length:=by rw[hd];simp
 have hdj: ∀j,(hj:j<l.length)->d[j]! =ZR l[j]:=λj hj=>by
  rw[getElem!_pos d j J0];simp[hd]
 have hcur: ∀j,(hj:j<l.length)->cur[j]? =some (.string (ZR l[j])):=λj hj=>by
  have h:=congrArg (λq=>q[j]?) htake;rw[Jw,if_pos hj,YG,YA hj,ξL]at h;exact h
 have hH:Holds Value.string w g 0 d:=λj hj=>by
  rw[hds]at hj;rw[JW,hdj j hj];exact⟨QY hgg (hcur j hj),ZLW hgg⟩
 have hcon:=AnyE.slices_DeleteFunc Tryz.delS Value.string (λ_=>rfl) (λx=>x.toList==(ZR s).toList) 56 #[.pointer (some ⟨b,0,none⟩)] eg ByteArray.empty Tryz.zeroValue9 g 0 cap d w
  (λW x hB=>ZNK (ZR s) x b W ((hB.cell (p:=⟨b,0,none⟩) hbl).trans hb))
  (λn os dk x _=>ZNK (ZR s) x b _ (by
   unfold sortWorld;rw[cell?_grow _ _ _ (by show b<(putRow _ _ _ _ _).heap.size;rw[size_putRow];exact hbl),cell?_putRow_other _ _ g 0 _ _ (Or.inl hbg)];exact hb)) hH (by rw[hds];omega) (by rw[hds];exact hlc)
 change Calls Tryz.prog 55 _ _ _ at hcon;have hfl:(d.toList.filter λx=> !(x.toList==(ZR s).toList))=(Jp l s).map ZR:=by
  rw[hd];simp only[List.toList_toArray,KM];unfold Jp;rw[List.filter_map];congr 1;apply Za7;intro t _;simp only[Function.comp,KM]
 rw[hfl,hds]at hcon;have hdl:(Jp l s).length<=l.length:=ZWO _ _;refine hcon.mono ?_;rintro e w' ⟨rfl,q,rfl⟩;simp only[YX];obtain⟨D,hD⟩: ∃D:Array ByteArray,D=((Jp l s).map ZR++List.replicate (l.length-(Jp l s).length) ByteArray.empty).toArray:=⟨_,rfl⟩;rw[<-hD];have hDs:D.size=l.length:=by rw[hD];simp;omega
 refine⟨putCells Value.string 0 D cur,trivial,?_,?_,?_,⟨rfl,rfl,rfl,?_,λk hk hne=> ?_⟩⟩
 .show(mapBlock (Sort.ahead w q) g (putCells Value.string 0 D)).heap[g]? =_;unfold mapBlock;have h:(Sort.ahead w q).heap[g]? =some (.cells cur 9 (0,0)):=hgg;simp only[ZOl,if_pos rfl,h,Yf];rfl
 .unfold putCells;simp[hcs]
 .apply ZBG;intro j;rw[Jw];by_cases hj:j<(Jp l s).length
  .rw[if_pos hj,ξL,YG,YA hj];unfold putCells;rw[Array.getElem?_mapIdx,hcur j J0,Yf,if_pos ⟨Jy _,J0⟩,Nat.sub_zero,getElem!_pos D j J0];simp[hD,hj]
  .rw[if_neg hj,ZA2 (by simp;omega)]
 .show(Sort.ahead w q).heap.size<=_;rw[size_putRow];exact Zm _
 .show(mapBlock (Sort.ahead w q) g (putCells Value.string 0 D)).heap[k]? =_;unfold mapBlock;have:g≠k:=λh=>hne (by rw[h])
  simp only[ZOl,if_neg this];rfl
theorem ZXs(l:List Tx)(s:Tx)(hl:l.length<=1000000)(h0:l≠ []):ZN Tryz.prog 55 [.ref 0 l.length 0 l.length,.fn 56 [.ptr 1 0]] [.rows false 9 1 (rows ZB l),.box [.x (.str s)]] (.ref 2 (Jp l s).length 0 (Jp l s).length) [.old 1 (l.length+1),.box [.x (.str s)],.rows false 9 1 (rows ZB (Jp l s))]:=
 ZV7 l (Jp l s) s (ZWO _ _) h0 λw g b cap cur h1 h2 h3 h4 h5 h6 h7 h8=>Zep l s hl w g b cap cur h1 h2 h3 h4 h5 h6 h7 h8
open Go.RowKit Go.Bo Go.Ab Go.Lib
theorem ZSS(OS:J7)(id:Nat)(fz:Bool)(e:Nat)(l:List Tx)(ho:OS[id]? =some (.rows fz e 1 (rows ZB l)))(hl:l.length<=1000000):
  ZCi Tryz.prog 47 [.ref id l.length 0 l.length] OS (λj=> .ref j l.length 0 l.length) (.rows false 9 1 (rows ZB l)):=by
 intro Y jd c E vs hd R hvl;obtain⟨hsz,hv⟩:=hvl;obtain⟨v0,rfl⟩: ∃v0,vs= #[v0]:=by
  obtain⟨vl⟩:=vs
  match vl,hsz with
  | [a],_=>exact⟨a,rfl⟩
 have h0:=hv 0 _ v0 rfl rfl;have hlt:=(ZV ho).1;have ho':(OS++Y)[id]? =some (.rows fz e 1 (rows ZB l)):=by rw[Yc hlt];exact ho
 have hrl:(rows ZB l).length=l.length:=Zh ZB l;obtain⟨p,hp,hok⟩:=R.at ho';obtain rfl:v0=p.2:=by
  obtain⟨h1,h2⟩:=h0.ref_inv.at (sz:=1) (rs:=rows ZB l) ho' rfl;obtain⟨h3,b,a0,cap,a',cap',h4,h5,h6,h7,h8,h9⟩:=h2 hrl;rw[hp]at h4;obtain⟨h10,h11⟩:=h8 rfl;rw[h10,h11]at h5;rw[h5,ZB9 h4]
 obtain⟨xs,k1,k2,k3⟩:=hok;have hxl:xs.length=l.length:=by rw[k1.1,hrl,QZ]
 have hxs:xs=l.map λt=> .string (ZR t):=by
  apply ZBG;intro i;by_cases hi:i<l.length
  .have hx:=YA (l:=xs) (i:=i) J0;have h2:=k3 i [.str (l[i])] 0 (.str l[i]) xs[i] (by simp[rows,hi,ZB]) rfl (by rw[QZ];exact hx);rw[hx,YG,YA hi];rw[ZTL h2,Yf]
  .rw[ZA2 J0,ZA2 (by simp;omega)]
 have hvals: ∀(i:Nat) (r:J9) (j:Nat) (x:X) (v:Value),(rows ZB l)[i]? =some r->r[j]? =some x->xs[i*1+j]? =some v->VX E.w E.st x v:=k3;rcases k1.2 with⟨hpv,h⟩|⟨g,cap,cur,fr,hpv,hgg,hnc,hcm,hcs,htake,hfr⟩
 .rw[hpv];refine(Tryz.slices_Clone_string_nil 0 0 E.w).mono ?_;rintro x w' ⟨rfl,rfl⟩;obtain⟨E',q1,q2,q3,q4⟩:=ZMQ R hd (Kept.refl _ _) (fz:=false) (e:=9) (sz:=1) (rs:=rows ZB l) (cu:= .slice none 0 0) (xs:=xs) ⟨k1.1,.inl ⟨rfl,h⟩⟩ (λb hb=>by cases hb) k2 hvals;rw[hrl]at q4;exact⟨_,E',rfl,q1,q2,q3,q4⟩
 .rw[hpv,hrl];rw[hrl]at htake hnc;rw[QZ]at htake;have hc: ∀j,j<(l.map ZR).length->E.w.cell? ⟨g,0+j,none⟩=some (.string ((l.map ZR).getD j ByteArray.empty)):=λj hj=>by
   simp only[YX]at hj;rw[JW];refine QY hgg ?_;have h:=congrArg (λq=>q[j]?) (htake.trans hxs);rw[Jw,if_pos hj,YG,YA hj,ξL]at h;rw[h];simp[List.getD,hj]
  refine(Tryz.slices_Clone_string g 0 l.length cap (l.map ZR) E.w J1 J0 hc).mono ?_;rintro x w' ⟨v',rfl,hown,_,hB⟩;have hmap:((l.map ZR).take l.length).map Value.string=xs:=by
   rw[Yi J1,hxs,Js];rfl
  rw[hmap]at hown;have hrow:Ko w' false 9 1 (rows ZB l).length v' xs:=by rw[hrl];exact Ko.of_owns hown false
  obtain⟨E',q1,q2,q3,q4⟩:=ZMQ R hd (w':=w') ⟨hB.os,hB.tape,hB.output,hB.size,λk hk _=>hB.block k hk⟩ hrow (λb hb=>by
   rcases hown.2 with⟨h1,_⟩|⟨g',cap',cur',h1,h2,_⟩
   .rw[h1]at hb;cases hb
   .rw[h1]at hb;cases hb;exact h2) k2 hvals
  rw[hrl]at q4;exact⟨_,E',rfl,q1,q2,q3,q4⟩
theorem ZJ4:Go.Ab.Enters Tryz.prog 47:=ZW 47
open Go.RowKit Go.Bo Go.Ab
def ZPQ(acc:List (List UInt8))(v:List UInt8):List (List UInt8):=if v∈acc then acc else acc++ [v]
def ZEK(b vs:List (List UInt8)):List (List UInt8):=vs.foldl ZPQ b
theorem ZYl(b vs:List (List UInt8))(j:Nat)(h:j<vs.length):ZEK b (vs.take (j+1))=ZPQ (ZEK b (vs.take j)) vs[j]:=by
 unfold ZEK;rw[Jk h,ZRw];rfl
theorem Zb7(acc:List (List UInt8))(v:List UInt8):(ZPQ acc v).length<=acc.length+1:=by unfold ZPQ;split<;>simp
theorem ZRI(b vs:List (List UInt8)):(ZEK b vs).length<=b.length+vs.length:=by
 induction vs generalizing b with
 |nil=>simp[ZEK]
 |cons v vs ih=>have:=ih (ZPQ b v);have:=Zb7 b v;simp only[ZEK,ZOX,JD]at*;omega
def Zx(l:List ZY)(n:List UInt8):Nat:=(l.takeWhile λa=>Op.bytesLess a.1 n).length
theorem ZGb(l:List ZY)(n:List UInt8):Zx l n<=l.length:=(List.takeWhile_sublist _).length_le
def ZCS(l:List ZY)(n:List UInt8):Bool:=match l[Zx l n]? with
 |some a=>a.1==n
 |none=>false
def Ky(l:List ZY)(n:List UInt8):List (List UInt8):=if ZCS l n then(l.getD (Zx l n) ([],[],())).2.1 else []
def ZCM(l:List ZY)(n:List UInt8):List ZY:=if ZCS l n then l.drop (Zx l n+1)else l.drop (Zx l n)
theorem ZNE(l:List ZY)(n:List UInt8)(j:Nat)(h:j<Zx l n):Op.bytesLess (l[j]'(ZPL h (ZGb l n))).1 n=true:=by
 have hp:(l.takeWhile λa=>Op.bytesLess a.1 n)<+:l:=List.takeWhile_prefix _;have:=Yd.1 (List.all_takeWhile (p:=λa:ZY=>Op.bytesLess a.1 n) (l:=l)) _ (YZ (h:=h));rwa [hp.getElem h]at this
theorem ZNW(l:List ZY)(n:List UInt8)(h:Zx l n<l.length):Op.bytesLess l[Zx l n].1 n=false:=by
 unfold Zx at*
 induction l with
 |nil=>simp at h
 |cons a l ih=>
  by_cases ha:Op.bytesLess a.1 n=true
  .simp only[List.takeWhile_cons,ha,if_true,JD]at h|-;simpa using ih J0
  .simp only[List.takeWhile_cons,ha,JM,if_false,ξN];simpa using ha
theorem ZUK(l:List ZY)(n:List UInt8)(hk:Zx l n<l.length)(h:ZCS l n=true):l[Zx l n].1=n:=by
 unfold ZCS at h;rw[YA hk]at h;simpa using h

theorem bl_irr: ∀a,Op.bytesLess a a=false
 | []=>rfl
 |x::a=>by rw[Op.bytesLess,bl_irr a];simp
theorem ZUb: ∀a b,Op.bytesLess a b=true->Op.bytesLess b a=false
 |_,[],h=>by simp[Op.bytesLess]at h
 | [],_::_,_=>by simp[Op.bytesLess]
 |x::a,y::b,h=>by
  rw[Op.bytesLess,ZBJ,ZS,Zd,beq_iff_eq]at h;rw[Op.bytesLess,ZSU,Bool.and_eq_false_imp,decide_eq_false_iff_not,beq_iff_eq];rcases h with h|⟨rfl,h⟩
  .exact⟨UInt8.lt_asymm h,λe=>by subst e;exact absurd h (UInt8.lt_irrefl _)⟩
  .exact⟨UInt8.lt_irrefl _,λ_=>ZUb a b h⟩
theorem bl_trans: ∀a b c,Op.bytesLess a b=true->Op.bytesLess b c=true->Op.bytesLess a c=true
 |_,[],_,h,_=>by simp[Op.bytesLess]at h
 |_,_::_,[],_,h=>by simp[Op.bytesLess]at h
 | [],_::_,_::_,_,_=>by simp[Op.bytesLess]
 |x::a,y::b,z::c,h,k=>by
  rw[Op.bytesLess,ZBJ,ZS,Zd,beq_iff_eq]at h k|-;rcases h with h|⟨rfl,h⟩<;>rcases k with k|⟨rfl,k⟩
  .exact .inl (UInt8.lt_trans h k)
  .exact .inl h
  .exact .inl k
  .exact .inr ⟨rfl,bl_trans a b c h k⟩
theorem bl_tot: ∀a b,a≠b->Op.bytesLess a b=true\/Op.bytesLess b a=true
 | [],[],h=>absurd rfl h
 |_::_,[],_=> .inr (by simp[Op.bytesLess])
 | [],_::_,_=> .inl (by simp[Op.bytesLess])
 |x::a,y::b,h=>by
  simp only[Op.bytesLess,ZBJ,ZS,Zd,beq_iff_eq];by_cases e:x=y
  .subst e;rcases bl_tot a b (λk=>h (by rw[k]))with k|k
   .exact .inl (.inr ⟨rfl,k⟩)
   .exact .inr (.inr ⟨rfl,k⟩)
  .rcases UInt8.lt_or_lt_of_ne e with k|k
   .exact .inl (.inl k)
   .exact .inr (.inl k)
end Go.Proofs.YtiogclkbccdefaaGreatDoor
end
