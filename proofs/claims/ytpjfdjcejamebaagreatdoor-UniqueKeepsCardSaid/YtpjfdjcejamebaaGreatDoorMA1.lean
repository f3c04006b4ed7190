import Derived.Test.YtpjfdjcejamebaaGreatDoorLA1
import Derived.Shelf.Spec.SlicesInsertGrow
import Derived.Test.YtpjfdjcejamebaaGreatDoorProg
import Derived.Test.YtpjfdjcejamebaaGreatDoorLA5
import Derived.Test.YtpjfdjcejamebaaGreatDoorSh
import Derived.Lib.SplitLaws
import Derived.Lib.Join
import Derived.Lib.MapLaws
import Derived.Shelf.Spec.SlicesGrow
import Derived.Handy
import Derived.Lib.SlBytesConst
set_option linter.unusedSimpArgs false
set_option linter.unusedVariables false
set_option maxRecDepth 100000
section
namespace Go.Bo
open Go.RowKit
def Qy{α:Type}(E:Enc α)(w:World)(ok:Nat->Prop):List α->List Value->Prop
 | [],xs=>xs= []
 |x::l,xs=> ∃c d,xs=c++d/\E.rep w ok x c/\Qy E w ok l d
section
variable {α:Type} {E:Enc α}
theorem Qy.len(hE:E.Good){w:World}{ok:Nat->Prop}: ∀ {l:List α} {xs:List Value},Qy E w ok l xs->xs.length=l.length*E.n
 | [],xs,h=>by rw[show xs= []from h];simp
 |x::l,xs,⟨c,d,h1,h2,h3⟩=>by rw[h1,Zg,hE.len h2,Qy.len hE h3,JG,Jm,ZNF,ZPe]
theorem Qy.one(hE:E.Good){w:World}{ok:Nat->Prop}: ∀ {l:List α} {xs:List Value},Qy E w ok l xs-> ∀u∈xs,u.oneCell'=true
 | [],xs,h,u,hu=>by rw[show xs= []from h]at hu;cases hu
 |x::l,xs,⟨c,d,h1,h2,h3⟩,u,hu=>by
  rw[h1,Km]at hu;rcases hu with hu|hu
  .exact hE.one h2 u hu
  .exact Qy.one hE h3 u hu
theorem Qy.stay(hE:E.Good){w w':World}{ok ok':Nat->Prop}(hs:ZHd w w' ok ok'): ∀ {l:List α} {xs:List Value},Qy E w ok l xs->Qy E w' ok' l xs
 | [],_,h=>h
 |_::_,_,⟨c,d,h1,h2,h3⟩=>⟨c,d,h1,hE.stay hs h2,Qy.stay hE hs h3⟩
theorem Qy.append{w:World}{ok:Nat->Prop}: ∀ {l m:List α} {xs ys:List Value},Qy E w ok l xs->Qy E w ok m ys->Qy E w ok (l++m) (xs++ys)
 | [],_,xs,_,h,k=>by rw[show xs= []from h];exact k
 |_::_,_,_,_,⟨c,d,h1,h2,h3⟩,k=>⟨c,d++_,by rw[h1,Yp],h2,Qy.append h3 k⟩
theorem Qy.drop(hE:E.Good){w:World}{ok:Nat->Prop}: ∀ {l:List α} {xs:List Value} (k:Nat),Qy E w ok l xs->Qy E w ok (l.drop k) (xs.drop (k*E.n))
 | [],xs,k,h=>by rw[show xs= []from h];simp[Qy]
 |x::l,xs,0,h=>by simpa using h
 |x::l,xs,k+1,⟨c,d,h1,h2,h3⟩=>by
  rw[h1,ZEu,List.drop_append_of_le_length_eq (hE.len h2)];exact Qy.drop hE k h3
where
 List.drop_append_of_le_length_eq {c d:List Value} {n k:Nat} (h:c.length=n):(c++d).drop ((k+1)*n)=d.drop (k*n):=by
  rw[List.drop_append,ZBl (by rw[h,Jm];omega),ZAy,h,Jm,ZNF,Nat.add_sub_cancel]
theorem Qy.get(hE:E.Good){w:World}{ok:Nat->Prop}: ∀ {l:List α} {xs:List Value},Qy E w ok l xs-> ∀i (h:i<l.length),∃cs,E.rep w ok l[i] cs/\ ∀j,j<E.n->xs[i*E.n+j]? =cs[j]?
 | [],_,_,i,h=>by simp at h
 |x::l,xs,⟨c,d,h1,h2,h3⟩,0,h=>⟨c,h2,λj hj=>by rw[h1,ZKl,Jn,Ym (by rw[hE.len h2];exact hj)]⟩
 |x::l,xs,⟨c,d,h1,h2,h3⟩,i+1,h=>by
  obtain⟨cs,k1,k2⟩:=Qy.get hE h3 i (by simpa using h);refine⟨cs,by simpa using k1,λj hj=> ?_⟩;rw[<-k2 j hj,h1,Qe (by rw[hE.len h2,Jm];omega),hE.len h2];congr 1;rw[Jm];omega
theorem Sl.lt(hE:E.Good)(h0:0<E.n){w:World}{ok:Nat->Prop}{a:Option Addr}{l:List α}(h:Sl E w ok a l):Sl E w (λb=>ok b/\b<w.heap.size) a l:=h.stay hE h0 (λ_ hb ho=>⟨⟨ho,hb⟩,rfl⟩)
theorem Sl.drop{w:World}{ok:Nat->Prop}{g off:Nat}{l:List α}(h:Sl E w ok (some ⟨g,off,none⟩) l)(k:Nat):Sl E w ok (some ⟨g,off+k*E.n,none⟩) (l.drop k):=by
 refine⟨by rw[Jj];have:=h.1;omega,λi hi=> ?_⟩;rw[Jj]at hi;obtain⟨b,o,cs,ha,hb,hr,hc⟩:=h.2 (k+i) J0;cases ha;refine⟨g,off+k*E.n,cs,rfl,hb,by rw[List.getElem_drop];exact hr,λj hj=> ?_⟩;rw[<-hc j hj];congr 2;rw[Jm];omega
end
section
variable {P:Program} {w:World}
end
open Go.RowKit Go.Lib
section
variable {P:Program} (w:World)
theorem ZAF(t u ty e:TypeId)(i0:TypeInfo)(size:Nat)(hu:P.underlying t=some (.slice e))(hi:P.info? e=some i0)(hs:i0.size=size)(g o dLen dCap:Nat)(cur:Array Value)(hg:w.heap[g]? =some (.cells cur e (0,0)))
  (a:Addr) (sLen sCap:Nat) (cs:List Value) (hn:cs.length=min sLen dLen*size) (hsrc: ∀j v,cs[j]? =some v->w.cell? (a.add j)=some v) (hfit:o+cs.length<=cur.size) (h1: ∀v∈cs,v.oneCell'=true):
  (Builtin.copy_ #[t,u] ty #[.slice (some ⟨g,o,none⟩) dLen dCap,.slice (some a) sLen sCap]).run P w= .ok (goInt (min sLen dLen)) (w.setRow g (cur.toList.take o++cs++cur.toList.drop (o+cs.length)).toArray):=by
 subst hs;have hf:=run_firstCells_some (P:=P) w i0.size (min sLen dLen) a sLen sCap cs hn hsrc;have hst:=run_storeCells_at P g o e cs 0 cur w hg (by simpa using hfit) h1;simp only[JK]at hst;have hm:Nat.min sLen dLen=min sLen dLen:=rfl;simp[Builtin.copy_,run_underlying hu,Builtin.lenOf,sizeOf,typeInfo,hi,hm,hf,hst];congr 1;omega
end
def YJ{α:Type}(l:List α)(i:Nat)(y:List α):List α:=l.take i++y++l.drop i
theorem ZRs{α:Type}(A B C ys:List α)(k:Nat)(hy:ys.length=k)(hC:k<=C.length):
  (((A++B++C).take (A.length+k)++B++(A++B++C).drop (A.length+k+B.length)).take A.length++ys++((A++B++C).take (A.length+k)++B++(A++B++C).drop (A.length+k+B.length)).drop (A.length+ys.length))=A++ys++B++C.drop k:=by
 have e1:(A++B++C).take (A.length+k)=A++(B++C).take k:=by
  rw[Yp,List.take_append,YX J0,ZWC]
 have e2:(A++B++C).drop (A.length+k+B.length)=C.drop k:=by
  rw[show A.length+k+B.length=(A++B).length+k by rw[Zg];omega,List.drop_append,ZBl J0,ZWC,ZAy]
 have hk:((B++C).take k).length=k:=by rw[Yu,Zg];omega
 rw[e1,e2,hy];have e3:(A++(B++C).take k++B++C.drop k).take A.length=A:=by
  rw[Yp,Yp,List.take_left'];rfl
 have e4:(A++(B++C).take k++B++C.drop k).drop (A.length+k)=B++C.drop k:=by
  rw[Yp,List.drop_left'];rw[Zg,hk]
 rw[e3,e4];simp[Yp]
theorem ZQQ{α:Type}(A Z B ys:List α)(k:Nat)(hy:ys.length=k)(hZ:k<=Z.length)(T:List α):
  (((A++Z).take A.length++ys++(A++Z).drop (A.length+ys.length)).take (A.length+k)++B++T)=A++ys++B++T:=by
 rw[List.take_left,ZM3 (by rw[Zg];omega),YX (by rw[Zg];omega)]
theorem ZKX(w:World)(g:Nat)(a b:Array Value):(w.setRow g a).setRow g b=w.setRow g b:=by
 unfold World.setRow;congr 1;apply Array.ext
 .simp
 .intro i h1 h2;simp only[Array.getElem_modify];split
  .cases w.heap[i]'(by simpa using h1)<;>rfl
  .rfl
end Go.Bo
end
section
namespace Go.Proofs.YtpjfdjcejamebaaGreatDoor
open Go.RowKit Go.Bo Go.Lib Go.Proofs
theorem ZW1:(Tryz.prog.info? 72).map (λi=>(i.zero,i.size,i.bytes))=some (some (.agg #[.string ByteArray.empty,.slice none 0 0]),2,40):=by kernel_rfl
theorem ZJX: ∃i0,Tryz.prog.info? 72=some i0/\i0.zero=some (.agg #[.string ByteArray.empty,.slice none 0 0])/\i0.size=2/\i0.bytes=40:=by
 have h:=ZW1;cases hq:Tryz.prog.info? 72 with
 |none=>rw[hq]at h;cases h
 |some i0=>rw[hq]at h;simp at h;exact⟨i0,rfl,h.1,h.2.1,h.2.2⟩
set_option maxHeartbeats 4000000 in
set_option maxRecDepth 100000 in
theorem Zbt(w : World)(base : Nat)(v0 : Value)(n : Nat)(xs ys : List Value)(vb vc : Nat)(hown : w.ownsRow base 72 2 v0 n xs)(hn : n <= 1000000)(hys : ys.length = 2)(hv : ∀ j u, ys[j]? = some u -> w.cell? ⟨vb, j, none⟩ = some u)
    (h1y : ∀ u ∈ ys, u.oneCell' = true) (hbase : base <= w.heap.size) :
    Calls Tryz.prog 132 #[v0, .int .i64 n, .slice (some ⟨vb, 0, none⟩) 1 vc] w λe w' => ∃ v', e = .returned v' /\ w'.ownsRow base 72 2 v' (n + 1) (xs ++ ys) /\ Grow w w' v0 v' := by
  obtain ⟨i0, hi, hz0, hz1, hz2⟩ := ZJX;have hown2 := hown;rcases hown.2 with ⟨rfl, rfl⟩ | ⟨g, cap, cur, rfl, hbg, hgg, hnc, hcm, hcs, htake⟩
  · go_enter Tryz.func132, Tryz.ntmps132
    go_wp2_with (at_builtin; refine ZDl _ rfl _ _ 22 rfl base 72 i0 (.agg #[.string ByteArray.empty, .slice none 0 0]) 2 40 Tryz.underlying22 hi hz0 hz1 hz2 rfl (by decide) _ 0 xs rfl hown2 ⟨vb, 0, none⟩ 1 vc ys rfl (by rw [hys]) (λj u hj => by rw [Addr.add_lit, Jn]; exact hv j u hj) h1y (by simp only [maxLen]; omega) J0 hbase ?_)
    intro v' w' ho hg
    go_wp2_with fail
    go_ret
    exact ⟨v', rfl, ho, hg⟩
  · have hz3 : ¬ ((1 : Int) = 0) := by omega
    by_cases hcn : n = cap
    all_goals first | subst hcn | skip
    all_goals
     go_enter Tryz.func132, Tryz.ntmps132
     go_wp2_with (at_builtin; refine ZDl _ rfl _ _ 22 rfl base 72 i0 (.agg #[.string ByteArray.empty, .slice none 0 0]) 2 40 Tryz.underlying22 hi hz0 hz1 hz2 rfl (by decide) _ n xs rfl hown2 ⟨vb, 0, none⟩ 1 vc ys rfl (by rw [hys]) (λj u hj => by rw [Addr.add_lit, Jn]; exact hv j u hj) h1y (by simp only [maxLen]; omega) J0 hbase ?_)
     intro v' w' ho hg
     go_wp2_with fail
     go_ret
     exact ⟨v', rfl, ho, hg⟩
theorem ZAi{w:World}{g j:Nat}{c:Array Value}{e:TypeId}{f:Nat×Nat}{v:Value}(h:w.heap[g]? =some (.cells c e f))(hj:c[j]? =some v):w.cell? ⟨g,j,none⟩=some v:=by unfold World.cell?;simp[h,hj]
theorem ZJ2{w:World}{g:Nat}{c:Array Value}{e:TypeId}{f:Nat×Nat}(h:w.heap[g]? =some (.cells c e f)):w.shape? g=some (e,c.size):=by unfold World.shape?;rw[h]
theorem ZNa{w:World}{g o:Nat}{c:Array Value}{e:TypeId}(h:w.heap[g]? =some (.cells c e (0,0))):w.frozen? ⟨g,o,none⟩=false:=by unfold World.frozen?;simp[h]
set_option maxHeartbeats 4000000 in
set_option maxRecDepth 100000 in
theorem ZVz(w:World)(g cap n i:Nat)(cur:Array Value)(xs ys:List Value)(vb vc:Nat)(cv:Array Value)(ev:TypeId)(hgg:w.heap[g]? =some (.cells cur 72 (0,0)))(hcs:cur.size=cap*2)(htake:cur.toList.take (n*2)=xs)(hi:i<n)(hn:n<=1000000)(hroom:n+1<=cap)(hc63:cap<=9223372036854775807)
  (hvg:w.heap[vb]? =some (.cells cv ev (0,0))) (hvb:vb≠g) (hys:cv.toList.take 2=ys) (hyl:ys.length=2) (h1x: ∀u∈xs,u.oneCell'=true) (h1y: ∀u∈ys,u.oneCell'=true):
  Calls Tryz.prog 132 #[.slice (some ⟨g,0,none⟩) n cap,.int .i64 i,.slice (some ⟨vb,0,none⟩) 1 vc] w λe w'=> ∃cur',e= .returned (.slice (some ⟨g,0,none⟩) (n+1) cap)/\w'=w.drew.setRow g cur'/\cur'.size=cap*2/\cur'.toList.take ((n+1)*2)=YJ xs (i*2) ys:=by
 obtain⟨i0,hi0,hz0,hz1,hz2⟩:=ZJX;have hz3: ¬((1:Int)=0):=by omega
 have hz4: ¬((i:Int)=(n:Int)):=by omega
 have hsz: ∀w,(Go.sizeOf 72).run Tryz.prog w= .ok 2 w:=λw=>by simp[sizeOf,typeInfo,hi0,hz1]
 have hov: ∀o lb cb,(callFunc 169 #[.slice (some ⟨vb,0,none⟩) 1 vc,.slice (some ⟨g,o,none⟩) lb cb]).run Tryz.prog w= .ok (.value (.bool false)) w:=λo lb cb=>by
  rw[run_callFunc_extern Tryz.func169 J3 J3 J3 (e:=Extern.SlicesOverlaps.overlaps #[22,22] #[4]) J3,
   Lib.run_overlaps_apart w 22 4 72 Tryz.underlying22 2 hsz ⟨vb,0,none⟩ ⟨g,o,none⟩ 1 vc lb cb hvb _ _ _ _ (ZJ2 hvg) (ZJ2 hgg) (by rw[hcs];omega) (ZNa hvg) (ZNa hvg)]
  rfl
 have hxl:xs.length=n*2:=by rw[<-htake,Yu,QZ];omega
 have hdl:(xs.drop (i*2)).length=n*2-i*2:=by rw[Jj,hxl]
 have hcx: ∀j v,xs[j]? =some v->cur[j]? =some v:=λj v hj=>by
  rw[<-htake,KH]at hj;split at hj
  .rw[<-ξR];exact hj
  .cases hj
 have hcp1: ∀ty dl dc sl sc,dl=n-i->sl=n+1-i->(Builtin.copy_ #[22,22] ty #[.slice (some ⟨g,(i+1)*2,none⟩) dl dc,.slice (some ⟨g,i*2,none⟩) sl sc]).run Tryz.prog w.drew= .ok (goInt (min (sl:Int) (dl:Int))) (w.drew.setRow g (cur.toList.take ((i+1)*2)++xs.drop (i*2)++cur.toList.drop ((i+1)*2+(xs.drop (i*2)).length)).toArray):=λty dl dc sl sc e1 e2=>
  ZAF (P:=Tryz.prog) w.drew 22 22 ty 72 i0 2 Tryz.underlying22 hi0 hz1 g ((i+1)*2) dl dc cur hgg ⟨g,i*2,none⟩ sl sc (xs.drop (i*2)) (by rw[hdl];omega)
   (λj v hj=>by rw[Addr.add_lit];exact ZAi (w:=w.drew) hgg (hcx _ _ (by rwa [ξX]at hj))) (by rw[hdl,hcs];omega) (λv hv=>h1x v (ZB0 hv))
 obtain⟨cur1,hcur1⟩: ∃cur1,cur1=(cur.toList.take ((i+1)*2)++xs.drop (i*2)++cur.toList.drop ((i+1)*2+(xs.drop (i*2)).length)).toArray:=⟨_,rfl⟩;rw[<-hcur1]at hcp1;have hc1s:cur1.size=cap*2:=by
  rw[hcur1];simp only[ZDF,Zg,Yu,Jj,QZ,hxl,hcs];omega
 have hg1:(w.drew.setRow g cur1).heap[g]? =some (.cells cur1 72 (0,0)):=setRow_heap w.drew g cur _ _ _ hgg;have hv1:(w.drew.setRow g cur1).heap[vb]? =some (.cells cv ev (0,0)):=by rw[setRow_other w.drew g vb _ hvb];exact hvg
 have hcp2: ∀(W:World),(∀k:Nat,W.heap[k]? =(w.drew.setRow g cur1).heap[k]?)-> ∀ty dl dc,dl=n+1-i->(Builtin.copy_ #[22,22] ty #[.slice (some ⟨g,i*2,none⟩) dl dc,.slice (some ⟨vb,0,none⟩) 1 vc]).run Tryz.prog W= .ok (goInt (min ((1:Nat):Int) (dl:Int))) (W.setRow g (cur1.toList.take (i*2)++ys++cur1.toList.drop (i*2+ys.length)).toArray):=λW hW ty dl dc e1=>
  ZAF (P:=Tryz.prog) W 22 22 ty 72 i0 2 Tryz.underlying22 hi0 hz1 g (i*2) dl dc cur1 (by rw[hW];exact hg1) ⟨vb,0,none⟩ 1 vc ys (by rw[hyl];omega)
   (λj v hj=>by rw[Addr.add_lit,Jn];exact ZAi (w:=W) (by rw[hW];exact hv1) (by rw[<-ξR];rw[<-hys,KH]at hj;split at hj;exact hj;cases hj)) (by rw[hyl,hc1s];omega) h1y
 obtain⟨cur2,hcur2⟩: ∃cur2,cur2=(cur1.toList.take (i*2)++ys++cur1.toList.drop (i*2+ys.length)).toArray:=⟨_,rfl⟩;have hfin:cur2.size=cap*2/\cur2.toList.take ((n+1)*2)=YJ xs (i*2) ys:=by
  constructor
  .rw[hcur2];simp only[ZDF,Zg,Yu,Jj,QZ,hyl,hc1s];omega
  .obtain⟨A,hA⟩: ∃A,A=xs.take (i*2):=⟨_,rfl⟩;obtain⟨B,hB⟩: ∃B,B=xs.drop (i*2):=⟨_,rfl⟩;obtain⟨C,hC⟩: ∃C,C=cur.toList.drop (n*2):=⟨_,rfl⟩;have hAl:A.length=i*2:=by rw[hA,Yu];omega
   have hBl:B.length=n*2-i*2:=by rw[hB,hdl]
   have hcur:cur.toList=A++B++C:=by rw[hA,hB,hC,ZDA,<-htake,ZDA]
   have hCl:2<=C.length:=by rw[hC,Jj,QZ];omega
   have h:=ZRs A B C ys 2 hyl hCl;rw[hAl]at h;rw[hcur2,hcur1,<-hB,hcur,show(i+1)*2=i*2+2 by omega];simp only[List.toList_toArray];rw[h];unfold YJ;rw[<-hA,<-hB,ZM3 (by simp only[Zg,hAl,hyl,hBl];omega),YX (by simp only[Zg,hAl,hyl,hBl];omega)]
 rw[<-hcur2]at hcp2;clear hcur2 hcur1;have mixed:Tryz.prog.follows Departure.mixedOrders=true:=by kernel_rfl
 have hw1:IntKind.i64.wrap ((i:Int)+1)=(i:Int)+1:=by rw[IntKind.wrap_i64];omega
 have hb1:(0:Int)<=(i:Int)+1:=by omega
 have hin:i<=n:=by omega
 have htn:((i:Int)+1).toNat=i+1:=by omega
 have hb2: ¬(cap=i+1):=by omega
 have hb3:(i:Int)<=(n:Int)+1:=by omega
 have hb4: ¬(cap=i):=by omega
 go_enter Tryz.func132,Tryz.ntmps132
 go_wp2_with (simp only[hov])
 go_region_law_o (refine step_copy_runI rfl _ _ 22 22 rfl _ _ (by simp[Act.eval,Act.put]) (by simp[Act.eval,Act.put]) (hcp1 _ _ _ _ _ J0 J0) ?_)
 go_wp2_with (at_builtin;refine wpList_copy_runI _ rfl _ _ 22 22 rfl _ _ rfl rfl (hcp2 _ (λ_=>rfl) _ _ _ J0) ?_)
 go_ret
 exact⟨cur2,rfl,ZKX w.drew g _ _,hfin.1,hfin.2⟩
set_option maxHeartbeats 4000000 in
set_option maxRecDepth 100000 in
theorem ZZN(w:World)(g cap n i:Nat)(cur:Array Value)(xs ys:List Value)(vb vc:Nat)(cv:Array Value)(ev:TypeId)(hgg:w.heap[g]? =some (.cells cur 72 (0,0)))(hcs:cur.size=cap*2)(htake:cur.toList.take (n*2)=xs)(hi:i<n)(hn:n<=1000000)(hnc:n<=cap)(hroom:cap<n+1)
  (hvg:w.heap[vb]? =some (.cells cv ev (0,0))) (hys:cv.toList.take 2=ys) (hyl:ys.length=2) (h1x: ∀u∈xs,u.oneCell'=true) (h1y: ∀u∈ys,u.oneCell'=true):
  Calls Tryz.prog 132 #[.slice (some ⟨g,0,none⟩) n cap,.int .i64 i,.slice (some ⟨vb,0,none⟩) 1 vc] w λe w'=> ∃cur' G,e= .returned (.slice (some ⟨w.heap.size,0,none⟩) (n+1) G)/\w'.heap[w.heap.size]? =some (.cells cur' 72 (0,0))/\w.grownBy w' none/\n+1<=G/\G<=maxLen/\cur'.size=G*2/\cur'.toList.take ((n+1)*2)=YJ xs (i*2) ys:=by
 obtain⟨i0,hi0,hz0,hz1,hz2⟩:=ZJX;obtain rfl:n=cap:=by omega
 have hz3: ¬((1:Int)=0):=by omega
 have hz4: ¬((i:Int)=(n:Int)):=by omega
 have hxl:xs.length=n*2:=by rw[<-htake,Yu,QZ];omega
 have hdl:(xs.drop (i*2)).length=n*2-i*2:=by rw[Jj,hxl]
 have hcx: ∀j v,xs[j]? =some v->cur[j]? =some v:=λj v hj=>by
  rw[<-htake,KH]at hj;split at hj
  .rw[<-ξR];exact hj
  .cases hj
 have hgl:g<w.heap.size:=(ξH hgg).1;have hvl:vb<w.heap.size:=(ξH hvg).1;have hold:(Builtin.firstCells i0.size i (.slice (some ⟨g,0,none⟩) i n)).run Tryz.prog w.drew= .ok (xs.take (i*2)).toArray w.drew:=by
  rw[hz1];exact run_firstCells_some w.drew 2 i ⟨g,0,none⟩ i n (xs.take (i*2)) (by rw[Yu];omega) (λj v hj=>by
   rw[Addr.add_lit,Jn];rw[KH]at hj;split at hj
   .exact ZAi (w:=w.drew) hgg (hcx _ _ hj)
   .cases hj)
 obtain⟨G,hG⟩: ∃G,G=grownCap w (n+1) n 72:=⟨_,rfl⟩;obtain⟨z,hz⟩: ∃z,z=(Value.agg #[.string ByteArray.empty,.slice none 0 0]):=⟨_,rfl⟩;have hzs:z.cells.size=2:=by rw[hz];rfl
 obtain⟨ROW,hROW⟩: ∃ROW:Array Value,ROW=(xs.take (i*2)).toArray++Builtin.zeroCells z.cells (n+1-i)++Builtin.zeroCells z.cells (G-(n+1)):=⟨_,rfl⟩;have hrz: ∀ty,(Builtin.append_ #[22,3] ty #[.slice (some ⟨g,0,none⟩) i n,.int .i64 ((n:Int)+1-(i:Int))]).run Tryz.prog w= .ok (.slice (some ⟨w.heap.size,0,none⟩) (n+1) G) (w.drew.alloc (.cells ROW 72)):=λty=>by
  have h:=Lib.run_append_grow_zeros w 22 3 ty 72 i0 z .i64 .i64 Tryz.underlying22 Tryz.underlying3 hi0 (by rw[hz0,hz]) (some ⟨g,0,none⟩) i n (xs.take (i*2)) hold (n+1-i) J0 J0 J0 J0 (by rw[hz2];omega) (by rw[hz2,show i+(n+1-i)=n+1 by omega];exact growslice_fits J0 J0);rw[show i+(n+1-i)=n+1 by omega,<-hG,<-hROW]at h;rw[show((n:Int)+1-(i:Int))=((n+1-i:Nat):Int) by omega];exact h
 have hGn:n+1<=G:=by rw[hG];exact grownCap_ge w _ _ _
 have hGm:G<=maxLen:=by rw[hG];exact grownCap_le_maxLen w (n+1) n _ (by unfold maxLen;omega)
 have hzc: ∀k,(Builtin.zeroCells z.cells k).size=k*2:=λk=>by simp[Builtin.zeroCells,hzs]
 have hRs:ROW.size=G*2:=by
  rw[hROW];simp only[ZbS,ZDF,Yu,hzc,hxl];omega
 obtain⟨W1,hW1⟩: ∃W1,W1=w.drew.alloc (.cells ROW 72):=⟨_,rfl⟩;have hN1:W1.heap[w.heap.size]? =some (.cells ROW 72 (0,0)):=by rw[hW1];exact heap_alloc_new w.drew _
 have hgW:W1.heap[g]? =some (.cells cur 72 (0,0)):=by rw[hW1];exact(heap_alloc_old w.drew _ hgl).trans hgg
 have hvW:W1.heap[vb]? =some (.cells cv ev (0,0)):=by rw[hW1];exact(heap_alloc_old w.drew _ hvl).trans hvg
 have hcp1: ∀(W:World),(∀k:Nat,W.heap[k]? =W1.heap[k]?)-> ∀ty dl dc,dl=n+1-i->(Builtin.copy_ #[22,22] ty #[.slice (some ⟨w.heap.size,i*2,none⟩) dl dc,.slice (some ⟨vb,0,none⟩) 1 vc]).run Tryz.prog W= .ok (goInt (min ((1:Nat):Int) (dl:Int))) (W.setRow w.heap.size (ROW.toList.take (i*2)++ys++ROW.toList.drop (i*2+ys.length)).toArray):=λW hW ty dl dc e1=>
  ZAF (P:=Tryz.prog) W 22 22 ty 72 i0 2 Tryz.underlying22 hi0 hz1 w.heap.size (i*2) dl dc ROW (by rw[hW];exact hN1) ⟨vb,0,none⟩ 1 vc ys (by rw[hyl];omega)
   (λj v hj=>by rw[Addr.add_lit,Jn];exact ZAi (w:=W) (by rw[hW];exact hvW) (by rw[<-ξR];rw[<-hys,KH]at hj;split at hj;exact hj;cases hj)) (by rw[hyl,hRs];omega) h1y
 obtain⟨R1,hR1⟩: ∃R1,R1=(ROW.toList.take (i*2)++ys++ROW.toList.drop (i*2+ys.length)).toArray:=⟨_,rfl⟩;rw[<-hR1]at hcp1;have hR1s:R1.size=G*2:=by
  rw[hR1];simp only[ZDF,Zg,Yu,Jj,QZ,hyl,hRs];omega
 have hN2:(W1.setRow w.heap.size R1).heap[w.heap.size]? =some (.cells R1 72 (0,0)):=setRow_heap W1 _ ROW _ _ _ hN1;have hgW2:(W1.setRow w.heap.size R1).heap[g]? =some (.cells cur 72 (0,0)):=by rw[setRow_other W1 _ g _ J0];exact hgW
 have hcp2: ∀(W:World),(∀k:Nat,W.heap[k]? =(W1.setRow w.heap.size R1).heap[k]?)-> ∀ty dl dc sl sc,dl=n-i->sl=n-i->(Builtin.copy_ #[22,22] ty #[.slice (some ⟨w.heap.size,(i+1)*2,none⟩) dl dc,.slice (some ⟨g,i*2,none⟩) sl sc]).run Tryz.prog W= .ok (goInt (min (sl:Int) (dl:Int))) (W.setRow w.heap.size (R1.toList.take ((i+1)*2)++xs.drop (i*2)++R1.toList.drop ((i+1)*2+(xs.drop (i*2)).length)).toArray):=λW hW ty dl dc sl sc e1 e2=>
  ZAF (P:=Tryz.prog) W 22 22 ty 72 i0 2 Tryz.underlying22 hi0 hz1 w.heap.size ((i+1)*2) dl dc R1 (by rw[hW];exact hN2) ⟨g,i*2,none⟩ sl sc (xs.drop (i*2)) (by rw[hdl];omega)
   (λj v hj=>by rw[Addr.add_lit];exact ZAi (w:=W) (by rw[hW];exact hgW2) (hcx _ _ (by rwa [ξX]at hj))) (by rw[hdl,hR1s];omega) (λv hv=>h1x v (ZB0 hv))
 obtain⟨R2,hR2⟩: ∃R2,R2=(R1.toList.take ((i+1)*2)++xs.drop (i*2)++R1.toList.drop ((i+1)*2+(xs.drop (i*2)).length)).toArray:=⟨_,rfl⟩;rw[<-hR2]at hcp2;have hfin:R2.size=G*2/\R2.toList.take ((n+1)*2)=YJ xs (i*2) ys:=by
  constructor
  .rw[hR2];simp only[ZDF,Zg,Yu,Jj,QZ,hdl,hR1s,hxl];omega
  .obtain⟨Z,hZ⟩: ∃Z,Z=(Builtin.zeroCells z.cells (n+1-i)).toList++(Builtin.zeroCells z.cells (G-(n+1))).toList:=⟨_,rfl⟩;obtain⟨A,hA⟩: ∃A,A=xs.take (i*2):=⟨_,rfl⟩;have hAl:A.length=i*2:=by rw[hA,Yu];omega
   have hROWl:ROW.toList=A++Z:=by rw[hROW,hZ,hA];simp
   have hZl:2<=Z.length:=by rw[hZ,Zg,QZ,hzc];omega
   have h:=ZQQ A Z (xs.drop (i*2)) ys 2 hyl hZl;rw[hAl]at h;rw[hR2,hR1,hROWl,show(i+1)*2=i*2+2 by omega];simp only[List.toList_toArray];rw[h];unfold YJ;rw[<-hA,ZM3 (by simp only[Zg,hAl,hyl,hdl];omega),YX (by simp only[Zg,hAl,hyl,hdl];omega)]
 have hN3:((W1.setRow w.heap.size R1).drew.setRow w.heap.size R2).heap[w.heap.size]? =some (.cells R2 72 (0,0)):=setRow_heap (W1.setRow w.heap.size R1).drew _ R1 _ _ _ hN2;have hgr:w.grownBy ((W1.setRow w.heap.size R1).drew.setRow w.heap.size R2) none:=by
  refine⟨by rw[hW1];rfl,by rw[hW1];rfl,by rw[hW1];rfl,?_,λk hk _=> ?_⟩
  .have e1:((W1.setRow w.heap.size R1).drew.setRow w.heap.size R2).heap.size=W1.heap.size:=by simp[World.setRow,World.drew]
   rw[e1,hW1];show w.heap.size<=(w.heap.push _).size;rw[Array.size_push];omega
  .rw[setRow_other (W1.setRow w.heap.size R1).drew _ k _ J0];show(W1.setRow w.heap.size R1).heap[k]? =_;rw[setRow_other W1 _ k _ J0,hW1];exact heap_alloc_old w.drew _ hk
 rw[<-hW1]at hrz;have HN3:=Lib.hid hN3;clear hR2 hR1 hROW hRs hG hW1 hN3;have mixed:Tryz.prog.follows Departure.mixedOrders=true:=by kernel_rfl
 have hw1:IntKind.i64.wrap ((i:Int)+1)=(i:Int)+1:=by rw[IntKind.wrap_i64];omega
 have hb1:(0:Int)<=(i:Int)+1:=by omega
 have hin:i<=n:=by omega
 have htn:((i:Int)+1).toNat=i+1:=by omega
 have hb3:(i:Int)<=(n:Int):=by omega
 have hGi: ¬(G=i):=by omega
 have hGim: ¬(G=i+1):=by omega
 have hci: ¬(n=i):=by omega
 have hzz:(n:Int)<(n:Int)+1:=by omega
 have hG63:G<=9223372036854775807:=by unfold maxLen at hGm;omega
 go_enter Tryz.func132,Tryz.ntmps132
 go_wp2_with (first
  |(at_builtin;refine Lib.wpList_append_run _ rfl _ _ _ _ rfl _ _ rfl rfl _ _ (hrz _) ?_)
  |(at_builtin;refine wpList_copy_runI _ rfl _ _ 22 22 rfl _ _ rfl rfl (hcp1 _ (λ_=>rfl) _ _ _ J0) ?_))
 go_region_law_o (refine step_copy_runI rfl _ _ 22 22 rfl (.slice (some ⟨w.heap.size,(i+1)*2,none⟩) (n-i) (G-(i+1))) (.slice (some ⟨g,i*2,none⟩) (n-i) (n-i)) (by simp[Act.eval,Act.put]) (by simp[Act.eval,Act.put]) (hcp2 (W1.setRow w.heap.size R1).drew (λ_=>rfl) _ _ _ _ _ rfl rfl) ?_)
 go_wp2
 go_ret
 exact⟨R2,G,rfl,HN3.out,hgr,hGn,hGm,hfin.1,hfin.2⟩
theorem ZbE(w:World)(base:Nat)(v0:Value)(n i:Nat)(xs ys:List Value)(vb vc:Nat)(cv:Array Value)(ev:TypeId)(hown:w.ownsRow base 72 2 v0 n xs)(hi:i<=n)(hn:n<=1000000)(hvg:w.heap[vb]? =some (.cells cv ev (0,0)))(hvb:v0.ownBlock≠some vb)(hys:cv.toList.take 2=ys)(hyl:ys.length=2)
  (h1x: ∀u∈xs,u.oneCell'=true) (h1y: ∀u∈ys,u.oneCell'=true) (hbase:base<=w.heap.size):
  Calls Tryz.prog 132 #[v0,.int .i64 i,.slice (some ⟨vb,0,none⟩) 1 vc] w λe w'=> ∃v',e= .returned v'/\w'.ownsRow base 72 2 v' (n+1) (YJ xs (i*2) ys)/\Grow w w' v0 v':=by
 have hxl:=hown.1;by_cases hin:i=n
 .subst hin;have e:YJ xs (i*2) ys=xs++ys:=by unfold YJ;rw[YX J0,ZBl J0,Kj]
  rw[e];exact Zbt w base v0 i xs ys vb vc hown hn hyl (λj u hj=>ZAi hvg (by rw[<-ξR];rw[<-hys,KH]at hj;split at hj;exact hj;cases hj)) h1y hbase
 .rcases hown.2 with⟨_,rfl⟩|⟨g,cap,cur,rfl,hbg,hgg,hnc,hcm,hcs,htake⟩
  .omega
  have hlen:(YJ xs (i*2) ys).length=(n+1)*2:=by unfold YJ;simp only[Zg,Yu,Jj,hxl,hyl];omega
  by_cases hroom:n+1<=cap
  .refine(ZVz w g cap n i cur xs ys vb vc cv ev hgg hcs htake J0 hn hroom (by unfold maxLen at hcm;omega) hvg (λe=>hvb (by rw[e];rfl)) hys hyl h1x h1y).mono ?_;rintro e w' ⟨cur',rfl,rfl,h1,h2⟩;refine⟨_,rfl,⟨hlen,.inr ⟨g,cap,cur',rfl,hbg,setRow_heap w.drew g cur _ _ _ hgg,hroom,hcm,h1,h2⟩⟩,⟨⟨rfl,rfl,rfl,by show w.drew.heap.size<=_;simp,λk _ hk=>setRow_other w.drew g k _ (λq=>hk (by rw[q];rfl))⟩,.inl rfl⟩⟩
  .refine(ZZN w g cap n i cur xs ys vb vc cv ev hgg hcs htake J0 hn hnc J0 hvg hys hyl h1x h1y).mono ?_;rintro e w' ⟨cur',G,rfl,h0,hg,h1,h2,h3,h4⟩;exact⟨_,rfl,⟨hlen,.inr ⟨w.heap.size,G,cur',rfl,hbase,h0,h1,h2,h3,h4⟩⟩,⟨⟨hg.os,hg.tape,hg.output,hg.size,λk hk _=>hg.block k hk J1⟩,.inr ⟨_,rfl,Zm _⟩⟩⟩
theorem ZcH:(Tryz.prog.info? 9).map (λi=>(i.zero,i.size,i.bytes))=some (some (.string ByteArray.empty),1,16):=by kernel_rfl
theorem ZLg: ∃i0,Tryz.prog.info? 9=some i0/\i0.zero=some (.string ByteArray.empty)/\i0.size=1/\i0.bytes=16:=by
 have h:=ZcH;cases hq:Tryz.prog.info? 9 with
 |none=>rw[hq]at h;cases h
 |some i0=>rw[hq]at h;simp at h;exact⟨i0,rfl,h.1,h.2.1,h.2.2⟩
set_option maxHeartbeats 4000000 in
set_option maxRecDepth 100000 in
theorem ZbV(w : World)(base : Nat)(v0 : Value)(n : Nat)(xs ys : List Value)(vb vc : Nat)(hown : w.ownsRow base 9 1 v0 n xs)(hn : n <= 1000000)(hys : ys.length = 1)(hv : ∀ j u, ys[j]? = some u -> w.cell? ⟨vb, j, none⟩ = some u)
    (h1y : ∀ u ∈ ys, u.oneCell' = true) (hbase : base <= w.heap.size) :
    Calls Tryz.prog 61 #[v0, .int .i64 n, .slice (some ⟨vb, 0, none⟩) 1 vc] w λe w' => ∃ v', e = .returned v' /\ w'.ownsRow base 9 1 v' (n + 1) (xs ++ ys) /\ Grow w w' v0 v' := by
  obtain ⟨i0, hi, hz0, hz1, hz2⟩ := ZLg;have hown2 := hown;rcases hown.2 with ⟨rfl, rfl⟩ | ⟨g, cap, cur, rfl, hbg, hgg, hnc, hcm, hcs, htake⟩
  · go_enter Tryz.func61, Tryz.ntmps61
    go_wp2_with (at_builtin; refine ZDl _ rfl _ _ 38 rfl base 9 i0 (.string ByteArray.empty) 1 16 Tryz.underlying38 hi hz0 hz1 hz2 rfl (by decide) _ 0 xs rfl hown2 ⟨vb, 0, none⟩ 1 vc ys rfl (by rw [hys]) (λj u hj => by rw [Addr.add_lit, Jn]; exact hv j u hj) h1y (by simp only [maxLen]; omega) J0 hbase ?_)
    intro v' w' ho hg
    go_wp2_with fail
    go_ret
    exact ⟨v', rfl, ho, hg⟩
  · have hz3 : ¬ ((1 : Int) = 0) := by omega
    by_cases hcn : n = cap
    all_goals first | subst hcn | skip
    all_goals
     go_enter Tryz.func61, Tryz.ntmps61
     go_wp2_with (at_builtin; refine ZDl _ rfl _ _ 38 rfl base 9 i0 (.string ByteArray.empty) 1 16 Tryz.underlying38 hi hz0 hz1 hz2 rfl (by decide) _ n xs rfl hown2 ⟨vb, 0, none⟩ 1 vc ys rfl (by rw [hys]) (λj u hj => by rw [Addr.add_lit, Jn]; exact hv j u hj) h1y (by simp only [maxLen]; omega) J0 hbase ?_)
     intro v' w' ho hg
     go_wp2_with fail
     go_ret
     exact ⟨v', rfl, ho, hg⟩
set_option maxHeartbeats 4000000 in
set_option maxRecDepth 100000 in
theorem ZWJ(w:World)(g cap n i:Nat)(cur:Array Value)(xs ys:List Value)(vb vc:Nat)(cv:Array Value)(ev:TypeId)(hgg:w.heap[g]? =some (.cells cur 9 (0,0)))(hcs:cur.size=cap)(htake:cur.toList.take (n)=xs)(hi:i<n)(hn:n<=1000000)(hroom:n+1<=cap)(hc63:cap<=9223372036854775807)
  (hvg:w.heap[vb]? =some (.cells cv ev (0,0))) (hvb:vb≠g) (hys:cv.toList.take 1=ys) (hyl:ys.length=1) (h1x: ∀u∈xs,u.oneCell'=true) (h1y: ∀u∈ys,u.oneCell'=true):
  Calls Tryz.prog 61 #[.slice (some ⟨g,0,none⟩) n cap,.int .i64 i,.slice (some ⟨vb,0,none⟩) 1 vc] w λe w'=> ∃cur',e= .returned (.slice (some ⟨g,0,none⟩) (n+1) cap)/\w'=w.drew.setRow g cur'/\cur'.size=cap/\cur'.toList.take ((n+1))=YJ xs (i) ys:=by
 obtain⟨i0,hi0,hz0,hz1,hz2⟩:=ZLg;have hz3: ¬((1:Int)=0):=by omega
 have hz4: ¬((i:Int)=(n:Int)):=by omega
 have hsz: ∀w,(Go.sizeOf 9).run Tryz.prog w= .ok 1 w:=λw=>by simp[sizeOf,typeInfo,hi0,hz1]
 have hov: ∀o lb cb,(callFunc 102 #[.slice (some ⟨vb,0,none⟩) 1 vc,.slice (some ⟨g,o,none⟩) lb cb]).run Tryz.prog w= .ok (.value (.bool false)) w:=λo lb cb=>by
  rw[run_callFunc_extern Tryz.func102 J3 J3 J3 (e:=Extern.SlicesOverlaps.overlaps #[38,38] #[4]) J3,
   Lib.run_overlaps_apart w 38 4 9 Tryz.underlying38 1 hsz ⟨vb,0,none⟩ ⟨g,o,none⟩ 1 vc lb cb hvb _ _ _ _ (ZJ2 hvg) (ZJ2 hgg) (by rw[hcs];omega) (ZNa hvg) (ZNa hvg)]
  rfl
 have hxl:xs.length=n:=by rw[<-htake,Yu,QZ];omega
 have hdl:(xs.drop (i)).length=n-i:=by rw[Jj,hxl]
 have hcx: ∀j v,xs[j]? =some v->cur[j]? =some v:=λj v hj=>by
  rw[<-htake,KH]at hj;split at hj
  .rw[<-ξR];exact hj
  .cases hj
 have hcp1: ∀ty dl dc sl sc,dl=n-i->sl=n+1-i->(Builtin.copy_ #[38,38] ty #[.slice (some ⟨g,(i+1),none⟩) dl dc,.slice (some ⟨g,i,none⟩) sl sc]).run Tryz.prog w.drew= .ok (goInt (min (sl:Int) (dl:Int))) (w.drew.setRow g (cur.toList.take ((i+1))++xs.drop (i)++cur.toList.drop ((i+1)+(xs.drop (i)).length)).toArray):=λty dl dc sl sc e1 e2=>
  ZAF (P:=Tryz.prog) w.drew 38 38 ty 9 i0 1 Tryz.underlying38 hi0 hz1 g ((i+1)) dl dc cur hgg ⟨g,i,none⟩ sl sc (xs.drop (i)) (by rw[hdl];omega)
   (λj v hj=>by rw[Addr.add_lit];exact ZAi (w:=w.drew) hgg (hcx _ _ (by rwa [ξX]at hj))) (by rw[hdl,hcs];omega) (λv hv=>h1x v (ZB0 hv))
 obtain⟨cur1,hcur1⟩: ∃cur1,cur1=(cur.toList.take ((i+1))++xs.drop (i)++cur.toList.drop ((i+1)+(xs.drop (i)).length)).toArray:=⟨_,rfl⟩;rw[<-hcur1]at hcp1;have hc1s:cur1.size=cap:=by
  rw[hcur1];simp only[ZDF,Zg,Yu,Jj,QZ,hxl,hcs];omega
 have hg1:(w.drew.setRow g cur1).heap[g]? =some (.cells cur1 9 (0,0)):=setRow_heap w.drew g cur _ _ _ hgg;have hv1:(w.drew.setRow g cur1).heap[vb]? =some (.cells cv ev (0,0)):=by rw[setRow_other w.drew g vb _ hvb];exact hvg
 have hcp2: ∀(W:World),(∀k:Nat,W.heap[k]? =(w.drew.setRow g cur1).heap[k]?)-> ∀ty dl dc,dl=n+1-i->(Builtin.copy_ #[38,38] ty #[.slice (some ⟨g,i,none⟩) dl dc,.slice (some ⟨vb,0,none⟩) 1 vc]).run Tryz.prog W= .ok (goInt (min ((1:Nat):Int) (dl:Int))) (W.setRow g (cur1.toList.take (i)++ys++cur1.toList.drop (i+ys.length)).toArray):=λW hW ty dl dc e1=>
  ZAF (P:=Tryz.prog) W 38 38 ty 9 i0 1 Tryz.underlying38 hi0 hz1 g (i) dl dc cur1 (by rw[hW];exact hg1) ⟨vb,0,none⟩ 1 vc ys (by rw[hyl];omega)
   (λj v hj=>by rw[Addr.add_lit,Jn];exact ZAi (w:=W) (by rw[hW];exact hv1) (by rw[<-ξR];rw[<-hys,KH]at hj;split at hj;exact hj;cases hj)) (by rw[hyl,hc1s];omega) h1y
 obtain⟨cur2,hcur2⟩: ∃cur2,cur2=(cur1.toList.take (i)++ys++cur1.toList.drop (i+ys.length)).toArray:=⟨_,rfl⟩;have hfin:cur2.size=cap/\cur2.toList.take ((n+1))=YJ xs (i) ys:=by
  constructor
  .rw[hcur2];simp only[ZDF,Zg,Yu,Jj,QZ,hyl,hc1s];omega
  .obtain⟨A,hA⟩: ∃A,A=xs.take (i):=⟨_,rfl⟩;obtain⟨B,hB⟩: ∃B,B=xs.drop (i):=⟨_,rfl⟩;obtain⟨C,hC⟩: ∃C,C=cur.toList.drop (n):=⟨_,rfl⟩;have hAl:A.length=i:=by rw[hA,Yu];omega
   have hBl:B.length=n-i:=by rw[hB,hdl]
   have hcur:cur.toList=A++B++C:=by rw[hA,hB,hC,ZDA,<-htake,ZDA]
   have hCl:1<=C.length:=by rw[hC,Jj,QZ];omega
   have h:=ZRs A B C ys 1 hyl hCl;rw[hAl]at h;rw[hcur2,hcur1,<-hB,hcur,show(i+1)=i+1 from rfl];simp only[List.toList_toArray];rw[h];unfold YJ;rw[<-hA,<-hB,ZM3 (by simp only[Zg,hAl,hyl,hBl];omega),YX (by simp only[Zg,hAl,hyl,hBl];omega)]
 rw[<-hcur2]at hcp2;clear hcur2 hcur1;have mixed:Tryz.prog.follows Departure.mixedOrders=true:=by kernel_rfl
 have hw1:IntKind.i64.wrap ((i:Int)+1)=(i:Int)+1:=by rw[IntKind.wrap_i64];omega
 have hb1:(0:Int)<=(i:Int)+1:=by omega
 have hin:i<=n:=by omega
 have htn:((i:Int)+1).toNat=i+1:=by omega
 have hb2: ¬(cap=i+1):=by omega
 have hb3:(i:Int)<=(n:Int)+1:=by omega
 have hb4: ¬(cap=i):=by omega
 go_enter Tryz.func61,Tryz.ntmps61
 go_wp2_with (simp only[hov])
 go_region_law_o (refine step_copy_runI rfl _ _ 38 38 rfl _ _ (by simp[Act.eval,Act.put]) (by simp[Act.eval,Act.put]) (hcp1 _ _ _ _ _ J0 J0) ?_)
 go_wp2_with (at_builtin;refine wpList_copy_runI _ rfl _ _ 38 38 rfl _ _ rfl rfl (hcp2 _ (λ_=>rfl) _ _ _ J0) ?_)
 go_ret
 exact⟨cur2,rfl,ZKX w.drew g _ _,hfin.1,hfin.2⟩
set_option maxHeartbeats 4000000 in
set_option maxRecDepth 100000 in
theorem ZYO(w:World)(g cap n i:Nat)(cur:Array Value)(xs ys:List Value)(vb vc:Nat)(cv:Array Value)(ev:TypeId)(hgg:w.heap[g]? =some (.cells cur 9 (0,0)))(hcs:cur.size=cap)(htake:cur.toList.take (n)=xs)(hi:i<n)(hn:n<=1000000)(hnc:n<=cap)(hroom:cap<n+1)
  (hvg:w.heap[vb]? =some (.cells cv ev (0,0))) (hys:cv.toList.take 1=ys) (hyl:ys.length=1) (h1x: ∀u∈xs,u.oneCell'=true) (h1y: ∀u∈ys,u.oneCell'=true):
  Calls Tryz.prog 61 #[.slice (some ⟨g,0,none⟩) n cap,.int .i64 i,.slice (some ⟨vb,0,none⟩) 1 vc] w λe w'=> ∃cur' G,e= .returned (.slice (some ⟨w.heap.size,0,none⟩) (n+1) G)/\w'.heap[w.heap.size]? =some (.cells cur' 9 (0,0))/\w.grownBy w' none/\n+1<=G/\G<=maxLen/\cur'.size=G/\cur'.toList.take ((n+1))=YJ xs (i) ys:=by
 obtain⟨i0,hi0,hz0,hz1,hz2⟩:=ZLg;obtain rfl:n=cap:=by omega
 have hz3: ¬((1:Int)=0):=by omega
 have hz4: ¬((i:Int)=(n:Int)):=by omega
 have hxl:xs.length=n:=by rw[<-htake,Yu,QZ];omega
 have hdl:(xs.drop (i)).length=n-i:=by rw[Jj,hxl]
 have hcx: ∀j v,xs[j]? =some v->cur[j]? =some v:=λj v hj=>by
  rw[<-htake,KH]at hj;split at hj
  .rw[<-ξR];exact hj
  .cases hj
 have hgl:g<w.heap.size:=(ξH hgg).1;have hvl:vb<w.heap.size:=(ξH hvg).1;have hold:(Builtin.firstCells i0.size i (.slice (some ⟨g,0,none⟩) i n)).run Tryz.prog w.drew= .ok (xs.take (i)).toArray w.drew:=by
  rw[hz1];exact run_firstCells_some w.drew 1 i ⟨g,0,none⟩ i n (xs.take (i)) (by rw[Yu];omega) (λj v hj=>by
   rw[Addr.add_lit,Jn];rw[KH]at hj;split at hj
   .exact ZAi (w:=w.drew) hgg (hcx _ _ hj)
   .cases hj)
 obtain⟨G,hG⟩: ∃G,G=grownCap w (n+1) n 9:=⟨_,rfl⟩;obtain⟨z,hz⟩: ∃z,z=(Value.string ByteArray.empty):=⟨_,rfl⟩;have hzs:z.cells.size=1:=by rw[hz];rfl
 obtain⟨ROW,hROW⟩: ∃ROW:Array Value,ROW=(xs.take (i)).toArray++Builtin.zeroCells z.cells (n+1-i)++Builtin.zeroCells z.cells (G-(n+1)):=⟨_,rfl⟩;have hrz: ∀ty,(Builtin.append_ #[38,3] ty #[.slice (some ⟨g,0,none⟩) i n,.int .i64 ((n:Int)+1-(i:Int))]).run Tryz.prog w= .ok (.slice (some ⟨w.heap.size,0,none⟩) (n+1) G) (w.drew.alloc (.cells ROW 9)):=λty=>by
  have h:=Lib.run_append_grow_zeros w 38 3 ty 9 i0 z .i64 .i64 Tryz.underlying38 Tryz.underlying3 hi0 (by rw[hz0,hz]) (some ⟨g,0,none⟩) i n (xs.take (i)) hold (n+1-i) J0 J0 J0 J0 (by rw[hz2];omega) (by rw[hz2,show i+(n+1-i)=n+1 by omega];exact growslice_fits J0 J0);rw[show i+(n+1-i)=n+1 by omega,<-hG,<-hROW]at h;rw[show((n:Int)+1-(i:Int))=((n+1-i:Nat):Int) by omega];exact h
 have hGn:n+1<=G:=by rw[hG];exact grownCap_ge w _ _ _
 have hGm:G<=maxLen:=by rw[hG];exact grownCap_le_maxLen w (n+1) n _ (by unfold maxLen;omega)
 have hzc: ∀k,(Builtin.zeroCells z.cells k).size=k:=λk=>by simp[Builtin.zeroCells,hzs]
 have hRs:ROW.size=G:=by
  rw[hROW];simp only[ZbS,ZDF,Yu,hzc,hxl];omega
 obtain⟨W1,hW1⟩: ∃W1,W1=w.drew.alloc (.cells ROW 9):=⟨_,rfl⟩;have hN1:W1.heap[w.heap.size]? =some (.cells ROW 9 (0,0)):=by rw[hW1];exact heap_alloc_new w.drew _
 have hgW:W1.heap[g]? =some (.cells cur 9 (0,0)):=by rw[hW1];exact(heap_alloc_old w.drew _ hgl).trans hgg
 have hvW:W1.heap[vb]? =some (.cells cv ev (0,0)):=by rw[hW1];exact(heap_alloc_old w.drew _ hvl).trans hvg
 have hcp1: ∀(W:World),(∀k:Nat,W.heap[k]? =W1.heap[k]?)-> ∀ty dl dc,dl=n+1-i->(Builtin.copy_ #[38,38] ty #[.slice (some ⟨w.heap.size,i,none⟩) dl dc,.slice (some ⟨vb,0,none⟩) 1 vc]).run Tryz.prog W= .ok (goInt (min ((1:Nat):Int) (dl:Int))) (W.setRow w.heap.size (ROW.toList.take (i)++ys++ROW.toList.drop (i+ys.length)).toArray):=λW hW ty dl dc e1=>
  ZAF (P:=Tryz.prog) W 38 38 ty 9 i0 1 Tryz.underlying38 hi0 hz1 w.heap.size (i) dl dc ROW (by rw[hW];exact hN1) ⟨vb,0,none⟩ 1 vc ys (by rw[hyl];omega)
   (λj v hj=>by rw[Addr.add_lit,Jn];exact ZAi (w:=W) (by rw[hW];exact hvW) (by rw[<-ξR];rw[<-hys,KH]at hj;split at hj;exact hj;cases hj)) (by rw[hyl,hRs];omega) h1y
 obtain⟨R1,hR1⟩: ∃R1,R1=(ROW.toList.take (i)++ys++ROW.toList.drop (i+ys.length)).toArray:=⟨_,rfl⟩;rw[<-hR1]at hcp1;have hR1s:R1.size=G:=by
  rw[hR1];simp only[ZDF,Zg,Yu,Jj,QZ,hyl,hRs];omega
 have hN2:(W1.setRow w.heap.size R1).heap[w.heap.size]? =some (.cells R1 9 (0,0)):=setRow_heap W1 _ ROW _ _ _ hN1;have hgW2:(W1.setRow w.heap.size R1).heap[g]? =some (.cells cur 9 (0,0)):=by rw[setRow_other W1 _ g _ J0];exact hgW
 have hcp2: ∀(W:World),(∀k:Nat,W.heap[k]? =(W1.setRow w.heap.size R1).heap[k]?)-> ∀ty dl dc sl sc,dl=n-i->sl=n-i->(Builtin.copy_ #[38,38] ty #[.slice (some ⟨w.heap.size,(i+1),none⟩) dl dc,.slice (some ⟨g,i,none⟩) sl sc]).run Tryz.prog W= .ok (goInt (min (sl:Int) (dl:Int))) (W.setRow w.heap.size (R1.toList.take ((i+1))++xs.drop (i)++R1.toList.drop ((i+1)+(xs.drop (i)).length)).toArray):=λW hW ty dl dc sl sc e1 e2=>
  ZAF (P:=Tryz.prog) W 38 38 ty 9 i0 1 Tryz.underlying38 hi0 hz1 w.heap.size ((i+1)) dl dc R1 (by rw[hW];exact hN2) ⟨g,i,none⟩ sl sc (xs.drop (i)) (by rw[hdl];omega)
   (λj v hj=>by rw[Addr.add_lit];exact ZAi (w:=W) (by rw[hW];exact hgW2) (hcx _ _ (by rwa [ξX]at hj))) (by rw[hdl,hR1s];omega) (λv hv=>h1x v (ZB0 hv))
 obtain⟨R2,hR2⟩: ∃R2,R2=(R1.toList.take ((i+1))++xs.drop (i)++R1.toList.drop ((i+1)+(xs.drop (i)).length)).toArray:=⟨_,rfl⟩;rw[<-hR2]at hcp2;have hfin:R2.size=G/\R2.toList.take ((n+1))=YJ xs (i) ys:=by
  constructor
  .rw[hR2];simp only[ZDF,Zg,Yu,Jj,QZ,hdl,hR1s,hxl];omega
  .obtain⟨Z,hZ⟩: ∃Z,Z=(Builtin.zeroCells z.cells (n+1-i)).toList++(Builtin.zeroCells z.cells (G-(n+1))).toList:=⟨_,rfl⟩;obtain⟨A,hA⟩: ∃A,A=xs.take (i):=⟨_,rfl⟩;have hAl:A.length=i:=by rw[hA,Yu];omega
   have hROWl:ROW.toList=A++Z:=by rw[hROW,hZ,hA];simp
   have hZl:1<=Z.length:=by rw[hZ,Zg,QZ,hzc];omega
   have h:=ZQQ A Z (xs.drop (i)) ys 1 hyl hZl;rw[hAl]at h;rw[hR2,hR1,hROWl,show(i+1)=i+1 from rfl];simp only[List.toList_toArray];rw[h];unfold YJ;rw[<-hA,ZM3 (by simp only[Zg,hAl,hyl,hdl];omega),YX (by simp only[Zg,hAl,hyl,hdl];omega)]
 have hN3:((W1.setRow w.heap.size R1).drew.setRow w.heap.size R2).heap[w.heap.size]? =some (.cells R2 9 (0,0)):=setRow_heap (W1.setRow w.heap.size R1).drew _ R1 _ _ _ hN2;have hgr:w.grownBy ((W1.setRow w.heap.size R1).drew.setRow w.heap.size R2) none:=by
  refine⟨by rw[hW1];rfl,by rw[hW1];rfl,by rw[hW1];rfl,?_,λk hk _=> ?_⟩
  .have e1:((W1.setRow w.heap.size R1).drew.setRow w.heap.size R2).heap.size=W1.heap.size:=by simp[World.setRow,World.drew]
   rw[e1,hW1];show w.heap.size<=(w.heap.push _).size;rw[Array.size_push];omega
  .rw[setRow_other (W1.setRow w.heap.size R1).drew _ k _ J0];show(W1.setRow w.heap.size R1).heap[k]? =_;rw[setRow_other W1 _ k _ J0,hW1];exact heap_alloc_old w.drew _ hk
 rw[<-hW1]at hrz;have HN3:=Lib.hid hN3;clear hR2 hR1 hROW hRs hG hW1 hN3;have mixed:Tryz.prog.follows Departure.mixedOrders=true:=by kernel_rfl
 have hw1:IntKind.i64.wrap ((i:Int)+1)=(i:Int)+1:=by rw[IntKind.wrap_i64];omega
 have hb1:(0:Int)<=(i:Int)+1:=by omega
 have hin:i<=n:=by omega
 have htn:((i:Int)+1).toNat=i+1:=by omega
 have hb3:(i:Int)<=(n:Int):=by omega
 have hGi: ¬(G=i):=by omega
 have hGim: ¬(G=i+1):=by omega
 have hci: ¬(n=i):=by omega
 have hzz:(n:Int)<(n:Int)+1:=by omega
 have hG63:G<=9223372036854775807:=by unfold maxLen at hGm;omega
 go_enter Tryz.func61,Tryz.ntmps61
 go_wp2_with (first
  |(at_builtin;refine Lib.wpList_append_run _ rfl _ _ _ _ rfl _ _ rfl rfl _ _ (hrz _) ?_)
  |(at_builtin;refine wpList_copy_runI _ rfl _ _ 38 38 rfl _ _ rfl rfl (hcp1 _ (λ_=>rfl) _ _ _ J0) ?_))
 go_region_law_o (refine step_copy_runI rfl _ _ 38 38 rfl (.slice (some ⟨w.heap.size,(i+1),none⟩) (n-i) (G-(i+1))) (.slice (some ⟨g,i,none⟩) (n-i) (n-i)) (by simp[Act.eval,Act.put]) (by simp[Act.eval,Act.put]) (hcp2 (W1.setRow w.heap.size R1).drew (λ_=>rfl) _ _ _ _ _ rfl rfl) ?_)
 go_wp2
 go_ret
 exact⟨R2,G,rfl,HN3.out,hgr,hGn,hGm,hfin.1,hfin.2⟩
theorem ZbR(w:World)(base:Nat)(v0:Value)(n i:Nat)(xs ys:List Value)(vb vc:Nat)(cv:Array Value)(ev:TypeId)(hown:w.ownsRow base 9 1 v0 n xs)(hi:i<=n)(hn:n<=1000000)(hvg:w.heap[vb]? =some (.cells cv ev (0,0)))(hvb:v0.ownBlock≠some vb)(hys:cv.toList.take 1=ys)(hyl:ys.length=1)
  (h1x: ∀u∈xs,u.oneCell'=true) (h1y: ∀u∈ys,u.oneCell'=true) (hbase:base<=w.heap.size):
  Calls Tryz.prog 61 #[v0,.int .i64 i,.slice (some ⟨vb,0,none⟩) 1 vc] w λe w'=> ∃v',e= .returned v'/\w'.ownsRow base 9 1 v' (n+1) (YJ xs (i) ys)/\Grow w w' v0 v':=by
 have hxl:=hown.1;rw[ZCB]at hxl;by_cases hin:i=n
 .subst hin;have e:YJ xs (i) ys=xs++ys:=by unfold YJ;rw[YX J0,ZBl J0,Kj]
  rw[e];exact ZbV w base v0 i xs ys vb vc hown hn hyl (λj u hj=>ZAi hvg (by rw[<-ξR];rw[<-hys,KH]at hj;split at hj;exact hj;cases hj)) h1y hbase
 .rcases hown.2 with⟨_,rfl⟩|⟨g,cap,cur,rfl,hbg,hgg,hnc,hcm,hcs,htake⟩
  .omega
  rw[ZCB]at hcs htake;have hlen:(YJ xs (i) ys).length=(n+1):=by unfold YJ;simp only[Zg,Yu,Jj,hxl,hyl];omega
  by_cases hroom:n+1<=cap
  .refine(ZWJ w g cap n i cur xs ys vb vc cv ev hgg hcs htake J0 hn hroom (by unfold maxLen at hcm;omega) hvg (λe=>hvb (by rw[e];rfl)) hys hyl h1x h1y).mono ?_;rintro e w' ⟨cur',rfl,rfl,h1,h2⟩;refine⟨_,rfl,⟨by rw[ZCB];exact hlen,.inr ⟨g,cap,cur',rfl,hbg,setRow_heap w.drew g cur _ _ _ hgg,hroom,hcm,by rw[ZCB];exact h1,by rw[ZCB];exact h2⟩⟩,⟨⟨rfl,rfl,rfl,by show w.drew.heap.size<=_;simp,λk _ hk=>setRow_other w.drew g k _ (λq=>hk (by rw[q];rfl))⟩,.inl rfl⟩⟩
  .refine(ZYO w g cap n i cur xs ys vb vc cv ev hgg hcs htake J0 hn hnc J0 hvg hys hyl h1x h1y).mono ?_;rintro e w' ⟨cur',G,rfl,h0,hg,h1,h2,h3,h4⟩;exact⟨_,rfl,⟨by rw[ZCB];exact hlen,.inr ⟨w.heap.size,G,cur',rfl,hbase,h0,h1,h2,by rw[ZCB];exact h3,by rw[ZCB];exact h4⟩⟩,⟨⟨hg.os,hg.tape,hg.output,hg.size,λk hk _=>hg.block k hk J1⟩,.inr ⟨_,rfl,Zm _⟩⟩⟩
end Go.Proofs.YtpjfdjcejamebaaGreatDoor
end
section
namespace Go.Ab
open Go.RowKit Go.Bo
theorem Zbx{sz i:Nat}{rs:J6}{r:J9}{xs ys:List Value}{w:World}{st:Nat->Nat->Prop}(hi:i<=rs.length)(hxl:xs.length=rs.length*sz)(hyl:ys.length=1*sz)(hall: ∀r∈rs,r.length=sz)
  (h1: ∀(i:Nat) (r:J9) (j:Nat) (x:X) (v:Value),rs[i]? =some r->r[j]? =some x->xs[i*sz+j]? =some v->VX w st x v)
  (hr:r.length=sz) (h2: ∀(j:Nat) (x:X) (v:Value),r[j]? =some x->ys[j]? =some v->VX w st x v)
  (k:Nat) (q:J9) (j:Nat) (x:X) (v:Value) (hk:(YJ rs i [r])[k]? =some q) (hx:q[j]? =some x) (hj:j<sz) (hv:(YJ xs (i*sz) ys)[k*sz+j]? =some v):VX w st x v:=by
 have hil:i*sz<=rs.length*sz:=Kn _ hi;have htl:(xs.take (i*sz)).length=(rs.take i).length*sz:=by rw[Yu,Yu,ZOx hi,ZOx J0]
 have hA: ∀(a:Nat) (r:J9) (j:Nat) (x:X) (v:Value),(rs.take i)[a]? =some r->r[j]? =some x->(xs.take (i*sz))[a*sz+j]? =some v->VX w st x v:=λa r j x v e1 e2 e3=>by
  rw[KH]at e1 e3;split at e1
  .split at e3
   .exact h1 a r j x v e1 e2 e3
   .cases e3
  .cases e1
 have hB: ∀(a:Nat) (q:J9) (j:Nat) (x:X),[r][a]? =some q->q[j]? =some x-> ∃u,ys[a*sz+j]? =some u/\VX w st x u:=λa q j x e1 e2=>by
  cases a with
  |succ a=>simp at e1
  |zero=>
   simp at e1;subst e1;have hjl:j<ys.length:=by rw[hyl,ZNF,<-hr];exact(Zb e2).1
   refine⟨ys[j],by rw[ZKl,Jn];exact YC hjl,h2 j x _ e2 (YC hjl)⟩
 have hAB: ∀(a:Nat) (q:J9) (j:Nat) (x:X) (v:Value),(rs.take i++ [r])[a]? =some q->q[j]? =some x->(xs.take (i*sz)++ys)[a*sz+j]? =some v->VX w st x v:=λa q j x v e1 e2 e3=>by
  refine ZDS htl hA hB a q j x v e1 e2 ?_ e3;have hq:q.length=sz:=by
   rcases Km.1 (Yj e1)with h|h
   .exact hall q (ZBL h)
   .rw[ξZ]at h;rw[h,hr]
  rw[<-hq];exact(Zb e2).1
 have hC: ∀(a:Nat) (q:J9) (j:Nat) (x:X),(rs.drop i)[a]? =some q->q[j]? =some x-> ∃u,(xs.drop (i*sz))[a*sz+j]? =some u/\VX w st x u:=λa q j x e1 e2=>by
  rw[ξX]at e1;have hq:=hall q (Yj e1);have hjl:j<sz:=by rw[<-hq];exact(Zb e2).1
  have hal:i+a<rs.length:=(Zb e1).1;have hm:(i+a+1)*sz<=rs.length*sz:=Kn _ J0;rw[Jm,ZNF]at hm;have hlt:(i+a)*sz+j<xs.length:=by omega
  refine⟨xs[(i+a)*sz+j],?_,h1 (i+a) q j x _ e1 e2 (YC hlt)⟩;rw[ξX,show i*sz+(a*sz+j)=(i+a)*sz+j by rw[Jm];omega];exact YC hlt
 exact ZDS (by simp only[Zg,htl,hyl,ZKx,Jm]) hAB hC k q j x v hk hx hj hv
theorem ZKk{α:Type}(l:List α)(i:Nat)(y:List α)(h:i<=l.length):(YJ l i y).length=l.length+y.length:=by
 unfold YJ;simp only[Zg,Yu,Jj];omega
theorem ZN.ins{P:Program}{f:FuncId}{e sz:Nat}(rs:J6)(r:J9)(i:Nat)(hi:i<=rs.length)(hn:rs.length<=1000000)
  (hraw: ∀(w:World) (v0:Value) (n i:Nat) (xs ys:List Value) (vb vc:Nat) (cv:Array Value) (ev:TypeId),w.ownsRow 0 e sz v0 n xs->i<=n->n<=1000000->w.heap[vb]? =some (.cells cv ev (0,0))->v0.ownBlock≠some vb->cv.toList.take sz=ys->ys.length=sz->(∀u∈xs,u.oneCell'=true)->(∀u∈ys,u.oneCell'=true)->
   Calls P f #[v0,.int .i64 i,.slice (some ⟨vb,0,none⟩) 1 vc] w λx w'=> ∃v',x= .returned v'/\w'.ownsRow 0 e sz v' (n+1) (YJ xs (i*sz) ys)/\Grow w w' v0 v'):
  ZN P f [.ref 0 rs.length 0 rs.length,.x (.int .i64 i),.ref 1 1 0 1] [.rows false e sz rs,.rows false e sz [r]] (.ref 0 (rs.length+1) 0 (rs.length+1)) [.rows false e sz (YJ rs i [r]),.rows false e sz [r]]:=by
 intro c E vs R hvl;obtain⟨hsz,hv⟩:=hvl;obtain⟨v0,v1,v2,rfl⟩: ∃v0 v1 v2,vs= #[v0,v1,v2]:=by
  obtain⟨vl⟩:=vs
  match vl,hsz with
  | [a,b,c],_=>exact⟨a,b,c,rfl⟩
 have h0:=hv 0 _ v0 rfl rfl;have h1:=hv 1 _ v1 rfl rfl;have h2:=hv 2 _ v2 rfl rfl;clear hv hsz;obtain rfl:v1= .int .i64 i:=by cases h1 with|x h=>cases h;rfl
 clear h1;obtain⟨os,hos⟩: ∃os,os= [Ob.rows false e sz rs,Ob.rows false e sz [r]]:=⟨_,rfl⟩;have ho:os[0]? =some (Ob.rows false e sz rs):=by rw[hos];rfl
 have ho2:os[1]? =some (Ob.rows false e sz [r]):=by rw[hos];rfl
 have hset:os.set 0 (.rows false e sz (YJ rs i [r]))= [.rows false e sz (YJ rs i [r]),.rows false e sz [r]]:=by rw[hos];rfl
 rw[<-hset];rw[<-hos]at R h0 h2;obtain⟨p,hp,hok⟩:=R.at ho;obtain⟨q,hq,hok2⟩:=R.at ho2;have hlt:0<os.length:=by rw[hos];simp
 have hat: ∀ {id:Nat} {rs:J6} {v:Value} {p:Nat×Value},V E os (.ref id rs.length 0 rs.length) v->os[id]? =some (.rows false e sz rs)->E.ob[id]? =some p->v=p.2:=λhx ho hp=>by
  obtain⟨h1,h2⟩:=hx.ref_inv.at ho rfl;obtain⟨h3,b,a0,cap,a',cap',h4,h5,h6,h7,h8,h9⟩:=h2 rfl;rw[hp]at h4;obtain⟨h10,h11⟩:=h8 rfl;rw[h10,h11]at h5;rw[h5,ZCX h4]
 obtain rfl:=hat h0 ho hp;obtain rfl:=hat (rs:= [r]) h2 ho2 hq;obtain⟨xs,k1,k2,k3⟩:=hok;obtain⟨ys,l1,l2,l3⟩:=hok2;have hown:=k1.owns;have hrl:r.length=sz:=l2 r J1;rcases l1.owns.2 with⟨_,h⟩|⟨vb,vcap,cv,hq2,_,hvg,hvn,hvm,hvs,hvt⟩
 .simp at h
 have hyl:ys.length=1*sz:=l1.1;have hx1: ∀u∈xs,u.oneCell'=true:=λu hu=>by
  obtain⟨m,hm⟩:=ZE7.1 hu;have hml:=(Zb hm).1;rw[k1.1]at hml;have hsz0:0<sz:=by
   rcases ZPk sz with h|h
   .subst h;simp at hml
   .exact h
  have hmd:m/sz<rs.length:=(Zcd hsz0).2 hml;have hrr:=YC hmd;have hrl2:=k2 _ (YM hmd);have hmm:m % sz<(rs[m/sz]).length:=by rw[hrl2];exact Nat.mod_lt _ hsz0
  exact(k3 (m/sz) _ (m % sz) _ u hrr (YC hmm) (by rw[ZJ9,ZVU];exact hm)).one
 have hy1: ∀u∈ys,u.oneCell'=true:=λu hu=>by
  obtain⟨m,hm⟩:=ZE7.1 hu;have hml:=(Zb hm).1;have hmm:m<r.length:=by rw[hrl];omega
  exact(l3 0 r m _ u J1 (YC hmm) (by rw[ZKl,Jn];exact hm)).one
 have hdis:p.2.ownBlock≠some vb:=λh=>by
  have:=R.dis 0 1 _ _ p q vb ho hp ho2 hq h (by show q.2.ownBlock=some vb;rw[hq2];rfl);omega
 have hraw2:=hraw E.w p.2 rs.length i xs ys vb vcap cv e hown hi hn hvg hdis (by rw[<-hvt];simp) J0 hx1 hy1;rw[hq2];refine hraw2.mono ?_;rintro x w' ⟨v',rfl,ho',hG⟩;have hil:=ZKk rs i [r] hi;have hall: ∀q∈YJ rs i [r],q.length=sz:=λq hq=>by
  unfold YJ at hq;rcases Km.1 hq with h|h
  .rcases Km.1 h with h|h
   .exact k2 q (ZBL h)
   .rw[ξZ]at h;rw[h,hrl]
  .exact k2 q (ZB0 h)
 have hrow:QG w' false e sz (YJ rs i [r]).length v' (YJ xs (i*sz) ys):=by rw[hil];exact QG.of_owns ho' false
 obtain⟨R',ev⟩:=R.set ho hp w' (.rows false e sz (YJ rs i [r])) (p.1,v') (Kept.of_grown hG.grown) (λb hb=>by
  have hb':v'.ownBlock=some b:=hb;rcases hG.own with h|⟨g,h,h2⟩
  .left;show p.2.ownBlock=some b;rw[<-h];exact hb'
  .right;rw[h]at hb';cases hb';exact .inl h2) (λsz1 n1 h=>by
   simp[Ob.sl?]at h;obtain⟨rfl,rfl⟩:=h;exact⟨(YJ rs i [r]).length,rfl,.inr (by rw[hil];simp)⟩) (λds h=>by cases h) (λev=>by
   refine⟨YJ xs (i*sz) ys,hrow,hall,λk q j x v e1 e2 e3=> ?_⟩;refine VX.mono (w:=E.w) (st:=E.st) (λb o hb=>ev.st b o hb) ?_;exact Zbx hi k1.1 hyl k2 k3 hrl (λj x v e1 e2=>l3 0 r j x v J1 e1 (by rw[ZKl,Jn];exact e2)) k q j x v e1 e2 (by rw[<-hall q (Yj e1)];exact(Zb e2).1) e3)
 refine⟨v',_,rfl,rfl,R',by rw[<-hos];exact ev,?_⟩;have hob':(E.ob.set 0 (p.1,v'))[0]? =some (p.1,v'):=by simp[R.len,hlt]
 rw[show rs.length+1=(YJ rs i [r]).length by rw[hil];rfl];refine .ref ⟨.rows false e sz (YJ rs i [r]),sz,(YJ rs i [r]).length,by rw[ZE8 hlt],rfl,?_⟩ ?_
 .refine⟨Zm _,λ_=>⟨J0,p.1,?_⟩⟩;rcases hrow.2 with⟨h3,h4⟩|⟨g,cap,cells,fr,h3,h4,h5,h6,h7⟩
  .rw[hil]at h4;simp at h4
  .subst h3;exact⟨_,cap,_,cap,hob',rfl,h5,h6,λ_=>⟨rfl,rfl⟩,λ_ ad h=>(by cases h;simp),λh=>(by cases h),λad h=>(by cases h;rfl)⟩
 .rcases hrow.2 with⟨h3,h4⟩|⟨g,cap,cells,fr,h3,h4,h5,h6,h7⟩<;>subst h3<;>rfl
end Go.Ab
namespace Go.Proofs.YtpjfdjcejamebaaGreatDoor
open Go.RowKit Go.Bo Go.Ab
theorem Zgl(rs:J6)(r:J9)(i:Nat)(hi:i<=rs.length)(hn:rs.length<=1000000):ZN Tryz.prog 132 [.ref 0 rs.length 0 rs.length,.x (.int .i64 i),.ref 1 1 0 1] [.rows false 72 2 rs,.rows false 72 2 [r]] (.ref 0 (rs.length+1) 0 (rs.length+1)) [.rows false 72 2 (YJ rs i [r]),.rows false 72 2 [r]]:=
 ZN.ins rs r i hi hn λw v0 n i xs ys vb vc cv ev h1 h2 h3 h4 h5 h6 h7 h8 h9=>ZbE w 0 v0 n i xs ys vb vc cv ev h1 h2 h3 h4 h5 h6 h7 h8 h9 (KE _)
def QF(c:UInt8):UInt8:=if 65<=c.toNat/\c.toNat<=90 then UInt8.ofNat (c.toNat+32)else c
theorem ZIt{c:UInt8}(h:65<=c.toNat/\c.toNat<=90):((QF c).toNat:Int)=(c.toNat:Int)-65+97:=by
 unfold QF;rw[if_pos h];simp;omega
def ZH(s:List UInt8):List UInt8:=s.map QF
def ZBJ(s:List UInt8)(i:Nat):List UInt8:=(s.take i).map QF++s.drop i
theorem ZJU(s:List UInt8)(i:Nat):(ZBJ s i).length=s.length:=by simp[ZBJ];omega
theorem ZZQ(s:List UInt8):ZBJ s 0=s:=by simp[ZBJ]
theorem Zai(s:List UInt8)(i:Nat)(h:s.length<=i):ZBJ s i=ZH s:=by simp[ZBJ,ZH,YX h,ZBl h]
theorem Zcc(s:List UInt8)(i:Nat)(h:i<s.length):(ZBJ s i)[i]'(by rw[ZJU];exact h)=s[i]:=by
 simp[ZBJ,List.getElem_append,ZOx (Nat.le_of_lt h)]
theorem Zaj(s:List UInt8)(i:Nat)(h:i<s.length)(c:UInt8)(hc:c=QF s[i]):(ZBJ s i).set i c=ZBJ s (i+1):=by
 subst hc;unfold ZBJ;rw[Jg h,ZEY h,ZEy _ _ (by simp;omega)];have hm:i-((s.take i).map QF).length=0:=by simp;omega
 rw[hm,ZDM,Ji,Yp];rfl
theorem Zao(s:List UInt8)(i:Nat)(h:i<s.length):((ZBJ s i).map Zl)[i]? =some [X.int .u8 s[i].toNat]:=by
 have h2:i<(ZBJ s i).length:=by rw[ZJU];exact h
 rw[YG,YC h2,Zcc s i h];rfl
theorem ZZz(s:List UInt8)(i:Nat)(h:i<s.length)(hc:65<=s[i].toNat/\s[i].toNat<=90):((ZBJ s i).map Zl).set i [X.int .u8 (IntKind.u8.wrap (IntKind.u8.wrap ((s[i].toNat:Int)-65)+97))]=(ZBJ s (i+1)).map Zl:=by
 have e1:IntKind.u8.wrap ((s[i].toNat:Int)-65)=(s[i].toNat:Int)-65:=IntWalk.u8_in _ J0;have e2:IntKind.u8.wrap ((s[i].toNat:Int)-65+97)=((QF s[i]).toNat:Int):=by rw[IntWalk.u8_in _ J0,ZIt hc]
 rw[e1,e2,<-Zaj s i h _ rfl,ZMl];rfl
theorem ZZp(s:List UInt8)(i:Nat)(h:i<s.length)(hc:QF s[i]=s[i]):ZBJ s i=ZBJ s (i+1):=by
 unfold ZBJ;rw[Jg h,Ji,Yp,ZEY h];simp[hc]
theorem ZEx{c:UInt8}(h: ¬(65<=c.toNat/\c.toNat<=90)):QF c=c:=if_neg h
theorem ZPZ(s:List UInt8)(hl:s.length<=140737488355328):ZC Tryz.prog 37 [.x (.str s)] (.x (.str (ZH s))):=by
 refine ZI.pure (fC 37 true ?_) rfl;intro C0 E0;have uu:=JW @ZJU @Ys @Kw;have tT:=(ZD:SsOk Tryz.prog ZO);refine nz ?_;refine rg tT [0] ?_;refine rg tT [3] ?_;refine rg tT [3,8,9,10] ?_;refine WI.loop (λφ os=> ∃(i:Nat),φ= [(3,.ref 0 s.length 0 s.length),(8,.ref 0 s.length 0 s.length),(9,.x (.int .i64 s.length)),(10,.x (.int .i64 i))]/\os= [.rows true 5 1 ((ZBJ s i).map Zl)]/\i<=s.length) (ZK s.length 10) ?_ (λφ os hI=> ?_)
 .exact⟨0,rfl,by rw[ZZQ],J0⟩
 .obtain⟨i,rfl,rfl,hi⟩:=hI;refine nz ?_;refine rg tT [3,8,9,10,11] ?_;refine cd (λh0=> ?_) (λh0=> ?_)
  .have hi4:i<s.length:=by omega
   have uu:=YZ uu (Zao s i hi4);have hb8:s[i].toNat<256:=ZD0 _;refine rg tT [3,4,5,8,9,10] ?_;refine rg tT [3,4,5,8,9,10,20] ?_;refine cd (λh1=> ?_) (λh1=> ?_)
   .have hcs:65<=s[i].toNat/\s[i].toNat<=90:=by omega
    have uu:=YZ uu (ZZz s i hi4 hcs);refine rg tT [3,8,9,10] ?_;refine rg tT [3,8,9,10] ?_;exact⟨⟨i+1,by first|rfl|simp,by first|rfl|rw[<-hset],J0⟩,by simp[ZK,Ab.get,D.val,ZE];omega⟩
   .have hcs: ¬(65<=s[i].toNat/\s[i].toNat<=90):=by omega
    have hset:=ZZp s i hi4 (ZEx hcs);refine rg tT [3,8,9,10] ?_;exact⟨⟨i+1,by first|rfl|simp,by first|rfl|rw[<-hset],J0⟩,by simp[ZK,Ab.get,D.val,ZE];omega⟩
  .have e8:((ZBJ s i).map Zl).take s.length=(ZH s).map Zl:=by rw[YX (by simp[ZJU]),Zai s i J0]
   have uu:=YZ uu e8;refine rg tT [2] ?_;refine lf ?_
   first|rfl|exact⟨rfl,rfl⟩|trivial
def ZB1:J8->J5
 | [.x (.str s)]=>some (decide (s.length<=1000000),.x (.str (ZH s)))
 |_=>none
theorem ZQD: ∀args r,ZB1 args=some (true,r)->ZC Tryz.prog 37 args r:=by
 intro args r h;unfold ZB1 at h;split at h
 .rename_i s;simp only[Ze,Za,ZT,Zc,true_and]at h;obtain⟨h1,rfl⟩:=h;exact(ZPZ s J0)
 .cases h
theorem ZDs(s:List UInt8):(ZH s).length=s.length:=by simp[ZH]
theorem ZXw(s:List UInt8)(i:Nat)(h:i<s.length):ZH (s.take (i+1))=ZH (s.take i)++ [QF (s.getD i 0)]:=by
 rw[show s.getD i 0=s[i] by simp[h]];unfold ZH;rw[Jg h,Ji];rfl
theorem YI(l:List UInt8)(c:UInt8):(l++ [c]).map Zl=l.map Zl++ [[X.int .u8 c.toNat]]:=by rw[Ji];rfl
theorem ZYA{c:UInt8}(h:65<=c.toNat/\c.toNat<=90):IntKind.u8.wrap ((c.toNat:Int)+32)=((QF c).toNat:Int):=by
 have:=ZD0 c;rw[IntWalk.u8_in _ J0,ZIt h];omega
theorem ZNL(s:List UInt8)(hl:s.length<=140737488355328):ZC Tryz.prog 32 [.x (.str s)] (.x (.str (ZH s))):=by
 refine ZI.pure (fC 32 true ?_) rfl;intro C0 E0;have uu:=YZ @Ys @Kw;have tT:=(ZD:SsOk Tryz.prog ZO);refine nz ?_;refine WI.regB tT [0] ?_;refine oS ?_;refine oN ?_;refine nz ?_;refine WI.regB tT [0,3] ?_;refine oS ?_;refine oN ?_;refine nz ?_;refine WI.regB tT [0,3,4] ?_;refine oS ?_;refine oN ?_;refine nz ?_;refine WI.ownA 3 5 1 ?_;refine WI.loop (λφ os=> ∃(i:Nat),φ= [(0,.x (.str s)),(3,.ref 0 (ZH (s.take i)).length 0 (ZH (s.take i)).length),(4,.x (.int .i64 i))]/\os= [.rows false 5 1 ((ZH (s.take i)).map Zl)]/\i<=s.length) (ZK s.length 4) ?_ (λφ os hI=> ?_)
 .exact⟨0,rfl,rfl,J0⟩
 .obtain⟨i,rfl,rfl,hi⟩:=hI;refine nz ?_;refine WI.regB tT [0,3,4,9] ?_
  iterate 2 refine oS ?_
  iterate 2 refine oG (hok:=by first|exact se|(exact ZL J0)|(rw[YX J1];exact Ys _)|exact sd) ?_
  refine oN ?_;refine nz ?_;refine cd (λh0=> ?_) (λh0=> ?_)
  .have hi4:i<s.length:=by omega
   have hlt:(ZH (s.take i)).length+1<=140737488355328:=by rw[ZDs,Yu];omega
   have hst:=ZXw s i hi4;have hb8:(s.getD i 0).toNat<256:=ZD0 _;refine WI.regB tT [0,3,4,5] ?_
   iterate 2 refine oS ?_
   refine oG (hok:=by first|exact se|(exact ZL J0)|(rw[YX J1];exact Ys _)|exact sd) ?_;refine oS ?_;refine oN ?_;refine nz ?_;refine WI.regB tT [0,3,4,5,20] ?_;refine oS ?_;refine oG (hok:=by first|exact se|(exact ZL J0)|(rw[YX J1];exact Ys _)|exact sd) ?_;refine oS ?_
   iterate 3 refine oG (hok:=by first|exact se|(exact ZL J0)|(rw[YX J1];exact Ys _)|exact sd) ?_
   refine oN ?_;refine nz ?_;refine cd (λh1=> ?_) (λh1=> ?_)
   .have hcs:65<=(s.getD i 0).toNat/\(s.getD i 0).toNat<=90:=by omega
    refine WI.regB tT [0,3,4,5] ?_;refine oS ?_;refine oG (hok:=by first|exact se|(exact ZL J0)|(rw[YX J1];exact Ys _)|exact sd) ?_;refine oS ?_;refine oN ?_;refine nz ?_;refine WI.regB tT [0,3,4] ?_
    iterate 2 refine oS ?_
    iterate 2 refine oG (hok:=by first|exact se|(exact ZL J0)|(rw[YX J1];exact Ys _)|exact sd) ?_
    refine oS ?_;refine oN ?_;refine nz ?_;refine WI.post ?_;refine WI.regB tT [0,3,4] ?_;refine oS ?_;refine oG (hok:=by first|exact se|(exact ZL J0)|(rw[YX J1];exact Ys _)|exact sd) ?_;refine oS ?_;refine oP ?_;refine Je [0] ?_;refine KM ?_;refine nz ?_;exact⟨⟨i+1,by rw[hst,Zg];rfl,by rw[hst,YI];first|rfl|rw[ZEx hcs]|rw[ZYA hcs],J0⟩,by simp[ZK,Ab.get,D.val,ZE];omega⟩
   .have hcs: ¬(65<=(s.getD i 0).toNat/\(s.getD i 0).toNat<=90):=by omega
    refine WI.regB tT [0,3,4] ?_
    iterate 2 refine oS ?_
    iterate 2 refine oG (hok:=by first|exact se|(exact ZL J0)|(rw[YX J1];exact Ys _)|exact sd) ?_
    refine oS ?_;refine oN ?_;refine nz ?_;refine WI.post ?_;refine WI.regB tT [0,3,4] ?_;refine oS ?_;refine oG (hok:=by first|exact se|(exact ZL J0)|(rw[YX J1];exact Ys _)|exact sd) ?_;refine oS ?_;refine oP ?_;refine Je [0] ?_;refine KM ?_;refine nz ?_;exact⟨⟨i+1,by rw[hst,Zg];rfl,by rw[hst,YI];first|rfl|rw[ZEx hcs]|rw[ZYA hcs],J0⟩,by simp[ZK,Ab.get,D.val,ZE];omega⟩
  .have e8:((ZH (s.take i)).map Zl).take (ZH (s.take i)).length=(ZH s).map Zl:=by rw[YX J1,YX J0]
   have uu:=YZ uu e8;refine WI.regB tT [2] ?_;refine oS ?_;refine oG (hok:=by first|exact se|(exact ZL J0)|(rw[YX J1];exact Ys _)|exact sd) ?_;refine oS ?_;refine oN ?_;refine nz ?_;refine lf ?_
   first|rfl|exact⟨rfl,rfl⟩|trivial
def ZFJ:J8->J5
 | [.x (.str s)]=>some (decide (s.length<=1000000),.x (.str (ZH s)))
 |_=>none
theorem ZOT: ∀args r,ZFJ args=some (true,r)->ZC Tryz.prog 32 args r:=by
 intro args r h;unfold ZFJ at h;split at h
 .rename_i s;simp only[Ze,Za,ZT,Zc,true_and]at h;obtain⟨h1,rfl⟩:=h;exact(ZNL s J0)
 .cases h
abbrev Tx:=List UInt8
end Go.Proofs.YtpjfdjcejamebaaGreatDoor
end
section
namespace Go.Proofs
open Go.Shelf Go.RowKit Go.Lib
set_option maxHeartbeats 1000000 in
theorem Any1.strings_Split_one{P:Program}{ρ:Ren}(L:Lays.n146 P ρ)(hi9:(P.info? (ρ.t 9)).map (λi=>(i.zero,i.size,i.bytes))=some (some (.string ByteArray.empty),1,16))(s:ByteArray)(b:UInt8)(w:World)(hs:s.size<4294967281):
  Calls P (ρ.f 146) #[.string s,.string ⟨#[b]⟩] w λe w'=>
   e= .returned (.slice (some ⟨w.heap.size,0,none⟩) (Lib.countB s ⟨#[b]⟩+1) (Lib.countB s ⟨#[b]⟩+1))/\w'=w.alloc (.cells ((Lib.splitB ⟨#[b]⟩ 0 (Lib.countB s ⟨#[b]⟩) s).map Value.string).toArray (ρ.t 9)):=by
 have h1:1<=(⟨#[b]⟩:ByteArray).size:=Zm _;have hle:=Lib.countB_le ⟨#[b]⟩ h1 s.size s (Zm _);have hlen:=Lib.splitB_all ⟨#[b]⟩ h1 0 _ s rfl;have hI: ∀(x:ByteArray) (c:Array Value),x.size<=s.size->Calls P (ρ.f 143) #[.string x,.string ⟨#[b]⟩] (w.alloc (.cells c (ρ.t 9))) λe w'=>e= .returned (.int .i64 (Lib.indexB x ⟨#[b]⟩))/\w'=w.alloc (.cells c (ρ.t 9)):=λx c hx=>by
  refine(Any.strings_Index_one {L with} x b _).mono λe w' ⟨he,hw⟩=>⟨?_,hw⟩
  rw[he,Lib.indexB,Lib.index_one]
 have hC:Calls P (ρ.f 138) #[.string s,.string ⟨#[b]⟩] w λe w'=>e= .returned (.int .i64 (Lib.countB s ⟨#[b]⟩))/\w'=w:=by
  refine(Any.strings_Count_one {L with} s b w).mono λe w' ⟨he,hw⟩=>⟨?_,hw⟩
  rw[he];show _=Ending.returned (Value.int .i64 ((Lib.count s.data.toList [b]:Nat):Int));rw[Lib.count_one];rfl
 have c:=Any.strings_genSplit_core {L with} hi9 s ⟨#[b]⟩ 0 (-1) (Lib.countB s ⟨#[b]⟩+1) w hs h1 (KE _) hI hC (by decide) (by decide) (by rw[if_pos (by decide)];omega);rw[Nat.add_sub_cancel,hlen]at c;have e2:Lib.cellsOf (Lib.splitB ⟨#[b]⟩ 0 (Lib.countB s ⟨#[b]⟩) s) (Lib.countB s ⟨#[b]⟩+1)=((Lib.splitB ⟨#[b]⟩ 0 (Lib.countB s ⟨#[b]⟩) s).map Value.string).toArray:=by rw[<-hlen];exact Lib.cellsOf_full _
 rw[e2]at c;have t3:=L.t3;have t9:=L.t9;have t31:=L.t31;have a3:=L.a3;have a9:=L.a9;have a31:=L.a31;have z3:=L.z3;have v3:=L.v3;have z9:=L.z9;have v9:=L.v9;have z31:=L.z31;have v31:=L.v31;have e221: ∀args w,(callFunc (ρ.f 221) args).run P w= .ok (.enter (ρ.f 221) args) w:=enters_of L.f221 J3 rfl
 go_enter L.f146,Body.n146_ntmps ρ
 go_wp2_with (go_at_fn (ρ.f 221);refine c.mono ?_;rintro e w' ⟨rfl,hw⟩;rw[hw])
 go_ret
 exact⟨rfl,rfl⟩
end Go.Proofs
namespace Go.Proofs.YtpjfdjcejamebaaGreatDoor
open Go.RowKit Go.Bo Go.Ab
def Ki(c:UInt8):List UInt8->List (List UInt8)
 | []=> [[]]
 |b::l=>if b=c then []::Ki c l else match Ki c l with
  |x::r=>(b::x)::r
  | []=> [[b]]
theorem ZgK(c:UInt8): ∀s,Ki c s≠ []
 | []=>by simp[Ki]
 |b::l=>by unfold Ki;split;simp;split<;>simp
theorem ZfF(c b:UInt8)(l:List UInt8)(h:b≠c): ∀k,Lib.splitK [c] 0 k (b::l)=match Lib.splitK [c] 0 k l with
  |x::r=>(b::x)::r
  | []=> [[b]]
 |0=>rfl
 |k+1=>by
  have hp: [c].isPrefixOf (b::l)=false:=by simp[List.isPrefixOf];exactλe=>h e.symm
  simp only[Lib.splitK,Lib.index,hp,JP,if_false];by_cases hi:(Lib.index l [c]== -1)=true
  .simp[hi]
  .have hn:=Lib.index_ge l [c];simp only[hi,JP,if_false];simp at hi;have h1:(Lib.index l [c]+1== -1)=false:=by simp;omega
   obtain⟨n,hn⟩: ∃n:Nat,Lib.index l [c]=n:=⟨(Lib.index l [c]).toNat,J0⟩;simp[hn,h1];intro h;omega
theorem ZZ4(c:UInt8): ∀s,Lib.splitK [c] 0 (Lib.count s [c]) s=Ki c s
 | []=>by
  have:Lib.count [] [c]=0:=by rw[Lib.count_one];rfl
  rw[this];rfl
 |b::l=>by
  have ih:=ZZ4 c l;by_cases h:b=c
  .subst h;rw[Lib.count_cons_eq,ZPe];have hp: [b].isPrefixOf (b::l)=true:=by simp[List.isPrefixOf]
   simp only[Lib.splitK,Lib.index,hp,if_true,Ki];simp[ih]
  .rw[Lib.count_cons_ne _ _ _ h,ZfF _ _ _ h,ih,Ki,if_neg h]
theorem ZfL(s:List UInt8)(c:UInt8)(h:s.length<=1000000):ZC Tryz.prog 137 [.x (.str s),.x (.str [c])] (.x (.sl (rows ZA (Ki c s)))):=by
 intro w st vs hst hvl;obtain⟨hsz,hv⟩:=hvl;obtain⟨v0,v1,rfl⟩: ∃v0 v1,vs= #[v0,v1]:=by
  obtain⟨vl⟩:=vs
  match vl,hsz with
  | [a,b],_=>exact⟨a,b,rfl⟩
 have h0:=hv 0 _ v0 rfl rfl;have h1:=hv 1 _ v1 rfl rfl;clear hv hsz;cases h0 with
 |x h0=>
 cases h1 with
 |x h1=>
 cases h1 with
 |str _=>
 cases h0 with
 |str _=>
 have hlen:=Lib.splitB_all ⟨#[c]⟩ (Zm _) 0 _ (ZZ s) rfl;have hD:(Lib.splitB ⟨#[c]⟩ 0 (Lib.countB (ZZ s) ⟨#[c]⟩) (ZZ s)).map (·.data.toList)=Ki c s:=by
  rw[Lib.splitB_data];have e:(ZZ s).data.toList=s:=by simp[ZZ]
  show Lib.splitK [c] 0 (Lib.count (ZZ s).data.toList [c]) (ZZ s).data.toList=_;rw[e];exact ZZ4 c s
 have hle:=Lib.countB_le ⟨#[c]⟩ (Zm _) (ZZ s).size (ZZ s) (Zm _);have hbs:(ZZ s).size=s.length:=by simp[ZZ,ByteArray.size]
 refine(Any1.strings_Split_one Tryz.lays146 J3 (ZZ s) c w J0).mono ?_;generalize Lib.splitB ⟨#[c]⟩ 0 (Lib.countB (ZZ s) ⟨#[c]⟩) (ZZ s)=ps at hlen hD|-;generalize Lib.countB (ZZ s) ⟨#[c]⟩=k at hlen hle|-;rintro e w' ⟨rfl,rfl⟩;refine⟨_,λb o=>st b o\/(b=w.heap.size/\o<k+1),rfl,?_,λ_ _ h=> .inl h,?_,?_⟩
 .exact KL w _
 .rintro b o (h|⟨rfl,h⟩)
  .exact .inl h
  .exact .inr ⟨Zm _,J1⟩
 .rw[<-hD];refine .x (.sl _ _ _ _ 1 (λi _=> .string (ps[i]?.getD default)) ?_ (Zm _) ?_ ?_ ?_ (λh=>by cases h) (λ_ ad h=>by cases h;rfl) ?_)
  .rw[Zh,Yb];exact hlen
  .show k+1<=maxLen;simp only[maxLen];omega
  .intro r hr;simp only[rows,YT]at hr;obtain⟨x,_,rfl⟩:=hr;rfl
  .intro i j hi hj;have hj0:j=0:=by omega
   subst hj0;refine⟨_,_,rfl,.inr ⟨rfl,J0⟩,?_⟩;have hip:i<ps.length:=by omega
   rw[show 0+i*1+0=i by omega,World.cell?_alloc_at _ _ _ _ rfl];simp only[List.getElem?_toArray,YG,YC hip,Yl,ξW]
  .intro i j r x hr hx;simp only[rows,YG,Option.map_map,ξm]at hr;obtain⟨y,hy,rfl⟩:=hr;simp only[Function.comp,ZA,RC.enc]at hx;rcases j with _|j
   .simp at hx;subst hx;simp only[hy,ξW];have:y=ZZ y.data.toList:=by simp[ZZ]
    conv=>rhs;rw[this]
    exact .str _
   .simp at hx
theorem ZSq:Go.Ab.Enters Tryz.prog 137:=Go.Proofs.enters_of Tryz.lays146.f146 J3 rfl
theorem ZSf(l:List (List UInt8)):(l.map ZZ).map (·.data.toList)=l:=by
 rw[Js]
 conv=>rhs;rw[<-ZO0 l]
 exact ZBF λx _=>by simp[ZZ]
theorem Zgh(l:List (List UInt8))(sep:List UInt8)(h:(Lib.join l sep).length<=140737488355328)(hl:l.length<=140737488355328):ZC Tryz.prog 97 [.x (.sl (rows ZA l)),.x (.str sep)] (.x (.str (Lib.join l sep))):=by
 intro w st vs hst hvl;obtain⟨hsz,hv⟩:=hvl;obtain⟨v0,v1,rfl⟩: ∃v0 v1,vs= #[v0,v1]:=by
  obtain⟨vl⟩:=vs
  match vl,hsz with
  | [a,b],_=>exact⟨a,b,rfl⟩
 have h0:=hv 0 _ v0 rfl rfl;have h1:=hv 1 _ v1 rfl rfl;clear hv hsz;cases h0 with
 |x h0=>
 cases h1 with
 |x h1=>
 cases h1 with
 |str _=>
 cases h0 with
 |sl _ a n c sz val hn hc hm hsz hcell hnil hsp hval=>
  rw[Zh]at hn;subst hn
  match l,h,hl,hc,hsz,hcell,hval with
  | [],_,_,_,_,_,_=>
   refine(Tryz.strings_Join_none a c (ZZ sep) w).mono ?_;rintro e w' ⟨rfl,rfl⟩;exact⟨_,st,rfl,Kept.refl _ _,λ_ _ h=>h,λ_ _ h=> .inl h,.x (.str [])⟩
  |x::r,h,hl,hc,hsz,hcell,hval=>
   obtain rfl:1=sz:=hsz [.str x] (by simp[rows,ZA]);obtain⟨b,off,rfl,hs0,_⟩:=hcell 0 0 J1 J0;have hcells: ∀(j:Nat) y,((x::r).map ZZ)[j]? =some y->w.cell? ⟨b,off+j,none⟩=some (.string y):=by
    intro j y hy;rw[YG]at hy;obtain⟨z,hz,rfl⟩:=Zd hy;have hj:j<(x::r).length:=(Zb hz).1;obtain⟨b',off',e,_,hw⟩:=hcell j 0 hj J0;simp only[Ze,Addr.mk.injEq]at e;obtain⟨rfl,rfl,_⟩:=e;have hx:=hval j 0 [.str z] (.str z) (by simp only[rows,YG,hz];rfl) rfl;rw[show off+j=off+j*1+0 by omega,hw];generalize val j 0=u at hx;cases hx with
    |str _=>rfl
   have hlen:(Lib.join (((x::r).map ZZ).map (·.data.toList)) (ZZ sep).data.toList).length<=140737488355328:=by
    rw[ZSf];simpa[ZZ]using h
   have hc':((x::r).map ZZ).length<=c:=by rw[Yb];exact hc
   have:=Tryz.strings_Join b off c ((x::r).map ZZ) (ZZ sep) w hcells (hst _ _ hs0) (by rw[Yb];exact hl) hc' hlen;rw[Yb,ZSf]at this;refine this.mono ?_;rintro e w' ⟨rfl,hb⟩;refine⟨_,st,rfl,Kept.of_none (Qd.grown hb none),λ_ _ h=>h,λ_ _ h=> .inl h,?_⟩;have:(ZZ sep).data.toList=sep:=by simp[ZZ]
   rw[this];exact .x (.str _)
theorem ZFT:Go.Ab.Enters Tryz.prog 97:=Go.Proofs.enters_of Tryz.lays156.f156 J3 rfl
theorem ZR0(s:List UInt8)(i:Nat)(h:i<s.length):(ZZ s).get! i=s[i]:=by
 show(ZZ s).data[i]! =_;simp[ZZ,h]
theorem ZOD{s:List UInt8}{i:Nat}(h:i<s.length)(hb:s[i].toNat<128):QM s i=(s[i].toNat,1):=by
 unfold QM;rw[Lib.decode_at,ZR0 s i h];unfold Lib.decodeN;rw[if_pos hb]
theorem ZTy{s:List UInt8}{i:Nat}(h:i<s.length)(hb: ¬s[i].toNat<128):128<=(QM s i).1/\1<=(QM s i).2:=by
 unfold QM;rw[Lib.decode_at,ZR0 s i h];rcases Lib.decodeN_shape ((ZZ s).size-i) s[i].toNat ((ZZ s).get! (i+1)).toNat ((ZZ s).get! (i+2)).toNat ((ZZ s).get! (i+3)).toNat with⟨h1,_⟩|⟨_,_,_,h1,h2⟩|⟨_,_,_,_,h1,_,h2⟩|⟨_,_,_,_,_,h1,_,h2⟩|h2
 .omega
 all_goals(rw[h2];simp only;omega)
theorem ZgQ(s p:List UInt8):ZC Tryz.prog 138 [.x (.str s),.x (.str p)] (.tup [.x (.str (Lib.trimPrefix s p)),.x (.bool (Lib.hasPrefix s p))]):=by
 intro w st vs hst hvl;obtain⟨hsz,hv⟩:=hvl;obtain⟨v0,v1,rfl⟩: ∃v0 v1,vs= #[v0,v1]:=by
  obtain⟨vl⟩:=vs
  match vl,hsz with
  | [a,b],_=>exact⟨a,b,rfl⟩
 have h0:=hv 0 _ v0 rfl rfl;have h1:=hv 1 _ v1 rfl rfl;cases h0 with
 |x h0=>
 cases h1 with
 |x h1=>
 cases h1 with
 |str _=>
 cases h0 with
 |str _=>
 refine(Tryz.strings_CutPrefix (ZZ s) (ZZ p) w).mono ?_;rintro e w' ⟨rfl,rfl⟩;refine⟨_,st,rfl,Kept.refl _ _,λ_ _ h=>h,λ_ _ h=> .inl h,?_⟩;have e1:(ZZ s).data.toList=s:=by simp[ZZ]
 have e2:(ZZ p).data.toList=p:=by simp[ZZ]
 rw[e1,e2];exact V.tup2 (V.mkstr _ _ _) _
theorem ZII:Go.Ab.Enters Tryz.prog 138:=Go.Proofs.enters_of Tryz.lays103.f103 J3 rfl
def ZA6:J8->J5
 | [.x (.str s),.x (.str p)]=>some (true,.tup [.x (.str (Lib.trimPrefix s p)),.x (.bool (Lib.hasPrefix s p))])
 |_=>none
theorem ZMe: ∀args r,ZA6 args=some (true,r)->ZC Tryz.prog 138 args r:=by
 intro args r h;unfold ZA6 at h;split at h
 .rename_i s p;simp only[Ze,Za,ZT,Zc,true_and]at h;obtain rfl:=h;exact(ZgQ s p)
 .cases h
def ZAV:J8->J5
 | [.x (.sl R),.x (.str sep)]=>(ZV ZA R).bind λl=>some (decide ((Lib.join l sep).length<=140737488355328/\l.length<=140737488355328),.x (.str (Lib.join l sep)))
 |_=>none
theorem ZHK: ∀args r,ZAV args=some (true,r)->ZC Tryz.prog 97 args r:=by
 intro args r h;unfold ZAV at h;split at h
 .rename_i R sep;obtain⟨l,hr0,h⟩:=Zp h;simp only[Ze,Za,ZT,Zc,true_and]at h;obtain⟨h1,rfl⟩:=h;rw[<-ZY ZM hr0];exact(Zgh l sep h1.1 h1.2)
 .cases h
def ZJA:J8->J5
 | [.x (.str s),.x (.str [c])]=>some (decide (s.length<=1000000),.x (.sl (rows ZA (Ki c s))))
 |_=>none
theorem ZZu: ∀args r,ZJA args=some (true,r)->ZC Tryz.prog 137 args r:=by
 intro args r h;unfold ZJA at h;split at h
 .rename_i s c;simp only[Ze,Za,ZT,Zc,true_and]at h;obtain⟨h1,rfl⟩:=h;exact(ZfL s c h1)
 .cases h
def ZEb(s:List UInt8):List (List UInt8):=(Ki 32 s).filter λx=>decide (x≠ [])
def jn:List (List UInt8)->List UInt8
 | []=> []
 | [x]=>x
 |x::y::r=>x++32::jn (y::r)
theorem ZO7: ∀l,Lib.join l [32]=jn l
 | []=>rfl
 | [x]=>by rw[Lib.join_one];rfl
 |x::y::r=>by
  have:=ZO7 (y::r);simp only[Lib.join,List.intercalate,List.intersperse_cons_cons,ZSi,jn]at this|-;rw[this];rfl
theorem Zd2{x:List UInt8}{l:List (List UInt8)}(h:l≠ []):jn (x::l)=x++32::jn l:=by
 cases l with
 |nil=>exact absurd rfl h
 |cons y r=>rfl
def wt(l:List (List UInt8)):Nat:=(l.map λx=>x.length+1).sum
theorem Zde: ∀l:List (List UInt8),l≠ []->(jn l).length+1=wt l
 | [x],_=>by simp[jn,wt]
 |x::y::r,_=>by
  have:=Zde (y::r) J1;show(x++32::jn (y::r)).length+1=(x.length+1)+wt (y::r);rw[Zg,JG];omega
theorem ZRu(c:UInt8): ∀s,wt (Ki c s)=s.length+1
 | []=>rfl
 |b::l=>by
  have ih:=ZRu c l;unfold Ki;split
  .show(0+1)+wt (Ki c l)=_;rw[ih,JG];omega
  .split
   .rename_i y r he;rw[he]at ih;have e:wt (y::r)=(y.length+1)+wt r:=rfl;have e2:wt ((b::y)::r)=(y.length+1+1)+wt r:=rfl;rw[JG];omega
   .rename_i he;exact absurd he (ZgK c l)
theorem ZQ5(p:List UInt8->Bool): ∀l,wt (l.filter p)<=wt l
 | []=>Zm _
 |x::l=>by
  have:=ZQ5 p l;have e:wt (x::l)=(x.length+1)+wt l:=rfl;rw[ZIF];split
  .have e:wt (x::l.filter p)=(x.length+1)+wt (l.filter p):=rfl;omega
  .omega
theorem ZYa: ∀l:List (List UInt8),l.length<=wt l
 | []=>Zm _
 |x::l=>by
  have:=ZYa l;have e:wt (x::l)=(x.length+1)+wt l:=rfl;rw[JG];omega
theorem ZU1(c:UInt8)(s:List UInt8):(Ki c s).length<=s.length+1:=by have:=ZYa (Ki c s);rw[ZRu]at this;exact this
theorem ZYT(s:List UInt8):(ZEb s).length<=s.length+1:=ZJw (List.length_filter_le _ _) (ZU1 32 s)
theorem ZO2(s:List UInt8):(jn (ZEb s)).length<=s.length:=by
 by_cases h:ZEb s= []
 .rw[h];simp[jn]
 .have h1:=Zde _ h;have h2:wt (ZEb s)<=_:=ZQ5 _ _;rw[ZRu]at h2;omega
def blk(s:List UInt8):List UInt8:=jn (ZEb s)
theorem ZMG(x:List UInt8)(l:List (List UInt8))(p:List UInt8->Bool):(l++ [x]).filter p=if p x then l.filter p++ [x]else l.filter p:=by
 rw[List.filter_append,ZIF,List.filter_nil];split<;>simp
def ZHT:Tabs:=ZR (ZR (Jt (ZR (ZO) 97 ZAV) 97 (Qz ZAV)) 137 ZJA) 138 ZA6
theorem ZYC:SsOk Tryz.prog ZHT:=ZG (ZG (Yz (ZG (ZD) ZFT ZHK) ZFT (ZEI ZHK)) ZSq ZZu) ZII ZMe
theorem Zbw:(∀a,ZHT.q 97 a=ZAV a)/\(∀a o,ZHT.t 97 a o=Yo (Qz ZAV) a o)/\(∀a,ZHT.q 137 a=ZJA a)/\(∀a,ZHT.q 138 a=ZA6 a)/\(∀f a o,ZHT.r f a o=none)/\(∀f a o,ZHT.k f a o=none):=⟨λ_=>rfl,λ_ _=>rfl,λ_=>rfl,λ_=>rfl,λ_ _ _=>rfl,λ_ _ _=>rfl⟩
theorem ZSa(s:List UInt8)(hl:s.length<=1000000):ZC Tryz.prog 104 [.x (.str s)] (.x (.str (blk s))):=by
 have hsl:=ZU1 32 s;refine ZI.pure (fC 104 true ?_) rfl;intro C0 E0;have uu:=ξ8 @ZAV.eq_1 @ZAV.eq_2 @ZJA.eq_1 @ZJA.eq_2 @Zbw @ZA6.eq_1 @ZA6.eq_2 @Qz.eq_1;have tT:=ZYC;refine nz ?_;refine WI.regB tT [0] ?_;refine oS ?_;refine oN ?_;refine nz ?_;refine WI.regB tT [0,3] ?_;refine oS ?_;refine oN ?_;refine nz ?_;refine WI.regB tT [3,7,8,9] ?_;refine oS ?_;refine oC (hok:=by first|exact se|(rw[YX (Zm _)];exact ZL ⟨hoj2,J0⟩)|exact sd) ?_;refine oG (hok:=by first|exact se|(rw[YX (Zm _)];exact ZL ⟨hoj2,J0⟩)|exact sd) ?_;refine oS ?_;refine oN ?_;refine nz ?_;refine WI.ownA 3 9 1 ?_;refine WI.loop (λφ os=> ∃(j:Nat) (o:List (List UInt8)),φ= [(3,.ref 0 o.length 0 o.length),(7,.x (.sl (rows ZA (Ki 32 s)))),(8,.x (.int .i64 (Ki 32 s).length)),(9,.x (.int .i64 j))]/\os= [.rows false 9 1 (rows ZA o)]/\j<=(Ki 32 s).length/\o=((Ki 32 s).take j).filter (λx=>decide (x≠ []))/\o.length<=j) (ZK (Ki 32 s).length 9) ?_ (λφ os hI=> ?_)
 .exact⟨0,[],rfl,rfl,J0,rfl,J1⟩
 .obtain⟨j,o,rfl,rfl,hj,ho,hoj⟩:=hI;refine nz ?_;refine WI.regB tT [3,7,8,9,10] ?_;refine oG (hok:=by first|exact se|(rw[YX (Zm _)];exact ZL ⟨hoj2,J0⟩)|exact sd) ?_;refine oN ?_;refine nz ?_;refine cd (λh0=> ?_) (λh0=> ?_)
  .have hj4:j<(Ki 32 s).length:=by omega
   refine WI.regB tT [3,5,7,8,9] ?_
   iterate 2 refine oG (hok:=by first|exact se|(rw[YX (Zm _)];exact ZL ⟨hoj2,J0⟩)|exact sd) ?_
   refine oS ?_;refine oN ?_;refine nz ?_;refine WI.regB tT [3,5,7,8,9,14] ?_;refine oS ?_;refine oG (hok:=by first|exact se|(rw[YX (Zm _)];exact ZL ⟨hoj2,J0⟩)|exact sd) ?_;refine oN ?_;refine nz ?_;refine cd (λh1=> ?_) (λh1=> ?_)
   .have ho2:o++ [(Ki 32 s)[j]]=((Ki 32 s).take (j+1)).filter (λx=>decide (x≠ [])):=by rw[Jg hj4,ZMG,<-ho,if_pos (by simpa using h1)]
    refine WI.post ?_;refine WI.regB tT [3,7,8,9] ?_
    iterate 2 refine oS ?_
    iterate 2 refine oG (hok:=by first|exact se|(rw[YX (Zm _)];exact ZL ⟨hoj2,J0⟩)|exact sd) ?_
    refine oS ?_;refine oP ?_;refine Je [0] ?_;refine KM ?_;refine nz ?_;refine WI.regB tT [3,7,8,9] ?_;refine oG (hok:=by first|exact se|(rw[YX (Zm _)];exact ZL ⟨hoj2,J0⟩)|exact sd) ?_;refine oS ?_;refine oN ?_;refine nz ?_
    first|exact⟨⟨j+1,o++ [(Ki 32 s)[j]],by first|rfl|simp,by rw[<-ZSd],J0,ho2,by simp;omega⟩,by simp[ZK,Ab.get,D.val,ZE];omega⟩|exact⟨⟨j+1,o,by first|rfl|simp,rfl,J0,ho2,J0⟩,by simp[ZK,Ab.get,D.val,ZE];omega⟩
   .have ho2:o=((Ki 32 s).take (j+1)).filter (λx=>decide (x≠ [])):=by rw[Jg hj4,ZMG,<-ho,if_neg (by simpa using h1)]
    refine WI.regB tT [3,7,8,9] ?_;refine oG (hok:=by first|exact se|(rw[YX (Zm _)];exact ZL ⟨hoj2,J0⟩)|exact sd) ?_;refine oS ?_;refine oN ?_;refine nz ?_
    first|exact⟨⟨j+1,o++ [(Ki 32 s)[j]],by first|rfl|simp,by rw[<-ZSd],J0,ho2,by simp;omega⟩,by simp[ZK,Ab.get,D.val,ZE];omega⟩|exact⟨⟨j+1,o,by first|rfl|simp,rfl,J0,ho2,J0⟩,by simp[ZK,Ab.get,D.val,ZE];omega⟩
  .have hoe:o=ZEb s:=by rw[ho,YX J0];rfl
   have hwl:=ZYT s;have hoj2:(Lib.join o [32]).length<=140737488355328:=by rw[hoe,ZO7];have:=ZO2 s;omega
   refine WI.regB tT [2] ?_;refine oS ?_;refine oC (hok:=by first|exact se|(rw[YX (Zm _)];exact ZL ⟨hoj2,J0⟩)|exact sd) ?_;refine oS ?_;refine oN ?_;refine nz ?_;refine lf ?_;rw[hoe,ZO7];rfl
def ZGV:J8->J5
 | [.x (.str s)]=>some (decide (s.length<=1000000),.x (.str (blk s)))
 |_=>none
theorem ZV1: ∀args r,ZGV args=some (true,r)->ZC Tryz.prog 104 args r:=by
 intro args r h;unfold ZGV at h;split at h
 .rename_i s;simp only[Ze,Za,ZT,Zc,true_and]at h;obtain⟨h1,rfl⟩:=h;exact(ZSa s h1)
 .cases h
def ZI5:Tabs:=ZR (ZR (ZR (ZO) 37 ZB1) 104 ZGV) 138 ZA6
theorem ZXf:SsOk Tryz.prog ZI5:=ZG (ZG (ZG (ZD) (ZU 37) ZQD) (ZU 104) ZV1) ZII ZMe
theorem ZaX:(∀a,ZI5.q 37 a=ZB1 a)/\(∀a,ZI5.q 104 a=ZGV a)/\(∀a,ZI5.q 138 a=ZA6 a)/\(∀f a o,ZI5.r f a o=none)/\(∀f a o,ZI5.k f a o=none):=⟨λ_=>rfl,λ_=>rfl,λ_=>rfl,λ_ _ _=>rfl,λ_ _ _=>rfl⟩
def fld(s:List UInt8):List UInt8:=ZH (blk s)
theorem ZhG(s:List UInt8)(hl:s.length<=1000000):ZC Tryz.prog 140 [.x (.str s)] (.x (.str (fld s))):=by
 have hb:(blk s).length<=s.length:=ZO2 s;refine ZI.pure (fC 140 true ?_) rfl;intro C0 E0;have uu:=ξ7 @ZB1.eq_1 @ZB1.eq_2 @ZGV.eq_1 @ZGV.eq_2 @ZaX @ZA6.eq_1 @ZA6.eq_2;have tT:=ZXf;refine nz ?_;refine rg tT [0] ?_;refine rg tT [2] ?_;refine lf ?_
 first|rfl|exact⟨rfl,rfl⟩|trivial
def ZDJ(b:UInt8):Bool:=decide (48<=b.toNat/\b.toNat<=57)
def dgs(s:List UInt8):Bool:=decide (s≠ []/\s.length<=32)&&s.all ZDJ
theorem ZTY(s:List UInt8)(p:UInt8->Bool)(i:Nat)(h:i<s.length):(s.take (i+1)).all p=((s.take i).all p&&p s[i]):=by
 rw[Jg h,ZNK];simp
theorem ZU8(s:List UInt8)(p:UInt8->Bool)(i:Nat)(h:i<s.length)(hp:p s[i]=false):s.all p=false:=by
 rw[List.all_eq_false];exact⟨s[i],YM h,by rw[hp];simp⟩
theorem ZfV{s:List UInt8}{i:Nat}(h:i<s.length)(hr:48<=((QM s i).1:Int)/\((QM s i).1:Int)<=57):(QM s i).2=1/\ZDJ s[i]=true:=by
 by_cases hb:s[i].toNat<128
 .rw[ZOD h hb]at hr|-;simp only at hr;exact⟨rfl,ZL J0⟩
 .have:=(ZTy h hb).1;omega
theorem Ze4{s:List UInt8}{i:Nat}(h:i<s.length)(hr: ¬(48<=((QM s i).1:Int)/\((QM s i).1:Int)<=57)):ZDJ s[i]=false:=by
 refine decide_eq_false (λhd=>hr ?_);rw[ZOD h J0];simp only;omega
theorem ZdM(s:List UInt8):ZC Tryz.prog 139 [.x (.str s)] (.x (.bool (dgs s))):=by
 refine ZI.pure (fC 139 true ?_) rfl;intro C0 E0;have uu:=trivial;have tT:=(ZD:SsOk Tryz.prog ZO);refine nz ?_;refine rg tT [0] ?_;refine rg tT [0,6] ?_;refine WI.loop (λφ os=> ∃(i:Nat),φ= [(0,.x (.str s)),(6,.iref 0 0)]/\os= [.sit s i]/\i<=s.length/\(s.take i).all ZDJ=true) (ZgX s.length 0) ?_ (λφ os hI=> ?_)
 .exact⟨0,rfl,rfl,J0,rfl⟩
 .obtain⟨i,rfl,rfl,hi,ha⟩:=hI;refine nz ?_;refine WI.nextSA [0,6,7,8] (λhn2=> ?_) (λhn2=> ?_)
  .have ha2:s.all ZDJ=true:=by rw[<-ha,YX J0]
   have hdg:dgs s=(!(s== [])&&decide ((s.length:Int)<=32)):=by unfold dgs;rw[ha2,QS];by_cases h1:s= []<;>by_cases h2:s.length<=32<;>simp[h1,h2]<;>omega
   refine nz ?_;refine ce (λh0=> ?_) (λh0=> ?_)
   .exact absurd h0 (by decide)
   .refine rg tT [2] ?_;refine lf ?_;rw[hdg]
  .refine nz ?_;refine ct (λh0=> ?_) (λh0=> ?_)
   .refine rg tT [0,4,6] ?_;refine rg tT [0,6,15] ?_;refine cd (λh1=> ?_) (λh1=> ?_) (kB:=λh=>h.h)
    .have hd:=ZU8 s ZDJ i hn2 (Ze4 hn2 J0);have hdg:dgs s=false:=by unfold dgs;rw[hd,ZDv]
     refine rg tT [2] ?_;refine lf ?_;rw[hdg]
    .obtain⟨hw,hdd⟩:=ZfV hn2 J0;have ha2:(s.take (i+1)).all ZDJ=true:=by rw[ZTY s ZDJ i hn2,ha,hdd];rfl
     refine WI.orderA [0,6] ?_;refine nz ?_;exact⟨⟨i+1,by first|rfl|simp,by first|rfl|simp[hw],J0,ha2⟩,by simp[ZgX,hw];omega⟩
   .exact absurd h0 (by decide)
def ZEM:J8->J5
 | [.x (.str s)]=>some (true,.x (.bool (dgs s)))
 |_=>none
theorem ZWZ: ∀args r,ZEM args=some (true,r)->ZC Tryz.prog 139 args r:=by
 intro args r h;unfold ZEM at h;split at h
 .rename_i s;simp only[Ze,Za,ZT,Zc,true_and]at h;obtain rfl:=h;exact(ZdM s)
 .cases h
def ZLD:Tabs:=ZR (ZR (ZO) 139 ZEM) 138 ZA6
theorem ZQq:SsOk Tryz.prog ZLD:=ZG (ZG (ZD) (ZU 139) ZWZ) ZII ZMe
theorem ZRx:(∀a,ZLD.q 139 a=ZEM a)/\(∀a,ZLD.q 138 a=ZA6 a)/\(∀f a o,ZLD.r f a o=none)/\(∀f a o,ZLD.k f a o=none):=⟨λ_=>rfl,λ_=>rfl,λ_ _ _=>rfl,λ_ _ _=>rfl⟩
def stp:List UInt8->List UInt8
 | []=> []
 | [b]=> [b]
 |b::c::l=>if b=48 then stp (c::l)else b::c::l
theorem ZS2(s:List UInt8)(h:1<s.length)(h0:s[0]=48):stp s=stp (s.drop 1):=by
 match s,h with
 |b::c::l,_=>exact if_pos h0
theorem ZMo(s:List UInt8)(h: ¬(1<s.length/\ ∀(h:0<s.length),s[0]=48)):stp s=s:=by
 match s with
 | []=>rfl
 | [b]=>rfl
 |b::c::l=>rw[stp,if_neg];intro e;exact h ⟨J1,λ_=>e⟩
def Jw(s:List UInt8):List UInt8:=Lib.trimPrefix s [45]
def ZFW(s:List UInt8):Bool:=Lib.hasPrefix s [45]
def ZAr(s:List UInt8):List UInt8×Bool:=
 if dgs (Jw s)then(if ZFW s/\stp (Jw s)≠ [48]then 45::stp (Jw s)else stp (Jw s),true)else([],false)
theorem b48{b:UInt8}:b=48↔(b.toNat:Int)=48:=⟨λh=>by rw[h];rfl,λh=>ZMx.1 (by show b.toNat=48;omega)⟩
theorem gd0(t:List UInt8)(h:0<t.length):t.getD 0 0=t[0]:=by simp[h]
theorem Zh9(s:List UInt8):ZC Tryz.prog 105 [.x (.str s)] (.tup [.x (.str (ZAr s).1),.x (.bool (ZAr s).2)]):=by
 cases hd:dgs (Jw s)with
 |false=>
  have hi:ZAr s=([],false):=by unfold ZAr;rw[if_neg (by rw[hd];simp)]
  rw[hi];unfold Jw at hd;refine ZI.pure (fC 105 true ?_) rfl;intro C0 E0;have uu:=ξ6 @ZEM.eq_1 @ZEM.eq_2 @ZA6.eq_1 @ZA6.eq_2 hd @ZRx;have tT:=ZQq;refine nz ?_;refine rg tT [0] ?_;refine rg tT [4,5] ?_;refine rg tT [4,5,13] ?_;refine ct (λh0=> ?_) (λh0=> ?_)
  .refine rg tT [2,3] ?_;refine lf ?_;rfl
  .simp at h0
 |true=>
  unfold Jw at hd;have hd32:(Lib.trimPrefix s [45]).length<=32:=by
   unfold dgs at hd;rw[ZT]at hd;exact(of_decide_eq_true hd.1).2
  have hi:ZAr s=(if ZFW s/\stp (Jw s)≠ [48]then 45::stp (Jw s)else stp (Jw s),true):=by have hd2:dgs (Jw s)=true:=hd;unfold ZAr;rw[if_pos hd2]
  unfold Jw ZFW at hi;refine ZI.pure (fC 105 true ?_) rfl;intro C0 E0;have uu:=ξ6 @ZEM.eq_1 @ZEM.eq_2 @ZA6.eq_1 @ZA6.eq_2 hd @ZRx;have tT:=ZQq;refine nz ?_;refine rg tT [0] ?_;refine rg tT [4,5] ?_;refine rg tT [4,5,13] ?_;refine ce (λh0=> ?_) (λh0=> ?_)
  .simp at h0
  .refine WI.orderA [4,5] ?_;refine WI.loop (λφ os=> ∃(t:List UInt8),φ= [(4,.x (.str t)),(5,.x (.bool (Lib.hasPrefix s [45])))]/\os= []/\stp t=stp (Lib.trimPrefix s [45])/\t.length<=32) (λφ _=>match φ with|(_,.x (.str t))::_=>t.length|_=>0) ?_ (λφ os hI=> ?_)
   .exact⟨_,rfl,rfl,rfl,hd32⟩
   .obtain⟨t,rfl,rfl,ht,htl⟩:=hI;refine nz ?_;by_cases hl1:1<t.length
    .have hk:t[0]? =some t[0]:=YC J0;have hdl:=ZL (show(1:Int)<(t.length:Int) by omega);have uu:=JW uu hk hdl;refine rg tT [4,5,21] ?_;refine cd (λh1=> ?_) (λh1=> ?_)
     .have ht2:stp (t.drop 1)=stp (Lib.trimPrefix s [45]):=by rw[<-ht,ZS2 t hl1 ((gd0 t J0).symm.trans (b48.2 h1))]
      refine rg tT [4,5] ?_;exact⟨⟨t.drop 1,rfl,rfl,ht2,by rw[Jj];omega⟩,by simp;omega⟩
     .have hts:stp t=t:=ZMo t (λhh=>h1 (b48.1 ((gd0 t J0).trans (hh.2 J0))));have htt:=ht.symm.trans hts;refine rg tT [4,28] ?_;refine cd (λh2=> ?_) (λh2=> ?_)
      .refine rg tT [4] ?_;refine rg tT [2,3] ?_;refine lf ?_;rw[hi,htt];first|(rw[if_pos ⟨h2.1,h2.2⟩];done)|(rw[if_pos ⟨h2.1,h2.2⟩];rfl)|(rw[if_neg (by rcases h2 with h2|h2<;>simp[h2])];done)|(rw[if_neg (by rcases h2 with h2|h2<;>simp[h2])];rfl)
      .refine rg tT [2,3] ?_;refine lf ?_;rw[hi,htt];first|(rw[if_pos ⟨h2.1,h2.2⟩];done)|(rw[if_pos ⟨h2.1,h2.2⟩];rfl)|(rw[if_neg (by rcases h2 with h2|h2<;>simp[h2])];done)|(rw[if_neg (by rcases h2 with h2|h2<;>simp[h2])];rfl)
    .have hdl:=decide_eq_false (show ¬(1:Int)<(t.length:Int) by omega);have uu:=YZ uu hdl;refine rg tT [4,5,21] ?_;refine ce (λh1=> ?_) (λh1=> ?_)
     .simp at h1
     .have hts:stp t=t:=ZMo t (λhh=>hl1 hh.1);have htt:=ht.symm.trans hts;refine rg tT [4,28] ?_;refine cd (λh2=> ?_) (λh2=> ?_)
      .refine rg tT [4] ?_;refine rg tT [2,3] ?_;refine lf ?_;rw[hi,htt];first|(rw[if_pos ⟨h2.1,h2.2⟩];done)|(rw[if_pos ⟨h2.1,h2.2⟩];rfl)|(rw[if_neg (by rcases h2 with h2|h2<;>simp[h2])];done)|(rw[if_neg (by rcases h2 with h2|h2<;>simp[h2])];rfl)
      .refine rg tT [2,3] ?_;refine lf ?_;rw[hi,htt];first|(rw[if_pos ⟨h2.1,h2.2⟩];done)|(rw[if_pos ⟨h2.1,h2.2⟩];rfl)|(rw[if_neg (by rcases h2 with h2|h2<;>simp[h2])];done)|(rw[if_neg (by rcases h2 with h2|h2<;>simp[h2])];rfl)
end Go.Proofs.YtpjfdjcejamebaaGreatDoor
end
section
namespace Go.Ab
open Go.RowKit Go.Bo
theorem QL.copied{κ:Type}{mk:κ->Value}{w:World}{r:Nat}{l:List (κ×Value)}(h:QL mk w r l): ∃es clk,w.heap[r]? =some (.map es clk)/\ ∀(w':World) (b:Nat),w'.heap[b]? =some (.map es clk)->QL mk w' b l:=by
 obtain⟨es,clk,h1,h2⟩:=h;exact⟨es,clk,h1,λw' b hb=>⟨es,clk,hb,h2⟩⟩
theorem YB.copied{E:Env}{os:J7}{b:Nat}{dk:KK}{ag:Bool}{l:W2}(h:YB E os b dk ag l): ∃es clk,E.w.heap[b]? =some (.map es clk)/\ ∀(E':Env) (os':J7) (b':Nat),Evo E os E' os'->E'.w.heap[b']? =some (.map es clk)->YB E' os' b' dk ag l:=by
 cases dk with
 |int k=>
  obtain⟨l',h1,h2,h3⟩:=h;obtain⟨es,clk,k1,k2⟩:=QL.copied h1;exact⟨es,clk,k1,λE' os' b' ev hb=>⟨l',k2 _ _ hb,h2,λi a q ha hq=>⟨(h3 i a q ha hq).1,(h3 i a q ha hq).2.mono ev⟩⟩⟩
 |str=>
  obtain⟨l',h1,h2,h3⟩:=h;obtain⟨es,clk,k1,k2⟩:=QL.copied h1;exact⟨es,clk,k1,λE' os' b' ev hb=>⟨l',k2 _ _ hb,h2,λi a q ha hq=>⟨(h3 i a q ha hq).1,(h3 i a q ha hq).2.mono ev⟩⟩⟩
 |st _ _=>exact h.elim
end Go.Ab
namespace Go.Proofs.YtpjfdjcejamebaaGreatDoor
open Go.RowKit Go.Bo Go.Ab Go.Lib Go.Sort
theorem ZaJ(rs:J6)(r:J9)(i:Nat)(hi:i<=rs.length)(hn:rs.length<=1000000):ZN Tryz.prog 61 [.ref 0 rs.length 0 rs.length,.x (.int .i64 i),.ref 1 1 0 1] [.rows false 9 1 rs,.rows false 9 1 [r]] (.ref 0 (rs.length+1) 0 (rs.length+1)) [.rows false 9 1 (YJ rs i [r]),.rows false 9 1 [r]]:=
 ZN.ins rs r i hi hn λw v0 n i xs ys vb vc cv ev h1 h2 h3 h4 h5 h6 h7 h8 h9=>by
  simp only[ZCB];exact ZbR w 0 v0 n i xs ys vb vc cv ev h1 h2 h3 h4 h5 h6 h7 h8 h9 (KE _)
def ZWL(l:List Tx)(s:Tx):List Tx:=l.filter λt=> !(t==s)
open Go.RowKit Go.Bo Go.Ab Go.Lib
open Go.RowKit Go.Bo Go.Ab
def ZF0(acc:List (List UInt8))(v:List UInt8):List (List UInt8):=if v∈acc then acc else acc++ [v]
def ZBm(b vs:List (List UInt8)):List (List UInt8):=vs.foldl ZF0 b
theorem ZX4(b vs:List (List UInt8))(j:Nat)(h:j<vs.length):ZBm b (vs.take (j+1))=ZF0 (ZBm b (vs.take j)) vs[j]:=by
 unfold ZBm;rw[Jg h,ZSn];rfl
theorem Zby(acc:List (List UInt8))(v:List UInt8):(ZF0 acc v).length<=acc.length+1:=by unfold ZF0;split<;>simp
theorem ZRm(b vs:List (List UInt8)):(ZBm b vs).length<=b.length+vs.length:=by
 induction vs generalizing b with
 |nil=>simp[ZBm]
 |cons v vs ih=>have:=ih (ZF0 b v);have:=Zby b v;simp only[ZBm,ZMi,JG]at*;omega
def Zu(l:List ZX)(n:List UInt8):Nat:=(l.takeWhile λa=>Op.bytesLess a.1 n).length
theorem ZHH(l:List ZX)(n:List UInt8):Zu l n<=l.length:=(List.takeWhile_sublist _).length_le
theorem Za3(l:List ZX)(n:List UInt8)(k:Nat)(hk:k<=l.length)(ha: ∀a∈l.take k,Op.bytesLess a.1 n=true)(hb: ∀h:k<l.length,Op.bytesLess l[k].1 n=false):Zu l n=k:=by
 unfold Zu;rw[<-ZDA k l,List.takeWhile_append_of_pos ha,Zg,Yu,ZOx hk];by_cases h:k<l.length
 .rw[ZEY h,List.takeWhile_cons,hb h];simp
 .rw[ZBl J0];simp
def ZBr(l:List ZX)(n:List UInt8):Bool:=match l[Zu l n]? with
 |some a=>a.1==n
 |none=>false
def Kk(l:List ZX)(n:List UInt8):List (List UInt8):=if ZBr l n then(l.getD (Zu l n) ([],[],())).2.1 else []
def ZBj(l:List ZX)(n:List UInt8):List ZX:=if ZBr l n then l.drop (Zu l n+1)else l.drop (Zu l n)
theorem ZN5(l:List ZX)(n:List UInt8)(j:Nat)(h:j<Zu l n):Op.bytesLess (l[j]'(ZPU h (ZHH l n))).1 n=true:=by
 have hp:(l.takeWhile λa=>Op.bytesLess a.1 n)<+:l:=List.takeWhile_prefix _;have:=Yc.1 (List.all_takeWhile (p:=λa:ZX=>Op.bytesLess a.1 n) (l:=l)) _ (YM (h:=h));rwa [hp.getElem h]at this
theorem ZOQ(l:List ZX)(n:List UInt8)(h:Zu l n<l.length):Op.bytesLess l[Zu l n].1 n=false:=by
 unfold Zu at*
 induction l with
 |nil=>simp at h
 |cons a l ih=>
  by_cases ha:Op.bytesLess a.1 n=true
  .simp only[List.takeWhile_cons,ha,if_true,JG]at h|-;simpa using ih J0
  .simp only[List.takeWhile_cons,ha,JP,if_false,ξN];simpa using ha
theorem ZUK(l:List ZX)(n:List UInt8)(hk:Zu l n<l.length)(h:ZBr l n=true):l[Zu l n].1=n:=by
 unfold ZBr at h;rw[YC hk]at h;simpa using h
theorem bl_irr: ∀a,Op.bytesLess a a=false
 | []=>rfl
 |x::a=>by rw[Op.bytesLess,bl_irr a];simp
theorem ZT9: ∀a b,Op.bytesLess a b=true->Op.bytesLess b a=false
 |_,[],h=>by simp[Op.bytesLess]at h
 | [],_::_,_=>by simp[Op.bytesLess]
 |x::a,y::b,h=>by
  rw[Op.bytesLess,ZBX,ZT,Zc,beq_iff_eq]at h;rw[Op.bytesLess,ZTa,Bool.and_eq_false_imp,decide_eq_false_iff_not,beq_iff_eq];rcases h with h|⟨rfl,h⟩
  .exact⟨UInt8.lt_asymm h,λe=>by subst e;exact absurd h (UInt8.lt_irrefl _)⟩
  .exact⟨UInt8.lt_irrefl _,λ_=>ZT9 a b h⟩
theorem bl_trans: ∀a b c,Op.bytesLess a b=true->Op.bytesLess b c=true->Op.bytesLess a c=true
 |_,[],_,h,_=>by simp[Op.bytesLess]at h
 |_,_::_,[],_,h=>by simp[Op.bytesLess]at h
 | [],_::_,_::_,_,_=>by simp[Op.bytesLess]
 |x::a,y::b,z::c,h,k=>by
  rw[Op.bytesLess,ZBX,ZT,Zc,beq_iff_eq]at h k|-;rcases h with h|⟨rfl,h⟩<;>rcases k with k|⟨rfl,k⟩
  .exact .inl (UInt8.lt_trans h k)
  .exact .inl h
  .exact .inl k
  .exact .inr ⟨rfl,bl_trans a b c h k⟩
theorem bl_tot: ∀a b,a≠b->Op.bytesLess a b=true\/Op.bytesLess b a=true
 | [],[],h=>absurd rfl h
 |_::_,[],_=> .inr (by simp[Op.bytesLess])
 | [],_::_,_=> .inl (by simp[Op.bytesLess])
 |x::a,y::b,h=>by
  simp only[Op.bytesLess,ZBX,ZT,Zc,beq_iff_eq];by_cases e:x=y
  .subst e;rcases bl_tot a b (λk=>h (by rw[k]))with k|k
   .exact .inl (.inr ⟨rfl,k⟩)
   .exact .inr (.inr ⟨rfl,k⟩)
  .rcases UInt8.lt_or_lt_of_ne e with k|k
   .exact .inl (.inl k)
   .exact .inr (.inl k)
def cmpS(a b:List UInt8):Int:=if Op.bytesLess a b=true then-1 else if Op.bytesLess b a=true then 1 else 0
theorem Zd5(s:List UInt8):ZC Tryz.prog 135 [.x (.str s)] (.x (.bool false)):=by
 have hbs: ∀x:List UInt8,(x !=x)=false:=λx=>by simp
 refine ZI.pure (fC 135 true ?_) rfl;intro C0 E0;have uu:=hbs;have tT:=(ZD:SsOk Tryz.prog ZO);refine nz ?_;refine rg tT [0] ?_;refine rg tT [2] ?_;refine lf ?_
 first|rfl|exact⟨rfl,rfl⟩|trivial
def ZJF:J8->J5
 | [.x (.str s)]=>some (true,.x (.bool false))
 |_=>none
theorem ZYs: ∀args r,ZJF args=some (true,r)->ZC Tryz.prog 135 args r:=by
 intro args r h;unfold ZJF at h;split at h
 .rename_i s;simp only[Ze,Za,ZT,Zc,true_and]at h;obtain rfl:=h;exact(Zd5 s)
 .cases h
def ZNf:Tabs:=ZR (ZO) 135 ZJF
theorem ZaH:SsOk Tryz.prog ZNf:=ZG (ZD) (ZU 135) ZYs
theorem Zac:(∀a,ZNf.q 135 a=ZJF a)/\(∀f a o,ZNf.r f a o=none)/\(∀f a o,ZNf.k f a o=none):=⟨λ_=>rfl,λ_ _ _=>rfl,λ_ _ _=>rfl⟩
theorem cmpS_c(a b:List UInt8):ZC Tryz.prog 101 [.x (.str a),.x (.str b)] (.x (.int .i64 (cmpS a b))):=by
 unfold cmpS;refine ZI.pure (fC 101 true ?_) rfl;intro C0 E0;have uu:=JW @ZJF.eq_1 @ZJF.eq_2 @Zac;have tT:=ZaH;refine nz ?_;refine rg tT [0,1] ?_;refine rg tT [0,1,5] ?_;refine rg tT [0,1,5,6] ?_;refine rg tT [0,1,6,11] ?_;refine cd (λh0=> ?_) (λh0=> ?_)
 .refine rg tT [12] ?_;refine cd (λh1=> ?_) (λh1=> ?_)
  .refine rg tT [4] ?_;refine lf ?_
   first|rfl|exact⟨rfl,rfl⟩|trivial
  .refine rg tT [4] ?_;refine lf ?_
   first|rfl|exact⟨rfl,rfl⟩|trivial
 .refine rg tT [0,1,13] ?_;refine cd (λh2=> ?_) (λh2=> ?_)
  .refine rg tT [4] ?_;refine lf ?_
   first|rfl|exact⟨rfl,rfl⟩|trivial
  .refine rg tT [0,1,16] ?_;refine cd (λh3=> ?_) (λh3=> ?_)
   .refine rg tT [4] ?_;refine lf ?_;rw[if_pos (by clear uu;grind)]
   .refine rg tT [19] ?_;refine cd (λh4=> ?_) (λh4=> ?_)
    .refine rg tT [4] ?_;refine lf ?_;rw[if_neg (by clear uu;grind),if_pos ((bl_tot a b (by clear uu;grind)).resolve_left (by clear uu;grind))]
    .refine rg tT [4] ?_;refine lf ?_;obtain rfl:a=b:=by clear uu;grind
     rw[bl_irr];rfl
def ZFS:J8->J5
 | [.x (.str a),.x (.str b)]=>some (true,.x (.int .i64 (cmpS a b)))
 |_=>none
theorem ZSW: ∀args r,ZFS args=some (true,r)->ZC Tryz.prog 101 args r:=by
 intro args r h;unfold ZFS at h;split at h
 .rename_i a b;simp only[Ze,Za,ZT,Zc,true_and]at h;obtain rfl:=h;exact(cmpS_c a b)
 .cases h
def ZOA:Tabs:=ZR (ZO) 101 ZFS
theorem ZZ8:SsOk Tryz.prog ZOA:=ZG (ZD) (ZU 101) ZSW
theorem Za9:(∀a,ZOA.q 101 a=ZFS a)/\(∀f a o,ZOA.r f a o=none)/\(∀f a o,ZOA.k f a o=none):=⟨λ_=>rfl,λ_ _ _=>rfl,λ_ _ _=>rfl⟩
theorem Ze0(n t:List UInt8)(R:J6):ZC Tryz.prog 125 [.agg [.x (.str n),.x (.sl R)],.x (.str t)] (.x (.int .i64 (cmpS n t))):=by
 refine ZI.pure (fC 125 true ?_) rfl;intro C0 E0;have uu:=JW @ZFS.eq_1 @ZFS.eq_2 @Za9;have tT:=ZZ8;refine nz ?_;refine rg tT [1,2] ?_;refine rg tT [4] ?_;refine lf ?_
 first|rfl|exact⟨rfl,rfl⟩|trivial
def ZIp:J8->J5
 | [.agg [.x (.str n),.x (.sl R)],.x (.str t)]=>some (true,.x (.int .i64 (cmpS n t)))
 |_=>none
theorem ZZy: ∀args r,ZIp args=some (true,r)->ZC Tryz.prog 125 args r:=by
 intro args r h;unfold ZIp at h;split at h
 .rename_i n R t;simp only[Ze,Za,ZT,Zc,true_and]at h;obtain rfl:=h;exact(Ze0 n t R)
 .cases h
theorem ZNz(l:List ZX)(j:Nat)(h:j<l.length):(rows ZQ l)[j]? =some [X.str (l.getD j ([],[],())).1,X.sl (rows ZA (l.getD j ([],[],())).2.1)]:=by
 simp[rows,h,ZQ,Jh,ZA,rSl,ZA0]
abbrev SoA(l:List ZX):Prop:=l.Pairwise λa b=>Op.bytesLess a.1 b.1=true
theorem ZeG{l:List ZX}(hs:SoA l)(n:List UInt8)(h:Nat)(hl:h<l.length):Op.bytesLess l[h].1 n=true↔h<Zu l n:=by
 constructor
 .intro hb;apply ZMZ;intro hc;have hle:Zu l n<=h:=by omega
  have hpl:Zu l n<l.length:=by omega
  have hst:=ZOQ l n hpl;rcases Nat.lt_or_eq_of_le hle with hlt|heq
  .have:=ZJ6.1 hs _ _ hpl hl hlt;rw[bl_trans _ _ _ this hb]at hst;cases hst
  .have:l[Zu l n].1=l[h].1:=by congr 2
   rw[this,hb]at hst;cases hst
 .intro hb;exact ZN5 l n h hb
theorem ZSQ(a b:List UInt8):cmpS a b<0↔Op.bytesLess a b=true:=by
 unfold cmpS;split
 .rename_i h;simp[h]
 .rename_i h;split<;>simp[h]
theorem ZQJ(a b:List UInt8):cmpS a b=0↔a=b:=by
 unfold cmpS;split
 .rename_i h;constructor
  .intro k;cases k
  .intro k;subst k;rw[bl_irr]at h;cases h
 .rename_i h;split
  .rename_i h2;constructor
   .intro k;cases k
   .intro k;subst k;rw[bl_irr]at h2;cases h2
  .rename_i h2;constructor
   .intro _;apply ZMZ;intro hne;rcases bl_tot a b hne with k|k
    .exact h k
    .exact h2 k
   .intro _;rfl
theorem Zdt(i j:Nat)(h:i+j<=4000000):IntKind.i64.wrap ((IntKind.u64.wrap ((i:Int)+(j:Int))).fdiv (2^min 1 IntKind.u64.bits))=(((i+j)/2:Nat):Int):=by
 have e1:IntKind.u64.wrap ((i:Int)+(j:Int))=((i+j:Nat):Int):=by
  rw[show((i:Int)+(j:Int))=((i+j:Nat):Int) by omega];simp[IntKind.wrap,IntKind.bits,IntKind.signed];omega
 have e2:(2^min 1 IntKind.u64.bits:Int)=2:=rfl;rw[e1,e2];have e3:((i+j:Nat):Int).fdiv 2=(((i+j)/2:Nat):Int):=by
  rw[Int.fdiv_eq_ediv_of_nonneg _ J0];omega
 rw[e3,IntKind.wrap_i64];omega
def dif(φ:J4)(_:J7):Nat:=((ZE (Go.Ab.get φ 10).val).getD 0-(ZE (Go.Ab.get φ 9).val).getD 0).toNat
def ZN8:Tabs:=ZR (ZO) 125 ZIp
theorem ZXq:SsOk Tryz.prog ZN8:=ZG (ZD) (ZU 125) ZZy
theorem Zcn:(∀a,ZN8.q 125 a=ZIp a)/\(∀f a o,ZN8.r f a o=none)/\(∀f a o,ZN8.k f a o=none):=⟨λ_=>rfl,λ_ _ _=>rfl,λ_ _ _=>rfl⟩
theorem Zib(l:List ZX)(n:List UInt8)(hs:SoA l)(hl:l.length<=1000000):ZC Tryz.prog 124 [.x (.sl (rows ZQ l)),.x (.str n),.fn 125 []] (.tup [.x (.int .i64 (Zu l n)),.x (.bool (ZBr l n))]):=by
 have hpl:=ZHH l n;have hhit:ZBr l n=match l[Zu l n]? with|some a=>a.1==n|none=>false:=rfl
 refine ZI.pure (fC 124 true ?_) rfl;intro C0 E0;have uu:=JW @ZIp.eq_1 @ZIp.eq_2 @Zcn;have tT:=ZXq;refine nz ?_;refine rg tT [0,1,2] ?_;refine rg tT [0,1,2,8] ?_;refine rg tT [0,1,2,8,9,10] ?_;refine WI.loop (λφ os=> ∃(i j:Nat),φ= [(0,.x (.sl (rows ZQ l))),(1,.x (.str n)),(2,.fn 125 []),(8,.x (.int .i64 l.length)),(9,.x (.int .i64 i)),(10,.x (.int .i64 j))]/\os= []/\i<=Zu l n/\Zu l n<=j/\j<=l.length) (dif) ?_ (λφ os hI=> ?_)
 .exact⟨0,l.length,rfl,rfl,J0,hpl,J0⟩
 .obtain⟨i,j,rfl,rfl,hi,hj,hjl⟩:=hI;refine nz ?_;refine rg tT [0,1,2,8,9,10,17] ?_;refine cd (λh0=> ?_) (λh0=> ?_)
  .refine rg tT [0,1,2,8,9,10,11] ?_;have hij:i<j:=by omega
   rw[Zdt i j J0];obtain⟨M,hM⟩: ∃M,M=(i+j)/2:=⟨_,rfl⟩;rw[<-hM];have hMl:M<l.length:=by omega
   have hrw:=ZNz l M hMl;have hiff:=ZeG hs n M hMl;rw[show l[M]=l.getD M ([],[],()) by simp[hMl],<-ZSQ]at hiff;generalize l.getD M ([],[],())=x at hrw hiff;have uu:=YZ uu hrw;refine rg tT [0,1,2,8,9,10,11,31] ?_;refine cd (λh1=> ?_) (λh1=> ?_)
   .have hlt:M<Zu l n:=hiff.1 (by simpa using h1);refine rg tT [0,1,2,8,9,10] ?_
    first|exact⟨⟨M+1,j,rfl,rfl,J0,J0,J0⟩,by simp[dif,Ab.get,D.val,ZE];omega⟩|exact⟨⟨i,M,rfl,rfl,J0,J0,J0⟩,by simp[dif,Ab.get,D.val,ZE];omega⟩
   .have hlt: ¬M<Zu l n:=λh=>absurd (hiff.2 h) (by simpa using h1)
    refine rg tT [0,1,2,8,9,10] ?_
    first|exact⟨⟨M+1,j,rfl,rfl,J0,J0,J0⟩,by simp[dif,Ab.get,D.val,ZE];omega⟩|exact⟨⟨i,M,rfl,rfl,J0,J0,J0⟩,by simp[dif,Ab.get,D.val,ZE];omega⟩
  .obtain rfl:Zu l n=i:=by omega
   by_cases hk:Zu l n<l.length
   .have hrw:=ZNz l (Zu l n) hk;rw[YC hk,show l[Zu l n]=l.getD (Zu l n) ([],[],()) by simp[hk]]at hhit;generalize l.getD (Zu l n) ([],[],())=x at hrw hhit;have hd:=ZL (show((Zu l n:Nat):Int)<(l.length:Int) by omega);have uu:=JW uu hrw hd;refine rg tT [6,7] ?_;refine lf ?_;have hcb:(cmpS x.1 n==0)=(x.1==n):=by rw[Qj];simp[ZQJ]
    rw[hhit,hcb]
   .have hrw:(rows ZQ l)[Zu l n]? =none:=ZCW (by rw[Zh];omega);rw[ZCW J0]at hhit;have hd:=decide_eq_false (show ¬((Zu l n:Nat):Int)<(l.length:Int) by omega);have uu:=JW uu hrw hd;refine rg tT [6,7] ?_;refine lf ?_;rw[hhit]
def ZIV:J8->J5
 | [.x (.sl R),.x (.str n),.fn 125 []]=>(ZV ZQ R).bind λl=>some (decide (SoA l/\l.length<=1000000),.tup [.x (.int .i64 (Zu l n)),.x (.bool (ZBr l n))])
 |_=>none
theorem ZUU: ∀args r,ZIV args=some (true,r)->ZC Tryz.prog 124 args r:=by
 intro args r h;unfold ZIV at h;split at h
 .rename_i R n;obtain⟨l,hr0,h⟩:=Zp h;simp only[Ze,Za,ZT,Zc,true_and]at h;obtain⟨h1,rfl⟩:=h;rw[<-ZY Zr hr0];exact(Zib l n h1.1 h1.2)
 .cases h
end Go.Proofs.YtpjfdjcejamebaaGreatDoor
end
section
namespace Go.Ab
open Go.RowKit Go.Bo
section
variable {P:Program} {c:Ctx} {E0:Env} {os0 os:J7} {n:Nat} {Q:Exit->J4->J7->Prop} {φ:J4}
theorem Rel.reob{E:Env}(R:Rel c E os){i:Nat}{o o':Ob}(ho:os[i]? =some o)(hk: ∀k,o.kd=some k->o'.kd=some k)(hs: ∀sz n,o.sl? =some (sz,n)->o'.sl? =some (sz,n))(hm: ∀p b,o'.mb p b->o.mb p b)
  (hok: ∀p,E.ob[i]? =some p->OK E os o p->Evo E os E (os.set i o')->OK E (os.set i o') o' p):Rel c E (os.set i o')/\Evo E os E (os.set i o'):=by
 obtain⟨p,hp,hok0⟩:=R.at ho;have hset:E.ob.set i p=E.ob:=by
  apply ZDN;intro j;rw[ZCx];split
  .rename_i h;subst h;rw[hp];simp[(Zb hp).1]
  .rfl
 have hE:(⟨E.w,E.st,E.ob.set i p⟩:Env)=E:=by rw[hset]
 obtain⟨R',ev⟩:=R.set ho hp E.w o' p (Kept.refl _ _) (λb hb=> .inl (hm p b hb)) (λsz n h=>⟨n,hs sz n h,.inl ⟨rfl,rfl⟩⟩) (λk h=>⟨rfl,hk k h⟩) (λev=>by
  rw[hE]at ev|-;exact hok p hp hok0 ev)
 rw[hE]at R' ev;exact⟨R',ev⟩
theorem WI.ownBox(b j e sz:Nat){ds:J8}(hb:os[b]? =some (.box ds))(hj:ds[j]? =some (.x .nils)){ic:IC}(h:WI P c E0 os0 n ic Q φ (os.set b (.box (ds.set j (.ref os.length 0 0 0)))++ [.rows false e sz []])):WI P c E0 os0 n ic Q φ os:=by
 refine WI.weak (λE a R hf=> ?_) h;obtain⟨E',k1,k2,k3,k4⟩:=Qt (fz:=false) (e:=e) (sz:=sz) (rs:= []) (cu:= .slice none 0 0) (xs:= []) R.rel (Kept.refl _ E.w) ⟨J1,.inl ⟨rfl,rfl⟩⟩ (λb hb=>by cases hb) (λr hr=>by cases hr) (λi r j x v h=>by simp at h);have hbl:=(Zb hb).1;have hb':(os++ [Ob.rows false e sz []])[b]? =some (.box ds):=by rw[Ym hbl];exact hb
 obtain⟨R2,e2⟩:=k2.reob (o':= .box (ds.set j (.ref os.length 0 0 0))) hb' (λk h=>h) (λsz n h=>by cases h) (λp b h=>h) (λp hp hok ev=>by
  obtain⟨cs,ty,g1,g2,g3⟩:=hok;refine⟨cs,ty,g1,by rw[ZJq];exact g2,λk d v hd hv=> ?_⟩;rw[ZCx]at hd;split at hd
  .rename_i hjk;subst hjk;split at hd
   .cases hd;have h1:=g3 j _ v hj hv;have h2:=V.nils h1.1;subst h2;exact⟨k4.mono ev,h1.2⟩
   .cases hd
  .exact⟨(g3 k d v hd hv).1.mono ev,(g3 k d v hd hv).2⟩)
 rw[ZPg _ _ hbl]at R2 e2;exact⟨E',k1,⟨R2,(R.evo.trans k3).trans e2⟩,hf.size,hf.defers,λu=>((hf.slot u).mono k3).mono e2⟩
end
end Go.Ab
end
section
namespace Go.Proofs.YtpjfdjcejamebaaGreatDoor
open Go.RowKit Go.Bo Go.Ab Go.Shelf
def ZUs:Ren:=⟨λ|4=>82|n=>n,λ|22=>38|25=>9|n=>n,λn=>n⟩
theorem ZNG:Go.Proofs.Lays8.n4 Tryz.prog ZUs where
 mixed:=by kernel_rfl
 f4:=⟨"slices.Grow[[]string,string]",by decide,J3⟩
 t0:=by kernel_rfl
 a0:=λw=>by kernel_rfl
 z0:=λw=>by kernel_rfl
 v0:=λw=>by kernel_rfl
 t3:=by kernel_rfl
 a3:=λw=>by kernel_rfl
 z3:=λw=>by kernel_rfl
 v3:=λw=>by kernel_rfl
 t4:=by kernel_rfl
 a4:=λw=>by kernel_rfl
 z4:=λw=>by kernel_rfl
 v4:=λw=>by kernel_rfl
 t9:=by kernel_rfl
 a9:=λw=>by kernel_rfl
 z9:=λw=>by kernel_rfl
 v9:=λw=>by kernel_rfl
 t20:=by kernel_rfl
 a20:=λw=>by kernel_rfl
 z20:=λw=>by kernel_rfl
 v20:=λw=>by kernel_rfl
 t22:=by kernel_rfl
 a22:=λw=>by kernel_rfl
 z22:=λw=>by kernel_rfl
 v22:=λw=>by kernel_rfl
theorem ZT2:Go.Ab.Enters Tryz.prog 82:=ZNG.f4.enters rfl
theorem Zhy(n:Nat)(hn:n<=1000000):ZN Tryz.prog 82 [.x .nils,.x (.int .i64 n)] [] (.ref 0 0 0 0) [.rows false 9 1 []]:=by
 intro c E vs R hvl;obtain⟨hsz,hv⟩:=hvl;obtain⟨v0,v1,rfl⟩: ∃v0 v1,vs= #[v0,v1]:=by
  obtain⟨vl⟩:=vs
  match vl,hsz with
  | [a,b],_=>exact⟨a,b,rfl⟩
 have h0:=hv 0 _ v0 rfl rfl;have h1:=hv 1 _ v1 rfl rfl;cases h0 with
 |x h0=>
 cases h1 with
 |x h1=>
 cases h1 with
 |int _ _=>
 cases h0 with
 |nils=>
 by_cases hz:n=0
 .subst hz;refine(Go.Proofs.Any8.slices_Grow_room ZNG none 0 0 0 E.w (Zm _) J0 J0 (Zm _)).mono ?_;rintro e w' ⟨rfl,rfl⟩;obtain⟨E',h1,h2,h3,h4⟩:=Qt R (fz:=false) (e:=9) (sz:=1) (rs:= []) (cu:= .slice none 0 0) (xs:= []) (Kept.refl _ _) ⟨rfl,.inl ⟨rfl,rfl⟩⟩ (λb hb=>by simp[Value.ownBlock]at hb) (λr hr=>by cases hr) (λi r j x v h=>by simp at h);exact⟨_,E',rfl,h1,h2,h3,h4⟩
 .have hi:(Tryz.prog.info? 9).map (λi=>(i.zero,i.size,i.bytes))=some (some (.string ByteArray.empty),1,16):=by kernel_rfl
  obtain⟨i0,hi0,hi1⟩:=Zd hi;simp only[Za]at hi1;obtain⟨hz0,hs0,hb0⟩:=hi1;refine(Go.Proofs.Any8.slices_Grow_grow ZNG i0 (.string ByteArray.empty) hi0 hz0 J0 none 0 0 n [] E.w (Zm _) J0 (by rw[hb0];omega) J0 J1 (λ_=>rfl) (λa h=>by cases h)).mono ?_;rintro e w' ⟨rfl,rfl⟩;have hG:=grownCap_le_maxLen E.w (0+n) 0 9 (by unfold maxLen;omega);have hGn:0+n<=grownCap E.w (0+n) 0 9:=grownCap_ge E.w _ _ _;have hgr:ZUs.t 25=9:=rfl;rw[hgr];generalize grownCap E.w (0+n) 0 9=G at hG hGn|-;have hcs:(([]:List Value).toArray++Builtin.zeroCells (Value.string ByteArray.empty).cells (0+n-0)++Builtin.zeroCells (Value.string ByteArray.empty).cells (G-(0+n))).size=G*1:=by
   simp[Builtin.zeroCells,Value.cells]<;>omega
  obtain⟨E',h1,h2,h3,h4⟩:=Qt R (fz:=false) (e:=9) (sz:=1) (rs:= []) (cu:= .slice (some ⟨E.w.heap.size,0,none⟩) 0 G) (xs:= [])
   (Kept.of_none (((Qd.refl E.w).dr.al (.cells (([]:List Value).toArray++Builtin.zeroCells (Value.string ByteArray.empty).cells (0+n-0)++Builtin.zeroCells (Value.string ByteArray.empty).cells (G-(0+n))) 9)).grown none))
   ⟨rfl,.inr ⟨E.w.heap.size,G,_,(0,0),rfl,heap_alloc_new _ _,KE _,hG,hcs,J1,.inl rfl⟩⟩ (λb hb=>by simp[Value.ownBlock]at hb;omega) (λr hr=>by cases hr) (λi r j x v h=>by simp at h)
  exact⟨_,E',rfl,h1,h2,h3,h4⟩
def ZHh:J8->J7->Option (Bool×D×J7)
 | [.x .nils,.x (.int .i64 n)],[]=>some (decide (0<=n/\n.toNat<=1000000),.ref 0 0 0 0,[.rows false 9 1 []])
 |_,_=>none
theorem ZbU: ∀args os r os',ZHh args os=some (true,r,os')->ZN Tryz.prog 82 args os r os':=by
 intro args os r os' h;unfold ZHh at h;split at h
 .rename_i n;simp only[Ze,Za,Zc]at h;obtain⟨⟨h1,h2⟩,rfl,rfl⟩:=h;have:=Zhy n.toNat h2;rwa [Int.toNat_of_nonneg h1]at this
 .cases h
def ZJJ:Tabs:=Jt (ZO) 82 ZHh
theorem ZNS:SsOk Tryz.prog ZJJ:=Yz (ZD) ZT2 ZbU
theorem ZPn:(∀a,ZJJ.q 82 a=none)/\(∀a o,ZJJ.t 82 a o=Yo ZHh a o)/\(∀f a o,ZJJ.r f a o=none)/\(∀f a o,ZJJ.k f a o=none):=⟨λ_=>rfl,λ_ _=>rfl,λ_ _ _=>rfl,λ_ _ _=>rfl⟩
theorem ZRy(a b:List (List UInt8))(ha:a.length<=100000)(hb:b.length<=100000):ZC Tryz.prog 47 [.x (.sl [[.sl (rows ZA a)],[.sl (rows ZA b)]])] (.x (.sl (rows ZA (a++b)))):=by
 refine ZI.pure (fC 47 true ?_) rfl;intro C0 E0;have uu:=JW @ZHh.eq_1 @ZHh.eq_2 @ZPn;have tT:=ZNS;refine nz ?_;refine rg tT [0] ?_;refine rg tT [0,3] ?_;refine rg tT [0,3,9,10,11] ?_;refine WI.loopN 3 ?_;refine WI.round ?_;refine nz ?_;refine rg tT [0,3,9,10,11,12] ?_;refine ct (λh0=> ?_) (λh0=> ?_)
 .refine rg tT [0,3,5,9,10,11] ?_;refine rg tT [0,3,9,10,11] ?_;refine rg tT [0,3,9,10,11,20] ?_;refine ce (λh1=> ?_) (λh1=> ?_)
  .first|omega|(simp at h1;done)|(simp at h1;omega)
  .refine rg tT [0,3,9,10,11] ?_;refine WI.round ?_;refine nz ?_;refine rg tT [0,3,9,10,11,12] ?_;refine ct (λh0=> ?_) (λh0=> ?_)
   .refine rg tT [0,3,5,9,10,11] ?_;refine rg tT [0,3,9,10,11] ?_;refine rg tT [0,3,9,10,11,20] ?_;refine ce (λh1=> ?_) (λh1=> ?_)
    .first|omega|(simp at h1;done)|(simp at h1;omega)
    .refine rg tT [0,3,9,10,11] ?_;refine WI.round ?_;refine nz ?_;refine rg tT [0,3,9,10,11,12] ?_;refine ce (λh0=> ?_) (λh0=> ?_)
     .exact absurd h0 (by decide)
     .refine rg tT [0,6] ?_;refine rg tT [6,25,26,27] ?_;refine WI.loopN 3 ?_;refine WI.round ?_;refine nz ?_;refine rg tT [6,25,26,27,28] ?_;refine ct (λh2=> ?_) (λh2=> ?_)
      .refine rg tT [6,8,25,26,27] ?_;refine rg tT [6,25,26,27] ?_;refine rg tT [6,25,26,27] ?_;refine WI.round ?_;refine nz ?_;refine rg tT [6,25,26,27,28] ?_;refine ct (λh2=> ?_) (λh2=> ?_)
       .refine rg tT [6,8,25,26,27] ?_;refine rg tT [6,25,26,27] ?_;refine rg tT [6,25,26,27] ?_;refine WI.round ?_;refine nz ?_;refine rg tT [6,25,26,27,28] ?_;refine ce (λh2=> ?_) (λh2=> ?_)
        .exact absurd h2 (by decide)
        .refine rg tT [2] ?_;refine lf ?_;rw[YX J1]
       .exact absurd h2 (by decide)
      .exact absurd h2 (by decide)
   .exact absurd h0 (by decide)
 .exact absurd h0 (by decide)
theorem ZWb(b:List (List UInt8))(hb:b.length<=100000):ZC Tryz.prog 47 [.x (.sl [[.nils],[.sl (rows ZA b)]])] (.x (.sl (rows ZA b))):=by
 refine ZI.pure (fC 47 true ?_) rfl;intro C0 E0;have uu:=JW @ZHh.eq_1 @ZHh.eq_2 @ZPn;have tT:=ZNS;refine nz ?_;refine rg tT [0] ?_;refine rg tT [0,3] ?_;refine rg tT [0,3,9,10,11] ?_;refine WI.loopN 3 ?_;refine WI.round ?_;refine nz ?_;refine rg tT [0,3,9,10,11,12] ?_;refine ct (λh0=> ?_) (λh0=> ?_)
 .refine rg tT [0,3,5,9,10,11] ?_;refine rg tT [0,3,9,10,11] ?_;refine rg tT [0,3,9,10,11,20] ?_;refine ce (λh1=> ?_) (λh1=> ?_)
  .first|omega|(simp at h1;done)|(simp at h1;omega)
  .refine rg tT [0,3,9,10,11] ?_;refine WI.round ?_;refine nz ?_;refine rg tT [0,3,9,10,11,12] ?_;refine ct (λh0=> ?_) (λh0=> ?_)
   .refine rg tT [0,3,5,9,10,11] ?_;refine rg tT [0,3,9,10,11] ?_;refine rg tT [0,3,9,10,11,20] ?_;refine ce (λh1=> ?_) (λh1=> ?_)
    .first|omega|(simp at h1;done)|(simp at h1;omega)
    .refine rg tT [0,3,9,10,11] ?_;refine WI.round ?_;refine nz ?_;refine rg tT [0,3,9,10,11,12] ?_;refine ce (λh0=> ?_) (λh0=> ?_)
     .exact absurd h0 (by decide)
     .refine rg tT [0,6] ?_;refine rg tT [6,25,26,27] ?_;refine WI.loopN 3 ?_;refine WI.round ?_;refine nz ?_;refine rg tT [6,25,26,27,28] ?_;refine ct (λh2=> ?_) (λh2=> ?_)
      .refine rg tT [6,8,25,26,27] ?_;refine rg tT [6,25,26,27] ?_;refine rg tT [6,25,26,27] ?_;refine WI.round ?_;refine nz ?_;refine rg tT [6,25,26,27,28] ?_;refine ct (λh2=> ?_) (λh2=> ?_)
       .refine rg tT [6,8,25,26,27] ?_;refine rg tT [6,25,26,27] ?_;refine rg tT [6,25,26,27] ?_;refine WI.round ?_;refine nz ?_;refine rg tT [6,25,26,27,28] ?_;refine ce (λh2=> ?_) (λh2=> ?_)
        .exact absurd h2 (by decide)
        .refine rg tT [2] ?_;refine lf ?_
         first|rfl|(rw[YX J1])
       .exact absurd h2 (by decide)
      .exact absurd h2 (by decide)
   .exact absurd h0 (by decide)
 .exact absurd h0 (by decide)
open Go.RowKit Go.Bo Go.Ab
theorem ZbC{a b:List UInt8}(h:ZZ a=ZZ b):a=b:=by
 have:=congrArg (λx=>x.data.toList) h;simpa[ZZ]using this
theorem ZiM(l:List (List UInt8))(s:List UInt8):Lib.containsS (l.map ZZ) (ZZ s)=decide (s∈l):=by
 rw[Qj,Lib.containsS_iff,Zc,YT];exact⟨λ⟨a,h1,h2⟩=>ZbC h2▸h1,λh=>⟨s,h,rfl⟩⟩
theorem ZhQ(l:List (List UInt8))(s:List UInt8)(hl:l.length<=1000000):ZC Tryz.prog 133 [.x (.sl (rows ZA l)),.x (.str s)] (.x (.bool (decide (s∈l)))):=by
 intro w st vs hst hvl;obtain⟨hsz,hv⟩:=hvl;obtain⟨v0,v1,rfl⟩: ∃v0 v1,vs= #[v0,v1]:=by
  obtain⟨vl⟩:=vs
  match vl,hsz with
  | [a,b],_=>exact⟨a,b,rfl⟩
 have h0:=hv 0 _ v0 rfl rfl;have h1:=hv 1 _ v1 rfl rfl;clear hv hsz;cases h0 with
 |x h0=>
 cases h1 with
 |x h1=>
 cases h1 with
 |str _=>
 cases h0 with
 |sl _ a n c sz val hn hc hm hsz hcell hnil hsp hval=>
  rw[Zh]at hn;subst hn
  match l,hl,hc,hsz,hcell,hval with
  | [],_,_,_,_,_=>
   refine(Tryz.slices_Contains_string_empty a c (ZZ s) w).mono ?_;rintro e w' ⟨rfl,rfl⟩;exact⟨_,st,rfl,Kept.refl _ _,λ_ _ h=>h,λ_ _ h=> .inl h,.x (.bool _)⟩
  |x::r,hl,hc,hsz,hcell,hval=>
   obtain rfl:1=sz:=hsz [.str x] (by simp[rows,ZA]);obtain⟨b,off,rfl,hs0,_⟩:=hcell 0 0 J1 J0;have hcells: ∀j,j<((x::r).map ZZ).length->w.cell? ⟨b,off+j,none⟩=some (.string (((x::r).map ZZ).getD j ByteArray.empty)):=by
    intro j hj;rw[Yb]at hj;obtain⟨b',off',e,_,hw⟩:=hcell j 0 hj J0;simp only[Ze,Addr.mk.injEq]at e;obtain⟨rfl,rfl,_⟩:=e;have hx:=hval j 0 [.str (x::r)[j]] (.str (x::r)[j]) (by simp only[rows,YG,YC hj];rfl) rfl;have hd:((x::r).map ZZ).getD j ByteArray.empty=ZZ (x::r)[j]:=by rw[ZIW,YG,YC hj];rfl
    rw[show off+j=off+j*1+0 by omega,hw,hd];generalize val j 0=u at hx;cases hx with
    |str _=>rfl
   have:=Tryz.slices_Contains_string b off (x::r).length c ((x::r).map ZZ) (ZZ s) w J1 J0 hcells;rw[YX J1,ZiM]at this;refine this.mono ?_;rintro e w' ⟨rfl,rfl⟩;exact⟨_,st,rfl,Kept.refl _ _,λ_ _ h=>h,λ_ _ h=> .inl h,.x (.bool _)⟩
theorem ZMS:Go.Ab.Enters Tryz.prog 133:=Go.Proofs.enters_of Tryz.lays110.f110 J3 rfl
def ZH8:J8->J5
 | [.x (.sl R),.x (.str s)]=>(ZV ZA R).bind λl=>some (decide (l.length<=1000000),.x (.bool (decide (s∈l))))
 |_=>none
theorem ZR5: ∀args r,ZH8 args=some (true,r)->ZC Tryz.prog 133 args r:=by
 intro args r h;unfold ZH8 at h;split at h
 .rename_i R s;obtain⟨l,hr0,h⟩:=Zp h;simp only[Ze,Za,ZT,Zc,true_and]at h;obtain⟨h1,rfl⟩:=h;rw[<-ZY ZM hr0];exact(ZhQ l s h1)
 .cases h
def inB(s:Tx)(n:Nat):Bool:=s.any λx=>x.toNat==n
theorem ZTh(s:Tx)(i:Nat)(h:i<s.length):(s.map Zl)[i]? =some [X.int .u8 (s.getD i 0).toNat]:=by
 simp[h,Zl]
theorem Zhc(s:Tx)(n:Nat)(hl:s.length<=1000000):ZC Tryz.prog 202 [.x (.str s),.x (.int .u8 n)] (.x (.bool (inB s n))):=by
 refine ZI.pure (fC 202 true ?_) rfl;intro C0 E0;have uu:=YZ @Ys @Kw;have tT:=(ZD:SsOk Tryz.prog ZO);refine nz ?_;refine rg tT [0,1] ?_;refine rg tT [1,8,9,10] ?_;refine WI.loop (λφ os=> ∃(j:Nat),φ= [(1,.x (.int .u8 n)),(8,.ref 0 s.length 0 s.length),(9,.x (.int .i64 s.length)),(10,.x (.int .i64 j))]/\os= [.rows true 5 1 (s.map Zl)]/\j<=s.length/\inB (s.take j) n=false) (ZK s.length 10) ?_ (λφ os hI=> ?_)
 .exact⟨0,rfl,rfl,J0,rfl⟩
 .obtain⟨j,rfl,rfl,hj,hno⟩:=hI;refine nz ?_;refine rg tT [1,8,9,10,11] ?_;refine cd (λh0=> ?_) (λh0=> ?_)
  .have hj4:j<s.length:=by omega
   have hst:inB (s.take (j+1)) n=(inB (s.take j) n||((s.getD j 0).toNat==n)):=by unfold inB;rw[Jg hj4,List.any_append];simp[hj4]
   have uu:=YZ uu (ZTh s j hj4);refine rg tT [1,6,8,9,10] ?_;refine rg tT [1,8,9,10,16] ?_;refine cd (λh1=> ?_) (λh1=> ?_)
   .refine rg tT [4] ?_;refine lf ?_;have hz:((s.getD j 0).toNat:Int)=n:=by first|exact h1|simpa only[beq_iff_eq]using h1
    have hy:(s.getD j 0).toNat=n:=by omega
    rw[show inB s n=true from ZND.2 ⟨s[j],YM hj4,by rw[show s[j]=s.getD j 0 by simp[hj4]];simpa using hy⟩]
   .refine rg tT [1,8,9,10] ?_;exact⟨⟨j+1,rfl,rfl,J0,by rw[hst,hno];exact beq_false_of_ne (λe=>h1 (by rw[e]))⟩,by simp[ZK,Ab.get,D.val,ZE];omega⟩
  .refine rg tT [4] ?_;refine lf ?_;rw[YX J0]at hno;rw[hno]
def ZCK:J8->J5
 | [.x (.str s),.x (.int .u8 n)]=>some (decide (s.length<=1000000)&&(decide (0<=n)),.x (.bool (inB s n.toNat)))
 |_=>none
theorem ZNA: ∀args r,ZCK args=some (true,r)->ZC Tryz.prog 202 args r:=by
 intro args r h;unfold ZCK at h;split at h
 .rename_i s n;simp only[Ze,Za,ZT,Zc,true_and]at h;obtain⟨⟨h1,h2⟩,rfl⟩:=h;exact(by obtain⟨m,rfl⟩: ∃m:Nat,n=m:=⟨n.toNat,J0⟩;rw[ZIE];exact Zhc s m h1)
 .cases h
def Qf(n:Nat):Nat:=if 48<=n/\n<=57 then n-48 else if 97<=n/\n<=102 then n-97+10 else if 65<=n/\n<=70 then n-65+10 else 16
def ZBU(n:Nat):Nat×Bool:=if Qf n<16 then(Qf n,true)else(0,false)
def ZE4:List UInt8:= [48,49,50,51,52,53,54,55,56,57,97,98,99,100,101,102]
def ZNB(d c:Nat):Bool:=d==c||(decide (65<=c/\c<=70)&&d==c+32)
theorem Zea: ∀(k:Fin 16) (c:Fin 256),ZNB (ZE4.getD k.val 0).toNat c.val=true->ZBU c.val=(k.val,true):=by decide+kernel
theorem Zbr: ∀c:Fin 256,(∀k:Fin 16,ZNB (ZE4.getD k.val 0).toNat c.val=false)->ZBU c.val=(0,false):=by decide+kernel
theorem Zew(c:Nat)(hc:c<256)(h: ∀k,k<16->ZNB (ZE4.getD k 0).toNat c=false):ZBU c=(0,false):=Zbr ⟨c,hc⟩ (λk=>h k.val k.isLt)
theorem ZiU(n:Nat)(hn:n<256):ZC Tryz.prog 205 [.x (.int .u8 n)] (.x (.int .i64 (Qf n))):=by
 refine ZI.pure (fC 205 true ?_) rfl;intro C0 E0;have uu:=trivial;have tT:=(ZD:SsOk Tryz.prog ZO);refine nz ?_;refine rg tT [0] ?_;refine rg tT [0,3] ?_;refine cd (λh0=> ?_) (λh0=> ?_)
 .refine rg tT [2] ?_;refine lf ?_;rw[Qf,if_pos J0];congr 2;omega
 .refine rg tT [0,13] ?_;refine cd (λh1=> ?_) (λh1=> ?_)
  .refine rg tT [2] ?_;refine lf ?_;rw[Qf,if_neg J0,if_pos J0];congr 2;omega
  .refine rg tT [0,24] ?_;refine cd (λh2=> ?_) (λh2=> ?_)
   .refine rg tT [2] ?_;refine lf ?_;rw[Qf,if_neg J0,if_neg J0,if_pos J0];congr 2;omega
   .refine rg tT [2] ?_;refine lf ?_;rw[Qf,if_neg J0,if_neg J0,if_neg J0];rfl
def ZPL:J8->J5
 | [.x (.int .u8 n)]=>some (decide (0<=n/\n<256),.x (.int .i64 (Qf n.toNat)))
 |_=>none
theorem ZeF: ∀args r,ZPL args=some (true,r)->ZC Tryz.prog 205 args r:=by
 intro args r h;unfold ZPL at h;split at h
 .rename_i n;simp only[Ze,Za,ZT,Zc,true_and]at h;obtain⟨h1,rfl⟩:=h;exact(by obtain⟨m,rfl⟩: ∃m:Nat,n=m:=⟨n.toNat,J0⟩;rw[ZIE];exact ZiU m J0)
 .cases h
def ZhO:Tx:= [44,43,34,92,60,62,59,61]
def spc(n:Nat):Bool:=inB ZhO n
theorem ZhW(n:Nat):spc n=(decide ((n:Int)=44)||(decide ((n:Int)=43)||(decide ((n:Int)=34)||(decide ((n:Int)=92)||(decide ((n:Int)=60)||(decide ((n:Int)=62)||(decide ((n:Int)=59)||decide ((n:Int)=61)))))))):=by
 unfold spc inB ZhO;rw[Qj];simp only[ZV0,List.any_nil,ZBX,beq_iff_eq,Zc,ZFC,UInt8.reduceToNat];omega
theorem ZYZ(n:Nat):ZC Tryz.prog 204 [.x (.int .u8 n)] (.x (.bool (spc n))):=by
 have hq:=ZhW n;refine ZI.pure (fC 204 true ?_) rfl;intro C0 E0;have uu:=trivial;have tT:=(ZD:SsOk Tryz.prog ZO);refine nz ?_;refine rg tT [0] ?_;refine rg tT [2] ?_;refine lf ?_;clear uu;congr 2;rw[hq];grind
def ZAz:J8->J5
 | [.x (.int .u8 n)]=>some (decide (0<=n),.x (.bool (spc n.toNat)))
 |_=>none
theorem ZMR: ∀args r,ZAz args=some (true,r)->ZC Tryz.prog 204 args r:=by
 intro args r h;unfold ZAz at h;split at h
 .rename_i n;simp only[Ze,Za,ZT,Zc,true_and]at h;obtain⟨h1,rfl⟩:=h;exact(by obtain⟨m,rfl⟩: ∃m:Nat,n=m:=⟨n.toNat,J0⟩;rw[ZIE];exact ZYZ m)
 .cases h
def ZIX(n:Nat)(first:Bool):Bool:=decide (n<32)||decide (n=127)||(decide (n≠61)&&spc n)||(first&&decide (n=35))
def ZN6:Tabs:=ZR (ZO) 202 ZCK
theorem ZXU:SsOk Tryz.prog ZN6:=ZG (ZD) (ZU 202) ZNA
theorem ZdF:(∀a,ZN6.q 202 a=ZCK a)/\(∀f a o,ZN6.r f a o=none)/\(∀f a o,ZN6.k f a o=none):=⟨λ_=>rfl,λ_ _ _=>rfl,λ_ _ _=>rfl⟩
theorem ZcK(n:Nat)(b:Bool):ZC Tryz.prog 228 [.x (.int .u8 n),.x (.bool b)] (.x (.bool (ZIX n b))):=by
 have hq:inB [44,43,34,92,60,62,59,61] n=spc n:=rfl;refine ZI.pure (fC 228 true ?_) rfl;intro C0 E0;have uu:=ξ4 @ZCK.eq_1 @ZCK.eq_2 hq @ZdF;have tT:=ZXU;refine nz ?_;refine rg tT [0,1] ?_;refine rg tT [4] ?_;refine lf ?_;clear uu;unfold ZIX;congr 2;grind
def ZGY:J8->J5
 | [.x (.int .u8 n),.x (.bool b)]=>some (decide (0<=n),.x (.bool (ZIX n.toNat b)))
 |_=>none
theorem ZVm: ∀args r,ZGY args=some (true,r)->ZC Tryz.prog 228 args r:=by
 intro args r h;unfold ZGY at h;split at h
 .rename_i n b;simp only[Ze,Za,ZT,Zc,true_and]at h;obtain⟨h1,rfl⟩:=h;exact(by obtain⟨m,rfl⟩: ∃m:Nat,n=m:=⟨n.toNat,J0⟩;rw[ZIE];exact ZcK m b)
 .cases h
def ZRI:Value->Int
 | .int _ n=>n
 |_=>0
def ZWa:Array Value:= #[.int .u8 48,.int .u8 49,.int .u8 50,.int .u8 51,.int .u8 52,.int .u8 53,.int .u8 54,.int .u8 55,.int .u8 56,.int .u8 57,.int .u8 97,.int .u8 98,.int .u8 99,.int .u8 100,.int .u8 101,.int .u8 102]
theorem Zdd(c:Nat)(h1:65<=c)(h2:c<=70):IntKind.u8.wrap (IntKind.u8.wrap ((c:Int)-65)+97)=((c+32:Nat):Int):=by
 rw[IntWalk.u8_in ((c:Int)-65) J0,IntWalk.u8_in _ J0];omega
set_option maxHeartbeats 4000000 in
set_option maxRecDepth 100000 in
theorem ZVQ(c:Nat)(w:World)(hc:c<256):
  Calls Tryz.prog 238 #[.int .u8 c] w λe w'=>e= .returned (.tuple #[.int .u8 (ZBU c).1,.bool (ZBU c).2])/\Below w.heap.size w w':=by
 have kc:=λ(w:World) (C:Array Value) (n c:Nat)=>Lib.run_convert_bytes_const (P:=Tryz.prog) w 114 5 C n c Tryz.underlying114 Tryz.underlying5
 go_enter Tryz.func238,Tryz.ntmps238
 go_wp2_with fail
 go_loopw [9] (λi wr=> ∃(k:Nat),k<=16/\i= .int .i64 k/\wr=w.alloc (.cells ZWa 5 (16,17))/\ ∀m,m<k->ZNB (ZE4.getD m 0).toNat c=false) (λi _=>16-(ZRI i).toNat)
 case atStart=>exact⟨0,J0,rfl,rfl,by intro m hm;omega⟩
 case round=>
  obtain⟨k,hk,rfl,rfl,hno⟩:=hrel;have hcell: ∀m:Fin 16,(w.alloc (.cells ZWa 5 (16,17))).cell? ⟨w.heap.size,m.val,none⟩=some (.int .u8 (ZE4.getD m.val 0).toNat):=by
   intro m;have hb:(w.alloc (.cells ZWa 5 (16,17))).heap[w.heap.size]? =some (.cells ZWa 5 (16,17)):=by
    show(w.heap.push _)[w.heap.size]? =_;simp
   rw[Lib.cell_of_heap hb]
   revert m;intro m;rcases m with⟨m,hm⟩;(repeat(rcases m with _|m;rfl));omega
  by_cases hlt:k<16
  .have hc1:=hcell ⟨k,hlt⟩;have hat:=Zea ⟨k,hlt⟩ ⟨c,hc⟩;simp only at hc1 hat;cases hq:ZNB (ZE4.getD k 0).toNat c with
   |true=>
    have hat:=hat hq;have hk1:IntKind.u8.wrap (k:Int)=(k:Int):=IntWalk.u8_in _ J0;clear hno hcell;unfold ZNB at hq;generalize(ZE4.getD k 0).toNat=d at hc1 hq;by_cases h1:d=c
    .subst h1
     go_wp2_with fail
     all_goals first|exact bodyPost_ret (v:= .tuple #[.int .u8 (k:Int),.bool true]) (by simp[results,Tryz.results238,go_sem]) rfl ⟨by rw[hat],(Below.refl _ w).alloc (Zm _) _⟩|(exfalso;rename_i hx;revert hx;simp<;>omega)|(exfalso;revert q1;simp;done)|(exfalso;revert q4;simp only[hw]at*;simp_all<;>omega)|(exfalso;revert hq;simp<;>omega)
    .have h2:65<=c/\c<=70/\d=c+32:=by simp[h1]at hq;omega
     obtain⟨h21,h22,rfl⟩:=h2;have hw:=Zdd c h21 h22;have q1:decide (((c+32:Nat):Int)=(c:Int))=false:=decide_eq_false J0;have q2:decide ((c:Int)>=65)=true:=ZL J0;have q3:decide ((c:Int)<=70)=true:=ZL J0
     go_wp2_with fail
     all_goals first|exact bodyPost_ret (v:= .tuple #[.int .u8 (k:Int),.bool true]) (by simp[results,Tryz.results238,go_sem]) rfl ⟨by rw[hat],(Below.refl _ w).alloc (Zm _) _⟩|(exfalso;rename_i hx;revert hx;simp<;>omega)|(exfalso;revert q1;simp;done)|(exfalso;revert q4;simp only[hw]at*;simp_all<;>omega)|(exfalso;revert hq;simp<;>omega)
   |false=>
    have hq':=hq;unfold ZNB at hq;generalize(ZE4.getD k 0).toNat=d at hc1 hq;have q1:decide ((d:Int)=(c:Int))=false:=decide_eq_false (by simp at hq;omega);clear hcell hat;by_cases h1:65<=c
    .by_cases h2:c<=70
     .have hw:=Zdd c h1 h2;have q2:decide ((c:Int)>=65)=true:=ZL J0;have q3:decide ((c:Int)<=70)=true:=ZL J0;have q4:decide ((d:Int)=((c+32:Nat):Int))=false:=decide_eq_false (by simp[h1,h2]at hq;omega)
      go_wp2_with fail
      all_goals first|exact⟨⟨k+1,J0,by first|rfl|simp,trivial,λm hm=>if h:m=k then by subst h;exact hq' else hno m J0⟩,by simp[ZRI];omega⟩|(exfalso;rename_i hx;revert hx;simp<;>omega)|(exfalso;revert q1;simp;done)|(exfalso;revert q4;simp only[hw]at*;simp_all<;>omega)|(exfalso;revert hq;simp<;>omega)
     .have q2:decide ((c:Int)>=65)=true:=ZL J0;have q3:decide ((c:Int)<=70)=false:=decide_eq_false J0
      go_wp2_with fail
      all_goals first|exact⟨⟨k+1,J0,by first|rfl|simp,trivial,λm hm=>if h:m=k then by subst h;exact hq' else hno m J0⟩,by simp[ZRI];omega⟩|(exfalso;rename_i hx;revert hx;simp<;>omega)|(exfalso;revert q1;simp;done)|(exfalso;revert q4;simp only[hw]at*;simp_all<;>omega)|(exfalso;revert hq;simp<;>omega)
    .have q2:decide ((c:Int)>=65)=false:=decide_eq_false J0
     go_wp2_with fail
     all_goals first|exact⟨⟨k+1,J0,by first|rfl|simp,trivial,λm hm=>if h:m=k then by subst h;exact hq' else hno m J0⟩,by simp[ZRI];omega⟩|(exfalso;rename_i hx;revert hx;simp<;>omega)|(exfalso;revert q1;simp;done)|(exfalso;revert q4;simp only[hw]at*;simp_all<;>omega)|(exfalso;revert hq;simp<;>omega)
  .obtain rfl:k=16:=by omega
   have hnn:=Zew c hc hno;clear hno hcell
   go_wp2_with fail
   exact bodyPost_ret (v:= .tuple #[.int .u8 0,.bool false]) (by simp[results,Tryz.results238,go_sem]) rfl ⟨by rw[hnn];rfl,(Below.refl _ w).alloc (Zm _) _⟩
theorem Zel(n:Nat)(hn:n<256):ZC Tryz.prog 238 [.x (.int .u8 n)] (.tup [.x (.int .u8 (ZBU n).1),.x (.bool (ZBU n).2)]):=by
 intro w st vs hst hvl;obtain⟨hsz,hv⟩:=hvl;obtain⟨v0,rfl⟩: ∃v0,vs= #[v0]:=by
  obtain⟨vl⟩:=vs
  match vl,hsz with
  | [a],_=>exact⟨a,rfl⟩
 have h0:=hv 0 _ v0 rfl rfl;cases h0 with
 |x h0=>
 cases h0 with
 |int _ _=>
 refine(ZVQ n w hn).mono ?_;rintro e w' ⟨rfl,hb⟩;exact⟨_,st,rfl,⟨hb.os,hb.tape,hb.output,hb.size,λk hk _=>hb.block k hk⟩,λ_ _ h=>h,λ_ _ h=> .inl h,V.tup2 (.x (.int _ _)) _⟩
theorem ZS8:Go.Ab.Enters Tryz.prog 238:=enters_of Tryz.func238 J3 rfl
def ZI8:J8->J5
 | [.x (.int .u8 n)]=>some (decide (0<=n/\n<256),.tup [.x (.int .u8 (ZBU n.toNat).1),.x (.bool (ZBU n.toNat).2)])
 |_=>none
theorem ZZx: ∀args r,ZI8 args=some (true,r)->ZC Tryz.prog 238 args r:=by
 intro args r h;unfold ZI8 at h;split at h
 .rename_i n;simp only[Ze,Za,ZT,Zc,true_and]at h;obtain⟨h1,rfl⟩:=h;exact(by obtain⟨m,rfl⟩: ∃m:Nat,n=m:=⟨n.toNat,J0⟩;rw[ZIE];exact Zel m J0)
 .cases h
def trL(s:Tx):Tx:=s.dropWhile (· ==32)
def trR(s:Tx):Tx:=(s.reverse.dropWhile (· ==32)).reverse
theorem ZOM: ∀l:Tx,l.dropWhile (· ==32)= []↔ ∀x∈l,x=32
 | []=>by simp
 |c::l=>by
  rw[ZVt];by_cases h:c=32
  .simp[h,ZOM l]
  .simp[h]
theorem ZJG(r:Tx):(r== [])=decide (r.length=0):=by rcases r with _|⟨c,r⟩<;>simp
theorem ZMY{c:UInt8}(h:(c.toNat:Int)=32):c=32:=by
 apply ZMx.1;show c.toNat=32;omega
theorem ZCd(c:UInt8)(s:Tx):trL (c::s)=if c=32 then trL s else c::s:=by
 unfold trL;rw[ZVt];simp
theorem ZOw(s:Tx):(trL s).length<=s.length:=List.Sublist.length_le (List.dropWhile_sublist _)
theorem ZUn(s:Tx):(trR s).length<=s.length:=by
 unfold trR;rw[List.length_reverse];exact ZJw (List.Sublist.length_le (List.dropWhile_sublist _)) J1
theorem ZSb(s:Tx)(c:UInt8):trR (s++ [c])=if c=32 then trR s else s++ [c]:=by
 unfold trR;rw[List.reverse_append,ZMz,ZTP,ZAy,List.singleton_append,ZVt];split<;>simp_all
theorem ZiP(s:Tx)(h:0<s.length):s=s.getD 0 0::s.drop 1:=by
 rcases s with _|⟨c,s⟩
 .simp at h
 .rfl
theorem ZWk(s:Tx)(h:0<s.length):s=s.take (s.length-1)++ [s.getD (s.length-1) 0]:=by
 obtain⟨b,c,rfl⟩: ∃b c,s=b++ [c]:=⟨s.dropLast,s.getLast (by intro e;subst e;simp at h),(List.dropLast_concat_getLast _).symm⟩;simp
theorem ZNH(s:Tx)(h:0<s.length)(hc:s.getD 0 0=32):trL s=trL (s.drop 1):=by
 conv=>lhs;rw[ZiP s h]
 rw[ZCd,if_pos hc]
theorem ZMX(s:Tx)(h: ¬(0<s.length/\s.getD 0 0=32)):trL s=s:=by
 rcases s with _|⟨c,s⟩
 .rfl
 .rw[ZCd,if_neg (λe:c=32=>h ⟨J1,e⟩)]
theorem ZTS(s:Tx)(h:0<s.length)(hc:s.getD (s.length-1) 0=32):trR s=trR (s.take (s.length-1)):=by
 conv=>lhs;rw[ZWk s h]
 rw[ZSb,if_pos hc]
theorem ZSI(s:Tx)(h: ¬(0<s.length/\s.getD (s.length-1) 0=32)):trR s=s:=by
 by_cases h0:0<s.length
 .conv=>lhs;rw[ZWk s h0]
  rw[ZSb,if_neg (λe=>h ⟨h0,e⟩)];exact(ZWk s h0).symm
 .rw[show s= []from ZbB.1 J0];rfl
theorem Zaf(s:Tx)(hl:s.length<=1000000):ZC Tryz.prog 219 [.x (.str s),.x (.int .u8 32)] (.x (.str (trL s))):=by
 refine ZI.pure (fC 219 true ?_) rfl;intro C0 E0;have uu:=trivial;have tT:=(ZD:SsOk Tryz.prog ZO);refine nz ?_;refine rg tT [0,1] ?_;refine WI.loop (λφ os=> ∃(r:Tx),φ= [(0,.x (.str r)),(1,.x (.int .u8 32))]/\os= []/\r.length<=s.length/\trL s=trL r) ((λφ _=>match get φ 0 with| .x (.str r)=>r.length|_=>0)) ?_ (λφ os hI=> ?_)
 .exact⟨s,rfl,rfl,J0,rfl⟩
 .obtain⟨r,rfl,rfl,hr,he⟩:=hI;refine nz ?_;refine rg tT [0,1,13] ?_;refine cd (λh0=> ?_) (λh0=> ?_)
  .have h0p:0<r.length:=by omega
   have h0c:r.getD 0 0=32:=ZMY J0;refine rg tT [0,1] ?_;exact⟨⟨r.drop 1,rfl,rfl,by simp;omega,by rw[he,ZNH r h0p h0c]⟩,by show(r.drop 1).length<r.length;rw[Jj];omega⟩
  .have h0n: ¬(0<r.length/\r.getD 0 0=32):=λhh=>by
    have h2:((r.getD 0 0).toNat:Int)=32:=by rw[hh.2];rfl
    have h1:=hh.1;omega
   refine rg tT [4] ?_;refine lf ?_;rw[he,ZMX r h0n]
def ZEF:J8->J5
 | [.x (.str s),.x (.int .u8 32)]=>some (decide (s.length<=1000000),.x (.str (trL s)))
 |_=>none
theorem ZWn: ∀args r,ZEF args=some (true,r)->ZC Tryz.prog 219 args r:=by
 intro args r h;unfold ZEF at h;split at h
 .rename_i s;simp only[Ze,Za,ZT,Zc,true_and]at h;obtain⟨h1,rfl⟩:=h;exact(Zaf s h1)
 .cases h
theorem Zcw(s:Tx)(hl:s.length<=1000000):ZC Tryz.prog 220 [.x (.str s),.x (.int .u8 32)] (.x (.str (trR s))):=by
 refine ZI.pure (fC 220 true ?_) rfl;intro C0 E0;have uu:=trivial;have tT:=(ZD:SsOk Tryz.prog ZO);refine nz ?_;refine rg tT [0,1] ?_;refine WI.loop (λφ os=> ∃(r:Tx),φ= [(0,.x (.str r)),(1,.x (.int .u8 32))]/\os= []/\r.length<=s.length/\trR s=trR r) ((λφ _=>match get φ 0 with| .x (.str r)=>r.length|_=>0)) ?_ (λφ os hI=> ?_)
 .exact⟨s,rfl,rfl,J0,rfl⟩
 .obtain⟨r,rfl,rfl,hr,he⟩:=hI;have e1:((r.length:Int)-1).toNat=r.length-1:=by omega
  have uu:=YZ uu e1;refine nz ?_;refine rg tT [0,1,16] ?_;refine cd (λh0=> ?_) (λh0=> ?_)
  .have h0p:0<r.length:=by omega
   have h0c:r.getD (r.length-1) 0=32:=ZMY J0;refine rg tT [0,1] ?_;exact⟨⟨r.take (r.length-1),rfl,rfl,by simp;omega,by rw[he,ZTS r h0p h0c]⟩,by show(r.take (r.length-1)).length<r.length;rw[Yu];omega⟩
  .have h0n: ¬(0<r.length/\r.getD (r.length-1) 0=32):=λhh=>by
    have h2:((r.getD (r.length-1) 0).toNat:Int)=32:=by rw[hh.2];rfl
    have h1:=hh.1;omega
   refine rg tT [4] ?_;refine lf ?_;rw[he,ZSI r h0n]
def ZEA:J8->J5
 | [.x (.str s),.x (.int .u8 32)]=>some (decide (s.length<=1000000),.x (.str (trR s)))
 |_=>none
theorem ZWm: ∀args r,ZEA args=some (true,r)->ZC Tryz.prog 220 args r:=by
 intro args r h;unfold ZEA at h;split at h
 .rename_i s;simp only[Ze,Za,ZT,Zc,true_and]at h;obtain⟨h1,rfl⟩:=h;exact(Zcw s h1)
 .cases h
def ZK0:Tabs:=ZR (ZR (ZO) 219 ZEF) 220 ZEA
theorem ZPy:SsOk Tryz.prog ZK0:=ZG (ZG (ZD) (ZU 219) ZWn) (ZU 220) ZWm
theorem ZTR:(∀a,ZK0.q 219 a=ZEF a)/\(∀a,ZK0.q 220 a=ZEA a)/\(∀f a o,ZK0.r f a o=none)/\(∀f a o,ZK0.k f a o=none):=⟨λ_=>rfl,λ_=>rfl,λ_ _ _=>rfl,λ_ _ _=>rfl⟩
theorem ZVh(s:Tx)(hl:s.length<=1000000):ZC Tryz.prog 226 [.x (.str s),.x (.str [32])] (.x (.str (trL s))):=by
 refine ZI.pure (fC 226 true ?_) rfl;intro C0 E0;have uu:=ξ5 @ZEF.eq_1 @ZEF.eq_2 @ZEA.eq_1 @ZEA.eq_2 @ZTR;have tT:=ZPy;refine nz ?_;refine rg tT [0,1] ?_;refine rg tT [0,1,12] ?_;refine cd (λh0=> ?_) (λh0=> ?_)
 .refine rg tT [4] ?_;refine lf ?_;rw[show s= [] by simpa using h0];rfl
 .refine rg tT [0,1,21] ?_;refine ct (λh1=> ?_) (λh1=> ?_)
  .refine rg tT [4] ?_;refine lf ?_
   first|rfl|exact⟨rfl,rfl⟩|trivial
  .simp at h1
def ZEK:J8->J5
 | [.x (.str s),.x (.str [32])]=>some (decide (s.length<=1000000),.x (.str (trL s)))
 |_=>none
theorem ZRV: ∀args r,ZEK args=some (true,r)->ZC Tryz.prog 226 args r:=by
 intro args r h;unfold ZEK at h;split at h
 .rename_i s;simp only[Ze,Za,ZT,Zc,true_and]at h;obtain⟨h1,rfl⟩:=h;exact(ZVh s h1)
 .cases h
def ZEP(s:Tx):Tx:=trL (trR s)
theorem ZhE(s:Tx)(hl:s.length<=1000000):ZC Tryz.prog 207 [.x (.str s),.x (.str [32])] (.x (.str (ZEP s))):=by
 have hrl:=ZUn s;refine ZI.pure (fC 207 true ?_) rfl;intro C0 E0;have uu:=ξ5 @ZEF.eq_1 @ZEF.eq_2 @ZEA.eq_1 @ZEA.eq_2 @ZTR;have tT:=ZPy;refine nz ?_;refine rg tT [0,1] ?_;refine rg tT [0,1,12] ?_;refine cd (λh0=> ?_) (λh0=> ?_)
 .refine rg tT [4] ?_;refine lf ?_;rw[show s= [] by simpa using h0];rfl
 .refine rg tT [0,1,21] ?_;refine ct (λh1=> ?_) (λh1=> ?_)
  .refine WI.dregB tT [4] ?_
   iterate 2 refine YD ?_
   refine KR ?_;refine dAC ?_;refine YD ?_;refine KR ?_;refine dAC ?_;refine YD ?_;refine dN ?_;refine nz ?_;refine lf ?_
   first|rfl|exact⟨rfl,rfl⟩|trivial
  .simp at h1
def ZL4:J8->J5
 | [.x (.str s),.x (.str [32])]=>some (decide (s.length<=1000000),.x (.str (ZEP s)))
 |_=>none
theorem Zaw: ∀args r,ZL4 args=some (true,r)->ZC Tryz.prog 207 args r:=by
 intro args r h;unfold ZL4 at h;split at h
 .rename_i s;simp only[Ze,Za,ZT,Zc,true_and]at h;obtain⟨h1,rfl⟩:=h;exact(ZhE s h1)
 .cases h
theorem ZXB(s:Tx):trR (trL s)=ZEP s:=by
 unfold ZEP;by_cases h: ∀x∈s,x=32
 .have h1:trL s= []:=by unfold trL;rw[ZOM];intro x hx;exact h x hx
  have h2:trR s= []:=by unfold trR;rw[List.reverse_eq_nil_iff,ZOM];intro x hx;exact h x (by simpa using hx)
  rw[h1,h2];rfl
 .have key: ∀s:Tx,(∃x∈s,x≠32)->trR (trL s)=trL (trR s):=by
   intro s
   induction s with
   |nil=>rintro⟨x,hx,_⟩;simp at hx
   |cons c s ih=>
    intro hx;rw[ZCd];by_cases hc:c=32
    .subst hc;rw[if_pos rfl];have hx': ∃x∈s,x≠32:=by
      obtain⟨x,h1,h2⟩:=hx;rcases Kr.1 h1 with rfl|h1
      .exact absurd rfl h2
      .exact⟨x,h1,h2⟩
     rw[ih hx'];have e:trR (32::s)=32::trR s:=by
      unfold trR;obtain⟨x,h1,h2⟩:=hx';rw[ZMz,List.dropWhile_append];rw[if_neg (by rw[List.isEmpty_iff,ZOM];intro hh;exact h2 (hh x (by simpa using h1)))];simp
     rw[e,ZCd,if_pos rfl]
    .rw[if_neg hc];have e: ∃t,trR (c::s)=c::t:=by
      unfold trR;rw[ZMz,List.dropWhile_append];split
      .exact⟨[],by simp[hc]⟩
      .exact⟨(s.reverse.dropWhile (· ==32)).reverse,J1⟩
     obtain⟨t,e⟩:=e;rw[e,ZCd,if_neg hc]
  exact key s (by simpa using h)
theorem Zfn(s:Tx)(hl:s.length<=1000000):ZC Tryz.prog 183 [.x (.str s)] (.x (.str (ZEP s))):=by
 rw[<-ZXB];refine ZI.pure (fC 183 true ?_) rfl;intro C0 E0;have uu:=trivial;have tT:=(ZD:SsOk Tryz.prog ZO);refine nz ?_;refine WI.regB tT [0] ?_;refine oS ?_;refine oN ?_;refine nz ?_;refine WI.loop (λφ os=> ∃(r:Tx),φ= [(0,.x (.str r))]/\os= []/\r.length<=s.length/\trL s=trL r) ((λφ _=>match get φ 0 with| .x (.str r)=>r.length|_=>0)) ?_ (λφ os hI=> ?_)
 .exact⟨s,rfl,rfl,J0,rfl⟩
 .obtain⟨r,rfl,rfl,hr,he⟩:=hI;have hem:=ZJG r;refine nz ?_;refine WI.regB tT [0,9] ?_;refine oS ?_;refine oG (hok:=by first|exact se|(clear uu;grind)|exact sd) ?_;refine oS ?_
  iterate 4 refine oG (hok:=by first|exact se|(clear uu;grind)|exact sd) ?_
  refine oN ?_;refine nz ?_;refine cd (λh0=> ?_) (λh0=> ?_)
  .have h0p:0<r.length:=by rcases r with _|⟨c,r⟩;simp at h0;simp
   have h0c:r.getD 0 0=32:=by rcases r with _|⟨c,r⟩;simp at h0;exact ZMY (by simpa using h0)
   refine WI.regB tT [0] ?_;refine oS ?_;refine oG (hok:=by first|exact se|(clear uu;grind)|exact sd) ?_;refine oS ?_;refine oN ?_;refine nz ?_;exact⟨⟨r.drop 1,rfl,rfl,by simp;omega,by rw[he,ZNH r h0p h0c]⟩,by show(r.drop 1).length<r.length;rw[Jj];omega⟩
  .have h0n: ¬(0<r.length/\r.getD 0 0=32):=λhh=>by
    have h2:((r.getD 0 0).toNat:Int)=32:=by rw[hh.2];rfl
    have h3:r≠ []:=by rintro rfl;simp at hh
    grind
   refine WI.orderA [0] ?_;refine WI.loop (λφ os=> ∃(q:Tx),φ= [(0,.x (.str q))]/\os= []/\q.length<=s.length/\trR (trL s)=trR q) ((λφ _=>match get φ 0 with| .x (.str r)=>r.length|_=>0)) ?_ (λφ os hI=> ?_)
   .exact⟨r,rfl,rfl,J0,by rw[he,ZMX r h0n]⟩
   .obtain⟨q,rfl,rfl,hq,hee⟩:=hI;have e1:((q.length:Int)-1).toNat=q.length-1:=by omega
    have hem2:=ZJG q;have uu:=YZ uu e1;refine nz ?_;refine WI.regB tT [0,21] ?_;refine oS ?_;refine oG (hok:=by first|exact se|(clear uu;grind)|exact sd) ?_;refine oS ?_
    iterate 7 refine oG (hok:=by first|exact se|(clear uu;grind)|exact sd) ?_
    refine oN ?_;refine nz ?_;refine cd (λh1=> ?_) (λh1=> ?_)
    .have h1p:0<q.length:=by rcases q with _|⟨c,q⟩;simp at h1;simp
     have h1c:q.getD (q.length-1) 0=32:=ZMY (by have:=h1.2;omega);refine WI.regB tT [0] ?_
     iterate 2 refine oS ?_
     iterate 3 refine oG (hok:=by first|exact se|(clear uu;grind)|exact sd) ?_
     refine oS ?_;refine oN ?_;refine nz ?_;exact⟨⟨q.take (q.length-1),rfl,rfl,by simp;omega,by rw[hee,ZTS q h1p h1c]⟩,by show(q.take (q.length-1)).length<q.length;rw[Yu];omega⟩
    .have h1n: ¬(0<q.length/\q.getD (q.length-1) 0=32):=λhh=>by
      have h2:((q.getD (q.length-1) 0).toNat:Int)=32:=by rw[hh.2];rfl
      have h3:q≠ []:=by rintro rfl;simp at hh
      grind
     refine WI.regB tT [2] ?_
     iterate 2 refine oS ?_
     refine oN ?_;refine nz ?_;refine lf ?_;rw[hee,ZSI q h1n]
def ZJD:J8->J5
 | [.x (.str s)]=>some (decide (s.length<=1000000),.x (.str (ZEP s)))
 |_=>none
theorem ZaK: ∀args r,ZJD args=some (true,r)->ZC Tryz.prog 183 args r:=by
 intro args r h;unfold ZJD at h;split at h
 .rename_i s;simp only[Ze,Za,ZT,Zc,true_and]at h;obtain⟨h1,rfl⟩:=h;exact(Zfn s h1)
 .cases h
theorem Zi6: ∀(a b:Fin 16),IntKind.u8.wrap ((BitVec.ofInt IntKind.u8.bits (IntKind.u8.wrap ((a.val:Int)*2^min 4 IntKind.u8.bits))|||BitVec.ofInt IntKind.u8.bits (b.val:Int)).toNat:Int)=((UInt8.ofNat (16*a.val+b.val)).toNat:Int):=by decide+kernel
def orB(h l:Nat):UInt8:=UInt8.ofNat (16*h+l)
theorem ZjD(h l:Nat)(h1:h<16)(h2:l<16):IntKind.u8.wrap ((BitVec.ofInt IntKind.u8.bits (IntKind.u8.wrap ((h:Int)*2^min 4 IntKind.u8.bits))|||BitVec.ofInt IntKind.u8.bits (l:Int)).toNat:Int)=((orB h l).toNat:Int):=Zi6 ⟨_,h1⟩ ⟨_,h2⟩
theorem ZUb(n:Nat):(ZBU n).1<16:=by unfold ZBU;split<;>simp_all
def ZHb(a:UInt8):Bool:=spc a.toNat||decide (a.toNat=32)||decide (a.toNat=35)
def KD(s:Tx):UInt8×Nat×Bool:=
 if s= []then(0,0,false)
 else if ZHb (s.getD 0 0)=true then(s.getD 0 0,1,true)
 else if(ZBU (s.getD 0 0).toNat).2=false\/s.length<2 then(0,0,false)
 else(orB (ZBU (s.getD 0 0).toNat).1 (ZBU (s.getD 1 0).toNat).1,2,(ZBU (s.getD 1 0).toNat).2)
def ZLN:Tabs:=ZR (ZR (ZO) 202 ZCK) 238 ZI8
theorem ZY8:SsOk Tryz.prog ZLN:=ZG (ZG (ZD) (ZU 202) ZNA) ZS8 ZZx
theorem Zay:(∀a,ZLN.q 202 a=ZCK a)/\(∀a,ZLN.q 238 a=ZI8 a)/\(∀f a o,ZLN.r f a o=none)/\(∀f a o,ZLN.k f a o=none):=⟨λ_=>rfl,λ_=>rfl,λ_ _ _=>rfl,λ_ _ _=>rfl⟩
theorem ZhS(s:Tx)(hl:s.length<=1000000):ZC Tryz.prog 227 [.x (.str s)] (.tup [.x (.int .u8 (KD s).1.toNat),.x (.int .i64 (KD s).2.1),.x (.bool (KD s).2.2)]):=by
 have hq: ∀n,inB [44,43,34,92,60,62,59,61] n=spc n:=λn=>rfl
 have hem:=ZJG s;have hb0:(s.getD 0 0).toNat<256:=ZD0 _;have hb1:(s.getD 1 0).toNat<256:=ZD0 _;have hor:=ZjD _ _ (ZUb (s.getD 0 0).toNat) (ZUb (s.getD 1 0).toNat);rcases he:KD s with⟨x,n,b⟩
 unfold KD at he;have hfr:ZHb (s.getD 0 0)=(spc (s.getD 0 0).toNat||decide ((s.getD 0 0).toNat=32)||decide ((s.getD 0 0).toNat=35)):=rfl;refine ZI.pure (fC 227 true ?_) rfl;intro C0 E0;have uu:=ξ7 @ZCK.eq_1 @ZCK.eq_2 @ZI8.eq_1 @ZI8.eq_2 hq hor @Zay;have tT:=ZY8;refine nz ?_;refine WI.regB tT [0] ?_
 iterate 3 refine oS ?_
 refine oN ?_;refine nz ?_;refine WI.regB tT [0,9] ?_;refine oS ?_;refine oG (hok:=by first|exact se|(clear uu;grind)|exact sd) ?_;refine oN ?_;refine nz ?_;refine cd (λh0=> ?_) (λh0=> ?_)
 .refine WI.regB tT [2,3,4] ?_
  iterate 3 refine oS ?_
  refine oN ?_;refine nz ?_;refine lf ?_;rw[if_pos (by simpa using h0)]at he;cases he;rfl
 .have hne:s≠ []:=by simpa using h0
  rw[if_neg hne]at he;have hl1:0<s.length:=ZLa.2 hne;refine WI.regB tT [0,22] ?_;refine oS ?_;refine oG (hok:=by first|exact se|(clear uu;grind)|exact sd) ?_;refine oC (hok:=by first|exact se|(clear uu;grind)|exact sd) ?_;refine oS ?_
  iterate 4 refine oG (hok:=by first|exact se|(clear uu;grind)|exact sd) ?_
  refine oS ?_
  iterate 4 refine oG (hok:=by first|exact se|(clear uu;grind)|exact sd) ?_
  refine oN ?_;refine nz ?_;refine cd (λh1=> ?_) (λh1=> ?_)
  .refine WI.regB tT [2,3,4] ?_;refine oS ?_;refine oG (hok:=by first|exact se|(clear uu;grind)|exact sd) ?_
   iterate 3 refine oS ?_
   refine oN ?_;refine nz ?_;refine lf ?_;rw[if_pos (by rw[hfr];clear uu;grind)]at he;cases he;rfl
  .rw[if_neg (by rw[hfr];clear uu;grind)]at he;refine WI.regB tT [0,5,6] ?_;refine oS ?_;refine oG (hok:=by first|exact se|(clear uu;grind)|exact sd) ?_;refine oC (hok:=by first|exact se|(clear uu;grind)|exact sd) ?_;refine oS ?_
   iterate 2 refine oG ?_
   iterate 2 refine oS ?_
   refine oN ?_;refine nz ?_;refine WI.regB tT [0,5,37] ?_;refine oS ?_;refine oG (hok:=by first|exact se|(clear uu;grind)|exact sd) ?_;refine oS ?_
   iterate 4 refine oG (hok:=by first|exact se|(clear uu;grind)|exact sd) ?_
   refine oN ?_;refine nz ?_;refine cd (λh2=> ?_) (λh2=> ?_)
   .refine WI.regB tT [2,3,4] ?_
    iterate 3 refine oS ?_
    refine oN ?_;refine nz ?_;refine lf ?_;rw[if_pos (by clear uu;grind)]at he;cases he;rfl
   .rw[if_neg (by clear uu;grind)]at he;have hl2:2<=s.length:=by clear uu;grind
    refine WI.regB tT [5,6,7] ?_;refine oS ?_;refine oG (hok:=by first|exact se|(clear uu;grind)|exact sd) ?_;refine oC (hok:=by first|exact se|(clear uu;grind)|exact sd) ?_;refine oS ?_
    iterate 2 refine oG ?_
    iterate 2 refine oS ?_
    refine oN ?_;refine nz ?_;refine WI.regB tT [2,3,4] ?_;refine oS ?_;refine oG (hok:=by first|exact se|(clear uu;grind)|exact sd) ?_;refine oS ?_;refine oG (hok:=by first|exact se|(clear uu;grind)|exact sd) ?_
    iterate 4 refine oS ?_
    refine oN ?_;refine nz ?_;refine lf ?_;cases he;rfl
def ZLy:J8->J5
 | [.x (.str s)]=>some (decide (s.length<=1000000),.tup [.x (.int .u8 (KD s).1.toNat),.x (.int .i64 (KD s).2.1),.x (.bool (KD s).2.2)])
 |_=>none
theorem ZcB: ∀args r,ZLy args=some (true,r)->ZC Tryz.prog 227 args r:=by
 intro args r h;unfold ZLy at h;split at h
 .rename_i s;simp only[Ze,Za,ZT,Zc,true_and]at h;obtain⟨h1,rfl⟩:=h;exact(ZhS s h1)
 .cases h
end Go.Proofs.YtpjfdjcejamebaaGreatDoor
end
