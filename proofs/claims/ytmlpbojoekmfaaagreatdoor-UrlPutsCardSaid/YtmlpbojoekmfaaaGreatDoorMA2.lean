import Derived.Test.YtmlpbojoekmfaaaGreatDoorMA1
import Derived.Test.YtmlpbojoekmfaaaGreatDoorLA5
import Derived.Test.YtmlpbojoekmfaaaGreatDoorIc
import Derived.Test.YtmlpbojoekmfaaaGreatDoorSh
import Derived.Handy
import Derived.Lib.SlBytesConst
import Derived.Lib.SplitLaws
set_option linter.unusedSimpArgs false
set_option linter.unusedVariables false
section
namespace Go.Proofs.YtmlpbojoekmfaaaGreatDoor
open Go.RowKit Go.Bo Go.Ab
def uxN (n:Nat):Nat:=if 48≤n∧n≤57 then n-48 else if 65≤n∧n≤70 then n-65+10 else 16
def uxR (c:Nat):Nat×Bool:=if uxN c<16 then(uxN c,true)else(0,false)
theorem uxR_at: ∀k:Fin 16,uxR (udL.getD k.val 0).toNat=(k.val,true):=by decide+kernel
theorem uxR_noN: ∀c:Fin 256,(∀k:Fin 16,(udL.getD k.val 0).toNat≠c.val)→uxR c.val=(0,false):=by decide+kernel
theorem uxR_no (c:Nat) (hc:c<256) (h: ∀k,k<16→(udL.getD k 0).toNat≠c):uxR c=(0,false):=uxR_noN ⟨c,hc⟩ (fun k=>h k.val k.isLt)
def vIntU:Value→Int
 | .int _ n=>n
 |_=>0
def udC:Array Value:= #[.int .u8 48,.int .u8 49,.int .u8 50,.int .u8 51,.int .u8 52,.int .u8 53,.int .u8 54,.int .u8 55,.int .u8 56,.int .u8 57,.int .u8 65,.int .u8 66,.int .u8 67,.int .u8 68,.int .u8 69,.int .u8 70]
set_option maxHeartbeats 4000000 in
set_option maxRecDepth 100000 in
theorem uhalf_walk (c:Nat) (w:World) (hc:c<256):
  Calls Tryz.prog 43 #[.int .u8 c] w fun e w'=>e= .returned (.tuple #[.int .u8 (uxR c).1,.bool (uxR c).2])∧Below w.heap.size w w':=by
 have kc:=fun(w:World) (C:Array Value) (n c:Nat)=>Lib.run_convert_bytes_const (P:=Tryz.prog) w 52 5 C n c Tryz.underlying52 Tryz.underlying5
 go_enter Tryz.func43,Tryz.ntmps43
 go_wp2_with fail
 go_loopw [9] (fun i wr=> ∃(k:Nat),k≤16∧i= .int .i64 k∧wr=w.alloc (.cells udC 5 (16,17))∧ ∀m,m<k→(udL.getD m 0).toNat≠c) (fun i _=>16-(vIntU i).toNat)
 case atStart=>exact⟨0,by omega,rfl,rfl,by intro m hm;omega⟩
 case round=>
  obtain⟨k,hk,rfl,rfl,hno⟩:=hrel
  have hcell: ∀m:Fin 16,(w.alloc (.cells udC 5 (16,17))).cell? ⟨w.heap.size,m.val,none⟩=some (.int .u8 (udL.getD m.val 0).toNat):=by
   intro m
   have hb:(w.alloc (.cells udC 5 (16,17))).heap[w.heap.size]? =some (.cells udC 5 (16,17)):=by
    show(w.heap.push _)[w.heap.size]? =_
    simp
   rw[Lib.cell_of_heap hb]
   revert m;intro m;rcases m with⟨m,hm⟩;(repeat(rcases m with _|m;rfl));omega
  by_cases hlt:k<16
  ·have hc1:=hcell ⟨k,hlt⟩
   have hat:=uxR_at ⟨k,hlt⟩
   simp only at hc1 hat
   by_cases hq:(udL.getD k 0).toNat=c
   ·rw[hq]at hc1 hat
    have hk1:IntKind.u8.wrap (k:Int)=(k:Int):=IntWalk.u8_in _ (by omega)
    clear hno hcell
    go_wp2_with fail
    exact bodyPost_ret (v:= .tuple #[.int .u8 (k:Int),.bool true]) (by simp[results,Tryz.results43,go_sem]) rfl ⟨by rw[hat],(Below.refl _ w).alloc (Nat.le_refl _) _⟩
   ·have hq':=hq
    have hq1:decide (((udL.getD k 0).toNat:Int)=(c:Int))=false:=decide_eq_false (by omega)
    generalize(udL.getD k 0).toNat=d at hc1 hq hq1
    clear hcell
    go_wp2_with fail
    exact⟨⟨k+1,by omega,by first|rfl|simp,trivial,fun m hm=>if h:m=k then by subst h;exact hq' else hno m (by omega)⟩,by simp[vIntU];omega⟩
  ·obtain rfl:k=16:=by omega
   have hnn:=uxR_no c hc hno
   clear hno hcell
   go_wp2_with fail
   exact bodyPost_ret (v:= .tuple #[.int .u8 0,.bool false]) (by simp[results,Tryz.results43,go_sem]) rfl ⟨by rw[hnn];rfl,(Below.refl _ w).alloc (Nat.le_refl _) _⟩
theorem uhalf_c (n:Nat) (hn:n<256):PCalls Tryz.prog 43 [.x (.int .u8 n)] (.tup [.x (.int .u8 (uxR n).1),.x (.bool (uxR n).2)]):=by
 intro w st vs hst hvl
 obtain⟨hsz,hv⟩:=hvl
 obtain⟨v0,rfl⟩: ∃v0,vs= #[v0]:=by
  obtain⟨vl⟩:=vs
  match vl,hsz with
  | [a],_=>exact⟨a,rfl⟩
 have h0:=hv 0 _ v0 rfl rfl
 cases h0 with
 |x h0=>
 cases h0 with
 |int _ _=>
 refine(uhalf_walk n w hn).mono ?_
 rintro e w' ⟨rfl,hb⟩
 exact⟨_,st,rfl,⟨hb.os,hb.tape,hb.output,hb.size,fun k hk _=>hb.block k hk⟩,fun _ _ h=>h,fun _ _ h=> .inl h,V.tup2 (.x (.int _ _)) _⟩
theorem uhalf_enters:Go.Ab.Enters Tryz.prog 43:=enters_of Tryz.func43 (by kernel_rfl) rfl
def uhalfG:List D→Option (Bool×D)
 | [.x (.int .u8 n)]=>some (decide (0≤n∧n<256),.tup [.x (.int .u8 (uxR n.toNat).1),.x (.bool (uxR n.toNat).2)])
 |_=>none
theorem uhalfG_ok: ∀args r,uhalfG args=some (true,r)→PCalls Tryz.prog 43 args r:=by
 intro args r h
 unfold uhalfG at h
 split at h
 ·rename_i n
  simp only[ξI,ξP,ξa,ξe,true_and]at h
  obtain⟨h1,rfl⟩:=h
  exact(by obtain⟨m,rfl⟩: ∃m:Nat,n=m:=⟨n.toNat,by omega⟩;rw[Int.toNat_natCast];exact uhalf_c m (by omega))
 ·cases h
def ux (c:UInt8):Nat:=uxN c.toNat
def uxD:Tx→Option Tx
 | []=>some []
 |c::r=>if c=37 then match r with
   |h::l::r'=>if ux h<16∧ux l<16 then(uxD r').map (orB (ux h) (ux l):: ·)else none
   |_=>none
  else(uxD r).map (c:: ·)
theorem uxD_plain (s:Tx) (j:Nat) (h:j<s.length) (hc:s.getD j 0≠37):uxD (s.drop j)=(uxD (s.drop (j+1))).map (s.getD j 0:: ·):=by
 rw[drop_cons s j h]
 conv=>lhs;unfold uxD
 rw[if_neg hc]
theorem uxD_short (s:Tx) (j:Nat) (h:j<s.length) (hc:s.getD j 0=37) (h3:s.length-j<3):uxD (s.drop j)=none:=by
 rw[drop_cons s j h,hc]
 have hl:(s.drop (j+1)).length<2:=by simp;omega
 generalize s.drop (j+1)=r at hl
 match r,hl with
 | [],_=>rfl
 | [x],_=>rfl
theorem uxD_esc (s:Tx) (j:Nat) (h:j+2<s.length) (hc:s.getD j 0=37):uxD (s.drop j)=if ux (s.getD (j+1) 0)<16∧ux (s.getD (j+2) 0)<16 then(uxD (s.drop (j+3))).map (orB (ux (s.getD (j+1) 0)) (ux (s.getD (j+2) 0)):: ·)else none:=by
 rw[drop_cons s j (by omega),hc,drop_cons s (j+1) (by omega),drop_cons s (j+1+1) (by omega)]
 conv=>lhs;unfold uxD
 rw[if_pos rfl]
def plnU (s:Tx):Tx×Bool:=match uxD s with
 |none=>([],false)
 |some b=>(b,decide (ueS b=s))
theorem plnU_none (s:Tx) (h:uxD s=none):plnU s=([],false):=by unfold plnU;rw[h]
theorem plnU_some (s b:Tx) (h:uxD s=some b):plnU s=(b,decide (ueS b=s)):=by unfold plnU;rw[h]
theorem map_map_u (o:Option Tx) (b:Tx) (c:UInt8):(o.map (c:: ·)).map (b++ ·)=o.map ((b++ [c])++ ·):=by
 cases o<;>simp
theorem uxR_2 (n:Nat):(uxR n).2=decide (uxN n<16)∧(uxN n<16→(uxR n).1=uxN n):=by
 unfold uxR;split
 ·rename_i h;exact⟨by simp[h],fun _=>rfl⟩
 ·rename_i h;exact⟨by simp[h],fun h'=>absurd h' h⟩
theorem okU (c:UInt8):decide (0≤(c.toNat:Int)∧(c.toNat:Int)<256)=true:=by
 have:=UInt8.toNat_lt c
 exact ξt (by omega)
theorem okU2 (c:UInt8):decide ((c.toNat:Int)<256)=true:=by
 have:=UInt8.toNat_lt c
 exact ξt (by omega)
def tabUr2:Tabs:=addQ (addQ (noTabs) 43 uhalfG) 9 urlEscG
theorem tabUr2_ok:SsOk Tryz.prog tabUr2:=addQ_ok (addQ_ok (noTabs_ok) uhalf_enters uhalfG_ok) (G_enters G_ok (p:=i9) rfl) urlEscG_ok
theorem tabUr2_q43 (a:List D):tabUr2.q 43 a=uhalfG a:=rfl
theorem tabUr2_q9 (a:List D):tabUr2.q 9 a=urlEscG a:=rfl
theorem tabUr2_r (f:FuncId) (a:List D) (o:List Ob):tabUr2.r f a o=none:=rfl
theorem tabUr2_k (f:FuncId) (a:List D) (o:List Ob):tabUr2.k f a o=none:=rfl
set_option maxHeartbeats 2000000 in
theorem plain_c (s:Tx) (hl:s.length≤1000000):PCalls Tryz.prog 27 [.x (.str s)] (.tup [.x (.str (plnU s).1),.x (.bool (plnU s).2)]):=by
 refine FCalls.pure (fcallsG (fz:=true) G_ok (p:=i27) rfl _ (ξ rfl) _ (fun C0 E0=> ?_)) rfl
 dsimp only[i27,qt,qi,qs,qb,qm,qa,qh,qj,qT,qF,qe,ql,qL,qf,q2,q3,q8,qz,qp,qP,qc,qk,qx,qy,qo,qr,qC,argsφ]
 have uu:=ξn @uhalfG.eq_1 (ξn @uhalfG.eq_2 (ξn @urlEscG.eq_1 (ξn @urlEscG.eq_2 (ξn @bytes_all (ξn @bytes_row (ξn @tabUr2_r (ξn @tabUr2_k (ξn @tabUr2_q43 (@tabUr2_q9)))))))))
 have tT:=tabUr2_ok
 refine nz ?_
 refine WI.regB tT [0] ?_
 iterate 2 refine oS ?_
 refine oN ?_
 refine nz ?_
 refine WI.regB tT [0,4] ?_
 refine oS ?_
 refine oN ?_
 refine nz ?_
 refine WI.regB tT [0,4,5] ?_
 refine oS ?_
 refine oN ?_
 refine nz ?_
 refine WI.ownA 4 5 1 ?_
 refine WI.loop (fun φ os=> ∃(j:Nat) (b:Tx),φ= [(0,.x (.str s)),(4,.ref 0 b.length 0 b.length),(5,.x (.int .i64 j))]∧os= [.rows false 5 1 (b.map byteRow)]∧j≤s.length∧b.length≤j∧uxD s=(uxD (s.drop j)).map (b++ ·)) (down s.length 5) ?_ (fun φ os hI=> ?_)
 ·exact⟨0,[],rfl,rfl,by omega,by simp,by simp⟩
 ·obtain⟨j,b,rfl,rfl,hj,hbl,hun⟩:=hI
  refine nz ?_
  refine WI.regB tT [0,4,5,13] ?_
  iterate 2 refine oS ?_
  iterate 2 refine oG (hok:=by first|exact se|(clear uu;grind)|exact sd) ?_
  refine oN ?_
  refine nz ?_
  refine cd (fun h0=> ?_) (fun h0=> ?_)
  ·refine WI.regB tT [0,4,5,19] ?_
   iterate 2 refine oS ?_
   iterate 2 refine oG (hok:=by first|exact se|(clear uu;grind)|exact sd) ?_
   refine oN ?_
   refine nz ?_
   refine cd (fun h1=> ?_) (fun h1=> ?_)
   ·have hj4:j<s.length:=by omega
    have hst:=uxD_plain s j hj4 (neD (k:=37) (by decide) (by clear uu;grind))
    refine WI.post ?_
    refine WI.regB tT [0,4,5] ?_
    iterate 3 refine oS ?_
    iterate 3 refine oG (hok:=by first|exact se|(clear uu;grind)|exact sd) ?_
    refine oS ?_
    refine oP ?_
    refine pPick [0] ?_
    refine pEnd ?_
    refine nz ?_
    refine WI.regB tT [0,4,5] ?_
    refine oS ?_
    refine oG (hok:=by first|exact se|(clear uu;grind)|exact sd) ?_
    refine oS ?_
    refine oN ?_
    refine nz ?_
    exact⟨by first|exact⟨j+1,b++ [s.getD j 0],by first|(rw[ξA];done)|(rw[ξA];rfl),by first|(rw[bytes_snoc];done)|(rw[bytes_snoc];rfl),by omega,by rw[ξA];simp;omega,by rw[hun,hst,map_map_u]⟩|exact⟨j+3,b++ [orB (ux (s.getD (j+1) 0)) (ux (s.getD (j+2) 0))],by first|(rw[ξA];done)|(rw[ξA];rfl),by first|(rw[bytes_snoc];done)|(rw[bytes_snoc];rfl),by omega,by rw[ξA];simp;omega,by rw[hun,hst,map_map_u]⟩,by simp[down,Ab.get,D.val,intOf?];omega⟩
   ·have hj4:j<s.length:=by omega
    have hc:s.getD j 0=37:=cD (a:=37) (by clear uu;show((s.getD j 0).toNat:Int)=37;grind)
    refine WI.regB tT [0,4,5,30] ?_
    refine oS ?_
    refine oG (hok:=by first|exact se|(clear uu;grind)|exact sd) ?_
    refine oS ?_
    iterate 2 refine oG (hok:=by first|exact se|(clear uu;grind)|exact sd) ?_
    refine oN ?_
    refine nz ?_
    refine cd (fun h2=> ?_) (fun h2=> ?_)
    ·refine WI.regB tT [2,3] ?_
     iterate 2 refine oS ?_
     refine oN ?_
     refine nz ?_
     refine lf ?_
     rw[plnU_none s (by rw[hun,uxD_short s j hj4 hc (by omega)];rfl)]
    ·have e1:((j:Int)+1).toNat=j+1:=by omega
     have e2:((j:Int)+2).toNat=j+2:=by omega
     have hst:=uxD_esc s j (by omega) hc
     have g1:=uxR_2 (s.getD (j+1) 0).toNat
     have g2:=uxR_2 (s.getD (j+2) 0).toNat
     have uu:=ξn uu (ξn e1 (ξn e2 (ξn (okU (s.getD (j+1) 0)) (ξn (okU (s.getD (j+2) 0)) (ξn (okU2 (s.getD (j+1) 0)) (okU2 (s.getD (j+2) 0)))))))
     refine WI.regB tT [0,4,5,6,7] ?_
     iterate 2 refine oS ?_
     iterate 2 refine oG (hok:=by first|exact se|(clear uu;grind)|exact sd) ?_
     refine oC (hok:=by first|exact se|(clear uu;grind)|exact sd) ?_
     refine oS ?_
     iterate 2 refine oG ?_
     iterate 2 refine oS ?_
     refine oN ?_
     refine nz ?_
     refine WI.regB tT [0,4,5,6,7,8,9] ?_
     iterate 2 refine oS ?_
     iterate 2 refine oG (hok:=by first|exact se|(clear uu;grind)|exact sd) ?_
     refine oC (hok:=by first|exact se|(clear uu;grind)|exact sd) ?_
     refine oS ?_
     iterate 2 refine oG ?_
     iterate 2 refine oS ?_
     refine oN ?_
     refine nz ?_
     refine WI.regB tT [0,4,5,6,8,52] ?_
     refine oS ?_
     refine oG (hok:=by first|exact se|(clear uu;grind)|exact sd) ?_
     refine oS ?_
     iterate 3 refine oG (hok:=by first|exact se|(clear uu;grind)|exact sd) ?_
     refine oN ?_
     refine nz ?_
     refine cd (fun h3=> ?_) (fun h3=> ?_)
     ·refine WI.regB tT [2,3] ?_
      iterate 2 refine oS ?_
      refine oN ?_
      refine nz ?_
      refine lf ?_
      rw[plnU_none s (by rw[hun,hst,if_neg (by rintro⟨a,b⟩;unfold ux at a b;clear uu;grind)];rfl)]
     ·have hg:ux (s.getD (j+1) 0)<16∧ux (s.getD (j+2) 0)<16:=by unfold ux;clear uu;grind
      rw[if_pos hg]at hst
      have k1:(uxR (s.getD (j+1) 0).toNat).1=ux (s.getD (j+1) 0):=g1.2 hg.1
      have k2:(uxR (s.getD (j+2) 0).toNat).1=ux (s.getD (j+2) 0):=g2.2 hg.2
      have uu:=ξn uu (ξn k1 (ξn k2 (dorH _ _ hg.1 hg.2)))
      refine WI.post ?_
      refine WI.regB tT [0,4,5] ?_
      iterate 2 refine oS ?_
      refine oG (hok:=by first|exact se|(clear uu;grind)|exact sd) ?_
      refine oS ?_
      iterate 3 refine oG (hok:=by first|exact se|(clear uu;grind)|exact sd) ?_
      refine oS ?_
      refine oP ?_
      refine pPick [0] ?_
      refine pEnd ?_
      refine nz ?_
      refine WI.regB tT [0,4,5] ?_
      refine oS ?_
      refine oG (hok:=by first|exact se|(clear uu;grind)|exact sd) ?_
      refine oS ?_
      refine oN ?_
      refine nz ?_
      refine WI.regB tT [0,4,5] ?_
      refine oS ?_
      refine oG (hok:=by first|exact se|(clear uu;grind)|exact sd) ?_
      refine oS ?_
      refine oN ?_
      refine nz ?_
      exact⟨by first|exact⟨j+1,b++ [s.getD j 0],by first|(rw[ξA];done)|(rw[ξA];rfl),by first|(rw[bytes_snoc];done)|(rw[bytes_snoc];rfl),by omega,by rw[ξA];simp;omega,by rw[hun,hst,map_map_u]⟩|exact⟨j+3,b++ [orB (ux (s.getD (j+1) 0)) (ux (s.getD (j+2) 0))],by first|(rw[ξA];done)|(rw[ξA];rfl),by first|(rw[bytes_snoc];done)|(rw[bytes_snoc];rfl),by omega,by rw[ξA];simp;omega,by rw[hun,hst,map_map_u]⟩,by simp[down,Ab.get,D.val,intOf?];omega⟩
  ·have e8:(b.map byteRow).take b.length=b.map byteRow:=ξT (by simp)
   have e9:uxD s=some b:=by rw[hun,List.drop_of_length_le (by omega)];simp[uxD]
   have uu:=ξn uu e8
   refine WI.dregB tT [2,3] ?_
   refine dFS ?_
   refine dQG (hok:=by first|exact se|(clear uu;grind)|exact sd) ?_
   refine dFS ?_
   refine dQG (hok:=by first|exact se|(clear uu;grind)|exact sd) ?_
   refine dQC (hok:=by first|exact se|(clear uu;grind)|exact sd) ?_
   refine dFS ?_
   refine dFG (hok:=by first|exact se|(clear uu;grind)|exact sd) ?_
   iterate 2 refine dFS ?_
   refine dN ?_
   refine nz ?_
   refine lf ?_
   rw[plnU_some s b e9,show(ueS b==s)=decide (ueS b=s) by rw[Bool.eq_iff_iff];simp]
def plainG:List D→Option (Bool×D)
 | [.x (.str s)]=>some (decide (s.length≤1000000),.tup [.x (.str (plnU s).1),.x (.bool (plnU s).2)])
 |_=>none
theorem plainG_ok: ∀args r,plainG args=some (true,r)→PCalls Tryz.prog 27 args r:=by
 intro args r h
 unfold plainG at h
 split at h
 ·rename_i s
  simp only[ξI,ξP,ξa,ξe,true_and]at h
  obtain⟨h1,rfl⟩:=h
  exact(plain_c s h1)
 ·cases h
def scpT:D:= .agg [.x (.str [98,97,115,101]),.x (.str [111,110,101]),.x (.str [115,117,98])]
theorem scopes_c:PCalls Tryz.prog 16 [] scpT:=by
 unfold scpT
 refine FCalls.pure (fcallsG (fz:=true) G_ok (p:=i16) rfl _ (ξ rfl) _ (fun C0 E0=> ?_)) rfl
 dsimp only[i16,qt,qi,qs,qb,qm,qa,qh,qj,qT,qF,qe,ql,qL,qf,q2,q3,q8,qz,qp,qP,qc,qk,qx,qy,qo,qr,qC,argsφ]
 have uu:=trivial
 have tT:=(noTabs_ok:SsOk Tryz.prog noTabs)
 refine nz ?_
 refine rg tT [0] ?_
 refine rg tT [0] ?_
 refine lf ?_
 first|rfl|exact⟨rfl,rfl⟩|trivial
def scopesG:List D→Option (Bool×D)
 | []=>some (true,scpT)
 |_=>none
theorem scopesG_ok: ∀args r,scopesG args=some (true,r)→PCalls Tryz.prog 16 args r:=by
 intro args r h
 unfold scopesG at h
 split at h
 ·simp only[ξI,ξP,ξa,ξe,true_and]at h
  obtain rfl:=h
  exact scopes_c
 ·cases h
def scpN (s:Tx):Int:=if s= [98,97,115,101]then 0 else if s= [111,110,101]then 1 else if s= [115,117,98]then 2 else-1
def tabUr3:Tabs:=addQ (noTabs) 16 scopesG
theorem tabUr3_ok:SsOk Tryz.prog tabUr3:=addQ_ok (noTabs_ok) (G_enters G_ok (p:=i16) rfl) scopesG_ok
theorem tabUr3_q16 (a:List D):tabUr3.q 16 a=scopesG a:=rfl
theorem tabUr3_r (f:FuncId) (a:List D) (o:List Ob):tabUr3.r f a o=none:=rfl
theorem tabUr3_k (f:FuncId) (a:List D) (o:List Ob):tabUr3.k f a o=none:=rfl
theorem scope_c (s:Tx):PCalls Tryz.prog 28 [.x (.str s)] (.x (.int .i64 (scpN s))):=by
 unfold scpN
 refine FCalls.pure (fcallsG (fz:=true) G_ok (p:=i28) rfl _ (ξ rfl) _ (fun C0 E0=> ?_)) rfl
 dsimp only[i28,qt,qi,qs,qb,qm,qa,qh,qj,qT,qF,qe,ql,qL,qf,q2,q3,q8,qz,qp,qP,qc,qk,qx,qy,qo,qr,qC,argsφ]
 have uu:=ξn @scopesG.eq_1 (ξn @scopesG.eq_2 (ξn @scpT.eq_1 (ξn @tabUr3_r (ξn @tabUr3_k (@tabUr3_q16)))))
 have tT:=tabUr3_ok
 refine nz ?_
 refine rg tT [0] ?_
 refine rg tT [0,5,6] ?_
 refine WI.loopN 4 ?_
 refine WI.round ?_
 refine nz ?_
 refine rg tT [0,5,6,7] ?_
 refine ct (fun h0=> ?_) (fun h0=> ?_)
 ·refine rg tT [0,3,4,5,6] ?_
  refine rg tT [0,3,5,6,12] ?_
  refine cd (fun h1=> ?_) (fun h1=> ?_)
  ·refine rg tT [2] ?_
   refine lf ?_
   clear uu;congr 2;grind
  ·refine rg tT [0,5,6] ?_
   refine WI.round ?_
   refine nz ?_
   refine rg tT [0,5,6,7] ?_
   refine ct (fun h0=> ?_) (fun h0=> ?_)
   ·refine rg tT [0,3,4,5,6] ?_
    refine rg tT [0,3,5,6,12] ?_
    refine cd (fun h1=> ?_) (fun h1=> ?_)
    ·refine rg tT [2] ?_
     refine lf ?_
     clear uu;congr 2;grind
    ·refine rg tT [0,5,6] ?_
     refine WI.round ?_
     refine nz ?_
     refine rg tT [0,5,6,7] ?_
     refine ct (fun h0=> ?_) (fun h0=> ?_)
     ·refine rg tT [0,3,4,5,6] ?_
      refine rg tT [0,3,5,6,12] ?_
      refine cd (fun h1=> ?_) (fun h1=> ?_)
      ·refine rg tT [2] ?_
       refine lf ?_
       clear uu;congr 2;grind
      ·refine rg tT [0,5,6] ?_
       refine WI.round ?_
       refine nz ?_
       refine rg tT [0,5,6,7] ?_
       refine ce (fun h0=> ?_) (fun h0=> ?_)
       ·exact absurd h0 (by decide)
       ·refine rg tT [2] ?_
        refine lf ?_
        clear uu;congr 2;grind
     ·exact absurd h0 (by decide)
   ·exact absurd h0 (by decide)
 ·exact absurd h0 (by decide)
def scopeG:List D→Option (Bool×D)
 | [.x (.str s)]=>some (true,.x (.int .i64 (scpN s)))
 |_=>none
theorem scopeG_ok: ∀args r,scopeG args=some (true,r)→PCalls Tryz.prog 28 args r:=by
 intro args r h
 unfold scopeG at h
 split at h
 ·rename_i s
  simp only[ξI,ξP,ξa,ξe,true_and]at h
  obtain rfl:=h
  exact(scope_c s)
 ·cases h
def smT (a:List Tx):Prop:= ∀x∈a,x.length≤1000000
instance (a:List Tx):Decidable (smT a):=by unfold smT;infer_instance
def namU (d:Tx) (a:List Tx):Bool:=((readS d).2==0)&&a.all typB
theorem rtx_row (a:List Tx) (j:Nat) (h:j<a.length):(rows rStr a)[j]? =some [X.str (a.getD j [])]:=by
 simp[rows,h,rStr]
def tabUr4:Tabs:=addQ (addQ (noTabs) 44 readDG) 45 typedUG
theorem tabUr4_ok:SsOk Tryz.prog tabUr4:=addQ_ok (addQ_ok (noTabs_ok) (G_enters G_ok (p:=i44) rfl) readDG_ok) (G_enters G_ok (p:=i45) rfl) typedUG_ok
theorem tabUr4_q44 (a:List D):tabUr4.q 44 a=readDG a:=rfl
theorem tabUr4_q45 (a:List D):tabUr4.q 45 a=typedUG a:=rfl
theorem tabUr4_r (f:FuncId) (a:List D) (o:List Ob):tabUr4.r f a o=none:=rfl
theorem tabUr4_k (f:FuncId) (a:List D) (o:List Ob):tabUr4.k f a o=none:=rfl
theorem named_c (ho d f:Tx) (a:List Tx) (sc:Int) (ha:a.length≤64) (hs:smT a):PCalls Tryz.prog 30 [.agg [.x (.str ho),.x (.str d),.x (.str f),.x (.sl (rows rStr a)),.x (.int .i64 sc)]] (.x (.bool (namU d a))):=by
 unfold namU
 refine FCalls.pure (fcallsG (fz:=true) G_ok (p:=i30) rfl _ (ξ rfl) _ (fun C0 E0=> ?_)) rfl
 dsimp only[i30,qt,qi,qs,qb,qm,qa,qh,qj,qT,qF,qe,ql,qL,qf,q2,q3,q8,qz,qp,qP,qc,qk,qx,qy,qo,qr,qC,argsφ]
 have uu:=ξn @readDG.eq_1 (ξn @readDG.eq_2 (ξn @typedUG.eq_1 (ξn @typedUG.eq_2 (ξn @tabUr4_r (ξn @tabUr4_k (ξn @tabUr4_q44 (@tabUr4_q45)))))))
 have tT:=tabUr4_ok
 refine nz ?_
 refine WI.regB tT [1] ?_
 refine oG ?_
 refine oS ?_
 refine oN ?_
 refine nz ?_
 refine WI.regB tT [1,4] ?_
 refine oS ?_
 refine oG (hok:=by first|exact se|(clear uu;grind)|exact sd) ?_
 refine oC (hok:=by first|exact se|(clear uu;grind)|exact sd) ?_
 refine oS ?_
 iterate 2 refine oG ?_
 iterate 2 refine oS ?_
 refine oN ?_
 refine nz ?_
 refine WI.regB tT [1,5] ?_
 refine oS ?_
 refine oG (hok:=by first|exact se|(clear uu;grind)|exact sd) ?_
 refine oS ?_
 refine oN ?_
 refine nz ?_
 refine WI.regB tT [5,17,18,19] ?_
 refine oS ?_
 iterate 2 refine oG (hok:=by first|exact se|(clear uu;grind)|exact sd) ?_
 refine oS ?_
 refine oN ?_
 refine nz ?_
 refine WI.loop (fun φ os=> ∃(j:Nat),φ= [(5,.x (.bool (((readS d).2==0)&&(a.take j).all typB))),(17,.x (.sl (rows rStr a))),(18,.x (.int .i64 a.length)),(19,.x (.int .i64 j))]∧os= [.box [.x (.str ho),.x (.str d),.x (.str f),.x (.sl (rows rStr a)),.x (.int .i64 sc)]]∧j≤a.length) (down a.length 19) ?_ (fun φ os hI=> ?_)
 ·exact⟨0,by simp,rfl,by omega⟩
 ·obtain⟨j,rfl,rfl,hj⟩:=hI
  refine nz ?_
  refine WI.regB tT [5,17,18,19,20] ?_
  refine oG (hok:=by first|exact se|(clear uu;grind)|exact sd) ?_
  refine oN ?_
  refine nz ?_
  refine cd (fun h0=> ?_) (fun h0=> ?_)
  ·have hj4:j<a.length:=by omega
   have hdj:a[j]=a.getD j []:=by simp[hj4]
   have hsm:decide ((a.getD j []).length≤1000000)=true:=ξt (by rw[←hdj];exact hs _ (List.getElem_mem hj4))
   have uu:=ξn uu (ξn (rtx_row a j hj4) hsm)
   refine WI.regB tT [5,7,17,18,19] ?_
   iterate 2 refine oG (hok:=by first|exact se|(clear uu;grind)|exact sd) ?_
   refine oS ?_
   refine oN ?_
   refine nz ?_
   refine WI.regB tT [5,17,18,19] ?_
   iterate 2 refine oS ?_
   refine oG (hok:=by first|exact se|(clear uu;grind)|exact sd) ?_
   refine oC (hok:=by first|exact se|(clear uu;grind)|exact sd) ?_
   refine oG (hok:=by first|exact se|(clear uu;grind)|exact sd) ?_
   refine oS ?_
   refine oN ?_
   refine nz ?_
   refine WI.regB tT [5,17,18,19] ?_
   refine oG (hok:=by first|exact se|(clear uu;grind)|exact sd) ?_
   refine oS ?_
   refine oN ?_
   refine nz ?_
   exact⟨⟨j+1,by rw[all_snoc _ a j hj4,hdj,←Bool.and_assoc];first|rfl,rfl,by omega⟩,by simp[down,Ab.get,D.val,intOf?];omega⟩
  ·refine WI.regB tT [2] ?_
   iterate 2 refine oS ?_
   refine oN ?_
   refine nz ?_
   refine lf ?_
   rw[ξT (by omega)]
def namedG:List D→Option (Bool×D)
 | [.agg [.x (.str ho),.x (.str d),.x (.str f),.x (.sl A),.x (.int .i64 sc)]]=>(unrows rStr A).bind fun a=>some (decide (a.length≤64∧smT a),.x (.bool (namU d a)))
 |_=>none
theorem namedG_ok: ∀args r,namedG args=some (true,r)→PCalls Tryz.prog 30 args r:=by
 intro args r h
 unfold namedG at h
 split at h
 ·rename_i ho d f A sc
  obtain⟨a,hr0,h⟩:=ξB h
  simp only[ξI,ξP,ξa,ξe,true_and]at h
  obtain⟨h1,rfl⟩:=h
  rw[←rows_unrows good_rStr hr0]
  exact(named_c ho d f a sc h1.1 h1.2)
 ·cases h
theorem plainL_c (n:Nat) (hn:n<256):PCalls Tryz.prog 23 [.x (.int .u8 n)] (.x (.bool (uok n))):=by
 have hu:uok n=(alN n||inB markL n):=rfl
 have ha:alN n=(decide (65≤n∧n≤90)||decide (97≤n∧n≤122)||decide (48≤n∧n≤57)):=rfl
 refine FCalls.pure (fcallsG (fz:=true) G_ok (p:=i23) rfl _ (ξ rfl) _ (fun C0 E0=> ?_)) rfl
 dsimp only[i23,qt,qi,qs,qb,qm,qa,qh,qj,qT,qF,qe,ql,qL,qf,q2,q3,q8,qz,qp,qP,qc,qk,qx,qy,qo,qr,qC,argsφ]
 have uu:=trivial
 have tT:=(noTabs_ok:SsOk Tryz.prog noTabs)
 refine nz ?_
 refine WI.regB tT [0] ?_
 refine oS ?_
 refine oN ?_
 refine nz ?_
 refine WI.regB tT [0,26] ?_
 refine oS ?_
 refine oG (hok:=by first|exact se|(clear uu;grind)|exact sd) ?_
 refine oS ?_
 iterate 3 refine oG (hok:=by first|exact se|(clear uu;grind)|exact sd) ?_
 refine oS ?_
 iterate 7 refine oG (hok:=by first|exact se|(clear uu;grind)|exact sd) ?_
 refine oS ?_
 iterate 7 refine oG (hok:=by first|exact se|(clear uu;grind)|exact sd) ?_
 refine oN ?_
 refine nz ?_
 refine cd (fun h0=> ?_) (fun h0=> ?_)
 ·refine WI.regB tT [2] ?_
  refine oS ?_
  refine oN ?_
  refine nz ?_
  refine lf ?_
  rw[hu,show alN n=true by rw[ha];clear uu;grind];rfl
 ·refine WI.regB tT [0,3] ?_
  refine oS ?_
  refine oN ?_
  refine nz ?_
  refine WI.regB tT [0,3,4] ?_
  refine oS ?_
  refine oN ?_
  refine nz ?_
  refine WI.loop (fun φ os=> ∃(j:Nat),φ= [(0,.x (.int .u8 n)),(3,.x (.str markL)),(4,.x (.int .i64 j))]∧os= []∧j≤13∧inB (markL.take j) n=false) (down 13 4) ?_ (fun φ os hI=> ?_)
  ·exact⟨0,rfl,rfl,by omega,rfl⟩
  ·obtain⟨j,rfl,rfl,hj,hno⟩:=hI
   have hml:markL.length=13:=rfl
   refine nz ?_
   refine WI.regB tT [0,3,4,30] ?_
   iterate 2 refine oS ?_
   iterate 2 refine oG (hok:=by first|exact se|(clear uu;grind)|exact sd) ?_
   refine oN ?_
   refine nz ?_
   refine cd (fun h1=> ?_) (fun h1=> ?_)
   ·have hj4:j<markL.length:=by omega
    have hst:inB (markL.take (j+1)) n=(inB (markL.take j) n||((markL.getD j 0).toNat==n)):=by unfold inB;rw[List.take_succ_eq_append_getElem hj4,List.any_append];simp[hj4]
    refine WI.regB tT [0,3,4,37] ?_
    iterate 2 refine oS ?_
    refine oG (hok:=by first|exact se|(clear uu;grind)|exact sd) ?_
    refine oS ?_
    refine oG (hok:=by first|exact se|(clear uu;grind)|exact sd) ?_
    refine oN ?_
    refine nz ?_
    refine cd (fun h2=> ?_) (fun h2=> ?_)
    ·refine WI.regB tT [2] ?_
     refine oS ?_
     refine oN ?_
     refine nz ?_
     refine lf ?_
     have hz:((markL.getD j 0).toNat:Int)=n:=by first|exact h2|simpa only[beq_iff_eq]using h2
     have hy:(markL.getD j 0).toNat=n:=by omega
     rw[hu,show inB markL n=true from List.any_eq_true.2 ⟨markL[j],List.getElem_mem hj4,by rw[show markL[j]=markL.getD j 0 by simp[hj4]];simpa using hy⟩,Bool.or_true]
    ·refine WI.regB tT [0,3,4] ?_
     refine oS ?_
     refine oG (hok:=by first|exact se|(clear uu;grind)|exact sd) ?_
     refine oS ?_
     refine oN ?_
     refine nz ?_
     exact⟨⟨j+1,rfl,rfl,by omega,by rw[hst,hno];exact beq_false_of_ne (fun e=>h2 (by rw[e]))⟩,by simp[down,Ab.get,D.val,intOf?];omega⟩
   ·refine WI.regB tT [2] ?_
    refine oS ?_
    refine oN ?_
    refine nz ?_
    refine lf ?_
    rw[ξT (by omega)]at hno;rw[hu,hno,show alN n=false by rw[ha];clear uu;grind];rfl
def plainLG:List D→Option (Bool×D)
 | [.x (.int .u8 n)]=>some (decide (0≤n∧n<256),.x (.bool (uok n.toNat)))
 |_=>none
theorem plainLG_ok: ∀args r,plainLG args=some (true,r)→PCalls Tryz.prog 23 args r:=by
 intro args r h
 unfold plainLG at h
 split at h
 ·rename_i n
  simp only[ξI,ξP,ξa,ξe,true_and]at h
  obtain⟨h1,rfl⟩:=h
  exact(by obtain⟨m,rfl⟩: ∃m:Nat,n=m:=⟨n.toNat,by omega⟩;rw[Int.toNat_natCast];exact plainL_c m (by omega))
 ·cases h
theorem uhex_slN: ∀m:Fin 16,(udL.take (m.val+1)).drop m.val= [udg m.val]:=by decide+kernel
theorem uhex_sl (m:Nat) (h:m<16):(udL.take (m+1)).drop m= [udg m]:=uhex_slN ⟨m,h⟩
theorem uwrap1 (m:Nat) (h:m<16):IntKind.u8.wrap ((m:Int)+1)=((m+1:Nat):Int):=by rw[IntWalk.u8_in _ (by omega)];rfl
theorem usl_one (s:List UInt8) (j:Nat) (h:j<s.length):List.drop j (List.take ((j:Int)+1).toNat s)= [s.getD j 0]:=by
 rw[show((j:Int)+1).toNat=j+1 by omega,List.take_succ_eq_append_getElem h,List.drop_append_of_le_length (by simp;omega),List.drop_of_length_le (by simp;omega)];simp[h]
theorem ok8 (c:UInt8):decide (0≤(c.toNat:Int)∧(c.toNat:Int)<256)=true:=by
 have:=UInt8.toNat_lt c
 exact ξt (by omega)
def tabUs1:Tabs:=addQ (noTabs) 23 plainLG
theorem tabUs1_ok:SsOk Tryz.prog tabUs1:=addQ_ok (noTabs_ok) (G_enters G_ok (p:=i23) rfl) plainLG_ok
theorem tabUs1_q23 (a:List D):tabUs1.q 23 a=plainLG a:=rfl
theorem tabUs1_r (f:FuncId) (a:List D) (o:List Ob):tabUs1.r f a o=none:=rfl
theorem tabUs1_k (f:FuncId) (a:List D) (o:List Ob):tabUs1.k f a o=none:=rfl
theorem escL_c (s:Tx) (hl:s.length≤1000000):PCalls Tryz.prog 10 [.x (.str s)] (.x (.str (ueS s))):=by
 refine FCalls.pure (fcallsG (fz:=true) G_ok (p:=i10) rfl _ (ξ rfl) _ (fun C0 E0=> ?_)) rfl
 dsimp only[i10,qt,qi,qs,qb,qm,qa,qh,qj,qT,qF,qe,ql,qL,qf,q2,q3,q8,qz,qp,qP,qc,qk,qx,qy,qo,qr,qC,argsφ]
 have uu:=ξn @plainLG.eq_1 (ξn @plainLG.eq_2 (ξn @tabUs1_r (ξn @tabUs1_k (@tabUs1_q23))))
 have tT:=tabUs1_ok
 refine nz ?_
 refine WI.regB tT [0] ?_
 refine oS ?_
 refine oN ?_
 refine nz ?_
 refine WI.regB tT [0,3] ?_
 refine oS ?_
 refine oN ?_
 refine nz ?_
 refine WI.regB tT [0,3,4] ?_
 refine oS ?_
 refine oN ?_
 refine nz ?_
 refine WI.regB tT [0,3,4,5] ?_
 refine oS ?_
 refine oN ?_
 refine nz ?_
 refine WI.loop (fun φ os=> ∃(j:Nat),φ= [(0,.x (.str s)),(3,.x (.str udL)),(4,.x (.str (ueS (s.take j)))),(5,.x (.int .i64 j))]∧os= []∧j≤s.length) (down s.length 5) ?_ (fun φ os hI=> ?_)
 ·exact⟨0,rfl,rfl,by omega⟩
 ·obtain⟨j,rfl,rfl,hj⟩:=hI
  refine nz ?_
  refine WI.regB tT [0,3,4,5,9] ?_
  iterate 2 refine oS ?_
  iterate 2 refine oG (hok:=by first|exact se|(clear uu;grind)|exact sd) ?_
  refine oN ?_
  refine nz ?_
  refine cd (fun h0=> ?_) (fun h0=> ?_)
  ·have hj4:j<s.length:=by omega
   have hle:=ueS_len (s.take j)
   rw[List.length_take]at hle
   have hle2:(ueS (s.take j)).length≤3000000:=by omega
   have hst:=ueS_take s j hj4
   have hb8:(s.getD j 0).toNat<256:=UInt8.toNat_lt _
   have uu:=ξn uu (ok8 (s.getD j 0))
   refine WI.regB tT [0,3,4,5,15] ?_
   iterate 2 refine oS ?_
   refine oG (hok:=by first|exact se|(clear uu;grind)|exact sd) ?_
   refine oC (hok:=by first|exact se|(clear uu;grind)|exact sd) ?_
   refine oN ?_
   refine nz ?_
   refine cd (fun h1=> ?_) (fun h1=> ?_)
   ·have hn:ueB (s.getD j 0)= [s.getD j 0]:=by rw[ueB,if_pos (by clear uu;grind)]
    have uu:=ξn uu (usl_one s j hj4)
    refine WI.regB tT [0,3,4,5] ?_
    iterate 4 refine oS ?_
    iterate 3 refine oG (hok:=by first|exact se|(clear uu;grind)|exact sd) ?_
    refine oS ?_
    refine oN ?_
    refine nz ?_
    refine WI.regB tT [0,3,4,5] ?_
    refine oS ?_
    refine oG (hok:=by first|exact se|(clear uu;grind)|exact sd) ?_
    refine oS ?_
    refine oN ?_
    refine nz ?_
    exact⟨⟨j+1,by rw[hst,hn];first|rfl|simp,rfl,by omega⟩,by simp[down,Ab.get,D.val,intOf?];omega⟩
   ·have hn:ueB (s.getD j 0)= [37,udg ((s.getD j 0).toNat/16),udg ((s.getD j 0).toNat % 16)]:=by rw[ueB,if_neg (by clear uu;grind)]
    have uu:=ξn uu (ξn (show decide (((s.getD j 0).toNat/16:Nat)≤(((s.getD j 0).toNat/16+1:Nat):Int))=true from ξt (by omega)) (ξn (show decide (((s.getD j 0).toNat/16+1:Nat)≤((16:Nat):Int))=true from ξt (by omega)) (ξn (qu16U _ hb8) (ξn (qr16U (s.getD j 0).toNat) (ξn (uhex_sl ((s.getD j 0).toNat/16) (by omega)) (ξn (uhex_sl ((s.getD j 0).toNat % 16) (by omega)) (ξn (uwrap1 ((s.getD j 0).toNat/16) (by omega)) (ξn (uwrap1 ((s.getD j 0).toNat % 16) (by omega)) udL_len))))))))
    refine WI.dregB tT [0,3,4,5] ?_
    refine dFS ?_
    refine dFG (hok:=by first|exact se|(clear uu;grind)|exact sd) ?_
    iterate 3 refine dFS ?_
    iterate 2 refine dFG (hok:=by first|exact se|(clear uu;grind)|exact sd) ?_
    iterate 2 refine dFS ?_
    iterate 5 refine dFG (hok:=by first|exact se|(clear uu;grind)|exact sd) ?_
    iterate 3 refine dFS ?_
    iterate 2 refine dFG (hok:=by first|exact se|(clear uu;grind)|exact sd) ?_
    iterate 2 refine dFS ?_
    iterate 5 refine dFG (hok:=by first|exact se|(clear uu;grind)|exact sd) ?_
    refine dFS ?_
    refine dN ?_
    refine nz ?_
    refine WI.regB tT [0,3,4,5] ?_
    refine oS ?_
    refine oG (hok:=by first|exact se|(clear uu;grind)|exact sd) ?_
    refine oS ?_
    refine oN ?_
    refine nz ?_
    exact⟨⟨j+1,by rw[hst,hn];first|rfl|simp,rfl,by omega⟩,by simp[down,Ab.get,D.val,intOf?];omega⟩
  ·refine WI.regB tT [2] ?_
   iterate 2 refine oS ?_
   refine oN ?_
   refine nz ?_
   refine lf ?_
   rw[ξT (by omega)]
def escLG:List D→Option (Bool×D)
 | [.x (.str s)]=>some (decide (s.length≤1000000),.x (.str (ueS s)))
 |_=>none
theorem escLG_ok: ∀args r,escLG args=some (true,r)→PCalls Tryz.prog 10 args r:=by
 intro args r h
 unfold escLG at h
 split at h
 ·rename_i s
  simp only[ξI,ξP,ξa,ξe,true_and]at h
  obtain⟨h1,rfl⟩:=h
  exact(escL_c s h1)
 ·cases h
theorem hst_eq (n:Nat):hstN n=((((((decide ((n:Int)≥65)&&decide ((n:Int)≤90))||(decide ((n:Int)≥97)&&decide ((n:Int)≤122)))||(decide ((n:Int)≥48)&&decide ((n:Int)≤57)))||decide ((n:Int)=46))||decide ((n:Int)=45))||decide ((n:Int)=58)):=by
 unfold hstN alN inB
 rw[Bool.eq_iff_iff]
 simp only[List.any_cons,List.any_nil,Bool.or_eq_true,ξa,beq_iff_eq,ξe,Bool.or_false,UInt8.reduceToNat]
 omega
theorem hostL_c (s:Tx) (hl:s.length≤1000000):PCalls Tryz.prog 17 [.x (.str s)] (.x (.bool (s.all fun c=>hstN c.toNat))):=by
 refine FCalls.pure (fcallsG (fz:=true) G_ok (p:=i17) rfl _ (ξ rfl) _ (fun C0 E0=> ?_)) rfl
 dsimp only[i17,qt,qi,qs,qb,qm,qa,qh,qj,qT,qF,qe,ql,qL,qf,q2,q3,q8,qz,qp,qP,qc,qk,qx,qy,qo,qr,qC,argsφ]
 have uu:=trivial
 have tT:=(noTabs_ok:SsOk Tryz.prog noTabs)
 refine nz ?_
 refine WI.regB tT [0] ?_
 refine oS ?_
 refine oN ?_
 refine nz ?_
 refine WI.regB tT [0,3] ?_
 refine oS ?_
 refine oN ?_
 refine nz ?_
 refine WI.loop (fun φ os=> ∃(j:Nat),φ= [(0,.x (.str s)),(3,.x (.int .i64 j))]∧os= []∧j≤s.length∧(s.take j).all (fun c=>hstN c.toNat)=true) (down s.length 3) ?_ (fun φ os hI=> ?_)
 ·exact⟨0,rfl,rfl,by omega,rfl⟩
 ·obtain⟨j,rfl,rfl,hj,hall⟩:=hI
  refine nz ?_
  refine WI.regB tT [0,3,8] ?_
  iterate 2 refine oS ?_
  iterate 2 refine oG (hok:=by first|exact se|(clear uu;grind)|exact sd) ?_
  refine oN ?_
  refine nz ?_
  refine cd (fun h0=> ?_) (fun h0=> ?_)
  ·have hj4:j<s.length:=by omega
   have hgj:s[j]=s.getD j 0:=by simp[hj4]
   have q5:=hst_eq (s.getD j 0).toNat
   refine WI.regB tT [0,3,4] ?_
   iterate 2 refine oS ?_
   refine oG (hok:=by first|exact se|(clear uu;grind)|exact sd) ?_
   refine oS ?_
   refine oN ?_
   refine nz ?_
   refine WI.regB tT [0,3,48] ?_
   refine oS ?_
   refine oG (hok:=by first|exact se|(clear uu;grind)|exact sd) ?_
   refine oS ?_
   iterate 3 refine oG (hok:=by first|exact se|(clear uu;grind)|exact sd) ?_
   refine oS ?_
   iterate 7 refine oG (hok:=by first|exact se|(clear uu;grind)|exact sd) ?_
   refine oS ?_
   iterate 7 refine oG (hok:=by first|exact se|(clear uu;grind)|exact sd) ?_
   refine oS ?_
   iterate 3 refine oG (hok:=by first|exact se|(clear uu;grind)|exact sd) ?_
   refine oS ?_
   iterate 3 refine oG (hok:=by first|exact se|(clear uu;grind)|exact sd) ?_
   refine oS ?_
   iterate 4 refine oG (hok:=by first|exact se|(clear uu;grind)|exact sd) ?_
   refine oN ?_
   refine nz ?_
   refine cd (fun h1=> ?_) (fun h1=> ?_)
   ·refine WI.regB tT [2] ?_
    refine oS ?_
    refine oN ?_
    refine nz ?_
    refine lf ?_
    rw[all_take_false _ s j hj4 (by rw[hgj,q5];clear uu;grind)]
   ·refine WI.regB tT [0,3] ?_
    refine oS ?_
    refine oG (hok:=by first|exact se|(clear uu;grind)|exact sd) ?_
    refine oS ?_
    refine oN ?_
    refine nz ?_
    exact⟨⟨j+1,rfl,rfl,by omega,by rw[all_snoc _ s j hj4,hall,hgj,q5];clear uu;grind⟩,by simp[down,Ab.get,D.val,intOf?];omega⟩
  ·refine WI.regB tT [2] ?_
   refine oS ?_
   refine oN ?_
   refine nz ?_
   refine lf ?_
   rw[ξT (by omega)]at hall;rw[hall]
def hostLG:List D→Option (Bool×D)
 | [.x (.str s)]=>some (decide (s.length≤1000000),.x (.bool (s.all fun c=>hstN c.toNat)))
 |_=>none
theorem hostLG_ok: ∀args r,hostLG args=some (true,r)→PCalls Tryz.prog 17 args r:=by
 intro args r h
 unfold hostLG at h
 split at h
 ·rename_i s
  simp only[ξI,ξP,ξa,ξe,true_and]at h
  obtain⟨h1,rfl⟩:=h
  exact(hostL_c s h1)
 ·cases h
def sm80 (x:Tx):Bool:=decide (x.length≤80)
def fewU (ho d f:Tx) (a:List Tx):Bool:=decide (ho.length≤300∧d.length≤300∧a.length≤70∧f.length≤300)&&a.all sm80
theorem fewU_c (ho d f:Tx) (a:List Tx) (sc:Int):PCalls Tryz.prog 5 [.agg [.x (.str ho),.x (.str d),.x (.str f),.x (.sl (rows rStr a)),.x (.int .i64 sc)]] (.x (.bool (fewU ho d f a))):=by
 unfold fewU
 refine FCalls.pure (fcallsG (fz:=true) G_ok (p:=i5) rfl _ (ξ rfl) _ (fun C0 E0=> ?_)) rfl
 dsimp only[i5,qt,qi,qs,qb,qm,qa,qh,qj,qT,qF,qe,ql,qL,qf,q2,q3,q8,qz,qp,qP,qc,qk,qx,qy,qo,qr,qC,argsφ]
 have uu:=trivial
 have tT:=(noTabs_ok:SsOk Tryz.prog noTabs)
 refine nz ?_
 refine WI.regB tT [1] ?_
 refine oG ?_
 refine oS ?_
 refine oN ?_
 refine nz ?_
 refine WI.regB tT [1,25] ?_
 refine oS ?_
 iterate 3 refine oG (hok:=by first|exact se|(clear uu;grind)|exact sd) ?_
 refine oS ?_
 iterate 5 refine oG (hok:=by first|exact se|(clear uu;grind)|exact sd) ?_
 refine oS ?_
 iterate 5 refine oG (hok:=by first|exact se|(clear uu;grind)|exact sd) ?_
 refine oS ?_
 iterate 5 refine oG (hok:=by first|exact se|(clear uu;grind)|exact sd) ?_
 refine oN ?_
 refine nz ?_
 refine cd (fun h0=> ?_) (fun h0=> ?_)
 ·refine WI.regB tT [2] ?_
  refine oS ?_
  refine oN ?_
  refine nz ?_
  refine lf ?_
  rw[decide_eq_false (by clear uu;grind)];rfl
 ·refine WI.regB tT [1,3] ?_
  refine oS ?_
  refine oN ?_
  refine nz ?_
  refine WI.loop (fun φ os=> ∃(j:Nat),φ= [(1,.ptr 0 0),(3,.x (.int .i64 j))]∧os= [.box [.x (.str ho),.x (.str d),.x (.str f),.x (.sl (rows rStr a)),.x (.int .i64 sc)]]∧j≤a.length∧(a.take j).all sm80=true) (down a.length 3) ?_ (fun φ os hI=> ?_)
  ·exact⟨0,rfl,rfl,by omega,rfl⟩
  ·obtain⟨j,rfl,rfl,hj,hall⟩:=hI
   refine nz ?_
   refine WI.regB tT [1,3,30] ?_
   iterate 2 refine oS ?_
   iterate 3 refine oG (hok:=by first|exact se|(clear uu;grind)|exact sd) ?_
   refine oN ?_
   refine nz ?_
   refine cd (fun h1=> ?_) (fun h1=> ?_)
   ·have hj4:j<a.length:=by omega
    have hdj:a[j]=a.getD j []:=by simp[hj4]
    have uu:=ξn uu (rtx_row a j hj4)
    refine WI.regB tT [1,3,39] ?_
    refine oS ?_
    refine oG (hok:=by first|exact se|(clear uu;grind)|exact sd) ?_
    refine oS ?_
    iterate 4 refine oG (hok:=by first|exact se|(clear uu;grind)|exact sd) ?_
    refine oN ?_
    refine nz ?_
    refine cd (fun h2=> ?_) (fun h2=> ?_)
    ·refine WI.regB tT [2] ?_
     refine oS ?_
     refine oN ?_
     refine nz ?_
     refine lf ?_
     rw[all_take_false _ a j hj4 (by rw[hdj];exact decide_eq_false (by omega)),Bool.and_false]
    ·refine WI.regB tT [1,3] ?_
     refine oS ?_
     refine oG (hok:=by first|exact se|(clear uu;grind)|exact sd) ?_
     refine oS ?_
     refine oN ?_
     refine nz ?_
     exact⟨⟨j+1,rfl,rfl,by omega,by rw[all_snoc _ a j hj4,hall,hdj];exact ξt (by omega)⟩,by simp[down,Ab.get,D.val,intOf?];omega⟩
   ·refine WI.regB tT [2] ?_
    refine oS ?_
    refine oN ?_
    refine nz ?_
    refine lf ?_
    rw[ξT (by omega)]at hall;rw[hall,ξt (by clear uu;grind)];rfl
def fewUG:List D→Option (Bool×D)
 | [.agg [.x (.str ho),.x (.str d),.x (.str f),.x (.sl A),.x (.int .i64 sc)]]=>(unrows rStr A).bind fun a=>some (true,.x (.bool (fewU ho d f a)))
 |_=>none
theorem fewUG_ok: ∀args r,fewUG args=some (true,r)→PCalls Tryz.prog 5 args r:=by
 intro args r h
 unfold fewUG at h
 split at h
 ·rename_i ho d f A sc
  obtain⟨a,hr0,h⟩:=ξB h
  simp only[ξI,ξP,ξa,ξe,true_and]at h
  obtain rfl:=h
  rw[←rows_unrows good_rStr hr0]
  exact(fewU_c ho d f a sc)
 ·cases h
abbrev Txt:=List UInt8
inductive Flt where
 |mk (k:Int) (a v h:Txt) (m:List Txt) (t:Txt) (l:List Flt)
mutual
def encF:Flt→List X
 | .mk k a v h m t l=> [.int .i64 k,.str a,.str v,.str h,.sl (rows rStr m),.str t,.sl (encFL l)]
def encFL:List Flt→List (List X)
 | []=> []
 |f::l=>encF f::encFL l
end
mutual
def decF:List X→Option Flt
 | [.int .i64 k,.str a,.str v,.str h,.sl m,.str t,.sl l]=>(unrows rStr m).bind fun m'=>(decFL l).map fun l'=> .mk k a v h m' t l'
 |_=>none
def decFL:List (List X)→Option (List Flt)
 | []=>some []
 |r::l=>(decF r).bind fun f=>(decFL l).map fun l'=>f::l'
end
def rFlt:RC Flt:=⟨7,encF,decF⟩
theorem encFL_eq: ∀l:List Flt,encFL l=rows rFlt l
 | []=>rfl
 |f::l=>by rw[encFL,encFL_eq l];rfl
mutual
theorem dec_encF: ∀f:Flt,decF (encF f)=some f
 | .mk k a v h m t l=>by
  rw[encF,decF,unrows_rows good_rStr,Option.bind_some,dec_encFL l];rfl
theorem dec_encFL: ∀l:List Flt,decFL (encFL l)=some l
 | []=>by rw[encFL,decFL]
 |f::l=>by rw[encFL,decFL,dec_encF f,Option.bind_some,dec_encFL l];rfl
end
mutual
theorem enc_decF: ∀(r:List X) (f:Flt),decF r=some f→encF f=r
 | [.int .i64 k,.str a,.str v,.str h,.sl m,.str t,.sl l],f,e=>by
  rw[decF]at e
  obtain⟨m',h1,e⟩:=ξB e
  obtain⟨l',h2,rfl⟩:=ξM e
  rw[encF,enc_decFL l l' h2,rows_unrows good_rStr h1]
 |r,f,e=>by
  unfold decF at e
  split at e
  ·obtain⟨m',h1,e⟩:=ξB e
   obtain⟨l',h2,rfl⟩:=ξM e
   rw[encF,enc_decFL _ l' h2,rows_unrows good_rStr h1]
  ·cases e
theorem enc_decFL: ∀(r:List (List X)) (l:List Flt),decFL r=some l→encFL l=r
 | [],l,e=>by rw[decFL]at e;cases e;rw[encFL]
 |r::rs,l,e=>by
  rw[decFL]at e
  obtain⟨f,h1,e⟩:=ξB e
  obtain⟨l',h2,rfl⟩:=ξM e
  rw[encFL,enc_decF r f h1,enc_decFL rs l' h2]
end
theorem encF_len: ∀f:Flt,(encF f).length=7
 | .mk k a v h m t l=>by rw[encF];rfl
theorem good_rFlt:rFlt.Good:=⟨encF_len,dec_encF,enc_decF⟩
theorem enc_rFlt (k:Int) (a v h:Txt) (m:List Txt) (t:Txt) (l:List Flt):rFlt.enc (.mk k a v h m t l)= [.int .i64 k,.str a,.str v,.str h,.sl (rows rStr m),.str t,.sl (rows rFlt l)]:=by
 show encF _=_;rw[encF,encFL_eq]
def fltD:Flt→D
 | .mk k a v h m t l=> .agg [.x (.int .i64 k),.x (.str a),.x (.str v),.x (.str h),.x (.sl (rows rStr m)),.x (.str t),.x (.sl (rows rFlt l))]
mutual
def szF:Flt→Nat
 | .mk _ _ _ _ _ _ l=>1+szFL l
def szFL:List Flt→Nat
 | []=>0
 |f::l=>szF f+szFL l
end
theorem szFL_get: ∀(l:List Flt) (i:Nat) (h:i<l.length),szF l[i]≤szFL l
 |f::l,0,_=>by simp only[List.getElem_cons_zero,szFL];omega
 |f::l,i+1,h=>by
  have:=szFL_get l i (by simpa using h)
  simp only[List.getElem_cons_succ,szFL];omega
theorem un_F (l:List Flt):unrows rFlt (rows rFlt l)=some l:=unrows_rows good_rFlt l
theorem un_T (l:List Txt):unrows rStr (rows rStr l)=some l:=unrows_rows good_rStr l
def lngP (a v h t:Txt) (m:List Txt):Prop:=((((((a.length:Int)>80∨((v.length:Int)>300∧(v.length:Int)≤1024))∨(v.length:Int)>1100)∨(h.length:Int)>200)∨(t.length:Int)>200)∨(m.length:Int)>20)
instance (a v h t:Txt) (m:List Txt):Decidable (lngP a v h t m):=by unfold lngP;infer_instance
mutual
def depF:Flt→Nat→Nat
 | .mk _ _ _ _ _ _ l,0=>1
 | .mk _ _ _ _ _ _ l,m+1=>depFL l m+1
def depFL:List Flt→Nat→Nat
 | [],_=>0
 |x::l,m=>max (depF x m) (depFL l m)
end
theorem mx_eq (a b:Nat):(if(a:Int)>(b:Int)then(a:Int)else(b:Int))=((max b a:Nat):Int):=by split<;>omega
theorem depFL_snoc: ∀(l:List Flt) (x:Flt) (m:Nat),depFL (l++ [x]) m=max (depFL l m) (depF x m)
 | [],x,m=>by simp[depFL]
 |y::l,x,m=>by
  have:=depFL_snoc l x m
  simp only[List.cons_append,depFL,this];omega
mutual
theorem depF_b: ∀(f:Flt) (m:Nat),1≤depF f m∧depF f m≤m+1
 | .mk _ _ _ _ _ _ l,0=>by simp[depF]
 | .mk _ _ _ _ _ _ l,m+1=>by
  have:=depFL_b l m
  rw[depF];omega
theorem depFL_b: ∀(l:List Flt) (m:Nat),depFL l m≤m+1
 | [],m=>by simp[depFL]
 |x::l,m=>by
  have h1:=depF_b x m
  have h2:=depFL_b l m
  rw[depFL];omega
end
def depmG (N:Nat):List D→Option (Bool×D)
 | [.agg [.x (.int .i64 k),.x (.str a),.x (.str v),.x (.str hd),.x (.sl M),.x (.str t),.x (.sl L)],.x (.int .i64 m)]=>(unrows rStr M).bind fun mm=>(unrows rFlt L).bind fun l=>some (decide (szF (.mk k a v hd mm t l)≤N∧0≤m∧m≤64),.x (.int .i64 (depF (.mk k a v hd mm t l) m.toNat:Nat)))
 |_=>none
theorem depmG_ok (N:Nat) (ih: ∀(f:Flt) (m:Int),szF f≤N∧0≤m∧m≤64→PCalls Tryz.prog 91 [fltD f,.x (.int .i64 m)] (.x (.int .i64 (depF f m.toNat:Nat)))): ∀args r,depmG N args=some (true,r)→PCalls Tryz.prog 91 args r:=by
 intro args r h
 unfold depmG at h
 split at h
 ·rename_i k a v hd M t L m
  obtain⟨mm,hr0,h⟩:=ξB h
  obtain⟨l,hr1,h⟩:=ξB h
  simp only[ξI,ξP,ξa,ξe,true_and]at h
  obtain⟨h1,rfl⟩:=h
  rw[←rows_unrows good_rStr hr0]
  rw[←rows_unrows good_rFlt hr1]
  exact ih (.mk k a v hd mm t l) m h1
 ·cases h
def tabFi4 (g:List D→Option (Bool×D)):Tabs:=addQ (noTabs) 91 g
theorem tabFi4_ok (g:List D→Option (Bool×D)) (hg: ∀args r,g args=some (true,r)→PCalls Tryz.prog 91 args r):SsOk Tryz.prog (tabFi4 g):=addQ_ok (noTabs_ok) (G_enters G_ok (p:=i91) rfl) hg
theorem tabFi4_q91 (g:List D→Option (Bool×D)) (a:List D):(tabFi4 g).q 91 a=g a:=rfl
theorem tabFi4_r (g:List D→Option (Bool×D)) (f:FuncId) (a:List D) (o:List Ob):(tabFi4 g).r f a o=none:=rfl
theorem tabFi4_k (g:List D→Option (Bool×D)) (f:FuncId) (a:List D) (o:List Ob):(tabFi4 g).k f a o=none:=rfl
theorem depth_c: ∀(N:Nat) (f:Flt) (m:Int),szF f≤N∧0≤m∧m≤64→PCalls Tryz.prog 91 [fltD f,.x (.int .i64 m)] (.x (.int .i64 (depF f m.toNat:Nat)))
 |0,.mk k a v h mm t l,m,hs=>by have:=hs.1;simp only[szF]at this;omega
 |N+1,.mk k a v h mm t l,m,hs=>by
  have ih:=depth_c N
  have hsz:szFL l≤N:=by have:=hs.1;simp only[szF]at this;omega
  have hm:=hs.2
  clear hs
  refine PCalls.wfA (fun hw=> ?_)
  have hl:l.length≤maxLen:=by have:=(hw 0 6 _ rfl).1;rwa [rows_len]at this
  clear hw
  simp only[maxLen]at hl
  dsimp only[fltD]
  obtain⟨q,rfl⟩: ∃q:Nat,m=q:=⟨m.toNat,by omega⟩
  rw[Int.toNat_natCast]
  rcases q with _|q
  ·rw[depF]
   refine FCalls.pure (fcallsG (fz:=true) G_ok (p:=i91) rfl _ (ξ rfl) _ (fun C0 E0=> ?_)) rfl
   dsimp only[i91,qt,qi,qs,qb,qm,qa,qh,qj,qT,qF,qe,ql,qL,qf,q2,q3,q8,qz,qp,qP,qc,qk,qx,qy,qo,qr,qC,argsφ]
   have uu:=trivial
   have tT:=(noTabs_ok:SsOk Tryz.prog noTabs)
   refine nz ?_
   refine rg tT [1,2] ?_
   refine rg tT [1,2,5] ?_
   refine rg tT [1,2,5,9] ?_
   refine ce (fun h0=> ?_) (fun h0=> ?_)
   ·simp at h0
   ·refine rg tT [4] ?_
    refine lf ?_
    first|rfl|exact⟨rfl,rfl⟩|trivial
  ·rw[depF]
   have hdb:=fun x=>depF_b x q
   have e1:((q+1:Nat):Int)-1=(q:Int):=by omega
   have hfb:=depFL_b l q
   refine FCalls.pure (fcallsG (fz:=true) G_ok (p:=i91) rfl _ (ξ rfl) _ (fun C0 E0=> ?_)) rfl
   dsimp only[i91,qt,qi,qs,qb,qm,qa,qh,qj,qT,qF,qe,ql,qL,qf,q2,q3,q8,qz,qp,qP,qc,qk,qx,qy,qo,qr,qC,argsφ]
   have uu:=ξn @depmG.eq_1 (ξn @depmG.eq_2 (ξn @un_F (ξn @un_T (ξn @enc_rFlt (ξn @e1 (ξn @tabFi4_r (ξn @tabFi4_k (@tabFi4_q91))))))))
   have tT:=(tabFi4_ok (depmG N) (depmG_ok N ih))
   refine nz ?_
   refine rg tT [1,2] ?_
   refine rg tT [1,2,5] ?_
   refine rg tT [1,2,5,9] ?_
   refine ct (fun h0=> ?_) (fun h0=> ?_)
   ·refine rg tT [1,5,11,12,13] ?_
    refine WI.loop (fun φ os=> ∃(j:Nat),φ= [(1,.x (.int .i64 (q+1:Nat))),(5,.x (.int .i64 (depFL (l.take j) q:Nat))),(11,.x (.sl (rows rFlt l))),(12,.x (.int .i64 l.length)),(13,.x (.int .i64 j))]∧os= [.box [.x (.int .i64 k),.x (.str a),.x (.str v),.x (.str h),.x (.sl (rows rStr mm)),.x (.str t),.x (.sl (rows rFlt l))]]∧j≤l.length) (down l.length 13) ?_ (fun φ os hI=> ?_)
    ·exact⟨0,rfl,rfl,by omega⟩
    ·obtain⟨j,rfl,rfl,hj⟩:=hI
     refine nz ?_
     refine rg tT [1,5,11,12,13,14] ?_
     refine cd (fun h1=> ?_) (fun h1=> ?_)
     ·have hj4:j<l.length:=by omega
      have hst:=depFL_snoc (l.take j) l[j] q
      rw[←List.take_succ_eq_append_getElem hj4]at hst
      rcases hx:l[j]with⟨k1,a1,v1,h1,m1,t1,l1⟩
      have hs1:szF l[j]≤N:=Nat.le_trans (szFL_get l j hj4) hsz
      rw[hx]at hs1 hst
      have uu:=ξn uu hx
      refine rg tT [1,5,7,11,12,13] ?_
      refine rgp tT [1,5,11,12,13] ?_
      refine pPick [0] ?_
      refine pEnd ?_
      refine nz ?_
      refine rg tT [1,5,11,12,13] ?_
      exact⟨⟨j+1,by rw[hst];first|rfl|(rw[mx_eq];rfl),rfl,by omega⟩,by simp[down,Ab.get,D.val,intOf?];omega⟩
     ·refine rg tT [4] ?_
      refine lf ?_
      rw[ξT (by omega),IntWalk.i64_in _ (by omega)];rfl
   ·first|omega|(simp at h0<;>omega)
def dep11G:List D→Option (Bool×D)
 | [.agg [.x (.int .i64 k),.x (.str a),.x (.str v),.x (.str hd),.x (.sl M),.x (.str t),.x (.sl L)],.x (.int .i64 m)]=>(unrows rStr M).bind fun mm=>(unrows rFlt L).bind fun l=>some (decide (0≤m∧m≤64),.x (.int .i64 (depF (.mk k a v hd mm t l) m.toNat:Nat)))
 |_=>none
theorem dep11G_ok: ∀args r,dep11G args=some (true,r)→PCalls Tryz.prog 91 args r:=by
 intro args r h
 unfold dep11G at h
 split at h
 ·rename_i k a v hd M t L m
  obtain⟨mm,hr0,h⟩:=ξB h
  obtain⟨l,hr1,h⟩:=ξB h
  simp only[ξI,ξP,ξa,ξe,true_and]at h
  obtain⟨h1,rfl⟩:=h
  rw[←rows_unrows good_rStr hr0]
  rw[←rows_unrows good_rFlt hr1]
  exact depth_c _ (.mk k a v hd mm t l) m ⟨Nat.le_refl _,h1⟩
 ·cases h
def tabFi8:Tabs:=addQ (noTabs) 91 dep11G
theorem tabFi8_ok:SsOk Tryz.prog tabFi8:=addQ_ok (noTabs_ok) (G_enters G_ok (p:=i91) rfl) dep11G_ok
theorem tabFi8_q91 (a:List D):tabFi8.q 91 a=dep11G a:=rfl
theorem tabFi8_r (f:FuncId) (a:List D) (o:List Ob):tabFi8.r f a o=none:=rfl
theorem tabFi8_k (f:FuncId) (a:List D) (o:List Ob):tabFi8.k f a o=none:=rfl
theorem Depth_c (f:Flt):PCalls Tryz.prog 67 [fltD f] (.x (.int .i64 (depF f 64:Nat))):=by
 obtain⟨k,a,v,h,mm,t,l⟩:=f
 dsimp only[fltD]
 refine FCalls.pure (fcallsG (fz:=true) G_ok (p:=i67) rfl _ (ξ rfl) _ (fun C0 E0=> ?_)) rfl
 dsimp only[i67,qt,qi,qs,qb,qm,qa,qh,qj,qT,qF,qe,ql,qL,qf,q2,q3,q8,qz,qp,qP,qc,qk,qx,qy,qo,qr,qC,argsφ]
 have uu:=ξn @dep11G.eq_1 (ξn @dep11G.eq_2 (ξn @un_F (ξn @un_T (ξn @tabFi8_r (ξn @tabFi8_k (@tabFi8_q91))))))
 have tT:=tabFi8_ok
 refine nz ?_
 refine rg tT [1] ?_
 refine rg tT [2] ?_
 refine lf ?_
 first|rfl|exact⟨rfl,rfl⟩|trivial
def Dep11G:List D→Option (Bool×D)
 | [.agg [.x (.int .i64 k),.x (.str a),.x (.str v),.x (.str hd),.x (.sl M),.x (.str t),.x (.sl L)]]=>(unrows rStr M).bind fun mm=>(unrows rFlt L).bind fun l=>some (true,.x (.int .i64 (depF (.mk k a v hd mm t l) 64:Nat)))
 |_=>none
theorem Dep11G_ok: ∀args r,Dep11G args=some (true,r)→PCalls Tryz.prog 67 args r:=by
 intro args r h
 unfold Dep11G at h
 split at h
 ·rename_i k a v hd M t L
  obtain⟨mm,hr0,h⟩:=ξB h
  obtain⟨l,hr1,h⟩:=ξB h
  simp only[ξI,ξP,ξa,ξe,true_and]at h
  obtain rfl:=h
  rw[←rows_unrows good_rStr hr0]
  rw[←rows_unrows good_rFlt hr1]
  exact Depth_c (.mk k a v hd mm t l)
 ·cases h
def mkN (n:Int):Bool:=decide (n=42)||decide (n=40)||decide (n=41)||decide (n=92)||decide (n<32)||decide (n>126)
def hexL:List UInt8:= [48,49,50,51,52,53,54,55,56,57,97,98,99,100,101,102]
def dgt (n:Nat):UInt8:=hexL.getD n 0
def escB (c:UInt8):List UInt8:=if mkN c.toNat=true then [92,dgt (c.toNat/16),dgt (c.toNat % 16)]else [c]
def escS (s:List UInt8):List UInt8:=s.flatMap escB
theorem escB_len (c:UInt8):(escB c).length≤3:=by unfold escB;split<;>simp
theorem escS_take (s:List UInt8) (j:Nat) (h:j<s.length):escS (s.take (j+1))=escS (s.take j)++escB (s.getD j 0):=by
 rw[show s.getD j 0=s[j] by simp[h]];unfold escS;rw[List.take_succ_eq_append_getElem h,List.flatMap_append];simp
theorem escS_len: ∀s:List UInt8,(escS s).length≤3*s.length
 | []=>by simp[escS]
 |c::s=>by
  have h1:=escB_len c
  have h2:=escS_len s
  unfold escS at h2⊢
  simp only[List.flatMap_cons,ξA,ξC];omega
theorem marked_c (n:Int):PCalls Tryz.prog 120 [.x (.int .u8 n)] (.x (.bool (mkN n))):=by
 unfold mkN
 refine FCalls.pure (fcallsG (fz:=true) G_ok (p:=i120) rfl _ (ξ rfl) _ (fun C0 E0=> ?_)) rfl
 dsimp only[i120,qt,qi,qs,qb,qm,qa,qh,qj,qT,qF,qe,ql,qL,qf,q2,q3,q8,qz,qp,qP,qc,qk,qx,qy,qo,qr,qC,argsφ]
 have uu:=trivial
 have tT:=(noTabs_ok:SsOk Tryz.prog noTabs)
 refine nz ?_
 refine rg tT [0] ?_
 refine rg tT [2] ?_
 refine lf ?_
 by_cases h1:n=42<;>by_cases h2:n=40<;>by_cases h3:n=41<;>by_cases h4:n=92<;>by_cases h5:n<32<;>by_cases h6:n>126<;>simp[h1,h2,h3,h4,h5,h6]
def markedG:List D→Option (Bool×D)
 | [.x (.int .u8 n)]=>some (true,.x (.bool (mkN n)))
 |_=>none
theorem markedG_ok: ∀args r,markedG args=some (true,r)→PCalls Tryz.prog 120 args r:=by
 intro args r h
 unfold markedG at h
 split at h
 ·rename_i n
  simp only[ξI,ξP,ξa,ξe,true_and]at h
  obtain rfl:=h
  exact(marked_c n)
 ·cases h
theorem sign_c (n:Int):PCalls Tryz.prog 88 [.x (.int .i64 n)] (.x (.str (if n=5 then [62,61]else if n=6 then [60,61]else if n=8 then [126,61]else [61]))):=by
 refine FCalls.pure (fcallsG (fz:=true) G_ok (p:=i88) rfl _ (ξ rfl) _ (fun C0 E0=> ?_)) rfl
 dsimp only[i88,qt,qi,qs,qb,qm,qa,qh,qj,qT,qF,qe,ql,qL,qf,q2,q3,q8,qz,qp,qP,qc,qk,qx,qy,qo,qr,qC,argsφ]
 have uu:=trivial
 have tT:=(noTabs_ok:SsOk Tryz.prog noTabs)
 refine nz ?_
 refine rg tT [0] ?_
 refine rg tT [3] ?_
 refine rg tT [3,4] ?_
 refine cd (fun h0=> ?_) (fun h0=> ?_)
 ·refine rg tT [2] ?_
  refine lf ?_
  rw[if_pos (by simpa using h0)]
 ·refine rg tT [3,6] ?_
  refine cd (fun h1=> ?_) (fun h1=> ?_)
  ·refine rg tT [2] ?_
   refine lf ?_
   rw[if_neg (by simpa using h0),if_pos (by simpa using h1)]
  ·refine rg tT [8] ?_
   refine cd (fun h2=> ?_) (fun h2=> ?_)
   ·refine rg tT [2] ?_
    refine lf ?_
    rw[if_neg (by simpa using h0),if_neg (by simpa using h1),if_pos (by simpa using h2)]
   ·refine rg tT [2] ?_
    refine lf ?_
    rw[if_neg (by simpa using h0),if_neg (by simpa using h1),if_neg (by simpa using h2)]
theorem qu16 (n:Nat) (h:n<256):IntKind.u8.wrap ((n:Int).tdiv 16)=((n/16:Nat):Int):=by
 rw[show(n:Int).tdiv 16=((n/16:Nat):Int)from rfl,IntWalk.u8_in _ (by omega)]
theorem qr16 (n:Nat):(n:Int).tmod 16=((n % 16:Nat):Int):=rfl
theorem esc_row (l:List UInt8) (c:UInt8) (h:mkN c.toNat=true):l.map byteRow++ [[X.int .u8 92],[X.int .u8 ((dgt (c.toNat/16)).toNat:Int)],[X.int .u8 ((dgt (c.toNat % 16)).toNat:Int)]]=(l++escB c).map byteRow:=by
 rw[escB,if_pos h,List.map_append];rfl
theorem esc_row1 (l:List UInt8) (c:UInt8) (h:mkN c.toNat=false):l.map byteRow++ [[X.int .u8 (c.toNat:Int)]]=(l++escB c).map byteRow:=by
 rw[escB,if_neg (by simp[h]),List.map_append];rfl
theorem esc_n3 (c:UInt8) (h:mkN c.toNat=true):(escB c).length=3:=by rw[escB,if_pos h];rfl
theorem esc_n1 (c:UInt8) (h:mkN c.toNat=false):(escB c).length=1:=by rw[escB,if_neg (by simp[h])];rfl
def tabFx1:Tabs:=addQ (noTabs) 120 markedG
theorem tabFx1_ok:SsOk Tryz.prog tabFx1:=addQ_ok (noTabs_ok) (G_enters G_ok (p:=i120) rfl) markedG_ok
theorem tabFx1_q120 (a:List D):tabFx1.q 120 a=markedG a:=rfl
theorem tabFx1_r (f:FuncId) (a:List D) (o:List Ob):tabFx1.r f a o=none:=rfl
theorem tabFx1_k (f:FuncId) (a:List D) (o:List Ob):tabFx1.k f a o=none:=rfl
theorem esc_c (s:List UInt8) (hl:s.length≤1000000):PCalls Tryz.prog 104 [.x (.str s)] (.x (.str (escS s))):=by
 refine FCalls.pure (fcallsG (fz:=true) G_ok (p:=i104) rfl _ (ξ rfl) _ (fun C0 E0=> ?_)) rfl
 dsimp only[i104,qt,qi,qs,qb,qm,qa,qh,qj,qT,qF,qe,ql,qL,qf,q2,q3,q8,qz,qp,qP,qc,qk,qx,qy,qo,qr,qC,argsφ]
 have uu:=ξn @markedG.eq_1 (ξn @markedG.eq_2 (ξn @bytes_all (ξn @bytes_row (ξn @tabFx1_r (ξn @tabFx1_k (@tabFx1_q120))))))
 have tT:=tabFx1_ok
 refine nz ?_
 refine rg tT [0] ?_
 refine WI.scope 0 rfl (fun φ os=> ∃(j:Nat),φ= [(0,.x (.str s)),(3,.ref 0 (escS (s.take j)).length 0 (escS (s.take j)).length),(4,.x (.int .i64 j))]∧os= [.rows false 5 1 ((escS (s.take j)).map byteRow)]∧j≤s.length) (fun φ _=>s.length-((intOf? (get φ 4).val).getD 0).toNat) ?_ (fun φ os hI=> ?_)
 ·refine nz ?_
  refine rg tT [0,3] ?_
  refine rg tT [0,3,4] ?_
  refine WI.own 3 5 1 rfl ?_
  simp only[put,Nat.reduceEqDiff,↓reduceIte,ξN,List.nil_append]
  refine WI.label ?_
  refine nz ?_
  refine rg tT [0,3,4,9] ?_
  refine cd (fun h0=> ?_) (fun h0=> ?_)
  ·first
   |(have hst:=escS_take s j (by omega);have hb8:(s.getD j 0).toNat<256:=UInt8.toNat_lt _;have q1:=qu16 _ hb8;have q2:=qr16 (s.getD j 0).toNat;have q3:decide (((s.getD j 0).toNat/16:Nat)<(16:Int))=true:=ξt (by omega);have q4:decide (((s.getD j 0).toNat % 16:Nat)<(16:Int))=true:=ξt (by omega);have uu:=ξn uu (ξn q1 (ξn q2 (ξn q3 q4))))
   |(have hst:=escS_take s 0 (by omega);have hb8:(s.getD 0 0).toNat<256:=UInt8.toNat_lt _;have q1:=qu16 _ hb8;have q2:=qr16 (s.getD 0 0).toNat;have q3:decide (((s.getD 0 0).toNat/16:Nat)<(16:Int))=true:=ξt (by omega);have q4:decide (((s.getD 0 0).toNat % 16:Nat)<(16:Int))=true:=ξt (by omega);have uu:=ξn uu (ξn q1 (ξn q2 (ξn q3 q4))))
   refine rg tT [0,3,4,5] ?_
   refine rg tT [0,3,4,5] ?_
   refine rg tT [0,3,4,5,16] ?_
   refine cd (fun h1=> ?_) (fun h1=> ?_)
   ·have hm:=h1
    first|have hn:=esc_n3 (s.getD j 0) hm|have hn:=esc_n3 (s.getD 0 0) hm
    refine WI.post ?_
    refine WI.dregB tT [0,3,4] ?_
    iterate 2 refine dFS ?_
    iterate 2 refine dFG ?_
    refine dFS ?_
    iterate 2 refine dFG ?_
    iterate 2 refine dAG ?_
    refine dFS ?_
    refine dP ?_
    refine pPick [0] ?_
    refine pEnd ?_
    refine nz ?_
    refine WI.goto ?_
    refine thenQ_goto ?_
    refine⟨rfl,?_⟩
    exact⟨1,by rw[hst];simp only[hn,ξA];rfl,by rw[hst];first|(rw[←esc_row _ _ hm];rfl)|(rw[←esc_row1 _ _ hm];rfl),by omega⟩
   ·have hm:=h1
    first|have hn:=esc_n1 (s.getD j 0) hm|have hn:=esc_n1 (s.getD 0 0) hm
    refine rgp tT [0,3,4] ?_
    refine pPick [0] ?_
    refine pEnd ?_
    refine nz ?_
    refine WI.goto ?_
    refine thenQ_goto ?_
    refine⟨rfl,?_⟩
    exact⟨1,by rw[hst];simp only[hn,ξA];rfl,by rw[hst];first|(rw[←esc_row _ _ hm];rfl)|(rw[←esc_row1 _ _ hm];rfl),by omega⟩
  ·first
   |(have e8:((escS (s.take j)).map byteRow).take (escS (s.take j)).length=(escS s).map byteRow:=by rw[ξT (by simp),ξT (by omega)]);have uu:=ξn uu e8
   |skip
   refine rg tT [2] ?_
   refine lf ?_
   rw[show s= []from List.length_eq_zero_iff.1 (by omega)];rfl
 ·obtain⟨j,rfl,rfl,hj⟩:=hI
  have hle:=escS_len (s.take j)
  rw[List.length_take]at hle
  refine nz ?_
  refine rg tT [0,3,4,9] ?_
  refine cd (fun h0=> ?_) (fun h0=> ?_)
  ·first
   |(have hst:=escS_take s j (by omega);have hb8:(s.getD j 0).toNat<256:=UInt8.toNat_lt _;have q1:=qu16 _ hb8;have q2:=qr16 (s.getD j 0).toNat;have q3:decide (((s.getD j 0).toNat/16:Nat)<(16:Int))=true:=ξt (by omega);have q4:decide (((s.getD j 0).toNat % 16:Nat)<(16:Int))=true:=ξt (by omega);have uu:=ξn uu (ξn q1 (ξn q2 (ξn q3 q4))))
   |(have hst:=escS_take s 0 (by omega);have hb8:(s.getD 0 0).toNat<256:=UInt8.toNat_lt _;have q1:=qu16 _ hb8;have q2:=qr16 (s.getD 0 0).toNat;have q3:decide (((s.getD 0 0).toNat/16:Nat)<(16:Int))=true:=ξt (by omega);have q4:decide (((s.getD 0 0).toNat % 16:Nat)<(16:Int))=true:=ξt (by omega);have uu:=ξn uu (ξn q1 (ξn q2 (ξn q3 q4))))
   refine rg tT [0,3,4,5] ?_
   refine rg tT [0,3,4,5] ?_
   refine rg tT [0,3,4,5,16] ?_
   refine cd (fun h1=> ?_) (fun h1=> ?_)
   ·have hm:=h1
    first|have hn:=esc_n3 (s.getD j 0) hm|have hn:=esc_n3 (s.getD 0 0) hm
    refine WI.post ?_
    refine WI.dregB tT [0,3,4] ?_
    iterate 2 refine dFS ?_
    iterate 2 refine dFG ?_
    refine dFS ?_
    iterate 2 refine dFG ?_
    iterate 2 refine dAG ?_
    refine dFS ?_
    refine dP ?_
    refine pPick [0] ?_
    refine pEnd ?_
    refine nz ?_
    refine WI.goto ?_
    refine thenQ_goto ?_
    refine⟨rfl,?_⟩
    exact⟨⟨j+1,by rw[hst,ξA,hn];rfl,by rw[hst];first|(rw[←esc_row _ _ hm];rfl)|(rw[←esc_row1 _ _ hm]),by omega⟩,by simp[Ab.get,D.val,intOf?];omega⟩
   ·have hm:=h1
    first|have hn:=esc_n1 (s.getD j 0) hm|have hn:=esc_n1 (s.getD 0 0) hm
    refine rgp tT [0,3,4] ?_
    refine pPick [0] ?_
    refine pEnd ?_
    refine nz ?_
    refine WI.goto ?_
    refine thenQ_goto ?_
    refine⟨rfl,?_⟩
    exact⟨⟨j+1,by rw[hst,ξA,hn];rfl,by rw[hst];first|(rw[←esc_row _ _ hm];rfl)|(rw[←esc_row1 _ _ hm]),by omega⟩,by simp[Ab.get,D.val,intOf?];omega⟩
  ·first
   |(have e8:((escS (s.take j)).map byteRow).take (escS (s.take j)).length=(escS s).map byteRow:=by rw[ξT (by simp),ξT (by omega)]);have uu:=ξn uu e8
   |skip
   refine rg tT [2] ?_
   refine lf ?_
   first|rfl|exact⟨rfl,rfl⟩|trivial
def escG:List D→Option (Bool×D)
 | [.x (.str s)]=>some (decide (s.length≤1000000),.x (.str (escS s)))
 |_=>none
theorem escG_ok: ∀args r,escG args=some (true,r)→PCalls Tryz.prog 104 args r:=by
 intro args r h
 unfold escG at h
 split at h
 ·rename_i s
  simp only[ξI,ξP,ξa,ξe,true_and]at h
  obtain⟨h1,rfl⟩:=h
  exact(esc_c s h1)
 ·cases h
theorem hex_slN: ∀m:Fin 16,(hexL.take (m.val+1)).drop m.val= [dgt m.val]:=by decide+kernel
theorem hex_sl (m:Nat) (h:m<16):(hexL.take (m+1)).drop m= [dgt m]:=hex_slN ⟨m,h⟩
theorem wrap1 (m:Nat) (h:m<16):IntKind.u8.wrap ((m:Int)+1)=((m+1:Nat):Int):=by rw[IntWalk.u8_in _ (by omega)];rfl
theorem sl_one (s:List UInt8) (j:Nat) (h:j<s.length):List.drop j (List.take ((j:Int)+1).toNat s)= [s.getD j 0]:=by
 rw[show((j:Int)+1).toNat=j+1 by omega,List.take_succ_eq_append_getElem h,List.drop_append_of_le_length (by simp;omega),List.drop_of_length_le (by simp;omega)];simp[h]
theorem hexL_len:hexL.length=16:=rfl
theorem mk_y (n:Nat) (h:(((((n:Int)=42∨(n:Int)=40)∨(n:Int)=41)∨(n:Int)=92)∨(n:Int)<32)∨(n:Int)>126):mkN n=true:=by
 unfold mkN;simpa only[Bool.or_eq_true,ξe]using h
theorem escR_c (s:List UInt8) (hl:s.length≤1000000):PCalls Tryz.prog 77 [.x (.str s)] (.x (.str (escS s))):=by
 refine FCalls.pure (fcallsG (fz:=true) G_ok (p:=i77) rfl _ (ξ rfl) _ (fun C0 E0=> ?_)) rfl
 dsimp only[i77,qt,qi,qs,qb,qm,qa,qh,qj,qT,qF,qe,ql,qL,qf,q2,q3,q8,qz,qp,qP,qc,qk,qx,qy,qo,qr,qC,argsφ]
 have uu:=trivial
 have tT:=(noTabs_ok:SsOk Tryz.prog noTabs)
 refine nz ?_
 refine rg tT [0] ?_
 refine rg tT [0,3] ?_
 refine rg tT [0,3,4] ?_
 refine rg tT [0,3,4,5] ?_
 refine WI.loop (fun φ os=> ∃(j:Nat),φ= [(0,.x (.str s)),(3,.x (.str hexL)),(4,.x (.str (escS (s.take j)))),(5,.x (.int .i64 j))]∧os= []∧j≤s.length) (down s.length 5) ?_ (fun φ os hI=> ?_)
 ·exact⟨0,rfl,rfl,by omega⟩
 ·obtain⟨j,rfl,rfl,hj⟩:=hI
  refine nz ?_
  refine rg tT [0,3,4,5,10] ?_
  refine cd (fun h0=> ?_) (fun h0=> ?_)
  ·have hj4:j<s.length:=by omega
   have hle:=escS_len (s.take j)
   rw[List.length_take]at hle
   have hle2:(escS (s.take j)).length≤3000000:=by omega
   have hst:=escS_take s j hj4
   have hb8:(s.getD j 0).toNat<256:=UInt8.toNat_lt _
   refine rg tT [0,3,4,5,6] ?_
   refine rg tT [0,3,4,5,6,37] ?_
   refine cd (fun h1=> ?_) (fun h1=> ?_)
   ·have hn:escB (s.getD j 0)= [92,dgt ((s.getD j 0).toNat/16),dgt ((s.getD j 0).toNat % 16)]:=by rw[escB,if_pos (mk_y _ h1)]
    have uu:=ξn uu (ξn (show decide (((s.getD j 0).toNat/16:Nat)≤(((s.getD j 0).toNat/16+1:Nat):Int))=true from ξt (by omega)) (ξn (show decide (((s.getD j 0).toNat/16+1:Nat)≤((16:Nat):Int))=true from ξt (by omega)) (ξn (qu16 _ hb8) (ξn (qr16 (s.getD j 0).toNat) (ξn (hex_sl ((s.getD j 0).toNat/16) (by omega)) (ξn (hex_sl ((s.getD j 0).toNat % 16) (by omega)) (ξn (wrap1 ((s.getD j 0).toNat/16) (by omega)) (ξn (wrap1 ((s.getD j 0).toNat % 16) (by omega)) hexL_len))))))))
    refine WI.dregB tT [0,3,4,5] ?_
    refine dFS ?_
    refine dFG ?_
    iterate 2 refine dFS ?_
    refine dFG ?_
    refine dFS ?_
    iterate 4 refine dFG ?_
    iterate 2 refine dFS ?_
    refine dFG ?_
    refine dFS ?_
    iterate 4 refine dFG ?_
    refine dFS ?_
    refine dN ?_
    refine nz ?_
    refine rg tT [0,3,4,5] ?_
    exact⟨⟨j+1,by rw[hst,hn];first|rfl|simp,rfl,by omega⟩,by simp[down,Ab.get,D.val,intOf?];omega⟩
   ·have hn:escB (s.getD j 0)= [s.getD j 0]:=by rw[escB,if_neg (by unfold mkN;simp only[Bool.or_eq_true,ξe];omega)]
    have uu:=ξn uu (sl_one s j hj4)
    refine rg tT [0,3,4,5] ?_
    refine rg tT [0,3,4,5] ?_
    exact⟨⟨j+1,by rw[hst,hn];first|rfl|simp,rfl,by omega⟩,by simp[down,Ab.get,D.val,intOf?];omega⟩
  ·refine rg tT [2] ?_
   refine lf ?_
   rw[ξT (by omega)]
def escRG:List D→Option (Bool×D)
 | [.x (.str s)]=>some (decide (s.length≤1000000),.x (.str (escS s)))
 |_=>none
theorem escRG_ok: ∀args r,escRG args=some (true,r)→PCalls Tryz.prog 77 args r:=by
 intro args r h
 unfold escRG at h
 split at h
 ·rename_i s
  simp only[ξI,ξP,ξa,ξe,true_and]at h
  obtain⟨h1,rfl⟩:=h
  exact(escR_c s h1)
 ·cases h
def hexN (n:Nat):Nat:=if 48≤n∧n≤57 then n-48 else if 97≤n∧n≤102 then n-97+10 else 16
theorem halfR_c (c:Nat) (hc:c<256):PCalls Tryz.prog 93 [.x (.int .u8 c)] (.x (.int .u8 (hexN c))):=by
 refine FCalls.pure (fcallsG (fz:=true) G_ok (p:=i93) rfl _ (ξ rfl) _ (fun C0 E0=> ?_)) rfl
 dsimp only[i93,qt,qi,qs,qb,qm,qa,qh,qj,qT,qF,qe,ql,qL,qf,q2,q3,q8,qz,qp,qP,qc,qk,qx,qy,qo,qr,qC,argsφ]
 have uu:=trivial
 have tT:=(noTabs_ok:SsOk Tryz.prog noTabs)
 refine nz ?_
 refine rg tT [0] ?_
 refine rg tT [0,3] ?_
 refine cd (fun h0=> ?_) (fun h0=> ?_)
 ·refine rg tT [2] ?_
  refine lf ?_
  rw[hexN,if_pos (by omega),IntWalk.u8_in _ (by omega)];congr 2;omega
 ·refine rg tT [0,12] ?_
  refine cd (fun h1=> ?_) (fun h1=> ?_)
  ·refine rg tT [2] ?_
   refine lf ?_
   rw[hexN,if_neg (by omega),if_pos (by omega),IntWalk.u8_in ((c:Int)-97) (by omega),IntWalk.u8_in _ (by omega)];congr 2;omega
  ·refine rg tT [2] ?_
   refine lf ?_
   rw[hexN,if_neg (by omega),if_neg (by omega)];rfl
def hexR (c:Nat):Nat×Bool:=if hexN c<16 then(hexN c,true)else(0,false)
theorem hexR_at: ∀k:Fin 16,hexR (hexL.getD k.val 0).toNat=(k.val,true):=by decide+kernel
theorem hexR_noN: ∀c:Fin 256,(∀k:Fin 16,(hexL.getD k.val 0).toNat≠c.val)→hexR c.val=(0,false):=by decide+kernel
theorem hexR_no (c:Nat) (hc:c<256) (h: ∀k,k<16→(hexL.getD k 0).toNat≠c):hexR c=(0,false):=hexR_noN ⟨c,hc⟩ (fun k=>h k.val k.isLt)
def vInt':Value→Int
 | .int _ n=>n
 |_=>0
def hexC:Array Value:= #[.int .u8 48,.int .u8 49,.int .u8 50,.int .u8 51,.int .u8 52,.int .u8 53,.int .u8 54,.int .u8 55,.int .u8 56,.int .u8 57,.int .u8 97,.int .u8 98,.int .u8 99,.int .u8 100,.int .u8 101,.int .u8 102]
set_option maxHeartbeats 4000000 in
set_option maxRecDepth 100000 in
theorem half_walk (c:Nat) (w:World) (hc:c<256):
  Calls Tryz.prog 103 #[.int .u8 c] w fun e w'=>e= .returned (.tuple #[.int .u8 (hexR c).1,.bool (hexR c).2])∧Below w.heap.size w w':=by
 have kc:=fun(w:World) (C:Array Value) (n c:Nat)=>Lib.run_convert_bytes_const (P:=Tryz.prog) w 52 5 C n c Tryz.underlying52 Tryz.underlying5
 go_enter Tryz.func103,Tryz.ntmps103
 go_wp2_with fail
 go_loopw [9] (fun i wr=> ∃(k:Nat),k≤16∧i= .int .i64 k∧wr=w.alloc (.cells hexC 5 (16,17))∧ ∀m,m<k→(hexL.getD m 0).toNat≠c) (fun i _=>16-(vInt' i).toNat)
 case atStart=>exact⟨0,by omega,rfl,rfl,by intro m hm;omega⟩
 case round=>
  obtain⟨k,hk,rfl,rfl,hno⟩:=hrel
  have hcell: ∀m:Fin 16,(w.alloc (.cells hexC 5 (16,17))).cell? ⟨w.heap.size,m.val,none⟩=some (.int .u8 (hexL.getD m.val 0).toNat):=by
   intro m
   have hb:(w.alloc (.cells hexC 5 (16,17))).heap[w.heap.size]? =some (.cells hexC 5 (16,17)):=by
    show(w.heap.push _)[w.heap.size]? =_
    simp
   rw[Lib.cell_of_heap hb]
   revert m;intro m;rcases m with⟨m,hm⟩;(repeat(rcases m with _|m;rfl));omega
  by_cases hlt:k<16
  ·have hc1:=hcell ⟨k,hlt⟩
   have hat:=hexR_at ⟨k,hlt⟩
   simp only at hc1 hat
   by_cases hq:(hexL.getD k 0).toNat=c
   ·rw[hq]at hc1 hat
    have hk1:IntKind.u8.wrap (k:Int)=(k:Int):=IntWalk.u8_in _ (by omega)
    clear hno hcell
    go_wp2_with fail
    exact bodyPost_ret (v:= .tuple #[.int .u8 (k:Int),.bool true]) (by simp[results,Tryz.results103,go_sem]) rfl ⟨by rw[hat],(Below.refl _ w).alloc (Nat.le_refl _) _⟩
   ·have hq':=hq
    have hq1:decide (((hexL.getD k 0).toNat:Int)=(c:Int))=false:=decide_eq_false (by omega)
    generalize(hexL.getD k 0).toNat=d at hc1 hq hq1
    clear hcell
    go_wp2_with fail
    exact⟨⟨k+1,by omega,by first|rfl|simp,trivial,fun m hm=>if h:m=k then by subst h;exact hq' else hno m (by omega)⟩,by simp[vInt'];omega⟩
  ·obtain rfl:k=16:=by omega
   have hnn:=hexR_no c hc hno
   clear hno hcell
   go_wp2_with fail
   exact bodyPost_ret (v:= .tuple #[.int .u8 0,.bool false]) (by simp[results,Tryz.results103,go_sem]) rfl ⟨by rw[hnn];rfl,(Below.refl _ w).alloc (Nat.le_refl _) _⟩
theorem half_c (n:Nat) (hn:n<256):PCalls Tryz.prog 103 [.x (.int .u8 n)] (.tup [.x (.int .u8 (hexR n).1),.x (.bool (hexR n).2)]):=by
 intro w st vs hst hvl
 obtain⟨hsz,hv⟩:=hvl
 obtain⟨v0,rfl⟩: ∃v0,vs= #[v0]:=by
  obtain⟨vl⟩:=vs
  match vl,hsz with
  | [a],_=>exact⟨a,rfl⟩
 have h0:=hv 0 _ v0 rfl rfl
 cases h0 with
 |x h0=>
 cases h0 with
 |int _ _=>
 refine(half_walk n w hn).mono ?_
 rintro e w' ⟨rfl,hb⟩
 exact⟨_,st,rfl,⟨hb.os,hb.tape,hb.output,hb.size,fun k hk _=>hb.block k hk⟩,fun _ _ h=>h,fun _ _ h=> .inl h,V.tup2 (.x (.int _ _)) _⟩
theorem half_enters:Go.Ab.Enters Tryz.prog 103:=enters_of Tryz.func103 (by kernel_rfl) rfl
def halfXG:List D→Option (Bool×D)
 | [.x (.int .u8 n)]=>some (decide (0≤n∧n<256),.tup [.x (.int .u8 (hexR n.toNat).1),.x (.bool (hexR n.toNat).2)])
 |_=>none
theorem halfXG_ok: ∀args r,halfXG args=some (true,r)→PCalls Tryz.prog 103 args r:=by
 intro args r h
 unfold halfXG at h
 split at h
 ·rename_i n
  simp only[ξI,ξP,ξa,ξe,true_and]at h
  obtain⟨h1,rfl⟩:=h
  exact(by obtain⟨m,rfl⟩: ∃m:Nat,n=m:=⟨n.toNat,by omega⟩;rw[Int.toNat_natCast];exact half_c m (by omega))
 ·cases h
def hx (c:UInt8):Nat:=hexN c.toNat
def hxV (h l:UInt8):UInt8:=UInt8.ofNat (16*hx h+hx l)
def unE:List UInt8→Option (List UInt8)
 | []=>some []
 |c::r=>if c=92 then match r with
   |h::l::r'=>if hx h<16∧hx l<16 then(unE r').map (hxV h l:: ·)else none
   |_=>none
  else(unE r).map (c:: ·)
theorem unE_plain (s:List UInt8) (j:Nat) (h:j<s.length) (hc:s.getD j 0≠92):unE (s.drop j)=(unE (s.drop (j+1))).map (s.getD j 0:: ·):=by
 rw[List.drop_eq_getElem_cons h]
 have:s.getD j 0=s[j]:=by simp[h]
 rw[this]at hc⊢
 conv=>lhs;unfold unE
 rw[if_neg hc]
theorem unE_short (s:List UInt8) (j:Nat) (h:j<s.length) (hc:s.getD j 0=92) (h3:s.length-j<3):unE (s.drop j)=none:=by
 have:s.getD j 0=s[j]:=by simp[h]
 rw[List.drop_eq_getElem_cons h,←this,hc]
 have hl:(s.drop (j+1)).length<2:=by simp;omega
 generalize s.drop (j+1)=r at hl
 match r,hl with
 | [],_=>rfl
 | [x],_=>rfl
theorem drop2 (s:List UInt8) (j:Nat) (h:j+2<s.length):s.drop (j+1)=s.getD (j+1) 0::s.getD (j+2) 0::s.drop (j+3):=by
 rw[List.drop_eq_getElem_cons (show j+1<s.length by omega),List.drop_eq_getElem_cons (show j+1+1<s.length by omega)]
 simp[show j+1<s.length by omega,h]
theorem unE_esc (s:List UInt8) (j:Nat) (h:j+2<s.length) (hc:s.getD j 0=92):unE (s.drop j)=if hx (s.getD (j+1) 0)<16∧hx (s.getD (j+2) 0)<16 then(unE (s.drop (j+3))).map (hxV (s.getD (j+1) 0) (s.getD (j+2) 0):: ·)else none:=by
 have:s.getD j 0=s[j]:=by simp[show j<s.length by omega]
 rw[List.drop_eq_getElem_cons (show j<s.length by omega),←this,hc,drop2 s j h]
 conv=>lhs;unfold unE
 simp
def valF (s:List UInt8):List UInt8×Bool:=match unE s with
 |none=>([],false)
 |some b=>(b,decide (escS b=s))
theorem valF_none (s:List UInt8) (h:unE s=none):valF s=([],false):=by unfold valF;rw[h]
theorem valF_some (s b:List UInt8) (h:unE s=some b):valF s=(b,decide (escS b=s)):=by unfold valF;rw[h]
theorem map_map_app (o:Option (List UInt8)) (b:List UInt8) (c:UInt8):(o.map (c:: ·)).map (b++ ·)=o.map ((b++ [c])++ ·):=by
 cases o<;>simp
theorem hexR_1 (n:Nat) (h:(hexR n).2=true):(hexR n).1=hexN n∧hexN n<16:=by
 unfold hexR at h⊢;split at h
 ·rename_i h1;rw[if_pos h1];exact⟨rfl,h1⟩
 ·cases h
theorem hexR_0 (n:Nat) (h:(hexR n).2=false): ¬hexN n<16:=by
 unfold hexR at h;split at h
 ·cases h
 ·rename_i h1;exact h1
theorem orN: ∀(a b:Fin 16),IntKind.u8.wrap ((BitVec.ofInt IntKind.u8.bits (IntKind.u8.wrap ((a.val:Int)*2^min 4 IntKind.u8.bits))|||BitVec.ofInt IntKind.u8.bits (b.val:Int)).toNat:Int)=((UInt8.ofNat (16*a.val+b.val)).toNat:Int):=by decide+kernel
theorem orHx (h l:UInt8) (h1:hx h<16) (h2:hx l<16):IntKind.u8.wrap ((BitVec.ofInt IntKind.u8.bits (IntKind.u8.wrap ((hx h:Int)*2^min 4 IntKind.u8.bits))|||BitVec.ofInt IntKind.u8.bits (hx l:Int)).toNat:Int)=((hxV h l).toNat:Int):=orN ⟨_,h1⟩ ⟨_,h2⟩
theorem okHx (c:UInt8):decide (0≤(c.toNat:Int)∧(c.toNat:Int)<256)=true:=by
 have:=UInt8.toNat_lt c
 exact ξt (by omega)
theorem okHx2 (c:UInt8):decide ((c.toNat:Int)<256)=true:=by
 have:=UInt8.toNat_lt c
 exact ξt (by omega)
theorem c92' {c:UInt8} (h:(c.toNat:Int)=92):c=92:=by
 apply UInt8.toNat_inj.1;show c.toNat=92;omega
theorem hexR_f (h l:UInt8) (e:(hexR h.toNat).2=false∨(hexR l.toNat).2=false): ¬(hx h<16∧hx l<16):=by
 rintro⟨a,b⟩
 rcases e with e|e
 ·exact hexR_0 _ e a
 ·exact hexR_0 _ e b
theorem hexR_t (h l:UInt8) (e:(hexR h.toNat).2=true∧(hexR l.toNat).2=true):(hexR h.toNat).1=hx h∧(hexR l.toNat).1=hx l∧hx h<16∧hx l<16:=
 ⟨(hexR_1 _ e.1).1,(hexR_1 _ e.2).1,(hexR_1 _ e.1).2,(hexR_1 _ e.2).2⟩
def tabFx3:Tabs:=addQ (addQ (noTabs) 103 halfXG) 104 escG
theorem tabFx3_ok:SsOk Tryz.prog tabFx3:=addQ_ok (addQ_ok (noTabs_ok) half_enters halfXG_ok) (G_enters G_ok (p:=i104) rfl) escG_ok
theorem tabFx3_q103 (a:List D):tabFx3.q 103 a=halfXG a:=rfl
theorem tabFx3_q104 (a:List D):tabFx3.q 104 a=escG a:=rfl
theorem tabFx3_r (f:FuncId) (a:List D) (o:List Ob):tabFx3.r f a o=none:=rfl
theorem tabFx3_k (f:FuncId) (a:List D) (o:List Ob):tabFx3.k f a o=none:=rfl
theorem value_c (s:List UInt8) (hl:s.length≤1000000):PCalls Tryz.prog 90 [.x (.str s)] (.tup [.x (.str (valF s).1),.x (.bool (valF s).2)]):=by
 refine FCalls.pure (fcallsG (fz:=true) G_ok (p:=i90) rfl _ (ξ rfl) _ (fun C0 E0=> ?_)) rfl
 dsimp only[i90,qt,qi,qs,qb,qm,qa,qh,qj,qT,qF,qe,ql,qL,qf,q2,q3,q8,qz,qp,qP,qc,qk,qx,qy,qo,qr,qC,argsφ]
 have uu:=ξn @halfXG.eq_1 (ξn @halfXG.eq_2 (ξn @escG.eq_1 (ξn @escG.eq_2 (ξn @bytes_all (ξn @bytes_row (ξn @tabFx3_r (ξn @tabFx3_k (ξn @tabFx3_q103 (@tabFx3_q104)))))))))
 have tT:=tabFx3_ok
 refine nz ?_
 refine rg tT [0] ?_
 refine rg tT [0,4] ?_
 refine rg tT [0,4,5] ?_
 refine WI.ownA 4 5 1 ?_
 refine WI.loop (fun φ os=> ∃(j:Nat) (b:List UInt8),φ= [(0,.x (.str s)),(4,.ref 0 b.length 0 b.length),(5,.x (.int .i64 j))]∧os= [.rows false 5 1 (b.map byteRow)]∧j≤s.length∧b.length≤j∧unE s=(unE (s.drop j)).map (b++ ·)) (down s.length 5) ?_ (fun φ os hI=> ?_)
 ·exact⟨0,[],rfl,rfl,by omega,by simp,by simp⟩
 ·obtain⟨j,b,rfl,rfl,hj,hbl,hun⟩:=hI
  refine nz ?_
  refine rg tT [0,4,5,14] ?_
  refine cd (fun h0=> ?_) (fun h0=> ?_)
  ·refine rg tT [0,4,5,6] ?_
   refine rg tT [0,4,5,6,21] ?_
   refine cd (fun h1=> ?_) (fun h1=> ?_)
   ·have hj4:j<s.length:=by omega
    have hst:=unE_plain s j hj4 (by intro hc;rw[hc]at h1;exact absurd h1 (by decide))
    refine rgp tT [0,4,5] ?_
    refine pPick [0] ?_
    refine pEnd ?_
    refine nz ?_
    refine rg tT [0,4,5] ?_
    exact⟨by first|exact⟨j+1,b++ [s.getD j 0],by first|(rw[ξA];done)|(rw[ξA];rfl),by first|(rw[bytes_snoc];done)|(rw[bytes_snoc];rfl),by omega,by rw[ξA];simp;omega,by rw[hun,hst,map_map_app]⟩|exact⟨j+3,b++ [hxV (s.getD (j+1) 0) (s.getD (j+2) 0)],by first|(rw[ξA];done)|(rw[ξA];rfl),by first|(rw[bytes_snoc];done)|(rw[bytes_snoc];rfl),by omega,by rw[ξA];simp;omega,by rw[hun,hst,map_map_app]⟩,by simp[down,Ab.get,D.val,intOf?];omega⟩
   ·have hj4:j<s.length:=by omega
    have hc:s.getD j 0=92:=c92' (by first|exact h1|(simpa using h1))
    refine rg tT [0,4,5,30] ?_
    refine cd (fun h2=> ?_) (fun h2=> ?_)
    ·refine rg tT [2,3] ?_
     refine lf ?_
     rw[valF_none s (by rw[hun,unE_short s j hj4 hc (by omega)];rfl)]
    ·have e1:((j:Int)+1).toNat=j+1:=by omega
     have e2:((j:Int)+2).toNat=j+2:=by omega
     have hst:=unE_esc s j (by omega) hc
     have uu:=ξn uu (ξn e1 (ξn e2 (ξn (okHx (s.getD (j+1) 0)) (ξn (okHx (s.getD (j+2) 0)) (ξn (okHx2 (s.getD (j+1) 0)) (okHx2 (s.getD (j+2) 0)))))))
     refine rg tT [0,4,5,7,8] ?_
     refine rg tT [0,4,5,7,8,9,10] ?_
     refine rg tT [0,4,5,7,9,52] ?_
     refine cd (fun h3=> ?_) (fun h3=> ?_)
     ·refine rg tT [2,3] ?_
      refine lf ?_
      rw[valF_none s (by rw[hun,hst,if_neg (hexR_f _ _ h3)];rfl)]
     ·obtain⟨hh1,hh2,hg1,hg2⟩:=hexR_t _ _ h3
      rw[if_pos ⟨hg1,hg2⟩]at hst
      have uu:=ξn uu (ξn hh1 (ξn hh2 (orHx _ _ hg1 hg2)))
      refine rgp tT [0,4,5] ?_
      refine pPick [0] ?_
      refine pEnd ?_
      refine nz ?_
      refine rg tT [0,4,5] ?_
      refine rg tT [0,4,5] ?_
      exact⟨by first|exact⟨j+1,b++ [s.getD j 0],by first|(rw[ξA];done)|(rw[ξA];rfl),by first|(rw[bytes_snoc];done)|(rw[bytes_snoc];rfl),by omega,by rw[ξA];simp;omega,by rw[hun,hst,map_map_app]⟩|exact⟨j+3,b++ [hxV (s.getD (j+1) 0) (s.getD (j+2) 0)],by first|(rw[ξA];done)|(rw[ξA];rfl),by first|(rw[bytes_snoc];done)|(rw[bytes_snoc];rfl),by omega,by rw[ξA];simp;omega,by rw[hun,hst,map_map_app]⟩,by simp[down,Ab.get,D.val,intOf?];omega⟩
  ·have e8:(b.map byteRow).take b.length=b.map byteRow:=ξT (by simp)
   have e9:unE s=some b:=by rw[hun,List.drop_of_length_le (by omega)];simp[unE]
   have uu:=ξn uu e8
   refine WI.dregB tT [2,3] ?_
   refine dFS ?_
   refine dQG ?_
   refine dFS ?_
   refine dQG ?_
   refine dQC ?_
   refine dFS ?_
   refine dFG ?_
   iterate 2 refine dFS ?_
   refine dN ?_
   refine nz ?_
   refine lf ?_
   rw[valF_some s b e9,show(escS b==s)=decide (escS b=s) by rw[Bool.eq_iff_iff];simp]
def valueG:List D→Option (Bool×D)
 | [.x (.str s)]=>some (decide (s.length≤1000000),.tup [.x (.str (valF s).1),.x (.bool (valF s).2)])
 |_=>none
theorem valueG_ok: ∀args r,valueG args=some (true,r)→PCalls Tryz.prog 90 args r:=by
 intro args r h
 unfold valueG at h
 split at h
 ·rename_i s
  simp only[ξI,ξP,ξa,ξe,true_and]at h
  obtain⟨h1,rfl⟩:=h
  exact(value_c s h1)
 ·cases h
def unR:List UInt8→List UInt8
 | []=> []
 |c::r=>if c=92 then match r with
   |h::l::r'=>if hx h<16∧hx l<16 then hxV h l::unR r' else c::unR (h::l::r')
   |r=>c::unR r
  else c::unR r
theorem unR_plain (s:List UInt8) (j:Nat) (h:j<s.length) (hc: ¬(s.getD j 0=92∧j+2<s.length∧hx (s.getD (j+1) 0)<16∧hx (s.getD (j+2) 0)<16)):unR (s.drop j)=s.getD j 0::unR (s.drop (j+1)):=by
 have e:s.getD j 0=s[j]:=by simp[h]
 by_cases h92:s.getD j 0=92
 ·by_cases h3:j+2<s.length
  ·rw[List.drop_eq_getElem_cons h,←e,h92,drop2 s j h3]
   conv=>lhs;unfold unR
   rw[if_pos rfl]
   simp only
   rw[if_neg (fun hh=>hc ⟨h92,h3,hh⟩)]
  ·rw[List.drop_eq_getElem_cons h,←e,h92]
   have hl:(s.drop (j+1)).length<2:=by simp;omega
   generalize s.drop (j+1)=r at hl
   match r,hl with
   | [],_=>rfl
   | [x],_=>rfl
 ·rw[List.drop_eq_getElem_cons h,←e]
  conv=>lhs;unfold unR
  rw[if_neg h92]
theorem unR_esc (s:List UInt8) (j:Nat) (h:j+2<s.length) (hc:s.getD j 0=92) (hh:hx (s.getD (j+1) 0)<16∧hx (s.getD (j+2) 0)<16):unR (s.drop j)=hxV (s.getD (j+1) 0) (s.getD (j+2) 0)::unR (s.drop (j+3)):=by
 have e:s.getD j 0=s[j]:=by simp[show j<s.length by omega]
 rw[List.drop_eq_getElem_cons (show j<s.length by omega),←e,hc,drop2 s j h]
 conv=>lhs;unfold unR
 rw[if_pos rfl]
 simp only
 rw[if_pos hh]
def halfRG:List D→Option (Bool×D)
 | [.x (.int .u8 n)]=>some (decide (0≤n∧n<256),.x (.int .u8 (hexN n.toNat)))
 |_=>none
theorem halfRG_ok: ∀args r,halfRG args=some (true,r)→PCalls Tryz.prog 93 args r:=by
 intro args r h
 unfold halfRG at h
 split at h
 ·rename_i n
  simp only[ξI,ξP,ξa,ξe,true_and]at h
  obtain⟨h1,rfl⟩:=h
  exact(by obtain⟨m,rfl⟩: ∃m:Nat,n=m:=⟨n.toNat,by omega⟩;rw[Int.toNat_natCast];exact halfR_c m (by omega))
 ·cases h
theorem mulN: ∀(a b:Fin 16),IntKind.u8.wrap (IntKind.u8.wrap ((a.val:Int)*16)+(b.val:Int))=((UInt8.ofNat (16*a.val+b.val)).toNat:Int):=by decide+kernel
theorem mulHx (h l:UInt8) (h1:hx h<16) (h2:hx l<16):IntKind.u8.wrap (IntKind.u8.wrap ((hexN h.toNat:Int)*16)+(hexN l.toNat:Int))=((hxV h l).toNat:Int):=mulN ⟨_,h1⟩ ⟨_,h2⟩
def tabFx4:Tabs:=addQ (noTabs) 93 halfRG
theorem tabFx4_ok:SsOk Tryz.prog tabFx4:=addQ_ok (noTabs_ok) (G_enters G_ok (p:=i93) rfl) halfRG_ok
theorem tabFx4_q93 (a:List D):tabFx4.q 93 a=halfRG a:=rfl
theorem tabFx4_r (f:FuncId) (a:List D) (o:List Ob):tabFx4.r f a o=none:=rfl
theorem tabFx4_k (f:FuncId) (a:List D) (o:List Ob):tabFx4.k f a o=none:=rfl
theorem valueR_c (s:List UInt8) (hl:s.length≤1000000):PCalls Tryz.prog 73 [.x (.str s)] (.x (.str (unR s))):=by
 refine FCalls.pure (fcallsG (fz:=true) G_ok (p:=i73) rfl _ (ξ rfl) _ (fun C0 E0=> ?_)) rfl
 dsimp only[i73,qt,qi,qs,qb,qm,qa,qh,qj,qT,qF,qe,ql,qL,qf,q2,q3,q8,qz,qp,qP,qc,qk,qx,qy,qo,qr,qC,argsφ]
 have uu:=ξn @halfRG.eq_1 (ξn @halfRG.eq_2 (ξn @bytes_all (ξn @bytes_row (ξn @tabFx4_r (ξn @tabFx4_k (@tabFx4_q93))))))
 have tT:=tabFx4_ok
 refine nz ?_
 refine rg tT [0] ?_
 refine rg tT [0,3] ?_
 refine rg tT [0,3,4] ?_
 refine WI.ownA 3 5 1 ?_
 refine WI.loop (fun φ os=> ∃(j:Nat) (b:List UInt8),φ= [(0,.x (.str s)),(3,.ref 0 b.length 0 b.length),(4,.x (.int .i64 j))]∧os= [.rows false 5 1 (b.map byteRow)]∧j≤s.length∧b.length≤j∧unR s=b++unR (s.drop j)) (down s.length 4) ?_ (fun φ os hI=> ?_)
 ·exact⟨0,[],rfl,rfl,by omega,by simp,by simp⟩
 ·obtain⟨j,b,rfl,rfl,hj,hbl,hun⟩:=hI
  refine nz ?_
  refine rg tT [0,3,4,8] ?_
  refine cd (fun h0=> ?_) (fun h0=> ?_)
  ·have hj4:j<s.length:=by omega
   have e1:((j:Int)+1).toNat=j+1:=by omega
   have e2:((j:Int)+2).toNat=j+2:=by omega
   have uu:=ξn uu (ξn e1 (ξn e2 (ξn (okHx (s.getD (j+1) 0)) (ξn (okHx (s.getD (j+2) 0)) (ξn (okHx2 (s.getD (j+1) 0)) (okHx2 (s.getD (j+2) 0)))))))
   refine rg tT [0,3,4,37] ?_
   refine cd (fun h1=> ?_) (fun h1=> ?_)
   ·have hq:s.getD j 0=92∧j+2<s.length∧hx (s.getD (j+1) 0)<16∧hx (s.getD (j+2) 0)<16:=by
     obtain⟨⟨⟨a,b⟩,c⟩,d⟩:=h1
     exact⟨c92' a,by omega,by unfold hx;omega,by unfold hx;omega⟩
    have hst:=unR_esc s j hq.2.1 hq.1 hq.2.2
    have uu:=ξn uu (mulHx _ _ hq.2.2.1 hq.2.2.2)
    refine WI.post ?_
    refine WI.dregB tT [0,3,4] ?_
    iterate 3 refine dFS ?_
    iterate 2 refine dFG ?_
    refine dAC ?_
    refine dFG ?_
    iterate 2 refine dFS ?_
    iterate 2 refine dFG ?_
    refine dAC ?_
    refine dFG ?_
    iterate 2 refine dAG ?_
    refine dFS ?_
    refine dP ?_
    refine pPick [0] ?_
    refine pEnd ?_
    refine nz ?_
    refine rg tT [0,3,4] ?_
    refine rg tT [0,3,4] ?_
    exact⟨by first|exact⟨j+1,b++ [s.getD j 0],by first|(rw[ξA];done)|(rw[ξA];rfl),by first|(rw[bytes_snoc];done)|(rw[bytes_snoc];rfl),by omega,by rw[ξA];simp;omega,by rw[hun,hst];simp⟩|exact⟨j+3,b++ [hxV (s.getD (j+1) 0) (s.getD (j+2) 0)],by first|(rw[ξA];done)|(rw[ξA];rfl),by first|(rw[bytes_snoc];done)|(rw[bytes_snoc];rfl),by omega,by rw[ξA];simp;omega,by rw[hun,hst];simp⟩,by simp[down,Ab.get,D.val,intOf?];omega⟩
   ·have hq: ¬(s.getD j 0=92∧j+2<s.length∧hx (s.getD (j+1) 0)<16∧hx (s.getD (j+2) 0)<16):=by
     rintro⟨a,b,c,d⟩
     unfold hx at c d
     have a':((s.getD j 0).toNat:Int)=92:=by rw[a];rfl
     omega
    have hst:=unR_plain s j hj4 hq
    refine rgp tT [0,3,4] ?_
    refine pPick [0] ?_
    refine pEnd ?_
    refine nz ?_
    refine rg tT [0,3,4] ?_
    exact⟨by first|exact⟨j+1,b++ [s.getD j 0],by first|(rw[ξA];done)|(rw[ξA];rfl),by first|(rw[bytes_snoc];done)|(rw[bytes_snoc];rfl),by omega,by rw[ξA];simp;omega,by rw[hun,hst];simp⟩|exact⟨j+3,b++ [hxV (s.getD (j+1) 0) (s.getD (j+2) 0)],by first|(rw[ξA];done)|(rw[ξA];rfl),by first|(rw[bytes_snoc];done)|(rw[bytes_snoc];rfl),by omega,by rw[ξA];simp;omega,by rw[hun,hst];simp⟩,by simp[down,Ab.get,D.val,intOf?];omega⟩
  ·have e8:(b.map byteRow).take b.length=b.map byteRow:=ξT (by simp)
   have e9:unR s=b:=by rw[hun,List.drop_of_length_le (by omega)];simp[unR]
   have uu:=ξn uu e8
   refine rg tT [2] ?_
   refine lf ?_
   rw[e9]
def valueRG:List D→Option (Bool×D)
 | [.x (.str s)]=>some (decide (s.length≤1000000),.x (.str (unR s)))
 |_=>none
theorem valueRG_ok: ∀args r,valueRG args=some (true,r)→PCalls Tryz.prog 73 args r:=by
 intro args r h
 unfold valueRG at h
 split at h
 ·rename_i s
  simp only[ξI,ξP,ξa,ξe,true_and]at h
  obtain⟨h1,rfl⟩:=h
  exact(valueR_c s h1)
 ·cases h
end Go.Proofs.YtmlpbojoekmfaaaGreatDoor
end
section
namespace Go.Proofs
open Go.Shelf Go.RowKit Go.Lib
set_option maxHeartbeats 1000000 in
theorem Any1.strings_Split_one {P:Program} {ρ:Ren} (L:Lays.n146 P ρ) (hi9:(P.info? (ρ.t 9)).map (fun i=>(i.zero,i.size,i.bytes))=some (some (.string ByteArray.empty),1,16)) (s:ByteArray) (b:UInt8) (w:World) (hs:s.size<4294967281):
  Calls P (ρ.f 146) #[.string s,.string ⟨#[b]⟩] w fun e w'=>
   e= .returned (.slice (some ⟨w.heap.size,0,none⟩) (Lib.countB s ⟨#[b]⟩+1) (Lib.countB s ⟨#[b]⟩+1))∧w'=w.alloc (.cells ((Lib.splitB ⟨#[b]⟩ 0 (Lib.countB s ⟨#[b]⟩) s).map Value.string).toArray (ρ.t 9)):=by
 have h1:1≤(⟨#[b]⟩:ByteArray).size:=Nat.le_refl _
 have hle:=Lib.countB_le ⟨#[b]⟩ h1 s.size s (Nat.le_refl _)
 have hlen:=Lib.splitB_all ⟨#[b]⟩ h1 0 _ s rfl
 have hI: ∀(x:ByteArray) (c:Array Value),x.size≤s.size→Calls P (ρ.f 143) #[.string x,.string ⟨#[b]⟩] (w.alloc (.cells c (ρ.t 9))) fun e w'=>e= .returned (.int .i64 (Lib.indexB x ⟨#[b]⟩))∧w'=w.alloc (.cells c (ρ.t 9)):=fun x c hx=>by
  refine(Any.strings_Index_one {L with} x b _).mono fun e w' ⟨he,hw⟩=>⟨?_,hw⟩
  rw[he,Lib.indexB,Lib.index_one]
 have hC:Calls P (ρ.f 138) #[.string s,.string ⟨#[b]⟩] w fun e w'=>e= .returned (.int .i64 (Lib.countB s ⟨#[b]⟩))∧w'=w:=by
  refine(Any.strings_Count_one {L with} s b w).mono fun e w' ⟨he,hw⟩=>⟨?_,hw⟩
  rw[he]
  show _=Ending.returned (Value.int .i64 ((Lib.count s.data.toList [b]:Nat):Int))
  rw[Lib.count_one]
  rfl
 have c:=Any.strings_genSplit_core {L with} hi9 s ⟨#[b]⟩ 0 (-1) (Lib.countB s ⟨#[b]⟩+1) w hs h1 (Nat.zero_le _) hI hC (by decide) (by decide) (by rw[if_pos (by decide)];omega)
 rw[Nat.add_sub_cancel,hlen]at c
 have e2:Lib.cellsOf (Lib.splitB ⟨#[b]⟩ 0 (Lib.countB s ⟨#[b]⟩) s) (Lib.countB s ⟨#[b]⟩+1)=((Lib.splitB ⟨#[b]⟩ 0 (Lib.countB s ⟨#[b]⟩) s).map Value.string).toArray:=by rw[←hlen];exact Lib.cellsOf_full _
 rw[e2]at c
 have t3:=L.t3;have t9:=L.t9;have t31:=L.t31
 have a3:=L.a3;have a9:=L.a9;have a31:=L.a31
 have z3:=L.z3;have v3:=L.v3;have z9:=L.z9;have v9:=L.v9;have z31:=L.z31;have v31:=L.v31
 have e221: ∀args w,(callFunc (ρ.f 221) args).run P w= .ok (.enter (ρ.f 221) args) w:=enters_of L.f221 (by kernel_rfl) rfl
 go_enter L.f146,Body.n146_ntmps ρ
 go_wp2_with (go_at_fn (ρ.f 221);refine c.mono ?_;rintro e w' ⟨rfl,hw⟩;rw[hw])
 go_ret
 exact⟨rfl,rfl⟩
end Go.Proofs
namespace Go.Proofs.YtmlpbojoekmfaaaGreatDoor
open Go.RowKit Go.Bo Go.Ab
def spl (c:UInt8):List UInt8→List (List UInt8)
 | []=> [[]]
 |b::l=>if b=c then []::spl c l else match spl c l with
  |x::r=>(b::x)::r
  | []=> [[b]]
theorem spl_ne (c:UInt8): ∀s,spl c s≠ []
 | []=>by simp[spl]
 |b::l=>by unfold spl;split;simp;split<;>simp
theorem splK_ne (c b:UInt8) (l:List UInt8) (h:b≠c): ∀k,Lib.splitK [c] 0 k (b::l)=match Lib.splitK [c] 0 k l with
  |x::r=>(b::x)::r
  | []=> [[b]]
 |0=>rfl
 |k+1=>by
  have hp: [c].isPrefixOf (b::l)=false:=by simp[List.isPrefixOf];exact fun e=>h e.symm
  simp only[Lib.splitK,Lib.index,hp,Bool.false_eq_true,if_false]
  by_cases hi:(Lib.index l [c]== -1)=true
  ·simp[hi]
  ·have hn:=Lib.index_ge l [c]
   simp only[hi,Bool.false_eq_true,if_false]
   simp at hi
   have h1:(Lib.index l [c]+1== -1)=false:=by simp;omega
   obtain⟨n,hn⟩: ∃n:Nat,Lib.index l [c]=n:=⟨(Lib.index l [c]).toNat,by omega⟩
   simp[hn,h1]
   intro h;omega
theorem spl_eq (c:UInt8): ∀s,Lib.splitK [c] 0 (Lib.count s [c]) s=spl c s
 | []=>by
  have:Lib.count [] [c]=0:=by rw[Lib.count_one];rfl
  rw[this];rfl
 |b::l=>by
  have ih:=spl_eq c l
  by_cases h:b=c
  ·subst h
   rw[Lib.count_cons_eq,Nat.add_comm]
   have hp: [b].isPrefixOf (b::l)=true:=by simp[List.isPrefixOf]
   simp only[Lib.splitK,Lib.index,hp,if_true,spl]
   simp[ih]
  ·rw[Lib.count_cons_ne _ _ _ h,splK_ne _ _ _ h,ih,spl,if_neg h]
theorem split_c (s:List UInt8) (c:UInt8) (h:s.length≤1000000):PCalls Tryz.prog 25 [.x (.str s),.x (.str [c])] (.x (.sl (rows rStr (spl c s)))):=by
 intro w st vs hst hvl
 obtain⟨hsz,hv⟩:=hvl
 obtain⟨v0,v1,rfl⟩: ∃v0 v1,vs= #[v0,v1]:=by
  obtain⟨vl⟩:=vs
  match vl,hsz with
  | [a,b],_=>exact⟨a,b,rfl⟩
 have h0:=hv 0 _ v0 rfl rfl
 have h1:=hv 1 _ v1 rfl rfl
 clear hv hsz
 cases h0 with
 |x h0=>
 cases h1 with
 |x h1=>
 cases h1 with
 |str _=>
 cases h0 with
 |str _=>
 have hlen:=Lib.splitB_all ⟨#[c]⟩ (Nat.le_refl _) 0 _ (bstr s) rfl
 have hD:(Lib.splitB ⟨#[c]⟩ 0 (Lib.countB (bstr s) ⟨#[c]⟩) (bstr s)).map (·.data.toList)=spl c s:=by
  rw[Lib.splitB_data]
  have e:(bstr s).data.toList=s:=by simp[bstr]
  show Lib.splitK [c] 0 (Lib.count (bstr s).data.toList [c]) (bstr s).data.toList=_
  rw[e];exact spl_eq c s
 have hle:=Lib.countB_le ⟨#[c]⟩ (Nat.le_refl _) (bstr s).size (bstr s) (Nat.le_refl _)
 have hbs:(bstr s).size=s.length:=by simp[bstr,ByteArray.size]
 refine(Any1.strings_Split_one Tryz.lays146 (by kernel_rfl) (bstr s) c w (by omega)).mono ?_
 generalize Lib.splitB ⟨#[c]⟩ 0 (Lib.countB (bstr s) ⟨#[c]⟩) (bstr s)=ps at hlen hD⊢
 generalize Lib.countB (bstr s) ⟨#[c]⟩=k at hlen hle⊢
 rintro e w' ⟨rfl,rfl⟩
 refine⟨_,fun b o=>st b o∨(b=w.heap.size∧o<k+1),rfl,?_,fun _ _ h=> .inl h,?_,?_⟩
 ·exact kept_alloc w _
 ·rintro b o (h|⟨rfl,h⟩)
  ·exact .inl h
  ·exact .inr ⟨Nat.le_refl _,by simp⟩
 ·rw[←hD]
  refine .x (.sl _ _ _ _ 1 (fun i _=> .string (ps[i]?.getD default)) ?_ (Nat.le_refl _) ?_ ?_ ?_ (fun h=>by cases h) (fun _ ad h=>by cases h;rfl) ?_)
  ·rw[rows_len,List.length_map];exact hlen
  ·show k+1≤maxLen;simp only[maxLen];omega
  ·intro r hr
   simp only[rows,List.mem_map]at hr
   obtain⟨x,_,rfl⟩:=hr
   rfl
  ·intro i j hi hj
   have hj0:j=0:=by omega
   subst hj0
   refine⟨_,_,rfl,.inr ⟨rfl,by omega⟩,?_⟩
   have hip:i<ps.length:=by omega
   rw[show 0+i*1+0=i by omega,World.cell?_alloc_at _ _ _ _ rfl]
   simp only[List.getElem?_toArray,ξp,ξg hip,Option.map_some,Option.getD_some]
  ·intro i j r x hr hx
   simp only[rows,ξp,Option.map_map,ξm]at hr
   obtain⟨y,hy,rfl⟩:=hr
   simp only[Function.comp,rStr,RC.enc]at hx
   rcases j with _|j
   ·simp at hx;subst hx
    simp only[hy,Option.getD_some]
    have:y=bstr y.data.toList:=by simp[bstr]
    conv=>rhs;rw[this]
    exact .str _
   ·simp at hx
theorem split_enters:Go.Ab.Enters Tryz.prog 25:=Go.Proofs.enters_of Tryz.lays146.f146 (by kernel_rfl) rfl
def subF (l:List Txt):(Txt×List Txt×Txt)×Bool:=
 if l.all (fun s=>(valF s).2)=true then(((l.map fun s=>(valF s).1).getD 0 [],((l.map fun s=>(valF s).1).take (l.length-1)).drop 1,(l.map fun s=>(valF s).1).getD (l.length-1) []),true)else(([],[],[]),false)
theorem subF_no (l:List Txt) (h: ∃s∈l,(valF s).2=false):subF l=(([],[],[]),false):=by
 unfold subF;rw[if_neg];rw[List.all_eq_true];intro hh;obtain⟨s,h1,h2⟩:=h;have:=hh s h1;rw[h2]at this;cases this
theorem rows_get (l:List Txt) (j:Nat) (h:j<l.length):(rows rStr l)[j]? =some [X.str (l.getD j [])]:=by
 simp[rows,h,rStr]
theorem rows_snocS (l:List Txt) (x:Txt):rows rStr l++ [[X.str x]]=rows rStr (l++ [x]):=by simp[rows,rStr]
theorem rows_sub (l:List Txt) (a b:Nat):((rows rStr l).take a).drop b=rows rStr ((l.take a).drop b):=by simp[rows,List.map_take,List.map_drop]
def tabFx5:Tabs:=addQ (noTabs) 90 valueG
theorem tabFx5_ok:SsOk Tryz.prog tabFx5:=addQ_ok (noTabs_ok) (G_enters G_ok (p:=i90) rfl) valueG_ok
theorem tabFx5_q90 (a:List D):tabFx5.q 90 a=valueG a:=rfl
theorem tabFx5_r (f:FuncId) (a:List D) (o:List Ob):tabFx5.r f a o=none:=rfl
theorem tabFx5_k (f:FuncId) (a:List D) (o:List Ob):tabFx5.k f a o=none:=rfl
theorem subs_c (l:List Txt) (h2:2≤l.length) (hlm:l.length≤1000000) (hl: ∀s∈l,s.length≤1000000):PCalls Tryz.prog 89 [.x (.sl (rows rStr l))] (.tup [.agg [.x (.str (subF l).1.1),.x (.sl (rows rStr (subF l).1.2.1)),.x (.str (subF l).1.2.2)],.x (.bool (subF l).2)]):=by
 refine FCalls.pure (fcallsG (fz:=true) G_ok (p:=i89) rfl _ (ξ rfl) _ (fun C0 E0=> ?_)) rfl
 dsimp only[i89,qt,qi,qs,qb,qm,qa,qh,qj,qT,qF,qe,ql,qL,qf,q2,q3,q8,qz,qp,qP,qc,qk,qx,qy,qo,qr,qC,argsφ]
 have uu:=ξn @valueG.eq_1 (ξn @valueG.eq_2 (ξn @tabFx5_r (ξn @tabFx5_k (@tabFx5_q90))))
 have tT:=tabFx5_ok
 refine nz ?_
 refine WI.regB tT [0,2] ?_
 refine oG ?_
 refine oS ?_
 refine oN ?_
 refine nz ?_
 refine WI.regB tT [0,2,4] ?_
 refine oS ?_
 refine oN ?_
 refine nz ?_
 refine WI.regB tT [2,4,10,11,12] ?_
 refine oS ?_
 refine oG (hok:=by first|exact se|(exact ξt (hl _ (List.getElem_mem (by omega))))|exact sd) ?_
 refine oS ?_
 refine oN ?_
 refine nz ?_
 refine WI.ownA 4 9 1 ?_
 refine WI.loop (fun φ os=> ∃(j:Nat),φ= [(2,.ptr 0 0),(4,.ref 1 j 0 j),(10,.x (.sl (rows rStr l))),(11,.x (.int .i64 l.length)),(12,.x (.int .i64 j))]∧os= [.box [.x (.str []),.x .nils,.x (.str [])],.rows false 9 1 (rows rStr ((l.take j).map fun s=>(valF s).1))]∧j≤l.length∧(l.take j).all (fun s=>(valF s).2)=true) (down l.length 12) ?_ (fun φ os hI=> ?_)
 ·exact⟨0,rfl,rfl,by omega,rfl⟩
 ·obtain⟨j,rfl,rfl,hj,hall⟩:=hI
  refine nz ?_
  refine WI.regB tT [2,4,10,11,12,13] ?_
  refine oG (hok:=by first|exact se|(exact ξt (hl _ (List.getElem_mem (by omega))))|exact sd) ?_
  refine oN ?_
  refine nz ?_
  refine cd (fun h0=> ?_) (fun h0=> ?_)
  ·have hj4:j<l.length:=by omega
   have hst2:(l.take (j+1)).all (fun s=>(valF s).2)=((l.take j).all (fun s=>(valF s).2)&&(valF l[j]).2):=by rw[List.take_succ_eq_append_getElem hj4,List.all_append];simp
   have hrow:rows rStr ((l.take (j+1)).map fun s=>(valF s).1)=rows rStr ((l.take j).map fun s=>(valF s).1)++ [[X.str (valF l[j]).1]]:=by rw[List.take_succ_eq_append_getElem hj4,List.map_append,rows_snocS];rfl
   refine WI.regB tT [2,4,6,10,11,12] ?_
   iterate 2 refine oG (hok:=by first|exact se|(exact ξt (hl _ (List.getElem_mem (by omega))))|exact sd) ?_
   refine oS ?_
   refine oN ?_
   refine nz ?_
   refine WI.regB tT [2,4,7,8,10,11,12] ?_
   refine oS ?_
   refine oC (hok:=by first|exact se|(exact ξt (hl _ (List.getElem_mem (by omega))))|exact sd) ?_
   refine oS ?_
   iterate 2 refine oG ?_
   iterate 2 refine oS ?_
   refine oN ?_
   refine nz ?_
   refine WI.regB tT [2,4,7,10,11,12,22] ?_
   refine oS ?_
   refine oG (hok:=by first|exact se|(exact ξt (hl _ (List.getElem_mem (by omega))))|exact sd) ?_
   refine oN ?_
   refine nz ?_
   refine cd (fun h1=> ?_) (fun h1=> ?_)
   ·refine WI.regB tT [2,3] ?_
    iterate 2 refine oG (hok:=by first|exact se|(exact ξt (hl _ (List.getElem_mem (by omega))))|exact sd) ?_
    refine oS ?_
    refine oN ?_
    refine nz ?_
    refine WI.nnA ?_
    refine lf ?_
    rw[subF_no l ⟨l[j],List.getElem_mem hj4,by simpa using h1⟩];rfl
   ·refine WI.post ?_
    refine WI.regB tT [2,4,10,11,12] ?_
    iterate 2 refine oS ?_
    iterate 2 refine oG (hok:=by first|exact se|(exact ξt (hl _ (List.getElem_mem (by omega))))|exact sd) ?_
    refine oS ?_
    refine oP ?_
    refine pPick [0,1] ?_
    refine pEnd ?_
    refine nz ?_
    refine WI.regB tT [2,4,10,11,12] ?_
    refine oG (hok:=by first|exact se|(exact ξt (hl _ (List.getElem_mem (by omega))))|exact sd) ?_
    refine oS ?_
    refine oN ?_
    refine nz ?_
    exact⟨⟨j+1,by first|rfl|simp,by rw[hrow],by omega,by rw[hst2,hall];simpa using h1⟩,by simp[down,Ab.get,D.val,intOf?];omega⟩
  ·obtain rfl:j=l.length:=by omega
   rw[List.take_length]at hall⊢
   have hr:subF l=(((l.map fun s=>(valF s).1).getD 0 [],((l.map fun s=>(valF s).1).take (l.length-1)).drop 1,(l.map fun s=>(valF s).1).getD (l.length-1) []),true):=by unfold subF;rw[if_pos hall]
   have hml:(l.map fun s=>(valF s).1).length=l.length:=List.length_map ..
   generalize(l.map fun s=>(valF s).1)=m at hr hml⊢
   have e1:((l.length:Int)-1).toNat=l.length-1:=by omega
   have uu:=ξn uu (ξn e1 (ξn hml (ξn (rows_get m 0 (by omega)) (ξn (rows_get m (l.length-1) (by omega)) (rows_sub m (l.length-1) 1)))))
   refine WI.regB tT [2,4,9] ?_
   refine oS ?_
   iterate 2 refine oG (hok:=by first|exact se|(exact ξt (hl _ (List.getElem_mem (by omega))))|exact sd) ?_
   refine oS ?_
   refine oN ?_
   refine nz ?_
   refine WI.dregB tT [2,3] ?_
   refine dFS ?_
   iterate 2 refine dQG (hok:=by first|exact se|(exact ξt (hl _ (List.getElem_mem (by omega))))|exact sd) ?_
   iterate 2 refine dFS ?_
   refine dQG (hok:=by first|exact se|(exact ξt (hl _ (List.getElem_mem (by omega))))|exact sd) ?_
   iterate 2 refine dFS ?_
   iterate 2 refine dQG (hok:=by first|exact se|(exact ξt (hl _ (List.getElem_mem (by omega))))|exact sd) ?_
   refine dFG (hok:=by first|exact se|(exact ξt (hl _ (List.getElem_mem (by omega))))|exact sd) ?_
   refine dAG (hok:=by first|exact se|(exact ξt (hl _ (List.getElem_mem (by omega))))|exact sd) ?_
   refine dFS ?_
   refine dN ?_
   refine nz ?_
   refine WI.nnA ?_
   refine lf ?_
   rw[hr];simp only[List.drop_take]
def subsG:List D→Option (Bool×D)
 | [.x (.sl L)]=>(unrows rStr L).bind fun l=>some (decide (2≤l.length∧l.length≤1000000∧ ∀s∈l,s.length≤1000000),.tup [.agg [.x (.str (subF l).1.1),.x (.sl (rows rStr (subF l).1.2.1)),.x (.str (subF l).1.2.2)],.x (.bool (subF l).2)])
 |_=>none
theorem subsG_ok: ∀args r,subsG args=some (true,r)→PCalls Tryz.prog 89 args r:=by
 intro args r h
 unfold subsG at h
 split at h
 ·rename_i L
  obtain⟨l,hr0,h⟩:=ξB h
  simp only[ξI,ξP,ξa,ξe,true_and]at h
  obtain⟨h1,rfl⟩:=h
  rw[←rows_unrows good_rStr hr0]
  exact(subs_c l h1.1 h1.2.1 h1.2.2)
 ·cases h
theorem spl_none (c:UInt8): ∀t:List UInt8,(∀x∈t,x≠c)→spl c t= [t]
 | [],_=>rfl
 |b::l,h=>by
  unfold spl
  rw[if_neg (h b (by simp)),spl_none c l (fun x hx=>h x (by simp[hx]))]
theorem spl_app (c:UInt8) (t:List UInt8): ∀a:List UInt8,(∀x∈a,x≠c)→spl c (a++c::t)=a::spl c t
 | [],_=>by simp[spl]
 |b::l,h=>by
  rw[List.cons_append]
  conv=>lhs;unfold spl
  rw[if_neg (h b (by simp)),spl_app c t l (fun x hx=>h x (by simp[hx]))]
def starR (s:List UInt8):List Txt:=(spl 42 s).map unR
theorem star_here (s:List UInt8) (f j:Nat) (hf:f≤j) (hj:j<s.length) (hc:s.getD j 0=42) (hn: ∀x∈(s.take j).drop f,x≠42):spl 42 (s.drop f)=(s.take j).drop f::spl 42 (s.drop (j+1)):=by
 have e:s.drop f=(s.take j).drop f++(42:UInt8)::s.drop (j+1):=by
  have h1:s.getD j 0=s[j]:=by simp[hj]
  rw[←hc,h1,←List.drop_eq_getElem_cons hj]
  have h2:s.drop f=(s.take j++s.drop j).drop f:=by rw[List.take_append_drop]
  rw[h2,List.drop_append_of_le_length (by simp;omega)]
 rw[e,spl_app _ _ _ hn]
theorem star_more (s:List UInt8) (f j:Nat) (hf:f≤j) (hj:j<s.length) (hc:s.getD j 0≠42) (hn: ∀x∈(s.take j).drop f,x≠42): ∀x∈(s.take (j+1)).drop f,x≠42:=by
 have h1:s.getD j 0=s[j]:=by simp[hj]
 rw[List.take_succ_eq_append_getElem hj,List.drop_append_of_le_length (by simp;omega)]
 intro x hx
 rcases List.mem_append.1 hx with h|h
 ·exact hn x h
 ·rw[List.mem_singleton]at h;subst h;rwa [←h1]
theorem c42' {c:UInt8} (h:(c.toNat:Int)=42):c=42:=by
 apply UInt8.toNat_inj.1;show c.toNat=42;omega
def tabFx6:Tabs:=addQ (noTabs) 73 valueRG
theorem tabFx6_ok:SsOk Tryz.prog tabFx6:=addQ_ok (noTabs_ok) (G_enters G_ok (p:=i73) rfl) valueRG_ok
theorem tabFx6_q73 (a:List D):tabFx6.q 73 a=valueRG a:=rfl
theorem tabFx6_r (f:FuncId) (a:List D) (o:List Ob):tabFx6.r f a o=none:=rfl
theorem tabFx6_k (f:FuncId) (a:List D) (o:List Ob):tabFx6.k f a o=none:=rfl
theorem stars_c (s:List UInt8) (hl:s.length≤1000000):PCalls Tryz.prog 74 [.x (.str s)] (.x (.sl (rows rStr (starR s)))):=by
 unfold starR
 refine FCalls.pure (fcallsG (fz:=true) G_ok (p:=i74) rfl _ (ξ rfl) _ (fun C0 E0=> ?_)) rfl
 dsimp only[i74,qt,qi,qs,qb,qm,qa,qh,qj,qT,qF,qe,ql,qL,qf,q2,q3,q8,qz,qp,qP,qc,qk,qx,qy,qo,qr,qC,argsφ]
 have uu:=ξn @valueRG.eq_1 (ξn @valueRG.eq_2 (ξn @tabFx6_r (ξn @tabFx6_k (@tabFx6_q73))))
 have tT:=tabFx6_ok
 refine nz ?_
 refine rg tT [0] ?_
 refine rg tT [0,3] ?_
 refine rg tT [0,3,4] ?_
 refine rg tT [0,3,4,5] ?_
 refine WI.ownA 3 9 1 ?_
 refine WI.loop (fun φ os=> ∃(f j:Nat) (ps out:List Txt),φ= [(0,.x (.str s)),(3,.ref 0 out.length 0 out.length),(4,.x (.int .i64 f)),(5,.x (.int .i64 j))]∧os= [.rows false 9 1 (rows rStr out)]∧out=ps.map unR∧f≤j∧j≤s.length∧out.length≤f∧(∀x∈(s.take j).drop f,x≠42)∧spl 42 s=ps++spl 42 (s.drop f)) (down s.length 5) ?_ (fun φ os hI=> ?_)
 ·exact⟨0,0,[],[],rfl,rfl,rfl,by omega,by omega,by simp,by simp,by simp⟩
 ·obtain⟨f,j,ps,out,rfl,rfl,hout,hf,hj,hpl,hn,hsp⟩:=hI
  refine nz ?_
  refine rg tT [0,3,4,5,9] ?_
  refine cd (fun h0=> ?_) (fun h0=> ?_)
  ·have hj4:j<s.length:=by omega
   have hv1:decide (((s.take j).drop f).length≤1000000)=true:=ξt (by simp;omega)
   have uu:=ξn uu hv1
   refine rg tT [0,3,4,5,15] ?_
   refine cd (fun h1=> ?_) (fun h1=> ?_)
   ·have hst:=star_here s f j hf hj4 (c42' (by first|exact h1|simpa using h1)) hn
    refine rgp tT [0,3,5] ?_
    refine pPick [0] ?_
    refine pEnd ?_
    refine nz ?_
    refine rg tT [0,3,4,5] ?_
    refine WI.orderA [0,3,4,5] ?_
    refine rg tT [0,3,4,5] ?_
    exact⟨by first|exact⟨j+1,j+1,ps++ [(s.take j).drop f],out++ [unR ((s.take j).drop f)],by first|rfl|simp,by rw[←rows_snocS],by rw[List.map_append,hout];rfl,by omega,by omega,by simp;omega,by rw[List.drop_of_length_le (by simp;omega)];simp,by rw[hsp,hst];simp⟩|exact⟨f,j+1,ps,out,rfl,rfl,hout,by omega,by omega,hpl,hmore,hsp⟩,by simp[down,Ab.get,D.val,intOf?];omega⟩
   ·have hmore:=star_more s f j hf hj4 (by intro hc;rw[hc]at h1;exact absurd h1 (by decide)) hn
    refine WI.orderA [0,3,4,5] ?_
    refine rg tT [0,3,4,5] ?_
    exact⟨by first|exact⟨j+1,j+1,ps++ [(s.take j).drop f],out++ [unR ((s.take j).drop f)],by first|rfl|simp,by rw[←rows_snocS],by rw[List.map_append,hout];rfl,by omega,by omega,by simp;omega,by rw[List.drop_of_length_le (by simp;omega)];simp,by rw[hsp,hst];simp⟩|exact⟨f,j+1,ps,out,rfl,rfl,hout,by omega,by omega,hpl,hmore,hsp⟩,by simp[down,Ab.get,D.val,intOf?];omega⟩
  ·have hv1:decide ((s.drop f).length≤1000000)=true:=ξt (by simp;omega)
   have hfin:spl 42 s=ps++ [s.drop f]:=by rw[hsp,spl_none 42 (s.drop f) (by rw[ξT (by omega)]at hn;exact hn)]
   have uu:=ξn uu hv1
   refine rgp tT [2] ?_
   refine pPick [0] ?_
   refine pEnd ?_
   refine nz ?_
   refine WI.freezeA [0] ?_
   refine WI.pickA [] ?_
   refine lf ?_
   rw[hfin,List.map_append,List.map_singleton,←hout,←rows_snocS];first|rfl|(rw[ξT (by simp[rows])])
def starsG:List D→Option (Bool×D)
 | [.x (.str s)]=>some (decide (s.length≤1000000),.x (.sl (rows rStr (starR s))))
 |_=>none
theorem starsG_ok: ∀args r,starsG args=some (true,r)→PCalls Tryz.prog 74 args r:=by
 intro args r h
 unfold starsG at h
 split at h
 ·rename_i s
  simp only[ξI,ξP,ξa,ξe,true_and]at h
  obtain⟨h1,rfl⟩:=h
  exact(stars_c s h1)
 ·cases h
theorem splM (c:UInt8): ∀s:List UInt8,(spl c s).length≤s.length+1∧ ∀x∈spl c s,x.length≤s.length
 | []=>by simp[spl]
 |b::l=>by
  obtain⟨h1,h2⟩:=splM c l
  unfold spl
  split
  ·simp;exact⟨by omega,fun x hx=>by have:=h2 x hx;omega⟩
  ·split
   ·rename_i x r e
    rw[e]at h1 h2
    simp at h1 h2⊢
    exact⟨by omega,by have:=h2.1;omega,fun y hy=>by have:=h2.2 y hy;omega⟩
   ·simp
theorem cutB_len (c:UInt8): ∀s,(cutB c s).1.length≤s.length∧(cutB c s).2.1.length≤s.length
 | []=>by simp[cutB]
 |b::l=>by
  obtain⟨h1,h2⟩:=cutB_len c l
  unfold cutB
  split
  ·simp
  ·simp;omega
theorem tsuf_len (s p:List UInt8):(Lib.trimSuffix s p).length≤s.length:=by
 unfold Lib.trimSuffix;split
 ·rw[List.length_take];omega
 ·exact Nat.le_refl _
def kindF (name:Txt):Int×Txt:=
 if Lib.hasSuffix name [126]=true then(8,Lib.trimSuffix name [126])else if Lib.hasSuffix name [60]=true then(6,Lib.trimSuffix name [60])else if Lib.hasSuffix name [62]=true then(5,Lib.trimSuffix name [62])else(3,name)
def kfj (name:Txt) (j:Nat):Int×Txt:=match j with
 |0=>(3,name)
 |1=>if Lib.hasSuffix name [62]=true then(5,Lib.trimSuffix name [62])else(3,name)
 |2=>if Lib.hasSuffix name [60]=true then(6,Lib.trimSuffix name [60])else if Lib.hasSuffix name [62]=true then(5,Lib.trimSuffix name [62])else(3,name)
 |_=>kindF name
theorem kindF_len (name:Txt):(kindF name).2.length≤name.length:=by
 unfold kindF;split
 ·exact tsuf_len _ _
 ·split
  ·exact tsuf_len _ _
  ·split
   ·exact tsuf_len _ _
   ·exact Nat.le_refl _
def zF:Flt:= .mk 0 [] [] [] [] [] []
def restF (k:Int×Txt) (rest:Txt):Flt×Bool:=
 if k.1=3∧rest= [42]then(.mk 7 k.2 [] [] [] [] [],true)
 else if k.1=3∧1<(spl 42 rest).length then(.mk 4 k.2 [] (subF (spl 42 rest)).1.1 (subF (spl 42 rest)).1.2.1 (subF (spl 42 rest)).1.2.2 [],(subF (spl 42 rest)).2)
 else(.mk k.1 k.2 (valF rest).1 [] [] [] [],(valF rest).2)
def leafF (s:Txt):Flt×Bool:=
 if(cutB 61 s).2.2=true then restF (kindF (cutB 61 s).1) (cutB 61 s).2.1 else(zF,false)
def splitG:List D→Option (Bool×D)
 | [.x (.str s),.x (.str [c])]=>some (decide (s.length≤1000000),.x (.sl (rows rStr (spl c s))))
 |_=>none
theorem splitG_ok: ∀args r,splitG args=some (true,r)→PCalls Tryz.prog 25 args r:=by
 intro args r h
 unfold splitG at h
 split at h
 ·rename_i s c
  simp only[ξI,ξP,ξa,ξe,true_and]at h
  obtain⟨h1,rfl⟩:=h
  exact(split_c s c h1)
 ·cases h
def signG:List D→Option (Bool×D)
 | [.x (.int .i64 n)]=>some (true,.x (.str (if n=5 then [62,61]else if n=6 then [60,61]else if n=8 then [126,61]else [61])))
 |_=>none
theorem signG_ok: ∀args r,signG args=some (true,r)→PCalls Tryz.prog 88 args r:=by
 intro args r h
 unfold signG at h
 split at h
 ·rename_i n
  simp only[ξI,ξP,ξa,ξe,true_and]at h
  obtain rfl:=h
  exact(sign_c n)
 ·cases h
def tabFx7:Tabs:=addQ (addQ (addQ (addQ (addQ (addQ (noTabs) 26 cutG) 87 cutSG) 25 splitG) 88 signG) 89 subsG) 90 valueG
theorem tabFx7_ok:SsOk Tryz.prog tabFx7:=addQ_ok (addQ_ok (addQ_ok (addQ_ok (addQ_ok (addQ_ok (noTabs_ok) cut_enters cutG_ok) cutS_enters cutSG_ok) split_enters splitG_ok) (G_enters G_ok (p:=i88) rfl) signG_ok) (G_enters G_ok (p:=i89) rfl) subsG_ok) (G_enters G_ok (p:=i90) rfl) valueG_ok
theorem tabFx7_q26 (a:List D):tabFx7.q 26 a=cutG a:=rfl
theorem tabFx7_q87 (a:List D):tabFx7.q 87 a=cutSG a:=rfl
theorem tabFx7_q25 (a:List D):tabFx7.q 25 a=splitG a:=rfl
theorem tabFx7_q88 (a:List D):tabFx7.q 88 a=signG a:=rfl
theorem tabFx7_q89 (a:List D):tabFx7.q 89 a=subsG a:=rfl
theorem tabFx7_q90 (a:List D):tabFx7.q 90 a=valueG a:=rfl
theorem tabFx7_r (f:FuncId) (a:List D) (o:List Ob):tabFx7.r f a o=none:=rfl
theorem tabFx7_k (f:FuncId) (a:List D) (o:List Ob):tabFx7.k f a o=none:=rfl
theorem leaf_c (s:Txt) (hl:s.length≤900000) (k:Int) (a v h:Txt) (mm:List Txt) (t:Txt) (l:List Flt) (b:Bool) (hq:leafF s=(.mk k a v h mm t l,b)):PCalls Tryz.prog 66 [.x (.str s)] (.tup [.agg [.x (.int .i64 k),.x (.str a),.x (.str v),.x (.str h),.x (.sl (rows rStr mm)),.x (.str t),.x (.sl (rows rFlt l))],.x (.bool b)]):=by
 have hcl:=cutB_len 61 s
 unfold leafF at hq
 refine FCalls.pure (fcallsG (fz:=true) G_ok (p:=i66) rfl _ (ξ rfl) _ (fun C0 E0=> ?_)) rfl
 dsimp only[i66,qt,qi,qs,qb,qm,qa,qh,qj,qT,qF,qe,ql,qL,qf,q2,q3,q8,qz,qp,qP,qc,qk,qx,qy,qo,qr,qC,argsφ]
 have uu:=ξn @cutG.eq_1 (ξn @cutG.eq_2 (ξn @cutSG.eq_1 (ξn @cutSG.eq_2 (ξn @splitG.eq_1 (ξn @splitG.eq_2 (ξn @signG.eq_1 (ξn @signG.eq_2 (ξn @subsG.eq_1 (ξn @subsG.eq_2 (ξn @valueG.eq_1 (ξn @valueG.eq_2 (ξn @un_T (ξn @tabFx7_r (ξn @tabFx7_k (ξn @tabFx7_q25 (ξn @tabFx7_q26 (ξn @tabFx7_q87 (ξn @tabFx7_q88 (ξn @tabFx7_q89 (@tabFx7_q90))))))))))))))))))))
 have tT:=tabFx7_ok
 refine nz ?_
 refine rg tT [0,2] ?_
 refine rg tT [2,4,5,6] ?_
 refine rg tT [2,4,5,20] ?_
 refine cd (fun h0=> ?_) (fun h0=> ?_)
 ·refine rg tT [2,3] ?_
  refine WI.nnA ?_
  refine lf ?_
  rw[if_neg (by simpa using h0)]at hq;cases hq;rfl
 ·refine rg tT [2,4,5,7] ?_
  refine rg tT [2,4,5,7,24,25] ?_
  refine WI.loop (fun φ os=> ∃(j:Nat),φ= [(2,.ptr 0 0),(4,.x (.str (cutB 61 s).1)),(5,.x (.str (cutB 61 s).2.1)),(7,.ptr 1 0),(24,.agg [.x (.int .i64 5),.x (.int .i64 6),.x (.int .i64 8)]),(25,.x (.int .i64 j))]∧os= [.box [.x (.int .i64 0),.x (.str []),.x (.str []),.x (.str []),.x .nils,.x (.str []),.x .nils],.box [.x (.int .i64 (kfj (cutB 61 s).1 j).1),.x (.str (kfj (cutB 61 s).1 j).2),.x (.str []),.x (.str []),.x .nils,.x (.str []),.x .nils]]∧j≤3) (down 3 25) ?_ (fun φ os hI=> ?_)
  ·exact⟨0,rfl,rfl,by omega⟩
  ·obtain⟨j,rfl,rfl,hj⟩:=hI
   refine nz ?_
   refine rg tT [2,4,5,7,24,25,26] ?_
   refine cd (fun h1=> ?_) (fun h1=> ?_)
   ·obtain rfl|rfl|rfl:j=0∨j=1∨j=2:=by omega
    ·refine rg tT [2,4,5,7,9,24,25] ?_
     refine rg tT [2,4,5,7,9,10,11,24,25] ?_
     refine rg tT [2,4,5,7,9,10,24,25,36] ?_
     refine cd (fun h2=> ?_) (fun h2=> ?_)
     ·refine rg tT [2,4,5,7,24,25] ?_
      refine rg tT [2,4,5,7,24,25] ?_
      exact⟨by first|exact⟨1,rfl,by simp[kfj,kindF,h2],by omega⟩|exact⟨2,rfl,by simp[kfj,kindF,h2],by omega⟩|exact⟨3,rfl,by simp[kfj,kindF,h2],by omega⟩,by simp[down,Ab.get,D.val,intOf?]<;>omega⟩
     ·refine rg tT [2,4,5,7,24,25] ?_
      exact⟨by first|exact⟨1,rfl,by simp[kfj,kindF,h2],by omega⟩|exact⟨2,rfl,by simp[kfj,kindF,h2],by omega⟩|exact⟨3,rfl,by simp[kfj,kindF,h2],by omega⟩,by simp[down,Ab.get,D.val,intOf?]<;>omega⟩
    ·refine rg tT [2,4,5,7,9,24,25] ?_
     refine rg tT [2,4,5,7,9,10,11,24,25] ?_
     refine rg tT [2,4,5,7,9,10,24,25,36] ?_
     refine cd (fun h2=> ?_) (fun h2=> ?_)
     ·refine rg tT [2,4,5,7,24,25] ?_
      refine rg tT [2,4,5,7,24,25] ?_
      exact⟨by first|exact⟨1,rfl,by simp[kfj,kindF,h2],by omega⟩|exact⟨2,rfl,by simp[kfj,kindF,h2],by omega⟩|exact⟨3,rfl,by simp[kfj,kindF,h2],by omega⟩,by simp[down,Ab.get,D.val,intOf?]<;>omega⟩
     ·refine rg tT [2,4,5,7,24,25] ?_
      exact⟨by first|exact⟨1,rfl,by simp[kfj,kindF,h2],by omega⟩|exact⟨2,rfl,by simp[kfj,kindF,h2],by omega⟩|exact⟨3,rfl,by simp[kfj,kindF,h2],by omega⟩,by simp[down,Ab.get,D.val,intOf?]<;>omega⟩
    ·refine rg tT [2,4,5,7,9,24,25] ?_
     refine rg tT [2,4,5,7,9,10,11,24,25] ?_
     refine rg tT [2,4,5,7,9,10,24,25,36] ?_
     refine cd (fun h2=> ?_) (fun h2=> ?_)
     ·refine rg tT [2,4,5,7,24,25] ?_
      refine rg tT [2,4,5,7,24,25] ?_
      exact⟨by first|exact⟨1,rfl,by simp[kfj,kindF,h2],by omega⟩|exact⟨2,rfl,by simp[kfj,kindF,h2],by omega⟩|exact⟨3,rfl,by simp[kfj,kindF,h2],by omega⟩,by simp[down,Ab.get,D.val,intOf?]<;>omega⟩
     ·refine rg tT [2,4,5,7,24,25] ?_
      exact⟨by first|exact⟨1,rfl,by simp[kfj,kindF,h2],by omega⟩|exact⟨2,rfl,by simp[kfj,kindF,h2],by omega⟩|exact⟨3,rfl,by simp[kfj,kindF,h2],by omega⟩,by simp[down,Ab.get,D.val,intOf?]<;>omega⟩
   ·obtain rfl:j=3:=by omega
    rw[show kfj (cutB 61 s).1 3=kindF (cutB 61 s).1 from rfl]
    rw[if_pos (by simpa using h0)]at hq
    generalize kindF (cutB 61 s).1=kp at hq⊢
    have hrl:=hcl.2
    clear hcl
    generalize(cutB 61 s).2.1=rest at hq hrl⊢
    obtain⟨k0,a0⟩:=kp
    have hv1:decide (rest.length≤1000000)=true:=ξt (by omega)
    have uu:=ξn uu hv1
    unfold restF at hq
    simp only at hq
    refine rg tT [2,5,7,12] ?_
    refine rg tT [2,5,7,12,44] ?_
    refine cd (fun h3=> ?_) (fun h3=> ?_)
    ·refine rg tT [2,7] ?_
     refine rg tT [2,3] ?_
     refine WI.nnA ?_
     refine lf ?_
     rw[if_pos (by simpa using h3)]at hq;cases hq;rfl
    ·have hc3: ¬(k0=3∧rest= [42]):=fun hh=>by simp[hh.1,hh.2]at h3
     rw[if_neg hc3]at hq
     refine rg tT [2,5,7,12,54] ?_
     refine cd (fun h4=> ?_) (fun h4=> ?_)
     ·have hc4:k0=3∧1<(spl 42 rest).length:=⟨by omega,by omega⟩
      have hsm:=splM 42 rest
      have hsc:decide (2≤(spl 42 rest).length∧(spl 42 rest).length≤1000000∧ ∀x∈spl 42 rest,x.length≤1000000)=true:=ξt ⟨by omega,by omega,fun x hx=>by have:=hsm.2 x hx;omega⟩
      have uu:=ξn uu hsc
      refine rg tT [2,7,12] ?_
      refine rg tT [2,6,7] ?_
      refine rg tT [2,3] ?_
      refine WI.nnA ?_
      refine lf ?_
      rw[if_pos hc4]at hq;cases hq;rfl
     ·have hc4: ¬(k0=3∧1<(spl 42 rest).length):=fun hh=>by have:=hh.1;have:=hh.2;omega
      rw[if_neg hc4]at hq
      refine rg tT [2,6,7] ?_
      refine rg tT [2,3] ?_
      refine WI.nnA ?_
      refine lf ?_
      cases hq;rfl
def leafG:List D→Option (Bool×D)
 | [.x (.str s)]=>some (decide (s.length≤900000),.tup [fltD (leafF s).1,.x (.bool (leafF s).2)])
 |_=>none
theorem leafG_ok: ∀args r,leafG args=some (true,r)→PCalls Tryz.prog 66 args r:=by
 intro args r h
 unfold leafG at h
 split at h
 ·rename_i s
  simp only[ξI,ξP,ξa,ξe,true_and]at h
  obtain⟨h1,rfl⟩:=h
  exact(by rcases hq:leafF s with⟨⟨k,a,v,h,mm,t,l⟩,b⟩;exact leaf_c s h1 k a v h mm t l b hq)
 ·cases h
def loopF (r:Txt→Flt×Txt×Bool):Nat→List Flt→Txt→List Flt×Txt×Bool
 |0,l,s=>(l,s,false)
 |n+1,l,s=>if s.getD 0 0=40 then(if(r s).2.2=true then loopF r n (l++ [(r s).1]) (r s).2.1 else(l,s,false))else if s.getD 0 0=41 then(l,s.drop 1,true)else(l,s,false)
theorem rows_snocF (l:List Flt) (k:Int) (a v h:Txt) (m:List Txt) (t:Txt) (x:List Flt):rows rFlt l++ [[X.int .i64 k,.str a,.str v,.str h,.sl (rows rStr m),.str t,.sl (rows rFlt x)]]=rows rFlt (l++ [.mk k a v h m t x]):=by
 rw[←enc_rFlt];simp[rows]
theorem loop_nil (r:Txt→Flt×Txt×Bool) (n:Nat) (l:List Flt):loopF r (n+1) l []=(l,[],false):=by simp[loopF]
theorem loop_no (r:Txt→Flt×Txt×Bool) (n:Nat) (l:List Flt) (c:UInt8) (s:Txt) (h:c≠40) (h':c≠41):loopF r (n+1) l (c::s)=(l,c::s,false):=by simp[loopF,h,h']
theorem loop_end (r:Txt→Flt×Txt×Bool) (n:Nat) (l:List Flt) (s:Txt) (c:UInt8) (h:c=41):loopF r (n+1) l (c::s)=(l,s,true):=by subst h;simp[loopF]
theorem loop_fail (r:Txt→Flt×Txt×Bool) (n:Nat) (l:List Flt) (c:UInt8) (s:Txt) (h:c=40) (h':(r (c::s)).2.2=false):loopF r (n+1) l (c::s)=(l,c::s,false):=by subst h;simp[loopF,h']
theorem loop_go (r:Txt→Flt×Txt×Bool) (n:Nat) (l:List Flt) (c:UInt8) (s:Txt) (h:c=40) (h':(r (c::s)).2.2=true):loopF r (n+1) l (c::s)=loopF r n (l++ [(r (c::s)).1]) (r (c::s)).2.1:=by subst h;simp[loopF,h']
theorem cN {c:UInt8} {k:Nat} (hk:k<256) (h:(c.toNat:Int)=k):c=UInt8.ofNat k:=by
 apply UInt8.toNat_inj.1;simp;omega
theorem rows_oneF (k:Int) (a v h:Txt) (m:List Txt) (t:Txt) (x:List Flt):rows rFlt [.mk k a v h m t x]= [[X.int .i64 k,.str a,.str v,.str h,.sl (rows rStr m),.str t,.sl (rows rFlt x)]]:=by
 rw[←enc_rFlt];simp[rows]
def readmG (N:Nat) (rd:Txt→Flt×Txt×Bool):List D→Option (Bool×D)
 | [.x (.str s),.x (.int .i64 m)]=>some (decide (s.length≤900000∧m=N),.tup [fltD (rd s).1,.x (.str (rd s).2.1),.x (.bool (rd s).2.2)])
 |_=>none
theorem readmG_ok (N:Nat) (rd:Txt→Flt×Txt×Bool) (ih: ∀s:Txt,s.length≤900000→PCalls Tryz.prog 46 [.x (.str s),.x (.int .i64 N)] (.tup [fltD (rd s).1,.x (.str (rd s).2.1),.x (.bool (rd s).2.2)])): ∀args r,readmG N rd args=some (true,r)→PCalls Tryz.prog 46 args r:=by
 intro args r h
 unfold readmG at h
 split at h
 ·rename_i s m
  simp only[ξI,ξP,ξa,ξe,true_and]at h
  obtain⟨h1,rfl⟩:=h
  exact(by obtain⟨h1,rfl⟩:=h1;exact ih s h1)
 ·cases h
def tabFx8 (g:List D→Option (Bool×D)):Tabs:=addQ (noTabs) 46 g
theorem tabFx8_ok (g:List D→Option (Bool×D)) (hg: ∀args r,g args=some (true,r)→PCalls Tryz.prog 46 args r):SsOk Tryz.prog (tabFx8 g):=addQ_ok (noTabs_ok) (G_enters G_ok (p:=i46) rfl) hg
theorem tabFx8_q46 (g:List D→Option (Bool×D)) (a:List D):(tabFx8 g).q 46 a=g a:=rfl
theorem tabFx8_r (g:List D→Option (Bool×D)) (f:FuncId) (a:List D) (o:List Ob):(tabFx8 g).r f a o=none:=rfl
theorem tabFx8_k (g:List D→Option (Bool×D)) (f:FuncId) (a:List D) (o:List Ob):(tabFx8 g).k f a o=none:=rfl
theorem list_c (N:Nat) (hN:N≤1000) (r:Txt→Flt×Txt×Bool) (ih: ∀s:Txt,s.length≤900000→PCalls Tryz.prog 46 [.x (.str s),.x (.int .i64 N)] (.tup [fltD (r s).1,.x (.str (r s).2.1),.x (.bool (r s).2.2)])) (hr: ∀s,(r s).2.2=true→(r s).2.1.length<s.length) (kd:Int) (S:Txt) (hS:S.length≤900000):PCalls Tryz.prog 65 [.x (.int .i64 kd),.x (.str S),.x (.int .i64 (N+1:Nat))] (.tup [.agg [.x (.int .i64 kd),.x (.str []),.x (.str []),.x (.str []),.x (.sl []),.x (.str []),.x (.sl (rows rFlt (loopF r (S.length+1) [] S).1))],.x (.str (loopF r (S.length+1) [] S).2.1),.x (.bool (loopF r (S.length+1) [] S).2.2)]):=by
 have e1:((N+1:Nat):Int)-1=(N:Int):=by omega
 refine FCalls.pure (fcallsG (fz:=true) G_ok (p:=i65) rfl _ (ξ rfl) _ (fun C0 E0=> ?_)) rfl
 dsimp only[i65,qt,qi,qs,qb,qm,qa,qh,qj,qT,qF,qe,ql,qL,qf,q2,q3,q8,qz,qp,qP,qc,qk,qx,qy,qo,qr,qC,argsφ]
 have uu:=ξn @readmG.eq_1 (ξn @readmG.eq_2 (ξn @e1 (ξn @List.getD_cons_zero.{0} (ξn @tabFx8_r (ξn @tabFx8_k (@tabFx8_q46))))))
 have tT:=(tabFx8_ok (readmG N r) (readmG_ok N r ih))
 refine nz ?_
 refine rg tT [0,1,2,6] ?_
 refine rg tT [1,2,6,9] ?_
 refine WI.orderA [2,6,9,1] ?_
 refine WI.loop (fun φ os=> ∃(s:Txt) (l:List Flt) (n:Nat),s.length<n∧l.length+s.length≤S.length∧loopF r (S.length+1) [] S=loopF r n l s∧((l= []∧φ= [(2,.x (.int .i64 (N+1:Nat))),(6,.ptr 0 0),(9,.ptr 1 0),(1,.x (.str s))]∧os= [.box [.x (.int .i64 0),.x (.str []),.x (.str []),.x (.str []),.x .nils,.x (.str []),.x .nils],.box [.x (.int .i64 kd),.x (.str []),.x (.str []),.x (.str []),.x .nils,.x (.str []),.x .nils]])∨(φ= [(2,.x (.int .i64 (N+1:Nat))),(6,.ptr 0 0),(9,.ptr 1 0),(1,.x (.str s))]∧os= [.box [.x (.int .i64 0),.x (.str []),.x (.str []),.x (.str []),.x .nils,.x (.str []),.x .nils],.box [.x (.int .i64 kd),.x (.str []),.x (.str []),.x (.str []),.x .nils,.x (.str []),.ref 2 l.length 0 l.length],.rows false 49 7 (rows rFlt l)]))) (fun φ _=>(match get φ 1 with| .x (.str s)=>s.length|_=>0)) ?_ (fun φ os hI=> ?_)
 ·exact⟨S,[],S.length+1,by omega,by simp,rfl,.inl ⟨rfl,rfl,rfl⟩⟩
 ·obtain⟨s,l,n,hsn,hls,hlp,hcase⟩:=hI
  refine nz ?_
  obtain⟨n,rfl⟩: ∃n',n=n'+1:=⟨n-1,by omega⟩
  rcases hcase with⟨rfl,rfl,rfl⟩|⟨rfl,rfl⟩<;>rcases s with _|⟨c,s⟩
  ·refine rg tT [1,2,6,9,21] ?_
   refine ce (fun h0=> ?_) (fun h0=> ?_)
   ·simp at h0
   ·refine rg tT [1,6,9,47] ?_
    refine ct (fun h2=> ?_) (fun h2=> ?_)
    ·refine rg tT [6,7,8] ?_
     refine WI.nnA ?_
     refine lf ?_
     try rw[List.take_length]
     first|(rw[hlp,loop_nil];rfl)|(rw[hlp,loop_fail r n _ c s hc40 (by rw[hx])];rfl)|(rw[hlp,loop_end r n _ s c (cN (k:=41) (by decide) (by simpa using h2))];rfl)|(rw[hlp,loop_no r n _ c s (by rintro rfl;simp at h0) (by rintro rfl;simp at h2)];rfl)
    ·simp at h2
  ·have hb8:c.toNat<256:=UInt8.toNat_lt _
   have hsl:s.length≤899999:=by simp at hls;omega
   refine rg tT [1,2,6,9,21] ?_
   refine cd (fun h0=> ?_) (fun h0=> ?_)
   ·have hc40:c=40:=cN (k:=40) (by decide) (by simpa using h0)
    rcases hx:r (c::s)with⟨⟨k1,a1,v1,h1',m1,t1,l1⟩,rest,ok⟩
    have hr1:=hr (c::s)
    rw[hx]at hr1
    have uu:=ξn uu hx
    refine rg tT [1,2,6,9,10,11,12] ?_
    refine rg tT [1,2,6,9,10,11,31] ?_
    refine cd (fun h1=> ?_) (fun h1=> ?_)
    ·obtain rfl:ok=false:=by simpa using h1
     refine rg tT [6,7,8] ?_
     refine WI.nnA ?_
     refine lf ?_
     try rw[List.take_length]
     first|(rw[hlp,loop_nil];rfl)|(rw[hlp,loop_fail r n _ c s hc40 (by rw[hx])];rfl)|(rw[hlp,loop_end r n _ s c (cN (k:=41) (by decide) (by simpa using h2))];rfl)|(rw[hlp,loop_no r n _ c s (by rintro rfl;simp at h0) (by rintro rfl;simp at h2)];rfl)
    ·obtain rfl:ok=true:=by simpa using h1
     have hr2:rest.length<s.length+1:=hr1 rfl
     have hsn':s.length+1<n+1:=hsn
     refine rgp tT [2,6,9,11] ?_
     refine pPick [0,1,4] ?_
     refine pEnd ?_
     refine nz ?_
     refine rg tT [1,2,6,9] ?_
     exact⟨by first|exact⟨rest,[.mk k1 a1 v1 h1' m1 t1 l1],n,by omega,by simp at hls⊢;omega,by rw[hlp,loop_go _ _ _ _ _ hc40 (by rw[hx]),hx,List.nil_append],.inr ⟨rfl,by rw[rows_oneF];first|done|rfl⟩⟩|exact⟨rest,l++ [.mk k1 a1 v1 h1' m1 t1 l1],n,by omega,by simp at hls⊢;omega,by rw[hlp,loop_go _ _ _ _ _ hc40 (by rw[hx]),hx],.inr ⟨by first|rfl|simp,by rw[←rows_snocF];first|rfl|simp⟩⟩,by show rest.length<s.length+1;omega⟩
   ·refine rg tT [1,6,9,47] ?_
    refine cd (fun h2=> ?_) (fun h2=> ?_)
    ·refine rg tT [6,7,8] ?_
     refine WI.nnA ?_
     refine lf ?_
     try rw[List.take_length]
     first|(rw[hlp,loop_nil];rfl)|(rw[hlp,loop_fail r n _ c s hc40 (by rw[hx])];rfl)|(rw[hlp,loop_end r n _ s c (cN (k:=41) (by decide) (by simpa using h2))];rfl)|(rw[hlp,loop_no r n _ c s (by rintro rfl;simp at h0) (by rintro rfl;simp at h2)];rfl)
    ·refine WI.dregB tT [6,7,8] ?_
     refine dAG ?_
     refine dFS ?_
     refine dFG ?_
     refine dAG ?_
     iterate 2 refine dFS ?_
     refine dN ?_
     refine nz ?_
     refine WI.nnA ?_
     refine lf ?_
     try rw[List.take_length]
     first|(rw[hlp,loop_nil];rfl)|(rw[hlp,loop_fail r n _ c s hc40 (by rw[hx])];rfl)|(rw[hlp,loop_end r n _ s c (cN (k:=41) (by decide) (by simpa using h2))];rfl)|(rw[hlp,loop_no r n _ c s (by rintro rfl;simp at h0) (by rintro rfl;simp at h2)];rfl)
  ·refine rg tT [1,2,6,9,21] ?_
   refine ce (fun h0=> ?_) (fun h0=> ?_)
   ·simp at h0
   ·refine rg tT [1,6,9,47] ?_
    refine ct (fun h2=> ?_) (fun h2=> ?_)
    ·refine rg tT [6,7,8] ?_
     refine WI.nnA ?_
     refine WI.freezeA [2] ?_
     refine WI.pickA [0] ?_
     refine lf ?_
     try rw[List.take_length]
     first|(rw[hlp,loop_nil];rfl)|(rw[hlp,loop_fail r n _ c s hc40 (by rw[hx])];rfl)|(rw[hlp,loop_end r n _ s c (cN (k:=41) (by decide) (by simpa using h2))];rfl)|(rw[hlp,loop_no r n _ c s (by rintro rfl;simp at h0) (by rintro rfl;simp at h2)];rfl)
    ·simp at h2
  ·have hb8:c.toNat<256:=UInt8.toNat_lt _
   have hsl:s.length≤899999:=by simp at hls;omega
   refine rg tT [1,2,6,9,21] ?_
   refine cd (fun h0=> ?_) (fun h0=> ?_)
   ·have hc40:c=40:=cN (k:=40) (by decide) (by simpa using h0)
    rcases hx:r (c::s)with⟨⟨k1,a1,v1,h1',m1,t1,l1⟩,rest,ok⟩
    have hr1:=hr (c::s)
    rw[hx]at hr1
    have uu:=ξn uu hx
    refine rg tT [1,2,6,9,10,11,12] ?_
    refine rg tT [1,2,6,9,10,11,31] ?_
    refine cd (fun h1=> ?_) (fun h1=> ?_)
    ·obtain rfl:ok=false:=by simpa using h1
     refine rg tT [6,7,8] ?_
     refine WI.nnA ?_
     refine WI.freezeA [2] ?_
     refine WI.pickA [0] ?_
     refine lf ?_
     try rw[List.take_length]
     first|(rw[hlp,loop_nil];rfl)|(rw[hlp,loop_fail r n _ c s hc40 (by rw[hx])];rfl)|(rw[hlp,loop_end r n _ s c (cN (k:=41) (by decide) (by simpa using h2))];rfl)|(rw[hlp,loop_no r n _ c s (by rintro rfl;simp at h0) (by rintro rfl;simp at h2)];rfl)
    ·obtain rfl:ok=true:=by simpa using h1
     have hr2:rest.length<s.length+1:=hr1 rfl
     have hsn':s.length+1<n+1:=hsn
     refine rgp tT [2,6,9,11] ?_
     refine pPick [0,1,2] ?_
     refine pEnd ?_
     refine nz ?_
     refine rg tT [1,2,6,9] ?_
     exact⟨by first|exact⟨rest,[.mk k1 a1 v1 h1' m1 t1 l1],n,by omega,by simp at hls⊢;omega,by rw[hlp,loop_go _ _ _ _ _ hc40 (by rw[hx]),hx,List.nil_append],.inr ⟨rfl,by rw[rows_oneF];first|done|rfl⟩⟩|exact⟨rest,l++ [.mk k1 a1 v1 h1' m1 t1 l1],n,by omega,by simp at hls⊢;omega,by rw[hlp,loop_go _ _ _ _ _ hc40 (by rw[hx]),hx],.inr ⟨by first|rfl|simp,by rw[←rows_snocF];first|rfl|simp⟩⟩,by show rest.length<s.length+1;omega⟩
   ·refine rg tT [1,6,9,47] ?_
    refine cd (fun h2=> ?_) (fun h2=> ?_)
    ·refine rg tT [6,7,8] ?_
     refine WI.nnA ?_
     refine WI.freezeA [2] ?_
     refine WI.pickA [0] ?_
     refine lf ?_
     try rw[List.take_length]
     first|(rw[hlp,loop_nil];rfl)|(rw[hlp,loop_fail r n _ c s hc40 (by rw[hx])];rfl)|(rw[hlp,loop_end r n _ s c (cN (k:=41) (by decide) (by simpa using h2))];rfl)|(rw[hlp,loop_no r n _ c s (by rintro rfl;simp at h0) (by rintro rfl;simp at h2)];rfl)
    ·refine WI.dregB tT [6,7,8] ?_
     refine dAG ?_
     refine dFS ?_
     refine dFG ?_
     refine dAG ?_
     iterate 2 refine dFS ?_
     refine dN ?_
     refine nz ?_
     refine WI.nnA ?_
     refine WI.freezeA [2] ?_
     refine WI.pickA [0] ?_
     refine lf ?_
     try rw[List.take_length]
     first|(rw[hlp,loop_nil];rfl)|(rw[hlp,loop_fail r n _ c s hc40 (by rw[hx])];rfl)|(rw[hlp,loop_end r n _ s c (cN (k:=41) (by decide) (by simpa using h2))];rfl)|(rw[hlp,loop_no r n _ c s (by rintro rfl;simp at h0) (by rintro rfl;simp at h2)];rfl)
def readF:Nat→Txt→Flt×Txt×Bool
 |0,s=>(zF,s,false)
 |d+1,s=>if s.length<2∨s.getD 0 0≠40 then(zF,s,false)else
   let q:=fun(k:Int)=>let y:=loopF (readF d) ((s.drop 2).length+1) [] (s.drop 2);(Flt.mk k [] [] [] [] [] y.1,y.2)
   if s.getD 1 0=38 then q 0 else if s.getD 1 0=124 then q 1 else if s.getD 1 0=33 then q 2 else
   let c:=cutB 41 (s.drop 1)
   if c.2.2=true then((leafF c.1).1,c.2.1,(leafF c.1).2)else(zF,s,false)
theorem cutB_lt (c:UInt8): ∀s,(cutB c s).2.2=true→(cutB c s).2.1.length<s.length
 | [],h=>by simp[cutB]at h
 |b::l,h=>by
  have ih:=cutB_lt c l
  unfold cutB at h⊢
  split at h
  ·rename_i e;rw[if_pos e];simp
  ·rename_i e;rw[if_neg e];simp at h⊢;have:=ih h;omega
theorem loopF_len (r:Txt→Flt×Txt×Bool) (hr: ∀s,(r s).2.2=true→(r s).2.1.length<s.length): ∀(n:Nat) (l:List Flt) (s:Txt),(loopF r n l s).2.2=true→(loopF r n l s).2.1.length<s.length
 |0,l,s,h=>by simp[loopF]at h
 |n+1,l,[],h=>by rw[loop_nil]at h;cases h
 |n+1,l,c::s,h=>by
  by_cases h40:c=40
  ·cases hq:(r (c::s)).2.2 with
   |false=>rw[loop_fail r n l c s h40 hq]at h;cases h
   |true=>
    rw[loop_go r n l c s h40 hq]at h⊢
    have h1:=loopF_len r hr n _ _ h
    have h2:=hr _ hq
    omega
  ·by_cases h41:c=41
   ·rw[loop_end r n l s c h41];simp
   ·rw[loop_no r n l c s h40 h41]at h;cases h
theorem readF_len: ∀(d:Nat) (s:Txt),(readF d s).2.2=true→(readF d s).2.1.length<s.length
 |0,s,h=>by simp[readF]at h
 |d+1,s,h=>by
  have ih:=loopF_len (readF d) (readF_len d)
  unfold readF at h⊢
  split at h
  ·cases h
  ·rename_i h2
   rw[if_neg h2]
   simp only at h⊢
   have hd:(s.drop 2).length+2=s.length:=by simp;omega
   have hd1:(s.drop 1).length+1=s.length:=by simp;omega
   have hk: ∀n,(loopF (readF d) n [] (s.drop 2)).2.2=true→(loopF (readF d) n [] (s.drop 2)).2.1.length<s.length:=fun n hh=>by have:=ih _ _ _ hh;omega
   split at h
   ·rename_i h3;rw[if_pos h3];exact hk _ h
   ·rename_i h3;rw[if_neg h3]
    split at h
    ·rename_i h3;rw[if_pos h3];exact hk _ h
    ·rename_i h3;rw[if_neg h3]
     split at h
     ·rename_i h3;rw[if_pos h3];exact hk _ h
     ·rename_i h3;rw[if_neg h3]
      split at h
      ·rename_i h3;rw[if_pos h3]
       have:=cutB_lt 41 _ h3
       show(cutB 41 (s.drop 1)).2.1.length<s.length
       omega
      ·cases h
def listmG (N:Nat) (rd:Txt→Flt×Txt×Bool):List D→Option (Bool×D)
 | [.x (.int .i64 k),.x (.str s),.x (.int .i64 m)]=>some (decide (s.length≤900000∧m=(N+1:Nat)),.tup [.agg [.x (.int .i64 k),.x (.str []),.x (.str []),.x (.str []),.x (.sl []),.x (.str []),.x (.sl (rows rFlt (loopF rd (s.length+1) [] s).1))],.x (.str (loopF rd (s.length+1) [] s).2.1),.x (.bool (loopF rd (s.length+1) [] s).2.2)])
 |_=>none
theorem listmG_ok (N:Nat) (rd:Txt→Flt×Txt×Bool) (ih: ∀(kd:Int) (S:Txt),S.length≤900000→PCalls Tryz.prog 65 [.x (.int .i64 kd),.x (.str S),.x (.int .i64 (N+1:Nat))] (.tup [.agg [.x (.int .i64 kd),.x (.str []),.x (.str []),.x (.str []),.x (.sl []),.x (.str []),.x (.sl (rows rFlt (loopF rd (S.length+1) [] S).1))],.x (.str (loopF rd (S.length+1) [] S).2.1),.x (.bool (loopF rd (S.length+1) [] S).2.2)])): ∀args r,listmG N rd args=some (true,r)→PCalls Tryz.prog 65 args r:=by
 intro args r h
 unfold listmG at h
 split at h
 ·rename_i k s m
  simp only[ξI,ξP,ξa,ξe,true_and]at h
  obtain⟨h1,rfl⟩:=h
  exact(by obtain⟨h1,rfl⟩:=h1;exact ih k s h1)
 ·cases h
def tabFx9 (g:List D→Option (Bool×D)):Tabs:=addQ (addQ (addQ (noTabs) 65 g) 26 cutG) 66 leafG
theorem tabFx9_ok (g:List D→Option (Bool×D)) (hg: ∀args r,g args=some (true,r)→PCalls Tryz.prog 65 args r):SsOk Tryz.prog (tabFx9 g):=addQ_ok (addQ_ok (addQ_ok (noTabs_ok) (G_enters G_ok (p:=i65) rfl) hg) cut_enters cutG_ok) (G_enters G_ok (p:=i66) rfl) leafG_ok
theorem tabFx9_q65 (g:List D→Option (Bool×D)) (a:List D):(tabFx9 g).q 65 a=g a:=rfl
theorem tabFx9_q26 (g:List D→Option (Bool×D)) (a:List D):(tabFx9 g).q 26 a=cutG a:=rfl
theorem tabFx9_q66 (g:List D→Option (Bool×D)) (a:List D):(tabFx9 g).q 66 a=leafG a:=rfl
theorem tabFx9_r (g:List D→Option (Bool×D)) (f:FuncId) (a:List D) (o:List Ob):(tabFx9 g).r f a o=none:=rfl
theorem tabFx9_k (g:List D→Option (Bool×D)) (f:FuncId) (a:List D) (o:List Ob):(tabFx9 g).k f a o=none:=rfl
theorem read_c: ∀(d:Nat),d≤1000→ ∀(s:Txt),s.length≤900000→PCalls Tryz.prog 46 [.x (.str s),.x (.int .i64 d)] (.tup [fltD (readF d s).1,.x (.str (readF d s).2.1),.x (.bool (readF d s).2.2)])
 |0,_,s,hs=>by
  show PCalls Tryz.prog 46 [.x (.str s),.x (.int .i64 (0:Nat))] (.tup [.agg [.x (.int .i64 0),.x (.str []),.x (.str []),.x (.str []),.x (.sl []),.x (.str []),.x (.sl [])],.x (.str s),.x (.bool false)])
  refine FCalls.pure (fcallsG (fz:=true) G_ok (p:=i46) rfl _ (ξ rfl) _ (fun C0 E0=> ?_)) rfl
  dsimp only[i46,qt,qi,qs,qb,qm,qa,qh,qj,qT,qF,qe,ql,qL,qf,q2,q3,q8,qz,qp,qP,qc,qk,qx,qy,qo,qr,qC,argsφ]
  have uu:=trivial
  have tT:=(noTabs_ok:SsOk Tryz.prog noTabs)
  refine nz ?_
  refine rg tT [0,1,4] ?_
  refine rg tT [0,1,4,23] ?_
  refine ct (fun h0=> ?_) (fun h0=> ?_)
  ·refine rg tT [4,5,6] ?_
   refine WI.nnA ?_
   refine lf ?_
   first|rfl|exact⟨rfl,rfl⟩|trivial
  ·simp at h0
 |N+1,hN,s,hs=>by
  have ih:=list_c N (by omega) (readF N) (fun s hs=>read_c N (by omega) s hs) (readF_len N)
  rcases hq:readF (N+1) s with⟨⟨k,a,v,h,mm,t,l⟩,rest,b⟩
  simp only[fltD]
  unfold readF at hq
  simp only at hq
  have eN:decide (((N+1:Nat):Int)=0)=false:=decide_eq_false (by omega)
  have hd2:(s.drop 2).length≤900000:=by simp;omega
  have hd1:(s.drop 1).length≤1000000:=by simp;omega
  have hcl:=(cutB_len 41 (s.drop 1)).1
  have hc9:(cutB 41 (s.drop 1)).1.length≤900000:=Nat.le_trans hcl (by rw[List.length_drop];omega)
  refine FCalls.pure (fcallsG (fz:=true) G_ok (p:=i46) rfl _ (ξ rfl) _ (fun C0 E0=> ?_)) rfl
  dsimp only[i46,qt,qi,qs,qb,qm,qa,qh,qj,qT,qF,qe,ql,qL,qf,q2,q3,q8,qz,qp,qP,qc,qk,qx,qy,qo,qr,qC,argsφ]
  have uu:=ξn @listmG.eq_1 (ξn @listmG.eq_2 (ξn @cutG.eq_1 (ξn @cutG.eq_2 (ξn @leafG.eq_1 (ξn @leafG.eq_2 (ξn @eN (ξn @tabFx9_r (ξn @tabFx9_k (ξn @tabFx9_q26 (ξn @tabFx9_q65 (@tabFx9_q66)))))))))))
  have tT:=(tabFx9_ok (listmG N (readF N)) (listmG_ok N (readF N) ih))
  refine nz ?_
  refine WI.regB tT [0,1,4] ?_
  refine oG ?_
  iterate 2 refine oS ?_
  refine oN ?_
  refine nz ?_
  refine WI.regB tT [0,1,4,23] ?_
  refine oS ?_
  refine oG (hok:=by first|exact se|(exact ξt hc9)|exact sd) ?_
  refine oS ?_
  iterate 4 refine oG (hok:=by first|exact se|(exact ξt hc9)|exact sd) ?_
  refine oS ?_
  iterate 4 refine oG (hok:=by first|exact se|(exact ξt hc9)|exact sd) ?_
  refine oN ?_
  refine nz ?_
  refine cd (fun h0=> ?_) (fun h0=> ?_)
  ·refine WI.regB tT [4,5,6] ?_
   refine oG (hok:=by first|exact se|(exact ξt hc9)|exact sd) ?_
   refine oS ?_
   refine oG (hok:=by first|exact se|(exact ξt hc9)|exact sd) ?_
   iterate 2 refine oS ?_
   refine oN ?_
   refine nz ?_
   refine WI.nnA ?_
   refine lf ?_
   by_cases hq0:s.length<2∨s.getD 0 0≠40
   ·rw[if_pos hq0]at hq;cases hq;rfl
   ·exfalso
    have hq1: ¬s.length<2:=fun h=>hq0 (.inl h)
    have hq2:s.getD 0 0=40:=Decidable.not_not.1 fun h=>hq0 (.inr h)
    have hq3:((s.getD 0 0).toNat:Int)=40:=by rw[hq2];rfl
    omega
  ·have hq0: ¬(s.length<2∨s.getD 0 0≠40):=by
    rintro(h|h)
    ·omega
    ·exact h (cN (k:=40) (by decide) (by omega))
   rw[if_neg hq0]at hq
   refine WI.regB tT [0,1,4,27] ?_
   refine oS ?_
   refine oG (hok:=by first|exact se|(exact ξt hc9)|exact sd) ?_
   refine oN ?_
   refine nz ?_
   refine WI.regB tT [0,1,4,27,28] ?_
   refine oG (hok:=by first|exact se|(exact ξt hc9)|exact sd) ?_
   refine oS ?_
   refine oN ?_
   refine nz ?_
   refine cd (fun h1=> ?_) (fun h1=> ?_)
   ·rw[if_pos (show s.getD 1 0=38 from cN (k:=38) (by decide) (by simpa using h1))]at hq
    refine WI.regB tT [4,5,6] ?_
    refine oS ?_
    refine oG (hok:=by first|exact se|(exact ξt hc9)|exact sd) ?_
    refine oS ?_
    refine oC (hok:=by first|exact se|(exact ξt hc9)|exact sd) ?_
    iterate 3 refine oG ?_
    refine oG (hok:=by first|exact se|(exact ξt hc9)|exact sd) ?_
    iterate 2 refine oS ?_
    refine oN ?_
    refine nz ?_
    refine WI.nnA ?_
    refine lf ?_
    rw[ξP]at hq
    obtain⟨e1,e2⟩:=hq
    cases e1;rw[e2];rfl
   ·have n38:s.getD 1 0≠38:=fun e=>by rw[e]at h1;exact absurd h1 (by decide)
    rw[if_neg n38]at hq
    refine WI.regB tT [0,1,4,27,37] ?_
    refine oG (hok:=by first|exact se|(exact ξt hc9)|exact sd) ?_
    refine oS ?_
    refine oN ?_
    refine nz ?_
    refine cd (fun h2=> ?_) (fun h2=> ?_)
    ·rw[if_pos (show s.getD 1 0=124 from cN (k:=124) (by decide) (by simpa using h2))]at hq
     refine WI.regB tT [4,5,6] ?_
     refine oS ?_
     refine oG (hok:=by first|exact se|(exact ξt hc9)|exact sd) ?_
     refine oS ?_
     refine oC (hok:=by first|exact se|(exact ξt hc9)|exact sd) ?_
     iterate 3 refine oG ?_
     refine oG (hok:=by first|exact se|(exact ξt hc9)|exact sd) ?_
     iterate 2 refine oS ?_
     refine oN ?_
     refine nz ?_
     refine WI.nnA ?_
     refine lf ?_
     rw[ξP]at hq
     obtain⟨e1,e2⟩:=hq
     cases e1;rw[e2];rfl
    ·have n124:s.getD 1 0≠124:=fun e=>by rw[e]at h2;exact absurd h2 (by decide)
     rw[if_neg n124]at hq
     refine WI.regB tT [0,1,4,46] ?_
     refine oG (hok:=by first|exact se|(exact ξt hc9)|exact sd) ?_
     refine oS ?_
     refine oN ?_
     refine nz ?_
     refine cd (fun h3=> ?_) (fun h3=> ?_)
     ·rw[if_pos (show s.getD 1 0=33 from cN (k:=33) (by decide) (by simpa using h3))]at hq
      refine WI.regB tT [4,5,6] ?_
      refine oS ?_
      refine oG (hok:=by first|exact se|(exact ξt hc9)|exact sd) ?_
      refine oS ?_
      refine oC (hok:=by first|exact se|(exact ξt hc9)|exact sd) ?_
      iterate 3 refine oG ?_
      refine oG (hok:=by first|exact se|(exact ξt hc9)|exact sd) ?_
      iterate 2 refine oS ?_
      refine oN ?_
      refine nz ?_
      refine WI.nnA ?_
      refine lf ?_
      rw[ξP]at hq
      obtain⟨e1,e2⟩:=hq
      cases e1;rw[e2];rfl
     ·have n33:s.getD 1 0≠33:=fun e=>by rw[e]at h3;exact absurd h3 (by decide)
      rw[if_neg n33]at hq
      refine WI.regB tT [0,4,7,8,9] ?_
      refine oS ?_
      refine oG (hok:=by first|exact se|(exact ξt hc9)|exact sd) ?_
      refine oC (hok:=by first|exact se|(exact ξt hc9)|exact sd) ?_
      refine oS ?_
      iterate 3 refine oG ?_
      iterate 3 refine oS ?_
      refine oN ?_
      refine nz ?_
      refine WI.regB tT [0,4,7,8,63] ?_
      refine oS ?_
      refine oG (hok:=by first|exact se|(exact ξt hc9)|exact sd) ?_
      refine oN ?_
      refine nz ?_
      refine cd (fun h4=> ?_) (fun h4=> ?_)
      ·rw[if_neg (by simpa using h4)]at hq
       refine WI.regB tT [4,5,6] ?_
       refine oG (hok:=by first|exact se|(exact ξt hc9)|exact sd) ?_
       refine oS ?_
       refine oG (hok:=by first|exact se|(exact ξt hc9)|exact sd) ?_
       iterate 2 refine oS ?_
       refine oN ?_
       refine nz ?_
       refine WI.nnA ?_
       refine lf ?_
       cases hq;rfl
      ·rw[if_pos (by simpa using h4)]at hq
       rcases hx:leafF (cutB 41 (s.drop 1)).1 with⟨⟨k1,a1,v1,h1',m1,t1,l1⟩,ok⟩
       have uu:=ξn uu hx
       refine WI.regB tT [4,8,10,11] ?_
       refine oS ?_
       refine oC (hok:=by first|exact se|(exact ξt hc9)|exact sd) ?_
       refine oS ?_
       iterate 3 refine oG ?_
       refine oG (hok:=by first|exact se|(exact ξt hc9)|exact sd) ?_
       refine oS ?_
       refine oN ?_
       refine nz ?_
       refine WI.regB tT [4,5,6] ?_
       refine oG (hok:=by first|exact se|(exact ξt hc9)|exact sd) ?_
       iterate 2 refine oS ?_
       refine oG (hok:=by first|exact se|(exact ξt hc9)|exact sd) ?_
       iterate 2 refine oS ?_
       refine oN ?_
       refine nz ?_
       refine WI.nnA ?_
       refine lf ?_
       rw[hx]at hq;cases hq;rfl
def read20G:List D→Option (Bool×D)
 | [.x (.str s),.x (.int .i64 20)]=>some (decide (s.length≤900000),.tup [fltD (readF 20 s).1,.x (.str (readF 20 s).2.1),.x (.bool (readF 20 s).2.2)])
 |_=>none
theorem read20G_ok: ∀args r,read20G args=some (true,r)→PCalls Tryz.prog 46 args r:=by
 intro args r h
 unfold read20G at h
 split at h
 ·rename_i s
  simp only[ξI,ξP,ξa,ξe,true_and]at h
  obtain⟨h1,rfl⟩:=h
  exact(read_c 20 (by omega) s h1)
 ·cases h
def eqAt:Txt→Nat
 | []=>0
 |c::s=>if c=61 then 0 else eqAt s+1
theorem eqAt_le: ∀s,eqAt s≤s.length
 | []=>by simp[eqAt]
 |c::s=>by have:=eqAt_le s;unfold eqAt;split<;>simp;omega
theorem eqAt_step (s:Txt) (j:Nat) (h:j<s.length) (hc:s.getD j 0≠61):j+eqAt (s.drop j)=j+1+eqAt (s.drop (j+1)):=by
 have e:s.getD j 0=s[j]:=by simp[h]
 rw[List.drop_eq_getElem_cons h,←e]
 conv=>lhs;unfold eqAt
 rw[if_neg hc];omega
theorem eqAt_stop (s:Txt) (j:Nat) (h:j<s.length) (hc:s.getD j 0=61):eqAt (s.drop j)=0:=by
 have e:s.getD j 0=s[j]:=by simp[h]
 rw[List.drop_eq_getElem_cons h,←e,hc];rfl
def restR (name rest:Txt):Flt:=
 let c:=name.getD (name.length-1) 0
 let n:=name.take (name.length-1)
 if c=62 then .mk 5 n (unR rest) [] [] [] []else if c=60 then .mk 6 n (unR rest) [] [] [] []else if c=126 then .mk 8 n (unR rest) [] [] [] []
 else if rest= [42]then .mk 7 name [] [] [] [] []
 else if(starR rest).length=1 then .mk 3 name ((starR rest).getD 0 []) [] [] [] []
 else .mk 4 name [] ((starR rest).getD 0 []) (((starR rest).take ((starR rest).length-1)).drop 1) ((starR rest).getD ((starR rest).length-1) []) []
def leafR (s:Txt):Flt:=if eqAt s=s.length∨eqAt s=0 then .mk (-1) [] [] [] [] [] []else restR (s.take (eqAt s)) (s.drop (eqAt s+1))
theorem starR_b (s:Txt):1≤(starR s).length∧(starR s).length≤s.length+1:=by
 have h:=(splM 42 s).1
 have h2:(spl 42 s).length≠0:=fun e=>spl_ne 42 s (List.length_eq_zero_iff.1 e)
 unfold starR;rw[List.length_map];omega
def tabFx10:Tabs:=addQ (addQ (noTabs) 73 valueRG) 74 starsG
theorem tabFx10_ok:SsOk Tryz.prog tabFx10:=addQ_ok (addQ_ok (noTabs_ok) (G_enters G_ok (p:=i73) rfl) valueRG_ok) (G_enters G_ok (p:=i74) rfl) starsG_ok
theorem tabFx10_q73 (a:List D):tabFx10.q 73 a=valueRG a:=rfl
theorem tabFx10_q74 (a:List D):tabFx10.q 74 a=starsG a:=rfl
theorem tabFx10_r (f:FuncId) (a:List D) (o:List Ob):tabFx10.r f a o=none:=rfl
theorem tabFx10_k (f:FuncId) (a:List D) (o:List Ob):tabFx10.k f a o=none:=rfl
theorem leafR_c (s : Txt) (hl : s.length ≤ 900000) (k : Int) (a v h : Txt) (mm : List Txt) (t : Txt) (l : List Flt) (hq : leafR s = .mk k a v h mm t l) : PCalls Tryz.prog 53 [.x (.str s)] (.agg [.x (.int .i64 k), .x (.str a), .x (.str v), .x (.str h), .x (.sl (rows rStr mm)), .x (.str t), .x (.sl (rows rFlt l))]) := by
  unfold leafR at hq
  refine FCalls.pure (fcallsG (fz := true) G_ok (p := i53) rfl _ (Nat.le_of_ble_eq_true rfl) _ (fun C0 E0 => ?_)) rfl
  dsimp only [i53, qt,qi,qs,qb,qm,qa,qh,qj,qT,qF,qe,ql,qL,qf,q2,q3,q8,qz,qp,qP,qc,qk,qx,qy,qo,qr,qC,argsφ]
  have uu := And.intro @valueRG.eq_1 (And.intro @valueRG.eq_2 (And.intro @starsG.eq_1 (And.intro @starsG.eq_2 (And.intro @tabFx10_r (And.intro @tabFx10_k (And.intro @tabFx10_q73 (@tabFx10_q74)))))))
  have tT := tabFx10_ok
  refine nz ?_
  refine rg tT [0, 2] ?_
  refine rg tT [0, 2, 3] ?_
  refine WI.loop (fun φ os => ∃ (j : Nat), φ = [(0, .x (.str s)), (2, .ptr 0 0), (3, .x (.int .i64 j))] ∧ os = [.box [.x (.int .i64 0), .x (.str []), .x (.str []), .x (.str []), .x .nils, .x (.str []), .x .nils]] ∧ j ≤ s.length ∧ eqAt s = j + eqAt (s.drop j)) (down s.length 3) ?_ (fun φ os hI => ?_)
  · exact ⟨0, rfl, rfl, by omega, by simp⟩
  · obtain ⟨j, rfl, rfl, hj, hat⟩ := hI
    refine nz ?_
    refine rg tT [0, 2, 3, 16] ?_
    refine cd (fun h0 => ?_) (fun h0 => ?_)
    · have hj4 : j < s.length := by omega
      have hst := eqAt_step s j hj4 (by intro e; have e' : ((s.getD j 0).toNat : Int) = 61 := by rw [e]; rfl
                                        omega)
      refine rg tT [0, 2, 3] ?_
      exact ⟨⟨j + 1, rfl, rfl, by omega, by rw [hat, hst]⟩, by simp [down, Ab.get, D.val, intOf?]; omega⟩
    · have hej : eqAt s = j := by
        by_cases hj4 : j < s.length
        · rw [hat, eqAt_stop s j hj4 (cN (k := 61) (by decide) (by omega))]; rfl
        · rw [hat, List.drop_of_length_le (by omega)]; rfl
      rw [hej] at hq
      refine rg tT [0, 2, 3, 26] ?_
      refine cd (fun h1 => ?_) (fun h1 => ?_)
      · refine rg tT [2] ?_
        refine WI.nnA ?_
        refine lf ?_
        rw [if_pos (by omega)] at hq; cases hq; rfl -- leaf 0
      · rw [if_neg (by omega)] at hq
        have e1 : ((j : Int) + 1).toNat = j + 1 := by omega
        have uu := And.intro uu e1
        refine WI.dregB tT [2, 4, 5] ?_
        iterate 2 refine dFS ?_
        refine dFG ?_
        iterate 2 refine dFS ?_
        iterate 2 refine dFG ?_
        iterate 2 refine dFS ?_
        refine dN ?_
        refine nz ?_
        have hnl : (s.take j).length = j := by rw [List.length_take]; omega
        have hj1 : 1 ≤ j ∧ j ≤ 900000 := by omega
        have hrl : (s.drop (j + 1)).length ≤ 900000 := by rw [List.length_drop]; omega
        clear hat hej
        generalize s.take j = name at hq hnl ⊢
        generalize s.drop (j + 1) = rest at hq hrl ⊢
        unfold restR at hq
        simp only at hq
        have e2 : ((name.length : Int) - 1).toNat = name.length - 1 := by omega
        have hnb : 1 ≤ name.length ∧ name.length ≤ 900000 := by omega
        have e3 := IntWalk.i64_in ((name.length : Int) - 1) (by omega)
        have uu := And.intro uu (And.intro e2 e3)
        refine rg tT [2, 4, 5, 39] ?_
        refine rg tT [2, 4, 5, 39, 40] ?_
        refine cd (fun h2 => ?_) (fun h2 => ?_)
        · rw [if_pos (show name.getD (name.length - 1) 0 = 62 from cN (k := 62) (by decide) (by simpa using h2))] at hq
          refine WI.dregB tT [2] ?_
          iterate 2 refine dFS ?_
          iterate 3 refine dFG ?_
          refine dFS ?_
          refine dAC ?_
          refine dFG ?_
          refine dAG ?_
          refine dN ?_
          refine nz ?_
          refine WI.nnA ?_
          refine lf ?_
          first | (cases hq; rfl) -- leaf 1
        · have n2 : name.getD (name.length - 1) 0 ≠ 62 := fun e => by rw [e] at h2; exact absurd h2 (by decide)
          rw [if_neg n2] at hq
          refine rg tT [2, 4, 5, 39, 50] ?_
          refine cd (fun h3 => ?_) (fun h3 => ?_)
          · rw [if_pos (show name.getD (name.length - 1) 0 = 60 from cN (k := 60) (by decide) (by simpa using h3))] at hq
            refine WI.dregB tT [2] ?_
            iterate 2 refine dFS ?_
            iterate 3 refine dFG ?_
            refine dFS ?_
            refine dAC ?_
            refine dFG ?_
            refine dAG ?_
            refine dN ?_
            refine nz ?_
            refine WI.nnA ?_
            refine lf ?_
            first | (cases hq; rfl) -- leaf 2
          · have n3 : name.getD (name.length - 1) 0 ≠ 60 := fun e => by rw [e] at h3; exact absurd h3 (by decide)
            rw [if_neg n3] at hq
            refine rg tT [2, 4, 5, 60] ?_
            refine cd (fun h4 => ?_) (fun h4 => ?_)
            · rw [if_pos (show name.getD (name.length - 1) 0 = 126 from cN (k := 126) (by decide) (by simpa using h4))] at hq
              refine WI.dregB tT [2] ?_
              iterate 2 refine dFS ?_
              iterate 3 refine dFG ?_
              refine dFS ?_
              refine dAC ?_
              refine dFG ?_
              refine dAG ?_
              refine dN ?_
              refine nz ?_
              refine WI.nnA ?_
              refine lf ?_
              first | (cases hq; rfl) -- leaf 3
            · have n4 : name.getD (name.length - 1) 0 ≠ 126 := fun e => by rw [e] at h4; exact absurd h4 (by decide)
              rw [if_neg n4] at hq
              refine rg tT [2, 4, 5, 71] ?_
              refine cd (fun h5 => ?_) (fun h5 => ?_)
              · rw [if_pos (by simpa using h5)] at hq
                refine rg tT [2] ?_
                refine WI.nnA ?_
                refine lf ?_
                first | (cases hq; rfl) -- leaf 4
              · rw [if_neg (by simpa using h5)] at hq
                have hsb := starR_b rest
                refine rg tT [2, 4, 6] ?_
                generalize starR rest = st at hq hsb ⊢
                refine rg tT [2, 4, 6, 78] ?_
                refine cd (fun h6 => ?_) (fun h6 => ?_)
                · have hl1 : st.length = 1 := by omega
                  rw [if_pos hl1] at hq
                  have uu := And.intro uu (And.intro (rows_get st 0 (by omega)) (And.intro hl1 (rows_get st 0 (by omega))))
                  refine rg tT [2] ?_
                  refine WI.nnA ?_
                  refine lf ?_
                  first | (cases hq; rfl) -- leaf 5
                · have hl1 : ¬ st.length = 1 := by omega
                  rw [if_neg hl1] at hq
                  have e4 : ((st.length : Int) - 1).toNat = st.length - 1 := by omega
                  have uu := And.intro uu (And.intro (rows_get st 0 (by omega)) (And.intro e4 (And.intro (rows_get st (st.length - 1) (by omega)) (rows_sub st (st.length - 1) 1))))
                  refine WI.dregB tT [2] ?_
                  iterate 2 refine dFS ?_
                  iterate 2 refine dQG ?_
                  iterate 2 refine dFS ?_
                  refine dQG ?_
                  refine dFG ?_
                  refine dQG ?_
                  iterate 2 refine dFS ?_
                  refine dQG ?_
                  refine dFG ?_
                  iterate 2 refine dQG ?_
                  iterate 2 refine dFG ?_
                  refine dAG ?_
                  refine dN ?_
                  refine nz ?_
                  refine WI.nnA ?_
                  refine lf ?_
                  first | (cases hq; rfl) -- leaf 6
def leafRG:List D→Option (Bool×D)
 | [.x (.str s)]=>some (decide (s.length≤900000),fltD (leafR s))
 |_=>none
theorem leafRG_ok: ∀args r,leafRG args=some (true,r)→PCalls Tryz.prog 53 args r:=by
 intro args r h
 unfold leafRG at h
 split at h
 ·rename_i s
  simp only[ξI,ξP,ξa,ξe,true_and]at h
  obtain⟨h1,rfl⟩:=h
  exact(by rcases hq:leafR s with⟨k,a,v,h,mm,t,l⟩;exact leafR_c s h1 k a v h mm t l hq)
 ·cases h
end Go.Proofs.YtmlpbojoekmfaaaGreatDoor
end
