import Derived.Test.YtpjfdjcejamebaaGreatDoorMA1
import Derived.Test.YtpjfdjcejamebaaGreatDoorLA5
import Derived.Test.YtpjfdjcejamebaaGreatDoorIc
import Derived.Test.YtpjfdjcejamebaaGreatDoorSh
import Derived.Lib.SplitLaws
import Derived.Lib.Join
import Derived.Lib.MapLaws
set_option linter.unusedSimpArgs false
set_option linter.unusedVariables false
section
namespace Go.Proofs.YtpjfdjcejamebaaGreatDoor
open Go.RowKit Go.Bo Go.Ab
def dgD (n:Nat):UInt8:=digL.getD n 0
def ctlD (c:UInt8):Bool:=decide ((c.toNat:Int)<32)||decide ((c.toNat:Int)=127)
def slD (c:UInt8) (f l:Bool):Bool:=spc c.toNat||(f&&(decide ((c.toNat:Int)=32)||decide ((c.toNat:Int)=35))||l&&decide ((c.toNat:Int)=32))
def escC (c:UInt8) (f l:Bool):Tx:=if ctlD c=true then [92,dgD (c.toNat/16),dgD (c.toNat % 16)]else if slD c f l=true then [92,c]else [c]
def escA (s:Tx) (j:Nat):Tx:=escC (s.getD j 0) (decide (j=0)) (decide (j+1=s.length))
def escT (s:Tx):Nat→Tx
 |0=> []
 |j+1=>escT s j++escA s j
def escV (s:Tx):Tx:=escT s s.length
theorem escC_len (c:UInt8) (f l:Bool):(escC c f l).length≤3:=by unfold escC;split;simp;split<;>simp
theorem escT_len (s:Tx): ∀j,(escT s j).length≤3*j
 |0=>by simp[escT]
 |j+1=>by
  have h1:=escT_len s j
  have h2:=escC_len (s.getD j 0) (decide (j=0)) (decide (j+1=s.length))
  rw[escT,ξA];unfold escA;omega
theorem qu16D (n:Nat) (h:n<256):IntKind.u8.wrap ((n:Int).tdiv 16)=((n/16:Nat):Int):=by
 rw[show(n:Int).tdiv 16=((n/16:Nat):Int)from rfl,IntWalk.u8_in _ (by omega)]
theorem qr16D (n:Nat):(n:Int).tmod 16=((n % 16:Nat):Int):=rfl
theorem escV_r3 (b:Tx) (c d e:UInt8):b.map byteRow++ [[X.int .u8 (c.toNat:Int)],[X.int .u8 (d.toNat:Int)],[X.int .u8 (e.toNat:Int)]]=(b++ [c,d,e]).map byteRow:=by rw[List.map_append];rfl
theorem escV_r1 (b:Tx) (c:UInt8):b.map byteRow++ [[X.int .u8 (c.toNat:Int)]]=(b++ [c]).map byteRow:=by rw[List.map_append];rfl
def tabDnE:Tabs:=addQ (noTabs) 202 dnInG
theorem tabDnE_ok:SsOk Tryz.prog tabDnE:=addQ_ok (noTabs_ok) (G_enters G_ok (p:=i202) rfl) dnInG_ok
theorem tabDnE_q202 (a:List D):tabDnE.q 202 a=dnInG a:=rfl
theorem tabDnE_r (f:FuncId) (a:List D) (o:List Ob):tabDnE.r f a o=none:=rfl
theorem tabDnE_k (f:FuncId) (a:List D) (o:List Ob):tabDnE.k f a o=none:=rfl
theorem escVD_c (s:Tx) (hl:s.length≤1000000):PCalls Tryz.prog 176 [.x (.str s)] (.x (.str (escV s))):=by
 have hsl: ∀n,inB [44,43,34,92,60,62,59,61] n=spc n:=fun n=>rfl
 have hud: ∀n:Nat,([48,49,50,51,52,53,54,55,56,57,97,98,99,100,101,102]:Tx).getD n 0=dgD n:=fun n=>rfl
 refine FCalls.pure (fcallsG (fz:=true) G_ok (p:=i176) rfl _ (ξ rfl) _ (fun C0 E0=> ?_)) rfl
 dsimp only[i176,qt,qi,qs,qb,qm,qa,qh,qj,qT,qF,qe,ql,qL,qf,q2,q3,q8,qz,qp,qP,qc,qk,qx,qy,qo,qr,qC,argsφ]
 have uu:=ξn @dnInG.eq_1 (ξn @dnInG.eq_2 (ξn hsl (ξn hud (ξn @bytes_all (ξn @bytes_row (ξn @tabDnE_r (ξn @tabDnE_k (@tabDnE_q202))))))))
 have tT:=tabDnE_ok
 refine nz ?_
 refine WI.regB tT [0] ?_
 refine oS ?_
 refine oN ?_
 refine nz ?_
 refine WI.regB tT [0,3] ?_
 refine oS ?_
 refine oN ?_
 refine nz ?_
 refine WI.regB tT [0,3,9,10,11] ?_
 refine oS ?_
 iterate 2 refine oG (hok:=by first|exact se|(clear uu;grind)|exact sd) ?_
 refine oS ?_
 refine oN ?_
 refine nz ?_
 refine WI.ownA 3 5 1 ?_
 refine WI.loop (fun φ os=> ∃(j:Nat),φ= [(0,.x (.str s)),(3,.ref 1 (escT s j).length 0 (escT s j).length),(9,.ref 0 s.length 0 s.length),(10,.x (.int .i64 s.length)),(11,.x (.int .i64 j))]∧os= [.rows true 5 1 (s.map byteRow),.rows false 5 1 ((escT s j).map byteRow)]∧j≤s.length) (down s.length 11) ?_ (fun φ os hI=> ?_)
 ·exact⟨0,rfl,rfl,by omega⟩
 ·obtain⟨j,rfl,rfl,hj⟩:=hI
  have hle:=escT_len s j
  refine nz ?_
  refine WI.regB tT [0,3,9,10,11,12] ?_
  refine oG (hok:=by first|exact se|(clear uu;grind)|exact sd) ?_
  refine oN ?_
  refine nz ?_
  refine cd (fun h0=> ?_) (fun h0=> ?_)
  ·have hj4:j<s.length:=by omega
   have hst:escT s (j+1)=escT s j++escA s j:=rfl
   have hb8:(s.getD j 0).toNat<256:=UInt8.toNat_lt _
   have q0:(decide (0≤((s.getD j 0).toNat:Int)))=true:=ξt (by omega)
   have q1:=qu16D _ hb8
   have q2:=qr16D (s.getD j 0).toNat
   have q3:decide (((s.getD j 0).toNat/16:Nat)<(16:Int))=true:=ξt (by omega)
   have q4:decide (((s.getD j 0).toNat % 16:Nat)<(16:Int))=true:=ξt (by omega)
   have uu:=ξn uu (ξn (byte_row s j hj4) (ξn q0 (ξn q1 (ξn q2 (ξn q3 q4)))))
   refine WI.regB tT [0,3,4,5,9,10,11] ?_
   refine oS ?_
   iterate 2 refine oG (hok:=by first|exact se|(clear uu;grind)|exact sd) ?_
   iterate 2 refine oS ?_
   refine oN ?_
   refine nz ?_
   refine WI.regB tT [0,3,5,6,7,9,10,11] ?_
   refine oS ?_
   refine oG (hok:=by first|exact se|(clear uu;grind)|exact sd) ?_
   iterate 2 refine oS ?_
   iterate 3 refine oG (hok:=by first|exact se|(clear uu;grind)|exact sd) ?_
   iterate 2 refine oS ?_
   refine oN ?_
   refine nz ?_
   refine WI.regB tT [0,3,5,6,7,9,10,11,23] ?_
   refine oS ?_
   refine oG (hok:=by first|exact se|(clear uu;grind)|exact sd) ?_
   refine oS ?_
   iterate 3 refine oG (hok:=by first|exact se|(clear uu;grind)|exact sd) ?_
   refine oS ?_
   refine oN ?_
   refine nz ?_
   refine cd (fun h1=> ?_) (fun h1=> ?_)
   ·have hA:escA s j= [92,dgD ((s.getD j 0).toNat/16),dgD ((s.getD j 0).toNat % 16)]:=by unfold escA escC ctlD;rw[if_pos (by clear uu;grind)]
    have hn:(escA s j).length=3:=by rw[hA];rfl
    have hrow:(escT s j).map byteRow++ [[X.int .u8 92],[X.int .u8 ((dgD ((s.getD j 0).toNat/16)).toNat:Int)],[X.int .u8 ((dgD ((s.getD j 0).toNat % 16)).toNat:Int)]]=(escT s j++escA s j).map byteRow:=by rw[hA];exact escV_r3 _ 92 _ _
    refine WI.post ?_
    refine WI.dregB tT [0,3,9,10,11] ?_
    iterate 2 refine dFS ?_
    iterate 2 refine dFG (hok:=by first|exact se|(clear uu;grind)|exact sd) ?_
    refine dFS ?_
    iterate 2 refine dFG (hok:=by first|exact se|(clear uu;grind)|exact sd) ?_
    iterate 2 refine dAG (hok:=by first|exact se|(clear uu;grind)|exact sd) ?_
    refine dFS ?_
    refine dP ?_
    refine pPick [0,1] ?_
    refine pEnd ?_
    refine nz ?_
    refine WI.orderA [0,3,9,10,11] ?_
    refine WI.regB tT [0,3,9,10,11] ?_
    refine oG (hok:=by first|exact se|(clear uu;grind)|exact sd) ?_
    refine oS ?_
    refine oN ?_
    refine nz ?_
    exact⟨⟨j+1,by rw[hst,ξA,hn];first|done|rfl,by rw[hst,←hrow];first|done|rfl,by omega⟩,by simp[down,Ab.get,D.val,intOf?];omega⟩
   ·refine WI.regB tT [0,3,5,9,10,11,39] ?_
    refine oS ?_
    refine oC (hok:=by first|exact se|(clear uu;grind)|exact sd) ?_
    refine oS ?_
    iterate 10 refine oG (hok:=by first|exact se|(clear uu;grind)|exact sd) ?_
    refine oS ?_
    iterate 6 refine oG (hok:=by first|exact se|(clear uu;grind)|exact sd) ?_
    refine oS ?_
    refine oN ?_
    refine nz ?_
    refine cd (fun h2=> ?_) (fun h2=> ?_)
    ·have hA:escA s j= [92,s.getD j 0]:=by unfold escA escC ctlD slD;rw[if_neg (by clear uu;grind),if_pos (by clear uu;grind)]
     have hn:(escA s j).length=1+1:=by rw[hA];rfl
     have hrow:(escT s j).map byteRow++ [[X.int .u8 92]]++ [[X.int .u8 ((s.getD j 0).toNat:Int)]]=(escT s j++escA s j).map byteRow:=by rw[hA,List.append_assoc,List.map_append];rfl
     refine WI.post ?_
     refine WI.regB tT [0,3,5,9,10,11] ?_
     refine oS ?_
     iterate 2 refine oG (hok:=by first|exact se|(clear uu;grind)|exact sd) ?_
     refine oS ?_
     refine oP ?_
     refine pPick [0,1] ?_
     refine pEnd ?_
     refine nz ?_
     refine WI.post ?_
     refine WI.regB tT [0,3,9,10,11] ?_
     iterate 2 refine oS ?_
     iterate 2 refine oG (hok:=by first|exact se|(clear uu;grind)|exact sd) ?_
     refine oS ?_
     refine oP ?_
     refine pPick [0,1] ?_
     refine pEnd ?_
     refine nz ?_
     refine WI.orderA [0,3,9,10,11] ?_
     refine WI.regB tT [0,3,9,10,11] ?_
     refine oG (hok:=by first|exact se|(clear uu;grind)|exact sd) ?_
     refine oS ?_
     refine oN ?_
     refine nz ?_
     exact⟨⟨j+1,by rw[hst,ξA,hn];first|done|rfl,by rw[hst,←hrow];first|done|rfl,by omega⟩,by simp[down,Ab.get,D.val,intOf?];omega⟩
    ·have hA:escA s j= [s.getD j 0]:=by unfold escA escC ctlD slD;rw[if_neg (by clear uu;grind),if_neg (by clear uu;grind)]
     have hn:(escA s j).length=1:=by rw[hA];rfl
     have hrow:(escT s j).map byteRow++ [[X.int .u8 ((s.getD j 0).toNat:Int)]]=(escT s j++escA s j).map byteRow:=by rw[hA];exact escV_r1 _ _
     refine WI.post ?_
     refine WI.regB tT [0,3,9,10,11] ?_
     iterate 2 refine oS ?_
     iterate 2 refine oG (hok:=by first|exact se|(clear uu;grind)|exact sd) ?_
     refine oS ?_
     refine oP ?_
     refine pPick [0,1] ?_
     refine pEnd ?_
     refine nz ?_
     refine WI.orderA [0,3,9,10,11] ?_
     refine WI.regB tT [0,3,9,10,11] ?_
     refine oG (hok:=by first|exact se|(clear uu;grind)|exact sd) ?_
     refine oS ?_
     refine oN ?_
     refine nz ?_
     exact⟨⟨j+1,by rw[hst,ξA,hn];first|done|rfl,by rw[hst,←hrow];first|done|rfl,by omega⟩,by simp[down,Ab.get,D.val,intOf?];omega⟩
  ·have uu:=ξn uu (bytes_take (escT s j))
   refine WI.regB tT [2] ?_
   refine oS ?_
   refine oG (hok:=by first|exact se|(clear uu;grind)|exact sd) ?_
   refine oS ?_
   refine oN ?_
   refine nz ?_
   refine lf ?_
   obtain rfl:j=s.length:=by omega
   first|rfl|(simp only[bytes_row,bytes_take];first|done|rfl)
def escVDG:List D→Option (Bool×D)
 | [.x (.str s)]=>some (decide (s.length≤1000000),.x (.str (escV s)))
 |_=>none
theorem escVDG_ok: ∀args r,escVDG args=some (true,r)→PCalls Tryz.prog 176 args r:=by
 intro args r h
 unfold escVDG at h
 split at h
 ·rename_i s
  simp only[ξI,ξP,ξa,ξe,true_and]at h
  obtain⟨h1,rfl⟩:=h
  exact(escVD_c s h1)
 ·cases h
end Go.Proofs.YtpjfdjcejamebaaGreatDoor
end
section
namespace Go.Proofs
open Go.Shelf Go.RowKit Go.Lib
set_option maxHeartbeats 1000000 in
theorem Any1.strings_Split_one {P:Program} {ρ:Ren} (L:Lays.n146 P ρ) (hi9:(P.info? (ρ.t 9)).map (fun i=>(i.zero,i.size,i.bytes))=some (some (.string ByteArray.empty),1,16)) (s:ByteArray) (b:UInt8) (w:World) (hs:s.size<4294967281):
  Calls P (ρ.f 146) #[.string s,.string ⟨#[b]⟩] w fun e w'=>
   e= .returned (.slice (some ⟨w.heap.size,0,none⟩) (Lib.countB s ⟨#[b]⟩+1) (Lib.countB s ⟨#[b]⟩+1))∧w'=w.alloc (.cells ((Lib.splitB ⟨#[b]⟩ 0 (Lib.countB s ⟨#[b]⟩) s).map Value.string).toArray (ρ.t 9)):=by
 have h1:1≤(⟨#[b]⟩:ByteArray).size:=Nat.le_refl _
 have hle:=Lib.countB_le ⟨#[b]⟩ h1 s.size s (Nat.le_refl _)
 have hlen:=Lib.splitB_all ⟨#[b]⟩ h1 0 _ s rfl
 have hI: ∀(x:ByteArray) (c:Array Value),x.size≤s.size→Calls P (ρ.f 143) #[.string x,.string ⟨#[b]⟩] (w.alloc (.cells c (ρ.t 9))) fun e w'=>e= .returned (.int .i64 (Lib.indexB x ⟨#[b]⟩))∧w'=w.alloc (.cells c (ρ.t 9)):=fun x c hx=>by
  refine(Any.strings_Index_one {L with} x b _).mono fun e w' ⟨he,hw⟩=>⟨?_,hw⟩
  rw[he,Lib.indexB,Lib.index_one]
 have hC:Calls P (ρ.f 138) #[.string s,.string ⟨#[b]⟩] w fun e w'=>e= .returned (.int .i64 (Lib.countB s ⟨#[b]⟩))∧w'=w:=by
  refine(Any.strings_Count_one {L with} s b w).mono fun e w' ⟨he,hw⟩=>⟨?_,hw⟩
  rw[he]
  show _=Ending.returned (Value.int .i64 ((Lib.count s.data.toList [b]:Nat):Int))
  rw[Lib.count_one]
  rfl
 have c:=Any.strings_genSplit_core {L with} hi9 s ⟨#[b]⟩ 0 (-1) (Lib.countB s ⟨#[b]⟩+1) w hs h1 (Nat.zero_le _) hI hC (by decide) (by decide) (by rw[if_pos (by decide)];omega)
 rw[Nat.add_sub_cancel,hlen]at c
 have e2:Lib.cellsOf (Lib.splitB ⟨#[b]⟩ 0 (Lib.countB s ⟨#[b]⟩) s) (Lib.countB s ⟨#[b]⟩+1)=((Lib.splitB ⟨#[b]⟩ 0 (Lib.countB s ⟨#[b]⟩) s).map Value.string).toArray:=by rw[←hlen];exact Lib.cellsOf_full _
 rw[e2]at c
 have t3:=L.t3;have t9:=L.t9;have t31:=L.t31
 have a3:=L.a3;have a9:=L.a9;have a31:=L.a31
 have z3:=L.z3;have v3:=L.v3;have z9:=L.z9;have v9:=L.v9;have z31:=L.z31;have v31:=L.v31
 have e221: ∀args w,(callFunc (ρ.f 221) args).run P w= .ok (.enter (ρ.f 221) args) w:=enters_of L.f221 (by kernel_rfl) rfl
 go_enter L.f146,Body.n146_ntmps ρ
 go_wp2_with (go_at_fn (ρ.f 221);refine c.mono ?_;rintro e w' ⟨rfl,hw⟩;rw[hw])
 go_ret
 exact⟨rfl,rfl⟩
end Go.Proofs
namespace Go.Proofs.YtpjfdjcejamebaaGreatDoor
open Go.RowKit Go.Bo Go.Ab
def spl (c:UInt8):List UInt8→List (List UInt8)
 | []=> [[]]
 |b::l=>if b=c then []::spl c l else match spl c l with
  |x::r=>(b::x)::r
  | []=> [[b]]
theorem spl_ne (c:UInt8): ∀s,spl c s≠ []
 | []=>by simp[spl]
 |b::l=>by unfold spl;split;simp;split<;>simp
theorem splK_ne (c b:UInt8) (l:List UInt8) (h:b≠c): ∀k,Lib.splitK [c] 0 k (b::l)=match Lib.splitK [c] 0 k l with
  |x::r=>(b::x)::r
  | []=> [[b]]
 |0=>rfl
 |k+1=>by
  have hp: [c].isPrefixOf (b::l)=false:=by simp[List.isPrefixOf];exact fun e=>h e.symm
  simp only[Lib.splitK,Lib.index,hp,Bool.false_eq_true,if_false]
  by_cases hi:(Lib.index l [c]== -1)=true
  ·simp[hi]
  ·have hn:=Lib.index_ge l [c]
   simp only[hi,Bool.false_eq_true,if_false]
   simp at hi
   have h1:(Lib.index l [c]+1== -1)=false:=by simp;omega
   obtain⟨n,hn⟩: ∃n:Nat,Lib.index l [c]=n:=⟨(Lib.index l [c]).toNat,by omega⟩
   simp[hn,h1]
   intro h;omega
theorem spl_eq (c:UInt8): ∀s,Lib.splitK [c] 0 (Lib.count s [c]) s=spl c s
 | []=>by
  have:Lib.count [] [c]=0:=by rw[Lib.count_one];rfl
  rw[this];rfl
 |b::l=>by
  have ih:=spl_eq c l
  by_cases h:b=c
  ·subst h
   rw[Lib.count_cons_eq,Nat.add_comm]
   have hp: [b].isPrefixOf (b::l)=true:=by simp[List.isPrefixOf]
   simp only[Lib.splitK,Lib.index,hp,if_true,spl]
   simp[ih]
  ·rw[Lib.count_cons_ne _ _ _ h,splK_ne _ _ _ h,ih,spl,if_neg h]
theorem split_c (s:List UInt8) (c:UInt8) (h:s.length≤1000000):PCalls Tryz.prog 137 [.x (.str s),.x (.str [c])] (.x (.sl (rows rStr (spl c s)))):=by
 intro w st vs hst hvl
 obtain⟨hsz,hv⟩:=hvl
 obtain⟨v0,v1,rfl⟩: ∃v0 v1,vs= #[v0,v1]:=by
  obtain⟨vl⟩:=vs
  match vl,hsz with
  | [a,b],_=>exact⟨a,b,rfl⟩
 have h0:=hv 0 _ v0 rfl rfl
 have h1:=hv 1 _ v1 rfl rfl
 clear hv hsz
 cases h0 with
 |x h0=>
 cases h1 with
 |x h1=>
 cases h1 with
 |str _=>
 cases h0 with
 |str _=>
 have hlen:=Lib.splitB_all ⟨#[c]⟩ (Nat.le_refl _) 0 _ (bstr s) rfl
 have hD:(Lib.splitB ⟨#[c]⟩ 0 (Lib.countB (bstr s) ⟨#[c]⟩) (bstr s)).map (·.data.toList)=spl c s:=by
  rw[Lib.splitB_data]
  have e:(bstr s).data.toList=s:=by simp[bstr]
  show Lib.splitK [c] 0 (Lib.count (bstr s).data.toList [c]) (bstr s).data.toList=_
  rw[e];exact spl_eq c s
 have hle:=Lib.countB_le ⟨#[c]⟩ (Nat.le_refl _) (bstr s).size (bstr s) (Nat.le_refl _)
 have hbs:(bstr s).size=s.length:=by simp[bstr,ByteArray.size]
 refine(Any1.strings_Split_one Tryz.lays146 (by kernel_rfl) (bstr s) c w (by omega)).mono ?_
 generalize Lib.splitB ⟨#[c]⟩ 0 (Lib.countB (bstr s) ⟨#[c]⟩) (bstr s)=ps at hlen hD⊢
 generalize Lib.countB (bstr s) ⟨#[c]⟩=k at hlen hle⊢
 rintro e w' ⟨rfl,rfl⟩
 refine⟨_,fun b o=>st b o∨(b=w.heap.size∧o<k+1),rfl,?_,fun _ _ h=> .inl h,?_,?_⟩
 ·exact kept_alloc w _
 ·rintro b o (h|⟨rfl,h⟩)
  ·exact .inl h
  ·exact .inr ⟨Nat.le_refl _,by simp⟩
 ·rw[←hD]
  refine .x (.sl _ _ _ _ 1 (fun i _=> .string (ps[i]?.getD default)) ?_ (Nat.le_refl _) ?_ ?_ ?_ (fun h=>by cases h) (fun _ ad h=>by cases h;rfl) ?_)
  ·rw[rows_len,List.length_map];exact hlen
  ·show k+1≤maxLen;simp only[maxLen];omega
  ·intro r hr
   simp only[rows,List.mem_map]at hr
   obtain⟨x,_,rfl⟩:=hr
   rfl
  ·intro i j hi hj
   have hj0:j=0:=by omega
   subst hj0
   refine⟨_,_,rfl,.inr ⟨rfl,by omega⟩,?_⟩
   have hip:i<ps.length:=by omega
   rw[show 0+i*1+0=i by omega,World.cell?_alloc_at _ _ _ _ rfl]
   simp only[List.getElem?_toArray,ξp,ξg hip,Option.map_some,Option.getD_some]
  ·intro i j r x hr hx
   simp only[rows,ξp,Option.map_map,ξm]at hr
   obtain⟨y,hy,rfl⟩:=hr
   simp only[Function.comp,rStr,RC.enc]at hx
   rcases j with _|j
   ·simp at hx;subst hx
    simp only[hy,Option.getD_some]
    have:y=bstr y.data.toList:=by simp[bstr]
    conv=>rhs;rw[this]
    exact .str _
   ·simp at hx
theorem split_enters:Go.Ab.Enters Tryz.prog 137:=Go.Proofs.enters_of Tryz.lays146.f146 (by kernel_rfl) rfl
theorem join_map (l:List (List UInt8)):(l.map bstr).map (·.data.toList)=l:=by
 rw[List.map_map]
 conv=>rhs;rw[←List.map_id l]
 exact List.map_congr_left fun x _=>by simp[bstr]
theorem join_c (l:List (List UInt8)) (sep:List UInt8) (h:(Lib.join l sep).length≤140737488355328) (hl:l.length≤140737488355328):PCalls Tryz.prog 97 [.x (.sl (rows rStr l)),.x (.str sep)] (.x (.str (Lib.join l sep))):=by
 intro w st vs hst hvl
 obtain⟨hsz,hv⟩:=hvl
 obtain⟨v0,v1,rfl⟩: ∃v0 v1,vs= #[v0,v1]:=by
  obtain⟨vl⟩:=vs
  match vl,hsz with
  | [a,b],_=>exact⟨a,b,rfl⟩
 have h0:=hv 0 _ v0 rfl rfl
 have h1:=hv 1 _ v1 rfl rfl
 clear hv hsz
 cases h0 with
 |x h0=>
 cases h1 with
 |x h1=>
 cases h1 with
 |str _=>
 cases h0 with
 |sl _ a n c sz val hn hc hm hsz hcell hnil hsp hval=>
  rw[rows_len]at hn
  subst hn
  match l,h,hl,hc,hsz,hcell,hval with
  | [],_,_,_,_,_,_=>
   refine(Tryz.strings_Join_none a c (bstr sep) w).mono ?_
   rintro e w' ⟨rfl,rfl⟩
   exact⟨_,st,rfl,Kept.refl _ _,fun _ _ h=>h,fun _ _ h=> .inl h,.x (.str [])⟩
  |x::r,h,hl,hc,hsz,hcell,hval=>
   obtain rfl:1=sz:=hsz [.str x] (by simp[rows,rStr])
   obtain⟨b,off,rfl,hs0,_⟩:=hcell 0 0 (by simp) (by omega)
   have hcells: ∀(j:Nat) y,((x::r).map bstr)[j]? =some y→w.cell? ⟨b,off+j,none⟩=some (.string y):=by
    intro j y hy
    rw[ξp]at hy
    obtain⟨z,hz,rfl⟩:=ξM hy
    have hj:j<(x::r).length:=(ξG hz).1
    obtain⟨b',off',e,_,hw⟩:=hcell j 0 hj (by omega)
    simp only[ξI,Addr.mk.injEq]at e
    obtain⟨rfl,rfl,_⟩:=e
    have hx:=hval j 0 [.str z] (.str z) (by simp only[rows,ξp,hz];rfl) rfl
    rw[show off+j=off+j*1+0 by omega,hw]
    generalize val j 0=u at hx
    cases hx with
    |str _=>rfl
   have hlen:(Lib.join (((x::r).map bstr).map (·.data.toList)) (bstr sep).data.toList).length≤140737488355328:=by
    rw[join_map];simpa[bstr]using h
   have hc':((x::r).map bstr).length≤c:=by rw[List.length_map];exact hc
   have:=Tryz.strings_Join b off c ((x::r).map bstr) (bstr sep) w hcells (hst _ _ hs0) (by rw[List.length_map];exact hl) hc' hlen
   rw[List.length_map,join_map]at this
   refine this.mono ?_
   rintro e w' ⟨rfl,hb⟩
   refine⟨_,st,rfl,Kept.of_none (Ext.grown hb none),fun _ _ h=>h,fun _ _ h=> .inl h,?_⟩
   have:(bstr sep).data.toList=sep:=by simp[bstr]
   rw[this]
   exact .x (.str _)
theorem join_enters:Go.Ab.Enters Tryz.prog 97:=Go.Proofs.enters_of Tryz.lays156.f156 (by kernel_rfl) rfl
theorem get_bstr (s:List UInt8) (i:Nat) (h:i<s.length):(bstr s).get! i=s[i]:=by
 show(bstr s).data[i]! =_
 simp[bstr,h]
theorem runeAt_low {s:List UInt8} {i:Nat} (h:i<s.length) (hb:s[i].toNat<128):runeAt s i=(s[i].toNat,1):=by
 unfold runeAt
 rw[Lib.decode_at,get_bstr s i h]
 unfold Lib.decodeN
 rw[if_pos hb]
theorem runeAt_high {s:List UInt8} {i:Nat} (h:i<s.length) (hb: ¬s[i].toNat<128):128≤(runeAt s i).1∧1≤(runeAt s i).2:=by
 unfold runeAt
 rw[Lib.decode_at,get_bstr s i h]
 rcases Lib.decodeN_shape ((bstr s).size-i) s[i].toNat ((bstr s).get! (i+1)).toNat ((bstr s).get! (i+2)).toNat ((bstr s).get! (i+3)).toNat with⟨h1,_⟩|⟨_,_,_,h1,h2⟩|⟨_,_,_,_,h1,_,h2⟩|⟨_,_,_,_,_,h1,_,h2⟩|h2
 ·omega
 all_goals(rw[h2];simp only;omega)
theorem cutP_c (s p:List UInt8):PCalls Tryz.prog 138 [.x (.str s),.x (.str p)] (.tup [.x (.str (Lib.trimPrefix s p)),.x (.bool (Lib.hasPrefix s p))]):=by
 intro w st vs hst hvl
 obtain⟨hsz,hv⟩:=hvl
 obtain⟨v0,v1,rfl⟩: ∃v0 v1,vs= #[v0,v1]:=by
  obtain⟨vl⟩:=vs
  match vl,hsz with
  | [a,b],_=>exact⟨a,b,rfl⟩
 have h0:=hv 0 _ v0 rfl rfl
 have h1:=hv 1 _ v1 rfl rfl
 cases h0 with
 |x h0=>
 cases h1 with
 |x h1=>
 cases h1 with
 |str _=>
 cases h0 with
 |str _=>
 refine(Tryz.strings_CutPrefix (bstr s) (bstr p) w).mono ?_
 rintro e w' ⟨rfl,rfl⟩
 refine⟨_,st,rfl,Kept.refl _ _,fun _ _ h=>h,fun _ _ h=> .inl h,?_⟩
 have e1:(bstr s).data.toList=s:=by simp[bstr]
 have e2:(bstr p).data.toList=p:=by simp[bstr]
 rw[e1,e2]
 exact V.tup2 (V.mkstr _ _ _) _
theorem cutP_enters:Go.Ab.Enters Tryz.prog 138:=Go.Proofs.enters_of Tryz.lays103.f103 (by kernel_rfl) rfl
def cutPG:List D→Option (Bool×D)
 | [.x (.str s),.x (.str p)]=>some (true,.tup [.x (.str (Lib.trimPrefix s p)),.x (.bool (Lib.hasPrefix s p))])
 |_=>none
theorem cutPG_ok: ∀args r,cutPG args=some (true,r)→PCalls Tryz.prog 138 args r:=by
 intro args r h
 unfold cutPG at h
 split at h
 ·rename_i s p
  simp only[ξI,ξP,ξa,ξe,true_and]at h
  obtain rfl:=h
  exact(cutP_c s p)
 ·cases h
def joinG:List D→Option (Bool×D)
 | [.x (.sl R),.x (.str sep)]=>(unrows rStr R).bind fun l=>some (decide ((Lib.join l sep).length≤140737488355328∧l.length≤140737488355328),.x (.str (Lib.join l sep)))
 |_=>none
theorem joinG_ok: ∀args r,joinG args=some (true,r)→PCalls Tryz.prog 97 args r:=by
 intro args r h
 unfold joinG at h
 split at h
 ·rename_i R sep
  obtain⟨l,hr0,h⟩:=ξB h
  simp only[ξI,ξP,ξa,ξe,true_and]at h
  obtain⟨h1,rfl⟩:=h
  rw[←rows_unrows good_rStr hr0]
  exact(join_c l sep h1.1 h1.2)
 ·cases h
def splitG:List D→Option (Bool×D)
 | [.x (.str s),.x (.str [c])]=>some (decide (s.length≤1000000),.x (.sl (rows rStr (spl c s))))
 |_=>none
theorem splitG_ok: ∀args r,splitG args=some (true,r)→PCalls Tryz.prog 137 args r:=by
 intro args r h
 unfold splitG at h
 split at h
 ·rename_i s c
  simp only[ξI,ξP,ξa,ξe,true_and]at h
  obtain⟨h1,rfl⟩:=h
  exact(split_c s c h1)
 ·cases h
def words (s:List UInt8):List (List UInt8):=(spl 32 s).filter fun x=>decide (x≠ [])
def jn:List (List UInt8)→List UInt8
 | []=> []
 | [x]=>x
 |x::y::r=>x++32::jn (y::r)
theorem join_jn: ∀l,Lib.join l [32]=jn l
 | []=>rfl
 | [x]=>by rw[Lib.join_one];rfl
 |x::y::r=>by
  have:=join_jn (y::r)
  simp only[Lib.join,List.intercalate,List.intersperse_cons_cons,List.flatten_cons,jn]at this⊢
  rw[this];rfl
def wt (l:List (List UInt8)):Nat:=(l.map fun x=>x.length+1).sum
theorem wt_jn: ∀l:List (List UInt8),l≠ []→(jn l).length+1=wt l
 | [x],_=>by simp[jn,wt]
 |x::y::r,_=>by
  have:=wt_jn (y::r) (by simp)
  show(x++32::jn (y::r)).length+1=(x.length+1)+wt (y::r)
  rw[ξA,ξC];omega
theorem wt_spl (c:UInt8): ∀s,wt (spl c s)=s.length+1
 | []=>rfl
 |b::l=>by
  have ih:=wt_spl c l
  unfold spl
  split
  ·show(0+1)+wt (spl c l)=_;rw[ih,ξC];omega
  ·split
   ·rename_i y r he
    rw[he]at ih
    have e:wt (y::r)=(y.length+1)+wt r:=rfl
    have e2:wt ((b::y)::r)=(y.length+1+1)+wt r:=rfl
    rw[ξC];omega
   ·rename_i he;exact absurd he (spl_ne c l)
theorem wt_filter (p:List UInt8→Bool): ∀l,wt (l.filter p)≤wt l
 | []=>Nat.le_refl _
 |x::l=>by
  have:=wt_filter p l
  have e:wt (x::l)=(x.length+1)+wt l:=rfl
  rw[List.filter_cons]
  split
  ·have e:wt (x::l.filter p)=(x.length+1)+wt (l.filter p):=rfl
   omega
  ·omega
theorem wt_len: ∀l:List (List UInt8),l.length≤wt l
 | []=>Nat.le_refl _
 |x::l=>by
  have:=wt_len l
  have e:wt (x::l)=(x.length+1)+wt l:=rfl
  rw[ξC];omega
theorem spl_len (c:UInt8) (s:List UInt8):(spl c s).length≤s.length+1:=by have:=wt_len (spl c s);rw[wt_spl]at this;exact this
theorem words_len (s:List UInt8):(words s).length≤s.length+1:=Nat.le_trans (List.length_filter_le _ _) (spl_len 32 s)
theorem blk_len (s:List UInt8):(jn (words s)).length≤s.length:=by
 by_cases h:words s= []
 ·rw[h];simp[jn]
 ·have h1:=wt_jn _ h
  have h2:wt (words s)≤_:=wt_filter _ _
  rw[wt_spl]at h2
  omega
def blk (s:List UInt8):List UInt8:=jn (words s)
theorem filter_snoc (x:List UInt8) (l:List (List UInt8)) (p:List UInt8→Bool):(l++ [x]).filter p=if p x then l.filter p++ [x]else l.filter p:=by
 rw[List.filter_append,List.filter_cons,List.filter_nil];split<;>simp
def tabFo1:Tabs:=addQ (addQ (addT (addQ (noTabs) 97 joinG) 97 (frzT joinG)) 137 splitG) 138 cutPG
theorem tabFo1_ok:SsOk Tryz.prog tabFo1:=addQ_ok (addQ_ok (addT_ok (addQ_ok (noTabs_ok) join_enters joinG_ok) join_enters (frzT_ok joinG_ok)) split_enters splitG_ok) cutP_enters cutPG_ok
theorem tabFo1_q97 (a:List D):tabFo1.q 97 a=joinG a:=rfl
theorem tabFo1_t97 (a:List D) (o:List Ob):tabFo1.t 97 a o=liftT (frzT joinG) a o:=rfl
theorem tabFo1_q137 (a:List D):tabFo1.q 137 a=splitG a:=rfl
theorem tabFo1_q138 (a:List D):tabFo1.q 138 a=cutPG a:=rfl
theorem tabFo1_r (f:FuncId) (a:List D) (o:List Ob):tabFo1.r f a o=none:=rfl
theorem tabFo1_k (f:FuncId) (a:List D) (o:List Ob):tabFo1.k f a o=none:=rfl
theorem blanks_c (s:List UInt8) (hl:s.length≤1000000):PCalls Tryz.prog 104 [.x (.str s)] (.x (.str (blk s))):=by
 have hsl:=spl_len 32 s
 refine FCalls.pure (fcallsG (fz:=true) G_ok (p:=i104) rfl _ (ξ rfl) _ (fun C0 E0=> ?_)) rfl
 dsimp only[i104,qt,qi,qs,qb,qm,qa,qh,qj,qT,qF,qe,ql,qL,qf,q2,q3,q8,qz,qp,qP,qc,qk,qx,qy,qo,qr,qC,argsφ]
 have uu:=ξn @joinG.eq_1 (ξn @joinG.eq_2 (ξn @splitG.eq_1 (ξn @splitG.eq_2 (ξn @tabFo1_r (ξn @tabFo1_k (ξn @tabFo1_q137 (ξn @tabFo1_q138 (ξn @tabFo1_q97 (ξn @tabFo1_t97 (ξn @cutPG.eq_1 (ξn @cutPG.eq_2 (@frzT.eq_1))))))))))))
 have tT:=tabFo1_ok
 refine nz ?_
 refine WI.regB tT [0] ?_
 refine oS ?_
 refine oN ?_
 refine nz ?_
 refine WI.regB tT [0,3] ?_
 refine oS ?_
 refine oN ?_
 refine nz ?_
 refine WI.regB tT [3,7,8,9] ?_
 refine oS ?_
 refine oC (hok:=by first|exact se|(rw[ξT (Nat.le_refl _)];exact ξt ⟨hoj2,by omega⟩)|exact sd) ?_
 refine oG (hok:=by first|exact se|(rw[ξT (Nat.le_refl _)];exact ξt ⟨hoj2,by omega⟩)|exact sd) ?_
 refine oS ?_
 refine oN ?_
 refine nz ?_
 refine WI.ownA 3 9 1 ?_
 refine WI.loop (fun φ os=> ∃(j:Nat) (o:List (List UInt8)),φ= [(3,.ref 0 o.length 0 o.length),(7,.x (.sl (rows rStr (spl 32 s)))),(8,.x (.int .i64 (spl 32 s).length)),(9,.x (.int .i64 j))]∧os= [.rows false 9 1 (rows rStr o)]∧j≤(spl 32 s).length∧o=((spl 32 s).take j).filter (fun x=>decide (x≠ []))∧o.length≤j) (down (spl 32 s).length 9) ?_ (fun φ os hI=> ?_)
 ·exact⟨0,[],rfl,rfl,by omega,rfl,by simp⟩
 ·obtain⟨j,o,rfl,rfl,hj,ho,hoj⟩:=hI
  refine nz ?_
  refine WI.regB tT [3,7,8,9,10] ?_
  refine oG (hok:=by first|exact se|(rw[ξT (Nat.le_refl _)];exact ξt ⟨hoj2,by omega⟩)|exact sd) ?_
  refine oN ?_
  refine nz ?_
  refine cd (fun h0=> ?_) (fun h0=> ?_)
  ·have hj4:j<(spl 32 s).length:=by omega
   refine WI.regB tT [3,5,7,8,9] ?_
   iterate 2 refine oG (hok:=by first|exact se|(rw[ξT (Nat.le_refl _)];exact ξt ⟨hoj2,by omega⟩)|exact sd) ?_
   refine oS ?_
   refine oN ?_
   refine nz ?_
   refine WI.regB tT [3,5,7,8,9,14] ?_
   refine oS ?_
   refine oG (hok:=by first|exact se|(rw[ξT (Nat.le_refl _)];exact ξt ⟨hoj2,by omega⟩)|exact sd) ?_
   refine oN ?_
   refine nz ?_
   refine cd (fun h1=> ?_) (fun h1=> ?_)
   ·have ho2:o++ [(spl 32 s)[j]]=((spl 32 s).take (j+1)).filter (fun x=>decide (x≠ [])):=by rw[List.take_succ_eq_append_getElem hj4,filter_snoc,←ho,if_pos (by simpa using h1)]
    refine WI.post ?_
    refine WI.regB tT [3,7,8,9] ?_
    iterate 2 refine oS ?_
    iterate 2 refine oG (hok:=by first|exact se|(rw[ξT (Nat.le_refl _)];exact ξt ⟨hoj2,by omega⟩)|exact sd) ?_
    refine oS ?_
    refine oP ?_
    refine pPick [0] ?_
    refine pEnd ?_
    refine nz ?_
    refine WI.regB tT [3,7,8,9] ?_
    refine oG (hok:=by first|exact se|(rw[ξT (Nat.le_refl _)];exact ξt ⟨hoj2,by omega⟩)|exact sd) ?_
    refine oS ?_
    refine oN ?_
    refine nz ?_
    first|exact⟨⟨j+1,o++ [(spl 32 s)[j]],by first|rfl|simp,by rw[←rows_str],by omega,ho2,by simp;omega⟩,by simp[down,Ab.get,D.val,intOf?];omega⟩|exact⟨⟨j+1,o,by first|rfl|simp,rfl,by omega,ho2,by omega⟩,by simp[down,Ab.get,D.val,intOf?];omega⟩
   ·have ho2:o=((spl 32 s).take (j+1)).filter (fun x=>decide (x≠ [])):=by rw[List.take_succ_eq_append_getElem hj4,filter_snoc,←ho,if_neg (by simpa using h1)]
    refine WI.regB tT [3,7,8,9] ?_
    refine oG (hok:=by first|exact se|(rw[ξT (Nat.le_refl _)];exact ξt ⟨hoj2,by omega⟩)|exact sd) ?_
    refine oS ?_
    refine oN ?_
    refine nz ?_
    first|exact⟨⟨j+1,o++ [(spl 32 s)[j]],by first|rfl|simp,by rw[←rows_str],by omega,ho2,by simp;omega⟩,by simp[down,Ab.get,D.val,intOf?];omega⟩|exact⟨⟨j+1,o,by first|rfl|simp,rfl,by omega,ho2,by omega⟩,by simp[down,Ab.get,D.val,intOf?];omega⟩
  ·have hoe:o=words s:=by rw[ho,ξT (by omega)];rfl
   have hwl:=words_len s
   have hoj2:(Lib.join o [32]).length≤140737488355328:=by rw[hoe,join_jn];have:=blk_len s;omega
   refine WI.regB tT [2] ?_
   refine oS ?_
   refine oC (hok:=by first|exact se|(rw[ξT (Nat.le_refl _)];exact ξt ⟨hoj2,by omega⟩)|exact sd) ?_
   refine oS ?_
   refine oN ?_
   refine nz ?_
   refine lf ?_
   rw[hoe,join_jn];rfl
def blanksG:List D→Option (Bool×D)
 | [.x (.str s)]=>some (decide (s.length≤1000000),.x (.str (blk s)))
 |_=>none
theorem blanksG_ok: ∀args r,blanksG args=some (true,r)→PCalls Tryz.prog 104 args r:=by
 intro args r h
 unfold blanksG at h
 split at h
 ·rename_i s
  simp only[ξI,ξP,ξa,ξe,true_and]at h
  obtain⟨h1,rfl⟩:=h
  exact(blanks_c s h1)
 ·cases h
def tabFo2:Tabs:=addQ (addQ (addQ (noTabs) 37 lowerG) 104 blanksG) 138 cutPG
theorem tabFo2_ok:SsOk Tryz.prog tabFo2:=addQ_ok (addQ_ok (addQ_ok (noTabs_ok) (G_enters G_ok (p:=i37) rfl) lowerG_ok) (G_enters G_ok (p:=i104) rfl) blanksG_ok) cutP_enters cutPG_ok
theorem tabFo2_q37 (a:List D):tabFo2.q 37 a=lowerG a:=rfl
theorem tabFo2_q104 (a:List D):tabFo2.q 104 a=blanksG a:=rfl
theorem tabFo2_q138 (a:List D):tabFo2.q 138 a=cutPG a:=rfl
theorem tabFo2_r (f:FuncId) (a:List D) (o:List Ob):tabFo2.r f a o=none:=rfl
theorem tabFo2_k (f:FuncId) (a:List D) (o:List Ob):tabFo2.k f a o=none:=rfl
def fld (s:List UInt8):List UInt8:=lowS (blk s)
theorem fold_c (s:List UInt8) (hl:s.length≤1000000):PCalls Tryz.prog 140 [.x (.str s)] (.x (.str (fld s))):=by
 have hb:(blk s).length≤s.length:=blk_len s
 refine FCalls.pure (fcallsG (fz:=true) G_ok (p:=i140) rfl _ (ξ rfl) _ (fun C0 E0=> ?_)) rfl
 dsimp only[i140,qt,qi,qs,qb,qm,qa,qh,qj,qT,qF,qe,ql,qL,qf,q2,q3,q8,qz,qp,qP,qc,qk,qx,qy,qo,qr,qC,argsφ]
 have uu:=ξn @lowerG.eq_1 (ξn @lowerG.eq_2 (ξn @blanksG.eq_1 (ξn @blanksG.eq_2 (ξn @tabFo2_r (ξn @tabFo2_k (ξn @tabFo2_q104 (ξn @tabFo2_q138 (ξn @tabFo2_q37 (ξn @cutPG.eq_1 (@cutPG.eq_2))))))))))
 have tT:=tabFo2_ok
 refine nz ?_
 refine rg tT [0] ?_
 refine rg tT [2] ?_
 refine lf ?_
 first|rfl|exact⟨rfl,rfl⟩|trivial
def isDg (b:UInt8):Bool:=decide (48≤b.toNat∧b.toNat≤57)
def dgs (s:List UInt8):Bool:=decide (s≠ []∧s.length≤32)&&s.all isDg
theorem all_take (s:List UInt8) (p:UInt8→Bool) (i:Nat) (h:i<s.length):(s.take (i+1)).all p=((s.take i).all p&&p s[i]):=by
 rw[List.take_succ_eq_append_getElem h,List.all_append];simp
theorem not_all (s:List UInt8) (p:UInt8→Bool) (i:Nat) (h:i<s.length) (hp:p s[i]=false):s.all p=false:=by
 rw[List.all_eq_false];exact⟨s[i],List.getElem_mem h,by rw[hp];simp⟩
theorem rune_dg {s:List UInt8} {i:Nat} (h:i<s.length) (hr:48≤((runeAt s i).1:Int)∧((runeAt s i).1:Int)≤57):(runeAt s i).2=1∧isDg s[i]=true:=by
 by_cases hb:s[i].toNat<128
 ·rw[runeAt_low h hb]at hr⊢
  simp only at hr
  exact⟨rfl,ξt (by omega)⟩
 ·have:=(runeAt_high h hb).1;omega
theorem rune_no {s:List UInt8} {i:Nat} (h:i<s.length) (hr: ¬(48≤((runeAt s i).1:Int)∧((runeAt s i).1:Int)≤57)):isDg s[i]=false:=by
 refine decide_eq_false (fun hd=>hr ?_)
 rw[runeAt_low h (by omega)]
 simp only;omega
theorem digits_c (s:List UInt8):PCalls Tryz.prog 139 [.x (.str s)] (.x (.bool (dgs s))):=by
 refine FCalls.pure (fcallsG (fz:=true) G_ok (p:=i139) rfl _ (ξ rfl) _ (fun C0 E0=> ?_)) rfl
 dsimp only[i139,qt,qi,qs,qb,qm,qa,qh,qj,qT,qF,qe,ql,qL,qf,q2,q3,q8,qz,qp,qP,qc,qk,qx,qy,qo,qr,qC,argsφ]
 have uu:=trivial
 have tT:=(noTabs_ok:SsOk Tryz.prog noTabs)
 refine nz ?_
 refine rg tT [0] ?_
 refine rg tT [0,6] ?_
 refine WI.loop (fun φ os=> ∃(i:Nat),φ= [(0,.x (.str s)),(6,.iref 0 0)]∧os= [.sit s i]∧i≤s.length∧(s.take i).all isDg=true) (strI s.length 0) ?_ (fun φ os hI=> ?_)
 ·exact⟨0,rfl,rfl,by omega,rfl⟩
 ·obtain⟨i,rfl,rfl,hi,ha⟩:=hI
  refine nz ?_
  refine WI.nextSA [0,6,7,8] (fun hn2=> ?_) (fun hn2=> ?_)
  ·have ha2:s.all isDg=true:=by rw[←ha,ξT (by omega)]
   have hdg:dgs s=(!(s== [])&&decide ((s.length:Int)≤32)):=by unfold dgs;rw[ha2,Bool.and_true];by_cases h1:s= []<;>by_cases h2:s.length≤32<;>simp[h1,h2]<;>omega
   refine nz ?_
   refine ce (fun h0=> ?_) (fun h0=> ?_)
   ·exact absurd h0 (by decide)
   ·refine rg tT [2] ?_
    refine lf ?_
    rw[hdg]
  ·refine nz ?_
   refine ct (fun h0=> ?_) (fun h0=> ?_)
   ·refine rg tT [0,4,6] ?_
    refine rg tT [0,6,15] ?_
    refine cd (fun h1=> ?_) (fun h1=> ?_) (kB:=fun h=>h.h)
    ·have hd:=not_all s isDg i hn2 (rune_no hn2 (by omega))
     have hdg:dgs s=false:=by unfold dgs;rw[hd,Bool.and_false]
     refine rg tT [2] ?_
     refine lf ?_
     rw[hdg]
    ·obtain⟨hw,hdd⟩:=rune_dg hn2 (by omega)
     have ha2:(s.take (i+1)).all isDg=true:=by rw[all_take s isDg i hn2,ha,hdd];rfl
     refine WI.orderA [0,6] ?_
     refine nz ?_
     exact⟨⟨i+1,by first|rfl|simp,by first|rfl|simp[hw],by omega,ha2⟩,by simp[strI,hw];omega⟩
   ·exact absurd h0 (by decide)
def digitsG:List D→Option (Bool×D)
 | [.x (.str s)]=>some (true,.x (.bool (dgs s)))
 |_=>none
theorem digitsG_ok: ∀args r,digitsG args=some (true,r)→PCalls Tryz.prog 139 args r:=by
 intro args r h
 unfold digitsG at h
 split at h
 ·rename_i s
  simp only[ξI,ξP,ξa,ξe,true_and]at h
  obtain rfl:=h
  exact(digits_c s)
 ·cases h
def tabFo3:Tabs:=addQ (addQ (noTabs) 139 digitsG) 138 cutPG
theorem tabFo3_ok:SsOk Tryz.prog tabFo3:=addQ_ok (addQ_ok (noTabs_ok) (G_enters G_ok (p:=i139) rfl) digitsG_ok) cutP_enters cutPG_ok
theorem tabFo3_q139 (a:List D):tabFo3.q 139 a=digitsG a:=rfl
theorem tabFo3_q138 (a:List D):tabFo3.q 138 a=cutPG a:=rfl
theorem tabFo3_r (f:FuncId) (a:List D) (o:List Ob):tabFo3.r f a o=none:=rfl
theorem tabFo3_k (f:FuncId) (a:List D) (o:List Ob):tabFo3.k f a o=none:=rfl
def stp:List UInt8→List UInt8
 | []=> []
 | [b]=> [b]
 |b::c::l=>if b=48 then stp (c::l)else b::c::l
theorem stp_step (s:List UInt8) (h:1<s.length) (h0:s[0]=48):stp s=stp (s.drop 1):=by
 match s,h with
 |b::c::l,_=>exact if_pos h0
theorem stp_stop (s:List UInt8) (h: ¬(1<s.length∧ ∀(h:0<s.length),s[0]=48)):stp s=s:=by
 match s with
 | []=>rfl
 | [b]=>rfl
 |b::c::l=>rw[stp,if_neg];intro e;exact h ⟨by simp,fun _=>e⟩
def tail05 (s:List UInt8):List UInt8:=Lib.trimPrefix s [45]
def neg05 (s:List UInt8):Bool:=Lib.hasPrefix s [45]
def int05 (s:List UInt8):List UInt8×Bool:=
 if dgs (tail05 s)then(if neg05 s∧stp (tail05 s)≠ [48]then 45::stp (tail05 s)else stp (tail05 s),true)else([],false)
theorem b48 {b:UInt8}:b=48↔(b.toNat:Int)=48:=⟨fun h=>by rw[h];rfl,fun h=>UInt8.toNat_inj.1 (by show b.toNat=48;omega)⟩
theorem gd0 (t:List UInt8) (h:0<t.length):t.getD 0 0=t[0]:=by simp[h]
theorem int_c (s:List UInt8):PCalls Tryz.prog 105 [.x (.str s)] (.tup [.x (.str (int05 s).1),.x (.bool (int05 s).2)]):=by
 cases hd:dgs (tail05 s)with
 |false=>
  have hi:int05 s=([],false):=by unfold int05;rw[if_neg (by rw[hd];simp)]
  rw[hi]
  unfold tail05 at hd
  refine FCalls.pure (fcallsG (fz:=true) G_ok (p:=i105) rfl _ (ξ rfl) _ (fun C0 E0=> ?_)) rfl
  dsimp only[i105,qt,qi,qs,qb,qm,qa,qh,qj,qT,qF,qe,ql,qL,qf,q2,q3,q8,qz,qp,qP,qc,qk,qx,qy,qo,qr,qC,argsφ]
  have uu:=ξn @digitsG.eq_1 (ξn @digitsG.eq_2 (ξn @cutPG.eq_1 (ξn @cutPG.eq_2 (ξn hd (ξn @tabFo3_r (ξn @tabFo3_k (ξn @tabFo3_q138 (@tabFo3_q139))))))))
  have tT:=tabFo3_ok
  refine nz ?_
  refine rg tT [0] ?_
  refine rg tT [4,5] ?_
  refine rg tT [4,5,13] ?_
  refine ct (fun h0=> ?_) (fun h0=> ?_)
  ·refine rg tT [2,3] ?_
   refine lf ?_
   rfl
  ·simp at h0
 |true=>
  unfold tail05 at hd
  have hd32:(Lib.trimPrefix s [45]).length≤32:=by
   unfold dgs at hd
   rw[ξa]at hd
   exact(of_decide_eq_true hd.1).2
  have hi:int05 s=(if neg05 s∧stp (tail05 s)≠ [48]then 45::stp (tail05 s)else stp (tail05 s),true):=by have hd2:dgs (tail05 s)=true:=hd;unfold int05;rw[if_pos hd2]
  unfold tail05 neg05 at hi
  refine FCalls.pure (fcallsG (fz:=true) G_ok (p:=i105) rfl _ (ξ rfl) _ (fun C0 E0=> ?_)) rfl
  dsimp only[i105,qt,qi,qs,qb,qm,qa,qh,qj,qT,qF,qe,ql,qL,qf,q2,q3,q8,qz,qp,qP,qc,qk,qx,qy,qo,qr,qC,argsφ]
  have uu:=ξn @digitsG.eq_1 (ξn @digitsG.eq_2 (ξn @cutPG.eq_1 (ξn @cutPG.eq_2 (ξn hd (ξn @tabFo3_r (ξn @tabFo3_k (ξn @tabFo3_q138 (@tabFo3_q139))))))))
  have tT:=tabFo3_ok
  refine nz ?_
  refine rg tT [0] ?_
  refine rg tT [4,5] ?_
  refine rg tT [4,5,13] ?_
  refine ce (fun h0=> ?_) (fun h0=> ?_)
  ·simp at h0
  ·refine WI.orderA [4,5] ?_
   refine WI.loop (fun φ os=> ∃(t:List UInt8),φ= [(4,.x (.str t)),(5,.x (.bool (Lib.hasPrefix s [45])))]∧os= []∧stp t=stp (Lib.trimPrefix s [45])∧t.length≤32) (fun φ _=>match φ with|(_,.x (.str t))::_=>t.length|_=>0) ?_ (fun φ os hI=> ?_)
   ·exact⟨_,rfl,rfl,rfl,hd32⟩
   ·obtain⟨t,rfl,rfl,ht,htl⟩:=hI
    refine nz ?_
    by_cases hl1:1<t.length
    ·have hk:t[0]? =some t[0]:=ξg (by omega)
     have hdl:=ξt (show(1:Int)<(t.length:Int) by omega)
     have uu:=ξn uu (ξn hk hdl)
     refine rg tT [4,5,21] ?_
     refine cd (fun h1=> ?_) (fun h1=> ?_)
     ·have ht2:stp (t.drop 1)=stp (Lib.trimPrefix s [45]):=by rw[←ht,stp_step t hl1 ((gd0 t (by omega)).symm.trans (b48.2 h1))]
      refine rg tT [4,5] ?_
      exact⟨⟨t.drop 1,rfl,rfl,ht2,by rw[List.length_drop];omega⟩,by simp;omega⟩
     ·have hts:stp t=t:=stp_stop t (fun hh=>h1 (b48.1 ((gd0 t (by omega)).trans (hh.2 (by omega)))))
      have htt:=ht.symm.trans hts
      refine rg tT [4,28] ?_
      refine cd (fun h2=> ?_) (fun h2=> ?_)
      ·refine rg tT [4] ?_
       refine rg tT [2,3] ?_
       refine lf ?_
       rw[hi,htt];first|(rw[if_pos ⟨h2.1,h2.2⟩];done)|(rw[if_pos ⟨h2.1,h2.2⟩];rfl)|(rw[if_neg (by rcases h2 with h2|h2<;>simp[h2])];done)|(rw[if_neg (by rcases h2 with h2|h2<;>simp[h2])];rfl)
      ·refine rg tT [2,3] ?_
       refine lf ?_
       rw[hi,htt];first|(rw[if_pos ⟨h2.1,h2.2⟩];done)|(rw[if_pos ⟨h2.1,h2.2⟩];rfl)|(rw[if_neg (by rcases h2 with h2|h2<;>simp[h2])];done)|(rw[if_neg (by rcases h2 with h2|h2<;>simp[h2])];rfl)
    ·have hdl:=decide_eq_false (show ¬(1:Int)<(t.length:Int) by omega)
     have uu:=ξn uu hdl
     refine rg tT [4,5,21] ?_
     refine ce (fun h1=> ?_) (fun h1=> ?_)
     ·simp at h1
     ·have hts:stp t=t:=stp_stop t (fun hh=>hl1 hh.1)
      have htt:=ht.symm.trans hts
      refine rg tT [4,28] ?_
      refine cd (fun h2=> ?_) (fun h2=> ?_)
      ·refine rg tT [4] ?_
       refine rg tT [2,3] ?_
       refine lf ?_
       rw[hi,htt];first|(rw[if_pos ⟨h2.1,h2.2⟩];done)|(rw[if_pos ⟨h2.1,h2.2⟩];rfl)|(rw[if_neg (by rcases h2 with h2|h2<;>simp[h2])];done)|(rw[if_neg (by rcases h2 with h2|h2<;>simp[h2])];rfl)
      ·refine rg tT [2,3] ?_
       refine lf ?_
       rw[hi,htt];first|(rw[if_pos ⟨h2.1,h2.2⟩];done)|(rw[if_pos ⟨h2.1,h2.2⟩];rfl)|(rw[if_neg (by rcases h2 with h2|h2<;>simp[h2])];done)|(rw[if_neg (by rcases h2 with h2|h2<;>simp[h2])];rfl)
def jnc (c:UInt8):List Tx→Tx
 | []=> []
 | [x]=>x
 |x::y::r=>x++c::jnc c (y::r)
theorem join_jnc (c:UInt8): ∀l,Lib.join l [c]=jnc c l
 | []=>rfl
 | [x]=>by rw[Lib.join_one];rfl
 |x::y::r=>by
  have:=join_jnc c (y::r)
  simp only[Lib.join,List.intercalate,List.intersperse_cons_cons,List.flatten_cons,jnc]at this⊢
  rw[this];rfl
theorem jnc_cons (c:UInt8) {x:Tx} {l:List Tx} (h:l≠ []):jnc c (x::l)=x++c::jnc c l:=by
 cases l with
 |nil=>exact absurd rfl h
 |cons y r=>rfl
theorem jnc_len (c:UInt8) (m:Nat): ∀l:List Tx,(∀x∈l,x.length≤m)→(jnc c l).length≤l.length*(m+1)
 | [],_=>by simp[jnc]
 | [x],h=>by have:=h x (by simp);simp[jnc];omega
 |x::y::r,h=>by
  have h1:=jnc_len c m (y::r) (fun z hz=>h z (List.mem_cons_of_mem _ hz))
  have h2:=h x (by simp)
  rw[jnc_cons c (by simp),ξA,ξC,ξC,Nat.add_mul];omega
theorem rows_snocT (l:List Tx) (x:Tx):rows rStr l++ [[X.str x]]=rows rStr (l++ [x]):=by simp[rows,rStr]
def attT (p:Av):Tx:=p.1++ [61]++escV p.2
def prtT (r:List Av):Tx:=jnc 43 (r.map attT)
def namT (d:Dn):Tx:=jnc 44 (d.map prtT)
def putS (d:Dn):Tx×Int:=if chkDn d≠0 then([],chkDn d)else if(namT d).length>4096 then([],3)else(namT d,0)
theorem okP_at (r:List Av): ∀(n j:Nat),okP r n=true→j<n→oneP r j=true
 |n+1,j,h,hj=>by
  rw[okP,ξa]at h
  by_cases e:j=n
  ·subst e;exact h.2
  ·exact okP_at r n j h.1 (by omega)
theorem mayB_bnd {r:List Av} (h:mayB r=true):r.length≤8∧1≤r.length∧ ∀p∈r,p.1.length≤64∧p.2.length≤256:=by
 unfold mayB at h
 rw[ξa,ξe]at h
 refine⟨h.2.2,h.2.1,fun p hp=> ?_⟩
 obtain⟨j,hj,rfl⟩:=List.getElem_of_mem hp
 have h1:=okP_at r r.length j h.1 hj
 unfold oneP at h1
 rw[typB_eq,show r.getD j ([],[])=r[j] by simp[hj]]at h1
 simp only[ξa,ξe]at h1
 exact⟨h1.1.1.2,h1.2.2.1⟩
theorem chk_bnd {d:Dn} (h:chkDn d=0):d.length≤32∧ ∀r∈d,mayB r=true:=by
 unfold chkDn at h
 split at h
 ·cases h
 ·split at h
  ·rename_i h2
   exact⟨by omega,List.all_eq_true.1 h2⟩
  ·cases h
theorem attT_len {p:Av} (h:p.1.length≤64∧p.2.length≤256):(attT p).length≤840:=by
 have:=escT_len p.2 p.2.length
 unfold attT escV
 simp only[ξA,ξC,ξN];omega
theorem prtT_len {r:List Av} (h:mayB r=true):(prtT r).length≤6800:=by
 obtain⟨h1,-,h2⟩:=mayB_bnd h
 have:=jnc_len 43 840 (r.map attT) (fun x hx=>by obtain⟨p,hp,rfl⟩:=List.mem_map.1 hx;exact attT_len (h2 p hp))
 rw[List.length_map]at this
 unfold prtT;omega
theorem namT_len {d:Dn} (h:chkDn d=0):(namT d).length≤250000:=by
 obtain⟨h1,h2⟩:=chk_bnd h
 have:=jnc_len 44 6800 (d.map prtT) (fun x hx=>by obtain⟨r,hr,rfl⟩:=List.mem_map.1 hx;exact prtT_len (h2 r hr))
 rw[List.length_map]at this
 unfold namT;omega
def tabDnF1:Tabs:=addT (addQ (addQ (addQ (noTabs) 168 chkD2G) 176 escVDG) 97 joinG) 97 (frzT joinG)
theorem tabDnF1_ok:SsOk Tryz.prog tabDnF1:=addT_ok (addQ_ok (addQ_ok (addQ_ok (noTabs_ok) (G_enters G_ok (p:=i168) rfl) chkD2G_ok) (G_enters G_ok (p:=i176) rfl) escVDG_ok) join_enters joinG_ok) join_enters (frzT_ok joinG_ok)
theorem tabDnF1_q168 (a:List D):tabDnF1.q 168 a=chkD2G a:=rfl
theorem tabDnF1_q176 (a:List D):tabDnF1.q 176 a=escVDG a:=rfl
theorem tabDnF1_q97 (a:List D):tabDnF1.q 97 a=joinG a:=rfl
theorem tabDnF1_t97 (a:List D) (o:List Ob):tabDnF1.t 97 a o=liftT (frzT joinG) a o:=rfl
theorem tabDnF1_r (f:FuncId) (a:List D) (o:List Ob):tabDnF1.r f a o=none:=rfl
theorem tabDnF1_k (f:FuncId) (a:List D) (o:List Ob):tabDnF1.k f a o=none:=rfl
set_option maxHeartbeats 1000000 in
theorem putD_c (d:Dn) (hb:smD d):PCalls Tryz.prog 143 [.x (.sl (rows rRdn d))] (.tup [.x (.str (putS d).1),.x (.int .i64 (putS d).2)]):=by
 rcases hq:putS d with⟨u,e⟩
 unfold putS at hq
 have hsd:decide (smD d)=true:=ξt hb
 refine FCalls.pure (fcallsG (fz:=true) G_ok (p:=i143) rfl _ (ξ rfl) _ (fun C0 E0=> ?_)) rfl
 dsimp only[i143,qt,qi,qs,qb,qm,qa,qh,qj,qT,qF,qe,ql,qL,qf,q2,q3,q8,qz,qp,qP,qc,qk,qx,qy,qo,qr,qC,argsφ]
 have uu:=ξn @chkD2G.eq_1 (ξn @chkD2G.eq_2 (ξn @escVDG.eq_1 (ξn @escVDG.eq_2 (ξn @joinG.eq_1 (ξn @joinG.eq_2 (ξn @un_R (ξn @un_A (ξn hsd (ξn @tabDnF1_r (ξn @tabDnF1_k (ξn @tabDnF1_q168 (ξn @tabDnF1_q176 (ξn @tabDnF1_q97 (ξn @tabDnF1_t97 (@frzT.eq_1)))))))))))))))
 have tT:=tabDnF1_ok
 refine nz ?_
 refine WI.regB tT [0] ?_
 iterate 2 refine oS ?_
 refine oN ?_
 refine nz ?_
 refine WI.regB tT [0,4] ?_
 refine oS ?_
 refine oC (hok:=by first|exact se|(exact ξt (by omega))|(exact ξt (by simp;omega))|exact sd) ?_
 refine oS ?_
 refine oN ?_
 refine nz ?_
 refine WI.regB tT [0,4,15] ?_
 refine oS ?_
 refine oG (hok:=by first|exact se|(exact ξt (by omega))|(exact ξt (by simp;omega))|exact sd) ?_
 refine oN ?_
 refine nz ?_
 refine cd (fun h0=> ?_) (fun h0=> ?_)
 ·refine WI.regB tT [2,3] ?_
  iterate 3 refine oS ?_
  refine oN ?_
  refine nz ?_
  refine lf ?_
  rw[if_pos (by simpa using h0)]at hq;cases hq;rfl
 ·rw[if_neg (by simpa using h0)]at hq
  have hck:chkDn d=0:=by simpa using h0
  obtain⟨hd32,hmay⟩:=chk_bnd hck
  refine WI.regB tT [0,5] ?_
  refine oS ?_
  refine oN ?_
  refine nz ?_
  refine WI.regB tT [5,17,18,19] ?_
  refine oS ?_
  refine oG (hok:=by first|exact se|(exact ξt (by omega))|(exact ξt (by simp;omega))|exact sd) ?_
  refine oS ?_
  refine oN ?_
  refine nz ?_
  refine WI.ownA 5 9 1 ?_
  refine WI.loop (fun φ os=> ∃(j:Nat),φ= [(5,.ref 0 j 0 j),(17,.x (.sl (rows rRdn d))),(18,.x (.int .i64 d.length)),(19,.x (.int .i64 j))]∧os= [.rows false 9 1 (rows rStr ((d.take j).map prtT))]∧j≤d.length) (down d.length 19) ?_ (fun φ os hI=> ?_)
  ·exact⟨0,rfl,rfl,by omega⟩
  ·obtain⟨j,rfl,rfl,hj⟩:=hI
   refine nz ?_
   refine WI.regB tT [5,17,18,19,20] ?_
   refine oG (hok:=by first|exact se|(exact ξt (by omega))|(exact ξt (by simp;omega))|exact sd) ?_
   refine oN ?_
   refine nz ?_
   refine cd (fun h1=> ?_) (fun h1=> ?_)
   ·have hj4:j<d.length:=by omega
    have hmj:mayB (d.getD j [])=true:=by rw[show d.getD j []=d[j] by simp[hj4]];exact hmay _ (List.getElem_mem hj4)
    obtain⟨hr8,-,hpb⟩:=mayB_bnd hmj
    have hpl:=prtT_len hmj
    have hst:(d.take (j+1)).map prtT=(d.take j).map prtT++ [prtT (d.getD j [])]:=by rw[List.take_succ_eq_append_getElem hj4,List.map_append,show d.getD j []=d[j] by simp[hj4]];rfl
    have hrow:=rdn_row d j hj4
    generalize d.getD j []=r at hmj hr8 hpb hpl hst hrow⊢
    have uu:=ξn uu hrow
    refine WI.regB tT [5,7,17,18,19] ?_
    iterate 2 refine oG (hok:=by first|exact se|(exact ξt (by omega))|(exact ξt (by simp;omega))|exact sd) ?_
    refine oS ?_
    refine oN ?_
    refine nz ?_
    refine WI.regB tT [5,7,8,17,18,19] ?_
    refine oS ?_
    refine oN ?_
    refine nz ?_
    refine WI.regB tT [5,8,17,18,19,23,24,25] ?_
    refine oS ?_
    refine oG (hok:=by first|exact se|(exact ξt (by omega))|(exact ξt (by simp;omega))|exact sd) ?_
    refine oS ?_
    refine oN ?_
    refine nz ?_
    refine WI.ownA 8 9 1 ?_
    refine WI.orderA [5,8,17,18,19,23,24,25] ?_
    refine WI.loop (fun φ os=> ∃(k:Nat),φ= [(5,.ref 0 j 0 j),(8,.ref 1 k 0 k),(17,.x (.sl (rows rRdn d))),(18,.x (.int .i64 d.length)),(19,.x (.int .i64 j)),(23,.x (.sl (rows rAva r))),(24,.x (.int .i64 r.length)),(25,.x (.int .i64 k))]∧os= [.rows false 9 1 (rows rStr ((d.take j).map prtT)),.rows false 9 1 (rows rStr ((r.take k).map attT))]∧k≤r.length) (down r.length 25) ?_ (fun φ os hI=> ?_)
    ·exact⟨0,rfl,rfl,by omega⟩
    ·obtain⟨k,rfl,rfl,hk⟩:=hI
     refine nz ?_
     refine WI.regB tT [5,8,17,18,19,23,24,25,26] ?_
     refine oG (hok:=by first|exact se|(exact ξt (by omega))|(exact ξt (by simp;omega))|exact sd) ?_
     refine oN ?_
     refine nz ?_
     refine cd (fun h2=> ?_) (fun h2=> ?_)
     ·have hk4:k<r.length:=by omega
      have har:=ava_row r k hk4
      have hpk:(r.getD k ([],[])).1.length≤64∧(r.getD k ([],[])).2.length≤256:=by rw[show r.getD k ([],[])=r[k] by simp[hk4]];exact hpb _ (List.getElem_mem hk4)
      have hel:=escT_len (r.getD k ([],[])).2 (r.getD k ([],[])).2.length
      have hel2:(escV (r.getD k ([],[])).2).length≤800:=by unfold escV;omega
      have hsk:(r.take (k+1)).map attT=(r.take k).map attT++ [attT (r.getD k ([],[]))]:=by rw[List.take_succ_eq_append_getElem hk4,List.map_append,show r.getD k ([],[])=r[k] by simp[hk4]];rfl
      have hsc:decide ((r.getD k ([],[])).2.length≤1000000)=true:=ξt (by omega)
      have uu:=ξn uu (ξn har hsc)
      refine WI.regB tT [5,8,10,17,18,19,23,24,25] ?_
      iterate 2 refine oG (hok:=by first|exact se|(exact ξt (by omega))|(exact ξt (by simp;omega))|exact sd) ?_
      refine oG ?_
      refine oG (hok:=by first|exact se|(exact ξt (by omega))|(exact ξt (by simp;omega))|exact sd) ?_
      refine oN ?_
      refine nz ?_
      refine WI.post ?_
      refine WI.dregB tT [5,8,17,18,19,23,24,25] ?_
      iterate 2 refine dFS ?_
      refine dQG (hok:=by first|exact se|(exact ξt (by omega))|(exact ξt (by simp;omega))|exact sd) ?_
      refine dFG (hok:=by first|exact se|(exact ξt (by omega))|(exact ξt (by simp;omega))|exact sd) ?_
      refine dFS ?_
      refine dQG (hok:=by first|exact se|(exact ξt (by omega))|(exact ξt (by simp;omega))|exact sd) ?_
      refine dQC (hok:=by first|exact se|(exact ξt (by omega))|(exact ξt (by simp;omega))|exact sd) ?_
      refine dFG (hok:=by first|exact se|(exact ξt (by omega))|(exact ξt (by simp;omega))|exact sd) ?_
      iterate 2 refine dAG (hok:=by first|exact se|(exact ξt (by omega))|(exact ξt (by simp;omega))|exact sd) ?_
      refine dFS ?_
      refine dP ?_
      refine pPick [0,1] ?_
      refine pEnd ?_
      refine nz ?_
      refine WI.regB tT [5,8,17,18,19,23,24,25] ?_
      refine oG (hok:=by first|exact se|(exact ξt (by omega))|(exact ξt (by simp;omega))|exact sd) ?_
      refine oS ?_
      refine oN ?_
      refine nz ?_
      exact⟨⟨k+1,rfl,by rw[hsk,←rows_snocT];first|done|rfl,by omega⟩,by simp[down,Ab.get,D.val,intOf?];omega⟩
     ·obtain rfl:k=r.length:=by omega
      rw[List.take_length]
      have hjl:decide ((Lib.join (r.map attT) [43]).length≤140737488355328∧(r.map attT).length≤140737488355328)=true:=ξt ⟨by rw[join_jnc];unfold prtT at hpl;omega,by rw[List.length_map];omega⟩
      have e1:(r.map attT).length=r.length:=List.length_map ..
      have e2:(r.map attT).take r.length=r.map attT:=ξT (by omega)
      have e3:Lib.join (r.map attT) [43]=prtT r:=join_jnc 43 _
      have uu:=ξn uu (ξn e1 (ξn e2 (ξn hjl e3)))
      refine WI.post ?_
      refine WI.regB tT [5,17,18,19] ?_
      iterate 2 refine oS ?_
      refine oC (hok:=by first|exact se|(exact ξt (by omega))|(exact ξt (by simp;omega))|exact sd) ?_
      iterate 2 refine oG (hok:=by first|exact se|(exact ξt (by omega))|(exact ξt (by simp;omega))|exact sd) ?_
      refine oS ?_
      refine oP ?_
      refine pPick [0] ?_
      refine pEnd ?_
      refine nz ?_
      refine WI.orderA [5,17,18,19] ?_
      refine WI.regB tT [5,17,18,19] ?_
      refine oG (hok:=by first|exact se|(exact ξt (by omega))|(exact ξt (by simp;omega))|exact sd) ?_
      refine oS ?_
      refine oN ?_
      refine nz ?_
      exact⟨⟨j+1,rfl,by rw[hst,←rows_snocT];first|done|rfl,by omega⟩,by simp[down,Ab.get,D.val,intOf?];omega⟩
   ·obtain rfl:j=d.length:=by omega
    rw[List.take_length]
    have hnl:=namT_len hck
    have hjl:decide ((Lib.join (d.map prtT) [44]).length≤140737488355328∧(d.map prtT).length≤140737488355328)=true:=ξt ⟨by rw[join_jnc];unfold namT at hnl;omega,by rw[List.length_map];omega⟩
    have e1:(d.map prtT).length=d.length:=List.length_map ..
    have e2:(d.map prtT).take d.length=d.map prtT:=ξT (by omega)
    have e3:Lib.join (d.map prtT) [44]=namT d:=join_jnc 44 _
    have uu:=ξn uu (ξn e1 (ξn e2 (ξn hjl e3)))
    refine WI.regB tT [11] ?_
    refine oS ?_
    refine oC (hok:=by first|exact se|(exact ξt (by omega))|(exact ξt (by simp;omega))|exact sd) ?_
    refine oS ?_
    refine oN ?_
    refine nz ?_
    refine WI.regB tT [11,50] ?_
    refine oS ?_
    iterate 2 refine oG (hok:=by first|exact se|(exact ξt (by omega))|(exact ξt (by simp;omega))|exact sd) ?_
    refine oN ?_
    refine nz ?_
    refine cd (fun h3=> ?_) (fun h3=> ?_)
    ·refine WI.regB tT [2,3] ?_
     iterate 2 refine oS ?_
     refine oN ?_
     refine nz ?_
     refine lf ?_
     rw[if_pos (by omega)]at hq;cases hq;rfl
    ·refine WI.regB tT [2,3] ?_
     iterate 3 refine oS ?_
     refine oN ?_
     refine nz ?_
     refine lf ?_
     rw[if_neg (by omega)]at hq;cases hq;rfl
def putDG:List D→Option (Bool×D)
 | [.x (.sl R)]=>(unrows rRdn R).bind fun d=>some (decide (smD d),.tup [.x (.str (putS d).1),.x (.int .i64 (putS d).2)])
 |_=>none
theorem putDG_ok: ∀args r,putDG args=some (true,r)→PCalls Tryz.prog 143 args r:=by
 intro args r h
 unfold putDG at h
 split at h
 ·rename_i R
  obtain⟨d,hr0,h⟩:=ξB h
  simp only[ξI,ξP,ξa,ξe,true_and]at h
  obtain⟨h1,rfl⟩:=h
  rw[←rows_unrows good_rRdn hr0]
  exact(putD_c d h1)
 ·cases h
theorem bl_irr: ∀a,Op.bytesLess a a=false
 | []=>rfl
 |x::a=>by rw[Op.bytesLess,bl_irr a];simp
theorem bl_asym: ∀a b,Op.bytesLess a b=true→Op.bytesLess b a=false
 |_,[],h=>by simp[Op.bytesLess]at h
 | [],_::_,_=>by simp[Op.bytesLess]
 |x::a,y::b,h=>by
  rw[Op.bytesLess,Bool.or_eq_true,ξa,ξe,beq_iff_eq]at h
  rw[Op.bytesLess,Bool.or_eq_false_iff,Bool.and_eq_false_imp,decide_eq_false_iff_not,beq_iff_eq]
  rcases h with h|⟨rfl,h⟩
  ·exact⟨UInt8.lt_asymm h,fun e=>by subst e;exact absurd h (UInt8.lt_irrefl _)⟩
  ·exact⟨UInt8.lt_irrefl _,fun _=>bl_asym a b h⟩
theorem bl_trans: ∀a b c,Op.bytesLess a b=true→Op.bytesLess b c=true→Op.bytesLess a c=true
 |_,[],_,h,_=>by simp[Op.bytesLess]at h
 |_,_::_,[],_,h=>by simp[Op.bytesLess]at h
 | [],_::_,_::_,_,_=>by simp[Op.bytesLess]
 |x::a,y::b,z::c,h,k=>by
  rw[Op.bytesLess,Bool.or_eq_true,ξa,ξe,beq_iff_eq]at h k⊢
  rcases h with h|⟨rfl,h⟩<;>rcases k with k|⟨rfl,k⟩
  ·exact .inl (UInt8.lt_trans h k)
  ·exact .inl h
  ·exact .inl k
  ·exact .inr ⟨rfl,bl_trans a b c h k⟩
theorem bl_tot: ∀a b,a≠b→Op.bytesLess a b=true∨Op.bytesLess b a=true
 | [],[],h=>absurd rfl h
 |_::_,[],_=> .inr (by simp[Op.bytesLess])
 | [],_::_,_=> .inl (by simp[Op.bytesLess])
 |x::a,y::b,h=>by
  simp only[Op.bytesLess,Bool.or_eq_true,ξa,ξe,beq_iff_eq]
  by_cases e:x=y
  ·subst e
   rcases bl_tot a b (fun k=>h (by rw[k]))with k|k
   ·exact .inl (.inr ⟨rfl,k⟩)
   ·exact .inr (.inr ⟨rfl,k⟩)
  ·rcases UInt8.lt_or_lt_of_ne e with k|k
   ·exact .inl (.inl k)
   ·exact .inr (.inl k)
end Go.Proofs.YtpjfdjcejamebaaGreatDoor
end
section
namespace Go.Proofs
open Go.Shelf Go.RowKit Go.Lib Go.Sort
def encAv (x:ByteArray×ByteArray):List Value:= [.string x.1,.string x.2]
def cmpS (a b:ByteArray):Int:=if Op.bytesLess a.toList b.toList=true then-1 else if Op.bytesLess b.toList a.toList=true then 1 else 0
def cmpAv (x y:ByteArray×ByteArray):Int:=cmpS x.1 y.1
theorem isNaNS_c (s:ByteArray) (W:World):Calls Tryz.prog 135 #[.string s] W fun e w'=>e= .returned (.bool false)∧w'=W:=by
 go_enter Tryz.func135,Tryz.ntmps135
 go_wp2
 go_ret
 exact⟨by simp,rfl⟩
theorem cmpS_c (a b:ByteArray) (W:World):Calls Tryz.prog 101 #[.string a,.string b] W fun e w'=>e= .returned (.int .i64 (cmpS a b))∧w'=W:=by
 go_enter Tryz.func101,Tryz.ntmps101
 go_wp2_with (go_at_call 135;refine(isNaNS_c _ _).mono ?_;rintro e w' ⟨rfl,hw⟩;rw[hw])
 all_goals(go_ret;refine⟨?_,rfl⟩;unfold cmpS;(repeat' split)<;>first|rfl|(exfalso;simp_all;done)|(exfalso;rcases YtpjfdjcejamebaaGreatDoor.bl_tot a.toList b.toList (by simp_all)with hh|hh<;>simp_all))
theorem ltAv (x y:ByteArray×ByteArray):ltOf cmpAv x y=Op.bytesLess x.1.toList y.1.toList:=by
 unfold ltOf cmpAv cmpS
 cases h:Op.bytesLess x.1.toList y.1.toList<;>cases h2:Op.bytesLess y.1.toList x.1.toList<;>simp
theorem swoAv:SWO (ltOf cmpAv) where
 irrefl x:=by rw[ltAv];exact YtpjfdjcejamebaaGreatDoor.bl_irr _
 trans x y z h1 h2:=by rw[ltAv]at*;exact YtpjfdjcejamebaaGreatDoor.bl_trans _ _ _ h1 h2
 ntrans x y z h1 h2:=by
  rw[ltAv]at*
  cases h:Op.bytesLess x.1.toList z.1.toList with
  |false=>rfl
  |true=>
   by_cases e1:x.1.toList=y.1.toList
   ·rw[e1]at h;rw[h]at h2;cases h2
   ·rcases YtpjfdjcejamebaaGreatDoor.bl_tot _ _ e1 with h3|h3
    ·rw[h3]at h1;cases h1
    ·have:=YtpjfdjcejamebaaGreatDoor.bl_trans _ _ _ h3 h
     rw[this]at h2;cases h2
theorem clos_c (x y:ByteArray×ByteArray) (W:World):Calls Tryz.prog 142 #[.agg #[.string x.1,.string x.2],.agg #[.string y.1,.string y.2]] W fun e w'=>e= .returned (.int .i64 (cmpAv x y))∧ ∃q os',w'=grow (W.drewN q) os':=by
 have hcon:=fun W'=>cmpS_c x.1 y.1 W'
 unfold cmpAv
 generalize cmpS x.1 y.1=r at hcon⊢
 go_enter Tryz.func142,Tryz.ntmps142
 go_wp2_with (go_at_call 101;refine(hcon _).mono ?_;rintro e w' ⟨rfl,rfl⟩)
 go_ret
 exact⟨rfl,0,_,by rw[alloc_eq_grow,alloc_eq_grow,grow_grow];rfl⟩
theorem cmpLaysAv (blk off size:Nat) (w:World):CmpLays Tryz.prog 142 #[] encAv 2 cmpAv blk off size w:=fun _ _ _ _ x y=>clos_c x y _
theorem heap_sortK {α:Type} [Inhabited α] (enc:α→List Value) (k:Nat) {w:World} {g n:Nat} {os:Array Obj} {cur:Array Value} {e:TypeId} {fr:Nat×Nat} (d:Array α) (hb:w.heap[g]? =some (.cells cur e fr)):
  (sortWorldK enc k w g 0 n d os).heap[g]? =some (.cells (putCells id 0 (flatK enc k d) cur) e fr):=by
 have hg:g<w.heap.size:=(ξH hb).1
 unfold sortWorldK putRowK
 rw[heap_grow_old _ _ (by simpa using hg)]
 simp[putRow,mapBlock,Sort.ahead,Array.getElem?_modify,hb,onCells]
theorem grown_sortK {α:Type} [Inhabited α] (enc:α→List Value) (k:Nat) {w:World} {g n:Nat} {os:Array Obj} (d:Array α):w.grownBy (sortWorldK enc k w g 0 n d os) (some g):=by
 unfold sortWorldK putRowK
 refine⟨rfl,rfl,rfl,by simp,fun k hk hne=> ?_⟩
 rw[heap_grow_old _ _ (by simpa using hk)]
 have:g≠k:=fun e=>hne (by rw[e])
 simp[putRow,mapBlock,Sort.ahead,Array.getElem?_modify,this]
theorem take_putV (cur F:Array Value) (h:F.size≤cur.size):(putCells id 0 F cur).toList.take F.size=F.toList:=by
 apply List.ext_getElem?
 intro j
 by_cases hj:j<F.size
 ·rw[List.getElem?_take_of_lt hj,Array.getElem?_toList,Array.getElem?_toList]
  simp[putCells,hj,show j<cur.size by omega]
 ·rw[List.getElem?_take_eq_none (by omega),List.getElem?_eq_none (by simp;omega)]
theorem own_sortK {α:Type} [Inhabited α] (enc:α→List Value) (k:Nat) {w:World} {g n cap:Nat} {e:TypeId} {os:Array Obj} {cur:Array Value} {d:Array α} {m:Nat} (hm:d.size=m) (hb:w.heap[g]? =some (.cells cur e (0,0))) (h1:m≤cap) (h2:cap≤maxLen) (h3:cur.size=cap*k):
  (sortWorldK enc k w g 0 n d os).ownsRow 0 e k (.slice (some ⟨g,0,none⟩) m cap) m (flatK enc k d).toList:=by
 subst hm
 have hle:d.size*k≤cap*k:=Nat.mul_le_mul_right _ h1
 exact⟨by simp,.inr ⟨g,cap,_,rfl,Nat.zero_le _,heap_sortK enc k d hb,h1,h2,by simp[putCells,h3],by
  have:=take_putV cur (flatK enc k d) (by simp;omega)
  rwa [size_flatK]at this⟩⟩
end Go.Proofs
end
section
namespace Go.Proofs.YtpjfdjcejamebaaGreatDoor
open Go.RowKit Go.Bo Go.Ab
def insA (p:Av):List Av→List Av
 | []=> [p]
 |q::o=>if Op.bytesLess q.1 p.1=true then q::insA p o else p::q::o
def srtA (r:List Av):List Av:=r.foldl (fun o p=>insA p o) []
theorem insA_perm (p:Av): ∀o,(insA p o).Perm (p::o)
 | []=>List.Perm.refl _
 |q::o=>by
  unfold insA
  split
  ·exact((insA_perm p o).cons q).trans (List.Perm.swap p q o)
  ·exact List.Perm.refl _
theorem foldA_perm: ∀(r o:List Av),(r.foldl (fun o p=>insA p o) o).Perm (r++o)
 | [],o=>List.Perm.refl _
 |p::r,o=>by
  rw[List.foldl_cons]
  exact(foldA_perm r _).trans (((insA_perm p o).append_left r).trans List.perm_middle)
theorem srtA_perm (r:List Av):(srtA r).Perm r:=by have:=foldA_perm r [];rwa [List.append_nil]at this
theorem srtA_len (r:List Av):(srtA r).length=r.length:=(srtA_perm r).length_eq
theorem bl_ntrans (a b c:Tx) (h1:Op.bytesLess a b=false) (h2:Op.bytesLess b c=false):Op.bytesLess a c=false:=by
 cases h:Op.bytesLess a c with
 |false=>rfl
 |true=>
  by_cases e1:a=b
  ·subst e1;rw[h]at h2;cases h2
  ·rcases bl_tot _ _ e1 with h3|h3
   ·rw[h3]at h1;cases h1
   ·have:=bl_trans _ _ _ h3 h
    rw[this]at h2;cases h2
abbrev SrA (l:List Av):Prop:=l.Pairwise fun a b=>Op.bytesLess b.1 a.1=false
theorem insA_sorted (p:Av): ∀o,SrA o→SrA (insA p o)
 | [],_=>List.pairwise_singleton _ _
 |q::o,h=>by
  obtain⟨h1,h2⟩:=List.pairwise_cons.1 h
  unfold insA
  split
  ·rename_i hl
   refine List.pairwise_cons.2 ⟨fun x hx=> ?_,insA_sorted p o h2⟩
   rcases List.mem_cons.1 ((insA_perm p o).mem_iff.1 hx)with rfl|hx
   ·exact bl_asym _ _ hl
   ·exact h1 x hx
  ·rename_i hl
   have hl:Op.bytesLess q.1 p.1=false:=by simpa using hl
   refine List.pairwise_cons.2 ⟨fun x hx=> ?_,h⟩
   rcases List.mem_cons.1 hx with rfl|hx
   ·exact hl
   ·exact bl_ntrans _ _ _ (h1 x hx) hl
theorem foldA_sorted: ∀(r o:List Av),SrA o→SrA (r.foldl (fun o p=>insA p o) o)
 | [],o,h=>h
 |p::r,o,h=>by rw[List.foldl_cons];exact foldA_sorted r _ (insA_sorted p o h)
theorem srtA_sorted (r:List Av):SrA (srtA r):=foldA_sorted r [] List.Pairwise.nil
theorem srtA_of {r l:List Av} (hp:l.Perm r) (hs:SrA l) (hn:(r.map (·.1)).Nodup):l=srtA r:=by
 refine List.Perm.eq_of_pairwise (le:=fun a b=>Op.bytesLess b.1 a.1=false) (fun a b ha hb h1 h2=> ?_) hs (srtA_sorted r) (hp.trans (srtA_perm r).symm)
 have ha':=hp.mem_iff.1 ha
 have hb':=(srtA_perm r).mem_iff.1 hb
 have he:a.1=b.1:=Classical.byContradiction fun hne=>by
  rcases bl_tot _ _ hne with h|h
  ·rw[h]at h2;cases h2
  ·rw[h]at h1;cases h1
 obtain⟨i,hi,rfl⟩:=List.getElem_of_mem ha'
 obtain⟨j,hj,rfl⟩:=List.getElem_of_mem hb'
 have key: ∀(i j:Nat) (hi:i<r.length) (hj:j<r.length),i<j→r[i].1≠r[j].1:=fun i j hi hj hij=>by
  have:=List.pairwise_iff_getElem.1 hn i j (by simpa using hi) (by simpa using hj) hij
  simpa using this
 have:i=j:=by
  rcases Nat.lt_trichotomy i j with h|h|h
  ·exact absurd he (key i j hi hj h)
  ·exact h
  ·exact absurd he.symm (key j i hj hi h)
 subst this;rfl
def bsA (p:Av):ByteArray×ByteArray:=(bstr p.1,bstr p.2)
theorem bsA_of (x:ByteArray×ByteArray):bsA (x.1.toList,x.2.toList)=x:=by
 have key: ∀b:ByteArray,bstr b.toList=b:=fun b=>by
  unfold bstr;rw[ByteArray.toList_eq]
 unfold bsA;rw[key,key]
theorem pdq_is (r:List Av) (hn:(r.map (·.1)).Nodup) (d':Array (ByteArray×ByteArray)) (hp:Sort.PermIn 0 r.length (r.map bsA).toArray d') (hs:Sort.SortedIn (Go.Proofs.ltOf Go.Proofs.cmpAv) 0 r.length d'):d'=((srtA r).map bsA).toArray:=by
 obtain⟨hsz,-,hpm⟩:=hp
 have hsz':d'.size=r.length:=by rw[hsz];simp
 have hex:(d'.extract 0 r.length).toList=d'.toList:=by rw[←hsz'];simp
 have hex2:((r.map bsA).toArray.extract 0 r.length).toList=r.map bsA:=by simp[ξT]
 rw[hex,hex2]at hpm
 have hl:d'.toList=(d'.toList.map fun x=>(x.1.toList,x.2.toList)).map bsA:=by
  rw[List.map_map]
  conv=>lhs;rw[←List.map_id d'.toList]
  exact List.map_congr_left fun x _=>(bsA_of x).symm
 have hperm:(d'.toList.map fun x=>(x.1.toList,x.2.toList)).Perm r:=by
  have:=hpm.map fun x:ByteArray×ByteArray=>(x.1.toList,x.2.toList)
  rw[List.map_map]at this
  have e:(r.map ((fun x:ByteArray×ByteArray=>(x.1.toList,x.2.toList))∘bsA))=r:=by
   conv=>rhs;rw[←List.map_id r]
   exact List.map_congr_left fun p _=>by simp[bsA,bstr_toList]
  rwa [e]at this
 have hsr:SrA (d'.toList.map fun x=>(x.1.toList,x.2.toList)):=by
  show List.Pairwise _ _
  rw[List.pairwise_map,List.pairwise_iff_getElem]
  intro i j hi hj hij
  have:=hs i j (Nat.zero_le _) hij (by rw[←hsz'];simpa using hj)
  rw[Go.Proofs.ltAv]at this
  simp at hi hj
  simp only[getElem!_pos d' i hi,getElem!_pos d' j hj]at this
  simpa using this
 apply Array.toList_inj.1
 rw[hl,srtA_of hperm hsr hn]
theorem flat_at (r:List Av) (i:Nat) (hi:i<r.length):(Go.Sort.flatK Go.Proofs.encAv 2 (r.map bsA).toArray).toList[i*2]? =some (Value.string (bstr r[i].1))∧(Go.Sort.flatK Go.Proofs.encAv 2 (r.map bsA).toArray).toList[i*2+1]? =some (Value.string (bstr r[i].2)):=by
 have e1:i*2/2=i:=by omega
 have e2:(i*2+1)/2=i:=by omega
 have e3:i*2 % 2=0:=by omega
 have e4:(i*2+1) % 2=1:=by omega
 have hg:(r.map bsA)[i]! =bsA r[i]:=by rw[getElem!_pos _ i (by simpa using hi)];simp
 constructor
 ·simp[Go.Sort.flatK,show i*2<r.length*2 by omega,e1,e3,hg,Go.Proofs.encAv,bsA,hi]
 ·simp[Go.Sort.flatK,show i*2+1<r.length*2 by omega,e2,e4,hg,Go.Proofs.encAv,bsA,hi]
set_option maxHeartbeats 1000000 in
theorem pdq_c (e:Nat) (r:List Av) (hn:(r.map (·.1)).Nodup) (hne:r≠ []) (hl:r.length≤1000000) (lim:Nat) (hlim:lim≤64):MCalls Tryz.prog 175 [.ref 0 r.length 0 r.length,.x (.int .i64 0),.x (.int .i64 r.length),.x (.int .i64 lim),.fn 142 []] [.rows false e 2 (rows rAva r)] (.tup []) [.rows false e 2 (rows rAva (srtA r))]:=by
 intro c E vs R hvl
 obtain⟨hsz,hv⟩:=hvl
 obtain⟨v0,v1,v2,v3,v4,rfl⟩: ∃v0 v1 v2 v3 v4,vs= #[v0,v1,v2,v3,v4]:=by
  obtain⟨vl⟩:=vs
  match vl,hsz with
  | [a,b,c,d,e],_=>exact⟨a,b,c,d,e,rfl⟩
 have h0:=hv 0 _ v0 rfl rfl
 have h1:=hv 1 _ v1 rfl rfl
 have h2:=hv 2 _ v2 rfl rfl
 have h3:=hv 3 _ v3 rfl rfl
 have h4:=hv 4 _ v4 rfl rfl
 clear hv hsz
 obtain rfl:v1= .int .i64 0:=by cases h1 with|x h=>cases h;rfl
 obtain rfl:v2= .int .i64 r.length:=by cases h2 with|x h=>cases h;rfl
 obtain rfl:v3= .int .i64 lim:=by cases h3 with|x h=>cases h;rfl
 obtain rfl:v4= .func (.func 142) #[] #[]:=by
  cases h4 with
  |fn vs hl _=>rw[show vs= #[]from Array.eq_empty_of_size_eq_zero hl.symm]
 clear h1 h2 h3 h4
 have hlen:(rows rAva r).length=r.length:=rows_len _ _
 cases h0 with
 |ref hr _=>
  have ho: [Ob.rows false e 2 (rows rAva r)][0]? =some (Ob.rows false e 2 (rows rAva r)):=rfl
  obtain⟨k1,k2⟩:=hr.at ho rfl
  obtain⟨k3,b,a,cap,a',cap',k4,rfl,k6,k7,k8,k9,k10,k11⟩:=k2 hlen
  obtain⟨rfl,rfl⟩:=k8 rfl
  obtain⟨p,hp,hok⟩:=R.at ho
  rw[hp]at k4
  have hpb:p=(b,.slice a' r.length cap'):=Option.some.inj k4
  subst hpb
  have hpos:0<r.length:=List.length_pos_iff.2 hne
  obtain⟨xs,⟨q1,q2⟩,q3,q4⟩:=hok
  rcases q2 with⟨q2,q5⟩|⟨g,cp,cells,fr,q5,q6,q7,q8,q9,q10,q11⟩
  ·rw[hlen]at q5;omega
  ·simp only[Value.slice.injEq]at q5
   obtain⟨rfl,_,rfl⟩:=q5
   rw[hlen]at q10 q7 q1
   have hfr:fr=(0,0):=by
    rcases q11 with q11|⟨q11,_⟩
    ·exact q11
    ·cases q11
   subst hfr
   have hxs:xs=(Go.Sort.flatK Go.Proofs.encAv 2 (r.map bsA).toArray).toList:=by
    apply List.ext_getElem (by rw[q1];simp)
    intro t ht ht2
    have htr:t/2<r.length:=by rw[q1]at ht;omega
    obtain⟨f1,f2⟩:=flat_at r (t/2) htr
    have hrw:(rows rAva r)[t/2]? =some [X.str r[t/2].1,X.str r[t/2].2]:=by simp[rows,htr,rAva]
    apply Option.some.inj
    rw[←ξg ht2]
    rcases Nat.mod_two_eq_zero_or_one t with hm|hm
    ·have et:t/2*2=t:=by omega
     rw[et]at f1
     rw[f1]
     have:=q4 (t/2) _ 0 (.str r[t/2].1) xs[t] hrw rfl (by rw[Nat.add_zero,et];exact ξg ht)
     generalize xs[t]=u at this⊢
     cases this;rfl
    ·have et:t/2*2+1=t:=by omega
     rw[et]at f2
     rw[f2]
     have:=q4 (t/2) _ 1 (.str r[t/2].2) xs[t] hrw rfl (by rw[et];exact ξg ht)
     generalize xs[t]=u at this⊢
     cases this;rfl
   have hglt:=(ξH q6).1
   have hds:(r.map bsA).toArray.size=r.length:=by simp
   have hH:Go.Sort.HoldsK Go.Proofs.encAv 2 E.w g 0 (r.map bsA).toArray:=by
    intro j hj
    rw[Go.Sort.size_flatK,hds]at hj
    have hjx:cells.toList[j]? =xs[j]? :=by rw[←q10,List.getElem?_take_of_lt hj]
    refine⟨?_,by simp[World.frozen?,q6]⟩
    simp only[World.cell?,q6,Option.isSome_none,Bool.false_eq_true,if_false,Nat.zero_add]
    rw[←Array.getElem?_toList,hjx,hxs,Array.getElem?_toList]
    have hjs:j<(Go.Sort.flatK Go.Proofs.encAv 2 (r.map bsA).toArray).size:=by rw[Go.Sort.size_flatK,hds];exact hj
    rw[Array.getElem?_eq_getElem hjs,getElem!_pos _ j hjs];rfl
   have eg: ∀args w,(callFunc 142 args).run Tryz.prog w= .ok (.enter 142 args) w:=Go.Proofs.enters_of Tryz.func142 (by kernel_rfl) rfl
   have hk2: ∀x,(Go.Proofs.encAv x).length=2:=fun _=>rfl
   have h11: ∀x,∀v∈Go.Proofs.encAv x,v.oneCell'=true:=fun x v hv=>by simp[Go.Proofs.encAv]at hv;rcases hv with rfl|rfl<;>rfl
   have:=Go.Proofs.AnyQ.pdqsortCmpFunc_all Tryz.pdqAva 2 (by exact Tryz.isAgg161) (by exact Tryz.sizeOf161) Go.Proofs.encAv Go.Proofs.cmpAv 142 #[] Go.Proofs.swoAv g 0 cap' (r.map bsA).toArray E.w eg (Go.Proofs.cmpLaysAv g 0 _ E.w) ⟨hk2,h11,hH,hglt⟩ (r.length+1) 0 r.length lim (r.map bsA).toArray E.w (by omega) rfl (Go.Proofs.SWK.start hH) (Nat.zero_le _) (by rw[hds];exact Nat.le_refl _) (by rw[hds];omega) (by omega) (Or.inl rfl)
   rw[hds]at this
   refine this.mono ?_
   rintro _ w' ⟨rfl,nn,oss,rfl⟩
   have hps:=Go.Sort.pdq_sorts (Go.Proofs.ltOf Go.Proofs.cmpAv) Go.Proofs.swoAv (r.map bsA).toArray 0 r.length lim true true (Nat.zero_le _) (by rw[hds];exact Nat.le_refl _) (Or.inl rfl)
   have hd':=pdq_is r hn _ hps.1 hps.2
   rw[hd']
   have hown:=Go.Proofs.own_sortK (n:=nn) (os:=oss) Go.Proofs.encAv 2 (d:=((srtA r).map bsA).toArray) (m:=r.length) (by simp[srtA_len]) q6 q7 q8 q9
   have hg:=Go.Proofs.grown_sortK (n:=nn) (os:=oss) (w:=E.w) (g:=g) Go.Proofs.encAv 2 ((srtA r).map bsA).toArray
   have hls:(rows rAva (srtA r)).length=r.length:=by rw[rows_len,srtA_len]
   obtain⟨R',ev⟩:=R.set ho hp _ (.rows false e 2 (rows rAva (srtA r))) (b,.slice (some ⟨g,0,none⟩) r.length cap') ⟨hg.os,hg.tape,hg.output,hg.size,fun k hk hm=>hg.block k hk (fun e=>hm (by cases e;rfl))⟩ (fun b' hb'=> .inl hb') (fun sz rs1 h=>by
     simp only[Ob.sl?,ξI,ξP]at h
     obtain⟨rfl,rfl⟩:=h
     exact⟨(rows rAva (srtA r)).length,rfl,.inl ⟨by rw[hls,hlen],rfl⟩⟩) (fun k h=>by cases h) (fun ev=>by
     refine⟨_,by rw[hls];exact Row.of_owns hown false,fun z hz=> ?_,fun i z j x v h1 h2 h3=> ?_⟩
     ·obtain⟨q,_,rfl⟩:=List.mem_map.1 hz;rfl
     ·unfold rows at h1
      rw[ξp]at h1
      obtain⟨q,hq,rfl⟩:=ξM h1
      have hi:=(ξG hq).1
      obtain⟨f1,f2⟩:=flat_at (srtA r) i hi
      have hqe:(srtA r)[i]=q:=(ξG hq).2
      rw[hqe]at f1 f2
      match j with
      |0=>
       simp only[rAva,List.getElem?_cons_zero,ξI]at h2
       subst h2
       rw[Nat.add_zero,f1]at h3
       cases h3
       exact .str _
      |1=>
       simp only[rAva,List.getElem?_cons_zero,List.getElem?_cons_succ,ξI]at h2
       subst h2
       rw[f2]at h3
       cases h3
       exact .str _
      |j+2=>simp[rAva]at h2)
   exact⟨_,_,rfl,rfl,R',ev,.tup #[] rfl (fun j d v h=>by simp at h)⟩
theorem bitsLen_c (n:Nat) (h:n≤1000000):PCalls Tryz.prog 113 [.x (.int .u64 n)] (.x (.int .i64 (Lib.bitLen n))):=by
 intro w st vs hst hvl
 obtain⟨hsz,hv⟩:=hvl
 obtain⟨v0,rfl⟩: ∃v0,vs= #[v0]:=by
  obtain⟨vl⟩:=vs
  match vl,hsz with
  | [a],_=>exact⟨a,rfl⟩
 have h0:=hv 0 _ v0 rfl rfl
 obtain rfl:v0= .int .u64 n:=by cases h0 with|x h=>cases h;rfl
 have:=Tryz.bits_Len (n:Int) w (by omega) (by omega)
 rw[Int.toNat_natCast]at this
 refine this.mono ?_
 rintro e w' ⟨rfl,rfl⟩
 exact⟨_,st,rfl,Kept.refl _ _,fun _ _ h=>h,fun _ _ h=> .inl h,.x (.int _ _)⟩
def bitsLenG:List D→Option (Bool×D)
 | [.x (.int .u64 n)]=>some (decide (0≤n∧n≤1000000),.x (.int .i64 (Lib.bitLen n.toNat)))
 |_=>none
theorem bitsLenG_ok: ∀args r,bitsLenG args=some (true,r)→PCalls Tryz.prog 113 args r:=by
 intro args r h
 unfold bitsLenG at h
 split at h
 ·rename_i n
  simp only[ξI,ξP,ξa,ξe,true_and]at h
  obtain⟨h1,rfl⟩:=h
  exact(by obtain⟨m,rfl⟩: ∃m:Nat,n=m:=⟨n.toNat,by omega⟩;rw[Int.toNat_natCast];exact bitsLen_c m (by omega))
 ·cases h
def tabDnG1:Tabs:=addQ (noTabs) 113 bitsLenG
theorem tabDnG1_ok:SsOk Tryz.prog tabDnG1:=addQ_ok (noTabs_ok) (G_enters G_ok (p:=i113) rfl) bitsLenG_ok
theorem pdq_enters:Enters Tryz.prog 175:=G_enters G_ok (p:=i175) rfl
theorem sortF_c (e:Nat) (r:List Av) (hn:(r.map (·.1)).Nodup) (hne:r≠ []) (hl:r.length≤1000000):MCalls Tryz.prog 141 [.ref 0 r.length 0 r.length,.fn 142 []] [.rows false e 2 (rows rAva r)] (.tup []) [.rows false e 2 (rows rAva (srtA r))]:=by
 have hbl:Lib.bitLen r.length≤62:=Lib.bitLen_le r.length 62 (by omega) (by omega)
 have hw:IntKind.u64.wrap (r.length:Int)=r.length:=by simp[IntKind.wrap,IntKind.bits,IntKind.signed];omega
 have hc:=pdq_c e r hn hne hl (Lib.bitLen r.length) (by omega)
 have hdd:decide (0≤(r.length:Int)∧(r.length:Int)≤1000000)=true:=ξt (by omega)
 refine FCalls.mcalls (fcallsG (fz:=true) G_ok (p:=i141) rfl _ (ξ rfl) _ (fun C0 E0=> ?_))
 dsimp only[i141,qt,qi,qs,qb,qm,qa,qh,qj,qT,qF,qe,ql,qL,qf,q2,q3,q8,qz,qp,qP,qc,qk,qx,qy,qo,qr,qC,argsφ]
 have uu:=ξn @bitsLenG.eq_1 (ξn @bitsLenG.eq_2 (ξn hw (ξn hdd (ξn @ptT_t (ξn @ptT_q (ξn @ptT_r (@ptT_k)))))))
 have tT:=(ptT_ok tabDnG1_ok pdq_enters hc)
 refine nz ?_
 refine rg tT [0,1,4] ?_
 refine WI.regB tT [] ?_
 iterate 3 refine oS ?_
 refine oG ?_
 refine oC ?_
 refine oS ?_
 refine oC ?_
 refine osN ?_
 first|refine lfN ?_|refine lfN2 ?_
 exact⟨rfl,rfl⟩
theorem sortF_enters:Enters Tryz.prog 141:=G_enters G_ok (p:=i141) rfl
def nrmP (p:Av):Av:=(lowS p.1,fld p.2)
def nrmR (r:List Av):List Av:=srtA (r.map nrmP)
def fullR (r:List Av):Bool:=r.all fun p=> !(fld p.2== [])
def normS (s:Tx):Tx×Int:=if(readS s).2≠0 then([],(readS s).2)else if(readS s).1.all fullR=true then putS ((readS s).1.map nrmR)else([],5)
theorem okP_nodup (r:List Av): ∀n,n≤r.length→okP r n=true→(lowsA (r.take n)).Nodup
 |0,_,_=>by simp[lowsA]
 |n+1,hn,h=>by
  rw[okP,ξa]at h
  have ih:=okP_nodup r n (by omega) h.1
  have h2:=h.2
  unfold oneP at h2
  simp only[ξa,Bool.not_eq_true',decide_eq_false_iff_not]at h2
  have hg:r.getD n ([],[])=r[n]:=by simp[show n<r.length by omega]
  rw[hg]at h2
  unfold lowsA at ih h2⊢
  rw[List.take_succ_eq_append_getElem (by omega),List.map_append,List.nodup_append]
  refine⟨ih,by simp,fun a ha b hb=> ?_⟩
  simp only[List.map_cons,List.map_nil,List.mem_singleton]at hb
  subst hb
  rintro rfl
  exact h2.2.2.2 ha
theorem nrm_nodup {r:List Av} (h:mayB r=true):((r.map nrmP).map (·.1)).Nodup:=by
 unfold mayB at h
 rw[ξa]at h
 have:=okP_nodup r r.length (Nat.le_refl _) h.1
 rw[List.take_length]at this
 rw[List.map_map];exact this
theorem nrmR_len (r:List Av):(nrmR r).length=r.length:=by unfold nrmR;rw[srtA_len,List.length_map]
def midR (r:List Av) (k:Nat):List Av:=(r.take k).map nrmP++r.drop k
theorem midR_len (r:List Av) (k:Nat):(midR r k).length=r.length:=by unfold midR;simp;omega
theorem midR_at (r:List Av) (k:Nat) (h:k<r.length):(rows rAva (midR r k))[k]? =some [X.str (r.getD k ([],[])).1,X.str (r.getD k ([],[])).2]:=by
 have e:(midR r k)[k]? =some (r.getD k ([],[])):=by
  unfold midR
  rw[List.getElem?_append_right (by simp;omega)]
  simp[h,Nat.min_eq_left (Nat.le_of_lt h)]
 unfold rows
 rw[ξp,e];rfl
theorem midR_at' (r:List Av) (k:Nat) (h:k<r.length):(rows rAva (midR r (k+1)))[k]? =some [X.str (lowS (r.getD k ([],[])).1),X.str (fld (r.getD k ([],[])).2)]:=by
 have e:(midR r (k+1))[k]? =some (nrmP (r.getD k ([],[]))):=by
  unfold midR
  rw[ξl (by simp;omega),ξp,List.getElem?_take,if_pos (by omega)]
  simp[h]
 unfold rows
 rw[ξp,e];rfl
theorem midR_set (r:List Av) (k:Nat) (h:k<r.length):(rows rAva (midR r k)).set k [X.str (lowS (r.getD k ([],[])).1),X.str (fld (r.getD k ([],[])).2)]=rows rAva (midR r (k+1)):=by
 have e:(midR r k).set k (nrmP (r.getD k ([],[])))=midR r (k+1):=by
  unfold midR
  rw[List.set_append_right _ _ (by simp;omega),List.take_succ_eq_append_getElem h,List.map_append]
  have h1:k-((r.take k).map nrmP).length=0:=by simp;omega
  rw[h1,List.drop_eq_getElem_cons h,List.set_cons_zero,List.append_assoc]
  simp[h]
 rw[←e]
 unfold rows
 rw[List.map_set];rfl
theorem midR_end (r:List Av):midR r r.length=r.map nrmP:=by unfold midR;simp
theorem midR_zero (r:List Av):midR r 0=r:=by unfold midR;simp
def midD (d:Dn) (j:Nat):Dn:=(d.take j).map nrmR++d.drop j
theorem midD_len (d:Dn) (j:Nat):(midD d j).length=d.length:=by unfold midD;simp;omega
theorem midD_at (d:Dn) (j:Nat) (h:j<d.length):(midD d j).getD j []=d.getD j []:=by
 unfold midD
 rw[List.getD_eq_getElem?_getD,List.getElem?_append_right (by simp;omega)]
 simp[h,Nat.min_eq_left (Nat.le_of_lt h)]
theorem midD_set (d:Dn) (j:Nat) (h:j<d.length):(midD d j).set j (nrmR (d.getD j []))=midD d (j+1):=by
 unfold midD
 rw[List.set_append_right _ _ (by simp;omega),List.take_succ_eq_append_getElem h,List.map_append]
 have h1:j-((d.take j).map nrmR).length=0:=by simp;omega
 rw[h1,List.drop_eq_getElem_cons h,List.set_cons_zero,List.append_assoc]
 simp[h]
theorem midD_end (d:Dn):midD d d.length=d.map nrmR:=by unfold midD;simp
theorem midD_zero (d:Dn):midD d 0=d:=by unfold midD;simp
def foldXG:List D→Option (Bool×D)
 | [.x (.str s)]=>some (decide (s.length≤1000000),.x (.str (fld s)))
 |_=>none
theorem foldXG_ok: ∀args r,foldXG args=some (true,r)→PCalls Tryz.prog 140 args r:=by
 intro args r h
 unfold foldXG at h
 split at h
 ·rename_i s
  simp only[ξI,ξP,ξa,ξe,true_and]at h
  obtain⟨h1,rfl⟩:=h
  exact(fold_c s h1)
 ·cases h
theorem read_enters:Enters Tryz.prog 131:=G_enters G_ok (p:=i131) rfl
def tabDnH:Tabs:=addT (addQ (addQ (addQ (noTabs) 37 lowerXG) 140 foldXG) 143 putDG) 143 (frzT putDG)
theorem tabDnH_ok:SsOk Tryz.prog tabDnH:=addT_ok (addQ_ok (addQ_ok (addQ_ok (noTabs_ok) (G_enters G_ok (p:=i37) rfl) lowerXG_ok) (G_enters G_ok (p:=i140) rfl) foldXG_ok) (G_enters G_ok (p:=i143) rfl) putDG_ok) (G_enters G_ok (p:=i143) rfl) (frzT_ok putDG_ok)
theorem tabDnH_q37 (a:List D):tabDnH.q 37 a=lowerXG a:=rfl
theorem tabDnH_q140 (a:List D):tabDnH.q 140 a=foldXG a:=rfl
theorem tabDnH_q143 (a:List D):tabDnH.q 143 a=putDG a:=rfl
theorem tabDnH_t143 (a:List D) (o:List Ob):tabDnH.t 143 a o=liftT (frzT putDG) a o:=rfl
theorem tabDnH_r (f:FuncId) (a:List D) (o:List Ob):tabDnH.r f a o=none:=rfl
theorem tabDnH_k (f:FuncId) (a:List D) (o:List Ob):tabDnH.k f a o=none:=rfl
def FZ (d:Dn):List Ob:=famF 2 (d.map (rows rAva))
theorem FZ_len (d:Dn):(FZ d).length=d.length:=by unfold FZ;rw[famF_len,List.length_map]
theorem fam_frz (d:Dn):frzL (List.range' 1 d.length) (obD d)= .drw 159 1 (RF d)::FZ d:=by
 have h:=frz_fam (.drw 159 1 (RF d)) 161 2 (d.map (rows rAva)) []
 rw[List.length_map]at h
 exact h
theorem fam_nrm (d:Dn):nrmO [0] (.drw 159 1 (RF d)::FZ d)= [.drw 159 1 (xRows (rows rRdn d))]:=by
 have h3:=nrm_fam 159 2 (d.map (rows rAva))
 have h4:((d.map (rows rAva)).map fun rs=> [X.sl rs])=rows rRdn d:=by rw[List.map_map];rfl
 rw[h4]at h3
 exact h3
theorem boxes_fam (e sz:Nat) (b:Ob): ∀(l l':List (List (List X))),l.length=l'.length→boxes0B (fam e sz l++ [b]) (fam e sz l'++ [b])=true
 | [],[],_=>by cases b<;>simp[fam,boxes0B,Ob.beq_refl]
 | [],_::_,h=>by simp at h
 |_::_,[],h=>by simp at h
 |x::l,y::l',h=>by
  have ih:=boxes_fam e sz b l l' (by simpa using h)
  unfold fam at ih⊢
  rw[List.map_cons,List.map_cons,List.cons_append,List.cons_append]
  exact ih
set_option maxHeartbeats 4000000 in
theorem normF_c (s:Tx) (d:Dn) (hq:readS s=(d,0)) (hne:s≠ []):PCalls Tryz.prog 106 [.x (.str s)] (.tup [.x (.str (normS s).1),.x (.int .i64 (normS s).2)]):=by
 obtain⟨hs4,-,hd0,-,hck⟩:=read_split s d hq hne
 have hsm:smD d:=by
  have:=nameL_sm s (by omega)
  unfold nameL readL at this
  rw[List.map_map]at this
  rw[hd0];exact this
 obtain⟨hd32,hmay⟩:=chk_bnd hck
 have hn:normS s=if d.all fullR=true then putS (d.map nrmR)else([],5):=by
  unfold normS;rw[hq];simp
 have hread:=readF_c s d hq hne
 clear hq hne hs4 hd0 hck
 rcases hu:normS s with⟨u,e⟩
 rw[hn]at hu
 clear hn
 refine FCalls.pure (fcallsG (fz:=true) G_ok (p:=i106) rfl _ (ξ rfl) _ (fun C0 E0=> ?_)) rfl
 dsimp only[i106,qt,qi,qs,qb,qm,qa,qh,qj,qT,qF,qe,ql,qL,qf,q2,q3,q8,qz,qp,qP,qc,qk,qx,qy,qo,qr,qC,argsφ]
 have uu:=ξn @lowerXG.eq_1 (ξn @lowerXG.eq_2 (ξn @foldXG.eq_1 (ξn @foldXG.eq_2 (ξn @putDG.eq_1 (ξn @putDG.eq_2 (ξn @ptT_t (ξn @ptT_q (ξn @ptT_r (ξn @ptT_k (ξn @tabDnH_r (ξn @tabDnH_k (ξn @tabDnH_q140 (ξn @tabDnH_q143 (ξn @tabDnH_q37 (ξn @tabDnH_t143 (@frzT.eq_1))))))))))))))))
 refine WI.seq ?_
 refine WI.regB tabDnH_ok [0] ?_
 iterate 2 refine oS ?_
 refine oN ?_
 refine thenQ_normal ?_
 refine WI.seq ?_
 refine WI.regB (ptT_ok noTabs_ok read_enters hread) [4,5] ?_
 refine oS ?_
 refine oC ?_
 refine oS ?_
 iterate 2 refine oG ?_
 iterate 2 refine oS ?_
 refine oN ?_
 refine thenQ_normal ?_
 refine WI.seq ?_
 refine WI.seq ?_
 refine WI.regB tabDnH_ok [4,5,16] ?_
 refine oS ?_
 refine oG ?_
 refine oN ?_
 refine thenQ_normal ?_
 refine WI.cond (b:=_) rfl rfl (fun h0=> ?_) (fun h0=> ?_)
 ·exfalso
  simp at h0
 ·try simp only[zB]at h0
  refine WI.skip ?_
  refine thenQ_normal ?_
  refine WI.seq ?_
  refine WI.seq ?_
  have uu:=ξn uu (RF_len d)
  refine WI.regB tabDnH_ok [4,18,19,20] ?_
  refine oS ?_
  refine oG ?_
  refine oS ?_
  refine oN ?_
  refine thenQ_normal ?_
  refine WI.block ?_
  refine WI.loop (fun φ os=> ∃(j:Nat) (M:Dn),φ= [(4,.ref 0 d.length 0 d.length),(18,.ref 0 d.length 0 d.length),(19,.x (.int .i64 d.length)),(20,.x (.int .i64 j))]∧os=obD M∧j≤d.length∧M=midD d j∧(d.take j).all fullR=true) (down d.length 20) ?_ (fun φ os hI=> ?_)
  ·exact⟨0,d,rfl,rfl,by omega,(midD_zero d).symm,rfl⟩
  ·obtain⟨j,M,rfl,rfl,hj,hM,hall⟩:=hI
   have hMl:M.length=d.length:=by rw[hM,midD_len]
   have hRl:=RF_len M
   have hFl:=FM_len M
   rw[hMl]at hRl hFl
   refine WI.seq ?_
   refine WI.regB tabDnH_ok [4,18,19,20,21] ?_
   refine oG ?_
   refine oN ?_
   refine thenQ_normal ?_
   refine WI.seq ?_
   refine WI.cond (b:=_) rfl rfl (fun h1=> ?_) (fun h1=> ?_)
   ·try simp only[zB]at h1
    refine WI.skip ?_
    refine thenQ_normal ?_
    refine WI.seq ?_
    refine WI.block ?_
    refine WI.seq ?_
    have hj4:j<d.length:=by omega
    have hMj:M.getD j []=d.getD j []:=by rw[hM];exact midD_at d j hj4
    have hrf:=RF_get M j (by omega)
    have hfm:=FM_get' M j (by omega)
    rw[hMj]at hrf hfm
    have hdj:d[j]=d.getD j []:=by simp[hj4]
    have hmr:mayB (d.getD j [])=true:=by rw[←hdj];exact hmay _ (List.getElem_mem hj4)
    have hM2:midD d (j+1)=M.set j (nrmR (d.getD j [])):=by rw[hM];exact(midD_set d j hj4).symm
    have hM0:M=M.set j (midR (d.getD j []) 0):=by rw[midR_zero,←hMj];exact(set_same' M j).symm
    have hall3:(d.take (j+1)).all fullR=((d.take j).all fullR&&fullR (d.getD j [])):=by rw[all_snoc _ d j hj4,hdj]
    have hnf:fullR (d.getD j [])=false→d.all fullR=false:=fun h=>all_take_false fullR d j hj4 (by rw[hdj];exact h)
    generalize hr:d.getD j []=r at hMj hrf hfm hmr hM2 hM0 hall3 hnf
    obtain⟨hr8,hr1,hpb⟩:=mayB_bnd hmr
    have uu:=ξn uu (ξn hrf (ξn hfm hRl))
    refine WI.regB tabDnH_ok [4,7,18,19,20] ?_
    iterate 2 refine oG ?_
    refine oS ?_
    refine oN ?_
    refine thenQ_normal ?_
    refine WI.seq ?_
    refine WI.seq ?_
    refine WI.regB tabDnH_ok [4,7,18,19,20,24,25,26] ?_
    refine oS ?_
    refine oG ?_
    refine oS ?_
    refine oN ?_
    refine thenQ_normal ?_
    refine WI.block ?_
    refine WI.orderA [4,7,18,19,20,24,25,26] ?_
    have hFs: ∀x:List Av,(FM (M.set j x)).length=d.length:=fun x=>by rw[FM_len,List.length_set,hMl]
    have hFb: ∀(x:List Av) (y:Ob),(FM (M.set j x)++ [y])[d.length]? =some y:=fun x y=>by rw[List.getElem?_append_right (by rw[hFs];exact Nat.le_refl _),hFs,Nat.sub_self];rfl
    have hFc: ∀(x:List Av) (y z:Ob),(FM (M.set j x)++ [y]).set d.length z=FM (M.set j x)++ [z]:=fun x y z=>by rw[List.set_append_right _ _ (by rw[hFs];exact Nat.le_refl _),hFs,Nat.sub_self];rfl
    have hFg: ∀(x:List Av) (Y:List Ob),(FM (M.set j x)++Y)[j]? =some (.rows false 161 2 (rows rAva x)):=fun x Y=>by rw[FM_get _ _ j (by rw[List.length_set];omega),show(M.set j x).getD j []=x by simp[hMl,hj4]]
    have hFg': ∀(x:List Av),(FM (M.set j x))[j]? =some (.rows false 161 2 (rows rAva x)):=fun x=>by have:=hFg x [];rwa [List.append_nil]at this
    have hFt: ∀(x z:List Av) (Y:List Ob),(FM (M.set j x)++Y).set j (.rows false 161 2 (rows rAva z))=FM (M.set j z)++Y:=fun x z Y=>by rw[FM_set _ _ j (by rw[List.length_set];omega),List.set_set]
    have hBx: ∀(x y:List Av) (b:Ob),boxes0B (FM (M.set j x)++ [b]) (FM (M.set j y)++ [b])=true:=fun x y b=>boxes_fam _ _ b _ _ (by simp)
    have hIn: ∀x:List Av,x.length=r.length→(Ob.drw 159 1 (RF M)::FM (M.set j x)).all (Ob.inP (fun i=>decide (i<(Ob.drw 159 1 (RF M)::FM (M.set j x)).length)))=true:=fun x hx=>by rw[←RF_set M j x (by rw[hMj];exact hx)];exact obD_inP _
    have uu:=ξn uu (ξn hFs (ξn hFb (ξn hFc (ξn hFg (ξn hFg' (ξn hFt hBx))))))
    refine WI.loop (fun φ os=> ∃(k:Nat),φ= [(4,.ref 0 d.length 0 d.length),(7,.ref (j+1) r.length 0 r.length),(18,.ref 0 d.length 0 d.length),(19,.x (.int .i64 d.length)),(20,.x (.int .i64 j)),(24,.ref (j+1) r.length 0 r.length),(25,.x (.int .i64 r.length)),(26,.x (.int .i64 k))]∧os= .drw 159 1 (RF M)::FM (M.set j (midR r k))∧k≤r.length∧(r.take k).all (fun p=> !(fld p.2== []))=true) (down r.length 26) ?_ (fun φ os hI=> ?_)
    ·exact⟨0,rfl,by rw[←hM0],by omega,rfl⟩
    ·obtain⟨k,rfl,rfl,hk,hkall⟩:=hI
     refine WI.seq ?_
     refine WI.regB tabDnH_ok [4,7,18,19,20,24,25,26,27] ?_
     refine oG ?_
     refine oN ?_
     refine thenQ_normal ?_
     refine WI.seq ?_
     refine WI.cond (b:=_) rfl rfl (fun h2=> ?_) (fun h2=> ?_)
     ·try simp only[zB]at h2
      refine WI.skip ?_
      refine thenQ_normal ?_
      refine WI.seq ?_
      refine WI.block ?_
      refine WI.seq ?_
      have hk4:k<r.length:=by omega
      have hka:=midR_at r k hk4
      have hka2:=midR_at' r k hk4
      have hks:=midR_set r k hk4
      have hml:=midR_len r k
      have hml2:=midR_len r (k+1)
      have hpk:(r.getD k ([],[])).1.length≤64∧(r.getD k ([],[])).2.length≤256:=by rw[show r.getD k ([],[])=r[k] by simp[hk4]];exact hpb _ (List.getElem_mem hk4)
      have hka3:(r.take (k+1)).all (fun p=> !(fld p.2== []))=((r.take k).all (fun p=> !(fld p.2== []))&& !(fld (r.getD k ([],[])).2== [])):=by rw[all_snoc _ r k hk4,show r.getD k ([],[])=r[k] by simp[hk4]]
      have hnk:fld (r.getD k ([],[])).2= []→fullR r=false:=fun h=>all_take_false _ r k hk4 (by rw[show r[k]=r.getD k ([],[]) by simp[hk4],h];rfl)
      generalize r.getD k ([],[])=p at hka hka2 hks hpk hka3 hnk
      have hs1:decide (p.1.length≤1000000)=true:=ξt (by omega)
      have hs2:decide (p.2.length≤1000000)=true:=ξt (by omega)
      have uu:=ξn uu (ξn hka (ξn hml (ξn hs1 (ξn hs2 (ξn hka2 (ξn hml2 hks))))))
      refine WI.regB tabDnH_ok [4,7,8,9,18,19,20,24,25,26] ?_
      refine oS ?_
      iterate 3 refine oG ?_
      refine oS ?_
      refine oG ?_
      refine oN ?_
      refine thenQ_normal ?_
      refine WI.seq ?_
      refine WI.post ?_
      refine WI.dregX tabDnH_ok [] [4,7,8,18,19,20,24,25,26] ?_
      iterate 3 refine xFS ?_
      refine xQG ?_
      refine xQC ?_
      refine xFS ?_
      refine xQG ?_
      refine xAC ?_
      refine xFG ?_
      iterate 2 refine xAG ?_
      refine xP ?_
      refine pDropT (.drw 159 1 (RF M)::FM (M.set j (midR r (k+1)))) _ rfl (Nat.zero_le _) (hIn _ hml2) (by simp only[List.all_cons,List.all_nil,D.inP,ξC,hFs];simp;omega) ?_
      refine pEnd ?_
      refine thenQ_normal ?_
      refine WI.seq ?_
      refine WI.regB tabDnH_ok [4,7,18,19,20,24,25,26,46] ?_
      iterate 2 refine oS ?_
      refine oG ?_
      refine oS ?_
      iterate 2 refine oG ?_
      refine oN ?_
      refine thenQ_normal ?_
      refine WI.cond (b:=_) rfl rfl (fun h3=> ?_) (fun h3=> ?_)
      ·try simp only[zB]at h3
       have hfe:fld p.2= []:=by simpa using h3
       rw[if_neg (by rw[hnf (hnk hfe)];decide)]at hu
       cases hu
       refine WI.seq ?_
       refine WI.regB tabDnH_ok [2,3] ?_
       iterate 2 refine oS ?_
       refine oN ?_
       refine thenQ_normal ?_
       refine WI.ret ?_
       refine blockQ_ret ?_
       refine thenQ_ret ?_
       refine thenQ_ret ?_
       refine blockQ_ret ?_
       refine thenQ_ret ?_
       refine blockQ_ret ?_
       refine thenQ_ret ?_
       refine thenQ_ret ?_
       refine blockQ_ret ?_
       refine thenQ_ret ?_
       first|refine lfR ?_|refine lfR2 ?_|refine lfRX ?_
       rfl
      ·try simp only[zB]at h3
       have hkall2:(r.take (k+1)).all (fun p=> !(fld p.2== []))=true:=by rw[hka3,hkall];simpa using h3
       refine WI.skip ?_
       refine blockQ_normal ?_
       refine thenQ_normal ?_
       refine WI.orderA [4,7,18,19,20,24,25,26] ?_
       refine WI.regB tabDnH_ok [4,7,18,19,20,24,25,26] ?_
       refine oG ?_
       refine oS ?_
       refine oN ?_
       refine thenQ_normal ?_
       exact⟨⟨k+1,rfl,rfl,by omega,hkall2⟩,by simp[down,Ab.get,D.val,intOf?];omega⟩
     ·try simp only[zB]at h2
      refine WI.exit ?_
      refine thenQ_exit ?_
      refine thenQ_exit ?_
      refine blockQ_hit ?_
      refine thenQ_normal ?_
      obtain rfl:k=r.length:=by omega
      rw[List.take_length]at hkall
      rw[midR_end]
      have hrn:(r.map nrmP).length=r.length:=List.length_map ..
      have hsc:=sortF_c 161 (r.map nrmP) (nrm_nodup hmr) (by intro hh;rw[hh]at hrn;simp at hrn;omega) (by omega)
      rw[hrn]at hsc
      have hsr:=MCalls.row (args:= [.ref (j+1) r.length 0 r.length,.fn 142 []]) (OS:= .drw 159 1 (RF M)::FM (M.set j (r.map nrmP))) (j+1) (by rw[show renL (inv [j+1]) [D.ref (j+1) r.length 0 r.length,.fn 142 []]= [D.ref 0 r.length 0 r.length,.fn 142 []] by simp only[renL,D.ren,inv,if_true]];exact hsc) (by rw[List.getElem?_cons_succ];exact hFg' _) rfl (by simp[inL,D.inP,memB]) (fun f=>rfl)
      have hft2:=hFt (r.map nrmP) (srtA (r.map nrmP)) []
      rw[List.append_nil,List.append_nil]at hft2
      rw[List.set_cons_succ,hft2]at hsr
      have hM3:RF M=RF (midD d (j+1)):=by rw[hM2];exact(RF_set M j _ (by rw[nrmR_len,hMj])).symm
      have hM4:FM (M.set j (srtA (r.map nrmP)))=FM (midD d (j+1)):=by rw[hM2];rfl
      rw[hM4]at hsr
      rw[hM3]at hsr⊢
      have hall2:(d.take (j+1)).all fullR=true:=by rw[hall3,hall];exact hkall
      have uu:=ξn uu hrn
      refine WI.regB (ptT_ok noTabs_ok sortF_enters hsr) [4,18,19,20] ?_
      refine oS ?_
      refine oC ?_
      refine oN ?_
      refine blockQ_normal ?_
      refine thenQ_normal ?_
      refine WI.orderA [4,18,19,20] ?_
      refine WI.regB tabDnH_ok [4,18,19,20] ?_
      refine oG ?_
      refine oS ?_
      refine oN ?_
      refine thenQ_normal ?_
      exact⟨⟨j+1,midD d (j+1),rfl,rfl,by omega,rfl,hall2⟩,by simp[down,Ab.get,D.val,intOf?];omega⟩
   ·try simp only[zB]at h1
    refine WI.exit ?_
    refine thenQ_exit ?_
    refine thenQ_exit ?_
    refine blockQ_hit ?_
    refine thenQ_normal ?_
    refine WI.seq ?_
    obtain rfl:j=d.length:=by omega
    rw[List.take_length]at hall
    rw[if_pos hall]at hu
    rw[midD_end]at hM
    subst hM
    have hdl:(d.map nrmR).length=d.length:=List.length_map ..
    rw[←hdl]
    refine WI.orderA [4] ?_
    refine WI.freeze (List.range' 1 (d.map nrmR).length) ?_
    rw[fam_frz]
    refine WI.pickA [0] (φ':= [(4,.ref 0 (d.map nrmR).length 0 (d.map nrmR).length)]) ?_ (hok:=by rw[ξC,FZ_len];simp[nrmB,nodupB,memB]) (hp:=rfl) (ho:=fam_nrm (d.map nrmR))
    refine WI.toXA 0 ?_
    have hsn:smD (d.map nrmR):=by
     intro r hr p hp
     obtain⟨q,hq,rfl⟩:=List.mem_map.1 hr
     obtain⟨x,hx,rfl⟩:=List.mem_map.1 ((srtA_perm _).mem_iff.1 hp)
     have:=((mayB_bnd (hmay q hq)).2.2 x hx).1
     show(lowS x.1).length≤900000
     unfold lowS;rw[List.length_map];omega
    have hsnd:decide (smD (d.map nrmR))=true:=ξt hsn
    have htk:(d.map nrmR).take (d.map nrmR).length=d.map nrmR:=List.take_length
    have uu:=ξn uu (ξn hsnd (ξn (un_R (d.map nrmR)) htk))
    refine WI.regB tabDnH_ok [2,3] ?_
    refine oS ?_
    refine oC ?_
    iterate 2 refine oG ?_
    iterate 2 refine oS ?_
    refine oN ?_
    refine thenQ_normal ?_
    refine WI.ret ?_
    first|refine lfR ?_|refine lfR2 ?_|refine lfRX ?_
    rw[hu]
theorem readS_nil:readS []=([],0):=by unfold readS;simp
def tabDnI:Tabs:=addQ (addQ (noTabs) 131 readDG) 143 putDG
theorem tabDnI_ok:SsOk Tryz.prog tabDnI:=addQ_ok (addQ_ok (noTabs_ok) (G_enters G_ok (p:=i131) rfl) readDG_ok) (G_enters G_ok (p:=i143) rfl) putDG_ok
theorem tabDnI_q131 (a:List D):tabDnI.q 131 a=readDG a:=rfl
theorem tabDnI_q143 (a:List D):tabDnI.q 143 a=putDG a:=rfl
theorem tabDnI_r (f:FuncId) (a:List D) (o:List Ob):tabDnI.r f a o=none:=rfl
theorem tabDnI_k (f:FuncId) (a:List D) (o:List Ob):tabDnI.k f a o=none:=rfl
theorem normE_c (s:Tx) (h:(readS s).2≠0):PCalls Tryz.prog 106 [.x (.str s)] (.tup [.x (.str (normS s).1),.x (.int .i64 (normS s).2)]):=by
 rcases hu:normS s with⟨u,e⟩
 unfold normS at hu
 rw[if_pos h]at hu
 cases hu
 refine FCalls.pure (fcallsG (fz:=true) G_ok (p:=i106) rfl _ (ξ rfl) _ (fun C0 E0=> ?_)) rfl
 dsimp only[i106,qt,qi,qs,qb,qm,qa,qh,qj,qT,qF,qe,ql,qL,qf,q2,q3,q8,qz,qp,qP,qc,qk,qx,qy,qo,qr,qC,argsφ]
 have uu:=ξn @readDG.eq_1 (ξn @readDG.eq_2 (ξn @tabDnI_r (ξn @tabDnI_k (ξn @tabDnI_q131 (ξn @tabDnI_q143 (ξn @putDG.eq_1 (@putDG.eq_2)))))))
 have tT:=tabDnI_ok
 refine nz ?_
 refine rg tT [0] ?_
 refine rg tT [4,5] ?_
 refine rg tT [4,5,16] ?_
 refine cd (fun h0=> ?_) (fun h0=> ?_)
 ·refine rg tT [2,3] ?_
  refine lf ?_
  first|rfl|exact⟨rfl,rfl⟩|trivial
 ·exact absurd (by simpa using h0) h
theorem normN_c:PCalls Tryz.prog 106 [.x (.str [])] (.tup [.x (.str (normS []).1),.x (.int .i64 (normS []).2)]):=by
 have h1:readS []=([],0):=readS_nil
 have h2:normS []=putS []:=by unfold normS;rw[h1];simp
 have h3:decide (smD [])=true:=by decide
 have h4:unrows rRdn (rows rRdn [])=some []:=un_R []
 rw[h2]
 refine FCalls.pure (fcallsG (fz:=true) G_ok (p:=i106) rfl _ (ξ rfl) _ (fun C0 E0=> ?_)) rfl
 dsimp only[i106,qt,qi,qs,qb,qm,qa,qh,qj,qT,qF,qe,ql,qL,qf,q2,q3,q8,qz,qp,qP,qc,qk,qx,qy,qo,qr,qC,argsφ]
 have uu:=ξn @readDG.eq_1 (ξn @readDG.eq_2 (ξn @putDG.eq_1 (ξn @putDG.eq_2 (ξn h1 (ξn h3 (ξn h4 (ξn @tabDnI_r (ξn @tabDnI_k (ξn @tabDnI_q131 (@tabDnI_q143))))))))))
 have tT:=tabDnI_ok
 refine nz ?_
 refine rg tT [0] ?_
 refine rg tT [4,5] ?_
 refine rg tT [4,5,16] ?_
 refine ce (fun h0=> ?_) (fun h0=> ?_)
 ·simp at h0
 ·refine rg tT [4,18,19,20] ?_
  refine WI.loop (fun φ os=>φ= [(4,.x (.sl (rows rRdn []))),(18,.x (.sl (rows rRdn []))),(19,.x (.int .i64 0)),(20,.x (.int .i64 0))]∧os= []) (down 0 20) ?_ (fun φ os hI=> ?_)
  ·exact⟨rfl,rfl⟩
  ·obtain⟨rfl,rfl⟩:=hI
   refine nz ?_
   refine rg tT [4,18,19,20,21] ?_
   refine ce (fun h1=> ?_) (fun h1=> ?_)
   ·simp at h1
   ·refine rg tT [2,3] ?_
    refine lf ?_
    first|rfl|exact⟨rfl,rfl⟩|trivial
theorem normD_c (s:Tx):PCalls Tryz.prog 106 [.x (.str s)] (.tup [.x (.str (normS s).1),.x (.int .i64 (normS s).2)]):=by
 by_cases h:(readS s).2=0
 ·by_cases hs:s= []
  ·subst hs;exact normN_c
  ·exact normF_c s (readS s).1 (by rw[←h]) hs
 ·exact normE_c s h
theorem lowC_32 (c:UInt8):lowC c=32↔c=32:=by
 by_cases h:65≤c.toNat∧c.toNat≤90
 ·have h1:=lowC_up h
  constructor
  ·intro e;rw[e]at h1;simp at h1;omega
  ·rintro rfl;simp at h
 ·rw[lowC_no h]
theorem spl_low: ∀s,spl 32 (lowS s)=(spl 32 s).map lowS
 | []=>rfl
 |b::l=>by
  have ih:=spl_low l
  show spl 32 (lowC b::lowS l)=_
  unfold spl
  by_cases h:b=32
  ·rw[if_pos ((lowC_32 b).2 h),if_pos h,ih];rfl
  ·rw[if_neg (fun k=>h ((lowC_32 b).1 k)),if_neg h,ih]
   cases spl 32 l with
   |nil=>rfl
   |cons x r=>rfl
theorem words_low (s:List UInt8):words (lowS s)=(words s).map lowS:=by
 unfold words
 rw[spl_low,List.filter_map]
 congr 1
 refine List.filter_congr fun x _=> ?_
 simp[lowS]
theorem jn_low: ∀l:List (List UInt8),jn (l.map lowS)=lowS (jn l)
 | []=>rfl
 | [x]=>rfl
 |x::y::r=>by
  have:=jn_low (y::r)
  show lowS x++32::jn ((y::r).map lowS)=lowS (x++32::jn (y::r))
  rw[this];unfold lowS
  rw[List.map_append,List.map_cons];rfl
theorem blk_low (s:Tx):blk (lowS s)=lowS (blk s):=by
 show jn (words (lowS s))=lowS (jn (words s))
 rw[words_low,jn_low]
def normV (k:Int) (s:Tx):Tx×Bool:=
 if s.length>4096 then([],false)else if k=1 then(fld s,!(fld s== []))else if k=2 then(blk s,!(blk s== []))else if k=3 then int05 s
 else if k=4 then(s,true)else if k=5 then((normS s).1,(normS s).2==0)else([],false)
def normDXG:List D→Option (Bool×D)
 | [.x (.str s)]=>some (true,.tup [.x (.str (normS s).1),.x (.int .i64 (normS s).2)])
 |_=>none
theorem normDXG_ok: ∀args r,normDXG args=some (true,r)→PCalls Tryz.prog 106 args r:=by
 intro args r h
 unfold normDXG at h
 split at h
 ·rename_i s
  simp only[ξI,ξP,ξa,ξe,true_and]at h
  obtain rfl:=h
  exact(normD_c s)
 ·cases h
def blkXG:List D→Option (Bool×D)
 | [.x (.str s)]=>some (decide (s.length≤1000000),.x (.str (blk s)))
 |_=>none
theorem blkXG_ok: ∀args r,blkXG args=some (true,r)→PCalls Tryz.prog 104 args r:=by
 intro args r h
 unfold blkXG at h
 split at h
 ·rename_i s
  simp only[ξI,ξP,ξa,ξe,true_and]at h
  obtain⟨h1,rfl⟩:=h
  exact(blanks_c s h1)
 ·cases h
def intXG:List D→Option (Bool×D)
 | [.x (.str s)]=>some (true,.tup [.x (.str (int05 s).1),.x (.bool (int05 s).2)])
 |_=>none
theorem intXG_ok: ∀args r,intXG args=some (true,r)→PCalls Tryz.prog 105 args r:=by
 intro args r h
 unfold intXG at h
 split at h
 ·rename_i s
  simp only[ξI,ξP,ξa,ξe,true_and]at h
  obtain rfl:=h
  exact(int_c s)
 ·cases h
def tabRu1:Tabs:=addQ (addQ (addQ (addQ (noTabs) 37 lowerXG) 104 blkXG) 105 intXG) 106 normDXG
theorem tabRu1_ok:SsOk Tryz.prog tabRu1:=addQ_ok (addQ_ok (addQ_ok (addQ_ok (noTabs_ok) (G_enters G_ok (p:=i37) rfl) lowerXG_ok) (G_enters G_ok (p:=i104) rfl) blkXG_ok) (G_enters G_ok (p:=i105) rfl) intXG_ok) (G_enters G_ok (p:=i106) rfl) normDXG_ok
theorem tabRu1_q37 (a:List D):tabRu1.q 37 a=lowerXG a:=rfl
theorem tabRu1_q104 (a:List D):tabRu1.q 104 a=blkXG a:=rfl
theorem tabRu1_q105 (a:List D):tabRu1.q 105 a=intXG a:=rfl
theorem tabRu1_q106 (a:List D):tabRu1.q 106 a=normDXG a:=rfl
theorem tabRu1_r (f:FuncId) (a:List D) (o:List Ob):tabRu1.r f a o=none:=rfl
theorem tabRu1_k (f:FuncId) (a:List D) (o:List Ob):tabRu1.k f a o=none:=rfl
theorem rnorm_c (k:Int) (s:Tx):PCalls Tryz.prog 65 [.x (.int .i64 k),.x (.str s)] (.tup [.x (.str (normV k s).1),.x (.bool (normV k s).2)]):=by
 rcases hu:normV k s with⟨u,b⟩
 unfold normV at hu
 have hbl:=blk_low s
 have hfl:fld s=lowS (blk s):=rfl
 have hll:(lowS s).length=s.length:=by unfold lowS;rw[List.length_map]
 refine FCalls.pure (fcallsG (fz:=true) G_ok (p:=i65) rfl _ (ξ rfl) _ (fun C0 E0=> ?_)) rfl
 dsimp only[i65,qt,qi,qs,qb,qm,qa,qh,qj,qT,qF,qe,ql,qL,qf,q2,q3,q8,qz,qp,qP,qc,qk,qx,qy,qo,qr,qC,argsφ]
 have uu:=ξn @lowerXG.eq_1 (ξn @lowerXG.eq_2 (ξn @blkXG.eq_1 (ξn @blkXG.eq_2 (ξn @intXG.eq_1 (ξn @intXG.eq_2 (ξn @normDXG.eq_1 (ξn @normDXG.eq_2 (ξn hbl (ξn hll (ξn @tabRu1_r (ξn @tabRu1_k (ξn @tabRu1_q104 (ξn @tabRu1_q105 (ξn @tabRu1_q106 (@tabRu1_q37)))))))))))))))
 have tT:=tabRu1_ok
 refine nz ?_
 refine WI.regB tT [0,1] ?_
 iterate 2 refine oS ?_
 refine oN ?_
 refine nz ?_
 refine WI.regB tT [0,1,11] ?_
 refine oS ?_
 iterate 2 refine oG (hok:=by first|exact se|(exact ξt (by omega))|(clear uu;grind)|exact sd) ?_
 refine oN ?_
 refine nz ?_
 refine cd (fun h0=> ?_) (fun h0=> ?_)
 ·refine WI.regB tT [4,5] ?_
  iterate 2 refine oS ?_
  refine oN ?_
  refine nz ?_
  refine lf ?_
  (clear uu;grind)
 ·refine WI.regB tT [0,1,6] ?_
  iterate 2 refine oS ?_
  refine oN ?_
  refine nz ?_
  refine WI.regB tT [1,6,13] ?_
  refine oS ?_
  refine oN ?_
  refine nz ?_
  refine WI.regB tT [1,6,13,14] ?_
  refine oG (hok:=by first|exact se|(exact ξt (by omega))|(clear uu;grind)|exact sd) ?_
  refine oS ?_
  refine oN ?_
  refine nz ?_
  refine cd (fun h1=> ?_) (fun h1=> ?_)
  ·refine WI.regB tT [6] ?_
   refine oS ?_
   refine oC (hok:=by first|exact se|(exact ξt (by omega))|(clear uu;grind)|exact sd) ?_
   refine oS ?_
   refine oN ?_
   refine nz ?_
   refine WI.regB tT [6] ?_
   refine oS ?_
   refine oC (hok:=by first|exact se|(exact ξt (by omega))|(clear uu;grind)|exact sd) ?_
   refine oS ?_
   refine oN ?_
   refine nz ?_
   refine WI.regB tT [4,5] ?_
   iterate 2 refine oS ?_
   refine oG (hok:=by first|exact se|(exact ξt (by omega))|(clear uu;grind)|exact sd) ?_
   iterate 2 refine oS ?_
   refine oN ?_
   refine nz ?_
   refine lf ?_
   (clear uu;grind)
  ·refine WI.regB tT [1,6,13,16] ?_
   refine oG (hok:=by first|exact se|(exact ξt (by omega))|(clear uu;grind)|exact sd) ?_
   refine oS ?_
   refine oN ?_
   refine nz ?_
   refine cd (fun h2=> ?_) (fun h2=> ?_)
   ·refine WI.regB tT [6] ?_
    refine oS ?_
    refine oC (hok:=by first|exact se|(exact ξt (by omega))|(clear uu;grind)|exact sd) ?_
    refine oS ?_
    refine oN ?_
    refine nz ?_
    refine WI.regB tT [4,5] ?_
    iterate 2 refine oS ?_
    refine oG (hok:=by first|exact se|(exact ξt (by omega))|(clear uu;grind)|exact sd) ?_
    iterate 2 refine oS ?_
    refine oN ?_
    refine nz ?_
    refine lf ?_
    (clear uu;grind)
   ·refine WI.regB tT [1,13,18] ?_
    refine oG (hok:=by first|exact se|(exact ξt (by omega))|(clear uu;grind)|exact sd) ?_
    refine oS ?_
    refine oN ?_
    refine nz ?_
    refine cd (fun h3=> ?_) (fun h3=> ?_)
    ·refine WI.regB tT [4,5] ?_
     refine oS ?_
     refine oC (hok:=by first|exact se|(exact ξt (by omega))|(clear uu;grind)|exact sd) ?_
     iterate 2 refine oG ?_
     iterate 2 refine oS ?_
     refine oN ?_
     refine nz ?_
     refine lf ?_
     (clear uu;grind)
    ·refine WI.regB tT [1,13,20] ?_
     refine oG (hok:=by first|exact se|(exact ξt (by omega))|(clear uu;grind)|exact sd) ?_
     refine oS ?_
     refine oN ?_
     refine nz ?_
     refine cd (fun h4=> ?_) (fun h4=> ?_)
     ·refine WI.regB tT [4,5] ?_
      iterate 3 refine oS ?_
      refine oN ?_
      refine nz ?_
      refine lf ?_
      (clear uu;grind)
     ·refine WI.regB tT [1,22] ?_
      refine oG (hok:=by first|exact se|(exact ξt (by omega))|(clear uu;grind)|exact sd) ?_
      refine oS ?_
      refine oN ?_
      refine nz ?_
      refine cd (fun h5=> ?_) (fun h5=> ?_)
      ·refine WI.regB tT [7,8] ?_
       refine oS ?_
       refine oC (hok:=by first|exact se|(exact ξt (by omega))|(clear uu;grind)|exact sd) ?_
       refine oS ?_
       iterate 2 refine oG ?_
       iterate 2 refine oS ?_
       refine oN ?_
       refine nz ?_
       refine WI.regB tT [4,5] ?_
       iterate 2 refine oS ?_
       refine oG (hok:=by first|exact se|(exact ξt (by omega))|(clear uu;grind)|exact sd) ?_
       iterate 2 refine oS ?_
       refine oN ?_
       refine nz ?_
       refine lf ?_
       (clear uu;grind)
      ·refine WI.regB tT [4,5] ?_
       iterate 2 refine oS ?_
       refine oN ?_
       refine nz ?_
       refine lf ?_
       (clear uu;grind)
def rnormG:List D→Option (Bool×D)
 | [.x (.int .i64 k),.x (.str s)]=>some (true,.tup [.x (.str (normV k s).1),.x (.bool (normV k s).2)])
 |_=>none
theorem rnormG_ok: ∀args r,rnormG args=some (true,r)→PCalls Tryz.prog 65 args r:=by
 intro args r h
 unfold rnormG at h
 split at h
 ·rename_i k s
  simp only[ξI,ξP,ξa,ξe,true_and]at h
  obtain rfl:=h
  exact(rnorm_c k s)
 ·cases h
end Go.Proofs.YtpjfdjcejamebaaGreatDoor
end
