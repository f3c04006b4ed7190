import Derived.Test.YtpjfdjcejamebaaGreatDoorLA5
import Derived.Test.YtpjfdjcejamebaaGreatDoorIc
import Derived.Test.YtpjfdjcejamebaaGreatDoorSh
import Derived.Handy
import Derived.Lib.SlBytesConst
import Derived.Shelf.Strings.Cut
set_option linter.unusedSimpArgs false
set_option linter.unusedVariables false
section
namespace Go.Proofs.YtpjfdjcejamebaaGreatDoor
open Go.RowKit Go.Bo Go.Ab
def lowC (c:UInt8):UInt8:=if 65≤c.toNat∧c.toNat≤90 then UInt8.ofNat (c.toNat+32)else c
theorem lowC_up {c:UInt8} (h:65≤c.toNat∧c.toNat≤90):((lowC c).toNat:Int)=(c.toNat:Int)-65+97:=by
 unfold lowC;rw[if_pos h];simp;omega
def lowS (s:List UInt8):List UInt8:=s.map lowC
def lowL (s:List UInt8) (i:Nat):List UInt8:=(s.take i).map lowC++s.drop i
theorem lowL_len (s:List UInt8) (i:Nat):(lowL s i).length=s.length:=by simp[lowL];omega
theorem lowL_zero (s:List UInt8):lowL s 0=s:=by simp[lowL]
theorem lowL_end (s:List UInt8) (i:Nat) (h:s.length≤i):lowL s i=lowS s:=by simp[lowL,lowS,ξT h,List.drop_of_length_le h]
theorem lowL_get (s:List UInt8) (i:Nat) (h:i<s.length):(lowL s i)[i]'(by rw[lowL_len];exact h)=s[i]:=by
 simp[lowL,List.getElem_append,Nat.min_eq_left (Nat.le_of_lt h)]
theorem lowL_set (s:List UInt8) (i:Nat) (h:i<s.length) (c:UInt8) (hc:c=lowC s[i]):(lowL s i).set i c=lowL s (i+1):=by
 subst hc
 unfold lowL
 rw[List.take_succ_eq_append_getElem h,List.drop_eq_getElem_cons h,List.set_append_right _ _ (by simp;omega)]
 have hm:i-((s.take i).map lowC).length=0:=by simp;omega
 rw[hm,List.set_cons_zero,List.map_append,List.append_assoc];rfl
theorem lowL_row (s:List UInt8) (i:Nat) (h:i<s.length):((lowL s i).map byteRow)[i]? =some [X.int .u8 s[i].toNat]:=by
 have h2:i<(lowL s i).length:=by rw[lowL_len];exact h
 rw[ξp,ξg h2,lowL_get s i h];rfl
theorem lowL_rset (s:List UInt8) (i:Nat) (h:i<s.length) (hc:65≤s[i].toNat∧s[i].toNat≤90):((lowL s i).map byteRow).set i [X.int .u8 (IntKind.u8.wrap (IntKind.u8.wrap ((s[i].toNat:Int)-65)+97))]=(lowL s (i+1)).map byteRow:=by
 have e1:IntKind.u8.wrap ((s[i].toNat:Int)-65)=(s[i].toNat:Int)-65:=IntWalk.u8_in _ (by omega)
 have e2:IntKind.u8.wrap ((s[i].toNat:Int)-65+97)=((lowC s[i]).toNat:Int):=by rw[IntWalk.u8_in _ (by omega),lowC_up hc]
 rw[e1,e2,←lowL_set s i h _ rfl,List.map_set];rfl
theorem lowL_skip (s:List UInt8) (i:Nat) (h:i<s.length) (hc:lowC s[i]=s[i]):lowL s i=lowL s (i+1):=by
 unfold lowL
 rw[List.take_succ_eq_append_getElem h,List.map_append,List.append_assoc,List.drop_eq_getElem_cons h]
 simp[hc]
theorem lowC_no {c:UInt8} (h: ¬(65≤c.toNat∧c.toNat≤90)):lowC c=c:=if_neg h
theorem lower_c (s:List UInt8) (hl:s.length≤140737488355328):PCalls Tryz.prog 37 [.x (.str s)] (.x (.str (lowS s))):=by
 refine FCalls.pure (fcallsG (fz:=true) G_ok (p:=i37) rfl _ (ξ rfl) _ (fun C0 E0=> ?_)) rfl
 dsimp only[i37,qt,qi,qs,qb,qm,qa,qh,qj,qT,qF,qe,ql,qL,qf,q2,q3,q8,qz,qp,qP,qc,qk,qx,qy,qo,qr,qC,argsφ]
 have uu:=ξn @lowL_len (ξn @bytes_all (@bytes_row))
 have tT:=(noTabs_ok:SsOk Tryz.prog noTabs)
 refine nz ?_
 refine rg tT [0] ?_
 refine rg tT [3] ?_
 refine rg tT [3,8,9,10] ?_
 refine WI.loop (fun φ os=> ∃(i:Nat),φ= [(3,.ref 0 s.length 0 s.length),(8,.ref 0 s.length 0 s.length),(9,.x (.int .i64 s.length)),(10,.x (.int .i64 i))]∧os= [.rows true 5 1 ((lowL s i).map byteRow)]∧i≤s.length) (down s.length 10) ?_ (fun φ os hI=> ?_)
 ·exact⟨0,rfl,by rw[lowL_zero],by omega⟩
 ·obtain⟨i,rfl,rfl,hi⟩:=hI
  refine nz ?_
  refine rg tT [3,8,9,10,11] ?_
  refine cd (fun h0=> ?_) (fun h0=> ?_)
  ·have hi4:i<s.length:=by omega
   have uu:=ξn uu (lowL_row s i hi4)
   have hb8:s[i].toNat<256:=UInt8.toNat_lt _
   refine rg tT [3,4,5,8,9,10] ?_
   refine rg tT [3,4,5,8,9,10,20] ?_
   refine cd (fun h1=> ?_) (fun h1=> ?_)
   ·have hcs:65≤s[i].toNat∧s[i].toNat≤90:=by omega
    have uu:=ξn uu (lowL_rset s i hi4 hcs)
    refine rg tT [3,8,9,10] ?_
    refine rg tT [3,8,9,10] ?_
    exact⟨⟨i+1,by first|rfl|simp,by first|rfl|rw[←hset],by omega⟩,by simp[down,Ab.get,D.val,intOf?];omega⟩
   ·have hcs: ¬(65≤s[i].toNat∧s[i].toNat≤90):=by omega
    have hset:=lowL_skip s i hi4 (lowC_no hcs)
    refine rg tT [3,8,9,10] ?_
    exact⟨⟨i+1,by first|rfl|simp,by first|rfl|rw[←hset],by omega⟩,by simp[down,Ab.get,D.val,intOf?];omega⟩
  ·have e8:((lowL s i).map byteRow).take s.length=(lowS s).map byteRow:=by rw[ξT (by simp[lowL_len]),lowL_end s i (by omega)]
   have uu:=ξn uu e8
   refine rg tT [2] ?_
   refine lf ?_
   first|rfl|exact⟨rfl,rfl⟩|trivial
def lowerG:List D→Option (Bool×D)
 | [.x (.str s)]=>some (decide (s.length≤1000000),.x (.str (lowS s)))
 |_=>none
theorem lowerG_ok: ∀args r,lowerG args=some (true,r)→PCalls Tryz.prog 37 args r:=by
 intro args r h
 unfold lowerG at h
 split at h
 ·rename_i s
  simp only[ξI,ξP,ξa,ξe,true_and]at h
  obtain⟨h1,rfl⟩:=h
  exact(lower_c s (by omega))
 ·cases h
theorem lowS_len (s:List UInt8):(lowS s).length=s.length:=by simp[lowS]
theorem bytes_snoc (l:List UInt8) (c:UInt8):(l++ [c]).map byteRow=l.map byteRow++ [[X.int .u8 c.toNat]]:=by rw[List.map_append];rfl
abbrev Tx:=List UInt8
def inB (s:Tx) (n:Nat):Bool:=s.any fun x=>x.toNat==n
theorem byte_row (s:Tx) (i:Nat) (h:i<s.length):(s.map byteRow)[i]? =some [X.int .u8 (s.getD i 0).toNat]:=by
 simp[h,byteRow]
theorem dnIn_c (s:Tx) (n:Nat) (hl:s.length≤1000000):PCalls Tryz.prog 202 [.x (.str s),.x (.int .u8 n)] (.x (.bool (inB s n))):=by
 refine FCalls.pure (fcallsG (fz:=true) G_ok (p:=i202) rfl _ (ξ rfl) _ (fun C0 E0=> ?_)) rfl
 dsimp only[i202,qt,qi,qs,qb,qm,qa,qh,qj,qT,qF,qe,ql,qL,qf,q2,q3,q8,qz,qp,qP,qc,qk,qx,qy,qo,qr,qC,argsφ]
 have uu:=ξn @bytes_all (@bytes_row)
 have tT:=(noTabs_ok:SsOk Tryz.prog noTabs)
 refine nz ?_
 refine rg tT [0,1] ?_
 refine rg tT [1,8,9,10] ?_
 refine WI.loop (fun φ os=> ∃(j:Nat),φ= [(1,.x (.int .u8 n)),(8,.ref 0 s.length 0 s.length),(9,.x (.int .i64 s.length)),(10,.x (.int .i64 j))]∧os= [.rows true 5 1 (s.map byteRow)]∧j≤s.length∧inB (s.take j) n=false) (down s.length 10) ?_ (fun φ os hI=> ?_)
 ·exact⟨0,rfl,rfl,by omega,rfl⟩
 ·obtain⟨j,rfl,rfl,hj,hno⟩:=hI
  refine nz ?_
  refine rg tT [1,8,9,10,11] ?_
  refine cd (fun h0=> ?_) (fun h0=> ?_)
  ·have hj4:j<s.length:=by omega
   have hst:inB (s.take (j+1)) n=(inB (s.take j) n||((s.getD j 0).toNat==n)):=by unfold inB;rw[List.take_succ_eq_append_getElem hj4,List.any_append];simp[hj4]
   have uu:=ξn uu (byte_row s j hj4)
   refine rg tT [1,6,8,9,10] ?_
   refine rg tT [1,8,9,10,16] ?_
   refine cd (fun h1=> ?_) (fun h1=> ?_)
   ·refine rg tT [4] ?_
    refine lf ?_
    have hz:((s.getD j 0).toNat:Int)=n:=by first|exact h1|simpa only[beq_iff_eq]using h1
    have hy:(s.getD j 0).toNat=n:=by omega
    rw[show inB s n=true from List.any_eq_true.2 ⟨s[j],List.getElem_mem hj4,by rw[show s[j]=s.getD j 0 by simp[hj4]];simpa using hy⟩]
   ·refine rg tT [1,8,9,10] ?_
    exact⟨⟨j+1,rfl,rfl,by omega,by rw[hst,hno];exact beq_false_of_ne (fun e=>h1 (by rw[e]))⟩,by simp[down,Ab.get,D.val,intOf?];omega⟩
  ·refine rg tT [4] ?_
   refine lf ?_
   rw[ξT (by omega)]at hno;rw[hno]
def dnInG:List D→Option (Bool×D)
 | [.x (.str s),.x (.int .u8 n)]=>some (decide (s.length≤1000000)&&(decide (0≤n)),.x (.bool (inB s n.toNat)))
 |_=>none
theorem dnInG_ok: ∀args r,dnInG args=some (true,r)→PCalls Tryz.prog 202 args r:=by
 intro args r h
 unfold dnInG at h
 split at h
 ·rename_i s n
  simp only[ξI,ξP,ξa,ξe,true_and]at h
  obtain⟨⟨h1,h2⟩,rfl⟩:=h
  exact(by obtain⟨m,rfl⟩: ∃m:Nat,n=m:=⟨n.toNat,by omega⟩;rw[Int.toNat_natCast];exact dnIn_c s m h1)
 ·cases h
def hxD (n:Nat):Nat:=if 48≤n∧n≤57 then n-48 else if 97≤n∧n≤102 then n-97+10 else if 65≤n∧n≤70 then n-65+10 else 16
def hexD (n:Nat):Nat×Bool:=if hxD n<16 then(hxD n,true)else(0,false)
def digL:List UInt8:= [48,49,50,51,52,53,54,55,56,57,97,98,99,100,101,102]
def hitD (d c:Nat):Bool:=d==c||(decide (65≤c∧c≤70)&&d==c+32)
theorem hexD_at: ∀(k:Fin 16) (c:Fin 256),hitD (digL.getD k.val 0).toNat c.val=true→hexD c.val=(k.val,true):=by decide+kernel
theorem hexD_noN: ∀c:Fin 256,(∀k:Fin 16,hitD (digL.getD k.val 0).toNat c.val=false)→hexD c.val=(0,false):=by decide+kernel
theorem hexD_no (c:Nat) (hc:c<256) (h: ∀k,k<16→hitD (digL.getD k 0).toNat c=false):hexD c=(0,false):=hexD_noN ⟨c,hc⟩ (fun k=>h k.val k.isLt)
def spcL:Tx:= [44,43,34,92,60,62,59,61]
def spc (n:Nat):Bool:=inB spcL n
def barB (n:Nat) (first:Bool):Bool:=decide (n<32)||decide (n=127)||(decide (n≠61)&&spc n)||(first&&decide (n=35))
def tabDn1:Tabs:=addQ (noTabs) 202 dnInG
theorem tabDn1_ok:SsOk Tryz.prog tabDn1:=addQ_ok (noTabs_ok) (G_enters G_ok (p:=i202) rfl) dnInG_ok
theorem tabDn1_q202 (a:List D):tabDn1.q 202 a=dnInG a:=rfl
theorem tabDn1_r (f:FuncId) (a:List D) (o:List Ob):tabDn1.r f a o=none:=rfl
theorem tabDn1_k (f:FuncId) (a:List D) (o:List Ob):tabDn1.k f a o=none:=rfl
theorem barred_c (n:Nat) (b:Bool):PCalls Tryz.prog 228 [.x (.int .u8 n),.x (.bool b)] (.x (.bool (barB n b))):=by
 have hq:inB [44,43,34,92,60,62,59,61] n=spc n:=rfl
 refine FCalls.pure (fcallsG (fz:=true) G_ok (p:=i228) rfl _ (ξ rfl) _ (fun C0 E0=> ?_)) rfl
 dsimp only[i228,qt,qi,qs,qb,qm,qa,qh,qj,qT,qF,qe,ql,qL,qf,q2,q3,q8,qz,qp,qP,qc,qk,qx,qy,qo,qr,qC,argsφ]
 have uu:=ξn @dnInG.eq_1 (ξn @dnInG.eq_2 (ξn hq (ξn @tabDn1_r (ξn @tabDn1_k (@tabDn1_q202)))))
 have tT:=tabDn1_ok
 refine nz ?_
 refine WI.regB tT [0,1] ?_
 refine oS ?_
 refine oN ?_
 refine nz ?_
 refine WI.regB tT [4] ?_
 refine oS ?_
 refine oG (hok:=by first|exact se|(clear uu;grind)|exact sd) ?_
 refine oS ?_
 iterate 3 refine oG (hok:=by first|exact se|(clear uu;grind)|exact sd) ?_
 refine oS ?_
 iterate 4 refine oG (hok:=by first|exact se|(clear uu;grind)|exact sd) ?_
 refine oC (hok:=by first|exact se|(clear uu;grind)|exact sd) ?_
 iterate 2 refine oG (hok:=by first|exact se|(clear uu;grind)|exact sd) ?_
 refine oS ?_
 iterate 6 refine oG (hok:=by first|exact se|(clear uu;grind)|exact sd) ?_
 refine oS ?_
 refine oN ?_
 refine nz ?_
 refine lf ?_
 clear uu;unfold barB;congr 2;grind
def barredG:List D→Option (Bool×D)
 | [.x (.int .u8 n),.x (.bool b)]=>some (decide (0≤n),.x (.bool (barB n.toNat b)))
 |_=>none
theorem barredG_ok: ∀args r,barredG args=some (true,r)→PCalls Tryz.prog 228 args r:=by
 intro args r h
 unfold barredG at h
 split at h
 ·rename_i n b
  simp only[ξI,ξP,ξa,ξe,true_and]at h
  obtain⟨h1,rfl⟩:=h
  exact(by obtain⟨m,rfl⟩: ∃m:Nat,n=m:=⟨n.toNat,by omega⟩;rw[Int.toNat_natCast];exact barred_c m b)
 ·cases h
def vIntD:Value→Int
 | .int _ n=>n
 |_=>0
def digC:Array Value:= #[.int .u8 48,.int .u8 49,.int .u8 50,.int .u8 51,.int .u8 52,.int .u8 53,.int .u8 54,.int .u8 55,.int .u8 56,.int .u8 57,.int .u8 97,.int .u8 98,.int .u8 99,.int .u8 100,.int .u8 101,.int .u8 102]
theorem wrapC (c:Nat) (h1:65≤c) (h2:c≤70):IntKind.u8.wrap (IntKind.u8.wrap ((c:Int)-65)+97)=((c+32:Nat):Int):=by
 rw[IntWalk.u8_in ((c:Int)-65) (by omega),IntWalk.u8_in _ (by omega)];omega
set_option maxHeartbeats 4000000 in
set_option maxRecDepth 100000 in
theorem dhalf_walk (c:Nat) (w:World) (hc:c<256):
  Calls Tryz.prog 238 #[.int .u8 c] w fun e w'=>e= .returned (.tuple #[.int .u8 (hexD c).1,.bool (hexD c).2])∧Below w.heap.size w w':=by
 have kc:=fun(w:World) (C:Array Value) (n c:Nat)=>Lib.run_convert_bytes_const (P:=Tryz.prog) w 114 5 C n c Tryz.underlying114 Tryz.underlying5
 go_enter Tryz.func238,Tryz.ntmps238
 go_wp2_with fail
 go_loopw [9] (fun i wr=> ∃(k:Nat),k≤16∧i= .int .i64 k∧wr=w.alloc (.cells digC 5 (16,17))∧ ∀m,m<k→hitD (digL.getD m 0).toNat c=false) (fun i _=>16-(vIntD i).toNat)
 case atStart=>exact⟨0,by omega,rfl,rfl,by intro m hm;omega⟩
 case round=>
  obtain⟨k,hk,rfl,rfl,hno⟩:=hrel
  have hcell: ∀m:Fin 16,(w.alloc (.cells digC 5 (16,17))).cell? ⟨w.heap.size,m.val,none⟩=some (.int .u8 (digL.getD m.val 0).toNat):=by
   intro m
   have hb:(w.alloc (.cells digC 5 (16,17))).heap[w.heap.size]? =some (.cells digC 5 (16,17)):=by
    show(w.heap.push _)[w.heap.size]? =_
    simp
   rw[Lib.cell_of_heap hb]
   revert m;intro m;rcases m with⟨m,hm⟩;(repeat(rcases m with _|m;rfl));omega
  by_cases hlt:k<16
  ·have hc1:=hcell ⟨k,hlt⟩
   have hat:=hexD_at ⟨k,hlt⟩ ⟨c,hc⟩
   simp only at hc1 hat
   cases hq:hitD (digL.getD k 0).toNat c with
   |true=>
    have hat:=hat hq
    have hk1:IntKind.u8.wrap (k:Int)=(k:Int):=IntWalk.u8_in _ (by omega)
    clear hno hcell
    unfold hitD at hq
    generalize(digL.getD k 0).toNat=d at hc1 hq
    by_cases h1:d=c
    ·subst h1
     go_wp2_with fail
     all_goals first|exact bodyPost_ret (v:= .tuple #[.int .u8 (k:Int),.bool true]) (by simp[results,Tryz.results238,go_sem]) rfl ⟨by rw[hat],(Below.refl _ w).alloc (Nat.le_refl _) _⟩|(exfalso;rename_i hx;revert hx;simp<;>omega)|(exfalso;revert q1;simp;done)|(exfalso;revert q4;simp only[hw]at*;simp_all<;>omega)|(exfalso;revert hq;simp<;>omega)
    ·have h2:65≤c∧c≤70∧d=c+32:=by simp[h1]at hq;omega
     obtain⟨h21,h22,rfl⟩:=h2
     have hw:=wrapC c h21 h22
     have q1:decide (((c+32:Nat):Int)=(c:Int))=false:=decide_eq_false (by omega)
     have q2:decide ((c:Int)≥65)=true:=ξt (by omega)
     have q3:decide ((c:Int)≤70)=true:=ξt (by omega)
     go_wp2_with fail
     all_goals first|exact bodyPost_ret (v:= .tuple #[.int .u8 (k:Int),.bool true]) (by simp[results,Tryz.results238,go_sem]) rfl ⟨by rw[hat],(Below.refl _ w).alloc (Nat.le_refl _) _⟩|(exfalso;rename_i hx;revert hx;simp<;>omega)|(exfalso;revert q1;simp;done)|(exfalso;revert q4;simp only[hw]at*;simp_all<;>omega)|(exfalso;revert hq;simp<;>omega)
   |false=>
    have hq':=hq
    unfold hitD at hq
    generalize(digL.getD k 0).toNat=d at hc1 hq
    have q1:decide ((d:Int)=(c:Int))=false:=decide_eq_false (by simp at hq;omega)
    clear hcell hat
    by_cases h1:65≤c
    ·by_cases h2:c≤70
     ·have hw:=wrapC c h1 h2
      have q2:decide ((c:Int)≥65)=true:=ξt (by omega)
      have q3:decide ((c:Int)≤70)=true:=ξt (by omega)
      have q4:decide ((d:Int)=((c+32:Nat):Int))=false:=decide_eq_false (by simp[h1,h2]at hq;omega)
      go_wp2_with fail
      all_goals first|exact⟨⟨k+1,by omega,by first|rfl|simp,trivial,fun m hm=>if h:m=k then by subst h;exact hq' else hno m (by omega)⟩,by simp[vIntD];omega⟩|(exfalso;rename_i hx;revert hx;simp<;>omega)|(exfalso;revert q1;simp;done)|(exfalso;revert q4;simp only[hw]at*;simp_all<;>omega)|(exfalso;revert hq;simp<;>omega)
     ·have q2:decide ((c:Int)≥65)=true:=ξt (by omega)
      have q3:decide ((c:Int)≤70)=false:=decide_eq_false (by omega)
      go_wp2_with fail
      all_goals first|exact⟨⟨k+1,by omega,by first|rfl|simp,trivial,fun m hm=>if h:m=k then by subst h;exact hq' else hno m (by omega)⟩,by simp[vIntD];omega⟩|(exfalso;rename_i hx;revert hx;simp<;>omega)|(exfalso;revert q1;simp;done)|(exfalso;revert q4;simp only[hw]at*;simp_all<;>omega)|(exfalso;revert hq;simp<;>omega)
    ·have q2:decide ((c:Int)≥65)=false:=decide_eq_false (by omega)
     go_wp2_with fail
     all_goals first|exact⟨⟨k+1,by omega,by first|rfl|simp,trivial,fun m hm=>if h:m=k then by subst h;exact hq' else hno m (by omega)⟩,by simp[vIntD];omega⟩|(exfalso;rename_i hx;revert hx;simp<;>omega)|(exfalso;revert q1;simp;done)|(exfalso;revert q4;simp only[hw]at*;simp_all<;>omega)|(exfalso;revert hq;simp<;>omega)
  ·obtain rfl:k=16:=by omega
   have hnn:=hexD_no c hc hno
   clear hno hcell
   go_wp2_with fail
   exact bodyPost_ret (v:= .tuple #[.int .u8 0,.bool false]) (by simp[results,Tryz.results238,go_sem]) rfl ⟨by rw[hnn];rfl,(Below.refl _ w).alloc (Nat.le_refl _) _⟩
theorem dhalf_c (n:Nat) (hn:n<256):PCalls Tryz.prog 238 [.x (.int .u8 n)] (.tup [.x (.int .u8 (hexD n).1),.x (.bool (hexD n).2)]):=by
 intro w st vs hst hvl
 obtain⟨hsz,hv⟩:=hvl
 obtain⟨v0,rfl⟩: ∃v0,vs= #[v0]:=by
  obtain⟨vl⟩:=vs
  match vl,hsz with
  | [a],_=>exact⟨a,rfl⟩
 have h0:=hv 0 _ v0 rfl rfl
 cases h0 with
 |x h0=>
 cases h0 with
 |int _ _=>
 refine(dhalf_walk n w hn).mono ?_
 rintro e w' ⟨rfl,hb⟩
 exact⟨_,st,rfl,⟨hb.os,hb.tape,hb.output,hb.size,fun k hk _=>hb.block k hk⟩,fun _ _ h=>h,fun _ _ h=> .inl h,V.tup2 (.x (.int _ _)) _⟩
theorem dhalf_enters:Go.Ab.Enters Tryz.prog 238:=enters_of Tryz.func238 (by kernel_rfl) rfl
def dhalfG:List D→Option (Bool×D)
 | [.x (.int .u8 n)]=>some (decide (0≤n∧n<256),.tup [.x (.int .u8 (hexD n.toNat).1),.x (.bool (hexD n.toNat).2)])
 |_=>none
theorem dhalfG_ok: ∀args r,dhalfG args=some (true,r)→PCalls Tryz.prog 238 args r:=by
 intro args r h
 unfold dhalfG at h
 split at h
 ·rename_i n
  simp only[ξI,ξP,ξa,ξe,true_and]at h
  obtain⟨h1,rfl⟩:=h
  exact(by obtain⟨m,rfl⟩: ∃m:Nat,n=m:=⟨n.toNat,by omega⟩;rw[Int.toNat_natCast];exact dhalf_c m (by omega))
 ·cases h
def trL (s:Tx):Tx:=s.dropWhile (· ==32)
def trR (s:Tx):Tx:=(s.reverse.dropWhile (· ==32)).reverse
theorem emp_len (r:Tx):(r== [])=decide (r.length=0):=by rcases r with _|⟨c,r⟩<;>simp
theorem c32' {c:UInt8} (h:(c.toNat:Int)=32):c=32:=by
 apply UInt8.toNat_inj.1;show c.toNat=32;omega
theorem trL_cons (c:UInt8) (s:Tx):trL (c::s)=if c=32 then trL s else c::s:=by
 unfold trL;rw[List.dropWhile_cons];simp
theorem trL_len (s:Tx):(trL s).length≤s.length:=List.Sublist.length_le (List.dropWhile_sublist _)
theorem trR_len (s:Tx):(trR s).length≤s.length:=by
 unfold trR;rw[List.length_reverse];exact Nat.le_trans (List.Sublist.length_le (List.dropWhile_sublist _)) (by simp)
theorem trR_snoc (s:Tx) (c:UInt8):trR (s++ [c])=if c=32 then trR s else s++ [c]:=by
 unfold trR;rw[List.reverse_append,List.reverse_cons,List.reverse_nil,List.nil_append,List.singleton_append,List.dropWhile_cons]
 split<;>simp_all
theorem drop1 (s:Tx) (h:0<s.length):s=s.getD 0 0::s.drop 1:=by
 rcases s with _|⟨c,s⟩
 ·simp at h
 ·rfl
theorem take1 (s:Tx) (h:0<s.length):s=s.take (s.length-1)++ [s.getD (s.length-1) 0]:=by
 obtain⟨b,c,rfl⟩: ∃b c,s=b++ [c]:=⟨s.dropLast,s.getLast (by intro e;subst e;simp at h),(List.dropLast_concat_getLast _).symm⟩
 simp
theorem trL_step (s:Tx) (h:0<s.length) (hc:s.getD 0 0=32):trL s=trL (s.drop 1):=by
 conv=>lhs;rw[drop1 s h]
 rw[trL_cons,if_pos hc]
theorem trL_stop (s:Tx) (h: ¬(0<s.length∧s.getD 0 0=32)):trL s=s:=by
 rcases s with _|⟨c,s⟩
 ·rfl
 ·rw[trL_cons,if_neg (fun e:c=32=>h ⟨by simp,e⟩)]
theorem trR_step (s:Tx) (h:0<s.length) (hc:s.getD (s.length-1) 0=32):trR s=trR (s.take (s.length-1)):=by
 conv=>lhs;rw[take1 s h]
 rw[trR_snoc,if_pos hc]
theorem trR_stop (s:Tx) (h: ¬(0<s.length∧s.getD (s.length-1) 0=32)):trR s=s:=by
 by_cases h0:0<s.length
 ·conv=>lhs;rw[take1 s h0]
  rw[trR_snoc,if_neg (fun e=>h ⟨h0,e⟩)]
  exact(take1 s h0).symm
 ·rw[show s= []from List.length_eq_zero_iff.1 (by omega)];rfl
theorem trimLB_c (s:Tx) (hl:s.length≤1000000):PCalls Tryz.prog 219 [.x (.str s),.x (.int .u8 32)] (.x (.str (trL s))):=by
 refine FCalls.pure (fcallsG (fz:=true) G_ok (p:=i219) rfl _ (ξ rfl) _ (fun C0 E0=> ?_)) rfl
 dsimp only[i219,qt,qi,qs,qb,qm,qa,qh,qj,qT,qF,qe,ql,qL,qf,q2,q3,q8,qz,qp,qP,qc,qk,qx,qy,qo,qr,qC,argsφ]
 have uu:=trivial
 have tT:=(noTabs_ok:SsOk Tryz.prog noTabs)
 refine nz ?_
 refine WI.regB tT [0,1] ?_
 refine oS ?_
 refine oN ?_
 refine nz ?_
 refine WI.loop (fun φ os=> ∃(r:Tx),φ= [(0,.x (.str r)),(1,.x (.int .u8 32))]∧os= []∧r.length≤s.length∧trL s=trL r) ((fun φ _=>match get φ 0 with| .x (.str r)=>r.length|_=>0)) ?_ (fun φ os hI=> ?_)
 ·exact⟨s,rfl,rfl,by omega,rfl⟩
 ·obtain⟨r,rfl,rfl,hr,he⟩:=hI
  refine nz ?_
  refine WI.regB tT [0,1,13] ?_
  refine oS ?_
  iterate 2 refine oG (hok:=by first|exact se|(clear uu;grind)|exact sd) ?_
  refine oS ?_
  iterate 5 refine oG (hok:=by first|exact se|(clear uu;grind)|exact sd) ?_
  refine oN ?_
  refine nz ?_
  refine cd (fun h0=> ?_) (fun h0=> ?_)
  ·have h0p:0<r.length:=by omega
   have h0c:r.getD 0 0=32:=c32' (by omega)
   refine WI.regB tT [0,1] ?_
   refine oS ?_
   refine oG (hok:=by first|exact se|(clear uu;grind)|exact sd) ?_
   refine oS ?_
   refine oN ?_
   refine nz ?_
   exact⟨⟨r.drop 1,rfl,rfl,by simp;omega,by rw[he,trL_step r h0p h0c]⟩,by show(r.drop 1).length<r.length;rw[List.length_drop];omega⟩
  ·have h0n: ¬(0<r.length∧r.getD 0 0=32):=fun hh=>by
    have h2:((r.getD 0 0).toNat:Int)=32:=by rw[hh.2];rfl
    have h1:=hh.1
    omega
   refine WI.regB tT [4] ?_
   iterate 2 refine oS ?_
   refine oN ?_
   refine nz ?_
   refine lf ?_
   rw[he,trL_stop r h0n]
def trimLBG:List D→Option (Bool×D)
 | [.x (.str s),.x (.int .u8 32)]=>some (decide (s.length≤1000000),.x (.str (trL s)))
 |_=>none
theorem trimLBG_ok: ∀args r,trimLBG args=some (true,r)→PCalls Tryz.prog 219 args r:=by
 intro args r h
 unfold trimLBG at h
 split at h
 ·rename_i s
  simp only[ξI,ξP,ξa,ξe,true_and]at h
  obtain⟨h1,rfl⟩:=h
  exact(trimLB_c s h1)
 ·cases h
theorem trimRB_c (s:Tx) (hl:s.length≤1000000):PCalls Tryz.prog 220 [.x (.str s),.x (.int .u8 32)] (.x (.str (trR s))):=by
 refine FCalls.pure (fcallsG (fz:=true) G_ok (p:=i220) rfl _ (ξ rfl) _ (fun C0 E0=> ?_)) rfl
 dsimp only[i220,qt,qi,qs,qb,qm,qa,qh,qj,qT,qF,qe,ql,qL,qf,q2,q3,q8,qz,qp,qP,qc,qk,qx,qy,qo,qr,qC,argsφ]
 have uu:=trivial
 have tT:=(noTabs_ok:SsOk Tryz.prog noTabs)
 refine nz ?_
 refine WI.regB tT [0,1] ?_
 refine oS ?_
 refine oN ?_
 refine nz ?_
 refine WI.loop (fun φ os=> ∃(r:Tx),φ= [(0,.x (.str r)),(1,.x (.int .u8 32))]∧os= []∧r.length≤s.length∧trR s=trR r) ((fun φ _=>match get φ 0 with| .x (.str r)=>r.length|_=>0)) ?_ (fun φ os hI=> ?_)
 ·exact⟨s,rfl,rfl,by omega,rfl⟩
 ·obtain⟨r,rfl,rfl,hr,he⟩:=hI
  have e1:((r.length:Int)-1).toNat=r.length-1:=by omega
  have uu:=ξn uu e1
  refine nz ?_
  refine WI.regB tT [0,1,16] ?_
  refine oS ?_
  iterate 2 refine oG (hok:=by first|exact se|(clear uu;grind)|exact sd) ?_
  refine oS ?_
  iterate 8 refine oG (hok:=by first|exact se|(clear uu;grind)|exact sd) ?_
  refine oN ?_
  refine nz ?_
  refine cd (fun h0=> ?_) (fun h0=> ?_)
  ·have h0p:0<r.length:=by omega
   have h0c:r.getD (r.length-1) 0=32:=c32' (by omega)
   refine WI.regB tT [0,1] ?_
   iterate 2 refine oS ?_
   iterate 3 refine oG (hok:=by first|exact se|(clear uu;grind)|exact sd) ?_
   refine oS ?_
   refine oN ?_
   refine nz ?_
   exact⟨⟨r.take (r.length-1),rfl,rfl,by simp;omega,by rw[he,trR_step r h0p h0c]⟩,by show(r.take (r.length-1)).length<r.length;rw[List.length_take];omega⟩
  ·have h0n: ¬(0<r.length∧r.getD (r.length-1) 0=32):=fun hh=>by
    have h2:((r.getD (r.length-1) 0).toNat:Int)=32:=by rw[hh.2];rfl
    have h1:=hh.1
    omega
   refine WI.regB tT [4] ?_
   iterate 2 refine oS ?_
   refine oN ?_
   refine nz ?_
   refine lf ?_
   rw[he,trR_stop r h0n]
def trimRBG:List D→Option (Bool×D)
 | [.x (.str s),.x (.int .u8 32)]=>some (decide (s.length≤1000000),.x (.str (trR s)))
 |_=>none
theorem trimRBG_ok: ∀args r,trimRBG args=some (true,r)→PCalls Tryz.prog 220 args r:=by
 intro args r h
 unfold trimRBG at h
 split at h
 ·rename_i s
  simp only[ξI,ξP,ξa,ξe,true_and]at h
  obtain⟨h1,rfl⟩:=h
  exact(trimRB_c s h1)
 ·cases h
def tabDn3:Tabs:=addQ (addQ (noTabs) 219 trimLBG) 220 trimRBG
theorem tabDn3_ok:SsOk Tryz.prog tabDn3:=addQ_ok (addQ_ok (noTabs_ok) (G_enters G_ok (p:=i219) rfl) trimLBG_ok) (G_enters G_ok (p:=i220) rfl) trimRBG_ok
theorem tabDn3_q219 (a:List D):tabDn3.q 219 a=trimLBG a:=rfl
theorem tabDn3_q220 (a:List D):tabDn3.q 220 a=trimRBG a:=rfl
theorem tabDn3_r (f:FuncId) (a:List D) (o:List Ob):tabDn3.r f a o=none:=rfl
theorem tabDn3_k (f:FuncId) (a:List D) (o:List Ob):tabDn3.k f a o=none:=rfl
theorem trimLeft_c (s:Tx) (hl:s.length≤1000000):PCalls Tryz.prog 226 [.x (.str s),.x (.str [32])] (.x (.str (trL s))):=by
 refine FCalls.pure (fcallsG (fz:=true) G_ok (p:=i226) rfl _ (ξ rfl) _ (fun C0 E0=> ?_)) rfl
 dsimp only[i226,qt,qi,qs,qb,qm,qa,qh,qj,qT,qF,qe,ql,qL,qf,q2,q3,q8,qz,qp,qP,qc,qk,qx,qy,qo,qr,qC,argsφ]
 have uu:=ξn @trimLBG.eq_1 (ξn @trimLBG.eq_2 (ξn @trimRBG.eq_1 (ξn @trimRBG.eq_2 (ξn @tabDn3_r (ξn @tabDn3_k (ξn @tabDn3_q219 (@tabDn3_q220)))))))
 have tT:=tabDn3_ok
 refine nz ?_
 refine rg tT [0,1] ?_
 refine rg tT [0,1,12] ?_
 refine cd (fun h0=> ?_) (fun h0=> ?_)
 ·refine rg tT [4] ?_
  refine lf ?_
  rw[show s= [] by simpa using h0];rfl
 ·refine rg tT [0,1,21] ?_
  refine ct (fun h1=> ?_) (fun h1=> ?_)
  ·refine rg tT [4] ?_
   refine lf ?_
   first|rfl|exact⟨rfl,rfl⟩|trivial
  ·simp at h1
def trimLeftG:List D→Option (Bool×D)
 | [.x (.str s),.x (.str [32])]=>some (decide (s.length≤1000000),.x (.str (trL s)))
 |_=>none
theorem trimLeftG_ok: ∀args r,trimLeftG args=some (true,r)→PCalls Tryz.prog 226 args r:=by
 intro args r h
 unfold trimLeftG at h
 split at h
 ·rename_i s
  simp only[ξI,ξP,ξa,ξe,true_and]at h
  obtain⟨h1,rfl⟩:=h
  exact(trimLeft_c s h1)
 ·cases h
def trim (s:Tx):Tx:=trL (trR s)
theorem trim_c (s:Tx) (hl:s.length≤1000000):PCalls Tryz.prog 207 [.x (.str s),.x (.str [32])] (.x (.str (trim s))):=by
 have hrl:=trR_len s
 refine FCalls.pure (fcallsG (fz:=true) G_ok (p:=i207) rfl _ (ξ rfl) _ (fun C0 E0=> ?_)) rfl
 dsimp only[i207,qt,qi,qs,qb,qm,qa,qh,qj,qT,qF,qe,ql,qL,qf,q2,q3,q8,qz,qp,qP,qc,qk,qx,qy,qo,qr,qC,argsφ]
 have uu:=ξn @trimLBG.eq_1 (ξn @trimLBG.eq_2 (ξn @trimRBG.eq_1 (ξn @trimRBG.eq_2 (ξn @tabDn3_r (ξn @tabDn3_k (ξn @tabDn3_q219 (@tabDn3_q220)))))))
 have tT:=tabDn3_ok
 refine nz ?_
 refine rg tT [0,1] ?_
 refine rg tT [0,1,12] ?_
 refine cd (fun h0=> ?_) (fun h0=> ?_)
 ·refine rg tT [4] ?_
  refine lf ?_
  rw[show s= [] by simpa using h0];rfl
 ·refine rg tT [0,1,21] ?_
  refine ct (fun h1=> ?_) (fun h1=> ?_)
  ·refine WI.dregB tT [4] ?_
   iterate 2 refine dFS ?_
   refine dFG ?_
   refine dAC ?_
   refine dFS ?_
   refine dFG ?_
   refine dAC ?_
   refine dFS ?_
   refine dN ?_
   refine nz ?_
   refine lf ?_
   first|rfl|exact⟨rfl,rfl⟩|trivial
  ·simp at h1
def trimG:List D→Option (Bool×D)
 | [.x (.str s),.x (.str [32])]=>some (decide (s.length≤1000000),.x (.str (trim s)))
 |_=>none
theorem trimG_ok: ∀args r,trimG args=some (true,r)→PCalls Tryz.prog 207 args r:=by
 intro args r h
 unfold trimG at h
 split at h
 ·rename_i s
  simp only[ξI,ξP,ξa,ξe,true_and]at h
  obtain⟨h1,rfl⟩:=h
  exact(trim_c s h1)
 ·cases h
theorem dorN: ∀(a b:Fin 16),IntKind.u8.wrap ((BitVec.ofInt IntKind.u8.bits (IntKind.u8.wrap ((a.val:Int)*2^min 4 IntKind.u8.bits))|||BitVec.ofInt IntKind.u8.bits (b.val:Int)).toNat:Int)=((UInt8.ofNat (16*a.val+b.val)).toNat:Int):=by decide+kernel
def orB (h l:Nat):UInt8:=UInt8.ofNat (16*h+l)
theorem dorH (h l:Nat) (h1:h<16) (h2:l<16):IntKind.u8.wrap ((BitVec.ofInt IntKind.u8.bits (IntKind.u8.wrap ((h:Int)*2^min 4 IntKind.u8.bits))|||BitVec.ofInt IntKind.u8.bits (l:Int)).toNat:Int)=((orB h l).toNat:Int):=dorN ⟨_,h1⟩ ⟨_,h2⟩
theorem hexD_lt (n:Nat):(hexD n).1<16:=by unfold hexD;split<;>simp_all
def free (a:UInt8):Bool:=spc a.toNat||decide (a.toNat=32)||decide (a.toNat=35)
def escD (s:Tx):UInt8×Nat×Bool:=
 if s= []then(0,0,false)
 else if free (s.getD 0 0)=true then(s.getD 0 0,1,true)
 else if(hexD (s.getD 0 0).toNat).2=false∨s.length<2 then(0,0,false)
 else(orB (hexD (s.getD 0 0).toNat).1 (hexD (s.getD 1 0).toNat).1,2,(hexD (s.getD 1 0).toNat).2)
def tabDn4:Tabs:=addQ (addQ (noTabs) 202 dnInG) 238 dhalfG
theorem tabDn4_ok:SsOk Tryz.prog tabDn4:=addQ_ok (addQ_ok (noTabs_ok) (G_enters G_ok (p:=i202) rfl) dnInG_ok) dhalf_enters dhalfG_ok
theorem tabDn4_q202 (a:List D):tabDn4.q 202 a=dnInG a:=rfl
theorem tabDn4_q238 (a:List D):tabDn4.q 238 a=dhalfG a:=rfl
theorem tabDn4_r (f:FuncId) (a:List D) (o:List Ob):tabDn4.r f a o=none:=rfl
theorem tabDn4_k (f:FuncId) (a:List D) (o:List Ob):tabDn4.k f a o=none:=rfl
theorem escD_c (s:Tx) (hl:s.length≤1000000):PCalls Tryz.prog 227 [.x (.str s)] (.tup [.x (.int .u8 (escD s).1.toNat),.x (.int .i64 (escD s).2.1),.x (.bool (escD s).2.2)]):=by
 have hq: ∀n,inB [44,43,34,92,60,62,59,61] n=spc n:=fun n=>rfl
 have hem:=emp_len s
 have hb0:(s.getD 0 0).toNat<256:=UInt8.toNat_lt _
 have hb1:(s.getD 1 0).toNat<256:=UInt8.toNat_lt _
 have hor:=dorH _ _ (hexD_lt (s.getD 0 0).toNat) (hexD_lt (s.getD 1 0).toNat)
 rcases he:escD s with⟨x,n,b⟩
 unfold escD at he
 have hfr:free (s.getD 0 0)=(spc (s.getD 0 0).toNat||decide ((s.getD 0 0).toNat=32)||decide ((s.getD 0 0).toNat=35)):=rfl
 refine FCalls.pure (fcallsG (fz:=true) G_ok (p:=i227) rfl _ (ξ rfl) _ (fun C0 E0=> ?_)) rfl
 dsimp only[i227,qt,qi,qs,qb,qm,qa,qh,qj,qT,qF,qe,ql,qL,qf,q2,q3,q8,qz,qp,qP,qc,qk,qx,qy,qo,qr,qC,argsφ]
 have uu:=ξn @dnInG.eq_1 (ξn @dnInG.eq_2 (ξn @dhalfG.eq_1 (ξn @dhalfG.eq_2 (ξn hq (ξn hor (ξn @tabDn4_r (ξn @tabDn4_k (ξn @tabDn4_q202 (@tabDn4_q238)))))))))
 have tT:=tabDn4_ok
 refine nz ?_
 refine WI.regB tT [0] ?_
 iterate 3 refine oS ?_
 refine oN ?_
 refine nz ?_
 refine WI.regB tT [0,9] ?_
 refine oS ?_
 refine oG (hok:=by first|exact se|(clear uu;grind)|exact sd) ?_
 refine oN ?_
 refine nz ?_
 refine cd (fun h0=> ?_) (fun h0=> ?_)
 ·refine WI.regB tT [2,3,4] ?_
  iterate 3 refine oS ?_
  refine oN ?_
  refine nz ?_
  refine lf ?_
  rw[if_pos (by simpa using h0)]at he;cases he;rfl
 ·have hne:s≠ []:=by simpa using h0
  rw[if_neg hne]at he
  have hl1:0<s.length:=List.length_pos_iff.2 hne
  refine WI.regB tT [0,22] ?_
  refine oS ?_
  refine oG (hok:=by first|exact se|(clear uu;grind)|exact sd) ?_
  refine oC (hok:=by first|exact se|(clear uu;grind)|exact sd) ?_
  refine oS ?_
  iterate 4 refine oG (hok:=by first|exact se|(clear uu;grind)|exact sd) ?_
  refine oS ?_
  iterate 4 refine oG (hok:=by first|exact se|(clear uu;grind)|exact sd) ?_
  refine oN ?_
  refine nz ?_
  refine cd (fun h1=> ?_) (fun h1=> ?_)
  ·refine WI.regB tT [2,3,4] ?_
   refine oS ?_
   refine oG (hok:=by first|exact se|(clear uu;grind)|exact sd) ?_
   iterate 3 refine oS ?_
   refine oN ?_
   refine nz ?_
   refine lf ?_
   rw[if_pos (by rw[hfr];clear uu;grind)]at he;cases he;rfl
  ·rw[if_neg (by rw[hfr];clear uu;grind)]at he
   refine WI.regB tT [0,5,6] ?_
   refine oS ?_
   refine oG (hok:=by first|exact se|(clear uu;grind)|exact sd) ?_
   refine oC (hok:=by first|exact se|(clear uu;grind)|exact sd) ?_
   refine oS ?_
   iterate 2 refine oG ?_
   iterate 2 refine oS ?_
   refine oN ?_
   refine nz ?_
   refine WI.regB tT [0,5,37] ?_
   refine oS ?_
   refine oG (hok:=by first|exact se|(clear uu;grind)|exact sd) ?_
   refine oS ?_
   iterate 4 refine oG (hok:=by first|exact se|(clear uu;grind)|exact sd) ?_
   refine oN ?_
   refine nz ?_
   refine cd (fun h2=> ?_) (fun h2=> ?_)
   ·refine WI.regB tT [2,3,4] ?_
    iterate 3 refine oS ?_
    refine oN ?_
    refine nz ?_
    refine lf ?_
    rw[if_pos (by clear uu;grind)]at he;cases he;rfl
   ·rw[if_neg (by clear uu;grind)]at he
    have hl2:2≤s.length:=by clear uu;grind
    refine WI.regB tT [5,6,7] ?_
    refine oS ?_
    refine oG (hok:=by first|exact se|(clear uu;grind)|exact sd) ?_
    refine oC (hok:=by first|exact se|(clear uu;grind)|exact sd) ?_
    refine oS ?_
    iterate 2 refine oG ?_
    iterate 2 refine oS ?_
    refine oN ?_
    refine nz ?_
    refine WI.regB tT [2,3,4] ?_
    refine oS ?_
    refine oG (hok:=by first|exact se|(clear uu;grind)|exact sd) ?_
    refine oS ?_
    refine oG (hok:=by first|exact se|(clear uu;grind)|exact sd) ?_
    iterate 4 refine oS ?_
    refine oN ?_
    refine nz ?_
    refine lf ?_
    cases he;rfl
def escDG:List D→Option (Bool×D)
 | [.x (.str s)]=>some (decide (s.length≤1000000),.tup [.x (.int .u8 (escD s).1.toNat),.x (.int .i64 (escD s).2.1),.x (.bool (escD s).2.2)])
 |_=>none
theorem escDG_ok: ∀args r,escDG args=some (true,r)→PCalls Tryz.prog 227 args r:=by
 intro args r h
 unfold escDG at h
 split at h
 ·rename_i s
  simp only[ξI,ξP,ξa,ξe,true_and]at h
  obtain⟨h1,rfl⟩:=h
  exact(escD_c s h1)
 ·cases h
def vlp:Nat→Tx→Tx→Nat→Option (Tx×Nat)
 |0,_,_,_=>none
 |_+1,[],b,e=>some (b,e)
 |n+1,c::r,b,e=>
  if c=92 then(if(escD r).2.2=true then vlp n (r.drop (escD r).2.1) (b++ [(escD r).1]) (b.length+1)else none)
  else if barB c.toNat (decide (b.length=0))=true then none
  else if c=32 then vlp n r (b++ [c]) e else vlp n r (b++ [c]) (b.length+1)
theorem escD_n (s:Tx):(escD s).2.1≤s.length:=by
 unfold escD
 split
 ·simp
 ·rename_i h
  have:0<s.length:=List.length_pos_iff.2 h
  split
  ·simp;omega
  ·split
   ·simp
   ·rename_i h2;simp only[not_or]at h2;simp;omega
def valD (s:Tx):Tx×Bool:=match vlp (s.length+1) (trL s) [] 0 with
 |none=>([],false)
 |some (b,e)=>(b.take e,decide (e>0))
theorem c92D {c:UInt8} (h:(c.toNat:Int)=92):c=92:=by
 apply UInt8.toNat_inj.1;show c.toNat=92;omega
def tabDn5:Tabs:=addQ (addQ (addQ (noTabs) 226 trimLeftG) 227 escDG) 228 barredG
theorem tabDn5_ok:SsOk Tryz.prog tabDn5:=addQ_ok (addQ_ok (addQ_ok (noTabs_ok) (G_enters G_ok (p:=i226) rfl) trimLeftG_ok) (G_enters G_ok (p:=i227) rfl) escDG_ok) (G_enters G_ok (p:=i228) rfl) barredG_ok
theorem tabDn5_q226 (a:List D):tabDn5.q 226 a=trimLeftG a:=rfl
theorem tabDn5_q227 (a:List D):tabDn5.q 227 a=escDG a:=rfl
theorem tabDn5_q228 (a:List D):tabDn5.q 228 a=barredG a:=rfl
theorem tabDn5_r (f:FuncId) (a:List D) (o:List Ob):tabDn5.r f a o=none:=rfl
theorem tabDn5_k (f:FuncId) (a:List D) (o:List Ob):tabDn5.k f a o=none:=rfl
set_option maxHeartbeats 1000000 in
theorem valD_c (s:Tx) (hl:s.length≤900000):PCalls Tryz.prog 209 [.x (.str s)] (.tup [.x (.str (valD s).1),.x (.bool (valD s).2)]):=by
 have htl:=trL_len s
 rcases hq:valD s with⟨v,ok⟩
 unfold valD at hq
 refine FCalls.pure (fcallsG (fz:=true) G_ok (p:=i209) rfl _ (ξ rfl) _ (fun C0 E0=> ?_)) rfl
 dsimp only[i209,qt,qi,qs,qb,qm,qa,qh,qj,qT,qF,qe,ql,qL,qf,q2,q3,q8,qz,qp,qP,qc,qk,qx,qy,qo,qr,qC,argsφ]
 have uu:=ξn @trimLeftG.eq_1 (ξn @trimLeftG.eq_2 (ξn @escDG.eq_1 (ξn @escDG.eq_2 (ξn @barredG.eq_1 (ξn @barredG.eq_2 (ξn @bytes_all (ξn @bytes_row (ξn @List.getD_cons_zero.{0} (ξn @tabDn5_r (ξn @tabDn5_k (ξn @tabDn5_q226 (ξn @tabDn5_q227 (@tabDn5_q228)))))))))))))
 have tT:=tabDn5_ok
 refine nz ?_
 refine rg tT [0] ?_
 refine WI.scope 0 rfl (fun φ os=>False) (fun φ _=>0) ?_ (fun φ os hI=> ?_)
 ·refine nz ?_
  refine rg tT [0] ?_
  refine rg tT [0,4] ?_
  refine rg tT [0,4,5] ?_
  refine WI.label ?_
  refine nz ?_
  refine WI.ownA 4 5 1 ?_
  refine WI.loop (fun φ os=> ∃(r b:Tx) (e n:Nat),φ= [(0,.x (.str r)),(4,.ref 0 b.length 0 b.length),(5,.x (.int .i64 e))]∧os= [.rows false 5 1 (b.map byteRow)]∧r.length<n∧b.length+r.length≤s.length∧e≤b.length∧vlp (s.length+1) (trL s) [] 0=vlp n r b e) ((fun φ _=>match get φ 0 with| .x (.str r)=>r.length|_=>0)) ?_ (fun φ os hI=> ?_)
  ·exact⟨trL s,[],0,s.length+1,rfl,rfl,by omega,by simp;omega,by simp,rfl⟩
  ·obtain⟨r,b,e,n,rfl,rfl,hn,hb,he,hv⟩:=hI
   obtain⟨n,rfl⟩: ∃m,n=m+1:=⟨n-1,by omega⟩
   refine nz ?_
   refine rg tT [0,4,5,13] ?_
   refine cd (fun h0=> ?_) (fun h0=> ?_)
   ·rcases r with _|⟨c,r⟩
    ·simp at h0
    have hn':r.length+1<n+1:=hn
    have hb':b.length+(r.length+1)≤s.length:=hb
    have hen:=escD_n r
    have hb8:c.toNat<256:=UInt8.toNat_lt _
    have hsc:decide (r.length≤1000000)=true:=ξt (by omega)
    have uu:=ξn uu hsc
    refine rg tT [0,4,5,6] ?_
    refine rg tT [0,4,5,6] ?_
    refine rg tT [0,4,5,6,24] ?_
    refine cd (fun h1=> ?_) (fun h1=> ?_)
    ·have hc:c=92:=c92D (by first|exact h1|simpa using h1)
     refine rg tT [0,4,7,8,9] ?_
     refine rg tT [0,4,7,8,34] ?_
     refine cd (fun h2=> ?_) (fun h2=> ?_)
     ·refine rg tT [2,3] ?_
      refine lf ?_
      rw[hv,vlp,if_pos hc,if_neg (by simpa using h2)]at hq;cases hq;rfl
     ·have hst:vlp (n+1) (c::r) b e=vlp n (r.drop (escD r).2.1) (b++ [(escD r).1]) (b.length+1):=by rw[vlp,if_pos hc,if_pos (by simpa using h2)]
      refine WI.post ?_
      refine WI.dregB tT [0,4] ?_
      iterate 2 refine dFS ?_
      iterate 2 refine dAG ?_
      iterate 2 refine dFS ?_
      refine dFG ?_
      iterate 2 refine dFS ?_
      refine dP ?_
      refine pPick [0] ?_
      refine pEnd ?_
      refine nz ?_
      refine rg tT [0,4,5] ?_
      first|exact⟨⟨r.drop (escD r).2.1,b++ [(escD r).1],b.length+1,n,by rw[ξA];first|done|rfl,by rw[bytes_snoc];first|done|rfl,by rw[List.length_drop];omega,by rw[ξA,List.length_drop];simp;omega,by simp,by rw[hv,hst]⟩,by show(r.drop (escD r).2.1).length<r.length+1;rw[List.length_drop];omega⟩|exact⟨⟨r,b++ [c],e,n,by rw[ξA];first|done|rfl,by rw[bytes_snoc];first|done|rfl,by omega,by rw[ξA];simp;omega,by simp;omega,by rw[hv,hst]⟩,by show r.length<r.length+1;omega⟩|exact⟨⟨r,b++ [c],b.length+1,n,by rw[ξA];first|done|rfl,by rw[bytes_snoc];first|done|rfl,by omega,by rw[ξA];simp;omega,by simp,by rw[hv,hst]⟩,by show r.length<r.length+1;omega⟩
    ·have hc:c≠92:=by rintro rfl;exact absurd h1 (by decide)
     have hz:((b.length:Int)==0)=decide (b.length=0):=by rw[Bool.eq_iff_iff];simp<;>omega
     have uu:=ξn uu hz
     refine rg tT [0,4,5,6,42] ?_
     refine cd (fun h3=> ?_) (fun h3=> ?_)
     ·refine rg tT [2,3] ?_
      refine lf ?_
      rw[hv,vlp,if_neg hc,if_pos (by simpa using h3)]at hq;cases hq;rfl
     ·refine rgp tT [0,4,5,6] ?_
      refine pPick [0] ?_
      refine pEnd ?_
      refine nz ?_
      refine rg tT [0,4,5,23] ?_
      refine cd (fun h4=> ?_) (fun h4=> ?_) (kA:=fun h=>h.h)
      ·refine WI.orderA [0,4,5] ?_
       have hst:vlp (n+1) (c::r) b e=vlp n r (b++ [c]) e:=by rw[vlp,if_neg hc,if_neg (by simpa using h3),if_pos (c32' (by first|exact h4|simpa using h4))]
       refine nz ?_
       first|exact⟨⟨r.drop (escD r).2.1,b++ [(escD r).1],b.length+1,n,by rw[ξA];first|done|rfl,by rw[bytes_snoc];first|done|rfl,by rw[List.length_drop];omega,by rw[ξA,List.length_drop];simp;omega,by simp,by rw[hv,hst]⟩,by show(r.drop (escD r).2.1).length<r.length+1;rw[List.length_drop];omega⟩|exact⟨⟨r,b++ [c],e,n,by rw[ξA];first|done|rfl,by rw[bytes_snoc];first|done|rfl,by omega,by rw[ξA];simp;omega,by simp;omega,by rw[hv,hst]⟩,by show r.length<r.length+1;omega⟩|exact⟨⟨r,b++ [c],b.length+1,n,by rw[ξA];first|done|rfl,by rw[bytes_snoc];first|done|rfl,by omega,by rw[ξA];simp;omega,by simp,by rw[hv,hst]⟩,by show r.length<r.length+1;omega⟩
      ·have hst:vlp (n+1) (c::r) b e=vlp n r (b++ [c]) (b.length+1):=by rw[vlp,if_neg hc,if_neg (by simpa using h3),if_neg (by rintro rfl;exact absurd h4 (by decide))]
       refine rg tT [0,4,5] ?_
       first|exact⟨⟨r.drop (escD r).2.1,b++ [(escD r).1],b.length+1,n,by rw[ξA];first|done|rfl,by rw[bytes_snoc];first|done|rfl,by rw[List.length_drop];omega,by rw[ξA,List.length_drop];simp;omega,by simp,by rw[hv,hst]⟩,by show(r.drop (escD r).2.1).length<r.length+1;rw[List.length_drop];omega⟩|exact⟨⟨r,b++ [c],e,n,by rw[ξA];first|done|rfl,by rw[bytes_snoc];first|done|rfl,by omega,by rw[ξA];simp;omega,by simp;omega,by rw[hv,hst]⟩,by show r.length<r.length+1;omega⟩|exact⟨⟨r,b++ [c],b.length+1,n,by rw[ξA];first|done|rfl,by rw[bytes_snoc];first|done|rfl,by omega,by rw[ξA];simp;omega,by simp,by rw[hv,hst]⟩,by show r.length<r.length+1;omega⟩
   ·obtain rfl:r= []:=by simpa using h0
    have hv2:vlp (s.length+1) (trL s) [] 0=some (b,e):=by rw[hv];rfl
    rw[hv2]at hq
    have e1:(List.map byteRow b).take e=(b.take e).map byteRow:=by rw[List.map_take]
    have uu:=ξn uu e1
    refine rg tT [2,3] ?_
    refine lf ?_
    cases hq;rw[show decide ((e:Int)>0)=decide (e>0) by rw[Bool.eq_iff_iff];simp]
 ·exact hI.elim
def valDG:List D→Option (Bool×D)
 | [.x (.str s)]=>some (decide (s.length≤900000),.tup [.x (.str (valD s).1),.x (.bool (valD s).2)])
 |_=>none
theorem valDG_ok: ∀args r,valDG args=some (true,r)→PCalls Tryz.prog 209 args r:=by
 intro args r h
 unfold valDG at h
 split at h
 ·rename_i s
  simp only[ξI,ξP,ξa,ξe,true_and]at h
  obtain⟨h1,rfl⟩:=h
  exact(valD_c s h1)
 ·cases h
theorem drop_cons (s:Tx) (j:Nat) (h:j<s.length):s.drop j=s.getD j 0::s.drop (j+1):=by
 rw[List.drop_eq_getElem_cons h];simp[h]
theorem neD {c:UInt8} {k:Nat} (hk:k<256) (h: ¬(c.toNat:Int)=k):c≠UInt8.ofNat k:=fun e=>h (by rw[e];simp;omega)
def pre (p:Tx):List Tx→List Tx
 | []=> [p]
 |x::l=>(p++x)::l
def spD (a:UInt8):Tx→List Tx
 | []=> [[]]
 |c::r=>if c=92 then(match r with
   | []=> [[c]]
   |d::r'=>pre [c,d] (spD a r'))else if c=a then []::spD a r else pre [c] (spD a r)
theorem pre_ne (p:Tx) (l:List Tx):pre p l≠ []:=by cases l<;>simp[pre]
theorem spD_ne (a:UInt8) (s:Tx):spD a s≠ []:=by
 unfold spD
 split
 ·simp
 ·split
  ·split
   ·simp
   ·exact pre_ne _ _
  ·split
   ·simp
   ·exact pre_ne _ _
theorem pre_pre (p q:Tx) (l:List Tx) (h:l≠ []):pre p (pre q l)=pre (p++q) l:=by
 rcases l with _|⟨x,l⟩
 ·exact absurd rfl h
 ·simp[pre]
theorem pre_nil (l:List Tx) (h:l≠ []):pre [] l=l:=by
 rcases l with _|⟨x,l⟩
 ·exact absurd rfl h
 ·simp[pre]
theorem spD_slash (a:UInt8) (s:Tx) (j:Nat) (h:j<s.length) (hc:s.getD j 0=92):spD a (s.drop j)=pre ((s.drop j).take 2) (spD a (s.drop (j+2))):=by
 rw[drop_cons s j h,hc]
 rcases hr:s.drop (j+1)with _|⟨d,r⟩
 ·have:s.drop (j+2)= []:=by rw[←List.drop_drop,show s.drop j=s.drop (j+0)from rfl];have:=congrArg (List.drop 1) hr;rw[List.drop_drop]at this;simpa using this
  rw[this];rfl
 ·have:s.drop (j+2)=r:=by have:=congrArg (List.drop 1) hr;rw[List.drop_drop]at this;simpa using this
  rw[this]
  conv=>lhs;unfold spD
  rw[if_pos rfl];rfl
theorem spD_hit (a:UInt8) (ha:a≠92) (s:Tx) (j:Nat) (h:j<s.length) (hc:s.getD j 0=a):spD a (s.drop j)= []::spD a (s.drop (j+1)):=by
 rw[drop_cons s j h,hc]
 conv=>lhs;unfold spD
 rw[if_neg ha,if_pos rfl]
theorem spD_plain (a:UInt8) (s:Tx) (j:Nat) (h:j<s.length) (h1:s.getD j 0≠92) (h2:s.getD j 0≠a):spD a (s.drop j)=pre [s.getD j 0] (spD a (s.drop (j+1))):=by
 rw[drop_cons s j h]
 conv=>lhs;unfold spD
 rw[if_neg h1,if_neg h2]
theorem piece_more (s:Tx) (f j k:Nat) (h:f≤j) (hj:j≤s.length):(s.take (j+k)).drop f=(s.take j).drop f++(s.drop j).take k:=by
 rw[List.take_add,List.drop_append_of_le_length (by simp;omega)]
theorem take1D (s:Tx) (j:Nat) (h:j<s.length):(s.drop j).take 1= [s.getD j 0]:=by rw[drop_cons s j h];rfl
structure SpI (a:UInt8) (s:Tx) (f j:Nat) (ps:List Tx):Prop where
 fj:f≤j
 jl:j≤s.length+1
 fl:f≤s.length
 pl:ps.length≤f
 eq:spD a s=ps++pre ((s.take j).drop f) (spD a (s.drop j))
theorem SpI.start (a:UInt8) (s:Tx):SpI a s 0 0 []:=⟨Nat.le_refl _,by omega,by omega,by simp,by show spD a s=pre [] (spD a s);rw[pre_nil _ (spD_ne a s)]⟩
theorem SpI.slash {a:UInt8} {s:Tx} {f j:Nat} {ps:List Tx} (I:SpI a s f j ps) (h:j<s.length) (hc:s.getD j 0=92):SpI a s f (j+2) ps:=
 ⟨by have:=I.fj;omega,by omega,I.fl,I.pl,by rw[I.eq,spD_slash a s j h hc,pre_pre _ _ _ (spD_ne _ _),piece_more s f j 2 I.fj (by omega)]⟩
theorem SpI.hit {a:UInt8} (ha:a≠92) {s:Tx} {f j:Nat} {ps:List Tx} (I:SpI a s f j ps) (h:j<s.length) (hc:s.getD j 0=a):SpI a s (j+1) (j+1) (ps++ [(s.take j).drop f]):=
 ⟨Nat.le_refl _,by omega,by omega,by have:=I.pl;have:=I.fj;simp;omega,by
  rw[I.eq,spD_hit a ha s j h hc,List.drop_of_length_le (l:=s.take (j+1)) (by simp;omega),pre_nil _ (spD_ne _ _)];simp[pre]⟩
theorem SpI.plain {a:UInt8} {s:Tx} {f j:Nat} {ps:List Tx} (I:SpI a s f j ps) (h:j<s.length) (h1:s.getD j 0≠92) (h2:s.getD j 0≠a):SpI a s f (j+1) ps:=
 ⟨by have:=I.fj;omega,by omega,I.fl,I.pl,by rw[I.eq,spD_plain a s j h h1 h2,pre_pre _ _ _ (spD_ne _ _),piece_more s f j 1 I.fj (by omega),take1D s j h]⟩
theorem SpI.fin {a:UInt8} {s:Tx} {f j:Nat} {ps:List Tx} (I:SpI a s f j ps) (h:s.length≤j):spD a s=ps++ [s.drop f]:=by
 rw[I.eq,List.drop_of_length_le h,ξT h];simp[spD,pre]
theorem rows_snocD (l:List Tx) (x:Tx):rows rStr l++ [[X.str x]]=rows rStr (l++ [x]):=by simp[rows,rStr]
theorem cD {c a:UInt8} (h:(c.toNat:Int)=a.toNat):c=a:=UInt8.toNat_inj.1 (by omega)
theorem nD {c a:UInt8} (h: ¬(c.toNat:Int)=a.toNat):c≠a:=fun e=>h (by rw[e])
theorem splitD_c (a:UInt8) (ha:a≠92) (s:Tx) (hl:s.length≤1000000):PCalls Tryz.prog 166 [.x (.str s),.x (.int .u8 a.toNat)] (.x (.sl (rows rStr (spD a s)))):=by
 refine FCalls.pure (fcallsG (fz:=true) G_ok (p:=i166) rfl _ (ξ rfl) _ (fun C0 E0=> ?_)) rfl
 dsimp only[i166,qt,qi,qs,qb,qm,qa,qh,qj,qT,qF,qe,ql,qL,qf,q2,q3,q8,qz,qp,qP,qc,qk,qx,qy,qo,qr,qC,argsφ]
 have uu:=trivial
 have tT:=(noTabs_ok:SsOk Tryz.prog noTabs)
 refine nz ?_
 refine rg tT [0,1] ?_
 refine rg tT [0,1,5] ?_
 refine rg tT [0,1,5,6] ?_
 refine rg tT [0,1,5,6,7] ?_
 refine WI.ownA 5 9 1 ?_
 refine WI.loop (fun φ os=> ∃(f j:Nat) (ps:List Tx),φ= [(0,.x (.str s)),(1,.x (.int .u8 a.toNat)),(5,.ref 0 ps.length 0 ps.length),(6,.x (.int .i64 f)),(7,.x (.int .i64 j))]∧os= [.rows false 9 1 (rows rStr ps)]∧SpI a s f j ps) (down (s.length+1) 7) ?_ (fun φ os hI=> ?_)
 ·exact⟨0,0,[],rfl,rfl,SpI.start a s⟩
 ·obtain⟨f,j,ps,rfl,rfl,I⟩:=hI
  have i1:=I.fj
  have i2:=I.jl
  have i3:=I.fl
  have i4:=I.pl
  refine nz ?_
  refine rg tT [0,1,5,6,7,11] ?_
  refine cd (fun h0=> ?_) (fun h0=> ?_)
  ·have hj4:j<s.length:=by omega
   refine rg tT [0,1,5,6,7,16] ?_
   refine rg tT [0,1,5,6,7,16,17] ?_
   refine cd (fun h1=> ?_) (fun h1=> ?_)
   ·have hc:s.getD j 0=92:=c92D (by first|exact h1|simpa using h1)
    refine rg tT [0,1,5,6,7] ?_
    refine WI.orderA [0,1,5,6,7] ?_
    refine rg tT [0,1,5,6,7] ?_
    first|exact⟨⟨f,j+2,ps,rfl,rfl,I.slash hj4 hc⟩,by simp[down,Ab.get,D.val,intOf?];omega⟩|exact⟨⟨j+1,j+1,ps++ [(s.take j).drop f],by rw[ξA];first|done|rfl,by rw[←rows_snocD];first|done|rfl,I.hit ha hj4 hc⟩,by simp[down,Ab.get,D.val,intOf?];omega⟩|exact⟨⟨f,j+1,ps,rfl,rfl,I.plain hj4 hc1 hc2⟩,by simp[down,Ab.get,D.val,intOf?];omega⟩
   ·have hc1:s.getD j 0≠92:=neD (k:=92) (by decide) (by first|exact h1|simpa using h1)
    refine rg tT [0,1,5,6,7,21] ?_
    refine cd (fun h2=> ?_) (fun h2=> ?_)
    ·have hc:s.getD j 0=a:=cD (by first|exact h2|simpa using h2)
     refine rgp tT [0,1,5,7] ?_
     refine pPick [0] ?_
     refine pEnd ?_
     refine nz ?_
     refine rg tT [0,1,5,6,7] ?_
     refine WI.orderA [0,1,5,6,7] ?_
     refine rg tT [0,1,5,6,7] ?_
     first|exact⟨⟨f,j+2,ps,rfl,rfl,I.slash hj4 hc⟩,by simp[down,Ab.get,D.val,intOf?];omega⟩|exact⟨⟨j+1,j+1,ps++ [(s.take j).drop f],by rw[ξA];first|done|rfl,by rw[←rows_snocD];first|done|rfl,I.hit ha hj4 hc⟩,by simp[down,Ab.get,D.val,intOf?];omega⟩|exact⟨⟨f,j+1,ps,rfl,rfl,I.plain hj4 hc1 hc2⟩,by simp[down,Ab.get,D.val,intOf?];omega⟩
    ·have hc2:s.getD j 0≠a:=nD (by first|exact h2|simpa using h2)
     refine WI.orderA [0,1,5,6,7] ?_
     refine rg tT [0,1,5,6,7] ?_
     first|exact⟨⟨f,j+2,ps,rfl,rfl,I.slash hj4 hc⟩,by simp[down,Ab.get,D.val,intOf?];omega⟩|exact⟨⟨j+1,j+1,ps++ [(s.take j).drop f],by rw[ξA];first|done|rfl,by rw[←rows_snocD];first|done|rfl,I.hit ha hj4 hc⟩,by simp[down,Ab.get,D.val,intOf?];omega⟩|exact⟨⟨f,j+1,ps,rfl,rfl,I.plain hj4 hc1 hc2⟩,by simp[down,Ab.get,D.val,intOf?];omega⟩
  ·refine rg tT [4] ?_
   refine lf ?_
   rw[rows_snocD,I.fin (by omega),ξT (by simp[rows])]
def splitDG:List D→Option (Bool×D)
 | [.x (.str s),.x (.int .u8 n)]=>some (decide (s.length≤1000000)&&(decide (n=43∨n=44)),.x (.sl (rows rStr (spD (UInt8.ofNat n.toNat) s))))
 |_=>none
theorem splitDG_ok: ∀args r,splitDG args=some (true,r)→PCalls Tryz.prog 166 args r:=by
 intro args r h
 unfold splitDG at h
 split at h
 ·rename_i s n
  simp only[ξI,ξP,ξa,ξe,true_and]at h
  obtain⟨⟨h1,h2⟩,rfl⟩:=h
  exact(by rcases h2 with rfl|rfl;exact splitD_c 43 (by decide) s h1;exact splitD_c 44 (by decide) s h1)
 ·cases h
def letN (n:Nat):Bool:=decide (97≤n∧n≤122)||decide (65≤n∧n≤90)
def digN (n:Nat):Bool:=decide (48≤n∧n≤57)||decide (n=45)
def tyC (i:Nat) (c:UInt8):Bool:=letN c.toNat||(decide (0<i)&&digN c.toNat)
def tyU (s:List UInt8):Nat→Bool
 |0=>true
 |j+1=>tyU s j&&tyC j (s.getD j 0)
def tyA (s:List UInt8) (j:Nat):Bool:=(decide (s≠ [])&&decide (s.length≤64))&&tyU s j
def typB (s:List UInt8):Bool:=tyA s s.length
theorem typB_eq (s:List UInt8):typB s=(decide (1≤s.length∧s.length≤64)&&tyU s s.length):=by
 unfold typB tyA
 congr 1
 rcases s with _|⟨c,s⟩<;>simp
theorem tyC_low (j:Nat) (c:UInt8):(((decide ((lowC c).toNat≥97)&&decide ((lowC c).toNat≤122))||(decide (j>0)&&((decide ((lowC c).toNat≥48)&&decide ((lowC c).toNat≤57))||decide ((lowC c).toNat=45)))))=tyC j c:=by
 have h8:=UInt8.toNat_lt c
 unfold tyC letN digN
 by_cases h:65≤c.toNat∧c.toNat≤90
 ·have e:(lowC c).toNat=c.toNat+32:=by have:=lowC_up h;omega
  rw[e,Bool.eq_iff_iff];simp only[Bool.or_eq_true,ξa,ξe];omega
 ·have e:lowC c=c:=if_neg h
  rw[e,Bool.eq_iff_iff];simp only[Bool.or_eq_true,ξa,ξe];omega
theorem ty_zero (s:List UInt8):(!s== []&&decide ((s.length:Int)≤64))=tyA s 0:=by
 unfold tyA;rw[tyU,Bool.and_true,Bool.eq_iff_iff];simp;omega
theorem ty_step (s:List UInt8) (j:Nat):(tyA s j&&(decide (((lowC (s.getD j 0)).toNat:Int)≥97)&&decide (((lowC (s.getD j 0)).toNat:Int)≤122)||decide ((j:Int)>0)&&(decide (((lowC (s.getD j 0)).toNat:Int)≥48)&&decide (((lowC (s.getD j 0)).toNat:Int)≤57)||((lowC (s.getD j 0)).toNat:Int)==45)))=tyA s (j+1):=by
 have h:=tyC_low j (s.getD j 0)
 unfold tyA;rw[tyU,←h,←Bool.and_assoc]
 congr 1
 rw[Bool.eq_iff_iff];simp only[Bool.or_eq_true,ξa,ξe,beq_iff_eq];omega
theorem low_row (s:List UInt8) (i:Nat) (h:i<s.length):((lowS s).map byteRow)[i]? =some [X.int .u8 (lowC (s.getD i 0)).toNat]:=by
 simp[lowS,h,byteRow]
def tabTyp:Tabs:=addQ (noTabs) 37 lowerG
theorem tabTyp_ok:SsOk Tryz.prog tabTyp:=addQ_ok (noTabs_ok) (G_enters G_ok (p:=i37) rfl) lowerG_ok
theorem tabTyp_q37 (a:List D):tabTyp.q 37 a=lowerG a:=rfl
theorem tabTyp_r (f:FuncId) (a:List D) (o:List Ob):tabTyp.r f a o=none:=rfl
theorem tabTyp_k (f:FuncId) (a:List D) (o:List Ob):tabTyp.k f a o=none:=rfl
theorem typedD_c (s:List UInt8) (hl:s.length≤1000000):PCalls Tryz.prog 208 [.x (.str s)] (.x (.bool (typB s))):=by
 refine FCalls.pure (fcallsG (fz:=true) G_ok (p:=i208) rfl _ (ξ rfl) _ (fun C0 E0=> ?_)) rfl
 dsimp only[i208,qt,qi,qs,qb,qm,qa,qh,qj,qT,qF,qe,ql,qL,qf,q2,q3,q8,qz,qp,qP,qc,qk,qx,qy,qo,qr,qC,argsφ]
 have uu:=ξn @lowerG.eq_1 (ξn @lowerG.eq_2 (ξn @lowS_len (ξn @bytes_all (ξn @bytes_row (ξn @tabTyp_r (ξn @tabTyp_k (@tabTyp_q37)))))))
 have tT:=tabTyp_ok
 refine nz ?_
 refine WI.regB tT [0] ?_
 refine oS ?_
 refine oN ?_
 refine nz ?_
 refine WI.regB tT [0,3] ?_
 refine oS ?_
 refine oG (hok:=by first|exact se|grind|exact sd) ?_
 refine oS ?_
 iterate 4 refine oG (hok:=by first|exact se|grind|exact sd) ?_
 refine oS ?_
 refine oN ?_
 refine nz ?_
 refine WI.regB tT [3,16,17,18] ?_
 refine oS ?_
 refine oC (hok:=by first|exact se|grind|exact sd) ?_
 iterate 2 refine oG (hok:=by first|exact se|grind|exact sd) ?_
 refine oS ?_
 refine oN ?_
 refine nz ?_
 refine WI.loop (fun φ os=> ∃(j:Nat),φ= [(3,.x (.bool (tyA s j))),(16,.ref 0 s.length 0 s.length),(17,.x (.int .i64 s.length)),(18,.x (.int .i64 j))]∧os= [.rows true 5 1 ((lowS s).map byteRow)]∧j≤s.length) (down s.length 18) ?_ (fun φ os hI=> ?_)
 ·exact⟨0,by rw[←ty_zero];rfl,rfl,by omega⟩
 ·obtain⟨j,rfl,rfl,hj⟩:=hI
  refine nz ?_
  refine WI.regB tT [3,16,17,18,19] ?_
  refine oG (hok:=by first|exact se|grind|exact sd) ?_
  refine oN ?_
  refine nz ?_
  refine cd (fun h0=> ?_) (fun h0=> ?_)
  ·have hj4:j<s.length:=by omega
   have uu:=ξn uu (low_row s j hj4)
   refine WI.regB tT [3,4,5,16,17,18] ?_
   refine oS ?_
   iterate 2 refine oG (hok:=by first|exact se|grind|exact sd) ?_
   iterate 2 refine oS ?_
   refine oN ?_
   refine nz ?_
   refine WI.regB tT [3,4,5,6,16,17,18] ?_
   refine oS ?_
   refine oG (hok:=by first|exact se|grind|exact sd) ?_
   refine oS ?_
   iterate 3 refine oG (hok:=by first|exact se|grind|exact sd) ?_
   refine oS ?_
   refine oN ?_
   refine nz ?_
   refine WI.regB tT [3,16,17,18] ?_
   iterate 2 refine oS ?_
   iterate 18 refine oG (hok:=by first|exact se|grind|exact sd) ?_
   refine oS ?_
   refine oN ?_
   refine nz ?_
   refine WI.regB tT [3,16,17,18] ?_
   refine oG (hok:=by first|exact se|grind|exact sd) ?_
   refine oS ?_
   refine oN ?_
   refine nz ?_
   exact⟨⟨j+1,by rw[←ty_step];rfl,rfl,by omega⟩,by simp[down,Ab.get,D.val,intOf?];omega⟩
  ·refine WI.regB tT [2] ?_
   iterate 2 refine oS ?_
   refine oN ?_
   refine nz ?_
   refine lf ?_
   rw[show typB s=tyA s j from by rw[show j=s.length by omega];rfl]
def typedDG:List D→Option (Bool×D)
 | [.x (.str s)]=>some (decide (s.length≤1000000),.x (.bool (typB s)))
 |_=>none
theorem typedDG_ok: ∀args r,typedDG args=some (true,r)→PCalls Tryz.prog 208 args r:=by
 intro args r h
 unfold typedDG at h
 split at h
 ·rename_i s
  simp only[ξI,ξP,ξa,ξe,true_and]at h
  obtain⟨h1,rfl⟩:=h
  exact(typedD_c s h1)
 ·cases h
theorem typedS_c (s:List UInt8) (hl:s.length≤1000000):PCalls Tryz.prog 114 [.x (.str s)] (.x (.bool (typB s))):=by
 refine FCalls.pure (fcallsG (fz:=true) G_ok (p:=i114) rfl _ (ξ rfl) _ (fun C0 E0=> ?_)) rfl
 dsimp only[i114,qt,qi,qs,qb,qm,qa,qh,qj,qT,qF,qe,ql,qL,qf,q2,q3,q8,qz,qp,qP,qc,qk,qx,qy,qo,qr,qC,argsφ]
 have uu:=ξn @lowerG.eq_1 (ξn @lowerG.eq_2 (ξn @lowS_len (ξn @bytes_all (ξn @bytes_row (ξn @tabTyp_r (ξn @tabTyp_k (@tabTyp_q37)))))))
 have tT:=tabTyp_ok
 refine nz ?_
 refine WI.regB tT [0] ?_
 refine oS ?_
 refine oN ?_
 refine nz ?_
 refine WI.regB tT [0,3] ?_
 refine oS ?_
 refine oG (hok:=by first|exact se|grind|exact sd) ?_
 refine oS ?_
 iterate 4 refine oG (hok:=by first|exact se|grind|exact sd) ?_
 refine oS ?_
 refine oN ?_
 refine nz ?_
 refine WI.regB tT [3,16,17,18] ?_
 refine oS ?_
 refine oC (hok:=by first|exact se|grind|exact sd) ?_
 iterate 2 refine oG (hok:=by first|exact se|grind|exact sd) ?_
 refine oS ?_
 refine oN ?_
 refine nz ?_
 refine WI.loop (fun φ os=> ∃(j:Nat),φ= [(3,.x (.bool (tyA s j))),(16,.ref 0 s.length 0 s.length),(17,.x (.int .i64 s.length)),(18,.x (.int .i64 j))]∧os= [.rows true 5 1 ((lowS s).map byteRow)]∧j≤s.length) (down s.length 18) ?_ (fun φ os hI=> ?_)
 ·exact⟨0,by rw[←ty_zero];rfl,rfl,by omega⟩
 ·obtain⟨j,rfl,rfl,hj⟩:=hI
  refine nz ?_
  refine WI.regB tT [3,16,17,18,19] ?_
  refine oG (hok:=by first|exact se|grind|exact sd) ?_
  refine oN ?_
  refine nz ?_
  refine cd (fun h0=> ?_) (fun h0=> ?_)
  ·have hj4:j<s.length:=by omega
   have uu:=ξn uu (low_row s j hj4)
   refine WI.regB tT [3,4,5,16,17,18] ?_
   refine oS ?_
   iterate 2 refine oG (hok:=by first|exact se|grind|exact sd) ?_
   iterate 2 refine oS ?_
   refine oN ?_
   refine nz ?_
   refine WI.regB tT [3,4,5,6,16,17,18] ?_
   refine oS ?_
   refine oG (hok:=by first|exact se|grind|exact sd) ?_
   refine oS ?_
   iterate 3 refine oG (hok:=by first|exact se|grind|exact sd) ?_
   refine oS ?_
   refine oN ?_
   refine nz ?_
   refine WI.regB tT [3,16,17,18] ?_
   iterate 2 refine oS ?_
   iterate 18 refine oG (hok:=by first|exact se|grind|exact sd) ?_
   refine oS ?_
   refine oN ?_
   refine nz ?_
   refine WI.regB tT [3,16,17,18] ?_
   refine oG (hok:=by first|exact se|grind|exact sd) ?_
   refine oS ?_
   refine oN ?_
   refine nz ?_
   exact⟨⟨j+1,by rw[←ty_step];rfl,rfl,by omega⟩,by simp[down,Ab.get,D.val,intOf?];omega⟩
  ·refine WI.regB tT [2] ?_
   iterate 2 refine oS ?_
   refine oN ?_
   refine nz ?_
   refine lf ?_
   rw[show typB s=tyA s j from by rw[show j=s.length by omega];rfl]
def typedSG:List D→Option (Bool×D)
 | [.x (.str s)]=>some (decide (s.length≤1000000),.x (.bool (typB s)))
 |_=>none
theorem typedSG_ok: ∀args r,typedSG args=some (true,r)→PCalls Tryz.prog 114 args r:=by
 intro args r h
 unfold typedSG at h
 split at h
 ·rename_i s
  simp only[ξI,ξP,ξa,ξe,true_and]at h
  obtain⟨h1,rfl⟩:=h
  exact(typedS_c s h1)
 ·cases h
end Go.Proofs.YtpjfdjcejamebaaGreatDoor
end
section
namespace Go.Proofs
open Go.Shelf Go.RowKit Go.Lib
variable {P:Program} {ρ:Ren}
set_option maxHeartbeats 2000000 in
set_option maxRecDepth 100000 in
theorem Any1.stringslite_Cut_one (L:Lays.n220 P ρ) (s:ByteArray) (b:UInt8) (w:World) (hs:s.size<4294967281):
  Calls P (ρ.f 220) #[.string s,.string ⟨#[b]⟩] w fun e w'=>e= .returned (.tuple #[.string ⟨(Lib.cut s.data.toList [b]).1.toArray⟩,.string ⟨(Lib.cut s.data.toList [b]).2.1.toArray⟩,.bool (Lib.cut s.data.toList [b]).2.2])∧ ∃n,w'=w.drewN n:=by
 rcases Lib.indexB_cases s ⟨#[b]⟩with hix|⟨i,hix,hroom⟩
 ·obtain⟨e1,e2,e3⟩:=Lib.cutB_miss s ⟨#[b]⟩ hix
  rw[show [b]=(⟨#[b]⟩:ByteArray).data.toList from rfl,e1,e2,e3]
  have t3:=L.t3;have t4:=L.t4;have t9:=L.t9
  have a3: ∀w,(isAgg (ρ.t 3)).run P w= .ok false w:=run_isAgg_plain L.t3 rfl;have a4: ∀w,(isAgg (ρ.t 4)).run P w= .ok false w:=run_isAgg_plain L.t4 rfl;have a9: ∀w,(isAgg (ρ.t 9)).run P w= .ok false w:=run_isAgg_plain L.t9 rfl
  have e219: ∀args w,(callFunc (ρ.f 219) args).run P w= .ok (.enter (ρ.f 219) args) w:=enters_of L.f219 (by kernel_rfl) rfl
  have mixed:=L.mixed;have z3:=L.z3;have v3:=L.v3;have z4:=L.z4;have v4:=L.v4;have z9:=L.z9;have v9:=L.v9
  go_enter L.f220,Body.n220_ntmps ρ
  go_wp2_with (go_at_fn (ρ.f 219);refine(Any.stringslite_Index_one {L with} _ _ _).mono ?_;rintro e w' ⟨rfl,rfl⟩;rw[←Lib.index_one,show Lib.index s.data.toList [b]=_ from hix])
  go_ret3
  exact⟨rfl,0,rfl⟩
 ·obtain⟨e1,e2,e3⟩:=Lib.cutB_hit s ⟨#[b]⟩ i hix
  rw[show [b]=(⟨#[b]⟩:ByteArray).data.toList from rfl,e1,e2,e3]
  have hb1:(⟨#[b]⟩:ByteArray).size=1:=rfl
  have c1:(0:Int)≤ ↑i:=by omega
  have c2:(↑i:Int)≤ ↑s.size:=by omega
  have c3:(0:Int)≤ ↑i+1:=by omega
  have c4:(↑i+1:Int)≤ ↑s.size:=by omega
  have t3:=L.t3;have t4:=L.t4;have t9:=L.t9
  have a3: ∀w,(isAgg (ρ.t 3)).run P w= .ok false w:=run_isAgg_plain L.t3 rfl;have a4: ∀w,(isAgg (ρ.t 4)).run P w= .ok false w:=run_isAgg_plain L.t4 rfl;have a9: ∀w,(isAgg (ρ.t 9)).run P w= .ok false w:=run_isAgg_plain L.t9 rfl
  have e219: ∀args w,(callFunc (ρ.f 219) args).run P w= .ok (.enter (ρ.f 219) args) w:=enters_of L.f219 (by kernel_rfl) rfl
  have mixed:=L.mixed;have z3:=L.z3;have v3:=L.v3;have z4:=L.z4;have v4:=L.v4;have z9:=L.z9;have v9:=L.v9
  go_enter L.f220,Body.n220_ntmps ρ
  go_wp2_with (go_at_fn (ρ.f 219);refine(Any.stringslite_Index_one {L with} _ _ _).mono ?_;rintro e w' ⟨rfl,rfl⟩;rw[←Lib.index_one,show Lib.index s.data.toList [b]=_ from hix])
  go_region_o
  go_wp2
  go_ret3
  exact⟨rfl,1,rfl⟩
set_option maxHeartbeats 1000000 in
theorem Any1.strings_Cut_one (L:Lays.n145 P ρ) (s:ByteArray) (b:UInt8) (w:World) (hs:s.size<4294967281):
  Calls P (ρ.f 145) #[.string s,.string ⟨#[b]⟩] w fun e w'=>e= .returned (.tuple #[.string ⟨(Lib.cut s.data.toList [b]).1.toArray⟩,.string ⟨(Lib.cut s.data.toList [b]).2.1.toArray⟩,.bool (Lib.cut s.data.toList [b]).2.2])∧ ∃n,w'=w.drewN n:=by
 have t4:=L.t4;have t9:=L.t9;have t59:=L.t59
 have a4: ∀w,(isAgg (ρ.t 4)).run P w= .ok false w:=run_isAgg_plain L.t4 rfl;have a9: ∀w,(isAgg (ρ.t 9)).run P w= .ok false w:=run_isAgg_plain L.t9 rfl;have a59: ∀w,(isAgg (ρ.t 59)).run P w= .ok false w:=run_isAgg_plain L.t59 rfl
 have e220: ∀args w,(callFunc (ρ.f 220) args).run P w= .ok (.enter (ρ.f 220) args) w:=enters_of L.f220 (by kernel_rfl) rfl
 have mixed:=L.mixed;have z4:=L.z4;have v4:=L.v4;have z9:=L.z9;have v9:=L.v9;have z59:=L.z59;have v59:=L.v59
 go_enter L.f145,Body.n145_ntmps ρ
 go_wp2_with (go_at_fn (ρ.f 220);refine(Any1.stringslite_Cut_one {L with} _ _ _ hs).mono ?_;rintro e w' ⟨rfl,n,rfl⟩)
 go_ret3
 exact⟨rfl,n,rfl⟩
end Go.Proofs
namespace Go.Proofs.YtpjfdjcejamebaaGreatDoor
open Go.RowKit Go.Bo Go.Ab
def cutB (c:UInt8):List UInt8→List UInt8×List UInt8×Bool
 | []=>([],[],false)
 |b::l=>if b=c then([],l,true)else(b::(cutB c l).1,(cutB c l).2.1,(cutB c l).2.2)
theorem cutB_eq (c:UInt8): ∀s,Lib.cut s [c]=cutB c s
 | []=>by simp[Lib.cut,cutB,Lib.index]
 |b::l=>by
  have ih:=cutB_eq c l
  unfold Lib.cut at ih⊢
  by_cases h:b=c
  ·subst h
   have hp: [b].isPrefixOf (b::l)=true:=by simp[List.isPrefixOf]
   simp[Lib.index,hp,cutB]
  ·have hp: [c].isPrefixOf (b::l)=false:=by simp[List.isPrefixOf];exact fun e=>h e.symm
   rw[cutB,if_neg h,←ih]
   have hn:=Lib.index_ge l [c]
   by_cases hi:Lib.index l [c]= -1
   ·simp[Lib.index,hp,hi]
   ·obtain⟨n,hn⟩: ∃n:Nat,Lib.index l [c]=n:=⟨(Lib.index l [c]).toNat,by omega⟩
    simp only[Lib.index,hp,hn,ξC,ξN]
    simp
    omega
theorem cut_c (s:List UInt8) (c:UInt8) (hl:s.length≤1000000):PCalls Tryz.prog 206 [.x (.str s),.x (.str [c])] (.tup [.x (.str (cutB c s).1),.x (.str (cutB c s).2.1),.x (.bool (cutB c s).2.2)]):=by
 intro w st vs hst hvl
 obtain⟨hsz,hv⟩:=hvl
 obtain⟨v0,v1,rfl⟩: ∃v0 v1,vs= #[v0,v1]:=by
  obtain⟨vl⟩:=vs
  match vl,hsz with
  | [a,b],_=>exact⟨a,b,rfl⟩
 have h0:=hv 0 _ v0 rfl rfl
 have h1:=hv 1 _ v1 rfl rfl
 cases h0 with
 |x h0=>
 cases h1 with
 |x h1=>
 cases h1 with
 |str _=>
 cases h0 with
 |str _=>
 have hbs:(bstr s).size=s.length:=by simp[bstr,ByteArray.size]
 refine(Any1.strings_Cut_one Tryz.lays145 (bstr s) c w (by omega)).mono ?_
 rintro e w' ⟨rfl,n,rfl⟩
 refine⟨_,st,rfl,⟨rfl,rfl,rfl,by simp[World.drewN],fun _ _ _=>rfl⟩,fun _ _ h=>h,fun _ _ h=> .inl h,?_⟩
 have e1:(bstr s).data.toList=s:=by simp[bstr]
 rw[e1,cutB_eq]
 exact V.tup3 (V.mkstr _ _ _) (V.mkstr _ _ _) (.x (.bool _))
theorem cut_enters:Go.Ab.Enters Tryz.prog 206:=Go.Proofs.enters_of Tryz.lays145.f145 (by kernel_rfl) rfl
def cutG:List D→Option (Bool×D)
 | [.x (.str s),.x (.str [c])]=>some (decide (s.length≤1000000),.tup [.x (.str (cutB c s).1),.x (.str (cutB c s).2.1),.x (.bool (cutB c s).2.2)])
 |_=>none
theorem cutG_ok: ∀args r,cutG args=some (true,r)→PCalls Tryz.prog 206 args r:=by
 intro args r h
 unfold cutG at h
 split at h
 ·rename_i s c
  simp only[ξI,ξP,ξa,ξe,true_and]at h
  obtain⟨h1,rfl⟩:=h
  exact(cut_c s c h1)
 ·cases h
abbrev Av:=Tx×Tx
def rAva:RC Av:=⟨2,fun p=> [.str p.1,.str p.2],fun
 | [.str a,.str b]=>some (a,b)
 |_=>none⟩
theorem good_rAva:rAva.Good:=⟨fun _=>rfl,fun _=>rfl,fun r x h=>by
 simp only[rAva]at h
 split at h
 ·cases h;rfl
 ·cases h⟩
abbrev rRdn:RC (List Av):=rSl rAva
theorem good_rRdn:rRdn.Good:=good_rSl good_rAva
theorem un_A (l:List Av):unrows rAva (rows rAva l)=some l:=unrows_rows good_rAva l
theorem un_R (l:List (List Av)):unrows rRdn (rows rRdn l)=some l:=unrows_rows good_rRdn l
theorem rows_snocA (l:List Av) (a b:Tx):rows rAva l++ [[X.str a,X.str b]]=rows rAva (l++ [(a,b)]):=by simp[rows,rAva]
theorem rows_snocR (l:List (List Av)) (x:List Av):rows rRdn l++ [[X.sl (rows rAva x)]]=rows rRdn (l++ [x]):=by simp[rows,rRdn,rSl]
def pairS (s:Tx):Av×Bool:=
 if(cutB 61 s).2.2=false∨typB (trim (cutB 61 s).1)=false then(([],[]),false)
 else((trim (cutB 61 s).1,(valD (cutB 61 s).2.1).1),(valD (cutB 61 s).2.1).2)
theorem cutB_lenD (c:UInt8): ∀s,(cutB c s).1.length≤s.length∧(cutB c s).2.1.length≤s.length
 | []=>by simp[cutB]
 |b::l=>by
  obtain⟨h1,h2⟩:=cutB_lenD c l
  unfold cutB
  split
  ·simp
  ·simp;omega
theorem trim_len (s:Tx):(trim s).length≤s.length:=Nat.le_trans (trL_len _) (trR_len _)
def tabDn7:Tabs:=addQ (addQ (addQ (addQ (noTabs) 206 cutG) 207 trimG) 208 typedDG) 209 valDG
theorem tabDn7_ok:SsOk Tryz.prog tabDn7:=addQ_ok (addQ_ok (addQ_ok (addQ_ok (noTabs_ok) cut_enters cutG_ok) (G_enters G_ok (p:=i207) rfl) trimG_ok) (G_enters G_ok (p:=i208) rfl) typedDG_ok) (G_enters G_ok (p:=i209) rfl) valDG_ok
theorem tabDn7_q206 (a:List D):tabDn7.q 206 a=cutG a:=rfl
theorem tabDn7_q207 (a:List D):tabDn7.q 207 a=trimG a:=rfl
theorem tabDn7_q208 (a:List D):tabDn7.q 208 a=typedDG a:=rfl
theorem tabDn7_q209 (a:List D):tabDn7.q 209 a=valDG a:=rfl
theorem tabDn7_r (f:FuncId) (a:List D) (o:List Ob):tabDn7.r f a o=none:=rfl
theorem tabDn7_k (f:FuncId) (a:List D) (o:List Ob):tabDn7.k f a o=none:=rfl
theorem pairD_c (s:Tx) (hl:s.length≤900000):PCalls Tryz.prog 187 [.x (.str s)] (.tup [.agg [.x (.str (pairS s).1.1),.x (.str (pairS s).1.2)],.x (.bool (pairS s).2)]):=by
 have h1:=cutB_lenD 61 s
 have h2:=trim_len (cutB 61 s).1
 rcases hq:pairS s with⟨⟨a,v⟩,ok⟩
 unfold pairS at hq
 refine FCalls.pure (fcallsG (fz:=true) G_ok (p:=i187) rfl _ (ξ rfl) _ (fun C0 E0=> ?_)) rfl
 dsimp only[i187,qt,qi,qs,qb,qm,qa,qh,qj,qT,qF,qe,ql,qL,qf,q2,q3,q8,qz,qp,qP,qc,qk,qx,qy,qo,qr,qC,argsφ]
 have uu:=ξn @cutG.eq_1 (ξn @cutG.eq_2 (ξn @trimG.eq_1 (ξn @trimG.eq_2 (ξn @typedDG.eq_1 (ξn @typedDG.eq_2 (ξn @valDG.eq_1 (ξn @valDG.eq_2 (ξn @tabDn7_r (ξn @tabDn7_k (ξn @tabDn7_q206 (ξn @tabDn7_q207 (ξn @tabDn7_q208 (@tabDn7_q209)))))))))))))
 have tT:=tabDn7_ok
 refine nz ?_
 refine WI.regB tT [0,2] ?_
 refine oG ?_
 refine oS ?_
 refine oN ?_
 refine nz ?_
 refine WI.regB tT [2,4,5,6] ?_
 refine oS ?_
 refine oC (hok:=by first|exact se|(clear uu;grind)|exact sd) ?_
 refine oS ?_
 iterate 3 refine oG ?_
 iterate 3 refine oS ?_
 refine oN ?_
 refine nz ?_
 refine WI.regB tT [2,4,5,6] ?_
 refine oS ?_
 refine oC (hok:=by first|exact se|(clear uu;grind)|exact sd) ?_
 refine oS ?_
 refine oN ?_
 refine nz ?_
 refine WI.regB tT [2,4,5,22] ?_
 refine oS ?_
 refine oG (hok:=by first|exact se|(clear uu;grind)|exact sd) ?_
 refine oS ?_
 refine oG (hok:=by first|exact se|(clear uu;grind)|exact sd) ?_
 refine oC (hok:=by first|exact se|(clear uu;grind)|exact sd) ?_
 iterate 2 refine oG (hok:=by first|exact se|(clear uu;grind)|exact sd) ?_
 refine oN ?_
 refine nz ?_
 refine cd (fun h0=> ?_) (fun h0=> ?_)
 ·refine WI.regB tT [2,3] ?_
  iterate 2 refine oG (hok:=by first|exact se|(clear uu;grind)|exact sd) ?_
  refine oS ?_
  refine oN ?_
  refine nz ?_
  refine lf ?_
  rw[if_pos (by clear uu;grind)]at hq;cases hq;rfl
 ·refine WI.regB tT [2,4,6,7] ?_
  refine oS ?_
  refine oC (hok:=by first|exact se|(clear uu;grind)|exact sd) ?_
  refine oS ?_
  iterate 2 refine oG ?_
  iterate 2 refine oS ?_
  refine oN ?_
  refine nz ?_
  refine WI.regB tT [2,3] ?_
  iterate 2 refine oS ?_
  refine oG (hok:=by first|exact se|(clear uu;grind)|exact sd) ?_
  refine oS ?_
  refine oG (hok:=by first|exact se|(clear uu;grind)|exact sd) ?_
  refine oS ?_
  refine oN ?_
  refine nz ?_
  refine lf ?_
  rw[if_neg (by clear uu;grind)]at hq;cases hq;rfl
def pairDG:List D→Option (Bool×D)
 | [.x (.str s)]=>some (decide (s.length≤900000),.tup [.agg [.x (.str (pairS s).1.1),.x (.str (pairS s).1.2)],.x (.bool (pairS s).2)])
 |_=>none
theorem pairDG_ok: ∀args r,pairDG args=some (true,r)→PCalls Tryz.prog 187 args r:=by
 intro args r h
 unfold pairDG at h
 split at h
 ·rename_i s
  simp only[ξI,ξP,ξa,ξe,true_and]at h
  obtain⟨h1,rfl⟩:=h
  exact(pairD_c s h1)
 ·cases h
theorem pre_len (p:Tx) (l:List Tx) (n:Nat) (h: ∀x∈l,x.length+p.length≤n) (hp:p.length≤n): ∀x∈pre p l,x.length≤n:=by
 rcases l with _|⟨y,l⟩
 ·intro x hx;simp[pre]at hx;subst hx;exact hp
 ·intro x hx
  simp only[pre,List.mem_cons]at hx
  rcases hx with rfl|hx
  ·have:=h y (by simp);simp;omega
  ·have:=h x (by simp[hx]);omega
theorem pre_cnt (p:Tx) (l:List Tx) (n:Nat) (h:l.length≤n) (h1:1≤n):(pre p l).length≤n:=by
 rcases l with _|⟨y,l⟩
 ·exact h1
 ·exact h
theorem spD_1 {a c:UInt8} {r:Tx} (h1:c≠92) (h2:c=a):spD a (c::r)= []::spD a r:=by
 conv=>lhs;unfold spD
 rw[if_neg h1,if_pos h2]
theorem spD_2 {a c:UInt8} {r:Tx} (h1:c≠92) (h2:c≠a):spD a (c::r)=pre [c] (spD a r):=by
 conv=>lhs;unfold spD
 rw[if_neg h1,if_neg h2]
theorem spD_bnd (a:UInt8): ∀(n:Nat) (s:Tx),s.length≤n→(∀x∈spD a s,x.length≤s.length)∧(spD a s).length≤s.length+1
 |_,[],_=>by simp[spD]
 |n+1,c::r,hn=>by
  have hn':r.length≤n:=by simpa using hn
  by_cases h1:c=92
  ·rcases r with _|⟨d,r⟩
   ·subst h1;simp[spD]
   ·obtain⟨h2,h3⟩:=spD_bnd a n r (by simp at hn';omega)
    have e:spD a (c::d::r)=pre [c,d] (spD a r):=by subst h1;rfl
    rw[e]
    exact⟨pre_len _ _ _ (fun x hx=>by have:=h2 x hx;simp;omega) (by simp),pre_cnt _ _ _ (by simp;omega) (by simp)⟩
  ·obtain⟨h2,h3⟩:=spD_bnd a n r hn'
   by_cases h4:c=a
   ·have e:spD a (c::r)= []::spD a r:=spD_1 h1 h4
    rw[e]
    refine⟨fun x hx=> ?_,by simp;omega⟩
    rcases List.mem_cons.1 hx with rfl|hx
    ·simp
    ·have:=h2 x hx;simp;omega
   ·have e:spD a (c::r)=pre [c] (spD a r):=spD_2 h1 h4
    rw[e]
    exact⟨pre_len _ _ _ (fun x hx=>by have:=h2 x hx;simp;omega) (by simp),pre_cnt _ _ _ (by simp;omega) (by simp)⟩
def partL (s:Tx):List (Av×Bool):=(spD 43 s).map pairS
def partS (s:Tx):List Av×Bool:=if(partL s).all (·.2)=true then((partL s).map (·.1),true)else([],false)
theorem all_take_false {α:Type} (p:α→Bool) (l:List α) (j:Nat) (h:j<l.length) (hp:p l[j]=false):l.all p=false:=by
 rw[Bool.eq_false_iff];intro hh
 have:=List.all_eq_true.1 hh l[j] (List.getElem_mem h)
 rw[hp]at this;cases this
theorem all_snoc {α:Type} (p:α→Bool) (l:List α) (j:Nat) (h:j<l.length):(l.take (j+1)).all p=((l.take j).all p&&p l[j]):=by
 rw[List.take_succ_eq_append_getElem h,List.all_append];simp
def tabDn9:Tabs:=addQ (addQ (noTabs) 166 splitDG) 187 pairDG
theorem tabDn9_ok:SsOk Tryz.prog tabDn9:=addQ_ok (addQ_ok (noTabs_ok) (G_enters G_ok (p:=i166) rfl) splitDG_ok) (G_enters G_ok (p:=i187) rfl) pairDG_ok
theorem tabDn9_q166 (a:List D):tabDn9.q 166 a=splitDG a:=rfl
theorem tabDn9_q187 (a:List D):tabDn9.q 187 a=pairDG a:=rfl
theorem tabDn9_r (f:FuncId) (a:List D) (o:List Ob):tabDn9.r f a o=none:=rfl
theorem tabDn9_k (f:FuncId) (a:List D) (o:List Ob):tabDn9.k f a o=none:=rfl
theorem partD_c (s:Tx) (hl:s.length≤900000):PCalls Tryz.prog 167 [.x (.str s)] (.tup [.x (.sl (rows rAva (partS s).1)),.x (.bool (partS s).2)]):=by
 obtain⟨hb1,hb2⟩:=spD_bnd 43 _ s (Nat.le_refl _)
 rcases hq:partS s with⟨d,ok⟩
 unfold partS partL at hq
 have hsp:spD (UInt8.ofNat (43:Int).toNat) s=spD 43 s:=rfl
 refine FCalls.pure (fcallsG (fz:=true) G_ok (p:=i167) rfl _ (ξ rfl) _ (fun C0 E0=> ?_)) rfl
 dsimp only[i167,qt,qi,qs,qb,qm,qa,qh,qj,qT,qF,qe,ql,qL,qf,q2,q3,q8,qz,qp,qP,qc,qk,qx,qy,qo,qr,qC,argsφ]
 have uu:=ξn @splitDG.eq_1 (ξn @splitDG.eq_2 (ξn @pairDG.eq_1 (ξn @pairDG.eq_2 (ξn hsp (ξn @tabDn9_r (ξn @tabDn9_k (ξn @tabDn9_q166 (@tabDn9_q187))))))))
 have tT:=tabDn9_ok
 refine nz ?_
 refine rg tT [0] ?_
 refine rg tT [0,4] ?_
 refine rg tT [4,10,11,12] ?_
 refine WI.ownA 4 161 2 ?_
 generalize spD 43 s=l at hq hb1 hb2⊢
 refine WI.loop (fun φ os=> ∃(j:Nat),φ= [(4,.ref 0 j 0 j),(10,.x (.sl (rows rStr l))),(11,.x (.int .i64 l.length)),(12,.x (.int .i64 j))]∧os= [.rows false 161 2 (rows rAva ((l.take j).map fun x=>(pairS x).1))]∧j≤l.length∧(l.take j).all (fun x=>(pairS x).2)=true) (down l.length 12) ?_ (fun φ os hI=> ?_)
 ·exact⟨0,rfl,rfl,by omega,rfl⟩
 ·obtain⟨j,rfl,rfl,hj,hall⟩:=hI
  refine nz ?_
  refine rg tT [4,10,11,12,13] ?_
  refine cd (fun h0=> ?_) (fun h0=> ?_)
  ·have hj4:j<l.length:=by omega
   have hbj:=hb1 _ (List.getElem_mem hj4)
   have hsc:decide (l[j].length≤900000)=true:=ξt (by omega)
   have uu:=ξn uu hsc
   refine rg tT [4,6,10,11,12] ?_
   refine rg tT [4,7,8,10,11,12] ?_
   refine rg tT [4,7,10,11,12,22] ?_
   refine cd (fun h1=> ?_) (fun h1=> ?_)
   ·have hf:(l.map pairS).all (·.2)=false:=by rw[List.all_map];exact all_take_false _ l j hj4 (by simpa using h1)
    rw[if_neg (by rw[hf];decide)]at hq
    refine rg tT [2,3] ?_
    refine WI.nnA ?_
    refine lf ?_
    cases hq;rfl
   ·refine rgp tT [4,10,11,12] ?_
    refine pPick [0] ?_
    refine pEnd ?_
    refine nz ?_
    refine WI.orderA [4,10,11,12] ?_
    refine rg tT [4,10,11,12] ?_
    exact⟨⟨j+1,rfl,by rw[List.take_succ_eq_append_getElem hj4,List.map_append,List.map_singleton,←rows_snocA],by omega,by rw[all_snoc _ l j hj4,hall];simpa using h1⟩,by simp[down,Ab.get,D.val,intOf?];omega⟩
  ·have e1:(rows rAva ((l.take j).map fun x=>(pairS x).1)).length=j:=by simp[rows];omega
   have e2:(l.take j).length=j:=by simp;omega
   have uu:=ξn uu (ξn e1 e2)
   refine rg tT [2,3] ?_
   refine WI.nnA ?_
   refine lf ?_
   have hf:(l.map pairS).all (·.2)=true:=by rw[List.all_map];rw[ξT (by omega)]at hall;exact hall
   rw[if_pos hf]at hq
   cases hq
   rw[ξT (l:=l) (by omega),ξT (by simp[rows];omega),List.map_map];rfl
def partDG:List D→Option (Bool×D)
 | [.x (.str s)]=>some (decide (s.length≤900000),.tup [.x (.sl (rows rAva (partS s).1)),.x (.bool (partS s).2)])
 |_=>none
theorem partDG_ok: ∀args r,partDG args=some (true,r)→PCalls Tryz.prog 167 args r:=by
 intro args r h
 unfold partDG at h
 split at h
 ·rename_i s
  simp only[ξI,ξP,ξa,ξe,true_and]at h
  obtain⟨h1,rfl⟩:=h
  exact(partD_c s h1)
 ·cases h
def lowsA (r:List Av):List Tx:=r.map fun p=>lowS p.1
def oneP (r:List Av) (j:Nat):Bool:=typB (r.getD j ([],[])).1&&(!((r.getD j ([],[])).2== [])&&(decide ((r.getD j ([],[])).2.length≤256)&& !decide (lowS (r.getD j ([],[])).1∈lowsA (r.take j))))
def okP (r:List Av):Nat→Bool
 |0=>true
 |j+1=>okP r j&&oneP r j
def mayB (r:List Av):Bool:=okP r r.length&&decide (1≤r.length∧r.length≤8)
theorem okP_no (r:List Av): ∀(n j:Nat),j<n→oneP r j=false→okP r n=false
 |n+1,j,hj,h=>by
  rw[okP]
  by_cases e:j=n
  ·subst e;rw[h,Bool.and_false]
  ·rw[okP_no r n j (by omega) h,Bool.false_and]
def seenM (r:List Av) (j:Nat):List (Tx×Int):=(r.take j).map fun p=>(lowS p.1,(1:Int))
theorem look_in: ∀(l:List Av) (k:Tx),mlook (l.map fun p=>(lowS p.1,(1:Int))) k=if k∈lowsA l then some 1 else none
 | [],k=>by simp[lowsA,mlook]
 |p::l,k=>by
  have ih:=look_in l k
  by_cases h:k=lowS p.1
  ·simp[mlook,h,lowsA]
  ·have e:(k∈lowsA (p::l))=(k∈lowsA l):=by simp[lowsA,h]
   have e2:mlook ((p::l).map fun p=>(lowS p.1,(1:Int))) k=mlook (l.map fun p=>(lowS p.1,(1:Int))) k:=by simp[mlook,h]
   rw[e2,ih]
   simp only[e]
theorem seen_set (r:List Av) (j:Nat) (h:j<r.length) (hn:lowS (r.getD j ([],[])).1∉lowsA (r.take j)):mset (seenM r j) (lowS (r.getD j ([],[])).1) 1=seenM r (j+1):=by
 unfold seenM
 rw[mset_new (by rw[look_in,if_neg hn]),List.take_succ_eq_append_getElem h,List.map_append]
 simp[h]
theorem seen_get (r:List Av) (j:Nat) (k:Tx):mgetX (encM kcS kcI (seenM r j)) [X.str k]=if k∈lowsA (r.take j)then some [D.x (X.int .i64 1)]else none:=by
 rw[encM_get kcS kcI hkS (seenM r j) k]
 unfold seenM
 rw[look_in]
 split<;>rfl
theorem ava_row (r:List Av) (j:Nat) (h:j<r.length):(rows rAva r)[j]? =some [X.str (r.getD j ([],[])).1,X.str (r.getD j ([],[])).2]:=by
 simp[rows,h,rAva]
def lowerXG:List D→Option (Bool×D)
 | [.x (.str s)]=>some (decide (s.length≤1000000),.x (.str (lowS s)))
 |_=>none
theorem lowerXG_ok: ∀args r,lowerXG args=some (true,r)→PCalls Tryz.prog 37 args r:=by
 intro args r h
 unfold lowerXG at h
 split at h
 ·rename_i s
  simp only[ξI,ξP,ξa,ξe,true_and]at h
  obtain⟨h1,rfl⟩:=h
  exact(lower_c s (by omega))
 ·cases h
def tabDn10:Tabs:=addQ (addQ (noTabs) 37 lowerXG) 208 typedDG
theorem tabDn10_ok:SsOk Tryz.prog tabDn10:=addQ_ok (addQ_ok (noTabs_ok) (G_enters G_ok (p:=i37) rfl) lowerXG_ok) (G_enters G_ok (p:=i208) rfl) typedDG_ok
theorem tabDn10_q37 (a:List D):tabDn10.q 37 a=lowerXG a:=rfl
theorem tabDn10_q208 (a:List D):tabDn10.q 208 a=typedDG a:=rfl
theorem tabDn10_r (f:FuncId) (a:List D) (o:List Ob):tabDn10.r f a o=none:=rfl
theorem tabDn10_k (f:FuncId) (a:List D) (o:List Ob):tabDn10.k f a o=none:=rfl
theorem may_c (r:List Av) (hb: ∀p∈r,p.1.length≤900000):PCalls Tryz.prog 188 [.x (.sl (rows rAva r))] (.x (.bool (mayB r))):=by
 refine PCalls.wf (fun hw=> ?_)
 have hl:r.length≤maxLen:=by have:=(hw _ (List.mem_cons_self)).1;rwa [rows_len]at this
 clear hw
 simp only[maxLen]at hl
 refine FCalls.pure (fcallsG (fz:=true) G_ok (p:=i188) rfl _ (ξ rfl) _ (fun C0 E0=> ?_)) rfl
 dsimp only[i188,qt,qi,qs,qb,qm,qa,qh,qj,qT,qF,qe,ql,qL,qf,q2,q3,q8,qz,qp,qP,qc,qk,qx,qy,qo,qr,qC,argsφ]
 have uu:=ξn @lowerXG.eq_1 (ξn @lowerXG.eq_2 (ξn @typedDG.eq_1 (ξn @typedDG.eq_2 (ξn @tabDn10_r (ξn @tabDn10_k (ξn @tabDn10_q208 (@tabDn10_q37)))))))
 have tT:=tabDn10_ok
 refine nz ?_
 refine WI.regB tT [0] ?_
 refine oS ?_
 refine oN ?_
 refine nz ?_
 refine WI.regB tT [0,3] ?_
 refine oG (hok:=by first|exact se|(exact ξt (by omega))|(clear uu;grind)|exact sd) ?_
 refine oS ?_
 refine oN ?_
 refine nz ?_
 refine WI.regB tT [0,3,8,9,10] ?_
 refine oS ?_
 refine oG (hok:=by first|exact se|(exact ξt (by omega))|(clear uu;grind)|exact sd) ?_
 refine oS ?_
 refine oN ?_
 refine nz ?_
 refine WI.loop (fun φ os=> ∃(j:Nat),φ= [(0,.x (.sl (rows rAva r))),(3,.mref 0),(8,.x (.sl (rows rAva r))),(9,.x (.int .i64 r.length)),(10,.x (.int .i64 j))]∧os= [.mpo .str false (encM kcS kcI (seenM r j))]∧j≤r.length∧okP r j=true) (down r.length 10) ?_ (fun φ os hI=> ?_)
 ·exact⟨0,rfl,rfl,by omega,rfl⟩
 ·obtain⟨j,rfl,rfl,hj,hok⟩:=hI
  refine nz ?_
  refine WI.regB tT [0,3,8,9,10,11] ?_
  refine oG (hok:=by first|exact se|(exact ξt (by omega))|(clear uu;grind)|exact sd) ?_
  refine oN ?_
  refine nz ?_
  refine cd (fun h0=> ?_) (fun h0=> ?_)
  ·have hj4:j<r.length:=by omega
   have har:=ava_row r j hj4
   have hbj:(r.getD j ([],[])).1.length≤900000:=by rw[show r.getD j ([],[])=r[j] by simp[hj4]];exact hb _ (List.getElem_mem hj4)
   have hgt:=seen_get r j (lowS (r.getD j ([],[])).1)
   have uu:=ξn uu har
   refine WI.regB tT [0,3,5,8,9,10] ?_
   iterate 2 refine oG (hok:=by first|exact se|(exact ξt (by omega))|(clear uu;grind)|exact sd) ?_
   refine oG ?_
   refine oG (hok:=by first|exact se|(exact ξt (by omega))|(clear uu;grind)|exact sd) ?_
   refine oN ?_
   refine nz ?_
   refine WI.regB tT [0,3,5,6,8,9,10] ?_
   refine oS ?_
   refine oG (hok:=by first|exact se|(exact ξt (by omega))|(clear uu;grind)|exact sd) ?_
   refine oC (hok:=by first|exact se|(exact ξt (by omega))|(clear uu;grind)|exact sd) ?_
   refine oS ?_
   refine oN ?_
   refine nz ?_
   by_cases hin:lowS (r.getD j ([],[])).1∈lowsA (r.take j)
   ·rw[if_pos hin]at hgt
    have uu:=ξn uu hgt
    refine WI.regB tT [0,3,6,8,9,10,37] ?_
    refine oS ?_
    refine oG (hok:=by first|exact se|(exact ξt (by omega))|(clear uu;grind)|exact sd) ?_
    refine oC (hok:=by first|exact se|(exact ξt (by omega))|(clear uu;grind)|exact sd) ?_
    refine oG (hok:=by first|exact se|(exact ξt (by omega))|(clear uu;grind)|exact sd) ?_
    refine oS ?_
    iterate 4 refine oG (hok:=by first|exact se|(exact ξt (by omega))|(clear uu;grind)|exact sd) ?_
    refine oS ?_
    iterate 5 refine oG (hok:=by first|exact se|(exact ξt (by omega))|(clear uu;grind)|exact sd) ?_
    refine oS ?_
    iterate 5 refine oG (hok:=by first|exact se|(exact ξt (by omega))|(clear uu;grind)|exact sd) ?_
    refine oN ?_
    refine nz ?_
    refine ct (fun h1=> ?_) (fun h1=> ?_)
    ·refine WI.regB tT [2] ?_
     refine oS ?_
     refine oN ?_
     refine nz ?_
     refine lf ?_
     have hno:oneP r j=false:=by unfold oneP;rw[ξt hin];simp
     rw[show mayB r=false by unfold mayB;rw[okP_no r r.length j hj4 hno];rfl]
    ·clear uu;simp at h1
   ·rw[if_neg hin]at hgt
    have uu:=ξn uu hgt
    have hset:=encM_set kcS kcI hkS (seenM r j) (lowS (r.getD j ([],[])).1) 1
    rw[seen_set r j hj4 hin]at hset
    have hset':msetX (encM kcS kcI (seenM r j)) [X.str (lowS (r.getD j ([],[])).1)] [D.x (X.int .i64 1)]=encM kcS kcI (seenM r (j+1)):=hset
    have uu:=ξn uu hset'
    refine WI.regB tT [0,3,6,8,9,10,37] ?_
    refine oS ?_
    refine oG (hok:=by first|exact se|(exact ξt (by omega))|(clear uu;grind)|exact sd) ?_
    refine oC (hok:=by first|exact se|(exact ξt (by omega))|(clear uu;grind)|exact sd) ?_
    refine oG (hok:=by first|exact se|(exact ξt (by omega))|(clear uu;grind)|exact sd) ?_
    refine oS ?_
    iterate 4 refine oG (hok:=by first|exact se|(exact ξt (by omega))|(clear uu;grind)|exact sd) ?_
    refine oS ?_
    iterate 5 refine oG (hok:=by first|exact se|(exact ξt (by omega))|(clear uu;grind)|exact sd) ?_
    refine oS ?_
    iterate 5 refine oG (hok:=by first|exact se|(exact ξt (by omega))|(clear uu;grind)|exact sd) ?_
    refine oN ?_
    refine nz ?_
    refine cd (fun h1=> ?_) (fun h1=> ?_)
    ·refine WI.regB tT [2] ?_
     refine oS ?_
     refine oN ?_
     refine nz ?_
     refine lf ?_
     have hno:oneP r j=false:=by unfold oneP;clear uu;grind
     rw[show mayB r=false by unfold mayB;rw[okP_no r r.length j hj4 hno];rfl]
    ·have hone:oneP r j=true:=by unfold oneP;rw[decide_eq_false hin];clear uu;grind
     refine WI.post ?_
     refine WI.regB tT [0,3,8,9,10] ?_
     iterate 2 refine oS ?_
     iterate 3 refine oG (hok:=by first|exact se|(exact ξt (by omega))|(clear uu;grind)|exact sd) ?_
     refine oP ?_
     refine pPick [0] ?_ (ho:=by simp (disch:=decide) only[zV,zO,Ob.mpb,frzL,nrmφ,nrmO,onF,Ob.onI,mpP,renP,Option.map_some,Option.map_none,D.vw,vwL,D.on,D.inP,inL,memB,D.ren,renL,inv,fpO,Ob.mp,Ob.ren,D.nn,nnφ,Nat.reduceBEq,Nat.reduceEqDiff,Nat.reduceAdd,↓reduceIte,encM_on,encM_ren];rfl)
     refine pEnd ?_
     refine nz ?_
     refine WI.regB tT [0,3,8,9,10] ?_
     refine oG (hok:=by first|exact se|(exact ξt (by omega))|(clear uu;grind)|exact sd) ?_
     refine oS ?_
     refine oN ?_
     refine nz ?_
     exact⟨⟨j+1,rfl,by first|done|rfl,by omega,by rw[okP,hok,hone];rfl⟩,by simp[down,Ab.get,D.val,intOf?];omega⟩
  ·refine WI.regB tT [2] ?_
   refine oS ?_
   iterate 2 refine oG (hok:=by first|exact se|(exact ξt (by omega))|(clear uu;grind)|exact sd) ?_
   refine oS ?_
   iterate 4 refine oG (hok:=by first|exact se|(exact ξt (by omega))|(clear uu;grind)|exact sd) ?_
   refine oS ?_
   refine oN ?_
   refine nz ?_
   refine lf ?_
   have hz:r.length=j:=by omega
   rw[show mayB r=decide (1≤r.length∧r.length≤8) by unfold mayB;rw[hz,hok,Bool.true_and]]
   congr 2;rw[Bool.eq_iff_iff];simp;omega
def mayG:List D→Option (Bool×D)
 | [.x (.sl R)]=>(unrows rAva R).bind fun r=>some (decide (∀p∈r,p.1.length≤900000),.x (.bool (mayB r)))
 |_=>none
theorem mayG_ok: ∀args r,mayG args=some (true,r)→PCalls Tryz.prog 188 args r:=by
 intro args r h
 unfold mayG at h
 split at h
 ·rename_i R
  obtain⟨r,hr0,h⟩:=ξB h
  simp only[ξI,ξP,ξa,ξe,true_and]at h
  obtain⟨h1,rfl⟩:=h
  rw[←rows_unrows good_rAva hr0]
  exact(may_c r h1)
 ·cases h
abbrev Dn:=List (List Av)
def smD (d:Dn):Prop:= ∀r∈d,∀p∈r,p.1.length≤900000
instance (d:Dn):Decidable (smD d):=by unfold smD;infer_instance
def chkDn (d:Dn):Int:=if d.length>32 then 3 else if d.all mayB=true then 0 else 5
theorem rdn_row (d:Dn) (j:Nat) (h:j<d.length):(rows rRdn d)[j]? =some [X.sl (rows rAva (d.getD j []))]:=by
 simp[rows,h,rRdn,rSl]
def tabDn11:Tabs:=addQ (noTabs) 188 mayG
theorem tabDn11_ok:SsOk Tryz.prog tabDn11:=addQ_ok (noTabs_ok) (G_enters G_ok (p:=i188) rfl) mayG_ok
theorem tabDn11_q188 (a:List D):tabDn11.q 188 a=mayG a:=rfl
theorem tabDn11_r (f:FuncId) (a:List D) (o:List Ob):tabDn11.r f a o=none:=rfl
theorem tabDn11_k (f:FuncId) (a:List D) (o:List Ob):tabDn11.k f a o=none:=rfl
theorem chkD2_c (d:Dn) (hb:smD d):PCalls Tryz.prog 168 [.x (.sl (rows rRdn d))] (.x (.int .i64 (chkDn d))):=by
 unfold chkDn
 refine FCalls.pure (fcallsG (fz:=true) G_ok (p:=i168) rfl _ (ξ rfl) _ (fun C0 E0=> ?_)) rfl
 dsimp only[i168,qt,qi,qs,qb,qm,qa,qh,qj,qT,qF,qe,ql,qL,qf,q2,q3,q8,qz,qp,qP,qc,qk,qx,qy,qo,qr,qC,argsφ]
 have uu:=ξn @mayG.eq_1 (ξn @mayG.eq_2 (ξn @un_A (ξn @tabDn11_r (ξn @tabDn11_k (@tabDn11_q188)))))
 have tT:=tabDn11_ok
 refine nz ?_
 refine rg tT [0] ?_
 refine rg tT [0,7] ?_
 refine cd (fun h0=> ?_) (fun h0=> ?_)
 ·refine rg tT [2] ?_
  refine lf ?_
  rw[if_pos (by omega)]
 ·refine rg tT [8,9,10] ?_
  refine WI.loop (fun φ os=> ∃(j:Nat),φ= [(8,.x (.sl (rows rRdn d))),(9,.x (.int .i64 d.length)),(10,.x (.int .i64 j))]∧os= []∧j≤d.length∧(d.take j).all mayB=true) (down d.length 10) ?_ (fun φ os hI=> ?_)
  ·exact⟨0,rfl,rfl,by omega,rfl⟩
  ·obtain⟨j,rfl,rfl,hj,hall⟩:=hI
   refine nz ?_
   refine rg tT [8,9,10,11] ?_
   refine cd (fun h1=> ?_) (fun h1=> ?_)
   ·have hj4:j<d.length:=by omega
    have hdj:d[j]=d.getD j []:=by simp[hj4]
    have hsm:decide (∀p∈d.getD j [],p.1.length≤900000)=true:=ξt (by rw[←hdj];exact hb _ (List.getElem_mem hj4))
    have uu:=ξn uu (ξn (rdn_row d j hj4) hsm)
    refine rg tT [4,8,9,10] ?_
    refine rg tT [8,9,10,16] ?_
    refine cd (fun h2=> ?_) (fun h2=> ?_)
    ·refine rg tT [2] ?_
     refine lf ?_
     rw[if_neg (by omega),if_neg (by rw[all_take_false mayB d j hj4 (by rw[hdj];simpa using h2)];decide)]
    ·refine rg tT [8,9,10] ?_
     exact⟨⟨j+1,rfl,rfl,by omega,by rw[all_snoc _ d j hj4,hall,hdj];simpa using h2⟩,by simp[down,Ab.get,D.val,intOf?];omega⟩
   ·refine rg tT [2] ?_
    refine lf ?_
    rw[ξT (by omega)]at hall;rw[if_neg (by omega),if_pos hall]
def chkD2G:List D→Option (Bool×D)
 | [.x (.sl R)]=>(unrows rRdn R).bind fun d=>some (decide (smD d),.x (.int .i64 (chkDn d)))
 |_=>none
theorem chkD2G_ok: ∀args r,chkD2G args=some (true,r)→PCalls Tryz.prog 168 args r:=by
 intro args r h
 unfold chkD2G at h
 split at h
 ·rename_i R
  obtain⟨d,hr0,h⟩:=ξB h
  simp only[ξI,ξP,ξa,ξe,true_and]at h
  obtain⟨h1,rfl⟩:=h
  rw[←rows_unrows good_rRdn hr0]
  exact(chkD2_c d h1)
 ·cases h
def mxD:Dn→Nat
 | []=>0
 |r::d=>max r.length (mxD d)
theorem mxD_snoc: ∀(d:Dn) (r:List Av),mxD (d++ [r])=max (mxD d) r.length
 | [],r=>by simp[mxD]
 |x::d,r=>by rw[List.cons_append,mxD,mxD,mxD_snoc d r];omega
theorem mxD_eq (a b:Nat):(if(a:Int)>(b:Int)then(a:Int)else(b:Int))=((max b a:Nat):Int):=by split<;>omega
def readL (s:Tx):List (List Av×Bool):=(spD 44 s).map partS
def nameL (s:Tx):Dn:=(readL s).map (·.1)
def readS (s:Tx):Dn×Int:=
 if s.length>4096 then([],3)else if s= []then([],0)
 else if(readL s).all (·.2)=true then(if mxD (nameL s)>8 then([],3)else if chkDn (nameL s)≠0 then([],chkDn (nameL s))else(nameL s,0))
 else([],5)
theorem pairS_len (s:Tx):(pairS s).1.1.length≤s.length:=by
 unfold pairS
 have h1:=(cutB_lenD 61 s).1
 have h2:=trim_len (cutB 61 s).1
 split
 ·simp
 ·simp;omega
theorem partS_sm (s:Tx) (hs:s.length≤900000): ∀p∈(partS s).1,p.1.length≤900000:=by
 unfold partS partL
 split
 ·intro p hp
  obtain⟨q,h1,rfl⟩:=List.mem_map.1 hp
  obtain⟨x,h2,rfl⟩:=List.mem_map.1 h1
  have:=(spD_bnd 43 _ s (Nat.le_refl _)).1 x h2
  have:=pairS_len x
  omega
 ·intro p hp;simp at hp
theorem partS_cnt (s:Tx) (hs:s.length≤900000):(partS s).1.length≤900001:=by
 unfold partS partL
 split
 ·have:=(spD_bnd 43 _ s (Nat.le_refl _)).2
  simp;omega
 ·simp
theorem nameL_sm (s:Tx) (hs:s.length≤900000):smD (nameL s):=by
 intro r hr
 unfold nameL readL at hr
 obtain⟨q,h1,rfl⟩:=List.mem_map.1 hr
 obtain⟨x,h2,rfl⟩:=List.mem_map.1 h1
 have:=(spD_bnd 44 _ s (Nat.le_refl _)).1 x h2
 exact partS_sm x (by omega)
def tabDn12:Tabs:=addQ (addQ (addQ (noTabs) 166 splitDG) 167 partDG) 168 chkD2G
theorem tabDn12_ok:SsOk Tryz.prog tabDn12:=addQ_ok (addQ_ok (addQ_ok (noTabs_ok) (G_enters G_ok (p:=i166) rfl) splitDG_ok) (G_enters G_ok (p:=i167) rfl) partDG_ok) (G_enters G_ok (p:=i168) rfl) chkD2G_ok
theorem tabDn12_q166 (a:List D):tabDn12.q 166 a=splitDG a:=rfl
theorem tabDn12_q167 (a:List D):tabDn12.q 167 a=partDG a:=rfl
theorem tabDn12_q168 (a:List D):tabDn12.q 168 a=chkD2G a:=rfl
theorem tabDn12_r (f:FuncId) (a:List D) (o:List Ob):tabDn12.r f a o=none:=rfl
theorem tabDn12_k (f:FuncId) (a:List D) (o:List Ob):tabDn12.k f a o=none:=rfl
theorem readD_c (s:Tx):PCalls Tryz.prog 131 [.x (.str s)] (.tup [.x (.sl (rows rRdn (readS s).1)),.x (.int .i64 (readS s).2)]):=by
 rcases hq:readS s with⟨d,e⟩
 unfold readS at hq
 have hsp:spD (UInt8.ofNat (44:Int).toNat) s=spD 44 s:=rfl
 refine FCalls.pure (fcallsG (fz:=true) G_ok (p:=i131) rfl _ (ξ rfl) _ (fun C0 E0=> ?_)) rfl
 dsimp only[i131,qt,qi,qs,qb,qm,qa,qh,qj,qT,qF,qe,ql,qL,qf,q2,q3,q8,qz,qp,qP,qc,qk,qx,qy,qo,qr,qC,argsφ]
 have uu:=ξn @splitDG.eq_1 (ξn @splitDG.eq_2 (ξn @partDG.eq_1 (ξn @partDG.eq_2 (ξn @chkD2G.eq_1 (ξn @chkD2G.eq_2 (ξn hsp (ξn @un_R (ξn @un_A (ξn @tabDn12_r (ξn @tabDn12_k (ξn @tabDn12_q166 (ξn @tabDn12_q167 (@tabDn12_q168)))))))))))))
 have tT:=tabDn12_ok
 refine nz ?_
 refine rg tT [0] ?_
 refine rg tT [0,11] ?_
 refine cd (fun h0=> ?_) (fun h0=> ?_)
 ·refine rg tT [2,3] ?_
  refine WI.nnA ?_
  refine lf ?_
  rw[if_pos (by omega)]at hq;cases hq;rfl
 ·refine rg tT [0,15] ?_
  refine cd (fun h1=> ?_) (fun h1=> ?_)
  ·refine rg tT [2,3] ?_
   refine WI.nnA ?_
   refine lf ?_
   rw[if_neg (by omega),if_pos (by simpa using h1)]at hq;cases hq;rfl
  ·have hne:s≠ []:=by simpa using h1
   rw[if_neg (by omega),if_neg hne]at hq
   have hs:s.length≤900000:=by omega
   obtain⟨hb1,hb2⟩:=spD_bnd 44 _ s (Nat.le_refl _)
   have hsm:=nameL_sm s hs
   refine rg tT [0,4] ?_
   refine rg tT [0,4,5] ?_
   refine rg tT [4,5,19,20,21] ?_
   refine WI.ownA 4 159 1 ?_
   have hrl:readL s=(spD 44 s).map partS:=rfl
   have hnl:nameL s=((spD 44 s).map partS).map (·.1):=rfl
   generalize spD 44 s=l at hb1 hb2 hrl hnl⊢
   generalize readL s=rl at hq hrl
   generalize nameL s=nl at hq hnl hsm
   subst hrl hnl
   refine WI.loop (fun φ os=> ∃(j:Nat),φ= [(4,.ref 0 j 0 j),(5,.x (.int .i64 (mxD ((l.take j).map fun x=>(partS x).1)))),(19,.x (.sl (rows rStr l))),(20,.x (.int .i64 l.length)),(21,.x (.int .i64 j))]∧os= [.rows false 159 1 (rows rRdn ((l.take j).map fun x=>(partS x).1))]∧j≤l.length∧(l.take j).all (fun x=>(partS x).2)=true) (down l.length 21) ?_ (fun φ os hI=> ?_)
   ·exact⟨0,rfl,rfl,by omega,rfl⟩
   ·obtain⟨j,rfl,rfl,hj,hall⟩:=hI
    refine nz ?_
    refine rg tT [4,5,19,20,21,22] ?_
    refine cd (fun h2=> ?_) (fun h2=> ?_)
    ·have hj4:j<l.length:=by omega
     have hbj:=hb1 _ (List.getElem_mem hj4)
     have hpc:=partS_cnt l[j] (by omega)
     have hsc:decide (l[j].length≤900000)=true:=ξt (by omega)
     have hmt:(l.take (j+1)).map (fun x=>(partS x).1)=(l.take j).map (fun x=>(partS x).1)++ [(partS l[j]).1]:=by rw[List.take_succ_eq_append_getElem hj4,List.map_append];rfl
     have hmx:mxD ((l.take (j+1)).map fun x=>(partS x).1)=max (mxD ((l.take j).map fun x=>(partS x).1)) (partS l[j]).1.length:=by rw[hmt,mxD_snoc]
     have uu:=ξn uu hsc
     refine rg tT [4,5,7,19,20,21] ?_
     refine rg tT [4,5,8,9,19,20,21] ?_
     refine rg tT [4,5,8,19,20,21,31] ?_
     refine cd (fun h3=> ?_) (fun h3=> ?_)
     ·have hf:(l.map partS).all (·.2)=false:=by rw[List.all_map];exact all_take_false _ l j hj4 (by simpa using h3)
      rw[if_neg (by rw[hf];decide)]at hq
      refine rg tT [2,3] ?_
      refine WI.nnA ?_
      refine lf ?_
      cases hq;rfl
     ·refine rg tT [4,5,8,19,20,21] ?_
      refine rgp tT [4,5,19,20,21] ?_
      refine pPick [0] ?_
      refine pEnd ?_
      refine nz ?_
      refine WI.orderA [4,5,19,20,21] ?_
      refine rg tT [4,5,19,20,21] ?_
      exact⟨⟨j+1,by rw[hmx,mxD_eq];first|done|rfl,by rw[hmt,←rows_snocR];first|done|rfl,by omega,by rw[all_snoc _ l j hj4,hall];simpa using h3⟩,by simp[down,Ab.get,D.val,intOf?];omega⟩
    ·obtain rfl:j=l.length:=by omega
     rw[List.take_length]at hall⊢
     have hf:(l.map partS).all (·.2)=true:=by rw[List.all_map];exact hall
     rw[if_pos hf]at hq
     have hmm:(l.map partS).map (·.1)=l.map (fun x=>(partS x).1):=by rw[List.map_map];rfl
     rw[hmm]at hq hsm
     have hml:(l.map fun x=>(partS x).1).length=l.length:=List.length_map ..
     generalize(l.map fun x=>(partS x).1)=m at hq hsm hml⊢
     have e1:m.take l.length=m:=ξT (by omega)
     have e2:decide (smD m)=true:=ξt hsm
     have uu:=ξn uu (ξn hml (ξn e1 e2))
     refine rg tT [4,42] ?_
     refine cd (fun h4=> ?_) (fun h4=> ?_)
     ·refine rg tT [2,3] ?_
      refine WI.nnA ?_
      refine lf ?_
      rw[if_pos (by omega)]at hq;cases hq;rfl
     ·rw[if_neg (by omega)]at hq
      refine rg tT [4,10] ?_
      refine rg tT [4,10,46] ?_
      refine cd (fun h5=> ?_) (fun h5=> ?_)
      ·refine rg tT [2,3] ?_
       refine WI.nnA ?_
       refine lf ?_
       rw[if_pos (by simpa using h5)]at hq;cases hq;rfl
      ·refine rg tT [2,3] ?_
       refine WI.nnA ?_
       refine lf ?_
       rw[if_neg (by simpa using h5)]at hq;cases hq;first|rfl|rw[e1]
def readDG:List D→Option (Bool×D)
 | [.x (.str s)]=>some (true,.tup [.x (.sl (rows rRdn (readS s).1)),.x (.int .i64 (readS s).2)])
 |_=>none
theorem readDG_ok: ∀args r,readDG args=some (true,r)→PCalls Tryz.prog 131 args r:=by
 intro args r h
 unfold readDG at h
 split at h
 ·rename_i s
  simp only[ξI,ξP,ξa,ξe,true_and]at h
  obtain rfl:=h
  exact(readD_c s)
 ·cases h
theorem mayM_c (r:List Av) (hb: ∀p∈r,p.1.length≤900000) (hl:r.length≤1000000):MCalls Tryz.prog 188 [.ref 0 r.length 0 r.length] [.rows false 161 2 (rows rAva r)] (.x (.bool (mayB r))) [.rows false 161 2 (rows rAva r)]:=by
 refine FCalls.mcalls (fcallsG (fz:=true) G_ok (p:=i188) rfl _ (ξ rfl) _ (fun C0 E0=> ?_))
 dsimp only[i188,qt,qi,qs,qb,qm,qa,qh,qj,qT,qF,qe,ql,qL,qf,q2,q3,q8,qz,qp,qP,qc,qk,qx,qy,qo,qr,qC,argsφ]
 have uu:=ξn @lowerXG.eq_1 (ξn @lowerXG.eq_2 (ξn @typedDG.eq_1 (ξn @typedDG.eq_2 (ξn @tabDn10_r (ξn @tabDn10_k (ξn @tabDn10_q208 (@tabDn10_q37)))))))
 have tT:=tabDn10_ok
 refine nz ?_
 refine WI.regB tT [0] ?_
 refine oS ?_
 refine oN ?_
 refine nz ?_
 refine WI.regB tT [0,3] ?_
 refine oG (hok:=by first|exact se|(exact ξt (by omega))|(clear uu;grind)|exact sd) ?_
 refine oS ?_
 refine oN ?_
 refine nz ?_
 refine WI.regB tT [0,3,8,9,10] ?_
 refine oS ?_
 refine oG (hok:=by first|exact se|(exact ξt (by omega))|(clear uu;grind)|exact sd) ?_
 refine oS ?_
 refine oN ?_
 refine nz ?_
 refine WI.loop (fun φ os=> ∃(j:Nat),φ= [(0,.ref 0 r.length 0 r.length),(3,.mref 1),(8,.ref 0 r.length 0 r.length),(9,.x (.int .i64 r.length)),(10,.x (.int .i64 j))]∧os= [.rows false 161 2 (rows rAva r),.mpo .str false (encM kcS kcI (seenM r j))]∧j≤r.length∧okP r j=true) (down r.length 10) ?_ (fun φ os hI=> ?_)
 ·exact⟨0,rfl,rfl,by omega,rfl⟩
 ·obtain⟨j,rfl,rfl,hj,hok⟩:=hI
  refine nz ?_
  refine WI.regB tT [0,3,8,9,10,11] ?_
  refine oG (hok:=by first|exact se|(exact ξt (by omega))|(clear uu;grind)|exact sd) ?_
  refine oN ?_
  refine nz ?_
  refine cd (fun h0=> ?_) (fun h0=> ?_)
  ·have hj4:j<r.length:=by omega
   have har:=ava_row r j hj4
   have hbj:(r.getD j ([],[])).1.length≤900000:=by rw[show r.getD j ([],[])=r[j] by simp[hj4]];exact hb _ (List.getElem_mem hj4)
   have hgt:=seen_get r j (lowS (r.getD j ([],[])).1)
   have uu:=ξn uu har
   refine WI.regB tT [0,3,5,8,9,10] ?_
   iterate 2 refine oG (hok:=by first|exact se|(exact ξt (by omega))|(clear uu;grind)|exact sd) ?_
   refine oG ?_
   refine oG (hok:=by first|exact se|(exact ξt (by omega))|(clear uu;grind)|exact sd) ?_
   refine oN ?_
   refine nz ?_
   refine WI.regB tT [0,3,5,6,8,9,10] ?_
   refine oS ?_
   refine oG (hok:=by first|exact se|(exact ξt (by omega))|(clear uu;grind)|exact sd) ?_
   refine oC (hok:=by first|exact se|(exact ξt (by omega))|(clear uu;grind)|exact sd) ?_
   refine oS ?_
   refine oN ?_
   refine nz ?_
   by_cases hin:lowS (r.getD j ([],[])).1∈lowsA (r.take j)
   ·rw[if_pos hin]at hgt
    have uu:=ξn uu hgt
    refine WI.regB tT [0,3,6,8,9,10,37] ?_
    refine oS ?_
    refine oG (hok:=by first|exact se|(exact ξt (by omega))|(clear uu;grind)|exact sd) ?_
    refine oC (hok:=by first|exact se|(exact ξt (by omega))|(clear uu;grind)|exact sd) ?_
    refine oG (hok:=by first|exact se|(exact ξt (by omega))|(clear uu;grind)|exact sd) ?_
    refine oS ?_
    iterate 4 refine oG (hok:=by first|exact se|(exact ξt (by omega))|(clear uu;grind)|exact sd) ?_
    refine oS ?_
    iterate 5 refine oG (hok:=by first|exact se|(exact ξt (by omega))|(clear uu;grind)|exact sd) ?_
    refine oS ?_
    iterate 5 refine oG (hok:=by first|exact se|(exact ξt (by omega))|(clear uu;grind)|exact sd) ?_
    refine oN ?_
    refine nz ?_
    refine ct (fun h1=> ?_) (fun h1=> ?_)
    ·refine WI.regB tT [2] ?_
     refine oS ?_
     refine oN ?_
     refine nz ?_
     refine WI.pickA [0] ?_
     refine lf ?_
     have hno:oneP r j=false:=by unfold oneP;rw[ξt hin];simp
     rw[show mayB r=false by unfold mayB;rw[okP_no r r.length j hj4 hno];rfl];first|rfl|exact⟨rfl,rfl⟩
    ·clear uu;simp at h1
   ·rw[if_neg hin]at hgt
    have uu:=ξn uu hgt
    have hset:=encM_set kcS kcI hkS (seenM r j) (lowS (r.getD j ([],[])).1) 1
    rw[seen_set r j hj4 hin]at hset
    have hset':msetX (encM kcS kcI (seenM r j)) [X.str (lowS (r.getD j ([],[])).1)] [D.x (X.int .i64 1)]=encM kcS kcI (seenM r (j+1)):=hset
    have uu:=ξn uu hset'
    refine WI.regB tT [0,3,6,8,9,10,37] ?_
    refine oS ?_
    refine oG (hok:=by first|exact se|(exact ξt (by omega))|(clear uu;grind)|exact sd) ?_
    refine oC (hok:=by first|exact se|(exact ξt (by omega))|(clear uu;grind)|exact sd) ?_
    refine oG (hok:=by first|exact se|(exact ξt (by omega))|(clear uu;grind)|exact sd) ?_
    refine oS ?_
    iterate 4 refine oG (hok:=by first|exact se|(exact ξt (by omega))|(clear uu;grind)|exact sd) ?_
    refine oS ?_
    iterate 5 refine oG (hok:=by first|exact se|(exact ξt (by omega))|(clear uu;grind)|exact sd) ?_
    refine oS ?_
    iterate 5 refine oG (hok:=by first|exact se|(exact ξt (by omega))|(clear uu;grind)|exact sd) ?_
    refine oN ?_
    refine nz ?_
    refine cd (fun h1=> ?_) (fun h1=> ?_)
    ·refine WI.regB tT [2] ?_
     refine oS ?_
     refine oN ?_
     refine nz ?_
     refine WI.pickA [0] ?_
     refine lf ?_
     have hno:oneP r j=false:=by unfold oneP;clear uu;grind
     rw[show mayB r=false by unfold mayB;rw[okP_no r r.length j hj4 hno];rfl];first|rfl|exact⟨rfl,rfl⟩
    ·have hone:oneP r j=true:=by unfold oneP;rw[decide_eq_false hin];clear uu;grind
     refine WI.post ?_
     refine WI.regB tT [0,3,8,9,10] ?_
     iterate 2 refine oS ?_
     iterate 3 refine oG (hok:=by first|exact se|(exact ξt (by omega))|(clear uu;grind)|exact sd) ?_
     refine oP ?_
     refine pPick [0,1] ?_ (ho:=by simp (disch:=decide) only[zV,zO,Ob.mpb,frzL,nrmφ,nrmO,onF,Ob.onI,mpP,renP,Option.map_some,Option.map_none,D.vw,vwL,D.on,D.inP,inL,memB,D.ren,renL,inv,fpO,Ob.mp,Ob.ren,D.nn,nnφ,Nat.reduceBEq,Nat.reduceEqDiff,Nat.reduceAdd,↓reduceIte,encM_on,encM_ren];rfl)
     refine pEnd ?_
     refine nz ?_
     refine WI.regB tT [0,3,8,9,10] ?_
     refine oG (hok:=by first|exact se|(exact ξt (by omega))|(clear uu;grind)|exact sd) ?_
     refine oS ?_
     refine oN ?_
     refine nz ?_
     exact⟨⟨j+1,rfl,by first|done|rfl,by omega,by rw[okP,hok,hone];rfl⟩,by simp[down,Ab.get,D.val,intOf?];omega⟩
  ·refine WI.regB tT [2] ?_
   refine oS ?_
   iterate 2 refine oG (hok:=by first|exact se|(exact ξt (by omega))|(clear uu;grind)|exact sd) ?_
   refine oS ?_
   iterate 4 refine oG (hok:=by first|exact se|(exact ξt (by omega))|(clear uu;grind)|exact sd) ?_
   refine oS ?_
   refine oN ?_
   refine nz ?_
   refine WI.pickA [0] ?_
   refine lf ?_
   have hz:r.length=j:=by omega
   rw[show mayB r=decide (1≤r.length∧r.length≤8) by unfold mayB;rw[hz,hok,Bool.true_and]]
   refine⟨?_,rfl⟩
   congr 2;rw[Bool.eq_iff_iff];simp;omega
def RF (d:Dn):List (List D):=refsL 1 (d.map (rows rAva))
def FM (d:Dn):List Ob:=fam 161 2 (d.map (rows rAva))
abbrev obD (d:Dn):List Ob:= .drw 159 1 (RF d)::FM d
theorem RF_len (d:Dn):(RF d).length=d.length:=by unfold RF;rw[refsL_len,List.length_map]
theorem FM_len (d:Dn):(FM d).length=d.length:=by unfold FM;rw[fam_len,List.length_map]
theorem dn_at (d:Dn) (j:Nat) (h:j<d.length):(d.map (rows rAva))[j]? =some (rows rAva (d.getD j [])):=by simp[h]
theorem RF_get (d:Dn) (j:Nat) (h:j<d.length):(RF d)[j]? =some [.ref (j+1) (d.getD j []).length 0 (d.getD j []).length]:=by
 unfold RF
 rw[refsL_get _ 1 j _ (dn_at d j h),rows_len,Nat.add_comm]
theorem FM_get (d:Dn) (Y:List Ob) (j:Nat) (h:j<d.length):(FM d++Y)[j]? =some (.rows false 161 2 (rows rAva (d.getD j []))):=fam_at _ _ _ Y j _ (dn_at d j h)
theorem FM_get' (d:Dn) (j:Nat) (h:j<d.length):(FM d)[j]? =some (.rows false 161 2 (rows rAva (d.getD j []))):=by rw[←FM_get d [] j h,List.append_nil]
theorem FM_set (d:Dn) (Y:List Ob) (j:Nat) (h:j<d.length) (r:List Av):(FM d++Y).set j (.rows false 161 2 (rows rAva r))=FM (d.set j r)++Y:=by
 unfold FM;rw[fam_set _ _ _ Y j _ (by rw[List.length_map];exact h),List.map_set]
theorem FM_set' (d:Dn) (j:Nat) (h:j<d.length) (r:List Av):(FM d).set j (.rows false 161 2 (rows rAva r))=FM (d.set j r):=by
 have:=FM_set d [] j h r
 rwa [List.append_nil,List.append_nil]at this
theorem RF_set (d:Dn) (j:Nat) (r:List Av) (h:r.length=(d.getD j []).length):RF (d.set j r)=RF d:=by
 unfold RF
 refine refsL_congr _ _ _ ?_
 rw[List.map_set,List.map_set,rows_len]
 apply List.ext_getElem?
 intro i
 rw[List.getElem?_set]
 split
 ·rename_i hij
  subst hij
  rw[ξp,ξp]
  by_cases hj:j<d.length
  ·simp[hj,rows_len]at h⊢;rw[h]
  ·simp[hj]
 ·rfl
theorem RF_snoc (d:Dn) (r:List Av):RF (d++ [r])=RF d++ [[.ref (d.length+1) r.length 0 r.length]]:=by
 unfold RF;rw[List.map_append,List.map_singleton,refsL_snoc,List.length_map,rows_len,Nat.add_comm]
theorem FM_snoc (d:Dn) (r:List Av):FM (d++ [r])=FM d++ [.rows false 161 2 (rows rAva r)]:=by
 unfold FM;rw[List.map_append,List.map_singleton,fam_snoc]
theorem obD_inP (d:Dn):(obD d).all (Ob.inP (fun i=>decide (i<(obD d).length)))=true:=outF_inP 159 161 2 (d.map (rows rAva))
theorem may_enters:Enters Tryz.prog 188:=G_enters G_ok (p:=i188) rfl
theorem set_same' (d:Dn) (j:Nat):d.set j (d.getD j [])=d:=by
 by_cases h:j<d.length
 ·rw[show d.getD j []=d[j] by simp[h]];simp
 ·rw[List.set_eq_of_length_le (by omega)]
theorem mayF_c (d:Dn) (j:Nat) (hj:j<d.length) (hb:smD d) (hl:(d.getD j []).length≤1000000):MCalls Tryz.prog 188 [.ref (j+1) (d.getD j []).length 0 (d.getD j []).length] (obD d) (.x (.bool (mayB (d.getD j [])))) (obD d):=by
 have hbj: ∀p∈d.getD j [],p.1.length≤900000:=by rw[show d.getD j []=d[j] by simp[hj]];exact hb _ (List.getElem_mem hj)
 have hc:=mayM_c (d.getD j []) hbj hl
 have:=MCalls.row (args:= [.ref (j+1) (d.getD j []).length 0 (d.getD j []).length]) (OS:=obD d) (j+1) (by rw[show renL (inv [j+1]) [D.ref (j+1) (d.getD j []).length 0 (d.getD j []).length]= [D.ref 0 (d.getD j []).length 0 (d.getD j []).length] by simp only[renL,D.ren,inv,if_true]];exact hc) (by rw[List.getElem?_cons_succ];exact FM_get' d j hj) rfl (by simp[inL,D.inP,memB]) (fun f=>rfl)
 rw[List.set_cons_succ,FM_set' d j hj,set_same']at this
 exact this
theorem chkF_c (d:Dn) (hb:smD d) (hl: ∀r∈d,r.length≤1000000) (hld:d.length≤1000000):MCalls Tryz.prog 168 [.ref 0 d.length 0 d.length] (obD d) (.x (.int .i64 (chkDn d))) (obD d):=by
 have hRl:=RF_len d
 have hFl:=FM_len d
 unfold chkDn
 refine FCalls.mcalls (fcallsG (fz:=true) G_ok (p:=i168) rfl _ (ξ rfl) _ (fun C0 E0=> ?_))
 dsimp only[i168,qt,qi,qs,qb,qm,qa,qh,qj,qT,qF,qe,ql,qL,qf,q2,q3,q8,qz,qp,qP,qc,qk,qx,qy,qo,qr,qC,argsφ]
 have uu:=ξn hRl (ξn hFl (ξn @ptT_t (ξn @ptT_q (ξn @ptT_r (@ptT_k)))))
 have tT:=(noTabs_ok:SsOk Tryz.prog noTabs)
 refine nz ?_
 refine rg tT [0] ?_
 refine rg tT [0,7] ?_
 refine cd (fun h0=> ?_) (fun h0=> ?_)
 ·refine rg tT [2] ?_
  refine lf ?_
  rw[if_pos (by omega)];exact⟨rfl,rfl⟩
 ·refine rg tT [8,9,10] ?_
  refine WI.loop (fun φ os=> ∃(j:Nat),φ= [(8,.ref 0 d.length 0 d.length),(9,.x (.int .i64 d.length)),(10,.x (.int .i64 j))]∧os=obD d∧j≤d.length∧(d.take j).all mayB=true) (down d.length 10) ?_ (fun φ os hI=> ?_)
  ·exact⟨0,rfl,rfl,by omega,rfl⟩
  ·obtain⟨j,rfl,rfl,hj,hall⟩:=hI
   refine nz ?_
   refine rg tT [8,9,10,11] ?_
   refine cd (fun h1=> ?_) (fun h1=> ?_)
   ·have hj4:j<d.length:=by omega
    have hdj:d[j]=d.getD j []:=by simp[hj4]
    have hlj:(d.getD j []).length≤1000000:=by rw[←hdj];exact hl _ (List.getElem_mem hj4)
    have hrf:=RF_get d j hj4
    have hfm:=FM_get' d j hj4
    have uu:=ξn uu (ξn hrf hfm)
    refine rg tT [4,8,9,10] ?_
    refine rg (ptT_ok noTabs_ok may_enters (mayF_c d j hj4 hb hlj)) [8,9,10,16] ?_
    refine cd (fun h2=> ?_) (fun h2=> ?_)
    ·refine rg tT [2] ?_
     refine lf ?_
     rw[if_neg (by omega),if_neg (by rw[all_take_false mayB d j hj4 (by rw[hdj];simpa using h2)];decide)];exact⟨rfl,rfl⟩
    ·refine rg tT [8,9,10] ?_
     exact⟨⟨j+1,rfl,rfl,by omega,by rw[all_snoc _ d j hj4,hall,hdj];simpa using h2⟩,by simp[down,Ab.get,D.val,intOf?];omega⟩
   ·refine rg tT [2] ?_
    refine lf ?_
    rw[ξT (by omega)]at hall;rw[if_neg (by omega),if_pos hall];exact⟨rfl,rfl⟩
theorem partM_c (s:Tx) (hl:s.length≤900000) (hok:(partS s).2=true):MCalls Tryz.prog 167 [.x (.str s)] [] (.tup [.ref 0 (partS s).1.length 0 (partS s).1.length,.x (.bool true)]) [.rows false 161 2 (rows rAva (partS s).1)]:=by
 obtain⟨hb1,hb2⟩:=spD_bnd 43 _ s (Nat.le_refl _)
 have hpl:(partS s).1=(spD 43 s).map (fun x=>(pairS x).1)∧(spD 43 s).all (fun x=>(pairS x).2)=true:=by
  unfold partS partL at hok⊢
  split at hok
  ·rename_i h
   rw[if_pos h]
   rw[List.all_map]at h
   exact⟨by rw[List.map_map];rfl,h⟩
  ·cases hok
 obtain⟨hpl,hpa⟩:=hpl
 rw[hpl]
 clear hok hpl
 have hsp:spD (UInt8.ofNat (43:Int).toNat) s=spD 43 s:=rfl
 refine FCalls.mcalls (fcallsG (fz:=false) G_ok (p:=i167) rfl _ (ξ rfl) _ (fun C0 E0=> ?_))
 dsimp only[i167,qt,qi,qs,qb,qm,qa,qh,qj,qT,qF,qe,ql,qL,qf,q2,q3,q8,qz,qp,qP,qc,qk,qx,qy,qo,qr,qC,argsφ]
 have uu:=ξn @splitDG.eq_1 (ξn @splitDG.eq_2 (ξn @pairDG.eq_1 (ξn @pairDG.eq_2 (ξn hsp (ξn @tabDn9_r (ξn @tabDn9_k (ξn @tabDn9_q166 (@tabDn9_q187))))))))
 have tT:=tabDn9_ok
 refine nz ?_
 refine rg tT [0] ?_
 refine rg tT [0,4] ?_
 refine rg tT [4,10,11,12] ?_
 refine WI.ownA 4 161 2 ?_
 generalize spD 43 s=l at hpa hb1 hb2⊢
 refine WI.loop (fun φ os=> ∃(j:Nat),φ= [(4,.ref 0 j 0 j),(10,.x (.sl (rows rStr l))),(11,.x (.int .i64 l.length)),(12,.x (.int .i64 j))]∧os= [.rows false 161 2 (rows rAva ((l.take j).map fun x=>(pairS x).1))]∧j≤l.length) (down l.length 12) ?_ (fun φ os hI=> ?_)
 ·exact⟨0,rfl,rfl,by omega⟩
 ·obtain⟨j,rfl,rfl,hj⟩:=hI
  refine nz ?_
  refine rg tT [4,10,11,12,13] ?_
  refine cd (fun h0=> ?_) (fun h0=> ?_)
  ·have hj4:j<l.length:=by omega
   have hbj:=hb1 _ (List.getElem_mem hj4)
   have hpj:(pairS l[j]).2=true:=List.all_eq_true.1 hpa _ (List.getElem_mem hj4)
   have hsc:decide (l[j].length≤900000)=true:=ξt (by omega)
   have uu:=ξn uu hsc
   refine rg tT [4,6,10,11,12] ?_
   refine rg tT [4,7,8,10,11,12] ?_
   refine rg tT [4,7,10,11,12,22] ?_
   refine ce (fun h1=> ?_) (fun h1=> ?_)
   ·rw[hpj]at h1;simp at h1
   ·refine rgp tT [4,10,11,12] ?_
    refine pPick [0] ?_
    refine pEnd ?_
    refine nz ?_
    refine WI.orderA [4,10,11,12] ?_
    refine rg tT [4,10,11,12] ?_
    exact⟨⟨j+1,rfl,by rw[List.take_succ_eq_append_getElem hj4,List.map_append,List.map_singleton,←rows_snocA],by omega⟩,by simp[down,Ab.get,D.val,intOf?];omega⟩
  ·have e1:(rows rAva ((l.take j).map fun x=>(pairS x).1)).length=j:=by simp[rows];omega
   have e2:(l.take j).length=j:=by simp;omega
   have uu:=ξn uu (ξn e1 e2)
   refine rg tT [2,3] ?_
   refine lf ?_
   have hz:l.length=j:=by omega
   rw[ξT (l:=l) (by omega),List.length_map,hz];exact⟨rfl,rfl⟩
theorem part_enters:Enters Tryz.prog 167:=G_enters G_ok (p:=i167) rfl
theorem partF_c (d:Dn) (s:Tx) (hl:s.length≤900000) (hok:(partS s).2=true):MCalls Tryz.prog 167 [.x (.str s)] (obD d) (.tup [.ref (d.length+1) (partS s).1.length 0 (partS s).1.length,.x (.bool true)]) (.drw 159 1 (RF d)::FM (d++ [(partS s).1])):=by
 have:=MCalls.new (OS:=obD d) (partM_c s hl hok) rfl (fun p=>rfl)
 rw[List.map_singleton,ξC,FM_len]at this
 rw[FM_snoc]
 exact this
theorem check_enters:Enters Tryz.prog 168:=G_enters G_ok (p:=i168) rfl
theorem read_split (s:Tx) (d:Dn) (hq:readS s=(d,0)) (hne:s≠ []):s.length≤4096∧(spD 44 s).all (fun x=>(partS x).2)=true∧d=(spD 44 s).map (fun x=>(partS x).1)∧mxD d≤8∧chkDn d=0:=by
 unfold readS at hq
 by_cases h1:s.length>4096
 ·rw[if_pos h1]at hq;cases hq
 rw[if_neg h1,if_neg hne]at hq
 by_cases h2:(readL s).all (·.2)=true
 ·rw[if_pos h2]at hq
  by_cases h3:mxD (nameL s)>8
  ·rw[if_pos h3]at hq;cases hq
  rw[if_neg h3]at hq
  by_cases h4:chkDn (nameL s)≠0
  ·rw[if_pos h4]at hq
   simp only[ξP]at hq
   exact absurd hq.2 h4
  rw[if_neg h4]at hq
  simp only[ξP]at hq
  obtain⟨rfl,-⟩:=hq
  refine⟨by omega,?_,?_,by omega,Classical.not_not.1 h4⟩
  ·unfold readL at h2;rw[List.all_map]at h2;exact h2
  ·unfold nameL readL;rw[List.map_map];rfl
 ·rw[if_neg h2]at hq;cases hq
def tabDnC:Tabs:=addQ (noTabs) 166 splitDG
theorem tabDnC_ok:SsOk Tryz.prog tabDnC:=addQ_ok (noTabs_ok) (G_enters G_ok (p:=i166) rfl) splitDG_ok
theorem tabDnC_q166 (a:List D):tabDnC.q 166 a=splitDG a:=rfl
theorem tabDnC_r (f:FuncId) (a:List D) (o:List Ob):tabDnC.r f a o=none:=rfl
theorem tabDnC_k (f:FuncId) (a:List D) (o:List Ob):tabDnC.k f a o=none:=rfl
set_option maxHeartbeats 1000000 in
theorem readF_c (s:Tx) (d:Dn) (hq:readS s=(d,0)) (hne:s≠ []):MCalls Tryz.prog 131 [.x (.str s)] [] (.tup [.ref 0 d.length 0 d.length,.x (.int .i64 0)]) (obD d):=by
 obtain⟨hs4,hall,hd,hmx8,hck⟩:=read_split s d hq hne
 clear hq
 obtain⟨hb1,hb2⟩:=spD_bnd 44 _ s (Nat.le_refl _)
 have hsm:smD d:=by
  have:=nameL_sm s (by omega)
  unfold nameL readL at this
  rw[List.map_map]at this
  rw[hd];exact this
 have hsp:spD (UInt8.ofNat (44:Int).toNat) s=spD 44 s:=rfl
 refine FCalls.mcalls (fcallsG (fz:=false) G_ok (p:=i131) rfl _ (ξ rfl) _ (fun C0 E0=> ?_))
 dsimp only[i131,qt,qi,qs,qb,qm,qa,qh,qj,qT,qF,qe,ql,qL,qf,q2,q3,q8,qz,qp,qP,qc,qk,qx,qy,qo,qr,qC,argsφ]
 have uu:=ξn @splitDG.eq_1 (ξn @splitDG.eq_2 (ξn hsp (ξn @ptT_t (ξn @ptT_q (ξn @ptT_r (ξn @ptT_k (ξn @tabDnC_r (ξn @tabDnC_k (@tabDnC_q166)))))))))
 have tT:=tabDnC_ok
 refine nz ?_
 refine rg tT [0] ?_
 refine rg tT [0,11] ?_
 refine ce (fun h0=> ?_) (fun h0=> ?_)
 ·simp at h0;omega
 ·refine rg tT [0,15] ?_
  refine ce (fun h1=> ?_) (fun h1=> ?_)
  ·exact hne (by simpa using h1)
  ·refine rg tT [0,4] ?_
   refine rg tT [0,4,5] ?_
   refine rg tT [4,5,19,20,21] ?_
   refine WI.ownA 4 159 1 ?_
   refine WI.toDA 0 ?_
   generalize spD 44 s=l at hb1 hb2 hall hd⊢
   refine WI.loop (fun φ os=> ∃(j:Nat),φ= [(4,.ref 0 j 0 j),(5,.x (.int .i64 (mxD ((l.take j).map fun x=>(partS x).1)))),(19,.x (.sl (rows rStr l))),(20,.x (.int .i64 l.length)),(21,.x (.int .i64 j))]∧os=obD ((l.take j).map fun x=>(partS x).1)∧j≤l.length) (down l.length 21) ?_ (fun φ os hI=> ?_)
   ·exact⟨0,rfl,rfl,by omega⟩
   ·obtain⟨j,rfl,rfl,hj⟩:=hI
    refine nz ?_
    refine rg tT [4,5,19,20,21,22] ?_
    refine cd (fun h2=> ?_) (fun h2=> ?_)
    ·have hj4:j<l.length:=by omega
     have hbj:=hb1 _ (List.getElem_mem hj4)
     have hpc:=partS_cnt l[j] (by omega)
     have hpj:(partS l[j]).2=true:=List.all_eq_true.1 hall _ (List.getElem_mem hj4)
     have hmt:(l.take (j+1)).map (fun x=>(partS x).1)=(l.take j).map (fun x=>(partS x).1)++ [(partS l[j]).1]:=by rw[List.take_succ_eq_append_getElem hj4,List.map_append];rfl
     have hmx:mxD ((l.take (j+1)).map fun x=>(partS x).1)=max (mxD ((l.take j).map fun x=>(partS x).1)) (partS l[j]).1.length:=by rw[hmt,mxD_snoc]
     have hml:((l.take j).map fun x=>(partS x).1).length=j:=by rw[List.length_map,List.length_take];omega
     have hcall:=partF_c ((l.take j).map fun x=>(partS x).1) l[j] (by omega) hpj
     rw[hml]at hcall
     generalize hM:(l.take j).map (fun x=>(partS x).1)=M at hmt hmx hml hcall⊢
     generalize hR:(partS l[j]).1=r at hmt hmx hcall hpc⊢
     have hrl:=RF_len M
     have hfl:=FM_len (M++ [r])
     rw[ξA,List.length_singleton,hml]at hfl
     have hfg: ∀x:Ob,(FM (M++ [r])++ [x])[j+1]? =some x:=fun x=>by rw[List.getElem?_append_right (by omega),hfl,Nat.sub_self];rfl
     rw[hml]at hrl
     have hsn:=RF_snoc M r
     rw[hml]at hsn
     have hfm:(FM (M++ [r]))[j]? =some (.rows false 161 2 (rows rAva r)):=by rw[FM_get' (M++ [r]) j (by simp;omega)];simp[hml]
     have uu:=ξn uu (ξn hrl (ξn hfl (ξn hfg hfm)))
     refine rg tT [4,5,7,19,20,21] ?_
     refine rg (ptT_ok noTabs_ok part_enters hcall) [4,5,8,9,19,20,21] ?_
     refine rg tT [4,5,8,19,20,21,31] ?_
     refine ce (fun h3=> ?_) (fun h3=> ?_)
     ·simp at h3
     ·refine rg tT [4,5,8,19,20,21] ?_
      refine WI.post ?_
      refine WI.regB tT [4,5,19,20,21] ?_
      iterate 2 refine oS ?_
      iterate 2 refine oG ?_
      refine oS ?_
      refine oP ?_
      refine pDropT (obD (M++ [r])) _ (by rw[obD,hsn];rfl) (Nat.zero_le _) (obD_inP _) (by simp only[List.all_cons,List.all_nil,D.inP,ξC,hfl];simp) ?_
      refine pEnd ?_
      refine nz ?_
      refine WI.orderA [4,5,19,20,21] ?_
      refine rg tT [4,5,19,20,21] ?_
      exact⟨⟨j+1,by rw[hmx,mxD_eq];first|done|rfl,by rw[hmt],by omega⟩,by simp[down,Ab.get,D.val,intOf?];omega⟩
    ·obtain rfl:j=l.length:=by omega
     rw[List.take_length,←hd]
     have hdl:d.length=l.length:=by rw[hd,List.length_map]
     rw[←hdl]
     have hcc:=chkF_c d hsm (fun r hr=>by rw[hd]at hr;obtain⟨x,h1,rfl⟩:=List.mem_map.1 hr;have:=partS_cnt x (by have:=hb1 x h1;omega);omega) (by omega)
     rw[hck]at hcc
     refine rg tT [4,42] ?_
     refine ce (fun h4=> ?_) (fun h4=> ?_)
     ·simp at h4;omega
     ·refine rg (ptT_ok noTabs_ok check_enters hcc) [4,10] ?_
      refine rg tT [4,10,46] ?_
      refine ce (fun h5=> ?_) (fun h5=> ?_)
      ·simp at h5
      ·refine rg tT [2,3] ?_
       refine lf ?_
       exact⟨rfl,rfl⟩
end Go.Proofs.YtpjfdjcejamebaaGreatDoor
end
