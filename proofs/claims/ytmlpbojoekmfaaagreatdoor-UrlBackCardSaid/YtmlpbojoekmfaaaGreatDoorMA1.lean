import Derived.Test.YtmlpbojoekmfaaaGreatDoorLA5
import Derived.Test.YtmlpbojoekmfaaaGreatDoorIc
import Derived.Test.YtmlpbojoekmfaaaGreatDoorSh
import Derived.Handy
import Derived.Lib.SlBytesConst
import Derived.Shelf.Strings.Cut
set_option linter.unusedSimpArgs false
set_option linter.unusedVariables false
section
namespace Go.Proofs.YtmlpbojoekmfaaaGreatDoor
open Go.RowKit Go.Bo Go.Ab
def lowC (c:UInt8):UInt8:=if 65≤c.toNat∧c.toNat≤90 then UInt8.ofNat (c.toNat+32)else c
theorem lowC_up {c:UInt8} (h:65≤c.toNat∧c.toNat≤90):((lowC c).toNat:Int)=(c.toNat:Int)-65+97:=by
 unfold lowC;rw[if_pos h];simp;omega
def lowS (s:List UInt8):List UInt8:=s.map lowC
def lowL (s:List UInt8) (i:Nat):List UInt8:=(s.take i).map lowC++s.drop i
theorem lowL_len (s:List UInt8) (i:Nat):(lowL s i).length=s.length:=by simp[lowL];omega
theorem lowL_zero (s:List UInt8):lowL s 0=s:=by simp[lowL]
theorem lowL_end (s:List UInt8) (i:Nat) (h:s.length≤i):lowL s i=lowS s:=by simp[lowL,lowS,ξT h,List.drop_of_length_le h]
theorem lowL_get (s:List UInt8) (i:Nat) (h:i<s.length):(lowL s i)[i]'(by rw[lowL_len];exact h)=s[i]:=by
 simp[lowL,List.getElem_append,Nat.min_eq_left (Nat.le_of_lt h)]
theorem lowL_set (s:List UInt8) (i:Nat) (h:i<s.length) (c:UInt8) (hc:c=lowC s[i]):(lowL s i).set i c=lowL s (i+1):=by
 subst hc
 unfold lowL
 rw[List.take_succ_eq_append_getElem h,List.drop_eq_getElem_cons h,List.set_append_right _ _ (by simp;omega)]
 have hm:i-((s.take i).map lowC).length=0:=by simp;omega
 rw[hm,List.set_cons_zero,List.map_append,List.append_assoc];rfl
theorem lowL_row (s:List UInt8) (i:Nat) (h:i<s.length):((lowL s i).map byteRow)[i]? =some [X.int .u8 s[i].toNat]:=by
 have h2:i<(lowL s i).length:=by rw[lowL_len];exact h
 rw[ξp,ξg h2,lowL_get s i h];rfl
theorem lowL_rset (s:List UInt8) (i:Nat) (h:i<s.length) (hc:65≤s[i].toNat∧s[i].toNat≤90):((lowL s i).map byteRow).set i [X.int .u8 (IntKind.u8.wrap (IntKind.u8.wrap ((s[i].toNat:Int)-65)+97))]=(lowL s (i+1)).map byteRow:=by
 have e1:IntKind.u8.wrap ((s[i].toNat:Int)-65)=(s[i].toNat:Int)-65:=IntWalk.u8_in _ (by omega)
 have e2:IntKind.u8.wrap ((s[i].toNat:Int)-65+97)=((lowC s[i]).toNat:Int):=by rw[IntWalk.u8_in _ (by omega),lowC_up hc]
 rw[e1,e2,←lowL_set s i h _ rfl,List.map_set];rfl
theorem lowL_skip (s:List UInt8) (i:Nat) (h:i<s.length) (hc:lowC s[i]=s[i]):lowL s i=lowL s (i+1):=by
 unfold lowL
 rw[List.take_succ_eq_append_getElem h,List.map_append,List.append_assoc,List.drop_eq_getElem_cons h]
 simp[hc]
theorem lowC_no {c:UInt8} (h: ¬(65≤c.toNat∧c.toNat≤90)):lowC c=c:=if_neg h
theorem lower_c (s:List UInt8) (hl:s.length≤1000000):PCalls Tryz.prog 64 [.x (.str s)] (.x (.str (lowS s))):=by
 refine FCalls.pure (fcallsG (fz:=true) G_ok (p:=i64) rfl _ (ξ rfl) _ (fun C0 E0=> ?_)) rfl
 dsimp only[i64,qt,qi,qs,qb,qm,qa,qh,qj,qT,qF,qe,ql,qL,qf,q2,q3,q8,qz,qp,qP,qc,qk,qx,qy,qo,qr,qC,argsφ]
 have uu:=ξn @lowL_len (ξn @bytes_all (@bytes_row))
 have tT:=(noTabs_ok:SsOk Tryz.prog noTabs)
 refine nz ?_
 refine rg tT [0] ?_
 refine rg tT [3] ?_
 refine rg tT [3,8,9,10] ?_
 refine WI.loop (fun φ os=> ∃(i:Nat),φ= [(3,.ref 0 s.length 0 s.length),(8,.ref 0 s.length 0 s.length),(9,.x (.int .i64 s.length)),(10,.x (.int .i64 i))]∧os= [.rows true 5 1 ((lowL s i).map byteRow)]∧i≤s.length) (down s.length 10) ?_ (fun φ os hI=> ?_)
 ·exact⟨0,rfl,by rw[lowL_zero],by omega⟩
 ·obtain⟨i,rfl,rfl,hi⟩:=hI
  refine nz ?_
  refine rg tT [3,8,9,10,11] ?_
  refine cd (fun h0=> ?_) (fun h0=> ?_)
  ·have hi4:i<s.length:=by omega
   have uu:=ξn uu (lowL_row s i hi4)
   have hb8:s[i].toNat<256:=UInt8.toNat_lt _
   refine rg tT [3,4,5,8,9,10] ?_
   refine rg tT [3,4,5,8,9,10,20] ?_
   refine cd (fun h1=> ?_) (fun h1=> ?_)
   ·have hcs:65≤s[i].toNat∧s[i].toNat≤90:=by omega
    have uu:=ξn uu (lowL_rset s i hi4 hcs)
    refine rg tT [3,8,9,10] ?_
    refine rg tT [3,8,9,10] ?_
    exact⟨⟨i+1,by first|rfl|simp,by first|rfl|rw[←hset],by omega⟩,by simp[down,Ab.get,D.val,intOf?];omega⟩
   ·have hcs: ¬(65≤s[i].toNat∧s[i].toNat≤90):=by omega
    have hset:=lowL_skip s i hi4 (lowC_no hcs)
    refine rg tT [3,8,9,10] ?_
    exact⟨⟨i+1,by first|rfl|simp,by first|rfl|rw[←hset],by omega⟩,by simp[down,Ab.get,D.val,intOf?];omega⟩
  ·have e8:((lowL s i).map byteRow).take s.length=(lowS s).map byteRow:=by rw[ξT (by simp[lowL_len]),lowL_end s i (by omega)]
   have uu:=ξn uu e8
   refine rg tT [2] ?_
   refine lf ?_
   first|rfl|exact⟨rfl,rfl⟩|trivial
def lowerG:List D→Option (Bool×D)
 | [.x (.str s)]=>some (decide (s.length≤1000000),.x (.str (lowS s)))
 |_=>none
theorem lowerG_ok: ∀args r,lowerG args=some (true,r)→PCalls Tryz.prog 64 args r:=by
 intro args r h
 unfold lowerG at h
 split at h
 ·rename_i s
  simp only[ξI,ξP,ξa,ξe,true_and]at h
  obtain⟨h1,rfl⟩:=h
  exact(lower_c s h1)
 ·cases h
theorem lowS_len (s:List UInt8):(lowS s).length=s.length:=by simp[lowS]
theorem lowS_take (s:List UInt8) (i:Nat) (h:i<s.length):lowS (s.take (i+1))=lowS (s.take i)++ [lowC (s.getD i 0)]:=by
 rw[show s.getD i 0=s[i] by simp[h]];unfold lowS;rw[List.take_succ_eq_append_getElem h,List.map_append];rfl
theorem bytes_snoc (l:List UInt8) (c:UInt8):(l++ [c]).map byteRow=l.map byteRow++ [[X.int .u8 c.toNat]]:=by rw[List.map_append];rfl
theorem lowC_w {c:UInt8} (h:65≤c.toNat∧c.toNat≤90):IntKind.u8.wrap ((c.toNat:Int)+32)=((lowC c).toNat:Int):=by
 have:=UInt8.toNat_lt c
 rw[IntWalk.u8_in _ (by omega),lowC_up h];omega
theorem lower5_c (s:List UInt8) (hl:s.length≤1000000):PCalls Tryz.prog 52 [.x (.str s)] (.x (.str (lowS s))):=by
 refine FCalls.pure (fcallsG (fz:=true) G_ok (p:=i52) rfl _ (ξ rfl) _ (fun C0 E0=> ?_)) rfl
 dsimp only[i52,qt,qi,qs,qb,qm,qa,qh,qj,qT,qF,qe,ql,qL,qf,q2,q3,q8,qz,qp,qP,qc,qk,qx,qy,qo,qr,qC,argsφ]
 have uu:=ξn @bytes_all (@bytes_row)
 have tT:=(noTabs_ok:SsOk Tryz.prog noTabs)
 refine nz ?_
 refine WI.regB tT [0] ?_
 refine oS ?_
 refine oN ?_
 refine nz ?_
 refine WI.regB tT [0,3] ?_
 refine oS ?_
 refine oN ?_
 refine nz ?_
 refine WI.regB tT [0,3,4] ?_
 refine oS ?_
 refine oN ?_
 refine nz ?_
 refine WI.ownA 3 5 1 ?_
 refine WI.loop (fun φ os=> ∃(i:Nat),φ= [(0,.x (.str s)),(3,.ref 0 (lowS (s.take i)).length 0 (lowS (s.take i)).length),(4,.x (.int .i64 i))]∧os= [.rows false 5 1 ((lowS (s.take i)).map byteRow)]∧i≤s.length) (down s.length 4) ?_ (fun φ os hI=> ?_)
 ·exact⟨0,rfl,rfl,by omega⟩
 ·obtain⟨i,rfl,rfl,hi⟩:=hI
  refine nz ?_
  refine WI.regB tT [0,3,4,9] ?_
  iterate 2 refine oS ?_
  iterate 2 refine oG (hok:=by first|exact se|(exact ξt (by omega))|(rw[ξT (by simp)];exact bytes_all _)|exact sd) ?_
  refine oN ?_
  refine nz ?_
  refine cd (fun h0=> ?_) (fun h0=> ?_)
  ·have hi4:i<s.length:=by omega
   have hlt:(lowS (s.take i)).length≤1000000:=by rw[lowS_len,List.length_take];omega
   have hst:=lowS_take s i hi4
   have hb8:(s.getD i 0).toNat<256:=UInt8.toNat_lt _
   refine WI.regB tT [0,3,4,5] ?_
   iterate 2 refine oS ?_
   refine oG (hok:=by first|exact se|(exact ξt (by omega))|(rw[ξT (by simp)];exact bytes_all _)|exact sd) ?_
   refine oS ?_
   refine oN ?_
   refine nz ?_
   refine WI.regB tT [0,3,4,5,20] ?_
   refine oS ?_
   refine oG (hok:=by first|exact se|(exact ξt (by omega))|(rw[ξT (by simp)];exact bytes_all _)|exact sd) ?_
   refine oS ?_
   iterate 3 refine oG (hok:=by first|exact se|(exact ξt (by omega))|(rw[ξT (by simp)];exact bytes_all _)|exact sd) ?_
   refine oN ?_
   refine nz ?_
   refine cd (fun h1=> ?_) (fun h1=> ?_)
   ·have hcs:65≤(s.getD i 0).toNat∧(s.getD i 0).toNat≤90:=by omega
    refine WI.regB tT [0,3,4,5] ?_
    refine oS ?_
    refine oG (hok:=by first|exact se|(exact ξt (by omega))|(rw[ξT (by simp)];exact bytes_all _)|exact sd) ?_
    refine oS ?_
    refine oN ?_
    refine nz ?_
    refine WI.regB tT [0,3,4] ?_
    iterate 2 refine oS ?_
    iterate 2 refine oG (hok:=by first|exact se|(exact ξt (by omega))|(rw[ξT (by simp)];exact bytes_all _)|exact sd) ?_
    refine oS ?_
    refine oN ?_
    refine nz ?_
    refine WI.post ?_
    refine WI.regB tT [0,3,4] ?_
    refine oS ?_
    refine oG (hok:=by first|exact se|(exact ξt (by omega))|(rw[ξT (by simp)];exact bytes_all _)|exact sd) ?_
    refine oS ?_
    refine oP ?_
    refine pPick [0] ?_
    refine pEnd ?_
    refine nz ?_
    exact⟨⟨i+1,by rw[hst,ξA];rfl,by rw[hst,bytes_snoc];first|rfl|rw[lowC_no hcs]|rw[lowC_w hcs],by omega⟩,by simp[down,Ab.get,D.val,intOf?];omega⟩
   ·have hcs: ¬(65≤(s.getD i 0).toNat∧(s.getD i 0).toNat≤90):=by omega
    refine WI.regB tT [0,3,4] ?_
    iterate 2 refine oS ?_
    iterate 2 refine oG (hok:=by first|exact se|(exact ξt (by omega))|(rw[ξT (by simp)];exact bytes_all _)|exact sd) ?_
    refine oS ?_
    refine oN ?_
    refine nz ?_
    refine WI.post ?_
    refine WI.regB tT [0,3,4] ?_
    refine oS ?_
    refine oG (hok:=by first|exact se|(exact ξt (by omega))|(rw[ξT (by simp)];exact bytes_all _)|exact sd) ?_
    refine oS ?_
    refine oP ?_
    refine pPick [0] ?_
    refine pEnd ?_
    refine nz ?_
    exact⟨⟨i+1,by rw[hst,ξA];rfl,by rw[hst,bytes_snoc];first|rfl|rw[lowC_no hcs]|rw[lowC_w hcs],by omega⟩,by simp[down,Ab.get,D.val,intOf?];omega⟩
  ·have e8:((lowS (s.take i)).map byteRow).take (lowS (s.take i)).length=(lowS s).map byteRow:=by rw[ξT (by simp),ξT (by omega)]
   have uu:=ξn uu e8
   refine WI.regB tT [2] ?_
   refine oS ?_
   refine oG (hok:=by first|exact se|(exact ξt (by omega))|(rw[ξT (by simp)];exact bytes_all _)|exact sd) ?_
   refine oS ?_
   refine oN ?_
   refine nz ?_
   refine lf ?_
   first|rfl|exact⟨rfl,rfl⟩|trivial
abbrev Tx:=List UInt8
def inB (s:Tx) (n:Nat):Bool:=s.any fun x=>x.toNat==n
theorem byte_row (s:Tx) (i:Nat) (h:i<s.length):(s.map byteRow)[i]? =some [X.int .u8 (s.getD i 0).toNat]:=by
 simp[h,byteRow]
theorem dnIn_c (s:Tx) (n:Nat) (hl:s.length≤1000000):PCalls Tryz.prog 127 [.x (.str s),.x (.int .u8 n)] (.x (.bool (inB s n))):=by
 refine FCalls.pure (fcallsG (fz:=true) G_ok (p:=i127) rfl _ (ξ rfl) _ (fun C0 E0=> ?_)) rfl
 dsimp only[i127,qt,qi,qs,qb,qm,qa,qh,qj,qT,qF,qe,ql,qL,qf,q2,q3,q8,qz,qp,qP,qc,qk,qx,qy,qo,qr,qC,argsφ]
 have uu:=ξn @bytes_all (@bytes_row)
 have tT:=(noTabs_ok:SsOk Tryz.prog noTabs)
 refine nz ?_
 refine rg tT [0,1] ?_
 refine rg tT [1,8,9,10] ?_
 refine WI.loop (fun φ os=> ∃(j:Nat),φ= [(1,.x (.int .u8 n)),(8,.ref 0 s.length 0 s.length),(9,.x (.int .i64 s.length)),(10,.x (.int .i64 j))]∧os= [.rows true 5 1 (s.map byteRow)]∧j≤s.length∧inB (s.take j) n=false) (down s.length 10) ?_ (fun φ os hI=> ?_)
 ·exact⟨0,rfl,rfl,by omega,rfl⟩
 ·obtain⟨j,rfl,rfl,hj,hno⟩:=hI
  refine nz ?_
  refine rg tT [1,8,9,10,11] ?_
  refine cd (fun h0=> ?_) (fun h0=> ?_)
  ·have hj4:j<s.length:=by omega
   have hst:inB (s.take (j+1)) n=(inB (s.take j) n||((s.getD j 0).toNat==n)):=by unfold inB;rw[List.take_succ_eq_append_getElem hj4,List.any_append];simp[hj4]
   have uu:=ξn uu (byte_row s j hj4)
   refine rg tT [1,6,8,9,10] ?_
   refine rg tT [1,8,9,10,16] ?_
   refine cd (fun h1=> ?_) (fun h1=> ?_)
   ·refine rg tT [4] ?_
    refine lf ?_
    have hz:((s.getD j 0).toNat:Int)=n:=by first|exact h1|simpa only[beq_iff_eq]using h1
    have hy:(s.getD j 0).toNat=n:=by omega
    rw[show inB s n=true from List.any_eq_true.2 ⟨s[j],List.getElem_mem hj4,by rw[show s[j]=s.getD j 0 by simp[hj4]];simpa using hy⟩]
   ·refine rg tT [1,8,9,10] ?_
    exact⟨⟨j+1,rfl,rfl,by omega,by rw[hst,hno];exact beq_false_of_ne (fun e=>h1 (by rw[e]))⟩,by simp[down,Ab.get,D.val,intOf?];omega⟩
  ·refine rg tT [4] ?_
   refine lf ?_
   rw[ξT (by omega)]at hno;rw[hno]
def dnInG:List D→Option (Bool×D)
 | [.x (.str s),.x (.int .u8 n)]=>some (decide (s.length≤1000000)&&(decide (0≤n)),.x (.bool (inB s n.toNat)))
 |_=>none
theorem dnInG_ok: ∀args r,dnInG args=some (true,r)→PCalls Tryz.prog 127 args r:=by
 intro args r h
 unfold dnInG at h
 split at h
 ·rename_i s n
  simp only[ξI,ξP,ξa,ξe,true_and]at h
  obtain⟨⟨h1,h2⟩,rfl⟩:=h
  exact(by obtain⟨m,rfl⟩: ∃m:Nat,n=m:=⟨n.toNat,by omega⟩;rw[Int.toNat_natCast];exact dnIn_c s m h1)
 ·cases h
def hxD (n:Nat):Nat:=if 48≤n∧n≤57 then n-48 else if 97≤n∧n≤102 then n-97+10 else if 65≤n∧n≤70 then n-65+10 else 16
def hexD (n:Nat):Nat×Bool:=if hxD n<16 then(hxD n,true)else(0,false)
def digL:List UInt8:= [48,49,50,51,52,53,54,55,56,57,97,98,99,100,101,102]
def hitD (d c:Nat):Bool:=d==c||(decide (65≤c∧c≤70)&&d==c+32)
theorem hexD_at: ∀(k:Fin 16) (c:Fin 256),hitD (digL.getD k.val 0).toNat c.val=true→hexD c.val=(k.val,true):=by decide+kernel
theorem hexD_noN: ∀c:Fin 256,(∀k:Fin 16,hitD (digL.getD k.val 0).toNat c.val=false)→hexD c.val=(0,false):=by decide+kernel
theorem hexD_no (c:Nat) (hc:c<256) (h: ∀k,k<16→hitD (digL.getD k 0).toNat c=false):hexD c=(0,false):=hexD_noN ⟨c,hc⟩ (fun k=>h k.val k.isLt)
theorem hex_c (n:Nat) (hn:n<256):PCalls Tryz.prog 72 [.x (.int .u8 n)] (.x (.int .i64 (hxD n))):=by
 refine FCalls.pure (fcallsG (fz:=true) G_ok (p:=i72) rfl _ (ξ rfl) _ (fun C0 E0=> ?_)) rfl
 dsimp only[i72,qt,qi,qs,qb,qm,qa,qh,qj,qT,qF,qe,ql,qL,qf,q2,q3,q8,qz,qp,qP,qc,qk,qx,qy,qo,qr,qC,argsφ]
 have uu:=trivial
 have tT:=(noTabs_ok:SsOk Tryz.prog noTabs)
 refine nz ?_
 refine WI.regB tT [0] ?_
 refine oS ?_
 refine oN ?_
 refine nz ?_
 refine WI.regB tT [0,3] ?_
 refine oS ?_
 refine oG (hok:=by first|exact se|(clear uu;grind)|exact sd) ?_
 refine oS ?_
 iterate 3 refine oG (hok:=by first|exact se|(clear uu;grind)|exact sd) ?_
 refine oS ?_
 refine oN ?_
 refine nz ?_
 refine cd (fun h0=> ?_) (fun h0=> ?_)
 ·refine WI.regB tT [2] ?_
  refine oS ?_
  iterate 2 refine oG (hok:=by first|exact se|(clear uu;grind)|exact sd) ?_
  refine oS ?_
  refine oN ?_
  refine nz ?_
  refine lf ?_
  rw[hxD,if_pos (by omega)];congr 2;omega
 ·refine WI.regB tT [0,13] ?_
  refine oS ?_
  refine oG (hok:=by first|exact se|(clear uu;grind)|exact sd) ?_
  refine oS ?_
  iterate 3 refine oG (hok:=by first|exact se|(clear uu;grind)|exact sd) ?_
  refine oS ?_
  refine oN ?_
  refine nz ?_
  refine cd (fun h1=> ?_) (fun h1=> ?_)
  ·refine WI.regB tT [2] ?_
   refine oS ?_
   iterate 3 refine oG (hok:=by first|exact se|(clear uu;grind)|exact sd) ?_
   refine oS ?_
   refine oN ?_
   refine nz ?_
   refine lf ?_
   rw[hxD,if_neg (by omega),if_pos (by omega)];congr 2;omega
  ·refine WI.regB tT [0,24] ?_
   refine oS ?_
   refine oG (hok:=by first|exact se|(clear uu;grind)|exact sd) ?_
   refine oS ?_
   iterate 3 refine oG (hok:=by first|exact se|(clear uu;grind)|exact sd) ?_
   refine oS ?_
   refine oN ?_
   refine nz ?_
   refine cd (fun h2=> ?_) (fun h2=> ?_)
   ·refine WI.regB tT [2] ?_
    refine oS ?_
    iterate 3 refine oG (hok:=by first|exact se|(clear uu;grind)|exact sd) ?_
    refine oS ?_
    refine oN ?_
    refine nz ?_
    refine lf ?_
    rw[hxD,if_neg (by omega),if_neg (by omega),if_pos (by omega)];congr 2;omega
   ·refine WI.regB tT [2] ?_
    refine oS ?_
    refine oN ?_
    refine nz ?_
    refine lf ?_
    rw[hxD,if_neg (by omega),if_neg (by omega),if_neg (by omega)];rfl
def hexG:List D→Option (Bool×D)
 | [.x (.int .u8 n)]=>some (decide (0≤n∧n<256),.x (.int .i64 (hxD n.toNat)))
 |_=>none
theorem hexG_ok: ∀args r,hexG args=some (true,r)→PCalls Tryz.prog 72 args r:=by
 intro args r h
 unfold hexG at h
 split at h
 ·rename_i n
  simp only[ξI,ξP,ξa,ξe,true_and]at h
  obtain⟨h1,rfl⟩:=h
  exact(by obtain⟨m,rfl⟩: ∃m:Nat,n=m:=⟨n.toNat,by omega⟩;rw[Int.toNat_natCast];exact hex_c m (by omega))
 ·cases h
def spcL:Tx:= [44,43,34,92,60,62,59,61]
def spc (n:Nat):Bool:=inB spcL n
theorem spc_eq (n:Nat):spc n=(decide ((n:Int)=44)||(decide ((n:Int)=43)||(decide ((n:Int)=34)||(decide ((n:Int)=92)||(decide ((n:Int)=60)||(decide ((n:Int)=62)||(decide ((n:Int)=59)||decide ((n:Int)=61)))))))):=by
 unfold spc inB spcL
 rw[Bool.eq_iff_iff]
 simp only[List.any_cons,List.any_nil,Bool.or_eq_true,beq_iff_eq,ξe,Bool.or_false,UInt8.reduceToNat]
 omega
theorem special_c (n:Nat):PCalls Tryz.prog 71 [.x (.int .u8 n)] (.x (.bool (spc n))):=by
 have hq:=spc_eq n
 refine FCalls.pure (fcallsG (fz:=true) G_ok (p:=i71) rfl _ (ξ rfl) _ (fun C0 E0=> ?_)) rfl
 dsimp only[i71,qt,qi,qs,qb,qm,qa,qh,qj,qT,qF,qe,ql,qL,qf,q2,q3,q8,qz,qp,qP,qc,qk,qx,qy,qo,qr,qC,argsφ]
 have uu:=trivial
 have tT:=(noTabs_ok:SsOk Tryz.prog noTabs)
 refine nz ?_
 refine WI.regB tT [0] ?_
 refine oS ?_
 refine oN ?_
 refine nz ?_
 refine WI.regB tT [2] ?_
 refine oS ?_
 refine oG (hok:=by first|exact se|(clear uu;grind)|exact sd) ?_
 refine oS ?_
 iterate 3 refine oG (hok:=by first|exact se|(clear uu;grind)|exact sd) ?_
 refine oS ?_
 iterate 3 refine oG (hok:=by first|exact se|(clear uu;grind)|exact sd) ?_
 refine oS ?_
 iterate 3 refine oG (hok:=by first|exact se|(clear uu;grind)|exact sd) ?_
 refine oS ?_
 iterate 3 refine oG (hok:=by first|exact se|(clear uu;grind)|exact sd) ?_
 refine oS ?_
 iterate 3 refine oG (hok:=by first|exact se|(clear uu;grind)|exact sd) ?_
 refine oS ?_
 iterate 3 refine oG (hok:=by first|exact se|(clear uu;grind)|exact sd) ?_
 refine oS ?_
 iterate 3 refine oG (hok:=by first|exact se|(clear uu;grind)|exact sd) ?_
 refine oS ?_
 refine oN ?_
 refine nz ?_
 refine lf ?_
 clear uu;congr 2;rw[hq];grind
def specialG:List D→Option (Bool×D)
 | [.x (.int .u8 n)]=>some (decide (0≤n),.x (.bool (spc n.toNat)))
 |_=>none
theorem specialG_ok: ∀args r,specialG args=some (true,r)→PCalls Tryz.prog 71 args r:=by
 intro args r h
 unfold specialG at h
 split at h
 ·rename_i n
  simp only[ξI,ξP,ξa,ξe,true_and]at h
  obtain⟨h1,rfl⟩:=h
  exact(by obtain⟨m,rfl⟩: ∃m:Nat,n=m:=⟨n.toNat,by omega⟩;rw[Int.toNat_natCast];exact special_c m)
 ·cases h
def barB (n:Nat) (first:Bool):Bool:=decide (n<32)||decide (n=127)||(decide (n≠61)&&spc n)||(first&&decide (n=35))
def tabDn1:Tabs:=addQ (noTabs) 127 dnInG
theorem tabDn1_ok:SsOk Tryz.prog tabDn1:=addQ_ok (noTabs_ok) (G_enters G_ok (p:=i127) rfl) dnInG_ok
theorem tabDn1_q127 (a:List D):tabDn1.q 127 a=dnInG a:=rfl
theorem tabDn1_r (f:FuncId) (a:List D) (o:List Ob):tabDn1.r f a o=none:=rfl
theorem tabDn1_k (f:FuncId) (a:List D) (o:List Ob):tabDn1.k f a o=none:=rfl
theorem barred_c (n:Nat) (b:Bool):PCalls Tryz.prog 118 [.x (.int .u8 n),.x (.bool b)] (.x (.bool (barB n b))):=by
 have hq:inB [44,43,34,92,60,62,59,61] n=spc n:=rfl
 refine FCalls.pure (fcallsG (fz:=true) G_ok (p:=i118) rfl _ (ξ rfl) _ (fun C0 E0=> ?_)) rfl
 dsimp only[i118,qt,qi,qs,qb,qm,qa,qh,qj,qT,qF,qe,ql,qL,qf,q2,q3,q8,qz,qp,qP,qc,qk,qx,qy,qo,qr,qC,argsφ]
 have uu:=ξn @dnInG.eq_1 (ξn @dnInG.eq_2 (ξn hq (ξn @tabDn1_r (ξn @tabDn1_k (@tabDn1_q127)))))
 have tT:=tabDn1_ok
 refine nz ?_
 refine WI.regB tT [0,1] ?_
 refine oS ?_
 refine oN ?_
 refine nz ?_
 refine WI.regB tT [4] ?_
 refine oS ?_
 refine oG (hok:=by first|exact se|(clear uu;grind)|exact sd) ?_
 refine oS ?_
 iterate 3 refine oG (hok:=by first|exact se|(clear uu;grind)|exact sd) ?_
 refine oS ?_
 iterate 4 refine oG (hok:=by first|exact se|(clear uu;grind)|exact sd) ?_
 refine oC (hok:=by first|exact se|(clear uu;grind)|exact sd) ?_
 iterate 2 refine oG (hok:=by first|exact se|(clear uu;grind)|exact sd) ?_
 refine oS ?_
 iterate 6 refine oG (hok:=by first|exact se|(clear uu;grind)|exact sd) ?_
 refine oS ?_
 refine oN ?_
 refine nz ?_
 refine lf ?_
 clear uu;unfold barB;congr 2;grind
def barredG:List D→Option (Bool×D)
 | [.x (.int .u8 n),.x (.bool b)]=>some (decide (0≤n),.x (.bool (barB n.toNat b)))
 |_=>none
theorem barredG_ok: ∀args r,barredG args=some (true,r)→PCalls Tryz.prog 118 args r:=by
 intro args r h
 unfold barredG at h
 split at h
 ·rename_i n b
  simp only[ξI,ξP,ξa,ξe,true_and]at h
  obtain⟨h1,rfl⟩:=h
  exact(by obtain⟨m,rfl⟩: ∃m:Nat,n=m:=⟨n.toNat,by omega⟩;rw[Int.toNat_natCast];exact barred_c m b)
 ·cases h
def vIntD:Value→Int
 | .int _ n=>n
 |_=>0
def digC:Array Value:= #[.int .u8 48,.int .u8 49,.int .u8 50,.int .u8 51,.int .u8 52,.int .u8 53,.int .u8 54,.int .u8 55,.int .u8 56,.int .u8 57,.int .u8 97,.int .u8 98,.int .u8 99,.int .u8 100,.int .u8 101,.int .u8 102]
theorem wrapC (c:Nat) (h1:65≤c) (h2:c≤70):IntKind.u8.wrap (IntKind.u8.wrap ((c:Int)-65)+97)=((c+32:Nat):Int):=by
 rw[IntWalk.u8_in ((c:Int)-65) (by omega),IntWalk.u8_in _ (by omega)];omega
set_option maxHeartbeats 4000000 in
set_option maxRecDepth 100000 in
theorem dhalf_walk (c:Nat) (w:World) (hc:c<256):
  Calls Tryz.prog 128 #[.int .u8 c] w fun e w'=>e= .returned (.tuple #[.int .u8 (hexD c).1,.bool (hexD c).2])∧Below w.heap.size w w':=by
 have kc:=fun(w:World) (C:Array Value) (n c:Nat)=>Lib.run_convert_bytes_const (P:=Tryz.prog) w 52 5 C n c Tryz.underlying52 Tryz.underlying5
 go_enter Tryz.func128,Tryz.ntmps128
 go_wp2_with fail
 go_loopw [9] (fun i wr=> ∃(k:Nat),k≤16∧i= .int .i64 k∧wr=w.alloc (.cells digC 5 (16,17))∧ ∀m,m<k→hitD (digL.getD m 0).toNat c=false) (fun i _=>16-(vIntD i).toNat)
 case atStart=>exact⟨0,by omega,rfl,rfl,by intro m hm;omega⟩
 case round=>
  obtain⟨k,hk,rfl,rfl,hno⟩:=hrel
  have hcell: ∀m:Fin 16,(w.alloc (.cells digC 5 (16,17))).cell? ⟨w.heap.size,m.val,none⟩=some (.int .u8 (digL.getD m.val 0).toNat):=by
   intro m
   have hb:(w.alloc (.cells digC 5 (16,17))).heap[w.heap.size]? =some (.cells digC 5 (16,17)):=by
    show(w.heap.push _)[w.heap.size]? =_
    simp
   rw[Lib.cell_of_heap hb]
   revert m;intro m;rcases m with⟨m,hm⟩;(repeat(rcases m with _|m;rfl));omega
  by_cases hlt:k<16
  ·have hc1:=hcell ⟨k,hlt⟩
   have hat:=hexD_at ⟨k,hlt⟩ ⟨c,hc⟩
   simp only at hc1 hat
   cases hq:hitD (digL.getD k 0).toNat c with
   |true=>
    have hat:=hat hq
    have hk1:IntKind.u8.wrap (k:Int)=(k:Int):=IntWalk.u8_in _ (by omega)
    clear hno hcell
    unfold hitD at hq
    generalize(digL.getD k 0).toNat=d at hc1 hq
    by_cases h1:d=c
    ·subst h1
     go_wp2_with fail
     all_goals first|exact bodyPost_ret (v:= .tuple #[.int .u8 (k:Int),.bool true]) (by simp[results,Tryz.results128,go_sem]) rfl ⟨by rw[hat],(Below.refl _ w).alloc (Nat.le_refl _) _⟩|(exfalso;rename_i hx;revert hx;simp<;>omega)|(exfalso;revert q1;simp;done)|(exfalso;revert q4;simp only[hw]at*;simp_all<;>omega)|(exfalso;revert hq;simp<;>omega)
    ·have h2:65≤c∧c≤70∧d=c+32:=by simp[h1]at hq;omega
     obtain⟨h21,h22,rfl⟩:=h2
     have hw:=wrapC c h21 h22
     have q1:decide (((c+32:Nat):Int)=(c:Int))=false:=decide_eq_false (by omega)
     have q2:decide ((c:Int)≥65)=true:=ξt (by omega)
     have q3:decide ((c:Int)≤70)=true:=ξt (by omega)
     go_wp2_with fail
     all_goals first|exact bodyPost_ret (v:= .tuple #[.int .u8 (k:Int),.bool true]) (by simp[results,Tryz.results128,go_sem]) rfl ⟨by rw[hat],(Below.refl _ w).alloc (Nat.le_refl _) _⟩|(exfalso;rename_i hx;revert hx;simp<;>omega)|(exfalso;revert q1;simp;done)|(exfalso;revert q4;simp only[hw]at*;simp_all<;>omega)|(exfalso;revert hq;simp<;>omega)
   |false=>
    have hq':=hq
    unfold hitD at hq
    generalize(digL.getD k 0).toNat=d at hc1 hq
    have q1:decide ((d:Int)=(c:Int))=false:=decide_eq_false (by simp at hq;omega)
    clear hcell hat
    by_cases h1:65≤c
    ·by_cases h2:c≤70
     ·have hw:=wrapC c h1 h2
      have q2:decide ((c:Int)≥65)=true:=ξt (by omega)
      have q3:decide ((c:Int)≤70)=true:=ξt (by omega)
      have q4:decide ((d:Int)=((c+32:Nat):Int))=false:=decide_eq_false (by simp[h1,h2]at hq;omega)
      go_wp2_with fail
      all_goals first|exact⟨⟨k+1,by omega,by first|rfl|simp,trivial,fun m hm=>if h:m=k then by subst h;exact hq' else hno m (by omega)⟩,by simp[vIntD];omega⟩|(exfalso;rename_i hx;revert hx;simp<;>omega)|(exfalso;revert q1;simp;done)|(exfalso;revert q4;simp only[hw]at*;simp_all<;>omega)|(exfalso;revert hq;simp<;>omega)
     ·have q2:decide ((c:Int)≥65)=true:=ξt (by omega)
      have q3:decide ((c:Int)≤70)=false:=decide_eq_false (by omega)
      go_wp2_with fail
      all_goals first|exact⟨⟨k+1,by omega,by first|rfl|simp,trivial,fun m hm=>if h:m=k then by subst h;exact hq' else hno m (by omega)⟩,by simp[vIntD];omega⟩|(exfalso;rename_i hx;revert hx;simp<;>omega)|(exfalso;revert q1;simp;done)|(exfalso;revert q4;simp only[hw]at*;simp_all<;>omega)|(exfalso;revert hq;simp<;>omega)
    ·have q2:decide ((c:Int)≥65)=false:=decide_eq_false (by omega)
     go_wp2_with fail
     all_goals first|exact⟨⟨k+1,by omega,by first|rfl|simp,trivial,fun m hm=>if h:m=k then by subst h;exact hq' else hno m (by omega)⟩,by simp[vIntD];omega⟩|(exfalso;rename_i hx;revert hx;simp<;>omega)|(exfalso;revert q1;simp;done)|(exfalso;revert q4;simp only[hw]at*;simp_all<;>omega)|(exfalso;revert hq;simp<;>omega)
  ·obtain rfl:k=16:=by omega
   have hnn:=hexD_no c hc hno
   clear hno hcell
   go_wp2_with fail
   exact bodyPost_ret (v:= .tuple #[.int .u8 0,.bool false]) (by simp[results,Tryz.results128,go_sem]) rfl ⟨by rw[hnn];rfl,(Below.refl _ w).alloc (Nat.le_refl _) _⟩
theorem dhalf_c (n:Nat) (hn:n<256):PCalls Tryz.prog 128 [.x (.int .u8 n)] (.tup [.x (.int .u8 (hexD n).1),.x (.bool (hexD n).2)]):=by
 intro w st vs hst hvl
 obtain⟨hsz,hv⟩:=hvl
 obtain⟨v0,rfl⟩: ∃v0,vs= #[v0]:=by
  obtain⟨vl⟩:=vs
  match vl,hsz with
  | [a],_=>exact⟨a,rfl⟩
 have h0:=hv 0 _ v0 rfl rfl
 cases h0 with
 |x h0=>
 cases h0 with
 |int _ _=>
 refine(dhalf_walk n w hn).mono ?_
 rintro e w' ⟨rfl,hb⟩
 exact⟨_,st,rfl,⟨hb.os,hb.tape,hb.output,hb.size,fun k hk _=>hb.block k hk⟩,fun _ _ h=>h,fun _ _ h=> .inl h,V.tup2 (.x (.int _ _)) _⟩
theorem dhalf_enters:Go.Ab.Enters Tryz.prog 128:=enters_of Tryz.func128 (by kernel_rfl) rfl
def dhalfG:List D→Option (Bool×D)
 | [.x (.int .u8 n)]=>some (decide (0≤n∧n<256),.tup [.x (.int .u8 (hexD n.toNat).1),.x (.bool (hexD n.toNat).2)])
 |_=>none
theorem dhalfG_ok: ∀args r,dhalfG args=some (true,r)→PCalls Tryz.prog 128 args r:=by
 intro args r h
 unfold dhalfG at h
 split at h
 ·rename_i n
  simp only[ξI,ξP,ξa,ξe,true_and]at h
  obtain⟨h1,rfl⟩:=h
  exact(by obtain⟨m,rfl⟩: ∃m:Nat,n=m:=⟨n.toNat,by omega⟩;rw[Int.toNat_natCast];exact dhalf_c m (by omega))
 ·cases h
def trL (s:Tx):Tx:=s.dropWhile (· ==32)
def trR (s:Tx):Tx:=(s.reverse.dropWhile (· ==32)).reverse
theorem dw_nil: ∀l:Tx,l.dropWhile (· ==32)= []↔ ∀x∈l,x=32
 | []=>by simp
 |c::l=>by
  rw[List.dropWhile_cons]
  by_cases h:c=32
  ·simp[h,dw_nil l]
  ·simp[h]
theorem emp_len (r:Tx):(r== [])=decide (r.length=0):=by rcases r with _|⟨c,r⟩<;>simp
theorem c32' {c:UInt8} (h:(c.toNat:Int)=32):c=32:=by
 apply UInt8.toNat_inj.1;show c.toNat=32;omega
theorem trL_cons (c:UInt8) (s:Tx):trL (c::s)=if c=32 then trL s else c::s:=by
 unfold trL;rw[List.dropWhile_cons];simp
theorem trL_len (s:Tx):(trL s).length≤s.length:=List.Sublist.length_le (List.dropWhile_sublist _)
theorem trR_len (s:Tx):(trR s).length≤s.length:=by
 unfold trR;rw[List.length_reverse];exact Nat.le_trans (List.Sublist.length_le (List.dropWhile_sublist _)) (by simp)
theorem trR_snoc (s:Tx) (c:UInt8):trR (s++ [c])=if c=32 then trR s else s++ [c]:=by
 unfold trR;rw[List.reverse_append,List.reverse_cons,List.reverse_nil,List.nil_append,List.singleton_append,List.dropWhile_cons]
 split<;>simp_all
theorem drop1 (s:Tx) (h:0<s.length):s=s.getD 0 0::s.drop 1:=by
 rcases s with _|⟨c,s⟩
 ·simp at h
 ·rfl
theorem take1 (s:Tx) (h:0<s.length):s=s.take (s.length-1)++ [s.getD (s.length-1) 0]:=by
 obtain⟨b,c,rfl⟩: ∃b c,s=b++ [c]:=⟨s.dropLast,s.getLast (by intro e;subst e;simp at h),(List.dropLast_concat_getLast _).symm⟩
 simp
theorem trL_step (s:Tx) (h:0<s.length) (hc:s.getD 0 0=32):trL s=trL (s.drop 1):=by
 conv=>lhs;rw[drop1 s h]
 rw[trL_cons,if_pos hc]
theorem trL_stop (s:Tx) (h: ¬(0<s.length∧s.getD 0 0=32)):trL s=s:=by
 rcases s with _|⟨c,s⟩
 ·rfl
 ·rw[trL_cons,if_neg (fun e:c=32=>h ⟨by simp,e⟩)]
theorem trR_step (s:Tx) (h:0<s.length) (hc:s.getD (s.length-1) 0=32):trR s=trR (s.take (s.length-1)):=by
 conv=>lhs;rw[take1 s h]
 rw[trR_snoc,if_pos hc]
theorem trR_stop (s:Tx) (h: ¬(0<s.length∧s.getD (s.length-1) 0=32)):trR s=s:=by
 by_cases h0:0<s.length
 ·conv=>lhs;rw[take1 s h0]
  rw[trR_snoc,if_neg (fun e=>h ⟨h0,e⟩)]
  exact(take1 s h0).symm
 ·rw[show s= []from List.length_eq_zero_iff.1 (by omega)];rfl
theorem trimLB_c (s:Tx) (hl:s.length≤1000000):PCalls Tryz.prog 109 [.x (.str s),.x (.int .u8 32)] (.x (.str (trL s))):=by
 refine FCalls.pure (fcallsG (fz:=true) G_ok (p:=i109) rfl _ (ξ rfl) _ (fun C0 E0=> ?_)) rfl
 dsimp only[i109,qt,qi,qs,qb,qm,qa,qh,qj,qT,qF,qe,ql,qL,qf,q2,q3,q8,qz,qp,qP,qc,qk,qx,qy,qo,qr,qC,argsφ]
 have uu:=trivial
 have tT:=(noTabs_ok:SsOk Tryz.prog noTabs)
 refine nz ?_
 refine WI.regB tT [0,1] ?_
 refine oS ?_
 refine oN ?_
 refine nz ?_
 refine WI.loop (fun φ os=> ∃(r:Tx),φ= [(0,.x (.str r)),(1,.x (.int .u8 32))]∧os= []∧r.length≤s.length∧trL s=trL r) ((fun φ _=>match get φ 0 with| .x (.str r)=>r.length|_=>0)) ?_ (fun φ os hI=> ?_)
 ·exact⟨s,rfl,rfl,by omega,rfl⟩
 ·obtain⟨r,rfl,rfl,hr,he⟩:=hI
  refine nz ?_
  refine WI.regB tT [0,1,13] ?_
  refine oS ?_
  iterate 2 refine oG (hok:=by first|exact se|(clear uu;grind)|exact sd) ?_
  refine oS ?_
  iterate 5 refine oG (hok:=by first|exact se|(clear uu;grind)|exact sd) ?_
  refine oN ?_
  refine nz ?_
  refine cd (fun h0=> ?_) (fun h0=> ?_)
  ·have h0p:0<r.length:=by omega
   have h0c:r.getD 0 0=32:=c32' (by omega)
   refine WI.regB tT [0,1] ?_
   refine oS ?_
   refine oG (hok:=by first|exact se|(clear uu;grind)|exact sd) ?_
   refine oS ?_
   refine oN ?_
   refine nz ?_
   exact⟨⟨r.drop 1,rfl,rfl,by simp;omega,by rw[he,trL_step r h0p h0c]⟩,by show(r.drop 1).length<r.length;rw[List.length_drop];omega⟩
  ·have h0n: ¬(0<r.length∧r.getD 0 0=32):=fun hh=>by
    have h2:((r.getD 0 0).toNat:Int)=32:=by rw[hh.2];rfl
    have h1:=hh.1
    omega
   refine WI.regB tT [4] ?_
   iterate 2 refine oS ?_
   refine oN ?_
   refine nz ?_
   refine lf ?_
   rw[he,trL_stop r h0n]
def trimLBG:List D→Option (Bool×D)
 | [.x (.str s),.x (.int .u8 32)]=>some (decide (s.length≤1000000),.x (.str (trL s)))
 |_=>none
theorem trimLBG_ok: ∀args r,trimLBG args=some (true,r)→PCalls Tryz.prog 109 args r:=by
 intro args r h
 unfold trimLBG at h
 split at h
 ·rename_i s
  simp only[ξI,ξP,ξa,ξe,true_and]at h
  obtain⟨h1,rfl⟩:=h
  exact(trimLB_c s h1)
 ·cases h
theorem trimRB_c (s:Tx) (hl:s.length≤1000000):PCalls Tryz.prog 110 [.x (.str s),.x (.int .u8 32)] (.x (.str (trR s))):=by
 refine FCalls.pure (fcallsG (fz:=true) G_ok (p:=i110) rfl _ (ξ rfl) _ (fun C0 E0=> ?_)) rfl
 dsimp only[i110,qt,qi,qs,qb,qm,qa,qh,qj,qT,qF,qe,ql,qL,qf,q2,q3,q8,qz,qp,qP,qc,qk,qx,qy,qo,qr,qC,argsφ]
 have uu:=trivial
 have tT:=(noTabs_ok:SsOk Tryz.prog noTabs)
 refine nz ?_
 refine WI.regB tT [0,1] ?_
 refine oS ?_
 refine oN ?_
 refine nz ?_
 refine WI.loop (fun φ os=> ∃(r:Tx),φ= [(0,.x (.str r)),(1,.x (.int .u8 32))]∧os= []∧r.length≤s.length∧trR s=trR r) ((fun φ _=>match get φ 0 with| .x (.str r)=>r.length|_=>0)) ?_ (fun φ os hI=> ?_)
 ·exact⟨s,rfl,rfl,by omega,rfl⟩
 ·obtain⟨r,rfl,rfl,hr,he⟩:=hI
  have e1:((r.length:Int)-1).toNat=r.length-1:=by omega
  have uu:=ξn uu e1
  refine nz ?_
  refine WI.regB tT [0,1,16] ?_
  refine oS ?_
  iterate 2 refine oG (hok:=by first|exact se|(clear uu;grind)|exact sd) ?_
  refine oS ?_
  iterate 8 refine oG (hok:=by first|exact se|(clear uu;grind)|exact sd) ?_
  refine oN ?_
  refine nz ?_
  refine cd (fun h0=> ?_) (fun h0=> ?_)
  ·have h0p:0<r.length:=by omega
   have h0c:r.getD (r.length-1) 0=32:=c32' (by omega)
   refine WI.regB tT [0,1] ?_
   iterate 2 refine oS ?_
   iterate 3 refine oG (hok:=by first|exact se|(clear uu;grind)|exact sd) ?_
   refine oS ?_
   refine oN ?_
   refine nz ?_
   exact⟨⟨r.take (r.length-1),rfl,rfl,by simp;omega,by rw[he,trR_step r h0p h0c]⟩,by show(r.take (r.length-1)).length<r.length;rw[List.length_take];omega⟩
  ·have h0n: ¬(0<r.length∧r.getD (r.length-1) 0=32):=fun hh=>by
    have h2:((r.getD (r.length-1) 0).toNat:Int)=32:=by rw[hh.2];rfl
    have h1:=hh.1
    omega
   refine WI.regB tT [4] ?_
   iterate 2 refine oS ?_
   refine oN ?_
   refine nz ?_
   refine lf ?_
   rw[he,trR_stop r h0n]
def trimRBG:List D→Option (Bool×D)
 | [.x (.str s),.x (.int .u8 32)]=>some (decide (s.length≤1000000),.x (.str (trR s)))
 |_=>none
theorem trimRBG_ok: ∀args r,trimRBG args=some (true,r)→PCalls Tryz.prog 110 args r:=by
 intro args r h
 unfold trimRBG at h
 split at h
 ·rename_i s
  simp only[ξI,ξP,ξa,ξe,true_and]at h
  obtain⟨h1,rfl⟩:=h
  exact(trimRB_c s h1)
 ·cases h
def tabDn3:Tabs:=addQ (addQ (noTabs) 109 trimLBG) 110 trimRBG
theorem tabDn3_ok:SsOk Tryz.prog tabDn3:=addQ_ok (addQ_ok (noTabs_ok) (G_enters G_ok (p:=i109) rfl) trimLBG_ok) (G_enters G_ok (p:=i110) rfl) trimRBG_ok
theorem tabDn3_q109 (a:List D):tabDn3.q 109 a=trimLBG a:=rfl
theorem tabDn3_q110 (a:List D):tabDn3.q 110 a=trimRBG a:=rfl
theorem tabDn3_r (f:FuncId) (a:List D) (o:List Ob):tabDn3.r f a o=none:=rfl
theorem tabDn3_k (f:FuncId) (a:List D) (o:List Ob):tabDn3.k f a o=none:=rfl
theorem trimLeft_c (s:Tx) (hl:s.length≤1000000):PCalls Tryz.prog 116 [.x (.str s),.x (.str [32])] (.x (.str (trL s))):=by
 refine FCalls.pure (fcallsG (fz:=true) G_ok (p:=i116) rfl _ (ξ rfl) _ (fun C0 E0=> ?_)) rfl
 dsimp only[i116,qt,qi,qs,qb,qm,qa,qh,qj,qT,qF,qe,ql,qL,qf,q2,q3,q8,qz,qp,qP,qc,qk,qx,qy,qo,qr,qC,argsφ]
 have uu:=ξn @trimLBG.eq_1 (ξn @trimLBG.eq_2 (ξn @trimRBG.eq_1 (ξn @trimRBG.eq_2 (ξn @tabDn3_r (ξn @tabDn3_k (ξn @tabDn3_q109 (@tabDn3_q110)))))))
 have tT:=tabDn3_ok
 refine nz ?_
 refine rg tT [0,1] ?_
 refine rg tT [0,1,12] ?_
 refine cd (fun h0=> ?_) (fun h0=> ?_)
 ·refine rg tT [4] ?_
  refine lf ?_
  rw[show s= [] by simpa using h0];rfl
 ·refine rg tT [0,1,21] ?_
  refine ct (fun h1=> ?_) (fun h1=> ?_)
  ·refine rg tT [4] ?_
   refine lf ?_
   first|rfl|exact⟨rfl,rfl⟩|trivial
  ·simp at h1
def trimLeftG:List D→Option (Bool×D)
 | [.x (.str s),.x (.str [32])]=>some (decide (s.length≤1000000),.x (.str (trL s)))
 |_=>none
theorem trimLeftG_ok: ∀args r,trimLeftG args=some (true,r)→PCalls Tryz.prog 116 args r:=by
 intro args r h
 unfold trimLeftG at h
 split at h
 ·rename_i s
  simp only[ξI,ξP,ξa,ξe,true_and]at h
  obtain⟨h1,rfl⟩:=h
  exact(trimLeft_c s h1)
 ·cases h
def trim (s:Tx):Tx:=trL (trR s)
theorem trim_c (s:Tx) (hl:s.length≤1000000):PCalls Tryz.prog 99 [.x (.str s),.x (.str [32])] (.x (.str (trim s))):=by
 have hrl:=trR_len s
 refine FCalls.pure (fcallsG (fz:=true) G_ok (p:=i99) rfl _ (ξ rfl) _ (fun C0 E0=> ?_)) rfl
 dsimp only[i99,qt,qi,qs,qb,qm,qa,qh,qj,qT,qF,qe,ql,qL,qf,q2,q3,q8,qz,qp,qP,qc,qk,qx,qy,qo,qr,qC,argsφ]
 have uu:=ξn @trimLBG.eq_1 (ξn @trimLBG.eq_2 (ξn @trimRBG.eq_1 (ξn @trimRBG.eq_2 (ξn @tabDn3_r (ξn @tabDn3_k (ξn @tabDn3_q109 (@tabDn3_q110)))))))
 have tT:=tabDn3_ok
 refine nz ?_
 refine rg tT [0,1] ?_
 refine rg tT [0,1,12] ?_
 refine cd (fun h0=> ?_) (fun h0=> ?_)
 ·refine rg tT [4] ?_
  refine lf ?_
  rw[show s= [] by simpa using h0];rfl
 ·refine rg tT [0,1,21] ?_
  refine ct (fun h1=> ?_) (fun h1=> ?_)
  ·refine WI.dregB tT [4] ?_
   iterate 2 refine dFS ?_
   refine dFG ?_
   refine dAC ?_
   refine dFS ?_
   refine dFG ?_
   refine dAC ?_
   refine dFS ?_
   refine dN ?_
   refine nz ?_
   refine lf ?_
   first|rfl|exact⟨rfl,rfl⟩|trivial
  ·simp at h1
def trimG:List D→Option (Bool×D)
 | [.x (.str s),.x (.str [32])]=>some (decide (s.length≤1000000),.x (.str (trim s)))
 |_=>none
theorem trimG_ok: ∀args r,trimG args=some (true,r)→PCalls Tryz.prog 99 args r:=by
 intro args r h
 unfold trimG at h
 split at h
 ·rename_i s
  simp only[ξI,ξP,ξa,ξe,true_and]at h
  obtain⟨h1,rfl⟩:=h
  exact(trim_c s h1)
 ·cases h
theorem trim_comm (s:Tx):trR (trL s)=trim s:=by
 unfold trim
 by_cases h: ∀x∈s,x=32
 ·have h1:trL s= []:=by unfold trL;rw[dw_nil];intro x hx;exact h x hx
  have h2:trR s= []:=by unfold trR;rw[List.reverse_eq_nil_iff,dw_nil];intro x hx;exact h x (by simpa using hx)
  rw[h1,h2];rfl
 ·have key: ∀s:Tx,(∃x∈s,x≠32)→trR (trL s)=trL (trR s):=by
   intro s
   induction s with
   |nil=>rintro⟨x,hx,_⟩;simp at hx
   |cons c s ih=>
    intro hx
    rw[trL_cons]
    by_cases hc:c=32
    ·subst hc
     rw[if_pos rfl]
     have hx': ∃x∈s,x≠32:=by
      obtain⟨x,h1,h2⟩:=hx
      rcases List.mem_cons.1 h1 with rfl|h1
      ·exact absurd rfl h2
      ·exact⟨x,h1,h2⟩
     rw[ih hx']
     have e:trR (32::s)=32::trR s:=by
      unfold trR
      obtain⟨x,h1,h2⟩:=hx'
      rw[List.reverse_cons,List.dropWhile_append]
      rw[if_neg (by rw[List.isEmpty_iff,dw_nil];intro hh;exact h2 (hh x (by simpa using h1)))]
      simp
     rw[e,trL_cons,if_pos rfl]
    ·rw[if_neg hc]
     have e: ∃t,trR (c::s)=c::t:=by
      unfold trR
      rw[List.reverse_cons,List.dropWhile_append]
      split
      ·exact⟨[],by simp[hc]⟩
      ·exact⟨(s.reverse.dropWhile (· ==32)).reverse,by simp⟩
     obtain⟨t,e⟩:=e
     rw[e,trL_cons,if_neg hc]
  exact key s (by simpa using h)
theorem trimD_c (s:Tx) (hl:s.length≤1000000):PCalls Tryz.prog 50 [.x (.str s)] (.x (.str (trim s))):=by
 rw[←trim_comm]
 refine FCalls.pure (fcallsG (fz:=true) G_ok (p:=i50) rfl _ (ξ rfl) _ (fun C0 E0=> ?_)) rfl
 dsimp only[i50,qt,qi,qs,qb,qm,qa,qh,qj,qT,qF,qe,ql,qL,qf,q2,q3,q8,qz,qp,qP,qc,qk,qx,qy,qo,qr,qC,argsφ]
 have uu:=trivial
 have tT:=(noTabs_ok:SsOk Tryz.prog noTabs)
 refine nz ?_
 refine WI.regB tT [0] ?_
 refine oS ?_
 refine oN ?_
 refine nz ?_
 refine WI.loop (fun φ os=> ∃(r:Tx),φ= [(0,.x (.str r))]∧os= []∧r.length≤s.length∧trL s=trL r) ((fun φ _=>match get φ 0 with| .x (.str r)=>r.length|_=>0)) ?_ (fun φ os hI=> ?_)
 ·exact⟨s,rfl,rfl,by omega,rfl⟩
 ·obtain⟨r,rfl,rfl,hr,he⟩:=hI
  have hem:=emp_len r
  refine nz ?_
  refine WI.regB tT [0,9] ?_
  refine oS ?_
  refine oG (hok:=by first|exact se|(clear uu;grind)|exact sd) ?_
  refine oS ?_
  iterate 4 refine oG (hok:=by first|exact se|(clear uu;grind)|exact sd) ?_
  refine oN ?_
  refine nz ?_
  refine cd (fun h0=> ?_) (fun h0=> ?_)
  ·have h0p:0<r.length:=by rcases r with _|⟨c,r⟩;simp at h0;simp
   have h0c:r.getD 0 0=32:=by rcases r with _|⟨c,r⟩;simp at h0;exact c32' (by simpa using h0)
   refine WI.regB tT [0] ?_
   refine oS ?_
   refine oG (hok:=by first|exact se|(clear uu;grind)|exact sd) ?_
   refine oS ?_
   refine oN ?_
   refine nz ?_
   exact⟨⟨r.drop 1,rfl,rfl,by simp;omega,by rw[he,trL_step r h0p h0c]⟩,by show(r.drop 1).length<r.length;rw[List.length_drop];omega⟩
  ·have h0n: ¬(0<r.length∧r.getD 0 0=32):=fun hh=>by
    have h2:((r.getD 0 0).toNat:Int)=32:=by rw[hh.2];rfl
    have h3:r≠ []:=by rintro rfl;simp at hh
    grind
   refine WI.orderA [0] ?_
   refine WI.loop (fun φ os=> ∃(q:Tx),φ= [(0,.x (.str q))]∧os= []∧q.length≤s.length∧trR (trL s)=trR q) ((fun φ _=>match get φ 0 with| .x (.str r)=>r.length|_=>0)) ?_ (fun φ os hI=> ?_)
   ·exact⟨r,rfl,rfl,by omega,by rw[he,trL_stop r h0n]⟩
   ·obtain⟨q,rfl,rfl,hq,hee⟩:=hI
    have e1:((q.length:Int)-1).toNat=q.length-1:=by omega
    have hem2:=emp_len q
    have uu:=ξn uu e1
    refine nz ?_
    refine WI.regB tT [0,21] ?_
    refine oS ?_
    refine oG (hok:=by first|exact se|(clear uu;grind)|exact sd) ?_
    refine oS ?_
    iterate 7 refine oG (hok:=by first|exact se|(clear uu;grind)|exact sd) ?_
    refine oN ?_
    refine nz ?_
    refine cd (fun h1=> ?_) (fun h1=> ?_)
    ·have h1p:0<q.length:=by rcases q with _|⟨c,q⟩;simp at h1;simp
     have h1c:q.getD (q.length-1) 0=32:=c32' (by have:=h1.2;omega)
     refine WI.regB tT [0] ?_
     iterate 2 refine oS ?_
     iterate 3 refine oG (hok:=by first|exact se|(clear uu;grind)|exact sd) ?_
     refine oS ?_
     refine oN ?_
     refine nz ?_
     exact⟨⟨q.take (q.length-1),rfl,rfl,by simp;omega,by rw[hee,trR_step q h1p h1c]⟩,by show(q.take (q.length-1)).length<q.length;rw[List.length_take];omega⟩
    ·have h1n: ¬(0<q.length∧q.getD (q.length-1) 0=32):=fun hh=>by
      have h2:((q.getD (q.length-1) 0).toNat:Int)=32:=by rw[hh.2];rfl
      have h3:q≠ []:=by rintro rfl;simp at hh
      grind
     refine WI.regB tT [2] ?_
     iterate 2 refine oS ?_
     refine oN ?_
     refine nz ?_
     refine lf ?_
     rw[hee,trR_stop q h1n]
def trimDG:List D→Option (Bool×D)
 | [.x (.str s)]=>some (decide (s.length≤1000000),.x (.str (trim s)))
 |_=>none
theorem trimDG_ok: ∀args r,trimDG args=some (true,r)→PCalls Tryz.prog 50 args r:=by
 intro args r h
 unfold trimDG at h
 split at h
 ·rename_i s
  simp only[ξI,ξP,ξa,ξe,true_and]at h
  obtain⟨h1,rfl⟩:=h
  exact(trimD_c s h1)
 ·cases h
theorem dorN: ∀(a b:Fin 16),IntKind.u8.wrap ((BitVec.ofInt IntKind.u8.bits (IntKind.u8.wrap ((a.val:Int)*2^min 4 IntKind.u8.bits))|||BitVec.ofInt IntKind.u8.bits (b.val:Int)).toNat:Int)=((UInt8.ofNat (16*a.val+b.val)).toNat:Int):=by decide+kernel
def orB (h l:Nat):UInt8:=UInt8.ofNat (16*h+l)
theorem dorH (h l:Nat) (h1:h<16) (h2:l<16):IntKind.u8.wrap ((BitVec.ofInt IntKind.u8.bits (IntKind.u8.wrap ((h:Int)*2^min 4 IntKind.u8.bits))|||BitVec.ofInt IntKind.u8.bits (l:Int)).toNat:Int)=((orB h l).toNat:Int):=dorN ⟨_,h1⟩ ⟨_,h2⟩
theorem hexD_lt (n:Nat):(hexD n).1<16:=by unfold hexD;split<;>simp_all
def free (a:UInt8):Bool:=spc a.toNat||decide (a.toNat=32)||decide (a.toNat=35)
def escD (s:Tx):UInt8×Nat×Bool:=
 if s= []then(0,0,false)
 else if free (s.getD 0 0)=true then(s.getD 0 0,1,true)
 else if(hexD (s.getD 0 0).toNat).2=false∨s.length<2 then(0,0,false)
 else(orB (hexD (s.getD 0 0).toNat).1 (hexD (s.getD 1 0).toNat).1,2,(hexD (s.getD 1 0).toNat).2)
def tabDn4:Tabs:=addQ (addQ (noTabs) 127 dnInG) 128 dhalfG
theorem tabDn4_ok:SsOk Tryz.prog tabDn4:=addQ_ok (addQ_ok (noTabs_ok) (G_enters G_ok (p:=i127) rfl) dnInG_ok) dhalf_enters dhalfG_ok
theorem tabDn4_q127 (a:List D):tabDn4.q 127 a=dnInG a:=rfl
theorem tabDn4_q128 (a:List D):tabDn4.q 128 a=dhalfG a:=rfl
theorem tabDn4_r (f:FuncId) (a:List D) (o:List Ob):tabDn4.r f a o=none:=rfl
theorem tabDn4_k (f:FuncId) (a:List D) (o:List Ob):tabDn4.k f a o=none:=rfl
theorem escD_c (s:Tx) (hl:s.length≤1000000):PCalls Tryz.prog 117 [.x (.str s)] (.tup [.x (.int .u8 (escD s).1.toNat),.x (.int .i64 (escD s).2.1),.x (.bool (escD s).2.2)]):=by
 have hq: ∀n,inB [44,43,34,92,60,62,59,61] n=spc n:=fun n=>rfl
 have hem:=emp_len s
 have hb0:(s.getD 0 0).toNat<256:=UInt8.toNat_lt _
 have hb1:(s.getD 1 0).toNat<256:=UInt8.toNat_lt _
 have hor:=dorH _ _ (hexD_lt (s.getD 0 0).toNat) (hexD_lt (s.getD 1 0).toNat)
 rcases he:escD s with⟨x,n,b⟩
 unfold escD at he
 have hfr:free (s.getD 0 0)=(spc (s.getD 0 0).toNat||decide ((s.getD 0 0).toNat=32)||decide ((s.getD 0 0).toNat=35)):=rfl
 refine FCalls.pure (fcallsG (fz:=true) G_ok (p:=i117) rfl _ (ξ rfl) _ (fun C0 E0=> ?_)) rfl
 dsimp only[i117,qt,qi,qs,qb,qm,qa,qh,qj,qT,qF,qe,ql,qL,qf,q2,q3,q8,qz,qp,qP,qc,qk,qx,qy,qo,qr,qC,argsφ]
 have uu:=ξn @dnInG.eq_1 (ξn @dnInG.eq_2 (ξn @dhalfG.eq_1 (ξn @dhalfG.eq_2 (ξn hq (ξn hor (ξn @tabDn4_r (ξn @tabDn4_k (ξn @tabDn4_q127 (@tabDn4_q128)))))))))
 have tT:=tabDn4_ok
 refine nz ?_
 refine WI.regB tT [0] ?_
 iterate 3 refine oS ?_
 refine oN ?_
 refine nz ?_
 refine WI.regB tT [0,9] ?_
 refine oS ?_
 refine oG (hok:=by first|exact se|(clear uu;grind)|exact sd) ?_
 refine oN ?_
 refine nz ?_
 refine cd (fun h0=> ?_) (fun h0=> ?_)
 ·refine WI.regB tT [2,3,4] ?_
  iterate 3 refine oS ?_
  refine oN ?_
  refine nz ?_
  refine lf ?_
  rw[if_pos (by simpa using h0)]at he;cases he;rfl
 ·have hne:s≠ []:=by simpa using h0
  rw[if_neg hne]at he
  have hl1:0<s.length:=List.length_pos_iff.2 hne
  refine WI.regB tT [0,22] ?_
  refine oS ?_
  refine oG (hok:=by first|exact se|(clear uu;grind)|exact sd) ?_
  refine oC (hok:=by first|exact se|(clear uu;grind)|exact sd) ?_
  refine oS ?_
  iterate 4 refine oG (hok:=by first|exact se|(clear uu;grind)|exact sd) ?_
  refine oS ?_
  iterate 4 refine oG (hok:=by first|exact se|(clear uu;grind)|exact sd) ?_
  refine oN ?_
  refine nz ?_
  refine cd (fun h1=> ?_) (fun h1=> ?_)
  ·refine WI.regB tT [2,3,4] ?_
   refine oS ?_
   refine oG (hok:=by first|exact se|(clear uu;grind)|exact sd) ?_
   iterate 3 refine oS ?_
   refine oN ?_
   refine nz ?_
   refine lf ?_
   rw[if_pos (by rw[hfr];clear uu;grind)]at he;cases he;rfl
  ·rw[if_neg (by rw[hfr];clear uu;grind)]at he
   refine WI.regB tT [0,5,6] ?_
   refine oS ?_
   refine oG (hok:=by first|exact se|(clear uu;grind)|exact sd) ?_
   refine oC (hok:=by first|exact se|(clear uu;grind)|exact sd) ?_
   refine oS ?_
   iterate 2 refine oG ?_
   iterate 2 refine oS ?_
   refine oN ?_
   refine nz ?_
   refine WI.regB tT [0,5,37] ?_
   refine oS ?_
   refine oG (hok:=by first|exact se|(clear uu;grind)|exact sd) ?_
   refine oS ?_
   iterate 4 refine oG (hok:=by first|exact se|(clear uu;grind)|exact sd) ?_
   refine oN ?_
   refine nz ?_
   refine cd (fun h2=> ?_) (fun h2=> ?_)
   ·refine WI.regB tT [2,3,4] ?_
    iterate 3 refine oS ?_
    refine oN ?_
    refine nz ?_
    refine lf ?_
    rw[if_pos (by clear uu;grind)]at he;cases he;rfl
   ·rw[if_neg (by clear uu;grind)]at he
    have hl2:2≤s.length:=by clear uu;grind
    refine WI.regB tT [5,6,7] ?_
    refine oS ?_
    refine oG (hok:=by first|exact se|(clear uu;grind)|exact sd) ?_
    refine oC (hok:=by first|exact se|(clear uu;grind)|exact sd) ?_
    refine oS ?_
    iterate 2 refine oG ?_
    iterate 2 refine oS ?_
    refine oN ?_
    refine nz ?_
    refine WI.regB tT [2,3,4] ?_
    refine oS ?_
    refine oG (hok:=by first|exact se|(clear uu;grind)|exact sd) ?_
    refine oS ?_
    refine oG (hok:=by first|exact se|(clear uu;grind)|exact sd) ?_
    iterate 4 refine oS ?_
    refine oN ?_
    refine nz ?_
    refine lf ?_
    cases he;rfl
def escDG:List D→Option (Bool×D)
 | [.x (.str s)]=>some (decide (s.length≤1000000),.tup [.x (.int .u8 (escD s).1.toNat),.x (.int .i64 (escD s).2.1),.x (.bool (escD s).2.2)])
 |_=>none
theorem escDG_ok: ∀args r,escDG args=some (true,r)→PCalls Tryz.prog 117 args r:=by
 intro args r h
 unfold escDG at h
 split at h
 ·rename_i s
  simp only[ξI,ξP,ξa,ξe,true_and]at h
  obtain⟨h1,rfl⟩:=h
  exact(escD_c s h1)
 ·cases h
def vlp:Nat→Tx→Tx→Nat→Option (Tx×Nat)
 |0,_,_,_=>none
 |_+1,[],b,e=>some (b,e)
 |n+1,c::r,b,e=>
  if c=92 then(if(escD r).2.2=true then vlp n (r.drop (escD r).2.1) (b++ [(escD r).1]) (b.length+1)else none)
  else if barB c.toNat (decide (b.length=0))=true then none
  else if c=32 then vlp n r (b++ [c]) e else vlp n r (b++ [c]) (b.length+1)
theorem escD_n (s:Tx):(escD s).2.1≤s.length:=by
 unfold escD
 split
 ·simp
 ·rename_i h
  have:0<s.length:=List.length_pos_iff.2 h
  split
  ·simp;omega
  ·split
   ·simp
   ·rename_i h2;simp only[not_or]at h2;simp;omega
def valD (s:Tx):Tx×Bool:=match vlp (s.length+1) (trL s) [] 0 with
 |none=>([],false)
 |some (b,e)=>(b.take e,decide (e>0))
def valR (s:Tx):Tx×Bool:=match vlp (s.length+1) (trL s) [] 0 with
 |none=>([],false)
 |some (b,e)=>(b.take e,true)
theorem c92D {c:UInt8} (h:(c.toNat:Int)=92):c=92:=by
 apply UInt8.toNat_inj.1;show c.toNat=92;omega
def tabDn5:Tabs:=addQ (addQ (addQ (noTabs) 116 trimLeftG) 117 escDG) 118 barredG
theorem tabDn5_ok:SsOk Tryz.prog tabDn5:=addQ_ok (addQ_ok (addQ_ok (noTabs_ok) (G_enters G_ok (p:=i116) rfl) trimLeftG_ok) (G_enters G_ok (p:=i117) rfl) escDG_ok) (G_enters G_ok (p:=i118) rfl) barredG_ok
theorem tabDn5_q116 (a:List D):tabDn5.q 116 a=trimLeftG a:=rfl
theorem tabDn5_q117 (a:List D):tabDn5.q 117 a=escDG a:=rfl
theorem tabDn5_q118 (a:List D):tabDn5.q 118 a=barredG a:=rfl
theorem tabDn5_r (f:FuncId) (a:List D) (o:List Ob):tabDn5.r f a o=none:=rfl
theorem tabDn5_k (f:FuncId) (a:List D) (o:List Ob):tabDn5.k f a o=none:=rfl
set_option maxHeartbeats 1000000 in
theorem valD_c (s:Tx) (hl:s.length≤900000):PCalls Tryz.prog 101 [.x (.str s)] (.tup [.x (.str (valD s).1),.x (.bool (valD s).2)]):=by
 have htl:=trL_len s
 rcases hq:valD s with⟨v,ok⟩
 unfold valD at hq
 refine FCalls.pure (fcallsG (fz:=true) G_ok (p:=i101) rfl _ (ξ rfl) _ (fun C0 E0=> ?_)) rfl
 dsimp only[i101,qt,qi,qs,qb,qm,qa,qh,qj,qT,qF,qe,ql,qL,qf,q2,q3,q8,qz,qp,qP,qc,qk,qx,qy,qo,qr,qC,argsφ]
 have uu:=ξn @trimLeftG.eq_1 (ξn @trimLeftG.eq_2 (ξn @escDG.eq_1 (ξn @escDG.eq_2 (ξn @barredG.eq_1 (ξn @barredG.eq_2 (ξn @bytes_all (ξn @bytes_row (ξn @List.getD_cons_zero.{0} (ξn @tabDn5_r (ξn @tabDn5_k (ξn @tabDn5_q116 (ξn @tabDn5_q117 (@tabDn5_q118)))))))))))))
 have tT:=tabDn5_ok
 refine nz ?_
 refine rg tT [0] ?_
 refine WI.scope 0 rfl (fun φ os=>False) (fun φ _=>0) ?_ (fun φ os hI=> ?_)
 ·refine nz ?_
  refine rg tT [0] ?_
  refine rg tT [0,4] ?_
  refine rg tT [0,4,5] ?_
  refine WI.label ?_
  refine nz ?_
  refine WI.ownA 4 5 1 ?_
  refine WI.loop (fun φ os=> ∃(r b:Tx) (e n:Nat),φ= [(0,.x (.str r)),(4,.ref 0 b.length 0 b.length),(5,.x (.int .i64 e))]∧os= [.rows false 5 1 (b.map byteRow)]∧r.length<n∧b.length+r.length≤s.length∧e≤b.length∧vlp (s.length+1) (trL s) [] 0=vlp n r b e) ((fun φ _=>match get φ 0 with| .x (.str r)=>r.length|_=>0)) ?_ (fun φ os hI=> ?_)
  ·exact⟨trL s,[],0,s.length+1,rfl,rfl,by omega,by simp;omega,by simp,rfl⟩
  ·obtain⟨r,b,e,n,rfl,rfl,hn,hb,he,hv⟩:=hI
   obtain⟨n,rfl⟩: ∃m,n=m+1:=⟨n-1,by omega⟩
   refine nz ?_
   refine rg tT [0,4,5,13] ?_
   refine cd (fun h0=> ?_) (fun h0=> ?_)
   ·rcases r with _|⟨c,r⟩
    ·simp at h0
    have hn':r.length+1<n+1:=hn
    have hb':b.length+(r.length+1)≤s.length:=hb
    have hen:=escD_n r
    have hb8:c.toNat<256:=UInt8.toNat_lt _
    have hsc:decide (r.length≤1000000)=true:=ξt (by omega)
    have uu:=ξn uu hsc
    refine rg tT [0,4,5,6] ?_
    refine rg tT [0,4,5,6] ?_
    refine rg tT [0,4,5,6,24] ?_
    refine cd (fun h1=> ?_) (fun h1=> ?_)
    ·have hc:c=92:=c92D (by first|exact h1|simpa using h1)
     refine rg tT [0,4,7,8,9] ?_
     refine rg tT [0,4,7,8,34] ?_
     refine cd (fun h2=> ?_) (fun h2=> ?_)
     ·refine rg tT [2,3] ?_
      refine lf ?_
      rw[hv,vlp,if_pos hc,if_neg (by simpa using h2)]at hq;cases hq;rfl
     ·have hst:vlp (n+1) (c::r) b e=vlp n (r.drop (escD r).2.1) (b++ [(escD r).1]) (b.length+1):=by rw[vlp,if_pos hc,if_pos (by simpa using h2)]
      refine WI.post ?_
      refine WI.dregB tT [0,4] ?_
      iterate 2 refine dFS ?_
      iterate 2 refine dAG ?_
      iterate 2 refine dFS ?_
      refine dFG ?_
      iterate 2 refine dFS ?_
      refine dP ?_
      refine pPick [0] ?_
      refine pEnd ?_
      refine nz ?_
      refine rg tT [0,4,5] ?_
      first|exact⟨⟨r.drop (escD r).2.1,b++ [(escD r).1],b.length+1,n,by rw[ξA];first|done|rfl,by rw[bytes_snoc];first|done|rfl,by rw[List.length_drop];omega,by rw[ξA,List.length_drop];simp;omega,by simp,by rw[hv,hst]⟩,by show(r.drop (escD r).2.1).length<r.length+1;rw[List.length_drop];omega⟩|exact⟨⟨r,b++ [c],e,n,by rw[ξA];first|done|rfl,by rw[bytes_snoc];first|done|rfl,by omega,by rw[ξA];simp;omega,by simp;omega,by rw[hv,hst]⟩,by show r.length<r.length+1;omega⟩|exact⟨⟨r,b++ [c],b.length+1,n,by rw[ξA];first|done|rfl,by rw[bytes_snoc];first|done|rfl,by omega,by rw[ξA];simp;omega,by simp,by rw[hv,hst]⟩,by show r.length<r.length+1;omega⟩
    ·have hc:c≠92:=by rintro rfl;exact absurd h1 (by decide)
     have hz:((b.length:Int)==0)=decide (b.length=0):=by rw[Bool.eq_iff_iff];simp<;>omega
     have uu:=ξn uu hz
     refine rg tT [0,4,5,6,42] ?_
     refine cd (fun h3=> ?_) (fun h3=> ?_)
     ·refine rg tT [2,3] ?_
      refine lf ?_
      rw[hv,vlp,if_neg hc,if_pos (by simpa using h3)]at hq;cases hq;rfl
     ·refine rgp tT [0,4,5,6] ?_
      refine pPick [0] ?_
      refine pEnd ?_
      refine nz ?_
      refine rg tT [0,4,5,23] ?_
      refine cd (fun h4=> ?_) (fun h4=> ?_) (kA:=fun h=>h.h)
      ·refine WI.orderA [0,4,5] ?_
       have hst:vlp (n+1) (c::r) b e=vlp n r (b++ [c]) e:=by rw[vlp,if_neg hc,if_neg (by simpa using h3),if_pos (c32' (by first|exact h4|simpa using h4))]
       refine nz ?_
       first|exact⟨⟨r.drop (escD r).2.1,b++ [(escD r).1],b.length+1,n,by rw[ξA];first|done|rfl,by rw[bytes_snoc];first|done|rfl,by rw[List.length_drop];omega,by rw[ξA,List.length_drop];simp;omega,by simp,by rw[hv,hst]⟩,by show(r.drop (escD r).2.1).length<r.length+1;rw[List.length_drop];omega⟩|exact⟨⟨r,b++ [c],e,n,by rw[ξA];first|done|rfl,by rw[bytes_snoc];first|done|rfl,by omega,by rw[ξA];simp;omega,by simp;omega,by rw[hv,hst]⟩,by show r.length<r.length+1;omega⟩|exact⟨⟨r,b++ [c],b.length+1,n,by rw[ξA];first|done|rfl,by rw[bytes_snoc];first|done|rfl,by omega,by rw[ξA];simp;omega,by simp,by rw[hv,hst]⟩,by show r.length<r.length+1;omega⟩
      ·have hst:vlp (n+1) (c::r) b e=vlp n r (b++ [c]) (b.length+1):=by rw[vlp,if_neg hc,if_neg (by simpa using h3),if_neg (by rintro rfl;exact absurd h4 (by decide))]
       refine rg tT [0,4,5] ?_
       first|exact⟨⟨r.drop (escD r).2.1,b++ [(escD r).1],b.length+1,n,by rw[ξA];first|done|rfl,by rw[bytes_snoc];first|done|rfl,by rw[List.length_drop];omega,by rw[ξA,List.length_drop];simp;omega,by simp,by rw[hv,hst]⟩,by show(r.drop (escD r).2.1).length<r.length+1;rw[List.length_drop];omega⟩|exact⟨⟨r,b++ [c],e,n,by rw[ξA];first|done|rfl,by rw[bytes_snoc];first|done|rfl,by omega,by rw[ξA];simp;omega,by simp;omega,by rw[hv,hst]⟩,by show r.length<r.length+1;omega⟩|exact⟨⟨r,b++ [c],b.length+1,n,by rw[ξA];first|done|rfl,by rw[bytes_snoc];first|done|rfl,by omega,by rw[ξA];simp;omega,by simp,by rw[hv,hst]⟩,by show r.length<r.length+1;omega⟩
   ·obtain rfl:r= []:=by simpa using h0
    have hv2:vlp (s.length+1) (trL s) [] 0=some (b,e):=by rw[hv];rfl
    rw[hv2]at hq
    have e1:(List.map byteRow b).take e=(b.take e).map byteRow:=by rw[List.map_take]
    have uu:=ξn uu e1
    refine rg tT [2,3] ?_
    refine lf ?_
    cases hq;rw[show decide ((e:Int)>0)=decide (e>0) by rw[Bool.eq_iff_iff];simp]
 ·exact hI.elim
def valDG:List D→Option (Bool×D)
 | [.x (.str s)]=>some (decide (s.length≤900000),.tup [.x (.str (valD s).1),.x (.bool (valD s).2)])
 |_=>none
theorem valDG_ok: ∀args r,valDG args=some (true,r)→PCalls Tryz.prog 101 args r:=by
 intro args r h
 unfold valDG at h
 split at h
 ·rename_i s
  simp only[ξI,ξP,ξa,ξe,true_and]at h
  obtain⟨h1,rfl⟩:=h
  exact(valD_c s h1)
 ·cases h
theorem hexD_hx (n:Nat):(hexD n).2=decide (hxD n<16)∧(hxD n<16→(hexD n).1=hxD n):=by
 unfold hexD;split
 ·rename_i h;exact⟨by simp[h],fun _=>rfl⟩
 ·rename_i h;exact⟨by simp[h],fun h'=>absurd h' h⟩
theorem getD_drop (s:Tx) (i j:Nat):(s.drop i).getD j 0=s.getD (i+j) 0:=by simp
theorem escD_at (s:Tx) (i:Nat):escD (s.drop i)=if s.length≤i then(0,0,false)else if free (s.getD i 0)=true then(s.getD i 0,1,true)else if ¬hxD (s.getD i 0).toNat<16∨s.length<i+2 then(0,0,false)else(orB (hxD (s.getD i 0).toNat) (hexD (s.getD (i+1) 0).toNat).1,2,decide (hxD (s.getD (i+1) 0).toNat<16)):=by
 unfold escD
 rw[getD_drop,getD_drop,Nat.add_zero]
 have h1:=hexD_hx (s.getD i 0).toNat
 have h2:=hexD_hx (s.getD (i+1) 0).toNat
 by_cases h:s.length≤i
 ·rw[if_pos (List.drop_of_length_le h),if_pos h]
 ·rw[if_neg (by intro e;have:=congrArg List.length e;simp at this;omega),if_neg h]
  split
  ·rfl
  ·rw[h1.1,h2.1]
   have e1:(decide (hxD (s.getD i 0).toNat<16)=false∨(s.drop i).length<2)↔(¬hxD (s.getD i 0).toNat<16∨s.length<i+2):=by
    rw[decide_eq_false_iff_not,List.length_drop];constructor<;>(intro h;rcases h with h|h;exact .inl h;exact .inr (by omega))
   by_cases h3: ¬hxD (s.getD i 0).toNat<16∨s.length<i+2
   ·rw[if_pos h3,if_pos (e1.2 h3)]
   ·rw[if_neg h3,if_neg (fun h=>h3 (e1.1 h)),h1.2 (Decidable.not_not.1 fun h=>h3 (.inl h))]
theorem mulDN: ∀(a b:Fin 16),IntKind.u8.wrap (16*(a.val:Int)+(b.val:Int))=((UInt8.ofNat (16*a.val+b.val)).toNat:Int):=by decide+kernel
theorem mulD (h l:Nat) (h1:h<16) (h2:l<16):IntKind.u8.wrap (16*(h:Int)+(l:Int))=((orB h l).toNat:Int):=mulDN ⟨_,h1⟩ ⟨_,h2⟩
theorem free_eq (c:UInt8):free c=(spc c.toNat||(decide ((c.toNat:Int)=32)||decide ((c.toNat:Int)=35))):=by
 have e1:decide (c.toNat=32)=decide ((c.toNat:Int)=32):=by rw[Bool.eq_iff_iff,ξe,ξe];omega
 have e2:decide (c.toNat=35)=decide ((c.toNat:Int)=35):=by rw[Bool.eq_iff_iff,ξe,ξe];omega
 unfold free;rw[e1,e2,Bool.or_assoc]
theorem drop_cons (s:Tx) (j:Nat) (h:j<s.length):s.drop j=s.getD j 0::s.drop (j+1):=by
 rw[List.drop_eq_getElem_cons h];simp[h]
theorem vlp_free (n:Nat) (r b:Tx) (j e:Nat) (hc:r.getD j 0=92) (h1:j+1<r.length) (hf:free (r.getD (j+1) 0)=true):vlp (n+1) (r.drop j) b e=vlp n (r.drop (j+2)) (b++ [r.getD (j+1) 0]) (b.length+1):=by
 have hE:escD (r.drop (j+1))=(r.getD (j+1) 0,1,true):=by rw[escD_at,if_neg (by omega),if_pos hf]
 rw[drop_cons r j (by omega),vlp,if_pos hc,hE,if_pos rfl,List.drop_drop];first|done|rfl
theorem vlp_hex (n:Nat) (r b:Tx) (j e:Nat) (hc:r.getD j 0=92) (h1:j+2<r.length) (hf:free (r.getD (j+1) 0)=false) (hx:hxD (r.getD (j+1) 0).toNat<16) (hy:hxD (r.getD (j+2) 0).toNat<16):vlp (n+1) (r.drop j) b e=vlp n (r.drop (j+3)) (b++ [orB (hxD (r.getD (j+1) 0).toNat) (hxD (r.getD (j+2) 0).toNat)]) (b.length+1):=by
 have hE:escD (r.drop (j+1))=(orB (hxD (r.getD (j+1) 0).toNat) (hxD (r.getD (j+2) 0).toNat),2,true):=by
  rw[escD_at,if_neg (by omega),if_neg (by rw[hf];decide),if_neg (by rintro(h|h);exact h hx;omega),(hexD_hx (r.getD (j+1+1) 0).toNat).2 hy,ξt hy]
 rw[drop_cons r j (by omega),vlp,if_pos hc,hE,if_pos rfl,List.drop_drop];first|done|rfl
theorem vlp_bad (n:Nat) (r b:Tx) (j e:Nat) (hj:j<r.length) (hc:r.getD j 0=92) (hf: ¬(j+1<r.length∧free (r.getD (j+1) 0)=true)) (hx: ¬(j+2<r.length∧hxD (r.getD (j+1) 0).toNat<16∧hxD (r.getD (j+2) 0).toNat<16)):vlp (n+1) (r.drop j) b e=none:=by
 have hE:(escD (r.drop (j+1))).2.2=false:=by
  rw[escD_at]
  by_cases h1:r.length≤j+1
  ·rw[if_pos h1]
  ·rw[if_neg h1,if_neg (fun h=>hf ⟨by omega,h⟩)]
   by_cases h2: ¬hxD (r.getD (j+1) 0).toNat<16∨r.length<j+1+2
   ·rw[if_pos h2]
   ·rw[if_neg h2]
    simp only[not_or,Decidable.not_not]at h2
    exact decide_eq_false (fun h=>hx ⟨by omega,h2.1,h⟩)
 rw[drop_cons r j hj,vlp,if_pos hc,hE,if_neg (by decide)]
theorem vlp_bar (n:Nat) (r b:Tx) (j e:Nat) (hj:j<r.length) (hc:r.getD j 0≠92) (hb:barB (r.getD j 0).toNat (decide (b.length=0))=true):vlp (n+1) (r.drop j) b e=none:=by
 rw[drop_cons r j hj,vlp,if_neg hc,if_pos hb]
theorem vlp_blank (n:Nat) (r b:Tx) (j e:Nat) (hj:j<r.length) (hc:r.getD j 0=32):vlp (n+1) (r.drop j) b e=vlp n (r.drop (j+1)) (b++ [r.getD j 0]) e:=by
 rw[drop_cons r j hj,vlp,if_neg (by rw[hc];decide),if_neg (by rw[hc];cases decide (b.length=0)<;>decide),if_pos hc]
theorem vlp_plain (n:Nat) (r b:Tx) (j e:Nat) (hj:j<r.length) (hc:r.getD j 0≠92) (hb: ¬barB (r.getD j 0).toNat (decide (b.length=0))=true) (h3:r.getD j 0≠32):vlp (n+1) (r.drop j) b e=vlp n (r.drop (j+1)) (b++ [r.getD j 0]) (b.length+1):=by
 rw[drop_cons r j hj,vlp,if_neg hc,if_neg hb,if_neg h3]
theorem neD {c:UInt8} {k:Nat} (hk:k<256) (h: ¬(c.toNat:Int)=k):c≠UInt8.ofNat k:=fun e=>h (by rw[e];simp;omega)
theorem barB_eq (n:Nat) (f:Bool):barB n f=(((decide ((n:Int)<32)||decide ((n:Int)=127))||(spc n&&decide ((n:Int)≠61)))||(decide ((n:Int)=35)&&f)):=by
 unfold barB;rw[Bool.eq_iff_iff];simp only[Bool.or_eq_true,ξa,ξe];grind
theorem spc92:spc 92=true:=by decide
def tabDn6:Tabs:=addQ (addQ (noTabs) 71 specialG) 72 hexG
theorem tabDn6_ok:SsOk Tryz.prog tabDn6:=addQ_ok (addQ_ok (noTabs_ok) (G_enters G_ok (p:=i71) rfl) specialG_ok) (G_enters G_ok (p:=i72) rfl) hexG_ok
theorem tabDn6_q71 (a:List D):tabDn6.q 71 a=specialG a:=rfl
theorem tabDn6_q72 (a:List D):tabDn6.q 72 a=hexG a:=rfl
theorem tabDn6_r (f:FuncId) (a:List D) (o:List Ob):tabDn6.r f a o=none:=rfl
theorem tabDn6_k (f:FuncId) (a:List D) (o:List Ob):tabDn6.k f a o=none:=rfl
set_option maxHeartbeats 2000000 in
theorem valR_c (s:Tx) (hl:s.length≤900000):PCalls Tryz.prog 51 [.x (.str s)] (.tup [.x (.str (valR s).1),.x (.bool (valR s).2)]):=by
 have htl:=trL_len s
 rcases hq:valR s with⟨v,ok⟩
 unfold valR at hq
 refine FCalls.pure (fcallsG (fz:=true) G_ok (p:=i51) rfl _ (ξ rfl) _ (fun C0 E0=> ?_)) rfl
 dsimp only[i51,qt,qi,qs,qb,qm,qa,qh,qj,qT,qF,qe,ql,qL,qf,q2,q3,q8,qz,qp,qP,qc,qk,qx,qy,qo,qr,qC,argsφ]
 have uu:=ξn @specialG.eq_1 (ξn @specialG.eq_2 (ξn @hexG.eq_1 (ξn @hexG.eq_2 (ξn @bytes_all (ξn @bytes_row (ξn @tabDn6_r (ξn @tabDn6_k (ξn @tabDn6_q71 (@tabDn6_q72)))))))))
 have tT:=tabDn6_ok
 refine nz ?_
 refine WI.regB tT [0] ?_
 iterate 2 refine oS ?_
 refine oN ?_
 refine nz ?_
 refine WI.loop (fun φ os=> ∃(r:Tx),φ= [(0,.x (.str r))]∧os= []∧r.length≤s.length∧trL s=trL r) ((fun φ _=>match get φ 0 with| .x (.str r)=>r.length|_=>0)) ?_ (fun φ os hI=> ?_)
 ·exact⟨s,rfl,rfl,by omega,rfl⟩
 ·obtain⟨r,rfl,rfl,hr,he⟩:=hI
  have hem:=emp_len r
  refine nz ?_
  refine WI.regB tT [0,14] ?_
  refine oS ?_
  refine oG (hok:=by first|exact se|(clear uu;grind)|exact sd) ?_
  refine oS ?_
  iterate 4 refine oG (hok:=by first|exact se|(clear uu;grind)|exact sd) ?_
  refine oN ?_
  refine nz ?_
  refine cd (fun h0=> ?_) (fun h0=> ?_)
  ·have h0p:0<r.length:=by rcases r with _|⟨c,r⟩;simp at h0;simp
   have h0c:r.getD 0 0=32:=by rcases r with _|⟨c,r⟩;simp at h0;exact c32' (by simpa using h0)
   refine WI.regB tT [0] ?_
   refine oS ?_
   refine oG (hok:=by first|exact se|(clear uu;grind)|exact sd) ?_
   refine oS ?_
   refine oN ?_
   refine nz ?_
   exact⟨⟨r.drop 1,rfl,rfl,by simp;omega,by rw[he,trL_step r h0p h0c]⟩,by show(r.drop 1).length<r.length;rw[List.length_drop];omega⟩
  ·have h0n: ¬(0<r.length∧r.getD 0 0=32):=fun hh=>by
    have h2:((r.getD 0 0).toNat:Int)=32:=by rw[hh.2];rfl
    have h3:r≠ []:=by rintro rfl;simp at hh
    grind
   rw[he,trL_stop r h0n]at hq htl
   clear he h0 h0n hem
   refine WI.regB tT [0,4] ?_
   refine oS ?_
   refine oN ?_
   refine nz ?_
   refine WI.regB tT [0,4,5] ?_
   refine oS ?_
   refine oN ?_
   refine nz ?_
   refine WI.regB tT [0,4,5,6] ?_
   refine oS ?_
   refine oN ?_
   refine nz ?_
   refine WI.ownA 4 5 1 ?_
   refine WI.loop (fun φ os=> ∃(j e n:Nat) (b:Tx),φ= [(0,.x (.str r)),(4,.ref 0 b.length 0 b.length),(5,.x (.int .i64 e)),(6,.x (.int .i64 j))]∧os= [.rows false 5 1 (b.map byteRow)]∧j≤r.length∧r.length-j<n∧b.length≤j∧e≤b.length∧vlp (s.length+1) r [] 0=vlp n (r.drop j) b e) (down r.length 6) ?_ (fun φ os hI=> ?_)
   ·exact⟨0,0,s.length+1,[],rfl,rfl,by omega,by omega,by simp,by simp,rfl⟩
   ·obtain⟨j,e,n,b,rfl,rfl,hj,hn,hb,hee,hv⟩:=hI
    obtain⟨n,rfl⟩: ∃m,n=m+1:=⟨n-1,by omega⟩
    refine nz ?_
    refine WI.regB tT [0,4,5,6,20] ?_
    iterate 2 refine oS ?_
    iterate 2 refine oG (hok:=by first|exact se|(clear uu;grind)|exact sd) ?_
    refine oN ?_
    refine nz ?_
    refine cd (fun h1=> ?_) (fun h1=> ?_)
    ·have hj4:j<r.length:=by omega
     have e1:((j:Int)+1).toNat=j+1:=by omega
     have e2:((j:Int)+2).toNat=j+2:=by omega
     have hb8:(r.getD j 0).toNat<256:=UInt8.toNat_lt _
     have hb81:(r.getD (j+1) 0).toNat<256:=UInt8.toNat_lt _
     have hb82:(r.getD (j+2) 0).toNat<256:=UInt8.toNat_lt _
     have hfe:=free_eq (r.getD (j+1) 0)
     have hbe:=barB_eq (r.getD j 0).toNat (decide (b.length=0))
     have uu:=ξn uu (ξn e1 e2)
     refine WI.regB tT [0,4,5,6,7] ?_
     iterate 2 refine oS ?_
     refine oG (hok:=by first|exact se|(clear uu;grind)|exact sd) ?_
     refine oS ?_
     refine oN ?_
     refine nz ?_
     refine WI.regB tT [0,4,5,6,7,32] ?_
     refine oS ?_
     refine oG (hok:=by first|exact se|(clear uu;grind)|exact sd) ?_
     refine oS ?_
     iterate 6 refine oG (hok:=by first|exact se|(clear uu;grind)|exact sd) ?_
     refine oS ?_
     iterate 4 refine oG (hok:=by first|exact se|(clear uu;grind)|exact sd) ?_
     refine oC (hok:=by first|exact se|(clear uu;grind)|exact sd) ?_
     iterate 15 refine oG (hok:=by first|exact se|(clear uu;grind)|exact sd) ?_
     refine oS ?_
     refine oN ?_
     refine nz ?_
     refine cd (fun h2=> ?_) (fun h2=> ?_)
     ·have hst:=vlp_free n r b j e (c92D (by clear uu;grind)) (by clear uu;grind) (by rw[hfe];clear uu;grind)
      refine WI.post ?_
      refine WI.regB tT [0,4,6] ?_
      iterate 3 refine oS ?_
      iterate 4 refine oG (hok:=by first|exact se|(clear uu;grind)|exact sd) ?_
      refine oS ?_
      refine oP ?_
      refine pPick [0] ?_
      refine pEnd ?_
      refine nz ?_
      refine WI.regB tT [0,4,6] ?_
      refine oS ?_
      refine oG (hok:=by first|exact se|(clear uu;grind)|exact sd) ?_
      refine oS ?_
      refine oN ?_
      refine nz ?_
      refine WI.regB tT [0,4,5,6] ?_
      refine oS ?_
      refine oG (hok:=by first|exact se|(clear uu;grind)|exact sd) ?_
      refine oS ?_
      refine oN ?_
      refine nz ?_
      refine WI.orderA [0,4,5,6] ?_
      refine WI.regB tT [0,4,5,6] ?_
      refine oS ?_
      refine oG (hok:=by first|exact se|(clear uu;grind)|exact sd) ?_
      refine oS ?_
      refine oN ?_
      refine nz ?_
      first|exact⟨⟨j+2,b.length+1,n,b++ [r.getD (j+1) 0],by rw[ξA];first|done|rfl,by rw[bytes_snoc];first|done|rfl,by omega,by omega,by rw[ξA];simp;omega,by simp,by rw[hv,hst]⟩,by simp[down,Ab.get,D.val,intOf?];omega⟩|exact⟨⟨j+3,b.length+1,n,b++ [orB (hxD (r.getD (j+1) 0).toNat) (hxD (r.getD (j+2) 0).toNat)],by rw[ξA];first|done|rfl,by rw[bytes_snoc];first|done|rfl,by omega,by omega,by rw[ξA];simp;omega,by simp,by rw[hv,hst]⟩,by simp[down,Ab.get,D.val,intOf?];omega⟩|exact⟨⟨j+1,e,n,b++ [r.getD j 0],by rw[ξA];first|done|rfl,by rw[bytes_snoc];first|done|rfl,by omega,by omega,by rw[ξA];simp;omega,by simp;omega,by rw[hv,hst]⟩,by simp[down,Ab.get,D.val,intOf?];omega⟩|exact⟨⟨j+1,b.length+1,n,b++ [r.getD j 0],by rw[ξA];first|done|rfl,by rw[bytes_snoc];first|done|rfl,by omega,by omega,by rw[ξA];simp;omega,by simp,by rw[hv,hst]⟩,by simp[down,Ab.get,D.val,intOf?];omega⟩
     ·refine WI.regB tT [0,4,5,6,7,74] ?_
      refine oS ?_
      refine oG (hok:=by first|exact se|(clear uu;grind)|exact sd) ?_
      refine oS ?_
      iterate 6 refine oG (hok:=by first|exact se|(clear uu;grind)|exact sd) ?_
      refine oS ?_
      iterate 4 refine oG (hok:=by first|exact se|(clear uu;grind)|exact sd) ?_
      refine oC (hok:=by first|exact se|(clear uu;grind)|exact sd) ?_
      iterate 2 refine oG (hok:=by first|exact se|(clear uu;grind)|exact sd) ?_
      refine oS ?_
      iterate 4 refine oG (hok:=by first|exact se|(clear uu;grind)|exact sd) ?_
      refine oC (hok:=by first|exact se|(clear uu;grind)|exact sd) ?_
      iterate 2 refine oG (hok:=by first|exact se|(clear uu;grind)|exact sd) ?_
      refine oS ?_
      refine oN ?_
      refine nz ?_
      refine cd (fun h3=> ?_) (fun h3=> ?_)
      ·have hx1:hxD (r.getD (j+1) 0).toNat<16:=by clear uu;grind
       have hx2:hxD (r.getD (j+2) 0).toNat<16:=by clear uu;grind
       have hst:=vlp_hex n r b j e (c92D (by clear uu;grind)) (by clear uu;grind) (by rw[hfe];clear uu;grind) hx1 hx2
       have uu:=ξn uu (mulD _ _ hx1 hx2)
       refine WI.post ?_
       refine WI.dregB tT [0,4,6] ?_
       iterate 3 refine dFS ?_
       iterate 2 refine dFG (hok:=by first|exact se|(clear uu;grind)|exact sd) ?_
       refine dAC (hok:=by first|exact se|(clear uu;grind)|exact sd) ?_
       refine dFG (hok:=by first|exact se|(clear uu;grind)|exact sd) ?_
       iterate 2 refine dFS ?_
       iterate 2 refine dFG (hok:=by first|exact se|(clear uu;grind)|exact sd) ?_
       refine dAC (hok:=by first|exact se|(clear uu;grind)|exact sd) ?_
       iterate 2 refine dFG (hok:=by first|exact se|(clear uu;grind)|exact sd) ?_
       iterate 2 refine dAG (hok:=by first|exact se|(clear uu;grind)|exact sd) ?_
       refine dFS ?_
       refine dP ?_
       refine pPick [0] ?_
       refine pEnd ?_
       refine nz ?_
       refine WI.regB tT [0,4,6] ?_
       refine oS ?_
       refine oG (hok:=by first|exact se|(clear uu;grind)|exact sd) ?_
       refine oS ?_
       refine oN ?_
       refine nz ?_
       refine WI.regB tT [0,4,5,6] ?_
       refine oS ?_
       refine oG (hok:=by first|exact se|(clear uu;grind)|exact sd) ?_
       refine oS ?_
       refine oN ?_
       refine nz ?_
       refine WI.orderA [0,4,5,6] ?_
       refine WI.regB tT [0,4,5,6] ?_
       refine oS ?_
       refine oG (hok:=by first|exact se|(clear uu;grind)|exact sd) ?_
       refine oS ?_
       refine oN ?_
       refine nz ?_
       first|exact⟨⟨j+2,b.length+1,n,b++ [r.getD (j+1) 0],by rw[ξA];first|done|rfl,by rw[bytes_snoc];first|done|rfl,by omega,by omega,by rw[ξA];simp;omega,by simp,by rw[hv,hst]⟩,by simp[down,Ab.get,D.val,intOf?];omega⟩|exact⟨⟨j+3,b.length+1,n,b++ [orB (hxD (r.getD (j+1) 0).toNat) (hxD (r.getD (j+2) 0).toNat)],by rw[ξA];first|done|rfl,by rw[bytes_snoc];first|done|rfl,by omega,by omega,by rw[ξA];simp;omega,by simp,by rw[hv,hst]⟩,by simp[down,Ab.get,D.val,intOf?];omega⟩|exact⟨⟨j+1,e,n,b++ [r.getD j 0],by rw[ξA];first|done|rfl,by rw[bytes_snoc];first|done|rfl,by omega,by omega,by rw[ξA];simp;omega,by simp;omega,by rw[hv,hst]⟩,by simp[down,Ab.get,D.val,intOf?];omega⟩|exact⟨⟨j+1,b.length+1,n,b++ [r.getD j 0],by rw[ξA];first|done|rfl,by rw[bytes_snoc];first|done|rfl,by omega,by omega,by rw[ξA];simp;omega,by simp,by rw[hv,hst]⟩,by simp[down,Ab.get,D.val,intOf?];omega⟩
      ·refine WI.regB tT [0,4,5,6,7,120] ?_
       refine oS ?_
       refine oG (hok:=by first|exact se|(clear uu;grind)|exact sd) ?_
       refine oS ?_
       refine oN ?_
       refine nz ?_
       refine cd (fun h4=> ?_) (fun h4=> ?_)
       ·have hst:=vlp_blank n r b j e hj4 (c32' (by first|exact h4|simpa using h4))
        refine WI.post ?_
        refine WI.regB tT [0,4,5,6] ?_
        iterate 2 refine oS ?_
        iterate 2 refine oG (hok:=by first|exact se|(clear uu;grind)|exact sd) ?_
        refine oS ?_
        refine oP ?_
        refine pPick [0] ?_
        refine pEnd ?_
        refine nz ?_
        refine WI.orderA [0,4,5,6] ?_
        refine WI.regB tT [0,4,5,6] ?_
        refine oS ?_
        refine oG (hok:=by first|exact se|(clear uu;grind)|exact sd) ?_
        refine oS ?_
        refine oN ?_
        refine nz ?_
        first|exact⟨⟨j+2,b.length+1,n,b++ [r.getD (j+1) 0],by rw[ξA];first|done|rfl,by rw[bytes_snoc];first|done|rfl,by omega,by omega,by rw[ξA];simp;omega,by simp,by rw[hv,hst]⟩,by simp[down,Ab.get,D.val,intOf?];omega⟩|exact⟨⟨j+3,b.length+1,n,b++ [orB (hxD (r.getD (j+1) 0).toNat) (hxD (r.getD (j+2) 0).toNat)],by rw[ξA];first|done|rfl,by rw[bytes_snoc];first|done|rfl,by omega,by omega,by rw[ξA];simp;omega,by simp,by rw[hv,hst]⟩,by simp[down,Ab.get,D.val,intOf?];omega⟩|exact⟨⟨j+1,e,n,b++ [r.getD j 0],by rw[ξA];first|done|rfl,by rw[bytes_snoc];first|done|rfl,by omega,by omega,by rw[ξA];simp;omega,by simp;omega,by rw[hv,hst]⟩,by simp[down,Ab.get,D.val,intOf?];omega⟩|exact⟨⟨j+1,b.length+1,n,b++ [r.getD j 0],by rw[ξA];first|done|rfl,by rw[bytes_snoc];first|done|rfl,by omega,by omega,by rw[ξA];simp;omega,by simp,by rw[hv,hst]⟩,by simp[down,Ab.get,D.val,intOf?];omega⟩
       ·refine WI.regB tT [0,4,6,7,127] ?_
        refine oS ?_
        refine oG (hok:=by first|exact se|(clear uu;grind)|exact sd) ?_
        refine oS ?_
        iterate 3 refine oG (hok:=by first|exact se|(clear uu;grind)|exact sd) ?_
        refine oS ?_
        refine oG (hok:=by first|exact se|(clear uu;grind)|exact sd) ?_
        refine oC (hok:=by first|exact se|(clear uu;grind)|exact sd) ?_
        iterate 5 refine oG (hok:=by first|exact se|(clear uu;grind)|exact sd) ?_
        refine oS ?_
        iterate 8 refine oG (hok:=by first|exact se|(clear uu;grind)|exact sd) ?_
        refine oS ?_
        refine oN ?_
        refine nz ?_
        refine cd (fun h5=> ?_) (fun h5=> ?_)
        ·refine WI.regB tT [2,3] ?_
         iterate 2 refine oS ?_
         refine oN ?_
         refine nz ?_
         refine lf ?_
         have hno:vlp (n+1) (r.drop j) b e=none:=by
          by_cases hc:r.getD j 0=92
          ·have hc':((r.getD j 0).toNat:Int)=92:=by rw[hc];rfl
           exact vlp_bad n r b j e hj4 hc (by rw[hfe];clear uu;grind) (by clear uu;grind)
          ·exact vlp_bar n r b j e hj4 hc (by rw[hbe];clear uu;grind)
         rw[hv,hno]at hq;cases hq;rfl
        ·have hc9:r.getD j 0≠92:=by
          intro hc
          have hc':((r.getD j 0).toNat:Int)=92:=by rw[hc];rfl
          have hs9:spc (r.getD j 0).toNat=true:=by rw[hc];exact spc92
          clear uu;grind
         have hst:=vlp_plain n r b j e hj4 hc9 (by rw[hbe];clear uu;grind) (neD (k:=32) (by decide) (by clear uu;grind))
         refine WI.post ?_
         refine WI.regB tT [0,4,6] ?_
         iterate 2 refine oS ?_
         iterate 2 refine oG (hok:=by first|exact se|(clear uu;grind)|exact sd) ?_
         refine oS ?_
         refine oP ?_
         refine pPick [0] ?_
         refine pEnd ?_
         refine nz ?_
         refine WI.regB tT [0,4,5,6] ?_
         refine oS ?_
         refine oG (hok:=by first|exact se|(clear uu;grind)|exact sd) ?_
         refine oS ?_
         refine oN ?_
         refine nz ?_
         refine WI.orderA [0,4,5,6] ?_
         refine WI.regB tT [0,4,5,6] ?_
         refine oS ?_
         refine oG (hok:=by first|exact se|(clear uu;grind)|exact sd) ?_
         refine oS ?_
         refine oN ?_
         refine nz ?_
         first|exact⟨⟨j+2,b.length+1,n,b++ [r.getD (j+1) 0],by rw[ξA];first|done|rfl,by rw[bytes_snoc];first|done|rfl,by omega,by omega,by rw[ξA];simp;omega,by simp,by rw[hv,hst]⟩,by simp[down,Ab.get,D.val,intOf?];omega⟩|exact⟨⟨j+3,b.length+1,n,b++ [orB (hxD (r.getD (j+1) 0).toNat) (hxD (r.getD (j+2) 0).toNat)],by rw[ξA];first|done|rfl,by rw[bytes_snoc];first|done|rfl,by omega,by omega,by rw[ξA];simp;omega,by simp,by rw[hv,hst]⟩,by simp[down,Ab.get,D.val,intOf?];omega⟩|exact⟨⟨j+1,e,n,b++ [r.getD j 0],by rw[ξA];first|done|rfl,by rw[bytes_snoc];first|done|rfl,by omega,by omega,by rw[ξA];simp;omega,by simp;omega,by rw[hv,hst]⟩,by simp[down,Ab.get,D.val,intOf?];omega⟩|exact⟨⟨j+1,b.length+1,n,b++ [r.getD j 0],by rw[ξA];first|done|rfl,by rw[bytes_snoc];first|done|rfl,by omega,by omega,by rw[ξA];simp;omega,by simp,by rw[hv,hst]⟩,by simp[down,Ab.get,D.val,intOf?];omega⟩
    ·have hv2:vlp (s.length+1) r [] 0=some (b,e):=by rw[hv,List.drop_of_length_le (by omega)];rfl
     rw[hv2]at hq
     have e1:(List.map byteRow b).take e=(b.take e).map byteRow:=by rw[List.map_take]
     have uu:=ξn uu e1
     refine WI.regB tT [2,3] ?_
     iterate 2 refine oS ?_
     iterate 2 refine oG (hok:=by first|exact se|(clear uu;grind)|exact sd) ?_
     iterate 2 refine oS ?_
     refine oN ?_
     refine nz ?_
     refine lf ?_
     cases hq;rfl
def valRG:List D→Option (Bool×D)
 | [.x (.str s)]=>some (decide (s.length≤900000),.tup [.x (.str (valR s).1),.x (.bool (valR s).2)])
 |_=>none
theorem valRG_ok: ∀args r,valRG args=some (true,r)→PCalls Tryz.prog 51 args r:=by
 intro args r h
 unfold valRG at h
 split at h
 ·rename_i s
  simp only[ξI,ξP,ξa,ξe,true_and]at h
  obtain⟨h1,rfl⟩:=h
  exact(valR_c s h1)
 ·cases h
def pre (p:Tx):List Tx→List Tx
 | []=> [p]
 |x::l=>(p++x)::l
def spD (a:UInt8):Tx→List Tx
 | []=> [[]]
 |c::r=>if c=92 then(match r with
   | []=> [[c]]
   |d::r'=>pre [c,d] (spD a r'))else if c=a then []::spD a r else pre [c] (spD a r)
theorem pre_ne (p:Tx) (l:List Tx):pre p l≠ []:=by cases l<;>simp[pre]
theorem spD_ne (a:UInt8) (s:Tx):spD a s≠ []:=by
 unfold spD
 split
 ·simp
 ·split
  ·split
   ·simp
   ·exact pre_ne _ _
  ·split
   ·simp
   ·exact pre_ne _ _
theorem pre_pre (p q:Tx) (l:List Tx) (h:l≠ []):pre p (pre q l)=pre (p++q) l:=by
 rcases l with _|⟨x,l⟩
 ·exact absurd rfl h
 ·simp[pre]
theorem pre_nil (l:List Tx) (h:l≠ []):pre [] l=l:=by
 rcases l with _|⟨x,l⟩
 ·exact absurd rfl h
 ·simp[pre]
theorem spD_slash (a:UInt8) (s:Tx) (j:Nat) (h:j<s.length) (hc:s.getD j 0=92):spD a (s.drop j)=pre ((s.drop j).take 2) (spD a (s.drop (j+2))):=by
 rw[drop_cons s j h,hc]
 rcases hr:s.drop (j+1)with _|⟨d,r⟩
 ·have:s.drop (j+2)= []:=by rw[←List.drop_drop,show s.drop j=s.drop (j+0)from rfl];have:=congrArg (List.drop 1) hr;rw[List.drop_drop]at this;simpa using this
  rw[this];rfl
 ·have:s.drop (j+2)=r:=by have:=congrArg (List.drop 1) hr;rw[List.drop_drop]at this;simpa using this
  rw[this]
  conv=>lhs;unfold spD
  rw[if_pos rfl];rfl
theorem spD_hit (a:UInt8) (ha:a≠92) (s:Tx) (j:Nat) (h:j<s.length) (hc:s.getD j 0=a):spD a (s.drop j)= []::spD a (s.drop (j+1)):=by
 rw[drop_cons s j h,hc]
 conv=>lhs;unfold spD
 rw[if_neg ha,if_pos rfl]
theorem spD_plain (a:UInt8) (s:Tx) (j:Nat) (h:j<s.length) (h1:s.getD j 0≠92) (h2:s.getD j 0≠a):spD a (s.drop j)=pre [s.getD j 0] (spD a (s.drop (j+1))):=by
 rw[drop_cons s j h]
 conv=>lhs;unfold spD
 rw[if_neg h1,if_neg h2]
theorem piece_more (s:Tx) (f j k:Nat) (h:f≤j) (hj:j≤s.length):(s.take (j+k)).drop f=(s.take j).drop f++(s.drop j).take k:=by
 rw[List.take_add,List.drop_append_of_le_length (by simp;omega)]
theorem take1D (s:Tx) (j:Nat) (h:j<s.length):(s.drop j).take 1= [s.getD j 0]:=by rw[drop_cons s j h];rfl
structure SpI (a:UInt8) (s:Tx) (f j:Nat) (ps:List Tx):Prop where
 fj:f≤j
 jl:j≤s.length+1
 fl:f≤s.length
 pl:ps.length≤f
 eq:spD a s=ps++pre ((s.take j).drop f) (spD a (s.drop j))
theorem SpI.start (a:UInt8) (s:Tx):SpI a s 0 0 []:=⟨Nat.le_refl _,by omega,by omega,by simp,by show spD a s=pre [] (spD a s);rw[pre_nil _ (spD_ne a s)]⟩
theorem SpI.slash {a:UInt8} {s:Tx} {f j:Nat} {ps:List Tx} (I:SpI a s f j ps) (h:j<s.length) (hc:s.getD j 0=92):SpI a s f (j+2) ps:=
 ⟨by have:=I.fj;omega,by omega,I.fl,I.pl,by rw[I.eq,spD_slash a s j h hc,pre_pre _ _ _ (spD_ne _ _),piece_more s f j 2 I.fj (by omega)]⟩
theorem SpI.hit {a:UInt8} (ha:a≠92) {s:Tx} {f j:Nat} {ps:List Tx} (I:SpI a s f j ps) (h:j<s.length) (hc:s.getD j 0=a):SpI a s (j+1) (j+1) (ps++ [(s.take j).drop f]):=
 ⟨Nat.le_refl _,by omega,by omega,by have:=I.pl;have:=I.fj;simp;omega,by
  rw[I.eq,spD_hit a ha s j h hc,List.drop_of_length_le (l:=s.take (j+1)) (by simp;omega),pre_nil _ (spD_ne _ _)];simp[pre]⟩
theorem SpI.plain {a:UInt8} {s:Tx} {f j:Nat} {ps:List Tx} (I:SpI a s f j ps) (h:j<s.length) (h1:s.getD j 0≠92) (h2:s.getD j 0≠a):SpI a s f (j+1) ps:=
 ⟨by have:=I.fj;omega,by omega,I.fl,I.pl,by rw[I.eq,spD_plain a s j h h1 h2,pre_pre _ _ _ (spD_ne _ _),piece_more s f j 1 I.fj (by omega),take1D s j h]⟩
theorem SpI.fin {a:UInt8} {s:Tx} {f j:Nat} {ps:List Tx} (I:SpI a s f j ps) (h:s.length≤j):spD a s=ps++ [s.drop f]:=by
 rw[I.eq,List.drop_of_length_le h,ξT h];simp[spD,pre]
theorem rows_snocD (l:List Tx) (x:Tx):rows rStr l++ [[X.str x]]=rows rStr (l++ [x]):=by simp[rows,rStr]
theorem cD {c a:UInt8} (h:(c.toNat:Int)=a.toNat):c=a:=UInt8.toNat_inj.1 (by omega)
theorem nD {c a:UInt8} (h: ¬(c.toNat:Int)=a.toNat):c≠a:=fun e=>h (by rw[e])
theorem splitD_c (a:UInt8) (ha:a≠92) (s:Tx) (hl:s.length≤1000000):PCalls Tryz.prog 61 [.x (.str s),.x (.int .u8 a.toNat)] (.x (.sl (rows rStr (spD a s)))):=by
 refine FCalls.pure (fcallsG (fz:=true) G_ok (p:=i61) rfl _ (ξ rfl) _ (fun C0 E0=> ?_)) rfl
 dsimp only[i61,qt,qi,qs,qb,qm,qa,qh,qj,qT,qF,qe,ql,qL,qf,q2,q3,q8,qz,qp,qP,qc,qk,qx,qy,qo,qr,qC,argsφ]
 have uu:=trivial
 have tT:=(noTabs_ok:SsOk Tryz.prog noTabs)
 refine nz ?_
 refine rg tT [0,1] ?_
 refine rg tT [0,1,5] ?_
 refine rg tT [0,1,5,6] ?_
 refine rg tT [0,1,5,6,7] ?_
 refine WI.ownA 5 9 1 ?_
 refine WI.loop (fun φ os=> ∃(f j:Nat) (ps:List Tx),φ= [(0,.x (.str s)),(1,.x (.int .u8 a.toNat)),(5,.ref 0 ps.length 0 ps.length),(6,.x (.int .i64 f)),(7,.x (.int .i64 j))]∧os= [.rows false 9 1 (rows rStr ps)]∧SpI a s f j ps) (down (s.length+1) 7) ?_ (fun φ os hI=> ?_)
 ·exact⟨0,0,[],rfl,rfl,SpI.start a s⟩
 ·obtain⟨f,j,ps,rfl,rfl,I⟩:=hI
  have i1:=I.fj
  have i2:=I.jl
  have i3:=I.fl
  have i4:=I.pl
  refine nz ?_
  refine rg tT [0,1,5,6,7,11] ?_
  refine cd (fun h0=> ?_) (fun h0=> ?_)
  ·have hj4:j<s.length:=by omega
   refine rg tT [0,1,5,6,7,16] ?_
   refine rg tT [0,1,5,6,7,16,17] ?_
   refine cd (fun h1=> ?_) (fun h1=> ?_)
   ·have hc:s.getD j 0=92:=c92D (by first|exact h1|simpa using h1)
    refine rg tT [0,1,5,6,7] ?_
    refine WI.orderA [0,1,5,6,7] ?_
    refine rg tT [0,1,5,6,7] ?_
    first|exact⟨⟨f,j+2,ps,rfl,rfl,I.slash hj4 hc⟩,by simp[down,Ab.get,D.val,intOf?];omega⟩|exact⟨⟨j+1,j+1,ps++ [(s.take j).drop f],by rw[ξA];first|done|rfl,by rw[←rows_snocD];first|done|rfl,I.hit ha hj4 hc⟩,by simp[down,Ab.get,D.val,intOf?];omega⟩|exact⟨⟨f,j+1,ps,rfl,rfl,I.plain hj4 hc1 hc2⟩,by simp[down,Ab.get,D.val,intOf?];omega⟩
   ·have hc1:s.getD j 0≠92:=neD (k:=92) (by decide) (by first|exact h1|simpa using h1)
    refine rg tT [0,1,5,6,7,21] ?_
    refine cd (fun h2=> ?_) (fun h2=> ?_)
    ·have hc:s.getD j 0=a:=cD (by first|exact h2|simpa using h2)
     refine rgp tT [0,1,5,7] ?_
     refine pPick [0] ?_
     refine pEnd ?_
     refine nz ?_
     refine rg tT [0,1,5,6,7] ?_
     refine WI.orderA [0,1,5,6,7] ?_
     refine rg tT [0,1,5,6,7] ?_
     first|exact⟨⟨f,j+2,ps,rfl,rfl,I.slash hj4 hc⟩,by simp[down,Ab.get,D.val,intOf?];omega⟩|exact⟨⟨j+1,j+1,ps++ [(s.take j).drop f],by rw[ξA];first|done|rfl,by rw[←rows_snocD];first|done|rfl,I.hit ha hj4 hc⟩,by simp[down,Ab.get,D.val,intOf?];omega⟩|exact⟨⟨f,j+1,ps,rfl,rfl,I.plain hj4 hc1 hc2⟩,by simp[down,Ab.get,D.val,intOf?];omega⟩
    ·have hc2:s.getD j 0≠a:=nD (by first|exact h2|simpa using h2)
     refine WI.orderA [0,1,5,6,7] ?_
     refine rg tT [0,1,5,6,7] ?_
     first|exact⟨⟨f,j+2,ps,rfl,rfl,I.slash hj4 hc⟩,by simp[down,Ab.get,D.val,intOf?];omega⟩|exact⟨⟨j+1,j+1,ps++ [(s.take j).drop f],by rw[ξA];first|done|rfl,by rw[←rows_snocD];first|done|rfl,I.hit ha hj4 hc⟩,by simp[down,Ab.get,D.val,intOf?];omega⟩|exact⟨⟨f,j+1,ps,rfl,rfl,I.plain hj4 hc1 hc2⟩,by simp[down,Ab.get,D.val,intOf?];omega⟩
  ·refine rg tT [4] ?_
   refine lf ?_
   rw[rows_snocD,I.fin (by omega),ξT (by simp[rows])]
def splitDG:List D→Option (Bool×D)
 | [.x (.str s),.x (.int .u8 n)]=>some (decide (s.length≤1000000)&&(decide (n=43∨n=44)),.x (.sl (rows rStr (spD (UInt8.ofNat n.toNat) s))))
 |_=>none
theorem splitDG_ok: ∀args r,splitDG args=some (true,r)→PCalls Tryz.prog 61 args r:=by
 intro args r h
 unfold splitDG at h
 split at h
 ·rename_i s n
  simp only[ξI,ξP,ξa,ξe,true_and]at h
  obtain⟨⟨h1,h2⟩,rfl⟩:=h
  exact(by rcases h2 with rfl|rfl;exact splitD_c 43 (by decide) s h1;exact splitD_c 44 (by decide) s h1)
 ·cases h
theorem splitR_c (a:UInt8) (ha:a≠92) (s:Tx) (hl:s.length≤1000000):PCalls Tryz.prog 35 [.x (.str s),.x (.int .u8 a.toNat)] (.x (.sl (rows rStr (spD a s)))):=by
 refine FCalls.pure (fcallsG (fz:=true) G_ok (p:=i35) rfl _ (ξ rfl) _ (fun C0 E0=> ?_)) rfl
 dsimp only[i35,qt,qi,qs,qb,qm,qa,qh,qj,qT,qF,qe,ql,qL,qf,q2,q3,q8,qz,qp,qP,qc,qk,qx,qy,qo,qr,qC,argsφ]
 have uu:=trivial
 have tT:=(noTabs_ok:SsOk Tryz.prog noTabs)
 refine nz ?_
 refine rg tT [0,1] ?_
 refine rg tT [0,1,5] ?_
 refine rg tT [0,1,5,6] ?_
 refine rg tT [0,1,5,6,7] ?_
 refine WI.ownA 5 9 1 ?_
 refine WI.loop (fun φ os=> ∃(f j:Nat) (ps:List Tx),φ= [(0,.x (.str s)),(1,.x (.int .u8 a.toNat)),(5,.ref 0 ps.length 0 ps.length),(6,.x (.int .i64 f)),(7,.x (.int .i64 j))]∧os= [.rows false 9 1 (rows rStr ps)]∧SpI a s f j ps) (down (s.length+1) 7) ?_ (fun φ os hI=> ?_)
 ·exact⟨0,0,[],rfl,rfl,SpI.start a s⟩
 ·obtain⟨f,j,ps,rfl,rfl,I⟩:=hI
  have i1:=I.fj
  have i2:=I.jl
  have i3:=I.fl
  have i4:=I.pl
  refine nz ?_
  refine rg tT [0,1,5,6,7,11] ?_
  refine cd (fun h0=> ?_) (fun h0=> ?_)
  ·have hj4:j<s.length:=by omega
   refine rg tT [0,1,5,6,7,17] ?_
   refine cd (fun h1=> ?_) (fun h1=> ?_)
   ·have hc:s.getD j 0=92:=c92D (by first|exact h1|simpa using h1)
    refine rg tT [0,1,5,6,7] ?_
    refine WI.orderA [0,1,5,6,7] ?_
    refine rg tT [0,1,5,6,7] ?_
    first|exact⟨⟨f,j+2,ps,rfl,rfl,I.slash hj4 hc⟩,by simp[down,Ab.get,D.val,intOf?];omega⟩|exact⟨⟨j+1,j+1,ps++ [(s.take j).drop f],by rw[ξA];first|done|rfl,by rw[←rows_snocD];first|done|rfl,I.hit ha hj4 hc⟩,by simp[down,Ab.get,D.val,intOf?];omega⟩|exact⟨⟨f,j+1,ps,rfl,rfl,I.plain hj4 hc1 hc2⟩,by simp[down,Ab.get,D.val,intOf?];omega⟩
   ·have hc1:s.getD j 0≠92:=neD (k:=92) (by decide) (by first|exact h1|simpa using h1)
    refine rg tT [0,1,5,6,7,24] ?_
    refine cd (fun h2=> ?_) (fun h2=> ?_)
    ·have hc:s.getD j 0=a:=cD (by first|exact h2|simpa using h2)
     refine rgp tT [0,1,5,7] ?_
     refine pPick [0] ?_
     refine pEnd ?_
     refine nz ?_
     refine rg tT [0,1,5,6,7] ?_
     refine WI.orderA [0,1,5,6,7] ?_
     refine rg tT [0,1,5,6,7] ?_
     first|exact⟨⟨f,j+2,ps,rfl,rfl,I.slash hj4 hc⟩,by simp[down,Ab.get,D.val,intOf?];omega⟩|exact⟨⟨j+1,j+1,ps++ [(s.take j).drop f],by rw[ξA];first|done|rfl,by rw[←rows_snocD];first|done|rfl,I.hit ha hj4 hc⟩,by simp[down,Ab.get,D.val,intOf?];omega⟩|exact⟨⟨f,j+1,ps,rfl,rfl,I.plain hj4 hc1 hc2⟩,by simp[down,Ab.get,D.val,intOf?];omega⟩
    ·have hc2:s.getD j 0≠a:=nD (by first|exact h2|simpa using h2)
     refine WI.orderA [0,1,5,6,7] ?_
     refine rg tT [0,1,5,6,7] ?_
     first|exact⟨⟨f,j+2,ps,rfl,rfl,I.slash hj4 hc⟩,by simp[down,Ab.get,D.val,intOf?];omega⟩|exact⟨⟨j+1,j+1,ps++ [(s.take j).drop f],by rw[ξA];first|done|rfl,by rw[←rows_snocD];first|done|rfl,I.hit ha hj4 hc⟩,by simp[down,Ab.get,D.val,intOf?];omega⟩|exact⟨⟨f,j+1,ps,rfl,rfl,I.plain hj4 hc1 hc2⟩,by simp[down,Ab.get,D.val,intOf?];omega⟩
  ·refine rg tT [4] ?_
   refine lf ?_
   rw[rows_snocD,I.fin (by omega),ξT (by simp[rows])]
def splitRG:List D→Option (Bool×D)
 | [.x (.str s),.x (.int .u8 n)]=>some (decide (s.length≤1000000)&&(decide (n=43∨n=44)),.x (.sl (rows rStr (spD (UInt8.ofNat n.toNat) s))))
 |_=>none
theorem splitRG_ok: ∀args r,splitRG args=some (true,r)→PCalls Tryz.prog 35 args r:=by
 intro args r h
 unfold splitRG at h
 split at h
 ·rename_i s n
  simp only[ξI,ξP,ξa,ξe,true_and]at h
  obtain⟨⟨h1,h2⟩,rfl⟩:=h
  exact(by rcases h2 with rfl|rfl;exact splitR_c 43 (by decide) s h1;exact splitR_c 44 (by decide) s h1)
 ·cases h
def letN (n:Nat):Bool:=decide (97≤n∧n≤122)||decide (65≤n∧n≤90)
def digN (n:Nat):Bool:=decide (48≤n∧n≤57)||decide (n=45)
def tyC (i:Nat) (c:UInt8):Bool:=letN c.toNat||(decide (0<i)&&digN c.toNat)
def tyU (s:List UInt8):Nat→Bool
 |0=>true
 |j+1=>tyU s j&&tyC j (s.getD j 0)
def tyA (s:List UInt8) (j:Nat):Bool:=(decide (s≠ [])&&decide (s.length≤64))&&tyU s j
def typB (s:List UInt8):Bool:=tyA s s.length
theorem typB_eq (s:List UInt8):typB s=(decide (1≤s.length∧s.length≤64)&&tyU s s.length):=by
 unfold typB tyA
 congr 1
 rcases s with _|⟨c,s⟩<;>simp
theorem tyU_get (s:List UInt8): ∀(n j:Nat),tyU s n=true→j<n→tyC j (s.getD j 0)=true
 |n+1,j,h,hj=>by
  rw[tyU,ξa]at h
  by_cases e:j=n
  ·subst e;exact h.2
  ·exact tyU_get s n j h.1 (by omega)
theorem tyU_no (s:List UInt8): ∀(n j:Nat),j<n→tyC j (s.getD j 0)=false→tyU s n=false
 |n+1,j,hj,h=>by
  rw[tyU]
  by_cases e:j=n
  ·subst e;rw[h,Bool.and_false]
  ·rw[tyU_no s n j (by omega) h,Bool.false_and]
theorem tyC_low (j:Nat) (c:UInt8):(((decide ((lowC c).toNat≥97)&&decide ((lowC c).toNat≤122))||(decide (j>0)&&((decide ((lowC c).toNat≥48)&&decide ((lowC c).toNat≤57))||decide ((lowC c).toNat=45)))))=tyC j c:=by
 have h8:=UInt8.toNat_lt c
 unfold tyC letN digN
 by_cases h:65≤c.toNat∧c.toNat≤90
 ·have e:(lowC c).toNat=c.toNat+32:=by have:=lowC_up h;omega
  rw[e,Bool.eq_iff_iff];simp only[Bool.or_eq_true,ξa,ξe];omega
 ·have e:lowC c=c:=if_neg h
  rw[e,Bool.eq_iff_iff];simp only[Bool.or_eq_true,ξa,ξe];omega
theorem ty_zero (s:List UInt8):(!s== []&&decide ((s.length:Int)≤64))=tyA s 0:=by
 unfold tyA;rw[tyU,Bool.and_true,Bool.eq_iff_iff];simp;omega
theorem ty_step (s:List UInt8) (j:Nat):(tyA s j&&(decide (((lowC (s.getD j 0)).toNat:Int)≥97)&&decide (((lowC (s.getD j 0)).toNat:Int)≤122)||decide ((j:Int)>0)&&(decide (((lowC (s.getD j 0)).toNat:Int)≥48)&&decide (((lowC (s.getD j 0)).toNat:Int)≤57)||((lowC (s.getD j 0)).toNat:Int)==45)))=tyA s (j+1):=by
 have h:=tyC_low j (s.getD j 0)
 unfold tyA;rw[tyU,←h,←Bool.and_assoc]
 congr 1
 rw[Bool.eq_iff_iff];simp only[Bool.or_eq_true,ξa,ξe,beq_iff_eq];omega
theorem low_row (s:List UInt8) (i:Nat) (h:i<s.length):((lowS s).map byteRow)[i]? =some [X.int .u8 (lowC (s.getD i 0)).toNat]:=by
 simp[lowS,h,byteRow]
def tabTyp:Tabs:=addQ (noTabs) 64 lowerG
theorem tabTyp_ok:SsOk Tryz.prog tabTyp:=addQ_ok (noTabs_ok) (G_enters G_ok (p:=i64) rfl) lowerG_ok
theorem tabTyp_q64 (a:List D):tabTyp.q 64 a=lowerG a:=rfl
theorem tabTyp_r (f:FuncId) (a:List D) (o:List Ob):tabTyp.r f a o=none:=rfl
theorem tabTyp_k (f:FuncId) (a:List D) (o:List Ob):tabTyp.k f a o=none:=rfl
theorem typed_c (s:List UInt8) (hl:s.length≤1000000):PCalls Tryz.prog 106 [.x (.str s)] (.x (.bool (typB s))):=by
 refine FCalls.pure (fcallsG (fz:=true) G_ok (p:=i106) rfl _ (ξ rfl) _ (fun C0 E0=> ?_)) rfl
 dsimp only[i106,qt,qi,qs,qb,qm,qa,qh,qj,qT,qF,qe,ql,qL,qf,q2,q3,q8,qz,qp,qP,qc,qk,qx,qy,qo,qr,qC,argsφ]
 have uu:=ξn @lowerG.eq_1 (ξn @lowerG.eq_2 (ξn @lowS_len (ξn @bytes_all (ξn @bytes_row (ξn @tabTyp_r (ξn @tabTyp_k (@tabTyp_q64)))))))
 have tT:=tabTyp_ok
 refine nz ?_
 refine WI.regB tT [0] ?_
 refine oS ?_
 refine oN ?_
 refine nz ?_
 refine WI.regB tT [0,3] ?_
 refine oS ?_
 refine oG (hok:=by first|exact se|grind|exact sd) ?_
 refine oS ?_
 iterate 4 refine oG (hok:=by first|exact se|grind|exact sd) ?_
 refine oS ?_
 refine oN ?_
 refine nz ?_
 refine WI.regB tT [3,16,17,18] ?_
 refine oS ?_
 refine oC (hok:=by first|exact se|grind|exact sd) ?_
 iterate 2 refine oG (hok:=by first|exact se|grind|exact sd) ?_
 refine oS ?_
 refine oN ?_
 refine nz ?_
 refine WI.loop (fun φ os=> ∃(j:Nat),φ= [(3,.x (.bool (tyA s j))),(16,.ref 0 s.length 0 s.length),(17,.x (.int .i64 s.length)),(18,.x (.int .i64 j))]∧os= [.rows true 5 1 ((lowS s).map byteRow)]∧j≤s.length) (down s.length 18) ?_ (fun φ os hI=> ?_)
 ·exact⟨0,by rw[←ty_zero];rfl,rfl,by omega⟩
 ·obtain⟨j,rfl,rfl,hj⟩:=hI
  refine nz ?_
  refine WI.regB tT [3,16,17,18,19] ?_
  refine oG (hok:=by first|exact se|grind|exact sd) ?_
  refine oN ?_
  refine nz ?_
  refine cd (fun h0=> ?_) (fun h0=> ?_)
  ·have hj4:j<s.length:=by omega
   have uu:=ξn uu (low_row s j hj4)
   refine WI.regB tT [3,4,5,16,17,18] ?_
   refine oS ?_
   iterate 2 refine oG (hok:=by first|exact se|grind|exact sd) ?_
   iterate 2 refine oS ?_
   refine oN ?_
   refine nz ?_
   refine WI.regB tT [3,4,5,6,16,17,18] ?_
   refine oS ?_
   refine oG (hok:=by first|exact se|grind|exact sd) ?_
   refine oS ?_
   iterate 3 refine oG (hok:=by first|exact se|grind|exact sd) ?_
   refine oS ?_
   refine oN ?_
   refine nz ?_
   refine WI.regB tT [3,16,17,18] ?_
   iterate 2 refine oS ?_
   iterate 18 refine oG (hok:=by first|exact se|grind|exact sd) ?_
   refine oS ?_
   refine oN ?_
   refine nz ?_
   refine WI.regB tT [3,16,17,18] ?_
   refine oG (hok:=by first|exact se|grind|exact sd) ?_
   refine oS ?_
   refine oN ?_
   refine nz ?_
   exact⟨⟨j+1,by rw[←ty_step];rfl,rfl,by omega⟩,by simp[down,Ab.get,D.val,intOf?];omega⟩
  ·refine WI.regB tT [2] ?_
   iterate 2 refine oS ?_
   refine oN ?_
   refine nz ?_
   refine lf ?_
   rw[show typB s=tyA s j from by rw[show j=s.length by omega];rfl]
def typedG:List D→Option (Bool×D)
 | [.x (.str s)]=>some (decide (s.length≤1000000),.x (.bool (typB s)))
 |_=>none
theorem typedG_ok: ∀args r,typedG args=some (true,r)→PCalls Tryz.prog 106 args r:=by
 intro args r h
 unfold typedG at h
 split at h
 ·rename_i s
  simp only[ξI,ξP,ξa,ξe,true_and]at h
  obtain⟨h1,rfl⟩:=h
  exact(typed_c s h1)
 ·cases h
theorem tyC_eq (j:Nat) (c:UInt8):tyC j c=((decide (((c.toNat:Int))≥97)&&decide ((c.toNat:Int)≤122)||decide ((c.toNat:Int)≥65)&&decide ((c.toNat:Int)≤90))||(decide ((j:Int)≠0)&&(decide ((c.toNat:Int)≥48)&&decide ((c.toNat:Int)≤57)||decide ((c.toNat:Int)=45)))):=by
 unfold tyC letN digN
 rw[Bool.eq_iff_iff];simp only[Bool.or_eq_true,ξa,ξe];omega
theorem Typed_c (s:List UInt8) (hl:s.length≤1000000):PCalls Tryz.prog 19 [.x (.str s)] (.x (.bool (typB s))):=by
 refine FCalls.pure (fcallsG (fz:=true) G_ok (p:=i19) rfl _ (ξ rfl) _ (fun C0 E0=> ?_)) rfl
 dsimp only[i19,qt,qi,qs,qb,qm,qa,qh,qj,qT,qF,qe,ql,qL,qf,q2,q3,q8,qz,qp,qP,qc,qk,qx,qy,qo,qr,qC,argsφ]
 have uu:=trivial
 have tT:=(noTabs_ok:SsOk Tryz.prog noTabs)
 refine nz ?_
 refine WI.regB tT [0] ?_
 refine oS ?_
 refine oN ?_
 refine nz ?_
 refine WI.regB tT [0,3] ?_
 refine oS ?_
 refine oN ?_
 refine nz ?_
 refine WI.loop (fun φ os=> ∃(j:Nat),φ= [(0,.x (.str s)),(3,.x (.int .i64 j))]∧os= []∧j≤s.length∧tyU s j=true) (down s.length 3) ?_ (fun φ os hI=> ?_)
 ·exact⟨0,rfl,rfl,by omega,rfl⟩
 ·obtain⟨j,rfl,rfl,hj,hu⟩:=hI
  refine nz ?_
  refine WI.regB tT [0,3,9] ?_
  iterate 2 refine oS ?_
  iterate 2 refine oG (hok:=by first|exact se|grind|exact sd) ?_
  refine oN ?_
  refine nz ?_
  refine cd (fun h0=> ?_) (fun h0=> ?_)
  ·refine WI.regB tT [0,3,4] ?_
   iterate 2 refine oS ?_
   refine oG (hok:=by first|exact se|grind|exact sd) ?_
   refine oS ?_
   refine oN ?_
   refine nz ?_
   refine WI.regB tT [0,3,4,5] ?_
   refine oS ?_
   refine oG (hok:=by first|exact se|grind|exact sd) ?_
   refine oS ?_
   iterate 3 refine oG (hok:=by first|exact se|grind|exact sd) ?_
   refine oS ?_
   iterate 7 refine oG (hok:=by first|exact se|grind|exact sd) ?_
   refine oS ?_
   refine oN ?_
   refine nz ?_
   refine WI.regB tT [0,3,47] ?_
   refine oS ?_
   refine oG (hok:=by first|exact se|grind|exact sd) ?_
   refine oS ?_
   iterate 16 refine oG (hok:=by first|exact se|grind|exact sd) ?_
   refine oN ?_
   refine nz ?_
   refine cd (fun h1=> ?_) (fun h1=> ?_)
   ·have hc:tyC j (s.getD j 0)=false:=by rw[tyC_eq];grind
    refine WI.regB tT [2] ?_
    refine oS ?_
    refine oN ?_
    refine nz ?_
    refine lf ?_
    rw[typB_eq,tyU_no s s.length j (by omega) hc,Bool.and_false]
   ·have hc:tyC j (s.getD j 0)=true:=by rw[tyC_eq];grind
    refine WI.regB tT [0,3] ?_
    refine oS ?_
    refine oG (hok:=by first|exact se|grind|exact sd) ?_
    refine oS ?_
    refine oN ?_
    refine nz ?_
    exact⟨⟨j+1,rfl,rfl,by omega,by rw[tyU,hu,hc];rfl⟩,by simp[down,Ab.get,D.val,intOf?];omega⟩
  ·refine WI.regB tT [2] ?_
   refine oS ?_
   iterate 2 refine oG (hok:=by first|exact se|grind|exact sd) ?_
   refine oS ?_
   iterate 4 refine oG (hok:=by first|exact se|grind|exact sd) ?_
   refine oS ?_
   refine oN ?_
   refine nz ?_
   refine lf ?_
   rw[typB_eq,show s.length=j by omega,hu,Bool.and_true];congr 2;rw[Bool.eq_iff_iff];simp;omega
def TypedG:List D→Option (Bool×D)
 | [.x (.str s)]=>some (decide (s.length≤1000000),.x (.bool (typB s)))
 |_=>none
theorem TypedG_ok: ∀args r,TypedG args=some (true,r)→PCalls Tryz.prog 19 args r:=by
 intro args r h
 unfold TypedG at h
 split at h
 ·rename_i s
  simp only[ξI,ξP,ξa,ξe,true_and]at h
  obtain⟨h1,rfl⟩:=h
  exact(Typed_c s h1)
 ·cases h
theorem typedD_c (s:List UInt8) (hl:s.length≤1000000):PCalls Tryz.prog 100 [.x (.str s)] (.x (.bool (typB s))):=by
 refine FCalls.pure (fcallsG (fz:=true) G_ok (p:=i100) rfl _ (ξ rfl) _ (fun C0 E0=> ?_)) rfl
 dsimp only[i100,qt,qi,qs,qb,qm,qa,qh,qj,qT,qF,qe,ql,qL,qf,q2,q3,q8,qz,qp,qP,qc,qk,qx,qy,qo,qr,qC,argsφ]
 have uu:=ξn @lowerG.eq_1 (ξn @lowerG.eq_2 (ξn @lowS_len (ξn @bytes_all (ξn @bytes_row (ξn @tabTyp_r (ξn @tabTyp_k (@tabTyp_q64)))))))
 have tT:=tabTyp_ok
 refine nz ?_
 refine WI.regB tT [0] ?_
 refine oS ?_
 refine oN ?_
 refine nz ?_
 refine WI.regB tT [0,3] ?_
 refine oS ?_
 refine oG (hok:=by first|exact se|grind|exact sd) ?_
 refine oS ?_
 iterate 4 refine oG (hok:=by first|exact se|grind|exact sd) ?_
 refine oS ?_
 refine oN ?_
 refine nz ?_
 refine WI.regB tT [3,16,17,18] ?_
 refine oS ?_
 refine oC (hok:=by first|exact se|grind|exact sd) ?_
 iterate 2 refine oG (hok:=by first|exact se|grind|exact sd) ?_
 refine oS ?_
 refine oN ?_
 refine nz ?_
 refine WI.loop (fun φ os=> ∃(j:Nat),φ= [(3,.x (.bool (tyA s j))),(16,.ref 0 s.length 0 s.length),(17,.x (.int .i64 s.length)),(18,.x (.int .i64 j))]∧os= [.rows true 5 1 ((lowS s).map byteRow)]∧j≤s.length) (down s.length 18) ?_ (fun φ os hI=> ?_)
 ·exact⟨0,by rw[←ty_zero];rfl,rfl,by omega⟩
 ·obtain⟨j,rfl,rfl,hj⟩:=hI
  refine nz ?_
  refine WI.regB tT [3,16,17,18,19] ?_
  refine oG (hok:=by first|exact se|grind|exact sd) ?_
  refine oN ?_
  refine nz ?_
  refine cd (fun h0=> ?_) (fun h0=> ?_)
  ·have hj4:j<s.length:=by omega
   have uu:=ξn uu (low_row s j hj4)
   refine WI.regB tT [3,4,5,16,17,18] ?_
   refine oS ?_
   iterate 2 refine oG (hok:=by first|exact se|grind|exact sd) ?_
   iterate 2 refine oS ?_
   refine oN ?_
   refine nz ?_
   refine WI.regB tT [3,4,5,6,16,17,18] ?_
   refine oS ?_
   refine oG (hok:=by first|exact se|grind|exact sd) ?_
   refine oS ?_
   iterate 3 refine oG (hok:=by first|exact se|grind|exact sd) ?_
   refine oS ?_
   refine oN ?_
   refine nz ?_
   refine WI.regB tT [3,16,17,18] ?_
   iterate 2 refine oS ?_
   iterate 18 refine oG (hok:=by first|exact se|grind|exact sd) ?_
   refine oS ?_
   refine oN ?_
   refine nz ?_
   refine WI.regB tT [3,16,17,18] ?_
   refine oG (hok:=by first|exact se|grind|exact sd) ?_
   refine oS ?_
   refine oN ?_
   refine nz ?_
   exact⟨⟨j+1,by rw[←ty_step];rfl,rfl,by omega⟩,by simp[down,Ab.get,D.val,intOf?];omega⟩
  ·refine WI.regB tT [2] ?_
   iterate 2 refine oS ?_
   refine oN ?_
   refine nz ?_
   refine lf ?_
   rw[show typB s=tyA s j from by rw[show j=s.length by omega];rfl]
def typedDG:List D→Option (Bool×D)
 | [.x (.str s)]=>some (decide (s.length≤1000000),.x (.bool (typB s)))
 |_=>none
theorem typedDG_ok: ∀args r,typedDG args=some (true,r)→PCalls Tryz.prog 100 args r:=by
 intro args r h
 unfold typedDG at h
 split at h
 ·rename_i s
  simp only[ξI,ξP,ξa,ξe,true_and]at h
  obtain⟨h1,rfl⟩:=h
  exact(typedD_c s h1)
 ·cases h
theorem typedU_c (s:List UInt8) (hl:s.length≤1000000):PCalls Tryz.prog 45 [.x (.str s)] (.x (.bool (typB s))):=by
 refine FCalls.pure (fcallsG (fz:=true) G_ok (p:=i45) rfl _ (ξ rfl) _ (fun C0 E0=> ?_)) rfl
 dsimp only[i45,qt,qi,qs,qb,qm,qa,qh,qj,qT,qF,qe,ql,qL,qf,q2,q3,q8,qz,qp,qP,qc,qk,qx,qy,qo,qr,qC,argsφ]
 have uu:=ξn @lowerG.eq_1 (ξn @lowerG.eq_2 (ξn @lowS_len (ξn @bytes_all (ξn @bytes_row (ξn @tabTyp_r (ξn @tabTyp_k (@tabTyp_q64)))))))
 have tT:=tabTyp_ok
 refine nz ?_
 refine WI.regB tT [0] ?_
 refine oS ?_
 refine oN ?_
 refine nz ?_
 refine WI.regB tT [0,3] ?_
 refine oS ?_
 refine oG (hok:=by first|exact se|grind|exact sd) ?_
 refine oS ?_
 iterate 4 refine oG (hok:=by first|exact se|grind|exact sd) ?_
 refine oS ?_
 refine oN ?_
 refine nz ?_
 refine WI.regB tT [3,16,17,18] ?_
 refine oS ?_
 refine oC (hok:=by first|exact se|grind|exact sd) ?_
 iterate 2 refine oG (hok:=by first|exact se|grind|exact sd) ?_
 refine oS ?_
 refine oN ?_
 refine nz ?_
 refine WI.loop (fun φ os=> ∃(j:Nat),φ= [(3,.x (.bool (tyA s j))),(16,.ref 0 s.length 0 s.length),(17,.x (.int .i64 s.length)),(18,.x (.int .i64 j))]∧os= [.rows true 5 1 ((lowS s).map byteRow)]∧j≤s.length) (down s.length 18) ?_ (fun φ os hI=> ?_)
 ·exact⟨0,by rw[←ty_zero];rfl,rfl,by omega⟩
 ·obtain⟨j,rfl,rfl,hj⟩:=hI
  refine nz ?_
  refine WI.regB tT [3,16,17,18,19] ?_
  refine oG (hok:=by first|exact se|grind|exact sd) ?_
  refine oN ?_
  refine nz ?_
  refine cd (fun h0=> ?_) (fun h0=> ?_)
  ·have hj4:j<s.length:=by omega
   have uu:=ξn uu (low_row s j hj4)
   refine WI.regB tT [3,4,5,16,17,18] ?_
   refine oS ?_
   iterate 2 refine oG (hok:=by first|exact se|grind|exact sd) ?_
   iterate 2 refine oS ?_
   refine oN ?_
   refine nz ?_
   refine WI.regB tT [3,4,5,6,16,17,18] ?_
   refine oS ?_
   refine oG (hok:=by first|exact se|grind|exact sd) ?_
   refine oS ?_
   iterate 3 refine oG (hok:=by first|exact se|grind|exact sd) ?_
   refine oS ?_
   refine oN ?_
   refine nz ?_
   refine WI.regB tT [3,16,17,18] ?_
   iterate 2 refine oS ?_
   iterate 18 refine oG (hok:=by first|exact se|grind|exact sd) ?_
   refine oS ?_
   refine oN ?_
   refine nz ?_
   refine WI.regB tT [3,16,17,18] ?_
   refine oG (hok:=by first|exact se|grind|exact sd) ?_
   refine oS ?_
   refine oN ?_
   refine nz ?_
   exact⟨⟨j+1,by rw[←ty_step];rfl,rfl,by omega⟩,by simp[down,Ab.get,D.val,intOf?];omega⟩
  ·refine WI.regB tT [2] ?_
   iterate 2 refine oS ?_
   refine oN ?_
   refine nz ?_
   refine lf ?_
   rw[show typB s=tyA s j from by rw[show j=s.length by omega];rfl]
def typedUG:List D→Option (Bool×D)
 | [.x (.str s)]=>some (decide (s.length≤1000000),.x (.bool (typB s)))
 |_=>none
theorem typedUG_ok: ∀args r,typedUG args=some (true,r)→PCalls Tryz.prog 45 args r:=by
 intro args r h
 unfold typedUG at h
 split at h
 ·rename_i s
  simp only[ξI,ξP,ξa,ξe,true_and]at h
  obtain⟨h1,rfl⟩:=h
  exact(typedU_c s h1)
 ·cases h
end Go.Proofs.YtmlpbojoekmfaaaGreatDoor
end
section
namespace Go.Proofs
open Go.Shelf Go.RowKit Go.Lib
variable {P:Program} {ρ:Ren}
set_option maxHeartbeats 2000000 in
set_option maxRecDepth 100000 in
theorem Any1.stringslite_Cut_one (L:Lays.n220 P ρ) (s:ByteArray) (b:UInt8) (w:World) (hs:s.size<4294967281):
  Calls P (ρ.f 220) #[.string s,.string ⟨#[b]⟩] w fun e w'=>e= .returned (.tuple #[.string ⟨(Lib.cut s.data.toList [b]).1.toArray⟩,.string ⟨(Lib.cut s.data.toList [b]).2.1.toArray⟩,.bool (Lib.cut s.data.toList [b]).2.2])∧ ∃n,w'=w.drewN n:=by
 rcases Lib.indexB_cases s ⟨#[b]⟩with hix|⟨i,hix,hroom⟩
 ·obtain⟨e1,e2,e3⟩:=Lib.cutB_miss s ⟨#[b]⟩ hix
  rw[show [b]=(⟨#[b]⟩:ByteArray).data.toList from rfl,e1,e2,e3]
  have t3:=L.t3;have t4:=L.t4;have t9:=L.t9
  have a3: ∀w,(isAgg (ρ.t 3)).run P w= .ok false w:=run_isAgg_plain L.t3 rfl;have a4: ∀w,(isAgg (ρ.t 4)).run P w= .ok false w:=run_isAgg_plain L.t4 rfl;have a9: ∀w,(isAgg (ρ.t 9)).run P w= .ok false w:=run_isAgg_plain L.t9 rfl
  have e219: ∀args w,(callFunc (ρ.f 219) args).run P w= .ok (.enter (ρ.f 219) args) w:=enters_of L.f219 (by kernel_rfl) rfl
  have mixed:=L.mixed;have z3:=L.z3;have v3:=L.v3;have z4:=L.z4;have v4:=L.v4;have z9:=L.z9;have v9:=L.v9
  go_enter L.f220,Body.n220_ntmps ρ
  go_wp2_with (go_at_fn (ρ.f 219);refine(Any.stringslite_Index_one {L with} _ _ _).mono ?_;rintro e w' ⟨rfl,rfl⟩;rw[←Lib.index_one,show Lib.index s.data.toList [b]=_ from hix])
  go_ret3
  exact⟨rfl,0,rfl⟩
 ·obtain⟨e1,e2,e3⟩:=Lib.cutB_hit s ⟨#[b]⟩ i hix
  rw[show [b]=(⟨#[b]⟩:ByteArray).data.toList from rfl,e1,e2,e3]
  have hb1:(⟨#[b]⟩:ByteArray).size=1:=rfl
  have c1:(0:Int)≤ ↑i:=by omega
  have c2:(↑i:Int)≤ ↑s.size:=by omega
  have c3:(0:Int)≤ ↑i+1:=by omega
  have c4:(↑i+1:Int)≤ ↑s.size:=by omega
  have t3:=L.t3;have t4:=L.t4;have t9:=L.t9
  have a3: ∀w,(isAgg (ρ.t 3)).run P w= .ok false w:=run_isAgg_plain L.t3 rfl;have a4: ∀w,(isAgg (ρ.t 4)).run P w= .ok false w:=run_isAgg_plain L.t4 rfl;have a9: ∀w,(isAgg (ρ.t 9)).run P w= .ok false w:=run_isAgg_plain L.t9 rfl
  have e219: ∀args w,(callFunc (ρ.f 219) args).run P w= .ok (.enter (ρ.f 219) args) w:=enters_of L.f219 (by kernel_rfl) rfl
  have mixed:=L.mixed;have z3:=L.z3;have v3:=L.v3;have z4:=L.z4;have v4:=L.v4;have z9:=L.z9;have v9:=L.v9
  go_enter L.f220,Body.n220_ntmps ρ
  go_wp2_with (go_at_fn (ρ.f 219);refine(Any.stringslite_Index_one {L with} _ _ _).mono ?_;rintro e w' ⟨rfl,rfl⟩;rw[←Lib.index_one,show Lib.index s.data.toList [b]=_ from hix])
  go_region_o
  go_wp2
  go_ret3
  exact⟨rfl,1,rfl⟩
set_option maxHeartbeats 1000000 in
theorem Any1.strings_Cut_one (L:Lays.n145 P ρ) (s:ByteArray) (b:UInt8) (w:World) (hs:s.size<4294967281):
  Calls P (ρ.f 145) #[.string s,.string ⟨#[b]⟩] w fun e w'=>e= .returned (.tuple #[.string ⟨(Lib.cut s.data.toList [b]).1.toArray⟩,.string ⟨(Lib.cut s.data.toList [b]).2.1.toArray⟩,.bool (Lib.cut s.data.toList [b]).2.2])∧ ∃n,w'=w.drewN n:=by
 have t4:=L.t4;have t9:=L.t9;have t59:=L.t59
 have a4: ∀w,(isAgg (ρ.t 4)).run P w= .ok false w:=run_isAgg_plain L.t4 rfl;have a9: ∀w,(isAgg (ρ.t 9)).run P w= .ok false w:=run_isAgg_plain L.t9 rfl;have a59: ∀w,(isAgg (ρ.t 59)).run P w= .ok false w:=run_isAgg_plain L.t59 rfl
 have e220: ∀args w,(callFunc (ρ.f 220) args).run P w= .ok (.enter (ρ.f 220) args) w:=enters_of L.f220 (by kernel_rfl) rfl
 have mixed:=L.mixed;have z4:=L.z4;have v4:=L.v4;have z9:=L.z9;have v9:=L.v9;have z59:=L.z59;have v59:=L.v59
 go_enter L.f145,Body.n145_ntmps ρ
 go_wp2_with (go_at_fn (ρ.f 220);refine(Any1.stringslite_Cut_one {L with} _ _ _ hs).mono ?_;rintro e w' ⟨rfl,n,rfl⟩)
 go_ret3
 exact⟨rfl,n,rfl⟩
end Go.Proofs
namespace Go.Proofs.YtmlpbojoekmfaaaGreatDoor
open Go.RowKit Go.Bo Go.Ab
def cutB (c:UInt8):List UInt8→List UInt8×List UInt8×Bool
 | []=>([],[],false)
 |b::l=>if b=c then([],l,true)else(b::(cutB c l).1,(cutB c l).2.1,(cutB c l).2.2)
theorem cutB_eq (c:UInt8): ∀s,Lib.cut s [c]=cutB c s
 | []=>by simp[Lib.cut,cutB,Lib.index]
 |b::l=>by
  have ih:=cutB_eq c l
  unfold Lib.cut at ih⊢
  by_cases h:b=c
  ·subst h
   have hp: [b].isPrefixOf (b::l)=true:=by simp[List.isPrefixOf]
   simp[Lib.index,hp,cutB]
  ·have hp: [c].isPrefixOf (b::l)=false:=by simp[List.isPrefixOf];exact fun e=>h e.symm
   rw[cutB,if_neg h,←ih]
   have hn:=Lib.index_ge l [c]
   by_cases hi:Lib.index l [c]= -1
   ·simp[Lib.index,hp,hi]
   ·obtain⟨n,hn⟩: ∃n:Nat,Lib.index l [c]=n:=⟨(Lib.index l [c]).toNat,by omega⟩
    simp only[Lib.index,hp,hn,ξC,ξN]
    simp
    omega
theorem cut_c (s:List UInt8) (c:UInt8) (hl:s.length≤1000000):PCalls Tryz.prog 26 [.x (.str s),.x (.str [c])] (.tup [.x (.str (cutB c s).1),.x (.str (cutB c s).2.1),.x (.bool (cutB c s).2.2)]):=by
 intro w st vs hst hvl
 obtain⟨hsz,hv⟩:=hvl
 obtain⟨v0,v1,rfl⟩: ∃v0 v1,vs= #[v0,v1]:=by
  obtain⟨vl⟩:=vs
  match vl,hsz with
  | [a,b],_=>exact⟨a,b,rfl⟩
 have h0:=hv 0 _ v0 rfl rfl
 have h1:=hv 1 _ v1 rfl rfl
 cases h0 with
 |x h0=>
 cases h1 with
 |x h1=>
 cases h1 with
 |str _=>
 cases h0 with
 |str _=>
 have hbs:(bstr s).size=s.length:=by simp[bstr,ByteArray.size]
 refine(Any1.strings_Cut_one Tryz.lays145 (bstr s) c w (by omega)).mono ?_
 rintro e w' ⟨rfl,n,rfl⟩
 refine⟨_,st,rfl,⟨rfl,rfl,rfl,by simp[World.drewN],fun _ _ _=>rfl⟩,fun _ _ h=>h,fun _ _ h=> .inl h,?_⟩
 have e1:(bstr s).data.toList=s:=by simp[bstr]
 rw[e1,cutB_eq]
 exact V.tup3 (V.mkstr _ _ _) (V.mkstr _ _ _) (.x (.bool _))
theorem cut_enters:Go.Ab.Enters Tryz.prog 26:=Go.Proofs.enters_of Tryz.lays145.f145 (by kernel_rfl) rfl
def cutG:List D→Option (Bool×D)
 | [.x (.str s),.x (.str [c])]=>some (decide (s.length≤1000000),.tup [.x (.str (cutB c s).1),.x (.str (cutB c s).2.1),.x (.bool (cutB c s).2.2)])
 |_=>none
theorem cutG_ok: ∀args r,cutG args=some (true,r)→PCalls Tryz.prog 26 args r:=by
 intro args r h
 unfold cutG at h
 split at h
 ·rename_i s c
  simp only[ξI,ξP,ξa,ξe,true_and]at h
  obtain⟨h1,rfl⟩:=h
  exact(cut_c s c h1)
 ·cases h
theorem cutS_c (s p:List UInt8) (hs:s.length≤9223372036854775807):PCalls Tryz.prog 87 [.x (.str s),.x (.str p)] (.tup [.x (.str (Lib.trimSuffix s p)),.x (.bool (Lib.hasSuffix s p))]):=by
 intro w st vs hst hvl
 obtain⟨hsz,hv⟩:=hvl
 obtain⟨v0,v1,rfl⟩: ∃v0 v1,vs= #[v0,v1]:=by
  obtain⟨vl⟩:=vs
  match vl,hsz with
  | [a,b],_=>exact⟨a,b,rfl⟩
 have h0:=hv 0 _ v0 rfl rfl
 have h1:=hv 1 _ v1 rfl rfl
 cases h0 with
 |x h0=>
 cases h1 with
 |x h1=>
 cases h1 with
 |str _=>
 cases h0 with
 |str _=>
 have hbs:(bstr s).size=s.length:=by simp[bstr,ByteArray.size]
 refine(Tryz.strings_CutSuffix (bstr s) (bstr p) w (by omega)).mono ?_
 rintro e w' ⟨rfl,rfl⟩
 refine⟨_,st,rfl,Kept.refl _ _,fun _ _ h=>h,fun _ _ h=> .inl h,?_⟩
 have e1:(bstr s).data.toList=s:=by simp[bstr]
 have e2:(bstr p).data.toList=p:=by simp[bstr]
 rw[e1,e2]
 exact V.tup2 (V.mkstr _ _ _) _
theorem cutS_enters:Go.Ab.Enters Tryz.prog 87:=Go.Proofs.enters_of Tryz.lays104.f104 (by kernel_rfl) rfl
def cutSG:List D→Option (Bool×D)
 | [.x (.str s),.x (.str p)]=>some (decide (s.length≤9223372036854775807),.tup [.x (.str (Lib.trimSuffix s p)),.x (.bool (Lib.hasSuffix s p))])
 |_=>none
theorem cutSG_ok: ∀args r,cutSG args=some (true,r)→PCalls Tryz.prog 87 args r:=by
 intro args r h
 unfold cutSG at h
 split at h
 ·rename_i s p
  simp only[ξI,ξP,ξa,ξe,true_and]at h
  obtain⟨h1,rfl⟩:=h
  exact(cutS_c s p h1)
 ·cases h
abbrev Av:=Tx×Tx
def rAva:RC Av:=⟨2,fun p=> [.str p.1,.str p.2],fun
 | [.str a,.str b]=>some (a,b)
 |_=>none⟩
theorem good_rAva:rAva.Good:=⟨fun _=>rfl,fun _=>rfl,fun r x h=>by
 simp only[rAva]at h
 split at h
 ·cases h;rfl
 ·cases h⟩
abbrev rRdn:RC (List Av):=rSl rAva
theorem good_rRdn:rRdn.Good:=good_rSl good_rAva
theorem un_A (l:List Av):unrows rAva (rows rAva l)=some l:=unrows_rows good_rAva l
theorem un_R (l:List (List Av)):unrows rRdn (rows rRdn l)=some l:=unrows_rows good_rRdn l
theorem rows_snocA (l:List Av) (a b:Tx):rows rAva l++ [[X.str a,X.str b]]=rows rAva (l++ [(a,b)]):=by simp[rows,rAva]
theorem rows_snocR (l:List (List Av)) (x:List Av):rows rRdn l++ [[X.sl (rows rAva x)]]=rows rRdn (l++ [x]):=by simp[rows,rRdn,rSl]
def pairS (s:Tx):Av×Bool:=
 if(cutB 61 s).2.2=false∨typB (trim (cutB 61 s).1)=false then(([],[]),false)
 else((trim (cutB 61 s).1,(valD (cutB 61 s).2.1).1),(valD (cutB 61 s).2.1).2)
theorem cutB_lenD (c:UInt8): ∀s,(cutB c s).1.length≤s.length∧(cutB c s).2.1.length≤s.length
 | []=>by simp[cutB]
 |b::l=>by
  obtain⟨h1,h2⟩:=cutB_lenD c l
  unfold cutB
  split
  ·simp
  ·simp;omega
theorem trim_len (s:Tx):(trim s).length≤s.length:=Nat.le_trans (trL_len _) (trR_len _)
def tabDn7:Tabs:=addQ (addQ (addQ (addQ (noTabs) 26 cutG) 99 trimG) 100 typedDG) 101 valDG
theorem tabDn7_ok:SsOk Tryz.prog tabDn7:=addQ_ok (addQ_ok (addQ_ok (addQ_ok (noTabs_ok) cut_enters cutG_ok) (G_enters G_ok (p:=i99) rfl) trimG_ok) (G_enters G_ok (p:=i100) rfl) typedDG_ok) (G_enters G_ok (p:=i101) rfl) valDG_ok
theorem tabDn7_q26 (a:List D):tabDn7.q 26 a=cutG a:=rfl
theorem tabDn7_q99 (a:List D):tabDn7.q 99 a=trimG a:=rfl
theorem tabDn7_q100 (a:List D):tabDn7.q 100 a=typedDG a:=rfl
theorem tabDn7_q101 (a:List D):tabDn7.q 101 a=valDG a:=rfl
theorem tabDn7_r (f:FuncId) (a:List D) (o:List Ob):tabDn7.r f a o=none:=rfl
theorem tabDn7_k (f:FuncId) (a:List D) (o:List Ob):tabDn7.k f a o=none:=rfl
theorem pairD_c (s:Tx) (hl:s.length≤900000):PCalls Tryz.prog 85 [.x (.str s)] (.tup [.agg [.x (.str (pairS s).1.1),.x (.str (pairS s).1.2)],.x (.bool (pairS s).2)]):=by
 have h1:=cutB_lenD 61 s
 have h2:=trim_len (cutB 61 s).1
 rcases hq:pairS s with⟨⟨a,v⟩,ok⟩
 unfold pairS at hq
 refine FCalls.pure (fcallsG (fz:=true) G_ok (p:=i85) rfl _ (ξ rfl) _ (fun C0 E0=> ?_)) rfl
 dsimp only[i85,qt,qi,qs,qb,qm,qa,qh,qj,qT,qF,qe,ql,qL,qf,q2,q3,q8,qz,qp,qP,qc,qk,qx,qy,qo,qr,qC,argsφ]
 have uu:=ξn @cutG.eq_1 (ξn @cutG.eq_2 (ξn @trimG.eq_1 (ξn @trimG.eq_2 (ξn @typedDG.eq_1 (ξn @typedDG.eq_2 (ξn @valDG.eq_1 (ξn @valDG.eq_2 (ξn @tabDn7_r (ξn @tabDn7_k (ξn @tabDn7_q100 (ξn @tabDn7_q101 (ξn @tabDn7_q26 (@tabDn7_q99)))))))))))))
 have tT:=tabDn7_ok
 refine nz ?_
 refine WI.regB tT [0,2] ?_
 refine oG ?_
 refine oS ?_
 refine oN ?_
 refine nz ?_
 refine WI.regB tT [2,4,5,6] ?_
 refine oS ?_
 refine oC (hok:=by first|exact se|(clear uu;grind)|exact sd) ?_
 refine oS ?_
 iterate 3 refine oG ?_
 iterate 3 refine oS ?_
 refine oN ?_
 refine nz ?_
 refine WI.regB tT [2,4,5,6] ?_
 refine oS ?_
 refine oC (hok:=by first|exact se|(clear uu;grind)|exact sd) ?_
 refine oS ?_
 refine oN ?_
 refine nz ?_
 refine WI.regB tT [2,4,5,22] ?_
 refine oS ?_
 refine oG (hok:=by first|exact se|(clear uu;grind)|exact sd) ?_
 refine oS ?_
 refine oG (hok:=by first|exact se|(clear uu;grind)|exact sd) ?_
 refine oC (hok:=by first|exact se|(clear uu;grind)|exact sd) ?_
 iterate 2 refine oG (hok:=by first|exact se|(clear uu;grind)|exact sd) ?_
 refine oN ?_
 refine nz ?_
 refine cd (fun h0=> ?_) (fun h0=> ?_)
 ·refine WI.regB tT [2,3] ?_
  iterate 2 refine oG (hok:=by first|exact se|(clear uu;grind)|exact sd) ?_
  refine oS ?_
  refine oN ?_
  refine nz ?_
  refine lf ?_
  rw[if_pos (by clear uu;grind)]at hq;cases hq;rfl
 ·refine WI.regB tT [2,4,6,7] ?_
  refine oS ?_
  refine oC (hok:=by first|exact se|(clear uu;grind)|exact sd) ?_
  refine oS ?_
  iterate 2 refine oG ?_
  iterate 2 refine oS ?_
  refine oN ?_
  refine nz ?_
  refine WI.regB tT [2,3] ?_
  iterate 2 refine oS ?_
  refine oG (hok:=by first|exact se|(clear uu;grind)|exact sd) ?_
  refine oS ?_
  refine oG (hok:=by first|exact se|(clear uu;grind)|exact sd) ?_
  refine oS ?_
  refine oN ?_
  refine nz ?_
  refine lf ?_
  rw[if_neg (by clear uu;grind)]at hq;cases hq;rfl
def pairDG:List D→Option (Bool×D)
 | [.x (.str s)]=>some (decide (s.length≤900000),.tup [.agg [.x (.str (pairS s).1.1),.x (.str (pairS s).1.2)],.x (.bool (pairS s).2)])
 |_=>none
theorem pairDG_ok: ∀args r,pairDG args=some (true,r)→PCalls Tryz.prog 85 args r:=by
 intro args r h
 unfold pairDG at h
 split at h
 ·rename_i s
  simp only[ξI,ξP,ξa,ξe,true_and]at h
  obtain⟨h1,rfl⟩:=h
  exact(pairD_c s h1)
 ·cases h
theorem val_same (s:Tx):valD s=((valR s).1,(valR s).2&& !((valR s).1== [])):=by
 have key: ∀(n:Nat) (r b:Tx) (e:Nat) (x:Tx×Nat),e≤b.length→vlp n r b e=some x→x.2≤x.1.length:=by
  intro n
  induction n with
  |zero=>intro r b e x _ h;cases h
  |succ n ih=>
   intro r b e x he h
   rcases r with _|⟨c,r⟩
   ·rw[vlp]at h;cases h;exact he
   ·rw[vlp]at h
    split at h
    ·split at h
     ·exact ih _ _ _ _ (by simp) h
     ·cases h
    ·split at h
     ·cases h
     ·split at h
      ·exact ih _ _ _ _ (by simp;omega) h
      ·exact ih _ _ _ _ (by simp) h
 unfold valD valR
 split
 ·rfl
 ·rename_i b e h
  have hk:=key _ _ _ _ _ (by simp) h
  simp only at hk
  rw[Bool.true_and]
  congr 1
  rcases b with _|⟨c,b⟩
  ·simp at hk;simp;omega
  ·rcases e with _|e
   ·simp
   ·simp
def eqI:Tx→Nat
 | []=>0
 |c::s=>if c=61 then 0 else eqI s+1
theorem cut_eqI: ∀s:Tx,(eqI s=s.length→cutB 61 s=(s,[],false))∧(eqI s≠s.length→cutB 61 s=(s.take (eqI s),s.drop (eqI s+1),true))
 | []=>⟨fun _=>rfl,fun h=>absurd rfl h⟩
 |c::s=>by
  obtain⟨h1,h2⟩:=cut_eqI s
  unfold eqI cutB
  by_cases h:c=61
  ·rw[if_pos h,if_pos h];simp
  ·rw[if_neg h,if_neg h]
   refine⟨fun e=> ?_,fun e=> ?_⟩
   ·rw[h1 (by simpa using e)]
   ·rw[h2 (by simpa using e)];simp
theorem eqI_step (s:Tx) (j:Nat) (h:j<s.length) (hc:s.getD j 0≠61):j+eqI (s.drop j)=j+1+eqI (s.drop (j+1)):=by
 rw[drop_cons s j h]
 conv=>lhs;unfold eqI
 rw[if_neg hc];omega
theorem eqI_stop (s:Tx) (j:Nat) (h:j<s.length) (hc:s.getD j 0=61):eqI (s.drop j)=0:=by
 rw[drop_cons s j h,hc];rfl
def tabDn8:Tabs:=addQ (addQ (addQ (noTabs) 50 trimDG) 19 TypedG) 51 valRG
theorem tabDn8_ok:SsOk Tryz.prog tabDn8:=addQ_ok (addQ_ok (addQ_ok (noTabs_ok) (G_enters G_ok (p:=i50) rfl) trimDG_ok) (G_enters G_ok (p:=i19) rfl) TypedG_ok) (G_enters G_ok (p:=i51) rfl) valRG_ok
theorem tabDn8_q50 (a:List D):tabDn8.q 50 a=trimDG a:=rfl
theorem tabDn8_q19 (a:List D):tabDn8.q 19 a=TypedG a:=rfl
theorem tabDn8_q51 (a:List D):tabDn8.q 51 a=valRG a:=rfl
theorem tabDn8_r (f:FuncId) (a:List D) (o:List Ob):tabDn8.r f a o=none:=rfl
theorem tabDn8_k (f:FuncId) (a:List D) (o:List Ob):tabDn8.k f a o=none:=rfl
theorem pairR_c (s:Tx) (hl:s.length≤900000):PCalls Tryz.prog 36 [.x (.str s)] (.tup [.agg [.x (.str (pairS s).1.1),.x (.str (pairS s).1.2)],.x (.bool (pairS s).2)]):=by
 have hcut:=cut_eqI s
 rcases hq:pairS s with⟨⟨a,v⟩,ok⟩
 unfold pairS at hq
 rw[val_same]at hq
 refine FCalls.pure (fcallsG (fz:=true) G_ok (p:=i36) rfl _ (ξ rfl) _ (fun C0 E0=> ?_)) rfl
 dsimp only[i36,qt,qi,qs,qb,qm,qa,qh,qj,qT,qF,qe,ql,qL,qf,q2,q3,q8,qz,qp,qP,qc,qk,qx,qy,qo,qr,qC,argsφ]
 have uu:=ξn @trimDG.eq_1 (ξn @trimDG.eq_2 (ξn @TypedG.eq_1 (ξn @TypedG.eq_2 (ξn @valRG.eq_1 (ξn @valRG.eq_2 (ξn @tabDn8_r (ξn @tabDn8_k (ξn @tabDn8_q19 (ξn @tabDn8_q50 (@tabDn8_q51))))))))))
 have tT:=tabDn8_ok
 refine nz ?_
 refine WI.regB tT [0,2] ?_
 refine oG ?_
 refine oS ?_
 refine oN ?_
 refine nz ?_
 refine WI.regB tT [0,2,4] ?_
 refine oS ?_
 refine oN ?_
 refine nz ?_
 refine WI.loop (fun φ os=> ∃(j:Nat),φ= [(0,.x (.str s)),(2,.ptr 0 0),(4,.x (.int .i64 j))]∧os= [.box [.x (.str []),.x (.str [])]]∧j≤s.length∧eqI s=j+eqI (s.drop j)) (down s.length 4) ?_ (fun φ os hI=> ?_)
 ·exact⟨0,rfl,rfl,by omega,by simp⟩
 ·obtain⟨j,rfl,rfl,hj,hat⟩:=hI
  refine nz ?_
  refine WI.regB tT [0,2,4,16] ?_
  iterate 2 refine oS ?_
  iterate 2 refine oG (hok:=by first|exact se|(clear uu;grind)|exact sd) ?_
  refine oS ?_
  iterate 5 refine oG (hok:=by first|exact se|(clear uu;grind)|exact sd) ?_
  refine oN ?_
  refine nz ?_
  refine cd (fun h0=> ?_) (fun h0=> ?_)
  ·have hj4:j<s.length:=by clear uu;grind
   have hst:=eqI_step s j hj4 (neD (k:=61) (by decide) (by clear uu;grind))
   refine WI.regB tT [0,2,4] ?_
   refine oS ?_
   refine oG (hok:=by first|exact se|(clear uu;grind)|exact sd) ?_
   refine oS ?_
   refine oN ?_
   refine nz ?_
   exact⟨⟨j+1,rfl,rfl,by omega,by rw[hat,hst]⟩,by simp[down,Ab.get,D.val,intOf?];omega⟩
  ·have hej:eqI s=j:=by
    by_cases hj4:j<s.length
    ·rw[hat,eqI_stop s j hj4 (cD (a:=61) (by clear uu;show((s.getD j 0).toNat:Int)=61;grind))];rfl
    ·rw[hat,List.drop_of_length_le (by omega)];rfl
   clear hat
   rw[hej]at hcut
   have e1:((j:Int)+1).toNat=j+1:=by omega
   have hl1:decide ((s.take j).length≤1000000)=true:=ξt (by rw[List.length_take];omega)
   have htl:=trim_len (s.take j)
   have hl2:decide ((trim (s.take j)).length≤1000000)=true:=ξt (by rw[List.length_take]at htl;omega)
   have hl3:decide ((s.drop (j+1)).length≤900000)=true:=ξt (by rw[List.length_drop];omega)
   have uu:=ξn uu (ξn e1 (ξn hl1 (ξn hl2 hl3)))
   refine WI.regB tT [0,2,4,30] ?_
   iterate 2 refine oS ?_
   iterate 2 refine oG (hok:=by first|exact se|(clear uu;grind)|exact sd) ?_
   refine oS ?_
   iterate 3 refine oG (hok:=by first|exact se|(clear uu;grind)|exact sd) ?_
   iterate 2 refine oC (hok:=by first|exact se|(clear uu;grind)|exact sd) ?_
   iterate 2 refine oG (hok:=by first|exact se|(clear uu;grind)|exact sd) ?_
   refine oN ?_
   refine nz ?_
   refine cd (fun h1=> ?_) (fun h1=> ?_)
   ·refine WI.regB tT [2,3] ?_
    iterate 2 refine oG (hok:=by first|exact se|(clear uu;grind)|exact sd) ?_
    refine oS ?_
    refine oN ?_
    refine nz ?_
    refine lf ?_
    have h3:(cutB 61 s).2.2=false∨typB (trim (cutB 61 s).1)=false:=by
     by_cases hz:j=s.length
     ·rw[hcut.1 hz];exact .inl rfl
     ·rw[hcut.2 hz];right;clear uu;grind
    rw[if_pos h3]at hq;cases hq;rfl
   ·refine WI.regB tT [0,2,4,5,6] ?_
    iterate 2 refine oS ?_
    iterate 2 refine oG (hok:=by first|exact se|(clear uu;grind)|exact sd) ?_
    refine oC (hok:=by first|exact se|(clear uu;grind)|exact sd) ?_
    refine oS ?_
    iterate 2 refine oG ?_
    iterate 2 refine oS ?_
    refine oN ?_
    refine nz ?_
    refine WI.regB tT [2,3] ?_
    iterate 2 refine oS ?_
    refine oG (hok:=by first|exact se|(clear uu;grind)|exact sd) ?_
    refine oC (hok:=by first|exact se|(clear uu;grind)|exact sd) ?_
    refine oS ?_
    refine oG (hok:=by first|exact se|(clear uu;grind)|exact sd) ?_
    iterate 2 refine oS ?_
    iterate 4 refine oG (hok:=by first|exact se|(clear uu;grind)|exact sd) ?_
    refine oS ?_
    refine oN ?_
    refine nz ?_
    refine lf ?_
    have hz:j≠s.length:=by clear uu;grind
    rw[hcut.2 hz]at hq
    rw[if_neg (by clear uu;grind)]at hq;cases hq;rfl
def pairRG:List D→Option (Bool×D)
 | [.x (.str s)]=>some (decide (s.length≤900000),.tup [.agg [.x (.str (pairS s).1.1),.x (.str (pairS s).1.2)],.x (.bool (pairS s).2)])
 |_=>none
theorem pairRG_ok: ∀args r,pairRG args=some (true,r)→PCalls Tryz.prog 36 args r:=by
 intro args r h
 unfold pairRG at h
 split at h
 ·rename_i s
  simp only[ξI,ξP,ξa,ξe,true_and]at h
  obtain⟨h1,rfl⟩:=h
  exact(pairR_c s h1)
 ·cases h
theorem pre_len (p:Tx) (l:List Tx) (n:Nat) (h: ∀x∈l,x.length+p.length≤n) (hp:p.length≤n): ∀x∈pre p l,x.length≤n:=by
 rcases l with _|⟨y,l⟩
 ·intro x hx;simp[pre]at hx;subst hx;exact hp
 ·intro x hx
  simp only[pre,List.mem_cons]at hx
  rcases hx with rfl|hx
  ·have:=h y (by simp);simp;omega
  ·have:=h x (by simp[hx]);omega
theorem pre_cnt (p:Tx) (l:List Tx) (n:Nat) (h:l.length≤n) (h1:1≤n):(pre p l).length≤n:=by
 rcases l with _|⟨y,l⟩
 ·exact h1
 ·exact h
theorem spD_1 {a c:UInt8} {r:Tx} (h1:c≠92) (h2:c=a):spD a (c::r)= []::spD a r:=by
 conv=>lhs;unfold spD
 rw[if_neg h1,if_pos h2]
theorem spD_2 {a c:UInt8} {r:Tx} (h1:c≠92) (h2:c≠a):spD a (c::r)=pre [c] (spD a r):=by
 conv=>lhs;unfold spD
 rw[if_neg h1,if_neg h2]
theorem spD_bnd (a:UInt8): ∀(n:Nat) (s:Tx),s.length≤n→(∀x∈spD a s,x.length≤s.length)∧(spD a s).length≤s.length+1
 |_,[],_=>by simp[spD]
 |n+1,c::r,hn=>by
  have hn':r.length≤n:=by simpa using hn
  by_cases h1:c=92
  ·rcases r with _|⟨d,r⟩
   ·subst h1;simp[spD]
   ·obtain⟨h2,h3⟩:=spD_bnd a n r (by simp at hn';omega)
    have e:spD a (c::d::r)=pre [c,d] (spD a r):=by subst h1;rfl
    rw[e]
    exact⟨pre_len _ _ _ (fun x hx=>by have:=h2 x hx;simp;omega) (by simp),pre_cnt _ _ _ (by simp;omega) (by simp)⟩
  ·obtain⟨h2,h3⟩:=spD_bnd a n r hn'
   by_cases h4:c=a
   ·have e:spD a (c::r)= []::spD a r:=spD_1 h1 h4
    rw[e]
    refine⟨fun x hx=> ?_,by simp;omega⟩
    rcases List.mem_cons.1 hx with rfl|hx
    ·simp
    ·have:=h2 x hx;simp;omega
   ·have e:spD a (c::r)=pre [c] (spD a r):=spD_2 h1 h4
    rw[e]
    exact⟨pre_len _ _ _ (fun x hx=>by have:=h2 x hx;simp;omega) (by simp),pre_cnt _ _ _ (by simp;omega) (by simp)⟩
def partL (s:Tx):List (Av×Bool):=(spD 43 s).map pairS
def partS (s:Tx):List Av×Bool:=if(partL s).all (·.2)=true then((partL s).map (·.1),true)else([],false)
theorem all_take_false {α:Type} (p:α→Bool) (l:List α) (j:Nat) (h:j<l.length) (hp:p l[j]=false):l.all p=false:=by
 rw[Bool.eq_false_iff];intro hh
 have:=List.all_eq_true.1 hh l[j] (List.getElem_mem h)
 rw[hp]at this;cases this
theorem all_snoc {α:Type} (p:α→Bool) (l:List α) (j:Nat) (h:j<l.length):(l.take (j+1)).all p=((l.take j).all p&&p l[j]):=by
 rw[List.take_succ_eq_append_getElem h,List.all_append];simp
def tabDn9:Tabs:=addQ (addQ (noTabs) 61 splitDG) 85 pairDG
theorem tabDn9_ok:SsOk Tryz.prog tabDn9:=addQ_ok (addQ_ok (noTabs_ok) (G_enters G_ok (p:=i61) rfl) splitDG_ok) (G_enters G_ok (p:=i85) rfl) pairDG_ok
theorem tabDn9_q61 (a:List D):tabDn9.q 61 a=splitDG a:=rfl
theorem tabDn9_q85 (a:List D):tabDn9.q 85 a=pairDG a:=rfl
theorem tabDn9_r (f:FuncId) (a:List D) (o:List Ob):tabDn9.r f a o=none:=rfl
theorem tabDn9_k (f:FuncId) (a:List D) (o:List Ob):tabDn9.k f a o=none:=rfl
theorem partD_c (s:Tx) (hl:s.length≤900000):PCalls Tryz.prog 62 [.x (.str s)] (.tup [.x (.sl (rows rAva (partS s).1)),.x (.bool (partS s).2)]):=by
 obtain⟨hb1,hb2⟩:=spD_bnd 43 _ s (Nat.le_refl _)
 rcases hq:partS s with⟨d,ok⟩
 unfold partS partL at hq
 have hsp:spD (UInt8.ofNat (43:Int).toNat) s=spD 43 s:=rfl
 refine FCalls.pure (fcallsG (fz:=true) G_ok (p:=i62) rfl _ (ξ rfl) _ (fun C0 E0=> ?_)) rfl
 dsimp only[i62,qt,qi,qs,qb,qm,qa,qh,qj,qT,qF,qe,ql,qL,qf,q2,q3,q8,qz,qp,qP,qc,qk,qx,qy,qo,qr,qC,argsφ]
 have uu:=ξn @splitDG.eq_1 (ξn @splitDG.eq_2 (ξn @pairDG.eq_1 (ξn @pairDG.eq_2 (ξn hsp (ξn @tabDn9_r (ξn @tabDn9_k (ξn @tabDn9_q61 (@tabDn9_q85))))))))
 have tT:=tabDn9_ok
 refine nz ?_
 refine rg tT [0] ?_
 refine rg tT [0,4] ?_
 refine rg tT [4,10,11,12] ?_
 refine WI.ownA 4 77 2 ?_
 generalize spD 43 s=l at hq hb1 hb2⊢
 refine WI.loop (fun φ os=> ∃(j:Nat),φ= [(4,.ref 0 j 0 j),(10,.x (.sl (rows rStr l))),(11,.x (.int .i64 l.length)),(12,.x (.int .i64 j))]∧os= [.rows false 77 2 (rows rAva ((l.take j).map fun x=>(pairS x).1))]∧j≤l.length∧(l.take j).all (fun x=>(pairS x).2)=true) (down l.length 12) ?_ (fun φ os hI=> ?_)
 ·exact⟨0,rfl,rfl,by omega,rfl⟩
 ·obtain⟨j,rfl,rfl,hj,hall⟩:=hI
  refine nz ?_
  refine rg tT [4,10,11,12,13] ?_
  refine cd (fun h0=> ?_) (fun h0=> ?_)
  ·have hj4:j<l.length:=by omega
   have hbj:=hb1 _ (List.getElem_mem hj4)
   have hsc:decide (l[j].length≤900000)=true:=ξt (by omega)
   have uu:=ξn uu hsc
   refine rg tT [4,6,10,11,12] ?_
   refine rg tT [4,7,8,10,11,12] ?_
   refine rg tT [4,7,10,11,12,22] ?_
   refine cd (fun h1=> ?_) (fun h1=> ?_)
   ·have hf:(l.map pairS).all (·.2)=false:=by rw[List.all_map];exact all_take_false _ l j hj4 (by simpa using h1)
    rw[if_neg (by rw[hf];decide)]at hq
    refine rg tT [2,3] ?_
    refine WI.nnA ?_
    refine lf ?_
    cases hq;rfl
   ·refine rgp tT [4,10,11,12] ?_
    refine pPick [0] ?_
    refine pEnd ?_
    refine nz ?_
    refine WI.orderA [4,10,11,12] ?_
    refine rg tT [4,10,11,12] ?_
    exact⟨⟨j+1,rfl,by rw[List.take_succ_eq_append_getElem hj4,List.map_append,List.map_singleton,←rows_snocA],by omega,by rw[all_snoc _ l j hj4,hall];simpa using h1⟩,by simp[down,Ab.get,D.val,intOf?];omega⟩
  ·have e1:(rows rAva ((l.take j).map fun x=>(pairS x).1)).length=j:=by simp[rows];omega
   have e2:(l.take j).length=j:=by simp;omega
   have uu:=ξn uu (ξn e1 e2)
   refine rg tT [2,3] ?_
   refine WI.nnA ?_
   refine lf ?_
   have hf:(l.map pairS).all (·.2)=true:=by rw[List.all_map];rw[ξT (by omega)]at hall;exact hall
   rw[if_pos hf]at hq
   cases hq
   rw[ξT (l:=l) (by omega),ξT (by simp[rows];omega),List.map_map];rfl
def partDG:List D→Option (Bool×D)
 | [.x (.str s)]=>some (decide (s.length≤900000),.tup [.x (.sl (rows rAva (partS s).1)),.x (.bool (partS s).2)])
 |_=>none
theorem partDG_ok: ∀args r,partDG args=some (true,r)→PCalls Tryz.prog 62 args r:=by
 intro args r h
 unfold partDG at h
 split at h
 ·rename_i s
  simp only[ξI,ξP,ξa,ξe,true_and]at h
  obtain⟨h1,rfl⟩:=h
  exact(partD_c s h1)
 ·cases h
def lowsA (r:List Av):List Tx:=r.map fun p=>lowS p.1
def oneP (r:List Av) (j:Nat):Bool:=typB (r.getD j ([],[])).1&&(!((r.getD j ([],[])).2== [])&&(decide ((r.getD j ([],[])).2.length≤256)&& !decide (lowS (r.getD j ([],[])).1∈lowsA (r.take j))))
def okP (r:List Av):Nat→Bool
 |0=>true
 |j+1=>okP r j&&oneP r j
def mayB (r:List Av):Bool:=okP r r.length&&decide (1≤r.length∧r.length≤8)
theorem okP_no (r:List Av): ∀(n j:Nat),j<n→oneP r j=false→okP r n=false
 |n+1,j,hj,h=>by
  rw[okP]
  by_cases e:j=n
  ·subst e;rw[h,Bool.and_false]
  ·rw[okP_no r n j (by omega) h,Bool.false_and]
def seenM (r:List Av) (j:Nat):List (Tx×Int):=(r.take j).map fun p=>(lowS p.1,(1:Int))
theorem look_in: ∀(l:List Av) (k:Tx),mlook (l.map fun p=>(lowS p.1,(1:Int))) k=if k∈lowsA l then some 1 else none
 | [],k=>by simp[lowsA,mlook]
 |p::l,k=>by
  have ih:=look_in l k
  by_cases h:k=lowS p.1
  ·simp[mlook,h,lowsA]
  ·have e:(k∈lowsA (p::l))=(k∈lowsA l):=by simp[lowsA,h]
   have e2:mlook ((p::l).map fun p=>(lowS p.1,(1:Int))) k=mlook (l.map fun p=>(lowS p.1,(1:Int))) k:=by simp[mlook,h]
   rw[e2,ih]
   simp only[e]
theorem seen_set (r:List Av) (j:Nat) (h:j<r.length) (hn:lowS (r.getD j ([],[])).1∉lowsA (r.take j)):mset (seenM r j) (lowS (r.getD j ([],[])).1) 1=seenM r (j+1):=by
 unfold seenM
 rw[mset_new (by rw[look_in,if_neg hn]),List.take_succ_eq_append_getElem h,List.map_append]
 simp[h]
theorem seen_get (r:List Av) (j:Nat) (k:Tx):mgetX (encM kcS kcI (seenM r j)) [X.str k]=if k∈lowsA (r.take j)then some [D.x (X.int .i64 1)]else none:=by
 rw[encM_get kcS kcI hkS (seenM r j) k]
 unfold seenM
 rw[look_in]
 split<;>rfl
theorem ava_row (r:List Av) (j:Nat) (h:j<r.length):(rows rAva r)[j]? =some [X.str (r.getD j ([],[])).1,X.str (r.getD j ([],[])).2]:=by
 simp[rows,h,rAva]
def lowerXG:List D→Option (Bool×D)
 | [.x (.str s)]=>some (decide (s.length≤1000000),.x (.str (lowS s)))
 |_=>none
theorem lowerXG_ok: ∀args r,lowerXG args=some (true,r)→PCalls Tryz.prog 64 args r:=by
 intro args r h
 unfold lowerXG at h
 split at h
 ·rename_i s
  simp only[ξI,ξP,ξa,ξe,true_and]at h
  obtain⟨h1,rfl⟩:=h
  exact(lower_c s h1)
 ·cases h
def tabDn10:Tabs:=addQ (addQ (noTabs) 64 lowerXG) 100 typedDG
theorem tabDn10_ok:SsOk Tryz.prog tabDn10:=addQ_ok (addQ_ok (noTabs_ok) (G_enters G_ok (p:=i64) rfl) lowerXG_ok) (G_enters G_ok (p:=i100) rfl) typedDG_ok
theorem tabDn10_q64 (a:List D):tabDn10.q 64 a=lowerXG a:=rfl
theorem tabDn10_q100 (a:List D):tabDn10.q 100 a=typedDG a:=rfl
theorem tabDn10_r (f:FuncId) (a:List D) (o:List Ob):tabDn10.r f a o=none:=rfl
theorem tabDn10_k (f:FuncId) (a:List D) (o:List Ob):tabDn10.k f a o=none:=rfl
theorem may_c (r:List Av) (hb: ∀p∈r,p.1.length≤900000):PCalls Tryz.prog 86 [.x (.sl (rows rAva r))] (.x (.bool (mayB r))):=by
 refine PCalls.wf (fun hw=> ?_)
 have hl:r.length≤maxLen:=by have:=(hw _ (List.mem_cons_self)).1;rwa [rows_len]at this
 clear hw
 simp only[maxLen]at hl
 refine FCalls.pure (fcallsG (fz:=true) G_ok (p:=i86) rfl _ (ξ rfl) _ (fun C0 E0=> ?_)) rfl
 dsimp only[i86,qt,qi,qs,qb,qm,qa,qh,qj,qT,qF,qe,ql,qL,qf,q2,q3,q8,qz,qp,qP,qc,qk,qx,qy,qo,qr,qC,argsφ]
 have uu:=ξn @lowerXG.eq_1 (ξn @lowerXG.eq_2 (ξn @typedDG.eq_1 (ξn @typedDG.eq_2 (ξn @tabDn10_r (ξn @tabDn10_k (ξn @tabDn10_q100 (@tabDn10_q64)))))))
 have tT:=tabDn10_ok
 refine nz ?_
 refine WI.regB tT [0] ?_
 refine oS ?_
 refine oN ?_
 refine nz ?_
 refine WI.regB tT [0,3] ?_
 refine oG (hok:=by first|exact se|(exact ξt (by omega))|(clear uu;grind)|exact sd) ?_
 refine oS ?_
 refine oN ?_
 refine nz ?_
 refine WI.regB tT [0,3,8,9,10] ?_
 refine oS ?_
 refine oG (hok:=by first|exact se|(exact ξt (by omega))|(clear uu;grind)|exact sd) ?_
 refine oS ?_
 refine oN ?_
 refine nz ?_
 refine WI.loop (fun φ os=> ∃(j:Nat),φ= [(0,.x (.sl (rows rAva r))),(3,.mref 0),(8,.x (.sl (rows rAva r))),(9,.x (.int .i64 r.length)),(10,.x (.int .i64 j))]∧os= [.mpo .str false (encM kcS kcI (seenM r j))]∧j≤r.length∧okP r j=true) (down r.length 10) ?_ (fun φ os hI=> ?_)
 ·exact⟨0,rfl,rfl,by omega,rfl⟩
 ·obtain⟨j,rfl,rfl,hj,hok⟩:=hI
  refine nz ?_
  refine WI.regB tT [0,3,8,9,10,11] ?_
  refine oG (hok:=by first|exact se|(exact ξt (by omega))|(clear uu;grind)|exact sd) ?_
  refine oN ?_
  refine nz ?_
  refine cd (fun h0=> ?_) (fun h0=> ?_)
  ·have hj4:j<r.length:=by omega
   have har:=ava_row r j hj4
   have hbj:(r.getD j ([],[])).1.length≤900000:=by rw[show r.getD j ([],[])=r[j] by simp[hj4]];exact hb _ (List.getElem_mem hj4)
   have hgt:=seen_get r j (lowS (r.getD j ([],[])).1)
   have uu:=ξn uu har
   refine WI.regB tT [0,3,5,8,9,10] ?_
   iterate 2 refine oG (hok:=by first|exact se|(exact ξt (by omega))|(clear uu;grind)|exact sd) ?_
   refine oG ?_
   refine oG (hok:=by first|exact se|(exact ξt (by omega))|(clear uu;grind)|exact sd) ?_
   refine oN ?_
   refine nz ?_
   refine WI.regB tT [0,3,5,6,8,9,10] ?_
   refine oS ?_
   refine oG (hok:=by first|exact se|(exact ξt (by omega))|(clear uu;grind)|exact sd) ?_
   refine oC (hok:=by first|exact se|(exact ξt (by omega))|(clear uu;grind)|exact sd) ?_
   refine oS ?_
   refine oN ?_
   refine nz ?_
   by_cases hin:lowS (r.getD j ([],[])).1∈lowsA (r.take j)
   ·rw[if_pos hin]at hgt
    have uu:=ξn uu hgt
    refine WI.regB tT [0,3,6,8,9,10,37] ?_
    refine oS ?_
    refine oG (hok:=by first|exact se|(exact ξt (by omega))|(clear uu;grind)|exact sd) ?_
    refine oC (hok:=by first|exact se|(exact ξt (by omega))|(clear uu;grind)|exact sd) ?_
    refine oG (hok:=by first|exact se|(exact ξt (by omega))|(clear uu;grind)|exact sd) ?_
    refine oS ?_
    iterate 4 refine oG (hok:=by first|exact se|(exact ξt (by omega))|(clear uu;grind)|exact sd) ?_
    refine oS ?_
    iterate 5 refine oG (hok:=by first|exact se|(exact ξt (by omega))|(clear uu;grind)|exact sd) ?_
    refine oS ?_
    iterate 5 refine oG (hok:=by first|exact se|(exact ξt (by omega))|(clear uu;grind)|exact sd) ?_
    refine oN ?_
    refine nz ?_
    refine ct (fun h1=> ?_) (fun h1=> ?_)
    ·refine WI.regB tT [2] ?_
     refine oS ?_
     refine oN ?_
     refine nz ?_
     refine lf ?_
     have hno:oneP r j=false:=by unfold oneP;rw[ξt hin];simp
     rw[show mayB r=false by unfold mayB;rw[okP_no r r.length j hj4 hno];rfl]
    ·clear uu;simp at h1
   ·rw[if_neg hin]at hgt
    have uu:=ξn uu hgt
    have hset:=encM_set kcS kcI hkS (seenM r j) (lowS (r.getD j ([],[])).1) 1
    rw[seen_set r j hj4 hin]at hset
    have hset':msetX (encM kcS kcI (seenM r j)) [X.str (lowS (r.getD j ([],[])).1)] [D.x (X.int .i64 1)]=encM kcS kcI (seenM r (j+1)):=hset
    have uu:=ξn uu hset'
    refine WI.regB tT [0,3,6,8,9,10,37] ?_
    refine oS ?_
    refine oG (hok:=by first|exact se|(exact ξt (by omega))|(clear uu;grind)|exact sd) ?_
    refine oC (hok:=by first|exact se|(exact ξt (by omega))|(clear uu;grind)|exact sd) ?_
    refine oG (hok:=by first|exact se|(exact ξt (by omega))|(clear uu;grind)|exact sd) ?_
    refine oS ?_
    iterate 4 refine oG (hok:=by first|exact se|(exact ξt (by omega))|(clear uu;grind)|exact sd) ?_
    refine oS ?_
    iterate 5 refine oG (hok:=by first|exact se|(exact ξt (by omega))|(clear uu;grind)|exact sd) ?_
    refine oS ?_
    iterate 5 refine oG (hok:=by first|exact se|(exact ξt (by omega))|(clear uu;grind)|exact sd) ?_
    refine oN ?_
    refine nz ?_
    refine cd (fun h1=> ?_) (fun h1=> ?_)
    ·refine WI.regB tT [2] ?_
     refine oS ?_
     refine oN ?_
     refine nz ?_
     refine lf ?_
     have hno:oneP r j=false:=by unfold oneP;clear uu;grind
     rw[show mayB r=false by unfold mayB;rw[okP_no r r.length j hj4 hno];rfl]
    ·have hone:oneP r j=true:=by unfold oneP;rw[decide_eq_false hin];clear uu;grind
     refine WI.post ?_
     refine WI.regB tT [0,3,8,9,10] ?_
     iterate 2 refine oS ?_
     iterate 3 refine oG (hok:=by first|exact se|(exact ξt (by omega))|(clear uu;grind)|exact sd) ?_
     refine oP ?_
     refine pPick [0] ?_ (ho:=by simp (disch:=decide) only[zV,zO,Ob.mpb,frzL,nrmφ,nrmO,onF,Ob.onI,mpP,renP,Option.map_some,Option.map_none,D.vw,vwL,D.on,D.inP,inL,memB,D.ren,renL,inv,fpO,Ob.mp,Ob.ren,D.nn,nnφ,Nat.reduceBEq,Nat.reduceEqDiff,Nat.reduceAdd,↓reduceIte,encM_on,encM_ren];rfl)
     refine pEnd ?_
     refine nz ?_
     refine WI.regB tT [0,3,8,9,10] ?_
     refine oG (hok:=by first|exact se|(exact ξt (by omega))|(clear uu;grind)|exact sd) ?_
     refine oS ?_
     refine oN ?_
     refine nz ?_
     exact⟨⟨j+1,rfl,by first|done|rfl,by omega,by rw[okP,hok,hone];rfl⟩,by simp[down,Ab.get,D.val,intOf?];omega⟩
  ·refine WI.regB tT [2] ?_
   refine oS ?_
   iterate 2 refine oG (hok:=by first|exact se|(exact ξt (by omega))|(clear uu;grind)|exact sd) ?_
   refine oS ?_
   iterate 4 refine oG (hok:=by first|exact se|(exact ξt (by omega))|(clear uu;grind)|exact sd) ?_
   refine oS ?_
   refine oN ?_
   refine nz ?_
   refine lf ?_
   have hz:r.length=j:=by omega
   rw[show mayB r=decide (1≤r.length∧r.length≤8) by unfold mayB;rw[hz,hok,Bool.true_and]]
   congr 2;rw[Bool.eq_iff_iff];simp;omega
def mayG:List D→Option (Bool×D)
 | [.x (.sl R)]=>(unrows rAva R).bind fun r=>some (decide (∀p∈r,p.1.length≤900000),.x (.bool (mayB r)))
 |_=>none
theorem mayG_ok: ∀args r,mayG args=some (true,r)→PCalls Tryz.prog 86 args r:=by
 intro args r h
 unfold mayG at h
 split at h
 ·rename_i R
  obtain⟨r,hr0,h⟩:=ξB h
  simp only[ξI,ξP,ξa,ξe,true_and]at h
  obtain⟨h1,rfl⟩:=h
  rw[←rows_unrows good_rAva hr0]
  exact(may_c r h1)
 ·cases h
abbrev Dn:=List (List Av)
def smD (d:Dn):Prop:= ∀r∈d,∀p∈r,p.1.length≤900000
instance (d:Dn):Decidable (smD d):=by unfold smD;infer_instance
def chkDn (d:Dn):Int:=if d.length>32 then 3 else if d.all mayB=true then 0 else 5
theorem rdn_row (d:Dn) (j:Nat) (h:j<d.length):(rows rRdn d)[j]? =some [X.sl (rows rAva (d.getD j []))]:=by
 simp[rows,h,rRdn,rSl]
def tabDn11:Tabs:=addQ (noTabs) 86 mayG
theorem tabDn11_ok:SsOk Tryz.prog tabDn11:=addQ_ok (noTabs_ok) (G_enters G_ok (p:=i86) rfl) mayG_ok
theorem tabDn11_q86 (a:List D):tabDn11.q 86 a=mayG a:=rfl
theorem tabDn11_r (f:FuncId) (a:List D) (o:List Ob):tabDn11.r f a o=none:=rfl
theorem tabDn11_k (f:FuncId) (a:List D) (o:List Ob):tabDn11.k f a o=none:=rfl
theorem chkD2_c (d:Dn) (hb:smD d):PCalls Tryz.prog 63 [.x (.sl (rows rRdn d))] (.x (.int .i64 (chkDn d))):=by
 unfold chkDn
 refine FCalls.pure (fcallsG (fz:=true) G_ok (p:=i63) rfl _ (ξ rfl) _ (fun C0 E0=> ?_)) rfl
 dsimp only[i63,qt,qi,qs,qb,qm,qa,qh,qj,qT,qF,qe,ql,qL,qf,q2,q3,q8,qz,qp,qP,qc,qk,qx,qy,qo,qr,qC,argsφ]
 have uu:=ξn @mayG.eq_1 (ξn @mayG.eq_2 (ξn @un_A (ξn @tabDn11_r (ξn @tabDn11_k (@tabDn11_q86)))))
 have tT:=tabDn11_ok
 refine nz ?_
 refine rg tT [0] ?_
 refine rg tT [0,7] ?_
 refine cd (fun h0=> ?_) (fun h0=> ?_)
 ·refine rg tT [2] ?_
  refine lf ?_
  rw[if_pos (by omega)]
 ·refine rg tT [8,9,10] ?_
  refine WI.loop (fun φ os=> ∃(j:Nat),φ= [(8,.x (.sl (rows rRdn d))),(9,.x (.int .i64 d.length)),(10,.x (.int .i64 j))]∧os= []∧j≤d.length∧(d.take j).all mayB=true) (down d.length 10) ?_ (fun φ os hI=> ?_)
  ·exact⟨0,rfl,rfl,by omega,rfl⟩
  ·obtain⟨j,rfl,rfl,hj,hall⟩:=hI
   refine nz ?_
   refine rg tT [8,9,10,11] ?_
   refine cd (fun h1=> ?_) (fun h1=> ?_)
   ·have hj4:j<d.length:=by omega
    have hdj:d[j]=d.getD j []:=by simp[hj4]
    have hsm:decide (∀p∈d.getD j [],p.1.length≤900000)=true:=ξt (by rw[←hdj];exact hb _ (List.getElem_mem hj4))
    have uu:=ξn uu (ξn (rdn_row d j hj4) hsm)
    refine rg tT [4,8,9,10] ?_
    refine rg tT [8,9,10,16] ?_
    refine cd (fun h2=> ?_) (fun h2=> ?_)
    ·refine rg tT [2] ?_
     refine lf ?_
     rw[if_neg (by omega),if_neg (by rw[all_take_false mayB d j hj4 (by rw[hdj];simpa using h2)];decide)]
    ·refine rg tT [8,9,10] ?_
     exact⟨⟨j+1,rfl,rfl,by omega,by rw[all_snoc _ d j hj4,hall,hdj];simpa using h2⟩,by simp[down,Ab.get,D.val,intOf?];omega⟩
   ·refine rg tT [2] ?_
    refine lf ?_
    rw[ξT (by omega)]at hall;rw[if_neg (by omega),if_pos hall]
def chkD2G:List D→Option (Bool×D)
 | [.x (.sl R)]=>(unrows rRdn R).bind fun d=>some (decide (smD d),.x (.int .i64 (chkDn d)))
 |_=>none
theorem chkD2G_ok: ∀args r,chkD2G args=some (true,r)→PCalls Tryz.prog 63 args r:=by
 intro args r h
 unfold chkD2G at h
 split at h
 ·rename_i R
  obtain⟨d,hr0,h⟩:=ξB h
  simp only[ξI,ξP,ξa,ξe,true_and]at h
  obtain⟨h1,rfl⟩:=h
  rw[←rows_unrows good_rRdn hr0]
  exact(chkD2_c d h1)
 ·cases h
def mxD:Dn→Nat
 | []=>0
 |r::d=>max r.length (mxD d)
theorem mxD_snoc: ∀(d:Dn) (r:List Av),mxD (d++ [r])=max (mxD d) r.length
 | [],r=>by simp[mxD]
 |x::d,r=>by rw[List.cons_append,mxD,mxD,mxD_snoc d r];omega
theorem mxD_eq (a b:Nat):(if(a:Int)>(b:Int)then(a:Int)else(b:Int))=((max b a:Nat):Int):=by split<;>omega
def readL (s:Tx):List (List Av×Bool):=(spD 44 s).map partS
def nameL (s:Tx):Dn:=(readL s).map (·.1)
def readS (s:Tx):Dn×Int:=
 if s.length>4096 then([],3)else if s= []then([],0)
 else if(readL s).all (·.2)=true then(if mxD (nameL s)>8 then([],3)else if chkDn (nameL s)≠0 then([],chkDn (nameL s))else(nameL s,0))
 else([],5)
theorem pairS_len (s:Tx):(pairS s).1.1.length≤s.length:=by
 unfold pairS
 have h1:=(cutB_lenD 61 s).1
 have h2:=trim_len (cutB 61 s).1
 split
 ·simp
 ·simp;omega
theorem partS_sm (s:Tx) (hs:s.length≤900000): ∀p∈(partS s).1,p.1.length≤900000:=by
 unfold partS partL
 split
 ·intro p hp
  obtain⟨q,h1,rfl⟩:=List.mem_map.1 hp
  obtain⟨x,h2,rfl⟩:=List.mem_map.1 h1
  have:=(spD_bnd 43 _ s (Nat.le_refl _)).1 x h2
  have:=pairS_len x
  omega
 ·intro p hp;simp at hp
theorem partS_cnt (s:Tx) (hs:s.length≤900000):(partS s).1.length≤900001:=by
 unfold partS partL
 split
 ·have:=(spD_bnd 43 _ s (Nat.le_refl _)).2
  simp;omega
 ·simp
theorem nameL_sm (s:Tx) (hs:s.length≤900000):smD (nameL s):=by
 intro r hr
 unfold nameL readL at hr
 obtain⟨q,h1,rfl⟩:=List.mem_map.1 hr
 obtain⟨x,h2,rfl⟩:=List.mem_map.1 h1
 have:=(spD_bnd 44 _ s (Nat.le_refl _)).1 x h2
 exact partS_sm x (by omega)
def tabDn12:Tabs:=addQ (addQ (addQ (noTabs) 61 splitDG) 62 partDG) 63 chkD2G
theorem tabDn12_ok:SsOk Tryz.prog tabDn12:=addQ_ok (addQ_ok (addQ_ok (noTabs_ok) (G_enters G_ok (p:=i61) rfl) splitDG_ok) (G_enters G_ok (p:=i62) rfl) partDG_ok) (G_enters G_ok (p:=i63) rfl) chkD2G_ok
theorem tabDn12_q61 (a:List D):tabDn12.q 61 a=splitDG a:=rfl
theorem tabDn12_q62 (a:List D):tabDn12.q 62 a=partDG a:=rfl
theorem tabDn12_q63 (a:List D):tabDn12.q 63 a=chkD2G a:=rfl
theorem tabDn12_r (f:FuncId) (a:List D) (o:List Ob):tabDn12.r f a o=none:=rfl
theorem tabDn12_k (f:FuncId) (a:List D) (o:List Ob):tabDn12.k f a o=none:=rfl
theorem readD_c (s:Tx):PCalls Tryz.prog 44 [.x (.str s)] (.tup [.x (.sl (rows rRdn (readS s).1)),.x (.int .i64 (readS s).2)]):=by
 rcases hq:readS s with⟨d,e⟩
 unfold readS at hq
 have hsp:spD (UInt8.ofNat (44:Int).toNat) s=spD 44 s:=rfl
 refine FCalls.pure (fcallsG (fz:=true) G_ok (p:=i44) rfl _ (ξ rfl) _ (fun C0 E0=> ?_)) rfl
 dsimp only[i44,qt,qi,qs,qb,qm,qa,qh,qj,qT,qF,qe,ql,qL,qf,q2,q3,q8,qz,qp,qP,qc,qk,qx,qy,qo,qr,qC,argsφ]
 have uu:=ξn @splitDG.eq_1 (ξn @splitDG.eq_2 (ξn @partDG.eq_1 (ξn @partDG.eq_2 (ξn @chkD2G.eq_1 (ξn @chkD2G.eq_2 (ξn hsp (ξn @un_R (ξn @un_A (ξn @tabDn12_r (ξn @tabDn12_k (ξn @tabDn12_q61 (ξn @tabDn12_q62 (@tabDn12_q63)))))))))))))
 have tT:=tabDn12_ok
 refine nz ?_
 refine rg tT [0] ?_
 refine rg tT [0,11] ?_
 refine cd (fun h0=> ?_) (fun h0=> ?_)
 ·refine rg tT [2,3] ?_
  refine WI.nnA ?_
  refine lf ?_
  rw[if_pos (by omega)]at hq;cases hq;rfl
 ·refine rg tT [0,15] ?_
  refine cd (fun h1=> ?_) (fun h1=> ?_)
  ·refine rg tT [2,3] ?_
   refine WI.nnA ?_
   refine lf ?_
   rw[if_neg (by omega),if_pos (by simpa using h1)]at hq;cases hq;rfl
  ·have hne:s≠ []:=by simpa using h1
   rw[if_neg (by omega),if_neg hne]at hq
   have hs:s.length≤900000:=by omega
   obtain⟨hb1,hb2⟩:=spD_bnd 44 _ s (Nat.le_refl _)
   have hsm:=nameL_sm s hs
   refine rg tT [0,4] ?_
   refine rg tT [0,4,5] ?_
   refine rg tT [4,5,19,20,21] ?_
   refine WI.ownA 4 75 1 ?_
   have hrl:readL s=(spD 44 s).map partS:=rfl
   have hnl:nameL s=((spD 44 s).map partS).map (·.1):=rfl
   generalize spD 44 s=l at hb1 hb2 hrl hnl⊢
   generalize readL s=rl at hq hrl
   generalize nameL s=nl at hq hnl hsm
   subst hrl hnl
   refine WI.loop (fun φ os=> ∃(j:Nat),φ= [(4,.ref 0 j 0 j),(5,.x (.int .i64 (mxD ((l.take j).map fun x=>(partS x).1)))),(19,.x (.sl (rows rStr l))),(20,.x (.int .i64 l.length)),(21,.x (.int .i64 j))]∧os= [.rows false 75 1 (rows rRdn ((l.take j).map fun x=>(partS x).1))]∧j≤l.length∧(l.take j).all (fun x=>(partS x).2)=true) (down l.length 21) ?_ (fun φ os hI=> ?_)
   ·exact⟨0,rfl,rfl,by omega,rfl⟩
   ·obtain⟨j,rfl,rfl,hj,hall⟩:=hI
    refine nz ?_
    refine rg tT [4,5,19,20,21,22] ?_
    refine cd (fun h2=> ?_) (fun h2=> ?_)
    ·have hj4:j<l.length:=by omega
     have hbj:=hb1 _ (List.getElem_mem hj4)
     have hpc:=partS_cnt l[j] (by omega)
     have hsc:decide (l[j].length≤900000)=true:=ξt (by omega)
     have hmt:(l.take (j+1)).map (fun x=>(partS x).1)=(l.take j).map (fun x=>(partS x).1)++ [(partS l[j]).1]:=by rw[List.take_succ_eq_append_getElem hj4,List.map_append];rfl
     have hmx:mxD ((l.take (j+1)).map fun x=>(partS x).1)=max (mxD ((l.take j).map fun x=>(partS x).1)) (partS l[j]).1.length:=by rw[hmt,mxD_snoc]
     have uu:=ξn uu hsc
     refine rg tT [4,5,7,19,20,21] ?_
     refine rg tT [4,5,8,9,19,20,21] ?_
     refine rg tT [4,5,8,19,20,21,31] ?_
     refine cd (fun h3=> ?_) (fun h3=> ?_)
     ·have hf:(l.map partS).all (·.2)=false:=by rw[List.all_map];exact all_take_false _ l j hj4 (by simpa using h3)
      rw[if_neg (by rw[hf];decide)]at hq
      refine rg tT [2,3] ?_
      refine WI.nnA ?_
      refine lf ?_
      cases hq;rfl
     ·refine rg tT [4,5,8,19,20,21] ?_
      refine rgp tT [4,5,19,20,21] ?_
      refine pPick [0] ?_
      refine pEnd ?_
      refine nz ?_
      refine WI.orderA [4,5,19,20,21] ?_
      refine rg tT [4,5,19,20,21] ?_
      exact⟨⟨j+1,by rw[hmx,mxD_eq];first|done|rfl,by rw[hmt,←rows_snocR];first|done|rfl,by omega,by rw[all_snoc _ l j hj4,hall];simpa using h3⟩,by simp[down,Ab.get,D.val,intOf?];omega⟩
    ·obtain rfl:j=l.length:=by omega
     rw[List.take_length]at hall⊢
     have hf:(l.map partS).all (·.2)=true:=by rw[List.all_map];exact hall
     rw[if_pos hf]at hq
     have hmm:(l.map partS).map (·.1)=l.map (fun x=>(partS x).1):=by rw[List.map_map];rfl
     rw[hmm]at hq hsm
     have hml:(l.map fun x=>(partS x).1).length=l.length:=List.length_map ..
     generalize(l.map fun x=>(partS x).1)=m at hq hsm hml⊢
     have e1:m.take l.length=m:=ξT (by omega)
     have e2:decide (smD m)=true:=ξt hsm
     have uu:=ξn uu (ξn hml (ξn e1 e2))
     refine rg tT [4,42] ?_
     refine cd (fun h4=> ?_) (fun h4=> ?_)
     ·refine rg tT [2,3] ?_
      refine WI.nnA ?_
      refine lf ?_
      rw[if_pos (by omega)]at hq;cases hq;rfl
     ·rw[if_neg (by omega)]at hq
      refine rg tT [4,10] ?_
      refine rg tT [4,10,46] ?_
      refine cd (fun h5=> ?_) (fun h5=> ?_)
      ·refine rg tT [2,3] ?_
       refine WI.nnA ?_
       refine lf ?_
       rw[if_pos (by simpa using h5)]at hq;cases hq;rfl
      ·refine rg tT [2,3] ?_
       refine WI.nnA ?_
       refine lf ?_
       rw[if_neg (by simpa using h5)]at hq;cases hq;first|rfl|rw[e1]
def readDG:List D→Option (Bool×D)
 | [.x (.str s)]=>some (true,.tup [.x (.sl (rows rRdn (readS s).1)),.x (.int .i64 (readS s).2)])
 |_=>none
theorem readDG_ok: ∀args r,readDG args=some (true,r)→PCalls Tryz.prog 44 args r:=by
 intro args r h
 unfold readDG at h
 split at h
 ·rename_i s
  simp only[ξI,ξP,ξa,ξe,true_and]at h
  obtain rfl:=h
  exact(readD_c s)
 ·cases h
theorem in_snoc (r:List Av) (j:Nat) (h:j<r.length) (x:Tx):x∈lowsA (r.take (j+1))↔x∈lowsA (r.take j)∨x=lowS (r.getD j ([],[])).1:=by
 unfold lowsA
 rw[List.take_succ_eq_append_getElem h,List.map_append,List.mem_append]
 simp[h]
theorem in_take (r:List Av) (j k:Nat) (h:j<k) (hk:k≤r.length):lowS (r.getD j ([],[])).1∈lowsA (r.take k):=by
 unfold lowsA
 refine List.mem_map.2 ⟨r[j]'(by omega),?_,by simp[show j<r.length by omega]⟩
 exact List.mem_take_iff_getElem.2 ⟨j,by omega,rfl⟩
def lower5XG:List D→Option (Bool×D)
 | [.x (.str s)]=>some (decide (s.length≤1000000),.x (.str (lowS s)))
 |_=>none
theorem lower5XG_ok: ∀args r,lower5XG args=some (true,r)→PCalls Tryz.prog 52 args r:=by
 intro args r h
 unfold lower5XG at h
 split at h
 ·rename_i s
  simp only[ξI,ξP,ξa,ξe,true_and]at h
  obtain⟨h1,rfl⟩:=h
  exact(lower5_c s h1)
 ·cases h
def tabDn13:Tabs:=addQ (addQ (noTabs) 19 TypedG) 52 lower5XG
theorem tabDn13_ok:SsOk Tryz.prog tabDn13:=addQ_ok (addQ_ok (noTabs_ok) (G_enters G_ok (p:=i19) rfl) TypedG_ok) (G_enters G_ok (p:=i52) rfl) lower5XG_ok
theorem tabDn13_q19 (a:List D):tabDn13.q 19 a=TypedG a:=rfl
theorem tabDn13_q52 (a:List D):tabDn13.q 52 a=lower5XG a:=rfl
theorem tabDn13_r (f:FuncId) (a:List D) (o:List Ob):tabDn13.r f a o=none:=rfl
theorem tabDn13_k (f:FuncId) (a:List D) (o:List Ob):tabDn13.k f a o=none:=rfl
set_option maxHeartbeats 1000000 in
theorem chkR2_c (d:Dn) (hb:smD d) (hld:d.length≤1000000) (hlr: ∀r∈d,r.length≤1000000):PCalls Tryz.prog 37 [.x (.sl (rows rRdn d))] (.x (.int .i64 (chkDn d))):=by
 unfold chkDn
 refine FCalls.pure (fcallsG (fz:=true) G_ok (p:=i37) rfl _ (ξ rfl) _ (fun C0 E0=> ?_)) rfl
 dsimp only[i37,qt,qi,qs,qb,qm,qa,qh,qj,qT,qF,qe,ql,qL,qf,q2,q3,q8,qz,qp,qP,qc,qk,qx,qy,qo,qr,qC,argsφ]
 have uu:=ξn @TypedG.eq_1 (ξn @TypedG.eq_2 (ξn @lower5XG.eq_1 (ξn @lower5XG.eq_2 (ξn @tabDn13_r (ξn @tabDn13_k (ξn @tabDn13_q19 (@tabDn13_q52)))))))
 have tT:=tabDn13_ok
 refine nz ?_
 refine WI.regB tT [0] ?_
 refine oS ?_
 refine oN ?_
 refine nz ?_
 refine WI.regB tT [0,9] ?_
 refine oS ?_
 iterate 2 refine oG (hok:=by first|exact se|(clear uu;grind)|exact sd) ?_
 refine oN ?_
 refine nz ?_
 refine cd (fun h0=> ?_) (fun h0=> ?_)
 ·refine WI.regB tT [2] ?_
  refine oS ?_
  refine oN ?_
  refine nz ?_
  refine lf ?_
  rw[if_pos (by omega)]
 ·refine WI.regB tT [0,3] ?_
  refine oS ?_
  refine oN ?_
  refine nz ?_
  refine WI.loop (fun φ os=> ∃(i:Nat),φ= [(0,.x (.sl (rows rRdn d))),(3,.x (.int .i64 i))]∧os= []∧i≤d.length∧(d.take i).all mayB=true) (down d.length 3) ?_ (fun φ os hI=> ?_)
  ·exact⟨0,rfl,rfl,by omega,rfl⟩
  ·obtain⟨i,rfl,rfl,hi,hall⟩:=hI
   refine nz ?_
   refine WI.regB tT [0,3,13] ?_
   iterate 2 refine oS ?_
   iterate 2 refine oG (hok:=by first|exact se|(clear uu;grind)|exact sd) ?_
   refine oN ?_
   refine nz ?_
   refine cd (fun h1=> ?_) (fun h1=> ?_)
   ·have hi4:i<d.length:=by omega
    have hdi:d[i]=d.getD i []:=by simp[hi4]
    have hrw:=rdn_row d i hi4
    have hri: ∀p∈d.getD i [],p.1.length≤900000:=by rw[←hdi];exact hb _ (List.getElem_mem hi4)
    have hrl:(d.getD i []).length≤1000000:=by rw[←hdi];exact hlr _ (List.getElem_mem hi4)
    rcases hdr:d.getD i []with r0
    obtain⟨r,hr0⟩: ∃r,r=r0:=⟨r0,rfl⟩
    subst hr0
    rw[hdr]at hri hrl hrw
    have uu:=ξn uu hrw
    refine WI.regB tT [0,3,29] ?_
    iterate 2 refine oS ?_
    iterate 4 refine oG (hok:=by first|exact se|(clear uu;grind)|exact sd) ?_
    refine oS ?_
    iterate 7 refine oG (hok:=by first|exact se|(clear uu;grind)|exact sd) ?_
    refine oN ?_
    refine nz ?_
    refine cd (fun h2=> ?_) (fun h2=> ?_)
    ·refine WI.regB tT [2] ?_
     refine oS ?_
     refine oN ?_
     refine nz ?_
     refine lf ?_
     rw[if_neg (by omega),if_neg (by rw[all_take_false mayB d i hi4 (by rw[hdi,hdr];unfold mayB;rw[decide_eq_false (by omega),Bool.and_false])];decide)]
    ·refine WI.regB tT [0,3,4] ?_
     refine oS ?_
     refine oN ?_
     refine nz ?_
     refine WI.loop (fun φ os=> ∃(k:Nat),φ= [(0,.x (.sl (rows rRdn d))),(3,.x (.int .i64 i)),(4,.x (.int .i64 k))]∧os= []∧k≤r.length∧okP r k=true) (down r.length 4) ?_ (fun φ os hI=> ?_)
     ·exact⟨0,rfl,rfl,by omega,rfl⟩
     ·obtain⟨k,rfl,rfl,hk,hok⟩:=hI
      refine nz ?_
      refine WI.regB tT [0,3,4,36] ?_
      iterate 3 refine oS ?_
      iterate 4 refine oG (hok:=by first|exact se|(clear uu;grind)|exact sd) ?_
      refine oN ?_
      refine nz ?_
      refine cd (fun h3=> ?_) (fun h3=> ?_)
      ·have hk4:k<r.length:=by omega
       have hka:=ava_row r k hk4
       have hem:=emp_len (r.getD k ([],[])).2
       have hkl:(r.getD k ([],[])).1.length≤900000:=by rw[show r.getD k ([],[])=r[k] by simp[hk4]];exact hri _ (List.getElem_mem hk4)
       have hsc:decide ((r.getD k ([],[])).1.length≤1000000)=true:=ξt (by omega)
       have uu:=ξn uu (ξn hka hsc)
       refine WI.regB tT [0,3,4,5] ?_
       iterate 2 refine oS ?_
       iterate 2 refine oG (hok:=by first|exact se|(clear uu;grind)|exact sd) ?_
       refine oS ?_
       iterate 2 refine oG (hok:=by first|exact se|(clear uu;grind)|exact sd) ?_
       refine oG ?_
       refine oG (hok:=by first|exact se|(clear uu;grind)|exact sd) ?_
       refine oN ?_
       refine nz ?_
       refine WI.regB tT [0,3,4,5,61] ?_
       refine oS ?_
       refine oG (hok:=by first|exact se|(clear uu;grind)|exact sd) ?_
       refine oC (hok:=by first|exact se|(clear uu;grind)|exact sd) ?_
       refine oG (hok:=by first|exact se|(clear uu;grind)|exact sd) ?_
       refine oS ?_
       iterate 5 refine oG (hok:=by first|exact se|(clear uu;grind)|exact sd) ?_
       refine oS ?_
       iterate 5 refine oG (hok:=by first|exact se|(clear uu;grind)|exact sd) ?_
       refine oN ?_
       refine nz ?_
       refine cd (fun h4=> ?_) (fun h4=> ?_)
       ·refine WI.regB tT [2] ?_
        refine oS ?_
        refine oN ?_
        refine nz ?_
        refine lf ?_
        have hno:oneP r k=false:=by unfold oneP;clear uu;grind
        rw[if_neg (by omega),if_neg (by rw[all_take_false mayB d i hi4 (by rw[hdi,hdr];unfold mayB;rw[okP_no r r.length k hk4 hno];rfl)];decide)]
       ·refine WI.regB tT [0,3,4,5,6] ?_
        refine oS ?_
        refine oN ?_
        refine nz ?_
        refine WI.loop (fun φ os=> ∃(j:Nat),φ= [(0,.x (.sl (rows rRdn d))),(3,.x (.int .i64 i)),(4,.x (.int .i64 k)),(5,.ptr 0 0),(6,.x (.int .i64 j))]∧os= [.box [.x (.str (r.getD k ([],[])).1),.x (.str (r.getD k ([],[])).2)]]∧j≤k∧lowS (r.getD k ([],[])).1∉lowsA (r.take j)) (down k 6) ?_ (fun φ os hI=> ?_)
        ·exact⟨0,rfl,rfl,by omega,by simp[lowsA]⟩
        ·obtain⟨j,rfl,rfl,hj,hnin⟩:=hI
         refine nz ?_
         refine WI.regB tT [0,3,4,5,6,64] ?_
         iterate 2 refine oS ?_
         refine oG (hok:=by first|exact se|(clear uu;grind)|exact sd) ?_
         refine oN ?_
         refine nz ?_
         refine cd (fun h5=> ?_) (fun h5=> ?_)
         ·have hj4:j<k:=by omega
          have hja:=ava_row r j (by omega)
          have hjl:(r.getD j ([],[])).1.length≤900000:=by rw[show r.getD j ([],[])=r[j] by simp[show j<r.length by omega]];exact hri _ (List.getElem_mem _)
          have hsj:decide ((r.getD j ([],[])).1.length≤1000000)=true:=ξt (by omega)
          have uu:=ξn uu (ξn hja hsj)
          refine WI.dregB tT [0,3,4,5,6,79] ?_
          iterate 2 refine dFS ?_
          iterate 2 refine dQG (hok:=by first|exact se|(clear uu;grind)|exact sd) ?_
          refine dFS ?_
          refine dQG (hok:=by first|exact se|(clear uu;grind)|exact sd) ?_
          refine dFS ?_
          refine dQG (hok:=by first|exact se|(clear uu;grind)|exact sd) ?_
          refine dQC (hok:=by first|exact se|(clear uu;grind)|exact sd) ?_
          refine dFS ?_
          refine dQG (hok:=by first|exact se|(clear uu;grind)|exact sd) ?_
          refine dAC (hok:=by first|exact se|(clear uu;grind)|exact sd) ?_
          refine dFG (hok:=by first|exact se|(clear uu;grind)|exact sd) ?_
          refine dN ?_
          refine nz ?_
          refine cd (fun h6=> ?_) (fun h6=> ?_)
          ·refine WI.regB tT [2] ?_
           refine oS ?_
           refine oN ?_
           refine nz ?_
           refine lf ?_
           have hin:lowS (r.getD k ([],[])).1∈lowsA (r.take k):=by rw[←show lowS (r.getD j ([],[])).1=lowS (r.getD k ([],[])).1 by simpa using h6];exact in_take r j k hj4 (by omega)
           have hno:oneP r k=false:=by unfold oneP;rw[ξt hin];simp
           rw[if_neg (by omega),if_neg (by rw[all_take_false mayB d i hi4 (by rw[hdi,hdr];unfold mayB;rw[okP_no r r.length k hk4 hno];rfl)];decide)]
          ·refine WI.regB tT [0,3,4,5,6] ?_
           refine oS ?_
           refine oG (hok:=by first|exact se|(clear uu;grind)|exact sd) ?_
           refine oS ?_
           refine oN ?_
           refine nz ?_
           exact⟨⟨j+1,rfl,rfl,by omega,fun hh=>by rcases(in_snoc r j (by omega) _).1 hh with h|h;exact hnin h;exact h6 h.symm⟩,by simp[down,Ab.get,D.val,intOf?];omega⟩
         ·have hone:oneP r k=true:=by
           have hjk:j=k:=by omega
           rw[hjk]at hnin
           unfold oneP;rw[decide_eq_false hnin,hem];clear uu hall hdi hrw hka;grind
          refine WI.post ?_
          refine WI.regB tT [0,3,4] ?_
          refine oS ?_
          refine oG (hok:=by first|exact se|(clear uu;grind)|exact sd) ?_
          refine oS ?_
          refine oP ?_
          refine pPick [] ?_
          refine pEnd ?_
          refine nz ?_
          exact⟨⟨k+1,rfl,rfl,by omega,by rw[okP,hok,Bool.true_and];exact hone⟩,by simp[down,Ab.get,D.val,intOf?];omega⟩
      ·refine WI.regB tT [0,3] ?_
       refine oS ?_
       refine oG (hok:=by first|exact se|(clear uu;grind)|exact sd) ?_
       refine oS ?_
       refine oN ?_
       refine nz ?_
       exact⟨⟨i+1,rfl,rfl,by omega,by rw[all_snoc _ d i hi4,hall,hdi];show mayB (d.getD i [])=true;rw[hdr];unfold mayB;rw[show r.length=k by omega,hok];exact ξt ⟨by omega,by omega⟩⟩,by simp[down,Ab.get,D.val,intOf?];omega⟩
   ·refine WI.regB tT [2] ?_
    refine oS ?_
    refine oN ?_
    refine nz ?_
    refine lf ?_
    rw[if_neg (by omega),if_pos (by rw[ξT (by omega)]at hall;exact hall)]
def chkR2G:List D→Option (Bool×D)
 | [.x (.sl R)]=>(unrows rRdn R).bind fun d=>some (decide (smD d)&&(decide (d.length≤1000000)&&(decide (∀r∈d,r.length≤1000000))),.x (.int .i64 (chkDn d)))
 |_=>none
theorem chkR2G_ok: ∀args r,chkR2G args=some (true,r)→PCalls Tryz.prog 37 args r:=by
 intro args r h
 unfold chkR2G at h
 split at h
 ·rename_i R
  obtain⟨d,hr0,h⟩:=ξB h
  simp only[ξI,ξP,ξa,ξe,true_and]at h
  obtain⟨⟨h1,h2,h3⟩,rfl⟩:=h
  rw[←rows_unrows good_rRdn hr0]
  exact(chkR2_c d h1 h2 h3)
 ·cases h
def longD (d:Dn):Bool:=d.any fun r=>decide (r.length>8)
theorem longD_snoc (d:Dn) (r:List Av):longD (d++ [r])=(longD d||decide (r.length>8)):=by simp[longD]
theorem longD_mx: ∀d:Dn,longD d=decide (mxD d>8)
 | []=>rfl
 |r::d=>by
  have:=longD_mx d
  unfold longD at this⊢
  rw[List.any_cons,this,mxD,Bool.eq_iff_iff]
  simp only[Bool.or_eq_true,ξe];omega
theorem partS_ok (x:Tx) (h:(spD 43 x).all (fun y=>(pairS y).2)=true):partS x=((spD 43 x).map (fun y=>(pairS y).1),true):=by
 unfold partS partL
 rw[if_pos (by rw[List.all_map];exact h),List.map_map];rfl
theorem partS_bad (x:Tx) (h:(spD 43 x).all (fun y=>(pairS y).2)=false):partS x=([],false):=by
 unfold partS partL
 rw[if_neg (by rw[List.all_map];show ¬(spD 43 x).all (fun y=>(pairS y).2)=true;rw[h];decide)]
def tabDn14:Tabs:=addQ (addQ (addQ (noTabs) 35 splitRG) 36 pairRG) 37 chkR2G
theorem tabDn14_ok:SsOk Tryz.prog tabDn14:=addQ_ok (addQ_ok (addQ_ok (noTabs_ok) (G_enters G_ok (p:=i35) rfl) splitRG_ok) (G_enters G_ok (p:=i36) rfl) pairRG_ok) (G_enters G_ok (p:=i37) rfl) chkR2G_ok
theorem tabDn14_q35 (a:List D):tabDn14.q 35 a=splitRG a:=rfl
theorem tabDn14_q36 (a:List D):tabDn14.q 36 a=pairRG a:=rfl
theorem tabDn14_q37 (a:List D):tabDn14.q 37 a=chkR2G a:=rfl
theorem tabDn14_r (f:FuncId) (a:List D) (o:List Ob):tabDn14.r f a o=none:=rfl
theorem tabDn14_k (f:FuncId) (a:List D) (o:List Ob):tabDn14.k f a o=none:=rfl
set_option maxHeartbeats 1000000 in
theorem readR2_c (s:Tx):PCalls Tryz.prog 18 [.x (.str s)] (.tup [.x (.sl (rows rRdn (readS s).1)),.x (.int .i64 (readS s).2)]):=by
 rcases hq:readS s with⟨d,e⟩
 unfold readS at hq
 have hsp: ∀t,spD (UInt8.ofNat (44:Int).toNat) t=spD 44 t:=fun t=>rfl
 have hsq: ∀t,spD (UInt8.ofNat (43:Int).toNat) t=spD 43 t:=fun t=>rfl
 refine FCalls.pure (fcallsG (fz:=true) G_ok (p:=i18) rfl _ (ξ rfl) _ (fun C0 E0=> ?_)) rfl
 dsimp only[i18,qt,qi,qs,qb,qm,qa,qh,qj,qT,qF,qe,ql,qL,qf,q2,q3,q8,qz,qp,qP,qc,qk,qx,qy,qo,qr,qC,argsφ]
 have uu:=ξn @splitRG.eq_1 (ξn @splitRG.eq_2 (ξn @pairRG.eq_1 (ξn @pairRG.eq_2 (ξn @chkR2G.eq_1 (ξn @chkR2G.eq_2 (ξn hsp (ξn hsq (ξn @un_R (ξn @un_A (ξn @tabDn14_r (ξn @tabDn14_k (ξn @tabDn14_q35 (ξn @tabDn14_q36 (@tabDn14_q37))))))))))))))
 have tT:=tabDn14_ok
 refine nz ?_
 refine WI.regB tT [0] ?_
 iterate 2 refine oS ?_
 refine oN ?_
 refine nz ?_
 refine WI.regB tT [0,16] ?_
 refine oS ?_
 iterate 2 refine oG (hok:=by first|exact se|(clear uu;grind)|exact sd) ?_
 refine oN ?_
 refine nz ?_
 refine cd (fun h0=> ?_) (fun h0=> ?_)
 ·refine WI.regB tT [2,3] ?_
  iterate 2 refine oS ?_
  refine oN ?_
  refine nz ?_
  refine WI.nnA ?_
  refine lf ?_
  rw[if_pos (by omega)]at hq;cases hq;rfl
 ·refine WI.regB tT [0,18] ?_
  refine oS ?_
  refine oG (hok:=by first|exact se|(clear uu;grind)|exact sd) ?_
  refine oN ?_
  refine nz ?_
  refine cd (fun h1=> ?_) (fun h1=> ?_)
  ·refine WI.regB tT [2,3] ?_
   iterate 2 refine oS ?_
   refine oN ?_
   refine nz ?_
   refine WI.nnA ?_
   refine lf ?_
   rw[if_neg (by omega),if_pos (by simpa using h1)]at hq;cases hq;rfl
  ·have hne:s≠ []:=by simpa using h1
   rw[if_neg (by omega),if_neg hne]at hq
   have hs:s.length≤900000:=by omega
   obtain⟨hb1,hb2⟩:=spD_bnd 44 _ s (Nat.le_refl _)
   have hsm:=nameL_sm s hs
   refine WI.regB tT [0,4] ?_
   refine oS ?_
   refine oN ?_
   refine nz ?_
   refine WI.regB tT [0,4,5] ?_
   refine oS ?_
   refine oN ?_
   refine nz ?_
   refine WI.regB tT [4,5,6] ?_
   refine oS ?_
   refine oC (hok:=by first|exact se|(clear uu;grind)|exact sd) ?_
   refine oS ?_
   refine oN ?_
   refine nz ?_
   refine WI.regB tT [4,5,6,7] ?_
   refine oS ?_
   refine oN ?_
   refine nz ?_
   refine WI.ownA 4 75 1 ?_
   have hrl:readL s=(spD 44 s).map partS:=rfl
   have hnl:nameL s=((spD 44 s).map partS).map (·.1):=rfl
   generalize spD 44 s=l at hb1 hb2 hrl hnl⊢
   generalize readL s=rl at hq hrl
   generalize nameL s=nl at hq hnl hsm
   subst hrl hnl
   refine WI.loop (fun φ os=> ∃(i:Nat),φ= [(4,.ref 0 i 0 i),(5,.x (.bool (longD ((l.take i).map fun x=>(partS x).1)))),(6,.x (.sl (rows rStr l))),(7,.x (.int .i64 i))]∧os= [.rows false 75 1 (rows rRdn ((l.take i).map fun x=>(partS x).1))]∧i≤l.length∧(l.take i).all (fun x=>(partS x).2)=true) (down l.length 7) ?_ (fun φ os hI=> ?_)
   ·exact⟨0,rfl,rfl,by omega,rfl⟩
   ·obtain⟨i,rfl,rfl,hi,hall⟩:=hI
    refine nz ?_
    refine WI.regB tT [4,5,6,7,24] ?_
    iterate 2 refine oS ?_
    iterate 2 refine oG (hok:=by first|exact se|(clear uu;grind)|exact sd) ?_
    refine oN ?_
    refine nz ?_
    refine cd (fun h2=> ?_) (fun h2=> ?_)
    ·have hi4:i<l.length:=by omega
     have hbi:=hb1 _ (List.getElem_mem hi4)
     have hsc:decide (l[i].length≤1000000)=true:=ξt (by omega)
     obtain⟨hc1,hc2⟩:=spD_bnd 43 _ l[i] (Nat.le_refl _)
     have hmt:(l.take (i+1)).map (fun x=>(partS x).1)=(l.take i).map (fun x=>(partS x).1)++ [(partS l[i]).1]:=by rw[List.take_succ_eq_append_getElem hi4,List.map_append];rfl
     have hpo:=partS_ok l[i]
     have hpb:=partS_bad l[i]
     have uu:=ξn uu hsc
     refine WI.regB tT [4,5,6,7,8] ?_
     iterate 2 refine oS ?_
     iterate 2 refine oG (hok:=by first|exact se|(clear uu;grind)|exact sd) ?_
     refine oC (hok:=by first|exact se|(clear uu;grind)|exact sd) ?_
     refine oS ?_
     refine oN ?_
     refine nz ?_
     refine WI.regB tT [4,5,6,7,8,9] ?_
     refine oS ?_
     refine oN ?_
     refine nz ?_
     refine WI.regB tT [4,5,6,7,8,9,10] ?_
     refine oS ?_
     refine oN ?_
     refine nz ?_
     refine WI.ownA 9 77 2 ?_
     generalize spD 43 l[i]=m at hc1 hc2 hpo hpb⊢
     refine WI.loop (fun φ os=> ∃(k:Nat),φ= [(4,.ref 0 i 0 i),(5,.x (.bool (longD ((l.take i).map fun x=>(partS x).1)))),(6,.x (.sl (rows rStr l))),(7,.x (.int .i64 i)),(8,.x (.sl (rows rStr m))),(9,.ref 1 k 0 k),(10,.x (.int .i64 k))]∧os= [.rows false 75 1 (rows rRdn ((l.take i).map fun x=>(partS x).1)),.rows false 77 2 (rows rAva ((m.take k).map fun x=>(pairS x).1))]∧k≤m.length∧(m.take k).all (fun x=>(pairS x).2)=true) (down m.length 10) ?_ (fun φ os hI=> ?_)
     ·exact⟨0,rfl,rfl,by omega,rfl⟩
     ·obtain⟨k,rfl,rfl,hk,hok⟩:=hI
      refine nz ?_
      refine WI.regB tT [4,5,6,7,8,9,10,35] ?_
      iterate 2 refine oS ?_
      iterate 2 refine oG (hok:=by first|exact se|(clear uu;grind)|exact sd) ?_
      refine oN ?_
      refine nz ?_
      refine cd (fun h3=> ?_) (fun h3=> ?_)
      ·have hk4:k<m.length:=by omega
       have hbk:=hc1 _ (List.getElem_mem hk4)
       have hsd:decide (m[k].length≤900000)=true:=ξt (by omega)
       have uu:=ξn uu hsd
       refine WI.regB tT [4,5,6,7,8,9,10,11,12] ?_
       iterate 2 refine oS ?_
       iterate 2 refine oG (hok:=by first|exact se|(clear uu;grind)|exact sd) ?_
       refine oC (hok:=by first|exact se|(clear uu;grind)|exact sd) ?_
       refine oS ?_
       iterate 3 refine oG ?_
       refine oG (hok:=by first|exact se|(clear uu;grind)|exact sd) ?_
       refine oS ?_
       refine oN ?_
       refine nz ?_
       refine WI.regB tT [4,5,6,7,8,9,10,11,47] ?_
       refine oS ?_
       refine oG (hok:=by first|exact se|(clear uu;grind)|exact sd) ?_
       refine oN ?_
       refine nz ?_
       refine cd (fun h4=> ?_) (fun h4=> ?_)
       ·have hbad:=hpb (all_take_false _ m k hk4 (by simpa using h4))
        have hf:(l.map partS).all (·.2)=false:=by rw[List.all_map];exact all_take_false _ l i hi4 (by show(partS l[i]).2=false;rw[hbad])
        rw[if_neg (by rw[hf];decide)]at hq
        refine WI.regB tT [2,3] ?_
        iterate 2 refine oS ?_
        refine oN ?_
        refine nz ?_
        refine WI.nnA ?_
        refine lf ?_
        cases hq;rfl
       ·refine WI.post ?_
        refine WI.regB tT [4,5,6,7,8,9,10] ?_
        refine oS ?_
        iterate 3 refine oG (hok:=by first|exact se|(clear uu;grind)|exact sd) ?_
        refine oS ?_
        refine oP ?_
        refine pPick [0,1] ?_
        refine pEnd ?_
        refine nz ?_
        refine WI.regB tT [4,5,6,7,8,9,10] ?_
        refine oS ?_
        refine oG (hok:=by first|exact se|(clear uu;grind)|exact sd) ?_
        refine oS ?_
        refine oN ?_
        refine nz ?_
        exact⟨⟨k+1,rfl,by rw[List.take_succ_eq_append_getElem hk4,List.map_append,List.map_singleton,←rows_snocA],by omega,by rw[all_snoc _ m k hk4,hok];simpa using h4⟩,by simp[down,Ab.get,D.val,intOf?];omega⟩
      ·obtain rfl:k=m.length:=by omega
       rw[List.take_length]at hok⊢
       have hpx:=hpo hok
       have hql:(m.map fun x=>(pairS x).1).length=m.length:=List.length_map ..
       generalize(m.map fun x=>(pairS x).1)=q at hpx hql⊢
       have hpx1:(partS l[i]).1=q:=by rw[hpx]
       have hpx2:(partS l[i]).2=true:=by rw[hpx]
       rw[←hql]
       have e1:q.take q.length=q:=List.take_length
       have uu:=ξn uu e1
       refine WI.regB tT [4,5,6,7,9] ?_
       iterate 2 refine oS ?_
       iterate 4 refine oG (hok:=by first|exact se|(clear uu;grind)|exact sd) ?_
       refine oS ?_
       refine oN ?_
       refine nz ?_
       refine WI.post ?_
       refine WI.regB tT [4,5,6,7] ?_
       iterate 2 refine oS ?_
       iterate 2 refine oG (hok:=by first|exact se|(clear uu;grind)|exact sd) ?_
       refine oS ?_
       refine oP ?_
       refine pPick [0] ?_
       refine pEnd ?_
       refine nz ?_
       refine WI.orderA [4,5,6,7] ?_
       refine WI.regB tT [4,5,6,7] ?_
       refine oS ?_
       refine oG (hok:=by first|exact se|(clear uu;grind)|exact sd) ?_
       refine oS ?_
       refine oN ?_
       refine nz ?_
       exact⟨⟨i+1,by rw[hmt,longD_snoc,hpx1,←show decide ((q.length:Int)>8)=decide (q.length>8) by rw[Bool.eq_iff_iff,ξe,ξe];omega];first|done|rfl,by rw[hmt,←rows_snocR,hpx1];first|done|rfl,by omega,by rw[all_snoc _ l i hi4,hall,hpx2];rfl⟩,by simp[down,Ab.get,D.val,intOf?];omega⟩
    ·obtain rfl:i=l.length:=by omega
     rw[List.take_length]at hall⊢
     have hf:(l.map partS).all (·.2)=true:=by rw[List.all_map];exact hall
     rw[if_pos hf]at hq
     have hmm:(l.map partS).map (·.1)=l.map (fun x=>(partS x).1):=by rw[List.map_map];rfl
     rw[hmm]at hq hsm
     have hml:(l.map fun x=>(partS x).1).length=l.length:=List.length_map ..
     have hcnt: ∀r∈(l.map fun x=>(partS x).1),r.length≤1000000:=by
      intro r hr;obtain⟨x,h1,rfl⟩:=List.mem_map.1 hr;have:=partS_cnt x (by have:=hb1 x h1;omega);omega
     generalize(l.map fun x=>(partS x).1)=m at hq hsm hml hcnt⊢
     have e1:m.take l.length=m:=ξT (by omega)
     have e2:(decide (smD m)&&(decide (m.length≤1000000)&&decide (∀r∈m,r.length≤1000000)))=true:=by rw[ξt hsm,ξt hcnt,ξt (show m.length≤1000000 by omega)];rfl
     have hlm:=longD_mx m
     have uu:=ξn uu (ξn hml (ξn e1 e2))
     refine WI.regB tT [4,67] ?_
     iterate 2 refine oS ?_
     iterate 4 refine oG (hok:=by first|exact se|(clear uu;grind)|exact sd) ?_
     refine oN ?_
     refine nz ?_
     refine cd (fun h5=> ?_) (fun h5=> ?_)
     ·refine WI.regB tT [2,3] ?_
      iterate 2 refine oS ?_
      refine oN ?_
      refine nz ?_
      refine WI.nnA ?_
      refine lf ?_
      have hz:mxD m>8∨m.length>32:=by rw[hlm]at h5;clear uu;grind
      by_cases hm8:mxD m>8
      ·rw[if_pos hm8]at hq;cases hq;rfl
      ·have h32:chkDn m=3:=by unfold chkDn;rw[if_pos (by omega)]
       rw[if_neg hm8,h32,if_pos (by decide)]at hq;cases hq;rfl
     ·have hm8: ¬mxD m>8:=by rw[hlm]at h5;intro hh;rw[ξt hh]at h5;simp at h5
      rw[if_neg hm8]at hq
      refine WI.regB tT [4,13] ?_
      refine oS ?_
      refine oC (hok:=by first|exact se|(clear uu;grind)|exact sd) ?_
      refine oS ?_
      refine oN ?_
      refine nz ?_
      refine WI.regB tT [4,13,71] ?_
      refine oS ?_
      refine oG (hok:=by first|exact se|(clear uu;grind)|exact sd) ?_
      refine oN ?_
      refine nz ?_
      refine cd (fun h6=> ?_) (fun h6=> ?_)
      ·refine WI.regB tT [2,3] ?_
       iterate 3 refine oS ?_
       refine oN ?_
       refine nz ?_
       refine WI.nnA ?_
       refine lf ?_
       rw[if_pos (by simpa using h6)]at hq;cases hq;rfl
      ·refine WI.regB tT [2,3] ?_
       iterate 3 refine oS ?_
       refine oN ?_
       refine nz ?_
       refine WI.nnA ?_
       refine lf ?_
       rw[if_neg (by simpa using h6)]at hq;cases hq;first|rfl|rw[e1]
def readR2G:List D→Option (Bool×D)
 | [.x (.str s)]=>some (true,.tup [.x (.sl (rows rRdn (readS s).1)),.x (.int .i64 (readS s).2)])
 |_=>none
theorem readR2G_ok: ∀args r,readR2G args=some (true,r)→PCalls Tryz.prog 18 args r:=by
 intro args r h
 unfold readR2G at h
 split at h
 ·rename_i s
  simp only[ξI,ξP,ξa,ξe,true_and]at h
  obtain rfl:=h
  exact(readR2_c s)
 ·cases h
theorem get_bstrU (s:List UInt8) (i:Nat) (h:i<s.length):(bstr s).get! i=s[i]:=by
 show(bstr s).data[i]! =_
 simp[bstr,h]
theorem runeU {s:List UInt8} {i:Nat} (h:i<s.length) (hb:s[i].toNat<128):runeAt s i=(s[i].toNat,1):=by
 unfold runeAt
 rw[Lib.decode_at,get_bstrU s i h]
 unfold Lib.decodeN
 rw[if_pos hb]
def alN (n:Nat):Bool:=decide (65≤n∧n≤90)||decide (97≤n∧n≤122)||decide (48≤n∧n≤57)
theorem alnum_c (n:Nat):PCalls Tryz.prog 21 [.x (.int .u8 n)] (.x (.bool (alN n))):=by
 refine FCalls.pure (fcallsG (fz:=true) G_ok (p:=i21) rfl _ (ξ rfl) _ (fun C0 E0=> ?_)) rfl
 dsimp only[i21,qt,qi,qs,qb,qm,qa,qh,qj,qT,qF,qe,ql,qL,qf,q2,q3,q8,qz,qp,qP,qc,qk,qx,qy,qo,qr,qC,argsφ]
 have uu:=trivial
 have tT:=(noTabs_ok:SsOk Tryz.prog noTabs)
 refine nz ?_
 refine WI.regB tT [0] ?_
 refine oS ?_
 refine oN ?_
 refine nz ?_
 refine WI.regB tT [2] ?_
 refine oS ?_
 refine oG (hok:=by first|exact se|(clear uu;grind)|exact sd) ?_
 refine oS ?_
 iterate 3 refine oG (hok:=by first|exact se|(clear uu;grind)|exact sd) ?_
 refine oS ?_
 iterate 7 refine oG (hok:=by first|exact se|(clear uu;grind)|exact sd) ?_
 refine oS ?_
 iterate 7 refine oG (hok:=by first|exact se|(clear uu;grind)|exact sd) ?_
 refine oS ?_
 refine oN ?_
 refine nz ?_
 refine lf ?_
 clear uu;unfold alN;congr 2;grind
def alnumG:List D→Option (Bool×D)
 | [.x (.int .u8 n)]=>some (decide (0≤n),.x (.bool (alN n.toNat)))
 |_=>none
theorem alnumG_ok: ∀args r,alnumG args=some (true,r)→PCalls Tryz.prog 21 args r:=by
 intro args r h
 unfold alnumG at h
 split at h
 ·rename_i n
  simp only[ξI,ξP,ξa,ξe,true_and]at h
  obtain⟨h1,rfl⟩:=h
  exact(by obtain⟨m,rfl⟩: ∃m:Nat,n=m:=⟨n.toNat,by omega⟩;rw[Int.toNat_natCast];exact alnum_c m)
 ·cases h
theorem urlIn_c (s:Tx) (ha: ∀x∈s,x.toNat<128) (n:Nat) (hn:n<256):PCalls Tryz.prog 22 [.x (.str s),.x (.int .u8 n)] (.x (.bool (inB s n))):=by
 refine FCalls.pure (fcallsG (fz:=true) G_ok (p:=i22) rfl _ (ξ rfl) _ (fun C0 E0=> ?_)) rfl
 dsimp only[i22,qt,qi,qs,qb,qm,qa,qh,qj,qT,qF,qe,ql,qL,qf,q2,q3,q8,qz,qp,qP,qc,qk,qx,qy,qo,qr,qC,argsφ]
 have uu:=trivial
 have tT:=(noTabs_ok:SsOk Tryz.prog noTabs)
 refine nz ?_
 refine rg tT [0,1] ?_
 refine rg tT [1,8] ?_
 refine WI.loop (fun φ os=> ∃(i:Nat),φ= [(1,.x (.int .u8 n)),(8,.iref 0 0)]∧os= [.sit s i]∧i≤s.length∧inB (s.take i) n=false) (strI s.length 0) ?_ (fun φ os hI=> ?_)
 ·exact⟨0,rfl,rfl,by omega,rfl⟩
 ·obtain⟨i,rfl,rfl,hi,hno⟩:=hI
  refine nz ?_
  refine WI.nextSA [1,8,9,10] (fun hn2=> ?_) (fun hn2=> ?_)
  ·refine nz ?_
   refine ce (fun h0=> ?_) (fun h0=> ?_)
   ·exact absurd h0 (by decide)
   ·refine rg tT [4] ?_
    refine lf ?_
    rw[ξT (by omega)]at hno;rw[hno]
  ·have hrn:=runeU hn2 (ha _ (List.getElem_mem hn2))
   have hst:inB (s.take (i+1)) n=(inB (s.take i) n||(s[i].toNat==n)):=by unfold inB;rw[List.take_succ_eq_append_getElem hn2,List.any_append];simp
   have hwn:IntKind.i32.wrap (n:Int)=n:=IntWalk.i32_in _ (by omega)
   rw[hrn]
   have uu:=ξn uu (ξn hrn hwn)
   refine nz ?_
   refine ct (fun h0=> ?_) (fun h0=> ?_)
   ·refine rg tT [1,6,8] ?_
    refine rg tT [1,8,15] ?_
    refine cd (fun h1=> ?_) (fun h1=> ?_) (kB:=fun h=>h.h)
    ·have hz:s[i].toNat=n:=Int.ofNat.inj (by first|exact h1|simpa only[beq_iff_eq]using h1)
     refine rg tT [4] ?_
     refine lf ?_
     rw[show inB s n=true from List.any_eq_true.2 ⟨s[i],List.getElem_mem hn2,by simpa using hz⟩]
    ·have hne:s[i].toNat≠n:=fun e=>h1 (by rw[e])
     refine WI.orderA [1,8] ?_
     refine nz ?_
     exact⟨⟨i+1,rfl,rfl,by omega,by rw[hst,hno];exact beq_false_of_ne hne⟩,by simp[strI];omega⟩
   ·exact absurd h0 (by decide)
def urlInG:List D→Option (Bool×D)
 | [.x (.str s),.x (.int .u8 n)]=>some (decide ((∀x∈s,x.toNat<128)∧0≤n∧n<256),.x (.bool (inB s n.toNat)))
 |_=>none
theorem urlInG_ok: ∀args r,urlInG args=some (true,r)→PCalls Tryz.prog 22 args r:=by
 intro args r h
 unfold urlInG at h
 split at h
 ·rename_i s n
  simp only[ξI,ξP,ξa,ξe,true_and]at h
  obtain⟨h1,rfl⟩:=h
  exact(by obtain⟨h1,h2,h3⟩:=h1;obtain⟨m,rfl⟩: ∃m:Nat,n=m:=⟨n.toNat,by omega⟩;rw[Int.toNat_natCast];exact urlIn_c s h1 m (by omega))
 ·cases h
def markL:Tx:= [45,46,95,126,44,61,42,40,41,43,38,33,124]
def uok (n:Nat):Bool:=alN n||inB markL n
def udL:Tx:= [48,49,50,51,52,53,54,55,56,57,65,66,67,68,69,70]
def udg (n:Nat):UInt8:=udL.getD n 0
def ueB (c:UInt8):Tx:=if uok c.toNat=true then [c]else [37,udg (c.toNat/16),udg (c.toNat % 16)]
def ueS (s:Tx):Tx:=s.flatMap ueB
theorem ueB_len (c:UInt8):(ueB c).length≤3:=by unfold ueB;split<;>simp
theorem ueS_take (s:Tx) (j:Nat) (h:j<s.length):ueS (s.take (j+1))=ueS (s.take j)++ueB (s.getD j 0):=by
 rw[show s.getD j 0=s[j] by simp[h]];unfold ueS;rw[List.take_succ_eq_append_getElem h,List.flatMap_append];simp
theorem ueS_len: ∀s:Tx,(ueS s).length≤3*s.length
 | []=>by simp[ueS]
 |c::s=>by
  have h1:=ueB_len c
  have h2:=ueS_len s
  unfold ueS at h2⊢
  simp only[List.flatMap_cons,ξA,ξC];omega
theorem mark_low: ∀x∈markL,x.toNat<128:=by decide
theorem ue_row3 (l:Tx) (c:UInt8) (h:uok c.toNat=false):l.map byteRow++ [[X.int .u8 37],[X.int .u8 ((udg (c.toNat/16)).toNat:Int)],[X.int .u8 ((udg (c.toNat % 16)).toNat:Int)]]=(l++ueB c).map byteRow:=by
 rw[ueB,if_neg (by simp[h]),List.map_append];rfl
theorem ue_row1 (l:Tx) (c:UInt8) (h:uok c.toNat=true):l.map byteRow++ [[X.int .u8 (c.toNat:Int)]]=(l++ueB c).map byteRow:=by
 rw[ueB,if_pos h,List.map_append];rfl
theorem ue_n3 (c:UInt8) (h:uok c.toNat=false):(ueB c).length=3:=by rw[ueB,if_neg (by simp[h])];rfl
theorem ue_n1 (c:UInt8) (h:uok c.toNat=true):(ueB c).length=1:=by rw[ueB,if_pos h];rfl
theorem qu16U (n:Nat) (h:n<256):IntKind.u8.wrap ((n:Int).tdiv 16)=((n/16:Nat):Int):=by
 rw[show(n:Int).tdiv 16=((n/16:Nat):Int)from rfl,IntWalk.u8_in _ (by omega)]
theorem qr16U (n:Nat):(n:Int).tmod 16=((n % 16:Nat):Int):=rfl
theorem udL_len:udL.length=16:=rfl
def tabUr1:Tabs:=addQ (addQ (noTabs) 21 alnumG) 22 urlInG
theorem tabUr1_ok:SsOk Tryz.prog tabUr1:=addQ_ok (addQ_ok (noTabs_ok) (G_enters G_ok (p:=i21) rfl) alnumG_ok) (G_enters G_ok (p:=i22) rfl) urlInG_ok
theorem tabUr1_q21 (a:List D):tabUr1.q 21 a=alnumG a:=rfl
theorem tabUr1_q22 (a:List D):tabUr1.q 22 a=urlInG a:=rfl
theorem tabUr1_r (f:FuncId) (a:List D) (o:List Ob):tabUr1.r f a o=none:=rfl
theorem tabUr1_k (f:FuncId) (a:List D) (o:List Ob):tabUr1.k f a o=none:=rfl
theorem urlEsc_c (s:Tx) (hl:s.length≤1000000):PCalls Tryz.prog 9 [.x (.str s)] (.x (.str (ueS s))):=by
 have hmk: ∀n,inB [45,46,95,126,44,61,42,40,41,43,38,33,124] n=inB markL n:=fun n=>rfl
 have hud: ∀n:Nat,([48,49,50,51,52,53,54,55,56,57,65,66,67,68,69,70]:Tx).getD n 0=udg n:=fun n=>rfl
 refine FCalls.pure (fcallsG (fz:=true) G_ok (p:=i9) rfl _ (ξ rfl) _ (fun C0 E0=> ?_)) rfl
 dsimp only[i9,qt,qi,qs,qb,qm,qa,qh,qj,qT,qF,qe,ql,qL,qf,q2,q3,q8,qz,qp,qP,qc,qk,qx,qy,qo,qr,qC,argsφ]
 have uu:=ξn @alnumG.eq_1 (ξn @alnumG.eq_2 (ξn @urlInG.eq_1 (ξn @urlInG.eq_2 (ξn hmk (ξn hud (ξn @bytes_all (ξn @bytes_row (ξn @tabUr1_r (ξn @tabUr1_k (ξn @tabUr1_q21 (@tabUr1_q22)))))))))))
 have tT:=tabUr1_ok
 refine nz ?_
 refine WI.regB tT [0] ?_
 refine oS ?_
 refine oN ?_
 refine nz ?_
 refine WI.regB tT [0,3] ?_
 refine oS ?_
 refine oN ?_
 refine nz ?_
 refine WI.regB tT [3,7,8,9] ?_
 refine oS ?_
 iterate 2 refine oG (hok:=by first|exact se|(clear uu;grind)|exact sd) ?_
 refine oS ?_
 refine oN ?_
 refine nz ?_
 refine WI.ownA 3 5 1 ?_
 refine WI.loop (fun φ os=> ∃(j:Nat),φ= [(3,.ref 1 (ueS (s.take j)).length 0 (ueS (s.take j)).length),(7,.ref 0 s.length 0 s.length),(8,.x (.int .i64 s.length)),(9,.x (.int .i64 j))]∧os= [.rows true 5 1 (s.map byteRow),.rows false 5 1 ((ueS (s.take j)).map byteRow)]∧j≤s.length) (down s.length 9) ?_ (fun φ os hI=> ?_)
 ·exact⟨0,rfl,rfl,by omega⟩
 ·obtain⟨j,rfl,rfl,hj⟩:=hI
  have hle:=ueS_len (s.take j)
  rw[List.length_take]at hle
  refine nz ?_
  refine WI.regB tT [3,7,8,9,10] ?_
  refine oG (hok:=by first|exact se|(clear uu;grind)|exact sd) ?_
  refine oN ?_
  refine nz ?_
  refine cd (fun h0=> ?_) (fun h0=> ?_)
  ·have hj4:j<s.length:=by omega
   have hst:=ueS_take s j hj4
   have hb8:(s.getD j 0).toNat<256:=UInt8.toNat_lt _
   have q0:(decide ((∀x∈([45,46,95,126,44,61,42,40,41,43,38,33,124]:Tx),x.toNat<128)∧0≤((s.getD j 0).toNat:Int)∧((s.getD j 0).toNat:Int)<256))=true:=ξt ⟨mark_low,by omega,by omega⟩
   have q1:=qu16U _ hb8
   have q2:=qr16U (s.getD j 0).toNat
   have q3:decide (((s.getD j 0).toNat/16:Nat)<(16:Int))=true:=ξt (by omega)
   have q4:decide (((s.getD j 0).toNat % 16:Nat)<(16:Int))=true:=ξt (by omega)
   have q5:uok (s.getD j 0).toNat=(alN (s.getD j 0).toNat||inB markL (s.getD j 0).toNat):=rfl
   have uu:=ξn uu (ξn (byte_row s j hj4) (ξn q0 (ξn q1 (ξn q2 (ξn q3 q4)))))
   refine WI.regB tT [3,5,7,8,9] ?_
   iterate 2 refine oG (hok:=by first|exact se|(clear uu;grind)|exact sd) ?_
   refine oS ?_
   refine oN ?_
   refine nz ?_
   refine WI.regB tT [3,5,7,8,9,18] ?_
   refine oS ?_
   refine oC (hok:=by first|exact se|(clear uu;grind)|exact sd) ?_
   refine oS ?_
   refine oG (hok:=by first|exact se|(clear uu;grind)|exact sd) ?_
   refine oC (hok:=by first|exact se|(clear uu;grind)|exact sd) ?_
   refine oG (hok:=by first|exact se|(clear uu;grind)|exact sd) ?_
   refine oN ?_
   refine nz ?_
   refine cd (fun h1=> ?_) (fun h1=> ?_)
   ·have hm:uok (s.getD j 0).toNat=true:=by rw[q5];clear uu;grind
    have hn:=ue_n1 (s.getD j 0) hm
    have hrow:=ue_row1 (ueS (s.take j)) (s.getD j 0) hm
    refine WI.post ?_
    refine WI.regB tT [3,7,8,9] ?_
    iterate 2 refine oS ?_
    iterate 2 refine oG (hok:=by first|exact se|(clear uu;grind)|exact sd) ?_
    refine oS ?_
    refine oP ?_
    refine pPick [0,1] ?_
    refine pEnd ?_
    refine nz ?_
    refine WI.orderA [3,7,8,9] ?_
    refine WI.regB tT [3,7,8,9] ?_
    refine oG (hok:=by first|exact se|(clear uu;grind)|exact sd) ?_
    refine oS ?_
    refine oN ?_
    refine nz ?_
    exact⟨⟨j+1,by rw[hst,ξA,hn];first|done|rfl,by rw[hst,←hrow];first|done|rfl,by omega⟩,by simp[down,Ab.get,D.val,intOf?];omega⟩
   ·have hm:uok (s.getD j 0).toNat=false:=by rw[q5];clear uu;grind
    have hn:=ue_n3 (s.getD j 0) hm
    have hrow:=ue_row3 (ueS (s.take j)) (s.getD j 0) hm
    refine WI.post ?_
    refine WI.dregB tT [3,7,8,9] ?_
    iterate 2 refine dFS ?_
    iterate 2 refine dFG (hok:=by first|exact se|(clear uu;grind)|exact sd) ?_
    refine dFS ?_
    iterate 2 refine dFG (hok:=by first|exact se|(clear uu;grind)|exact sd) ?_
    iterate 2 refine dAG (hok:=by first|exact se|(clear uu;grind)|exact sd) ?_
    refine dFS ?_
    refine dP ?_
    refine pPick [0,1] ?_
    refine pEnd ?_
    refine nz ?_
    refine WI.orderA [3,7,8,9] ?_
    refine WI.regB tT [3,7,8,9] ?_
    refine oG (hok:=by first|exact se|(clear uu;grind)|exact sd) ?_
    refine oS ?_
    refine oN ?_
    refine nz ?_
    exact⟨⟨j+1,by rw[hst,ξA,hn];first|done|rfl,by rw[hst,←hrow];first|done|rfl,by omega⟩,by simp[down,Ab.get,D.val,intOf?];omega⟩
  ·have e8:((ueS (s.take j)).map byteRow).take (ueS (s.take j)).length=(ueS s).map byteRow:=by rw[ξT (by simp),ξT (by omega)]
   have uu:=ξn uu e8
   refine WI.regB tT [2] ?_
   refine oS ?_
   refine oG (hok:=by first|exact se|(clear uu;grind)|exact sd) ?_
   refine oS ?_
   refine oN ?_
   refine nz ?_
   refine lf ?_
   first|rfl
def urlEscG:List D→Option (Bool×D)
 | [.x (.str s)]=>some (decide (s.length≤1000000),.x (.str (ueS s)))
 |_=>none
theorem urlEscG_ok: ∀args r,urlEscG args=some (true,r)→PCalls Tryz.prog 9 args r:=by
 intro args r h
 unfold urlEscG at h
 split at h
 ·rename_i s
  simp only[ξI,ξP,ξa,ξe,true_and]at h
  obtain⟨h1,rfl⟩:=h
  exact(urlEsc_c s h1)
 ·cases h
def hstN (n:Nat):Bool:=alN n||inB [46,45,58] n
theorem host_c (s:Tx) (hl:s.length≤1000000):PCalls Tryz.prog 29 [.x (.str s)] (.x (.bool (s.all fun c=>hstN c.toNat))):=by
 refine FCalls.pure (fcallsG (fz:=true) G_ok (p:=i29) rfl _ (ξ rfl) _ (fun C0 E0=> ?_)) rfl
 dsimp only[i29,qt,qi,qs,qb,qm,qa,qh,qj,qT,qF,qe,ql,qL,qf,q2,q3,q8,qz,qp,qP,qc,qk,qx,qy,qo,qr,qC,argsφ]
 have uu:=ξn @alnumG.eq_1 (ξn @alnumG.eq_2 (ξn @urlInG.eq_1 (ξn @urlInG.eq_2 (ξn @bytes_all (ξn @bytes_row (ξn @tabUr1_r (ξn @tabUr1_k (ξn @tabUr1_q21 (@tabUr1_q22)))))))))
 have tT:=tabUr1_ok
 refine nz ?_
 refine WI.regB tT [0] ?_
 refine oS ?_
 refine oN ?_
 refine nz ?_
 refine WI.regB tT [6,7,8] ?_
 refine oS ?_
 iterate 2 refine oG (hok:=by first|exact se|(clear uu;grind)|exact sd) ?_
 refine oS ?_
 refine oN ?_
 refine nz ?_
 refine WI.loop (fun φ os=> ∃(j:Nat),φ= [(6,.ref 0 s.length 0 s.length),(7,.x (.int .i64 s.length)),(8,.x (.int .i64 j))]∧os= [.rows true 5 1 (s.map byteRow)]∧j≤s.length∧(s.take j).all (fun c=>hstN c.toNat)=true) (down s.length 8) ?_ (fun φ os hI=> ?_)
 ·exact⟨0,rfl,rfl,by omega,rfl⟩
 ·obtain⟨j,rfl,rfl,hj,hall⟩:=hI
  refine nz ?_
  refine WI.regB tT [6,7,8,9] ?_
  refine oG (hok:=by first|exact se|(clear uu;grind)|exact sd) ?_
  refine oN ?_
  refine nz ?_
  refine cd (fun h0=> ?_) (fun h0=> ?_)
  ·have hj4:j<s.length:=by omega
   have hgj:s[j]=s.getD j 0:=by simp[hj4]
   have hb8:(s.getD j 0).toNat<256:=UInt8.toNat_lt _
   have q0:(decide ((∀x∈([46,45,58]:Tx),x.toNat<128)∧0≤((s.getD j 0).toNat:Int)∧((s.getD j 0).toNat:Int)<256))=true:=ξt ⟨by decide,by omega,by omega⟩
   have q5:hstN (s.getD j 0).toNat=(alN (s.getD j 0).toNat||inB [46,45,58] (s.getD j 0).toNat):=rfl
   have uu:=ξn uu (ξn (byte_row s j hj4) q0)
   refine WI.regB tT [4,6,7,8] ?_
   iterate 2 refine oG (hok:=by first|exact se|(clear uu;grind)|exact sd) ?_
   refine oS ?_
   refine oN ?_
   refine nz ?_
   refine WI.regB tT [6,7,8,19] ?_
   refine oS ?_
   refine oC (hok:=by first|exact se|(clear uu;grind)|exact sd) ?_
   refine oG (hok:=by first|exact se|(clear uu;grind)|exact sd) ?_
   refine oS ?_
   refine oG (hok:=by first|exact se|(clear uu;grind)|exact sd) ?_
   refine oC (hok:=by first|exact se|(clear uu;grind)|exact sd) ?_
   iterate 2 refine oG (hok:=by first|exact se|(clear uu;grind)|exact sd) ?_
   refine oN ?_
   refine nz ?_
   refine cd (fun h1=> ?_) (fun h1=> ?_)
   ·refine WI.regB tT [2] ?_
    refine oS ?_
    refine oN ?_
    refine nz ?_
    refine lf ?_
    rw[all_take_false _ s j hj4 (by rw[hgj,q5];clear uu;grind)]
   ·refine WI.regB tT [6,7,8] ?_
    refine oG (hok:=by first|exact se|(clear uu;grind)|exact sd) ?_
    refine oS ?_
    refine oN ?_
    refine nz ?_
    exact⟨⟨j+1,rfl,rfl,by omega,by rw[all_snoc _ s j hj4,hall,hgj,q5];clear uu;grind⟩,by simp[down,Ab.get,D.val,intOf?];omega⟩
  ·refine WI.regB tT [2] ?_
   refine oS ?_
   refine oN ?_
   refine nz ?_
   refine lf ?_
   rw[ξT (by omega)]at hall;rw[hall]
def hostG:List D→Option (Bool×D)
 | [.x (.str s)]=>some (decide (s.length≤1000000),.x (.bool (s.all fun c=>hstN c.toNat)))
 |_=>none
theorem hostG_ok: ∀args r,hostG args=some (true,r)→PCalls Tryz.prog 29 args r:=by
 intro args r h
 unfold hostG at h
 split at h
 ·rename_i s
  simp only[ξI,ξP,ξa,ξe,true_and]at h
  obtain⟨h1,rfl⟩:=h
  exact(host_c s h1)
 ·cases h
end Go.Proofs.YtmlpbojoekmfaaaGreatDoor
end
