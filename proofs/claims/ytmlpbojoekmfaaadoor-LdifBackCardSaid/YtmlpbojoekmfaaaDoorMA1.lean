import Derived.Test.YtmlpbojoekmfaaaDoorLA5
import Derived.Test.YtmlpbojoekmfaaaDoorIc
import Derived.Test.YtmlpbojoekmfaaaDoorSh
import Derived.Handy
import Derived.Shelf.Strings.Builder1
import Derived.Lib.Join
import Derived.Shelf.Strings.Cut
set_option linter.unusedSimpArgs false
set_option linter.unusedVariables false
section
namespace Go.Proofs.YtmlpbojoekmfaaaDoor
open Go.RowKit Go.Bo Go.Ab
def lowC (c:UInt8):UInt8:=if 65≤c.toNat∧c.toNat≤90 then UInt8.ofNat (c.toNat+32)else c
theorem lowC_up {c:UInt8} (h:65≤c.toNat∧c.toNat≤90):((lowC c).toNat:Int)=(c.toNat:Int)-65+97:=by
 unfold lowC;rw[if_pos h];simp;omega
def lowS (s:List UInt8):List UInt8:=s.map lowC
def lowL (s:List UInt8) (i:Nat):List UInt8:=(s.take i).map lowC++s.drop i
theorem lowL_len (s:List UInt8) (i:Nat):(lowL s i).length=s.length:=by simp[lowL];omega
theorem lowL_zero (s:List UInt8):lowL s 0=s:=by simp[lowL]
theorem lowL_end (s:List UInt8) (i:Nat) (h:s.length≤i):lowL s i=lowS s:=by simp[lowL,lowS,ξT h,List.drop_of_length_le h]
theorem lowL_get (s:List UInt8) (i:Nat) (h:i<s.length):(lowL s i)[i]'(by rw[lowL_len];exact h)=s[i]:=by
 simp[lowL,List.getElem_append,Nat.min_eq_left (Nat.le_of_lt h)]
theorem lowL_set (s:List UInt8) (i:Nat) (h:i<s.length) (c:UInt8) (hc:c=lowC s[i]):(lowL s i).set i c=lowL s (i+1):=by
 subst hc
 unfold lowL
 rw[List.take_succ_eq_append_getElem h,List.drop_eq_getElem_cons h,List.set_append_right _ _ (by simp;omega)]
 have hm:i-((s.take i).map lowC).length=0:=by simp;omega
 rw[hm,List.set_cons_zero,List.map_append,List.append_assoc];rfl
theorem lowL_row (s:List UInt8) (i:Nat) (h:i<s.length):((lowL s i).map byteRow)[i]? =some [X.int .u8 s[i].toNat]:=by
 have h2:i<(lowL s i).length:=by rw[lowL_len];exact h
 rw[ξp,ξg h2,lowL_get s i h];rfl
theorem lowL_rset (s:List UInt8) (i:Nat) (h:i<s.length) (hc:65≤s[i].toNat∧s[i].toNat≤90):((lowL s i).map byteRow).set i [X.int .u8 (IntKind.u8.wrap (IntKind.u8.wrap ((s[i].toNat:Int)-65)+97))]=(lowL s (i+1)).map byteRow:=by
 have e1:IntKind.u8.wrap ((s[i].toNat:Int)-65)=(s[i].toNat:Int)-65:=IntWalk.u8_in _ (by omega)
 have e2:IntKind.u8.wrap ((s[i].toNat:Int)-65+97)=((lowC s[i]).toNat:Int):=by rw[IntWalk.u8_in _ (by omega),lowC_up hc]
 rw[e1,e2,←lowL_set s i h _ rfl,List.map_set];rfl
theorem lowL_skip (s:List UInt8) (i:Nat) (h:i<s.length) (hc:lowC s[i]=s[i]):lowL s i=lowL s (i+1):=by
 unfold lowL
 rw[List.take_succ_eq_append_getElem h,List.map_append,List.append_assoc,List.drop_eq_getElem_cons h]
 simp[hc]
theorem lowC_no {c:UInt8} (h: ¬(65≤c.toNat∧c.toNat≤90)):lowC c=c:=if_neg h
theorem lower_c (s:List UInt8) (hl:s.length≤1000000):PCalls Tryd.prog 73 [.x (.str s)] (.x (.str (lowS s))):=by
 refine FCalls.pure (fcallsG (fz:=true) G_ok (p:=i73) rfl _ (ξ rfl) _ (fun C0 E0=> ?_)) rfl
 dsimp only[i73,qt,qi,qs,qb,qm,qa,qh,qj,qT,qF,qe,ql,qL,qf,q2,q3,q8,qz,qp,qP,qc,qk,qx,qy,qo,qr,qC,argsφ]
 have uu:=ξn @lowL_len (ξn @bytes_all (@bytes_row))
 have tT:=(noTabs_ok:SsOk Tryd.prog noTabs)
 refine nz ?_
 refine rg tT [0] ?_
 refine rg tT [3] ?_
 refine rg tT [3,8,9,10] ?_
 refine WI.loop (fun φ os=> ∃(i:Nat),φ= [(3,.ref 0 s.length 0 s.length),(8,.ref 0 s.length 0 s.length),(9,.x (.int .i64 s.length)),(10,.x (.int .i64 i))]∧os= [.rows true 5 1 ((lowL s i).map byteRow)]∧i≤s.length) (down s.length 10) ?_ (fun φ os hI=> ?_)
 ·exact⟨0,rfl,by rw[lowL_zero],by omega⟩
 ·obtain⟨i,rfl,rfl,hi⟩:=hI
  refine nz ?_
  refine rg tT [3,8,9,10,11] ?_
  refine cd (fun h0=> ?_) (fun h0=> ?_)
  ·have hi4:i<s.length:=by omega
   have uu:=ξn uu (lowL_row s i hi4)
   have hb8:s[i].toNat<256:=UInt8.toNat_lt _
   refine rg tT [3,4,5,8,9,10] ?_
   refine rg tT [3,4,5,8,9,10,20] ?_
   refine cd (fun h1=> ?_) (fun h1=> ?_)
   ·have hcs:65≤s[i].toNat∧s[i].toNat≤90:=by omega
    have uu:=ξn uu (lowL_rset s i hi4 hcs)
    refine rg tT [3,8,9,10] ?_
    refine rg tT [3,8,9,10] ?_
    exact⟨⟨i+1,by first|rfl|simp,by first|rfl|rw[←hset],by omega⟩,by simp[down,Ab.get,D.val,intOf?];omega⟩
   ·have hcs: ¬(65≤s[i].toNat∧s[i].toNat≤90):=by omega
    have hset:=lowL_skip s i hi4 (lowC_no hcs)
    refine rg tT [3,8,9,10] ?_
    exact⟨⟨i+1,by first|rfl|simp,by first|rfl|rw[←hset],by omega⟩,by simp[down,Ab.get,D.val,intOf?];omega⟩
  ·have e8:((lowL s i).map byteRow).take s.length=(lowS s).map byteRow:=by rw[ξT (by simp[lowL_len]),lowL_end s i (by omega)]
   have uu:=ξn uu e8
   refine rg tT [2] ?_
   refine lf ?_
   first|rfl|exact⟨rfl,rfl⟩|trivial
def lowerG:List D→Option (Bool×D)
 | [.x (.str s)]=>some (decide (s.length≤1000000),.x (.str (lowS s)))
 |_=>none
theorem lowerG_ok: ∀args r,lowerG args=some (true,r)→PCalls Tryd.prog 73 args r:=by
 intro args r h
 unfold lowerG at h
 split at h
 ·rename_i s
  simp only[ξI,ξP,ξa,ξe,true_and]at h
  obtain⟨h1,rfl⟩:=h
  exact(lower_c s h1)
 ·cases h
theorem lowS_len (s:List UInt8):(lowS s).length=s.length:=by simp[lowS]
theorem lowS_take (s:List UInt8) (i:Nat) (h:i<s.length):lowS (s.take (i+1))=lowS (s.take i)++ [lowC (s.getD i 0)]:=by
 rw[show s.getD i 0=s[i] by simp[h]];unfold lowS;rw[List.take_succ_eq_append_getElem h,List.map_append];rfl
theorem bytes_snoc (l:List UInt8) (c:UInt8):(l++ [c]).map byteRow=l.map byteRow++ [[X.int .u8 c.toNat]]:=by rw[List.map_append];rfl
theorem lowC_w {c:UInt8} (h:65≤c.toNat∧c.toNat≤90):IntKind.u8.wrap ((c.toNat:Int)+32)=((lowC c).toNat:Int):=by
 have:=UInt8.toNat_lt c
 rw[IntWalk.u8_in _ (by omega),lowC_up h];omega
theorem lower5_c (s:List UInt8) (hl:s.length≤1000000):PCalls Tryd.prog 32 [.x (.str s)] (.x (.str (lowS s))):=by
 refine FCalls.pure (fcallsG (fz:=true) G_ok (p:=i32) rfl _ (ξ rfl) _ (fun C0 E0=> ?_)) rfl
 dsimp only[i32,qt,qi,qs,qb,qm,qa,qh,qj,qT,qF,qe,ql,qL,qf,q2,q3,q8,qz,qp,qP,qc,qk,qx,qy,qo,qr,qC,argsφ]
 have uu:=ξn @bytes_all (@bytes_row)
 have tT:=(noTabs_ok:SsOk Tryd.prog noTabs)
 refine nz ?_
 refine WI.regB tT [0] ?_
 refine oS ?_
 refine oN ?_
 refine nz ?_
 refine WI.regB tT [0,3] ?_
 refine oS ?_
 refine oN ?_
 refine nz ?_
 refine WI.regB tT [0,3,4] ?_
 refine oS ?_
 refine oN ?_
 refine nz ?_
 refine WI.ownA 3 5 1 ?_
 refine WI.loop (fun φ os=> ∃(i:Nat),φ= [(0,.x (.str s)),(3,.ref 0 (lowS (s.take i)).length 0 (lowS (s.take i)).length),(4,.x (.int .i64 i))]∧os= [.rows false 5 1 ((lowS (s.take i)).map byteRow)]∧i≤s.length) (down s.length 4) ?_ (fun φ os hI=> ?_)
 ·exact⟨0,rfl,rfl,by omega⟩
 ·obtain⟨i,rfl,rfl,hi⟩:=hI
  refine nz ?_
  refine WI.regB tT [0,3,4,9] ?_
  iterate 2 refine oS ?_
  iterate 2 refine oG (hok:=by first|exact se|(exact ξt (by omega))|(rw[ξT (by simp)];exact bytes_all _)|exact sd) ?_
  refine oN ?_
  refine nz ?_
  refine cd (fun h0=> ?_) (fun h0=> ?_)
  ·have hi4:i<s.length:=by omega
   have hlt:(lowS (s.take i)).length≤1000000:=by rw[lowS_len,List.length_take];omega
   have hst:=lowS_take s i hi4
   have hb8:(s.getD i 0).toNat<256:=UInt8.toNat_lt _
   refine WI.regB tT [0,3,4,5] ?_
   iterate 2 refine oS ?_
   refine oG (hok:=by first|exact se|(exact ξt (by omega))|(rw[ξT (by simp)];exact bytes_all _)|exact sd) ?_
   refine oS ?_
   refine oN ?_
   refine nz ?_
   refine WI.regB tT [0,3,4,5,20] ?_
   refine oS ?_
   refine oG (hok:=by first|exact se|(exact ξt (by omega))|(rw[ξT (by simp)];exact bytes_all _)|exact sd) ?_
   refine oS ?_
   iterate 3 refine oG (hok:=by first|exact se|(exact ξt (by omega))|(rw[ξT (by simp)];exact bytes_all _)|exact sd) ?_
   refine oN ?_
   refine nz ?_
   refine cd (fun h1=> ?_) (fun h1=> ?_)
   ·have hcs:65≤(s.getD i 0).toNat∧(s.getD i 0).toNat≤90:=by omega
    refine WI.regB tT [0,3,4,5] ?_
    refine oS ?_
    refine oG (hok:=by first|exact se|(exact ξt (by omega))|(rw[ξT (by simp)];exact bytes_all _)|exact sd) ?_
    refine oS ?_
    refine oN ?_
    refine nz ?_
    refine WI.regB tT [0,3,4] ?_
    iterate 2 refine oS ?_
    iterate 2 refine oG (hok:=by first|exact se|(exact ξt (by omega))|(rw[ξT (by simp)];exact bytes_all _)|exact sd) ?_
    refine oS ?_
    refine oN ?_
    refine nz ?_
    refine WI.post ?_
    refine WI.regB tT [0,3,4] ?_
    refine oS ?_
    refine oG (hok:=by first|exact se|(exact ξt (by omega))|(rw[ξT (by simp)];exact bytes_all _)|exact sd) ?_
    refine oS ?_
    refine oP ?_
    refine pPick [0] ?_
    refine pEnd ?_
    refine nz ?_
    exact⟨⟨i+1,by rw[hst,ξA];rfl,by rw[hst,bytes_snoc];first|rfl|rw[lowC_no hcs]|rw[lowC_w hcs],by omega⟩,by simp[down,Ab.get,D.val,intOf?];omega⟩
   ·have hcs: ¬(65≤(s.getD i 0).toNat∧(s.getD i 0).toNat≤90):=by omega
    refine WI.regB tT [0,3,4] ?_
    iterate 2 refine oS ?_
    iterate 2 refine oG (hok:=by first|exact se|(exact ξt (by omega))|(rw[ξT (by simp)];exact bytes_all _)|exact sd) ?_
    refine oS ?_
    refine oN ?_
    refine nz ?_
    refine WI.post ?_
    refine WI.regB tT [0,3,4] ?_
    refine oS ?_
    refine oG (hok:=by first|exact se|(exact ξt (by omega))|(rw[ξT (by simp)];exact bytes_all _)|exact sd) ?_
    refine oS ?_
    refine oP ?_
    refine pPick [0] ?_
    refine pEnd ?_
    refine nz ?_
    exact⟨⟨i+1,by rw[hst,ξA];rfl,by rw[hst,bytes_snoc];first|rfl|rw[lowC_no hcs]|rw[lowC_w hcs],by omega⟩,by simp[down,Ab.get,D.val,intOf?];omega⟩
  ·have e8:((lowS (s.take i)).map byteRow).take (lowS (s.take i)).length=(lowS s).map byteRow:=by rw[ξT (by simp),ξT (by omega)]
   have uu:=ξn uu e8
   refine WI.regB tT [2] ?_
   refine oS ?_
   refine oG (hok:=by first|exact se|(exact ξt (by omega))|(rw[ξT (by simp)];exact bytes_all _)|exact sd) ?_
   refine oS ?_
   refine oN ?_
   refine nz ?_
   refine lf ?_
   first|rfl|exact⟨rfl,rfl⟩|trivial
def lower5G:List D→Option (Bool×D)
 | [.x (.str s)]=>some (decide (s.length≤1000000),.x (.str (lowS s)))
 |_=>none
theorem lower5G_ok: ∀args r,lower5G args=some (true,r)→PCalls Tryd.prog 32 args r:=by
 intro args r h
 unfold lower5G at h
 split at h
 ·rename_i s
  simp only[ξI,ξP,ξa,ξe,true_and]at h
  obtain⟨h1,rfl⟩:=h
  exact(lower5_c s h1)
 ·cases h
def letN (n:Nat):Bool:=decide (97≤n∧n≤122)||decide (65≤n∧n≤90)
def digN (n:Nat):Bool:=decide (48≤n∧n≤57)||decide (n=45)
def tyC (i:Nat) (c:UInt8):Bool:=letN c.toNat||(decide (0<i)&&digN c.toNat)
def tyU (s:List UInt8):Nat→Bool
 |0=>true
 |j+1=>tyU s j&&tyC j (s.getD j 0)
def tyA (s:List UInt8) (j:Nat):Bool:=(decide (s≠ [])&&decide (s.length≤64))&&tyU s j
def typB (s:List UInt8):Bool:=tyA s s.length
theorem typB_eq (s:List UInt8):typB s=(decide (1≤s.length∧s.length≤64)&&tyU s s.length):=by
 unfold typB tyA
 congr 1
 rcases s with _|⟨c,s⟩<;>simp
theorem tyU_get (s:List UInt8): ∀(n j:Nat),tyU s n=true→j<n→tyC j (s.getD j 0)=true
 |n+1,j,h,hj=>by
  rw[tyU,ξa]at h
  by_cases e:j=n
  ·subst e;exact h.2
  ·exact tyU_get s n j h.1 (by omega)
theorem tyU_no (s:List UInt8): ∀(n j:Nat),j<n→tyC j (s.getD j 0)=false→tyU s n=false
 |n+1,j,hj,h=>by
  rw[tyU]
  by_cases e:j=n
  ·subst e;rw[h,Bool.and_false]
  ·rw[tyU_no s n j (by omega) h,Bool.false_and]
theorem tyC_low (j:Nat) (c:UInt8):(((decide ((lowC c).toNat≥97)&&decide ((lowC c).toNat≤122))||(decide (j>0)&&((decide ((lowC c).toNat≥48)&&decide ((lowC c).toNat≤57))||decide ((lowC c).toNat=45)))))=tyC j c:=by
 have h8:=UInt8.toNat_lt c
 unfold tyC letN digN
 by_cases h:65≤c.toNat∧c.toNat≤90
 ·have e:(lowC c).toNat=c.toNat+32:=by have:=lowC_up h;omega
  rw[e,Bool.eq_iff_iff];simp only[Bool.or_eq_true,ξa,ξe];omega
 ·have e:lowC c=c:=if_neg h
  rw[e,Bool.eq_iff_iff];simp only[Bool.or_eq_true,ξa,ξe];omega
theorem ty_step (s:List UInt8) (j:Nat):(tyA s j&&(decide (((lowC (s.getD j 0)).toNat:Int)≥97)&&decide (((lowC (s.getD j 0)).toNat:Int)≤122)||decide ((j:Int)>0)&&(decide (((lowC (s.getD j 0)).toNat:Int)≥48)&&decide (((lowC (s.getD j 0)).toNat:Int)≤57)||((lowC (s.getD j 0)).toNat:Int)==45)))=tyA s (j+1):=by
 have h:=tyC_low j (s.getD j 0)
 unfold tyA;rw[tyU,←h,←Bool.and_assoc]
 congr 1
 rw[Bool.eq_iff_iff];simp only[Bool.or_eq_true,ξa,ξe,beq_iff_eq];omega
theorem low_row (s:List UInt8) (i:Nat) (h:i<s.length):((lowS s).map byteRow)[i]? =some [X.int .u8 (lowC (s.getD i 0)).toNat]:=by
 simp[lowS,h,byteRow]
theorem tyC_eq (j:Nat) (c:UInt8):tyC j c=((decide (((c.toNat:Int))≥97)&&decide ((c.toNat:Int)≤122)||decide ((c.toNat:Int)≥65)&&decide ((c.toNat:Int)≤90))||(decide ((j:Int)≠0)&&(decide ((c.toNat:Int)≥48)&&decide ((c.toNat:Int)≤57)||decide ((c.toNat:Int)=45)))):=by
 unfold tyC letN digN
 rw[Bool.eq_iff_iff];simp only[Bool.or_eq_true,ξa,ξe];omega
theorem Typed_c (s:List UInt8) (hl:s.length≤1000000):PCalls Tryd.prog 31 [.x (.str s)] (.x (.bool (typB s))):=by
 refine FCalls.pure (fcallsG (fz:=true) G_ok (p:=i31) rfl _ (ξ rfl) _ (fun C0 E0=> ?_)) rfl
 dsimp only[i31,qt,qi,qs,qb,qm,qa,qh,qj,qT,qF,qe,ql,qL,qf,q2,q3,q8,qz,qp,qP,qc,qk,qx,qy,qo,qr,qC,argsφ]
 have uu:=trivial
 have tT:=(noTabs_ok:SsOk Tryd.prog noTabs)
 refine nz ?_
 refine WI.regB tT [0] ?_
 refine oS ?_
 refine oN ?_
 refine nz ?_
 refine WI.regB tT [0,3] ?_
 refine oS ?_
 refine oN ?_
 refine nz ?_
 refine WI.loop (fun φ os=> ∃(j:Nat),φ= [(0,.x (.str s)),(3,.x (.int .i64 j))]∧os= []∧j≤s.length∧tyU s j=true) (down s.length 3) ?_ (fun φ os hI=> ?_)
 ·exact⟨0,rfl,rfl,by omega,rfl⟩
 ·obtain⟨j,rfl,rfl,hj,hu⟩:=hI
  refine nz ?_
  refine WI.regB tT [0,3,9] ?_
  iterate 2 refine oS ?_
  iterate 2 refine oG (hok:=by first|exact se|grind|exact sd) ?_
  refine oN ?_
  refine nz ?_
  refine cd (fun h0=> ?_) (fun h0=> ?_)
  ·refine WI.regB tT [0,3,4] ?_
   iterate 2 refine oS ?_
   refine oG (hok:=by first|exact se|grind|exact sd) ?_
   refine oS ?_
   refine oN ?_
   refine nz ?_
   refine WI.regB tT [0,3,4,5] ?_
   refine oS ?_
   refine oG (hok:=by first|exact se|grind|exact sd) ?_
   refine oS ?_
   iterate 3 refine oG (hok:=by first|exact se|grind|exact sd) ?_
   refine oS ?_
   iterate 7 refine oG (hok:=by first|exact se|grind|exact sd) ?_
   refine oS ?_
   refine oN ?_
   refine nz ?_
   refine WI.regB tT [0,3,47] ?_
   refine oS ?_
   refine oG (hok:=by first|exact se|grind|exact sd) ?_
   refine oS ?_
   iterate 16 refine oG (hok:=by first|exact se|grind|exact sd) ?_
   refine oN ?_
   refine nz ?_
   refine cd (fun h1=> ?_) (fun h1=> ?_)
   ·have hc:tyC j (s.getD j 0)=false:=by rw[tyC_eq];grind
    refine WI.regB tT [2] ?_
    refine oS ?_
    refine oN ?_
    refine nz ?_
    refine lf ?_
    rw[typB_eq,tyU_no s s.length j (by omega) hc,Bool.and_false]
   ·have hc:tyC j (s.getD j 0)=true:=by rw[tyC_eq];grind
    refine WI.regB tT [0,3] ?_
    refine oS ?_
    refine oG (hok:=by first|exact se|grind|exact sd) ?_
    refine oS ?_
    refine oN ?_
    refine nz ?_
    exact⟨⟨j+1,rfl,rfl,by omega,by rw[tyU,hu,hc];rfl⟩,by simp[down,Ab.get,D.val,intOf?];omega⟩
  ·refine WI.regB tT [2] ?_
   refine oS ?_
   iterate 2 refine oG (hok:=by first|exact se|grind|exact sd) ?_
   refine oS ?_
   iterate 4 refine oG (hok:=by first|exact se|grind|exact sd) ?_
   refine oS ?_
   refine oN ?_
   refine nz ?_
   refine lf ?_
   rw[typB_eq,show s.length=j by omega,hu,Bool.and_true];congr 2;rw[Bool.eq_iff_iff];simp;omega
def TypedG:List D→Option (Bool×D)
 | [.x (.str s)]=>some (decide (s.length≤1000000),.x (.bool (typB s)))
 |_=>none
theorem TypedG_ok: ∀args r,TypedG args=some (true,r)→PCalls Tryd.prog 31 args r:=by
 intro args r h
 unfold TypedG at h
 split at h
 ·rename_i s
  simp only[ξI,ξP,ξa,ξe,true_and]at h
  obtain⟨h1,rfl⟩:=h
  exact(Typed_c s h1)
 ·cases h
abbrev Tx:=List UInt8
def trL (s:Tx):Tx:=s.dropWhile (· ==32)
def trR (s:Tx):Tx:=(s.reverse.dropWhile (· ==32)).reverse
theorem c32' {c:UInt8} (h:(c.toNat:Int)=32):c=32:=by
 apply UInt8.toNat_inj.1;show c.toNat=32;omega
theorem trL_cons (c:UInt8) (s:Tx):trL (c::s)=if c=32 then trL s else c::s:=by
 unfold trL;rw[List.dropWhile_cons];simp
theorem trL_len (s:Tx):(trL s).length≤s.length:=List.Sublist.length_le (List.dropWhile_sublist _)
theorem trR_len (s:Tx):(trR s).length≤s.length:=by
 unfold trR;rw[List.length_reverse];exact Nat.le_trans (List.Sublist.length_le (List.dropWhile_sublist _)) (by simp)
theorem trR_snoc (s:Tx) (c:UInt8):trR (s++ [c])=if c=32 then trR s else s++ [c]:=by
 unfold trR;rw[List.reverse_append,List.reverse_cons,List.reverse_nil,List.nil_append,List.singleton_append,List.dropWhile_cons]
 split<;>simp_all
theorem drop1 (s:Tx) (h:0<s.length):s=s.getD 0 0::s.drop 1:=by
 rcases s with _|⟨c,s⟩
 ·simp at h
 ·rfl
theorem take1 (s:Tx) (h:0<s.length):s=s.take (s.length-1)++ [s.getD (s.length-1) 0]:=by
 obtain⟨b,c,rfl⟩: ∃b c,s=b++ [c]:=⟨s.dropLast,s.getLast (by intro e;subst e;simp at h),(List.dropLast_concat_getLast _).symm⟩
 simp
theorem trL_step (s:Tx) (h:0<s.length) (hc:s.getD 0 0=32):trL s=trL (s.drop 1):=by
 conv=>lhs;rw[drop1 s h]
 rw[trL_cons,if_pos hc]
theorem trL_stop (s:Tx) (h: ¬(0<s.length∧s.getD 0 0=32)):trL s=s:=by
 rcases s with _|⟨c,s⟩
 ·rfl
 ·rw[trL_cons,if_neg (fun e:c=32=>h ⟨by simp,e⟩)]
theorem trR_step (s:Tx) (h:0<s.length) (hc:s.getD (s.length-1) 0=32):trR s=trR (s.take (s.length-1)):=by
 conv=>lhs;rw[take1 s h]
 rw[trR_snoc,if_pos hc]
theorem trR_stop (s:Tx) (h: ¬(0<s.length∧s.getD (s.length-1) 0=32)):trR s=s:=by
 by_cases h0:0<s.length
 ·conv=>lhs;rw[take1 s h0]
  rw[trR_snoc,if_neg (fun e=>h ⟨h0,e⟩)]
  exact(take1 s h0).symm
 ·rw[show s= []from List.length_eq_zero_iff.1 (by omega)];rfl
theorem trimLB_c (s:Tx) (hl:s.length≤1000000):PCalls Tryd.prog 76 [.x (.str s),.x (.int .u8 32)] (.x (.str (trL s))):=by
 refine FCalls.pure (fcallsG (fz:=true) G_ok (p:=i76) rfl _ (ξ rfl) _ (fun C0 E0=> ?_)) rfl
 dsimp only[i76,qt,qi,qs,qb,qm,qa,qh,qj,qT,qF,qe,ql,qL,qf,q2,q3,q8,qz,qp,qP,qc,qk,qx,qy,qo,qr,qC,argsφ]
 have uu:=trivial
 have tT:=(noTabs_ok:SsOk Tryd.prog noTabs)
 refine nz ?_
 refine WI.regB tT [0,1] ?_
 refine oS ?_
 refine oN ?_
 refine nz ?_
 refine WI.loop (fun φ os=> ∃(r:Tx),φ= [(0,.x (.str r)),(1,.x (.int .u8 32))]∧os= []∧r.length≤s.length∧trL s=trL r) ((fun φ _=>match get φ 0 with| .x (.str r)=>r.length|_=>0)) ?_ (fun φ os hI=> ?_)
 ·exact⟨s,rfl,rfl,by omega,rfl⟩
 ·obtain⟨r,rfl,rfl,hr,he⟩:=hI
  refine nz ?_
  refine WI.regB tT [0,1,13] ?_
  refine oS ?_
  iterate 2 refine oG (hok:=by first|exact se|(clear uu;grind)|exact sd) ?_
  refine oS ?_
  iterate 5 refine oG (hok:=by first|exact se|(clear uu;grind)|exact sd) ?_
  refine oN ?_
  refine nz ?_
  refine cd (fun h0=> ?_) (fun h0=> ?_)
  ·have h0p:0<r.length:=by omega
   have h0c:r.getD 0 0=32:=c32' (by omega)
   refine WI.regB tT [0,1] ?_
   refine oS ?_
   refine oG (hok:=by first|exact se|(clear uu;grind)|exact sd) ?_
   refine oS ?_
   refine oN ?_
   refine nz ?_
   exact⟨⟨r.drop 1,rfl,rfl,by simp;omega,by rw[he,trL_step r h0p h0c]⟩,by show(r.drop 1).length<r.length;rw[List.length_drop];omega⟩
  ·have h0n: ¬(0<r.length∧r.getD 0 0=32):=fun hh=>by
    have h2:((r.getD 0 0).toNat:Int)=32:=by rw[hh.2];rfl
    have h1:=hh.1
    omega
   refine WI.regB tT [4] ?_
   iterate 2 refine oS ?_
   refine oN ?_
   refine nz ?_
   refine lf ?_
   rw[he,trL_stop r h0n]
def trimLBG:List D→Option (Bool×D)
 | [.x (.str s),.x (.int .u8 32)]=>some (decide (s.length≤1000000),.x (.str (trL s)))
 |_=>none
theorem trimLBG_ok: ∀args r,trimLBG args=some (true,r)→PCalls Tryd.prog 76 args r:=by
 intro args r h
 unfold trimLBG at h
 split at h
 ·rename_i s
  simp only[ξI,ξP,ξa,ξe,true_and]at h
  obtain⟨h1,rfl⟩:=h
  exact(trimLB_c s h1)
 ·cases h
theorem trimRB_c (s:Tx) (hl:s.length≤1000000):PCalls Tryd.prog 77 [.x (.str s),.x (.int .u8 32)] (.x (.str (trR s))):=by
 refine FCalls.pure (fcallsG (fz:=true) G_ok (p:=i77) rfl _ (ξ rfl) _ (fun C0 E0=> ?_)) rfl
 dsimp only[i77,qt,qi,qs,qb,qm,qa,qh,qj,qT,qF,qe,ql,qL,qf,q2,q3,q8,qz,qp,qP,qc,qk,qx,qy,qo,qr,qC,argsφ]
 have uu:=trivial
 have tT:=(noTabs_ok:SsOk Tryd.prog noTabs)
 refine nz ?_
 refine WI.regB tT [0,1] ?_
 refine oS ?_
 refine oN ?_
 refine nz ?_
 refine WI.loop (fun φ os=> ∃(r:Tx),φ= [(0,.x (.str r)),(1,.x (.int .u8 32))]∧os= []∧r.length≤s.length∧trR s=trR r) ((fun φ _=>match get φ 0 with| .x (.str r)=>r.length|_=>0)) ?_ (fun φ os hI=> ?_)
 ·exact⟨s,rfl,rfl,by omega,rfl⟩
 ·obtain⟨r,rfl,rfl,hr,he⟩:=hI
  have e1:((r.length:Int)-1).toNat=r.length-1:=by omega
  have uu:=ξn uu e1
  refine nz ?_
  refine WI.regB tT [0,1,16] ?_
  refine oS ?_
  iterate 2 refine oG (hok:=by first|exact se|(clear uu;grind)|exact sd) ?_
  refine oS ?_
  iterate 8 refine oG (hok:=by first|exact se|(clear uu;grind)|exact sd) ?_
  refine oN ?_
  refine nz ?_
  refine cd (fun h0=> ?_) (fun h0=> ?_)
  ·have h0p:0<r.length:=by omega
   have h0c:r.getD (r.length-1) 0=32:=c32' (by omega)
   refine WI.regB tT [0,1] ?_
   iterate 2 refine oS ?_
   iterate 3 refine oG (hok:=by first|exact se|(clear uu;grind)|exact sd) ?_
   refine oS ?_
   refine oN ?_
   refine nz ?_
   exact⟨⟨r.take (r.length-1),rfl,rfl,by simp;omega,by rw[he,trR_step r h0p h0c]⟩,by show(r.take (r.length-1)).length<r.length;rw[List.length_take];omega⟩
  ·have h0n: ¬(0<r.length∧r.getD (r.length-1) 0=32):=fun hh=>by
    have h2:((r.getD (r.length-1) 0).toNat:Int)=32:=by rw[hh.2];rfl
    have h1:=hh.1
    omega
   refine WI.regB tT [4] ?_
   iterate 2 refine oS ?_
   refine oN ?_
   refine nz ?_
   refine lf ?_
   rw[he,trR_stop r h0n]
def trimRBG:List D→Option (Bool×D)
 | [.x (.str s),.x (.int .u8 32)]=>some (decide (s.length≤1000000),.x (.str (trR s)))
 |_=>none
theorem trimRBG_ok: ∀args r,trimRBG args=some (true,r)→PCalls Tryd.prog 77 args r:=by
 intro args r h
 unfold trimRBG at h
 split at h
 ·rename_i s
  simp only[ξI,ξP,ξa,ξe,true_and]at h
  obtain⟨h1,rfl⟩:=h
  exact(trimRB_c s h1)
 ·cases h
def tabDn3:Tabs:=addQ (addQ (noTabs) 76 trimLBG) 77 trimRBG
theorem tabDn3_ok:SsOk Tryd.prog tabDn3:=addQ_ok (addQ_ok (noTabs_ok) (G_enters G_ok (p:=i76) rfl) trimLBG_ok) (G_enters G_ok (p:=i77) rfl) trimRBG_ok
theorem tabDn3_q76 (a:List D):tabDn3.q 76 a=trimLBG a:=rfl
theorem tabDn3_q77 (a:List D):tabDn3.q 77 a=trimRBG a:=rfl
theorem tabDn3_r (f:FuncId) (a:List D) (o:List Ob):tabDn3.r f a o=none:=rfl
theorem tabDn3_k (f:FuncId) (a:List D) (o:List Ob):tabDn3.k f a o=none:=rfl
def trim (s:Tx):Tx:=trL (trR s)
theorem trim_c (s:Tx) (hl:s.length≤1000000):PCalls Tryd.prog 54 [.x (.str s),.x (.str [32])] (.x (.str (trim s))):=by
 have hrl:=trR_len s
 refine FCalls.pure (fcallsG (fz:=true) G_ok (p:=i54) rfl _ (ξ rfl) _ (fun C0 E0=> ?_)) rfl
 dsimp only[i54,qt,qi,qs,qb,qm,qa,qh,qj,qT,qF,qe,ql,qL,qf,q2,q3,q8,qz,qp,qP,qc,qk,qx,qy,qo,qr,qC,argsφ]
 have uu:=ξn @trimLBG.eq_1 (ξn @trimLBG.eq_2 (ξn @trimRBG.eq_1 (ξn @trimRBG.eq_2 (ξn @tabDn3_r (ξn @tabDn3_k (ξn @tabDn3_q76 (@tabDn3_q77)))))))
 have tT:=tabDn3_ok
 refine nz ?_
 refine rg tT [0,1] ?_
 refine rg tT [0,1,12] ?_
 refine cd (fun h0=> ?_) (fun h0=> ?_)
 ·refine rg tT [4] ?_
  refine lf ?_
  rw[show s= [] by simpa using h0];rfl
 ·refine rg tT [0,1,21] ?_
  refine ct (fun h1=> ?_) (fun h1=> ?_)
  ·refine WI.dregB tT [4] ?_
   iterate 2 refine dFS ?_
   refine dFG ?_
   refine dAC ?_
   refine dFS ?_
   refine dFG ?_
   refine dAC ?_
   refine dFS ?_
   refine dN ?_
   refine nz ?_
   refine lf ?_
   first|rfl|exact⟨rfl,rfl⟩|trivial
  ·simp at h1
def trimG:List D→Option (Bool×D)
 | [.x (.str s),.x (.str [32])]=>some (decide (s.length≤1000000),.x (.str (trim s)))
 |_=>none
theorem trimG_ok: ∀args r,trimG args=some (true,r)→PCalls Tryd.prog 54 args r:=by
 intro args r h
 unfold trimG at h
 split at h
 ·rename_i s
  simp only[ξI,ξP,ξa,ξe,true_and]at h
  obtain⟨h1,rfl⟩:=h
  exact(trim_c s h1)
 ·cases h
theorem hasP_c (s p:List UInt8):PCalls Tryd.prog 55 [.x (.str s),.x (.str p)] (.x (.bool (Lib.hasPrefix s p))):=by
 intro w st vs hst hvl
 obtain⟨hsz,hv⟩:=hvl
 obtain⟨v0,v1,rfl⟩: ∃v0 v1,vs= #[v0,v1]:=by
  obtain⟨vl⟩:=vs
  match vl,hsz with
  | [a,b],_=>exact⟨a,b,rfl⟩
 have h0:=hv 0 _ v0 rfl rfl
 have h1:=hv 1 _ v1 rfl rfl
 cases h0 with
 |x h0=>
 cases h1 with
 |x h1=>
 cases h1 with
 |str _=>
 cases h0 with
 |str _=>
 refine(Tryd.strings_HasPrefix (bstr s) (bstr p) w).mono ?_
 rintro e w' ⟨rfl,rfl⟩
 refine⟨_,st,rfl,Kept.refl _ _,fun _ _ h=>h,fun _ _ h=> .inl h,?_⟩
 have e1:(bstr s).data.toList=s:=by simp[bstr]
 have e2:(bstr p).data.toList=p:=by simp[bstr]
 rw[e1,e2]
 exact .x (.bool _)
theorem hasP_enters:Go.Ab.Enters Tryd.prog 55:=enters_of Tryd.func55 (by kernel_rfl) rfl
def hasPG:List D→Option (Bool×D)
 | [.x (.str s),.x (.str p)]=>some (true,.x (.bool (Lib.hasPrefix s p)))
 |_=>none
theorem hasPG_ok: ∀args r,hasPG args=some (true,r)→PCalls Tryd.prog 55 args r:=by
 intro args r h
 unfold hasPG at h
 split at h
 ·rename_i s p
  simp only[ξI,ξP,ξa,ξe,true_and]at h
  obtain rfl:=h
  exact(hasP_c s p)
 ·cases h
abbrev IsB (B b:Nat) (bs:List Value) (w:World):Prop:=Lib.IsBuilder 81 5 B b bs w
theorem info_Bld:(Tryd.prog.info? 81).map (·.size)=some 2:=by kernel_rfl
theorem info_u8B:(Tryd.prog.info? 5).map (fun i=>(i.zero,i.size,i.bytes))=some (some (.int .u8 0),1,1):=by kernel_rfl
set_option maxHeartbeats 1000000 in
set_option maxRecDepth 100000 in
theorem copyCheck_used (b:Nat) (w:World) (h0:w.cell? ⟨b,0,none⟩=some (.pointer (some ⟨b,0,none⟩))):
  Calls Tryd.prog 74 #[.pointer (some ⟨b,0,none⟩)] w fun e w'=>e= .returned (.tuple #[])∧w'=w:=by
 obtain⟨j,hj,hjs⟩:=ξM info_Bld
 go_enter Tryd.func74,Tryd.ntmps74
 go_wp2_with fail
 rw[Lib.run_neq_ptr_same w _ Tryd.underlying79 hj]
 go_wp2_with fail
 go_end0
 exact⟨rfl,rfl⟩
set_option maxHeartbeats 1000000 in
set_option maxRecDepth 100000 in
theorem copyCheck_fresh (b:Nat) (w:World) (h0:w.cell? ⟨b,0,none⟩=some (.pointer none)) (hsh:w.shape? b=some (81,2)) (hfz:w.frozen? ⟨b,0,none⟩=false):
  Calls Tryd.prog 74 #[.pointer (some ⟨b,0,none⟩)] w fun e w'=>e= .returned (.tuple #[])∧w'=w.setCell ⟨b,0,none⟩ (.pointer (some ⟨b,0,none⟩)):=by
 obtain⟨j,hj,hjs⟩:=ξM info_Bld
 go_enter Tryd.func74,Tryd.ntmps74
 go_wp2_with fail
 rw[Lib.run_to_unsafe w ⟨b,0,none⟩ Tryd.underlying79 Tryd.underlying120 hj (by rw[hjs];decide) hsh (Nat.zero_lt_succ 1)]
 simp only[Result.andThen]
 rw[Oper.upon_value]
 go_wp2_with fail
 rw[run_callFunc_extern Tryd.func96 (by kernel_rfl) (by kernel_rfl) (by kernel_rfl) (e:=Extern.AbiNoEscape.same) (by kernel_rfl)]
 rw[Lib.run_noEscape]
 simp only[Result.andThen]
 rw[Oper.upon_value]
 go_wp2_with fail
 rw[Lib.run_from_unsafe w ⟨b,0,none⟩ Tryd.underlying120 Tryd.underlying79 hj hsh (by kernel_rfl)]
 simp only[Result.andThen]
 rw[Oper.upon_value]
 go_wp2_with fail
 go_end0
 exact⟨rfl,rfl⟩
theorem copyCheck_b (B b:Nat) (bs:List Value) (w:World) (h:IsB B b bs w):
  Calls Tryd.prog 74 #[.pointer (some ⟨b,0,none⟩)] w fun e w'=>e= .returned (.tuple #[])∧(Lib.BuilderAt 81 5 B b (.pointer (some ⟨b,0,none⟩)) bs w'∧Below B w w'):=by
 rcases h with h|h
 ·refine(copyCheck_fresh b w h.cell0 h.shape h.frozen0).mono ?_
  rintro e w' ⟨rfl,rfl⟩
  exact⟨rfl,h.used _,(Below.refl B w).setCell (p:=⟨b,0,none⟩) h.1 _⟩
 ·refine(copyCheck_used b w h.cell0).mono ?_
  rintro e w' ⟨rfl,rfl⟩
  exact⟨rfl,h,Below.refl B _⟩
set_option maxHeartbeats 2000000 in
set_option maxRecDepth 100000 in
theorem writeByte_b (B b:Nat) (bs:List Value) (c:Int) (w:World) (h:IsB B b bs w) (hlen:bs.length+1≤140737488355328) (hBw:B≤w.heap.size):
  Calls Tryd.prog 56 #[.pointer (some ⟨b,0,none⟩),.int .u8 c] w fun e w'=>e= .returned .nilIface∧(Lib.BuilderAt 81 5 B b (.pointer (some ⟨b,0,none⟩)) (bs++ [.int .u8 c]) w'∧Below B w w'):=by
 obtain⟨i0,hi,hz0,hz1,hz2⟩:=info_parts info_u8B
 go_enter Tryd.func56,Tryd.ntmps56
 go_wp2_with (go_at_call 74;refine(copyCheck_b B b bs _ h).mono ?_)
 rintro e w1 ⟨rfl,h1,hb1⟩
 obtain⟨hB,v,hbk,hown,hne⟩:=h1
 have c0:w1.cell? ⟨b,0,none⟩=some (.pointer (some ⟨b,0,none⟩)):=by rw[Lib.cell_of_heap hbk];rfl
 have c1:w1.cell? ⟨b,1,none⟩=some v:=by rw[Lib.cell_of_heap hbk];rfl
 go_wp2_with (at_builtin;refine wpList_append_own _ rfl _ _ 70 rfl B 5 i0 (.int .u8 0) 1 1 Tryd.underlying70 hi hz0 hz1 hz2 rfl (by decide) _ _ _ rfl (hown.alloc _) ⟨w1.heap.size,0,none⟩ 1 1 [.int .u8 c] rfl rfl ?c1 ?c2 ?c3 ?c4 ?c5 ?_)
 case c1=>
  intro j u hj
  match j,hj with
  |0,hj=>simp at hj;subst hj;simp[Addr.add]
 case c2=>intro u hu;simp at hu;subst hu;rfl
 case c3=>unfold maxLen;omega
 case c4=>omega
 case c5=>have:=hb1.size;simp;omega
 intro v' w2 hown' hgrow _
 have hlt:b<w1.heap.size:=by
  rcases Nat.lt_or_ge b w1.heap.size with h'|h'
  ·exact h'
  ·simp[Array.getElem?_eq_none h']at hbk
 have hb2:w2.heap[b]? =some (.cells #[.pointer (some ⟨b,0,none⟩),v] 81 (0,0)):=by
  rw[hgrow.block b (by simp;omega) (fun e=>hne e.symm),Lib.alloc_old w1 _ b hlt]
  exact hbk
 have d0:w2.cell? ⟨b,0,none⟩=some (.pointer (some ⟨b,0,none⟩)):=by rw[Lib.cell_of_heap hb2];rfl
 have d1:w2.cell? ⟨b,1,none⟩=some v:=by rw[Lib.cell_of_heap hb2];rfl
 have f1:w2.frozen? ⟨b,1,none⟩=false:=Lib.frozen_of_heap hb2 1
 obtain⟨g,cap,rfl⟩: ∃g cap,v'= .slice (some ⟨g,0,none⟩) (bs.length+1) cap:=by
  rcases hown'.2 with⟨_,h0⟩|⟨g,cap,cur,hv,_⟩
  ·omega
  ·exact⟨g,cap,hv⟩
 go_wp2_with fail
 go_ret
 refine⟨rfl,?_,?_⟩
 ·exact Lib.BuilderAt.put (T:=81) (e:=5) hB hb2 (bs':=bs++ [.int .u8 c]) (by simpa using hown') (by decide)
 ·exact((hb1.alloc (by have:=hb1.size;omega) _).grown hgrow (by have:=hb1.size;simp;omega) (fun k hk=>(hown.lt k hk).1)).setCell (p:=⟨b,1,none⟩) hB _
def b64L:List UInt8:= [65,66,67,68,69,70,71,72,73,74,75,76,77,78,79,80,81,82,83,84,85,86,87,88,89,90,97,98,99,100,101,102,103,104,105,106,107,108,109,110,111,112,113,114,115,116,117,118,119,120,121,122,48,49,50,51,52,53,54,55,56,57,43,47]
def ltr (n:Nat):UInt8:=b64L.getD n 0
def stepE (x:List UInt8×Nat×Nat) (c:UInt8):List UInt8×Nat×Nat:=
 let v:=x.2.1*256+c.toNat
 if x.2.2=0 then(x.1++ [ltr (v/4 % 64)],v % 4,2)
 else if x.2.2=2 then(x.1++ [ltr (v/16 % 64)],v % 16,4)
 else((x.1++ [ltr (v/64 % 64)])++ [ltr (v % 64)],0,0)
def runE (s:List UInt8):List UInt8×Nat×Nat:=s.foldl stepE ([],0,0)
theorem runE_take (s:List UInt8) (j:Nat) (h:j<s.length):runE (s.take (j+1))=stepE (runE (s.take j)) s[j]:=by
 unfold runE;rw[List.take_succ_eq_append_getElem h,List.foldl_append];rfl
theorem runE_ok (s:List UInt8): ∀j,j≤s.length→((runE (s.take j)).2.2=0∧(runE (s.take j)).2.1=0∧(runE (s.take j)).1.length % 4=0∨(runE (s.take j)).2.2=2∧(runE (s.take j)).2.1<4∧(runE (s.take j)).1.length % 4=1∨(runE (s.take j)).2.2=4∧(runE (s.take j)).2.1<16∧(runE (s.take j)).1.length % 4=2)∧(runE (s.take j)).1.length≤2*j
 |0,_=>by simp[runE]
 |j+1,h=>by
  obtain⟨h1,h2⟩:=runE_ok s j (by omega)
  rw[runE_take s j (by omega)]
  generalize runE (s.take j)=x at h1 h2⊢
  obtain⟨o,b,m⟩:=x
  have hc:=UInt8.toNat_lt s[j]
  simp only at h1 h2⊢
  unfold stepE
  simp only
  rcases h1 with h1|h1|h1<;>obtain⟨rfl,h1,h3⟩:=h1<;>simp<;>omega
def vInt:Value→Int
 | .int _ n=>n
 |_=>0
abbrev byV (c:UInt8):Value:= .int .u8 c.toNat
theorem or8N: ∀(b:Fin 16) (c:Fin 256),bits BinOp.or IntKind.i64 (wrap64 ((b.val:Int)*256)) (c.val:Int)=((b.val*256+c.val:Nat):Int):=by decide+kernel
theorem or8 (b c:Nat) (hb:b<16) (hc:c<256):bits BinOp.or IntKind.i64 (wrap64 ((b:Int)*256)) (c:Int)=((b*256+c:Nat):Int):=or8N ⟨b,hb⟩ ⟨c,hc⟩
theorem or8w (b c v:Nat) (hb:b<16) (hc:c<256) (hv:v=b*256+c):bits BinOp.or IntKind.i64 (wrap64 ((b:Int)*256)) (c:Int)=(v:Int):=hv▸or8 b c hb hc
theorem or8v (b c v:Nat) (hb:b<16) (hc:c<256) (hv:v=b*256+c):bits BinOp.or IntKind.i64 ((b:Int)*256) (c:Int)=(v:Int):=by
 have h:=or8w b c v hb hc hv
 have e:wrap64 ((b:Int)*256)=(b:Int)*256:=by unfold wrap64;omega
 rwa [e]at h
theorem vlt (b c v:Nat) (hb:b<16) (hc:c<256) (hv:v=b*256+c):v<4096:=by omega
theorem or80 (c:Nat) (hc:c<256):bits BinOp.or IntKind.i64 0 (c:Int)=(c:Int):=by
 have:=or8 0 c (by omega) hc
 simpa[wrap64]using this
theorem andN (x n:Nat) (hx:x<4294967296) (hn:n≤8):bits BinOp.and IntKind.i64 (x:Int) ((2^n-1:Nat):Int)=((x % 2^n:Nat):Int):=by
 have h1:2^n≤2^8:=Nat.pow_le_pow_right (by omega) hn
 have h2:x % 2^n≤x:=Nat.mod_le _ _
 unfold bits
 simp only[BitVec.toNat_and]
 have e1:(BitVec.ofInt IntKind.i64.bits (x:Int)).toNat=x:=by
  rw[BitVec.ofInt_natCast,BitVec.toNat_ofNat];exact Nat.mod_eq_of_lt (by show x<2^64;omega)
 have e2:(BitVec.ofInt IntKind.i64.bits ((2^n-1:Nat):Int)).toNat=2^n-1:=by
  rw[BitVec.ofInt_natCast,BitVec.toNat_ofNat];exact Nat.mod_eq_of_lt (by show 2^n-1<2^64;omega)
 rw[e1,e2,Nat.and_two_pow_sub_one_eq_mod,IntWalk.i64_in _ (by omega)]
theorem a63 (x:Nat) (h:x<4096):bits BinOp.and IntKind.i64 (x:Int) 63=((x % 64:Nat):Int):=andN x 6 (by omega) (by omega)
theorem a15 (x:Nat) (h:x<4096):bits BinOp.and IntKind.i64 (x:Int) 15=((x % 16:Nat):Int):=andN x 4 (by omega) (by omega)
theorem a3 (x:Nat) (h:x<4096):bits BinOp.and IntKind.i64 (x:Int) 3=((x % 4:Nat):Int):=andN x 2 (by omega) (by omega)
theorem a0 (x:Nat) (h:x<4096):bits BinOp.and IntKind.i64 (x:Int) 0=0:=by
 have:=andN x 0 (by omega) (by omega)
 rw[show x % 2^0=0 from Nat.mod_one x]at this;exact this
theorem bt_ltrN: ∀x:Fin 64,bt (bstr b64L) x.val=((ltr x.val).toNat:Int):=by decide+kernel
theorem m64 (x:Nat):x % 64<64:=Nat.mod_lt _ (by decide)
theorem bt_ltr (x:Nat) (h:x<64):bt (bstr b64L) x=((ltr x).toNat:Int):=bt_ltrN ⟨x,h⟩
def finE (x:List UInt8×Nat×Nat):List UInt8:=
 if x.2.2=0 then x.1 else if x.2.2=2 then((x.1++ [ltr (x.2.1*16)])++ [61])++ [61]else(x.1++ [ltr (x.2.1*4)])++ [61]
def putS (s:List UInt8):List UInt8:=finE (runE s)
theorem step0 (o:List UInt8) (c:UInt8):stepE (o,0,0) c=(o++ [ltr (c.toNat/4 % 64)],c.toNat % 4,2):=by
 unfold stepE;simp only[if_true,Nat.zero_mul,Nat.zero_add]
theorem step2 (o:List UInt8) (b v:Nat) (c:UInt8) (hv:v=b*256+c.toNat):stepE (o,b,2) c=(o++ [ltr (v/16 % 64)],v % 16,4):=by subst hv;unfold stepE;rfl
theorem step4 (o:List UInt8) (b v:Nat) (c:UInt8) (hv:v=b*256+c.toNat):stepE (o,b,4) c=((o++ [ltr (v/64 % 64)])++ [ltr (v % 64)],0,0):=by subst hv;unfold stepE;rfl
theorem q4 (v:Nat) (hvl:v<4096):bits BinOp.and IntKind.i64 ((v:Int)/4) 63=((v/4 % 64:Nat):Int):=by exact_mod_cast a63 (v/4) (by omega)
theorem q16 (v:Nat) (hvl:v<4096):bits BinOp.and IntKind.i64 ((v:Int)/16) 63=((v/16 % 64:Nat):Int):=by exact_mod_cast a63 (v/16) (by omega)
theorem q64 (v:Nat) (hvl:v<4096):bits BinOp.and IntKind.i64 ((v:Int)/64) 63=((v/64 % 64:Nat):Int):=by exact_mod_cast a63 (v/64) (by omega)
theorem q1 (v:Nat) (hvl:v<4096):bits BinOp.and IntKind.i64 ((v:Int)/1) 63=((v % 64:Nat):Int):=by rw[Int.ediv_one];exact a63 v hvl
theorem e1L (o:List UInt8) (x:UInt8) (r:Nat) (h:o.length % 4=r):(o++ [x]).length % 4=(r+1) % 4:=by simp;omega
theorem clL (o l:List UInt8) (h:(o.map byV).length+10≤140737488355328) (hl:l.length≤o.length+5):(l.map byV).length+1≤140737488355328:=by simp at h⊢;omega
theorem b16 (b:Nat) (h:b<4):b*16<64:=by omega
theorem b4 (b:Nat) (h:b<16):b*4<64:=by omega
theorem tm4 (n r:Nat) (h:n % 4=r):(n:Int).tmod 4=(r:Int):=by
 rw[Int.tmod_eq_emod_of_nonneg (by omega)];omega
theorem len_b (B b:Nat) (bs:List Value) (w:World) (h:IsB B b bs w) {n:Nat} (hn:RowKit.Hid (bs.length=n)):
  Calls Tryd.prog 57 #[.pointer (some ⟨b,0,none⟩)] w fun e w'=>e= .returned (.int .i64 n)∧w'=w:=by
 have hn:bs.length=n:=hn
 subst hn;exact Tryd.Builder_Len B b bs w h
set_option maxHeartbeats 8000000 in
set_option maxRecDepth 100000 in
theorem put_walk (s:List UInt8) (w:World) (hl:s.length≤1000000):
  Calls Tryd.prog 34 #[.string (bstr s)] w fun e w'=>e= .returned (.string (bstr (putS s)))∧Below w.heap.size w w':=by
 go_enter Tryd.func34,Tryd.ntmps34
 go_wp2_with fail
 go_loopw [4,5,9] (fun bi ma i wr=> ∃(k:Nat),k≤s.length∧i= .int .i64 k∧bi= .int .i64 (runE (s.take k)).2.1∧ma= .int .i64 (runE (s.take k)).2.2∧IsB w.heap.size w.heap.size ((runE (s.take k)).1.map byV) wr∧Below w.heap.size w wr) (fun _ _ i _=>s.length-(vInt i).toNat)
 case atStart=>
  refine⟨0,by omega,rfl,rfl,rfl,.inl ⟨Nat.le_refl _,.slice none 0 0,heap_alloc_new _ _,World.ownsRow_nil _ _ _ _,by simp[Value.ownBlock]⟩,(Below.refl _ w).alloc (Nat.le_refl _) _⟩
 case round=>
  obtain⟨k,hk,rfl,rfl,rfl,hB,hw⟩:=hrel
  by_cases hlt:k<s.length
  ·obtain⟨hk1,hk2⟩:=runE_ok s k hk
   have hst:=runE_take s k hlt
   generalize runE (s.take k)=x at hk1 hk2 hB hst⊢
   obtain⟨o,b,m⟩:=x
   simp only at hk1 hk2 hB
   have hbk:(bstr s)[k]'(by rw[bstr_size];exact hlt)=s[k]:=by simp[bstr];rfl
   have hc:=UInt8.toNat_lt s[k]
   generalize s[k]=c at hbk hc hst
   have hol:(o.map byV).length+1≤140737488355328:=by simp at hk2⊢;omega
   have hwz:=hw.size
   rcases hk1 with⟨rfl,rfl,hm4⟩|⟨rfl,hb,hm4⟩|⟨rfl,hb,hm4⟩
   ·have e8:=or80 c.toNat hc
    have hvl:c.toNat<4096:=by omega
    have e63:=q4 c.toNat (by omega)
    have ebt:=bt_ltr (c.toNat/4 % 64) (m64 _)
    have emk:=a3 c.toNat hvl
    have hs:=step0 o c
    rw[hs]at hst
    go_wp2_with fail
    refine wp_loop_rounds 2 ?_
    rw[rounds_succ]
    go_wp2_with (first|((with_reducible refine wp_index_str (c.toNat/4 % 64) 9 _ _ rfl rfl Tryd.underlying9 _ (bstr b64L) rfl rfl ?_ ?_);focus(rw[bstr_size];exact m64 _))|(go_at_call 56;refine(writeByte_b _ _ _ _ _ hB ?cl ?cb).mono ?_))
    case cl=>exact hol
    case cb=>exact hwz
    rintro e w1 ⟨rfl,hB1,hw1⟩
    go_wp2_with fail
    rw[rounds_succ]
    go_wp2_with fail
    go_roundw
    case rel=>
     refine⟨k+1,by omega,by go_num,?_,?_,?_,hw.trans hw1⟩
     ·rw[hst];first|rfl|simp
     ·rw[hst];rfl
     ·rw[hst];exact .inr (by simpa using hB1)
    case measure=>simp[vInt];omega
   ·obtain⟨v,hv⟩: ∃v,v=b*256+c.toNat:=⟨_,rfl⟩
    have hb16:b<16:=Nat.lt_of_lt_of_le hb (by decide)
    have e8:=or8w b c.toNat v hb16 hc hv
    have e8v:=or8v b c.toNat v hb16 hc hv
    have hvl:v<4096:=vlt b c.toNat v hb16 hc hv
    have e63:=q16 v hvl
    have ebt:=bt_ltr (v/16 % 64) (m64 _)
    have emk:=a15 v hvl
    have hs:=step2 o b v c hv
    rw[hs]at hst
    clear hs hv
    go_wp2_with fail
    refine wp_loop_rounds 2 ?_
    rw[rounds_succ]
    go_wp2_with (first|((with_reducible refine wp_index_str (v/16 % 64) 9 _ _ rfl rfl Tryd.underlying9 _ (bstr b64L) rfl rfl ?_ ?_);focus(rw[bstr_size];exact m64 _))|(go_at_call 56;refine(writeByte_b _ _ _ _ _ hB ?cl ?cb).mono ?_))
    case cl=>exact hol
    case cb=>exact hwz
    rintro e w1 ⟨rfl,hB1,hw1⟩
    go_wp2_with fail
    rw[rounds_succ]
    go_wp2_with fail
    go_roundw
    case rel=>
     refine⟨k+1,by omega,by go_num,?_,?_,?_,hw.trans hw1⟩
     ·rw[hst];first|rfl|simp
     ·rw[hst];rfl
     ·rw[hst];exact .inr (by simpa using hB1)
    case measure=>simp[vInt];omega
   ·obtain⟨v,hv⟩: ∃v,v=b*256+c.toNat:=⟨_,rfl⟩
    have hb16:b<16:=Nat.lt_of_lt_of_le hb (by decide)
    have e8:=or8w b c.toNat v hb16 hc hv
    have e8v:=or8v b c.toNat v hb16 hc hv
    have hvl:v<4096:=vlt b c.toNat v hb16 hc hv
    have e63:=q64 v hvl
    have ebt:=bt_ltr (v/64 % 64) (m64 _)
    have e63b:=a63 v hvl
    have e63c:=q1 v hvl
    have ebt2:=bt_ltr (v % 64) (m64 _)
    have emk:=a0 v hvl
    have hs:=step4 o b v c hv
    rw[hs]at hst
    clear hs hv
    go_wp2_with fail
    refine wp_loop_rounds 3 ?_
    rw[rounds_succ]
    go_wp2_with (first|((with_reducible refine wp_index_str (v/64 % 64) 9 _ _ rfl rfl Tryd.underlying9 _ (bstr b64L) rfl rfl ?_ ?_);focus(rw[bstr_size];exact m64 _))|(go_at_call 56;refine(writeByte_b _ _ _ _ _ hB ?cl ?cb).mono ?_))
    case cl=>exact hol
    case cb=>exact hwz
    rintro e w1 ⟨rfl,hB1,hw1⟩
    go_wp2_with fail
    rw[rounds_succ]
    go_wp2_with (first|((with_reducible refine wp_index_str (v % 64) 9 _ _ rfl rfl Tryd.underlying9 _ (bstr b64L) rfl rfl ?_ ?_);focus(rw[bstr_size];exact m64 _))|(go_at_call 56;refine(writeByte_b _ _ _ _ _ (.inr hB1) ?cl ?cb).mono ?_))
    case cl=>simp at hk2⊢;omega
    case cb=>have:=hw1.size;omega
    rintro e w2 ⟨rfl,hB2,hw2⟩
    go_wp2_with fail
    rw[rounds_succ]
    go_wp2_with fail
    go_roundw
    case rel=>
     refine⟨k+1,by omega,by go_num,?_,?_,?_,(hw.trans hw1).trans hw2⟩
     ·rw[hst];first|rfl|simp
     ·rw[hst];rfl
     ·rw[hst];exact .inr (by simpa using hB2)
    case measure=>simp[vInt];omega
  ·have hks:k=s.length:=by omega
   subst hks
   rw[List.take_length]at hB⊢
   obtain⟨hk1,hk2⟩:=runE_ok s s.length hk
   rw[List.take_length]at hk1 hk2
   have hP:Hid (putS s=finE (runE s)):=Lib.hid rfl
   generalize runE s=x at hk1 hk2 hB hP⊢
   obtain⟨o,b,m⟩:=x
   simp only at hk1 hk2 hB
   have hol:(o.map byV).length+10≤140737488355328:=by simp at hk2⊢;omega
   have hwz:=hw.size
   rcases hk1 with⟨rfl,rfl,hm4⟩|⟨rfl,hb,hm4⟩|⟨rfl,hb,hm4⟩
   ·have hn0:(o.map byV).length=o.length:=List.length_map _
    have hn1:(o.map byV).length=o.length:=List.length_map _
    obtain⟨n0,hq0⟩: ∃n,o.length=n:=⟨_,rfl⟩
    have ht0:((n0:Int).tmod 4)=0:=tm4 _ 0 (by rw[←hq0];exact hm4)
    rw[hq0]at hn1
    have Hn0:=Lib.hid hn1
    clear hn1 hq0
    clear hm4 hn0
    go_wp2_with fail
    refine wp_loop_rounds 1 ?_
    rw[rounds_succ]
    go_wp2_with (go_at_call 57;refine(len_b _ _ _ _ hB Hn0).mono ?_)
    rintro e wl0 ⟨rfl,rfl⟩
    go_wp2_with (go_at_call 53;refine(Tryd.Builder_String_any _ _ (o) _ hB ?cb).mono ?_)
    case cb=>exact hwz
    rintro e ws ⟨rfl,hws⟩
    go_wp2_with fail
    go_ret
    exact⟨by rw[show putS s=o from hP];first|rfl|(simp[bstr];done),hw.trans hws⟩
   ·have hn0:(o.map byV).length=o.length:=List.length_map _
    have hn1:((o++ [ltr (b*16)]).map byV).length=(o++ [ltr (b*16)]).length:=List.length_map _
    obtain⟨n0,hq0⟩: ∃n,(o++ [ltr (b*16)]).length=n:=⟨_,rfl⟩
    have ht0:((n0:Int).tmod 4)=2:=tm4 _ 2 (by rw[←hq0];exact(e1L _ _ _ hm4))
    rw[hq0]at hn1
    have Hn0:=Lib.hid hn1
    clear hn1 hq0
    have hn2:(((o++ [ltr (b*16)])++ [61]).map byV).length=((o++ [ltr (b*16)])++ [61]).length:=List.length_map _
    obtain⟨n1,hq1⟩: ∃n,((o++ [ltr (b*16)])++ [61]).length=n:=⟨_,rfl⟩
    have ht1:((n1:Int).tmod 4)=3:=tm4 _ 3 (by rw[←hq1];exact(e1L _ _ _ (e1L _ _ _ hm4)))
    rw[hq1]at hn2
    have Hn1:=Lib.hid hn2
    clear hn2 hq1
    have hn3:((((o++ [ltr (b*16)])++ [61])++ [61]).map byV).length=(((o++ [ltr (b*16)])++ [61])++ [61]).length:=List.length_map _
    obtain⟨n2,hq2⟩: ∃n,(((o++ [ltr (b*16)])++ [61])++ [61]).length=n:=⟨_,rfl⟩
    have ht2:((n2:Int).tmod 4)=0:=tm4 _ 0 (by rw[←hq2];exact(e1L _ _ _ (e1L _ _ _ (e1L _ _ _ hm4))))
    rw[hq2]at hn3
    have Hn2:=Lib.hid hn3
    clear hn3 hq2
    have ebt:=bt_ltr (b*16) (b16 _ hb)
    clear hm4 hn0
    go_wp2_with (first|((with_reducible refine wp_index_str (b*16) 9 _ _ rfl rfl Tryd.underlying9 _ (bstr b64L) rfl rfl ?_ ?_);focus(rw[bstr_size];first|exact b16 _ hb|exact b4 _ hb))|(go_at_call 56;refine(writeByte_b _ _ (o.map byV) _ _ hB ?cl ?cb).mono ?_))
    case cl=>exact clL o o hol (by simp)
    case cb=>exact hwz
    rintro e w0 ⟨rfl,hB0,hw0⟩
    have hB0:IsB w.heap.size w.heap.size ((o++ [ltr (b*16)]).map byV) w0:= .inr (by simpa using hB0)
    have hw0:=hw.trans hw0
    have hz0:=hw0.size
    go_wp2_with fail
    refine wp_loop_rounds 3 ?_
    rw[rounds_succ]
    go_wp2_with (go_at_call 57;refine(len_b _ _ _ _ hB0 Hn0).mono ?_)
    rintro e wl0 ⟨rfl,rfl⟩
    go_wp2_with (go_at_call 56;refine(writeByte_b _ _ ((o++ [ltr (b*16)]).map byV) _ _ hB0 ?cl ?cb).mono ?_)
    case cl=>exact clL o _ hol (by simp)
    case cb=>exact hz0
    rintro e wp0 ⟨rfl,hC0,hv0⟩
    have hC0:IsB w.heap.size w.heap.size (((o++ [ltr (b*16)])++ [61]).map byV) wp0:= .inr (by rw[List.map_append];exact hC0)
    have hv0:=hw0.trans hv0
    have hy0:=hv0.size
    go_wp2_with fail
    rw[rounds_succ]
    go_wp2_with (go_at_call 57;refine(len_b _ _ _ _ hC0 Hn1).mono ?_)
    rintro e wl1 ⟨rfl,rfl⟩
    go_wp2_with (go_at_call 56;refine(writeByte_b _ _ (((o++ [ltr (b*16)])++ [61]).map byV) _ _ hC0 ?cl ?cb).mono ?_)
    case cl=>exact clL o _ hol (by simp)
    case cb=>exact hy0
    rintro e wp1 ⟨rfl,hC1,hv1⟩
    have hC1:IsB w.heap.size w.heap.size ((((o++ [ltr (b*16)])++ [61])++ [61]).map byV) wp1:= .inr (by rw[List.map_append];exact hC1)
    have hv1:=hv0.trans hv1
    have hy1:=hv1.size
    go_wp2_with fail
    rw[rounds_succ]
    go_wp2_with (go_at_call 57;refine(len_b _ _ _ _ hC1 Hn2).mono ?_)
    rintro e wl2 ⟨rfl,rfl⟩
    go_wp2_with (go_at_call 53;refine(Tryd.Builder_String_any _ _ ((((o++ [ltr (b*16)])++ [61])++ [61])) _ hC1 ?cb).mono ?_)
    case cb=>exact hy1
    rintro e ws ⟨rfl,hws⟩
    go_wp2_with fail
    go_ret
    exact⟨by rw[show putS s=(((o++ [ltr (b*16)])++ [61])++ [61])from hP];first|rfl|(simp[bstr];done),hv1.trans hws⟩
   ·have hn0:(o.map byV).length=o.length:=List.length_map _
    have hn1:((o++ [ltr (b*4)]).map byV).length=(o++ [ltr (b*4)]).length:=List.length_map _
    obtain⟨n0,hq0⟩: ∃n,(o++ [ltr (b*4)]).length=n:=⟨_,rfl⟩
    have ht0:((n0:Int).tmod 4)=3:=tm4 _ 3 (by rw[←hq0];exact(e1L _ _ _ hm4))
    rw[hq0]at hn1
    have Hn0:=Lib.hid hn1
    clear hn1 hq0
    have hn2:(((o++ [ltr (b*4)])++ [61]).map byV).length=((o++ [ltr (b*4)])++ [61]).length:=List.length_map _
    obtain⟨n1,hq1⟩: ∃n,((o++ [ltr (b*4)])++ [61]).length=n:=⟨_,rfl⟩
    have ht1:((n1:Int).tmod 4)=0:=tm4 _ 0 (by rw[←hq1];exact(e1L _ _ _ (e1L _ _ _ hm4)))
    rw[hq1]at hn2
    have Hn1:=Lib.hid hn2
    clear hn2 hq1
    have ebt:=bt_ltr (b*4) (b4 _ hb)
    clear hm4 hn0
    go_wp2_with (first|((with_reducible refine wp_index_str (b*4) 9 _ _ rfl rfl Tryd.underlying9 _ (bstr b64L) rfl rfl ?_ ?_);focus(rw[bstr_size];first|exact b16 _ hb|exact b4 _ hb))|(go_at_call 56;refine(writeByte_b _ _ (o.map byV) _ _ hB ?cl ?cb).mono ?_))
    case cl=>exact clL o o hol (by simp)
    case cb=>exact hwz
    rintro e w0 ⟨rfl,hB0,hw0⟩
    have hB0:IsB w.heap.size w.heap.size ((o++ [ltr (b*4)]).map byV) w0:= .inr (by simpa using hB0)
    have hw0:=hw.trans hw0
    have hz0:=hw0.size
    go_wp2_with fail
    refine wp_loop_rounds 2 ?_
    rw[rounds_succ]
    go_wp2_with (go_at_call 57;refine(len_b _ _ _ _ hB0 Hn0).mono ?_)
    rintro e wl0 ⟨rfl,rfl⟩
    go_wp2_with (go_at_call 56;refine(writeByte_b _ _ ((o++ [ltr (b*4)]).map byV) _ _ hB0 ?cl ?cb).mono ?_)
    case cl=>exact clL o _ hol (by simp)
    case cb=>exact hz0
    rintro e wp0 ⟨rfl,hC0,hv0⟩
    have hC0:IsB w.heap.size w.heap.size (((o++ [ltr (b*4)])++ [61]).map byV) wp0:= .inr (by rw[List.map_append];exact hC0)
    have hv0:=hw0.trans hv0
    have hy0:=hv0.size
    go_wp2_with fail
    rw[rounds_succ]
    go_wp2_with (go_at_call 57;refine(len_b _ _ _ _ hC0 Hn1).mono ?_)
    rintro e wl1 ⟨rfl,rfl⟩
    go_wp2_with (go_at_call 53;refine(Tryd.Builder_String_any _ _ (((o++ [ltr (b*4)])++ [61])) _ hC0 ?cb).mono ?_)
    case cb=>exact hy0
    rintro e ws ⟨rfl,hws⟩
    go_wp2_with fail
    go_ret
    exact⟨by rw[show putS s=((o++ [ltr (b*4)])++ [61])from hP];first|rfl|(simp[bstr];done),hv0.trans hws⟩
theorem put33_c (s:List UInt8) (hl:s.length≤1000000):PCalls Tryd.prog 34 [.x (.str s)] (.x (.str (putS s))):=by
 intro w st vs hst hvl
 obtain⟨hsz,hv⟩:=hvl
 obtain⟨v0,rfl⟩: ∃v0,vs= #[v0]:=by
  obtain⟨vl⟩:=vs
  match vl,hsz with
  | [a],_=>exact⟨a,rfl⟩
 have h0:=hv 0 _ v0 rfl rfl
 cases h0 with
 |x h0=>
 cases h0 with
 |str _=>
 refine(put_walk s w hl).mono ?_
 rintro e w' ⟨rfl,hb⟩
 exact⟨_,st,rfl,⟨hb.os,hb.tape,hb.output,hb.size,fun k hk _=>hb.block k hk⟩,fun _ _ h=>h,fun _ _ h=> .inl h,.x (.str _)⟩
def put33G:List D→Option (Bool×D)
 | [.x (.str s)]=>some (decide (s.length≤1000000),.x (.str (putS s)))
 |_=>none
theorem put33G_ok: ∀args r,put33G args=some (true,r)→PCalls Tryd.prog 34 args r:=by
 intro args r h
 unfold put33G at h
 split at h
 ·rename_i s
  simp only[ξI,ξP,ξa,ξe,true_and]at h
  obtain⟨h1,rfl⟩:=h
  exact put33_c s h1
 ·cases h
theorem put33_enters:Go.Ab.Enters Tryd.prog 34:=enters_of Tryd.func34 (by kernel_rfl) rfl
def nIdx (c:UInt8):Nat:=b64L.findIdx fun x=>x==c
def nVal (c:UInt8):Nat:=if nIdx c<64 then nIdx c else 0
theorem b64L_len:b64L.length=64:=rfl
theorem nIdx_at (c:UInt8) (j:Nat) (hj:j<64) (h: ∀x∈b64L.take j,x≠c) (he:b64L.getD j 0=c):nIdx c=j:=by
 have hjl:j<b64L.length:=by rw[b64L_len];exact hj
 have e:b64L.getD j 0=b64L[j]:=by simp[hjl]
 rw[e]at he
 unfold nIdx
 rw[List.findIdx_eq hjl]
 refine⟨by simp[he],fun i hi=> ?_⟩
 have:=h b64L[i] (by rw[List.mem_take_iff_getElem];exact⟨i,by omega,rfl⟩)
 simpa using this
theorem nIdx_no (c:UInt8) (h: ∀x∈b64L,x≠c):nIdx c=64:=by
 unfold nIdx
 rw[←b64L_len,List.findIdx_eq_length]
 intro x hx
 simpa using h x hx
theorem number_c (c:UInt8):PCalls Tryd.prog 86 [.x (.int .u8 c.toNat)] (.tup [.x (.int .i64 (nVal c:Nat)),.x (.bool (decide (nIdx c<64)))]):=by
 refine FCalls.pure (fcallsG (fz:=true) G_ok (p:=i86) rfl _ (ξ rfl) _ (fun C0 E0=> ?_)) rfl
 dsimp only[i86,qt,qi,qs,qb,qm,qa,qh,qj,qT,qF,qe,ql,qL,qf,q2,q3,q8,qz,qp,qP,qc,qk,qx,qy,qo,qr,qC,argsφ]
 have uu:=trivial
 have tT:=(noTabs_ok:SsOk Tryd.prog noTabs)
 refine nz ?_
 refine rg tT [0] ?_
 refine rg tT [0,5] ?_
 refine WI.loop (fun φ os=> ∃(j:Nat),φ= [(0,.x (.int .u8 c.toNat)),(5,.x (.int .i64 j))]∧os= []∧j≤64∧ ∀x∈b64L.take j,x≠c) (down 64 5) ?_ (fun φ os hI=> ?_)
 ·exact⟨0,rfl,rfl,by omega,by simp⟩
 ·obtain⟨j,rfl,rfl,hj,hall⟩:=hI
  refine nz ?_
  refine rg tT [0,5,6] ?_
  refine cd (fun h0=> ?_) (fun h0=> ?_)
  ·have hj4:j<64:=by omega
   have hgd:b64L.getD j 0=b64L[j]'(by rw[b64L_len];exact hj4):=by simp[show j<b64L.length by rw[b64L_len];exact hj4]
   refine rg tT [0,4,5] ?_
   refine rg tT [0,4,5,11] ?_
   refine cd (fun h1=> ?_) (fun h1=> ?_)
   ·refine rg tT [2,3] ?_
    refine lf ?_
    have hc:b64L.getD j 0=c:=UInt8.toNat_inj.1 (by have:((b64L.getD j 0).toNat:Int)=c.toNat:=h1;omega)
    have hi:=nIdx_at c j hj4 hall hc
    rw[nVal,hi,if_pos hj4,ξt hj4]
   ·refine rg tT [0,5] ?_
    exact⟨⟨j+1,rfl,rfl,by omega,by rw[List.take_succ_eq_append_getElem (show j<b64L.length by rw[b64L_len];omega)];simp only[List.mem_append,List.mem_singleton];rintro x (hx|rfl);exact hall x hx;exact fun e=>h1 (by rw[←e];exact hgd▸rfl)⟩,by simp[down,Ab.get,D.val,intOf?];omega⟩
  ·refine rg tT [2,3] ?_
   refine lf ?_
   have hi:=nIdx_no c (by rw[ξT (by rw[b64L_len];omega)]at hall;exact hall)
   rw[nVal,hi];rfl
def numberG:List D→Option (Bool×D)
 | [.x (.int .u8 n)]=>some (decide (n=((UInt8.ofNat n.toNat).toNat:Int)),.tup [.x (.int .i64 (nVal (UInt8.ofNat n.toNat):Nat)),.x (.bool (decide (nIdx (UInt8.ofNat n.toNat)<64)))])
 |_=>none
theorem numberG_ok: ∀args r,numberG args=some (true,r)→PCalls Tryd.prog 86 args r:=by
 intro args r h
 unfold numberG at h
 split at h
 ·rename_i n
  simp only[ξI,ξP,ξa,ξe,true_and]at h
  obtain⟨h1,rfl⟩:=h
  exact(by have:=number_c (UInt8.ofNat n.toNat);rwa [←h1]at this)
 ·cases h
def padS (l:List UInt8):List UInt8:=l++List.replicate ((4-l.length % 4) % 4) 61
def trimE (s:List UInt8):List UInt8:=(s.reverse.dropWhile (· ==61)).reverse
theorem trimE_c (s:List UInt8) (h:s.length≤1000000):PCalls Tryd.prog 85 [.x (.str s),.x (.str [61])] (.x (.str (trimE s))):=by
 intro w st vs hst hvl
 obtain⟨hsz,hv⟩:=hvl
 obtain⟨v0,v1,rfl⟩: ∃v0 v1,vs= #[v0,v1]:=by
  obtain⟨vl⟩:=vs
  match vl,hsz with
  | [a,b],_=>exact⟨a,b,rfl⟩
 have h0:=hv 0 _ v0 rfl rfl
 have h1:=hv 1 _ v1 rfl rfl
 clear hv hsz
 cases h0 with
 |x h0=>
 cases h1 with
 |x h1=>
 cases h1 with
 |str _=>
 cases h0 with
 |str _=>
 refine(Tryd.strings_TrimRight_one (bstr s) 61 (by decide) w (by rw[bstr_size];omega)).mono ?_
 rintro e w' ⟨rfl,rfl⟩
 exact⟨_,st,rfl,Kept.refl _ _,fun _ _ h=>h,fun _ _ h=> .inl h,.x (.str _)⟩
def trimEG:List D→Option (Bool×D)
 | [.x (.str s),.x (.str [61])]=>some (decide (s.length≤1000000),.x (.str (trimE s)))
 |_=>none
theorem trimEG_ok: ∀args r,trimEG args=some (true,r)→PCalls Tryd.prog 85 args r:=by
 intro args r h
 unfold trimEG at h
 split at h
 ·rename_i s
  simp only[ξI,ξP,ξa,ξe,true_and]at h
  obtain⟨h1,rfl⟩:=h
  exact trimE_c s h1
 ·cases h
theorem trimE_enters:Go.Ab.Enters Tryd.prog 85:=enters_of Tryd.func85 (by kernel_rfl) rfl
theorem trimE_len (s:List UInt8):(trimE s).length≤s.length:=by
 unfold trimE
 have:=(List.dropWhile_sublist (p:=(· ==(61:UInt8))) (l:=s.reverse)).length_le
 simpa using this
def stepR (x:List UInt8×Nat×Nat) (c:UInt8):List UInt8×Nat×Nat:=
 let v:=x.2.1*64+nVal c
 if x.2.2=0 then(x.1,v,6)
 else if x.2.2=6 then(x.1++ [UInt8.ofNat (v/16)],v % 16,4)
 else if x.2.2=4 then(x.1++ [UInt8.ofNat (v/4)],v % 4,2)
 else(x.1++ [UInt8.ofNat v],0,0)
def runR (s:List UInt8):List UInt8×Nat×Nat:=s.foldl stepR ([],0,0)
theorem runR_take (s:List UInt8) (j:Nat) (h:j<s.length):runR (s.take (j+1))=stepR (runR (s.take j)) s[j]:=by
 unfold runR;rw[List.take_succ_eq_append_getElem h,List.foldl_append];rfl
theorem nVal_lt (c:UInt8):nVal c<64:=by unfold nVal;split<;>omega
theorem runR_ok (s:List UInt8): ∀j,j≤s.length→((runR (s.take j)).2.2=0∧(runR (s.take j)).2.1=0∨(runR (s.take j)).2.2=6∧(runR (s.take j)).2.1<64∨(runR (s.take j)).2.2=4∧(runR (s.take j)).2.1<16∨(runR (s.take j)).2.2=2∧(runR (s.take j)).2.1<4)∧(runR (s.take j)).1.length≤j
 |0,_=>by simp[runR]
 |j+1,h=>by
  obtain⟨h1,h2⟩:=runR_ok s j (by omega)
  rw[runR_take s j (by omega)]
  generalize runR (s.take j)=x at h1 h2⊢
  obtain⟨o,b,m⟩:=x
  have hc:=nVal_lt s[j]
  simp only at h1 h2⊢
  unfold stepR
  simp only
  rcases h1 with h1|h1|h1|h1<;>obtain⟨rfl,h1⟩:=h1<;>simp<;>omega
def okL (c:UInt8):Bool:=decide (nIdx c<64)
def readS (s:List UInt8):List UInt8×Int:=
 if s.length % 4=0∧s.length-(trimE s).length≤2∧(trimE s).all okL=true∧(runR (trimE s)).2.1=0∧(runR (trimE s)).2.2<6 then((runR (trimE s)).1,0)else([],5)
theorem or6N: ∀(b:Fin 64) (c:Fin 64),IntKind.i64.wrap ((BitVec.ofInt IntKind.i64.bits ((b.val:Int)*64)|||BitVec.ofInt IntKind.i64.bits (c.val:Int)).toNat:Int)=((b.val*64+c.val:Nat):Int):=by decide+kernel
theorem or6 (b c:Nat) (hb:b<64) (hc:c<64):IntKind.i64.wrap ((BitVec.ofInt IntKind.i64.bits ((b:Int)*64)|||BitVec.ofInt IntKind.i64.bits (c:Int)).toNat:Int)=((b*64+c:Nat):Int):=or6N ⟨b,hb⟩ ⟨c,hc⟩
theorem fS6:(2:Int)^min 6 IntKind.i64.bits=64:=rfl
theorem fS4:(2:Int)^min 4 IntKind.i64.bits=16:=rfl
theorem fS2:(2:Int)^min 2 IntKind.i64.bits=4:=rfl
theorem fS0:(2:Int)^min 0 IntKind.i64.bits=1:=rfl
theorem fdN (v d:Nat):(v:Int).fdiv (d:Int)=((v/d:Nat):Int):=by rw[Int.fdiv_eq_ediv_of_nonneg _ (Int.natCast_nonneg _)];rfl
theorem fU8 (q:Nat) (h:q<256):IntKind.u8.wrap (q:Int)=((UInt8.ofNat q).toNat:Int):=by rw[IntWalk.u8_in _ (by omega)];simp;omega
def tabBaR:Tabs:=addQ (addQ (noTabs) 85 trimEG) 86 numberG
theorem tabBaR_ok:SsOk Tryd.prog tabBaR:=addQ_ok (addQ_ok (noTabs_ok) trimE_enters trimEG_ok) (G_enters G_ok (p:=i86) rfl) numberG_ok
theorem tabBaR_q85 (a:List D):tabBaR.q 85 a=trimEG a:=rfl
theorem tabBaR_q86 (a:List D):tabBaR.q 86 a=numberG a:=rfl
theorem tabBaR_r (f:FuncId) (a:List D) (o:List Ob):tabBaR.r f a o=none:=rfl
theorem tabBaR_k (f:FuncId) (a:List D) (o:List Ob):tabBaR.k f a o=none:=rfl
theorem bytes_snoc' (l:List UInt8) (c:UInt8):(l++ [c]).map byteRow=l.map byteRow++ [[X.int .u8 c.toNat]]:=by rw[List.map_append];rfl
theorem allS (l:List UInt8) (j:Nat) (hj:j<l.length) (h:(l.take j).all okL=true) (hk:okL l[j]=true):(l.take (j+1)).all okL=true:=by
 rw[List.take_succ_eq_append_getElem hj,List.all_append,h];simp[hk]
theorem read33_c (s:List UInt8) (hl:s.length≤1000000):PCalls Tryd.prog 59 [.x (.str s)] (.tup [.x (.str (readS s).1),.x (.int .i64 (readS s).2)]):=by
 have htl:=trimE_len s
 have un8: ∀c:UInt8,UInt8.ofNat c.toNat=c:=fun c=>by simp
 have und:=fun c:UInt8=>show decide ((c.toNat:Int)=((UInt8.ofNat ((c.toNat:Int)).toNat).toNat:Int))=true by simp
 refine FCalls.pure (fcallsG (fz:=true) G_ok (p:=i59) rfl _ (ξ rfl) _ (fun C0 E0=> ?_)) rfl
 dsimp only[i59,qt,qi,qs,qb,qm,qa,qh,qj,qT,qF,qe,ql,qL,qf,q2,q3,q8,qz,qp,qP,qc,qk,qx,qy,qo,qr,qC,argsφ]
 have uu:=ξn @trimEG.eq_1 (ξn @trimEG.eq_2 (ξn @numberG.eq_1 (ξn @numberG.eq_2 (ξn @un8 (ξn @und (ξn @tabBaR_r (ξn @tabBaR_k (ξn @tabBaR_q85 (@tabBaR_q86)))))))))
 have tT:=tabBaR_ok
 refine nz ?_
 refine WI.regB tT [0] ?_
 iterate 2 refine oS ?_
 refine oN ?_
 refine nz ?_
 refine WI.regB tT [0,14] ?_
 refine oS ?_
 iterate 3 refine oG (hok:=by first|exact se|(exact ξt (by omega))|(exact bytes_all _)|exact sd) ?_
 refine oN ?_
 refine nz ?_
 refine cd (fun h0=> ?_) (fun h0=> ?_)
 ·refine WI.regB tT [2,3] ?_
  iterate 2 refine oS ?_
  refine oN ?_
  refine nz ?_
  refine lf ?_
  rw[readS,if_neg (fun hh=>h0 (by have:=hh.1;show((s.length % 4:Nat):Int)=0;omega))]
 ·refine WI.regB tT [0,4] ?_
  refine oS ?_
  refine oC (hok:=by first|exact se|(exact ξt (by omega))|(exact bytes_all _)|exact sd) ?_
  refine oS ?_
  refine oN ?_
  refine nz ?_
  refine WI.regB tT [4,22] ?_
  refine oS ?_
  refine oG (hok:=by first|exact se|(exact ξt (by omega))|(exact bytes_all _)|exact sd) ?_
  refine oS ?_
  iterate 3 refine oG (hok:=by first|exact se|(exact ξt (by omega))|(exact bytes_all _)|exact sd) ?_
  refine oN ?_
  refine nz ?_
  refine cd (fun h1=> ?_) (fun h1=> ?_)
  ·refine WI.regB tT [2,3] ?_
   iterate 2 refine oS ?_
   refine oN ?_
   refine nz ?_
   refine lf ?_
   rw[readS,if_neg (fun hh=>by have:=hh.2.1;omega)]
  ·refine WI.regB tT [4,5] ?_
   refine oS ?_
   refine oN ?_
   refine nz ?_
   refine WI.regB tT [4,5,6,7] ?_
   iterate 2 refine oS ?_
   refine oN ?_
   refine nz ?_
   refine WI.regB tT [4,5,6,7,24,25] ?_
   refine oS ?_
   refine oG (hok:=by first|exact se|(exact ξt (by omega))|(exact bytes_all _)|exact sd) ?_
   refine oS ?_
   refine oN ?_
   refine nz ?_
   refine WI.ownA 5 5 1 ?_
   refine WI.loop (fun φ os=> ∃(j:Nat),φ= [(4,.x (.str (trimE s))),(5,.ref 0 (runR ((trimE s).take j)).1.length 0 (runR ((trimE s).take j)).1.length),(6,.x (.int .i64 (runR ((trimE s).take j)).2.1)),(7,.x (.int .i64 (runR ((trimE s).take j)).2.2)),(24,.x (.int .i64 (trimE s).length)),(25,.x (.int .i64 j))]∧os= [.rows false 5 1 ((runR ((trimE s).take j)).1.map byteRow)]∧j≤(trimE s).length∧((trimE s).take j).all okL=true) (down (trimE s).length 25) ?_ (fun φ os hI=> ?_)
   ·exact⟨0,rfl,rfl,by omega,rfl⟩
   ·obtain⟨j,rfl,rfl,hj,hall⟩:=hI
    refine nz ?_
    refine WI.regB tT [4,5,6,7,24,25,26] ?_
    refine oG (hok:=by first|exact se|(exact ξt (by omega))|(exact bytes_all _)|exact sd) ?_
    refine oN ?_
    refine nz ?_
    refine cd (fun h2=> ?_) (fun h2=> ?_)
    ·have hj4:j<(trimE s).length:=by omega
     obtain⟨hk1,hk2⟩:=runR_ok (trimE s) j hj
     have hst:=runR_take (trimE s) j hj4
     have hgd:(trimE s).getD j 0=(trimE s)[j]:=by simp[hj4]
     rw[←hgd]at hst
     generalize runR ((trimE s).take j)=x at hk1 hk2 hst⊢
     obtain⟨o,b,m⟩:=x
     simp only at hk1 hk2
     refine WI.regB tT [4,5,6,7,8,24,25] ?_
     iterate 2 refine oS ?_
     refine oN ?_
     refine nz ?_
     refine WI.regB tT [4,5,6,7,9,10,24,25] ?_
     iterate 2 refine oS ?_
     refine oG (hok:=by first|exact se|(exact ξt (by omega))|(exact bytes_all _)|exact sd) ?_
     refine oC (hok:=by first|exact se|(exact ξt (by omega))|(exact bytes_all _)|exact sd) ?_
     refine oS ?_
     iterate 2 refine oG ?_
     iterate 2 refine oS ?_
     refine oN ?_
     refine nz ?_
     refine WI.regB tT [4,5,6,7,9,24,25,36] ?_
     refine oS ?_
     refine oG (hok:=by first|exact se|(exact ξt (by omega))|(exact bytes_all _)|exact sd) ?_
     refine oN ?_
     refine nz ?_
     refine cd (fun h3=> ?_) (fun h3=> ?_)
     ·refine WI.regB tT [2,3] ?_
      iterate 2 refine oS ?_
      refine oN ?_
      refine nz ?_
      refine lf ?_
      rw[readS,if_neg (fun hh=>h3 (by have:=List.all_eq_true.1 hh.2.2.1 _ (List.getElem_mem hj4);rw[←hgd]at this;exact of_decide_eq_true this))]
     ·have hn64:=nVal_lt ((trimE s).getD j 0)
      obtain⟨n,hn⟩: ∃n,n=nVal ((trimE s).getD j 0):=⟨_,rfl⟩
      rw[←hn]at hn64⊢
      try dsimp only
      rcases hk1 with⟨rfl,rfl⟩|⟨rfl,hb⟩|⟨rfl,hb⟩|⟨rfl,hb⟩
      ·have c0:((0:Nat):Int)=0:=rfl
       rw[c0]
       have hs:stepR (o,0,0) ((trimE s).getD j 0)=(o,n,6):=by rw[hn];show(o,0*64+nVal _,6)=_;rw[Nat.zero_mul,Nat.zero_add]
       have e2:IntKind.i64.wrap ((BitVec.ofInt IntKind.i64.bits 0|||BitVec.ofInt IntKind.i64.bits (n:Int)).toNat:Int)=((0*64+n:Nat):Int):=or6 0 n (by omega) hn64
       have uu:=ξn uu (ξn fS6 e2)
       refine WI.regB tT [4,5,6,7,24,25] ?_
       refine oS ?_
       refine oG (hok:=by first|exact se|(exact ξt (by omega))|(exact bytes_all _)|exact sd) ?_
       refine oS ?_
       refine oG (hok:=by first|exact se|(exact ξt (by omega))|(exact bytes_all _)|exact sd) ?_
       refine oS ?_
       refine oG (hok:=by first|exact se|(exact ξt (by omega))|(exact bytes_all _)|exact sd) ?_
       iterate 2 refine oS ?_
       refine oN ?_
       refine nz ?_
       refine WI.regB tT [4,5,6,7,24,25,44] ?_
       refine oS ?_
       refine oG (hok:=by first|exact se|(exact ξt (by omega))|(exact bytes_all _)|exact sd) ?_
       refine oN ?_
       refine nz ?_
       refine ce (fun h4=> ?_) (fun h4=> ?_)
       ·simp at h4
       ·refine WI.regB tT [4,5,6,7,24,25] ?_
        refine oG (hok:=by first|exact se|(exact ξt (by omega))|(exact bytes_all _)|exact sd) ?_
        refine oS ?_
        refine oN ?_
        refine nz ?_
        exact⟨⟨j+1,by first|(rw[hst,hs];done)|(rw[hst,hs];rfl)|(rw[hst,hs];simp only[ξA];rfl),by first|(rw[hst,hs];done)|(rw[hst,hs];rfl)|(rw[hst,hs];simp only[bytes_snoc'];done),by omega,allS _ j hj4 hall (by rw[okL,←hgd];exact ξt h3)⟩,by simp[down,Ab.get,D.val,intOf?];omega⟩
      ·have c0:((6:Nat):Int)=6:=rfl
       rw[c0]
       have hs:stepR (o,b,6) ((trimE s).getD j 0)=(o++ [UInt8.ofNat ((b*64+n)/16)],(b*64+n) % 16,4):=by rw[hn];rfl
       have e2:=or6 b n (by omega) hn64
       have e4:((b*64+n:Nat):Int).fdiv 16=(((b*64+n)/16:Nat):Int):=fdN _ 16
       have e5:=fU8 ((b*64+n)/16) (by omega)
       have e3:IntKind.i64.wrap ((BitVec.ofInt IntKind.i64.bits ((b*64+n:Nat):Int)&&&BitVec.ofInt IntKind.i64.bits 15).toNat:Int)=(((b*64+n) % 16:Nat):Int):=a15 (b*64+n) (by omega)
       have uu:=ξn uu (ξn fS6 (ξn fS4 (ξn e2 (ξn e3 (ξn e4 e5)))))
       refine WI.regB tT [4,5,6,7,24,25] ?_
       refine oS ?_
       refine oG (hok:=by first|exact se|(exact ξt (by omega))|(exact bytes_all _)|exact sd) ?_
       refine oS ?_
       refine oG (hok:=by first|exact se|(exact ξt (by omega))|(exact bytes_all _)|exact sd) ?_
       refine oS ?_
       refine oG (hok:=by first|exact se|(exact ξt (by omega))|(exact bytes_all _)|exact sd) ?_
       iterate 2 refine oS ?_
       refine oN ?_
       refine nz ?_
       refine WI.regB tT [4,5,6,7,24,25,44] ?_
       refine oS ?_
       refine oG (hok:=by first|exact se|(exact ξt (by omega))|(exact bytes_all _)|exact sd) ?_
       refine oN ?_
       refine nz ?_
       refine ct (fun h4=> ?_) (fun h4=> ?_)
       ·refine WI.regB tT [4,5,6,7,24,25] ?_
        refine oS ?_
        refine oG (hok:=by first|exact se|(exact ξt (by omega))|(exact bytes_all _)|exact sd) ?_
        refine oS ?_
        refine oN ?_
        refine nz ?_
        refine WI.post ?_
        refine WI.regB tT [4,5,6,7,24,25] ?_
        iterate 3 refine oS ?_
        iterate 4 refine oG (hok:=by first|exact se|(exact ξt (by omega))|(exact bytes_all _)|exact sd) ?_
        refine oS ?_
        refine oP ?_
        refine pPick [0] ?_
        refine pEnd ?_
        refine nz ?_
        refine WI.regB tT [4,5,6,7,24,25] ?_
        iterate 2 refine oS ?_
        iterate 3 refine oG (hok:=by first|exact se|(exact ξt (by omega))|(exact bytes_all _)|exact sd) ?_
        refine oS ?_
        refine oN ?_
        refine nz ?_
        refine WI.regB tT [4,5,6,7,24,25] ?_
        refine oG (hok:=by first|exact se|(exact ξt (by omega))|(exact bytes_all _)|exact sd) ?_
        refine oS ?_
        refine oN ?_
        refine nz ?_
        exact⟨⟨j+1,by first|(rw[hst,hs];done)|(rw[hst,hs];rfl)|(rw[hst,hs];simp only[ξA];rfl),by first|(rw[hst,hs];done)|(rw[hst,hs];rfl)|(rw[hst,hs];simp only[bytes_snoc'];done),by omega,allS _ j hj4 hall (by rw[okL,←hgd];exact ξt h3)⟩,by simp[down,Ab.get,D.val,intOf?];omega⟩
       ·simp at h4
      ·have c0:((4:Nat):Int)=4:=rfl
       rw[c0]
       have hs:stepR (o,b,4) ((trimE s).getD j 0)=(o++ [UInt8.ofNat ((b*64+n)/4)],(b*64+n) % 4,2):=by rw[hn];rfl
       have e2:=or6 b n (by omega) hn64
       have e4:((b*64+n:Nat):Int).fdiv 4=(((b*64+n)/4:Nat):Int):=fdN _ 4
       have e5:=fU8 ((b*64+n)/4) (by omega)
       have e3:IntKind.i64.wrap ((BitVec.ofInt IntKind.i64.bits ((b*64+n:Nat):Int)&&&BitVec.ofInt IntKind.i64.bits 3).toNat:Int)=(((b*64+n) % 4:Nat):Int):=a3 (b*64+n) (by omega)
       have uu:=ξn uu (ξn fS6 (ξn fS2 (ξn e2 (ξn e3 (ξn e4 e5)))))
       refine WI.regB tT [4,5,6,7,24,25] ?_
       refine oS ?_
       refine oG (hok:=by first|exact se|(exact ξt (by omega))|(exact bytes_all _)|exact sd) ?_
       refine oS ?_
       refine oG (hok:=by first|exact se|(exact ξt (by omega))|(exact bytes_all _)|exact sd) ?_
       refine oS ?_
       refine oG (hok:=by first|exact se|(exact ξt (by omega))|(exact bytes_all _)|exact sd) ?_
       iterate 2 refine oS ?_
       refine oN ?_
       refine nz ?_
       refine WI.regB tT [4,5,6,7,24,25,44] ?_
       refine oS ?_
       refine oG (hok:=by first|exact se|(exact ξt (by omega))|(exact bytes_all _)|exact sd) ?_
       refine oN ?_
       refine nz ?_
       refine ct (fun h4=> ?_) (fun h4=> ?_)
       ·refine WI.regB tT [4,5,6,7,24,25] ?_
        refine oS ?_
        refine oG (hok:=by first|exact se|(exact ξt (by omega))|(exact bytes_all _)|exact sd) ?_
        refine oS ?_
        refine oN ?_
        refine nz ?_
        refine WI.post ?_
        refine WI.regB tT [4,5,6,7,24,25] ?_
        iterate 3 refine oS ?_
        iterate 4 refine oG (hok:=by first|exact se|(exact ξt (by omega))|(exact bytes_all _)|exact sd) ?_
        refine oS ?_
        refine oP ?_
        refine pPick [0] ?_
        refine pEnd ?_
        refine nz ?_
        refine WI.regB tT [4,5,6,7,24,25] ?_
        iterate 2 refine oS ?_
        iterate 3 refine oG (hok:=by first|exact se|(exact ξt (by omega))|(exact bytes_all _)|exact sd) ?_
        refine oS ?_
        refine oN ?_
        refine nz ?_
        refine WI.regB tT [4,5,6,7,24,25] ?_
        refine oG (hok:=by first|exact se|(exact ξt (by omega))|(exact bytes_all _)|exact sd) ?_
        refine oS ?_
        refine oN ?_
        refine nz ?_
        exact⟨⟨j+1,by first|(rw[hst,hs];done)|(rw[hst,hs];rfl)|(rw[hst,hs];simp only[ξA];rfl),by first|(rw[hst,hs];done)|(rw[hst,hs];rfl)|(rw[hst,hs];simp only[bytes_snoc'];done),by omega,allS _ j hj4 hall (by rw[okL,←hgd];exact ξt h3)⟩,by simp[down,Ab.get,D.val,intOf?];omega⟩
       ·simp at h4
      ·have c0:((2:Nat):Int)=2:=rfl
       rw[c0]
       have hs:stepR (o,b,2) ((trimE s).getD j 0)=(o++ [UInt8.ofNat (b*64+n)],0,0):=by rw[hn];rfl
       have e2:=or6 b n (by omega) hn64
       have e4:((b*64+n:Nat):Int).fdiv 1=(((b*64+n)/1:Nat):Int):=fdN _ 1
       have e5:=fU8 ((b*64+n)/1) (by omega)
       rw[Nat.div_one]at e4 e5
       have e3:IntKind.i64.wrap ((BitVec.ofInt IntKind.i64.bits ((b*64+n:Nat):Int)&&&BitVec.ofInt IntKind.i64.bits 0).toNat:Int)=0:=a0 (b*64+n) (by omega)
       have uu:=ξn uu (ξn fS6 (ξn fS0 (ξn e2 (ξn e3 (ξn e4 e5)))))
       refine WI.regB tT [4,5,6,7,24,25] ?_
       refine oS ?_
       refine oG (hok:=by first|exact se|(exact ξt (by omega))|(exact bytes_all _)|exact sd) ?_
       refine oS ?_
       refine oG (hok:=by first|exact se|(exact ξt (by omega))|(exact bytes_all _)|exact sd) ?_
       refine oS ?_
       refine oG (hok:=by first|exact se|(exact ξt (by omega))|(exact bytes_all _)|exact sd) ?_
       iterate 2 refine oS ?_
       refine oN ?_
       refine nz ?_
       refine WI.regB tT [4,5,6,7,24,25,44] ?_
       refine oS ?_
       refine oG (hok:=by first|exact se|(exact ξt (by omega))|(exact bytes_all _)|exact sd) ?_
       refine oN ?_
       refine nz ?_
       refine ct (fun h4=> ?_) (fun h4=> ?_)
       ·refine WI.regB tT [4,5,6,7,24,25] ?_
        refine oS ?_
        refine oG (hok:=by first|exact se|(exact ξt (by omega))|(exact bytes_all _)|exact sd) ?_
        refine oS ?_
        refine oN ?_
        refine nz ?_
        refine WI.post ?_
        refine WI.regB tT [4,5,6,7,24,25] ?_
        iterate 3 refine oS ?_
        iterate 4 refine oG (hok:=by first|exact se|(exact ξt (by omega))|(exact bytes_all _)|exact sd) ?_
        refine oS ?_
        refine oP ?_
        refine pPick [0] ?_
        refine pEnd ?_
        refine nz ?_
        refine WI.regB tT [4,5,6,7,24,25] ?_
        iterate 2 refine oS ?_
        iterate 3 refine oG (hok:=by first|exact se|(exact ξt (by omega))|(exact bytes_all _)|exact sd) ?_
        refine oS ?_
        refine oN ?_
        refine nz ?_
        refine WI.regB tT [4,5,6,7,24,25] ?_
        refine oG (hok:=by first|exact se|(exact ξt (by omega))|(exact bytes_all _)|exact sd) ?_
        refine oS ?_
        refine oN ?_
        refine nz ?_
        exact⟨⟨j+1,by first|(rw[hst,hs];done)|(rw[hst,hs];rfl)|(rw[hst,hs];simp only[ξA];rfl),by first|(rw[hst,hs];done)|(rw[hst,hs];rfl)|(rw[hst,hs];simp only[bytes_snoc'];done),by omega,allS _ j hj4 hall (by rw[okL,←hgd];exact ξt h3)⟩,by simp[down,Ab.get,D.val,intOf?];omega⟩
       ·simp at h4
    ·have hvt:(trimE s).take j=trimE s:=ξT (by omega)
     rw[hvt]at hall⊢
     have e8:((runR (trimE s)).1.map byteRow).take (runR (trimE s)).1.length=(runR (trimE s)).1.map byteRow:=ξT (by simp)
     have uu:=ξn uu e8
     refine WI.regB tT [5,65] ?_
     refine oS ?_
     refine oG (hok:=by first|exact se|(exact ξt (by omega))|(exact bytes_all _)|exact sd) ?_
     refine oS ?_
     iterate 3 refine oG (hok:=by first|exact se|(exact ξt (by omega))|(exact bytes_all _)|exact sd) ?_
     refine oN ?_
     refine nz ?_
     refine cd (fun h5=> ?_) (fun h5=> ?_)
     ·refine WI.regB tT [2,3] ?_
      iterate 2 refine oS ?_
      refine oN ?_
      refine nz ?_
      refine lf ?_
      rw[readS,if_neg (fun hh=>by have h7:=hh.2.2.2.1;have h8:=hh.2.2.2.2;omega)]
     ·refine WI.regB tT [2,3] ?_
      refine oS ?_
      refine oG (hok:=by first|exact se|(exact ξt (by omega))|(exact bytes_all _)|exact sd) ?_
      iterate 2 refine oS ?_
      refine oN ?_
      refine nz ?_
      refine lf ?_
      rw[readS,if_pos ⟨by have h0':=h0;rw[show((s.length:Nat):Int).tmod 4=((s.length % 4:Nat):Int)from rfl]at h0';omega,by omega,hall,by omega,by omega⟩]
def vB (s:List UInt8):Nat:=s.foldl (fun a c=>a*256+c.toNat) 0
def vL (s:List UInt8):Nat:=s.foldl (fun a c=>a*64+nVal c) 0
theorem vB_snoc (s:List UInt8) (c:UInt8):vB (s++ [c])=vB s*256+c.toNat:=by unfold vB;rw[List.foldl_append];rfl
theorem vL_snoc (s:List UInt8) (c:UInt8):vL (s++ [c])=vL s*64+nVal c:=by unfold vL;rw[List.foldl_append];rfl
theorem snocInd {α:Type} {P:List α→Prop} (h0:P []) (h1: ∀l a,P l→P (l++ [a])): ∀l,P l:=by
 intro l
 have: ∀n (l:List α),l.length=n→P l:=by
  intro n
  induction n with
  |zero=>intro l hl;rw[List.length_eq_zero_iff.1 hl];exact h0
  |succ n ih=>
   intro l hl
   have hne:l≠ []:=fun e=>by simp[e]at hl
   rw[←List.dropLast_concat_getLast hne]
   exact h1 _ _ (ih _ (by simp[hl]))
 exact this _ l rfl
theorem ltr_idx: ∀x:Fin 64,nIdx (ltr x.val)=x.val:=by decide+kernel
theorem ltr_ok (x:Nat) (h:x<64):nIdx (ltr x)=x:=ltr_idx ⟨x,h⟩
theorem ltr_val (x:Nat) (h:x<64):nVal (ltr x)=x:=by unfold nVal;rw[ltr_ok x h,if_pos h]
theorem ltr_okL (x:Nat) (h:x<64):okL (ltr x)=true:=by unfold okL;rw[ltr_ok x h];exact ξt h
theorem ok_ltr (c:UInt8) (h:okL c=true):ltr (nVal c)=c:=by
 have h1:nIdx c<64:=of_decide_eq_true h
 unfold nVal
 rw[if_pos h1]
 have hl:nIdx c<b64L.length:=by rw[b64L_len];exact h1
 have h2:(b64L[nIdx c]==c)=true:=List.findIdx_getElem (xs:=b64L) (p:=fun x=>x==c) (w:=hl)
 have e:ltr (nIdx c)=b64L[nIdx c]:=by unfold ltr;simp[hl]
 rw[e];exact eq_of_beq h2
theorem eq61:okL 61=false:=by decide+kernel
theorem vB_inj: ∀(a b:List UInt8),a.length=b.length→vB a=vB b→a=b:=by
 intro a
 induction a using snocInd with
 |h0=>intro b hl _;exact(List.length_eq_zero_iff.1 hl.symm).symm
 |h1 l x ih=>
  intro b hl hv
  have hne:b≠ []:=fun e=>by simp[e]at hl
  rw[←List.dropLast_concat_getLast hne]at hl hv⊢
  generalize b.dropLast=m at*
  generalize b.getLast hne=y at*
  rw[vB_snoc,vB_snoc]at hv
  have hx:=UInt8.toNat_lt x
  have hy:=UInt8.toNat_lt y
  have e1:x=y:=UInt8.toNat_inj.1 (by omega)
  have e2:vB l=vB m:=by omega
  rw[ih m (by simpa using hl) e2,e1]
def QE (x:List UInt8×Nat×Nat) (n v:Nat):Prop:=(x.2.2=0∨x.2.2=2∨x.2.2=4)∧8*n=6*x.1.length+x.2.2∧x.2.1<2^x.2.2∧vL x.1*2^x.2.2+x.2.1=v∧x.1.all okL=true
theorem runE_QE: ∀s:List UInt8,QE (runE s) s.length (vB s):=by
 intro s
 induction s using snocInd with
 |h0=>exact⟨.inl rfl,rfl,by simp[runE],rfl,rfl⟩
 |h1 l c ih=>
  have hr:runE (l++ [c])=stepE (runE l) c:=by unfold runE;rw[List.foldl_append];rfl
  rw[hr,vB_snoc,ξA]
  generalize runE l=x at ih
  obtain⟨o,b,m⟩:=x
  obtain⟨h1,h2,h3,h4,h5⟩:=ih
  simp only at h1 h2 h3 h4 h5
  have hc:=UInt8.toNat_lt c
  rcases h1 with rfl|rfl|rfl
  ·have hb:b=0:=by simpa using h3
   subst hb
   have hs:=step0 o c
   rw[hs]
   refine⟨.inr (.inl rfl),?_,?_,?_,?_⟩
   ·simp at h2⊢;omega
   ·exact Nat.mod_lt _ (by decide)
   ·simp only[vL_snoc,ltr_val _ (m64 _)];simp at h4⊢;omega
   ·simp[h5,ltr_okL _ (m64 _)]
  ·have hb:b<4:=h3
   have hs:=step2 o b _ c rfl
   rw[hs]
   refine⟨.inr (.inr rfl),?_,?_,?_,?_⟩
   ·simp at h2⊢;omega
   ·exact Nat.mod_lt _ (by decide)
   ·simp only[vL_snoc,ltr_val _ (m64 _)];simp at h4⊢;omega
   ·simp[h5,ltr_okL _ (m64 _)]
  ·have hb:b<16:=h3
   have hs:=step4 o b _ c rfl
   rw[hs]
   refine⟨.inl rfl,?_,?_,?_,?_⟩
   ·simp at h2⊢;omega
   ·exact Nat.zero_lt_one
   ·simp only[vL_snoc,ltr_val _ (m64 _)];simp at h4⊢;omega
   ·simp[h5,ltr_okL _ (m64 _)]
theorem putS_ok (s:List UInt8): ∃p L,p<6∧6*L.length=8*s.length+p∧vL L=vB s*2^p∧L.all okL=true∧putS s=padS L:=by
 have h:=runE_QE s
 unfold putS
 generalize runE s=x at h
 obtain⟨o,b,m⟩:=x
 obtain⟨h1,h2,h3,h4,h5⟩:=h
 simp only at h1 h2 h3 h4 h5
 rcases h1 with rfl|rfl|rfl
 ·refine⟨0,o,by omega,by omega,?_,h5,?_⟩
  ·have hb:b=0:=by simpa using h3
   subst hb;simp at h4⊢;omega
  ·have e:(4-o.length % 4) % 4=0:=by omega
   unfold padS;rw[e];simp[finE]
 ·refine⟨4,o++ [ltr (b*16)],by omega,by simp;omega,?_,?_,?_⟩
  ·have hb:b<4:=h3
   rw[vL_snoc,ltr_val _ (by omega)];simp at h4⊢;omega
  ·have hb:b<4:=h3
   simp[h5,ltr_okL (b*16) (by omega)]
  ·have e:(4-(o++ [ltr (b*16)]).length % 4) % 4=2:=by simp;omega
   unfold padS;rw[e];simp[finE,List.replicate]
 ·refine⟨2,o++ [ltr (b*4)],by omega,by simp;omega,?_,?_,?_⟩
  ·have hb:b<16:=h3
   rw[vL_snoc,ltr_val _ (by omega)];simp at h4⊢;omega
  ·have hb:b<16:=h3
   simp[h5,ltr_okL (b*4) (by omega)]
  ·have e:(4-(o++ [ltr (b*4)]).length % 4) % 4=1:=by simp;omega
   unfold padS;rw[e];simp[finE,List.replicate]
def QR (x:List UInt8×Nat×Nat) (k u:Nat):Prop:=(x.2.2=0∨x.2.2=6∨x.2.2=4∨x.2.2=2)∧6*k=8*x.1.length+x.2.2∧x.2.1<2^x.2.2∧vB x.1*2^x.2.2+x.2.1=u
theorem ofN (q:Nat) (h:q<256):(UInt8.ofNat q).toNat=q:=by simp;omega
theorem runR_QR: ∀s:List UInt8,QR (runR s) s.length (vL s):=by
 intro s
 induction s using snocInd with
 |h0=>exact⟨.inl rfl,rfl,by simp[runR],rfl⟩
 |h1 l c ih=>
  have hr:runR (l++ [c])=stepR (runR l) c:=by unfold runR;rw[List.foldl_append];rfl
  rw[hr,vL_snoc,ξA]
  generalize runR l=x at ih
  obtain⟨o,b,m⟩:=x
  obtain⟨h1,h2,h3,h4⟩:=ih
  simp only at h1 h2 h3 h4
  have hc:=nVal_lt c
  rcases h1 with rfl|rfl|rfl|rfl
  ·have hb:b=0:=by simpa using h3
   subst hb
   have hs:stepR (o,0,0) c=(o,0*64+nVal c,6):=rfl
   rw[hs]
   refine⟨.inr (.inl rfl),?_,?_,?_⟩
   ·simp at h2⊢;omega
   ·show 0*64+nVal c<64;omega
   ·simp at h4⊢;omega
  ·have hb:b<64:=h3
   have hs:stepR (o,b,6) c=(o++ [UInt8.ofNat ((b*64+nVal c)/16)],(b*64+nVal c) % 16,4):=rfl
   rw[hs]
   refine⟨.inr (.inr (.inl rfl)),?_,Nat.mod_lt _ (by decide),?_⟩
   ·simp at h2⊢;omega
   ·simp only[vB_snoc,ofN ((b*64+nVal c)/16) (by omega)];simp at h4⊢;omega
  ·have hb:b<16:=h3
   have hs:stepR (o,b,4) c=(o++ [UInt8.ofNat ((b*64+nVal c)/4)],(b*64+nVal c) % 4,2):=rfl
   rw[hs]
   refine⟨.inr (.inr (.inr rfl)),?_,Nat.mod_lt _ (by decide),?_⟩
   ·simp at h2⊢;omega
   ·simp only[vB_snoc,ofN ((b*64+nVal c)/4) (by omega)];simp at h4⊢;omega
  ·have hb:b<4:=h3
   have hs:stepR (o,b,2) c=(o++ [UInt8.ofNat (b*64+nVal c)],0,0):=rfl
   rw[hs]
   refine⟨.inl rfl,?_,Nat.zero_lt_one,?_⟩
   ·simp at h2⊢;omega
   ·simp only[vB_snoc,ofN (b*64+nVal c) (by omega)];simp at h4⊢;omega
theorem trim_pad (L:List UInt8) (q:Nat) (h:L.all okL=true):trimE (L++List.replicate q 61)=L:=by
 unfold trimE
 rw[List.reverse_append,List.reverse_replicate,List.dropWhile_append_of_pos (by intro x hx;rw[(List.mem_replicate.1 hx).2];rfl)]
 have hne: ∀x∈L.reverse,(x==61)=false:=by
  intro x hx
  rw[beq_eq_false_iff_ne]
  rintro rfl
  have:=List.all_eq_true.1 h 61 (List.mem_reverse.1 hx)
  rw[eq61]at this;cases this
 have:L.reverse.dropWhile (· ==61)=L.reverse:=by
  cases hr:L.reverse with
  |nil=>rfl
  |cons x l=>rw[List.dropWhile_cons,hne x (by rw[hr];exact List.mem_cons_self)];rfl
 rw[this,List.reverse_reverse]
theorem read_put (s:List UInt8):readS (putS s)=(s,0):=by
 obtain⟨p,L,hp,hl,hv,ha,he⟩:=putS_ok s
 have ht:trimE (putS s)=L:=by rw[he];exact trim_pad L _ ha
 have hpl:(putS s).length=L.length+(4-L.length % 4) % 4:=by rw[he];simp[padS]
 have hq:=runR_QR L
 unfold readS
 rw[ht,hpl]
 generalize runR L=x at hq⊢
 obtain⟨o,b,m⟩:=x
 obtain⟨h1,h2,h3,h4⟩:=hq
 simp only at h1 h2 h3 h4⊢
 have hm:m=p:=by omega
 subst hm
 have hol:o.length=s.length:=by omega
 rw[hv]at h4
 have hb0:b=0∧vB o=vB s:=by
  rcases h1 with rfl|rfl|rfl|rfl<;>simp at h3 h4<;>omega
 rw[if_pos ⟨by omega,by omega,ha,hb0.1,hp⟩,vB_inj o s hol hb0.2]
def read33G:List D→Option (Bool×D)
 | [.x (.str s)]=>some (decide (s.length≤1000000),.tup [.x (.str (readS s).1),.x (.int .i64 (readS s).2)])
 |_=>none
theorem read33G_ok: ∀args r,read33G args=some (true,r)→PCalls Tryd.prog 59 args r:=by
 intro args r h
 unfold read33G at h
 split at h
 ·rename_i s
  simp only[ξI,ξP,ξa,ξe,true_and]at h
  obtain⟨h1,rfl⟩:=h
  exact read33_c s h1
 ·cases h
theorem putS_len (s:List UInt8):(putS s).length≤2*s.length+10:=by
 obtain⟨p,L,hp,hl,hv,ha,he⟩:=putS_ok s
 rw[he];simp[padS];omega
theorem readS_len (t:List UInt8):(readS t).1.length≤t.length:=by
 unfold readS
 split
 ·have:=(runR_QR (trimE t)).2.1
  have:=trimE_len t
  simp only;omega
 ·simp
def seeN (n:Nat):Bool:=decide (32≤n∧n≤126)
def seeA (s:Tx):Bool:=s.all fun c=>seeN c.toNat
def safB (s:Tx):Bool:=((seeA s&&decide (trim s=s))&& !(Lib.hasPrefix s [58]))&& !(Lib.hasPrefix s [60])
theorem lall_snoc {α:Type} (p:α→Bool) (l:List α) (j:Nat) (h:j<l.length):(l.take (j+1)).all p=((l.take j).all p&&p l[j]):=by
 rw[List.take_succ_eq_append_getElem h,List.all_append];simp
theorem lall_false {α:Type} (p:α→Bool) (l:List α) (j:Nat) (h:j<l.length) (hp:p l[j]=false):l.all p=false:=by
 rw[Bool.eq_false_iff];intro hh
 have:=List.all_eq_true.1 hh l[j] (List.getElem_mem h)
 rw[hp]at this;cases this
theorem byteR (s:Tx) (i:Nat) (h:i<s.length):(s.map byteRow)[i]? =some [X.int .u8 (s.getD i 0).toNat]:=by
 simp[h,byteRow]
def tabLd1:Tabs:=addQ (addQ (noTabs) 54 trimG) 55 hasPG
theorem tabLd1_ok:SsOk Tryd.prog tabLd1:=addQ_ok (addQ_ok (noTabs_ok) (G_enters G_ok (p:=i54) rfl) trimG_ok) hasP_enters hasPG_ok
theorem tabLd1_q54 (a:List D):tabLd1.q 54 a=trimG a:=rfl
theorem tabLd1_q55 (a:List D):tabLd1.q 55 a=hasPG a:=rfl
theorem tabLd1_r (f:FuncId) (a:List D) (o:List Ob):tabLd1.r f a o=none:=rfl
theorem tabLd1_k (f:FuncId) (a:List D) (o:List Ob):tabLd1.k f a o=none:=rfl
theorem safe_c (s:Tx) (hl:s.length≤1000000):PCalls Tryd.prog 33 [.x (.str s)] (.x (.bool (safB s))):=by
 unfold safB
 refine FCalls.pure (fcallsG (fz:=true) G_ok (p:=i33) rfl _ (ξ rfl) _ (fun C0 E0=> ?_)) rfl
 dsimp only[i33,qt,qi,qs,qb,qm,qa,qh,qj,qT,qF,qe,ql,qL,qf,q2,q3,q8,qz,qp,qP,qc,qk,qx,qy,qo,qr,qC,argsφ]
 have uu:=ξn @trimG.eq_1 (ξn @trimG.eq_2 (ξn @hasPG.eq_1 (ξn @hasPG.eq_2 (ξn @bytes_all (ξn @bytes_row (ξn @tabLd1_r (ξn @tabLd1_k (ξn @tabLd1_q54 (@tabLd1_q55)))))))))
 have tT:=tabLd1_ok
 refine nz ?_
 refine WI.regB tT [0] ?_
 refine oS ?_
 refine oN ?_
 refine nz ?_
 refine WI.regB tT [0,6,7,8] ?_
 refine oS ?_
 iterate 2 refine oG (hok:=by first|exact se|(clear uu;grind)|exact sd) ?_
 refine oS ?_
 refine oN ?_
 refine nz ?_
 refine WI.loop (fun φ os=> ∃(j:Nat),φ= [(0,.x (.str s)),(6,.ref 0 s.length 0 s.length),(7,.x (.int .i64 s.length)),(8,.x (.int .i64 j))]∧os= [.rows true 5 1 (s.map byteRow)]∧j≤s.length∧seeA (s.take j)=true) (down s.length 8) ?_ (fun φ os hI=> ?_)
 ·exact⟨0,rfl,rfl,by omega,rfl⟩
 ·obtain⟨j,rfl,rfl,hj,hno⟩:=hI
  refine nz ?_
  refine WI.regB tT [0,6,7,8,9] ?_
  refine oG (hok:=by first|exact se|(clear uu;grind)|exact sd) ?_
  refine oN ?_
  refine nz ?_
  refine cd (fun h0=> ?_) (fun h0=> ?_)
  ·have hj4:j<s.length:=by omega
   have hgj:s[j]=s.getD j 0:=by simp[hj4]
   have uu:=ξn uu (byteR s j hj4)
   refine WI.regB tT [0,4,6,7,8] ?_
   iterate 2 refine oG (hok:=by first|exact se|(clear uu;grind)|exact sd) ?_
   refine oS ?_
   refine oN ?_
   refine nz ?_
   refine WI.regB tT [0,6,7,8,17] ?_
   refine oS ?_
   refine oG (hok:=by first|exact se|(clear uu;grind)|exact sd) ?_
   refine oS ?_
   iterate 3 refine oG (hok:=by first|exact se|(clear uu;grind)|exact sd) ?_
   refine oN ?_
   refine nz ?_
   refine cd (fun h1=> ?_) (fun h1=> ?_)
   ·refine WI.regB tT [2] ?_
    refine oS ?_
    refine oN ?_
    refine nz ?_
    refine lf ?_
    rw[show seeA s=false from lall_false _ s j hj4 (by rw[hgj];unfold seeN;clear uu;grind)];rfl
   ·refine WI.regB tT [0,6,7,8] ?_
    refine oG (hok:=by first|exact se|(clear uu;grind)|exact sd) ?_
    refine oS ?_
    refine oN ?_
    refine nz ?_
    exact⟨⟨j+1,rfl,rfl,by omega,by unfold seeA at hno⊢;rw[lall_snoc _ s j hj4,hno,hgj];unfold seeN;clear uu;grind⟩,by simp[down,Ab.get,D.val,intOf?];omega⟩
  ·refine WI.regB tT [2] ?_
   iterate 2 refine oS ?_
   refine oC (hok:=by first|exact se|(clear uu;grind)|exact sd) ?_
   refine oG (hok:=by first|exact se|(clear uu;grind)|exact sd) ?_
   refine oS ?_
   refine oG (hok:=by first|exact se|(clear uu;grind)|exact sd) ?_
   refine oC (hok:=by first|exact se|(clear uu;grind)|exact sd) ?_
   iterate 2 refine oG (hok:=by first|exact se|(clear uu;grind)|exact sd) ?_
   refine oS ?_
   refine oG (hok:=by first|exact se|(clear uu;grind)|exact sd) ?_
   refine oC (hok:=by first|exact se|(clear uu;grind)|exact sd) ?_
   iterate 2 refine oG (hok:=by first|exact se|(clear uu;grind)|exact sd) ?_
   refine oS ?_
   refine oN ?_
   refine nz ?_
   refine lf ?_
   rw[ξT (by omega)]at hno;rw[hno];congr 2;clear uu;rw[Bool.eq_iff_iff];simp;grind
def safeG:List D→Option (Bool×D)
 | [.x (.str s)]=>some (decide (s.length≤1000000),.x (.bool (safB s)))
 |_=>none
theorem safeG_ok: ∀args r,safeG args=some (true,r)→PCalls Tryd.prog 33 args r:=by
 intro args r h
 unfold safeG at h
 split at h
 ·rename_i s
  simp only[ξI,ξP,ξa,ξe,true_and]at h
  obtain⟨h1,rfl⟩:=h
  exact(safe_c s h1)
 ·cases h
def tyL (s:Tx):Bool:=typB s&&decide (lowS s≠ [100,110])
def tyLA (s:Tx) (j:Nat):Bool:=((decide (s≠ [])&&decide (s.length≤64))&&decide (lowS s≠ [100,110]))&&tyU s j
theorem tyLA_eq (s:Tx) (j:Nat):tyLA s j=(decide (lowS s≠ [100,110])&&tyA s j):=by
 unfold tyLA tyA
 cases decide (s≠ [])<;>cases decide (s.length≤64)<;>cases decide (lowS s≠ [100,110])<;>cases tyU s j<;>rfl
theorem tyL_zero (s:Tx):((!s== []&&decide ((s.length:Int)≤64))&& !(lowS s== [100,110]))=tyLA s 0:=by
 unfold tyLA;rw[tyU,Bool.and_true,Bool.eq_iff_iff];simp;omega
theorem tyL_step (s:Tx) (j:Nat):(tyLA s j&&(decide (((lowC (s.getD j 0)).toNat:Int)≥97)&&decide (((lowC (s.getD j 0)).toNat:Int)≤122)||decide ((j:Int)>0)&&(decide (((lowC (s.getD j 0)).toNat:Int)≥48)&&decide (((lowC (s.getD j 0)).toNat:Int)≤57)||((lowC (s.getD j 0)).toNat:Int)==45)))=tyLA s (j+1):=by
 rw[tyLA_eq,tyLA_eq,←ty_step,Bool.and_assoc]
def tabLd2:Tabs:=addQ (noTabs) 73 lowerG
theorem tabLd2_ok:SsOk Tryd.prog tabLd2:=addQ_ok (noTabs_ok) (G_enters G_ok (p:=i73) rfl) lowerG_ok
theorem tabLd2_q73 (a:List D):tabLd2.q 73 a=lowerG a:=rfl
theorem tabLd2_r (f:FuncId) (a:List D) (o:List Ob):tabLd2.r f a o=none:=rfl
theorem tabLd2_k (f:FuncId) (a:List D) (o:List Ob):tabLd2.k f a o=none:=rfl
theorem ltyped_c (s:Tx) (hl:s.length≤1000000):PCalls Tryd.prog 50 [.x (.str s)] (.x (.bool (tyL s))):=by
 have hz:=tyL_zero s
 refine FCalls.pure (fcallsG (fz:=true) G_ok (p:=i50) rfl _ (ξ rfl) _ (fun C0 E0=> ?_)) rfl
 dsimp only[i50,qt,qi,qs,qb,qm,qa,qh,qj,qT,qF,qe,ql,qL,qf,q2,q3,q8,qz,qp,qP,qc,qk,qx,qy,qo,qr,qC,argsφ]
 have uu:=ξn @lowerG.eq_1 (ξn @lowerG.eq_2 (ξn @lowS_len (ξn @bytes_all (ξn @bytes_row (ξn @tabLd2_r (ξn @tabLd2_k (@tabLd2_q73)))))))
 have tT:=tabLd2_ok
 refine nz ?_
 refine WI.regB tT [0] ?_
 refine oS ?_
 refine oN ?_
 refine nz ?_
 refine WI.regB tT [0,3] ?_
 refine oS ?_
 refine oG (hok:=by first|exact se|(clear uu;grind)|exact sd) ?_
 refine oS ?_
 iterate 4 refine oG (hok:=by first|exact se|(clear uu;grind)|exact sd) ?_
 refine oS ?_
 refine oG (hok:=by first|exact se|(clear uu;grind)|exact sd) ?_
 refine oC (hok:=by first|exact se|(clear uu;grind)|exact sd) ?_
 iterate 2 refine oG (hok:=by first|exact se|(clear uu;grind)|exact sd) ?_
 refine oS ?_
 refine oN ?_
 refine nz ?_
 refine WI.regB tT [3,21,22,23] ?_
 refine oS ?_
 refine oC (hok:=by first|exact se|(clear uu;grind)|exact sd) ?_
 iterate 2 refine oG (hok:=by first|exact se|(clear uu;grind)|exact sd) ?_
 refine oS ?_
 refine oN ?_
 refine nz ?_
 refine WI.loop (fun φ os=> ∃(j:Nat),φ= [(3,.x (.bool (tyLA s j))),(21,.ref 0 s.length 0 s.length),(22,.x (.int .i64 s.length)),(23,.x (.int .i64 j))]∧os= [.rows true 5 1 ((lowS s).map byteRow)]∧j≤s.length) (down s.length 23) ?_ (fun φ os hI=> ?_)
 ·exact⟨0,by rw[←hz];first|rfl,rfl,by omega⟩
 ·obtain⟨j,rfl,rfl,hj⟩:=hI
  refine nz ?_
  refine WI.regB tT [3,21,22,23,24] ?_
  refine oG (hok:=by first|exact se|(clear uu;grind)|exact sd) ?_
  refine oN ?_
  refine nz ?_
  refine cd (fun h0=> ?_) (fun h0=> ?_)
  ·have hj4:j<s.length:=by omega
   have uu:=ξn uu (low_row s j hj4)
   refine WI.regB tT [3,4,5,21,22,23] ?_
   refine oS ?_
   iterate 2 refine oG (hok:=by first|exact se|(clear uu;grind)|exact sd) ?_
   iterate 2 refine oS ?_
   refine oN ?_
   refine nz ?_
   refine WI.regB tT [3,4,5,6,21,22,23] ?_
   refine oS ?_
   refine oG (hok:=by first|exact se|(clear uu;grind)|exact sd) ?_
   refine oS ?_
   iterate 3 refine oG (hok:=by first|exact se|(clear uu;grind)|exact sd) ?_
   refine oS ?_
   refine oN ?_
   refine nz ?_
   refine WI.regB tT [3,21,22,23] ?_
   iterate 2 refine oS ?_
   iterate 18 refine oG (hok:=by first|exact se|(clear uu;grind)|exact sd) ?_
   refine oS ?_
   refine oN ?_
   refine nz ?_
   refine WI.regB tT [3,21,22,23] ?_
   refine oG (hok:=by first|exact se|(clear uu;grind)|exact sd) ?_
   refine oS ?_
   refine oN ?_
   refine nz ?_
   exact⟨⟨j+1,by rw[←tyL_step];rfl,rfl,by omega⟩,by simp[down,Ab.get,D.val,intOf?];omega⟩
  ·refine WI.regB tT [2] ?_
   iterate 2 refine oS ?_
   refine oN ?_
   refine nz ?_
   refine lf ?_
   rw[show tyL s=tyLA s j from by rw[show j=s.length by omega,tyLA_eq];unfold tyL typB;rw[Bool.and_comm]]
def ltypedG:List D→Option (Bool×D)
 | [.x (.str s)]=>some (decide (s.length≤1000000),.x (.bool (tyL s)))
 |_=>none
theorem ltypedG_ok: ∀args r,ltypedG args=some (true,r)→PCalls Tryd.prog 50 args r:=by
 intro args r h
 unfold ltypedG at h
 split at h
 ·rename_i s
  simp only[ξI,ξP,ξa,ξe,true_and]at h
  obtain⟨h1,rfl⟩:=h
  exact(ltyped_c s h1)
 ·cases h
def lineL (a v:Tx):Tx:=if v= []then a++ [58,10]else if safB v=true then a++ [58,32]++v++ [10]else a++ [58,58,32]++putS v++ [10]
theorem lineL_len (a v:Tx):(lineL a v).length≤a.length+2*v.length+20:=by
 have:=putS_len v
 unfold lineL
 split
 ·simp only[ξA,ξC,ξN];omega
 split<;>simp only[ξA,ξC,ξN]<;>omega
def tabLd3:Tabs:=addQ (addQ (noTabs) 33 safeG) 34 put33G
theorem tabLd3_ok:SsOk Tryd.prog tabLd3:=addQ_ok (addQ_ok (noTabs_ok) (G_enters G_ok (p:=i33) rfl) safeG_ok) put33_enters put33G_ok
theorem tabLd3_q33 (a:List D):tabLd3.q 33 a=safeG a:=rfl
theorem tabLd3_q34 (a:List D):tabLd3.q 34 a=put33G a:=rfl
theorem tabLd3_r (f:FuncId) (a:List D) (o:List Ob):tabLd3.r f a o=none:=rfl
theorem tabLd3_k (f:FuncId) (a:List D) (o:List Ob):tabLd3.k f a o=none:=rfl
theorem line_c (a v:Tx) (ha:a.length≤1000000) (hv:v.length≤1000000):PCalls Tryd.prog 15 [.x (.str a),.x (.str v)] (.x (.str (lineL a v))):=by
 have hp:=putS_len v
 unfold lineL
 refine FCalls.pure (fcallsG (fz:=true) G_ok (p:=i15) rfl _ (ξ rfl) _ (fun C0 E0=> ?_)) rfl
 dsimp only[i15,qt,qi,qs,qb,qm,qa,qh,qj,qT,qF,qe,ql,qL,qf,q2,q3,q8,qz,qp,qP,qc,qk,qx,qy,qo,qr,qC,argsφ]
 have uu:=ξn @safeG.eq_1 (ξn @safeG.eq_2 (ξn @put33G.eq_1 (ξn @put33G.eq_2 (ξn @tabLd3_r (ξn @tabLd3_k (ξn @tabLd3_q33 (@tabLd3_q34)))))))
 have tT:=tabLd3_ok
 refine nz ?_
 refine WI.regB tT [0,1] ?_
 refine oS ?_
 refine oN ?_
 refine nz ?_
 refine WI.regB tT [0,1,5] ?_
 refine oS ?_
 refine oG (hok:=by first|exact se|(clear uu;grind)|exact sd) ?_
 refine oS ?_
 refine oN ?_
 refine nz ?_
 refine cd (fun h0=> ?_) (fun h0=> ?_)
 ·refine WI.regB tT [4] ?_
  refine oS ?_
  refine oG (hok:=by first|exact se|(clear uu;grind)|exact sd) ?_
  refine oS ?_
  refine oN ?_
  refine nz ?_
  refine lf ?_
  rw[if_pos (by clear uu;grind)]
 ·refine WI.regB tT [0,1,10] ?_
  refine oS ?_
  refine oC (hok:=by first|exact se|(clear uu;grind)|exact sd) ?_
  refine oS ?_
  refine oN ?_
  refine nz ?_
  refine cd (fun h1=> ?_) (fun h1=> ?_)
  ·refine WI.regB tT [4] ?_
   refine oS ?_
   refine oG (hok:=by first|exact se|(clear uu;grind)|exact sd) ?_
   refine oS ?_
   iterate 2 refine oG (hok:=by first|exact se|(clear uu;grind)|exact sd) ?_
   refine oS ?_
   refine oN ?_
   refine nz ?_
   refine lf ?_
   rw[if_neg (by clear uu;grind),if_pos (by clear uu;grind)]
  ·refine WI.regB tT [4] ?_
   refine oS ?_
   refine oG (hok:=by first|exact se|(clear uu;grind)|exact sd) ?_
   refine oS ?_
   refine oC (hok:=by first|exact se|(clear uu;grind)|exact sd) ?_
   iterate 2 refine oG (hok:=by first|exact se|(clear uu;grind)|exact sd) ?_
   refine oS ?_
   refine oN ?_
   refine nz ?_
   refine lf ?_
   rw[if_neg (by clear uu;grind),if_neg (by clear uu;grind)]
def lineG:List D→Option (Bool×D)
 | [.x (.str a),.x (.str v)]=>some (decide (a.length≤1000000)&&(decide (v.length≤1000000)),.x (.str (lineL a v)))
 |_=>none
theorem lineG_ok: ∀args r,lineG args=some (true,r)→PCalls Tryd.prog 15 args r:=by
 intro args r h
 unfold lineG at h
 split at h
 ·rename_i a v
  simp only[ξI,ξP,ξa,ξe,true_and]at h
  obtain⟨⟨h1,h2⟩,rfl⟩:=h
  exact(line_c a v h1 h2)
 ·cases h
def okAt (s:Tx) (i:Nat):Bool:=(seeN (s.getD i 0).toNat&& !(decide (i=0)&&((s.getD i 0).toNat==32||(s.getD i 0).toNat==58||(s.getD i 0).toNat==60)))&& !(decide (i=s.length-1)&&(s.getD i 0).toNat==32)
theorem pre1 (s:Tx) (c:UInt8):Lib.hasPrefix s [c]=decide (0<s.length∧s.getD 0 0=c):=by
 rcases s with _|⟨d,s⟩
 ·rfl
 ·rw[Bool.eq_iff_iff];simp[Lib.hasPrefix,List.isPrefixOf];exact eq_comm
theorem trim_iff (s:Tx):trim s=s↔ ¬(0<s.length∧s.getD 0 0=32)∧ ¬(0<s.length∧s.getD (s.length-1) 0=32):=by
 unfold trim
 constructor
 ·intro h
  have hr: ¬(0<s.length∧s.getD (s.length-1) 0=32):=fun hh=>by
   have h1:=trR_step s hh.1 hh.2
   have h2:=trR_len (s.take (s.length-1))
   have h3:=trL_len (trR s)
   rw[h,h1]at h3
   simp at h2
   omega
  refine⟨fun hh=> ?_,hr⟩
  rw[trR_stop s hr]at h
  have h1:=trL_step s hh.1 hh.2
  have h2:=trL_len (s.drop 1)
  rw[←h1,h]at h2
  simp at h2;omega
 ·rintro⟨h1,h2⟩
  rw[trR_stop s h2,trL_stop s h1]
theorem saf_iff (s:Tx):safB s=true↔ ∀i,i<s.length→okAt s i=true:=by
 unfold safB
 rw[pre1,pre1]
 simp only[ξa,ξe,Bool.not_eq_true',decide_eq_false_iff_not,trim_iff]
 have hs:seeA s=true↔ ∀i,i<s.length→seeN (s.getD i 0).toNat=true:=by
  unfold seeA
  rw[List.all_eq_true]
  constructor
  ·intro h i hi
   rw[show s.getD i 0=s[i] by simp[hi]];exact h _ (List.getElem_mem hi)
  ·intro h x hx
   obtain⟨i,hi,rfl⟩:=List.getElem_of_mem hx
   have:=h i hi
   rwa [show s.getD i 0=s[i] by simp[hi]]at this
 rw[hs]
 constructor
 ·rintro⟨⟨⟨h1,h2,h3⟩,h4⟩,h5⟩ i hi
  have hsee:=h1 i hi
  unfold okAt
  rw[hsee]
  by_cases h0:i=0
  ·subst h0
   have a1:s.getD 0 0≠32:=fun e=>h2 ⟨hi,e⟩
   have a2:s.getD 0 0≠58:=fun e=>h4 ⟨hi,e⟩
   have a3:s.getD 0 0≠60:=fun e=>h5 ⟨hi,e⟩
   have b1:(s.getD 0 0).toNat≠32:=fun e=>a1 (UInt8.toNat_inj.1 e)
   have b2:(s.getD 0 0).toNat≠58:=fun e=>a2 (UInt8.toNat_inj.1 e)
   have b3:(s.getD 0 0).toNat≠60:=fun e=>a3 (UInt8.toNat_inj.1 e)
   generalize s.getD 0 0=c at b1 b2 b3⊢
   simp[b1,b2,b3]
  ·by_cases hl:i=s.length-1
   ·have a1:s.getD i 0≠32:=fun e=>h3 ⟨by omega,by rw[←hl];exact e⟩
    have b1:(s.getD i 0).toNat≠32:=fun e=>a1 (UInt8.toNat_inj.1 e)
    generalize s.getD i 0=c at b1⊢
    simp[h0,b1]
   ·simp[h0,hl]
 ·intro h
  have c0: ∀c:UInt8,(c=32∨c=58∨c=60)→ ¬(0<s.length∧s.getD 0 0=c):=by
   rintro c hc ⟨h1,h2⟩
   have:=h 0 h1
   unfold okAt at this
   rw[h2]at this
   rcases hc with rfl|rfl|rfl<;>simp at this
  refine⟨⟨⟨fun i hi=> ?_,c0 32 (by simp),?_⟩,c0 58 (by simp)⟩,c0 60 (by simp)⟩
  ·have:=h i hi
   unfold okAt at this
   simp only[ξa]at this
   exact this.1.1
  ·rintro⟨h1,h2⟩
   have:=h (s.length-1) (by omega)
   unfold okAt at this
   rw[h2]at this
   simp at this
theorem okAt_eq (s:Tx) (i:Nat) (hi:i<s.length):okAt s i= !((((decide (((s.getD i 0).toNat:Int)<32)||decide (((s.getD i 0).toNat:Int)>126))||(((i:Int)==0)&&(((((s.getD i 0).toNat:Int)==32)||(((s.getD i 0).toNat:Int)==58))||(((s.getD i 0).toNat:Int)==60))))||(((i:Int)==(s.length:Int)-1)&&(((s.getD i 0).toNat:Int)==32)))):=by
 unfold okAt seeN
 rw[Bool.eq_iff_iff]
 simp only[ξa,Bool.or_eq_true,Bool.not_eq_true',Bool.or_eq_false_iff,Bool.and_eq_false_iff,ξe,decide_eq_false_iff_not,beq_iff_eq,beq_eq_false_iff_ne,ne_eq]
 omega
theorem safeR_c (s:Tx) (hl:s.length≤1000000):PCalls Tryd.prog 35 [.x (.str s)] (.x (.bool (safB s))):=by
 refine FCalls.pure (fcallsG (fz:=true) G_ok (p:=i35) rfl _ (ξ rfl) _ (fun C0 E0=> ?_)) rfl
 dsimp only[i35,qt,qi,qs,qb,qm,qa,qh,qj,qT,qF,qe,ql,qL,qf,q2,q3,q8,qz,qp,qP,qc,qk,qx,qy,qo,qr,qC,argsφ]
 have uu:=trivial
 have tT:=(noTabs_ok:SsOk Tryd.prog noTabs)
 refine nz ?_
 refine WI.regB tT [0] ?_
 refine oS ?_
 refine oN ?_
 refine nz ?_
 refine WI.regB tT [0,3] ?_
 refine oS ?_
 refine oN ?_
 refine nz ?_
 refine WI.loop (fun φ os=> ∃(j:Nat),φ= [(0,.x (.str s)),(3,.x (.int .i64 j))]∧os= []∧j≤s.length∧ ∀k,k<j→okAt s k=true) (down s.length 3) ?_ (fun φ os hI=> ?_)
 ·exact⟨0,rfl,rfl,by omega,fun k hk=>by omega⟩
 ·obtain⟨j,rfl,rfl,hj,hno⟩:=hI
  refine nz ?_
  refine WI.regB tT [0,3,7] ?_
  iterate 2 refine oS ?_
  iterate 2 refine oG (hok:=by first|exact se|(clear uu;grind)|exact sd) ?_
  refine oN ?_
  refine nz ?_
  refine cd (fun h0=> ?_) (fun h0=> ?_)
  ·have hj4:j<s.length:=by omega
   have q5:=okAt_eq s j hj4
   refine WI.regB tT [0,3,54] ?_
   iterate 2 refine oS ?_
   iterate 2 refine oG (hok:=by first|exact se|(clear uu;grind)|exact sd) ?_
   refine oS ?_
   iterate 5 refine oG (hok:=by first|exact se|(clear uu;grind)|exact sd) ?_
   refine oS ?_
   iterate 21 refine oG (hok:=by first|exact se|(clear uu;grind)|exact sd) ?_
   refine oS ?_
   iterate 12 refine oG (hok:=by first|exact se|(clear uu;grind)|exact sd) ?_
   refine oN ?_
   refine nz ?_
   refine cd (fun h1=> ?_) (fun h1=> ?_)
   ·refine WI.regB tT [2] ?_
    refine oS ?_
    refine oN ?_
    refine nz ?_
    refine lf ?_
    rw[show safB s=false from by rw[Bool.eq_false_iff];intro e;have:=(saf_iff s).1 e j hj4;rw[q5]at this;clear uu;grind]
   ·refine WI.regB tT [0,3] ?_
    refine oS ?_
    refine oG (hok:=by first|exact se|(clear uu;grind)|exact sd) ?_
    refine oS ?_
    refine oN ?_
    refine nz ?_
    exact⟨⟨j+1,rfl,rfl,by omega,fun k hk=>by by_cases e:k=j;(subst e;rw[q5];clear uu;grind);exact hno k (by omega)⟩,by simp[down,Ab.get,D.val,intOf?];omega⟩
  ·refine WI.regB tT [2] ?_
   refine oS ?_
   refine oN ?_
   refine nz ?_
   refine lf ?_
   rw[show safB s=true from(saf_iff s).2 (fun k hk=>hno k (by omega))]
def safeRG:List D→Option (Bool×D)
 | [.x (.str s)]=>some (decide (s.length≤1000000),.x (.bool (safB s)))
 |_=>none
theorem safeRG_ok: ∀args r,safeRG args=some (true,r)→PCalls Tryd.prog 35 args r:=by
 intro args r h
 unfold safeRG at h
 split at h
 ·rename_i s
  simp only[ξI,ξP,ξa,ξe,true_and]at h
  obtain⟨h1,rfl⟩:=h
  exact(safeR_c s h1)
 ·cases h
def tabLd4:Tabs:=addQ (addQ (noTabs) 35 safeRG) 34 put33G
theorem tabLd4_ok:SsOk Tryd.prog tabLd4:=addQ_ok (addQ_ok (noTabs_ok) (G_enters G_ok (p:=i35) rfl) safeRG_ok) put33_enters put33G_ok
theorem tabLd4_q35 (a:List D):tabLd4.q 35 a=safeRG a:=rfl
theorem tabLd4_q34 (a:List D):tabLd4.q 34 a=put33G a:=rfl
theorem tabLd4_r (f:FuncId) (a:List D) (o:List Ob):tabLd4.r f a o=none:=rfl
theorem tabLd4_k (f:FuncId) (a:List D) (o:List Ob):tabLd4.k f a o=none:=rfl
theorem lineR_c (a v:Tx) (ha:a.length≤1000000) (hv:v.length≤1000000):PCalls Tryd.prog 16 [.x (.str a),.x (.str v)] (.x (.str (lineL a v))):=by
 have hp:=putS_len v
 unfold lineL
 refine FCalls.pure (fcallsG (fz:=true) G_ok (p:=i16) rfl _ (ξ rfl) _ (fun C0 E0=> ?_)) rfl
 dsimp only[i16,qt,qi,qs,qb,qm,qa,qh,qj,qT,qF,qe,ql,qL,qf,q2,q3,q8,qz,qp,qP,qc,qk,qx,qy,qo,qr,qC,argsφ]
 have uu:=ξn @safeRG.eq_1 (ξn @safeRG.eq_2 (ξn @put33G.eq_1 (ξn @put33G.eq_2 (ξn @tabLd4_r (ξn @tabLd4_k (ξn @tabLd4_q34 (@tabLd4_q35)))))))
 have tT:=tabLd4_ok
 refine nz ?_
 refine WI.regB tT [0,1] ?_
 refine oS ?_
 refine oN ?_
 refine nz ?_
 refine WI.regB tT [0,1,5] ?_
 refine oS ?_
 refine oG (hok:=by first|exact se|(clear uu;grind)|exact sd) ?_
 refine oS ?_
 refine oN ?_
 refine nz ?_
 refine cd (fun h0=> ?_) (fun h0=> ?_)
 ·refine WI.regB tT [4] ?_
  refine oS ?_
  refine oG (hok:=by first|exact se|(clear uu;grind)|exact sd) ?_
  refine oS ?_
  refine oN ?_
  refine nz ?_
  refine lf ?_
  rw[if_pos (by clear uu;grind)]
 ·refine WI.regB tT [0,1,10] ?_
  refine oS ?_
  refine oC (hok:=by first|exact se|(clear uu;grind)|exact sd) ?_
  refine oS ?_
  refine oN ?_
  refine nz ?_
  refine cd (fun h1=> ?_) (fun h1=> ?_)
  ·refine WI.regB tT [4] ?_
   refine oS ?_
   refine oG (hok:=by first|exact se|(clear uu;grind)|exact sd) ?_
   refine oS ?_
   iterate 2 refine oG (hok:=by first|exact se|(clear uu;grind)|exact sd) ?_
   refine oS ?_
   refine oN ?_
   refine nz ?_
   refine lf ?_
   rw[if_neg (by clear uu;grind),if_pos (by clear uu;grind)]
  ·refine WI.regB tT [4] ?_
   refine oS ?_
   refine oG (hok:=by first|exact se|(clear uu;grind)|exact sd) ?_
   refine oS ?_
   refine oC (hok:=by first|exact se|(clear uu;grind)|exact sd) ?_
   iterate 2 refine oG (hok:=by first|exact se|(clear uu;grind)|exact sd) ?_
   refine oS ?_
   refine oN ?_
   refine nz ?_
   refine lf ?_
   rw[if_neg (by clear uu;grind),if_neg (by clear uu;grind)]
def lineRG:List D→Option (Bool×D)
 | [.x (.str a),.x (.str v)]=>some (decide (a.length≤1000000)&&(decide (v.length≤1000000)),.x (.str (lineL a v)))
 |_=>none
theorem lineRG_ok: ∀args r,lineRG args=some (true,r)→PCalls Tryd.prog 16 args r:=by
 intro args r h
 unfold lineRG at h
 split at h
 ·rename_i a v
  simp only[ξI,ξP,ξa,ξe,true_and]at h
  obtain⟨⟨h1,h2⟩,rfl⟩:=h
  exact(lineR_c a v h1 h2)
 ·cases h
theorem join_map (l:List (List UInt8)):(l.map bstr).map (·.data.toList)=l:=by
 rw[List.map_map]
 conv=>rhs;rw[←List.map_id l]
 exact List.map_congr_left fun x _=>by simp[bstr]
theorem join_c (l:List (List UInt8)) (sep:List UInt8) (h:(Lib.join l sep).length≤140737488355328) (hl:l.length≤140737488355328):PCalls Tryd.prog 30 [.x (.sl (rows rStr l)),.x (.str sep)] (.x (.str (Lib.join l sep))):=by
 intro w st vs hst hvl
 obtain⟨hsz,hv⟩:=hvl
 obtain⟨v0,v1,rfl⟩: ∃v0 v1,vs= #[v0,v1]:=by
  obtain⟨vl⟩:=vs
  match vl,hsz with
  | [a,b],_=>exact⟨a,b,rfl⟩
 have h0:=hv 0 _ v0 rfl rfl
 have h1:=hv 1 _ v1 rfl rfl
 clear hv hsz
 cases h0 with
 |x h0=>
 cases h1 with
 |x h1=>
 cases h1 with
 |str _=>
 cases h0 with
 |sl _ a n c sz val hn hc hm hsz hcell hnil hsp hval=>
  rw[rows_len]at hn
  subst hn
  match l,h,hl,hc,hsz,hcell,hval with
  | [],_,_,_,_,_,_=>
   refine(Tryd.strings_Join_none a c (bstr sep) w).mono ?_
   rintro e w' ⟨rfl,rfl⟩
   exact⟨_,st,rfl,Kept.refl _ _,fun _ _ h=>h,fun _ _ h=> .inl h,.x (.str [])⟩
  |x::r,h,hl,hc,hsz,hcell,hval=>
   obtain rfl:1=sz:=hsz [.str x] (by simp[rows,rStr])
   obtain⟨b,off,rfl,hs0,_⟩:=hcell 0 0 (by simp) (by omega)
   have hcells: ∀(j:Nat) y,((x::r).map bstr)[j]? =some y→w.cell? ⟨b,off+j,none⟩=some (.string y):=by
    intro j y hy
    rw[ξp]at hy
    obtain⟨z,hz,rfl⟩:=ξM hy
    have hj:j<(x::r).length:=(ξG hz).1
    obtain⟨b',off',e,_,hw⟩:=hcell j 0 hj (by omega)
    simp only[ξI,Addr.mk.injEq]at e
    obtain⟨rfl,rfl,_⟩:=e
    have hx:=hval j 0 [.str z] (.str z) (by simp only[rows,ξp,hz];rfl) rfl
    rw[show off+j=off+j*1+0 by omega,hw]
    generalize val j 0=u at hx
    cases hx with
    |str _=>rfl
   have hlen:(Lib.join (((x::r).map bstr).map (·.data.toList)) (bstr sep).data.toList).length≤140737488355328:=by
    rw[join_map];simpa[bstr]using h
   have hc':((x::r).map bstr).length≤c:=by rw[List.length_map];exact hc
   have:=Tryd.strings_Join b off c ((x::r).map bstr) (bstr sep) w hcells (hst _ _ hs0) (by rw[List.length_map];exact hl) hc' hlen
   rw[List.length_map,join_map]at this
   refine this.mono ?_
   rintro e w' ⟨rfl,hb⟩
   refine⟨_,st,rfl,Kept.of_none (Ext.grown hb none),fun _ _ h=>h,fun _ _ h=> .inl h,?_⟩
   have:(bstr sep).data.toList=sep:=by simp[bstr]
   rw[this]
   exact .x (.str _)
theorem join_enters:Go.Ab.Enters Tryd.prog 30:=Go.Proofs.enters_of Tryd.lays156.f156 (by kernel_rfl) rfl
def badE (e:TEntry):Bool:=decide (e.1= [])||e.2.1.any fun a=> !tyL a.1
def noV (e:TEntry):Bool:=e.2.1.any fun a=>decide (a.2.1= [])
def chkL (l:List TEntry):Int:=if l.length>1024 then 3 else if l.any badE=true then 13 else if l.any noV=true then 5 else 0
def smE (e:TEntry):Prop:=e.1.length≤2000∧e.2.1.length≤2000∧ ∀a∈e.2.1,a.1.length≤2000∧a.2.1.length≤2000∧ ∀v∈a.2.1,v.length≤2000
def smL (l:List TEntry):Prop:= ∀e∈l,smE e
instance (e:TEntry):Decidable (smE e):=by unfold smE;infer_instance
instance (l:List TEntry):Decidable (smL l):=by unfold smL;infer_instance
theorem any_snoc {α:Type} (p:α→Bool) (l:List α) (j:Nat) (h:j<l.length):(l.take (j+1)).any p=((l.take j).any p||p l[j]):=by
 rw[List.take_succ_eq_append_getElem h,List.any_append];simp
theorem any_true {α:Type} (p:α→Bool) (l:List α) (j:Nat) (h:j<l.length) (hp:p l[j]=true):l.any p=true:=List.any_eq_true.2 ⟨l[j],List.getElem_mem h,hp⟩
def smC (l:List TEntry):Prop:= ∀e∈l,e.2.1.length≤1000000000∧ ∀a∈e.2.1,a.1.length≤1000000
instance (l:List TEntry):Decidable (smC l):=by unfold smC;infer_instance
theorem smL_C {l:List TEntry} (h:smL l):smC l:=fun e he=>⟨by have:=(h e he).2.1;omega,fun a ha=>by have:=((h e he).2.2 a ha).1;omega⟩
def tabLd5:Tabs:=addQ (noTabs) 50 ltypedG
theorem tabLd5_ok:SsOk Tryd.prog tabLd5:=addQ_ok (noTabs_ok) (G_enters G_ok (p:=i50) rfl) ltypedG_ok
theorem tabLd5_q50 (a:List D):tabLd5.q 50 a=ltypedG a:=rfl
theorem tabLd5_r (f:FuncId) (a:List D) (o:List Ob):tabLd5.r f a o=none:=rfl
theorem tabLd5_k (f:FuncId) (a:List D) (o:List Ob):tabLd5.k f a o=none:=rfl
theorem check_c (l:List TEntry) (hs:smC l):PCalls Tryd.prog 28 [.x (.sl (rows rEntry l))] (.x (.int .i64 (chkL l))):=by
 unfold chkL
 refine FCalls.pure (fcallsG (fz:=true) G_ok (p:=i28) rfl _ (ξ rfl) _ (fun C0 E0=> ?_)) rfl
 dsimp only[i28,qt,qi,qs,qb,qm,qa,qh,qj,qT,qF,qe,ql,qL,qf,q2,q3,q8,qz,qp,qP,qc,qk,qx,qy,qo,qr,qC,argsφ]
 have uu:=ξn @ltypedG.eq_1 (ξn @ltypedG.eq_2 (ξn @tabLd5_r (ξn @tabLd5_k (@tabLd5_q50))))
 have tT:=tabLd5_ok
 refine nz ?_
 refine WI.regB tT [0] ?_
 refine oS ?_
 refine oN ?_
 refine nz ?_
 refine WI.regB tT [0,13] ?_
 refine oS ?_
 iterate 2 refine oG (hok:=by first|exact se|(clear uu;grind)|exact sd) ?_
 refine oN ?_
 refine nz ?_
 refine cd (fun h0=> ?_) (fun h0=> ?_)
 ·refine WI.regB tT [2] ?_
  refine oS ?_
  refine oN ?_
  refine nz ?_
  refine lf ?_
  rw[if_pos (by clear uu;grind)]
 ·have n0: ¬l.length>1024:=by clear uu;grind
  rw[if_neg n0]
  refine WI.regB tT [0,14,15,16] ?_
  refine oS ?_
  refine oG (hok:=by first|exact se|(clear uu;grind)|exact sd) ?_
  refine oS ?_
  refine oN ?_
  refine nz ?_
  refine WI.loop (fun φ os=> ∃(i:Nat),φ= [(0,.x (.sl (rows rEntry l))),(14,.x (.sl (rows rEntry l))),(15,.x (.int .i64 l.length)),(16,.x (.int .i64 i))]∧os= []∧i≤l.length∧(l.take i).any badE=false) (down l.length 16) ?_ (fun φ os hI=> ?_)
  ·exact⟨0,rfl,rfl,by omega,rfl⟩
  ·obtain⟨i,rfl,rfl,hi,hno⟩:=hI
   refine nz ?_
   refine WI.regB tT [0,14,15,16,17] ?_
   refine oG (hok:=by first|exact se|(clear uu;grind)|exact sd) ?_
   refine oN ?_
   refine nz ?_
   refine cd (fun h1=> ?_) (fun h1=> ?_)
   ·have hi4:i<l.length:=by omega
    have hse:=hs _ (List.getElem_mem hi4)
    have hal:=hse.1
    refine WI.regB tT [0,4,14,15,16] ?_
    iterate 2 refine oG (hok:=by first|exact se|(clear uu;grind)|exact sd) ?_
    refine oG ?_
    refine oG (hok:=by first|exact se|(clear uu;grind)|exact sd) ?_
    refine oN ?_
    refine nz ?_
    refine WI.regB tT [0,4,14,15,16,22] ?_
    refine oS ?_
    iterate 2 refine oG (hok:=by first|exact se|(clear uu;grind)|exact sd) ?_
    refine oN ?_
    refine nz ?_
    refine cd (fun h2=> ?_) (fun h2=> ?_)
    ·refine WI.regB tT [2] ?_
     refine oS ?_
     refine oN ?_
     refine nz ?_
     refine lf ?_
     rw[if_pos (any_true badE l i hi4 (by unfold badE;clear uu;grind))]
    ·refine WI.post ?_
     refine WI.regB tT [0,14,15,16,24,25,26] ?_
     refine oS ?_
     iterate 2 refine oG (hok:=by first|exact se|(clear uu;grind)|exact sd) ?_
     refine oS ?_
     refine oP ?_
     refine pPick [] ?_
     refine pEnd ?_
     refine nz ?_
     refine WI.loop (fun φ os=> ∃(k:Nat),φ= [(0,.x (.sl (rows rEntry l))),(14,.x (.sl (rows rEntry l))),(15,.x (.int .i64 l.length)),(16,.x (.int .i64 i)),(24,.x (.sl (rows rAttr l[i].2.1))),(25,.x (.int .i64 l[i].2.1.length)),(26,.x (.int .i64 k))]∧os= []∧k≤l[i].2.1.length∧(l[i].2.1.take k).any (fun a=> !tyL a.1)=false) (down l[i].2.1.length 26) ?_ (fun φ os hI=> ?_)
     ·exact⟨0,rfl,rfl,by omega,rfl⟩
     ·obtain⟨k,rfl,rfl,hk,hnk⟩:=hI
      refine nz ?_
      refine WI.regB tT [0,14,15,16,24,25,26,27] ?_
      refine oG (hok:=by first|exact se|(clear uu;grind)|exact sd) ?_
      refine oN ?_
      refine nz ?_
      refine cd (fun h3=> ?_) (fun h3=> ?_)
      ·have hk4:k<l[i].2.1.length:=by omega
       have hsa:=hse.2 _ (List.getElem_mem hk4)
       have uu:=ξn uu (ξt (show(l[i].2.1[k]).1.length≤1000000 by omega))
       refine WI.regB tT [0,6,14,15,16,24,25,26] ?_
       iterate 2 refine oG (hok:=by first|exact se|(clear uu;grind)|exact sd) ?_
       refine oG ?_
       refine oG (hok:=by first|exact se|(clear uu;grind)|exact sd) ?_
       refine oN ?_
       refine nz ?_
       refine WI.post ?_
       refine WI.regB tT [0,14,15,16,24,25,26,33] ?_
       refine oS ?_
       refine oG (hok:=by first|exact se|(clear uu;grind)|exact sd) ?_
       refine oC (hok:=by first|exact se|(clear uu;grind)|exact sd) ?_
       refine oG (hok:=by first|exact se|(clear uu;grind)|exact sd) ?_
       refine oP ?_
       refine pPick [] ?_
       refine pEnd ?_
       refine nz ?_
       refine cd (fun h4=> ?_) (fun h4=> ?_)
       ·refine WI.regB tT [2] ?_
        refine oS ?_
        refine oN ?_
        refine nz ?_
        refine lf ?_
        rw[if_pos (any_true badE l i hi4 (by unfold badE;rw[any_true _ l[i].2.1 k hk4 (by clear uu;grind),Bool.or_true]))]
       ·refine WI.regB tT [0,14,15,16,24,25,26] ?_
        refine oG (hok:=by first|exact se|(clear uu;grind)|exact sd) ?_
        refine oS ?_
        refine oN ?_
        refine nz ?_
        exact⟨⟨k+1,rfl,rfl,by omega,by rw[any_snoc _ l[i].2.1 k hk4,hnk];clear uu;grind⟩,by simp[down,Ab.get,D.val,intOf?];omega⟩
      ·have hbe:badE l[i]=false:=by unfold badE;rw[ξT (by omega)]at hnk;rw[hnk];clear uu;grind
       refine WI.regB tT [0,14,15,16] ?_
       refine oG (hok:=by first|exact se|(clear uu;grind)|exact sd) ?_
       refine oS ?_
       refine oN ?_
       refine nz ?_
       exact⟨⟨i+1,rfl,rfl,by omega,by rw[any_snoc _ l i hi4,hno,hbe];rfl⟩,by simp[down,Ab.get,D.val,intOf?];omega⟩
   ·rw[ξT (by omega)]at hno;rw[if_neg (by rw[hno];simp)]
    refine WI.regB tT [36,37,38] ?_
    refine oS ?_
    refine oG (hok:=by first|exact se|(clear uu;grind)|exact sd) ?_
    refine oS ?_
    refine oN ?_
    refine nz ?_
    refine WI.loop (fun φ os=> ∃(i:Nat),φ= [(36,.x (.sl (rows rEntry l))),(37,.x (.int .i64 l.length)),(38,.x (.int .i64 i))]∧os= []∧i≤l.length∧(l.take i).any noV=false) (down l.length 38) ?_ (fun φ os hI=> ?_)
    ·exact⟨0,rfl,rfl,by omega,rfl⟩
    ·obtain⟨i,rfl,rfl,hi,hno⟩:=hI
     refine nz ?_
     refine WI.regB tT [36,37,38,39] ?_
     refine oG (hok:=by first|exact se|(clear uu;grind)|exact sd) ?_
     refine oN ?_
     refine nz ?_
     refine cd (fun h5=> ?_) (fun h5=> ?_)
     ·have hi4:i<l.length:=by omega
      have hse:=hs _ (List.getElem_mem hi4)
      have hal:=hse.1
      refine WI.regB tT [8,36,37,38] ?_
      iterate 2 refine oG (hok:=by first|exact se|(clear uu;grind)|exact sd) ?_
      refine oG ?_
      refine oG (hok:=by first|exact se|(clear uu;grind)|exact sd) ?_
      refine oN ?_
      refine nz ?_
      refine WI.post ?_
      refine WI.regB tT [36,37,38,43,44,45] ?_
      refine oS ?_
      iterate 2 refine oG (hok:=by first|exact se|(clear uu;grind)|exact sd) ?_
      refine oS ?_
      refine oP ?_
      refine pPick [] ?_
      refine pEnd ?_
      refine nz ?_
      refine WI.loop (fun φ os=> ∃(k:Nat),φ= [(36,.x (.sl (rows rEntry l))),(37,.x (.int .i64 l.length)),(38,.x (.int .i64 i)),(43,.x (.sl (rows rAttr l[i].2.1))),(44,.x (.int .i64 l[i].2.1.length)),(45,.x (.int .i64 k))]∧os= []∧k≤l[i].2.1.length∧(l[i].2.1.take k).any (fun a=>decide (a.2.1= []))=false) (down l[i].2.1.length 45) ?_ (fun φ os hI=> ?_)
      ·exact⟨0,rfl,rfl,by omega,rfl⟩
      ·obtain⟨k,rfl,rfl,hk,hnk⟩:=hI
       refine nz ?_
       refine WI.regB tT [36,37,38,43,44,45,46] ?_
       refine oG (hok:=by first|exact se|(clear uu;grind)|exact sd) ?_
       refine oN ?_
       refine nz ?_
       refine cd (fun h6=> ?_) (fun h6=> ?_)
       ·have hk4:k<l[i].2.1.length:=by omega
        refine WI.regB tT [10,36,37,38,43,44,45] ?_
        iterate 2 refine oG (hok:=by first|exact se|(clear uu;grind)|exact sd) ?_
        refine oG ?_
        refine oG (hok:=by first|exact se|(clear uu;grind)|exact sd) ?_
        refine oN ?_
        refine nz ?_
        refine WI.post ?_
        refine WI.regB tT [36,37,38,43,44,45,52] ?_
        refine oS ?_
        iterate 3 refine oG (hok:=by first|exact se|(clear uu;grind)|exact sd) ?_
        refine oP ?_
        refine pPick [] ?_
        refine pEnd ?_
        refine nz ?_
        refine cd (fun h7=> ?_) (fun h7=> ?_)
        ·refine WI.regB tT [2] ?_
         refine oS ?_
         refine oN ?_
         refine nz ?_
         refine lf ?_
         rw[if_pos (any_true noV l i hi4 (any_true _ l[i].2.1 k hk4 (ξt (List.length_eq_zero_iff.1 (by omega)))))]
        ·have hne:l[i].2.1[k].2.1≠ []:=fun e=>by rw[e]at h7;simp at h7
         refine WI.regB tT [36,37,38,43,44,45] ?_
         refine oG (hok:=by first|exact se|(clear uu;grind)|exact sd) ?_
         refine oS ?_
         refine oN ?_
         refine nz ?_
         exact⟨⟨k+1,rfl,rfl,by omega,by rw[any_snoc _ l[i].2.1 k hk4,hnk,decide_eq_false hne];rfl⟩,by simp[down,Ab.get,D.val,intOf?];omega⟩
       ·have hbe:noV l[i]=false:=by unfold noV;rw[ξT (by omega)]at hnk;exact hnk
        refine WI.regB tT [36,37,38] ?_
        refine oG (hok:=by first|exact se|(clear uu;grind)|exact sd) ?_
        refine oS ?_
        refine oN ?_
        refine nz ?_
        exact⟨⟨i+1,rfl,rfl,by omega,by rw[any_snoc _ l i hi4,hno,hbe];rfl⟩,by simp[down,Ab.get,D.val,intOf?];omega⟩
     ·refine WI.regB tT [2] ?_
      refine oS ?_
      refine oN ?_
      refine nz ?_
      refine lf ?_
      rw[ξT (by omega)]at hno;rw[if_neg (by rw[hno];simp)]
def checkG:List D→Option (Bool×D)
 | [.x (.sl L)]=>(unrows rEntry L).bind fun l=>some (decide (smC l),.x (.int .i64 (chkL l)))
 |_=>none
theorem checkG_ok: ∀args r,checkG args=some (true,r)→PCalls Tryd.prog 28 args r:=by
 intro args r h
 unfold checkG at h
 split at h
 ·rename_i L
  obtain⟨l,hr0,h⟩:=ξB h
  simp only[ξI,ξP,ξa,ξe,true_and]at h
  obtain⟨h1,rfl⟩:=h
  rw[←rows_unrows good_rEntry hr0]
  exact(check_c l h1)
 ·cases h
abbrev dnT:Tx:= [100,110]
def valL (a:TAttr):Tx:=a.2.1.flatMap (lineL a.1)
def attL (l:List TAttr):Tx:=l.flatMap valL
def oneL (e:TEntry):Tx:=lineL dnT e.1++attL e.2.1
theorem fm_len {α:Type} (f:α→Tx) (B:Nat): ∀l:List α,(∀x∈l,(f x).length≤B)→(l.flatMap f).length≤l.length*B
 | [],_=>by simp
 |x::l,h=>by
  have h1:=h x List.mem_cons_self
  have ih:=fm_len f B l (fun y hy=>h y (List.mem_cons_of_mem _ hy))
  simp only[List.flatMap_cons,ξA,ξC,Nat.add_mul,Nat.one_mul];omega
theorem fm_snoc {α:Type} (f:α→Tx) (l:List α) (j:Nat) (h:j<l.length):(l.take (j+1)).flatMap f=(l.take j).flatMap f++f l[j]:=by
 rw[List.take_succ_eq_append_getElem h,List.flatMap_append];simp
theorem valL_len (a:TAttr) (h:a.1.length≤2000∧a.2.1.length≤2000∧ ∀v∈a.2.1,v.length≤2000):(valL a).length≤2000*6020:=by
 refine Nat.le_trans (fm_len (lineL a.1) 6020 a.2.1 (fun v hv=> ?_)) (Nat.mul_le_mul_right _ h.2.1)
 have:=lineL_len a.1 v
 have:=h.2.2 v hv
 omega
theorem attL_len (l:List TAttr) (hl:l.length≤2000) (h: ∀a∈l,a.1.length≤2000∧a.2.1.length≤2000∧ ∀v∈a.2.1,v.length≤2000):(attL l).length≤2000*(2000*6020):=
 Nat.le_trans (fm_len valL (2000*6020) l (fun a ha=>valL_len a (h a ha))) (Nat.mul_le_mul_right _ hl)
theorem oneL_len (e:TEntry) (h:smE e):(oneL e).length≤24080006022:=by
 have h1:=attL_len e.2.1 h.2.1 h.2.2
 have h2:=lineL_len dnT e.1
 have h3:=h.1
 unfold oneL
 simp only[ξA,ξC,ξN]at h2⊢
 omega
def tabLd6:Tabs:=addQ (noTabs) 15 lineG
theorem tabLd6_ok:SsOk Tryd.prog tabLd6:=addQ_ok (noTabs_ok) (G_enters G_ok (p:=i15) rfl) lineG_ok
theorem tabLd6_q15 (a:List D):tabLd6.q 15 a=lineG a:=rfl
theorem tabLd6_r (f:FuncId) (a:List D) (o:List Ob):tabLd6.r f a o=none:=rfl
theorem tabLd6_k (f:FuncId) (a:List D) (o:List Ob):tabLd6.k f a o=none:=rfl
theorem one_c (e:TEntry) (hs:smE e):PCalls Tryd.prog 29 [.agg [.x (.str e.1),.x (.sl (rows rAttr e.2.1))]] (.x (.str (oneL e))):=by
 have hd1:decide (e.1.length≤1000000)=true:=ξt (by have:=hs.1;omega)
 have hal:=hs.2.1
 have hln:=lineL_len dnT e.1
 have hdl:=hs.1
 simp only[ξC,ξN]at hln
 refine FCalls.pure (fcallsG (fz:=true) G_ok (p:=i29) rfl _ (ξ rfl) _ (fun C0 E0=> ?_)) rfl
 dsimp only[i29,qt,qi,qs,qb,qm,qa,qh,qj,qT,qF,qe,ql,qL,qf,q2,q3,q8,qz,qp,qP,qc,qk,qx,qy,qo,qr,qC,argsφ]
 have uu:=ξn @lineG.eq_1 (ξn @lineG.eq_2 (ξn hd1 (ξn @tabLd6_r (ξn @tabLd6_k (@tabLd6_q15)))))
 have tT:=tabLd6_ok
 refine nz ?_
 refine WI.regB tT [1] ?_
 refine oG ?_
 refine oS ?_
 refine oN ?_
 refine nz ?_
 refine WI.regB tT [1,3] ?_
 refine oS ?_
 refine oG (hok:=by first|exact se|(clear uu;grind)|(refine ξt ?_;clear uu;simp only[ξA,ξC,ξN];omega)|exact sd) ?_
 refine oC (hok:=by first|exact se|(clear uu;grind)|(refine ξt ?_;clear uu;simp only[ξA,ξC,ξN];omega)|exact sd) ?_
 refine oS ?_
 refine oN ?_
 refine nz ?_
 refine WI.post ?_
 refine WI.regB tT [3,12,13,14] ?_
 refine oS ?_
 iterate 2 refine oG (hok:=by first|exact se|(clear uu;grind)|(refine ξt ?_;clear uu;simp only[ξA,ξC,ξN];omega)|exact sd) ?_
 refine oS ?_
 refine oP ?_
 refine pPick [] ?_
 refine pEnd ?_
 refine nz ?_
 refine WI.loop (fun φ os=> ∃(i:Nat),φ= [(3,.x (.str (lineL dnT e.1++attL (e.2.1.take i)))),(12,.x (.sl (rows rAttr e.2.1))),(13,.x (.int .i64 e.2.1.length)),(14,.x (.int .i64 i))]∧os= []∧i≤e.2.1.length) (down e.2.1.length 14) ?_ (fun φ os hI=> ?_)
 ·exact⟨0,by simp[attL],rfl,by omega⟩
 ·obtain⟨i,rfl,rfl,hi⟩:=hI
  refine nz ?_
  refine WI.regB tT [3,12,13,14,15] ?_
  refine oG (hok:=by first|exact se|(clear uu;grind)|(refine ξt ?_;clear uu;simp only[ξA,ξC,ξN];omega)|exact sd) ?_
  refine oN ?_
  refine nz ?_
  refine cd (fun h0=> ?_) (fun h0=> ?_)
  ·have hi4:i<e.2.1.length:=by omega
   have hse:=hs.2.2 _ (List.getElem_mem hi4)
   have hvl:=hse.2.1
   have htl:=hse.1
   have hb1:=attL_len (e.2.1.take i) (by rw[List.length_take];omega) (fun a ha=>hs.2.2 a (List.mem_of_mem_take ha))
   have hst:attL (e.2.1.take (i+1))=attL (e.2.1.take i)++valL e.2.1[i]:=fm_snoc valL e.2.1 i hi4
   refine WI.regB tT [3,5,12,13,14] ?_
   iterate 2 refine oG (hok:=by first|exact se|(clear uu;grind)|(refine ξt ?_;clear uu;simp only[ξA,ξC,ξN];omega)|exact sd) ?_
   refine oG ?_
   refine oG (hok:=by first|exact se|(clear uu;grind)|(refine ξt ?_;clear uu;simp only[ξA,ξC,ξN];omega)|exact sd) ?_
   refine oN ?_
   refine nz ?_
   refine WI.regB tT [3,5,12,13,14,19,20,21] ?_
   refine oS ?_
   iterate 2 refine oG (hok:=by first|exact se|(clear uu;grind)|(refine ξt ?_;clear uu;simp only[ξA,ξC,ξN];omega)|exact sd) ?_
   refine oS ?_
   refine oN ?_
   refine nz ?_
   refine WI.loop (fun φ os=> ∃(k:Nat),φ= [(3,.x (.str (lineL dnT e.1++attL (e.2.1.take i)++(e.2.1[i].2.1.take k).flatMap (lineL e.2.1[i].1)))),(12,.x (.sl (rows rAttr e.2.1))),(13,.x (.int .i64 e.2.1.length)),(14,.x (.int .i64 i)),(5,.ptr 0 0),(19,.x (.sl (rows rStr e.2.1[i].2.1))),(20,.x (.int .i64 e.2.1[i].2.1.length)),(21,.x (.int .i64 k))]∧os= [.box [.x (.str e.2.1[i].1),.x (.sl (rows rStr e.2.1[i].2.1))]]∧k≤e.2.1[i].2.1.length) (down e.2.1[i].2.1.length 21) ?_ (fun φ os hI=> ?_)
   ·exact⟨0,by rw[List.take_zero,List.flatMap_nil,List.append_nil];rfl,rfl,by omega⟩
   ·obtain⟨k,rfl,rfl,hk⟩:=hI
    refine nz ?_
    refine WI.regB tT [3,5,12,13,14,19,20,21,22] ?_
    refine oG (hok:=by first|exact se|(clear uu;grind)|(refine ξt ?_;clear uu;simp only[ξA,ξC,ξN];omega)|exact sd) ?_
    refine oN ?_
    refine nz ?_
    refine cd (fun h1=> ?_) (fun h1=> ?_)
    ·have hk4:k<e.2.1[i].2.1.length:=by omega
     have hsv:=hse.2.2 _ (List.getElem_mem hk4)
     have hll:=lineL_len e.2.1[i].1 e.2.1[i].2.1[k]
     have hb2:=fm_len (lineL e.2.1[i].1) 6020 (e.2.1[i].2.1.take k) (fun v hv=>by have:=lineL_len e.2.1[i].1 v;have:=hse.2.2 v (List.mem_of_mem_take hv);omega)
     have hb3:(e.2.1[i].2.1.take k).length*6020≤2000*6020:=Nat.mul_le_mul_right _ (by rw[List.length_take];omega)
     have uu:=ξn uu (ξn (ξt (show e.2.1[i].1.length≤1000000 by omega)) (ξt (show e.2.1[i].2.1[k].length≤1000000 by omega)))
     refine WI.regB tT [3,5,7,12,13,14,19,20,21] ?_
     iterate 2 refine oG (hok:=by first|exact se|(clear uu;grind)|(refine ξt ?_;clear uu;simp only[ξA,ξC,ξN];omega)|exact sd) ?_
     refine oS ?_
     refine oN ?_
     refine nz ?_
     refine WI.regB tT [3,5,12,13,14,19,20,21] ?_
     iterate 2 refine oS ?_
     refine oG (hok:=by first|exact se|(clear uu;grind)|(refine ξt ?_;clear uu;simp only[ξA,ξC,ξN];omega)|exact sd) ?_
     refine oS ?_
     refine oC (hok:=by first|exact se|(clear uu;grind)|(refine ξt ?_;clear uu;simp only[ξA,ξC,ξN];omega)|exact sd) ?_
     refine oG (hok:=by first|exact se|(clear uu;grind)|(refine ξt ?_;clear uu;simp only[ξA,ξC,ξN];omega)|exact sd) ?_
     refine oS ?_
     refine oN ?_
     refine nz ?_
     refine WI.regB tT [3,5,12,13,14,19,20,21] ?_
     refine oG (hok:=by first|exact se|(clear uu;grind)|(refine ξt ?_;clear uu;simp only[ξA,ξC,ξN];omega)|exact sd) ?_
     refine oS ?_
     refine oN ?_
     refine nz ?_
     exact⟨⟨k+1,by rw[fm_snoc _ _ k hk4];simp,rfl,by omega⟩,by simp[down,Ab.get,D.val,intOf?];omega⟩
    ·have hva:(e.2.1[i].2.1.take k).flatMap (lineL e.2.1[i].1)=valL e.2.1[i]:=by rw[ξT (by omega)];rfl
     refine WI.post ?_
     refine WI.regB tT [3,12,13,14] ?_
     refine oG (hok:=by first|exact se|(clear uu;grind)|(refine ξt ?_;clear uu;simp only[ξA,ξC,ξN];omega)|exact sd) ?_
     refine oS ?_
     refine oP ?_
     refine pPick [] ?_
     refine pEnd ?_
     refine nz ?_
     exact⟨⟨i+1,by rw[hst,←List.append_assoc,hva];rfl,rfl,by omega⟩,by simp[down,Ab.get,D.val,intOf?];omega⟩
  ·refine WI.regB tT [2] ?_
   iterate 2 refine oS ?_
   refine oN ?_
   refine nz ?_
   refine lf ?_
   rw[ξT (by omega)];rfl
def oneG:List D→Option (Bool×D)
 | [.agg [.x (.str d),.x (.sl A)]]=>(unrows rAttr A).bind fun a=>some (decide (smE (d,a,())),.x (.str (oneL (d,a,()))))
 |_=>none
theorem oneG_ok: ∀args r,oneG args=some (true,r)→PCalls Tryd.prog 29 args r:=by
 intro args r h
 unfold oneG at h
 split at h
 ·rename_i d A
  obtain⟨a,hr0,h⟩:=ξB h
  simp only[ξI,ξP,ξa,ξe,true_and]at h
  obtain⟨h1,rfl⟩:=h
  rw[←rows_unrows good_rAttr hr0]
  exact(one_c (d,a,()) h1)
 ·cases h
theorem rows_snoc1 (l:List Tx) (x:Tx):rows rStr (l++ [x])=rows rStr l++ [[.str x]]:=by simp[rows,rStr]
def putL (l:List TEntry):Tx×Int:=if chkL l≠0 then([],chkL l)else(Lib.join (l.map oneL) [10],0)
theorem chkL_len (l:List TEntry) (h:chkL l=0):l.length≤1024:=by
 unfold chkL at h
 split at h
 ·omega
 ·omega
theorem join_len (B:Nat): ∀l:List Tx,(∀x∈l,x.length≤B)→(Lib.join l [10]).length≤l.length*(B+1)
 | [],_=>by simp[Lib.join,List.intercalate]
 | [x],h=>by rw[Lib.join_one];have:=h x List.mem_cons_self;simp;omega
 |x::y::r,h=>by
  have h1:=h x List.mem_cons_self
  have ih:=join_len B (y::r) (fun z hz=>h z (List.mem_cons_of_mem _ hz))
  have e:Lib.join (x::y::r) [10]=x++([10]++Lib.join (y::r) [10]):=by
   simp only[Lib.join,List.intercalate,List.intersperse_cons_cons,List.flatten_cons]
  rw[e]
  simp only[ξA,ξC,ξN,Nat.add_mul,Nat.one_mul]at ih⊢
  omega
def joinLG:List D→Option (Bool×D)
 | [.x (.sl L),.x (.str s)]=>(unrows rStr L).bind fun l=>some (decide ((Lib.join l s).length≤140737488355328)&&(decide (l.length≤140737488355328)),.x (.str (Lib.join l s)))
 |_=>none
theorem joinLG_ok: ∀args r,joinLG args=some (true,r)→PCalls Tryd.prog 30 args r:=by
 intro args r h
 unfold joinLG at h
 split at h
 ·rename_i L s
  obtain⟨l,hr0,h⟩:=ξB h
  simp only[ξI,ξP,ξa,ξe,true_and]at h
  obtain⟨⟨h1,h2⟩,rfl⟩:=h
  rw[←rows_unrows good_rStr hr0]
  exact(join_c l s h1 h2)
 ·cases h
def tabLd7:Tabs:=addT (addQ (addQ (addQ (noTabs) 28 checkG) 29 oneG) 30 joinLG) 30 (frzT joinLG)
theorem tabLd7_ok:SsOk Tryd.prog tabLd7:=addT_ok (addQ_ok (addQ_ok (addQ_ok (noTabs_ok) (G_enters G_ok (p:=i28) rfl) checkG_ok) (G_enters G_ok (p:=i29) rfl) oneG_ok) join_enters joinLG_ok) join_enters (frzT_ok joinLG_ok)
theorem tabLd7_q28 (a:List D):tabLd7.q 28 a=checkG a:=rfl
theorem tabLd7_q29 (a:List D):tabLd7.q 29 a=oneG a:=rfl
theorem tabLd7_q30 (a:List D):tabLd7.q 30 a=joinLG a:=rfl
theorem tabLd7_t30 (a:List D) (o:List Ob):tabLd7.t 30 a o=liftT (frzT joinLG) a o:=rfl
theorem tabLd7_r (f:FuncId) (a:List D) (o:List Ob):tabLd7.r f a o=none:=rfl
theorem tabLd7_k (f:FuncId) (a:List D) (o:List Ob):tabLd7.k f a o=none:=rfl
theorem lput_c (l:List TEntry) (hs:smL l):PCalls Tryd.prog 13 [.x (.sl (rows rEntry l))] (.tup [.x (.str (putL l).1),.x (.int .i64 (putL l).2)]):=by
 have hs':decide (smC l)=true:=ξt (smL_C hs)
 unfold putL
 refine FCalls.pure (fcallsG (fz:=true) G_ok (p:=i13) rfl _ (ξ rfl) _ (fun C0 E0=> ?_)) rfl
 dsimp only[i13,qt,qi,qs,qb,qm,qa,qh,qj,qT,qF,qe,ql,qL,qf,q2,q3,q8,qz,qp,qP,qc,qk,qx,qy,qo,qr,qC,argsφ]
 have uu:=ξn @checkG.eq_1 (ξn @checkG.eq_2 (ξn @oneG.eq_1 (ξn @oneG.eq_2 (ξn @joinLG.eq_1 (ξn @joinLG.eq_2 (ξn @un_rStr (ξn @hs' (ξn @tabLd7_r (ξn @tabLd7_k (ξn @tabLd7_q28 (ξn @tabLd7_q29 (ξn @tabLd7_q30 (ξn @tabLd7_t30 (@frzT.eq_1))))))))))))))
 have tT:=tabLd7_ok
 refine nz ?_
 refine WI.regB tT [0] ?_
 iterate 2 refine oS ?_
 refine oN ?_
 refine nz ?_
 refine WI.regB tT [0,4] ?_
 refine oS ?_
 refine oC (hok:=by first|exact se|(clear uu;grind)|exact sd) ?_
 refine oS ?_
 refine oN ?_
 refine nz ?_
 refine WI.regB tT [0,4,11] ?_
 refine oS ?_
 refine oG (hok:=by first|exact se|(clear uu;grind)|exact sd) ?_
 refine oN ?_
 refine nz ?_
 refine cd (fun h0=> ?_) (fun h0=> ?_)
 ·refine WI.regB tT [2,3] ?_
  iterate 3 refine oS ?_
  refine oN ?_
  refine nz ?_
  refine lf ?_
  rw[if_pos (by clear uu;grind)]
 ·have hc0:chkL l=0:=by clear uu;grind
  have hcl:=chkL_len l hc0
  refine WI.regB tT [0,5] ?_
  refine oS ?_
  refine oN ?_
  refine nz ?_
  refine WI.regB tT [5,13,14,15] ?_
  refine oS ?_
  refine oG (hok:=by first|exact se|(clear uu;grind)|exact sd) ?_
  refine oS ?_
  refine oN ?_
  refine nz ?_
  refine WI.ownA 5 9 1 ?_
  refine WI.loop (fun φ os=> ∃(i:Nat),φ= [(5,.ref 0 i 0 i),(13,.x (.sl (rows rEntry l))),(14,.x (.int .i64 l.length)),(15,.x (.int .i64 i))]∧os= [.rows false 9 1 (rows rStr ((l.take i).map oneL))]∧i≤l.length) (down l.length 15) ?_ (fun φ os hI=> ?_)
  ·exact⟨0,by simp,by simp[rows],by omega⟩
  ·obtain⟨i,rfl,rfl,hi⟩:=hI
   refine nz ?_
   refine WI.regB tT [5,13,14,15,16] ?_
   refine oG (hok:=by first|exact se|(clear uu;grind)|exact sd) ?_
   refine oN ?_
   refine nz ?_
   refine cd (fun h1=> ?_) (fun h1=> ?_)
   ·have hi4:i<l.length:=by omega
    have uu:=ξn uu (ξt (show smE (l[i].1,l[i].2.1,())from hs _ (List.getElem_mem hi4)))
    have hmt:(l.take (i+1)).map oneL=(l.take i).map oneL++ [oneL (l[i].1,l[i].2.1,())]:=by rw[List.take_succ_eq_append_getElem hi4,List.map_append];rfl
    refine WI.regB tT [5,7,13,14,15] ?_
    iterate 2 refine oG (hok:=by first|exact se|(clear uu;grind)|exact sd) ?_
    refine oG ?_
    refine oG (hok:=by first|exact se|(clear uu;grind)|exact sd) ?_
    refine oN ?_
    refine nz ?_
    refine WI.regB tT [5,13,14,15] ?_
    refine oS ?_
    refine oG (hok:=by first|exact se|(clear uu;grind)|exact sd) ?_
    refine oC (hok:=by first|exact se|(clear uu;grind)|exact sd) ?_
    iterate 2 refine oG (hok:=by first|exact se|(clear uu;grind)|exact sd) ?_
    refine oS ?_
    refine oN ?_
    refine nz ?_
    refine WI.post ?_
    refine WI.regB tT [5,13,14,15] ?_
    refine oG (hok:=by first|exact se|(clear uu;grind)|exact sd) ?_
    refine oS ?_
    refine oP ?_
    refine pPick [0] ?_
    refine pEnd ?_
    refine nz ?_
    exact⟨⟨i+1,rfl,by rw[hmt,rows_snoc1],by omega⟩,by simp[down,Ab.get,D.val,intOf?];omega⟩
   ·have hi5:i=l.length:=by omega
    subst hi5
    have hjl:=join_len 24080006022 (l.map oneL) (fun x hx=>by obtain⟨e,he,rfl⟩:=List.mem_map.1 hx;exact oneL_len e (hs e he))
    have hml:(l.map oneL).length=l.length:=List.length_map ..
    have hj2:(l.map oneL).length*24080006023≤1024*24080006023:=Nat.mul_le_mul_right _ (by omega)
    rw[List.take_length]
    have uu:=ξn uu (ξn hml (ξn (show(l.map oneL).take l.length=l.map oneL from ξT (by omega)) (ξn (ξt (show(Lib.join (l.map oneL) [10]).length≤140737488355328 by omega)) (ξt (show l.length≤140737488355328 by omega)))))
    refine WI.regB tT [2,3] ?_
    refine oS ?_
    refine oC (hok:=by first|exact se|(clear uu;grind)|exact sd) ?_
    iterate 2 refine oS ?_
    refine oN ?_
    refine nz ?_
    refine lf ?_
    rw[if_neg (not_not_intro hc0)]
theorem tyL_doc (s:Tx):tyL s=(typB s&& !(lowS s== [100,110])):=by
 unfold tyL;congr 1;rw[Bool.eq_iff_iff];simp
theorem join_snocL (l:List Tx) (x:Tx) (h:l≠ []):Lib.join (l++ [x]) [10]=Lib.join l [10]++ [10]++x:=by
 induction l with
 |nil=>exact absurd rfl h
 |cons y r ih=>
  have e: ∀(z:Tx) (q:List Tx),q≠ []→Lib.join (z::q) [10]=z++([10]++Lib.join q [10]):=fun z q hq=>by
   cases q with
   |nil=>exact absurd rfl hq
   |cons a b=>simp only[Lib.join,List.intercalate,List.intersperse_cons_cons,List.flatten_cons]
  cases r with
  |nil=>rw[List.cons_append,e y _ (by simp),List.nil_append,Lib.join_one,Lib.join_one];simp
  |cons z r=>rw[List.cons_append,e y _ (by simp),ih (by simp),e y (z::r) (by simp)];simp
def headL (l:List TEntry) (i:Nat):Tx:=if i=0 then []else Lib.join ((l.take i).map oneL) [10]++ [10]
theorem head_step (l:List TEntry) (i:Nat) (h:i<l.length):Lib.join ((l.take (i+1)).map oneL) [10]=headL l i++oneL l[i]:=by
 rw[List.take_succ_eq_append_getElem h,List.map_append]
 unfold headL
 split
 ·rename_i e;subst e;rw[List.take_zero];simp[Lib.join_one]
 ·rename_i e
  rw[List.map_singleton,join_snocL _ _ (by intro e2;have:=congrArg List.length e2;simp at this;rcases this with h1|h1<;>simp_all)]
theorem headL_len (l:List TEntry) (hs:smL l) (i:Nat) (hi:i≤l.length) (hl:l.length≤1024):(headL l i).length≤24657926167553∧(Lib.join ((l.take i).map oneL) [10]).length≤24657926167552:=by
 have h1:=join_len 24080006022 ((l.take i).map oneL) (fun x hx=>by obtain⟨e,he,rfl⟩:=List.mem_map.1 hx;exact oneL_len e (hs e (List.mem_of_mem_take he)))
 have h2:((l.take i).map oneL).length≤1024:=by rw[List.length_map,List.length_take];omega
 have h3:(Lib.join ((l.take i).map oneL) [10]).length≤24657926167552:=by omega
 refine⟨?_,h3⟩
 unfold headL
 split
 ·exact Nat.zero_le _
 ·simp only[ξA,ξC,ξN];omega
def tabLd8:Tabs:=addQ (addQ (addQ (noTabs) 31 TypedG) 32 lower5G) 16 lineRG
theorem tabLd8_ok:SsOk Tryd.prog tabLd8:=addQ_ok (addQ_ok (addQ_ok (noTabs_ok) (G_enters G_ok (p:=i31) rfl) TypedG_ok) (G_enters G_ok (p:=i32) rfl) lower5G_ok) (G_enters G_ok (p:=i16) rfl) lineRG_ok
theorem tabLd8_q31 (a:List D):tabLd8.q 31 a=TypedG a:=rfl
theorem tabLd8_q32 (a:List D):tabLd8.q 32 a=lower5G a:=rfl
theorem tabLd8_q16 (a:List D):tabLd8.q 16 a=lineRG a:=rfl
theorem tabLd8_r (f:FuncId) (a:List D) (o:List Ob):tabLd8.r f a o=none:=rfl
theorem tabLd8_k (f:FuncId) (a:List D) (o:List Ob):tabLd8.k f a o=none:=rfl
set_option maxHeartbeats 4000000 in
theorem lputR_c (l:List TEntry) (hs:smL l):PCalls Tryd.prog 14 [.x (.sl (rows rEntry l))] (.tup [.x (.str (putL l).1),.x (.int .i64 (putL l).2)]):=by
 have hck:chkL l=if l.length>1024 then 3 else if l.any badE=true then 13 else if l.any noV=true then 5 else 0:=rfl
 unfold putL
 refine FCalls.pure (fcallsG (fz:=true) G_ok (p:=i14) rfl _ (ξ rfl) _ (fun C0 E0=> ?_)) rfl
 dsimp only[i14,qt,qi,qs,qb,qm,qa,qh,qj,qT,qF,qe,ql,qL,qf,q2,q3,q8,qz,qp,qP,qc,qk,qx,qy,qo,qr,qC,argsφ]
 have uu:=ξn @TypedG.eq_1 (ξn @TypedG.eq_2 (ξn @lower5G.eq_1 (ξn @lower5G.eq_2 (ξn @lineRG.eq_1 (ξn @lineRG.eq_2 (ξn @tabLd8_r (ξn @tabLd8_k (ξn @tabLd8_q16 (ξn @tabLd8_q31 (@tabLd8_q32))))))))))
 refine WI.seq ?_
 refine WI.regB tabLd8_ok [0] ?_
 iterate 2 refine oS ?_
 refine oN ?_
 refine thenQ_normal ?_
 refine WI.seq ?_
 refine WI.seq ?_
 refine WI.regB tabLd8_ok [0,13] ?_
 refine oS ?_
 iterate 2 refine oG (hok:=by first|exact se|(clear uu hck;grind)|(refine ξt ?_;clear uu hck;simp only[ξA,ξC,ξN];omega)|exact sd) ?_
 refine oN ?_
 refine thenQ_normal ?_
 refine WI.cond (b:=_) rfl rfl (fun h0=> ?_) (fun h0=> ?_)
 ·try simp only[zB]at h0
  refine WI.seq ?_
  refine WI.regB tabLd8_ok [2,3] ?_
  iterate 2 refine oS ?_
  refine oN ?_
  refine thenQ_normal ?_
  refine WI.ret ?_
  refine thenQ_ret ?_
  first|refine lfR ?_|refine lfR2 ?_
  rw[show chkL l=3 from by rw[hck,if_pos (by clear uu hck;grind)]];rfl
 ·try simp only[zB]at h0
  have n0: ¬l.length>1024:=by clear uu hck;grind
  rw[if_neg n0]at hck
  refine WI.skip ?_
  refine thenQ_normal ?_
  refine WI.seq ?_
  refine WI.seq ?_
  refine WI.regB tabLd8_ok [0,4] ?_
  refine oS ?_
  refine oN ?_
  refine thenQ_normal ?_
  refine WI.block ?_
  refine WI.loop (fun φ os=> ∃(i:Nat),φ= [(0,.x (.sl (rows rEntry l))),(4,.x (.int .i64 i))]∧os= []∧i≤l.length∧(l.take i).any badE=false) (down l.length 4) ?_ (fun φ os hI=> ?_)
  ·exact⟨0,rfl,rfl,by omega,rfl⟩
  ·obtain⟨i,rfl,rfl,hi,hno⟩:=hI
   refine WI.seq ?_
   refine WI.seq ?_
   refine WI.regB tabLd8_ok [0,4,17] ?_
   iterate 2 refine oS ?_
   iterate 2 refine oG (hok:=by first|exact se|(clear uu hck;grind)|(refine ξt ?_;clear uu hck;simp only[ξA,ξC,ξN];omega)|exact sd) ?_
   refine oN ?_
   refine thenQ_normal ?_
   refine WI.cond (b:=_) rfl rfl (fun h1=> ?_) (fun h1=> ?_)
   ·try simp only[zB]at h1
    have hi4:i<l.length:=by omega
    have hse:=hs _ (List.getElem_mem hi4)
    have hal:=hse.2.1
    refine WI.skip ?_
    refine thenQ_normal ?_
    refine WI.seq ?_
    refine WI.block ?_
    refine WI.seq ?_
    refine WI.seq ?_
    refine WI.regB tabLd8_ok [0,4,25] ?_
    iterate 2 refine oS ?_
    refine oG (hok:=by first|exact se|(clear uu hck;grind)|(refine ξt ?_;clear uu hck;simp only[ξA,ξC,ξN];omega)|exact sd) ?_
    refine oS ?_
    iterate 2 refine oG (hok:=by first|exact se|(clear uu hck;grind)|(refine ξt ?_;clear uu hck;simp only[ξA,ξC,ξN];omega)|exact sd) ?_
    refine oN ?_
    refine thenQ_normal ?_
    refine WI.cond (b:=_) rfl rfl (fun h2=> ?_) (fun h2=> ?_)
    ·try simp only[zB]at h2
     refine WI.seq ?_
     refine WI.regB tabLd8_ok [2,3] ?_
     iterate 2 refine oS ?_
     refine oN ?_
     refine thenQ_normal ?_
     refine WI.ret ?_
     refine thenQ_ret ?_
     refine blockQ_ret ?_
     refine thenQ_ret ?_
     refine thenQ_ret ?_
     refine blockQ_ret ?_
     refine thenQ_ret ?_
     first|refine lfR ?_|refine lfR2 ?_
     rw[show chkL l=13 from by rw[hck,if_pos (any_true badE l i hi4 (by unfold badE;clear uu hck;grind))]];rfl
    ·try simp only[zB]at h2
     refine WI.skip ?_
     refine thenQ_normal ?_
     refine WI.seq ?_
     refine WI.regB tabLd8_ok [0,4,5] ?_
     refine oS ?_
     refine oN ?_
     refine thenQ_normal ?_
     refine WI.block ?_
     refine WI.loop (fun φ os=> ∃(k:Nat),φ= [(0,.x (.sl (rows rEntry l))),(4,.x (.int .i64 i)),(5,.x (.int .i64 k))]∧os= []∧k≤l[i].2.1.length∧(l[i].2.1.take k).any (fun a=> !tyL a.1)=false) (down l[i].2.1.length 5) ?_ (fun φ os hI=> ?_)
     ·exact⟨0,rfl,rfl,by omega,rfl⟩
     ·obtain⟨k,rfl,rfl,hk,hnk⟩:=hI
      refine WI.seq ?_
      refine WI.seq ?_
      refine WI.regB tabLd8_ok [0,4,5,33] ?_
      iterate 3 refine oS ?_
      refine oG (hok:=by first|exact se|(clear uu hck;grind)|(refine ξt ?_;clear uu hck;simp only[ξA,ξC,ξN];omega)|exact sd) ?_
      refine oS ?_
      iterate 3 refine oG (hok:=by first|exact se|(clear uu hck;grind)|(refine ξt ?_;clear uu hck;simp only[ξA,ξC,ξN];omega)|exact sd) ?_
      refine oN ?_
      refine thenQ_normal ?_
      refine WI.cond (b:=_) rfl rfl (fun h3=> ?_) (fun h3=> ?_)
      ·try simp only[zB]at h3
       have hk4:k<l[i].2.1.length:=by omega
       have hsa:=hse.2.2 _ (List.getElem_mem hk4)
       have uu:=ξn uu (ξt (show(l[i].2.1[k]).1.length≤1000000 by omega))
       refine WI.skip ?_
       refine thenQ_normal ?_
       refine WI.seq ?_
       refine WI.block ?_
       refine WI.seq ?_
       refine WI.regB tabLd8_ok [0,4,5,59] ?_
       iterate 2 refine oS ?_
       refine oG (hok:=by first|exact se|(clear uu hck;grind)|(refine ξt ?_;clear uu hck;simp only[ξA,ξC,ξN];omega)|exact sd) ?_
       refine oS ?_
       refine oG (hok:=by first|exact se|(clear uu hck;grind)|(refine ξt ?_;clear uu hck;simp only[ξA,ξC,ξN];omega)|exact sd) ?_
       refine oS ?_
       refine oG (hok:=by first|exact se|(clear uu hck;grind)|(refine ξt ?_;clear uu hck;simp only[ξA,ξC,ξN];omega)|exact sd) ?_
       refine oS ?_
       refine oG (hok:=by first|exact se|(clear uu hck;grind)|(refine ξt ?_;clear uu hck;simp only[ξA,ξC,ξN];omega)|exact sd) ?_
       refine oC (hok:=by first|exact se|(clear uu hck;grind)|(refine ξt ?_;clear uu hck;simp only[ξA,ξC,ξN];omega)|exact sd) ?_
       refine oG (hok:=by first|exact se|(clear uu hck;grind)|(refine ξt ?_;clear uu hck;simp only[ξA,ξC,ξN];omega)|exact sd) ?_
       refine oS ?_
       iterate 9 refine oG (hok:=by first|exact se|(clear uu hck;grind)|(refine ξt ?_;clear uu hck;simp only[ξA,ξC,ξN];omega)|exact sd) ?_
       refine oC (hok:=by first|exact se|(clear uu hck;grind)|(refine ξt ?_;clear uu hck;simp only[ξA,ξC,ξN];omega)|exact sd) ?_
       iterate 2 refine oG (hok:=by first|exact se|(clear uu hck;grind)|(refine ξt ?_;clear uu hck;simp only[ξA,ξC,ξN];omega)|exact sd) ?_
       refine oN ?_
       refine thenQ_normal ?_
       refine WI.cond (b:=_) rfl rfl (fun h4=> ?_) (fun h4=> ?_)
       ·try simp only[zB]at h4
        refine WI.seq ?_
        refine WI.regB tabLd8_ok [2,3] ?_
        iterate 2 refine oS ?_
        refine oN ?_
        refine thenQ_normal ?_
        refine WI.ret ?_
        refine blockQ_ret ?_
        refine thenQ_ret ?_
        refine thenQ_ret ?_
        refine blockQ_ret ?_
        refine blockQ_ret ?_
        refine thenQ_ret ?_
        refine thenQ_ret ?_
        refine blockQ_ret ?_
        refine thenQ_ret ?_
        first|refine lfR ?_|refine lfR2 ?_
        rw[show chkL l=13 from by rw[hck,if_pos (any_true badE l i hi4 (by unfold badE;rw[any_true _ l[i].2.1 k hk4 (by rw[tyL_doc];clear uu hck;grind),Bool.or_true]))]];rfl
       ·try simp only[zB]at h4
        refine WI.skip ?_
        refine blockQ_normal ?_
        refine thenQ_normal ?_
        refine WI.regB tabLd8_ok [0,4,5] ?_
        refine oS ?_
        refine oG (hok:=by first|exact se|(clear uu hck;grind)|(refine ξt ?_;clear uu hck;simp only[ξA,ξC,ξN];omega)|exact sd) ?_
        refine oS ?_
        refine oN ?_
        refine thenQ_normal ?_
        exact⟨⟨k+1,rfl,rfl,by omega,by rw[any_snoc _ l[i].2.1 k hk4,hnk,tyL_doc];clear uu hck;grind⟩,by simp[down,Ab.get,D.val,intOf?];omega⟩
      ·try simp only[zB]at h3
       have hbe:badE l[i]=false:=by unfold badE;rw[ξT (by omega)]at hnk;rw[hnk];clear uu hck;grind
       refine WI.exit ?_
       refine thenQ_exit ?_
       refine thenQ_exit ?_
       refine blockQ_hit ?_
       refine blockQ_normal ?_
       refine thenQ_normal ?_
       refine WI.regB tabLd8_ok [0,4] ?_
       refine oS ?_
       refine oG (hok:=by first|exact se|(clear uu hck;grind)|(refine ξt ?_;clear uu hck;simp only[ξA,ξC,ξN];omega)|exact sd) ?_
       refine oS ?_
       refine oN ?_
       refine thenQ_normal ?_
       exact⟨⟨i+1,rfl,rfl,by omega,by rw[any_snoc _ l i hi4,hno,hbe];rfl⟩,by simp[down,Ab.get,D.val,intOf?];omega⟩
   ·try simp only[zB]at h1
    rw[ξT (by omega)]at hno;rw[if_neg (by rw[hno];simp)]at hck
    refine WI.exit ?_
    refine thenQ_exit ?_
    refine thenQ_exit ?_
    refine blockQ_hit ?_
    refine thenQ_normal ?_
    refine WI.seq ?_
    refine WI.regB tabLd8_ok [0,6] ?_
    refine oS ?_
    refine oN ?_
    refine thenQ_normal ?_
    refine WI.seq ?_
    refine WI.seq ?_
    refine WI.regB tabLd8_ok [0,6,7] ?_
    refine oS ?_
    refine oN ?_
    refine thenQ_normal ?_
    refine WI.block ?_
    refine WI.loop (fun φ os=> ∃(i:Nat),φ= [(0,.x (.sl (rows rEntry l))),(6,.x (.str (Lib.join ((l.take i).map oneL) [10]))),(7,.x (.int .i64 i))]∧os= []∧i≤l.length∧(l.take i).any noV=false) (down l.length 7) ?_ (fun φ os hI=> ?_)
    ·exact⟨0,rfl,rfl,by omega,rfl⟩
    ·obtain⟨i,rfl,rfl,hi,hno⟩:=hI
     refine WI.seq ?_
     refine WI.seq ?_
     refine WI.regB tabLd8_ok [0,6,7,63] ?_
     iterate 2 refine oS ?_
     iterate 2 refine oG (hok:=by first|exact se|(clear uu hck;grind)|(refine ξt ?_;clear uu hck;simp only[ξA,ξC,ξN];omega)|exact sd) ?_
     refine oN ?_
     refine thenQ_normal ?_
     refine WI.cond (b:=_) rfl rfl (fun h5=> ?_) (fun h5=> ?_)
     ·try simp only[zB]at h5
      have hi4:i<l.length:=by omega
      have hse:=hs _ (List.getElem_mem hi4)
      have hal:=hse.2.1
      have hdl:=hse.1
      obtain⟨hb0,hb9⟩:=headL_len l hs i (by omega) (by omega)
      have hln:=lineL_len dnT l[i].1
      simp only[ξC,ξN]at hln
      have uu:=ξn uu (ξt (show l[i].1.length≤1000000 by omega))
      refine WI.skip ?_
      refine thenQ_normal ?_
      refine WI.seq ?_
      refine WI.block ?_
      refine WI.join (fun φ os=>φ= [(0,.x (.sl (rows rEntry l))),(6,.x (.str (headL l i))),(7,.x (.int .i64 i))]∧os= []) ?_ (fun φ os hJ=> ?_)
      ·refine WI.seq ?_
       refine WI.regB tabLd8_ok [0,6,7,67] ?_
       refine oS ?_
       refine oG (hok:=by first|exact se|(clear uu hck;grind)|(refine ξt ?_;clear uu hck;simp only[ξA,ξC,ξN];omega)|exact sd) ?_
       refine oN ?_
       refine thenQ_normal ?_
       refine WI.cond (b:=_) rfl rfl (fun h6=> ?_) (fun h6=> ?_)
       ·try simp only[zB]at h6
        refine WI.regB tabLd8_ok [0,6,7] ?_
        refine oS ?_
        refine oG (hok:=by first|exact se|(clear uu hck;grind)|(refine ξt ?_;clear uu hck;simp only[ξA,ξC,ξN];omega)|exact sd) ?_
        refine oS ?_
        refine oN ?_
        refine thenQ_normal ?_
        refine⟨?_,rfl⟩;unfold headL;first|(rw[if_neg (by clear uu hck;omega)];done)|(have h0:i=0:=by clear uu hck;omega);(subst h0;rfl)
       ·try simp only[zB]at h6
        refine WI.orderA [0,6,7] ?_
        refine WI.skip ?_
        refine thenQ_normal ?_
        refine⟨?_,rfl⟩;unfold headL;first|(rw[if_neg (by clear uu hck;omega)];done)|(have h0:i=0:=by clear uu hck;omega);(subst h0;rfl)
      ·obtain⟨rfl,rfl⟩:=hJ
       refine WI.seq ?_
       refine WI.regB tabLd8_ok [0,6,7] ?_
       iterate 3 refine oS ?_
       refine oG (hok:=by first|exact se|(clear uu hck;grind)|(refine ξt ?_;clear uu hck;simp only[ξA,ξC,ξN];omega)|exact sd) ?_
       refine oS ?_
       refine oG (hok:=by first|exact se|(clear uu hck;grind)|(refine ξt ?_;clear uu hck;simp only[ξA,ξC,ξN];omega)|exact sd) ?_
       refine oC (hok:=by first|exact se|(clear uu hck;grind)|(refine ξt ?_;clear uu hck;simp only[ξA,ξC,ξN];omega)|exact sd) ?_
       refine oG (hok:=by first|exact se|(clear uu hck;grind)|(refine ξt ?_;clear uu hck;simp only[ξA,ξC,ξN];omega)|exact sd) ?_
       refine oS ?_
       refine oN ?_
       refine thenQ_normal ?_
       refine WI.seq ?_
       refine WI.regB tabLd8_ok [0,6,7,8] ?_
       refine oS ?_
       refine oN ?_
       refine thenQ_normal ?_
       refine WI.block ?_
       refine WI.loop (fun φ os=> ∃(k:Nat),φ= [(0,.x (.sl (rows rEntry l))),(6,.x (.str (headL l i++lineL dnT l[i].1++attL (l[i].2.1.take k)))),(7,.x (.int .i64 i)),(8,.x (.int .i64 k))]∧os= []∧k≤l[i].2.1.length∧(l[i].2.1.take k).any (fun a=>decide (a.2.1= []))=false) (down l[i].2.1.length 8) ?_ (fun φ os hI=> ?_)
       ·exact⟨0,by simp[attL],rfl,by omega,rfl⟩
       ·obtain⟨k,rfl,rfl,hk,hnk⟩:=hI
        refine WI.seq ?_
        refine WI.seq ?_
        refine WI.regB tabLd8_ok [0,6,7,8,85] ?_
        iterate 3 refine oS ?_
        refine oG (hok:=by first|exact se|(clear uu hck;grind)|(refine ξt ?_;clear uu hck;simp only[ξA,ξC,ξN];omega)|exact sd) ?_
        refine oS ?_
        iterate 3 refine oG (hok:=by first|exact se|(clear uu hck;grind)|(refine ξt ?_;clear uu hck;simp only[ξA,ξC,ξN];omega)|exact sd) ?_
        refine oN ?_
        refine thenQ_normal ?_
        refine WI.cond (b:=_) rfl rfl (fun h7=> ?_) (fun h7=> ?_)
        ·try simp only[zB]at h7
         have hk4:k<l[i].2.1.length:=by omega
         have hsa:=hse.2.2 _ (List.getElem_mem hk4)
         have hvl:=hsa.2.1
         have htl:=hsa.1
         have hb1:=attL_len (l[i].2.1.take k) (by rw[List.length_take];omega) (fun a ha=>hse.2.2 a (List.mem_of_mem_take ha))
         have hst:attL (l[i].2.1.take (k+1))=attL (l[i].2.1.take k)++valL l[i].2.1[k]:=fm_snoc valL l[i].2.1 k hk4
         refine WI.skip ?_
         refine thenQ_normal ?_
         refine WI.seq ?_
         refine WI.block ?_
         refine WI.seq ?_
         refine WI.regB tabLd8_ok [0,6,7,8,9] ?_
         iterate 2 refine oS ?_
         refine oG (hok:=by first|exact se|(clear uu hck;grind)|(refine ξt ?_;clear uu hck;simp only[ξA,ξC,ξN];omega)|exact sd) ?_
         refine oS ?_
         refine oG (hok:=by first|exact se|(clear uu hck;grind)|(refine ξt ?_;clear uu hck;simp only[ξA,ξC,ξN];omega)|exact sd) ?_
         refine oS ?_
         iterate 2 refine oG (hok:=by first|exact se|(clear uu hck;grind)|(refine ξt ?_;clear uu hck;simp only[ξA,ξC,ξN];omega)|exact sd) ?_
         refine oG ?_
         refine oG (hok:=by first|exact se|(clear uu hck;grind)|(refine ξt ?_;clear uu hck;simp only[ξA,ξC,ξN];omega)|exact sd) ?_
         refine oN ?_
         refine thenQ_normal ?_
         refine WI.seq ?_
         refine WI.seq ?_
         refine WI.regB tabLd8_ok [0,6,7,8,9,99] ?_
         refine oS ?_
         iterate 3 refine oG (hok:=by first|exact se|(clear uu hck;grind)|(refine ξt ?_;clear uu hck;simp only[ξA,ξC,ξN];omega)|exact sd) ?_
         refine oN ?_
         refine thenQ_normal ?_
         refine WI.cond (b:=_) rfl rfl (fun h8=> ?_) (fun h8=> ?_)
         ·try simp only[zB]at h8
          refine WI.seq ?_
          refine WI.regB tabLd8_ok [2,3] ?_
          iterate 2 refine oS ?_
          refine oN ?_
          refine thenQ_normal ?_
          refine WI.ret ?_
          refine thenQ_ret ?_
          refine blockQ_ret ?_
          refine thenQ_ret ?_
          refine thenQ_ret ?_
          refine blockQ_ret ?_
          refine blockQ_ret ?_
          refine thenQ_ret ?_
          refine thenQ_ret ?_
          refine blockQ_ret ?_
          refine thenQ_ret ?_
          first|refine lfR ?_|refine lfR2 ?_
          rw[show chkL l=5 from by rw[hck,if_pos (any_true noV l i hi4 (any_true _ l[i].2.1 k hk4 (ξt (List.length_eq_zero_iff.1 (by omega)))))]];rfl
         ·try simp only[zB]at h8
          have hne:l[i].2.1[k].2.1≠ []:=fun e=>by rw[e]at h8;simp at h8
          refine WI.skip ?_
          refine thenQ_normal ?_
          refine WI.seq ?_
          refine WI.regB tabLd8_ok [0,6,7,8,9,10] ?_
          refine oS ?_
          refine oN ?_
          refine thenQ_normal ?_
          refine WI.block ?_
          refine WI.loop (fun φ os=> ∃(m:Nat),φ= [(0,.x (.sl (rows rEntry l))),(6,.x (.str (headL l i++lineL dnT l[i].1++attL (l[i].2.1.take k)++(l[i].2.1[k].2.1.take m).flatMap (lineL l[i].2.1[k].1)))),(7,.x (.int .i64 i)),(8,.x (.int .i64 k)),(9,.ptr 0 0),(10,.x (.int .i64 m))]∧os= [.box [.x (.str l[i].2.1[k].1),.x (.sl (rows rStr l[i].2.1[k].2.1))]]∧m≤l[i].2.1[k].2.1.length) (down l[i].2.1[k].2.1.length 10) ?_ (fun φ os hI=> ?_)
          ·exact⟨0,by rw[List.take_zero,List.flatMap_nil,List.append_nil];rfl,rfl,by omega⟩
          ·obtain⟨m,rfl,rfl,hm⟩:=hI
           refine WI.seq ?_
           refine WI.seq ?_
           refine WI.regB tabLd8_ok [0,6,7,8,9,10,104] ?_
           iterate 2 refine oS ?_
           iterate 3 refine oG (hok:=by first|exact se|(clear uu hck;grind)|(refine ξt ?_;clear uu hck;simp only[ξA,ξC,ξN];omega)|exact sd) ?_
           refine oN ?_
           refine thenQ_normal ?_
           refine WI.cond (b:=_) rfl rfl (fun h9=> ?_) (fun h9=> ?_)
           ·try simp only[zB]at h9
            have hm4:m<l[i].2.1[k].2.1.length:=by omega
            have hsv:=hsa.2.2 _ (List.getElem_mem hm4)
            have hll:=lineL_len l[i].2.1[k].1 l[i].2.1[k].2.1[m]
            have hb2:=fm_len (lineL l[i].2.1[k].1) 6020 (l[i].2.1[k].2.1.take m) (fun v hv=>by have:=lineL_len l[i].2.1[k].1 v;have:=hsa.2.2 v (List.mem_of_mem_take hv);omega)
            have hb3:(l[i].2.1[k].2.1.take m).length*6020≤2000*6020:=Nat.mul_le_mul_right _ (by rw[List.length_take];omega)
            have uu:=ξn uu (ξn (ξt (show l[i].2.1[k].1.length≤1000000 by omega)) (ξt (show l[i].2.1[k].2.1[m].length≤1000000 by omega)))
            refine WI.skip ?_
            refine thenQ_normal ?_
            refine WI.seq ?_
            refine WI.block ?_
            refine WI.dregB tabLd8_ok [0,6,7,8,9,10] ?_
            iterate 2 refine dFS ?_
            refine dQG (hok:=by first|exact se|(clear uu hck;grind)|(refine ξt ?_;clear uu hck;simp only[ξA,ξC,ξN];omega)|exact sd) ?_
            refine dFS ?_
            refine dQG (hok:=by first|exact se|(clear uu hck;grind)|(refine ξt ?_;clear uu hck;simp only[ξA,ξC,ξN];omega)|exact sd) ?_
            refine dFS ?_
            iterate 2 refine dQG (hok:=by first|exact se|(clear uu hck;grind)|(refine ξt ?_;clear uu hck;simp only[ξA,ξC,ξN];omega)|exact sd) ?_
            refine dAC (hok:=by first|exact se|(clear uu hck;grind)|(refine ξt ?_;clear uu hck;simp only[ξA,ξC,ξN];omega)|exact sd) ?_
            refine dFG (hok:=by first|exact se|(clear uu hck;grind)|(refine ξt ?_;clear uu hck;simp only[ξA,ξC,ξN];omega)|exact sd) ?_
            refine dFS ?_
            refine dN ?_
            refine blockQ_normal ?_
            refine thenQ_normal ?_
            refine WI.regB tabLd8_ok [0,6,7,8,9,10] ?_
            refine oS ?_
            refine oG (hok:=by first|exact se|(clear uu hck;grind)|(refine ξt ?_;clear uu hck;simp only[ξA,ξC,ξN];omega)|exact sd) ?_
            refine oS ?_
            refine oN ?_
            refine thenQ_normal ?_
            exact⟨⟨m+1,by rw[fm_snoc _ _ m hm4];simp,rfl,by omega⟩,by simp[down,Ab.get,D.val,intOf?];omega⟩
           ·try simp only[zB]at h9
            have hvb:(l[i].2.1[k].2.1.take m).flatMap (lineL l[i].2.1[k].1)=valL l[i].2.1[k]:=by rw[ξT (by omega)];rfl
            refine WI.exit ?_
            refine thenQ_exit ?_
            refine thenQ_exit ?_
            refine blockQ_hit ?_
            refine blockQ_normal ?_
            refine thenQ_normal ?_
            refine WI.post ?_
            refine WI.regB tabLd8_ok [0,6,7,8] ?_
            refine oS ?_
            refine oG (hok:=by first|exact se|(clear uu hck;grind)|(refine ξt ?_;clear uu hck;simp only[ξA,ξC,ξN];omega)|exact sd) ?_
            refine oS ?_
            refine oP ?_
            refine pPick [] ?_
            refine pEnd ?_
            refine thenQ_normal ?_
            exact⟨⟨k+1,by rw[hst,←List.append_assoc,hvb];rfl,rfl,by omega,by rw[any_snoc _ l[i].2.1 k hk4,hnk,decide_eq_false hne];rfl⟩,by simp[down,Ab.get,D.val,intOf?];omega⟩
        ·try simp only[zB]at h7
         have hva:headL l i++oneL l[i]=headL l i++lineL dnT l[i].1++attL (l[i].2.1.take k):=by rw[ξT (by omega),List.append_assoc];rfl
         have hbe:noV l[i]=false:=by unfold noV;rw[ξT (by omega)]at hnk;exact hnk
         refine WI.exit ?_
         refine thenQ_exit ?_
         refine thenQ_exit ?_
         refine blockQ_hit ?_
         refine blockQ_normal ?_
         refine thenQ_normal ?_
         refine WI.regB tabLd8_ok [0,6,7] ?_
         refine oS ?_
         refine oG (hok:=by first|exact se|(clear uu hck;grind)|(refine ξt ?_;clear uu hck;simp only[ξA,ξC,ξN];omega)|exact sd) ?_
         refine oS ?_
         refine oN ?_
         refine thenQ_normal ?_
         exact⟨⟨i+1,by rw[head_step l i hi4,hva];rfl,rfl,by omega,by rw[any_snoc _ l i hi4,hno,hbe];rfl⟩,by simp[down,Ab.get,D.val,intOf?];omega⟩
     ·try simp only[zB]at h5
      rw[ξT (by omega)]at hno;rw[if_neg (by rw[hno];simp)]at hck
      refine WI.exit ?_
      refine thenQ_exit ?_
      refine thenQ_exit ?_
      refine blockQ_hit ?_
      refine thenQ_normal ?_
      refine WI.seq ?_
      refine WI.regB tabLd8_ok [2,3] ?_
      iterate 3 refine oS ?_
      refine oN ?_
      refine thenQ_normal ?_
      refine WI.ret ?_
      first|refine lfR ?_|refine lfR2 ?_
      rw[hck,if_neg (by simp),ξT (by omega)]
def lputRG:List D→Option (Bool×D)
 | [.x (.sl L)]=>(unrows rEntry L).bind fun l=>some (decide (smL l),.tup [.x (.str (putL l).1),.x (.int .i64 (putL l).2)])
 |_=>none
theorem lputRG_ok: ∀args r,lputRG args=some (true,r)→PCalls Tryd.prog 14 args r:=by
 intro args r h
 unfold lputRG at h
 split at h
 ·rename_i L
  obtain⟨l,hr0,h⟩:=ξB h
  simp only[ξI,ξP,ξa,ξe,true_and]at h
  obtain⟨h1,rfl⟩:=h
  rw[←rows_unrows good_rEntry hr0]
  exact(lputR_c l h1)
 ·cases h
def lputG:List D→Option (Bool×D)
 | [.x (.sl L)]=>(unrows rEntry L).bind fun l=>some (decide (smL l),.tup [.x (.str (putL l).1),.x (.int .i64 (putL l).2)])
 |_=>none
theorem lputG_ok: ∀args r,lputG args=some (true,r)→PCalls Tryd.prog 13 args r:=by
 intro args r h
 unfold lputG at h
 split at h
 ·rename_i L
  obtain⟨l,hr0,h⟩:=ξB h
  simp only[ξI,ξP,ξa,ξe,true_and]at h
  obtain⟨h1,rfl⟩:=h
  rw[←rows_unrows good_rEntry hr0]
  exact(lput_c l h1)
 ·cases h
end Go.Proofs.YtmlpbojoekmfaaaDoor
end
section
namespace Go.Proofs
open Go.Shelf Go.RowKit Go.Lib
variable {P:Program} {ρ:Ren}
set_option maxHeartbeats 2000000 in
set_option maxRecDepth 100000 in
theorem Any1.stringslite_Cut_one (L:Lays.n220 P ρ) (s:ByteArray) (b:UInt8) (w:World) (hs:s.size<4294967281):
  Calls P (ρ.f 220) #[.string s,.string ⟨#[b]⟩] w fun e w'=>e= .returned (.tuple #[.string ⟨(Lib.cut s.data.toList [b]).1.toArray⟩,.string ⟨(Lib.cut s.data.toList [b]).2.1.toArray⟩,.bool (Lib.cut s.data.toList [b]).2.2])∧ ∃n,w'=w.drewN n:=by
 rcases Lib.indexB_cases s ⟨#[b]⟩with hix|⟨i,hix,hroom⟩
 ·obtain⟨e1,e2,e3⟩:=Lib.cutB_miss s ⟨#[b]⟩ hix
  rw[show [b]=(⟨#[b]⟩:ByteArray).data.toList from rfl,e1,e2,e3]
  have t3:=L.t3;have t4:=L.t4;have t9:=L.t9
  have a3: ∀w,(isAgg (ρ.t 3)).run P w= .ok false w:=run_isAgg_plain L.t3 rfl;have a4: ∀w,(isAgg (ρ.t 4)).run P w= .ok false w:=run_isAgg_plain L.t4 rfl;have a9: ∀w,(isAgg (ρ.t 9)).run P w= .ok false w:=run_isAgg_plain L.t9 rfl
  have e219: ∀args w,(callFunc (ρ.f 219) args).run P w= .ok (.enter (ρ.f 219) args) w:=enters_of L.f219 (by kernel_rfl) rfl
  have mixed:=L.mixed;have z3:=L.z3;have v3:=L.v3;have z4:=L.z4;have v4:=L.v4;have z9:=L.z9;have v9:=L.v9
  go_enter L.f220,Body.n220_ntmps ρ
  go_wp2_with (go_at_fn (ρ.f 219);refine(Any.stringslite_Index_one {L with} _ _ _).mono ?_;rintro e w' ⟨rfl,rfl⟩;rw[←Lib.index_one,show Lib.index s.data.toList [b]=_ from hix])
  go_ret3
  exact⟨rfl,0,rfl⟩
 ·obtain⟨e1,e2,e3⟩:=Lib.cutB_hit s ⟨#[b]⟩ i hix
  rw[show [b]=(⟨#[b]⟩:ByteArray).data.toList from rfl,e1,e2,e3]
  have hb1:(⟨#[b]⟩:ByteArray).size=1:=rfl
  have c1:(0:Int)≤ ↑i:=by omega
  have c2:(↑i:Int)≤ ↑s.size:=by omega
  have c3:(0:Int)≤ ↑i+1:=by omega
  have c4:(↑i+1:Int)≤ ↑s.size:=by omega
  have t3:=L.t3;have t4:=L.t4;have t9:=L.t9
  have a3: ∀w,(isAgg (ρ.t 3)).run P w= .ok false w:=run_isAgg_plain L.t3 rfl;have a4: ∀w,(isAgg (ρ.t 4)).run P w= .ok false w:=run_isAgg_plain L.t4 rfl;have a9: ∀w,(isAgg (ρ.t 9)).run P w= .ok false w:=run_isAgg_plain L.t9 rfl
  have e219: ∀args w,(callFunc (ρ.f 219) args).run P w= .ok (.enter (ρ.f 219) args) w:=enters_of L.f219 (by kernel_rfl) rfl
  have mixed:=L.mixed;have z3:=L.z3;have v3:=L.v3;have z4:=L.z4;have v4:=L.v4;have z9:=L.z9;have v9:=L.v9
  go_enter L.f220,Body.n220_ntmps ρ
  go_wp2_with (go_at_fn (ρ.f 219);refine(Any.stringslite_Index_one {L with} _ _ _).mono ?_;rintro e w' ⟨rfl,rfl⟩;rw[←Lib.index_one,show Lib.index s.data.toList [b]=_ from hix])
  go_region_o
  go_wp2
  go_ret3
  exact⟨rfl,1,rfl⟩
set_option maxHeartbeats 1000000 in
theorem Any1.strings_Cut_one (L:Lays.n145 P ρ) (s:ByteArray) (b:UInt8) (w:World) (hs:s.size<4294967281):
  Calls P (ρ.f 145) #[.string s,.string ⟨#[b]⟩] w fun e w'=>e= .returned (.tuple #[.string ⟨(Lib.cut s.data.toList [b]).1.toArray⟩,.string ⟨(Lib.cut s.data.toList [b]).2.1.toArray⟩,.bool (Lib.cut s.data.toList [b]).2.2])∧ ∃n,w'=w.drewN n:=by
 have t4:=L.t4;have t9:=L.t9;have t59:=L.t59
 have a4: ∀w,(isAgg (ρ.t 4)).run P w= .ok false w:=run_isAgg_plain L.t4 rfl;have a9: ∀w,(isAgg (ρ.t 9)).run P w= .ok false w:=run_isAgg_plain L.t9 rfl;have a59: ∀w,(isAgg (ρ.t 59)).run P w= .ok false w:=run_isAgg_plain L.t59 rfl
 have e220: ∀args w,(callFunc (ρ.f 220) args).run P w= .ok (.enter (ρ.f 220) args) w:=enters_of L.f220 (by kernel_rfl) rfl
 have mixed:=L.mixed;have z4:=L.z4;have v4:=L.v4;have z9:=L.z9;have v9:=L.v9;have z59:=L.z59;have v59:=L.v59
 go_enter L.f145,Body.n145_ntmps ρ
 go_wp2_with (go_at_fn (ρ.f 220);refine(Any1.stringslite_Cut_one {L with} _ _ _ hs).mono ?_;rintro e w' ⟨rfl,n,rfl⟩)
 go_ret3
 exact⟨rfl,n,rfl⟩
end Go.Proofs
namespace Go.Proofs.YtmlpbojoekmfaaaDoor
open Go.RowKit Go.Bo Go.Ab
def cutB (c:UInt8):List UInt8→List UInt8×List UInt8×Bool
 | []=>([],[],false)
 |b::l=>if b=c then([],l,true)else(b::(cutB c l).1,(cutB c l).2.1,(cutB c l).2.2)
theorem cutB_eq (c:UInt8): ∀s,Lib.cut s [c]=cutB c s
 | []=>by simp[Lib.cut,cutB,Lib.index]
 |b::l=>by
  have ih:=cutB_eq c l
  unfold Lib.cut at ih⊢
  by_cases h:b=c
  ·subst h
   have hp: [b].isPrefixOf (b::l)=true:=by simp[List.isPrefixOf]
   simp[Lib.index,hp,cutB]
  ·have hp: [c].isPrefixOf (b::l)=false:=by simp[List.isPrefixOf];exact fun e=>h e.symm
   rw[cutB,if_neg h,←ih]
   have hn:=Lib.index_ge l [c]
   by_cases hi:Lib.index l [c]= -1
   ·simp[Lib.index,hp,hi]
   ·obtain⟨n,hn⟩: ∃n:Nat,Lib.index l [c]=n:=⟨(Lib.index l [c]).toNat,by omega⟩
    simp only[Lib.index,hp,hn,ξC,ξN]
    simp
    omega
theorem cut_c (s:List UInt8) (c:UInt8) (hl:s.length≤1000000):PCalls Tryd.prog 36 [.x (.str s),.x (.str [c])] (.tup [.x (.str (cutB c s).1),.x (.str (cutB c s).2.1),.x (.bool (cutB c s).2.2)]):=by
 intro w st vs hst hvl
 obtain⟨hsz,hv⟩:=hvl
 obtain⟨v0,v1,rfl⟩: ∃v0 v1,vs= #[v0,v1]:=by
  obtain⟨vl⟩:=vs
  match vl,hsz with
  | [a,b],_=>exact⟨a,b,rfl⟩
 have h0:=hv 0 _ v0 rfl rfl
 have h1:=hv 1 _ v1 rfl rfl
 cases h0 with
 |x h0=>
 cases h1 with
 |x h1=>
 cases h1 with
 |str _=>
 cases h0 with
 |str _=>
 have hbs:(bstr s).size=s.length:=by simp[bstr,ByteArray.size]
 refine(Any1.strings_Cut_one Tryd.lays145 (bstr s) c w (by omega)).mono ?_
 rintro e w' ⟨rfl,n,rfl⟩
 refine⟨_,st,rfl,⟨rfl,rfl,rfl,by simp[World.drewN],fun _ _ _=>rfl⟩,fun _ _ h=>h,fun _ _ h=> .inl h,?_⟩
 have e1:(bstr s).data.toList=s:=by simp[bstr]
 rw[e1,cutB_eq]
 exact V.tup3 (V.mkstr _ _ _) (V.mkstr _ _ _) (.x (.bool _))
theorem cut_enters:Go.Ab.Enters Tryd.prog 36:=Go.Proofs.enters_of Tryd.lays145.f145 (by kernel_rfl) rfl
def cutG:List D→Option (Bool×D)
 | [.x (.str s),.x (.str [c])]=>some (decide (s.length≤1000000),.tup [.x (.str (cutB c s).1),.x (.str (cutB c s).2.1),.x (.bool (cutB c s).2.2)])
 |_=>none
theorem cutG_ok: ∀args r,cutG args=some (true,r)→PCalls Tryd.prog 36 args r:=by
 intro args r h
 unfold cutG at h
 split at h
 ·rename_i s c
  simp only[ξI,ξP,ξa,ξe,true_and]at h
  obtain⟨h1,rfl⟩:=h
  exact(cut_c s c h1)
 ·cases h
theorem cutB_lenL (c:UInt8): ∀s,(cutB c s).1.length≤s.length∧(cutB c s).2.1.length≤s.length
 | []=>by simp[cutB]
 |b::l=>by
  obtain⟨h1,h2⟩:=cutB_lenL c l
  unfold cutB
  split
  ·simp
  ·simp;omega
def valW (r:Tx):Tx×Bool:=if r= []then([],true)else if Lib.hasPrefix r [58,32]=true then((readS (r.drop 2)).1,(readS (r.drop 2)).2==0)else if r.getD 0 0=32 then(r.drop 1,true)else([],false)
theorem valW_len (r:Tx):(valW r).1.length≤r.length:=by
 unfold valW
 split
 ·simp
 split
 ·have:=readS_len (r.drop 2);rw[List.length_drop]at this;show(readS (r.drop 2)).1.length≤_;omega
 split
 ·simp
 ·simp
def valR (l:Tx):Tx×Tx×Bool:=if(cutB 58 l).2.2=true then((cutB 58 l).1,(valW (cutB 58 l).2.1).1,(valW (cutB 58 l).2.1).2&&(lineL (cutB 58 l).1 (valW (cutB 58 l).2.1).1==l++ [10]))else([],[],false)
theorem valR_len (l:Tx):(valR l).1.length≤l.length∧(valR l).2.1.length≤l.length:=by
 have h:=cutB_lenL 58 l
 have h2:=valW_len (cutB 58 l).2.1
 unfold valR
 split
 ·exact⟨h.1,Nat.le_trans h2 h.2⟩
 ·simp
theorem hasP_lenL (r:Tx) (h:Lib.hasPrefix r [58,32]=true):2≤r.length:=by
 have: [58,32]<+:r:=by simpa[Lib.hasPrefix]using h
 have:=this.length_le;simpa using this
def tabLd9:Tabs:=addQ (addQ (addQ (addQ (noTabs) 36 cutG) 55 hasPG) 59 read33G) 15 lineG
theorem tabLd9_ok:SsOk Tryd.prog tabLd9:=addQ_ok (addQ_ok (addQ_ok (addQ_ok (noTabs_ok) cut_enters cutG_ok) hasP_enters hasPG_ok) (G_enters G_ok (p:=i59) rfl) read33G_ok) (G_enters G_ok (p:=i15) rfl) lineG_ok
theorem tabLd9_q36 (a:List D):tabLd9.q 36 a=cutG a:=rfl
theorem tabLd9_q55 (a:List D):tabLd9.q 55 a=hasPG a:=rfl
theorem tabLd9_q59 (a:List D):tabLd9.q 59 a=read33G a:=rfl
theorem tabLd9_q15 (a:List D):tabLd9.q 15 a=lineG a:=rfl
theorem tabLd9_r (f:FuncId) (a:List D) (o:List Ob):tabLd9.r f a o=none:=rfl
theorem tabLd9_k (f:FuncId) (a:List D) (o:List Ob):tabLd9.k f a o=none:=rfl
theorem value_c (l:Tx) (hl:l.length≤1000000):PCalls Tryd.prog 37 [.x (.str l)] (.tup [.x (.str (valR l).1),.x (.str (valR l).2.1),.x (.bool (valR l).2.2)]):=by
 have hc:=cutB_lenL 58 l
 have hw:=valW_len (cutB 58 l).2.1
 rcases hq:valR l with⟨a,v,b⟩
 unfold valR at hq
 rcases hv:valW (cutB 58 l).2.1 with⟨w,g⟩
 rw[hv]at hq hw
 unfold valW at hv
 have d0:decide (l.length≤1000000)=true:=ξt (by omega)
 have d1:decide ((cutB 58 l).1.length≤1000000)=true:=ξt (by omega)
 have d2:decide (((cutB 58 l).2.1.drop 2).length≤1000000)=true:=ξt (by rw[List.length_drop];omega)
 have d3:decide (w.length≤1000000)=true:=ξt (by simp only at hw;omega)
 refine FCalls.pure (fcallsG (fz:=true) G_ok (p:=i37) rfl _ (ξ rfl) _ (fun C0 E0=> ?_)) rfl
 dsimp only[i37,qt,qi,qs,qb,qm,qa,qh,qj,qT,qF,qe,ql,qL,qf,q2,q3,q8,qz,qp,qP,qc,qk,qx,qy,qo,qr,qC,argsφ]
 have uu:=ξn @cutG.eq_1 (ξn @cutG.eq_2 (ξn @hasPG.eq_1 (ξn @hasPG.eq_2 (ξn @read33G.eq_1 (ξn @read33G.eq_2 (ξn @lineG.eq_1 (ξn @lineG.eq_2 (ξn @d0 (ξn @d1 (ξn @d2 (ξn @d3 (ξn @tabLd9_r (ξn @tabLd9_k (ξn @tabLd9_q15 (ξn @tabLd9_q36 (ξn @tabLd9_q55 (@tabLd9_q59)))))))))))))))))
 have tT:=tabLd9_ok
 refine nz ?_
 refine WI.regB tT [0] ?_
 iterate 3 refine oS ?_
 refine oN ?_
 refine nz ?_
 refine WI.regB tT [0,5,6,7] ?_
 refine oS ?_
 refine oC (hok:=by first|exact se|(clear uu;grind)|exact sd) ?_
 refine oS ?_
 iterate 3 refine oG ?_
 iterate 3 refine oS ?_
 refine oN ?_
 refine nz ?_
 refine WI.regB tT [0,5,6,7,18] ?_
 refine oS ?_
 refine oG (hok:=by first|exact se|(clear uu;grind)|exact sd) ?_
 refine oN ?_
 refine nz ?_
 refine cd (fun h0=> ?_) (fun h0=> ?_)
 ·refine WI.regB tT [2,3,4] ?_
  iterate 3 refine oS ?_
  refine oN ?_
  refine nz ?_
  refine lf ?_
  rw[if_neg (by clear uu;grind)]at hq;cases hq;rfl
 ·have hct:(cutB 58 l).2.2=true:=by clear uu;grind
  rw[if_pos hct]at hq
  refine WI.regB tT [0,5,6,7,8] ?_
  refine oS ?_
  refine oN ?_
  refine nz ?_
  refine WI.regB tT [0,5,6,7,8,19] ?_
  refine oS ?_
  refine oG (hok:=by first|exact se|(clear uu;grind)|exact sd) ?_
  refine oS ?_
  refine oN ?_
  refine nz ?_
  refine cd (fun h1=> ?_) (fun h1=> ?_)
  ·have e1:(cutB 58 l).2.1= []:=by clear uu;grind
   rw[if_pos e1]at hv;cases hv
   refine WI.regB tT [2,3,4] ?_
   iterate 4 refine oS ?_
   iterate 2 refine oG (hok:=by first|exact se|(clear uu;grind)|exact sd) ?_
   refine oC (hok:=by first|exact se|(clear uu;grind)|exact sd) ?_
   iterate 4 refine oG (hok:=by first|exact se|(clear uu;grind)|exact sd) ?_
   iterate 3 refine oS ?_
   refine oN ?_
   refine nz ?_
   refine lf ?_
   rw[hct];cases hq;rfl
  ·have e1:(cutB 58 l).2.1≠ []:=by clear uu;grind
   rw[if_neg e1]at hv
   refine WI.regB tT [0,5,6,7,8,22] ?_
   refine oS ?_
   refine oC (hok:=by first|exact se|(clear uu;grind)|exact sd) ?_
   refine oS ?_
   refine oN ?_
   refine nz ?_
   refine cd (fun h2=> ?_) (fun h2=> ?_)
   ·have e2:Lib.hasPrefix (cutB 58 l).2.1 [58,32]=true:=by clear uu;grind
    have e3:=hasP_lenL _ e2
    rw[if_pos e2]at hv;cases hv
    have uu:=ξn uu (ξt (show 2≤((cutB 58 l).2.1.length:Int) by omega))
    refine WI.regB tT [0,5,9,10] ?_
    refine oS ?_
    refine oG (hok:=by first|exact se|(clear uu;grind)|exact sd) ?_
    refine oC (hok:=by first|exact se|(clear uu;grind)|exact sd) ?_
    refine oS ?_
    iterate 2 refine oG ?_
    iterate 2 refine oS ?_
    refine oN ?_
    refine nz ?_
    refine WI.regB tT [0,5,7,8] ?_
    iterate 2 refine oS ?_
    refine oG (hok:=by first|exact se|(clear uu;grind)|exact sd) ?_
    iterate 2 refine oS ?_
    refine oN ?_
    refine nz ?_
    refine WI.regB tT [2,3,4] ?_
    iterate 4 refine oS ?_
    iterate 2 refine oG (hok:=by first|exact se|(clear uu;grind)|exact sd) ?_
    refine oC (hok:=by first|exact se|(clear uu;grind)|exact sd) ?_
    iterate 4 refine oG (hok:=by first|exact se|(clear uu;grind)|exact sd) ?_
    iterate 3 refine oS ?_
    refine oN ?_
    refine nz ?_
    refine lf ?_
    cases hq;rfl
   ·rw[if_neg (by clear uu;grind)]at hv
    have e4:0<(cutB 58 l).2.1.length:=List.length_pos_iff.2 e1
    refine WI.regB tT [0,5,6,7,8,34] ?_
    refine oS ?_
    iterate 2 refine oG (hok:=by first|exact se|(clear uu;grind)|exact sd) ?_
    refine oS ?_
    refine oN ?_
    refine nz ?_
    refine cd (fun h3=> ?_) (fun h3=> ?_)
    ·have e5:(cutB 58 l).2.1.getD 0 0=32:=c32' (by clear uu;first|exact h3|grind)
     rw[if_pos e5]at hv;cases hv
     refine WI.regB tT [0,5,7,8] ?_
     refine oS ?_
     refine oG (hok:=by first|exact se|(clear uu;grind)|exact sd) ?_
     refine oS ?_
     refine oN ?_
     refine nz ?_
     refine WI.regB tT [2,3,4] ?_
     iterate 4 refine oS ?_
     iterate 2 refine oG (hok:=by first|exact se|(clear uu;grind)|exact sd) ?_
     refine oC (hok:=by first|exact se|(clear uu;grind)|exact sd) ?_
     iterate 4 refine oG (hok:=by first|exact se|(clear uu;grind)|exact sd) ?_
     iterate 3 refine oS ?_
     refine oN ?_
     refine nz ?_
     refine lf ?_
     rw[hct];cases hq;rfl
    ·rw[if_neg (fun e=>h3 (by rw[e];rfl))]at hv;cases hv
     refine WI.regB tT [0,5,7,8] ?_
     refine oS ?_
     refine oN ?_
     refine nz ?_
     refine WI.regB tT [2,3,4] ?_
     iterate 4 refine oS ?_
     iterate 2 refine oG (hok:=by first|exact se|(clear uu;grind)|exact sd) ?_
     refine oC (hok:=by first|exact se|(clear uu;grind)|exact sd) ?_
     iterate 4 refine oG (hok:=by first|exact se|(clear uu;grind)|exact sd) ?_
     iterate 3 refine oS ?_
     refine oN ?_
     refine nz ?_
     refine lf ?_
     cases hq;rfl
def valueG:List D→Option (Bool×D)
 | [.x (.str l)]=>some (decide (l.length≤1000000),.tup [.x (.str (valR l).1),.x (.str (valR l).2.1),.x (.bool (valR l).2.2)])
 |_=>none
theorem valueG_ok: ∀args r,valueG args=some (true,r)→PCalls Tryd.prog 37 args r:=by
 intro args r h
 unfold valueG at h
 split at h
 ·rename_i l
  simp only[ξI,ξP,ξa,ξe,true_and]at h
  obtain⟨h1,rfl⟩:=h
  exact(value_c l h1)
 ·cases h
end Go.Proofs.YtmlpbojoekmfaaaDoor
end
