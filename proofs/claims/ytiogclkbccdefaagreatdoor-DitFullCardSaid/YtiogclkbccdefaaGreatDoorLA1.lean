import Derived.WalkKit
import Derived.WalkSpells
import Derived.WalkLawsBesides
import Derived.Lib.Hide
import Derived.Deep.QuietTactic
import Derived.BigQuiet
import Derived.StillTail
import Derived.MapKept
import Derived.Maps.RangeRun
import Derived.ChangeArms
import Derived.OpenShut
import Derived.Laws.StructEq
set_option linter.unusedSimpArgs false
set_option linter.unusedVariables false
set_option maxRecDepth 100000
section
namespace Go
universe u v w
theorem Yq{p0 p1:Prop}(h0:p0)(h1:p1):p0∧p1:=⟨h0,h1⟩
theorem Jz{p0 p1 p2:Prop}(h0:p0)(h1:p1)(h2:p2):p0∧p1∧p2:=⟨h0,h1,h2⟩
theorem ξ4{p0 p1 p2 p3:Prop}(h0:p0)(h1:p1)(h2:p2)(h3:p3):p0∧p1∧p2∧p3:=⟨h0,h1,h2,h3⟩
theorem ξ5{p0 p1 p2 p3 p4:Prop}(h0:p0)(h1:p1)(h2:p2)(h3:p3)(h4:p4):p0∧p1∧p2∧p3∧p4:=⟨h0,h1,h2,h3,h4⟩
theorem ξ6{p0 p1 p2 p3 p4 p5:Prop}(h0:p0)(h1:p1)(h2:p2)(h3:p3)(h4:p4)(h5:p5):p0∧p1∧p2∧p3∧p4∧p5:=⟨h0,h1,h2,h3,h4,h5⟩
theorem ξ7{p0 p1 p2 p3 p4 p5 p6:Prop}(h0:p0)(h1:p1)(h2:p2)(h3:p3)(h4:p4)(h5:p5)(h6:p6):p0∧p1∧p2∧p3∧p4∧p5∧p6:=⟨h0,h1,h2,h3,h4,h5,h6⟩
theorem ξ8{p0 p1 p2 p3 p4 p5 p6 p7:Prop}(h0:p0)(h1:p1)(h2:p2)(h3:p3)(h4:p4)(h5:p5)(h6:p6)(h7:p7):p0∧p1∧p2∧p3∧p4∧p5∧p6∧p7:=⟨h0,h1,h2,h3,h4,h5,h6,h7⟩
theorem Km{p0 p1 p2 p3 p4 p5 p6 p7 p8:Prop}(h0:p0)(h1:p1)(h2:p2)(h3:p3)(h4:p4)(h5:p5)(h6:p6)(h7:p7)(h8:p8):p0∧p1∧p2∧p3∧p4∧p5∧p6∧p7∧p8:=⟨h0,h1,h2,h3,h4,h5,h6,h7,h8⟩
abbrev Zf:=@Option.bind_eq_some_iff
abbrev YT:=@List.mem_of_getElem?
abbrev Ko:=@List.take_succ_eq_append_getElem
abbrev YQ:=@List.all_eq_true
abbrev Yk:=@List.append_assoc
abbrev Ki:=@List.getElem?_append_right
abbrev Zl:=@Nat.le_refl
abbrev YS:=@Option.map_some
abbrev Yt:=@Bool.false_eq_true
abbrev JI:=@Option.bind_eq_bind
abbrev Yl:=@List.getElem_mem
abbrev Yf:=@List.length_map
abbrev KV:=@Option.map_eq_some_iff
abbrev YL:=@List.map_cons
abbrev JQ:=@List.getElem?_take
abbrev KB:=@Nat.mul_le_mul_right
abbrev JA:=@List.length_take
abbrev YW:=@List.mem_map
abbrev Kl:=@Array.length_toList
abbrev Qp:=@Array.getElem?_toList
abbrev KU:=@List.length_drop
abbrev ξK:=@Array.getElem?_eq_getElem
abbrev KW:=@List.take_length
abbrev KC:=@List.map_append
abbrev ξQ:=@List.eq_nil_of_length_eq_zero
abbrev Yy:=@Nat.zero_add
abbrev Kg:=@List.append_nil
abbrev ξU:=@List.take_succ_cons
abbrev ξV:=@List.getElem?_drop
abbrev Qe:=@Option.getD_some
abbrev JL:=@Nat.add_mul
abbrev Jw:=@Nat.add_zero
abbrev ξZ:=@List.getElem?_eq_none
abbrev ZCa:=@Array.getD_eq_getD_getElem?
abbrev KT:=@List.mem_append
abbrev ZBW:=@List.getElem?_cons_zero
abbrev ZBe:=@List.getElem?_cons_succ
abbrev ZBM:=@Int.eq_ofNat_of_zero_le
abbrev QC:=@List.cons_append
abbrev Qu:=@Option.bind_some
abbrev Jq:=@List.map_map
abbrev Qf:=@Option.map_none
abbrev ZB7:=@List.mem_of_mem_drop
abbrev QL:=@List.mapM_cons
abbrev ZCn:=@List.take_append_drop
abbrev ZAq:=@List.ext_getElem?
abbrev Qx:=@Option.pure_def
abbrev Je:=@Nat.zero_le
abbrev Qw:=@List.nil_append
abbrev ZB4:=@List.map_congr_left
abbrev ZBn:=@List.set_cons_succ
abbrev ZBP:=@List.mem_singleton
abbrev ZDD:=@List.set_append_right
abbrev QM:=@List.mem_cons
abbrev QJ:=@Bool.and_true
abbrev ZFd:=@List.drop_eq_getElem_cons
abbrev ZDO:=@List.mem_of_mem_take
abbrev ZBj:=@List.getElem?_set
abbrev ZGe:=@List.getD_eq_getElem?_getD
abbrev ZCk:=@List.set_cons_zero
abbrev ZB8:=@List.size_toArray
abbrev ZA6:=@Option.some.inj
abbrev ZCm:=@Option.some.injEq
abbrev Kr:=@Nat.mul_one
abbrev ZAI:=@Prod.mk.injEq
abbrev ZDj:=@List.drop_succ_cons
abbrev ZFa:=@List.drop_of_length_le
abbrev ZAJ:=@List.all_cons
abbrev ZEe:=@List.getElem?_set_ne
abbrev ZBc:=@Bool.eq_iff_iff
abbrev ZFM:=@List.mem_iff_getElem?
abbrev ZDn:=@List.mem_cons_self
abbrev Qv:=@List.map_nil
abbrev ZCf:=@Array.toList_inj
abbrev ZGm:=@List.getElem?_set_self
abbrev ZBZ:=@List.take_zero
abbrev ZCr:=@List.nodup_cons
abbrev ZKj:=@List.take_append_of_le_length
abbrev ZGo:=@List.mem_cons_of_mem
abbrev ZCo:=@List.drop_zero
abbrev ZEi:=@Bool.and_eq_true
abbrev ZFW:=@List.nodup_append
abbrev ZLD:=@List.pairwise_iff_getElem
abbrev ZCp:=@Bool.true_and
abbrev ZEg:=@Bool.or_eq_true
abbrev ZFg:=@Option.bind_none
abbrev ZJs:=@List.length_replicate
abbrev ZEk:=@List.mem_range
abbrev ZHg:=@Bool.not_eq_true'
abbrev ZGf:=@List.cons.injEq
abbrev ZDg:=@Nat.beq_refl
abbrev ZJo:=@Int.toNat_natCast
abbrev ZFj:=@Bool.or_false
abbrev ZIH:=@List.length_set
abbrev ZMn:=@Array.getElem?_modify
abbrev ZQo:=@Classical.byContradiction
abbrev ZMz:=@List.set_append_left
abbrev ZNN:=@List.mem_iff_getElem
abbrev ZFV:=@List.all_nil
abbrev ZMh:=@List.length_pos_iff
abbrev ZMi:=@List.getD_cons_zero
abbrev ZK8:=@Option.getD_none
abbrev ZH9:=@Nat.add_assoc
abbrev ZSY:=@Array.getElem?_setIfInBounds
abbrev ZND:=@Nat.lt_of_lt_of_le
abbrev ZNH:=@Nat.eq_zero_or_pos
abbrev ZJk:=@List.Perm.refl
abbrev ZJO:=@Bool.false_and
abbrev ZJt:=@Bool.and_assoc
abbrev ZMt:=@List.flatMap_cons
abbrev ZH2:=@Nat.sub_self
abbrev ZIU:=@Nat.mul_comm
abbrev ZS9:=@List.getElem?_eq_some_iff
abbrev ZKn:=@Nat.mul_le_mul
abbrev ZPD:=@List.getElem?_range
abbrev ZMj:=@List.filter_cons
abbrev ZSu:=@Nat.add_sub_cancel_left
abbrev ZTn:=@List.countP_cons_of_pos
abbrev ZI4:=@Nat.zero_mul
abbrev ZJK:=@Nat.le_trans
abbrev ZQV:=@List.map_singleton
abbrev ZMl:=@List.foldl_cons
abbrev ZM7:=@List.all_append
abbrev ZQZ:=@List.reverse_cons
abbrev ZO9:=@List.flatten_cons
abbrev ZTL:=@Nat.eq_of_beq_eq_true
abbrev ZS0:=@List.length_singleton
abbrev ZTI:=@Bool.cond_false_right
abbrev ZMm:=@UInt8.toNat_lt
abbrev ZM1:=@Bool.and_false
abbrev ZPZ:=@Nat.mod_eq_of_lt
abbrev ZP9:=@List.reverse_nil
abbrev ZTR:=@List.pairwise_append
abbrev ZLA:=@List.map_set
abbrev ZSv:=@List.length_eraseIdx
abbrev ZKb:=@List.all_map
abbrev ZKh:=@Bool.true_or
abbrev ZKx:=@Bool.or_true
abbrev ZTD:=@Bool.or_eq_false_iff
abbrev ZPu:=@Array.toList_map
abbrev ZM8:=@List.mapM_nil
abbrev ZSl:=@List.getElem_of_mem
abbrev ZSp:=@List.getD_cons_succ
abbrev ZTU:=@Bool.cond_true_left
abbrev ZSW:=@Array.toList_modify
abbrev ZEl:=@Prod.ext
abbrev ZQH:=@Nat.min_eq_left
abbrev ZYY:=@Array.getElem?_append_left
abbrev ZKd:=@Nat.one_mul
abbrev ZTY:=@List.pairwise_cons
abbrev ZSJ:=@List.mem_replicate
abbrev ZYU:=@List.mem_or_eq_of_mem_set
abbrev ZSK:=@List.count_pos_iff
abbrev ZM0:=@Nat.add_comm
abbrev ZO0:=@Bool.not_false
abbrev ZSi:=@List.foldl_append
abbrev ZTe:=@Decidable.not_not
abbrev ZY6:=@List.eraseIdx_cons_succ
abbrev ZXl:=@List.countP_cons_of_neg
abbrev ZSS:=@List.mem_flatMap
abbrev ZS3:=@Bool.not_eq_true
abbrev ZPx:=@Bool.false_or
abbrev ZM2:=@List.map_id
abbrev ZYe:=@Nat.div_lt_iff_lt_mul
abbrev ZWX:=@List.length_filter_le
abbrev ZTk:=@UInt8.toNat_inj
abbrev ZTj:=@Nat.div_add_mod
abbrev ZSc:=@Int.natCast_pos
abbrev ZXY:=@List.getElem?_modify
abbrev ZYc:=@List.count_le_length
abbrev ZY4:=@List.map_eq_nil_iff
abbrev ZXO:=@List.flatMap_append
abbrev ZSV:=@List.drop_drop
abbrev ZYI:=@Array.toList_filter
abbrev ZXS:=@Option.isSome_none
abbrev ZYN:=@Array.getElem?_map
abbrev ZTo:=@Bool.and_self
abbrev ZYD:=@List.filter_congr
abbrev ZXz:=@Array.size_append
abbrev ZcW:=@Array.eq_empty_of_size_eq_zero
theorem Zv{α:Type u}{β:Type v}{b:β}{x:Option α}{f:α→Option β}(h:x.bind f=some b): ∃a,x=some a∧f a=some b:=Zf.1 h
theorem ZT{α:Type u}{β:Type v}{b:β}{x:Option α}{f:α→β}(h:x.map f=some b): ∃a,x=some a∧f a=b:=KV.1 h
theorem ZR{α:Type u}{l:List α}{i:Nat}{a:α}(h:l[i]? =some a): ∃h,l[i]=a:=ZS9.1 h
theorem ξH{α:Type u}{l:Array α}{i:Nat}{a:α}(h:l[i]? =some a): ∃h,l[i]=a:=Array.getElem?_eq_some_iff.1 h
theorem Yh{α:Type u}{β:Type v}{b:β}{x:Option α}{f:α→Option β}:x.bind f=some b↔ ∃a,x=some a∧f a=some b:=Zf
theorem Qt{α:Type u}{β:Type v}{b:β}{x:Option α}{f:α→β}:x.map f=some b↔ ∃a,x=some a∧f a=b:=KV
theorem Zi{p:Prop}[Decidable p]:(decide p=true)=p:=decide_eq_true_eq
theorem Zc{p:Prop}[Decidable p](h:p):decide p=true:=decide_eq_true h
theorem Zx{α:Type u}{as bs:List α}:(as++bs).length=as.length+bs.length:=List.length_append
theorem JJ{α:Type u}{a:α}{as:List α}:(a::as).length=as.length+1:=List.length_cons
theorem ξN{α:Type u}:([]:List α).length=0:=List.length_nil
theorem ZS(a b:Bool):((a&&b)=true)=(a=true∧b=true):=ZEi a b
theorem ξn{a b:Prop}(h:a)(k:b):a∧b:=⟨h,k⟩
theorem Ze{α:Type u}(a b:α):(some a=some b)=(a=b):=ZCm a b
theorem Za{α:Type u}{β:Type v}(a:α)(b:β)(c:α)(d:β):((a,b)=(c,d))=(a=c∧b=d):=ZAI a b c d
theorem Zu{α:Type u}{l:List α}{i:Nat}(h:i<l.length):l[i]? =some l[i]:=List.getElem?_eq_getElem h
theorem JH{α:Type u}{i:Nat}{l:List α}(h:l.length≤i):l.take i=l:=List.take_of_length_le h
theorem YR{α:Type u}{l₁ l₂:List α}{i:Nat}(h:i<l₁.length):(l₁++l₂)[i]? =l₁[i]? :=List.getElem?_append_left h
theorem Zw{α:Type u}{β:Type v}{f:α→β}{l:List α}{i:Nat}:(l.map f)[i]? =l[i]?.map f:=List.getElem?_map
theorem ξ{n m:Nat}(h:n.ble m=true):n≤m:=Nat.le_of_ble_eq_true h
end Go
end
section
namespace Go.Bo
open Go.RowKit
def Kt(w w':World):Prop:=Below w.heap.size w w'
theorem Kt.refl(w:World):Kt w w:=Below.refl _ _
theorem Kt.size{w w':World}(h:Kt w w'):w.heap.size≤w'.heap.size:=Below.size h
theorem Kt.trans{a b c:World}(h:Kt a b)(k:Kt b c):Kt a c:=Below.trans h (Below.mono k (Kt.size h))
theorem Kt.al{a w:World}(h:Kt a w)(o:Obj):Kt a (w.alloc o):=Below.alloc h h.size o
theorem Kt.dr{a w:World}(h:Kt a w):Kt a w.drew:=Below.drew h
theorem Kt.st{a w:World}(h:Kt a w){p:Addr}(hp:a.heap.size≤p.block)(u:Value):Kt a (w.setCell p u):=Below.setCell h hp u
theorem Kt.grown{w w':World}(h:Kt w w')(r:Option Nat):w.grownBy w' r:=⟨h.os,h.tape,h.output,h.size,fun k hk _=>Below.block h k hk⟩
theorem Kt.cellE{w w':World}(h:Kt w w'){p:Addr}{v:Value}(hc:w.cell? p=some v):w'.cell? p=some v:=by
 rw[Below.cell h (World.block_lt_of_cell? _ _ hc)];exact hc
structure ExtOf (w:World) where
 to:World
 ext:Kt w to
instance (w:World):Nonempty (ExtOf w):=⟨⟨w,Kt.refl w⟩⟩
theorem Kt.to{w:World}(x:ExtOf w){p:Addr}{v:Value}(hc:w.cell? p=some v):x.to.cell? p=some v:=x.ext.cellE hc
def ISl(w:World)(a:Option Addr)(l:List Int):Prop:=
 l.length≤9223372036854775807∧ ∀i,i<l.length→ ∃b off,a=some ⟨b,off,none⟩∧w.cell? ⟨b,off+i,none⟩=some (.int .i64 (l.getD i 0))
theorem ISl.ext{w w':World}{a:Option Addr}{l:List Int}(h:ISl w a l)(e:Kt w w'):ISl w' a l:=by
 refine⟨h.1,fun i hi=> ?_⟩;obtain⟨b,off,ha,hc⟩:=h.2 i hi;exact⟨b,off,ha,e.cellE hc⟩
theorem ISl.alloc{w:World}{a:Option Addr}{l:List Int}(h:ISl w a l)(o:Obj):ISl (w.alloc o) a l:=h.ext ((Kt.refl w).al o)
theorem ISl.nil(w:World)(a:Option Addr):ISl w a []:=⟨by simp,fun i hi=>by simp at hi⟩
theorem ISl.new(w:World)(l:List Int)(h:l.length≤9223372036854775807)(t:TypeId):ISl (w.alloc (.cells (l.map (Value.int .i64)).toArray t)) (some ⟨w.heap.size,0,none⟩) l:=by
 refine⟨h,fun i hi=>⟨_,_,rfl,?_⟩⟩;rw[World.cell?_alloc_new];simp[hi]
structure Grow (w w':World) (v v':Value):Prop where
 grown:w.grownBy w' v.ownBlock
 own:v'.ownBlock=v.ownBlock∨ ∃g,v'.ownBlock=some g∧w.heap.size≤g
theorem Grow.refl(w:World)(v:Value):Grow w w v v:=⟨⟨rfl,rfl,rfl,Zl _,fun _ _ _=>rfl⟩,.inl rfl⟩
theorem Grow.ext{w0 w w':World}{v v':Value}{e:TypeId}{s n:Nat}{xs:List Value}(h:Kt w0 w)(hg:Grow w w' v v')(ho:w.ownsRow w0.heap.size e s v n xs):Kt w0 w':=
 Below.grown h hg.grown h.size (fun k hk=>(ho.lt k hk).1)
section
variable {P:Program} (w:World)
theorem ZBr(base:Nat)(t ty e:TypeId)(i:TypeInfo)(z:Value)(size bytes:Nat)(ht:P.underlying t=some (.slice e))(hi:P.info? e=some i)(hz:i.zero=some z)
  (hsize:i.size=size) (hby:i.bytes=bytes) (hzs:z.cells.size=size) (hsz:0<size)
  (v:Value) (n:Nat) (xs:List Value) (hown:w.ownsRow base e size v n xs)
  (a:Addr) (m c:Nat) (news:List Value) (hl:news.length=m*size) (hnews: ∀j u,news[j]? =some u→w.cell? (a.add j)=some u) (h1: ∀u∈news,u.oneCell'=true)
  (h63:n+m≤maxLen) (hbytes:(n+m)*bytes≤140737488355328) (hbase:base≤w.heap.size):
  ∃v' w',(Builtin.append_ #[t,t] ty #[v,.slice (some a) m c]).run P w= .ok v' w'∧w'.ownsRow base e size v' (n+m) (xs++news)∧Grow w w' v v':=by
 obtain⟨v',w',hr,ho,hg,hn⟩:=run_append_own (P:=P) w base t ty e i z size bytes ht hi hz hsize hby hzs hsz v n xs hown a m c news hl hnews h1 h63 hbytes hbase;refine⟨v',w',hr,ho,hg,?_⟩;subst hsize;subst hby
 have hsm:n+m≤9223372036854775807:=by simp only[maxLen]at h63;omega
 rcases hown.2 with⟨rfl,rfl⟩|⟨g,cap,cur,rfl,hbg,hgg,hnc,hcm,hcs,htake⟩
 ·by_cases hm:m=0
  ·left;rw[hn.2 ⟨rfl,hm⟩]
  ·right;have hr2:=run_append_nil (P:=P) w t ty e i z ht hi hz a m c news hl hnews (by omega) (by omega) (by have hb:=hbytes;simp only[Yy]at hb;omega);rw[hr2]at hr;cases hr;exact⟨_,rfl,Zl _⟩
 ·by_cases hroom:n+m≤cap
  ·left;have hfit:n*i.size+news.length≤cur.size:=by rw[hl,hcs,←JL];exact KB _ hroom
   have hr2:=run_append_room (P:=P) w t ty e i ht hi g n cap cur hgg a m c news hl hnews h1 hroom hfit;rw[hr2]at hr;cases hr;rfl
  ·right;have holds: ∀j u,xs[j]? =some u→w.cell? ((⟨g,0,none⟩:Addr).add j)=some u:=hown.cells (g:=g) rfl;have hr2:=run_append_grow (P:=P) w t ty e i z ht hi hz ⟨g,0,none⟩ n cap xs hown.1 holds a m c news hl hnews (by omega) (by omega) (growslice_fits (by omega) hbytes);rw[hr2]at hr;cases hr;exact⟨_,rfl,Zl _⟩
theorem ZCV{ops:Array Oper}{rest:List Oper}{o:Oper}{a:Act}{Q:Exit→Act→World→Prop}(hgd:o.guard=none)(s x:Operand)(t:TypeId)
  (ho:o.op= .call {callee:= .builtin .append,args:= #[s,x],argTypes:= #[t,t]})
  (base:Nat) (e:TypeId) (i:TypeInfo) (z:Value) (size bytes:Nat) (ht:P.underlying t=some (.slice e)) (hi:P.info? e=some i) (hz:i.zero=some z)
  (hsize:i.size=size) (hby:i.bytes=bytes) (hzs:z.cells.size=size) (hsz:0<size)
  (v:Value) (n:Nat) (xs:List Value) (hs:a.eval s=v) (hown:w.ownsRow base e size v n xs)
  (ad:Addr) (m c:Nat) (news:List Value) (hx:a.eval x= .slice (some ad) m c) (hl:news.length=m*size) (hnews: ∀j u,news[j]? =some u→w.cell? (ad.add j)=some u) (h1: ∀u∈news,u.oneCell'=true)
  (h63:n+m≤maxLen) (hbytes:(n+m)*bytes≤140737488355328) (hbase:base≤w.heap.size)
  (h: ∀v' w',w'.ownsRow base e size v' (n+m) (xs++news)→Grow w w' v v'→wpList P ops Q rest (a.put o.dst v') w'):wpList P ops Q (o::rest) a w:=by
 refine wpList_plain hgd fun K hK'=> ?_
 obtain⟨v',w',hr,h2,h3⟩:=ZBr (P:=P) w base t o.type e i z size bytes ht hi hz hsize hby hzs hsz v n xs hown ad m c news hl hnews h1 h63 hbytes hbase;unfold Oper.wp execOp;simp only[ho,resolve,invoke,builtin,Sem.run_bind,Sem.run_pure,Result.andThen_ok,List.map_toArray,YL,Qv,hs,hx,hr];exact hK' _ _ (h v' w' h2 h3)
end
section
variable {P:Program} (w:World)
theorem QF(t ty e:TypeId)(i:TypeInfo)(ht:P.underlying t=some (.slice e))(hi:P.info? e=some i)(a0:Option Addr)(n cap:Nat)(hn:n≤cap)(as:Option Addr)(c:Nat):
  (Builtin.append_ #[t,t] ty #[.slice a0 n cap,.slice as 0 c]).run P w= .ok (.slice a0 n cap) w:=by
 cases a0<;>cases as<;>
  simp[Builtin.append_,run_underlying ht,sizeOf,typeInfo,hi,Builtin.lenOf,hn,Builtin.firstCells,loadCells,loadCellsFrom,storeCells]
end
theorem ZS6(ns:List Int): ∀s:ByteArray,ns.foldl (fun r n=>r.push (UInt8.ofNat n.toNat)) s=⟨(s.data.toList++ns.map fun n=>UInt8.ofNat n.toNat).toArray⟩:=by
 induction ns with
 |nil=>intro s;simp
 |cons n t ih=>
  intro s;rw[ZMl,ih];congr 1;simp[ByteArray.push]
def bt(s:ByteArray)(k:Nat):Int:=(s.data.toList.getD k 0).toNat
theorem ZOg{P:Program}(w:World)(T:TypeId)(kk:IntKind)(s:ByteArray)(i:Int)(hT:P.underlying T=some .string)(h0:0≤i)(h1:i<s.size):
  (Instr.index T (.string s) (.int kk i)).run P w= .ok (.int .u8 (bt s i.toNat)) w:=by
 have hk:i.toNat<s.size:=by omega
 have hk':i.toNat<s.data.size:=hk;have hb:s[i.toNat]? =some (s.data.toList.getD i.toNat 0):=by
  have e:s.data.toList.getD i.toNat 0=s[i.toNat]'hk:=by
   rw[List.getD,Qp,ξK hk'];rfl
  rw[e];exact getElem?_pos s i.toNat hk
 unfold Instr.index;simp[asIntOf,run_underlying hT,h0,hb,bt]
theorem ISl.none{w:World}{l:List Int}(h:ISl w none l):l.length=0:=by
 rcases ZNH l.length with h0|h0
 ·exact h0
 ·obtain⟨b,off,ha,_⟩:=h.2 0 h0;cases ha
def ZPc(w:World)(e:TypeId)(base:Nat)(v:Value)(l:List Int):Prop:=w.ownsRow base e 1 v l.length (l.map (Value.int .i64))
theorem ZPc.nil(w:World)(e:TypeId)(base:Nat):ZPc w e base (.slice none 0 0) []:=World.ownsRow_nil _ _ _ _
theorem ZPc.isl{w:World}{e:TypeId}{base:Nat}{v:Value}{l:List Int}(h:ZPc w e base v l): ∃a c,v= .slice a l.length c∧ISl w a l:=by
 rcases h.2 with⟨rfl,hn⟩|⟨g,cap,cur,rfl,hb,hg,hc,hm,hs,ht⟩
 ·exact⟨none,0,by rw[hn],by rw[ξQ hn];exact ISl.nil _ _⟩
 ·refine⟨_,cap,rfl,by simp only[maxLen]at hm;omega,fun i hi=>⟨g,0,rfl,?_⟩⟩;rw[cell_of_row _ _ _ _ _ _ hg];have:(cur.toList.take (l.length*1))[i]? =(l.map (Value.int .i64))[i]? :=by rw[ht]
  rw[JQ,if_pos (by omega)]at this;simpa[hi]using this
theorem ISl.own{w:World}{e:TypeId}{base n:Nat}{v:Value}{l:List Int}{xs:List Value}(h:w.ownsRow base e 1 v n xs)(hx:xs=l.map (Value.int .i64))(hn:n=l.length): ∃a c,v= .slice a l.length c∧ISl w a l:=by
 subst hx;subst hn;exact ZPc.isl h
structure KeyKind (d:TypeDesc) {κ:Type} [DecidableEq κ] (mk:κ→Value):Prop where
 same: ∀a b,Instr.sameNow d (mk a) (mk b)=some (decide (a=b))
 bits: ∀a,Instr.sameBits 10000 (mk a) (mk a)=true
 check: ∀(P:Program) (w:World) (e:Bool) (t:TypeId) (a:κ),P.underlying t=some d→(Instr.checkKey e 10000 t (mk a)).run P w= .ok () w
theorem ZVg:KeyKind .string Value.string where
 same a b:=by
  have h:(a==b)=decide (a=b):=by rw[ZBc,MapKept.bytes_beq];simp
  simp[Instr.sameNow,h]
 bits a:=by
  have h:(a==a)=true:=(MapKept.bytes_beq a a).2 rfl;rw[Instr.sameBits];exact h
 check P w e t a h:=by unfold Instr.checkKey;simp[run_underlying h]
theorem Zbi(k:IntKind):KeyKind (.int k) (Value.int k) where
 same a b:=by
  have h:(a==b)=decide (a=b):=by rw[ZBc];simp
  simp[Instr.sameNow,h]
 bits a:=by rw[Instr.sameBits];simp
 check P w e t a h:=by unfold Instr.checkKey;simp[run_underlying h]
section
variable {κ:Type} [DecidableEq κ] {mk:κ→Value} {d:TypeDesc}
theorem KeyKind.inj(K:KeyKind d mk){a b:κ}(h:mk a=mk b):a=b:=by
 have s1:=K.same a b;rw[h,K.same b b]at s1;simpa using s1
def KY(mk:κ→Value)(w:World)(r:Nat)(l:List (κ×Value)):Prop:=
 ∃es clk,w.heap[r]? =some (.map es clk)∧es.toList.map (fun e=>(e.key,e.val))=l.map (fun p=>(mk p.1,p.2))∧(l.map (·.1)).Nodup∧(∀x∈es.toList,x.born<clk)∧(es.toList.map (·.born)).Nodup
def ZI{β:Type}(l:List (κ×β))(k:κ):Option β:=(l.find? fun p=>decide (k=p.1)).map (·.2)
def Zz{β:Type}(l:List (κ×β))(k:κ)(v:β):List (κ×β):=
 match l with
 | []=> [(k,v)]
 |p::t=>if k=p.1 then(k,v)::t else p::Zz t k v
def YY{β:Type}(l:List (κ×β))(k:κ):List (κ×β):=
 match l with
 | []=> []
 |p::t=>if k=p.1 then t else p::YY t k
theorem ZBp(K:KeyKind d mk)(k:κ): ∀(l:List (κ×Value)) (es:List MapEntry) (i:Nat),es.map (fun e=>(e.key,e.val))=l.map (fun p=>(mk p.1,p.2))→
  (∃j v,Instr.findNow d (mk k) es i=some (some (i+j,v))∧ZI l k=some v∧j<es.length∧(∃e,es[j]? =some e∧e.key=mk k)∧
   (∀v',(es.modify j fun e=> {e with key:=mk k,val:=v'}).map (fun e=>(e.key,e.val))=(Zz l k v').map (fun p=>(mk p.1,p.2)))∧
   (es.eraseIdx j).map (fun e=>(e.key,e.val))=(YY l k).map (fun p=>(mk p.1,p.2)))∨
  (Instr.findNow d (mk k) es i=some none∧ZI l k=none∧(∀v',Zz l k v'=l++ [(k,v')])∧YY l k=l):=by
 intro l
 induction l with
 |nil=>
  intro es i h;have:es= []:=by simpa using h
  subst this;exact .inr ⟨rfl,rfl,fun _=>rfl,rfl⟩
 |cons p t ih=>
  intro es i h;cases es with
  |nil=>simp at h
  |cons e es=>
   simp only[YL,ZGf,Za]at h;obtain⟨⟨hk,hv⟩,ht⟩:=h;by_cases he:k=p.1
   ·left;refine⟨0,e.val,?_,?_,by simp,⟨e,rfl,by rw[hk,he]⟩,?_,?_⟩
    ·simp[Instr.findNow,hk,K.same,he]
    ·simp[ZI,he,hv]
    ·intro v';simp[Zz,he,ht]
    ·simp[YY,he,ht]
   ·have hs:Instr.sameNow d (mk k) e.key=some false:=by rw[hk,K.same];simp[he]
    rcases ih es (i+1) ht with⟨j,v,h1,h2,h3,⟨e',h4,h4'⟩,h5,h6⟩|⟨h1,h2,h3,h4⟩
    ·left;refine⟨j+1,v,?_,?_,by simp;omega,⟨e',by simpa using h4,h4'⟩,?_,?_⟩
     ·simp only[Instr.findNow,hs,h1];congr 3;omega
     ·simp[ZI,he];simpa[ZI]using h2
     ·intro v';simp[Zz,he,hk,hv,h5 v']
     ·simp[YY,he,hk,hv,h6]
    ·right;refine⟨?_,?_,?_,?_⟩
     ·simp only[Instr.findNow,hs,h1]
     ·simp[ZI,he];simpa[ZI]using h2
     ·intro v';simp[Zz,he,h3 v']
     ·simp[YY,he,h4]
theorem ZVU{β:Type}(l:List (κ×β))(k:κ)(v:β): ∀x,x∈(Zz l k v).map (·.1)↔x=k∨x∈l.map (·.1):=by
 intro x
 induction l with
 |nil=>simp[Zz]
 |cons p t ih=>
  unfold Zz;split
  ·rename_i h;simp[h]
  ·simp only[YL,QM,ih];grind
theorem ZDL{β:Type}(l:List (κ×β))(k:κ)(v:β)(h:(l.map (·.1)).Nodup):((Zz l k v).map (·.1)).Nodup:=by
 induction l with
 |nil=>simp[Zz]
 |cons p t ih=>
  simp only[YL,ZCr]at h;unfold Zz;split
  ·rename_i e;simp only[YL,ZCr];rw[e];exact h
  ·rename_i e;simp only[YL,ZCr];refine⟨fun hm=> ?_,ih h.2⟩;rcases(ZVU t k v p.1).1 hm with e'|e'
   ·exact e e'.symm
   ·exact h.1 e'
theorem ZUI{β:Type}(l:List (κ×β))(k:κ): ∀x,x∈(YY l k).map (·.1)→x∈l.map (·.1):=by
 intro x
 induction l with
 |nil=>simp[YY]
 |cons p t ih=>
  unfold YY;split
  ·intro h;simp only[YL,QM];exact .inr h
  ·simp only[YL,QM];rintro(h|h)
   ·exact .inl h
   ·exact .inr (ih h)
theorem mdel_nodup{β:Type}(l:List (κ×β))(k:κ)(h:(l.map (·.1)).Nodup):((YY l k).map (·.1)).Nodup:=by
 induction l with
 |nil=>simp[YY]
 |cons p t ih=>
  simp only[YL,ZCr]at h;unfold YY;split
  ·exact h.2
  ·simp only[YL,ZCr];exact⟨fun hm=>h.1 (ZUI t k _ hm),ih h.2⟩
theorem ZAH{β:Type}{l:List (κ×β)}{k:κ}{v:β}(h:ZI l k=some v):(k,v)∈l:=by
 unfold ZI at h;cases hf:l.find? fun p=>decide (k=p.1)with
 |none=>simp[hf]at h
 |some p=>
  have h1:=List.mem_of_find?_eq_some hf;have h2:=List.find?_some hf;simp[hf]at h;simp at h2;rw[h2,←h];exact h1
theorem ZIm{β:Type}{l:List (κ×β)}(hn:(l.map (·.1)).Nodup){k:κ}{v:β}(h:(k,v)∈l):ZI l k=some v:=by
 induction l with
 |nil=>cases h
 |cons p t ih=>
  simp only[YL,ZCr]at hn;rcases QM.1 h with rfl|h
  ·simp[ZI]
  ·by_cases e:k=p.1
   ·exact absurd (YW.2 ⟨_,h,rfl⟩) (e▸hn.1)
   ·have:ZI (p::t) k=ZI t k:=by simp[ZI,e]
    rw[this];exact ih hn.2 h
theorem ZH3{β:Type}{l:List (κ×β)}{k:κ}:ZI l k=none↔k∉l.map (·.1):=by
 unfold ZI;simp[List.find?_eq_none];grind
variable {P:Program} {w:World}
theorem ZKL{es:Array MapEntry}(j:Nat)(f:MapEntry→MapEntry)(hf: ∀e,(f e).born=e.born):(es.modify j f).toList.map (·.born)=es.toList.map (·.born):=by
 apply ZAq;intro i;simp only[Zw,Qp,ZMn];by_cases h:j=i
 ·subst h;cases es[j]? <;>simp[hf]
 ·simp[h]
theorem ZB9{es:Array MapEntry}(j:Nat)(f:MapEntry→MapEntry)(hf: ∀e,(f e).born=e.born)(h:(es.toList.map (·.born)).Nodup):((es.modify j f).toList.map (·.born)).Nodup:=by rw[ZKL j f hf];exact h
theorem ZDy{es:Array MapEntry}{clk:Nat}(j:Nat)(f:MapEntry→MapEntry)(hf: ∀e,(f e).born=e.born)(h: ∀x∈es.toList,x.born<clk): ∀x∈(es.modify j f).toList,x.born<clk:=by
 intro x hx;have:x.born∈(es.modify j f).toList.map (·.born):=YW.2 ⟨x,hx,rfl⟩;rw[ZKL j f hf]at this;obtain⟨y,hy,e⟩:=YW.1 this;rw[←e];exact h y hy
theorem ZI5{es:Array MapEntry}{clk:Nat}{k v:Value}(h: ∀x∈es.toList,x.born<clk): ∀x∈(es.push {key:=k,val:=v,born:=clk}).toList,x.born<clk+1:=by
 intro x hx;simp only[Array.toList_push,KT,ZBP]at hx;rcases hx with hx|rfl
 ·exact Nat.lt_succ_of_lt (h x hx)
 ·exact Nat.lt_succ_self _
theorem ZOL{es:Array MapEntry}{clk:Nat}{k v:Value}(h: ∀x∈es.toList,x.born<clk)(hn:(es.toList.map (·.born)).Nodup):((es.push {key:=k,val:=v,born:=clk}).toList.map (·.born)).Nodup:=by
 simp only[Array.toList_push,KC,YL,Qv];refine ZFW.2 ⟨hn,by simp,?_⟩;intro a ha b hb;simp only[ZBP]at hb;subst hb;obtain⟨x,hx,rfl⟩:=YW.1 ha;exact Nat.ne_of_lt (h x hx)
theorem ZMU(es:Array MapEntry)(j:Nat):(es.eraseIdxIfInBounds j).toList.Sublist es.toList:=by
 unfold Array.eraseIdxIfInBounds;split
 ·simp only[Array.toList_eraseIdx];exact List.eraseIdx_sublist _ _
 ·exact List.Sublist.refl _
theorem ZQR(K:KeyKind d mk)(T key elem:TypeId)(z:Value)(hT:P.underlying T=some (.map key elem))(hk:P.underlying key=some d)(hz:(zeroValue elem).run P w= .ok z w)
  (r:Nat) (l:List (κ×Value)) (hm:KY mk w r l) (k:κ) (ok:Bool):
  (Instr.lookup T (.map (some r)) (mk k) ok).run P w= .ok (if ok then .tuple #[(ZI l k).getD z,.bool (ZI l k).isSome]else(ZI l k).getD z) w:=by
 obtain⟨es,clk,hr,hl,hn,-⟩:=hm;have hg:(getObj r).run P w= .ok (.map es clk) w:=by simp[getObj,Sem.run,hr]
 rcases ZBp K k l es.toList 0 hl with⟨j,v,h1,h2,-⟩|⟨h1,h2,-⟩
 ·cases ok<;>simp[Instr.lookup,run_underlying hT,hg,Sem.run_bind,Result.andThen,K.check P w _ key k hk,Instr.findKey,run_underlying hk,h1,h2]
 ·cases ok<;>simp[Instr.lookup,run_underlying hT,hg,Sem.run_bind,Result.andThen,K.check P w _ key k hk,Instr.findKey,run_underlying hk,h1,h2,hz]
structure Only (r:Nat) (w w':World):Prop where
 os:w'.os=w.os
 tape:w'.tape=w.tape
 output:w'.output=w.output
 size:w'.heap.size=w.heap.size
 block: ∀b,b≠r→w'.heap[b]? =w.heap[b]?
theorem ZBg(w:World)(r:Nat)(o:Obj):Only r w {w with heap:=w.heap.setIfInBounds r o}:=by
 refine⟨rfl,rfl,rfl,by simp,fun b hb=> ?_⟩;simp only[ZSY];rw[if_neg (fun h=>hb h.symm)]
theorem ZLZ(K:KeyKind d mk)(T key elem:TypeId)(hT:P.underlying T=some (.map key elem))(hk:P.underlying key=some d)
  (r:Nat) (l:List (κ×Value)) (hm:KY mk w r l) (k:κ) (v:Value):
  ∃w',(Instr.mapUpdate T (.map (some r)) (mk k) v).run P w= .ok () w'∧Only r w w'∧KY mk w' r (Zz l k v):=by
 obtain⟨es,clk,hr,hl,hn,hbc,hbn⟩:=hm;have hlt:r<w.heap.size:=(ξH hr).1;have hg:(getObj r).run P w= .ok (.map es clk) w:=by simp[getObj,Sem.run,hr]
 have hs: ∀o,(setObj r o).run P w= .ok () {w with heap:=w.heap.setIfInBounds r o}:=fun o=>by simp[setObj,Sem.run,hr]
 rcases ZBp K k l es.toList 0 hl with⟨j,v0,h1,h2,h3,⟨e,h4,h4'⟩,h5,-⟩|⟨h1,h2,h3,-⟩
 ·have hj:es[j]? =some e:=by simpa using h4
  have hks:(Instr.keyThatStays (mk k) (mk k)).run P w= .ok (mk k) w:=by simp[Instr.keyThatStays,K.bits]
  refine⟨_,?_,ZBg w r (.map (es.modify j fun e=> {e with key:=mk k,val:=v}) clk),es.modify j fun e=> {e with key:=mk k,val:=v},clk,?_,?_,ZDL l k v hn,ZDy j _ (fun _=>rfl) hbc,ZB9 j _ (fun _=>rfl) hbn⟩
  ·simp[Instr.mapUpdate,run_underlying hT,hg,Sem.run_bind,Result.andThen,K.check P w _ key k hk,Instr.findKey,run_underlying hk,h1,hj,h4',hks,hs]
  ·simp[hlt]
  ·rw[ZSW];exact h5 v
 ·refine⟨_,?_,ZBg w r (.map (es.push {key:=mk k,val:=v,born:=clk}) (clk+1)),es.push {key:=mk k,val:=v,born:=clk},clk+1,?_,?_,ZDL l k v hn,ZI5 hbc,ZOL hbc hbn⟩
  ·simp[Instr.mapUpdate,run_underlying hT,hg,Sem.run_bind,Result.andThen,K.check P w _ key k hk,Instr.findKey,run_underlying hk,h1,hs]
  ·simp[hlt]
  ·rw[h3 v];simp[hl]
theorem ZP1(K:KeyKind d mk)(T key elem:TypeId)(hT:P.underlying T=some (.map key elem))(hk:P.underlying key=some d)(ty:TypeId)(ts:TypeId)
  (r:Nat) (l:List (κ×Value)) (hm:KY mk w r l) (k:κ):
  ∃w',(Builtin.delete_ #[T,ts] ty #[.map (some r),mk k]).run P w= .ok (.tuple #[]) w'∧Only r w w'∧KY mk w' r (YY l k):=by
 obtain⟨es,clk,hr,hl,hn,hbc,hbn⟩:=hm;have hlt:r<w.heap.size:=(ξH hr).1;have hg:(getObj r).run P w= .ok (.map es clk) w:=by simp[getObj,Sem.run,hr]
 have hs: ∀o,(setObj r o).run P w= .ok () {w with heap:=w.heap.setIfInBounds r o}:=fun o=>by simp[setObj,Sem.run,hr]
 rcases ZBp K k l es.toList 0 hl with⟨j,v0,h1,h2,h3,⟨e,h4,h4'⟩,-,h6⟩|⟨h1,h2,-,h4⟩
 ·refine⟨_,?_,ZBg w r (.map (es.eraseIdxIfInBounds j) clk),es.eraseIdxIfInBounds j,clk,?_,?_,mdel_nodup l k hn,fun x hx=>hbc x ((ZMU es j).subset hx),((ZMU es j).map _).nodup hbn⟩
  ·simp[Builtin.delete_,run_underlying hT,hg,Sem.run_bind,Result.andThen,K.check P w _ key k hk,Instr.findKey,run_underlying hk,h1,hs]
  ·simp[hlt]
  ·rw[←h6,Array.toList_eraseIdxIfInBounds]
 ·refine⟨_,?_,ZBg w r (.map es clk),es,clk,?_,?_,mdel_nodup l k hn,hbc,hbn⟩
  ·simp[Builtin.delete_,run_underlying hT,hg,Sem.run_bind,Result.andThen,K.check P w _ key k hk,Instr.findKey,run_underlying hk,h1,hs]
  ·simp[hlt]
  ·rw[h4];exact hl
theorem ZNM(K:KeyKind d mk)(T key elem:TypeId)(z:Value)(hT:P.underlying T=some (.map key elem))(hk:P.underlying key=some d)(hz:(zeroValue elem).run P w= .ok z w)
  (r:Nat) (l:List (κ×Value)) (hm:KY mk w r l) (k:κ):
  ∃(w':World) (v:Value) (n:Nat),(Instr.mapEntry T (.map (some r)) (mk k)).run P w= .ok (.tuple #[v,goInt n]) w'∧Only r w w'∧v=(ZI l k).getD z∧KY mk w' r (Zz l k v)∧
   ∃es clk e,w'.heap[r]? =some (.map es clk)∧e∈es.toList∧e.born=n∧e.key=mk k:=by
 obtain⟨es,clk,hr,hl,hn,hbc,hbn⟩:=hm;have hlt:r<w.heap.size:=(ξH hr).1;have hg:(getObj r).run P w= .ok (.map es clk) w:=by simp[getObj,Sem.run,hr]
 have hs: ∀o,(setObj r o).run P w= .ok () {w with heap:=w.heap.setIfInBounds r o}:=fun o=>by simp[setObj,Sem.run,hr]
 rcases ZBp K k l es.toList 0 hl with⟨j,v0,h1,h2,h3,⟨e,h4,h4'⟩,h5,-⟩|⟨h1,h2,h3,-⟩
 ·have hj:es[j]? =some e:=by simpa using h4
  have hks:(Instr.keyThatStays (mk k) (mk k)).run P w= .ok (mk k) w:=by simp[Instr.keyThatStays,K.bits]
  have hev:e.val=v0:=by
   have h6:=congrArg (fun l=>l[j]?) hl;simp only[Zw,h4,YS]at h6;have hjl:j<l.length:=by
    have:=congrArg List.length hl;simp only[Yf]at this;omega
   rw[Zu hjl]at h6;simp only[YS,Ze,Za]at h6;have h7:ZI l k=some l[j].2:=by
    have hK:=h6.1;rw[h4']at hK;have hkk:k=l[j].1:=by
     exact K.inj hK
    exact ZIm hn (by rw[hkk];exact Yl hjl)
   rw[h2]at h7;simp only[Ze]at h7;rw[h6.2,h7]
  refine⟨_,v0,e.born,?_,ZBg w r (.map (es.modify j fun e=> {e with key:=mk k}) clk),by rw[h2];rfl,⟨es.modify j fun e=> {e with key:=mk k},clk,?_,?_,ZDL l k v0 hn,ZDy j _ (fun _=>rfl) hbc,ZB9 j _ (fun _=>rfl) hbn⟩,es.modify j fun e=> {e with key:=mk k},clk,{e with key:=mk k},?_,?_,rfl,rfl⟩
  ·simp[Instr.mapEntry,run_underlying hT,hg,Sem.run_bind,Result.andThen,K.check P w _ key k hk,Instr.findKey,run_underlying hk,h1,hj,h4',hks,hs]
  ·simp[hlt]
  ·rw[←h5 v0,ZSW];congr 1;apply ZAq;intro i;simp only[ZXY];by_cases h:j=i
   ·subst h;simp only[h4,if_true,Option.map_eq_map,YS,hev.symm]
   ·simp[h]
  ·simp[hlt]
  ·have:(es.modify j fun e=> {e with key:=mk k}).toList[j]? =some {e with key:=mk k}:=by
    rw[ZSW,ZXY,h4];simp
   exact YT this
 ·refine⟨_,z,clk,?_,ZBg w r (.map (es.push {key:=mk k,val:=z,born:=clk}) (clk+1)),by rw[h2];rfl,⟨es.push {key:=mk k,val:=z,born:=clk},clk+1,?_,?_,ZDL l k z hn,ZI5 hbc,ZOL hbc hbn⟩,es.push {key:=mk k,val:=z,born:=clk},clk+1,{key:=mk k,val:=z,born:=clk},?_,by simp,rfl,rfl⟩
  ·simp[Instr.mapEntry,run_underlying hT,hg,Sem.run_bind,Result.andThen,K.check P w _ key k hk,Instr.findKey,run_underlying hk,h1,hs,hz]
  ·simp[hlt]
  ·rw[h3 z];simp[hl]
  ·simp[hlt]
theorem ZKp(K:KeyKind d mk)(T:TypeId)(r:Nat)(l:List (κ×Value))(hm:KY mk w r l)(k:κ)(n:Nat)(v:Value)
  (he: ∀es clk,w.heap[r]? =some (.map es clk)→ ∃e∈es.toList,e.born=n∧e.key=mk k):
  ∃w',(Instr.entryStore T (.map (some r)) (goInt n) v).run P w= .ok () w'∧Only r w w'∧KY mk w' r (Zz l k v):=by
 obtain⟨es,clk,hr,hl,hn,hbc,hbn⟩:=hm;have hlt:r<w.heap.size:=(ξH hr).1;have hg:(getObj r).run P w= .ok (.map es clk) w:=by simp[getObj,Sem.run,hr]
 have hs: ∀o,(setObj r o).run P w= .ok () {w with heap:=w.heap.setIfInBounds r o}:=fun o=>by simp[setObj,Sem.run,hr]
 obtain⟨e,hm,hb,hkey⟩:=he es clk hr;rcases ZBp K k l es.toList 0 hl with⟨j,v0,h1,h2,h3,⟨e',h4,h4'⟩,h5,-⟩|⟨h1,h2,h3,-⟩
 ·have hee:e=e':=by
   have inj: ∀(L:List MapEntry) (l:List (κ×Value)),L.map (fun e=>(e.key,e.val))=l.map (fun p=>(mk p.1,p.2))→(l.map (·.1)).Nodup→ ∀a b,a∈L→b∈L→a.key=mk k→b.key=mk k→a=b:=by
    intro L
    induction L with
    |nil=>intro l _ _ a b ha;cases ha
    |cons x L ih=>
     intro l hl hn a b ha hb ka kb;cases l with
     |nil=>simp at hl
     |cons p l=>
      simp only[YL,ZGf,Za]at hl;simp only[YL,ZCr]at hn;have nk: ∀y∈L,x.key=mk k→y.key=mk k→False:=by
       intro y hy hx hyk;have h6:(y.key,y.val)∈L.map (fun e=>(e.key,e.val)):=YW.2 ⟨y,hy,rfl⟩;rw[hl.2]at h6;obtain⟨q,hq,hqe⟩:=YW.1 h6;simp only[Za]at hqe;have e1:mk p.1=mk k:=hl.1.1.symm.trans hx;have e2:mk q.1=mk k:=hqe.1.trans hyk;have e3:p.1=q.1:=by
        exact K.inj (e1.trans e2.symm)
       exact hn.1 (YW.2 ⟨q,hq,e3.symm⟩)
      rcases QM.1 ha with rfl|ha'<;>rcases QM.1 hb with rfl|hb'
      ·rfl
      ·exact(nk b hb' ka kb).elim
      ·exact(nk a ha' kb ka).elim
      ·exact ih l hl.2 hn.2 a b ha' hb' ka kb
   exact inj es.toList l hl hn e e' hm (YT h4) hkey h4'
  subst hee;have hj:es[j]? =some e:=by simpa using h4
  have hf:es.findIdx? (fun e=>(e.born:Int)==(n:Int))=some j:=by
   have hjl:j<es.toList.length:=(ZR h4).1;have hje:es.toList[j]=e:=(ZR h4).2;refine Array.findIdx?_eq_some_iff_getElem.2 ⟨by simpa using hjl,by rw[show es[j]'(by simpa using hjl)=e by simpa using hje];simp[hb],fun i hi=> ?_⟩;have hjs:j<es.size:=by simpa using hjl
   have his:i<es.size:=by omega
   have hne:(es.toList[i]'(by simpa using his)).born≠es.toList[j].born:=by
    have h0:=ZLD.1 hbn i j (by simpa using his) (by simpa using hjl) hi;simpa using h0
   rw[hje,hb]at hne;have e0:es.toList[i]'(by simpa using his)=es[i]:=by simp
   rw[e0]at hne;simp only[beq_iff_eq];omega
  have hai:(asInt (goInt n)).run P w= .ok (n:Int) w:=by simp[asInt,goInt,asIntOf]
  have hmod:(es.modify j fun e=> {e with val:=v}).toList.map (fun e=>(e.key,e.val))=(Zz l k v).map (fun p=>(mk p.1,p.2)):=by
   rw[←h5 v,ZSW];congr 1;apply ZAq;intro i;simp only[ZXY];by_cases h:j=i
   ·subst h;simp only[h4,if_true,Option.map_eq_map,YS,hkey]
   ·simp[h]
  refine⟨_,?_,ZBg w r (.map (es.modify j fun e=> {e with val:=v}) clk),es.modify j fun e=> {e with val:=v},clk,?_,hmod,ZDL l k v hn,ZDy j _ (fun _=>rfl) hbc,ZB9 j _ (fun _=>rfl) hbn⟩
  ·simp[Instr.entryStore,hg,Sem.run_bind,Result.andThen,hai,hf,hs]
  ·simp[hlt]
 ·exfalso;have h6:(e.key,e.val)∈es.toList.map (fun e=>(e.key,e.val)):=YW.2 ⟨e,hm,rfl⟩;rw[hl]at h6;obtain⟨q,hq,hqe⟩:=YW.1 h6;simp only[Za]at hqe;have e3:k=q.1:=by
   exact K.inj (hkey.symm.trans hqe.1.symm)
  exact ZH3.1 h2 (YW.2 ⟨q,hq,e3.symm⟩)
omit [DecidableEq κ]in
theorem ZQ1(T key elem:TypeId)(hT:P.underlying T=some (.map key elem))(ty:TypeId)(r:Nat)(l:List (κ×Value))(hm:KY mk w r l):
  ∃w',(Builtin.clear_ #[T] ty #[.map (some r)]).run P w= .ok (.tuple #[]) w'∧Only r w w'∧KY mk w' r []:=by
 obtain⟨es,clk,hr,hl,hn,hbc,hbn⟩:=hm;have hlt:r<w.heap.size:=(ξH hr).1;have hg:(getObj r).run P w= .ok (.map es clk) w:=by simp[getObj,Sem.run,hr]
 have hs: ∀o,(setObj r o).run P w= .ok () {w with heap:=w.heap.setIfInBounds r o}:=fun o=>by simp[setObj,Sem.run,hr]
 refine⟨_,?_,ZBg w r (.map #[] clk),#[],clk,?_,rfl,List.nodup_nil,by simp,by simp⟩
 ·simp[Builtin.clear_,run_underlying hT,hg,Sem.run_bind,Result.andThen,hs]
 ·simp[hlt]
end
theorem KY.new{κ:Type}(mk:κ→Value)(w:World):KY mk (w.alloc (.map #[] 0)) w.heap.size []:=⟨#[],0,heap_alloc_new w _,rfl,List.nodup_nil,by simp,by simp⟩
theorem KY.keep{κ:Type}{mk:κ→Value}{w w':World}{r:Nat}{l:List (κ×Value)}(h:KY mk w r l)(e:w'.heap[r]? =w.heap[r]?):KY mk w' r l:=by
 obtain⟨es,clk,hr,h1,h2⟩:=h;exact⟨es,clk,by rw[e,hr],h1,h2⟩
theorem KY.lt{κ:Type}{mk:κ→Value}{w:World}{r:Nat}{l:List (κ×Value)}(h:KY mk w r l):r<w.heap.size:=by
 obtain⟨es,clk,hr,h1,h2⟩:=h;exact(ξH hr).1
theorem KY.ext{κ:Type}{mk:κ→Value}{w w':World}{r:Nat}{l:List (κ×Value)}(h:KY mk w r l)(e:Kt w w'):KY mk w' r l:=h.keep (Below.block e r h.lt)
structure Enc (α:Type) where
 n:Nat
 rep:World→(Nat→Prop)→α→List Value→Prop
def ZeJ:Enc Unit:=⟨0,fun _ _ _ cs=>cs= []⟩
def ZeP{α β:Type}(E:Enc α)(F:Enc β):Enc (α×β):=⟨E.n+F.n,fun w ok x cs=> ∃c d,cs=c++d∧E.rep w ok x.1 c∧F.rep w ok x.2 d⟩
def Sl{α:Type}(E:Enc α)(w:World)(ok:Nat→Prop)(a:Option Addr)(l:List α):Prop:=
 l.length≤9223372036854775807∧ ∀i (h:i<l.length),∃b off cs,a=some ⟨b,off,none⟩∧ok b∧E.rep w ok l[i] cs∧ ∀j,j<E.n→w.cell? ⟨b,off+i*E.n+j,none⟩=cs[j]?
def ZGL(w w':World)(ok ok':Nat→Prop):Prop:= ∀b,b<w.heap.size→ok b→ok' b∧w'.heap[b]? =w.heap[b]?
theorem ZGL.ext{w w':World}(h:Kt w w')(ok:Nat→Prop):ZGL w w' ok ok:=fun b hb ho=>⟨ho,Below.block h b hb⟩
theorem ZGL.cell{w w':World}{ok ok':Nat→Prop}(h:ZGL w w' ok ok'){p:Addr}{v:Value}(hc:w.cell? p=some v)(ho:ok p.block):w'.cell? p=some v:=by
 rw[World.cell?_of_block (h p.block (World.block_lt_of_cell? _ _ hc) ho).2];exact hc
structure Enc.Good {α:Type} (E:Enc α):Prop where
 len: ∀ {w ok x cs},E.rep w ok x cs→cs.length=E.n
 stay: ∀ {w w' ok ok' x cs},ZGL w w' ok ok'→E.rep w ok x cs→E.rep w' ok' x cs
 one: ∀ {w ok x cs},E.rep w ok x cs→ ∀u∈cs,u.oneCell'=true
theorem Sl.stay{α:Type}{E:Enc α}(hE:E.Good)(h0:0<E.n){w w':World}{ok ok':Nat→Prop}{a:Option Addr}{l:List α}(hs:ZGL w w' ok ok')(h:Sl E w ok a l):Sl E w' ok' a l:=by
 refine⟨h.1,fun i hi=> ?_⟩;obtain⟨b,off,cs,ha,hb,hr,hc⟩:=h.2 i hi;have hl:=hE.len hr;have hlt:b<w.heap.size:=by
  have h1:=hc 0 h0;rw[Zu (by omega)]at h1;exact World.block_lt_of_cell? _ _ h1
 refine⟨b,off,cs,ha,(hs b hlt hb).1,hE.stay hs hr,fun j hj=> ?_⟩;have h1:=hc j hj;rw[Zu (by omega)]at h1⊢;exact hs.cell h1 hb
theorem Sl.ext{α:Type}{E:Enc α}(hE:E.Good)(h0:0<E.n){w w':World}{ok:Nat→Prop}{a:Option Addr}{l:List α}(h:Sl E w ok a l)(e:Kt w w'):Sl E w' ok a l:=h.stay hE h0 (ZGL.ext e ok)
theorem Sl.nil{α:Type}{E:Enc α}(w:World)(ok:Nat→Prop)(a:Option Addr):Sl E w ok a []:=⟨by simp,fun i hi=>by simp at hi⟩
def ZeK(P:Program)(T:TypeId){α:Type}(E:Enc α):Prop:=
 P.cellsOf T=E.n∧ ∀ {H:Type} (enc:TypeId×Value→H) (w:World) (fuel:Nat) (cs:List Value) (x:DataW H×List MemPlace),DataW.trod enc P w 0 (fun _=>true) true fuel T cs=some x→ ∃y,E.rep w (fun _=>True) y cs
section
variable {P:Program} {T:TypeId}
inductive Fields (P:Program):List Field→Nat→ {α:Type}→Enc α→Prop
 |nil (off:Nat):Fields P [] off ZeJ
 |cons {f:Field} {fs:List Field} {off:Nat} {α β:Type} {E:Enc α} {F:Enc β} (ho:f.offset=off) (hE:ZeK P f.type E) (hF:Fields P fs (off+E.n) F):Fields P (f::fs) off (ZeP E F)
end
end Go.Bo
end
section
namespace Go.Ab
open Go.RowKit Go.Bo
def ZN(s:List UInt8):ByteArray:=⟨s.toArray⟩
theorem Kf(s:List UInt8):(ZN s).size=s.length:=by simp[ZN,ByteArray.size]
theorem Jb(s:List UInt8):(ZN s).toList=s:=by rw[ByteArray.toList_eq];simp[ZN]
inductive X where
 |int (k:IntKind) (n:Int)
 |bool (b:Bool)
 |str (s:List UInt8)
 |nilp
 |nils
 |sl (rs:List (List X))
 deriving Inhabited
inductive VX (w:World) (st:Nat→Nat→Prop):X→Value→Prop
 |int (k:IntKind) (n:Int):VX w st (.int k n) (.int k n)
 |bool (b:Bool):VX w st (.bool b) (.bool b)
 |str (s:List UInt8):VX w st (.str s) (.string (ZN s))
 |nilp:VX w st .nilp (.pointer none)
 |nils:VX w st .nils (.slice none 0 0)
 |sl (rs:List (List X)) (a:Option Addr) (n c sz:Nat) (val:Nat→Nat→Value) (hn:rs.length=n) (hc:n≤c) (hm:c≤maxLen) (hsz: ∀r∈rs,r.length=sz)
   (hcell: ∀i j,i<n→j<sz→ ∃b off,a=some ⟨b,off,none⟩∧st b (off+i*sz+j)∧w.cell? ⟨b,off+i*sz+j,none⟩=some (val i j))
   (hnil:a=none→n=0∧c=0) (hsp:0<c→ ∀ad,a=some ad→ad.spot=none)
   (hval: ∀i j r x,rs[i]? =some r→r[j]? =some x→VX w st x (val i j)):VX w st (.sl rs) (.slice a n c)
theorem VX.one{w:World}{st:Nat→Nat→Prop}{x:X}{v:Value}(h:VX w st x v):v.oneCell'=true:=by cases h<;>rfl
theorem VX.mono{w w':World}{st st':Nat→Nat→Prop}(e: ∀b o,st b o→st' b o∧w'.cell? ⟨b,o,none⟩=w.cell? ⟨b,o,none⟩){x:X}{v:Value}(h:VX w st x v):VX w' st' x v:=by
 induction h with
 |int k n=>exact .int k n
 |bool b=>exact .bool b
 |str s=>exact .str s
 |nilp=>exact .nilp
 |nils=>exact .nils
 |sl rs a n c sz val hn hc hm hsz hcell hnil hsp _ ih=>
  refine .sl rs a n c sz val hn hc hm hsz (fun i j hi hj=> ?_) hnil hsp ih;obtain⟨b,off,h1,h2,h3⟩:=hcell i j hi hj;exact⟨b,off,h1,(e _ _ h2).1,by rw[(e _ _ h2).2];exact h3⟩
inductive D where
 |x (x:X)
 |ref (id ext off len:Nat)
 |ptr (id off:Nat)
 |eptr (id ext i off:Nat)
 |vptr (cs:List X)
 |mref (id:Nat)
 |mnil
 |iref (mid id:Nat)
 |stk (mid id:Nat)
 |bref (id off len:Nat)
 |agg (ds:List D)
 |tup (ds:List D)
 |full (rs:List (List X))
 |nz (rs:List (List X))
 |fn (f:FuncId) (caps:List D)
 |opt (b:Bool) (d:D)
 |und
 deriving Inhabited
inductive KF where
 |int (k:IntKind)
 |str
 deriving DecidableEq
inductive KK where
 |int (k:IntKind)
 |str
 |st (a b:KF)
 deriving DecidableEq
abbrev Pr:=List X×List D
inductive Ob where
 |box (ds:List D)
 |rows (fz:Bool) (e sz:Nat) (rs:List (List X))
 |drw (e sz:Nat) (rs:List (List D))
 |frz (sz:Nat) (rs:List (List X))
 |mpo (dk:KK) (ag:Bool) (l:List Pr)
 |mit (dk:KK) (ag:Bool) (l:List Pr) (it:Nat) (R:List Pr) (cur:Option Pr)
 |mpn (dk:KK) (ag:Bool) (l:List Pr) (key:List X) (sid:Nat)
 |itr
 |stp
 |sit (s:List UInt8) (pos:Nat)
 |nit
 |old (sz n:Nat)
 |fam (k:Nat) (P:List (List Pr)) (B:List (X×List (List X)))
 |dead
 deriving Inhabited
def Ob.slice? :Ob→Option (Nat×List (List X))
 | .rows _ _ sz rs=>some (sz,rs)
 | .frz sz rs=>some (sz,rs)
 |_=>none
def Ob.sl? :Ob→Option (Nat×Nat)
 | .rows _ _ sz rs=>some (sz,rs.length)
 | .drw _ sz rs=>some (sz,rs.length)
 | .frz sz rs=>some (sz,rs.length)
 | .old sz n=>some (sz,n)
 |_=>none
theorem Ob.slice_sl{o:Ob}{sz:Nat}{rs:List (List X)}(h:o.slice? =some (sz,rs)):o.sl? =some (sz,rs.length):=by
 cases o<;>simp_all[Ob.slice?,Ob.sl?]
def Ob.dsl? :Ob→Option (Nat×List (List D))
 | .drw _ sz rs=>some (sz,rs)
 |_=>none
theorem Ob.dsl_sl{o:Ob}{sz:Nat}{rs:List (List D)}(h:o.dsl? =some (sz,rs)):o.sl? =some (sz,rs.length):=by
 cases o<;>simp_all[Ob.dsl?,Ob.sl?]
theorem Ob.dsl_drw{o:Ob}{sz:Nat}{rs:List (List D)}(h:o.dsl? =some (sz,rs)): ∃e,o= .drw e sz rs:=by
 cases o<;>simp_all[Ob.dsl?]
def Ob.map? :Ob→Option (KK×Bool×List Pr)
 | .mpo dk ag l=>some (dk,ag,l)
 | .mit dk ag l _ _ _=>some (dk,ag,l)
 | .mpn dk ag l _ _=>some (dk,ag,l)
 |_=>none
inductive Kd where
 |box
 |map (dk:KK) (ag:Bool)
 |itr
 |stp
def Ob.kd:Ob→Option Kd
 | .box _=>some .box
 | .mpo dk ag _=>some (.map dk ag)
 | .mit dk ag _ _ _ _=>some (.map dk ag)
 | .mpn dk ag _ _ _=>some (.map dk ag)
 | .itr=>some .itr
 | .sit _ _=>some .itr
 | .nit=>some .itr
 | .fam _ _ _=>some .itr
 | .stp=>some .stp
 |_=>none
theorem Ob.kd_box{o:Ob}(h:o.kd=some .box): ∃ds,o= .box ds:=by
 cases o with
 |box ds=>exact⟨ds,rfl⟩
 |_=>simp[Ob.kd]at h
structure Env where
 w:World
 st:Nat→Nat→Prop
 ob:List (Nat×Value)
def ZSr(E:Env)(id ext off len:Nat)(v:Value)(sz n:Nat):Prop:=
 ext≤n∧(n=ext→
  off+len≤ext∧ ∃b a cap a' cap',E.ob[id]? =some (b,.slice a ext cap)∧v= .slice a' len cap'∧len≤cap'∧cap'≤maxLen∧(off=0→a'=a∧cap'=cap)∧
   (0<len→ ∀ad,a=some ad→a'=some ⟨ad.block,ad.off+off*sz,none⟩)∧(a'=none→len=0∧cap'=0)∧(∀ad,a'=some ad→ad.spot=none))
def ZE0(E:Env)(os:List Ob)(id ext off len:Nat)(v:Value):Prop:= ∃o sz n,os[id]? =some o∧o.sl? =some (sz,n)∧ZSr E id ext off len v sz n
def ZQL(E:Env)(id ext i off:Nat)(v:Value)(sz n:Nat):Prop:=
 ext≤n∧(n=ext→i<ext∧ ∃b g cap,E.ob[id]? =some (b,.slice (some ⟨g,0,none⟩) ext cap)∧v= .pointer (some ⟨g,i*sz+off,none⟩))
def ZET(E:Env)(os:List Ob)(id ext i off:Nat)(v:Value):Prop:= ∃o sz n,os[id]? =some o∧o.sl? =some (sz,n)∧ZQL E id ext i off v sz n
theorem ZE0.at'{E:Env}{os:List Ob}{id ext off len:Nat}{v:Value}(h:ZE0 E os id ext off len v){o:Ob}{sz n:Nat}(ho:os[id]? =some o)(hs:o.sl? =some (sz,n)):ZSr E id ext off len v sz n:=by
 obtain⟨o',sz',rs',h1,h2,h3⟩:=h;rw[ho]at h1;cases h1;rw[hs]at h2;cases h2;exact h3
theorem ZE0.at{E:Env}{os:List Ob}{id ext off len:Nat}{v:Value}(h:ZE0 E os id ext off len v){o:Ob}{sz:Nat}{rs:List (List X)}(ho:os[id]? =some o)(hs:o.slice? =some (sz,rs)):ZSr E id ext off len v sz rs.length:=
 h.at' ho (Ob.slice_sl hs)
theorem ZET.at'{E:Env}{os:List Ob}{id ext i off:Nat}{v:Value}(h:ZET E os id ext i off v){o:Ob}{sz n:Nat}(ho:os[id]? =some o)(hs:o.sl? =some (sz,n)):ZQL E id ext i off v sz n:=by
 obtain⟨o',sz',rs',h1,h2,h3⟩:=h;rw[ho]at h1;cases h1;rw[hs]at h2;cases h2;exact h3
theorem ZET.at{E:Env}{os:List Ob}{id ext i off:Nat}{v:Value}(h:ZET E os id ext i off v){o:Ob}{sz:Nat}{rs:List (List X)}(ho:os[id]? =some o)(hs:o.slice? =some (sz,rs)):ZQL E id ext i off v sz rs.length:=
 h.at' ho (Ob.slice_sl hs)
inductive V (E:Env) (os:List Ob):D→Value→Prop
 |x {x:X} {v:Value} (h:VX E.w E.st x v):V E os (.x x) v
 |ref {id ext off len:Nat} {v:Value} (h:ZE0 E os id ext off len v) (h1:v.oneCell'=true):V E os (.ref id ext off len) v
 |ptr {id off b:Nat} {cu:Value} {ds:List D} (ho:os[id]? =some (.box ds)) (h:E.ob[id]? =some (b,cu)):V E os (.ptr id off) (.pointer (some ⟨b,off,none⟩))
 |mref {id b:Nat} {cu:Value} {dk:KK} {ag:Bool} {o:Ob} (ho:os[id]? =some o) (hk:o.kd=some (.map dk ag)) (h:E.ob[id]? =some (b,cu)):V E os (.mref id) (.map (some b))
 |mnil:V E os .mnil (.map none)
 |iref {mid id b:Nat} {cu:Value} {o:Ob} (ho:os[id]? =some o) (hk:o.kd=some .itr) (h:E.ob[id]? =some (b,cu)):V E os (.iref mid id) (.pointer (some ⟨b,0,none⟩))
 |stk {mid id b:Nat} {cu:Value} {o:Ob} (ho:os[id]? =some o) (hk:o.kd=some .stp) (h:E.ob[id]? =some (b,cu)):V E os (.stk mid id) (.int .i64 b)
 |bref {id off len b:Nat} {cu:Value} {ds:List D} (ho:os[id]? =some (.box ds)) (h:E.ob[id]? =some (b,cu)) (hm:len≤maxLen):V E os (.bref id off len) (.slice (some ⟨b,off,none⟩) len len)
 |eptr {id ext i off:Nat} {v:Value} (h:ZET E os id ext i off v) (h1: ∃ad:Addr,v= .pointer (some ad)):V E os (.eptr id ext i off) v
 |vptr {cs:List X} (b off:Nat) (val:Nat→Value) (hc: ∀j x,cs[j]? =some x→E.st b (off+j)∧E.w.cell? ⟨b,off+j,none⟩=some (val j)) (hv: ∀j x,cs[j]? =some x→VX E.w E.st x (val j)):
   V E os (.vptr cs) (.pointer (some ⟨b,off,none⟩))
 |agg {ds:List D} (vs:Array Value) (hl:ds.length=vs.size) (h1: ∀v∈vs.toList,v.oneCell'=true) (hv: ∀(j:Nat) (d:D) (v:Value),ds[j]? =some d→vs[j]? =some v→V E os d v):V E os (.agg ds) (.agg vs)
 |tup {ds:List D} (vs:Array Value) (hl:ds.length=vs.size) (hv: ∀(j:Nat) (d:D) (v:Value),ds[j]? =some d→vs[j]? =some v→V E os d v):V E os (.tup ds) (.tuple vs)
 |full {rs:List (List X)} {a:Option Addr} (n:Nat) (h:VX E.w E.st (.sl rs) (.slice a n n)):V E os (.full rs) (.slice a n n)
 |nz {rs:List (List X)} {ad:Addr} {n c:Nat} (h:VX E.w E.st (.sl rs) (.slice (some ad) n c)):V E os (.nz rs) (.slice (some ad) n c)
 |fn {f:FuncId} {caps:List D} (vs:Array Value) (hl:caps.length=vs.size) (hv: ∀(j:Nat) (d:D) (v:Value),caps[j]? =some d→vs[j]? =some v→V E os d v):V E os (.fn f caps) (.func (.func f) #[] vs)
 |opt {b:Bool} {d:D} {v:Value} (h:b=true→V E os d v) (h':b=false→v=undef):V E os (.opt b d) v
 |und (v:Value):V E os .und v
structure Evo (E:Env) (os:List Ob) (E':Env) (os':List Ob):Prop where
 st: ∀b o,E.st b o→E'.st b o∧E'.w.cell? ⟨b,o,none⟩=E.w.cell? ⟨b,o,none⟩
 bl: ∀(id b:Nat) (cu:Value) (o:Ob) (k:Kd),os[id]? =some o→o.kd=some k→E.ob[id]? =some (b,cu)→ ∃cu' o',os'[id]? =some o'∧o'.kd=some k∧E'.ob[id]? =some (b,cu')
 rf: ∀(id:Nat) (o:Ob) (sz n:Nat),os[id]? =some o→o.sl? =some (sz,n)→
  ∃o' n',os'[id]? =some o'∧o'.sl? =some (sz,n')∧((n=n'∧E'.ob[id]? =E.ob[id]?)∨n<n')
theorem Evo.refl(E:Env)(os:List Ob):Evo E os E os:=⟨fun _ _ h=>⟨h,rfl⟩,fun _ _ cu o _ h hk h'=>⟨cu,o,h,hk,h'⟩,fun _ o _ rs h1 h2=>⟨o,rs,h1,h2,.inl ⟨rfl,rfl⟩⟩⟩
theorem Evo.trans{E E' E'':Env}{os os' os'':List Ob}(h:Evo E os E' os')(k:Evo E' os' E'' os''):Evo E os E'' os'':=by
 refine⟨fun b o hs=> ?_,fun id b cu o q ho hq hb=> ?_,fun id o sz rs h1 h2=> ?_⟩
 ·obtain⟨a1,a2⟩:=h.st b o hs;obtain⟨b1,b2⟩:=k.st b o a1;exact⟨b1,b2.trans a2⟩
 ·obtain⟨cu',o',h1,h2,h3⟩:=h.bl id b cu o q ho hq hb;exact k.bl id b cu' o' q h1 h2 h3
 ·obtain⟨o',rs',j1,j2,j3⟩:=h.rf id o sz rs h1 h2;obtain⟨o'',rs'',k1,k2,k3⟩:=k.rf id o' sz rs' j1 j2;refine⟨o'',rs'',k1,k2,?_⟩;rcases j3 with⟨j3,j4⟩|j3<;>rcases k3 with⟨k3,k4⟩|k3
  ·exact .inl ⟨j3.trans k3,k4.trans j4⟩
  ·exact .inr (by omega)
  ·exact .inr (by omega)
  ·exact .inr (by omega)
theorem ZE0.mono{E E':Env}{os os':List Ob}(e:Evo E os E' os'){id ext off len:Nat}{v:Value}(h:ZE0 E os id ext off len v):ZE0 E' os' id ext off len v:=by
 obtain⟨o,sz,rs,h1,h2,h3,h4⟩:=h;obtain⟨o',rs',k1,k2,k3⟩:=e.rf id o sz rs h1 h2;refine⟨o',sz,rs',k1,k2,?_⟩;rcases k3 with⟨k3,k4⟩|k3
 ·refine⟨by omega,fun hl=> ?_⟩;obtain⟨h5,b,a,cap,a',cap',h6,h7⟩:=h4 (by omega);exact⟨h5,b,a,cap,a',cap',k4.trans h6,h7⟩
 ·exact⟨by omega,fun hl=>absurd hl (by omega)⟩
theorem ZET.mono{E E':Env}{os os':List Ob}(e:Evo E os E' os'){id ext i off:Nat}{v:Value}(h:ZET E os id ext i off v):ZET E' os' id ext i off v:=by
 obtain⟨o,sz,rs,h1,h2,h3,h4⟩:=h;obtain⟨o',rs',k1,k2,k3⟩:=e.rf id o sz rs h1 h2;refine⟨o',sz,rs',k1,k2,?_⟩;rcases k3 with⟨k3,k4⟩|k3
 ·refine⟨by omega,fun hl=> ?_⟩;obtain⟨h5,b,g,cap,h6,h7⟩:=h4 (by omega);exact⟨h5,b,g,cap,k4.trans h6,h7⟩
 ·exact⟨by omega,fun hl=>absurd hl (by omega)⟩
theorem V.mono{E E':Env}{os os':List Ob}(e:Evo E os E' os'){d:D}{v:Value}(h:V E os d v):V E' os' d v:=by
 induction h with
 |x h=>exact .x (h.mono e.st)
 |ref h h1=>exact .ref (h.mono e) h1
 |ptr ho h=>obtain⟨cu',o',h1,h2,h3⟩:=e.bl _ _ _ _ .box ho rfl h;obtain⟨ds',rfl⟩:=Ob.kd_box h2;exact .ptr h1 h3
 |mref ho hk h=>obtain⟨cu',o',h1,h2,h3⟩:=e.bl _ _ _ _ _ ho hk h;exact .mref h1 h2 h3
 |mnil=>exact .mnil
 |iref ho hk h=>obtain⟨cu',o',h1,h2,h3⟩:=e.bl _ _ _ _ _ ho hk h;exact .iref h1 h2 h3
 |stk ho hk h=>obtain⟨cu',o',h1,h2,h3⟩:=e.bl _ _ _ _ _ ho hk h;exact .stk h1 h2 h3
 |bref ho h hm=>obtain⟨cu',o',h1,h2,h3⟩:=e.bl _ _ _ _ .box ho rfl h;obtain⟨ds',rfl⟩:=Ob.kd_box h2;exact .bref h1 h3 hm
 |eptr h h1=>exact .eptr (h.mono e) h1
 |vptr b off val hc hv=>exact .vptr b off val (fun j x hj=>⟨(e.st _ _ (hc j x hj).1).1,by rw[(e.st _ _ (hc j x hj).1).2];exact(hc j x hj).2⟩) (fun j x hj=>(hv j x hj).mono e.st)
 |agg vs hl h1 _ ih=>exact .agg vs hl h1 ih
 |tup vs hl _ ih=>exact .tup vs hl ih
 |full n h=>exact .full n (h.mono e.st)
 |nz h=>exact .nz (h.mono e.st)
 |fn vs hl _ ih=>exact .fn vs hl ih
 |opt _ h' ih=>exact .opt ih h'
 |und v=>exact .und v
def KA(w:World)(fz:Bool)(e sz n:Nat)(cur:Value)(xs:List Value):Prop:=
 xs.length=n*sz∧((cur= .slice none 0 0∧n=0)∨ ∃g cap cells fr,cur= .slice (some ⟨g,0,none⟩) n cap∧w.heap[g]? =some (.cells cells e fr)∧n≤cap∧cap≤maxLen∧cells.size=cap*sz∧
  cells.toList.take (n*sz)=xs∧(fr=(0,0)∨(fz=true∧cells.size≤fr.1)))
theorem KA.owns{w:World}{e sz n:Nat}{cur:Value}{xs:List Value}(h:KA w false e sz n cur xs):w.ownsRow 0 e sz cur n xs:=by
 refine⟨h.1,?_⟩;rcases h.2 with h2|⟨g,cap,cells,fr,h2,h3,h4,h5,h6,h7,h8⟩
 ·exact .inl h2
 ·have:fr=(0,0):=by rcases h8 with h8|h8;exact h8;simp at h8
  subst this;exact .inr ⟨g,cap,cells,h2,Je _,h3,h4,h5,h6,h7⟩
theorem KA.of_owns{w:World}{base e sz n:Nat}{cur:Value}{xs:List Value}(h:w.ownsRow base e sz cur n xs)(fz:Bool):KA w fz e sz n cur xs:=by
 refine⟨h.1,?_⟩;rcases h.2 with h2|⟨g,cap,cells,h2,_,h3,h4,h5,h6,h7⟩
 ·exact .inl h2
 ·exact .inr ⟨g,cap,cells,(0,0),h2,h3,h4,h5,h6,h7,.inl rfl⟩
theorem KA.kept{w w':World}{fz:Bool}{e sz n:Nat}{cur:Value}{xs:List Value}(h:KA w fz e sz n cur xs)(hb: ∀g,cur.ownBlock=some g→w'.heap[g]? =w.heap[g]?):KA w' fz e sz n cur xs:=by
 refine⟨h.1,?_⟩;rcases h.2 with h2|⟨g,cap,cells,fr,h2,h3,h4⟩
 ·exact .inl h2
 ·exact .inr ⟨g,cap,cells,fr,h2,by rw[hb g (by rw[h2];rfl)];exact h3,h4⟩
theorem KA.lt{w:World}{fz:Bool}{e sz n:Nat}{cur:Value}{xs:List Value}(h:KA w fz e sz n cur xs){g:Nat}(hg:cur.ownBlock=some g):g<w.heap.size:=by
 rcases h.2 with⟨h2,_⟩|⟨g',cap,cells,fr,h2,h3,h4⟩
 ·rw[h2]at hg;cases hg
 ·rw[h2]at hg;cases hg;exact(ξH h3).1
def Ob.mb:Ob→Nat×Value→Nat→Prop
 | .box _,p,b=>p.1=b
 | .rows _ _ _ _,p,b=>p.2.ownBlock=some b
 | .drw _ _ _,p,b=>p.2.ownBlock=some b
 | .mpo _ _ _,p,b=>p.1=b
 | .mpn _ _ _ _ _,p,b=>p.1=b
 | .mit _ _ _ _ _ _,p,b=>p.1=b∨p.2= .pointer (some ⟨b,0,none⟩)
 | .sit _ _,p,b=>p.1=b
 | .nit,p,b=>p.1=b
 | .fam _ _ _,p,b=> ∃vs,p.2= .tuple vs∧Value.int .i64 b∈vs.toList
 |_,_,_=>False
def VC(E:Env)(os:List Ob)(ag:Bool)(ds:List D)(v:Value):Prop:=
 (if ag=true then∃cs,v= .agg cs else ds.length=1∧ ∀cs,v≠ .agg cs)∧v.cells.size=ds.length∧ ∀(j:Nat) (d:D) (u:Value),ds[j]? =some d→v.cells[j]? =some u→V E os d u∧u.oneCell'=true
theorem VC.mono{E E':Env}{os os':List Ob}(e:Evo E os E' os'){ag:Bool}{ds:List D}{v:Value}(h:VC E os ag ds v):VC E' os' ag ds v:=
 ⟨h.1,h.2.1,fun j x u hx hu=>⟨(h.2.2 j x u hx hu).1.mono e,(h.2.2 j x u hx hu).2⟩⟩
def kfV:KF→X→Value
 | .int k,.int _ n=> .int k n
 | .str,.str s=> .string (ZN s)
 |_,_=>undef
def kkV:KK→List X→Value
 | .int k,[.int _ n]=> .int k n
 | .str,[.str s]=> .string (ZN s)
 | .st a b,[x,y]=> .agg #[kfV a x,kfV b y]
 |_,_=>undef
def ZA9{κ:Type}[DecidableEq κ](mk:κ→Value)(kx:κ→List X)(E:Env)(os:List Ob)(b:Nat)(ag:Bool)(l:List Pr):Prop:=
 ∃l':List (κ×Value),KY mk E.w b l'∧l'.length=l.length∧ ∀(i:Nat) (a:κ×Value) (q:Pr),l'[i]? =some a→l[i]? =some q→q.1=kx a.1∧VC E os ag q.2 a.2
theorem ZA9.mono{κ:Type}[DecidableEq κ]{mk:κ→Value}{kx:κ→List X}{E E':Env}{os os':List Ob}(e:Evo E os E' os'){b:Nat}{ag:Bool}{l:List Pr}(hb:E'.w.heap[b]? =E.w.heap[b]?)(h:ZA9 mk kx E os b ag l):ZA9 mk kx E' os' b ag l:=by
 obtain⟨l',h1,h2,h3⟩:=h;exact⟨l',h1.keep hb,h2,fun i a q ha hq=>⟨(h3 i a q ha hq).1,(h3 i a q ha hq).2.mono e⟩⟩
def kxI(k:IntKind)(n:Int):List X:= [.int k n]
def kxS(b:ByteArray):List X:= [.str b.toList]
def Zt(E:Env)(os:List Ob)(b:Nat)(dk:KK)(ag:Bool)(l:List Pr):Prop:=
 match dk with
 | .int k=>ZA9 (Value.int k) (kxI k) E os b ag l
 | .str=>ZA9 Value.string kxS E os b ag l
 | .st _ _=>False
theorem Zt.mono{E E':Env}{os os':List Ob}(e:Evo E os E' os'){b:Nat}{dk:KK}{ag:Bool}{l:List Pr}(hb:E'.w.heap[b]? =E.w.heap[b]?)(h:Zt E os b dk ag l):Zt E' os' b dk ag l:=by
 cases dk with
 |int k=>exact ZA9.mono e hb h
 |str=>exact ZA9.mono e hb h
 |st _ _=>exact h.elim
theorem Zt.lt{E:Env}{os:List Ob}{b:Nat}{dk:KK}{ag:Bool}{l:List Pr}(h:Zt E os b dk ag l):b<E.w.heap.size:=by
 cases dk with
 |int k=>obtain⟨l',h1,_⟩:=h;exact h1.lt
 |str=>obtain⟨l',h1,_⟩:=h;exact h1.lt
 |st _ _=>exact h.elim
def ZEK(E:Env)(os:List Ob)(dk:KK)(ag:Bool)(e:MapEntry)(q:Pr):Prop:=e.key=kkV dk q.1∧VC E os ag q.2 e.val
def ZEz(E:Env)(os:List Ob)(dk:KK)(ag:Bool)(L:List MapEntry)(R:List Pr):Prop:=
 L.length=R.length∧ ∀(i:Nat) (e:MapEntry) (q:Pr),L[i]? =some e→R[i]? =some q→ZEK E os dk ag e q
theorem ZEK.mono{E E':Env}{os os':List Ob}(e:Evo E os E' os'){dk:KK}{ag:Bool}{x:MapEntry}{q:Pr}(h:ZEK E os dk ag x q):ZEK E' os' dk ag x q:=⟨h.1,h.2.mono e⟩
theorem ZEz.mono{E E':Env}{os os':List Ob}(e:Evo E os E' os'){dk:KK}{ag:Bool}{L:List MapEntry}{R:List Pr}(h:ZEz E os dk ag L R):ZEz E' os' dk ag L R:=⟨h.1,fun i x q hx hq=>(h.2 i x q hx hq).mono e⟩
def ZKw(E:Env)(os:List Ob)(p:Nat×Value)(dk:KK)(ag:Bool)(it:Nat)(R:List Pr)(cur:Option Pr):Prop:=
 ∃ib cu es clk since seen c0 o,p.2= .pointer (some ⟨ib,0,none⟩)∧os[it]? =some o∧o.kd=some .itr∧E.ob[it]? =some (ib,cu)∧E.w.heap[ib]? =some (.mapIter (some p.1) since seen c0)∧E.w.heap[p.1]? =some (.map es clk)∧
  (∀x∈es.toList,x.born<since)∧(since≤c0∧since≤clk)∧(es.toList.map (·.born)).Nodup∧ZEz E os dk ag (leftOf es seen).toList R∧
  ∀q,cur=some q→c0=clk∧ ∃(seen':Array Nat) (e:MapEntry),seen=seen'.push e.born∧e∈es.toList∧ZEK E os dk ag e q
def ZJ9:KK→List X→Bool
 | .int k,[.int k' _]=>decide (k'=k)
 | .str,[.str _]=>true
 |_,_=>false
def ZOS(E:Env)(os:List Ob)(p:Nat×Value)(dk:KK)(key:List X)(sid:Nat):Prop:=
 ∃n cu o es clk e,os[sid]? =some o∧o.kd=some .stp∧E.ob[sid]? =some (n,cu)∧E.w.heap[p.1]? =some (.map es clk)∧e∈es.toList∧e.born=n∧e.key=kkV dk key∧ZJ9 dk key=true
def OK0(E:Env)(os:List Ob):Ob→Nat×Value→Prop
 | .box ds,p=> ∃cs ty,E.w.heap[p.1]? =some (.cells cs ty (0,0))∧cs.size=ds.length∧ ∀(j:Nat) (d:D) (v:Value),ds[j]? =some d→cs[j]? =some v→V E os d v∧v.oneCell'=true
 | .rows fz e sz rs,p=> ∃xs,KA E.w fz e sz rs.length p.2 xs∧(∀r∈rs,r.length=sz)∧ ∀(i:Nat) (r:List X) (j:Nat) (x:X) (v:Value),rs[i]? =some r→r[j]? =some x→xs[i*sz+j]? =some v→VX E.w E.st x v
 | .drw e sz rs,p=> ∃xs,KA E.w false e sz rs.length p.2 xs∧(∀r∈rs,r.length=sz)∧ ∀(i:Nat) (r:List D) (j:Nat) (d:D) (v:Value),rs[i]? =some r→r[j]? =some d→xs[i*sz+j]? =some v→V E os d v∧v.oneCell'=true
 | .frz sz rs,p=>VX E.w E.st (.sl rs) p.2∧(∀r∈rs,r.length=sz)∧ ∀ad n c,p.2= .slice (some ad) n c→ad=⟨ad.block,0,none⟩
 | .mpo dk ag l,p=>Zt E os p.1 dk ag l
 | .mit dk ag l it R cur,p=>Zt E os p.1 dk ag l∧ZKw E os p dk ag it R cur
 | .mpn dk ag l key sid,p=>Zt E os p.1 dk ag l∧ZOS E os p dk key sid
 | .sit s pos,p=>E.w.heap[p.1]? =some (.stringIter (ZN s) pos)
 | .nit,p=> ∃a s b,E.w.heap[p.1]? =some (.mapIter none a s b)
 | .itr,_| .stp,_| .old _ _,_| .dead,_=>True
 | .fam _ _ _,_=>False
def Ob.nof:Ob→Bool
 | .fam _ _ _=>false
 |_=>true
def brP(b:X×Nat×List (List X)):Pr:=([b.1],[.ref (b.2.1+6) b.2.2.length 0 b.2.2.length])
def ZDs(k:Nat)(P:List (List Pr))(B:List (X×List (List X)))(os:List Ob):Prop:=
 ∃(P1 P2 P3:List Pr) (C:List (X×Nat×List (List X))) (Y:List Ob),P= [P1,P2,P3]∧os= .box [.ptr 1 0,.mref 4,.mref 5]:: .box [.mref 2,.mref 3]:: .mpo .str true P1:: .mpo .str true P2:: .mpo .str true P3:: .mpo .str false (C.map brP)::Y∧(C.map fun b=>(b.1,b.2.2)).Perm B∧(C.map (·.2.1)).Nodup∧Y.all Ob.nof=true∧ ∀b∈C,Y[b.2.1]? =some (.rows false k 1 b.2.2)
structure Fam (w:World) (st:Nat→Nat→Prop) (p:Nat×Value) (os:List Ob) (ob:List (Nat×Value)):Prop where
 len:ob.length=os.length
 hd: ∃q,ob[0]? =some q∧q.1=p.1
 ok: ∀(i:Nat) (o:Ob) (q:Nat×Value),os[i]? =some o→ob[i]? =some q→OK0 ⟨w,st,ob⟩ os o q
 dis: ∀(i j:Nat) (o o':Ob) (q q':Nat×Value) (b:Nat),os[i]? =some o→ob[i]? =some q→os[j]? =some o'→ob[j]? =some q'→o.mb q b→o'.mb q' b→i=j
 sub: ∀(i:Nat) (o:Ob) (q:Nat×Value) (b:Nat),os[i]? =some o→ob[i]? =some q→o.mb q b→ ∃vs,p.2= .tuple vs∧Value.int .i64 b∈vs.toList
 lt: ∀(vs:Array Value) (b:Nat),p.2= .tuple vs→Value.int .i64 b∈vs.toList→ ∃(i:Nat) (o:Ob) (q:Nat×Value),os[i]? =some o∧ob[i]? =some q∧o.mb q b
def OK(E:Env)(os:List Ob):Ob→Nat×Value→Prop
 | .fam k P B,p=> ∃os' ob',ZDs k P B os'∧Fam E.w E.st p os' ob'
 |o,p=>OK0 E os o p
theorem ZKw.mono{E E':Env}{os os':List Ob}(e:Evo E os E' os'){p:Nat×Value}{dk:KK}{ag:Bool}{it:Nat}{R:List Pr}{cur:Option Pr}(hb: ∀b,p.1=b∨p.2= .pointer (some ⟨b,0,none⟩)→E'.w.heap[b]? =E.w.heap[b]?)(h:ZKw E os p dk ag it R cur):ZKw E' os' p dk ag it R cur:=by
 obtain⟨ib,cu,es,clk,since,seen,c0,o,h1,h2,h3,h4,h5,h6,h7,h8,h9,h10,h11⟩:=h;obtain⟨cu',o',k1,k2,k3⟩:=e.bl _ _ _ _ _ h2 h3 h4;exact⟨ib,cu',es,clk,since,seen,c0,o',h1,k1,k2,k3,by rw[hb ib (.inr h1)];exact h5,by rw[hb _ (.inl rfl)];exact h6,h7,h8,h9,h10.mono e,fun q hq=>by
  obtain⟨g1,s',x,g2,g3,g4⟩:=h11 q hq;exact⟨g1,s',x,g2,g3,g4.mono e⟩⟩
theorem ZOS.mono{E E':Env}{os os':List Ob}(e:Evo E os E' os'){p:Nat×Value}{dk:KK}{key:List X}{sid:Nat}(hb:E'.w.heap[p.1]? =E.w.heap[p.1]?)(h:ZOS E os p dk key sid):ZOS E' os' p dk key sid:=by
 obtain⟨n,cu,o,es,clk,x,h1,h2,h3,h4,h5⟩:=h;obtain⟨cu',o',k1,k2,k3⟩:=e.bl _ _ _ _ _ h1 h2 h3;exact⟨n,cu',o',es,clk,x,k1,k2,k3,by rw[hb];exact h4,h5⟩
theorem OK0.mono{E E':Env}{os os':List Ob}(e:Evo E os E' os'){o:Ob}{p:Nat×Value}(hb: ∀b,o.mb p b→E'.w.heap[b]? =E.w.heap[b]?)(h:OK0 E os o p):OK0 E' os' o p:=by
 cases o with
 |box ds=>
  obtain⟨cs,ty,h1,h2,h3⟩:=h;exact⟨cs,ty,by rw[hb _ rfl];exact h1,h2,fun j d v hd hv=>⟨(h3 j d v hd hv).1.mono e,(h3 j d v hd hv).2⟩⟩
 |rows fz el sz rs=>
  obtain⟨xs,h1,h2,h3⟩:=h;exact⟨xs,h1.kept hb,h2,fun i r j x v hr hx hv=>(h3 i r j x v hr hx hv).mono e.st⟩
 |drw el sz rs=>
  obtain⟨xs,h1,h2,h3⟩:=h;exact⟨xs,h1.kept hb,h2,fun i r j x v hr hx hv=>⟨(h3 i r j x v hr hx hv).1.mono e,(h3 i r j x v hr hx hv).2⟩⟩
 |frz sz rs=>exact⟨h.1.mono e.st,h.2⟩
 |mpo dk ag l=>exact Zt.mono e (hb _ rfl) h
 |mit dk ag l it R cur=>exact⟨Zt.mono e (hb _ (.inl rfl)) h.1,h.2.mono e (fun b hb'=>hb b hb')⟩
 |mpn dk ag l key sid=>exact⟨Zt.mono e (hb _ rfl) h.1,h.2.mono e (hb _ rfl)⟩
 |sit s pos=>show E'.w.heap[p.1]? =_;rw[hb _ rfl];exact h
 |nit=>obtain⟨a,s,b,h⟩:=h;exact⟨a,s,b,by rw[hb _ rfl];exact h⟩
 |itr=>trivial
 |stp=>trivial
 |old _ _=>trivial
 |fam _ _ _=>exact h.elim
 |dead=>trivial
theorem OK0.lt{E:Env}{os:List Ob}{o:Ob}{p:Nat×Value}(h:OK0 E os o p){b:Nat}(hb:o.mb p b):b<E.w.heap.size:=by
 cases o with
 |box ds=>
  obtain⟨cs,ty,h1,h2,h3⟩:=h;cases hb;exact(ξH h1).1
 |rows fz e sz rs=>
  obtain⟨xs,h1,h2,h3⟩:=h;exact h1.lt hb
 |drw e sz rs=>
  obtain⟨xs,h1,h2,h3⟩:=h;exact h1.lt hb
 |mpo dk ag l=>cases hb;exact Zt.lt h
 |mpn dk ag l key sid=>cases hb;exact Zt.lt h.1
 |mit dk ag l it R cur=>
  rcases hb with hb|hb
  ·subst hb;exact Zt.lt h.1
  ·obtain⟨_,ib,cu,es,clk,since,seen,c0,o,h1,h2,h3,h4,h5,_⟩:=h;rw[h1]at hb;simp only[Value.pointer.injEq,Ze,Addr.mk.injEq,and_true]at hb;subst hb;exact(ξH h5).1
 |sit s pos=>cases hb;exact(ξH h).1
 |nit=>cases hb;obtain⟨a,s,b,h⟩:=h;exact(ξH h).1
 |frz sz rs=>exact hb.elim
 |itr=>exact hb.elim
 |stp=>exact hb.elim
 |old _ _=>exact hb.elim
 |fam _ _ _=>exact h.elim
 |dead=>exact hb.elim
theorem OK.of0{E:Env}{os:List Ob}{o:Ob}{p:Nat×Value}(h:OK0 E os o p):OK E os o p:=by
 cases o<;>first|exact h|exact h.elim
theorem OK.to0{E:Env}{os:List Ob}{o:Ob}{p:Nat×Value}(h:OK E os o p):(∃k P B,o= .fam k P B)∨OK0 E os o p:=by
 cases o<;>first|exact .inr h|exact .inl ⟨_,_,_,rfl⟩
theorem Fam.lt'{w:World}{st:Nat→Nat→Prop}{p:Nat×Value}{os:List Ob}{ob:List (Nat×Value)}(h:Fam w st p os ob){b:Nat}{vs:Array Value}(e:p.2= .tuple vs)(hb:Value.int .i64 b∈vs.toList):b<w.heap.size:=by
 obtain⟨i,o,q,h1,h2,h3⟩:=h.lt vs b e hb;exact(h.ok i o q h1 h2).lt h3
theorem Fam.mono{w w':World}{st st':Nat→Nat→Prop}{p:Nat×Value}{os:List Ob}{ob:List (Nat×Value)}(hs: ∀b o,st b o→st' b o∧w'.cell? ⟨b,o,none⟩=w.cell? ⟨b,o,none⟩)(hb: ∀b:Nat,(∃vs,p.2= .tuple vs∧Value.int .i64 b∈vs.toList)→w'.heap[b]? =w.heap[b]?)(h:Fam w st p os ob):Fam w' st' p os ob:=by
 refine⟨h.len,h.hd,fun i o q h1 h2=> ?_,h.dis,h.sub,h.lt⟩;have ev:Evo ⟨w,st,ob⟩ os ⟨w',st',ob⟩ os:=⟨hs,fun id b cu o k ho hk hb=>⟨cu,o,ho,hk,hb⟩,fun id o sz n ho hs=>⟨o,n,ho,hs,.inl ⟨rfl,rfl⟩⟩⟩;exact(h.ok i o q h1 h2).mono ev (fun b hm=>hb b (h.sub i o q b h1 h2 hm))
theorem OK.lt{E:Env}{os:List Ob}{o:Ob}{p:Nat×Value}(h:OK E os o p){b:Nat}(hb:o.mb p b):b<E.w.heap.size:=by
 rcases h.to0 with⟨k,P,B,rfl⟩|h
 ·obtain⟨os',ob',_,hf⟩:=h;obtain⟨vs,e,hb⟩:=hb;exact hf.lt' e hb
 ·exact h.lt hb
theorem OK.mono{E E':Env}{os os':List Ob}(e:Evo E os E' os'){o:Ob}{p:Nat×Value}(hb: ∀b,o.mb p b→E'.w.heap[b]? =E.w.heap[b]?)(h:OK E os o p):OK E' os' o p:=by
 rcases h.to0 with⟨k,P,B,rfl⟩|h
 ·exact h.imp fun os' h=>h.imp fun ob' h=>⟨h.1,h.2.mono e.st hb⟩
 ·exact OK.of0 (h.mono e hb)
structure Ctx where
 w0:World
 st0:Nat→Nat→Prop
 M:Nat→Prop
structure Kept (M:Nat→Prop) (w w':World):Prop where
 os:w'.os=w.os
 tape:w'.tape=w.tape
 output:w'.output=w.output
 size:w.heap.size≤w'.heap.size
 block: ∀k,k<w.heap.size→ ¬M k→w'.heap[k]? =w.heap[k]?
theorem Kept.refl(M:Nat→Prop)(w:World):Kept M w w:=⟨rfl,rfl,rfl,Zl _,fun _ _ _=>rfl⟩
theorem Kept.trans{M N:Nat→Prop}{a b c:World}(h:Kept M a b)(k:Kept N b c)(hN: ∀i,N i→M i∨a.heap.size≤i):Kept M a c:=
 ⟨k.os.trans h.os,k.tape.trans h.tape,k.output.trans h.output,ZJK h.size k.size,fun i hi hm=>(k.block i (ZND hi h.size) (fun hn=>by rcases hN i hn with h1|h1;exact hm h1;omega)).trans (h.block i hi hm)⟩
structure Rel (c:Ctx) (E:Env) (os:List Ob):Prop where
 len:E.ob.length=os.length
 ok: ∀(i:Nat) (o:Ob) (p:Nat×Value),os[i]? =some o→E.ob[i]? =some p→OK E os o p
 dis: ∀(i j:Nat) (o o':Ob) (p p':Nat×Value) (b:Nat),os[i]? =some o→E.ob[i]? =some p→os[j]? =some o'→E.ob[j]? =some p'→o.mb p b→o'.mb p' b→i=j
 stm: ∀b off,E.st b off→b<E.w.heap.size∧ ∀(i:Nat) (o:Ob) (p:Nat×Value),os[i]? =some o→E.ob[i]? =some p→ ¬o.mb p b
 kept:Kept c.M c.w0 E.w
 mbs: ∀(i:Nat) (o:Ob) (p:Nat×Value) (b:Nat),os[i]? =some o→E.ob[i]? =some p→o.mb p b→c.M b∨c.w0.heap.size≤b
 sto: ∀b off,E.st b off→c.st0 b off∨c.M b∨c.w0.heap.size≤b
theorem Rel.at{c:Ctx}{E:Env}{os:List Ob}(R:Rel c E os){i:Nat}{o:Ob}(h:os[i]? =some o): ∃p,E.ob[i]? =some p∧OK E os o p:=by
 have hi:i<E.ob.length:=by rw[R.len];exact(ZR h).1
 exact⟨E.ob[i],Zu hi,R.ok i o _ h (Zu hi)⟩
theorem Rel.world{c:Ctx}{E:Env}{os:List Ob}(R:Rel c E os)(w':World)(st':Nat→Nat→Prop)(hk:Kept (fun _=>False) E.w w')(hst: ∀b off,E.st b off→st' b off)(hnew: ∀b off,st' b off→E.st b off∨(E.w.heap.size≤b∧b<w'.heap.size)):
  Rel c ⟨w',st',E.ob⟩ os∧Evo E os ⟨w',st',E.ob⟩ os:=by
 have ev:Evo E os ⟨w',st',E.ob⟩ os:=⟨fun b o hs=>⟨hst b o hs,World.cell?_of_block (hk.block b (R.stm b o hs).1 (fun h=>h))⟩,fun _ _ cu o k h hk h'=>⟨cu,o,h,hk,h'⟩,fun _ o' _ rs' h1 h2=>⟨o',rs',h1,h2,.inl ⟨rfl,rfl⟩⟩⟩;refine⟨⟨R.len,fun i o p ho hp=>(R.ok i o p ho hp).mono ev (fun b hb=>hk.block b ((R.ok i o p ho hp).lt hb) (fun h=>h)),R.dis,fun b off hs=> ?_,?_,R.mbs,fun b off hs=> ?_⟩,ev⟩
 ·rcases hnew b off hs with h|h
  ·exact⟨ZND (R.stm b off h).1 hk.size,(R.stm b off h).2⟩
  ·exact⟨h.2,fun i o p ho hp hb=>by have:=(R.ok i o p ho hp).lt hb;omega⟩
 ·exact R.kept.trans hk (fun i h=>h.elim)
 ·rcases hnew b off hs with h|h
  ·exact R.sto b off h
  ·have:=R.kept.size;exact .inr (.inr (by omega))
theorem Rel.push{c:Ctx}{E:Env}{os:List Ob}(R:Rel c E os)(w':World)(o:Ob)(p:Nat×Value)(hk:Kept (fun _=>False) E.w w')(hm: ∀b,o.mb p b→E.w.heap.size≤b)
  (hok:Evo E os ⟨w',E.st,E.ob++ [p]⟩ (os++ [o])→OK ⟨w',E.st,E.ob++ [p]⟩ (os++ [o]) o p):Rel c ⟨w',E.st,E.ob++ [p]⟩ (os++ [o])∧Evo E os ⟨w',E.st,E.ob++ [p]⟩ (os++ [o]):=by
 have ev:Evo E os ⟨w',E.st,E.ob++ [p]⟩ (os++ [o]):=by
  refine⟨fun b off hs=>⟨hs,World.cell?_of_block (hk.block b (R.stm b off hs).1 (fun h=>h))⟩,fun id b cu oo k ho hkd h=>⟨cu,oo,?_,hkd,?_⟩,fun id o' sz rs' h1 h2=>⟨o',rs',?_,h2,.inl ⟨rfl,?_⟩⟩⟩
  ·rw[YR (ZR ho).1];exact ho
  ·show(E.ob++ [p])[id]? =_;rw[YR (ZR h).1];exact h
  ·rw[YR (ZR h1).1];exact h1
  ·show(E.ob++ [p])[id]? =_;rw[YR (by rw[R.len];exact(ZR h1).1)]
 have key: ∀(i:Nat) (o1:Ob) (p1:Nat×Value),(os++ [o])[i]? =some o1→(E.ob++ [p])[i]? =some p1→(i<os.length∧os[i]? =some o1∧E.ob[i]? =some p1)∨(i=os.length∧o1=o∧p1=p):=by
  intro i o1 p1 h1 h2;by_cases hi:i<os.length
  ·rw[YR hi]at h1;rw[YR (by rw[R.len];exact hi)]at h2;exact .inl ⟨hi,h1,h2⟩
  ·have hl:=(ZR h1).1;simp at hl;have:i=os.length:=by omega
   subst this;rw[Ki (by omega)]at h1;rw[Ki (by rw[R.len];omega),R.len]at h2;simp at h1 h2;exact .inr ⟨rfl,h1.symm,h2.symm⟩
 refine⟨⟨by simp[R.len],fun i o1 p1 h1 h2=> ?_,fun i j o1 o2 p1 p2 b h1 h2 h3 h4 h5 h6=> ?_,fun b off hs=>⟨ZND (R.stm b off hs).1 hk.size,fun i o1 p1 h1 h2 h3=> ?_⟩,R.kept.trans hk (fun i h=>h.elim),fun i o1 p1 b h1 h2 h3=> ?_,R.sto⟩,ev⟩
 ·rcases key i o1 p1 h1 h2 with⟨_,k1,k2⟩|⟨_,rfl,rfl⟩
  ·exact(R.ok i o1 p1 k1 k2).mono ev (fun b hb=>hk.block b ((R.ok i o1 p1 k1 k2).lt hb) (fun h=>h))
  ·exact hok ev
 ·rcases key i o1 p1 h1 h2 with⟨i1,k1,k2⟩|⟨i1,rfl,rfl⟩<;>rcases key j o2 p2 h3 h4 with⟨j1,k3,k4⟩|⟨j1,rfl,rfl⟩
  ·exact R.dis i j o1 o2 p1 p2 b k1 k2 k3 k4 h5 h6
  ·have:=(R.ok i o1 p1 k1 k2).lt h5;have:=hm b h6;omega
  ·have:=(R.ok j o2 p2 k3 k4).lt h6;have:=hm b h5;omega
  ·omega
 ·rcases key i o1 p1 h1 h2 with⟨i1,k1,k2⟩|⟨i1,rfl,rfl⟩
  ·exact(R.stm b off hs).2 i o1 p1 k1 k2 h3
  ·have:=hm b h3;have:=(R.stm b off hs).1;omega
 ·rcases key i o1 p1 h1 h2 with⟨i1,k1,k2⟩|⟨i1,rfl,rfl⟩
  ·exact R.mbs i o1 p1 b k1 k2 h3
  ·have:=hm b h3;have:=R.kept.size;exact .inr (by omega)
def ZeG(c:Ctx)(E:Env)(os:List Ob)(b:Nat):Prop:=
 E.w.heap.size≤b∨((∀off,¬E.st b off)∧(∀(i:Nat) (o:Ob) (p:Nat×Value),os[i]? =some o→E.ob[i]? =some p→ ¬o.mb p b)∧(c.M b∨c.w0.heap.size≤b))
theorem Rel.set{c:Ctx}{E:Env}{os:List Ob}(R:Rel c E os){i:Nat}{o:Ob}{p:Nat×Value}(ho:os[i]? =some o)(hp:E.ob[i]? =some p)(w':World)(o':Ob)(p':Nat×Value)
  (hk:Kept (fun b=>o.mb p b) E.w w') (hm: ∀b,o'.mb p' b→o.mb p b∨ZeG c E os b)
  (hs: ∀sz n,o.sl? =some (sz,n)→ ∃n',o'.sl? =some (sz,n')∧((n=n'∧p'=p)∨n<n'))
  (hbx: ∀k,o.kd=some k→p'.1=p.1∧o'.kd=some k)
  (hok:Evo E os ⟨w',E.st,E.ob.set i p'⟩ (os.set i o')→OK ⟨w',E.st,E.ob.set i p'⟩ (os.set i o') o' p'):
  Rel c ⟨w',E.st,E.ob.set i p'⟩ (os.set i o')∧Evo E os ⟨w',E.st,E.ob.set i p'⟩ (os.set i o'):=by
 have hio:i<os.length:=(ZR ho).1;have hip:i<E.ob.length:=(ZR hp).1;have go: ∀j,(os.set i o')[j]? =if i=j then some o' else os[j]? :=fun j=>by
  rw[ZBj];by_cases h:i=j
  ·subst h;simp[hio]
  ·simp[h]
 have gp: ∀j,(E.ob.set i p')[j]? =if i=j then some p' else E.ob[j]? :=fun j=>by
  rw[ZBj];by_cases h:i=j
  ·subst h;simp[hip]
  ·simp[h]
 have kst: ∀b off,E.st b off→w'.heap[b]? =E.w.heap[b]? :=fun b off hb=>hk.block b (R.stm b off hb).1 (fun h=>(R.stm b off hb).2 i o p ho hp h)
 have kob: ∀j oj pj,os[j]? =some oj→E.ob[j]? =some pj→j≠i→ ∀b,oj.mb pj b→w'.heap[b]? =E.w.heap[b]? :=fun j oj pj h1 h2 hne b hb=>
  hk.block b ((R.ok j oj pj h1 h2).lt hb) (fun h=>hne (R.dis j i oj o pj p b h1 h2 ho hp hb h))
 have ev:Evo E os ⟨w',E.st,E.ob.set i p'⟩ (os.set i o'):=by
  refine⟨fun b off hb=>⟨hb,World.cell?_of_block (kst b off hb)⟩,fun id b cu oo k hbo hkd hb=> ?_,fun id o1 sz rs h1 h2=> ?_⟩
  ·rw[gp,go];by_cases h:i=id
   ·subst h;rw[hp]at hb;cases hb;rw[ho]at hbo;cases hbo;obtain⟨g1,g2⟩:=hbx k hkd;obtain⟨q1,q2⟩:=p';simp only at g1;subst g1;exact⟨q2,o',by simp,g2,by simp⟩
   ·exact⟨cu,oo,by simp[h,hbo],hkd,by simp[h,hb]⟩
  ·rw[go,gp];by_cases h:i=id
   ·subst h;rw[ho]at h1;cases h1;obtain⟨rs',k1,k2⟩:=hs sz rs h2;refine⟨o',rs',by simp,k1,?_⟩;rcases k2 with⟨k2,k3⟩|k2
    ·exact .inl ⟨k2,by simp[k3,hp]⟩
    ·exact .inr k2
   ·simp only[h,if_false];exact⟨o1,rs,h1,h2,.inl ⟨rfl,trivial⟩⟩
 refine⟨⟨by simp[R.len],fun j o1 p1 h1 h2=> ?_,fun j k o1 o2 p1 p2 b h1 h2 h3 h4 h5 h6=> ?_,fun b off hb=>⟨ZND (R.stm b off hb).1 hk.size,fun j o1 p1 h1 h2 h3=> ?_⟩,?_,fun j o1 p1 b h1 h2 h3=> ?_,R.sto⟩,ev⟩
 ·replace h1:=(go j).symm.trans h1
  replace h2:=(gp j).symm.trans h2
  by_cases h:i=j
  ·subst h;simp at h1 h2;subst h1;subst h2;exact hok ev
  ·simp[h]at h1 h2;exact(R.ok j o1 p1 h1 h2).mono ev (kob j o1 p1 h1 h2 (Ne.symm h))
 ·replace h1:=(go j).symm.trans h1
  replace h2:=(gp j).symm.trans h2
  replace h3:=(go k).symm.trans h3
  replace h4:=(gp k).symm.trans h4
  by_cases hj:i=j<;>by_cases hk':i=k
  ·omega
  ·subst hj;simp at h1 h2;subst h1;subst h2;simp[hk']at h3 h4;rcases hm b h5 with h|h|h
   ·exact R.dis _ _ _ _ _ _ b ho hp h3 h4 h h6
   ·have:=(R.ok k o2 p2 h3 h4).lt h6;omega
   ·exact absurd h6 (h.2.1 _ _ _ h3 h4)
  ·subst hk';simp at h3 h4;subst h3;subst h4;simp[hj]at h1 h2;rcases hm b h6 with h|h|h
   ·exact R.dis _ _ _ _ _ _ b h1 h2 ho hp h5 h
   ·have:=(R.ok j o1 p1 h1 h2).lt h5;omega
   ·exact absurd h5 (h.2.1 _ _ _ h1 h2)
  ·simp[hj]at h1 h2;simp[hk']at h3 h4;exact R.dis j k o1 o2 p1 p2 b h1 h2 h3 h4 h5 h6
 ·replace h1:=(go j).symm.trans h1
  replace h2:=(gp j).symm.trans h2
  by_cases hj:i=j
  ·subst hj;simp at h1 h2;subst h1;subst h2;rcases hm b h3 with h|h|h
   ·exact(R.stm b off hb).2 _ _ _ ho hp h
   ·have:=(R.stm b off hb).1;omega
   ·exact h.1 off hb
  ·simp[hj]at h1 h2;exact(R.stm b off hb).2 j o1 p1 h1 h2 h3
 ·exact R.kept.trans hk (fun b hb=>R.mbs i o p b ho hp hb)
 ·replace h1:=(go j).symm.trans h1
  replace h2:=(gp j).symm.trans h2
  by_cases hj:i=j
  ·subst hj;simp at h1 h2;subst h1;subst h2;rcases hm b h3 with h|h|h
   ·exact R.mbs _ _ _ b ho hp h
   ·have:=R.kept.size;exact .inr (by omega)
   ·exact h.2.2
  ·simp[hj]at h1 h2;exact R.mbs j o1 p1 b h1 h2 h3
theorem KA.vx{E:Env}{fz:Bool}{e sz:Nat}{rs:List (List X)}{cur:Value}{xs:List Value}{st':Nat→Nat→Prop}(h:KA E.w fz e sz rs.length cur xs)(hz: ∀r∈rs,r.length=sz)
  (hv: ∀(i:Nat) (r:List X) (j:Nat) (x:X) (v:Value),rs[i]? =some r→r[j]? =some x→xs[i*sz+j]? =some v→VX E.w E.st x v) (hst: ∀b off,E.st b off→st' b off) (hnew: ∀g,cur.ownBlock=some g→ ∀off,off<rs.length*sz→st' g off):
  VX E.w st' (.sl rs) cur:=by
 have lt: ∀i j,i<rs.length→j<sz→i*sz+j<rs.length*sz:=fun i j hi hj=>by
  have:(i+1)*sz≤rs.length*sz:=KB _ hi;rw[JL]at this;omega
 have hm: ∀ {x v},VX E.w E.st x v→VX E.w st' x v:=fun h=>h.mono (fun b o hb=>⟨hst b o hb,rfl⟩)
 rcases h.2 with⟨rfl,hn⟩|⟨g,cap,cells,fr,rfl,hg,hc,hcm,hcs,ht,hf⟩
 ·exact .sl rs none 0 0 sz (fun _ _=>undef) hn (Zl _) (Je _) hz (fun i j hi=>by omega) (fun _=>⟨rfl,rfl⟩) (fun _ ad h=>by cases h) (fun i j r x hr=>by rw[ξQ hn]at hr;simp at hr)
 ·have cell: ∀i j,i<rs.length→j<sz→ ∃v,xs[i*sz+j]? =some v∧E.w.cell? ⟨g,i*sz+j,none⟩=some v:=fun i j hi hj=>by
   have hl:=lt i j hi hj;have hx:i*sz+j<xs.length:=by rw[h.1];exact hl
   refine⟨xs[i*sz+j],Zu hx,?_⟩;have:(cells.toList.take (rs.length*sz))[i*sz+j]? =xs[i*sz+j]? :=by rw[ht]
   rw[JQ,if_pos hl,Zu hx]at this;simp[World.cell?,hg];simpa using this
  refine .sl rs _ _ cap sz (fun i j=>xs.getD (i*sz+j) undef) rfl hc hcm hz (fun i j hi hj=> ?_) (fun h=>by cases h) (fun _ ad h=>by cases h;rfl) (fun i j r x hr hx=> ?_)
  ·obtain⟨v,h1,h2⟩:=cell i j hi hj;refine⟨g,0,rfl,hnew g rfl _ (by have:=lt i j hi hj;omega),?_⟩;rw[Yy,h2];simp[List.getD,h1]
  ·have hi:=(ZR hr).1;have hj:j<sz:=by rw[←hz r (YT hr)];exact(ZR hx).1
   obtain⟨v,h1,h2⟩:=cell i j hi hj;simp only[List.getD,h1,Qe];exact hm (hv i r j x v hr hx h1)
theorem Rel.freeze{c:Ctx}{E:Env}{os:List Ob}(R:Rel c E os){i:Nat}{fz:Bool}{e sz:Nat}{rs:List (List X)}{p:Nat×Value}(ho:os[i]? =some (.rows fz e sz rs))(hp:E.ob[i]? =some p):
  Rel c ⟨E.w,fun b off=>E.st b off∨(p.2.ownBlock=some b∧off<rs.length*sz),E.ob⟩ (os.set i (.frz sz rs))∧
  Evo E os ⟨E.w,fun b off=>E.st b off∨(p.2.ownBlock=some b∧off<rs.length*sz),E.ob⟩ (os.set i (.frz sz rs)):=by
 have hio:i<os.length:=(ZR ho).1;have go: ∀j,(os.set i (.frz sz rs))[j]? =if i=j then some (.frz sz rs)else os[j]? :=fun j=>by
  rw[ZBj];by_cases h:i=j
  ·subst h;simp[hio]
  ·simp[h]
 obtain⟨xs,hr,hz,hv⟩:=R.ok i _ p ho hp;have ev:Evo E os ⟨E.w,fun b off=>E.st b off∨(p.2.ownBlock=some b∧off<rs.length*sz),E.ob⟩ (os.set i (.frz sz rs)):=by
  refine⟨fun b off hb=>⟨.inl hb,rfl⟩,fun id b cu oo k hbo hkd hb=> ?_,fun id o1 sz' rs' h1 h2=> ?_⟩
  ·rw[go];by_cases h:i=id
   ·subst h;rw[ho]at hbo;cases hbo;simp[Ob.kd]at hkd
   ·exact⟨cu,oo,by simp[h,hbo],hkd,hb⟩
  rw[go];by_cases h:i=id
  ·subst h;rw[ho]at h1;cases h1;simp[Ob.sl?]at h2;obtain⟨rfl,rfl⟩:=h2;exact⟨.frz sz rs,rs.length,by simp,rfl,.inl ⟨rfl,rfl⟩⟩
  ·exact⟨o1,rs',by simp[h,h1],h2,.inl ⟨rfl,rfl⟩⟩
 refine⟨⟨by simp[R.len],fun j o1 p1 h1 h2=> ?_,fun j k o1 o2 p1 p2 b h1 h2 h3 h4 h5 h6=> ?_,fun b off hb=> ?_,R.kept,fun j o1 p1 b h1 h2 h3=> ?_,fun b off hb=> ?_⟩,ev⟩
 ·replace h1:=(go j).symm.trans h1
  by_cases h:i=j
  ·subst h;simp at h1;subst h1;have h2':E.ob[i]? =some p1:=h2;rw[hp]at h2';cases h2';refine⟨hr.vx hz hv (fun b off hb=> .inl hb) (fun g hg off hoff=> .inr ⟨hg,hoff⟩),hz,fun ad n c he=> ?_⟩;rcases hr.2 with⟨h3,_⟩|⟨g,cap,cells,fr,h3,_⟩
   ·rw[he]at h3;cases h3
   ·rw[he]at h3;cases h3;rfl
  ·simp[h]at h1;exact(R.ok j o1 p1 h1 h2).mono ev (fun b hb=>rfl)
 ·replace h1:=(go j).symm.trans h1
  replace h3:=(go k).symm.trans h3
  by_cases hj:i=j
  ·subst hj;simp at h1;subst h1;cases h5
  ·by_cases hk:i=k
   ·subst hk;simp at h3;subst h3;cases h6
   ·simp[hj]at h1;simp[hk]at h3;exact R.dis j k o1 o2 p1 p2 b h1 h2 h3 h4 h5 h6
 ·rcases hb with hb|⟨hb,hoff⟩
  ·refine⟨(R.stm b off hb).1,fun j o1 p1 h1 h2 h3=> ?_⟩
   replace h1:=(go j).symm.trans h1
   by_cases hj:i=j
   ·subst hj;simp at h1;subst h1;cases h3
   ·simp[hj]at h1;exact(R.stm b off hb).2 j o1 p1 h1 h2 h3
  ·refine⟨hr.lt hb,fun j o1 p1 h1 h2 h3=> ?_⟩
   replace h1:=(go j).symm.trans h1
   by_cases hj:i=j
   ·subst hj;simp at h1;subst h1;cases h3
   ·simp[hj]at h1;exact hj (R.dis i j _ o1 p p1 b ho hp h1 h2 hb h3)
 ·replace h1:=(go j).symm.trans h1
  by_cases hj:i=j
  ·subst hj;simp at h1;subst h1;cases h3
  ·simp[hj]at h1;exact R.mbs j o1 p1 b h1 h2 h3
 ·rcases hb with hb|⟨hb,hoff⟩
  ·exact R.sto b off hb
  ·exact .inr (R.mbs i _ p b ho hp hb)
theorem VX.part{w:World}{st:Nat→Nat→Prop}{rs:List (List X)}{a:Option Addr}{n c:Nat}(h:VX w st (.sl rs) (.slice a n c)){sz:Nat}(hz: ∀r∈rs,r.length=sz)(off len:Nat)(hl:off+len≤rs.length)(a':Option Addr)(c':Nat)(hc:len≤c')(hm:c'≤maxLen)
  (ha:0<len→ ∀ad,a=some ad→a'=some ⟨ad.block,ad.off+off*sz,none⟩) (hn:a'=none→len=0∧c'=0) (hsp':0<c'→ ∀ad,a'=some ad→ad.spot=none):VX w st (.sl ((rs.drop off).take len)) (.slice a' len c'):=by
 cases h with
 |sl _ _ _ _ sz0 val hn0 hc0 hm0 hsz0 hcell hnil hsp hval=>
  have hlen:((rs.drop off).take len).length=len:=by simp;omega
  have hz': ∀r∈(rs.drop off).take len,r.length=sz:=fun r hr=>hz r (ZB7 (ZDO hr))
  have hszeq:0<len→sz0=sz:=fun hp=>by
   have h0:rs[0]'(by omega)∈rs:=Yl _;rw[←hsz0 _ h0,hz _ h0]
  refine .sl _ _ _ _ sz (fun i j=>val (off+i) j) hlen hc hm hz' (fun i j hi hj=> ?_) hn hsp' (fun i j r x hr hx=> ?_)
  ·have e:=hszeq (by omega);subst e;obtain⟨b,o,h1,h2,h3⟩:=hcell (off+i) j (by omega) hj;have h4:=ha (by omega) _ h1;have ea:o+(off+i)*sz0+j=o+off*sz0+i*sz0+j:=by rw[JL];omega
   rw[ea]at h2 h3;exact⟨b,o+off*sz0,h4,h2,h3⟩
  ·have hi:i<len:=by rw[←hlen];exact(ZR hr).1
   refine hval (off+i) j r x ?_ hx;rw[JQ,if_pos hi,ξV]at hr;exact hr
def X.keq:X→X→Bool
 | .int _ a,.int _ b=>a==b
 | .str a,.str b=>a==b
 |_,_=>false
def ZA7:List X→List X→Bool
 | [],[]=>true
 |a::l,b::m=>a.keq b&&ZA7 l m
 |_,_=>false
def Yx:List Pr→List X→Option (List D)
 | [],_=>none
 |p::l,k=>if ZA7 k p.1=true then some p.2 else Yx l k
def YM:List Pr→List X→List D→List Pr
 | [],k,v=> [(k,v)]
 |p::l,k,v=>if ZA7 k p.1=true then(k,v)::l else p::YM l k v
def ZED:List Pr→List X→List Pr
 | [],_=> []
 |p::l,k=>if ZA7 k p.1=true then l else p::ZED l k
def Zbn:KF→X→Bool
 | .int k,.int k' _=>decide (k'=k)
 | .str,.str _=>true
 |_,_=>false
def KM:KK→D→Option (List X)
 | .int k,.x (.int k' n)=>if k'=k then some [.int k n]else none
 | .str,.x (.str s)=>some [.str s]
 | .st a b,.agg [.x x,.x y]=>if(Zbn a x&&Zbn b y)=true then some [x,y]else none
 |_,_=>none
def keyD:KK→List X→D
 | .int k,[.int _ n]=> .x (.int k n)
 | .str,[.str s]=> .x (.str s)
 |_,_=> .und
theorem V.keyD(E:Env)(os:List Ob)(dk:KK)(xs:List X):V E os (keyD dk xs) (kkV dk xs):=by
 unfold Go.Ab.keyD;split
 ·exact .x (.int _ _)
 ·exact .x (.str _)
 ·exact .und _
theorem ZYX{dk:KK}{kd:D}{key:List X}(h:KM dk kd=some key)(hd: ∀a b,dk≠ .st a b):ZJ9 dk key=true:=by
 unfold KM at h;split at h
 ·split at h
  ·cases h;simp[ZJ9]
  ·cases h
 ·cases h;rfl
 ·rename_i a b x y;exact absurd rfl (hd a b)
 ·cases h
theorem ZSR{dk:KK}{key:List X}(h:ZJ9 dk key=true):KM dk (keyD dk key)=some key:=by
 unfold ZJ9 at h;split at h
 ·simp only[Zi]at h;subst h;simp[Go.Ab.keyD,KM]
 ·rfl
 ·cases h
def Ob.upd? :Ob→Option (KK×Bool×List Pr)
 | .mpo dk ag l=>some (dk,ag,l)
 | .mpn dk ag l _ _=>some (dk,ag,l)
 |_=>none
theorem OK.map{E:Env}{os:List Ob}{o:Ob}{p:Nat×Value}(h:OK E os o p){dk:KK}{ag:Bool}{l:List Pr}(hm:o.map? =some (dk,ag,l)):Zt E os p.1 dk ag l:=by
 cases o<;>simp[Ob.map?]at hm
 ·obtain⟨rfl,rfl,rfl⟩:=hm;exact h
 ·obtain⟨rfl,rfl,rfl⟩:=hm;exact h.1
 ·obtain⟨rfl,rfl,rfl⟩:=hm;exact h.1
theorem Ob.upd_spec{o:Ob}{dk:KK}{ag:Bool}{l:List Pr}(hm:o.upd? =some (dk,ag,l)):o.map? =some (dk,ag,l)∧o.kd=some (.map dk ag)∧o.sl? =none∧ ∀p b,o.mb p b↔p.1=b:=by
 cases o<;>simp[Ob.upd?]at hm
 ·obtain⟨rfl,rfl,rfl⟩:=hm;exact⟨rfl,rfl,rfl,fun _ _=>Iff.rfl⟩
 ·obtain⟨rfl,rfl,rfl⟩:=hm;exact⟨rfl,rfl,rfl,fun _ _=>Iff.rfl⟩
def ZEB(ag:Bool)(ds:List D):D:=if ag=true then .agg ds else match ds with
 | [d]=>d
 |_=> .und
def agD:D→Bool
 | .agg _=>true
 |_=>false
section
variable {κ:Type} [DecidableEq κ] {mk:κ→Value} {kx:κ→List X} {E:Env} {os:List Ob} {ag:Bool}
theorem ZK5(hk: ∀a b:κ,ZA7 (kx a) (kx b)=decide (a=b))(k:κ): ∀(l':List (κ×Value)) (l:List Pr),l'.length=l.length→(∀(i:Nat) (a:κ×Value) (q:Pr),l'[i]? =some a→l[i]? =some q→q.1=kx a.1∧VC E os ag q.2 a.2)→
  (∃v xs,ZI l' k=some v∧Yx l (kx k)=some xs∧VC E os ag xs v)∨(ZI l' k=none∧Yx l (kx k)=none)
 | [],[],_,_=> .inr ⟨rfl,rfl⟩
 | [],_::_,h,_=>by simp at h
 |_::_,[],h,_=>by simp at h
 |a::l',q::l,h,hr=>by
  obtain⟨h1,h2⟩:=hr 0 a q rfl rfl;have ih:=ZK5 hk k l' l (by simpa using h) (fun i a q ha hq=>hr (i+1) a q (by simpa using ha) (by simpa using hq));unfold Yx;rw[h1,hk];by_cases e:k=a.1
  ·left;exact⟨a.2,q.2,by simp[ZI,e],by simp[e],h2⟩
  ·simp only[e,decide_false,Yt,if_false];have:ZI (a::l') k=ZI l' k:=by simp[ZI,e]
   rw[this];exact ih
theorem ZKA(hk: ∀a b:κ,ZA7 (kx a) (kx b)=decide (a=b))(k:κ){v:Value}{xs:List D}(hv:VC E os ag xs v): ∀(l':List (κ×Value)) (l:List Pr),l'.length=l.length→(∀(i:Nat) (a:κ×Value) (q:Pr),l'[i]? =some a→l[i]? =some q→q.1=kx a.1∧VC E os ag q.2 a.2)→
  (Zz l' k v).length=(YM l (kx k) xs).length∧ ∀(i:Nat) (a:κ×Value) (q:Pr),(Zz l' k v)[i]? =some a→(YM l (kx k) xs)[i]? =some q→q.1=kx a.1∧VC E os ag q.2 a.2
 | [],[],_,_=>by
  refine⟨rfl,fun i a q ha hq=> ?_⟩;cases i with
  |zero=>simp[Zz]at ha;simp[YM]at hq;subst ha;subst hq;exact⟨rfl,hv⟩
  |succ i=>simp[Zz]at ha
 | [],_::_,h,_=>by simp at h
 |_::_,[],h,_=>by simp at h
 |a::l',q::l,h,hr=>by
  obtain⟨h1,h2⟩:=hr 0 a q rfl rfl;have hr':=fun(i:Nat) (a:κ×Value) (q:Pr) ha hq=>hr (i+1) a q (by simpa using ha) (by simpa using hq)
  obtain⟨k1,k2⟩:=ZKA hk k hv l' l (by simpa using h) hr';unfold Zz YM;rw[h1,hk];by_cases e:k=a.1
  ·simp only[e,decide_true,if_true];refine⟨by simpa using h,fun i a' q' ha hq=> ?_⟩;cases i with
   |zero=>simp at ha hq;subst ha;subst hq;exact⟨rfl,hv⟩
   |succ i=>exact hr' i a' q' (by simpa using ha) (by simpa using hq)
  ·simp only[e,decide_false,Yt,if_false];refine⟨by simpa using k1,fun i a' q' ha hq=> ?_⟩;cases i with
   |zero=>simp at ha hq;subst ha;subst hq;exact⟨h1,h2⟩
   |succ i=>exact k2 i a' q' (by simpa using ha) (by simpa using hq)
theorem ZRt(hk: ∀a b:κ,ZA7 (kx a) (kx b)=decide (a=b))(k:κ): ∀(l':List (κ×Value)) (l:List Pr),l'.length=l.length→(∀(i:Nat) (a:κ×Value) (q:Pr),l'[i]? =some a→l[i]? =some q→q.1=kx a.1∧VC E os ag q.2 a.2)→
  (YY l' k).length=(ZED l (kx k)).length∧ ∀(i:Nat) (a:κ×Value) (q:Pr),(YY l' k)[i]? =some a→(ZED l (kx k))[i]? =some q→q.1=kx a.1∧VC E os ag q.2 a.2
 | [],[],_,_=>⟨rfl,fun i a q ha=>by simp[YY]at ha⟩
 | [],_::_,h,_=>by simp at h
 |_::_,[],h,_=>by simp at h
 |a::l',q::l,h,hr=>by
  obtain⟨h1,h2⟩:=hr 0 a q rfl rfl;have hr':=fun(i:Nat) (a:κ×Value) (q:Pr) ha hq=>hr (i+1) a q (by simpa using ha) (by simpa using hq)
  obtain⟨k1,k2⟩:=ZRt hk k l' l (by simpa using h) hr';unfold YY ZED;rw[h1,hk];by_cases e:k=a.1
  ·simp only[e,decide_true,if_true];exact⟨by simpa using h,hr'⟩
  ·simp only[e,decide_false,Yt,if_false];refine⟨by simpa using k1,fun i a' q' ha hq=> ?_⟩;cases i with
   |zero=>simp at ha hq;subst ha;subst hq;exact⟨h1,h2⟩
   |succ i=>exact k2 i a' q' (by simpa using ha) (by simpa using hq)
end
theorem Za6(k:IntKind)(a b:Int):(X.int k a).keq (X.int k b)=decide (a=b):=by
 simp only[X.keq];rw[ZBc];simp
theorem ZW7(k:IntKind)(a b:Int):ZA7 (kxI k a) (kxI k b)=decide (a=b):=by
 simp only[kxI,ZA7,Za6,QJ]
theorem Zad(a b:ByteArray):(X.str a.toList).keq (X.str b.toList)=decide (a=b):=by
 simp only[X.keq];rw[ZBc];simp;constructor
 ·intro h;have h1:=congrArg ZN h;have e: ∀c:ByteArray,ZN c.toList=c:=fun c=>by
   rw[ByteArray.toList_eq];simp[ZN]
  rw[e,e]at h1;exact h1
 ·intro h;rw[h]
theorem ZYf(a b:ByteArray):ZA7 (kxS a) (kxS b)=decide (a=b):=by
 simp only[kxS,ZA7,Zad,QJ]
theorem V.cell{E:Env}{os:List Ob}{ag:Bool}{xs:List D}{v:Value}(h:VC E os ag xs v):V E os (ZEB ag xs) v:=by
 obtain⟨h1,h2,h3⟩:=h;unfold ZEB;cases ag with
 |true=>
  simp only[if_true]at h1⊢;obtain⟨cs,rfl⟩:=h1;simp only[Value.cells]at h2 h3;refine .agg cs h2.symm (fun v hv=> ?_) (fun j d u hd hu=>(h3 j d u hd hu).1);obtain⟨j,hj⟩:=ZFM.1 hv;have hj':cs[j]? =some v:=by rw[←Qp];exact hj
  have hl:j<xs.length:=by rw[←h2];exact(ξH hj').1
  exact(h3 j xs[j] v (Zu hl) hj').2
 |false=>
  simp only[Yt,if_false]at h1⊢;obtain⟨h4,h5⟩:=h1
  match xs,h4 with
  | [y],_=>
   have hc:v.cells= #[v]:=by cases v<;>first|rfl|exact absurd rfl (h5 _)
   exact(h3 0 y v rfl (by rw[hc];rfl)).1
theorem ZUr{k:IntKind}{kd:D}{key:List X}(h:KM (.int k) kd=some key): ∃n,kd= .x (.int k n)∧key= [.int k n]:=by
 unfold KM at h;split at h
 ·rename_i k0 k' n e1;cases e1;split at h
  ·rename_i e;subst e;cases h;exact⟨n,rfl,rfl⟩
  ·cases h
 ·rename_i e;cases e
 ·rename_i e;cases e
 ·cases h
theorem ZUa{kd:D}{key:List X}(h:KM .str kd=some key): ∃s,kd= .x (.str s)∧key= [.str s]:=by
 unfold KM at h;split at h
 ·rename_i e;cases e
 ·rename_i s e;cases h;exact⟨s,rfl,rfl⟩
 ·rename_i e;cases e
 ·cases h
theorem V.tup2{E:Env}{os:List Ob}{d:D}{v:Value}(h:V E os d v)(b:Bool):V E os (.tup [d,.x (.bool b)]) (.tuple #[v,.bool b]):=by
 refine .tup _ rfl (fun j d' u hd hu=> ?_)
 match j with
 |0=>simp at hd hu;subst hd;subst hu;exact h
 |1=>simp at hd hu;subst hd;subst hu;exact V.x (.bool b)
 |j+2=>simp at hd
theorem V.tup1{E:Env}{os:List Ob}{d:D}{v:Value}(h:V E os d v):V E os (.tup [d]) (.tuple #[v]):=by
 refine .tup _ rfl (fun j d' u hd hu=> ?_)
 match j with
 |0=>simp at hd hu;subst hd;subst hu;exact h
 |j+1=>simp at hd
theorem V.tupP{E:Env}{os:List Ob}{d1 d2:D}{v1 v2:Value}(h1:V E os d1 v1)(h2:V E os d2 v2):V E os (.tup [d1,d2]) (.tuple #[v1,v2]):=by
 refine .tup _ rfl (fun j d' u hd hu=> ?_)
 match j with
 |0=>simp at hd hu;subst hd;subst hu;exact h1
 |1=>simp at hd hu;subst hd;subst hu;exact h2
 |j+2=>simp at hd
theorem V.tup3{E:Env}{os:List Ob}{d1 d2 d3:D}{v1 v2 v3:Value}(h1:V E os d1 v1)(h2:V E os d2 v2)(h3:V E os d3 v3):V E os (.tup [d1,d2,d3]) (.tuple #[v1,v2,v3]):=by
 refine .tup _ rfl (fun j d' u hd hu=> ?_)
 match j with
 |0=>simp at hd hu;subst hd;subst hu;exact h1
 |1=>simp at hd hu;subst hd;subst hu;exact h2
 |2=>simp at hd hu;subst hd;subst hu;exact h3
 |j+3=>simp at hd
def kkD:KK→TypeDesc
 | .int k=> .int k
 |_=> .string
theorem ZYb(s:List UInt8):kxS (ZN s)= [X.str s]:=by simp[kxS,Jb]
theorem Zt.cases{E:Env}{os:List Ob}{b:Nat}{dk:KK}{ag:Bool}{l:List Pr}(h:Zt E os b dk ag l){kd:D}{key:List X}(hk:KM dk kd=some key){kv:Value}(hv:V E os kd kv){C:Prop}
  (H: ∀ {κ:Type} [DecidableEq κ] (mk:κ→Value) (kx:κ→List X) (_:KeyKind (kkD dk) mk) (_: ∀a b,ZA7 (kx a) (kx b)=decide (a=b)) (_: ∀(E:Env) os l,ZA9 mk kx E os b ag l→Zt E os b dk ag l) (k:κ),ZA9 mk kx E os b ag l→key=kx k→kv=mk k→kv=kkV dk key→C):C:=by
 cases dk with
 |int k=>
  obtain⟨n,rfl,rfl⟩:=ZUr hk;cases hv with
  |x hv=>
   cases hv;exact H (Value.int k) (kxI k) (Zbi k) (ZW7 k) (fun _ _ _ h=>h) n h rfl rfl rfl
 |str=>
  obtain⟨s,rfl,rfl⟩:=ZUa hk;cases hv with
  |x hv=>
   cases hv;exact H Value.string kxS ZVg ZYf (fun _ _ _ h=>h) (ZN s) h (ZYb s).symm rfl rfl
 |st _ _=>exact h.elim
section
variable {b:Nat} {dk:KK} {ag:Bool} {l:List Pr} {P:Program} {key:List X} {kd:D} {E:Env} {os:List Ob} {kv:Value} {T kt elem:TypeId}
theorem Zt.get(h:Zt E os b dk ag l)(hk:KM dk kd=some key)(hv:V E os kd kv)(hT:P.underlying T=some (.map kt elem))(hd:P.underlying kt=some (kkD dk)){z:Value}(hz:(zeroValue elem).run P E.w= .ok z E.w)(ok:Bool):
  (∃v xs,Yx l key=some xs∧VC E os ag xs v∧(Instr.lookup T (.map (some b)) kv ok).run P E.w= .ok (if ok=true then .tuple #[v,.bool true]else v) E.w)∨
  (Yx l key=none∧(Instr.lookup T (.map (some b)) kv ok).run P E.w= .ok (if ok=true then .tuple #[z,.bool false]else z) E.w):=by
 refine h.cases hk hv (fun mk kx K hq _ k h hkey hkv _=> ?_);subst hkey hkv;obtain⟨l',h1,h2,h3⟩:=h;have hr:=ZQR (P:=P) (w:=E.w) K T kt elem z hT hd hz b l' h1 k ok;rcases ZK5 hq k l' l h2 h3 with⟨v,xs,g1,g2,g3⟩|⟨g1,g2⟩
 ·left;refine⟨v,xs,g2,g3,?_⟩;rw[hr,g1];rfl
 ·right;refine⟨g2,?_⟩;rw[hr,g1];rfl
theorem Zt.up(h:Zt E os b dk ag l)(hk:KM dk kd=some key)(hv:V E os kd kv)(hT:P.underlying T=some (.map kt elem))(hd:P.underlying kt=some (kkD dk)){u:Value}{xs:List D}(hu:VC E os ag xs u):
  ∃w',(Instr.mapUpdate T (.map (some b)) kv u).run P E.w= .ok () w'∧Only b E.w w'∧ ∀E' os',E'.w=w'→Evo E os E' os'→Zt E' os' b dk ag (YM l key xs):=by
 refine h.cases hk hv (fun mk kx K hq hM k h hkey hkv _=> ?_);subst hkey hkv;obtain⟨l',h1,h2,h3⟩:=h;obtain⟨w',g1,g2,g3⟩:=ZLZ (P:=P) (w:=E.w) K T kt elem hT hd b l' h1 k u;obtain⟨g4,g5⟩:=ZKA hq k hu l' l h2 h3;exact⟨w',g1,g2,fun E' os' hw ev=>hM E' os' _ ⟨_,by rw[hw];exact g3,g4,fun i a q ha hq'=>⟨(g5 i a q ha hq').1,(g5 i a q ha hq').2.mono ev⟩⟩⟩
theorem Zt.del(h:Zt E os b dk ag l)(hk:KM dk kd=some key)(hv:V E os kd kv)(hT:P.underlying T=some (.map kt elem))(hd:P.underlying kt=some (kkD dk))(ty ts:TypeId):
  ∃w',(Builtin.delete_ #[T,ts] ty #[.map (some b),kv]).run P E.w= .ok (.tuple #[]) w'∧Only b E.w w'∧ ∀E' os',E'.w=w'→Evo E os E' os'→Zt E' os' b dk ag (ZED l key):=by
 refine h.cases hk hv (fun mk kx K hq hM k h hkey hkv _=> ?_);subst hkey hkv;obtain⟨l',h1,h2,h3⟩:=h;obtain⟨w',g1,g2,g3⟩:=ZP1 (P:=P) (w:=E.w) K T kt elem hT hd ty ts b l' h1 k;obtain⟨g4,g5⟩:=ZRt hq k l' l h2 h3;exact⟨w',g1,g2,fun E' os' hw ev=>hM E' os' _ ⟨_,by rw[hw];exact g3,g4,fun i a q ha hq'=>⟨(g5 i a q ha hq').1,(g5 i a q ha hq').2.mono ev⟩⟩⟩
theorem Zt.entry(h:Zt E os b dk ag l)(hk:KM dk kd=some key)(hv:V E os kd kv)(hT:P.underlying T=some (.map kt elem))(hd:P.underlying kt=some (kkD dk)){z:Value}(hz:(zeroValue elem).run P E.w= .ok z E.w){zs:List D}(hzs:VC E os ag zs z):
  ∃(w':World) (v:Value) (n:Nat),(Instr.mapEntry T (.map (some b)) kv).run P E.w= .ok (.tuple #[v,.int .i64 n]) w'∧Only b E.w w'∧VC E os ag ((Yx l key).getD zs) v∧(∀E' os',E'.w=w'→Evo E os E' os'→Zt E' os' b dk ag (YM l key ((Yx l key).getD zs)))∧
   ∃es clk e,w'.heap[b]? =some (.map es clk)∧e∈es.toList∧e.born=n∧e.key=kkV dk key:=by
 refine h.cases hk hv (fun mk kx K hq hM k h hkey hkv hkk=> ?_);obtain⟨l',h1,h2,h3⟩:=h;obtain⟨w',v,n,g1,g2,g3,g4,g5⟩:=ZNM (P:=P) (w:=E.w) K T kt elem z hT hd hz b l' h1 k;have hvc:VC E os ag ((Yx l key).getD zs) v:=by
  rw[hkey];rcases ZK5 hq k l' l h2 h3 with⟨v',xs,k1,k2,k3⟩|⟨k1,k2⟩
  ·rw[k2,g3,k1];exact k3
  ·rw[k2,g3,k1];exact hzs
 obtain⟨g6,g7⟩:=ZKA hq k hvc l' l h2 h3;rw[←hkv,hkk]at g5;rw[hkey]at g5 hvc⊢;rw[hkv];rw[hkey]at g6 g7;exact⟨w',v,n,g1,g2,hvc,fun E' os' hw ev=>hM E' os' _ ⟨_,by rw[hw];exact g4,g6,fun i a q ha hq'=>⟨(g7 i a q ha hq').1,(g7 i a q ha hq').2.mono ev⟩⟩,g5⟩
theorem Zt.store(h:Zt E os b dk ag l)(hk: ∃kd kv,KM dk kd=some key∧V E os kd kv){n:Nat}{u:Value}{xs:List D}(hu:VC E os ag xs u)
  (he: ∃es clk e,E.w.heap[b]? =some (.map es clk)∧e∈es.toList∧e.born=n∧e.key=kkV dk key):
  ∃w',(Instr.entryStore T (.map (some b)) (.int .i64 n) u).run P E.w= .ok () w'∧Only b E.w w'∧ ∀E' os',E'.w=w'→Evo E os E' os'→Zt E' os' b dk ag (YM l key xs):=by
 obtain⟨kd,kv,hk,hv⟩:=hk;refine h.cases hk hv (fun mk kx K hq hM k h hkey hkv hkk=> ?_);obtain⟨l',h1,h2,h3⟩:=h;obtain⟨es,clk,e,e1,e2,e3,e4⟩:=he;obtain⟨w',g1,g2,g3⟩:=ZKp (P:=P) (w:=E.w) K T b l' h1 k n u (fun es' clk' h=>by
  rw[e1]at h;cases h;exact⟨e,e2,e3,by rw[e4,←hkk,hkv]⟩)
 obtain⟨g4,g5⟩:=ZKA hq k hu l' l h2 h3;rw[hkey];exact⟨w',g1,g2,fun E' os' hw ev=>hM E' os' _ ⟨_,by rw[hw];exact g3,g4,fun i a q ha hq'=>⟨(g5 i a q ha hq').1,(g5 i a q ha hq').2.mono ev⟩⟩⟩
theorem Zt.each{C:Prop}(h:Zt E os b dk ag l)(H: ∀ {κ:Type} [DecidableEq κ] (mk:κ→Value) (kx:κ→List X) (_: ∀(E:Env) os l,ZA9 mk kx E os b ag l→Zt E os b dk ag l) (_: ∀k,mk k=kkV dk (kx k)),ZA9 mk kx E os b ag l→C):C:=by
 cases dk with
 |int k=>exact H (Value.int k) (kxI k) (fun _ _ _ h=>h) (fun _=>rfl) h
 |str=>exact H Value.string kxS (fun _ _ _ h=>h) (fun a=>by simp only[kxS,kkV];rw[show ZN a.toList=a by rw[ByteArray.toList_eq];simp[ZN]]) h
 |st _ _=>exact h.elim
theorem Zt.clear(h:Zt E os b dk ag l)(hT:P.underlying T=some (.map kt elem))(ty:TypeId):
  ∃w',(Builtin.clear_ #[T] ty #[.map (some b)]).run P E.w= .ok (.tuple #[]) w'∧Only b E.w w'∧ ∀E' os',E'.w=w'→Zt E' os' b dk ag []:=by
 refine h.each (fun mk kx hM _ h=> ?_);obtain⟨l',h1,h2,h3⟩:=h;obtain⟨w',g1,g2,g3⟩:=ZQ1 (P:=P) (w:=E.w) T kt elem hT ty b l' h1;exact⟨w',g1,g2,fun E' os' hw=>hM E' os' _ ⟨[],by rw[hw];exact g3,rfl,fun i a q ha=>by simp at ha⟩⟩
theorem Zt.pairs(h:Zt E os b dk ag l): ∃es clk,E.w.heap[b]? =some (.map es clk)∧ZEz E os dk ag es.toList l∧(∀x∈es.toList,x.born<clk)∧(es.toList.map (·.born)).Nodup:=by
 refine h.each (fun mk kx _ hk h=> ?_);obtain⟨l',⟨es,clk,h1,h2,_,h4,h5⟩,h6,h7⟩:=h;refine⟨es,clk,h1,⟨?_,fun i e q he hq=> ?_⟩,h4,h5⟩
 ·have:=congrArg List.length h2;simp only[Yf]at this;omega
 ·have h8:=congrArg (fun l=>l[i]?) h2;simp only[Zw,he,YS]at h8;obtain⟨a,ha,hae⟩:=ZT h8.symm;simp only[Za]at hae;obtain⟨k1,k2⟩:=h7 i a q ha hq;exact⟨by rw[k1,←hk,hae.1],by rw[←hae.2];exact k2⟩
theorem Zt.size(h:Zt E os b dk ag l): ∃es clk,E.w.heap[b]? =some (.map es clk)∧es.size=l.length:=by
 obtain⟨es,clk,h1,h2,_⟩:=h.pairs;exact⟨es,clk,h1,by rw[←h2.1];simp⟩
theorem Zt.new(E:Env)(os:List Ob)(w:World)(hw:E.w=w.alloc (.map #[] 0))(dk:KK)(hd: ∀a b,dk≠ .st a b)(ag:Bool):Zt E os w.heap.size dk ag []:=by
 cases dk with
 |int k=>exact⟨[],by rw[hw];exact KY.new _ w,rfl,fun i a q ha=>by simp at ha⟩
 |str=>exact⟨[],by rw[hw];exact KY.new _ w,rfl,fun i a q ha=>by simp at ha⟩
 |st a b=>exact absurd rfl (hd a b)
theorem ZQv(h:Zt E os b dk ag l)(hT:P.underlying T=some (.map kt elem))(ty:TypeId):(Builtin.len_ #[T] ty #[.map (some b)]).run P E.w= .ok (.int .i64 l.length) E.w:=by
 obtain⟨es,clk,h1,h2⟩:=h.size;have hg:(getObj b).run P E.w= .ok (.map es clk) E.w:=by simp[getObj,Sem.run,h1]
 simp[Builtin.len_,run_underlying hT,Sem.run_bind,Result.andThen,hg,h2,goInt]
theorem ZQ0(hT:P.underlying T=some (.map kt elem))(ty:TypeId)(w:World):(Builtin.len_ #[T] ty #[.map none]).run P w= .ok (.int .i64 0) w:=by
 simp[Builtin.len_,run_underlying hT,Sem.run_bind,Result.andThen,goInt]
end
inductive IO where
 |t (n:Nat)
 |c (d:D)
 deriving Inhabited
inductive FK where
 |int (k:IntKind)
 |str
 |bool
inductive EqK where
 |bool|ptr|sl|map
 |st (fs:List (Nat×FK))
 deriving Inhabited
inductive IE where
 |mv (x:IO)
 |nck (x:IO)
 |pick (c a b:IO)
 |bin (op:BinOp) (x y:IO)
 |eq (k:EqK) (neg:Bool) (x y:IO)
 |un (op:UnOp) (x:IO)
 |cvi (k:IntKind) (x:IO)
 |b2s (x:IO)
 |s2b (e:Nat) (x:IO)
 |fld (off n:Nat) (ag:Bool) (x:IO)
 |fad (off:Nat) (x:IO)
 |iad (sz:Nat) (x i:IO)
 |iada (sz len:Nat) (x i:IO)
 |idx (x i:IO)
 |idxa (sz len:Nat) (ag:Bool) (x i:IO)
 |ld (n:Nat) (ag:Bool) (x:IO)
 |sto (n:Nat) (a v:IO)
 |box (x:IO)
 |build (zs:List D) (parts:List (Nat×Nat×IO))
 |bsl (e sz n:Nat) (parts:List IO)
 |mks (e sz by_:Nat) (z:List X) (l c:IO)
 |slc (sz:Nat) (x:IO) (lo hi mx:Option IO)
 |ext (x:IO) (i:Nat)
 |len (st:Bool) (x:IO)
 |app (e sz by_:Nat) (x y:IO)
 |apz (e sz by_:Nat) (z:List X) (x k:IO)
 |cpy (sz:Nat) (x y:IO)
 |mnx (mx:Bool) (x y:IO)
 |call (f:IO) (xs:List IO)
 |mkf (f:FuncId) (caps:List IO)
 |abx (t:Nat) (x:IO)
 |asl (n:Nat) (x:IO) (hi:Option IO)
 |mkm (dk:KK) (ag:Bool)
 |mlk (dk:KK) (ok:Bool) (z:D) (x k:IO)
 |mln (x:IO)
 |mup (dk:KK) (x k v:IO)
 |mdl (dk:KK) (x k:IO)
 |men (dk:KK) (z:D) (x k:IO)
 |est (x s v:IO)
 |mcl (x:IO)
 |rgm (x:IO)
 |rgs (x:IO)
 |nxt (st:Bool) (x:IO)
 |ent (x:IO)
 deriving Inhabited
def get:List (Nat×D)→Nat→D
 | [],_=> .und
 |(u,d)::φ,t=>if u=t then d else get φ t
def put:List (Nat×D)→Nat→D→List (Nat×D)
 | [],t,d=> [(t,d)]
 |(u,d')::φ,t,d=>if u=t then(t,d)::φ else(u,d')::put φ t d
def KZ(t:Nat):List Nat→Bool
 | []=>false
 |u::us=>if t=u then true else KZ t us
def keep(ks:List Nat):List (Nat×D)→List (Nat×D)
 | []=> []
 |(t,d)::φ=>if KZ t ks=true then(t,d)::keep ks φ else keep ks φ
theorem ZMk(φ:List (Nat×D))(t u:Nat)(d:D):get (put φ t d) u=if t=u then d else get φ u:=by
 induction φ with
 |nil=>simp[put,get]
 |cons p φ ih=>
  obtain⟨s,e⟩:=p;unfold put;by_cases h:s=t
  ·subst h;by_cases h2:s=u
   ·simp[get,h2]
   ·simp[get,h2]
  ·by_cases h2:s=u
   ·subst h2;simp[h,get,Ne.symm h]
   ·simp[h,get,h2,ih]
theorem ZW3(ks:List Nat)(φ:List (Nat×D))(t:Nat):get (keep ks φ) t=get φ t∨get (keep ks φ) t= .und:=by
 by_cases ht:KZ t ks=true
 ·left
  induction φ with
  |nil=>rfl
  |cons p φ ih=>
   obtain⟨s,e⟩:=p;simp only[keep];split
   ·simp only[get,ih]
   ·rename_i h;have:s≠t:=fun e=>h (e▸ht)
    simp only[get,this,if_false];exact ih
 ·right
  induction φ with
  |nil=>rfl
  |cons p φ ih=>
   obtain⟨s,e⟩:=p;simp only[keep];split
   ·rename_i h;have:s≠t:=fun e=>ht (e▸h)
    simp only[get,this,if_false];exact ih
   ·exact ih
def ZC(φ:List (Nat×D)):IO→D
 | .t n=>get φ n
 | .c d=>d
def D.val:D→D
 | .opt _ d=>d.val
 |d=>d
def D.cond:D→Bool
 | .opt b d=>b&&d.cond
 |_=>true
theorem V.strip{E:Env}{os:List Ob}{d:D}{v:Value}(h:V E os d v)(hc:d.cond=true):V E os d.val v:=by
 induction h with
 |opt h1 h2 ih=>
  rename_i b d v;simp only[D.cond,ZS]at hc;exact ih hc.1 hc.2
 |x h=>exact .x h
 |ref h h1=>exact .ref h h1
 |ptr ho h=>exact .ptr ho h
 |eptr h h1=>exact .eptr h h1
 |vptr b off val h1 h2=>exact .vptr b off val h1 h2
 |mref ho hk h=>exact .mref ho hk h
 |mnil=>exact .mnil
 |iref ho hk h=>exact .iref ho hk h
 |stk ho hk h=>exact .stk ho hk h
 |bref ho h hm=>exact .bref ho h hm
 |agg vs hl h1 hv=>exact .agg vs hl h1 hv
 |tup vs hl hv=>exact .tup vs hl hv
 |full n h=>exact .full n h
 |nz h=>exact .nz h
 |fn vs hl hv=>exact .fn vs hl hv
 |und v=>exact .und v
def D.cells? :D→Option (List D)
 | .agg ds=>some ds
 | .tup _| .opt _ _| .und=>none
 |d=>some [d]
def ZBB(op:BinOp)(k:IntKind)(a b:Int):Option Int:=
 match op with
 | .and=>some (k.wrap (BitVec.ofInt k.bits a&&&BitVec.ofInt k.bits b).toNat)
 | .or=>some (k.wrap (BitVec.ofInt k.bits a|||BitVec.ofInt k.bits b).toNat)
 | .xor=>some (k.wrap (BitVec.ofInt k.bits a^^^BitVec.ofInt k.bits b).toNat)
 | .andNot=>some (k.wrap (BitVec.ofInt k.bits a&&& ~~~BitVec.ofInt k.bits b).toNat)
 |_=>none
def ZBo(op:BinOp):D→D→Option (Bool×D)
 | .x (.int k a),.x (.int k' b)=>
  match op with
  | .shl=>some (decide (0≤b),.x (.int k (k.wrap (a*2^(min b.toNat k.bits)))))
  | .shr=>some (decide (0≤b),.x (.int k (a.fdiv (2^(min b.toNat k.bits)))))
  | .add=>some (k==k',.x (.int k (k.wrap (a+b))))
  | .sub=>some (k==k',.x (.int k (k.wrap (a-b))))
  | .mul=>some (k==k',.x (.int k (k.wrap (a*b))))
  | .quo=>some (k==k'&&b !=0,.x (.int k (k.wrap (a.tdiv b))))
  | .rem=>some (k==k'&&b !=0,.x (.int k (a.tmod b)))
  | .eql=>some (k==k',.x (.bool (a==b)))
  | .neq=>some (k==k',.x (.bool (a !=b)))
  | .lss=>some (k==k',.x (.bool (decide (a<b))))
  | .leq=>some (k==k',.x (.bool (decide (a≤b))))
  | .gtr=>some (k==k',.x (.bool (decide (a>b))))
  | .geq=>some (k==k',.x (.bool (decide (a≥b))))
  |op=>(ZBB op k a b).map fun n=>(k==k',.x (.int k n))
 | .x (.str a),.x (.str b)=>
  match op with
  | .add=>some (decide (a.length+b.length≤9223372036854775807),.x (.str (a++b)))
  | .eql=>some (true,.x (.bool (a==b)))
  | .neq=>some (true,.x (.bool (!(a==b))))
  | .lss=>some (true,.x (.bool (Op.bytesLess a b)))
  | .leq=>some (true,.x (.bool (Op.bytesLess a b||a==b)))
  | .gtr=>some (true,.x (.bool (!(Op.bytesLess a b||a==b))))
  | .geq=>some (true,.x (.bool (!(Op.bytesLess a b))))
  |_=>none
 |_,_=>none
def eqX:FK→X→X→Option Bool
 | .int k,.int a m,.int b n=>if a=k∧b=k then some (m==n)else none
 | .str,.str s,.str t=>some (s==t)
 | .bool,.bool a,.bool b=>some (a==b)
 |_,_,_=>none
def ZBA:List (Nat×FK)→List D→List D→Option Bool
 | [],_,_=>some true
 |(o,k)::l,ds,es=>match ds[o]?,es[o]? with
  |some (.x a),some (.x b)=>(eqX k a b).bind fun r=>(ZBA l ds es).map fun q=>r&&q
  |_,_=>none
def eqD(k:EqK)(x y:D):Option Bool:=
 match k,x,y with
 | .bool,.x (.bool a),.x (.bool b)=>some (a==b)
 | .ptr,.x .nilp,.x .nilp=>some true
 | .ptr,.x .nilp,.ptr _ _| .ptr,.ptr _ _,.x .nilp| .ptr,.x .nilp,.vptr _| .ptr,.vptr _,.x .nilp| .ptr,.x .nilp,.iref _ _| .ptr,.iref _ _,.x .nilp=>some false
 | .sl,.x .nils,.x .nils=>some true
 | .map,.mnil,.mnil=>some true
 | .map,.mref _,.mnil| .map,.mnil,.mref _=>some false
 | .sl,.x (.sl (_::_)),.x .nils| .sl,.x .nils,.x (.sl (_::_))=>some false
 | .st fs,.agg ds,.agg es=>ZBA fs ds es
 |_,_,_=>none
def unD(op:UnOp):D→Option D
 | .x (.bool b)=>match op with| .not=>some (.x (.bool (!b)))|_=>none
 | .x (.int k n)=>match op with
  | .neg=>some (.x (.int k (k.wrap (0-n))))
  | .xor=>(ZBB .xor k (if k.signed then-1 else k.max) n).map fun m=> .x (.int k m)
  |_=>none
 |_=>none
def ZAZ:List X→UInt8
 | .int .u8 n::_=>UInt8.ofNat n.toNat
 |_=>0
def ZEX:List X→Bool
 | [.int .u8 _]=>true
 |_=>false
def Zk(b:UInt8):List X:= [.int .u8 b.toNat]
def ZC2:List D→Option (List X)
 | []=>some []
 | .x y::l=>(ZC2 l).map fun r=>y::r
 |_=>none
def ZK2(os:List Ob)(id off len:Nat):Option (List (List X)):=match os[id]? with
 |some (.box ds)=>if off+len≤ds.length then(ZC2 ((ds.drop off).take len)).map fun xs=>xs.map fun x=> [x]else none
 |_=>none
def Zp(os:List Ob):D→Option (List (List X))
 | .x .nils=>some []
 | .x (.sl rs)=>some rs
 | .full rs=>some rs
 | .ref id ext off len=>match os[id]? with
  |some o=>match o.slice? with
   |some (_,rs)=>if rs.length=ext then some ((rs.drop off).take len)else none
   |none=>none
  |none=>none
 |_=>none
def ZBk(st:Bool):D→Option Nat
 | .x (.str s)=>if st then some s.length else none
 | .x .nils=>if st then none else some 0
 | .x (.sl rs)=>if st then none else some rs.length
 | .full rs=>if st then none else some rs.length
 | .ref _ _ _ len=>if st then none else some len
 | .bref _ _ len=>if st then none else some len
 |_=>none
def KX(os:List Ob):D→Bool
 | .ref id ext _ _=>match os[id]? with
  |some o=>match o.slice? with
   |some (_,rs)=>decide (rs.length=ext)
   |none=>match o.dsl? with
    |some (_,rs)=>decide (rs.length=ext)
    |none=>false
  |none=>false
 |_=>true
theorem ZSs{os:List Ob}{id ext off len:Nat}(h:KX os (.ref id ext off len)=true): ∃o sz,os[id]? =some o∧o.sl? =some (sz,ext):=by
 unfold KX at h;cases ho:os[id]? with
 |none=>simp[ho]at h
 |some o=>
  simp only[ho]at h;cases hs:o.slice? with
  |some p=>
   simp only[hs,Zi]at h;exact⟨o,p.1,rfl,by rw[←h];exact Ob.slice_sl hs⟩
  |none=>
   simp only[hs]at h;cases hd:o.dsl? with
   |none=>simp[hd]at h
   |some p=>
    simp only[hd,Zi]at h;exact⟨o,p.1,rfl,by rw[←h];exact Ob.dsl_sl hd⟩
def nzD(os:List Ob):D→Option Bool
 | .ref id ext off len=>some (KX os (.ref id ext off len)&&decide (0<len))
 | .x (.sl rs)=>some (decide (0<rs.length))
 | .full rs=>some (decide (0<rs.length))
 | .nz _=>some true
 |_=>none
def eqR(os:List Ob)(k:EqK)(x y:D):Option (Bool×Bool):=
 match eqD k x y with
 |some r=>some (true,r)
 |none=>match k,y with
  | .sl,.x .nils=>(nzD os x).map fun b=>(b,false)
  |_,_=>none
def Yu(os:List Ob):D→Option X
 | .x x=>some x
 | .bref id off len=>(ZK2 os id off len).map .sl
 |d=>(Zp os d).map .sl
def X.scalar:X→Bool
 | .int _ _| .bool _| .str _| .nilp| .nils=>true
 | .sl _=>false
def D.scalar:D→Bool
 | .x y=>y.scalar
 | .tup []=>true
 | .tup [.x a]=>a.scalar
 | .tup [.x a,.x b]=>a.scalar&&b.scalar
 | .tup [.x a,.x b,.x c]=>a.scalar&&b.scalar&&c.scalar
 |_=>false
def D.isX:D→Bool
 | .x _=>true
 |_=>false
def D.plain:D→Bool
 | .x _=>true
 | .agg ds=>ds.all D.isX
 | .fn _ []=>true
 |_=>false
def QG(os:List Ob):D→Option D
 | .x x=>some (.x x)
 | .agg ds=>(ds.mapM (Yu os)).map fun xs=> .agg (xs.map .x)
 | .fn f []=>some (.fn f [])
 |d=>(Yu os d).map .x
def ZH :D→Option Int
 | .x (.int _ n)=>some n
 |_=>none
def JT(φ:List (Nat×D)):List (Nat×Nat×IO)→List D→Option (Bool×List D)
 | [],acc=>some (true,acc)
 |(off,sz,x)::ps,acc=>(ZC φ x).val.cells?.bind fun cs=>if cs.length=sz∧off+sz≤acc.length then
   (JT φ ps (acc.take off++cs++acc.drop (off+sz))).map fun r=>((ZC φ x).cond&&r.1,r.2)else none
def ZHV(φ:List (Nat×D))(x:IO)(lo hi mx:Option IO):Option (Bool×D):=
 match(ZC φ x).val with
 | .x (.str s)=>match lo.map (fun l=>ZC φ l),hi.map (fun h=>ZC φ h),mx with
  |none,none,none=>some ((ZC φ x).cond,.x (.str s))
  |some l,none,none=>(ZH l.val).map fun(n:Int)=>((ZC φ x).cond&&(l.cond&&(decide (0≤n)&&decide (n≤s.length))),.x (.str (s.drop n.toNat)))
  |none,some h,none=>(ZH h.val).map fun(m:Int)=>((ZC φ x).cond&&(h.cond&&(decide (0≤m)&&decide (m≤s.length))),.x (.str (s.take m.toNat)))
  |some l,some h,none=>(ZH l.val).bind fun(n:Int)=>(ZH h.val).map fun(m:Int)=>((ZC φ x).cond&&((l.cond&&h.cond)&&(decide (0≤n)&&(decide (n≤m)&&decide (m≤s.length)))),.x (.str ((s.take m.toNat).drop n.toNat)))
  |_,_,_=>none
 |_=>none
def KQ:Option D→Option Bool
 |none=>some true
 |some d=>(ZH d.val).map fun(n:Int)=>d.cond&&decide (n=0)
def ZHq(φ:List (Nat×D))(os:List Ob)(sz:Nat)(x:IO)(lo hi mx:Option IO):Option (Bool×D):=
 match(ZC φ x).val with
 | .x .nils=>(KQ (lo.map fun l=>ZC φ l)).bind fun p=>(KQ (hi.map fun l=>ZC φ l)).bind fun q=>(KQ (mx.map fun l=>ZC φ l)).map fun r=>((ZC φ x).cond&&((mx.isNone||hi.isSome)&&(p&&(q&&r))),.x .nils)
 | .x (.sl rs)=>match lo.map (fun l=>ZC φ l),hi.map (fun h=>ZC φ h),mx.map (fun h=>ZC φ h)with
  |none,none,none=>some ((ZC φ x).cond,.x (.sl rs))
  |some l,none,none=>(ZH l.val).map fun(n:Int)=>((ZC φ x).cond&&(l.cond&&(decide (0≤n)&&(decide (n≤rs.length)&&rs.all fun r=>decide (r.length=sz)))),.x (.sl (rs.drop n.toNat)))
  |none,some h,none=>(ZH h.val).map fun(m:Int)=>((ZC φ x).cond&&(h.cond&&(decide (0≤m)&&(decide (m≤rs.length)&&rs.all fun r=>decide (r.length=sz)))),.x (.sl (rs.take m.toNat)))
  |some l,some h,none=>(ZH l.val).bind fun(n:Int)=>(ZH h.val).map fun(m:Int)=>((ZC φ x).cond&&((l.cond&&h.cond)&&(decide (0≤n)&&(decide (n≤m)&&(decide (m≤rs.length)&&rs.all fun r=>decide (r.length=sz))))),.x (.sl ((rs.take m.toNat).drop n.toNat)))
  |l,some h,some mi=>(KQ l).bind fun z=>(ZH h.val).bind fun(n:Int)=>(ZH mi.val).map fun(m:Int)=>((ZC φ x).cond&&(z&&(h.cond&&(mi.cond&&(decide (0≤n)&&(decide (n≤rs.length)&&(decide (n=m)&&rs.all fun r=>decide (r.length=sz))))))),.full (rs.take n.toNat))
  |_,_,_=>none
 | .ref id ext off len=>match os[id]? with
  |some o=>match o.slice? with
   |some (sz',rs)=>match lo.map (fun l=>ZC φ l),hi.map (fun h=>ZC φ h),mx with
    |some l,none,none=>(ZH l.val).map fun(n:Int)=>((ZC φ x).cond&&(l.cond&&(decide (sz'=sz)&&(decide (rs.length=ext)&&(decide (0≤n)&&decide (n≤len))))),.ref id ext (off+n.toNat) (len-n.toNat))
    |none,some h,none=>(ZH h.val).map fun(m:Int)=>((ZC φ x).cond&&(h.cond&&(decide (sz'=sz)&&(decide (rs.length=ext)&&(decide (0≤m)&&decide (m≤len))))),.ref id ext off m.toNat)
    |some l,some h,none=>(ZH l.val).bind fun(n:Int)=>(ZH h.val).map fun(m:Int)=>((ZC φ x).cond&&((l.cond&&h.cond)&&(decide (sz'=sz)&&(decide (rs.length=ext)&&(decide (0≤n)&&(decide (n≤m)&&decide (m≤len)))))),.ref id ext (off+n.toNat) (m.toNat-n.toNat))
    |_,_,_=>none
   |none=>none
  |none=>none
 |_=>none
def ZM(S:FuncId→List D→Option (Bool×D))(φ:List (Nat×D))(os:List Ob):IE→Option (Bool×D)
 | .mv x=>some (true,ZC φ x)
 | .nck x=>match(ZC φ x).val with
  | .ptr i o=>some ((ZC φ x).cond,.ptr i o)
  | .vptr cs=>some ((ZC φ x).cond,.vptr cs)
  | .eptr a b c d=>some ((ZC φ x).cond,.eptr a b c d)
  |_=>none
 | .pick c a b=>match(ZC φ c).val,(ZC φ a).val,(ZC φ b).val with
  | .x (.bool p),.x (.bool q),.x (.bool r)=>some ((ZC φ c).cond&&((!p||(ZC φ a).cond)&&(p||(ZC φ b).cond)),.x (.bool (bif p then q else r)))
  | .x (.bool true),.x (.bool q),_=>some ((ZC φ c).cond&&(ZC φ a).cond,.x (.bool q))
  | .x (.bool false),_,.x (.bool r)=>some ((ZC φ c).cond&&(ZC φ b).cond,.x (.bool r))
  |_,_,_=>none
 | .bin op x y=>(ZBo op (ZC φ x).val (ZC φ y).val).map fun r=>((ZC φ x).cond&&((ZC φ y).cond&&r.1),r.2)
 | .eq k neg x y=>(eqR os k (ZC φ x).val (ZC φ y).val).map fun r=>((ZC φ x).cond&&(ZC φ y).cond&&r.1,.x (.bool (r.2 !=neg)))
 | .un op x=>(unD op (ZC φ x).val).map fun r=>((ZC φ x).cond,r)
 | .cvi k x=>match(ZC φ x).val with
  | .x (.int _ n)=>some ((ZC φ x).cond,.x (.int k (k.wrap n)))
  |_=>none
 | .b2s x=>(Zp os (ZC φ x).val).map fun rs=>((ZC φ x).cond&&rs.all ZEX,.x (.str (rs.map ZAZ)))
 | .fld off n ag x=>match(ZC φ x).val with
  | .agg ds=>if ag then some ((ZC φ x).cond,.agg ((ds.drop off).take n))else(ds[off]?).map fun d=>((ZC φ x).cond,d)
  |_=>none
 | .fad off x=>match(ZC φ x).val with
  | .ptr i o=>some ((ZC φ x).cond,.ptr i (o+off))
  | .eptr i e k o=>some ((ZC φ x).cond,.eptr i e k (o+off))
  | .vptr cs=>some ((ZC φ x).cond,.vptr (cs.drop off))
  |_=>none
 | .iad sz x i=>match ZH (ZC φ i).val with
  |none=>none
  |some n=>match(ZC φ x).val with
   | .x (.sl rs)=>(rs[n.toNat]?).map fun r=>((ZC φ x).cond&&(ZC φ i).cond&&(decide (0≤n)&&decide (r.length=sz)),.vptr r)
   | .full rs=>(rs[n.toNat]?).map fun r=>((ZC φ x).cond&&(ZC φ i).cond&&(decide (0≤n)&&decide (r.length=sz)),.vptr r)
   | .ref id ext off len=>match os[id]? with
    |some o=>match o.slice? with
     |some (sz',rs)=>some ((ZC φ x).cond&&(ZC φ i).cond&&(decide (sz'=sz)&&(decide (rs.length=ext)&&(decide (0≤n)&&decide (n<len)))),.eptr id ext (off+n.toNat) 0)
     |none=>match o.dsl? with
      |some (sz',rs)=>some ((ZC φ x).cond&&(ZC φ i).cond&&(decide (sz'=sz)&&(decide (rs.length=ext)&&(decide (0≤n)&&decide (n<len)))),.eptr id ext (off+n.toNat) 0)
      |none=>none
    |none=>none
   | .bref id off len=>some ((ZC φ x).cond&&(ZC φ i).cond&&(decide (sz=1)&&(decide (0≤n)&&decide (n<len))),.ptr id (off+n.toNat))
   |_=>none
 | .iada sz len x i=>match ZH (ZC φ i).val with
  |none=>none
  |some n=>match(ZC φ x).val with
   | .ptr id o=>some ((ZC φ x).cond&&(ZC φ i).cond&&(decide (0≤n)&&decide (n<len)),.ptr id (o+n.toNat*sz))
   | .vptr cs=>some ((ZC φ x).cond&&(ZC φ i).cond&&(decide (0≤n)&&decide (n<len)),.vptr (cs.drop (n.toNat*sz)))
   | .eptr id ext j o=>some ((ZC φ x).cond&&(ZC φ i).cond&&(decide (0≤n)&&decide (n<len)),.eptr id ext j (o+n.toNat*sz))
   |_=>none
 | .idx x i=>match(ZC φ x).val,(ZC φ i).val with
  | .x (.str s),.x (.int _ n)=>some ((ZC φ x).cond&&(ZC φ i).cond&&(decide (0≤n)&&decide (n<s.length)),.x (.int .u8 (s.getD n.toNat 0).toNat))
  |_,_=>none
 | .idxa sz len ag x i=>match(ZC φ x).val,(ZC φ i).val with
  | .agg ds,.x (.int _ n)=>if ag then some ((ZC φ x).cond&&(ZC φ i).cond&&(decide (0≤n)&&decide (n<len)),.agg ((ds.drop (n.toNat*sz)).take sz))
   else(ds[n.toNat*sz]?).map fun d=>((ZC φ x).cond&&(ZC φ i).cond&&(decide (0≤n)&&decide (n<len)),d)
  |_,_=>none
 | .ld n ag x=>match(ZC φ x).val with
  | .ptr id o=>match os[id]? with
   |some (.box ds)=>if ag then some ((ZC φ x).cond&&decide (((ds.drop o).take n).length=n),.agg ((ds.drop o).take n))else(ds[o]?).map fun d=>((ZC φ x).cond,d)
   |_=>none
  | .eptr id ext i o=>match os[id]? with
   |some ob=>match ob.slice? with
    |some (_,rs)=>(rs[i]?).bind fun r=>if ag then some ((ZC φ x).cond&&(decide (rs.length=ext)&&decide (((r.drop o).take n).length=n)),.agg (((r.drop o).take n).map .x))else(r[o]?).map fun d=>((ZC φ x).cond&&decide (rs.length=ext),.x d)
    |none=>match ob.dsl? with
     |some (_,rs)=>(rs[i]?).bind fun r=>if ag then some ((ZC φ x).cond&&(decide (rs.length=ext)&&decide (((r.drop o).take n).length=n)),.agg ((r.drop o).take n))else(r[o]?).map fun d=>((ZC φ x).cond&&decide (rs.length=ext),d)
     |none=>none
   |none=>none
  | .vptr cs=>if ag then some ((ZC φ x).cond&&decide ((cs.take n).length=n),.agg ((cs.take n).map .x))else(cs[0]?).map fun d=>((ZC φ x).cond,.x d)
  |_=>none
 | .build zs parts=>(JT φ parts zs).map fun r=>(r.1,.agg r.2)
 | .slc sz x lo hi mx=>if sz=0 then ZHV φ x lo hi mx else ZHq φ os sz x lo hi mx
 | .ext x i=>match(ZC φ x).val with
  | .tup ds=>(ds[i]?).map fun d=>((ZC φ x).cond,d)
  |_=>none
 | .len st x=>(ZBk st (ZC φ x).val).map fun(n:Nat)=>((ZC φ x).cond&&KX os (ZC φ x).val,.x (.int .i64 n))
 | .mnx mx x y=>match(ZC φ x).val,(ZC φ y).val with
  | .x (.int k a),.x (.int _ b)=>some ((ZC φ x).cond&&(ZC φ y).cond,.x (.int k (if mx then(if b>a then b else a)else(if b<a then b else a))))
  |_,_=>none
 | .call f xs=>match(ZC φ f).val with
  | .fn g caps=>((xs.map (ZC φ)).mapM fun d=>QG os d.val).bind fun as=>(caps.mapM (QG os)).bind fun cs=>(S g (as++cs)).bind fun r=>
   if r.2.scalar||(((xs.map (ZC φ)).all fun d=>d.val.plain)&&caps.all D.plain)then some ((ZC φ f).cond&&((xs.map (ZC φ)).all D.cond&&r.1),r.2)else none
  |_=>none
 | .mkf f caps=>some (true,.fn f (caps.map (ZC φ)))
 | .mlk dk ok z x k=>match(ZC φ x).val with
  | .mref id=>match(os[id]?).bind Ob.map? with
   |some (dk',ag,l)=>if dk'=dk then(KM dk (ZC φ k).val).map fun key=>((ZC φ x).cond&&(ZC φ k).cond,match Yx l key with
     |some xs=>if ok=true then .tup [ZEB ag xs,.x (.bool true)]else ZEB ag xs
     |none=>if ok=true then .tup [z,.x (.bool false)]else z)else none
   |none=>none
  |_=>none
 | .mln x=>match(ZC φ x).val with
  | .mref id=>match(os[id]?).bind Ob.map? with
   |some (_,_,l)=>some ((ZC φ x).cond,.x (.int .i64 l.length))
   |none=>none
  | .mnil=>some ((ZC φ x).cond,.x (.int .i64 0))
  |_=>none
 | .ent x=>match(ZC φ x).val with
  | .iref mid it=>match os[mid]? with
   |some (.mit dk ag _ it' _ (some q))=>if it'=it then some ((ZC φ x).cond,.tup [keyD dk q.1,ZEB ag q.2])else none
   |_=>none
  |_=>none
 | .asl n x none=>match(ZC φ x).val with
  | .ptr id o=>match os[id]? with
   |some (.box ds)=>some ((ZC φ x).cond&&(decide (0<n)&&(decide (o+n≤ds.length)&&decide (n≤16777216))),.bref id o n)
   |_=>none
  |_=>none
 |_=>none
def ZAS:Value→D
 | .int k n=> .x (.int k n)
 | .bool b=> .x (.bool b)
 | .string s=> .x (.str s.data.toList)
 | .pointer none=> .x .nilp
 | .slice none 0 0=> .x .nils
 | .map none=> .mnil
 |_=> .und
def Jh:Value→D
 | .agg cs=>if cs.toList.all (·.oneCell')then .agg (cs.toList.map ZAS)else .und
 |v=>ZAS v
theorem ZVQ(s:ByteArray):ZN s.data.toList=s:=by cases s;simp[ZN]
theorem V.const1(E:Env)(os:List Ob)(v:Value):V E os (ZAS v) v:=by
 unfold ZAS;split
 ·exact .x (.int _ _)
 ·exact .x (.bool _)
 ·rename_i s;have:=VX.str (w:=E.w) (st:=E.st) s.data.toList;rw[ZVQ]at this;exact .x this
 ·exact .x .nilp
 ·exact .x .nils
 ·exact .mnil
 ·exact .und _
theorem V.const(E:Env)(os:List Ob)(v:Value):V E os (Jh v) v:=by
 unfold Jh;split
 ·rename_i cs;split
  ·rename_i h;refine .agg cs (by simp) (fun v hv=>YQ.1 h v hv) (fun j d v hd hv=> ?_);rw[Zw]at hd;rw[←Qp]at hv;rw[hv]at hd;cases hd;exact V.const1 E os v
  ·exact .und _
 ·exact V.const1 E os v
def ZP:Operand→Option IO
 | .tmp t=>some (.t t)
 | .const v=>some (.c (Jh v))
 | .func f=>some (.c (.fn f []))
 | .global _=>none
structure Fr (n:Nat) (E:Env) (os:List Ob) (φ:List (Nat×D)) (a:Act):Prop where
 size:a.tmps.size=n
 defers:a.defers= []
 slot: ∀t,V E os (get φ t) (a.tmps.getD t undef)
theorem Fr.mono{n:Nat}{E E':Env}{os os':List Ob}{φ:List (Nat×D)}{a:Act}(h:Fr n E os φ a)(e:Evo E os E' os'):Fr n E' os' φ a:=⟨h.size,h.defers,fun t=>(h.slot t).mono e⟩
theorem Fr.keep{n:Nat}{E:Env}{os:List Ob}{φ:List (Nat×D)}{a:Act}(h:Fr n E os φ a)(ks:List Nat):Fr n E os (Go.Ab.keep ks φ) a:=
 ⟨h.size,h.defers,fun t=>by rcases ZW3 ks φ t with e|e<;>rw[e];exact h.slot t;exact .und _⟩
theorem Fr.put{n:Nat}{E:Env}{os:List Ob}{φ:List (Nat×D)}{a:Act}(h:Fr n E os φ a){t:Nat}{d:D}{v:Value}(ht:t<n)(hv:V E os d v):Fr n E os (Go.Ab.put φ t d) (a.put (some t) v):=by
 refine⟨by simp[Act.put,h.size],h.defers,fun u=> ?_⟩;rw[ZMk];show V E os _ ((a.tmps.setIfInBounds t v).getD u undef);by_cases e:t=u
 ·subst e;have:(a.tmps.setIfInBounds t v).getD t undef=v:=by simp[ZCa,h.size,ht]
  rw[this];simpa using hv
 ·have:(a.tmps.setIfInBounds t v).getD u undef=a.tmps.getD u undef:=by simp[ZCa,e]
  rw[this];simpa[e]using h.slot u
theorem V.op{n:Nat}{E:Env}{os:List Ob}{φ:List (Nat×D)}{a:Act}(h:Fr n E os φ a){x:Operand}{y:IO}(hx:ZP x=some y):V E os (ZC φ y) (a.eval x):=by
 cases x with
 |tmp t=>cases hx;exact h.slot t
 |const v=>cases hx;exact V.const E os v
 |global g=>cases hx
 |func f=>cases hx;exact .fn #[] rfl (fun j d v hd=>by simp at hd)
def ZeY:TypeDesc→Bool
 | .struct _| .array _ _=>true
 |_=>false
def Jg(P:Program)(t:TypeId):Option Nat:=(P.info? t).map (·.size)
def ZEj(P:Program)(t:TypeId):Option Bool:=(P.underlying t).map ZeY
def Js:Option Operand→Option (Option IO)
 |none=>some none
 |some x=>(ZP x).map some
def ZBx(JG:Nat→Option (Nat×Nat)):List (Nat×Operand)→Option (List (Nat×Nat×IO))
 | []=>some []
 |(j,x)::l=>do
  let p←JG j
  let y←ZP x
  let r←ZBx JG l
  some ((p.1,p.2,y)::r)
def ZF6:Nat→List (Nat×Operand)→Option (List IO)
 |_,[]=>some []
 |i,(j,x)::l=>if j=i then do
   let y←ZP x
   let r←ZF6 (i+1) l
   some (y::r)
  else none
def ZJ3:Value→Option (List X)
 | .agg cs=>cs.toList.mapM fun v=>match ZAS v with| .x x=>some x|_=>none
 |v=>match ZAS v with| .x x=>some [x]|_=>none
def ZKy(P:Program)(t:TypeId):Option KK:=match P.underlying t with
 |some (.int k)=>some (.int k)
 |some .string=>some .str
 |_=>none
theorem ZC6{P:Program}{t:TypeId}{dk:KK}(h:ZKy P t=some dk):P.underlying t=some (kkD dk)∧ ∀a b,dk≠ .st a b:=by
 unfold ZKy at h;split at h
 ·rename_i k e;cases h;exact⟨e,fun a b h=>by cases h⟩
 ·rename_i e;cases h;exact⟨e,fun a b h=>by cases h⟩
 ·cases h
def ZAo(P:Program)(c:Call):Option IE:=
 match c.callee with
 | .value f=>do some (.call (←ZP f) (←c.args.toList.mapM ZP))
 | .builtin .len=>match c.args.toList,c.argTypes.toList with
  | [x],[t]=>match P.underlying t with
   |some .string=>do some (.len true (←ZP x))
   |some (.slice _)=>do some (.len false (←ZP x))
   |some (.map _ _)=>do some (.mln (←ZP x))
   |_=>none
  |_,_=>none
 | .builtin .append=>match c.args.toList,c.argTypes.toList with
  | [x,y],[t,u]=>match P.underlying t,P.underlying u with
   |some (.slice e),some (.int _)=>(P.info? e).bind fun i=>i.zero.bind fun z=>(ZJ3 z).bind fun zx=>do some (.apz e i.size i.bytes zx (←ZP x) (←ZP y))
   |some (.slice e),some (.slice _)=>(P.info? e).bind fun i=>i.zero.bind fun z=>if t=u∧z.cells.size=i.size then do some (.app e i.size i.bytes (←ZP x) (←ZP y))else none
   |_,_=>none
  |_,_=>none
 | .builtin .copy=>match c.args.toList,c.argTypes.toList with
  | [x,y],[t,_]=>match P.underlying t with
   |some (.slice e)=>do some (.cpy (←Jg P e) (←ZP x) (←ZP y))
   |_=>none
  |_,_=>none
 | .builtin .delete=>match c.args.toList,c.argTypes.toList with
  | [x,k],[t,_]=>match P.underlying t with
   |some (.map key _)=>(ZKy P key).bind fun dk=>do some (.mdl dk (←ZP x) (←ZP k))
   |_=>none
  |_,_=>none
 | .builtin .clear=>match c.args.toList,c.argTypes.toList with
  | [x],[t]=>match P.underlying t with
   |some (.map _ _)=>do some (.mcl (←ZP x))
   |_=>none
  |_,_=>none
 | .builtin .min=>match c.args.toList with| [x,y]=>do some (.mnx false (←ZP x) (←ZP y))|_=>none
 | .builtin .max=>match c.args.toList with| [x,y]=>do some (.mnx true (←ZP x) (←ZP y))|_=>none
 |_=>none
def stF(P:Program):List Field→Option (List (Nat×FK))
 | []=>some []
 |f::fs=>if f.name= "_" then none else match P.underlying f.type with
  |some (.int k)=>(stF P fs).map fun l=>(f.offset,.int k)::l
  |some .string=>(stF P fs).map fun l=>(f.offset,.str)::l
  |some .bool=>(stF P fs).map fun l=>(f.offset,.bool)::l
  |_=>none
def ZSx(P:Program)(t:TypeId):Option (List (Nat×FK)):=
 match P.underlying t with
 |some (.struct fs)=>if P.stoodInHeld t||P.eqGuardType P.depth t then none else stF P fs.toList
 |_=>none
def ZZX(P:Program)(t:Nat):Bool:=match P.underlying t with
 |some (.array _ _)=>true
 |_=>false
def JY(P:Program):Op→Option IE
 | .move x=>do some (.mv (←ZP x))
 | .assign x=>do some (.mv (←ZP x))
 | .pick c a b=>do some (.pick (←ZP c) (←ZP a) (←ZP b))
 | .box t x=>(ZP x).map fun y=>if ZZX P t=true then .abx t y else .box y
 | .alloc t=>(P.info? t).bind fun i=>i.zero.map fun z=>if ZZX P t=true then .abx t (.c (Jh z))else .box (.c (Jh z))
 | .build t parts=>match P.info? t,P.underlying t with
  |some it,some (.array _ e)=>match it.zero,P.info? e with
   |some z,some ie=>(Jh z).cells?.bind fun zs=>(ZBx (fun i=>some (i*ie.size,ie.size)) parts.toList).map fun ps=> .build zs ps
   |_,_=>none
  |some it,some (.struct fs)=>match it.zero,fs.toList.mapM (fun f=>(P.info? f.type).map fun i=>(f.offset,i.size))with
   |some z,some places=>(Jh z).cells?.bind fun zs=>(ZBx (places.toArray[·]?) parts.toList).map fun ps=> .build zs ps
   |_,_=>none
  |_,_=>none
 | .buildSlice t n parts=>match P.underlying t with
  |some (.slice e)=>(P.info? e).bind fun i=>i.zero.bind fun _=>if parts.size=n∧n*i.size≤16777216∧n≤16777216 then(ZF6 0 parts.toList).map fun ps=> .bsl e i.size n ps else none
  |_=>none
 | .load t x=>do some (.ld (←Jg P t) (←ZEj P t) (←ZP x))
 | .store t x y=>do some (.sto (←Jg P t) (←ZP x) (←ZP y))
 | .nilCheck x=>do some (.nck (←ZP x))
 | .binOp op t x y _=>match P.underlying t with
  |some (.int _)|some .string=>do some (.bin op (←ZP x) (←ZP y))
  |some .bool=>match op with
   | .eql=>do some (.eq .bool false (←ZP x) (←ZP y))
   | .neq=>do some (.eq .bool true (←ZP x) (←ZP y))
   |_=>none
  |some (.pointer _)=>match op with
   | .eql=>do some (.eq .ptr false (←ZP x) (←ZP y))
   | .neq=>do some (.eq .ptr true (←ZP x) (←ZP y))
   |_=>none
  |some (.map _ _)=>match op with
   | .eql=>do some (.eq .map false (←ZP x) (←ZP y))
   | .neq=>do some (.eq .map true (←ZP x) (←ZP y))
   |_=>none
  |some (.slice _)=>match op with
   | .eql=>do some (.eq .sl false (←ZP x) (←ZP y))
   | .neq=>do some (.eq .sl true (←ZP x) (←ZP y))
   |_=>none
  |some (.struct _)=>(ZSx P t).bind fun fs=>match op with
   | .eql=>do some (.eq (.st fs) false (←ZP x) (←ZP y))
   | .neq=>do some (.eq (.st fs) true (←ZP x) (←ZP y))
   |_=>none
  |_=>none
 | .unOp op _ x=>do some (.un op (←ZP x))
 | .convert s d x=>match P.underlying s,P.underlying d with
  |some (.int _),some (.int k)=>do some (.cvi k (←ZP x))
  |some (.slice e),some .string=>match P.underlying e with
   |some (.int .u8)=>do some (.b2s (←ZP x))
   |_=>none
  |some .string,some (.slice e)=>match P.underlying e with
   |some (.int .u8)=>do some (.s2b e (←ZP x))
   |_=>none
  |_,_=>none
 | .makeSlice t l c=>match P.underlying t with
  |some (.slice e)=>(P.info? e).bind fun i=>i.zero.bind fun z=>(ZJ3 z).bind fun zx=>do some (.mks e i.size i.bytes zx (←ZP l) (←ZP c))
  |_=>none
 | .slice t x lo hi mx=>match P.underlying t with
  |some .string=>do some (.slc 0 (←ZP x) (←Js lo) (←Js hi) (←Js mx))
  |some (.slice e)=>(Jg P e).bind fun z=>if z=0 then none else do some (.slc z (←ZP x) (←Js lo) (←Js hi) (←Js mx))
  |some (.array n e)=>(Jg P e).bind fun z=>if z=1∧n≤16777216∧lo=none∧mx=none then do some (.asl n (←ZP x) (←Js hi))else none
  |_=>none
 | .fieldAddr s x f=>match P.underlying s with
  |some (.struct fs)=>(fs[f]?).bind fun fd=>(Jg P fd.type).bind fun z=>if z=0 then none else do some (.fad fd.offset (←ZP x))
  |_=>none
 | .field t x f=>match P.underlying t with
  |some (.struct fs)=>(fs[f]?).bind fun fd=>do some (.fld fd.offset (←Jg P fd.type) (←ZEj P fd.type) (←ZP x))
  |_=>none
 | .indexAddr t x i=>match P.underlying t with
  |some (.slice e)=>do some (.iad (←Jg P e) (←ZP x) (←ZP i))
  |some (.array n e)=>do some (.iada (←Jg P e) n (←ZP x) (←ZP i))
  |_=>none
 | .index t x i=>match P.underlying t with
  |some .string=>do some (.idx (←ZP x) (←ZP i))
  |some (.array n e)=>do some (.idxa (←Jg P e) n (←ZEj P e) (←ZP x) (←ZP i))
  |_=>none
 | .extract x i=>do some (.ext (←ZP x) i)
 | .call c=>ZAo P c
 | .makeMap t r=>match r,P.underlying t with
  |none,some (.map key elem)=>(ZKy P key).bind fun dk=>(ZEj P elem).map fun ag=> .mkm dk ag
  |_,_=>none
 | .lookup t x y ok=>match P.underlying t with
  |some (.map key elem)=>(ZKy P key).bind fun dk=>(P.info? elem).bind fun i=>i.zero.bind fun z=>do some (.mlk dk ok (Jh z) (←ZP x) (←ZP y))
  |_=>none
 | .mapEntry t x y=>match P.underlying t with
  |some (.map key elem)=>(ZKy P key).bind fun dk=>(P.info? elem).bind fun i=>i.zero.bind fun z=>do some (.men dk (Jh z) (←ZP x) (←ZP y))
  |_=>none
 | .entryStore _ x y u=>do some (.est (←ZP x) (←ZP y) (←ZP u))
 | .range t x=>match P.underlying t with
  |some (.map _ _)=>do some (.rgm (←ZP x))
  |some .string=>do some (.rgs (←ZP x))
  |_=>none
 | .next x st=>do some (.nxt st (←ZP x))
 | .entry x=>do some (.ent (←ZP x))
 | .mapUpdate t x y u| .insert t x y u=>match P.underlying t with
  |some (.map key _)=>(ZKy P key).bind fun dk=>do some (.mup dk (←ZP x) (←ZP y) (←ZP u))
  |_=>none
 | .makeFunc (.func f) first caps=>if first.size=0 then do some (.mkf f (←caps.toList.mapM ZP))else none
 |_=>none
theorem V.int{E:Env}{os:List Ob}{k:IntKind}{n:Int}{v:Value}(h:V E os (.x (.int k n)) v):v= .int k n:=by cases h with|x h=>cases h;rfl
theorem V.bool{E:Env}{os:List Ob}{b:Bool}{v:Value}(h:V E os (.x (.bool b)) v):v= .bool b:=by cases h with|x h=>cases h;rfl
theorem V.str{E:Env}{os:List Ob}{s:List UInt8}{v:Value}(h:V E os (.x (.str s)) v):v= .string (ZN s):=by cases h with|x h=>cases h;rfl
theorem V.nilp{E:Env}{os:List Ob}{v:Value}(h:V E os (.x .nilp) v):v= .pointer none:=by cases h with|x h=>cases h;rfl
theorem V.nils{E:Env}{os:List Ob}{v:Value}(h:V E os (.x .nils) v):v= .slice none 0 0:=by cases h with|x h=>cases h;rfl
theorem V.ref_inv{E:Env}{os:List Ob}{id ext off len:Nat}{v:Value}(h:V E os (.ref id ext off len) v):ZE0 E os id ext off len v:=by cases h with|ref h _=>exact h
theorem V.xx{E:Env}{os:List Ob}{x:X}{v:Value}(h:V E os (.x x) v):VX E.w E.st x v:=by cases h with|x h=>exact h
theorem V.mkint(E:Env)(os:List Ob)(k:IntKind)(n:Int):V E os (.x (.int k n)) (.int k n):= .x (.int k n)
theorem V.mkbool(E:Env)(os:List Ob)(b:Bool):V E os (.x (.bool b)) (.bool b):= .x (.bool b)
theorem V.mkstr(E:Env)(os:List Ob)(s:List UInt8):V E os (.x (.str s)) (.string (ZN s)):= .x (.str s)
section
variable {P:Program} {E:Env} {os:List Ob}
theorem ZPa{op:BinOp}{k:IntKind}{a b n:Int}(h:ZBB op k a b=some n)(w:World):(Op.intBits op k a b).run P w= .ok (.int k n) w:=by
 unfold ZBB at h;split at h<;>cases h<;>rfl
theorem ZaE{op:BinOp}{x y d:D}{vx vy:Value}(hx:V E os x vx)(hy:V E os y vy)(h:ZBo op x y=some (true,d))(t:TypeId)(ox oy:Operand)(w:World):
  ∃v,(do eqGuard op t ox oy vx vy;binOp op t vx vy:Sem Value).run P w= .ok v w∧V E os d v:=by
 unfold ZBo at h;split at h
 ·rename_i k a k' b;rw[V.int hx,V.int hy];have hg:eqGuard op t ox oy (.int k a) (.int k' b)=pure ():=by unfold eqGuard;split<;>rfl
  simp only[hg,Sem.run_bind,Sem.run_pure,Result.andThen_ok];have key: ∀(b':Bool) (r:D),some (k==k'&&b',r)=some (true,d)→k=k'∧b'=true∧r=d:=fun b' r h=>by simpa[and_assoc]using h
  have key1: ∀(r:D),some (k==k',r)=some (true,d)→k=k'∧r=d:=fun r h=>by simpa using h
  have hb: ∀n,ZBB op k a b=some n→k=k'→(binOp op t (.int k a) (.int k' b)).run P w= .ok (.int k n) w:=fun n hn e=>by
   subst e;rw[←ZPa (P:=P) hn w];unfold ZBB at hn;split at hn<;>cases hn<;>simp[binOp]
  split at h
  ·simp at h;obtain⟨h1,rfl⟩:=h;refine⟨_,?_,V.mkint _ _ _ _⟩;simp[binOp,Op.shift,Int.not_lt.2 h1]
  ·simp at h;obtain⟨h1,rfl⟩:=h;refine⟨_,?_,V.mkint _ _ _ _⟩;simp[binOp,Op.shift,Int.not_lt.2 h1]
  ·obtain⟨rfl,rfl⟩:=key1 _ h;refine⟨_,?_,V.mkint _ _ _ _⟩;simp[binOp,Op.intArith]
  ·obtain⟨rfl,rfl⟩:=key1 _ h;refine⟨_,?_,V.mkint _ _ _ _⟩;simp[binOp,Op.intArith]
  ·obtain⟨rfl,rfl⟩:=key1 _ h;refine⟨_,?_,V.mkint _ _ _ _⟩;simp[binOp,Op.intArith]
  ·obtain⟨rfl,h2,rfl⟩:=key _ _ h;simp at h2;refine⟨_,?_,V.mkint _ _ _ _⟩;simp[binOp,Op.intDiv,h2]
  ·obtain⟨rfl,h2,rfl⟩:=key _ _ h;simp at h2;refine⟨_,?_,V.mkint _ _ _ _⟩;simp[binOp,Op.intDiv,h2]
  ·obtain⟨rfl,rfl⟩:=key1 _ h;refine⟨_,?_,V.mkbool _ _ _⟩;simp[binOp,Op.intCmp]
  ·obtain⟨rfl,rfl⟩:=key1 _ h;refine⟨_,?_,V.mkbool _ _ _⟩;simp[binOp,Op.intCmp]
  ·obtain⟨rfl,rfl⟩:=key1 _ h;refine⟨_,?_,V.mkbool _ _ _⟩;simp[binOp,Op.intCmp]
  ·obtain⟨rfl,rfl⟩:=key1 _ h;refine⟨_,?_,V.mkbool _ _ _⟩;simp[binOp,Op.intCmp]
  ·obtain⟨rfl,rfl⟩:=key1 _ h;refine⟨_,?_,V.mkbool _ _ _⟩;simp[binOp,Op.intCmp]
  ·obtain⟨rfl,rfl⟩:=key1 _ h;refine⟨_,?_,V.mkbool _ _ _⟩;simp[binOp,Op.intCmp]
  ·obtain⟨n,h1,h2⟩:=ZT h;obtain⟨h3,rfl⟩:=key1 _ (congrArg some h2);exact⟨_,hb n h1 h3,V.mkint _ _ _ _⟩
 ·rename_i a b;rw[V.str hx,V.str hy];have hg:eqGuard op t ox oy (.string (ZN a)) (.string (ZN b))=pure ():=by unfold eqGuard;split<;>rfl
  simp only[hg,Sem.run_bind,Sem.run_pure,Result.andThen_ok];split at h
  ·simp at h;obtain⟨h1,rfl⟩:=h;refine⟨.string (ZN (a++b)),?_,V.mkstr _ _ _⟩;have e:ZN a++ZN b=ZN (a++b):=by
    apply ByteArray.ext;simp[ZN,ByteArray.data_append]
   have h2: ¬(((ZN a).size+(ZN b).size:Nat):Int)>IntKind.i64.max:=by rw[Kf,Kf];simp[IntKind.max,IntKind.signed,IntKind.bits];omega
   simp only[binOp,Op.stringOp,if_neg h2,e,Sem.run_pure]
  ·simp at h;subst h;refine⟨_,?_,V.mkbool _ _ _⟩;simp[binOp,Op.stringOp,Jb]
  ·simp at h;subst h;refine⟨_,?_,V.mkbool _ _ _⟩;simp[binOp,Op.stringOp,Jb]
  ·simp at h;subst h;refine⟨_,?_,V.mkbool _ _ _⟩;simp[binOp,Op.stringOp,Jb]
  ·simp at h;subst h;refine⟨_,?_,V.mkbool _ _ _⟩;simp[binOp,Op.stringOp,Jb]
  ·simp at h;subst h;refine⟨_,?_,V.mkbool _ _ _⟩;simp[binOp,Op.stringOp,Jb]
  ·simp at h;subst h;refine⟨_,?_,V.mkbool _ _ _⟩;simp[binOp,Op.stringOp,Jb]
  ·cases h
 ·cases h
end
theorem Yj(b o j:Nat):(⟨b,o,none⟩:Addr).add j=⟨b,o+j,none⟩:=by unfold Addr.add;split<;>simp_all
section
variable {P:Program} {E:Env} {os:List Ob} {c:Ctx}
theorem ZCd{t:TypeId}{i:TypeInfo}(h:P.info? t=some i)(w:World):(typeInfo t).run P w= .ok i w:=by simp[typeInfo,h]
theorem Jk{t:TypeId}{s:Nat}(h:Jg P t=some s)(w:World):(sizeOf t).run P w= .ok s w:=by
 obtain⟨i,h1,rfl⟩:=ZT h;simp[sizeOf,ZCd h1]
theorem ZHO{t:TypeId}{b:Bool}(h:ZEj P t=some b)(w:World):(isAgg t).run P w= .ok b w:=by
 obtain⟨d,h1,rfl⟩:=ZT h;unfold isAgg;simp only[Sem.run_bind,run_underlying h1,Result.andThen_ok];cases d<;>rfl
theorem ZAE(R:Rel c E os){d:D}{v:Value}(hv:V E os d v){rs:List (List X)}(hr:Zp os d=some rs){sz:Nat}(hz: ∀r∈rs,r.length=sz):
  ∃(a:Option Addr) (cp:Nat) (xs:List Value),v= .slice a rs.length cp∧rs.length≤cp∧cp≤maxLen∧xs.length=rs.length*sz∧(a=none→rs.length=0)∧(∀ad,a=some ad→ ∀j u,xs[j]? =some u→E.w.cell? (ad.add j)=some u)∧
   (∀u∈xs,u.oneCell'=true)∧ ∀(i:Nat) (r:List X) (j:Nat) (x:X),rs[i]? =some r→r[j]? =some x→ ∃u,xs[i*sz+j]? =some u∧VX E.w E.st x u:=by
 have base: ∀ {rs:List (List X)} {v:Value},VX E.w E.st (.sl rs) v→(∀r∈rs,r.length=sz)→ ∃(a:Option Addr) (cp:Nat) (xs:List Value),v= .slice a rs.length cp∧rs.length≤cp∧cp≤maxLen∧xs.length=rs.length*sz∧(a=none→rs.length=0)∧(∀ad,a=some ad→ ∀j u,xs[j]? =some u→E.w.cell? (ad.add j)=some u)∧
   (∀u∈xs,u.oneCell'=true)∧ ∀(i:Nat) (r:List X) (j:Nat) (x:X),rs[i]? =some r→r[j]? =some x→ ∃u,xs[i*sz+j]? =some u∧VX E.w E.st x u:=by
  intro rs v h hz;cases h with
  |sl _ a n cp sz0 val hn hc hm hsz hcell hnil hsp hval=>
   subst hn;by_cases h0:rs.length=0
   ·exact⟨a,cp,[],rfl,hc,hm,by simp[h0],fun _=>h0,fun _ _ j u hu=>(by simp at hu),fun u hu=>(by cases hu),fun i r j x hr=>(by rw[ξQ h0]at hr;simp at hr)⟩
   have e:sz0=sz:=by
    have:rs[0]'(by omega)∈rs:=Yl _;rw[←hsz _ this,hz _ this]
   subst e;have hlt: ∀k,k<rs.length*sz0→k/sz0<rs.length∧k % sz0<sz0:=fun k hk=>by
    have hp:0<sz0:=by rcases ZNH sz0 with h|h;subst h;simp at hk;exact h
    exact⟨(ZYe hp).2 hk,Nat.mod_lt _ hp⟩
   have hval': ∀k,k<rs.length*sz0→(val (k/sz0) (k % sz0)).oneCell'=true:=fun k hk=>by
    obtain⟨h1,h2⟩:=hlt k hk;have hr:=Zu h1;have hl:(rs[k/sz0]).length=sz0:=hsz _ (Yl _);exact(hval _ _ _ _ hr (Zu (by rw[hl];exact h2))).one
   refine⟨a,cp,(List.range (rs.length*sz0)).map fun k=>val (k/sz0) (k % sz0),rfl,hc,hm,by simp,fun h=>(hnil h).1,fun ad had j u hu=> ?_,fun u hu=> ?_,fun i r j x hr hx=> ?_⟩
   ·obtain⟨hj,hu⟩:=ZR hu;simp at hj;simp at hu;obtain⟨h1,h2⟩:=hlt j hj;obtain⟨b,off,k1,_,k3⟩:=hcell (j/sz0) (j % sz0) h1 h2;rw[had]at k1;cases k1;rw[Yj,←hu,←k3];have:j/sz0*sz0+j % sz0=j:=by rw[ZIU];exact ZTj j sz0
    congr 2;omega
   ·obtain⟨k,hk,rfl⟩:=YW.1 hu;exact hval' k (ZEk.1 hk)
   ·have hi:=(ZR hr).1;have hj:j<sz0:=by rw[←hsz r (YT hr)];exact(ZR hx).1
    have hp:0<sz0:=by omega
    have hlt2:i*sz0+j<rs.length*sz0:=by
     have:(i+1)*sz0≤rs.length*sz0:=KB _ hi;rw[JL]at this;omega
    refine⟨val i j,?_,hval i j r x hr hx⟩;have e1:(i*sz0+j)/sz0=i:=by rw[ZIU,Nat.mul_add_div hp,Nat.div_eq_of_lt hj];rfl
    have e2:(i*sz0+j) % sz0=j:=by rw[ZIU,Nat.mul_add_mod,ZPZ hj]
    rw[Zw,ZPD hlt2];simp[e1,e2]
 unfold Zp at hr;split at hr
 ·cases hr;rw[V.nils hv];exact⟨none,0,[],rfl,Zl _,Je _,by simp,fun _=>rfl,fun _ h=>(by cases h),fun u hu=>(by cases hu),fun i r j x h=>(by simp at h)⟩
 ·cases hr;exact base hv.xx hz
 ·cases hr;cases hv with
  |full n h=>exact base h hz
 ·rename_i id ext off len;split at hr
  ·rename_i o ho;split at hr
   ·rename_i sz' rs' hsl;split at hr
    ·rename_i hext;cases hr;cases hv with
     |ref h _=>
      obtain⟨p,hp,hok⟩:=R.at ho;obtain⟨h1,h2⟩:=h.at ho hsl;obtain⟨h3,b,a,cap,a',cap',h4,h5,h6,h7,h8,h9,-,-⟩:=h2 hext;rw[hp]at h4;cases h4;have hlen:((rs'.drop off).take len).length=len:=by simp;omega
      rw[hlen];by_cases hl0:len=0
      ·subst hl0;exact⟨a',cap',[],h5,h6,h7,by simp,fun _=>rfl,fun _ _ j u hu=>(by simp at hu),fun u hu=>(by cases hu),fun i r j x hr=>(by simp at hr)⟩
      have hsz: ∀r∈rs',r.length=sz':=by
       cases o with
       |box ds=>cases hsl
       |rows fz e s r=>simp[Ob.slice?]at hsl;obtain⟨rfl,rfl⟩:=hsl;obtain⟨xs,q1,q2,q3⟩:=hok;exact q2
       |frz s r=>simp[Ob.slice?]at hsl;obtain⟨rfl,rfl⟩:=hsl;exact hok.2.1
       |_=>cases hsl
      have e:sz'=sz:=by
       have hm:((rs'.drop off).take len)[0]'(by omega)∈(rs'.drop off).take len:=Yl _;rw[←hz _ hm];exact(hsz _ (ZB7 (ZDO hm))).symm
      subst e;have own: ∃xs:List Value,xs.length=rs'.length*sz'∧(∀ad,a=some ad→ ∀j u,xs[j]? =some u→E.w.cell? (ad.add j)=some u)∧(∀u∈xs,u.oneCell'=true)∧
        (∀(i:Nat) (r:List X) (j:Nat) (x:X),rs'[i]? =some r→r[j]? =some x→ ∃u,xs[i*sz'+j]? =some u∧VX E.w E.st x u)∧a≠none:=by
       cases o with
       |box ds=>cases hsl
       |rows fz e s r=>
        simp[Ob.slice?]at hsl;obtain⟨rfl,rfl⟩:=hsl;obtain⟨xs,q1,q2,q3⟩:=hok;have hval: ∀(i:Nat) (r':List X) (j:Nat) (x:X),r[i]? =some r'→r'[j]? =some x→ ∃u,xs[i*s+j]? =some u∧VX E.w E.st x u:=by
         intro i r' j x hi hj;have h1:=(ZR hi).1;have h2:j<s:=by rw[←q2 r' (YT hi)];exact(ZR hj).1
         have h3:i*s+j<xs.length:=by
          rw[q1.1];have:(i+1)*s≤r.length*s:=KB _ h1;rw[JL]at this;omega
         exact⟨_,Zu h3,q3 i r' j x _ hi hj (Zu h3)⟩
        refine⟨xs,q1.1,fun ad had j u hu=> ?_,fun u hu=> ?_,hval,?_⟩
        ·rcases q1.2 with⟨hc,_⟩|⟨g,cp,cells,fr,hc,hg,k1,k2,k3,k4,k5⟩
         ·simp at hc;rw[hc.1]at had;cases had
         ·simp at hc;obtain⟨hc,_⟩:=hc;rw[hc]at had;cases had;rw[Yj,Yy];have hj:=(ZR hu).1;rw[←k4,JQ,if_pos (by rw[q1.1]at hj;exact hj)]at hu;simp[World.cell?,hg];simpa using hu
        ·obtain⟨k,hk,rfl⟩:=ZNN.1 hu;have hk':k<r.length*s:=by rw[←q1.1];exact hk
         have hp:0<s:=by rcases ZNH s with h|h;subst h;simp at hk';exact h
         have hi:k/s<r.length:=(ZYe hp).2 hk';have hj:k % s<s:=Nat.mod_lt _ hp;have hrl:(r[k/s]).length=s:=q2 _ (Yl _);obtain⟨u,h1,h2⟩:=hval (k/s) _ (k % s) _ (Zu hi) (Zu (by rw[hrl];exact hj));have:k/s*s+k % s=k:=by rw[ZIU];exact ZTj k s
         rw[this,Zu hk]at h1;cases h1;exact h2.one
        ·intro ha;rcases q1.2 with⟨hc,hn⟩|⟨g,cp,cells,fr,hc,hg,k1,k2,k3,k4,k5⟩
         ·omega
         ·simp at hc;rw[hc.1]at ha;cases ha
       |frz s r=>
        simp[Ob.slice?]at hsl;obtain⟨rfl,rfl⟩:=hsl;obtain⟨a1,cp1,xs,q1,q2,q3,q4,q5,q6,q7,q8⟩:=base hok.1 hsz;rw[hext]at q1;simp at q1;obtain⟨rfl,-⟩:=q1;exact⟨xs,q4,q6,q7,q8,fun h=>by have:=q5 h;omega⟩
       |_=>cases hsl
      obtain⟨xs,x1,x2,x3,x4,x5⟩:=own;cases a with
      |none=>exact absurd rfl x5
      |some ad=>
      have ha':=h9 (by omega) ad rfl;refine⟨a',cap',(xs.drop (off*sz')).take (len*sz'),h5,h6,h7,?_,fun h=>(by rw[ha']at h;cases h),fun ad' had' j u hu=> ?_,fun u hu=>x3 u (ZB7 (ZDO hu)),fun i r j x hr hx=> ?_⟩
      ·rw[JA,KU,x1];have:(off+len)*sz'≤rs'.length*sz':=KB _ (by omega);rw[JL]at this;omega
      ·rw[ha']at had';cases had';have hj:=(ZR hu).1;rw[JA]at hj;rw[JQ,if_pos (by omega),ξV]at hu;have hspot:ad.spot=none:=by
        have:=x2 ad rfl _ u hu;have hs:=World.cell?_spot this;unfold Addr.add at hs;by_cases hz:off*sz'+j=0
        ·simpa[hz]using hs
        ·have h00:xs[0]? =some (xs[0]'(by have:=(ZR hu).1;omega)):=Zu _;have:=World.cell?_spot (x2 ad rfl 0 _ h00);simpa[Addr.add]using this
       obtain⟨b0,o0,sp⟩:=ad;simp only at hspot;subst hspot;have:=x2 _ rfl _ u hu;rw[Yj]at this⊢;rw[←this];dsimp only;rw[ZH9]
      ·have hi:i<len:=by have:=(ZR hr).1;omega
       rw[JQ,if_pos hi,ξV]at hr;obtain⟨u,k1,k2⟩:=x4 (off+i) r j x hr hx;have hj:j<sz':=by rw[←hsz r (YT hr)];exact(ZR hx).1
       have hlt:i*sz'+j<len*sz':=by
        have:(i+1)*sz'≤len*sz':=KB _ hi;rw[JL]at this;omega
       refine⟨u,?_,k2⟩;rw[JQ,if_pos hlt,ξV,←k1];congr 1;rw[JL];omega
    ·cases hr
   ·cases hr
  ·cases hr
 ·cases hr
end
section
variable {P:Program} {E:Env} {os:List Ob} {c:Ctx}
theorem ZMg{w:World}{t n:Nat}(hs:Jg P t=some n)(ha:ZEj P t=some true)(ad:Addr)(xs:List Value)(hc: ∀j u,xs[j]? =some u→w.cell? (ad.add j)=some u)(hl:xs.length=n):
  (loadVar t ad).run P w= .ok (.agg xs.toArray) w:=by
 have h:=run_loadCells_list (P:=P) (w:=w) ad xs hc;rw[hl]at h;simp[loadVar,ZHO ha,Jk hs,h]
theorem ZL6{w:World}{t:Nat}(ha:ZEj P t=some false)(ad:Addr)(v:Value)(hc:w.cell? ad=some v):(loadVar t ad).run P w= .ok v w:=by
 simp[loadVar,ZHO ha,load,Sem.run,hc]
theorem V.agg_part{ds:List D}{vs:Array Value}(h:V E os (.agg ds) (.agg vs))(off n:Nat):V E os (.agg ((ds.drop off).take n)) (.agg (vs.extract off (off+n))):=by
 cases h with
 |agg _ hl h1 hv=>
  refine .agg _ (by simp[hl];omega) (fun v hv'=> ?_) (fun j d v hd hv'=> ?_)
  ·simp at hv';exact h1 v (ZB7 (by exact ZDO hv'))
  ·have hj:j<n:=by have:=(ZR hd).1;simp at this;omega
   rw[JQ,if_pos hj,ξV]at hd;rw[Array.getElem?_extract]at hv';split at hv'
   ·exact hv _ d v hd hv'
   ·cases hv'
theorem OK.cap{o:Ob}{p:Nat×Value}{sz:Nat}{rs:List (List X)}(h:OK E os o p)(hs:o.slice? =some (sz,rs)){a:Option Addr}{n cap:Nat}(hp:p.2= .slice a n cap):n≤cap∧cap≤maxLen∧n=rs.length∧(∀r∈rs,r.length=sz)∧(a=none→n=0∧cap=0)∧(∀ad,a=some ad→ad=⟨ad.block,0,none⟩):=by
 cases o with
 |box ds=>cases hs
 |rows fz e s r=>
  simp[Ob.slice?]at hs;obtain⟨rfl,rfl⟩:=hs;obtain⟨xs,q1,q2,q3⟩:=h;rw[hp]at q1;rcases q1.2 with⟨hc,hn⟩|⟨g,cp,cells,fr,hc,hg,k1,k2,k3,k4,k5⟩
  ·simp at hc;obtain⟨rfl,rfl,rfl⟩:=hc;exact⟨Zl _,Je _,hn.symm,q2,fun _=>⟨rfl,rfl⟩,fun ad h=>(by cases h)⟩
  ·simp at hc;obtain⟨rfl,rfl,rfl⟩:=hc;exact⟨k1,k2,rfl,q2,fun h=>(by cases h),fun ad h=>(by cases h;rfl)⟩
 |frz s r=>
  simp[Ob.slice?]at hs;obtain⟨rfl,rfl⟩:=hs;have h1:=h.1;rw[hp]at h1;cases h1 with
  |sl _ _ _ _ sz0 val hn hc hm hsz hcell hnil hsp hval=>exact⟨hc,hm,hn.symm,h.2.1,hnil,fun ad had=>h.2.2 ad _ _ (by rw[hp,had])⟩
 |_=>cases hs
theorem ZLM(R:Rel c E os){id ext i off:Nat}{v:Value}(hv:V E os (.eptr id ext i off) v){o:Ob}{sz:Nat}{rs:List (List X)}(ho:os[id]? =some o)(hs:o.slice? =some (sz,rs))(he:rs.length=ext):
  i<ext∧ ∃(g:Nat) (xs:List Value),v= .pointer (some ⟨g,i*sz+off,none⟩)∧xs.length=ext*sz∧(∀j u,xs[j]? =some u→E.w.cell? ⟨g,j,none⟩=some u)∧(∀u∈xs,u.oneCell'=true)∧(∀r∈rs,r.length=sz)∧
   ∀(i:Nat) (r:List X) (j:Nat) (x:X),rs[i]? =some r→r[j]? =some x→ ∃u,xs[i*sz+j]? =some u∧VX E.w E.st x u:=by
 cases hv with
 |eptr h _=>
  obtain⟨h1,h2⟩:=h.at ho hs;obtain⟨h3,b,g,cap,h4,h5⟩:=h2 he;obtain⟨p,hp,hok⟩:=R.at ho;rw[hp]at h4;cases h4;obtain⟨k1,k2,k3,k4,-⟩:=hok.cap hs rfl;have hr:V E os (.ref id ext 0 ext) (.slice (some ⟨g,0,none⟩) ext cap):=by
   refine .ref ⟨o,sz,rs.length,ho,Ob.slice_sl hs,?_⟩ rfl;exact⟨by omega,fun _=>⟨by omega,b,_,cap,_,cap,hp,rfl,k1,k2,fun _=>⟨rfl,rfl⟩,fun _ ad had=>(by cases had;simp),fun h=>(by cases h),fun ad had=>(by cases had;rfl)⟩⟩
  have hrow:Zp os (.ref id ext 0 ext)=some rs:=by simp[Zp,ho,hs,he];rw[←he,KW]
  obtain⟨a,cp,xs,q1,q2,q3,q4,q5,q6,q7,q8⟩:=ZAE R hr hrow k4;simp at q1;obtain⟨rfl,-,rfl⟩:=q1;refine⟨h3,g,xs,h5,by rw[q4,he],fun j u hu=> ?_,q7,k4,q8⟩;have:=q6 _ rfl j u hu;rw[Yj,Yy]at this;exact this
theorem ZcM{k m sz:Nat}(h:k<m*sz):k/sz<m∧k % sz<sz∧k/sz*sz+k % sz=k:=by
 have hp:0<sz:=by rcases sz with _|z;simp at h;omega
 refine⟨Nat.div_lt_of_lt_mul (by rw[ZIU];exact h),Nat.mod_lt _ hp,?_⟩;have:=ZTj k sz;rw[ZIU]at this;exact this
theorem ZNi{e sz:Nat}{rs:List (List D)}{p:Nat×Value}(h:OK E os (.drw e sz rs) p){g n cap:Nat}(hg:p.2= .slice (some ⟨g,0,none⟩) n cap):
  n=rs.length∧ ∃xs:List Value,xs.length=rs.length*sz∧(∀j u,xs[j]? =some u→E.w.cell? ⟨g,j,none⟩=some u)∧(∀u∈xs,u.oneCell'=true)∧(∀r∈rs,r.length=sz)∧
   ∀(i:Nat) (r:List D) (j:Nat) (d:D),rs[i]? =some r→r[j]? =some d→ ∃u,xs[i*sz+j]? =some u∧V E os d u:=by
 obtain⟨xs,h1,h2,h3⟩:=h;have lt: ∀i j,i<rs.length→j<sz→i*sz+j<rs.length*sz:=fun i j hi hj=>by
  have:(i+1)*sz≤rs.length*sz:=KB _ hi;rw[JL]at this;omega
 rcases h1.2 with⟨h4,_⟩|⟨g',cap',cells,fr,h4,h5,h6,h7,h8,h9,h10⟩
 ·rw[hg]at h4;cases h4
 ·rw[hg]at h4;cases h4;refine⟨rfl,xs,h1.1,fun j u hu=> ?_,fun u hu=> ?_,h2,fun i r j d hr hd=> ?_⟩
  ·have hj:=(ZR hu).1;rw[h1.1]at hj;rw[←h9,JQ,if_pos hj]at hu;simp[World.cell?,h5];simpa using hu
  ·obtain⟨k,hk,rfl⟩:=ZSl hu;rw[h1.1]at hk;obtain⟨d1,d2,d3⟩:=ZcM hk;have hr:rs[k/sz]? =some rs[k/sz]:=Zu d1;have hrl:(rs[k/sz]).length=sz:=h2 _ (Yl d1);exact(h3 (k/sz) _ (k % sz) _ _ hr (Zu (by omega)) (by rw[d3];exact Zu (by rw[h1.1];exact hk))).2
  ·have hi:=(ZR hr).1;have hj:j<sz:=by rw[←h2 r (YT hr)];exact(ZR hd).1
   have hx:i*sz+j<xs.length:=by rw[h1.1];exact lt i j hi hj
   exact⟨xs[i*sz+j],Zu hx,(h3 i r j d _ hr hd (Zu hx)).1⟩
theorem ZZ0{e sz:Nat}{rs:List (List D)}{p:Nat×Value}(h:OK E os (.drw e sz rs) p){a:Option Addr}{n cap:Nat}(hp:p.2= .slice a n cap):n≤cap∧cap≤maxLen∧n=rs.length∧(∀r∈rs,r.length=sz)∧(a=none→n=0∧cap=0)∧(∀ad,a=some ad→ad=⟨ad.block,0,none⟩):=by
 obtain⟨xs,q1,q2,q3⟩:=h;rw[hp]at q1;rcases q1.2 with⟨hc,hn⟩|⟨g,cp,cells,fr,hc,hg,k1,k2,k3,k4,k5⟩
 ·simp at hc;obtain⟨rfl,rfl,rfl⟩:=hc;exact⟨Zl _,Je _,hn.symm,q2,fun _=>⟨rfl,rfl⟩,fun ad h=>(by cases h)⟩
 ·simp at hc;obtain⟨rfl,rfl,rfl⟩:=hc;exact⟨k1,k2,rfl,q2,fun h=>(by cases h),fun ad h=>(by cases h;rfl)⟩
theorem ZKR(R:Rel c E os){id ext i off:Nat}{v:Value}(hv:V E os (.eptr id ext i off) v){e sz:Nat}{rs:List (List D)}(ho:os[id]? =some (.drw e sz rs))(he:rs.length=ext):
  i<ext∧ ∃(g cap:Nat) (p:Nat×Value),E.ob[id]? =some p∧p.2= .slice (some ⟨g,0,none⟩) ext cap∧v= .pointer (some ⟨g,i*sz+off,none⟩)∧OK E os (.drw e sz rs) p:=by
 cases hv with
 |eptr h _=>
  obtain⟨h1,h2⟩:=h.at' ho rfl;obtain⟨h3,b,g,cap,h4,h5⟩:=h2 he;obtain⟨p,hp,hok⟩:=R.at ho;rw[hp]at h4;cases h4;exact⟨h3,g,cap,_,hp,rfl,h5,hok⟩
theorem ZTv(R:Rel c E os){t n:Nat}{ag:Bool}(hs:Jg P t=some n)(ha:ZEj P t=some ag){S:FuncId→List D→Option (Bool×D)}{φ:List (Nat×D)}{x:IO}{vx:Value}(hx:V E os (ZC φ x) vx){d:D}(h:ZM S φ os (.ld n ag x)=some (true,d)):
  ∃v,(Instr.loadAt t vx).run P E.w= .ok v E.w∧V E os d v:=by
 have two: ∀(ad:Addr) (xs:List Value),vx= .pointer (some ad)→(∀j u,xs[j]? =some u→E.w.cell? (ad.add j)=some u)→(ag=true→xs.length=n→(Instr.loadAt t vx).run P E.w= .ok (.agg xs.toArray) E.w)∧(∀u,ag=false→xs[0]? =some u→(Instr.loadAt t vx).run P E.w= .ok u E.w):=by
  intro ad xs hv hc;subst hv;refine⟨fun h1 h2=> ?_,fun u h1 h2=> ?_⟩
  ·subst h1;simp[Instr.loadAt,Instr.sureAddr,ZMg hs ha ad xs hc h2]
  ·subst h1;have:=hc 0 u h2;simp only[Addr.add,if_true]at this;simp[Instr.loadAt,Instr.sureAddr,ZL6 ha ad u this]
 simp only[ZM]at h;split at h
 ·rename_i id o hval;split at h
  ·rename_i ds hbox;have hx':V E os (.ptr id o) vx:=by
    rw[←hval];refine hx.strip ?_;split at h
    ·simp at h;exact h.1.1
    ·obtain⟨_,_,h2⟩:=ZT h;simp at h2;exact h2.1
   cases hx' with
   |ptr hb0 hb=>
    rename_i b cu ds0;obtain⟨p,hp,hok⟩:=R.at hbox;rw[hp]at hb;cases hb;obtain⟨cs,ty,h1,h2,h3⟩:=hok;obtain⟨k1,k2⟩:=two _ ((cs.toList.drop o).take n) rfl (fun j u hu=>by
     rw[Yj];have hj:=(ZR hu).1;simp at hj;rw[JQ,if_pos (by omega),ξV]at hu;simp[World.cell?,h1];simpa using hu)
    split at h
    ·rename_i hag;simp at h;obtain⟨⟨_,h4⟩,rfl⟩:=h;refine⟨_,k1 hag (by simp[h2];omega),.agg _ (by simp[h2]) (fun v hv=> ?_) (fun j d v hd hv=> ?_)⟩
     ·have hv:=ZB7 (ZDO hv);obtain⟨j,hj,rfl⟩:=ZNN.1 hv;simp at hj;exact(h3 j (ds[j]'(by omega)) _ (Zu _) (by simp[hj])).2
     ·have hj:j<n:=by have:=(ZR hd).1;simp at this;omega
      rw[JQ,if_pos hj,ξV]at hd;simp[hj]at hv;exact(h3 _ d v hd hv).1
    ·rename_i hag;obtain⟨d',hd',h4⟩:=ZT h;simp at h4;obtain⟨_,rfl⟩:=h4;have ho:=(ZR hd').1;have hcs:cs[o]? =some cs[o]:=ξK (by omega);by_cases hn:n=0
     ·refine⟨cs[o],?_,(h3 o d' _ hd' hcs).1⟩;obtain⟨_,k2'⟩:=two _ [cs[o]] rfl (fun j u hu=>by
       have hj:=(ZR hu).1;simp at hj;subst hj;simp at hu;subst hu;rw[Yj];simp[World.cell?,h1,hcs])
      exact k2' _ (by simpa using hag) (by simp)
     ·refine⟨cs[o],k2 _ (by simpa using hag) ?_,(h3 o d' _ hd' hcs).1⟩;rw[JQ,if_pos (by omega),ξV];simp[hcs]
  ·cases h
 ·rename_i id ext i off hval;split at h
  ·rename_i ob hob;split at h
   ·rename_i sz rs hsl;obtain⟨r,hr,h⟩:=Zv h;have hc:(ZC φ x).cond=true∧rs.length=ext:=by
     split at h
     ·simp at h;exact⟨h.1.1,h.1.2.1⟩
     ·obtain⟨_,_,h2⟩:=ZT h;simp at h2;exact h2.1
    have hx':V E os (.eptr id ext i off) vx:=by rw[←hval];exact hx.strip hc.1
    obtain⟨hi,g,xs,q1,q2,q3,q4,q5,q6⟩:=ZLM R hx' hob hsl hc.2;have hrl:=q5 r (YT hr);obtain⟨k1,k2⟩:=two _ ((xs.drop (i*sz+off)).take n) q1 (fun j u hu=>by
     rw[Yj];have hj:=(ZR hu).1;simp at hj;rw[JQ,if_pos (by omega),ξV]at hu;exact q3 _ u hu)
    have hlt: ∀j,j<sz→i*sz+j<xs.length:=fun j hj=>by
     rw[q2];have:(i+1)*sz≤ext*sz:=KB _ hi;rw[JL]at this;omega
    split at h
    ·rename_i hag;simp at h;obtain⟨⟨_,_,h4⟩,rfl⟩:=h;rw[hrl]at h4;have hle:n=0∨off+n≤sz:=by omega
     have hxl:((xs.drop (i*sz+off)).take n).length=n:=by
      simp;rcases hle with h0|h0
      ·omega
      ·have:=hlt (sz-1);omega
     refine⟨_,k1 hag hxl,.agg _ (by simp[hrl];simp at hxl;omega) (fun v hv=> ?_) (fun j d v hd hv=> ?_)⟩
     ·exact q4 v (ZB7 (ZDO hv))
     ·have hj:j<n:=by have:=(ZR hd).1;simp at this;omega
      rw[JQ,if_pos hj,ξV,Zw]at hd;obtain⟨y,hy,rfl⟩:=ZT hd;obtain⟨u,hu1,hu2⟩:=q6 i r _ y hr hy;simp[hj]at hv;rw[ZH9,hu1]at hv;cases hv;exact .x hu2
    ·rename_i hag;obtain⟨d',hd',h4⟩:=ZT h;simp at h4;obtain⟨_,rfl⟩:=h4;obtain⟨u,hu1,hu2⟩:=q6 i r off d' hr hd';obtain⟨_,k2'⟩:=two _ [u] q1 (fun j u' hu=>by
      have hj:=(ZR hu).1;simp at hj;subst hj;simp at hu;subst hu;rw[Yj];exact q3 _ _ hu1)
     exact⟨u,k2' _ (by simpa using hag) (by simp),.x hu2⟩
   ·split at h
    ·rename_i sz rs hsl;obtain⟨e,rfl⟩:=Ob.dsl_drw hsl;obtain⟨r,hr,h⟩:=Zv h;have hc:(ZC φ x).cond=true∧rs.length=ext:=by
      split at h
      ·simp at h;exact⟨h.1.1,h.1.2.1⟩
      ·obtain⟨_,_,h2⟩:=ZT h;simp at h2;exact h2.1
     have hx':V E os (.eptr id ext i off) vx:=by rw[←hval];exact hx.strip hc.1
     obtain⟨hi,g,cap,p,hp,hg,q1,hok⟩:=ZKR R hx' hob hc.2;obtain⟨hn,xs,q2,q3,q4,q5,q6⟩:=ZNi hok hg;have hrl:=q5 r (YT hr);obtain⟨k1,k2⟩:=two _ ((xs.drop (i*sz+off)).take n) q1 (fun j u hu=>by
      rw[Yj];have hj:=(ZR hu).1;simp at hj;rw[JQ,if_pos (by omega),ξV]at hu;exact q3 _ u hu)
     have hlt: ∀j,j<sz→i*sz+j<xs.length:=fun j hj=>by
      rw[q2];have:(i+1)*sz≤rs.length*sz:=KB _ (by omega);rw[JL]at this;omega
     split at h
     ·rename_i hag;simp at h;obtain⟨⟨_,_,h4⟩,rfl⟩:=h;rw[hrl]at h4;have hle:n=0∨off+n≤sz:=by omega
      have hxl:((xs.drop (i*sz+off)).take n).length=n:=by
       simp;rcases hle with h0|h0
       ·omega
       ·have:=hlt (sz-1);omega
      refine⟨_,k1 hag hxl,.agg _ (by simp[hrl];simp at hxl;omega) (fun v hv=> ?_) (fun j d v hd hv=> ?_)⟩
      ·exact q4 v (ZB7 (ZDO hv))
      ·have hj:j<n:=by have:=(ZR hd).1;simp at this;omega
       rw[JQ,if_pos hj,ξV]at hd;obtain⟨u,hu1,hu2⟩:=q6 i r _ d hr hd;simp[hj]at hv;rw[ZH9,hu1]at hv;cases hv;exact hu2
     ·rename_i hag;obtain⟨d',hd',h4⟩:=ZT h;simp at h4;obtain⟨_,rfl⟩:=h4;obtain⟨u,hu1,hu2⟩:=q6 i r off d' hr hd';obtain⟨_,k2'⟩:=two _ [u] q1 (fun j u' hu=>by
       have hj:=(ZR hu).1;simp at hj;subst hj;simp at hu;subst hu;rw[Yj];exact q3 _ _ hu1)
      exact⟨u,k2' _ (by simpa using hag) (by simp),hu2⟩
    ·cases h
  ·cases h
 ·rename_i cs hval;have hx':V E os (.vptr cs) vx:=by
   rw[←hval];refine hx.strip ?_;split at h
   ·simp at h;exact h.1.1
   ·obtain⟨_,_,h2⟩:=ZT h;simp at h2;exact h2.1
  cases hx' with
  |vptr b off val hc hv=>
   have hcell: ∀(m:Nat) (j:Nat) (u:Value),((List.range m).map val)[j]? =some u→m≤cs.length→E.w.cell? ((⟨b,off,none⟩:Addr).add j)=some u:=fun m j u hu hm=>by
    have hj:=(ZR hu).1;simp at hj;rw[Zw,ZPD hj]at hu;simp at hu;subst hu;rw[Yj];exact(hc j cs[j] (Zu (by omega))).2
   split at h
   ·rename_i hag;simp at h;obtain⟨⟨_,h4⟩,rfl⟩:=h;refine⟨_,(two _ ((List.range n).map val) rfl (fun j u hu=>hcell n j u hu (by omega))).1 hag (by simp),.agg _ (by simp;omega) (fun v hv'=> ?_) (fun j d v hd hv'=> ?_)⟩
    ·obtain⟨j,hj,rfl⟩:=YW.1 hv';have hj:=ZEk.1 hj;exact(hv j cs[j] (Zu (by omega))).one
    ·have hj:j<n:=by have:=(ZR hd).1;simp at this;omega
     rw[JQ,if_pos hj,Zw]at hd;obtain⟨y,hy,rfl⟩:=ZT hd;simp[hj]at hv';subst hv';exact .x (hv j y hy)
   ·rename_i hag;obtain⟨d',hd',h4⟩:=ZT h;simp at h4;obtain⟨_,rfl⟩:=h4;have hl:=(ZR hd').1;exact⟨val 0,(two _ ((List.range 1).map val) rfl (fun j u hu=>hcell 1 j u hu (by omega))).2 _ (by simpa using hag) (by simp[List.range_succ]),.x (hv 0 d' hd')⟩
 ·cases h
end
end Go.Ab
end
