import Derived.WalkKit
import Derived.WalkSpells
import Derived.WalkLawsBesides
import Derived.Lib.Hide
import Derived.Deep.QuietTactic
import Derived.BigQuiet
import Derived.StillTail
import Derived.MapKept
import Derived.Maps.RangeRun
import Derived.ChangeArms
import Derived.OpenShut
import Derived.Laws.StructEq
set_option linter.unusedSimpArgs false
set_option linter.unusedVariables false
set_option maxRecDepth 100000
theorem Wl{p:Prop}(h:p:=by omega):p:=h
theorem W3{p:Prop}(h:p:=by simp;omega):p:=h
theorem W6{p:Prop}(h:p:=by cases h):p:=h
theorem WG{p:Prop}(h:p:=by simp at h):p:=h
theorem WJ{p:Prop}(h:p:=by simpa using h):p:=h
theorem WV{p:Prop}(h:p:=by unfold eqGuard;split<;>rfl):p:=h
theorem Ve{p:Prop}(h:p:=by obtain⟨rfl,rfl⟩:=key1 _ h;refine⟨_,?_,V.mkbool _ _ _⟩;simp[binOp,Op.intCmp]):p:=h
theorem Vp{p:Prop}(h:p:=by simp at h;subst h;refine⟨_,?_,V.mkbool _ _ _⟩;simp[binOp,Op.stringOp,Js]):p:=h
theorem V0{p:Prop}(h:p:=by exact⟨w',g1,g2,λE' os' hw ev=>hM E' os' _ ⟨_,by rw[hw];exact g3,g4,λi a q ha hq'=>⟨(g5 i a q ha hq').1,(g5 i a q ha hq').2.mono ev⟩⟩⟩):p:=h
theorem V4{p:Prop}(h:p:=by simpa using this):p:=h
theorem VE{p:Prop}(h:p:=by rw[JL]at this;omega):p:=h
theorem U2{p:Prop}(h:p:=by obtain⟨rfl,rfl⟩:=key1 _ h;refine⟨_,?_,V.mkint _ _ _ _⟩;simp[binOp,Op.intArith]):p:=h
theorem UF{p:Prop}(h:p:=by have:=(ZV hd).1;simp at this;omega):p:=h
theorem UG{p:Prop}(h:p:=by exact .vptr b off val (λj x hj=>⟨(e.st _ _ (hc j x hj).1).1,by rw[(e.st _ _ (hc j x hj).1).2];exact(hc j x hj).2⟩) (λj x hj=>(hv j x hj).mono e.st)):p:=h
theorem UX{p:Prop}(h:p:=by simpa using hq):p:=h
theorem UY{p:Prop}(h:p:=by simpa using h4):p:=h
theorem Th{p:Prop}(h:p:=by cases h with|x h=>cases h;rfl):p:=h
theorem Ti{p:Prop}(h:p:=by simp[getObj,Sem.run,hr]):p:=h
theorem Tp{p:Prop}(h:p:=by simp[Builtin.delete_,run_underlying hT,hg,Sem.run_bind,Result.andThen,K.check P w _ key k hk,Instr.findKey,run_underlying hk,h1,hs]):p:=h
theorem T9{p:Prop}(h:p:=by obtain⟨_,_,h2⟩:=Za h;simp at h2;exact h2.1):p:=h
theorem TC{p:Prop}(h:p:=by simp):p:=h
theorem Ga{p:Prop}(h:p:=by simp[setObj,Sem.run,hr]):p:=h
theorem Gi{p:Prop}(h:p:=by cases h;rfl):p:=h
theorem Gt{p:Prop}(h:p:=by obtain⟨rfl,h2,rfl⟩:=key _ _ h;simp at h2;refine⟨_,?_,V.mkint _ _ _ _⟩;simp[binOp,Op.intDiv,h2]):p:=h
theorem Gu{p:Prop}(h:p:=by simpa using k1):p:=h
theorem Gx{p:Prop}(h:p:=by simpa using ha):p:=h
theorem G3{p:Prop}(h:p:=by simp at h;obtain⟨h1,rfl⟩:=h;refine⟨_,?_,V.mkint _ _ _ _⟩;simp[binOp,Op.shift,Int.not_lt.2 h1]):p:=h
theorem G5{p:Prop}(h:p:=by simp at hc;obtain⟨rfl,rfl,rfl⟩:=hc;exact⟨Zp _,KG _,hn.symm,q2,λ_=>⟨rfl,rfl⟩,λad h=>W6⟩):p:=h
theorem GJ{p:Prop}(h:p:=by simp[R.len]):p:=h
theorem Nj{p:Prop}(h:p:=by simp[ZF,e]):p:=h
theorem Nt{p:Prop}(h:p:=by obtain⟨o',sz',rs',h1,h2,h3⟩:=h;rw[ho]at h1;cases h1;rw[hs]at h2;cases h2;exact h3):p:=h
theorem N8{p:Prop}(h:p:=by exact .inr J0):p:=h
theorem NC{p:Prop}(h:p:=by have:(i+1)*sz<=rs.length*sz:=Ku _ hi;exact VE):p:=h
theorem NG{p:Prop}(h:p:=by have:(i+1)*sz<=rs.length*sz:=Ku _ J0;exact VE):p:=h
theorem NW{p:Prop}(h:p:=by simpa using hag):p:=h
section
namespace Go
universe u v w
theorem J0{p:Prop}(h:p:=by omega):p:=h
theorem J1{p:Prop}(h:p:=by simp):p:=h
theorem J2{p:Prop}(h:p:=by rfl):p:=h
theorem J3{p:Prop}(h:p:=by kernel_rfl):p:=h
theorem Zz{p0 p1:Prop}(h0:p0)(h1:p1):p0/\p1:=⟨h0,h1⟩
theorem JJ{p0 p1 p2:Prop}(h0:p0)(h1:p1)(h2:p2):p0/\p1/\p2:=⟨h0,h1,h2⟩
theorem Qt{p0 p1 p2 p3:Prop}(h0:p0)(h1:p1)(h2:p2)(h3:p3):p0/\p1/\p2/\p3:=⟨h0,h1,h2,h3⟩
theorem ξ5{p0 p1 p2 p3 p4:Prop}(h0:p0)(h1:p1)(h2:p2)(h3:p3)(h4:p4):p0/\p1/\p2/\p3/\p4:=⟨h0,h1,h2,h3,h4⟩
theorem ξ6{p0 p1 p2 p3 p4 p5:Prop}(h0:p0)(h1:p1)(h2:p2)(h3:p3)(h4:p4)(h5:p5):p0/\p1/\p2/\p3/\p4/\p5:=⟨h0,h1,h2,h3,h4,h5⟩
theorem ξ7{p0 p1 p2 p3 p4 p5 p6:Prop}(h0:p0)(h1:p1)(h2:p2)(h3:p3)(h4:p4)(h5:p5)(h6:p6):p0/\p1/\p2/\p3/\p4/\p5/\p6:=⟨h0,h1,h2,h3,h4,h5,h6⟩
theorem ξ8{p0 p1 p2 p3 p4 p5 p6 p7:Prop}(h0:p0)(h1:p1)(h2:p2)(h3:p3)(h4:p4)(h5:p5)(h6:p6)(h7:p7):p0/\p1/\p2/\p3/\p4/\p5/\p6/\p7:=⟨h0,h1,h2,h3,h4,h5,h6,h7⟩
theorem ξ9{p0 p1 p2 p3 p4 p5 p6 p7 p8:Prop}(h0:p0)(h1:p1)(h2:p2)(h3:p3)(h4:p4)(h5:p5)(h6:p6)(h7:p7)(h8:p8):p0/\p1/\p2/\p3/\p4/\p5/\p6/\p7/\p8:=⟨h0,h1,h2,h3,h4,h5,h6,h7,h8⟩
abbrev JU:=@List.take_succ_eq_append_getElem
abbrev YG:=@List.getElem_mem
abbrev Yz:=@List.mem_of_getElem?
abbrev Yg:=@List.all_eq_true
abbrev Yw:=@List.append_assoc
abbrev YZ:=@List.length_map
abbrev Zp:=@Nat.le_refl
abbrev Ys:=@List.length_take
abbrev QL:=@List.getElem?_append_right
abbrev YM:=@List.map_cons
abbrev JV:=@Bool.false_eq_true
abbrev Yr:=@Option.map_some
abbrev KE:=@Option.bind_eq_bind
abbrev JX:=@List.take_length
abbrev YR:=@List.mem_map
abbrev QM:=@List.length_singleton
abbrev Ku:=@Nat.mul_le_mul_right
abbrev KQ:=@List.getElem?_take
abbrev Jd:=@List.map_append
abbrev KO:=@List.length_drop
abbrev ξJ:=@Array.getElem?_eq_getElem
abbrev Qw:=@Array.length_toList
abbrev KV:=@List.mem_append
abbrev ξO:=@Array.getElem?_toList
abbrev Ks:=@List.append_nil
abbrev Je:=@Nat.zero_add
abbrev ξS:=@List.eq_nil_of_length_eq_zero
abbrev ξU:=@List.drop_eq_getElem_cons
abbrev Qu:=@Option.getD_some
abbrev ξW:=@List.mem_cons_of_mem
abbrev ξX:=@List.cons_append
abbrev ξY:=@List.getElem?_eq_none
abbrev Kn:=@List.mem_cons
abbrev JP:=@Nat.add_zero
abbrev Qf:=@List.mem_singleton
abbrev Qa:=@List.getElem?_drop
abbrev Qy:=@List.take_succ_cons
abbrev ZBB:=@List.drop_of_length_le
abbrev ZAX:=@List.getElem?_set_ne
abbrev ZBn:=@List.getElem?_cons_succ
abbrev JL:=@Nat.add_mul
abbrev ZBx:=@List.take_append_drop
abbrev ZD0:=@Array.getD_eq_getD_getElem?
abbrev ZBU:=@List.mem_of_mem_take
abbrev QW:=@List.nil_append
abbrev ZAw:=@List.mem_cons_self
abbrev ZDx:=@List.getD_eq_getElem?_getD
abbrev Qg:=@Bool.eq_iff_iff
abbrev Jz:=@List.map_map
abbrev ZC2:=@List.getElem?_cons_zero
abbrev ZC4:=@Int.eq_ofNat_of_zero_le
abbrev ZB8:=@List.mem_of_mem_drop
abbrev ZAC:=@Option.map_none
abbrev ZBu:=@List.map_congr_left
abbrev KG:=@Nat.zero_le
abbrev ZDS:=@List.set_append_right
abbrev ZBA:=@Option.bind_some
abbrev ZCJ:=@List.set_cons_succ
abbrev ZE8:=@List.pairwise_iff_getElem
abbrev Qh:=@Bool.and_true
abbrev ZBj:=@List.ext_getElem?
abbrev ZAQ:=@List.mapM_cons
abbrev ZEK:=@List.getElem?_set_self
abbrev ZBD:=@Option.pure_def
abbrev ZBE:=@List.nodup_cons
abbrev ZAL:=@List.all_cons
abbrev ZEi:=@List.mem_iff_getElem?
abbrev ZCe:=@List.getElem?_set
abbrev ZBW:=@Bool.or_eq_true
abbrev ZDX:=@List.set_cons_zero
abbrev ZA0:=@Bool.true_and
abbrev ZDU:=@List.size_toArray
abbrev ZEb:=@List.drop_succ_cons
abbrev Qo:=@Nat.mul_one
abbrev ZHo:=@Classical.byContradiction
abbrev ZCf:=@Option.some.inj
abbrev ZAf:=@List.map_nil
abbrev ZB6:=@List.take_zero
abbrev ZCa:=@List.drop_zero
abbrev ZDs:=@Array.toList_inj
abbrev ZEx:=@List.nodup_append
abbrev ZFv:=@List.pairwise_cons
abbrev ZLx:=@List.take_append_of_le_length
abbrev ZEP:=@List.cons.injEq
abbrev ZDo:=@UInt8.toNat_lt
abbrev ZGo:=@Bool.not_eq_true'
abbrev ZD3:=@Bool.or_false
abbrev ZGv:=@Option.bind_none
abbrev ZE4:=@List.mem_range
abbrev ZGu:=@List.filter_cons
abbrev ZFA:=@Bool.false_and
abbrev ZE0:=@Bool.and_false
abbrev ZJ9:=@List.length_replicate
abbrev ZHi:=@Int.toNat_natCast
abbrev ZHq:=@Decidable.not_not
abbrev ZMq:=@Nat.add_sub_cancel_left
abbrev ZKm:=@List.mem_iff_getElem
abbrev ZEq:=@Nat.add_assoc
abbrev ZH3:=@List.mem_flatMap
abbrev ZEv:=@Bool.false_or
abbrev ZJs:=@List.length_pos_iff
abbrev ZJu:=@List.getD_cons_zero
abbrev ZEQ:=@Nat.le_trans
abbrev ZET:=@Nat.beq_refl
abbrev ZEL:=@Bool.or_true
abbrev ZL5:=@Nat.eq_of_beq_eq_true
abbrev ZLy:=@List.set_append_left
abbrev ZFG:=@List.all_nil
abbrev ZMQ:=@List.getElem?_range
abbrev ZJN:=@List.length_set
abbrev ZJD:=@List.foldl_cons
abbrev ZF1:=@List.all_map
abbrev ZJF:=@List.all_append
abbrev ZFu:=@Bool.true_or
abbrev ZOf:=@List.singleton_append
abbrev ZO9:=@Array.getElem?_modify
abbrev ZL3:=@List.map_singleton
abbrev ZOZ:=@List.pairwise_append
abbrev ZJC:=@List.Perm.refl
abbrev ZME:=@List.reverse_cons
abbrev ZL4:=@List.foldl_append
abbrev ZCE:=@Prod.ext
abbrev ZMH:=@Option.getD_none
abbrev ZH2:=@Nat.sub_self
abbrev ZMj:=@Bool.not_eq_true
abbrev ZWV:=@Array.getElem?_setIfInBounds
abbrev ZPT:=@Nat.lt_of_lt_of_le
abbrev ZOc:=@Nat.eq_zero_or_pos
abbrev ZKc:=@Bool.and_assoc
abbrev ZMh:=@UInt8.toNat_inj
abbrev ZOn:=@List.flatMap_cons
abbrev ZJA:=@Nat.mul_comm
abbrev ZTx:=@Bool.or_eq_false_iff
abbrev ZXZ:=@List.mem_or_eq_of_mem_set
abbrev ZMB:=@Nat.mul_le_mul
abbrev ZTs:=@List.getD_cons_succ
abbrev ZMg:=@List.drop_drop
abbrev ZMU:=@Bool.not_false
abbrev ZWe:=@List.length_eq_zero_iff
abbrev ZVy:=@List.countP_cons_of_pos
abbrev ZKu:=@Nat.zero_mul
abbrev ZPS:=@Nat.min_eq_left
abbrev ZRf:=@List.flatten_cons
abbrev Zal:=@List.eq_nil_iff_forall_not_mem
abbrev ZWO:=@List.length_filter_le
abbrev ZVz:=@Classical.choose_spec
abbrev ZWI:=@Bool.cond_false_right
abbrev ZWC:=@Bool.and_eq_false_iff
abbrev Zb0:=@List.drop_append_of_le_length
abbrev ZRK:=@List.reverse_nil
abbrev ZMT:=@List.map_set
abbrev ZWt:=@List.length_eraseIdx
abbrev ZTH:=@Array.toList_map
abbrev ZOs:=@List.mapM_nil
abbrev ZWQ:=@List.getElem_of_mem
abbrev ZWw:=@List.dropWhile_cons
abbrev ZOU:=@Bool.not_true
abbrev ZWb:=@Bool.cond_true_left
abbrev ZOb:=@Bool.and_self
abbrev ZWG:=@Array.toList_modify
abbrev ZcP:=@Array.getElem?_append_left
abbrev ZMX:=@Nat.one_mul
abbrev ZW0:=@List.mem_replicate
abbrev ZXY:=@List.count_pos_iff
abbrev Za3:=@Option.isSome_iff_exists
abbrev ZOk:=@Nat.add_comm
abbrev ZTF:=@List.nodup_nil
abbrev Za2:=@List.eraseIdx_cons_succ
abbrev Zbc:=@List.countP_cons_of_neg
abbrev Zbk:=@Option.map_eq_some_iff
abbrev ZLr:=@Nat.blt_eq
abbrev ZXB:=@List.nodup_range
abbrev ZO7:=@List.map_id
abbrev Zc7:=@Nat.div_lt_iff_lt_mul
abbrev ZW8:=@Nat.div_add_mod
abbrev ZWh:=@List.mem_filter
abbrev ZWZ:=@Int.natCast_pos
abbrev Za1:=@List.getElem?_modify
abbrev Zb4:=@List.count_le_length
abbrev Zas:=@List.map_eq_nil_iff
abbrev ZcE:=@List.length_reverse
abbrev ZcJ:=@List.flatMap_append
abbrev Zct:=@List.filter_eq_self
abbrev ZaZ:=@Array.toList_filter
abbrev Zbb:=@Array.getElem?_map
abbrev ZWU:=@Nat.lt_irrefl
abbrev ZW1:=@List.map_take
abbrev ZaW:=@Nat.lt_trichotomy
abbrev Zaz:=@List.pairwise_map
abbrev Zck:=@List.filter_congr
abbrev Zb8:=@Array.size_append
abbrev Zg1:=@Array.eq_empty_of_size_eq_zero
theorem Zf{α:Type u}{β:Type v}{b:β}{x:Option α}{f:α->Option β}(h:x.bind f=some b): ∃a,x=some a/\f a=some b:=Option.bind_eq_some_iff.1 h
theorem Za{α:Type u}{β:Type v}{b:β}{x:Option α}{f:α->β}(h:x.map f=some b): ∃a,x=some a/\f a=b:=Zbk.1 h
theorem ZV{α:Type u}{l:List α}{i:Nat}{a:α}(h:l[i]? =some a): ∃h,l[i]=a:=List.getElem?_eq_some_iff.1 h
theorem ξH{α:Type u}{l:Array α}{i:Nat}{a:α}(h:l[i]? =some a): ∃h,l[i]=a:=Array.getElem?_eq_some_iff.1 h
theorem YF{α:Type u}{β:Type v}{b:β}{x:Option α}{f:α->Option β}:x.bind f=some b↔ ∃a,x=some a/\f a=some b:=Option.bind_eq_some_iff
theorem Kj{α:Type u}{β:Type v}{b:β}{x:Option α}{f:α->β}:x.map f=some b↔ ∃a,x=some a/\f a=b:=Zbk
theorem Ym{p:Prop}[Decidable p]:(decide p=true)=p:=decide_eq_true_eq
theorem ZI{p:Prop}[Decidable p](h:p):decide p=true:=decide_eq_true h
theorem ZW{α:Type u}{as bs:List α}:(as++bs).length=as.length+bs.length:=List.length_append
theorem JB{α:Type u}{a:α}{as:List α}:(a::as).length=as.length+1:=List.length_cons
theorem ξN{α:Type u}:([]:List α).length=0:=List.length_nil
theorem Zk(a b:Bool):((a&&b)=true)=(a=true/\b=true):=Bool.and_eq_true a b
theorem ξn{a b:Prop}(h:a)(k:b):a/\b:=⟨h,k⟩
theorem Yj{α:Type u}(a b:α):(some a=some b)=(a=b):=Option.some.injEq a b
theorem YN{α:Type u}{β:Type v}(a:α)(b:β)(c:α)(d:β):((a,b)=(c,d))=(a=c/\b=d):=Prod.mk.injEq a b c d
theorem Zx{α:Type u}{l:List α}{i:Nat}(h:i<l.length):l[i]? =some l[i]:=List.getElem?_eq_getElem h
theorem YO{α:Type u}{i:Nat}{l:List α}(h:l.length<=i):l.take i=l:=List.take_of_length_le h
theorem Yc{α:Type u}{l₁ l₂:List α}{i:Nat}(h:i<l₁.length):(l₁++l₂)[i]? =l₁[i]? :=List.getElem?_append_left h
theorem YE{α:Type u}{β:Type v}{f:α->β}{l:List α}{i:Nat}:(l.map f)[i]? =l[i]?.map f:=List.getElem?_map
theorem ξ{n m:Nat}(h:n.ble m=true):n<=m:=Nat.le_of_ble_eq_true h
end Go
end
section
namespace Go.Bo
open Go.RowKit
def Ext(w w':World):Prop:=Below w.heap.size w w'
theorem Ext.refl(w:World):Ext w w:=Below.refl _ _
theorem Ext.size{w w':World}(h:Ext w w'):w.heap.size<=w'.heap.size:=Below.size h
theorem Ext.trans{a b c:World}(h:Ext a b)(k:Ext b c):Ext a c:=Below.trans h (Below.mono k (Ext.size h))
theorem Ext.al{a w:World}(h:Ext a w)(o:Obj):Ext a (w.alloc o):=Below.alloc h h.size o
theorem Ext.dr{a w:World}(h:Ext a w):Ext a w.drew:=Below.drew h
theorem Ext.st{a w:World}(h:Ext a w){p:Addr}(hp:a.heap.size<=p.block)(u:Value):Ext a (w.setCell p u):=Below.setCell h hp u
theorem Ext.grown{w w':World}(h:Ext w w')(r:Option Nat):w.grownBy w' r:=⟨h.os,h.tape,h.output,h.size,λk hk _=>Below.block h k hk⟩
theorem Ext.cellE{w w':World}(h:Ext w w'){p:Addr}{v:Value}(hc:w.cell? p=some v):w'.cell? p=some v:=by
 rw[Below.cell h (World.block_lt_of_cell? _ _ hc)];exact hc
structure ExtOf (w:World) where
 to:World
 ext:Ext w to
instance (w:World):Nonempty (ExtOf w):=⟨⟨w,Ext.refl w⟩⟩
theorem Ext.to{w:World}(x:ExtOf w){p:Addr}{v:Value}(hc:w.cell? p=some v):x.to.cell? p=some v:=x.ext.cellE hc
def ISl(w:World)(a:Option Addr)(l:List Int):Prop:=
 l.length<=9223372036854775807/\ ∀i,i<l.length-> ∃b off,a=some ⟨b,off,none⟩/\w.cell? ⟨b,off+i,none⟩=some (.int .i64 (l.getD i 0))
theorem ISl.ext{w w':World}{a:Option Addr}{l:List Int}(h:ISl w a l)(e:Ext w w'):ISl w' a l:=by
 refine⟨h.1,λi hi=> ?_⟩;obtain⟨b,off,ha,hc⟩:=h.2 i hi;exact⟨b,off,ha,e.cellE hc⟩
theorem ISl.alloc{w:World}{a:Option Addr}{l:List Int}(h:ISl w a l)(o:Obj):ISl (w.alloc o) a l:=h.ext ((Ext.refl w).al o)
theorem ISl.nil(w:World)(a:Option Addr):ISl w a []:=⟨J1,λi hi=>by simp at hi⟩
theorem ISl.new(w:World)(l:List Int)(h:l.length<=9223372036854775807)(t:TypeId):ISl (w.alloc (.cells (l.map (Value.int .i64)).toArray t)) (some ⟨w.heap.size,0,none⟩) l:=by
 refine⟨h,λi hi=>⟨_,_,rfl,?_⟩⟩;rw[World.cell?_alloc_new];simp[hi]
structure Grow (w w':World) (v v':Value):Prop where
 grown:w.grownBy w' v.ownBlock
 own:v'.ownBlock=v.ownBlock\/ ∃g,v'.ownBlock=some g/\w.heap.size<=g
theorem Grow.refl(w:World)(v:Value):Grow w w v v:=⟨⟨rfl,rfl,rfl,Zp _,λ_ _ _=>rfl⟩,.inl rfl⟩
theorem Grow.ext{w0 w w':World}{v v':Value}{e:TypeId}{s n:Nat}{xs:List Value}(h:Ext w0 w)(hg:Grow w w' v v')(ho:w.ownsRow w0.heap.size e s v n xs):Ext w0 w':=
 Below.grown h hg.grown h.size (λk hk=>(ho.lt k hk).1)
section
variable {P:Program} (w:World)
theorem ZDN(base:Nat)(t ty e:TypeId)(i:TypeInfo)(z:Value)(size bytes:Nat)(ht:P.underlying t=some (.slice e))(hi:P.info? e=some i)(hz:i.zero=some z)
  (hsize:i.size=size) (hby:i.bytes=bytes) (hzs:z.cells.size=size) (hsz:0<size)
  (v:Value) (n:Nat) (xs:List Value) (hown:w.ownsRow base e size v n xs)
  (a:Addr) (m c:Nat) (news:List Value) (hl:news.length=m*size) (hnews: ∀j u,news[j]? =some u->w.cell? (a.add j)=some u) (h1: ∀u∈news,u.oneCell'=true)
  (h63:n+m<=maxLen) (hbytes:(n+m)*bytes<=140737488355328) (hbase:base<=w.heap.size):
  ∃v' w',(Builtin.append_ #[t,t] ty #[v,.slice (some a) m c]).run P w= .ok v' w'/\w'.ownsRow base e size v' (n+m) (xs++news)/\Grow w w' v v':=by
 obtain⟨v',w',hr,ho,hg,hn⟩:=run_append_own (P:=P) w base t ty e i z size bytes ht hi hz hsize hby hzs hsz v n xs hown a m c news hl hnews h1 h63 hbytes hbase;refine⟨v',w',hr,ho,hg,?_⟩;subst hsize;subst hby
 have hsm:n+m<=9223372036854775807:=by simp only[maxLen]at h63;omega
 rcases hown.2 with⟨rfl,rfl⟩|⟨g,cap,cur,rfl,hbg,hgg,hnc,hcm,hcs,htake⟩
 .by_cases hm:m=0
  .left;rw[hn.2 ⟨rfl,hm⟩]
  .right;have hr2:=run_append_nil (P:=P) w t ty e i z ht hi hz a m c news hl hnews J0 J0 (by have hb:=hbytes;simp only[Je]at hb;omega);rw[hr2]at hr;cases hr;exact⟨_,rfl,Zp _⟩
 .by_cases hroom:n+m<=cap
  .left;have hfit:n*i.size+news.length<=cur.size:=by rw[hl,hcs,<-JL];exact Ku _ hroom
   have hr2:=run_append_room (P:=P) w t ty e i ht hi g n cap cur hgg a m c news hl hnews h1 hroom hfit;rw[hr2]at hr;cases hr;rfl
  .right;have holds: ∀j u,xs[j]? =some u->w.cell? ((⟨g,0,none⟩:Addr).add j)=some u:=hown.cells (g:=g) rfl;have hr2:=run_append_grow (P:=P) w t ty e i z ht hi hz ⟨g,0,none⟩ n cap xs hown.1 holds a m c news hl hnews J0 J0 (growslice_fits J0 hbytes);rw[hr2]at hr;cases hr;exact⟨_,rfl,Zp _⟩
theorem ZDl{ops:Array Oper}{rest:List Oper}{o:Oper}{a:Act}{Q:Exit->Act->World->Prop}(hgd:o.guard=none)(s x:Operand)(t:TypeId)
  (ho:o.op= .call {callee:= .builtin .append,args:= #[s,x],argTypes:= #[t,t]})
  (base:Nat) (e:TypeId) (i:TypeInfo) (z:Value) (size bytes:Nat) (ht:P.underlying t=some (.slice e)) (hi:P.info? e=some i) (hz:i.zero=some z)
  (hsize:i.size=size) (hby:i.bytes=bytes) (hzs:z.cells.size=size) (hsz:0<size)
  (v:Value) (n:Nat) (xs:List Value) (hs:a.eval s=v) (hown:w.ownsRow base e size v n xs)
  (ad:Addr) (m c:Nat) (news:List Value) (hx:a.eval x= .slice (some ad) m c) (hl:news.length=m*size) (hnews: ∀j u,news[j]? =some u->w.cell? (ad.add j)=some u) (h1: ∀u∈news,u.oneCell'=true)
  (h63:n+m<=maxLen) (hbytes:(n+m)*bytes<=140737488355328) (hbase:base<=w.heap.size)
  (h: ∀v' w',w'.ownsRow base e size v' (n+m) (xs++news)->Grow w w' v v'->wpList P ops Q rest (a.put o.dst v') w'):wpList P ops Q (o::rest) a w:=by
 refine wpList_plain hgd λK hK'=> ?_
 obtain⟨v',w',hr,h2,h3⟩:=ZDN (P:=P) w base t o.type e i z size bytes ht hi hz hsize hby hzs hsz v n xs hown ad m c news hl hnews h1 h63 hbytes hbase;unfold Oper.wp execOp;simp only[ho,resolve,invoke,builtin,Sem.run_bind,Sem.run_pure,Result.andThen_ok,List.map_toArray,YM,ZAf,hs,hx,hr];exact hK' _ _ (h v' w' h2 h3)
end
section
variable {P:Program} (w:World)
theorem ZAN(t ty e:TypeId)(i:TypeInfo)(ht:P.underlying t=some (.slice e))(hi:P.info? e=some i)(a0:Option Addr)(n cap:Nat)(hn:n<=cap)(as:Option Addr)(c:Nat):
  (Builtin.append_ #[t,t] ty #[.slice a0 n cap,.slice as 0 c]).run P w= .ok (.slice a0 n cap) w:=by
 cases a0<;>cases as<;>
  simp[Builtin.append_,run_underlying ht,sizeOf,typeInfo,hi,Builtin.lenOf,hn,Builtin.firstCells,loadCells,loadCellsFrom,storeCells]
end
theorem ZWx(ns:List Int): ∀s:ByteArray,ns.foldl (λr n=>r.push (UInt8.ofNat n.toNat)) s=⟨(s.data.toList++ns.map λn=>UInt8.ofNat n.toNat).toArray⟩:=by
 induction ns with
 |nil=>intro s;simp
 |cons n t ih=>
  intro s;rw[ZJD,ih];congr 1;simp[ByteArray.push]
def bt(s:ByteArray)(k:Nat):Int:=(s.data.toList.getD k 0).toNat
theorem ZSU{P:Program}(w:World)(T:TypeId)(kk:IntKind)(s:ByteArray)(i:Int)(hT:P.underlying T=some .string)(h0:0<=i)(h1:i<s.size):
  (Instr.index T (.string s) (.int kk i)).run P w= .ok (.int .u8 (bt s i.toNat)) w:=by
 have hk:i.toNat<s.size:=Wl
 have hk':i.toNat<s.data.size:=hk;have hb:s[i.toNat]? =some (s.data.toList.getD i.toNat 0):=by
  have e:s.data.toList.getD i.toNat 0=s[i.toNat]'hk:=by
   rw[List.getD,ξO,ξJ hk'];rfl
  rw[e];exact getElem?_pos s i.toNat hk
 unfold Instr.index;simp[asIntOf,run_underlying hT,h0,hb,bt]
theorem ISl.none{w:World}{l:List Int}(h:ISl w none l):l.length=0:=by
 rcases ZOc l.length with h0|h0
 .exact h0
 .obtain⟨b,off,ha,_⟩:=h.2 0 h0;cases ha
def ZSN(w:World)(e:TypeId)(base:Nat)(v:Value)(l:List Int):Prop:=w.ownsRow base e 1 v l.length (l.map (Value.int .i64))
theorem ZSN.nil(w:World)(e:TypeId)(base:Nat):ZSN w e base (.slice none 0 0) []:=World.ownsRow_nil _ _ _ _
theorem ZSN.isl{w:World}{e:TypeId}{base:Nat}{v:Value}{l:List Int}(h:ZSN w e base v l): ∃a c,v= .slice a l.length c/\ISl w a l:=by
 rcases h.2 with⟨rfl,hn⟩|⟨g,cap,cur,rfl,hb,hg,hc,hm,hs,ht⟩
 .exact⟨none,0,by rw[hn],by rw[ξS hn];exact ISl.nil _ _⟩
 .refine⟨_,cap,rfl,by simp only[maxLen]at hm;omega,λi hi=>⟨g,0,rfl,?_⟩⟩;rw[cell_of_row _ _ _ _ _ _ hg];have:(cur.toList.take (l.length*1))[i]? =(l.map (Value.int .i64))[i]? :=by rw[ht]
  rw[KQ,if_pos J0]at this;simpa[hi]using this
theorem ISl.own{w:World}{e:TypeId}{base n:Nat}{v:Value}{l:List Int}{xs:List Value}(h:w.ownsRow base e 1 v n xs)(hx:xs=l.map (Value.int .i64))(hn:n=l.length): ∃a c,v= .slice a l.length c/\ISl w a l:=by
 subst hx;subst hn;exact ZSN.isl h
structure KeyKind (d:TypeDesc) {κ:Type} [DecidableEq κ] (mk:κ->Value):Prop where
 same: ∀a b,Instr.sameNow d (mk a) (mk b)=some (decide (a=b))
 bits: ∀a,Instr.sameBits 10000 (mk a) (mk a)=true
 check: ∀(P:Program) (w:World) (e:Bool) (t:TypeId) (a:κ),P.underlying t=some d->(Instr.checkKey e 10000 t (mk a)).run P w= .ok () w
theorem ZZn:KeyKind .string Value.string where
 same a b:=by
  have h:(a==b)=decide (a=b):=by rw[Qg,MapKept.bytes_beq];simp
  simp[Instr.sameNow,h]
 bits a:=by
  have h:(a==a)=true:=(MapKept.bytes_beq a a).2 rfl;rw[Instr.sameBits];exact h
 check P w e t a h:=by unfold Instr.checkKey;simp[run_underlying h]
theorem Zg8(k:IntKind):KeyKind (.int k) (Value.int k) where
 same a b:=by
  have h:(a==b)=decide (a=b):=by rw[Qg];simp
  simp[Instr.sameNow,h]
 bits a:=by rw[Instr.sameBits];simp
 check P w e t a h:=by unfold Instr.checkKey;simp[run_underlying h]
section
variable {κ:Type} [DecidableEq κ] {mk:κ->Value} {d:TypeDesc}
theorem KeyKind.inj(K:KeyKind d mk){a b:κ}(h:mk a=mk b):a=b:=by
 have s1:=K.same a b;rw[h,K.same b b]at s1;simpa using s1
def Qe(mk:κ->Value)(w:World)(r:Nat)(l:List (κ×Value)):Prop:=
 ∃es clk,w.heap[r]? =some (.map es clk)/\es.toList.map (λe=>(e.key,e.val))=l.map (λp=>(mk p.1,p.2))/\(l.map (·.1)).Nodup/\(∀x∈es.toList,x.born<clk)/\(es.toList.map (·.born)).Nodup
def ZF{β:Type}(l:List (κ×β))(k:κ):Option β:=(l.find? λp=>decide (k=p.1)).map (·.2)
def Zu{β:Type}(l:List (κ×β))(k:κ)(v:β):List (κ×β):=
 match l with
 | []=> [(k,v)]
 |p::t=>if k=p.1 then(k,v)::t else p::Zu t k v
def Zh{β:Type}(l:List (κ×β))(k:κ):List (κ×β):=
 match l with
 | []=> []
 |p::t=>if k=p.1 then t else p::Zh t k
theorem ZCq(K:KeyKind d mk)(k:κ): ∀(l:List (κ×Value)) (es:List MapEntry) (i:Nat),es.map (λe=>(e.key,e.val))=l.map (λp=>(mk p.1,p.2))->
  (∃j v,Instr.findNow d (mk k) es i=some (some (i+j,v))/\ZF l k=some v/\j<es.length/\(∃e,es[j]? =some e/\e.key=mk k)/\
   (∀v',(es.modify j λe=> {e with key:=mk k,val:=v'}).map (λe=>(e.key,e.val))=(Zu l k v').map (λp=>(mk p.1,p.2)))/\
   (es.eraseIdx j).map (λe=>(e.key,e.val))=(Zh l k).map (λp=>(mk p.1,p.2)))\/
  (Instr.findNow d (mk k) es i=some none/\ZF l k=none/\(∀v',Zu l k v'=l++ [(k,v')])/\Zh l k=l):=by
 intro l
 induction l with
 |nil=>
  intro es i h;have:es= []:=WJ
  subst this;exact .inr ⟨rfl,rfl,λ_=>rfl,rfl⟩
 |cons p t ih=>
  intro es i h;cases es with
  |nil=>simp at h
  |cons e es=>
   simp only[YM,ZEP,YN]at h;obtain⟨⟨hk,hv⟩,ht⟩:=h;by_cases he:k=p.1
   .left;refine⟨0,e.val,?_,?_,J1,⟨e,rfl,by rw[hk,he]⟩,?_,?_⟩
    .simp[Instr.findNow,hk,K.same,he]
    .simp[ZF,he,hv]
    .intro v';simp[Zu,he,ht]
    .simp[Zh,he,ht]
   .have hs:Instr.sameNow d (mk k) e.key=some false:=by rw[hk,K.same];simp[he]
    rcases ih es (i+1) ht with⟨j,v,h1,h2,h3,⟨e',h4,h4'⟩,h5,h6⟩|⟨h1,h2,h3,h4⟩
    .left;refine⟨j+1,v,?_,?_,W3,⟨e',UY,h4'⟩,?_,?_⟩
     .simp only[Instr.findNow,hs,h1];congr 3;omega
     .simp[ZF,he];simpa[ZF]using h2
     .intro v';simp[Zu,he,hk,hv,h5 v']
     .simp[Zh,he,hk,hv,h6]
    .right;refine⟨?_,?_,?_,?_⟩
     .simp only[Instr.findNow,hs,h1]
     .simp[ZF,he];simpa[ZF]using h2
     .intro v';simp[Zu,he,h3 v']
     .simp[Zh,he,h4]
theorem ZXq{β:Type}(l:List (κ×β))(k:κ)(v:β): ∀x,x∈(Zu l k v).map (·.1)↔x=k\/x∈l.map (·.1):=by
 intro x
 induction l with
 |nil=>simp[Zu]
 |cons p t ih=>
  unfold Zu;split
  .rename_i h;simp[h]
  .simp only[YM,Kn,ih];grind
theorem ZEX{β:Type}(l:List (κ×β))(k:κ)(v:β)(h:(l.map (·.1)).Nodup):((Zu l k v).map (·.1)).Nodup:=by
 induction l with
 |nil=>simp[Zu]
 |cons p t ih=>
  simp only[YM,ZBE]at h;unfold Zu;split
  .rename_i e;simp only[YM,ZBE];rw[e];exact h
  .rename_i e;simp only[YM,ZBE];refine⟨λhm=> ?_,ih h.2⟩;rcases(ZXq t k v p.1).1 hm with e'|e'
   .exact e e'.symm
   .exact h.1 e'
theorem ZZZ{β:Type}(l:List (κ×β))(k:κ): ∀x,x∈(Zh l k).map (·.1)->x∈l.map (·.1):=by
 intro x
 induction l with
 |nil=>simp[Zh]
 |cons p t ih=>
  unfold Zh;split
  .intro h;simp only[YM,Kn];exact .inr h
  .simp only[YM,Kn];rintro(h|h)
   .exact .inl h
   .exact .inr (ih h)
theorem mdel_nodup{β:Type}(l:List (κ×β))(k:κ)(h:(l.map (·.1)).Nodup):((Zh l k).map (·.1)).Nodup:=by
 induction l with
 |nil=>simp[Zh]
 |cons p t ih=>
  simp only[YM,ZBE]at h;unfold Zh;split
  .exact h.2
  .simp only[YM,ZBE];exact⟨λhm=>h.1 (ZZZ t k _ hm),ih h.2⟩
theorem ZFo{β:Type}(l:List (κ×β))(k:κ)(v:β)(k':κ):ZF (Zu l k v) k'=if k'=k then some v else ZF l k':=by
 induction l with
 |nil=>unfold Zu ZF;by_cases h:k'=k<;>simp[h]
 |cons p t ih=>
  unfold Zu;unfold ZF at ih|-;split
  .rename_i e;by_cases h:k'=p.1<;>simp[h,e]
  .rename_i e;by_cases h:k'=p.1
   .have: ¬k'=k:=λq=>e (q▸h)
    subst h;simp[this]
   .simp only[List.find?_cons,h,decide_false,ih]
theorem JS{β:Type}{l:List (κ×β)}{k:κ}{v:β}(h:ZF l k=some v):(k,v)∈l:=by
 unfold ZF at h;cases hf:l.find? λp=>decide (k=p.1)with
 |none=>simp[hf]at h
 |some p=>
  have h1:=List.mem_of_find?_eq_some hf;have h2:=List.find?_some hf;simp[hf]at h;simp at h2;rw[h2,<-h];exact h1
theorem ZEO{β:Type}{l:List (κ×β)}(hn:(l.map (·.1)).Nodup){k:κ}{v:β}(h:(k,v)∈l):ZF l k=some v:=by
 induction l with
 |nil=>cases h
 |cons p t ih=>
  simp only[YM,ZBE]at hn;rcases Kn.1 h with rfl|h
  .simp[ZF]
  .by_cases e:k=p.1
   .exact absurd (YR.2 ⟨_,h,rfl⟩) (e▸hn.1)
   .have:ZF (p::t) k=ZF t k:=Nj
    rw[this];exact ih hn.2 h
theorem Jy{β:Type}{l:List (κ×β)}{k:κ}:ZF l k=none↔k∉l.map (·.1):=by
 unfold ZF;simp[List.find?_eq_none];grind
theorem ZHE{β:Type}(l:List (κ×β))(k:κ)(h:(l.map (·.1)).Nodup)(k':κ):ZF (Zh l k) k'=if k'=k then none else ZF l k':=by
 induction l with
 |nil=>unfold Zh ZF;simp
 |cons p t ih=>
  simp only[YM,ZBE]at h;unfold Zh;split
  .rename_i e;by_cases hk:k'=k
   .rw[if_pos hk,Jy,hk,e];exact h.1
   .rw[if_neg hk];unfold ZF;simp[show ¬k'=p.1 fromλq=>hk (by rw[e,q])]
  .rename_i e;have ih:=ih h.2;unfold ZF at ih|-;by_cases hp:k'=p.1
   .have: ¬k'=k:=λq=>e (q▸hp)
    subst hp;simp[this]
   .simp only[List.find?_cons,hp,decide_false,ih]
variable {P:Program} {w:World}
theorem ZLW{es:Array MapEntry}(j:Nat)(f:MapEntry->MapEntry)(hf: ∀e,(f e).born=e.born):(es.modify j f).toList.map (·.born)=es.toList.map (·.born):=by
 apply ZBj;intro i;simp only[YE,ξO,ZO9];by_cases h:j=i
 .subst h;cases es[j]? <;>simp[hf]
 .simp[h]
theorem ZDW{es:Array MapEntry}(j:Nat)(f:MapEntry->MapEntry)(hf: ∀e,(f e).born=e.born)(h:(es.toList.map (·.born)).Nodup):((es.modify j f).toList.map (·.born)).Nodup:=by rw[ZLW j f hf];exact h
theorem ZEw{es:Array MapEntry}{clk:Nat}(j:Nat)(f:MapEntry->MapEntry)(hf: ∀e,(f e).born=e.born)(h: ∀x∈es.toList,x.born<clk): ∀x∈(es.modify j f).toList,x.born<clk:=by
 intro x hx;have:x.born∈(es.modify j f).toList.map (·.born):=YR.2 ⟨x,hx,rfl⟩;rw[ZLW j f hf]at this;obtain⟨y,hy,e⟩:=YR.1 this;rw[<-e];exact h y hy
theorem ZJ0{es:Array MapEntry}{clk:Nat}{k v:Value}(h: ∀x∈es.toList,x.born<clk): ∀x∈(es.push {key:=k,val:=v,born:=clk}).toList,x.born<clk+1:=by
 intro x hx;simp only[Array.toList_push,KV,Qf]at hx;rcases hx with hx|rfl
 .exact Nat.lt_succ_of_lt (h x hx)
 .exact Nat.lt_succ_self _
theorem ZQV{es:Array MapEntry}{clk:Nat}{k v:Value}(h: ∀x∈es.toList,x.born<clk)(hn:(es.toList.map (·.born)).Nodup):((es.push {key:=k,val:=v,born:=clk}).toList.map (·.born)).Nodup:=by
 simp only[Array.toList_push,Jd,YM,ZAf];refine ZEx.2 ⟨hn,J1,?_⟩;intro a ha b hb;simp only[Qf]at hb;subst hb;obtain⟨x,hx,rfl⟩:=YR.1 ha;exact Nat.ne_of_lt (h x hx)
theorem ZN0(es:Array MapEntry)(j:Nat):(es.eraseIdxIfInBounds j).toList.Sublist es.toList:=by
 unfold Array.eraseIdxIfInBounds;split
 .simp only[Array.toList_eraseIdx];exact List.eraseIdx_sublist _ _
 .exact List.Sublist.refl _
theorem ZTw(K:KeyKind d mk)(T key elem:TypeId)(z:Value)(hT:P.underlying T=some (.map key elem))(hk:P.underlying key=some d)(hz:(zeroValue elem).run P w= .ok z w)
  (r:Nat) (l:List (κ×Value)) (hm:Qe mk w r l) (k:κ) (ok:Bool):
  (Instr.lookup T (.map (some r)) (mk k) ok).run P w= .ok (if ok then .tuple #[(ZF l k).getD z,.bool (ZF l k).isSome]else(ZF l k).getD z) w:=by
 obtain⟨es,clk,hr,hl,hn,-⟩:=hm;have hg:(getObj r).run P w= .ok (.map es clk) w:=Ti
 rcases ZCq K k l es.toList 0 hl with⟨j,v,h1,h2,-⟩|⟨h1,h2,-⟩
 .cases ok<;>simp[Instr.lookup,run_underlying hT,hg,Sem.run_bind,Result.andThen,K.check P w _ key k hk,Instr.findKey,run_underlying hk,h1,h2]
 .cases ok<;>simp[Instr.lookup,run_underlying hT,hg,Sem.run_bind,Result.andThen,K.check P w _ key k hk,Instr.findKey,run_underlying hk,h1,h2,hz]
structure Only (r:Nat) (w w':World):Prop where
 os:w'.os=w.os
 tape:w'.tape=w.tape
 output:w'.output=w.output
 size:w'.heap.size=w.heap.size
 block: ∀b,b≠r->w'.heap[b]? =w.heap[b]?
theorem ZCv(w:World)(r:Nat)(o:Obj):Only r w {w with heap:=w.heap.setIfInBounds r o}:=by
 refine⟨rfl,rfl,rfl,J1,λb hb=> ?_⟩;simp only[ZWV];rw[if_neg (λh=>hb h.symm)]
theorem ZNB(K:KeyKind d mk)(T key elem:TypeId)(hT:P.underlying T=some (.map key elem))(hk:P.underlying key=some d)
  (r:Nat) (l:List (κ×Value)) (hm:Qe mk w r l) (k:κ) (v:Value):
  ∃w',(Instr.mapUpdate T (.map (some r)) (mk k) v).run P w= .ok () w'/\Only r w w'/\Qe mk w' r (Zu l k v):=by
 obtain⟨es,clk,hr,hl,hn,hbc,hbn⟩:=hm;have hlt:r<w.heap.size:=(ξH hr).1;have hg:(getObj r).run P w= .ok (.map es clk) w:=Ti
 have hs: ∀o,(setObj r o).run P w= .ok () {w with heap:=w.heap.setIfInBounds r o}:=λo=>Ga
 rcases ZCq K k l es.toList 0 hl with⟨j,v0,h1,h2,h3,⟨e,h4,h4'⟩,h5,-⟩|⟨h1,h2,h3,-⟩
 .have hj:es[j]? =some e:=UY
  have hks:(Instr.keyThatStays (mk k) (mk k)).run P w= .ok (mk k) w:=by simp[Instr.keyThatStays,K.bits]
  refine⟨_,?_,ZCv w r (.map (es.modify j λe=> {e with key:=mk k,val:=v}) clk),es.modify j λe=> {e with key:=mk k,val:=v},clk,?_,?_,ZEX l k v hn,ZEw j _ (λ_=>rfl) hbc,ZDW j _ (λ_=>rfl) hbn⟩
  .simp[Instr.mapUpdate,run_underlying hT,hg,Sem.run_bind,Result.andThen,K.check P w _ key k hk,Instr.findKey,run_underlying hk,h1,hj,h4',hks,hs]
  .simp[hlt]
  .rw[ZWG];exact h5 v
 .refine⟨_,?_,ZCv w r (.map (es.push {key:=mk k,val:=v,born:=clk}) (clk+1)),es.push {key:=mk k,val:=v,born:=clk},clk+1,?_,?_,ZEX l k v hn,ZJ0 hbc,ZQV hbc hbn⟩
  .simp[Instr.mapUpdate,run_underlying hT,hg,Sem.run_bind,Result.andThen,K.check P w _ key k hk,Instr.findKey,run_underlying hk,h1,hs]
  .simp[hlt]
  .rw[h3 v];simp[hl]
theorem ZTK(K:KeyKind d mk)(T key elem:TypeId)(hT:P.underlying T=some (.map key elem))(hk:P.underlying key=some d)(ty:TypeId)(ts:TypeId)
  (r:Nat) (l:List (κ×Value)) (hm:Qe mk w r l) (k:κ):
  ∃w',(Builtin.delete_ #[T,ts] ty #[.map (some r),mk k]).run P w= .ok (.tuple #[]) w'/\Only r w w'/\Qe mk w' r (Zh l k):=by
 obtain⟨es,clk,hr,hl,hn,hbc,hbn⟩:=hm;have hlt:r<w.heap.size:=(ξH hr).1;have hg:(getObj r).run P w= .ok (.map es clk) w:=Ti
 have hs: ∀o,(setObj r o).run P w= .ok () {w with heap:=w.heap.setIfInBounds r o}:=λo=>Ga
 rcases ZCq K k l es.toList 0 hl with⟨j,v0,h1,h2,h3,⟨e,h4,h4'⟩,-,h6⟩|⟨h1,h2,-,h4⟩
 .refine⟨_,?_,ZCv w r (.map (es.eraseIdxIfInBounds j) clk),es.eraseIdxIfInBounds j,clk,?_,?_,mdel_nodup l k hn,λx hx=>hbc x ((ZN0 es j).subset hx),((ZN0 es j).map _).nodup hbn⟩
  .exact Tp
  .simp[hlt]
  .rw[<-h6,Array.toList_eraseIdxIfInBounds]
 .refine⟨_,?_,ZCv w r (.map es clk),es,clk,?_,?_,mdel_nodup l k hn,hbc,hbn⟩
  .exact Tp
  .simp[hlt]
  .rw[h4];exact hl
theorem ZPE(K:KeyKind d mk)(T key elem:TypeId)(z:Value)(hT:P.underlying T=some (.map key elem))(hk:P.underlying key=some d)(hz:(zeroValue elem).run P w= .ok z w)
  (r:Nat) (l:List (κ×Value)) (hm:Qe mk w r l) (k:κ):
  ∃(w':World) (v:Value) (n:Nat),(Instr.mapEntry T (.map (some r)) (mk k)).run P w= .ok (.tuple #[v,goInt n]) w'/\Only r w w'/\v=(ZF l k).getD z/\Qe mk w' r (Zu l k v)/\
   ∃es clk e,w'.heap[r]? =some (.map es clk)/\e∈es.toList/\e.born=n/\e.key=mk k:=by
 obtain⟨es,clk,hr,hl,hn,hbc,hbn⟩:=hm;have hlt:r<w.heap.size:=(ξH hr).1;have hg:(getObj r).run P w= .ok (.map es clk) w:=Ti
 have hs: ∀o,(setObj r o).run P w= .ok () {w with heap:=w.heap.setIfInBounds r o}:=λo=>Ga
 rcases ZCq K k l es.toList 0 hl with⟨j,v0,h1,h2,h3,⟨e,h4,h4'⟩,h5,-⟩|⟨h1,h2,h3,-⟩
 .have hj:es[j]? =some e:=UY
  have hks:(Instr.keyThatStays (mk k) (mk k)).run P w= .ok (mk k) w:=by simp[Instr.keyThatStays,K.bits]
  have hev:e.val=v0:=by
   have h6:=congrArg (λl=>l[j]?) hl;simp only[YE,h4,Yr]at h6;have hjl:j<l.length:=by
    have:=congrArg List.length hl;simp only[YZ]at this;omega
   rw[Zx hjl]at h6;simp only[Yr,Yj,YN]at h6;have h7:ZF l k=some l[j].2:=by
    have hK:=h6.1;rw[h4']at hK;have hkk:k=l[j].1:=by
     exact K.inj hK
    exact ZEO hn (by rw[hkk];exact YG hjl)
   rw[h2]at h7;simp only[Yj]at h7;rw[h6.2,h7]
  refine⟨_,v0,e.born,?_,ZCv w r (.map (es.modify j λe=> {e with key:=mk k}) clk),by rw[h2];rfl,⟨es.modify j λe=> {e with key:=mk k},clk,?_,?_,ZEX l k v0 hn,ZEw j _ (λ_=>rfl) hbc,ZDW j _ (λ_=>rfl) hbn⟩,es.modify j λe=> {e with key:=mk k},clk,{e with key:=mk k},?_,?_,rfl,rfl⟩
  .simp[Instr.mapEntry,run_underlying hT,hg,Sem.run_bind,Result.andThen,K.check P w _ key k hk,Instr.findKey,run_underlying hk,h1,hj,h4',hks,hs]
  .simp[hlt]
  .rw[<-h5 v0,ZWG];congr 1;apply ZBj;intro i;simp only[Za1];by_cases h:j=i
   .subst h;simp only[h4,if_true,Option.map_eq_map,Yr,hev.symm]
   .simp[h]
  .simp[hlt]
  .have:(es.modify j λe=> {e with key:=mk k}).toList[j]? =some {e with key:=mk k}:=by
    rw[ZWG,Za1,h4];simp
   exact Yz this
 .refine⟨_,z,clk,?_,ZCv w r (.map (es.push {key:=mk k,val:=z,born:=clk}) (clk+1)),by rw[h2];rfl,⟨es.push {key:=mk k,val:=z,born:=clk},clk+1,?_,?_,ZEX l k z hn,ZJ0 hbc,ZQV hbc hbn⟩,es.push {key:=mk k,val:=z,born:=clk},clk+1,{key:=mk k,val:=z,born:=clk},?_,J1,rfl,rfl⟩
  .simp[Instr.mapEntry,run_underlying hT,hg,Sem.run_bind,Result.andThen,K.check P w _ key k hk,Instr.findKey,run_underlying hk,h1,hs,hz]
  .simp[hlt]
  .rw[h3 z];simp[hl]
  .simp[hlt]
theorem ZMC(K:KeyKind d mk)(T:TypeId)(r:Nat)(l:List (κ×Value))(hm:Qe mk w r l)(k:κ)(n:Nat)(v:Value)
  (he: ∀es clk,w.heap[r]? =some (.map es clk)-> ∃e∈es.toList,e.born=n/\e.key=mk k):
  ∃w',(Instr.entryStore T (.map (some r)) (goInt n) v).run P w= .ok () w'/\Only r w w'/\Qe mk w' r (Zu l k v):=by
 obtain⟨es,clk,hr,hl,hn,hbc,hbn⟩:=hm;have hlt:r<w.heap.size:=(ξH hr).1;have hg:(getObj r).run P w= .ok (.map es clk) w:=Ti
 have hs: ∀o,(setObj r o).run P w= .ok () {w with heap:=w.heap.setIfInBounds r o}:=λo=>Ga
 obtain⟨e,hm,hb,hkey⟩:=he es clk hr;rcases ZCq K k l es.toList 0 hl with⟨j,v0,h1,h2,h3,⟨e',h4,h4'⟩,h5,-⟩|⟨h1,h2,h3,-⟩
 .have hee:e=e':=by
   have inj: ∀(L:List MapEntry) (l:List (κ×Value)),L.map (λe=>(e.key,e.val))=l.map (λp=>(mk p.1,p.2))->(l.map (·.1)).Nodup-> ∀a b,a∈L->b∈L->a.key=mk k->b.key=mk k->a=b:=by
    intro L
    induction L with
    |nil=>intro l _ _ a b ha;cases ha
    |cons x L ih=>
     intro l hl hn a b ha hb ka kb;cases l with
     |nil=>simp at hl
     |cons p l=>
      simp only[YM,ZEP,YN]at hl;simp only[YM,ZBE]at hn;have nk: ∀y∈L,x.key=mk k->y.key=mk k->False:=by
       intro y hy hx hyk;have h6:(y.key,y.val)∈L.map (λe=>(e.key,e.val)):=YR.2 ⟨y,hy,rfl⟩;rw[hl.2]at h6;obtain⟨q,hq,hqe⟩:=YR.1 h6;simp only[YN]at hqe;have e1:mk p.1=mk k:=hl.1.1.symm.trans hx;have e2:mk q.1=mk k:=hqe.1.trans hyk;have e3:p.1=q.1:=by
        exact K.inj (e1.trans e2.symm)
       exact hn.1 (YR.2 ⟨q,hq,e3.symm⟩)
      rcases Kn.1 ha with rfl|ha'<;>rcases Kn.1 hb with rfl|hb'
      .rfl
      .exact(nk b hb' ka kb).elim
      .exact(nk a ha' kb ka).elim
      .exact ih l hl.2 hn.2 a b ha' hb' ka kb
   exact inj es.toList l hl hn e e' hm (Yz h4) hkey h4'
  subst hee;have hj:es[j]? =some e:=UY
  have hf:es.findIdx? (λe=>(e.born:Int)==(n:Int))=some j:=by
   have hjl:j<es.toList.length:=(ZV h4).1;have hje:es.toList[j]=e:=(ZV h4).2;refine Array.findIdx?_eq_some_iff_getElem.2 ⟨by simpa using hjl,by rw[show es[j]'(by simpa using hjl)=e by simpa using hje];simp[hb],λi hi=> ?_⟩;have hjs:j<es.size:=by simpa using hjl
   have his:i<es.size:=Wl
   have hne:(es.toList[i]'(by simpa using his)).born≠es.toList[j].born:=by
    have h0:=ZE8.1 hbn i j (by simpa using his) (by simpa using hjl) hi;simpa using h0
   rw[hje,hb]at hne;have e0:es.toList[i]'(by simpa using his)=es[i]:=TC
   rw[e0]at hne;simp only[beq_iff_eq];omega
  have hai:(asInt (goInt n)).run P w= .ok (n:Int) w:=by simp[asInt,goInt,asIntOf]
  have hmod:(es.modify j λe=> {e with val:=v}).toList.map (λe=>(e.key,e.val))=(Zu l k v).map (λp=>(mk p.1,p.2)):=by
   rw[<-h5 v,ZWG];congr 1;apply ZBj;intro i;simp only[Za1];by_cases h:j=i
   .subst h;simp only[h4,if_true,Option.map_eq_map,Yr,hkey]
   .simp[h]
  refine⟨_,?_,ZCv w r (.map (es.modify j λe=> {e with val:=v}) clk),es.modify j λe=> {e with val:=v},clk,?_,hmod,ZEX l k v hn,ZEw j _ (λ_=>rfl) hbc,ZDW j _ (λ_=>rfl) hbn⟩
  .simp[Instr.entryStore,hg,Sem.run_bind,Result.andThen,hai,hf,hs]
  .simp[hlt]
 .exfalso;have h6:(e.key,e.val)∈es.toList.map (λe=>(e.key,e.val)):=YR.2 ⟨e,hm,rfl⟩;rw[hl]at h6;obtain⟨q,hq,hqe⟩:=YR.1 h6;simp only[YN]at hqe;have e3:k=q.1:=by
   exact K.inj (hkey.symm.trans hqe.1.symm)
  exact Jy.1 h2 (YR.2 ⟨q,hq,e3.symm⟩)
omit [DecidableEq κ]in
theorem ZT1(T key elem:TypeId)(hT:P.underlying T=some (.map key elem))(ty:TypeId)(r:Nat)(l:List (κ×Value))(hm:Qe mk w r l):
  ∃w',(Builtin.clear_ #[T] ty #[.map (some r)]).run P w= .ok (.tuple #[]) w'/\Only r w w'/\Qe mk w' r []:=by
 obtain⟨es,clk,hr,hl,hn,hbc,hbn⟩:=hm;have hlt:r<w.heap.size:=(ξH hr).1;have hg:(getObj r).run P w= .ok (.map es clk) w:=Ti
 have hs: ∀o,(setObj r o).run P w= .ok () {w with heap:=w.heap.setIfInBounds r o}:=λo=>Ga
 refine⟨_,?_,ZCv w r (.map #[] clk),#[],clk,?_,rfl,ZTF,J1,J1⟩
 .simp[Builtin.clear_,run_underlying hT,hg,Sem.run_bind,Result.andThen,hs]
 .simp[hlt]
end
theorem Qe.new{κ:Type}(mk:κ->Value)(w:World):Qe mk (w.alloc (.map #[] 0)) w.heap.size []:=⟨#[],0,heap_alloc_new w _,rfl,ZTF,J1,J1⟩
theorem Qe.keep{κ:Type}{mk:κ->Value}{w w':World}{r:Nat}{l:List (κ×Value)}(h:Qe mk w r l)(e:w'.heap[r]? =w.heap[r]?):Qe mk w' r l:=by
 obtain⟨es,clk,hr,h1,h2⟩:=h;exact⟨es,clk,by rw[e,hr],h1,h2⟩
theorem Qe.lt{κ:Type}{mk:κ->Value}{w:World}{r:Nat}{l:List (κ×Value)}(h:Qe mk w r l):r<w.heap.size:=by
 obtain⟨es,clk,hr,h1,h2⟩:=h;exact(ξH hr).1
theorem Qe.ext{κ:Type}{mk:κ->Value}{w w':World}{r:Nat}{l:List (κ×Value)}(h:Qe mk w r l)(e:Ext w w'):Qe mk w' r l:=h.keep (Below.block e r h.lt)
structure Enc (α:Type) where
 n:Nat
 rep:World->(Nat->Prop)->α->List Value->Prop
def ZjL:Enc Unit:=⟨0,λ_ _ _ cs=>cs= []⟩
def Zjd{α β:Type}(E:Enc α)(F:Enc β):Enc (α×β):=⟨E.n+F.n,λw ok x cs=> ∃c d,cs=c++d/\E.rep w ok x.1 c/\F.rep w ok x.2 d⟩
def Sl{α:Type}(E:Enc α)(w:World)(ok:Nat->Prop)(a:Option Addr)(l:List α):Prop:=
 l.length<=9223372036854775807/\ ∀i (h:i<l.length),∃b off cs,a=some ⟨b,off,none⟩/\ok b/\E.rep w ok l[i] cs/\ ∀j,j<E.n->w.cell? ⟨b,off+i*E.n+j,none⟩=cs[j]?
def ZHM(w w':World)(ok ok':Nat->Prop):Prop:= ∀b,b<w.heap.size->ok b->ok' b/\w'.heap[b]? =w.heap[b]?
theorem ZHM.ext{w w':World}(h:Ext w w')(ok:Nat->Prop):ZHM w w' ok ok:=λb hb ho=>⟨ho,Below.block h b hb⟩
theorem ZHM.cell{w w':World}{ok ok':Nat->Prop}(h:ZHM w w' ok ok'){p:Addr}{v:Value}(hc:w.cell? p=some v)(ho:ok p.block):w'.cell? p=some v:=by
 rw[World.cell?_of_block (h p.block (World.block_lt_of_cell? _ _ hc) ho).2];exact hc
structure Enc.Good {α:Type} (E:Enc α):Prop where
 len: ∀ {w ok x cs},E.rep w ok x cs->cs.length=E.n
 stay: ∀ {w w' ok ok' x cs},ZHM w w' ok ok'->E.rep w ok x cs->E.rep w' ok' x cs
 one: ∀ {w ok x cs},E.rep w ok x cs-> ∀u∈cs,u.oneCell'=true
theorem Sl.stay{α:Type}{E:Enc α}(hE:E.Good)(h0:0<E.n){w w':World}{ok ok':Nat->Prop}{a:Option Addr}{l:List α}(hs:ZHM w w' ok ok')(h:Sl E w ok a l):Sl E w' ok' a l:=by
 refine⟨h.1,λi hi=> ?_⟩;obtain⟨b,off,cs,ha,hb,hr,hc⟩:=h.2 i hi;have hl:=hE.len hr;have hlt:b<w.heap.size:=by
  have h1:=hc 0 h0;rw[Zx J0]at h1;exact World.block_lt_of_cell? _ _ h1
 refine⟨b,off,cs,ha,(hs b hlt hb).1,hE.stay hs hr,λj hj=> ?_⟩;have h1:=hc j hj;rw[Zx J0]at h1|-;exact hs.cell h1 hb
theorem Sl.ext{α:Type}{E:Enc α}(hE:E.Good)(h0:0<E.n){w w':World}{ok:Nat->Prop}{a:Option Addr}{l:List α}(h:Sl E w ok a l)(e:Ext w w'):Sl E w' ok a l:=h.stay hE h0 (ZHM.ext e ok)
theorem Sl.nil{α:Type}{E:Enc α}(w:World)(ok:Nat->Prop)(a:Option Addr):Sl E w ok a []:=⟨J1,λi hi=>by simp at hi⟩
def ZjQ(P:Program)(T:TypeId){α:Type}(E:Enc α):Prop:=
 P.cellsOf T=E.n/\ ∀ {H:Type} (enc:TypeId×Value->H) (w:World) (fuel:Nat) (cs:List Value) (x:DataW H×List MemPlace),DataW.trod enc P w 0 (λ_=>true) true fuel T cs=some x-> ∃y,E.rep w (λ_=>True) y cs
section
variable {P:Program} {T:TypeId}
inductive Fields (P:Program):List Field->Nat-> {α:Type}->Enc α->Prop
 |nil (off:Nat):Fields P [] off ZjL
 |cons {f:Field} {fs:List Field} {off:Nat} {α β:Type} {E:Enc α} {F:Enc β} (ho:f.offset=off) (hE:ZjQ P f.type E) (hF:Fields P fs (off+E.n) F):Fields P (f::fs) off (Zjd E F)
end
end Go.Bo
end
section
namespace Go.Ab
open Go.RowKit Go.Bo
def ZT(s:List UInt8):ByteArray:=⟨s.toArray⟩
theorem Qk(s:List UInt8):(ZT s).size=s.length:=by simp[ZT,ByteArray.size]
theorem Js(s:List UInt8):(ZT s).toList=s:=by rw[ByteArray.toList_eq];simp[ZT]
inductive X where
 |int (k:IntKind) (n:Int)
 |bool (b:Bool)
 |str (s:List UInt8)
 |nilp
 |nils
 |sl (rs:List (List X))
 deriving Inhabited
inductive VX (w:World) (st:Nat->Nat->Prop):X->Value->Prop
 |int (k:IntKind) (n:Int):VX w st (.int k n) (.int k n)
 |bool (b:Bool):VX w st (.bool b) (.bool b)
 |str (s:List UInt8):VX w st (.str s) (.string (ZT s))
 |nilp:VX w st .nilp (.pointer none)
 |nils:VX w st .nils (.slice none 0 0)
 |sl (rs:List (List X)) (a:Option Addr) (n c sz:Nat) (val:Nat->Nat->Value) (hn:rs.length=n) (hc:n<=c) (hm:c<=maxLen) (hsz: ∀r∈rs,r.length=sz)
   (hcell: ∀i j,i<n->j<sz-> ∃b off,a=some ⟨b,off,none⟩/\st b (off+i*sz+j)/\w.cell? ⟨b,off+i*sz+j,none⟩=some (val i j))
   (hnil:a=none->n=0/\c=0) (hsp:0<c-> ∀ad,a=some ad->ad.spot=none)
   (hval: ∀i j r x,rs[i]? =some r->r[j]? =some x->VX w st x (val i j)):VX w st (.sl rs) (.slice a n c)
theorem VX.one{w:World}{st:Nat->Nat->Prop}{x:X}{v:Value}(h:VX w st x v):v.oneCell'=true:=by cases h<;>rfl
theorem VX.mono{w w':World}{st st':Nat->Nat->Prop}(e: ∀b o,st b o->st' b o/\w'.cell? ⟨b,o,none⟩=w.cell? ⟨b,o,none⟩){x:X}{v:Value}(h:VX w st x v):VX w' st' x v:=by
 induction h with
 |int k n=>exact .int k n
 |bool b=>exact .bool b
 |str s=>exact .str s
 |nilp=>exact .nilp
 |nils=>exact .nils
 |sl rs a n c sz val hn hc hm hsz hcell hnil hsp _ ih=>
  refine .sl rs a n c sz val hn hc hm hsz (λi j hi hj=> ?_) hnil hsp ih;obtain⟨b,off,h1,h2,h3⟩:=hcell i j hi hj;exact⟨b,off,h1,(e _ _ h2).1,by rw[(e _ _ h2).2];exact h3⟩
inductive D where
 |x (x:X)
 |ref (id ext off len:Nat)
 |ptr (id off:Nat)
 |eptr (id ext i off:Nat)
 |vptr (cs:List X)
 |mref (id:Nat)
 |mnil
 |iref (mid id:Nat)
 |stk (mid id:Nat)
 |bref (id off len:Nat)
 |agg (ds:List D)
 |tup (ds:List D)
 |full (rs:List (List X))
 |nz (rs:List (List X))
 |fn (f:FuncId) (caps:List D)
 |opt (b:Bool) (d:D)
 |und
 deriving Inhabited
inductive KF where
 |int (k:IntKind)
 |str
 deriving DecidableEq
inductive KK where
 |int (k:IntKind)
 |str
 |st (a b:KF)
 deriving DecidableEq
abbrev Pr:=List X×List D
inductive Ob where
 |box (ds:List D)
 |rows (fz:Bool) (e sz:Nat) (rs:List (List X))
 |drw (e sz:Nat) (rs:List (List D))
 |frz (sz:Nat) (rs:List (List X))
 |mpo (dk:KK) (ag:Bool) (l:List Pr)
 |mit (dk:KK) (ag:Bool) (l:List Pr) (it:Nat) (R:List Pr) (cur:Option Pr)
 |mpn (dk:KK) (ag:Bool) (l:List Pr) (key:List X) (sid:Nat)
 |itr
 |stp
 |sit (s:List UInt8) (pos:Nat)
 |nit
 |old (sz n:Nat)
 |fam (k:Nat) (P:List (List Pr)) (B:List (X×List (List X)))
 |dead
 deriving Inhabited
abbrev _root_.Go.J4:=List (Nat×D)
abbrev _root_.Go.J5:=Option (Bool×D)
abbrev _root_.Go.J6:=List (List X)
abbrev _root_.Go.J7:=List Ob
abbrev _root_.Go.J8:=List D
abbrev _root_.Go.J9:=List X
abbrev _root_.Go.W0:=List Nat
abbrev _root_.Go.W2:=List Pr
def Ob.slice? :Ob->Option (Nat×J6)
 | .rows _ _ sz rs=>some (sz,rs)
 | .frz sz rs=>some (sz,rs)
 |_=>none
def Ob.sl? :Ob->Option (Nat×Nat)
 | .rows _ _ sz rs=>some (sz,rs.length)
 | .drw _ sz rs=>some (sz,rs.length)
 | .frz sz rs=>some (sz,rs.length)
 | .old sz n=>some (sz,n)
 |_=>none
theorem Ob.slice_sl{o:Ob}{sz:Nat}{rs:J6}(h:o.slice? =some (sz,rs)):o.sl? =some (sz,rs.length):=by
 cases o<;>simp_all[Ob.slice?,Ob.sl?]
def Ob.dsl? :Ob->Option (Nat×List J8)
 | .drw _ sz rs=>some (sz,rs)
 |_=>none
theorem Ob.dsl_sl{o:Ob}{sz:Nat}{rs:List J8}(h:o.dsl? =some (sz,rs)):o.sl? =some (sz,rs.length):=by
 cases o<;>simp_all[Ob.dsl?,Ob.sl?]
theorem Ob.dsl_drw{o:Ob}{sz:Nat}{rs:List J8}(h:o.dsl? =some (sz,rs)): ∃e,o= .drw e sz rs:=by
 cases o<;>simp_all[Ob.dsl?]
def Ob.map? :Ob->Option (KK×Bool×W2)
 | .mpo dk ag l=>some (dk,ag,l)
 | .mit dk ag l _ _ _=>some (dk,ag,l)
 | .mpn dk ag l _ _=>some (dk,ag,l)
 |_=>none
inductive Kd where
 |box
 |map (dk:KK) (ag:Bool)
 |itr
 |stp
def Ob.kd:Ob->Option Kd
 | .box _=>some .box
 | .mpo dk ag _=>some (.map dk ag)
 | .mit dk ag _ _ _ _=>some (.map dk ag)
 | .mpn dk ag _ _ _=>some (.map dk ag)
 | .itr=>some .itr
 | .sit _ _=>some .itr
 | .nit=>some .itr
 | .fam _ _ _=>some .itr
 | .stp=>some .stp
 |_=>none
theorem Ob.kd_box{o:Ob}(h:o.kd=some .box): ∃ds,o= .box ds:=by
 cases o with
 |box ds=>exact⟨ds,rfl⟩
 |_=>simp[Ob.kd]at h
structure Env where
 w:World
 st:Nat->Nat->Prop
 ob:List (Nat×Value)
def ZXC(E:Env)(id ext off len:Nat)(v:Value)(sz n:Nat):Prop:=
 ext<=n/\(n=ext->
  off+len<=ext/\ ∃b a cap a' cap',E.ob[id]? =some (b,.slice a ext cap)/\v= .slice a' len cap'/\len<=cap'/\cap'<=maxLen/\(off=0->a'=a/\cap'=cap)/\
   (0<len-> ∀ad,a=some ad->a'=some ⟨ad.block,ad.off+off*sz,none⟩)/\(a'=none->len=0/\cap'=0)/\(∀ad,a'=some ad->ad.spot=none))
def ZGF(E:Env)(os:J7)(id ext off len:Nat)(v:Value):Prop:= ∃o sz n,os[id]? =some o/\o.sl? =some (sz,n)/\ZXC E id ext off len v sz n
def ZSS(E:Env)(id ext i off:Nat)(v:Value)(sz n:Nat):Prop:=
 ext<=n/\(n=ext->i<ext/\ ∃b g cap,E.ob[id]? =some (b,.slice (some ⟨g,0,none⟩) ext cap)/\v= .pointer (some ⟨g,i*sz+off,none⟩))
def ZFq(E:Env)(os:J7)(id ext i off:Nat)(v:Value):Prop:= ∃o sz n,os[id]? =some o/\o.sl? =some (sz,n)/\ZSS E id ext i off v sz n
theorem ZGF.at'{E:Env}{os:J7}{id ext off len:Nat}{v:Value}(h:ZGF E os id ext off len v){o:Ob}{sz n:Nat}(ho:os[id]? =some o)(hs:o.sl? =some (sz,n)):ZXC E id ext off len v sz n:=by
 exact Nt
theorem ZGF.at{E:Env}{os:J7}{id ext off len:Nat}{v:Value}(h:ZGF E os id ext off len v){o:Ob}{sz:Nat}{rs:J6}(ho:os[id]? =some o)(hs:o.slice? =some (sz,rs)):ZXC E id ext off len v sz rs.length:=
 h.at' ho (Ob.slice_sl hs)
theorem ZFq.at'{E:Env}{os:J7}{id ext i off:Nat}{v:Value}(h:ZFq E os id ext i off v){o:Ob}{sz n:Nat}(ho:os[id]? =some o)(hs:o.sl? =some (sz,n)):ZSS E id ext i off v sz n:=by
 exact Nt
theorem ZFq.at{E:Env}{os:J7}{id ext i off:Nat}{v:Value}(h:ZFq E os id ext i off v){o:Ob}{sz:Nat}{rs:J6}(ho:os[id]? =some o)(hs:o.slice? =some (sz,rs)):ZSS E id ext i off v sz rs.length:=
 h.at' ho (Ob.slice_sl hs)
inductive V (E:Env) (os:J7):D->Value->Prop
 |x {x:X} {v:Value} (h:VX E.w E.st x v):V E os (.x x) v
 |ref {id ext off len:Nat} {v:Value} (h:ZGF E os id ext off len v) (h1:v.oneCell'=true):V E os (.ref id ext off len) v
 |ptr {id off b:Nat} {cu:Value} {ds:J8} (ho:os[id]? =some (.box ds)) (h:E.ob[id]? =some (b,cu)):V E os (.ptr id off) (.pointer (some ⟨b,off,none⟩))
 |mref {id b:Nat} {cu:Value} {dk:KK} {ag:Bool} {o:Ob} (ho:os[id]? =some o) (hk:o.kd=some (.map dk ag)) (h:E.ob[id]? =some (b,cu)):V E os (.mref id) (.map (some b))
 |mnil:V E os .mnil (.map none)
 |iref {mid id b:Nat} {cu:Value} {o:Ob} (ho:os[id]? =some o) (hk:o.kd=some .itr) (h:E.ob[id]? =some (b,cu)):V E os (.iref mid id) (.pointer (some ⟨b,0,none⟩))
 |stk {mid id b:Nat} {cu:Value} {o:Ob} (ho:os[id]? =some o) (hk:o.kd=some .stp) (h:E.ob[id]? =some (b,cu)):V E os (.stk mid id) (.int .i64 b)
 |bref {id off len b:Nat} {cu:Value} {ds:J8} (ho:os[id]? =some (.box ds)) (h:E.ob[id]? =some (b,cu)) (hm:len<=maxLen):V E os (.bref id off len) (.slice (some ⟨b,off,none⟩) len len)
 |eptr {id ext i off:Nat} {v:Value} (h:ZFq E os id ext i off v) (h1: ∃ad:Addr,v= .pointer (some ad)):V E os (.eptr id ext i off) v
 |vptr {cs:J9} (b off:Nat) (val:Nat->Value) (hc: ∀j x,cs[j]? =some x->E.st b (off+j)/\E.w.cell? ⟨b,off+j,none⟩=some (val j)) (hv: ∀j x,cs[j]? =some x->VX E.w E.st x (val j)):
   V E os (.vptr cs) (.pointer (some ⟨b,off,none⟩))
 |agg {ds:J8} (vs:Array Value) (hl:ds.length=vs.size) (h1: ∀v∈vs.toList,v.oneCell'=true) (hv: ∀(j:Nat) (d:D) (v:Value),ds[j]? =some d->vs[j]? =some v->V E os d v):V E os (.agg ds) (.agg vs)
 |tup {ds:J8} (vs:Array Value) (hl:ds.length=vs.size) (hv: ∀(j:Nat) (d:D) (v:Value),ds[j]? =some d->vs[j]? =some v->V E os d v):V E os (.tup ds) (.tuple vs)
 |full {rs:J6} {a:Option Addr} (n:Nat) (h:VX E.w E.st (.sl rs) (.slice a n n)):V E os (.full rs) (.slice a n n)
 |nz {rs:J6} {ad:Addr} {n c:Nat} (h:VX E.w E.st (.sl rs) (.slice (some ad) n c)):V E os (.nz rs) (.slice (some ad) n c)
 |fn {f:FuncId} {caps:J8} (vs:Array Value) (hl:caps.length=vs.size) (hv: ∀(j:Nat) (d:D) (v:Value),caps[j]? =some d->vs[j]? =some v->V E os d v):V E os (.fn f caps) (.func (.func f) #[] vs)
 |opt {b:Bool} {d:D} {v:Value} (h:b=true->V E os d v) (h':b=false->v=undef):V E os (.opt b d) v
 |und (v:Value):V E os .und v
structure Evo (E:Env) (os:J7) (E':Env) (os':J7):Prop where
 st: ∀b o,E.st b o->E'.st b o/\E'.w.cell? ⟨b,o,none⟩=E.w.cell? ⟨b,o,none⟩
 bl: ∀(id b:Nat) (cu:Value) (o:Ob) (k:Kd),os[id]? =some o->o.kd=some k->E.ob[id]? =some (b,cu)-> ∃cu' o',os'[id]? =some o'/\o'.kd=some k/\E'.ob[id]? =some (b,cu')
 rf: ∀(id:Nat) (o:Ob) (sz n:Nat),os[id]? =some o->o.sl? =some (sz,n)->
  ∃o' n',os'[id]? =some o'/\o'.sl? =some (sz,n')/\((n=n'/\E'.ob[id]? =E.ob[id]?)\/n<n')
theorem Evo.refl(E:Env)(os:J7):Evo E os E os:=⟨λ_ _ h=>⟨h,rfl⟩,λ_ _ cu o _ h hk h'=>⟨cu,o,h,hk,h'⟩,λ_ o _ rs h1 h2=>⟨o,rs,h1,h2,.inl ⟨rfl,rfl⟩⟩⟩
theorem Evo.trans{E E' E'':Env}{os os' os'':J7}(h:Evo E os E' os')(k:Evo E' os' E'' os''):Evo E os E'' os'':=by
 refine⟨λb o hs=> ?_,λid b cu o q ho hq hb=> ?_,λid o sz rs h1 h2=> ?_⟩
 .obtain⟨a1,a2⟩:=h.st b o hs;obtain⟨b1,b2⟩:=k.st b o a1;exact⟨b1,b2.trans a2⟩
 .obtain⟨cu',o',h1,h2,h3⟩:=h.bl id b cu o q ho hq hb;exact k.bl id b cu' o' q h1 h2 h3
 .obtain⟨o',rs',j1,j2,j3⟩:=h.rf id o sz rs h1 h2;obtain⟨o'',rs'',k1,k2,k3⟩:=k.rf id o' sz rs' j1 j2;refine⟨o'',rs'',k1,k2,?_⟩;rcases j3 with⟨j3,j4⟩|j3<;>rcases k3 with⟨k3,k4⟩|k3
  .exact .inl ⟨j3.trans k3,k4.trans j4⟩
  .exact N8
  .exact N8
  .exact N8
theorem ZGF.mono{E E':Env}{os os':J7}(e:Evo E os E' os'){id ext off len:Nat}{v:Value}(h:ZGF E os id ext off len v):ZGF E' os' id ext off len v:=by
 obtain⟨o,sz,rs,h1,h2,h3,h4⟩:=h;obtain⟨o',rs',k1,k2,k3⟩:=e.rf id o sz rs h1 h2;refine⟨o',sz,rs',k1,k2,?_⟩;rcases k3 with⟨k3,k4⟩|k3
 .refine⟨J0,λhl=> ?_⟩;obtain⟨h5,b,a,cap,a',cap',h6,h7⟩:=h4 J0;exact⟨h5,b,a,cap,a',cap',k4.trans h6,h7⟩
 .exact⟨J0,λhl=>absurd hl J0⟩
theorem ZFq.mono{E E':Env}{os os':J7}(e:Evo E os E' os'){id ext i off:Nat}{v:Value}(h:ZFq E os id ext i off v):ZFq E' os' id ext i off v:=by
 obtain⟨o,sz,rs,h1,h2,h3,h4⟩:=h;obtain⟨o',rs',k1,k2,k3⟩:=e.rf id o sz rs h1 h2;refine⟨o',sz,rs',k1,k2,?_⟩;rcases k3 with⟨k3,k4⟩|k3
 .refine⟨J0,λhl=> ?_⟩;obtain⟨h5,b,g,cap,h6,h7⟩:=h4 J0;exact⟨h5,b,g,cap,k4.trans h6,h7⟩
 .exact⟨J0,λhl=>absurd hl J0⟩
theorem V.mono{E E':Env}{os os':J7}(e:Evo E os E' os'){d:D}{v:Value}(h:V E os d v):V E' os' d v:=by
 induction h with
 |x h=>exact .x (h.mono e.st)
 |ref h h1=>exact .ref (h.mono e) h1
 |ptr ho h=>obtain⟨cu',o',h1,h2,h3⟩:=e.bl _ _ _ _ .box ho rfl h;obtain⟨ds',rfl⟩:=Ob.kd_box h2;exact .ptr h1 h3
 |mref ho hk h=>obtain⟨cu',o',h1,h2,h3⟩:=e.bl _ _ _ _ _ ho hk h;exact .mref h1 h2 h3
 |mnil=>exact .mnil
 |iref ho hk h=>obtain⟨cu',o',h1,h2,h3⟩:=e.bl _ _ _ _ _ ho hk h;exact .iref h1 h2 h3
 |stk ho hk h=>obtain⟨cu',o',h1,h2,h3⟩:=e.bl _ _ _ _ _ ho hk h;exact .stk h1 h2 h3
 |bref ho h hm=>obtain⟨cu',o',h1,h2,h3⟩:=e.bl _ _ _ _ .box ho rfl h;obtain⟨ds',rfl⟩:=Ob.kd_box h2;exact .bref h1 h3 hm
 |eptr h h1=>exact .eptr (h.mono e) h1
 |vptr b off val hc hv=>exact UG
 |agg vs hl h1 _ ih=>exact .agg vs hl h1 ih
 |tup vs hl _ ih=>exact .tup vs hl ih
 |full n h=>exact .full n (h.mono e.st)
 |nz h=>exact .nz (h.mono e.st)
 |fn vs hl _ ih=>exact .fn vs hl ih
 |opt _ h' ih=>exact .opt ih h'
 |und v=>exact .und v
def QJ(w:World)(fz:Bool)(e sz n:Nat)(cur:Value)(xs:List Value):Prop:=
 xs.length=n*sz/\((cur= .slice none 0 0/\n=0)\/ ∃g cap cells fr,cur= .slice (some ⟨g,0,none⟩) n cap/\w.heap[g]? =some (.cells cells e fr)/\n<=cap/\cap<=maxLen/\cells.size=cap*sz/\
  cells.toList.take (n*sz)=xs/\(fr=(0,0)\/(fz=true/\cells.size<=fr.1)))
theorem QJ.owns{w:World}{e sz n:Nat}{cur:Value}{xs:List Value}(h:QJ w false e sz n cur xs):w.ownsRow 0 e sz cur n xs:=by
 refine⟨h.1,?_⟩;rcases h.2 with h2|⟨g,cap,cells,fr,h2,h3,h4,h5,h6,h7,h8⟩
 .exact .inl h2
 .have:fr=(0,0):=by rcases h8 with h8|h8;exact h8;simp at h8
  subst this;exact .inr ⟨g,cap,cells,h2,KG _,h3,h4,h5,h6,h7⟩
theorem QJ.of_owns{w:World}{base e sz n:Nat}{cur:Value}{xs:List Value}(h:w.ownsRow base e sz cur n xs)(fz:Bool):QJ w fz e sz n cur xs:=by
 refine⟨h.1,?_⟩;rcases h.2 with h2|⟨g,cap,cells,h2,_,h3,h4,h5,h6,h7⟩
 .exact .inl h2
 .exact .inr ⟨g,cap,cells,(0,0),h2,h3,h4,h5,h6,h7,.inl rfl⟩
theorem QJ.kept{w w':World}{fz:Bool}{e sz n:Nat}{cur:Value}{xs:List Value}(h:QJ w fz e sz n cur xs)(hb: ∀g,cur.ownBlock=some g->w'.heap[g]? =w.heap[g]?):QJ w' fz e sz n cur xs:=by
 refine⟨h.1,?_⟩;rcases h.2 with h2|⟨g,cap,cells,fr,h2,h3,h4⟩
 .exact .inl h2
 .exact .inr ⟨g,cap,cells,fr,h2,by rw[hb g (by rw[h2];rfl)];exact h3,h4⟩
theorem QJ.lt{w:World}{fz:Bool}{e sz n:Nat}{cur:Value}{xs:List Value}(h:QJ w fz e sz n cur xs){g:Nat}(hg:cur.ownBlock=some g):g<w.heap.size:=by
 rcases h.2 with⟨h2,_⟩|⟨g',cap,cells,fr,h2,h3,h4⟩
 .rw[h2]at hg;cases hg
 .rw[h2]at hg;cases hg;exact(ξH h3).1
def Ob.mb:Ob->Nat×Value->Nat->Prop
 | .box _,p,b=>p.1=b
 | .rows _ _ _ _,p,b=>p.2.ownBlock=some b
 | .drw _ _ _,p,b=>p.2.ownBlock=some b
 | .mpo _ _ _,p,b=>p.1=b
 | .mpn _ _ _ _ _,p,b=>p.1=b
 | .mit _ _ _ _ _ _,p,b=>p.1=b\/p.2= .pointer (some ⟨b,0,none⟩)
 | .sit _ _,p,b=>p.1=b
 | .nit,p,b=>p.1=b
 | .fam _ _ _,p,b=> ∃vs,p.2= .tuple vs/\Value.int .i64 b∈vs.toList
 |_,_,_=>False
def VC(E:Env)(os:J7)(ag:Bool)(ds:J8)(v:Value):Prop:=
 (if ag=true then∃cs,v= .agg cs else ds.length=1/\ ∀cs,v≠ .agg cs)/\v.cells.size=ds.length/\ ∀(j:Nat) (d:D) (u:Value),ds[j]? =some d->v.cells[j]? =some u->V E os d u/\u.oneCell'=true
theorem VC.mono{E E':Env}{os os':J7}(e:Evo E os E' os'){ag:Bool}{ds:J8}{v:Value}(h:VC E os ag ds v):VC E' os' ag ds v:=
 ⟨h.1,h.2.1,λj x u hx hu=>⟨(h.2.2 j x u hx hu).1.mono e,(h.2.2 j x u hx hu).2⟩⟩
def kfV:KF->X->Value
 | .int k,.int _ n=> .int k n
 | .str,.str s=> .string (ZT s)
 |_,_=>undef
def kkV:KK->J9->Value
 | .int k,[.int _ n]=> .int k n
 | .str,[.str s]=> .string (ZT s)
 | .st a b,[x,y]=> .agg #[kfV a x,kfV b y]
 |_,_=>undef
def ZCd{κ:Type}[DecidableEq κ](mk:κ->Value)(kx:κ->J9)(E:Env)(os:J7)(b:Nat)(ag:Bool)(l:W2):Prop:=
 ∃l':List (κ×Value),Qe mk E.w b l'/\l'.length=l.length/\ ∀(i:Nat) (a:κ×Value) (q:Pr),l'[i]? =some a->l[i]? =some q->q.1=kx a.1/\VC E os ag q.2 a.2
theorem ZCd.mono{κ:Type}[DecidableEq κ]{mk:κ->Value}{kx:κ->J9}{E E':Env}{os os':J7}(e:Evo E os E' os'){b:Nat}{ag:Bool}{l:W2}(hb:E'.w.heap[b]? =E.w.heap[b]?)(h:ZCd mk kx E os b ag l):ZCd mk kx E' os' b ag l:=by
 obtain⟨l',h1,h2,h3⟩:=h;exact⟨l',h1.keep hb,h2,λi a q ha hq=>⟨(h3 i a q ha hq).1,(h3 i a q ha hq).2.mono e⟩⟩
def kxI(k:IntKind)(n:Int):J9:= [.int k n]
def kxS(b:ByteArray):J9:= [.str b.toList]
def YI(E:Env)(os:J7)(b:Nat)(dk:KK)(ag:Bool)(l:W2):Prop:=
 match dk with
 | .int k=>ZCd (Value.int k) (kxI k) E os b ag l
 | .str=>ZCd Value.string kxS E os b ag l
 | .st _ _=>False
theorem YI.mono{E E':Env}{os os':J7}(e:Evo E os E' os'){b:Nat}{dk:KK}{ag:Bool}{l:W2}(hb:E'.w.heap[b]? =E.w.heap[b]?)(h:YI E os b dk ag l):YI E' os' b dk ag l:=by
 cases dk with
 |int k=>exact ZCd.mono e hb h
 |str=>exact ZCd.mono e hb h
 |st _ _=>exact h.elim
theorem YI.lt{E:Env}{os:J7}{b:Nat}{dk:KK}{ag:Bool}{l:W2}(h:YI E os b dk ag l):b<E.w.heap.size:=by
 cases dk with
 |int k=>obtain⟨l',h1,_⟩:=h;exact h1.lt
 |str=>obtain⟨l',h1,_⟩:=h;exact h1.lt
 |st _ _=>exact h.elim
def ZFp(E:Env)(os:J7)(dk:KK)(ag:Bool)(e:MapEntry)(q:Pr):Prop:=e.key=kkV dk q.1/\VC E os ag q.2 e.val
def ZGH(E:Env)(os:J7)(dk:KK)(ag:Bool)(L:List MapEntry)(R:W2):Prop:=
 L.length=R.length/\ ∀(i:Nat) (e:MapEntry) (q:Pr),L[i]? =some e->R[i]? =some q->ZFp E os dk ag e q
theorem ZFp.mono{E E':Env}{os os':J7}(e:Evo E os E' os'){dk:KK}{ag:Bool}{x:MapEntry}{q:Pr}(h:ZFp E os dk ag x q):ZFp E' os' dk ag x q:=⟨h.1,h.2.mono e⟩
theorem ZGH.mono{E E':Env}{os os':J7}(e:Evo E os E' os'){dk:KK}{ag:Bool}{L:List MapEntry}{R:W2}(h:ZGH E os dk ag L R):ZGH E' os' dk ag L R:=⟨h.1,λi x q hx hq=>(h.2 i x q hx hq).mono e⟩
def ZMt(E:Env)(os:J7)(p:Nat×Value)(dk:KK)(ag:Bool)(it:Nat)(R:W2)(cur:Option Pr):Prop:=
 ∃ib cu es clk since seen c0 o,p.2= .pointer (some ⟨ib,0,none⟩)/\os[it]? =some o/\o.kd=some .itr/\E.ob[it]? =some (ib,cu)/\E.w.heap[ib]? =some (.mapIter (some p.1) since seen c0)/\E.w.heap[p.1]? =some (.map es clk)/\
  (∀x∈es.toList,x.born<since)/\(since<=c0/\since<=clk)/\(es.toList.map (·.born)).Nodup/\ZGH E os dk ag (leftOf es seen).toList R/\
  ∀q,cur=some q->c0=clk/\ ∃(seen':Array Nat) (e:MapEntry),seen=seen'.push e.born/\e∈es.toList/\ZFp E os dk ag e q
def ZLJ:KK->J9->Bool
 | .int k,[.int k' _]=>decide (k'=k)
 | .str,[.str _]=>true
 |_,_=>false
def ZQv(E:Env)(os:J7)(p:Nat×Value)(dk:KK)(key:J9)(sid:Nat):Prop:=
 ∃n cu o es clk e,os[sid]? =some o/\o.kd=some .stp/\E.ob[sid]? =some (n,cu)/\E.w.heap[p.1]? =some (.map es clk)/\e∈es.toList/\e.born=n/\e.key=kkV dk key/\ZLJ dk key=true
def OK0(E:Env)(os:J7):Ob->Nat×Value->Prop
 | .box ds,p=> ∃cs ty,E.w.heap[p.1]? =some (.cells cs ty (0,0))/\cs.size=ds.length/\ ∀(j:Nat) (d:D) (v:Value),ds[j]? =some d->cs[j]? =some v->V E os d v/\v.oneCell'=true
 | .rows fz e sz rs,p=> ∃xs,QJ E.w fz e sz rs.length p.2 xs/\(∀r∈rs,r.length=sz)/\ ∀(i:Nat) (r:J9) (j:Nat) (x:X) (v:Value),rs[i]? =some r->r[j]? =some x->xs[i*sz+j]? =some v->VX E.w E.st x v
 | .drw e sz rs,p=> ∃xs,QJ E.w false e sz rs.length p.2 xs/\(∀r∈rs,r.length=sz)/\ ∀(i:Nat) (r:J8) (j:Nat) (d:D) (v:Value),rs[i]? =some r->r[j]? =some d->xs[i*sz+j]? =some v->V E os d v/\v.oneCell'=true
 | .frz sz rs,p=>VX E.w E.st (.sl rs) p.2/\(∀r∈rs,r.length=sz)/\ ∀ad n c,p.2= .slice (some ad) n c->ad=⟨ad.block,0,none⟩
 | .mpo dk ag l,p=>YI E os p.1 dk ag l
 | .mit dk ag l it R cur,p=>YI E os p.1 dk ag l/\ZMt E os p dk ag it R cur
 | .mpn dk ag l key sid,p=>YI E os p.1 dk ag l/\ZQv E os p dk key sid
 | .sit s pos,p=>E.w.heap[p.1]? =some (.stringIter (ZT s) pos)
 | .nit,p=> ∃a s b,E.w.heap[p.1]? =some (.mapIter none a s b)
 | .itr,_| .stp,_| .old _ _,_| .dead,_=>True
 | .fam _ _ _,_=>False
def Ob.nof:Ob->Bool
 | .fam _ _ _=>false
 |_=>true
def brP(b:X×Nat×J6):Pr:=([b.1],[.ref (b.2.1+6) b.2.2.length 0 b.2.2.length])
def ZDw(k:Nat)(P:List W2)(B:List (X×J6))(os:J7):Prop:=
 (∃(P1 P2 P3:W2) (C:List (X×Nat×J6)) (Y:J7),P= [P1,P2,P3]/\os= .box [.ptr 1 0,.mref 4,.mref 5]:: .box [.mref 2,.mref 3]:: .mpo .str true P1:: .mpo .str true P2:: .mpo .str true P3:: .mpo .str false (C.map brP)::Y/\(C.map λb=>(b.1,b.2.2)).Perm B/\(C.map (·.2.1)).Nodup/\Y.all Ob.nof=true/\ ∀b∈C,Y[b.2.1]? =some (.rows false k 1 b.2.2))\/ ∃P1 P2:W2,P= [P1,P2]/\B= []/\os= [.box [.mref 1,.mref 2],.mpo .str true P1,.mpo .str true P2]
structure Fam (w:World) (st:Nat->Nat->Prop) (p:Nat×Value) (os:J7) (ob:List (Nat×Value)):Prop where
 len:ob.length=os.length
 hd: ∃q,ob[0]? =some q/\q.1=p.1
 ok: ∀(i:Nat) (o:Ob) (q:Nat×Value),os[i]? =some o->ob[i]? =some q->OK0 ⟨w,st,ob⟩ os o q
 dis: ∀(i j:Nat) (o o':Ob) (q q':Nat×Value) (b:Nat),os[i]? =some o->ob[i]? =some q->os[j]? =some o'->ob[j]? =some q'->o.mb q b->o'.mb q' b->i=j
 sub: ∀(i:Nat) (o:Ob) (q:Nat×Value) (b:Nat),os[i]? =some o->ob[i]? =some q->o.mb q b-> ∃vs,p.2= .tuple vs/\Value.int .i64 b∈vs.toList
 lt: ∀(vs:Array Value) (b:Nat),p.2= .tuple vs->Value.int .i64 b∈vs.toList-> ∃(i:Nat) (o:Ob) (q:Nat×Value),os[i]? =some o/\ob[i]? =some q/\o.mb q b
def OK(E:Env)(os:J7):Ob->Nat×Value->Prop
 | .fam k P B,p=> ∃os' ob',ZDw k P B os'/\Fam E.w E.st p os' ob'
 |o,p=>OK0 E os o p
theorem ZMt.mono{E E':Env}{os os':J7}(e:Evo E os E' os'){p:Nat×Value}{dk:KK}{ag:Bool}{it:Nat}{R:W2}{cur:Option Pr}(hb: ∀b,p.1=b\/p.2= .pointer (some ⟨b,0,none⟩)->E'.w.heap[b]? =E.w.heap[b]?)(h:ZMt E os p dk ag it R cur):ZMt E' os' p dk ag it R cur:=by
 obtain⟨ib,cu,es,clk,since,seen,c0,o,h1,h2,h3,h4,h5,h6,h7,h8,h9,h10,h11⟩:=h;obtain⟨cu',o',k1,k2,k3⟩:=e.bl _ _ _ _ _ h2 h3 h4;exact⟨ib,cu',es,clk,since,seen,c0,o',h1,k1,k2,k3,by rw[hb ib (.inr h1)];exact h5,by rw[hb _ (.inl rfl)];exact h6,h7,h8,h9,h10.mono e,λq hq=>by
  obtain⟨g1,s',x,g2,g3,g4⟩:=h11 q hq;exact⟨g1,s',x,g2,g3,g4.mono e⟩⟩
theorem ZQv.mono{E E':Env}{os os':J7}(e:Evo E os E' os'){p:Nat×Value}{dk:KK}{key:J9}{sid:Nat}(hb:E'.w.heap[p.1]? =E.w.heap[p.1]?)(h:ZQv E os p dk key sid):ZQv E' os' p dk key sid:=by
 obtain⟨n,cu,o,es,clk,x,h1,h2,h3,h4,h5⟩:=h;obtain⟨cu',o',k1,k2,k3⟩:=e.bl _ _ _ _ _ h1 h2 h3;exact⟨n,cu',o',es,clk,x,k1,k2,k3,by rw[hb];exact h4,h5⟩
theorem OK0.mono{E E':Env}{os os':J7}(e:Evo E os E' os'){o:Ob}{p:Nat×Value}(hb: ∀b,o.mb p b->E'.w.heap[b]? =E.w.heap[b]?)(h:OK0 E os o p):OK0 E' os' o p:=by
 cases o with
 |box ds=>
  obtain⟨cs,ty,h1,h2,h3⟩:=h;exact⟨cs,ty,by rw[hb _ rfl];exact h1,h2,λj d v hd hv=>⟨(h3 j d v hd hv).1.mono e,(h3 j d v hd hv).2⟩⟩
 |rows fz el sz rs=>
  obtain⟨xs,h1,h2,h3⟩:=h;exact⟨xs,h1.kept hb,h2,λi r j x v hr hx hv=>(h3 i r j x v hr hx hv).mono e.st⟩
 |drw el sz rs=>
  obtain⟨xs,h1,h2,h3⟩:=h;exact⟨xs,h1.kept hb,h2,λi r j x v hr hx hv=>⟨(h3 i r j x v hr hx hv).1.mono e,(h3 i r j x v hr hx hv).2⟩⟩
 |frz sz rs=>exact⟨h.1.mono e.st,h.2⟩
 |mpo dk ag l=>exact YI.mono e (hb _ rfl) h
 |mit dk ag l it R cur=>exact⟨YI.mono e (hb _ (.inl rfl)) h.1,h.2.mono e (λb hb'=>hb b hb')⟩
 |mpn dk ag l key sid=>exact⟨YI.mono e (hb _ rfl) h.1,h.2.mono e (hb _ rfl)⟩
 |sit s pos=>show E'.w.heap[p.1]? =_;rw[hb _ rfl];exact h
 |nit=>obtain⟨a,s,b,h⟩:=h;exact⟨a,s,b,by rw[hb _ rfl];exact h⟩
 |itr=>trivial
 |stp=>trivial
 |old _ _=>trivial
 |fam _ _ _=>exact h.elim
 |dead=>trivial
theorem OK0.lt{E:Env}{os:J7}{o:Ob}{p:Nat×Value}(h:OK0 E os o p){b:Nat}(hb:o.mb p b):b<E.w.heap.size:=by
 cases o with
 |box ds=>
  obtain⟨cs,ty,h1,h2,h3⟩:=h;cases hb;exact(ξH h1).1
 |rows fz e sz rs=>
  obtain⟨xs,h1,h2,h3⟩:=h;exact h1.lt hb
 |drw e sz rs=>
  obtain⟨xs,h1,h2,h3⟩:=h;exact h1.lt hb
 |mpo dk ag l=>cases hb;exact YI.lt h
 |mpn dk ag l key sid=>cases hb;exact YI.lt h.1
 |mit dk ag l it R cur=>
  rcases hb with hb|hb
  .subst hb;exact YI.lt h.1
  .obtain⟨_,ib,cu,es,clk,since,seen,c0,o,h1,h2,h3,h4,h5,_⟩:=h;rw[h1]at hb;simp only[Value.pointer.injEq,Yj,Addr.mk.injEq,and_true]at hb;subst hb;exact(ξH h5).1
 |sit s pos=>cases hb;exact(ξH h).1
 |nit=>cases hb;obtain⟨a,s,b,h⟩:=h;exact(ξH h).1
 |frz sz rs=>exact hb.elim
 |itr=>exact hb.elim
 |stp=>exact hb.elim
 |old _ _=>exact hb.elim
 |fam _ _ _=>exact h.elim
 |dead=>exact hb.elim
theorem OK.of0{E:Env}{os:J7}{o:Ob}{p:Nat×Value}(h:OK0 E os o p):OK E os o p:=by
 cases o<;>first|exact h|exact h.elim
theorem OK.to0{E:Env}{os:J7}{o:Ob}{p:Nat×Value}(h:OK E os o p):(∃k P B,o= .fam k P B)\/OK0 E os o p:=by
 cases o<;>first|exact .inr h|exact .inl ⟨_,_,_,rfl⟩
theorem Fam.lt'{w:World}{st:Nat->Nat->Prop}{p:Nat×Value}{os:J7}{ob:List (Nat×Value)}(h:Fam w st p os ob){b:Nat}{vs:Array Value}(e:p.2= .tuple vs)(hb:Value.int .i64 b∈vs.toList):b<w.heap.size:=by
 obtain⟨i,o,q,h1,h2,h3⟩:=h.lt vs b e hb;exact(h.ok i o q h1 h2).lt h3
theorem Fam.mono{w w':World}{st st':Nat->Nat->Prop}{p:Nat×Value}{os:J7}{ob:List (Nat×Value)}(hs: ∀b o,st b o->st' b o/\w'.cell? ⟨b,o,none⟩=w.cell? ⟨b,o,none⟩)(hb: ∀b:Nat,(∃vs,p.2= .tuple vs/\Value.int .i64 b∈vs.toList)->w'.heap[b]? =w.heap[b]?)(h:Fam w st p os ob):Fam w' st' p os ob:=by
 refine⟨h.len,h.hd,λi o q h1 h2=> ?_,h.dis,h.sub,h.lt⟩;have ev:Evo ⟨w,st,ob⟩ os ⟨w',st',ob⟩ os:=⟨hs,λid b cu o k ho hk hb=>⟨cu,o,ho,hk,hb⟩,λid o sz n ho hs=>⟨o,n,ho,hs,.inl ⟨rfl,rfl⟩⟩⟩;exact(h.ok i o q h1 h2).mono ev (λb hm=>hb b (h.sub i o q b h1 h2 hm))
theorem OK.lt{E:Env}{os:J7}{o:Ob}{p:Nat×Value}(h:OK E os o p){b:Nat}(hb:o.mb p b):b<E.w.heap.size:=by
 rcases h.to0 with⟨k,P,B,rfl⟩|h
 .obtain⟨os',ob',_,hf⟩:=h;obtain⟨vs,e,hb⟩:=hb;exact hf.lt' e hb
 .exact h.lt hb
theorem OK.mono{E E':Env}{os os':J7}(e:Evo E os E' os'){o:Ob}{p:Nat×Value}(hb: ∀b,o.mb p b->E'.w.heap[b]? =E.w.heap[b]?)(h:OK E os o p):OK E' os' o p:=by
 rcases h.to0 with⟨k,P,B,rfl⟩|h
 .exact h.imp λos' h=>h.imp λob' h=>⟨h.1,h.2.mono e.st hb⟩
 .exact OK.of0 (h.mono e hb)
structure Ctx where
 w0:World
 st0:Nat->Nat->Prop
 M:Nat->Prop
structure Kept (M:Nat->Prop) (w w':World):Prop where
 os:w'.os=w.os
 tape:w'.tape=w.tape
 output:w'.output=w.output
 size:w.heap.size<=w'.heap.size
 block: ∀k,k<w.heap.size-> ¬M k->w'.heap[k]? =w.heap[k]?
theorem Kept.refl(M:Nat->Prop)(w:World):Kept M w w:=⟨rfl,rfl,rfl,Zp _,λ_ _ _=>rfl⟩
theorem Kept.trans{M N:Nat->Prop}{a b c:World}(h:Kept M a b)(k:Kept N b c)(hN: ∀i,N i->M i\/a.heap.size<=i):Kept M a c:=
 ⟨k.os.trans h.os,k.tape.trans h.tape,k.output.trans h.output,ZEQ h.size k.size,λi hi hm=>(k.block i (ZPT hi h.size) (λhn=>by rcases hN i hn with h1|h1;exact hm h1;omega)).trans (h.block i hi hm)⟩
structure Rel (c:Ctx) (E:Env) (os:J7):Prop where
 len:E.ob.length=os.length
 ok: ∀(i:Nat) (o:Ob) (p:Nat×Value),os[i]? =some o->E.ob[i]? =some p->OK E os o p
 dis: ∀(i j:Nat) (o o':Ob) (p p':Nat×Value) (b:Nat),os[i]? =some o->E.ob[i]? =some p->os[j]? =some o'->E.ob[j]? =some p'->o.mb p b->o'.mb p' b->i=j
 stm: ∀b off,E.st b off->b<E.w.heap.size/\ ∀(i:Nat) (o:Ob) (p:Nat×Value),os[i]? =some o->E.ob[i]? =some p-> ¬o.mb p b
 kept:Kept c.M c.w0 E.w
 mbs: ∀(i:Nat) (o:Ob) (p:Nat×Value) (b:Nat),os[i]? =some o->E.ob[i]? =some p->o.mb p b->c.M b\/c.w0.heap.size<=b
 sto: ∀b off,E.st b off->c.st0 b off\/c.M b\/c.w0.heap.size<=b
theorem Rel.at{c:Ctx}{E:Env}{os:J7}(R:Rel c E os){i:Nat}{o:Ob}(h:os[i]? =some o): ∃p,E.ob[i]? =some p/\OK E os o p:=by
 have hi:i<E.ob.length:=by rw[R.len];exact(ZV h).1
 exact⟨E.ob[i],Zx hi,R.ok i o _ h (Zx hi)⟩
theorem Rel.world{c:Ctx}{E:Env}{os:J7}(R:Rel c E os)(w':World)(st':Nat->Nat->Prop)(hk:Kept (λ_=>False) E.w w')(hst: ∀b off,E.st b off->st' b off)(hnew: ∀b off,st' b off->E.st b off\/(E.w.heap.size<=b/\b<w'.heap.size)):
  Rel c ⟨w',st',E.ob⟩ os/\Evo E os ⟨w',st',E.ob⟩ os:=by
 have ev:Evo E os ⟨w',st',E.ob⟩ os:=⟨λb o hs=>⟨hst b o hs,World.cell?_of_block (hk.block b (R.stm b o hs).1 (λh=>h))⟩,λ_ _ cu o k h hk h'=>⟨cu,o,h,hk,h'⟩,λ_ o' _ rs' h1 h2=>⟨o',rs',h1,h2,.inl ⟨rfl,rfl⟩⟩⟩;refine⟨⟨R.len,λi o p ho hp=>(R.ok i o p ho hp).mono ev (λb hb=>hk.block b ((R.ok i o p ho hp).lt hb) (λh=>h)),R.dis,λb off hs=> ?_,?_,R.mbs,λb off hs=> ?_⟩,ev⟩
 .rcases hnew b off hs with h|h
  .exact⟨ZPT (R.stm b off h).1 hk.size,(R.stm b off h).2⟩
  .exact⟨h.2,λi o p ho hp hb=>by have:=(R.ok i o p ho hp).lt hb;omega⟩
 .exact R.kept.trans hk (λi h=>h.elim)
 .rcases hnew b off hs with h|h
  .exact R.sto b off h
  .have:=R.kept.size;exact .inr (.inr J0)
theorem Rel.push{c:Ctx}{E:Env}{os:J7}(R:Rel c E os)(w':World)(o:Ob)(p:Nat×Value)(hk:Kept (λ_=>False) E.w w')(hm: ∀b,o.mb p b->E.w.heap.size<=b)
  (hok:Evo E os ⟨w',E.st,E.ob++ [p]⟩ (os++ [o])->OK ⟨w',E.st,E.ob++ [p]⟩ (os++ [o]) o p):Rel c ⟨w',E.st,E.ob++ [p]⟩ (os++ [o])/\Evo E os ⟨w',E.st,E.ob++ [p]⟩ (os++ [o]):=by
 have ev:Evo E os ⟨w',E.st,E.ob++ [p]⟩ (os++ [o]):=by
  refine⟨λb off hs=>⟨hs,World.cell?_of_block (hk.block b (R.stm b off hs).1 (λh=>h))⟩,λid b cu oo k ho hkd h=>⟨cu,oo,?_,hkd,?_⟩,λid o' sz rs' h1 h2=>⟨o',rs',?_,h2,.inl ⟨rfl,?_⟩⟩⟩
  .rw[Yc (ZV ho).1];exact ho
  .show(E.ob++ [p])[id]? =_;rw[Yc (ZV h).1];exact h
  .rw[Yc (ZV h1).1];exact h1
  .show(E.ob++ [p])[id]? =_;rw[Yc (by rw[R.len];exact(ZV h1).1)]
 have key: ∀(i:Nat) (o1:Ob) (p1:Nat×Value),(os++ [o])[i]? =some o1->(E.ob++ [p])[i]? =some p1->(i<os.length/\os[i]? =some o1/\E.ob[i]? =some p1)\/(i=os.length/\o1=o/\p1=p):=by
  intro i o1 p1 h1 h2;by_cases hi:i<os.length
  .rw[Yc hi]at h1;rw[Yc (by rw[R.len];exact hi)]at h2;exact .inl ⟨hi,h1,h2⟩
  .have hl:=(ZV h1).1;simp at hl;have:i=os.length:=Wl
   subst this;rw[QL J0]at h1;rw[QL (by rw[R.len];omega),R.len]at h2;simp at h1 h2;exact .inr ⟨rfl,h1.symm,h2.symm⟩
 refine⟨⟨GJ,λi o1 p1 h1 h2=> ?_,λi j o1 o2 p1 p2 b h1 h2 h3 h4 h5 h6=> ?_,λb off hs=>⟨ZPT (R.stm b off hs).1 hk.size,λi o1 p1 h1 h2 h3=> ?_⟩,R.kept.trans hk (λi h=>h.elim),λi o1 p1 b h1 h2 h3=> ?_,R.sto⟩,ev⟩
 .rcases key i o1 p1 h1 h2 with⟨_,k1,k2⟩|⟨_,rfl,rfl⟩
  .exact(R.ok i o1 p1 k1 k2).mono ev (λb hb=>hk.block b ((R.ok i o1 p1 k1 k2).lt hb) (λh=>h))
  .exact hok ev
 .rcases key i o1 p1 h1 h2 with⟨i1,k1,k2⟩|⟨i1,rfl,rfl⟩<;>rcases key j o2 p2 h3 h4 with⟨j1,k3,k4⟩|⟨j1,rfl,rfl⟩
  .exact R.dis i j o1 o2 p1 p2 b k1 k2 k3 k4 h5 h6
  .have:=(R.ok i o1 p1 k1 k2).lt h5;have:=hm b h6;omega
  .have:=(R.ok j o2 p2 k3 k4).lt h6;have:=hm b h5;omega
  .omega
 .rcases key i o1 p1 h1 h2 with⟨i1,k1,k2⟩|⟨i1,rfl,rfl⟩
  .exact(R.stm b off hs).2 i o1 p1 k1 k2 h3
  .have:=hm b h3;have:=(R.stm b off hs).1;omega
 .rcases key i o1 p1 h1 h2 with⟨i1,k1,k2⟩|⟨i1,rfl,rfl⟩
  .exact R.mbs i o1 p1 b k1 k2 h3
  .have:=hm b h3;have:=R.kept.size;exact N8
def ZjX(c:Ctx)(E:Env)(os:J7)(b:Nat):Prop:=
 E.w.heap.size<=b\/((∀off,¬E.st b off)/\(∀(i:Nat) (o:Ob) (p:Nat×Value),os[i]? =some o->E.ob[i]? =some p-> ¬o.mb p b)/\(c.M b\/c.w0.heap.size<=b))
theorem Rel.set{c:Ctx}{E:Env}{os:J7}(R:Rel c E os){i:Nat}{o:Ob}{p:Nat×Value}(ho:os[i]? =some o)(hp:E.ob[i]? =some p)(w':World)(o':Ob)(p':Nat×Value)
  (hk:Kept (λb=>o.mb p b) E.w w') (hm: ∀b,o'.mb p' b->o.mb p b\/ZjX c E os b)
  (hs: ∀sz n,o.sl? =some (sz,n)-> ∃n',o'.sl? =some (sz,n')/\((n=n'/\p'=p)\/n<n'))
  (hbx: ∀k,o.kd=some k->p'.1=p.1/\o'.kd=some k)
  (hok:Evo E os ⟨w',E.st,E.ob.set i p'⟩ (os.set i o')->OK ⟨w',E.st,E.ob.set i p'⟩ (os.set i o') o' p'):
  Rel c ⟨w',E.st,E.ob.set i p'⟩ (os.set i o')/\Evo E os ⟨w',E.st,E.ob.set i p'⟩ (os.set i o'):=by
 have hio:i<os.length:=(ZV ho).1;have hip:i<E.ob.length:=(ZV hp).1;have go: ∀j,(os.set i o')[j]? =if i=j then some o' else os[j]? :=λj=>by
  rw[ZCe];by_cases h:i=j
  .subst h;simp[hio]
  .simp[h]
 have gp: ∀j,(E.ob.set i p')[j]? =if i=j then some p' else E.ob[j]? :=λj=>by
  rw[ZCe];by_cases h:i=j
  .subst h;simp[hip]
  .simp[h]
 have kst: ∀b off,E.st b off->w'.heap[b]? =E.w.heap[b]? :=λb off hb=>hk.block b (R.stm b off hb).1 (λh=>(R.stm b off hb).2 i o p ho hp h)
 have kob: ∀j oj pj,os[j]? =some oj->E.ob[j]? =some pj->j≠i-> ∀b,oj.mb pj b->w'.heap[b]? =E.w.heap[b]? :=λj oj pj h1 h2 hne b hb=>
  hk.block b ((R.ok j oj pj h1 h2).lt hb) (λh=>hne (R.dis j i oj o pj p b h1 h2 ho hp hb h))
 have ev:Evo E os ⟨w',E.st,E.ob.set i p'⟩ (os.set i o'):=by
  refine⟨λb off hb=>⟨hb,World.cell?_of_block (kst b off hb)⟩,λid b cu oo k hbo hkd hb=> ?_,λid o1 sz rs h1 h2=> ?_⟩
  .rw[gp,go];by_cases h:i=id
   .subst h;rw[hp]at hb;cases hb;rw[ho]at hbo;cases hbo;obtain⟨g1,g2⟩:=hbx k hkd;obtain⟨q1,q2⟩:=p';simp only at g1;subst g1;exact⟨q2,o',J1,g2,J1⟩
   .exact⟨cu,oo,by simp[h,hbo],hkd,by simp[h,hb]⟩
  .rw[go,gp];by_cases h:i=id
   .subst h;rw[ho]at h1;cases h1;obtain⟨rs',k1,k2⟩:=hs sz rs h2;refine⟨o',rs',J1,k1,?_⟩;rcases k2 with⟨k2,k3⟩|k2
    .exact .inl ⟨k2,by simp[k3,hp]⟩
    .exact .inr k2
   .simp only[h,if_false];exact⟨o1,rs,h1,h2,.inl ⟨rfl,trivial⟩⟩
 refine⟨⟨GJ,λj o1 p1 h1 h2=> ?_,λj k o1 o2 p1 p2 b h1 h2 h3 h4 h5 h6=> ?_,λb off hb=>⟨ZPT (R.stm b off hb).1 hk.size,λj o1 p1 h1 h2 h3=> ?_⟩,?_,λj o1 p1 b h1 h2 h3=> ?_,R.sto⟩,ev⟩
 .replace h1:=(go j).symm.trans h1
  replace h2:=(gp j).symm.trans h2
  by_cases h:i=j
  .subst h;simp at h1 h2;subst h1;subst h2;exact hok ev
  .simp[h]at h1 h2;exact(R.ok j o1 p1 h1 h2).mono ev (kob j o1 p1 h1 h2 (Ne.symm h))
 .replace h1:=(go j).symm.trans h1
  replace h2:=(gp j).symm.trans h2
  replace h3:=(go k).symm.trans h3
  replace h4:=(gp k).symm.trans h4
  by_cases hj:i=j<;>by_cases hk':i=k
  .omega
  .subst hj;simp at h1 h2;subst h1;subst h2;simp[hk']at h3 h4;rcases hm b h5 with h|h|h
   .exact R.dis _ _ _ _ _ _ b ho hp h3 h4 h h6
   .have:=(R.ok k o2 p2 h3 h4).lt h6;omega
   .exact absurd h6 (h.2.1 _ _ _ h3 h4)
  .subst hk';simp at h3 h4;subst h3;subst h4;simp[hj]at h1 h2;rcases hm b h6 with h|h|h
   .exact R.dis _ _ _ _ _ _ b h1 h2 ho hp h5 h
   .have:=(R.ok j o1 p1 h1 h2).lt h5;omega
   .exact absurd h5 (h.2.1 _ _ _ h1 h2)
  .simp[hj]at h1 h2;simp[hk']at h3 h4;exact R.dis j k o1 o2 p1 p2 b h1 h2 h3 h4 h5 h6
 .replace h1:=(go j).symm.trans h1
  replace h2:=(gp j).symm.trans h2
  by_cases hj:i=j
  .subst hj;simp at h1 h2;subst h1;subst h2;rcases hm b h3 with h|h|h
   .exact(R.stm b off hb).2 _ _ _ ho hp h
   .have:=(R.stm b off hb).1;omega
   .exact h.1 off hb
  .simp[hj]at h1 h2;exact(R.stm b off hb).2 j o1 p1 h1 h2 h3
 .exact R.kept.trans hk (λb hb=>R.mbs i o p b ho hp hb)
 .replace h1:=(go j).symm.trans h1
  replace h2:=(gp j).symm.trans h2
  by_cases hj:i=j
  .subst hj;simp at h1 h2;subst h1;subst h2;rcases hm b h3 with h|h|h
   .exact R.mbs _ _ _ b ho hp h
   .have:=R.kept.size;exact N8
   .exact h.2.2
  .simp[hj]at h1 h2;exact R.mbs j o1 p1 b h1 h2 h3
theorem QJ.vx{E:Env}{fz:Bool}{e sz:Nat}{rs:J6}{cur:Value}{xs:List Value}{st':Nat->Nat->Prop}(h:QJ E.w fz e sz rs.length cur xs)(hz: ∀r∈rs,r.length=sz)
  (hv: ∀(i:Nat) (r:J9) (j:Nat) (x:X) (v:Value),rs[i]? =some r->r[j]? =some x->xs[i*sz+j]? =some v->VX E.w E.st x v) (hst: ∀b off,E.st b off->st' b off) (hnew: ∀g,cur.ownBlock=some g-> ∀off,off<rs.length*sz->st' g off):
  VX E.w st' (.sl rs) cur:=by
 have lt: ∀i j,i<rs.length->j<sz->i*sz+j<rs.length*sz:=λi j hi hj=>by
  exact NC
 have hm: ∀ {x v},VX E.w E.st x v->VX E.w st' x v:=λh=>h.mono (λb o hb=>⟨hst b o hb,rfl⟩)
 rcases h.2 with⟨rfl,hn⟩|⟨g,cap,cells,fr,rfl,hg,hc,hcm,hcs,ht,hf⟩
 .exact .sl rs none 0 0 sz (λ_ _=>undef) hn (Zp _) (KG _) hz (λi j hi=>J0) (λ_=>⟨rfl,rfl⟩) (λ_ ad h=>W6) (λi j r x hr=>by rw[ξS hn]at hr;simp at hr)
 .have cell: ∀i j,i<rs.length->j<sz-> ∃v,xs[i*sz+j]? =some v/\E.w.cell? ⟨g,i*sz+j,none⟩=some v:=λi j hi hj=>by
   have hl:=lt i j hi hj;have hx:i*sz+j<xs.length:=by rw[h.1];exact hl
   refine⟨xs[i*sz+j],Zx hx,?_⟩;have:(cells.toList.take (rs.length*sz))[i*sz+j]? =xs[i*sz+j]? :=by rw[ht]
   rw[KQ,if_pos hl,Zx hx]at this;simp[World.cell?,hg];exact V4
  refine .sl rs _ _ cap sz (λi j=>xs.getD (i*sz+j) undef) rfl hc hcm hz (λi j hi hj=> ?_) (λh=>W6) (λ_ ad h=>Gi) (λi j r x hr hx=> ?_)
  .obtain⟨v,h1,h2⟩:=cell i j hi hj;refine⟨g,0,rfl,hnew g rfl _ (by have:=lt i j hi hj;omega),?_⟩;rw[Je,h2];simp[List.getD,h1]
  .have hi:=(ZV hr).1;have hj:j<sz:=by rw[<-hz r (Yz hr)];exact(ZV hx).1
   obtain⟨v,h1,h2⟩:=cell i j hi hj;simp only[List.getD,h1,Qu];exact hm (hv i r j x v hr hx h1)
theorem Rel.freeze{c:Ctx}{E:Env}{os:J7}(R:Rel c E os){i:Nat}{fz:Bool}{e sz:Nat}{rs:J6}{p:Nat×Value}(ho:os[i]? =some (.rows fz e sz rs))(hp:E.ob[i]? =some p):
  Rel c ⟨E.w,λb off=>E.st b off\/(p.2.ownBlock=some b/\off<rs.length*sz),E.ob⟩ (os.set i (.frz sz rs))/\
  Evo E os ⟨E.w,λb off=>E.st b off\/(p.2.ownBlock=some b/\off<rs.length*sz),E.ob⟩ (os.set i (.frz sz rs)):=by
 have hio:i<os.length:=(ZV ho).1;have go: ∀j,(os.set i (.frz sz rs))[j]? =if i=j then some (.frz sz rs)else os[j]? :=λj=>by
  rw[ZCe];by_cases h:i=j
  .subst h;simp[hio]
  .simp[h]
 obtain⟨xs,hr,hz,hv⟩:=R.ok i _ p ho hp;have ev:Evo E os ⟨E.w,λb off=>E.st b off\/(p.2.ownBlock=some b/\off<rs.length*sz),E.ob⟩ (os.set i (.frz sz rs)):=by
  refine⟨λb off hb=>⟨.inl hb,rfl⟩,λid b cu oo k hbo hkd hb=> ?_,λid o1 sz' rs' h1 h2=> ?_⟩
  .rw[go];by_cases h:i=id
   .subst h;rw[ho]at hbo;cases hbo;simp[Ob.kd]at hkd
   .exact⟨cu,oo,by simp[h,hbo],hkd,hb⟩
  rw[go];by_cases h:i=id
  .subst h;rw[ho]at h1;cases h1;simp[Ob.sl?]at h2;obtain⟨rfl,rfl⟩:=h2;exact⟨.frz sz rs,rs.length,J1,rfl,.inl ⟨rfl,rfl⟩⟩
  .exact⟨o1,rs',by simp[h,h1],h2,.inl ⟨rfl,rfl⟩⟩
 refine⟨⟨GJ,λj o1 p1 h1 h2=> ?_,λj k o1 o2 p1 p2 b h1 h2 h3 h4 h5 h6=> ?_,λb off hb=> ?_,R.kept,λj o1 p1 b h1 h2 h3=> ?_,λb off hb=> ?_⟩,ev⟩
 .replace h1:=(go j).symm.trans h1
  by_cases h:i=j
  .subst h;simp at h1;subst h1;have h2':E.ob[i]? =some p1:=h2;rw[hp]at h2';cases h2';refine⟨hr.vx hz hv (λb off hb=> .inl hb) (λg hg off hoff=> .inr ⟨hg,hoff⟩),hz,λad n c he=> ?_⟩;rcases hr.2 with⟨h3,_⟩|⟨g,cap,cells,fr,h3,_⟩
   .rw[he]at h3;cases h3
   .rw[he]at h3;cases h3;rfl
  .simp[h]at h1;exact(R.ok j o1 p1 h1 h2).mono ev (λb hb=>rfl)
 .replace h1:=(go j).symm.trans h1
  replace h3:=(go k).symm.trans h3
  by_cases hj:i=j
  .subst hj;simp at h1;subst h1;cases h5
  .by_cases hk:i=k
   .subst hk;simp at h3;subst h3;cases h6
   .simp[hj]at h1;simp[hk]at h3;exact R.dis j k o1 o2 p1 p2 b h1 h2 h3 h4 h5 h6
 .rcases hb with hb|⟨hb,hoff⟩
  .refine⟨(R.stm b off hb).1,λj o1 p1 h1 h2 h3=> ?_⟩
   replace h1:=(go j).symm.trans h1
   by_cases hj:i=j
   .subst hj;simp at h1;subst h1;cases h3
   .simp[hj]at h1;exact(R.stm b off hb).2 j o1 p1 h1 h2 h3
  .refine⟨hr.lt hb,λj o1 p1 h1 h2 h3=> ?_⟩
   replace h1:=(go j).symm.trans h1
   by_cases hj:i=j
   .subst hj;simp at h1;subst h1;cases h3
   .simp[hj]at h1;exact hj (R.dis i j _ o1 p p1 b ho hp h1 h2 hb h3)
 .replace h1:=(go j).symm.trans h1
  by_cases hj:i=j
  .subst hj;simp at h1;subst h1;cases h3
  .simp[hj]at h1;exact R.mbs j o1 p1 b h1 h2 h3
 .rcases hb with hb|⟨hb,hoff⟩
  .exact R.sto b off hb
  .exact .inr (R.mbs i _ p b ho hp hb)
theorem VX.part{w:World}{st:Nat->Nat->Prop}{rs:J6}{a:Option Addr}{n c:Nat}(h:VX w st (.sl rs) (.slice a n c)){sz:Nat}(hz: ∀r∈rs,r.length=sz)(off len:Nat)(hl:off+len<=rs.length)(a':Option Addr)(c':Nat)(hc:len<=c')(hm:c'<=maxLen)
  (ha:0<len-> ∀ad,a=some ad->a'=some ⟨ad.block,ad.off+off*sz,none⟩) (hn:a'=none->len=0/\c'=0) (hsp':0<c'-> ∀ad,a'=some ad->ad.spot=none):VX w st (.sl ((rs.drop off).take len)) (.slice a' len c'):=by
 cases h with
 |sl _ _ _ _ sz0 val hn0 hc0 hm0 hsz0 hcell hnil hsp hval=>
  have hlen:((rs.drop off).take len).length=len:=W3
  have hz': ∀r∈(rs.drop off).take len,r.length=sz:=λr hr=>hz r (ZB8 (ZBU hr))
  have hszeq:0<len->sz0=sz:=λhp=>by
   have h0:rs[0]' J0∈rs:=YG _;rw[<-hsz0 _ h0,hz _ h0]
  refine .sl _ _ _ _ sz (λi j=>val (off+i) j) hlen hc hm hz' (λi j hi hj=> ?_) hn hsp' (λi j r x hr hx=> ?_)
  .have e:=hszeq J0;subst e;obtain⟨b,o,h1,h2,h3⟩:=hcell (off+i) j J0 hj;have h4:=ha J0 _ h1;have ea:o+(off+i)*sz0+j=o+off*sz0+i*sz0+j:=by rw[JL];omega
   rw[ea]at h2 h3;exact⟨b,o+off*sz0,h4,h2,h3⟩
  .have hi:i<len:=by rw[<-hlen];exact(ZV hr).1
   refine hval (off+i) j r x ?_ hx;rw[KQ,if_pos hi,Qa]at hr;exact hr
def X.keq:X->X->Bool
 | .int _ a,.int _ b=>a==b
 | .str a,.str b=>a==b
 |_,_=>false
def ZCc:J9->J9->Bool
 | [],[]=>true
 |a::l,b::m=>a.keq b&&ZCc l m
 |_,_=>false
def Ju:W2->J9->Option J8
 | [],_=>none
 |p::l,k=>if ZCc k p.1=true then some p.2 else Ju l k
def Yo:W2->J9->J8->W2
 | [],k,v=> [(k,v)]
 |p::l,k,v=>if ZCc k p.1=true then(k,v)::l else p::Yo l k v
def ZCH:W2->J9->W2
 | [],_=> []
 |p::l,k=>if ZCc k p.1=true then l else p::ZCH l k
def ZhG:KF->X->Bool
 | .int k,.int k' _=>decide (k'=k)
 | .str,.str _=>true
 |_,_=>false
def QU:KK->D->Option J9
 | .int k,.x (.int k' n)=>if k'=k then some [.int k n]else none
 | .str,.x (.str s)=>some [.str s]
 | .st a b,.agg [.x x,.x y]=>if(ZhG a x&&ZhG b y)=true then some [x,y]else none
 |_,_=>none
def keyD:KK->J9->D
 | .int k,[.int _ n]=> .x (.int k n)
 | .str,[.str s]=> .x (.str s)
 |_,_=> .und
theorem V.keyD(E:Env)(os:J7)(dk:KK)(xs:J9):V E os (keyD dk xs) (kkV dk xs):=by
 unfold Go.Ab.keyD;split
 .exact .x (.int _ _)
 .exact .x (.str _)
 .exact .und _
theorem Zcc{dk:KK}{kd:D}{key:J9}(h:QU dk kd=some key)(hd: ∀a b,dk≠ .st a b):ZLJ dk key=true:=by
 unfold QU at h;split at h
 .split at h
  .cases h;simp[ZLJ]
  .cases h
 .cases h;rfl
 .rename_i a b x y;exact absurd rfl (hd a b)
 .cases h
theorem ZWX{dk:KK}{key:J9}(h:ZLJ dk key=true):QU dk (keyD dk key)=some key:=by
 unfold ZLJ at h;split at h
 .simp only[Ym]at h;subst h;simp[Go.Ab.keyD,QU]
 .rfl
 .cases h
def Ob.upd? :Ob->Option (KK×Bool×W2)
 | .mpo dk ag l=>some (dk,ag,l)
 | .mpn dk ag l _ _=>some (dk,ag,l)
 |_=>none
theorem OK.map{E:Env}{os:J7}{o:Ob}{p:Nat×Value}(h:OK E os o p){dk:KK}{ag:Bool}{l:W2}(hm:o.map? =some (dk,ag,l)):YI E os p.1 dk ag l:=by
 cases o<;>simp[Ob.map?]at hm
 .obtain⟨rfl,rfl,rfl⟩:=hm;exact h
 .obtain⟨rfl,rfl,rfl⟩:=hm;exact h.1
 .obtain⟨rfl,rfl,rfl⟩:=hm;exact h.1
theorem Ob.upd_spec{o:Ob}{dk:KK}{ag:Bool}{l:W2}(hm:o.upd? =some (dk,ag,l)):o.map? =some (dk,ag,l)/\o.kd=some (.map dk ag)/\o.sl? =none/\ ∀p b,o.mb p b↔p.1=b:=by
 cases o<;>simp[Ob.upd?]at hm
 .obtain⟨rfl,rfl,rfl⟩:=hm;exact⟨rfl,rfl,rfl,λ_ _=>Iff.rfl⟩
 .obtain⟨rfl,rfl,rfl⟩:=hm;exact⟨rfl,rfl,rfl,λ_ _=>Iff.rfl⟩
def ZFU(ag:Bool)(ds:J8):D:=if ag=true then .agg ds else match ds with
 | [d]=>d
 |_=> .und
def agD:D->Bool
 | .agg _=>true
 |_=>false
section
variable {κ:Type} [DecidableEq κ] {mk:κ->Value} {kx:κ->J9} {E:Env} {os:J7} {ag:Bool}
theorem ZMb(hk: ∀a b:κ,ZCc (kx a) (kx b)=decide (a=b))(k:κ): ∀(l':List (κ×Value)) (l:W2),l'.length=l.length->(∀(i:Nat) (a:κ×Value) (q:Pr),l'[i]? =some a->l[i]? =some q->q.1=kx a.1/\VC E os ag q.2 a.2)->
  (∃v xs,ZF l' k=some v/\Ju l (kx k)=some xs/\VC E os ag xs v)\/(ZF l' k=none/\Ju l (kx k)=none)
 | [],[],_,_=> .inr ⟨rfl,rfl⟩
 | [],_::_,h,_=>WG
 |_::_,[],h,_=>WG
 |a::l',q::l,h,hr=>by
  obtain⟨h1,h2⟩:=hr 0 a q rfl rfl;have ih:=ZMb hk k l' l WJ (λi a q ha hq=>hr (i+1) a q Gx UX);unfold Ju;rw[h1,hk];by_cases e:k=a.1
  .left;exact⟨a.2,q.2,Nj,by simp[e],h2⟩
  .simp only[e,decide_false,JV,if_false];have:ZF (a::l') k=ZF l' k:=Nj
   rw[this];exact ih
theorem ZK5(hk: ∀a b:κ,ZCc (kx a) (kx b)=decide (a=b))(k:κ){v:Value}{xs:J8}(hv:VC E os ag xs v): ∀(l':List (κ×Value)) (l:W2),l'.length=l.length->(∀(i:Nat) (a:κ×Value) (q:Pr),l'[i]? =some a->l[i]? =some q->q.1=kx a.1/\VC E os ag q.2 a.2)->
  (Zu l' k v).length=(Yo l (kx k) xs).length/\ ∀(i:Nat) (a:κ×Value) (q:Pr),(Zu l' k v)[i]? =some a->(Yo l (kx k) xs)[i]? =some q->q.1=kx a.1/\VC E os ag q.2 a.2
 | [],[],_,_=>by
  refine⟨rfl,λi a q ha hq=> ?_⟩;cases i with
  |zero=>simp[Zu]at ha;simp[Yo]at hq;subst ha;subst hq;exact⟨rfl,hv⟩
  |succ i=>simp[Zu]at ha
 | [],_::_,h,_=>WG
 |_::_,[],h,_=>WG
 |a::l',q::l,h,hr=>by
  obtain⟨h1,h2⟩:=hr 0 a q rfl rfl;have hr':=λ(i:Nat) (a:κ×Value) (q:Pr) ha hq=>hr (i+1) a q Gx UX
  obtain⟨k1,k2⟩:=ZK5 hk k hv l' l WJ hr';unfold Zu Yo;rw[h1,hk];by_cases e:k=a.1
  .simp only[e,decide_true,if_true];refine⟨WJ,λi a' q' ha hq=> ?_⟩;cases i with
   |zero=>simp at ha hq;subst ha;subst hq;exact⟨rfl,hv⟩
   |succ i=>exact hr' i a' q' Gx UX
  .simp only[e,decide_false,JV,if_false];refine⟨Gu,λi a' q' ha hq=> ?_⟩;cases i with
   |zero=>simp at ha hq;subst ha;subst hq;exact⟨h1,h2⟩
   |succ i=>exact k2 i a' q' Gx UX
theorem ZUp(hk: ∀a b:κ,ZCc (kx a) (kx b)=decide (a=b))(k:κ): ∀(l':List (κ×Value)) (l:W2),l'.length=l.length->(∀(i:Nat) (a:κ×Value) (q:Pr),l'[i]? =some a->l[i]? =some q->q.1=kx a.1/\VC E os ag q.2 a.2)->
  (Zh l' k).length=(ZCH l (kx k)).length/\ ∀(i:Nat) (a:κ×Value) (q:Pr),(Zh l' k)[i]? =some a->(ZCH l (kx k))[i]? =some q->q.1=kx a.1/\VC E os ag q.2 a.2
 | [],[],_,_=>⟨rfl,λi a q ha=>by simp[Zh]at ha⟩
 | [],_::_,h,_=>WG
 |_::_,[],h,_=>WG
 |a::l',q::l,h,hr=>by
  obtain⟨h1,h2⟩:=hr 0 a q rfl rfl;have hr':=λ(i:Nat) (a:κ×Value) (q:Pr) ha hq=>hr (i+1) a q Gx UX
  obtain⟨k1,k2⟩:=ZUp hk k l' l WJ hr';unfold Zh ZCH;rw[h1,hk];by_cases e:k=a.1
  .simp only[e,decide_true,if_true];exact⟨WJ,hr'⟩
  .simp only[e,decide_false,JV,if_false];refine⟨Gu,λi a' q' ha hq=> ?_⟩;cases i with
   |zero=>simp at ha hq;subst ha;subst hq;exact⟨h1,h2⟩
   |succ i=>exact k2 i a' q' Gx UX
end
theorem ZfP(k:IntKind)(a b:Int):(X.int k a).keq (X.int k b)=decide (a=b):=by
 simp only[X.keq];rw[Qg];simp
theorem Zar(k:IntKind)(a b:Int):ZCc (kxI k a) (kxI k b)=decide (a=b):=by
 simp only[kxI,ZCc,ZfP,Qh]
theorem Zdh(a b:ByteArray):(X.str a.toList).keq (X.str b.toList)=decide (a=b):=by
 simp only[X.keq];rw[Qg];simp;constructor
 .intro h;have h1:=congrArg ZT h;have e: ∀c:ByteArray,ZT c.toList=c:=λc=>by
   rw[ByteArray.toList_eq];simp[ZT]
  rw[e,e]at h1;exact h1
 .intro h;rw[h]
theorem ZbR(a b:ByteArray):ZCc (kxS a) (kxS b)=decide (a=b):=by
 simp only[kxS,ZCc,Zdh,Qh]
theorem V.cell{E:Env}{os:J7}{ag:Bool}{xs:J8}{v:Value}(h:VC E os ag xs v):V E os (ZFU ag xs) v:=by
 obtain⟨h1,h2,h3⟩:=h;unfold ZFU;cases ag with
 |true=>
  simp only[if_true]at h1|-;obtain⟨cs,rfl⟩:=h1;simp only[Value.cells]at h2 h3;refine .agg cs h2.symm (λv hv=> ?_) (λj d u hd hu=>(h3 j d u hd hu).1);obtain⟨j,hj⟩:=ZEi.1 hv;have hj':cs[j]? =some v:=by rw[<-ξO];exact hj
  have hl:j<xs.length:=by rw[<-h2];exact(ξH hj').1
  exact(h3 j xs[j] v (Zx hl) hj').2
 |false=>
  simp only[JV,if_false]at h1|-;obtain⟨h4,h5⟩:=h1
  match xs,h4 with
  | [y],_=>
   have hc:v.cells= #[v]:=by cases v<;>first|rfl|exact absurd rfl (h5 _)
   exact(h3 0 y v rfl (by rw[hc];rfl)).1
theorem ZZO{k:IntKind}{kd:D}{key:J9}(h:QU (.int k) kd=some key): ∃n,kd= .x (.int k n)/\key= [.int k n]:=by
 unfold QU at h;split at h
 .rename_i k0 k' n e1;cases e1;split at h
  .rename_i e;subst e;cases h;exact⟨n,rfl,rfl⟩
  .cases h
 .rename_i e;cases e
 .rename_i e;cases e
 .cases h
theorem ZaQ{kd:D}{key:J9}(h:QU .str kd=some key): ∃s,kd= .x (.str s)/\key= [.str s]:=by
 unfold QU at h;split at h
 .rename_i e;cases e
 .rename_i s e;cases h;exact⟨s,rfl,rfl⟩
 .rename_i e;cases e
 .cases h
theorem V.tup2{E:Env}{os:J7}{d:D}{v:Value}(h:V E os d v)(b:Bool):V E os (.tup [d,.x (.bool b)]) (.tuple #[v,.bool b]):=by
 refine .tup _ rfl (λj d' u hd hu=> ?_)
 match j with
 |0=>simp at hd hu;subst hd;subst hu;exact h
 |1=>simp at hd hu;subst hd;subst hu;exact V.x (.bool b)
 |j+2=>simp at hd
theorem V.tup1{E:Env}{os:J7}{d:D}{v:Value}(h:V E os d v):V E os (.tup [d]) (.tuple #[v]):=by
 refine .tup _ rfl (λj d' u hd hu=> ?_)
 match j with
 |0=>simp at hd hu;subst hd;subst hu;exact h
 |j+1=>simp at hd
theorem V.tupP{E:Env}{os:J7}{d1 d2:D}{v1 v2:Value}(h1:V E os d1 v1)(h2:V E os d2 v2):V E os (.tup [d1,d2]) (.tuple #[v1,v2]):=by
 refine .tup _ rfl (λj d' u hd hu=> ?_)
 match j with
 |0=>simp at hd hu;subst hd;subst hu;exact h1
 |1=>simp at hd hu;subst hd;subst hu;exact h2
 |j+2=>simp at hd
theorem V.tup3{E:Env}{os:J7}{d1 d2 d3:D}{v1 v2 v3:Value}(h1:V E os d1 v1)(h2:V E os d2 v2)(h3:V E os d3 v3):V E os (.tup [d1,d2,d3]) (.tuple #[v1,v2,v3]):=by
 refine .tup _ rfl (λj d' u hd hu=> ?_)
 match j with
 |0=>simp at hd hu;subst hd;subst hu;exact h1
 |1=>simp at hd hu;subst hd;subst hu;exact h2
 |2=>simp at hd hu;subst hd;subst hu;exact h3
 |j+3=>simp at hd
def kkD:KK->TypeDesc
 | .int k=> .int k
 |_=> .string
theorem Zav(s:List UInt8):kxS (ZT s)= [X.str s]:=by simp[kxS,Js]
theorem YI.cases{E:Env}{os:J7}{b:Nat}{dk:KK}{ag:Bool}{l:W2}(h:YI E os b dk ag l){kd:D}{key:J9}(hk:QU dk kd=some key){kv:Value}(hv:V E os kd kv){C:Prop}
  (H: ∀ {κ:Type} [DecidableEq κ] (mk:κ->Value) (kx:κ->J9) (_:KeyKind (kkD dk) mk) (_: ∀a b,ZCc (kx a) (kx b)=decide (a=b)) (_: ∀(E:Env) os l,ZCd mk kx E os b ag l->YI E os b dk ag l) (k:κ),ZCd mk kx E os b ag l->key=kx k->kv=mk k->kv=kkV dk key->C):C:=by
 cases dk with
 |int k=>
  obtain⟨n,rfl,rfl⟩:=ZZO hk;cases hv with
  |x hv=>
   cases hv;exact H (Value.int k) (kxI k) (Zg8 k) (Zar k) (λ_ _ _ h=>h) n h rfl rfl rfl
 |str=>
  obtain⟨s,rfl,rfl⟩:=ZaQ hk;cases hv with
  |x hv=>
   cases hv;exact H Value.string kxS ZZn ZbR (λ_ _ _ h=>h) (ZT s) h (Zav s).symm rfl rfl
 |st _ _=>exact h.elim
section
variable {b:Nat} {dk:KK} {ag:Bool} {l:W2} {P:Program} {key:J9} {kd:D} {E:Env} {os:J7} {kv:Value} {T kt elem:TypeId}
theorem YI.get(h:YI E os b dk ag l)(hk:QU dk kd=some key)(hv:V E os kd kv)(hT:P.underlying T=some (.map kt elem))(hd:P.underlying kt=some (kkD dk)){z:Value}(hz:(zeroValue elem).run P E.w= .ok z E.w)(ok:Bool):
  (∃v xs,Ju l key=some xs/\VC E os ag xs v/\(Instr.lookup T (.map (some b)) kv ok).run P E.w= .ok (if ok=true then .tuple #[v,.bool true]else v) E.w)\/
  (Ju l key=none/\(Instr.lookup T (.map (some b)) kv ok).run P E.w= .ok (if ok=true then .tuple #[z,.bool false]else z) E.w):=by
 refine h.cases hk hv (λmk kx K hq _ k h hkey hkv _=> ?_);subst hkey hkv;obtain⟨l',h1,h2,h3⟩:=h;have hr:=ZTw (P:=P) (w:=E.w) K T kt elem z hT hd hz b l' h1 k ok;rcases ZMb hq k l' l h2 h3 with⟨v,xs,g1,g2,g3⟩|⟨g1,g2⟩
 .left;refine⟨v,xs,g2,g3,?_⟩;rw[hr,g1];rfl
 .right;refine⟨g2,?_⟩;rw[hr,g1];rfl
theorem YI.up(h:YI E os b dk ag l)(hk:QU dk kd=some key)(hv:V E os kd kv)(hT:P.underlying T=some (.map kt elem))(hd:P.underlying kt=some (kkD dk)){u:Value}{xs:J8}(hu:VC E os ag xs u):
  ∃w',(Instr.mapUpdate T (.map (some b)) kv u).run P E.w= .ok () w'/\Only b E.w w'/\ ∀E' os',E'.w=w'->Evo E os E' os'->YI E' os' b dk ag (Yo l key xs):=by
 refine h.cases hk hv (λmk kx K hq hM k h hkey hkv _=> ?_);subst hkey hkv;obtain⟨l',h1,h2,h3⟩:=h;obtain⟨w',g1,g2,g3⟩:=ZNB (P:=P) (w:=E.w) K T kt elem hT hd b l' h1 k u;obtain⟨g4,g5⟩:=ZK5 hq k hu l' l h2 h3;exact V0
theorem YI.del(h:YI E os b dk ag l)(hk:QU dk kd=some key)(hv:V E os kd kv)(hT:P.underlying T=some (.map kt elem))(hd:P.underlying kt=some (kkD dk))(ty ts:TypeId):
  ∃w',(Builtin.delete_ #[T,ts] ty #[.map (some b),kv]).run P E.w= .ok (.tuple #[]) w'/\Only b E.w w'/\ ∀E' os',E'.w=w'->Evo E os E' os'->YI E' os' b dk ag (ZCH l key):=by
 refine h.cases hk hv (λmk kx K hq hM k h hkey hkv _=> ?_);subst hkey hkv;obtain⟨l',h1,h2,h3⟩:=h;obtain⟨w',g1,g2,g3⟩:=ZTK (P:=P) (w:=E.w) K T kt elem hT hd ty ts b l' h1 k;obtain⟨g4,g5⟩:=ZUp hq k l' l h2 h3;exact V0
theorem YI.entry(h:YI E os b dk ag l)(hk:QU dk kd=some key)(hv:V E os kd kv)(hT:P.underlying T=some (.map kt elem))(hd:P.underlying kt=some (kkD dk)){z:Value}(hz:(zeroValue elem).run P E.w= .ok z E.w){zs:J8}(hzs:VC E os ag zs z):
  ∃(w':World) (v:Value) (n:Nat),(Instr.mapEntry T (.map (some b)) kv).run P E.w= .ok (.tuple #[v,.int .i64 n]) w'/\Only b E.w w'/\VC E os ag ((Ju l key).getD zs) v/\(∀E' os',E'.w=w'->Evo E os E' os'->YI E' os' b dk ag (Yo l key ((Ju l key).getD zs)))/\
   ∃es clk e,w'.heap[b]? =some (.map es clk)/\e∈es.toList/\e.born=n/\e.key=kkV dk key:=by
 refine h.cases hk hv (λmk kx K hq hM k h hkey hkv hkk=> ?_);obtain⟨l',h1,h2,h3⟩:=h;obtain⟨w',v,n,g1,g2,g3,g4,g5⟩:=ZPE (P:=P) (w:=E.w) K T kt elem z hT hd hz b l' h1 k;have hvc:VC E os ag ((Ju l key).getD zs) v:=by
  rw[hkey];rcases ZMb hq k l' l h2 h3 with⟨v',xs,k1,k2,k3⟩|⟨k1,k2⟩
  .rw[k2,g3,k1];exact k3
  .rw[k2,g3,k1];exact hzs
 obtain⟨g6,g7⟩:=ZK5 hq k hvc l' l h2 h3;rw[<-hkv,hkk]at g5;rw[hkey]at g5 hvc|-;rw[hkv];rw[hkey]at g6 g7;exact⟨w',v,n,g1,g2,hvc,λE' os' hw ev=>hM E' os' _ ⟨_,by rw[hw];exact g4,g6,λi a q ha hq'=>⟨(g7 i a q ha hq').1,(g7 i a q ha hq').2.mono ev⟩⟩,g5⟩
theorem YI.store(h:YI E os b dk ag l)(hk: ∃kd kv,QU dk kd=some key/\V E os kd kv){n:Nat}{u:Value}{xs:J8}(hu:VC E os ag xs u)
  (he: ∃es clk e,E.w.heap[b]? =some (.map es clk)/\e∈es.toList/\e.born=n/\e.key=kkV dk key):
  ∃w',(Instr.entryStore T (.map (some b)) (.int .i64 n) u).run P E.w= .ok () w'/\Only b E.w w'/\ ∀E' os',E'.w=w'->Evo E os E' os'->YI E' os' b dk ag (Yo l key xs):=by
 obtain⟨kd,kv,hk,hv⟩:=hk;refine h.cases hk hv (λmk kx K hq hM k h hkey hkv hkk=> ?_);obtain⟨l',h1,h2,h3⟩:=h;obtain⟨es,clk,e,e1,e2,e3,e4⟩:=he;obtain⟨w',g1,g2,g3⟩:=ZMC (P:=P) (w:=E.w) K T b l' h1 k n u (λes' clk' h=>by
  rw[e1]at h;cases h;exact⟨e,e2,e3,by rw[e4,<-hkk,hkv]⟩)
 obtain⟨g4,g5⟩:=ZK5 hq k hu l' l h2 h3;rw[hkey];exact V0
theorem YI.each{C:Prop}(h:YI E os b dk ag l)(H: ∀ {κ:Type} [DecidableEq κ] (mk:κ->Value) (kx:κ->J9) (_: ∀(E:Env) os l,ZCd mk kx E os b ag l->YI E os b dk ag l) (_: ∀k,mk k=kkV dk (kx k)),ZCd mk kx E os b ag l->C):C:=by
 cases dk with
 |int k=>exact H (Value.int k) (kxI k) (λ_ _ _ h=>h) (λ_=>rfl) h
 |str=>exact H Value.string kxS (λ_ _ _ h=>h) (λa=>by simp only[kxS,kkV];rw[show ZT a.toList=a by rw[ByteArray.toList_eq];simp[ZT]]) h
 |st _ _=>exact h.elim
theorem YI.clear(h:YI E os b dk ag l)(hT:P.underlying T=some (.map kt elem))(ty:TypeId):
  ∃w',(Builtin.clear_ #[T] ty #[.map (some b)]).run P E.w= .ok (.tuple #[]) w'/\Only b E.w w'/\ ∀E' os',E'.w=w'->YI E' os' b dk ag []:=by
 refine h.each (λmk kx hM _ h=> ?_);obtain⟨l',h1,h2,h3⟩:=h;obtain⟨w',g1,g2,g3⟩:=ZT1 (P:=P) (w:=E.w) T kt elem hT ty b l' h1;exact⟨w',g1,g2,λE' os' hw=>hM E' os' _ ⟨[],by rw[hw];exact g3,rfl,λi a q ha=>by simp at ha⟩⟩
theorem YI.pairs(h:YI E os b dk ag l): ∃es clk,E.w.heap[b]? =some (.map es clk)/\ZGH E os dk ag es.toList l/\(∀x∈es.toList,x.born<clk)/\(es.toList.map (·.born)).Nodup:=by
 refine h.each (λmk kx _ hk h=> ?_);obtain⟨l',⟨es,clk,h1,h2,_,h4,h5⟩,h6,h7⟩:=h;refine⟨es,clk,h1,⟨?_,λi e q he hq=> ?_⟩,h4,h5⟩
 .have:=congrArg List.length h2;simp only[YZ]at this;omega
 .have h8:=congrArg (λl=>l[i]?) h2;simp only[YE,he,Yr]at h8;obtain⟨a,ha,hae⟩:=Za h8.symm;simp only[YN]at hae;obtain⟨k1,k2⟩:=h7 i a q ha hq;exact⟨by rw[k1,<-hk,hae.1],by rw[<-hae.2];exact k2⟩
theorem YI.size(h:YI E os b dk ag l): ∃es clk,E.w.heap[b]? =some (.map es clk)/\es.size=l.length:=by
 obtain⟨es,clk,h1,h2,_⟩:=h.pairs;exact⟨es,clk,h1,by rw[<-h2.1];simp⟩
theorem YI.new(E:Env)(os:J7)(w:World)(hw:E.w=w.alloc (.map #[] 0))(dk:KK)(hd: ∀a b,dk≠ .st a b)(ag:Bool):YI E os w.heap.size dk ag []:=by
 cases dk with
 |int k=>exact⟨[],by rw[hw];exact Qe.new _ w,rfl,λi a q ha=>by simp at ha⟩
 |str=>exact⟨[],by rw[hw];exact Qe.new _ w,rfl,λi a q ha=>by simp at ha⟩
 |st a b=>exact absurd rfl (hd a b)
theorem ZT4(h:YI E os b dk ag l)(hT:P.underlying T=some (.map kt elem))(ty:TypeId):(Builtin.len_ #[T] ty #[.map (some b)]).run P E.w= .ok (.int .i64 l.length) E.w:=by
 obtain⟨es,clk,h1,h2⟩:=h.size;have hg:(getObj b).run P E.w= .ok (.map es clk) E.w:=by simp[getObj,Sem.run,h1]
 simp[Builtin.len_,run_underlying hT,Sem.run_bind,Result.andThen,hg,h2,goInt]
theorem ZUF(hT:P.underlying T=some (.map kt elem))(ty:TypeId)(w:World):(Builtin.len_ #[T] ty #[.map none]).run P w= .ok (.int .i64 0) w:=by
 simp[Builtin.len_,run_underlying hT,Sem.run_bind,Result.andThen,goInt]
end
inductive IO where
 |t (n:Nat)
 |c (d:D)
 deriving Inhabited
inductive FK where
 |int (k:IntKind)
 |str
 |bool
inductive EqK where
 |bool|ptr|sl|map
 |st (fs:List (Nat×FK))
 deriving Inhabited
inductive IE where
 |mv (x:IO)
 |nck (x:IO)
 |pick (c a b:IO)
 |bin (op:BinOp) (x y:IO)
 |eq (k:EqK) (neg:Bool) (x y:IO)
 |un (op:UnOp) (x:IO)
 |cvi (k:IntKind) (x:IO)
 |b2s (x:IO)
 |s2b (e:Nat) (x:IO)
 |fld (off n:Nat) (ag:Bool) (x:IO)
 |fad (off:Nat) (x:IO)
 |iad (sz:Nat) (x i:IO)
 |iada (sz len:Nat) (x i:IO)
 |idx (x i:IO)
 |idxa (sz len:Nat) (ag:Bool) (x i:IO)
 |ld (n:Nat) (ag:Bool) (x:IO)
 |sto (n:Nat) (a v:IO)
 |box (x:IO)
 |build (zs:J8) (parts:List (Nat×Nat×IO))
 |bsl (e sz n:Nat) (parts:List IO)
 |mks (e sz by_:Nat) (z:J9) (l c:IO)
 |slc (sz:Nat) (x:IO) (lo hi mx:Option IO)
 |ext (x:IO) (i:Nat)
 |len (st:Bool) (x:IO)
 |app (e sz by_:Nat) (x y:IO)
 |apz (e sz by_:Nat) (z:J9) (x k:IO)
 |cpy (sz:Nat) (x y:IO)
 |mnx (mx:Bool) (x y:IO)
 |call (f:IO) (xs:List IO)
 |mkf (f:FuncId) (caps:List IO)
 |abx (t:Nat) (x:IO)
 |asl (n:Nat) (x:IO) (hi:Option IO)
 |mkm (dk:KK) (ag:Bool)
 |mlk (dk:KK) (ok:Bool) (z:D) (x k:IO)
 |mln (x:IO)
 |mup (dk:KK) (x k v:IO)
 |mdl (dk:KK) (x k:IO)
 |men (dk:KK) (z:D) (x k:IO)
 |est (x s v:IO)
 |mcl (x:IO)
 |rgm (x:IO)
 |rgs (x:IO)
 |nxt (st:Bool) (x:IO)
 |ent (x:IO)
 deriving Inhabited
def get:J4->Nat->D
 | [],_=> .und
 |(u,d)::φ,t=>if u=t then d else get φ t
def put:J4->Nat->D->J4
 | [],t,d=> [(t,d)]
 |(u,d')::φ,t,d=>if u=t then(t,d)::φ else(u,d')::put φ t d
def QA(t:Nat):W0->Bool
 | []=>false
 |u::us=>if t=u then true else QA t us
def keep(ks:W0):J4->J4
 | []=> []
 |(t,d)::φ=>if QA t ks=true then(t,d)::keep ks φ else keep ks φ
theorem ZOx(φ:J4)(t u:Nat)(d:D):get (put φ t d) u=if t=u then d else get φ u:=by
 induction φ with
 |nil=>simp[put,get]
 |cons p φ ih=>
  obtain⟨s,e⟩:=p;unfold put;by_cases h:s=t
  .subst h;by_cases h2:s=u
   .simp[get,h2]
   .simp[get,h2]
  .by_cases h2:s=u
   .subst h2;simp[h,get,Ne.symm h]
   .simp[h,get,h2,ih]
theorem Za8(ks:W0)(φ:J4)(t:Nat):get (keep ks φ) t=get φ t\/get (keep ks φ) t= .und:=by
 by_cases ht:QA t ks=true
 .left
  induction φ with
  |nil=>rfl
  |cons p φ ih=>
   obtain⟨s,e⟩:=p;simp only[keep];split
   .simp only[get,ih]
   .rename_i h;have:s≠t:=λe=>h (e▸ht)
    simp only[get,this,if_false];exact ih
 .right
  induction φ with
  |nil=>rfl
  |cons p φ ih=>
   obtain⟨s,e⟩:=p;simp only[keep];split
   .rename_i h;have:s≠t:=λe=>ht (e▸h)
    simp only[get,this,if_false];exact ih
   .exact ih
def ZG(φ:J4):IO->D
 | .t n=>get φ n
 | .c d=>d
def D.val:D->D
 | .opt _ d=>d.val
 |d=>d
def D.cond:D->Bool
 | .opt b d=>b&&d.cond
 |_=>true
theorem V.strip{E:Env}{os:J7}{d:D}{v:Value}(h:V E os d v)(hc:d.cond=true):V E os d.val v:=by
 induction h with
 |opt h1 h2 ih=>
  rename_i b d v;simp only[D.cond,Zk]at hc;exact ih hc.1 hc.2
 |x h=>exact .x h
 |ref h h1=>exact .ref h h1
 |ptr ho h=>exact .ptr ho h
 |eptr h h1=>exact .eptr h h1
 |vptr b off val h1 h2=>exact .vptr b off val h1 h2
 |mref ho hk h=>exact .mref ho hk h
 |mnil=>exact .mnil
 |iref ho hk h=>exact .iref ho hk h
 |stk ho hk h=>exact .stk ho hk h
 |bref ho h hm=>exact .bref ho h hm
 |agg vs hl h1 hv=>exact .agg vs hl h1 hv
 |tup vs hl hv=>exact .tup vs hl hv
 |full n h=>exact .full n h
 |nz h=>exact .nz h
 |fn vs hl hv=>exact .fn vs hl hv
 |und v=>exact .und v
def D.cells? :D->Option J8
 | .agg ds=>some ds
 | .tup _| .opt _ _| .und=>none
 |d=>some [d]
def ZBf(op:BinOp)(k:IntKind)(a b:Int):Option Int:=
 match op with
 | .and=>some (k.wrap (BitVec.ofInt k.bits a&&&BitVec.ofInt k.bits b).toNat)
 | .or=>some (k.wrap (BitVec.ofInt k.bits a|||BitVec.ofInt k.bits b).toNat)
 | .xor=>some (k.wrap (BitVec.ofInt k.bits a^^^BitVec.ofInt k.bits b).toNat)
 | .andNot=>some (k.wrap (BitVec.ofInt k.bits a&&& ~~~BitVec.ofInt k.bits b).toNat)
 |_=>none
def ZAZ(op:BinOp):D->D->J5
 | .x (.int k a),.x (.int k' b)=>
  match op with
  | .shl=>some (decide (0<=b),.x (.int k (k.wrap (a*2^(min b.toNat k.bits)))))
  | .shr=>some (decide (0<=b),.x (.int k (a.fdiv (2^(min b.toNat k.bits)))))
  | .add=>some (k==k',.x (.int k (k.wrap (a+b))))
  | .sub=>some (k==k',.x (.int k (k.wrap (a-b))))
  | .mul=>some (k==k',.x (.int k (k.wrap (a*b))))
  | .quo=>some (k==k'&&b !=0,.x (.int k (k.wrap (a.tdiv b))))
  | .rem=>some (k==k'&&b !=0,.x (.int k (a.tmod b)))
  | .eql=>some (k==k',.x (.bool (a==b)))
  | .neq=>some (k==k',.x (.bool (a !=b)))
  | .lss=>some (k==k',.x (.bool (decide (a<b))))
  | .leq=>some (k==k',.x (.bool (decide (a<=b))))
  | .gtr=>some (k==k',.x (.bool (decide (a>b))))
  | .geq=>some (k==k',.x (.bool (decide (a>=b))))
  |op=>(ZBf op k a b).map λn=>(k==k',.x (.int k n))
 | .x (.str a),.x (.str b)=>
  match op with
  | .add=>some (decide (a.length+b.length<=9223372036854775807),.x (.str (a++b)))
  | .eql=>some (true,.x (.bool (a==b)))
  | .neq=>some (true,.x (.bool (!(a==b))))
  | .lss=>some (true,.x (.bool (Op.bytesLess a b)))
  | .leq=>some (true,.x (.bool (Op.bytesLess a b||a==b)))
  | .gtr=>some (true,.x (.bool (!(Op.bytesLess a b||a==b))))
  | .geq=>some (true,.x (.bool (!(Op.bytesLess a b))))
  |_=>none
 |_,_=>none
def eqX:FK->X->X->Option Bool
 | .int k,.int a m,.int b n=>if a=k/\b=k then some (m==n)else none
 | .str,.str s,.str t=>some (s==t)
 | .bool,.bool a,.bool b=>some (a==b)
 |_,_,_=>none
def Qz:List (Nat×FK)->J8->J8->Option Bool
 | [],_,_=>some true
 |(o,k)::l,ds,es=>match ds[o]?,es[o]? with
  |some (.x a),some (.x b)=>(eqX k a b).bind λr=>(Qz l ds es).map λq=>r&&q
  |_,_=>none
def eqD(k:EqK)(x y:D):Option Bool:=
 match k,x,y with
 | .bool,.x (.bool a),.x (.bool b)=>some (a==b)
 | .ptr,.x .nilp,.x .nilp=>some true
 | .ptr,.x .nilp,.ptr _ _| .ptr,.ptr _ _,.x .nilp| .ptr,.x .nilp,.vptr _| .ptr,.vptr _,.x .nilp| .ptr,.x .nilp,.iref _ _| .ptr,.iref _ _,.x .nilp=>some false
 | .sl,.x .nils,.x .nils=>some true
 | .map,.mnil,.mnil=>some true
 | .map,.mref _,.mnil| .map,.mnil,.mref _=>some false
 | .sl,.x (.sl (_::_)),.x .nils| .sl,.x .nils,.x (.sl (_::_))=>some false
 | .st fs,.agg ds,.agg es=>Qz fs ds es
 |_,_,_=>none
def unD(op:UnOp):D->Option D
 | .x (.bool b)=>match op with| .not=>some (.x (.bool (!b)))|_=>none
 | .x (.int k n)=>match op with
  | .neg=>some (.x (.int k (k.wrap (0-n))))
  | .xor=>(ZBf .xor k (if k.signed then-1 else k.max) n).map λm=> .x (.int k m)
  |_=>none
 |_=>none
def ZFI:J9->UInt8
 | .int .u8 n::_=>UInt8.ofNat n.toNat
 |_=>0
def ZFh:J9->Bool
 | [.int .u8 _]=>true
 |_=>false
def Zs(b:UInt8):J9:= [.int .u8 b.toNat]
def ZED:J8->Option J9
 | []=>some []
 | .x y::l=>(ZED l).map λr=>y::r
 |_=>none
def ZMi(os:J7)(id off len:Nat):Option J6:=match os[id]? with
 |some (.box ds)=>if off+len<=ds.length then(ZED ((ds.drop off).take len)).map λxs=>xs.map λx=> [x]else none
 |_=>none
def Zy(os:J7):D->Option J6
 | .x .nils=>some []
 | .x (.sl rs)=>some rs
 | .full rs=>some rs
 | .ref id ext off len=>match os[id]? with
  |some o=>match o.slice? with
   |some (_,rs)=>if rs.length=ext then some ((rs.drop off).take len)else none
   |none=>none
  |none=>none
 |_=>none
def ZAg(st:Bool):D->Option Nat
 | .x (.str s)=>if st then some s.length else none
 | .x .nils=>if st then none else some 0
 | .x (.sl rs)=>if st then none else some rs.length
 | .full rs=>if st then none else some rs.length
 | .ref _ _ _ len=>if st then none else some len
 | .bref _ _ len=>if st then none else some len
 |_=>none
def KP(os:J7):D->Bool
 | .ref id ext _ _=>match os[id]? with
  |some o=>match o.slice? with
   |some (_,rs)=>decide (rs.length=ext)
   |none=>match o.dsl? with
    |some (_,rs)=>decide (rs.length=ext)
    |none=>false
  |none=>false
 |_=>true
theorem ZWg{os:J7}{id ext off len:Nat}(h:KP os (.ref id ext off len)=true): ∃o sz,os[id]? =some o/\o.sl? =some (sz,ext):=by
 unfold KP at h;cases ho:os[id]? with
 |none=>simp[ho]at h
 |some o=>
  simp only[ho]at h;cases hs:o.slice? with
  |some p=>
   simp only[hs,Ym]at h;exact⟨o,p.1,rfl,by rw[<-h];exact Ob.slice_sl hs⟩
  |none=>
   simp only[hs]at h;cases hd:o.dsl? with
   |none=>simp[hd]at h
   |some p=>
    simp only[hd,Ym]at h;exact⟨o,p.1,rfl,by rw[<-h];exact Ob.dsl_sl hd⟩
def nzD(os:J7):D->Option Bool
 | .ref id ext off len=>some (KP os (.ref id ext off len)&&decide (0<len))
 | .x (.sl rs)=>some (decide (0<rs.length))
 | .full rs=>some (decide (0<rs.length))
 | .nz _=>some true
 |_=>none
def eqR(os:J7)(k:EqK)(x y:D):Option (Bool×Bool):=
 match eqD k x y with
 |some r=>some (true,r)
 |none=>match k,y with
  | .sl,.x .nils=>(nzD os x).map λb=>(b,false)
  |_,_=>none
def Jh(os:J7):D->Option X
 | .x x=>some x
 | .bref id off len=>(ZMi os id off len).map .sl
 |d=>(Zy os d).map .sl
def X.scalar:X->Bool
 | .int _ _| .bool _| .str _| .nilp| .nils=>true
 | .sl _=>false
def D.scalar:D->Bool
 | .x y=>y.scalar
 | .tup []=>true
 | .tup [.x a]=>a.scalar
 | .tup [.x a,.x b]=>a.scalar&&b.scalar
 | .tup [.x a,.x b,.x c]=>a.scalar&&b.scalar&&c.scalar
 |_=>false
def D.isX:D->Bool
 | .x _=>true
 |_=>false
def D.plain:D->Bool
 | .x _=>true
 | .agg ds=>ds.all D.isX
 | .fn _ []=>true
 |_=>false
def Qq(os:J7):D->Option D
 | .x x=>some (.x x)
 | .agg ds=>(ds.mapM (Jh os)).map λxs=> .agg (xs.map .x)
 | .fn f []=>some (.fn f [])
 |d=>(Jh os d).map .x
def ZD :D->Option Int
 | .x (.int _ n)=>some n
 |_=>none
def JY(φ:J4):List (Nat×Nat×IO)->J8->Option (Bool×J8)
 | [],acc=>some (true,acc)
 |(off,sz,x)::ps,acc=>(ZG φ x).val.cells?.bind λcs=>if cs.length=sz/\off+sz<=acc.length then
   (JY φ ps (acc.take off++cs++acc.drop (off+sz))).map λr=>((ZG φ x).cond&&r.1,r.2)else none
def ZIG(φ:J4)(x:IO)(lo hi mx:Option IO):J5:=
 match(ZG φ x).val with
 | .x (.str s)=>match lo.map (λl=>ZG φ l),hi.map (λh=>ZG φ h),mx with
  |none,none,none=>some ((ZG φ x).cond,.x (.str s))
  |some l,none,none=>(ZD l.val).map λ(n:Int)=>((ZG φ x).cond&&(l.cond&&(decide (0<=n)&&decide (n<=s.length))),.x (.str (s.drop n.toNat)))
  |none,some h,none=>(ZD h.val).map λ(m:Int)=>((ZG φ x).cond&&(h.cond&&(decide (0<=m)&&decide (m<=s.length))),.x (.str (s.take m.toNat)))
  |some l,some h,none=>(ZD l.val).bind λ(n:Int)=>(ZD h.val).map λ(m:Int)=>((ZG φ x).cond&&((l.cond&&h.cond)&&(decide (0<=n)&&(decide (n<=m)&&decide (m<=s.length)))),.x (.str ((s.take m.toNat).drop n.toNat)))
  |_,_,_=>none
 |_=>none
def KB:Option D->Option Bool
 |none=>some true
 |some d=>(ZD d.val).map λ(n:Int)=>d.cond&&decide (n=0)
def ZJb(φ:J4)(os:J7)(sz:Nat)(x:IO)(lo hi mx:Option IO):J5:=
 match(ZG φ x).val with
 | .x .nils=>(KB (lo.map λl=>ZG φ l)).bind λp=>(KB (hi.map λl=>ZG φ l)).bind λq=>(KB (mx.map λl=>ZG φ l)).map λr=>((ZG φ x).cond&&((mx.isNone||hi.isSome)&&(p&&(q&&r))),.x .nils)
 | .x (.sl rs)=>match lo.map (λl=>ZG φ l),hi.map (λh=>ZG φ h),mx.map (λh=>ZG φ h)with
  |none,none,none=>some ((ZG φ x).cond,.x (.sl rs))
  |some l,none,none=>(ZD l.val).map λ(n:Int)=>((ZG φ x).cond&&(l.cond&&(decide (0<=n)&&(decide (n<=rs.length)&&rs.all λr=>decide (r.length=sz)))),.x (.sl (rs.drop n.toNat)))
  |none,some h,none=>(ZD h.val).map λ(m:Int)=>((ZG φ x).cond&&(h.cond&&(decide (0<=m)&&(decide (m<=rs.length)&&rs.all λr=>decide (r.length=sz)))),.x (.sl (rs.take m.toNat)))
  |some l,some h,none=>(ZD l.val).bind λ(n:Int)=>(ZD h.val).map λ(m:Int)=>((ZG φ x).cond&&((l.cond&&h.cond)&&(decide (0<=n)&&(decide (n<=m)&&(decide (m<=rs.length)&&rs.all λr=>decide (r.length=sz))))),.x (.sl ((rs.take m.toNat).drop n.toNat)))
  |l,some h,some mi=>(KB l).bind λz=>(ZD h.val).bind λ(n:Int)=>(ZD mi.val).map λ(m:Int)=>((ZG φ x).cond&&(z&&(h.cond&&(mi.cond&&(decide (0<=n)&&(decide (n<=rs.length)&&(decide (n=m)&&rs.all λr=>decide (r.length=sz))))))),.full (rs.take n.toNat))
  |_,_,_=>none
 | .ref id ext off len=>match os[id]? with
  |some o=>match o.slice? with
   |some (sz',rs)=>match lo.map (λl=>ZG φ l),hi.map (λh=>ZG φ h),mx with
    |some l,none,none=>(ZD l.val).map λ(n:Int)=>((ZG φ x).cond&&(l.cond&&(decide (sz'=sz)&&(decide (rs.length=ext)&&(decide (0<=n)&&decide (n<=len))))),.ref id ext (off+n.toNat) (len-n.toNat))
    |none,some h,none=>(ZD h.val).map λ(m:Int)=>((ZG φ x).cond&&(h.cond&&(decide (sz'=sz)&&(decide (rs.length=ext)&&(decide (0<=m)&&decide (m<=len))))),.ref id ext off m.toNat)
    |some l,some h,none=>(ZD l.val).bind λ(n:Int)=>(ZD h.val).map λ(m:Int)=>((ZG φ x).cond&&((l.cond&&h.cond)&&(decide (sz'=sz)&&(decide (rs.length=ext)&&(decide (0<=n)&&(decide (n<=m)&&decide (m<=len)))))),.ref id ext (off+n.toNat) (m.toNat-n.toNat))
    |_,_,_=>none
   |none=>none
  |none=>none
 |_=>none
def ZS(S:FuncId->J8->J5)(φ:J4)(os:J7):IE->J5
 | .mv x=>some (true,ZG φ x)
 | .nck x=>match(ZG φ x).val with
  | .ptr i o=>some ((ZG φ x).cond,.ptr i o)
  | .vptr cs=>some ((ZG φ x).cond,.vptr cs)
  | .eptr a b c d=>some ((ZG φ x).cond,.eptr a b c d)
  |_=>none
 | .pick c a b=>match(ZG φ c).val,(ZG φ a).val,(ZG φ b).val with
  | .x (.bool p),.x (.bool q),.x (.bool r)=>some ((ZG φ c).cond&&((!p||(ZG φ a).cond)&&(p||(ZG φ b).cond)),.x (.bool (bif p then q else r)))
  | .x (.bool true),.x (.bool q),_=>some ((ZG φ c).cond&&(ZG φ a).cond,.x (.bool q))
  | .x (.bool false),_,.x (.bool r)=>some ((ZG φ c).cond&&(ZG φ b).cond,.x (.bool r))
  |_,_,_=>none
 | .bin op x y=>(ZAZ op (ZG φ x).val (ZG φ y).val).map λr=>((ZG φ x).cond&&((ZG φ y).cond&&r.1),r.2)
 | .eq k neg x y=>(eqR os k (ZG φ x).val (ZG φ y).val).map λr=>((ZG φ x).cond&&(ZG φ y).cond&&r.1,.x (.bool (r.2 !=neg)))
 | .un op x=>(unD op (ZG φ x).val).map λr=>((ZG φ x).cond,r)
 | .cvi k x=>match(ZG φ x).val with
  | .x (.int _ n)=>some ((ZG φ x).cond,.x (.int k (k.wrap n)))
  |_=>none
 | .b2s x=>(Zy os (ZG φ x).val).map λrs=>((ZG φ x).cond&&rs.all ZFh,.x (.str (rs.map ZFI)))
 | .fld off n ag x=>match(ZG φ x).val with
  | .agg ds=>if ag then some ((ZG φ x).cond,.agg ((ds.drop off).take n))else(ds[off]?).map λd=>((ZG φ x).cond,d)
  |_=>none
 | .fad off x=>match(ZG φ x).val with
  | .ptr i o=>some ((ZG φ x).cond,.ptr i (o+off))
  | .eptr i e k o=>some ((ZG φ x).cond,.eptr i e k (o+off))
  | .vptr cs=>some ((ZG φ x).cond,.vptr (cs.drop off))
  |_=>none
 | .iad sz x i=>match ZD (ZG φ i).val with
  |none=>none
  |some n=>match(ZG φ x).val with
   | .x (.sl rs)=>(rs[n.toNat]?).map λr=>((ZG φ x).cond&&(ZG φ i).cond&&(decide (0<=n)&&decide (r.length=sz)),.vptr r)
   | .full rs=>(rs[n.toNat]?).map λr=>((ZG φ x).cond&&(ZG φ i).cond&&(decide (0<=n)&&decide (r.length=sz)),.vptr r)
   | .ref id ext off len=>match os[id]? with
    |some o=>match o.slice? with
     |some (sz',rs)=>some ((ZG φ x).cond&&(ZG φ i).cond&&(decide (sz'=sz)&&(decide (rs.length=ext)&&(decide (0<=n)&&decide (n<len)))),.eptr id ext (off+n.toNat) 0)
     |none=>match o.dsl? with
      |some (sz',rs)=>some ((ZG φ x).cond&&(ZG φ i).cond&&(decide (sz'=sz)&&(decide (rs.length=ext)&&(decide (0<=n)&&decide (n<len)))),.eptr id ext (off+n.toNat) 0)
      |none=>none
    |none=>none
   | .bref id off len=>some ((ZG φ x).cond&&(ZG φ i).cond&&(decide (sz=1)&&(decide (0<=n)&&decide (n<len))),.ptr id (off+n.toNat))
   |_=>none
 | .iada sz len x i=>match ZD (ZG φ i).val with
  |none=>none
  |some n=>match(ZG φ x).val with
   | .ptr id o=>some ((ZG φ x).cond&&(ZG φ i).cond&&(decide (0<=n)&&decide (n<len)),.ptr id (o+n.toNat*sz))
   | .vptr cs=>some ((ZG φ x).cond&&(ZG φ i).cond&&(decide (0<=n)&&decide (n<len)),.vptr (cs.drop (n.toNat*sz)))
   | .eptr id ext j o=>some ((ZG φ x).cond&&(ZG φ i).cond&&(decide (0<=n)&&decide (n<len)),.eptr id ext j (o+n.toNat*sz))
   |_=>none
 | .idx x i=>match(ZG φ x).val,(ZG φ i).val with
  | .x (.str s),.x (.int _ n)=>some ((ZG φ x).cond&&(ZG φ i).cond&&(decide (0<=n)&&decide (n<s.length)),.x (.int .u8 (s.getD n.toNat 0).toNat))
  |_,_=>none
 | .idxa sz len ag x i=>match(ZG φ x).val,(ZG φ i).val with
  | .agg ds,.x (.int _ n)=>if ag then some ((ZG φ x).cond&&(ZG φ i).cond&&(decide (0<=n)&&decide (n<len)),.agg ((ds.drop (n.toNat*sz)).take sz))
   else(ds[n.toNat*sz]?).map λd=>((ZG φ x).cond&&(ZG φ i).cond&&(decide (0<=n)&&decide (n<len)),d)
  |_,_=>none
 | .ld n ag x=>match(ZG φ x).val with
  | .ptr id o=>match os[id]? with
   |some (.box ds)=>if ag then some ((ZG φ x).cond&&decide (((ds.drop o).take n).length=n),.agg ((ds.drop o).take n))else(ds[o]?).map λd=>((ZG φ x).cond,d)
   |_=>none
  | .eptr id ext i o=>match os[id]? with
   |some ob=>match ob.slice? with
    |some (_,rs)=>(rs[i]?).bind λr=>if ag then some ((ZG φ x).cond&&(decide (rs.length=ext)&&decide (((r.drop o).take n).length=n)),.agg (((r.drop o).take n).map .x))else(r[o]?).map λd=>((ZG φ x).cond&&decide (rs.length=ext),.x d)
    |none=>match ob.dsl? with
     |some (_,rs)=>(rs[i]?).bind λr=>if ag then some ((ZG φ x).cond&&(decide (rs.length=ext)&&decide (((r.drop o).take n).length=n)),.agg ((r.drop o).take n))else(r[o]?).map λd=>((ZG φ x).cond&&decide (rs.length=ext),d)
     |none=>none
   |none=>none
  | .vptr cs=>if ag then some ((ZG φ x).cond&&decide ((cs.take n).length=n),.agg ((cs.take n).map .x))else(cs[0]?).map λd=>((ZG φ x).cond,.x d)
  |_=>none
 | .build zs parts=>(JY φ parts zs).map λr=>(r.1,.agg r.2)
 | .slc sz x lo hi mx=>if sz=0 then ZIG φ x lo hi mx else ZJb φ os sz x lo hi mx
 | .ext x i=>match(ZG φ x).val with
  | .tup ds=>(ds[i]?).map λd=>((ZG φ x).cond,d)
  |_=>none
 | .len st x=>(ZAg st (ZG φ x).val).map λ(n:Nat)=>((ZG φ x).cond&&KP os (ZG φ x).val,.x (.int .i64 n))
 | .mnx mx x y=>match(ZG φ x).val,(ZG φ y).val with
  | .x (.int k a),.x (.int _ b)=>some ((ZG φ x).cond&&(ZG φ y).cond,.x (.int k (if mx then(if b>a then b else a)else(if b<a then b else a))))
  |_,_=>none
 | .call f xs=>match(ZG φ f).val with
  | .fn g caps=>((xs.map (ZG φ)).mapM λd=>Qq os d.val).bind λas=>(caps.mapM (Qq os)).bind λcs=>(S g (as++cs)).bind λr=>
   if r.2.scalar||(((xs.map (ZG φ)).all λd=>d.val.plain)&&caps.all D.plain)then some ((ZG φ f).cond&&((xs.map (ZG φ)).all D.cond&&r.1),r.2)else none
  |_=>none
 | .mkf f caps=>some (true,.fn f (caps.map (ZG φ)))
 | .mlk dk ok z x k=>match(ZG φ x).val with
  | .mref id=>match(os[id]?).bind Ob.map? with
   |some (dk',ag,l)=>if dk'=dk then(QU dk (ZG φ k).val).map λkey=>((ZG φ x).cond&&(ZG φ k).cond,match Ju l key with
     |some xs=>if ok=true then .tup [ZFU ag xs,.x (.bool true)]else ZFU ag xs
     |none=>if ok=true then .tup [z,.x (.bool false)]else z)else none
   |none=>none
  |_=>none
 | .mln x=>match(ZG φ x).val with
  | .mref id=>match(os[id]?).bind Ob.map? with
   |some (_,_,l)=>some ((ZG φ x).cond,.x (.int .i64 l.length))
   |none=>none
  | .mnil=>some ((ZG φ x).cond,.x (.int .i64 0))
  |_=>none
 | .ent x=>match(ZG φ x).val with
  | .iref mid it=>match os[mid]? with
   |some (.mit dk ag _ it' _ (some q))=>if it'=it then some ((ZG φ x).cond,.tup [keyD dk q.1,ZFU ag q.2])else none
   |_=>none
  |_=>none
 | .asl n x none=>match(ZG φ x).val with
  | .ptr id o=>match os[id]? with
   |some (.box ds)=>some ((ZG φ x).cond&&(decide (0<n)&&(decide (o+n<=ds.length)&&decide (n<=16777216))),.bref id o n)
   |_=>none
  |_=>none
 |_=>none
def ZBk:Value->D
 | .int k n=> .x (.int k n)
 | .bool b=> .x (.bool b)
 | .string s=> .x (.str s.data.toList)
 | .pointer none=> .x .nilp
 | .slice none 0 0=> .x .nils
 | .map none=> .mnil
 |_=> .und
def Kl:Value->D
 | .agg cs=>if cs.toList.all (·.oneCell')then .agg (cs.toList.map ZBk)else .und
 |v=>ZBk v
theorem ZZm(s:ByteArray):ZT s.data.toList=s:=by cases s;simp[ZT]
theorem V.const1(E:Env)(os:J7)(v:Value):V E os (ZBk v) v:=by
 unfold ZBk;split
 .exact .x (.int _ _)
 .exact .x (.bool _)
 .rename_i s;have:=VX.str (w:=E.w) (st:=E.st) s.data.toList;rw[ZZm]at this;exact .x this
 .exact .x .nilp
 .exact .x .nils
 .exact .mnil
 .exact .und _
theorem V.const(E:Env)(os:J7)(v:Value):V E os (Kl v) v:=by
 unfold Kl;split
 .rename_i cs;split
  .rename_i h;refine .agg cs J1 (λv hv=>Yg.1 h v hv) (λj d v hd hv=> ?_);rw[YE]at hd;rw[<-ξO]at hv;rw[hv]at hd;cases hd;exact V.const1 E os v
  .exact .und _
 .exact V.const1 E os v
def ZY:Operand->Option IO
 | .tmp t=>some (.t t)
 | .const v=>some (.c (Kl v))
 | .func f=>some (.c (.fn f []))
 | .global _=>none
structure Fr (n:Nat) (E:Env) (os:J7) (φ:J4) (a:Act):Prop where
 size:a.tmps.size=n
 defers:a.defers= []
 slot: ∀t,V E os (get φ t) (a.tmps.getD t undef)
theorem Fr.mono{n:Nat}{E E':Env}{os os':J7}{φ:J4}{a:Act}(h:Fr n E os φ a)(e:Evo E os E' os'):Fr n E' os' φ a:=⟨h.size,h.defers,λt=>(h.slot t).mono e⟩
theorem Fr.keep{n:Nat}{E:Env}{os:J7}{φ:J4}{a:Act}(h:Fr n E os φ a)(ks:W0):Fr n E os (Go.Ab.keep ks φ) a:=
 ⟨h.size,h.defers,λt=>by rcases Za8 ks φ t with e|e<;>rw[e];exact h.slot t;exact .und _⟩
theorem Fr.put{n:Nat}{E:Env}{os:J7}{φ:J4}{a:Act}(h:Fr n E os φ a){t:Nat}{d:D}{v:Value}(ht:t<n)(hv:V E os d v):Fr n E os (Go.Ab.put φ t d) (a.put (some t) v):=by
 refine⟨by simp[Act.put,h.size],h.defers,λu=> ?_⟩;rw[ZOx];show V E os _ ((a.tmps.setIfInBounds t v).getD u undef);by_cases e:t=u
 .subst e;have:(a.tmps.setIfInBounds t v).getD t undef=v:=by simp[ZD0,h.size,ht]
  rw[this];simpa using hv
 .have:(a.tmps.setIfInBounds t v).getD u undef=a.tmps.getD u undef:=by simp[ZD0,e]
  rw[this];simpa[e]using h.slot u
theorem V.op{n:Nat}{E:Env}{os:J7}{φ:J4}{a:Act}(h:Fr n E os φ a){x:Operand}{y:IO}(hx:ZY x=some y):V E os (ZG φ y) (a.eval x):=by
 cases x with
 |tmp t=>cases hx;exact h.slot t
 |const v=>cases hx;exact V.const E os v
 |global g=>cases hx
 |func f=>cases hx;exact .fn #[] rfl (λj d v hd=>by simp at hd)
def Zja:TypeDesc->Bool
 | .struct _| .array _ _=>true
 |_=>false
def Ke(P:Program)(t:TypeId):Option Nat:=(P.info? t).map (·.size)
def ZF0(P:Program)(t:TypeId):Option Bool:=(P.underlying t).map Zja
def QE:Option Operand->Option (Option IO)
 |none=>some none
 |some x=>(ZY x).map some
def ZDG(Yx:Nat->Option (Nat×Nat)):List (Nat×Operand)->Option (List (Nat×Nat×IO))
 | []=>some []
 |(j,x)::l=>do
  let p<-Yx j
  let y<-ZY x
  let r<-ZDG Yx l
  some ((p.1,p.2,y)::r)
def ZHX:Nat->List (Nat×Operand)->Option (List IO)
 |_,[]=>some []
 |i,(j,x)::l=>if j=i then do
   let y<-ZY x
   let r<-ZHX (i+1) l
   some (y::r)
  else none
def ZLO:Value->Option J9
 | .agg cs=>cs.toList.mapM λv=>match ZBk v with| .x x=>some x|_=>none
 |v=>match ZBk v with| .x x=>some [x]|_=>none
def ZMs(P:Program)(t:TypeId):Option KK:=match P.underlying t with
 |some (.int k)=>some (.int k)
 |some .string=>some .str
 |_=>none
theorem ZEG{P:Program}{t:TypeId}{dk:KK}(h:ZMs P t=some dk):P.underlying t=some (kkD dk)/\ ∀a b,dk≠ .st a b:=by
 unfold ZMs at h;split at h
 .rename_i k e;cases h;exact⟨e,λa b h=>W6⟩
 .rename_i e;cases h;exact⟨e,λa b h=>W6⟩
 .cases h
def ZB4(P:Program)(c:Call):Option IE:=
 match c.callee with
 | .value f=>do some (.call (<-ZY f) (<-c.args.toList.mapM ZY))
 | .builtin .len=>match c.args.toList,c.argTypes.toList with
  | [x],[t]=>match P.underlying t with
   |some .string=>do some (.len true (<-ZY x))
   |some (.slice _)=>do some (.len false (<-ZY x))
   |some (.map _ _)=>do some (.mln (<-ZY x))
   |_=>none
  |_,_=>none
 | .builtin .append=>match c.args.toList,c.argTypes.toList with
  | [x,y],[t,u]=>match P.underlying t,P.underlying u with
   |some (.slice e),some (.int _)=>(P.info? e).bind λi=>i.zero.bind λz=>(ZLO z).bind λzx=>do some (.apz e i.size i.bytes zx (<-ZY x) (<-ZY y))
   |some (.slice e),some (.slice _)=>(P.info? e).bind λi=>i.zero.bind λz=>if t=u/\z.cells.size=i.size then do some (.app e i.size i.bytes (<-ZY x) (<-ZY y))else none
   |_,_=>none
  |_,_=>none
 | .builtin .copy=>match c.args.toList,c.argTypes.toList with
  | [x,y],[t,_]=>match P.underlying t with
   |some (.slice e)=>do some (.cpy (<-Ke P e) (<-ZY x) (<-ZY y))
   |_=>none
  |_,_=>none
 | .builtin .delete=>match c.args.toList,c.argTypes.toList with
  | [x,k],[t,_]=>match P.underlying t with
   |some (.map key _)=>(ZMs P key).bind λdk=>do some (.mdl dk (<-ZY x) (<-ZY k))
   |_=>none
  |_,_=>none
 | .builtin .clear=>match c.args.toList,c.argTypes.toList with
  | [x],[t]=>match P.underlying t with
   |some (.map _ _)=>do some (.mcl (<-ZY x))
   |_=>none
  |_,_=>none
 | .builtin .min=>match c.args.toList with| [x,y]=>do some (.mnx false (<-ZY x) (<-ZY y))|_=>none
 | .builtin .max=>match c.args.toList with| [x,y]=>do some (.mnx true (<-ZY x) (<-ZY y))|_=>none
 |_=>none
def stF(P:Program):List Field->Option (List (Nat×FK))
 | []=>some []
 |f::fs=>if f.name= "_" then none else match P.underlying f.type with
  |some (.int k)=>(stF P fs).map λl=>(f.offset,.int k)::l
  |some .string=>(stF P fs).map λl=>(f.offset,.str)::l
  |some .bool=>(stF P fs).map λl=>(f.offset,.bool)::l
  |_=>none
def ZTt(P:Program)(t:TypeId):Option (List (Nat×FK)):=
 match P.underlying t with
 |some (.struct fs)=>if P.stoodInHeld t||P.eqGuardType P.depth t then none else stF P fs.toList
 |some (.array n e)=>match P.underlying e with
  |some .string=>if P.cellsOf e≠1||P.eqGuardType P.depth t then none else some ((List.range n).map λi=>(i,.str))
  |_=>none
 |_=>none
def ZdM(P:Program)(t:Nat):Bool:=match P.underlying t with
 |some (.array _ _)=>true
 |_=>false
def Ka(P:Program):Op->Option IE
 | .move x=>do some (.mv (<-ZY x))
 | .assign x=>do some (.mv (<-ZY x))
 | .pick c a b=>do some (.pick (<-ZY c) (<-ZY a) (<-ZY b))
 | .box t x=>(ZY x).map λy=>if ZdM P t=true then .abx t y else .box y
 | .alloc t=>(P.info? t).bind λi=>i.zero.map λz=>if ZdM P t=true then .abx t (.c (Kl z))else .box (.c (Kl z))
 | .build t parts=>match P.info? t,P.underlying t with
  |some it,some (.array _ e)=>match it.zero,P.info? e with
   |some z,some ie=>(Kl z).cells?.bind λzs=>(ZDG (λi=>some (i*ie.size,ie.size)) parts.toList).map λps=> .build zs ps
   |_,_=>none
  |some it,some (.struct fs)=>match it.zero,fs.toList.mapM (λf=>(P.info? f.type).map λi=>(f.offset,i.size))with
   |some z,some places=>(Kl z).cells?.bind λzs=>(ZDG (places.toArray[·]?) parts.toList).map λps=> .build zs ps
   |_,_=>none
  |_,_=>none
 | .buildSlice t n parts=>match P.underlying t with
  |some (.slice e)=>(P.info? e).bind λi=>i.zero.bind λ_=>if parts.size=n/\n*i.size<=16777216/\n<=16777216 then(ZHX 0 parts.toList).map λps=> .bsl e i.size n ps else none
  |_=>none
 | .load t x=>do some (.ld (<-Ke P t) (<-ZF0 P t) (<-ZY x))
 | .store t x y=>do some (.sto (<-Ke P t) (<-ZY x) (<-ZY y))
 | .nilCheck x=>do some (.nck (<-ZY x))
 | .binOp op t x y _=>match P.underlying t with
  |some (.int _)|some .string=>do some (.bin op (<-ZY x) (<-ZY y))
  |some .bool=>match op with
   | .eql=>do some (.eq .bool false (<-ZY x) (<-ZY y))
   | .neq=>do some (.eq .bool true (<-ZY x) (<-ZY y))
   |_=>none
  |some (.pointer _)=>match op with
   | .eql=>do some (.eq .ptr false (<-ZY x) (<-ZY y))
   | .neq=>do some (.eq .ptr true (<-ZY x) (<-ZY y))
   |_=>none
  |some (.map _ _)=>match op with
   | .eql=>do some (.eq .map false (<-ZY x) (<-ZY y))
   | .neq=>do some (.eq .map true (<-ZY x) (<-ZY y))
   |_=>none
  |some (.slice _)=>match op with
   | .eql=>do some (.eq .sl false (<-ZY x) (<-ZY y))
   | .neq=>do some (.eq .sl true (<-ZY x) (<-ZY y))
   |_=>none
  |some (.struct _)=>(ZTt P t).bind λfs=>match op with
   | .eql=>do some (.eq (.st fs) false (<-ZY x) (<-ZY y))
   | .neq=>do some (.eq (.st fs) true (<-ZY x) (<-ZY y))
   |_=>none
  |some (.array _ _)=>(ZTt P t).bind λfs=>match op with
   | .eql=>do some (.eq (.st fs) false (<-ZY x) (<-ZY y))
   | .neq=>do some (.eq (.st fs) true (<-ZY x) (<-ZY y))
   |_=>none
  |_=>none
 | .unOp op _ x=>do some (.un op (<-ZY x))
 | .convert s d x=>match P.underlying s,P.underlying d with
  |some (.int _),some (.int k)=>do some (.cvi k (<-ZY x))
  |some (.slice e),some .string=>match P.underlying e with
   |some (.int .u8)=>do some (.b2s (<-ZY x))
   |_=>none
  |some .string,some (.slice e)=>match P.underlying e with
   |some (.int .u8)=>do some (.s2b e (<-ZY x))
   |_=>none
  |_,_=>none
 | .makeSlice t l c=>match P.underlying t with
  |some (.slice e)=>(P.info? e).bind λi=>i.zero.bind λz=>(ZLO z).bind λzx=>do some (.mks e i.size i.bytes zx (<-ZY l) (<-ZY c))
  |_=>none
 | .slice t x lo hi mx=>match P.underlying t with
  |some .string=>do some (.slc 0 (<-ZY x) (<-QE lo) (<-QE hi) (<-QE mx))
  |some (.slice e)=>(Ke P e).bind λz=>if z=0 then none else do some (.slc z (<-ZY x) (<-QE lo) (<-QE hi) (<-QE mx))
  |some (.array n e)=>(Ke P e).bind λz=>if z=1/\n<=16777216/\lo=none/\mx=none then do some (.asl n (<-ZY x) (<-QE hi))else none
  |_=>none
 | .fieldAddr s x f=>match P.underlying s with
  |some (.struct fs)=>(fs[f]?).bind λfd=>(Ke P fd.type).bind λz=>if z=0 then none else do some (.fad fd.offset (<-ZY x))
  |_=>none
 | .field t x f=>match P.underlying t with
  |some (.struct fs)=>(fs[f]?).bind λfd=>do some (.fld fd.offset (<-Ke P fd.type) (<-ZF0 P fd.type) (<-ZY x))
  |_=>none
 | .indexAddr t x i=>match P.underlying t with
  |some (.slice e)=>do some (.iad (<-Ke P e) (<-ZY x) (<-ZY i))
  |some (.array n e)=>do some (.iada (<-Ke P e) n (<-ZY x) (<-ZY i))
  |_=>none
 | .index t x i=>match P.underlying t with
  |some .string=>do some (.idx (<-ZY x) (<-ZY i))
  |some (.array n e)=>do some (.idxa (<-Ke P e) n (<-ZF0 P e) (<-ZY x) (<-ZY i))
  |_=>none
 | .extract x i=>do some (.ext (<-ZY x) i)
 | .call c=>ZB4 P c
 | .makeMap t r=>match r,P.underlying t with
  |none,some (.map key elem)=>(ZMs P key).bind λdk=>(ZF0 P elem).map λag=> .mkm dk ag
  |_,_=>none
 | .lookup t x y ok=>match P.underlying t with
  |some (.map key elem)=>(ZMs P key).bind λdk=>(P.info? elem).bind λi=>i.zero.bind λz=>do some (.mlk dk ok (Kl z) (<-ZY x) (<-ZY y))
  |_=>none
 | .mapEntry t x y=>match P.underlying t with
  |some (.map key elem)=>(ZMs P key).bind λdk=>(P.info? elem).bind λi=>i.zero.bind λz=>do some (.men dk (Kl z) (<-ZY x) (<-ZY y))
  |_=>none
 | .entryStore _ x y u=>do some (.est (<-ZY x) (<-ZY y) (<-ZY u))
 | .range t x=>match P.underlying t with
  |some (.map _ _)=>do some (.rgm (<-ZY x))
  |some .string=>do some (.rgs (<-ZY x))
  |_=>none
 | .next x st=>do some (.nxt st (<-ZY x))
 | .entry x=>do some (.ent (<-ZY x))
 | .mapUpdate t x y u| .insert t x y u=>match P.underlying t with
  |some (.map key _)=>(ZMs P key).bind λdk=>do some (.mup dk (<-ZY x) (<-ZY y) (<-ZY u))
  |_=>none
 | .makeFunc (.func f) first caps=>if first.size=0 then do some (.mkf f (<-caps.toList.mapM ZY))else none
 |_=>none
theorem V.int{E:Env}{os:J7}{k:IntKind}{n:Int}{v:Value}(h:V E os (.x (.int k n)) v):v= .int k n:=Th
theorem V.bool{E:Env}{os:J7}{b:Bool}{v:Value}(h:V E os (.x (.bool b)) v):v= .bool b:=Th
theorem V.str{E:Env}{os:J7}{s:List UInt8}{v:Value}(h:V E os (.x (.str s)) v):v= .string (ZT s):=Th
theorem V.nilp{E:Env}{os:J7}{v:Value}(h:V E os (.x .nilp) v):v= .pointer none:=Th
theorem V.nils{E:Env}{os:J7}{v:Value}(h:V E os (.x .nils) v):v= .slice none 0 0:=Th
theorem V.ref_inv{E:Env}{os:J7}{id ext off len:Nat}{v:Value}(h:V E os (.ref id ext off len) v):ZGF E os id ext off len v:=by cases h with|ref h _=>exact h
theorem V.xx{E:Env}{os:J7}{x:X}{v:Value}(h:V E os (.x x) v):VX E.w E.st x v:=by cases h with|x h=>exact h
theorem V.mkint(E:Env)(os:J7)(k:IntKind)(n:Int):V E os (.x (.int k n)) (.int k n):= .x (.int k n)
theorem V.mkbool(E:Env)(os:J7)(b:Bool):V E os (.x (.bool b)) (.bool b):= .x (.bool b)
theorem V.mkstr(E:Env)(os:J7)(s:List UInt8):V E os (.x (.str s)) (.string (ZT s)):= .x (.str s)
section
variable {P:Program} {E:Env} {os:J7}
theorem ZR2{op:BinOp}{k:IntKind}{a b n:Int}(h:ZBf op k a b=some n)(w:World):(Op.intBits op k a b).run P w= .ok (.int k n) w:=by
 unfold ZBf at h;split at h<;>cases h<;>rfl
theorem ZeW{op:BinOp}{x y d:D}{vx vy:Value}(hx:V E os x vx)(hy:V E os y vy)(h:ZAZ op x y=some (true,d))(t:TypeId)(ox oy:Operand)(w:World):
  ∃v,(do eqGuard op t ox oy vx vy;binOp op t vx vy:Sem Value).run P w= .ok v w/\V E os d v:=by
 unfold ZAZ at h;split at h
 .rename_i k a k' b;rw[V.int hx,V.int hy];have hg:eqGuard op t ox oy (.int k a) (.int k' b)=pure ():=WV
  simp only[hg,Sem.run_bind,Sem.run_pure,Result.andThen_ok];have key: ∀(b':Bool) (r:D),some (k==k'&&b',r)=some (true,d)->k=k'/\b'=true/\r=d:=λb' r h=>by simpa[and_assoc]using h
  have key1: ∀(r:D),some (k==k',r)=some (true,d)->k=k'/\r=d:=λr h=>WJ
  have hb: ∀n,ZBf op k a b=some n->k=k'->(binOp op t (.int k a) (.int k' b)).run P w= .ok (.int k n) w:=λn hn e=>by
   subst e;rw[<-ZR2 (P:=P) hn w];unfold ZBf at hn;split at hn<;>cases hn<;>simp[binOp]
  split at h
  .exact G3
  .exact G3
  .exact U2
  .exact U2
  .exact U2
  .exact Gt
  .exact Gt
  .exact Ve
  .exact Ve
  .exact Ve
  .exact Ve
  .exact Ve
  .exact Ve
  .obtain⟨n,h1,h2⟩:=Za h;obtain⟨h3,rfl⟩:=key1 _ (congrArg some h2);exact⟨_,hb n h1 h3,V.mkint _ _ _ _⟩
 .rename_i a b;rw[V.str hx,V.str hy];have hg:eqGuard op t ox oy (.string (ZT a)) (.string (ZT b))=pure ():=WV
  simp only[hg,Sem.run_bind,Sem.run_pure,Result.andThen_ok];split at h
  .simp at h;obtain⟨h1,rfl⟩:=h;refine⟨.string (ZT (a++b)),?_,V.mkstr _ _ _⟩;have e:ZT a++ZT b=ZT (a++b):=by
    apply ByteArray.ext;simp[ZT,ByteArray.data_append]
   have h2: ¬(((ZT a).size+(ZT b).size:Nat):Int)>IntKind.i64.max:=by rw[Qk,Qk];simp[IntKind.max,IntKind.signed,IntKind.bits];omega
   simp only[binOp,Op.stringOp,if_neg h2,e,Sem.run_pure]
  .exact Vp
  .exact Vp
  .exact Vp
  .exact Vp
  .exact Vp
  .exact Vp
  .cases h
 .cases h
end
theorem JQ(b o j:Nat):(⟨b,o,none⟩:Addr).add j=⟨b,o+j,none⟩:=by unfold Addr.add;split<;>simp_all
section
variable {P:Program} {E:Env} {os:J7} {c:Ctx}
theorem ZD1{t:TypeId}{i:TypeInfo}(h:P.info? t=some i)(w:World):(typeInfo t).run P w= .ok i w:=by simp[typeInfo,h]
theorem Kq{t:TypeId}{s:Nat}(h:Ke P t=some s)(w:World):(sizeOf t).run P w= .ok s w:=by
 obtain⟨i,h1,rfl⟩:=Za h;simp[sizeOf,ZD1 h1]
theorem ZIY{t:TypeId}{b:Bool}(h:ZF0 P t=some b)(w:World):(isAgg t).run P w= .ok b w:=by
 obtain⟨d,h1,rfl⟩:=Za h;unfold isAgg;simp only[Sem.run_bind,run_underlying h1,Result.andThen_ok];cases d<;>rfl
theorem ZBM(R:Rel c E os){d:D}{v:Value}(hv:V E os d v){rs:J6}(hr:Zy os d=some rs){sz:Nat}(hz: ∀r∈rs,r.length=sz):
  ∃(a:Option Addr) (cp:Nat) (xs:List Value),v= .slice a rs.length cp/\rs.length<=cp/\cp<=maxLen/\xs.length=rs.length*sz/\(a=none->rs.length=0)/\(∀ad,a=some ad-> ∀j u,xs[j]? =some u->E.w.cell? (ad.add j)=some u)/\
   (∀u∈xs,u.oneCell'=true)/\ ∀(i:Nat) (r:J9) (j:Nat) (x:X),rs[i]? =some r->r[j]? =some x-> ∃u,xs[i*sz+j]? =some u/\VX E.w E.st x u:=by
 have base: ∀ {rs:J6} {v:Value},VX E.w E.st (.sl rs) v->(∀r∈rs,r.length=sz)-> ∃(a:Option Addr) (cp:Nat) (xs:List Value),v= .slice a rs.length cp/\rs.length<=cp/\cp<=maxLen/\xs.length=rs.length*sz/\(a=none->rs.length=0)/\(∀ad,a=some ad-> ∀j u,xs[j]? =some u->E.w.cell? (ad.add j)=some u)/\
   (∀u∈xs,u.oneCell'=true)/\ ∀(i:Nat) (r:J9) (j:Nat) (x:X),rs[i]? =some r->r[j]? =some x-> ∃u,xs[i*sz+j]? =some u/\VX E.w E.st x u:=by
  intro rs v h hz;cases h with
  |sl _ a n cp sz0 val hn hc hm hsz hcell hnil hsp hval=>
   subst hn;by_cases h0:rs.length=0
   .exact⟨a,cp,[],rfl,hc,hm,by simp[h0],λ_=>h0,λ_ _ j u hu=>(by simp at hu),λu hu=>(by cases hu),λi r j x hr=>(by rw[ξS h0]at hr;simp at hr)⟩
   have e:sz0=sz:=by
    have:rs[0]' J0∈rs:=YG _;rw[<-hsz _ this,hz _ this]
   subst e;have hlt: ∀k,k<rs.length*sz0->k/sz0<rs.length/\k % sz0<sz0:=λk hk=>by
    have hp:0<sz0:=by rcases ZOc sz0 with h|h;subst h;simp at hk;exact h
    exact⟨(Zc7 hp).2 hk,Nat.mod_lt _ hp⟩
   have hval': ∀k,k<rs.length*sz0->(val (k/sz0) (k % sz0)).oneCell'=true:=λk hk=>by
    obtain⟨h1,h2⟩:=hlt k hk;have hr:=Zx h1;have hl:(rs[k/sz0]).length=sz0:=hsz _ (YG _);exact(hval _ _ _ _ hr (Zx (by rw[hl];exact h2))).one
   refine⟨a,cp,(List.range (rs.length*sz0)).map λk=>val (k/sz0) (k % sz0),rfl,hc,hm,J1,λh=>(hnil h).1,λad had j u hu=> ?_,λu hu=> ?_,λi r j x hr hx=> ?_⟩
   .obtain⟨hj,hu⟩:=ZV hu;simp at hj;simp at hu;obtain⟨h1,h2⟩:=hlt j hj;obtain⟨b,off,k1,_,k3⟩:=hcell (j/sz0) (j % sz0) h1 h2;rw[had]at k1;cases k1;rw[JQ,<-hu,<-k3];have:j/sz0*sz0+j % sz0=j:=by rw[ZJA];exact ZW8 j sz0
    congr 2;omega
   .obtain⟨k,hk,rfl⟩:=YR.1 hu;exact hval' k (ZE4.1 hk)
   .have hi:=(ZV hr).1;have hj:j<sz0:=by rw[<-hsz r (Yz hr)];exact(ZV hx).1
    have hp:0<sz0:=Wl
    have hlt2:i*sz0+j<rs.length*sz0:=by
     have:(i+1)*sz0<=rs.length*sz0:=Ku _ hi;exact VE
    refine⟨val i j,?_,hval i j r x hr hx⟩;have e1:(i*sz0+j)/sz0=i:=by rw[ZJA,Nat.mul_add_div hp,Nat.div_eq_of_lt hj];rfl
    have e2:(i*sz0+j) % sz0=j:=by rw[ZJA,Nat.mul_add_mod,Nat.mod_eq_of_lt hj]
    rw[YE,ZMQ hlt2];simp[e1,e2]
 unfold Zy at hr;split at hr
 .cases hr;rw[V.nils hv];exact⟨none,0,[],rfl,Zp _,KG _,J1,λ_=>rfl,λ_ h=>W6,λu hu=>(by cases hu),λi r j x h=>WG⟩
 .cases hr;exact base hv.xx hz
 .cases hr;cases hv with
  |full n h=>exact base h hz
 .rename_i id ext off len;split at hr
  .rename_i o ho;split at hr
   .rename_i sz' rs' hsl;split at hr
    .rename_i hext;cases hr;cases hv with
     |ref h _=>
      obtain⟨p,hp,hok⟩:=R.at ho;obtain⟨h1,h2⟩:=h.at ho hsl;obtain⟨h3,b,a,cap,a',cap',h4,h5,h6,h7,h8,h9,-,-⟩:=h2 hext;rw[hp]at h4;cases h4;have hlen:((rs'.drop off).take len).length=len:=W3
      rw[hlen];by_cases hl0:len=0
      .subst hl0;exact⟨a',cap',[],h5,h6,h7,J1,λ_=>rfl,λ_ _ j u hu=>(by simp at hu),λu hu=>(by cases hu),λi r j x hr=>(by simp at hr)⟩
      have hsz: ∀r∈rs',r.length=sz':=by
       cases o with
       |box ds=>cases hsl
       |rows fz e s r=>simp[Ob.slice?]at hsl;obtain⟨rfl,rfl⟩:=hsl;obtain⟨xs,q1,q2,q3⟩:=hok;exact q2
       |frz s r=>simp[Ob.slice?]at hsl;obtain⟨rfl,rfl⟩:=hsl;exact hok.2.1
       |_=>cases hsl
      have e:sz'=sz:=by
       have hm:((rs'.drop off).take len)[0]' J0∈(rs'.drop off).take len:=YG _;rw[<-hz _ hm];exact(hsz _ (ZB8 (ZBU hm))).symm
      subst e;have own: ∃xs:List Value,xs.length=rs'.length*sz'/\(∀ad,a=some ad-> ∀j u,xs[j]? =some u->E.w.cell? (ad.add j)=some u)/\(∀u∈xs,u.oneCell'=true)/\
        (∀(i:Nat) (r:J9) (j:Nat) (x:X),rs'[i]? =some r->r[j]? =some x-> ∃u,xs[i*sz'+j]? =some u/\VX E.w E.st x u)/\a≠none:=by
       cases o with
       |box ds=>cases hsl
       |rows fz e s r=>
        simp[Ob.slice?]at hsl;obtain⟨rfl,rfl⟩:=hsl;obtain⟨xs,q1,q2,q3⟩:=hok;have hval: ∀(i:Nat) (r':J9) (j:Nat) (x:X),r[i]? =some r'->r'[j]? =some x-> ∃u,xs[i*s+j]? =some u/\VX E.w E.st x u:=by
         intro i r' j x hi hj;have h1:=(ZV hi).1;have h2:j<s:=by rw[<-q2 r' (Yz hi)];exact(ZV hj).1
         have h3:i*s+j<xs.length:=by
          rw[q1.1];have:(i+1)*s<=r.length*s:=Ku _ h1;exact VE
         exact⟨_,Zx h3,q3 i r' j x _ hi hj (Zx h3)⟩
        refine⟨xs,q1.1,λad had j u hu=> ?_,λu hu=> ?_,hval,?_⟩
        .rcases q1.2 with⟨hc,_⟩|⟨g,cp,cells,fr,hc,hg,k1,k2,k3,k4,k5⟩
         .simp at hc;rw[hc.1]at had;cases had
         .simp at hc;obtain⟨hc,_⟩:=hc;rw[hc]at had;cases had;rw[JQ,Je];have hj:=(ZV hu).1;rw[<-k4,KQ,if_pos (by rw[q1.1]at hj;exact hj)]at hu;simp[World.cell?,hg];simpa using hu
        .obtain⟨k,hk,rfl⟩:=ZKm.1 hu;have hk':k<r.length*s:=by rw[<-q1.1];exact hk
         have hp:0<s:=by rcases ZOc s with h|h;subst h;simp at hk';exact h
         have hi:k/s<r.length:=(Zc7 hp).2 hk';have hj:k % s<s:=Nat.mod_lt _ hp;have hrl:(r[k/s]).length=s:=q2 _ (YG _);obtain⟨u,h1,h2⟩:=hval (k/s) _ (k % s) _ (Zx hi) (Zx (by rw[hrl];exact hj));have:k/s*s+k % s=k:=by rw[ZJA];exact ZW8 k s
         rw[this,Zx hk]at h1;cases h1;exact h2.one
        .intro ha;rcases q1.2 with⟨hc,hn⟩|⟨g,cp,cells,fr,hc,hg,k1,k2,k3,k4,k5⟩
         .omega
         .simp at hc;rw[hc.1]at ha;cases ha
       |frz s r=>
        simp[Ob.slice?]at hsl;obtain⟨rfl,rfl⟩:=hsl;obtain⟨a1,cp1,xs,q1,q2,q3,q4,q5,q6,q7,q8⟩:=base hok.1 hsz;rw[hext]at q1;simp at q1;obtain⟨rfl,-⟩:=q1;exact⟨xs,q4,q6,q7,q8,λh=>by have:=q5 h;omega⟩
       |_=>cases hsl
      obtain⟨xs,x1,x2,x3,x4,x5⟩:=own;cases a with
      |none=>exact absurd rfl x5
      |some ad=>
      have ha':=h9 J0 ad rfl;refine⟨a',cap',(xs.drop (off*sz')).take (len*sz'),h5,h6,h7,?_,λh=>(by rw[ha']at h;cases h),λad' had' j u hu=> ?_,λu hu=>x3 u (ZB8 (ZBU hu)),λi r j x hr hx=> ?_⟩
      .rw[Ys,KO,x1];have:(off+len)*sz'<=rs'.length*sz':=Ku _ J0;exact VE
      .rw[ha']at had';cases had';have hj:=(ZV hu).1;rw[Ys]at hj;rw[KQ,if_pos J0,Qa]at hu;have hspot:ad.spot=none:=by
        have:=x2 ad rfl _ u hu;have hs:=World.cell?_spot this;unfold Addr.add at hs;by_cases hz:off*sz'+j=0
        .simpa[hz]using hs
        .have h00:xs[0]? =some (xs[0]'(by have:=(ZV hu).1;omega)):=Zx _;have:=World.cell?_spot (x2 ad rfl 0 _ h00);simpa[Addr.add]using this
       obtain⟨b0,o0,sp⟩:=ad;simp only at hspot;subst hspot;have:=x2 _ rfl _ u hu;rw[JQ]at this|-;rw[<-this];dsimp only;rw[ZEq]
      .have hi:i<len:=by have:=(ZV hr).1;omega
       rw[KQ,if_pos hi,Qa]at hr;obtain⟨u,k1,k2⟩:=x4 (off+i) r j x hr hx;have hj:j<sz':=by rw[<-hsz r (Yz hr)];exact(ZV hx).1
       have hlt:i*sz'+j<len*sz':=by
        have:(i+1)*sz'<=len*sz':=Ku _ hi;exact VE
       refine⟨u,?_,k2⟩;rw[KQ,if_pos hlt,Qa,<-k1];congr 1;rw[JL];omega
    .cases hr
   .cases hr
  .cases hr
 .cases hr
end
section
variable {P:Program} {E:Env} {os:J7} {c:Ctx}
theorem ZO8{w:World}{t n:Nat}(hs:Ke P t=some n)(ha:ZF0 P t=some true)(ad:Addr)(xs:List Value)(hc: ∀j u,xs[j]? =some u->w.cell? (ad.add j)=some u)(hl:xs.length=n):
  (loadVar t ad).run P w= .ok (.agg xs.toArray) w:=by
 have h:=run_loadCells_list (P:=P) (w:=w) ad xs hc;rw[hl]at h;simp[loadVar,ZIY ha,Kq hs,h]
theorem ZM8{w:World}{t:Nat}(ha:ZF0 P t=some false)(ad:Addr)(v:Value)(hc:w.cell? ad=some v):(loadVar t ad).run P w= .ok v w:=by
 simp[loadVar,ZIY ha,load,Sem.run,hc]
theorem V.agg_part{ds:J8}{vs:Array Value}(h:V E os (.agg ds) (.agg vs))(off n:Nat):V E os (.agg ((ds.drop off).take n)) (.agg (vs.extract off (off+n))):=by
 cases h with
 |agg _ hl h1 hv=>
  refine .agg _ (by simp[hl];omega) (λv hv'=> ?_) (λj d v hd hv'=> ?_)
  .simp at hv';exact h1 v (ZB8 (by exact ZBU hv'))
  .have hj:j<n:=UF
   rw[KQ,if_pos hj,Qa]at hd;rw[Array.getElem?_extract]at hv';split at hv'
   .exact hv _ d v hd hv'
   .cases hv'
theorem OK.cap{o:Ob}{p:Nat×Value}{sz:Nat}{rs:J6}(h:OK E os o p)(hs:o.slice? =some (sz,rs)){a:Option Addr}{n cap:Nat}(hp:p.2= .slice a n cap):n<=cap/\cap<=maxLen/\n=rs.length/\(∀r∈rs,r.length=sz)/\(a=none->n=0/\cap=0)/\(∀ad,a=some ad->ad=⟨ad.block,0,none⟩):=by
 cases o with
 |box ds=>cases hs
 |rows fz e s r=>
  simp[Ob.slice?]at hs;obtain⟨rfl,rfl⟩:=hs;obtain⟨xs,q1,q2,q3⟩:=h;rw[hp]at q1;rcases q1.2 with⟨hc,hn⟩|⟨g,cp,cells,fr,hc,hg,k1,k2,k3,k4,k5⟩
  .exact G5
  .simp at hc;obtain⟨rfl,rfl,rfl⟩:=hc;exact⟨k1,k2,rfl,q2,λh=>W6,λad h=>Gi⟩
 |frz s r=>
  simp[Ob.slice?]at hs;obtain⟨rfl,rfl⟩:=hs;have h1:=h.1;rw[hp]at h1;cases h1 with
  |sl _ _ _ _ sz0 val hn hc hm hsz hcell hnil hsp hval=>exact⟨hc,hm,hn.symm,h.2.1,hnil,λad had=>h.2.2 ad _ _ (by rw[hp,had])⟩
 |_=>cases hs
theorem ZMw(R:Rel c E os){id ext i off:Nat}{v:Value}(hv:V E os (.eptr id ext i off) v){o:Ob}{sz:Nat}{rs:J6}(ho:os[id]? =some o)(hs:o.slice? =some (sz,rs))(he:rs.length=ext):
  i<ext/\ ∃(g:Nat) (xs:List Value),v= .pointer (some ⟨g,i*sz+off,none⟩)/\xs.length=ext*sz/\(∀j u,xs[j]? =some u->E.w.cell? ⟨g,j,none⟩=some u)/\(∀u∈xs,u.oneCell'=true)/\(∀r∈rs,r.length=sz)/\
   ∀(i:Nat) (r:J9) (j:Nat) (x:X),rs[i]? =some r->r[j]? =some x-> ∃u,xs[i*sz+j]? =some u/\VX E.w E.st x u:=by
 cases hv with
 |eptr h _=>
  obtain⟨h1,h2⟩:=h.at ho hs;obtain⟨h3,b,g,cap,h4,h5⟩:=h2 he;obtain⟨p,hp,hok⟩:=R.at ho;rw[hp]at h4;cases h4;obtain⟨k1,k2,k3,k4,-⟩:=hok.cap hs rfl;have hr:V E os (.ref id ext 0 ext) (.slice (some ⟨g,0,none⟩) ext cap):=by
   refine .ref ⟨o,sz,rs.length,ho,Ob.slice_sl hs,?_⟩ rfl;exact⟨J0,λ_=>⟨J0,b,_,cap,_,cap,hp,rfl,k1,k2,λ_=>⟨rfl,rfl⟩,λ_ ad had=>(by cases had;simp),λh=>W6,λad had=>(by cases had;rfl)⟩⟩
  have hrow:Zy os (.ref id ext 0 ext)=some rs:=by simp[Zy,ho,hs,he];rw[<-he,JX]
  obtain⟨a,cp,xs,q1,q2,q3,q4,q5,q6,q7,q8⟩:=ZBM R hr hrow k4;simp at q1;obtain⟨rfl,-,rfl⟩:=q1;refine⟨h3,g,xs,h5,by rw[q4,he],λj u hu=> ?_,q7,k4,q8⟩;have:=q6 _ rfl j u hu;rw[JQ,Je]at this;exact this
theorem ZhZ{k m sz:Nat}(h:k<m*sz):k/sz<m/\k % sz<sz/\k/sz*sz+k % sz=k:=by
 have hp:0<sz:=by rcases sz with _|z;simp at h;omega
 refine⟨Nat.div_lt_of_lt_mul (by rw[ZJA];exact h),Nat.mod_lt _ hp,?_⟩;have:=ZW8 k sz;rw[ZJA]at this;exact this
theorem ZQR{e sz:Nat}{rs:List J8}{p:Nat×Value}(h:OK E os (.drw e sz rs) p){g n cap:Nat}(hg:p.2= .slice (some ⟨g,0,none⟩) n cap):
  n=rs.length/\ ∃xs:List Value,xs.length=rs.length*sz/\(∀j u,xs[j]? =some u->E.w.cell? ⟨g,j,none⟩=some u)/\(∀u∈xs,u.oneCell'=true)/\(∀r∈rs,r.length=sz)/\
   ∀(i:Nat) (r:J8) (j:Nat) (d:D),rs[i]? =some r->r[j]? =some d-> ∃u,xs[i*sz+j]? =some u/\V E os d u:=by
 obtain⟨xs,h1,h2,h3⟩:=h;have lt: ∀i j,i<rs.length->j<sz->i*sz+j<rs.length*sz:=λi j hi hj=>by
  exact NC
 rcases h1.2 with⟨h4,_⟩|⟨g',cap',cells,fr,h4,h5,h6,h7,h8,h9,h10⟩
 .rw[hg]at h4;cases h4
 .rw[hg]at h4;cases h4;refine⟨rfl,xs,h1.1,λj u hu=> ?_,λu hu=> ?_,h2,λi r j d hr hd=> ?_⟩
  .have hj:=(ZV hu).1;rw[h1.1]at hj;rw[<-h9,KQ,if_pos hj]at hu;simp[World.cell?,h5];simpa using hu
  .obtain⟨k,hk,rfl⟩:=ZWQ hu;rw[h1.1]at hk;obtain⟨d1,d2,d3⟩:=ZhZ hk;have hr:rs[k/sz]? =some rs[k/sz]:=Zx d1;have hrl:(rs[k/sz]).length=sz:=h2 _ (YG d1);exact(h3 (k/sz) _ (k % sz) _ _ hr (Zx J0) (by rw[d3];exact Zx (by rw[h1.1];exact hk))).2
  .have hi:=(ZV hr).1;have hj:j<sz:=by rw[<-h2 r (Yz hr)];exact(ZV hd).1
   have hx:i*sz+j<xs.length:=by rw[h1.1];exact lt i j hi hj
   exact⟨xs[i*sz+j],Zx hx,(h3 i r j d _ hr hd (Zx hx)).1⟩
theorem Ze6{e sz:Nat}{rs:List J8}{p:Nat×Value}(h:OK E os (.drw e sz rs) p){a:Option Addr}{n cap:Nat}(hp:p.2= .slice a n cap):n<=cap/\cap<=maxLen/\n=rs.length/\(∀r∈rs,r.length=sz)/\(a=none->n=0/\cap=0)/\(∀ad,a=some ad->ad=⟨ad.block,0,none⟩):=by
 obtain⟨xs,q1,q2,q3⟩:=h;rw[hp]at q1;rcases q1.2 with⟨hc,hn⟩|⟨g,cp,cells,fr,hc,hg,k1,k2,k3,k4,k5⟩
 .exact G5
 .simp at hc;obtain⟨rfl,rfl,rfl⟩:=hc;exact⟨k1,k2,rfl,q2,λh=>W6,λad h=>Gi⟩
theorem ZLZ(R:Rel c E os){id ext i off:Nat}{v:Value}(hv:V E os (.eptr id ext i off) v){e sz:Nat}{rs:List J8}(ho:os[id]? =some (.drw e sz rs))(he:rs.length=ext):
  i<ext/\ ∃(g cap:Nat) (p:Nat×Value),E.ob[id]? =some p/\p.2= .slice (some ⟨g,0,none⟩) ext cap/\v= .pointer (some ⟨g,i*sz+off,none⟩)/\OK E os (.drw e sz rs) p:=by
 cases hv with
 |eptr h _=>
  obtain⟨h1,h2⟩:=h.at' ho rfl;obtain⟨h3,b,g,cap,h4,h5⟩:=h2 he;obtain⟨p,hp,hok⟩:=R.at ho;rw[hp]at h4;cases h4;exact⟨h3,g,cap,_,hp,rfl,h5,hok⟩
theorem ZZ9(R:Rel c E os){t n:Nat}{ag:Bool}(hs:Ke P t=some n)(ha:ZF0 P t=some ag){S:FuncId->J8->J5}{φ:J4}{x:IO}{vx:Value}(hx:V E os (ZG φ x) vx){d:D}(h:ZS S φ os (.ld n ag x)=some (true,d)):
  ∃v,(Instr.loadAt t vx).run P E.w= .ok v E.w/\V E os d v:=by
 have two: ∀(ad:Addr) (xs:List Value),vx= .pointer (some ad)->(∀j u,xs[j]? =some u->E.w.cell? (ad.add j)=some u)->(ag=true->xs.length=n->(Instr.loadAt t vx).run P E.w= .ok (.agg xs.toArray) E.w)/\(∀u,ag=false->xs[0]? =some u->(Instr.loadAt t vx).run P E.w= .ok u E.w):=by
  intro ad xs hv hc;subst hv;refine⟨λh1 h2=> ?_,λu h1 h2=> ?_⟩
  .subst h1;simp[Instr.loadAt,Instr.sureAddr,ZO8 hs ha ad xs hc h2]
  .subst h1;have:=hc 0 u h2;simp only[Addr.add,if_true]at this;simp[Instr.loadAt,Instr.sureAddr,ZM8 ha ad u this]
 simp only[ZS]at h;split at h
 .rename_i id o hval;split at h
  .rename_i ds hbox;have hx':V E os (.ptr id o) vx:=by
    rw[<-hval];refine hx.strip ?_;split at h
    .simp at h;exact h.1.1
    .exact T9
   cases hx' with
   |ptr hb0 hb=>
    rename_i b cu ds0;obtain⟨p,hp,hok⟩:=R.at hbox;rw[hp]at hb;cases hb;obtain⟨cs,ty,h1,h2,h3⟩:=hok;obtain⟨k1,k2⟩:=two _ ((cs.toList.drop o).take n) rfl (λj u hu=>by
     rw[JQ];have hj:=(ZV hu).1;simp at hj;rw[KQ,if_pos J0,Qa]at hu;simp[World.cell?,h1];simpa using hu)
    split at h
    .rename_i hag;simp at h;obtain⟨⟨_,h4⟩,rfl⟩:=h;refine⟨_,k1 hag (by simp[h2];omega),.agg _ (by simp[h2]) (λv hv=> ?_) (λj d v hd hv=> ?_)⟩
     .have hv:=ZB8 (ZBU hv);obtain⟨j,hj,rfl⟩:=ZKm.1 hv;simp at hj;exact(h3 j (ds[j]' J0) _ (Zx _) (by simp[hj])).2
     .have hj:j<n:=UF
      rw[KQ,if_pos hj,Qa]at hd;simp[hj]at hv;exact(h3 _ d v hd hv).1
    .rename_i hag;obtain⟨d',hd',h4⟩:=Za h;simp at h4;obtain⟨_,rfl⟩:=h4;have ho:=(ZV hd').1;have hcs:cs[o]? =some cs[o]:=ξJ J0;by_cases hn:n=0
     .refine⟨cs[o],?_,(h3 o d' _ hd' hcs).1⟩;obtain⟨_,k2'⟩:=two _ [cs[o]] rfl (λj u hu=>by
       have hj:=(ZV hu).1;simp at hj;subst hj;simp at hu;subst hu;rw[JQ];simp[World.cell?,h1,hcs])
      exact k2' _ NW J1
     .refine⟨cs[o],k2 _ NW ?_,(h3 o d' _ hd' hcs).1⟩;rw[KQ,if_pos J0,Qa];simp[hcs]
  .cases h
 .rename_i id ext i off hval;split at h
  .rename_i ob hob;split at h
   .rename_i sz rs hsl;obtain⟨r,hr,h⟩:=Zf h;have hc:(ZG φ x).cond=true/\rs.length=ext:=by
     split at h
     .simp at h;exact⟨h.1.1,h.1.2.1⟩
     .exact T9
    have hx':V E os (.eptr id ext i off) vx:=by rw[<-hval];exact hx.strip hc.1
    obtain⟨hi,g,xs,q1,q2,q3,q4,q5,q6⟩:=ZMw R hx' hob hsl hc.2;have hrl:=q5 r (Yz hr);obtain⟨k1,k2⟩:=two _ ((xs.drop (i*sz+off)).take n) q1 (λj u hu=>by
     rw[JQ];have hj:=(ZV hu).1;simp at hj;rw[KQ,if_pos J0,Qa]at hu;exact q3 _ u hu)
    have hlt: ∀j,j<sz->i*sz+j<xs.length:=λj hj=>by
     rw[q2];have:(i+1)*sz<=ext*sz:=Ku _ hi;exact VE
    split at h
    .rename_i hag;simp at h;obtain⟨⟨_,_,h4⟩,rfl⟩:=h;rw[hrl]at h4;have hle:n=0\/off+n<=sz:=Wl
     have hxl:((xs.drop (i*sz+off)).take n).length=n:=by
      simp;rcases hle with h0|h0
      .omega
      .have:=hlt (sz-1);omega
     refine⟨_,k1 hag hxl,.agg _ (by simp[hrl];simp at hxl;omega) (λv hv=> ?_) (λj d v hd hv=> ?_)⟩
     .exact q4 v (ZB8 (ZBU hv))
     .have hj:j<n:=UF
      rw[KQ,if_pos hj,Qa,YE]at hd;obtain⟨y,hy,rfl⟩:=Za hd;obtain⟨u,hu1,hu2⟩:=q6 i r _ y hr hy;simp[hj]at hv;rw[ZEq,hu1]at hv;cases hv;exact .x hu2
    .rename_i hag;obtain⟨d',hd',h4⟩:=Za h;simp at h4;obtain⟨_,rfl⟩:=h4;obtain⟨u,hu1,hu2⟩:=q6 i r off d' hr hd';obtain⟨_,k2'⟩:=two _ [u] q1 (λj u' hu=>by
      have hj:=(ZV hu).1;simp at hj;subst hj;simp at hu;subst hu;rw[JQ];exact q3 _ _ hu1)
     exact⟨u,k2' _ NW J1,.x hu2⟩
   .split at h
    .rename_i sz rs hsl;obtain⟨e,rfl⟩:=Ob.dsl_drw hsl;obtain⟨r,hr,h⟩:=Zf h;have hc:(ZG φ x).cond=true/\rs.length=ext:=by
      split at h
      .simp at h;exact⟨h.1.1,h.1.2.1⟩
      .exact T9
     have hx':V E os (.eptr id ext i off) vx:=by rw[<-hval];exact hx.strip hc.1
     obtain⟨hi,g,cap,p,hp,hg,q1,hok⟩:=ZLZ R hx' hob hc.2;obtain⟨hn,xs,q2,q3,q4,q5,q6⟩:=ZQR hok hg;have hrl:=q5 r (Yz hr);obtain⟨k1,k2⟩:=two _ ((xs.drop (i*sz+off)).take n) q1 (λj u hu=>by
      rw[JQ];have hj:=(ZV hu).1;simp at hj;rw[KQ,if_pos J0,Qa]at hu;exact q3 _ u hu)
     have hlt: ∀j,j<sz->i*sz+j<xs.length:=λj hj=>by
      rw[q2];exact NG
     split at h
     .rename_i hag;simp at h;obtain⟨⟨_,_,h4⟩,rfl⟩:=h;rw[hrl]at h4;have hle:n=0\/off+n<=sz:=Wl
      have hxl:((xs.drop (i*sz+off)).take n).length=n:=by
       simp;rcases hle with h0|h0
       .omega
       .have:=hlt (sz-1);omega
      refine⟨_,k1 hag hxl,.agg _ (by simp[hrl];simp at hxl;omega) (λv hv=> ?_) (λj d v hd hv=> ?_)⟩
      .exact q4 v (ZB8 (ZBU hv))
      .have hj:j<n:=UF
       rw[KQ,if_pos hj,Qa]at hd;obtain⟨u,hu1,hu2⟩:=q6 i r _ d hr hd;simp[hj]at hv;rw[ZEq,hu1]at hv;cases hv;exact hu2
     .rename_i hag;obtain⟨d',hd',h4⟩:=Za h;simp at h4;obtain⟨_,rfl⟩:=h4;obtain⟨u,hu1,hu2⟩:=q6 i r off d' hr hd';obtain⟨_,k2'⟩:=two _ [u] q1 (λj u' hu=>by
       have hj:=(ZV hu).1;simp at hj;subst hj;simp at hu;subst hu;rw[JQ];exact q3 _ _ hu1)
      exact⟨u,k2' _ NW J1,hu2⟩
    .cases h
  .cases h
 .rename_i cs hval;have hx':V E os (.vptr cs) vx:=by
   rw[<-hval];refine hx.strip ?_;split at h
   .simp at h;exact h.1.1
   .exact T9
  cases hx' with
  |vptr b off val hc hv=>
   have hcell: ∀(m:Nat) (j:Nat) (u:Value),((List.range m).map val)[j]? =some u->m<=cs.length->E.w.cell? ((⟨b,off,none⟩:Addr).add j)=some u:=λm j u hu hm=>by
    have hj:=(ZV hu).1;simp at hj;rw[YE,ZMQ hj]at hu;simp at hu;subst hu;rw[JQ];exact(hc j cs[j] (Zx J0)).2
   split at h
   .rename_i hag;simp at h;obtain⟨⟨_,h4⟩,rfl⟩:=h;refine⟨_,(two _ ((List.range n).map val) rfl (λj u hu=>hcell n j u hu J0)).1 hag J1,.agg _ W3 (λv hv'=> ?_) (λj d v hd hv'=> ?_)⟩
    .obtain⟨j,hj,rfl⟩:=YR.1 hv';have hj:=ZE4.1 hj;exact(hv j cs[j] (Zx J0)).one
    .have hj:j<n:=UF
     rw[KQ,if_pos hj,YE]at hd;obtain⟨y,hy,rfl⟩:=Za hd;simp[hj]at hv';subst hv';exact .x (hv j y hy)
   .rename_i hag;obtain⟨d',hd',h4⟩:=Za h;simp at h4;obtain⟨_,rfl⟩:=h4;have hl:=(ZV hd').1;exact⟨val 0,(two _ ((List.range 1).map val) rfl (λj u hu=>hcell 1 j u hu J0)).2 _ NW (by simp[List.range_succ]),.x (hv 0 d' hd')⟩
 .cases h
end
end Go.Ab
end
