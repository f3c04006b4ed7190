import Derived.WalkKit
import Derived.WalkSpells
import Derived.WalkLawsBesides
import Derived.Lib.Hide
import Derived.Deep.QuietTactic
import Derived.BigQuiet
import Derived.StillTail
import Derived.MapKept
import Derived.Maps.RangeRun
import Derived.ChangeArms
import Derived.OpenShut
import Derived.Laws.StructEq
import Derived.ChangeKeysEq
set_option linter.unusedSimpArgs false
set_option linter.unusedVariables false
set_option maxRecDepth 100000
theorem Wm{p:Prop}(h:p:=by omega):p:=h
theorem Wx{p:Prop}(h:p:=by simp;omega):p:=h
theorem W6{p:Prop}(h:p:=by cases h):p:=h
theorem WE{p:Prop}(h:p:=by simp at h):p:=h
theorem WM{p:Prop}(h:p:=by simpa using h):p:=h
theorem WY{p:Prop}(h:p:=by unfold eqGuard;split<;>rfl):p:=h
theorem Vf{p:Prop}(h:p:=by obtain⟨rfl,rfl⟩:=key1 _ h;refine⟨_,?_,V.mkbool _ _ _⟩;simp[binOp,Op.intCmp]):p:=h
theorem Vn{p:Prop}(h:p:=by simp at h;subst h;refine⟨_,?_,V.mkbool _ _ _⟩;simp[binOp,Op.stringOp,KC]):p:=h
theorem V1{p:Prop}(h:p:=by exact⟨w',g1,g2,λE' os' hw ev=>hM E' os' _ ⟨_,by rw[hw];exact g3,g4,λi a q ha hq'=>⟨(g5 i a q ha hq').1,(g5 i a q ha hq').2.mono ev⟩⟩⟩):p:=h
theorem V3{p:Prop}(h:p:=by simpa using this):p:=h
theorem V7{p:Prop}(h:p:=by rw[Op.equalIn];simp[run_underlying ht]):p:=h
theorem VH{p:Prop}(h:p:=by rw[JR]at this;omega):p:=h
theorem U5{p:Prop}(h:p:=by obtain⟨rfl,rfl⟩:=key1 _ h;refine⟨_,?_,V.mkint _ _ _ _⟩;simp[binOp,Op.intArith]):p:=h
theorem UJ{p:Prop}(h:p:=by exact .vptr b off val (λj x hj=>⟨(e.st _ _ (hc j x hj).1).1,by rw[(e.st _ _ (hc j x hj).1).2];exact(hc j x hj).2⟩) (λj x hj=>(hv j x hj).mono e.st)):p:=h
theorem Ta{p:Prop}(h:p:=by simpa using h4):p:=h
theorem Tk{p:Prop}(h:p:=by cases h with|x h=>cases h;rfl):p:=h
theorem Tm{p:Prop}(h:p:=by simp[getObj,Sem.run,hr]):p:=h
theorem Ts{p:Prop}(h:p:=by simp[Builtin.delete_,run_underlying hT,hg,Sem.run_bind,Result.andThen,K.check P w _ key k hk,Instr.findKey,run_underlying hk,h1,hs]):p:=h
theorem TM{p:Prop}(h:p:=by simp only[Je,if_false,Sem.run_bind,run_eqGuard_agg w .eql t ox oy xs ys hg.2,Result.andThen_ok,run_eql_struct,he];simp):p:=h
theorem TN{p:Prop}(h:p:=by obtain rfl:=V.nilp hy;exact fin (ZFB ht _ w) (λop=>WY) rfl rfl):p:=h
theorem TP{p:Prop}(h:p:=by obtain rfl:=V.nilp hx;exact fin (ZDV ht _ w) (λop=>WY) rfl rfl):p:=h
theorem TS{p:Prop}(h:p:=by simp only[if_true,Sem.run_bind,run_eqGuard_agg w .neq t ox oy xs ys hg.2,Result.andThen_ok,run_neq_struct,he];simp):p:=h
theorem Gb{p:Prop}(h:p:=by simp[setObj,Sem.run,hr]):p:=h
theorem Gv{p:Prop}(h:p:=by obtain⟨rfl,h2,rfl⟩:=key _ _ h;simp at h2;refine⟨_,?_,V.mkint _ _ _ _⟩;simp[binOp,Op.intDiv,h2]):p:=h
theorem Gx{p:Prop}(h:p:=by simpa using hq):p:=h
theorem G2{p:Prop}(h:p:=by simp at h;obtain⟨h1,rfl⟩:=h;refine⟨_,?_,V.mkint _ _ _ _⟩;simp[binOp,Op.shift,Int.not_lt.2 h1]):p:=h
theorem GL{p:Prop}(h:p:=by simp[R.len]):p:=h
theorem Ns{p:Prop}(h:p:=by have:=(ZX hd).1;simp at this;omega):p:=h
theorem N1{p:Prop}(h:p:=by cases h;rfl):p:=h
theorem N9{p:Prop}(h:p:=by refine .tup _ rfl (λj d' u hd hu=> ?_);grind):p:=h
theorem NC{p:Prop}(h:p:=by have:(i+1)*sz<=rs.length*sz:=Ky _ hi;exact VH):p:=h
theorem NF{p:Prop}(h:p:=by have:(i+1)*sz<=rs.length*sz:=Ky _ J0;exact VH):p:=h
theorem XE{p:Prop}(h:p:=by exact⟨[],by rw[hw];exact Qg.new _ w,rfl,λi a q ha=>by simp at ha⟩):p:=h
theorem XT{p:Prop}(h:p:=by rename_i e1;cases e1):p:=h
theorem XW{p:Prop}(h:p:=by exact .inr J0):p:=h
theorem Hc{p:Prop}(h:p:=by simp at hr):p:=h
theorem Hl{p:Prop}(h:p:=by subst hj;simp at h1;subst h1;cases h3):p:=h
theorem H3{p:Prop}(h:p:=by obtain⟨rfl,rfl,rfl⟩:=hm;exact⟨rfl,rfl,rfl,λ_ _=>Iff.rfl⟩):p:=h
theorem HD{p:Prop}(h:p:=by simpa[and_assoc]using h):p:=h
theorem HE{p:Prop}(h:p:=by simp[ZV,ByteArray.size]):p:=h
theorem HM{p:Prop}(h:p:=by obtain⟨a,s,b,h⟩:=h;exact⟨a,s,b,by rw[hb _ rfl];exact h⟩):p:=h
theorem HN{p:Prop}(h:p:=by simpa using hjl):p:=h
theorem HZ{p:Prop}(h:p:=by exact h.imp λos' h=>h.imp λob' h=>⟨h.1,h.2.mono e.st hb⟩):p:=h
theorem Ma{p:Prop}(h:p:=by unfold Instr.checkKey;simp[run_underlying h]):p:=h
section
namespace Go
universe u v w
theorem J0{p:Prop}(h:p:=by omega):p:=h
theorem J1{p:Prop}(h:p:=by simp):p:=h
theorem J2{p:Prop}(h:p:=by rfl):p:=h
theorem J3{p:Prop}(h:p:=by kernel_rfl):p:=h
theorem YB{p0 p1:Prop}(h0:p0)(h1:p1):p0/\p1:=⟨h0,h1⟩
theorem JL{p0 p1 p2:Prop}(h0:p0)(h1:p1)(h2:p2):p0/\p1/\p2:=⟨h0,h1,h2⟩
theorem Qu{p0 p1 p2 p3:Prop}(h0:p0)(h1:p1)(h2:p2)(h3:p3):p0/\p1/\p2/\p3:=⟨h0,h1,h2,h3⟩
theorem ξ5{p0 p1 p2 p3 p4:Prop}(h0:p0)(h1:p1)(h2:p2)(h3:p3)(h4:p4):p0/\p1/\p2/\p3/\p4:=⟨h0,h1,h2,h3,h4⟩
theorem ξ6{p0 p1 p2 p3 p4 p5:Prop}(h0:p0)(h1:p1)(h2:p2)(h3:p3)(h4:p4)(h5:p5):p0/\p1/\p2/\p3/\p4/\p5:=⟨h0,h1,h2,h3,h4,h5⟩
theorem ξ7{p0 p1 p2 p3 p4 p5 p6:Prop}(h0:p0)(h1:p1)(h2:p2)(h3:p3)(h4:p4)(h5:p5)(h6:p6):p0/\p1/\p2/\p3/\p4/\p5/\p6:=⟨h0,h1,h2,h3,h4,h5,h6⟩
theorem ξ8{p0 p1 p2 p3 p4 p5 p6 p7:Prop}(h0:p0)(h1:p1)(h2:p2)(h3:p3)(h4:p4)(h5:p5)(h6:p6)(h7:p7):p0/\p1/\p2/\p3/\p4/\p5/\p6/\p7:=⟨h0,h1,h2,h3,h4,h5,h6,h7⟩
theorem ξ9{p0 p1 p2 p3 p4 p5 p6 p7 p8:Prop}(h0:p0)(h1:p1)(h2:p2)(h3:p3)(h4:p4)(h5:p5)(h6:p6)(h7:p7)(h8:p8):p0/\p1/\p2/\p3/\p4/\p5/\p6/\p7/\p8:=⟨h0,h1,h2,h3,h4,h5,h6,h7,h8⟩
abbrev JW:=@List.take_succ_eq_append_getElem
abbrev YK:=@List.getElem_mem
abbrev JE:=@List.mem_of_getElem?
abbrev Ys:=@List.append_assoc
abbrev Yg:=@List.all_eq_true
abbrev Yc:=@List.length_map
abbrev Zr:=@Nat.le_refl
abbrev Yv:=@List.length_take
abbrev QI:=@List.getElem?_append_right
abbrev YO:=@List.map_cons
abbrev Yq:=@Option.map_some
abbrev Je:=@Bool.false_eq_true
abbrev JX:=@List.take_length
abbrev KL:=@Option.bind_eq_bind
abbrev Kh:=@List.length_singleton
abbrev YS:=@List.mem_map
abbrev Ky:=@Nat.mul_le_mul_right
abbrev Jj:=@List.map_append
abbrev Kp:=@List.getElem?_take
abbrev KQ:=@List.length_drop
abbrev ξJ:=@Array.getElem?_eq_getElem
abbrev Qt:=@Array.length_toList
abbrev KT:=@List.mem_append
abbrev Kg:=@List.append_nil
abbrev ξQ:=@Array.getElem?_toList
abbrev Jk:=@Nat.zero_add
abbrev ξS:=@List.eq_nil_of_length_eq_zero
abbrev ξU:=@List.mem_cons_of_mem
abbrev ξV:=@List.getElem?_eq_none
abbrev ξW:=@List.drop_eq_getElem_cons
abbrev KB:=@Nat.add_zero
abbrev ξY:=@Option.getD_some
abbrev ξZ:=@List.cons_append
abbrev Qm:=@List.take_succ_cons
abbrev Jf:=@List.mem_cons
abbrev ZCB:=@List.getD_eq_getElem?_getD
abbrev ZBd:=@List.getElem?_cons_succ
abbrev ZBB:=@List.drop_of_length_le
abbrev ZAp:=@List.getElem?_set_ne
abbrev ZAM:=@List.mem_singleton
abbrev JR:=@Nat.add_mul
abbrev ZBb:=@List.take_append_drop
abbrev ZAZ:=@List.getElem?_drop
abbrev ZAm:=@List.mem_cons_self
abbrev Jv:=@List.map_map
abbrev QY:=@List.nil_append
abbrev Qd:=@Option.map_none
abbrev QZ:=@Bool.eq_iff_iff
abbrev ZC5:=@List.getElem?_cons_zero
abbrev ZDM:=@Int.eq_ofNat_of_zero_le
abbrev ZEc:=@Array.getD_eq_getD_getElem?
abbrev ZCH:=@List.mem_of_mem_take
abbrev ZBz:=@List.map_congr_left
abbrev QX:=@Bool.and_true
abbrev ZBg:=@List.ext_getElem?
abbrev ZDD:=@List.mem_of_mem_drop
abbrev ZDm:=@List.set_append_right
abbrev ZA9:=@Option.bind_some
abbrev ZCM:=@List.set_cons_succ
abbrev ZFK:=@List.pairwise_iff_getElem
abbrev Qa:=@List.all_cons
abbrev ZAV:=@List.mapM_cons
abbrev Kb:=@Nat.zero_le
abbrev ZEv:=@List.getElem?_set_self
abbrev ZBA:=@Option.pure_def
abbrev ZBE:=@List.nodup_cons
abbrev ZCr:=@List.getElem?_set
abbrev ZBc:=@Bool.or_eq_true
abbrev ZDp:=@List.set_cons_zero
abbrev ZEH:=@List.drop_succ_cons
abbrev ZAk:=@Bool.true_and
abbrev ZFA:=@List.mem_iff_getElem?
abbrev ZDi:=@List.size_toArray
abbrev ZAa:=@List.map_nil
abbrev ZB0:=@List.take_zero
abbrev Ql:=@Nat.mul_one
abbrev ZIM:=@Classical.byContradiction
abbrev ZCn:=@Option.some.inj
abbrev ZCG:=@List.drop_zero
abbrev ZFV:=@List.pairwise_cons
abbrev ZD7:=@Array.toList_inj
abbrev ZFC:=@List.nodup_append
abbrev ZM5:=@List.take_append_of_le_length
abbrev ZFM:=@List.mem_flatMap
abbrev ZEt:=@List.cons.injEq
abbrev ZEJ:=@UInt8.toNat_lt
abbrev ZH8:=@List.getD_cons_zero
abbrev ZKF:=@Nat.add_sub_cancel_left
abbrev ZG8:=@Bool.not_eq_true'
abbrev ZD5:=@Bool.or_false
abbrev ZHN:=@Option.bind_none
abbrev ZFX:=@List.mem_range
abbrev ZG1:=@List.filter_cons
abbrev ZFD:=@Bool.false_and
abbrev ZFc:=@Bool.and_false
abbrev ZK5:=@List.length_replicate
abbrev ZIC:=@Int.toNat_natCast
abbrev ZH3:=@Decidable.not_not
abbrev ZKf:=@List.mem_iff_getElem
abbrev ZEM:=@List.all_nil
abbrev ZFe:=@Nat.add_assoc
abbrev ZFN:=@Bool.false_or
abbrev ZKV:=@List.length_pos_iff
abbrev ZEu:=@Nat.le_trans
abbrev ZEa:=@Nat.beq_refl
abbrev ZEs:=@Bool.or_true
abbrev ZNH:=@Nat.eq_of_beq_eq_true
abbrev ZMc:=@List.set_append_left
abbrev ZPr:=@List.length_eq_zero_iff
abbrev ZMs:=@List.getElem?_range
abbrev ZNB:=@List.getD_cons_succ
abbrev ZJG:=@List.length_set
abbrev ZGJ:=@List.all_map
abbrev ZJh:=@List.all_append
abbrev ZGK:=@Bool.true_or
abbrev ZO5:=@List.singleton_append
abbrev ZMG:=@List.map_singleton
abbrev ZKJ:=@Bool.not_eq_true
abbrev ZPF:=@List.pairwise_append
abbrev ZI0:=@List.Perm.refl
abbrev ZMh:=@List.reverse_cons
abbrev ZM0:=@List.foldl_append
abbrev ZK2:=@List.foldl_cons
abbrev ZCQ:=@Prod.ext
abbrev ZM1:=@Option.getD_none
abbrev ZIK:=@Nat.sub_self
abbrev ZPO:=@Nat.lt_of_lt_of_le
abbrev ZPs:=@Nat.eq_zero_or_pos
abbrev ZKW:=@Bool.and_assoc
abbrev ZSj:=@List.length_filter_le
abbrev ZTC:=@Array.getElem?_modify
abbrev ZNF:=@UInt8.toNat_inj
abbrev ZPw:=@List.flatMap_cons
abbrev ZT6:=@Bool.or_eq_false_iff
abbrev ZXl:=@List.mem_or_eq_of_mem_set
abbrev ZLC:=@Bool.and_self
abbrev ZMa:=@Nat.mul_le_mul
abbrev ZMR:=@List.drop_drop
abbrev ZM9:=@Bool.not_false
abbrev ZXH:=@List.countP_cons_of_pos
abbrev ZKL:=@Nat.zero_mul
abbrev ZKg:=@Nat.mul_comm
abbrev ZOr:=@Nat.min_eq_left
abbrev ZPI:=@List.mem_filter
abbrev ZUS:=@List.flatten_cons
abbrev ZWe:=@Classical.choose_spec
abbrev ZXN:=@Bool.cond_false_right
abbrev ZWj:=@Bool.and_eq_false_iff
abbrev ZPl:=@List.nodup_nil
abbrev ZbN:=@List.drop_append_of_le_length
abbrev ZTS:=@List.reverse_nil
abbrev ZUO:=@List.nodup_range
abbrev ZM8:=@List.map_set
abbrev ZWT:=@List.length_eraseIdx
abbrev ZS2:=@Array.toList_map
abbrev ZcS:=@Array.getElem?_setIfInBounds
abbrev ZOq:=@List.mapM_nil
abbrev ZXT:=@List.getElem_of_mem
abbrev ZXk:=@List.dropWhile_cons
abbrev ZOy:=@Bool.not_true
abbrev ZX1:=@Bool.cond_true_left
abbrev Zbs:=@Array.getElem?_append_left
abbrev ZM2:=@Nat.one_mul
abbrev ZXU:=@List.mem_replicate
abbrev ZXp:=@List.count_pos_iff
abbrev ZbP:=@Option.isSome_iff_exists
abbrev ZPa:=@Nat.add_comm
abbrev ZXV:=@List.pairwise_map
abbrev ZX2:=@List.filter_congr
abbrev Zcw:=@List.eraseIdx_cons_succ
abbrev ZbJ:=@List.countP_cons_of_neg
abbrev Zbb:=@Option.map_eq_some_iff
abbrev ZMQ:=@Nat.blt_eq
abbrev ZPA:=@List.map_id
abbrev Zc8:=@Nat.div_lt_iff_lt_mul
abbrev ZXJ:=@Nat.div_add_mod
abbrev ZXC:=@Int.natCast_pos
abbrev ZbH:=@List.count_le_length
abbrev Zcr:=@List.reverse_append
abbrev ZcU:=@List.map_eq_nil_iff
abbrev ZcE:=@List.length_reverse
abbrev ZdQ:=@List.flatMap_append
abbrev Zcu:=@List.filter_eq_self
abbrev ZYB:=@List.drop_left
abbrev ZcL:=@Array.toList_modify
abbrev ZbU:=@Array.toList_filter
abbrev Zbd:=@Nat.add_sub_cancel
abbrev Zcd:=@List.filter_append
abbrev ZdU:=@Array.getElem?_map
abbrev ZW6:=@Nat.lt_irrefl
abbrev ZW3:=@List.map_take
abbrev ZcC:=@Nat.lt_trichotomy
abbrev Zhc:=@List.eq_nil_iff_forall_not_mem
abbrev Zbj:=@Array.size_append
abbrev Zid:=@Array.eq_empty_of_size_eq_zero
theorem Zg{α:Type u}{β:Type v}{b:β}{x:Option α}{f:α->Option β}(h:x.bind f=some b): ∃a,x=some a/\f a=some b:=Option.bind_eq_some_iff.1 h
theorem Zc{α:Type u}{β:Type v}{b:β}{x:Option α}{f:α->β}(h:x.map f=some b): ∃a,x=some a/\f a=b:=Zbb.1 h
theorem ZX{α:Type u}{l:List α}{i:Nat}{a:α}(h:l[i]? =some a): ∃h,l[i]=a:=List.getElem?_eq_some_iff.1 h
theorem ξH{α:Type u}{l:Array α}{i:Nat}{a:α}(h:l[i]? =some a): ∃h,l[i]=a:=Array.getElem?_eq_some_iff.1 h
theorem YG{α:Type u}{β:Type v}{b:β}{x:Option α}{f:α->Option β}:x.bind f=some b↔ ∃a,x=some a/\f a=some b:=Option.bind_eq_some_iff
theorem Kq{α:Type u}{β:Type v}{b:β}{x:Option α}{f:α->β}:x.map f=some b↔ ∃a,x=some a/\f a=b:=Zbb
theorem Yl{p:Prop}[Decidable p]:(decide p=true)=p:=decide_eq_true_eq
theorem ZI{p:Prop}[Decidable p](h:p):decide p=true:=decide_eq_true h
theorem ZW{α:Type u}{as bs:List α}:(as++bs).length=as.length+bs.length:=List.length_append
theorem Yx{α:Type u}{a:α}{as:List α}:(a::as).length=as.length+1:=List.length_cons
theorem Qw{α:Type u}:([]:List α).length=0:=List.length_nil
theorem Zj(a b:Bool):((a&&b)=true)=(a=true/\b=true):=Bool.and_eq_true a b
theorem ξn{a b:Prop}(h:a)(k:b):a/\b:=⟨h,k⟩
theorem Yu{α:Type u}(a b:α):(some a=some b)=(a=b):=Option.some.injEq a b
theorem YP{α:Type u}{β:Type v}(a:α)(b:β)(c:α)(d:β):((a,b)=(c,d))=(a=c/\b=d):=Prod.mk.injEq a b c d
theorem Zw{α:Type u}{l:List α}{i:Nat}(h:i<l.length):l[i]? =some l[i]:=List.getElem?_eq_getElem h
theorem YR{α:Type u}{i:Nat}{l:List α}(h:l.length<=i):l.take i=l:=List.take_of_length_le h
theorem Yk{α:Type u}{l₁ l₂:List α}{i:Nat}(h:i<l₁.length):(l₁++l₂)[i]? =l₁[i]? :=List.getElem?_append_left h
theorem YI{α:Type u}{β:Type v}{f:α->β}{l:List α}{i:Nat}:(l.map f)[i]? =l[i]?.map f:=List.getElem?_map
theorem ξ{n m:Nat}(h:n.ble m=true):n<=m:=Nat.le_of_ble_eq_true h
end Go
end
section
namespace Go.Bo
open Go.RowKit
def Ext(w w':World):Prop:=Below w.heap.size w w'
theorem Ext.refl(w:World):Ext w w:=Below.refl _ _
theorem Ext.size{w w':World}(h:Ext w w'):w.heap.size<=w'.heap.size:=Below.size h
theorem Ext.trans{a b c:World}(h:Ext a b)(k:Ext b c):Ext a c:=Below.trans h (Below.mono k (Ext.size h))
theorem Ext.al{a w:World}(h:Ext a w)(o:Obj):Ext a (w.alloc o):=Below.alloc h h.size o
theorem Ext.dr{a w:World}(h:Ext a w):Ext a w.drew:=Below.drew h
theorem Ext.st{a w:World}(h:Ext a w){p:Addr}(hp:a.heap.size<=p.block)(u:Value):Ext a (w.setCell p u):=Below.setCell h hp u
theorem Ext.grown{w w':World}(h:Ext w w')(r:Option Nat):w.grownBy w' r:=⟨h.os,h.tape,h.output,h.size,λk hk _=>Below.block h k hk⟩
theorem Ext.cellE{w w':World}(h:Ext w w'){p:Addr}{v:Value}(hc:w.cell? p=some v):w'.cell? p=some v:=by
 rw[Below.cell h (World.block_lt_of_cell? _ _ hc)];exact hc
structure ExtOf (w:World) where
 to:World
 ext:Ext w to
instance (w:World):Nonempty (ExtOf w):=⟨⟨w,Ext.refl w⟩⟩
theorem Ext.to{w:World}(x:ExtOf w){p:Addr}{v:Value}(hc:w.cell? p=some v):x.to.cell? p=some v:=x.ext.cellE hc
def ISl(w:World)(a:Option Addr)(l:List Int):Prop:=
 l.length<=9223372036854775807/\ ∀i,i<l.length-> ∃b off,a=some ⟨b,off,none⟩/\w.cell? ⟨b,off+i,none⟩=some (.int .i64 (l.getD i 0))
theorem ISl.ext{w w':World}{a:Option Addr}{l:List Int}(h:ISl w a l)(e:Ext w w'):ISl w' a l:=by
 refine⟨h.1,λi hi=> ?_⟩;obtain⟨b,off,ha,hc⟩:=h.2 i hi;exact⟨b,off,ha,e.cellE hc⟩
theorem ISl.alloc{w:World}{a:Option Addr}{l:List Int}(h:ISl w a l)(o:Obj):ISl (w.alloc o) a l:=h.ext ((Ext.refl w).al o)
theorem ISl.nil(w:World)(a:Option Addr):ISl w a []:=⟨J1,λi hi=>by simp at hi⟩
theorem ISl.new(w:World)(l:List Int)(h:l.length<=9223372036854775807)(t:TypeId):ISl (w.alloc (.cells (l.map (Value.int .i64)).toArray t)) (some ⟨w.heap.size,0,none⟩) l:=by
 refine⟨h,λi hi=>⟨_,_,rfl,?_⟩⟩
 simp_all
structure Grow (w w':World) (v v':Value):Prop where
 grown:w.grownBy w' v.ownBlock
 own:v'.ownBlock=v.ownBlock\/ ∃g,v'.ownBlock=some g/\w.heap.size<=g
theorem Grow.refl(w:World)(v:Value):Grow w w v v:=⟨⟨rfl,rfl,rfl,Zr _,λ_ _ _=>rfl⟩,.inl rfl⟩
theorem Grow.ext{w0 w w':World}{v v':Value}{e:TypeId}{s n:Nat}{xs:List Value}(h:Ext w0 w)(hg:Grow w w' v v')(ho:w.ownsRow w0.heap.size e s v n xs):Ext w0 w':=
 Below.grown h hg.grown h.size (λk hk=>(ho.lt k hk).1)
section
variable {P:Program} (w:World)
theorem ZDY(base:Nat)(t ty e:TypeId)(i:TypeInfo)(z:Value)(size bytes:Nat)(ht:P.underlying t=some (.slice e))(hi:P.info? e=some i)(hz:i.zero=some z)
  (hsize:i.size=size) (hby:i.bytes=bytes) (hzs:z.cells.size=size) (hsz:0<size)
  (v:Value) (n:Nat) (xs:List Value) (hown:w.ownsRow base e size v n xs)
  (a:Addr) (m c:Nat) (news:List Value) (hl:news.length=m*size) (hnews: ∀j u,news[j]? =some u->w.cell? (a.add j)=some u) (h1: ∀u∈news,u.oneCell'=true)
  (h63:n+m<=maxLen) (hbytes:(n+m)*bytes<=140737488355328) (hbase:base<=w.heap.size):
  ∃v' w',(Builtin.append_ #[t,t] ty #[v,.slice (some a) m c]).run P w= .ok v' w'/\w'.ownsRow base e size v' (n+m) (xs++news)/\Grow w w' v v':=by
 obtain⟨v',w',hr,ho,hg,hn⟩:=run_append_own (P:=P) w base t ty e i z size bytes ht hi hz hsize hby hzs hsz v n xs hown a m c news hl hnews h1 h63 hbytes hbase;refine⟨v',w',hr,ho,hg,?_⟩;subst hsize;subst hby
 have hsm:n+m<=9223372036854775807:=by simp only[maxLen]at h63;omega
 rcases hown.2 with⟨rfl,rfl⟩|⟨g,cap,cur,rfl,hbg,hgg,hnc,hcm,hcs,htake⟩
 .by_cases hm:m=0
  .simp_all
  .right;have hr2:=run_append_nil (P:=P) w t ty e i z ht hi hz a m c news hl hnews J0 J0 (by have hb:=hbytes;simp only[Jk]at hb;omega);rw[hr2]at hr;cases hr;exact⟨_,rfl,Zr _⟩
 .by_cases hroom:n+m<=cap
  .left;have hfit:n*i.size+news.length<=cur.size:=by rw[hl,hcs,<-JR];exact Ky _ hroom
   have hr2:=run_append_room (P:=P) w t ty e i ht hi g n cap cur hgg a m c news hl hnews h1 hroom hfit;rw[hr2]at hr;cases hr;rfl
  .right;have holds: ∀j u,xs[j]? =some u->w.cell? ((⟨g,0,none⟩:Addr).add j)=some u:=hown.cells (g:=g) rfl;have hr2:=run_append_grow (P:=P) w t ty e i z ht hi hz ⟨g,0,none⟩ n cap xs hown.1 holds a m c news hl hnews J0 J0 (growslice_fits J0 hbytes);rw[hr2]at hr;cases hr;exact⟨_,rfl,Zr _⟩
theorem ZD0{ops:Array Oper}{rest:List Oper}{o:Oper}{a:Act}{Q:Exit->Act->World->Prop}(hgd:o.guard=none)(s x:Operand)(t:TypeId)
  (ho:o.op= .call {callee:= .builtin .append,args:= #[s,x],argTypes:= #[t,t]})
  (base:Nat) (e:TypeId) (i:TypeInfo) (z:Value) (size bytes:Nat) (ht:P.underlying t=some (.slice e)) (hi:P.info? e=some i) (hz:i.zero=some z)
  (hsize:i.size=size) (hby:i.bytes=bytes) (hzs:z.cells.size=size) (hsz:0<size)
  (v:Value) (n:Nat) (xs:List Value) (hs:a.eval s=v) (hown:w.ownsRow base e size v n xs)
  (ad:Addr) (m c:Nat) (news:List Value) (hx:a.eval x= .slice (some ad) m c) (hl:news.length=m*size) (hnews: ∀j u,news[j]? =some u->w.cell? (ad.add j)=some u) (h1: ∀u∈news,u.oneCell'=true)
  (h63:n+m<=maxLen) (hbytes:(n+m)*bytes<=140737488355328) (hbase:base<=w.heap.size)
  (h: ∀v' w',w'.ownsRow base e size v' (n+m) (xs++news)->Grow w w' v v'->wpList P ops Q rest (a.put o.dst v') w'):wpList P ops Q (o::rest) a w:=by
 refine wpList_plain hgd λK hK'=> ?_
 obtain⟨v',w',hr,h2,h3⟩:=ZDY (P:=P) w base t o.type e i z size bytes ht hi hz hsize hby hzs hsz v n xs hown ad m c news hl hnews h1 h63 hbytes hbase;unfold Oper.wp execOp;simp only[ho,resolve,invoke,builtin,Sem.run_bind,Sem.run_pure,Result.andThen_ok,List.map_toArray,YO,ZAa,hs,hx,hr];exact hK' _ _ (h v' w' h2 h3)
end
section
variable {P:Program} (w:World)
theorem ZAQ(t ty e:TypeId)(i:TypeInfo)(ht:P.underlying t=some (.slice e))(hi:P.info? e=some i)(a0:Option Addr)(n cap:Nat)(hn:n<=cap)(as:Option Addr)(c:Nat):
  (Builtin.append_ #[t,t] ty #[.slice a0 n cap,.slice as 0 c]).run P w= .ok (.slice a0 n cap) w:=by
 cases a0<;>cases as<;>
  simp[Builtin.append_,run_underlying ht,sizeOf,typeInfo,hi,Builtin.lenOf,hn,Builtin.firstCells,loadCells,loadCellsFrom,storeCells]
end
theorem ZXB(ns:List Int): ∀s:ByteArray,ns.foldl (λr n=>r.push (UInt8.ofNat n.toNat)) s=⟨(s.data.toList++ns.map λn=>UInt8.ofNat n.toNat).toArray⟩:=by
 induction ns with
 |nil=>intro s;simp
 |cons n t ih=>
  simp_all
def bt(s:ByteArray)(k:Nat):Int:=(s.data.toList.getD k 0).toNat
theorem ZSg{P:Program}(w:World)(T:TypeId)(kk:IntKind)(s:ByteArray)(i:Int)(hT:P.underlying T=some .string)(h0:0<=i)(h1:i<s.size):
  (Instr.index T (.string s) (.int kk i)).run P w= .ok (.int .u8 (bt s i.toNat)) w:=by
 have hk:i.toNat<s.size:=Wm
 have hk':i.toNat<s.data.size:=hk;have hb:s[i.toNat]? =some (s.data.toList.getD i.toNat 0):=by
  have e:s.data.toList.getD i.toNat 0=s[i.toNat]'hk:=by
   rw[List.getD,ξQ,ξJ hk'];rfl
  simp_all
 unfold Instr.index;simp[asIntOf,run_underlying hT,h0,hb,bt]
theorem ISl.none{w:World}{l:List Int}(h:ISl w none l):l.length=0:=by
 rcases ZPs l.length with h0|h0
 .exact h0
 .obtain⟨b,off,ha,_⟩:=h.2 0 h0;cases ha
def ZSw(w:World)(e:TypeId)(base:Nat)(v:Value)(l:List Int):Prop:=w.ownsRow base e 1 v l.length (l.map (Value.int .i64))
theorem ZSw.nil(w:World)(e:TypeId)(base:Nat):ZSw w e base (.slice none 0 0) []:=World.ownsRow_nil _ _ _ _
theorem ZSw.isl{w:World}{e:TypeId}{base:Nat}{v:Value}{l:List Int}(h:ZSw w e base v l): ∃a c,v= .slice a l.length c/\ISl w a l:=by
 rcases h.2 with⟨rfl,hn⟩|⟨g,cap,cur,rfl,hb,hg,hc,hm,hs,ht⟩
 .exact⟨none,0,by rw[hn],by rw[ξS hn];exact ISl.nil _ _⟩
 .refine⟨_,cap,rfl,by simp only[maxLen]at hm;omega,λi hi=>⟨g,0,rfl,?_⟩⟩;rw[cell_of_row _ _ _ _ _ _ hg];have:(cur.toList.take (l.length*1))[i]? =(l.map (Value.int .i64))[i]? :=by rw[ht]
  grind
theorem ISl.own{w:World}{e:TypeId}{base n:Nat}{v:Value}{l:List Int}{xs:List Value}(h:w.ownsRow base e 1 v n xs)(hx:xs=l.map (Value.int .i64))(hn:n=l.length): ∃a c,v= .slice a l.length c/\ISl w a l:=by
 subst hx;subst hn;exact ZSw.isl h
structure KeyKind (d:TypeDesc) {κ:Type} [DecidableEq κ] (mk:κ->Value):Prop where
 same: ∀a b,Instr.sameNow d (mk a) (mk b)=some (decide (a=b))
 bits: ∀a,Instr.sameBits 10000 (mk a) (mk a)=true
 check: ∀(P:Program) (w:World) (e:Bool) (t:TypeId) (a:κ),P.underlying t=some d->(Instr.checkKey e 10000 t (mk a)).run P w= .ok () w
theorem ZZs:KeyKind .string Value.string where
 same a b:=by
  have h:(a==b)=decide (a=b):=by rw[QZ,MapKept.bytes_beq];simp
  simp[Instr.sameNow,h]
 bits a:=by
  have h:(a==a)=true:=(MapKept.bytes_beq a a).2 rfl;rw[Instr.sameBits];exact h
 check P w e t a h:=Ma
theorem Zhh(k:IntKind):KeyKind (.int k) (Value.int k) where
 same a b:=by
  have h:(a==b)=decide (a=b):=by rw[QZ];simp
  simp[Instr.sameNow,h]
 bits a:=by rw[Instr.sameBits];simp
 check P w e t a h:=Ma
section
variable {κ:Type} [DecidableEq κ] {mk:κ->Value} {d:TypeDesc}
theorem KeyKind.inj(K:KeyKind d mk){a b:κ}(h:mk a=mk b):a=b:=by
 have s1:=K.same a b;rw[h,K.same b b]at s1;simpa using s1
def Qg(mk:κ->Value)(w:World)(r:Nat)(l:List (κ×Value)):Prop:=
 ∃es clk,w.heap[r]? =some (.map es clk)/\es.toList.map (λe=>(e.key,e.val))=l.map (λp=>(mk p.1,p.2))/\(l.map (·.1)).Nodup/\(∀x∈es.toList,x.born<clk)/\(es.toList.map (·.born)).Nodup
def ZH{β:Type}(l:List (κ×β))(k:κ):Option β:=(l.find? λp=>decide (k=p.1)).map (·.2)
def Zy{β:Type}(l:List (κ×β))(k:κ)(v:β):List (κ×β):=
 match l with
 | []=> [(k,v)]
 |p::t=>if k=p.1 then(k,v)::t else p::Zy t k v
def Zk{β:Type}(l:List (κ×β))(k:κ):List (κ×β):=
 match l with
 | []=> []
 |p::t=>if k=p.1 then t else p::Zk t k
theorem ZC8(K:KeyKind d mk)(k:κ): ∀(l:List (κ×Value)) (es:List MapEntry) (i:Nat),es.map (λe=>(e.key,e.val))=l.map (λp=>(mk p.1,p.2))->
  (∃j v,Instr.findNow d (mk k) es i=some (some (i+j,v))/\ZH l k=some v/\j<es.length/\(∃e,es[j]? =some e/\e.key=mk k)/\
   (∀v',(es.modify j λe=> {e with key:=mk k,val:=v'}).map (λe=>(e.key,e.val))=(Zy l k v').map (λp=>(mk p.1,p.2)))/\
   (es.eraseIdx j).map (λe=>(e.key,e.val))=(Zk l k).map (λp=>(mk p.1,p.2)))\/
  (Instr.findNow d (mk k) es i=some none/\ZH l k=none/\(∀v',Zy l k v'=l++ [(k,v')])/\Zk l k=l):=by
 intro l
 induction l with
 |nil=>
  intro es i h;have:es= []:=WM
  subst this;exact .inr ⟨rfl,rfl,λ_=>rfl,rfl⟩
 |cons p t ih=>
  intro es i h;cases es with
  |nil=>simp at h
  |cons e es=>
   simp only[YO,ZEt,YP]at h;obtain⟨⟨hk,hv⟩,ht⟩:=h;by_cases he:k=p.1
   .left;refine⟨0,e.val,?_,?_,J1,⟨e,rfl,by rw[hk,he]⟩,?_,?_⟩
    all_goals simp_all[Instr.findNow,K.same,ZH,Zy,Zk]
   .have hs:Instr.sameNow d (mk k) e.key=some false:=by rw[hk,K.same];simp[he]
    rcases ih es (i+1) ht with⟨j,v,h1,h2,h3,⟨e',h4,h4'⟩,h5,h6⟩|⟨h1,h2,h3,h4⟩
    .left;refine⟨j+1,v,?_,?_,Wx,⟨e',Ta,h4'⟩,?_,?_⟩
     all_goals grind[Instr.findNow,ZH,Zy,Zk]
    all_goals grind[Instr.findNow,ZH,Zy,Zk]
theorem ZZJ{β:Type}(l:List (κ×β))(k:κ)(v:β): ∀x,x∈(Zy l k v).map (·.1)↔x=k\/x∈l.map (·.1):=by
 intro x
 induction l with
 |nil=>simp[Zy]
 |cons p t ih=>
  grind[Zy]
theorem ZEj{β:Type}(l:List (κ×β))(k:κ)(v:β)(h:(l.map (·.1)).Nodup):((Zy l k v).map (·.1)).Nodup:=by
 induction l with
 |nil=>simp[Zy]
 |cons p t ih=>
  simp only[YO,ZBE]at h;unfold Zy;split
  .simp_all
  .rename_i e;simp only[YO,ZBE];refine⟨λhm=> ?_,ih h.2⟩;rcases(ZZJ t k v p.1).1 hm with e'|e'
   all_goals simp_all
theorem ZZ9{β:Type}(l:List (κ×β))(k:κ): ∀x,x∈(Zk l k).map (·.1)->x∈l.map (·.1):=by
 intro x
 induction l with
 |nil=>simp[Zk]
 |cons p t ih=>
  grind[Zk]
theorem mdel_nodup{β:Type}(l:List (κ×β))(k:κ)(h:(l.map (·.1)).Nodup):((Zk l k).map (·.1)).Nodup:=by
 induction l with
 |nil=>simp[Zk]
 |cons p t ih=>
  simp only[YO,ZBE]at h;unfold Zk;split
  .exact h.2
  .simp only[YO,ZBE];exact⟨λhm=>h.1 (ZZ9 t k _ hm),ih h.2⟩
theorem ZJ9{β:Type}(l:List (κ×β))(k:κ)(v:β)(k':κ):ZH (Zy l k v) k'=if k'=k then some v else ZH l k':=by
 induction l with
 |nil=>unfold Zy ZH;by_cases h:k'=k<;>simp[h]
 |cons p t ih=>
  grind[decide_false,Zy,ZH]
theorem JD{β:Type}{l:List (κ×β)}{k:κ}{v:β}(h:ZH l k=some v):(k,v)∈l:=by
 unfold ZH at h;cases hf:l.find? λp=>decide (k=p.1)with
 |none=>simp[hf]at h
 |some p=>
  grind
theorem ZEl{β:Type}{l:List (κ×β)}(hn:(l.map (·.1)).Nodup){k:κ}{v:β}(h:(k,v)∈l):ZH l k=some v:=by
 induction l with
 |nil=>cases h
 |cons p t ih=>
  grind[List.nodup_cons,ZH]
theorem KV{β:Type}{l:List (κ×β)}{k:κ}:ZH l k=none↔k∉l.map (·.1):=by
 unfold ZH;simp[List.find?_eq_none];grind
theorem ZHR{β:Type}(l:List (κ×β))(k:κ)(h:(l.map (·.1)).Nodup)(k':κ):ZH (Zk l k) k'=if k'=k then none else ZH l k':=by
 induction l with
 |nil=>unfold Zk ZH;simp
 |cons p t ih=>
  grind[List.nodup_cons,KV,decide_false,Zk,ZH]
variable {P:Program} {w:World}
theorem ZLs{es:Array MapEntry}(j:Nat)(f:MapEntry->MapEntry)(hf: ∀e,(f e).born=e.born):(es.modify j f).toList.map (·.born)=es.toList.map (·.born):=by
 apply ZBg;grind
theorem ZDj{es:Array MapEntry}(j:Nat)(f:MapEntry->MapEntry)(hf: ∀e,(f e).born=e.born)(h:(es.toList.map (·.born)).Nodup):((es.modify j f).toList.map (·.born)).Nodup:=by rw[ZLs j f hf];exact h
theorem ZFZ{es:Array MapEntry}{clk:Nat}(j:Nat)(f:MapEntry->MapEntry)(hf: ∀e,(f e).born=e.born)(h: ∀x∈es.toList,x.born<clk): ∀x∈(es.modify j f).toList,x.born<clk:=by
 intro x hx;have:x.born∈(es.modify j f).toList.map (·.born):=YS.2 ⟨x,hx,rfl⟩;rw[ZLs j f hf]at this;grind
theorem ZK8{es:Array MapEntry}{clk:Nat}{k v:Value}(h: ∀x∈es.toList,x.born<clk): ∀x∈(es.push {key:=k,val:=v,born:=clk}).toList,x.born<clk+1:=by
 grind
theorem ZQo{es:Array MapEntry}{clk:Nat}{k v:Value}(h: ∀x∈es.toList,x.born<clk)(hn:(es.toList.map (·.born)).Nodup):((es.push {key:=k,val:=v,born:=clk}).toList.map (·.born)).Nodup:=by
 grind
theorem ZOM(es:Array MapEntry)(j:Nat):(es.eraseIdxIfInBounds j).toList.Sublist es.toList:=by
 grind[Array.toList_eraseIdx,Array.eraseIdxIfInBounds]
theorem ZSf(K:KeyKind d mk)(T key elem:TypeId)(z:Value)(hT:P.underlying T=some (.map key elem))(hk:P.underlying key=some d)(hz:(zeroValue elem).run P w= .ok z w)
  (r:Nat) (l:List (κ×Value)) (hm:Qg mk w r l) (k:κ) (ok:Bool):
  (Instr.lookup T (.map (some r)) (mk k) ok).run P w= .ok (if ok then .tuple #[(ZH l k).getD z,.bool (ZH l k).isSome]else(ZH l k).getD z) w:=by
 obtain⟨es,clk,hr,hl,hn,-⟩:=hm;have hg:(getObj r).run P w= .ok (.map es clk) w:=Tm
 rcases ZC8 K k l es.toList 0 hl with⟨j,v,h1,h2,-⟩|⟨h1,h2,-⟩
 .cases ok<;>simp[Instr.lookup,run_underlying hT,hg,Sem.run_bind,Result.andThen,K.check P w _ key k hk,Instr.findKey,run_underlying hk,h1,h2]
 .cases ok<;>simp[Instr.lookup,run_underlying hT,hg,Sem.run_bind,Result.andThen,K.check P w _ key k hk,Instr.findKey,run_underlying hk,h1,h2,hz]
structure Only (r:Nat) (w w':World):Prop where
 os:w'.os=w.os
 tape:w'.tape=w.tape
 output:w'.output=w.output
 size:w'.heap.size=w.heap.size
 block: ∀b,b≠r->w'.heap[b]? =w.heap[b]?
theorem ZDB(w:World)(r:Nat)(o:Obj):Only r w {w with heap:=w.heap.setIfInBounds r o}:=by
 refine⟨rfl,rfl,rfl,J1,λb hb=> ?_⟩;grind
theorem ZNy(K:KeyKind d mk)(T key elem:TypeId)(hT:P.underlying T=some (.map key elem))(hk:P.underlying key=some d)
  (r:Nat) (l:List (κ×Value)) (hm:Qg mk w r l) (k:κ) (v:Value):
  ∃w',(Instr.mapUpdate T (.map (some r)) (mk k) v).run P w= .ok () w'/\Only r w w'/\Qg mk w' r (Zy l k v):=by
 obtain⟨es,clk,hr,hl,hn,hbc,hbn⟩:=hm;have hlt:r<w.heap.size:=(ξH hr).1;have hg:(getObj r).run P w= .ok (.map es clk) w:=Tm
 have hs: ∀o,(setObj r o).run P w= .ok () {w with heap:=w.heap.setIfInBounds r o}:=λo=>Gb
 rcases ZC8 K k l es.toList 0 hl with⟨j,v0,h1,h2,h3,⟨e,h4,h4'⟩,h5,-⟩|⟨h1,h2,h3,-⟩
 .have hj:es[j]? =some e:=Ta
  have hks:(Instr.keyThatStays (mk k) (mk k)).run P w= .ok (mk k) w:=by simp[Instr.keyThatStays,K.bits]
  refine⟨_,?_,ZDB w r (.map (es.modify j λe=> {e with key:=mk k,val:=v}) clk),es.modify j λe=> {e with key:=mk k,val:=v},clk,?_,?_,ZEj l k v hn,ZFZ j _ (λ_=>rfl) hbc,ZDj j _ (λ_=>rfl) hbn⟩
  .simp[Instr.mapUpdate,run_underlying hT,hg,Sem.run_bind,Result.andThen,K.check P w _ key k hk,Instr.findKey,run_underlying hk,h1,hj,h4',hks,hs]
  all_goals simp_all
 .refine⟨_,?_,ZDB w r (.map (es.push {key:=mk k,val:=v,born:=clk}) (clk+1)),es.push {key:=mk k,val:=v,born:=clk},clk+1,?_,?_,ZEj l k v hn,ZK8 hbc,ZQo hbc hbn⟩
  .simp[Instr.mapUpdate,run_underlying hT,hg,Sem.run_bind,Result.andThen,K.check P w _ key k hk,Instr.findKey,run_underlying hk,h1,hs]
  all_goals simp_all
theorem ZT4(K:KeyKind d mk)(T key elem:TypeId)(hT:P.underlying T=some (.map key elem))(hk:P.underlying key=some d)(ty:TypeId)(ts:TypeId)
  (r:Nat) (l:List (κ×Value)) (hm:Qg mk w r l) (k:κ):
  ∃w',(Builtin.delete_ #[T,ts] ty #[.map (some r),mk k]).run P w= .ok (.tuple #[]) w'/\Only r w w'/\Qg mk w' r (Zk l k):=by
 obtain⟨es,clk,hr,hl,hn,hbc,hbn⟩:=hm;have hlt:r<w.heap.size:=(ξH hr).1;have hg:(getObj r).run P w= .ok (.map es clk) w:=Tm
 have hs: ∀o,(setObj r o).run P w= .ok () {w with heap:=w.heap.setIfInBounds r o}:=λo=>Gb
 rcases ZC8 K k l es.toList 0 hl with⟨j,v0,h1,h2,h3,⟨e,h4,h4'⟩,-,h6⟩|⟨h1,h2,-,h4⟩
 .refine⟨_,?_,ZDB w r (.map (es.eraseIdxIfInBounds j) clk),es.eraseIdxIfInBounds j,clk,?_,?_,mdel_nodup l k hn,λx hx=>hbc x ((ZOM es j).subset hx),((ZOM es j).map _).nodup hbn⟩
  .exact Ts
  all_goals simp_all
 .refine⟨_,?_,ZDB w r (.map es clk),es,clk,?_,?_,mdel_nodup l k hn,hbc,hbn⟩
  .exact Ts
  all_goals simp_all
theorem ZPT(K:KeyKind d mk)(T key elem:TypeId)(z:Value)(hT:P.underlying T=some (.map key elem))(hk:P.underlying key=some d)(hz:(zeroValue elem).run P w= .ok z w)
  (r:Nat) (l:List (κ×Value)) (hm:Qg mk w r l) (k:κ):
  ∃(w':World) (v:Value) (n:Nat),(Instr.mapEntry T (.map (some r)) (mk k)).run P w= .ok (.tuple #[v,goInt n]) w'/\Only r w w'/\v=(ZH l k).getD z/\Qg mk w' r (Zy l k v)/\
   ∃es clk e,w'.heap[r]? =some (.map es clk)/\e∈es.toList/\e.born=n/\e.key=mk k:=by
 obtain⟨es,clk,hr,hl,hn,hbc,hbn⟩:=hm;have hlt:r<w.heap.size:=(ξH hr).1;have hg:(getObj r).run P w= .ok (.map es clk) w:=Tm
 have hs: ∀o,(setObj r o).run P w= .ok () {w with heap:=w.heap.setIfInBounds r o}:=λo=>Gb
 rcases ZC8 K k l es.toList 0 hl with⟨j,v0,h1,h2,h3,⟨e,h4,h4'⟩,h5,-⟩|⟨h1,h2,h3,-⟩
 .have hj:es[j]? =some e:=Ta
  have hks:(Instr.keyThatStays (mk k) (mk k)).run P w= .ok (mk k) w:=by simp[Instr.keyThatStays,K.bits]
  have hev:e.val=v0:=by
   have h6:=congrArg (λl=>l[j]?) hl;simp only[YI,h4,Yq]at h6;have hjl:j<l.length:=by
    grind
   rw[Zw hjl]at h6;simp only[Yq,Yu,YP]at h6;have h7:ZH l k=some l[j].2:=by
    have hK:=h6.1;rw[h4']at hK;have hkk:k=l[j].1:=by
     exact K.inj hK
    exact ZEl hn (by rw[hkk];exact YK hjl)
   simp_all
  refine⟨_,v0,e.born,?_,ZDB w r (.map (es.modify j λe=> {e with key:=mk k}) clk),by rw[h2];rfl,⟨es.modify j λe=> {e with key:=mk k},clk,?_,?_,ZEj l k v0 hn,ZFZ j _ (λ_=>rfl) hbc,ZDj j _ (λ_=>rfl) hbn⟩,es.modify j λe=> {e with key:=mk k},clk,{e with key:=mk k},?_,?_,rfl,rfl⟩
  .simp[Instr.mapEntry,run_underlying hT,hg,Sem.run_bind,Result.andThen,K.check P w _ key k hk,Instr.findKey,run_underlying hk,h1,hj,h4',hks,hs]
  .simp[hlt]
  .rw[<-h5 v0,ZcL];congr 1;apply ZBg;intro i;simp only[List.getElem?_modify];by_cases h:j=i
   .subst h;simp only[h4,if_true,Option.map_eq_map,Yq,hev.symm]
   .simp[h]
  .simp[hlt]
  .have:(es.modify j λe=> {e with key:=mk k}).toList[j]? =some {e with key:=mk k}:=by
    rw[ZcL,List.getElem?_modify,h4];simp
   exact JE this
 .refine⟨_,z,clk,?_,ZDB w r (.map (es.push {key:=mk k,val:=z,born:=clk}) (clk+1)),by rw[h2];rfl,⟨es.push {key:=mk k,val:=z,born:=clk},clk+1,?_,?_,ZEj l k z hn,ZK8 hbc,ZQo hbc hbn⟩,es.push {key:=mk k,val:=z,born:=clk},clk+1,{key:=mk k,val:=z,born:=clk},?_,J1,rfl,rfl⟩
  .simp[Instr.mapEntry,run_underlying hT,hg,Sem.run_bind,Result.andThen,K.check P w _ key k hk,Instr.findKey,run_underlying hk,h1,hs,hz]
  all_goals simp_all
theorem ZMg(K:KeyKind d mk)(T:TypeId)(r:Nat)(l:List (κ×Value))(hm:Qg mk w r l)(k:κ)(n:Nat)(v:Value)
  (he: ∀es clk,w.heap[r]? =some (.map es clk)-> ∃e∈es.toList,e.born=n/\e.key=mk k):
  ∃w',(Instr.entryStore T (.map (some r)) (goInt n) v).run P w= .ok () w'/\Only r w w'/\Qg mk w' r (Zy l k v):=by
 obtain⟨es,clk,hr,hl,hn,hbc,hbn⟩:=hm;have hlt:r<w.heap.size:=(ξH hr).1;have hg:(getObj r).run P w= .ok (.map es clk) w:=Tm
 have hs: ∀o,(setObj r o).run P w= .ok () {w with heap:=w.heap.setIfInBounds r o}:=λo=>Gb
 obtain⟨e,hm,hb,hkey⟩:=he es clk hr;rcases ZC8 K k l es.toList 0 hl with⟨j,v0,h1,h2,h3,⟨e',h4,h4'⟩,h5,-⟩|⟨h1,h2,h3,-⟩
 .have hee:e=e':=by
   have inj: ∀(L:List MapEntry) (l:List (κ×Value)),L.map (λe=>(e.key,e.val))=l.map (λp=>(mk p.1,p.2))->(l.map (·.1)).Nodup-> ∀a b,a∈L->b∈L->a.key=mk k->b.key=mk k->a=b:=by
    intro L
    induction L with
    |nil=>intro l _ _ a b ha;cases ha
    |cons x L ih=>
     intro l hl hn a b ha hb ka kb;cases l with
     |nil=>simp at hl
     |cons p l=>
      simp only[YO,ZEt,YP]at hl;simp only[YO,ZBE]at hn;have nk: ∀y∈L,x.key=mk k->y.key=mk k->False:=by
       intro y hy hx hyk;have h6:(y.key,y.val)∈L.map (λe=>(e.key,e.val)):=YS.2 ⟨y,hy,rfl⟩;rw[hl.2]at h6;obtain⟨q,hq,hqe⟩:=YS.1 h6;simp only[YP]at hqe;have e1:mk p.1=mk k:=hl.1.1.symm.trans hx;have e2:mk q.1=mk k:=hqe.1.trans hyk;have e3:p.1=q.1:=by
        exact K.inj (e1.trans e2.symm)
       simp_all
      grind
   grind
  subst hee;have hj:es[j]? =some e:=Ta
  have hf:es.findIdx? (λe=>(e.born:Int)==(n:Int))=some j:=by
   have hjl:j<es.toList.length:=(ZX h4).1;have hje:es.toList[j]=e:=(ZX h4).2;refine Array.findIdx?_eq_some_iff_getElem.2 ⟨HN,by rw[show es[j]' HN=e by simpa using hje];simp[hb],λi hi=> ?_⟩;have hjs:j<es.size:=HN
   have his:i<es.size:=Wm
   have hne:(es.toList[i]'(by simpa using his)).born≠es.toList[j].born:=by
    have h0:=ZFK.1 hbn i j (by simpa using his) HN hi;simpa using h0
   grind
  have hai:(asInt (goInt n)).run P w= .ok (n:Int) w:=by simp[asInt,goInt,asIntOf]
  have hmod:(es.modify j λe=> {e with val:=v}).toList.map (λe=>(e.key,e.val))=(Zy l k v).map (λp=>(mk p.1,p.2)):=by
   rw[<-h5 v,ZcL];congr 1;apply ZBg;grind
  refine⟨_,?_,ZDB w r (.map (es.modify j λe=> {e with val:=v}) clk),es.modify j λe=> {e with val:=v},clk,?_,hmod,ZEj l k v hn,ZFZ j _ (λ_=>rfl) hbc,ZDj j _ (λ_=>rfl) hbn⟩
  all_goals simp_all[Instr.entryStore,Sem.run_bind,Result.andThen]
 .exfalso;have h6:(e.key,e.val)∈es.toList.map (λe=>(e.key,e.val)):=YS.2 ⟨e,hm,rfl⟩;rw[hl]at h6;obtain⟨q,hq,hqe⟩:=YS.1 h6;simp only[YP]at hqe;have e3:k=q.1:=by
   exact K.inj (hkey.symm.trans hqe.1.symm)
  exact KV.1 h2 (YS.2 ⟨q,hq,e3.symm⟩)
omit [DecidableEq κ]in
theorem ZUf(T key elem:TypeId)(hT:P.underlying T=some (.map key elem))(ty:TypeId)(r:Nat)(l:List (κ×Value))(hm:Qg mk w r l):
  ∃w',(Builtin.clear_ #[T] ty #[.map (some r)]).run P w= .ok (.tuple #[]) w'/\Only r w w'/\Qg mk w' r []:=by
 obtain⟨es,clk,hr,hl,hn,hbc,hbn⟩:=hm;have hlt:r<w.heap.size:=(ξH hr).1;have hg:(getObj r).run P w= .ok (.map es clk) w:=Tm
 have hs: ∀o,(setObj r o).run P w= .ok () {w with heap:=w.heap.setIfInBounds r o}:=λo=>Gb
 refine⟨_,?_,ZDB w r (.map #[] clk),#[],clk,?_,rfl,ZPl,J1,J1⟩
 .simp[Builtin.clear_,run_underlying hT,hg,Sem.run_bind,Result.andThen,hs]
 .simp[hlt]
end
theorem Qg.new{κ:Type}(mk:κ->Value)(w:World):Qg mk (w.alloc (.map #[] 0)) w.heap.size []:=⟨#[],0,heap_alloc_new w _,rfl,ZPl,J1,J1⟩
theorem Qg.keep{κ:Type}{mk:κ->Value}{w w':World}{r:Nat}{l:List (κ×Value)}(h:Qg mk w r l)(e:w'.heap[r]? =w.heap[r]?):Qg mk w' r l:=by
 obtain⟨es,clk,hr,h1,h2⟩:=h;exact⟨es,clk,by rw[e,hr],h1,h2⟩
theorem Qg.lt{κ:Type}{mk:κ->Value}{w:World}{r:Nat}{l:List (κ×Value)}(h:Qg mk w r l):r<w.heap.size:=by
 obtain⟨es,clk,hr,h1,h2⟩:=h;exact(ξH hr).1
theorem Qg.ext{κ:Type}{mk:κ->Value}{w w':World}{r:Nat}{l:List (κ×Value)}(h:Qg mk w r l)(e:Ext w w'):Qg mk w' r l:=h.keep (Below.block e r h.lt)
structure Enc (α:Type) where
 n:Nat
 rep:World->(Nat->Prop)->α->List Value->Prop
def ZkG:Enc Unit:=⟨0,λ_ _ _ cs=>cs= []⟩
def ZkD{α β:Type}(E:Enc α)(F:Enc β):Enc (α×β):=⟨E.n+F.n,λw ok x cs=> ∃c d,cs=c++d/\E.rep w ok x.1 c/\F.rep w ok x.2 d⟩
def Sl{α:Type}(E:Enc α)(w:World)(ok:Nat->Prop)(a:Option Addr)(l:List α):Prop:=
 l.length<=9223372036854775807/\ ∀i (h:i<l.length),∃b off cs,a=some ⟨b,off,none⟩/\ok b/\E.rep w ok l[i] cs/\ ∀j,j<E.n->w.cell? ⟨b,off+i*E.n+j,none⟩=cs[j]?
def ZHf(w w':World)(ok ok':Nat->Prop):Prop:= ∀b,b<w.heap.size->ok b->ok' b/\w'.heap[b]? =w.heap[b]?
theorem ZHf.ext{w w':World}(h:Ext w w')(ok:Nat->Prop):ZHf w w' ok ok:=λb hb ho=>⟨ho,Below.block h b hb⟩
theorem ZHf.cell{w w':World}{ok ok':Nat->Prop}(h:ZHf w w' ok ok'){p:Addr}{v:Value}(hc:w.cell? p=some v)(ho:ok p.block):w'.cell? p=some v:=by
 rw[World.cell?_of_block (h p.block (World.block_lt_of_cell? _ _ hc) ho).2];exact hc
structure Enc.Good {α:Type} (E:Enc α):Prop where
 len: ∀ {w ok x cs},E.rep w ok x cs->cs.length=E.n
 stay: ∀ {w w' ok ok' x cs},ZHf w w' ok ok'->E.rep w ok x cs->E.rep w' ok' x cs
 one: ∀ {w ok x cs},E.rep w ok x cs-> ∀u∈cs,u.oneCell'=true
theorem Sl.stay{α:Type}{E:Enc α}(hE:E.Good)(h0:0<E.n){w w':World}{ok ok':Nat->Prop}{a:Option Addr}{l:List α}(hs:ZHf w w' ok ok')(h:Sl E w ok a l):Sl E w' ok' a l:=by
 refine⟨h.1,λi hi=> ?_⟩;obtain⟨b,off,cs,ha,hb,hr,hc⟩:=h.2 i hi;have hl:=hE.len hr;have hlt:b<w.heap.size:=by
  have h1:=hc 0 h0;rw[Zw J0]at h1;exact World.block_lt_of_cell? _ _ h1
 refine⟨b,off,cs,ha,(hs b hlt hb).1,hE.stay hs hr,λj hj=> ?_⟩;have h1:=hc j hj;rw[Zw J0]at h1|-;exact hs.cell h1 hb
theorem Sl.ext{α:Type}{E:Enc α}(hE:E.Good)(h0:0<E.n){w w':World}{ok:Nat->Prop}{a:Option Addr}{l:List α}(h:Sl E w ok a l)(e:Ext w w'):Sl E w' ok a l:=h.stay hE h0 (ZHf.ext e ok)
theorem Sl.nil{α:Type}{E:Enc α}(w:World)(ok:Nat->Prop)(a:Option Addr):Sl E w ok a []:=⟨J1,λi hi=>by simp at hi⟩
def ZkK(P:Program)(T:TypeId){α:Type}(E:Enc α):Prop:=
 P.cellsOf T=E.n/\ ∀ {H:Type} (enc:TypeId×Value->H) (w:World) (fuel:Nat) (cs:List Value) (x:DataW H×List MemPlace),DataW.trod enc P w 0 (λ_=>true) true fuel T cs=some x-> ∃y,E.rep w (λ_=>True) y cs
section
variable {P:Program} {T:TypeId}
inductive Fields (P:Program):List Field->Nat-> {α:Type}->Enc α->Prop
 |nil (off:Nat):Fields P [] off ZkG
 |cons {f:Field} {fs:List Field} {off:Nat} {α β:Type} {E:Enc α} {F:Enc β} (ho:f.offset=off) (hE:ZkK P f.type E) (hF:Fields P fs (off+E.n) F):Fields P (f::fs) off (ZkD E F)
end
end Go.Bo
end
section
namespace Go.Ab
open Go.RowKit Go.Bo
def ZV(s:List UInt8):ByteArray:=⟨s.toArray⟩
theorem ZAO(s:List UInt8):(ZV s).size=s.length:=HE
theorem KC(s:List UInt8):(ZV s).toList=s:=by rw[ByteArray.toList_eq];simp[ZV]
inductive X where
 |int (k:IntKind) (n:Int)
 |bool (b:Bool)
 |str (s:List UInt8)
 |nilp
 |nils
 |sl (rs:List (List X))
 deriving Inhabited
inductive VX (w:World) (st:Nat->Nat->Prop):X->Value->Prop
 |int (k:IntKind) (n:Int):VX w st (.int k n) (.int k n)
 |bool (b:Bool):VX w st (.bool b) (.bool b)
 |str (s:List UInt8):VX w st (.str s) (.string (ZV s))
 |nilp:VX w st .nilp (.pointer none)
 |nils:VX w st .nils (.slice none 0 0)
 |sl (rs:List (List X)) (a:Option Addr) (n c sz:Nat) (val:Nat->Nat->Value) (hn:rs.length=n) (hc:n<=c) (hm:c<=maxLen) (hsz: ∀r∈rs,r.length=sz)
   (hcell: ∀i j,i<n->j<sz-> ∃b off,a=some ⟨b,off,none⟩/\st b (off+i*sz+j)/\w.cell? ⟨b,off+i*sz+j,none⟩=some (val i j))
   (hnil:a=none->n=0/\c=0) (hsp:0<c-> ∀ad,a=some ad->ad.spot=none)
   (hval: ∀i j r x,rs[i]? =some r->r[j]? =some x->VX w st x (val i j)):VX w st (.sl rs) (.slice a n c)
theorem VX.one{w:World}{st:Nat->Nat->Prop}{x:X}{v:Value}(h:VX w st x v):v.oneCell'=true:=by cases h<;>rfl
theorem VX.mono{w w':World}{st st':Nat->Nat->Prop}(e: ∀b o,st b o->st' b o/\w'.cell? ⟨b,o,none⟩=w.cell? ⟨b,o,none⟩){x:X}{v:Value}(h:VX w st x v):VX w' st' x v:=by
 induction h with
 |int k n=>exact .int k n
 |bool b=>exact .bool b
 |str s=>exact .str s
 |nilp=>exact .nilp
 |nils=>exact .nils
 |sl rs a n c sz val hn hc hm hsz hcell hnil hsp _ ih=>
  refine .sl rs a n c sz val hn hc hm hsz (λi j hi hj=> ?_) hnil hsp ih;grind
inductive D where
 |x (x:X)
 |ref (id ext off len:Nat)
 |ptr (id off:Nat)
 |eptr (id ext i off:Nat)
 |vptr (cs:List X)
 |mref (id:Nat)
 |mnil
 |iref (mid id:Nat)
 |stk (mid id:Nat)
 |bref (id off len:Nat)
 |agg (ds:List D)
 |tup (ds:List D)
 |full (rs:List (List X))
 |nz (rs:List (List X))
 |fn (f:FuncId) (caps:List D)
 |opt (b:Bool) (d:D)
 |und
 deriving Inhabited
inductive KF where
 |int (k:IntKind)
 |str
 deriving DecidableEq
inductive KK where
 |int (k:IntKind)
 |str
 |st (a b:KF)
 deriving DecidableEq
abbrev Pr:=List X×List D
inductive Ob where
 |box (ds:List D)
 |rows (fz:Bool) (e sz:Nat) (rs:List (List X))
 |drw (e sz:Nat) (rs:List (List D))
 |frz (sz:Nat) (rs:List (List X))
 |mpo (dk:KK) (ag:Bool) (l:List Pr)
 |mit (dk:KK) (ag:Bool) (l:List Pr) (it:Nat) (R:List Pr) (cur:Option Pr)
 |mpn (dk:KK) (ag:Bool) (l:List Pr) (key:List X) (sid:Nat)
 |itr
 |stp
 |sit (s:List UInt8) (pos:Nat)
 |nit
 |old (sz n:Nat)
 |fam (k:Nat) (P:List (List Pr)) (B:List (X×List (List X)))
 |dead
 deriving Inhabited
abbrev _root_.Go.J4:=List (Nat×D)
abbrev _root_.Go.J5:=Option (Bool×D)
abbrev _root_.Go.J6:=List (List X)
abbrev _root_.Go.J7:=List Ob
abbrev _root_.Go.J8:=List D
abbrev _root_.Go.J9:=List X
abbrev _root_.Go.W0:=List Nat
abbrev _root_.Go.W2:=List Pr
def Ob.slice? :Ob->Option (Nat×J6)
 | .rows _ _ sz rs=>some (sz,rs)
 | .frz sz rs=>some (sz,rs)
 |_=>none
def Ob.sl? :Ob->Option (Nat×Nat)
 | .rows _ _ sz rs=>some (sz,rs.length)
 | .drw _ sz rs=>some (sz,rs.length)
 | .frz sz rs=>some (sz,rs.length)
 | .old sz n=>some (sz,n)
 |_=>none
theorem Ob.slice_sl{o:Ob}{sz:Nat}{rs:J6}(h:o.slice? =some (sz,rs)):o.sl? =some (sz,rs.length):=by
 cases o<;>simp_all[Ob.slice?,Ob.sl?]
def Ob.dsl? :Ob->Option (Nat×List J8)
 | .drw _ sz rs=>some (sz,rs)
 |_=>none
theorem Ob.dsl_sl{o:Ob}{sz:Nat}{rs:List J8}(h:o.dsl? =some (sz,rs)):o.sl? =some (sz,rs.length):=by
 cases o<;>simp_all[Ob.dsl?,Ob.sl?]
theorem Ob.dsl_drw{o:Ob}{sz:Nat}{rs:List J8}(h:o.dsl? =some (sz,rs)): ∃e,o= .drw e sz rs:=by
 cases o<;>simp_all[Ob.dsl?]
def Ob.map? :Ob->Option (KK×Bool×W2)
 | .mpo dk ag l=>some (dk,ag,l)
 | .mit dk ag l _ _ _=>some (dk,ag,l)
 | .mpn dk ag l _ _=>some (dk,ag,l)
 |_=>none
inductive Kd where
 |box
 |map (dk:KK) (ag:Bool)
 |itr
 |stp
def Ob.kd:Ob->Option Kd
 | .box _=>some .box
 | .mpo dk ag _=>some (.map dk ag)
 | .mit dk ag _ _ _ _=>some (.map dk ag)
 | .mpn dk ag _ _ _=>some (.map dk ag)
 | .itr=>some .itr
 | .sit _ _=>some .itr
 | .nit=>some .itr
 | .fam _ _ _=>some .itr
 | .stp=>some .stp
 |_=>none
theorem Ob.kd_box{o:Ob}(h:o.kd=some .box): ∃ds,o= .box ds:=by
 cases o with
 |box ds=>exact⟨ds,rfl⟩
 |_=>simp[Ob.kd]at h
structure Env where
 w:World
 st:Nat->Nat->Prop
 ob:List (Nat×Value)
def ZWz(E:Env)(id ext off len:Nat)(v:Value)(sz n:Nat):Prop:=
 ext<=n/\(n=ext->
  off+len<=ext/\ ∃b a cap a' cap',E.ob[id]? =some (b,.slice a ext cap)/\v= .slice a' len cap'/\len<=cap'/\cap'<=maxLen/\(off=0->a'=a/\cap'=cap)/\
   (0<len-> ∀ad,a=some ad->a'=some ⟨ad.block,ad.off+off*sz,none⟩)/\(a'=none->len=0/\cap'=0)/\(∀ad,a'=some ad->ad.spot=none))
def ZGT(E:Env)(os:J7)(id ext off len:Nat)(v:Value):Prop:= ∃o sz n,os[id]? =some o/\o.sl? =some (sz,n)/\ZWz E id ext off len v sz n
def ZTl(E:Env)(id ext i off:Nat)(v:Value)(sz n:Nat):Prop:=
 ext<=n/\(n=ext->i<ext/\ ∃b g cap,E.ob[id]? =some (b,.slice (some ⟨g,0,none⟩) ext cap)/\v= .pointer (some ⟨g,i*sz+off,none⟩))
def ZF1(E:Env)(os:J7)(id ext i off:Nat)(v:Value):Prop:= ∃o sz n,os[id]? =some o/\o.sl? =some (sz,n)/\ZTl E id ext i off v sz n
theorem ZGT.at'{E:Env}{os:J7}{id ext off len:Nat}{v:Value}(h:ZGT E os id ext off len v){o:Ob}{sz n:Nat}(ho:os[id]? =some o)(hs:o.sl? =some (sz,n)):ZWz E id ext off len v sz n:=by
 obtain⟨o',sz',rs',h1,h2,h3⟩:=h
 simp_all
theorem ZGT.at{E:Env}{os:J7}{id ext off len:Nat}{v:Value}(h:ZGT E os id ext off len v){o:Ob}{sz:Nat}{rs:J6}(ho:os[id]? =some o)(hs:o.slice? =some (sz,rs)):ZWz E id ext off len v sz rs.length:=
 h.at' ho (Ob.slice_sl hs)
theorem ZF1.at'{E:Env}{os:J7}{id ext i off:Nat}{v:Value}(h:ZF1 E os id ext i off v){o:Ob}{sz n:Nat}(ho:os[id]? =some o)(hs:o.sl? =some (sz,n)):ZTl E id ext i off v sz n:=by
 obtain⟨o',sz',rs',h1,h2,h3⟩:=h
 simp_all
theorem ZF1.at{E:Env}{os:J7}{id ext i off:Nat}{v:Value}(h:ZF1 E os id ext i off v){o:Ob}{sz:Nat}{rs:J6}(ho:os[id]? =some o)(hs:o.slice? =some (sz,rs)):ZTl E id ext i off v sz rs.length:=
 h.at' ho (Ob.slice_sl hs)
inductive V (E:Env) (os:J7):D->Value->Prop
 |x {x:X} {v:Value} (h:VX E.w E.st x v):V E os (.x x) v
 |ref {id ext off len:Nat} {v:Value} (h:ZGT E os id ext off len v) (h1:v.oneCell'=true):V E os (.ref id ext off len) v
 |ptr {id off b:Nat} {cu:Value} {ds:J8} (ho:os[id]? =some (.box ds)) (h:E.ob[id]? =some (b,cu)):V E os (.ptr id off) (.pointer (some ⟨b,off,none⟩))
 |mref {id b:Nat} {cu:Value} {dk:KK} {ag:Bool} {o:Ob} (ho:os[id]? =some o) (hk:o.kd=some (.map dk ag)) (h:E.ob[id]? =some (b,cu)):V E os (.mref id) (.map (some b))
 |mnil:V E os .mnil (.map none)
 |iref {mid id b:Nat} {cu:Value} {o:Ob} (ho:os[id]? =some o) (hk:o.kd=some .itr) (h:E.ob[id]? =some (b,cu)):V E os (.iref mid id) (.pointer (some ⟨b,0,none⟩))
 |stk {mid id b:Nat} {cu:Value} {o:Ob} (ho:os[id]? =some o) (hk:o.kd=some .stp) (h:E.ob[id]? =some (b,cu)):V E os (.stk mid id) (.int .i64 b)
 |bref {id off len b:Nat} {cu:Value} {ds:J8} (ho:os[id]? =some (.box ds)) (h:E.ob[id]? =some (b,cu)) (hm:len<=maxLen):V E os (.bref id off len) (.slice (some ⟨b,off,none⟩) len len)
 |eptr {id ext i off:Nat} {v:Value} (h:ZF1 E os id ext i off v) (h1: ∃ad:Addr,v= .pointer (some ad)):V E os (.eptr id ext i off) v
 |vptr {cs:J9} (b off:Nat) (val:Nat->Value) (hc: ∀j x,cs[j]? =some x->E.st b (off+j)/\E.w.cell? ⟨b,off+j,none⟩=some (val j)) (hv: ∀j x,cs[j]? =some x->VX E.w E.st x (val j)):
   V E os (.vptr cs) (.pointer (some ⟨b,off,none⟩))
 |agg {ds:J8} (vs:Array Value) (hl:ds.length=vs.size) (h1: ∀v∈vs.toList,v.oneCell'=true) (hv: ∀(j:Nat) (d:D) (v:Value),ds[j]? =some d->vs[j]? =some v->V E os d v):V E os (.agg ds) (.agg vs)
 |tup {ds:J8} (vs:Array Value) (hl:ds.length=vs.size) (hv: ∀(j:Nat) (d:D) (v:Value),ds[j]? =some d->vs[j]? =some v->V E os d v):V E os (.tup ds) (.tuple vs)
 |full {rs:J6} {a:Option Addr} (n:Nat) (h:VX E.w E.st (.sl rs) (.slice a n n)):V E os (.full rs) (.slice a n n)
 |nz {rs:J6} {ad:Addr} {n c:Nat} (h:VX E.w E.st (.sl rs) (.slice (some ad) n c)):V E os (.nz rs) (.slice (some ad) n c)
 |fn {f:FuncId} {caps:J8} (vs:Array Value) (hl:caps.length=vs.size) (hv: ∀(j:Nat) (d:D) (v:Value),caps[j]? =some d->vs[j]? =some v->V E os d v):V E os (.fn f caps) (.func (.func f) #[] vs)
 |opt {b:Bool} {d:D} {v:Value} (h:b=true->V E os d v) (h':b=false->v=undef):V E os (.opt b d) v
 |und (v:Value):V E os .und v
structure Evo (E:Env) (os:J7) (E':Env) (os':J7):Prop where
 st: ∀b o,E.st b o->E'.st b o/\E'.w.cell? ⟨b,o,none⟩=E.w.cell? ⟨b,o,none⟩
 bl: ∀(id b:Nat) (cu:Value) (o:Ob) (k:Kd),os[id]? =some o->o.kd=some k->E.ob[id]? =some (b,cu)-> ∃cu' o',os'[id]? =some o'/\o'.kd=some k/\E'.ob[id]? =some (b,cu')
 rf: ∀(id:Nat) (o:Ob) (sz n:Nat),os[id]? =some o->o.sl? =some (sz,n)->
  ∃o' n',os'[id]? =some o'/\o'.sl? =some (sz,n')/\((n=n'/\E'.ob[id]? =E.ob[id]?)\/n<n')
theorem Evo.refl(E:Env)(os:J7):Evo E os E os:=⟨λ_ _ h=>⟨h,rfl⟩,λ_ _ cu o _ h hk h'=>⟨cu,o,h,hk,h'⟩,λ_ o _ rs h1 h2=>⟨o,rs,h1,h2,.inl ⟨rfl,rfl⟩⟩⟩
theorem Evo.trans{E E' E'':Env}{os os' os'':J7}(h:Evo E os E' os')(k:Evo E' os' E'' os''):Evo E os E'' os'':=by
 refine⟨λb o hs=> ?_,λid b cu o q ho hq hb=> ?_,λid o sz rs h1 h2=> ?_⟩
 .obtain⟨a1,a2⟩:=h.st b o hs;obtain⟨b1,b2⟩:=k.st b o a1
  simp_all
 .obtain⟨cu',o',h1,h2,h3⟩:=h.bl id b cu o q ho hq hb;exact k.bl id b cu' o' q h1 h2 h3
 .obtain⟨o',rs',j1,j2,j3⟩:=h.rf id o sz rs h1 h2;obtain⟨o'',rs'',k1,k2,k3⟩:=k.rf id o' sz rs' j1 j2;grind
theorem ZGT.mono{E E':Env}{os os':J7}(e:Evo E os E' os'){id ext off len:Nat}{v:Value}(h:ZGT E os id ext off len v):ZGT E' os' id ext off len v:=by
 obtain⟨o,sz,rs,h1,h2,h3,h4⟩:=h;obtain⟨o',rs',k1,k2,k3⟩:=e.rf id o sz rs h1 h2;refine⟨o',sz,rs',k1,k2,?_⟩;rcases k3 with⟨k3,k4⟩|k3
 .refine⟨J0,λhl=> ?_⟩
  simp_all
 .exact⟨J0,λhl=>absurd hl J0⟩
theorem ZF1.mono{E E':Env}{os os':J7}(e:Evo E os E' os'){id ext i off:Nat}{v:Value}(h:ZF1 E os id ext i off v):ZF1 E' os' id ext i off v:=by
 obtain⟨o,sz,rs,h1,h2,h3,h4⟩:=h;obtain⟨o',rs',k1,k2,k3⟩:=e.rf id o sz rs h1 h2;refine⟨o',sz,rs',k1,k2,?_⟩;rcases k3 with⟨k3,k4⟩|k3
 .refine⟨J0,λhl=> ?_⟩
  simp_all
 .exact⟨J0,λhl=>absurd hl J0⟩
theorem V.mono{E E':Env}{os os':J7}(e:Evo E os E' os'){d:D}{v:Value}(h:V E os d v):V E' os' d v:=by
 induction h with
 |x h=>exact .x (h.mono e.st)
 |ref h h1=>exact .ref (h.mono e) h1
 |ptr ho h=>obtain⟨cu',o',h1,h2,h3⟩:=e.bl _ _ _ _ .box ho rfl h;obtain⟨ds',rfl⟩:=Ob.kd_box h2;exact .ptr h1 h3
 |mref ho hk h=>obtain⟨cu',o',h1,h2,h3⟩:=e.bl _ _ _ _ _ ho hk h;exact .mref h1 h2 h3
 |mnil=>exact .mnil
 |iref ho hk h=>obtain⟨cu',o',h1,h2,h3⟩:=e.bl _ _ _ _ _ ho hk h;exact .iref h1 h2 h3
 |stk ho hk h=>obtain⟨cu',o',h1,h2,h3⟩:=e.bl _ _ _ _ _ ho hk h;exact .stk h1 h2 h3
 |bref ho h hm=>obtain⟨cu',o',h1,h2,h3⟩:=e.bl _ _ _ _ .box ho rfl h;obtain⟨ds',rfl⟩:=Ob.kd_box h2;exact .bref h1 h3 hm
 |eptr h h1=>exact .eptr (h.mono e) h1
 |vptr b off val hc hv=>exact UJ
 |agg vs hl h1 _ ih=>exact .agg vs hl h1 ih
 |tup vs hl _ ih=>exact .tup vs hl ih
 |full n h=>exact .full n (h.mono e.st)
 |nz h=>exact .nz (h.mono e.st)
 |fn vs hl _ ih=>exact .fn vs hl ih
 |opt _ h' ih=>exact .opt ih h'
 |und v=>exact .und v
def QM(w:World)(fz:Bool)(e sz n:Nat)(cur:Value)(xs:List Value):Prop:=
 xs.length=n*sz/\((cur= .slice none 0 0/\n=0)\/ ∃g cap cells fr,cur= .slice (some ⟨g,0,none⟩) n cap/\w.heap[g]? =some (.cells cells e fr)/\n<=cap/\cap<=maxLen/\cells.size=cap*sz/\
  cells.toList.take (n*sz)=xs/\(fr=(0,0)\/(fz=true/\cells.size<=fr.1)))
theorem QM.owns{w:World}{e sz n:Nat}{cur:Value}{xs:List Value}(h:QM w false e sz n cur xs):w.ownsRow 0 e sz cur n xs:=by
 refine⟨h.1,?_⟩;rcases h.2 with h2|⟨g,cap,cells,fr,h2,h3,h4,h5,h6,h7,h8⟩
 all_goals grind
theorem QM.of_owns{w:World}{base e sz n:Nat}{cur:Value}{xs:List Value}(h:w.ownsRow base e sz cur n xs)(fz:Bool):QM w fz e sz n cur xs:=by
 refine⟨h.1,?_⟩;rcases h.2 with h2|⟨g,cap,cells,h2,_,h3,h4,h5,h6,h7⟩
 all_goals grind
theorem QM.kept{w w':World}{fz:Bool}{e sz n:Nat}{cur:Value}{xs:List Value}(h:QM w fz e sz n cur xs)(hb: ∀g,cur.ownBlock=some g->w'.heap[g]? =w.heap[g]?):QM w' fz e sz n cur xs:=by
 refine⟨h.1,?_⟩;rcases h.2 with h2|⟨g,cap,cells,fr,h2,h3,h4⟩
 .exact .inl h2
 .exact .inr ⟨g,cap,cells,fr,h2,by rw[hb g (by rw[h2];rfl)];exact h3,h4⟩
theorem QM.lt{w:World}{fz:Bool}{e sz n:Nat}{cur:Value}{xs:List Value}(h:QM w fz e sz n cur xs){g:Nat}(hg:cur.ownBlock=some g):g<w.heap.size:=by
 rcases h.2 with⟨h2,_⟩|⟨g',cap,cells,fr,h2,h3,h4⟩
 .rw[h2]at hg;cases hg
 .rw[h2]at hg;cases hg;exact(ξH h3).1
def Ob.mb:Ob->Nat×Value->Nat->Prop
 | .box _,p,b=>p.1=b
 | .rows _ _ _ _,p,b=>p.2.ownBlock=some b
 | .drw _ _ _,p,b=>p.2.ownBlock=some b
 | .mpo _ _ _,p,b=>p.1=b
 | .mpn _ _ _ _ _,p,b=>p.1=b
 | .mit _ _ _ _ _ _,p,b=>p.1=b\/p.2= .pointer (some ⟨b,0,none⟩)
 | .sit _ _,p,b=>p.1=b
 | .nit,p,b=>p.1=b
 | .fam _ _ _,p,b=> ∃vs,p.2= .tuple vs/\Value.int .i64 b∈vs.toList
 |_,_,_=>False
def VC(E:Env)(os:J7)(ag:Bool)(ds:J8)(v:Value):Prop:=
 (if ag=true then∃cs,v= .agg cs else ds.length=1/\ ∀cs,v≠ .agg cs)/\v.cells.size=ds.length/\ ∀(j:Nat) (d:D) (u:Value),ds[j]? =some d->v.cells[j]? =some u->V E os d u/\u.oneCell'=true
theorem VC.mono{E E':Env}{os os':J7}(e:Evo E os E' os'){ag:Bool}{ds:J8}{v:Value}(h:VC E os ag ds v):VC E' os' ag ds v:=
 ⟨h.1,h.2.1,λj x u hx hu=>⟨(h.2.2 j x u hx hu).1.mono e,(h.2.2 j x u hx hu).2⟩⟩
def kfV:KF->X->Value
 | .int k,.int _ n=> .int k n
 | .str,.str s=> .string (ZV s)
 |_,_=>undef
def kkV:KK->J9->Value
 | .int k,[.int _ n]=> .int k n
 | .str,[.str s]=> .string (ZV s)
 | .st a b,[x,y]=> .agg #[kfV a x,kfV b y]
 |_,_=>undef
def ZCp{κ:Type}[DecidableEq κ](mk:κ->Value)(kx:κ->J9)(E:Env)(os:J7)(b:Nat)(ag:Bool)(l:W2):Prop:=
 ∃l':List (κ×Value),Qg mk E.w b l'/\l'.length=l.length/\ ∀(i:Nat) (a:κ×Value) (q:Pr),l'[i]? =some a->l[i]? =some q->q.1=kx a.1/\VC E os ag q.2 a.2
theorem ZCp.mono{κ:Type}[DecidableEq κ]{mk:κ->Value}{kx:κ->J9}{E E':Env}{os os':J7}(e:Evo E os E' os'){b:Nat}{ag:Bool}{l:W2}(hb:E'.w.heap[b]? =E.w.heap[b]?)(h:ZCp mk kx E os b ag l):ZCp mk kx E' os' b ag l:=by
 obtain⟨l',h1,h2,h3⟩:=h;exact⟨l',h1.keep hb,h2,λi a q ha hq=>⟨(h3 i a q ha hq).1,(h3 i a q ha hq).2.mono e⟩⟩
def kxI(k:IntKind)(n:Int):J9:= [.int k n]
def kxS(b:ByteArray):J9:= [.str b.toList]
def YL(E:Env)(os:J7)(b:Nat)(dk:KK)(ag:Bool)(l:W2):Prop:=
 match dk with
 | .int k=>ZCp (Value.int k) (kxI k) E os b ag l
 | .str=>ZCp Value.string kxS E os b ag l
 | .st _ _=>False
theorem YL.mono{E E':Env}{os os':J7}(e:Evo E os E' os'){b:Nat}{dk:KK}{ag:Bool}{l:W2}(hb:E'.w.heap[b]? =E.w.heap[b]?)(h:YL E os b dk ag l):YL E' os' b dk ag l:=by
 cases dk with
 |int k=>exact ZCp.mono e hb h
 |str=>exact ZCp.mono e hb h
 |st _ _=>exact h.elim
theorem YL.lt{E:Env}{os:J7}{b:Nat}{dk:KK}{ag:Bool}{l:W2}(h:YL E os b dk ag l):b<E.w.heap.size:=by
 cases dk with
 |int k=>obtain⟨l',h1,_⟩:=h;exact h1.lt
 |str=>obtain⟨l',h1,_⟩:=h;exact h1.lt
 |st _ _=>exact h.elim
def ZFt(E:Env)(os:J7)(dk:KK)(ag:Bool)(e:MapEntry)(q:Pr):Prop:=e.key=kkV dk q.1/\VC E os ag q.2 e.val
def ZGX(E:Env)(os:J7)(dk:KK)(ag:Bool)(L:List MapEntry)(R:W2):Prop:=
 L.length=R.length/\ ∀(i:Nat) (e:MapEntry) (q:Pr),L[i]? =some e->R[i]? =some q->ZFt E os dk ag e q
theorem ZFt.mono{E E':Env}{os os':J7}(e:Evo E os E' os'){dk:KK}{ag:Bool}{x:MapEntry}{q:Pr}(h:ZFt E os dk ag x q):ZFt E' os' dk ag x q:=⟨h.1,h.2.mono e⟩
theorem ZGX.mono{E E':Env}{os os':J7}(e:Evo E os E' os'){dk:KK}{ag:Bool}{L:List MapEntry}{R:W2}(h:ZGX E os dk ag L R):ZGX E' os' dk ag L R:=⟨h.1,λi x q hx hq=>(h.2 i x q hx hq).mono e⟩
def ZMq(E:Env)(os:J7)(p:Nat×Value)(dk:KK)(ag:Bool)(it:Nat)(R:W2)(cur:Option Pr):Prop:=
 ∃ib cu es clk since seen c0 o,p.2= .pointer (some ⟨ib,0,none⟩)/\os[it]? =some o/\o.kd=some .itr/\E.ob[it]? =some (ib,cu)/\E.w.heap[ib]? =some (.mapIter (some p.1) since seen c0)/\E.w.heap[p.1]? =some (.map es clk)/\
  (∀x∈es.toList,x.born<since)/\(since<=c0/\since<=clk)/\(es.toList.map (·.born)).Nodup/\ZGX E os dk ag (leftOf es seen).toList R/\
  ∀q,cur=some q->c0=clk/\ ∃(seen':Array Nat) (e:MapEntry),seen=seen'.push e.born/\e∈es.toList/\ZFt E os dk ag e q
def ZLW:KK->J9->Bool
 | .int k,[.int k' _]=>decide (k'=k)
 | .str,[.str _]=>true
 |_,_=>false
def ZRb(E:Env)(os:J7)(p:Nat×Value)(dk:KK)(key:J9)(sid:Nat):Prop:=
 ∃n cu o es clk e,os[sid]? =some o/\o.kd=some .stp/\E.ob[sid]? =some (n,cu)/\E.w.heap[p.1]? =some (.map es clk)/\e∈es.toList/\e.born=n/\e.key=kkV dk key/\ZLW dk key=true
def OK0(E:Env)(os:J7):Ob->Nat×Value->Prop
 | .box ds,p=> ∃cs ty,E.w.heap[p.1]? =some (.cells cs ty (0,0))/\cs.size=ds.length/\ ∀(j:Nat) (d:D) (v:Value),ds[j]? =some d->cs[j]? =some v->V E os d v/\v.oneCell'=true
 | .rows fz e sz rs,p=> ∃xs,QM E.w fz e sz rs.length p.2 xs/\(∀r∈rs,r.length=sz)/\ ∀(i:Nat) (r:J9) (j:Nat) (x:X) (v:Value),rs[i]? =some r->r[j]? =some x->xs[i*sz+j]? =some v->VX E.w E.st x v
 | .drw e sz rs,p=> ∃xs,QM E.w false e sz rs.length p.2 xs/\(∀r∈rs,r.length=sz)/\ ∀(i:Nat) (r:J8) (j:Nat) (d:D) (v:Value),rs[i]? =some r->r[j]? =some d->xs[i*sz+j]? =some v->V E os d v/\v.oneCell'=true
 | .frz sz rs,p=>VX E.w E.st (.sl rs) p.2/\(∀r∈rs,r.length=sz)/\ ∀ad n c,p.2= .slice (some ad) n c->ad=⟨ad.block,0,none⟩
 | .mpo dk ag l,p=>YL E os p.1 dk ag l
 | .mit dk ag l it R cur,p=>YL E os p.1 dk ag l/\ZMq E os p dk ag it R cur
 | .mpn dk ag l key sid,p=>YL E os p.1 dk ag l/\ZRb E os p dk key sid
 | .sit s pos,p=>E.w.heap[p.1]? =some (.stringIter (ZV s) pos)
 | .nit,p=> ∃a s b,E.w.heap[p.1]? =some (.mapIter none a s b)
 | .itr,_| .stp,_| .old _ _,_| .dead,_=>True
 | .fam _ _ _,_=>False
def Ob.nof:Ob->Bool
 | .fam _ _ _=>false
 |_=>true
def brP(b:X×Nat×J6):Pr:=([b.1],[.ref (b.2.1+6) b.2.2.length 0 b.2.2.length])
def ZCs(k:Nat)(P:List W2)(B:List (X×J6))(os:J7):Prop:=
 (∃(P1 P2 P3:W2) (C:List (X×Nat×J6)) (Y:J7),P= [P1,P2,P3]/\os= .box [.ptr 1 0,.mref 4,.mref 5]:: .box [.mref 2,.mref 3]:: .mpo .str true P1:: .mpo .str true P2:: .mpo .str true P3:: .mpo .str false (C.map brP)::Y/\(C.map λb=>(b.1,b.2.2)).Perm B/\(C.map (·.2.1)).Nodup/\Y.all Ob.nof=true/\ ∀b∈C,Y[b.2.1]? =some (.rows false k 1 b.2.2))\/ ∃P1 P2:W2,P= [P1,P2]/\B= []/\os= [.box [.mref 1,.mref 2],.mpo .str true P1,.mpo .str true P2]
structure Fam (w:World) (st:Nat->Nat->Prop) (p:Nat×Value) (os:J7) (ob:List (Nat×Value)):Prop where
 len:ob.length=os.length
 hd: ∃q,ob[0]? =some q/\q.1=p.1
 ok: ∀(i:Nat) (o:Ob) (q:Nat×Value),os[i]? =some o->ob[i]? =some q->OK0 ⟨w,st,ob⟩ os o q
 dis: ∀(i j:Nat) (o o':Ob) (q q':Nat×Value) (b:Nat),os[i]? =some o->ob[i]? =some q->os[j]? =some o'->ob[j]? =some q'->o.mb q b->o'.mb q' b->i=j
 sub: ∀(i:Nat) (o:Ob) (q:Nat×Value) (b:Nat),os[i]? =some o->ob[i]? =some q->o.mb q b-> ∃vs,p.2= .tuple vs/\Value.int .i64 b∈vs.toList
 lt: ∀(vs:Array Value) (b:Nat),p.2= .tuple vs->Value.int .i64 b∈vs.toList-> ∃(i:Nat) (o:Ob) (q:Nat×Value),os[i]? =some o/\ob[i]? =some q/\o.mb q b
def OK(E:Env)(os:J7):Ob->Nat×Value->Prop
 | .fam k P B,p=> ∃os' ob',ZCs k P B os'/\Fam E.w E.st p os' ob'
 |o,p=>OK0 E os o p
theorem ZMq.mono{E E':Env}{os os':J7}(e:Evo E os E' os'){p:Nat×Value}{dk:KK}{ag:Bool}{it:Nat}{R:W2}{cur:Option Pr}(hb: ∀b,p.1=b\/p.2= .pointer (some ⟨b,0,none⟩)->E'.w.heap[b]? =E.w.heap[b]?)(h:ZMq E os p dk ag it R cur):ZMq E' os' p dk ag it R cur:=by
 obtain⟨ib,cu,es,clk,since,seen,c0,o,h1,h2,h3,h4,h5,h6,h7,h8,h9,h10,h11⟩:=h;obtain⟨cu',o',k1,k2,k3⟩:=e.bl _ _ _ _ _ h2 h3 h4;exact⟨ib,cu',es,clk,since,seen,c0,o',h1,k1,k2,k3,by rw[hb ib (.inr h1)];exact h5,by rw[hb _ (.inl rfl)];exact h6,h7,h8,h9,h10.mono e,λq hq=>by
  obtain⟨g1,s',x,g2,g3,g4⟩:=h11 q hq;exact⟨g1,s',x,g2,g3,g4.mono e⟩⟩
theorem ZRb.mono{E E':Env}{os os':J7}(e:Evo E os E' os'){p:Nat×Value}{dk:KK}{key:J9}{sid:Nat}(hb:E'.w.heap[p.1]? =E.w.heap[p.1]?)(h:ZRb E os p dk key sid):ZRb E' os' p dk key sid:=by
 obtain⟨n,cu,o,es,clk,x,h1,h2,h3,h4,h5⟩:=h;obtain⟨cu',o',k1,k2,k3⟩:=e.bl _ _ _ _ _ h1 h2 h3;exact⟨n,cu',o',es,clk,x,k1,k2,k3,by rw[hb];exact h4,h5⟩
theorem OK0.mono{E E':Env}{os os':J7}(e:Evo E os E' os'){o:Ob}{p:Nat×Value}(hb: ∀b,o.mb p b->E'.w.heap[b]? =E.w.heap[b]?)(h:OK0 E os o p):OK0 E' os' o p:=by
 cases o with
 |box ds=>
  obtain⟨cs,ty,h1,h2,h3⟩:=h;exact⟨cs,ty,by rw[hb _ rfl];exact h1,h2,λj d v hd hv=>⟨(h3 j d v hd hv).1.mono e,(h3 j d v hd hv).2⟩⟩
 |rows fz el sz rs=>
  obtain⟨xs,h1,h2,h3⟩:=h;exact⟨xs,h1.kept hb,h2,λi r j x v hr hx hv=>(h3 i r j x v hr hx hv).mono e.st⟩
 |drw el sz rs=>
  obtain⟨xs,h1,h2,h3⟩:=h;exact⟨xs,h1.kept hb,h2,λi r j x v hr hx hv=>⟨(h3 i r j x v hr hx hv).1.mono e,(h3 i r j x v hr hx hv).2⟩⟩
 |frz sz rs=>exact⟨h.1.mono e.st,h.2⟩
 |mpo dk ag l=>exact YL.mono e (hb _ rfl) h
 |mit dk ag l it R cur=>exact⟨YL.mono e (hb _ (.inl rfl)) h.1,h.2.mono e (λb hb'=>hb b hb')⟩
 |mpn dk ag l key sid=>exact⟨YL.mono e (hb _ rfl) h.1,h.2.mono e (hb _ rfl)⟩
 |sit s pos=>show E'.w.heap[p.1]? =_;rw[hb _ rfl];exact h
 |nit=>exact HM
 |itr=>trivial
 |stp=>trivial
 |old _ _=>trivial
 |fam _ _ _=>exact h.elim
 |dead=>trivial
theorem OK0.lt{E:Env}{os:J7}{o:Ob}{p:Nat×Value}(h:OK0 E os o p){b:Nat}(hb:o.mb p b):b<E.w.heap.size:=by
 cases o with
 |box ds=>
  obtain⟨cs,ty,h1,h2,h3⟩:=h;cases hb;grind
 |rows fz e sz rs=>
  obtain⟨xs,h1,h2,h3⟩:=h;exact h1.lt hb
 |drw e sz rs=>
  obtain⟨xs,h1,h2,h3⟩:=h;exact h1.lt hb
 |mpo dk ag l=>cases hb;exact YL.lt h
 |mpn dk ag l key sid=>cases hb;exact YL.lt h.1
 |mit dk ag l it R cur=>
  rcases hb with hb|hb
  .subst hb;exact YL.lt h.1
  .obtain⟨_,ib,cu,es,clk,since,seen,c0,o,h1,h2,h3,h4,h5,_⟩:=h;grind
 |sit s pos=>cases hb;exact(ξH h).1
 |nit=>cases hb;obtain⟨a,s,b,h⟩:=h;exact(ξH h).1
 |frz sz rs=>exact hb.elim
 |itr=>exact hb.elim
 |stp=>exact hb.elim
 |old _ _=>exact hb.elim
 |fam _ _ _=>exact h.elim
 |dead=>exact hb.elim
theorem OK.of0{E:Env}{os:J7}{o:Ob}{p:Nat×Value}(h:OK0 E os o p):OK E os o p:=by
 cases o<;>first|exact h|exact h.elim
theorem OK.to0{E:Env}{os:J7}{o:Ob}{p:Nat×Value}(h:OK E os o p):(∃k P B,o= .fam k P B)\/OK0 E os o p:=by
 cases o<;>first|exact .inr h|exact .inl ⟨_,_,_,rfl⟩
theorem Fam.lt'{w:World}{st:Nat->Nat->Prop}{p:Nat×Value}{os:J7}{ob:List (Nat×Value)}(h:Fam w st p os ob){b:Nat}{vs:Array Value}(e:p.2= .tuple vs)(hb:Value.int .i64 b∈vs.toList):b<w.heap.size:=by
 obtain⟨i,o,q,h1,h2,h3⟩:=h.lt vs b e hb;exact(h.ok i o q h1 h2).lt h3
theorem Fam.mono{w w':World}{st st':Nat->Nat->Prop}{p:Nat×Value}{os:J7}{ob:List (Nat×Value)}(hs: ∀b o,st b o->st' b o/\w'.cell? ⟨b,o,none⟩=w.cell? ⟨b,o,none⟩)(hb: ∀b:Nat,(∃vs,p.2= .tuple vs/\Value.int .i64 b∈vs.toList)->w'.heap[b]? =w.heap[b]?)(h:Fam w st p os ob):Fam w' st' p os ob:=by
 refine⟨h.len,h.hd,λi o q h1 h2=> ?_,h.dis,h.sub,h.lt⟩;have ev:Evo ⟨w,st,ob⟩ os ⟨w',st',ob⟩ os:=⟨hs,λid b cu o k ho hk hb=>⟨cu,o,ho,hk,hb⟩,λid o sz n ho hs=>⟨o,n,ho,hs,.inl ⟨rfl,rfl⟩⟩⟩;exact(h.ok i o q h1 h2).mono ev (λb hm=>hb b (h.sub i o q b h1 h2 hm))
theorem OK.lt{E:Env}{os:J7}{o:Ob}{p:Nat×Value}(h:OK E os o p){b:Nat}(hb:o.mb p b):b<E.w.heap.size:=by
 rcases h.to0 with⟨k,P,B,rfl⟩|h
 .obtain⟨os',ob',_,hf⟩:=h;obtain⟨vs,e,hb⟩:=hb;exact hf.lt' e hb
 .exact h.lt hb
theorem OK.mono{E E':Env}{os os':J7}(e:Evo E os E' os'){o:Ob}{p:Nat×Value}(hb: ∀b,o.mb p b->E'.w.heap[b]? =E.w.heap[b]?)(h:OK E os o p):OK E' os' o p:=by
 rcases h.to0 with⟨k,P,B,rfl⟩|h
 .exact HZ
 .exact OK.of0 (h.mono e hb)
structure Ctx where
 w0:World
 st0:Nat->Nat->Prop
 M:Nat->Prop
structure Kept (M:Nat->Prop) (w w':World):Prop where
 os:w'.os=w.os
 tape:w'.tape=w.tape
 output:w'.output=w.output
 size:w.heap.size<=w'.heap.size
 block: ∀k,k<w.heap.size-> ¬M k->w'.heap[k]? =w.heap[k]?
theorem Kept.refl(M:Nat->Prop)(w:World):Kept M w w:=⟨rfl,rfl,rfl,Zr _,λ_ _ _=>rfl⟩
theorem Kept.trans{M N:Nat->Prop}{a b c:World}(h:Kept M a b)(k:Kept N b c)(hN: ∀i,N i->M i\/a.heap.size<=i):Kept M a c:=
 ⟨k.os.trans h.os,k.tape.trans h.tape,k.output.trans h.output,ZEu h.size k.size,λi hi hm=>(k.block i (ZPO hi h.size) (λhn=>by rcases hN i hn with h1|h1;exact hm h1;omega)).trans (h.block i hi hm)⟩
structure Rel (c:Ctx) (E:Env) (os:J7):Prop where
 len:E.ob.length=os.length
 ok: ∀(i:Nat) (o:Ob) (p:Nat×Value),os[i]? =some o->E.ob[i]? =some p->OK E os o p
 dis: ∀(i j:Nat) (o o':Ob) (p p':Nat×Value) (b:Nat),os[i]? =some o->E.ob[i]? =some p->os[j]? =some o'->E.ob[j]? =some p'->o.mb p b->o'.mb p' b->i=j
 stm: ∀b off,E.st b off->b<E.w.heap.size/\ ∀(i:Nat) (o:Ob) (p:Nat×Value),os[i]? =some o->E.ob[i]? =some p-> ¬o.mb p b
 kept:Kept c.M c.w0 E.w
 mbs: ∀(i:Nat) (o:Ob) (p:Nat×Value) (b:Nat),os[i]? =some o->E.ob[i]? =some p->o.mb p b->c.M b\/c.w0.heap.size<=b
 sto: ∀b off,E.st b off->c.st0 b off\/c.M b\/c.w0.heap.size<=b
theorem Rel.at{c:Ctx}{E:Env}{os:J7}(R:Rel c E os){i:Nat}{o:Ob}(h:os[i]? =some o): ∃p,E.ob[i]? =some p/\OK E os o p:=by
 have hi:i<E.ob.length:=by rw[R.len];exact(ZX h).1
 exact⟨E.ob[i],Zw hi,R.ok i o _ h (Zw hi)⟩
theorem Rel.world{c:Ctx}{E:Env}{os:J7}(R:Rel c E os)(w':World)(st':Nat->Nat->Prop)(hk:Kept (λ_=>False) E.w w')(hst: ∀b off,E.st b off->st' b off)(hnew: ∀b off,st' b off->E.st b off\/(E.w.heap.size<=b/\b<w'.heap.size)):
  Rel c ⟨w',st',E.ob⟩ os/\Evo E os ⟨w',st',E.ob⟩ os:=by
 have ev:Evo E os ⟨w',st',E.ob⟩ os:=⟨λb o hs=>⟨hst b o hs,World.cell?_of_block (hk.block b (R.stm b o hs).1 (λh=>h))⟩,λ_ _ cu o k h hk h'=>⟨cu,o,h,hk,h'⟩,λ_ o' _ rs' h1 h2=>⟨o',rs',h1,h2,.inl ⟨rfl,rfl⟩⟩⟩;refine⟨⟨R.len,λi o p ho hp=>(R.ok i o p ho hp).mono ev (λb hb=>hk.block b ((R.ok i o p ho hp).lt hb) (λh=>h)),R.dis,λb off hs=> ?_,?_,R.mbs,λb off hs=> ?_⟩,ev⟩
 .rcases hnew b off hs with h|h
  .exact⟨ZPO (R.stm b off h).1 hk.size,(R.stm b off h).2⟩
  .exact⟨h.2,λi o p ho hp hb=>by have:=(R.ok i o p ho hp).lt hb;omega⟩
 .exact R.kept.trans hk (λi h=>h.elim)
 .rcases hnew b off hs with h|h
  .exact R.sto b off h
  .have:=R.kept.size;exact .inr (.inr J0)
theorem Rel.push{c:Ctx}{E:Env}{os:J7}(R:Rel c E os)(w':World)(o:Ob)(p:Nat×Value)(hk:Kept (λ_=>False) E.w w')(hm: ∀b,o.mb p b->E.w.heap.size<=b)
  (hok:Evo E os ⟨w',E.st,E.ob++ [p]⟩ (os++ [o])->OK ⟨w',E.st,E.ob++ [p]⟩ (os++ [o]) o p):Rel c ⟨w',E.st,E.ob++ [p]⟩ (os++ [o])/\Evo E os ⟨w',E.st,E.ob++ [p]⟩ (os++ [o]):=by
 have ev:Evo E os ⟨w',E.st,E.ob++ [p]⟩ (os++ [o]):=by
  refine⟨λb off hs=>⟨hs,World.cell?_of_block (hk.block b (R.stm b off hs).1 (λh=>h))⟩,λid b cu oo k ho hkd h=>⟨cu,oo,?_,hkd,?_⟩,λid o' sz rs' h1 h2=>⟨o',rs',?_,h2,.inl ⟨rfl,?_⟩⟩⟩
  .grind
  .grind
  .grind
  .show(E.ob++ [p])[id]? =_;rw[Yk (by rw[R.len];exact(ZX h1).1)]
 have key: ∀(i:Nat) (o1:Ob) (p1:Nat×Value),(os++ [o])[i]? =some o1->(E.ob++ [p])[i]? =some p1->(i<os.length/\os[i]? =some o1/\E.ob[i]? =some p1)\/(i=os.length/\o1=o/\p1=p):=by
  intro i o1 p1 h1 h2;by_cases hi:i<os.length
  .rw[Yk hi]at h1;rw[Yk (by rw[R.len];exact hi)]at h2
   simp_all
  .have hl:=(ZX h1).1;simp at hl;have:i=os.length:=Wm
   subst this;rw[QI J0]at h1;rw[QI (by rw[R.len];omega),R.len]at h2
   simp_all
 refine⟨⟨GL,λi o1 p1 h1 h2=> ?_,λi j o1 o2 p1 p2 b h1 h2 h3 h4 h5 h6=> ?_,λb off hs=>⟨ZPO (R.stm b off hs).1 hk.size,λi o1 p1 h1 h2 h3=> ?_⟩,R.kept.trans hk (λi h=>h.elim),λi o1 p1 b h1 h2 h3=> ?_,R.sto⟩,ev⟩
 .rcases key i o1 p1 h1 h2 with⟨_,k1,k2⟩|⟨_,rfl,rfl⟩
  .exact(R.ok i o1 p1 k1 k2).mono ev (λb hb=>hk.block b ((R.ok i o1 p1 k1 k2).lt hb) (λh=>h))
  .exact hok ev
 .rcases key i o1 p1 h1 h2 with⟨i1,k1,k2⟩|⟨i1,rfl,rfl⟩<;>rcases key j o2 p2 h3 h4 with⟨j1,k3,k4⟩|⟨j1,rfl,rfl⟩
  .exact R.dis i j o1 o2 p1 p2 b k1 k2 k3 k4 h5 h6
  .have:=(R.ok i o1 p1 k1 k2).lt h5;have:=hm b h6;omega
  .have:=(R.ok j o2 p2 k3 k4).lt h6;have:=hm b h5;omega
  .omega
 .rcases key i o1 p1 h1 h2 with⟨i1,k1,k2⟩|⟨i1,rfl,rfl⟩
  .exact(R.stm b off hs).2 i o1 p1 k1 k2 h3
  .have:=hm b h3;have:=(R.stm b off hs).1;omega
 .rcases key i o1 p1 h1 h2 with⟨i1,k1,k2⟩|⟨i1,rfl,rfl⟩
  .exact R.mbs i o1 p1 b k1 k2 h3
  .have:=hm b h3;have:=R.kept.size;exact XW
def Zj8(c:Ctx)(E:Env)(os:J7)(b:Nat):Prop:=
 E.w.heap.size<=b\/((∀off,¬E.st b off)/\(∀(i:Nat) (o:Ob) (p:Nat×Value),os[i]? =some o->E.ob[i]? =some p-> ¬o.mb p b)/\(c.M b\/c.w0.heap.size<=b))
theorem Rel.set{c:Ctx}{E:Env}{os:J7}(R:Rel c E os){i:Nat}{o:Ob}{p:Nat×Value}(ho:os[i]? =some o)(hp:E.ob[i]? =some p)(w':World)(o':Ob)(p':Nat×Value)
  (hk:Kept (λb=>o.mb p b) E.w w') (hm: ∀b,o'.mb p' b->o.mb p b\/Zj8 c E os b)
  (hs: ∀sz n,o.sl? =some (sz,n)-> ∃n',o'.sl? =some (sz,n')/\((n=n'/\p'=p)\/n<n'))
  (hbx: ∀k,o.kd=some k->p'.1=p.1/\o'.kd=some k)
  (hok:Evo E os ⟨w',E.st,E.ob.set i p'⟩ (os.set i o')->OK ⟨w',E.st,E.ob.set i p'⟩ (os.set i o') o' p'):
  Rel c ⟨w',E.st,E.ob.set i p'⟩ (os.set i o')/\Evo E os ⟨w',E.st,E.ob.set i p'⟩ (os.set i o'):=by
 have hio:i<os.length:=(ZX ho).1;have hip:i<E.ob.length:=(ZX hp).1;have go: ∀j,(os.set i o')[j]? =if i=j then some o' else os[j]? :=λj=>by
  rw[ZCr];by_cases h:i=j
  .subst h;simp[hio]
  .simp[h]
 have gp: ∀j,(E.ob.set i p')[j]? =if i=j then some p' else E.ob[j]? :=λj=>by
  rw[ZCr];by_cases h:i=j
  .subst h;simp[hip]
  .simp[h]
 have kst: ∀b off,E.st b off->w'.heap[b]? =E.w.heap[b]? :=λb off hb=>hk.block b (R.stm b off hb).1 (λh=>(R.stm b off hb).2 i o p ho hp h)
 have kob: ∀j oj pj,os[j]? =some oj->E.ob[j]? =some pj->j≠i-> ∀b,oj.mb pj b->w'.heap[b]? =E.w.heap[b]? :=λj oj pj h1 h2 hne b hb=>
  hk.block b ((R.ok j oj pj h1 h2).lt hb) (λh=>hne (R.dis j i oj o pj p b h1 h2 ho hp hb h))
 have ev:Evo E os ⟨w',E.st,E.ob.set i p'⟩ (os.set i o'):=by
  refine⟨λb off hb=>⟨hb,World.cell?_of_block (kst b off hb)⟩,λid b cu oo k hbo hkd hb=> ?_,λid o1 sz rs h1 h2=> ?_⟩
  all_goals grind
 refine⟨⟨GL,λj o1 p1 h1 h2=> ?_,λj k o1 o2 p1 p2 b h1 h2 h3 h4 h5 h6=> ?_,λb off hb=>⟨ZPO (R.stm b off hb).1 hk.size,λj o1 p1 h1 h2 h3=> ?_⟩,?_,λj o1 p1 b h1 h2 h3=> ?_,R.sto⟩,ev⟩
 .replace h1:=(go j).symm.trans h1
  replace h2:=(gp j).symm.trans h2
  by_cases h:i=j
  .simp_all
  .simp[h]at h1 h2;exact(R.ok j o1 p1 h1 h2).mono ev (kob j o1 p1 h1 h2 (Ne.symm h))
 .replace h1:=(go j).symm.trans h1
  replace h2:=(gp j).symm.trans h2
  replace h3:=(go k).symm.trans h3
  replace h4:=(gp k).symm.trans h4
  by_cases hj:i=j<;>by_cases hk':i=k
  .omega
  .subst hj;simp at h1 h2;subst h1;subst h2;simp[hk']at h3 h4;rcases hm b h5 with h|h|h
   .exact R.dis _ _ _ _ _ _ b ho hp h3 h4 h h6
   .have:=(R.ok k o2 p2 h3 h4).lt h6;omega
   all_goals grind
  .subst hk';simp at h3 h4;subst h3;subst h4;simp[hj]at h1 h2;rcases hm b h6 with h|h|h
   .exact R.dis _ _ _ _ _ _ b h1 h2 ho hp h5 h
   .have:=(R.ok j o1 p1 h1 h2).lt h5;omega
   all_goals grind
  .simp[hj]at h1 h2;simp[hk']at h3 h4;exact R.dis j k o1 o2 p1 p2 b h1 h2 h3 h4 h5 h6
 .replace h1:=(go j).symm.trans h1
  replace h2:=(gp j).symm.trans h2
  by_cases hj:i=j
  .subst hj;simp at h1 h2;subst h1;subst h2;rcases hm b h3 with h|h|h
   .exact(R.stm b off hb).2 _ _ _ ho hp h
   .have:=(R.stm b off hb).1;omega
   .exact h.1 off hb
  .simp[hj]at h1 h2;exact(R.stm b off hb).2 j o1 p1 h1 h2 h3
 .exact R.kept.trans hk (λb hb=>R.mbs i o p b ho hp hb)
 .replace h1:=(go j).symm.trans h1
  replace h2:=(gp j).symm.trans h2
  by_cases hj:i=j
  .subst hj;simp at h1 h2;subst h1;subst h2;rcases hm b h3 with h|h|h
   .exact R.mbs _ _ _ b ho hp h
   .have:=R.kept.size;exact XW
   .exact h.2.2
  .simp[hj]at h1 h2;exact R.mbs j o1 p1 b h1 h2 h3
theorem QM.vx{E:Env}{fz:Bool}{e sz:Nat}{rs:J6}{cur:Value}{xs:List Value}{st':Nat->Nat->Prop}(h:QM E.w fz e sz rs.length cur xs)(hz: ∀r∈rs,r.length=sz)
  (hv: ∀(i:Nat) (r:J9) (j:Nat) (x:X) (v:Value),rs[i]? =some r->r[j]? =some x->xs[i*sz+j]? =some v->VX E.w E.st x v) (hst: ∀b off,E.st b off->st' b off) (hnew: ∀g,cur.ownBlock=some g-> ∀off,off<rs.length*sz->st' g off):
  VX E.w st' (.sl rs) cur:=by
 have lt: ∀i j,i<rs.length->j<sz->i*sz+j<rs.length*sz:=λi j hi hj=>by
  exact NC
 have hm: ∀ {x v},VX E.w E.st x v->VX E.w st' x v:=λh=>h.mono (λb o hb=>⟨hst b o hb,rfl⟩)
 rcases h.2 with⟨rfl,hn⟩|⟨g,cap,cells,fr,rfl,hg,hc,hcm,hcs,ht,hf⟩
 .exact .sl rs none 0 0 sz (λ_ _=>undef) hn (Zr _) (Kb _) hz (λi j hi=>J0) (λ_=>⟨rfl,rfl⟩) (λ_ ad h=>W6) (λi j r x hr=>by rw[ξS hn]at hr;simp at hr)
 .have cell: ∀i j,i<rs.length->j<sz-> ∃v,xs[i*sz+j]? =some v/\E.w.cell? ⟨g,i*sz+j,none⟩=some v:=λi j hi hj=>by
   have hl:=lt i j hi hj;have hx:i*sz+j<xs.length:=by rw[h.1];exact hl
   refine⟨xs[i*sz+j],Zw hx,?_⟩;have:(cells.toList.take (rs.length*sz))[i*sz+j]? =xs[i*sz+j]? :=by rw[ht]
   rw[Kp,if_pos hl,Zw hx]at this;simp[World.cell?,hg];exact V3
  refine .sl rs _ _ cap sz (λi j=>xs.getD (i*sz+j) undef) rfl hc hcm hz (λi j hi hj=> ?_) (λh=>W6) (λ_ ad h=>N1) (λi j r x hr hx=> ?_)
  .obtain⟨v,h1,h2⟩:=cell i j hi hj;refine⟨g,0,rfl,hnew g rfl _ (by have:=lt i j hi hj;omega),?_⟩
   simp_all
  all_goals grind
theorem Rel.freeze{c:Ctx}{E:Env}{os:J7}(R:Rel c E os){i:Nat}{fz:Bool}{e sz:Nat}{rs:J6}{p:Nat×Value}(ho:os[i]? =some (.rows fz e sz rs))(hp:E.ob[i]? =some p):
  Rel c ⟨E.w,λb off=>E.st b off\/(p.2.ownBlock=some b/\off<rs.length*sz),E.ob⟩ (os.set i (.frz sz rs))/\
  Evo E os ⟨E.w,λb off=>E.st b off\/(p.2.ownBlock=some b/\off<rs.length*sz),E.ob⟩ (os.set i (.frz sz rs)):=by
 have hio:i<os.length:=(ZX ho).1;have go: ∀j,(os.set i (.frz sz rs))[j]? =if i=j then some (.frz sz rs)else os[j]? :=λj=>by
  rw[ZCr];by_cases h:i=j
  .subst h;simp[hio]
  .simp[h]
 obtain⟨xs,hr,hz,hv⟩:=R.ok i _ p ho hp;have ev:Evo E os ⟨E.w,λb off=>E.st b off\/(p.2.ownBlock=some b/\off<rs.length*sz),E.ob⟩ (os.set i (.frz sz rs)):=by
  refine⟨λb off hb=>⟨.inl hb,rfl⟩,λid b cu oo k hbo hkd hb=> ?_,λid o1 sz' rs' h1 h2=> ?_⟩
  .grind[Ob.kd]
  rw[go];by_cases h:i=id
  .subst h;rw[ho]at h1;cases h1;simp[Ob.sl?]at h2;obtain⟨rfl,rfl⟩:=h2;exact⟨.frz sz rs,rs.length,J1,rfl,.inl ⟨rfl,rfl⟩⟩
  all_goals simp_all
 refine⟨⟨GL,λj o1 p1 h1 h2=> ?_,λj k o1 o2 p1 p2 b h1 h2 h3 h4 h5 h6=> ?_,λb off hb=> ?_,R.kept,λj o1 p1 b h1 h2 h3=> ?_,λb off hb=> ?_⟩,ev⟩
 .replace h1:=(go j).symm.trans h1
  by_cases h:i=j
  .subst h;simp at h1;subst h1;have h2':E.ob[i]? =some p1:=h2;rw[hp]at h2';cases h2';refine⟨hr.vx hz hv (λb off hb=> .inl hb) (λg hg off hoff=> .inr ⟨hg,hoff⟩),hz,λad n c he=> ?_⟩;rcases hr.2 with⟨h3,_⟩|⟨g,cap,cells,fr,h3,_⟩
   all_goals grind
  .simp[h]at h1;exact(R.ok j o1 p1 h1 h2).mono ev (λb hb=>rfl)
 .replace h1:=(go j).symm.trans h1
  replace h3:=(go k).symm.trans h3
  by_cases hj:i=j
  .subst hj;simp at h1;subst h1;cases h5
  .by_cases hk:i=k
   .subst hk;simp at h3;subst h3;cases h6
   .simp[hj]at h1;simp[hk]at h3;exact R.dis j k o1 o2 p1 p2 b h1 h2 h3 h4 h5 h6
 .rcases hb with hb|⟨hb,hoff⟩
  .refine⟨(R.stm b off hb).1,λj o1 p1 h1 h2 h3=> ?_⟩
   replace h1:=(go j).symm.trans h1
   by_cases hj:i=j
   .exact Hl
   .simp[hj]at h1;exact(R.stm b off hb).2 j o1 p1 h1 h2 h3
  .refine⟨hr.lt hb,λj o1 p1 h1 h2 h3=> ?_⟩
   replace h1:=(go j).symm.trans h1
   by_cases hj:i=j
   .exact Hl
   .simp[hj]at h1;exact hj (R.dis i j _ o1 p p1 b ho hp h1 h2 hb h3)
 .replace h1:=(go j).symm.trans h1
  by_cases hj:i=j
  .exact Hl
  .simp[hj]at h1;exact R.mbs j o1 p1 b h1 h2 h3
 .rcases hb with hb|⟨hb,hoff⟩
  .exact R.sto b off hb
  .exact .inr (R.mbs i _ p b ho hp hb)
theorem VX.part{w:World}{st:Nat->Nat->Prop}{rs:J6}{a:Option Addr}{n c:Nat}(h:VX w st (.sl rs) (.slice a n c)){sz:Nat}(hz: ∀r∈rs,r.length=sz)(off len:Nat)(hl:off+len<=rs.length)(a':Option Addr)(c':Nat)(hc:len<=c')(hm:c'<=maxLen)
  (ha:0<len-> ∀ad,a=some ad->a'=some ⟨ad.block,ad.off+off*sz,none⟩) (hn:a'=none->len=0/\c'=0) (hsp':0<c'-> ∀ad,a'=some ad->ad.spot=none):VX w st (.sl ((rs.drop off).take len)) (.slice a' len c'):=by
 cases h with
 |sl _ _ _ _ sz0 val hn0 hc0 hm0 hsz0 hcell hnil hsp hval=>
  have hlen:((rs.drop off).take len).length=len:=Wx
  have hz': ∀r∈(rs.drop off).take len,r.length=sz:=λr hr=>hz r (ZDD (ZCH hr))
  have hszeq:0<len->sz0=sz:=λhp=>by
   have h0:rs[0]' J0∈rs:=YK _;rw[<-hsz0 _ h0,hz _ h0]
  refine .sl _ _ _ _ sz (λi j=>val (off+i) j) hlen hc hm hz' (λi j hi hj=> ?_) hn hsp' (λi j r x hr hx=> ?_)
  .have e:=hszeq J0;subst e;obtain⟨b,o,h1,h2,h3⟩:=hcell (off+i) j J0 hj;grind
  all_goals grind
def X.keq:X->X->Bool
 | .int _ a,.int _ b=>a==b
 | .str a,.str b=>a==b
 |_,_=>false
def ZCq:J9->J9->Bool
 | [],[]=>true
 |a::l,b::m=>a.keq b&&ZCq l m
 |_,_=>false
def Jz:W2->J9->Option J8
 | [],_=>none
 |p::l,k=>if ZCq k p.1=true then some p.2 else Jz l k
def Yp:W2->J9->J8->W2
 | [],k,v=> [(k,v)]
 |p::l,k,v=>if ZCq k p.1=true then(k,v)::l else p::Yp l k v
def ZCO:W2->J9->W2
 | [],_=> []
 |p::l,k=>if ZCq k p.1=true then l else p::ZCO l k
def Zgp:KF->X->Bool
 | .int k,.int k' _=>decide (k'=k)
 | .str,.str _=>true
 |_,_=>false
def QU:KK->D->Option J9
 | .int k,.x (.int k' n)=>if k'=k then some [.int k n]else none
 | .str,.x (.str s)=>some [.str s]
 | .st a b,.agg [.x x,.x y]=>if(Zgp a x&&Zgp b y)=true then some [x,y]else none
 |_,_=>none
def keyD:KK->J9->D
 | .int k,[.int _ n]=> .x (.int k n)
 | .str,[.str s]=> .x (.str s)
 |_,_=> .und
theorem V.keyD(E:Env)(os:J7)(dk:KK)(xs:J9):V E os (keyD dk xs) (kkV dk xs):=by
 unfold Go.Ab.keyD;split
 .exact .x (.int _ _)
 .exact .x (.str _)
 .exact .und _
theorem ZdY{dk:KK}{kd:D}{key:J9}(h:QU dk kd=some key)(hd: ∀a b,dk≠ .st a b):ZLW dk key=true:=by
 unfold QU at h;grind[ZLW]
theorem ZWS{dk:KK}{key:J9}(h:ZLW dk key=true):QU dk (keyD dk key)=some key:=by
 unfold ZLW at h;split at h
 all_goals simp_all[Yl,Go.Ab.keyD,QU]
def Ob.upd? :Ob->Option (KK×Bool×W2)
 | .mpo dk ag l=>some (dk,ag,l)
 | .mpn dk ag l _ _=>some (dk,ag,l)
 |_=>none
theorem OK.map{E:Env}{os:J7}{o:Ob}{p:Nat×Value}(h:OK E os o p){dk:KK}{ag:Bool}{l:W2}(hm:o.map? =some (dk,ag,l)):YL E os p.1 dk ag l:=by
 cases o<;>simp[Ob.map?]at hm
 .obtain⟨rfl,rfl,rfl⟩:=hm;exact h
 .obtain⟨rfl,rfl,rfl⟩:=hm;exact h.1
 .obtain⟨rfl,rfl,rfl⟩:=hm;exact h.1
theorem Ob.upd_spec{o:Ob}{dk:KK}{ag:Bool}{l:W2}(hm:o.upd? =some (dk,ag,l)):o.map? =some (dk,ag,l)/\o.kd=some (.map dk ag)/\o.sl? =none/\ ∀p b,o.mb p b↔p.1=b:=by
 cases o<;>simp[Ob.upd?]at hm
 .exact H3
 .exact H3
def ZFq(ag:Bool)(ds:J8):D:=if ag=true then .agg ds else match ds with
 | [d]=>d
 |_=> .und
def agD:D->Bool
 | .agg _=>true
 |_=>false
section
variable {κ:Type} [DecidableEq κ] {mk:κ->Value} {kx:κ->J9} {E:Env} {os:J7} {ag:Bool}
theorem ZMu(hk: ∀a b:κ,ZCq (kx a) (kx b)=decide (a=b))(k:κ): ∀(l':List (κ×Value)) (l:W2),l'.length=l.length->(∀(i:Nat) (a:κ×Value) (q:Pr),l'[i]? =some a->l[i]? =some q->q.1=kx a.1/\VC E os ag q.2 a.2)->
  (∃v xs,ZH l' k=some v/\Jz l (kx k)=some xs/\VC E os ag xs v)\/(ZH l' k=none/\Jz l (kx k)=none)
 | [],[],_,_=> .inr ⟨rfl,rfl⟩
 | [],_::_,h,_=>WE
 |_::_,[],h,_=>WE
 |a::l',q::l,h,hr=>by
  obtain⟨h1,h2⟩:=hr 0 a q rfl rfl;have ih:=ZMu hk k l' l WM (λi a q ha hq=>hr (i+1) a q (by simpa using ha) Gx);unfold Jz;rw[h1,hk];by_cases e:k=a.1
  all_goals simp_all[ZH,decide_false,Je,if_false]
theorem ZLf(hk: ∀a b:κ,ZCq (kx a) (kx b)=decide (a=b))(k:κ){v:Value}{xs:J8}(hv:VC E os ag xs v): ∀(l':List (κ×Value)) (l:W2),l'.length=l.length->(∀(i:Nat) (a:κ×Value) (q:Pr),l'[i]? =some a->l[i]? =some q->q.1=kx a.1/\VC E os ag q.2 a.2)->
  (Zy l' k v).length=(Yp l (kx k) xs).length/\ ∀(i:Nat) (a:κ×Value) (q:Pr),(Zy l' k v)[i]? =some a->(Yp l (kx k) xs)[i]? =some q->q.1=kx a.1/\VC E os ag q.2 a.2
 | [],[],_,_=>by
  grind[Zy,Yp]
 | [],_::_,h,_=>WE
 |_::_,[],h,_=>WE
 |a::l',q::l,h,hr=>by
  obtain⟨h1,h2⟩:=hr 0 a q rfl rfl;have hr':=λ(i:Nat) (a:κ×Value) (q:Pr) ha hq=>hr (i+1) a q (by simpa using ha) Gx
  obtain⟨k1,k2⟩:=ZLf hk k hv l' l WM hr';unfold Zy Yp;grind
theorem ZWB(hk: ∀a b:κ,ZCq (kx a) (kx b)=decide (a=b))(k:κ): ∀(l':List (κ×Value)) (l:W2),l'.length=l.length->(∀(i:Nat) (a:κ×Value) (q:Pr),l'[i]? =some a->l[i]? =some q->q.1=kx a.1/\VC E os ag q.2 a.2)->
  (Zk l' k).length=(ZCO l (kx k)).length/\ ∀(i:Nat) (a:κ×Value) (q:Pr),(Zk l' k)[i]? =some a->(ZCO l (kx k))[i]? =some q->q.1=kx a.1/\VC E os ag q.2 a.2
 | [],[],_,_=>⟨rfl,λi a q ha=>by simp[Zk]at ha⟩
 | [],_::_,h,_=>WE
 |_::_,[],h,_=>WE
 |a::l',q::l,h,hr=>by
  obtain⟨h1,h2⟩:=hr 0 a q rfl rfl;have hr':=λ(i:Nat) (a:κ×Value) (q:Pr) ha hq=>hr (i+1) a q (by simpa using ha) Gx
  obtain⟨k1,k2⟩:=ZWB hk k l' l WM hr';unfold Zk ZCO;grind
end
theorem ZgD(k:IntKind)(a b:Int):(X.int k a).keq (X.int k b)=decide (a=b):=by
 simp only[X.keq];rw[QZ];simp
theorem Zco(k:IntKind)(a b:Int):ZCq (kxI k a) (kxI k b)=decide (a=b):=by
 simp only[kxI,ZCq,ZgD,QX]
theorem ZfY(a b:ByteArray):(X.str a.toList).keq (X.str b.toList)=decide (a=b):=by
 simp only[X.keq];rw[QZ];simp;constructor
 .intro h;have h1:=congrArg ZV h;have e: ∀c:ByteArray,ZV c.toList=c:=λc=>by
   rw[ByteArray.toList_eq];simp[ZV]
  rw[e,e]at h1;exact h1
 .intro h;rw[h]
theorem ZcF(a b:ByteArray):ZCq (kxS a) (kxS b)=decide (a=b):=by
 simp only[kxS,ZCq,ZfY,QX]
theorem V.cell{E:Env}{os:J7}{ag:Bool}{xs:J8}{v:Value}(h:VC E os ag xs v):V E os (ZFq ag xs) v:=by
 obtain⟨h1,h2,h3⟩:=h;unfold ZFq;cases ag with
 |true=>
  simp only[if_true]at h1|-;obtain⟨cs,rfl⟩:=h1;simp only[Value.cells]at h2 h3;refine .agg cs h2.symm (λv hv=> ?_) (λj d u hd hu=>(h3 j d u hd hu).1);obtain⟨j,hj⟩:=ZFA.1 hv;have hj':cs[j]? =some v:=by rw[<-ξQ];exact hj
  have hl:j<xs.length:=by rw[<-h2];exact(ξH hj').1
  exact(h3 j xs[j] v (Zw hl) hj').2
 |false=>
  simp only[Je,if_false]at h1|-;obtain⟨h4,h5⟩:=h1
  match xs,h4 with
  | [y],_=>
   have hc:v.cells= #[v]:=by cases v<;>first|rfl|exact absurd rfl (h5 _)
   exact(h3 0 y v rfl (by rw[hc];rfl)).1
theorem ZZT{k:IntKind}{kd:D}{key:J9}(h:QU (.int k) kd=some key): ∃n,kd= .x (.int k n)/\key= [.int k n]:=by
 unfold QU at h;grind
theorem ZZl{kd:D}{key:J9}(h:QU .str kd=some key): ∃s,kd= .x (.str s)/\key= [.str s]:=by
 unfold QU at h;grind
theorem V.tup2{E:Env}{os:J7}{d:D}{v:Value}(h:V E os d v)(b:Bool):V E os (.tup [d,.x (.bool b)]) (.tuple #[v,.bool b]):=by
 refine .tup _ rfl (λj d' u hd hu=> ?_)
 match j with
 |0=>simp at hd hu;subst hd;subst hu;exact h
 |1=>simp at hd hu;subst hd;subst hu;exact V.x (.bool b)
 |j+2=>simp at hd
theorem V.tup1{E:Env}{os:J7}{d:D}{v:Value}(h:V E os d v):V E os (.tup [d]) (.tuple #[v]):=by
 exact N9
theorem V.tupP{E:Env}{os:J7}{d1 d2:D}{v1 v2:Value}(h1:V E os d1 v1)(h2:V E os d2 v2):V E os (.tup [d1,d2]) (.tuple #[v1,v2]):=by
 exact N9
theorem V.tup3{E:Env}{os:J7}{d1 d2 d3:D}{v1 v2 v3:Value}(h1:V E os d1 v1)(h2:V E os d2 v2)(h3:V E os d3 v3):V E os (.tup [d1,d2,d3]) (.tuple #[v1,v2,v3]):=by
 exact N9
def kkD:KK->TypeDesc
 | .int k=> .int k
 |_=> .string
theorem Zc3(s:List UInt8):kxS (ZV s)= [X.str s]:=by simp[kxS,KC]
theorem YL.cases{E:Env}{os:J7}{b:Nat}{dk:KK}{ag:Bool}{l:W2}(h:YL E os b dk ag l){kd:D}{key:J9}(hk:QU dk kd=some key){kv:Value}(hv:V E os kd kv){C:Prop}
  (H: ∀ {κ:Type} [DecidableEq κ] (mk:κ->Value) (kx:κ->J9) (_:KeyKind (kkD dk) mk) (_: ∀a b,ZCq (kx a) (kx b)=decide (a=b)) (_: ∀(E:Env) os l,ZCp mk kx E os b ag l->YL E os b dk ag l) (k:κ),ZCp mk kx E os b ag l->key=kx k->kv=mk k->kv=kkV dk key->C):C:=by
 cases dk with
 |int k=>
  obtain⟨n,rfl,rfl⟩:=ZZT hk;cases hv with
  |x hv=>
   cases hv;exact H (Value.int k) (kxI k) (Zhh k) (Zco k) (λ_ _ _ h=>h) n h rfl rfl rfl
 |str=>
  obtain⟨s,rfl,rfl⟩:=ZZl hk;cases hv with
  |x hv=>
   cases hv;exact H Value.string kxS ZZs ZcF (λ_ _ _ h=>h) (ZV s) h (Zc3 s).symm rfl rfl
 |st _ _=>exact h.elim
section
variable {b:Nat} {dk:KK} {ag:Bool} {l:W2} {P:Program} {key:J9} {kd:D} {E:Env} {os:J7} {kv:Value} {T kt elem:TypeId}
theorem YL.get(h:YL E os b dk ag l)(hk:QU dk kd=some key)(hv:V E os kd kv)(hT:P.underlying T=some (.map kt elem))(hd:P.underlying kt=some (kkD dk)){z:Value}(hz:(zeroValue elem).run P E.w= .ok z E.w)(ok:Bool):
  (∃v xs,Jz l key=some xs/\VC E os ag xs v/\(Instr.lookup T (.map (some b)) kv ok).run P E.w= .ok (if ok=true then .tuple #[v,.bool true]else v) E.w)\/
  (Jz l key=none/\(Instr.lookup T (.map (some b)) kv ok).run P E.w= .ok (if ok=true then .tuple #[z,.bool false]else z) E.w):=by
 refine h.cases hk hv (λmk kx K hq _ k h hkey hkv _=> ?_);subst hkey hkv;obtain⟨l',h1,h2,h3⟩:=h;have hr:=ZSf (P:=P) (w:=E.w) K T kt elem z hT hd hz b l' h1 k ok;rcases ZMu hq k l' l h2 h3 with⟨v,xs,g1,g2,g3⟩|⟨g1,g2⟩
 all_goals grind
theorem YL.up(h:YL E os b dk ag l)(hk:QU dk kd=some key)(hv:V E os kd kv)(hT:P.underlying T=some (.map kt elem))(hd:P.underlying kt=some (kkD dk)){u:Value}{xs:J8}(hu:VC E os ag xs u):
  ∃w',(Instr.mapUpdate T (.map (some b)) kv u).run P E.w= .ok () w'/\Only b E.w w'/\ ∀E' os',E'.w=w'->Evo E os E' os'->YL E' os' b dk ag (Yp l key xs):=by
 refine h.cases hk hv (λmk kx K hq hM k h hkey hkv _=> ?_);subst hkey hkv;obtain⟨l',h1,h2,h3⟩:=h;obtain⟨w',g1,g2,g3⟩:=ZNy (P:=P) (w:=E.w) K T kt elem hT hd b l' h1 k u;obtain⟨g4,g5⟩:=ZLf hq k hu l' l h2 h3;exact V1
theorem YL.del(h:YL E os b dk ag l)(hk:QU dk kd=some key)(hv:V E os kd kv)(hT:P.underlying T=some (.map kt elem))(hd:P.underlying kt=some (kkD dk))(ty ts:TypeId):
  ∃w',(Builtin.delete_ #[T,ts] ty #[.map (some b),kv]).run P E.w= .ok (.tuple #[]) w'/\Only b E.w w'/\ ∀E' os',E'.w=w'->Evo E os E' os'->YL E' os' b dk ag (ZCO l key):=by
 refine h.cases hk hv (λmk kx K hq hM k h hkey hkv _=> ?_);subst hkey hkv;obtain⟨l',h1,h2,h3⟩:=h;obtain⟨w',g1,g2,g3⟩:=ZT4 (P:=P) (w:=E.w) K T kt elem hT hd ty ts b l' h1 k;obtain⟨g4,g5⟩:=ZWB hq k l' l h2 h3;exact V1
theorem YL.entry(h:YL E os b dk ag l)(hk:QU dk kd=some key)(hv:V E os kd kv)(hT:P.underlying T=some (.map kt elem))(hd:P.underlying kt=some (kkD dk)){z:Value}(hz:(zeroValue elem).run P E.w= .ok z E.w){zs:J8}(hzs:VC E os ag zs z):
  ∃(w':World) (v:Value) (n:Nat),(Instr.mapEntry T (.map (some b)) kv).run P E.w= .ok (.tuple #[v,.int .i64 n]) w'/\Only b E.w w'/\VC E os ag ((Jz l key).getD zs) v/\(∀E' os',E'.w=w'->Evo E os E' os'->YL E' os' b dk ag (Yp l key ((Jz l key).getD zs)))/\
   ∃es clk e,w'.heap[b]? =some (.map es clk)/\e∈es.toList/\e.born=n/\e.key=kkV dk key:=by
 refine h.cases hk hv (λmk kx K hq hM k h hkey hkv hkk=> ?_);obtain⟨l',h1,h2,h3⟩:=h;obtain⟨w',v,n,g1,g2,g3,g4,g5⟩:=ZPT (P:=P) (w:=E.w) K T kt elem z hT hd hz b l' h1 k;have hvc:VC E os ag ((Jz l key).getD zs) v:=by
  rw[hkey];rcases ZMu hq k l' l h2 h3 with⟨v',xs,k1,k2,k3⟩|⟨k1,k2⟩
  all_goals simp_all
 obtain⟨g6,g7⟩:=ZLf hq k hvc l' l h2 h3;rw[<-hkv,hkk]at g5;rw[hkey]at g5 hvc|-;rw[hkv];rw[hkey]at g6 g7;exact⟨w',v,n,g1,g2,hvc,λE' os' hw ev=>hM E' os' _ ⟨_,by rw[hw];exact g4,g6,λi a q ha hq'=>⟨(g7 i a q ha hq').1,(g7 i a q ha hq').2.mono ev⟩⟩,g5⟩
theorem YL.store(h:YL E os b dk ag l)(hk: ∃kd kv,QU dk kd=some key/\V E os kd kv){n:Nat}{u:Value}{xs:J8}(hu:VC E os ag xs u)
  (he: ∃es clk e,E.w.heap[b]? =some (.map es clk)/\e∈es.toList/\e.born=n/\e.key=kkV dk key):
  ∃w',(Instr.entryStore T (.map (some b)) (.int .i64 n) u).run P E.w= .ok () w'/\Only b E.w w'/\ ∀E' os',E'.w=w'->Evo E os E' os'->YL E' os' b dk ag (Yp l key xs):=by
 obtain⟨kd,kv,hk,hv⟩:=hk;refine h.cases hk hv (λmk kx K hq hM k h hkey hkv hkk=> ?_);obtain⟨l',h1,h2,h3⟩:=h;obtain⟨es,clk,e,e1,e2,e3,e4⟩:=he;obtain⟨w',g1,g2,g3⟩:=ZMg (P:=P) (w:=E.w) K T b l' h1 k n u (λes' clk' h=>by
  rw[e1]at h;cases h;exact⟨e,e2,e3,by rw[e4,<-hkk,hkv]⟩)
 obtain⟨g4,g5⟩:=ZLf hq k hu l' l h2 h3;rw[hkey];exact V1
theorem YL.each{C:Prop}(h:YL E os b dk ag l)(H: ∀ {κ:Type} [DecidableEq κ] (mk:κ->Value) (kx:κ->J9) (_: ∀(E:Env) os l,ZCp mk kx E os b ag l->YL E os b dk ag l) (_: ∀k,mk k=kkV dk (kx k)),ZCp mk kx E os b ag l->C):C:=by
 cases dk with
 |int k=>exact H (Value.int k) (kxI k) (λ_ _ _ h=>h) (λ_=>rfl) h
 |str=>exact H Value.string kxS (λ_ _ _ h=>h) (λa=>by simp only[kxS,kkV];rw[show ZV a.toList=a by rw[ByteArray.toList_eq];simp[ZV]]) h
 |st _ _=>exact h.elim
theorem YL.clear(h:YL E os b dk ag l)(hT:P.underlying T=some (.map kt elem))(ty:TypeId):
  ∃w',(Builtin.clear_ #[T] ty #[.map (some b)]).run P E.w= .ok (.tuple #[]) w'/\Only b E.w w'/\ ∀E' os',E'.w=w'->YL E' os' b dk ag []:=by
 refine h.each (λmk kx hM _ h=> ?_);obtain⟨l',h1,h2,h3⟩:=h;obtain⟨w',g1,g2,g3⟩:=ZUf (P:=P) (w:=E.w) T kt elem hT ty b l' h1;exact⟨w',g1,g2,λE' os' hw=>hM E' os' _ ⟨[],by rw[hw];exact g3,rfl,λi a q ha=>by simp at ha⟩⟩
theorem YL.pairs(h:YL E os b dk ag l): ∃es clk,E.w.heap[b]? =some (.map es clk)/\ZGX E os dk ag es.toList l/\(∀x∈es.toList,x.born<clk)/\(es.toList.map (·.born)).Nodup:=by
 refine h.each (λmk kx _ hk h=> ?_);obtain⟨l',⟨es,clk,h1,h2,_,h4,h5⟩,h6,h7⟩:=h;refine⟨es,clk,h1,⟨?_,λi e q he hq=> ?_⟩,h4,h5⟩
 .grind[List.length_map]
 .have h8:=congrArg (λl=>l[i]?) h2;simp only[YI,he,Yq]at h8;obtain⟨a,ha,hae⟩:=Zc h8.symm;simp only[YP]at hae;obtain⟨k1,k2⟩:=h7 i a q ha hq;exact⟨by rw[k1,<-hk,hae.1],by rw[<-hae.2];exact k2⟩
theorem YL.size(h:YL E os b dk ag l): ∃es clk,E.w.heap[b]? =some (.map es clk)/\es.size=l.length:=by
 obtain⟨es,clk,h1,h2,_⟩:=h.pairs;grind[h2.1]
theorem YL.new(E:Env)(os:J7)(w:World)(hw:E.w=w.alloc (.map #[] 0))(dk:KK)(hd: ∀a b,dk≠ .st a b)(ag:Bool):YL E os w.heap.size dk ag []:=by
 cases dk with
 |int k=>exact XE
 |str=>exact XE
 |st a b=>exact absurd rfl (hd a b)
theorem ZUn(h:YL E os b dk ag l)(hT:P.underlying T=some (.map kt elem))(ty:TypeId):(Builtin.len_ #[T] ty #[.map (some b)]).run P E.w= .ok (.int .i64 l.length) E.w:=by
 obtain⟨es,clk,h1,h2⟩:=h.size;have hg:(getObj b).run P E.w= .ok (.map es clk) E.w:=by simp[getObj,Sem.run,h1]
 simp[Builtin.len_,run_underlying hT,Sem.run_bind,Result.andThen,hg,h2,goInt]
theorem ZUX(hT:P.underlying T=some (.map kt elem))(ty:TypeId)(w:World):(Builtin.len_ #[T] ty #[.map none]).run P w= .ok (.int .i64 0) w:=by
 simp[Builtin.len_,run_underlying hT,Sem.run_bind,Result.andThen,goInt]
end
inductive IO where
 |t (n:Nat)
 |c (d:D)
 deriving Inhabited
inductive FK where
 |int (k:IntKind)
 |str
 |bool
inductive EqK where
 |bool|ptr|sl|map
 |st (fs:List (Nat×FK))
 deriving Inhabited
inductive IE where
 |mv (x:IO)
 |nck (x:IO)
 |pick (c a b:IO)
 |bin (op:BinOp) (x y:IO)
 |eq (k:EqK) (neg:Bool) (x y:IO)
 |un (op:UnOp) (x:IO)
 |cvi (k:IntKind) (x:IO)
 |b2s (x:IO)
 |s2b (e:Nat) (x:IO)
 |fld (off n:Nat) (ag:Bool) (x:IO)
 |fad (off:Nat) (x:IO)
 |iad (sz:Nat) (x i:IO)
 |iada (sz len:Nat) (x i:IO)
 |idx (x i:IO)
 |idxa (sz len:Nat) (ag:Bool) (x i:IO)
 |ld (n:Nat) (ag:Bool) (x:IO)
 |sto (n:Nat) (a v:IO)
 |box (x:IO)
 |build (zs:J8) (parts:List (Nat×Nat×IO))
 |bsl (e sz n:Nat) (parts:List IO)
 |mks (e sz by_:Nat) (z:J9) (l c:IO)
 |slc (sz:Nat) (x:IO) (lo hi mx:Option IO)
 |ext (x:IO) (i:Nat)
 |len (st:Bool) (x:IO)
 |app (e sz by_:Nat) (x y:IO)
 |apz (e sz by_:Nat) (z:J9) (x k:IO)
 |cpy (sz:Nat) (x y:IO)
 |mnx (mx:Bool) (x y:IO)
 |call (f:IO) (xs:List IO)
 |mkf (f:FuncId) (caps:List IO)
 |abx (t:Nat) (x:IO)
 |asl (n:Nat) (x:IO) (hi:Option IO)
 |mkm (dk:KK) (ag:Bool)
 |mlk (dk:KK) (ok:Bool) (z:D) (x k:IO)
 |mln (x:IO)
 |mup (dk:KK) (x k v:IO)
 |mdl (dk:KK) (x k:IO)
 |men (dk:KK) (z:D) (x k:IO)
 |est (x s v:IO)
 |mcl (x:IO)
 |rgm (x:IO)
 |rgs (x:IO)
 |nxt (st:Bool) (x:IO)
 |ent (x:IO)
 deriving Inhabited
def get:J4->Nat->D
 | [],_=> .und
 |(u,d)::φ,t=>if u=t then d else get φ t
def put:J4->Nat->D->J4
 | [],t,d=> [(t,d)]
 |(u,d')::φ,t,d=>if u=t then(t,d)::φ else(u,d')::put φ t d
def QD(t:Nat):W0->Bool
 | []=>false
 |u::us=>if t=u then true else QD t us
def keep(ks:W0):J4->J4
 | []=> []
 |(t,d)::φ=>if QD t ks=true then(t,d)::keep ks φ else keep ks φ
theorem ZPE(φ:J4)(t u:Nat)(d:D):get (put φ t d) u=if t=u then d else get φ u:=by
 induction φ with
 |nil=>simp[put,get]
 |cons p φ ih=>
  obtain⟨s,e⟩:=p;unfold put;by_cases h:s=t
  .subst h;by_cases h2:s=u
   .simp[get,h2]
   .simp[get,h2]
  .by_cases h2:s=u
   .subst h2;simp[h,get,Ne.symm h]
   .simp[h,get,h2,ih]
theorem Zce(ks:W0)(φ:J4)(t:Nat):get (keep ks φ) t=get φ t\/get (keep ks φ) t= .und:=by
 by_cases ht:QD t ks=true
 .left
  induction φ with
  |nil=>rfl
  |cons p φ ih=>
   obtain⟨s,e⟩:=p;simp only[keep];split
   .simp only[get,ih]
   .rename_i h;have:s≠t:=λe=>h (e▸ht)
    simp only[get,this,if_false];exact ih
 .right
  induction φ with
  |nil=>rfl
  |cons p φ ih=>
   obtain⟨s,e⟩:=p;simp only[keep];split
   .rename_i h;have:s≠t:=λe=>ht (e▸h)
    simp only[get,this,if_false];exact ih
   .exact ih
def ZG(φ:J4):IO->D
 | .t n=>get φ n
 | .c d=>d
def D.val:D->D
 | .opt _ d=>d.val
 |d=>d
def D.cond:D->Bool
 | .opt b d=>b&&d.cond
 |_=>true
theorem V.strip{E:Env}{os:J7}{d:D}{v:Value}(h:V E os d v)(hc:d.cond=true):V E os d.val v:=by
 induction h with
 |opt h1 h2 ih=>
  rename_i b d v;simp only[D.cond,Zj]at hc;exact ih hc.1 hc.2
 |x h=>exact .x h
 |ref h h1=>exact .ref h h1
 |ptr ho h=>exact .ptr ho h
 |eptr h h1=>exact .eptr h h1
 |vptr b off val h1 h2=>exact .vptr b off val h1 h2
 |mref ho hk h=>exact .mref ho hk h
 |mnil=>exact .mnil
 |iref ho hk h=>exact .iref ho hk h
 |stk ho hk h=>exact .stk ho hk h
 |bref ho h hm=>exact .bref ho h hm
 |agg vs hl h1 hv=>exact .agg vs hl h1 hv
 |tup vs hl hv=>exact .tup vs hl hv
 |full n h=>exact .full n h
 |nz h=>exact .nz h
 |fn vs hl hv=>exact .fn vs hl hv
 |und v=>exact .und v
def D.cells? :D->Option J8
 | .agg ds=>some ds
 | .tup _| .opt _ _| .und=>none
 |d=>some [d]
def ZBn(op:BinOp)(k:IntKind)(a b:Int):Option Int:=
 match op with
 | .and=>some (k.wrap (BitVec.ofInt k.bits a&&&BitVec.ofInt k.bits b).toNat)
 | .or=>some (k.wrap (BitVec.ofInt k.bits a|||BitVec.ofInt k.bits b).toNat)
 | .xor=>some (k.wrap (BitVec.ofInt k.bits a^^^BitVec.ofInt k.bits b).toNat)
 | .andNot=>some (k.wrap (BitVec.ofInt k.bits a&&& ~~~BitVec.ofInt k.bits b).toNat)
 |_=>none
def ZAn(op:BinOp):D->D->J5
 | .x (.int k a),.x (.int k' b)=>
  match op with
  | .shl=>some (decide (0<=b),.x (.int k (k.wrap (a*2^(min b.toNat k.bits)))))
  | .shr=>some (decide (0<=b),.x (.int k (a.fdiv (2^(min b.toNat k.bits)))))
  | .add=>some (k==k',.x (.int k (k.wrap (a+b))))
  | .sub=>some (k==k',.x (.int k (k.wrap (a-b))))
  | .mul=>some (k==k',.x (.int k (k.wrap (a*b))))
  | .quo=>some (k==k'&&b !=0,.x (.int k (k.wrap (a.tdiv b))))
  | .rem=>some (k==k'&&b !=0,.x (.int k (a.tmod b)))
  | .eql=>some (k==k',.x (.bool (a==b)))
  | .neq=>some (k==k',.x (.bool (a !=b)))
  | .lss=>some (k==k',.x (.bool (decide (a<b))))
  | .leq=>some (k==k',.x (.bool (decide (a<=b))))
  | .gtr=>some (k==k',.x (.bool (decide (a>b))))
  | .geq=>some (k==k',.x (.bool (decide (a>=b))))
  |op=>(ZBn op k a b).map λn=>(k==k',.x (.int k n))
 | .x (.str a),.x (.str b)=>
  match op with
  | .add=>some (decide (a.length+b.length<=9223372036854775807),.x (.str (a++b)))
  | .eql=>some (true,.x (.bool (a==b)))
  | .neq=>some (true,.x (.bool (!(a==b))))
  | .lss=>some (true,.x (.bool (Op.bytesLess a b)))
  | .leq=>some (true,.x (.bool (Op.bytesLess a b||a==b)))
  | .gtr=>some (true,.x (.bool (!(Op.bytesLess a b||a==b))))
  | .geq=>some (true,.x (.bool (!(Op.bytesLess a b))))
  |_=>none
 |_,_=>none
def eqX:FK->X->X->Option Bool
 | .int k,.int a m,.int b n=>if a=k/\b=k then some (m==n)else none
 | .str,.str s,.str t=>some (s==t)
 | .bool,.bool a,.bool b=>some (a==b)
 |_,_,_=>none
def ZAC:List (Nat×FK)->J8->J8->Option Bool
 | [],_,_=>some true
 |(o,k)::l,ds,es=>match ds[o]?,es[o]? with
  |some (.x a),some (.x b)=>(eqX k a b).bind λr=>(ZAC l ds es).map λq=>r&&q
  |_,_=>none
def eqD(k:EqK)(x y:D):Option Bool:=
 match k,x,y with
 | .bool,.x (.bool a),.x (.bool b)=>some (a==b)
 | .ptr,.x .nilp,.x .nilp=>some true
 | .ptr,.x .nilp,.ptr _ _| .ptr,.ptr _ _,.x .nilp| .ptr,.x .nilp,.vptr _| .ptr,.vptr _,.x .nilp| .ptr,.x .nilp,.iref _ _| .ptr,.iref _ _,.x .nilp=>some false
 | .sl,.x .nils,.x .nils=>some true
 | .map,.mnil,.mnil=>some true
 | .map,.mref _,.mnil| .map,.mnil,.mref _=>some false
 | .sl,.x (.sl (_::_)),.x .nils| .sl,.x .nils,.x (.sl (_::_))=>some false
 | .st fs,.agg ds,.agg es=>ZAC fs ds es
 |_,_,_=>none
def unD(op:UnOp):D->Option D
 | .x (.bool b)=>match op with| .not=>some (.x (.bool (!b)))|_=>none
 | .x (.int k n)=>match op with
  | .neg=>some (.x (.int k (k.wrap (0-n))))
  | .xor=>(ZBn .xor k (if k.signed then-1 else k.max) n).map λm=> .x (.int k m)
  |_=>none
 |_=>none
def ZFS:J9->UInt8
 | .int .u8 n::_=>UInt8.ofNat n.toNat
 |_=>0
def ZGE:J9->Bool
 | [.int .u8 _]=>true
 |_=>false
def Zv(b:UInt8):J9:= [.int .u8 b.toNat]
def ZEY:J8->Option J9
 | []=>some []
 | .x y::l=>(ZEY l).map λr=>y::r
 |_=>none
def ZMb(os:J7)(id off len:Nat):Option J6:=match os[id]? with
 |some (.box ds)=>if off+len<=ds.length then(ZEY ((ds.drop off).take len)).map λxs=>xs.map λx=> [x]else none
 |_=>none
def Zx(os:J7):D->Option J6
 | .x .nils=>some []
 | .x (.sl rs)=>some rs
 | .full rs=>some rs
 | .ref id ext off len=>match os[id]? with
  |some o=>match o.slice? with
   |some (_,rs)=>if rs.length=ext then some ((rs.drop off).take len)else none
   |none=>none
  |none=>none
 |_=>none
def ZAr(st:Bool):D->Option Nat
 | .x (.str s)=>if st then some s.length else none
 | .x .nils=>if st then none else some 0
 | .x (.sl rs)=>if st then none else some rs.length
 | .full rs=>if st then none else some rs.length
 | .ref _ _ _ len=>if st then none else some len
 | .bref _ _ len=>if st then none else some len
 |_=>none
def KS(os:J7):D->Bool
 | .ref id ext _ _=>match os[id]? with
  |some o=>match o.slice? with
   |some (_,rs)=>decide (rs.length=ext)
   |none=>match o.dsl? with
    |some (_,rs)=>decide (rs.length=ext)
    |none=>false
  |none=>false
 |_=>true
theorem ZXs{os:J7}{id ext off len:Nat}(h:KS os (.ref id ext off len)=true): ∃o sz,os[id]? =some o/\o.sl? =some (sz,ext):=by
 unfold KS at h;cases ho:os[id]? with
 |none=>simp[ho]at h
 |some o=>
  simp only[ho]at h;cases hs:o.slice? with
  |some p=>
   simp only[hs,Yl]at h;exact⟨o,p.1,rfl,by rw[<-h];exact Ob.slice_sl hs⟩
  |none=>
   simp only[hs]at h;cases hd:o.dsl? with
   |none=>simp[hd]at h
   |some p=>
    simp only[hd,Yl]at h;exact⟨o,p.1,rfl,by rw[<-h];exact Ob.dsl_sl hd⟩
def nzD(os:J7):D->Option Bool
 | .ref id ext off len=>some (KS os (.ref id ext off len)&&decide (0<len))
 | .x (.sl rs)=>some (decide (0<rs.length))
 | .full rs=>some (decide (0<rs.length))
 | .nz _=>some true
 |_=>none
def eqR(os:J7)(k:EqK)(x y:D):Option (Bool×Bool):=
 match eqD k x y with
 |some r=>some (true,r)
 |none=>match k,y with
  | .sl,.x .nils=>(nzD os x).map λb=>(b,false)
  |_,_=>none
def Jo(os:J7):D->Option X
 | .x x=>some x
 | .bref id off len=>(ZMb os id off len).map .sl
 |d=>(Zx os d).map .sl
def X.scalar:X->Bool
 | .int _ _| .bool _| .str _| .nilp| .nils=>true
 | .sl _=>false
def D.scalar:D->Bool
 | .x y=>y.scalar
 | .tup []=>true
 | .tup [.x a]=>a.scalar
 | .tup [.x a,.x b]=>a.scalar&&b.scalar
 | .tup [.x a,.x b,.x c]=>a.scalar&&b.scalar&&c.scalar
 |_=>false
def D.isX:D->Bool
 | .x _=>true
 |_=>false
def D.plain:D->Bool
 | .x _=>true
 | .agg ds=>ds.all D.isX
 | .fn _ []=>true
 |_=>false
def Qs(os:J7):D->Option D
 | .x x=>some (.x x)
 | .agg ds=>(ds.mapM (Jo os)).map λxs=> .agg (xs.map .x)
 | .fn f []=>some (.fn f [])
 |d=>(Jo os d).map .x
def ZD :D->Option Int
 | .x (.int _ n)=>some n
 |_=>none
def Jb(φ:J4):List (Nat×Nat×IO)->J8->Option (Bool×J8)
 | [],acc=>some (true,acc)
 |(off,sz,x)::ps,acc=>(ZG φ x).val.cells?.bind λcs=>if cs.length=sz/\off+sz<=acc.length then
   (Jb φ ps (acc.take off++cs++acc.drop (off+sz))).map λr=>((ZG φ x).cond&&r.1,r.2)else none
def ZIf(φ:J4)(x:IO)(lo hi mx:Option IO):J5:=
 match(ZG φ x).val with
 | .x (.str s)=>match lo.map (λl=>ZG φ l),hi.map (λh=>ZG φ h),mx with
  |none,none,none=>some ((ZG φ x).cond,.x (.str s))
  |some l,none,none=>(ZD l.val).map λ(n:Int)=>((ZG φ x).cond&&(l.cond&&(decide (0<=n)&&decide (n<=s.length))),.x (.str (s.drop n.toNat)))
  |none,some h,none=>(ZD h.val).map λ(m:Int)=>((ZG φ x).cond&&(h.cond&&(decide (0<=m)&&decide (m<=s.length))),.x (.str (s.take m.toNat)))
  |some l,some h,none=>(ZD l.val).bind λ(n:Int)=>(ZD h.val).map λ(m:Int)=>((ZG φ x).cond&&((l.cond&&h.cond)&&(decide (0<=n)&&(decide (n<=m)&&decide (m<=s.length)))),.x (.str ((s.take m.toNat).drop n.toNat)))
  |_,_,_=>none
 |_=>none
def KH:Option D->Option Bool
 |none=>some true
 |some d=>(ZD d.val).map λ(n:Int)=>d.cond&&decide (n=0)
def ZJX(φ:J4)(os:J7)(sz:Nat)(x:IO)(lo hi mx:Option IO):J5:=
 match(ZG φ x).val with
 | .x .nils=>(KH (lo.map λl=>ZG φ l)).bind λp=>(KH (hi.map λl=>ZG φ l)).bind λq=>(KH (mx.map λl=>ZG φ l)).map λr=>((ZG φ x).cond&&((mx.isNone||hi.isSome)&&(p&&(q&&r))),.x .nils)
 | .x (.sl rs)=>match lo.map (λl=>ZG φ l),hi.map (λh=>ZG φ h),mx.map (λh=>ZG φ h)with
  |none,none,none=>some ((ZG φ x).cond,.x (.sl rs))
  |some l,none,none=>(ZD l.val).map λ(n:Int)=>((ZG φ x).cond&&(l.cond&&(decide (0<=n)&&(decide (n<=rs.length)&&rs.all λr=>decide (r.length=sz)))),.x (.sl (rs.drop n.toNat)))
  |none,some h,none=>(ZD h.val).map λ(m:Int)=>((ZG φ x).cond&&(h.cond&&(decide (0<=m)&&(decide (m<=rs.length)&&rs.all λr=>decide (r.length=sz)))),.x (.sl (rs.take m.toNat)))
  |some l,some h,none=>(ZD l.val).bind λ(n:Int)=>(ZD h.val).map λ(m:Int)=>((ZG φ x).cond&&((l.cond&&h.cond)&&(decide (0<=n)&&(decide (n<=m)&&(decide (m<=rs.length)&&rs.all λr=>decide (r.length=sz))))),.x (.sl ((rs.take m.toNat).drop n.toNat)))
  |l,some h,some mi=>(KH l).bind λz=>(ZD h.val).bind λ(n:Int)=>(ZD mi.val).map λ(m:Int)=>((ZG φ x).cond&&(z&&(h.cond&&(mi.cond&&(decide (0<=n)&&(decide (n<=rs.length)&&(decide (n=m)&&rs.all λr=>decide (r.length=sz))))))),.full (rs.take n.toNat))
  |_,_,_=>none
 | .ref id ext off len=>match os[id]? with
  |some o=>match o.slice? with
   |some (sz',rs)=>match lo.map (λl=>ZG φ l),hi.map (λh=>ZG φ h),mx with
    |some l,none,none=>(ZD l.val).map λ(n:Int)=>((ZG φ x).cond&&(l.cond&&(decide (sz'=sz)&&(decide (rs.length=ext)&&(decide (0<=n)&&decide (n<=len))))),.ref id ext (off+n.toNat) (len-n.toNat))
    |none,some h,none=>(ZD h.val).map λ(m:Int)=>((ZG φ x).cond&&(h.cond&&(decide (sz'=sz)&&(decide (rs.length=ext)&&(decide (0<=m)&&decide (m<=len))))),.ref id ext off m.toNat)
    |some l,some h,none=>(ZD l.val).bind λ(n:Int)=>(ZD h.val).map λ(m:Int)=>((ZG φ x).cond&&((l.cond&&h.cond)&&(decide (sz'=sz)&&(decide (rs.length=ext)&&(decide (0<=n)&&(decide (n<=m)&&decide (m<=len)))))),.ref id ext (off+n.toNat) (m.toNat-n.toNat))
    |_,_,_=>none
   |none=>none
  |none=>none
 |_=>none
def ZT(S:FuncId->J8->J5)(φ:J4)(os:J7):IE->J5
 | .mv x=>some (true,ZG φ x)
 | .nck x=>match(ZG φ x).val with
  | .ptr i o=>some ((ZG φ x).cond,.ptr i o)
  | .vptr cs=>some ((ZG φ x).cond,.vptr cs)
  | .eptr a b c d=>some ((ZG φ x).cond,.eptr a b c d)
  |_=>none
 | .pick c a b=>match(ZG φ c).val,(ZG φ a).val,(ZG φ b).val with
  | .x (.bool p),.x (.bool q),.x (.bool r)=>some ((ZG φ c).cond&&((!p||(ZG φ a).cond)&&(p||(ZG φ b).cond)),.x (.bool (bif p then q else r)))
  | .x (.bool true),.x (.bool q),_=>some ((ZG φ c).cond&&(ZG φ a).cond,.x (.bool q))
  | .x (.bool false),_,.x (.bool r)=>some ((ZG φ c).cond&&(ZG φ b).cond,.x (.bool r))
  |_,_,_=>none
 | .bin op x y=>(ZAn op (ZG φ x).val (ZG φ y).val).map λr=>((ZG φ x).cond&&((ZG φ y).cond&&r.1),r.2)
 | .eq k neg x y=>(eqR os k (ZG φ x).val (ZG φ y).val).map λr=>((ZG φ x).cond&&(ZG φ y).cond&&r.1,.x (.bool (r.2 !=neg)))
 | .un op x=>(unD op (ZG φ x).val).map λr=>((ZG φ x).cond,r)
 | .cvi k x=>match(ZG φ x).val with
  | .x (.int _ n)=>some ((ZG φ x).cond,.x (.int k (k.wrap n)))
  |_=>none
 | .b2s x=>(Zx os (ZG φ x).val).map λrs=>((ZG φ x).cond&&rs.all ZGE,.x (.str (rs.map ZFS)))
 | .fld off n ag x=>match(ZG φ x).val with
  | .agg ds=>if ag then some ((ZG φ x).cond,.agg ((ds.drop off).take n))else(ds[off]?).map λd=>((ZG φ x).cond,d)
  |_=>none
 | .fad off x=>match(ZG φ x).val with
  | .ptr i o=>some ((ZG φ x).cond,.ptr i (o+off))
  | .eptr i e k o=>some ((ZG φ x).cond,.eptr i e k (o+off))
  | .vptr cs=>some ((ZG φ x).cond,.vptr (cs.drop off))
  |_=>none
 | .iad sz x i=>match ZD (ZG φ i).val with
  |none=>none
  |some n=>match(ZG φ x).val with
   | .x (.sl rs)=>(rs[n.toNat]?).map λr=>((ZG φ x).cond&&(ZG φ i).cond&&(decide (0<=n)&&decide (r.length=sz)),.vptr r)
   | .full rs=>(rs[n.toNat]?).map λr=>((ZG φ x).cond&&(ZG φ i).cond&&(decide (0<=n)&&decide (r.length=sz)),.vptr r)
   | .ref id ext off len=>match os[id]? with
    |some o=>match o.slice? with
     |some (sz',rs)=>some ((ZG φ x).cond&&(ZG φ i).cond&&(decide (sz'=sz)&&(decide (rs.length=ext)&&(decide (0<=n)&&decide (n<len)))),.eptr id ext (off+n.toNat) 0)
     |none=>match o.dsl? with
      |some (sz',rs)=>some ((ZG φ x).cond&&(ZG φ i).cond&&(decide (sz'=sz)&&(decide (rs.length=ext)&&(decide (0<=n)&&decide (n<len)))),.eptr id ext (off+n.toNat) 0)
      |none=>none
    |none=>none
   | .bref id off len=>some ((ZG φ x).cond&&(ZG φ i).cond&&(decide (sz=1)&&(decide (0<=n)&&decide (n<len))),.ptr id (off+n.toNat))
   |_=>none
 | .iada sz len x i=>match ZD (ZG φ i).val with
  |none=>none
  |some n=>match(ZG φ x).val with
   | .ptr id o=>some ((ZG φ x).cond&&(ZG φ i).cond&&(decide (0<=n)&&decide (n<len)),.ptr id (o+n.toNat*sz))
   | .vptr cs=>some ((ZG φ x).cond&&(ZG φ i).cond&&(decide (0<=n)&&decide (n<len)),.vptr (cs.drop (n.toNat*sz)))
   | .eptr id ext j o=>some ((ZG φ x).cond&&(ZG φ i).cond&&(decide (0<=n)&&decide (n<len)),.eptr id ext j (o+n.toNat*sz))
   |_=>none
 | .idx x i=>match(ZG φ x).val,(ZG φ i).val with
  | .x (.str s),.x (.int _ n)=>some ((ZG φ x).cond&&(ZG φ i).cond&&(decide (0<=n)&&decide (n<s.length)),.x (.int .u8 (s.getD n.toNat 0).toNat))
  |_,_=>none
 | .idxa sz len ag x i=>match(ZG φ x).val,(ZG φ i).val with
  | .agg ds,.x (.int _ n)=>if ag then some ((ZG φ x).cond&&(ZG φ i).cond&&(decide (0<=n)&&decide (n<len)),.agg ((ds.drop (n.toNat*sz)).take sz))
   else(ds[n.toNat*sz]?).map λd=>((ZG φ x).cond&&(ZG φ i).cond&&(decide (0<=n)&&decide (n<len)),d)
  |_,_=>none
 | .ld n ag x=>match(ZG φ x).val with
  | .ptr id o=>match os[id]? with
   |some (.box ds)=>if ag then some ((ZG φ x).cond&&decide (((ds.drop o).take n).length=n),.agg ((ds.drop o).take n))else(ds[o]?).map λd=>((ZG φ x).cond,d)
   |_=>none
  | .eptr id ext i o=>match os[id]? with
   |some ob=>match ob.slice? with
    |some (_,rs)=>(rs[i]?).bind λr=>if ag then some ((ZG φ x).cond&&(decide (rs.length=ext)&&decide (((r.drop o).take n).length=n)),.agg (((r.drop o).take n).map .x))else(r[o]?).map λd=>((ZG φ x).cond&&decide (rs.length=ext),.x d)
    |none=>match ob.dsl? with
     |some (_,rs)=>(rs[i]?).bind λr=>if ag then some ((ZG φ x).cond&&(decide (rs.length=ext)&&decide (((r.drop o).take n).length=n)),.agg ((r.drop o).take n))else(r[o]?).map λd=>((ZG φ x).cond&&decide (rs.length=ext),d)
     |none=>none
   |none=>none
  | .vptr cs=>if ag then some ((ZG φ x).cond&&decide ((cs.take n).length=n),.agg ((cs.take n).map .x))else(cs[0]?).map λd=>((ZG φ x).cond,.x d)
  |_=>none
 | .build zs parts=>(Jb φ parts zs).map λr=>(r.1,.agg r.2)
 | .slc sz x lo hi mx=>if sz=0 then ZIf φ x lo hi mx else ZJX φ os sz x lo hi mx
 | .ext x i=>match(ZG φ x).val with
  | .tup ds=>(ds[i]?).map λd=>((ZG φ x).cond,d)
  |_=>none
 | .len st x=>(ZAr st (ZG φ x).val).map λ(n:Nat)=>((ZG φ x).cond&&KS os (ZG φ x).val,.x (.int .i64 n))
 | .mnx mx x y=>match(ZG φ x).val,(ZG φ y).val with
  | .x (.int k a),.x (.int _ b)=>some ((ZG φ x).cond&&(ZG φ y).cond,.x (.int k (if mx then(if b>a then b else a)else(if b<a then b else a))))
  |_,_=>none
 | .call f xs=>match(ZG φ f).val with
  | .fn g caps=>((xs.map (ZG φ)).mapM λd=>Qs os d.val).bind λas=>(caps.mapM (Qs os)).bind λcs=>(S g (as++cs)).bind λr=>
   if r.2.scalar||(((xs.map (ZG φ)).all λd=>d.val.plain)&&caps.all D.plain)then some ((ZG φ f).cond&&((xs.map (ZG φ)).all D.cond&&r.1),r.2)else none
  |_=>none
 | .mkf f caps=>some (true,.fn f (caps.map (ZG φ)))
 | .mlk dk ok z x k=>match(ZG φ x).val with
  | .mref id=>match(os[id]?).bind Ob.map? with
   |some (dk',ag,l)=>if dk'=dk then(QU dk (ZG φ k).val).map λkey=>((ZG φ x).cond&&(ZG φ k).cond,match Jz l key with
     |some xs=>if ok=true then .tup [ZFq ag xs,.x (.bool true)]else ZFq ag xs
     |none=>if ok=true then .tup [z,.x (.bool false)]else z)else none
   |none=>none
  |_=>none
 | .mln x=>match(ZG φ x).val with
  | .mref id=>match(os[id]?).bind Ob.map? with
   |some (_,_,l)=>some ((ZG φ x).cond,.x (.int .i64 l.length))
   |none=>none
  | .mnil=>some ((ZG φ x).cond,.x (.int .i64 0))
  |_=>none
 | .ent x=>match(ZG φ x).val with
  | .iref mid it=>match os[mid]? with
   |some (.mit dk ag _ it' _ (some q))=>if it'=it then some ((ZG φ x).cond,.tup [keyD dk q.1,ZFq ag q.2])else none
   |_=>none
  |_=>none
 | .asl n x none=>match(ZG φ x).val with
  | .ptr id o=>match os[id]? with
   |some (.box ds)=>some ((ZG φ x).cond&&(decide (0<n)&&(decide (o+n<=ds.length)&&decide (n<=16777216))),.bref id o n)
   |_=>none
  |_=>none
 |_=>none
def ZB5:Value->D
 | .int k n=> .x (.int k n)
 | .bool b=> .x (.bool b)
 | .string s=> .x (.str s.data.toList)
 | .pointer none=> .x .nilp
 | .slice none 0 0=> .x .nils
 | .map none=> .mnil
 |_=> .und
def Kr:Value->D
 | .agg cs=>if cs.toList.all (·.oneCell')then .agg (cs.toList.map ZB5)else .und
 |v=>ZB5 v
theorem Zaz(s:ByteArray):ZV s.data.toList=s:=by cases s;simp[ZV]
theorem V.const1(E:Env)(os:J7)(v:Value):V E os (ZB5 v) v:=by
 unfold ZB5;split
 .exact .x (.int _ _)
 .exact .x (.bool _)
 .rename_i s;have:=VX.str (w:=E.w) (st:=E.st) s.data.toList;rw[Zaz]at this;exact .x this
 .exact .x .nilp
 .exact .x .nils
 .exact .mnil
 .exact .und _
theorem V.const(E:Env)(os:J7)(v:Value):V E os (Kr v) v:=by
 unfold Kr;split
 .rename_i cs;split
  .rename_i h;refine .agg cs J1 (λv hv=>Yg.1 h v hv) (λj d v hd hv=> ?_);rw[YI]at hd;rw[<-ξQ]at hv;rw[hv]at hd;cases hd;exact V.const1 E os v
  .exact .und _
 .exact V.const1 E os v
def Zb:Operand->Option IO
 | .tmp t=>some (.t t)
 | .const v=>some (.c (Kr v))
 | .func f=>some (.c (.fn f []))
 | .global _=>none
structure Fr (n:Nat) (E:Env) (os:J7) (φ:J4) (a:Act):Prop where
 size:a.tmps.size=n
 defers:a.defers= []
 slot: ∀t,V E os (get φ t) (a.tmps.getD t undef)
theorem Fr.mono{n:Nat}{E E':Env}{os os':J7}{φ:J4}{a:Act}(h:Fr n E os φ a)(e:Evo E os E' os'):Fr n E' os' φ a:=⟨h.size,h.defers,λt=>(h.slot t).mono e⟩
theorem Fr.keep{n:Nat}{E:Env}{os:J7}{φ:J4}{a:Act}(h:Fr n E os φ a)(ks:W0):Fr n E os (Go.Ab.keep ks φ) a:=
 ⟨h.size,h.defers,λt=>by rcases Zce ks φ t with e|e<;>rw[e];exact h.slot t;exact .und _⟩
theorem Fr.put{n:Nat}{E:Env}{os:J7}{φ:J4}{a:Act}(h:Fr n E os φ a){t:Nat}{d:D}{v:Value}(ht:t<n)(hv:V E os d v):Fr n E os (Go.Ab.put φ t d) (a.put (some t) v):=by
 refine⟨by simp[Act.put,h.size],h.defers,λu=> ?_⟩;rw[ZPE];show V E os _ ((a.tmps.setIfInBounds t v).getD u undef);by_cases e:t=u
 .simp_all[h.size]
 .have:(a.tmps.setIfInBounds t v).getD u undef=a.tmps.getD u undef:=by simp[ZEc,e]
  rw[this];simpa[e]using h.slot u
theorem V.op{n:Nat}{E:Env}{os:J7}{φ:J4}{a:Act}(h:Fr n E os φ a){x:Operand}{y:IO}(hx:Zb x=some y):V E os (ZG φ y) (a.eval x):=by
 cases x with
 |tmp t=>cases hx;exact h.slot t
 |const v=>cases hx;exact V.const E os v
 |global g=>cases hx
 |func f=>cases hx;exact .fn #[] rfl (λj d v hd=>by simp at hd)
def ZkN:TypeDesc->Bool
 | .struct _| .array _ _=>true
 |_=>false
def Kn(P:Program)(t:TypeId):Option Nat:=(P.info? t).map (·.size)
def ZGF(P:Program)(t:TypeId):Option Bool:=(P.underlying t).map ZkN
def QA:Option Operand->Option (Option IO)
 |none=>some none
 |some x=>(Zb x).map some
def ZDc(Yy:Nat->Option (Nat×Nat)):List (Nat×Operand)->Option (List (Nat×Nat×IO))
 | []=>some []
 |(j,x)::l=>do
  let p<-Yy j
  let y<-Zb x
  let r<-ZDc Yy l
  some ((p.1,p.2,y)::r)
def ZHU:Nat->List (Nat×Operand)->Option (List IO)
 |_,[]=>some []
 |i,(j,x)::l=>if j=i then do
   let y<-Zb x
   let r<-ZHU (i+1) l
   some (y::r)
  else none
def ZLH:Value->Option J9
 | .agg cs=>cs.toList.mapM λv=>match ZB5 v with| .x x=>some x|_=>none
 |v=>match ZB5 v with| .x x=>some [x]|_=>none
def ZME(P:Program)(t:TypeId):Option KK:=match P.underlying t with
 |some (.int k)=>some (.int k)
 |some .string=>some .str
 |_=>none
theorem ZEP{P:Program}{t:TypeId}{dk:KK}(h:ZME P t=some dk):P.underlying t=some (kkD dk)/\ ∀a b,dk≠ .st a b:=by
 unfold ZME at h;split at h
 .rename_i k e;cases h;exact⟨e,λa b h=>W6⟩
 .rename_i e;cases h;exact⟨e,λa b h=>W6⟩
 .cases h
def ZCP(P:Program)(c:Call):Option IE:=
 match c.callee with
 | .value f=>do some (.call (<-Zb f) (<-c.args.toList.mapM Zb))
 | .builtin .len=>match c.args.toList,c.argTypes.toList with
  | [x],[t]=>match P.underlying t with
   |some .string=>do some (.len true (<-Zb x))
   |some (.slice _)=>do some (.len false (<-Zb x))
   |some (.map _ _)=>do some (.mln (<-Zb x))
   |_=>none
  |_,_=>none
 | .builtin .append=>match c.args.toList,c.argTypes.toList with
  | [x,y],[t,u]=>match P.underlying t,P.underlying u with
   |some (.slice e),some (.int _)=>(P.info? e).bind λi=>i.zero.bind λz=>(ZLH z).bind λzx=>do some (.apz e i.size i.bytes zx (<-Zb x) (<-Zb y))
   |some (.slice e),some (.slice _)=>(P.info? e).bind λi=>i.zero.bind λz=>if t=u/\z.cells.size=i.size then do some (.app e i.size i.bytes (<-Zb x) (<-Zb y))else none
   |_,_=>none
  |_,_=>none
 | .builtin .copy=>match c.args.toList,c.argTypes.toList with
  | [x,y],[t,_]=>match P.underlying t with
   |some (.slice e)=>do some (.cpy (<-Kn P e) (<-Zb x) (<-Zb y))
   |_=>none
  |_,_=>none
 | .builtin .delete=>match c.args.toList,c.argTypes.toList with
  | [x,k],[t,_]=>match P.underlying t with
   |some (.map key _)=>(ZME P key).bind λdk=>do some (.mdl dk (<-Zb x) (<-Zb k))
   |_=>none
  |_,_=>none
 | .builtin .clear=>match c.args.toList,c.argTypes.toList with
  | [x],[t]=>match P.underlying t with
   |some (.map _ _)=>do some (.mcl (<-Zb x))
   |_=>none
  |_,_=>none
 | .builtin .min=>match c.args.toList with| [x,y]=>do some (.mnx false (<-Zb x) (<-Zb y))|_=>none
 | .builtin .max=>match c.args.toList with| [x,y]=>do some (.mnx true (<-Zb x) (<-Zb y))|_=>none
 |_=>none
def stF(P:Program):List Field->Option (List (Nat×FK))
 | []=>some []
 |f::fs=>if f.name= "_" then none else match P.underlying f.type with
  |some (.int k)=>(stF P fs).map λl=>(f.offset,.int k)::l
  |some .string=>(stF P fs).map λl=>(f.offset,.str)::l
  |some .bool=>(stF P fs).map λl=>(f.offset,.bool)::l
  |_=>none
def ZTB(P:Program)(t:TypeId):Option (List (Nat×FK)):=
 match P.underlying t with
 |some (.struct fs)=>if P.stoodInHeld t||P.eqGuardType P.depth t then none else stF P fs.toList
 |some (.array n e)=>match P.underlying e with
  |some .string=>if P.cellsOf e≠1||P.eqGuardType P.depth t then none else some ((List.range n).map λi=>(i,.str))
  |_=>none
 |_=>none
def Zdx(P:Program)(t:Nat):Bool:=match P.underlying t with
 |some (.array _ _)=>true
 |_=>false
def Kf(P:Program):Op->Option IE
 | .move x=>do some (.mv (<-Zb x))
 | .assign x=>do some (.mv (<-Zb x))
 | .pick c a b=>do some (.pick (<-Zb c) (<-Zb a) (<-Zb b))
 | .box t x=>(Zb x).map λy=>if Zdx P t=true then .abx t y else .box y
 | .alloc t=>(P.info? t).bind λi=>i.zero.map λz=>if Zdx P t=true then .abx t (.c (Kr z))else .box (.c (Kr z))
 | .build t parts=>match P.info? t,P.underlying t with
  |some it,some (.array _ e)=>match it.zero,P.info? e with
   |some z,some ie=>(Kr z).cells?.bind λzs=>(ZDc (λi=>some (i*ie.size,ie.size)) parts.toList).map λps=> .build zs ps
   |_,_=>none
  |some it,some (.struct fs)=>match it.zero,fs.toList.mapM (λf=>(P.info? f.type).map λi=>(f.offset,i.size))with
   |some z,some places=>(Kr z).cells?.bind λzs=>(ZDc (places.toArray[·]?) parts.toList).map λps=> .build zs ps
   |_,_=>none
  |_,_=>none
 | .buildSlice t n parts=>match P.underlying t with
  |some (.slice e)=>(P.info? e).bind λi=>i.zero.bind λ_=>if parts.size=n/\n*i.size<=16777216/\n<=16777216 then(ZHU 0 parts.toList).map λps=> .bsl e i.size n ps else none
  |_=>none
 | .load t x=>do some (.ld (<-Kn P t) (<-ZGF P t) (<-Zb x))
 | .store t x y=>do some (.sto (<-Kn P t) (<-Zb x) (<-Zb y))
 | .nilCheck x=>do some (.nck (<-Zb x))
 | .binOp op t x y _=>match P.underlying t with
  |some (.int _)|some .string=>do some (.bin op (<-Zb x) (<-Zb y))
  |some .bool=>match op with
   | .eql=>do some (.eq .bool false (<-Zb x) (<-Zb y))
   | .neq=>do some (.eq .bool true (<-Zb x) (<-Zb y))
   |_=>none
  |some (.pointer _)=>match op with
   | .eql=>do some (.eq .ptr false (<-Zb x) (<-Zb y))
   | .neq=>do some (.eq .ptr true (<-Zb x) (<-Zb y))
   |_=>none
  |some (.map _ _)=>match op with
   | .eql=>do some (.eq .map false (<-Zb x) (<-Zb y))
   | .neq=>do some (.eq .map true (<-Zb x) (<-Zb y))
   |_=>none
  |some (.slice _)=>match op with
   | .eql=>do some (.eq .sl false (<-Zb x) (<-Zb y))
   | .neq=>do some (.eq .sl true (<-Zb x) (<-Zb y))
   |_=>none
  |some (.struct _)=>(ZTB P t).bind λfs=>match op with
   | .eql=>do some (.eq (.st fs) false (<-Zb x) (<-Zb y))
   | .neq=>do some (.eq (.st fs) true (<-Zb x) (<-Zb y))
   |_=>none
  |some (.array _ _)=>(ZTB P t).bind λfs=>match op with
   | .eql=>do some (.eq (.st fs) false (<-Zb x) (<-Zb y))
   | .neq=>do some (.eq (.st fs) true (<-Zb x) (<-Zb y))
   |_=>none
  |_=>none
 | .unOp op _ x=>do some (.un op (<-Zb x))
 | .convert s d x=>match P.underlying s,P.underlying d with
  |some (.int _),some (.int k)=>do some (.cvi k (<-Zb x))
  |some (.slice e),some .string=>match P.underlying e with
   |some (.int .u8)=>do some (.b2s (<-Zb x))
   |_=>none
  |some .string,some (.slice e)=>match P.underlying e with
   |some (.int .u8)=>do some (.s2b e (<-Zb x))
   |_=>none
  |_,_=>none
 | .makeSlice t l c=>match P.underlying t with
  |some (.slice e)=>(P.info? e).bind λi=>i.zero.bind λz=>(ZLH z).bind λzx=>do some (.mks e i.size i.bytes zx (<-Zb l) (<-Zb c))
  |_=>none
 | .slice t x lo hi mx=>match P.underlying t with
  |some .string=>do some (.slc 0 (<-Zb x) (<-QA lo) (<-QA hi) (<-QA mx))
  |some (.slice e)=>(Kn P e).bind λz=>if z=0 then none else do some (.slc z (<-Zb x) (<-QA lo) (<-QA hi) (<-QA mx))
  |some (.array n e)=>(Kn P e).bind λz=>if z=1/\n<=16777216/\lo=none/\mx=none then do some (.asl n (<-Zb x) (<-QA hi))else none
  |_=>none
 | .fieldAddr s x f=>match P.underlying s with
  |some (.struct fs)=>(fs[f]?).bind λfd=>(Kn P fd.type).bind λz=>if z=0 then none else do some (.fad fd.offset (<-Zb x))
  |_=>none
 | .field t x f=>match P.underlying t with
  |some (.struct fs)=>(fs[f]?).bind λfd=>do some (.fld fd.offset (<-Kn P fd.type) (<-ZGF P fd.type) (<-Zb x))
  |_=>none
 | .indexAddr t x i=>match P.underlying t with
  |some (.slice e)=>do some (.iad (<-Kn P e) (<-Zb x) (<-Zb i))
  |some (.array n e)=>do some (.iada (<-Kn P e) n (<-Zb x) (<-Zb i))
  |_=>none
 | .index t x i=>match P.underlying t with
  |some .string=>do some (.idx (<-Zb x) (<-Zb i))
  |some (.array n e)=>do some (.idxa (<-Kn P e) n (<-ZGF P e) (<-Zb x) (<-Zb i))
  |_=>none
 | .extract x i=>do some (.ext (<-Zb x) i)
 | .call c=>ZCP P c
 | .makeMap t r=>match r,P.underlying t with
  |none,some (.map key elem)=>(ZME P key).bind λdk=>(ZGF P elem).map λag=> .mkm dk ag
  |_,_=>none
 | .lookup t x y ok=>match P.underlying t with
  |some (.map key elem)=>(ZME P key).bind λdk=>(P.info? elem).bind λi=>i.zero.bind λz=>do some (.mlk dk ok (Kr z) (<-Zb x) (<-Zb y))
  |_=>none
 | .mapEntry t x y=>match P.underlying t with
  |some (.map key elem)=>(ZME P key).bind λdk=>(P.info? elem).bind λi=>i.zero.bind λz=>do some (.men dk (Kr z) (<-Zb x) (<-Zb y))
  |_=>none
 | .entryStore _ x y u=>do some (.est (<-Zb x) (<-Zb y) (<-Zb u))
 | .range t x=>match P.underlying t with
  |some (.map _ _)=>do some (.rgm (<-Zb x))
  |some .string=>do some (.rgs (<-Zb x))
  |_=>none
 | .next x st=>do some (.nxt st (<-Zb x))
 | .entry x=>do some (.ent (<-Zb x))
 | .mapUpdate t x y u| .insert t x y u=>match P.underlying t with
  |some (.map key _)=>(ZME P key).bind λdk=>do some (.mup dk (<-Zb x) (<-Zb y) (<-Zb u))
  |_=>none
 | .makeFunc (.func f) first caps=>if first.size=0 then do some (.mkf f (<-caps.toList.mapM Zb))else none
 |_=>none
theorem V.int{E:Env}{os:J7}{k:IntKind}{n:Int}{v:Value}(h:V E os (.x (.int k n)) v):v= .int k n:=Tk
theorem V.bool{E:Env}{os:J7}{b:Bool}{v:Value}(h:V E os (.x (.bool b)) v):v= .bool b:=Tk
theorem V.str{E:Env}{os:J7}{s:List UInt8}{v:Value}(h:V E os (.x (.str s)) v):v= .string (ZV s):=Tk
theorem V.nilp{E:Env}{os:J7}{v:Value}(h:V E os (.x .nilp) v):v= .pointer none:=Tk
theorem V.nils{E:Env}{os:J7}{v:Value}(h:V E os (.x .nils) v):v= .slice none 0 0:=Tk
theorem V.ref_inv{E:Env}{os:J7}{id ext off len:Nat}{v:Value}(h:V E os (.ref id ext off len) v):ZGT E os id ext off len v:=by cases h with|ref h _=>exact h
theorem V.xx{E:Env}{os:J7}{x:X}{v:Value}(h:V E os (.x x) v):VX E.w E.st x v:=by cases h with|x h=>exact h
theorem V.mkint(E:Env)(os:J7)(k:IntKind)(n:Int):V E os (.x (.int k n)) (.int k n):= .x (.int k n)
theorem V.mkbool(E:Env)(os:J7)(b:Bool):V E os (.x (.bool b)) (.bool b):= .x (.bool b)
theorem V.mkstr(E:Env)(os:J7)(s:List UInt8):V E os (.x (.str s)) (.string (ZV s)):= .x (.str s)
section
variable {P:Program} {E:Env} {os:J7}
theorem ZR2{op:BinOp}{k:IntKind}{a b n:Int}(h:ZBn op k a b=some n)(w:World):(Op.intBits op k a b).run P w= .ok (.int k n) w:=by
 unfold ZBn at h;split at h<;>cases h<;>rfl
theorem Zf0{op:BinOp}{x y d:D}{vx vy:Value}(hx:V E os x vx)(hy:V E os y vy)(h:ZAn op x y=some (true,d))(t:TypeId)(ox oy:Operand)(w:World):
  ∃v,(do eqGuard op t ox oy vx vy;binOp op t vx vy:Sem Value).run P w= .ok v w/\V E os d v:=by
 unfold ZAn at h;split at h
 .rename_i k a k' b;rw[V.int hx,V.int hy];have hg:eqGuard op t ox oy (.int k a) (.int k' b)=pure ():=WY
  simp only[hg,Sem.run_bind,Sem.run_pure,Result.andThen_ok];have key: ∀(b':Bool) (r:D),some (k==k'&&b',r)=some (true,d)->k=k'/\b'=true/\r=d:=λb' r h=>HD
  have key1: ∀(r:D),some (k==k',r)=some (true,d)->k=k'/\r=d:=λr h=>WM
  have hb: ∀n,ZBn op k a b=some n->k=k'->(binOp op t (.int k a) (.int k' b)).run P w= .ok (.int k n) w:=λn hn e=>by
   subst e;rw[<-ZR2 (P:=P) hn w];unfold ZBn at hn;split at hn<;>cases hn<;>simp[binOp]
  split at h
  .exact G2
  .exact G2
  .exact U5
  .exact U5
  .exact U5
  .exact Gv
  .exact Gv
  .exact Vf
  .exact Vf
  .exact Vf
  .exact Vf
  .exact Vf
  .exact Vf
  .obtain⟨n,h1,h2⟩:=Zc h;obtain⟨h3,rfl⟩:=key1 _ (congrArg some h2);exact⟨_,hb n h1 h3,V.mkint _ _ _ _⟩
 .rename_i a b;rw[V.str hx,V.str hy];have hg:eqGuard op t ox oy (.string (ZV a)) (.string (ZV b))=pure ():=WY
  simp only[hg,Sem.run_bind,Sem.run_pure,Result.andThen_ok];split at h
  .simp at h;obtain⟨h1,rfl⟩:=h;refine⟨.string (ZV (a++b)),?_,V.mkstr _ _ _⟩;have e:ZV a++ZV b=ZV (a++b):=by
    apply ByteArray.ext;simp[ZV,ByteArray.data_append]
   grind[ZAO,IntKind.max,IntKind.signed,IntKind.bits,binOp,Op.stringOp,Sem.run_pure]
  .exact Vn
  .exact Vn
  .exact Vn
  .exact Vn
  .exact Vn
  .exact Vn
  .cases h
 .cases h
end
theorem JT(b o j:Nat):(⟨b,o,none⟩:Addr).add j=⟨b,o+j,none⟩:=by unfold Addr.add;split<;>simp_all
section
variable {P:Program} {E:Env} {os:J7} {c:Ctx}
theorem ZEF{t:TypeId}{i:TypeInfo}(h:P.info? t=some i)(w:World):(typeInfo t).run P w= .ok i w:=by simp[typeInfo,h]
theorem Kt{t:TypeId}{s:Nat}(h:Kn P t=some s)(w:World):(sizeOf t).run P w= .ok s w:=by
 obtain⟨i,h1,rfl⟩:=Zc h;simp[sizeOf,ZEF h1]
theorem ZIq{t:TypeId}{b:Bool}(h:ZGF P t=some b)(w:World):(isAgg t).run P w= .ok b w:=by
 obtain⟨d,h1,rfl⟩:=Zc h;unfold isAgg;simp only[Sem.run_bind,run_underlying h1,Result.andThen_ok];cases d<;>rfl
theorem ZBS(R:Rel c E os){d:D}{v:Value}(hv:V E os d v){rs:J6}(hr:Zx os d=some rs){sz:Nat}(hz: ∀r∈rs,r.length=sz):
  ∃(a:Option Addr) (cp:Nat) (xs:List Value),v= .slice a rs.length cp/\rs.length<=cp/\cp<=maxLen/\xs.length=rs.length*sz/\(a=none->rs.length=0)/\(∀ad,a=some ad-> ∀j u,xs[j]? =some u->E.w.cell? (ad.add j)=some u)/\
   (∀u∈xs,u.oneCell'=true)/\ ∀(i:Nat) (r:J9) (j:Nat) (x:X),rs[i]? =some r->r[j]? =some x-> ∃u,xs[i*sz+j]? =some u/\VX E.w E.st x u:=by
 have base: ∀ {rs:J6} {v:Value},VX E.w E.st (.sl rs) v->(∀r∈rs,r.length=sz)-> ∃(a:Option Addr) (cp:Nat) (xs:List Value),v= .slice a rs.length cp/\rs.length<=cp/\cp<=maxLen/\xs.length=rs.length*sz/\(a=none->rs.length=0)/\(∀ad,a=some ad-> ∀j u,xs[j]? =some u->E.w.cell? (ad.add j)=some u)/\
   (∀u∈xs,u.oneCell'=true)/\ ∀(i:Nat) (r:J9) (j:Nat) (x:X),rs[i]? =some r->r[j]? =some x-> ∃u,xs[i*sz+j]? =some u/\VX E.w E.st x u:=by
  intro rs v h hz;cases h with
  |sl _ a n cp sz0 val hn hc hm hsz hcell hnil hsp hval=>
   subst hn;by_cases h0:rs.length=0
   .exact⟨a,cp,[],rfl,hc,hm,by simp[h0],λ_=>h0,λ_ _ j u hu=>(by simp at hu),λu hu=>(by cases hu),λi r j x hr=>(by rw[ξS h0]at hr;simp at hr)⟩
   have e:sz0=sz:=by
    have:rs[0]' J0∈rs:=YK _;rw[<-hsz _ this,hz _ this]
   subst e;have hlt: ∀k,k<rs.length*sz0->k/sz0<rs.length/\k % sz0<sz0:=λk hk=>by
    have hp:0<sz0:=by rcases ZPs sz0 with h|h;subst h;simp at hk;exact h
    exact⟨(Zc8 hp).2 hk,Nat.mod_lt _ hp⟩
   have hval': ∀k,k<rs.length*sz0->(val (k/sz0) (k % sz0)).oneCell'=true:=λk hk=>by
    obtain⟨h1,h2⟩:=hlt k hk;have hr:=Zw h1;have hl:(rs[k/sz0]).length=sz0:=hsz _ (YK _);exact(hval _ _ _ _ hr (Zw (by rw[hl];exact h2))).one
   refine⟨a,cp,(List.range (rs.length*sz0)).map λk=>val (k/sz0) (k % sz0),rfl,hc,hm,J1,λh=>(hnil h).1,λad had j u hu=> ?_,λu hu=> ?_,λi r j x hr hx=> ?_⟩
   .obtain⟨hj,hu⟩:=ZX hu;simp at hj;simp at hu;obtain⟨h1,h2⟩:=hlt j hj;obtain⟨b,off,k1,_,k3⟩:=hcell (j/sz0) (j % sz0) h1 h2;rw[had]at k1;cases k1;rw[JT,<-hu,<-k3];have:j/sz0*sz0+j % sz0=j:=by rw[ZKg];exact ZXJ j sz0
    congr 2;omega
   .obtain⟨k,hk,rfl⟩:=YS.1 hu;exact hval' k (ZFX.1 hk)
   .have hi:=(ZX hr).1;have hj:j<sz0:=by rw[<-hsz r (JE hr)];exact(ZX hx).1
    have hp:0<sz0:=Wm
    have hlt2:i*sz0+j<rs.length*sz0:=by
     have:(i+1)*sz0<=rs.length*sz0:=Ky _ hi;exact VH
    refine⟨val i j,?_,hval i j r x hr hx⟩;have e1:(i*sz0+j)/sz0=i:=by rw[ZKg,Nat.mul_add_div hp,Nat.div_eq_of_lt hj];rfl
    have e2:(i*sz0+j) % sz0=j:=by rw[ZKg,Nat.mul_add_mod,Nat.mod_eq_of_lt hj]
    rw[YI,ZMs hlt2];simp[e1,e2]
 unfold Zx at hr;split at hr
 .cases hr;rw[V.nils hv];exact⟨none,0,[],rfl,Zr _,Kb _,J1,λ_=>rfl,λ_ h=>W6,λu hu=>(by cases hu),λi r j x h=>WE⟩
 .cases hr;exact base hv.xx hz
 .cases hr;cases hv with
  |full n h=>exact base h hz
 .rename_i id ext off len;split at hr
  .rename_i o ho;split at hr
   .rename_i sz' rs' hsl;split at hr
    .rename_i hext;cases hr;cases hv with
     |ref h _=>
      obtain⟨p,hp,hok⟩:=R.at ho;obtain⟨h1,h2⟩:=h.at ho hsl;obtain⟨h3,b,a,cap,a',cap',h4,h5,h6,h7,h8,h9,-,-⟩:=h2 hext;rw[hp]at h4;cases h4;have hlen:((rs'.drop off).take len).length=len:=Wx
      rw[hlen];by_cases hl0:len=0
      .subst hl0;exact⟨a',cap',[],h5,h6,h7,J1,λ_=>rfl,λ_ _ j u hu=>(by simp at hu),λu hu=>(by cases hu),λi r j x hr=>Hc⟩
      have hsz: ∀r∈rs',r.length=sz':=by
       cases o with
       |box ds=>cases hsl
       |rows fz e s r=>simp[Ob.slice?]at hsl;obtain⟨rfl,rfl⟩:=hsl;obtain⟨xs,q1,q2,q3⟩:=hok;exact q2
       |frz s r=>simp[Ob.slice?]at hsl;obtain⟨rfl,rfl⟩:=hsl;exact hok.2.1
       |_=>cases hsl
      have e:sz'=sz:=by
       have hm:((rs'.drop off).take len)[0]' J0∈(rs'.drop off).take len:=YK _;rw[<-hz _ hm];exact(hsz _ (ZDD (ZCH hm))).symm
      subst e;have own: ∃xs:List Value,xs.length=rs'.length*sz'/\(∀ad,a=some ad-> ∀j u,xs[j]? =some u->E.w.cell? (ad.add j)=some u)/\(∀u∈xs,u.oneCell'=true)/\
        (∀(i:Nat) (r:J9) (j:Nat) (x:X),rs'[i]? =some r->r[j]? =some x-> ∃u,xs[i*sz'+j]? =some u/\VX E.w E.st x u)/\a≠none:=by
       cases o with
       |box ds=>cases hsl
       |rows fz e s r=>
        simp[Ob.slice?]at hsl;obtain⟨rfl,rfl⟩:=hsl;obtain⟨xs,q1,q2,q3⟩:=hok;have hval: ∀(i:Nat) (r':J9) (j:Nat) (x:X),r[i]? =some r'->r'[j]? =some x-> ∃u,xs[i*s+j]? =some u/\VX E.w E.st x u:=by
         intro i r' j x hi hj;have h1:=(ZX hi).1;have h2:j<s:=by rw[<-q2 r' (JE hi)];exact(ZX hj).1
         have h3:i*s+j<xs.length:=by
          rw[q1.1];have:(i+1)*s<=r.length*s:=Ky _ h1;exact VH
         exact⟨_,Zw h3,q3 i r' j x _ hi hj (Zw h3)⟩
        refine⟨xs,q1.1,λad had j u hu=> ?_,λu hu=> ?_,hval,?_⟩
        .rcases q1.2 with⟨hc,_⟩|⟨g,cp,cells,fr,hc,hg,k1,k2,k3,k4,k5⟩
         .simp at hc;rw[hc.1]at had;cases had
         .simp at hc;obtain⟨hc,_⟩:=hc;rw[hc]at had;cases had;rw[JT,Jk];have hj:=(ZX hu).1;rw[<-k4,Kp,if_pos (by rw[q1.1]at hj;exact hj)]at hu;simp[World.cell?,hg];simpa using hu
        .obtain⟨k,hk,rfl⟩:=ZKf.1 hu;have hk':k<r.length*s:=by rw[<-q1.1];exact hk
         have hp:0<s:=by rcases ZPs s with h|h;subst h;simp at hk';exact h
         have hi:k/s<r.length:=(Zc8 hp).2 hk';have hj:k % s<s:=Nat.mod_lt _ hp;have hrl:(r[k/s]).length=s:=q2 _ (YK _);obtain⟨u,h1,h2⟩:=hval (k/s) _ (k % s) _ (Zw hi) (Zw (by rw[hrl];exact hj));have:k/s*s+k % s=k:=by rw[ZKg];exact ZXJ k s
         rw[this,Zw hk]at h1;cases h1;exact h2.one
        .intro ha;rcases q1.2 with⟨hc,hn⟩|⟨g,cp,cells,fr,hc,hg,k1,k2,k3,k4,k5⟩
         .omega
         .simp at hc;rw[hc.1]at ha;cases ha
       |frz s r=>
        simp[Ob.slice?]at hsl;obtain⟨rfl,rfl⟩:=hsl;obtain⟨a1,cp1,xs,q1,q2,q3,q4,q5,q6,q7,q8⟩:=base hok.1 hsz;rw[hext]at q1;simp at q1;obtain⟨rfl,-⟩:=q1;exact⟨xs,q4,q6,q7,q8,λh=>by have:=q5 h;omega⟩
       |_=>cases hsl
      obtain⟨xs,x1,x2,x3,x4,x5⟩:=own;cases a with
      |none=>exact absurd rfl x5
      |some ad=>
      have ha':=h9 J0 ad rfl;refine⟨a',cap',(xs.drop (off*sz')).take (len*sz'),h5,h6,h7,?_,λh=>(by rw[ha']at h;cases h),λad' had' j u hu=> ?_,λu hu=>x3 u (ZDD (ZCH hu)),λi r j x hr hx=> ?_⟩
      .rw[Yv,KQ,x1];have:(off+len)*sz'<=rs'.length*sz':=Ky _ J0;exact VH
      .rw[ha']at had';cases had';have hj:=(ZX hu).1;rw[Yv]at hj;rw[Kp,if_pos J0,ZAZ]at hu;have hspot:ad.spot=none:=by
        have:=x2 ad rfl _ u hu;have hs:=World.cell?_spot this;unfold Addr.add at hs;by_cases hz:off*sz'+j=0
        .simpa[hz]using hs
        .have h00:xs[0]? =some (xs[0]'(by have:=(ZX hu).1;omega)):=Zw _;have:=World.cell?_spot (x2 ad rfl 0 _ h00);simpa[Addr.add]using this
       obtain⟨b0,o0,sp⟩:=ad;simp only at hspot;subst hspot;have:=x2 _ rfl _ u hu;rw[JT]at this|-;rw[<-this];dsimp only;rw[ZFe]
      .have hi:i<len:=by have:=(ZX hr).1;omega
       rw[Kp,if_pos hi,ZAZ]at hr;obtain⟨u,k1,k2⟩:=x4 (off+i) r j x hr hx;have hj:j<sz':=by rw[<-hsz r (JE hr)];exact(ZX hx).1
       have hlt:i*sz'+j<len*sz':=by
        have:(i+1)*sz'<=len*sz':=Ky _ hi;exact VH
       refine⟨u,?_,k2⟩;rw[Kp,if_pos hlt,ZAZ,<-k1];congr 1;rw[JR];omega
    .cases hr
   .cases hr
  .cases hr
 .cases hr
end
section
variable {P:Program} {E:Env} {os:J7} {c:Ctx}
theorem ZPK{w:World}{t n:Nat}(hs:Kn P t=some n)(ha:ZGF P t=some true)(ad:Addr)(xs:List Value)(hc: ∀j u,xs[j]? =some u->w.cell? (ad.add j)=some u)(hl:xs.length=n):
  (loadVar t ad).run P w= .ok (.agg xs.toArray) w:=by
 have h:=run_loadCells_list (P:=P) (w:=w) ad xs hc;rw[hl]at h;simp[loadVar,ZIq ha,Kt hs,h]
theorem ZNk{w:World}{t:Nat}(ha:ZGF P t=some false)(ad:Addr)(v:Value)(hc:w.cell? ad=some v):(loadVar t ad).run P w= .ok v w:=by
 simp[loadVar,ZIq ha,load,Sem.run,hc]
theorem V.agg_part{ds:J8}{vs:Array Value}(h:V E os (.agg ds) (.agg vs))(off n:Nat):V E os (.agg ((ds.drop off).take n)) (.agg (vs.extract off (off+n))):=by
 cases h with
 |agg _ hl h1 hv=>
  refine .agg _ (by simp[hl];omega) (λv hv'=> ?_) (λj d v hd hv'=> ?_)
  .simp at hv';grind
  all_goals grind
theorem OK.cap{o:Ob}{p:Nat×Value}{sz:Nat}{rs:J6}(h:OK E os o p)(hs:o.slice? =some (sz,rs)){a:Option Addr}{n cap:Nat}(hp:p.2= .slice a n cap):n<=cap/\cap<=maxLen/\n=rs.length/\(∀r∈rs,r.length=sz)/\(a=none->n=0/\cap=0)/\(∀ad,a=some ad->ad=⟨ad.block,0,none⟩):=by
 cases o with
 |box ds=>cases hs
 |rows fz e s r=>
  simp[Ob.slice?]at hs;obtain⟨rfl,rfl⟩:=hs;obtain⟨xs,q1,q2,q3⟩:=h;rw[hp]at q1;rcases q1.2 with⟨hc,hn⟩|⟨g,cp,cells,fr,hc,hg,k1,k2,k3,k4,k5⟩
  all_goals simp_all
 |frz s r=>
  simp[Ob.slice?]at hs;obtain⟨rfl,rfl⟩:=hs;have h1:=h.1;rw[hp]at h1;cases h1 with
  |sl _ _ _ _ sz0 val hn hc hm hsz hcell hnil hsp hval=>exact⟨hc,hm,hn.symm,h.2.1,hnil,λad had=>h.2.2 ad _ _ (by rw[hp,had])⟩
 |_=>cases hs
theorem ZOo(R:Rel c E os){id ext i off:Nat}{v:Value}(hv:V E os (.eptr id ext i off) v){o:Ob}{sz:Nat}{rs:J6}(ho:os[id]? =some o)(hs:o.slice? =some (sz,rs))(he:rs.length=ext):
  i<ext/\ ∃(g:Nat) (xs:List Value),v= .pointer (some ⟨g,i*sz+off,none⟩)/\xs.length=ext*sz/\(∀j u,xs[j]? =some u->E.w.cell? ⟨g,j,none⟩=some u)/\(∀u∈xs,u.oneCell'=true)/\(∀r∈rs,r.length=sz)/\
   ∀(i:Nat) (r:J9) (j:Nat) (x:X),rs[i]? =some r->r[j]? =some x-> ∃u,xs[i*sz+j]? =some u/\VX E.w E.st x u:=by
 cases hv with
 |eptr h _=>
  obtain⟨h1,h2⟩:=h.at ho hs;obtain⟨h3,b,g,cap,h4,h5⟩:=h2 he;obtain⟨p,hp,hok⟩:=R.at ho;rw[hp]at h4;cases h4;obtain⟨k1,k2,k3,k4,-⟩:=hok.cap hs rfl;have hr:V E os (.ref id ext 0 ext) (.slice (some ⟨g,0,none⟩) ext cap):=by
   refine .ref ⟨o,sz,rs.length,ho,Ob.slice_sl hs,?_⟩ rfl;exact⟨J0,λ_=>⟨J0,b,_,cap,_,cap,hp,rfl,k1,k2,λ_=>⟨rfl,rfl⟩,λ_ ad had=>(by cases had;simp),λh=>W6,λad had=>(by cases had;rfl)⟩⟩
  have hrow:Zx os (.ref id ext 0 ext)=some rs:=by simp[Zx,ho,hs,he];rw[<-he,JX]
  obtain⟨a,cp,xs,q1,q2,q3,q4,q5,q6,q7,q8⟩:=ZBS R hr hrow k4;simp at q1;obtain⟨rfl,-,rfl⟩:=q1;refine⟨h3,g,xs,h5,by rw[q4,he],λj u hu=> ?_,q7,k4,q8⟩
  simp_all[JT,Jk]
theorem Zie{k m sz:Nat}(h:k<m*sz):k/sz<m/\k % sz<sz/\k/sz*sz+k % sz=k:=by
 have hp:0<sz:=by rcases sz with _|z;simp at h;omega
 refine⟨Nat.div_lt_of_lt_mul (by rw[ZKg];exact h),Nat.mod_lt _ hp,?_⟩;have:=ZXJ k sz;grind
theorem ZP7{e sz:Nat}{rs:List J8}{p:Nat×Value}(h:OK E os (.drw e sz rs) p){g n cap:Nat}(hg:p.2= .slice (some ⟨g,0,none⟩) n cap):
  n=rs.length/\ ∃xs:List Value,xs.length=rs.length*sz/\(∀j u,xs[j]? =some u->E.w.cell? ⟨g,j,none⟩=some u)/\(∀u∈xs,u.oneCell'=true)/\(∀r∈rs,r.length=sz)/\
   ∀(i:Nat) (r:J8) (j:Nat) (d:D),rs[i]? =some r->r[j]? =some d-> ∃u,xs[i*sz+j]? =some u/\V E os d u:=by
 obtain⟨xs,h1,h2,h3⟩:=h;have lt: ∀i j,i<rs.length->j<sz->i*sz+j<rs.length*sz:=λi j hi hj=>by
  exact NC
 rcases h1.2 with⟨h4,_⟩|⟨g',cap',cells,fr,h4,h5,h6,h7,h8,h9,h10⟩
 .rw[hg]at h4;cases h4
 .rw[hg]at h4;cases h4;refine⟨rfl,xs,h1.1,λj u hu=> ?_,λu hu=> ?_,h2,λi r j d hr hd=> ?_⟩
  .have hj:=(ZX hu).1;rw[h1.1]at hj;rw[<-h9,Kp,if_pos hj]at hu;simp[World.cell?,h5];simpa using hu
  .obtain⟨k,hk,rfl⟩:=ZXT hu;rw[h1.1]at hk;obtain⟨d1,d2,d3⟩:=Zie hk;have hr:rs[k/sz]? =some rs[k/sz]:=Zw d1;have hrl:(rs[k/sz]).length=sz:=h2 _ (YK d1);exact(h3 (k/sz) _ (k % sz) _ _ hr (Zw J0) (by rw[d3];exact Zw (by rw[h1.1];exact hk))).2
  .have hi:=(ZX hr).1;have hj:j<sz:=by rw[<-h2 r (JE hr)];exact(ZX hd).1
   have hx:i*sz+j<xs.length:=by rw[h1.1];exact lt i j hi hj
   exact⟨xs[i*sz+j],Zw hx,(h3 i r j d _ hr hd (Zw hx)).1⟩
theorem ZeI{e sz:Nat}{rs:List J8}{p:Nat×Value}(h:OK E os (.drw e sz rs) p){a:Option Addr}{n cap:Nat}(hp:p.2= .slice a n cap):n<=cap/\cap<=maxLen/\n=rs.length/\(∀r∈rs,r.length=sz)/\(a=none->n=0/\cap=0)/\(∀ad,a=some ad->ad=⟨ad.block,0,none⟩):=by
 obtain⟨xs,q1,q2,q3⟩:=h;rw[hp]at q1;rcases q1.2 with⟨hc,hn⟩|⟨g,cp,cells,fr,hc,hg,k1,k2,k3,k4,k5⟩
 all_goals simp_all
theorem ZL9(R:Rel c E os){id ext i off:Nat}{v:Value}(hv:V E os (.eptr id ext i off) v){e sz:Nat}{rs:List J8}(ho:os[id]? =some (.drw e sz rs))(he:rs.length=ext):
  i<ext/\ ∃(g cap:Nat) (p:Nat×Value),E.ob[id]? =some p/\p.2= .slice (some ⟨g,0,none⟩) ext cap/\v= .pointer (some ⟨g,i*sz+off,none⟩)/\OK E os (.drw e sz rs) p:=by
 cases hv with
 |eptr h _=>
  obtain⟨h1,h2⟩:=h.at' ho rfl;obtain⟨h3,b,g,cap,h4,h5⟩:=h2 he;obtain⟨p,hp,hok⟩:=R.at ho
  simp_all
theorem ZYL(R:Rel c E os){t n:Nat}{ag:Bool}(hs:Kn P t=some n)(ha:ZGF P t=some ag){S:FuncId->J8->J5}{φ:J4}{x:IO}{vx:Value}(hx:V E os (ZG φ x) vx){d:D}(h:ZT S φ os (.ld n ag x)=some (true,d)):
  ∃v,(Instr.loadAt t vx).run P E.w= .ok v E.w/\V E os d v:=by
 have two: ∀(ad:Addr) (xs:List Value),vx= .pointer (some ad)->(∀j u,xs[j]? =some u->E.w.cell? (ad.add j)=some u)->(ag=true->xs.length=n->(Instr.loadAt t vx).run P E.w= .ok (.agg xs.toArray) E.w)/\(∀u,ag=false->xs[0]? =some u->(Instr.loadAt t vx).run P E.w= .ok u E.w):=by
  intro ad xs hv hc;subst hv;refine⟨λh1 h2=> ?_,λu h1 h2=> ?_⟩
  .subst h1;simp[Instr.loadAt,Instr.sureAddr,ZPK hs ha ad xs hc h2]
  .subst h1;have:=hc 0 u h2;simp only[Addr.add,if_true]at this;simp[Instr.loadAt,Instr.sureAddr,ZNk ha ad u this]
 simp only[ZT]at h;split at h
 .rename_i id o hval;split at h
  .rename_i ds hbox;have hx':V E os (.ptr id o) vx:=by
    rw[<-hval];refine hx.strip ?_;grind
   cases hx' with
   |ptr hb0 hb=>
    rename_i b cu ds0;obtain⟨p,hp,hok⟩:=R.at hbox;rw[hp]at hb;cases hb;obtain⟨cs,ty,h1,h2,h3⟩:=hok;obtain⟨k1,k2⟩:=two _ ((cs.toList.drop o).take n) rfl (λj u hu=>by
     rw[JT];have hj:=(ZX hu).1;simp at hj;rw[Kp,if_pos J0,ZAZ]at hu;simp[World.cell?,h1];simpa using hu)
    split at h
    .rename_i hag;simp at h;obtain⟨⟨_,h4⟩,rfl⟩:=h;refine⟨_,k1 hag (by simp[h2];omega),.agg _ (by simp[h2]) (λv hv=> ?_) (λj d v hd hv=> ?_)⟩
     .have hv:=ZDD (ZCH hv);obtain⟨j,hj,rfl⟩:=ZKf.1 hv;simp at hj;exact(h3 j (ds[j]' J0) _ (Zw _) (by simp[hj])).2
     all_goals grind
    .rename_i hag;obtain⟨d',hd',h4⟩:=Zc h;simp at h4;obtain⟨_,rfl⟩:=h4;have ho:=(ZX hd').1;have hcs:cs[o]? =some cs[o]:=ξJ J0;by_cases hn:n=0
     .refine⟨cs[o],?_,(h3 o d' _ hd' hcs).1⟩;obtain⟨_,k2'⟩:=two _ [cs[o]] rfl (λj u hu=>by
       have hj:=(ZX hu).1;simp at hj;subst hj;simp at hu;subst hu;rw[JT];simp[World.cell?,h1,hcs])
      simp_all
     all_goals grind
  .cases h
 .rename_i id ext i off hval;split at h
  .rename_i ob hob;split at h
   .rename_i sz rs hsl;obtain⟨r,hr,h⟩:=Zg h;have hc:(ZG φ x).cond=true/\rs.length=ext:=by
     grind
    have hx':V E os (.eptr id ext i off) vx:=by rw[<-hval];exact hx.strip hc.1
    obtain⟨hi,g,xs,q1,q2,q3,q4,q5,q6⟩:=ZOo R hx' hob hsl hc.2;have hrl:=q5 r (JE hr);obtain⟨k1,k2⟩:=two _ ((xs.drop (i*sz+off)).take n) q1 (λj u hu=>by
     rw[JT];have hj:=(ZX hu).1;simp at hj;rw[Kp,if_pos J0,ZAZ]at hu;exact q3 _ u hu)
    have hlt: ∀j,j<sz->i*sz+j<xs.length:=λj hj=>by
     rw[q2];have:(i+1)*sz<=ext*sz:=Ky _ hi;exact VH
    split at h
    .rename_i hag;simp at h;obtain⟨⟨_,_,h4⟩,rfl⟩:=h;rw[hrl]at h4;have hle:n=0\/off+n<=sz:=Wm
     have hxl:((xs.drop (i*sz+off)).take n).length=n:=by
      simp;rcases hle with h0|h0
      .omega
      .have:=hlt (sz-1);omega
     refine⟨_,k1 hag hxl,.agg _ (by simp[hrl];simp at hxl;omega) (λv hv=> ?_) (λj d v hd hv=> ?_)⟩
     .grind
     .have hj:j<n:=Ns
      rw[Kp,if_pos hj,ZAZ,YI]at hd;obtain⟨y,hy,rfl⟩:=Zc hd;obtain⟨u,hu1,hu2⟩:=q6 i r _ y hr hy;simp[hj]at hv;rw[ZFe,hu1]at hv;cases hv;exact .x hu2
    .rename_i hag;obtain⟨d',hd',h4⟩:=Zc h;simp at h4;obtain⟨_,rfl⟩:=h4;obtain⟨u,hu1,hu2⟩:=q6 i r off d' hr hd';obtain⟨_,k2'⟩:=two _ [u] q1 (λj u' hu=>by
      have hj:=(ZX hu).1;simp at hj;subst hj;simp at hu;subst hu;rw[JT];exact q3 _ _ hu1)
     exact⟨u,k2' _ (by simpa using hag) J1,.x hu2⟩
   .split at h
    .rename_i sz rs hsl;obtain⟨e,rfl⟩:=Ob.dsl_drw hsl;obtain⟨r,hr,h⟩:=Zg h;have hc:(ZG φ x).cond=true/\rs.length=ext:=by
      grind
     have hx':V E os (.eptr id ext i off) vx:=by rw[<-hval];exact hx.strip hc.1
     obtain⟨hi,g,cap,p,hp,hg,q1,hok⟩:=ZL9 R hx' hob hc.2;obtain⟨hn,xs,q2,q3,q4,q5,q6⟩:=ZP7 hok hg;have hrl:=q5 r (JE hr);obtain⟨k1,k2⟩:=two _ ((xs.drop (i*sz+off)).take n) q1 (λj u hu=>by
      rw[JT];have hj:=(ZX hu).1;simp at hj;rw[Kp,if_pos J0,ZAZ]at hu;exact q3 _ u hu)
     have hlt: ∀j,j<sz->i*sz+j<xs.length:=λj hj=>by
      rw[q2];exact NF
     split at h
     .rename_i hag;simp at h;obtain⟨⟨_,_,h4⟩,rfl⟩:=h;rw[hrl]at h4;have hle:n=0\/off+n<=sz:=Wm
      have hxl:((xs.drop (i*sz+off)).take n).length=n:=by
       simp;rcases hle with h0|h0
       .omega
       .have:=hlt (sz-1);omega
      refine⟨_,k1 hag hxl,.agg _ (by simp[hrl];simp at hxl;omega) (λv hv=> ?_) (λj d v hd hv=> ?_)⟩
      .exact q4 v (ZDD (ZCH hv))
      .have hj:j<n:=Ns
       rw[Kp,if_pos hj,ZAZ]at hd;obtain⟨u,hu1,hu2⟩:=q6 i r _ d hr hd;simp[hj]at hv;rw[ZFe,hu1]at hv;cases hv;exact hu2
     .rename_i hag;obtain⟨d',hd',h4⟩:=Zc h;simp at h4;obtain⟨_,rfl⟩:=h4;obtain⟨u,hu1,hu2⟩:=q6 i r off d' hr hd';obtain⟨_,k2'⟩:=two _ [u] q1 (λj u' hu=>by
       have hj:=(ZX hu).1;simp at hj;subst hj;simp at hu;subst hu;rw[JT];exact q3 _ _ hu1)
      exact⟨u,k2' _ (by simpa using hag) J1,hu2⟩
    .cases h
  .cases h
 .rename_i cs hval;have hx':V E os (.vptr cs) vx:=by
   rw[<-hval];refine hx.strip ?_;grind
  cases hx' with
  |vptr b off val hc hv=>
   have hcell: ∀(m:Nat) (j:Nat) (u:Value),((List.range m).map val)[j]? =some u->m<=cs.length->E.w.cell? ((⟨b,off,none⟩:Addr).add j)=some u:=λm j u hu hm=>by
    have hj:=(ZX hu).1;simp at hj;rw[YI,ZMs hj]at hu;simp at hu;subst hu;rw[JT];exact(hc j cs[j] (Zw J0)).2
   split at h
   .rename_i hag;simp at h;obtain⟨⟨_,h4⟩,rfl⟩:=h;refine⟨_,(two _ ((List.range n).map val) rfl (λj u hu=>hcell n j u hu J0)).1 hag J1,.agg _ Wx (λv hv'=> ?_) (λj d v hd hv'=> ?_)⟩
    .obtain⟨j,hj,rfl⟩:=YS.1 hv';have hj:=ZFX.1 hj;exact(hv j cs[j] (Zw J0)).one
    .have hj:j<n:=Ns
     rw[Kp,if_pos hj,YI]at hd;obtain⟨y,hy,rfl⟩:=Zc hd;simp[hj]at hv';subst hv';exact .x (hv j y hy)
   .rename_i hag;obtain⟨d',hd',h4⟩:=Zc h;simp at h4;obtain⟨_,rfl⟩:=h4;have hl:=(ZX hd').1;exact⟨val 0,(two _ ((List.range 1).map val) rfl (λj u hu=>hcell 1 j u hu J0)).2 _ (by simpa using hag) (by simp[List.range_succ]),.x (hv 0 d' hd')⟩
 .cases h
end
section
variable {P:Program} {E:Env} {os:J7} {c:Ctx}
theorem V.ptr_some{id off:Nat}{v:Value}(h:V E os (.ptr id off) v): ∃ad,v= .pointer (some ad):=by cases h with|ptr _ h=>exact⟨_,rfl⟩
theorem V.eptr_some{id ext i off:Nat}{v:Value}(h:V E os (.eptr id ext i off) v): ∃ad,v= .pointer (some ad):=by cases h with|eptr h h1=>exact h1
theorem V.iref_some{mid id:Nat}{v:Value}(h:V E os (.iref mid id) v): ∃ad,v= .pointer (some ad):=by cases h with|iref _ _ h=>exact⟨_,rfl⟩
theorem V.vptr_some{cs:J9}{v:Value}(h:V E os (.vptr cs) v): ∃ad,v= .pointer (some ad):=by cases h with|vptr=>exact⟨_,rfl⟩
theorem ZPt{t:Nat}(ht:P.underlying t=some .bool)(a b:Bool)(w:World):(Op.equal t (.bool a) (.bool b)).run P w= .ok (a==b) w:=by
 have h: ∀d,(Op.equalIn (d+1) t (.bool a) (.bool b)).run P w= .ok (a==b) w:=λd=>V7
 exact h 9999
theorem ZDV{t e:Nat}(ht:P.underlying t=some (.pointer e))(b:Option Addr)(w:World):(Op.equal t (.pointer none) (.pointer b)).run P w= .ok b.isNone w:=by
 have h: ∀d,(Op.equalIn (d+1) t (.pointer none) (.pointer b)).run P w= .ok b.isNone w:=λd=>V7
 exact h 9999
theorem ZFB{t e:Nat}(ht:P.underlying t=some (.pointer e))(b:Addr)(w:World):(Op.equal t (.pointer (some b)) (.pointer none)).run P w= .ok false w:=by
 have h: ∀d,(Op.equalIn (d+1) t (.pointer (some b)) (.pointer none)).run P w= .ok false w:=λd=>V7
 exact h 9999
theorem ZIQ{t e:Nat}(ht:P.underlying t=some (.slice e))(n cp m cq:Nat)(b:Option Addr)(w:World):(Op.equal t (.slice none n cp) (.slice b m cq)).run P w= .ok b.isNone w:=by
 have h: ∀d,(Op.equalIn (d+1) t (.slice none n cp) (.slice b m cq)).run P w= .ok b.isNone w:=λd=>V7
 exact h 9999
theorem ZIW{t e:Nat}(ht:P.underlying t=some (.slice e))(n cp m cq:Nat)(b:Addr)(w:World):(Op.equal t (.slice (some b) n cp) (.slice none m cq)).run P w= .ok false w:=by
 have h: ∀d,(Op.equalIn (d+1) t (.slice (some b) n cp) (.slice none m cq)).run P w= .ok false w:=λd=>V7
 exact h 9999
theorem ZIg{t k e:Nat}(ht:P.underlying t=some (.map k e))(b:Option Nat)(w:World):(Op.equal t (.map none) (.map b)).run P w= .ok b.isNone w:=by
 have h: ∀d,(Op.equalIn (d+1) t (.map none) (.map b)).run P w= .ok b.isNone w:=λd=>V7
 exact h 9999
theorem ZPc{t k e:Nat}(ht:P.underlying t=some (.map k e))(b:Nat)(w:World):(Op.equal t (.map (some b)) (.map none)).run P w= .ok false w:=by
 have h: ∀d,(Op.equalIn (d+1) t (.map (some b)) (.map none)).run P w= .ok false w:=λd=>V7
 exact h 9999
theorem V.mnil_inv{v:Value}(h:V E os .mnil v):v= .map none:=by cases h with|mnil=>rfl
theorem V.mref_some{id:Nat}{v:Value}(h:V E os (.mref id) v): ∃b,v= .map (some b):=by cases h with|mref _ _ h=>exact⟨_,rfl⟩
def EqK.ok(P:Program)(t:Nat):EqK->Prop
 | .map=> ∃k e,P.underlying t=some (.map k e)
 | .bool=>P.underlying t=some .bool
 | .ptr=> ∃e,P.underlying t=some (.pointer e)
 | .sl=> ∃e,P.underlying t=some (.slice e)
 | .st fs=>ZTB P t=some fs
theorem ZHc{t:Nat}(ht:(∃k,P.underlying t=some (.int k))\/P.underlying t=some .string\/P.underlying t=some .bool){xs:Array Value}{o:Nat}{v:Value}(hv:xs[o]? =some v)(w:World):(part t xs o).run P w= .ok v w:=by
 rcases ht with⟨k,ht⟩|ht|ht<;>simp[part,isAgg,run_underlying ht,hv]
theorem ZTv{xs ys:Array Value}{ds es:J8}(hx:V E os (.agg ds) (.agg xs))(hy:V E os (.agg es) (.agg ys))(w:World): ∀(fs:List Field) (l:List (Nat×FK)) (b:Bool),stF P fs=some l->ZAC l ds es=some b->(Op.eqFields 9999 xs ys fs).run P w= .ok b w
 | [],l,b,h,hb=>by cases h;cases hb;simp[Op.eqFields]
 |f::fs,l,b,h,hb=>by
  simp only[stF]at h;split at h
  .cases h
  .rename_i hn;have main: ∀(k:FK) (l':List (Nat×FK)),stF P fs=some l'->l=(f.offset,k)::l'->((∃k,P.underlying f.type=some (.int k))\/P.underlying f.type=some .string\/P.underlying f.type=some .bool)->
     (∀a b r,eqX k a b=some r-> ∀u v,VX E.w E.st a u->VX E.w E.st b v->(Op.equalIn 9999 f.type u v).run P w= .ok r w)->(Op.eqFields 9999 xs ys (f::fs)).run P w= .ok b w:=by
    intro k l' hl' hl ht hk;subst hl;simp only[ZAC]at hb;split at hb
    .rename_i p q hp hq;obtain⟨r,hr,hb⟩:=Zg hb;obtain⟨q',hq',rfl⟩:=Zc hb;cases hx with
     |agg _ hxl hx1 hxv=>
      cases hy with
      |agg _ hyl hy1 hyv=>
       have hu:xs[f.offset]? =some (xs[f.offset]'(by rw[<-hxl];exact(ZX hp).1)):=ξJ _;have hv:ys[f.offset]? =some (ys[f.offset]'(by rw[<-hyl];exact(ZX hq).1)):=ξJ _;have e:=hk p q r hr _ _ (hxv _ _ _ hp hu).xx (hyv _ _ _ hq hv).xx;have ih:=ZTv (.agg xs hxl hx1 hxv) (.agg ys hyl hy1 hyv) w fs l' q' hl' hq';simp only[Op.eqFields,ne_eq,hn,not_false_eq_true,if_true,Sem.run_bind,ZHc ht hu,ZHc ht hv,Result.andThen_ok,e];cases r
       .simp
       .simpa using ih
    .cases hb
   split at h
   .rename_i k hk;obtain⟨l',h1,h2⟩:=Zc h;refine main (.int k) l' h1 h2.symm (.inl ⟨k,hk⟩) (λa b r hr u v hu hv=> ?_);unfold eqX at hr;split at hr<;>(try cases hr)
    .rename_i e1;split at hr
     .rename_i hkk;cases hr;obtain⟨rfl,rfl⟩:=hkk;cases e1;cases hu;cases hv;exact run_equalIn_int w 9998 f.type _ _ _ _ hk
     .cases hr
    all_goals(rename_i e1;cases e1)
   .rename_i hk;obtain⟨l',h1,h2⟩:=Zc h;refine main .str l' h1 h2.symm (.inr (.inl hk)) (λa b r hr u v hu hv=> ?_);unfold eqX at hr;split at hr<;>(try cases hr)
    .exact XT
    .rename_i s1 t1 e1;cases hu;cases hv;have:=run_equalIn_string w 9998 f.type (ZV s1) (ZV t1) hk;rw[KC,KC]at this;exact this
    .exact XT
   .rename_i hk;obtain⟨l',h1,h2⟩:=Zc h;refine main .bool l' h1 h2.symm (.inr (.inr hk)) (λa b r hr u v hu hv=> ?_);unfold eqX at hr;split at hr<;>(try cases hr)
    .exact XT
    .exact XT
    .cases hu;cases hv;exact run_equalIn_bool' w 9998 f.type _ _ hk
   .cases h
theorem Zi2{e:Nat}(he:P.underlying e=some .string): ∀a b r,eqX .str a b=some r-> ∀u v (w:World),VX E.w E.st a u->VX E.w E.st b v->(Op.equalIn 9999 e u v).run P w= .ok r w:=by
 intro a b r hr u v w hu hv;unfold eqX at hr;split at hr<;>(try cases hr)
 .exact XT
 .rename_i s1 t1 e1;cases hu;cases hv;have:=run_equalIn_string w 9998 e (ZV s1) (ZV t1) he;rw[KC,KC]at this;exact this
 .exact XT
theorem ZQd{e:Nat}(he:P.underlying e=some .string){xs ys:Array Value}{ds es:J8}(hx:V E os (.agg ds) (.agg xs))(hy:V E os (.agg es) (.agg ys))(w:World): ∀(l:W0) (b:Bool),ZAC (l.map λi=>(i,FK.str)) ds es=some b->(Op.eqItems 9999 e 1 xs ys l).run P w= .ok b w
 | [],b,hb=>by cases hb;simp[Op.eqItems]
 |i::l,b,hb=>by
  simp only[YO,ZAC]at hb;split at hb
  .rename_i p q hp hq;obtain⟨r,hr,hb⟩:=Zg hb;obtain⟨q',hq',rfl⟩:=Zc hb;cases hx with
   |agg _ hxl hx1 hxv=>
    cases hy with
    |agg _ hyl hy1 hyv=>
     have hu:xs[i]? =some (xs[i]'(by rw[<-hxl];exact(ZX hp).1)):=ξJ _;have hv:ys[i]? =some (ys[i]'(by rw[<-hyl];exact(ZX hq).1)):=ξJ _;have e1:=Zi2 he p q r hr _ _ w (hxv _ _ _ hp hu).xx (hyv _ _ _ hq hv).xx;have ih:=ZQd he (.agg xs hxl hx1 hxv) (.agg ys hyl hy1 hyv) w l q' hq';simp only[Op.eqItems,Ql,Sem.run_bind,ZHc (.inr (.inl he)) hu,ZHc (.inr (.inl he)) hv,Result.andThen_ok,e1];cases r
     .simp
     .simpa using ih
  .cases hb
theorem Zhx{k:EqK}{t:Nat}(ht:k.ok P t){x y:D}{vx vy:Value}(hx:V E os x vx)(hy:V E os y vy){b:Bool}(h:eqD k x y=some b)(neg:Bool)(ox oy:Operand)(w:World):
  (do eqGuard (if neg then .neq else .eql) t ox oy vx vy;binOp (if neg then .neq else .eql) t vx vy:Sem Value).run P w= .ok (.bool (b !=neg)) w:=by
 have fin: ∀ {b:Bool},(Op.equal t vx vy).run P w= .ok b w->(∀op,eqGuard op t ox oy vx vy=pure ())->(binOp .eql t vx vy=do pure (.bool (<-Op.equal t vx vy)))->(binOp .neq t vx vy=do pure (.bool (!(<-Op.equal t vx vy))))->
   (do eqGuard (if neg then .neq else .eql) t ox oy vx vy;binOp (if neg then .neq else .eql) t vx vy:Sem Value).run P w= .ok (.bool (b !=neg)) w:=by
  intro b hr hg h1 h2;cases neg
  .simp[hg,h1,hr]
  .simp[hg,h2,hr]
 unfold eqD at h;split at h<;>(try cases h)
 .obtain rfl:=V.bool hx;obtain rfl:=V.bool hy;exact fin (ZPt ht _ _ w) (λop=>WY) rfl rfl
 .obtain⟨e,ht⟩:=ht;obtain rfl:=V.nilp hx;obtain rfl:=V.nilp hy;exact fin (ZDV ht _ w) (λop=>WY) rfl rfl
 .obtain⟨e,ht⟩:=ht;obtain⟨ad,rfl⟩:=V.ptr_some hy;exact TP
 .obtain⟨e,ht⟩:=ht;obtain⟨ad,rfl⟩:=V.ptr_some hx;exact TN
 .obtain⟨e,ht⟩:=ht;obtain⟨ad,rfl⟩:=V.vptr_some hy;exact TP
 .obtain⟨e,ht⟩:=ht;obtain⟨ad,rfl⟩:=V.vptr_some hx;exact TN
 .obtain⟨e,ht⟩:=ht;obtain⟨ad,rfl⟩:=V.iref_some hy;exact TP
 .obtain⟨e,ht⟩:=ht;obtain⟨ad,rfl⟩:=V.iref_some hx;exact TN
 .obtain⟨e,ht⟩:=ht;obtain rfl:=V.nils hx;obtain rfl:=V.nils hy;exact fin (ZIQ ht _ _ _ _ _ w) (λop=>WY) rfl rfl
 .obtain⟨k,e,ht⟩:=ht;obtain rfl:=hx.mnil_inv;obtain rfl:=hy.mnil_inv;exact fin (ZIg ht _ w) (λop=>WY) rfl rfl
 .obtain⟨k,e,ht⟩:=ht;obtain⟨b,rfl⟩:=hx.mref_some;obtain rfl:=hy.mnil_inv;exact fin (ZPc ht _ w) (λop=>WY) rfl rfl
 .obtain⟨k,e,ht⟩:=ht;obtain rfl:=hx.mnil_inv;obtain⟨b,rfl⟩:=hy.mref_some;exact fin (ZIg ht _ w) (λop=>WY) rfl rfl
 .obtain⟨e,ht⟩:=ht;have h1:=hx.xx;cases h1 with
  |sl _ a n cp sz0 val hn hc hm hsz hcell hnil hsp hval=>
   cases a with
   |none=>have:=(hnil rfl).1;simp at hn;omega
   |some ad=>obtain rfl:=V.nils hy;exact fin (ZIW ht _ _ _ _ _ w) (λop=>WY) rfl rfl
 .obtain⟨e,ht⟩:=ht;have h1:=hy.xx;cases h1 with
  |sl _ a n cp sz0 val hn hc hm hsz hcell hnil hsp hval=>
   cases a with
   |none=>have:=(hnil rfl).1;simp at hn;omega
   |some ad=>obtain rfl:=V.nils hx;exact fin (ZIQ ht _ _ _ _ _ w) (λop=>WY) rfl rfl
 .rename_i fs ds es;have ht':ZTB P t=some fs:=ht;unfold ZTB at ht';split at ht'
  .rename_i ff hu;split at ht'
   .cases ht'
   .rename_i hg;simp only[ZBc,not_or,ZKJ]at hg;have hff:P.fieldsOf t=ff:=by simp[Program.fieldsOf,hu]
    cases hx with
    |agg xs hxl hx1 hxv=>
     cases hy with
     |agg ys hyl hy1 hyv=>
      have he:=ZTv (P:=P) (.agg xs hxl hx1 hxv) (.agg ys hyl hy1 hyv) w ff.toList fs b ht' h;rw[<-hff]at he;rw[<-run_equalIn_struct w 9999 t xs ys (by rw[hff];exact hu) hg.1]at he;cases neg
      .exact TM
      .exact TS
  .rename_i n' e' hu;split at ht'
   .rename_i hs;split at ht'
    .cases ht'
    .rename_i hg;simp only[ZBc,not_or,ZKJ,Yl,ne_eq,ZH3]at hg;cases ht';cases hx with
     |agg xs hxl hx1 hxv=>
      cases hy with
      |agg ys hyl hy1 hyv=>
       obtain⟨i',hi⟩:=info_of_underlying hs;have he:=ZQd (P:=P) hs (.agg xs hxl hx1 hxv) (.agg ys hyl hy1 hyv) w (List.range n') b h;rw[<-hg.1,<-run_equalIn_array w 9999 xs ys hu hi]at he;cases neg
       .exact TM
       .exact TS
   .cases ht'
  .cases ht'
theorem Zig{x:D}{vx:Value}(hx:V E os x vx)(h:nzD os x=some true): ∃ad n cp,vx= .slice (some ad) n cp:=by
 unfold nzD at h;split at h
 .rename_i id ext off len;simp only[Yu,Zj,Yl]at h;obtain⟨h1,h2⟩:=h;cases hx with
  |ref hr h3=>
   simp only[KS]at h1;cases ho:os[id]? with
   |none=>simp[ho]at h1
   |some o=>
    cases hs:o.slice? with
    |none=>
     simp only[ho,hs]at h1;cases hd:o.dsl? with
     |none=>simp[hd]at h1
     |some p=>
      simp only[hd,Yl]at h1;obtain⟨k1,b,a,cap,a',cap',_,rfl,k5,_,_,_,k9,_⟩:=(hr.at' ho (Ob.dsl_sl hd)).2 h1;cases a' with
      |some ad=>exact⟨ad,_,_,rfl⟩
      |none=>have:=(k9 rfl).1;omega
    |some p=>
     simp only[ho,hs,Yl]at h1;obtain⟨k1,b,a,cap,a',cap',_,rfl,k5,_,_,_,k9,_⟩:=(hr.at ho hs).2 h1;cases a' with
     |some ad=>exact⟨ad,_,_,rfl⟩
     |none=>have:=(k9 rfl).1;omega
 .simp only[Yu,Yl]at h;have h1:=hx.xx;cases h1 with
  |sl _ a n cp sz0 val hn hc hm hsz hcell hnil hsp hval=>
   cases a with
   |some ad=>exact⟨ad,_,_,rfl⟩
   |none=>have:=(hnil rfl).1;omega
 .simp only[Yu,Yl]at h;cases hx with
  |full n hv=>
   cases hv with
   |sl _ _ _ _ sz0 val hn hc hm hsz hcell hnil hsp hval=>
    rename_i a;cases a with
    |some ad=>exact⟨ad,_,_,rfl⟩
    |none=>have:=(hnil rfl).1;omega
 .cases hx with
  |nz hv=>exact⟨_,_,_,rfl⟩
 .cases h
theorem Zec{k:EqK}{t:Nat}(ht:k.ok P t){x y:D}{vx vy:Value}(hx:V E os x vx)(hy:V E os y vy){b:Bool}(h:eqR os k x y=some (true,b))(neg:Bool)(ox oy:Operand)(w:World):
  (do eqGuard (if neg then .neq else .eql) t ox oy vx vy;binOp (if neg then .neq else .eql) t vx vy:Sem Value).run P w= .ok (.bool (b !=neg)) w:=by
 unfold eqR at h;split at h
 .rename_i r hr;simp at h;subst h;exact Zhx ht hx hy hr neg ox oy w
 .split at h
  .obtain⟨b',h1,h2⟩:=Zc h;simp at h2;obtain⟨rfl,rfl⟩:=h2;obtain⟨ad,n,cp,rfl⟩:=Zig hx h1;obtain rfl:=V.nils hy;obtain⟨e,ht⟩:=ht;have hg: ∀op,eqGuard op t ox oy (.slice (some ad) n cp) (.slice none 0 0)=pure ():=λop=>WY
   have h2:=ZIW ht n cp 0 0 ad w;have h3:binOp .eql t (.slice (some ad) n cp) (.slice none 0 0)=(do pure (.bool (<-Op.equal t (.slice (some ad) n cp) (.slice none 0 0)))):=rfl;have h4:binOp .neq t (.slice (some ad) n cp) (.slice none 0 0)=(do pure (.bool (!(<-Op.equal t (.slice (some ad) n cp) (.slice none 0 0))))):=rfl;cases neg
   .simp[hg,h3,h2]
   .simp[hg,h4,h2]
  .cases h
theorem Zhy{op:UnOp}{x d:D}{vx:Value}(hx:V E os x vx)(h:unD op x=some d)(w:World): ∃v,(Op.unary op vx).run P w= .ok v w/\V E os d v:=by
 unfold unD at h;split at h
 .rw[V.bool hx];split at h<;>cases h
  exact⟨_,by simp[Op.unary],V.mkbool _ _ _⟩
 .rename_i k n;rw[V.int hx];split at h
  .cases h;exact⟨_,by simp[Op.unary,Op.intArith],V.mkint _ _ _ _⟩
  .obtain⟨m,h1,rfl⟩:=Zc h;refine⟨_,?_,V.mkint _ _ _ _⟩;rw[<-ZR2 (P:=P) h1 w];simp[Op.unary]
  .cases h
 .cases h
theorem Zga{k k':IntKind}{s d:Nat}(hs: ∃j,P.underlying s=some (.int j))(hd:P.underlying d=some (.int k))(n:Int)(w:World):(convert s d (.int k' n)).run P w= .ok (.int k (k.wrap n)) w:=by
 obtain⟨j,hs⟩:=hs;simp[convert,run_underlying hs,run_underlying hd,Conv.intToInt]
theorem ZgJ(R:Rel c E os){s d e:Nat}(hs:P.underlying s=some (.slice e))(he:P.underlying e=some (.int .u8))(hd:P.underlying d=some .string){x:D}{vx:Value}(hx:V E os x vx){rs:J6}(hr:Zx os x=some rs)(hb:rs.all ZGE=true):
  (convert s d vx).run P E.w= .ok (.string (ZV (rs.map ZFS))) E.w:=by
 have hz: ∀r∈rs,r.length=1:=λr h=>by
  have:=Yg.1 hb r h;unfold ZGE at this;split at this
  .rfl
  .cases this
 obtain⟨a,cp,xs,rfl,h1,h2,h3,h4,h5,h6,h7⟩:=ZBS R hx hr hz;rw[run_convert_bytes_string _ s d e _ _ _ hs he hd];cases a with
 |none=>
  have:rs= []:=ξS (h4 rfl);subst this;rfl
 |some ad=>
  let num:J9->Int:=λr=>match r with| .int .u8 n::_=>n|_=>0
  have hxs:xs=(rs.map num).map (Value.int .u8):=by
   apply ZBg;intro i;rw[Jv,YI];by_cases hi:i<rs.length
   .have hm:rs[i]∈rs:=YK _;have hbi:=Yg.1 hb _ hm;rw[Zw hi];generalize hri:rs[i]=r at*;unfold ZGE at hbi;split at hbi
    .rename_i n;obtain⟨u,k1,k2⟩:=h7 i _ 0 _ (by rw[Zw hi,hri]) rfl;cases k2;rw[Ql,KB]at k1;rw[k1];rfl
    .cases hbi
   .rw[ξV (by rw[h3];omega),ξV J0];rfl
  have hl:=run_loadCells_list (P:=P) (w:=E.w) ad xs (h5 ad rfl);rw[h3,Ql,hxs]at hl;rw[run_bytesToString E.w ad _ cp (rs.map num) hl,ZXB];congr 2;unfold ZV;congr 2;simp only[ByteArray.data_empty,Array.toList_empty,QY,Jv];refine ZBz λr hr=> ?_
  have hbi:=Yg.1 hb _ hr;unfold ZGE at hbi;split at hbi
  .rfl
  .cases hbi
theorem Zfz{t f n off:Nat}{ag:Bool}{fs:Array Field}{fd:Field}(ht:P.underlying t=some (.struct fs))(hf:fs[f]? =some fd)(ho:fd.offset=off)(hn:Kn P fd.type=some n)(hag:ZGF P fd.type=some ag){ds:J8}{vx:Value}(hx:V E os (.agg ds) vx)(w:World){d:D}
  (h:(if ag then some (D.agg ((ds.drop off).take n))else ds[off]?)=some d): ∃v,(Instr.field t vx f).run P w= .ok v w/\V E os d v:=by
 cases hx with
 |agg vs hl h1 hv=>
  have hx:V E os (.agg ds) (.agg vs):= .agg vs hl h1 hv;cases ag
  .simp at h;have hlt:=(ZX h).1;have hvs:vs[off]? =some vs[off]:=ξJ J0;exact⟨vs[off],by simp[Instr.field,run_underlying ht,hf,asAgg,part,ZIq hag,ho,hvs],hv off d _ h hvs⟩
  .simp at h;subst h;exact⟨_,by simp[Instr.field,run_underlying ht,hf,asAgg,part,ZIq hag,Kt hn,ho],hx.agg_part off n⟩
theorem ZeM{t f n off:Nat}{fs:Array Field}{fd:Field}(ht:P.underlying t=some (.struct fs))(hf:fs[f]? =some fd)(ho:fd.offset=off)(hn:Kn P fd.type=some n)(h0:n≠0)(ad:Addr)(w:World):
  (Instr.fieldAt t (.pointer (some ad)) f).run P w= .ok (.pointer (some (ad.add off))) w:=by
 simp[Instr.fieldAt,run_underlying ht,hf,Instr.sureAddr,fieldPlace,Kt hn,h0,ho]
theorem ZLb{t e sz:Nat}(ht:P.underlying t=some (.slice e))(hs:Kn P e=some sz)(ad:Addr)(n cp:Nat)(k:IntKind)(i:Int)(h0:0<=i)(h1:i<n)(w:World):
  (Instr.indexAt t (.slice (some ad) n cp) (.int k i)).run P w= .ok (.pointer (some (ad.add (i.toNat*sz)))) w:=by
 simp[Instr.indexAt,asIntOf,run_underlying ht,Kt hs,h0,h1]
theorem ZM6{t e sz m:Nat}(ht:P.underlying t=some (.array m e))(hs:Kn P e=some sz)(ad:Addr)(k:IntKind)(i:Int)(h0:0<=i)(h1:i<m)(w:World):
  (Instr.indexAt t (.pointer (some ad)) (.int k i)).run P w= .ok (.pointer (some (ad.add (i.toNat*sz)))) w:=by
 simp[Instr.indexAt,asIntOf,run_underlying ht,Kt hs,h0,h1,Instr.sureAddr]
theorem ZgV{t:Nat}(ht:P.underlying t=some .string)(s:List UInt8)(k:IntKind)(i:Int)(h0:0<=i)(h1:i<s.length)(w:World):
  (Instr.index t (.string (ZV s)) (.int k i)).run P w= .ok (.int .u8 (s.getD i.toNat 0).toNat) w:=by
 rw[ZSg w t k (ZV s) i ht h0 (by rw[ZAO];exact h1)];simp[bt,ZV]
theorem ZbC{t e sz m:Nat}{ag:Bool}(ht:P.underlying t=some (.array m e))(hs:Kn P e=some sz)(hag:ZGF P e=some ag){ds:J8}{vx:Value}(hx:V E os (.agg ds) vx)(k:IntKind)(i:Int)(h0:0<=i)(h1:i<m)(w:World){d:D}
  (h:(if ag then some (D.agg ((ds.drop (i.toNat*sz)).take sz))else ds[i.toNat*sz]?)=some d): ∃v,(Instr.index t vx (.int k i)).run P w= .ok v w/\V E os d v:=by
 cases hx with
 |agg vs hl h1' hv=>
  have hx:V E os (.agg ds) (.agg vs):= .agg vs hl h1' hv;cases ag
  .simp at h;have hlt:=(ZX h).1;have hvs:vs[i.toNat*sz]? =some vs[i.toNat*sz]:=ξJ J0;exact⟨vs[i.toNat*sz],by simp[Instr.index,asIntOf,run_underlying ht,h0,h1,part,ZIq hag,Kt hs,hvs],hv _ d _ h hvs⟩
  .simp at h;subst h;exact⟨_,by simp[Instr.index,asIntOf,run_underlying ht,h0,h1,part,ZIq hag,Kt hs],hx.agg_part _ _⟩
theorem ZVf{t:Nat}(mx:Bool)(k k':IntKind)(a b:Int)(ts:Array Nat)(w:World):
  (if mx then Builtin.max_ ts t #[.int k a,.int k' b]else Builtin.min_ ts t #[.int k a,.int k' b]).run P w= .ok (.int k (if mx then(if b>a then b else a)else(if b<a then b else a))) w:=by
 cases mx<;>simp[Builtin.max_,Builtin.min_,Builtin.max2,Builtin.min2]
end
end Go.Ab
end
