import Derived.Test.YtpjfdjcejamebaaGreatDoorRows
import Derived.Test.YtpjfdjcejamebaaGreatDoorCards
import Derived.Test.YtpjfdjcejamebaaGreatDoorTie
import Derived.WalkKit
import Derived.Test.YtpjfdjcejamebaaGreatDoorMA4
import Derived.ProofKit
import Derived.Deep.DeepHandedRow
import Derived.OpenShut
import Derived.ShutString
import Derived.ChangeOld
import Derived.Below
import Derived.Lay
import Derived.LaidOnce
import Derived.SevenTiedAt
import Derived.PinnedBridge
import Derived.Lib.LaidTab
set_option linter.unusedSimpArgs false
set_option linter.unusedVariables false
namespace Go.Proofs.YtpjfdjcejamebaaGreatDoor.schemaNewUpto
open Go.ChangeShapes Go.WideShapes Go.ChangeAt Go.RowKit Go.Bo Go.Ab Go.Proofs.YtpjfdjcejamebaaGreatDoor
open Go.ChangeMaps (open_string shut_string)
def laid:List (String×DataW Unit):= [("unicode/utf8.acceptRanges",Rows.laid_unicode_utf8_acceptRanges),("unicode/utf8.first",Rows.laid_unicode_utf8_first)]
theorem own:ownKnob Tryz.prog.godebug=none:=by kernel_rfl
theorem laidOut:laidOutB Tryz.prog=true:=by kernel_rfl
mutual
def Xbd (B:Nat):X→Prop
 | .sl rs=>ZJX B rs
 | .str s=>s.length≤B
 | .int _ _=>True
 | .bool _=>True
 | .nilp=>True
 | .nils=>True
def ZJX (B:Nat):List (List X)→Prop
 | []=>True
 |r::l=>ZE2 B r∧ZJX B l
def ZE2 (B:Nat):List X→Prop
 | []=>True
 |x::l=>Xbd B x∧ZE2 B l
end
theorem ZG0 {B:Nat}: ∀ {l:List X},ZE2 B l↔ ∀x∈l,Xbd B x
 | []=>by simp[ZE2]
 |x::l=>by simp[ZE2,ZG0 (l:=l)]
theorem ZGK {B:Nat}: ∀ {rs:List (List X)},ZJX B rs↔ ∀r∈rs,ZE2 B r
 | []=>by simp[ZJX]
 |r::l=>by simp[ZJX,ZGK (rs:=l)]
theorem ZLX {H:Type} {d:DataW H} {l:List (DataW H)} (h:d∈l):Rows.uptoBulk d≤Rows.uptoBulkAll l:=by
 induction l with
 |nil=>cases h
 |cons x r ih=>
  simp only[Rows.uptoBulkAll];cases List.mem_cons.1 h with
  |inl e=>subst e;omega
  |inr e=>have:=ih e;omega
def ObD (P:Program) (T:TypeId) {α:Type} (c:RC α):Prop:=
 P.cellsOf T=c.n∧ ∀ {H:Type} (enc:TypeId×Value→H) (w:World) (fuel:Nat) (cs:List Value) (x:DataW H×List MemPlace),DataW.trod enc P w 0 (fun _=>true) true fuel T cs=some x→ ∀y B,Je w (c.enc y) cs→Rows.uptoBulk x.1≤B→ZE2 B (c.enc y)
section
variable {P:Program} {T:TypeId}
theorem Zfv {k:IntKind} (hc:P.cellsOf T=1):ObD P T (Qu k):=⟨hc,fun _ _ _ _ _ _ _ _ _ _=>⟨trivial,trivial⟩⟩
theorem Zfa (hc:P.cellsOf T=1):ObD P T ZDP:=⟨hc,fun _ _ _ _ _ _ _ _ _ _=>⟨trivial,trivial⟩⟩
theorem ZLM (hT:P.underlying T=some .string) (hc:P.cellsOf T=1):ObD P T ZI:=by
 refine⟨hc,fun {H} enc w fuel cs x h y B hl hb=> ?_⟩;obtain⟨s,rfl,h2,_⟩:=DataW.trod_string hT h;have hv:=hl.2 0 (.str y) (.string s) rfl rfl;cases hv;refine⟨?_,trivial⟩;have e2:(Zc y).data.toList=y:=by simp[Zc]
 show y.length≤B;rw[h2]at hb;simp only[Rows.uptoBulk,e2]at hb;omega
theorem ZOf {α:Type} {c:RC α} {e:TypeId} (hG:c.Good) (hT:P.underlying T=some (.slice e)) (hc:P.cellsOf T=1) (he:ObD P e c):ObD P T (Qi c):=by
 refine⟨hc,fun {H} enc w fuel cs x h y B hl hb=> ?_⟩;rcases DataW.trod_slice hT h with⟨rfl,_⟩|⟨a,len,cap,elems,rest,n,hfuel,rfl,hx2,_,hll,hm,hlen,hel,hsp,_⟩
 ·have hv:=hl.2 0 (.sl (rows c y)) _ rfl rfl;cases hv with
  |sl _ _ _ _ sz val hn _ _ _ _ _ _ _=>
   rw[YE]at hn;obtain rfl:=List.eq_nil_of_length_eq_zero hn;exact⟨trivial,trivial⟩
 ·have hv:=hl.2 0 (.sl (rows c y)) _ rfl rfl;cases hv with
  |sl _ _ _ _ sz val hn _ _ hsz hcell _ _ hval=>
   rw[YE]at hn;refine⟨ZGK.2 (fun r hr=> ?_),trivial⟩;obtain⟨i,hi,rfl⟩:=List.mem_iff_getElem.1 hr;have hil:i<len:=by rw[YE]at hi;omega
   have hri:=YC hi;have hr2:=hri;have hyi:(rows c y)[i]=c.enc (y[i]'(by rw[YE]at hi;exact hi)):=by simp[rows]
   rw[hyi];have hszc:sz=c.n:=by rw[←hsz _ hr,hyi,hG.len]
   have h1:=hel i hil;rw[YC (by omega)]at h1;obtain⟨cs',h2,h3⟩:=Zp h1;obtain⟨_,hcl,hcc⟩:=World.cells?_some h2;rw[he.1]at hcl hcc;refine he.2 enc w n cs' _ h3 _ B ⟨by rw[hcl,hG.len],fun j x v hx hv=> ?_⟩ ?_
   ·have hj:j<c.n:=by rw[←hcl];exact(Zf hv).1
    have h4:=hval i j _ x hri (by rw[hyi];exact hx);obtain⟨b,off,ha,_,h5⟩:=hcell i j hil (by omega);cases ha;have h6:=hcc j hj;have h7:(Addr.add ⟨b,off,none⟩ (i*c.n)).add j=(⟨b,off+i*sz+j,none⟩:Addr):=by
     rw[hszc];unfold Addr.add;by_cases h4:i*c.n=0<;>by_cases h5:j=0<;>simp[h4,h5,Nat.add_assoc]
    rw[h7,h5,hv]at h6;rw[←Option.some.inj h6];exact h4
   ·refine Nat.le_trans ?_ hb;rw[hx2];have:=ZLX (H:=H) (d:=(elems[i]'(by omega)).1) (l:=elems.map (·.1)) (List.mem_map.2 ⟨_,List.getElem_mem _,rfl⟩);simp only[Rows.uptoBulk];omega
theorem ZY2 {w:World} {xs ys:List X} {cs:List Value} (h:Je w (xs++ys) cs):Je w xs (cs.take xs.length)∧Je w ys (cs.drop xs.length):=by
 have hl:=h.1;rw[Zr]at hl;refine⟨⟨by rw[List.length_take];omega,fun j x v hx hv=> ?_⟩,⟨by rw[List.length_drop];omega,fun j x v hx hv=> ?_⟩⟩
 ·have hj:=(Zf hx).1;rw[List.getElem?_take,if_pos hj]at hv;exact h.2 j x v (by rw[Yr hj];exact hx) hv
 ·rw[List.getElem?_drop]at hv;exact h.2 (xs.length+j) x v (by rw[List.getElem?_append_right (by omega),Nat.add_sub_cancel_left];exact hx) hv
inductive FieldsB (P:Program):List Field→Nat→ {α:Type}→RC α→Prop
 |nil (off:Nat):FieldsB P [] off Kw
 |cons {f:Field} {fs:List Field} {off:Nat} {α β:Type} {c:RC α} {d:RC β} (ho:f.offset=off) (hG:c.Good) (hE:ObD P f.type c) (hF:FieldsB P fs (off+c.n) d):FieldsB P (f::fs) off (YZ c d)
theorem ZNu {fs:List Field} {off:Nat} {α:Type} {c:RC α} (hf:FieldsB P fs off c) {H:Type} (enc:TypeId×Value→H) (w:World) (fuel:Nat) (cs:List Value) (B:Nat)
  (h: ∀f∈fs,∃x,DataW.trod enc P w 0 (fun _=>true) true fuel f.type ((cs.drop f.offset).take (P.cellsOf f.type))=some x∧Rows.uptoBulk x.1≤B):
  ∀y,Je w (c.enc y) ((cs.drop off).take c.n)→ZE2 B (c.enc y):=by
 induction hf with
 |nil off=>exact fun _ _=>trivial
 | @cons f fs off α β c d ho hG hE hF ih=>
  intro y hy;obtain⟨h1,h2⟩:=ZY2 (xs:=c.enc y.1) (ys:=d.enc y.2) hy;rw[hG.len]at h1 h2;obtain⟨x,hx,hb⟩:=h f List.mem_cons_self;rw[hE.1,ho]at hx;have h3:=hE.2 enc w fuel _ _ hx y.1 B (by rw[List.take_take]at h1;rw[show min c.n (YZ c d).n=c.n from Nat.min_eq_left (Nat.le_add_right _ _)]at h1;exact h1) hb;have h4:=ih (fun g hg=>h g (List.mem_cons_of_mem _ hg)) y.2 (by
   rw[List.drop_take,List.drop_drop,show(YZ c d).n-c.n=d.n from Nat.add_sub_cancel_left ..]at h2;exact h2)
  show ZE2 B (c.enc y.1++d.enc y.2);exact ZG0.2 (fun x hx=>by
   rcases List.mem_append.1 hx with hx|hx
   ·exact ZG0.1 h3 x hx
   ·exact ZG0.1 h4 x hx)
theorem ZTo {α:Type} {c:RC α} {fs:Array Field} (hT:P.underlying T=some (.struct fs)) (hc:P.cellsOf T=c.n) (hf:FieldsB P fs.toList 0 c):ObD P T c:=by
 refine⟨hc,fun {H} enc w fuel cs x h y B hl hb=> ?_⟩;obtain⟨xs,n,rfl,hx2,hcl,hxl,hx⟩:=DataW.trod_struct hT h;refine ZNu hf enc w n cs B (fun f hf=> ?_) y (by rw[List.drop_zero,YL (by omega)];exact hl);obtain⟨i,hi⟩:=List.mem_iff_getElem?.1 hf;have hi':fs[i]? =some f:=by simpa using hi
 have h1:=hx i f hi';have hlt:i<xs.length:=by rw[hxl];exact(Ql hi').1
 rw[YC hlt]at h1;refine⟨_,h1,Nat.le_trans ?_ hb⟩;have:=ZLX (H:=H) (d:=(xs[i]).1) (l:=xs.map (·.1)) (List.mem_map.2 ⟨_,List.getElem_mem hlt,rfl⟩);rw[hx2];simp only[Rows.uptoBulk];omega
end
theorem ZON {l:List (List UInt8)} {B:Nat} (h:Xbd B (.sl (rows ZI l))): ∀n∈l,n.length≤B:=by
 intro n hn;have h1:ZJX B (rows ZI l):=h;have h2:=ZGK.1 h1 [X.str n] (by unfold rows;exact List.mem_map.2 ⟨n,hn,rfl⟩);exact h2.1
theorem Zdp {C:List Zk} (h:ZE2 1048576 [.sl (rows Zu C)]): ∀c∈C,(∀n∈c.2.1,n.length≤140737488355328)∧ ∀n∈c.2.2.1,n.length≤140737488355328:=by
 intro c hc;have h1:ZJX 1048576 (rows Zu C):=h.1;have h2:=ZGK.1 h1 [X.str c.1,X.sl (rows ZI c.2.1),X.sl (rows ZI c.2.2.1)] (by unfold rows;exact List.mem_map.2 ⟨c,hc,rfl⟩);exact⟨fun n hn=>Nat.le_trans (ZON h2.2.1 n hn) (by decide),fun n hn=>Nat.le_trans (ZON h2.2.2.1 n hn) (by decide)⟩
set_option maxRecDepth 100000 in
theorem contract (H:Type) (enc:TypeId×Value→H) (W:World) (base:Nat) (args:Array Value) (ds gs:List (DataW H)) (before:List MemPlace)
  (hval0: ∀(j:Nat) t v,Tryz.f4.params[j]? =some t→args[j]? =some v→Value.okWide Tryz.prog W .any base t v)
  (hW:DataW.Whole enc Tryz.prog Tryz.f4.params.toList Rows.schemaNewSpec.vars false W args.toList ds gs before) (hk:Rows.uptoSmall H (ds++gs)=true):
  Calls Tryz.prog 4 args W fun e W'=> ∃v,e= .returned v∧Rows.schemaNewSpec.post enc Tryz.prog Tryz.f4 false true false false W args v W':=by
 have hval: ∀(j:Nat) t v,Tryz.f4.params[j]? =some t→args[j]? =some v→Value.okWide Tryz.prog W .any base t v:=hval0;have hW':=hW;obtain⟨p,q,hA0,hV,rfl,hfz,hnd⟩:=hW;have hA:DataW.TrodAll enc Tryz.prog W 0 (fun _=>true) true Tryz.f4.params.toList args.toList ds p:=hA0;rw[Tryz.params4]at hA hval;obtain⟨v0,vs0,d0,ds0,p0,q0,hargs,rfl,rfl,h0,r0⟩:=trodAll_cons hA;obtain⟨v1,vs1,d1,ds1,p1,q1,rfl,rfl,rfl,h1,r1⟩:=trodAll_cons r0;obtain⟨v2,vs2,d2,ds2,p2,q2,rfl,rfl,rfl,h2,r2⟩:=trodAll_cons r1;obtain⟨rfl,rfl,rfl⟩:=trodAll_nil r2;obtain rfl:args= #[v0,v1,v2]:=by cases args;simp_all
 obtain⟨rfl,rfl⟩:=trodVars_none hV;have k0:=h0;have lt0: ∀x∈p0,x.block<W.heap.size:=by obtain⟨m,hm⟩:=k0;exact DataW.trod_lt m _ _ _ hm
 obtain⟨a0,len0,cap0,rfl⟩:=okWide_slice Tryz.underlying29 (hval 0 29 v0 rfl rfl);obtain⟨y0,l0,ok0⟩: ∃y,Je W ((Qi (YZ ZI (YZ (Qu .i64) (YZ ZDP Kw)))).enc y) (Value.slice a0 len0 cap0).cells.toList∧X.okL ((Qi (YZ ZI (YZ (Qu .i64) (YZ ZDP Kw)))).enc y):=by
  obtain⟨fuel,hf⟩:=h0;exact(ZCD (YN ZT (YN (QF .i64) (YN ZJu QK))) Tryz.underlying29 (by kernel_rfl) (ZBt Tryz.underlying35 (by kernel_rfl) (.cons rfl (ZAZ Tryz.underlying9 (by kernel_rfl)) (.cons rfl (ZUI Tryz.underlying3 (by kernel_rfl)) (.cons rfl (ZR8 Tryz.underlying4 (by kernel_rfl)) (.nil _))))) (by decide)).2 enc W fuel _ _ hf
 have k1:=h1;have lt1: ∀x∈p1,x.block<W.heap.size:=by obtain⟨m,hm⟩:=k1;exact DataW.trod_lt m _ _ _ hm
 obtain⟨a1,len1,cap1,rfl⟩:=okWide_slice Tryz.underlying30 (hval 1 30 v1 rfl rfl);obtain⟨y1,l1,ok1⟩: ∃y,Je W ((Qi (YZ ZI (YZ (Qi ZI) (YZ (Qi ZI) Kw)))).enc y) (Value.slice a1 len1 cap1).cells.toList∧X.okL ((Qi (YZ ZI (YZ (Qi ZI) (YZ (Qi ZI) Kw)))).enc y):=by
  obtain⟨fuel,hf⟩:=h1;exact(ZCD (YN ZT (YN (KW ZT) (YN (KW ZT) QK))) Tryz.underlying30 (by kernel_rfl) (ZBt Tryz.underlying40 (by kernel_rfl) (.cons rfl (ZAZ Tryz.underlying9 (by kernel_rfl)) (.cons rfl (ZCD ZT Tryz.underlying38 (by kernel_rfl) (ZAZ Tryz.underlying9 (by kernel_rfl)) (by decide)) (.cons rfl (ZCD ZT Tryz.underlying38 (by kernel_rfl) (ZAZ Tryz.underlying9 (by kernel_rfl)) (by decide)) (.nil _))))) (by decide)).2 enc W fuel _ _ hf
 have k2:=h2;have lt2: ∀x∈p2,x.block<W.heap.size:=by obtain⟨m,hm⟩:=k2;exact DataW.trod_lt m _ _ _ hm
 obtain⟨a2,rfl,sz2⟩:=okWide_struct Tryz.underlying24 (hval 2 24 v2 rfl rfl);obtain⟨y2,l2,ok2⟩: ∃y,Je W ((YZ ZI (YZ (Qi (YZ ZI (YZ (Qi ZI) Kw))) Kw)).enc y) (Value.agg a2).cells.toList∧X.okL ((YZ ZI (YZ (Qi (YZ ZI (YZ (Qi ZI) Kw))) Kw)).enc y):=by
  obtain⟨fuel,hf⟩:=h2;exact(ZBt Tryz.underlying24 (by kernel_rfl) (.cons rfl (ZAZ Tryz.underlying9 (by kernel_rfl)) (.cons rfl (ZCD (YN ZT (YN (KW ZT) QK)) Tryz.underlying22 (by kernel_rfl) (ZBt Tryz.underlying72 (by kernel_rfl) (.cons rfl (ZAZ Tryz.underlying9 (by kernel_rfl)) (.cons rfl (ZCD ZT Tryz.underlying38 (by kernel_rfl) (ZAZ Tryz.underlying9 (by kernel_rfl)) (by decide)) (.nil _)))) (by decide)) (.nil _)))).2 enc W fuel _ _ hf
 try simp only[List.append_nil]at hW'
 clear hA0 hval0;have hb1:Rows.uptoBulk d1≤1048576:=by
  have h:Rows.uptoBulkAll ([d0,d1,d2]++ [])≤1048576:=of_decide_eq_true hk;exact Nat.le_trans (ZLX (H:=H) (d:=d1) (l:= [d0,d1,d2]++ []) (by simp)) h
 obtain⟨fuel1,hf1⟩:=h1;have bd1:=(ZOf (YN ZT (YN (KW ZT) (YN (KW ZT) QK))) Tryz.underlying30 (by kernel_rfl) (ZTo Tryz.underlying40 (by kernel_rfl) (.cons rfl ZT (ZLM Tryz.underlying9 (by kernel_rfl)) (.cons rfl (KW ZT) (ZOf ZT Tryz.underlying38 (by kernel_rfl) (ZLM Tryz.underlying9 (by kernel_rfl))) (.cons rfl (KW ZT) (ZOf ZT Tryz.underlying38 (by kernel_rfl) (ZLM Tryz.underlying9 (by kernel_rfl))) (.nil _)))))).2 enc W fuel1 _ _ hf1 y1 1048576 l1 hb1;have walk:Calls Tryz.prog 4 #[.slice a0 len0 cap0,.slice a1 len1 cap1,.agg a2] W fun e w'=>e= .returned (.bool true)∧KO W w':=by
  exact ZD.law (ZPr y0 y1 y2 (Zdp bd1)) (VF.cons (V.lies1 l0) (VF.cons (V.lies1 l1) (VF.cons (V.liesA l2) VF.nil)))
 refine walk.mono fun e W' ⟨he,bel⟩=> ?_
 subst he;exact⟨_,rfl,_,_,_,[],_,[],hW',trodAll_mk1 (shut_bool Tryz.underlying4 _),(trodAll_cons_mk (Below.trod laidOut (by kernel_rfl) (of_decide_eq_true (by kernel_rfl)) k0 bel lt0) (trodAll_cons_mk (Below.trod laidOut (by kernel_rfl) (of_decide_eq_true (by kernel_rfl)) k1 bel lt1) (trodAll_cons_mk (Below.trod laidOut (by kernel_rfl) (of_decide_eq_true (by kernel_rfl)) k2 bel lt2) trodAll_mk0))),rfl,bel.frame _,fun h=>by cases h⟩
theorem reads (os:Os) {H:Type} (enc:TypeId×Value→H): ∃places,DataW.whole enc Tryz.prog ((World.laidAll Tryz.prog os laid).forCall (fun _ _=>0) ⟨#[],#[.slice none 0 0,.slice none 0 0,.agg #[.string ByteArray.empty,.slice none 0 0]],[]⟩).memory Tryz.f4.params.toList Rows.schemaNewSpec.vars false #[.slice none 0 0,.slice none 0 0,.agg #[.string ByteArray.empty,.slice none 0 0]].toList 8=some ([.nil,.nil,.agg [.lit (.string []),.nil]],[],places):=
 ⟨[],by kernel_rfl⟩
set_option maxRecDepth 100000 in
theorem lifted (os:Os) (started:os.Started) (H:Type) (enc:TypeId×Value→H) (F:Stop.Interp):
  ReturnsInHanded {} Tryz.checked os 4 .any ((Rows.OpenSpec.upto Rows.schemaNewSpec).preRow enc Tryz.prog Tryz.f4 Rows.schemaNewUptoRow.domain false Rows.schemaNewUptoRow.laid) (((Rows.OpenSpec.upto Rows.schemaNewSpec).at F).post enc Tryz.prog Tryz.f4 false true false false):=by
 obtain⟨places,hx⟩:=reads os enc;refine returnsInHanded_of_row (C:=Tryz.checked) (s:=Rows.OpenSpec.upto Rows.schemaNewSpec) own started (by kernel_rfl) Tryz.func4
  (witness_row_at (enc:=enc) (C:=Tryz.checked) false (World.laidAll Tryz.prog os laid) #[.slice none 0 0,.slice none 0 0,.agg #[.string ByteArray.empty,.slice none 0 0]] (World.laidAll_os _ _ _) (by kernel_rfl) (by kernel_rfl) (by kernel_rfl)
   (OpenSpec.preRow_of_cond 8 hx (by kernel_rfl) (fun k hk=>by cases hk;kernel_rfl) (by kernel_rfl) (by
    show laidMetH Tryz.prog laid _;rw[MakeChecks.laidMetH_plain _ _ _ (by kernel_rfl)];exact laidMet_laidAll _ (by kernel_rfl) (by kernel_rfl)))) ?_
 intro W base args ds gs before hval hW _ hk _ _ _ _;exact contract H enc W base args ds gs before hval hW (hk _ rfl)
theorem over:Rows.schemaNewUptoRow.holds Tryz.pinned (Rows.OpenSpec.upto Rows.schemaNewSpec):=
 OpenClaim.holds_of_cond 4 Tryz.f4 rfl rfl rfl rfl rfl rfl rfl ⟨rfl,rfl,rfl,rfl,rfl⟩ rfl rfl rfl rfl rfl (by kernel_rfl) Tryz.func4 (by kernel_rfl)
  (of_decide_eq_true (by kernel_rfl)) (by unfold Func.isWrapper;first|(rw[if_pos (by decide+kernel)];kernel_rfl)|(rw[if_neg (by decide+kernel)];exact⟨rfl,rfl⟩))
  (fun os started H enc _ F=>by rw[OpenClaim.pre_eq_preRow];exact lifted os started H enc F)
theorem proved:Rows.SchemaNewUptoCardSaid:=
 Claim7.holds_tied_plain_at .later [] [.data,.pinned] true (true, "6eee245b952f9fb3322325b98831e7072b7cd2459586a6fc86a13b0568fb7d9d") false over (fun _ h=>by cases h) (by kernel_rfl) (fun _ h=>by cases h) schemaNewUpto_row_tie rfl ⟨rfl,rfl⟩ (by kernel_rfl) rfl
  (fun f fn hf hfn=>by
   obtain rfl:f=4:=Option.some.inj ((show Tryz.prog.funcNamed "bothy/bothylaw09.SchemaNew" =some 4 by kernel_rfl).symm.trans hf)|>.symm
   obtain rfl:fn=Tryz.f4:=(Option.some.inj (Tryz.func4.symm.trans hfn)).symm;exact⟨by kernel_rfl,fun j t ht=>by
    rw[Tryz.params4]at ht;have hm:t∈ [29,30,24]:=by simpa using Array.mem_of_getElem? ht
    have hall:([29,30,24].all fun u=> !Tryz.prog.wantsStandIn u)=true:=by kernel_rfl
    exact(show Tryz.prog.wantsStandIn t=false by simpa using List.all_eq_true.1 hall t hm)⟩)
  (by kernel_rfl)
#print axioms proved
end Go.Proofs.YtpjfdjcejamebaaGreatDoor.schemaNewUpto
