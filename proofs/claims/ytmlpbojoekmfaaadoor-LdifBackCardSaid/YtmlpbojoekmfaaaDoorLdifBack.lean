import Derived.Test.YtmlpbojoekmfaaaDoorRows
import Derived.Test.YtmlpbojoekmfaaaDoorCards
import Derived.Test.YtmlpbojoekmfaaaDoorTie
import Derived.WalkKit
import Derived.Test.YtmlpbojoekmfaaaDoorMA2
import Derived.ProofKit
import Derived.OpenShut
import Derived.ShutString
import Derived.ChangeOld
import Derived.Below
import Derived.Lay
import Derived.LaidOnce
import Derived.SevenTiedAt
import Derived.PinnedBridge
import Derived.Lib.LaidTab
set_option linter.unusedSimpArgs false
set_option linter.unusedVariables false
namespace Go.Proofs.YtmlpbojoekmfaaaDoor.ldifBack
open Go.ChangeShapes Go.WideShapes Go.ChangeAt Go.RowKit Go.Bo Go.Ab Go.Proofs.YtmlpbojoekmfaaaDoor
open Go.ChangeMaps (open_string shut_string)
def laid:List (String×DataW Unit):= [("unicode/utf8.acceptRanges",Rows.laid_unicode_utf8_acceptRanges),("unicode/utf8.first",Rows.laid_unicode_utf8_first)]
theorem own:ownKnob Tryd.prog.godebug=none:=by kernel_rfl
theorem laidOut:laidOutB Tryd.prog=true:=by kernel_rfl
set_option maxRecDepth 100000 in
theorem lifted (os:Os) (started:os.Started) (H:Type) (enc:TypeId×Value→H):
  ReturnsInHanded {} Tryd.checked os 5 .any (fun w args=>(Rows.ldifBackSpec.pre enc Tryd.prog Tryd.f5 [] false w args∧laidMetH Tryd.prog laid w)∧sizedMet enc Tryd.prog Tryd.f5 (OpenSpec.ofChange Rows.ldifBackSpec) false w args)
   (Rows.ldifBackSpec.post enc Tryd.prog Tryd.f5 false true false false):=by
 refine returnsInHanded_of_change_and (C:=Tryd.checked) (X:=fun w _=>laidMetH Tryd.prog laid w) (fun _ _ _ hh h=>h.of_heap hh) own started (by kernel_rfl) Tryd.func5
  (ChangeSpec.witness_shaped (enc:=enc) (C:=Tryd.checked) (os:=os) (X:=fun w _=>laidMetH Tryd.prog laid w) false (World.laidAll Tryd.prog os laid) #[.slice none 0 0,.string ByteArray.empty] 8 (World.laidAll_os _ _ _)
   (World.shaped_of_ZipB (by kernel_rfl) (by kernel_rfl)) (by kernel_rfl) (by kernel_rfl) (by kernel_rfl)
   (by rw[MakeChecks.laidMetH_plain _ _ _ (by kernel_rfl)];exact laidMet_laidAll _ (by kernel_rfl) (by kernel_rfl))) ?_
 intro W base args ds gs before hval0 hW _ _ hL _
 have hval: ∀(j:Nat) t v,Tryd.f5.params[j]? =some t→args[j]? =some v→Value.okWide Tryd.prog W .any base t v:=hval0
 have hW':=hW
 obtain⟨p,q,hA0,hV,rfl,hfz,hnd⟩:=hW
 have hA:DataW.TrodAll enc Tryd.prog W 0 (fun _=>true) true Tryd.f5.params.toList args.toList ds p:=hA0
 rw[Tryd.params5]at hA hval
 obtain⟨v0,vs0,d0,ds0,p0,q0,hargs,rfl,rfl,h0,r0⟩:=trodAll_cons hA
 obtain⟨v1,vs1,d1,ds1,p1,q1,rfl,rfl,rfl,h1,r1⟩:=trodAll_cons r0
 obtain⟨rfl,rfl,rfl⟩:=trodAll_nil r1
 obtain rfl:args= #[v0,v1]:=by cases args;simp_all
 obtain⟨rfl,rfl⟩:=trodVars_none hV
 have k0:=h0
 have lt0: ∀x∈p0,x.block<W.heap.size:=by obtain⟨m,hm⟩:=k0;exact DataW.trod_lt m _ _ _ hm
 obtain⟨a0,len0,cap0,rfl⟩:=okWide_slice Tryd.underlying36 (hval 0 36 v0 rfl rfl)
 obtain⟨y0,l0,ok0⟩: ∃y,Lies W ((rSl (rCat rStr (rCat (rSl (rCat rStr (rCat (rSl rStr) rEnd))) rEnd))).enc y) (Value.slice a0 len0 cap0).cells.toList∧X.okL ((rSl (rCat rStr (rCat (rSl (rCat rStr (rCat (rSl rStr) rEnd))) rEnd))).enc y):=by
  obtain⟨fuel,hf⟩:=h0
  exact(opens_sl (good_rCat good_rStr (good_rCat (good_rSl (good_rCat good_rStr (good_rCat (good_rSl good_rStr) good_rEnd))) good_rEnd)) Tryd.underlying36 (by kernel_rfl) (opens_struct Tryd.underlying46 (by kernel_rfl) (.cons rfl (opens_str Tryd.underlying9 (by kernel_rfl)) (.cons rfl (opens_sl (good_rCat good_rStr (good_rCat (good_rSl good_rStr) good_rEnd)) Tryd.underlying44 (by kernel_rfl) (opens_struct Tryd.underlying48 (by kernel_rfl) (.cons rfl (opens_str Tryd.underlying9 (by kernel_rfl)) (.cons rfl (opens_sl good_rStr Tryd.underlying23 (by kernel_rfl) (opens_str Tryd.underlying9 (by kernel_rfl)) (by decide)) (.nil _)))) (by decide)) (.nil _)))) (by decide)).2 enc W fuel _ _ hf
 have k1:=h1
 have lt1: ∀x∈p1,x.block<W.heap.size:=by obtain⟨m,hm⟩:=k1;exact DataW.trod_lt m _ _ _ hm
 obtain⟨a1,rfl⟩:=okWide_string Tryd.underlying9 (hval 1 9 v1 rfl rfl)
 obtain⟨y1,l1,ok1⟩: ∃y,Lies W (rStr.enc y) (Value.string a1).cells.toList∧X.okL (rStr.enc y):=by
  obtain⟨fuel,hf⟩:=h1
  exact(opens_str Tryd.underlying9 (by kernel_rfl)).2 enc W fuel _ _ hf
 try simp only[List.append_nil]at hW'
 clear hA0 hval0
 have walk:Calls Tryd.prog 5 #[.slice a0 len0 cap0,.string a1] W fun e w'=>e= .returned (.bool true)∧Ext W w':=by
  exact PCalls.law (ldifBack_c y0 y1) (VF.cons (V.lies1 l0) (VF.cons (V.lies1 l1) VF.nil))
 refine walk.mono fun e W' ⟨he,bel⟩=> ?_
 subst he
 exact⟨_,rfl,_,_,_,[],_,[],hW',trodAll_mk1 (shut_bool Tryd.underlying4 _),(trodAll_cons_mk (Below.trod laidOut (by kernel_rfl) (of_decide_eq_true (by kernel_rfl)) k0 bel lt0) (trodAll_cons_mk (Below.trod laidOut (by kernel_rfl) (of_decide_eq_true (by kernel_rfl)) k1 bel lt1) trodAll_mk0)),rfl,bel.frame _,fun h=>by cases h⟩
theorem over:Rows.ldifBackRow.holds Tryd.pinned (OpenSpec.ofChange Rows.ldifBackSpec):=
 OpenClaim.holds_of_wide 5 Tryd.f5 rfl rfl rfl rfl rfl rfl rfl ⟨rfl,rfl,rfl,rfl,rfl⟩ rfl rfl rfl rfl rfl (by kernel_rfl) Tryd.func5 (by kernel_rfl)
  (of_decide_eq_true (by kernel_rfl)) (by unfold Func.isWrapper;first|(rw[if_pos (by decide+kernel)];kernel_rfl)|(rw[if_neg (by decide+kernel)];exact⟨rfl,rfl⟩))
  (fun os started H enc _=>lifted os started H enc)
theorem proved:Rows.LdifBackCardSaid:=
 Claim7.holds_tied_plain_at .later [] [.data,.pinned] true (true, "f2f1adc8b4d21f921317cbf5313d9a3baba2eb43fb455469393138d02bbb25ab") false over (fun _ h=>by cases h) (by kernel_rfl) (fun _ h=>by cases h) ldifBack_row_tie rfl ⟨rfl,rfl⟩ (by kernel_rfl) rfl
  (fun f fn hf hfn=>by
   obtain rfl:f=5:=Option.some.inj ((show Tryd.prog.funcNamed "bothy/bothylaw34.LdifBack" =some 5 by kernel_rfl).symm.trans hf)|>.symm
   obtain rfl:fn=Tryd.f5:=(Option.some.inj (Tryd.func5.symm.trans hfn)).symm
   exact⟨by kernel_rfl,fun j t ht=>by
    rw[Tryd.params5]at ht
    have hm:t∈ [36,9]:=by simpa using Array.mem_of_getElem? ht
    have hall:([36,9].all fun u=> !Tryd.prog.wantsStandIn u)=true:=by kernel_rfl
    exact(show Tryd.prog.wantsStandIn t=false by simpa using List.all_eq_true.1 hall t hm)⟩)
  (by kernel_rfl)
#print axioms proved
end Go.Proofs.YtmlpbojoekmfaaaDoor.ldifBack
