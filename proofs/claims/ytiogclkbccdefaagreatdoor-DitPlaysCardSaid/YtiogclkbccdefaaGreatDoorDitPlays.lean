import Derived.Test.YtiogclkbccdefaaGreatDoorRows
import Derived.Test.YtiogclkbccdefaaGreatDoorCards
import Derived.Test.YtiogclkbccdefaaGreatDoorTie
import Derived.WalkKit
import Derived.Test.YtiogclkbccdefaaGreatDoorMA6
import Derived.ProofKit
import Derived.OpenShut
import Derived.ShutString
import Derived.ChangeOld
import Derived.Below
import Derived.Lay
import Derived.LaidOnce
import Derived.SevenTiedAt
import Derived.PinnedBridge
import Derived.Lib.LaidTab
set_option linter.unusedSimpArgs false
set_option linter.unusedVariables false
set_option maxRecDepth 100000
namespace Go.Proofs.YtiogclkbccdefaaGreatDoor.ditPlays
open Go.ChangeShapes Go.WideShapes Go.ChangeAt Go.RowKit Go.Bo Go.Ab Go.Proofs.YtiogclkbccdefaaGreatDoor
open Go.ChangeMaps (open_string shut_string)
def laid:List (String×DataW Unit):= [("unicode/utf8.acceptRanges",Rows.laid_unicode_utf8_acceptRanges),("unicode/utf8.first",Rows.laid_unicode_utf8_first)]
theorem own:ownKnob Tryz.prog.godebug=none:=by kernel_rfl
theorem laidOut:laidOutB Tryz.prog=true:=by kernel_rfl
set_option maxRecDepth 100000 in
theorem lifted(os:Os)(started:os.Started)(H:Type)(enc:TypeId×Value→H):
  ReturnsInHanded {} Tryz.checked os 4 .any (fun w args=>(Rows.ditPlaysSpec.pre enc Tryz.prog Tryz.f4 [] false w args∧laidMetH Tryz.prog laid w)∧sizedMet enc Tryz.prog Tryz.f4 (OpenSpec.ofChange Rows.ditPlaysSpec) false w args)
   (Rows.ditPlaysSpec.post enc Tryz.prog Tryz.f4 false true false false):=by
 refine returnsInHanded_of_change_and (C:=Tryz.checked) (X:=fun w _=>laidMetH Tryz.prog laid w) (fun _ _ _ hh h=>h.of_heap hh) own started (by kernel_rfl) Tryz.func4
  (ChangeSpec.witness_shaped (enc:=enc) (C:=Tryz.checked) (os:=os) (X:=fun w _=>laidMetH Tryz.prog laid w) false (World.laidAll Tryz.prog os laid) #[.slice none 0 0] 8 (World.laidAll_os _ _ _)
   (World.shaped_of_ZipB (by kernel_rfl) (by kernel_rfl)) (by kernel_rfl) (by kernel_rfl) (by kernel_rfl)
   (by rw[MakeChecks.laidMetH_plain _ _ _ (by kernel_rfl)];exact laidMet_laidAll _ (by kernel_rfl) (by kernel_rfl))) ?_
 intro W base args ds gs before hval0 hW _ _ hL _;have hval: ∀(j:Nat) t v,Tryz.f4.params[j]? =some t→args[j]? =some v→Value.okWide Tryz.prog W .any base t v:=hval0;have hW':=hW;obtain⟨p,q,hA0,hV,rfl,hfz,hnd⟩:=hW;have hA:DataW.TrodAll enc Tryz.prog W 0 (fun _=>true) true Tryz.f4.params.toList args.toList ds p:=hA0;rw[Tryz.params4]at hA hval;obtain⟨v0,vs0,d0,ds0,p0,q0,hargs,rfl,rfl,h0,r0⟩:=trodAll_cons hA;obtain⟨rfl,rfl,rfl⟩:=trodAll_nil r0;obtain rfl:args= #[v0]:=by cases args;simp_all
 obtain⟨rfl,rfl⟩:=trodVars_none hV;have k0:=h0;have lt0: ∀x∈p0,x.block<W.heap.size:=by obtain⟨m,hm⟩:=k0;exact DataW.trod_lt m _ _ _ hm
 obtain⟨a0,len0,cap0,rfl⟩:=okWide_slice Tryz.underlying38 (hval 0 38 v0 rfl rfl);obtain⟨y0,l0,ok0⟩: ∃y,ZBC W ((rSl (Jh (ZCF .i64) (Jh (Jh ZC (Jh (rSl (Jh ZC (Jh (rSl ZC) ZAL))) ZAL)) ZAL))).enc y) (Value.slice a0 len0 cap0).cells.toList∧X.okL ((rSl (Jh (ZCF .i64) (Jh (Jh ZC (Jh (rSl (Jh ZC (Jh (rSl ZC) ZAL))) ZAL)) ZAL))).enc y):=by
  obtain⟨fuel,hf⟩:=h0;exact(ZMI (JJ (ZBL .i64) (JJ (JJ ZP (JJ (ZDN (JJ ZP (JJ (ZDN ZP) ZBX))) ZBX)) ZBX)) Tryz.underlying38 (by kernel_rfl) (ZGt Tryz.underlying49 (by kernel_rfl) (.cons rfl (ZZd Tryz.underlying3 (by kernel_rfl)) (.cons rfl (ZGt Tryz.underlying31 (by kernel_rfl) (.cons rfl (ZKw Tryz.underlying9 (by kernel_rfl)) (.cons rfl (ZMI (JJ ZP (JJ (ZDN ZP) ZBX)) Tryz.underlying29 (by kernel_rfl) (ZGt Tryz.underlying94 (by kernel_rfl) (.cons rfl (ZKw Tryz.underlying9 (by kernel_rfl)) (.cons rfl (ZMI ZP Tryz.underlying34 (by kernel_rfl) (ZKw Tryz.underlying9 (by kernel_rfl)) (by decide)) (.nil _)))) (by decide)) (.nil _)))) (.nil _)))) (by decide)).2 enc W fuel _ _ hf
 try simp only[Kg]at hW'
 clear hA0 hval0;have walk:Calls Tryz.prog 4 #[.slice a0 len0 cap0] W fun e w'=>e= .returned (.bool true)∧Ext W w':=by
  exact ZL.law (ZX8 y0) (VF.cons (V.lies1 l0) VF.nil)
 refine walk.mono fun e W' ⟨he,bel⟩=> ?_
 subst he;exact⟨_,rfl,_,_,_,[],_,[],hW',trodAll_mk1 (shut_bool Tryz.underlying4 _),(trodAll_cons_mk (Below.trod laidOut (by kernel_rfl) (of_decide_eq_true (by kernel_rfl)) k0 bel lt0) trodAll_mk0),rfl,bel.frame _,fun h=>by cases h⟩
theorem over:Rows.ditPlaysRow.holds Tryz.pinned (OpenSpec.ofChange Rows.ditPlaysSpec):=
 OpenClaim.holds_of_wide 4 Tryz.f4 rfl rfl rfl rfl rfl rfl rfl ⟨rfl,rfl,rfl,rfl,rfl⟩ rfl rfl rfl rfl rfl (by kernel_rfl) Tryz.func4 (by kernel_rfl)
  (of_decide_eq_true (by kernel_rfl)) (by unfold Func.isWrapper;first|(rw[if_pos (by decide+kernel)];kernel_rfl)|(rw[if_neg (by decide+kernel)];exact⟨rfl,rfl⟩))
  (fun os started H enc _=>lifted os started H enc)
theorem proved:Rows.DitPlaysCardSaid:=
 Claim7.holds_tied_plain_at .later [] [.data,.pinned] true (true, "d191f711df07f3da8f9af9a4d9740874cf7f8a5b7b0089922436a6eff48d082c") true over (fun _ h=>by cases h) (by kernel_rfl) (fun _ h=>by cases h) ditPlays_row_tie rfl ⟨rfl,rfl⟩ (by kernel_rfl) rfl
  (fun f fn hf hfn=>by
   obtain rfl:f=4:=ZCn ((show Tryz.prog.funcNamed "bothy/bothylaw20.DitPlays" =some 4 by kernel_rfl).symm.trans hf)|>.symm
   obtain rfl:fn=Tryz.f4:=(ZCn (Tryz.func4.symm.trans hfn)).symm;exact⟨by kernel_rfl,fun j t ht=>by
    rw[Tryz.params4]at ht;have hm:t∈ [38]:=by simpa using Array.mem_of_getElem? ht
    have hall:([38].all fun u=> !Tryz.prog.wantsStandIn u)=true:=by kernel_rfl
    exact(show Tryz.prog.wantsStandIn t=false by simpa using Yg.1 hall t hm)⟩)
  (by kernel_rfl)
#print axioms proved
end Go.Proofs.YtiogclkbccdefaaGreatDoor.ditPlays
