import Derived.Test.YtiogclkbccdefaaGreatDoorRows
import Derived.Test.YtiogclkbccdefaaGreatDoorCards
import Derived.Test.YtiogclkbccdefaaGreatDoorTie
import Derived.WalkKit
import Derived.Test.YtiogclkbccdefaaGreatDoorMA6
import Derived.ProofKit
import Derived.OpenShut
import Derived.ShutString
import Derived.ChangeOld
import Derived.Below
import Derived.Lay
import Derived.LaidOnce
import Derived.SevenTiedAt
import Derived.PinnedBridge
import Derived.Lib.LaidTab
set_option linter.unusedSimpArgs false
set_option linter.unusedVariables false
set_option maxRecDepth 100000
namespace Go.Proofs.YtiogclkbccdefaaGreatDoor.ditBack
open Go.ChangeShapes Go.WideShapes Go.ChangeAt Go.RowKit Go.Bo Go.Ab Go.Proofs.YtiogclkbccdefaaGreatDoor
open Go.ChangeMaps (open_string shut_string)
def laid:List (String×DataW Unit):= [("unicode/utf8.acceptRanges",Rows.laid_unicode_utf8_acceptRanges),("unicode/utf8.first",Rows.laid_unicode_utf8_first)]
theorem own:ownKnob Tryz.prog.godebug=none:=by kernel_rfl
theorem laidOut:laidOutB Tryz.prog=true:=by kernel_rfl
set_option maxRecDepth 100000 in
theorem lifted(os:Os)(started:os.Started)(H:Type)(enc:TypeId×Value→H):
  ReturnsInHanded {} Tryz.checked os 7 .any (fun w args=>(Rows.ditBackSpec.pre enc Tryz.prog Tryz.f7 [] false w args∧laidMetH Tryz.prog laid w)∧sizedMet enc Tryz.prog Tryz.f7 (OpenSpec.ofChange Rows.ditBackSpec) false w args)
   (Rows.ditBackSpec.post enc Tryz.prog Tryz.f7 false true false false):=by
 refine returnsInHanded_of_change_and (C:=Tryz.checked) (X:=fun w _=>laidMetH Tryz.prog laid w) (fun _ _ _ hh h=>h.of_heap hh) own started (by kernel_rfl) Tryz.func7
  (ChangeSpec.witness_shaped (enc:=enc) (C:=Tryz.checked) (os:=os) (X:=fun w _=>laidMetH Tryz.prog laid w) false (World.laidAll Tryz.prog os laid) #[.slice none 0 0,.agg #[.string ByteArray.empty,.slice none 0 0]] 8 (World.laidAll_os _ _ _)
   (World.shaped_of_ZipB (by kernel_rfl) (by kernel_rfl)) (by kernel_rfl) (by kernel_rfl) (by kernel_rfl)
   (by rw[MakeChecks.laidMetH_plain _ _ _ (by kernel_rfl)];exact laidMet_laidAll _ (by kernel_rfl) (by kernel_rfl))) ?_
 intro W base args ds gs before hval0 hW _ _ hL _;have hval: ∀(j:Nat) t v,Tryz.f7.params[j]? =some t→args[j]? =some v→Value.okWide Tryz.prog W .any base t v:=hval0;have hW':=hW;obtain⟨p,q,hA0,hV,rfl,hfz,hnd⟩:=hW;have hA:DataW.TrodAll enc Tryz.prog W 0 (fun _=>true) true Tryz.f7.params.toList args.toList ds p:=hA0;rw[Tryz.params7]at hA hval;obtain⟨v0,vs0,d0,ds0,p0,q0,hargs,rfl,rfl,h0,r0⟩:=trodAll_cons hA;obtain⟨v1,vs1,d1,ds1,p1,q1,rfl,rfl,rfl,h1,r1⟩:=trodAll_cons r0;obtain⟨rfl,rfl,rfl⟩:=trodAll_nil r1;obtain rfl:args= #[v0,v1]:=by cases args;simp_all
 obtain⟨rfl,rfl⟩:=trodVars_none hV;have k0:=h0;have lt0: ∀x∈p0,x.block<W.heap.size:=by obtain⟨m,hm⟩:=k0;exact DataW.trod_lt m _ _ _ hm
 obtain⟨a0,len0,cap0,rfl⟩:=okWide_slice Tryz.underlying38 (hval 0 38 v0 rfl rfl);obtain⟨y0,l0,ok0⟩: ∃y,ZAk W ((rSl (JF (ZCL .i64) (JF (JF ZC (JF (rSl (JF ZC (JF (rSl ZC) QV))) QV)) QV))).enc y) (Value.slice a0 len0 cap0).cells.toList∧X.okL ((rSl (JF (ZCL .i64) (JF (JF ZC (JF (rSl (JF ZC (JF (rSl ZC) QV))) QV)) QV))).enc y):=by
  obtain⟨fuel,hf⟩:=h0;exact(ZG3 (Yt (ZBK .i64) (Yt (Yt ZO (Yt (ZCG (Yt ZO (Yt (ZCG ZO) ZAp))) ZAp)) ZAp)) Tryz.underlying38 (by kernel_rfl) (ZC5 Tryz.underlying49 (by kernel_rfl) (.cons rfl (ZaC Tryz.underlying3 (by kernel_rfl)) (.cons rfl (ZC5 Tryz.underlying31 (by kernel_rfl) (.cons rfl (ZD5 Tryz.underlying9 (by kernel_rfl)) (.cons rfl (ZG3 (Yt ZO (Yt (ZCG ZO) ZAp)) Tryz.underlying29 (by kernel_rfl) (ZC5 Tryz.underlying94 (by kernel_rfl) (.cons rfl (ZD5 Tryz.underlying9 (by kernel_rfl)) (.cons rfl (ZG3 ZO Tryz.underlying34 (by kernel_rfl) (ZD5 Tryz.underlying9 (by kernel_rfl)) (by decide)) (.nil _)))) (by decide)) (.nil _)))) (.nil _)))) (by decide)).2 enc W fuel _ _ hf
 have k1:=h1;have lt1: ∀x∈p1,x.block<W.heap.size:=by obtain⟨m,hm⟩:=k1;exact DataW.trod_lt m _ _ _ hm
 obtain⟨a1,rfl,sz1⟩:=okWide_struct Tryz.underlying31 (hval 1 31 v1 rfl rfl);obtain⟨y1,l1,ok1⟩: ∃y,ZAk W ((JF ZC (JF (rSl (JF ZC (JF (rSl ZC) QV))) QV)).enc y) (Value.agg a1).cells.toList∧X.okL ((JF ZC (JF (rSl (JF ZC (JF (rSl ZC) QV))) QV)).enc y):=by
  obtain⟨fuel,hf⟩:=h1;exact(ZC5 Tryz.underlying31 (by kernel_rfl) (.cons rfl (ZD5 Tryz.underlying9 (by kernel_rfl)) (.cons rfl (ZG3 (Yt ZO (Yt (ZCG ZO) ZAp)) Tryz.underlying29 (by kernel_rfl) (ZC5 Tryz.underlying94 (by kernel_rfl) (.cons rfl (ZD5 Tryz.underlying9 (by kernel_rfl)) (.cons rfl (ZG3 ZO Tryz.underlying34 (by kernel_rfl) (ZD5 Tryz.underlying9 (by kernel_rfl)) (by decide)) (.nil _)))) (by decide)) (.nil _)))).2 enc W fuel _ _ hf
 try simp only[Ks]at hW'
 clear hA0 hval0;have walk:Calls Tryz.prog 7 #[.slice a0 len0 cap0,.agg a1] W fun e w'=>e= .returned (.bool true)∧Ext W w':=by
  exact ZK.law (ZZh y0 y1) (VF.cons (V.lies1 l0) (VF.cons (V.liesA l1) VF.nil))
 refine walk.mono fun e W' ⟨he,bel⟩=> ?_
 subst he;exact⟨_,rfl,_,_,_,[],_,[],hW',trodAll_mk1 (shut_bool Tryz.underlying4 _),(trodAll_cons_mk (Below.trod laidOut (by kernel_rfl) (of_decide_eq_true (by kernel_rfl)) k0 bel lt0) (trodAll_cons_mk (Below.trod laidOut (by kernel_rfl) (of_decide_eq_true (by kernel_rfl)) k1 bel lt1) trodAll_mk0)),rfl,bel.frame _,fun h=>by cases h⟩
theorem over:Rows.ditBackRow.holds Tryz.pinned (OpenSpec.ofChange Rows.ditBackSpec):=
 OpenClaim.holds_of_wide 7 Tryz.f7 rfl rfl rfl rfl rfl rfl rfl ⟨rfl,rfl,rfl,rfl,rfl⟩ rfl rfl rfl rfl rfl (by kernel_rfl) Tryz.func7 (by kernel_rfl)
  (of_decide_eq_true (by kernel_rfl)) (by unfold Func.isWrapper;first|(rw[if_pos (by decide+kernel)];kernel_rfl)|(rw[if_neg (by decide+kernel)];exact⟨rfl,rfl⟩))
  (fun os started H enc _=>lifted os started H enc)
theorem proved:Rows.DitBackCardSaid:=
 Claim7.holds_tied_plain_at .later [] [.data,.pinned] true (true, "d191f711df07f3da8f9af9a4d9740874cf7f8a5b7b0089922436a6eff48d082c") true over (fun _ h=>by cases h) (by kernel_rfl) (fun _ h=>by cases h) ditBack_row_tie rfl ⟨rfl,rfl⟩ (by kernel_rfl) rfl
  (fun f fn hf hfn=>by
   obtain rfl:f=7:=ZCf ((show Tryz.prog.funcNamed "bothy/bothylaw20.DitBack" =some 7 by kernel_rfl).symm.trans hf)|>.symm
   obtain rfl:fn=Tryz.f7:=(ZCf (Tryz.func7.symm.trans hfn)).symm;exact⟨by kernel_rfl,fun j t ht=>by
    rw[Tryz.params7]at ht;have hm:t∈ [38,31]:=by simpa using Array.mem_of_getElem? ht
    have hall:([38,31].all fun u=> !Tryz.prog.wantsStandIn u)=true:=by kernel_rfl
    exact(show Tryz.prog.wantsStandIn t=false by simpa using Yg.1 hall t hm)⟩)
  (by kernel_rfl)
#print axioms proved
end Go.Proofs.YtiogclkbccdefaaGreatDoor.ditBack
