/- ControlPuts returns true at every persistent search, notice and control and leaves them as they were. No condition. -/
import Derived.Test.YtcffpndhodhncaaRows
import Derived.WalkKit
import Derived.Test.YtcffpndhodhncaaMA2
import Derived.ProofKit
import Derived.OpenShut
import Derived.ShutString
import Derived.ChangeOld
import Derived.Below
namespace Go.Proofs.Ytcffpndhodhncaa.controlPuts
open Go.ChangeShapes Go.WideShapes Go.ChangeAt Go.RowKit Go.Bo Go.Ab Go.Proofs.Ytcffpndhodhncaa
open Go.ChangeMaps (open_string shut_string)

theorem own : ownKnob Try.prog.godebug = none := by kernel_rfl
theorem laidOut : laidOutB Try.prog = true := by kernel_rfl

set_option maxRecDepth 100000 in
theorem lifted (os : Os) (started : os.Started) (H : Type) (enc : TypeId × Value → H) :
    ReturnsInHanded {} Try.checked os 6 .any (Rows.controlPutsSpec.pre6 enc Try.prog Try.f6 Rows.controlPutsRow.domain false) (Rows.controlPutsSpec.post enc Try.prog Try.f6 false true false false) := by
  refine returnsInHanded_of_change (C := Try.checked) own started (by kernel_rfl) Try.func6
    (ChangeSpec.witness6 (enc := enc) (C := Try.checked) false ⟨#[], #[.agg #[.int .i64 (0), .bool false, .bool false], .agg #[.int .i64 (0), .string ByteArray.empty, .int .i64 (0)], .agg #[.string ByteArray.empty, .bool false, .string ByteArray.empty]], []⟩ 8 (by kernel_rfl) (by kernel_rfl) (by kernel_rfl) (by kernel_rfl)) ?_
  intro W base args ds gs before hval0 hW hcnd _
  have hval : ∀ (j : Nat) t v, Try.f6.params[j]? = some t → args[j]? = some v → Value.okWide Try.prog W .any base t v := hval0
  have hW' := hW
  obtain ⟨p, q, hA0, hV, rfl, hfz, hnd⟩ := hW
  have hA : DataW.TrodAll enc Try.prog W 0 (fun _ => true) true Try.f6.params.toList args.toList ds p := hA0
  rw [Try.params6] at hA hval
  obtain ⟨v0, vs0, d0, ds0, p0, q0, hargs, rfl, rfl, h0, r0⟩ := trodAll_cons hA
  obtain ⟨v1, vs1, d1, ds1, p1, q1, rfl, rfl, rfl, h1, r1⟩ := trodAll_cons r0
  obtain ⟨v2, vs2, d2, ds2, p2, q2, rfl, rfl, rfl, h2, r2⟩ := trodAll_cons r1
  obtain ⟨rfl, rfl, rfl⟩ := trodAll_nil r2
  obtain rfl : args = #[v0, v1, v2] := by cases args; simp_all
  obtain ⟨rfl, rfl⟩ := trodVars_none hV
  have k0 := h0
  have lt0 : ∀ x ∈ p0, x.block < W.heap.size := by obtain ⟨m, hm⟩ := k0; exact DataW.trod_lt m _ _ _ hm
  obtain ⟨a0, rfl, sz0⟩ := okWide_struct Try.underlying64 (hval 0 64 v0 rfl rfl)
  obtain ⟨y0, l0, ok0⟩ : ∃ y, Lies W ((rCat (rInt .i64) (rCat rBool (rCat rBool rEnd))).enc y) (Value.agg a0).cells.toList ∧ X.okL ((rCat (rInt .i64) (rCat rBool (rCat rBool rEnd))).enc y) := by
    obtain ⟨fuel, hf⟩ := h0
    exact (opens_struct Try.underlying64 (by kernel_rfl) (.cons rfl (opens_int Try.underlying3 (by kernel_rfl)) (.cons rfl (opens_bool Try.underlying4 (by kernel_rfl)) (.cons rfl (opens_bool Try.underlying4 (by kernel_rfl)) (.nil _))))).2 enc W fuel _ _ hf
  have k1 := h1
  have lt1 : ∀ x ∈ p1, x.block < W.heap.size := by obtain ⟨m, hm⟩ := k1; exact DataW.trod_lt m _ _ _ hm
  obtain ⟨a1, rfl, sz1⟩ := okWide_struct Try.underlying66 (hval 1 66 v1 rfl rfl)
  obtain ⟨y1, l1, ok1⟩ : ∃ y, Lies W ((rCat (rInt .i64) (rCat rStr (rCat (rInt .i64) rEnd))).enc y) (Value.agg a1).cells.toList ∧ X.okL ((rCat (rInt .i64) (rCat rStr (rCat (rInt .i64) rEnd))).enc y) := by
    obtain ⟨fuel, hf⟩ := h1
    exact (opens_struct Try.underlying66 (by kernel_rfl) (.cons rfl (opens_int Try.underlying3 (by kernel_rfl)) (.cons rfl (opens_str Try.underlying9 (by kernel_rfl)) (.cons rfl (opens_int Try.underlying3 (by kernel_rfl)) (.nil _))))).2 enc W fuel _ _ hf
  have k2 := h2
  have lt2 : ∀ x ∈ p2, x.block < W.heap.size := by obtain ⟨m, hm⟩ := k2; exact DataW.trod_lt m _ _ _ hm
  obtain ⟨a2, rfl, sz2⟩ := okWide_struct Try.underlying68 (hval 2 68 v2 rfl rfl)
  obtain ⟨y2, l2, ok2⟩ : ∃ y, Lies W ((rCat rStr (rCat rBool (rCat rStr rEnd))).enc y) (Value.agg a2).cells.toList ∧ X.okL ((rCat rStr (rCat rBool (rCat rStr rEnd))).enc y) := by
    obtain ⟨fuel, hf⟩ := h2
    exact (opens_struct Try.underlying68 (by kernel_rfl) (.cons rfl (opens_str Try.underlying9 (by kernel_rfl)) (.cons rfl (opens_bool Try.underlying4 (by kernel_rfl)) (.cons rfl (opens_str Try.underlying9 (by kernel_rfl)) (.nil _))))).2 enc W fuel _ _ hf
  clear hA0 hval0
  have walk : Calls Try.prog 6 #[.agg a0, .agg a1, .agg a2] W fun e w' => e = .returned (.bool true) ∧ Ext W w' := by
    exact PCalls.law (controlPuts_c y0 y1 y2) (VF.cons (V.liesA l0) (VF.cons (V.liesA l1) (VF.cons (V.liesA l2) VF.nil)))
  refine walk.mono fun e W' ⟨he, bel⟩ => ?_
  subst he
  exact ⟨_, rfl, _, _, _, [], _, [], hW', trodAll_mk1 (shut_bool Try.underlying4 _), (trodAll_cons_mk (Below.trod laidOut (by kernel_rfl) (of_decide_eq_true (by kernel_rfl)) k0 bel lt0) (trodAll_cons_mk (Below.trod laidOut (by kernel_rfl) (of_decide_eq_true (by kernel_rfl)) k1 bel lt1) (trodAll_cons_mk (Below.trod laidOut (by kernel_rfl) (of_decide_eq_true (by kernel_rfl)) k2 bel lt2) trodAll_mk0))), rfl, bel.frame _, fun h => by cases h⟩

theorem over : Rows.controlPutsRow.holds Try.pinned (OpenSpec.ofChange Rows.controlPutsSpec) :=
  OpenClaim.holds_of_wide 6 Try.f6 rfl rfl rfl rfl rfl rfl rfl ⟨rfl, rfl, rfl, rfl, rfl⟩ rfl rfl rfl rfl rfl (by kernel_rfl) Try.func6 (by kernel_rfl)
    (of_decide_eq_true (by kernel_rfl)) (by unfold Func.isWrapper; first | (rw [if_pos (by decide +kernel)]; kernel_rfl) | (rw [if_neg (by decide +kernel)]; exact ⟨rfl, rfl⟩))
    (fun os started H enc _ => lifted os started H enc)

/-- THE STATEMENT. -/
theorem proved : Rows.ControlPutsSaid := over
#print axioms proved
end Go.Proofs.Ytcffpndhodhncaa.controlPuts
