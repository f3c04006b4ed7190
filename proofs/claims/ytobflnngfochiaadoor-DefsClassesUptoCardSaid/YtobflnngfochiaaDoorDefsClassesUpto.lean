/- DefsClasses returns true at every class and text whose readings are of bulk at most 1048576, and leaves them as they were: the tied card of the second form. -/
import Derived.Test.YtobflnngfochiaaDoorRows
import Derived.Test.YtobflnngfochiaaDoorCards
import Derived.Test.YtobflnngfochiaaDoorTie
import Derived.WalkKit
import Derived.Test.YtobflnngfochiaaDoorMA2
import Derived.ProofKit
import Derived.Deep.DeepHandedRow
import Derived.OpenShut
import Derived.ShutString
import Derived.ChangeOld
import Derived.Below
import Derived.Lay
import Derived.LaidOnce
import Derived.SevenTiedAt
import Derived.PinnedBridge
import Derived.Lib.LaidTab
namespace Go.Proofs.YtobflnngfochiaaDoor.defsClassesUpto
open Go.ChangeShapes Go.WideShapes Go.ChangeAt Go.RowKit Go.Bo Go.Ab Go.Proofs.YtobflnngfochiaaDoor
open Go.ChangeMaps (open_string shut_string)

def laid : List (String × DataW Unit) := [("unicode/utf8.acceptRanges", Rows.laid_unicode_utf8_acceptRanges), ("unicode/utf8.first", Rows.laid_unicode_utf8_first)]
theorem own : ownKnob Tryd.prog.godebug = none := by kernel_rfl
theorem laidOut : laidOutB Tryd.prog = true := by kernel_rfl
theorem one_le {H : Type} (d : DataW H) : 1 ≤ Rows.uptoBulk d := by
  cases d with
  | lit l => cases l <;> simp [Rows.uptoBulk]
  | nil => simp [Rows.uptoBulk]
  | ptr d => simp [Rows.uptoBulk]
  | slice elems spare => simp [Rows.uptoBulk]
  | agg parts => simp [Rows.uptoBulk]
  | iface t d => simp [Rows.uptoBulk]
  | map entries => simp [Rows.uptoBulk]
  | held h => simp [Rows.uptoBulk]
theorem part_le {H : Type} {d : DataW H} {l : List (DataW H)} (h : d ∈ l) : Rows.uptoBulk d ≤ Rows.uptoBulkAll l := by
  induction l with
  | nil => cases h
  | cons x r ih =>
    simp only [Rows.uptoBulkAll]
    cases List.mem_cons.1 h with
    | inl e => subst e; omega
    | inr e => have := ih e; omega
theorem length_le {H : Type} (l : List (DataW H)) : l.length ≤ Rows.uptoBulkAll l := by
  induction l with
  | nil => simp [Rows.uptoBulkAll]
  | cons x r ih => have := one_le x; simp only [Rows.uptoBulkAll, List.length_cons]; omega
/-- A list in a struct is no longer than the struct's bulk. -/
theorem fld_bulk {H : Type} {enc : TypeId × Value → H} {P : Program} {w : World} {fuel i T e : Nat} {fs : Array Field} {f : Field} (hT : P.underlying T = some (.struct fs)) (hf : fs[i]? = some f) (he : P.underlying f.type = some (.slice e)) (hc : P.cellsOf f.type = 1)
    {cs : List Value} {x : DataW H × List MemPlace} (h : DataW.trod enc P w 0 (fun _ => true) true fuel T cs = some x) {xs : List X} (hl : Lies w xs cs) {rs : List (List X)} (hx : xs[f.offset]? = some (.sl rs)) : rs.length ≤ Rows.uptoBulk x.1 := by
  obtain ⟨zs, n, rfl, rfl, hcl, hzl, hz⟩ := DataW.trod_struct hT h
  have h1 := hz i f hf
  have hi : i < zs.length := by rw [hzl]; exact (Array.getElem?_eq_some_iff.1 hf).1
  rw [List.getElem?_eq_getElem hi, hc] at h1
  have hv : ∀ v, (cs.drop f.offset).take 1 = [v] → cs[f.offset]? = some v := by
    intro v hv
    have := congrArg (fun l => l[0]?) hv
    simpa [List.getElem?_take, List.getElem?_drop] using this
  have hm : Rows.uptoBulk zs[i].1 ≤ Rows.uptoBulk (DataW.agg (zs.map (·.1))) := by
    have := part_le (H := H) (d := (zs[i]).1) (l := zs.map (·.1)) (List.mem_map.2 ⟨zs[i], List.getElem_mem hi, rfl⟩)
    simp only [Rows.uptoBulk]; omega
  rcases DataW.trod_slice he h1 with ⟨k, _⟩ | ⟨a, len, cap, elems, rest, m, _, k, hx2, _, _, _, hlen, _⟩
  · have hV := hl.2 f.offset _ _ hx (hv _ k)
    cases hV with
    | sl _ _ _ _ _ _ hn => omega
  · have hV := hl.2 f.offset _ _ hx (hv _ k)
    cases hV with
    | sl _ _ _ _ _ _ hn =>
      have hb : (elems.map (·.1)).length ≤ Rows.uptoBulk zs[i].1 := by
        rw [hx2]
        have := length_le (elems.map (·.1))
        simp only [Rows.uptoBulk]; omega
      rw [List.length_map] at hb
      show rs.length ≤ Rows.uptoBulk (DataW.agg (zs.map (·.1)))
      omega

set_option maxRecDepth 100000 in
theorem contract (H : Type) (enc : TypeId × Value → H) (W : World) (base : Nat) (args : Array Value) (ds gs : List (DataW H)) (before : List MemPlace)
    (hval0 : ∀ (j : Nat) t v, Tryd.f6.params[j]? = some t → args[j]? = some v → Value.okWide Tryd.prog W .any base t v)
    (hW : DataW.Whole enc Tryd.prog Tryd.f6.params.toList Rows.defsClassesSpec.vars false W args.toList ds gs before) (hk : Rows.uptoSmall H (ds ++ gs) = true) :
    Calls Tryd.prog 6 args W fun e W' => ∃ v, e = .returned v ∧ Rows.defsClassesSpec.post enc Tryd.prog Tryd.f6 false true false false W args v W' := by
  have hval : ∀ (j : Nat) t v, Tryd.f6.params[j]? = some t → args[j]? = some v → Value.okWide Tryd.prog W .any base t v := hval0
  have hW' := hW
  obtain ⟨p, q, hA0, hV, rfl, hfz, hnd⟩ := hW
  have hA : DataW.TrodAll enc Tryd.prog W 0 (fun _ => true) true Tryd.f6.params.toList args.toList ds p := hA0
  rw [Tryd.params6] at hA hval
  obtain ⟨v0, vs0, d0, ds0, p0, q0, hargs, rfl, rfl, h0, r0⟩ := trodAll_cons hA
  obtain ⟨v1, vs1, d1, ds1, p1, q1, rfl, rfl, rfl, h1, r1⟩ := trodAll_cons r0
  obtain ⟨rfl, rfl, rfl⟩ := trodAll_nil r1
  obtain rfl : args = #[v0, v1] := by cases args; simp_all
  obtain ⟨rfl, rfl⟩ := trodVars_none hV
  have k0 := h0
  have lt0 : ∀ x ∈ p0, x.block < W.heap.size := by obtain ⟨m, hm⟩ := k0; exact DataW.trod_lt m _ _ _ hm
  obtain ⟨a0, rfl, sz0⟩ := okWide_struct Tryd.underlying39 (hval 0 39 v0 rfl rfl)
  obtain ⟨y0, l0, ok0⟩ : ∃ y, Lies W ((rCat rStr (rCat (rSl rStr) (rCat (rSl rStr) rEnd))).enc y) (Value.agg a0).cells.toList ∧ X.okL ((rCat rStr (rCat (rSl rStr) (rCat (rSl rStr) rEnd))).enc y) := by
    obtain ⟨fuel, hf⟩ := h0
    exact (opens_struct Tryd.underlying39 (by kernel_rfl) (.cons rfl (opens_str Tryd.underlying9 (by kernel_rfl)) (.cons rfl (opens_sl good_rStr Tryd.underlying37 (by kernel_rfl) (opens_str Tryd.underlying9 (by kernel_rfl)) (by decide)) (.cons rfl (opens_sl good_rStr Tryd.underlying37 (by kernel_rfl) (opens_str Tryd.underlying9 (by kernel_rfl)) (by decide)) (.nil _))))).2 enc W fuel _ _ hf
  have k1 := h1
  have lt1 : ∀ x ∈ p1, x.block < W.heap.size := by obtain ⟨m, hm⟩ := k1; exact DataW.trod_lt m _ _ _ hm
  obtain ⟨a1, rfl⟩ := okWide_string Tryd.underlying9 (hval 1 9 v1 rfl rfl)
  obtain ⟨y1, l1, ok1⟩ : ∃ y, Lies W (rStr.enc y) (Value.string a1).cells.toList ∧ X.okL (rStr.enc y) := by
    obtain ⟨fuel, hf⟩ := h1
    exact (opens_str Tryd.underlying9 (by kernel_rfl)).2 enc W fuel _ _ hf
  try simp only [List.append_nil] at hW'
  clear hA0 hval0
  have hb0 : Rows.uptoBulk d0 ≤ 1048576 := by
    have h : Rows.uptoBulkAll ([d0, d1] ++ []) ≤ 1048576 := of_decide_eq_true hk
    exact Nat.le_trans (part_le (H := H) (d := d0) (l := [d0, d1] ++ []) (by simp)) h
  obtain ⟨fuel0, hf0⟩ := h0
  have hM := fld_bulk (i := 1) Tryd.underlying39 rfl Tryd.underlying37 (by kernel_rfl) hf0 l0 (rs := rows rStr y0.2.1) rfl
  have hY := fld_bulk (i := 2) Tryd.underlying39 rfl Tryd.underlying37 (by kernel_rfl) hf0 l0 (rs := rows rStr y0.2.2.1) rfl
  rw [rows_len] at hM hY
  have walk : Calls Tryd.prog 6 #[.agg a0, .string a1] W fun e w' => e = .returned (.bool true) ∧ Ext W w' := by
    exact PCalls.law (classes_w y0.1 y0.2.1 y0.2.2.1 y1 (Nat.le_trans hM (Nat.le_trans hb0 (by decide))) (Nat.le_trans hY (Nat.le_trans hb0 (by decide)))) (VF.cons (V.liesA l0) (VF.cons (V.lies1 l1) VF.nil))
  refine walk.mono fun e W' ⟨he, bel⟩ => ?_
  subst he
  exact ⟨_, rfl, _, _, _, [], _, [], hW', trodAll_mk1 (shut_bool Tryd.underlying4 _), (trodAll_cons_mk (Below.trod laidOut (by kernel_rfl) (of_decide_eq_true (by kernel_rfl)) k0 bel lt0) (trodAll_cons_mk (Below.trod laidOut (by kernel_rfl) (of_decide_eq_true (by kernel_rfl)) k1 bel lt1) trodAll_mk0)), rfl, bel.frame _, fun h => by cases h⟩

theorem reads (os : Os) {H : Type} (enc : TypeId × Value → H) : ∃ places, DataW.whole enc Tryd.prog ((World.laidAll Tryd.prog os laid).forCall (fun _ _ => 0) ⟨#[], #[.agg #[.string ByteArray.empty, .slice none 0 0, .slice none 0 0], .string ByteArray.empty], []⟩).memory Tryd.f6.params.toList Rows.defsClassesSpec.vars false #[.agg #[.string ByteArray.empty, .slice none 0 0, .slice none 0 0], .string ByteArray.empty].toList 8 = some ([.agg [.lit (.string []), .nil, .nil], .lit (.string [])], [], places) :=
  ⟨[], by kernel_rfl⟩
set_option maxRecDepth 100000 in
theorem lifted (os : Os) (started : os.Started) (H : Type) (enc : TypeId × Value → H) (F : Stop.Interp) :
    ReturnsInHanded {} Tryd.checked os 6 .any ((Rows.OpenSpec.upto Rows.defsClassesSpec).preRow enc Tryd.prog Tryd.f6 Rows.defsClassesUptoRow.domain false Rows.defsClassesUptoRow.laid) (((Rows.OpenSpec.upto Rows.defsClassesSpec).at F).post enc Tryd.prog Tryd.f6 false true false false) := by
  obtain ⟨places, hx⟩ := reads os enc
  refine returnsInHanded_of_row (C := Tryd.checked) (s := Rows.OpenSpec.upto Rows.defsClassesSpec) own started (by kernel_rfl) Tryd.func6
    (witness_row_at (enc := enc) (C := Tryd.checked) false (World.laidAll Tryd.prog os laid) #[.agg #[.string ByteArray.empty, .slice none 0 0, .slice none 0 0], .string ByteArray.empty] (World.laidAll_os _ _ _) (by kernel_rfl) (by kernel_rfl) (by kernel_rfl)
      (OpenSpec.preRow_of_cond 8 hx (by kernel_rfl) (fun k hk => by cases hk; kernel_rfl) (by kernel_rfl) (by
        show laidMetH Tryd.prog laid _
        rw [MakeChecks.laidMetH_plain _ _ _ (by kernel_rfl)]; exact laidMet_laidAll _ (by kernel_rfl) (by kernel_rfl)))) ?_
  intro W base args ds gs before hval hW _ hk _ _ _ _
  exact contract H enc W base args ds gs before hval hW (hk _ rfl)

theorem over : Rows.defsClassesUptoRow.holds Tryd.pinned (Rows.OpenSpec.upto Rows.defsClassesSpec) :=
  OpenClaim.holds_of_cond 6 Tryd.f6 rfl rfl rfl rfl rfl rfl rfl ⟨rfl, rfl, rfl, rfl, rfl⟩ rfl rfl rfl rfl rfl (by kernel_rfl) Tryd.func6 (by kernel_rfl)
    (of_decide_eq_true (by kernel_rfl)) (by unfold Func.isWrapper; first | (rw [if_pos (by decide +kernel)]; kernel_rfl) | (rw [if_neg (by decide +kernel)]; exact ⟨rfl, rfl⟩))
    (fun os started H enc _ F => by rw [OpenClaim.pre_eq_preRow]; exact lifted os started H enc F)

/-- THE STATEMENT: the tied card of the second form. -/
theorem proved : Rows.DefsClassesUptoCardSaid :=
  Claim7.holds_tied_plain_at .later [] [.data, .pinned] true (true, "43487451792ddd27e1e253b5d563f968f7d29481dcc10e55c90eee62d1ba6dd5") false over (fun _ h => by cases h) (by kernel_rfl) (fun _ h => by cases h) defsClassesUpto_row_tie rfl ⟨rfl, rfl⟩ (by kernel_rfl) rfl
    (fun f fn hf hfn => by
      obtain rfl : f = 6 := Option.some.inj ((show Tryd.prog.funcNamed "bothy/bothylaw43.DefsClasses" = some 6 by kernel_rfl).symm.trans hf) |>.symm
      obtain rfl : fn = Tryd.f6 := (Option.some.inj (Tryd.func6.symm.trans hfn)).symm
      exact ⟨by kernel_rfl, fun j t ht => by
        rw [Tryd.params6] at ht
        have hm : t ∈ [39, 9] := by simpa using Array.mem_of_getElem? ht
        have hall : ([39, 9].all fun u => !Tryd.prog.wantsStandIn u) = true := by kernel_rfl
        exact (show Tryd.prog.wantsStandIn t = false by simpa using List.all_eq_true.1 hall t hm)⟩)
    (by kernel_rfl)
#print axioms proved
end Go.Proofs.YtobflnngfochiaaDoor.defsClassesUpto
