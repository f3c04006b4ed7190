/- Structs and arrays among arguments; from a law's contract to what is asked of the call. -/
import Derived.Test.YtogmbfaijmhamaaAb30
namespace Go.Ab
open Go.RowKit Go.Bo

section
variable {P : Program} {T : TypeId} {w : World}
theorem Lies.append {xs ys : List X} {cs ds : List Value} (h : Lies w xs cs) (k : Lies w ys ds) : Lies w (xs ++ ys) (cs ++ ds) := by
  refine ⟨by simp [h.1, k.1], fun j x v hx hv => ?_⟩
  by_cases hj : j < xs.length
  · rw [List.getElem?_append_left hj] at hx
    rw [List.getElem?_append_left (by rw [h.1]; exact hj)] at hv
    exact h.2 j x v hx hv
  · rw [List.getElem?_append_right (by omega)] at hx
    rw [List.getElem?_append_right (by rw [h.1]; omega), h.1] at hv
    exact k.2 _ x v hx hv
theorem Lies.nil : Lies w [] [] := ⟨rfl, fun j x v h => by simp at h⟩

/-- Fields that lie one behind the other. -/
inductive FieldsO (P : Program) : List Field → Nat → {α : Type} → RC α → Prop
  | nil (off : Nat) : FieldsO P [] off rEnd
  | cons {f : Field} {fs : List Field} {off : Nat} {α β : Type} {c : RC α} {d : RC β} (ho : f.offset = off) (hE : Opens P f.type c) (hF : FieldsO P fs (off + c.n) d) : FieldsO P (f :: fs) off (rCat c d)

theorem fieldsO_read {fs : List Field} {off : Nat} {α : Type} {c : RC α} (hf : FieldsO P fs off c) {H : Type} (enc : TypeId × Value → H) (w : World) (fuel : Nat) (cs : List Value)
    (h : ∀ f ∈ fs, ∃ x, DataW.trod enc P w 0 (fun _ => true) true fuel f.type ((cs.drop f.offset).take (P.cellsOf f.type)) = some x) :
    ∃ y, Lies w (c.enc y) ((cs.drop off).take c.n) ∧ X.okL (c.enc y) := by
  induction hf with
  | nil off => exact ⟨(), by simpa [rEnd] using Lies.nil, trivial⟩
  | @cons f fs off α β c d ho hE hF ih =>
    obtain ⟨y, hy, hy2⟩ := ih (fun g hg => h g (List.mem_cons_of_mem _ hg))
    obtain ⟨x, hx⟩ := h f List.mem_cons_self
    obtain ⟨z, hz, hz2⟩ := hE.2 enc w fuel _ _ hx
    rw [hE.1, ho] at hz
    refine ⟨(z, y), ?_, X.okL_append.2 ⟨hz2, hy2⟩⟩
    show Lies w (c.enc z ++ d.enc y) ((cs.drop off).take (c.n + d.n))
    rw [List.take_add, List.drop_drop]
    exact hz.append hy
theorem opens_struct {α : Type} {c : RC α} {fs : Array Field} (hT : P.underlying T = some (.struct fs)) (hc : P.cellsOf T = c.n) (hf : FieldsO P fs.toList 0 c) : Opens P T c := by
  refine ⟨hc, fun {H} enc w fuel cs x h => ?_⟩
  obtain ⟨xs, n, rfl, _, hl, hxl, hx⟩ := DataW.trod_struct hT h
  obtain ⟨y, hy⟩ := fieldsO_read hf enc w n cs (fun f hf => by
    obtain ⟨i, hi⟩ := List.mem_iff_getElem?.1 hf
    have hi' : fs[i]? = some f := by simpa using hi
    have h1 := hx i f hi'
    have hlt : i < xs.length := by rw [hxl]; exact (Array.getElem?_eq_some_iff.1 hi').1
    rw [List.getElem?_eq_getElem hlt] at h1
    exact ⟨_, h1⟩)
  refine ⟨y, ?_⟩
  rw [List.drop_zero, List.take_of_length_le (by omega)] at hy
  exact hy
theorem opens_array2 {α : Type} {c : RC α} {e : TypeId} (hT : P.underlying T = some (.array 2 e)) (hc : P.cellsOf T = c.n + c.n) (he : Opens P e c) : Opens P T (rCat c c) := by
  refine ⟨hc, fun {H} enc w fuel cs x h => ?_⟩
  obtain ⟨xs, m, rfl, _, hl, hxl, hx⟩ := DataW.trod_array hT h
  have h0 := hx 0 (by omega)
  have h1 := hx 1 (by omega)
  rw [List.getElem?_eq_getElem (by omega)] at h0 h1
  obtain ⟨y, hy, hy2⟩ := he.2 enc w m _ _ h0
  obtain ⟨z, hz, hz2⟩ := he.2 enc w m _ _ h1
  rw [he.1] at hy hz
  refine ⟨(y, z), ?_, X.okL_append.2 ⟨hy2, hz2⟩⟩
  have e1 : (cs.drop (1 * c.n)).take c.n = cs.drop c.n := by rw [Nat.one_mul, List.take_of_length_le (by rw [List.length_drop]; omega)]
  rw [e1] at hz
  have e0 : (cs.drop (0 * c.n)).take c.n = cs.take c.n := by simp
  rw [e0] at hy
  have := hy.append hz
  rwa [List.take_append_drop] at this

/-- Arguments. -/
inductive VF (E : Env) (os : List Ob) : List D → List Value → Prop
  | nil : VF E os [] []
  | cons {d : D} {v : Value} {ds : List D} {l : List Value} (h : V E os d v) (t : VF E os ds l) : VF E os (d :: ds) (v :: l)
theorem VL.mk {E : Env} {os : List Ob} : ∀ {ds : List D} {l : List Value}, VF E os ds l → VL E os ds l.toArray
  | _, _, .nil => ⟨rfl, fun j d v h => by simp at h⟩
  | _, _, .cons (d := d) (v := v) (ds := ds) (l := l) h t => by
    have ih := VL.mk t
    refine ⟨by have := ih.1; simp at this ⊢; exact this, fun j d' v' hd hv => ?_⟩
    cases j with
    | zero => simp at hd hv; subst hd; subst hv; exact h
    | succ j => exact ih.2 j d' v' (by simpa using hd) (by simpa using hv)
abbrev argE (w : World) : Env := ⟨w, fun b _ => b < w.heap.size, []⟩
theorem V.lies1 {x : X} {v : Value} (h : Lies w [x] [v]) : V (argE w) [] (.x x) v := .x (h.2 0 x v rfl rfl)
theorem V.liesA {xs : List X} {cs : Array Value} (h : Lies w xs cs.toList) : V (argE w) [] (.agg (xs.map .x)) (.agg cs) := by
  have hl : xs.length = cs.size := by rw [← h.1]; simp
  refine .agg cs (by simpa using hl) (fun v hv => ?_) (fun j d v hd hv => ?_)
  · obtain ⟨j, hj⟩ := List.mem_iff_getElem?.1 hv
    have hlt := (List.getElem?_eq_some_iff.1 hj).1
    exact (h.2 j _ v (List.getElem?_eq_getElem (by simpa [hl] using hlt)) hj).one
  · rw [List.getElem?_map] at hd
    obtain ⟨x, hx, rfl⟩ := Option.map_eq_some_iff.1 hd
    exact .x (h.2 j x v hx (by simpa using hv))

theorem okI64 {y : Int} (h : X.okL [X.int .i64 y]) : -9223372036854775808 ≤ y ∧ y ≤ 9223372036854775807 := by
  have := h.1
  simp only [X.ok, Lit.wf, Bool.and_eq_true, decide_eq_true_eq] at this
  exact this
theorem okU8 {y : Int} (h : X.okL [X.int .u8 y]) : 0 ≤ y ∧ y ≤ 255 := by
  have := h.1
  simp only [X.ok, Lit.wf, Bool.and_eq_true, decide_eq_true_eq] at this
  exact this
theorem okU8s {l : List Int} (h : X.okL ((rSl (rInt .u8)).enc l)) : ∀ z ∈ l, 0 ≤ z ∧ z ≤ 255 := by
  intro z hz
  have h1 : X.okR (rows (rInt .u8) l) := h.1.2
  exact okU8 (X.okR_iff.1 h1 _ (List.mem_map.2 ⟨z, hz, rfl⟩))
theorem okU64 {y : Int} (h : X.okL [X.int .u64 y]) : 0 ≤ y ∧ y ≤ 18446744073709551615 := by
  have := h.1
  simp only [X.ok, Lit.wf, Bool.and_eq_true, decide_eq_true_eq] at this
  exact this
theorem okWide_array {n : Nat} {e : TypeId} {r : Reach} {base : Nat} {t : TypeId} {v : Value} (ht : P.underlying t = some (.array n e)) (h : Value.okWide P w r base t v) : ∃ cs, v = .agg cs ∧ cs.size = P.cellsOf t := by
  simp only [Value.okWide, ht] at h
  obtain ⟨cs, h1, h2, _⟩ := h
  exact ⟨cs, h1, h2⟩
/-- A law's contract is what is asked of the call. -/
theorem PCalls.law {f : FuncId} {args : List D} (h : PCalls P f args (.x (.bool true))) {vs : List Value} (hvl : VF (argE w) [] args vs) : Calls P f vs.toArray w fun e w' => e = .returned (.bool true) ∧ Ext w w' := by
  refine (h w (fun b _ => b < w.heap.size) vs.toArray (fun _ _ hb => hb) (VL.mk hvl)).mono ?_
  rintro e w' ⟨v, st', rfl, hk, _, _, hv⟩
  rw [V.bool hv]
  exact ⟨rfl, hk.os, hk.tape, hk.output, hk.size, fun k hb => hk.block k hb (fun h => h)⟩
end
end Go.Ab
