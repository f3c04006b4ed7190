/- Rows of operations, code, functions: what the evaluator says of them is so. -/
import Derived.Test.YtogmbfaijmhamaaAb14
namespace Go.Ab
open Go.RowKit Go.Bo

/-- An operation, its slot, its guard. -/
structure IOp where
  dst : Option Nat
  e : IE
  g : Option (Nat × Bool)

def putO (φ : List (Nat × D)) : Option Nat → D → List (Nat × D)
  | none, _ => φ
  | some t, d => put φ t d

abbrev Tab := FuncId → List D → Option (Bool × D)
/-- What is known of functions: of those that look at no objects, and of the others. -/
structure Tabs where
  q : Tab
  t : FuncId → List D → List Ob → Option (Bool × D × List Ob)
  r : FuncId → List D → List Ob → Option (Bool × D)
  k : FuncId → List D → List Ob → Option (Bool × (Nat → D) × Ob)
structure SsOk (P : Program) (S : Tabs) : Prop where
  q : SOk P S.q
  t : TOk P S.t
  r : ROk P S.r
  k : KOk P S.k
def actT (S : Tabs) (φ : List (Nat × D)) (os : List Ob) (e : IE) : Option (Bool × D × List Ob) := if e.isCall then callT S.t φ os e else aact φ os e

def stepOp (S : Tabs) (φ : List (Nat × D)) (os : List Ob) (o : IOp) : Option (Bool × List (Nat × D) × List Ob) :=
  match o.g with
  | none => match aval S.q φ os o.e with
    | some r => some (r.1, putO φ o.dst r.2, os)
    | none => (actT S φ os o.e).map fun r => (r.1, putO φ o.dst r.2.1, r.2.2)
  | some (s, want) => match (get φ s).val with
    | .x (.bool b) => match aval S.q φ os o.e with
      | some r => some (!((get φ s).cond && (b == want)) || r.1, putO φ o.dst (.opt ((get φ s).cond && (b == want)) r.2), os)
      | none => if (get φ s).cond && (b == want) then (actT S φ os o.e).map fun r => (r.1, putO φ o.dst r.2.1, r.2.2) else some (true, putO φ o.dst (.opt false .und), os)
    | _ => if (get φ s).cond then none else some (true, putO φ o.dst (.opt false .und), os)

def runOps (S : Tabs) : List (Nat × D) → List Ob → List IOp → Option (Bool × List (Nat × D) × List Ob)
  | φ, os, [] => some (true, φ, os)
  | φ, os, o :: l => (stepOp S φ os o).bind fun r => (runOps S r.2.1 r.2.2 l).map fun q => (r.1 && q.1, q.2)

def compOper (P : Program) (n : Nat) (ops : Array Oper) (o : Oper) : Option IOp :=
  (compOp P o.op).bind fun e => if (o.dst.all fun t => decide (t < n)) then
    match o.guard with
    | none => some ⟨o.dst, e, none⟩
    | some (j, want) => ((ops[j]?).bind (·.dst)).map fun s => ⟨o.dst, e, some (s, want)⟩
  else none

section
variable {P : Program} {E : Env} {os : List Ob} {c : Ctx} {n : Nat} {φ : List (Nat × D)} {a : Act}

theorem V.und_of {d : D} {v : Value} (h : V E os d v) (hc : d.cond = false) : v = undef := by
  induction h with
  | opt h1 h2 ih =>
    rename_i b d v
    cases b with
    | false => exact h2 rfl
    | true => exact ih rfl (by simpa [D.cond] using hc)
  | x h => cases hc
  | ref h h1 => cases hc
  | ptr ho h => cases hc
  | eptr h h1 => cases hc
  | vptr b off val hc' hv => cases hc
  | agg vs hl h1 hv => cases hc
  | tup vs hl hv => cases hc
  | full n h => cases hc
  | nz h => cases hc
  | fn vs hl hv => cases hc
  | und v => cases hc

theorem put_none (a : Act) (v : Value) : a.put none v = a := rfl

theorem Fr.putO (h : Fr n E os φ a) {dst : Option Nat} {d : D} {v : Value} (ht : (dst.all fun t => decide (t < n)) = true) (hv : V E os d v) : Fr n E os (Go.Ab.putO φ dst d) (a.put dst v) := by
  cases dst with
  | none => exact h
  | some t => exact h.put (by simpa using ht) hv

theorem yield_some {s : Nat} {ops : Array Oper} {j : Nat} (hs : (ops[j]?).bind (·.dst) = some s) (hf : Fr n E os φ a) {b : Bool} (hv : (get φ s).val = .x (.bool b)) (want : Bool) :
    (yielded ops a.tmps j == some want) = ((get φ s).cond && (b == want)) := by
  have h := hf.slot s
  have key : ∀ v, a.tmps.getD s undef = v → (yielded ops a.tmps j) = match v with | .bool b => some b | _ => none := by
    intro v hv
    unfold yielded
    rw [hs]
    simp only [Option.bind_some]
    rw [Array.getD_eq_getD_getElem?] at hv
    cases h1 : a.tmps[s]? with
    | none => rw [h1] at hv; simp at hv; subst hv; rfl
    | some u => rw [h1] at hv; simp at hv; subst hv; cases u <;> rfl
  cases hc : (get φ s).cond with
  | false =>
    have := h.und_of hc
    rw [key _ this]; rfl
  | true =>
    have := h.strip hc
    rw [hv] at this
    rw [key _ (V.bool this)]
    cases b <;> cases want <;> rfl
theorem yield_none {s : Nat} {ops : Array Oper} {j : Nat} (hs : (ops[j]?).bind (·.dst) = some s) (hf : Fr n E os φ a) (hc : (get φ s).cond = false) (want : Bool) : (yielded ops a.tmps j == some want) = false := by
  have h := (hf.slot s).und_of hc
  unfold yielded
  rw [hs]
  simp only [Option.bind_some]
  rw [Array.getD_eq_getD_getElem?] at h
  cases h1 : a.tmps[s]? with
  | none => rfl
  | some u => rw [h1] at h; simp at h; subst h; rfl

theorem quiet_wp {S : Tab} (hS : SOk P S) (R : Rel c E os) (hf : Fr n E os φ a) {o : Oper} {e : IE} (hc : compOp P o.op = some e) {d : D} (h : aval S φ os e = some (true, d)) {K : Act → World → Prop} {Q : Exit → Act → World → Prop}
    (hK : ∀ v E', Rel c E' os → Evo E os E' os → V E' os d v → K (a.put o.dst v) E'.w) : o.wp P a E.w K Q := by
  cases hcall : e.isCall with
  | true => exact call_run hS R hf hc hcall h hK
  | false =>
    obtain ⟨v, h1, h2⟩ := aval_run R hf hc hcall h
    unfold Oper.wp
    rw [h1]
    exact hK v E R (Evo.refl _ _) h2
theorem act_wp {S : Tabs} (hS : SsOk P S) (R : Rel c E os) (hf : Fr n E os φ a) {o : Oper} {e : IE} (hc : compOp P o.op = some e) {d : D} {os' : List Ob} (h : actT S φ os e = some (true, d, os')) {K : Act → World → Prop} {Q : Exit → Act → World → Prop}
    (hK : ∀ v E', Rel c E' os' → Evo E os E' os' → V E' os' d v → K (a.put o.dst v) E'.w) : o.wp P a E.w K Q := by
  unfold actT at h
  split at h
  · exact call_deep hS.t R hf hc h hK
  obtain ⟨r, E', h1, h2, h3, h4⟩ := aact_run R hf hc h
  unfold Oper.wp
  rw [h1]
  cases h4 with
  | value hv => exact hK _ E' h2 h3 hv
  | skip hd => exact hK undef E' h2 h3 (by rw [hd]; exact .und _)

theorem step_ok {S : Tabs} (hS : SsOk P S) (R : Rel c E os) (hf : Fr n E os φ a) {ops : Array Oper} {o : Oper} {io : IOp} (hc : compOper P n ops o = some io) {φ' : List (Nat × D)} {os' : List Ob} (h : stepOp S φ os io = some (true, φ', os')) {K : Act → World → Prop} {Q : Exit → Act → World → Prop}
    (hK : ∀ E' a', Rel c E' os' → Evo E os E' os' → Fr n E' os' φ' a' → K a' E'.w) :
    if Region.wanted o (yielded ops a.tmps) then o.wp P a E.w K Q else K (a.put o.dst undef) E.w := by
  simp only [compOper, Option.bind_eq_some_iff] at hc
  obtain ⟨e, he, hc⟩ := hc
  split at hc
  · rename_i hdst
    split at hc
    · rename_i hg
      cases hc
      simp only [stepOp] at h
      simp only [Region.wanted, hg, if_true]
      split at h
      · rename_i r hr
        obtain ⟨ok, d⟩ := r
        simp at h
        obtain ⟨rfl, rfl, rfl⟩ := h
        exact quiet_wp hS.q R hf he hr (fun v E' R' ev hv => hK E' _ R' ev ((hf.mono ev).putO hdst hv))
      · obtain ⟨⟨ok, d, os1⟩, hr, h⟩ := Option.map_eq_some_iff.1 h
        simp at h
        obtain ⟨rfl, rfl, rfl⟩ := h
        exact act_wp hS R hf he hr (fun v E' R' ev hv => hK E' _ R' ev ((hf.mono ev).putO hdst hv))
    · rename_i j want hg
      obtain ⟨s, hs, hc⟩ := Option.map_eq_some_iff.1 hc
      cases hc
      simp only [stepOp] at h
      have hwd : Region.wanted o (yielded ops a.tmps) = (yielded ops a.tmps j == some want) := by simp [Region.wanted, hg]
      rw [hwd]
      have un : ∀ (d : D), φ' = Go.Ab.putO φ o.dst (.opt false d) → os' = os → K (a.put o.dst undef) E.w := by
        rintro d rfl rfl
        exact hK E _ R (Evo.refl _ _) (hf.putO hdst (.opt (fun h => by cases h) (fun _ => rfl)))
      split at h
      · rename_i b hb
        rw [yield_some hs hf hb want]
        split at h
        · rename_i r hr
          obtain ⟨ok, d⟩ := r
          simp only [Option.some.injEq, Prod.mk.injEq] at h
          obtain ⟨h1, rfl, rfl⟩ := h
          cases hw : ((get φ s).cond && (b == want)) with
          | false =>
            rw [hw] at hK
            simp only [Bool.false_eq_true, if_false]
            exact hK E _ R (Evo.refl _ _) (hf.putO hdst (.opt (fun h => by cases h) (fun _ => rfl)))
          | true =>
            rw [hw] at hK h1
            simp at h1
            subst h1
            simp only [if_true]
            exact quiet_wp hS.q R hf he hr (fun v E' R' ev hv => hK E' _ R' ev ((hf.mono ev).putO hdst (.opt (fun _ => hv) (fun h => by cases h))))
        · split at h
          · rename_i hw
            rw [if_pos hw]
            obtain ⟨⟨ok, d, os1⟩, hr, h⟩ := Option.map_eq_some_iff.1 h
            simp at h
            obtain ⟨rfl, rfl, rfl⟩ := h
            exact act_wp hS R hf he hr (fun v E' R' ev hv => hK E' _ R' ev ((hf.mono ev).putO hdst hv))
          · rename_i hw
            simp only [Option.some.injEq, Prod.mk.injEq, true_and] at h
            obtain ⟨rfl, rfl⟩ := h
            rw [if_neg hw]
            exact un .und rfl rfl
      · split at h
        · cases h
        · rename_i hw
          simp only [Option.some.injEq, Prod.mk.injEq, true_and] at h
          obtain ⟨rfl, rfl⟩ := h
          rw [yield_none hs hf (by simpa using hw) want]
          simp only [Bool.false_eq_true, if_false]
          exact un .und rfl rfl
  · cases hc

/-- A row of operations in the text's order. -/
theorem ops_ok {S : Tabs} (hS : SsOk P S) {ops : Array Oper} {Q : Exit → Act → World → Prop} : ∀ {l : List Oper} {il : List IOp} {E : Env} {os : List Ob} {φ : List (Nat × D)} {a : Act}, Rel c E os → Fr n E os φ a → l.mapM (compOper P n ops) = some il → ∀ {φ' : List (Nat × D)} {os' : List Ob}, runOps S φ os il = some (true, φ', os') →
    (∀ E' a', Rel c E' os' → Evo E os E' os' → Fr n E' os' φ' a' → Q .normal a' E'.w) → wpList P ops Q l a E.w
  | [], il, E, os, φ, a, R, hf, hm, φ', os', h, hQ => by
    simp at hm; subst hm
    cases h
    exact hQ E a R (Evo.refl _ _) hf
  | o :: l, il, E, os, φ, a, R, hf, hm, φ', os', h, hQ => by
    simp only [List.mapM_cons, Option.bind_eq_bind, Option.bind_eq_some_iff, Option.pure_def] at hm
    obtain ⟨io, hio, il', hil, hm⟩ := hm
    cases hm
    simp only [runOps, Option.bind_eq_some_iff, Option.map_eq_some_iff] at h
    obtain ⟨⟨ok, φ1, os1⟩, h1, ⟨ok2, φ2, os2⟩, h2, h3⟩ := h
    simp at h3
    obtain ⟨⟨rfl, rfl⟩, rfl, rfl⟩ := h3
    refine wpList_step fun K hK => step_ok hS R hf hio h1 (fun E1 a1 R1 e1 f1 => ?_)
    exact hK _ _ (ops_ok hS R1 f1 hil h2 (fun E' a' R' e' f' => hQ E' a' R' (e1.trans e') f'))

end

end Go.Ab
