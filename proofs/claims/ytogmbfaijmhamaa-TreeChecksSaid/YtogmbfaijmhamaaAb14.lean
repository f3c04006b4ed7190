/- Calls of functions whose answers are known; rows of operations. -/
import Derived.Test.YtogmbfaijmhamaaAb13
namespace Go.Ab
open Go.RowKit Go.Bo

/-- The values, one by one. -/
def VL (E : Env) (os : List Ob) (ds : List D) (vs : Array Value) : Prop := ds.length = vs.size ∧ ∀ (j : Nat) (d : D) (v : Value), ds[j]? = some d → vs[j]? = some v → V E os d v

/-- Called with these, the function answers that, and leaves all that was there as it was. -/
def PCalls (P : Program) (f : FuncId) (args : List D) (r : D) : Prop :=
  ∀ (w : World) (st : Nat → Nat → Prop) (vs : Array Value), (∀ b o, st b o → b < w.heap.size) → VL ⟨w, st, []⟩ [] args vs →
    Calls P f vs w fun e w' => ∃ v st', e = .returned v ∧ Kept (fun _ => False) w w' ∧ (∀ b o, st b o → st' b o) ∧ (∀ b o, st' b o → st b o ∨ (w.heap.size ≤ b ∧ b < w'.heap.size)) ∧ V ⟨w', st', []⟩ [] r v
/-- A call of it enters its body. -/
def Enters (P : Program) (f : FuncId) : Prop := ∀ (args : Array Value) (w : World), (callFunc f args).run P w = .ok (.enter f args) w
/-- What the table says of functions is so. -/
def SOk (P : Program) (S : FuncId → List D → Option (Bool × D)) : Prop := ∀ f args r, S f args = some (true, r) → Enters P f ∧ PCalls P f args r

section
variable {P : Program} {E : Env} {os : List Ob} {c : Ctx} {n : Nat} {φ : List (Nat × D)} {a : Act}

theorem V.scalar {E' : Env} {os' : List Ob} {d : D} {v : Value} (h : V E os d v) (hs : d.scalar = true) : V E' os' d v := by
  have one : ∀ {x : X} {v : Value}, VX E.w E.st x v → x.scalar = true → VX E'.w E'.st x v := by
    intro x v h hs
    cases h with
    | int k n => exact .int k n
    | bool b => exact .bool b
    | str s => exact .str s
    | nilp => exact .nilp
    | nils => exact .nils
    | sl => cases hs
  have tl : ∀ {ds : List D} {vs : Array Value}, (∀ d ∈ ds, ∃ x, d = .x x ∧ x.scalar = true) → V E os (.tup ds) (.tuple vs) → V E' os' (.tup ds) (.tuple vs) := by
    intro ds vs hd h
    cases h with
    | tup _ hl hv =>
      refine .tup vs hl (fun j d v h1 h2 => ?_)
      obtain ⟨x, rfl, hx⟩ := hd d (List.mem_of_getElem? h1)
      exact .x (one (hv j _ v h1 h2).xx hx)
  unfold D.scalar at hs
  split at hs
  · exact .x (one h.xx hs)
  · cases h with | tup vs hl hv => exact .tup vs hl (fun j d v h1 => by simp at h1)
  · rename_i x1
    cases h with | tup vs hl hv => exact tl (fun d hd => by simp at hd; subst hd; exact ⟨_, rfl, hs⟩) (.tup vs hl hv)
  · rename_i x1 x2
    simp at hs
    cases h with | tup vs hl hv => exact tl (fun d hd => by simp at hd; rcases hd with rfl | rfl; exact ⟨_, rfl, hs.1⟩; exact ⟨_, rfl, hs.2⟩) (.tup vs hl hv)
  · rename_i x1 x2 x3
    simp at hs
    cases h with | tup vs hl hv => exact tl (fun d hd => by simp at hd; rcases hd with rfl | rfl | rfl; exact ⟨_, rfl, hs.1.1⟩; exact ⟨_, rfl, hs.1.2⟩; exact ⟨_, rfl, hs.2⟩) (.tup vs hl hv)
  · cases hs

theorem V.bare {w : World} {st : Nat → Nat → Prop} {st' : Nat → Nat → Prop} {ob : List (Nat × Value)} {d : D} {v : Value} (h : V ⟨w, st, []⟩ [] d v) (hst : ∀ b o, st b o → st' b o) : V ⟨w, st', ob⟩ os d v :=
  V.mono (E := ⟨w, st, []⟩) (os := []) (E' := ⟨w, st', ob⟩) (os' := os) ⟨fun b o hb => ⟨hst b o hb, rfl⟩, fun id b cu ds h => (by simp at h), fun id o' sz rs hid => (by simp at hid)⟩ h

theorem viewX_ok (R : Rel c E os) {d : D} {v : Value} (hv : V E os d v) {x : X} (h : viewX os d = some x) : VX E.w (fun b _ => b < E.w.heap.size) x v := by
  have key : ∀ os', freezeD os d = some (x, os') → VX E.w (fun b _ => b < E.w.heap.size) x v := fun os' hf => by
    obtain ⟨st', R', _, hx⟩ := freezeD_ok R hv hf
    exact hx.mono (fun b o hb => ⟨(R'.stm b o hb).1, rfl⟩)
  cases d with
  | x y => cases h; exact key os rfl
  | full rs => simp [viewX, rowsOf] at h; subst h; exact key os rfl
  | ref id ext off len =>
    simp only [viewX, rowsOf] at h
    cases ho : os[id]? with
    | none => simp [ho] at h
    | some o =>
      cases o with
      | box ds => simp [ho, Ob.slice?] at h
      | dead => simp [ho, Ob.slice?] at h
      | rows fz e sz rs =>
        simp [ho, Ob.slice?] at h
        obtain ⟨rfl, rfl⟩ := h
        exact key (os.set id (.frz sz rs)) (by simp [freezeD, ho])
      | frz sz rs =>
        simp [ho, Ob.slice?] at h
        obtain ⟨rfl, rfl⟩ := h
        exact key os (by simp [freezeD, ho])
  | nz => simp [viewX, rowsOf] at h
  | ptr => simp [viewX, rowsOf] at h
  | eptr => simp [viewX, rowsOf] at h
  | vptr => simp [viewX, rowsOf] at h
  | agg => simp [viewX, rowsOf] at h
  | tup => simp [viewX, rowsOf] at h
  | fn => simp [viewX, rowsOf] at h
  | opt => simp [viewX, rowsOf] at h
  | und => simp [viewX, rowsOf] at h

theorem mapM_get {α β : Type} {f : α → Option β} : ∀ {l : List α} {m : List β}, l.mapM f = some m → l.length = m.length ∧ ∀ (j : Nat) (x : α) (y : β), l[j]? = some x → m[j]? = some y → f x = some y
  | [], m, h => by simp at h; subst h; exact ⟨rfl, fun j x y h => by simp at h⟩
  | x :: l, m, h => by
    simp only [List.mapM_cons, Option.bind_eq_bind, Option.bind_eq_some_iff, Option.pure_def] at h
    obtain ⟨y, hy, ys, hys, h⟩ := h
    cases h
    obtain ⟨h1, h2⟩ := mapM_get hys
    refine ⟨by simp [h1], fun j x' y' hx hy' => ?_⟩
    cases j with
    | zero => simp at hx hy'; subst hx; subst hy'; exact hy
    | succ j => exact h2 j x' y' (by simpa using hx) (by simpa using hy')

theorem viewD_ok (R : Rel c E os) {d : D} {v : Value} (hv : V E os d v) {d' : D} (h : viewD os d = some d') : V ⟨E.w, fun b _ => b < E.w.heap.size, []⟩ [] d' v := by
  unfold viewD at h
  split at h
  · cases h
    exact .x (hv.xx.mono (fun b o hb => ⟨(R.stm b o hb).1, rfl⟩))
  · rename_i ds
    obtain ⟨xs, hxs, h⟩ := Option.map_eq_some_iff.1 h
    cases h
    obtain ⟨h1, h2⟩ := mapM_get hxs
    cases hv with
    | agg vs hl ho hvv =>
      refine .agg vs (by simp [← h1, hl]) ho (fun j d v hd hv' => ?_)
      rw [List.getElem?_map] at hd
      obtain ⟨y, hy, rfl⟩ := Option.map_eq_some_iff.1 hd
      have hj := (List.getElem?_eq_some_iff.1 hy).1
      have hdj : ds[j]? = some (ds[j]'(by omega)) := List.getElem?_eq_getElem _
      exact .x (viewX_ok R (hvv j _ v hdj hv') (h2 j _ y hdj hy))
  · cases h
    cases hv with
    | fn vs hl hvv => exact .fn vs hl (fun j d v hd => by simp at hd)
  · obtain ⟨y, hy, h⟩ := Option.map_eq_some_iff.1 h
    cases h
    exact .x (viewX_ok R hv hy)

theorem plain_ok {d : D} {v : Value} (hv : V E os d v) (hp : d.plain = true) {d' : D} (h : viewD os d = some d') : V ⟨E.w, E.st, []⟩ [] d' v := by
  unfold viewD at h
  split at h
  · cases h; exact .x hv.xx
  · rename_i ds
    obtain ⟨xs, hxs, h⟩ := Option.map_eq_some_iff.1 h
    cases h
    obtain ⟨h1, h2⟩ := mapM_get hxs
    cases hv with
    | agg vs hl ho hvv =>
      refine .agg vs (by simp [← h1, hl]) ho (fun j d v hd hv' => ?_)
      rw [List.getElem?_map] at hd
      obtain ⟨y, hy, rfl⟩ := Option.map_eq_some_iff.1 hd
      have hj := (List.getElem?_eq_some_iff.1 hy).1
      have hdj : ds[j]? = some (ds[j]'(by omega)) := List.getElem?_eq_getElem _
      have hpx := List.all_eq_true.1 hp _ (List.getElem_mem (by omega : j < ds.length))
      have hh := h2 j _ y hdj hy
      have hvx := hvv j _ v hdj hv'
      generalize ds[j]'(by omega) = dj at *
      cases dj with
      | x z => simp [viewX] at hh; subst hh; exact .x hvx.xx
      | _ => cases hpx
  · cases h
    cases hv with
    | fn vs hl hvv => exact .fn vs hl (fun j d v hd => by simp at hd)
  · cases d <;> first | (cases hp; done) | skip
    all_goals first
      | (rename_i h1 h2 h3; exact absurd rfl (h1 _))
      | (rename_i h1 h2 h3; exact absurd rfl (h2 _))
      | skip
    rename_i f caps h1 h2 h3
    cases caps with
    | nil => exact absurd rfl (h3 _)
    | cons c cs => cases hp

/-- None of these. -/
def NP (p : IE → Bool) (x : Option IE) : Prop := ∀ e, x = some e → p e = false
theorem NP.none {p : IE → Bool} : NP p none := fun e h => by cases h
theorem NP.some {p : IE → Bool} {e : IE} (h : p e = false) : NP p (some e) := fun e' h' => by cases h'; exact h
theorem NP.bind {p : IE → Bool} {α : Type} {x : Option α} {f : α → Option IE} (h : ∀ y, NP p (f y)) : NP p (x.bind f) := fun e he => by
  obtain ⟨y, _, h2⟩ := Option.bind_eq_some_iff.1 he; exact h y e h2
theorem NP.bind' {p : IE → Bool} {α : Type} {x : Option α} {f : α → Option IE} (h : ∀ y, NP p (f y)) : NP p (x >>= f) := NP.bind h
theorem NP.map {p : IE → Bool} {α : Type} {x : Option α} {f : α → IE} (h : ∀ y, p (f y) = false) : NP p (x.map f) := fun e he => by
  obtain ⟨y, _, rfl⟩ := Option.map_eq_some_iff.1 he; exact h y

/-- Called with these while the objects are these, the function answers that, and leaves the objects so. -/
def MCalls (P : Program) (f : FuncId) (args : List D) (os : List Ob) (r : D) (os' : List Ob) : Prop :=
  ∀ (c : Ctx) (E : Env) (vs : Array Value), Rel c E os → VL E os args vs →
    Calls P f vs E.w fun e w' => ∃ v E', e = .returned v ∧ E'.w = w' ∧ Rel c E' os' ∧ Evo E os E' os' ∧ V E' os' r v
def TOk (P : Program) (T : FuncId → List D → List Ob → Option (Bool × D × List Ob)) : Prop := ∀ f args os r os', T f args os = some (true, r, os') → Enters P f ∧ MCalls P f args os r os'
def callT (T : FuncId → List D → List Ob → Option (Bool × D × List Ob)) (φ : List (Nat × D)) (os : List Ob) : IE → Option (Bool × D × List Ob)
  | .call f xs => match (opv φ f).val with
    | .fn g caps => (T g ((xs.map fun y => (opv φ y).val) ++ caps) os).map fun r => ((opv φ f).cond && ((xs.all fun y => (opv φ y).cond) && r.1), r.2)
    | _ => none
  | _ => none

theorem comp_call {op : Op} {e : IE} (hc : compOp P op = some e) (hcall : e.isCall = true) : ∃ f args ats f' ys, op = .call ⟨.value f, args, ats⟩ ∧ compO f = some f' ∧ args.toList.mapM compO = some ys ∧ e = .call f' ys := by
  cases op <;> simp only [compOp] at hc <;> (try cases hc)
  case call cl =>
    obtain ⟨callee, args, ats⟩ := cl
    unfold compCall at hc
    simp only at hc
    split at hc
    · simp only [Option.bind_eq_bind, Option.bind_eq_some_iff] at hc
      obtain ⟨f', hf', ys, hys, hc⟩ := hc
      cases hc
      exact ⟨_, _, _, _, _, rfl, hf', hys, rfl⟩
    all_goals
      exfalso
      have hna : NP IE.isCall (some e) := by
        rw [← hc]
        repeat first | exact NP.none | exact NP.some rfl | (refine NP.bind (fun _ => ?_)) | (refine NP.bind' (fun _ => ?_)) | (refine NP.map (fun _ => rfl)) | split
      rw [hna e rfl] at hcall
      cases hcall
  case makeFunc fn first caps =>
    cases fn <;> simp only at hc <;> (try cases hc)
    split at hc
    · obtain ⟨ys, hys, hc⟩ := Option.bind_eq_some_iff.1 hc; cases hc; cases hcall
    · cases hc
  all_goals
    exfalso
    have hna : NP IE.isCall (some e) := by
      rw [← hc]
      repeat first | exact NP.none | exact NP.some rfl | (refine NP.bind (fun _ => ?_)) | (refine NP.bind' (fun _ => ?_)) | (refine NP.map (fun _ => rfl)) | split
    rw [hna e rfl] at hcall
    cases hcall

/-- A call: what its callee's contract says. -/
theorem call_core (hf : Fr n E os φ a) {o : Oper} {f' : IO} {ys : List IO} (hc : compOp P o.op = some (.call f' ys)) {g : FuncId} {caps : List D} (hval : (opv φ f').val = .fn g caps) (c1 : (opv φ f').cond = true) (c2 : ∀ y ∈ ys, (opv φ y).cond = true) (hen : Enters P g) {K : Act → World → Prop} {Q : Exit → Act → World → Prop}
    (hpc : ∀ vs, VL E os ((ys.map fun y => (opv φ y).val) ++ caps) vs → Calls P g vs E.w fun e w' => ∃ v, e = .returned v ∧ K (a.put o.dst v) w') : o.wp P a E.w K Q := by
  obtain ⟨dst, op, ty, pos, after, guard⟩ := o
  simp only at hc hpc
  obtain ⟨f, args, ats, f'', ys', rfl, hf', hys, he⟩ := comp_call hc rfl
  cases he
  have vf := (V.op hf hf').strip c1
  rw [hval] at vf
  generalize hfv : a.eval f = fv at vf
  cases vf with
  | fn capv hl hvv =>
    obtain ⟨l1, l2⟩ := listOp hf hys
    have hrun : (execOp a.eval { dst, op := .call ⟨.value f, args, ats⟩, type := ty, pos, after, guard }).run P E.w = .ok (.enter g (args.map a.eval ++ capv)) E.w := by
      unfold execOp
      simp only [resolve, hfv, Deferred.ofValue, Sem.run_bind, Sem.run_pure, Result.andThen_ok, invoke]
      have := hen (#[] ++ args.map a.eval ++ capv) E.w
      simpa using this
    have lenA : ys.length = args.size := by rw [← l1]; simp
    have hvl : VL E os ((ys.map fun y => (opv φ y).val) ++ caps) (args.map a.eval ++ capv) := by
      refine ⟨by simp [lenA, hl], fun j d v hd hv => ?_⟩
      by_cases hj : j < ys.length
      · rw [List.getElem?_append_left (by simpa using hj)] at hd
        rw [Array.getElem?_append_left (by simp; omega)] at hv
        have hyj : ys[j]? = some (ys[j]'hj) := List.getElem?_eq_getElem _
        have hxj : args.toList[j]? = some (args[j]'(by omega)) := by simp
        have hval' := l2 j _ _ hxj hyj
        have hmem : (opv φ (ys[j]'hj)).cond = true := c2 _ (List.getElem_mem _)
        rw [List.getElem?_map, hyj] at hd
        simp at hd
        have hve : v = a.eval (args[j]'(by omega)) := by
          rw [Array.getElem?_map, Array.getElem?_eq_getElem (by omega)] at hv
          simpa using hv.symm
        subst hve
        rw [← hd]
        exact hval'.strip hmem
      · rw [List.getElem?_append_right (by simp; omega)] at hd
        rw [Array.getElem?_append_right (by simp; omega)] at hv
        simp only [Array.size_map, List.length_map, lenA] at hv hd
        exact hvv _ _ v hd hv
    unfold Oper.wp
    rw [hrun]
    show Calls P g _ E.w _
    refine (hpc _ hvl).mono ?_
    rintro e w' ⟨v, rfl, hk⟩
    exact hk

/-- A call that looks at objects, or turns them. -/
theorem call_deep {T : FuncId → List D → List Ob → Option (Bool × D × List Ob)} (hT : TOk P T) (R : Rel c E os) (hf : Fr n E os φ a) {o : Oper} {e : IE} (hc : compOp P o.op = some e) {d : D} {os' : List Ob} (h : callT T φ os e = some (true, d, os')) {K : Act → World → Prop} {Q : Exit → Act → World → Prop}
    (hK : ∀ v E', Rel c E' os' → Evo E os E' os' → V E' os' d v → K (a.put o.dst v) E'.w) : o.wp P a E.w K Q := by
  cases e <;> simp only [callT] at h <;> (try cases h)
  split at h
  · rename_i g caps hval
    obtain ⟨⟨ok, r, os1⟩, hr, h⟩ := Option.map_eq_some_iff.1 h
    simp at h
    obtain ⟨⟨c1, c2, rfl⟩, rfl, rfl⟩ := h
    obtain ⟨hen, hpc⟩ := hT _ _ _ _ _ hr
    refine call_core hf hc hval c1 c2 hen (fun vs hvl => (hpc c E vs R hvl).mono ?_)
    rintro e w' ⟨v, E', rfl, rfl, R', ev, hv⟩
    exact ⟨v, rfl, hK v E' R' ev hv⟩
  · cases h

/-- It reads objects, makes of them what is new, leaves all as it was; whatever other objects there are. -/
def RCalls (P : Program) (f : FuncId) (args : List D) (os : List Ob) (r : D) : Prop :=
  ∀ (Y : List Ob) (c : Ctx) (E : Env) (vs : Array Value), Rel c E (os ++ Y) → VL E (os ++ Y) args vs →
    Calls P f vs E.w fun e w' => ∃ v E', e = .returned v ∧ E'.w = w' ∧ Rel c E' (os ++ Y) ∧ Evo E (os ++ Y) E' (os ++ Y) ∧ V E' (os ++ Y) r v
def ROk (P : Program) (T : FuncId → List D → List Ob → Option (Bool × D)) : Prop := ∀ f args os r, T f args os = some (true, r) → Enters P f ∧ RCalls P f args os r
def callR (T : FuncId → List D → List Ob → Option (Bool × D)) (φ : List (Nat × D)) (os : List Ob) : IE → Option (Bool × D)
  | .call f xs => match (opv φ f).val with
    | .fn g caps => (T g ((xs.map fun y => (opv φ y).val) ++ caps) os).map fun r => ((opv φ f).cond && ((xs.all fun y => (opv φ y).cond) && r.1), r.2)
    | _ => none
  | _ => none
theorem call_read {T : FuncId → List D → List Ob → Option (Bool × D)} (hT : ROk P T) {Y : List Ob} (R : Rel c E (os ++ Y)) (hf : Fr n E (os ++ Y) φ a) {o : Oper} {e : IE} (hc : compOp P o.op = some e) {d : D} (h : callR T φ os e = some (true, d)) {K : Act → World → Prop} {Q : Exit → Act → World → Prop}
    (hK : ∀ v E', Rel c E' (os ++ Y) → Evo E (os ++ Y) E' (os ++ Y) → V E' (os ++ Y) d v → K (a.put o.dst v) E'.w) : o.wp P a E.w K Q := by
  cases e <;> simp only [callR] at h <;> (try cases h)
  split at h
  · rename_i g caps hval
    obtain ⟨⟨ok, r⟩, hr, h⟩ := Option.map_eq_some_iff.1 h
    simp at h
    obtain ⟨⟨c1, c2, rfl⟩, rfl⟩ := h
    obtain ⟨hen, hpc⟩ := hT _ _ _ _ hr
    refine call_core hf hc hval c1 c2 hen (fun vs hvl => (hpc Y c E vs R hvl).mono ?_)
    rintro e w' ⟨v, E', rfl, rfl, R', ev, hv⟩
    exact ⟨v, rfl, hK v E' R' ev hv⟩
  · cases h

/-- It reads objects, makes one, leaves the others as they were; whatever other objects there are. -/
def KCalls (P : Program) (f : FuncId) (args : List D) (os : List Ob) (r : Nat → D) (ob : Ob) : Prop :=
  ∀ (Y : List Ob) (id : Nat) (c : Ctx) (E : Env) (vs : Array Value), (os ++ Y)[id]? = some .dead → Rel c E (os ++ Y) → VL E (os ++ Y) args vs →
    Calls P f vs E.w fun e w' => ∃ v E', e = .returned v ∧ E'.w = w' ∧ Rel c E' ((os ++ Y).set id ob) ∧ Evo E (os ++ Y) E' ((os ++ Y).set id ob) ∧ V E' ((os ++ Y).set id ob) (r id) v
def KOk (P : Program) (T : FuncId → List D → List Ob → Option (Bool × (Nat → D) × Ob)) : Prop := ∀ f args os r ob, T f args os = some (true, r, ob) → Enters P f ∧ KCalls P f args os r ob
def callK (T : FuncId → List D → List Ob → Option (Bool × (Nat → D) × Ob)) (φ : List (Nat × D)) (os : List Ob) (id : Nat) : IE → Option (Bool × D × Ob)
  | .call f xs => match (opv φ f).val with
    | .fn g caps => (T g ((xs.map fun y => (opv φ y).val) ++ caps) os).map fun r => ((opv φ f).cond && ((xs.all fun y => (opv φ y).cond) && r.1), r.2.1 id, r.2.2)
    | _ => none
  | _ => none
theorem call_new {T : FuncId → List D → List Ob → Option (Bool × (Nat → D) × Ob)} (hT : KOk P T) {Y : List Ob} (R : Rel c E (os ++ Y)) (hf : Fr n E (os ++ Y) φ a) {o : Oper} {e : IE} (hc : compOp P o.op = some e) {id : Nat} (hd : (os ++ Y)[id]? = some .dead) {d : D} {ob : Ob} (h : callK T φ os id e = some (true, d, ob)) {K : Act → World → Prop} {Q : Exit → Act → World → Prop}
    (hK : ∀ v E', Rel c E' ((os ++ Y).set id ob) → Evo E (os ++ Y) E' ((os ++ Y).set id ob) → V E' ((os ++ Y).set id ob) d v → K (a.put o.dst v) E'.w) : o.wp P a E.w K Q := by
  cases e <;> simp only [callK] at h <;> (try cases h)
  split at h
  · rename_i g caps hval
    obtain ⟨⟨ok, r, ob'⟩, hr, h⟩ := Option.map_eq_some_iff.1 h
    simp at h
    obtain ⟨⟨c1, c2, rfl⟩, rfl, rfl⟩ := h
    obtain ⟨hen, hpc⟩ := hT _ _ _ _ _ hr
    refine call_core hf hc hval c1 c2 hen (fun vs hvl => (hpc Y id c E vs hd R hvl).mono ?_)
    rintro e w' ⟨v, E', rfl, rfl, R', ev, hv⟩
    exact ⟨v, rfl, hK v E' R' ev hv⟩
  · cases h

/-- A call of a function in the table. -/
theorem call_run {S : FuncId → List D → Option (Bool × D)} (hS : SOk P S) (R : Rel c E os) (hf : Fr n E os φ a) {o : Oper} {e : IE} (hc : compOp P o.op = some e) (hcall : e.isCall = true) {d : D} (h : aval S φ os e = some (true, d)) {K : Act → World → Prop} {Q : Exit → Act → World → Prop}
    (hK : ∀ v E', Rel c E' os → Evo E os E' os → V E' os d v → K (a.put o.dst v) E'.w) : o.wp P a E.w K Q := by
  obtain ⟨dst, op, ty, pos, after, guard⟩ := o
  simp only at hc hK
  obtain ⟨f, args, ats, f', ys, rfl, hf', hys, rfl⟩ := comp_call hc hcall
  simp only [aval] at h
  split at h
  · rename_i g caps hval
    obtain ⟨as, has, h⟩ := Option.bind_eq_some_iff.1 h
    obtain ⟨cs, hcs, h⟩ := Option.bind_eq_some_iff.1 h
    obtain ⟨⟨ok, r⟩, hr, h⟩ := Option.bind_eq_some_iff.1 h
    simp only at h
    split at h
    · rename_i hsc
      simp at h
      obtain ⟨⟨c1, c2, rfl⟩, rfl⟩ := h
      obtain ⟨hen, hpc⟩ := hS _ _ _ hr
      have vf := (V.op hf hf').strip c1
      rw [hval] at vf
      generalize hfv : a.eval f = fv at vf
      cases vf with
      | fn capv hl hvv =>
        obtain ⟨l1, l2⟩ := listOp hf hys
        obtain ⟨m1, m2⟩ := mapM_get has
        obtain ⟨m3, m4⟩ := mapM_get hcs
        have hrun : (execOp a.eval { dst, op := .call ⟨.value f, args, ats⟩, type := ty, pos, after, guard }).run P E.w = .ok (.enter g (args.map a.eval ++ capv)) E.w := by
          unfold execOp
          simp only [resolve, hfv, Deferred.ofValue, Sem.run_bind, Sem.run_pure, Result.andThen_ok, invoke]
          have := hen (#[] ++ args.map a.eval ++ capv) E.w
          simpa using this
        have lenA : ys.length = args.size := by rw [← l1]; simp
        have argAt : ∀ (Ec : Env) (osc : List Ob), (∀ (d0 d1 : D) (v : Value), (d0 ∈ caps ∨ ∃ y ∈ ys, (opv φ y).val = d0) → V E os d0 v → viewD os d0 = some d1 → V Ec osc d1 v) → VL Ec osc (as ++ cs) (args.map a.eval ++ capv) := by
          intro Ec osc hview
          have hal : as.length = args.size := by rw [← m1]; simp [lenA]
          refine ⟨by simp [hal, ← m3, hl], fun j d v hd hv => ?_⟩
          by_cases hj : j < as.length
          · rw [List.getElem?_append_left hj] at hd
            rw [Array.getElem?_append_left (by simp; omega)] at hv
            have hyj : ys[j]? = some (ys[j]'(by omega)) := List.getElem?_eq_getElem _
            have hxj : args.toList[j]? = some (args[j]'(by omega)) := by simp
            have hval' := l2 j _ _ hxj hyj
            have hmem : (opv φ (ys[j]'(by omega))).cond = true := c2 _ (List.getElem_mem _)
            have hget : (ys.map (opv φ))[j]? = some (opv φ (ys[j]'(by omega))) := by rw [List.getElem?_map, hyj]; rfl
            have hvd := m2 j _ d hget hd
            have hve : v = a.eval (args[j]'(by omega)) := by
              rw [Array.getElem?_map, Array.getElem?_eq_getElem (by omega)] at hv
              simpa using hv.symm
            subst hve
            exact hview _ _ _ (.inr ⟨_, List.getElem_mem (by omega), rfl⟩) (hval'.strip hmem) hvd
          · rw [List.getElem?_append_right (by omega)] at hd
            rw [Array.getElem?_append_right (by simp; omega)] at hv
            simp only [Array.size_map, ← hal] at hv
            have hcj := (List.getElem?_eq_some_iff.1 hd).1
            have hcapj : caps[j - as.length]? = some (caps[j - as.length]'(by omega)) := List.getElem?_eq_getElem _
            exact hview _ _ _ (.inl (List.getElem_mem (by omega))) (hvv _ _ v hcapj hv) (m4 _ _ _ hcapj hd)
        unfold Oper.wp
        rw [hrun]
        show Calls P g _ E.w _
        by_cases hs : r.scalar = true
        · refine (hpc E.w (fun b _ => b < E.w.heap.size) _ (fun b o h => h) (argAt _ _ (fun d0 d1 v _ hv hd => viewD_ok R hv hd))).mono ?_
          rintro e w' ⟨v, st', rfl, hk, h1, h2, hv⟩
          obtain ⟨R', ev⟩ := R.world w' E.st hk (fun b o h => h) (fun b o h => .inl h)
          exact hK v _ R' ev (hv.scalar hs)
        · simp [hs] at hsc
          refine (hpc E.w E.st _ (fun b o h => (R.stm b o h).1) (argAt _ _ (fun d0 d1 v hm hv hd => plain_ok hv (by
            rcases hm with hm | ⟨y, hy, rfl⟩
            · exact hsc.2 d0 hm
            · exact hsc.1 y hy) hd))).mono ?_
          rintro e w' ⟨v, st', rfl, hk, h1, h2, hv⟩
          obtain ⟨R', ev⟩ := R.world w' st' hk h1 h2
          exact hK v _ R' ev (hv.bare (fun b o h => h))
    · cases h
  · cases h

end
end Go.Ab
