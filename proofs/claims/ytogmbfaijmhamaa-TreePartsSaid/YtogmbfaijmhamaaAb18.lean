/- Statements whose order is open (2): whatever order, the frame and the objects of the text's order. -/
import Derived.Test.YtogmbfaijmhamaaAb17
import Derived.Orders
namespace Go.Ab
open Go.RowKit Go.Bo

theorem mapM_toX {cs : List D} {r : List X} (h : cs.mapM D.toX? = some r) : r.length = cs.length ∧ ∀ (j : Nat) (x : X), r[j]? = some x → cs[j]? = some (.x x) := by
  obtain ⟨h1, h2⟩ := mapM_get h
  refine ⟨h1.symm, fun j x hx => ?_⟩
  have hj := (List.getElem?_eq_some_iff.1 hx).1
  have hc : cs[j]? = some (cs[j]'(by omega)) := List.getElem?_eq_getElem _
  have := h2 j _ x hc hx
  rw [hc]
  generalize cs[j]'(by omega) = d at this
  cases d <;> simp [D.toX?] at this
  rw [this]

section
variable {P : Program} {c : Ctx} {E : Env} {os : List Ob} {n : Nat} {φ : List (Nat × D)} {a : Act}

theorem partsX_ok {sz : Nat} (hf : Fr n E os φ a) : ∀ {xs : List Operand} {ys : List IO} {rows : List (List X)}, xs.mapM compO = some ys → partsX φ sz ys = some (true, rows) →
    rows.length = xs.length ∧ (∀ r ∈ rows, r.length = sz) ∧ (∀ x ∈ xs, (a.eval x).cells.size = sz ∧ ∀ u ∈ (a.eval x).cells.toList, u.oneCell' = true) ∧
      ∀ (i : Nat) (r : List X) (x : Operand) (j : Nat) (y : X) (v : Value), rows[i]? = some r → xs[i]? = some x → r[j]? = some y → (a.eval x).cells[j]? = some v → VX E.w E.st y v
  | [], ys, rows, hm, h => by
    simp at hm; subst hm
    cases h
    exact ⟨rfl, fun r hr => (by cases hr), fun x hx => (by cases hx), fun i r x j y v hr => (by simp at hr)⟩
  | x :: xs, ys, rows, hm, h => by
    simp only [List.mapM_cons, Option.bind_eq_bind, Option.bind_eq_some_iff, Option.pure_def] at hm
    obtain ⟨y, hy, ys', hys, hm⟩ := hm
    cases hm
    simp only [partsX, Option.bind_eq_some_iff] at h
    obtain ⟨cs, hcs, r, hr, h⟩ := h
    split at h
    · rename_i hlen
      obtain ⟨⟨b, rs⟩, h2, h3⟩ := Option.map_eq_some_iff.1 h
      simp at h3
      obtain ⟨⟨hc, rfl⟩, rfl⟩ := h3
      obtain ⟨q1, q2, q3⟩ := ((V.op hf hy).strip hc).cells hcs
      obtain ⟨m1, m2⟩ := mapM_toX hr
      obtain ⟨k3, k4, k5, k6⟩ := partsX_ok hf hys h2
      refine ⟨by simp [k3], fun r' hr' => ?_, fun z hz => ?_, fun i r' z j w v hr' hz hw hv => ?_⟩
      · rcases List.mem_cons.1 hr' with rfl | hr'
        · exact hlen
        · exact k4 r' hr'
      · rcases List.mem_cons.1 hz with rfl | hz
        · exact ⟨by omega, q2⟩
        · exact k5 z hz
      · cases i with
        | zero =>
          simp at hr' hz; subst hr'; subst hz
          exact (q3 j _ v (m2 j w hw) hv).xx
        | succ i => exact k6 i r' z j w v (by simpa using hr') (by simpa using hz) hw hv
    · cases h

theorem evC_ok (R : Rel c E os) (hf : Fr n E os φ a) {ops : Array Oper} {o : Oper} {io : IOp} (hc : compOper P n ops o = some io) {id : Nat} (hd : os[id]? = some .dead) {d : D} {ob : Ob} (h : evC φ id io = some (true, d, ob)) {K : Act → World → Prop} {Q : Exit → Act → World → Prop}
    (hK : ∀ v E', Rel c E' (os.set id ob) → Evo E os E' (os.set id ob) → V E' (os.set id ob) d v → K (a.put o.dst v) E'.w) :
    if Region.wanted o (yielded ops a.tmps) then o.wp P a E.w K Q else K (a.put o.dst undef) E.w := by
  simp only [compOper, Option.bind_eq_some_iff] at hc
  obtain ⟨e, he, hc⟩ := hc
  split at hc
  · split at hc
    · rename_i hg
      cases hc
      simp only [Region.wanted, hg, if_true]
      have fin : (∃ v E', (execOp a.eval o).run P E.w = .ok (.value v) E'.w ∧ Rel c E' (os.set id ob) ∧ Evo E os E' (os.set id ob) ∧ V E' (os.set id ob) d v) → o.wp P a E.w K Q := by
        rintro ⟨v, E', h1, h2, h3, h4⟩
        unfold Oper.wp
        rw [h1]
        exact hK v E' h2 h3 h4
      generalize hop : o.op = op at he
      cases e <;> simp only [evC] at h <;> (try cases h)
      case box x =>
        obtain ⟨cs, hcs, h⟩ := Option.map_eq_some_iff.1 h
        simp only [Prod.mk.injEq] at h
        obtain ⟨h1, rfl, rfl⟩ := h
        refine fin ?_
        cases op <;> simp only [compOp] at he <;> (try cases he)
        case box t y =>
          obtain ⟨z, hz, he⟩ := Option.bind_eq_some_iff.1 he; cases he
          obtain ⟨q1, q2, q3⟩ := ((V.op hf hz).strip h1).cells hcs
          obtain ⟨E', k1, k2, k3, k4⟩ := fill_box R hd (a.eval y).cells t q1 q2 q3
          exact ⟨_, E', val_run' (s := Instr.box t (a.eval y)) (by unfold execOp; rw [hop]) (by rw [k1]; simp [Instr.box, newVar, newRow]), k2, k3, k4⟩
        case alloc t =>
          simp only [Option.bind_eq_some_iff, Option.map_eq_some_iff] at he
          obtain ⟨i, hi, z, hz, he⟩ := he; cases he
          have hcs : (constD z).cells? = some cs := by
            have : (constD z).val = constD z := by unfold constD constD1; split <;> (try split) <;> (try split) <;> rfl
            rw [← this]; exact hcs
          obtain ⟨q1, q2, q3⟩ := (V.const E os z).cells hcs
          obtain ⟨E', k1, k2, k3, k4⟩ := fill_box R hd z.cells t q1 q2 q3
          exact ⟨_, E', val_run' (s := Instr.alloc t true (.tuple #[])) (by unfold execOp; rw [hop]) (by rw [k1]; simp [Instr.alloc, zeroValue, run_info hi, hz, newVar, newRow]), k2, k3, k4⟩
        case makeFunc fn first caps =>
          cases fn <;> simp only at he <;> (try cases he)
          split at he
          · obtain ⟨ys, hys, he⟩ := Option.bind_eq_some_iff.1 he; cases he
          · cases he
        all_goals
          exfalso
          have hna : NP (fun e => match e with | .box _ => true | _ => false) (some (.box x)) := by
            rw [← he]
            repeat first | exact NP.none | exact NP.some rfl | (refine NP.bind (fun _ => ?_)) | (refine NP.bind' (fun _ => ?_)) | (refine NP.map (fun _ => rfl)) | (unfold compCall) | split
          exact absurd (hna _ rfl) (by simp)
      case bsl el sz m parts =>
        split at h
        · rename_i hm
          obtain ⟨⟨b, rows⟩, h1, h⟩ := Option.map_eq_some_iff.1 h
          simp only [Prod.mk.injEq] at h
          obtain ⟨rfl, rfl, rfl⟩ := h
          refine fin ?_
          cases op <;> simp only [compOp] at he <;> (try cases he)
          case buildSlice t m' ps =>
            split at he
            · rename_i el' ht
              obtain ⟨i, hi, he⟩ := Option.bind_eq_some_iff.1 he
              obtain ⟨z, hz, he⟩ := Option.bind_eq_some_iff.1 he
              split at he
              · rename_i hle
                obtain ⟨qs, hqs, he⟩ := Option.map_eq_some_iff.1 he
                cases he
                obtain ⟨g1, g2⟩ := compElems_ok hqs
                obtain ⟨k1, k2, k3, k4⟩ := partsX_ok hf g1 h1
                have hpl : (ps.toList.map (·.2)).length = m := by simp [hle.1]
                obtain ⟨cs, q1, q2, q3⟩ := run_bsl (P := P) ht hi hz ((ps.toList.map (·.2)).map a.eval) (by simpa using hpl) hle.2.1 (fun v hv => by obtain ⟨x, hx, rfl⟩ := List.mem_map.1 hv; exact (k3 x hx).1) E.w
                have hrl : rows.length = m := by omega
                have hrow : Row (E.w.alloc (.cells cs el)) false el i.size rows.length (.slice (some ⟨E.w.heap.size, 0, none⟩) m m) cs.toList := by
                  refine ⟨by rw [Array.length_toList, q3, hrl], .inr ⟨E.w.heap.size, m, cs, (0, 0), by rw [hrl], heap_alloc_new _ _, by omega, ?_, q3, ?_, .inl rfl⟩⟩
                  · have := hle.2.2; simp only [maxLen]; omega
                  · rw [List.take_of_length_le (by rw [Array.length_toList, q3, hrl]; omega)]
                obtain ⟨E', w1, w2, w3, w4⟩ := fill_row R hd (kept_alloc _ _) hrow (fun b hb => by cases hb; exact Nat.le_refl _) k2 (fun k r j x v hk hx hv => by
                  have hk' : k < (ps.toList.map (·.2)).length := by have := (List.getElem?_eq_some_iff.1 hk).1; omega
                  have hj : j < i.size := by rw [← k2 r (List.mem_of_getElem? hk)]; exact (List.getElem?_eq_some_iff.1 hx).1
                  have hxk : (ps.toList.map (·.2))[k]? = some ((ps.toList.map (·.2))[k]) := List.getElem?_eq_getElem hk'
                  rw [q2, flat_get ((ps.toList.map (·.2)).map a.eval) i.size (fun v hv => by obtain ⟨x, hx, rfl⟩ := List.mem_map.1 hv; exact (k3 x hx).1) k j (a.eval ((ps.toList.map (·.2))[k])) (by rw [List.getElem?_map, hxk]; rfl) hj] at hv
                  exact k4 k r _ j x v hk hxk hx hv)
                rw [hrl] at w4
                refine ⟨_, E', val_run' (s := Instr.buildSlice t m (ps.map fun (i, x) => (i, a.eval x))) (by unfold execOp; rw [hop]) ?_, w2, w3, w4⟩
                have e1 : (ps.map fun (p : Nat × Operand) => (p.1, a.eval p.2)) = ((((ps.toList.map (·.2)).map a.eval).zipIdx 0).map fun p => (p.2, p.1)).toArray := by
                  apply Array.toList_inj.1
                  rw [Array.toList_map]
                  exact parts_zip a.eval ps.toList 0 g2
                have e2 : (ps.map fun (x : Nat × Operand) => match x with | (i, x) => (i, a.eval x)) = (ps.map fun (p : Nat × Operand) => (p.1, a.eval p.2)) := rfl
                rw [e2, e1, w1]
                exact q1
              · cases he
            · cases he
          case makeFunc fn first caps =>
            cases fn <;> simp only at he <;> (try cases he)
            split at he
            · obtain ⟨ys, hys, he⟩ := Option.bind_eq_some_iff.1 he; cases he
            · cases he
          all_goals
            exfalso
            have hna : NP (fun e => match e with | .bsl _ _ _ _ => true | _ => false) (some (.bsl el sz m parts)) := by
              rw [← he]
              repeat first | exact NP.none | exact NP.some rfl | (refine NP.bind (fun _ => ?_)) | (refine NP.bind' (fun _ => ?_)) | (refine NP.map (fun _ => rfl)) | (unfold compCall) | split
            exact absurd (hna _ rfl) (by simp)
        · cases h
    · rename_i j want hg
      obtain ⟨s, hs, hc⟩ := Option.map_eq_some_iff.1 hc
      cases hc
      simp [evC] at h
  · cases hc

/-- What makes an object. -/
def evK (S : Tabs) (φ : List (Nat × D)) (os : List Ob) (id : Nat) (o : IOp) : Option (Bool × D × Ob) :=
  match evC φ id o with
  | some r => some r
  | none => match o.g with
    | none => callK S.k φ os id o.e
    | some _ => none
theorem evK_congr (S : Tabs) {φ φ' : List (Nat × D)} (os : List Ob) (id : Nat) {o : IOp} (h : ∀ t ∈ o.reads, Go.Ab.get φ t = Go.Ab.get φ' t) : evK S φ os id o = evK S φ' os id o := by
  unfold evK
  rw [evC_congr id h]
  have : ∀ e, (∀ t ∈ e.reads, Go.Ab.get φ t = Go.Ab.get φ' t) → callK S.k φ os id e = callK S.k φ' os id e := by
    intro e he
    cases e with
    | call f xs =>
      have h1 := opv_congr (x := f) (fun t ht => he t (by simp [IE.reads, ht]))
      have h2 : ∀ y ∈ xs, opv φ y = opv φ' y := fun y hy => opv_congr (fun t ht => he t (by simp only [IE.reads, List.mem_append]; exact .inr (List.mem_flatMap.2 ⟨y, hy, ht⟩)))
      have h3 : (xs.map fun y => (opv φ y).val) = xs.map fun y => (opv φ' y).val := List.map_congr_left (fun y hy => by rw [h2 y hy])
      have h4 : (xs.all fun y => (opv φ y).cond) = xs.all fun y => (opv φ' y).cond := by
        have : ∀ l : List IO, (∀ y ∈ l, opv φ y = opv φ' y) → (l.all fun y => (opv φ y).cond) = l.all fun y => (opv φ' y).cond := by
          intro l
          induction l with
          | nil => intro _; rfl
          | cons y l ih => intro hl; simp only [List.all_cons, hl y (by simp), ih (fun z hz => hl z (by simp [hz]))]
        exact this xs h2
      simp only [callK, h1, h3, h4]
    | _ => rfl
  obtain ⟨dst, e, g⟩ := o
  cases g with
  | some p => rfl
  | none => simp only [this e (fun t ht => h t (by simp [IOp.reads, ht]))]
theorem evK_ok {S : Tabs} (hS : SsOk P S) {Y : List Ob} (R : Rel c E (os ++ Y)) (hf : Fr n E (os ++ Y) φ a) {ops : Array Oper} {o : Oper} {io : IOp} (hc : compOper P n ops o = some io) {id : Nat} (hd : (os ++ Y)[id]? = some .dead) {d : D} {ob : Ob} (h : evK S φ os id io = some (true, d, ob)) {K : Act → World → Prop} {Q : Exit → Act → World → Prop}
    (hK : ∀ v E', Rel c E' ((os ++ Y).set id ob) → Evo E (os ++ Y) E' ((os ++ Y).set id ob) → V E' ((os ++ Y).set id ob) d v → K (a.put o.dst v) E'.w) :
    if Region.wanted o (yielded ops a.tmps) then o.wp P a E.w K Q else K (a.put o.dst undef) E.w := by
  unfold evK at h
  split at h
  · rename_i r hr
    cases h
    exact evC_ok R hf hc hd hr hK
  · split at h
    · rename_i hg
      simp only [compOper, Option.bind_eq_some_iff] at hc
      obtain ⟨e, he, hc⟩ := hc
      split at hc
      · split at hc
        · rename_i hgo
          cases hc
          simp only [Region.wanted, hgo, if_true]
          exact call_new hS.k R hf he hd h hK
        · obtain ⟨s, hs, hc⟩ := Option.map_eq_some_iff.1 hc
          cases hc
          cases hg
      · cases hc
    · cases h

/-- An operation in its turn: its slot's value, the objects behind it. -/
def evA (S : Tabs) (φ : List (Nat × D)) (os : List Ob) (o : IOp) : Option (Bool × D × List Ob) :=
  match o.g with
  | none => match aval S.q φ os o.e with
    | some r => some (r.1, r.2, os)
    | none => actT S φ os o.e
  | some (s, want) => match (Go.Ab.get φ s).val with
    | .x (.bool b) => match aval S.q φ os o.e with
      | some r => some (!((Go.Ab.get φ s).cond && (b == want)) || r.1, .opt ((Go.Ab.get φ s).cond && (b == want)) r.2, os)
      | none => if (Go.Ab.get φ s).cond && (b == want) then actT S φ os o.e else some (true, .opt false .und, os)
    | _ => if (Go.Ab.get φ s).cond then none else some (true, .opt false .und, os)
theorem partsD_congr {φ φ' : List (Nat × D)} {sz : Nat} : ∀ {xs : List IO} {os : List Ob}, (∀ t ∈ xs.flatMap IO.reads, Go.Ab.get φ t = Go.Ab.get φ' t) → partsD φ sz os xs = partsD φ' sz os xs
  | [], os, h => rfl
  | x :: xs, os, h => by
    have hx : opv φ x = opv φ' x := opv_congr fun t ht => h t (by simp [ht])
    have ih : ∀ os, partsD φ sz os xs = partsD φ' sz os xs := fun os => partsD_congr fun t ht => h t (by simp only [List.flatMap_cons, List.mem_append]; exact .inr ht)
    simp only [partsD, hx, ih]
theorem actT_congr (S : Tabs) {φ φ' : List (Nat × D)} (os : List Ob) {e : IE} (h : ∀ t ∈ e.reads, Go.Ab.get φ t = Go.Ab.get φ' t) : actT S φ os e = actT S φ' os e := by
  unfold actT
  have h1 : callT S.t φ os e = callT S.t φ' os e := by
    cases e with
    | call f xs =>
      have h1 := opv_congr (x := f) (fun t ht => h t (by simp [IE.reads, ht]))
      have h2 : ∀ y ∈ xs, opv φ y = opv φ' y := fun y hy => opv_congr (fun t ht => h t (by simp only [IE.reads, List.mem_append]; exact .inr (List.mem_flatMap.2 ⟨y, hy, ht⟩)))
      have h3 : (xs.map fun y => (opv φ y).val) = xs.map fun y => (opv φ' y).val := List.map_congr_left (fun y hy => by rw [h2 y hy])
      have h4 : (xs.all fun y => (opv φ y).cond) = xs.all fun y => (opv φ' y).cond := by
        have : ∀ l : List IO, (∀ y ∈ l, opv φ y = opv φ' y) → (l.all fun y => (opv φ y).cond) = l.all fun y => (opv φ' y).cond := by
          intro l
          induction l with
          | nil => intro _; rfl
          | cons y l ih => intro hl; simp only [List.all_cons, hl y (by simp), ih (fun z hz => hl z (by simp [hz]))]
        exact this xs h2
      simp only [callT, h1, h3, h4]
    | _ => rfl
  have h2 : aact φ os e = aact φ' os e := by
    cases e with
    | box x => simp only [aact, opv_congr (x := x) h]
    | sto n x y => simp only [aact, opv_congr (x := x) (fun t ht => h t (by simp [IE.reads, ht])), opv_congr (x := y) (fun t ht => h t (by simp [IE.reads, ht]))]
    | bsl el sz n xs => simp only [aact, partsD_congr (xs := xs) h]
    | mks el sz b z x y => simp only [aact, opv_congr (x := x) (fun t ht => h t (by simp [IE.reads, ht])), opv_congr (x := y) (fun t ht => h t (by simp [IE.reads, ht]))]
    | app el sz b x y => simp only [aact, opv_congr (x := x) (fun t ht => h t (by simp [IE.reads, ht])), opv_congr (x := y) (fun t ht => h t (by simp [IE.reads, ht]))]
    | cpy sz x y => simp only [aact, opv_congr (x := x) (fun t ht => h t (by simp [IE.reads, ht])), opv_congr (x := y) (fun t ht => h t (by simp [IE.reads, ht]))]
    | s2b el x => simp only [aact, opv_congr (x := x) h]
    | _ => rfl
  rw [h1, h2]
theorem evA_congr (S : Tabs) {φ φ' : List (Nat × D)} (os : List Ob) {o : IOp} (h : ∀ t ∈ o.reads, Go.Ab.get φ t = Go.Ab.get φ' t) : evA S φ os o = evA S φ' os o := by
  obtain ⟨dst, e, g⟩ := o
  cases g with
  | none =>
    have h1 := aval_congr S.q os (e := e) (φ := φ) (φ' := φ') (fun t ht => h t (by simp [IOp.reads, ht]))
    have h2 := actT_congr S os (e := e) (φ := φ) (φ' := φ') (fun t ht => h t (by simp [IOp.reads, ht]))
    simp only [evA, h1, h2]
  | some p =>
    obtain ⟨s, want⟩ := p
    have hs : Go.Ab.get φ s = Go.Ab.get φ' s := h s (by simp [IOp.reads])
    have h1 := aval_congr S.q os (e := e) (φ := φ) (φ' := φ') (fun t ht => h t (by simp [IOp.reads, ht]))
    have h2 := actT_congr S os (e := e) (φ := φ) (φ' := φ') (fun t ht => h t (by simp [IOp.reads, ht]))
    simp only [evA, hs, h1, h2]
theorem evA_ok {S : Tabs} (hS : SsOk P S) (R : Rel c E os) (hf : Fr n E os φ a) {ops : Array Oper} {o : Oper} {io : IOp} (hc : compOper P n ops o = some io) {d : D} {os' : List Ob} (h : evA S φ os io = some (true, d, os')) {K : Act → World → Prop} {Q : Exit → Act → World → Prop}
    (hK : ∀ v E', Rel c E' os' → Evo E os E' os' → V E' os' d v → K (a.put o.dst v) E'.w) :
    if Region.wanted o (yielded ops a.tmps) then o.wp P a E.w K Q else K (a.put o.dst undef) E.w := by
  simp only [compOper, Option.bind_eq_some_iff] at hc
  obtain ⟨e, he, hc⟩ := hc
  split at hc
  · rename_i hdst
    split at hc
    · rename_i hg
      cases hc
      simp only [evA] at h
      simp only [Region.wanted, hg, if_true]
      split at h
      · rename_i r hr
        obtain ⟨ok, d'⟩ := r
        simp at h
        obtain ⟨rfl, rfl, rfl⟩ := h
        exact quiet_wp hS.q R hf he hr hK
      · exact act_wp hS R hf he h hK
    · rename_i j want hg
      obtain ⟨s, hs, hc⟩ := Option.map_eq_some_iff.1 hc
      cases hc
      simp only [evA] at h
      have hwd : Region.wanted o (yielded ops a.tmps) = (yielded ops a.tmps j == some want) := by simp [Region.wanted, hg]
      rw [hwd]
      have un : ∀ d0 : D, d = .opt false d0 → os' = os → K (a.put o.dst undef) E.w := by
        rintro d0 rfl rfl
        exact hK undef E R (Evo.refl _ _) (.opt (fun h => by cases h) (fun _ => rfl))
      split at h
      · rename_i b hb
        rw [yield_some hs hf hb want]
        split at h
        · rename_i r hr
          obtain ⟨ok, d'⟩ := r
          simp only [Option.some.injEq, Prod.mk.injEq] at h
          obtain ⟨h1, rfl, rfl⟩ := h
          cases hw : ((Go.Ab.get φ s).cond && (b == want)) with
          | false =>
            rw [hw] at hK
            simp only [Bool.false_eq_true, if_false]
            exact hK undef E R (Evo.refl _ _) (.opt (fun h => by cases h) (fun _ => rfl))
          | true =>
            rw [hw] at hK h1
            simp at h1
            subst h1
            simp only [if_true]
            exact quiet_wp hS.q R hf he hr (fun v E' R' ev hv => hK v E' R' ev (.opt (fun _ => hv) (fun h => by cases h)))
        · split at h
          · rename_i hw
            rw [if_pos hw]
            exact act_wp hS R hf he h hK
          · rename_i hw
            simp only [Option.some.injEq, Prod.mk.injEq, true_and] at h
            obtain ⟨rfl, rfl⟩ := h
            rw [if_neg hw]
            exact un .und rfl rfl
      · split at h
        · cases h
        · rename_i hw
          simp only [Option.some.injEq, Prod.mk.injEq, true_and] at h
          obtain ⟨rfl, rfl⟩ := h
          rw [yield_none hs hf (by simpa using hw) want]
          simp only [Bool.false_eq_true, if_false]
          exact un .und rfl rfl
  · cases hc

end
end Go.Ab
