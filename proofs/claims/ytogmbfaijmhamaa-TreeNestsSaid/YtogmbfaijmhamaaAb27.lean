/- Calls that read. -/
import Derived.Test.YtogmbfaijmhamaaAb26
namespace Go.Ab
open Go.RowKit Go.Bo

theorem D.ren_ren {F g : Nat → Nat} {p : Nat → Bool} (h : ∀ i, p i = true → F (g i) = i) (d : D) : d.inP p = true → (d.ren g).ren F = d := by
  refine D.rec (motive_1 := fun d => d.inP p = true → (d.ren g).ren F = d) (motive_2 := fun l => inL p l = true → renL F (renL g l) = l) ?_ ?_ ?_ ?_ ?_ ?_ ?_ ?_ ?_ ?_ ?_ ?_ ?_ ?_ d
  all_goals intros
  all_goals first | rfl | (simp only [D.inP, inL, D.ren, renL, Bool.and_eq_true] at *; simp_all)
theorem renL_ren {F g : Nat → Nat} {p : Nat → Bool} (h : ∀ i, p i = true → F (g i) = i) (l : List D) (hl : inL p l = true) : renL F (renL g l) = l := by
  induction l with
  | nil => rfl
  | cons d l ih =>
    simp only [inL, Bool.and_eq_true] at hl
    simp only [renL, D.ren_ren h d hl.1, ih hl.2]
theorem Ob.ren_ren {F g : Nat → Nat} {p : Nat → Bool} (h : ∀ i, p i = true → F (g i) = i) (o : Ob) (hp : o.inP p = true) : (o.ren g).ren F = o := by
  cases o with
  | box ds => simp only [Ob.ren, renL_ren h ds hp]
  | _ => rfl

theorem D.ren_comp {f g : Nat → Nat} (d : D) : (d.ren g).ren f = d.ren (fun i => f (g i)) := by
  refine D.rec (motive_1 := fun d => (d.ren g).ren f = d.ren (fun i => f (g i))) (motive_2 := fun l => renL f (renL g l) = renL (fun i => f (g i)) l) ?_ ?_ ?_ ?_ ?_ ?_ ?_ ?_ ?_ ?_ ?_ ?_ ?_ ?_ d
  all_goals intros
  all_goals first | rfl | (simp only [D.ren, renL] at *; simp_all)
theorem D.ren_congr {f g : Nat → Nat} {p : Nat → Bool} (h : ∀ i, p i = true → f i = g i) (d : D) : d.inP p = true → d.ren f = d.ren g := by
  refine D.rec (motive_1 := fun d => d.inP p = true → d.ren f = d.ren g) (motive_2 := fun l => inL p l = true → renL f l = renL g l) ?_ ?_ ?_ ?_ ?_ ?_ ?_ ?_ ?_ ?_ ?_ ?_ ?_ ?_ d
  all_goals intros
  all_goals first | rfl | (simp only [D.inP, inL, D.ren, renL, Bool.and_eq_true] at *; simp_all)
theorem V.cut {E0 E1 E2 : Env} {OS X : List Ob} (hw : E2.w = E1.w) (hs : E2.st = E1.st) (hob : ∀ i, i < OS.length → E2.ob[i]? = E1.ob[i]?) {d : D} {v0 : Value} (h : V E0 OS d v0) : ∀ {v : Value}, V E1 (OS ++ X) d v → V E2 OS d v := by
  have hst : ∀ b o, E1.st b o → E2.st b o ∧ E2.w.cell? ⟨b, o, none⟩ = E1.w.cell? ⟨b, o, none⟩ := fun b o h => ⟨by rw [hs]; exact h, by rw [hw]⟩
  have sl : ∀ {id : Nat} {o0 : Ob}, OS[id]? = some o0 → ∀ {o : Ob}, (OS ++ X)[id]? = some o → OS[id]? = some o ∧ id < OS.length := by
    intro id o0 h0 o h1
    have hl := (List.getElem?_eq_some_iff.1 h0).1
    rw [List.getElem?_append_left hl] at h1
    exact ⟨h1, hl⟩
  have lst : ∀ {ds : List D} {vs0 vs : Array Value}, ds.length = vs0.size → (∀ (j : Nat) (d : D) (v : Value), ds[j]? = some d → vs0[j]? = some v → ∀ {v : Value}, V E1 (OS ++ X) d v → V E2 OS d v) → (∀ (j : Nat) (d : D) (v : Value), ds[j]? = some d → vs[j]? = some v → V E1 (OS ++ X) d v) → ∀ (j : Nat) (d : D) (v : Value), ds[j]? = some d → vs[j]? = some v → V E2 OS d v := by
    intro ds vs0 vs hl ih hv j d v hd hv'
    have hj := (List.getElem?_eq_some_iff.1 hd).1
    exact ih j d _ hd (Array.getElem?_eq_getElem (by omega)) (hv j d v hd hv')
  induction h with
  | x h => intro v h2; exact .x (h2.xx.mono hst)
  | ref h h1 =>
    intro v h2
    obtain ⟨o, sz, rs, g1, g2, g3⟩ := h
    cases h2 with
    | ref hr h3 =>
      obtain ⟨o', sz', rs', k1, k2, k3, k4⟩ := hr
      obtain ⟨w1, w2⟩ := sl g1 k1
      refine .ref ⟨o', sz', rs', w1, k2, k3, fun hl => ?_⟩ h3
      obtain ⟨h5, b, a, cap, a', cap', h6, h7⟩ := k4 hl
      exact ⟨h5, b, a, cap, a', cap', (hob _ w2).trans h6, h7⟩
  | ptr ho h =>
    intro v h2
    cases h2 with
    | ptr ho2 hb2 =>
      obtain ⟨w1, w2⟩ := sl ho ho2
      exact .ptr w1 ((hob _ w2).trans hb2)
  | eptr h h1 =>
    intro v h2
    obtain ⟨o, sz, rs, g1, g2, g3⟩ := h
    cases h2 with
    | eptr hr h3 =>
      obtain ⟨o', sz', rs', k1, k2, k3, k4⟩ := hr
      obtain ⟨w1, w2⟩ := sl g1 k1
      refine .eptr ⟨o', sz', rs', w1, k2, k3, fun hl => ?_⟩ h3
      obtain ⟨h5, b, g, cap, h6, h7⟩ := k4 hl
      exact ⟨h5, b, g, cap, (hob _ w2).trans h6, h7⟩
  | vptr b off val hc hv =>
    intro v h2
    cases h2 with
    | vptr b off val hc hv => exact .vptr b off val (fun j x hj => ⟨(hst _ _ (hc j x hj).1).1, by rw [(hst _ _ (hc j x hj).1).2]; exact (hc j x hj).2⟩) (fun j x hj => (hv j x hj).mono hst)
  | agg vs hl h1 _ ih =>
    intro v h2
    cases h2 with
    | agg vs' hl' h1' hv' => exact .agg vs' hl' h1' (lst hl ih hv')
  | tup vs hl _ ih =>
    intro v h2
    cases h2 with
    | tup vs' hl' hv' => exact .tup vs' hl' (lst hl ih hv')
  | full n h =>
    intro v h2
    cases h2 with
    | full n h => exact .full n (h.mono hst)
  | nz h =>
    intro v h2
    cases h2 with
    | nz h => exact .nz (h.mono hst)
  | fn vs hl _ ih =>
    intro v h2
    cases h2 with
    | fn vs' hl' hv' => exact .fn vs' hl' (lst hl ih hv')
  | opt _ h' ih =>
    intro v h2
    cases h2 with
    | opt g g' => exact .opt (fun hb => ih hb (g hb)) g'
  | und v => intro v h2; exact .und v

/-- Objects that nobody names may be forgotten. -/
theorem Rel.cut {c : Ctx} {E0 E1 : Env} {OS X : List Ob} {c0 : Ctx} (R0 : Rel c0 E0 OS) (R : Rel c E1 (OS ++ X)) (ev : Evo E0 OS E1 (OS ++ X)) :
    Rel c ⟨E1.w, E1.st, E1.ob.take OS.length⟩ OS ∧ Evo E0 OS ⟨E1.w, E1.st, E1.ob.take OS.length⟩ OS := by
  have hob : ∀ i, i < OS.length → (E1.ob.take OS.length)[i]? = E1.ob[i]? := fun i hi => by rw [List.getElem?_take, if_pos hi]
  have up : ∀ i o, OS[i]? = some o → (OS ++ X)[i]? = some o := fun i o h => by rw [List.getElem?_append_left (List.getElem?_eq_some_iff.1 h).1]; exact h
  have lt : ∀ i o, OS[i]? = some o → i < OS.length := fun i o h => (List.getElem?_eq_some_iff.1 h).1
  refine ⟨⟨by simp [R.len], fun i o p h1 h2 => ?_, fun i j o o' p p' b h1 h2 h3 h4 h5 h6 => ?_, fun b off hs => ⟨(R.stm b off hs).1, fun i o p h1 h2 h3 => ?_⟩, R.kept, fun i o p b h1 h2 h3 => ?_, R.sto⟩, ⟨ev.st, fun id b cu ds ho hb => ?_, fun id o sz rs ho hs => ?_⟩⟩
  · have h2' : E1.ob[i]? = some p := by rw [← hob i (lt i o h1)]; exact h2
    have hok := R.ok i o p (up i o h1) h2'
    obtain ⟨p0, hp0, hok0⟩ := R0.at h1
    cases o with
    | box ds =>
      obtain ⟨cs, ty, g1, g2, g3⟩ := hok
      obtain ⟨cs0, ty0, k1, k2, k3⟩ := hok0
      refine ⟨cs, ty, g1, g2, fun j d v hd hv => ⟨?_, (g3 j d v hd hv).2⟩⟩
      have hj := (List.getElem?_eq_some_iff.1 hd).1
      exact V.cut (E1 := E1) (E2 := ⟨E1.w, E1.st, E1.ob.take OS.length⟩) (X := X) rfl rfl hob (k3 j d _ hd (Array.getElem?_eq_getElem (by omega))).1 (g3 j d v hd hv).1
    | rows fz el sz rs => exact hok
    | frz sz rs => exact hok
    | dead => trivial
  · rw [hob i (lt i o h1)] at h2
    rw [hob j (lt j o' h3)] at h4
    exact R.dis i j o o' p p' b (up i o h1) h2 (up j o' h3) h4 h5 h6
  · rw [hob i (lt i o h1)] at h2
    exact (R.stm b off hs).2 i o p (up i o h1) h2 h3
  · rw [hob i (lt i o h1)] at h2
    exact R.mbs i o p b (up i o h1) h2 h3
  · obtain ⟨cu', ds', g1, g2⟩ := ev.bl id b cu ds ho hb
    rw [List.getElem?_append_left (lt id _ ho)] at g1
    exact ⟨cu', ds', g1, (hob id (lt id _ ho)).trans g2⟩
  · obtain ⟨o', rs', g1, g2, g3⟩ := ev.rf id o sz rs ho hs
    rw [List.getElem?_append_left (lt id _ ho)] at g1
    refine ⟨o', rs', g1, g2, ?_⟩
    rcases g3 with ⟨g3, g4⟩ | g3
    · exact .inl ⟨g3, (hob id (lt id _ ho)).trans g4⟩
    · exact .inr g3

theorem setAll_self : ∀ (ρ : List Nat) (os OS : List Ob), (∀ (i r : Nat), ρ[i]? = some r → ∀ o : Ob, os[i]? = some o → OS[r]? = some o) → setAll OS ρ os = OS
  | [], os, OS, _ => by cases os <;> rfl
  | r :: ρ, [], OS, _ => rfl
  | r :: ρ, o :: os, OS, h => by
    have h0 := h 0 r rfl o rfl
    have hs : OS.set r o = OS := by
      apply List.ext_getElem?
      intro j
      rw [List.getElem?_set]
      split
      · rename_i hj; subst hj
        rw [h0, if_pos (List.getElem?_eq_some_iff.1 h0).1]
      · rfl
    simp only [setAll, hs]
    exact setAll_self ρ os OS (fun i r hi o ho => h (i + 1) r (by simpa using hi) o (by simpa using ho))

theorem plain_ren {F : Nat → Nat} {d : D} (h : d.plain = true) : d.ren F = d := by
  cases d with
  | agg ds =>
    have : ∀ l : List D, l.all D.isX = true → renL F l = l := by
      intro l
      induction l with
      | nil => intro _; rfl
      | cons d l ih =>
        intro hl
        simp only [List.all_cons, Bool.and_eq_true] at hl
        simp only [renL, ih hl.2]
        cases d with
        | x y => rfl
        | _ => exact absurd hl.1 (by simp [D.isX])
    simp only [D.ren, this ds h]
  | fn g caps =>
    cases caps with
    | nil => rfl
    | cons => exact absurd h (by simp [D.plain])
  | x y => rfl
  | _ => exact absurd h (by simp [D.plain])
theorem clean_ren {F : Nat → Nat} {d : D} (h : d.clean = true) : d.ren F = d := by
  cases d with
  | tup ds =>
    have : ∀ l : List D, l.all D.plain = true → renL F l = l := by
      intro l
      induction l with
      | nil => intro _; rfl
      | cons d l ih =>
        intro hl
        simp only [List.all_cons, Bool.and_eq_true] at hl
        simp only [renL, ih hl.2, plain_ren hl.1]
    simp only [D.ren, this ds h]
  | _ => exact plain_ren h

theorem RCalls.of {P : Program} {f : FuncId} {ρ : List Nat} {args : List D} {os X : List Ob} {r : D} (hok : fpOk ρ args os = true) (h : MCalls P f (renL (inv ρ) args) (fpO ρ os) r (fpO ρ os ++ X)) (hr : r.clean = true) : RCalls P f args os r := by
  intro Y c E vs R hvl
  have hok0 := hok
  simp only [fpOk, Bool.and_eq_true] at hok
  obtain ⟨h1, h2, h3, h4⟩ := hok
  have hlt : ∀ r ∈ ρ, r < os.length := fun r hr => by simpa using List.all_eq_true.1 h1 r hr
  have hgd : ∀ r ∈ ρ, (os ++ Y).getD r .dead = os.getD r .dead := fun r hr => by simp [List.getD, List.getElem?_append_left (hlt r hr)]
  have hfp : fpO ρ (os ++ Y) = fpO ρ os := List.map_congr_left (fun r hr => by rw [hgd r hr])
  have hok' : fpOk ρ args (os ++ Y) = true := by
    simp only [fpOk, Bool.and_eq_true]
    refine ⟨List.all_eq_true.2 (fun r hr => by have := hlt r hr; simp; omega), h2, List.all_eq_true.2 (fun r hr => by rw [hgd r hr]; exact List.all_eq_true.1 h3 r hr), h4⟩
  have hf : FCalls P f (renL (inv ρ) args) (fpO ρ (os ++ Y)) (fun r' os2 => r' = r ∧ os2 = fpO ρ os ++ X) := by
    intro c E vs R hvl
    rw [hfp] at R hvl
    refine (h c E vs R hvl).mono ?_
    rintro e w' ⟨v, E', rfl, rfl, R', ev, hv⟩
    exact ⟨v, E', _, _, rfl, rfl, R', by rw [hfp]; exact ev, hv, rfl, rfl⟩
  refine ((FCalls.lift hok' hf (fun r os' ⟨_, h⟩ => by rw [h]; simp [fpO])) c E vs R hvl).mono ?_
  rintro e w' ⟨v, E', r2, os2, rfl, rfl, R', ev, hv, r3, os3, ⟨rfl, rfl⟩, rfl, rfl⟩
  rw [clean_ren hr] at hv
  have hsame : ∃ X', fpO' ρ (os ++ Y) (fpO ρ os ++ X) = (os ++ Y) ++ X' := by
    refine ⟨((fpO ρ os ++ X).map (Ob.ren (fpF ρ (os ++ Y).length (fpO ρ os ++ X).length))).drop ρ.length, ?_⟩
    unfold fpO'
    rw [setAll_self]
    intro i r hi o ho
    rw [List.map_append, List.getElem?_append_left (by simp [fpO]; exact (List.getElem?_eq_some_iff.1 hi).1)] at ho
    simp only [fpO, List.map_map, List.getElem?_map, hi, Option.map_some, Option.some.injEq, Function.comp] at ho
    have hm := List.mem_of_getElem? hi
    have hl := hlt r hm
    have hr' : os[r]? = some (os[r]'hl) := List.getElem?_eq_getElem _
    rw [List.getElem?_append_left hl, hr', ← ho]
    simp only [List.getD, hr', Option.getD_some]
    have hin := List.all_eq_true.1 h3 r hm
    simp only [List.getD, hr', Option.getD_some] at hin
    rw [Ob.ren_ren (p := fun i => memB i ρ) (fun i hi => ?_) _ hin]
    have hg := inv_get (memB_iff.1 hi)
    simp only [fpF, (List.getElem?_eq_some_iff.1 hg).1, if_true, List.getD, hg, Option.getD_some]
  obtain ⟨X', hX⟩ := hsame
  rw [hX] at R' ev
  obtain ⟨R2, e2⟩ := R.cut R' ev
  exact ⟨v, ⟨E'.w, E'.st, E'.ob.take (os ++ Y).length⟩, rfl, rfl, R2, e2, hv.ofClean hr (fun x v hx => hx)⟩

/-- A new row goes to the place that was kept for it. -/
theorem Rel.move {c c0 : Ctx} {E0 E1 : Env} {OS : List Ob} {ob : Ob} {id : Nat} (R0 : Rel c0 E0 OS) (hd : OS[id]? = some .dead) (hrow : ∃ fz e sz rs, ob = .rows fz e sz rs) (R : Rel c E1 (OS ++ [ob])) (ev : Evo E0 OS E1 (OS ++ [ob])) :
    ∃ E2, E2.w = E1.w ∧ Rel c E2 (OS.set id ob) ∧ Evo E0 OS E2 (OS.set id ob) ∧ ∀ d v, V E1 (OS ++ [ob]) d v → V E2 (OS.set id ob) (d.ren fun i => if i = OS.length then id else i) v := by
  obtain ⟨Rc, ec⟩ := R0.cut R ev
  have hidl : id < OS.length := (List.getElem?_eq_some_iff.1 hd).1
  have hlen : E1.ob.length = OS.length + 1 := by rw [R.len]; simp
  have hp : E1.ob[OS.length]? = some (E1.ob[OS.length]'(by omega)) := List.getElem?_eq_getElem _
  generalize E1.ob[OS.length]'(by omega) = p at hp
  have htk : ∀ i, i < OS.length → (E1.ob.take OS.length)[i]? = E1.ob[i]? := fun i hi => by rw [List.getElem?_take, if_pos hi]
  have goS : ∀ j, j ≠ id → (OS.set id ob)[j]? = OS[j]? := fun j hj => List.getElem?_set_ne (fun e => hj e.symm)
  have goE : ∀ j, j ≠ id → ((E1.ob.take OS.length).set id p)[j]? = (E1.ob.take OS.length)[j]? := fun j hj => List.getElem?_set_ne (fun e => hj e.symm)
  have atS : (OS.set id ob)[id]? = some ob := List.getElem?_set_self hidl
  have atE : ((E1.ob.take OS.length).set id p)[id]? = some p := List.getElem?_set_self (by simp [hlen]; omega)
  have up : ∀ (i : Nat) (o : Ob), OS[i]? = some o → (OS ++ [ob])[i]? = some o := fun i o h => by rw [List.getElem?_append_left (List.getElem?_eq_some_iff.1 h).1]; exact h
  have upn : (OS ++ [ob])[OS.length]? = some ob := by simp
  let E2 : Env := ⟨E1.w, E1.st, (E1.ob.take OS.length).set id p⟩
  have e2 : Evo ⟨E1.w, E1.st, E1.ob.take OS.length⟩ OS E2 (OS.set id ob) := by
    refine ⟨fun b o h => ⟨h, rfl⟩, fun i b cu ds ho hb => ?_, fun i o sz rs ho hs => ?_⟩
    · have hi : i ≠ id := fun e => by subst e; rw [hd] at ho; cases ho
      exact ⟨cu, ds, (goS i hi).trans ho, (goE i hi).trans hb⟩
    · have hi : i ≠ id := fun e => by subst e; rw [hd] at ho; cases ho; cases hs
      exact ⟨o, rs, (goS i hi).trans ho, hs, .inl ⟨rfl, goE i hi⟩⟩
  -- where it stood
  have at' : ∀ (j : Nat) (o : Ob) (q : Nat × Value), (OS.set id ob)[j]? = some o → E2.ob[j]? = some q → (OS ++ [ob])[if j = id then OS.length else j]? = some o ∧ E1.ob[if j = id then OS.length else j]? = some q ∧ (j ≠ id → OS[j]? = some o ∧ (E1.ob.take OS.length)[j]? = some q) ∧ j < OS.length := by
    intro j o q ho hq
    have hjl : j < OS.length := by have := (List.getElem?_eq_some_iff.1 ho).1; simpa using this
    by_cases hj : j = id
    · subst hj
      rw [atS] at ho; cases ho
      have : E2.ob[j]? = some p := atE
      rw [this] at hq; cases hq
      exact ⟨by rw [if_pos rfl]; exact upn, by rw [if_pos rfl]; exact hp, fun h => absurd rfl h, hjl⟩
    · rw [goS j hj] at ho
      have hq' : (E1.ob.take OS.length)[j]? = some q := by rw [← goE j hj]; exact hq
      rw [if_neg hj]
      exact ⟨up j o ho, by rw [← htk j hjl]; exact hq', fun _ => ⟨ho, hq'⟩, hjl⟩
  have evr : EvoR (fun i => if i = OS.length then id else i) (fun _ => true) E1 (OS ++ [ob]) E2 (OS.set id ob) := by
    refine ⟨fun b o h => ⟨h, rfl⟩, fun i b cu ds _ ho hb => ?_, fun i o sz rs _ ho hs => ?_⟩
    · have hil : i < OS.length := by
        rcases Nat.lt_or_ge i OS.length with h | h
        · exact h
        · exfalso
          have := (List.getElem?_eq_some_iff.1 ho).1
          simp at this
          have : i = OS.length := by omega
          subst this
          rw [upn] at ho
          obtain ⟨fz, e, sz, rs, rfl⟩ := hrow
          cases ho
      have hne : i ≠ OS.length := by omega
      rw [List.getElem?_append_left hil] at ho
      have hi : i ≠ id := fun e => by subst e; rw [hd] at ho; cases ho
      rw [if_neg hne]
      exact ⟨cu, ds, (goS i hi).trans ho, (goE i hi).trans ((htk i hil).trans hb)⟩
    · by_cases hn : i = OS.length
      · subst hn
        rw [if_pos rfl]
        rw [upn] at ho; cases ho
        exact ⟨ob, rs, atS, hs, .inl ⟨rfl, by rw [hp]; exact atE⟩⟩
      · have hil : i < OS.length := by
          have := (List.getElem?_eq_some_iff.1 ho).1
          simp at this; omega
        rw [List.getElem?_append_left hil] at ho
        have hi : i ≠ id := fun e => by subst e; rw [hd] at ho; cases ho; cases hs
        rw [if_neg hn]
        exact ⟨o, rs, (goS i hi).trans ho, hs, .inl ⟨rfl, (goE i hi).trans (htk i hil)⟩⟩
  refine ⟨E2, rfl, ⟨by simp [E2, hlen], fun j o q h1 h2 => ?_, fun i j o o' q q' b h1 h2 h3 h4 h5 h6 => ?_, fun b off hs => ⟨(R.stm b off hs).1, fun j o q h1 h2 h3 => ?_⟩, R.kept, fun j o q b h1 h2 h3 => ?_, R.sto⟩, ec.trans e2, fun d v hv => hv.monoR evr (inP_true d)⟩
  · obtain ⟨k1, k2, k3, k4⟩ := at' j o q h1 h2
    by_cases hj : j = id
    · subst hj
      rw [if_pos rfl] at k1 k2
      have hok := R.ok _ o q k1 k2
      rw [atS] at h1; cases h1
      obtain ⟨fz, e, sz, rs, rfl⟩ := hrow
      exact hok
    · obtain ⟨g1, g2⟩ := k3 hj
      exact (Rc.ok j o q g1 g2).mono e2 (fun _ _ => rfl)
  · obtain ⟨k1, k2, _, k4⟩ := at' i o q h1 h2
    obtain ⟨g1, g2, _, g4⟩ := at' j o' q' h3 h4
    have := R.dis _ _ o o' q q' b k1 k2 g1 g2 h5 h6
    by_cases hi : i = id <;> by_cases hj : j = id
    · omega
    · rw [if_pos hi, if_neg hj] at this; omega
    · rw [if_neg hi, if_pos hj] at this; omega
    · rw [if_neg hi, if_neg hj] at this; exact this
  · obtain ⟨k1, k2, _, _⟩ := at' j o q h1 h2
    exact (R.stm b off hs).2 _ o q k1 k2 h3
  · obtain ⟨k1, k2, _, _⟩ := at' j o q h1 h2
    exact R.mbs _ o q b k1 k2 h3

theorem KCalls.of {P : Program} {f : FuncId} {ρ : List Nat} {args : List D} {os : List Ob} {ob : Ob} {r : D} (hok : fpOk ρ args os = true) (hrow : ∃ fz e sz rs, ob = .rows fz e sz rs) (hr : r.inP (fun i => Nat.ble i ρ.length) = true) (h : MCalls P f (renL (inv ρ) args) (fpO ρ os) r (fpO ρ os ++ [ob])) :
    KCalls P f args os (fun id => r.ren fun i => if i < ρ.length then ρ.getD i 0 else id) ob := by
  intro Y id c E vs hd R hvl
  have hok0 := hok
  simp only [fpOk, Bool.and_eq_true] at hok
  obtain ⟨h1, h2, h3, h4⟩ := hok
  have hlt : ∀ r ∈ ρ, r < os.length := fun r hr => by simpa using List.all_eq_true.1 h1 r hr
  have hgd : ∀ r ∈ ρ, (os ++ Y).getD r .dead = os.getD r .dead := fun r hr => by simp [List.getD, List.getElem?_append_left (hlt r hr)]
  have hfp : fpO ρ (os ++ Y) = fpO ρ os := List.map_congr_left (fun r hr => by rw [hgd r hr])
  have hok' : fpOk ρ args (os ++ Y) = true := by
    simp only [fpOk, Bool.and_eq_true]
    refine ⟨List.all_eq_true.2 (fun r hr => by have := hlt r hr; simp; omega), h2, List.all_eq_true.2 (fun r hr => by rw [hgd r hr]; exact List.all_eq_true.1 h3 r hr), h4⟩
  have hf : FCalls P f (renL (inv ρ) args) (fpO ρ (os ++ Y)) (fun r' os2 => r' = r ∧ os2 = fpO ρ os ++ [ob]) := by
    intro c E vs R hvl
    rw [hfp] at R hvl
    refine (h c E vs R hvl).mono ?_
    rintro e w' ⟨v, E', rfl, rfl, R', ev, hv⟩
    exact ⟨v, E', _, _, rfl, rfl, R', by rw [hfp]; exact ev, hv, rfl, rfl⟩
  refine ((FCalls.lift hok' hf (fun r os' ⟨_, h⟩ => by rw [h]; simp [fpO])) c E vs R hvl).mono ?_
  rintro e w' ⟨v, E', r2, os2, rfl, rfl, R', ev, hv, r3, os3, ⟨rfl, rfl⟩, rfl, rfl⟩
  have hsame : fpO' ρ (os ++ Y) (fpO ρ os ++ [ob]) = (os ++ Y) ++ [ob] := by
    unfold fpO'
    rw [setAll_self]
    · congr 1
      have hl : ((fpO ρ os).map (Ob.ren (fpF ρ (os ++ Y).length (fpO ρ os ++ [ob]).length))).length = ρ.length := by simp [fpO]
      rw [List.map_append, ← hl, List.drop_left]
      obtain ⟨fz, e, sz, rs, rfl⟩ := hrow
      rfl
    intro i r hi o ho
    rw [List.map_append, List.getElem?_append_left (by simp [fpO]; exact (List.getElem?_eq_some_iff.1 hi).1)] at ho
    simp only [fpO, List.map_map, List.getElem?_map, hi, Option.map_some, Option.some.injEq, Function.comp] at ho
    have hm := List.mem_of_getElem? hi
    have hl := hlt r hm
    have hr' : os[r]? = some (os[r]'hl) := List.getElem?_eq_getElem _
    rw [List.getElem?_append_left hl, hr', ← ho]
    simp only [List.getD, hr', Option.getD_some]
    have hin := List.all_eq_true.1 h3 r hm
    simp only [List.getD, hr', Option.getD_some] at hin
    rw [Ob.ren_ren (p := fun i => memB i ρ) (fun i hi => ?_) _ hin]
    have hg := inv_get (memB_iff.1 hi)
    simp only [fpF, (List.getElem?_eq_some_iff.1 hg).1, if_true, List.getD, hg, Option.getD_some]
  rw [hsame] at R' ev hv
  obtain ⟨E2, q1, q2, q3, q4⟩ := R.move hd hrow R' ev
  refine ⟨v, E2, rfl, q1, q2, q3, ?_⟩
  have := q4 _ v hv
  rw [D.ren_comp] at this
  have hfun : (fun i => (fun i => if i = (os ++ Y).length then id else i) (fpF ρ (os ++ Y).length (fpO ρ os ++ [ob]).length i)) = fun i => if i < ρ.length then ρ.getD i 0 else (if i = ρ.length then id else (os ++ Y).length + (i - ρ.length)) := by
    funext i
    simp only [fpF]
    by_cases hi : i < ρ.length
    · have hr : ρ[i]? = some (ρ[i]'hi) := List.getElem?_eq_getElem hi
      have hrl := hlt _ (List.getElem_mem hi)
      have : ρ.getD i 0 ≠ (os ++ Y).length := by simp only [List.getD, hr, Option.getD_some]; simp; omega
      simp only [hi, if_true, this, if_false]
    · simp only [hi, if_false]
      by_cases h2 : i = ρ.length
      · subst h2; simp
      · have : ¬ ((os ++ Y).length + (i - ρ.length) = (os ++ Y).length) := by omega
        simp only [this, h2, if_false]
  rw [hfun, D.ren_congr (g := fun i => if i < ρ.length then ρ.getD i 0 else id) (fun i hi => ?_) _ hr] at this
  · exact this
  · have hi : i ≤ ρ.length := by simpa using hi
    by_cases h1 : i < ρ.length
    · simp only [h1, if_true]
    · have h2 : i = ρ.length := by omega
      simp only [h2, if_true, Nat.lt_irrefl, if_false]

/-- What a function reads, wherever the objects stand. -/
def readT (g : List D → List Ob → Option (Bool × D)) (args : List D) (OS : List Ob) : Option (Bool × D) :=
  if fpOk (reach OS 64 (idsL args) []) args OS = true then g (renL (inv (reach OS 64 (idsL args) [])) args) (fpO (reach OS 64 (idsL args) []) OS) else none
theorem readT_ok {P : Program} {f : FuncId} {g : List D → List Ob → Option (Bool × D)} (hg : ∀ args os r, g args os = some (true, r) → r.clean = true ∧ ∃ X, MCalls P f args os r (os ++ X)) :
    ∀ args OS r, readT g args OS = some (true, r) → RCalls P f args OS r := by
  intro args OS r h
  unfold readT at h
  split at h
  · rename_i hok
    obtain ⟨h1, X, h2⟩ := hg _ _ _ h
    exact RCalls.of hok h2 h1
  · cases h
theorem RCalls.mcalls {P : Program} {f : FuncId} {args : List D} {os : List Ob} {r : D} (h : RCalls P f args os r) : MCalls P f args os r os := by
  intro c E vs R hvl
  have := h [] c E vs (by simpa using R) (by simpa using hvl)
  simpa using this
/-- A contract of a function that reads. -/
def addR (S : Tabs) (f : FuncId) (g : List D → List Ob → Option (Bool × D)) : Tabs :=
  ⟨S.q, fun f' args os => if f' = f then (readT g args os).map fun r => (r.1, r.2, os) else S.t f' args os, fun f' args os => if f' = f then readT g args os else S.r f' args os, S.k⟩
theorem addR_ok {P : Program} {S : Tabs} (hS : SsOk P S) {f : FuncId} {g : List D → List Ob → Option (Bool × D)} (he : Enters P f) (hg : ∀ args os r, g args os = some (true, r) → r.clean = true ∧ ∃ X, MCalls P f args os r (os ++ X)) : SsOk P (addR S f g) := by
  refine ⟨hS.q, fun f' args os r os' h => ?_, fun f' args os r h => ?_, hS.k⟩
  · simp only [addR] at h
    split at h
    · rename_i hf; subst hf
      obtain ⟨⟨b, r'⟩, h1, h2⟩ := Option.map_eq_some_iff.1 h
      simp only [Prod.mk.injEq] at h2
      obtain ⟨rfl, rfl, rfl⟩ := h2
      exact ⟨he, (readT_ok hg _ _ _ h1).mcalls⟩
    · exact hS.t f' args os r os' h
  · simp only [addR] at h
    split at h
    · rename_i hf; subst hf
      exact ⟨he, readT_ok hg _ _ _ h⟩
    · exact hS.r f' args os r h

/-- What a function makes: one row, wherever the objects stand. -/
def newT (g : List D → List Ob → Option (Bool × D × Ob)) (args : List D) (OS : List Ob) : Option (Bool × (Nat → D) × Ob) :=
  if fpOk (reach OS 64 (idsL args) []) args OS = true then (g (renL (inv (reach OS 64 (idsL args) [])) args) (fpO (reach OS 64 (idsL args) []) OS)).bind fun q =>
    if q.2.1.inP (fun i => Nat.ble i (reach OS 64 (idsL args) []).length) = true then some (q.1, fun id => q.2.1.ren fun i => if i < (reach OS 64 (idsL args) []).length then (reach OS 64 (idsL args) []).getD i 0 else id, q.2.2) else none
  else none
theorem newT_ok {P : Program} {f : FuncId} {g : List D → List Ob → Option (Bool × D × Ob)} (hg : ∀ args os r ob, g args os = some (true, r, ob) → (∃ fz e sz rs, ob = .rows fz e sz rs) ∧ MCalls P f args os r (os ++ [ob])) :
    ∀ args OS r ob, newT g args OS = some (true, r, ob) → KCalls P f args OS r ob := by
  intro args OS r ob h
  unfold newT at h
  split at h
  · rename_i hok
    obtain ⟨⟨b, d, ob'⟩, h1, h2⟩ := Option.bind_eq_some_iff.1 h
    simp only at h2
    split at h2
    · rename_i hin
      simp only [Option.some.injEq, Prod.mk.injEq] at h2
      obtain ⟨rfl, rfl, rfl⟩ := h2
      obtain ⟨k1, k2⟩ := hg _ _ _ _ h1
      exact KCalls.of hok k1 hin k2
    · cases h2
  · cases h
/-- A contract of a function that makes one row. -/
def addK (S : Tabs) (f : FuncId) (g : List D → List Ob → Option (Bool × D × Ob)) : Tabs :=
  ⟨S.q, fun f' args os => if f' = f then liftT (fun args os => (g args os).map fun q => (q.1, q.2.1, os ++ [q.2.2])) args os else S.t f' args os, S.r, fun f' args os => if f' = f then newT g args os else S.k f' args os⟩
theorem addK_ok {P : Program} {S : Tabs} (hS : SsOk P S) {f : FuncId} {g : List D → List Ob → Option (Bool × D × Ob)} (he : Enters P f) (hg : ∀ args os r ob, g args os = some (true, r, ob) → (∃ fz e sz rs, ob = .rows fz e sz rs) ∧ MCalls P f args os r (os ++ [ob])) : SsOk P (addK S f g) := by
  refine ⟨hS.q, fun f' args os r os' h => ?_, hS.r, fun f' args os r ob h => ?_⟩
  · simp only [addK] at h
    split at h
    · rename_i hf; subst hf
      refine ⟨he, MCalls.lift (fun args os r os' h => ?_) args os r os' h⟩
      obtain ⟨⟨b, d, ob⟩, h1, h2⟩ := Option.map_eq_some_iff.1 h
      simp only [Prod.mk.injEq] at h2
      obtain ⟨rfl, rfl, rfl⟩ := h2
      exact (hg _ _ _ _ h1).2
    · exact hS.t f' args os r os' h
  · simp only [addK] at h
    split at h
    · rename_i hf; subst hf
      exact ⟨he, newT_ok hg _ _ _ _ h⟩
    · exact hS.k f' args os r ob h

end Go.Ab
