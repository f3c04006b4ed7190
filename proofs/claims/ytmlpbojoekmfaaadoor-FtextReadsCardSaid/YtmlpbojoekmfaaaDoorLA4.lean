/- LA4: Ab27, Ab28, AbQ, Ab29, AbE, Ab30, Ab31, Ab32, AbP, Ab33, Ab34, Ab35, AbS, AbJ. -/
import Derived.Test.YtmlpbojoekmfaaaDoorLA3
import Derived.IntWalk
import Derived.Test.YtmlpbojoekmfaaaDoorLA1
import Derived.LoopN
import Derived.Lib.SlKeysI
section
/- Calls that read. -/
namespace Go.Ab
open Go.RowKit Go.Bo

theorem D.ren_ren {F g : Nat → Nat} {p : Nat → Bool} (h : ∀ i, p i = true → F (g i) = i) (d : D) : d.inP p = true → (d.ren g).ren F = d := by
  refine D.rec (motive_1 := fun d => d.inP p = true → (d.ren g).ren F = d) (motive_2 := fun l => inL p l = true → renL F (renL g l) = l) ?_ ?_ ?_ ?_ ?_ ?_ ?_ ?_ ?_ ?_ ?_ ?_ ?_ ?_ ?_ ?_ ?_ ?_ ?_ d
  all_goals intros
  all_goals first | rfl | (simp only [D.inP, inL, D.ren, renL, Bool.and_eq_true] at *; simp_all)
theorem renL_ren {F g : Nat → Nat} {p : Nat → Bool} (h : ∀ i, p i = true → F (g i) = i) (l : List D) (hl : inL p l = true) : renL F (renL g l) = l := by
  induction l with
  | nil => rfl
  | cons d l ih =>
    simp only [inL, Bool.and_eq_true] at hl
    simp only [renL, D.ren_ren h d hl.1, ih hl.2]
theorem renP_ren {F g : Nat → Nat} {p : Nat → Bool} (h : ∀ i, p i = true → F (g i) = i) (q : Pr) (hp : inPr p q = true) : renP F (renP g q) = q := by
  simp only [renP, renL_ren h q.2 hp]
theorem mapP_ren {F g : Nat → Nat} {p : Nat → Bool} (h : ∀ i, p i = true → F (g i) = i) (l : List Pr) (hp : l.all (inPr p) = true) : (l.map (renP g)).map (renP F) = l := by
  rw [List.map_map]
  conv => rhs; rw [← List.map_id l]
  exact List.map_congr_left fun q hq => renP_ren h q (List.all_eq_true.1 hp q hq)
theorem Ob.ren_ren {F g : Nat → Nat} {p : Nat → Bool} (h : ∀ i, p i = true → F (g i) = i) (o : Ob) (hp : o.inP p = true) : (o.ren g).ren F = o := by
  cases o with
  | box ds => simp only [Ob.ren, renL_ren h ds hp]
  | mpo dk ag l => simp only [Ob.ren, mapP_ren h l hp]
  | mit dk ag l it R cur =>
    simp only [Ob.inP, Bool.and_eq_true] at hp
    have hc : (cur.map (renP g)).map (renP F) = cur := by
      cases cur with
      | none => rfl
      | some q => simp only [Option.map_some, renP_ren h q hp.2.2.2]
    simp only [Ob.ren, mapP_ren h l hp.1, mapP_ren h R hp.2.2.1, hc, h it hp.2.1]
  | mpn dk ag l key sid =>
    simp only [Ob.inP, Bool.and_eq_true] at hp
    simp only [Ob.ren, mapP_ren h l hp.1, h sid hp.2]
  | _ => rfl

theorem D.ren_comp {f g : Nat → Nat} (d : D) : (d.ren g).ren f = d.ren (fun i => f (g i)) := by
  refine D.rec (motive_1 := fun d => (d.ren g).ren f = d.ren (fun i => f (g i))) (motive_2 := fun l => renL f (renL g l) = renL (fun i => f (g i)) l) ?_ ?_ ?_ ?_ ?_ ?_ ?_ ?_ ?_ ?_ ?_ ?_ ?_ ?_ ?_ ?_ ?_ ?_ ?_ d
  all_goals intros
  all_goals first | rfl | (simp only [D.ren, renL] at *; simp_all)
theorem D.ren_congr {f g : Nat → Nat} {p : Nat → Bool} (h : ∀ i, p i = true → f i = g i) (d : D) : d.inP p = true → d.ren f = d.ren g := by
  refine D.rec (motive_1 := fun d => d.inP p = true → d.ren f = d.ren g) (motive_2 := fun l => inL p l = true → renL f l = renL g l) ?_ ?_ ?_ ?_ ?_ ?_ ?_ ?_ ?_ ?_ ?_ ?_ ?_ ?_ ?_ ?_ ?_ ?_ ?_ d
  all_goals intros
  all_goals first | rfl | (simp only [D.inP, inL, D.ren, renL, Bool.and_eq_true] at *; simp_all)
theorem V.cut {E0 E1 E2 : Env} {OS X : List Ob} (hw : E2.w = E1.w) (hs : E2.st = E1.st) (hob : ∀ i, i < OS.length → E2.ob[i]? = E1.ob[i]?) {d : D} {v0 : Value} (h : V E0 OS d v0) : ∀ {v : Value}, V E1 (OS ++ X) d v → V E2 OS d v := by
  have hst : ∀ b o, E1.st b o → E2.st b o ∧ E2.w.cell? ⟨b, o, none⟩ = E1.w.cell? ⟨b, o, none⟩ := fun b o h => ⟨by rw [hs]; exact h, by rw [hw]⟩
  have sl : ∀ {id : Nat} {o0 : Ob}, OS[id]? = some o0 → ∀ {o : Ob}, (OS ++ X)[id]? = some o → OS[id]? = some o ∧ id < OS.length := by
    intro id o0 h0 o h1
    have hl := (List.getElem?_eq_some_iff.1 h0).1
    rw [List.getElem?_append_left hl] at h1
    exact ⟨h1, hl⟩
  have lst : ∀ {ds : List D} {vs0 vs : Array Value}, ds.length = vs0.size → (∀ (j : Nat) (d : D) (v : Value), ds[j]? = some d → vs0[j]? = some v → ∀ {v : Value}, V E1 (OS ++ X) d v → V E2 OS d v) → (∀ (j : Nat) (d : D) (v : Value), ds[j]? = some d → vs[j]? = some v → V E1 (OS ++ X) d v) → ∀ (j : Nat) (d : D) (v : Value), ds[j]? = some d → vs[j]? = some v → V E2 OS d v := by
    intro ds vs0 vs hl ih hv j d v hd hv'
    have hj := (List.getElem?_eq_some_iff.1 hd).1
    exact ih j d _ hd (Array.getElem?_eq_getElem (by omega)) (hv j d v hd hv')
  induction h with
  | x h => intro v h2; exact .x (h2.xx.mono hst)
  | ref h h1 =>
    intro v h2
    obtain ⟨o, sz, rs, g1, g2, g3⟩ := h
    cases h2 with
    | ref hr h3 =>
      obtain ⟨o', sz', rs', k1, k2, k3, k4⟩ := hr
      obtain ⟨w1, w2⟩ := sl g1 k1
      refine .ref ⟨o', sz', rs', w1, k2, k3, fun hl => ?_⟩ h3
      obtain ⟨h5, b, a, cap, a', cap', h6, h7⟩ := k4 hl
      exact ⟨h5, b, a, cap, a', cap', (hob _ w2).trans h6, h7⟩
  | ptr ho h =>
    intro v h2
    cases h2 with
    | ptr ho2 hb2 =>
      obtain ⟨w1, w2⟩ := sl ho ho2
      exact .ptr w1 ((hob _ w2).trans hb2)
  | eptr h h1 =>
    intro v h2
    obtain ⟨o, sz, rs, g1, g2, g3⟩ := h
    cases h2 with
    | eptr hr h3 =>
      obtain ⟨o', sz', rs', k1, k2, k3, k4⟩ := hr
      obtain ⟨w1, w2⟩ := sl g1 k1
      refine .eptr ⟨o', sz', rs', w1, k2, k3, fun hl => ?_⟩ h3
      obtain ⟨h5, b, g, cap, h6, h7⟩ := k4 hl
      exact ⟨h5, b, g, cap, (hob _ w2).trans h6, h7⟩
  | mref ho hk h =>
    intro v h2
    cases h2 with
    | mref ho2 hk2 hb2 =>
      obtain ⟨w1, w2⟩ := sl ho ho2
      exact .mref w1 hk2 ((hob _ w2).trans hb2)
  | mnil => intro v h2; cases h2; exact .mnil
  | iref ho hk h =>
    intro v h2
    cases h2 with
    | iref ho2 hk2 hb2 =>
      obtain ⟨w1, w2⟩ := sl ho ho2
      exact .iref w1 hk2 ((hob _ w2).trans hb2)
  | stk ho hk h =>
    intro v h2
    cases h2 with
    | stk ho2 hk2 hb2 =>
      obtain ⟨w1, w2⟩ := sl ho ho2
      exact .stk w1 hk2 ((hob _ w2).trans hb2)
  | bref ho h hm =>
    intro v h2
    cases h2 with
    | bref ho2 hb2 hm2 =>
      obtain ⟨w1, w2⟩ := sl ho ho2
      exact .bref w1 ((hob _ w2).trans hb2) hm2
  | vptr b off val hc hv =>
    intro v h2
    cases h2 with
    | vptr b off val hc hv => exact .vptr b off val (fun j x hj => ⟨(hst _ _ (hc j x hj).1).1, by rw [(hst _ _ (hc j x hj).1).2]; exact (hc j x hj).2⟩) (fun j x hj => (hv j x hj).mono hst)
  | agg vs hl h1 _ ih =>
    intro v h2
    cases h2 with
    | agg vs' hl' h1' hv' => exact .agg vs' hl' h1' (lst hl ih hv')
  | tup vs hl _ ih =>
    intro v h2
    cases h2 with
    | tup vs' hl' hv' => exact .tup vs' hl' (lst hl ih hv')
  | full n h =>
    intro v h2
    cases h2 with
    | full n h => exact .full n (h.mono hst)
  | nz h =>
    intro v h2
    cases h2 with
    | nz h => exact .nz (h.mono hst)
  | fn vs hl _ ih =>
    intro v h2
    cases h2 with
    | fn vs' hl' hv' => exact .fn vs' hl' (lst hl ih hv')
  | opt _ h' ih =>
    intro v h2
    cases h2 with
    | opt g g' => exact .opt (fun hb => ih hb (g hb)) g'
  | und v => intro v h2; exact .und v

theorem VC.cut {E0 E1 E2 : Env} {OS X : List Ob} (hw : E2.w = E1.w) (hs : E2.st = E1.st) (hob : ∀ i, i < OS.length → E2.ob[i]? = E1.ob[i]?) {ag : Bool} {ds : List D} {v0 v : Value} (h0 : VC E0 OS ag ds v0) (h : VC E1 (OS ++ X) ag ds v) : VC E2 OS ag ds v := by
  refine ⟨h.1, h.2.1, fun j d u hd hu => ⟨?_, (h.2.2 j d u hd hu).2⟩⟩
  have hj : j < v0.cells.size := by rw [h0.2.1]; exact (List.getElem?_eq_some_iff.1 hd).1
  exact V.cut (X := X) hw hs hob (h0.2.2 j d _ hd (Array.getElem?_eq_getElem hj)).1 (h.2.2 j d u hd hu).1
theorem MapO.cut {E0 E1 E2 : Env} {OS X : List Ob} (hw : E2.w = E1.w) (hs : E2.st = E1.st) (hob : ∀ i, i < OS.length → E2.ob[i]? = E1.ob[i]?) {b0 b : Nat} {dk : KK} {ag : Bool} {l : List Pr} (h0 : MapO E0 OS b0 dk ag l) (h : MapO E1 (OS ++ X) b dk ag l) : MapO E2 OS b dk ag l := by
  have key : ∀ {κ : Type} [DecidableEq κ] {mk : κ → Value} {kx : κ → List Go.Ab.X}, MapX mk kx E0 OS b0 ag l → MapX mk kx E1 (OS ++ X) b ag l → MapX mk kx E2 OS b ag l := by
    intro κ _ mk kx ⟨l0, h1, h2, h3⟩ ⟨l', k1, k2, k3⟩
    refine ⟨l', by rw [hw]; exact k1, k2, fun i a q ha hq => ?_⟩
    have hi : i < l0.length := by rw [h2]; exact (List.getElem?_eq_some_iff.1 hq).1
    exact ⟨(k3 i a q ha hq).1, VC.cut hw hs hob (h3 i _ q (List.getElem?_eq_getElem hi) hq).2 (k3 i a q ha hq).2⟩
  cases dk with
  | int k => exact key h0 h
  | str => exact key h0 h
  | st _ _ => exact h.elim

/-- Objects that nobody names may be forgotten. -/
theorem Rel.cut {c : Ctx} {E0 E1 : Env} {OS X : List Ob} {c0 : Ctx} (R0 : Rel c0 E0 OS) (R : Rel c E1 (OS ++ X)) (ev : Evo E0 OS E1 (OS ++ X)) :
    Rel c ⟨E1.w, E1.st, E1.ob.take OS.length⟩ OS ∧ Evo E0 OS ⟨E1.w, E1.st, E1.ob.take OS.length⟩ OS := by
  have hob : ∀ i, i < OS.length → (E1.ob.take OS.length)[i]? = E1.ob[i]? := fun i hi => by rw [List.getElem?_take, if_pos hi]
  have up : ∀ i o, OS[i]? = some o → (OS ++ X)[i]? = some o := fun i o h => by rw [List.getElem?_append_left (List.getElem?_eq_some_iff.1 h).1]; exact h
  have lt : ∀ i o, OS[i]? = some o → i < OS.length := fun i o h => (List.getElem?_eq_some_iff.1 h).1
  refine ⟨⟨by simp [R.len], fun i o p h1 h2 => ?_, fun i j o o' p p' b h1 h2 h3 h4 h5 h6 => ?_, fun b off hs => ⟨(R.stm b off hs).1, fun i o p h1 h2 h3 => ?_⟩, R.kept, fun i o p b h1 h2 h3 => ?_, R.sto⟩, ⟨ev.st, fun id b cu ds k ho hkd hb => ?_, fun id o sz rs ho hs => ?_⟩⟩
  · have h2' : E1.ob[i]? = some p := by rw [← hob i (lt i o h1)]; exact h2
    have hok := R.ok i o p (up i o h1) h2'
    obtain ⟨p0, hp0, hok0⟩ := R0.at h1
    cases o with
    | box ds =>
      obtain ⟨cs, ty, g1, g2, g3⟩ := hok
      obtain ⟨cs0, ty0, k1, k2, k3⟩ := hok0
      refine ⟨cs, ty, g1, g2, fun j d v hd hv => ⟨?_, (g3 j d v hd hv).2⟩⟩
      have hj := (List.getElem?_eq_some_iff.1 hd).1
      exact V.cut (E1 := E1) (E2 := ⟨E1.w, E1.st, E1.ob.take OS.length⟩) (X := X) rfl rfl hob (k3 j d _ hd (Array.getElem?_eq_getElem (by omega))).1 (g3 j d v hd hv).1
    | rows fz el sz rs => exact hok
    | frz sz rs => exact hok
    | mpo dk ag l => exact MapO.cut (E1 := E1) (E2 := ⟨E1.w, E1.st, E1.ob.take OS.length⟩) (X := X) rfl rfl hob hok0 hok
    | mit dk ag l it R cur =>
      refine ⟨MapO.cut (E1 := E1) (E2 := ⟨E1.w, E1.st, E1.ob.take OS.length⟩) (X := X) rfl rfl hob hok0.1 hok.1, ?_⟩
      obtain ⟨_, ib, cu, es, clk, since, seen, c0, o, k1, k2, k3, k4, k5, k6, k7, k8, k9, k10, k11⟩ := hok
      obtain ⟨_, ib0, cu0, es0, clk0, since0, seen0, c00, o0, l1, l2, l3, l4, l5, l6, l7, l8, l9, l10, l11⟩ := hok0
      have hit := (List.getElem?_eq_some_iff.1 l2).1
      refine ⟨ib, cu, es, clk, since, seen, c0, o0, k1, l2, l3, (hob _ hit).trans k4, k5, k6, k7, k8, k9, ⟨k10.1, fun i x q hx hq => ?_⟩, fun q hq => ?_⟩
      · have hl0 : i < (leftOf es0 seen0).toList.length := by rw [l10.1]; exact (List.getElem?_eq_some_iff.1 hq).1
        obtain ⟨m1, m2⟩ := k10.2 i x q hx hq
        exact ⟨m1, VC.cut (E1 := E1) (E2 := ⟨E1.w, E1.st, E1.ob.take OS.length⟩) (X := X) rfl rfl hob (l10.2 i _ q (List.getElem?_eq_getElem hl0) hq).2 m2⟩
      · obtain ⟨g1, s', x, g2, g3, g4⟩ := k11 q hq
        obtain ⟨_, _, x0, _, _, e4⟩ := l11 q hq
        exact ⟨g1, s', x, g2, g3, g4.1, VC.cut (E1 := E1) (E2 := ⟨E1.w, E1.st, E1.ob.take OS.length⟩) (X := X) rfl rfl hob e4.2 g4.2⟩
    | mpn dk ag l key sid =>
      refine ⟨MapO.cut (E1 := E1) (E2 := ⟨E1.w, E1.st, E1.ob.take OS.length⟩) (X := X) rfl rfl hob hok0.1 hok.1, ?_⟩
      obtain ⟨_, n, cu, o, es, clk, x, k1, k2, k3, k4⟩ := hok
      obtain ⟨_, n0, cu0, o0, es0, clk0, x0, l1, l2, l3, l4⟩ := hok0
      have hit := (List.getElem?_eq_some_iff.1 l1).1
      exact ⟨n, cu, o0, es, clk, x, l1, l2, (hob _ hit).trans k3, k4⟩
    | sit s pos => exact hok
    | nit => exact hok
    | itr => trivial
    | stp => trivial
    | dead => trivial
  · rw [hob i (lt i o h1)] at h2
    rw [hob j (lt j o' h3)] at h4
    exact R.dis i j o o' p p' b (up i o h1) h2 (up j o' h3) h4 h5 h6
  · rw [hob i (lt i o h1)] at h2
    exact (R.stm b off hs).2 i o p (up i o h1) h2 h3
  · rw [hob i (lt i o h1)] at h2
    exact R.mbs i o p b (up i o h1) h2 h3
  · obtain ⟨cu', ds', g1, gk, g2⟩ := ev.bl id b cu ds k ho hkd hb
    rw [List.getElem?_append_left (lt id _ ho)] at g1
    exact ⟨cu', ds', g1, gk, (hob id (lt id _ ho)).trans g2⟩
  · obtain ⟨o', rs', g1, g2, g3⟩ := ev.rf id o sz rs ho hs
    rw [List.getElem?_append_left (lt id _ ho)] at g1
    refine ⟨o', rs', g1, g2, ?_⟩
    rcases g3 with ⟨g3, g4⟩ | g3
    · exact .inl ⟨g3, (hob id (lt id _ ho)).trans g4⟩
    · exact .inr g3

theorem setAll_self : ∀ (ρ : List Nat) (os OS : List Ob), (∀ (i r : Nat), ρ[i]? = some r → ∀ o : Ob, os[i]? = some o → OS[r]? = some o) → setAll OS ρ os = OS
  | [], os, OS, _ => by cases os <;> rfl
  | r :: ρ, [], OS, _ => rfl
  | r :: ρ, o :: os, OS, h => by
    have h0 := h 0 r rfl o rfl
    have hs : OS.set r o = OS := by
      apply List.ext_getElem?
      intro j
      rw [List.getElem?_set]
      split
      · rename_i hj; subst hj
        rw [h0, if_pos (List.getElem?_eq_some_iff.1 h0).1]
      · rfl
    simp only [setAll, hs]
    exact setAll_self ρ os OS (fun i r hi o ho => h (i + 1) r (by simpa using hi) o (by simpa using ho))

theorem plain_ren {F : Nat → Nat} {d : D} (h : d.plain = true) : d.ren F = d := by
  cases d with
  | agg ds =>
    have : ∀ l : List D, l.all D.isX = true → renL F l = l := by
      intro l
      induction l with
      | nil => intro _; rfl
      | cons d l ih =>
        intro hl
        simp only [List.all_cons, Bool.and_eq_true] at hl
        simp only [renL, ih hl.2]
        cases d with
        | x y => rfl
        | _ => exact absurd hl.1 (by simp [D.isX])
    simp only [D.ren, this ds h]
  | fn g caps =>
    cases caps with
    | nil => rfl
    | cons => exact absurd h (by simp [D.plain])
  | x y => rfl
  | _ => exact absurd h (by simp [D.plain])
theorem clean_ren {F : Nat → Nat} {d : D} (h : d.clean = true) : d.ren F = d := by
  cases d with
  | tup ds =>
    have : ∀ l : List D, l.all D.plain = true → renL F l = l := by
      intro l
      induction l with
      | nil => intro _; rfl
      | cons d l ih =>
        intro hl
        simp only [List.all_cons, Bool.and_eq_true] at hl
        simp only [renL, ih hl.2, plain_ren hl.1]
    simp only [D.ren, this ds h]
  | _ => exact plain_ren h

theorem RCalls.of {P : Program} {f : FuncId} {ρ : List Nat} {args : List D} {os X : List Ob} {r : D} (hok : fpOk ρ args os = true) (h : MCalls P f (renL (inv ρ) args) (fpO ρ os) r (fpO ρ os ++ X)) (hr : r.clean = true) : RCalls P f args os r := by
  intro Y c E vs R hvl
  have hok0 := hok
  simp only [fpOk, Bool.and_eq_true] at hok
  obtain ⟨h1, h2, h3, h4⟩ := hok
  have hlt : ∀ r ∈ ρ, r < os.length := fun r hr => by simpa using List.all_eq_true.1 h1 r hr
  have hgd : ∀ r ∈ ρ, (os ++ Y).getD r .dead = os.getD r .dead := fun r hr => by simp [List.getD, List.getElem?_append_left (hlt r hr)]
  have hfp : fpO ρ (os ++ Y) = fpO ρ os := List.map_congr_left (fun r hr => by rw [hgd r hr])
  have hok' : fpOk ρ args (os ++ Y) = true := by
    simp only [fpOk, Bool.and_eq_true]
    refine ⟨List.all_eq_true.2 (fun r hr => by have := hlt r hr; simp; omega), h2, List.all_eq_true.2 (fun r hr => by rw [hgd r hr]; exact List.all_eq_true.1 h3 r hr), h4⟩
  have hf : FCalls P f (renL (inv ρ) args) (fpO ρ (os ++ Y)) (fun r' os2 => r' = r ∧ os2 = fpO ρ os ++ X) := by
    intro c E vs R hvl
    rw [hfp] at R hvl
    refine (h c E vs R hvl).mono ?_
    rintro e w' ⟨v, E', rfl, rfl, R', ev, hv⟩
    exact ⟨v, E', _, _, rfl, rfl, R', by rw [hfp]; exact ev, hv, rfl, rfl⟩
  refine ((FCalls.lift hok' hf (fun r os' ⟨_, h⟩ => by rw [h]; simp [fpO])) c E vs R hvl).mono ?_
  rintro e w' ⟨v, E', r2, os2, rfl, rfl, R', ev, hv, r3, os3, ⟨rfl, rfl⟩, rfl, rfl⟩
  rw [clean_ren hr] at hv
  have hsame : ∃ X', fpO' ρ (os ++ Y) (fpO ρ os ++ X) = (os ++ Y) ++ X' := by
    refine ⟨((fpO ρ os ++ X).map (Ob.ren (fpF ρ (os ++ Y).length (fpO ρ os ++ X).length))).drop ρ.length, ?_⟩
    unfold fpO'
    rw [setAll_self]
    intro i r hi o ho
    rw [List.map_append, List.getElem?_append_left (by simp [fpO]; exact (List.getElem?_eq_some_iff.1 hi).1)] at ho
    simp only [fpO, List.map_map, List.getElem?_map, hi, Option.map_some, Option.some.injEq, Function.comp] at ho
    have hm := List.mem_of_getElem? hi
    have hl := hlt r hm
    have hr' : os[r]? = some (os[r]'hl) := List.getElem?_eq_getElem _
    rw [List.getElem?_append_left hl, hr', ← ho]
    simp only [List.getD, hr', Option.getD_some]
    have hin := List.all_eq_true.1 h3 r hm
    simp only [List.getD, hr', Option.getD_some] at hin
    rw [Ob.ren_ren (p := fun i => memB i ρ) (fun i hi => ?_) _ hin]
    have hg := inv_get (memB_iff.1 hi)
    simp only [fpF, (List.getElem?_eq_some_iff.1 hg).1, if_true, List.getD, hg, Option.getD_some]
  obtain ⟨X', hX⟩ := hsame
  rw [hX] at R' ev
  obtain ⟨R2, e2⟩ := R.cut R' ev
  exact ⟨v, ⟨E'.w, E'.st, E'.ob.take (os ++ Y).length⟩, rfl, rfl, R2, e2, hv.ofClean hr (fun x v hx => hx)⟩

/-- A new row goes to the place that was kept for it. -/
theorem Rel.move {c c0 : Ctx} {E0 E1 : Env} {OS : List Ob} {ob : Ob} {id : Nat} (R0 : Rel c0 E0 OS) (hd : OS[id]? = some .dead) (hrow : ∃ fz e sz rs, ob = .rows fz e sz rs) (R : Rel c E1 (OS ++ [ob])) (ev : Evo E0 OS E1 (OS ++ [ob])) :
    ∃ E2, E2.w = E1.w ∧ Rel c E2 (OS.set id ob) ∧ Evo E0 OS E2 (OS.set id ob) ∧ ∀ d v, V E1 (OS ++ [ob]) d v → V E2 (OS.set id ob) (d.ren fun i => if i = OS.length then id else i) v := by
  obtain ⟨Rc, ec⟩ := R0.cut R ev
  have hidl : id < OS.length := (List.getElem?_eq_some_iff.1 hd).1
  have hlen : E1.ob.length = OS.length + 1 := by rw [R.len]; simp
  have hp : E1.ob[OS.length]? = some (E1.ob[OS.length]'(by omega)) := List.getElem?_eq_getElem _
  generalize E1.ob[OS.length]'(by omega) = p at hp
  have htk : ∀ i, i < OS.length → (E1.ob.take OS.length)[i]? = E1.ob[i]? := fun i hi => by rw [List.getElem?_take, if_pos hi]
  have goS : ∀ j, j ≠ id → (OS.set id ob)[j]? = OS[j]? := fun j hj => List.getElem?_set_ne (fun e => hj e.symm)
  have goE : ∀ j, j ≠ id → ((E1.ob.take OS.length).set id p)[j]? = (E1.ob.take OS.length)[j]? := fun j hj => List.getElem?_set_ne (fun e => hj e.symm)
  have atS : (OS.set id ob)[id]? = some ob := List.getElem?_set_self hidl
  have atE : ((E1.ob.take OS.length).set id p)[id]? = some p := List.getElem?_set_self (by simp [hlen]; omega)
  have up : ∀ (i : Nat) (o : Ob), OS[i]? = some o → (OS ++ [ob])[i]? = some o := fun i o h => by rw [List.getElem?_append_left (List.getElem?_eq_some_iff.1 h).1]; exact h
  have upn : (OS ++ [ob])[OS.length]? = some ob := by simp
  let E2 : Env := ⟨E1.w, E1.st, (E1.ob.take OS.length).set id p⟩
  have e2 : Evo ⟨E1.w, E1.st, E1.ob.take OS.length⟩ OS E2 (OS.set id ob) := by
    refine ⟨fun b o h => ⟨h, rfl⟩, fun i b cu ds k ho hkd hb => ?_, fun i o sz rs ho hs => ?_⟩
    · have hi : i ≠ id := fun e => by subst e; rw [hd] at ho; cases ho; simp [Ob.kd] at hkd
      exact ⟨cu, ds, (goS i hi).trans ho, hkd, (goE i hi).trans hb⟩
    · have hi : i ≠ id := fun e => by subst e; rw [hd] at ho; cases ho; cases hs
      exact ⟨o, rs, (goS i hi).trans ho, hs, .inl ⟨rfl, goE i hi⟩⟩
  -- where it stood
  have at' : ∀ (j : Nat) (o : Ob) (q : Nat × Value), (OS.set id ob)[j]? = some o → E2.ob[j]? = some q → (OS ++ [ob])[if j = id then OS.length else j]? = some o ∧ E1.ob[if j = id then OS.length else j]? = some q ∧ (j ≠ id → OS[j]? = some o ∧ (E1.ob.take OS.length)[j]? = some q) ∧ j < OS.length := by
    intro j o q ho hq
    have hjl : j < OS.length := by have := (List.getElem?_eq_some_iff.1 ho).1; simpa using this
    by_cases hj : j = id
    · subst hj
      rw [atS] at ho; cases ho
      have : E2.ob[j]? = some p := atE
      rw [this] at hq; cases hq
      exact ⟨by rw [if_pos rfl]; exact upn, by rw [if_pos rfl]; exact hp, fun h => absurd rfl h, hjl⟩
    · rw [goS j hj] at ho
      have hq' : (E1.ob.take OS.length)[j]? = some q := by rw [← goE j hj]; exact hq
      rw [if_neg hj]
      exact ⟨up j o ho, by rw [← htk j hjl]; exact hq', fun _ => ⟨ho, hq'⟩, hjl⟩
  have evr : EvoR (fun i => if i = OS.length then id else i) (fun _ => true) E1 (OS ++ [ob]) E2 (OS.set id ob) := by
    refine ⟨fun b o h => ⟨h, rfl⟩, fun i b cu ds k _ ho hkd hb => ?_, fun i o sz rs _ ho hs => ?_⟩
    · have hil : i < OS.length := by
        rcases Nat.lt_or_ge i OS.length with h | h
        · exact h
        · exfalso
          have := (List.getElem?_eq_some_iff.1 ho).1
          simp at this
          have : i = OS.length := by omega
          subst this
          rw [upn] at ho
          obtain ⟨fz, e, sz, rs, rfl⟩ := hrow
          cases ho
          simp [Ob.kd] at hkd
      have hne : i ≠ OS.length := by omega
      rw [List.getElem?_append_left hil] at ho
      have hi : i ≠ id := fun e => by subst e; rw [hd] at ho; cases ho; simp [Ob.kd] at hkd
      rw [if_neg hne]
      exact ⟨cu, ds, (goS i hi).trans ho, hkd, (goE i hi).trans ((htk i hil).trans hb)⟩
    · by_cases hn : i = OS.length
      · subst hn
        rw [if_pos rfl]
        rw [upn] at ho; cases ho
        exact ⟨ob, rs, atS, hs, .inl ⟨rfl, by rw [hp]; exact atE⟩⟩
      · have hil : i < OS.length := by
          have := (List.getElem?_eq_some_iff.1 ho).1
          simp at this; omega
        rw [List.getElem?_append_left hil] at ho
        have hi : i ≠ id := fun e => by subst e; rw [hd] at ho; cases ho; cases hs
        rw [if_neg hn]
        exact ⟨o, rs, (goS i hi).trans ho, hs, .inl ⟨rfl, (goE i hi).trans (htk i hil)⟩⟩
  refine ⟨E2, rfl, ⟨by simp [E2, hlen], fun j o q h1 h2 => ?_, fun i j o o' q q' b h1 h2 h3 h4 h5 h6 => ?_, fun b off hs => ⟨(R.stm b off hs).1, fun j o q h1 h2 h3 => ?_⟩, R.kept, fun j o q b h1 h2 h3 => ?_, R.sto⟩, ec.trans e2, fun d v hv => hv.monoR evr (inP_true d)⟩
  · obtain ⟨k1, k2, k3, k4⟩ := at' j o q h1 h2
    by_cases hj : j = id
    · subst hj
      rw [if_pos rfl] at k1 k2
      have hok := R.ok _ o q k1 k2
      rw [atS] at h1; cases h1
      obtain ⟨fz, e, sz, rs, rfl⟩ := hrow
      exact hok
    · obtain ⟨g1, g2⟩ := k3 hj
      exact (Rc.ok j o q g1 g2).mono e2 (fun _ _ => rfl)
  · obtain ⟨k1, k2, _, k4⟩ := at' i o q h1 h2
    obtain ⟨g1, g2, _, g4⟩ := at' j o' q' h3 h4
    have := R.dis _ _ o o' q q' b k1 k2 g1 g2 h5 h6
    by_cases hi : i = id <;> by_cases hj : j = id
    · omega
    · rw [if_pos hi, if_neg hj] at this; omega
    · rw [if_neg hi, if_pos hj] at this; omega
    · rw [if_neg hi, if_neg hj] at this; exact this
  · obtain ⟨k1, k2, _, _⟩ := at' j o q h1 h2
    exact (R.stm b off hs).2 _ o q k1 k2 h3
  · obtain ⟨k1, k2, _, _⟩ := at' j o q h1 h2
    exact R.mbs _ o q b k1 k2 h3

theorem KCalls.of {P : Program} {f : FuncId} {ρ : List Nat} {args : List D} {os : List Ob} {ob : Ob} {r : D} (hok : fpOk ρ args os = true) (hrow : ∃ fz e sz rs, ob = .rows fz e sz rs) (hr : r.inP (fun i => Nat.ble i ρ.length) = true) (h : MCalls P f (renL (inv ρ) args) (fpO ρ os) r (fpO ρ os ++ [ob])) :
    KCalls P f args os (fun id => r.ren fun i => if i < ρ.length then ρ.getD i 0 else id) ob := by
  intro Y id c E vs hd R hvl
  have hok0 := hok
  simp only [fpOk, Bool.and_eq_true] at hok
  obtain ⟨h1, h2, h3, h4⟩ := hok
  have hlt : ∀ r ∈ ρ, r < os.length := fun r hr => by simpa using List.all_eq_true.1 h1 r hr
  have hgd : ∀ r ∈ ρ, (os ++ Y).getD r .dead = os.getD r .dead := fun r hr => by simp [List.getD, List.getElem?_append_left (hlt r hr)]
  have hfp : fpO ρ (os ++ Y) = fpO ρ os := List.map_congr_left (fun r hr => by rw [hgd r hr])
  have hok' : fpOk ρ args (os ++ Y) = true := by
    simp only [fpOk, Bool.and_eq_true]
    refine ⟨List.all_eq_true.2 (fun r hr => by have := hlt r hr; simp; omega), h2, List.all_eq_true.2 (fun r hr => by rw [hgd r hr]; exact List.all_eq_true.1 h3 r hr), h4⟩
  have hf : FCalls P f (renL (inv ρ) args) (fpO ρ (os ++ Y)) (fun r' os2 => r' = r ∧ os2 = fpO ρ os ++ [ob]) := by
    intro c E vs R hvl
    rw [hfp] at R hvl
    refine (h c E vs R hvl).mono ?_
    rintro e w' ⟨v, E', rfl, rfl, R', ev, hv⟩
    exact ⟨v, E', _, _, rfl, rfl, R', by rw [hfp]; exact ev, hv, rfl, rfl⟩
  refine ((FCalls.lift hok' hf (fun r os' ⟨_, h⟩ => by rw [h]; simp [fpO])) c E vs R hvl).mono ?_
  rintro e w' ⟨v, E', r2, os2, rfl, rfl, R', ev, hv, r3, os3, ⟨rfl, rfl⟩, rfl, rfl⟩
  have hsame : fpO' ρ (os ++ Y) (fpO ρ os ++ [ob]) = (os ++ Y) ++ [ob] := by
    unfold fpO'
    rw [setAll_self]
    · congr 1
      have hl : ((fpO ρ os).map (Ob.ren (fpF ρ (os ++ Y).length (fpO ρ os ++ [ob]).length))).length = ρ.length := by simp [fpO]
      rw [List.map_append, ← hl, List.drop_left]
      obtain ⟨fz, e, sz, rs, rfl⟩ := hrow
      rfl
    intro i r hi o ho
    rw [List.map_append, List.getElem?_append_left (by simp [fpO]; exact (List.getElem?_eq_some_iff.1 hi).1)] at ho
    simp only [fpO, List.map_map, List.getElem?_map, hi, Option.map_some, Option.some.injEq, Function.comp] at ho
    have hm := List.mem_of_getElem? hi
    have hl := hlt r hm
    have hr' : os[r]? = some (os[r]'hl) := List.getElem?_eq_getElem _
    rw [List.getElem?_append_left hl, hr', ← ho]
    simp only [List.getD, hr', Option.getD_some]
    have hin := List.all_eq_true.1 h3 r hm
    simp only [List.getD, hr', Option.getD_some] at hin
    rw [Ob.ren_ren (p := fun i => memB i ρ) (fun i hi => ?_) _ hin]
    have hg := inv_get (memB_iff.1 hi)
    simp only [fpF, (List.getElem?_eq_some_iff.1 hg).1, if_true, List.getD, hg, Option.getD_some]
  rw [hsame] at R' ev hv
  obtain ⟨E2, q1, q2, q3, q4⟩ := R.move hd hrow R' ev
  refine ⟨v, E2, rfl, q1, q2, q3, ?_⟩
  have := q4 _ v hv
  rw [D.ren_comp] at this
  have hfun : (fun i => (fun i => if i = (os ++ Y).length then id else i) (fpF ρ (os ++ Y).length (fpO ρ os ++ [ob]).length i)) = fun i => if i < ρ.length then ρ.getD i 0 else (if i = ρ.length then id else (os ++ Y).length + (i - ρ.length)) := by
    funext i
    simp only [fpF]
    by_cases hi : i < ρ.length
    · have hr : ρ[i]? = some (ρ[i]'hi) := List.getElem?_eq_getElem hi
      have hrl := hlt _ (List.getElem_mem hi)
      have : ρ.getD i 0 ≠ (os ++ Y).length := by simp only [List.getD, hr, Option.getD_some]; simp; omega
      simp only [hi, if_true, this, if_false]
    · simp only [hi, if_false]
      by_cases h2 : i = ρ.length
      · subst h2; simp
      · have : ¬ ((os ++ Y).length + (i - ρ.length) = (os ++ Y).length) := by omega
        simp only [this, h2, if_false]
  rw [hfun, D.ren_congr (g := fun i => if i < ρ.length then ρ.getD i 0 else id) (fun i hi => ?_) _ hr] at this
  · exact this
  · have hi : i ≤ ρ.length := by simpa using hi
    by_cases h1 : i < ρ.length
    · simp only [h1, if_true]
    · have h2 : i = ρ.length := by omega
      simp only [h2, if_true, Nat.lt_irrefl, if_false]

/-- What a function reads, wherever the objects stand. -/
def readT (g : List D → List Ob → Option (Bool × D)) (args : List D) (OS : List Ob) : Option (Bool × D) :=
  if fpOk (reach OS 64 (idsL args) []) args OS = true then g (renL (inv (reach OS 64 (idsL args) [])) args) (fpO (reach OS 64 (idsL args) []) OS) else none
theorem readT_ok {P : Program} {f : FuncId} {g : List D → List Ob → Option (Bool × D)} (hg : ∀ args os r, g args os = some (true, r) → r.clean = true ∧ ∃ X, MCalls P f args os r (os ++ X)) :
    ∀ args OS r, readT g args OS = some (true, r) → RCalls P f args OS r := by
  intro args OS r h
  unfold readT at h
  split at h
  · rename_i hok
    obtain ⟨h1, X, h2⟩ := hg _ _ _ h
    exact RCalls.of hok h2 h1
  · cases h
theorem RCalls.mcalls {P : Program} {f : FuncId} {args : List D} {os : List Ob} {r : D} (h : RCalls P f args os r) : MCalls P f args os r os := by
  intro c E vs R hvl
  have := h [] c E vs (by simpa using R) (by simpa using hvl)
  simpa using this

/-- What a function makes: one row, wherever the objects stand. -/
def newT (g : List D → List Ob → Option (Bool × D × Ob)) (args : List D) (OS : List Ob) : Option (Bool × (Nat → D) × Ob) :=
  if fpOk (reach OS 64 (idsL args) []) args OS = true then (g (renL (inv (reach OS 64 (idsL args) [])) args) (fpO (reach OS 64 (idsL args) []) OS)).bind fun q =>
    if q.2.1.inP (fun i => Nat.ble i (reach OS 64 (idsL args) []).length) = true then some (q.1, fun id => q.2.1.ren fun i => if i < (reach OS 64 (idsL args) []).length then (reach OS 64 (idsL args) []).getD i 0 else id, q.2.2) else none
  else none
theorem newT_ok {P : Program} {f : FuncId} {g : List D → List Ob → Option (Bool × D × Ob)} (hg : ∀ args os r ob, g args os = some (true, r, ob) → (∃ fz e sz rs, ob = .rows fz e sz rs) ∧ MCalls P f args os r (os ++ [ob])) :
    ∀ args OS r ob, newT g args OS = some (true, r, ob) → KCalls P f args OS r ob := by
  intro args OS r ob h
  unfold newT at h
  split at h
  · rename_i hok
    obtain ⟨⟨b, d, ob'⟩, h1, h2⟩ := Option.bind_eq_some_iff.1 h
    simp only at h2
    split at h2
    · rename_i hin
      simp only [Option.some.injEq, Prod.mk.injEq] at h2
      obtain ⟨rfl, rfl, rfl⟩ := h2
      obtain ⟨k1, k2⟩ := hg _ _ _ _ h1
      exact KCalls.of hok k1 hin k2
    · cases h2
  · cases h
/-- A contract of a function that makes one row. -/
def addK (S : Tabs) (f : FuncId) (g : List D → List Ob → Option (Bool × D × Ob)) : Tabs :=
  ⟨S.q, fun f' args os => if f' = f then liftT (fun args os => (g args os).map fun q => (q.1, q.2.1, os ++ [q.2.2])) args os else S.t f' args os, S.r, fun f' args os => if f' = f then newT g args os else S.k f' args os⟩
theorem addK_ok {P : Program} {S : Tabs} (hS : SsOk P S) {f : FuncId} {g : List D → List Ob → Option (Bool × D × Ob)} (he : Enters P f) (hg : ∀ args os r ob, g args os = some (true, r, ob) → (∃ fz e sz rs, ob = .rows fz e sz rs) ∧ MCalls P f args os r (os ++ [ob])) : SsOk P (addK S f g) := by
  refine ⟨hS.q, fun f' args os r os' h => ?_, hS.r, fun f' args os r ob h => ?_⟩
  · simp only [addK] at h
    split at h
    · rename_i hf; subst hf
      refine ⟨he, MCalls.lift (fun args os r os' h => ?_) args os r os' h⟩
      obtain ⟨⟨b, d, ob⟩, h1, h2⟩ := Option.map_eq_some_iff.1 h
      simp only [Prod.mk.injEq] at h2
      obtain ⟨rfl, rfl, rfl⟩ := h2
      exact (hg _ _ _ _ h1).2
    · exact hS.t f' args os r os' h
  · simp only [addK] at h
    split at h
    · rename_i hf; subst hf
      exact ⟨he, newT_ok hg _ _ _ _ h⟩
    · exact hS.k f' args os r ob h

end Go.Ab
end
section
/- Closed code: run by the kernel. -/
namespace Go.Ab
open Go.RowKit Go.Bo

abbrev Out := Exit × List (Nat × D) × List Ob
def callI (fz : Bool) (run : IC → List (Nat × D) → List Ob → Option Out) (f : IFn) (args : List D) (os : List Ob) : Option (D × List Ob) :=
  if args.length ≤ f.n then (run f.body (argsφ 0 args) os).bind fun r => match r.1 with
    | .normal | .ret => (retD fz (fun _ _ => none) r.2.1 r.2.2 f.res).bind fun q => if q.1 then some (mkR q.2.1, q.2.2) else none
    | _ => none
  else none
/-- The table holds the program's code. -/
def GOk (P : Program) (G : FuncId → Option IFn) : Prop := ∀ f p, G f = some p → ∃ fn, P.funcs[f]? = some fn ∧ (fn.name == "runtime.NumGoroutine") = false ∧ compFn P fn = some p

/-- The evaluator's word on a piece of code. -/
def EvOk (P : Program) (run : IC → List (Nat × D) → List Ob → Option Out) : Prop :=
  ∀ ic φ os x φ' os', run ic φ os = some (x, φ', os') → ∀ (c : Ctx) (E0 : Env) (os0 : List Ob) (n : Nat), WI P c E0 os0 n ic (fun y φ2 os2 => y = x ∧ φ2 = φ' ∧ os2 = os') φ os

section
variable {P : Program} {G : FuncId → Option IFn}

theorem callI_ok (hG : GOk P G) {run : IC → List (Nat × D) → List Ob → Option Out} (hr : EvOk P run) {f : FuncId} {p : IFn} (hp : G f = some p) {args : List D} {os os' : List Ob} {r : D} {fz : Bool} (h : callI fz run p args os = some (r, os')) :
    Enters P f ∧ FCalls P f args os (fun r' os2 => r' = r ∧ os2 = os') := by
  obtain ⟨fn, h1, h2, h3⟩ := hG f p hp
  refine ⟨enters h1 h2 h3, ?_⟩
  unfold callI at h
  split at h
  · rename_i hle
    obtain ⟨⟨x, φ', os1⟩, h4, h⟩ := Option.bind_eq_some_iff.1 h
    have hx : (x = .normal ∨ x = .ret) ∧ (retD fz (fun _ _ => none) φ' os1 p.res).bind (fun q => if q.1 then some (mkR q.2.1, q.2.2) else none) = some (r, os') := by
      cases x <;> simp only at h <;> first | exact ⟨.inl rfl, h⟩ | exact ⟨.inr rfl, h⟩ | cases h
    obtain ⟨hx, h5⟩ := hx
    obtain ⟨⟨ok, ds, os2⟩, h6, h7⟩ := Option.bind_eq_some_iff.1 h5
    simp only at h7
    split at h7
    · rename_i hok
      subst hok
      cases h7
      refine fcalls (fz := fz) (S := fun _ _ => none) h1 h3 args hle os (fun c E0 => WI.mono (hr _ _ _ _ _ _ h4 c E0 os p.n) ?_)
      rintro y φ2 os3 ⟨rfl, rfl, rfl⟩
      exact ⟨hx, ds, _, h6, rfl, rfl⟩
    · cases h7
  · cases h
theorem G_enters {G : FuncId → Option IFn} (hG : GOk P G) {f : FuncId} {p : IFn} (hp : G f = some p) : Enters P f := by
  obtain ⟨fn, h1, h2, h3⟩ := hG f p hp
  exact enters h1 h2 h3

/-- A function's contract, out of its code. -/
theorem fcallsG {fz : Bool} {G : FuncId → Option IFn} (hG : GOk P G) {f : FuncId} {p : IFn} (hp : G f = some p) (args : List D) (hle : args.length ≤ p.n) (os : List Ob) {Post : D → List Ob → Prop}
    (h : ∀ (c : Ctx) (E0 : Env), WI P c E0 os p.n p.body (fun x φ' os' => (x = .normal ∨ x = .ret) ∧ ∃ ds os2, retD fz (fun _ _ => none) φ' os' p.res = some (true, ds, os2) ∧ Post (mkR ds) os2) (argsφ 0 args) os) : FCalls P f args os Post := by
  obtain ⟨fn, h1, h2, h3⟩ := hG f p hp
  exact fcalls h1 h3 args hle os h

end
end Go.Ab
end
section
/- Short words for code. -/
namespace Go.Ab
@[reducible] def qt (n : Nat) : IO := .t n
@[reducible] def qi (n : Int) : IO := .c (.x (.int .i64 n))
@[reducible] def qs (s : List UInt8) : IO := .c (.x (.str s))
@[reducible] def qb (b : Bool) : IO := .c (.x (.bool b))
@[reducible] def qm (d s : Nat) : IOp := ⟨some d, .mv (.t s), none⟩
@[reducible] def qn (d s g : Nat) (b : Bool) : IOp := ⟨some d, .mv (.t s), some (g, b)⟩
@[reducible] def qa (d : Nat) (e : IE) : IOp := ⟨some d, e, none⟩
@[reducible] def qg (d : Nat) (e : IE) (g : Nat) (b : Bool) : IOp := ⟨some d, e, some (g, b)⟩
end Go.Ab
end
section
/- What is known may be said otherwise: rows that no longer turn as plain values; objects that nobody needs are forgotten. -/
namespace Go.Ab
open Go.RowKit Go.Bo

mutual
/-- Rows that no longer turn, as plain values. -/
def D.vw (os : List Ob) : D → D
  | .ref id ext off len => match os[id]? with
    | some (.frz _ rs) => if rs.length = ext then .x (.sl ((rs.drop off).take len)) else .ref id ext off len
    | _ => .ref id ext off len
  | .agg ds => .agg (vwL os ds)
  | .tup ds => .tup (vwL os ds)
  | .fn f caps => .fn f (vwL os caps)
  | .opt b d => .opt b (d.vw os)
  | .ptr id o => .ptr id o
  | .eptr id a b c => .eptr id a b c
  | .x y => .x y
  | .vptr cs => .vptr cs
  | .mref id => .mref id
  | .mnil => .mnil
  | .iref mid id => .iref mid id
  | .stk mid id => .stk mid id
  | .bref id o l => .bref id o l
  | .full rs => .full rs
  | .nz rs => .nz rs
  | .und => .und
def vwL (os : List Ob) : List D → List D
  | [] => []
  | d :: l => d.vw os :: vwL os l
end
theorem vwL_map (os : List Ob) : ∀ l, vwL os l = l.map (D.vw os)
  | [] => rfl
  | d :: l => by simp [vwL, vwL_map os l]
/-- Its objects are among these, or it says nothing. -/
def D.on (ρ : List Nat) (d : D) : D := if d.inP (fun i => memB i ρ) = true then d else .und
def mpP (f : D → D) (q : Pr) : Pr := (q.1, q.2.map f)
def Ob.mp (f : D → D) : Ob → Ob
  | .box ds => .box (ds.map f)
  | .mpo dk ag l => .mpo dk ag (l.map (mpP f))
  | .mit dk ag l it R cur => .mit dk ag (l.map (mpP f)) it (R.map (mpP f)) (cur.map (mpP f))
  | .mpn dk ag l key sid => .mpn dk ag (l.map (mpP f)) key sid
  | o => o
def Ob.mpb (f : D → D) : Ob → Ob
  | .box ds => .box (ds.map f)
  | o => o
def frzL : List Nat → List Ob → List Ob
  | [], os => os
  | i :: l, os => match os[i]? with
    | some (.rows _ _ sz rs) => frzL l (os.set i (.frz sz rs))
    | _ => frzL l os
def onF (ρ : List Nat) (os : List Ob) (d : D) : D := (d.vw os).on ρ
/-- A map whose iterator is forgotten is ranged over no more. -/
def Ob.onI (ρ : List Nat) : Ob → Ob
  | .mit dk ag l it R cur => if memB it ρ = true then .mit dk ag l it R cur else .mpo dk ag l
  | .mpn dk ag l key sid => if memB sid ρ = true then .mpn dk ag l key sid else .mpo dk ag l
  | o => o
def nrmO (ρ : List Nat) (os : List Ob) : List Ob := fpO ρ ((os.map (Ob.mp (onF ρ os))).map (Ob.onI ρ))
def nrmφ (ρ : List Nat) (os : List Ob) (φ : List (Nat × D)) : List (Nat × D) := φ.map fun p => (p.1, (onF ρ os p.2).ren (inv ρ))
def nrmB (ρ : List Nat) (k m : Nat) : Bool := nodupB ρ && (ρ.all (fun r => decide (r < m)) && (List.range k).all fun i => decide (ρ[i]? = some i))

section
variable {P : Program} {c : Ctx} {E E0 : Env} {os os0 : List Ob} {n : Nat} {Q : Exit → List (Nat × D) → List Ob → Prop} {φ : List (Nat × D)}

theorem ref_frz (R : Rel c E os) {id ext off len sz : Nat} {rs : List (List X)} {v : Value} (hv : V E os (.ref id ext off len) v) (ho : os[id]? = some (.frz sz rs)) (hl : rs.length = ext) : VX E.w E.st (.sl ((rs.drop off).take len)) v := by
  cases hv with
  | ref hr _ =>
    obtain ⟨h1, h2⟩ := hr.at ho rfl
    obtain ⟨h3, b, ad, cap, a', cap', h4, h5, h6, h7, h8, h9, h10, h11⟩ := h2 hl
    obtain ⟨p, hp, hok⟩ := R.at ho
    rw [hp] at h4; cases h4
    subst h5
    have hok' : VX E.w E.st (.sl rs) (.slice ad ext cap) := hok.1
    obtain ⟨w1, w2, w3, w4, w5, w6⟩ := OK.cap (os := os) (o := .frz sz rs) hok rfl rfl
    exact hok'.part w4 off len (by omega) a' cap' h6 h7 h9 h10 (fun _ => h11)

theorem V.vw (R : Rel c E os) {d : D} {v : Value} (h : V E os d v) : V E os (d.vw os) v := by
  have lst : ∀ {ds : List D} {vs : Array Value}, (∀ (j : Nat) (d : D) (v : Value), ds[j]? = some d → vs[j]? = some v → V E os (d.vw os) v) → ∀ (j : Nat) (d : D) (v : Value), (vwL os ds)[j]? = some d → vs[j]? = some v → V E os d v := by
    intro ds vs ih j d v hd hv
    rw [vwL_map, List.getElem?_map] at hd
    obtain ⟨d0, h0, rfl⟩ := Option.map_eq_some_iff.1 hd
    exact ih j d0 v h0 hv
  induction h with
  | x h => exact .x h
  | ref h h1 =>
    simp only [D.vw]
    split
    · rename_i sz rs ho
      split
      · rename_i hl
        exact .x (ref_frz R (.ref h h1) ho hl)
      · exact .ref h h1
    · exact .ref h h1
  | ptr ho h => exact .ptr ho h
  | eptr h h1 => exact .eptr h h1
  | mref ho hk h => exact .mref ho hk h
  | mnil => exact .mnil
  | iref ho hk h => exact .iref ho hk h
  | stk ho hk h => exact .stk ho hk h
  | bref ho h hm => exact .bref ho h hm
  | vptr b off val hc hv => exact .vptr b off val hc hv
  | agg vs hl h1 _ ih => exact .agg vs (by rw [vwL_map]; simpa using hl) h1 (lst ih)
  | tup vs hl _ ih => exact .tup vs (by rw [vwL_map]; simpa using hl) (lst ih)
  | full n h => exact .full n h
  | nz h => exact .nz h
  | fn vs hl _ ih => exact .fn vs (by rw [vwL_map]; simpa using hl) (lst ih)
  | opt _ h' ih => exact .opt ih h'
  | und v => exact .und v
theorem V.on {ρ : List Nat} {d : D} {v : Value} (h : V E os d v) : V E os (d.on ρ) v := by
  unfold D.on
  split
  · exact h
  · exact .und v

theorem Ob.mp_slice (f : D → D) (o : Ob) : (o.mp f).slice? = o.slice? := by cases o <;> rfl
theorem Ob.mp_kd (f : D → D) (o : Ob) : (o.mp f).kd = o.kd := by cases o <;> rfl
theorem Ob.mp_mb (f : D → D) (o : Ob) (q : Nat × Value) : (o.mp f).mb q = o.mb q := by cases o <;> rfl

theorem VC.mp {f : D → D} (hf : ∀ d v, V E os d v → V E os (f d) v) {ag : Bool} {ds : List D} {v : Value} (h : VC E os ag ds v) : VC E os ag (ds.map f) v := by
  obtain ⟨h1, h2, h3⟩ := h
  refine ⟨?_, by simpa using h2, fun j d u hd hu => ?_⟩
  · cases ag with
    | true => exact h1
    | false => simp only [Bool.false_eq_true, if_false, List.length_map] at h1 ⊢; exact h1
  · rw [List.getElem?_map] at hd
    obtain ⟨d0, h0, rfl⟩ := Option.map_eq_some_iff.1 hd
    exact ⟨hf d0 u (h3 j d0 u h0 hu).1, (h3 j d0 u h0 hu).2⟩
theorem MapO.mp {f : D → D} (hf : ∀ d v, V E os d v → V E os (f d) v) {b : Nat} {dk : KK} {ag : Bool} {l : List Pr} (h : MapO E os b dk ag l) : MapO E os b dk ag (l.map (mpP f)) := by
  have key : ∀ {κ : Type} [DecidableEq κ] {mk : κ → Value} {kx : κ → List X}, MapX mk kx E os b ag l → MapX mk kx E os b ag (l.map (mpP f)) := by
    intro κ _ mk kx ⟨l', h1, h2, h3⟩
    refine ⟨l', h1, by simpa using h2, fun i a q ha hq => ?_⟩
    rw [List.getElem?_map] at hq
    obtain ⟨q0, hq0, rfl⟩ := Option.map_eq_some_iff.1 hq
    obtain ⟨k1, k2⟩ := h3 i a q0 ha hq0
    exact ⟨k1, k2.mp hf⟩
  cases dk with
  | int k => exact key h
  | str => exact key h
  | st _ _ => exact h.elim
theorem PairOf.mp {f : D → D} (hf : ∀ d v, V E os d v → V E os (f d) v) {dk : KK} {ag : Bool} {e : MapEntry} {q : Pr} (h : PairOf E os dk ag e q) : PairOf E os dk ag e (mpP f q) := ⟨h.1, h.2.mp hf⟩
theorem Iter.mp {f : D → D} (hf : ∀ d v, V E os d v → V E os (f d) v) {p : Nat × Value} {dk : KK} {ag : Bool} {it : Nat} {R : List Pr} {cur : Option Pr} (h : Iter E os p dk ag it R cur) : Iter E os p dk ag it (R.map (mpP f)) (cur.map (mpP f)) := by
  obtain ⟨ib, cu, es, clk, since, seen, c0, o, h1, h2, h3, h4, h5, h6, h7, h8, h9, h10, h11⟩ := h
  refine ⟨ib, cu, es, clk, since, seen, c0, o, h1, h2, h3, h4, h5, h6, h7, h8, h9, ⟨by simpa using h10.1, fun i x q hx hq => ?_⟩, fun q hq => ?_⟩
  · rw [List.getElem?_map] at hq
    obtain ⟨q0, hq0, rfl⟩ := Option.map_eq_some_iff.1 hq
    exact (h10.2 i x q0 hx hq0).mp hf
  · obtain ⟨q0, hq0, rfl⟩ := Option.map_eq_some_iff.1 hq
    obtain ⟨g1, s', x, g2, g3, g4⟩ := h11 q0 hq0
    exact ⟨g1, s', x, g2, g3, g4.mp hf⟩

theorem Rel.mp (R : Rel c E os) {f : D → D} (hf : ∀ d v, V E os d v → V E os (f d) v) : Rel c E (os.map (Ob.mp f)) ∧ Evo E os E (os.map (Ob.mp f)) := by
  have at' : ∀ {i : Nat} {o : Ob}, (os.map (Ob.mp f))[i]? = some o → ∃ o0, os[i]? = some o0 ∧ o = o0.mp f := fun {i o} h => by
    rw [List.getElem?_map] at h
    obtain ⟨o0, h0, rfl⟩ := Option.map_eq_some_iff.1 h
    exact ⟨o0, h0, rfl⟩
  have ev : Evo E os E (os.map (Ob.mp f)) := ⟨fun b o h => ⟨h, rfl⟩, fun id b cu o k ho hkd hb => ⟨cu, o.mp f, by rw [List.getElem?_map, ho]; rfl, by rw [Ob.mp_kd]; exact hkd, hb⟩,
    fun id o sz rs ho hs => ⟨o.mp f, rs, by rw [List.getElem?_map, ho]; rfl, by rw [Ob.mp_slice]; exact hs, .inl ⟨rfl, rfl⟩⟩⟩
  refine ⟨⟨by simp [R.len], fun i o p h1 h2 => ?_, fun i j o o' p p' b h1 h2 h3 h4 h5 h6 => ?_, fun b off hs => ⟨(R.stm b off hs).1, fun i o p h1 h2 h3 => ?_⟩, R.kept, fun i o p b h1 h2 h3 => ?_, R.sto⟩, ev⟩
  · obtain ⟨o0, h0, rfl⟩ := at' h1
    have hok := R.ok i o0 p h0 h2
    cases o0 with
    | box ds =>
      obtain ⟨cs, ty, g1, g2, g3⟩ := hok
      refine ⟨cs, ty, g1, by simpa using g2, fun j d v hd hv => ?_⟩
      rw [List.getElem?_map] at hd
      obtain ⟨d0, hd0, rfl⟩ := Option.map_eq_some_iff.1 hd
      exact ⟨(hf d0 v (g3 j d0 v hd0 hv).1).mono ev, (g3 j d0 v hd0 hv).2⟩
    | rows fz el sz rs => exact hok
    | frz sz rs => exact hok
    | mpo dk ag l => exact (hok.mp hf).mono ev rfl
    | mit dk ag l it R cur => exact ⟨(hok.1.mp hf).mono ev rfl, (hok.2.mp hf).mono ev (fun _ _ => rfl)⟩
    | mpn dk ag l key sid => exact ⟨(hok.1.mp hf).mono ev rfl, hok.2.mono ev rfl⟩
    | sit s pos => exact hok
    | nit => exact hok
    | itr => trivial
    | stp => trivial
    | dead => trivial
  · obtain ⟨o1, g1, rfl⟩ := at' h1
    obtain ⟨o2, g2, rfl⟩ := at' h3
    rw [Ob.mp_mb] at h5 h6
    exact R.dis i j o1 o2 p p' b g1 h2 g2 h4 h5 h6
  · obtain ⟨o1, g1, rfl⟩ := at' h1
    rw [Ob.mp_mb] at h3
    exact (R.stm b off hs).2 i o1 p g1 h2 h3
  · obtain ⟨o1, g1, rfl⟩ := at' h1
    rw [Ob.mp_mb] at h3
    exact R.mbs i o1 p b g1 h2 h3

theorem Ob.mpb_slice (f : D → D) (o : Ob) : (o.mpb f).slice? = o.slice? := by cases o <;> rfl
theorem Ob.mpb_kd (f : D → D) (o : Ob) : (o.mpb f).kd = o.kd := by cases o <;> rfl
theorem Ob.mpb_mb (f : D → D) (o : Ob) (q : Nat × Value) : (o.mpb f).mb q = o.mb q := by cases o <;> rfl
theorem Rel.mpb (R : Rel c E os) {f : D → D} (hf : ∀ d v, V E os d v → V E os (f d) v) : Rel c E (os.map (Ob.mpb f)) ∧ Evo E os E (os.map (Ob.mpb f)) := by
  have at' : ∀ {i : Nat} {o : Ob}, (os.map (Ob.mpb f))[i]? = some o → ∃ o0, os[i]? = some o0 ∧ o = o0.mpb f := fun {i o} h => by
    rw [List.getElem?_map] at h
    obtain ⟨o0, h0, rfl⟩ := Option.map_eq_some_iff.1 h
    exact ⟨o0, h0, rfl⟩
  have ev : Evo E os E (os.map (Ob.mpb f)) := ⟨fun b o h => ⟨h, rfl⟩, fun id b cu o k ho hkd hb => ⟨cu, o.mpb f, by rw [List.getElem?_map, ho]; rfl, by rw [Ob.mpb_kd]; exact hkd, hb⟩,
    fun id o sz rs ho hs => ⟨o.mpb f, rs, by rw [List.getElem?_map, ho]; rfl, by rw [Ob.mpb_slice]; exact hs, .inl ⟨rfl, rfl⟩⟩⟩
  refine ⟨⟨by simp [R.len], fun i o p h1 h2 => ?_, fun i j o o' p p' b h1 h2 h3 h4 h5 h6 => ?_, fun b off hs => ⟨(R.stm b off hs).1, fun i o p h1 h2 h3 => ?_⟩, R.kept, fun i o p b h1 h2 h3 => ?_, R.sto⟩, ev⟩
  · obtain ⟨o0, h0, rfl⟩ := at' h1
    have hok := R.ok i o0 p h0 h2
    cases o0 with
    | box ds =>
      obtain ⟨cs, ty, g1, g2, g3⟩ := hok
      refine ⟨cs, ty, g1, by simpa using g2, fun j d v hd hv => ?_⟩
      rw [List.getElem?_map] at hd
      obtain ⟨d0, hd0, rfl⟩ := Option.map_eq_some_iff.1 hd
      exact ⟨(hf d0 v (g3 j d0 v hd0 hv).1).mono ev, (g3 j d0 v hd0 hv).2⟩
    | rows fz el sz rs => exact hok
    | frz sz rs => exact hok
    | mpo dk ag l => exact MapO.mono ev rfl hok
    | mit dk ag l it R cur => exact ⟨MapO.mono ev rfl hok.1, hok.2.mono ev (fun _ _ => rfl)⟩
    | mpn dk ag l key sid => exact ⟨MapO.mono ev rfl hok.1, hok.2.mono ev rfl⟩
    | sit s pos => exact hok
    | nit => exact hok
    | itr => trivial
    | stp => trivial
    | dead => trivial
  · obtain ⟨o1, g1, rfl⟩ := at' h1
    obtain ⟨o2, g2, rfl⟩ := at' h3
    rw [Ob.mpb_mb] at h5 h6
    exact R.dis i j o1 o2 p p' b g1 h2 g2 h4 h5 h6
  · obtain ⟨o1, g1, rfl⟩ := at' h1
    rw [Ob.mpb_mb] at h3
    exact (R.stm b off hs).2 i o1 p g1 h2 h3
  · obtain ⟨o1, g1, rfl⟩ := at' h1
    rw [Ob.mpb_mb] at h3
    exact R.mbs i o1 p b g1 h2 h3

theorem Rel.frzL : ∀ (l : List Nat) {E : Env} {os : List Ob}, Rel c E os → ∃ st', Rel c ⟨E.w, st', E.ob⟩ (frzL l os) ∧ Evo E os ⟨E.w, st', E.ob⟩ (frzL l os) ∧ (Go.Ab.frzL l os).length = os.length
  | [], E, os, R => ⟨E.st, R, Evo.refl _ _, rfl⟩
  | i :: l, E, os, R => by
    simp only [Go.Ab.frzL]
    split
    · rename_i fz e sz rs ho
      obtain ⟨p, hp, _⟩ := R.at ho
      obtain ⟨R1, e1⟩ := R.freeze ho hp
      obtain ⟨st', R2, e2, hl⟩ := Rel.frzL l R1
      exact ⟨st', R2, e1.trans e2, by simpa using hl⟩
    · exact Rel.frzL l R

/-- The same objects, fewer of them, in another order. -/
theorem Rel.pickO {ρ : List Nat} (R : Rel c E os) (hn : ρ.Nodup) (hlt : ∀ r ∈ ρ, r < os.length) (hcl : ∀ r ∈ ρ, (os.getD r .dead).inP (fun i => memB i ρ) = true) : Rel c (fpE ρ E) (fpO ρ os) := by
  have R1 := fp_rel R hn hlt hcl
  refine ⟨R1.len, R1.ok, R1.dis, R1.stm, R.kept, fun i o p b h1 h2 h3 => ?_, R.sto⟩
  obtain ⟨r, o0, p0, k1, k2, rfl, k4, k5⟩ := fp_at R hlt h1
  rw [h2] at k5; cases k5
  rw [Ob.ren_mb] at h3
  exact R.mbs r o0 p b k2 k4 h3

theorem Ob.onI_spec (ρ : List Nat) (o : Ob) : (o.onI ρ).kd = o.kd ∧ (o.onI ρ).slice? = o.slice? ∧ (∀ p b, (o.onI ρ).mb p b → o.mb p b) ∧ ∀ (E : Env) (os : List Ob) p, OK E os o p → OK E os (o.onI ρ) p := by
  cases o with
  | mit dk ag l it R cur =>
    simp only [Ob.onI]
    split
    · exact ⟨rfl, rfl, fun _ _ h => h, fun _ _ _ h => h⟩
    · exact ⟨rfl, rfl, fun _ _ h => .inl h, fun _ _ _ h => h.1⟩
  | mpn dk ag l key sid =>
    simp only [Ob.onI]
    split
    · exact ⟨rfl, rfl, fun _ _ h => h, fun _ _ _ h => h⟩
    · exact ⟨rfl, rfl, fun _ _ h => h, fun _ _ _ h => h.1⟩
  | _ => exact ⟨rfl, rfl, fun _ _ h => h, fun _ _ _ h => h⟩
theorem Rel.thaws (R : Rel c E os) (ρ : List Nat) : Rel c E (os.map (Ob.onI ρ)) ∧ Evo E os E (os.map (Ob.onI ρ)) := by
  have at' : ∀ {i : Nat} {o : Ob}, (os.map (Ob.onI ρ))[i]? = some o → ∃ o0, os[i]? = some o0 ∧ o = o0.onI ρ := fun {i o} h => by
    rw [List.getElem?_map] at h
    obtain ⟨o0, h0, rfl⟩ := Option.map_eq_some_iff.1 h
    exact ⟨o0, h0, rfl⟩
  have ev : Evo E os E (os.map (Ob.onI ρ)) := ⟨fun b o h => ⟨h, rfl⟩, fun id b cu o k ho hkd hb => ⟨cu, o.onI ρ, by rw [List.getElem?_map, ho]; rfl, by rw [(Ob.onI_spec ρ o).1]; exact hkd, hb⟩,
    fun id o sz rs ho hs => ⟨o.onI ρ, rs, by rw [List.getElem?_map, ho]; rfl, by rw [(Ob.onI_spec ρ o).2.1]; exact hs, .inl ⟨rfl, rfl⟩⟩⟩
  refine ⟨⟨by simp [R.len], fun i o p h1 h2 => ?_, fun i j o o' p p' b h1 h2 h3 h4 h5 h6 => ?_, fun b off hs => ⟨(R.stm b off hs).1, fun i o p h1 h2 h3 => ?_⟩, R.kept, fun i o p b h1 h2 h3 => ?_, R.sto⟩, ev⟩
  · obtain ⟨o0, h0, rfl⟩ := at' h1
    exact ((Ob.onI_spec ρ o0).2.2.2 E os p (R.ok i o0 p h0 h2)).mono ev (fun _ _ => rfl)
  · obtain ⟨o1, g1, rfl⟩ := at' h1
    obtain ⟨o2, g2, rfl⟩ := at' h3
    exact R.dis i j o1 o2 p p' b g1 h2 g2 h4 ((Ob.onI_spec ρ o1).2.2.1 _ _ h5) ((Ob.onI_spec ρ o2).2.2.1 _ _ h6)
  · obtain ⟨o1, g1, rfl⟩ := at' h1
    exact (R.stm b off hs).2 i o1 p g1 h2 ((Ob.onI_spec ρ o1).2.2.1 _ _ h3)
  · obtain ⟨o1, g1, rfl⟩ := at' h1
    exact R.mbs i o1 p b g1 h2 ((Ob.onI_spec ρ o1).2.2.1 _ _ h3)

theorem inP_on {ρ : List Nat} (d : D) : (d.on ρ).inP (fun i => memB i ρ) = true := by
  unfold D.on
  split
  · assumption
  · rfl

theorem get_nrm (ρ : List Nat) (os : List Ob) (φ : List (Nat × D)) (t : Nat) : get (nrmφ ρ os φ) t = (onF ρ os (get φ t)).ren (inv ρ) := by
  induction φ with
  | nil => rfl
  | cons p φ ih =>
    obtain ⟨u, d⟩ := p
    simp only [nrmφ, List.map_cons, get]
    split
    · rfl
    · exact ih
/-- What is known may be said otherwise. -/
def Wk (c : Ctx) (E0 : Env) (os0 : List Ob) (n : Nat) (φ : List (Nat × D)) (os : List Ob) (φ' : List (Nat × D)) (os' : List Ob) : Prop :=
  ∀ (E : Env) (a : Act), Run c E0 os0 E os → Fr n E os φ a → ∃ E', E'.w = E.w ∧ Run c E0 os0 E' os' ∧ Fr n E' os' φ' a
/-- Objects are forgotten, and numbered anew; slots and boxes that name them say nothing. -/
theorem Wk.pick (ρ : List Nat) (hok : nrmB ρ os0.length os.length = true) : Wk c E0 os0 n φ os (nrmφ ρ os φ) (nrmO ρ os) := by
  simp only [nrmB, Bool.and_eq_true] at hok
  obtain ⟨h1, h2, h3⟩ := hok
  have hn := nodupB_spec h1
  have hlt : ∀ r ∈ ρ, r < os.length := fun r hr => by simpa using List.all_eq_true.1 h2 r hr
  have hpre : ∀ i, i < os0.length → ρ[i]? = some i := fun i hi => by simpa using List.all_eq_true.1 h3 i (List.mem_range.2 hi)
  intro E a R hf
  obtain ⟨R0, e0⟩ := R.rel.mp (f := onF ρ os) (fun d v hd => (hd.vw R.rel).on)
  obtain ⟨R1, e1'⟩ := R0.thaws ρ
  have e1 := e0.trans e1'
  have hlt1 : ∀ r ∈ ρ, r < ((os.map (Ob.mp (onF ρ os))).map (Ob.onI ρ)).length := fun r hr => by simpa using hlt r hr
  have hon : ∀ ds : List D, inL (fun i => memB i ρ) (ds.map (onF ρ os)) = true := fun ds => by
    rw [inL_all]
    refine List.all_eq_true.2 (fun d hd => ?_)
    obtain ⟨d0, _, rfl⟩ := List.mem_map.1 hd
    exact inP_on _
  have honM : ∀ l : List Pr, (l.map (mpP (onF ρ os))).all (inPr (fun i => memB i ρ)) = true := fun l => by
    refine List.all_eq_true.2 (fun q hq => ?_)
    obtain ⟨q0, _, rfl⟩ := List.mem_map.1 hq
    exact hon _
  have hcl : ∀ r ∈ ρ, (((os.map (Ob.mp (onF ρ os))).map (Ob.onI ρ)).getD r .dead).inP (fun i => memB i ρ) = true := fun r hr => by
    have hl := hlt r hr
    simp only [List.getD, List.getElem?_map, List.getElem?_eq_getElem hl, Option.map_some, Option.getD_some]
    cases os[r] with
    | box ds => exact hon ds
    | mpo dk ag l => exact honM l
    | mit dk ag l it R cur =>
      simp only [Ob.mp, Ob.onI]
      split
      · rename_i hm
        simp only [Ob.inP, Bool.and_eq_true]
        refine ⟨honM l, hm, honM R, ?_⟩
        cases cur with
        | none => rfl
        | some q => exact hon _
      · exact honM l
    | mpn dk ag l key sid =>
      simp only [Ob.mp, Ob.onI]
      split
      · rename_i hm
        simp only [Ob.inP, Bool.and_eq_true]
        exact ⟨honM l, hm⟩
      · exact honM l
    | _ => rfl
  have R2 := R1.pickO hn hlt1 hcl
  have e2 := fp_evo (ρ := ρ) R1 hlt1
  refine ⟨fpE ρ E, rfl, ⟨R2, ?_⟩, hf.size, hf.defers, fun t => ?_⟩
  · have e01 := R.evo.trans e1
    have hl01 : os0.length ≤ ((os.map (Ob.mp (onF ρ os))).map (Ob.onI ρ)).length := by
      rcases Nat.eq_zero_or_pos os0.length with h0 | h0
      · omega
      · have := hlt _ (List.mem_of_getElem? (hpre (os0.length - 1) (by omega)))
        simp only [List.length_map]; omega
    have hinv : ∀ i, i < os0.length → inv ρ i = i ∧ memB i ρ = true := fun i hi => ⟨inv_of hn (hpre i hi), memB_iff.2 (List.mem_of_getElem? (hpre i hi))⟩
    refine ⟨e01.st, fun id b cu ds k ho hkd hb => ?_, fun id o sz rs ho hs => ?_⟩
    · have hi := (List.getElem?_eq_some_iff.1 ho).1
      obtain ⟨cu1, ds1, k1, kd1, k2⟩ := e01.bl id b cu ds k ho hkd hb
      obtain ⟨w1, w2⟩ := hinv id hi
      obtain ⟨cu2, ds2, k3, kd2, k4⟩ := e2.bl id b cu1 ds1 k w2 k1 kd1 k2
      rw [w1] at k3 k4
      exact ⟨cu2, ds2, k3, kd2, k4⟩
    · have hi := (List.getElem?_eq_some_iff.1 ho).1
      obtain ⟨o1, rs1, k1, k2, k3⟩ := e01.rf id o sz rs ho hs
      obtain ⟨w1, w2⟩ := hinv id hi
      obtain ⟨o2, rs2, k4, k5, k6⟩ := e2.rf id o1 sz rs1 w2 k1 k2
      rw [w1] at k4 k6
      refine ⟨o2, rs2, k4, k5, ?_⟩
      rcases k3 with ⟨k3, k3'⟩ | k3 <;> rcases k6 with ⟨k6, k6'⟩ | k6
      · exact .inl ⟨k3.trans k6, k6'.trans k3'⟩
      · exact .inr (by omega)
      · exact .inr (by omega)
      · exact .inr (by omega)
  · have h0 : V E os (onF ρ os (get φ t)) (a.tmps.getD t undef) := ((hf.slot t).vw R.rel).on
    have h1 : V (fpE ρ E) (fpO ρ ((os.map (Ob.mp (onF ρ os))).map (Ob.onI ρ))) ((onF ρ os (get φ t)).ren (inv ρ)) (a.tmps.getD t undef) := (h0.mono e1).monoR e2 (inP_on _)
    rw [get_nrm]
    exact h1

theorem Wk.freeze (l : List Nat) : Wk c E0 os0 n φ os φ (frzL l os) := by
  intro E a R hf
  obtain ⟨st', R1, e1, _⟩ := R.rel.frzL l
  exact ⟨⟨E.w, st', E.ob⟩, rfl, ⟨R1, R.evo.trans e1⟩, hf.mono e1⟩
theorem WI.pick (ρ : List Nat) {ic : IC} (hok : nrmB ρ os0.length os.length = true) (h : WI P c E0 os0 n ic Q (nrmφ ρ os φ) (nrmO ρ os)) : WI P c E0 os0 n ic Q φ os := WI.weak (Wk.pick ρ hok) h
/-- Rows no longer turn from here on. -/
theorem WI.freeze (l : List Nat) {ic : IC} (h : WI P c E0 os0 n ic Q φ (frzL l os)) : WI P c E0 os0 n ic Q φ os := WI.weak (Wk.freeze l) h
theorem thenQ_normal {next : List (Nat × D) → List Ob → Prop} (h : next φ os) : thenQ next Q .normal φ os := h
theorem thenQ_exit {next : List (Nat × D) → List Ob → Prop} {i : Nat} (h : Q (.exit i) φ os) : thenQ next Q (.exit i) φ os := h
theorem thenQ_ret {next : List (Nat × D) → List Ob → Prop} (h : Q .ret φ os) : thenQ next Q .ret φ os := h
theorem blockQ_hit {i : Nat} (h : Q .normal φ os) : blockQ i Q (.exit i) φ os := by show (if i = i then Q .normal φ os else Q (.exit i) φ os); rw [if_pos rfl]; exact h
theorem blockQ_miss {i j : Nat} (hne : j ≠ i) (h : Q (.exit j) φ os) : blockQ i Q (.exit j) φ os := by show (if j = i then Q .normal φ os else Q (.exit j) φ os); rw [if_neg hne]; exact h
theorem blockQ_ret {i : Nat} (h : Q .ret φ os) : blockQ i Q .ret φ os := h
theorem blockQ_normal {i : Nat} (h : Q .normal φ os) : blockQ i Q .normal φ os := h

theorem thenQ_goto {next : List (Nat × D) → List Ob → Prop} {l : Nat} (h : Q (.goto l) φ os) : thenQ next Q (.goto l) φ os := h
theorem jumpQ_normal {l : Nat} {J : List (Nat × D) → List Ob → Prop} (h : Q .normal φ os) : jumpQ l J Q .normal φ os := h
theorem jumpQ_exit {l i : Nat} {J : List (Nat × D) → List Ob → Prop} (h : Q (.exit i) φ os) : jumpQ l J Q (.exit i) φ os := h
theorem jumpQ_ret {l : Nat} {J : List (Nat × D) → List Ob → Prop} (h : Q .ret φ os) : jumpQ l J Q .ret φ os := h
/-- A slice that is nil is one without elements. -/
def D.nn : D → D
  | .x .nils => .x (.sl [])
  | d => d
theorem VX.nn {w : World} {st : Nat → Nat → Prop} {v : Value} (h : VX w st .nils v) : VX w st (.sl []) v := by
  cases h
  exact .sl [] none 0 0 0 (fun _ _ => undef) rfl (Nat.le_refl _) (Nat.zero_le _) (fun r hr => by cases hr) (fun i j hi => by omega) (fun _ => ⟨rfl, rfl⟩) (fun _ ad h => by cases h) (fun i j r x hr => by simp at hr)
theorem V.nn {d : D} {v : Value} (h : V E os d v) : V E os d.nn v := by
  unfold D.nn
  split
  · exact .x h.xx.nn
  · exact h
theorem VL.nn {ds : List D} {vs : Array Value} (h : VL E os ds vs) : VL E os (ds.map D.nn) vs := by
  refine ⟨by simpa using h.1, fun j d v hd hv => ?_⟩
  rw [List.getElem?_map] at hd
  obtain ⟨d0, h0, rfl⟩ := Option.map_eq_some_iff.1 hd
  exact (h.2 j d0 v h0 hv).nn
theorem PCalls.nn {f : FuncId} {args : List D} {r : D} (h : PCalls P f (args.map D.nn) r) : PCalls P f args r := fun w st vs hst hvl => h w st vs hst hvl.nn
/-- .. in structs too. -/
def D.na : D → D
  | .agg ds => .agg (ds.map D.nn)
  | .x y => D.nn (.x y)
  | .ref a b c d => .ref a b c d
  | .ptr a b => .ptr a b
  | .eptr a b c d => .eptr a b c d
  | .vptr cs => .vptr cs
  | .mref a => .mref a
  | .mnil => .mnil
  | .iref a b => .iref a b
  | .stk a b => .stk a b
  | .bref a b c => .bref a b c
  | .tup ds => .tup ds
  | .full rs => .full rs
  | .nz rs => .nz rs
  | .fn f c => .fn f c
  | .opt b d => .opt b d
  | .und => .und
theorem V.na {d : D} {v : Value} (h : V E os d v) : V E os d.na v := by
  unfold D.na
  split
  · cases h with
    | agg cs hl h1 hv => exact .agg cs (by simpa using hl) h1 (fun j d v hd hv' => by
        rw [List.getElem?_map] at hd
        obtain ⟨d0, h0, rfl⟩ := Option.map_eq_some_iff.1 hd
        exact (hv j d0 v h0 hv').nn)
  · exact h.nn
  all_goals exact h
theorem VL.na {ds : List D} {vs : Array Value} (h : VL E os ds vs) : VL E os (ds.map D.na) vs := by
  refine ⟨by simpa using h.1, fun j d v hd hv => ?_⟩
  rw [List.getElem?_map] at hd
  obtain ⟨d0, h0, rfl⟩ := Option.map_eq_some_iff.1 hd
  exact (h.2 j d0 v h0 hv).na
theorem PCalls.na {f : FuncId} {args : List D} {r : D} (h : PCalls P f (args.map D.na) r) : PCalls P f args r := fun w st vs hst hvl => h w st vs hst hvl.na
theorem MCalls.nn {f : FuncId} {args : List D} {r : D} {os' : List Ob} (h : MCalls P f (args.map D.nn) (os.map (Ob.mpb D.nn)) r os') : MCalls P f args os r os' := by
  intro c E vs R hvl
  obtain ⟨R1, e1⟩ := R.mpb (f := D.nn) (fun d v hd => hd.nn)
  refine (h c E vs R1 ⟨hvl.nn.1, fun j d v hd hv => (hvl.nn.2 j d v hd hv).mono e1⟩).mono ?_
  rintro e w' ⟨v, E', rfl, rfl, R', ev, hv⟩
  exact ⟨v, E', rfl, rfl, R', e1.trans ev, hv⟩
def nnφ (φ : List (Nat × D)) : List (Nat × D) := φ.map fun p => (p.1, p.2.nn)
theorem get_nn (φ : List (Nat × D)) (t : Nat) : get (nnφ φ) t = (get φ t).nn := by
  induction φ with
  | nil => rfl
  | cons p φ ih =>
    obtain ⟨u, d⟩ := p
    simp only [nnφ, List.map_cons, get]
    split
    · rfl
    · exact ih
theorem Wk.nn : Wk c E0 os0 n φ os (nnφ φ) (os.map (Ob.mpb D.nn)) := by
  intro E a R hf
  obtain ⟨R1, e1⟩ := R.rel.mpb (f := D.nn) (fun d v hd => hd.nn)
  exact ⟨E, rfl, ⟨R1, R.evo.trans e1⟩, hf.size, hf.defers, fun t => by rw [get_nn]; exact ((hf.slot t).nn).mono e1⟩
theorem WI.nn {ic : IC} (h : WI P c E0 os0 n ic Q (nnφ φ) (os.map (Ob.mpb D.nn))) : WI P c E0 os0 n ic Q φ os := WI.weak Wk.nn h
/-- What a counter lacks. -/
def down (N : Int) (t : Nat) (φ : List (Nat × D)) (_ : List Ob) : Nat := (N - ((intOf? (get φ t).val).getD 0)).toNat
end
end Go.Ab
end
section
/- Closed code, run by the kernel: with contracts; rows that no longer turn where that helps. -/
namespace Go.Ab
open Go.RowKit Go.Bo

/-- First the one table, then the other. -/
def orTabs (S T : Tabs) : Tabs where
  q f args := match S.q f args with
    | some (true, r) => some (true, r)
    | _ => T.q f args
  t f args os := match S.t f args os with
    | some (true, r) => some (true, r)
    | _ => T.t f args os
  r f args os := match S.r f args os with
    | some (true, r) => some (true, r)
    | _ => T.r f args os
  k f args os := match S.k f args os with
    | some (true, r) => some (true, r)
    | _ => T.k f args os
theorem orTabs_ok {P : Program} {S T : Tabs} (hS : SsOk P S) (hT : SsOk P T) : SsOk P (orTabs S T) := by
  constructor
  · intro f args r h
    simp only [orTabs] at h
    split at h
    · rename_i r' h1; cases h; exact hS.q _ _ _ h1
    · exact hT.q _ _ _ h
  · intro f args os r os' h
    simp only [orTabs] at h
    split at h
    · rename_i r' h1; cases h; exact hS.t _ _ _ _ _ h1
    · exact hT.t _ _ _ _ _ h
  · intro f args os r h
    simp only [orTabs] at h
    split at h
    · rename_i r' h1; cases h; exact hS.r _ _ _ _ h1
    · exact hT.r _ _ _ _ h
  · intro f args os r ob h
    simp only [orTabs] at h
    split at h
    · rename_i r' h1; cases h; exact hS.k _ _ _ _ _ h1
    · exact hT.k _ _ _ _ _ h
def evTabs (nq : List FuncId) (G : FuncId → Option IFn) (run : IC → List (Nat × D) → List Ob → Option Out) (b : Bool) : Tabs where
  q f args := if (b && !memN f nq) = true then (G f).bind fun p => (callI true run p args []).bind fun r => if r.1.clean then some (true, r.1) else none else none
  t f args os := (G f).bind fun p => (callI false run p args os).map fun r => (true, r)
  r f args os := if (b && !memN f nq) = true then (G f).bind fun p => readT (fun args os => (callI true run p args os).bind fun q => if q.1.clean && prefB os q.2 then some (true, q.1) else none) args os else none
  k f args os := if b then (G f).bind fun p => newT (fun args os => (callI false run p args os).bind fun q => match q.2.drop os.length with
      | [.rows fz e sz rs] => if prefB os q.2 then some (true, q.1, .rows fz e sz rs) else none
      | _ => none) args os else none

/-- Is there a row of the call's own? -/
def anyR (os : List Ob) : Bool := os.any fun o => match o with
  | .rows _ _ _ _ => true
  | _ => false
def allI (os : List Ob) : List Nat := List.range os.length
/-- As it is, or else when no row turns any more. -/
def retry (f : List Ob → Option (Bool × List (Nat × D) × List Ob)) (os : List Ob) : Option Out := match f os with
  | some (true, r) => some (.normal, r)
  | _ => if anyR os = true then match f (frzL (allI os) os) with
    | some (true, r) => some (.normal, r)
    | _ => none
    else none
theorem retry_ok {P : Program} {c : Ctx} {E0 : Env} {os0 os : List Ob} {n : Nat} {Q : Exit → List (Nat × D) → List Ob → Prop} {φ : List (Nat × D)} {ic : IC} {f : List Ob → Option (Bool × List (Nat × D) × List Ob)} (hf : ∀ os r, f os = some (true, r) → ∀ Q' : Exit → List (Nat × D) → List Ob → Prop, Q' .normal r.1 r.2 → WI P c E0 os0 n ic Q' φ os) {x : Exit} {φ' : List (Nat × D)} {os' : List Ob} (h : retry f os = some (x, φ', os')) (hq : Q x φ' os') : WI P c E0 os0 n ic Q φ os := by
  unfold retry at h
  split at h
  · rename_i r hr
    cases h
    exact hf _ _ hr _ hq
  · split at h
    · split at h
      · rename_i r hr
        cases h
        exact WI.freeze (allI os) (hf _ _ hr _ hq)
      · cases h
    · cases h
def ev (S0 : Tabs) (nq : List FuncId) (G : FuncId → Option IFn) : Nat → IC → List (Nat × D) → List Ob → Option Out
  | 0, _, _, _ => none
  | n + 1, ic, φ, os => match ic with
    | .skip => some (.normal, φ, os)
    | .reg l => retry (fun os => runOps (orTabs S0 (evTabs nq G (ev S0 nq G n) false)) φ os l) os
    | .dreg k rs l => retry (fun os => runD (orTabs S0 (evTabs nq G (ev S0 nq G n) true)) φ os k rs l) os
    | .seq a b => (ev S0 nq G n a φ os).bind fun r => match r.1 with
      | .normal => ev S0 nq G n b r.2.1 r.2.2
      | _ => some r
    | .cond x a b => match (opv φ x).val with
      | .x (.bool v) => if (opv φ x).cond then (if v then ev S0 nq G n a φ os else ev S0 nq G n b φ os) else none
      | _ => none
    | .block i b => (ev S0 nq G n b φ os).map fun r => match r.1 with
      | .exit j => if j = i then (.normal, r.2) else r
      | _ => r
    | .loop b => (ev S0 nq G n b φ os).bind fun r => match r.1 with
      | .normal => ev S0 nq G n (.loop b) r.2.1 r.2.2
      | _ => some r
    | .exit i => some (.exit i, φ, os)
    | .ret => some (.ret, φ, os)
    | .label _ => some (.normal, φ, os)
    | .goto l => some (.goto l, φ, os)
    | .scope b cur => (ev S0 nq G n cur φ os).bind fun r => match r.1 with
      | .goto l => match findI b l with
        | some rest => ev S0 nq G n (.scope b rest) r.2.1 r.2.2
        | none => none
      | _ => some r
    | .dead => none

section
variable {P : Program} {G : FuncId → Option IFn}

theorem evTabs_ok {nq : List FuncId} (hG : GOk P G) {run : IC → List (Nat × D) → List Ob → Option Out} (hr : EvOk P run) (b : Bool) : SsOk P (evTabs nq G run b) := by
  constructor
  · intro f args r h
    simp only [evTabs] at h
    split at h
    · obtain ⟨p, hp, h⟩ := Option.bind_eq_some_iff.1 h
      obtain ⟨⟨r', os'⟩, h1, h⟩ := Option.bind_eq_some_iff.1 h
      simp only at h
      split at h
      · rename_i hcl
        cases h
        obtain ⟨k1, k2⟩ := callI_ok hG hr hp h1
        refine ⟨k1, FCalls.pure (fun c E vs R hvl => (k2 c E vs R hvl).mono ?_) hcl⟩
        rintro e w' ⟨v, E', r2, os2, rfl, rfl, R', e', hv, rfl, rfl⟩
        exact ⟨v, E', _, _, rfl, rfl, R', e', hv, rfl⟩
      · cases h
    · cases h
  · intro f args os r os' h
    simp only [evTabs, Option.bind_eq_some_iff] at h
    obtain ⟨p, hp, h⟩ := h
    obtain ⟨⟨r', os2⟩, h1, h⟩ := Option.map_eq_some_iff.1 h
    simp at h
    obtain ⟨rfl, rfl⟩ := h
    obtain ⟨k1, k2⟩ := callI_ok hG hr hp h1
    exact ⟨k1, k2.mcalls⟩
  · intro f args os r h
    simp only [evTabs] at h
    split at h
    · obtain ⟨p, hp, h⟩ := Option.bind_eq_some_iff.1 h
      obtain ⟨fn, w1, w2, w3⟩ := hG f p hp
      refine ⟨enters w1 w2 w3, readT_ok (fun args os r hg => ?_) args os r h⟩
      obtain ⟨⟨r', os'⟩, h1, h2⟩ := Option.bind_eq_some_iff.1 hg
      simp only at h2
      split at h2
      · rename_i hcl
        simp only [Bool.and_eq_true] at hcl
        cases h2
        obtain ⟨X, rfl⟩ := prefB_eq hcl.2
        exact ⟨hcl.1, X, (callI_ok hG hr hp h1).2.mcalls⟩
      · cases h2
    · cases h
  · intro f args os r ob h
    simp only [evTabs] at h
    split at h
    · obtain ⟨p, hp, h⟩ := Option.bind_eq_some_iff.1 h
      obtain ⟨fn, w1, w2, w3⟩ := hG f p hp
      refine ⟨enters w1 w2 w3, newT_ok (fun args os r ob hg => ?_) args os r ob h⟩
      obtain ⟨⟨r', os'⟩, h1, h2⟩ := Option.bind_eq_some_iff.1 hg
      simp only at h2
      split at h2
      · rename_i fz e sz rs hdrop
        split at h2
        · rename_i hpre
          simp only [Option.some.injEq, Prod.mk.injEq, true_and] at h2
          obtain ⟨rfl, rfl⟩ := h2
          obtain ⟨X, rfl⟩ := prefB_eq hpre
          rw [List.drop_left] at hdrop
          subst hdrop
          exact ⟨⟨fz, e, sz, rs, rfl⟩, (callI_ok hG hr hp h1).2.mcalls⟩
        · cases h2
      · cases h2
    · cases h

theorem ev_ok {S0 : Tabs} {nq : List FuncId} (h0 : SsOk P S0) (hG : GOk P G) : ∀ n, EvOk P (ev S0 nq G n) ∧ (∀ b cur φ os x φ' os', ev S0 nq G n (.scope b cur) φ os = some (x, φ', os') → ∀ (c : Ctx) (E0 : Env) (os0 : List Ob) (m : Nat) (code rc : Code), compCode P m code = some b → compCode P m rc = some cur → ∀ (E : Env) (a : Act), Run c E0 os0 E os → Fr m E os φ a →
    wpIn P code rc (fun y a' w' => ∃ E2 φ2 os2, E2.w = w' ∧ Run c E0 os0 E2 os2 ∧ Fr m E2 os2 φ2 a' ∧ y = x ∧ φ2 = φ' ∧ os2 = os') a E.w) ∧ ∀ b φ os x φ' os', ev S0 nq G n (.loop b) φ os = some (x, φ', os') → ∀ (c : Ctx) (E0 : Env) (os0 : List Ob) (m : Nat) (code : Code), compCode P m code = some b → ∀ (E : Env) (a : Act), Run c E0 os0 E os → Fr m E os φ a →
    Code.rounds P code (fun y a' w' => ∃ E2 φ2 os2, E2.w = w' ∧ Run c E0 os0 E2 os2 ∧ Fr m E2 os2 φ2 a' ∧ y = x ∧ φ2 = φ' ∧ os2 = os') n a E.w := by
  intro n
  induction n with
  | zero => exact ⟨fun _ _ _ _ _ _ h => (by cases h), fun _ _ _ _ _ _ _ h => (by cases h), fun _ _ _ _ _ _ h => (by cases h)⟩
  | succ n ih =>
    obtain ⟨ih1, ih3, ih2⟩ := ih
    have hS := fun b => orTabs_ok h0 (evTabs_ok (nq := nq) hG ih1 b)
    have B : ∀ b φ os x φ' os', ev S0 nq G (n + 1) (.loop b) φ os = some (x, φ', os') → ∀ (c : Ctx) (E0 : Env) (os0 : List Ob) (m : Nat) (code : Code), compCode P m code = some b → ∀ (E : Env) (a : Act), Run c E0 os0 E os → Fr m E os φ a →
        Code.rounds P code (fun y a' w' => ∃ E2 φ2 os2, E2.w = w' ∧ Run c E0 os0 E2 os2 ∧ Fr m E2 os2 φ2 a' ∧ y = x ∧ φ2 = φ' ∧ os2 = os') (n + 1) a E.w := by
      intro b φ os x φ' os' h c E0 os0 m code hc E a R hf
      simp only [ev, Option.bind_eq_some_iff] at h
      obtain ⟨⟨y, φ1, os1⟩, h1, h⟩ := h
      rw [rounds_succ]
      refine Code.wp_mono ?_ (ih1 b φ os y φ1 os1 h1 c E0 os0 m code hc E a R hf)
      rintro e a' w' ⟨E', φ2, os2, rfl, R2, f2, rfl, rfl, rfl⟩
      cases e <;> simp only at h <;> first
        | exact ih2 _ _ _ _ _ _ h c E0 os0 m code hc E' a' R2 f2
        | (cases h; exact ⟨E', _, _, rfl, R2, f2, rfl, rfl, rfl⟩)
    have S : ∀ b cur φ os x φ' os', ev S0 nq G (n + 1) (.scope b cur) φ os = some (x, φ', os') → ∀ (c : Ctx) (E0 : Env) (os0 : List Ob) (m : Nat) (code rc : Code), compCode P m code = some b → compCode P m rc = some cur → ∀ (E : Env) (a : Act), Run c E0 os0 E os → Fr m E os φ a →
        wpIn P code rc (fun y a' w' => ∃ E2 φ2 os2, E2.w = w' ∧ Run c E0 os0 E2 os2 ∧ Fr m E2 os2 φ2 a' ∧ y = x ∧ φ2 = φ' ∧ os2 = os') a E.w := by
      intro b cur φ os x φ' os' h c E0 os0 m code rc hcb hcc E a R hf
      simp only [ev, Option.bind_eq_some_iff] at h
      obtain ⟨⟨y, φ1, os1⟩, h1, h⟩ := h
      refine wpIn_step (Code.wp_mono ?_ (ih1 cur φ os y φ1 os1 h1 c E0 os0 m rc hcc E a R hf))
      rintro e a' w' ⟨E', φ2, os2, rfl, R2, f2, rfl, rfl, rfl⟩
      cases e with
      | goto l =>
        simp only at h ⊢
        cases hfi : findI b l with
        | none => rw [hfi] at h; cases h
        | some rest =>
          rw [hfi] at h
          obtain ⟨rc', k1, k2⟩ := (find_comp b code hcb l).1 rest hfi
          exact ⟨rc', k1, ih3 b rest _ _ _ _ _ h c E0 os0 m code rc' hcb k2 E' a' R2 f2⟩
      | _ => simp only at h; cases h; exact ⟨E', _, _, rfl, R2, f2, rfl, rfl, rfl⟩
    refine ⟨fun ic φ os x φ' os' h c E0 os0 m => ?_, S, B⟩
    cases ic with
    | skip => simp only [ev] at h; cases h; exact WI.skip ⟨rfl, rfl, rfl⟩
    | ret => simp only [ev] at h; cases h; exact WI.ret ⟨rfl, rfl, rfl⟩
    | exit i => simp only [ev] at h; cases h; exact WI.exit ⟨rfl, rfl, rfl⟩
    | label l => simp only [ev] at h; cases h; exact WI.label ⟨rfl, rfl, rfl⟩
    | goto l => simp only [ev] at h; cases h; exact WI.goto ⟨rfl, rfl, rfl⟩
    | dead => simp only [ev] at h; cases h
    | scope b cur =>
      intro code hc E a R hf
      obtain ⟨cb, rfl, h1, rfl⟩ := inv_scope hc
      exact wp_of_wpIn (S _ _ φ os x φ' os' h c E0 os0 m cb cb h1 h1 E a R hf)
    | reg l =>
      simp only [ev] at h
      exact retry_ok (fun os r hr Q' hq => WI.reg' (hS _) hr rfl hq) h ⟨rfl, rfl, rfl⟩
    | dreg k rs l =>
      simp only [ev] at h
      exact retry_ok (fun os r hr Q' hq => WI.dreg' (hS _) hr rfl hq) h ⟨rfl, rfl, rfl⟩
    | seq a b =>
      simp only [ev, Option.bind_eq_some_iff] at h
      obtain ⟨⟨y, φ1, os1⟩, h1, h⟩ := h
      refine WI.seq (WI.mono (ih1 _ _ _ _ _ _ h1 c E0 os0 m) ?_)
      rintro e φ2 os2 ⟨rfl, rfl, rfl⟩
      cases e <;> simp only at h <;> first
        | exact ih1 _ _ _ _ _ _ h c E0 os0 m
        | (cases h; exact ⟨rfl, rfl, rfl⟩)
    | cond x a b =>
      simp only [ev] at h
      split at h
      · rename_i v hv
        split at h
        · rename_i hcd
          refine WI.cond hv hcd (fun hb => ?_) (fun hb => ?_)
          · subst hb; exact ih1 _ _ _ _ _ _ h c E0 os0 m
          · subst hb; exact ih1 _ _ _ _ _ _ h c E0 os0 m
        · cases h
      · cases h
    | block i b =>
      simp only [ev, Option.map_eq_some_iff] at h
      obtain ⟨⟨y, φ1, os1⟩, h1, h⟩ := h
      refine WI.block (WI.mono (ih1 _ _ _ _ _ _ h1 c E0 os0 m) ?_)
      rintro e φ2 os2 ⟨rfl, rfl, rfl⟩
      cases e with
      | exit j =>
        simp only at h
        simp only [blockQ]
        split at h
        · rename_i hj; rw [if_pos hj]; cases h; exact ⟨rfl, rfl, rfl⟩
        · rename_i hj; rw [if_neg hj]; cases h; exact ⟨rfl, rfl, rfl⟩
      | _ => simp only at h; cases h; exact ⟨rfl, rfl, rfl⟩
    | loop b =>
      intro code hc E a R hf
      obtain ⟨cb, rfl, h1⟩ := inv_loop hc
      exact wp_loop_rounds (n + 1) (B b φ os x φ' os' h c E0 os0 m cb h1 E a R hf)

theorem ev_pure {S0 : Tabs} {nq : List FuncId} (h0 : SsOk P S0) (hG : GOk P G) (n : Nat) {f : FuncId} {p : IFn} (hp : G f = some p) {args : List D} {os' : List Ob} {r : D} (h : callI true (ev S0 nq G n) p args [] = some (r, os')) (hcl : r.clean = true) : Enters P f ∧ PCalls P f args r :=
  let k := callI_ok hG (ev_ok h0 hG n).1 hp h
  ⟨k.1, FCalls.pure (fun c E vs R hvl => (k.2 c E vs R hvl).mono (by
    rintro e w' ⟨v, E', r2, os2, rfl, rfl, R', e', hv, rfl, rfl⟩
    exact ⟨v, E', _, _, rfl, rfl, R', e', hv, rfl⟩)) hcl⟩

/-- A closed call, run by the kernel, with contracts; 'nq': functions whose results stay the call's own. -/
theorem ev_closedN {P : Program} {G : FuncId → Option IFn} (hG : GOk P G) (n : Nat) {f : FuncId} {p : IFn} (hp : G f = some p) {S0 : Tabs} (h0 : SsOk P S0) (nq : List FuncId) {args : List D} {r : D} (h : (callI true (ev S0 nq G n) p args []).map (·.1) = some r) (hcl : r.clean = true) : PCalls P f args r := by
  obtain ⟨⟨r', os⟩, h1, h2⟩ := Option.map_eq_some_iff.1 h
  simp only at h2
  subst h2
  exact (ev_pure h0 hG n hp h1 hcl).2
theorem ev_closedS {P : Program} {G : FuncId → Option IFn} (hG : GOk P G) (n : Nat) {f : FuncId} {p : IFn} (hp : G f = some p) {S0 : Tabs} (h0 : SsOk P S0) {args : List D} {r : D} (h : (callI true (ev S0 [] G n) p args []).map (·.1) = some r) (hcl : r.clean = true) : PCalls P f args r := ev_closedN hG n hp h0 [] h hcl
end
end Go.Ab
end
section
/- Data of plain types as rows of abstract cells, there and back; what is read of a call's arguments is such data; how long slices are at most. -/
namespace Go.Ab
open Go.RowKit Go.Bo

/-- Data in so many cells. -/
structure RC (α : Type) where
  n : Nat
  enc : α → List X
  dec : List X → Option α
structure RC.Good {α : Type} (c : RC α) : Prop where
  len : ∀ a, (c.enc a).length = c.n
  de : ∀ a, c.dec (c.enc a) = some a
  ed : ∀ r a, c.dec r = some a → c.enc a = r

def rInt (k : IntKind) : RC Int := ⟨1, fun x => [.int k x], fun | [.int k' x] => if k' = k then some x else none | _ => none⟩
def rStr : RC (List UInt8) := ⟨1, fun s => [.str s], fun | [.str s] => some s | _ => none⟩
def rBool : RC Bool := ⟨1, fun s => [.bool s], fun | [.bool s] => some s | _ => none⟩
def rEnd : RC Unit := ⟨0, fun _ => [], fun | [] => some () | _ => none⟩
def rCat {α β : Type} (c : RC α) (d : RC β) : RC (α × β) := ⟨c.n + d.n, fun p => c.enc p.1 ++ d.enc p.2, fun r => (c.dec (r.take c.n)).bind fun a => (d.dec (r.drop c.n)).map fun b => (a, b)⟩
def rVia {α β : Type} (c : RC α) (f : β → α) (g : α → β) : RC β := ⟨c.n, fun b => c.enc (f b), fun r => (c.dec r).map g⟩
def rows {α : Type} (c : RC α) (l : List α) : List (List X) := l.map c.enc
def unrows {α : Type} (c : RC α) (rs : List (List X)) : Option (List α) := rs.mapM c.dec
def rSl {α : Type} (c : RC α) : RC (List α) := ⟨1, fun l => [.sl (rows c l)], fun | [.sl rs] => unrows c rs | _ => none⟩

theorem mapM_some_iff {α β : Type} {f : α → Option β} : ∀ {l : List α} {m : List β}, l.mapM f = some m ↔ l.length = m.length ∧ ∀ (i : Nat) (h : i < l.length) (h' : i < m.length), f l[i] = some m[i]
  | [], m => by
    cases m <;> simp
  | x :: l, m => by
    simp only [List.mapM_cons, Option.bind_eq_bind, Option.bind_eq_some_iff, Option.pure_def, Option.some.injEq]
    constructor
    · rintro ⟨y, hy, ys, hys, rfl⟩
      obtain ⟨h1, h2⟩ := mapM_some_iff.1 hys
      refine ⟨by simp [h1], fun i h h' => ?_⟩
      cases i with
      | zero => exact hy
      | succ i => simpa using h2 i (by simpa using h) (by simpa using h')
    · rintro ⟨h1, h2⟩
      cases m with
      | nil => simp at h1
      | cons y ys =>
        refine ⟨y, h2 0 (by simp) (by simp), ys, mapM_some_iff.2 ⟨by simpa using h1, fun i h h' => ?_⟩, rfl⟩
        exact h2 (i + 1) (by simp; omega) (by simp; omega)

section
variable {α β : Type} {c : RC α} {d : RC β}
theorem rows_len (c : RC α) (l : List α) : (rows c l).length = l.length := by simp [rows]
theorem rows_get (c : RC α) (l : List α) (i : Nat) (h : i < l.length) : (rows c l)[i]? = some (c.enc l[i]) := by simp [rows, h]
theorem rows_drop (c : RC α) (l : List α) (k : Nat) : (rows c l).drop k = rows c (l.drop k) := by simp [rows]
theorem rows_take (c : RC α) (l : List α) (k : Nat) : (rows c l).take k = rows c (l.take k) := by simp [rows]
theorem rows_app (c : RC α) (l m : List α) : rows c l ++ rows c m = rows c (l ++ m) := by simp [rows]
theorem rows_all (h : c.Good) (l : List α) (sz : Nat) (hs : c.n = sz) : ((rows c l).all fun r => decide (r.length = sz)) = true := by
  subst hs
  rw [List.all_eq_true]
  intro r hr
  obtain ⟨a, _, rfl⟩ := List.mem_map.1 hr
  simp [h.len]
theorem unrows_rows (h : c.Good) (l : List α) : unrows c (rows c l) = some l := by
  unfold unrows
  rw [mapM_some_iff]
  exact ⟨by simp [rows], fun i h1 h2 => by simp [rows, h.de]⟩
theorem rows_unrows (h : c.Good) {rs : List (List X)} {l : List α} (hu : unrows c rs = some l) : rows c l = rs := by
  unfold unrows at hu
  rw [mapM_some_iff] at hu
  refine List.ext_getElem (by simp [rows, hu.1]) (fun i h1 h2 => ?_)
  have := hu.2 i h2 (by simpa [rows] using h1)
  simpa [rows] using h.ed _ _ this

theorem enc_rInt (k : IntKind) (n : Int) : (rInt k).enc n = [.int k n] := rfl
theorem enc_rStr (s : List UInt8) : rStr.enc s = [.str s] := rfl
theorem enc_rBool (b : Bool) : rBool.enc b = [.bool b] := rfl
theorem enc_rEnd (u : Unit) : rEnd.enc u = [] := rfl
theorem enc_rSl (c : RC α) (l : List α) : (rSl c).enc l = [.sl (rows c l)] := rfl
theorem enc_rCat (c : RC α) (d : RC β) (p : α × β) : (rCat c d).enc p = c.enc p.1 ++ d.enc p.2 := rfl
theorem enc_rVia (c : RC α) (f : β → α) (g : α → β) (b : β) : (rVia c f g).enc b = c.enc (f b) := rfl
theorem good_rInt (k : IntKind) : (rInt k).Good := ⟨fun _ => rfl, fun a => by simp [rInt], fun r a h => by
  simp only [rInt] at h ⊢
  split at h
  · split at h
    · rename_i hk; cases h; rw [hk]
    · cases h
  · cases h⟩
theorem good_rStr : rStr.Good := ⟨fun _ => rfl, fun a => rfl, fun r a h => by
  simp only [rStr] at h ⊢
  split at h
  · cases h; rfl
  · cases h⟩
theorem good_rEnd : rEnd.Good := ⟨fun _ => rfl, fun a => rfl, fun r a h => by
  simp only [rEnd] at h ⊢
  split at h
  · rfl
  · cases h⟩
theorem good_rCat (hc : c.Good) (hd : d.Good) : (rCat c d).Good := ⟨fun p => by simp [rCat, hc.len, hd.len], fun p => by
    have h1 : (c.enc p.1 ++ d.enc p.2).take c.n = c.enc p.1 := by rw [List.take_append_of_le_length (by rw [hc.len]; exact Nat.le_refl _), List.take_of_length_le (by rw [hc.len]; exact Nat.le_refl _)]
    have h2 : (c.enc p.1 ++ d.enc p.2).drop c.n = d.enc p.2 := by rw [← hc.len p.1]; exact List.drop_left
    simp [rCat, h1, h2, hc.de, hd.de], fun r p h => by
    simp only [rCat, Option.bind_eq_some_iff, Option.map_eq_some_iff] at h
    obtain ⟨a, h1, b, h2, rfl⟩ := h
    simp only [rCat, hc.ed _ _ h1, hd.ed _ _ h2, List.take_append_drop]⟩
theorem good_rSl (hc : c.Good) : (rSl c).Good := ⟨fun _ => rfl, fun l => unrows_rows hc l, fun r l h => by
  simp only [rSl] at h ⊢
  split at h
  · rw [rows_unrows hc h]
  · cases h⟩
end

/-! ### How long slices are at most -/
mutual
/-- Each slice in it is no longer than slices may be. -/
def X.wf : X → Prop
  | .sl rs => rs.length ≤ maxLen ∧ X.wfR rs
  | .int _ _ => True
  | .bool _ => True
  | .str _ => True
  | .nilp => True
  | .nils => True
def X.wfR : List (List X) → Prop
  | [] => True
  | r :: l => X.wfL r ∧ X.wfR l
def X.wfL : List X → Prop
  | [] => True
  | x :: l => x.wf ∧ X.wfL l
end
theorem X.wfL_iff : ∀ {l : List X}, X.wfL l ↔ ∀ x ∈ l, x.wf
  | [] => by simp [X.wfL]
  | x :: l => by simp [X.wfL, X.wfL_iff (l := l)]
theorem X.wfR_iff : ∀ {rs : List (List X)}, X.wfR rs ↔ ∀ r ∈ rs, X.wfL r
  | [] => by simp [X.wfR]
  | r :: l => by simp [X.wfR, X.wfR_iff (rs := l)]
theorem VX.wf {w : World} {st : Nat → Nat → Prop} {x : X} {v : Value} (h : VX w st x v) : x.wf := by
  induction h with
  | sl rs a n c sz val hn hc hm hsz hcell hnil hsp hval ih =>
    refine ⟨by omega, X.wfR_iff.2 (fun r hr => X.wfL_iff.2 (fun x hx => ?_))⟩
    obtain ⟨i, hi⟩ := List.mem_iff_getElem?.1 hr
    obtain ⟨j, hj⟩ := List.mem_iff_getElem?.1 hx
    exact ih i j r x hi hj
  | _ => trivial

section
variable {P : Program}
/-- Of a call's arguments that much is known. -/
theorem PCalls.wf {f : FuncId} {args : List D} {r : D} (h : (∀ x, D.x x ∈ args → x.wf) → PCalls P f args r) : PCalls P f args r := by
  intro w st vs hst hvl
  refine h (fun x hx => ?_) w st vs hst hvl
  obtain ⟨j, hj⟩ := List.mem_iff_getElem?.1 hx
  have hl := (List.getElem?_eq_some_iff.1 hj).1
  have hv : vs[j]? = some (vs[j]'(by rw [← hvl.1]; exact hl)) := Array.getElem?_eq_getElem _
  exact (hvl.2 j _ _ hj hv).xx.wf
theorem PCalls.wfA {f : FuncId} {args : List D} {r : D} (h : (∀ (i j : Nat) x, (args[i]?).bind (fun d => match d with | .agg ds => ds[j]? | _ => none) = some (D.x x) → x.wf) → PCalls P f args r) : PCalls P f args r := by
  intro w st vs hst hvl
  refine h (fun i j x hx => ?_) w st vs hst hvl
  obtain ⟨d, hd, h2⟩ := Option.bind_eq_some_iff.1 hx
  have hl := (List.getElem?_eq_some_iff.1 hd).1
  have hv : vs[i]? = some (vs[i]'(by rw [← hvl.1]; exact hl)) := Array.getElem?_eq_getElem _
  have hvd := hvl.2 i d _ hd hv
  cases d with
  | agg ds =>
    generalize vs[i]'(by rw [← hvl.1]; exact hl) = u at hvd
    cases hvd with
    | agg us hl2 h1 hv2 =>
      have hj := (List.getElem?_eq_some_iff.1 h2).1
      exact (hv2 j _ _ h2 (Array.getElem?_eq_getElem (by omega))).xx.wf
  | _ => cases h2
theorem WI.wf {c : Ctx} {E0 : Env} {os0 os : List Ob} {n : Nat} {Q : Exit → List (Nat × D) → List Ob → Prop} {φ : List (Nat × D)} {ic : IC} (t : Nat) {x : X} (ht : get φ t = .x x) (h : x.wf → WI P c E0 os0 n ic Q φ os) : WI P c E0 os0 n ic Q φ os := by
  intro code hc E a R hf
  have := hf.slot t
  rw [ht] at this
  exact h this.xx.wf code hc E a R hf

/-! ### What is read of arguments -/
mutual
/-- Numbers in their kind's range; texts and slices no longer than they may be. -/
def X.ok : X → Prop
  | .sl rs => rs.length ≤ maxLen ∧ X.okR rs
  | .int k n => (Lit.int k n).wf = true
  | .bool _ => True
  | .str s => s.length ≤ maxLen
  | .nilp => True
  | .nils => True
def X.okR : List (List X) → Prop
  | [] => True
  | r :: l => X.okL r ∧ X.okR l
def X.okL : List X → Prop
  | [] => True
  | x :: l => x.ok ∧ X.okL l
end

/-- The cells hold that. -/
def Lies (w : World) (xs : List X) (cs : List Value) : Prop := cs.length = xs.length ∧ ∀ (j : Nat) (x : X) (v : Value), xs[j]? = some x → cs[j]? = some v → VX w (fun b _ => b < w.heap.size) x v
/-- Whatever reads as data of type T are such data. -/
def Opens (P : Program) (T : TypeId) {α : Type} (c : RC α) : Prop :=
  P.cellsOf T = c.n ∧ ∀ {H : Type} (enc : TypeId × Value → H) (w : World) (fuel : Nat) (cs : List Value) (x : DataW H × List MemPlace), DataW.trod enc P w 0 (fun _ => true) true fuel T cs = some x → ∃ y, Lies w (c.enc y) cs ∧ X.okL (c.enc y)

theorem Lies.one {w : World} {x : X} {v : Value} (h : VX w (fun b _ => b < w.heap.size) x v) : Lies w [x] [v] := ⟨rfl, fun j y u h1 h2 => by
  cases j with
  | zero => simp at h1 h2; subst h1; subst h2; exact h
  | succ j => simp at h1⟩

variable {T : TypeId}
theorem bstr_of (s : ByteArray) : bstr s.toList = s := by
  apply ByteArray.ext
  apply Array.ext'
  rw [ByteArray.toList_eq]
  simp [bstr]
theorem opens_str (hT : P.underlying T = some .string) (hc : P.cellsOf T = 1) : Opens P T rStr := by
  refine ⟨hc, fun {H} enc w fuel cs x h => ?_⟩
  obtain ⟨s, rfl, _, h3⟩ := DataW.trod_string hT h
  have h4 : VX w (fun b _ => b < w.heap.size) (.str s.toList) (.string (bstr s.toList)) := .str _
  rw [bstr_of] at h4
  refine ⟨s.toList, Lies.one h4, ?_, trivial⟩
  show s.toList.length ≤ maxLen
  rw [ByteArray.toList_eq]; simpa using h3

/-- .. with so much fuel. -/
def OpensAt (P : Program) (fuel : Nat) (T : TypeId) {α : Type} (c : RC α) : Prop := ∀ {H : Type} (enc : TypeId × Value → H) (w : World) (cs : List Value) (x : DataW H × List MemPlace), DataW.trod enc P w 0 (fun _ => true) true fuel T cs = some x → ∃ y, Lies w (c.enc y) cs ∧ X.okL (c.enc y)
theorem Opens.at' {α : Type} {c : RC α} (h : Opens P T c) (n : Nat) : OpensAt P n T c := fun enc w cs x hx => h.2 enc w n cs x hx

/-- Contracts that take nil slices as empty ones. -/
def viaNN (g : List D → Option (Bool × D)) (args : List D) : Option (Bool × D) := g (args.map D.na)
def viaNNT (g : List D → List Ob → Option (Bool × D × List Ob)) (args : List D) (os : List Ob) : Option (Bool × D × List Ob) := g (args.map D.nn) (os.map (Ob.mpb D.nn))
end
/-! ### The program's data -/
abbrev rAttr := rCat rStr (rCat (rSl rStr) rEnd)
abbrev rEntry := rCat rStr (rCat (rSl rAttr) rEnd)
abbrev rChange := rCat (rInt .i64) (rCat (rInt .i64) (rCat rEntry (rCat rEntry (rCat rStr rEnd))))
abbrev TAttr := List UInt8 × (List (List UInt8) × Unit)
abbrev TEntry := List UInt8 × (List TAttr × Unit)
abbrev TChange := Int × (Int × (TEntry × (TEntry × (List UInt8 × Unit))))
instance decAttr : DecidableEq TAttr := fun a b => decidable_of_iff (a.1 = b.1 ∧ a.2.1 = b.2.1) ⟨fun h => Prod.ext h.1 (Prod.ext h.2 rfl), fun h => h ▸ ⟨rfl, rfl⟩⟩
instance decEntry : DecidableEq TEntry := fun a b => decidable_of_iff (a.1 = b.1 ∧ a.2.1 = b.2.1) ⟨fun h => Prod.ext h.1 (Prod.ext h.2 rfl), fun h => h ▸ ⟨rfl, rfl⟩⟩
instance decChange : DecidableEq TChange := fun a b => decidable_of_iff ((a.1 = b.1 ∧ a.2.1 = b.2.1) ∧ (a.2.2.1 = b.2.2.1 ∧ a.2.2.2.1 = b.2.2.2.1) ∧ a.2.2.2.2.1 = b.2.2.2.2.1)
  ⟨fun h => Prod.ext h.1.1 (Prod.ext h.1.2 (Prod.ext h.2.1.1 (Prod.ext h.2.1.2 (Prod.ext h.2.2 rfl)))), fun h => h ▸ ⟨⟨rfl, rfl⟩, ⟨rfl, rfl⟩, rfl⟩⟩
theorem good_rAttr : rAttr.Good := good_rCat good_rStr (good_rCat (good_rSl good_rStr) good_rEnd)
theorem good_rEntry : rEntry.Good := good_rCat good_rStr (good_rCat (good_rSl good_rAttr) good_rEnd)
theorem good_rChange : rChange.Good := good_rCat (good_rInt _) (good_rCat (good_rInt _) (good_rCat good_rEntry (good_rCat good_rEntry (good_rCat good_rStr good_rEnd))))
theorem un_rStr (l : List (List UInt8)) : unrows rStr (rows rStr l) = some l := unrows_rows good_rStr l
theorem un_rInt (k : IntKind) (l : List Int) : unrows (rInt k) (rows (rInt k) l) = some l := unrows_rows (good_rInt k) l
theorem un_rAttr (l) : unrows rAttr (rows rAttr l) = some l := unrows_rows good_rAttr l
theorem un_rEntry (l) : unrows rEntry (rows rEntry l) = some l := unrows_rows good_rEntry l
theorem un_rChange (l) : unrows rChange (rows rChange l) = some l := unrows_rows good_rChange l
theorem all_rStr (l) : ((rows rStr l).all fun r => decide (r.length = 1)) = true := rows_all good_rStr l 1 rfl
theorem all_rInt (k) (l) : ((rows (rInt k) l).all fun r => decide (r.length = 1)) = true := rows_all (good_rInt k) l 1 rfl
theorem all_rAttr (l) : ((rows rAttr l).all fun r => decide (r.length = 2)) = true := rows_all good_rAttr l 2 rfl
theorem all_rEntry (l) : ((rows rEntry l).all fun r => decide (r.length = 2)) = true := rows_all good_rEntry l 2 rfl
theorem all_rChange (l) : ((rows rChange l).all fun r => decide (r.length = 7)) = true := rows_all good_rChange l 7 rfl
end Go.Ab
end
section
/- Structs and arrays among arguments; from a law's contract to what is asked of the call. -/
namespace Go.Ab
open Go.RowKit Go.Bo

section
variable {P : Program} {T : TypeId} {w : World}
theorem Lies.append {xs ys : List X} {cs ds : List Value} (h : Lies w xs cs) (k : Lies w ys ds) : Lies w (xs ++ ys) (cs ++ ds) := by
  refine ⟨by simp [h.1, k.1], fun j x v hx hv => ?_⟩
  by_cases hj : j < xs.length
  · rw [List.getElem?_append_left hj] at hx
    rw [List.getElem?_append_left (by rw [h.1]; exact hj)] at hv
    exact h.2 j x v hx hv
  · rw [List.getElem?_append_right (by omega)] at hx
    rw [List.getElem?_append_right (by rw [h.1]; omega), h.1] at hv
    exact k.2 _ x v hx hv
theorem Lies.nil : Lies w [] [] := ⟨rfl, fun j x v h => by simp at h⟩



/-- Arguments. -/
inductive VF (E : Env) (os : List Ob) : List D → List Value → Prop
  | nil : VF E os [] []
  | cons {d : D} {v : Value} {ds : List D} {l : List Value} (h : V E os d v) (t : VF E os ds l) : VF E os (d :: ds) (v :: l)
theorem VL.mk {E : Env} {os : List Ob} : ∀ {ds : List D} {l : List Value}, VF E os ds l → VL E os ds l.toArray
  | _, _, .nil => ⟨rfl, fun j d v h => by simp at h⟩
  | _, _, .cons (d := d) (v := v) (ds := ds) (l := l) h t => by
    have ih := VL.mk t
    refine ⟨by have := ih.1; simp at this ⊢; exact this, fun j d' v' hd hv => ?_⟩
    cases j with
    | zero => simp at hd hv; subst hd; subst hv; exact h
    | succ j => exact ih.2 j d' v' (by simpa using hd) (by simpa using hv)
abbrev argE (w : World) : Env := ⟨w, fun b _ => b < w.heap.size, []⟩
theorem V.lies1 {x : X} {v : Value} (h : Lies w [x] [v]) : V (argE w) [] (.x x) v := .x (h.2 0 x v rfl rfl)

/-- A law's contract is what is asked of the call. -/
theorem PCalls.law {f : FuncId} {args : List D} (h : PCalls P f args (.x (.bool true))) {vs : List Value} (hvl : VF (argE w) [] args vs) : Calls P f vs.toArray w fun e w' => e = .returned (.bool true) ∧ Ext w w' := by
  refine (h w (fun b _ => b < w.heap.size) vs.toArray (fun _ _ hb => hb) (VL.mk hvl)).mono ?_
  rintro e w' ⟨v, st', rfl, hk, _, _, hv⟩
  rw [V.bool hv]
  exact ⟨rfl, hk.os, hk.tape, hk.output, hk.size, fun k hb => hk.block k hb (fun h => h)⟩
end
end Go.Ab
end
section
/- Rows of operations, one after the other: forms that a rewriter can follow quickly. -/
namespace Go.Ab
open Go.RowKit Go.Bo

def runOpsA (S : Tabs) : Bool → List (Nat × D) → List Ob → List IOp → Option (Bool × List (Nat × D) × List Ob)
  | b, φ, os, [] => some (b, φ, os)
  | b, φ, os, o :: l => match stepOp S φ os o with
    | some r => runOpsA S (b && r.1) r.2.1 r.2.2 l
    | none => none
theorem runOpsA_eq (S : Tabs) : ∀ (l : List IOp) (b : Bool) (φ : List (Nat × D)) (os : List Ob), runOpsA S b φ os l = (runOps S φ os l).map fun q => (b && q.1, q.2)
  | [], b, φ, os => by simp [runOpsA, runOps]
  | o :: l, b, φ, os => by
    simp only [runOpsA, runOps]
    cases stepOp S φ os o with
    | none => rfl
    | some r =>
      simp only [Option.bind_some, runOpsA_eq S l]
      cases runOps S r.2.1 r.2.2 l with
      | none => rfl
      | some q => simp [Bool.and_assoc]

def runDA (S : Tabs) (os0 : List Ob) (k : Nat) (rs : List Nat) : Nat → Bool → List (Nat × D) → Nat → List Ob → List Ob → Option (List Ob) → List IOp → Option (Bool × List (Nat × D) × List Ob)
  | _, b, φ, _, _, C, last, [] => some (b, φ, last.getD (os0 ++ C))
  | i, b, φ, id, os, C, last, o :: l =>
    if o.e.frame then match evQ S φ [] o with
      | some r => runDA S os0 k rs (i + 1) (b && r.1) (putO φ o.dst r.2) id os C last l
      | none => none
    else if memB i rs then match evQ S φ os0 o with
      | some r => runDA S os0 k rs (i + 1) (b && r.1) (putO φ o.dst r.2) id os C last l
      | none => none
    else if i < k then match evQ S φ os0 o with
      | some r => runDA S os0 k rs (i + 1) (b && r.1) (putO φ o.dst r.2) id os C last l
      | none => match nearQ φ os o with
        | some r => runDA S os0 k rs (i + 1) (b && r.1) (putO φ o.dst r.2) id os C last l
        | none => match evK S φ os0 id o with
          | some r => runDA S os0 k rs (i + 1) (b && r.1) (putO φ o.dst r.2.1) (id + 1) (os ++ [r.2.2]) (C ++ [r.2.2]) last l
          | none => none
    else match evA S φ os o with
      | some r => runDA S os0 k rs (i + 1) (b && (r.1 && (match rs with | [] => true | _ => prefB os0 r.2.2))) (putO φ o.dst r.2.1) id r.2.2 C (some r.2.2) l
      | none => none

theorem preG_none (rs : List Nat) (os0 : List Ob) (G) : preG rs os0 (none :: G) = preG rs os0 G := by cases rs <;> rfl
theorem preG_some (rs : List Nat) (os0 : List Ob) (x : List Ob) (G) : preG rs os0 (some x :: G) = ((match rs with | [] => true | _ => prefB os0 x) && preG rs os0 G) := by cases rs <;> rfl
theorem lookS_true_none (G : List (Option (List Ob))) (i : Nat) (b : List Ob) : lookS (none :: G) (fun _ => true) i b = lookS G (fun _ => true) 0 b := by
  simp only [lookS]; exact lookS_congr _ _ _ _ _ (fun _ _ _ => rfl) |>.trans (by
    have : ∀ (G : List (Option (List Ob))) (i j : Nat) (b : List Ob), lookS G (fun _ => true) i b = lookS G (fun _ => true) j b := by
      intro G
      induction G with
      | nil => intro i j b; rfl
      | cons x G ih => intro i j b; cases x <;> simp only [lookS] <;> exact ih _ _ _
    exact this _ _ _ _)
theorem lookS_true_some (G : List (Option (List Ob))) (i : Nat) (b x : List Ob) : lookS (some x :: G) (fun _ => true) i b = lookS G (fun _ => true) 0 x := by
  have : ∀ (G : List (Option (List Ob))) (i j : Nat) (b : List Ob), lookS G (fun _ => true) i b = lookS G (fun _ => true) j b := by
    intro G
    induction G with
    | nil => intro i j b; rfl
    | cons x G ih => intro i j b; cases x <;> simp only [lookS] <;> exact ih _ _ _
  simp only [lookS, if_true]; exact this _ _ _ _

theorem runDA_eq (S : Tabs) (os0 : List Ob) (k : Nat) (rs : List Nat) : ∀ (l : List IOp) (i : Nat) (b : Bool) (φ : List (Nat × D)) (id : Nat) (os C : List Ob) (last : Option (List Ob)),
    runDA S os0 k rs i b φ id os C last l = (runR S os0 k rs i φ id os l).map fun q => (b && (q.1 && preG rs os0 q.2.2), recφ φ q.2.1, lookS q.2.2 (fun _ => true) 0 (last.getD (os0 ++ C ++ recO q.2.1)))
  | [], i, b, φ, id, os, C, last => by
    have : preG rs os0 [] = true := by cases rs <;> rfl
    simp [runDA, runR, recφ, recO, lookS, this]
  | o :: l, i, b, φ, id, os, C, last => by
    simp only [runDA, runR]
    split
    · cases evQ S φ [] o with
      | none => rfl
      | some r =>
        simp only [Option.bind_some, runDA_eq S os0 k rs l]
        cases runR S os0 k rs (i + 1) (putO φ o.dst r.2) id os l with
        | none => rfl
        | some q => simp only [Option.map_some, Bool.and_assoc, recφ, recO, preG_none, lookS_true_none]
    · split
      · cases evQ S φ os0 o with
        | none => rfl
        | some r =>
          simp only [Option.bind_some, runDA_eq S os0 k rs l]
          cases runR S os0 k rs (i + 1) (putO φ o.dst r.2) id os l with
          | none => rfl
          | some q => simp only [Option.map_some, Bool.and_assoc, recφ, recO, preG_none, lookS_true_none]
      · split
        · cases evQ S φ os0 o with
          | some r =>
            simp only [runDA_eq S os0 k rs l]
            cases runR S os0 k rs (i + 1) (putO φ o.dst r.2) id os l with
            | none => rfl
            | some q => simp only [Option.map_some, Bool.and_assoc, recφ, recO, preG_none, lookS_true_none]
          | none =>
            cases nearQ φ os o with
            | some r =>
              simp only [runDA_eq S os0 k rs l]
              cases runR S os0 k rs (i + 1) (putO φ o.dst r.2) id os l with
              | none => rfl
              | some q => simp only [Option.map_some, Bool.and_assoc, recφ, recO, preG_none, lookS_true_none]
            | none =>
              cases evK S φ os0 id o with
              | none => rfl
              | some r =>
                simp only [Option.bind_some, runDA_eq S os0 k rs l]
                cases runR S os0 k rs (i + 1) (putO φ o.dst r.2.1) (id + 1) (os ++ [r.2.2]) l with
                | none => rfl
                | some q => simp only [Option.map_some, Bool.and_assoc, recφ, recO, preG_none, lookS_true_none, List.append_assoc, List.cons_append, List.nil_append]
        · cases evA S φ os o with
          | none => rfl
          | some r =>
            simp only [Option.bind_some, runDA_eq S os0 k rs l]
            cases runR S os0 k rs (i + 1) (putO φ o.dst r.2.1) id r.2.2 l with
            | none => rfl
            | some q => simp only [Option.map_some, Bool.and_assoc, recφ, recO, preG_some, lookS_true_some, Option.getD_some]; congr 1; simp only [Prod.mk.injEq, and_true]; ac_rfl

section
variable {P : Program} {c : Ctx} {E0 : Env} {os0 os : List Ob} {n : Nat} {Q : Exit → List (Nat × D) → List Ob → Prop} {φ : List (Nat × D)}
theorem WI.regA {S : Tabs} (hS : SsOk P S) (ks : List Nat) {l : List IOp} (h : ∀ K : List (Nat × D) → List Ob → Prop, (∀ φ' os', Q .normal φ' os' → K φ' os') → Res (runOpsA S true φ os l) (fun φ' os' => K (Go.Ab.keep ks φ') os')) : WI P c E0 os0 n (.reg l) Q φ os :=
  WI.regK hS ks (fun K hK => by
    have := h K hK
    rw [runOpsA_eq] at this
    obtain ⟨ok, φ', os', h1, h2, h3⟩ := this
    obtain ⟨⟨ok2, q⟩, h4, h5⟩ := Option.map_eq_some_iff.1 h1
    simp at h5
    obtain ⟨rfl, rfl⟩ := h5
    exact ⟨_, _, _, h4, h2, h3⟩)
theorem WI.dregA {S : Tabs} (hS : SsOk P S) (ks : List Nat) {k : Nat} {rs : List Nat} {l : List IOp} (h : ∀ K : List (Nat × D) → List Ob → Prop, (∀ φ' os', Q .normal φ' os' → K φ' os') → Res (runDA S os k rs 0 true φ os.length os [] none l) (fun φ' os' => K (Go.Ab.keep ks φ') os')) : WI P c E0 os0 n (.dreg k rs l) Q φ os :=
  WI.dregK hS ks (fun K hK => by
    have := h K hK
    rw [runDA_eq] at this
    obtain ⟨ok, φ', os', h1, h2, h3⟩ := this
    obtain ⟨q, h4, h5⟩ := Option.map_eq_some_iff.1 h1
    simp at h5
    obtain ⟨h5, rfl, rfl⟩ := h5
    refine ⟨_, _, _, ?_, h5.trans h2, h3⟩
    simp only [runD, h4, Option.map_some])
end
end Go.Ab
namespace Go.Ab
theorem get_order (φ : List (Nat × D)) : ∀ (ts : List Nat) (t : Nat), get (ts.map fun u => (u, get φ u)) t = get φ t ∨ get (ts.map fun u => (u, get φ u)) t = .und
  | [], t => .inr rfl
  | u :: ts, t => by
    simp only [List.map_cons, get]
    split
    · rename_i h; subst h; exact .inl rfl
    · exact get_order φ ts t
/-- The slots in another order. -/
theorem WI.order {P : Program} {c : Ctx} {E0 : Env} {os0 os : List Ob} {n : Nat} {Q : Exit → List (Nat × D) → List Ob → Prop} {φ : List (Nat × D)} {ic : IC} (ts : List Nat) (h : WI P c E0 os0 n ic Q (ts.map fun u => (u, get φ u)) os) : WI P c E0 os0 n ic Q φ os :=
  WI.weak (fun E _ R hf => ⟨E, rfl, R, hf.size, hf.defers, fun t => by
    rcases get_order φ ts t with h | h
    · rw [h]; exact hf.slot t
    · rw [h]; exact .und _⟩) h
/-! The same is the same. -/
mutual
theorem X.beq_refl : ∀ x : X, X.beq x x = true
  | .int k n => by simp [X.beq]
  | .bool a => by simp [X.beq]
  | .str s => by simp [X.beq]
  | .nilp => rfl
  | .nils => rfl
  | .sl a => by simp only [X.beq]; exact X.beqR_refl a
theorem X.beqR_refl : ∀ a : List (List X), X.beqR a a = true
  | [] => rfl
  | r :: l => by simp only [X.beqR, Bool.and_eq_true]; exact ⟨X.beqL_refl r, X.beqR_refl l⟩
theorem X.beqL_refl : ∀ a : List X, X.beqL a a = true
  | [] => rfl
  | x :: l => by simp only [X.beqL, Bool.and_eq_true]; exact ⟨X.beq_refl x, X.beqL_refl l⟩
end
mutual
theorem D.beq_refl : ∀ d : D, D.beq d d = true
  | .x a => by simp only [D.beq]; exact X.beq_refl a
  | .ref a b c d => by simp [D.beq]
  | .ptr a b => by simp [D.beq]
  | .eptr a b c d => by simp [D.beq]
  | .vptr a => by simp only [D.beq]; exact X.beqL_refl a
  | .mref a => by simp [D.beq]
  | .mnil => rfl
  | .iref a b => by simp [D.beq]
  | .stk a b => by simp [D.beq]
  | .bref a b c => by simp [D.beq]
  | .agg a => by simp only [D.beq]; exact D.beqL_refl a
  | .tup a => by simp only [D.beq]; exact D.beqL_refl a
  | .full a => by simp only [D.beq]; exact X.beqR_refl a
  | .nz a => by simp only [D.beq]; exact X.beqR_refl a
  | .fn f a => by simp only [D.beq, Bool.and_eq_true]; exact ⟨by simp, D.beqL_refl a⟩
  | .opt a d => by simp only [D.beq, Bool.and_eq_true]; exact ⟨by simp, D.beq_refl d⟩
  | .und => rfl
theorem D.beqL_refl : ∀ a : List D, D.beqL a a = true
  | [] => rfl
  | e :: l => by simp only [D.beqL, Bool.and_eq_true]; exact ⟨D.beq_refl e, D.beqL_refl l⟩
end
theorem beqP_refl (p : Pr) : beqP p p = true := by simp only [beqP, Bool.and_eq_true]; exact ⟨X.beqL_refl p.1, D.beqL_refl p.2⟩
theorem beqM_refl : ∀ a : List Pr, beqM a a = true
  | [] => rfl
  | p :: l => by simp only [beqM, Bool.and_eq_true]; exact ⟨beqP_refl p, beqM_refl l⟩
theorem beqO_refl : ∀ a : Option Pr, beqO a a = true
  | none => rfl
  | some p => beqP_refl p
theorem Ob.beq_refl (o : Ob) : Ob.beq o o = true := by
  cases o with
  | box ds => simp only [Ob.beq]; exact D.beqL_refl ds
  | rows f e s rs => simp only [Ob.beq, Bool.and_eq_true]; exact ⟨by simp, Nat.beq_refl e, Nat.beq_refl s, X.beqR_refl rs⟩
  | frz s rs => simp only [Ob.beq, Bool.and_eq_true]; exact ⟨Nat.beq_refl s, X.beqR_refl rs⟩
  | mpo dk ag l => simp only [Ob.beq, Bool.and_eq_true]; exact ⟨by simp, by simp, beqM_refl l⟩
  | mit dk ag l it R cur => simp only [Ob.beq, Bool.and_eq_true]; exact ⟨by simp, by simp, beqM_refl l, Nat.beq_refl it, beqM_refl R, beqO_refl cur⟩
  | mpn dk ag l key sid => simp only [Ob.beq, Bool.and_eq_true]; exact ⟨by simp, by simp, beqM_refl l, X.beqL_refl key, Nat.beq_refl sid⟩
  | itr => rfl
  | stp => rfl
  | nit => rfl
  | sit s pos => simp only [Ob.beq, Bool.and_eq_true]; exact ⟨by simp, Nat.beq_refl pos⟩
  | dead => rfl
/-! Forms without functions that a rewriter would look into. -/
def optV (φ : List (Nat × D)) : Option IO → Option D
  | none => none
  | some l => some (opv φ l)
def slcStrD (dx : D) (lo hi mx : Option D) : Option (Bool × D) :=
  match dx.val with
  | .x (.str s) => match lo, hi, mx with
    | none, none, none => some (dx.cond, .x (.str s))
    | some l, none, none => (intOf? l.val).map fun (n : Int) => (dx.cond && (l.cond && (decide (0 ≤ n) && decide (n ≤ s.length))), .x (.str (s.drop n.toNat)))
    | none, some h, none => (intOf? h.val).map fun (m : Int) => (dx.cond && (h.cond && (decide (0 ≤ m) && decide (m ≤ s.length))), .x (.str (s.take m.toNat)))
    | some l, some h, none => (intOf? l.val).bind fun (n : Int) => (intOf? h.val).map fun (m : Int) => (dx.cond && ((l.cond && h.cond) && (decide (0 ≤ n) && (decide (n ≤ m) && decide (m ≤ s.length)))), .x (.str ((s.take m.toNat).drop n.toNat)))
    | _, _, _ => none
  | _ => none
def slcSlD (os : List Ob) (sz : Nat) (dx : D) (lo hi mx : Option D) : Option (Bool × D) :=
  match dx.val with
  | .x .nils => (zeroO (lo)).bind fun p => (zeroO (hi)).bind fun q => (zeroO (mx)).map fun r => (dx.cond && ((mx.isNone || hi.isSome) && (p && (q && r))), .x .nils)
  | .x (.sl rs) => match lo, hi, mx with
    | none, none, none => some (dx.cond, .x (.sl rs))
    | some l, none, none => (intOf? l.val).map fun (n : Int) => (dx.cond && (l.cond && (decide (0 ≤ n) && (decide (n ≤ rs.length) && rs.all fun r => decide (r.length = sz)))), .x (.sl (rs.drop n.toNat)))
    | none, some h, none => (intOf? h.val).map fun (m : Int) => (dx.cond && (h.cond && (decide (0 ≤ m) && (decide (m ≤ rs.length) && rs.all fun r => decide (r.length = sz)))), .x (.sl (rs.take m.toNat)))
    | some l, some h, none => (intOf? l.val).bind fun (n : Int) => (intOf? h.val).map fun (m : Int) => (dx.cond && ((l.cond && h.cond) && (decide (0 ≤ n) && (decide (n ≤ m) && (decide (m ≤ rs.length) && rs.all fun r => decide (r.length = sz))))), .x (.sl ((rs.take m.toNat).drop n.toNat)))
    | l, some h, some mi => (zeroO l).bind fun z => (intOf? h.val).bind fun (n : Int) => (intOf? mi.val).map fun (m : Int) => (dx.cond && (z && (h.cond && (mi.cond && (decide (0 ≤ n) && (decide (n ≤ rs.length) && (decide (n = m) && rs.all fun r => decide (r.length = sz))))))), .full (rs.take n.toNat))
    | _, _, _ => none
  | .ref id ext off len => match os[id]? with
    | some o => match o.slice? with
      | some (sz', rs) => match lo, hi, mx with
        | some l, none, none => (intOf? l.val).map fun (n : Int) => (dx.cond && (l.cond && (decide (sz' = sz) && (decide (rs.length = ext) && (decide (0 ≤ n) && decide (n ≤ len))))), .ref id ext (off + n.toNat) (len - n.toNat))
        | none, some h, none => (intOf? h.val).map fun (m : Int) => (dx.cond && (h.cond && (decide (sz' = sz) && (decide (rs.length = ext) && (decide (0 ≤ m) && decide (m ≤ len))))), .ref id ext off m.toNat)
        | some l, some h, none => (intOf? l.val).bind fun (n : Int) => (intOf? h.val).map fun (m : Int) => (dx.cond && ((l.cond && h.cond) && (decide (sz' = sz) && (decide (rs.length = ext) && (decide (0 ≤ n) && (decide (n ≤ m) && decide (m ≤ len)))))), .ref id ext (off + n.toNat) (m.toNat - n.toNat))
        | _, _, _ => none
      | none => none
    | none => none
  | _ => none

theorem slcStr_eq (φ : List (Nat × D)) (x : IO) (lo hi mx : Option IO) : slcStr φ x lo hi mx = slcStrD (opv φ x) (optV φ lo) (optV φ hi) (optV φ mx) := by
  cases lo <;> cases hi <;> cases mx <;> rfl
theorem slcSl_eq (φ : List (Nat × D)) (os : List Ob) (sz : Nat) (x : IO) (lo hi mx : Option IO) : slcSl φ os sz x lo hi mx = slcSlD os sz (opv φ x) (optV φ lo) (optV φ hi) (optV φ mx) := by
  cases lo <;> cases hi <;> cases mx <;> rfl
def valsL (φ : List (Nat × D)) : List IO → List D
  | [] => []
  | y :: ys => (opv φ y).val :: valsL φ ys
def condsL (φ : List (Nat × D)) : List IO → Bool
  | [] => true
  | y :: ys => (opv φ y).cond && condsL φ ys
theorem valsL_map (φ : List (Nat × D)) : ∀ l, (l.map fun y => (opv φ y).val) = valsL φ l
  | [] => rfl
  | y :: ys => by simp [valsL, valsL_map φ ys]
theorem condsL_all (φ : List (Nat × D)) : ∀ l : List IO, (l.all fun y => (opv φ y).cond) = condsL φ l
  | [] => rfl
  | y :: ys => by simp [condsL, condsL_all φ ys]
def callT1 (T : FuncId → List D → List Ob → Option (Bool × D × List Ob)) (df : D) (vs : List D) (cs : Bool) (os : List Ob) : Option (Bool × D × List Ob) := match df.val with
  | .fn g caps => (T g (vs ++ caps) os).map fun r => (df.cond && (cs && r.1), r.2)
  | _ => none
def callR1 (T : FuncId → List D → List Ob → Option (Bool × D)) (df : D) (vs : List D) (cs : Bool) (os : List Ob) : Option (Bool × D) := match df.val with
  | .fn g caps => (T g (vs ++ caps) os).map fun r => (df.cond && (cs && r.1), r.2)
  | _ => none
def callK1 (T : FuncId → List D → List Ob → Option (Bool × (Nat → D) × Ob)) (df : D) (vs : List D) (cs : Bool) (os : List Ob) (id : Nat) : Option (Bool × D × Ob) := match df.val with
  | .fn g caps => (T g (vs ++ caps) os).map fun r => (df.cond && (cs && r.1), r.2.1 id, r.2.2)
  | _ => none
theorem callT_eq (T : FuncId → List D → List Ob → Option (Bool × D × List Ob)) (φ : List (Nat × D)) (os : List Ob) (e : IE) : callT T φ os e = match e with
    | .call f xs => callT1 T (opv φ f) (valsL φ xs) (condsL φ xs) os
    | _ => none := by
  cases e <;> first | rfl | skip
  simp only [callT, valsL_map, condsL_all, callT1]
  generalize (opv φ _).val = u
  cases u <;> rfl
theorem callR_eq (T : FuncId → List D → List Ob → Option (Bool × D)) (φ : List (Nat × D)) (os : List Ob) (e : IE) : callR T φ os e = match e with
    | .call f xs => callR1 T (opv φ f) (valsL φ xs) (condsL φ xs) os
    | _ => none := by
  cases e <;> first | rfl | skip
  simp only [callR, valsL_map, condsL_all, callR1]
  generalize (opv φ _).val = u
  cases u <;> rfl
theorem callK_eq (T : FuncId → List D → List Ob → Option (Bool × (Nat → D) × Ob)) (φ : List (Nat × D)) (os : List Ob) (id : Nat) (e : IE) : callK T φ os id e = match e with
    | .call f xs => callK1 T (opv φ f) (valsL φ xs) (condsL φ xs) os id
    | _ => none := by
  cases e <;> first | rfl | skip
  simp only [callK, valsL_map, condsL_all, callK1]
  generalize (opv φ _).val = u
  cases u <;> rfl
end Go.Ab
namespace Go.Ab
section
variable {S : Tabs} {os0 os C : List Ob} {k i id : Nat} {rs : List Nat} {φ φ' : List (Nat × D)} {os' : List Ob} {last : Option (List Ob)} {o : IOp} {l : List IOp} {ok : Bool} {d : D} {ob : Ob} {K : List (Nat × D) → List Ob → Prop}
/-! Step by step. -/
theorem bytes_get (s : List UInt8) (i : Nat) (h : i < s.length) : (s.map byteRow)[i]? = some [X.int .u8 (s[i].toNat : Int)] := by simp [byteRow, h]
theorem bytes_len (s : List UInt8) : (s.map byteRow).length = s.length := List.length_map ..
theorem bytes_row (s : List UInt8) : (s.map byteRow).map rowByte = s := by
  rw [List.map_map]
  conv => rhs; rw [← List.map_id s]
  refine List.map_congr_left (fun b _ => ?_)
  simp [rowByte, byteRow]
theorem bytes_all (s : List UInt8) : ((s.map byteRow).all isByte) = true := by
  rw [List.all_eq_true]; intro r hr
  obtain ⟨b, _, rfl⟩ := List.mem_map.1 hr
  rfl
theorem un_nil {α : Type} (c : RC α) : unrows c [] = some [] := rfl
theorem beqN_t (n : Nat) : Nat.beq n n = true := Nat.beq_refl n
theorem beqN_f (m n : Nat) (h : m ≠ n) : Nat.beq m n = false := by
  cases hb : Nat.beq m n with
  | false => rfl
  | true => exact absurd (Nat.eq_of_beq_eq_true hb) h
theorem or_eqf (b : Bool) : (b || b == false) = true := by cases b <;> rfl
theorem map_mpo (dk : KK) (ag : Bool) (l : List Pr) : (Ob.mpo dk ag l).map? = some (dk, ag, l) := rfl
theorem map_mit (dk : KK) (ag : Bool) (l : List Pr) (it : Nat) (R : List Pr) (cur : Option Pr) : (Ob.mit dk ag l it R cur).map? = some (dk, ag, l) := rfl
theorem map_mpn (dk : KK) (ag : Bool) (l : List Pr) (key : List X) (sid : Nat) : (Ob.mpn dk ag l key sid).map? = some (dk, ag, l) := rfl
theorem upd_mpo (dk : KK) (ag : Bool) (l : List Pr) : (Ob.mpo dk ag l).upd? = some (dk, ag, l) := rfl
theorem upd_mpn (dk : KK) (ag : Bool) (l : List Pr) (key : List X) (sid : Nat) : (Ob.mpn dk ag l key sid).upd? = some (dk, ag, l) := rfl
theorem key_int (k : IntKind) (n : Int) : keyOf (.int k) (.x (.int k n)) = some [.int k n] := by simp [keyOf]
theorem key_str (s : List UInt8) : keyOf .str (.x (.str s)) = some [.str s] := rfl
theorem keyD_int (k : IntKind) (n : Int) : keyD (.int k) [.int k n] = .x (.int k n) := rfl
theorem keyD_str (s : List UInt8) : keyD .str [.str s] = .x (.str s) := rfl
theorem cell_one (d : D) : cellD false [d] = d := rfl
theorem cell_ag (ds : List D) : cellD true ds = .agg ds := rfl
theorem ag_x (y : X) : agD (.x y) = false := rfl
theorem ag_agg (ds : List D) : agD (.agg ds) = true := rfl
theorem ag_ref (a b c d : Nat) : agD (.ref a b c d) = false := rfl
theorem ag_ptr (a b : Nat) : agD (.ptr a b) = false := rfl
theorem ag_mref (a : Nat) : agD (.mref a) = false := rfl
theorem eqKK (k : KK) : (k = k) = True := eq_self k
theorem eqBB (b : Bool) : (b = b) = True := eq_self b
theorem eqNN (b : Nat) : (b = b) = True := eq_self b
theorem mget_nil (k : List X) : mgetX [] k = none := rfl
theorem osN (h : K φ os) : Res (runOpsA S true φ os []) K := ⟨true, φ, os, rfl, rfl, h⟩
theorem osS (he : stepOp S φ os o = some (ok, φ', os')) (hok : ok = true) (h : Res (runOpsA S true φ' os' l) K) : Res (runOpsA S true φ os (o :: l)) K := by
  subst hok
  simp only [runOpsA, he, Bool.and_true]
  exact h
theorem dsN (h : K φ (last.getD (os0 ++ C))) : Res (runDA S os0 k rs i true φ id os C last []) K := ⟨true, φ, _, rfl, rfl, h⟩
theorem dsF (hf : o.e.frame = true) (he : (evQ S φ [] o).map (fun r => (r.1, putO φ o.dst r.2)) = some (ok, φ')) (hok : ok = true) (h : Res (runDA S os0 k rs (i + 1) true φ' id os C last l) K) : Res (runDA S os0 k rs i true φ id os C last (o :: l)) K := by
  subst hok
  obtain ⟨r, h1, h2⟩ := Option.map_eq_some_iff.1 he
  simp only [Prod.mk.injEq] at h2
  obtain ⟨h2, rfl⟩ := h2
  simp only [runDA, hf, if_true, h1, h2, Bool.and_true]
  exact h
theorem dsQ (hf : o.e.frame = false) (hm : memB i rs = false) (hk : Nat.ble (i + 1) k = true) (he : (evQ S φ os0 o).map (fun r => (r.1, putO φ o.dst r.2)) = some (ok, φ')) (hok : ok = true) (h : Res (runDA S os0 k rs (i + 1) true φ' id os C last l) K) : Res (runDA S os0 k rs i true φ id os C last (o :: l)) K := by
  subst hok
  obtain ⟨r, h1, h2⟩ := Option.map_eq_some_iff.1 he
  simp only [Prod.mk.injEq] at h2
  obtain ⟨h2, rfl⟩ := h2
  have hk' : i < k := Nat.le_of_ble_eq_true hk
  simp only [runDA, hf, hm, if_true, h1, h2, hk', Bool.and_true, Bool.false_eq_true, if_false]
  exact h
theorem nearQ_evK {S : Tabs} {φ : List (Nat × D)} {os0 os : List Ob} {id : Nat} {o : IOp} {r : Bool × D × Ob} (h : evK S φ os0 id o = some r) : nearQ φ os o = none := by
  obtain ⟨dst, e, g⟩ := o
  cases g with
  | some p => rfl
  | none =>
    cases e with
    | b2s x => simp [evK, evC, evC1, callK] at h
    | _ => rfl
theorem dsK (hf : o.e.frame = false) (hm : memB i rs = false) (hk : Nat.ble (i + 1) k = true) (hn : evQ S φ os0 o = none) (he : (evK S φ os0 id o).map (fun r => (r.1, putO φ o.dst r.2.1, r.2.2)) = some (ok, φ', ob)) (hok : ok = true) (h : Res (runDA S os0 k rs (i + 1) true φ' (id + 1) (os ++ [ob]) (C ++ [ob]) last l) K) : Res (runDA S os0 k rs i true φ id os C last (o :: l)) K := by
  subst hok
  obtain ⟨r, h1, h2⟩ := Option.map_eq_some_iff.1 he
  simp only [Prod.mk.injEq] at h2
  obtain ⟨h2, rfl, rfl⟩ := h2
  have hk' : i < k := Nat.le_of_ble_eq_true hk
  simp only [runDA, hf, hm, if_true, hn, nearQ_evK h1, h1, h2, hk', Bool.and_true, Bool.false_eq_true, if_false]
  exact h
theorem dsA (hf : o.e.frame = false) (hm : memB i rs = false) (hk : Nat.ble (i + 1) k = false) (he : (evA S φ os o).map (fun r => (r.1 && (match rs with | [] => true | _ => prefB os0 r.2.2), putO φ o.dst r.2.1, r.2.2)) = some (ok, φ', os')) (hok : ok = true) (h : Res (runDA S os0 k rs (i + 1) true φ' id os' C (some os') l) K) : Res (runDA S os0 k rs i true φ id os C last (o :: l)) K := by
  subst hok
  obtain ⟨r, h1, h2⟩ := Option.map_eq_some_iff.1 he
  simp only [Prod.mk.injEq] at h2
  obtain ⟨h2, rfl, rfl⟩ := h2
  have hk' : ¬ i < k := fun h => by have := Nat.ble_eq_true_of_le h; rw [Nat.succ_eq_add_one, hk] at this; cases this
  simp only [runDA, hf, hm, h1, h2, hk', Bool.true_and, Bool.false_eq_true, if_false]
  exact h
end
end Go.Ab
namespace Go.Ab
end Go.Ab
end
section
/- Maps by lists of plain pairs. -/
set_option linter.unusedSimpArgs false
set_option linter.unusedVariables false
namespace Go.Ab
open Go.RowKit Go.Bo

/-! ### Maps of plain pairs -/
section
variable {κ β : Type} (kc : κ → List X) (vc : β → List X)
def encM (L : List (κ × β)) : List Pr := L.map fun p => (kc p.1, (vc p.2).map D.x)
theorem encM_len (L : List (κ × β)) : (encM kc vc L).length = L.length := by simp [encM]
theorem renL_x (f : Nat → Nat) (l : List X) : renL f (l.map D.x) = l.map D.x := by
  rw [renL_map, List.map_map]; rfl
theorem inL_x (p : Nat → Bool) (l : List X) : inL p (l.map D.x) = true := by
  rw [inL_all, List.all_eq_true]; intro d hd; obtain ⟨x, _, rfl⟩ := List.mem_map.1 hd; rfl
theorem idsL_x (l : List X) : idsL (l.map D.x) = [] := by
  induction l with
  | nil => rfl
  | cons x l ih => simp only [List.map_cons, idsL, idsD, ih]; rfl
theorem on_x (ρ : List Nat) (os : List Ob) (l : List X) : (l.map D.x).map (onF ρ os) = l.map D.x := by
  rw [List.map_map]; refine List.map_congr_left fun x _ => ?_
  simp only [Function.comp, onF, D.vw, D.on, D.inP, if_true]
theorem encM_ren (f : Nat → Nat) (L : List (κ × β)) : (encM kc vc L).map (renP f) = encM kc vc L := by
  rw [encM, List.map_map]; refine List.map_congr_left fun p _ => ?_
  simp only [Function.comp, renP, renL_x]
theorem encM_ids (L : List (κ × β)) : idsM (encM kc vc L) = [] := by
  induction L with
  | nil => rfl
  | cons p L ih => simp only [encM, List.map_cons, idsM, idsL_x] at ih ⊢; exact ih
theorem encM_all (p : Nat → Bool) (L : List (κ × β)) : (encM kc vc L).all (inPr p) = true := by
  rw [List.all_eq_true]; intro q hq; obtain ⟨r, _, rfl⟩ := List.mem_map.1 hq; exact inL_x p _
theorem encM_on (ρ : List Nat) (os : List Ob) (L : List (κ × β)) : (encM kc vc L).map (mpP (onF ρ os)) = encM kc vc L := by
  rw [encM, List.map_map]; refine List.map_congr_left fun p _ => ?_
  simp only [Function.comp, mpP, on_x]
theorem encM_erase (L : List (κ × β)) (i : Nat) : (encM kc vc L).eraseIdx i = encM kc vc (L.eraseIdx i) := by
  induction L generalizing i with
  | nil => rfl
  | cons p L ih => cases i with
    | zero => rfl
    | succ i => simp only [encM, List.map_cons, List.eraseIdx_cons_succ] at ih ⊢; rw [ih]
variable [DecidableEq κ] (hk : ∀ a b : κ, keqL (kc a) (kc b) = decide (a = b))
include hk
end
section
variable {κ β : Type} [DecidableEq κ]
end
end Go.Ab
end
section
/- Bundles of equations, so that a walk has short lines. -/
namespace Go.Ab
open Go Go.RowKit Go.Bo

theorem zC : type_of% @Option.map_some.{0, 0} ∧ type_of% @Option.bind_some.{0, 0} ∧ type_of% @Bool.and_true ∧ type_of% @Bool.true_and ∧ type_of% @Bool.false_eq_true :=
  ⟨@Option.map_some.{0, 0}, @Option.bind_some.{0, 0}, @Bool.and_true, @Bool.true_and, @Bool.false_eq_true⟩
theorem zG : type_of% @Bool.not_true ∧ type_of% @Bool.not_false ∧ type_of% @Bool.or_true ∧ type_of% @Bool.true_or ∧ type_of% @Bool.or_false ∧ type_of% @Bool.false_or ∧ type_of% @Bool.and_false ∧ type_of% @Bool.false_and ∧ type_of% @beq_self_eq_true.{0} ∧ type_of% @or_eqf ∧ type_of% @Bool.and_self ∧ type_of% @Bool.not_or_self ∧ type_of% @Bool.or_not_self ∧ type_of% @beq_true ∧ type_of% @beq_false ∧ type_of% @Bool.not_not :=
  ⟨@Bool.not_true, @Bool.not_false, @Bool.or_true, @Bool.true_or, @Bool.or_false, @Bool.false_or, @Bool.and_false, @Bool.false_and, @beq_self_eq_true.{0}, @or_eqf, @Bool.and_self, @Bool.not_or_self, @Bool.or_not_self, @beq_true, @beq_false, @Bool.not_not⟩
theorem zL : type_of% @List.getElem?_cons_zero.{0} ∧ type_of% @List.getElem?_cons_succ.{0} ∧ type_of% @List.drop_zero.{0} ∧ type_of% @List.take_zero.{0} ∧ type_of% @List.drop_succ_cons.{0} ∧ type_of% @List.take_succ_cons.{0} ∧ type_of% @List.drop_nil.{0} ∧ type_of% @List.take_nil.{0} ∧ type_of% @List.length_cons.{0} ∧ type_of% @List.length_nil.{0} ∧ type_of% @List.map_cons.{0, 0} ∧ type_of% @List.map_nil.{0, 0} ∧ type_of% @List.cons_append.{0} ∧ type_of% @List.nil_append.{0} ∧ type_of% @List.set_cons_zero.{0} ∧ type_of% @List.set_cons_succ.{0} ∧ type_of% @Nat.add_zero ∧ type_of% @Nat.zero_add ∧ type_of% @if_true.{1} ∧ type_of% @decide_true :=
  ⟨@List.getElem?_cons_zero.{0}, @List.getElem?_cons_succ.{0}, @List.drop_zero.{0}, @List.take_zero.{0}, @List.drop_succ_cons.{0}, @List.take_succ_cons.{0}, @List.drop_nil.{0}, @List.take_nil.{0}, @List.length_cons.{0}, @List.length_nil.{0}, @List.map_cons.{0, 0}, @List.map_nil.{0, 0}, @List.cons_append.{0}, @List.nil_append.{0}, @List.set_cons_zero.{0}, @List.set_cons_succ.{0}, @Nat.add_zero, @Nat.zero_add, @if_true.{1}, @decide_true⟩
theorem zR : type_of% @rows_len ∧ type_of% @rows_get ∧ type_of% @bytes_get ∧ type_of% @bytes_len ∧ type_of% @enc_rInt ∧ type_of% @enc_rStr ∧ type_of% @enc_rBool ∧ type_of% @enc_rEnd ∧ type_of% @enc_rSl ∧ type_of% @enc_rCat ∧ type_of% @enc_rVia ∧ type_of% @Int.toNat_natCast ∧ type_of% @Int.natCast_nonneg :=
  ⟨@rows_len, @rows_get, @bytes_get, @bytes_len, @enc_rInt, @enc_rStr, @enc_rBool, @enc_rEnd, @enc_rSl, @enc_rCat, @enc_rVia, @Int.toNat_natCast, @Int.natCast_nonneg⟩
theorem zB : type_of% @Bool.or_eq_true ∧ type_of% @Bool.and_eq_true ∧ type_of% @Bool.not_eq_true' ∧ type_of% @Bool.or_eq_false_iff ∧ type_of% @Bool.and_eq_false_iff ∧ type_of% @Bool.not_eq_false' ∧ type_of% @decide_eq_true_eq ∧ type_of% @decide_eq_false_iff_not ∧ type_of% @Bool.not_eq_true ∧ type_of% @gt_iff_lt.{0} ∧ type_of% @ge_iff_le.{0} ∧ type_of% @Int.not_lt ∧ type_of% @Int.not_le ∧ type_of% @bne_iff_ne.{0} ∧ type_of% @ne_eq.{1} ∧ type_of% @beq_iff_eq.{0} ∧ type_of% @bne_eq_false_iff_eq.{0} ∧ type_of% @beq_eq_false_iff_ne.{0} :=
  ⟨@Bool.or_eq_true, @Bool.and_eq_true, @Bool.not_eq_true', @Bool.or_eq_false_iff, @Bool.and_eq_false_iff, @Bool.not_eq_false', @decide_eq_true_eq, @decide_eq_false_iff_not, @Bool.not_eq_true, @gt_iff_lt.{0}, @ge_iff_le.{0}, @Int.not_lt, @Int.not_le, @bne_iff_ne.{0}, @ne_eq.{1}, @beq_iff_eq.{0}, @bne_eq_false_iff_eq.{0}, @beq_eq_false_iff_ne.{0}⟩
theorem zF : type_of% @zL ∧ type_of% @zR ∧ type_of% @Option.map_some.{0, 0} ∧ type_of% @Option.bind_some.{0, 0} ∧ type_of% @Bool.and_true ∧ type_of% @Bool.true_and ∧ type_of% @rows_drop ∧ type_of% @rows_take ∧ type_of% @rows_app ∧ type_of% @List.length_append.{0} ∧ type_of% @List.take_length.{0} :=
  ⟨@zL, @zR, @Option.map_some.{0, 0}, @Option.bind_some.{0, 0}, @Bool.and_true, @Bool.true_and, @rows_drop, @rows_take, @rows_app, @List.length_append.{0}, @List.take_length.{0}⟩
theorem zV : type_of% @List.map_cons.{0, 0} ∧ type_of% @List.map_nil.{0, 0} ∧ type_of% @List.getElem?_cons_zero.{0} ∧ type_of% @List.getElem?_cons_succ.{0} ∧ type_of% @List.set_cons_zero.{0} ∧ type_of% @List.set_cons_succ.{0} ∧ type_of% @List.getD_cons_zero.{0} ∧ type_of% @List.getD_cons_succ.{0} ∧ type_of% @Nat.add_zero ∧ type_of% @Nat.zero_add ∧ type_of% @Bool.or_true ∧ type_of% @Bool.true_or ∧ type_of% @Bool.or_false ∧ type_of% @Bool.false_or ∧ type_of% @Bool.and_true ∧ type_of% @Bool.true_and ∧ type_of% @Bool.and_false ∧ type_of% @Bool.false_and ∧ type_of% @if_true.{1} ∧ type_of% @if_false.{1} ∧ type_of% @rows_len ∧ type_of% @rows_drop ∧ type_of% @rows_take ∧ type_of% @rows_app ∧ type_of% @List.length_append.{0} ∧ type_of% @List.length_cons.{0} ∧ type_of% @List.length_nil.{0} ∧ type_of% @beq_self_eq_true.{0} ∧ type_of% @Bool.false_eq_true ∧ type_of% @List.drop_zero.{0} ∧ type_of% @Nat.beq_eq ∧ type_of% @beqN_t ∧ type_of% @beqN_f :=
  ⟨@List.map_cons.{0, 0}, @List.map_nil.{0, 0}, @List.getElem?_cons_zero.{0}, @List.getElem?_cons_succ.{0}, @List.set_cons_zero.{0}, @List.set_cons_succ.{0}, @List.getD_cons_zero.{0}, @List.getD_cons_succ.{0}, @Nat.add_zero, @Nat.zero_add, @Bool.or_true, @Bool.true_or, @Bool.or_false, @Bool.false_or, @Bool.and_true, @Bool.true_and, @Bool.and_false, @Bool.false_and, @if_true.{1}, @if_false.{1}, @rows_len, @rows_drop, @rows_take, @rows_app, @List.length_append.{0}, @List.length_cons.{0}, @List.length_nil.{0}, @beq_self_eq_true.{0}, @Bool.false_eq_true, @List.drop_zero.{0}, @Nat.beq_eq, @beqN_t, @beqN_f⟩
theorem zW : type_of% @List.getD_cons_zero.{0} ∧ type_of% @List.getD_cons_succ.{0} ∧ type_of% @beqN_t ∧ type_of% @beqN_f ∧ type_of% @Nat.sub_self ∧ type_of% @List.append_nil.{0} ∧ type_of% @Nat.le_refl :=
  ⟨@List.getD_cons_zero.{0}, @List.getD_cons_succ.{0}, @beqN_t, @beqN_f, @Nat.sub_self, @List.append_nil.{0}, @Nat.le_refl⟩
theorem zM : type_of% @zL ∧ type_of% @zG ∧ type_of% @zR ∧ type_of% @zC ∧ type_of% @decide_false ∧ type_of% @IntWalk.i64_in ∧ type_of% @slcStr_eq ∧ type_of% @slcSl_eq ∧ type_of% @rows_drop ∧ type_of% @rows_take ∧ type_of% @rows_app ∧ type_of% @all_rStr ∧ type_of% @all_rInt ∧ type_of% @all_rAttr ∧ type_of% @all_rEntry ∧ type_of% @all_rChange ∧ type_of% @bytes_row ∧ type_of% @bytes_all ∧ type_of% @List.length_replicate.{0} ∧ type_of% @Option.map_none.{0, 0} ∧ type_of% @Option.bind_none.{0, 0} ∧ type_of% @Bool.cond_true_left ∧ type_of% @Bool.cond_false_right ∧ type_of% @List.reverse_cons.{0} ∧ type_of% @List.reverse_nil.{0} ∧ type_of% @List.mapM_cons.{0, 0, 0} ∧ type_of% @List.mapM_nil.{0, 0, 0} ∧ type_of% @Option.pure_def.{0} ∧ type_of% @Option.bind_eq_bind.{0} ∧ type_of% @true_and ∧ type_of% @and_true ∧ type_of% @if_false.{1} ∧ type_of% @bne_self_eq_false.{0} ∧ type_of% @List.all_cons.{0} ∧ type_of% @List.all_nil.{0} :=
  ⟨@zL, @zG, @zR, @zC, @decide_false, @IntWalk.i64_in, @slcStr_eq, @slcSl_eq, @rows_drop, @rows_take, @rows_app, @all_rStr, @all_rInt, @all_rAttr, @all_rEntry, @all_rChange, @bytes_row, @bytes_all, @List.length_replicate.{0}, @Option.map_none.{0, 0}, @Option.bind_none.{0, 0}, @Bool.cond_true_left, @Bool.cond_false_right, @List.reverse_cons.{0}, @List.reverse_nil.{0}, @List.mapM_cons.{0, 0, 0}, @List.mapM_nil.{0, 0, 0}, @Option.pure_def.{0}, @Option.bind_eq_bind.{0}, @true_and, @and_true, @if_false.{1}, @bne_self_eq_false.{0}, @List.all_cons.{0}, @List.all_nil.{0}⟩
theorem zS : type_of% @zL ∧ type_of% @zG ∧ type_of% @zR ∧ type_of% @zC ∧ type_of% @Ob.beq_refl ∧ type_of% @List.reverse_cons.{0} ∧ type_of% @List.reverse_nil.{0} ∧ type_of% @bytes_row ∧ type_of% @bytes_all ∧ type_of% @un_nil ∧ type_of% @all_rStr ∧ type_of% @all_rInt ∧ type_of% @all_rAttr ∧ type_of% @all_rEntry ∧ type_of% @all_rChange ∧ type_of% @List.length_replicate.{0} ∧ type_of% @rows_drop ∧ type_of% @rows_take ∧ type_of% @rows_app ∧ type_of% @un_rStr ∧ type_of% @un_rInt ∧ type_of% @un_rAttr ∧ type_of% @un_rEntry ∧ type_of% @un_rChange ∧ type_of% @Option.getD_none.{0} ∧ type_of% @Option.getD_some.{0} ∧ type_of% @slcStr_eq ∧ type_of% @slcSl_eq ∧ type_of% @Option.bind_none.{0, 0} ∧ type_of% @Option.map_none.{0, 0} ∧ type_of% @Res.some_iff ∧ type_of% @true_and ∧ type_of% @and_true ∧ type_of% @if_false.{1} ∧ type_of% @List.all_cons.{0} ∧ type_of% @List.all_nil.{0} ∧ type_of% @List.mapM_cons.{0, 0, 0} ∧ type_of% @List.mapM_nil.{0, 0, 0} ∧ type_of% @Option.pure_def.{0} ∧ type_of% @Option.bind_eq_bind.{0} ∧ type_of% @decide_false ∧ type_of% @Bool.cond_true_left ∧ type_of% @Bool.cond_false_right ∧ type_of% @Bool.not_eq_true' ∧ type_of% @callT_eq ∧ type_of% @callR_eq ∧ type_of% @callK_eq ∧ type_of% @bne_self_eq_false.{0} ∧ type_of% @Bool.bne_false ∧ type_of% @Bool.bne_true :=
  ⟨@zL, @zG, @zR, @zC, @Ob.beq_refl, @List.reverse_cons.{0}, @List.reverse_nil.{0}, @bytes_row, @bytes_all, @un_nil, @all_rStr, @all_rInt, @all_rAttr, @all_rEntry, @all_rChange, @List.length_replicate.{0}, @rows_drop, @rows_take, @rows_app, @un_rStr, @un_rInt, @un_rAttr, @un_rEntry, @un_rChange, @Option.getD_none.{0}, @Option.getD_some.{0}, @slcStr_eq, @slcSl_eq, @Option.bind_none.{0, 0}, @Option.map_none.{0, 0}, @Res.some_iff, @true_and, @and_true, @if_false.{1}, @List.all_cons.{0}, @List.all_nil.{0}, @List.mapM_cons.{0, 0, 0}, @List.mapM_nil.{0, 0, 0}, @Option.pure_def.{0}, @Option.bind_eq_bind.{0}, @decide_false, @Bool.cond_true_left, @Bool.cond_false_right, @Bool.not_eq_true', @callT_eq, @callR_eq, @callK_eq, @bne_self_eq_false.{0}, @Bool.bne_false, @Bool.bne_true⟩
theorem zO : type_of% @map_mpo ∧ type_of% @map_mit ∧ type_of% @map_mpn ∧ type_of% @upd_mpo ∧ type_of% @upd_mpn ∧ type_of% @key_int ∧ type_of% @key_str ∧ type_of% @keyD_int ∧ type_of% @keyD_str ∧ type_of% @cell_one ∧ type_of% @cell_ag ∧ type_of% @ag_x ∧ type_of% @ag_agg ∧ type_of% @ag_ref ∧ type_of% @ag_ptr ∧ type_of% @ag_mref ∧ type_of% @eqKK ∧ type_of% @eqBB ∧ type_of% @eqNN ∧ type_of% @mget_nil ∧ type_of% @encM_ren ∧ type_of% @encM_ids ∧ type_of% @encM_all ∧ type_of% @encM_on ∧ type_of% @encM_len ∧ type_of% @encM_erase :=
  ⟨@map_mpo, @map_mit, @map_mpn, @upd_mpo, @upd_mpn, @key_int, @key_str, @keyD_int, @keyD_str, @cell_one, @cell_ag, @ag_x, @ag_agg, @ag_ref, @ag_ptr, @ag_mref, @eqKK, @eqBB, @eqNN, @mget_nil, @encM_ren, @encM_ids, @encM_all, @encM_on, @encM_len, @encM_erase⟩
end Go.Ab
end
section
/- Steps of a walk; what shows each lies in the lemma. Printed by mk34.py. -/
set_option linter.unusedVariables false
namespace Go.Ab
open Go Go.RowKit Go.Bo
section
variable {P : Program} {c : Ctx} {E0 : Env} {os0 os : List Ob} {n : Nat} {Q : Exit → List (Nat × D) → List Ob → Prop} {φ : List (Nat × D)}
theorem WI.regB {S : Tabs} (hS : SsOk P S) (ks : List Nat) {l : List IOp} (h : Res (runOpsA S true φ os l) (fun φ' os' => Q .normal (Go.Ab.keep ks φ') os')) : WI P c E0 os0 n (.reg l) Q φ os :=
  WI.regA hS ks (fun K hK => by
    obtain ⟨ok, φ', os', h1, h2, h3⟩ := h
    exact ⟨ok, φ', os', h1, h2, hK _ _ h3⟩)
theorem WI.dregB {S : Tabs} (hS : SsOk P S) (ks : List Nat) {k : Nat} {rs : List Nat} {l : List IOp} (h : Res (runDA S os k rs 0 true φ os.length os [] none l) (fun φ' os' => Q .normal (Go.Ab.keep ks φ') os')) : WI P c E0 os0 n (.dreg k rs l) Q φ os :=
  WI.dregA hS ks (fun K hK => by
    obtain ⟨ok, φ', os', h1, h2, h3⟩ := h
    exact ⟨ok, φ', os', h1, h2, hK _ _ h3⟩)
/-- Something may be done behind a piece of code. -/
theorem WI.post {ic : IC} (h : WI P c E0 os0 n ic (fun x φ os => ∃ φ2 os2, Wk c E0 os0 n φ os φ2 os2 ∧ Q x φ2 os2) φ os) : WI P c E0 os0 n ic Q φ os := by
  intro code hc E a R hf
  refine wp_mono (h code hc E a R hf) ?_
  rintro x a' w' ⟨E', φ', os', rfl, R', hf', φ2, os2, hw, hq⟩
  obtain ⟨E2, e2, R2, f2⟩ := hw E' a' R' hf'
  exact ⟨E2, φ2, os2, e2, R2, f2, hq⟩
theorem Wk.refl : Wk c E0 os0 n φ os φ os := fun E a R hf => ⟨E, rfl, R, hf⟩
theorem Wk.trans {φ1 φ2 : List (Nat × D)} {os1 os2 : List Ob} (h : Wk c E0 os0 n φ os φ1 os1) (h' : Wk c E0 os0 n φ1 os1 φ2 os2) : Wk c E0 os0 n φ os φ2 os2 := fun E a R hf => by
  obtain ⟨E1, e1, R1, f1⟩ := h E a R hf
  obtain ⟨E2, e2, R2, f2⟩ := h' E1 a R1 f1
  exact ⟨E2, e2.trans e1, R2, f2⟩
theorem oP {S : Tabs} {ks : List Nat} {φ' : List (Nat × D)} (h : ∃ φ2 os2, Wk c E0 os0 n φ' os φ2 os2 ∧ Q .normal φ2 os2) (hk : keep ks φ = φ' := by simp only [keep, memN, Nat.reduceEqDiff, if_true, if_false, ↓reduceIte, Bool.false_eq_true]; rfl) : Res (runOpsA S true φ os []) (fun φ' os' => ∃ φ2 os2, Wk c E0 os0 n (keep ks φ') os' φ2 os2 ∧ Q .normal φ2 os2) := osN (by rw [hk]; exact h)
theorem dP {S : Tabs} {ks rs : List Nat} {k i id : Nat} {C os1 os' : List Ob} {last : Option (List Ob)} {φ' : List (Nat × D)} (h : ∃ φ2 os2, Wk c E0 os0 n φ' os' φ2 os2 ∧ Q .normal φ2 os2) (hk : keep ks φ = φ' := by simp only [keep, memN, Nat.reduceEqDiff, if_true, if_false, ↓reduceIte, Bool.false_eq_true]; rfl) (hl : last.getD (os1 ++ C) = os' := by simp only [Option.getD_none, Option.getD_some, List.append_nil, List.cons_append, List.nil_append]; rfl) : Res (runDA S os1 k rs i true φ id os C last []) (fun φ' os' => ∃ φ2 os2, Wk c E0 os0 n (keep ks φ') os' φ2 os2 ∧ Q .normal φ2 os2) := dsN (by rw [hk, hl]; exact h)
theorem pEnd (h : Q .normal φ os) : ∃ φ2 os2, Wk c E0 os0 n φ os φ2 os2 ∧ Q .normal φ2 os2 := ⟨φ, os, Wk.refl, h⟩
theorem pPick (ρ : List Nat) {φ' : List (Nat × D)} {os' : List Ob} (h : ∃ φ2 os2, Wk c E0 os0 n φ' os' φ2 os2 ∧ Q .normal φ2 os2) (hok : nrmB ρ os0.length os.length = true := by rfl) (hp : nrmφ ρ os φ = φ' := by simp (disch := decide) only [zV, zO, Ob.mpb, frzL, nrmφ, nrmO, onF, Ob.onI, mpP, renP, Option.map_some, Option.map_none, D.vw, vwL, D.on, D.inP, inL, memB, D.ren, renL, inv, fpO, Ob.mp, Ob.ren, D.nn, nnφ, Nat.reduceBEq, Nat.reduceEqDiff, Nat.reduceAdd, ↓reduceIte]; rfl) (ho : nrmO ρ os = os' := by simp (disch := decide) only [zV, zO, Ob.mpb, frzL, nrmφ, nrmO, onF, Ob.onI, mpP, renP, Option.map_some, Option.map_none, D.vw, vwL, D.on, D.inP, inL, memB, D.ren, renL, inv, fpO, Ob.mp, Ob.ren, D.nn, nnφ, Nat.reduceBEq, Nat.reduceEqDiff, Nat.reduceAdd, ↓reduceIte]; rfl) : ∃ φ2 os2, Wk c E0 os0 n φ os φ2 os2 ∧ Q .normal φ2 os2 := by
  obtain ⟨φ2, os2, h1, h2⟩ := h
  subst hp ho
  exact ⟨φ2, os2, (Wk.pick ρ hok).trans h1, h2⟩
theorem WI.nnA {ic : IC} {φ' : List (Nat × D)} {os' : List Ob} (h : WI P c E0 os0 n ic Q φ' os') (hp : nnφ φ = φ' := by simp only [zV, zO, Ob.mpb, frzL, nrmφ, nrmO, onF, Ob.onI, mpP, renP, Option.map_some, Option.map_none, D.vw, vwL, D.on, D.inP, inL, memB, D.ren, renL, inv, fpO, Ob.mp, Ob.ren, D.nn, nnφ, Nat.reduceBEq, Nat.reduceEqDiff, Nat.reduceAdd, ↓reduceIte]; rfl) (ho : os.map (Ob.mpb D.nn) = os' := by simp only [zV, zO, Ob.mpb, frzL, nrmφ, nrmO, onF, Ob.onI, mpP, renP, Option.map_some, Option.map_none, D.vw, vwL, D.on, D.inP, inL, memB, D.ren, renL, inv, fpO, Ob.mp, Ob.ren, D.nn, nnφ, Nat.reduceBEq, Nat.reduceEqDiff, Nat.reduceAdd, ↓reduceIte]; rfl) : WI P c E0 os0 n ic Q φ os := WI.nn (by rw [hp, ho]; exact h)
theorem WI.pickA (ρ : List Nat) {ic : IC} {φ' : List (Nat × D)} {os' : List Ob} (h : WI P c E0 os0 n ic Q φ' os') (hok : nrmB ρ os0.length os.length = true := by rfl) (hp : nrmφ ρ os φ = φ' := by simp (disch := decide) only [zV, zO, Ob.mpb, frzL, nrmφ, nrmO, onF, Ob.onI, mpP, renP, Option.map_some, Option.map_none, D.vw, vwL, D.on, D.inP, inL, memB, D.ren, renL, inv, fpO, Ob.mp, Ob.ren, D.nn, nnφ, Nat.reduceBEq, Nat.reduceEqDiff, Nat.reduceAdd, ↓reduceIte]; rfl) (ho : nrmO ρ os = os' := by simp (disch := decide) only [zV, zO, Ob.mpb, frzL, nrmφ, nrmO, onF, Ob.onI, mpP, renP, Option.map_some, Option.map_none, D.vw, vwL, D.on, D.inP, inL, memB, D.ren, renL, inv, fpO, Ob.mp, Ob.ren, D.nn, nnφ, Nat.reduceBEq, Nat.reduceEqDiff, Nat.reduceAdd, ↓reduceIte]; rfl) : WI P c E0 os0 n ic Q φ os := WI.pick ρ hok (by rw [hp, ho]; exact h)
theorem WI.freezeA (l : List Nat) {ic : IC} {os' : List Ob} (h : WI P c E0 os0 n ic Q φ os') (ho : frzL l os = os' := by simp only [frzL, List.getElem?_cons_zero, List.getElem?_cons_succ, List.set_cons_zero, List.set_cons_succ]; rfl) : WI P c E0 os0 n ic Q φ os := WI.freeze l (by rw [ho]; exact h)
theorem WI.ownA (t e sz : Nat) {ic : IC} {φ' : List (Nat × D)} {os' : List Ob} (h : WI P c E0 os0 n ic Q φ' os') (ht : get φ t = .x .nils := by rfl) (hp : put φ t (.ref os.length 0 0 0) = φ' := by simp only [put, Nat.reduceEqDiff, ↓reduceIte, List.length_nil, List.length_cons, Nat.reduceAdd]; rfl) (ho : os ++ [.rows false e sz []] = os' := by simp only [List.nil_append, List.cons_append]; rfl) : WI P c E0 os0 n ic Q φ os := WI.own t e sz ht (by rw [hp, ho]; exact h)
theorem WI.orderA (ts : List Nat) {ic : IC} {φ' : List (Nat × D)} (h : WI P c E0 os0 n ic Q φ' os) (hp : ts.map (fun u => (u, get φ u)) = φ' := by simp only [List.map_cons, List.map_nil, Ab.get, Nat.reduceEqDiff, ↓reduceIte, if_true, if_false]; rfl) : WI P c E0 os0 n ic Q φ os := WI.order ts (by rw [hp]; exact h)
end
section
variable {S : Tabs} {os0 os C : List Ob} {k i id : Nat} {rs : List Nat} {φ φ' : List (Nat × D)} {os' : List Ob} {last : Option (List Ob)} {o : IOp} {l : List IOp} {ok : Bool} {d : D} {ob : Ob} {K : List (Nat × D) → List Ob → Prop} {Q : Exit → List (Nat × D) → List Ob → Prop} {ks : List Nat}
theorem oN (h : Q .normal φ' os) (hk : keep ks φ = φ' := by simp only [keep, memN, Nat.reduceEqDiff, if_true, if_false, ↓reduceIte, Bool.false_eq_true]; rfl) : Res (runOpsA S true φ os []) (fun φ' os' => Q .normal (keep ks φ') os') := osN (by rw [hk]; exact h)
theorem dN (h : Q .normal φ' os') (hk : keep ks φ = φ' := by simp only [keep, memN, Nat.reduceEqDiff, if_true, if_false, ↓reduceIte, Bool.false_eq_true]; rfl) (hl : last.getD (os0 ++ C) = os' := by simp only [Option.getD_none, Option.getD_some, List.append_nil, List.cons_append, List.nil_append]; rfl) : Res (runDA S os0 k rs i true φ id os C last []) (fun φ' os' => Q .normal (keep ks φ') os') := dsN (by rw [hk, hl]; exact h)
theorem oS (h : Res (runOpsA S true φ' os' l) K) (he : stepOp S φ os o = some (ok, φ', os') := by simp only [zC, stepOp, aval, opv, Ab.get, Ab.put, putO, Nat.reduceEqDiff, ↓reduceIte, D.val, D.cond, reduceCtorEq, Nat.reduceAdd, Nat.add_zero, Nat.zero_add]; rfl) (hok : ok = true := by rfl) : Res (runOpsA S true φ os (o :: l)) K := osS he hok h
theorem oG (h : Res (runOpsA S true φ' os' l) K) (he : stepOp S φ os o = some (ok, φ', os') := by simp (disch := omega) only [uu, zM, stepOp, aval, opv, Ab.get, Ab.put, putO, Nat.reduceEqDiff, ↓reduceIte, D.val, D.cond, reduceCtorEq, aact, actT, IE.isCall, D.cells?, Nat.reduceAdd, Nat.reduceLeDiff, Ob.slice?, Nat.reduceSub, Nat.reduceMul, Int.reduceToNat, Int.reduceLE, Int.reduceLT, Int.reduceAdd, Int.reduceSub, Int.reduceMul, Int.reduceNeg, Int.reduceEq, rowsOf, srcOf, okRef, intOf?, partsD, freezeL, freezeD, buildD, slcStrD, slcSlD, optV, zeroO, eqR, eqD, eqFs, eqX, nzD, binD, unD, lenD, evK, evC, evC1, metG, Nat.reduceLT, zO]; rfl) (hok : ok = true := by first | with_reducible rfl | omega | (simp; done) | (simp; omega) | rfl) : Res (runOpsA S true φ os (o :: l)) K := osS he hok h
theorem oC (h : Res (runOpsA S true φ' os' l) K) (he : stepOp S φ os o = some (ok, φ', os') := by simp (disch := omega) only [uu, zS, zW, zO, viaNN, viaNNT, D.nn, D.na, addQ, addT, IE.isCall, Nat.reduceAdd, Nat.reduceSub, Nat.reduceMul, Nat.reduceLeDiff, Nat.reduceLT, Nat.reduceBEq, Int.reduceToNat, Int.reduceLE, Int.reduceLT, Int.reduceAdd, Int.reduceSub, Int.reduceMul, Int.reduceNeg, Int.reduceEq, Nat.reduceEqDiff, runOpsA, runDA, stepOp, aval, aact, opv, Ab.get, Ab.put, putO, keep, memN, D.val, D.cond, D.cells?, D.scalar, X.scalar, D.plain, D.isX, binD, bitsD, eqD, eqFs, eqX, unD, intOf?, lenD, okRef, rowsOf, viewD, viewX, freezeD, freezeL, partsD, buildD, slcStrD, slcSlD, Ob.slice?, ↓reduceIte, reduceCtorEq, evQ, evK, evC, evC1, metG, evA, avalR, prefB, eqR, nzD, actT, callT1, callR1, callK1, valsL, condsL, optV, noTabs, IE.frame, memB, zeroO, IntWalk.i64_in, liftT, reach, idsD, idsL, idsO, idsM, inPr, renP, fpOk, nodupB, inL, D.inP, Ob.inP, renL, D.ren, inv, fpO, Ob.ren, fpF, fpO', setAll, newT, readT]; rfl) (hok : ok = true := by first | with_reducible rfl | omega | (simp; done) | (simp; omega) | rfl) : Res (runOpsA S true φ os (o :: l)) K := osS he hok h
theorem dFS (h : Res (runDA S os0 k rs (i + 1) true φ' id os C last l) K) (hf : o.e.frame = true := by rfl) (he : (evQ S φ [] o).map (fun r => (r.1, putO φ o.dst r.2)) = some (ok, φ') := by simp only [zC, evQ, evA, avalR, prefB, Ob.beq_refl, stepOp, aval, opv, Ab.get, Ab.put, putO, Nat.reduceEqDiff, ↓reduceIte, D.val, D.cond, reduceCtorEq, Nat.reduceAdd, Nat.add_zero, Nat.zero_add]; rfl) (hok : ok = true := by rfl) : Res (runDA S os0 k rs i true φ id os C last (o :: l)) K := dsF hf he hok h
theorem dFG (h : Res (runDA S os0 k rs (i + 1) true φ' id os C last l) K) (hf : o.e.frame = true := by rfl) (he : (evQ S φ [] o).map (fun r => (r.1, putO φ o.dst r.2)) = some (ok, φ') := by simp (disch := omega) only [uu, zM, evQ, evA, avalR, prefB, Ob.beq_refl, stepOp, aval, opv, Ab.get, Ab.put, putO, Nat.reduceEqDiff, ↓reduceIte, D.val, D.cond, reduceCtorEq, aact, actT, IE.isCall, D.cells?, Nat.reduceAdd, Nat.reduceLeDiff, Ob.slice?, Nat.reduceSub, Nat.reduceMul, Int.reduceToNat, Int.reduceLE, Int.reduceLT, Int.reduceAdd, Int.reduceSub, Int.reduceMul, Int.reduceNeg, Int.reduceEq, rowsOf, srcOf, okRef, intOf?, partsD, freezeL, freezeD, buildD, slcStrD, slcSlD, optV, zeroO, eqR, eqD, eqFs, eqX, nzD, binD, unD, lenD, evK, evC, evC1, metG, Nat.reduceLT, zO]; rfl) (hok : ok = true := by first | with_reducible rfl | omega | (simp; done) | (simp; omega) | rfl) : Res (runDA S os0 k rs i true φ id os C last (o :: l)) K := dsF hf he hok h
theorem dQG (h : Res (runDA S os0 k rs (i + 1) true φ' id os C last l) K) (hf : o.e.frame = false := by rfl) (hm : memB i rs = false := by rfl) (hk : Nat.ble (i + 1) k = true := by rfl) (he : (evQ S φ os0 o).map (fun r => (r.1, putO φ o.dst r.2)) = some (ok, φ') := by simp (disch := omega) only [uu, zM, evQ, evA, avalR, prefB, Ob.beq_refl, stepOp, aval, opv, Ab.get, Ab.put, putO, Nat.reduceEqDiff, ↓reduceIte, D.val, D.cond, reduceCtorEq, aact, actT, IE.isCall, D.cells?, Nat.reduceAdd, Nat.reduceLeDiff, Ob.slice?, Nat.reduceSub, Nat.reduceMul, Int.reduceToNat, Int.reduceLE, Int.reduceLT, Int.reduceAdd, Int.reduceSub, Int.reduceMul, Int.reduceNeg, Int.reduceEq, rowsOf, srcOf, okRef, intOf?, partsD, freezeL, freezeD, buildD, slcStrD, slcSlD, optV, zeroO, eqR, eqD, eqFs, eqX, nzD, binD, unD, lenD, evK, evC, evC1, metG, Nat.reduceLT, zO]; rfl) (hok : ok = true := by first | with_reducible rfl | omega | (simp; done) | (simp; omega) | rfl) : Res (runDA S os0 k rs i true φ id os C last (o :: l)) K := dsQ hf hm hk he hok h
theorem dKG (h : Res (runDA S os0 k rs (i + 1) true φ' (id + 1) (os ++ [ob]) (C ++ [ob]) last l) K) (hf : o.e.frame = false := by rfl) (hm : memB i rs = false := by rfl) (hk : Nat.ble (i + 1) k = true := by rfl) (hn : evQ S φ os0 o = none := by simp (disch := omega) only [uu, zS, zW, zO, viaNN, viaNNT, D.nn, D.na, addQ, addT, IE.isCall, Nat.reduceAdd, Nat.reduceSub, Nat.reduceMul, Nat.reduceLeDiff, Nat.reduceLT, Nat.reduceBEq, Int.reduceToNat, Int.reduceLE, Int.reduceLT, Int.reduceAdd, Int.reduceSub, Int.reduceMul, Int.reduceNeg, Int.reduceEq, Nat.reduceEqDiff, runOpsA, runDA, stepOp, aval, aact, opv, Ab.get, Ab.put, putO, keep, memN, D.val, D.cond, D.cells?, D.scalar, X.scalar, D.plain, D.isX, binD, bitsD, eqD, eqFs, eqX, unD, intOf?, lenD, okRef, rowsOf, viewD, viewX, freezeD, freezeL, partsD, buildD, slcStrD, slcSlD, Ob.slice?, ↓reduceIte, reduceCtorEq, evQ, evK, evC, evC1, metG, evA, avalR, prefB, eqR, nzD, actT, callT1, callR1, callK1, valsL, condsL, optV, noTabs, IE.frame, memB, zeroO, IntWalk.i64_in, liftT, reach, idsD, idsL, idsO, idsM, inPr, renP, fpOk, nodupB, inL, D.inP, Ob.inP, renL, D.ren, inv, fpO, Ob.ren, fpF, fpO', setAll, newT, readT]) (he : (evK S φ os0 id o).map (fun r => (r.1, putO φ o.dst r.2.1, r.2.2)) = some (ok, φ', ob) := by simp (disch := omega) only [uu, zS, zW, zO, viaNN, viaNNT, D.nn, D.na, addQ, addT, IE.isCall, Nat.reduceAdd, Nat.reduceSub, Nat.reduceMul, Nat.reduceLeDiff, Nat.reduceLT, Nat.reduceBEq, Int.reduceToNat, Int.reduceLE, Int.reduceLT, Int.reduceAdd, Int.reduceSub, Int.reduceMul, Int.reduceNeg, Int.reduceEq, Nat.reduceEqDiff, runOpsA, runDA, stepOp, aval, aact, opv, Ab.get, Ab.put, putO, keep, memN, D.val, D.cond, D.cells?, D.scalar, X.scalar, D.plain, D.isX, binD, bitsD, eqD, eqFs, eqX, unD, intOf?, lenD, okRef, rowsOf, viewD, viewX, freezeD, freezeL, partsD, buildD, slcStrD, slcSlD, Ob.slice?, ↓reduceIte, reduceCtorEq, evQ, evK, evC, evC1, metG, evA, avalR, prefB, eqR, nzD, actT, callT1, callR1, callK1, valsL, condsL, optV, noTabs, IE.frame, memB, zeroO, IntWalk.i64_in, liftT, reach, idsD, idsL, idsO, idsM, inPr, renP, fpOk, nodupB, inL, D.inP, Ob.inP, renL, D.ren, inv, fpO, Ob.ren, fpF, fpO', setAll, newT, readT]; rfl) (hok : ok = true := by first | with_reducible rfl | omega | (simp; done) | (simp; omega) | rfl) : Res (runDA S os0 k rs i true φ id os C last (o :: l)) K := dsK hf hm hk hn he hok h
theorem dAG (h : Res (runDA S os0 k rs (i + 1) true φ' id os' C (some os') l) K) (hf : o.e.frame = false := by rfl) (hm : memB i rs = false := by rfl) (hk : Nat.ble (i + 1) k = false := by rfl) (he : (evA S φ os o).map (fun r => (r.1 && (match rs with | [] => true | _ => prefB os0 r.2.2), putO φ o.dst r.2.1, r.2.2)) = some (ok, φ', os') := by simp (disch := omega) only [uu, zM, evQ, evA, avalR, prefB, Ob.beq_refl, stepOp, aval, opv, Ab.get, Ab.put, putO, Nat.reduceEqDiff, ↓reduceIte, D.val, D.cond, reduceCtorEq, aact, actT, IE.isCall, D.cells?, Nat.reduceAdd, Nat.reduceLeDiff, Ob.slice?, Nat.reduceSub, Nat.reduceMul, Int.reduceToNat, Int.reduceLE, Int.reduceLT, Int.reduceAdd, Int.reduceSub, Int.reduceMul, Int.reduceNeg, Int.reduceEq, rowsOf, srcOf, okRef, intOf?, partsD, freezeL, freezeD, buildD, slcStrD, slcSlD, optV, zeroO, eqR, eqD, eqFs, eqX, nzD, binD, unD, lenD, evK, evC, evC1, metG, Nat.reduceLT, zO]; rfl) (hok : ok = true := by first | with_reducible rfl | omega | (simp; done) | (simp; omega) | rfl) : Res (runDA S os0 k rs i true φ id os C last (o :: l)) K := dsA hf hm hk he hok h
theorem dQC (h : Res (runDA S os0 k rs (i + 1) true φ' id os C last l) K) (hf : o.e.frame = false := by rfl) (hm : memB i rs = false := by rfl) (hk : Nat.ble (i + 1) k = true := by rfl) (he : (evQ S φ os0 o).map (fun r => (r.1, putO φ o.dst r.2)) = some (ok, φ') := by simp (disch := omega) only [uu, zS, zW, zO, viaNN, viaNNT, D.nn, D.na, addQ, addT, IE.isCall, Nat.reduceAdd, Nat.reduceSub, Nat.reduceMul, Nat.reduceLeDiff, Nat.reduceLT, Nat.reduceBEq, Int.reduceToNat, Int.reduceLE, Int.reduceLT, Int.reduceAdd, Int.reduceSub, Int.reduceMul, Int.reduceNeg, Int.reduceEq, Nat.reduceEqDiff, runOpsA, runDA, stepOp, aval, aact, opv, Ab.get, Ab.put, putO, keep, memN, D.val, D.cond, D.cells?, D.scalar, X.scalar, D.plain, D.isX, binD, bitsD, eqD, eqFs, eqX, unD, intOf?, lenD, okRef, rowsOf, viewD, viewX, freezeD, freezeL, partsD, buildD, slcStrD, slcSlD, Ob.slice?, ↓reduceIte, reduceCtorEq, evQ, evK, evC, evC1, metG, evA, avalR, prefB, eqR, nzD, actT, callT1, callR1, callK1, valsL, condsL, optV, noTabs, IE.frame, memB, zeroO, IntWalk.i64_in, liftT, reach, idsD, idsL, idsO, idsM, inPr, renP, fpOk, nodupB, inL, D.inP, Ob.inP, renL, D.ren, inv, fpO, Ob.ren, fpF, fpO', setAll, newT, readT]; rfl) (hok : ok = true := by first | with_reducible rfl | omega | (simp; done) | (simp; omega) | rfl) : Res (runDA S os0 k rs i true φ id os C last (o :: l)) K := dsQ hf hm hk he hok h
theorem dKC (h : Res (runDA S os0 k rs (i + 1) true φ' (id + 1) (os ++ [ob]) (C ++ [ob]) last l) K) (hf : o.e.frame = false := by rfl) (hm : memB i rs = false := by rfl) (hk : Nat.ble (i + 1) k = true := by rfl) (hn : evQ S φ os0 o = none := by simp (disch := omega) only [uu, zS, zW, zO, viaNN, viaNNT, D.nn, D.na, addQ, addT, IE.isCall, Nat.reduceAdd, Nat.reduceSub, Nat.reduceMul, Nat.reduceLeDiff, Nat.reduceLT, Nat.reduceBEq, Int.reduceToNat, Int.reduceLE, Int.reduceLT, Int.reduceAdd, Int.reduceSub, Int.reduceMul, Int.reduceNeg, Int.reduceEq, Nat.reduceEqDiff, runOpsA, runDA, stepOp, aval, aact, opv, Ab.get, Ab.put, putO, keep, memN, D.val, D.cond, D.cells?, D.scalar, X.scalar, D.plain, D.isX, binD, bitsD, eqD, eqFs, eqX, unD, intOf?, lenD, okRef, rowsOf, viewD, viewX, freezeD, freezeL, partsD, buildD, slcStrD, slcSlD, Ob.slice?, ↓reduceIte, reduceCtorEq, evQ, evK, evC, evC1, metG, evA, avalR, prefB, eqR, nzD, actT, callT1, callR1, callK1, valsL, condsL, optV, noTabs, IE.frame, memB, zeroO, IntWalk.i64_in, liftT, reach, idsD, idsL, idsO, idsM, inPr, renP, fpOk, nodupB, inL, D.inP, Ob.inP, renL, D.ren, inv, fpO, Ob.ren, fpF, fpO', setAll, newT, readT]) (he : (evK S φ os0 id o).map (fun r => (r.1, putO φ o.dst r.2.1, r.2.2)) = some (ok, φ', ob) := by simp (disch := omega) only [uu, zS, zW, zO, viaNN, viaNNT, D.nn, D.na, addQ, addT, IE.isCall, Nat.reduceAdd, Nat.reduceSub, Nat.reduceMul, Nat.reduceLeDiff, Nat.reduceLT, Nat.reduceBEq, Int.reduceToNat, Int.reduceLE, Int.reduceLT, Int.reduceAdd, Int.reduceSub, Int.reduceMul, Int.reduceNeg, Int.reduceEq, Nat.reduceEqDiff, runOpsA, runDA, stepOp, aval, aact, opv, Ab.get, Ab.put, putO, keep, memN, D.val, D.cond, D.cells?, D.scalar, X.scalar, D.plain, D.isX, binD, bitsD, eqD, eqFs, eqX, unD, intOf?, lenD, okRef, rowsOf, viewD, viewX, freezeD, freezeL, partsD, buildD, slcStrD, slcSlD, Ob.slice?, ↓reduceIte, reduceCtorEq, evQ, evK, evC, evC1, metG, evA, avalR, prefB, eqR, nzD, actT, callT1, callR1, callK1, valsL, condsL, optV, noTabs, IE.frame, memB, zeroO, IntWalk.i64_in, liftT, reach, idsD, idsL, idsO, idsM, inPr, renP, fpOk, nodupB, inL, D.inP, Ob.inP, renL, D.ren, inv, fpO, Ob.ren, fpF, fpO', setAll, newT, readT]; rfl) (hok : ok = true := by first | with_reducible rfl | omega | (simp; done) | (simp; omega) | rfl) : Res (runDA S os0 k rs i true φ id os C last (o :: l)) K := dsK hf hm hk hn he hok h
theorem dAC (h : Res (runDA S os0 k rs (i + 1) true φ' id os' C (some os') l) K) (hf : o.e.frame = false := by rfl) (hm : memB i rs = false := by rfl) (hk : Nat.ble (i + 1) k = false := by rfl) (he : (evA S φ os o).map (fun r => (r.1 && (match rs with | [] => true | _ => prefB os0 r.2.2), putO φ o.dst r.2.1, r.2.2)) = some (ok, φ', os') := by simp (disch := omega) only [uu, zS, zW, zO, viaNN, viaNNT, D.nn, D.na, addQ, addT, IE.isCall, Nat.reduceAdd, Nat.reduceSub, Nat.reduceMul, Nat.reduceLeDiff, Nat.reduceLT, Nat.reduceBEq, Int.reduceToNat, Int.reduceLE, Int.reduceLT, Int.reduceAdd, Int.reduceSub, Int.reduceMul, Int.reduceNeg, Int.reduceEq, Nat.reduceEqDiff, runOpsA, runDA, stepOp, aval, aact, opv, Ab.get, Ab.put, putO, keep, memN, D.val, D.cond, D.cells?, D.scalar, X.scalar, D.plain, D.isX, binD, bitsD, eqD, eqFs, eqX, unD, intOf?, lenD, okRef, rowsOf, viewD, viewX, freezeD, freezeL, partsD, buildD, slcStrD, slcSlD, Ob.slice?, ↓reduceIte, reduceCtorEq, evQ, evK, evC, evC1, metG, evA, avalR, prefB, eqR, nzD, actT, callT1, callR1, callK1, valsL, condsL, optV, noTabs, IE.frame, memB, zeroO, IntWalk.i64_in, liftT, reach, idsD, idsL, idsO, idsM, inPr, renP, fpOk, nodupB, inL, D.inP, Ob.inP, renL, D.ren, inv, fpO, Ob.ren, fpF, fpO', setAll, newT, readT]; rfl) (hok : ok = true := by first | with_reducible rfl | omega | (simp; done) | (simp; omega) | rfl) : Res (runDA S os0 k rs i true φ id os C last (o :: l)) K := dsA hf hm hk he hok h
end
theorem lfR {fz : Bool} {T : Tab} {φ : List (Nat × D)} {os os2 : List Ob} {rs : List IRes} {ds : List D} {r R : D} (h : r = R) (he : retD fz T φ os rs = some (true, ds, os2) := by simp (disch := omega) only [uu, zF, keep, memN, Bool.false_eq_true, if_false, retD, resD, finD, plainD, freezeD, freezeL, aval, opv, Ab.get, Nat.reduceEqDiff, ↓reduceIte, D.val, D.cond, Nat.reduceAdd, Nat.reduceLeDiff, Ob.slice?]; rfl) (hr : mkR ds = r := by simp only [mkR]; rfl) : ((Exit.ret : Exit) = .normal ∨ (Exit.ret : Exit) = .ret) ∧ ∃ ds os2, retD fz T φ os rs = some (true, ds, os2) ∧ mkR ds = R := ⟨.inr rfl, ds, os2, he, by rw [hr]; exact h⟩
theorem lfR2 {fz : Bool} {T : Tab} {φ : List (Nat × D)} {os os2 OS : List Ob} {rs : List IRes} {ds : List D} {r R : D} (h : r = R ∧ os2 = OS) (he : retD fz T φ os rs = some (true, ds, os2) := by simp (disch := omega) only [uu, zF, keep, memN, Bool.false_eq_true, if_false, retD, resD, finD, plainD, freezeD, freezeL, aval, opv, Ab.get, Nat.reduceEqDiff, ↓reduceIte, D.val, D.cond, Nat.reduceAdd, Nat.reduceLeDiff, Ob.slice?]; rfl) (hr : mkR ds = r := by simp only [mkR]; rfl) : ((Exit.ret : Exit) = .normal ∨ (Exit.ret : Exit) = .ret) ∧ ∃ ds os2, retD fz T φ os rs = some (true, ds, os2) ∧ mkR ds = R ∧ os2 = OS := ⟨.inr rfl, ds, os2, he, by rw [hr]; exact h⟩
end Go.Ab
end
section
/- A contract of a function that looks at no objects, with slices that the caller has made: they are frozen first. -/
namespace Go.Ab
open Go Go.RowKit Go.Bo
variable {P : Program}
section
variable {c : Ctx} {E0 : Env} {os0 : List Ob} {n : Nat}
/-- So many rounds of a loop, one after the other. -/
def Rounds (P : Program) (c : Ctx) (E0 : Env) (os0 : List Ob) (n : Nat) (b : IC) (Q : Exit → List (Nat × D) → List Ob → Prop) : Nat → List (Nat × D) → List Ob → Prop
  | 0, _, _ => False
  | k + 1, φ, os => WI P c E0 os0 n b (thenQ (Rounds P c E0 os0 n b Q k) Q) φ os
theorem WI.round {b : IC} {Q : Exit → List (Nat × D) → List Ob → Prop} {k : Nat} {φ : List (Nat × D)} {os : List Ob} (h : WI P c E0 os0 n b (thenQ (Rounds P c E0 os0 n b Q k) Q) φ os) : Rounds P c E0 os0 n b Q (k + 1) φ os := h
end
end Go.Ab
end
section
/- A row that is sorted by a callee. -/
set_option linter.unusedSimpArgs false
set_option linter.unusedVariables false
namespace Go.Ab
open Go Go.RowKit Go.Bo

section
variable {P : Program}
/-- A function that lays other cells into a row, which is then as long as it was. -/
theorem MCalls.turn {α : Type} (enc : α → X) (val : α → Value) (hvx : ∀ w st a, VX w st (enc a) (val a)) (hinv : ∀ w st a v, VX w st (enc a) v → v = val a) {f : FuncId} {e : Nat} {zs ys : List α} (hl : ys.length = zs.length) (h00 : zs = [] → ys = [])
    (h0 : zs = [] → ∀ p cap w, Calls P f #[.slice p 0 cap] w fun e w' => e = .returned (.tuple #[]) ∧ w' = w)
    (h1 : ∀ (g cap : Nat) (w : World) (cells : Array Value), zs ≠ [] → w.heap[g]? = some (.cells cells e (0, 0)) → cells.toList.take zs.length = zs.map val → zs.length ≤ cap → cap ≤ maxLen → cells.size = cap * 1 →
      Calls P f #[.slice (some ⟨g, 0, none⟩) zs.length cap] w fun e' w' => e' = .returned (.tuple #[]) ∧ w.grownBy w' (some g) ∧ w'.ownsRow 0 e 1 (.slice (some ⟨g, 0, none⟩) zs.length cap) zs.length (ys.map val)) :
    MCalls P f [.ref 0 zs.length 0 zs.length] [.rows false e 1 (zs.map fun a => [enc a])] (.tup []) [.rows false e 1 (ys.map fun a => [enc a])] := by
  intro c E vs R hvl
  obtain ⟨hsz, hv⟩ := hvl
  obtain ⟨v0, rfl⟩ : ∃ v0, vs = #[v0] := by
    obtain ⟨vl⟩ := vs
    match vl, hsz with
    | [a], _ => exact ⟨a, rfl⟩
  have h := hv 0 _ v0 rfl rfl
  cases h with
  | ref hr _ =>
    have ho : [Ob.rows false e 1 (zs.map fun a => [enc a])][0]? = some (Ob.rows false e 1 (zs.map fun a => [enc a])) := rfl
    obtain ⟨k1, k2⟩ := hr.at ho rfl
    obtain ⟨k3, b, a, cap, a', cap', k4, rfl, k6, k7, k8, k9, k10, k11⟩ := k2 (by simp)
    obtain ⟨rfl, rfl⟩ := k8 rfl
    obtain ⟨p, hp, hok⟩ := R.at ho
    rw [hp] at k4
    have hpb : p = (b, .slice a' zs.length cap') := Option.some.inj k4
    subst hpb
    by_cases hz : zs = []
    · subst hz
      obtain rfl := h00 rfl
      refine (h0 rfl a' cap' E.w).mono ?_
      rintro _ w' ⟨rfl, rfl⟩
      exact ⟨_, E, rfl, rfl, R, Evo.refl _ _, .tup #[] rfl (fun j d v h => by simp at h)⟩
    · have hpos : 0 < zs.length := List.length_pos_iff.2 hz
      obtain ⟨xs, ⟨q1, q2⟩, q3, q4⟩ := hok
      rcases q2 with ⟨q2, q5⟩ | ⟨g, cp, cells, fr, q5, q6, q7, q8, q9, q10, q11⟩
      · simp only [List.length_map] at q5; omega
      · simp only [Value.slice.injEq] at q5
        obtain ⟨rfl, _, rfl⟩ := q5
        simp only [List.length_map, Nat.mul_one] at q10 q7 q1
        have hfr : fr = (0, 0) := by
          rcases q11 with q11 | ⟨q11, _⟩
          · exact q11
          · cases q11
        subst hfr
        have hxs : xs = zs.map val := by
          apply List.ext_getElem (by rw [q1]; simp)
          intro i hi hi2
          have hiz : i < zs.length := by rw [q1] at hi; exact hi
          have := q4 i [enc zs[i]] 0 (enc zs[i]) xs[i] (by rw [List.getElem?_map, List.getElem?_eq_getElem hiz]; rfl) rfl (by rw [Nat.mul_one, Nat.add_zero]; exact List.getElem?_eq_getElem hi)
          rw [hinv _ _ _ _ this]
          simp
        refine (h1 g cap' E.w cells hz q6 (by rw [q10, hxs]) q7 q8 q9).mono ?_
        rintro _ w' ⟨rfl, hg, hown⟩
        obtain ⟨R', ev⟩ := R.set ho hp w' (.rows false e 1 (ys.map fun a => [enc a])) (b, .slice (some ⟨g, 0, none⟩) zs.length cap') ⟨hg.os, hg.tape, hg.output, hg.size, fun k hk hm => hg.block k hk (fun e => hm (by cases e; rfl))⟩ (fun b' hb' => .inl hb') (fun sz rs1 h => by
            simp only [Ob.slice?, Option.some.injEq, Prod.mk.injEq] at h
            obtain ⟨rfl, rfl⟩ := h
            exact ⟨ys.map fun a => [enc a], rfl, .inl ⟨by simp [hl], rfl⟩⟩) (fun k h => by cases h) (fun ev => by
            refine ⟨ys.map val, ?_, fun r hr => ?_, fun i r j x v h1 h2 h3 => ?_⟩
            · have := Row.of_owns hown false
              simpa [hl] using this
            · obtain ⟨a, _, rfl⟩ := List.mem_map.1 hr; rfl
            · rw [List.getElem?_map] at h1
              obtain ⟨a, ha, rfl⟩ := Option.map_eq_some_iff.1 h1
              match j with
              | 0 =>
                simp only [List.getElem?_cons_zero, Option.some.injEq] at h2
                subst h2
                rw [Nat.mul_one, Nat.add_zero, List.getElem?_map, ha] at h3
                simp only [Option.map_some, Option.some.injEq] at h3
                subst h3
                exact hvx _ _ a
              | j + 1 => simp at h2)
        exact ⟨_, _, rfl, rfl, R', ev, .tup #[] rfl (fun j d v h => by simp at h)⟩
end

end Go.Ab
end
section
/- Ways that meet again. -/
set_option linter.unusedSimpArgs false
set_option linter.unusedVariables false
namespace Go.Ab
open Go.RowKit Go.Bo
variable {P : Program} {c : Ctx} {E0 : Env} {os0 : List Ob} {n : Nat} {Q : Exit → List (Nat × D) → List Ob → Prop} {φ : List (Nat × D)} {os : List Ob}
theorem WI.join {x y : IC} (J : List (Nat × D) → List Ob → Prop) (h : WI P c E0 os0 n x (thenQ J Q) φ os) (h2 : ∀ φ' os', J φ' os' → WI P c E0 os0 n y Q φ' os') : WI P c E0 os0 n (.seq x y) Q φ os := by
  refine WI.seq (h.mono fun e φ' os' hh => ?_)
  cases e with
  | normal => exact h2 φ' os' hh
  | _ => exact hh
end Go.Ab
end
