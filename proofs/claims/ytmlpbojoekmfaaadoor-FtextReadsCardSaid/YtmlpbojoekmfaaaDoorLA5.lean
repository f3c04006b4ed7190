/- LA5: AbK, AbL. -/
import Derived.Test.YtmlpbojoekmfaaaDoorLA4
section
/- Regions whose order is open: loose reads of boxes, while other objects turn. Printed by mkK.py. -/
set_option linter.unusedVariables false
set_option linter.unusedSimpArgs false
namespace Go.Ab
open Go Go.RowKit Go.Bo
/-- A load from a box. -/
def boxLd (φ : List (Nat × D)) (o : IOp) : Bool := match o.g, o.e with
  | none, .ld _ _ x => (match (opv φ x).val with | .ptr _ _ => true | .vptr _ => true | _ => false)
  | _, _ => false
/-- The boxes are as they were. -/
def boxesB : List Ob → List Ob → Bool
  | [], _ => true
  | .box ds :: l, y :: l' => Ob.beq (.box ds) y && boxesB l l'
  | _ :: l, _ :: l' => boxesB l l'
  | _ :: _, [] => false
theorem boxesB_spec : ∀ {a b : List Ob}, boxesB a b = true → ∀ (id : Nat) (ds : List D), a[id]? = some (.box ds) → b[id]? = some (.box ds)
  | [], b, _, id, ds, h => by simp at h
  | x :: l, [], hb, id, ds, h => by cases x <;> simp [boxesB] at hb
  | x :: l, y :: l', hb, id, ds, h => by
    cases id with
    | zero =>
      simp only [List.getElem?_cons_zero, Option.some.injEq] at h ⊢
      subst h
      simp only [boxesB, Bool.and_eq_true] at hb
      exact (Ob.beq_eq hb.1).symm
    | succ id =>
      simp only [List.getElem?_cons_succ] at h ⊢
      have : boxesB l l' = true := by
        cases x with
        | box d => simp only [boxesB, Bool.and_eq_true] at hb; exact hb.2
        | _ => simpa only [boxesB] using hb
      exact boxesB_spec this id ds h
def allC (os : List Ob) : List (Option (List Ob)) → Bool
  | [] => true
  | none :: l => allC os l
  | some x :: l => boxesB os x && allC os l
theorem allC_spec {os : List Ob} : ∀ {G : List (Option (List Ob))}, allC os G = true → ∀ (j : Nat) (x : List Ob), G[j]? = some (some x) → boxesB os x = true
  | [], _, j, x, h => by simp at h
  | none :: l, hb, j, x, h => by
    cases j with
    | zero => simp at h
    | succ j => exact allC_spec (G := l) hb j x (by simpa using h)
  | some y :: l, hb, j, x, h => by
    simp only [allC, Bool.and_eq_true] at hb
    cases j with
    | zero => simp at h; subst h; exact hb.1
    | succ j => exact allC_spec hb.2 j x (by simpa using h)
theorem lookS_box {id : Nat} {ds : List D} : ∀ {G : List (Option (List Ob))} (dn : Nat → Bool) (i : Nat) (b : List Ob), (∀ (j : Nat) (x : List Ob), G[j]? = some (some x) → x[id]? = some (.box ds)) → b[id]? = some (.box ds) → (lookS G dn i b)[id]? = some (.box ds)
  | [], _, _, b, _, h => h
  | none :: l, dn, i, b, hG, h => by simp only [lookS]; exact lookS_box dn (i + 1) b (fun j x hj => hG (j + 1) x (by simpa using hj)) h
  | some y :: l, dn, i, b, hG, h => by
    simp only [lookS]
    refine lookS_box dn (i + 1) _ (fun j x hj => hG (j + 1) x (by simpa using hj)) ?_
    split
    · exact hG 0 y rfl
    · exact h
def bxR (rs : List Nat) : Nat → List (Nat × D) → List Rec → List IOp → Bool
  | i, φ, r :: F, o :: l => (!memB i rs || boxLd φ o) && bxR rs (i + 1) (putO φ r.1 r.2.1) F l
  | _, _, _, _ => true
theorem bxR_at {rs : List Nat} : ∀ {l : List IOp} {F : List Rec} {i : Nat} {φ : List (Nat × D)}, bxR rs i φ F l = true → ∀ (q : Nat) (io : IOp), l[q]? = some io → q < F.length → memB (i + q) rs = true → boxLd (recφ φ (F.take q)) io = true
  | [], F, i, φ, _, q, io, h, _, _ => by simp at h
  | o :: l, [], i, φ, _, q, io, _, h, _ => by simp at h
  | o :: l, r :: F, i, φ, hb, q, io, h, hq, hm => by
    simp only [bxR, Bool.and_eq_true] at hb
    cases q with
    | zero =>
      simp at h; subst h
      have := hb.1
      rw [Nat.add_zero] at hm
      simpa [hm, recφ] using this
    | succ q =>
      have := bxR_at hb.2 q io (by simpa using h) (by simpa using hq) (by rw [show i + 1 + q = i + (q + 1) by omega]; exact hm)
      simpa [recφ] using this
theorem evQ_box {S : Tabs} {φ : List (Nat × D)} {os0 os1 : List Ob} {o : IOp} {r : Bool × D} (hb : boxLd φ o = true) (h : evQ S φ os0 o = some r) (hx : ∀ (id : Nat) (ds : List D), os0[id]? = some (.box ds) → os1[id]? = some (.box ds)) : evQ S φ os1 o = some r := by
  unfold boxLd at hb
  split at hb
  · rename_i n ag x hg he
    simp only [evQ, hg, he, avalR] at h ⊢
    split at hb
    · rename_i id off hv
      have key : aval S.q φ os0 (.ld n ag x) = aval S.q φ os1 (.ld n ag x) ∨ aval S.q φ os0 (.ld n ag x) = none := by
        simp only [aval, hv]
        cases h0 : os0[id]? with
        | none => exact .inr rfl
        | some ob =>
          cases ob with
          | box ds => rw [hx id ds h0]; exact .inl rfl
          | _ => exact .inr rfl
      rcases key with key | key
      · rw [← key]; 
        cases hq : aval S.q φ os0 (.ld n ag x) with
        | some q => rw [hq] at h; exact h
        | none => rw [hq] at h; simp only [callR] at h; cases h
      · rw [key] at h; simp only [callR] at h; cases h
    · rename_i cs hv
      have key : aval S.q φ os0 (.ld n ag x) = aval S.q φ os1 (.ld n ag x) := by simp only [aval, hv]
      rw [← key]
      cases hq : aval S.q φ os0 (.ld n ag x) with
      | some q => rw [hq] at h; exact h
      | none => rw [hq] at h; simp only [callR] at h; cases h
    · cases hb
  · cases hb
section
variable {P : Program} {S : Tabs} {c : Ctx} {n : Nat} {Q : Exit → Act → World → Prop} {ops : Array Oper} {il : List IOp} {k : Nat} {rs : List Nat} {E0 : Env} {os0 : List Ob}
/-- Any order is the text's. -/
theorem draw_anyB (hS : SsOk P S) (D0 : Draw ops.toList il k rs) (hcomp : ops.toList.mapM (compOper P n ops) = some il) {φ0 : List (Nat × D)} {F : List Rec} {G : List (Option (List Ob))} (hrun : runR S os0 k rs 0 φ0 os0.length os0 il = some (true, F, G)) (hbx : bxR rs 0 φ0 F il = true) (hal : allC os0 G = true)
    (hQ : ∀ E' a', Rel c E' (lookS G (fun _ => true) 0 (os0 ++ recO F)) → Evo E0 os0 E' (lookS G (fun _ => true) 0 (os0 ++ recO F)) → Fr n E' (lookS G (fun _ => true) 0 (os0 ++ recO F)) (recφ φ0 F) a' → Q .normal a' E'.w) :
    ∀ (fuel : Nat) (listed : Array Bool) (a : Act) (E : Env), listed.size = ops.size → Closed ops.toList (fun j => listed.getD j false) → (List.range ops.size).countP (fun j => !listed.getD j false) ≤ fuel →
      Rel c E (obs os0 F G (fun j => listed.getD j false)) → Evo E0 os0 E (obs os0 F G (fun j => listed.getD j false)) → a.tmps.size = n → a.defers = [] → (∀ t, V E (obs os0 F G (fun j => listed.getD j false)) (look F (fun j => listed.getD j false) 0 (Go.Ab.get φ0 t) t) (a.tmps.getD t undef)) →
      wpAny P .any ops Q fuel listed a E.w := by
  obtain ⟨hlen, hat⟩ := mapM_get hcomp
  simp only [Array.length_toList] at hlen
  obtain ⟨hFl, hGl, hF⟩ := runR_at hrun
  simp only [Nat.zero_add] at hF
  -- records
  have rec_of : ∀ (j : Nat) (r : Rec), F[j]? = some r → ∃ y, il[j]? = some y ∧ y.dst = r.1 := by
    intro j r hj
    have hjl := (List.getElem?_eq_some_iff.1 hj).1
    have hy : il[j]? = some (il[j]'(by omega)) := List.getElem?_eq_getElem _
    obtain ⟨d, x, s, h1, _⟩ := hF j _ hy
    rw [hj] at h1; cases h1
    exact ⟨_, hy, rfl⟩
  have st_of : ∀ (j : Nat) (x : List Ob), G[j]? = some (some x) → ∃ y, il[j]? = some y ∧ y.ex rs j = false ∧ k ≤ j := by
    intro j x hj
    have hjl := (List.getElem?_eq_some_iff.1 hj).1
    have hy : il[j]? = some (il[j]'(by omega)) := List.getElem?_eq_getElem _
    obtain ⟨d, x', s, _, h2, h3⟩ := hF j _ hy
    rw [hj] at h2; cases h2
    cases h3 with
    | turn hf hk h => exact ⟨_, hy, hf, hk⟩
  have mk_of : ∀ (j : Nat) (t : Option Nat) (d : D) (x : Ob), F[j]? = some (t, d, some x) → ∃ y, il[j]? = some y ∧ y.ex rs j = false ∧ j < k := by
    intro j t d x hj
    have hjl := (List.getElem?_eq_some_iff.1 hj).1
    have hy : il[j]? = some (il[j]'(by omega)) := List.getElem?_eq_getElem _
    obtain ⟨d', x', s, h1, _, h3⟩ := hF j _ hy
    rw [hj] at h1; cases h1
    cases h3 with
    | make hf hk h => exact ⟨_, hy, hf, hk⟩
  have oper_of : ∀ j, j < ops.size → ∃ o, ops.toList[j]? = some o := fun j hj => ⟨ops[j], by simp [hj]⟩
  -- when all have come
  have fin : ∀ (listed : Array Bool) (a : Act) (E : Env), listed.size = ops.size → Rel c E (obs os0 F G (fun j => listed.getD j false)) → Evo E0 os0 E (obs os0 F G (fun j => listed.getD j false)) → a.tmps.size = n → a.defers = [] → (∀ t, V E (obs os0 F G (fun j => listed.getD j false)) (look F (fun j => listed.getD j false) 0 (Go.Ab.get φ0 t) t) (a.tmps.getD t undef)) →
      (Region.ready .any ops listed = [] → Q .normal a E.w) := by
    intro listed a E hsz R ev h1 h2 h3 hr
    have all : ∀ j, j < ops.size → listed.getD j false = true := by
      intro j hj
      cases hb : listed.getD j false with
      | true => rfl
      | false =>
        exfalso
        obtain ⟨j0, ⟨hj0, hj1⟩, hj2⟩ := least_of (k := ops.size) (f := fun j => listed.getD j false) ⟨j, hj, hb⟩
        have : j0 ∈ Region.ready .any ops listed := (ready_iff hsz).2 ⟨hj1, ops[j0]'(by omega), by simp, fun j hj => hj2 j (D0.back j0 _ (by simp) j hj)⟩
        rw [hr] at this; cases this
    have e1 : obs os0 F G (fun j => listed.getD j false) = lookS G (fun _ => true) 0 (os0 ++ recO F) := by
      unfold obs
      rw [crs_all F _ 0 (fun j r hj => by rw [Nat.zero_add]; exact all j (by have := (List.getElem?_eq_some_iff.1 hj).1; omega))]
      exact lookS_congr G _ _ _ _ (fun j x hj => by rw [Nat.zero_add]; exact all j (by have := (List.getElem?_eq_some_iff.1 hj).1; omega))
    rw [e1] at R ev h3
    refine hQ E a R ev ⟨h1, h2, fun t => ?_⟩
    have := look_seq F φ0 F.length 0 t
    rw [List.take_length] at this
    rw [this]
    have e : look F (fun j => decide (j < 0 + F.length)) 0 (Go.Ab.get φ0 t) t = look F (fun j => listed.getD j false) 0 (Go.Ab.get φ0 t) t := look_congr F _ _ _ _ _ (fun j d o hj => by
      have hjl := (List.getElem?_eq_some_iff.1 hj).1
      simp only [Nat.zero_add, hjl, decide_true, all j (by omega)])
    rw [e]; exact h3 t
  intro fuel
  induction fuel with
  | zero =>
    intro listed a E hsz hcl hfu R ev h1 h2 h3
    have hr : Region.ready .any ops listed = [] := by
      apply List.eq_nil_iff_forall_not_mem.2
      intro i hi
      obtain ⟨g1, o, ho, _⟩ := (ready_iff hsz).1 hi
      have hlt : i < ops.size := by have := (List.getElem?_eq_some_iff.1 ho).1; simpa using this
      have h0 : (List.range ops.size).countP (fun j => !listed.getD j false) = 0 := by omega
      have := List.countP_eq_zero.1 h0 i (List.mem_range.2 hlt)
      rw [g1] at this; simp at this
    exact ⟨hr, fin listed a E hsz R ev h1 h2 h3 hr⟩
  | succ fuel ih =>
    intro listed a E hsz hcl hfu R ev h1 h2 h3
    refine ⟨fin listed a E hsz R ev h1 h2 h3, fun i hi => ?_⟩
    obtain ⟨g1, o, ho, g2⟩ := (ready_iff hsz).1 hi
    have hlt : i < ops.size := by have := (List.getElem?_eq_some_iff.1 ho).1; simpa using this
    have hil : il[i]? = some (il[i]'(by omega)) := List.getElem?_eq_getElem _
    have hio := hat i o _ ho hil
    obtain ⟨d, x, s, hFi, hGi, hst⟩ := hF i _ hil
    generalize hioe : il[i]'(by omega) = io at *
    -- what the operation looks at is what it was in the text's order
    have hlook : ∀ t ∈ io.reads, Go.Ab.get (recφ φ0 (F.take i)) t = look F (fun j => listed.getD j false) 0 (Go.Ab.get φ0 t) t := by
      intro t ht
      rw [look_seq F φ0 i 0 t]
      refine look_congr F _ _ _ _ _ (fun j d' o' hj => ?_)
      obtain ⟨y, hy, hyd⟩ := rec_of j _ hj
      have hjl : j < ops.size := by have := (List.getElem?_eq_some_iff.1 hy).1; omega
      obtain ⟨p, hp⟩ := oper_of j hjl
      simp only [Nat.zero_add]
      rcases D0.reads i j io y t o p hil hy ho hp ht hyd with ⟨w1, w2⟩ | ⟨w1, w2⟩
      · rw [g2 j w2]; simpa using w1
      · have : listed.getD j false = false := by
          cases hb : listed.getD j false with
          | false => rfl
          | true =>
            have h9 : listed.getD i false = true := hcl j _ hp hb i w2
            rw [g1] at h9; cases h9
        rw [this]; simp; omega
    let φs : List (Nat × D) := io.reads.map fun t => (t, look F (fun j => listed.getD j false) 0 (Go.Ab.get φ0 t) t)
    have hget : ∀ t, Go.Ab.get φs t = look F (fun j => listed.getD j false) 0 (Go.Ab.get φ0 t) t ∨ (Go.Ab.get φs t = .und ∧ t ∉ io.reads) := by
      intro t
      have key : ∀ l : List Nat, Go.Ab.get (l.map fun t => (t, look F (fun j => listed.getD j false) 0 (Go.Ab.get φ0 t) t)) t = if t ∈ l then look F (fun j => listed.getD j false) 0 (Go.Ab.get φ0 t) t else .und := by
        intro l
        induction l with
        | nil => rfl
        | cons u l ihl =>
          simp only [List.map_cons, Go.Ab.get, List.mem_cons]
          by_cases hu : u = t
          · subst hu; simp
          · have : ¬ t = u := fun e => hu e.symm
            simp only [hu, if_false, ihl, this, false_or]
      rw [key io.reads]
      by_cases ht : t ∈ io.reads
      · rw [if_pos ht]; exact .inl rfl
      · rw [if_neg ht]; exact .inr ⟨rfl, ht⟩
    have hfs : Fr n E (obs os0 F G (fun j => listed.getD j false)) φs a := ⟨h1, h2, fun t => by
      rcases hget t with h | ⟨h, _⟩ <;> rw [h]
      · exact h3 t
      · exact .und _⟩
    have hagree : ∀ t ∈ io.reads, Go.Ab.get φs t = Go.Ab.get (recφ φ0 (F.take i)) t := fun t ht => by
      rw [hlook t ht]
      rcases hget t with h | ⟨_, h⟩
      · exact h
      · exact absurd ht h
    have hdst : io.dst = o.dst ∧ (o.dst.all fun t => decide (t < n)) = true := by
      simp only [compOper, Option.bind_eq_some_iff] at hio
      obtain ⟨e, he, hc⟩ := hio
      split at hc
      · rename_i hd
        split at hc
        · cases hc; exact ⟨rfl, hd⟩
        · obtain ⟨s, _, hc⟩ := Option.map_eq_some_iff.1 hc
          cases hc; exact ⟨rfl, hd⟩
      · cases hc
    have huniq : ∀ (j u : Nat) (d' : D) (o' : Option Ob), F[j]? = some (some u, d', o') → io.dst = some u → j = i := by
      intro j u d' o' hj hd
      obtain ⟨y, hy, hyd⟩ := rec_of j _ hj
      exact (D0.own i j io y u hil hy hd hyd).symm
    have hnext : (fun j => (listed.setIfInBounds i true).getD j false) = fun j => listed.getD j false || decide (j = 0 + i) := by
      funext j; rw [getD_set _ _ _ (by omega), Nat.zero_add]
    have step : ∀ (v : Value) (E' : Env) (os' : List Ob), os' = obs os0 F G (fun j => (listed.setIfInBounds i true).getD j false) → Rel c E' os' → Evo E (obs os0 F G (fun j => listed.getD j false)) E' os' → V E' os' d v →
        wpAny P .any ops Q fuel (listed.setIfInBounds i true) (a.put o.dst v) E'.w := by
      intro v E' os' hos R' e' hv
      subst hos
      refine ih _ _ E' (by simp [hsz]) ?_ ?_ R' (ev.trans e') ?_ (by cases hd : o.dst <;> simp [Act.put, h2]) (fun t => ?_)
      · intro q p hp hq j hj
        show (listed.setIfInBounds i true).getD j false = true
        replace hq : (listed.setIfInBounds i true).getD q false = true := hq
        rw [getD_set _ _ _ (by omega)] at hq ⊢
        by_cases hqi : q = i
        · subst hqi
          rw [ho] at hp; cases hp
          rw [g2 j hj]; rfl
        · simp only [hqi, decide_false, Bool.or_false] at hq
          have h9 : listed.getD j false = true := hcl q p hp hq j hj
          rw [h9]; rfl
      · have hlt' : (List.range ops.size).countP (fun j => !(listed.setIfInBounds i true).getD j false) < (List.range ops.size).countP (fun j => !listed.getD j false) :=
          countP_lt (List.mem_range.2 hlt) (by rw [g1]; rfl) (by rw [getD_set _ _ _ (by omega)]; simp) (fun j hj => by
            rw [getD_set _ _ _ (by omega)] at hj
            simp only [Bool.not_or, Bool.and_eq_true] at hj
            exact hj.1)
        omega
      · cases hd : o.dst with
        | none => exact h1
        | some t => simp [Act.put, h1]
      · rw [hnext, look_add F _ 0 _ i io.dst d x t hFi huniq, ← hnext]
        by_cases ht : io.dst = some t
        · rw [if_pos ht]
          rw [← hdst.1, ht]
          have : (a.put (some t) v).tmps.getD t undef = v := by
            have hb : t < n := by have := hdst.2; rw [← hdst.1, ht] at this; simpa using this
            simp [Act.put, Array.getD_eq_getD_getElem?, h1, hb]
          rw [this]; exact hv
        · rw [if_neg ht]
          have : (a.put o.dst v).tmps.getD t undef = a.tmps.getD t undef := by
            rw [← hdst.1]
            cases hd : io.dst with
            | none => rfl
            | some u =>
              have hne : u ≠ t := fun e => ht (by rw [hd, e])
              simp [Act.put, Array.getD_eq_getD_getElem?, hne]
          rw [this]
          exact (h3 t).mono e'
    have hsm : ∀ j, listed.getD j false = true → j ≠ i := fun j hj e => by subst e; rw [g1] at hj; cases hj
    refine wpOp_of ho ?_
    -- a state of one that turns objects: not yet, if an earlier one has not come
    have later : io.ex rs i = false → ∀ (j : Nat) (x' : List Ob), i < j → G[j]? = some (some x') → listed.getD j false = false := by
      intro hf j x' hij hj
      obtain ⟨y, hy, hyf, hkj⟩ := st_of j x' hj
      have hjl : j < ops.size := by have := (List.getElem?_eq_some_iff.1 hy).1; omega
      obtain ⟨p, hp⟩ := oper_of j hjl
      cases hb : listed.getD j false with
      | false => rfl
      | true =>
        have h9 : listed.getD i false = true := D0.tail j p y hkj hp hy hyf _ hcl (hcl j p hp hb) i io hij hil hf
        rw [g1] at h9; cases h9
    cases hst with
    | frame hf hq =>
      have hos : obs os0 F G (fun j => (listed.setIfInBounds i true).getD j false) = obs os0 F G (fun j => listed.getD j false) := by
        unfold obs
        rw [hnext, crs_quiet F _ 0 i io.dst d hFi]
        refine lookS_congr G _ _ _ _ (fun j x' hj => ?_)
        have : j ≠ i := fun e => by subst e; rw [hGi] at hj; cases hj
        simp [this]
      rw [← evQ_congr S [] hagree] at hq
      exact evQ_ok (os := []) (Y := obs os0 F G (fun j => listed.getD j false)) hS R hfs hio hq (fun v E' R' e' hv => step v E' _ hos.symm R' e' hv)
    | look hf hq =>
      have hos : obs os0 F G (fun j => (listed.setIfInBounds i true).getD j false) = obs os0 F G (fun j => listed.getD j false) := by
        unfold obs
        rw [hnext, crs_quiet F _ 0 i io.dst d hFi]
        refine lookS_congr G _ _ _ _ (fun j x' hj => ?_)
        have : j ≠ i := fun e => by subst e; rw [hGi] at hj; cases hj
        simp [this]
      have hb := bxR_at hbx i io hil (by omega) (by rw [Nat.zero_add]; exact hf)
      have hq2 : evQ S (recφ φ0 (F.take i)) (obs os0 F G (fun j => listed.getD j false)) io = some (true, d) := evQ_box hb hq (fun id ds hid => by
        unfold obs
        refine lookS_box _ 0 _ (fun j x hj => boxesB_spec (allC_spec hal j x hj) id ds hid) ?_
        have := (List.getElem?_eq_some_iff.1 hid).1
        rw [List.getElem?_append_left this]; exact hid)
      rw [← evQ_congr S _ hagree] at hq2
      exact evQ_ok (os := obs os0 F G (fun j => listed.getD j false)) (Y := []) hS (by rw [List.append_nil]; exact R) (by rw [List.append_nil]; exact hfs) hio hq2 (fun v E' R' e' hv => step v E' _ (by rw [hos, List.append_nil]) R' (by rw [List.append_nil] at e' ⊢; exact e') hv)
    | read hf hk hq =>
      have no : ∀ (j : Nat) (x' : List Ob), G[j]? = some (some x') → listed.getD j false = false := fun j x' hj => by
        obtain ⟨_, _, _, hkj⟩ := st_of j x' hj
        exact later hf j x' (by omega) hj
      have hob : obs os0 F G (fun j => listed.getD j false) = os0 ++ crs F (fun j => listed.getD j false) 0 := lookS_none G _ 0 _ (fun j x' hj => by rw [Nat.zero_add]; exact no j x' hj)
      have hos : obs os0 F G (fun j => (listed.setIfInBounds i true).getD j false) = obs os0 F G (fun j => listed.getD j false) := by
        unfold obs
        rw [hnext, crs_quiet F _ 0 i io.dst d hFi]
        refine lookS_congr G _ _ _ _ (fun j x' hj => ?_)
        have : j ≠ i := fun e => by subst e; rw [hGi] at hj; cases hj
        simp [this]
      rw [← evQ_congr S os0 hagree] at hq
      rw [hob] at R hfs
      exact evQ_ok hS R hfs hio hq (fun v E' R' e' hv => step v E' _ (by rw [hos, hob]) R' (by rw [hob]; exact e') hv)
    | near hf hk hq =>
      have no : ∀ (j : Nat) (x' : List Ob), G[j]? = some (some x') → listed.getD j false = false := fun j x' hj => by
        obtain ⟨_, _, _, hkj⟩ := st_of j x' hj
        exact later hf j x' (by omega) hj
      have hob : obs os0 F G (fun j => listed.getD j false) = os0 ++ crs F (fun j => listed.getD j false) 0 := lookS_none G _ 0 _ (fun j x' hj => by rw [Nat.zero_add]; exact no j x' hj)
      have hos : obs os0 F G (fun j => (listed.setIfInBounds i true).getD j false) = obs os0 F G (fun j => listed.getD j false) := by
        unfold obs
        rw [hnext, crs_quiet F _ 0 i io.dst d hFi]
        refine lookS_congr G _ _ _ _ (fun j x' hj => ?_)
        have : j ≠ i := fun e => by subst e; rw [hGi] at hj; cases hj
        simp [this]
      have hcur : lookS (G.take i) (fun _ => true) 0 (os0 ++ recO (F.take i)) = os0 ++ recO (F.take i) := by
        rw [← lookS_take G i 0]
        refine lookS_none G _ 0 _ (fun j x' hj => ?_)
        obtain ⟨_, _, _, hkj⟩ := st_of j x' hj
        simp; omega
      rw [hcur] at hq
      obtain ⟨u, id, ext, off, len, rs', hg, he, hx, hr, hb, rfl⟩ := nearQ_inv hq
      have hx' : Go.Ab.get φs u = .ref id ext off len := by
        rw [← hx]; exact hagree u (by simp [IOp.reads, he, IE.reads, IO.reads])
      have hv := hfs.slot u
      rw [hx'] at hv
      have hr' : rowsOf (obs os0 F G (fun j => listed.getD j false)) (.ref id ext off len) = some rs' := by
        cases hv with
        | ref h1 h2 =>
          obtain ⟨o', sz', rs2, k1, k2, k3⟩ := h1
          rw [hob] at k1 ⊢
          refine rowsOf_eq ?_ hr
          by_cases hid : id < os0.length
          · rw [List.getElem?_append_left hid, List.getElem?_append_left hid]
          · rw [List.getElem?_append_right (by omega)] at k1 ⊢
            rw [List.getElem?_append_right (by omega)]
            have hsome : ∃ ob, (recO (F.take i))[id - os0.length]? = some ob := by
              cases hc : (recO (F.take i))[id - os0.length]? with
              | some ob => exact ⟨ob, rfl⟩
              | none =>
                simp only [rowsOf] at hr
                rw [List.getElem?_append_right (by omega), hc] at hr
                cases hr
            obtain ⟨ob, hob'⟩ := hsome
            rw [hob', k1]
            rcases crs_or F (fun j => listed.getD j false) 0 _ _ k1 with h | h
            · subst h; cases k2
            · rw [recO_pre F i _ _ hob'] at h; exact h.symm
      have hq2 : evQ S φs (obs os0 F G (fun j => listed.getD j false)) io = some (true, .x (.str (rs'.map rowByte))) := by
        simp only [evQ, hg, he, avalR, aval, opv, hx', D.val, D.cond, hr', Option.map_some, hb, Bool.and_true]
      exact evQ_ok (os := obs os0 F G (fun j => listed.getD j false)) (Y := []) hS (by rw [List.append_nil]; exact R) (by rw [List.append_nil]; exact hfs) hio hq2 (fun v E' R' e' hv => step v E' _ (by rw [hos, List.append_nil]) R' (by rw [List.append_nil] at e' ⊢; exact e') hv)
    | make hf hk hq =>
      rename_i ob'
      have no : ∀ (j : Nat) (x' : List Ob), G[j]? = some (some x') → listed.getD j false = false := fun j x' hj => by
        obtain ⟨_, _, _, hkj⟩ := st_of j x' hj
        exact later hf j x' (by omega) hj
      have hob : obs os0 F G (fun j => listed.getD j false) = os0 ++ crs F (fun j => listed.getD j false) 0 := lookS_none G _ 0 _ (fun j x' hj => by rw [Nat.zero_add]; exact no j x' hj)
      obtain ⟨m1, m2⟩ := crs_make F (fun j => listed.getD j false) 0 i io.dst d ob' hFi (by simpa using g1)
      have hos : obs os0 F G (fun j => (listed.setIfInBounds i true).getD j false) = (os0 ++ crs F (fun j => listed.getD j false) 0).set (os0.length + place F i) ob' := by
        unfold obs
        rw [hnext, m2, List.set_append_right _ _ (by omega), Nat.add_sub_cancel_left]
        refine lookS_none G _ 0 _ (fun j x' hj => ?_)
        have : j ≠ i := fun e => by subst e; rw [hGi] at hj; cases hj
        simp only [Nat.zero_add, no j x' hj, this, decide_false, Bool.or_false]
      rw [← evK_congr S os0 _ hagree] at hq
      rw [hob] at R hfs
      refine evK_ok hS R hfs hio (id := os0.length + place F i) ?_ hq (fun v E' R' e' hv => step v E' _ hos.symm R' (by rw [hob]; exact e') hv)
      rw [List.getElem?_append_right (by omega), Nat.add_sub_cancel_left]
      exact m1
    | turn hf hk hq =>
      rename_i s'
      have early : ∀ (j : Nat) (y : IOp), j < i → il[j]? = some y → y.ex rs j = false → listed.getD j false = true := fun j y hj hy hyf => D0.tail i o io hk ho hil hf _ hcl g2 j y hj hy hyf
      have hcr : crs F (fun j => listed.getD j false) 0 = recO F := crs_mk F _ 0 (fun j t d' x' hj => by
        obtain ⟨y, hy, hyf, hjk⟩ := mk_of j t d' x' hj
        rw [Nat.zero_add]; exact early j y (by omega) hy hyf)
      have hrt : recO (F.take i) = recO F := recO_take F i (fun j t d' x' hj => by obtain ⟨_, _, _, hjk⟩ := mk_of j t d' x' hj; omega)
      have hob : obs os0 F G (fun j => listed.getD j false) = lookS (G.take i) (fun _ => true) 0 (os0 ++ recO (F.take i)) := by
        unfold obs
        rw [hcr, hrt, ← lookS_take G i 0]
        refine lookS_congr G _ _ _ _ (fun j x' hj => ?_)
        obtain ⟨y, hy, hyf, hkj⟩ := st_of j x' hj
        simp only [Nat.zero_add]
        rcases Nat.lt_trichotomy j i with h | h | h
        · rw [early j y h hy hyf]; simp [h]
        · subst h; rw [g1]; simp
        · rw [later hf j x' h hj]; simp; omega
      have hos : obs os0 F G (fun j => (listed.setIfInBounds i true).getD j false) = s' := by
        unfold obs
        rw [hnext]
        refine lookS_last G _ 0 _ i s' hGi (by simp) (fun j x' hij hj => ?_)
        have : j ≠ i := by omega
        simp only [Nat.zero_add, later hf j x' hij hj, this, decide_false, Bool.or_false]
      rw [← hob, ← evA_congr S _ hagree] at hq
      exact evA_ok hS R hfs hio hq (fun v E' R' e' hv => step v E' _ hos.symm R' e' hv)


def runDB0 (S : Tabs) (φ : List (Nat × D)) (os : List Ob) (k : Nat) (rs : List Nat) (l : List IOp) : Option (Bool × List (Nat × D) × List Ob) :=
  (runR S os k rs 0 φ os.length os l).map fun q => (q.1 && (bxR rs 0 φ q.2.1 l && allC os q.2.2), recφ φ q.2.1, lookS q.2.2 (fun _ => true) 0 (os ++ recO q.2.1))
/-- A region whose order is open. -/
theorem draw_wpB (hm : P.follows .mixedOrders = true) (hS : SsOk P S) (hok : drawOk ops.toList il k rs = true) (hcomp : ops.toList.mapM (compOper P n ops) = some il) {id : Nat} {φ0 φ2 : List (Nat × D)} {os2 : List Ob} {E : Env} {a : Act} (R : Rel c E os0) (hf : Fr n E os0 φ0 a) (hrun : runDB0 S φ0 os0 k rs il = some (true, φ2, os2))
    (hQ : ∀ E' a', Rel c E' os2 → Evo E os0 E' os2 → Fr n E' os2 φ2 a' → Q .normal a' E'.w) : (Code.region id ops true).wp P Q a E.w := by
  simp only [runDB0, Option.map_eq_some_iff] at hrun
  obtain ⟨⟨ok, F, G⟩, hrun, h3⟩ := hrun
  simp at h3
  obtain ⟨⟨rfl, hbx, hal⟩, rfl, rfl⟩ := h3
  have D0 := Draw.of hok
  obtain ⟨R1, e1⟩ := R.world { E.w with drawn := E.w.drawn + 1 } E.st ⟨rfl, rfl, rfl, Nat.le_refl _, fun _ _ _ => rfl⟩ (fun _ _ h => h) (fun _ _ h => .inl h)
  obtain ⟨E2, w2, R2, e2⟩ := push_dead F 0 R1
  have hrep : (fun j => (Array.replicate ops.size false).getD j false) = fun _ => false := by
    funext j
    rw [Array.getD_eq_getD_getElem?]
    by_cases h : j < ops.size <;> simp [h]
  have hob : obs os0 F G (fun _ => false) = os0 ++ crs F (fun _ => false) 0 := lookS_none G _ 0 _ (fun _ _ _ => rfl)
  have hinit := draw_anyB (E0 := E) hS D0 hcomp hrun hbx hal hQ ops.size (Array.replicate ops.size false) a E2 (by simp) (by rw [hrep]; intro i o _ h; cases h) (by
    have := List.countP_le_length (p := fun j => !(Array.replicate ops.size false).getD j false) (l := List.range ops.size)
    simpa using this) (by rw [hrep, hob]; exact R2) (by rw [hrep, hob]; exact e1.trans e2) hf.size hf.defers (fun t => by
      rw [hrep, hob, look_none F _ 0 _ t (fun j d o _ => rfl)]
      exact ((hf.slot t).mono e1).mono e2)
  refine wp_region_any hm ?_
  rw [w2] at hinit
  exact hinit

end
def runDB (S : Tabs) (os0 : List Ob) (k : Nat) (rs : List Nat) : Nat → Bool → List (Nat × D) → Nat → List Ob → List Ob → Option (List Ob) → List IOp → Option (Bool × List (Nat × D) × List Ob)
  | _, b, φ, _, _, C, last, [] => some (b, φ, last.getD (os0 ++ C))
  | i, b, φ, id, os, C, last, o :: l =>
    if o.e.frame then match evQ S φ [] o with
      | some r => runDB S os0 k rs (i + 1) (b && (r.1 && (!memB i rs || boxLd φ o))) (putO φ o.dst r.2) id os C last l
      | none => none
    else if memB i rs then match evQ S φ os0 o with
      | some r => runDB S os0 k rs (i + 1) (b && (r.1 && (!memB i rs || boxLd φ o))) (putO φ o.dst r.2) id os C last l
      | none => none
    else if i < k then match evQ S φ os0 o with
      | some r => runDB S os0 k rs (i + 1) (b && (r.1 && (!memB i rs || boxLd φ o))) (putO φ o.dst r.2) id os C last l
      | none => match nearQ φ os o with
        | some r => runDB S os0 k rs (i + 1) (b && (r.1 && (!memB i rs || boxLd φ o))) (putO φ o.dst r.2) id os C last l
        | none => match evK S φ os0 id o with
          | some r => runDB S os0 k rs (i + 1) (b && (r.1 && (!memB i rs || boxLd φ o))) (putO φ o.dst r.2.1) (id + 1) (os ++ [r.2.2]) (C ++ [r.2.2]) last l
          | none => none
    else match evA S φ os o with
      | some r => runDB S os0 k rs (i + 1) (b && (r.1 && ((!memB i rs || boxLd φ o) && boxesB os0 r.2.2))) (putO φ o.dst r.2.1) id r.2.2 C (some r.2.2) l
      | none => none
theorem runDB_eq (S : Tabs) (os0 : List Ob) (k : Nat) (rs : List Nat) : ∀ (l : List IOp) (i : Nat) (b : Bool) (φ : List (Nat × D)) (id : Nat) (os C : List Ob) (last : Option (List Ob)),
    runDB S os0 k rs i b φ id os C last l = (runR S os0 k rs i φ id os l).map fun q => (b && (q.1 && (bxR rs i φ q.2.1 l && allC os0 q.2.2)), recφ φ q.2.1, lookS q.2.2 (fun _ => true) 0 (last.getD (os0 ++ C ++ recO q.2.1)))
  | [], i, b, φ, id, os, C, last => by
    simp [runDB, runR, recφ, recO, lookS, bxR, allC]
  | o :: l, i, b, φ, id, os, C, last => by
    simp only [runDB, runR]
    split
    · cases evQ S φ [] o with
      | none => rfl
      | some r =>
        simp only [Option.bind_some, runDB_eq S os0 k rs l]
        cases runR S os0 k rs (i + 1) (putO φ o.dst r.2) id os l with
        | none => rfl
        | some q => simp only [Option.map_some, bxR, allC, recφ, recO, lookS_true_none]; congr 1; simp only [Prod.mk.injEq, and_true]; ac_rfl
    · split
      · cases evQ S φ os0 o with
        | none => rfl
        | some r =>
          simp only [Option.bind_some, runDB_eq S os0 k rs l]
          cases runR S os0 k rs (i + 1) (putO φ o.dst r.2) id os l with
          | none => rfl
          | some q => simp only [Option.map_some, bxR, allC, recφ, recO, lookS_true_none]; congr 1; simp only [Prod.mk.injEq, and_true]; ac_rfl
      · split
        · cases evQ S φ os0 o with
          | some r =>
            simp only [runDB_eq S os0 k rs l]
            cases runR S os0 k rs (i + 1) (putO φ o.dst r.2) id os l with
            | none => rfl
            | some q => simp only [Option.map_some, bxR, allC, recφ, recO, lookS_true_none]; congr 1; simp only [Prod.mk.injEq, and_true]; ac_rfl
          | none =>
            cases nearQ φ os o with
            | some r =>
              simp only [runDB_eq S os0 k rs l]
              cases runR S os0 k rs (i + 1) (putO φ o.dst r.2) id os l with
              | none => rfl
              | some q => simp only [Option.map_some, bxR, allC, recφ, recO, lookS_true_none]; congr 1; simp only [Prod.mk.injEq, and_true]; ac_rfl
            | none =>
              cases evK S φ os0 id o with
              | none => rfl
              | some r =>
                simp only [Option.bind_some, runDB_eq S os0 k rs l]
                cases runR S os0 k rs (i + 1) (putO φ o.dst r.2.1) (id + 1) (os ++ [r.2.2]) l with
                | none => rfl
                | some q => simp only [Option.map_some, bxR, allC, recφ, recO, lookS_true_none, List.append_assoc, List.cons_append, List.nil_append]; congr 1; simp only [Prod.mk.injEq, and_true]; ac_rfl
        · cases evA S φ os o with
          | none => rfl
          | some r =>
            simp only [Option.bind_some, runDB_eq S os0 k rs l]
            cases runR S os0 k rs (i + 1) (putO φ o.dst r.2.1) id r.2.2 l with
            | none => rfl
            | some q => simp only [Option.map_some, bxR, allC, recφ, recO, lookS_true_some, Option.getD_some]; congr 1; simp only [Prod.mk.injEq, and_true]; ac_rfl
section
variable {P : Program} {c : Ctx} {E0 : Env} {os0 os : List Ob} {n : Nat} {Q : Exit → List (Nat × D) → List Ob → Prop} {φ : List (Nat × D)}
theorem WI.dregX {S : Tabs} (hS : SsOk P S) (ks : List Nat) {k : Nat} {rs : List Nat} {l : List IOp} (h : Res (runDB S os k rs 0 true φ os.length os [] none l) (fun φ' os' => Q .normal (Go.Ab.keep ks φ') os')) : WI P c E0 os0 n (.dreg k rs l) Q φ os := by
  obtain ⟨ok, φ', os', h1, rfl, h3⟩ := h
  rw [runDB_eq] at h1
  have h2 : runDB0 S φ os k rs l = some (true, φ', os') := by
    rw [← h1]; unfold runDB0
    cases runR S os k rs 0 φ os.length os l with
    | none => rfl
    | some q => simp
  intro code hc E a R hf
  obtain ⟨id, ops, rfl, h4, h5, h6⟩ := inv_dreg hc
  exact draw_wpB h5 hS h6 h4 R.rel hf h2 (fun E' a' R' e' f' => ⟨E', _, os', rfl, ⟨R', R.evo.trans e'⟩, f'.keep ks, h3⟩)
end
section
variable {S : Tabs} {os0 os C : List Ob} {k i id : Nat} {rs : List Nat} {φ φ' : List (Nat × D)} {os' : List Ob} {last : Option (List Ob)} {o : IOp} {l : List IOp} {ok : Bool} {d : D} {ob : Ob} {K : List (Nat × D) → List Ob → Prop} {Q : Exit → List (Nat × D) → List Ob → Prop} {ks : List Nat}
theorem xsN (h : K φ (last.getD (os0 ++ C))) : Res (runDB S os0 k rs i true φ id os C last []) K := ⟨true, φ, _, rfl, rfl, h⟩
theorem xsF (hf : o.e.frame = true) (hm : memB i rs = false) (he : (evQ S φ [] o).map (fun r => (r.1, putO φ o.dst r.2)) = some (ok, φ')) (hok : ok = true) (h : Res (runDB S os0 k rs (i + 1) true φ' id os C last l) K) : Res (runDB S os0 k rs i true φ id os C last (o :: l)) K := by
  subst hok
  obtain ⟨r, h1, h2⟩ := Option.map_eq_some_iff.1 he
  simp only [Prod.mk.injEq] at h2
  obtain ⟨h2, rfl⟩ := h2
  simp only [runDB, hf, hm, if_true, h1, h2, Bool.and_true, Bool.not_false, Bool.true_or]
  exact h
theorem xsR (hf : o.e.frame = false) (hm : memB i rs = true) (hbl : boxLd φ o = true) (he : (evQ S φ os0 o).map (fun r => (r.1, putO φ o.dst r.2)) = some (ok, φ')) (hok : ok = true) (h : Res (runDB S os0 k rs (i + 1) true φ' id os C last l) K) : Res (runDB S os0 k rs i true φ id os C last (o :: l)) K := by
  subst hok
  obtain ⟨r, h1, h2⟩ := Option.map_eq_some_iff.1 he
  simp only [Prod.mk.injEq] at h2
  obtain ⟨h2, rfl⟩ := h2
  simp only [runDB, hf, hm, hbl, if_true, h1, h2, Bool.and_true, Bool.or_true, Bool.false_eq_true, if_false]
  exact h
theorem xsA (hf : o.e.frame = false) (hm : memB i rs = false) (hk : Nat.ble (i + 1) k = false) (he : (evA S φ os o).map (fun r => (r.1 && boxesB os0 r.2.2, putO φ o.dst r.2.1, r.2.2)) = some (ok, φ', os')) (hok : ok = true) (h : Res (runDB S os0 k rs (i + 1) true φ' id os' C (some os') l) K) : Res (runDB S os0 k rs i true φ id os C last (o :: l)) K := by
  subst hok
  obtain ⟨r, h1, h2⟩ := Option.map_eq_some_iff.1 he
  simp only [Prod.mk.injEq] at h2
  obtain ⟨h2, rfl, rfl⟩ := h2
  have hk' : ¬ i < k := fun h => by have := Nat.ble_eq_true_of_le h; rw [Nat.succ_eq_add_one, hk] at this; cases this
  simp only [runDB, hf, hm, h1, h2, hk', Bool.true_and, Bool.not_false, Bool.true_or, Bool.false_eq_true, if_false]
  exact h
theorem xN (h : Q .normal φ' os') (hk : keep ks φ = φ' := by simp only [keep, memN, Nat.reduceEqDiff, if_true, if_false, ↓reduceIte, Bool.false_eq_true]; rfl) (hl : last.getD (os0 ++ C) = os' := by simp only [Option.getD_none, Option.getD_some, List.append_nil, List.cons_append, List.nil_append]; rfl) : Res (runDB S os0 k rs i true φ id os C last []) (fun φ' os' => Q .normal (keep ks φ') os') := xsN (by rw [hk, hl]; exact h)
theorem xFS (h : Res (runDB S os0 k rs (i + 1) true φ' id os C last l) K) (hf : o.e.frame = true := by rfl) (hm : memB i rs = false := by rfl) (he : (evQ S φ [] o).map (fun r => (r.1, putO φ o.dst r.2)) = some (ok, φ') := by simp only [zC, evQ, evA, avalR, prefB, Ob.beq_refl, stepOp, aval, opv, Ab.get, Ab.put, putO, Nat.reduceEqDiff, ↓reduceIte, D.val, D.cond, reduceCtorEq, Nat.reduceAdd, Nat.add_zero, Nat.zero_add]; rfl) (hok : ok = true := by rfl) : Res (runDB S os0 k rs i true φ id os C last (o :: l)) K := xsF hf hm he hok h
theorem xFG (h : Res (runDB S os0 k rs (i + 1) true φ' id os C last l) K) (hf : o.e.frame = true := by rfl) (hm : memB i rs = false := by rfl) (he : (evQ S φ [] o).map (fun r => (r.1, putO φ o.dst r.2)) = some (ok, φ') := by simp (disch := omega) only [uu, zM, evQ, evA, avalR, prefB, Ob.beq_refl, stepOp, aval, opv, Ab.get, Ab.put, putO, Nat.reduceEqDiff, ↓reduceIte, D.val, D.cond, reduceCtorEq, aact, actT, IE.isCall, D.cells?, Nat.reduceAdd, Nat.reduceLeDiff, Ob.slice?, Nat.reduceSub, Nat.reduceMul, Int.reduceToNat, Int.reduceLE, Int.reduceLT, Int.reduceAdd, Int.reduceSub, Int.reduceMul, Int.reduceNeg, Int.reduceEq, rowsOf, srcOf, okRef, intOf?, partsD, freezeL, freezeD, buildD, slcStrD, slcSlD, optV, zeroO, eqR, eqD, eqFs, eqX, nzD, binD, unD, lenD, evK, evC, evC1, metG, Nat.reduceLT, zO]; rfl) (hok : ok = true := by first | with_reducible rfl | omega | (simp; done) | (simp; omega) | rfl) : Res (runDB S os0 k rs i true φ id os C last (o :: l)) K := xsF hf hm he hok h
theorem xRG (h : Res (runDB S os0 k rs (i + 1) true φ' id os C last l) K) (hf : o.e.frame = false := by rfl) (hm : memB i rs = true := by rfl) (hbl : boxLd φ o = true := by rfl) (he : (evQ S φ os0 o).map (fun r => (r.1, putO φ o.dst r.2)) = some (ok, φ') := by simp (disch := omega) only [uu, zM, evQ, evA, avalR, prefB, Ob.beq_refl, stepOp, aval, opv, Ab.get, Ab.put, putO, Nat.reduceEqDiff, ↓reduceIte, D.val, D.cond, reduceCtorEq, aact, actT, IE.isCall, D.cells?, Nat.reduceAdd, Nat.reduceLeDiff, Ob.slice?, Nat.reduceSub, Nat.reduceMul, Int.reduceToNat, Int.reduceLE, Int.reduceLT, Int.reduceAdd, Int.reduceSub, Int.reduceMul, Int.reduceNeg, Int.reduceEq, rowsOf, srcOf, okRef, intOf?, partsD, freezeL, freezeD, buildD, slcStrD, slcSlD, optV, zeroO, eqR, eqD, eqFs, eqX, nzD, binD, unD, lenD, evK, evC, evC1, metG, Nat.reduceLT, zO]; rfl) (hok : ok = true := by first | with_reducible rfl | omega | (simp; done) | (simp; omega) | rfl) : Res (runDB S os0 k rs i true φ id os C last (o :: l)) K := xsR hf hm hbl he hok h
theorem xAG (h : Res (runDB S os0 k rs (i + 1) true φ' id os' C (some os') l) K) (hf : o.e.frame = false := by rfl) (hm : memB i rs = false := by rfl) (hk : Nat.ble (i + 1) k = false := by rfl) (he : (evA S φ os o).map (fun r => (r.1 && boxesB os0 r.2.2, putO φ o.dst r.2.1, r.2.2)) = some (ok, φ', os') := by simp (disch := omega) only [uu, zM, evQ, evA, avalR, boxesB, Ob.beq_refl, stepOp, aval, opv, Ab.get, Ab.put, putO, Nat.reduceEqDiff, ↓reduceIte, D.val, D.cond, reduceCtorEq, aact, actT, IE.isCall, D.cells?, Nat.reduceAdd, Nat.reduceLeDiff, Ob.slice?, Nat.reduceSub, Nat.reduceMul, Int.reduceToNat, Int.reduceLE, Int.reduceLT, Int.reduceAdd, Int.reduceSub, Int.reduceMul, Int.reduceNeg, Int.reduceEq, rowsOf, srcOf, okRef, intOf?, partsD, freezeL, freezeD, buildD, slcStrD, slcSlD, optV, zeroO, eqR, eqD, eqFs, eqX, nzD, binD, unD, lenD, evK, evC, evC1, metG, Nat.reduceLT, zO]; rfl) (hok : ok = true := by first | with_reducible rfl | omega | (simp; done) | (simp; omega) | rfl) : Res (runDB S os0 k rs i true φ id os C last (o :: l)) K := xsA hf hm hk he hok h
theorem xAC (h : Res (runDB S os0 k rs (i + 1) true φ' id os' C (some os') l) K) (hf : o.e.frame = false := by rfl) (hm : memB i rs = false := by rfl) (hk : Nat.ble (i + 1) k = false := by rfl) (he : (evA S φ os o).map (fun r => (r.1 && boxesB os0 r.2.2, putO φ o.dst r.2.1, r.2.2)) = some (ok, φ', os') := by simp (disch := omega) only [uu, zS, zW, zO, viaNN, viaNNT, D.nn, D.na, addQ, addT, IE.isCall, Nat.reduceAdd, Nat.reduceSub, Nat.reduceMul, Nat.reduceLeDiff, Nat.reduceLT, Nat.reduceBEq, Int.reduceToNat, Int.reduceLE, Int.reduceLT, Int.reduceAdd, Int.reduceSub, Int.reduceMul, Int.reduceNeg, Int.reduceEq, Nat.reduceEqDiff, runOpsA, runDB, stepOp, aval, aact, opv, Ab.get, Ab.put, putO, keep, memN, D.val, D.cond, D.cells?, D.scalar, X.scalar, D.plain, D.isX, binD, bitsD, eqD, eqFs, eqX, unD, intOf?, lenD, okRef, rowsOf, viewD, viewX, freezeD, freezeL, partsD, buildD, slcStrD, slcSlD, Ob.slice?, ↓reduceIte, reduceCtorEq, evQ, evK, evC, evC1, metG, evA, avalR, boxesB, eqR, nzD, actT, callT1, callR1, callK1, valsL, condsL, optV, noTabs, IE.frame, memB, zeroO, IntWalk.i64_in, liftT, reach, idsD, idsL, idsO, idsM, inPr, renP, fpOk, nodupB, inL, D.inP, Ob.inP, renL, D.ren, inv, fpO, Ob.ren, fpF, fpO', setAll, newT, readT]; rfl) (hok : ok = true := by first | with_reducible rfl | omega | (simp; done) | (simp; omega) | rfl) : Res (runDB S os0 k rs i true φ id os C last (o :: l)) K := xsA hf hm hk he hok h
end
section
variable {P : Program} {c : Ctx} {E0 : Env} {os0 os : List Ob} {n : Nat} {Q : Exit → List (Nat × D) → List Ob → Prop} {φ : List (Nat × D)}
end
end Go.Ab
end
section
/- Steps of a walk, many at once: what follows lies in the lemma. -/
set_option linter.unusedVariables false
set_option linter.unusedSimpArgs false
namespace Go.Ab
open Go Go.RowKit Go.Bo
/-- What is still to be shown. -/
structure Bx (B : Prop) : Prop where
  h : B
theorem sd {p : Bool} (h : p = true := by first | with_reducible rfl | omega | (simp; done) | (simp; omega) | rfl | (clear uu; grind)) : p = true := h
section
variable {S : Tabs} {os : List Ob} {φ : List (Nat × D)} {l : List IOp} {K : List (Nat × D) → List Ob → Prop} {d : Option Nat} {g : Option (Nat × Bool)}
theorem oMk {x : IO} (h : Res (runOpsA S true φ os (⟨d, .mv x, none⟩ :: l)) K) : Res (runOpsA S true φ os (⟨d, .mv x, none⟩ :: l)) K := h
theorem oKk {x : IO} (h : Res (runOpsA S true φ os (⟨d, .nck x, none⟩ :: l)) K) : Res (runOpsA S true φ os (⟨d, .nck x, none⟩ :: l)) K := h
theorem oFk {a : Nat} {x : IO} (h : Res (runOpsA S true φ os (⟨d, .fad a x, none⟩ :: l)) K) : Res (runOpsA S true φ os (⟨d, .fad a x, none⟩ :: l)) K := h
theorem oGk {o : IOp} (h : Res (runOpsA S true φ os (o :: l)) K) : Res (runOpsA S true φ os (o :: l)) K := h
theorem oCk {f : IO} {xs : List IO} (h : Res (runOpsA S true φ os (⟨d, .call f xs, g⟩ :: l)) K) : Res (runOpsA S true φ os (⟨d, .call f xs, g⟩ :: l)) K := h
end
section
variable {P : Program} {c : Ctx} {E0 : Env} {os0 os : List Ob} {n : Nat} {Q : Exit → List (Nat × D) → List Ob → Prop} {φ : List (Nat × D)}
/-- What the code's form asks for. -/
theorem nz {A B : Prop} (h : A) (k : Bx A → B := by (intro h; (repeat first | with_reducible refine thenQ_normal ?_ | with_reducible refine WI.seq ?_ | with_reducible refine WI.block ?_ | with_reducible refine WI.skip ?_ | with_reducible refine blockQ_normal ?_ | with_reducible refine jumpQ_normal ?_ | with_reducible refine WI.exit ?_ | with_reducible refine blockQ_hit ?_ | ((with_reducible refine blockQ_miss ?_ ?_); (focus decide)) | with_reducible refine thenQ_exit ?_ | with_reducible refine jumpQ_exit ?_); exact h.h)) : B := k ⟨h⟩
/-- A region. -/
theorem rg {S : Tabs} (hS : SsOk P S) (ks : List Nat) {l : List IOp} {A B : Prop} (h : A) (k : Bx B → Res (runOpsA S true φ os l) (fun φ' os' => Q .normal (Go.Ab.keep ks φ') os') := by (intro h; (repeat first | ((with_reducible refine oMk ?_); refine oS ?_) | ((with_reducible refine oKk ?_); refine oS ?_) | ((with_reducible refine oFk ?_); refine oS ?_) | ((with_reducible refine oGk ?_); (fail_if_success (with_reducible refine oCk ?_)); refine oG ?_) | ((with_reducible refine oCk ?_); refine oC ?_)); refine oN ?_; exact h.h)) (k2 : Bx A → B := by (intro h; refine nz ?_; exact h.h)) : WI P c E0 os0 n (.reg l) Q φ os := WI.regB hS ks (k ⟨k2 ⟨h⟩⟩)
/-- A region, behind which something is done. -/
theorem rgp {S : Tabs} (hS : SsOk P S) (ks : List Nat) {l : List IOp} {A : Prop} (h : A) (k : Bx A → Res (runOpsA S true φ os l) (fun φ' os' => ∃ φ2 os2, Wk c E0 os0 n (Go.Ab.keep ks φ') os' φ2 os2 ∧ Q .normal φ2 os2) := by (intro h; (repeat first | ((with_reducible refine oMk ?_); refine oS ?_) | ((with_reducible refine oKk ?_); refine oS ?_) | ((with_reducible refine oFk ?_); refine oS ?_) | ((with_reducible refine oGk ?_); (fail_if_success (with_reducible refine oCk ?_)); refine oG ?_) | ((with_reducible refine oCk ?_); refine oC ?_)); refine oP ?_; exact h.h)) : WI P c E0 os0 n (.reg l) Q φ os := WI.post (WI.regB hS ks (k ⟨h⟩))
/-- Two ways. -/
theorem cd {x : IO} {y z : IC} {b : Bool} {p q A B : Prop} (ht : p → A) (he : q → B) (hv : (opv φ x).val = .x (.bool b) := by exact rfl) (hcd : (opv φ x).cond = true := by exact rfl) (hp : b = true → p := by (intro h; first | (simp only [zB] at h; exact h) | exact h)) (hq : b = false → q := by (intro h; first | (simp only [zB] at h; exact h) | exact h)) (kA : Bx A → WI P c E0 os0 n y Q φ os := by (intro h; refine nz ?_; exact h.h)) (kB : Bx B → WI P c E0 os0 n z Q φ os := by (intro h; refine nz ?_; exact h.h)) : WI P c E0 os0 n (.cond x y z) Q φ os :=
  WI.cond hv hcd (fun h => kA ⟨ht (hp h)⟩) (fun h => kB ⟨he (hq h)⟩)
/-- Two ways, of which the first is none. -/
theorem ce {x : IO} {y z : IC} {b : Bool} {q B : Prop} (ht : b = true → False) (he : q → B) (hv : (opv φ x).val = .x (.bool b) := by exact rfl) (hcd : (opv φ x).cond = true := by exact rfl) (hq : b = false → q := by (intro h; first | (simp only [zB] at h; exact h) | exact h)) (kB : Bx B → WI P c E0 os0 n z Q φ os := by (intro h; refine nz ?_; exact h.h)) : WI P c E0 os0 n (.cond x y z) Q φ os :=
  WI.cond hv hcd (fun h => (ht h).elim) (fun h => kB ⟨he (hq h)⟩)
/-- Two ways, of which the second is none. -/
theorem ct {x : IO} {y z : IC} {b : Bool} {p A : Prop} (ht : p → A) (he : b = false → False) (hv : (opv φ x).val = .x (.bool b) := by exact rfl) (hcd : (opv φ x).cond = true := by exact rfl) (hp : b = true → p := by (intro h; first | (simp only [zB] at h; exact h) | exact h)) (kA : Bx A → WI P c E0 os0 n y Q φ os := by (intro h; refine nz ?_; exact h.h)) : WI P c E0 os0 n (.cond x y z) Q φ os :=
  WI.cond hv hcd (fun h => kA ⟨ht (hp h)⟩) (fun h => (he h).elim)
/-- The end. -/
theorem lf {A : Prop} (h : A) (k : Bx A → WI P c E0 os0 n .ret Q φ os := by (intro h; refine WI.ret ?_; (repeat first | with_reducible refine thenQ_ret ?_ | with_reducible refine blockQ_ret ?_ | with_reducible refine jumpQ_ret ?_); (first | refine lfR ?_ | refine lfR2 ?_); exact h.h)) : WI P c E0 os0 n .ret Q φ os := k ⟨h⟩
end
end Go.Ab
end
