/- Statements whose order is open (4): any order is the text's. -/
import Derived.Test.YtogmbfaijmhamaaAb19
namespace Go.Ab
open Go.RowKit Go.Bo

/-- What the looks say. -/
structure Draw (ops : List Oper) (il : List IOp) (k : Nat) (rs : List Nat) : Prop where
  back : ∀ (i : Nat) (o : Oper), ops[i]? = some o → ∀ j ∈ aft o, j < i
  own : ∀ (i j : Nat) (x y : IOp) (t : Nat), il[i]? = some x → il[j]? = some y → x.dst = some t → y.dst = some t → i = j
  reads : ∀ (i j : Nat) (x y : IOp) (t : Nat) (o p : Oper), il[i]? = some x → il[j]? = some y → ops[i]? = some o → ops[j]? = some p → t ∈ x.reads → y.dst = some t → (j < i ∧ j ∈ aft o) ∨ (i < j ∧ i ∈ aft p)
  tail : ∀ (i : Nat) (o : Oper) (x : IOp), k ≤ i → ops[i]? = some o → il[i]? = some x → x.ex rs i = false → ∀ dn, Closed ops dn → (∀ j ∈ aft o, dn j = true) → ∀ (j : Nat) (y : IOp), j < i → il[j]? = some y → y.ex rs j = false → dn j = true

theorem Draw.of {ops : List Oper} {il : List IOp} {k : Nat} {rs : List Nat} (h : drawOk ops il k rs = true) : Draw ops il k rs := by
  simp only [drawOk, Bool.and_eq_true] at h
  obtain ⟨h2, h3, h4, h5⟩ := h
  have back : ∀ (i : Nat) (o : Oper), ops[i]? = some o → ∀ j ∈ aft o, j < i := fun i o ho j hj => by
    have := backB_spec h2 i o ho j hj
    omega
  have zt : ∀ (i : Nat) (x : IOp) (o : Oper), il[i]? = some x → ops[i]? = some o → (il.zip ops)[i]? = some (x, o) := fun i x o hx ho => List.getElem?_zip_eq_some.2 ⟨hx, ho⟩
  refine ⟨back, fun i j x y t hx hy hd he => ownB_spec h3 i j x y t hx hy hd he, fun i j x y t o p hx hy ho hp ht hd => ?_, fun i o x hi ho hx hf dn hcl hd j y hj hy hyf => ?_⟩
  · have := rdB1_spec (rdB_spec h4 i x o (zt i x o hx ho)) j y p t (zt j y p hy hp) hd ht
    simpa using this
  · have hlt := (List.getElem?_eq_some_iff.1 ho).1
    obtain ⟨b1, b2⟩ := below_get ops [] [] rfl (fun i c hc => by simp at hc) (by simpa using back)
    simp only [List.nil_append] at b1 b2
    have hc : (below [] ops)[i]? = some ((below [] ops)[i]'(by omega)) := List.getElem?_eq_getElem _
    have := (tailB_spec h5 i _ x hc hx (by rw [Nat.zero_add]; exact hf) (by omega)).2 j y hj hy (by rw [Nat.zero_add]; exact hyf)
    rw [Nat.zero_add] at this
    exact b2 i _ hc dn hcl (by rw [ho]; exact List.all_eq_true.2 hd) j this

theorem countP_lt {p q : Nat → Bool} : ∀ {l : List Nat} {i : Nat}, i ∈ l → p i = true → q i = false → (∀ j, q j = true → p j = true) → l.countP q < l.countP p
  | [], i, h, _, _, _ => by cases h
  | x :: l, i, h, hp, hq, hqp => by
    have hle : l.countP q ≤ l.countP p := List.countP_mono_left (fun j _ hj => hqp j hj)
    rcases List.mem_cons.1 h with rfl | h
    · rw [List.countP_cons_of_neg (by simp [hq]), List.countP_cons_of_pos hp]; omega
    · have := countP_lt h hp hq hqp
      by_cases hx : q x = true
      · rw [List.countP_cons_of_pos hx, List.countP_cons_of_pos (hqp x hx)]; omega
      · rw [List.countP_cons_of_neg (by simpa using hx)]
        by_cases hx2 : p x = true
        · rw [List.countP_cons_of_pos hx2]; omega
        · rw [List.countP_cons_of_neg (by simpa using hx2)]; exact this

theorem push_dead {c : Ctx} : ∀ (F : List Rec) (i : Nat) {E : Env} {os : List Ob}, Rel c E os → ∃ E', E'.w = E.w ∧ Rel c E' (os ++ crs F (fun _ => false) i) ∧ Evo E os E' (os ++ crs F (fun _ => false) i)
  | [], i, E, os, R => ⟨E, rfl, by simpa [crs] using R, by simpa [crs] using Evo.refl E os⟩
  | (dst, d, none) :: l, i, E, os, R => by simp only [crs]; exact push_dead l (i + 1) R
  | (dst, d, some ob) :: l, i, E, os, R => by
    obtain ⟨R1, e1⟩ := R.push E.w .dead (0, undef) (Kept.refl _ _) (fun b hb => by cases hb) (fun _ => trivial)
    obtain ⟨E', h1, h2, h3⟩ := push_dead l (i + 1) R1
    refine ⟨E', h1, ?_, ?_⟩
    · simp only [crs, Bool.false_eq_true, if_false]; rw [List.append_assoc] at h2; exact h2
    · simp only [crs, Bool.false_eq_true, if_false]; rw [List.append_assoc] at h3; exact e1.trans h3

theorem getD_set (l : Array Bool) (i j : Nat) (hi : i < l.size) : (l.setIfInBounds i true).getD j false = (l.getD j false || decide (j = i)) := by
  rw [Array.getD_eq_getD_getElem?, Array.getD_eq_getD_getElem?, Array.getElem?_setIfInBounds]
  by_cases h : i = j
  · subst h; simp [hi]
  · have h2 : ¬ j = i := fun e => h e.symm
    simp [h, h2]

section
variable {P : Program} {S : Tabs} {c : Ctx} {n : Nat} {Q : Exit → Act → World → Prop} {ops : Array Oper} {il : List IOp} {k : Nat} {rs : List Nat} {E0 : Env} {os0 : List Ob}

theorem ready_iff {listed : Array Bool} (hsz : listed.size = ops.size) {i : Nat} : i ∈ Region.ready .any ops listed ↔ listed.getD i false = false ∧ ∃ o, ops.toList[i]? = some o ∧ ∀ j ∈ aft o, listed.getD j false = true := by
  rw [mem_ready]
  constructor
  · rintro ⟨h1, o, ho, h2⟩
    have hi : i < listed.size := by rw [hsz]; exact (Array.getElem?_eq_some_iff.1 ho).1
    refine ⟨?_, o, by simpa using ho, fun j hj => ?_⟩
    · simpa [Array.getD_eq_getD_getElem?, hi] using h1
    · obtain ⟨e, he, rfl⟩ := List.mem_map.1 hj
      have := List.mem_filter.1 he
      exact h2 e (by simpa using this.1) this.2
  · rintro ⟨h1, o, ho, h2⟩
    have ho' : ops[i]? = some o := by simpa using ho
    have hi : i < listed.size := by rw [hsz]; exact (Array.getElem?_eq_some_iff.1 ho').1
    refine ⟨by simpa [Array.getD_eq_getD_getElem?, hi] using h1, o, ho', fun e he hb => h2 e.on (List.mem_map.2 ⟨e, List.mem_filter.2 ⟨by simpa using he, hb⟩, rfl⟩)⟩

theorem wpOp_of {i : Nat} {o : Oper} (ho : ops.toList[i]? = some o) {K : Act → World → Prop} {a : Act} {w : World} (h : if Region.wanted o (yielded ops a.tmps) then o.wp P a w K Q else K (a.put o.dst undef) w) : wpOp P ops Q i K a w := by
  unfold wpOp
  have ho' : ops[i]? = some o := by simpa using ho
  rw [ho']
  simp only
  split
  · rename_i hw; rw [if_pos hw] at h; exact .inl h
  · rename_i hw; rw [if_neg hw] at h; exact h

theorem least_of {k : Nat} {f : Nat → Bool} (h : ∃ j, j < k ∧ f j = false) : ∃ j, (j < k ∧ f j = false) ∧ ∀ i, i < j → f i = true := by
  obtain ⟨j, hj⟩ := h
  induction j using Nat.strongRecOn with
  | _ j ihj =>
    by_cases h : ∃ i, i < j ∧ f i = false
    · obtain ⟨i, hi, hi2⟩ := h
      exact ihj i hi ⟨by omega, hi2⟩
    · exact ⟨j, hj, fun i hi => by
        cases hb : f i with
        | true => rfl
        | false => exact absurd ⟨i, hi, hb⟩ h⟩

/-- The objects when these have come. -/
def obs (os0 : List Ob) (F : List Rec) (G : List (Option (List Ob))) (dn : Nat → Bool) : List Ob := lookS G dn 0 (os0 ++ crs F dn 0)

theorem crs_mk : ∀ (F : List Rec) (dn : Nat → Bool) (i : Nat), (∀ (j : Nat) (t : Option Nat) (d : D) (x : Ob), F[j]? = some (t, d, some x) → dn (i + j) = true) → crs F dn i = recO F
  | [], _, _, _ => rfl
  | (dst, d, none) :: l, dn, i, h => by
    simp only [crs, recO]
    exact crs_mk l dn (i + 1) (fun j t d x hj => by have := h (j + 1) t d x (by simpa using hj); rw [show i + 1 + j = i + (j + 1) by omega]; exact this)
  | (dst, d, some ob) :: l, dn, i, h => by
    simp only [crs, recO]
    have h0 := h 0 _ _ _ rfl
    rw [Nat.add_zero] at h0
    rw [h0, crs_mk l dn (i + 1) (fun j t d x hj => by have := h (j + 1) t d x (by simpa using hj); rw [show i + 1 + j = i + (j + 1) by omega]; exact this)]
    rfl
theorem recO_take : ∀ (F : List Rec) (m : Nat), (∀ (j : Nat) (t : Option Nat) (d : D) (x : Ob), F[j]? = some (t, d, some x) → j < m) → recO (F.take m) = recO F
  | [], m, _ => by simp [recO]
  | (dst, d, none) :: l, 0, h => by
    have := recO_take l 0 (fun j t d x hj => by have := h (j + 1) t d x (by simpa using hj); omega)
    simp only [List.take_zero, recO] at this ⊢
    exact this
  | (dst, d, some ob) :: l, 0, h => by have := h 0 _ _ _ rfl; omega
  | (dst, d, none) :: l, m + 1, h => by
    simp only [List.take_succ_cons, recO]
    exact recO_take l m (fun j t d x hj => by have := h (j + 1) t d x (by simpa using hj); omega)
  | (dst, d, some ob) :: l, m + 1, h => by
    simp only [List.take_succ_cons, recO]
    rw [recO_take l m (fun j t d x hj => by have := h (j + 1) t d x (by simpa using hj); omega)]
theorem lookS_take : ∀ (G : List (Option (List Ob))) (m i : Nat) (b : List Ob), lookS G (fun j => decide (j < i + m)) i b = lookS (G.take m) (fun _ => true) i b
  | [], m, i, b => by simp [lookS]
  | g :: l, 0, i, b => by
    simp only [List.take_zero, lookS, Nat.add_zero]
    exact lookS_none _ _ _ _ (fun j x _ => by simp)
  | none :: l, m + 1, i, b => by
    simp only [List.take_succ_cons, lookS]
    rw [← lookS_take l m (i + 1) b]
    exact lookS_congr l _ _ _ _ (fun j x _ => by congr 1; simp; omega)
  | some x :: l, m + 1, i, b => by
    have : decide (i < i + (m + 1)) = true := by simp
    simp only [List.take_succ_cons, lookS, this, if_true]
    rw [← lookS_take l m (i + 1) x]
    exact lookS_congr l _ _ _ _ (fun j x _ => by congr 1; simp; omega)

theorem nearQ_inv {φ : List (Nat × D)} {os : List Ob} {o : IOp} {d : D} (h : nearQ φ os o = some (true, d)) :
    ∃ u id ext off len rs, o.g = none ∧ o.e = .b2s (.t u) ∧ Go.Ab.get φ u = .ref id ext off len ∧ rowsOf os (.ref id ext off len) = some rs ∧ rs.all isByte = true ∧ d = .x (.str (rs.map rowByte)) := by
  unfold nearQ at h
  split at h
  · rename_i u hg he
    split at h
    · rename_i id ext off len hx
      obtain ⟨rs, h1, h2⟩ := Option.map_eq_some_iff.1 h
      simp only [Prod.mk.injEq] at h2
      exact ⟨u, id, ext, off, len, rs, hg, he, hx, h1, h2.1, h2.2.symm⟩
    · cases h
  · cases h
theorem rowsOf_eq {os os' : List Ob} {id ext off len : Nat} {r : List (List X)} (h : os'[id]? = os[id]?) (hr : rowsOf os (.ref id ext off len) = some r) : rowsOf os' (.ref id ext off len) = some r := by
  simp only [rowsOf] at hr ⊢
  rw [h]; exact hr
theorem crs_or : ∀ (F : List Rec) (dn : Nat → Bool) (i p : Nat) (x : Ob), (crs F dn i)[p]? = some x → x = .dead ∨ (recO F)[p]? = some x
  | [], _, _, p, x, h => by simp [crs] at h
  | (dst, d, none) :: l, dn, i, p, x, h => by simp only [crs] at h; simp only [recO]; exact crs_or l dn (i + 1) p x h
  | (dst, d, some ob) :: l, dn, i, p, x, h => by
    simp only [crs] at h
    simp only [recO]
    cases p with
    | zero =>
      simp at h
      split at h
      · exact .inr (by simp [h])
      · exact .inl h.symm
    | succ p => exact crs_or l dn (i + 1) p x (by simpa using h)
theorem recO_pre : ∀ (F : List Rec) (m p : Nat) (x : Ob), (recO (F.take m))[p]? = some x → (recO F)[p]? = some x
  | [], m, p, x, h => by simp [recO] at h
  | r :: l, 0, p, x, h => by simp [recO] at h
  | (dst, d, none) :: l, m + 1, p, x, h => by
    simp only [List.take_succ_cons, recO] at h ⊢
    exact recO_pre l m p x h
  | (dst, d, some ob) :: l, m + 1, p, x, h => by
    simp only [List.take_succ_cons, recO] at h ⊢
    cases p with
    | zero => simpa using h
    | succ p => exact recO_pre l m p x (by simpa using h)
/-- Any order is the text's. -/
theorem draw_any (hS : SsOk P S) (D0 : Draw ops.toList il k rs) (hcomp : ops.toList.mapM (compOper P n ops) = some il) {φ0 : List (Nat × D)} {F : List Rec} {G : List (Option (List Ob))} (hrun : runR S os0 k rs 0 φ0 os0.length os0 il = some (true, F, G)) (hpre : preG rs os0 G = true)
    (hQ : ∀ E' a', Rel c E' (lookS G (fun _ => true) 0 (os0 ++ recO F)) → Evo E0 os0 E' (lookS G (fun _ => true) 0 (os0 ++ recO F)) → Fr n E' (lookS G (fun _ => true) 0 (os0 ++ recO F)) (recφ φ0 F) a' → Q .normal a' E'.w) :
    ∀ (fuel : Nat) (listed : Array Bool) (a : Act) (E : Env), listed.size = ops.size → Closed ops.toList (fun j => listed.getD j false) → (List.range ops.size).countP (fun j => !listed.getD j false) ≤ fuel →
      Rel c E (obs os0 F G (fun j => listed.getD j false)) → Evo E0 os0 E (obs os0 F G (fun j => listed.getD j false)) → a.tmps.size = n → a.defers = [] → (∀ t, V E (obs os0 F G (fun j => listed.getD j false)) (look F (fun j => listed.getD j false) 0 (Go.Ab.get φ0 t) t) (a.tmps.getD t undef)) →
      wpAny P .any ops Q fuel listed a E.w := by
  obtain ⟨hlen, hat⟩ := mapM_get hcomp
  simp only [Array.length_toList] at hlen
  obtain ⟨hFl, hGl, hF⟩ := runR_at hrun
  simp only [Nat.zero_add] at hF
  -- records
  have rec_of : ∀ (j : Nat) (r : Rec), F[j]? = some r → ∃ y, il[j]? = some y ∧ y.dst = r.1 := by
    intro j r hj
    have hjl := (List.getElem?_eq_some_iff.1 hj).1
    have hy : il[j]? = some (il[j]'(by omega)) := List.getElem?_eq_getElem _
    obtain ⟨d, x, s, h1, _⟩ := hF j _ hy
    rw [hj] at h1; cases h1
    exact ⟨_, hy, rfl⟩
  have st_of : ∀ (j : Nat) (x : List Ob), G[j]? = some (some x) → ∃ y, il[j]? = some y ∧ y.ex rs j = false ∧ k ≤ j := by
    intro j x hj
    have hjl := (List.getElem?_eq_some_iff.1 hj).1
    have hy : il[j]? = some (il[j]'(by omega)) := List.getElem?_eq_getElem _
    obtain ⟨d, x', s, _, h2, h3⟩ := hF j _ hy
    rw [hj] at h2; cases h2
    cases h3 with
    | turn hf hk h => exact ⟨_, hy, hf, hk⟩
  have mk_of : ∀ (j : Nat) (t : Option Nat) (d : D) (x : Ob), F[j]? = some (t, d, some x) → ∃ y, il[j]? = some y ∧ y.ex rs j = false ∧ j < k := by
    intro j t d x hj
    have hjl := (List.getElem?_eq_some_iff.1 hj).1
    have hy : il[j]? = some (il[j]'(by omega)) := List.getElem?_eq_getElem _
    obtain ⟨d', x', s, h1, _, h3⟩ := hF j _ hy
    rw [hj] at h1; cases h1
    cases h3 with
    | make hf hk h => exact ⟨_, hy, hf, hk⟩
  have oper_of : ∀ j, j < ops.size → ∃ o, ops.toList[j]? = some o := fun j hj => ⟨ops[j], by simp [hj]⟩
  -- when all have come
  have fin : ∀ (listed : Array Bool) (a : Act) (E : Env), listed.size = ops.size → Rel c E (obs os0 F G (fun j => listed.getD j false)) → Evo E0 os0 E (obs os0 F G (fun j => listed.getD j false)) → a.tmps.size = n → a.defers = [] → (∀ t, V E (obs os0 F G (fun j => listed.getD j false)) (look F (fun j => listed.getD j false) 0 (Go.Ab.get φ0 t) t) (a.tmps.getD t undef)) →
      (Region.ready .any ops listed = [] → Q .normal a E.w) := by
    intro listed a E hsz R ev h1 h2 h3 hr
    have all : ∀ j, j < ops.size → listed.getD j false = true := by
      intro j hj
      cases hb : listed.getD j false with
      | true => rfl
      | false =>
        exfalso
        obtain ⟨j0, ⟨hj0, hj1⟩, hj2⟩ := least_of (k := ops.size) (f := fun j => listed.getD j false) ⟨j, hj, hb⟩
        have : j0 ∈ Region.ready .any ops listed := (ready_iff hsz).2 ⟨hj1, ops[j0]'(by omega), by simp, fun j hj => hj2 j (D0.back j0 _ (by simp) j hj)⟩
        rw [hr] at this; cases this
    have e1 : obs os0 F G (fun j => listed.getD j false) = lookS G (fun _ => true) 0 (os0 ++ recO F) := by
      unfold obs
      rw [crs_all F _ 0 (fun j r hj => by rw [Nat.zero_add]; exact all j (by have := (List.getElem?_eq_some_iff.1 hj).1; omega))]
      exact lookS_congr G _ _ _ _ (fun j x hj => by rw [Nat.zero_add]; exact all j (by have := (List.getElem?_eq_some_iff.1 hj).1; omega))
    rw [e1] at R ev h3
    refine hQ E a R ev ⟨h1, h2, fun t => ?_⟩
    have := look_seq F φ0 F.length 0 t
    rw [List.take_length] at this
    rw [this]
    have e : look F (fun j => decide (j < 0 + F.length)) 0 (Go.Ab.get φ0 t) t = look F (fun j => listed.getD j false) 0 (Go.Ab.get φ0 t) t := look_congr F _ _ _ _ _ (fun j d o hj => by
      have hjl := (List.getElem?_eq_some_iff.1 hj).1
      simp only [Nat.zero_add, hjl, decide_true, all j (by omega)])
    rw [e]; exact h3 t
  intro fuel
  induction fuel with
  | zero =>
    intro listed a E hsz hcl hfu R ev h1 h2 h3
    have hr : Region.ready .any ops listed = [] := by
      apply List.eq_nil_iff_forall_not_mem.2
      intro i hi
      obtain ⟨g1, o, ho, _⟩ := (ready_iff hsz).1 hi
      have hlt : i < ops.size := by have := (List.getElem?_eq_some_iff.1 ho).1; simpa using this
      have h0 : (List.range ops.size).countP (fun j => !listed.getD j false) = 0 := by omega
      have := List.countP_eq_zero.1 h0 i (List.mem_range.2 hlt)
      rw [g1] at this; simp at this
    exact ⟨hr, fin listed a E hsz R ev h1 h2 h3 hr⟩
  | succ fuel ih =>
    intro listed a E hsz hcl hfu R ev h1 h2 h3
    refine ⟨fin listed a E hsz R ev h1 h2 h3, fun i hi => ?_⟩
    obtain ⟨g1, o, ho, g2⟩ := (ready_iff hsz).1 hi
    have hlt : i < ops.size := by have := (List.getElem?_eq_some_iff.1 ho).1; simpa using this
    have hil : il[i]? = some (il[i]'(by omega)) := List.getElem?_eq_getElem _
    have hio := hat i o _ ho hil
    obtain ⟨d, x, s, hFi, hGi, hst⟩ := hF i _ hil
    generalize hioe : il[i]'(by omega) = io at *
    -- what the operation looks at is what it was in the text's order
    have hlook : ∀ t ∈ io.reads, Go.Ab.get (recφ φ0 (F.take i)) t = look F (fun j => listed.getD j false) 0 (Go.Ab.get φ0 t) t := by
      intro t ht
      rw [look_seq F φ0 i 0 t]
      refine look_congr F _ _ _ _ _ (fun j d' o' hj => ?_)
      obtain ⟨y, hy, hyd⟩ := rec_of j _ hj
      have hjl : j < ops.size := by have := (List.getElem?_eq_some_iff.1 hy).1; omega
      obtain ⟨p, hp⟩ := oper_of j hjl
      simp only [Nat.zero_add]
      rcases D0.reads i j io y t o p hil hy ho hp ht hyd with ⟨w1, w2⟩ | ⟨w1, w2⟩
      · rw [g2 j w2]; simpa using w1
      · have : listed.getD j false = false := by
          cases hb : listed.getD j false with
          | false => rfl
          | true =>
            have h9 : listed.getD i false = true := hcl j _ hp hb i w2
            rw [g1] at h9; cases h9
        rw [this]; simp; omega
    let φs : List (Nat × D) := io.reads.map fun t => (t, look F (fun j => listed.getD j false) 0 (Go.Ab.get φ0 t) t)
    have hget : ∀ t, Go.Ab.get φs t = look F (fun j => listed.getD j false) 0 (Go.Ab.get φ0 t) t ∨ (Go.Ab.get φs t = .und ∧ t ∉ io.reads) := by
      intro t
      have key : ∀ l : List Nat, Go.Ab.get (l.map fun t => (t, look F (fun j => listed.getD j false) 0 (Go.Ab.get φ0 t) t)) t = if t ∈ l then look F (fun j => listed.getD j false) 0 (Go.Ab.get φ0 t) t else .und := by
        intro l
        induction l with
        | nil => rfl
        | cons u l ihl =>
          simp only [List.map_cons, Go.Ab.get, List.mem_cons]
          by_cases hu : u = t
          · subst hu; simp
          · have : ¬ t = u := fun e => hu e.symm
            simp only [hu, if_false, ihl, this, false_or]
      rw [key io.reads]
      by_cases ht : t ∈ io.reads
      · rw [if_pos ht]; exact .inl rfl
      · rw [if_neg ht]; exact .inr ⟨rfl, ht⟩
    have hfs : Fr n E (obs os0 F G (fun j => listed.getD j false)) φs a := ⟨h1, h2, fun t => by
      rcases hget t with h | ⟨h, _⟩ <;> rw [h]
      · exact h3 t
      · exact .und _⟩
    have hagree : ∀ t ∈ io.reads, Go.Ab.get φs t = Go.Ab.get (recφ φ0 (F.take i)) t := fun t ht => by
      rw [hlook t ht]
      rcases hget t with h | ⟨_, h⟩
      · exact h
      · exact absurd ht h
    have hdst : io.dst = o.dst ∧ (o.dst.all fun t => decide (t < n)) = true := by
      simp only [compOper, Option.bind_eq_some_iff] at hio
      obtain ⟨e, he, hc⟩ := hio
      split at hc
      · rename_i hd
        split at hc
        · cases hc; exact ⟨rfl, hd⟩
        · obtain ⟨s, _, hc⟩ := Option.map_eq_some_iff.1 hc
          cases hc; exact ⟨rfl, hd⟩
      · cases hc
    have huniq : ∀ (j u : Nat) (d' : D) (o' : Option Ob), F[j]? = some (some u, d', o') → io.dst = some u → j = i := by
      intro j u d' o' hj hd
      obtain ⟨y, hy, hyd⟩ := rec_of j _ hj
      exact (D0.own i j io y u hil hy hd hyd).symm
    have hnext : (fun j => (listed.setIfInBounds i true).getD j false) = fun j => listed.getD j false || decide (j = 0 + i) := by
      funext j; rw [getD_set _ _ _ (by omega), Nat.zero_add]
    have step : ∀ (v : Value) (E' : Env) (os' : List Ob), os' = obs os0 F G (fun j => (listed.setIfInBounds i true).getD j false) → Rel c E' os' → Evo E (obs os0 F G (fun j => listed.getD j false)) E' os' → V E' os' d v →
        wpAny P .any ops Q fuel (listed.setIfInBounds i true) (a.put o.dst v) E'.w := by
      intro v E' os' hos R' e' hv
      subst hos
      refine ih _ _ E' (by simp [hsz]) ?_ ?_ R' (ev.trans e') ?_ (by cases hd : o.dst <;> simp [Act.put, h2]) (fun t => ?_)
      · intro q p hp hq j hj
        show (listed.setIfInBounds i true).getD j false = true
        replace hq : (listed.setIfInBounds i true).getD q false = true := hq
        rw [getD_set _ _ _ (by omega)] at hq ⊢
        by_cases hqi : q = i
        · subst hqi
          rw [ho] at hp; cases hp
          rw [g2 j hj]; rfl
        · simp only [hqi, decide_false, Bool.or_false] at hq
          have h9 : listed.getD j false = true := hcl q p hp hq j hj
          rw [h9]; rfl
      · have hlt' : (List.range ops.size).countP (fun j => !(listed.setIfInBounds i true).getD j false) < (List.range ops.size).countP (fun j => !listed.getD j false) :=
          countP_lt (List.mem_range.2 hlt) (by rw [g1]; rfl) (by rw [getD_set _ _ _ (by omega)]; simp) (fun j hj => by
            rw [getD_set _ _ _ (by omega)] at hj
            simp only [Bool.not_or, Bool.and_eq_true] at hj
            exact hj.1)
        omega
      · cases hd : o.dst with
        | none => exact h1
        | some t => simp [Act.put, h1]
      · rw [hnext, look_add F _ 0 _ i io.dst d x t hFi huniq, ← hnext]
        by_cases ht : io.dst = some t
        · rw [if_pos ht]
          rw [← hdst.1, ht]
          have : (a.put (some t) v).tmps.getD t undef = v := by
            have hb : t < n := by have := hdst.2; rw [← hdst.1, ht] at this; simpa using this
            simp [Act.put, Array.getD_eq_getD_getElem?, h1, hb]
          rw [this]; exact hv
        · rw [if_neg ht]
          have : (a.put o.dst v).tmps.getD t undef = a.tmps.getD t undef := by
            rw [← hdst.1]
            cases hd : io.dst with
            | none => rfl
            | some u =>
              have hne : u ≠ t := fun e => ht (by rw [hd, e])
              simp [Act.put, Array.getD_eq_getD_getElem?, hne]
          rw [this]
          exact (h3 t).mono e'
    have hsm : ∀ j, listed.getD j false = true → j ≠ i := fun j hj e => by subst e; rw [g1] at hj; cases hj
    refine wpOp_of ho ?_
    -- a state of one that turns objects: not yet, if an earlier one has not come
    have later : io.ex rs i = false → ∀ (j : Nat) (x' : List Ob), i < j → G[j]? = some (some x') → listed.getD j false = false := by
      intro hf j x' hij hj
      obtain ⟨y, hy, hyf, hkj⟩ := st_of j x' hj
      have hjl : j < ops.size := by have := (List.getElem?_eq_some_iff.1 hy).1; omega
      obtain ⟨p, hp⟩ := oper_of j hjl
      cases hb : listed.getD j false with
      | false => rfl
      | true =>
        have h9 : listed.getD i false = true := D0.tail j p y hkj hp hy hyf _ hcl (hcl j p hp hb) i io hij hil hf
        rw [g1] at h9; cases h9
    cases hst with
    | frame hf hq =>
      have hos : obs os0 F G (fun j => (listed.setIfInBounds i true).getD j false) = obs os0 F G (fun j => listed.getD j false) := by
        unfold obs
        rw [hnext, crs_quiet F _ 0 i io.dst d hFi]
        refine lookS_congr G _ _ _ _ (fun j x' hj => ?_)
        have : j ≠ i := fun e => by subst e; rw [hGi] at hj; cases hj
        simp [this]
      rw [← evQ_congr S [] hagree] at hq
      exact evQ_ok (os := []) (Y := obs os0 F G (fun j => listed.getD j false)) hS R hfs hio hq (fun v E' R' e' hv => step v E' _ hos.symm R' e' hv)
    | look hf hq =>
      have hG : ∀ (j : Nat) (x : List Ob), G[j]? = some (some x) → ∃ Y, x = os0 ++ Y := by
        cases rs with
        | nil => cases hf
        | cons r rs => exact allP_spec hpre
      obtain ⟨Y, hY⟩ := lookS_pref (fun j => listed.getD j false) 0 (os0 ++ crs F (fun j => listed.getD j false) 0) hG ⟨_, rfl⟩
      have hob : obs os0 F G (fun j => listed.getD j false) = os0 ++ Y := hY
      have hos : obs os0 F G (fun j => (listed.setIfInBounds i true).getD j false) = obs os0 F G (fun j => listed.getD j false) := by
        unfold obs
        rw [hnext, crs_quiet F _ 0 i io.dst d hFi]
        refine lookS_congr G _ _ _ _ (fun j x' hj => ?_)
        have : j ≠ i := fun e => by subst e; rw [hGi] at hj; cases hj
        simp [this]
      rw [← evQ_congr S os0 hagree] at hq
      rw [hob] at R hfs
      exact evQ_ok hS R hfs hio hq (fun v E' R' e' hv => step v E' _ (by rw [hos, hob]) R' (by rw [hob]; exact e') hv)
    | read hf hk hq =>
      have no : ∀ (j : Nat) (x' : List Ob), G[j]? = some (some x') → listed.getD j false = false := fun j x' hj => by
        obtain ⟨_, _, _, hkj⟩ := st_of j x' hj
        exact later hf j x' (by omega) hj
      have hob : obs os0 F G (fun j => listed.getD j false) = os0 ++ crs F (fun j => listed.getD j false) 0 := lookS_none G _ 0 _ (fun j x' hj => by rw [Nat.zero_add]; exact no j x' hj)
      have hos : obs os0 F G (fun j => (listed.setIfInBounds i true).getD j false) = obs os0 F G (fun j => listed.getD j false) := by
        unfold obs
        rw [hnext, crs_quiet F _ 0 i io.dst d hFi]
        refine lookS_congr G _ _ _ _ (fun j x' hj => ?_)
        have : j ≠ i := fun e => by subst e; rw [hGi] at hj; cases hj
        simp [this]
      rw [← evQ_congr S os0 hagree] at hq
      rw [hob] at R hfs
      exact evQ_ok hS R hfs hio hq (fun v E' R' e' hv => step v E' _ (by rw [hos, hob]) R' (by rw [hob]; exact e') hv)
    | near hf hk hq =>
      have no : ∀ (j : Nat) (x' : List Ob), G[j]? = some (some x') → listed.getD j false = false := fun j x' hj => by
        obtain ⟨_, _, _, hkj⟩ := st_of j x' hj
        exact later hf j x' (by omega) hj
      have hob : obs os0 F G (fun j => listed.getD j false) = os0 ++ crs F (fun j => listed.getD j false) 0 := lookS_none G _ 0 _ (fun j x' hj => by rw [Nat.zero_add]; exact no j x' hj)
      have hos : obs os0 F G (fun j => (listed.setIfInBounds i true).getD j false) = obs os0 F G (fun j => listed.getD j false) := by
        unfold obs
        rw [hnext, crs_quiet F _ 0 i io.dst d hFi]
        refine lookS_congr G _ _ _ _ (fun j x' hj => ?_)
        have : j ≠ i := fun e => by subst e; rw [hGi] at hj; cases hj
        simp [this]
      have hcur : lookS (G.take i) (fun _ => true) 0 (os0 ++ recO (F.take i)) = os0 ++ recO (F.take i) := by
        rw [← lookS_take G i 0]
        refine lookS_none G _ 0 _ (fun j x' hj => ?_)
        obtain ⟨_, _, _, hkj⟩ := st_of j x' hj
        simp; omega
      rw [hcur] at hq
      obtain ⟨u, id, ext, off, len, rs', hg, he, hx, hr, hb, rfl⟩ := nearQ_inv hq
      have hx' : Go.Ab.get φs u = .ref id ext off len := by
        rw [← hx]; exact hagree u (by simp [IOp.reads, he, IE.reads, IO.reads])
      have hv := hfs.slot u
      rw [hx'] at hv
      have hr' : rowsOf (obs os0 F G (fun j => listed.getD j false)) (.ref id ext off len) = some rs' := by
        cases hv with
        | ref h1 h2 =>
          obtain ⟨o', sz', rs2, k1, k2, k3⟩ := h1
          rw [hob] at k1 ⊢
          refine rowsOf_eq ?_ hr
          by_cases hid : id < os0.length
          · rw [List.getElem?_append_left hid, List.getElem?_append_left hid]
          · rw [List.getElem?_append_right (by omega)] at k1 ⊢
            rw [List.getElem?_append_right (by omega)]
            have hsome : ∃ ob, (recO (F.take i))[id - os0.length]? = some ob := by
              cases hc : (recO (F.take i))[id - os0.length]? with
              | some ob => exact ⟨ob, rfl⟩
              | none =>
                simp only [rowsOf] at hr
                rw [List.getElem?_append_right (by omega), hc] at hr
                cases hr
            obtain ⟨ob, hob'⟩ := hsome
            rw [hob', k1]
            rcases crs_or F (fun j => listed.getD j false) 0 _ _ k1 with h | h
            · subst h; cases k2
            · rw [recO_pre F i _ _ hob'] at h; exact h.symm
      have hq2 : evQ S φs (obs os0 F G (fun j => listed.getD j false)) io = some (true, .x (.str (rs'.map rowByte))) := by
        simp only [evQ, hg, he, avalR, aval, opv, hx', D.val, D.cond, hr', Option.map_some, hb, Bool.and_true]
      exact evQ_ok (os := obs os0 F G (fun j => listed.getD j false)) (Y := []) hS (by rw [List.append_nil]; exact R) (by rw [List.append_nil]; exact hfs) hio hq2 (fun v E' R' e' hv => step v E' _ (by rw [hos, List.append_nil]) R' (by rw [List.append_nil] at e' ⊢; exact e') hv)
    | make hf hk hq =>
      rename_i ob'
      have no : ∀ (j : Nat) (x' : List Ob), G[j]? = some (some x') → listed.getD j false = false := fun j x' hj => by
        obtain ⟨_, _, _, hkj⟩ := st_of j x' hj
        exact later hf j x' (by omega) hj
      have hob : obs os0 F G (fun j => listed.getD j false) = os0 ++ crs F (fun j => listed.getD j false) 0 := lookS_none G _ 0 _ (fun j x' hj => by rw [Nat.zero_add]; exact no j x' hj)
      obtain ⟨m1, m2⟩ := crs_make F (fun j => listed.getD j false) 0 i io.dst d ob' hFi (by simpa using g1)
      have hos : obs os0 F G (fun j => (listed.setIfInBounds i true).getD j false) = (os0 ++ crs F (fun j => listed.getD j false) 0).set (os0.length + place F i) ob' := by
        unfold obs
        rw [hnext, m2, List.set_append_right _ _ (by omega), Nat.add_sub_cancel_left]
        refine lookS_none G _ 0 _ (fun j x' hj => ?_)
        have : j ≠ i := fun e => by subst e; rw [hGi] at hj; cases hj
        simp only [Nat.zero_add, no j x' hj, this, decide_false, Bool.or_false]
      rw [← evK_congr S os0 _ hagree] at hq
      rw [hob] at R hfs
      refine evK_ok hS R hfs hio (id := os0.length + place F i) ?_ hq (fun v E' R' e' hv => step v E' _ hos.symm R' (by rw [hob]; exact e') hv)
      rw [List.getElem?_append_right (by omega), Nat.add_sub_cancel_left]
      exact m1
    | turn hf hk hq =>
      rename_i s'
      have early : ∀ (j : Nat) (y : IOp), j < i → il[j]? = some y → y.ex rs j = false → listed.getD j false = true := fun j y hj hy hyf => D0.tail i o io hk ho hil hf _ hcl g2 j y hj hy hyf
      have hcr : crs F (fun j => listed.getD j false) 0 = recO F := crs_mk F _ 0 (fun j t d' x' hj => by
        obtain ⟨y, hy, hyf, hjk⟩ := mk_of j t d' x' hj
        rw [Nat.zero_add]; exact early j y (by omega) hy hyf)
      have hrt : recO (F.take i) = recO F := recO_take F i (fun j t d' x' hj => by obtain ⟨_, _, _, hjk⟩ := mk_of j t d' x' hj; omega)
      have hob : obs os0 F G (fun j => listed.getD j false) = lookS (G.take i) (fun _ => true) 0 (os0 ++ recO (F.take i)) := by
        unfold obs
        rw [hcr, hrt, ← lookS_take G i 0]
        refine lookS_congr G _ _ _ _ (fun j x' hj => ?_)
        obtain ⟨y, hy, hyf, hkj⟩ := st_of j x' hj
        simp only [Nat.zero_add]
        rcases Nat.lt_trichotomy j i with h | h | h
        · rw [early j y h hy hyf]; simp [h]
        · subst h; rw [g1]; simp
        · rw [later hf j x' h hj]; simp; omega
      have hos : obs os0 F G (fun j => (listed.setIfInBounds i true).getD j false) = s' := by
        unfold obs
        rw [hnext]
        refine lookS_last G _ 0 _ i s' hGi (by simp) (fun j x' hij hj => ?_)
        have : j ≠ i := by omega
        simp only [Nat.zero_add, later hf j x' hij hj, this, decide_false, Bool.or_false]
      rw [← hob, ← evA_congr S _ hagree] at hq
      exact evA_ok hS R hfs hio hq (fun v E' R' e' hv => step v E' _ hos.symm R' e' hv)

/-- A region whose order is open. -/
theorem draw_wp (hm : P.follows .mixedOrders = true) (hS : SsOk P S) (hok : drawOk ops.toList il k rs = true) (hcomp : ops.toList.mapM (compOper P n ops) = some il) {id : Nat} {φ0 φ2 : List (Nat × D)} {os2 : List Ob} {E : Env} {a : Act} (R : Rel c E os0) (hf : Fr n E os0 φ0 a) (hrun : runD S φ0 os0 k rs il = some (true, φ2, os2))
    (hQ : ∀ E' a', Rel c E' os2 → Evo E os0 E' os2 → Fr n E' os2 φ2 a' → Q .normal a' E'.w) : (Code.region id ops true).wp P Q a E.w := by
  simp only [runD, Option.map_eq_some_iff] at hrun
  obtain ⟨⟨ok, F, G⟩, hrun, h3⟩ := hrun
  simp at h3
  obtain ⟨⟨rfl, hpre⟩, rfl, rfl⟩ := h3
  have D0 := Draw.of hok
  obtain ⟨R1, e1⟩ := R.world { E.w with drawn := E.w.drawn + 1 } E.st ⟨rfl, rfl, rfl, Nat.le_refl _, fun _ _ _ => rfl⟩ (fun _ _ h => h) (fun _ _ h => .inl h)
  obtain ⟨E2, w2, R2, e2⟩ := push_dead F 0 R1
  have hrep : (fun j => (Array.replicate ops.size false).getD j false) = fun _ => false := by
    funext j
    rw [Array.getD_eq_getD_getElem?]
    by_cases h : j < ops.size <;> simp [h]
  have hob : obs os0 F G (fun _ => false) = os0 ++ crs F (fun _ => false) 0 := lookS_none G _ 0 _ (fun _ _ _ => rfl)
  have hinit := draw_any (E0 := E) hS D0 hcomp hrun hpre hQ ops.size (Array.replicate ops.size false) a E2 (by simp) (by rw [hrep]; intro i o _ h; cases h) (by
    have := List.countP_le_length (p := fun j => !(Array.replicate ops.size false).getD j false) (l := List.range ops.size)
    simpa using this) (by rw [hrep, hob]; exact R2) (by rw [hrep, hob]; exact e1.trans e2) hf.size hf.defers (fun t => by
      rw [hrep, hob, look_none F _ 0 _ t (fun j d o _ => rfl)]
      exact ((hf.slot t).mono e1).mono e2)
  refine wp_region_any hm ?_
  rw [w2] at hinit
  exact hinit

end
end Go.Ab
