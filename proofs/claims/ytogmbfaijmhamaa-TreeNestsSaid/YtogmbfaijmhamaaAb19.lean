/- Statements whose order is open (3): the region. -/
import Derived.Test.YtogmbfaijmhamaaAb18
namespace Go.Ab
open Go.RowKit Go.Bo

/-- What an operation left: its slot, the value, the object that it made. -/
abbrev Rec := Option Nat × D × Option Ob

/-- It looks at the frame alone. -/
def IE.frame : IE → Bool
  | .mv _ => true
  | .nck _ => true
  | .pick _ _ _ => true
  | .bin _ _ _ => true
  | .eq .bool _ _ _ => true
  | .eq .ptr _ _ _ => true
  | .eq (.st _) _ _ _ => true
  | .un _ _ => true
  | .cvi _ _ => true
  | .fld _ _ _ _ => true
  | .fad _ _ => true
  | .idx _ _ => true
  | .idxa _ _ _ _ _ => true
  | .build _ _ => true
  | .ext _ _ => true
  | .mnx _ _ _ => true
  | .mkf _ _ => true
  | .len st _ => st
  | _ => false
/-! ### The same objects -/
mutual
def X.beq : X → X → Bool
  | .int k n, .int k' m => decide (k = k') && decide (n = m)
  | .bool a, .bool b => a == b
  | .str s, .str t => decide (s = t)
  | .nilp, .nilp => true
  | .nils, .nils => true
  | .sl a, .sl b => X.beqR a b
  | _, _ => false
def X.beqR : List (List X) → List (List X) → Bool
  | [], [] => true
  | r :: l, r' :: l' => X.beqL r r' && X.beqR l l'
  | _, _ => false
def X.beqL : List X → List X → Bool
  | [], [] => true
  | x :: l, y :: l' => X.beq x y && X.beqL l l'
  | _, _ => false
end
mutual
theorem X.beq_eq : ∀ {x y : X}, X.beq x y = true → x = y
  | .int k n, y, h => by cases y <;> simp [X.beq] at h; rw [h.1, h.2]
  | .bool a, y, h => by cases y <;> simp [X.beq] at h; rw [h]
  | .str s, y, h => by cases y <;> simp [X.beq] at h; rw [h]
  | .nilp, y, h => by cases y <;> simp [X.beq] at h; rfl
  | .nils, y, h => by cases y <;> simp [X.beq] at h; rfl
  | .sl a, y, h => by cases y <;> simp [X.beq] at h; rw [X.beqR_eq h]
theorem X.beqR_eq : ∀ {a b : List (List X)}, X.beqR a b = true → a = b
  | [], b, h => by cases b <;> simp [X.beqR] at h; rfl
  | r :: l, b, h => by cases b <;> simp [X.beqR] at h; rw [X.beqL_eq h.1, X.beqR_eq h.2]
theorem X.beqL_eq : ∀ {a b : List X}, X.beqL a b = true → a = b
  | [], b, h => by cases b <;> simp [X.beqL] at h; rfl
  | x :: l, b, h => by cases b <;> simp [X.beqL] at h; rw [X.beq_eq h.1, X.beqL_eq h.2]
end
mutual
def D.beq : D → D → Bool
  | .x a, .x b => X.beq a b
  | .ref a b c d, .ref a' b' c' d' => Nat.beq a a' && (Nat.beq b b' && (Nat.beq c c' && Nat.beq d d'))
  | .ptr a b, .ptr a' b' => Nat.beq a a' && Nat.beq b b'
  | .eptr a b c d, .eptr a' b' c' d' => Nat.beq a a' && (Nat.beq b b' && (Nat.beq c c' && Nat.beq d d'))
  | .vptr a, .vptr b => X.beqL a b
  | .agg a, .agg b => D.beqL a b
  | .tup a, .tup b => D.beqL a b
  | .full a, .full b => X.beqR a b
  | .nz a, .nz b => X.beqR a b
  | .fn f a, .fn g b => decide (f = g) && D.beqL a b
  | .opt a d, .opt b e => (a == b) && D.beq d e
  | .und, .und => true
  | _, _ => false
def D.beqL : List D → List D → Bool
  | [], [] => true
  | d :: l, e :: l' => D.beq d e && D.beqL l l'
  | _, _ => false
end
mutual
theorem D.beq_eq : ∀ {x y : D}, D.beq x y = true → x = y
  | .x a, y, h => by cases y <;> simp [D.beq] at h; rw [X.beq_eq h]
  | .ref a b c d, y, h => by cases y <;> simp [D.beq] at h; rw [h.1, h.2.1, h.2.2.1, h.2.2.2]
  | .ptr a b, y, h => by cases y <;> simp [D.beq] at h; rw [h.1, h.2]
  | .eptr a b c d, y, h => by cases y <;> simp [D.beq] at h; rw [h.1, h.2.1, h.2.2.1, h.2.2.2]
  | .vptr a, y, h => by cases y <;> simp [D.beq] at h; rw [X.beqL_eq h]
  | .agg a, y, h => by cases y <;> simp [D.beq] at h; rw [D.beqL_eq h]
  | .tup a, y, h => by cases y <;> simp [D.beq] at h; rw [D.beqL_eq h]
  | .full a, y, h => by cases y <;> simp [D.beq] at h; rw [X.beqR_eq h]
  | .nz a, y, h => by cases y <;> simp [D.beq] at h; rw [X.beqR_eq h]
  | .fn f a, y, h => by cases y <;> simp [D.beq] at h; rw [h.1, D.beqL_eq h.2]
  | .opt a d, y, h => by cases y <;> simp [D.beq] at h; rw [h.1, D.beq_eq h.2]
  | .und, y, h => by cases y <;> simp [D.beq] at h; rfl
theorem D.beqL_eq : ∀ {a b : List D}, D.beqL a b = true → a = b
  | [], b, h => by cases b <;> simp [D.beqL] at h; rfl
  | d :: l, b, h => by cases b <;> simp [D.beqL] at h; rw [D.beq_eq h.1, D.beqL_eq h.2]
end
def Ob.beq : Ob → Ob → Bool
  | .box a, .box b => D.beqL a b
  | .rows f e s rs, .rows f' e' s' rs' => (f == f') && (Nat.beq e e' && (Nat.beq s s' && X.beqR rs rs'))
  | .frz s rs, .frz s' rs' => Nat.beq s s' && X.beqR rs rs'
  | .dead, .dead => true
  | _, _ => false
theorem Ob.beq_eq {x y : Ob} (h : Ob.beq x y = true) : x = y := by
  cases x <;> cases y <;> simp [Ob.beq] at h
  · rw [D.beqL_eq h]
  · rw [h.1, h.2.1, h.2.2.1, X.beqR_eq h.2.2.2]
  · rw [h.1, X.beqR_eq h.2]
  · rfl
def prefB : List Ob → List Ob → Bool
  | [], _ => true
  | x :: l, y :: l' => Ob.beq x y && prefB l l'
  | _, _ => false
theorem prefB_eq : ∀ {a b : List Ob}, prefB a b = true → ∃ X, b = a ++ X
  | [], b, _ => ⟨b, rfl⟩
  | x :: l, b, h => by
    cases b with
    | nil => cases h
    | cons y l' =>
      simp only [prefB, Bool.and_eq_true] at h
      obtain ⟨X, rfl⟩ := prefB_eq h.2
      exact ⟨X, by rw [Ob.beq_eq h.1]; rfl⟩

def memB (t : Nat) : List Nat → Bool
  | [] => false
  | u :: l => Nat.beq t u || memB t l
/-- It may come whenever the edges allow it: it looks at the frame alone, or (rs) at objects that do not turn. -/
def IOp.ex (rs : List Nat) (i : Nat) (o : IOp) : Bool := o.e.frame || memB i rs
/-- A text of bytes that the region itself has laid. -/
def nearQ (φ : List (Nat × D)) (os : List Ob) (o : IOp) : Option (Bool × D) := match o.g, o.e with
  | none, .b2s (.t u) => match Go.Ab.get φ u with
    | .ref id ext off len => (rowsOf os (.ref id ext off len)).map fun rs => (rs.all isByte, .x (.str (rs.map rowByte)))
    | _ => none
  | _, _ => none
/-- In the text's order. Of the frame alone: with no objects at hand. Of rs: with the objects as they were. Ahead of k: what reads the objects as they were, or makes one. From k on: each in its turn. -/
def runR (S : Tabs) (os0 : List Ob) (k : Nat) (rs : List Nat) : Nat → List (Nat × D) → Nat → List Ob → List IOp → Option (Bool × List Rec × List (Option (List Ob)))
  | _, _, _, _, [] => some (true, [], [])
  | i, φ, id, os, o :: l =>
    if o.e.frame then (evQ S φ [] o).bind fun r => (runR S os0 k rs (i + 1) (putO φ o.dst r.2) id os l).map fun q => (r.1 && q.1, (o.dst, r.2, none) :: q.2.1, none :: q.2.2)
    else if memB i rs then (evQ S φ os0 o).bind fun r => (runR S os0 k rs (i + 1) (putO φ o.dst r.2) id os l).map fun q => (r.1 && q.1, (o.dst, r.2, none) :: q.2.1, none :: q.2.2)
    else if i < k then match evQ S φ os0 o with
      | some r => (runR S os0 k rs (i + 1) (putO φ o.dst r.2) id os l).map fun q => (r.1 && q.1, (o.dst, r.2, none) :: q.2.1, none :: q.2.2)
      | none => match nearQ φ os o with
        | some r => (runR S os0 k rs (i + 1) (putO φ o.dst r.2) id os l).map fun q => (r.1 && q.1, (o.dst, r.2, none) :: q.2.1, none :: q.2.2)
        | none => (evK S φ os0 id o).bind fun r => (runR S os0 k rs (i + 1) (putO φ o.dst r.2.1) (id + 1) (os ++ [r.2.2]) l).map fun q => (r.1 && q.1, (o.dst, r.2.1, some r.2.2) :: q.2.1, none :: q.2.2)
    else (evA S φ os o).bind fun r => (runR S os0 k rs (i + 1) (putO φ o.dst r.2.1) id r.2.2 l).map fun q => (r.1 && q.1, (o.dst, r.2.1, none) :: q.2.1, some r.2.2 :: q.2.2)
def recφ : List (Nat × D) → List Rec → List (Nat × D)
  | φ, [] => φ
  | φ, r :: l => recφ (putO φ r.1 r.2.1) l
def recO : List Rec → List Ob
  | [] => []
  | (_, _, none) :: l => recO l
  | (_, _, some ob) :: l => ob :: recO l
/-- The objects: the last state among those that have come. -/
def lookS : List (Option (List Ob)) → (Nat → Bool) → Nat → List Ob → List Ob
  | [], _, _, b => b
  | none :: l, dn, i, b => lookS l dn (i + 1) b
  | some x :: l, dn, i, b => lookS l dn (i + 1) (if dn i = true then x else b)
/-- The objects that were there do not turn. -/
def allP (os : List Ob) : List (Option (List Ob)) → Bool
  | [] => true
  | none :: l => allP os l
  | some x :: l => prefB os x && allP os l
def preG (rs : List Nat) (os : List Ob) (G : List (Option (List Ob))) : Bool := match rs with
  | [] => true
  | _ => allP os G
theorem allP_spec {os : List Ob} : ∀ {G : List (Option (List Ob))}, allP os G = true → ∀ (j : Nat) (x : List Ob), G[j]? = some (some x) → ∃ Y, x = os ++ Y
  | [], _, j, x, h => by simp at h
  | none :: l, hb, j, x, h => by
    cases j with
    | zero => simp at h
    | succ j => exact allP_spec (G := l) hb j x (by simpa using h)
  | some y :: l, hb, j, x, h => by
    simp only [allP, Bool.and_eq_true] at hb
    cases j with
    | zero => simp at h; subst h; exact prefB_eq hb.1
    | succ j => exact allP_spec hb.2 j x (by simpa using h)
theorem lookS_pref {os : List Ob} : ∀ {G : List (Option (List Ob))} (dn : Nat → Bool) (i : Nat) (b : List Ob), (∀ (j : Nat) (x : List Ob), G[j]? = some (some x) → ∃ Y, x = os ++ Y) → (∃ Y, b = os ++ Y) → ∃ Y, lookS G dn i b = os ++ Y
  | [], _, _, b, _, h => h
  | none :: l, dn, i, b, hG, h => by simp only [lookS]; exact lookS_pref dn (i + 1) b (fun j x hj => hG (j + 1) x (by simpa using hj)) h
  | some y :: l, dn, i, b, hG, h => by
    simp only [lookS]
    refine lookS_pref dn (i + 1) _ (fun j x hj => hG (j + 1) x (by simpa using hj)) ?_
    split
    · exact hG 0 y rfl
    · exact h
def runD (S : Tabs) (φ : List (Nat × D)) (os : List Ob) (k : Nat) (rs : List Nat) (l : List IOp) : Option (Bool × List (Nat × D) × List Ob) :=
  (runR S os k rs 0 φ os.length os l).map fun q => (q.1 && preG rs os q.2.2, recφ φ q.2.1, lookS q.2.2 (fun _ => true) 0 (os ++ recO q.2.1))

theorem lookS_congr : ∀ (F : List (Option (List Ob))) (dn dn' : Nat → Bool) (i : Nat) (b : List Ob), (∀ j x, F[j]? = some (some x) → dn (i + j) = dn' (i + j)) → lookS F dn i b = lookS F dn' i b
  | [], _, _, _, _, _ => rfl
  | none :: l, dn, dn', i, b, h => by
    simp only [lookS]
    exact lookS_congr l dn dn' (i + 1) b (fun j x hj => by have := h (j + 1) x (by simpa using hj); rw [show i + 1 + j = i + (j + 1) by omega]; exact this)
  | some y :: l, dn, dn', i, b, h => by
    simp only [lookS]
    have h0 := h 0 y rfl
    rw [Nat.add_zero] at h0
    rw [h0]
    exact lookS_congr l dn dn' (i + 1) _ (fun j x hj => by have := h (j + 1) x (by simpa using hj); rw [show i + 1 + j = i + (j + 1) by omega]; exact this)
theorem lookS_none : ∀ (F : List (Option (List Ob))) (dn : Nat → Bool) (i : Nat) (b : List Ob), (∀ j x, F[j]? = some (some x) → dn (i + j) = false) → lookS F dn i b = b
  | [], _, _, _, _ => rfl
  | none :: l, dn, i, b, h => by
    simp only [lookS]
    exact lookS_none l dn (i + 1) b (fun j x hj => by have := h (j + 1) x (by simpa using hj); rw [show i + 1 + j = i + (j + 1) by omega]; exact this)
  | some y :: l, dn, i, b, h => by
    have h0 := h 0 y rfl
    rw [Nat.add_zero] at h0
    simp only [lookS, h0, Bool.false_eq_true, if_false]
    exact lookS_none l dn (i + 1) b (fun j x hj => by have := h (j + 1) x (by simpa using hj); rw [show i + 1 + j = i + (j + 1) by omega]; exact this)
/-- The state that came last. -/
theorem lookS_last : ∀ (F : List (Option (List Ob))) (dn : Nat → Bool) (i : Nat) (b : List Ob) (m : Nat) (s : List Ob), F[m]? = some (some s) → dn (i + m) = true → (∀ j x, m < j → F[j]? = some (some x) → dn (i + j) = false) → lookS F dn i b = s
  | [], _, _, _, m, s, h, _, _ => by simp at h
  | none :: l, dn, i, b, 0, s, h, _, _ => by simp at h
  | none :: l, dn, i, b, m + 1, s, h, hd, hn => by
    simp only [lookS]
    exact lookS_last l dn (i + 1) b m s (by simpa using h) (by rw [show i + 1 + m = i + (m + 1) by omega]; exact hd) (fun j x hj hx => by rw [show i + 1 + j = i + (j + 1) by omega]; exact hn (j + 1) x (by omega) (by simpa using hx))
  | some y :: l, dn, i, b, 0, s, h, hd, hn => by
    simp at h; subst h
    rw [Nat.add_zero] at hd
    simp only [lookS, hd, if_true]
    exact lookS_none l dn (i + 1) y (fun j x hj => by rw [show i + 1 + j = i + (j + 1) by omega]; exact hn (j + 1) x (by omega) (by simpa using hj))
  | some y :: l, dn, i, b, m + 1, s, h, hd, hn => by
    simp only [lookS]
    exact lookS_last l dn (i + 1) _ m s (by simpa using h) (by rw [show i + 1 + m = i + (m + 1) by omega]; exact hd) (fun j x hj hx => by rw [show i + 1 + j = i + (j + 1) by omega]; exact hn (j + 1) x (by omega) (by simpa using hx))

/-- The slot's value when these operations are done. -/
def look : List Rec → (Nat → Bool) → Nat → D → Nat → D
  | [], _, _, b, _ => b
  | r :: l, dn, i, b, t => look l dn (i + 1) (if r.1 = some t ∧ dn i = true then r.2.1 else b) t
/-- The objects that they made. -/
def crs : List Rec → (Nat → Bool) → Nat → List Ob
  | [], _, _ => []
  | (_, _, none) :: l, dn, i => crs l dn (i + 1)
  | (_, _, some ob) :: l, dn, i => (if dn i = true then ob else .dead) :: crs l dn (i + 1)

theorem look_congr : ∀ (F : List Rec) (dn dn' : Nat → Bool) (i : Nat) (b : D) (t : Nat), (∀ j d o, F[j]? = some (some t, d, o) → dn (i + j) = dn' (i + j)) → look F dn i b t = look F dn' i b t
  | [], _, _, _, _, _, _ => rfl
  | (dst, d, o) :: l, dn, dn', i, b, t, h => by
    simp only [look]
    have e : (if dst = some t ∧ dn i = true then d else b) = (if dst = some t ∧ dn' i = true then d else b) := by
      by_cases hd : dst = some t
      · subst hd
        have := h 0 d o rfl
        rw [Nat.add_zero] at this
        rw [this]
      · simp [hd]
    rw [e]
    exact look_congr l dn dn' (i + 1) _ t (fun j d' o' hj => by have := h (j + 1) d' o' (by simpa using hj); rw [show i + 1 + j = i + (j + 1) by omega]; exact this)
theorem look_none : ∀ (F : List Rec) (dn : Nat → Bool) (i : Nat) (b : D) (t : Nat), (∀ j d o, F[j]? = some (some t, d, o) → dn (i + j) = false) → look F dn i b t = b
  | [], _, _, _, _, _ => rfl
  | (dst, d, o) :: l, dn, i, b, t, h => by
    simp only [look]
    have e : (if dst = some t ∧ dn i = true then d else b) = b := by
      by_cases hd : dst = some t
      · subst hd
        have := h 0 d o rfl
        rw [Nat.add_zero] at this
        simp [this]
      · simp [hd]
    rw [e]
    exact look_none l dn (i + 1) b t (fun j d' o' hj => by have := h (j + 1) d' o' (by simpa using hj); rw [show i + 1 + j = i + (j + 1) by omega]; exact this)
/-- One operation more, the only one that writes its slot. -/
theorem look_add : ∀ (F : List Rec) (dn : Nat → Bool) (i : Nat) (b : D) (m : Nat) (dst : Option Nat) (d : D) (o : Option Ob) (t : Nat), F[m]? = some (dst, d, o) → (∀ j u d' o', F[j]? = some (some u, d', o') → dst = some u → j = m) →
    look F (fun j => dn j || decide (j = i + m)) i b t = if dst = some t then d else look F dn i b t
  | [], _, _, _, m, _, _, _, _, h, _ => by simp at h
  | (dst0, d0, o0) :: l, dn, i, b, 0, dst, d, o, t, h, hu => by
    simp at h
    obtain ⟨rfl, rfl, rfl⟩ := h
    simp only [look, Nat.add_zero]
    have hrest : ∀ b, look l (fun j => dn j || decide (j = i)) (i + 1) b t = look l dn (i + 1) b t := fun b => look_congr l _ _ _ _ _ (fun j d' o' hj => by simp; omega)
    rw [hrest]
    by_cases hd : dst0 = some t
    · subst hd
      simp only [true_and, decide_true, Bool.or_true, if_true]
      exact look_none l dn (i + 1) d0 t (fun j d' o' hj => by have := hu (j + 1) t d' o' (by simpa using hj) rfl; omega)
    · simp [hd]
  | (dst0, d0, o0) :: l, dn, i, b, m + 1, dst, d, o, t, h, hu => by
    simp only [look]
    have ih := fun b => look_add l dn (i + 1) b m dst d o t (by simpa using h) (fun j u d' o' hj hd => by have := hu (j + 1) u d' o' (by simpa using hj) hd; omega)
    have e : ∀ b, look l (fun j => dn j || decide (j = i + (m + 1))) (i + 1) b t = look l (fun j => dn j || decide (j = i + 1 + m)) (i + 1) b t := fun b => look_congr l _ _ _ _ _ (fun j d' o' hj => by rw [show i + (m + 1) = i + 1 + m by omega])
    rw [e, ih]
    have e2 : decide (i = i + (m + 1)) = false := by simp
    rw [e2, Bool.or_false]

theorem crs_congr : ∀ (F : List Rec) (dn dn' : Nat → Bool) (i : Nat), (∀ j r, F[j]? = some r → dn (i + j) = dn' (i + j)) → crs F dn i = crs F dn' i
  | [], _, _, _, _ => rfl
  | (dst, d, none) :: l, dn, dn', i, h => by
    simp only [crs]
    exact crs_congr l dn dn' (i + 1) (fun j r hj => by have := h (j + 1) r (by simpa using hj); rw [show i + 1 + j = i + (j + 1) by omega]; exact this)
  | (dst, d, some ob) :: l, dn, dn', i, h => by
    simp only [crs]
    have h0 := h 0 _ rfl
    rw [Nat.add_zero] at h0
    rw [h0, crs_congr l dn dn' (i + 1) (fun j r hj => by have := h (j + 1) r (by simpa using hj); rw [show i + 1 + j = i + (j + 1) by omega]; exact this)]
theorem crs_quiet : ∀ (F : List Rec) (dn : Nat → Bool) (i m : Nat) (dst : Option Nat) (d : D), F[m]? = some (dst, d, none) → crs F (fun j => dn j || decide (j = i + m)) i = crs F dn i
  | [], _, _, _, _, _, h => by simp at h
  | (dst0, d0, o0) :: l, dn, i, 0, dst, d, h => by
    simp at h
    obtain ⟨rfl, rfl, rfl⟩ := h
    simp only [crs, Nat.add_zero]
    exact crs_congr l _ _ _ (fun j r hj => by simp; omega)
  | (dst0, d0, o0) :: l, dn, i, m + 1, dst, d, h => by
    have ih := crs_quiet l dn (i + 1) m dst d (by simpa using h)
    have e : crs l (fun j => dn j || decide (j = i + (m + 1))) (i + 1) = crs l dn (i + 1) := by
      rw [← ih]; exact crs_congr l _ _ _ (fun j r hj => by rw [show i + (m + 1) = i + 1 + m by omega])
    cases o0 with
    | none => simp only [crs]; exact e
    | some ob =>
      have e2 : decide (i = i + (m + 1)) = false := by simp
      simp only [crs, e, e2, Bool.or_false]
/-- Where the object of an operation stands. -/
def place : List Rec → Nat → Nat
  | _, 0 => 0
  | [], _ + 1 => 0
  | (_, _, none) :: l, m + 1 => place l m
  | (_, _, some _) :: l, m + 1 => place l m + 1
theorem crs_make : ∀ (F : List Rec) (dn : Nat → Bool) (i m : Nat) (dst : Option Nat) (d : D) (ob : Ob), F[m]? = some (dst, d, some ob) → dn (i + m) = false → (crs F dn i)[place F m]? = some .dead ∧ crs F (fun j => dn j || decide (j = i + m)) i = (crs F dn i).set (place F m) ob
  | [], _, _, _, _, _, _, h, _ => by simp at h
  | (dst0, d0, o0) :: l, dn, i, 0, dst, d, ob, h, hd => by
    simp at h
    obtain ⟨rfl, rfl, rfl⟩ := h
    rw [Nat.add_zero] at hd
    simp only [crs, Nat.add_zero, place, hd]
    refine ⟨by simp, ?_⟩
    have : crs l (fun j => dn j || decide (j = i)) (i + 1) = crs l dn (i + 1) := crs_congr l _ _ _ (fun j r hj => by simp; omega)
    rw [this]
    simp
  | (dst0, d0, o0) :: l, dn, i, m + 1, dst, d, ob, h, hd => by
    have hd' : dn (i + 1 + m) = false := by rw [show i + 1 + m = i + (m + 1) by omega]; exact hd
    obtain ⟨k1, k2⟩ := crs_make l dn (i + 1) m dst d ob (by simpa using h) hd'
    have e : crs l (fun j => dn j || decide (j = i + (m + 1))) (i + 1) = (crs l dn (i + 1)).set (place l m) ob := by
      rw [← k2]; exact crs_congr l _ _ _ (fun j r hj => by rw [show i + (m + 1) = i + 1 + m by omega])
    cases o0 with
    | none => simp only [crs, place]; exact ⟨k1, e⟩
    | some ob0 =>
      have e2 : decide (i = i + (m + 1)) = false := by simp
      simp only [crs, place, e, e2, Bool.or_false]
      exact ⟨by simpa using k1, by simp⟩
theorem crs_all : ∀ (F : List Rec) (dn : Nat → Bool) (i : Nat), (∀ j r, F[j]? = some r → dn (i + j) = true) → crs F dn i = recO F
  | [], _, _, _ => rfl
  | (dst, d, none) :: l, dn, i, h => by
    simp only [crs, recO]
    exact crs_all l dn (i + 1) (fun j r hj => by have := h (j + 1) r (by simpa using hj); rw [show i + 1 + j = i + (j + 1) by omega]; exact this)
  | (dst, d, some ob) :: l, dn, i, h => by
    simp only [crs, recO]
    have h0 := h 0 _ rfl
    rw [Nat.add_zero] at h0
    rw [h0, crs_all l dn (i + 1) (fun j r hj => by have := h (j + 1) r (by simpa using hj); rw [show i + 1 + j = i + (j + 1) by omega]; exact this)]
    rfl
/-- The frame in the text's order. -/
theorem look_seq : ∀ (F : List Rec) (φ : List (Nat × D)) (m i : Nat) (t : Nat), Go.Ab.get (recφ φ (F.take m)) t = look F (fun j => decide (j < i + m)) i (Go.Ab.get φ t) t
  | [], φ, m, i, t => by simp [recφ, look]
  | (dst, d, o) :: l, φ, 0, i, t => by
    simp only [List.take_zero, recφ, Nat.add_zero]
    rw [look_none _ _ _ _ _ (fun j d' o' hj => by simp)]
  | (dst, d, o) :: l, φ, m + 1, i, t => by
    simp only [List.take_succ_cons, recφ, look]
    rw [look_seq l _ m (i + 1) t]
    have e1 : Go.Ab.get (putO φ dst d) t = if dst = some t ∧ decide (i < i + (m + 1)) = true then d else Go.Ab.get φ t := by
      cases dst with
      | none => simp [putO]
      | some u =>
        simp only [putO, get_put]
        simp
    rw [e1]
    exact look_congr l _ _ _ _ _ (fun j d' o' hj => by congr 1; simp; omega)

theorem lookS_true : ∀ (G : List (Option (List Ob))) (i j : Nat) (b : List Ob), lookS G (fun _ => true) i b = lookS G (fun _ => true) j b
  | [], _, _, _ => rfl
  | none :: l, i, j, b => by simp only [lookS]; exact lookS_true l _ _ b
  | some x :: l, i, j, b => by simp only [lookS]; exact lookS_true l _ _ _
theorem runR_late {S : Tabs} {os0 : List Ob} {k : Nat} {rs : List Nat} : ∀ {il : List IOp} {i : Nat} {φ : List (Nat × D)} {id : Nat} {os : List Ob} {b : Bool} {F : List Rec} {G : List (Option (List Ob))}, k ≤ i → runR S os0 k rs i φ id os il = some (b, F, G) → ∀ q, recO (F.take q) = []
  | [], i, φ, id, os, b, F, G, hk, h, q => by simp [runR] at h; obtain ⟨_, rfl, _⟩ := h; simp [recO]
  | o :: l, i, φ, id, os, b, F, G, hk, h, q => by
    simp only [runR] at h
    have hik : ¬ (i < k) := by omega
    split at h
    · obtain ⟨r, _, h⟩ := Option.bind_eq_some_iff.1 h
      obtain ⟨⟨b', F', G'⟩, h1, h2⟩ := Option.map_eq_some_iff.1 h
      simp only [Prod.mk.injEq] at h2
      obtain ⟨_, rfl, rfl⟩ := h2
      cases q with
      | zero => rfl
      | succ q => simp only [List.take_succ_cons, recO]; exact runR_late (by omega) h1 q
    split at h
    · obtain ⟨r, _, h⟩ := Option.bind_eq_some_iff.1 h
      obtain ⟨⟨b', F', G'⟩, h1, h2⟩ := Option.map_eq_some_iff.1 h
      simp only [Prod.mk.injEq] at h2
      obtain ⟨_, rfl, rfl⟩ := h2
      cases q with
      | zero => rfl
      | succ q => simp only [List.take_succ_cons, recO]; exact runR_late (by omega) h1 q
    · try rw [if_neg hik] at h
      obtain ⟨r, _, h⟩ := Option.bind_eq_some_iff.1 h
      obtain ⟨⟨b', F', G'⟩, h1, h2⟩ := Option.map_eq_some_iff.1 h
      simp only [Prod.mk.injEq] at h2
      obtain ⟨_, rfl, rfl⟩ := h2
      cases q with
      | zero => rfl
      | succ q => simp only [List.take_succ_cons, recO]; exact runR_late (by omega) h1 q

/-- What one operation did. -/
inductive Step (S : Tabs) (os0 : List Ob) (k : Nat) (rs : List Nat) (φ : List (Nat × D)) (id : Nat) (cur : List Ob) (i : Nat) (io : IOp) : D → Option Ob → Option (List Ob) → Prop
  | frame {d : D} (hf : io.e.frame = true) (h : evQ S φ [] io = some (true, d)) : Step S os0 k rs φ id cur i io d none none
  | look {d : D} (hf : memB i rs = true) (h : evQ S φ os0 io = some (true, d)) : Step S os0 k rs φ id cur i io d none none
  | read {d : D} (hf : io.ex rs i = false) (hk : i < k) (h : evQ S φ os0 io = some (true, d)) : Step S os0 k rs φ id cur i io d none none
  | near {d : D} (hf : io.ex rs i = false) (hk : i < k) (h : nearQ φ cur io = some (true, d)) : Step S os0 k rs φ id cur i io d none none
  | make {d : D} {x : Ob} (hf : io.ex rs i = false) (hk : i < k) (h : evK S φ os0 id io = some (true, d, x)) : Step S os0 k rs φ id cur i io d (some x) none
  | turn {d : D} {s : List Ob} (hf : io.ex rs i = false) (hk : k ≤ i) (h : evA S φ cur io = some (true, d, s)) : Step S os0 k rs φ id cur i io d none (some s)

/-- Each operation's own step. -/
theorem runR_at {S : Tabs} {os0 : List Ob} {k : Nat} {rs : List Nat} : ∀ {il : List IOp} {i : Nat} {φ : List (Nat × D)} {id : Nat} {os : List Ob} {F : List Rec} {G : List (Option (List Ob))}, runR S os0 k rs i φ id os il = some (true, F, G) → F.length = il.length ∧ G.length = il.length ∧
    ∀ q io, il[q]? = some io → ∃ d x s, F[q]? = some (io.dst, d, x) ∧ G[q]? = some s ∧ Step S os0 k rs (recφ φ (F.take q)) (id + place F q) (lookS (G.take q) (fun _ => true) 0 (os ++ recO (F.take q))) (i + q) io d x s
  | [], i, φ, id, os, F, G, h => by simp [runR] at h; obtain ⟨rfl, rfl⟩ := h; exact ⟨rfl, rfl, fun q io hi => by simp at hi⟩
  | o :: l, i, φ, id, os, F, G, h => by
    simp only [runR] at h
    split at h
    · rename_i hf
      obtain ⟨⟨b0, d0⟩, hr, h⟩ := Option.bind_eq_some_iff.1 h
      obtain ⟨⟨b, F', G'⟩, h1, h2⟩ := Option.map_eq_some_iff.1 h
      simp at h2
      obtain ⟨⟨rfl, rfl⟩, rfl, rfl⟩ := h2
      obtain ⟨k1, k2, k3⟩ := runR_at h1
      refine ⟨by simp [k1], by simp [k2], fun q io hi => ?_⟩
      cases q with
      | zero => simp at hi; subst hi; exact ⟨d0, none, none, rfl, rfl, .frame hf hr⟩
      | succ q =>
        obtain ⟨d, x, s, w1, w2, w3⟩ := k3 q io (by simpa using hi)
        refine ⟨d, x, s, by simpa using w1, by simpa using w2, ?_⟩
        simp only [List.take_succ_cons, recφ, place, lookS, recO]
        rw [lookS_true _ 1 0, show i + (q + 1) = i + 1 + q by omega]
        exact w3
    · rename_i hf0
      split at h
      · rename_i hf
        obtain ⟨⟨b0, d0⟩, hr, h⟩ := Option.bind_eq_some_iff.1 h
        obtain ⟨⟨b, F', G'⟩, h1, h2⟩ := Option.map_eq_some_iff.1 h
        simp at h2
        obtain ⟨⟨rfl, rfl⟩, rfl, rfl⟩ := h2
        obtain ⟨k1, k2, k3⟩ := runR_at h1
        refine ⟨by simp [k1], by simp [k2], fun q io hi => ?_⟩
        cases q with
        | zero => simp at hi; subst hi; exact ⟨d0, none, none, rfl, rfl, .look hf hr⟩
        | succ q =>
          obtain ⟨d, x, s, w1, w2, w3⟩ := k3 q io (by simpa using hi)
          refine ⟨d, x, s, by simpa using w1, by simpa using w2, ?_⟩
          simp only [List.take_succ_cons, recφ, place, lookS, recO]
          rw [lookS_true _ 1 0, show i + (q + 1) = i + 1 + q by omega]
          exact w3
      rename_i hf
      have hf : o.ex rs i = false := by simp only [IOp.ex, Bool.or_eq_false_iff]; exact ⟨by simpa using hf0, by simpa using hf⟩
      split at h
      · rename_i hik
        split at h
        · rename_i r hr
          obtain ⟨⟨b, F', G'⟩, h1, h2⟩ := Option.map_eq_some_iff.1 h
          obtain ⟨b0, d0⟩ := r
          simp at h2
          obtain ⟨⟨rfl, rfl⟩, rfl, rfl⟩ := h2
          obtain ⟨k1, k2, k3⟩ := runR_at h1
          refine ⟨by simp [k1], by simp [k2], fun q io hi => ?_⟩
          cases q with
          | zero => simp at hi; subst hi; exact ⟨d0, none, none, rfl, rfl, .read hf hik hr⟩
          | succ q =>
            obtain ⟨d, x, s, w1, w2, w3⟩ := k3 q io (by simpa using hi)
            refine ⟨d, x, s, by simpa using w1, by simpa using w2, ?_⟩
            simp only [List.take_succ_cons, recφ, place, lookS, recO]
            rw [lookS_true _ 1 0, show i + (q + 1) = i + 1 + q by omega]
            exact w3
        · split at h
          · rename_i r hr
            obtain ⟨⟨b, F', G'⟩, h1, h2⟩ := Option.map_eq_some_iff.1 h
            obtain ⟨b0, d0⟩ := r
            simp at h2
            obtain ⟨⟨rfl, rfl⟩, rfl, rfl⟩ := h2
            obtain ⟨k1, k2, k3⟩ := runR_at h1
            refine ⟨by simp [k1], by simp [k2], fun q io hi => ?_⟩
            cases q with
            | zero => simp at hi; subst hi; exact ⟨d0, none, none, rfl, rfl, .near hf hik (by simpa [recO, lookS, recφ] using hr)⟩
            | succ q =>
              obtain ⟨d, x, s, w1, w2, w3⟩ := k3 q io (by simpa using hi)
              refine ⟨d, x, s, by simpa using w1, by simpa using w2, ?_⟩
              simp only [List.take_succ_cons, recφ, place, lookS, recO]
              rw [lookS_true _ 1 0, show i + (q + 1) = i + 1 + q by omega]
              exact w3
          · obtain ⟨⟨b0, d0, x0⟩, hr, h⟩ := Option.bind_eq_some_iff.1 h
            obtain ⟨⟨b, F', G'⟩, h1, h2⟩ := Option.map_eq_some_iff.1 h
            simp at h2
            obtain ⟨⟨rfl, rfl⟩, rfl, rfl⟩ := h2
            obtain ⟨k1, k2, k3⟩ := runR_at h1
            refine ⟨by simp [k1], by simp [k2], fun q io hi => ?_⟩
            cases q with
            | zero => simp at hi; subst hi; exact ⟨d0, some x0, none, rfl, rfl, .make hf hik hr⟩
            | succ q =>
              obtain ⟨d, x, s, w1, w2, w3⟩ := k3 q io (by simpa using hi)
              refine ⟨d, x, s, by simpa using w1, by simpa using w2, ?_⟩
              simp only [List.take_succ_cons, recφ, place, lookS, recO]
              rw [lookS_true _ 1 0, show i + (q + 1) = i + 1 + q by omega, show id + (place F' q + 1) = id + 1 + place F' q by omega]
              rw [List.append_assoc] at w3
              exact w3
      · rename_i hik
        obtain ⟨⟨b0, d0, s0⟩, hr, h⟩ := Option.bind_eq_some_iff.1 h
        obtain ⟨⟨b, F', G'⟩, h1, h2⟩ := Option.map_eq_some_iff.1 h
        simp at h2
        obtain ⟨⟨rfl, rfl⟩, rfl, rfl⟩ := h2
        obtain ⟨k1, k2, k3⟩ := runR_at h1
        refine ⟨by simp [k1], by simp [k2], fun q io hi => ?_⟩
        cases q with
        | zero => simp at hi; subst hi; exact ⟨d0, none, some s0, rfl, rfl, .turn hf (by omega) (by simpa [recO, lookS, recφ] using hr)⟩
        | succ q =>
          obtain ⟨d, x, s, w1, w2, w3⟩ := k3 q io (by simpa using hi)
          refine ⟨d, x, s, by simpa using w1, by simpa using w2, ?_⟩
          rw [runR_late (by omega) h1 q, List.append_nil] at w3
          simp only [List.take_succ_cons, recφ, place, lookS, recO, if_true]
          rw [lookS_true _ 1 0, show i + (q + 1) = i + 1 + q by omega]
          exact w3

/-- Edges that bind. -/
def aft (o : Oper) : List Nat := (o.after.toList.filter (Region.binds .any)).map (·.on)
def maskL (acc : List Nat) : List Nat → Nat
  | [] => 0
  | j :: l => (2 ^ j ||| acc.getD j 0) ||| maskL acc l
/-- All that comes before, as bits. -/
def below : List Nat → List Oper → List Nat
  | acc, [] => acc
  | acc, o :: l => below (acc ++ [maskL acc (aft o)]) l
def backB : Nat → List Oper → Bool
  | _, [] => true
  | i, o :: l => (aft o).all (fun j => Nat.blt j i) && backB (i + 1) l
def ownB1 (t : Nat) : List IOp → Bool
  | [] => true
  | y :: l => (match y.dst with | some u => !(Nat.beq t u) | none => true) && ownB1 t l
def ownB : List IOp → Bool
  | [] => true
  | x :: l => (match x.dst with | some t => ownB1 t l | none => true) && ownB l
def rdB1 (i : Nat) (rs af : List Nat) : Nat → List (IOp × Oper) → Bool
  | _, [] => true
  | j, (y, p) :: l => (match y.dst with | some u => !(memB u rs) || ((Nat.blt j i && memB j af) || (Nat.blt i j && memB i (aft p))) | none => true) && rdB1 i rs af (j + 1) l
def rdB (all : List (IOp × Oper)) : Nat → List (IOp × Oper) → Bool
  | _, [] => true
  | i, (x, o) :: l => rdB1 i x.reads (aft o) 0 all && rdB all (i + 1) l
def tailB (k : Nat) (rs : List Nat) : Nat → Nat → List Nat → List IOp → Bool
  | i, m, c :: l, o :: il => (o.ex rs i || (Nat.blt i k || Nat.beq (Nat.land c m) m)) && tailB k rs (i + 1) (if o.ex rs i then m else m ||| 2 ^ i) l il
  | _, _, _, _ => true
/-- The looks at a region that its text tells: what looks at the frame alone may come whenever the edges allow it; of the others the first ones too; from k on each comes behind all others that stand ahead of it. -/
def drawOk (ops : List Oper) (il : List IOp) (k : Nat) (rs : List Nat) : Bool :=
  backB 0 ops && (ownB il && (rdB (il.zip ops) 0 (il.zip ops) && tailB k rs 0 0 (below [] ops) il))

theorem memB_iff {t : Nat} : ∀ {l : List Nat}, memB t l = true ↔ t ∈ l
  | [] => by simp [memB]
  | u :: l => by simp [memB, memB_iff]
theorem backB_spec : ∀ {l : List Oper} {i : Nat}, backB i l = true → ∀ q o, l[q]? = some o → ∀ j ∈ aft o, j < i + q
  | [], _, _, q, o, h => by simp at h
  | p :: l, i, hb, q, o, h => by
    simp only [backB, Bool.and_eq_true] at hb
    intro j hj
    cases q with
    | zero => simp at h; subst h; have := List.all_eq_true.1 hb.1 j hj; simpa [Nat.blt_eq] using this
    | succ q => have := backB_spec hb.2 q o (by simpa using h) j hj; omega
theorem ownB1_spec {t : Nat} : ∀ {l : List IOp}, ownB1 t l = true → ∀ (j : Nat) (y : IOp), l[j]? = some y → y.dst ≠ some t
  | [], _, j, y, h => by simp at h
  | z :: l, hb, j, y, h => by
    simp only [ownB1, Bool.and_eq_true] at hb
    cases j with
    | zero =>
      simp at h; subst h
      intro he
      rw [he] at hb
      simp at hb
    | succ j => exact ownB1_spec hb.2 j y (by simpa using h)
theorem ownB_spec : ∀ {l : List IOp}, ownB l = true → ∀ (i j : Nat) (x y : IOp) (t : Nat), l[i]? = some x → l[j]? = some y → x.dst = some t → y.dst = some t → i = j
  | [], _, i, j, x, y, t, h, _, _, _ => by simp at h
  | z :: l, hb, i, j, x, y, t, hi, hj, hx, hy => by
    simp only [ownB, Bool.and_eq_true] at hb
    cases i with
    | zero =>
      cases j with
      | zero => rfl
      | succ j =>
        simp at hi; subst hi
        rw [hx] at hb
        exact absurd hy (ownB1_spec hb.1 j y (by simpa using hj))
    | succ i =>
      cases j with
      | zero =>
        simp at hj; subst hj
        rw [hy] at hb
        exact absurd hx (ownB1_spec hb.1 i x (by simpa using hi))
      | succ j => rw [ownB_spec hb.2 i j x y t (by simpa using hi) (by simpa using hj) hx hy]
theorem rdB1_spec {i : Nat} {rs af : List Nat} : ∀ {l : List (IOp × Oper)} {j : Nat}, rdB1 i rs af j l = true → ∀ (q : Nat) (y : IOp) (p : Oper) (u : Nat), l[q]? = some (y, p) → y.dst = some u → u ∈ rs → (j + q < i ∧ j + q ∈ af) ∨ (i < j + q ∧ i ∈ aft p)
  | [], _, _, q, y, p, u, h, _, _ => by simp at h
  | (z, r) :: l, j, hb, q, y, p, u, h, hy, hu => by
    simp only [rdB1, Bool.and_eq_true] at hb
    cases q with
    | zero =>
      simp at h
      obtain ⟨rfl, rfl⟩ := h
      rw [hy] at hb
      simp only [Bool.or_eq_true, Bool.not_eq_true', Bool.and_eq_true, Nat.blt_eq, memB_iff] at hb
      rcases hb.1 with h | h
      · have := memB_iff.2 hu; rw [h] at this; cases this
      · simpa using h
    | succ q =>
      have := rdB1_spec hb.2 q y p u (by simpa using h) hy hu
      rw [show j + (q + 1) = j + 1 + q by omega]; exact this
theorem rdB_spec {all : List (IOp × Oper)} : ∀ {l : List (IOp × Oper)} {i : Nat}, rdB all i l = true → ∀ (q : Nat) (x : IOp) (o : Oper), l[q]? = some (x, o) → rdB1 (i + q) x.reads (aft o) 0 all = true
  | [], _, _, q, x, o, h => by simp at h
  | (z, r) :: l, i, hb, q, x, o, h => by
    simp only [rdB, Bool.and_eq_true] at hb
    cases q with
    | zero => simp at h; obtain ⟨rfl, rfl⟩ := h; exact hb.1
    | succ q => have := rdB_spec hb.2 q x o (by simpa using h); rw [show i + (q + 1) = i + 1 + q by omega]; exact this
theorem tailB_spec {k : Nat} {rs : List Nat} : ∀ {l : List Nat} {il : List IOp} {i m : Nat}, tailB k rs i m l il = true → ∀ (q c : Nat) (o : IOp), l[q]? = some c → il[q]? = some o → o.ex rs (i + q) = false → k ≤ i + q →
    (∀ t, m.testBit t = true → c.testBit t = true) ∧ ∀ (j : Nat) (y : IOp), j < q → il[j]? = some y → y.ex rs (i + j) = false → c.testBit (i + j) = true
  | [], _, _, _, _, q, c, o, h, _, _, _ => by simp at h
  | _ :: _, [], _, _, _, q, c, o, _, h, _, _ => by simp at h
  | z :: l, x :: il, i, m, hb, q, c, o, h, ho, hf, hk => by
    simp only [tailB, Bool.and_eq_true] at hb
    cases q with
    | zero =>
      simp at h ho; subst h; subst ho
      have hik : Nat.blt i k = false := by
        cases hb' : Nat.blt i k with
        | false => rfl
        | true => rw [Nat.blt_eq] at hb'; omega
      rw [Nat.add_zero] at hf
      rw [hf, hik] at hb
      simp only [Bool.false_or, Nat.beq_eq] at hb
      refine ⟨fun t ht => ?_, fun j y hj => by omega⟩
      have : (Nat.land z m).testBit t = true := by rw [hb.1]; exact ht
      have h2 : (z &&& m).testBit t = true := this
      rw [Nat.testBit_and, Bool.and_eq_true] at h2
      exact h2.1
    | succ q =>
      obtain ⟨h1, h2⟩ := tailB_spec hb.2 q c o (by simpa using h) (by simpa using ho) (by rw [show i + 1 + q = i + (q + 1) by omega]; exact hf) (by omega)
      have hsub : ∀ t, m.testBit t = true → c.testBit t = true := fun t ht => h1 t (by
        split
        · exact ht
        · rw [Nat.testBit_or, ht]; rfl)
      refine ⟨hsub, fun j y hj hy hyf => ?_⟩
      cases j with
      | zero =>
        simp at hy; subst hy
        rw [Nat.add_zero] at hyf ⊢
        refine h1 i ?_
        rw [hyf]
        simp [Nat.testBit_or]
      | succ j =>
        have := h2 j y (by omega) (by simpa using hy) (by rw [show i + 1 + j = i + (j + 1) by omega]; exact hyf)
        rw [show i + (j + 1) = i + 1 + j by omega]; exact this
theorem maskL_bit {acc : List Nat} {q : Nat} : ∀ {l : List Nat}, (maskL acc l).testBit q = true → ∃ j ∈ l, q = j ∨ (acc.getD j 0).testBit q = true
  | [], h => by simp [maskL] at h
  | j :: l, h => by
    simp only [maskL, Nat.testBit_or, Bool.or_eq_true, Nat.testBit_two_pow, decide_eq_true_eq] at h
    rcases h with (h | h) | h
    · exact ⟨j, by simp, .inl h.symm⟩
    · exact ⟨j, by simp, .inr h⟩
    · obtain ⟨j', h1, h2⟩ := maskL_bit h
      exact ⟨j', by simp [h1], h2⟩

/-- A set of operations with all that comes before. -/
def Closed (ops : List Oper) (dn : Nat → Bool) : Prop := ∀ (i : Nat) (o : Oper), ops[i]? = some o → dn i = true → ∀ j ∈ aft o, dn j = true

theorem below_get : ∀ (l pre : List Oper) (acc : List Nat), acc.length = pre.length → (∀ (i : Nat) (c : Nat), acc[i]? = some c → ∀ dn : Nat → Bool, Closed (pre ++ l) dn → ((pre ++ l)[i]?).any (fun o => (aft o).all dn) = true → ∀ j, c.testBit j = true → dn j = true) →
    (∀ (i : Nat) (o : Oper), (pre ++ l)[i]? = some o → ∀ j ∈ aft o, j < i) →
    (below acc l).length = (pre ++ l).length ∧ ∀ (i : Nat) (c : Nat), (below acc l)[i]? = some c → ∀ dn : Nat → Bool, Closed (pre ++ l) dn → ((pre ++ l)[i]?).any (fun o => (aft o).all dn) = true → ∀ j, c.testBit j = true → dn j = true
  | [], pre, acc, hl, h, _ => ⟨by simpa [below] using hl, by simpa [below] using h⟩
  | o :: l, pre, acc, hl, h, hb => by
    have e : pre ++ o :: l = (pre ++ [o]) ++ l := by simp
    have := below_get l (pre ++ [o]) (acc ++ [maskL acc (aft o)]) (by simp [hl]) (by
      rw [← e]
      intro i c hc dn hcl hd j hj
      by_cases hi : i < acc.length
      · rw [List.getElem?_append_left hi] at hc
        exact h i c hc dn hcl hd j hj
      · have hlt := (List.getElem?_eq_some_iff.1 hc).1
        simp at hlt
        have hi' : i = acc.length := by omega
        subst hi'
        rw [List.getElem?_append_right (Nat.le_refl _)] at hc
        simp at hc
        subst hc
        have ho : (pre ++ o :: l)[acc.length]? = some o := by rw [hl, List.getElem?_append_right (Nat.le_refl _)]; simp
        rw [ho] at hd
        simp only [Option.any_some] at hd
        have hall := List.all_eq_true.1 hd
        obtain ⟨m, hm, hj⟩ := maskL_bit hj
        have hmd := hall m hm
        rcases hj with rfl | hj
        · exact hmd
        · have hml := hb _ o ho m hm
          have hma : acc[m]? = some (acc[m]'hml) := List.getElem?_eq_getElem hml
          have hmo : ∃ om, (pre ++ o :: l)[m]? = some om := ⟨_, List.getElem?_eq_getElem (by simp; omega)⟩
          obtain ⟨om, hom⟩ := hmo
          simp only [List.getD, hma, Option.getD_some] at hj
          refine h m _ hma dn hcl ?_ j hj
          rw [hom]
          simp only [Option.any_some]
          exact List.all_eq_true.2 (fun q hq => hcl m om hom hmd q hq)) (by rw [← e]; exact hb)
    rw [← e] at this
    exact this


end Go.Ab
