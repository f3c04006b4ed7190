/- A contract serves wherever its objects stand. -/
import Derived.Test.YtogmbfaijmhamaaAb22
namespace Go.Ab
open Go.RowKit Go.Bo

mutual
/-- Other numbers for objects. -/
def D.ren (f : Nat → Nat) : D → D
  | .ref id a b c => .ref (f id) a b c
  | .ptr id o => .ptr (f id) o
  | .eptr id a b c => .eptr (f id) a b c
  | .agg ds => .agg (renL f ds)
  | .tup ds => .tup (renL f ds)
  | .fn g caps => .fn g (renL f caps)
  | .opt b d => .opt b (d.ren f)
  | .x y => .x y
  | .vptr cs => .vptr cs
  | .full rs => .full rs
  | .nz rs => .nz rs
  | .und => .und
def renL (f : Nat → Nat) : List D → List D
  | [] => []
  | d :: l => d.ren f :: renL f l
end
mutual
/-- The numbers of the objects that it names. -/
def D.inP (p : Nat → Bool) : D → Bool
  | .ref id _ _ _ => p id
  | .ptr id _ => p id
  | .eptr id _ _ _ => p id
  | .agg ds => inL p ds
  | .tup ds => inL p ds
  | .fn _ caps => inL p caps
  | .opt _ d => d.inP p
  | .x _ => true
  | .vptr _ => true
  | .full _ => true
  | .nz _ => true
  | .und => true
def inL (p : Nat → Bool) : List D → Bool
  | [] => true
  | d :: l => d.inP p && inL p l
end
def Ob.ren (f : Nat → Nat) : Ob → Ob
  | .box ds => .box (renL f ds)
  | .rows fz e sz rs => .rows fz e sz rs
  | .frz sz rs => .frz sz rs
  | .dead => .dead
def Ob.inP (p : Nat → Bool) : Ob → Bool
  | .box ds => inL p ds
  | _ => true

theorem renL_map (f : Nat → Nat) : ∀ l, renL f l = l.map (D.ren f)
  | [] => rfl
  | d :: l => by simp [renL, renL_map f l]
theorem inL_all (p : Nat → Bool) : ∀ l, inL p l = l.all (D.inP p)
  | [] => rfl
  | d :: l => by simp [inL, inL_all p l]

/-- What was known stays known, under other numbers. -/
structure EvoR (f : Nat → Nat) (p : Nat → Bool) (E : Env) (os : List Ob) (E' : Env) (os' : List Ob) : Prop where
  st : ∀ b o, E.st b o → E'.st b o ∧ E'.w.cell? ⟨b, o, none⟩ = E.w.cell? ⟨b, o, none⟩
  bl : ∀ (id b : Nat) (cu : Value) (ds : List D), p id = true → os[id]? = some (.box ds) → E.ob[id]? = some (b, cu) → ∃ cu' ds', os'[f id]? = some (.box ds') ∧ E'.ob[f id]? = some (b, cu')
  rf : ∀ (id : Nat) (o : Ob) (sz : Nat) (rs : List (List X)), p id = true → os[id]? = some o → o.slice? = some (sz, rs) →
    ∃ o' rs', os'[f id]? = some o' ∧ o'.slice? = some (sz, rs') ∧ ((rs.length = rs'.length ∧ E'.ob[f id]? = E.ob[id]?) ∨ rs.length < rs'.length)

theorem V.monoR {f : Nat → Nat} {p : Nat → Bool} {E E' : Env} {os os' : List Ob} (e : EvoR f p E os E' os') {d : D} {v : Value} (h : V E os d v) : d.inP p = true → V E' os' (d.ren f) v := by
  have lst : ∀ {ds : List D} {vs : Array Value}, (∀ (j : Nat) (d : D) (v : Value), ds[j]? = some d → vs[j]? = some v → d.inP p = true → V E' os' (d.ren f) v) → inL p ds = true → ∀ (j : Nat) (d : D) (v : Value), (renL f ds)[j]? = some d → vs[j]? = some v → V E' os' d v := by
    intro ds vs ih hp j d v hd hv
    rw [renL_map, List.getElem?_map] at hd
    obtain ⟨d0, h0, rfl⟩ := Option.map_eq_some_iff.1 hd
    rw [inL_all] at hp
    exact ih j d0 v h0 hv (List.all_eq_true.1 hp d0 (List.mem_of_getElem? h0))
  induction h with
  | x h => intro _; exact .x (h.mono e.st)
  | ref h h1 =>
    intro hp
    obtain ⟨o, sz, rs, g1, g2, g3, g4⟩ := h
    obtain ⟨o', rs', k1, k2, k3⟩ := e.rf _ o sz rs hp g1 g2
    refine .ref ⟨o', sz, rs', k1, k2, ?_⟩ h1
    rcases k3 with ⟨k3, k4⟩ | k3
    · refine ⟨by omega, fun hl => ?_⟩
      obtain ⟨h5, b, a, cap, a', cap', h6, h7⟩ := g4 (by omega)
      exact ⟨h5, b, a, cap, a', cap', k4.trans h6, h7⟩
    · exact ⟨by omega, fun hl => absurd hl (by omega)⟩
  | ptr ho h => intro hp; obtain ⟨cu', ds', h1, h2⟩ := e.bl _ _ _ _ hp ho h; exact .ptr h1 h2
  | eptr h h1 =>
    intro hp
    obtain ⟨o, sz, rs, g1, g2, g3, g4⟩ := h
    obtain ⟨o', rs', k1, k2, k3⟩ := e.rf _ o sz rs hp g1 g2
    refine .eptr ⟨o', sz, rs', k1, k2, ?_⟩ h1
    rcases k3 with ⟨k3, k4⟩ | k3
    · refine ⟨by omega, fun hl => ?_⟩
      obtain ⟨h5, b, g, cap, h6, h7⟩ := g4 (by omega)
      exact ⟨h5, b, g, cap, k4.trans h6, h7⟩
    · exact ⟨by omega, fun hl => absurd hl (by omega)⟩
  | vptr b off val hc hv => intro _; exact .vptr b off val (fun j x hj => ⟨(e.st _ _ (hc j x hj).1).1, by rw [(e.st _ _ (hc j x hj).1).2]; exact (hc j x hj).2⟩) (fun j x hj => (hv j x hj).mono e.st)
  | agg vs hl h1 _ ih => intro hp; exact .agg vs (by rw [renL_map]; simpa using hl) h1 (lst ih hp)
  | tup vs hl _ ih => intro hp; exact .tup vs (by rw [renL_map]; simpa using hl) (lst ih hp)
  | full n h => intro _; exact .full n (h.mono e.st)
  | nz h => intro _; exact .nz (h.mono e.st)
  | fn vs hl _ ih => intro hp; exact .fn vs (by rw [renL_map]; simpa using hl) (lst ih hp)
  | opt _ h' ih => intro hp; exact .opt (fun hb => ih hb hp) h'
  | und v => intro _; exact .und v

theorem Ob.ren_slice (f : Nat → Nat) (o : Ob) : (o.ren f).slice? = o.slice? := by cases o <;> rfl
theorem Ob.ren_mb (f : Nat → Nat) (o : Ob) (q : Nat × Value) : (o.ren f).mb q = o.mb q := by cases o <;> rfl

theorem OK.monoR {f : Nat → Nat} {p : Nat → Bool} {E E' : Env} {os os' : List Ob} (e : EvoR f p E os E' os') {o : Ob} {q : Nat × Value} (hb : ∀ b, o.mb q = some b → E'.w.heap[b]? = E.w.heap[b]?) (h : OK E os o q) (hp : o.inP p = true) : OK E' os' (o.ren f) q := by
  cases o with
  | box ds =>
    obtain ⟨cs, ty, h1, h2, h3⟩ := h
    refine ⟨cs, ty, by rw [hb _ rfl]; exact h1, by rw [renL_map]; simpa using h2, fun j d v hd hv => ?_⟩
    rw [renL_map, List.getElem?_map] at hd
    obtain ⟨d0, h0, rfl⟩ := Option.map_eq_some_iff.1 hd
    simp only [Ob.inP, inL_all] at hp
    exact ⟨(h3 j d0 v h0 hv).1.monoR e (List.all_eq_true.1 hp d0 (List.mem_of_getElem? h0)), (h3 j d0 v h0 hv).2⟩
  | rows fz el sz rs =>
    obtain ⟨xs, h1, h2, h3⟩ := h
    exact ⟨xs, h1.kept hb, h2, fun i r j x v hr hx hv => (h3 i r j x v hr hx hv).mono e.st⟩
  | frz sz rs => exact ⟨h.1.mono e.st, h.2⟩
  | dead => trivial

/-- Where a number stands in a list. -/
def inv : List Nat → Nat → Nat
  | [], _ => 0
  | r :: l, i => if i = r then 0 else inv l i + 1
def setAll : List Ob → List Nat → List Ob → List Ob
  | OS, r :: ρ, o :: os => setAll (OS.set r o) ρ os
  | OS, _, _ => OS
def setAllE : List (Nat × Value) → List Nat → List (Nat × Value) → List (Nat × Value)
  | l, r :: ρ, o :: os => setAllE (l.set r o) ρ os
  | l, _, _ => l

theorem inv_get : ∀ {ρ : List Nat} {i : Nat}, i ∈ ρ → ρ[inv ρ i]? = some i
  | r :: l, i, h => by
    simp only [inv]
    split
    · rename_i h1; subst h1; rfl
    · rename_i h1
      simp only [List.getElem?_cons_succ]
      exact inv_get (by simpa [h1] using h)
theorem inv_of : ∀ {ρ : List Nat}, ρ.Nodup → ∀ {i r : Nat}, ρ[i]? = some r → inv ρ r = i
  | [], _, i, r, h => by simp at h
  | q :: l, hn, i, r, h => by
    rw [List.nodup_cons] at hn
    cases i with
    | zero => simp at h; subst h; simp [inv]
    | succ i =>
      have h' : l[i]? = some r := by simpa using h
      have : r ∈ l := List.mem_of_getElem? h'
      have hne : r ≠ q := fun e => hn.1 (e ▸ this)
      simp only [inv, hne, if_false, inv_of hn.2 h']
theorem setAll_length : ∀ (ρ : List Nat) (os OS : List Ob), (setAll OS ρ os).length = OS.length
  | [], os, OS => by cases os <;> rfl
  | r :: ρ, [], OS => rfl
  | r :: ρ, o :: os, OS => by simp only [setAll]; rw [setAll_length ρ os]; simp
theorem setAll_out : ∀ (ρ : List Nat) (os OS : List Ob) (j : Nat), j ∉ ρ → (setAll OS ρ os)[j]? = OS[j]?
  | [], os, OS, j, _ => by cases os <;> rfl
  | r :: ρ, [], OS, j, _ => rfl
  | r :: ρ, o :: os, OS, j, h => by
    simp only [setAll]
    rw [setAll_out ρ os _ j (fun hm => h (by simp [hm])), List.getElem?_set_ne (fun e => h (by simp [e]))]
theorem setAll_in : ∀ (ρ : List Nat) (os OS : List Ob), ρ.Nodup → (∀ r ∈ ρ, r < OS.length) → ∀ (i r : Nat) (o : Ob), ρ[i]? = some r → os[i]? = some o → (setAll OS ρ os)[r]? = some o
  | [], os, OS, _, _, i, r, o, h, _ => by simp at h
  | q :: ρ, [], OS, _, _, i, r, o, _, h => by simp at h
  | q :: ρ, x :: os, OS, hn, hl, i, r, o, h, ho => by
    rw [List.nodup_cons] at hn
    simp only [setAll]
    cases i with
    | zero =>
      simp at h ho; subst h; subst ho
      rw [setAll_out ρ os _ _ hn.1, List.getElem?_set_self (hl _ (by simp))]
    | succ i => exact setAll_in ρ os _ hn.2 (fun r hr => by simp; exact hl r (by simp [hr])) i r o (by simpa using h) (by simpa using ho)
theorem setAllE_length : ∀ (ρ : List Nat) (os OS : List (Nat × Value)), (setAllE OS ρ os).length = OS.length
  | [], os, OS => by cases os <;> rfl
  | r :: ρ, [], OS => rfl
  | r :: ρ, o :: os, OS => by simp only [setAllE]; rw [setAllE_length ρ os]; simp
theorem setAllE_out : ∀ (ρ : List Nat) (os OS : List (Nat × Value)) (j : Nat), j ∉ ρ → (setAllE OS ρ os)[j]? = OS[j]?
  | [], os, OS, j, _ => by cases os <;> rfl
  | r :: ρ, [], OS, j, _ => rfl
  | r :: ρ, o :: os, OS, j, h => by
    simp only [setAllE]
    rw [setAllE_out ρ os _ j (fun hm => h (by simp [hm])), List.getElem?_set_ne (fun e => h (by simp [e]))]
theorem setAllE_in : ∀ (ρ : List Nat) (os OS : List (Nat × Value)), ρ.Nodup → (∀ r ∈ ρ, r < OS.length) → ∀ (i r : Nat) (o : Nat × Value), ρ[i]? = some r → os[i]? = some o → (setAllE OS ρ os)[r]? = some o
  | [], os, OS, _, _, i, r, o, h, _ => by simp at h
  | q :: ρ, [], OS, _, _, i, r, o, _, h => by simp at h
  | q :: ρ, x :: os, OS, hn, hl, i, r, o, h, ho => by
    rw [List.nodup_cons] at hn
    simp only [setAllE]
    cases i with
    | zero =>
      simp at h ho; subst h; subst ho
      rw [setAllE_out ρ os _ _ hn.1, List.getElem?_set_self (hl _ (by simp))]
    | succ i => exact setAllE_in ρ os _ hn.2 (fun r hr => by simp; exact hl r (by simp [hr])) i r o (by simpa using h) (by simpa using ho)

end Go.Ab
