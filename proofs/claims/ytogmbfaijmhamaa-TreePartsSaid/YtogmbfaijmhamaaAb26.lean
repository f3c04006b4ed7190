/- Tables of contracts. -/
import Derived.Test.YtogmbfaijmhamaaAb25
namespace Go.Ab
open Go.RowKit Go.Bo

mutual
def idsD : D → List Nat
  | .ref id _ _ _ => [id]
  | .ptr id _ => [id]
  | .eptr id _ _ _ => [id]
  | .agg ds => idsL ds
  | .tup ds => idsL ds
  | .fn _ caps => idsL caps
  | .opt _ d => idsD d
  | .x _ => []
  | .vptr _ => []
  | .full _ => []
  | .nz _ => []
  | .und => []
def idsL : List D → List Nat
  | [] => []
  | d :: l => idsD d ++ idsL l
end
def idsO : Ob → List Nat
  | .box ds => idsL ds
  | _ => []
/-- All objects that one comes to. -/
def reach (OS : List Ob) : Nat → List Nat → List Nat → List Nat
  | 0, _, acc => acc
  | _ + 1, [], acc => acc
  | n + 1, i :: l, acc => if memB i acc then reach OS n l acc else reach OS n (idsO (OS.getD i .dead) ++ l) (acc ++ [i])
def nodupB : List Nat → Bool
  | [] => true
  | i :: l => !(memB i l) && nodupB l
theorem nodupB_spec : ∀ {l : List Nat}, nodupB l = true → l.Nodup
  | [], _ => List.nodup_nil
  | i :: l, h => by
    simp only [nodupB, Bool.and_eq_true, Bool.not_eq_true'] at h
    refine List.nodup_cons.2 ⟨fun hm => ?_, nodupB_spec h.2⟩
    have := memB_iff.2 hm
    rw [h.1] at this; cases this
def fpOk (ρ : List Nat) (args : List D) (OS : List Ob) : Bool :=
  ρ.all (fun r => decide (r < OS.length)) && (inL (fun i => memB i ρ) args && ((ρ.all fun r => (OS.getD r .dead).inP fun i => memB i ρ) && nodupB ρ))
/-- A contract, wherever its objects stand. -/
def liftT (h : List D → List Ob → Option (Bool × D × List Ob)) (args : List D) (OS : List Ob) : Option (Bool × D × List Ob) :=
  if fpOk (reach OS 64 (idsL args) []) args OS = true then
    (h (renL (inv (reach OS 64 (idsL args) [])) args) (fpO (reach OS 64 (idsL args) []) OS)).bind fun q =>
      if (reach OS 64 (idsL args) []).length ≤ q.2.2.length then some (q.1, q.2.1.ren (fpF (reach OS 64 (idsL args) []) OS.length q.2.2.length), fpO' (reach OS 64 (idsL args) []) OS q.2.2) else none
  else none

section
variable {P : Program}

theorem FCalls.lift {f : FuncId} {ρ : List Nat} {args : List D} {OS : List Ob} {Post : D → List Ob → Prop} (hok : fpOk ρ args OS = true) (h : FCalls P f (renL (inv ρ) args) (fpO ρ OS) Post) (hl : ∀ r os', Post r os' → ρ.length ≤ os'.length) :
    FCalls P f args OS (fun r' OS' => ∃ r os', Post r os' ∧ r' = r.ren (fpF ρ OS.length os'.length) ∧ OS' = fpO' ρ OS os') := by
  simp only [fpOk, Bool.and_eq_true] at hok
  obtain ⟨h1, h2, h3, h4⟩ := hok
  have hn := nodupB_spec h4
  have hlt : ∀ r ∈ ρ, r < OS.length := fun r hr => by simpa using List.all_eq_true.1 h1 r hr
  have hcl : ∀ r ∈ ρ, (OS.getD r .dead).inP (fun i => memB i ρ) = true := fun r hr => List.all_eq_true.1 h3 r hr
  intro c E vs R hvl
  have hvl' : VL (fpE ρ E) (fpO ρ OS) (renL (inv ρ) args) vs := by
    refine ⟨by rw [renL_map]; simpa using hvl.1, fun j d v hd hv => ?_⟩
    rw [renL_map, List.getElem?_map] at hd
    obtain ⟨d0, h0, rfl⟩ := Option.map_eq_some_iff.1 hd
    rw [inL_all] at h2
    exact (hvl.2 j d0 v h0 hv).monoR (fp_evo R hlt) (List.all_eq_true.1 h2 d0 (List.mem_of_getElem? h0))
  refine (h _ (fpE ρ E) vs (fp_rel R hn hlt hcl) hvl').mono ?_
  rintro e w' ⟨v, E1, r, os', rfl, rfl, R1, ev, hv, hp⟩
  obtain ⟨k1, k2, k3⟩ := fp_back R hn hlt R1 ev (hl r os' hp)
  exact ⟨v, fpE' ρ E E1, _, _, rfl, rfl, k1, k2, k3 r v hv, r, os', hp, rfl, rfl⟩

theorem MCalls.lift {f : FuncId} {h : List D → List Ob → Option (Bool × D × List Ob)} (hh : ∀ args os r os', h args os = some (true, r, os') → MCalls P f args os r os') :
    ∀ args OS r OS', liftT h args OS = some (true, r, OS') → MCalls P f args OS r OS' := by
  intro args OS r OS' hl
  unfold liftT at hl
  split at hl
  · rename_i hok
    obtain ⟨⟨b, r1, os'⟩, h1, h2⟩ := Option.bind_eq_some_iff.1 hl
    simp only at h2
    split at h2
    · rename_i hlen
      simp only [Option.some.injEq, Prod.mk.injEq] at h2
      obtain ⟨rfl, rfl, rfl⟩ := h2
      have hm := hh _ _ _ _ h1
      have hf : FCalls P f (renL (inv (reach OS 64 (idsL args) [])) args) (fpO (reach OS 64 (idsL args) []) OS) (fun r' os2 => r' = r1 ∧ os2 = os') := by
        intro c E vs R hvl
        refine (hm c E vs R hvl).mono ?_
        rintro e w' ⟨v, E', rfl, rfl, R', ev, hv⟩
        exact ⟨v, E', _, _, rfl, rfl, R', ev, hv, rfl, rfl⟩
      refine FCalls.mcalls (fun c E vs R hvl => ((FCalls.lift hok hf (fun r os' ⟨_, h⟩ => by rw [h]; exact hlen)) c E vs R hvl).mono ?_)
      rintro e w' ⟨v, E', r2, os2, rfl, rfl, R', ev, hv, r3, os3, ⟨rfl, rfl⟩, rfl, rfl⟩
      exact ⟨v, E', _, _, rfl, rfl, R', ev, hv, rfl, rfl⟩
    · cases h2
  · cases hl

/-- No contracts. -/
def noTabs : Tabs := ⟨fun _ _ => none, fun _ _ _ => none, fun _ _ _ => none, fun _ _ _ => none⟩
theorem noTabs_ok : SsOk P noTabs := ⟨fun _ _ _ h => (by cases h), fun _ _ _ _ _ h => (by cases h), fun _ _ _ _ h => (by cases h), fun _ _ _ _ _ h => (by cases h)⟩
/-- One contract more: of a function that looks at no objects. -/
def addQ (S : Tabs) (f : FuncId) (g : List D → Option (Bool × D)) : Tabs := ⟨fun f' args => if f' = f then g args else S.q f' args, S.t, S.r, S.k⟩
/-- Of one that does. -/
def addT (S : Tabs) (f : FuncId) (h : List D → List Ob → Option (Bool × D × List Ob)) : Tabs := ⟨S.q, fun f' args os => if f' = f then liftT h args os else S.t f' args os, S.r, S.k⟩
theorem addQ_ok {S : Tabs} (hS : SsOk P S) {f : FuncId} {g : List D → Option (Bool × D)} (he : Enters P f) (hg : ∀ args r, g args = some (true, r) → PCalls P f args r) : SsOk P (addQ S f g) := by
  refine ⟨fun f' args r h => ?_, hS.t, hS.r, hS.k⟩
  simp only [addQ] at h
  split at h
  · rename_i hf; subst hf; exact ⟨he, hg args r h⟩
  · exact hS.q f' args r h
theorem addT_ok {S : Tabs} (hS : SsOk P S) {f : FuncId} {h : List D → List Ob → Option (Bool × D × List Ob)} (he : Enters P f) (hh : ∀ args os r os', h args os = some (true, r, os') → MCalls P f args os r os') : SsOk P (addT S f h) := by
  refine ⟨hS.q, fun f' args os r os' hr => ?_, hS.r, hS.k⟩
  simp only [addT] at hr
  split at hr
  · rename_i hf; subst hf; exact ⟨he, MCalls.lift hh args os r os' hr⟩
  · exact hS.t f' args os r os' hr
end
end Go.Ab
