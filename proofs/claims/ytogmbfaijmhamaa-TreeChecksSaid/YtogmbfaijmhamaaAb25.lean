/- A contract serves wherever its objects stand (2): the frame. -/
import Derived.Test.YtogmbfaijmhamaaAb24
namespace Go.Ab
open Go.RowKit Go.Bo

/-- The objects of a contract, as it numbers them. -/
def fpO (ρ : List Nat) (OS : List Ob) : List Ob := ρ.map fun r => (OS.getD r .dead).ren (inv ρ)
def fpE (ρ : List Nat) (E : Env) : Env := ⟨E.w, E.st, ρ.map fun r => E.ob.getD r (0, undef)⟩
/-- Where they stand behind the call. -/
def fpF (ρ : List Nat) (n _ : Nat) (i : Nat) : Nat := if i < ρ.length then ρ.getD i 0 else n + (i - ρ.length)
def fpO' (ρ : List Nat) (OS os' : List Ob) : List Ob := setAll OS ρ (os'.map (Ob.ren (fpF ρ OS.length os'.length))) ++ (os'.map (Ob.ren (fpF ρ OS.length os'.length))).drop ρ.length
def fpE' (ρ : List Nat) (E E1 : Env) : Env := ⟨E1.w, E1.st, setAllE E.ob ρ E1.ob ++ E1.ob.drop ρ.length⟩

theorem inP_true : ∀ d : D, d.inP (fun _ => true) = true := by
  intro d
  refine D.rec (motive_1 := fun d => d.inP (fun _ => true) = true) (motive_2 := fun l => inL (fun _ => true) l = true) ?_ ?_ ?_ ?_ ?_ ?_ ?_ ?_ ?_ ?_ ?_ ?_ ?_ ?_ d
  all_goals intros
  all_goals first | rfl | (simp only [D.inP, inL]; simp_all)
theorem Ob.inP_true (o : Ob) : o.inP (fun _ => true) = true := by
  cases o with
  | box ds => simp only [Ob.inP, inL_all]; exact List.all_eq_true.2 (fun d _ => Go.Ab.inP_true d)
  | _ => rfl

section
variable {c : Ctx} {E : Env} {OS : List Ob} {ρ : List Nat}

theorem fp_at (R : Rel c E OS) (hlt : ∀ r ∈ ρ, r < OS.length) {i : Nat} {o : Ob} (h : (fpO ρ OS)[i]? = some o) : ∃ r o0 p, ρ[i]? = some r ∧ OS[r]? = some o0 ∧ o = o0.ren (inv ρ) ∧ E.ob[r]? = some p ∧ (fpE ρ E).ob[i]? = some p := by
  simp only [fpO, List.getElem?_map, Option.map_eq_some_iff] at h
  obtain ⟨r, hr, rfl⟩ := h
  have hl := hlt r (List.mem_of_getElem? hr)
  have hob : E.ob[r]? = some (E.ob[r]'(by rw [R.len]; exact hl)) := List.getElem?_eq_getElem _
  refine ⟨r, OS[r]'hl, _, hr, List.getElem?_eq_getElem hl, by simp [List.getD, hl], hob, ?_⟩
  simp only [fpE, List.getElem?_map, hr, Option.map_some, List.getD, hob, Option.getD_some]

theorem fp_evo (R : Rel c E OS) (_ : ∀ r ∈ ρ, r < OS.length) : EvoR (inv ρ) (fun i => memB i ρ) E OS (fpE ρ E) (fpO ρ OS) := by
  have key : ∀ id o, memB id ρ = true → OS[id]? = some o → (fpO ρ OS)[inv ρ id]? = some (o.ren (inv ρ)) ∧ (fpE ρ E).ob[inv ρ id]? = E.ob[id]? := by
    intro id o hp ho
    have hr := inv_get (memB_iff.1 hp)
    have hl := (List.getElem?_eq_some_iff.1 ho).1
    have hob : E.ob[id]? = some (E.ob[id]'(by rw [R.len]; exact hl)) := List.getElem?_eq_getElem _
    refine ⟨by simp only [fpO, List.getElem?_map, hr, Option.map_some, List.getD, ho, Option.getD_some], by simp only [fpE, List.getElem?_map, hr, Option.map_some, List.getD, hob, Option.getD_some]⟩
  refine ⟨fun b o h => ⟨h, rfl⟩, fun id b cu ds hp ho hb => ?_, fun id o sz rs hp ho hs => ?_⟩
  · obtain ⟨k1, k2⟩ := key id _ hp ho
    exact ⟨cu, _, k1, k2.trans hb⟩
  · obtain ⟨k1, k2⟩ := key id _ hp ho
    exact ⟨_, rs, k1, by rw [Ob.ren_slice]; exact hs, .inl ⟨rfl, k2⟩⟩

/-- The contract's objects by themselves. -/
theorem fp_rel (R : Rel c E OS) (hn : ρ.Nodup) (hlt : ∀ r ∈ ρ, r < OS.length) (hcl : ∀ r ∈ ρ, (OS.getD r .dead).inP (fun i => memB i ρ) = true) : Rel ⟨E.w, E.st, Foot (fpE ρ E) (fpO ρ OS)⟩ (fpE ρ E) (fpO ρ OS) := by
  have ev := fp_evo R hlt
  refine ⟨by simp [fpE, fpO], fun i o p h1 h2 => ?_, fun i j o o' p p' b h1 h2 h3 h4 h5 h6 => ?_, fun b off hs => ⟨(R.stm b off hs).1, fun i o p h1 h2 h3 => ?_⟩, Kept.refl _ _, fun i o p b h1 h2 h3 => .inl ⟨i, o, p, h1, h2, h3⟩, fun b off hs => .inl hs⟩
  · obtain ⟨r, o0, p0, k1, k2, rfl, k4, k5⟩ := fp_at R hlt h1
    rw [h2] at k5; cases k5
    have := hcl r (List.mem_of_getElem? k1)
    simp only [List.getD, k2, Option.getD_some] at this
    exact (R.ok r o0 p k2 k4).monoR ev (fun _ _ => rfl) this
  · obtain ⟨r, o0, p0, k1, k2, rfl, k4, k5⟩ := fp_at R hlt h1
    obtain ⟨r', o0', p0', k1', k2', rfl, k4', k5'⟩ := fp_at R hlt h3
    rw [h2] at k5; cases k5
    rw [h4] at k5'; cases k5'
    rw [Ob.ren_mb] at h5 h6
    have := R.dis r r' o0 o0' p p' b k2 k4 k2' k4' h5 h6
    subst this
    rw [← inv_of hn k1, ← inv_of hn k1']
  · obtain ⟨r, o0, p0, k1, k2, rfl, k4, k5⟩ := fp_at R hlt h1
    rw [h2] at k5; cases k5
    rw [Ob.ren_mb] at h3
    exact (R.stm b off hs).2 r o0 p k2 k4 h3

theorem foot_out (R : Rel c E OS) (hlt : ∀ r ∈ ρ, r < OS.length) {j : Nat} {o : Ob} {p : Nat × Value} {b : Nat} (ho : OS[j]? = some o) (hp : E.ob[j]? = some p) (hj : j ∉ ρ) (hb : o.mb p = some b) : ¬ Foot (fpE ρ E) (fpO ρ OS) b := by
  rintro ⟨i, o1, p1, h1, h2, h3⟩
  obtain ⟨r, o0, p0, k1, k2, rfl, k4, k5⟩ := fp_at R hlt h1
  rw [h2] at k5; cases k5
  rw [Ob.ren_mb] at h3
  have := R.dis j r o o0 p p1 b ho hp k2 k4 hb h3
  subst this
  exact hj (List.mem_of_getElem? k1)
theorem foot_in (R : Rel c E OS) (hlt : ∀ r ∈ ρ, r < OS.length) {b : Nat} (h : Foot (fpE ρ E) (fpO ρ OS) b) : (c.M b ∨ c.w0.heap.size ≤ b) ∧ b < E.w.heap.size := by
  obtain ⟨i, o1, p1, h1, h2, h3⟩ := h
  obtain ⟨r, o0, p0, k1, k2, rfl, k4, k5⟩ := fp_at R hlt h1
  rw [h2] at k5; cases k5
  rw [Ob.ren_mb] at h3
  exact ⟨R.mbs r o0 p1 b k2 k4 h3, (R.ok r o0 p1 k2 k4).lt h3⟩

/-- Behind the call: the contract's objects back in their places. -/
theorem fp_back (R : Rel c E OS) (hn : ρ.Nodup) (hlt : ∀ r ∈ ρ, r < OS.length) {E1 : Env} {os' : List Ob} (R1 : Rel ⟨E.w, E.st, Foot (fpE ρ E) (fpO ρ OS)⟩ E1 os') (ev : Evo (fpE ρ E) (fpO ρ OS) E1 os') (hk : ρ.length ≤ os'.length) :
    Rel c (fpE' ρ E E1) (fpO' ρ OS os') ∧ Evo E OS (fpE' ρ E E1) (fpO' ρ OS os') ∧ ∀ d v, V E1 os' d v → V (fpE' ρ E E1) (fpO' ρ OS os') (d.ren (fpF ρ OS.length os'.length)) v := by
  have hlE : (setAllE E.ob ρ E1.ob).length = OS.length := by rw [setAllE_length, R.len]
  have hlO : (setAll OS ρ (os'.map (Ob.ren (fpF ρ OS.length os'.length)))).length = OS.length := setAll_length _ _ _
  have hltE : ∀ r ∈ ρ, r < E.ob.length := fun r hr => by rw [R.len]; exact hlt r hr
  -- an object of the callee's
  have cal : ∀ i o', os'[i]? = some o' → (fpO' ρ OS os')[fpF ρ OS.length os'.length i]? = some (o'.ren (fpF ρ OS.length os'.length)) ∧ (fpE' ρ E E1).ob[fpF ρ OS.length os'.length i]? = E1.ob[i]? := by
    intro i o' ho
    have hi := (List.getElem?_eq_some_iff.1 ho).1
    have hpe : E1.ob[i]? = some (E1.ob[i]'(by rw [R1.len]; exact hi)) := List.getElem?_eq_getElem _
    have hom : (os'.map (Ob.ren (fpF ρ OS.length os'.length)))[i]? = some (o'.ren (fpF ρ OS.length os'.length)) := by rw [List.getElem?_map, ho]; rfl
    by_cases h : i < ρ.length
    · have hr : ρ[i]? = some (ρ[i]'h) := List.getElem?_eq_getElem h
      have hf : fpF ρ OS.length os'.length i = ρ[i]'h := by simp [fpF, h, List.getD]
      have hrl := hlt _ (List.getElem_mem h)
      rw [hf]
      refine ⟨?_, ?_⟩
      · show (_ ++ _)[_]? = _
        rw [List.getElem?_append_left (by rw [hlO]; exact hrl)]
        exact setAll_in ρ _ OS hn hlt i _ _ hr hom
      · show (_ ++ _)[_]? = _
        rw [List.getElem?_append_left (by rw [hlE]; exact hrl), hpe]
        exact setAllE_in ρ _ E.ob hn hltE i _ _ hr hpe
    · have hf : fpF ρ OS.length os'.length i = OS.length + (i - ρ.length) := by simp [fpF, h]
      rw [hf]
      refine ⟨?_, ?_⟩
      · show (_ ++ _)[_]? = _
        rw [List.getElem?_append_right (by rw [hlO]; omega), hlO, List.getElem?_drop, show ρ.length + (OS.length + (i - ρ.length) - OS.length) = i by omega]
        exact hom
      · show (_ ++ _)[_]? = _
        rw [List.getElem?_append_right (by rw [hlE]; omega), hlE, List.getElem?_drop, show ρ.length + (OS.length + (i - ρ.length) - OS.length) = i by omega]
  -- one that the call does not know
  have out : ∀ j, j < OS.length → j ∉ ρ → (fpO' ρ OS os')[j]? = OS[j]? ∧ (fpE' ρ E E1).ob[j]? = E.ob[j]? := by
    intro j hj hm
    refine ⟨?_, ?_⟩
    · show (_ ++ _)[_]? = _
      rw [List.getElem?_append_left (by rw [hlO]; exact hj), setAll_out ρ _ OS j hm]
    · show (_ ++ _)[_]? = _
      rw [List.getElem?_append_left (by rw [hlE]; exact hj), setAllE_out ρ _ E.ob j hm]
  have hlen : (fpO' ρ OS os').length = OS.length + (os'.length - ρ.length) := by
    simp only [fpO', List.length_append, hlO]; simp
  have cls : ∀ j o p, (fpO' ρ OS os')[j]? = some o → (fpE' ρ E E1).ob[j]? = some p → (j ∉ ρ ∧ OS[j]? = some o ∧ E.ob[j]? = some p) ∨ ∃ i o', os'[i]? = some o' ∧ E1.ob[i]? = some p ∧ o = o'.ren (fpF ρ OS.length os'.length) ∧ j = fpF ρ OS.length os'.length i := by
    intro j o p ho hp
    have hj := (List.getElem?_eq_some_iff.1 ho).1
    rw [hlen] at hj
    by_cases hjl : j < OS.length
    · by_cases hm : j ∈ ρ
      · have hr := inv_get hm
        have hi := (List.getElem?_eq_some_iff.1 hr).1
        have hio : os'[inv ρ j]? = some (os'[inv ρ j]'(by omega)) := List.getElem?_eq_getElem _
        have hf : fpF ρ OS.length os'.length (inv ρ j) = j := by
          simp only [fpF, hi, if_true, List.getD, hr, Option.getD_some]
        obtain ⟨k1, k2⟩ := cal _ _ hio
        rw [hf] at k1 k2
        rw [ho] at k1; cases k1
        rw [hp] at k2
        exact .inr ⟨_, _, hio, k2.symm, rfl, hf.symm⟩
      · obtain ⟨k1, k2⟩ := out j hjl hm
        rw [k1] at ho; rw [k2] at hp
        exact .inl ⟨hm, ho, hp⟩
    · have hio : os'[j - OS.length + ρ.length]? = some (os'[j - OS.length + ρ.length]'(by omega)) := List.getElem?_eq_getElem _
      have hf : fpF ρ OS.length os'.length (j - OS.length + ρ.length) = j := by
        have : ¬ (j - OS.length + ρ.length < ρ.length) := by omega
        simp only [fpF, this, if_false]; omega
      obtain ⟨k1, k2⟩ := cal _ _ hio
      rw [hf] at k1 k2
      rw [ho] at k1; cases k1
      rw [hp] at k2
      exact .inr ⟨_, _, hio, k2.symm, rfl, hf.symm⟩
  have evr : EvoR (fpF ρ OS.length os'.length) (fun _ => true) E1 os' (fpE' ρ E E1) (fpO' ρ OS os') := by
    refine ⟨fun b o h => ⟨h, rfl⟩, fun id b cu ds _ ho hb => ?_, fun id o sz rs _ ho hs => ?_⟩
    · obtain ⟨k1, k2⟩ := cal id _ ho
      exact ⟨cu, _, k1, k2.trans hb⟩
    · obtain ⟨k1, k2⟩ := cal id _ ho
      exact ⟨_, rs, k1, by rw [Ob.ren_slice]; exact hs, .inl ⟨rfl, k2⟩⟩
  have hkept : Kept (Foot (fpE ρ E) (fpO ρ OS)) E.w E1.w := R1.kept
  have evo : Evo E OS (fpE' ρ E E1) (fpO' ρ OS os') := by
    have fpat : ∀ r o, r ∈ ρ → OS[r]? = some o → (fpO ρ OS)[inv ρ r]? = some (o.ren (inv ρ)) ∧ (fpE ρ E).ob[inv ρ r]? = E.ob[r]? ∧ fpF ρ OS.length os'.length (inv ρ r) = r := by
      intro r o hr ho
      have hg := inv_get hr
      have hi := (List.getElem?_eq_some_iff.1 hg).1
      have hl := hlt r hr
      have hob : E.ob[r]? = some (E.ob[r]'(by rw [R.len]; exact hl)) := List.getElem?_eq_getElem _
      exact ⟨by simp only [fpO, List.getElem?_map, hg, Option.map_some, List.getD, ho, Option.getD_some], by simp only [fpE, List.getElem?_map, hg, Option.map_some, List.getD, hob, Option.getD_some], by simp only [fpF, hi, if_true, List.getD, hg, Option.getD_some]⟩
    refine ⟨fun b o h => ev.st b o h, fun id b cu ds ho hb => ?_, fun id o sz rs ho hs => ?_⟩
    · by_cases hm : id ∈ ρ
      · obtain ⟨k1, k2, k3⟩ := fpat id _ hm ho
        obtain ⟨cu', ds', g1, g2⟩ := ev.bl (inv ρ id) b cu _ k1 (k2.trans hb)
        obtain ⟨w1, w2⟩ := cal _ _ g1
        rw [k3] at w1 w2
        exact ⟨cu', _, w1, w2.trans g2⟩
      · obtain ⟨k1, k2⟩ := out id (List.getElem?_eq_some_iff.1 ho).1 hm
        exact ⟨cu, ds, k1.trans ho, k2.trans hb⟩
    · by_cases hm : id ∈ ρ
      · obtain ⟨k1, k2, k3⟩ := fpat id _ hm ho
        obtain ⟨o', rs', g1, g2, g3⟩ := ev.rf (inv ρ id) _ sz rs k1 (by rw [Ob.ren_slice]; exact hs)
        obtain ⟨w1, w2⟩ := cal _ _ g1
        rw [k3] at w1 w2
        refine ⟨_, rs', w1, by rw [Ob.ren_slice]; exact g2, ?_⟩
        rcases g3 with ⟨g3, g4⟩ | g3
        · exact .inl ⟨g3, w2.trans (g4.trans k2)⟩
        · exact .inr g3
      · obtain ⟨k1, k2⟩ := out id (List.getElem?_eq_some_iff.1 ho).1 hm
        exact ⟨o, rs, k1.trans ho, hs, .inl ⟨rfl, k2⟩⟩
  refine ⟨⟨?_, fun j o p ho hp => ?_, fun i j o o' p p' b h1 h2 h3 h4 h5 h6 => ?_, fun b off hs => ⟨(R1.stm b off hs).1, fun j o p ho hp hb => ?_⟩, ?_, fun j o p b ho hp hb => ?_, fun b off hs => ?_⟩, evo, fun d v hv => hv.monoR evr (inP_true d)⟩
  · rw [hlen]
    simp only [fpE', List.length_append, hlE]
    simp [R1.len]
  · rcases cls j o p ho hp with ⟨k0, k1, k2⟩ | ⟨i, o', k1, k2, rfl, k4⟩
    · refine (R.ok j o p k1 k2).mono evo (fun b hb => ?_)
      exact hkept.block b ((R.ok j o p k1 k2).lt hb) (foot_out R hlt k1 k2 k0 hb)
    · exact (R1.ok i o' p k1 k2).monoR evr (fun _ _ => rfl) (Ob.inP_true o')
  · have mixed : ∀ (i : Nat) (o : Ob) (p : Nat × Value), i ∉ ρ → OS[i]? = some o → E.ob[i]? = some p → o.mb p = some b → ∀ (q : Nat) (o' : Ob) (p' : Nat × Value), os'[q]? = some o' → E1.ob[q]? = some p' → o'.mb p' = some b → False := by
      intro i o p k0 k1 k2 hb q o' p' k3 k4 hb'
      rcases R1.mbs q o' p' b k3 k4 hb' with h | h
      · exact foot_out R hlt k1 k2 k0 hb h
      · have := (R.ok i o p k1 k2).lt hb
        simp only at h
        omega
    rcases cls i o p h1 h2 with ⟨k0, k1, k2⟩ | ⟨q, o1, k1, k2, rfl, rfl⟩ <;> rcases cls j o' p' h3 h4 with ⟨g0, g1, g2⟩ | ⟨q', o2, g1, g2, rfl, rfl⟩
    · exact R.dis i j o o' p p' b k1 k2 g1 g2 h5 h6
    · rw [Ob.ren_mb] at h6; exact (mixed i o p k0 k1 k2 h5 q' o2 p' g1 g2 h6).elim
    · rw [Ob.ren_mb] at h5; exact (mixed j o' p' g0 g1 g2 h6 q o1 p k1 k2 h5).elim
    · rw [Ob.ren_mb] at h5 h6
      rw [R1.dis q q' o1 o2 p p' b k1 k2 g1 g2 h5 h6]
  · rcases cls j o p ho hp with ⟨k0, k1, k2⟩ | ⟨i, o', k1, k2, rfl, k4⟩
    · rcases R1.sto b off hs with h | h | h
      · exact (R.stm b off h).2 j o p k1 k2 hb
      · exact foot_out R hlt k1 k2 k0 hb h
      · have := (R.ok j o p k1 k2).lt hb
        simp only at h
        omega
    · rw [Ob.ren_mb] at hb
      exact (R1.stm b off hs).2 i o' p k1 k2 hb
  · exact R.kept.trans hkept (fun i hi => (foot_in R hlt hi).1)
  · rcases cls j o p ho hp with ⟨k0, k1, k2⟩ | ⟨i, o', k1, k2, rfl, k4⟩
    · exact R.mbs j o p b k1 k2 hb
    · rw [Ob.ren_mb] at hb
      rcases R1.mbs i o' p b k1 k2 hb with h | h
      · exact (foot_in R hlt h).1
      · have := R.kept.size
        simp only at h
        exact .inr (by omega)
  · rcases R1.sto b off hs with h | h | h
    · exact R.sto b off h
    · exact .inr (foot_in R hlt h).1
    · have := R.kept.size
      simp only at h
      exact .inr (.inr (by omega))

end
end Go.Ab
