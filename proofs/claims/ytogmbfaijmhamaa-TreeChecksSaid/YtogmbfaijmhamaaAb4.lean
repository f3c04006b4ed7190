/- Quiet operations yield what the evaluator says. -/
import Derived.Test.YtogmbfaijmhamaaAb3
namespace Go.Ab
open Go.RowKit Go.Bo

theorem add_off (b o j : Nat) : (⟨b, o, none⟩ : Addr).add j = ⟨b, o + j, none⟩ := by unfold Addr.add; split <;> simp_all

section
variable {P : Program} {E : Env} {os : List Ob} {c : Ctx}

theorem run_info {t : TypeId} {i : TypeInfo} (h : P.info? t = some i) (w : World) : (typeInfo t).run P w = .ok i w := by simp [typeInfo, h]
theorem run_size {t : TypeId} {s : Nat} (h : szOf P t = some s) (w : World) : (sizeOf t).run P w = .ok s w := by
  obtain ⟨i, h1, rfl⟩ := Option.map_eq_some_iff.1 h
  simp [sizeOf, run_info h1]
theorem run_ag {t : TypeId} {b : Bool} (h : agOf P t = some b) (w : World) : (isAgg t).run P w = .ok b w := by
  obtain ⟨d, h1, rfl⟩ := Option.map_eq_some_iff.1 h
  unfold isAgg
  simp only [Sem.run_bind, run_underlying h1, Result.andThen_ok]
  cases d <;> rfl

/-- The cells of a slice that is read. -/
theorem rows_read (R : Rel c E os) {d : D} {v : Value} (hv : V E os d v) {rs : List (List X)} (hr : rowsOf os d = some rs) {sz : Nat} (hz : ∀ r ∈ rs, r.length = sz) :
    ∃ (a : Option Addr) (cp : Nat) (xs : List Value), v = .slice a rs.length cp ∧ rs.length ≤ cp ∧ cp ≤ maxLen ∧ xs.length = rs.length * sz ∧ (a = none → rs.length = 0) ∧ (∀ ad, a = some ad → ∀ j u, xs[j]? = some u → E.w.cell? (ad.add j) = some u) ∧
      (∀ u ∈ xs, u.oneCell' = true) ∧ ∀ (i : Nat) (r : List X) (j : Nat) (x : X), rs[i]? = some r → r[j]? = some x → ∃ u, xs[i * sz + j]? = some u ∧ VX E.w E.st x u := by
  have base : ∀ {rs : List (List X)} {v : Value}, VX E.w E.st (.sl rs) v → (∀ r ∈ rs, r.length = sz) → ∃ (a : Option Addr) (cp : Nat) (xs : List Value), v = .slice a rs.length cp ∧ rs.length ≤ cp ∧ cp ≤ maxLen ∧ xs.length = rs.length * sz ∧ (a = none → rs.length = 0) ∧ (∀ ad, a = some ad → ∀ j u, xs[j]? = some u → E.w.cell? (ad.add j) = some u) ∧
      (∀ u ∈ xs, u.oneCell' = true) ∧ ∀ (i : Nat) (r : List X) (j : Nat) (x : X), rs[i]? = some r → r[j]? = some x → ∃ u, xs[i * sz + j]? = some u ∧ VX E.w E.st x u := by
    intro rs v h hz
    cases h with
    | sl _ a n cp sz0 val hn hc hm hsz hcell hnil hsp hval =>
      subst hn
      by_cases h0 : rs.length = 0
      · exact ⟨a, cp, [], rfl, hc, hm, by simp [h0], fun _ => h0, fun _ _ j u hu => (by simp at hu), fun u hu => (by cases hu), fun i r j x hr => (by rw [List.eq_nil_of_length_eq_zero h0] at hr; simp at hr)⟩
      have e : sz0 = sz := by
        have : rs[0]'(by omega) ∈ rs := List.getElem_mem _
        rw [← hsz _ this, hz _ this]
      subst e
      have hlt : ∀ k, k < rs.length * sz0 → k / sz0 < rs.length ∧ k % sz0 < sz0 := fun k hk => by
        have hp : 0 < sz0 := by rcases Nat.eq_zero_or_pos sz0 with h | h; subst h; simp at hk; exact h
        exact ⟨(Nat.div_lt_iff_lt_mul hp).2 hk, Nat.mod_lt _ hp⟩
      have hval' : ∀ k, k < rs.length * sz0 → (val (k / sz0) (k % sz0)).oneCell' = true := fun k hk => by
        obtain ⟨h1, h2⟩ := hlt k hk
        have hr := List.getElem?_eq_getElem h1
        have hl : (rs[k / sz0]).length = sz0 := hsz _ (List.getElem_mem _)
        exact (hval _ _ _ _ hr (List.getElem?_eq_getElem (by rw [hl]; exact h2))).one
      refine ⟨a, cp, (List.range (rs.length * sz0)).map fun k => val (k / sz0) (k % sz0), rfl, hc, hm, by simp, fun h => (hnil h).1, fun ad had j u hu => ?_, fun u hu => ?_, fun i r j x hr hx => ?_⟩
      · obtain ⟨hj, hu⟩ := List.getElem?_eq_some_iff.1 hu
        simp at hj
        simp at hu
        obtain ⟨h1, h2⟩ := hlt j hj
        obtain ⟨b, off, k1, _, k3⟩ := hcell (j / sz0) (j % sz0) h1 h2
        rw [had] at k1; cases k1
        rw [add_off, ← hu, ← k3]
        have : j / sz0 * sz0 + j % sz0 = j := by rw [Nat.mul_comm]; exact Nat.div_add_mod j sz0
        congr 2; omega
      · obtain ⟨k, hk, rfl⟩ := List.mem_map.1 hu
        exact hval' k (List.mem_range.1 hk)
      · have hi := (List.getElem?_eq_some_iff.1 hr).1
        have hj : j < sz0 := by rw [← hsz r (List.mem_of_getElem? hr)]; exact (List.getElem?_eq_some_iff.1 hx).1
        have hp : 0 < sz0 := by omega
        have hlt2 : i * sz0 + j < rs.length * sz0 := by
          have : (i + 1) * sz0 ≤ rs.length * sz0 := Nat.mul_le_mul_right _ hi
          rw [Nat.add_mul] at this; omega
        refine ⟨val i j, ?_, hval i j r x hr hx⟩
        have e1 : (i * sz0 + j) / sz0 = i := by rw [Nat.mul_comm, Nat.mul_add_div hp, Nat.div_eq_of_lt hj]; rfl
        have e2 : (i * sz0 + j) % sz0 = j := by rw [Nat.mul_comm, Nat.mul_add_mod, Nat.mod_eq_of_lt hj]
        rw [List.getElem?_map, List.getElem?_range hlt2]
        simp [e1, e2]
  unfold rowsOf at hr
  split at hr
  · cases hr; rw [V.nils hv]
    exact ⟨none, 0, [], rfl, Nat.le_refl _, Nat.zero_le _, by simp, fun _ => rfl, fun _ h => (by cases h), fun u hu => (by cases hu), fun i r j x h => (by simp at h)⟩
  · cases hr; exact base hv.xx hz
  · cases hr
    cases hv with
    | full n h => exact base h hz
  · rename_i id ext off len
    split at hr
    · rename_i o ho
      split at hr
      · rename_i sz' rs' hsl
        split at hr
        · rename_i hext
          cases hr
          cases hv with
          | ref h _ =>
            obtain ⟨p, hp, hok⟩ := R.at ho
            obtain ⟨h1, h2⟩ := h.at ho hsl
            obtain ⟨h3, b, a, cap, a', cap', h4, h5, h6, h7, h8, h9, -, -⟩ := h2 hext
            rw [hp] at h4; cases h4
            have hlen : ((rs'.drop off).take len).length = len := by simp; omega
            rw [hlen]
            by_cases hl0 : len = 0
            · subst hl0
              exact ⟨a', cap', [], h5, h6, h7, by simp, fun _ => rfl, fun _ _ j u hu => (by simp at hu), fun u hu => (by cases hu), fun i r j x hr => (by simp at hr)⟩
            have hsz : ∀ r ∈ rs', r.length = sz' := by
              cases o with
              | box ds => cases hsl
              | rows fz e s r => simp [Ob.slice?] at hsl; obtain ⟨rfl, rfl⟩ := hsl; obtain ⟨xs, q1, q2, q3⟩ := hok; exact q2
              | frz s r => simp [Ob.slice?] at hsl; obtain ⟨rfl, rfl⟩ := hsl; exact hok.2.1
              | dead => cases hsl
            have e : sz' = sz := by
              have hm : ((rs'.drop off).take len)[0]'(by omega) ∈ (rs'.drop off).take len := List.getElem_mem _
              rw [← hz _ hm]; exact (hsz _ (List.mem_of_mem_drop (List.mem_of_mem_take hm))).symm
            subst e
            -- the object's own cells
            have own : ∃ xs : List Value, xs.length = rs'.length * sz' ∧ (∀ ad, a = some ad → ∀ j u, xs[j]? = some u → E.w.cell? (ad.add j) = some u) ∧ (∀ u ∈ xs, u.oneCell' = true) ∧
                (∀ (i : Nat) (r : List X) (j : Nat) (x : X), rs'[i]? = some r → r[j]? = some x → ∃ u, xs[i * sz' + j]? = some u ∧ VX E.w E.st x u) ∧ a ≠ none := by
              cases o with
              | box ds => cases hsl
              | rows fz e s r =>
                simp [Ob.slice?] at hsl; obtain ⟨rfl, rfl⟩ := hsl
                obtain ⟨xs, q1, q2, q3⟩ := hok
                have hval : ∀ (i : Nat) (r' : List X) (j : Nat) (x : X), r[i]? = some r' → r'[j]? = some x → ∃ u, xs[i * s + j]? = some u ∧ VX E.w E.st x u := by
                  intro i r' j x hi hj
                  have h1 := (List.getElem?_eq_some_iff.1 hi).1
                  have h2 : j < s := by rw [← q2 r' (List.mem_of_getElem? hi)]; exact (List.getElem?_eq_some_iff.1 hj).1
                  have h3 : i * s + j < xs.length := by
                    rw [q1.1]
                    have : (i + 1) * s ≤ r.length * s := Nat.mul_le_mul_right _ h1
                    rw [Nat.add_mul] at this; omega
                  exact ⟨_, List.getElem?_eq_getElem h3, q3 i r' j x _ hi hj (List.getElem?_eq_getElem h3)⟩
                refine ⟨xs, q1.1, fun ad had j u hu => ?_, fun u hu => ?_, hval, ?_⟩
                · rcases q1.2 with ⟨hc, _⟩ | ⟨g, cp, cells, fr, hc, hg, k1, k2, k3, k4, k5⟩
                  · simp at hc; rw [hc.1] at had; cases had
                  · simp at hc; obtain ⟨hc, _⟩ := hc; rw [hc] at had; cases had
                    rw [add_off, Nat.zero_add]
                    have hj := (List.getElem?_eq_some_iff.1 hu).1
                    rw [← k4, List.getElem?_take, if_pos (by rw [q1.1] at hj; exact hj)] at hu
                    simp [World.cell?, hg]
                    simpa using hu
                · obtain ⟨k, hk, rfl⟩ := List.mem_iff_getElem.1 hu
                  have hk' : k < r.length * s := by rw [← q1.1]; exact hk
                  have hp : 0 < s := by rcases Nat.eq_zero_or_pos s with h | h; subst h; simp at hk'; exact h
                  have hi : k / s < r.length := (Nat.div_lt_iff_lt_mul hp).2 hk'
                  have hj : k % s < s := Nat.mod_lt _ hp
                  have hrl : (r[k / s]).length = s := q2 _ (List.getElem_mem _)
                  obtain ⟨u, h1, h2⟩ := hval (k / s) _ (k % s) _ (List.getElem?_eq_getElem hi) (List.getElem?_eq_getElem (by rw [hrl]; exact hj))
                  have : k / s * s + k % s = k := by rw [Nat.mul_comm]; exact Nat.div_add_mod k s
                  rw [this, List.getElem?_eq_getElem hk] at h1
                  cases h1
                  exact h2.one
                · intro ha
                  rcases q1.2 with ⟨hc, hn⟩ | ⟨g, cp, cells, fr, hc, hg, k1, k2, k3, k4, k5⟩
                  · omega
                  · simp at hc; rw [hc.1] at ha; cases ha
              | frz s r =>
                simp [Ob.slice?] at hsl; obtain ⟨rfl, rfl⟩ := hsl
                obtain ⟨a1, cp1, xs, q1, q2, q3, q4, q5, q6, q7, q8⟩ := base hok.1 hsz
                rw [hext] at q1
                simp at q1
                obtain ⟨rfl, -⟩ := q1
                exact ⟨xs, q4, q6, q7, q8, fun h => by have := q5 h; omega⟩
              | dead => cases hsl
            obtain ⟨xs, x1, x2, x3, x4, x5⟩ := own
            cases a with
            | none => exact absurd rfl x5
            | some ad =>
            have ha' := h9 (by omega) ad rfl
            refine ⟨a', cap', (xs.drop (off * sz')).take (len * sz'), h5, h6, h7, ?_, fun h => (by rw [ha'] at h; cases h), fun ad' had' j u hu => ?_, fun u hu => x3 u (List.mem_of_mem_drop (List.mem_of_mem_take hu)), fun i r j x hr hx => ?_⟩
            · rw [List.length_take, List.length_drop, x1]
              have : (off + len) * sz' ≤ rs'.length * sz' := Nat.mul_le_mul_right _ (by omega)
              rw [Nat.add_mul] at this; omega
            · rw [ha'] at had'; cases had'
              have hj := (List.getElem?_eq_some_iff.1 hu).1
              rw [List.length_take] at hj
              rw [List.getElem?_take, if_pos (by omega), List.getElem?_drop] at hu
              have hspot : ad.spot = none := by
                have := x2 ad rfl _ u hu
                have hs := World.cell?_spot this
                unfold Addr.add at hs
                by_cases hz : off * sz' + j = 0
                · simpa [hz] using hs
                · have h00 : xs[0]? = some (xs[0]'(by have := (List.getElem?_eq_some_iff.1 hu).1; omega)) := List.getElem?_eq_getElem _
                  have := World.cell?_spot (x2 ad rfl 0 _ h00)
                  simpa [Addr.add] using this
              obtain ⟨b0, o0, sp⟩ := ad
              simp only at hspot
              subst hspot
              have := x2 _ rfl _ u hu
              rw [add_off] at this ⊢
              rw [← this]; dsimp only; rw [Nat.add_assoc]
            · have hi : i < len := by have := (List.getElem?_eq_some_iff.1 hr).1; omega
              rw [List.getElem?_take, if_pos hi, List.getElem?_drop] at hr
              obtain ⟨u, k1, k2⟩ := x4 (off + i) r j x hr hx
              have hj : j < sz' := by rw [← hsz r (List.mem_of_getElem? hr)]; exact (List.getElem?_eq_some_iff.1 hx).1
              have hlt : i * sz' + j < len * sz' := by
                have : (i + 1) * sz' ≤ len * sz' := Nat.mul_le_mul_right _ hi
                rw [Nat.add_mul] at this; omega
              refine ⟨u, ?_, k2⟩
              rw [List.getElem?_take, if_pos hlt, List.getElem?_drop, ← k1]
              congr 1; rw [Nat.add_mul]; omega
        · cases hr
      · cases hr
    · cases hr
  · cases hr

end
end Go.Ab
