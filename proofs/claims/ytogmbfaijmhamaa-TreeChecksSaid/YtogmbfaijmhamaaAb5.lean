/- Quiet operations yield what the evaluator says (2). -/
import Derived.Test.YtogmbfaijmhamaaAb4
namespace Go.Ab
open Go.RowKit Go.Bo

section
variable {P : Program} {E : Env} {os : List Ob} {c : Ctx}

theorem run_loadVar_ag {w : World} {t n : Nat} (hs : szOf P t = some n) (ha : agOf P t = some true) (ad : Addr) (xs : List Value) (hc : ∀ j u, xs[j]? = some u → w.cell? (ad.add j) = some u) (hl : xs.length = n) :
    (loadVar t ad).run P w = .ok (.agg xs.toArray) w := by
  have h := run_loadCells_list (P := P) (w := w) ad xs hc
  rw [hl] at h
  simp [loadVar, run_ag ha, run_size hs, h]
theorem run_loadVar_one {w : World} {t : Nat} (ha : agOf P t = some false) (ad : Addr) (v : Value) (hc : w.cell? ad = some v) : (loadVar t ad).run P w = .ok v w := by
  simp [loadVar, run_ag ha, load, Sem.run, hc]

theorem V.agg_part {ds : List D} {vs : Array Value} (h : V E os (.agg ds) (.agg vs)) (off n : Nat) : V E os (.agg ((ds.drop off).take n)) (.agg (vs.extract off (off + n))) := by
  cases h with
  | agg _ hl h1 hv =>
    refine .agg _ (by simp [hl]; omega) (fun v hv' => ?_) (fun j d v hd hv' => ?_)
    · simp at hv'
      exact h1 v (List.mem_of_mem_drop (by exact List.mem_of_mem_take hv'))
    · have hj : j < n := by have := (List.getElem?_eq_some_iff.1 hd).1; simp at this; omega
      rw [List.getElem?_take, if_pos hj, List.getElem?_drop] at hd
      rw [Array.getElem?_extract] at hv'
      split at hv'
      · exact hv _ d v hd hv'
      · cases hv'

theorem OK.cap {o : Ob} {p : Nat × Value} {sz : Nat} {rs : List (List X)} (h : OK E os o p) (hs : o.slice? = some (sz, rs)) {a : Option Addr} {n cap : Nat} (hp : p.2 = .slice a n cap) : n ≤ cap ∧ cap ≤ maxLen ∧ n = rs.length ∧ (∀ r ∈ rs, r.length = sz) ∧ (a = none → n = 0 ∧ cap = 0) ∧ (∀ ad, a = some ad → ad = ⟨ad.block, 0, none⟩) := by
  cases o with
  | box ds => cases hs
  | rows fz e s r =>
    simp [Ob.slice?] at hs; obtain ⟨rfl, rfl⟩ := hs
    obtain ⟨xs, q1, q2, q3⟩ := h
    rw [hp] at q1
    rcases q1.2 with ⟨hc, hn⟩ | ⟨g, cp, cells, fr, hc, hg, k1, k2, k3, k4, k5⟩
    · simp at hc; obtain ⟨rfl, rfl, rfl⟩ := hc; exact ⟨Nat.le_refl _, Nat.zero_le _, hn.symm, q2, fun _ => ⟨rfl, rfl⟩, fun ad h => (by cases h)⟩
    · simp at hc; obtain ⟨rfl, rfl, rfl⟩ := hc; exact ⟨k1, k2, rfl, q2, fun h => (by cases h), fun ad h => (by cases h; rfl)⟩
  | frz s r =>
    simp [Ob.slice?] at hs; obtain ⟨rfl, rfl⟩ := hs
    have h1 := h.1
    rw [hp] at h1
    cases h1 with
    | sl _ _ _ _ sz0 val hn hc hm hsz hcell hnil hsp hval => exact ⟨hc, hm, hn.symm, h.2.1, hnil, fun ad had => h.2.2 ad _ _ (by rw [hp, had])⟩
  | dead => cases hs

/-- The cells behind a pointer to an element. -/
theorem eptr_cells (R : Rel c E os) {id ext i off : Nat} {v : Value} (hv : V E os (.eptr id ext i off) v) {o : Ob} {sz : Nat} {rs : List (List X)} (ho : os[id]? = some o) (hs : o.slice? = some (sz, rs)) (he : rs.length = ext) :
    i < ext ∧ ∃ (g : Nat) (xs : List Value), v = .pointer (some ⟨g, i * sz + off, none⟩) ∧ xs.length = ext * sz ∧ (∀ j u, xs[j]? = some u → E.w.cell? ⟨g, j, none⟩ = some u) ∧ (∀ u ∈ xs, u.oneCell' = true) ∧ (∀ r ∈ rs, r.length = sz) ∧
      ∀ (i : Nat) (r : List X) (j : Nat) (x : X), rs[i]? = some r → r[j]? = some x → ∃ u, xs[i * sz + j]? = some u ∧ VX E.w E.st x u := by
  cases hv with
  | eptr h _ =>
    obtain ⟨h1, h2⟩ := h.at ho hs
    obtain ⟨h3, b, g, cap, h4, h5⟩ := h2 he
    obtain ⟨p, hp, hok⟩ := R.at ho
    rw [hp] at h4
    cases h4
    obtain ⟨k1, k2, k3, k4, -⟩ := hok.cap hs rfl
    have hr : V E os (.ref id ext 0 ext) (.slice (some ⟨g, 0, none⟩) ext cap) := by
      refine .ref ⟨o, sz, rs, ho, hs, ?_⟩ rfl
      exact ⟨by omega, fun _ => ⟨by omega, b, _, cap, _, cap, hp, rfl, k1, k2, fun _ => ⟨rfl, rfl⟩, fun _ ad had => (by cases had; simp), fun h => (by cases h), fun ad had => (by cases had; rfl)⟩⟩
    have hrow : rowsOf os (.ref id ext 0 ext) = some rs := by simp [rowsOf, ho, hs, he]; rw [← he, List.take_length]
    obtain ⟨a, cp, xs, q1, q2, q3, q4, q5, q6, q7, q8⟩ := rows_read R hr hrow k4
    simp at q1
    obtain ⟨rfl, -, rfl⟩ := q1
    refine ⟨h3, g, xs, h5, by rw [q4, he], fun j u hu => ?_, q7, k4, q8⟩
    have := q6 _ rfl j u hu
    rw [add_off, Nat.zero_add] at this
    exact this

theorem run_ld (R : Rel c E os) {t n : Nat} {ag : Bool} (hs : szOf P t = some n) (ha : agOf P t = some ag) {S : FuncId → List D → Option (Bool × D)} {φ : List (Nat × D)} {x : IO} {vx : Value} (hx : V E os (opv φ x) vx) {d : D} (h : aval S φ os (.ld n ag x) = some (true, d)) :
    ∃ v, (Instr.loadAt t vx).run P E.w = .ok v E.w ∧ V E os d v := by
  have two : ∀ (ad : Addr) (xs : List Value), vx = .pointer (some ad) → (∀ j u, xs[j]? = some u → E.w.cell? (ad.add j) = some u) → (ag = true → xs.length = n → (Instr.loadAt t vx).run P E.w = .ok (.agg xs.toArray) E.w) ∧ (∀ u, ag = false → xs[0]? = some u → (Instr.loadAt t vx).run P E.w = .ok u E.w) := by
    intro ad xs hv hc
    subst hv
    refine ⟨fun h1 h2 => ?_, fun u h1 h2 => ?_⟩
    · subst h1; simp [Instr.loadAt, Instr.sureAddr, run_loadVar_ag hs ha ad xs hc h2]
    · subst h1
      have := hc 0 u h2
      simp only [Addr.add, if_true] at this
      simp [Instr.loadAt, Instr.sureAddr, run_loadVar_one ha ad u this]
  simp only [aval] at h
  split at h
  · rename_i id o hval
    split at h
    · rename_i ds hbox
      have hx' : V E os (.ptr id o) vx := by
        rw [← hval]; refine hx.strip ?_
        split at h
        · simp at h; exact h.1.1
        · obtain ⟨_, _, h2⟩ := Option.map_eq_some_iff.1 h; simp at h2; exact h2.1
      cases hx' with
      | ptr hb0 hb =>
        rename_i b cu ds0
        obtain ⟨p, hp, hok⟩ := R.at hbox
        rw [hp] at hb; cases hb
        obtain ⟨cs, ty, h1, h2, h3⟩ := hok
        obtain ⟨k1, k2⟩ := two _ ((cs.toList.drop o).take n) rfl (fun j u hu => by
          rw [add_off]
          have hj := (List.getElem?_eq_some_iff.1 hu).1
          simp at hj
          rw [List.getElem?_take, if_pos (by omega), List.getElem?_drop] at hu
          simp [World.cell?, h1]; simpa using hu)
        split at h
        · rename_i hag
          simp at h
          obtain ⟨⟨_, h4⟩, rfl⟩ := h
          refine ⟨_, k1 hag (by simp [h2]; omega), .agg _ (by simp [h2]) (fun v hv => ?_) (fun j d v hd hv => ?_)⟩
          · have hv := List.mem_of_mem_drop (List.mem_of_mem_take hv)
            obtain ⟨j, hj, rfl⟩ := List.mem_iff_getElem.1 hv
            simp at hj
            exact (h3 j (ds[j]'(by omega)) _ (List.getElem?_eq_getElem _) (by simp [hj])).2
          · have hj : j < n := by have := (List.getElem?_eq_some_iff.1 hd).1; simp at this; omega
            rw [List.getElem?_take, if_pos hj, List.getElem?_drop] at hd
            simp [hj] at hv
            exact (h3 _ d v hd hv).1
        · rename_i hag
          obtain ⟨d', hd', h4⟩ := Option.map_eq_some_iff.1 h
          simp at h4
          obtain ⟨_, rfl⟩ := h4
          have ho := (List.getElem?_eq_some_iff.1 hd').1
          have hcs : cs[o]? = some cs[o] := Array.getElem?_eq_getElem (by omega)
          by_cases hn : n = 0
          · refine ⟨cs[o], ?_, (h3 o d' _ hd' hcs).1⟩
            obtain ⟨_, k2'⟩ := two _ [cs[o]] rfl (fun j u hu => by
              have hj := (List.getElem?_eq_some_iff.1 hu).1
              simp at hj; subst hj
              simp at hu; subst hu
              rw [add_off]
              simp [World.cell?, h1, hcs])
            exact k2' _ (by simpa using hag) (by simp)
          · refine ⟨cs[o], k2 _ (by simpa using hag) ?_, (h3 o d' _ hd' hcs).1⟩
            rw [List.getElem?_take, if_pos (by omega), List.getElem?_drop]
            simp [hcs]
    · cases h
  · rename_i id ext i off hval
    split at h
    · rename_i ob hob
      split at h
      · rename_i sz rs hsl
        obtain ⟨r, hr, h⟩ := Option.bind_eq_some_iff.1 h
        have hc : (opv φ x).cond = true ∧ rs.length = ext := by
          split at h
          · simp at h; exact ⟨h.1.1, h.1.2.1⟩
          · obtain ⟨_, _, h2⟩ := Option.map_eq_some_iff.1 h; simp at h2; exact h2.1
        have hx' : V E os (.eptr id ext i off) vx := by rw [← hval]; exact hx.strip hc.1
        obtain ⟨hi, g, xs, q1, q2, q3, q4, q5, q6⟩ := eptr_cells R hx' hob hsl hc.2
        have hrl := q5 r (List.mem_of_getElem? hr)
        obtain ⟨k1, k2⟩ := two _ ((xs.drop (i * sz + off)).take n) q1 (fun j u hu => by
          rw [add_off]
          have hj := (List.getElem?_eq_some_iff.1 hu).1
          simp at hj
          rw [List.getElem?_take, if_pos (by omega), List.getElem?_drop] at hu
          exact q3 _ u hu)
        have hlt : ∀ j, j < sz → i * sz + j < xs.length := fun j hj => by
          rw [q2]
          have : (i + 1) * sz ≤ ext * sz := Nat.mul_le_mul_right _ hi
          rw [Nat.add_mul] at this; omega
        split at h
        · rename_i hag
          simp at h
          obtain ⟨⟨_, _, h4⟩, rfl⟩ := h
          rw [hrl] at h4
          have hle : n = 0 ∨ off + n ≤ sz := by omega
          have hxl : ((xs.drop (i * sz + off)).take n).length = n := by
            simp
            rcases hle with h0 | h0
            · omega
            · have := hlt (sz - 1); omega
          refine ⟨_, k1 hag hxl, .agg _ (by simp [hrl]; simp at hxl; omega) (fun v hv => ?_) (fun j d v hd hv => ?_)⟩
          · exact q4 v (List.mem_of_mem_drop (List.mem_of_mem_take hv))
          · have hj : j < n := by have := (List.getElem?_eq_some_iff.1 hd).1; simp at this; omega
            rw [List.getElem?_take, if_pos hj, List.getElem?_drop, List.getElem?_map] at hd
            obtain ⟨y, hy, rfl⟩ := Option.map_eq_some_iff.1 hd
            obtain ⟨u, hu1, hu2⟩ := q6 i r _ y hr hy
            simp [hj] at hv
            rw [Nat.add_assoc, hu1] at hv
            cases hv
            exact .x hu2
        · rename_i hag
          obtain ⟨d', hd', h4⟩ := Option.map_eq_some_iff.1 h
          simp at h4
          obtain ⟨_, rfl⟩ := h4
          obtain ⟨u, hu1, hu2⟩ := q6 i r off d' hr hd'
          obtain ⟨_, k2'⟩ := two _ [u] q1 (fun j u' hu => by
            have hj := (List.getElem?_eq_some_iff.1 hu).1
            simp at hj; subst hj
            simp at hu; subst hu
            rw [add_off]
            exact q3 _ _ hu1)
          exact ⟨u, k2' _ (by simpa using hag) (by simp), .x hu2⟩
      · cases h
    · cases h
  · rename_i cs hval
    have hx' : V E os (.vptr cs) vx := by
      rw [← hval]; refine hx.strip ?_
      split at h
      · simp at h; exact h.1.1
      · obtain ⟨_, _, h2⟩ := Option.map_eq_some_iff.1 h; simp at h2; exact h2.1
    cases hx' with
    | vptr b off val hc hv =>
      have hcell : ∀ (m : Nat) (j : Nat) (u : Value), ((List.range m).map val)[j]? = some u → m ≤ cs.length → E.w.cell? ((⟨b, off, none⟩ : Addr).add j) = some u := fun m j u hu hm => by
        have hj := (List.getElem?_eq_some_iff.1 hu).1
        simp at hj
        rw [List.getElem?_map, List.getElem?_range hj] at hu
        simp at hu; subst hu
        rw [add_off]
        exact (hc j cs[j] (List.getElem?_eq_getElem (by omega))).2
      split at h
      · rename_i hag
        simp at h
        obtain ⟨⟨_, h4⟩, rfl⟩ := h
        refine ⟨_, (two _ ((List.range n).map val) rfl (fun j u hu => hcell n j u hu (by omega))).1 hag (by simp), .agg _ (by simp; omega) (fun v hv' => ?_) (fun j d v hd hv' => ?_)⟩
        · obtain ⟨j, hj, rfl⟩ := List.mem_map.1 hv'
          have hj := List.mem_range.1 hj
          exact (hv j cs[j] (List.getElem?_eq_getElem (by omega))).one
        · have hj : j < n := by have := (List.getElem?_eq_some_iff.1 hd).1; simp at this; omega
          rw [List.getElem?_take, if_pos hj, List.getElem?_map] at hd
          obtain ⟨y, hy, rfl⟩ := Option.map_eq_some_iff.1 hd
          simp [hj] at hv'
          subst hv'
          exact .x (hv j y hy)
      · rename_i hag
        obtain ⟨d', hd', h4⟩ := Option.map_eq_some_iff.1 h
        simp at h4
        obtain ⟨_, rfl⟩ := h4
        have hl := (List.getElem?_eq_some_iff.1 hd').1
        exact ⟨val 0, (two _ ((List.range 1).map val) rfl (fun j u hu => hcell 1 j u hu (by omega))).2 _ (by simpa using hag) (by simp [List.range_succ]), .x (hv 0 d' hd')⟩
  · cases h

end
end Go.Ab
