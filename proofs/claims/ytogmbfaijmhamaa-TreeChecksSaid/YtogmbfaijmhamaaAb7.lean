/- Quiet operations yield what the evaluator says (4): slices, structs; all. -/
import Derived.Test.YtogmbfaijmhamaaAb6
namespace Go.Ab
open Go.RowKit Go.Bo

theorem bstr_extract (s : List UInt8) (l h : Nat) : (bstr s).extract l h = bstr ((s.take h).drop l) := by
  apply ByteArray.ext
  rw [ByteArray.data_extract]
  apply Array.ext'
  simp [bstr, List.drop_take]

section
variable {P : Program} {E : Env} {os : List Ob} {c : Ctx}

/-- What the bounds of a slice expression come to. -/
def Bnd (lo hi : Option Value) (len l h : Nat) : Prop :=
  ((lo = none ∧ l = 0) ∨ ∃ k, lo = some (.int k l)) ∧ ((hi = none ∧ h = len) ∨ ∃ k, hi = some (.int k h)) ∧ l ≤ h ∧ h ≤ len

theorem run_bounds {lo hi : Option Value} {len cap l h : Nat} (sl : Bool) (hb : Bnd lo hi len l h) (hc : len ≤ cap) (w : World) : (Instr.sliceBounds sl len cap lo hi none).run P w = .ok (l, h, cap) w := by
  obtain ⟨h1, h2, h3, h4⟩ := hb
  have n1 : h ≤ cap := by omega
  rcases h1 with ⟨rfl, rfl⟩ | ⟨k, rfl⟩ <;> rcases h2 with ⟨rfl, rfl⟩ | ⟨k2, rfl⟩
  · simp [Instr.sliceBounds]
  · simp [Instr.sliceBounds, Instr.sliceBound, asIntOf, n1]
  · simp [Instr.sliceBounds, Instr.sliceBound, asIntOf, h3]
  · simp [Instr.sliceBounds, Instr.sliceBound, asIntOf, n1, h3]

theorem run_slc_str {t : Nat} (ht : P.underlying t = some .string) (s : List UInt8) {lo hi : Option Value} {l h : Nat} (hb : Bnd lo hi s.length l h) (w : World) :
    (Instr.sliceAt t (.string (bstr s)) lo hi none).run P w = .ok (.string (bstr ((s.take h).drop l))) w := by
  have := run_bounds (P := P) false hb (Nat.le_refl _) w
  rw [← bstr_size] at this
  simp [Instr.sliceAt, Instr.slice, run_underlying ht, this, bstr_extract]
theorem run_slc_sl {t e sz : Nat} (ht : P.underlying t = some (.slice e)) (hs : szOf P e = some sz) (a : Option Addr) {lo hi : Option Value} {len cap l h : Nat} (hb : Bnd lo hi len l h) (hc : len ≤ cap) (w : World) :
    (Instr.sliceAt t (.slice a len cap) lo hi none).run P w = .ok (.slice (if cap = l then a else a.map (·.add (l * sz))) (h - l) (cap - l)) w := by
  have := run_bounds (P := P) true hb hc w
  simp [Instr.sliceAt, Instr.slice, run_underlying ht, this, run_size hs]

theorem add_spot {ad : Addr} (h : ad.spot = none) (k : Nat) : ad.add k = ⟨ad.block, ad.off + k, none⟩ := by
  obtain ⟨b, o, s⟩ := ad
  simp only at h
  subst h
  exact add_off b o k

theorem V.slc_sl {rs : List (List X)} {a : Option Addr} {n cap : Nat} (hx : VX E.w E.st (.sl rs) (.slice a n cap)) {sz : Nat} (hz : ∀ r ∈ rs, r.length = sz) {l h : Nat} (hl : l ≤ h) (hh : h ≤ rs.length) :
    V E os (.x (.sl ((rs.take h).drop l))) (.slice (if cap = l then a else a.map (·.add (l * sz))) (h - l) (cap - l)) := by
  have hx0 := hx
  cases hx0 with
  | sl _ _ _ _ sz0 val hn hc hm hsz hcell hnil hsp hval =>
    have hd : (rs.take h).drop l = (rs.drop l).take (h - l) := List.drop_take ..
    rw [hd]
    refine .x (hx.part hz l (h - l) (by omega) _ _ (by omega) (by omega) (fun hp ad had => ?_) (fun hn' => ?_) (fun h0 ad had => ?_))
    · rw [if_neg (by omega), had]
      simp [add_spot (hsp (by omega) ad had)]
    · have : a = none := by
        split at hn'
        · exact hn'
        · simpa using hn'
      have := hnil this; omega
    · split at had
      · exact hsp (by omega) ad had
      · obtain ⟨ad0, h1, rfl⟩ := Option.map_eq_some_iff.1 had
        rw [add_spot (hsp (by omega) ad0 h1)]

theorem V.slc_ref {id ext off len : Nat} {v : Value} (hv : V E os (.ref id ext off len) v) {o : Ob} {sz : Nat} {rs : List (List X)} (ho : os[id]? = some o) (hs : o.slice? = some (sz, rs)) (he : rs.length = ext) {l h : Nat} (hl : l ≤ h) (hh : h ≤ len) :
    ∃ a cap, v = .slice a len cap ∧ len ≤ cap ∧ V E os (.ref id ext (off + l) (h - l)) (.slice (if cap = l then a else a.map (·.add (l * sz))) (h - l) (cap - l)) := by
  cases hv with
  | ref hr _ =>
    obtain ⟨h1, h2⟩ := hr.at ho hs
    obtain ⟨h3, b, a, cap, a', cap', h4, h5, h6, h7, h8, h9, h10, h11⟩ := h2 he
    refine ⟨a', cap', h5, h6, .ref ⟨o, sz, rs, ho, hs, ?_⟩ rfl⟩
    refine ⟨h1, fun _ => ⟨by omega, b, a, cap, _, _, h4, rfl, by omega, by omega, fun hz => ?_, fun hp ad had => ?_, fun hn => ?_, fun ad had => ?_⟩⟩
    · have : off = 0 ∧ l = 0 := by omega
      obtain ⟨rfl, rfl⟩ := this
      obtain ⟨rfl, rfl⟩ := h8 rfl
      refine ⟨?_, by omega⟩
      split
      · rfl
      · cases a' <;> simp [Addr.add]
    · have := h9 (by omega) ad had
      rw [if_neg (by omega), this]
      simp only [Option.map_some, add_off]
      congr 2
      rw [Nat.add_mul]; omega
    · have : a' = none := by
        split at hn
        · exact hn
        · simpa using hn
      have := h10 this; omega
    · split at had
      · exact h11 ad had
      · obtain ⟨ad0, k1, rfl⟩ := Option.map_eq_some_iff.1 had
        rw [add_spot (h11 ad0 k1)]

/-- A struct's cells after some parts were laid over them. -/
theorem fold_set (off : Nat) : ∀ (l : List Value) (j0 : Nat) (cs : Array Value), off + j0 + l.length ≤ cs.size →
    ((l.zipIdx j0).foldl (fun cs p => cs.setIfInBounds (off + p.2) p.1) cs).toList = cs.toList.take (off + j0) ++ l ++ cs.toList.drop (off + j0 + l.length)
  | [], j0, cs, _ => by simp
  | v :: l, j0, cs, h => by
    simp only [List.length_cons] at h
    rw [List.zipIdx_cons, List.foldl_cons, fold_set off l (j0 + 1) _ (by simp; omega)]
    simp only [Array.toList_setIfInBounds, List.length_cons]
    rw [show off + (j0 + 1) = off + j0 + 1 by omega]
    have hlt : off + j0 < cs.toList.length := by simp; omega
    rw [List.take_succ_eq_append_getElem (by simpa using hlt), List.take_set_of_le (Nat.le_refl _), List.getElem_set_self, List.drop_set_of_lt (by omega)]
    simp only [List.append_assoc, List.cons_append, List.nil_append]
    rw [show off + j0 + 1 + l.length = off + j0 + (l.length + 1) by omega]

/-- A value's cells. -/
theorem V.cells {d : D} {v : Value} (h : V E os d v) {ds : List D} (hd : d.cells? = some ds) : v.cells.size = ds.length ∧ (∀ u ∈ v.cells.toList, u.oneCell' = true) ∧ ∀ (j : Nat) (d' : D) (u : Value), ds[j]? = some d' → v.cells[j]? = some u → V E os d' u := by
  have one : ∀ (d0 : D), V E os d0 v → v.oneCell' = true → [d0] = ds → v.cells.size = ds.length ∧ (∀ u ∈ v.cells.toList, u.oneCell' = true) ∧ ∀ (j : Nat) (d' : D) (u : Value), ds[j]? = some d' → v.cells[j]? = some u → V E os d' u := by
    rintro d0 hv h1 rfl
    have hc : v.cells = #[v] := by cases v <;> first | rfl | simp [Value.oneCell'] at h1
    rw [hc]
    refine ⟨rfl, fun u hu => ?_, fun j d' u hj hu => ?_⟩
    · simp at hu; subst hu; exact h1
    · cases j with
      | zero => simp at hj hu; subst hj; subst hu; exact hv
      | succ j => simp at hj
  cases h with
  | agg vs hl h1 hv => simp [D.cells?] at hd; subst hd; exact ⟨hl.symm, h1, hv⟩
  | tup vs hl hv => cases hd
  | opt h1 h2 => cases hd
  | und v => cases hd
  | x h => simp [D.cells?] at hd; exact one _ (.x h) h.one hd
  | ref h h1 => simp [D.cells?] at hd; exact one _ (.ref h h1) h1 hd
  | ptr ho h => simp [D.cells?] at hd; exact one _ (.ptr ho h) rfl hd
  | eptr h h1 => simp [D.cells?] at hd; exact one _ (.eptr h h1) (by obtain ⟨ad, rfl⟩ := h1; rfl) hd
  | vptr b off val hc hv => simp [D.cells?] at hd; exact one _ (.vptr b off val hc hv) rfl hd
  | full n h => simp [D.cells?] at hd; exact one _ (.full n h) rfl hd
  | nz h => simp [D.cells?] at hd; exact one _ (.nz h) rfl hd
  | fn vs hl hv => simp [D.cells?] at hd; exact one _ (.fn vs hl hv) rfl hd

theorem fill_sound {n : Nat} {φ : List (Nat × D)} {a : Act} (hf : Fr n E os φ a) (place : Nat → Option (Nat × Nat)) : ∀ (parts : List (Nat × Operand)) (ps : List (Nat × Nat × IO)) (acc ds : List D) (cs : Array Value), compPlaces place parts = some ps → V E os (.agg acc) (.agg cs) →
    buildD φ ps acc = some (true, ds) → ∃ cs', Instr.fill place cs (parts.map fun p => (p.1, a.eval p.2)) = some cs' ∧ V E os (.agg ds) (.agg cs')
  | [], ps, acc, ds, cs, h, hv, hb => by cases h; cases hb; exact ⟨cs, rfl, hv⟩
  | (j, x) :: l, ps, acc, ds, cs, h, hv, hb => by
    simp only [compPlaces, Option.bind_eq_bind, Option.bind_eq_some_iff] at h
    obtain ⟨p, hp, y, hy, r, hr, h⟩ := h
    cases h
    simp only [buildD, Option.bind_eq_some_iff] at hb
    obtain ⟨xs, hx, hb⟩ := hb
    split at hb
    · rename_i hlen
      obtain ⟨r', hr', hb⟩ := Option.map_eq_some_iff.1 hb
      simp at hb
      obtain ⟨⟨hc, h1⟩, rfl⟩ := hb
      have hxv := (V.op hf hy).strip hc
      obtain ⟨k1, k2, k3⟩ := hxv.cells hx
      cases hv with
      | agg _ hl ho hvv =>
        have hset := fold_set p.1 (a.eval x).cells.toList 0 cs (by simp; omega)
        rw [Nat.add_zero, Array.length_toList] at hset
        have hv' : V E os (.agg (acc.take p.1 ++ xs ++ acc.drop (p.1 + p.2))) (.agg (((a.eval x).cells.toList.zipIdx 0).foldl (fun cs q => cs.setIfInBounds (p.1 + q.2) q.1) cs)) := by
          refine .agg _ ?_ (fun v hv => ?_) (fun i d v hd hv => ?_)
          · rw [← Array.length_toList, hset]; simp; omega
          · rw [hset] at hv
            rcases List.mem_append.1 hv with hv | hv
            · rcases List.mem_append.1 hv with hv | hv
              · exact ho v (List.mem_of_mem_take hv)
              · exact k2 v hv
            · exact ho v (List.mem_of_mem_drop hv)
          · rw [← Array.getElem?_toList, hset] at hv
            have e1 : (acc.take p.1).length = p.1 := by simp; omega
            have e2 : (cs.toList.take p.1).length = p.1 := by simp; omega
            have e3 : (a.eval x).cells.toList.length = xs.length := by simp; omega
            by_cases h1 : i < p.1
            · rw [List.append_assoc, List.getElem?_append_left (by omega), List.getElem?_take, if_pos h1] at hd hv
              exact hvv i d v hd (by simpa using hv)
            · by_cases h2 : i < p.1 + xs.length
              · rw [List.append_assoc, List.getElem?_append_right (by omega), List.getElem?_append_left (by omega)] at hd hv
                rw [e1] at hd; rw [e2] at hv
                exact k3 _ d v hd (by simpa using hv)
              · rw [List.append_assoc, List.getElem?_append_right (by omega), List.getElem?_append_right (by omega), List.getElem?_drop] at hd hv
                rw [e1] at hd; rw [e2, e3] at hv
                refine hvv _ d v hd ?_
                rw [Array.getElem?_toList] at hv
                rw [← hv]; congr 1; omega
        have hr2 : buildD φ r (acc.take p.1 ++ xs ++ acc.drop (p.1 + p.2)) = some (true, r'.2) := by rw [hr', ← h1]
        obtain ⟨cs', q1, q2⟩ := fill_sound hf place l r _ r'.2 _ hr hv' hr2
        refine ⟨cs', ?_, q2⟩
        rw [List.map_cons, Instr.fill]
        simp only [hp]
        rw [if_neg (by simp; omega)]
        rw [← q1]
        congr 1
        rw [← Array.foldl_toList]
        congr 1
        simp [Array.toList_zipIdx]
    · cases hb

end
end Go.Ab
