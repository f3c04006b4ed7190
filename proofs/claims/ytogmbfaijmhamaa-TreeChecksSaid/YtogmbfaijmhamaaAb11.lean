/- Operations that make objects or turn them do what the evaluator says. -/
import Derived.Test.YtogmbfaijmhamaaAb10
namespace Go.Ab
open Go.RowKit Go.Bo

section
variable {P : Program} {E : Env} {os : List Ob} {c : Ctx} {n : Nat} {φ : List (Nat × D)} {a : Act}

theorem run_stores (g o : Nat) (t : Nat) (fr : Nat × Nat) : ∀ (vs : List Value) (i : Nat) (cur : Array Value) (w : World), w.heap[g]? = some (.cells cur t fr) → (fr = (0, 0) ∨ cur.size ≤ fr.1) → o + i + vs.length ≤ cur.size → (∀ v ∈ vs, v.oneCell' = true) →
    ∃ w', (storeCells ⟨g, o, none⟩ vs i).run P w = .ok () w' ∧ w'.heap[g]? = some (.cells (cur.toList.take (o + i) ++ vs ++ cur.toList.drop (o + i + vs.length)).toArray t fr) ∧ Kept (fun b => b = g) w w'
  | [], i, cur, w, hg, hf, hl, h1 => ⟨w, rfl, by rw [hg]; congr 2; apply Array.ext'; simp, Kept.refl _ _⟩
  | v :: vs, i, cur, w, hg, hf, hl, h1 => by
    simp only [List.length_cons] at hl
    have hlt : o + i < cur.size := by omega
    have hcell : w.cell? ((⟨g, o, none⟩ : Addr).add i) = some cur[o + i] := by rw [add_off]; simp [World.cell?, hg, hlt]
    have hfz : w.frozen? ((⟨g, o, none⟩ : Addr).add i) = false := by
      rw [add_off]
      rcases hf with rfl | hf
      · simp [World.frozen?, hg]
      · obtain ⟨lo, hi⟩ := fr
        simp only at hf
        simp [World.frozen?, hg]; omega
    have hst : (store ((⟨g, o, none⟩ : Addr).add i) v).run P w = .ok () (w.setCell ((⟨g, o, none⟩ : Addr).add i) v) := by
      rw [run_store P w _ v .plain (h1 v List.mem_cons_self), hcell, hfz]; rfl
    have hg' : (w.setCell ((⟨g, o, none⟩ : Addr).add i) v).heap[g]? = some (.cells (cur.setIfInBounds (o + i) v) t fr) := by
      rw [add_off]; simp [World.setCell, Array.getElem?_modify, hg]
    obtain ⟨w', q1, q2, q3⟩ := run_stores g o t fr vs (i + 1) (cur.setIfInBounds (o + i) v) _ hg' (by simpa using hf) (by simp; omega) (fun u hu => h1 u (List.mem_cons_of_mem _ hu))
    refine ⟨w', ?_, ?_, ?_⟩
    · simp only [storeCells, Sem.run_bind, hst, Result.andThen_ok]
      exact q1
    · rw [q2]
      congr 3
      simp only [Array.toList_setIfInBounds, List.length_cons]
      rw [show o + (i + 1) = o + i + 1 by omega, List.take_succ_eq_append_getElem (by simpa using hlt), List.take_set_of_le (Nat.le_refl _), List.getElem_set_self, List.drop_set_of_lt (by omega)]
      simp only [List.append_assoc, List.cons_append, List.nil_append]
      rw [show o + i + 1 + vs.length = o + i + (vs.length + 1) by omega]
    · exact ⟨q3.os, q3.tape, q3.output, by have := q3.size; simpa using this, fun k hk hm => (q3.block k (by simpa using hk) hm).trans (Below.heap_setCell _ _ _ _ (by rw [add_off]; exact hm))⟩

theorem run_storeVar {w w' : World} {t m : Nat} (hs : szOf P t = some m) {v : Value} (hv : v.cells.size = m) (ad : Addr) (h : (storeCells ad v.cells.toList 0).run P w = .ok () w') : (Instr.storeAt t (.pointer (some ad)) v).run P w = .ok () w' := by
  simp [Instr.storeAt, Instr.sureAddr, storeVar, run_size hs, hv, h]

theorem splice_get {α : Type} (l m : List α) (o j : Nat) (h : o + m.length ≤ l.length) : (l.take o ++ m ++ l.drop (o + m.length))[j]? = if j < o then l[j]? else if j < o + m.length then m[j - o]? else l[j]? := by
  have e1 : (l.take o).length = o := by simp; omega
  by_cases h1 : j < o
  · rw [if_pos h1, List.append_assoc, List.getElem?_append_left (by omega), List.getElem?_take, if_pos h1]
  · rw [if_neg h1]
    by_cases h2 : j < o + m.length
    · rw [if_pos h2, List.append_assoc, List.getElem?_append_right (by omega), List.getElem?_append_left (by omega), e1]
    · rw [if_neg h2, List.getElem?_append_right (by simp; omega), List.getElem?_drop]
      simp only [List.length_append, e1]
      congr 1; omega

theorem sto_box (R : Rel c E os) {id o : Nat} {ds cs : List D} {v : Value} {t m : Nat} (hs : szOf P t = some m) (ho : os[id]? = some (.box ds)) {vp : Value} (hp : V E os (.ptr id o) vp) (hv1 : v.cells.size = cs.length) (hv2 : ∀ u ∈ v.cells.toList, u.oneCell' = true)
    (hv3 : ∀ (j : Nat) (d : D) (u : Value), cs[j]? = some d → v.cells[j]? = some u → V E os d u) (hm : cs.length = m) (hle : o + m ≤ ds.length) :
    ∃ E', (Instr.storeAt t vp v).run P E.w = .ok () E'.w ∧ Rel c E' (os.set id (.box (ds.take o ++ cs ++ ds.drop (o + m)))) ∧ Evo E os E' (os.set id (.box (ds.take o ++ cs ++ ds.drop (o + m)))) := by
  cases hp with
  | ptr hb0 hb =>
    rename_i b cu ds0
    obtain ⟨p, hp, hok⟩ := R.at ho
    rw [hp] at hb; cases hb
    obtain ⟨vs, ty, h1, h2, h3⟩ := hok
    obtain ⟨w', q1, q2, q3⟩ := run_stores (P := P) b o ty (0, 0) v.cells.toList 0 vs E.w h1 (.inl rfl) (by simp; omega) hv2
    subst hm
    obtain ⟨R', ev⟩ := R.set ho hp w' (.box (ds.take o ++ cs ++ ds.drop (o + cs.length))) (b, cu) ⟨q3.os, q3.tape, q3.output, q3.size, fun k hk hm => q3.block k hk (fun h => hm (by rw [h]; rfl))⟩ (fun b' hb' => .inl hb') (fun sz rs h => by cases h) (fun ds h => ⟨rfl, _, rfl⟩) (fun ev => by
      refine ⟨_, ty, q2, by simp; omega, fun j d u hd hu => ?_⟩
      simp only [Nat.add_zero, Array.length_toList, hv1] at hu
      have hu' : (vs.toList.take o ++ v.cells.toList ++ vs.toList.drop (o + v.cells.toList.length))[j]? = some u := by simpa [hv1] using hu
      rw [splice_get _ _ _ _ (by simp; omega)] at hu'
      rw [splice_get _ _ _ _ hle] at hd
      simp only [Array.length_toList, hv1] at hu'
      split at hd
      · rename_i hj; rw [if_pos hj] at hu'
        have := h3 j d u hd (by simpa using hu')
        exact ⟨this.1.mono ev, this.2⟩
      · rename_i hj; rw [if_neg hj] at hu'
        split at hd
        · rename_i hj2; rw [if_pos hj2] at hu'
          exact ⟨(hv3 _ d u hd (by simpa using hu')).mono ev, hv2 u (List.mem_of_getElem? hu')⟩
        · rename_i hj2; rw [if_neg hj2] at hu'
          have := h3 j d u hd (by simpa using hu')
          exact ⟨this.1.mono ev, this.2⟩)
    exact ⟨_, run_storeVar hs (by rw [hv1]) _ q1, R', ev⟩

/-- Cells of a row are written. -/
theorem row_write (R : Rel c E os) {id : Nat} {fz : Bool} {e sz : Nat} {rs rs' : List (List X)} (ho : os[id]? = some (.rows fz e sz rs)) {p : Nat × Value} (hp : E.ob[id]? = some p) {g cap : Nat} (hg : p.2 = .slice (some ⟨g, 0, none⟩) rs.length cap) (k : Nat) (vs : List Value) (h1 : ∀ u ∈ vs, u.oneCell' = true)
    (hle : k + vs.length ≤ rs.length * sz) (hl : rs'.length = rs.length) (hz : ∀ r ∈ rs', r.length = sz)
    (hv : ∀ (i : Nat) (r : List X) (j : Nat) (x : X), rs'[i]? = some r → r[j]? = some x → (i * sz + j < k ∨ k + vs.length ≤ i * sz + j) → ∃ r0, rs[i]? = some r0 ∧ r0[j]? = some x)
    (hw : ∀ (i : Nat) (r : List X) (j : Nat) (x : X) (u : Value), rs'[i]? = some r → r[j]? = some x → k ≤ i * sz + j → i * sz + j < k + vs.length → vs[i * sz + j - k]? = some u → VX E.w E.st x u) :
    ∃ E', (storeCells ⟨g, k, none⟩ vs 0).run P E.w = .ok () E'.w ∧ Rel c E' (os.set id (.rows fz e sz rs')) ∧ Evo E os E' (os.set id (.rows fz e sz rs')) := by
  obtain ⟨xs, q1, q2, q3⟩ := R.ok id _ p ho hp
  rcases q1.2 with ⟨h3, _⟩ | ⟨g', cap', cells, fr, h3, h4, h5, h6, h7, h8, h9⟩
  · rw [hg] at h3; cases h3
  · rw [hg] at h3; cases h3
    have hcs : rs.length * sz ≤ cells.size := by rw [h7]; exact Nat.mul_le_mul_right _ h5
    obtain ⟨w', k1, k2, k3⟩ := run_stores (P := P) g k e fr vs 0 cells E.w h4 (by rcases h9 with h9 | h9; exact .inl h9; exact .inr h9.2) (by omega) h1
    obtain ⟨R', ev⟩ := R.set ho hp w' (.rows fz e sz rs') p ⟨k3.os, k3.tape, k3.output, k3.size, fun j hj hm => k3.block j hj (fun h => hm (by rw [h]; simp [Ob.mb, hg, Value.ownBlock]))⟩ (fun b' hb' => .inl hb')
      (fun sz' rs1 h => by simp [Ob.slice?] at h; obtain ⟨rfl, rfl⟩ := h; exact ⟨rs', rfl, .inl ⟨hl.symm, rfl⟩⟩) (fun ds h => by cases h) (fun ev => by
        rw [Nat.add_zero] at k2
        have hsize : (cells.toList.take k ++ vs ++ cells.toList.drop (k + vs.length)).length = cells.size := by simp; omega
        refine ⟨(cells.toList.take k ++ vs ++ cells.toList.drop (k + vs.length)).take (rs'.length * sz), ⟨by rw [List.length_take, hsize, hl]; omega, .inr ⟨g, cap, _, fr, by rw [hl]; exact hg, k2, by rw [hl]; exact h5, h6, by simp only [List.size_toArray, hsize]; exact h7, by rw [hl], ?_⟩⟩, hz, fun i r j x v hr hx hv' => ?_⟩
        · rcases h9 with h9 | h9
          · exact .inl h9
          · exact .inr ⟨h9.1, by simp only [List.size_toArray, hsize]; exact h9.2⟩
        · have hi := (List.getElem?_eq_some_iff.1 hr).1
          have hj : j < sz := by rw [← hz r (List.mem_of_getElem? hr)]; exact (List.getElem?_eq_some_iff.1 hx).1
          have hlt : i * sz + j < rs'.length * sz := by
            have : (i + 1) * sz ≤ rs'.length * sz := Nat.mul_le_mul_right _ hi
            rw [Nat.add_mul] at this; omega
          rw [List.getElem?_take, if_pos hlt, splice_get _ _ _ _ (by simp; omega)] at hv'
          refine VX.mono (fun b o hb => ev.st b o hb) (w := E.w) (st := E.st) ?_
          by_cases hk : i * sz + j < k
          · rw [if_pos hk] at hv'
            obtain ⟨r0, w1, w2⟩ := hv i r j x hr hx (.inl hk)
            refine q3 i r0 j x v w1 w2 ?_
            rw [← h8, List.getElem?_take, if_pos (by rw [← hl]; exact hlt)]; exact hv'
          · rw [if_neg hk] at hv'
            by_cases hk2 : i * sz + j < k + vs.length
            · rw [if_pos hk2] at hv'
              exact hw i r j x v hr hx (by omega) hk2 hv'
            · rw [if_neg hk2] at hv'
              obtain ⟨r0, w1, w2⟩ := hv i r j x hr hx (.inr (by omega))
              refine q3 i r0 j x v w1 w2 ?_
              rw [← h8, List.getElem?_take, if_pos (by rw [← hl]; exact hlt)]; exact hv')
    exact ⟨_, k1, R', ev⟩

theorem sto_eptr (R : Rel c E os) {id ext i o : Nat} {fz : Bool} {e sz : Nat} {rs : List (List X)} {r : List X} {xs : List X} {v : Value} {t m : Nat} (hs : szOf P t = some m) (ho : os[id]? = some (.rows fz e sz rs)) {vp : Value} (hp : V E os (.eptr id ext i o) vp) (hr : rs[i]? = some r) (hext : rs.length = ext)
    (hv1 : v.cells.size = m) (hv2 : ∀ u ∈ v.cells.toList, u.oneCell' = true) (hx : xs.length = m) (hv3 : ∀ (j : Nat) (x : X) (u : Value), xs[j]? = some x → v.cells[j]? = some u → VX E.w E.st x u) (hle : o + m ≤ sz) :
    ∃ E', (Instr.storeAt t vp v).run P E.w = .ok () E'.w ∧ Rel c E' (os.set id (.rows fz e sz (rs.set i (r.take o ++ xs ++ r.drop (o + m))))) ∧ Evo E os E' (os.set id (.rows fz e sz (rs.set i (r.take o ++ xs ++ r.drop (o + m))))) := by
  cases hp with
  | eptr h _ =>
    obtain ⟨h1, h2⟩ := h.at ho rfl
    obtain ⟨h3, b, g, cap, h4, h5⟩ := h2 hext
    obtain ⟨p, hp, hok⟩ := R.at ho
    rw [hp] at h4; cases h4
    subst h5
    have hok' := hok
    obtain ⟨vs, k1, k2, k3⟩ := hok'
    have hrl : r.length = sz := k2 r (List.mem_of_getElem? hr)
    subst hx
    have hil : i < rs.length := by omega
    have hi1 : i * sz + sz ≤ rs.length * sz := by
      have : (i + 1) * sz ≤ rs.length * sz := Nat.mul_le_mul_right _ hil
      rw [Nat.add_mul] at this; omega
    have hnew : ∀ j, (r.take o ++ xs ++ r.drop (o + xs.length))[j]? = if j < o then r[j]? else if j < o + xs.length then xs[j - o]? else r[j]? := fun j => splice_get r xs o j (by omega)
    have hget : ∀ i', (rs.set i (r.take o ++ xs ++ r.drop (o + xs.length)))[i']? = if i = i' then some (r.take o ++ xs ++ r.drop (o + xs.length)) else rs[i']? := fun i' => by
      rw [List.getElem?_set]; by_cases hii : i = i'
      · subst hii; simp [hil]
      · simp [hii]
    have hrow : ∀ i' j, j < sz → i' ≠ i → ¬ (i * sz ≤ i' * sz + j ∧ i' * sz + j < i * sz + sz) := fun i' j hj hne hh => by
      rcases Nat.lt_or_gt_of_ne hne with hlt | hlt
      · have : (i' + 1) * sz ≤ i * sz := Nat.mul_le_mul_right _ hlt
        rw [Nat.add_mul] at this; omega
      · have : (i + 1) * sz ≤ i' * sz := Nat.mul_le_mul_right _ hlt
        rw [Nat.add_mul] at this; omega
    obtain ⟨E', q1, q2, q3⟩ := row_write (P := P) R ho hp (by rw [hext]) (i * sz + o) v.cells.toList hv2 (by simp; omega) (rs' := rs.set i (r.take o ++ xs ++ r.drop (o + xs.length))) (by simp) (fun r' hr' => by
        rcases List.mem_or_eq_of_mem_set hr' with h | h
        · exact k2 r' h
        · subst h; simp; omega)
      (fun i' r' j x hr' hx' hj => by
        rw [hget] at hr'
        by_cases hii : i = i'
        · subst hii
          simp at hr'; subst hr'
          rw [← List.append_assoc, hnew] at hx'
          simp at hj
          refine ⟨r, hr, ?_⟩
          split at hx'
          · exact hx'
          · split at hx'
            · omega
            · exact hx'
        · simp [hii] at hr'
          exact ⟨r', hr', hx'⟩)
      (fun i' r' j x u hr' hx' hj1 hj2 hu => by
        rw [hget] at hr'
        simp at hj2
        by_cases hii : i = i'
        · subst hii
          simp at hr'; subst hr'
          rw [← List.append_assoc, hnew, if_neg (by omega), if_pos (by omega)] at hx'
          refine hv3 _ x u hx' ?_
          have : i * sz + j - (i * sz + o) = j - o := by omega
          rw [this] at hu
          simpa using hu
        · simp [hii] at hr'
          have hj : j < sz := by rw [← k2 r' (List.mem_of_getElem? hr')]; exact (List.getElem?_eq_some_iff.1 hx').1
          exact absurd ⟨by omega, by omega⟩ (hrow i' j hj (Ne.symm hii)))
    exact ⟨E', run_storeVar hs hv1 _ q1, q2, q3⟩

theorem madeCells_get (z : Array Value) (k sz i j : Nat) (hz : z.size = sz) (hj : j < sz) (hi : i < k) : (madeCells z (k * sz)).toList[i * sz + j]? = z[j]? := by
  have hlt : i * sz + j < k * sz := by
    have : (i + 1) * sz ≤ k * sz := Nat.mul_le_mul_right _ hi
    rw [Nat.add_mul] at this; omega
  have e : (i * sz + j) % sz = j := by rw [Nat.mul_comm, Nat.mul_add_mod, Nat.mod_eq_of_lt hj]
  subst hz
  rw [Array.getElem?_toList, Array.getElem?_eq_getElem (by rw [size_madeCells]; exact hlt)]
  simp [madeCells, e, hj]

theorem zeroX_ok {z : Value} {zx : List X} (h : zeroX z = some zx) : zx.length = z.cells.size ∧ ∀ (j : Nat) (x : X) (u : Value), zx[j]? = some x → z.cells[j]? = some u → ∀ (w : World) (st : Nat → Nat → Prop), VX w st x u := by
  have one : ∀ (v : Value) (x : X), constD1 v = .x x → ∀ (w : World) (st : Nat → Nat → Prop), VX w st x v := fun v x h w st => by
    have := V.const1 ⟨w, st, []⟩ [] v
    rw [h] at this
    exact this.xx
  unfold zeroX at h
  split at h
  · rename_i cs
    have key : ∀ (l : List Value) (zx : List X), l.mapM (fun v => match constD1 v with | .x x => some x | _ => none) = some zx → zx.length = l.length ∧ ∀ (j : Nat) (x : X) (u : Value), zx[j]? = some x → l[j]? = some u → ∀ (w : World) (st : Nat → Nat → Prop), VX w st x u := by
      intro l
      induction l with
      | nil => intro zx h; simp at h; subst h; exact ⟨rfl, fun j x u hx => by simp at hx⟩
      | cons v l ih =>
        intro zx h
        simp only [List.mapM_cons, Option.bind_eq_bind, Option.bind_eq_some_iff, Option.pure_def] at h
        obtain ⟨x, hx, ys, hys, h⟩ := h
        cases h
        obtain ⟨h1, h2⟩ := ih ys hys
        refine ⟨by simp [h1], fun j y u hy hu => ?_⟩
        cases j with
        | zero =>
          simp at hy hu; subst hy; subst hu
          split at hx
          · rename_i x' hx'; cases hx; exact one v _ hx'
          · cases hx
        | succ j => exact h2 j y u (by simpa using hy) (by simpa using hu)
    obtain ⟨h1, h2⟩ := key cs.toList zx h
    exact ⟨by simpa [Value.cells] using h1, fun j x u hx hu => h2 j x u hx (by simpa [Value.cells] using hu)⟩
  · rename_i hne
    split at h
    · rename_i x hx
      cases h
      have hc : z.cells = #[z] := by cases z <;> first | rfl | exact absurd rfl (hne _)
      rw [hc]
      refine ⟨rfl, fun j y u hy hu => ?_⟩
      cases j with
      | zero => simp at hy hu; subst hy; subst hu; exact one _ _ hx
      | succ j => simp at hy
    · cases h

theorem mks_ok (R : Rel c E os) {t e : Nat} {i : TypeInfo} {z : Value} {zx : List X} (ht : P.underlying t = some (.slice e)) (hi : P.info? e = some i) (hz : i.zero = some z) (hzx : zeroX z = some zx) (hzl : zx.length = i.size) (hby : i.bytes ≤ 128) (kl kc : IntKind) (l cp : Nat) (hlc : l ≤ cp) (hcm : cp ≤ 1099511627776) :
    ∃ v E', (Instr.makeSlice t (.int kl l) (.int kc cp)).run P E.w = .ok v E'.w ∧ Rel c E' (os ++ [.rows false e i.size (List.replicate l zx)]) ∧ Evo E os E' (os ++ [.rows false e i.size (List.replicate l zx)]) ∧ V E' (os ++ [.rows false e i.size (List.replicate l zx)]) (.ref os.length l 0 l) v := by
  obtain ⟨z1, z2⟩ := zeroX_ok hzx
  have hb : (i.bytes : Int) * (cp : Int) ≤ 281474976710656 := by
    have h : i.bytes * cp ≤ 128 * 1099511627776 := Nat.mul_le_mul hby hcm
    have : ((i.bytes * cp : Nat) : Int) ≤ 281474976710656 := by omega
    rwa [Int.natCast_mul] at this
  have hr := run_make (P := P) E.w t e i z ht hi hz kl kc l cp (by omega) (by omega) hb (by omega)
  simp only [Int.toNat_natCast] at hr
  have hrow : Row (E.w.alloc (.cells (madeCells z.cells (cp * i.size)) e)) false e i.size (List.replicate l zx).length (.slice (some ⟨E.w.heap.size, 0, none⟩) l cp) ((madeCells z.cells (cp * i.size)).toList.take (l * i.size)) := by
    have hle : l * i.size ≤ cp * i.size := Nat.mul_le_mul_right _ hlc
    refine ⟨by rw [List.length_take, Array.length_toList, size_madeCells, List.length_replicate]; omega, .inr ⟨E.w.heap.size, cp, _, (0, 0), by simp, heap_alloc_new _ _, by simpa using hlc, by simp only [maxLen]; omega, size_madeCells _ _, by simp, .inl rfl⟩⟩
  obtain ⟨E', h1, h2, h3, h4⟩ := push_row (rs := List.replicate l zx) R (kept_alloc _ _) hrow (fun b hb => by cases hb; exact Nat.le_refl _) (fun r hr => by rw [(List.mem_replicate.1 hr).2]; exact hzl) (fun k r j x v hk hx hv => by
    have hk' : k < l := by have := (List.getElem?_eq_some_iff.1 hk).1; simpa using this
    have hrz : r = zx := by have := List.mem_of_getElem? hk; exact (List.mem_replicate.1 this).2
    subst hrz
    have hj : j < i.size := by rw [← hzl]; exact (List.getElem?_eq_some_iff.1 hx).1
    have hlt : k * i.size + j < l * i.size := by
      have : (k + 1) * i.size ≤ l * i.size := Nat.mul_le_mul_right _ hk'
      rw [Nat.add_mul] at this; omega
    rw [List.getElem?_take, if_pos hlt, madeCells_get z.cells cp i.size k j (by omega) hj (by omega)] at hv
    exact z2 j x v hx hv _ _)
  rw [List.length_replicate] at h4
  exact ⟨_, E', by rw [h1]; exact hr, h2, h3, h4⟩

theorem flat_get (l : List Value) (sz : Nat) (h : ∀ v ∈ l, v.cells.size = sz) : ∀ (i j : Nat) (v : Value), l[i]? = some v → j < sz → ((l.map fun v => v.cells.toList).flatten)[i * sz + j]? = v.cells[j]? := by
  induction l with
  | nil => intro i j v hv; simp at hv
  | cons u l ih =>
    intro i j v hv hj
    have hu := h u List.mem_cons_self
    rw [List.map_cons, List.flatten_cons]
    cases i with
    | zero =>
      simp at hv; subst hv
      rw [Nat.zero_mul, Nat.zero_add, List.getElem?_append_left (by simp [hu]; exact hj), Array.getElem?_toList]
    | succ i =>
      rw [List.getElem?_append_right (by simp [hu, Nat.add_mul]; omega)]
      rw [← ih (fun v hv => h v (List.mem_cons_of_mem _ hv)) i j v (by simpa using hv) hj]
      congr 1
      simp [hu, Nat.add_mul]; omega

theorem bsl_ok (R : Rel c E os) (hf : Fr n E os φ a) {t e m : Nat} {i : TypeInfo} {z : Value} (ht : P.underlying t = some (.slice e)) (hi : P.info? e = some i) (hz : i.zero = some z) {xs : List Operand} {ys : List IO} (hm : xs.mapM compO = some ys) (hl : xs.length = m) (hle : m * i.size ≤ 16777216) (hle2 : m ≤ 16777216)
    {rs : List (List X)} {os' : List Ob} (h : partsD φ i.size os ys = some (true, rs, os')) :
    ∃ v E', (Instr.buildSlice t m (((xs.map a.eval).zipIdx 0).map fun p => (p.2, p.1)).toArray).run P E.w = .ok v E'.w ∧ Rel c E' (os' ++ [.rows false e i.size rs]) ∧ Evo E os E' (os' ++ [.rows false e i.size rs]) ∧ V E' (os' ++ [.rows false e i.size rs]) (.ref os'.length m 0 m) v := by
  obtain ⟨st', R1, e1, k1, k2, k3, k4⟩ := partsD_ok R hf hm h
  obtain ⟨cs, q1, q2, q3⟩ := run_bsl (P := P) ht hi hz (xs.map a.eval) (by simpa using hl) hle (fun v hv => by obtain ⟨x, hx, rfl⟩ := List.mem_map.1 hv; exact (k3 x hx).1) E.w
  have hrl : rs.length = m := by omega
  have hrow : Row (E.w.alloc (.cells cs e)) false e i.size rs.length (.slice (some ⟨E.w.heap.size, 0, none⟩) m m) cs.toList := by
    refine ⟨by rw [Array.length_toList, q3, hrl], .inr ⟨E.w.heap.size, m, cs, (0, 0), by rw [hrl], heap_alloc_new _ _, by omega, ?_, q3, ?_, .inl rfl⟩⟩
    · simp only [maxLen]; omega
    · rw [List.take_of_length_le (by rw [Array.length_toList, q3, hrl]; omega)]
  obtain ⟨E', h1, h2, h3, h4⟩ := push_row (E := ⟨E.w, st', E.ob⟩) R1 (kept_alloc _ _) hrow (fun b hb => by cases hb; exact Nat.le_refl _) k2 (fun k r j x v hk hx hv => by
    have hk' : k < xs.length := by have := (List.getElem?_eq_some_iff.1 hk).1; omega
    have hj : j < i.size := by rw [← k2 r (List.mem_of_getElem? hk)]; exact (List.getElem?_eq_some_iff.1 hx).1
    have hxk : xs[k]? = some xs[k] := List.getElem?_eq_getElem hk'
    rw [q2, flat_get (xs.map a.eval) i.size (fun v hv => by obtain ⟨x, hx, rfl⟩ := List.mem_map.1 hv; exact (k3 x hx).1) k j (a.eval xs[k]) (by simp [hk']) hj] at hv
    exact k4 k r _ j x v hk hxk hx hv)
  rw [hrl] at h4
  exact ⟨_, E', by rw [h1]; exact q1, h2, e1.trans h3, h4⟩

end
end Go.Ab
