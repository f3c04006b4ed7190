/- Append, copy, []byte(s); all operations that make objects or turn them. -/
import Derived.Test.YtogmbfaijmhamaaAb11
import Derived.ArgAppend
import Derived.Lib.ConvBytes
namespace Go.Ab
open Go.RowKit Go.Bo

theorem Kept.of_grown {w w' : World} {r : Option Nat} (h : w.grownBy w' r) : Kept (fun b => r = some b) w w' := ⟨h.os, h.tape, h.output, h.size, fun k hk hm => h.block k hk (fun e => hm e.symm)⟩
theorem Kept.of_none {w w' : World} (h : w.grownBy w' none) : Kept (fun _ => False) w w' := ⟨h.os, h.tape, h.output, h.size, fun k hk _ => h.block k hk (by simp)⟩

section
variable {P : Program} {E : Env} {os : List Ob} {c : Ctx} {n : Nat} {φ : List (Nat × D)} {a : Act}

/-- Values of two rows of rows one behind the other. -/
theorem rows_append {sz : Nat} {rs src : List (List X)} {xs news : List Value} {w : World} {st : Nat → Nat → Prop} (hxl : xs.length = rs.length * sz)
    (h1 : ∀ (i : Nat) (r : List X) (j : Nat) (x : X) (v : Value), rs[i]? = some r → r[j]? = some x → xs[i * sz + j]? = some v → VX w st x v)
    (h2 : ∀ (i : Nat) (r : List X) (j : Nat) (x : X), src[i]? = some r → r[j]? = some x → ∃ u, news[i * sz + j]? = some u ∧ VX w st x u)
    (i : Nat) (r : List X) (j : Nat) (x : X) (v : Value) (hr : (rs ++ src)[i]? = some r) (hx : r[j]? = some x) (hj : j < sz) (hv : (xs ++ news)[i * sz + j]? = some v) : VX w st x v := by
  by_cases hi : i < rs.length
  · rw [List.getElem?_append_left hi] at hr
    have hlt : i * sz + j < xs.length := by
      rw [hxl]
      have : (i + 1) * sz ≤ rs.length * sz := Nat.mul_le_mul_right _ hi
      rw [Nat.add_mul] at this; omega
    rw [List.getElem?_append_left hlt] at hv
    exact h1 i r j x v hr hx hv
  · rw [List.getElem?_append_right (by omega)] at hr
    have hge : rs.length * sz ≤ i * sz := Nat.mul_le_mul_right _ (by omega)
    rw [List.getElem?_append_right (by omega)] at hv
    obtain ⟨u, k1, k2⟩ := h2 _ r j x hr hx
    have e : i * sz + j - xs.length = (i - rs.length) * sz + j := by rw [hxl, Nat.sub_mul]; omega
    rw [e, k1] at hv
    cases hv
    exact k2

theorem app_nil_ok (R : Rel c E os) {t ty e : Nat} {i : TypeInfo} {z : Value} (ht : P.underlying t = some (.slice e)) (hi : P.info? e = some i) (hz : i.zero = some z) (hzs : z.cells.size = i.size) (hsz : 0 < i.size) (hby : i.bytes ≤ 128)
    {y : D} {vy : Value} (hy : V E os y vy) {src : List (List X)} (hr : rowsOf os y = some src) (hrl : ∀ r ∈ src, r.length = i.size) (hle : src.length ≤ 1099511627776) :
    ∃ v E', (Builtin.append_ #[t, t] ty #[.slice none 0 0, vy]).run P E.w = .ok v E'.w ∧ Rel c E' (os ++ [.rows false e i.size src]) ∧ Evo E os E' (os ++ [.rows false e i.size src]) ∧ V E' (os ++ [.rows false e i.size src]) (.ref os.length src.length 0 src.length) v := by
  obtain ⟨ad, cp, news, rfl, q2, q3, q4, q5, q6, q7, q8⟩ := rows_read R hy hr hrl
  cases ad with
  | none =>
    have h0 := q5 rfl
    have hs : src = [] := List.eq_nil_of_length_eq_zero h0
    subst hs
    obtain ⟨E', k1, k2, k3, k4⟩ := push_row (fz := false) (e := e) (sz := i.size) (rs := []) (cu := .slice none 0 0) (xs := []) R (Kept.refl _ E.w) ⟨by simp, .inl ⟨rfl, rfl⟩⟩ (fun b hb => by cases hb) (fun r hr => by cases hr) (fun i r j x v h => by simp at h)
    exact ⟨_, E', by rw [k1]; exact run_append_none E.w t ty e i ht hi none 0 0 (Nat.le_refl _) none cp, k2, k3, k4⟩
  | some ad =>
    obtain ⟨v', w', hrun, ho, hg, _⟩ := run_append_own (P := P) E.w E.w.heap.size t ty e i z i.size i.bytes ht hi hz rfl rfl hzs hsz (.slice none 0 0) 0 [] (World.ownsRow_nil _ _ _ _) ad src.length cp news q4 (q6 ad rfl) q7 (by simp only [maxLen]; omega)
      (by have h : src.length * i.bytes ≤ 1099511627776 * 128 := Nat.mul_le_mul hle hby
          rw [Nat.zero_add]; omega) (Nat.le_refl _)
    rw [Nat.zero_add, List.nil_append] at ho
    obtain ⟨E', k1, k2, k3, k4⟩ := push_row (rs := src) R (Kept.of_none hg) (Row.of_owns ho false) (fun b hb => (ho.lt b hb).1) hrl (fun k r j x v h1 h2 h3 => by
      obtain ⟨u, w1, w2⟩ := q8 k r j x h1 h2
      rw [w1] at h3; cases h3; exact w2)
    exact ⟨v', E', by rw [k1]; exact hrun, k2, k3, k4⟩

theorem app_full_ok (R : Rel c E os) {t ty e : Nat} {i : TypeInfo} {z : Value} (ht : P.underlying t = some (.slice e)) (hi : P.info? e = some i) (hz : i.zero = some z) (hzs : z.cells.size = i.size) (hsz : 0 < i.size) (hby : i.bytes ≤ 128)
    {rs0 : List (List X)} {vx : Value} (hx : V E os (.full rs0) vx) (hz0 : ∀ r ∈ rs0, r.length = i.size) {y : D} {vy : Value} (hy : V E os y vy) {src : List (List X)} (hr : rowsOf os y = some src) (hrl : ∀ r ∈ src, r.length = i.size) (hpos : src.length ≠ 0) (hle : rs0.length + src.length ≤ 1099511627776) :
    ∃ v E', (Builtin.append_ #[t, t] ty #[vx, vy]).run P E.w = .ok v E'.w ∧ Rel c E' (os ++ [.rows false e i.size (rs0 ++ src)]) ∧ Evo E os E' (os ++ [.rows false e i.size (rs0 ++ src)]) ∧ V E' (os ++ [.rows false e i.size (rs0 ++ src)]) (.ref os.length (rs0.length + src.length) 0 (rs0.length + src.length)) v := by
  obtain ⟨ad, cp, news, rfl, q2, q3, q4, q5, q6, q7, q8⟩ := rows_read R hy hr hrl
  obtain ⟨bd, bp, olds, rfl, p2, p3, p4, p5, p6, p7, p8⟩ := rows_read R hx (rs := rs0) rfl hz0
  have hcap : bp = rs0.length := by
    generalize rs0.length = k at *
    cases hx; rfl
  subst hcap
  · cases ad with
    | none => exact absurd (q5 rfl) hpos
    | some ad =>
      have b1 : rs0.length + src.length ≤ maxLen := by simp only [maxLen]; omega
      have b2 : (rs0.length + src.length) * i.bytes ≤ 140737488355328 := by
        have h : (rs0.length + src.length) * i.bytes ≤ 1099511627776 * 128 := Nat.mul_le_mul hle hby
        omega
      have key : ∃ v' w', (Builtin.append_ #[t, t] ty #[.slice bd rs0.length rs0.length, .slice (some ad) src.length cp]).run P E.w = .ok v' w' ∧ w'.ownsRow E.w.heap.size e i.size v' (rs0.length + src.length) (olds ++ news) ∧ E.w.grownBy w' none := by
        cases bd with
        | none =>
          have h0 := p5 rfl
          have hs : rs0 = [] := List.eq_nil_of_length_eq_zero h0
          subst hs
          have ho : olds = [] := List.eq_nil_of_length_eq_zero (by simpa using p4)
          subst ho
          obtain ⟨v', w', hrun, r1, r2, _⟩ := run_append_own (P := P) E.w E.w.heap.size t ty e i z i.size i.bytes ht hi hz rfl rfl hzs hsz (.slice none 0 0) 0 [] (World.ownsRow_nil _ _ _ _) ad src.length cp news q4 (q6 ad rfl) q7 (by simpa using b1) (by simpa using b2) (Nat.le_refl _)
          exact ⟨v', w', hrun, r1, r2⟩
        | some b =>
          obtain ⟨v', w', hrun, r1, r2⟩ := run_append_arg_grows (P := P) E.w t ty e i z i.size i.bytes ht hi hz rfl rfl hzs hsz b rs0.length rs0.length olds p4 (p6 b rfl) ad src.length cp news q4 (q6 ad rfl) (by omega) b1 b2
          exact ⟨v', w', hrun, r1, r2⟩
      obtain ⟨v', w', hrun, ho, hg⟩ := key
      have hall : ∀ r ∈ rs0 ++ src, r.length = i.size := fun r hr => by
        rcases List.mem_append.1 hr with h | h
        · exact hz0 r h
        · exact hrl r h
      have ho' : Row w' false e i.size (rs0 ++ src).length v' (olds ++ news) := by rw [List.length_append]; exact Row.of_owns ho false
      obtain ⟨E', k1, k2, k3, k4⟩ := push_row (rs := rs0 ++ src) R (Kept.of_none hg) ho' (fun b hb => (ho.lt b hb).1) hall (fun k r j x v h1 h2 h3 =>
        rows_append p4 (fun i r j x v g1 g2 g3 => by obtain ⟨u, w1, w2⟩ := p8 i r j x g1 g2; rw [w1] at g3; cases g3; exact w2) q8 k r j x v h1 h2 (by rw [← hall r (List.mem_of_getElem? h1)]; exact (List.getElem?_eq_some_iff.1 h2).1) h3)
      rw [List.length_append] at k4
      exact ⟨v', E', by rw [k1]; exact hrun, k2, k3, k4⟩

theorem app_ref_ok (R : Rel c E os) {t ty e : Nat} {i : TypeInfo} {z : Value} (ht : P.underlying t = some (.slice e)) (hi : P.info? e = some i) (hz : i.zero = some z) (hzs : z.cells.size = i.size) (hsz : 0 < i.size) (hby : i.bytes ≤ 128)
    {id : Nat} {rs : List (List X)} {vx : Value} (hx : V E os (.ref id rs.length 0 rs.length) vx) (ho : os[id]? = some (.rows false e i.size rs)) {y : D} {vy : Value} (hy : V E os y vy) {src : List (List X)} (hr : rowsOf os y = some src) (hrl : ∀ r ∈ src, r.length = i.size) (hle : rs.length + src.length ≤ 1099511627776) :
    ∃ v E', (Builtin.append_ #[t, t] ty #[vx, vy]).run P E.w = .ok v E'.w ∧ Rel c E' (os.set id (.rows false e i.size (rs ++ src))) ∧ Evo E os E' (os.set id (.rows false e i.size (rs ++ src))) ∧ V E' (os.set id (.rows false e i.size (rs ++ src))) (.ref id (rs.length + src.length) 0 (rs.length + src.length)) v := by
  obtain ⟨ad, cp, news, rfl, q2, q3, q4, q5, q6, q7, q8⟩ := rows_read R hy hr hrl
  obtain ⟨p, hp, hok⟩ := R.at ho
  obtain ⟨xs, k1, k2, k3⟩ := hok
  have hlt := (List.getElem?_eq_some_iff.1 ho).1
  have hvx : vx = p.2 := by
    obtain ⟨h1, h2⟩ := hx.ref_inv.at ho rfl
    obtain ⟨h3, b, a0, cap, a', cap', h4, h5, h6, h7, h8, h9⟩ := h2 rfl
    rw [hp] at h4
    obtain ⟨h10, h11⟩ := h8 rfl
    rw [h10, h11] at h5
    rw [h5, Option.some.inj h4]
  subst hvx
  have refOf : ∀ {E' : Env} {rs' : List (List X)} {cu : Value} {w' : World} {xs' : List Value}, E'.ob = E.ob.set id (p.1, cu) → Row w' false e i.size rs'.length cu xs' → V E' (os.set id (.rows false e i.size rs')) (.ref id rs'.length 0 rs'.length) cu := by
    intro E' rs' cu w' xs' hob hrow
    have hob' : E'.ob[id]? = some (p.1, cu) := by rw [hob]; simp [R.len, hlt]
    refine .ref ⟨.rows false e i.size rs', i.size, rs', by rw [List.getElem?_set_self hlt], rfl, ?_⟩ ?_
    · refine ⟨Nat.le_refl _, fun _ => ⟨by omega, p.1, ?_⟩⟩
      rcases hrow.2 with ⟨h3, h4⟩ | ⟨g, cap, cells, fr, h3, h4, h5, h6, h7⟩
      · subst h3
        exact ⟨none, 0, none, 0, by rw [hob', h4], by rw [h4], by omega, Nat.zero_le _, fun _ => ⟨rfl, rfl⟩, fun _ ad h => (by cases h), fun _ => ⟨h4, rfl⟩, fun ad h => (by cases h)⟩
      · subst h3
        exact ⟨_, cap, _, cap, hob', rfl, h5, h6, fun _ => ⟨rfl, rfl⟩, fun _ ad h => (by cases h; simp), fun h => (by cases h), fun ad h => (by cases h; rfl)⟩
    · rcases hrow.2 with ⟨h3, h4⟩ | ⟨g, cap, cells, fr, h3, h4, h5, h6, h7⟩ <;> subst h3 <;> rfl
  cases ad with
  | none =>
    have h0 := q5 rfl
    have hs : src = [] := List.eq_nil_of_length_eq_zero h0
    subst hs
    simp only [List.append_nil, List.length_nil, Nat.add_zero]
    have hset : os.set id (.rows false e i.size rs) = os := by
      apply List.ext_getElem?
      intro j
      rw [List.getElem?_set]
      by_cases hj : id = j
      · subst hj; rw [if_pos rfl, ho]; simp [hlt]
      · simp [hj]
    rw [hset]
    refine ⟨p.2, E, ?_, R, Evo.refl _ _, hx⟩
    rcases k1.2 with ⟨h3, h4⟩ | ⟨g, cap, cells, fr, h3, h4, h5, h6, h7⟩
    · rw [h3]; exact run_append_none E.w t ty e i ht hi none 0 0 (Nat.le_refl _) none cp
    · rw [h3]; exact run_append_none E.w t ty e i ht hi _ _ _ h5 none cp
  | some ad =>
    have hown := k1.owns
    obtain ⟨v', w', hrun, ho', hG⟩ := run_own_append (P := P) E.w 0 t ty e i z i.size i.bytes ht hi hz rfl rfl hzs hsz p.2 rs.length xs hown ad src.length cp news q4 (q6 ad rfl) q7 (by simp only [maxLen]; omega)
      (by have h : (rs.length + src.length) * i.bytes ≤ 1099511627776 * 128 := Nat.mul_le_mul hle hby
          omega) (Nat.zero_le _)
    have hall : ∀ r ∈ rs ++ src, r.length = i.size := fun r hr => by
      rcases List.mem_append.1 hr with h | h
      · exact k2 r h
      · exact hrl r h
    have hrow : Row w' false e i.size (rs ++ src).length v' (xs ++ news) := by rw [List.length_append]; exact Row.of_owns ho' false
    by_cases hpos : src.length = 0
    · have hs : src = [] := List.eq_nil_of_length_eq_zero hpos
      subst hs
      have hset : os.set id (.rows false e i.size rs) = os := by
        apply List.ext_getElem?
        intro j
        rw [List.getElem?_set]
        by_cases hj : id = j
        · subst hj; rw [if_pos rfl, ho]; simp [hlt]
        · simp [hj]
      simp only [List.append_nil, List.length_nil, Nat.add_zero]
      rw [hset]
      refine ⟨p.2, E, ?_, R, Evo.refl _ _, hx⟩
      rcases k1.2 with ⟨h3, h4⟩ | ⟨g, cap, cells, fr, h3, h4, h5, h6, h7⟩
      · rw [h3]; exact run_append_none E.w t ty e i ht hi none 0 0 (Nat.le_refl _) (some ad) cp
      · rw [h3]; exact run_append_none E.w t ty e i ht hi _ _ _ h5 (some ad) cp
    · obtain ⟨R', ev⟩ := R.set ho hp w' (.rows false e i.size (rs ++ src)) (p.1, v') (Kept.of_grown hG.grown) (fun b hb => by
        have hb' : v'.ownBlock = some b := hb
        rcases hG.own with h | ⟨g, h, h2⟩
        · left; show p.2.ownBlock = some b; rw [← h]; exact hb'
        · right; rw [h] at hb'; cases hb'; exact h2) (fun sz rs1 h => by
          simp [Ob.slice?] at h; obtain ⟨rfl, rfl⟩ := h; exact ⟨rs ++ src, rfl, .inr (by simp; omega)⟩) (fun ds h => by cases h) (fun ev => by
          refine ⟨xs ++ news, hrow, hall, fun k r j x v h1 h2 h3 => ?_⟩
          refine VX.mono (w := E.w) (st := E.st) (fun b o hb => ev.st b o hb) ?_
          exact rows_append k1.1 k3 q8 k r j x v h1 h2 (by rw [← hall r (List.mem_of_getElem? h1)]; exact (List.getElem?_eq_some_iff.1 h2).1) h3)
      have := refOf (E' := ⟨w', E.st, E.ob.set id (p.1, v')⟩) rfl hrow
      rw [List.length_append] at this
      exact ⟨v', _, hrun, R', ev, this⟩

theorem s2b_ok (R : Rel c E os) {s d e : Nat} {u : TypeDesc} (hs : P.underlying s = some u) (hd : P.underlying d = some (.slice e)) (he : P.underlying e = some (.int .u8)) (b : List UInt8) (hb40 : b.length ≤ 1099511627776) :
    ∃ v E', (convert s d (.string (bstr b))).run P E.w = .ok v E'.w ∧ Rel c E' (os ++ [.rows true e 1 (b.map byteRow)]) ∧ Evo E os E' (os ++ [.rows true e 1 (b.map byteRow)]) ∧ V E' (os ++ [.rows true e 1 (b.map byteRow)]) (.ref os.length b.length 0 b.length) v := by
  have hr := Lib.run_convert_string_bytes (P := P) E.w s d e (bstr b) hs hd he
  have hk : Kept (fun _ => False) E.w (Lib.bytesWorld E.w e (bstr b)) := ⟨rfl, rfl, rfl, by rw [Lib.bytesWorld_size]; omega, fun k hk _ => Lib.bytesWorld_at_old _ _ _ _ hk⟩
  have hge := grownCap_ge E.w (bstr b).size 0 e
  have hcs : (Lib.bytesCells E.w e (bstr b)).size = grownCap E.w (bstr b).size 0 e * 1 := by
    have : (bstr b).data.size = (bstr b).size := rfl
    simp [Lib.bytesCells]; omega
  have hrow : Row (Lib.bytesWorld E.w e (bstr b)) true e 1 (b.map byteRow).length (.slice (some ⟨E.w.heap.size, 0, none⟩) (bstr b).size (grownCap E.w (bstr b).size 0 e)) ((Lib.bytesCells E.w e (bstr b)).toList.take ((b.map byteRow).length * 1)) := by
    have hcl : (Lib.bytesCells E.w e (bstr b)).toList.length = grownCap E.w (bstr b).size 0 e * 1 := by rw [← hcs]; simp
    refine ⟨by rw [List.length_take, hcl, List.length_map, ← bstr_size b]; omega, .inr ⟨E.w.heap.size, grownCap E.w (bstr b).size 0 e, _, _, by rw [List.length_map, ← bstr_size b], Lib.bytesWorld_at_new _ _ _, by rw [List.length_map, ← bstr_size b]; exact hge, ?_, hcs, rfl, .inr ⟨rfl, Nat.le_refl _⟩⟩⟩
    refine grownCap_le_maxLen E.w _ 0 e ?_
    rw [bstr_size]; simp only [maxLen]; omega
  obtain ⟨E', h1, h2, h3, h4⟩ := push_row R hk hrow (fun b hb => by cases hb; exact Nat.le_refl _) (fun r hr => by obtain ⟨x, _, rfl⟩ := List.mem_map.1 hr; rfl) (fun i r j x v hr hx hv => by
    rw [List.getElem?_map] at hr
    obtain ⟨y, hy, rfl⟩ := Option.map_eq_some_iff.1 hr
    cases j with
    | succ j => simp [byteRow] at hx
    | zero =>
      simp [byteRow] at hx
      subst hx
      have hi := (List.getElem?_eq_some_iff.1 hy).1
      rw [List.getElem?_take, if_pos (by simp; omega)] at hv
      have hb : b[i] = y := (List.getElem?_eq_some_iff.1 hy).2
      simp only [Lib.bytesCells, bstr, Array.toList_append, Array.toList_map, Nat.mul_one, Nat.add_zero] at hv
      rw [List.getElem?_append_left (by simpa using hi), List.getElem?_map, List.getElem?_eq_getElem hi, hb] at hv
      simp at hv
      subst hv
      exact .int _ _)
  rw [List.length_map] at h4
  exact ⟨_, E', by rw [h1]; exact hr, h2, h3, h4⟩

end
end Go.Ab
