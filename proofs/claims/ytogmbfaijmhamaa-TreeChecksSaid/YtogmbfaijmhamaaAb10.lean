/- Operations that make objects or turn them. -/
import Derived.Test.YtogmbfaijmhamaaAb9
namespace Go.Ab
open Go.RowKit Go.Bo

/-- A value as a plain one: a row of the call's own no longer turns from here on. -/
def freezeD (os : List Ob) : D → Option (X × List Ob)
  | .x y => some (y, os)
  | .full rs => some (.sl rs, os)
  | .ref id ext off len => match os[id]? with
    | some (.rows _ _ sz rs) => if rs.length = ext then some (.sl ((rs.drop off).take len), os.set id (.frz sz rs)) else none
    | some (.frz _ rs) => if rs.length = ext then some (.sl ((rs.drop off).take len), os) else none
    | _ => none
  | _ => none
def freezeL : List Ob → List D → Option (List X × List Ob)
  | os, [] => some ([], os)
  | os, d :: ds => (freezeD os d).bind fun p => (freezeL p.2 ds).map fun q => (p.1 :: q.1, q.2)

/-- The rows that a literal's parts are. -/
def partsD (φ : List (Nat × D)) (sz : Nat) : List Ob → List IO → Option (Bool × List (List X) × List Ob)
  | os, [] => some (true, [], os)
  | os, x :: xs => (opv φ x).val.cells?.bind fun cs => (freezeL os cs).bind fun p => if p.1.length = sz then
      (partsD φ sz p.2 xs).map fun q => ((opv φ x).cond && q.1, p.1 :: q.2.1, q.2.2) else none

/-- What is copied: a row, or a text's bytes. -/
def srcOf (os : List Ob) (sz : Nat) : D → Option (List (List X))
  | .x (.str s) => if sz = 1 then some (s.map byteRow) else none
  | d => rowsOf os d

def aact (φ : List (Nat × D)) (os : List Ob) : IE → Option (Bool × D × List Ob)
  | .box x => (opv φ x).val.cells?.map fun cs => ((opv φ x).cond, .ptr os.length 0, os ++ [.box cs])
  | .sto n p v => (opv φ v).val.cells?.bind fun cs => if cs.length = n then
      match (opv φ p).val with
      | .ptr id o => match os[id]? with
        | some (.box ds) => if o + n ≤ ds.length then some ((opv φ p).cond && (opv φ v).cond, .und, os.set id (.box (ds.take o ++ cs ++ ds.drop (o + n)))) else none
        | _ => none
      | .eptr id ext i o => (freezeL os cs).bind fun q => match q.2[id]? with
        | some (.rows fz e sz rs) => (rs[i]?).map fun r =>
            ((opv φ p).cond && (opv φ v).cond && (decide (rs.length = ext) && decide (o + n ≤ sz)), .und, q.2.set id (.rows fz e sz (rs.set i (r.take o ++ q.1 ++ r.drop (o + n)))))
        | _ => none
      | _ => none
    else none
  | .bsl e sz n parts => if n = parts.length then (partsD φ sz os parts).map fun q => (q.1, .ref q.2.2.length n 0 n, q.2.2 ++ [.rows false e sz q.2.1]) else none
  | .mks e sz by_ z l c => match intOf? (opv φ l).val, intOf? (opv φ c).val with
    | some l', some c' => if z.length = sz ∧ by_ ≤ 128 then some ((opv φ l).cond && (opv φ c).cond && (decide (0 ≤ l') && (decide (l' ≤ c') && decide (c' ≤ 1099511627776))), .ref os.length l'.toNat 0 l'.toNat, os ++ [.rows false e sz (List.replicate l'.toNat z)]) else none
    | _, _ => none
  | .app e sz by_ x y => if 0 < sz ∧ by_ ≤ 128 then (rowsOf os (opv φ y).val).bind fun src => match (opv φ x).val with
      | .x .nils => some ((opv φ x).cond && (opv φ y).cond && (decide (src.length ≤ 1099511627776) && src.all fun r => decide (r.length = sz)), .ref os.length src.length 0 src.length, os ++ [.rows false e sz src])
      | .full rs0 => if src.length = 0 then some ((opv φ x).cond && (opv φ y).cond, .full rs0, os) else
          some ((opv φ x).cond && (opv φ y).cond && (decide (rs0.length + src.length ≤ 1099511627776) && ((rs0.all fun r => decide (r.length = sz)) && src.all fun r => decide (r.length = sz))), .ref os.length (rs0.length + src.length) 0 (rs0.length + src.length), os ++ [.rows false e sz (rs0 ++ src)])
      | .ref id ext off len => match os[id]? with
        | some (.rows false e' sz' rs) => if e' = e ∧ sz' = sz ∧ off = 0 then
            some ((opv φ x).cond && (opv φ y).cond && (decide (rs.length = ext) && (decide (len = ext) && (decide (rs.length + src.length ≤ 1099511627776) && src.all fun r => decide (r.length = sz)))), .ref id (ext + src.length) 0 (ext + src.length), os.set id (.rows false e sz (rs ++ src))) else none
        | _ => none
      | _ => none
    else none
  | .cpy sz x y => (srcOf os sz (opv φ y).val).bind fun src => match (opv φ x).val with
      | .ref id ext off len => match os[id]? with
        | some (.rows fz e sz' rs) => if sz' = sz then
            some ((opv φ x).cond && (opv φ y).cond && (decide (rs.length = ext) && src.all fun r => decide (r.length = sz)), .x (.int .i64 (min src.length len : Nat)), os.set id (.rows fz e sz (rs.take off ++ src.take (min src.length len) ++ rs.drop (off + min src.length len)))) else none
        | _ => none
      | _ => none
  | .s2b e x => match (opv φ x).val with
    | .x (.str s) => some ((opv φ x).cond && decide (s.length ≤ 1099511627776), .ref os.length s.length 0 s.length, os ++ [.rows true e 1 (s.map byteRow)])
    | _ => none
  | _ => none

section
variable {P : Program} {E : Env} {os : List Ob} {c : Ctx} {n : Nat} {φ : List (Nat × D)} {a : Act}

/-- From here on: a world, objects, all that was known. -/
def Now (c : Ctx) (E : Env) (os : List Ob) (K : Env → List Ob → Prop) : Prop := ∃ E' os', Rel c E' os' ∧ Evo E os E' os' ∧ K E' os'

theorem freezeD_ok (R : Rel c E os) {d : D} {v : Value} (hv : V E os d v) {x : X} {os' : List Ob} (h : freezeD os d = some (x, os')) :
    ∃ st', Rel c ⟨E.w, st', E.ob⟩ os' ∧ Evo E os ⟨E.w, st', E.ob⟩ os' ∧ VX E.w st' x v := by
  have same : ∀ {y}, V E os d v → VX E.w E.st y v → os' = os → x = y → ∃ st', Rel c ⟨E.w, st', E.ob⟩ os' ∧ Evo E os ⟨E.w, st', E.ob⟩ os' ∧ VX E.w st' x v := by
    rintro y _ h1 rfl rfl
    exact ⟨E.st, R, Evo.refl _ _, h1⟩
  have frz : ∀ (E' : Env) (os1 : List Ob) (id ext off len sz : Nat) (rs : List (List X)), Rel c E' os1 → V E' os1 (.ref id ext off len) v → os1[id]? = some (.frz sz rs) → rs.length = ext → VX E'.w E'.st (.sl ((rs.drop off).take len)) v := by
    intro E' os1 id ext off len sz rs R' hv' ho hl
    cases hv' with
    | ref hr _ =>
      obtain ⟨h1, h2⟩ := hr.at ho rfl
      obtain ⟨h3, b, ad, cap, a', cap', h4, h5, h6, h7, h8, h9, h10, h11⟩ := h2 hl
      obtain ⟨p, hp, hok⟩ := R'.at ho
      rw [hp] at h4; cases h4
      subst h5
      have hok' : VX E'.w E'.st (.sl rs) (.slice ad ext cap) := hok.1
      obtain ⟨w1, w2, w3, w4, w5, w6⟩ := OK.cap (os := os1) (o := .frz sz rs) hok rfl rfl
      exact hok'.part w4 off len (by omega) a' cap' h6 h7 h9 h10 (fun _ => h11)
  unfold freezeD at h
  split at h
  · cases h; exact same hv hv.xx rfl rfl
  · cases h
    cases hv with
    | full m hx => exact same (.full m hx) hx rfl rfl
  · rename_i id ext off len
    split at h
    · rename_i fz e sz rs ho
      split at h
      · rename_i hl
        cases h
        obtain ⟨p, hp, hok⟩ := R.at ho
        obtain ⟨R', ev⟩ := R.freeze ho hp
        have hlt := (List.getElem?_eq_some_iff.1 ho).1
        exact ⟨_, R', ev, frz _ _ id ext off len sz rs R' (hv.mono ev) (by simp [hlt]) hl⟩
      · cases h
    · rename_i sz rs ho
      split at h
      · rename_i hl
        cases h
        exact ⟨E.st, R, Evo.refl _ _, frz _ _ id ext off len sz rs R hv ho hl⟩
      · cases h
    · cases h
  · cases h

theorem freezeL_ok : ∀ {E : Env} {os : List Ob} {ds : List D} {vs : List Value} {xs : List X} {os' : List Ob}, Rel c E os → (∀ (j : Nat) (d : D) (v : Value), ds[j]? = some d → vs[j]? = some v → V E os d v) → ds.length = vs.length → freezeL os ds = some (xs, os') →
    ∃ st', Rel c ⟨E.w, st', E.ob⟩ os' ∧ Evo E os ⟨E.w, st', E.ob⟩ os' ∧ xs.length = vs.length ∧ ∀ (j : Nat) (x : X) (v : Value), xs[j]? = some x → vs[j]? = some v → VX E.w st' x v
  | E, os, [], vs, xs, os', R, hv, hl, h => by
    cases h
    exact ⟨E.st, R, Evo.refl _ _, hl, fun j x v hx => by simp at hx⟩
  | E, os, d :: ds, vs, xs, os', R, hv, hl, h => by
    cases vs with
    | nil => simp at hl
    | cons v vs =>
    simp only [freezeL, Option.bind_eq_some_iff, Option.map_eq_some_iff] at h
    obtain ⟨⟨x, os1⟩, h1, ⟨ys, os2⟩, h2, h3⟩ := h
    cases h3
    obtain ⟨st1, R1, e1, k1⟩ := freezeD_ok R (hv 0 d v rfl rfl) h1
    obtain ⟨st2, R2, e2, k2, k3⟩ := freezeL_ok (E := ⟨E.w, st1, E.ob⟩) R1 (fun j d' v' hd hv' => (hv (j + 1) d' v' hd hv').mono e1) (by simpa using hl) h2
    refine ⟨st2, R2, e1.trans e2, by simp [k2], fun j y u hy hu => ?_⟩
    cases j with
    | zero => simp at hy hu; subst hy; subst hu; exact k1.mono (fun b o hb => ⟨(e2.st b o hb).1, rfl⟩)
    | succ j => exact k3 j y u (by simpa using hy) (by simpa using hu)

theorem partsD_ok {sz : Nat} : ∀ {E : Env} {os : List Ob} {xs : List Operand} {ys : List IO} {rows : List (List X)} {os' : List Ob}, Rel c E os → Fr n E os φ a → xs.mapM compO = some ys → partsD φ sz os ys = some (true, rows, os') →
    ∃ st', Rel c ⟨E.w, st', E.ob⟩ os' ∧ Evo E os ⟨E.w, st', E.ob⟩ os' ∧ rows.length = xs.length ∧ (∀ r ∈ rows, r.length = sz) ∧ (∀ x ∈ xs, (a.eval x).cells.size = sz ∧ ∀ u ∈ (a.eval x).cells.toList, u.oneCell' = true) ∧
      ∀ (i : Nat) (r : List X) (x : Operand) (j : Nat) (y : X) (v : Value), rows[i]? = some r → xs[i]? = some x → r[j]? = some y → (a.eval x).cells[j]? = some v → VX E.w st' y v
  | E, os, [], ys, rows, os', R, hf, hm, h => by
    simp at hm; subst hm
    cases h
    exact ⟨E.st, R, Evo.refl _ _, rfl, fun r hr => (by cases hr), fun x hx => (by cases hx), fun i r x j y v hr => (by simp at hr)⟩
  | E, os, x :: xs, ys, rows, os', R, hf, hm, h => by
    simp only [List.mapM_cons, Option.bind_eq_bind, Option.bind_eq_some_iff, Option.pure_def] at hm
    obtain ⟨y, hy, ys', hys, hm⟩ := hm
    cases hm
    simp only [partsD, Option.bind_eq_some_iff] at h
    obtain ⟨cs, hcs, ⟨zs, os1⟩, h1, h⟩ := h
    simp only at h
    split at h
    · rename_i hlen
      obtain ⟨⟨b, rs, os2⟩, h2, h3⟩ := Option.map_eq_some_iff.1 h
      simp at h3
      obtain ⟨⟨hc, rfl⟩, rfl, rfl⟩ := h3
      have hv := (V.op hf hy).strip hc
      obtain ⟨q1, q2, q3⟩ := hv.cells hcs
      obtain ⟨st1, R1, e1, k1, k2⟩ := freezeL_ok (vs := (a.eval x).cells.toList) R (fun j d v hd hv => q3 j d v hd (by simpa using hv)) (by simp [q1]) h1
      obtain ⟨st2, R2, e2, k3, k4, k5, k6⟩ := partsD_ok (E := ⟨E.w, st1, E.ob⟩) R1 (hf.mono e1) hys h2
      refine ⟨st2, R2, e1.trans e2, by simp [k3], fun r hr => ?_, fun z hz => ?_, fun i r z j w v hr hz hw hv => ?_⟩
      · rcases List.mem_cons.1 hr with rfl | hr
        · exact hlen
        · exact k4 r hr
      · rcases List.mem_cons.1 hz with rfl | hz
        · exact ⟨by simp at k1; omega, q2⟩
        · exact k5 z hz
      · cases i with
        | zero =>
          simp at hr hz; subst hr; subst hz
          exact (k2 j w v hw (by simpa using hv)).mono (fun b o hb => ⟨(e2.st b o hb).1, rfl⟩)
        | succ i => exact k6 i r z j w v (by simpa using hr) (by simpa using hz) hw hv
    · cases h

theorem fill_all (sz : Nat) : ∀ (l : List Value) (i0 : Nat) (cs : Array Value), (∀ v ∈ l, v.cells.size = sz) → (i0 + l.length) * sz ≤ cs.size →
    ∃ cs', Instr.fill (fun i => some (i * sz, sz)) cs ((l.zipIdx i0).map fun p => (p.2, p.1)) = some cs' ∧ cs'.toList = cs.toList.take (i0 * sz) ++ (l.map fun v => v.cells.toList).flatten ++ cs.toList.drop ((i0 + l.length) * sz)
  | [], i0, cs, _, _ => ⟨cs, rfl, by simp⟩
  | v :: l, i0, cs, h1, h2 => by
    have hv := h1 v List.mem_cons_self
    have hle : i0 * sz + sz ≤ cs.size := by
      have : (i0 + 1) * sz ≤ (i0 + (v :: l).length) * sz := Nat.mul_le_mul_right _ (by simp)
      rw [Nat.add_mul, Nat.one_mul] at this; omega
    have hset := fold_set (i0 * sz) v.cells.toList 0 cs (by simp [hv]; omega)
    have hsz : (((v.cells.toList.zipIdx 0).foldl (fun cs p => cs.setIfInBounds (i0 * sz + p.2) p.1) cs)).size = cs.size := by
      rw [← Array.length_toList, hset]; simp [hv]; omega
    obtain ⟨cs', q1, q2⟩ := fill_all sz l (i0 + 1) ((v.cells.toList.zipIdx 0).foldl (fun cs p => cs.setIfInBounds (i0 * sz + p.2) p.1) cs) (fun u hu => h1 u (List.mem_cons_of_mem _ hu)) (by rw [hsz]; simp only [List.length_cons] at h2; rw [show i0 + 1 + l.length = i0 + (l.length + 1) by omega]; exact h2)
    refine ⟨cs', ?_, ?_⟩
    · rw [List.zipIdx_cons, List.map_cons, Instr.fill]
      simp only
      rw [if_neg (by simp [hv]; omega), ← q1]
      congr 1
      rw [← Array.foldl_toList]
      simp [Array.toList_zipIdx]
    · rw [q2, hset]
      simp only [Nat.add_zero, Array.length_toList, hv, List.map_cons, List.flatten_cons, List.length_cons]
      have e1 : (i0 + 1) * sz = i0 * sz + sz := by rw [Nat.add_mul, Nat.one_mul]
      have e2 : (cs.toList.take (i0 * sz) ++ v.cells.toList).length = i0 * sz + sz := by simp [hv]; omega
      rw [e1, List.take_append_of_le_length (by omega), List.take_of_length_le (by omega), List.drop_append, List.drop_of_length_le (by
        rw [e2, show i0 + 1 + l.length = (i0 + 1) + l.length by omega, Nat.add_mul, e1]; omega), List.nil_append, List.drop_drop, e2]
      simp only [List.append_assoc]
      congr 3
      rw [show i0 + 1 + l.length = i0 + (l.length + 1) by omega]
      have : i0 * sz + sz ≤ (i0 + (l.length + 1)) * sz := by
        have : (i0 + 1) * sz ≤ (i0 + (l.length + 1)) * sz := Nat.mul_le_mul_right _ (by omega)
        omega
      congr 1; omega

theorem run_bsl {t e m : Nat} {i : TypeInfo} {z : Value} (ht : P.underlying t = some (.slice e)) (hi : P.info? e = some i) (hz : i.zero = some z) (l : List Value) (hl : l.length = m) (hle : m * i.size ≤ 16777216) (h1 : ∀ v ∈ l, v.cells.size = i.size) (w : World) :
    ∃ cs, (Instr.buildSlice t m ((l.zipIdx 0).map fun p => (p.2, p.1)).toArray).run P w = .ok (.slice (some ⟨w.heap.size, 0, none⟩) m m) (w.alloc (.cells cs e)) ∧ cs.toList = (l.map fun v => v.cells.toList).flatten ∧ cs.size = m * i.size := by
  have hs : szOf P e = some i.size := by simp [szOf, hi]
  subst hl
  have key : ∀ (zc : Array Value), ∃ cs, Instr.fill (fun j => some (j * i.size, i.size)) ((Array.range (l.length * i.size)).map (zc[· % zc.size]!)) ((l.zipIdx 0).map fun p => (p.2, p.1)) = some cs ∧ cs.toList = (l.map fun v => v.cells.toList).flatten ∧ cs.size = l.length * i.size := by
    intro zc
    obtain ⟨cs, q1, q2⟩ := fill_all i.size l 0 ((Array.range (l.length * i.size)).map (zc[· % zc.size]!)) h1 (by simp)
    rw [Nat.zero_mul, List.take_zero, List.nil_append, Nat.zero_add, List.drop_of_length_le (by simp), List.append_nil] at q2
    refine ⟨cs, q1, q2, ?_⟩
    rw [← Array.length_toList, q2]
    clear q1 q2
    induction l with
    | nil => simp
    | cons v l ih =>
      rw [List.map_cons, List.flatten_cons, List.length_append, List.length_cons, Nat.add_mul, Nat.one_mul, Nat.add_comm]
      have := ih (fun u hu => h1 u (List.mem_cons_of_mem _ hu)) (by simp only [List.length_cons] at hle; have : l.length * i.size ≤ (l.length + 1) * i.size := Nat.mul_le_mul_right _ (by omega); omega)
      rw [this]
      simp [h1 v List.mem_cons_self]
  by_cases h0 : l.length * i.size = 0
  · obtain ⟨cs, q1, q2, q3⟩ := key #[]
    refine ⟨cs, ?_, q2, q3⟩
    simp only [h0] at q1
    simp [Instr.buildSlice, run_underlying ht, run_size hs, h0, newRow]
    simp at q1
    simp [q1]
  · obtain ⟨cs, q1, q2, q3⟩ := key z.cells
    refine ⟨cs, ?_, q2, q3⟩
    have hn : ¬ (16777216 < l.length * i.size) := by omega
    simp [Instr.buildSlice, run_underlying ht, run_size hs, hn, newRow, zeroValue, run_info hi, hz]
    rw [if_neg h0, q1]
    simp

/-- What an operation hands on. -/
inductive Yield (E' : Env) (os' : List Ob) (d : D) : Next → Prop
  | value {v : Value} (h : V E' os' d v) : Yield E' os' d (.value v)
  | skip (h : d = .und) : Yield E' os' d .skip

/-- The operation goes through, and then this is so. -/
def Acts (P : Program) (c : Ctx) (E : Env) (os : List Ob) (o : Oper) (a : Act) (d : D) (os' : List Ob) : Prop :=
  ∃ r E', (execOp a.eval o).run P E.w = .ok r E'.w ∧ Rel c E' os' ∧ Evo E os E' os' ∧ Yield E' os' d r

theorem act_run {o : Oper} {s : Sem Unit} {w w' : World} (h : execOp a.eval o = (do s; pure .skip)) (hr : s.run P w = .ok () w') : (execOp a.eval o).run P w = .ok .skip w' := by
  rw [h]; simp [hr]
theorem val_run' {o : Oper} {s : Sem Value} {v : Value} {w w' : World} (h : execOp a.eval o = (do pure (Next.value (← s)))) (hr : s.run P w = .ok v w') : (execOp a.eval o).run P w = .ok (.value v) w' := by
  rw [h]; simp [hr]

theorem kept_alloc (w : World) (o : Obj) : Kept (fun _ => False) w (w.alloc o) := ⟨rfl, rfl, rfl, by simp, fun k hk _ => Below.heap_alloc w o k hk⟩

theorem push_box (R : Rel c E os) {cs : List D} (vs : Array Value) (t : Nat) (hl : vs.size = cs.length) (h1 : ∀ u ∈ vs.toList, u.oneCell' = true) (hv : ∀ (j : Nat) (d : D) (u : Value), cs[j]? = some d → vs[j]? = some u → V E os d u) :
    ∃ E', E'.w = E.w.alloc (.cells vs t) ∧ Rel c E' (os ++ [.box cs]) ∧ Evo E os E' (os ++ [.box cs]) ∧ V E' (os ++ [.box cs]) (.ptr os.length 0) (.pointer (some ⟨E.w.heap.size, 0, none⟩)) := by
  obtain ⟨R', ev⟩ := R.push (E.w.alloc (.cells vs t)) (.box cs) (E.w.heap.size, undef) (kept_alloc _ _) (fun b hb => by cases hb; exact Nat.le_refl _) (fun ev => by
    refine ⟨vs, t, heap_alloc_new _ _, hl, fun j d v hd hv' => ⟨(hv j d v hd hv').mono ev, h1 v ?_⟩⟩
    rw [← Array.getElem?_toList] at hv'
    exact List.mem_of_getElem? hv')
  refine ⟨_, rfl, R', ev, .ptr (cu := undef) (ds := cs) (by simp) ?_⟩
  show (E.ob ++ [(E.w.heap.size, undef)])[os.length]? = _
  rw [← R.len, List.getElem?_append_right (Nat.le_refl _)]
  simp

/-- A new row. -/
theorem push_row (R : Rel c E os) {w' : World} (hk : Kept (fun _ => False) E.w w') {fz : Bool} {e sz : Nat} {rs : List (List X)} {cu : Value} {xs : List Value} (hr : Row w' fz e sz rs.length cu xs) (hb : ∀ b, cu.ownBlock = some b → E.w.heap.size ≤ b) (hz : ∀ r ∈ rs, r.length = sz)
    (hv : ∀ (i : Nat) (r : List X) (j : Nat) (x : X) (v : Value), rs[i]? = some r → r[j]? = some x → xs[i * sz + j]? = some v → VX E.w E.st x v) :
    ∃ E', E'.w = w' ∧ Rel c E' (os ++ [.rows fz e sz rs]) ∧ Evo E os E' (os ++ [.rows fz e sz rs]) ∧ V E' (os ++ [.rows fz e sz rs]) (.ref os.length rs.length 0 rs.length) cu := by
  obtain ⟨R', ev⟩ := R.push w' (.rows fz e sz rs) (0, cu) hk (fun b hb' => hb b hb') (fun ev => ⟨xs, hr, hz, fun i r j x v h1 h2 h3 => (hv i r j x v h1 h2 h3).mono ev.st⟩)
  have hob : (E.ob ++ [(0, cu)])[os.length]? = some (0, cu) := by
    rw [← R.len, List.getElem?_append_right (Nat.le_refl _)]; simp
  refine ⟨_, rfl, R', ev, .ref ⟨.rows fz e sz rs, sz, rs, by simp, rfl, ?_⟩ ?_⟩
  · refine ⟨Nat.le_refl _, fun _ => ⟨by omega, 0, ?_⟩⟩
    rcases hr.2 with ⟨h3, h4⟩ | ⟨g, cap, cells, fr, h3, h4, h5, h6, h7⟩
    · subst h3
      exact ⟨none, 0, none, 0, by rw [hob, h4], by rw [h4], by omega, Nat.zero_le _, fun _ => ⟨rfl, rfl⟩, fun _ ad h => (by cases h), fun _ => ⟨h4, rfl⟩, fun ad h => (by cases h)⟩
    · subst h3
      exact ⟨_, cap, _, cap, hob, rfl, h5, h6, fun _ => ⟨rfl, rfl⟩, fun _ ad h => (by cases h; simp), fun h => (by cases h), fun ad h => (by cases h; rfl)⟩
  · rcases hr.2 with ⟨h3, h4⟩ | ⟨g, cap, cells, fr, h3, h4, h5, h6, h7⟩ <;> subst h3 <;> rfl

end
end Go.Ab
