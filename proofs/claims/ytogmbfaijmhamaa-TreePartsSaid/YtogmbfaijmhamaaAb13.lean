/- Copy; all operations that make objects or turn them, in one. -/
import Derived.Test.YtogmbfaijmhamaaAb12
namespace Go.Ab
open Go.RowKit Go.Bo

section
variable {P : Program} {E : Env} {os : List Ob} {c : Ctx} {n : Nat} {φ : List (Nat × D)} {a : Act}

theorem src_read (R : Rel c E os) {d : D} {v : Value} (hv : V E os d v) {src : List (List X)} {sz : Nat} (hr : srcOf os sz d = some src) (hz : ∀ r ∈ src, r.length = sz) :
    ∃ news : List Value, news.length = src.length * sz ∧ (∀ k, k ≤ src.length → (Builtin.firstCells sz k v).run P E.w = .ok (news.take (k * sz)).toArray E.w) ∧ (Builtin.lenOf v).run P E.w = .ok src.length E.w ∧
      (∀ u ∈ news, u.oneCell' = true) ∧ ∀ (i : Nat) (r : List X) (j : Nat) (x : X), src[i]? = some r → r[j]? = some x → ∃ u, news[i * sz + j]? = some u ∧ VX E.w E.st x u := by
  have base : rowsOf os d = some src → ∃ news : List Value, news.length = src.length * sz ∧ (∀ k, k ≤ src.length → (Builtin.firstCells sz k v).run P E.w = .ok (news.take (k * sz)).toArray E.w) ∧ (Builtin.lenOf v).run P E.w = .ok src.length E.w ∧
      (∀ u ∈ news, u.oneCell' = true) ∧ ∀ (i : Nat) (r : List X) (j : Nat) (x : X), src[i]? = some r → r[j]? = some x → ∃ u, news[i * sz + j]? = some u ∧ VX E.w E.st x u := by
    intro hr
    obtain ⟨ad, cp, news, rfl, q2, q3, q4, q5, q6, q7, q8⟩ := rows_read R hv hr hz
    refine ⟨news, q4, fun k hks => ?_, by simp [Builtin.lenOf], q7, q8⟩
    cases ad with
    | none =>
      have h0 := q5 rfl
      have : k = 0 := by omega
      subst this
      simp [Builtin.firstCells]
    | some ad =>
      refine run_firstCells_some (P := P) E.w sz k ad src.length cp _ ?_ (fun j u hu => ?_)
      · rw [List.length_take, q4]
        have : k * sz ≤ src.length * sz := Nat.mul_le_mul_right _ hks
        omega
      · have hj := (List.getElem?_eq_some_iff.1 hu).1
        rw [List.length_take] at hj
        rw [List.getElem?_take, if_pos (by omega)] at hu
        exact q6 ad rfl j u hu
  unfold srcOf at hr
  split at hr
  · rename_i s
    split at hr
    · rename_i h1
      subst h1
      cases hr
      cases hv with
      | x hx =>
        cases hx
        refine ⟨s.map fun b => .int .u8 b.toNat, by simp, fun k hk => ?_, ?_, ?_, ?_⟩
        · have : (ByteArray.extract (bstr s) 0 k).data.map (fun b => Value.int .u8 b.toNat) = ((s.map fun b => Value.int .u8 b.toNat).take (k * 1)).toArray := by
            apply Array.toList_inj.1
            simp [bstr, ByteArray.data_extract, List.map_take]
          show (pure _ : Sem _).run P E.w = _
          rw [this]; rfl
        · simp [Builtin.lenOf, bstr_size]
        · intro u hu
          obtain ⟨b, _, rfl⟩ := List.mem_map.1 hu
          rfl
        · intro i r j x h1 h2
          rw [List.getElem?_map] at h1
          obtain ⟨b, hb, rfl⟩ := Option.map_eq_some_iff.1 h1
          cases j with
          | zero =>
            simp [byteRow] at h2
            subst h2
            exact ⟨.int .u8 b.toNat, by simp [hb], .int _ _⟩
          | succ j => simp [byteRow] at h2
    · cases hr
  · exact base hr

theorem cpy_ok (R : Rel c E os) {t u ty e sz : Nat} (ht : P.underlying t = some (.slice e)) (hs : szOf P e = some sz) {id ext off len : Nat} {fz : Bool} {el : Nat} {rs : List (List X)} {vx : Value} (hx : V E os (.ref id ext off len) vx) (ho : os[id]? = some (.rows fz el sz rs)) (hext : rs.length = ext)
    {y : D} {vy : Value} (hy : V E os y vy) {src : List (List X)} (hr : srcOf os sz y = some src) (hrl : ∀ r ∈ src, r.length = sz) :
    ∃ E', (Builtin.copy_ #[t, u] ty #[vx, vy]).run P E.w = .ok (.int .i64 (min src.length len : Nat)) E'.w ∧ Rel c E' (os.set id (.rows fz el sz (rs.take off ++ src.take (min src.length len) ++ rs.drop (off + min src.length len)))) ∧ Evo E os E' (os.set id (.rows fz el sz (rs.take off ++ src.take (min src.length len) ++ rs.drop (off + min src.length len)))) := by
  obtain ⟨news, q4, qf, ql, q7, q8⟩ := src_read (P := P) R hy hr hrl
  obtain ⟨p, hp, hok⟩ := R.at ho
  have hok' := hok
  obtain ⟨xs, k1, k2, k3⟩ := hok'
  have hlt := (List.getElem?_eq_some_iff.1 ho).1
  obtain ⟨h1, h2⟩ := hx.ref_inv.at ho rfl
  obtain ⟨h3, b, a0, cap, a', cap', h4, h5, h6, h7, h8, h9, h10, h11⟩ := h2 hext
  rw [hp] at h4
  have h4 := Option.some.inj h4
  subst h5
  generalize hk : min src.length len = k at *
  have hkl : k ≤ len := by omega
  have hks : k ≤ src.length := by omega
  have hfirst : (Builtin.firstCells sz k vy).run P E.w = .ok (news.take (k * sz)).toArray E.w := qf k hks
  have hmin : Nat.min src.length len = k := hk
  by_cases hk0 : k = 0
  · subst hk0
    have hset : os.set id (.rows fz el sz (rs.take off ++ src.take 0 ++ rs.drop (off + 0))) = os := by
      rw [List.take_zero, List.append_nil, Nat.add_zero, List.take_append_drop]
      apply List.ext_getElem?
      intro j
      rw [List.getElem?_set]
      by_cases hj : id = j
      · subst hj; rw [if_pos rfl, ho]; simp [hlt]
      · simp [hj]
    rw [hset]
    refine ⟨E, ?_, R, Evo.refl _ _⟩
    rw [Nat.zero_mul, List.take_zero] at hfirst
    cases a' <;> simp [Builtin.copy_, run_underlying ht, ql, hmin, run_size hs, hfirst, storeCells, goInt]
  · have hpos : 0 < len := by omega
    obtain ⟨w1, w2, w3, w4, w5, w8⟩ := OK.cap (os := os) (o := .rows fz el sz rs) hok (sz := sz) (rs := rs) rfl (by rw [h4])
    cases a0 with
    | none => have := (w5 rfl).1; omega
    | some ad0 =>
    have ha' := h9 hpos ad0 rfl
    have h0 := w8 ad0 rfl
    have h00 : ad0.off = 0 := by rw [h0]
    subst ha'
    rw [h00, Nat.zero_add] at *
    have hvs : (news.take (k * sz)).length = k * sz := by
      rw [List.length_take, q4]
      have : k * sz ≤ src.length * sz := Nat.mul_le_mul_right _ hks
      omega
    have htot : (off + k) * sz ≤ rs.length * sz := Nat.mul_le_mul_right _ (by omega)
    rw [Nat.add_mul] at htot
    have hlen2 : (src.take k).length = k := by simp; omega
    have hget : ∀ i, (rs.take off ++ src.take k ++ rs.drop (off + k))[i]? = if i < off then rs[i]? else if i < off + k then src[i - off]? else rs[i]? := fun i => by
      have := splice_get rs (src.take k) off i (by omega)
      rw [hlen2] at this
      rw [this]
      by_cases h : i < off
      · simp [h]
      · by_cases h' : i < off + k
        · simp only [h, h', if_true, if_false]
          rw [List.getElem?_take, if_pos (by omega)]
        · simp [h, h']
    obtain ⟨E', e1, e2, e3⟩ := row_write (P := P) R ho hp (g := ad0.block) (cap := cap) (by rw [h4]; simp only; rw [hext, ← h0]) (off * sz) (news.take (k * sz)) (fun u hu => q7 u (List.mem_of_mem_take hu)) (by omega) (rs' := rs.take off ++ src.take k ++ rs.drop (off + k)) (by simp; omega) (fun r hr => by
        rcases List.mem_append.1 hr with h | h
        · rcases List.mem_append.1 h with h | h
          · exact k2 r (List.mem_of_mem_take h)
          · exact hrl r (List.mem_of_mem_take h)
        · exact k2 r (List.mem_of_mem_drop h))
      (fun i r j x hr' hx' hj => by
        rw [hget] at hr'
        rw [hvs] at hj
        have hjs : j < sz := by
          have : r.length = sz := by
            split at hr'
            · exact k2 r (List.mem_of_getElem? hr')
            · split at hr'
              · exact hrl r (List.mem_of_getElem? hr')
              · exact k2 r (List.mem_of_getElem? hr')
          rw [← this]; exact (List.getElem?_eq_some_iff.1 hx').1
        split at hr'
        · exact ⟨r, hr', hx'⟩
        · split at hr'
          · exfalso
            have g1 : off * sz ≤ i * sz := Nat.mul_le_mul_right _ (by omega)
            have g2 : (i + 1) * sz ≤ (off + k) * sz := Nat.mul_le_mul_right _ (by omega)
            rw [Nat.add_mul, Nat.add_mul] at g2
            omega
          · exact ⟨r, hr', hx'⟩)
      (fun i r j x u hr' hx' hj1 hj2 hu => by
        rw [hget] at hr'
        rw [hvs] at hj2
        have hjs : j < sz := by
          have : r.length = sz := by
            split at hr'
            · exact k2 r (List.mem_of_getElem? hr')
            · split at hr'
              · exact hrl r (List.mem_of_getElem? hr')
              · exact k2 r (List.mem_of_getElem? hr')
          rw [← this]; exact (List.getElem?_eq_some_iff.1 hx').1
        have hi1 : ¬ i < off := fun h => by
          have : (i + 1) * sz ≤ off * sz := Nat.mul_le_mul_right _ h
          rw [Nat.add_mul] at this; omega
        have hi2 : i < off + k := by
          rcases Nat.lt_or_ge i (off + k) with h | h
          · exact h
          · have : (off + k) * sz ≤ i * sz := Nat.mul_le_mul_right _ h
            rw [Nat.add_mul] at this; omega
        rw [if_neg hi1, if_pos hi2] at hr'
        obtain ⟨u', g1, g2⟩ := q8 _ r j x hr' hx'
        rw [List.getElem?_take, if_pos (by omega)] at hu
        have e : i * sz + j - off * sz = (i - off) * sz + j := by
          rw [Nat.sub_mul]
          have : off * sz ≤ i * sz := Nat.mul_le_mul_right _ (by omega)
          omega
        rw [e, g1] at hu
        cases hu
        exact g2)
    refine ⟨E', ?_, e2, e3⟩
    simp [Builtin.copy_, run_underlying ht, ql, hmin, run_size hs, hfirst, e1, goInt]

theorem acts_value {o : Oper} {d : D} {os' : List Ob} {s : Sem Value} (h : execOp a.eval o = (do pure (Next.value (← s)))) (hr : ∃ v E', s.run P E.w = .ok v E'.w ∧ Rel c E' os' ∧ Evo E os E' os' ∧ V E' os' d v) : Acts P c E os o a d os' := by
  obtain ⟨v, E', h1, h2, h3, h4⟩ := hr
  exact ⟨_, E', val_run' h h1, h2, h3, .value h4⟩

theorem compElems_ok : ∀ {i : Nat} {parts : List (Nat × Operand)} {ys : List IO}, compElems i parts = some ys → (parts.map (·.2)).mapM compO = some ys ∧ parts.map (·.1) = List.range' i parts.length
  | i, [], ys, h => by cases h; exact ⟨rfl, rfl⟩
  | i, (j, x) :: l, ys, h => by
    simp only [compElems] at h
    split at h
    · rename_i hj
      simp only [Option.bind_eq_bind, Option.bind_eq_some_iff] at h
      obtain ⟨y, hy, r, hr, h⟩ := h
      cases h
      obtain ⟨h1, h2⟩ := compElems_ok hr
      subst hj
      refine ⟨?_, ?_⟩
      · simp [List.mapM_cons, hy, h1]
      · simp [List.range'_succ, h2]
    · cases h

theorem parts_zip (f : Operand → Value) : ∀ (l : List (Nat × Operand)) (i : Nat), l.map (·.1) = List.range' i l.length → l.map (fun p => (p.1, f p.2)) = (((l.map (·.2)).map f).zipIdx i).map fun p => (p.2, p.1)
  | [], i, h => rfl
  | (j, x) :: l, i, h => by
    simp [List.range'_succ] at h
    obtain ⟨rfl, h⟩ := h
    simp only [List.map_cons, List.zipIdx_cons]
    rw [parts_zip f l (j + 1) h]

def IE.isAct : IE → Bool
  | .box _ | .sto _ _ _ | .bsl _ _ _ _ | .mks _ _ _ _ _ _ | .app _ _ _ _ _ | .cpy _ _ _ | .s2b _ _ => true
  | _ => false
def NA (x : Option IE) : Prop := ∀ e, x = some e → e.isAct = false
theorem NA.none : NA none := fun e h => by cases h
theorem NA.some {e : IE} (h : e.isAct = false) : NA (some e) := fun e' h' => by cases h'; exact h
theorem NA.bind {α : Type} {x : Option α} {f : α → Option IE} (h : ∀ y, NA (f y)) : NA (x.bind f) := fun e he => by
  obtain ⟨y, _, h2⟩ := Option.bind_eq_some_iff.1 he; exact h y e h2
theorem NA.bind' {α : Type} {x : Option α} {f : α → Option IE} (h : ∀ y, NA (f y)) : NA (x >>= f) := NA.bind h
theorem NA.map {α : Type} {x : Option α} {f : α → IE} (h : ∀ y, (f y).isAct = false) : NA (x.map f) := fun e he => by
  obtain ⟨y, _, rfl⟩ := Option.map_eq_some_iff.1 he; exact h y
theorem isAct_of {e : IE} {r : Bool × D × List Ob} (h : aact φ os e = some r) : e.isAct = true := by
  cases e <;> first | rfl | (simp [aact] at h)

set_option maxHeartbeats 1000000 in
theorem aact_run (R : Rel c E os) (hf : Fr n E os φ a) {o : Oper} {e : IE} (hc : compOp P o.op = some e) {d : D} {os' : List Ob} (h : aact φ os e = some (true, d, os')) : Acts P c E os o a d os' := by
  obtain ⟨dst, op, ty, pos, after, guard⟩ := o
  simp only at hc
  cases op <;> simp only [compOp] at hc <;> (try cases hc)
  case alloc t =>
    simp only [Option.bind_eq_some_iff, Option.map_eq_some_iff] at hc
    obtain ⟨i, hi, z, hz, hc⟩ := hc; cases hc
    simp only [aact, Option.map_eq_some_iff] at h
    obtain ⟨cs, hcs, h⟩ := h
    simp at h
    obtain ⟨_, rfl, rfl⟩ := h
    have hcs : (constD z).cells? = some cs := by
      have : (constD z).val = constD z := by unfold constD constD1; split <;> (try split) <;> (try split) <;> rfl
      rw [← this]; exact hcs
    obtain ⟨q1, q2, q3⟩ := (V.const E os z).cells hcs
    obtain ⟨E', k1, k2, k3, k4⟩ := push_box R z.cells t q1 q2 q3
    refine acts_value (s := Instr.alloc t true (.tuple #[])) rfl ⟨_, E', ?_, k2, k3, k4⟩
    rw [k1]
    simp [Instr.alloc, zeroValue, run_info hi, hz, newVar, newRow]
  case box t x =>
    obtain ⟨y, hy, hc⟩ := Option.bind_eq_some_iff.1 hc; cases hc
    simp only [aact, Option.map_eq_some_iff] at h
    obtain ⟨cs, hcs, h⟩ := h
    simp at h
    obtain ⟨h1, rfl, rfl⟩ := h
    obtain ⟨q1, q2, q3⟩ := ((V.op hf hy).strip h1).cells hcs
    obtain ⟨E', k1, k2, k3, k4⟩ := push_box R (a.eval x).cells t q1 q2 q3
    refine acts_value (s := Instr.box t (a.eval x)) rfl ⟨_, E', ?_, k2, k3, k4⟩
    rw [k1]
    simp [Instr.box, newVar, newRow]
  case buildSlice t m parts =>
    split at hc
    · rename_i el ht
      obtain ⟨i, hi, hc⟩ := Option.bind_eq_some_iff.1 hc
      obtain ⟨z, hz, hc⟩ := Option.bind_eq_some_iff.1 hc
      split at hc
      · rename_i hle
        obtain ⟨ps, hps, hc⟩ := Option.map_eq_some_iff.1 hc; cases hc
        obtain ⟨g1, g2⟩ := compElems_ok hps
        simp only [aact] at h
        split at h
        · rename_i hm
          obtain ⟨⟨b, rs, os1⟩, h1, h⟩ := Option.map_eq_some_iff.1 h
          simp at h
          obtain ⟨rfl, rfl, rfl⟩ := h
          have hpl : (parts.toList.map (·.2)).length = m := by simp [hle.1]
          have hres := bsl_ok (t := t) (m := m) R hf ht hi hz g1 hpl hle.2.1 hle.2.2 h1
          refine acts_value (s := Instr.buildSlice t m (parts.map fun (i, x) => (i, a.eval x))) rfl ?_
          have e : (parts.map fun (p : Nat × Operand) => (p.1, a.eval p.2)) = ((((parts.toList.map (·.2)).map a.eval).zipIdx 0).map fun p => (p.2, p.1)).toArray := by
            apply Array.toList_inj.1
            rw [Array.toList_map]
            exact parts_zip a.eval parts.toList 0 g2
          have e' : (parts.map fun (x : Nat × Operand) => match x with | (i, x) => (i, a.eval x)) = (parts.map fun (p : Nat × Operand) => (p.1, a.eval p.2)) := rfl
          rw [e', e]
          exact hres
        · cases h
      · cases hc
    · cases hc
  case store t x y =>
    simp only [Option.bind_eq_bind, Option.bind_eq_some_iff] at hc
    obtain ⟨m, hm, x', hx, y', hy, hc⟩ := hc; cases hc
    simp only [aact, Option.bind_eq_some_iff] at h
    obtain ⟨cs, hcs, h⟩ := h
    split at h
    · rename_i hlen
      split at h
      · rename_i id o hval
        split at h
        · rename_i ds hds
          split at h
          · rename_i hle
            simp at h
            obtain ⟨⟨c1, c2⟩, rfl, rfl⟩ := h
            obtain ⟨q1, q2, q3⟩ := ((V.op hf hy).strip c2).cells hcs
            have hp := (V.op hf hx).strip c1
            rw [hval] at hp
            obtain ⟨E', k1, k2, k3⟩ := sto_box (P := P) R hm hds hp q1 q2 q3 hlen hle
            rw [List.append_assoc] at k2 k3
            exact ⟨_, E', act_run (s := Instr.storeAt t (a.eval x) (a.eval y)) rfl k1, k2, k3, .skip rfl⟩
          · cases h
        · cases h
      · rename_i id ext i o hval
        obtain ⟨⟨zs, os1⟩, h1, h⟩ := Option.bind_eq_some_iff.1 h
        simp only at h
        split at h
        · rename_i fz el sz rs hrows
          obtain ⟨r, hr, h⟩ := Option.map_eq_some_iff.1 h
          simp at h
          obtain ⟨⟨⟨c1, c2⟩, c3, c4⟩, rfl, rfl⟩ := h
          obtain ⟨q1, q2, q3⟩ := ((V.op hf hy).strip c2).cells hcs
          have hp := (V.op hf hx).strip c1
          rw [hval] at hp
          obtain ⟨st', R1, e1, k1, k2⟩ := freezeL_ok (vs := (a.eval y).cells.toList) R (fun j d v hd hv => q3 j d v hd (by simpa using hv)) (by simp [q1]) h1
          have q1' : (a.eval y).cells.size = m := by omega
          obtain ⟨E', w1, w2, w3⟩ := sto_eptr (P := P) (E := ⟨E.w, st', E.ob⟩) R1 hm hrows (hp.mono e1) hr c3 q1' q2 (by simp at k1; omega) (fun j x u hx hu => k2 j x u hx (by simpa using hu)) c4
          rw [List.append_assoc] at w2 w3
          exact ⟨_, E', act_run (s := Instr.storeAt t (a.eval x) (a.eval y)) rfl w1, w2, e1.trans w3, .skip rfl⟩
        · cases h
      · cases h
    · cases h
  case makeSlice t l cp =>
    split at hc
    · rename_i el ht
      simp only [Option.bind_eq_bind, Option.bind_eq_some_iff] at hc
      obtain ⟨i, hi, z, hz, zx, hzx, l', hl', c', hc', hc⟩ := hc; cases hc
      simp only [aact] at h
      split at h
      · rename_i li ci h1 h2
        split at h
        · rename_i hh
          simp at h
          obtain ⟨⟨⟨c1, c2⟩, c3, c4, c5⟩, rfl, rfl⟩ := h
          obtain ⟨kl, hkl⟩ := intOf_val ((V.op hf hl').strip c1) h1
          obtain ⟨kc, hkc⟩ := intOf_val ((V.op hf hc').strip c2) h2
          obtain ⟨li', rfl⟩ := Int.eq_ofNat_of_zero_le c3
          obtain ⟨ci', rfl⟩ := Int.eq_ofNat_of_zero_le (show (0 : Int) ≤ ci by omega)
          refine acts_value (s := Instr.makeSlice t (a.eval l) (a.eval cp)) rfl ?_
          rw [hkl, hkc]
          exact mks_ok R ht hi hz hzx hh.1 hh.2 kl kc li' ci' (by omega) (by omega)
        · cases h
      · cases h
    · cases hc
  case convert s t x =>
    split at hc
    · obtain ⟨y, hy, hc⟩ := Option.bind_eq_some_iff.1 hc; cases hc; simp [aact] at h
    · split at hc
      · obtain ⟨y, hy, hc⟩ := Option.bind_eq_some_iff.1 hc; cases hc; simp [aact] at h
      · cases hc
    · rename_i el hs ht
      split at hc
      · rename_i hel
        obtain ⟨y, hy, hc⟩ := Option.bind_eq_some_iff.1 hc; cases hc
        simp only [aact] at h
        split at h
        · rename_i b h1
          simp at h
          obtain ⟨⟨c1, c2⟩, rfl, rfl⟩ := h
          have := (V.op hf hy).strip c1
          rw [h1] at this
          refine acts_value (s := convert s t (a.eval x)) rfl ?_
          rw [V.str this]
          exact s2b_ok R hs ht hel b c2
        · cases h
      · cases hc
    · cases hc
  case call cl =>
    obtain ⟨callee, args, ats⟩ := cl
    unfold compCall at hc
    simp only at hc
    have bi : ∀ (b : Builtin) (s : Sem Value), (∀ consts, builtin b ats ty consts (args.map a.eval) = (do pure (Next.value (← s)))) → callee = .builtin b → (∃ v E', s.run P E.w = .ok v E'.w ∧ Rel c E' os' ∧ Evo E os E' os' ∧ V E' os' d v) →
        Acts P c E os { dst, op := .call ⟨callee, args, ats⟩, type := ty, pos, after, guard } a d os' := by
      intro b s hb he hr
      subst he
      obtain ⟨v, E', h1, h2, h3, h4⟩ := hr
      refine ⟨.value v, E', ?_, h2, h3, .value h4⟩
      unfold execOp
      simp only [resolve, Sem.run_bind, Sem.run_pure, Result.andThen_ok, invoke, hb, h1]
    split at hc
    · simp only [Option.bind_eq_bind, Option.bind_eq_some_iff] at hc
      obtain ⟨f', hf', ys, hys, hc⟩ := hc
      cases hc; simp [aact] at h
    · split at hc
      · split at hc
        · obtain ⟨y, hy, hc⟩ := Option.bind_eq_some_iff.1 hc; cases hc; simp [aact] at h
        · obtain ⟨y, hy, hc⟩ := Option.bind_eq_some_iff.1 hc; cases hc; simp [aact] at h
        · cases hc
      · cases hc
    · split at hc
      · rename_i x y t u h1 h2
        have h1 : args = #[x, y] := by apply Array.toList_inj.1; simpa using h1
        have h2 : ats = #[t, u] := by apply Array.toList_inj.1; simpa using h2
        subst h1; subst h2
        split at hc
        · rename_i el el2 ht hu
          obtain ⟨i, hi, hc2⟩ := Option.bind_eq_some_iff.1 hc
          obtain ⟨z, hz, hc3⟩ := Option.bind_eq_some_iff.1 hc2
          clear hc hc2
          split at hc3
          · rename_i hh
            obtain ⟨rfl, hzs⟩ := hh
            obtain ⟨x', y', hx, hy, hc4⟩ := bind2 hc3
            subst hc4
            simp only [aact] at h
            split at h
            · rename_i hsz
              obtain ⟨src, hsrc, h⟩ := Option.bind_eq_some_iff.1 h
              refine bi .append (Builtin.append_ #[t, t] ty #[a.eval x, a.eval y]) (fun _ => by simp [builtin]) rfl ?_
              split at h
              · rename_i hv
                simp at h
                obtain ⟨⟨⟨c1, c2⟩, c3, c4⟩, rfl, rfl⟩ := h
                have v1 := (V.op hf hx).strip c1
                rw [hv] at v1
                rw [V.nils v1]
                exact app_nil_ok R ht hi hz hzs hsz.1 hsz.2 ((V.op hf hy).strip c2) hsrc c4 c3
              · rename_i rs0 hv
                split at h
                · rename_i h0
                  simp at h
                  obtain ⟨⟨c1, c2⟩, rfl, rfl⟩ := h
                  have v1 := (V.op hf hx).strip c1
                  rw [hv] at v1
                  have hs : src = [] := List.eq_nil_of_length_eq_zero h0
                  subst hs
                  obtain ⟨ad, cp, news, q1, -⟩ := rows_read R ((V.op hf hy).strip c2) hsrc (sz := 0) (fun r hr => by cases hr)
                  rw [q1]
                  generalize a.eval x = vx at *
                  cases v1 with
                  | full m hvx => exact ⟨_, E, run_append_none E.w t ty el i ht hi _ _ _ (Nat.le_refl _) ad cp, R, Evo.refl _ _, .full m hvx⟩
                · rename_i h0
                  simp at h
                  obtain ⟨⟨⟨c1, c2⟩, c3, c4, c5⟩, rfl, rfl⟩ := h
                  have v1 := (V.op hf hx).strip c1
                  rw [hv] at v1
                  exact app_full_ok R ht hi hz hzs hsz.1 hsz.2 v1 c4 ((V.op hf hy).strip c2) hsrc c5 h0 c3
              · rename_i id ext off len hv
                split at h
                · rename_i e' sz' rs hrows
                  split at h
                  · rename_i hh2
                    obtain ⟨rfl, rfl, rfl⟩ := hh2
                    simp at h
                    obtain ⟨⟨⟨c1, c2⟩, rfl, rfl, c4, c5⟩, rfl, rfl⟩ := h
                    have v1 := (V.op hf hx).strip c1
                    rw [hv] at v1
                    exact app_ref_ok R ht hi hz hzs hsz.1 hsz.2 v1 hrows ((V.op hf hy).strip c2) hsrc c5 c4
                  · cases h
                · cases h
              · cases h
            · cases h
          · cases hc3
        · cases hc
      · cases hc
    · split at hc
      · rename_i x y t u h1 h2
        have h1 : args = #[x, y] := by apply Array.toList_inj.1; simpa using h1
        have h2 : ats = #[t, u] := by apply Array.toList_inj.1; simpa using h2
        subst h1; subst h2
        split at hc
        · rename_i el ht
          simp only [Option.bind_eq_bind, Option.bind_eq_some_iff] at hc
          obtain ⟨z, hz, x', hx, y', hy, hc⟩ := hc
          cases hc
          simp only [aact, Option.bind_eq_some_iff] at h
          obtain ⟨src, hsrc, h⟩ := h
          split at h
          · rename_i id ext off len hv
            split at h
            · rename_i fz e' sz' rs hrows
              split at h
              · rename_i hh2
                subst hh2
                simp at h
                obtain ⟨⟨⟨c1, c2⟩, c3, c4⟩, rfl, rfl⟩ := h
                have v1 := (V.op hf hx).strip c1
                rw [hv] at v1
                obtain ⟨E', k1, k2, k3⟩ := cpy_ok (P := P) (u := u) (ty := ty) R ht hz v1 hrows c3 ((V.op hf hy).strip c2) hsrc c4
                rw [List.append_assoc] at k2 k3
                exact bi .copy (Builtin.copy_ #[t, u] ty #[a.eval x, a.eval y]) (fun _ => by simp [builtin]) rfl ⟨_, E', k1, k2, k3, V.mkint _ _ _ _⟩
              · cases h
            · cases h
          · cases h
        · cases hc
      · cases hc
    all_goals first
      | (cases hc; done)
      | (split at hc
         · obtain ⟨x', y', hx, hy, hc⟩ := bind2 hc
           subst hc; simp [aact] at h
         · cases hc)
  case makeFunc fn first caps =>
    cases fn <;> simp only at hc <;> (try cases hc)
    split at hc
    · obtain ⟨ys, hys, hc⟩ := Option.bind_eq_some_iff.1 hc; cases hc; simp [aact] at h
    · cases hc
  all_goals
    exfalso
    have ha := isAct_of h
    have hna : NA (some e) := by
      rw [← hc]
      repeat first | exact NA.none | exact NA.some rfl | (refine NA.bind (fun _ => ?_)) | (refine NA.bind' (fun _ => ?_)) | (refine NA.map (fun _ => rfl)) | split
    rw [hna e rfl] at ha
    cases ha

end
end Go.Ab
