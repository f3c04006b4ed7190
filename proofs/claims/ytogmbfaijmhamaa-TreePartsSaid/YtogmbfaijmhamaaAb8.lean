/- Quiet operations yield what the evaluator says: all but calls. -/
import Derived.Test.YtogmbfaijmhamaaAb7
namespace Go.Ab
open Go.RowKit Go.Bo

def IE.isCall : IE → Bool
  | .call _ _ => true
  | _ => false

section
variable {P : Program} {E : Env} {os : List Ob} {c : Ctx} {n : Nat} {φ : List (Nat × D)} {a : Act}

theorem intOf_val {d : D} {i : Int} {v : Value} (hv : V E os d v) (h : intOf? d = some i) : ∃ k, v = .int k i := by
  unfold intOf? at h
  split at h
  · rename_i k m; cases h; exact ⟨k, V.int hv⟩
  · cases h

theorem bind2 {α β γ : Type} {x : Option α} {y : Option β} {f : α → β → γ} {r : γ} (h : (x.bind fun a => y.bind fun b => some (f a b)) = some r) : ∃ a b, x = some a ∧ y = some b ∧ f a b = r := by
  cases x <;> cases y <;> simp at h; exact ⟨_, _, rfl, rfl, h⟩

theorem compOO_none {x : Option Operand} (h : compOO x = some none) : x = none := by
  cases x with
  | none => rfl
  | some y => simp [compOO] at h
theorem compOO_some {x : Option Operand} {y : IO} (h : compOO x = some (some y)) : ∃ z, x = some z ∧ compO z = some y := by
  cases x with
  | none => simp [compOO] at h
  | some z => refine ⟨z, rfl, ?_⟩; simpa [compOO] using h

/-- The bounds of a slice expression. -/
theorem bnd (hf : Fr n E os φ a) {lo hi : Option Operand} {lo' hi' : Option IO} (hl : compOO lo = some lo') (hh : compOO hi = some hi') (len l h : Nat)
    (h1 : match lo' with | none => l = 0 | some y => ∃ i, intOf? (opv φ y).val = some i ∧ (opv φ y).cond = true ∧ i = l)
    (h2 : match hi' with | none => h = len | some y => ∃ i, intOf? (opv φ y).val = some i ∧ (opv φ y).cond = true ∧ i = h) (h3 : l ≤ h) (h4 : h ≤ len) : Bnd (lo.map a.eval) (hi.map a.eval) len l h := by
  refine ⟨?_, ?_, h3, h4⟩
  · cases lo' with
    | none => rw [compOO_none hl]; exact .inl ⟨rfl, h1⟩
    | some y =>
      obtain ⟨z, rfl, hz⟩ := compOO_some hl
      obtain ⟨i, h5, h6, rfl⟩ := h1
      obtain ⟨k, hk⟩ := intOf_val ((V.op hf hz).strip h6) h5
      exact .inr ⟨k, by simp [hk]⟩
  · cases hi' with
    | none => rw [compOO_none hh]; exact .inl ⟨rfl, h2⟩
    | some y =>
      obtain ⟨z, rfl, hz⟩ := compOO_some hh
      obtain ⟨i, h5, h6, rfl⟩ := h2
      obtain ⟨k, hk⟩ := intOf_val ((V.op hf hz).strip h6) h5
      exact .inr ⟨k, by simp [hk]⟩

theorem slcStr_run (hf : Fr n E os φ a) {t : Nat} {x : Operand} {lo hi mx : Option Operand} {x' : IO} {lo' hi' mx' : Option IO} (ht' : P.underlying t = some .string)
    (hx : compO x = some x') (hl : compOO lo = some lo') (hh : compOO hi = some hi') (hm : compOO mx = some mx') {d : D} (h : slcStr φ x' lo' hi' mx' = some (true, d)) :
    ∃ v, (Instr.sliceAt t (a.eval x) (lo.map a.eval) (hi.map a.eval) (mx.map a.eval)).run P E.w = .ok v E.w ∧ V E os d v := by
  have hxv := V.op hf hx
  unfold slcStr at h
  split at h
  · rename_i s hs
    have fin : ∀ (l m : Nat), (opv φ x').cond = true → mx' = none → Bnd (lo.map a.eval) (hi.map a.eval) s.length l m → ∃ v, (Instr.sliceAt t (a.eval x) (lo.map a.eval) (hi.map a.eval) (mx.map a.eval)).run P E.w = .ok v E.w ∧ V E os (.x (.str ((s.take m).drop l))) v := by
      intro l m hc h0 hb
      subst h0
      rw [compOO_none hm]
      have := hxv.strip hc
      rw [hs] at this
      rw [V.str this]
      exact ⟨_, run_slc_str ht' s hb _, V.mkstr _ _ _⟩
    split at h
    · rename_i e1 e2 
      simp at h; obtain ⟨h1, rfl⟩ := h
      have e1 : lo' = none := by simpa using e1
      have e2 : hi' = none := by simpa using e2
      subst e1; subst e2
      have := fin 0 s.length h1 rfl (bnd hf hl hh _ _ _ rfl rfl (Nat.zero_le _) (Nat.le_refl _))
      simpa using this
    · rename_i l0 e1 e2
      obtain ⟨i, hi1, h⟩ := Option.map_eq_some_iff.1 h
      simp at h; obtain ⟨⟨h1, h2, h3, h4⟩, rfl⟩ := h
      obtain ⟨y, rfl, rfl⟩ := Option.map_eq_some_iff.1 e1
      have e2 : hi' = none := by simpa using e2
      subst e2
      obtain ⟨j, rfl⟩ := Int.eq_ofNat_of_zero_le h3
      have := fin j s.length h1 rfl (bnd hf hl hh _ _ _ ⟨_, hi1, h2, rfl⟩ rfl (by omega) (Nat.le_refl _))
      simpa using this
    · rename_i h0 e1 e2
      obtain ⟨i, hi1, h⟩ := Option.map_eq_some_iff.1 h
      simp at h; obtain ⟨⟨h1, h2, h3, h4⟩, rfl⟩ := h
      obtain ⟨y, rfl, rfl⟩ := Option.map_eq_some_iff.1 e2
      have e1 : lo' = none := by simpa using e1
      subst e1
      obtain ⟨j, rfl⟩ := Int.eq_ofNat_of_zero_le h3
      have := fin 0 j h1 rfl (bnd hf hl hh _ _ _ rfl ⟨_, hi1, h2, rfl⟩ (by omega) (by omega))
      simpa using this
    · rename_i l0 h0 e1 e2
      obtain ⟨i, hi1, h⟩ := Option.bind_eq_some_iff.1 h
      obtain ⟨i2, hi2, h⟩ := Option.map_eq_some_iff.1 h
      simp at h; obtain ⟨⟨h1, ⟨h2, h3⟩, h4, h5, h6⟩, rfl⟩ := h
      obtain ⟨y, rfl, rfl⟩ := Option.map_eq_some_iff.1 e1
      obtain ⟨y2, rfl, rfl⟩ := Option.map_eq_some_iff.1 e2
      obtain ⟨j, rfl⟩ := Int.eq_ofNat_of_zero_le h4
      obtain ⟨j2, rfl⟩ := Int.eq_ofNat_of_zero_le (show (0 : Int) ≤ i2 by omega)
      have := fin j j2 h1 rfl (bnd hf hl hh _ _ _ ⟨_, hi1, h2, rfl⟩ ⟨_, hi2, h3, rfl⟩ (by omega) (by omega))
      simpa using this
    · cases h
  · cases h
theorem zeroO_ok (hf : Fr n E os φ a) {lo : Option Operand} {lo' : Option IO} (hl : compOO lo = some lo') (h : zeroO (lo'.map fun l => opv φ l) = some true) : lo.map a.eval = none ∨ ∃ k, lo.map a.eval = some (.int k 0) := by
  cases lo' with
  | none => rw [compOO_none hl]; exact .inl rfl
  | some y =>
    obtain ⟨z, rfl, hz⟩ := compOO_some hl
    simp only [zeroO, Option.map_some, Option.map_eq_some_iff] at h
    obtain ⟨i, h1, h2⟩ := h
    simp at h2
    obtain ⟨h2, rfl⟩ := h2
    obtain ⟨k, hk⟩ := intOf_val ((V.op hf hz).strip h2) h1
    exact .inr ⟨k, by simp [hk]⟩
theorem run_slc_nil {t e sz : Nat} (ht : P.underlying t = some (.slice e)) (hs : szOf P e = some sz) {lo hi mx : Option Value} (h1 : lo = none ∨ ∃ k, lo = some (.int k 0)) (h2 : hi = none ∨ ∃ k, hi = some (.int k 0)) (h3 : mx = none ∨ ∃ k, mx = some (.int k 0)) (h4 : mx = none ∨ hi ≠ none) (w : World) :
    (Instr.sliceAt t (.slice none 0 0) lo hi mx).run P w = .ok (.slice none 0 0) w := by
  have hb : (Instr.sliceBounds true 0 0 lo hi mx).run P w = .ok (0, 0, 0) w := by
    rcases h1 with rfl | ⟨k, rfl⟩ <;> rcases h2 with rfl | ⟨k2, rfl⟩ <;> rcases h3 with rfl | ⟨k3, rfl⟩ <;> first | (rcases h4 with h4 | h4 <;> simp at h4; done) | simp [Instr.sliceBounds, Instr.sliceBound, asIntOf]
  simp [Instr.sliceAt, Instr.slice, run_underlying ht, hb, run_size hs]
theorem run_slc_full {t e sz : Nat} (ht : P.underlying t = some (.slice e)) (hs : szOf P e = some sz) (a : Option Addr) {lo : Option Value} {k k2 : IntKind} {len cap h : Nat} (h1 : lo = none ∨ ∃ k, lo = some (.int k 0)) (hc : len ≤ cap) (hl : h ≤ len) (w : World) :
    (Instr.sliceAt t (.slice a len cap) lo (some (.int k h)) (some (.int k2 h))).run P w = .ok (.slice (if h = 0 then a else a.map (·.add (0 * sz))) h h) w := by
  have n1 : h ≤ cap := by omega
  have hb : (Instr.sliceBounds true len cap lo (some (.int k h)) (some (.int k2 h))).run P w = .ok (0, h, h) w := by
    rcases h1 with rfl | ⟨k, rfl⟩ <;> simp [Instr.sliceBounds, Instr.sliceBound, asIntOf, n1]
  simp [Instr.sliceAt, Instr.slice, run_underlying ht, hb, run_size hs]

theorem slcSl_run (hf : Fr n E os φ a) {t e sz : Nat} {x : Operand} {lo hi mx : Option Operand} {x' : IO} {lo' hi' mx' : Option IO} (ht' : P.underlying t = some (.slice e)) (hsz : szOf P e = some sz)
    (hx : compO x = some x') (hl : compOO lo = some lo') (hh : compOO hi = some hi') (hm : compOO mx = some mx') {d : D} (h : slcSl φ os sz x' lo' hi' mx' = some (true, d)) :
    ∃ v, (Instr.sliceAt t (a.eval x) (lo.map a.eval) (hi.map a.eval) (mx.map a.eval)).run P E.w = .ok v E.w ∧ V E os d v := by
  have hxv := V.op hf hx
  unfold slcSl at h
  split at h
  · rename_i hs
    simp only [Option.bind_eq_some_iff, Option.map_eq_some_iff] at h
    obtain ⟨p, hp, q, hq, r, hr, h⟩ := h
    simp at h
    obtain ⟨⟨h1, h0, rfl, rfl, rfl⟩, rfl⟩ := h
    have := hxv.strip h1
    rw [hs] at this
    have hvx := this.xx
    generalize a.eval x = vx at hvx
    cases hvx
    have b1 := zeroO_ok hf hl hp
    have b2 := zeroO_ok hf hh hq
    have b3 := zeroO_ok hf hm hr
    refine ⟨_, run_slc_nil ht' hsz b1 b2 b3 ?_ _, .x .nils⟩
    rcases h0 with h0 | h0
    · subst h0; rw [compOO_none hm]; exact .inl rfl
    · cases hi' with
      | none => cases h0
      | some y => obtain ⟨z, rfl, _⟩ := compOO_some hh; exact .inr (by simp)
  · rename_i rs hs
    have fin : ∀ (l m : Nat), (opv φ x').cond = true → mx' = none → (∀ r ∈ rs, r.length = sz) → Bnd (lo.map a.eval) (hi.map a.eval) rs.length l m → ∃ v, (Instr.sliceAt t (a.eval x) (lo.map a.eval) (hi.map a.eval) (mx.map a.eval)).run P E.w = .ok v E.w ∧ V E os (.x (.sl ((rs.take m).drop l))) v := by
      intro l m hc h0 hz hb
      subst h0
      rw [compOO_none hm]
      have := hxv.strip hc
      rw [hs] at this
      have hvx := this.xx
      generalize a.eval x = vx at hvx
      have hvx0 := hvx
      cases hvx0 with
      | sl _ ad m' cp sz0 val hn hc hm hsz0 hcell hnil hsp hval =>
        subst hn
        exact ⟨_, run_slc_sl ht' hsz ad hb hc _, V.slc_sl hvx hz hb.2.2.1 hb.2.2.2⟩
    split at h
    · rename_i e1 e2 e3
      have e3 : mx' = none := by simpa using e3
      subst e3
      simp at h; obtain ⟨h1, rfl⟩ := h
      have e1 : lo' = none := by simpa using e1
      have e2 : hi' = none := by simpa using e2
      subst e1; subst e2
      rw [compOO_none hl, compOO_none hh, compOO_none hm]
      have := hxv.strip h1
      rw [hs] at this
      have hvx := this.xx
      generalize a.eval x = vx at hvx
      have hvx0 := hvx
      cases hvx0 with
      | sl _ ad m' cp sz0 val hn hc hm hsz0 hcell hnil hsp hval =>
        have hr := run_slc_sl ht' hsz ad (lo := none) (hi := none) (len := m') (cap := cp) (l := 0) (h := m') ⟨.inl ⟨rfl, rfl⟩, .inl ⟨rfl, rfl⟩, Nat.zero_le _, Nat.le_refl _⟩ hc E.w
        have e0 : (if cp = 0 then ad else ad.map (·.add (0 * sz))) = ad := by
          split
          · rfl
          · cases ad <;> simp [Addr.add]
        rw [e0, Nat.sub_zero, Nat.sub_zero] at hr
        exact ⟨_, hr, .x hvx⟩
    · rename_i l0 e1 e2 e3
      have e3 : mx' = none := by simpa using e3
      subst e3
      obtain ⟨i, hi1, h⟩ := Option.map_eq_some_iff.1 h
      simp at h; obtain ⟨⟨h1, h2, h3, h4, h5⟩, rfl⟩ := h
      obtain ⟨y, rfl, rfl⟩ := Option.map_eq_some_iff.1 e1
      have e2 : hi' = none := by simpa using e2
      subst e2
      obtain ⟨j, rfl⟩ := Int.eq_ofNat_of_zero_le h3
      have := fin j rs.length h1 rfl h5 (bnd hf hl hh _ _ _ ⟨_, hi1, h2, rfl⟩ rfl (by omega) (Nat.le_refl _))
      simpa using this
    · rename_i h0 e1 e2 e3
      have e3 : mx' = none := by simpa using e3
      subst e3
      obtain ⟨i, hi1, h⟩ := Option.map_eq_some_iff.1 h
      simp at h; obtain ⟨⟨h1, h2, h3, h4, h5⟩, rfl⟩ := h
      obtain ⟨y, rfl, rfl⟩ := Option.map_eq_some_iff.1 e2
      have e1 : lo' = none := by simpa using e1
      subst e1
      obtain ⟨j, rfl⟩ := Int.eq_ofNat_of_zero_le h3
      have := fin 0 j h1 rfl h5 (bnd hf hl hh _ _ _ rfl ⟨_, hi1, h2, rfl⟩ (by omega) (by omega))
      simpa using this
    · rename_i l0 h0 e1 e2 e3
      have e3 : mx' = none := by simpa using e3
      subst e3
      obtain ⟨i, hi1, h⟩ := Option.bind_eq_some_iff.1 h
      obtain ⟨i2, hi2, h⟩ := Option.map_eq_some_iff.1 h
      simp at h; obtain ⟨⟨h1, ⟨h2, h3⟩, h4, h5, h6, h7⟩, rfl⟩ := h
      obtain ⟨y, rfl, rfl⟩ := Option.map_eq_some_iff.1 e1
      obtain ⟨y2, rfl, rfl⟩ := Option.map_eq_some_iff.1 e2
      obtain ⟨j, rfl⟩ := Int.eq_ofNat_of_zero_le h4
      obtain ⟨j2, rfl⟩ := Int.eq_ofNat_of_zero_le (show (0 : Int) ≤ i2 by omega)
      have := fin j j2 h1 rfl h7 (bnd hf hl hh _ _ _ ⟨_, hi1, h2, rfl⟩ ⟨_, hi2, h3, rfl⟩ (by omega) (by omega))
      simpa using this
    · rename_i h0 mi e2 e3
      obtain ⟨m0, rfl, rfl⟩ := Option.map_eq_some_iff.1 e3
      simp only [Option.bind_eq_some_iff, Option.map_eq_some_iff] at h
      obtain ⟨z, hz, i, hi1, i2, hi2, h⟩ := h
      simp at h; obtain ⟨⟨h1, rfl, h2, h3, h4, h5, rfl, h7⟩, rfl⟩ := h
      obtain ⟨y, rfl, rfl⟩ := Option.map_eq_some_iff.1 e2
      obtain ⟨j, rfl⟩ := Int.eq_ofNat_of_zero_le h4
      have b1 := zeroO_ok hf hl hz
      obtain ⟨o1, rfl, g1⟩ := compOO_some hh
      obtain ⟨o2, rfl, g2⟩ := compOO_some hm
      obtain ⟨k1, q1⟩ := intOf_val ((V.op hf g1).strip h2) hi1
      obtain ⟨k2, q2⟩ := intOf_val ((V.op hf g2).strip h3) hi2
      have := hxv.strip h1
      rw [hs] at this
      have hvx := this.xx
      generalize a.eval x = vx at hvx
      have hvx0 := hvx
      cases hvx0 with
      | sl _ ad m' cp sz0 val hn hc hm hsz0 hcell hnil hsp hval =>
        subst hn
        have hj : j ≤ rs.length := by omega
        refine ⟨_, by rw [Option.map_some, Option.map_some, q1, q2]; exact run_slc_full ht' hsz ad b1 hc hj _, .full _ ?_⟩
        have := hvx.part (sz := sz) h7 0 j (by omega) (if j = 0 then ad else ad.map (·.add (0 * sz))) j (Nat.le_refl _) (by omega) (fun hp ad' had => ?_) (fun hn' => ?_) (fun h0 ad' had => ?_)
        · simpa using this
        · rw [if_neg (by omega), had]
          simp [add_spot (hsp (by omega) ad' had)]
        · have : ad = none := by
            split at hn'
            · exact hn'
            · simpa using hn'
          have := hnil this; omega
        · split at had
          · exact hsp (by omega) ad' had
          · obtain ⟨ad0, h1, rfl⟩ := Option.map_eq_some_iff.1 had
            rw [add_spot (hsp (by omega) ad0 h1)]
    · cases h
  · rename_i id ext off len hs
    split at h
    · rename_i o ho
      split at h
      · rename_i sz' rs hsl
        have fin : ∀ (l m : Nat), (opv φ x').cond = true → mx' = none → sz' = sz → rs.length = ext → Bnd (lo.map a.eval) (hi.map a.eval) len l m → ∃ v, (Instr.sliceAt t (a.eval x) (lo.map a.eval) (hi.map a.eval) (mx.map a.eval)).run P E.w = .ok v E.w ∧ V E os (.ref id ext (off + l) (m - l)) v := by
          intro l m hc h0 hz hext hb
          subst h0; subst hz
          rw [compOO_none hm]
          have := hxv.strip hc
          rw [hs] at this
          obtain ⟨ad, cp, k1, k2, k3⟩ := V.slc_ref this ho hsl hext hb.2.2.1 hb.2.2.2
          rw [k1]
          exact ⟨_, run_slc_sl ht' hsz ad hb k2 _, k3⟩
        split at h
        · rename_i l0 e1 e2
          obtain ⟨i, hi1, h⟩ := Option.map_eq_some_iff.1 h
          simp at h; obtain ⟨⟨h1, h2, h3, h4, h5, h6⟩, rfl⟩ := h
          obtain ⟨y, rfl, rfl⟩ := Option.map_eq_some_iff.1 e1
          have e2 : hi' = none := by simpa using e2
          subst e2
          obtain ⟨j, rfl⟩ := Int.eq_ofNat_of_zero_le h5
          have := fin j len h1 rfl h3 h4 (bnd hf hl hh _ _ _ ⟨_, hi1, h2, rfl⟩ rfl (by omega) (Nat.le_refl _))
          simpa using this
        · rename_i h0 e1 e2
          obtain ⟨i, hi1, h⟩ := Option.map_eq_some_iff.1 h
          simp at h; obtain ⟨⟨h1, h2, h3, h4, h5, h6⟩, rfl⟩ := h
          obtain ⟨y, rfl, rfl⟩ := Option.map_eq_some_iff.1 e2
          have e1 : lo' = none := by simpa using e1
          subst e1
          obtain ⟨j, rfl⟩ := Int.eq_ofNat_of_zero_le h5
          have := fin 0 j h1 rfl h3 h4 (bnd hf hl hh _ _ _ rfl ⟨_, hi1, h2, rfl⟩ (by omega) (by omega))
          simpa using this
        · rename_i l0 h0 e1 e2
          obtain ⟨i, hi1, h⟩ := Option.bind_eq_some_iff.1 h
          obtain ⟨i2, hi2, h⟩ := Option.map_eq_some_iff.1 h
          simp at h; obtain ⟨⟨h1, ⟨h2, h3⟩, h4, h5, h6, h7, h8⟩, rfl⟩ := h
          obtain ⟨y, rfl, rfl⟩ := Option.map_eq_some_iff.1 e1
          obtain ⟨y2, rfl, rfl⟩ := Option.map_eq_some_iff.1 e2
          obtain ⟨j, rfl⟩ := Int.eq_ofNat_of_zero_le h6
          obtain ⟨j2, rfl⟩ := Int.eq_ofNat_of_zero_le (show (0 : Int) ≤ i2 by omega)
          have := fin j j2 h1 rfl h4 h5 (bnd hf hl hh _ _ _ ⟨_, hi1, h2, rfl⟩ ⟨_, hi2, h3, rfl⟩ (by omega) (by omega))
          simpa using this
        · cases h
      · cases h
    · cases h
  · cases h

theorem len_run {st : Bool} {t : Nat} (ht : if st then P.underlying t = some .string else ∃ e, P.underlying t = some (.slice e)) {d : D} {v : Value} (hv : V E os d v) (hok' : okRef os d = true) {m : Nat} (h : lenD st d = some m) (ty : Nat) (w : World) :
    (Builtin.len_ #[t] ty #[v]).run P w = .ok (.int .i64 m) w := by
  have hok : ∀ id ext off len, d = .ref id ext off len → ∃ o sz rs, os[id]? = some o ∧ o.slice? = some (sz, rs) ∧ rs.length = ext := by
    rintro id ext off len rfl
    cases ho : os[id]? with
    | none => simp [okRef, ho] at hok'
    | some o =>
      cases hs : o.slice? with
      | none => simp [okRef, ho, hs] at hok'
      | some p => exact ⟨o, p.1, p.2, rfl, hs, by simpa [okRef, ho, hs] using hok'⟩
  have sl : ∀ {a n cp}, st = false → (Builtin.len_ #[t] ty #[.slice a n cp]).run P w = .ok (.int .i64 n) w := fun h => by
    subst h
    obtain ⟨e, ht⟩ := ht
    simp [Builtin.len_, run_underlying ht, goInt]
  unfold lenD at h
  split at h
  · split at h
    · rename_i hst; cases h; subst hst
      rw [V.str hv]
      have ht : P.underlying t = some .string := ht
      simp [Builtin.len_, run_underlying ht, goInt, bstr_size]
    · cases h
  · split at h
    · cases h
    · rename_i hst; cases h; rw [V.nils hv]; exact sl (by simpa using hst)
  · split at h
    · cases h
    · rename_i hst; cases h
      have := hv.xx
      cases this with
      | sl _ ad m' cp sz0 val hn hc hm hsz0 hcell hnil hsp hval => rw [hn]; exact sl (by simpa using hst)
  · split at h
    · cases h
    · rename_i hst; cases h
      cases hv with
      | full n hv =>
        cases hv with
        | sl _ ad m' cp sz0 val hn hc hm hsz0 hcell hnil hsp hval => rw [hn]; exact sl (by simpa using hst)
  · split at h
    · cases h
    · rename_i hst; cases h
      obtain ⟨o, sz, rs, h1, h2, h3⟩ := hok _ _ _ _ rfl
      cases hv with
      | ref hr _ =>
        obtain ⟨h4, b, a, cap, a', cap', h5, h6, h7⟩ := (hr.at h1 h2).2 h3
        rw [h6]; exact sl (by simpa using hst)
  · cases h

end
end Go.Ab
