/- LA2: Ab8, Ab9, Ab10, Ab11, Ab12, Ab16, Ab13, Ab14, Ab15. -/
import Derived.Test.YtmlpbojoekmfaaaDoorLA1
import Derived.ArgAppend
import Derived.Lib.ConvBytes
import Derived.Lib.AppendZerosOnto
section
/- Quiet operations yield what the evaluator says: all but calls. -/
namespace Go.Ab
open Go.RowKit Go.Bo

def IE.isCall : IE → Bool
  | .call _ _ => true
  | _ => false

section
variable {P : Program} {E : Env} {os : List Ob} {c : Ctx} {n : Nat} {φ : List (Nat × D)} {a : Act}

theorem intOf_val {d : D} {i : Int} {v : Value} (hv : V E os d v) (h : intOf? d = some i) : ∃ k, v = .int k i := by
  unfold intOf? at h
  split at h
  · rename_i k m; cases h; exact ⟨k, V.int hv⟩
  · cases h

theorem bind2 {α β γ : Type} {x : Option α} {y : Option β} {f : α → β → γ} {r : γ} (h : (x.bind fun a => y.bind fun b => some (f a b)) = some r) : ∃ a b, x = some a ∧ y = some b ∧ f a b = r := by
  cases x <;> cases y <;> simp at h; exact ⟨_, _, rfl, rfl, h⟩

theorem compOO_none {x : Option Operand} (h : compOO x = some none) : x = none := by
  cases x with
  | none => rfl
  | some y => simp [compOO] at h
theorem compOO_some {x : Option Operand} {y : IO} (h : compOO x = some (some y)) : ∃ z, x = some z ∧ compO z = some y := by
  cases x with
  | none => simp [compOO] at h
  | some z => refine ⟨z, rfl, ?_⟩; simpa [compOO] using h

/-- The bounds of a slice expression. -/
theorem bnd (hf : Fr n E os φ a) {lo hi : Option Operand} {lo' hi' : Option IO} (hl : compOO lo = some lo') (hh : compOO hi = some hi') (len l h : Nat)
    (h1 : match lo' with | none => l = 0 | some y => ∃ i, intOf? (opv φ y).val = some i ∧ (opv φ y).cond = true ∧ i = l)
    (h2 : match hi' with | none => h = len | some y => ∃ i, intOf? (opv φ y).val = some i ∧ (opv φ y).cond = true ∧ i = h) (h3 : l ≤ h) (h4 : h ≤ len) : Bnd (lo.map a.eval) (hi.map a.eval) len l h := by
  refine ⟨?_, ?_, h3, h4⟩
  · cases lo' with
    | none => rw [compOO_none hl]; exact .inl ⟨rfl, h1⟩
    | some y =>
      obtain ⟨z, rfl, hz⟩ := compOO_some hl
      obtain ⟨i, h5, h6, rfl⟩ := h1
      obtain ⟨k, hk⟩ := intOf_val ((V.op hf hz).strip h6) h5
      exact .inr ⟨k, by simp [hk]⟩
  · cases hi' with
    | none => rw [compOO_none hh]; exact .inl ⟨rfl, h2⟩
    | some y =>
      obtain ⟨z, rfl, hz⟩ := compOO_some hh
      obtain ⟨i, h5, h6, rfl⟩ := h2
      obtain ⟨k, hk⟩ := intOf_val ((V.op hf hz).strip h6) h5
      exact .inr ⟨k, by simp [hk]⟩

theorem slcStr_run (hf : Fr n E os φ a) {t : Nat} {x : Operand} {lo hi mx : Option Operand} {x' : IO} {lo' hi' mx' : Option IO} (ht' : P.underlying t = some .string)
    (hx : compO x = some x') (hl : compOO lo = some lo') (hh : compOO hi = some hi') (hm : compOO mx = some mx') {d : D} (h : slcStr φ x' lo' hi' mx' = some (true, d)) :
    ∃ v, (Instr.sliceAt t (a.eval x) (lo.map a.eval) (hi.map a.eval) (mx.map a.eval)).run P E.w = .ok v E.w ∧ V E os d v := by
  have hxv := V.op hf hx
  unfold slcStr at h
  split at h
  · rename_i s hs
    have fin : ∀ (l m : Nat), (opv φ x').cond = true → mx' = none → Bnd (lo.map a.eval) (hi.map a.eval) s.length l m → ∃ v, (Instr.sliceAt t (a.eval x) (lo.map a.eval) (hi.map a.eval) (mx.map a.eval)).run P E.w = .ok v E.w ∧ V E os (.x (.str ((s.take m).drop l))) v := by
      intro l m hc h0 hb
      subst h0
      rw [compOO_none hm]
      have := hxv.strip hc
      rw [hs] at this
      rw [V.str this]
      exact ⟨_, run_slc_str ht' s hb _, V.mkstr _ _ _⟩
    split at h
    · rename_i e1 e2 
      simp at h; obtain ⟨h1, rfl⟩ := h
      have e1 : lo' = none := by simpa using e1
      have e2 : hi' = none := by simpa using e2
      subst e1; subst e2
      have := fin 0 s.length h1 rfl (bnd hf hl hh _ _ _ rfl rfl (Nat.zero_le _) (Nat.le_refl _))
      simpa using this
    · rename_i l0 e1 e2
      obtain ⟨i, hi1, h⟩ := Option.map_eq_some_iff.1 h
      simp at h; obtain ⟨⟨h1, h2, h3, h4⟩, rfl⟩ := h
      obtain ⟨y, rfl, rfl⟩ := Option.map_eq_some_iff.1 e1
      have e2 : hi' = none := by simpa using e2
      subst e2
      obtain ⟨j, rfl⟩ := Int.eq_ofNat_of_zero_le h3
      have := fin j s.length h1 rfl (bnd hf hl hh _ _ _ ⟨_, hi1, h2, rfl⟩ rfl (by omega) (Nat.le_refl _))
      simpa using this
    · rename_i h0 e1 e2
      obtain ⟨i, hi1, h⟩ := Option.map_eq_some_iff.1 h
      simp at h; obtain ⟨⟨h1, h2, h3, h4⟩, rfl⟩ := h
      obtain ⟨y, rfl, rfl⟩ := Option.map_eq_some_iff.1 e2
      have e1 : lo' = none := by simpa using e1
      subst e1
      obtain ⟨j, rfl⟩ := Int.eq_ofNat_of_zero_le h3
      have := fin 0 j h1 rfl (bnd hf hl hh _ _ _ rfl ⟨_, hi1, h2, rfl⟩ (by omega) (by omega))
      simpa using this
    · rename_i l0 h0 e1 e2
      obtain ⟨i, hi1, h⟩ := Option.bind_eq_some_iff.1 h
      obtain ⟨i2, hi2, h⟩ := Option.map_eq_some_iff.1 h
      simp at h; obtain ⟨⟨h1, ⟨h2, h3⟩, h4, h5, h6⟩, rfl⟩ := h
      obtain ⟨y, rfl, rfl⟩ := Option.map_eq_some_iff.1 e1
      obtain ⟨y2, rfl, rfl⟩ := Option.map_eq_some_iff.1 e2
      obtain ⟨j, rfl⟩ := Int.eq_ofNat_of_zero_le h4
      obtain ⟨j2, rfl⟩ := Int.eq_ofNat_of_zero_le (show (0 : Int) ≤ i2 by omega)
      have := fin j j2 h1 rfl (bnd hf hl hh _ _ _ ⟨_, hi1, h2, rfl⟩ ⟨_, hi2, h3, rfl⟩ (by omega) (by omega))
      simpa using this
    · cases h
  · cases h
theorem zeroO_ok (hf : Fr n E os φ a) {lo : Option Operand} {lo' : Option IO} (hl : compOO lo = some lo') (h : zeroO (lo'.map fun l => opv φ l) = some true) : lo.map a.eval = none ∨ ∃ k, lo.map a.eval = some (.int k 0) := by
  cases lo' with
  | none => rw [compOO_none hl]; exact .inl rfl
  | some y =>
    obtain ⟨z, rfl, hz⟩ := compOO_some hl
    simp only [zeroO, Option.map_some, Option.map_eq_some_iff] at h
    obtain ⟨i, h1, h2⟩ := h
    simp at h2
    obtain ⟨h2, rfl⟩ := h2
    obtain ⟨k, hk⟩ := intOf_val ((V.op hf hz).strip h2) h1
    exact .inr ⟨k, by simp [hk]⟩
theorem run_slc_nil {t e sz : Nat} (ht : P.underlying t = some (.slice e)) (hs : szOf P e = some sz) {lo hi mx : Option Value} (h1 : lo = none ∨ ∃ k, lo = some (.int k 0)) (h2 : hi = none ∨ ∃ k, hi = some (.int k 0)) (h3 : mx = none ∨ ∃ k, mx = some (.int k 0)) (h4 : mx = none ∨ hi ≠ none) (w : World) :
    (Instr.sliceAt t (.slice none 0 0) lo hi mx).run P w = .ok (.slice none 0 0) w := by
  have hb : (Instr.sliceBounds true 0 0 lo hi mx).run P w = .ok (0, 0, 0) w := by
    rcases h1 with rfl | ⟨k, rfl⟩ <;> rcases h2 with rfl | ⟨k2, rfl⟩ <;> rcases h3 with rfl | ⟨k3, rfl⟩ <;> first | (rcases h4 with h4 | h4 <;> simp at h4; done) | simp [Instr.sliceBounds, Instr.sliceBound, asIntOf]
  simp [Instr.sliceAt, Instr.slice, run_underlying ht, hb, run_size hs]
theorem run_slc_full {t e sz : Nat} (ht : P.underlying t = some (.slice e)) (hs : szOf P e = some sz) (a : Option Addr) {lo : Option Value} {k k2 : IntKind} {len cap h : Nat} (h1 : lo = none ∨ ∃ k, lo = some (.int k 0)) (hc : len ≤ cap) (hl : h ≤ len) (w : World) :
    (Instr.sliceAt t (.slice a len cap) lo (some (.int k h)) (some (.int k2 h))).run P w = .ok (.slice (if h = 0 then a else a.map (·.add (0 * sz))) h h) w := by
  have n1 : h ≤ cap := by omega
  have hb : (Instr.sliceBounds true len cap lo (some (.int k h)) (some (.int k2 h))).run P w = .ok (0, h, h) w := by
    rcases h1 with rfl | ⟨k, rfl⟩ <;> simp [Instr.sliceBounds, Instr.sliceBound, asIntOf, n1]
  simp [Instr.sliceAt, Instr.slice, run_underlying ht, hb, run_size hs]

theorem slcSl_run (hf : Fr n E os φ a) {t e sz : Nat} {x : Operand} {lo hi mx : Option Operand} {x' : IO} {lo' hi' mx' : Option IO} (ht' : P.underlying t = some (.slice e)) (hsz : szOf P e = some sz)
    (hx : compO x = some x') (hl : compOO lo = some lo') (hh : compOO hi = some hi') (hm : compOO mx = some mx') {d : D} (h : slcSl φ os sz x' lo' hi' mx' = some (true, d)) :
    ∃ v, (Instr.sliceAt t (a.eval x) (lo.map a.eval) (hi.map a.eval) (mx.map a.eval)).run P E.w = .ok v E.w ∧ V E os d v := by
  have hxv := V.op hf hx
  unfold slcSl at h
  split at h
  · rename_i hs
    simp only [Option.bind_eq_some_iff, Option.map_eq_some_iff] at h
    obtain ⟨p, hp, q, hq, r, hr, h⟩ := h
    simp at h
    obtain ⟨⟨h1, h0, rfl, rfl, rfl⟩, rfl⟩ := h
    have := hxv.strip h1
    rw [hs] at this
    have hvx := this.xx
    generalize a.eval x = vx at hvx
    cases hvx
    have b1 := zeroO_ok hf hl hp
    have b2 := zeroO_ok hf hh hq
    have b3 := zeroO_ok hf hm hr
    refine ⟨_, run_slc_nil ht' hsz b1 b2 b3 ?_ _, .x .nils⟩
    rcases h0 with h0 | h0
    · subst h0; rw [compOO_none hm]; exact .inl rfl
    · cases hi' with
      | none => cases h0
      | some y => obtain ⟨z, rfl, _⟩ := compOO_some hh; exact .inr (by simp)
  · rename_i rs hs
    have fin : ∀ (l m : Nat), (opv φ x').cond = true → mx' = none → (∀ r ∈ rs, r.length = sz) → Bnd (lo.map a.eval) (hi.map a.eval) rs.length l m → ∃ v, (Instr.sliceAt t (a.eval x) (lo.map a.eval) (hi.map a.eval) (mx.map a.eval)).run P E.w = .ok v E.w ∧ V E os (.x (.sl ((rs.take m).drop l))) v := by
      intro l m hc h0 hz hb
      subst h0
      rw [compOO_none hm]
      have := hxv.strip hc
      rw [hs] at this
      have hvx := this.xx
      generalize a.eval x = vx at hvx
      have hvx0 := hvx
      cases hvx0 with
      | sl _ ad m' cp sz0 val hn hc hm hsz0 hcell hnil hsp hval =>
        subst hn
        exact ⟨_, run_slc_sl ht' hsz ad hb hc _, V.slc_sl hvx hz hb.2.2.1 hb.2.2.2⟩
    split at h
    · rename_i e1 e2 e3
      have e3 : mx' = none := by simpa using e3
      subst e3
      simp at h; obtain ⟨h1, rfl⟩ := h
      have e1 : lo' = none := by simpa using e1
      have e2 : hi' = none := by simpa using e2
      subst e1; subst e2
      rw [compOO_none hl, compOO_none hh, compOO_none hm]
      have := hxv.strip h1
      rw [hs] at this
      have hvx := this.xx
      generalize a.eval x = vx at hvx
      have hvx0 := hvx
      cases hvx0 with
      | sl _ ad m' cp sz0 val hn hc hm hsz0 hcell hnil hsp hval =>
        have hr := run_slc_sl ht' hsz ad (lo := none) (hi := none) (len := m') (cap := cp) (l := 0) (h := m') ⟨.inl ⟨rfl, rfl⟩, .inl ⟨rfl, rfl⟩, Nat.zero_le _, Nat.le_refl _⟩ hc E.w
        have e0 : (if cp = 0 then ad else ad.map (·.add (0 * sz))) = ad := by
          split
          · rfl
          · cases ad <;> simp [Addr.add]
        rw [e0, Nat.sub_zero, Nat.sub_zero] at hr
        exact ⟨_, hr, .x hvx⟩
    · rename_i l0 e1 e2 e3
      have e3 : mx' = none := by simpa using e3
      subst e3
      obtain ⟨i, hi1, h⟩ := Option.map_eq_some_iff.1 h
      simp at h; obtain ⟨⟨h1, h2, h3, h4, h5⟩, rfl⟩ := h
      obtain ⟨y, rfl, rfl⟩ := Option.map_eq_some_iff.1 e1
      have e2 : hi' = none := by simpa using e2
      subst e2
      obtain ⟨j, rfl⟩ := Int.eq_ofNat_of_zero_le h3
      have := fin j rs.length h1 rfl h5 (bnd hf hl hh _ _ _ ⟨_, hi1, h2, rfl⟩ rfl (by omega) (Nat.le_refl _))
      simpa using this
    · rename_i h0 e1 e2 e3
      have e3 : mx' = none := by simpa using e3
      subst e3
      obtain ⟨i, hi1, h⟩ := Option.map_eq_some_iff.1 h
      simp at h; obtain ⟨⟨h1, h2, h3, h4, h5⟩, rfl⟩ := h
      obtain ⟨y, rfl, rfl⟩ := Option.map_eq_some_iff.1 e2
      have e1 : lo' = none := by simpa using e1
      subst e1
      obtain ⟨j, rfl⟩ := Int.eq_ofNat_of_zero_le h3
      have := fin 0 j h1 rfl h5 (bnd hf hl hh _ _ _ rfl ⟨_, hi1, h2, rfl⟩ (by omega) (by omega))
      simpa using this
    · rename_i l0 h0 e1 e2 e3
      have e3 : mx' = none := by simpa using e3
      subst e3
      obtain ⟨i, hi1, h⟩ := Option.bind_eq_some_iff.1 h
      obtain ⟨i2, hi2, h⟩ := Option.map_eq_some_iff.1 h
      simp at h; obtain ⟨⟨h1, ⟨h2, h3⟩, h4, h5, h6, h7⟩, rfl⟩ := h
      obtain ⟨y, rfl, rfl⟩ := Option.map_eq_some_iff.1 e1
      obtain ⟨y2, rfl, rfl⟩ := Option.map_eq_some_iff.1 e2
      obtain ⟨j, rfl⟩ := Int.eq_ofNat_of_zero_le h4
      obtain ⟨j2, rfl⟩ := Int.eq_ofNat_of_zero_le (show (0 : Int) ≤ i2 by omega)
      have := fin j j2 h1 rfl h7 (bnd hf hl hh _ _ _ ⟨_, hi1, h2, rfl⟩ ⟨_, hi2, h3, rfl⟩ (by omega) (by omega))
      simpa using this
    · rename_i h0 mi e2 e3
      obtain ⟨m0, rfl, rfl⟩ := Option.map_eq_some_iff.1 e3
      simp only [Option.bind_eq_some_iff, Option.map_eq_some_iff] at h
      obtain ⟨z, hz, i, hi1, i2, hi2, h⟩ := h
      simp at h; obtain ⟨⟨h1, rfl, h2, h3, h4, h5, rfl, h7⟩, rfl⟩ := h
      obtain ⟨y, rfl, rfl⟩ := Option.map_eq_some_iff.1 e2
      obtain ⟨j, rfl⟩ := Int.eq_ofNat_of_zero_le h4
      have b1 := zeroO_ok hf hl hz
      obtain ⟨o1, rfl, g1⟩ := compOO_some hh
      obtain ⟨o2, rfl, g2⟩ := compOO_some hm
      obtain ⟨k1, q1⟩ := intOf_val ((V.op hf g1).strip h2) hi1
      obtain ⟨k2, q2⟩ := intOf_val ((V.op hf g2).strip h3) hi2
      have := hxv.strip h1
      rw [hs] at this
      have hvx := this.xx
      generalize a.eval x = vx at hvx
      have hvx0 := hvx
      cases hvx0 with
      | sl _ ad m' cp sz0 val hn hc hm hsz0 hcell hnil hsp hval =>
        subst hn
        have hj : j ≤ rs.length := by omega
        refine ⟨_, by rw [Option.map_some, Option.map_some, q1, q2]; exact run_slc_full ht' hsz ad b1 hc hj _, .full _ ?_⟩
        have := hvx.part (sz := sz) h7 0 j (by omega) (if j = 0 then ad else ad.map (·.add (0 * sz))) j (Nat.le_refl _) (by omega) (fun hp ad' had => ?_) (fun hn' => ?_) (fun h0 ad' had => ?_)
        · simpa using this
        · rw [if_neg (by omega), had]
          simp [add_spot (hsp (by omega) ad' had)]
        · have : ad = none := by
            split at hn'
            · exact hn'
            · simpa using hn'
          have := hnil this; omega
        · split at had
          · exact hsp (by omega) ad' had
          · obtain ⟨ad0, h1, rfl⟩ := Option.map_eq_some_iff.1 had
            rw [add_spot (hsp (by omega) ad0 h1)]
    · cases h
  · rename_i id ext off len hs
    split at h
    · rename_i o ho
      split at h
      · rename_i sz' rs hsl
        have fin : ∀ (l m : Nat), (opv φ x').cond = true → mx' = none → sz' = sz → rs.length = ext → Bnd (lo.map a.eval) (hi.map a.eval) len l m → ∃ v, (Instr.sliceAt t (a.eval x) (lo.map a.eval) (hi.map a.eval) (mx.map a.eval)).run P E.w = .ok v E.w ∧ V E os (.ref id ext (off + l) (m - l)) v := by
          intro l m hc h0 hz hext hb
          subst h0; subst hz
          rw [compOO_none hm]
          have := hxv.strip hc
          rw [hs] at this
          obtain ⟨ad, cp, k1, k2, k3⟩ := V.slc_ref this ho hsl hext hb.2.2.1 hb.2.2.2
          rw [k1]
          exact ⟨_, run_slc_sl ht' hsz ad hb k2 _, k3⟩
        split at h
        · rename_i l0 e1 e2
          obtain ⟨i, hi1, h⟩ := Option.map_eq_some_iff.1 h
          simp at h; obtain ⟨⟨h1, h2, h3, h4, h5, h6⟩, rfl⟩ := h
          obtain ⟨y, rfl, rfl⟩ := Option.map_eq_some_iff.1 e1
          have e2 : hi' = none := by simpa using e2
          subst e2
          obtain ⟨j, rfl⟩ := Int.eq_ofNat_of_zero_le h5
          have := fin j len h1 rfl h3 h4 (bnd hf hl hh _ _ _ ⟨_, hi1, h2, rfl⟩ rfl (by omega) (Nat.le_refl _))
          simpa using this
        · rename_i h0 e1 e2
          obtain ⟨i, hi1, h⟩ := Option.map_eq_some_iff.1 h
          simp at h; obtain ⟨⟨h1, h2, h3, h4, h5, h6⟩, rfl⟩ := h
          obtain ⟨y, rfl, rfl⟩ := Option.map_eq_some_iff.1 e2
          have e1 : lo' = none := by simpa using e1
          subst e1
          obtain ⟨j, rfl⟩ := Int.eq_ofNat_of_zero_le h5
          have := fin 0 j h1 rfl h3 h4 (bnd hf hl hh _ _ _ rfl ⟨_, hi1, h2, rfl⟩ (by omega) (by omega))
          simpa using this
        · rename_i l0 h0 e1 e2
          obtain ⟨i, hi1, h⟩ := Option.bind_eq_some_iff.1 h
          obtain ⟨i2, hi2, h⟩ := Option.map_eq_some_iff.1 h
          simp at h; obtain ⟨⟨h1, ⟨h2, h3⟩, h4, h5, h6, h7, h8⟩, rfl⟩ := h
          obtain ⟨y, rfl, rfl⟩ := Option.map_eq_some_iff.1 e1
          obtain ⟨y2, rfl, rfl⟩ := Option.map_eq_some_iff.1 e2
          obtain ⟨j, rfl⟩ := Int.eq_ofNat_of_zero_le h6
          obtain ⟨j2, rfl⟩ := Int.eq_ofNat_of_zero_le (show (0 : Int) ≤ i2 by omega)
          have := fin j j2 h1 rfl h4 h5 (bnd hf hl hh _ _ _ ⟨_, hi1, h2, rfl⟩ ⟨_, hi2, h3, rfl⟩ (by omega) (by omega))
          simpa using this
        · cases h
      · cases h
    · cases h
  · cases h

theorem len_run {st : Bool} {t : Nat} (ht : if st then P.underlying t = some .string else ∃ e, P.underlying t = some (.slice e)) {d : D} {v : Value} (hv : V E os d v) (hok' : okRef os d = true) {m : Nat} (h : lenD st d = some m) (ty : Nat) (w : World) :
    (Builtin.len_ #[t] ty #[v]).run P w = .ok (.int .i64 m) w := by
  have hok : ∀ id ext off len, d = .ref id ext off len → ∃ o sz rs, os[id]? = some o ∧ o.slice? = some (sz, rs) ∧ rs.length = ext := by
    rintro id ext off len rfl
    cases ho : os[id]? with
    | none => simp [okRef, ho] at hok'
    | some o =>
      cases hs : o.slice? with
      | none => simp [okRef, ho, hs] at hok'
      | some p => exact ⟨o, p.1, p.2, rfl, hs, by simpa [okRef, ho, hs] using hok'⟩
  have sl : ∀ {a n cp}, st = false → (Builtin.len_ #[t] ty #[.slice a n cp]).run P w = .ok (.int .i64 n) w := fun h => by
    subst h
    obtain ⟨e, ht⟩ := ht
    simp [Builtin.len_, run_underlying ht, goInt]
  unfold lenD at h
  split at h
  · split at h
    · rename_i hst; cases h; subst hst
      rw [V.str hv]
      have ht : P.underlying t = some .string := ht
      simp [Builtin.len_, run_underlying ht, goInt, bstr_size]
    · cases h
  · split at h
    · cases h
    · rename_i hst; cases h; rw [V.nils hv]; exact sl (by simpa using hst)
  · split at h
    · cases h
    · rename_i hst; cases h
      have := hv.xx
      cases this with
      | sl _ ad m' cp sz0 val hn hc hm hsz0 hcell hnil hsp hval => rw [hn]; exact sl (by simpa using hst)
  · split at h
    · cases h
    · rename_i hst; cases h
      cases hv with
      | full n hv =>
        cases hv with
        | sl _ ad m' cp sz0 val hn hc hm hsz0 hcell hnil hsp hval => rw [hn]; exact sl (by simpa using hst)
  · split at h
    · cases h
    · rename_i hst; cases h
      obtain ⟨o, sz, rs, h1, h2, h3⟩ := hok _ _ _ _ rfl
      cases hv with
      | ref hr _ =>
        obtain ⟨h4, b, a, cap, a', cap', h5, h6, h7⟩ := (hr.at h1 h2).2 h3
        rw [h6]; exact sl (by simpa using hst)
  · split at h
    · cases h
    · rename_i hst; cases h
      cases hv with
      | bref ho hb hm => exact sl (by simpa using hst)
  · cases h

end
end Go.Ab
end
section
/- Quiet operations yield what the evaluator says: all but calls, in one. -/
namespace Go.Ab
open Go.RowKit Go.Bo

section
variable {P : Program} {E : Env} {os : List Ob} {c : Ctx} {n : Nat} {φ : List (Nat × D)} {a : Act}

theorem val_run {o : Oper} {s : Sem Value} {v : Value} {w : World} (h : execOp a.eval o = (do pure (Next.value (← s)))) (hr : s.run P w = .ok v w) : (execOp a.eval o).run P w = .ok (.value v) w := by
  rw [h]; simp [hr]

theorem listOp (hf : Fr n E os φ a) : ∀ {xs : List Operand} {ys : List IO}, xs.mapM compO = some ys → xs.length = ys.length ∧ ∀ (j : Nat) (x : Operand) (y : IO), xs[j]? = some x → ys[j]? = some y → V E os (opv φ y) (a.eval x)
  | [], ys, h => by simp at h; subst h; exact ⟨rfl, fun j x y h => by simp at h⟩
  | x :: xs, ys, h => by
    simp only [List.mapM_cons, Option.bind_eq_bind, Option.bind_eq_some_iff, Option.pure_def] at h
    obtain ⟨y, hy, ys', hys, h⟩ := h
    cases h
    obtain ⟨h1, h2⟩ := listOp hf hys
    refine ⟨by simp [h1], fun j x' y' hx hy' => ?_⟩
    cases j with
    | zero => simp at hx hy'; subst hx; subst hy'; exact V.op hf hy
    | succ j => exact h2 j x' y' (by simpa using hx) (by simpa using hy')

set_option maxHeartbeats 1000000 in
theorem asl_run (hf : Fr n E os φ a) {o : Oper} {t e m z : Nat} {x : Operand} {lo hi mx : Option Operand} {x' : IO} (ho : o.op = .slice t x lo hi mx) (ht : P.underlying t = some (.array m e)) (hz : szOf P e = some z) (h1 : z = 1) (hm : m ≤ 16777216) (hx : compO x = some x') (hlo : lo = none) (hhi : hi = none) (hmx : mx = none) {d : D}
    (h : (match (opv φ x').val with
      | .ptr id o => match os[id]? with
        | some (.box ds) => some ((opv φ x').cond && (decide (0 < m) && (decide (o + m ≤ ds.length) && decide (m ≤ 16777216))), D.bref id o m)
        | _ => none
      | _ => none) = some (true, d)) : ∃ v, (execOp a.eval o).run P E.w = .ok (.value v) E.w ∧ V E os d v := by
  obtain ⟨dst, op, ty, pos, after, guard⟩ := o
  simp only at ho
  subst ho; subst hlo; subst hhi; subst hmx; subst h1
  split at h
  · rename_i id o hv
    split at h
    · rename_i ds hds
      simp only [Option.some.injEq, Prod.mk.injEq, Bool.and_eq_true, decide_eq_true_eq] at h
      obtain ⟨⟨c1, c2, c3, c4⟩, rfl⟩ := h
      have v1 := (V.op hf hx).strip c1
      rw [hv] at v1
      generalize hva : a.eval x = va at v1
      cases v1 with
      | ptr ho hb =>
        refine ⟨_, val_run (s := Instr.sliceAt t (a.eval x) none none none) rfl (by rw [hva]; exact run_asl ht hz _ ⟨.inl ⟨rfl, rfl⟩, .inl ⟨rfl, rfl⟩, Nat.zero_le _, Nat.le_refl _⟩ E.w), .bref hds hb (by unfold maxLen; omega)⟩
    · cases h
  · cases h
theorem aval_run (R : Rel c E os) (hf : Fr n E os φ a) {S : FuncId → List D → Option (Bool × D)} {o : Oper} {e : IE} (hc : compOp P o.op = some e) (hne : e.isCall = false) {d : D} (h : aval S φ os e = some (true, d)) :
    ∃ v, (execOp a.eval o).run P E.w = .ok (.value v) E.w ∧ V E os d v := by
  obtain ⟨dst, op, ty, pos, after, guard⟩ := o
  simp only at hc
  cases op <;> simp only [compOp] at hc <;> (try cases hc)
  case move x =>
    obtain ⟨y, hy, hc⟩ := Option.bind_eq_some_iff.1 hc; cases hc
    simp [aval] at h; subst h
    exact ⟨_, rfl, V.op hf hy⟩
  case assign x =>
    obtain ⟨y, hy, hc⟩ := Option.bind_eq_some_iff.1 hc; cases hc
    simp [aval] at h; subst h
    exact ⟨_, rfl, V.op hf hy⟩
  case pick x y z =>
    simp only [Option.bind_eq_bind, Option.bind_eq_some_iff] at hc
    obtain ⟨x', hx, y', hy, z', hz, hc⟩ := hc; cases hc
    simp only [aval] at h
    split at h
    · rename_i p q r h1 h2 h3
      simp at h
      obtain ⟨⟨k1, k2, k3⟩, rfl⟩ := h
      have vx := (V.op hf hx).strip k1
      rw [h1] at vx
      cases p with
      | true =>
        have vy := (V.op hf hy).strip (by simpa using k2)
        rw [h2] at vy
        exact ⟨a.eval y, by simp [execOp, V.bool vx, asBool], by rw [V.bool vy]; exact V.mkbool _ _ _⟩
      | false =>
        have vz := (V.op hf hz).strip (by simpa using k3)
        rw [h3] at vz
        exact ⟨a.eval z, by simp [execOp, V.bool vx, asBool], by rw [V.bool vz]; exact V.mkbool _ _ _⟩
    · rename_i q h1 h2 h3
      simp at h
      obtain ⟨⟨k1, k2⟩, rfl⟩ := h
      have vx := (V.op hf hx).strip k1
      rw [h1] at vx
      have vy := (V.op hf hy).strip k2
      rw [h2] at vy
      exact ⟨a.eval y, by simp [execOp, V.bool vx, asBool], by rw [V.bool vy]; exact V.mkbool _ _ _⟩
    · rename_i r h1 h3 h2
      simp at h
      obtain ⟨⟨k1, k3⟩, rfl⟩ := h
      have vx := (V.op hf hx).strip k1
      rw [h1] at vx
      have vz := (V.op hf hz).strip k3
      rw [h3] at vz
      exact ⟨a.eval z, by simp [execOp, V.bool vx, asBool], by rw [V.bool vz]; exact V.mkbool _ _ _⟩
    · cases h
  case alloc t => 
    simp only [Option.bind_eq_some_iff, Option.map_eq_some_iff] at hc
    obtain ⟨i, hi, z, hz, rfl⟩ := hc
    split at h <;> simp [aval] at h
  case box t x =>
    obtain ⟨y, hy, rfl⟩ := Option.map_eq_some_iff.1 hc
    split at h <;> simp [aval] at h
  case build t parts =>
    have main : ∀ (it : TypeInfo) (place : Nat → Option (Nat × Nat)) (z : Value) (zs : List D) (ps : List (Nat × Nat × IO)), (∀ l, P.built t l = Instr.fill place z.cells l) → (constD z).cells? = some zs → compPlaces place parts.toList = some ps → e = .build zs ps →
        ∃ v, (execOp a.eval { dst, op := .build t parts, type := ty, pos, after, guard }).run P E.w = .ok (.value v) E.w ∧ V E os d v := by
      intro it place z zs ps hb hz hp he
      subst he
      simp only [aval, Option.map_eq_some_iff] at h
      obtain ⟨⟨b, ds⟩, h1, h2⟩ := h
      simp at h2
      obtain ⟨rfl, rfl⟩ := h2
      have hvz := V.const E os z
      obtain ⟨q1, q2, q3⟩ := hvz.cells hz
      have hva : V E os (.agg zs) (.agg z.cells) := .agg _ q1.symm q2 q3
      obtain ⟨cs', k1, k2⟩ := fill_sound hf place parts.toList ps zs ds z.cells hp hva h1
      refine ⟨_, val_run (s := Instr.build t (parts.map fun (i, x) => (i, a.eval x))) rfl (run_build E.w t _ cs' ?_), k2⟩
      rw [hb]
      simpa using k1
    split at hc
    · rename_i it m el h1 h2
      split at hc
      · rename_i z ie hz hie
        obtain ⟨zs, hzs, hc⟩ := Option.bind_eq_some_iff.1 hc
        obtain ⟨ps, hps, hc⟩ := Option.map_eq_some_iff.1 hc
        exact main it _ z zs ps (fun l => by simp [Program.built, h1, h2, hz, hie]) hzs hps hc.symm
      · cases hc
    · rename_i it fs h1 h2
      split at hc
      · rename_i z places hz hpl
        obtain ⟨zs, hzs, hc⟩ := Option.bind_eq_some_iff.1 hc
        obtain ⟨ps, hps, hc⟩ := Option.map_eq_some_iff.1 hc
        exact main it _ z zs ps (fun l => by simp [Program.built, h1, h2, hz, hpl]) hzs hps hc.symm
      · cases hc
    · cases hc
  case buildSlice t m parts =>
    split at hc
    · obtain ⟨s, hs, hc⟩ := Option.bind_eq_some_iff.1 hc
      obtain ⟨z, hz, hc⟩ := Option.bind_eq_some_iff.1 hc
      split at hc
      · obtain ⟨ps, hps, hc⟩ := Option.map_eq_some_iff.1 hc; cases hc; simp [aval] at h
      · cases hc
    · cases hc
  case load t x =>
    simp only [Option.bind_eq_bind, Option.bind_eq_some_iff] at hc
    obtain ⟨m, hm, ag, hag, y, hy, hc⟩ := hc; cases hc
    obtain ⟨v, h1, h2⟩ := run_ld R hm hag (V.op hf hy) h
    exact ⟨v, val_run (s := Instr.loadAt t (a.eval x)) rfl h1, h2⟩
  case store t x y =>
    simp only [Option.bind_eq_bind, Option.bind_eq_some_iff] at hc
    obtain ⟨m, hm, x', hx, y', hy, hc⟩ := hc; cases hc; simp [aval] at h
  case nilCheck x =>
    obtain ⟨y, hy, hc⟩ := Option.bind_eq_some_iff.1 hc; cases hc
    simp only [aval] at h
    have hv := V.op hf hy
    split at h
    · rename_i i o h1
      simp at h; obtain ⟨h2, rfl⟩ := h
      have := hv.strip h2
      rw [h1] at this
      obtain ⟨ad, h3⟩ := this.ptr_some
      exact ⟨a.eval x, by simp [execOp, h3], this⟩
    · rename_i cs h1
      simp at h; obtain ⟨h2, rfl⟩ := h
      have := hv.strip h2
      rw [h1] at this
      obtain ⟨ad, h3⟩ := this.vptr_some
      exact ⟨a.eval x, by simp [execOp, h3], this⟩
    · rename_i i1 i2 i3 i4 h1
      simp at h; obtain ⟨h2, rfl⟩ := h
      have := hv.strip h2
      rw [h1] at this
      obtain ⟨ad, h3⟩ := this.eptr_some
      exact ⟨a.eval x, by simp [execOp, h3], this⟩
    · cases h
  case binOp op t x y yt =>
    have eqc : ∀ (k : EqK) (neg : Bool) (x' y' : IO), k.ok P t → op = (if neg then .neq else .eql) → compO x = some x' → compO y = some y' → e = .eq k neg x' y' → ∃ v, (execOp a.eval { dst, op := .binOp op t x y yt, type := ty, pos, after, guard }).run P E.w = .ok (.value v) E.w ∧ V E os d v := by
      intro k neg x' y' hk hop hx hy he
      subst he; subst hop
      simp only [aval, Option.map_eq_some_iff] at h
      obtain ⟨⟨ok, b⟩, h1, h2⟩ := h
      simp at h2
      obtain ⟨⟨⟨c1, c2⟩, rfl⟩, rfl⟩ := h2
      have hr := run_eqR (P := P) hk ((V.op hf hx).strip c1) ((V.op hf hy).strip c2) h1 neg x y E.w
      exact ⟨_, val_run (s := do eqGuard (if neg then .neq else .eql) t x y (a.eval x) (a.eval y); binOp (if neg then .neq else .eql) t (a.eval x) (a.eval y)) rfl hr, V.mkbool _ _ _⟩
    have binc : ∀ (x' y' : IO), compO x = some x' → compO y = some y' → e = .bin op x' y' → ∃ v, (execOp a.eval { dst, op := .binOp op t x y yt, type := ty, pos, after, guard }).run P E.w = .ok (.value v) E.w ∧ V E os d v := by
      intro x' y' hx hy he
      subst he
      simp only [aval, Option.map_eq_some_iff] at h
      obtain ⟨⟨b, r⟩, h1, h2⟩ := h
      simp at h2
      obtain ⟨⟨c1, c2, rfl⟩, rfl⟩ := h2
      obtain ⟨v, hr, hv⟩ := run_bin (P := P) ((V.op hf hx).strip c1) ((V.op hf hy).strip c2) h1 t x y E.w
      exact ⟨v, val_run (s := do eqGuard op t x y (a.eval x) (a.eval y); binOp op t (a.eval x) (a.eval y)) rfl hr, hv⟩
    split at hc
    · obtain ⟨x', y', hx, hy, hc⟩ := bind2 hc; exact binc x' y' hx hy hc.symm
    · obtain ⟨x', y', hx, hy, hc⟩ := bind2 hc; exact binc x' y' hx hy hc.symm
    · rename_i ht
      split at hc
      · obtain ⟨x', y', hx, hy, hc⟩ := bind2 hc; exact eqc .bool false x' y' ht rfl hx hy hc.symm
      · obtain ⟨x', y', hx, hy, hc⟩ := bind2 hc; exact eqc .bool true x' y' ht rfl hx hy hc.symm
      · cases hc
    · rename_i e' ht
      split at hc
      · obtain ⟨x', y', hx, hy, hc⟩ := bind2 hc; exact eqc .ptr false x' y' ⟨_, ht⟩ rfl hx hy hc.symm
      · obtain ⟨x', y', hx, hy, hc⟩ := bind2 hc; exact eqc .ptr true x' y' ⟨_, ht⟩ rfl hx hy hc.symm
      · cases hc
    · rename_i e' ht
      split at hc
      · obtain ⟨x', y', hx, hy, hc⟩ := bind2 hc; exact eqc .map false x' y' ⟨_, _, ht⟩ rfl hx hy hc.symm
      · obtain ⟨x', y', hx, hy, hc⟩ := bind2 hc; exact eqc .map true x' y' ⟨_, _, ht⟩ rfl hx hy hc.symm
      · cases hc
    · rename_i e' ht
      split at hc
      · obtain ⟨x', y', hx, hy, hc⟩ := bind2 hc; exact eqc .sl false x' y' ⟨_, ht⟩ rfl hx hy hc.symm
      · obtain ⟨x', y', hx, hy, hc⟩ := bind2 hc; exact eqc .sl true x' y' ⟨_, ht⟩ rfl hx hy hc.symm
      · cases hc
    · obtain ⟨fs, hfs, hc⟩ := Option.bind_eq_some_iff.1 hc
      split at hc
      · obtain ⟨x', y', hx, hy, hc⟩ := bind2 hc; exact eqc (.st fs) false x' y' hfs rfl hx hy hc.symm
      · obtain ⟨x', y', hx, hy, hc⟩ := bind2 hc; exact eqc (.st fs) true x' y' hfs rfl hx hy hc.symm
      · cases hc
    · cases hc
  case unOp op t x =>
    obtain ⟨y, hy, hc⟩ := Option.bind_eq_some_iff.1 hc; cases hc
    simp only [aval, Option.map_eq_some_iff] at h
    obtain ⟨r, h1, h2⟩ := h
    simp at h2; obtain ⟨h3, rfl⟩ := h2
    obtain ⟨v, h4, h5⟩ := run_un (P := P) ((V.op hf hy).strip h3) h1 E.w
    exact ⟨v, val_run (s := Op.unary op (a.eval x)) rfl h4, h5⟩
  case convert s t x =>
    split at hc
    · rename_i j k hs ht
      obtain ⟨y, hy, hc⟩ := Option.bind_eq_some_iff.1 hc; cases hc
      simp only [aval] at h
      split at h
      · rename_i k' m h1
        simp at h; obtain ⟨h2, rfl⟩ := h
        have := (V.op hf hy).strip h2
        rw [h1] at this
        refine ⟨_, val_run (s := convert s t (a.eval x)) rfl ?_, V.mkint _ _ _ _⟩
        rw [V.int this]
        exact run_cvi ⟨j, hs⟩ ht m E.w
      · cases h
    · rename_i el hs ht
      split at hc
      · rename_i hel
        obtain ⟨y, hy, hc⟩ := Option.bind_eq_some_iff.1 hc; cases hc
        simp only [aval, Option.map_eq_some_iff] at h
        obtain ⟨rs, h1, h2⟩ := h
        simp only [Prod.mk.injEq, Bool.and_eq_true] at h2
        obtain ⟨⟨h3, h4⟩, rfl⟩ := h2
        exact ⟨_, val_run (s := convert s t (a.eval x)) rfl (run_b2s R hs hel ht ((V.op hf hy).strip h3) h1 h4), V.mkstr _ _ _⟩
      · cases hc
    · split at hc
      · obtain ⟨y, hy, hc⟩ := Option.bind_eq_some_iff.1 hc; cases hc; simp [aval] at h
      · cases hc
    · cases hc
  case makeSlice t l cp =>
    split at hc
    · simp only [Option.bind_eq_bind, Option.bind_eq_some_iff] at hc
      obtain ⟨i, hi, z, hz, zx, hzx, l', hl', c', hc', hc⟩ := hc; cases hc; simp [aval] at h
    · cases hc
  case slice t x lo hi mx =>
    split at hc
    · rename_i ht
      simp only [Option.bind_eq_bind, Option.bind_eq_some_iff] at hc
      obtain ⟨x', hx, lo', hl, hi', hh, mx', hm, hc⟩ := hc; cases hc
      simp only [aval, if_true] at h
      obtain ⟨v, h1, h2⟩ := slcStr_run hf ht hx hl hh hm h
      exact ⟨v, val_run (s := Instr.sliceAt t (a.eval x) (lo.map a.eval) (hi.map a.eval) (mx.map a.eval)) rfl h1, h2⟩
    · rename_i el ht
      obtain ⟨z, hz, hc⟩ := Option.bind_eq_some_iff.1 hc
      split at hc
      · cases hc
      · rename_i hz0
        simp only [Option.bind_eq_bind, Option.bind_eq_some_iff] at hc
        obtain ⟨x', hx, lo', hl, hi', hh, mx', hm, hc⟩ := hc; cases hc
        simp only [aval, if_neg hz0] at h
        obtain ⟨v, h1, h2⟩ := slcSl_run hf ht hz hx hl hh hm h
        exact ⟨v, val_run (s := Instr.sliceAt t (a.eval x) (lo.map a.eval) (hi.map a.eval) (mx.map a.eval)) rfl h1, h2⟩
    · obtain ⟨z, hz, hc⟩ := Option.bind_eq_some_iff.1 hc
      split at hc
      · simp only [Option.bind_eq_bind, Option.bind_eq_some_iff] at hc
        obtain ⟨x', hx, hi', hh, hc⟩ := hc; cases hc
        rename_i hcond
        cases hi' with
        | none =>
          simp only [aval] at h
          exact asl_run hf rfl (by assumption) hz hcond.1 hcond.2.1 hx hcond.2.2.1 (compOO_none hh) hcond.2.2.2 h
        | some _ => simp [aval] at h
      · cases hc
    · cases hc
  case fieldAddr s x f =>
    split at hc
    · rename_i fs hs
      obtain ⟨fd, hfd, hc⟩ := Option.bind_eq_some_iff.1 hc
      obtain ⟨z, hz, hc⟩ := Option.bind_eq_some_iff.1 hc
      split at hc
      · cases hc
      · rename_i hz0
        obtain ⟨y, hy, hc⟩ := Option.bind_eq_some_iff.1 hc; cases hc
        simp only [aval] at h
        have hv := V.op hf hy
        have key : ∀ ad, a.eval x = .pointer (some ad) → (execOp a.eval { dst, op := .fieldAddr s x f, type := ty, pos, after, guard }).run P E.w = .ok (.value (.pointer (some (ad.add fd.offset)))) E.w := fun ad had =>
          val_run (s := Instr.fieldAt s (a.eval x) f) rfl (by rw [had]; exact run_fad hs hfd rfl hz hz0 ad E.w)
        split at h
        · rename_i i o h1
          simp at h; obtain ⟨h2, rfl⟩ := h
          have := hv.strip h2
          rw [h1] at this
          generalize hva : a.eval x = va at this
          cases this with
          | ptr hb0 hb => exact ⟨_, key _ hva, by rw [add_off]; exact .ptr hb0 hb⟩
        · rename_i i ex k o h1
          simp at h; obtain ⟨h2, rfl⟩ := h
          have := hv.strip h2
          rw [h1] at this
          generalize hva : a.eval x = va at this
          cases this with
          | eptr he h4 =>
            obtain ⟨ad, rfl⟩ := h4
            obtain ⟨ob, sz, rs, k1, k2, k3, k4⟩ := he
            refine ⟨_, key _ hva, .eptr ⟨ob, sz, rs, k1, k2, k3, fun k5 => ?_⟩ ⟨_, rfl⟩⟩
            obtain ⟨k6, b, g, cap, k7, k8⟩ := k4 k5
            simp at k8; subst k8
            exact ⟨k6, b, g, cap, k7, by rw [add_off, Nat.add_assoc]⟩
        · rename_i cs h1
          simp at h; obtain ⟨h2, rfl⟩ := h
          have := hv.strip h2
          rw [h1] at this
          generalize hva : a.eval x = va at this
          cases this with
          | vptr b off val hcc hvv =>
            refine ⟨_, key _ hva, ?_⟩
            rw [add_off]
            refine .vptr b (off + fd.offset) (fun j => val (fd.offset + j)) (fun j y hj => ?_) (fun j y hj => ?_)
            · rw [List.getElem?_drop] at hj
              rw [Nat.add_assoc]; exact hcc _ y hj
            · rw [List.getElem?_drop] at hj
              exact hvv _ y hj
        · cases h
    · cases hc
  case field t x f =>
    split at hc
    · rename_i fs hs
      simp only [Option.bind_eq_bind, Option.bind_eq_some_iff] at hc
      obtain ⟨fd, hfd, m, hm, ag, hag, y, hy, hc⟩ := hc; cases hc
      simp only [aval] at h
      split at h
      · rename_i ds h1
        have hh : (opv φ y).cond = true ∧ (if ag then some (D.agg ((ds.drop fd.offset).take m)) else ds[fd.offset]?) = some d := by
          cases ag
          · rw [if_neg (by simp)] at h; obtain ⟨d', k1, k2⟩ := Option.map_eq_some_iff.1 h; simp at k2; obtain ⟨k3, rfl⟩ := k2; exact ⟨k3, by simpa using k1⟩
          · simp at h; exact ⟨h.1, by simp [h.2]⟩
        have := (V.op hf hy).strip hh.1
        rw [h1] at this
        obtain ⟨v, k1, k2⟩ := run_fld (P := P) hs hfd rfl hm hag this E.w hh.2
        exact ⟨v, val_run (s := Instr.field t (a.eval x) f) rfl k1, k2⟩
      · cases h
    · cases hc
  case indexAddr t x i =>
    have idx : ∀ (y : IO) (k : Int), compO i = some y → (opv φ y).cond = true → intOf? (opv φ y).val = some k → ∃ kk, a.eval i = .int kk k := fun y k hy hc hk => intOf_val ((V.op hf hy).strip hc) hk
    split at hc
    · rename_i el ht
      simp only [Option.bind_eq_bind, Option.bind_eq_some_iff] at hc
      obtain ⟨sz, hsz, x', hx, i', hi, hc⟩ := hc; cases hc
      simp only [aval] at h
      have hv := V.op hf hx
      split at h
      · cases h
      · rename_i k hk
        have slc : ∀ (rs : List (List X)) (r : List X), (opv φ x').cond = true → (opv φ i').cond = true → 0 ≤ k → rs[k.toNat]? = some r → r.length = sz → (∃ b m cp, a.eval x = .slice b m cp ∧ VX E.w E.st (.sl rs) (.slice b m cp)) →
            ∃ v, (execOp a.eval { dst, op := .indexAddr t x i, type := ty, pos, after, guard }).run P E.w = .ok (.value v) E.w ∧ V E os (.vptr r) v := by
          intro rs r c1 c2 k0 hr hrl hvx
          obtain ⟨b, m, cp, hva, hvx⟩ := hvx
          obtain ⟨kk, hki⟩ := idx i' k hi c2 hk
          cases hvx with
          | sl _ _ _ _ sz0 val hn hcc hm hsz0 hcell hnil hsp hval =>
            have hlt := (List.getElem?_eq_some_iff.1 hr).1
            have hs0 : sz0 = sz := by rw [← hrl, hsz0 r (List.mem_of_getElem? hr)]
            subst hs0
            cases b with
            | none => have := (hnil rfl).1; omega
            | some ad =>
              refine ⟨_, val_run (s := Instr.indexAt t (a.eval x) (a.eval i)) rfl (by rw [hva, hki]; exact run_iad ht hsz ad m cp kk k k0 (by omega) E.w), ?_⟩
              rw [add_spot (hsp (by omega) ad rfl)]
              have e : ∀ (j : Nat) (y : X), r[j]? = some y → j < sz0 := fun j y hj => by rw [← hrl]; exact (List.getElem?_eq_some_iff.1 hj).1
              refine .vptr _ _ (fun j => val k.toNat j) (fun j y hj => ?_) (fun j y hj => hval _ j r y hr hj)
              obtain ⟨b', off, k1, k2, k3⟩ := hcell k.toNat j (by omega) (e j y hj)
              cases k1
              exact ⟨k2, k3⟩
        split at h
        · rename_i rs h1
          obtain ⟨r, hr, h2⟩ := Option.map_eq_some_iff.1 h
          simp at h2
          obtain ⟨⟨⟨c1, c2⟩, k0, k1⟩, rfl⟩ := h2
          have := hv.strip c1
          rw [h1] at this
          have hvx := this.xx
          refine slc rs r c1 c2 k0 hr k1 ?_
          generalize a.eval x = va at hvx
          have hv0 := hvx
          cases hv0 with
          | sl _ ad m cp sz0 val hn hcc hm hsz0 hcell hnil hsp hval => exact ⟨_, _, _, rfl, hvx⟩
        · rename_i rs h1
          obtain ⟨r, hr, h2⟩ := Option.map_eq_some_iff.1 h
          simp at h2
          obtain ⟨⟨⟨c1, c2⟩, k0, k1⟩, rfl⟩ := h2
          have := hv.strip c1
          rw [h1] at this
          refine slc rs r c1 c2 k0 hr k1 ?_
          generalize a.eval x = va at this
          cases this with
          | full m hvx => exact ⟨_, _, _, rfl, hvx⟩
        · rename_i id ext off len h1
          split at h
          · rename_i o ho
            split at h
            · rename_i sz' rs hsl
              simp at h
              obtain ⟨⟨⟨c1, c2⟩, rfl, k1, k2, k3⟩, rfl⟩ := h
              have := hv.strip c1
              rw [h1] at this
              obtain ⟨kk, hki⟩ := idx i' k hi c2 hk
              generalize hva : a.eval x = va at this
              cases this with
              | ref hr _ =>
                obtain ⟨q1, q2⟩ := hr.at ho hsl
                obtain ⟨q3, b, ad, cap, ad', cap', q4, q5, q6, q7, q8, q9, -, -⟩ := q2 k1
                subst q5
                obtain ⟨p, hp, hok⟩ := R.at ho
                rw [hp] at q4; cases q4
                obtain ⟨w1, w2, w3, w4, w5, w8⟩ := hok.cap hsl rfl
                cases ad with
                | none => have := (w5 rfl).1; omega
                | some ad =>
                  have q9 := q9 (by omega) ad rfl
                  subst q9
                  refine ⟨_, val_run (s := Instr.indexAt t (a.eval x) (a.eval i)) rfl (by rw [hva, hki]; exact run_iad ht hsz _ len cap' kk k k2 k3 E.w), .eptr ⟨o, sz', rs, ho, hsl, ?_⟩ ⟨_, rfl⟩⟩
                  refine ⟨q1, fun _ => ⟨by omega, b, ad.block, cap, ?_, ?_⟩⟩
                  · rw [hp]; rw [← w8 ad rfl]
                  · rw [add_off]
                    have h00 : ad.off = 0 := by rw [w8 ad rfl]
                    rw [h00, Nat.add_mul]; simp
            · cases h
          · cases h
        · rename_i id off len h1
          simp only [Option.some.injEq, Prod.mk.injEq, Bool.and_eq_true, decide_eq_true_eq] at h
          obtain ⟨⟨⟨c1, c2⟩, k1, k2, k3⟩, rfl⟩ := h
          have := hv.strip c1
          rw [h1] at this
          obtain ⟨kk, hki⟩ := idx i' k hi c2 hk
          generalize hva : a.eval x = va at this
          cases this with
          | bref ho hb hm =>
            refine ⟨_, val_run (s := Instr.indexAt t (a.eval x) (a.eval i)) rfl (by rw [hva, hki]; exact run_iad ht hsz _ len len kk k k2 k3 E.w), ?_⟩
            rw [add_off, k1, Nat.mul_one]
            exact .ptr ho hb
        · cases h
    · rename_i m el ht
      simp only [Option.bind_eq_bind, Option.bind_eq_some_iff] at hc
      obtain ⟨sz, hsz, x', hx, i', hi, hc⟩ := hc; cases hc
      simp only [aval] at h
      have hv := V.op hf hx
      split at h
      · cases h
      · rename_i k hk
        split at h
        · rename_i id o h1
          simp at h
          obtain ⟨⟨⟨c1, c2⟩, k0, k1⟩, rfl⟩ := h
          have := hv.strip c1
          rw [h1] at this
          obtain ⟨kk, hki⟩ := idx i' k hi c2 hk
          generalize hva : a.eval x = va at this
          cases this with
          | ptr hb0 hb =>
            refine ⟨_, val_run (s := Instr.indexAt t (a.eval x) (a.eval i)) rfl (by rw [hva, hki]; exact run_iada ht hsz _ kk k k0 k1 E.w), ?_⟩
            rw [add_off]; exact .ptr hb0 hb
        · rename_i cs h1
          simp at h
          obtain ⟨⟨⟨c1, c2⟩, k0, k1⟩, rfl⟩ := h
          have := hv.strip c1
          rw [h1] at this
          obtain ⟨kk, hki⟩ := idx i' k hi c2 hk
          generalize hva : a.eval x = va at this
          cases this with
          | vptr b off val hcc hvv =>
            refine ⟨_, val_run (s := Instr.indexAt t (a.eval x) (a.eval i)) rfl (by rw [hva, hki]; exact run_iada ht hsz _ kk k k0 k1 E.w), ?_⟩
            rw [add_off]
            refine .vptr b _ (fun j => val (k.toNat * sz + j)) (fun j y hj => ?_) (fun j y hj => ?_)
            · rw [List.getElem?_drop] at hj
              rw [Nat.add_assoc]; exact hcc _ y hj
            · rw [List.getElem?_drop] at hj
              exact hvv _ y hj
        · rename_i id ext j o h1
          simp at h
          obtain ⟨⟨⟨c1, c2⟩, k0, k1⟩, rfl⟩ := h
          have := hv.strip c1
          rw [h1] at this
          obtain ⟨kk, hki⟩ := idx i' k hi c2 hk
          generalize hva : a.eval x = va at this
          cases this with
          | eptr hr h4 =>
            obtain ⟨o', sz', rs, q1, q2, q3, q4⟩ := hr
            obtain ⟨ad, rfl⟩ := h4
            refine ⟨_, val_run (s := Instr.indexAt t (a.eval x) (a.eval i)) rfl (by rw [hva, hki]; exact run_iada ht hsz _ kk k k0 k1 E.w), .eptr ⟨o', sz', rs, q1, q2, q3, fun hl => ?_⟩ ⟨_, rfl⟩⟩
            obtain ⟨w1, b, g, cap, w2, w3⟩ := q4 hl
            simp only [Value.pointer.injEq, Option.some.injEq] at w3
            subst w3
            exact ⟨w1, b, g, cap, w2, by rw [add_off, Nat.add_assoc]⟩
        · cases h
    · cases hc
  case index t x i =>
    split at hc
    · rename_i ht
      simp only [Option.bind_eq_bind, Option.bind_eq_some_iff] at hc
      obtain ⟨x', hx, i', hi, hc⟩ := hc; cases hc
      simp only [aval] at h
      split at h
      · rename_i s kk k h1 h2
        simp at h
        obtain ⟨⟨⟨c1, c2⟩, k0, k1⟩, rfl⟩ := h
        have v1 := (V.op hf hx).strip c1
        have v2 := (V.op hf hi).strip c2
        rw [h1] at v1; rw [h2] at v2
        refine ⟨_, val_run (s := Instr.index t (a.eval x) (a.eval i)) rfl (by rw [V.str v1, V.int v2]; exact run_idx ht s kk k k0 k1 E.w), ?_⟩
        simp only [List.getD_eq_getElem?_getD]
        exact V.mkint _ _ _ _
      · cases h
    · rename_i m el ht
      simp only [Option.bind_eq_bind, Option.bind_eq_some_iff] at hc
      obtain ⟨sz, hsz, ag, hag, x', hx, i', hi, hc⟩ := hc; cases hc
      simp only [aval] at h
      split at h
      · rename_i ds kk k h1 h2
        have hh : ((opv φ x').cond = true ∧ (opv φ i').cond = true) ∧ (0 ≤ k ∧ k < m) ∧ (if ag then some (D.agg ((ds.drop (k.toNat * sz)).take sz)) else ds[k.toNat * sz]?) = some d := by
          cases ag
          · rw [if_neg (by simp)] at h; obtain ⟨d', k1, k2⟩ := Option.map_eq_some_iff.1 h; simp at k2; obtain ⟨⟨k3, k4⟩, rfl⟩ := k2; exact ⟨k3, k4, by simpa using k1⟩
          · simp at h; exact ⟨h.1.1, h.1.2, by simp [h.2]⟩
        obtain ⟨⟨c1, c2⟩, ⟨k0, k1⟩, h3⟩ := hh
        have v1 := (V.op hf hx).strip c1
        have v2 := (V.op hf hi).strip c2
        rw [h1] at v1; rw [h2] at v2
        obtain ⟨v, q1, q2⟩ := run_idxa (P := P) ht hsz hag v1 kk k k0 k1 E.w h3
        exact ⟨v, val_run (s := Instr.index t (a.eval x) (a.eval i)) rfl (by rw [V.int v2]; exact q1), q2⟩
      · cases h
    · cases hc
  case extract x i =>
    obtain ⟨y, hy, hc⟩ := Option.bind_eq_some_iff.1 hc; cases hc
    simp only [aval] at h
    split at h
    · rename_i ds h1
      obtain ⟨d', hd, h2⟩ := Option.map_eq_some_iff.1 h
      simp at h2; obtain ⟨h3, rfl⟩ := h2
      have := (V.op hf hy).strip h3
      rw [h1] at this
      generalize hva : a.eval x = va at this
      cases this with
      | tup vs hl hvv =>
        have hlt := (List.getElem?_eq_some_iff.1 hd).1
        have hvs : vs[i]? = some vs[i] := Array.getElem?_eq_getElem (by omega)
        exact ⟨vs[i], val_run (s := Instr.extract (a.eval x) i) rfl (by rw [hva]; simp [Instr.extract, hvs]), hvv i d' _ hd hvs⟩
    · cases h
  case makeFunc fn first caps =>
    cases fn <;> simp only at hc <;> (try cases hc)
    rename_i f
    split at hc
    · rename_i h0
      obtain ⟨ys, hys, hc⟩ := Option.bind_eq_some_iff.1 hc; cases hc
      simp [aval] at h; subst h
      obtain ⟨k1, k2⟩ := listOp hf hys
      have e0 : first = #[] := Array.eq_empty_of_size_eq_zero h0
      subst e0
      refine ⟨_, val_run (s := Instr.makeFunc (.func f) ((#[] : Array Operand).map a.eval) (caps.map a.eval)) rfl (by simp [Instr.makeFunc]; rfl), .fn _ (by simp; rw [← k1]; simp) (fun j d v hd hv => ?_)⟩
      rw [List.getElem?_map] at hd
      obtain ⟨y, hy, rfl⟩ := Option.map_eq_some_iff.1 hd
      rw [Array.getElem?_map] at hv
      obtain ⟨x, hx, rfl⟩ := Option.map_eq_some_iff.1 hv
      exact k2 j x y (by simpa using hx) hy
    · cases hc
  case makeMap t r =>
    split at hc
    · obtain ⟨dk, hd, hc⟩ := Option.bind_eq_some_iff.1 hc
      obtain ⟨ag, ha, rfl⟩ := Option.map_eq_some_iff.1 hc
      simp [aval] at h
    · cases hc
  case mapUpdate t x y u =>
    split at hc
    · obtain ⟨dk, hd, hc⟩ := Option.bind_eq_some_iff.1 hc
      simp only [Option.bind_eq_bind, Option.bind_eq_some_iff] at hc
      obtain ⟨x', hx, y', hy, u', hu, hc⟩ := hc
      cases hc; simp [aval] at h
    · cases hc
  case mapEntry t x y =>
    split at hc
    · obtain ⟨dk, hd, hc⟩ := Option.bind_eq_some_iff.1 hc
      obtain ⟨i, hi, hc⟩ := Option.bind_eq_some_iff.1 hc
      obtain ⟨z, hz, hc⟩ := Option.bind_eq_some_iff.1 hc
      obtain ⟨x', y', hx, hy, hc⟩ := bind2 hc
      subst hc; simp [aval] at h
    · cases hc
  case entryStore t x y u =>
    simp only [Option.bind_eq_bind, Option.bind_eq_some_iff] at hc
    obtain ⟨x', hx, y', hy, u', hu, hc⟩ := hc
    cases hc; simp [aval] at h
  case range t x =>
    split at hc
    · obtain ⟨y, hy, hc⟩ := Option.bind_eq_some_iff.1 hc; cases hc; simp [aval] at h
    · obtain ⟨y, hy, hc⟩ := Option.bind_eq_some_iff.1 hc; cases hc; simp [aval] at h
    · cases hc
  case next x st =>
    obtain ⟨y, hy, hc⟩ := Option.bind_eq_some_iff.1 hc; cases hc; simp [aval] at h
  case entry x =>
    obtain ⟨y, hy, hc⟩ := Option.bind_eq_some_iff.1 hc; cases hc
    simp only [aval] at h
    split at h
    · rename_i mid it hv
      split at h
      · rename_i dk ag l it' Rm q ho
        split at h
        · rename_i hit
          subst hit
          simp only [Option.some.injEq, Prod.mk.injEq] at h
          obtain ⟨c1, rfl⟩ := h
          have v1 := (V.op hf hy).strip c1
          rw [hv] at v1
          generalize hva : a.eval x = va at v1
          cases v1 with
          | iref ho' hk' hb =>
            obtain ⟨p, hp, hok⟩ := R.at ho
            obtain ⟨_, ib, cu, es, clk, since, seen, c0, o, k1, k2, k3, k4, k5, k6, k7, k8, k9, k10, k11⟩ := hok
            rw [k4] at hb; cases hb
            obtain ⟨rfl, seen', e, rfl, g3, g4⟩ := k11 q rfl
            refine ⟨_, val_run (s := Instr.entry (a.eval x)) rfl (by rw [hva]; exact run_entry_at E.w _ p.1 since seen' es _ e k5 k6 g3 k9), V.tupP ?_ (V.cell g4.2)⟩
            rw [g4.1]
            exact V.keyD E os dk q.1
        · cases h
      · cases h
    · cases h
  case lookup t x y ok =>
    split at hc
    · rename_i key elem hT
      obtain ⟨dk, hd, hc⟩ := Option.bind_eq_some_iff.1 hc
      obtain ⟨i, hi, hc⟩ := Option.bind_eq_some_iff.1 hc
      obtain ⟨z, hz, hc⟩ := Option.bind_eq_some_iff.1 hc
      obtain ⟨x', y', hx, hy, hc⟩ := bind2 hc
      subst hc
      simp only [aval] at h
      split at h
      · rename_i id hv
        split at h
        · rename_i dk' ag l ho
          split at h
          · rename_i hdk
            subst hdk
            obtain ⟨key', hk, h⟩ := Option.map_eq_some_iff.1 h
            simp only [Prod.mk.injEq, Bool.and_eq_true] at h
            obtain ⟨⟨c1, c2⟩, hd'⟩ := h
            have v1 := (V.op hf hx).strip c1
            rw [hv] at v1
            have v2 := (V.op hf hy).strip c2
            generalize hva : a.eval x = va at v1
            cases v1 with
            | mref ho' hk' hb =>
              obtain ⟨o, ho1, ho2⟩ := Option.bind_eq_some_iff.1 ho
              obtain ⟨p, hp, hok0⟩ := R.at ho1
              have hok := hok0.map ho2
              rw [hp] at hb; cases hb
              have hz' : (zeroValue elem).run P E.w = .ok z E.w := by simp [zeroValue, run_info hi, hz]
              rcases MapO.get (P := P) hok hk v2 hT (keyK_ok hd).1 hz' ok with ⟨v, xs, g1, g2, g3⟩ | ⟨g1, g3⟩
              · refine ⟨_, val_run (s := Instr.lookup t (a.eval x) (a.eval y) ok) rfl (by rw [hva]; exact g3), ?_⟩
                rw [g1] at hd'
                subst hd'
                cases ok with
                | true => exact V.tup2 (V.cell g2) true
                | false => exact V.cell g2
              · refine ⟨_, val_run (s := Instr.lookup t (a.eval x) (a.eval y) ok) rfl (by rw [hva]; exact g3), ?_⟩
                rw [g1] at hd'
                subst hd'
                cases ok with
                | true => exact V.tup2 (V.const E os z) false
                | false => exact V.const E os z
          · cases h
        · cases h
      · cases h
    · cases hc
  case call cl =>
    obtain ⟨callee, args, ats⟩ := cl
    unfold compCall at hc
    simp only at hc
    have bi : ∀ (b : Builtin) (s : Sem Value) (v : Value) (k : Bool → Bool), (∀ consts, builtin b ats ty consts (args.map a.eval) = (do pure (Next.value (← s)))) → callee = .builtin b → s.run P E.w = .ok v E.w →
        (execOp a.eval { dst, op := .call ⟨callee, args, ats⟩, type := ty, pos, after, guard }).run P E.w = .ok (.value v) E.w := by
      intro b s v _ hb he hr
      subst he
      unfold execOp
      simp only [resolve, Sem.run_bind, Sem.run_pure, Result.andThen_ok, invoke, hb, hr]
    split at hc
    · simp only [Option.bind_eq_bind, Option.bind_eq_some_iff] at hc
      obtain ⟨f', hf', ys, hys, hc⟩ := hc
      cases hc
      cases hne
    · split at hc
      · rename_i x t h1 h2
        have h1 : args = #[x] := by apply Array.toList_inj.1; simpa using h1
        have h2 : ats = #[t] := by apply Array.toList_inj.1; simpa using h2
        subst h1; subst h2
        have fin : ∀ (st : Bool), (if st then P.underlying t = some .string else ∃ e, P.underlying t = some (.slice e)) → ∀ y, compO x = some y → e = .len st y → ∃ v, (execOp a.eval { dst, op := .call ⟨.builtin .len, #[x], #[t]⟩, type := ty, pos, after, guard }).run P E.w = .ok (.value v) E.w ∧ V E os d v := by
          intro st ht y hy he
          subst he
          simp only [aval, Option.map_eq_some_iff] at h
          obtain ⟨m, h1, h2⟩ := h
          simp at h2
          obtain ⟨⟨c1, c2⟩, rfl⟩ := h2
          have := len_run (P := P) ht ((V.op hf hy).strip c1) c2 h1 ty E.w
          exact ⟨_, bi .len (Builtin.len_ #[t] ty #[a.eval x]) _ id (fun _ => by simp [builtin]) rfl this, V.mkint _ _ _ _⟩
        split at hc
        · rename_i ht
          obtain ⟨y, hy, hc⟩ := Option.bind_eq_some_iff.1 hc
          exact fin true ht y hy (by cases hc; rfl)
        · rename_i el ht
          obtain ⟨y, hy, hc⟩ := Option.bind_eq_some_iff.1 hc
          exact fin false ⟨el, ht⟩ y hy (by cases hc; rfl)
        · rename_i mk me ht
          obtain ⟨y, hy, hc⟩ := Option.bind_eq_some_iff.1 hc
          cases hc
          simp only [aval] at h
          split at h
          · rename_i oid hv
            split at h
            · rename_i dk ag l ho
              simp only [Option.some.injEq, Prod.mk.injEq] at h
              obtain ⟨c1, rfl⟩ := h
              have v1 := (V.op hf hy).strip c1
              rw [hv] at v1
              generalize hva : a.eval x = va at v1
              cases v1 with
              | mref ho' hk' hb =>
                obtain ⟨o, ho1, ho2⟩ := Option.bind_eq_some_iff.1 ho
                obtain ⟨p, hp, hok0⟩ := R.at ho1
                have hok := hok0.map ho2
                rw [hp] at hb; cases hb
                exact ⟨_, bi .len (Builtin.len_ #[t] ty #[a.eval x]) _ id (fun _ => by simp [builtin]) rfl (by rw [hva]; exact run_len_map hok ht ty), V.mkint _ _ _ _⟩
            · cases h
          · rename_i hv
            simp only [Option.some.injEq, Prod.mk.injEq] at h
            obtain ⟨c1, rfl⟩ := h
            have v1 := (V.op hf hy).strip c1
            rw [hv] at v1
            exact ⟨_, bi .len (Builtin.len_ #[t] ty #[a.eval x]) _ id (fun _ => by simp [builtin]) rfl (by rw [v1.mnil_inv]; exact run_len_nil ht ty E.w), V.mkint _ _ _ _⟩
          · cases h
        · cases hc
      · cases hc
    · split at hc
      · split at hc
        · obtain ⟨i, hi, hc⟩ := Option.bind_eq_some_iff.1 hc
          obtain ⟨z, hz, hc⟩ := Option.bind_eq_some_iff.1 hc
          obtain ⟨zx, hzx, hc⟩ := Option.bind_eq_some_iff.1 hc
          obtain ⟨x', y', hx, hy, hc⟩ := bind2 hc
          subst hc; simp [aval] at h
        · obtain ⟨i, hi, hc⟩ := Option.bind_eq_some_iff.1 hc
          obtain ⟨z, hz, hc⟩ := Option.bind_eq_some_iff.1 hc
          split at hc
          · obtain ⟨x', y', hx, hy, hc⟩ := bind2 hc
            subst hc; simp [aval] at h
          · cases hc
        · cases hc
      · cases hc
    · split at hc
      · split at hc
        · simp only [Option.bind_eq_bind, Option.bind_eq_some_iff] at hc
          obtain ⟨z, hz, x', hx, y', hy, hc⟩ := hc
          cases hc; simp [aval] at h
        · cases hc
      · cases hc
    · split at hc
      · split at hc
        · obtain ⟨dk, hdk, hc⟩ := Option.bind_eq_some_iff.1 hc
          obtain ⟨x', y', hx, hy, hc⟩ := bind2 hc
          subst hc; simp [aval] at h
        · cases hc
      · cases hc
    · split at hc
      · split at hc
        · obtain ⟨x', hx, hc⟩ := Option.bind_eq_some_iff.1 hc; cases hc; simp [aval] at h
        · cases hc
      · cases hc
    all_goals first
      | (cases hc; done)
      | (split at hc
         · rename_i x y h1
           have h1 : args = #[x, y] := by apply Array.toList_inj.1; simpa using h1
           subst h1
           obtain ⟨x', y', hx, hy, hc⟩ := bind2 hc
           subst hc
           simp only [aval] at h
           split at h
           · rename_i k m k' m' q1 q2
             simp at h
             obtain ⟨⟨c1, c2⟩, rfl⟩ := h
             have v1 := (V.op hf hx).strip c1
             have v2 := (V.op hf hy).strip c2
             rw [q1] at v1; rw [q2] at v2
             have r1 := run_mnx (P := P) (t := ty) false k k' m m' ats E.w
             have r2 := run_mnx (P := P) (t := ty) true k k' m m' ats E.w
             simp only [Bool.false_eq_true, if_false, if_true] at r1 r2
             rw [← V.int v1, ← V.int v2] at r1 r2
             first
               | exact ⟨_, bi .min (Builtin.min_ ats ty #[a.eval x, a.eval y]) _ id (fun _ => by simp [builtin]) rfl r1, V.mkint _ _ _ _⟩
               | exact ⟨_, bi .max (Builtin.max_ ats ty #[a.eval x, a.eval y]) _ id (fun _ => by simp [builtin]) rfl r2, V.mkint _ _ _ _⟩
           · cases h
         · cases hc)

end
end Go.Ab
end
section
/- Operations that make objects or turn them. -/
namespace Go.Ab
open Go.RowKit Go.Bo

/-- A value as a plain one: a row of the call's own no longer turns from here on. -/
def freezeD (os : List Ob) : D → Option (X × List Ob)
  | .x y => some (y, os)
  | .full rs => some (.sl rs, os)
  | .ref id ext off len => match os[id]? with
    | some (.rows _ _ sz rs) => if rs.length = ext then some (.sl ((rs.drop off).take len), os.set id (.frz sz rs)) else none
    | some (.frz _ rs) => if rs.length = ext then some (.sl ((rs.drop off).take len), os) else none
    | _ => none
  | _ => none
def freezeL : List Ob → List D → Option (List X × List Ob)
  | os, [] => some ([], os)
  | os, d :: ds => (freezeD os d).bind fun p => (freezeL p.2 ds).map fun q => (p.1 :: q.1, q.2)

/-- The rows that a literal's parts are. -/
def partsD (φ : List (Nat × D)) (sz : Nat) : List Ob → List IO → Option (Bool × List (List X) × List Ob)
  | os, [] => some (true, [], os)
  | os, x :: xs => (opv φ x).val.cells?.bind fun cs => (freezeL os cs).bind fun p => if p.1.length = sz then
      (partsD φ sz p.2 xs).map fun q => ((opv φ x).cond && q.1, p.1 :: q.2.1, q.2.2) else none

/-- What is copied: a row, or a text's bytes. -/
def srcOf (os : List Ob) (sz : Nat) : D → Option (List (List X))
  | .x (.str s) => if sz = 1 then some (s.map byteRow) else none
  | d => rowsOf os d

def aact (φ : List (Nat × D)) (os : List Ob) : IE → Option (Bool × D × List Ob)
  | .box x => (opv φ x).val.cells?.map fun cs => ((opv φ x).cond, .ptr os.length 0, os ++ [.box cs])
  | .sto n p v => (opv φ v).val.cells?.bind fun cs => if cs.length = n then
      match (opv φ p).val with
      | .ptr id o => match os[id]? with
        | some (.box ds) => if o + n ≤ ds.length then some ((opv φ p).cond && (opv φ v).cond, .und, os.set id (.box (ds.take o ++ cs ++ ds.drop (o + n)))) else none
        | _ => none
      | .eptr id ext i o => (freezeL os cs).bind fun q => match q.2[id]? with
        | some (.rows fz e sz rs) => (rs[i]?).map fun r =>
            ((opv φ p).cond && (opv φ v).cond && (decide (rs.length = ext) && decide (o + n ≤ sz)), .und, q.2.set id (.rows fz e sz (rs.set i (r.take o ++ q.1 ++ r.drop (o + n)))))
        | _ => none
      | _ => none
    else none
  | .bsl e sz n parts => if n = parts.length then (partsD φ sz os parts).map fun q => (q.1, .ref q.2.2.length n 0 n, q.2.2 ++ [.rows false e sz q.2.1]) else none
  | .mks e sz by_ z l c => match intOf? (opv φ l).val, intOf? (opv φ c).val with
    | some l', some c' => if z.length = sz ∧ by_ ≤ 128 then some ((opv φ l).cond && (opv φ c).cond && (decide (0 ≤ l') && (decide (l' ≤ c') && decide (c' ≤ 1099511627776))), .ref os.length l'.toNat 0 l'.toNat, os ++ [.rows false e sz (List.replicate l'.toNat z)]) else none
    | _, _ => none
  | .app e sz by_ x y => if 0 < sz ∧ by_ ≤ 128 then (rowsOf os (opv φ y).val).bind fun src => match (opv φ x).val with
      | .x .nils => some ((opv φ x).cond && (opv φ y).cond && (decide (src.length ≤ 1099511627776) && src.all fun r => decide (r.length = sz)), .ref os.length src.length 0 src.length, os ++ [.rows false e sz src])
      | .full rs0 => if src.length = 0 then some ((opv φ x).cond && (opv φ y).cond, .full rs0, os) else
          some ((opv φ x).cond && (opv φ y).cond && (decide (rs0.length + src.length ≤ 1099511627776) && ((rs0.all fun r => decide (r.length = sz)) && src.all fun r => decide (r.length = sz))), .ref os.length (rs0.length + src.length) 0 (rs0.length + src.length), os ++ [.rows false e sz (rs0 ++ src)])
      | .ref id ext off len => match os[id]? with
        | some (.rows false e' sz' rs) => if e' = e ∧ sz' = sz ∧ off = 0 then
            some ((opv φ x).cond && (opv φ y).cond && (decide (rs.length = ext) && (decide (len = ext) && (decide (rs.length + src.length ≤ 1099511627776) && src.all fun r => decide (r.length = sz)))), .ref id (ext + src.length) 0 (ext + src.length), os.set id (.rows false e sz (rs ++ src))) else none
        | _ => none
      | _ => none
    else none
  | .apz e sz by_ z x y => match intOf? (opv φ y).val with
    | some (m : Int) => if 0 < sz ∧ by_ ≤ 128 ∧ z.length = sz then match (opv φ x).val with
        | .ref id ext off len => match os[id]? with
          | some (.rows false e' sz' rs) => if e' = e ∧ sz' = sz ∧ off = 0 then
              some ((opv φ x).cond && (opv φ y).cond && (decide (rs.length = ext) && (decide (len = ext) && (decide (0 < m) && decide (rs.length + m.toNat ≤ 1099511627776)))), .ref id (ext + m.toNat) 0 (ext + m.toNat), os.set id (.rows false e sz (rs ++ List.replicate m.toNat z))) else none
          | _ => none
        | _ => none
      else none
    | none => none
  | .cpy sz x y => (srcOf os sz (opv φ y).val).bind fun src => match (opv φ x).val with
      | .ref id ext off len => match os[id]? with
        | some (.rows fz e sz' rs) => if sz' = sz then
            some ((opv φ x).cond && (opv φ y).cond && (decide (rs.length = ext) && src.all fun r => decide (r.length = sz)), .x (.int .i64 (min src.length len : Nat)), os.set id (.rows fz e sz (rs.take off ++ src.take (min src.length len) ++ rs.drop (off + min src.length len)))) else none
        | _ => none
      | _ => none
  | .abx t x => (opv φ x).val.cells?.bind fun cs => (freezeL os cs).map fun q => ((opv φ x).cond, .eptr q.2.length 1 0 0, q.2 ++ [.rows false t q.1.length [q.1]])
  | .mkm dk ag => some (true, .mref os.length, os ++ [.mpo dk ag []])
  | .mup dk x k v => (opv φ v).val.cells?.bind fun cs => match (opv φ x).val with
    | .mref id => match (os[id]?).bind Ob.upd? with
      | some (dk', ag, l) => if dk' = dk ∧ agD (opv φ v).val = ag then (keyOf dk (opv φ k).val).map fun key =>
          ((opv φ x).cond && ((opv φ k).cond && (opv φ v).cond), .und, os.set id (.mpo dk ag (msetX l key cs))) else none
      | none => none
    | _ => none
  | .mdl dk x k => match (opv φ x).val with
    | .mref id => match (os[id]?).bind Ob.upd? with
      | some (dk', ag, l) => if dk' = dk then (keyOf dk (opv φ k).val).map fun key => ((opv φ x).cond && (opv φ k).cond, .tup [], os.set id (.mpo dk ag (mdelX l key))) else none
      | none => none
    | _ => none
  | .men dk z x k => z.cells?.bind fun zs => match (opv φ x).val with
    | .mref id => match (os[id]?).bind Ob.upd? with
      | some (dk', ag, l) => if dk' = dk ∧ agD z = ag then (keyOf dk (opv φ k).val).map fun key =>
          ((opv φ x).cond && (opv φ k).cond, .tup [cellD ag ((mgetX l key).getD zs), .stk id os.length], os.set id (.mpn dk ag (msetX l key ((mgetX l key).getD zs)) key os.length) ++ [.stp]) else none
      | none => none
    | _ => none
  | .est x s v => (opv φ v).val.cells?.bind fun cs => match (opv φ x).val, (opv φ s).val with
    | .mref id, .stk id' sid => match os[id]? with
      | some (.mpn dk ag l key sid') => if id' = id ∧ sid' = sid ∧ agD (opv φ v).val = ag then
          some ((opv φ x).cond && ((opv φ s).cond && (opv φ v).cond), .und, os.set id (.mpo dk ag (msetX l key cs))) else none
      | _ => none
    | _, _ => none
  | .mcl x => match (opv φ x).val with
    | .mref id => match (os[id]?).bind Ob.upd? with
      | some (dk, ag, _) => some ((opv φ x).cond, .tup [], os.set id (.mpo dk ag []))
      | none => none
    | .mnil => some ((opv φ x).cond, .tup [], os)
    | _ => none
  | .rgm x => match (opv φ x).val with
    | .mref id => match (os[id]?).bind Ob.upd? with
      | some (dk, ag, l) => some ((opv φ x).cond, .iref id os.length, os.set id (.mit dk ag l os.length l none) ++ [.itr])
      | none => none
    | .mnil => some ((opv φ x).cond, .iref os.length os.length, os ++ [.nit])
    | _ => none
  | .rgs x => match (opv φ x).val with
    | .x (.str s) => some ((opv φ x).cond, .iref os.length os.length, os ++ [.sit s 0])
    | _ => none
  | .asl n x hi => match (opv φ x).val with
    | .eptr id ext i 0 => match os[id]? with
      | some (.rows _ _ sz rs) => if sz = n then (rs[i]?).bind fun r => match hi with
          | none => some ((opv φ x).cond && decide (rs.length = ext), .x (.sl (r.map fun y => [y])), os.set id (.frz sz rs))
          | some h => (intOf? (opv φ h).val).map fun (m : Int) => ((opv φ x).cond && ((opv φ h).cond && (decide (0 ≤ m) && (decide (m ≤ n) && decide (rs.length = ext)))), .x (.sl ((r.take m.toNat).map fun y => [y])), os.set id (.frz sz rs))
        else none
      | _ => none
    | _ => none
  | .s2b e x => match (opv φ x).val with
    | .x (.str s) => some ((opv φ x).cond && decide (s.length ≤ 1099511627776), .ref os.length s.length 0 s.length, os ++ [.rows true e 1 (s.map byteRow)])
    | _ => none
  | _ => none

section
variable {P : Program} {E : Env} {os : List Ob} {c : Ctx} {n : Nat} {φ : List (Nat × D)} {a : Act}


theorem freezeD_ok (R : Rel c E os) {d : D} {v : Value} (hv : V E os d v) {x : X} {os' : List Ob} (h : freezeD os d = some (x, os')) :
    ∃ st', Rel c ⟨E.w, st', E.ob⟩ os' ∧ Evo E os ⟨E.w, st', E.ob⟩ os' ∧ VX E.w st' x v := by
  have same : ∀ {y}, V E os d v → VX E.w E.st y v → os' = os → x = y → ∃ st', Rel c ⟨E.w, st', E.ob⟩ os' ∧ Evo E os ⟨E.w, st', E.ob⟩ os' ∧ VX E.w st' x v := by
    rintro y _ h1 rfl rfl
    exact ⟨E.st, R, Evo.refl _ _, h1⟩
  have frz : ∀ (E' : Env) (os1 : List Ob) (id ext off len sz : Nat) (rs : List (List X)), Rel c E' os1 → V E' os1 (.ref id ext off len) v → os1[id]? = some (.frz sz rs) → rs.length = ext → VX E'.w E'.st (.sl ((rs.drop off).take len)) v := by
    intro E' os1 id ext off len sz rs R' hv' ho hl
    cases hv' with
    | ref hr _ =>
      obtain ⟨h1, h2⟩ := hr.at ho rfl
      obtain ⟨h3, b, ad, cap, a', cap', h4, h5, h6, h7, h8, h9, h10, h11⟩ := h2 hl
      obtain ⟨p, hp, hok⟩ := R'.at ho
      rw [hp] at h4; cases h4
      subst h5
      have hok' : VX E'.w E'.st (.sl rs) (.slice ad ext cap) := hok.1
      obtain ⟨w1, w2, w3, w4, w5, w6⟩ := OK.cap (os := os1) (o := .frz sz rs) hok rfl rfl
      exact hok'.part w4 off len (by omega) a' cap' h6 h7 h9 h10 (fun _ => h11)
  unfold freezeD at h
  split at h
  · cases h; exact same hv hv.xx rfl rfl
  · cases h
    cases hv with
    | full m hx => exact same (.full m hx) hx rfl rfl
  · rename_i id ext off len
    split at h
    · rename_i fz e sz rs ho
      split at h
      · rename_i hl
        cases h
        obtain ⟨p, hp, hok⟩ := R.at ho
        obtain ⟨R', ev⟩ := R.freeze ho hp
        have hlt := (List.getElem?_eq_some_iff.1 ho).1
        exact ⟨_, R', ev, frz _ _ id ext off len sz rs R' (hv.mono ev) (by simp [hlt]) hl⟩
      · cases h
    · rename_i sz rs ho
      split at h
      · rename_i hl
        cases h
        exact ⟨E.st, R, Evo.refl _ _, frz _ _ id ext off len sz rs R hv ho hl⟩
      · cases h
    · cases h
  · cases h

theorem freezeL_ok : ∀ {E : Env} {os : List Ob} {ds : List D} {vs : List Value} {xs : List X} {os' : List Ob}, Rel c E os → (∀ (j : Nat) (d : D) (v : Value), ds[j]? = some d → vs[j]? = some v → V E os d v) → ds.length = vs.length → freezeL os ds = some (xs, os') →
    ∃ st', Rel c ⟨E.w, st', E.ob⟩ os' ∧ Evo E os ⟨E.w, st', E.ob⟩ os' ∧ xs.length = vs.length ∧ ∀ (j : Nat) (x : X) (v : Value), xs[j]? = some x → vs[j]? = some v → VX E.w st' x v
  | E, os, [], vs, xs, os', R, hv, hl, h => by
    cases h
    exact ⟨E.st, R, Evo.refl _ _, hl, fun j x v hx => by simp at hx⟩
  | E, os, d :: ds, vs, xs, os', R, hv, hl, h => by
    cases vs with
    | nil => simp at hl
    | cons v vs =>
    simp only [freezeL, Option.bind_eq_some_iff, Option.map_eq_some_iff] at h
    obtain ⟨⟨x, os1⟩, h1, ⟨ys, os2⟩, h2, h3⟩ := h
    cases h3
    obtain ⟨st1, R1, e1, k1⟩ := freezeD_ok R (hv 0 d v rfl rfl) h1
    obtain ⟨st2, R2, e2, k2, k3⟩ := freezeL_ok (E := ⟨E.w, st1, E.ob⟩) R1 (fun j d' v' hd hv' => (hv (j + 1) d' v' hd hv').mono e1) (by simpa using hl) h2
    refine ⟨st2, R2, e1.trans e2, by simp [k2], fun j y u hy hu => ?_⟩
    cases j with
    | zero => simp at hy hu; subst hy; subst hu; exact k1.mono (fun b o hb => ⟨(e2.st b o hb).1, rfl⟩)
    | succ j => exact k3 j y u (by simpa using hy) (by simpa using hu)

theorem partsD_ok {sz : Nat} : ∀ {E : Env} {os : List Ob} {xs : List Operand} {ys : List IO} {rows : List (List X)} {os' : List Ob}, Rel c E os → Fr n E os φ a → xs.mapM compO = some ys → partsD φ sz os ys = some (true, rows, os') →
    ∃ st', Rel c ⟨E.w, st', E.ob⟩ os' ∧ Evo E os ⟨E.w, st', E.ob⟩ os' ∧ rows.length = xs.length ∧ (∀ r ∈ rows, r.length = sz) ∧ (∀ x ∈ xs, (a.eval x).cells.size = sz ∧ ∀ u ∈ (a.eval x).cells.toList, u.oneCell' = true) ∧
      ∀ (i : Nat) (r : List X) (x : Operand) (j : Nat) (y : X) (v : Value), rows[i]? = some r → xs[i]? = some x → r[j]? = some y → (a.eval x).cells[j]? = some v → VX E.w st' y v
  | E, os, [], ys, rows, os', R, hf, hm, h => by
    simp at hm; subst hm
    cases h
    exact ⟨E.st, R, Evo.refl _ _, rfl, fun r hr => (by cases hr), fun x hx => (by cases hx), fun i r x j y v hr => (by simp at hr)⟩
  | E, os, x :: xs, ys, rows, os', R, hf, hm, h => by
    simp only [List.mapM_cons, Option.bind_eq_bind, Option.bind_eq_some_iff, Option.pure_def] at hm
    obtain ⟨y, hy, ys', hys, hm⟩ := hm
    cases hm
    simp only [partsD, Option.bind_eq_some_iff] at h
    obtain ⟨cs, hcs, ⟨zs, os1⟩, h1, h⟩ := h
    simp only at h
    split at h
    · rename_i hlen
      obtain ⟨⟨b, rs, os2⟩, h2, h3⟩ := Option.map_eq_some_iff.1 h
      simp at h3
      obtain ⟨⟨hc, rfl⟩, rfl, rfl⟩ := h3
      have hv := (V.op hf hy).strip hc
      obtain ⟨q1, q2, q3⟩ := hv.cells hcs
      obtain ⟨st1, R1, e1, k1, k2⟩ := freezeL_ok (vs := (a.eval x).cells.toList) R (fun j d v hd hv => q3 j d v hd (by simpa using hv)) (by simp [q1]) h1
      obtain ⟨st2, R2, e2, k3, k4, k5, k6⟩ := partsD_ok (E := ⟨E.w, st1, E.ob⟩) R1 (hf.mono e1) hys h2
      refine ⟨st2, R2, e1.trans e2, by simp [k3], fun r hr => ?_, fun z hz => ?_, fun i r z j w v hr hz hw hv => ?_⟩
      · rcases List.mem_cons.1 hr with rfl | hr
        · exact hlen
        · exact k4 r hr
      · rcases List.mem_cons.1 hz with rfl | hz
        · exact ⟨by simp at k1; omega, q2⟩
        · exact k5 z hz
      · cases i with
        | zero =>
          simp at hr hz; subst hr; subst hz
          exact (k2 j w v hw (by simpa using hv)).mono (fun b o hb => ⟨(e2.st b o hb).1, rfl⟩)
        | succ i => exact k6 i r z j w v (by simpa using hr) (by simpa using hz) hw hv
    · cases h

theorem fill_all (sz : Nat) : ∀ (l : List Value) (i0 : Nat) (cs : Array Value), (∀ v ∈ l, v.cells.size = sz) → (i0 + l.length) * sz ≤ cs.size →
    ∃ cs', Instr.fill (fun i => some (i * sz, sz)) cs ((l.zipIdx i0).map fun p => (p.2, p.1)) = some cs' ∧ cs'.toList = cs.toList.take (i0 * sz) ++ (l.map fun v => v.cells.toList).flatten ++ cs.toList.drop ((i0 + l.length) * sz)
  | [], i0, cs, _, _ => ⟨cs, rfl, by simp⟩
  | v :: l, i0, cs, h1, h2 => by
    have hv := h1 v List.mem_cons_self
    have hle : i0 * sz + sz ≤ cs.size := by
      have : (i0 + 1) * sz ≤ (i0 + (v :: l).length) * sz := Nat.mul_le_mul_right _ (by simp)
      rw [Nat.add_mul, Nat.one_mul] at this; omega
    have hset := fold_set (i0 * sz) v.cells.toList 0 cs (by simp [hv]; omega)
    have hsz : (((v.cells.toList.zipIdx 0).foldl (fun cs p => cs.setIfInBounds (i0 * sz + p.2) p.1) cs)).size = cs.size := by
      rw [← Array.length_toList, hset]; simp [hv]; omega
    obtain ⟨cs', q1, q2⟩ := fill_all sz l (i0 + 1) ((v.cells.toList.zipIdx 0).foldl (fun cs p => cs.setIfInBounds (i0 * sz + p.2) p.1) cs) (fun u hu => h1 u (List.mem_cons_of_mem _ hu)) (by rw [hsz]; simp only [List.length_cons] at h2; rw [show i0 + 1 + l.length = i0 + (l.length + 1) by omega]; exact h2)
    refine ⟨cs', ?_, ?_⟩
    · rw [List.zipIdx_cons, List.map_cons, Instr.fill]
      simp only
      rw [if_neg (by simp [hv]; omega), ← q1]
      congr 1
      rw [← Array.foldl_toList]
      simp [Array.toList_zipIdx]
    · rw [q2, hset]
      simp only [Nat.add_zero, Array.length_toList, hv, List.map_cons, List.flatten_cons, List.length_cons]
      have e1 : (i0 + 1) * sz = i0 * sz + sz := by rw [Nat.add_mul, Nat.one_mul]
      have e2 : (cs.toList.take (i0 * sz) ++ v.cells.toList).length = i0 * sz + sz := by simp [hv]; omega
      rw [e1, List.take_append_of_le_length (by omega), List.take_of_length_le (by omega), List.drop_append, List.drop_of_length_le (by
        rw [e2, show i0 + 1 + l.length = (i0 + 1) + l.length by omega, Nat.add_mul, e1]; omega), List.nil_append, List.drop_drop, e2]
      simp only [List.append_assoc]
      congr 3
      rw [show i0 + 1 + l.length = i0 + (l.length + 1) by omega]
      have : i0 * sz + sz ≤ (i0 + (l.length + 1)) * sz := by
        have : (i0 + 1) * sz ≤ (i0 + (l.length + 1)) * sz := Nat.mul_le_mul_right _ (by omega)
        omega
      congr 1; omega

theorem run_bsl {t e m : Nat} {i : TypeInfo} {z : Value} (ht : P.underlying t = some (.slice e)) (hi : P.info? e = some i) (hz : i.zero = some z) (l : List Value) (hl : l.length = m) (hle : m * i.size ≤ 16777216) (h1 : ∀ v ∈ l, v.cells.size = i.size) (w : World) :
    ∃ cs, (Instr.buildSlice t m ((l.zipIdx 0).map fun p => (p.2, p.1)).toArray).run P w = .ok (.slice (some ⟨w.heap.size, 0, none⟩) m m) (w.alloc (.cells cs e)) ∧ cs.toList = (l.map fun v => v.cells.toList).flatten ∧ cs.size = m * i.size := by
  have hs : szOf P e = some i.size := by simp [szOf, hi]
  subst hl
  have key : ∀ (zc : Array Value), ∃ cs, Instr.fill (fun j => some (j * i.size, i.size)) ((Array.range (l.length * i.size)).map (zc[· % zc.size]!)) ((l.zipIdx 0).map fun p => (p.2, p.1)) = some cs ∧ cs.toList = (l.map fun v => v.cells.toList).flatten ∧ cs.size = l.length * i.size := by
    intro zc
    obtain ⟨cs, q1, q2⟩ := fill_all i.size l 0 ((Array.range (l.length * i.size)).map (zc[· % zc.size]!)) h1 (by simp)
    rw [Nat.zero_mul, List.take_zero, List.nil_append, Nat.zero_add, List.drop_of_length_le (by simp), List.append_nil] at q2
    refine ⟨cs, q1, q2, ?_⟩
    rw [← Array.length_toList, q2]
    clear q1 q2
    induction l with
    | nil => simp
    | cons v l ih =>
      rw [List.map_cons, List.flatten_cons, List.length_append, List.length_cons, Nat.add_mul, Nat.one_mul, Nat.add_comm]
      have := ih (fun u hu => h1 u (List.mem_cons_of_mem _ hu)) (by simp only [List.length_cons] at hle; have : l.length * i.size ≤ (l.length + 1) * i.size := Nat.mul_le_mul_right _ (by omega); omega)
      rw [this]
      simp [h1 v List.mem_cons_self]
  by_cases h0 : l.length * i.size = 0
  · obtain ⟨cs, q1, q2, q3⟩ := key #[]
    refine ⟨cs, ?_, q2, q3⟩
    simp only [h0] at q1
    simp [Instr.buildSlice, run_underlying ht, run_size hs, h0, newRow]
    simp at q1
    simp [q1]
  · obtain ⟨cs, q1, q2, q3⟩ := key z.cells
    refine ⟨cs, ?_, q2, q3⟩
    have hn : ¬ (16777216 < l.length * i.size) := by omega
    simp [Instr.buildSlice, run_underlying ht, run_size hs, hn, newRow, zeroValue, run_info hi, hz]
    rw [if_neg h0, q1]
    simp

/-- What an operation hands on. -/
inductive Yield (E' : Env) (os' : List Ob) (d : D) : Next → Prop
  | value {v : Value} (h : V E' os' d v) : Yield E' os' d (.value v)
  | skip (h : d = .und) : Yield E' os' d .skip

/-- The operation goes through, and then this is so. -/
def Acts (P : Program) (c : Ctx) (E : Env) (os : List Ob) (o : Oper) (a : Act) (d : D) (os' : List Ob) : Prop :=
  ∃ r E', (execOp a.eval o).run P E.w = .ok r E'.w ∧ Rel c E' os' ∧ Evo E os E' os' ∧ Yield E' os' d r

theorem act_run {o : Oper} {s : Sem Unit} {w w' : World} (h : execOp a.eval o = (do s; pure .skip)) (hr : s.run P w = .ok () w') : (execOp a.eval o).run P w = .ok .skip w' := by
  rw [h]; simp [hr]
theorem val_run' {o : Oper} {s : Sem Value} {v : Value} {w w' : World} (h : execOp a.eval o = (do pure (Next.value (← s)))) (hr : s.run P w = .ok v w') : (execOp a.eval o).run P w = .ok (.value v) w' := by
  rw [h]; simp [hr]

theorem kept_alloc (w : World) (o : Obj) : Kept (fun _ => False) w (w.alloc o) := ⟨rfl, rfl, rfl, by simp, fun k hk _ => Below.heap_alloc w o k hk⟩

theorem push_box (R : Rel c E os) {cs : List D} (vs : Array Value) (t : Nat) (hl : vs.size = cs.length) (h1 : ∀ u ∈ vs.toList, u.oneCell' = true) (hv : ∀ (j : Nat) (d : D) (u : Value), cs[j]? = some d → vs[j]? = some u → V E os d u) :
    ∃ E', E'.w = E.w.alloc (.cells vs t) ∧ Rel c E' (os ++ [.box cs]) ∧ Evo E os E' (os ++ [.box cs]) ∧ V E' (os ++ [.box cs]) (.ptr os.length 0) (.pointer (some ⟨E.w.heap.size, 0, none⟩)) := by
  obtain ⟨R', ev⟩ := R.push (E.w.alloc (.cells vs t)) (.box cs) (E.w.heap.size, undef) (kept_alloc _ _) (fun b hb => by cases hb; exact Nat.le_refl _) (fun ev => by
    refine ⟨vs, t, heap_alloc_new _ _, hl, fun j d v hd hv' => ⟨(hv j d v hd hv').mono ev, h1 v ?_⟩⟩
    rw [← Array.getElem?_toList] at hv'
    exact List.mem_of_getElem? hv')
  refine ⟨_, rfl, R', ev, .ptr (cu := undef) (ds := cs) (by simp) ?_⟩
  show (E.ob ++ [(E.w.heap.size, undef)])[os.length]? = _
  rw [← R.len, List.getElem?_append_right (Nat.le_refl _)]
  simp

/-- A new row. -/
theorem push_row (R : Rel c E os) {w' : World} (hk : Kept (fun _ => False) E.w w') {fz : Bool} {e sz : Nat} {rs : List (List X)} {cu : Value} {xs : List Value} (hr : Row w' fz e sz rs.length cu xs) (hb : ∀ b, cu.ownBlock = some b → E.w.heap.size ≤ b) (hz : ∀ r ∈ rs, r.length = sz)
    (hv : ∀ (i : Nat) (r : List X) (j : Nat) (x : X) (v : Value), rs[i]? = some r → r[j]? = some x → xs[i * sz + j]? = some v → VX E.w E.st x v) :
    ∃ E', E'.w = w' ∧ Rel c E' (os ++ [.rows fz e sz rs]) ∧ Evo E os E' (os ++ [.rows fz e sz rs]) ∧ V E' (os ++ [.rows fz e sz rs]) (.ref os.length rs.length 0 rs.length) cu := by
  obtain ⟨R', ev⟩ := R.push w' (.rows fz e sz rs) (0, cu) hk (fun b hb' => hb b hb') (fun ev => ⟨xs, hr, hz, fun i r j x v h1 h2 h3 => (hv i r j x v h1 h2 h3).mono ev.st⟩)
  have hob : (E.ob ++ [(0, cu)])[os.length]? = some (0, cu) := by
    rw [← R.len, List.getElem?_append_right (Nat.le_refl _)]; simp
  refine ⟨_, rfl, R', ev, .ref ⟨.rows fz e sz rs, sz, rs, by simp, rfl, ?_⟩ ?_⟩
  · refine ⟨Nat.le_refl _, fun _ => ⟨by omega, 0, ?_⟩⟩
    rcases hr.2 with ⟨h3, h4⟩ | ⟨g, cap, cells, fr, h3, h4, h5, h6, h7⟩
    · subst h3
      exact ⟨none, 0, none, 0, by rw [hob, h4], by rw [h4], by omega, Nat.zero_le _, fun _ => ⟨rfl, rfl⟩, fun _ ad h => (by cases h), fun _ => ⟨h4, rfl⟩, fun ad h => (by cases h)⟩
    · subst h3
      exact ⟨_, cap, _, cap, hob, rfl, h5, h6, fun _ => ⟨rfl, rfl⟩, fun _ ad h => (by cases h; simp), fun h => (by cases h), fun ad h => (by cases h; rfl)⟩
  · rcases hr.2 with ⟨h3, h4⟩ | ⟨g, cap, cells, fr, h3, h4, h5, h6, h7⟩ <;> subst h3 <;> rfl

end
end Go.Ab
end
section
/- Operations that make objects or turn them do what the evaluator says. -/
namespace Go.Ab
open Go.RowKit Go.Bo

section
variable {P : Program} {E : Env} {os : List Ob} {c : Ctx} {n : Nat} {φ : List (Nat × D)} {a : Act}

theorem run_stores (g o : Nat) (t : Nat) (fr : Nat × Nat) : ∀ (vs : List Value) (i : Nat) (cur : Array Value) (w : World), w.heap[g]? = some (.cells cur t fr) → (fr = (0, 0) ∨ cur.size ≤ fr.1) → o + i + vs.length ≤ cur.size → (∀ v ∈ vs, v.oneCell' = true) →
    ∃ w', (storeCells ⟨g, o, none⟩ vs i).run P w = .ok () w' ∧ w'.heap[g]? = some (.cells (cur.toList.take (o + i) ++ vs ++ cur.toList.drop (o + i + vs.length)).toArray t fr) ∧ Kept (fun b => b = g) w w'
  | [], i, cur, w, hg, hf, hl, h1 => ⟨w, rfl, by rw [hg]; congr 2; apply Array.ext'; simp, Kept.refl _ _⟩
  | v :: vs, i, cur, w, hg, hf, hl, h1 => by
    simp only [List.length_cons] at hl
    have hlt : o + i < cur.size := by omega
    have hcell : w.cell? ((⟨g, o, none⟩ : Addr).add i) = some cur[o + i] := by rw [add_off]; simp [World.cell?, hg, hlt]
    have hfz : w.frozen? ((⟨g, o, none⟩ : Addr).add i) = false := by
      rw [add_off]
      rcases hf with rfl | hf
      · simp [World.frozen?, hg]
      · obtain ⟨lo, hi⟩ := fr
        simp only at hf
        simp [World.frozen?, hg]; omega
    have hst : (store ((⟨g, o, none⟩ : Addr).add i) v).run P w = .ok () (w.setCell ((⟨g, o, none⟩ : Addr).add i) v) := by
      rw [run_store P w _ v .plain (h1 v List.mem_cons_self), hcell, hfz]; rfl
    have hg' : (w.setCell ((⟨g, o, none⟩ : Addr).add i) v).heap[g]? = some (.cells (cur.setIfInBounds (o + i) v) t fr) := by
      rw [add_off]; simp [World.setCell, Array.getElem?_modify, hg]
    obtain ⟨w', q1, q2, q3⟩ := run_stores g o t fr vs (i + 1) (cur.setIfInBounds (o + i) v) _ hg' (by simpa using hf) (by simp; omega) (fun u hu => h1 u (List.mem_cons_of_mem _ hu))
    refine ⟨w', ?_, ?_, ?_⟩
    · simp only [storeCells, Sem.run_bind, hst, Result.andThen_ok]
      exact q1
    · rw [q2]
      congr 3
      simp only [Array.toList_setIfInBounds, List.length_cons]
      rw [show o + (i + 1) = o + i + 1 by omega, List.take_succ_eq_append_getElem (by simpa using hlt), List.take_set_of_le (Nat.le_refl _), List.getElem_set_self, List.drop_set_of_lt (by omega)]
      simp only [List.append_assoc, List.cons_append, List.nil_append]
      rw [show o + i + 1 + vs.length = o + i + (vs.length + 1) by omega]
    · exact ⟨q3.os, q3.tape, q3.output, by have := q3.size; simpa using this, fun k hk hm => (q3.block k (by simpa using hk) hm).trans (Below.heap_setCell _ _ _ _ (by rw [add_off]; exact hm))⟩

theorem run_storeVar {w w' : World} {t m : Nat} (hs : szOf P t = some m) {v : Value} (hv : v.cells.size = m) (ad : Addr) (h : (storeCells ad v.cells.toList 0).run P w = .ok () w') : (Instr.storeAt t (.pointer (some ad)) v).run P w = .ok () w' := by
  simp [Instr.storeAt, Instr.sureAddr, storeVar, run_size hs, hv, h]

theorem splice_get {α : Type} (l m : List α) (o j : Nat) (h : o + m.length ≤ l.length) : (l.take o ++ m ++ l.drop (o + m.length))[j]? = if j < o then l[j]? else if j < o + m.length then m[j - o]? else l[j]? := by
  have e1 : (l.take o).length = o := by simp; omega
  by_cases h1 : j < o
  · rw [if_pos h1, List.append_assoc, List.getElem?_append_left (by omega), List.getElem?_take, if_pos h1]
  · rw [if_neg h1]
    by_cases h2 : j < o + m.length
    · rw [if_pos h2, List.append_assoc, List.getElem?_append_right (by omega), List.getElem?_append_left (by omega), e1]
    · rw [if_neg h2, List.getElem?_append_right (by simp; omega), List.getElem?_drop]
      simp only [List.length_append, e1]
      congr 1; omega

theorem sto_box (R : Rel c E os) {id o : Nat} {ds cs : List D} {v : Value} {t m : Nat} (hs : szOf P t = some m) (ho : os[id]? = some (.box ds)) {vp : Value} (hp : V E os (.ptr id o) vp) (hv1 : v.cells.size = cs.length) (hv2 : ∀ u ∈ v.cells.toList, u.oneCell' = true)
    (hv3 : ∀ (j : Nat) (d : D) (u : Value), cs[j]? = some d → v.cells[j]? = some u → V E os d u) (hm : cs.length = m) (hle : o + m ≤ ds.length) :
    ∃ E', (Instr.storeAt t vp v).run P E.w = .ok () E'.w ∧ Rel c E' (os.set id (.box (ds.take o ++ cs ++ ds.drop (o + m)))) ∧ Evo E os E' (os.set id (.box (ds.take o ++ cs ++ ds.drop (o + m)))) := by
  cases hp with
  | ptr hb0 hb =>
    rename_i b cu ds0
    obtain ⟨p, hp, hok⟩ := R.at ho
    rw [hp] at hb; cases hb
    obtain ⟨vs, ty, h1, h2, h3⟩ := hok
    obtain ⟨w', q1, q2, q3⟩ := run_stores (P := P) b o ty (0, 0) v.cells.toList 0 vs E.w h1 (.inl rfl) (by simp; omega) hv2
    subst hm
    obtain ⟨R', ev⟩ := R.set ho hp w' (.box (ds.take o ++ cs ++ ds.drop (o + cs.length))) (b, cu) ⟨q3.os, q3.tape, q3.output, q3.size, fun k hk hm => q3.block k hk (fun h => hm (by rw [h]; rfl))⟩ (fun b' hb' => .inl hb') (fun sz rs h => by cases h) (fun k h => ⟨rfl, h⟩) (fun ev => by
      refine ⟨_, ty, q2, by simp; omega, fun j d u hd hu => ?_⟩
      simp only [Nat.add_zero, Array.length_toList, hv1] at hu
      have hu' : (vs.toList.take o ++ v.cells.toList ++ vs.toList.drop (o + v.cells.toList.length))[j]? = some u := by simpa [hv1] using hu
      rw [splice_get _ _ _ _ (by simp; omega)] at hu'
      rw [splice_get _ _ _ _ hle] at hd
      simp only [Array.length_toList, hv1] at hu'
      split at hd
      · rename_i hj; rw [if_pos hj] at hu'
        have := h3 j d u hd (by simpa using hu')
        exact ⟨this.1.mono ev, this.2⟩
      · rename_i hj; rw [if_neg hj] at hu'
        split at hd
        · rename_i hj2; rw [if_pos hj2] at hu'
          exact ⟨(hv3 _ d u hd (by simpa using hu')).mono ev, hv2 u (List.mem_of_getElem? hu')⟩
        · rename_i hj2; rw [if_neg hj2] at hu'
          have := h3 j d u hd (by simpa using hu')
          exact ⟨this.1.mono ev, this.2⟩)
    exact ⟨_, run_storeVar hs (by rw [hv1]) _ q1, R', ev⟩

/-- Cells of a row are written. -/
theorem row_write (R : Rel c E os) {id : Nat} {fz : Bool} {e sz : Nat} {rs rs' : List (List X)} (ho : os[id]? = some (.rows fz e sz rs)) {p : Nat × Value} (hp : E.ob[id]? = some p) {g cap : Nat} (hg : p.2 = .slice (some ⟨g, 0, none⟩) rs.length cap) (k : Nat) (vs : List Value) (h1 : ∀ u ∈ vs, u.oneCell' = true)
    (hle : k + vs.length ≤ rs.length * sz) (hl : rs'.length = rs.length) (hz : ∀ r ∈ rs', r.length = sz)
    (hv : ∀ (i : Nat) (r : List X) (j : Nat) (x : X), rs'[i]? = some r → r[j]? = some x → (i * sz + j < k ∨ k + vs.length ≤ i * sz + j) → ∃ r0, rs[i]? = some r0 ∧ r0[j]? = some x)
    (hw : ∀ (i : Nat) (r : List X) (j : Nat) (x : X) (u : Value), rs'[i]? = some r → r[j]? = some x → k ≤ i * sz + j → i * sz + j < k + vs.length → vs[i * sz + j - k]? = some u → VX E.w E.st x u) :
    ∃ E', (storeCells ⟨g, k, none⟩ vs 0).run P E.w = .ok () E'.w ∧ Rel c E' (os.set id (.rows fz e sz rs')) ∧ Evo E os E' (os.set id (.rows fz e sz rs')) := by
  obtain ⟨xs, q1, q2, q3⟩ := R.ok id _ p ho hp
  rcases q1.2 with ⟨h3, _⟩ | ⟨g', cap', cells, fr, h3, h4, h5, h6, h7, h8, h9⟩
  · rw [hg] at h3; cases h3
  · rw [hg] at h3; cases h3
    have hcs : rs.length * sz ≤ cells.size := by rw [h7]; exact Nat.mul_le_mul_right _ h5
    obtain ⟨w', k1, k2, k3⟩ := run_stores (P := P) g k e fr vs 0 cells E.w h4 (by rcases h9 with h9 | h9; exact .inl h9; exact .inr h9.2) (by omega) h1
    obtain ⟨R', ev⟩ := R.set ho hp w' (.rows fz e sz rs') p ⟨k3.os, k3.tape, k3.output, k3.size, fun j hj hm => k3.block j hj (fun h => hm (by rw [h]; simp [Ob.mb, hg, Value.ownBlock]))⟩ (fun b' hb' => .inl hb')
      (fun sz' rs1 h => by simp [Ob.slice?] at h; obtain ⟨rfl, rfl⟩ := h; exact ⟨rs', rfl, .inl ⟨hl.symm, rfl⟩⟩) (fun ds h => by cases h) (fun ev => by
        rw [Nat.add_zero] at k2
        have hsize : (cells.toList.take k ++ vs ++ cells.toList.drop (k + vs.length)).length = cells.size := by simp; omega
        refine ⟨(cells.toList.take k ++ vs ++ cells.toList.drop (k + vs.length)).take (rs'.length * sz), ⟨by rw [List.length_take, hsize, hl]; omega, .inr ⟨g, cap, _, fr, by rw [hl]; exact hg, k2, by rw [hl]; exact h5, h6, by simp only [List.size_toArray, hsize]; exact h7, by rw [hl], ?_⟩⟩, hz, fun i r j x v hr hx hv' => ?_⟩
        · rcases h9 with h9 | h9
          · exact .inl h9
          · exact .inr ⟨h9.1, by simp only [List.size_toArray, hsize]; exact h9.2⟩
        · have hi := (List.getElem?_eq_some_iff.1 hr).1
          have hj : j < sz := by rw [← hz r (List.mem_of_getElem? hr)]; exact (List.getElem?_eq_some_iff.1 hx).1
          have hlt : i * sz + j < rs'.length * sz := by
            have : (i + 1) * sz ≤ rs'.length * sz := Nat.mul_le_mul_right _ hi
            rw [Nat.add_mul] at this; omega
          rw [List.getElem?_take, if_pos hlt, splice_get _ _ _ _ (by simp; omega)] at hv'
          refine VX.mono (fun b o hb => ev.st b o hb) (w := E.w) (st := E.st) ?_
          by_cases hk : i * sz + j < k
          · rw [if_pos hk] at hv'
            obtain ⟨r0, w1, w2⟩ := hv i r j x hr hx (.inl hk)
            refine q3 i r0 j x v w1 w2 ?_
            rw [← h8, List.getElem?_take, if_pos (by rw [← hl]; exact hlt)]; exact hv'
          · rw [if_neg hk] at hv'
            by_cases hk2 : i * sz + j < k + vs.length
            · rw [if_pos hk2] at hv'
              exact hw i r j x v hr hx (by omega) hk2 hv'
            · rw [if_neg hk2] at hv'
              obtain ⟨r0, w1, w2⟩ := hv i r j x hr hx (.inr (by omega))
              refine q3 i r0 j x v w1 w2 ?_
              rw [← h8, List.getElem?_take, if_pos (by rw [← hl]; exact hlt)]; exact hv')
    exact ⟨_, k1, R', ev⟩

theorem sto_eptr (R : Rel c E os) {id ext i o : Nat} {fz : Bool} {e sz : Nat} {rs : List (List X)} {r : List X} {xs : List X} {v : Value} {t m : Nat} (hs : szOf P t = some m) (ho : os[id]? = some (.rows fz e sz rs)) {vp : Value} (hp : V E os (.eptr id ext i o) vp) (hr : rs[i]? = some r) (hext : rs.length = ext)
    (hv1 : v.cells.size = m) (hv2 : ∀ u ∈ v.cells.toList, u.oneCell' = true) (hx : xs.length = m) (hv3 : ∀ (j : Nat) (x : X) (u : Value), xs[j]? = some x → v.cells[j]? = some u → VX E.w E.st x u) (hle : o + m ≤ sz) :
    ∃ E', (Instr.storeAt t vp v).run P E.w = .ok () E'.w ∧ Rel c E' (os.set id (.rows fz e sz (rs.set i (r.take o ++ xs ++ r.drop (o + m))))) ∧ Evo E os E' (os.set id (.rows fz e sz (rs.set i (r.take o ++ xs ++ r.drop (o + m))))) := by
  cases hp with
  | eptr h _ =>
    obtain ⟨h1, h2⟩ := h.at ho rfl
    obtain ⟨h3, b, g, cap, h4, h5⟩ := h2 hext
    obtain ⟨p, hp, hok⟩ := R.at ho
    rw [hp] at h4; cases h4
    subst h5
    have hok' := hok
    obtain ⟨vs, k1, k2, k3⟩ := hok'
    have hrl : r.length = sz := k2 r (List.mem_of_getElem? hr)
    subst hx
    have hil : i < rs.length := by omega
    have hi1 : i * sz + sz ≤ rs.length * sz := by
      have : (i + 1) * sz ≤ rs.length * sz := Nat.mul_le_mul_right _ hil
      rw [Nat.add_mul] at this; omega
    have hnew : ∀ j, (r.take o ++ xs ++ r.drop (o + xs.length))[j]? = if j < o then r[j]? else if j < o + xs.length then xs[j - o]? else r[j]? := fun j => splice_get r xs o j (by omega)
    have hget : ∀ i', (rs.set i (r.take o ++ xs ++ r.drop (o + xs.length)))[i']? = if i = i' then some (r.take o ++ xs ++ r.drop (o + xs.length)) else rs[i']? := fun i' => by
      rw [List.getElem?_set]; by_cases hii : i = i'
      · subst hii; simp [hil]
      · simp [hii]
    have hrow : ∀ i' j, j < sz → i' ≠ i → ¬ (i * sz ≤ i' * sz + j ∧ i' * sz + j < i * sz + sz) := fun i' j hj hne hh => by
      rcases Nat.lt_or_gt_of_ne hne with hlt | hlt
      · have : (i' + 1) * sz ≤ i * sz := Nat.mul_le_mul_right _ hlt
        rw [Nat.add_mul] at this; omega
      · have : (i + 1) * sz ≤ i' * sz := Nat.mul_le_mul_right _ hlt
        rw [Nat.add_mul] at this; omega
    obtain ⟨E', q1, q2, q3⟩ := row_write (P := P) R ho hp (by rw [hext]) (i * sz + o) v.cells.toList hv2 (by simp; omega) (rs' := rs.set i (r.take o ++ xs ++ r.drop (o + xs.length))) (by simp) (fun r' hr' => by
        rcases List.mem_or_eq_of_mem_set hr' with h | h
        · exact k2 r' h
        · subst h; simp; omega)
      (fun i' r' j x hr' hx' hj => by
        rw [hget] at hr'
        by_cases hii : i = i'
        · subst hii
          simp at hr'; subst hr'
          rw [← List.append_assoc, hnew] at hx'
          simp at hj
          refine ⟨r, hr, ?_⟩
          split at hx'
          · exact hx'
          · split at hx'
            · omega
            · exact hx'
        · simp [hii] at hr'
          exact ⟨r', hr', hx'⟩)
      (fun i' r' j x u hr' hx' hj1 hj2 hu => by
        rw [hget] at hr'
        simp at hj2
        by_cases hii : i = i'
        · subst hii
          simp at hr'; subst hr'
          rw [← List.append_assoc, hnew, if_neg (by omega), if_pos (by omega)] at hx'
          refine hv3 _ x u hx' ?_
          have : i * sz + j - (i * sz + o) = j - o := by omega
          rw [this] at hu
          simpa using hu
        · simp [hii] at hr'
          have hj : j < sz := by rw [← k2 r' (List.mem_of_getElem? hr')]; exact (List.getElem?_eq_some_iff.1 hx').1
          exact absurd ⟨by omega, by omega⟩ (hrow i' j hj (Ne.symm hii)))
    exact ⟨E', run_storeVar hs hv1 _ q1, q2, q3⟩

theorem madeCells_get (z : Array Value) (k sz i j : Nat) (hz : z.size = sz) (hj : j < sz) (hi : i < k) : (madeCells z (k * sz)).toList[i * sz + j]? = z[j]? := by
  have hlt : i * sz + j < k * sz := by
    have : (i + 1) * sz ≤ k * sz := Nat.mul_le_mul_right _ hi
    rw [Nat.add_mul] at this; omega
  have e : (i * sz + j) % sz = j := by rw [Nat.mul_comm, Nat.mul_add_mod, Nat.mod_eq_of_lt hj]
  subst hz
  rw [Array.getElem?_toList, Array.getElem?_eq_getElem (by rw [size_madeCells]; exact hlt)]
  simp [madeCells, e, hj]

theorem zeroX_ok {z : Value} {zx : List X} (h : zeroX z = some zx) : zx.length = z.cells.size ∧ ∀ (j : Nat) (x : X) (u : Value), zx[j]? = some x → z.cells[j]? = some u → ∀ (w : World) (st : Nat → Nat → Prop), VX w st x u := by
  have one : ∀ (v : Value) (x : X), constD1 v = .x x → ∀ (w : World) (st : Nat → Nat → Prop), VX w st x v := fun v x h w st => by
    have := V.const1 ⟨w, st, []⟩ [] v
    rw [h] at this
    exact this.xx
  unfold zeroX at h
  split at h
  · rename_i cs
    have key : ∀ (l : List Value) (zx : List X), l.mapM (fun v => match constD1 v with | .x x => some x | _ => none) = some zx → zx.length = l.length ∧ ∀ (j : Nat) (x : X) (u : Value), zx[j]? = some x → l[j]? = some u → ∀ (w : World) (st : Nat → Nat → Prop), VX w st x u := by
      intro l
      induction l with
      | nil => intro zx h; simp at h; subst h; exact ⟨rfl, fun j x u hx => by simp at hx⟩
      | cons v l ih =>
        intro zx h
        simp only [List.mapM_cons, Option.bind_eq_bind, Option.bind_eq_some_iff, Option.pure_def] at h
        obtain ⟨x, hx, ys, hys, h⟩ := h
        cases h
        obtain ⟨h1, h2⟩ := ih ys hys
        refine ⟨by simp [h1], fun j y u hy hu => ?_⟩
        cases j with
        | zero =>
          simp at hy hu; subst hy; subst hu
          split at hx
          · rename_i x' hx'; cases hx; exact one v _ hx'
          · cases hx
        | succ j => exact h2 j y u (by simpa using hy) (by simpa using hu)
    obtain ⟨h1, h2⟩ := key cs.toList zx h
    exact ⟨by simpa [Value.cells] using h1, fun j x u hx hu => h2 j x u hx (by simpa [Value.cells] using hu)⟩
  · rename_i hne
    split at h
    · rename_i x hx
      cases h
      have hc : z.cells = #[z] := by cases z <;> first | rfl | exact absurd rfl (hne _)
      rw [hc]
      refine ⟨rfl, fun j y u hy hu => ?_⟩
      cases j with
      | zero => simp at hy hu; subst hy; subst hu; exact one _ _ hx
      | succ j => simp at hy
    · cases h

theorem mks_ok (R : Rel c E os) {t e : Nat} {i : TypeInfo} {z : Value} {zx : List X} (ht : P.underlying t = some (.slice e)) (hi : P.info? e = some i) (hz : i.zero = some z) (hzx : zeroX z = some zx) (hzl : zx.length = i.size) (hby : i.bytes ≤ 128) (kl kc : IntKind) (l cp : Nat) (hlc : l ≤ cp) (hcm : cp ≤ 1099511627776) :
    ∃ v E', (Instr.makeSlice t (.int kl l) (.int kc cp)).run P E.w = .ok v E'.w ∧ Rel c E' (os ++ [.rows false e i.size (List.replicate l zx)]) ∧ Evo E os E' (os ++ [.rows false e i.size (List.replicate l zx)]) ∧ V E' (os ++ [.rows false e i.size (List.replicate l zx)]) (.ref os.length l 0 l) v := by
  obtain ⟨z1, z2⟩ := zeroX_ok hzx
  have hb : (i.bytes : Int) * (cp : Int) ≤ 281474976710656 := by
    have h : i.bytes * cp ≤ 128 * 1099511627776 := Nat.mul_le_mul hby hcm
    have : ((i.bytes * cp : Nat) : Int) ≤ 281474976710656 := by omega
    rwa [Int.natCast_mul] at this
  have hr := run_make (P := P) E.w t e i z ht hi hz kl kc l cp (by omega) (by omega) hb (by omega)
  simp only [Int.toNat_natCast] at hr
  have hrow : Row (E.w.alloc (.cells (madeCells z.cells (cp * i.size)) e)) false e i.size (List.replicate l zx).length (.slice (some ⟨E.w.heap.size, 0, none⟩) l cp) ((madeCells z.cells (cp * i.size)).toList.take (l * i.size)) := by
    have hle : l * i.size ≤ cp * i.size := Nat.mul_le_mul_right _ hlc
    refine ⟨by rw [List.length_take, Array.length_toList, size_madeCells, List.length_replicate]; omega, .inr ⟨E.w.heap.size, cp, _, (0, 0), by simp, heap_alloc_new _ _, by simpa using hlc, by simp only [maxLen]; omega, size_madeCells _ _, by simp, .inl rfl⟩⟩
  obtain ⟨E', h1, h2, h3, h4⟩ := push_row (rs := List.replicate l zx) R (kept_alloc _ _) hrow (fun b hb => by cases hb; exact Nat.le_refl _) (fun r hr => by rw [(List.mem_replicate.1 hr).2]; exact hzl) (fun k r j x v hk hx hv => by
    have hk' : k < l := by have := (List.getElem?_eq_some_iff.1 hk).1; simpa using this
    have hrz : r = zx := by have := List.mem_of_getElem? hk; exact (List.mem_replicate.1 this).2
    subst hrz
    have hj : j < i.size := by rw [← hzl]; exact (List.getElem?_eq_some_iff.1 hx).1
    have hlt : k * i.size + j < l * i.size := by
      have : (k + 1) * i.size ≤ l * i.size := Nat.mul_le_mul_right _ hk'
      rw [Nat.add_mul] at this; omega
    rw [List.getElem?_take, if_pos hlt, madeCells_get z.cells cp i.size k j (by omega) hj (by omega)] at hv
    exact z2 j x v hx hv _ _)
  rw [List.length_replicate] at h4
  exact ⟨_, E', by rw [h1]; exact hr, h2, h3, h4⟩

theorem flat_get (l : List Value) (sz : Nat) (h : ∀ v ∈ l, v.cells.size = sz) : ∀ (i j : Nat) (v : Value), l[i]? = some v → j < sz → ((l.map fun v => v.cells.toList).flatten)[i * sz + j]? = v.cells[j]? := by
  induction l with
  | nil => intro i j v hv; simp at hv
  | cons u l ih =>
    intro i j v hv hj
    have hu := h u List.mem_cons_self
    rw [List.map_cons, List.flatten_cons]
    cases i with
    | zero =>
      simp at hv; subst hv
      rw [Nat.zero_mul, Nat.zero_add, List.getElem?_append_left (by simp [hu]; exact hj), Array.getElem?_toList]
    | succ i =>
      rw [List.getElem?_append_right (by simp [hu, Nat.add_mul]; omega)]
      rw [← ih (fun v hv => h v (List.mem_cons_of_mem _ hv)) i j v (by simpa using hv) hj]
      congr 1
      simp [hu, Nat.add_mul]; omega

theorem bsl_ok (R : Rel c E os) (hf : Fr n E os φ a) {t e m : Nat} {i : TypeInfo} {z : Value} (ht : P.underlying t = some (.slice e)) (hi : P.info? e = some i) (hz : i.zero = some z) {xs : List Operand} {ys : List IO} (hm : xs.mapM compO = some ys) (hl : xs.length = m) (hle : m * i.size ≤ 16777216) (hle2 : m ≤ 16777216)
    {rs : List (List X)} {os' : List Ob} (h : partsD φ i.size os ys = some (true, rs, os')) :
    ∃ v E', (Instr.buildSlice t m (((xs.map a.eval).zipIdx 0).map fun p => (p.2, p.1)).toArray).run P E.w = .ok v E'.w ∧ Rel c E' (os' ++ [.rows false e i.size rs]) ∧ Evo E os E' (os' ++ [.rows false e i.size rs]) ∧ V E' (os' ++ [.rows false e i.size rs]) (.ref os'.length m 0 m) v := by
  obtain ⟨st', R1, e1, k1, k2, k3, k4⟩ := partsD_ok R hf hm h
  obtain ⟨cs, q1, q2, q3⟩ := run_bsl (P := P) ht hi hz (xs.map a.eval) (by simpa using hl) hle (fun v hv => by obtain ⟨x, hx, rfl⟩ := List.mem_map.1 hv; exact (k3 x hx).1) E.w
  have hrl : rs.length = m := by omega
  have hrow : Row (E.w.alloc (.cells cs e)) false e i.size rs.length (.slice (some ⟨E.w.heap.size, 0, none⟩) m m) cs.toList := by
    refine ⟨by rw [Array.length_toList, q3, hrl], .inr ⟨E.w.heap.size, m, cs, (0, 0), by rw [hrl], heap_alloc_new _ _, by omega, ?_, q3, ?_, .inl rfl⟩⟩
    · simp only [maxLen]; omega
    · rw [List.take_of_length_le (by rw [Array.length_toList, q3, hrl]; omega)]
  obtain ⟨E', h1, h2, h3, h4⟩ := push_row (E := ⟨E.w, st', E.ob⟩) R1 (kept_alloc _ _) hrow (fun b hb => by cases hb; exact Nat.le_refl _) k2 (fun k r j x v hk hx hv => by
    have hk' : k < xs.length := by have := (List.getElem?_eq_some_iff.1 hk).1; omega
    have hj : j < i.size := by rw [← k2 r (List.mem_of_getElem? hk)]; exact (List.getElem?_eq_some_iff.1 hx).1
    have hxk : xs[k]? = some xs[k] := List.getElem?_eq_getElem hk'
    rw [q2, flat_get (xs.map a.eval) i.size (fun v hv => by obtain ⟨x, hx, rfl⟩ := List.mem_map.1 hv; exact (k3 x hx).1) k j (a.eval xs[k]) (by simp [hk']) hj] at hv
    exact k4 k r _ j x v hk hxk hx hv)
  rw [hrl] at h4
  exact ⟨_, E', by rw [h1]; exact q1, h2, e1.trans h3, h4⟩

end
end Go.Ab
end
section
/- Append, copy, []byte(s); all operations that make objects or turn them. -/
namespace Go.Ab
open Go.RowKit Go.Bo

theorem Kept.of_grown {w w' : World} {r : Option Nat} (h : w.grownBy w' r) : Kept (fun b => r = some b) w w' := ⟨h.os, h.tape, h.output, h.size, fun k hk hm => h.block k hk (fun e => hm e.symm)⟩
theorem Kept.of_none {w w' : World} (h : w.grownBy w' none) : Kept (fun _ => False) w w' := ⟨h.os, h.tape, h.output, h.size, fun k hk _ => h.block k hk (by simp)⟩

section
variable {P : Program} {E : Env} {os : List Ob} {c : Ctx} {n : Nat} {φ : List (Nat × D)} {a : Act}

/-- Values of two rows of rows one behind the other. -/
theorem rows_append {sz : Nat} {rs src : List (List X)} {xs news : List Value} {w : World} {st : Nat → Nat → Prop} (hxl : xs.length = rs.length * sz)
    (h1 : ∀ (i : Nat) (r : List X) (j : Nat) (x : X) (v : Value), rs[i]? = some r → r[j]? = some x → xs[i * sz + j]? = some v → VX w st x v)
    (h2 : ∀ (i : Nat) (r : List X) (j : Nat) (x : X), src[i]? = some r → r[j]? = some x → ∃ u, news[i * sz + j]? = some u ∧ VX w st x u)
    (i : Nat) (r : List X) (j : Nat) (x : X) (v : Value) (hr : (rs ++ src)[i]? = some r) (hx : r[j]? = some x) (hj : j < sz) (hv : (xs ++ news)[i * sz + j]? = some v) : VX w st x v := by
  by_cases hi : i < rs.length
  · rw [List.getElem?_append_left hi] at hr
    have hlt : i * sz + j < xs.length := by
      rw [hxl]
      have : (i + 1) * sz ≤ rs.length * sz := Nat.mul_le_mul_right _ hi
      rw [Nat.add_mul] at this; omega
    rw [List.getElem?_append_left hlt] at hv
    exact h1 i r j x v hr hx hv
  · rw [List.getElem?_append_right (by omega)] at hr
    have hge : rs.length * sz ≤ i * sz := Nat.mul_le_mul_right _ (by omega)
    rw [List.getElem?_append_right (by omega)] at hv
    obtain ⟨u, k1, k2⟩ := h2 _ r j x hr hx
    have e : i * sz + j - xs.length = (i - rs.length) * sz + j := by rw [hxl, Nat.sub_mul]; omega
    rw [e, k1] at hv
    cases hv
    exact k2

theorem app_nil_ok (R : Rel c E os) {t ty e : Nat} {i : TypeInfo} {z : Value} (ht : P.underlying t = some (.slice e)) (hi : P.info? e = some i) (hz : i.zero = some z) (hzs : z.cells.size = i.size) (hsz : 0 < i.size) (hby : i.bytes ≤ 128)
    {y : D} {vy : Value} (hy : V E os y vy) {src : List (List X)} (hr : rowsOf os y = some src) (hrl : ∀ r ∈ src, r.length = i.size) (hle : src.length ≤ 1099511627776) :
    ∃ v E', (Builtin.append_ #[t, t] ty #[.slice none 0 0, vy]).run P E.w = .ok v E'.w ∧ Rel c E' (os ++ [.rows false e i.size src]) ∧ Evo E os E' (os ++ [.rows false e i.size src]) ∧ V E' (os ++ [.rows false e i.size src]) (.ref os.length src.length 0 src.length) v := by
  obtain ⟨ad, cp, news, rfl, q2, q3, q4, q5, q6, q7, q8⟩ := rows_read R hy hr hrl
  cases ad with
  | none =>
    have h0 := q5 rfl
    have hs : src = [] := List.eq_nil_of_length_eq_zero h0
    subst hs
    obtain ⟨E', k1, k2, k3, k4⟩ := push_row (fz := false) (e := e) (sz := i.size) (rs := []) (cu := .slice none 0 0) (xs := []) R (Kept.refl _ E.w) ⟨by simp, .inl ⟨rfl, rfl⟩⟩ (fun b hb => by cases hb) (fun r hr => by cases hr) (fun i r j x v h => by simp at h)
    exact ⟨_, E', by rw [k1]; exact run_append_none E.w t ty e i ht hi none 0 0 (Nat.le_refl _) none cp, k2, k3, k4⟩
  | some ad =>
    obtain ⟨v', w', hrun, ho, hg, _⟩ := run_append_own (P := P) E.w E.w.heap.size t ty e i z i.size i.bytes ht hi hz rfl rfl hzs hsz (.slice none 0 0) 0 [] (World.ownsRow_nil _ _ _ _) ad src.length cp news q4 (q6 ad rfl) q7 (by simp only [maxLen]; omega)
      (by have h : src.length * i.bytes ≤ 1099511627776 * 128 := Nat.mul_le_mul hle hby
          rw [Nat.zero_add]; omega) (Nat.le_refl _)
    rw [Nat.zero_add, List.nil_append] at ho
    obtain ⟨E', k1, k2, k3, k4⟩ := push_row (rs := src) R (Kept.of_none hg) (Row.of_owns ho false) (fun b hb => (ho.lt b hb).1) hrl (fun k r j x v h1 h2 h3 => by
      obtain ⟨u, w1, w2⟩ := q8 k r j x h1 h2
      rw [w1] at h3; cases h3; exact w2)
    exact ⟨v', E', by rw [k1]; exact hrun, k2, k3, k4⟩

theorem app_full_ok (R : Rel c E os) {t ty e : Nat} {i : TypeInfo} {z : Value} (ht : P.underlying t = some (.slice e)) (hi : P.info? e = some i) (hz : i.zero = some z) (hzs : z.cells.size = i.size) (hsz : 0 < i.size) (hby : i.bytes ≤ 128)
    {rs0 : List (List X)} {vx : Value} (hx : V E os (.full rs0) vx) (hz0 : ∀ r ∈ rs0, r.length = i.size) {y : D} {vy : Value} (hy : V E os y vy) {src : List (List X)} (hr : rowsOf os y = some src) (hrl : ∀ r ∈ src, r.length = i.size) (hpos : src.length ≠ 0) (hle : rs0.length + src.length ≤ 1099511627776) :
    ∃ v E', (Builtin.append_ #[t, t] ty #[vx, vy]).run P E.w = .ok v E'.w ∧ Rel c E' (os ++ [.rows false e i.size (rs0 ++ src)]) ∧ Evo E os E' (os ++ [.rows false e i.size (rs0 ++ src)]) ∧ V E' (os ++ [.rows false e i.size (rs0 ++ src)]) (.ref os.length (rs0.length + src.length) 0 (rs0.length + src.length)) v := by
  obtain ⟨ad, cp, news, rfl, q2, q3, q4, q5, q6, q7, q8⟩ := rows_read R hy hr hrl
  obtain ⟨bd, bp, olds, rfl, p2, p3, p4, p5, p6, p7, p8⟩ := rows_read R hx (rs := rs0) rfl hz0
  have hcap : bp = rs0.length := by
    generalize rs0.length = k at *
    cases hx; rfl
  subst hcap
  · cases ad with
    | none => exact absurd (q5 rfl) hpos
    | some ad =>
      have b1 : rs0.length + src.length ≤ maxLen := by simp only [maxLen]; omega
      have b2 : (rs0.length + src.length) * i.bytes ≤ 140737488355328 := by
        have h : (rs0.length + src.length) * i.bytes ≤ 1099511627776 * 128 := Nat.mul_le_mul hle hby
        omega
      have key : ∃ v' w', (Builtin.append_ #[t, t] ty #[.slice bd rs0.length rs0.length, .slice (some ad) src.length cp]).run P E.w = .ok v' w' ∧ w'.ownsRow E.w.heap.size e i.size v' (rs0.length + src.length) (olds ++ news) ∧ E.w.grownBy w' none := by
        cases bd with
        | none =>
          have h0 := p5 rfl
          have hs : rs0 = [] := List.eq_nil_of_length_eq_zero h0
          subst hs
          have ho : olds = [] := List.eq_nil_of_length_eq_zero (by simpa using p4)
          subst ho
          obtain ⟨v', w', hrun, r1, r2, _⟩ := run_append_own (P := P) E.w E.w.heap.size t ty e i z i.size i.bytes ht hi hz rfl rfl hzs hsz (.slice none 0 0) 0 [] (World.ownsRow_nil _ _ _ _) ad src.length cp news q4 (q6 ad rfl) q7 (by simpa using b1) (by simpa using b2) (Nat.le_refl _)
          exact ⟨v', w', hrun, r1, r2⟩
        | some b =>
          obtain ⟨v', w', hrun, r1, r2⟩ := run_append_arg_grows (P := P) E.w t ty e i z i.size i.bytes ht hi hz rfl rfl hzs hsz b rs0.length rs0.length olds p4 (p6 b rfl) ad src.length cp news q4 (q6 ad rfl) (by omega) b1 b2
          exact ⟨v', w', hrun, r1, r2⟩
      obtain ⟨v', w', hrun, ho, hg⟩ := key
      have hall : ∀ r ∈ rs0 ++ src, r.length = i.size := fun r hr => by
        rcases List.mem_append.1 hr with h | h
        · exact hz0 r h
        · exact hrl r h
      have ho' : Row w' false e i.size (rs0 ++ src).length v' (olds ++ news) := by rw [List.length_append]; exact Row.of_owns ho false
      obtain ⟨E', k1, k2, k3, k4⟩ := push_row (rs := rs0 ++ src) R (Kept.of_none hg) ho' (fun b hb => (ho.lt b hb).1) hall (fun k r j x v h1 h2 h3 =>
        rows_append p4 (fun i r j x v g1 g2 g3 => by obtain ⟨u, w1, w2⟩ := p8 i r j x g1 g2; rw [w1] at g3; cases g3; exact w2) q8 k r j x v h1 h2 (by rw [← hall r (List.mem_of_getElem? h1)]; exact (List.getElem?_eq_some_iff.1 h2).1) h3)
      rw [List.length_append] at k4
      exact ⟨v', E', by rw [k1]; exact hrun, k2, k3, k4⟩

theorem app_ref_ok (R : Rel c E os) {t ty e : Nat} {i : TypeInfo} {z : Value} (ht : P.underlying t = some (.slice e)) (hi : P.info? e = some i) (hz : i.zero = some z) (hzs : z.cells.size = i.size) (hsz : 0 < i.size) (hby : i.bytes ≤ 128)
    {id : Nat} {rs : List (List X)} {vx : Value} (hx : V E os (.ref id rs.length 0 rs.length) vx) (ho : os[id]? = some (.rows false e i.size rs)) {y : D} {vy : Value} (hy : V E os y vy) {src : List (List X)} (hr : rowsOf os y = some src) (hrl : ∀ r ∈ src, r.length = i.size) (hle : rs.length + src.length ≤ 1099511627776) :
    ∃ v E', (Builtin.append_ #[t, t] ty #[vx, vy]).run P E.w = .ok v E'.w ∧ Rel c E' (os.set id (.rows false e i.size (rs ++ src))) ∧ Evo E os E' (os.set id (.rows false e i.size (rs ++ src))) ∧ V E' (os.set id (.rows false e i.size (rs ++ src))) (.ref id (rs.length + src.length) 0 (rs.length + src.length)) v := by
  obtain ⟨ad, cp, news, rfl, q2, q3, q4, q5, q6, q7, q8⟩ := rows_read R hy hr hrl
  obtain ⟨p, hp, hok⟩ := R.at ho
  obtain ⟨xs, k1, k2, k3⟩ := hok
  have hlt := (List.getElem?_eq_some_iff.1 ho).1
  have hvx : vx = p.2 := by
    obtain ⟨h1, h2⟩ := hx.ref_inv.at ho rfl
    obtain ⟨h3, b, a0, cap, a', cap', h4, h5, h6, h7, h8, h9⟩ := h2 rfl
    rw [hp] at h4
    obtain ⟨h10, h11⟩ := h8 rfl
    rw [h10, h11] at h5
    rw [h5, Option.some.inj h4]
  subst hvx
  have refOf : ∀ {E' : Env} {rs' : List (List X)} {cu : Value} {w' : World} {xs' : List Value}, E'.ob = E.ob.set id (p.1, cu) → Row w' false e i.size rs'.length cu xs' → V E' (os.set id (.rows false e i.size rs')) (.ref id rs'.length 0 rs'.length) cu := by
    intro E' rs' cu w' xs' hob hrow
    have hob' : E'.ob[id]? = some (p.1, cu) := by rw [hob]; simp [R.len, hlt]
    refine .ref ⟨.rows false e i.size rs', i.size, rs', by rw [List.getElem?_set_self hlt], rfl, ?_⟩ ?_
    · refine ⟨Nat.le_refl _, fun _ => ⟨by omega, p.1, ?_⟩⟩
      rcases hrow.2 with ⟨h3, h4⟩ | ⟨g, cap, cells, fr, h3, h4, h5, h6, h7⟩
      · subst h3
        exact ⟨none, 0, none, 0, by rw [hob', h4], by rw [h4], by omega, Nat.zero_le _, fun _ => ⟨rfl, rfl⟩, fun _ ad h => (by cases h), fun _ => ⟨h4, rfl⟩, fun ad h => (by cases h)⟩
      · subst h3
        exact ⟨_, cap, _, cap, hob', rfl, h5, h6, fun _ => ⟨rfl, rfl⟩, fun _ ad h => (by cases h; simp), fun h => (by cases h), fun ad h => (by cases h; rfl)⟩
    · rcases hrow.2 with ⟨h3, h4⟩ | ⟨g, cap, cells, fr, h3, h4, h5, h6, h7⟩ <;> subst h3 <;> rfl
  cases ad with
  | none =>
    have h0 := q5 rfl
    have hs : src = [] := List.eq_nil_of_length_eq_zero h0
    subst hs
    simp only [List.append_nil, List.length_nil, Nat.add_zero]
    have hset : os.set id (.rows false e i.size rs) = os := by
      apply List.ext_getElem?
      intro j
      rw [List.getElem?_set]
      by_cases hj : id = j
      · subst hj; rw [if_pos rfl, ho]; simp [hlt]
      · simp [hj]
    rw [hset]
    refine ⟨p.2, E, ?_, R, Evo.refl _ _, hx⟩
    rcases k1.2 with ⟨h3, h4⟩ | ⟨g, cap, cells, fr, h3, h4, h5, h6, h7⟩
    · rw [h3]; exact run_append_none E.w t ty e i ht hi none 0 0 (Nat.le_refl _) none cp
    · rw [h3]; exact run_append_none E.w t ty e i ht hi _ _ _ h5 none cp
  | some ad =>
    have hown := k1.owns
    obtain ⟨v', w', hrun, ho', hG⟩ := run_own_append (P := P) E.w 0 t ty e i z i.size i.bytes ht hi hz rfl rfl hzs hsz p.2 rs.length xs hown ad src.length cp news q4 (q6 ad rfl) q7 (by simp only [maxLen]; omega)
      (by have h : (rs.length + src.length) * i.bytes ≤ 1099511627776 * 128 := Nat.mul_le_mul hle hby
          omega) (Nat.zero_le _)
    have hall : ∀ r ∈ rs ++ src, r.length = i.size := fun r hr => by
      rcases List.mem_append.1 hr with h | h
      · exact k2 r h
      · exact hrl r h
    have hrow : Row w' false e i.size (rs ++ src).length v' (xs ++ news) := by rw [List.length_append]; exact Row.of_owns ho' false
    by_cases hpos : src.length = 0
    · have hs : src = [] := List.eq_nil_of_length_eq_zero hpos
      subst hs
      have hset : os.set id (.rows false e i.size rs) = os := by
        apply List.ext_getElem?
        intro j
        rw [List.getElem?_set]
        by_cases hj : id = j
        · subst hj; rw [if_pos rfl, ho]; simp [hlt]
        · simp [hj]
      simp only [List.append_nil, List.length_nil, Nat.add_zero]
      rw [hset]
      refine ⟨p.2, E, ?_, R, Evo.refl _ _, hx⟩
      rcases k1.2 with ⟨h3, h4⟩ | ⟨g, cap, cells, fr, h3, h4, h5, h6, h7⟩
      · rw [h3]; exact run_append_none E.w t ty e i ht hi none 0 0 (Nat.le_refl _) (some ad) cp
      · rw [h3]; exact run_append_none E.w t ty e i ht hi _ _ _ h5 (some ad) cp
    · obtain ⟨R', ev⟩ := R.set ho hp w' (.rows false e i.size (rs ++ src)) (p.1, v') (Kept.of_grown hG.grown) (fun b hb => by
        have hb' : v'.ownBlock = some b := hb
        rcases hG.own with h | ⟨g, h, h2⟩
        · left; show p.2.ownBlock = some b; rw [← h]; exact hb'
        · right; rw [h] at hb'; cases hb'; exact .inl h2) (fun sz rs1 h => by
          simp [Ob.slice?] at h; obtain ⟨rfl, rfl⟩ := h; exact ⟨rs ++ src, rfl, .inr (by simp; omega)⟩) (fun ds h => by cases h) (fun ev => by
          refine ⟨xs ++ news, hrow, hall, fun k r j x v h1 h2 h3 => ?_⟩
          refine VX.mono (w := E.w) (st := E.st) (fun b o hb => ev.st b o hb) ?_
          exact rows_append k1.1 k3 q8 k r j x v h1 h2 (by rw [← hall r (List.mem_of_getElem? h1)]; exact (List.getElem?_eq_some_iff.1 h2).1) h3)
      have := refOf (E' := ⟨w', E.st, E.ob.set id (p.1, v')⟩) rfl hrow
      rw [List.length_append] at this
      exact ⟨v', _, hrun, R', ev, this⟩

theorem s2b_ok (R : Rel c E os) {s d e : Nat} {u : TypeDesc} (hs : P.underlying s = some u) (hd : P.underlying d = some (.slice e)) (he : P.underlying e = some (.int .u8)) (b : List UInt8) (hb40 : b.length ≤ 1099511627776) :
    ∃ v E', (convert s d (.string (bstr b))).run P E.w = .ok v E'.w ∧ Rel c E' (os ++ [.rows true e 1 (b.map byteRow)]) ∧ Evo E os E' (os ++ [.rows true e 1 (b.map byteRow)]) ∧ V E' (os ++ [.rows true e 1 (b.map byteRow)]) (.ref os.length b.length 0 b.length) v := by
  have hr := Lib.run_convert_string_bytes (P := P) E.w s d e (bstr b) hs hd he
  have hk : Kept (fun _ => False) E.w (Lib.bytesWorld E.w e (bstr b)) := ⟨rfl, rfl, rfl, by rw [Lib.bytesWorld_size]; omega, fun k hk _ => Lib.bytesWorld_at_old _ _ _ _ hk⟩
  have hge := grownCap_ge E.w (bstr b).size 0 e
  have hcs : (Lib.bytesCells E.w e (bstr b)).size = grownCap E.w (bstr b).size 0 e * 1 := by
    have : (bstr b).data.size = (bstr b).size := rfl
    simp [Lib.bytesCells]; omega
  have hrow : Row (Lib.bytesWorld E.w e (bstr b)) true e 1 (b.map byteRow).length (.slice (some ⟨E.w.heap.size, 0, none⟩) (bstr b).size (grownCap E.w (bstr b).size 0 e)) ((Lib.bytesCells E.w e (bstr b)).toList.take ((b.map byteRow).length * 1)) := by
    have hcl : (Lib.bytesCells E.w e (bstr b)).toList.length = grownCap E.w (bstr b).size 0 e * 1 := by rw [← hcs]; simp
    refine ⟨by rw [List.length_take, hcl, List.length_map, ← bstr_size b]; omega, .inr ⟨E.w.heap.size, grownCap E.w (bstr b).size 0 e, _, _, by rw [List.length_map, ← bstr_size b], Lib.bytesWorld_at_new _ _ _, by rw [List.length_map, ← bstr_size b]; exact hge, ?_, hcs, rfl, .inr ⟨rfl, Nat.le_refl _⟩⟩⟩
    refine grownCap_le_maxLen E.w _ 0 e ?_
    rw [bstr_size]; simp only [maxLen]; omega
  obtain ⟨E', h1, h2, h3, h4⟩ := push_row R hk hrow (fun b hb => by cases hb; exact Nat.le_refl _) (fun r hr => by obtain ⟨x, _, rfl⟩ := List.mem_map.1 hr; rfl) (fun i r j x v hr hx hv => by
    rw [List.getElem?_map] at hr
    obtain ⟨y, hy, rfl⟩ := Option.map_eq_some_iff.1 hr
    cases j with
    | succ j => simp [byteRow] at hx
    | zero =>
      simp [byteRow] at hx
      subst hx
      have hi := (List.getElem?_eq_some_iff.1 hy).1
      rw [List.getElem?_take, if_pos (by simp; omega)] at hv
      have hb : b[i] = y := (List.getElem?_eq_some_iff.1 hy).2
      simp only [Lib.bytesCells, bstr, Array.toList_append, Array.toList_map, Nat.mul_one, Nat.add_zero] at hv
      rw [List.getElem?_append_left (by simpa using hi), List.getElem?_map, List.getElem?_eq_getElem hi, hb] at hv
      simp at hv
      subst hv
      exact .int _ _)
  rw [List.length_map] at h4
  exact ⟨_, E', by rw [h1]; exact hr, h2, h3, h4⟩

end
end Go.Ab
end
section
/- append(s, make([]T, k)...) onto a slice that is the call's own. -/
namespace Go.Ab
open Go Go.RowKit Go.Bo

theorem run_own_append_zeros {P : Program} (w : World) (base : Nat) (t tn ty e : TypeId) (i : TypeInfo) (z : Value) (kq kn : IntKind) (ht : P.underlying t = some (.slice e)) (htn : P.underlying tn = some (.int kn)) (hi : P.info? e = some i) (hz : i.zero = some z)
    (hzs : z.cells.size = i.size) (hsz : 0 < i.size) (hz1 : ∀ u ∈ z.cells.toList, u.oneCell' = true)
    (v : Value) (n : Nat) (xs : List Value) (hown : w.ownsRow base e i.size v n xs) (k : Nat) (h0 : 0 < k)
    (h63 : n + k ≤ maxLen) (hbytes : (n + k) * i.bytes ≤ 140737488355328) (hbase : base ≤ w.heap.size) :
    ∃ v' w', (Builtin.append_ #[t, tn] ty #[v, .int kq k]).run P w = .ok v' w' ∧ w'.ownsRow base e i.size v' (n + k) (xs ++ (Builtin.zeroCells z.cells k).toList) ∧ Grow w w' v v' := by
  have hsmall : n + k ≤ 9223372036854775807 := by simp only [maxLen] at h63; omega
  have hl : (Builtin.zeroCells z.cells k).toList.length = k * i.size := by rw [Array.length_toList, size_zeroCells, hzs]
  have hlen : (xs ++ (Builtin.zeroCells z.cells k).toList).length = (n + k) * i.size := by rw [List.length_append, hown.1, hl, Nat.add_mul]
  have hkb : k * i.bytes ≤ (n + k) * i.bytes := Nat.mul_le_mul_right _ (by omega)
  have grown : ∀ (old : Nat), old < n + k → ∀ (row : Option Nat),
      (w.drew.alloc (.cells (xs.toArray ++ Builtin.zeroCells z.cells k ++ Builtin.zeroCells z.cells (grownCap w (n + k) old e - (n + k))) e)).ownsRow base e i.size
        (.slice (some ⟨w.heap.size, 0, none⟩) (n + k) (grownCap w (n + k) old e)) (n + k) (xs ++ (Builtin.zeroCells z.cells k).toList) ∧
      w.grownBy (w.drew.alloc (.cells (xs.toArray ++ Builtin.zeroCells z.cells k ++ Builtin.zeroCells z.cells (grownCap w (n + k) old e - (n + k))) e)) row := by
    intro old ho row
    have hge := grownCap_ge w (n + k) old e
    have hcm : grownCap w (n + k) old e ≤ maxLen := grownCap_le_maxLen w (n + k) old e h63
    refine ⟨⟨hlen, .inr ⟨w.heap.size, _, _, rfl, hbase, heap_alloc_new w.drew _, hge, hcm, ?_, ?_⟩⟩, ⟨rfl, rfl, rfl, by simp, fun k hk _ => heap_alloc_old w.drew _ hk⟩⟩
    · simp only [Array.size_append, List.size_toArray, size_zeroCells, hzs, hown.1, ← Nat.add_mul]
      congr 1
      omega
    · simp only [Array.toList_append, List.append_assoc]
      rw [← List.append_assoc, ← hlen]
      exact List.take_left
  rcases hown.2 with ⟨rfl, rfl⟩ | ⟨g, cap, cur, rfl, hbg, hg, hnc, hcm, hcs, htake⟩
  · have hx : xs = [] := List.eq_nil_of_length_eq_zero (by simpa using hown.1)
    subst hx
    have hr := Lib.run_append_nil_zeros (P := P) w t tn ty e i z kq kn ht htn hi hz k h0 hsz (by omega) (by omega)
    have hgr := grown 0 (by omega) (Value.ownBlock (.slice none 0 0))
    simp only [Nat.zero_add, List.nil_append, Array.empty_append] at hgr ⊢
    exact ⟨_, _, hr, hgr.1, hgr.2, .inr ⟨_, rfl, Nat.le_refl _⟩⟩
  · by_cases hroom : n + k ≤ cap
    · have hfit : n * i.size + (Builtin.zeroCells z.cells k).toList.length ≤ cur.size := by rw [hl, hcs, ← Nat.add_mul]; exact Nat.mul_le_mul_right _ hroom
      have h1 : ∀ u ∈ (Builtin.zeroCells z.cells k).toList, u.oneCell' = true := by
        intro u hu
        simp only [Builtin.zeroCells, Array.toList_map, Array.toList_range, List.mem_map, List.mem_range] at hu
        obtain ⟨j, hj, rfl⟩ := hu
        have hm : j % z.cells.size < z.cells.size := Nat.mod_lt _ (by rw [hzs]; exact hsz)
        rw [getElem!_pos z.cells _ hm]
        exact hz1 _ (by simp)
      have hst := run_storeCells_at P g (n * i.size) e (Builtin.zeroCells z.cells k).toList 0 cur w hg (by simpa using hfit) h1
      simp only [Nat.add_zero] at hst
      have hw : IntKind.i64.wrap (k : Int) = k := by rw [IntKind.wrap_i64]; omega
      have hneg : ¬ ((k : Int) < 0) := by omega
      have hns : ¬ (k * i.size = 0) := Nat.mul_ne_zero (by omega) (by omega)
      have h48i : ¬ (281474976710656 < (k : Int) * (i.bytes : Int)) := by rw [← Int.natCast_mul]; omega
      have hr : (Builtin.append_ #[t, tn] ty #[.slice (some ⟨g, 0, none⟩) n cap, .int kq k]).run P w = .ok (.slice (some ⟨g, 0, none⟩) (n + k) cap) (w.setRow g (cur.toList.take (n * i.size) ++ (Builtin.zeroCells z.cells k).toList ++ cur.toList.drop (n * i.size + (Builtin.zeroCells z.cells k).toList.length)).toArray) := by
        simp [Builtin.append_, run_underlying ht, run_underlying htn, sizeOf, typeInfo, zeroValue, hi, hz, asInt, asIntOf, hw, hneg, hns, h48i, hroom, Addr.add_lit, hst]
      refine ⟨_, _, hr, ⟨hlen, .inr ⟨g, cap, _, rfl, hbg, setRow_heap w g cur _ e _ hg, hroom, hcm, ?_, ?_⟩⟩, ⟨rfl, rfl, rfl, by simp, fun k _ hk => setRow_other w g k _ (fun e => hk (by simp [Value.ownBlock, e]))⟩, .inl rfl⟩
      · simp only [List.size_toArray, List.length_append, List.length_take, List.length_drop, Array.length_toList]
        simp only [Array.length_toList] at hfit
        omega
      · rw [htake, ← hlen]
        exact List.take_left
    · have holds : ∀ j u, xs[j]? = some u → w.cell? ((⟨g, 0, none⟩ : Addr).add j) = some u := hown.cells (g := g) rfl
      have hf := run_firstCells_some (P := P) w.drew i.size n ⟨g, 0, none⟩ n cap xs hown.1 (fun j u h => holds j u h)
      have hr := Lib.run_append_grow_zeros (P := P) w t tn ty e i z kq kn ht htn hi hz (some ⟨g, 0, none⟩) n cap xs hf k h0 hsz (by omega) (by omega) (by omega) (growslice_fits (by omega) hbytes)
      have hgr := grown cap (by omega) (Value.ownBlock (.slice (some ⟨g, 0, none⟩) n cap))
      exact ⟨_, _, hr, hgr.1, hgr.2, .inr ⟨_, rfl, Nat.le_refl _⟩⟩

section
variable {P : Program} {E : Env} {os : List Ob} {c : Ctx} {n : Nat} {φ : List (Nat × D)} {a : Act}
theorem zeroCells_get (z : Array Value) (k sz i j : Nat) (hz : z.size = sz) (hj : j < sz) (hi : i < k) : (Builtin.zeroCells z k).toList[i * sz + j]? = z[j]? := by
  have hlt : i * sz + j < k * z.size := by
    have : (i + 1) * sz ≤ k * sz := Nat.mul_le_mul_right _ hi
    rw [Nat.add_mul] at this; rw [hz]; omega
  have e : (i * sz + j) % z.size = j := by rw [hz, Nat.mul_comm, Nat.mul_add_mod, Nat.mod_eq_of_lt hj]
  simp only [Builtin.zeroCells, Array.toList_map, Array.toList_range]
  rw [List.getElem?_map, List.getElem?_range hlt]
  simp only [Option.map_some, e]
  rw [getElem!_pos z j (by omega), Array.getElem?_eq_getElem (by omega)]
theorem apz_ref_ok (R : Rel c E os) {t tn ty e : Nat} {i : TypeInfo} {z : Value} {zx : List X} {kq kn : IntKind} (ht : P.underlying t = some (.slice e)) (htn : P.underlying tn = some (.int kn)) (hi : P.info? e = some i) (hz : i.zero = some z) (hzx : zeroX z = some zx) (hzl : zx.length = i.size) (hsz : 0 < i.size) (hby : i.bytes ≤ 128)
    {id : Nat} {rs : List (List X)} {vx : Value} (hx : V E os (.ref id rs.length 0 rs.length) vx) (ho : os[id]? = some (.rows false e i.size rs)) (k : Nat) (h0 : 0 < k) (hle : rs.length + k ≤ 1099511627776) :
    ∃ v E', (Builtin.append_ #[t, tn] ty #[vx, .int kq k]).run P E.w = .ok v E'.w ∧ Rel c E' (os.set id (.rows false e i.size (rs ++ List.replicate k zx))) ∧ Evo E os E' (os.set id (.rows false e i.size (rs ++ List.replicate k zx))) ∧ V E' (os.set id (.rows false e i.size (rs ++ List.replicate k zx))) (.ref id (rs.length + k) 0 (rs.length + k)) v := by
  obtain ⟨z1, z2⟩ := zeroX_ok hzx
  have hzs : z.cells.size = i.size := by rw [← z1, hzl]
  have hz1 : ∀ u ∈ z.cells.toList, u.oneCell' = true := by
    intro u hu
    obtain ⟨j, hj⟩ := List.mem_iff_getElem?.1 hu
    have hj' : z.cells[j]? = some u := by rw [← Array.getElem?_toList]; exact hj
    have hlt : j < z.cells.size := (Array.getElem?_eq_some_iff.1 hj').1
    exact (z2 j (zx[j]'(by omega)) u (List.getElem?_eq_getElem _) hj' E.w E.st).one
  have q8 : ∀ (i' : Nat) (r : List X) (j : Nat) (x : X), (List.replicate k zx)[i']? = some r → r[j]? = some x → ∃ u, (Builtin.zeroCells z.cells k).toList[i' * i.size + j]? = some u ∧ VX E.w E.st x u := by
    intro i' r j x hr hx
    have hi' : i' < k := by have := (List.getElem?_eq_some_iff.1 hr).1; simpa using this
    have hrz : r = zx := (List.mem_replicate.1 (List.mem_of_getElem? hr)).2
    subst hrz
    have hj : j < i.size := by rw [← hzl]; exact (List.getElem?_eq_some_iff.1 hx).1
    rw [zeroCells_get z.cells k i.size i' j hzs hj hi']
    exact ⟨z.cells[j]'(by omega), Array.getElem?_eq_getElem _, z2 j x _ hx (Array.getElem?_eq_getElem _) _ _⟩
  obtain ⟨p, hp, hok⟩ := R.at ho
  obtain ⟨xs, k1, k2, k3⟩ := hok
  have hlt := (List.getElem?_eq_some_iff.1 ho).1
  have hvx : vx = p.2 := by
    obtain ⟨h1, h2⟩ := hx.ref_inv.at ho rfl
    obtain ⟨h3, b, a0, cap, a', cap', h4, h5, h6, h7, h8, h9⟩ := h2 rfl
    rw [hp] at h4
    obtain ⟨h10, h11⟩ := h8 rfl
    rw [h10, h11] at h5
    rw [h5, Option.some.inj h4]
  subst hvx
  have refOf : ∀ {E' : Env} {rs' : List (List X)} {cu : Value} {w' : World} {xs' : List Value}, E'.ob = E.ob.set id (p.1, cu) → Row w' false e i.size rs'.length cu xs' → V E' (os.set id (.rows false e i.size rs')) (.ref id rs'.length 0 rs'.length) cu := by
    intro E' rs' cu w' xs' hob hrow
    have hob' : E'.ob[id]? = some (p.1, cu) := by rw [hob]; simp [R.len, hlt]
    refine .ref ⟨.rows false e i.size rs', i.size, rs', by rw [List.getElem?_set_self hlt], rfl, ?_⟩ ?_
    · refine ⟨Nat.le_refl _, fun _ => ⟨by omega, p.1, ?_⟩⟩
      rcases hrow.2 with ⟨h3, h4⟩ | ⟨g, cap, cells, fr, h3, h4, h5, h6, h7⟩
      · subst h3
        exact ⟨none, 0, none, 0, by rw [hob', h4], by rw [h4], by omega, Nat.zero_le _, fun _ => ⟨rfl, rfl⟩, fun _ ad h => (by cases h), fun _ => ⟨h4, rfl⟩, fun ad h => (by cases h)⟩
      · subst h3
        exact ⟨_, cap, _, cap, hob', rfl, h5, h6, fun _ => ⟨rfl, rfl⟩, fun _ ad h => (by cases h; simp), fun h => (by cases h), fun ad h => (by cases h; rfl)⟩
    · rcases hrow.2 with ⟨h3, h4⟩ | ⟨g, cap, cells, fr, h3, h4, h5, h6, h7⟩ <;> subst h3 <;> rfl
  have hown := k1.owns
  obtain ⟨v', w', hrun, ho', hG⟩ := run_own_append_zeros (P := P) E.w 0 t tn ty e i z kq kn ht htn hi hz hzs hsz hz1 p.2 rs.length xs hown k h0 (by simp only [maxLen]; omega)
    (by have h : (rs.length + k) * i.bytes ≤ 1099511627776 * 128 := Nat.mul_le_mul hle hby
        omega) (Nat.zero_le _)
  have hall : ∀ r ∈ rs ++ List.replicate k zx, r.length = i.size := fun r hr => by
    rcases List.mem_append.1 hr with h | h
    · exact k2 r h
    · rw [(List.mem_replicate.1 h).2]; exact hzl
  have hrow : Row w' false e i.size (rs ++ List.replicate k zx).length v' (xs ++ (Builtin.zeroCells z.cells k).toList) := by rw [List.length_append, List.length_replicate]; exact Row.of_owns ho' false
  obtain ⟨R', ev⟩ := R.set ho hp w' (.rows false e i.size (rs ++ List.replicate k zx)) (p.1, v') (Kept.of_grown hG.grown) (fun b hb => by
    have hb' : v'.ownBlock = some b := hb
    rcases hG.own with h | ⟨g, h, h2⟩
    · left; show p.2.ownBlock = some b; rw [← h]; exact hb'
    · right; rw [h] at hb'; cases hb'; exact .inl h2) (fun sz rs1 h => by
      simp [Ob.slice?] at h; obtain ⟨rfl, rfl⟩ := h; exact ⟨rs ++ List.replicate k zx, rfl, .inr (by simp; omega)⟩) (fun ds h => by cases h) (fun ev => by
      refine ⟨xs ++ (Builtin.zeroCells z.cells k).toList, hrow, hall, fun k' r j x v h1 h2 h3 => ?_⟩
      refine VX.mono (w := E.w) (st := E.st) (fun b o hb => ev.st b o hb) ?_
      exact rows_append k1.1 k3 q8 k' r j x v h1 h2 (by rw [← hall r (List.mem_of_getElem? h1)]; exact (List.getElem?_eq_some_iff.1 h2).1) h3)
  have := refOf (E' := ⟨w', E.st, E.ob.set id (p.1, v')⟩) rfl hrow
  rw [List.length_append, List.length_replicate] at this
  exact ⟨v', _, hrun, R', ev, this⟩
end
end Go.Ab
end
section
/- Copy; all operations that make objects or turn them, in one. -/
namespace Go.Ab
open Go.RowKit Go.Bo

section
variable {P : Program} {E : Env} {os : List Ob} {c : Ctx} {n : Nat} {φ : List (Nat × D)} {a : Act}

theorem src_read (R : Rel c E os) {d : D} {v : Value} (hv : V E os d v) {src : List (List X)} {sz : Nat} (hr : srcOf os sz d = some src) (hz : ∀ r ∈ src, r.length = sz) :
    ∃ news : List Value, news.length = src.length * sz ∧ (∀ k, k ≤ src.length → (Builtin.firstCells sz k v).run P E.w = .ok (news.take (k * sz)).toArray E.w) ∧ (Builtin.lenOf v).run P E.w = .ok src.length E.w ∧
      (∀ u ∈ news, u.oneCell' = true) ∧ ∀ (i : Nat) (r : List X) (j : Nat) (x : X), src[i]? = some r → r[j]? = some x → ∃ u, news[i * sz + j]? = some u ∧ VX E.w E.st x u := by
  have base : rowsOf os d = some src → ∃ news : List Value, news.length = src.length * sz ∧ (∀ k, k ≤ src.length → (Builtin.firstCells sz k v).run P E.w = .ok (news.take (k * sz)).toArray E.w) ∧ (Builtin.lenOf v).run P E.w = .ok src.length E.w ∧
      (∀ u ∈ news, u.oneCell' = true) ∧ ∀ (i : Nat) (r : List X) (j : Nat) (x : X), src[i]? = some r → r[j]? = some x → ∃ u, news[i * sz + j]? = some u ∧ VX E.w E.st x u := by
    intro hr
    obtain ⟨ad, cp, news, rfl, q2, q3, q4, q5, q6, q7, q8⟩ := rows_read R hv hr hz
    refine ⟨news, q4, fun k hks => ?_, by simp [Builtin.lenOf], q7, q8⟩
    cases ad with
    | none =>
      have h0 := q5 rfl
      have : k = 0 := by omega
      subst this
      simp [Builtin.firstCells]
    | some ad =>
      refine run_firstCells_some (P := P) E.w sz k ad src.length cp _ ?_ (fun j u hu => ?_)
      · rw [List.length_take, q4]
        have : k * sz ≤ src.length * sz := Nat.mul_le_mul_right _ hks
        omega
      · have hj := (List.getElem?_eq_some_iff.1 hu).1
        rw [List.length_take] at hj
        rw [List.getElem?_take, if_pos (by omega)] at hu
        exact q6 ad rfl j u hu
  unfold srcOf at hr
  split at hr
  · rename_i s
    split at hr
    · rename_i h1
      subst h1
      cases hr
      cases hv with
      | x hx =>
        cases hx
        refine ⟨s.map fun b => .int .u8 b.toNat, by simp, fun k hk => ?_, ?_, ?_, ?_⟩
        · have : (ByteArray.extract (bstr s) 0 k).data.map (fun b => Value.int .u8 b.toNat) = ((s.map fun b => Value.int .u8 b.toNat).take (k * 1)).toArray := by
            apply Array.toList_inj.1
            simp [bstr, ByteArray.data_extract, List.map_take]
          show (pure _ : Sem _).run P E.w = _
          rw [this]; rfl
        · simp [Builtin.lenOf, bstr_size]
        · intro u hu
          obtain ⟨b, _, rfl⟩ := List.mem_map.1 hu
          rfl
        · intro i r j x h1 h2
          rw [List.getElem?_map] at h1
          obtain ⟨b, hb, rfl⟩ := Option.map_eq_some_iff.1 h1
          cases j with
          | zero =>
            simp [byteRow] at h2
            subst h2
            exact ⟨.int .u8 b.toNat, by simp [hb], .int _ _⟩
          | succ j => simp [byteRow] at h2
    · cases hr
  · exact base hr

theorem cpy_ok (R : Rel c E os) {t u ty e sz : Nat} (ht : P.underlying t = some (.slice e)) (hs : szOf P e = some sz) {id ext off len : Nat} {fz : Bool} {el : Nat} {rs : List (List X)} {vx : Value} (hx : V E os (.ref id ext off len) vx) (ho : os[id]? = some (.rows fz el sz rs)) (hext : rs.length = ext)
    {y : D} {vy : Value} (hy : V E os y vy) {src : List (List X)} (hr : srcOf os sz y = some src) (hrl : ∀ r ∈ src, r.length = sz) :
    ∃ E', (Builtin.copy_ #[t, u] ty #[vx, vy]).run P E.w = .ok (.int .i64 (min src.length len : Nat)) E'.w ∧ Rel c E' (os.set id (.rows fz el sz (rs.take off ++ src.take (min src.length len) ++ rs.drop (off + min src.length len)))) ∧ Evo E os E' (os.set id (.rows fz el sz (rs.take off ++ src.take (min src.length len) ++ rs.drop (off + min src.length len)))) := by
  obtain ⟨news, q4, qf, ql, q7, q8⟩ := src_read (P := P) R hy hr hrl
  obtain ⟨p, hp, hok⟩ := R.at ho
  have hok' := hok
  obtain ⟨xs, k1, k2, k3⟩ := hok'
  have hlt := (List.getElem?_eq_some_iff.1 ho).1
  obtain ⟨h1, h2⟩ := hx.ref_inv.at ho rfl
  obtain ⟨h3, b, a0, cap, a', cap', h4, h5, h6, h7, h8, h9, h10, h11⟩ := h2 hext
  rw [hp] at h4
  have h4 := Option.some.inj h4
  subst h5
  generalize hk : min src.length len = k at *
  have hkl : k ≤ len := by omega
  have hks : k ≤ src.length := by omega
  have hfirst : (Builtin.firstCells sz k vy).run P E.w = .ok (news.take (k * sz)).toArray E.w := qf k hks
  have hmin : Nat.min src.length len = k := hk
  by_cases hk0 : k = 0
  · subst hk0
    have hset : os.set id (.rows fz el sz (rs.take off ++ src.take 0 ++ rs.drop (off + 0))) = os := by
      rw [List.take_zero, List.append_nil, Nat.add_zero, List.take_append_drop]
      apply List.ext_getElem?
      intro j
      rw [List.getElem?_set]
      by_cases hj : id = j
      · subst hj; rw [if_pos rfl, ho]; simp [hlt]
      · simp [hj]
    rw [hset]
    refine ⟨E, ?_, R, Evo.refl _ _⟩
    rw [Nat.zero_mul, List.take_zero] at hfirst
    cases a' <;> simp [Builtin.copy_, run_underlying ht, ql, hmin, run_size hs, hfirst, storeCells, goInt]
  · have hpos : 0 < len := by omega
    obtain ⟨w1, w2, w3, w4, w5, w8⟩ := OK.cap (os := os) (o := .rows fz el sz rs) hok (sz := sz) (rs := rs) rfl (by rw [h4])
    cases a0 with
    | none => have := (w5 rfl).1; omega
    | some ad0 =>
    have ha' := h9 hpos ad0 rfl
    have h0 := w8 ad0 rfl
    have h00 : ad0.off = 0 := by rw [h0]
    subst ha'
    rw [h00, Nat.zero_add] at *
    have hvs : (news.take (k * sz)).length = k * sz := by
      rw [List.length_take, q4]
      have : k * sz ≤ src.length * sz := Nat.mul_le_mul_right _ hks
      omega
    have htot : (off + k) * sz ≤ rs.length * sz := Nat.mul_le_mul_right _ (by omega)
    rw [Nat.add_mul] at htot
    have hlen2 : (src.take k).length = k := by simp; omega
    have hget : ∀ i, (rs.take off ++ src.take k ++ rs.drop (off + k))[i]? = if i < off then rs[i]? else if i < off + k then src[i - off]? else rs[i]? := fun i => by
      have := splice_get rs (src.take k) off i (by omega)
      rw [hlen2] at this
      rw [this]
      by_cases h : i < off
      · simp [h]
      · by_cases h' : i < off + k
        · simp only [h, h', if_true, if_false]
          rw [List.getElem?_take, if_pos (by omega)]
        · simp [h, h']
    obtain ⟨E', e1, e2, e3⟩ := row_write (P := P) R ho hp (g := ad0.block) (cap := cap) (by rw [h4]; simp only; rw [hext, ← h0]) (off * sz) (news.take (k * sz)) (fun u hu => q7 u (List.mem_of_mem_take hu)) (by omega) (rs' := rs.take off ++ src.take k ++ rs.drop (off + k)) (by simp; omega) (fun r hr => by
        rcases List.mem_append.1 hr with h | h
        · rcases List.mem_append.1 h with h | h
          · exact k2 r (List.mem_of_mem_take h)
          · exact hrl r (List.mem_of_mem_take h)
        · exact k2 r (List.mem_of_mem_drop h))
      (fun i r j x hr' hx' hj => by
        rw [hget] at hr'
        rw [hvs] at hj
        have hjs : j < sz := by
          have : r.length = sz := by
            split at hr'
            · exact k2 r (List.mem_of_getElem? hr')
            · split at hr'
              · exact hrl r (List.mem_of_getElem? hr')
              · exact k2 r (List.mem_of_getElem? hr')
          rw [← this]; exact (List.getElem?_eq_some_iff.1 hx').1
        split at hr'
        · exact ⟨r, hr', hx'⟩
        · split at hr'
          · exfalso
            have g1 : off * sz ≤ i * sz := Nat.mul_le_mul_right _ (by omega)
            have g2 : (i + 1) * sz ≤ (off + k) * sz := Nat.mul_le_mul_right _ (by omega)
            rw [Nat.add_mul, Nat.add_mul] at g2
            omega
          · exact ⟨r, hr', hx'⟩)
      (fun i r j x u hr' hx' hj1 hj2 hu => by
        rw [hget] at hr'
        rw [hvs] at hj2
        have hjs : j < sz := by
          have : r.length = sz := by
            split at hr'
            · exact k2 r (List.mem_of_getElem? hr')
            · split at hr'
              · exact hrl r (List.mem_of_getElem? hr')
              · exact k2 r (List.mem_of_getElem? hr')
          rw [← this]; exact (List.getElem?_eq_some_iff.1 hx').1
        have hi1 : ¬ i < off := fun h => by
          have : (i + 1) * sz ≤ off * sz := Nat.mul_le_mul_right _ h
          rw [Nat.add_mul] at this; omega
        have hi2 : i < off + k := by
          rcases Nat.lt_or_ge i (off + k) with h | h
          · exact h
          · have : (off + k) * sz ≤ i * sz := Nat.mul_le_mul_right _ h
            rw [Nat.add_mul] at this; omega
        rw [if_neg hi1, if_pos hi2] at hr'
        obtain ⟨u', g1, g2⟩ := q8 _ r j x hr' hx'
        rw [List.getElem?_take, if_pos (by omega)] at hu
        have e : i * sz + j - off * sz = (i - off) * sz + j := by
          rw [Nat.sub_mul]
          have : off * sz ≤ i * sz := Nat.mul_le_mul_right _ (by omega)
          omega
        rw [e, g1] at hu
        cases hu
        exact g2)
    refine ⟨E', ?_, e2, e3⟩
    simp [Builtin.copy_, run_underlying ht, ql, hmin, run_size hs, hfirst, e1, goInt]

theorem acts_value {o : Oper} {d : D} {os' : List Ob} {s : Sem Value} (h : execOp a.eval o = (do pure (Next.value (← s)))) (hr : ∃ v E', s.run P E.w = .ok v E'.w ∧ Rel c E' os' ∧ Evo E os E' os' ∧ V E' os' d v) : Acts P c E os o a d os' := by
  obtain ⟨v, E', h1, h2, h3, h4⟩ := hr
  exact ⟨_, E', val_run' h h1, h2, h3, .value h4⟩

theorem compElems_ok : ∀ {i : Nat} {parts : List (Nat × Operand)} {ys : List IO}, compElems i parts = some ys → (parts.map (·.2)).mapM compO = some ys ∧ parts.map (·.1) = List.range' i parts.length
  | i, [], ys, h => by cases h; exact ⟨rfl, rfl⟩
  | i, (j, x) :: l, ys, h => by
    simp only [compElems] at h
    split at h
    · rename_i hj
      simp only [Option.bind_eq_bind, Option.bind_eq_some_iff] at h
      obtain ⟨y, hy, r, hr, h⟩ := h
      cases h
      obtain ⟨h1, h2⟩ := compElems_ok hr
      subst hj
      refine ⟨?_, ?_⟩
      · simp [List.mapM_cons, hy, h1]
      · simp [List.range'_succ, h2]
    · cases h

theorem parts_zip (f : Operand → Value) : ∀ (l : List (Nat × Operand)) (i : Nat), l.map (·.1) = List.range' i l.length → l.map (fun p => (p.1, f p.2)) = (((l.map (·.2)).map f).zipIdx i).map fun p => (p.2, p.1)
  | [], i, h => rfl
  | (j, x) :: l, i, h => by
    simp [List.range'_succ] at h
    obtain ⟨rfl, h⟩ := h
    simp only [List.map_cons, List.zipIdx_cons]
    rw [parts_zip f l (j + 1) h]

def IE.isAct : IE → Bool
  | .box _ | .sto _ _ _ | .bsl _ _ _ _ | .mks _ _ _ _ _ _ | .app _ _ _ _ _ | .apz _ _ _ _ _ _ | .cpy _ _ _ | .s2b _ _ | .abx _ _ | .asl _ _ _ | .mkm _ _ | .mup _ _ _ _ | .mdl _ _ _ | .men _ _ _ _ | .est _ _ _ | .mcl _ | .rgm _ | .rgs _ => true
  | _ => false
def NA (x : Option IE) : Prop := ∀ e, x = some e → e.isAct = false
theorem NA.none : NA none := fun e h => by cases h
theorem NA.some {e : IE} (h : e.isAct = false) : NA (some e) := fun e' h' => by cases h'; exact h
theorem NA.bind {α : Type} {x : Option α} {f : α → Option IE} (h : ∀ y, NA (f y)) : NA (x.bind f) := fun e he => by
  obtain ⟨y, _, h2⟩ := Option.bind_eq_some_iff.1 he; exact h y e h2
theorem NA.bind' {α : Type} {x : Option α} {f : α → Option IE} (h : ∀ y, NA (f y)) : NA (x >>= f) := NA.bind h
theorem NA.map {α : Type} {x : Option α} {f : α → IE} (h : ∀ y, (f y).isAct = false) : NA (x.map f) := fun e he => by
  obtain ⟨y, _, rfl⟩ := Option.map_eq_some_iff.1 he; exact h y
theorem isAct_of {e : IE} {r : Bool × D × List Ob} (h : aact φ os e = some r) : e.isAct = true := by
  cases e <;> first | rfl | (simp [aact] at h)

theorem mkm_ok (R : Rel c E os) (dk : KK) (hd : ∀ a b, dk ≠ .st a b) (ag : Bool) (t : Nat) :
    ∃ v E', (Instr.makeMap t none).run P E.w = .ok v E'.w ∧ Rel c E' (os ++ [.mpo dk ag []]) ∧ Evo E os E' (os ++ [.mpo dk ag []]) ∧ V E' (os ++ [.mpo dk ag []]) (.mref os.length) v := by
  obtain ⟨R', ev⟩ := R.push (E.w.alloc (.map #[] 0)) (.mpo dk ag []) (E.w.heap.size, undef) (kept_alloc _ _) (fun b hb => by cases hb; exact Nat.le_refl _) (fun _ => MapO.new _ _ E.w rfl dk hd ag)
  refine ⟨.map (some E.w.heap.size), _, ?_, R', ev, .mref (dk := dk) (ag := ag) (o := .mpo dk ag []) (cu := undef) (by simp) rfl (by show (E.ob ++ [_])[os.length]? = _; rw [← R.len]; simp)⟩
  rfl
/-- A map holds other pairs. -/
theorem mset_ok (R : Rel c E os) {id : Nat} {o : Ob} (ho : os[id]? = some o) {dk : KK} {ag : Bool} {l : List Pr} (hu : o.upd? = some (dk, ag, l)) {p : Nat × Value} (hp : E.ob[id]? = some p) {w' : World} (hO : Only p.1 E.w w') {o' : Ob} {l' : List Pr} (hu' : o'.upd? = some (dk, ag, l'))
    (hok : Evo E os ⟨w', E.st, E.ob.set id p⟩ (os.set id o') → OK ⟨w', E.st, E.ob.set id p⟩ (os.set id o') o' p) :
    Rel c ⟨w', E.st, E.ob.set id p⟩ (os.set id o') ∧ Evo E os ⟨w', E.st, E.ob.set id p⟩ (os.set id o') := by
  obtain ⟨_, k2, k3, k4⟩ := Ob.upd_spec hu
  obtain ⟨_, k2', k3', k4'⟩ := Ob.upd_spec hu'
  exact R.set ho hp w' o' p ⟨hO.os, hO.tape, hO.output, by rw [hO.size]; exact Nat.le_refl _, fun k _ hm => hO.block k (fun e => hm ((k4 p k).2 e.symm))⟩ (fun b hb => .inl ((k4 p b).2 ((k4' p b).1 hb))) (fun sz rs h => by rw [k3] at h; cases h) (fun k h => ⟨rfl, by rw [k2] at h; rw [k2']; exact h⟩) hok
theorem mup_ok (R : Rel c E os) {id : Nat} {o : Ob} (ho : os[id]? = some o) {dk : KK} {ag : Bool} {l : List Pr} (huo : o.upd? = some (dk, ag, l)) {vm : Value} (hm : V E os (.mref id) vm) {key : List X} {kd : D} {kv : Value} (hk : keyOf dk kd = some key) (hv : V E os kd kv) {u : Value} {xs : List D} (hu : VC E os ag xs u)
    {T kt elem : TypeId} (hT : P.underlying T = some (.map kt elem)) (hd : P.underlying kt = some (kkD dk)) :
    ∃ E', (Instr.mapUpdate T vm kv u).run P E.w = .ok () E'.w ∧ Rel c E' (os.set id (.mpo dk ag (msetX l key xs))) ∧ Evo E os E' (os.set id (.mpo dk ag (msetX l key xs))) := by
  cases hm with
  | mref ho' hk' hb =>
    obtain ⟨p, hp, hok⟩ := R.at ho
    rw [hp] at hb; cases hb
    obtain ⟨w', g1, g2, g3⟩ := MapO.up (P := P) (hok.map (Ob.upd_spec huo).1) hk hv hT hd hu
    obtain ⟨R', ev⟩ := mset_ok R ho huo hp g2 (o' := .mpo dk ag (msetX l key xs)) rfl (fun ev => g3 _ _ rfl ev)
    exact ⟨_, g1, R', ev⟩
theorem mdl_ok (R : Rel c E os) {id : Nat} {o : Ob} (ho : os[id]? = some o) {dk : KK} {ag : Bool} {l : List Pr} (huo : o.upd? = some (dk, ag, l)) {vm : Value} (hm : V E os (.mref id) vm) {key : List X} {kd : D} {kv : Value} (hk : keyOf dk kd = some key) (hv : V E os kd kv)
    {T kt elem : TypeId} (hT : P.underlying T = some (.map kt elem)) (hd : P.underlying kt = some (kkD dk)) (ty ts : TypeId) :
    ∃ v E', (Builtin.delete_ #[T, ts] ty #[vm, kv]).run P E.w = .ok v E'.w ∧ Rel c E' (os.set id (.mpo dk ag (mdelX l key))) ∧ Evo E os E' (os.set id (.mpo dk ag (mdelX l key))) ∧ V E' (os.set id (.mpo dk ag (mdelX l key))) (.tup []) v := by
  cases hm with
  | mref ho' hk' hb =>
    obtain ⟨p, hp, hok⟩ := R.at ho
    rw [hp] at hb; cases hb
    obtain ⟨w', g1, g2, g3⟩ := MapO.del (P := P) (hok.map (Ob.upd_spec huo).1) hk hv hT hd ty ts
    obtain ⟨R', ev⟩ := mset_ok R ho huo hp g2 (o' := .mpo dk ag (mdelX l key)) rfl (fun ev => g3 _ _ rfl ev)
    exact ⟨_, _, g1, R', ev, .tup #[] rfl (fun j d v h => by simp at h)⟩
theorem mcl_ok (R : Rel c E os) {id : Nat} {o : Ob} (ho : os[id]? = some o) {dk : KK} {ag : Bool} {l : List Pr} (huo : o.upd? = some (dk, ag, l)) {vm : Value} (hm : V E os (.mref id) vm)
    {T kt elem : TypeId} (hT : P.underlying T = some (.map kt elem)) (ty : TypeId) :
    ∃ v E', (Builtin.clear_ #[T] ty #[vm]).run P E.w = .ok v E'.w ∧ Rel c E' (os.set id (.mpo dk ag [])) ∧ Evo E os E' (os.set id (.mpo dk ag [])) ∧ V E' (os.set id (.mpo dk ag [])) (.tup []) v := by
  cases hm with
  | mref ho' hk' hb =>
    obtain ⟨p, hp, hok⟩ := R.at ho
    rw [hp] at hb; cases hb
    obtain ⟨w', g1, g2, g3⟩ := MapO.clear (P := P) (hok.map (Ob.upd_spec huo).1) hT ty
    obtain ⟨R', ev⟩ := mset_ok R ho huo hp g2 (o' := .mpo dk ag []) rfl (fun ev => g3 _ _ rfl)
    exact ⟨_, _, g1, R', ev, .tup #[] rfl (fun j d v h => by simp at h)⟩
theorem men_ok (R : Rel c E os) {id : Nat} {o : Ob} (ho : os[id]? = some o) {dk : KK} {ag : Bool} {l : List Pr} (huo : o.upd? = some (dk, ag, l)) {vm : Value} (hm : V E os (.mref id) vm) {key : List X} {kd : D} {kv : Value} (hk : keyOf dk kd = some key) (hv : V E os kd kv)
    {T kt elem : TypeId} (hT : P.underlying T = some (.map kt elem)) (hd : P.underlying kt = some (kkD dk)) {z : Value} (hz : (zeroValue elem).run P E.w = .ok z E.w) {zs : List D} (hzs : VC E os ag zs z)
    (hko : keyOk dk key = true) :
    ∃ v E', (Instr.mapEntry T vm kv).run P E.w = .ok v E'.w ∧ Rel c E' (os.set id (.mpn dk ag (msetX l key ((mgetX l key).getD zs)) key os.length) ++ [.stp]) ∧ Evo E os E' (os.set id (.mpn dk ag (msetX l key ((mgetX l key).getD zs)) key os.length) ++ [.stp]) ∧
      V E' (os.set id (.mpn dk ag (msetX l key ((mgetX l key).getD zs)) key os.length) ++ [.stp]) (.tup [cellD ag ((mgetX l key).getD zs), .stk id os.length]) v := by
  have hlt := (List.getElem?_eq_some_iff.1 ho).1
  cases hm with
  | mref ho' hk' hb =>
    obtain ⟨p, hp, hok⟩ := R.at ho
    have hpb : p.1 = _ := congrArg Prod.fst (Option.some.inj (hp.symm.trans hb))
    simp only at hpb
    subst hpb
    obtain ⟨w', v, n, g1, g2, g3, g4, g5⟩ := MapO.entry (P := P) (hok.map (Ob.upd_spec huo).1) hk hv hT hd hz hzs
    obtain ⟨R1, e1⟩ := R.push E.w .stp (n, undef) (Kept.refl _ _) (fun b hb => hb.elim) (fun _ => trivial)
    have ho1 : (os ++ [Ob.stp])[id]? = some o := by rw [List.getElem?_append_left hlt]; exact ho
    have hp1 : (E.ob ++ [(n, undef)])[id]? = some p := by rw [List.getElem?_append_left (by rw [R.len]; exact hlt)]; exact hp
    have hs1 : ∀ x, ((os ++ [Ob.stp]).set id x)[os.length]? = some .stp := fun x => by
      rw [List.getElem?_set, if_neg (by omega)]; simp
    have hb1 : ((E.ob ++ [(n, undef)]).set id p)[os.length]? = some (n, undef) := by
      rw [List.getElem?_set, if_neg (by omega), ← R.len]; simp
    obtain ⟨R', ev⟩ := mset_ok (E := ⟨E.w, E.st, E.ob ++ [(n, undef)]⟩) R1 ho1 huo hp1 g2 (o' := .mpn dk ag (msetX l key ((mgetX l key).getD zs)) key os.length) rfl (fun ev => ⟨g4 _ _ rfl (e1.trans ev), by
      obtain ⟨es, clk, e, q1, q2, q3, q4⟩ := g5
      exact ⟨n, undef, .stp, es, clk, e, hs1 _, rfl, hb1, q1, q2, q3, q4, hko⟩⟩)
    have e : (os ++ [Ob.stp]).set id (.mpn dk ag (msetX l key ((mgetX l key).getD zs)) key os.length) = os.set id (.mpn dk ag (msetX l key ((mgetX l key).getD zs)) key os.length) ++ [.stp] := by
      rw [List.set_append_left _ _ hlt]
    rw [e] at R' ev
    refine ⟨_, _, g1, R', e1.trans ev, V.tupP ((V.cell g3).mono (e1.trans ev)) (.stk (o := .stp) (cu := undef) ?_ rfl hb1)⟩
    rw [← e]; exact hs1 _
theorem est_ok (R : Rel c E os) {id sid : Nat} {dk : KK} {ag : Bool} {l : List Pr} {key : List X} (ho : os[id]? = some (.mpn dk ag l key sid)) {vm vs : Value} (hm : V E os (.mref id) vm) (hs : V E os (.stk id sid) vs) {u : Value} {xs : List D} (hu : VC E os ag xs u) (T : TypeId) :
    ∃ E', (Instr.entryStore T vm vs u).run P E.w = .ok () E'.w ∧ Rel c E' (os.set id (.mpo dk ag (msetX l key xs))) ∧ Evo E os E' (os.set id (.mpo dk ag (msetX l key xs))) := by
  cases hm with
  | mref ho' hk' hb =>
    cases hs with
    | stk hso hsk hsb =>
      obtain ⟨p, hp, hok⟩ := R.at ho
      rw [hp] at hb; cases hb
      obtain ⟨n, cu, o, es, clk, e, q1, q2, q3, q4, q5, q6, q7, q8⟩ := hok.2
      rw [q3] at hsb; cases hsb
      obtain ⟨w', g1, g2, g3⟩ := MapO.store (P := P) (T := T) hok.1 ⟨_, _, keyOf_keyD q8, V.keyD E os dk key⟩ hu ⟨es, clk, e, q4, q5, q6, q7⟩
      obtain ⟨R', ev⟩ := mset_ok R ho (l := l) rfl hp g2 (o' := .mpo dk ag (msetX l key xs)) rfl (fun ev => g3 _ _ rfl ev)
      exact ⟨_, g1, R', ev⟩
theorem rgm_ok (R : Rel c E os) {id : Nat} {o : Ob} (ho : os[id]? = some o) {dk : KK} {ag : Bool} {l : List Pr} (huo : o.upd? = some (dk, ag, l)) {vm : Value} (hm : V E os (.mref id) vm) {T kt elem : TypeId} (hT : P.underlying T = some (.map kt elem)) :
    ∃ v E', (Instr.range T vm).run P E.w = .ok v E'.w ∧ Rel c E' (os.set id (.mit dk ag l os.length l none) ++ [.itr]) ∧ Evo E os E' (os.set id (.mit dk ag l os.length l none) ++ [.itr]) ∧ V E' (os.set id (.mit dk ag l os.length l none) ++ [.itr]) (.iref id os.length) v := by
  have hlt := (List.getElem?_eq_some_iff.1 ho).1
  obtain ⟨_, s2, s3, s4⟩ := Ob.upd_spec huo
  cases hm with
  | mref ho' hk' hb =>
    obtain ⟨p, hp, hok⟩ := R.at ho
    have hpb : p.1 = _ := congrArg Prod.fst (Option.some.inj (hp.symm.trans hb))
    simp only at hpb
    subst hpb
    have hMO := hok.map (Ob.upd_spec huo).1
    obtain ⟨es, clk, m1, m2, m3, m4⟩ := hMO.pairs
    have hrun := run_range_map (P := P) E.w T kt elem p.1 es clk hT m1
    obtain ⟨R1, e1⟩ := R.push (E.w.alloc (.mapIter (some p.1) clk #[] clk)) .itr (E.w.heap.size, undef) (kept_alloc _ _) (fun b hb => hb.elim) (fun _ => trivial)
    have ho1 : (os ++ [Ob.itr])[id]? = some o := by rw [List.getElem?_append_left hlt]; exact ho
    have hp1 : (E.ob ++ [(E.w.heap.size, undef)])[id]? = some p := by rw [List.getElem?_append_left (by rw [R.len]; exact hlt)]; exact hp
    have hs1 : ∀ x, ((os ++ [Ob.itr]).set id x)[os.length]? = some .itr := fun x => by
      rw [List.getElem?_set, if_neg (by omega)]; simp
    have hb1 : ∀ x, ((E.ob ++ [(E.w.heap.size, undef)]).set id x)[os.length]? = some (E.w.heap.size, undef) := fun x => by
      rw [List.getElem?_set, if_neg (by omega), ← R.len]; simp
    have hpl : p.1 < E.w.heap.size := (Array.getElem?_eq_some_iff.1 m1).1
    obtain ⟨R', ev⟩ := R1.set ho1 hp1 (E.w.alloc (.mapIter (some p.1) clk #[] clk)) (.mit dk ag l os.length l none) (p.1, .pointer (some ⟨E.w.heap.size, 0, none⟩)) (Kept.refl _ _) (fun b hb => by
      rcases hb with hb | hb
      · exact .inl ((s4 p b).2 hb)
      · simp only [Value.pointer.injEq, Option.some.injEq, Addr.mk.injEq, and_true] at hb
        subst hb
        refine .inr (.inr ⟨fun off hs => absurd (R.stm _ off hs).1 (Nat.lt_irrefl _), fun i o2 p2 h1 h2 h3 => ?_, .inr R.kept.size⟩)
        by_cases hi : i < os.length
        · rw [List.getElem?_append_left hi] at h1
          have h2' : E.ob[i]? = some p2 := by
            have h2' : (E.ob ++ [(E.w.heap.size, undef)])[i]? = some p2 := h2
            rwa [List.getElem?_append_left (by rw [R.len]; exact hi)] at h2'
          exact absurd ((R.ok i o2 p2 h1 h2').lt h3) (Nat.lt_irrefl _)
        · have hl := (List.getElem?_eq_some_iff.1 h1).1
          simp at hl
          have : i = os.length := by omega
          subst this
          rw [List.getElem?_append_right (by omega)] at h1
          simp at h1
          subst h1
          exact h3) (fun sz rs h => by rw [s3] at h; cases h) (fun k h => ⟨rfl, by rw [s2] at h; exact h⟩) (fun ev => by
        have ev' := e1.trans ev
        refine ⟨hMO.mono ev' (heap_alloc_old E.w _ hpl), E.w.heap.size, undef, es, clk, clk, #[], clk, .itr, rfl, hs1 _, rfl, hb1 _, heap_alloc_new E.w _, ?_, m3, ⟨Nat.le_refl _, Nat.le_refl _⟩, m4, ?_, fun q hq => by cases hq⟩
        · show (E.w.alloc _).heap[p.1]? = _
          rw [heap_alloc_old E.w _ hpl]; exact m1
        · have e : (leftOf es #[]).toList = es.toList := by simp [leftOf]
          rw [e]
          exact m2.mono ev')
    have e : (os ++ [Ob.itr]).set id (.mit dk ag l os.length l none) = os.set id (.mit dk ag l os.length l none) ++ [.itr] := by
      rw [List.set_append_left _ _ hlt]
    rw [e] at R' ev
    refine ⟨_, _, hrun, R', e1.trans ev, .iref (o := .itr) (cu := undef) ?_ rfl (hb1 _)⟩
    rw [← e]; exact hs1 _
theorem rgn_ok (R : Rel c E os) {vm : Value} (hm : V E os .mnil vm) {T kt elem : TypeId} (hT : P.underlying T = some (.map kt elem)) :
    ∃ v E', (Instr.range T vm).run P E.w = .ok v E'.w ∧ Rel c E' (os ++ [.nit]) ∧ Evo E os E' (os ++ [.nit]) ∧ V E' (os ++ [.nit]) (.iref os.length os.length) v := by
  obtain rfl := hm.mnil_inv
  obtain ⟨R', ev⟩ := R.push (E.w.alloc (.mapIter none 0 #[] 0)) .nit (E.w.heap.size, undef) (kept_alloc _ _) (fun b hb => by cases hb; exact Nat.le_refl _) (fun _ => ⟨0, #[], 0, heap_alloc_new _ _⟩)
  exact ⟨_, _, run_range_nilMap (P := P) E.w T kt elem hT, R', ev, .iref (o := .nit) (cu := undef) (by simp) rfl (by show (E.ob ++ [_])[os.length]? = _; rw [← R.len]; simp)⟩
theorem rgs_ok (R : Rel c E os) (s : List UInt8) {T : TypeId} (hT : P.underlying T = some .string) :
    ∃ v E', (Instr.range T (.string (bstr s))).run P E.w = .ok v E'.w ∧ Rel c E' (os ++ [.sit s 0]) ∧ Evo E os E' (os ++ [.sit s 0]) ∧ V E' (os ++ [.sit s 0]) (.iref os.length os.length) v := by
  obtain ⟨R', ev⟩ := R.push (E.w.alloc (.stringIter (bstr s) 0)) (.sit s 0) (E.w.heap.size, undef) (kept_alloc _ _) (fun b hb => by cases hb; exact Nat.le_refl _) (fun _ => heap_alloc_new _ _)
  refine ⟨.pointer (some ⟨E.w.heap.size, 0, none⟩), _, ?_, R', ev, .iref (o := .sit s 0) (cu := undef) (by simp) rfl (by show (E.ob ++ [_])[os.length]? = _; rw [← R.len]; simp)⟩
  simp [Instr.range, run_underlying hT]
theorem VX.not_agg {w : World} {st : Nat → Nat → Prop} {x : X} {v : Value} (h : VX w st x v) : ∀ cs, v ≠ .agg cs := by
  cases h <;> (intro cs e; cases e)
theorem V.not_agg {d : D} {v : Value} (h : V E os d v) (hd : agD d = false) {cs : List D} (hc : d.cells? = some cs) : cs.length = 1 ∧ ∀ cs, v ≠ .agg cs := by
  cases h with
  | x h => simp [D.cells?] at hc; subst hc; exact ⟨rfl, h.not_agg⟩
  | ref h h1 => simp [D.cells?] at hc; subst hc; exact ⟨rfl, fun cs e => by subst e; simp [Value.oneCell'] at h1⟩
  | ptr ho h => simp [D.cells?] at hc; subst hc; exact ⟨rfl, fun cs e => by cases e⟩
  | mref ho hk h => simp [D.cells?] at hc; subst hc; exact ⟨rfl, fun cs e => by cases e⟩
  | mnil => simp [D.cells?] at hc; subst hc; exact ⟨rfl, fun cs e => by cases e⟩
  | iref ho hk h => simp [D.cells?] at hc; subst hc; exact ⟨rfl, fun cs e => by cases e⟩
  | stk ho hk h => simp [D.cells?] at hc; subst hc; exact ⟨rfl, fun cs e => by cases e⟩
  | bref ho h hm => simp [D.cells?] at hc; subst hc; exact ⟨rfl, fun cs e => by cases e⟩
  | eptr h h1 => simp [D.cells?] at hc; subst hc; exact ⟨rfl, fun cs e => by obtain ⟨ad, rfl⟩ := h1; cases e⟩
  | vptr b off val h1 h2 => simp [D.cells?] at hc; subst hc; exact ⟨rfl, fun cs e => by cases e⟩
  | agg vs hl h1 hv => simp [agD] at hd
  | tup vs hl hv => cases hc
  | full n h => simp [D.cells?] at hc; subst hc; exact ⟨rfl, fun cs e => by cases e⟩
  | nz h => simp [D.cells?] at hc; subst hc; exact ⟨rfl, fun cs e => by cases e⟩
  | fn vs hl hv => simp [D.cells?] at hc; subst hc; exact ⟨rfl, fun cs e => by cases e⟩
  | opt h1 h2 => cases hc
  | und v => cases hc
theorem V.is_agg {d : D} {v : Value} (h : V E os d v) (hd : agD d = true) : ∃ cs, v = .agg cs := by
  cases h with
  | agg vs hl h1 hv => exact ⟨vs, rfl⟩
  | _ => simp [agD] at hd
theorem VC.of {d : D} {v : Value} (h : V E os d v) {cs : List D} (hc : d.cells? = some cs) (hs : v.cells.size = cs.length) (h1 : ∀ u ∈ v.cells.toList, u.oneCell' = true)
    (hx : ∀ (j : Nat) (x : D) (u : Value), cs[j]? = some x → v.cells[j]? = some u → V E os x u) : VC E os (agD d) cs v := by
  refine ⟨?_, hs, fun j x u hj hu => ⟨hx j x u hj hu, h1 u ?_⟩⟩
  · split
    · rename_i ha; exact h.is_agg ha
    · rename_i ha
      exact h.not_agg (by simpa using ha) hc
  · rw [← Array.getElem?_toList] at hu; exact List.mem_of_getElem? hu

/-- A variable for an array: a row of one element. -/
theorem abx_ok (R : Rel c E os) {t : Nat} {cs : List D} {cells : Array Value} {xs : List X} {os1 : List Ob} (q1 : cells.size = cs.length) (q3 : ∀ (j : Nat) (d : D) (u : Value), cs[j]? = some d → cells[j]? = some u → V E os d u)
    (hfz : freezeL os cs = some (xs, os1)) :
    ∃ E', E'.w = E.w.alloc (.cells cells t) ∧ Rel c E' (os1 ++ [.rows false t xs.length [xs]]) ∧ Evo E os E' (os1 ++ [.rows false t xs.length [xs]]) ∧ V E' (os1 ++ [.rows false t xs.length [xs]]) (.eptr os1.length 1 0 0) (.pointer (some ⟨E.w.heap.size, 0, none⟩)) := by
  obtain ⟨st', R1, e1, k1, k2⟩ := freezeL_ok (vs := cells.toList) R (fun j d u hd hu => q3 j d u hd (by simpa using hu)) (by simpa using q1.symm) hfz
  have hxl : xs.length = cells.size := by simpa using k1
  have hk := kept_alloc E.w (.cells cells t)
  have hrow : Row (E.w.alloc (.cells cells t)) false t xs.length [xs].length (.slice (some ⟨E.w.heap.size, 0, none⟩) 1 1) cells.toList := by
    refine ⟨by simp [hxl], .inr ⟨E.w.heap.size, 1, cells, (0, 0), rfl, heap_alloc_new E.w _, Nat.le_refl _, by unfold maxLen; decide, ?_, ?_, .inl rfl⟩⟩
    · simp [hxl]
    · rw [hxl]
      exact List.take_of_length_le (by simp)
  obtain ⟨E', w1, w2, w3, w4⟩ := push_row (E := ⟨E.w, st', E.ob⟩) R1 hk hrow (fun b hb => by simp only [Value.ownBlock, Option.some.injEq] at hb; subst hb; exact Nat.le_refl _) (fun r hr => by simp only [List.mem_singleton] at hr; rw [hr])
    (fun i r j x v h1 h2 h3 => by
      match i with
      | 0 =>
        simp only [List.getElem?_cons_zero, Option.some.injEq] at h1
        subst h1
        rw [Nat.zero_mul, Nat.zero_add] at h3
        exact k2 j x v h2 h3
      | i + 1 => simp at h1)
  refine ⟨E', w1, w2, e1.trans w3, ?_⟩
  cases w4 with
  | ref hr _ =>
    obtain ⟨o, sz, rs, q1, q2, q3, q4⟩ := hr
    have hlt : (os1 ++ [Ob.rows false t xs.length [xs]])[os1.length]? = some (.rows false t xs.length [xs]) := by simp
    rw [hlt] at q1; cases q1
    simp only [Ob.slice?, Option.some.injEq, Prod.mk.injEq] at q2
    obtain ⟨rfl, rfl⟩ := q2
    obtain ⟨_, b, ad, cap, a', cap', g1, g2, _, _, g3, _⟩ := q4 rfl
    obtain ⟨g4, _⟩ := g3 rfl
    simp only [Value.slice.injEq] at g2
    obtain ⟨g5, _, _⟩ := g2
    rw [← g5] at g4
    rw [← g4] at g1
    exact .eptr ⟨_, _, [xs], hlt, rfl, Nat.le_refl _, fun _ => ⟨by decide, b, E.w.heap.size, cap, g1, by simp⟩⟩ ⟨_, rfl⟩

/-- A part of it as a slice: from then on it no longer turns. -/
theorem asl_ok (R : Rel c E os) {id ext i : Nat} {fz : Bool} {e sz : Nat} {rs : List (List X)} (ho : os[id]? = some (.rows fz e sz rs)) {vp : Value} (hp : V E os (.eptr id ext i 0) vp) {r : List X} (hr : rs[i]? = some r) (hext : rs.length = ext)
    {t el : Nat} (ht : P.underlying t = some (.array sz el)) (hsz : szOf P el = some 1) (hm : sz ≤ 16777216) {hi : Option Value} {h : Nat} (hb : Bnd none hi sz 0 h) (hle : h ≤ sz) :
    ∃ v E', (Instr.sliceAt t vp none hi none).run P E.w = .ok v E'.w ∧ Rel c E' (os.set id (.frz sz rs)) ∧ Evo E os E' (os.set id (.frz sz rs)) ∧ V E' (os.set id (.frz sz rs)) (.x (.sl ((r.take h).map fun y => [y]))) v := by
  have hp0 := hp
  cases hp0 with
  | eptr hq _ =>
    obtain ⟨h1, h2⟩ := hq.at ho rfl
    obtain ⟨h3, b, g, cap, h4, h5⟩ := h2 hext
    obtain ⟨R', ev⟩ := R.freeze ho h4
    have hlt := (List.getElem?_eq_some_iff.1 ho).1
    have ho' : (os.set id (.frz sz rs))[id]? = some (.frz sz rs) := by simp [hlt]
    obtain ⟨_, g', xs, w1, w2, w3, w4, w5, w6⟩ := eptr_cells R' (hp.mono ev) ho' rfl hext
    rw [h5] at w1
    simp only [Value.pointer.injEq, Option.some.injEq, Addr.mk.injEq, and_true] at w1
    obtain ⟨rfl, _⟩ := w1
    have hrl : r.length = sz := w5 r (List.mem_of_getElem? hr)
    subst h5
    refine ⟨_, ⟨E.w, fun b off => E.st b off ∨ (Value.ownBlock (.slice (some ⟨g, 0, none⟩) ext cap) = some b ∧ off < rs.length * sz), E.ob⟩, run_asl ht hsz _ hb E.w, R', ev, .x ?_⟩
    have hi1 : i * sz + sz ≤ rs.length * sz := by
      have : (i + 1) * sz ≤ rs.length * sz := Nat.mul_le_mul_right _ (by omega)
      rw [Nat.add_mul] at this; omega
    have hval : ∀ (k : Nat) (y : X), r[k]? = some y → ∃ u, xs[i * sz + k]? = some u ∧ VX E.w (fun b off => E.st b off ∨ (Value.ownBlock (.slice (some ⟨g, 0, none⟩) ext cap) = some b ∧ off < rs.length * sz)) y u := fun k y hy => w6 i r k y hr hy
    refine .sl _ _ h sz 1 (fun k _ => xs.getD (i * sz + k) undef) (by simp; omega) hle (by unfold maxLen; omega) (fun q hq => ?_) (fun k j hk hj => ?_) (fun hn => by simp at hn) (fun _ ad had => by simp at had; rw [← had]) (fun k j q x hq hx => ?_)
    · obtain ⟨y, _, rfl⟩ := List.mem_map.1 hq; rfl
    · obtain rfl : j = 0 := by omega
      obtain ⟨y, hy⟩ : ∃ y, r[k]? = some y := ⟨r[k]'(by omega), List.getElem?_eq_getElem _⟩
      obtain ⟨u, hu, _⟩ := hval k y hy
      refine ⟨g, i * sz + 0, rfl, .inr ⟨rfl, by omega⟩, ?_⟩
      rw [Nat.mul_one, Nat.add_zero, Nat.add_zero, List.getD_eq_getElem?_getD, hu]
      exact w3 _ u hu
    · rw [List.getElem?_map] at hq
      obtain ⟨y, hy, rfl⟩ := Option.map_eq_some_iff.1 hq
      match j with
      | 0 =>
        simp only [List.getElem?_cons_zero, Option.some.injEq] at hx
        subst hx
        rw [List.getElem?_take] at hy
        split at hy
        · obtain ⟨u, hu, hv⟩ := hval k y hy
          show VX _ _ y (xs.getD (i * sz + k) undef)
          rw [List.getD_eq_getElem?_getD, hu]
          exact hv
        · cases hy
      | j + 1 => simp at hx
set_option maxHeartbeats 2000000 in
theorem aact_run (R : Rel c E os) (hf : Fr n E os φ a) {o : Oper} {e : IE} (hc : compOp P o.op = some e) {d : D} {os' : List Ob} (h : aact φ os e = some (true, d, os')) : Acts P c E os o a d os' := by
  obtain ⟨dst, op, ty, pos, after, guard⟩ := o
  simp only at hc
  cases op <;> simp only [compOp] at hc <;> (try cases hc)
  case alloc t =>
    simp only [Option.bind_eq_some_iff, Option.map_eq_some_iff] at hc
    obtain ⟨i, hi, z, hz, hc⟩ := hc
    split at hc
    · subst hc
      simp only [aact, Option.bind_eq_some_iff, Option.map_eq_some_iff] at h
      obtain ⟨cs, hcs, q, hq, h⟩ := h
      simp at h
      obtain ⟨_, rfl, rfl⟩ := h
      have hcs : (constD z).cells? = some cs := by
        have : (constD z).val = constD z := by unfold constD constD1; split <;> (try split) <;> (try split) <;> rfl
        rw [← this]; exact hcs
      obtain ⟨q1, q2, q3⟩ := (V.const E os z).cells hcs
      obtain ⟨E', k1, k2, k3, k4⟩ := abx_ok R (t := t) q1 q3 hq
      refine acts_value (s := Instr.alloc t true (.tuple #[])) rfl ⟨_, E', ?_, k2, k3, k4⟩
      rw [k1]
      simp [Instr.alloc, zeroValue, run_info hi, hz, newVar, newRow]
    subst hc
    simp only [aact, Option.map_eq_some_iff] at h
    obtain ⟨cs, hcs, h⟩ := h
    simp at h
    obtain ⟨_, rfl, rfl⟩ := h
    have hcs : (constD z).cells? = some cs := by
      have : (constD z).val = constD z := by unfold constD constD1; split <;> (try split) <;> (try split) <;> rfl
      rw [← this]; exact hcs
    obtain ⟨q1, q2, q3⟩ := (V.const E os z).cells hcs
    obtain ⟨E', k1, k2, k3, k4⟩ := push_box R z.cells t q1 q2 q3
    refine acts_value (s := Instr.alloc t true (.tuple #[])) rfl ⟨_, E', ?_, k2, k3, k4⟩
    rw [k1]
    simp [Instr.alloc, zeroValue, run_info hi, hz, newVar, newRow]
  case box t x =>
    obtain ⟨y, hy, hc⟩ := Option.map_eq_some_iff.1 hc
    split at hc
    · subst hc
      simp only [aact, Option.bind_eq_some_iff, Option.map_eq_some_iff] at h
      obtain ⟨cs, hcs, q, hq, h⟩ := h
      simp at h
      obtain ⟨h1, rfl, rfl⟩ := h
      obtain ⟨q1, q2, q3⟩ := ((V.op hf hy).strip h1).cells hcs
      obtain ⟨E', k1, k2, k3, k4⟩ := abx_ok R (t := t) q1 q3 hq
      refine acts_value (s := Instr.box t (a.eval x)) rfl ⟨_, E', ?_, k2, k3, k4⟩
      rw [k1]
      simp [Instr.box, newVar, newRow]
    subst hc
    simp only [aact, Option.map_eq_some_iff] at h
    obtain ⟨cs, hcs, h⟩ := h
    simp at h
    obtain ⟨h1, rfl, rfl⟩ := h
    obtain ⟨q1, q2, q3⟩ := ((V.op hf hy).strip h1).cells hcs
    obtain ⟨E', k1, k2, k3, k4⟩ := push_box R (a.eval x).cells t q1 q2 q3
    refine acts_value (s := Instr.box t (a.eval x)) rfl ⟨_, E', ?_, k2, k3, k4⟩
    rw [k1]
    simp [Instr.box, newVar, newRow]
  case buildSlice t m parts =>
    split at hc
    · rename_i el ht
      obtain ⟨i, hi, hc⟩ := Option.bind_eq_some_iff.1 hc
      obtain ⟨z, hz, hc⟩ := Option.bind_eq_some_iff.1 hc
      split at hc
      · rename_i hle
        obtain ⟨ps, hps, hc⟩ := Option.map_eq_some_iff.1 hc; cases hc
        obtain ⟨g1, g2⟩ := compElems_ok hps
        simp only [aact] at h
        split at h
        · rename_i hm
          obtain ⟨⟨b, rs, os1⟩, h1, h⟩ := Option.map_eq_some_iff.1 h
          simp at h
          obtain ⟨rfl, rfl, rfl⟩ := h
          have hpl : (parts.toList.map (·.2)).length = m := by simp [hle.1]
          have hres := bsl_ok (t := t) (m := m) R hf ht hi hz g1 hpl hle.2.1 hle.2.2 h1
          refine acts_value (s := Instr.buildSlice t m (parts.map fun (i, x) => (i, a.eval x))) rfl ?_
          have e : (parts.map fun (p : Nat × Operand) => (p.1, a.eval p.2)) = ((((parts.toList.map (·.2)).map a.eval).zipIdx 0).map fun p => (p.2, p.1)).toArray := by
            apply Array.toList_inj.1
            rw [Array.toList_map]
            exact parts_zip a.eval parts.toList 0 g2
          have e' : (parts.map fun (x : Nat × Operand) => match x with | (i, x) => (i, a.eval x)) = (parts.map fun (p : Nat × Operand) => (p.1, a.eval p.2)) := rfl
          rw [e', e]
          exact hres
        · cases h
      · cases hc
    · cases hc
  case store t x y =>
    simp only [Option.bind_eq_bind, Option.bind_eq_some_iff] at hc
    obtain ⟨m, hm, x', hx, y', hy, hc⟩ := hc; cases hc
    simp only [aact, Option.bind_eq_some_iff] at h
    obtain ⟨cs, hcs, h⟩ := h
    split at h
    · rename_i hlen
      split at h
      · rename_i id o hval
        split at h
        · rename_i ds hds
          split at h
          · rename_i hle
            simp at h
            obtain ⟨⟨c1, c2⟩, rfl, rfl⟩ := h
            obtain ⟨q1, q2, q3⟩ := ((V.op hf hy).strip c2).cells hcs
            have hp := (V.op hf hx).strip c1
            rw [hval] at hp
            obtain ⟨E', k1, k2, k3⟩ := sto_box (P := P) R hm hds hp q1 q2 q3 hlen hle
            rw [List.append_assoc] at k2 k3
            exact ⟨_, E', act_run (s := Instr.storeAt t (a.eval x) (a.eval y)) rfl k1, k2, k3, .skip rfl⟩
          · cases h
        · cases h
      · rename_i id ext i o hval
        obtain ⟨⟨zs, os1⟩, h1, h⟩ := Option.bind_eq_some_iff.1 h
        simp only at h
        split at h
        · rename_i fz el sz rs hrows
          obtain ⟨r, hr, h⟩ := Option.map_eq_some_iff.1 h
          simp at h
          obtain ⟨⟨⟨c1, c2⟩, c3, c4⟩, rfl, rfl⟩ := h
          obtain ⟨q1, q2, q3⟩ := ((V.op hf hy).strip c2).cells hcs
          have hp := (V.op hf hx).strip c1
          rw [hval] at hp
          obtain ⟨st', R1, e1, k1, k2⟩ := freezeL_ok (vs := (a.eval y).cells.toList) R (fun j d v hd hv => q3 j d v hd (by simpa using hv)) (by simp [q1]) h1
          have q1' : (a.eval y).cells.size = m := by omega
          obtain ⟨E', w1, w2, w3⟩ := sto_eptr (P := P) (E := ⟨E.w, st', E.ob⟩) R1 hm hrows (hp.mono e1) hr c3 q1' q2 (by simp at k1; omega) (fun j x u hx hu => k2 j x u hx (by simpa using hu)) c4
          rw [List.append_assoc] at w2 w3
          exact ⟨_, E', act_run (s := Instr.storeAt t (a.eval x) (a.eval y)) rfl w1, w2, e1.trans w3, .skip rfl⟩
        · cases h
      · cases h
    · cases h
  case makeMap t r =>
    split at hc
    · rename_i key elem hT
      obtain ⟨dk, hdk, hc⟩ := Option.bind_eq_some_iff.1 hc
      obtain ⟨ag, hag, rfl⟩ := Option.map_eq_some_iff.1 hc
      simp only [aact, Option.some.injEq, Prod.mk.injEq] at h
      obtain ⟨_, rfl, rfl⟩ := h
      exact acts_value (s := Instr.makeMap t none) rfl (mkm_ok R dk (keyK_ok hdk).2 ag t)
    · cases hc
  case lookup t x y ok =>
    split at hc
    · obtain ⟨dk, hd, hc⟩ := Option.bind_eq_some_iff.1 hc
      obtain ⟨i, hi, hc⟩ := Option.bind_eq_some_iff.1 hc
      obtain ⟨z, hz, hc⟩ := Option.bind_eq_some_iff.1 hc
      obtain ⟨x', y', hx, hy, hc⟩ := bind2 hc
      subst hc; simp [aact] at h
    · cases hc
  case mapUpdate t x y u =>
    split at hc
    · rename_i key elem hT
      obtain ⟨dk, hdk, hc⟩ := Option.bind_eq_some_iff.1 hc
      simp only [Option.bind_eq_bind, Option.bind_eq_some_iff] at hc
      obtain ⟨x', hx, y', hy, u', hu, hc⟩ := hc
      cases hc
      simp only [aact, Option.bind_eq_some_iff] at h
      obtain ⟨cs, hcs, h⟩ := h
      split at h
      · rename_i id hv
        split at h
        · rename_i dk' ag l ho
          obtain ⟨o, ho1, ho2⟩ := Option.bind_eq_some_iff.1 ho
          split at h
          · rename_i hh
            obtain ⟨rfl, hag⟩ := hh
            obtain ⟨key', hk, h⟩ := Option.map_eq_some_iff.1 h
            simp only [Prod.mk.injEq, Bool.and_eq_true] at h
            obtain ⟨⟨c1, c2, c3⟩, rfl, rfl⟩ := h
            have vu := (V.op hf hu).strip c3
            obtain ⟨q1, q2, q3⟩ := vu.cells hcs
            have v1 := (V.op hf hx).strip c1
            rw [hv] at v1
            have v2 := (V.op hf hy).strip c2
            have hvc : VC E os ag cs (a.eval u) := by
              rw [← hag]
              exact VC.of vu hcs q1 q2 q3
            obtain ⟨E', w1, w2, w3⟩ := mup_ok (P := P) R ho1 ho2 v1 hk v2 hvc hT (keyK_ok hdk).1
            exact ⟨_, E', act_run (s := Instr.mapUpdate t (a.eval x) (a.eval y) (a.eval u)) rfl w1, w2, w3, .skip rfl⟩
          · cases h
        · cases h
      · cases h
    · cases hc
  case mapEntry t x y =>
    split at hc
    · rename_i key elem hT
      obtain ⟨dk, hdk, hc⟩ := Option.bind_eq_some_iff.1 hc
      obtain ⟨i, hi, hc⟩ := Option.bind_eq_some_iff.1 hc
      obtain ⟨z, hz, hc⟩ := Option.bind_eq_some_iff.1 hc
      obtain ⟨x', y', hx, hy, hc⟩ := bind2 hc
      subst hc
      simp only [aact, Option.bind_eq_some_iff] at h
      obtain ⟨zs, hzs, h⟩ := h
      split at h
      · rename_i id hv
        split at h
        · rename_i dk' ag l ho
          obtain ⟨o, ho1, ho2⟩ := Option.bind_eq_some_iff.1 ho
          split at h
          · rename_i hh
            obtain ⟨rfl, hag⟩ := hh
            obtain ⟨key', hk, h⟩ := Option.map_eq_some_iff.1 h
            simp only [Prod.mk.injEq, Bool.and_eq_true] at h
            obtain ⟨⟨c1, c2⟩, rfl, rfl⟩ := h
            have v1 := (V.op hf hx).strip c1
            rw [hv] at v1
            have v2 := (V.op hf hy).strip c2
            have vz := V.const E os z
            obtain ⟨q1, q2, q3⟩ := vz.cells hzs
            have hvc : VC E os ag zs z := by
              rw [← hag]
              exact VC.of vz hzs q1 q2 q3
            have hz' : (zeroValue elem).run P E.w = .ok z E.w := by simp [zeroValue, run_info hi, hz]
            exact acts_value (s := Instr.mapEntry t (a.eval x) (a.eval y)) rfl (men_ok (P := P) R ho1 ho2 v1 hk v2 hT (keyK_ok hdk).1 hz' hvc (keyOk_of hk (keyK_ok hdk).2))
          · cases h
        · cases h
      · cases h
    · cases hc
  case entryStore t x y u =>
    simp only [Option.bind_eq_bind, Option.bind_eq_some_iff] at hc
    obtain ⟨x', hx, y', hy, u', hu, hc⟩ := hc
    cases hc
    simp only [aact, Option.bind_eq_some_iff] at h
    obtain ⟨cs, hcs, h⟩ := h
    split at h
    · rename_i id id' sid hv hv2
      split at h
      · rename_i dk ag l key sid' ho
        split at h
        · rename_i hh
          obtain ⟨rfl, rfl, hag⟩ := hh
          simp only [Option.some.injEq, Prod.mk.injEq, Bool.and_eq_true] at h
          obtain ⟨⟨c1, c2, c3⟩, rfl, rfl⟩ := h
          have vu := (V.op hf hu).strip c3
          obtain ⟨q1, q2, q3⟩ := vu.cells hcs
          have v1 := (V.op hf hx).strip c1
          rw [hv] at v1
          have v2 := (V.op hf hy).strip c2
          rw [hv2] at v2
          have hvc : VC E os ag cs (a.eval u) := by
            rw [← hag]
            exact VC.of vu hcs q1 q2 q3
          obtain ⟨E', w1, w2, w3⟩ := est_ok (P := P) R ho v1 v2 hvc t
          exact ⟨_, E', act_run (s := Instr.entryStore t (a.eval x) (a.eval y) (a.eval u)) rfl w1, w2, w3, .skip rfl⟩
        · cases h
      · cases h
    · cases h
  case range t x =>
    split at hc
    · rename_i kt el hT
      obtain ⟨x', hx, hc⟩ := Option.bind_eq_some_iff.1 hc
      cases hc
      simp only [aact] at h
      split at h
      · rename_i id hv
        split at h
        · rename_i dk ag l ho
          obtain ⟨o, ho1, ho2⟩ := Option.bind_eq_some_iff.1 ho
          simp only [Option.some.injEq, Prod.mk.injEq] at h
          obtain ⟨c1, rfl, rfl⟩ := h
          have v1 := (V.op hf hx).strip c1
          rw [hv] at v1
          exact acts_value (s := Instr.range t (a.eval x)) rfl (rgm_ok (P := P) R ho1 ho2 v1 hT)
        · cases h
      · rename_i hv
        simp only [Option.some.injEq, Prod.mk.injEq] at h
        obtain ⟨c1, rfl, rfl⟩ := h
        have v1 := (V.op hf hx).strip c1
        rw [hv] at v1
        exact acts_value (s := Instr.range t (a.eval x)) rfl (rgn_ok (P := P) R v1 hT)
      · cases h
    · rename_i hT
      obtain ⟨x', hx, hc⟩ := Option.bind_eq_some_iff.1 hc
      cases hc
      simp only [aact] at h
      split at h
      · rename_i s hv
        simp only [Option.some.injEq, Prod.mk.injEq] at h
        obtain ⟨c1, rfl, rfl⟩ := h
        have v1 := (V.op hf hx).strip c1
        rw [hv] at v1
        refine acts_value (s := Instr.range t (a.eval x)) rfl ?_
        rw [V.str v1]
        exact rgs_ok (P := P) R s hT
      · cases h
    · cases hc
  case next x st =>
    obtain ⟨x', hx, hc⟩ := Option.bind_eq_some_iff.1 hc
    cases hc; simp [aact] at h
  case entry x =>
    obtain ⟨x', hx, hc⟩ := Option.bind_eq_some_iff.1 hc
    cases hc; simp [aact] at h
  case makeSlice t l cp =>
    split at hc
    · rename_i el ht
      simp only [Option.bind_eq_bind, Option.bind_eq_some_iff] at hc
      obtain ⟨i, hi, z, hz, zx, hzx, l', hl', c', hc', hc⟩ := hc; cases hc
      simp only [aact] at h
      split at h
      · rename_i li ci h1 h2
        split at h
        · rename_i hh
          simp at h
          obtain ⟨⟨⟨c1, c2⟩, c3, c4, c5⟩, rfl, rfl⟩ := h
          obtain ⟨kl, hkl⟩ := intOf_val ((V.op hf hl').strip c1) h1
          obtain ⟨kc, hkc⟩ := intOf_val ((V.op hf hc').strip c2) h2
          obtain ⟨li', rfl⟩ := Int.eq_ofNat_of_zero_le c3
          obtain ⟨ci', rfl⟩ := Int.eq_ofNat_of_zero_le (show (0 : Int) ≤ ci by omega)
          refine acts_value (s := Instr.makeSlice t (a.eval l) (a.eval cp)) rfl ?_
          rw [hkl, hkc]
          exact mks_ok R ht hi hz hzx hh.1 hh.2 kl kc li' ci' (by omega) (by omega)
        · cases h
      · cases h
    · cases hc
  case slice t x lo hi mx =>
    split at hc
    · simp only [Option.bind_eq_bind, Option.bind_eq_some_iff] at hc
      obtain ⟨x', hx, lo', hl, hi', hh, mx', hm, hc⟩ := hc; cases hc; simp [aact] at h
    · obtain ⟨z, hz, hc⟩ := Option.bind_eq_some_iff.1 hc
      split at hc
      · cases hc
      · simp only [Option.bind_eq_bind, Option.bind_eq_some_iff] at hc
        obtain ⟨x', hx, lo', hl, hi', hh, mx', hm, hc⟩ := hc; cases hc; simp [aact] at h
    · rename_i m el ht
      obtain ⟨z, hz, hc2⟩ := Option.bind_eq_some_iff.1 hc
      clear hc
      by_cases hh : z = 1 ∧ m ≤ 16777216 ∧ lo = none ∧ mx = none
      · rw [if_pos hh] at hc2
        obtain ⟨rfl, hm, rfl, rfl⟩ := hh
        simp only [Option.bind_eq_bind, Option.bind_eq_some_iff] at hc2
        obtain ⟨x', hx, hi', hhi, hc3⟩ := hc2
        cases hc3
        simp only [aact] at h
        split at h
        · rename_i id ext i hv
          split at h
          · rename_i fz e sz rs ho
            split at h
            · rename_i hsz
              subst hsz
              obtain ⟨r, hr, h⟩ := Option.bind_eq_some_iff.1 h
              have hrl : rs.length = ext → r.length = sz := fun _ => by
                obtain ⟨p, hp, hok⟩ := R.at ho
                obtain ⟨xs, _, k2, _⟩ := hok
                exact k2 r (List.mem_of_getElem? hr)
              cases hi' with
              | none =>
                simp only [Option.some.injEq, Prod.mk.injEq, Bool.and_eq_true, decide_eq_true_eq] at h
                obtain ⟨⟨c1, c2⟩, rfl, rfl⟩ := h
                have v1 := (V.op hf hx).strip c1
                rw [hv] at v1
                have hb := bnd hf (lo := none) (hi := hi) (lo' := none) (hi' := none) rfl hhi sz 0 sz rfl rfl (Nat.zero_le _) (Nat.le_refl _)
                have := asl_ok R ho v1 hr c2 ht hz hm hb (Nat.le_refl _)
                rw [List.take_of_length_le (by rw [hrl c2]; exact Nat.le_refl _)] at this
                exact acts_value (s := Instr.sliceAt t (a.eval x) none (hi.map a.eval) none) rfl this
              | some h0 =>
                obtain ⟨k, hk, h⟩ := Option.map_eq_some_iff.1 h
                simp only [Prod.mk.injEq, Bool.and_eq_true, decide_eq_true_eq] at h
                obtain ⟨⟨c1, c3, c4, c5, c2⟩, rfl, rfl⟩ := h
                obtain ⟨j, rfl⟩ := Int.eq_ofNat_of_zero_le c4
                have v1 := (V.op hf hx).strip c1
                rw [hv] at v1
                have hb := bnd hf (lo := none) (hi := hi) (lo' := none) (hi' := some h0) rfl hhi sz 0 j rfl ⟨_, hk, c3, rfl⟩ (Nat.zero_le _) (by omega)
                exact acts_value (s := Instr.sliceAt t (a.eval x) none (hi.map a.eval) none) rfl (asl_ok R ho v1 hr c2 ht hz hm hb (by omega))
            · cases h
          · cases h
        · cases h
      · rw [if_neg hh] at hc2; cases hc2
    · cases hc
  case convert s t x =>
    split at hc
    · obtain ⟨y, hy, hc⟩ := Option.bind_eq_some_iff.1 hc; cases hc; simp [aact] at h
    · split at hc
      · obtain ⟨y, hy, hc⟩ := Option.bind_eq_some_iff.1 hc; cases hc; simp [aact] at h
      · cases hc
    · rename_i el hs ht
      split at hc
      · rename_i hel
        obtain ⟨y, hy, hc⟩ := Option.bind_eq_some_iff.1 hc; cases hc
        simp only [aact] at h
        split at h
        · rename_i b h1
          simp at h
          obtain ⟨⟨c1, c2⟩, rfl, rfl⟩ := h
          have := (V.op hf hy).strip c1
          rw [h1] at this
          refine acts_value (s := convert s t (a.eval x)) rfl ?_
          rw [V.str this]
          exact s2b_ok R hs ht hel b c2
        · cases h
      · cases hc
    · cases hc
  case call cl =>
    obtain ⟨callee, args, ats⟩ := cl
    unfold compCall at hc
    simp only at hc
    have bi : ∀ (b : Builtin) (s : Sem Value), (∀ consts, builtin b ats ty consts (args.map a.eval) = (do pure (Next.value (← s)))) → callee = .builtin b → (∃ v E', s.run P E.w = .ok v E'.w ∧ Rel c E' os' ∧ Evo E os E' os' ∧ V E' os' d v) →
        Acts P c E os { dst, op := .call ⟨callee, args, ats⟩, type := ty, pos, after, guard } a d os' := by
      intro b s hb he hr
      subst he
      obtain ⟨v, E', h1, h2, h3, h4⟩ := hr
      refine ⟨.value v, E', ?_, h2, h3, .value h4⟩
      unfold execOp
      simp only [resolve, Sem.run_bind, Sem.run_pure, Result.andThen_ok, invoke, hb, h1]
    split at hc
    · simp only [Option.bind_eq_bind, Option.bind_eq_some_iff] at hc
      obtain ⟨f', hf', ys, hys, hc⟩ := hc
      cases hc; simp [aact] at h
    · split at hc
      · split at hc
        · obtain ⟨y, hy, hc⟩ := Option.bind_eq_some_iff.1 hc; cases hc; simp [aact] at h
        · obtain ⟨y, hy, hc⟩ := Option.bind_eq_some_iff.1 hc; cases hc; simp [aact] at h
        · obtain ⟨y, hy, hc⟩ := Option.bind_eq_some_iff.1 hc; cases hc; simp [aact] at h
        · cases hc
      · cases hc
    · split at hc
      · rename_i x y t u h1 h2
        have h1 : args = #[x, y] := by apply Array.toList_inj.1; simpa using h1
        have h2 : ats = #[t, u] := by apply Array.toList_inj.1; simpa using h2
        subst h1; subst h2
        split at hc
        · rename_i el kn ht hu
          obtain ⟨i, hi, hc2⟩ := Option.bind_eq_some_iff.1 hc
          obtain ⟨z, hz, hc3⟩ := Option.bind_eq_some_iff.1 hc2
          obtain ⟨zx, hzx, hc4⟩ := Option.bind_eq_some_iff.1 hc3
          clear hc hc2 hc3
          obtain ⟨x', y', hx, hy, hc5⟩ := bind2 hc4
          subst hc5
          simp only [aact] at h
          split at h
          · rename_i m hm
            split at h
            · rename_i hh
              split at h
              · rename_i id ext off len hv
                split at h
                · rename_i e' sz' rs hrows
                  split at h
                  · rename_i hh2
                    obtain ⟨rfl, rfl, rfl⟩ := hh2
                    simp at h
                    obtain ⟨⟨⟨c1, c2⟩, rfl, rfl, c3, c4⟩, rfl, rfl⟩ := h
                    have v1 := (V.op hf hx).strip c1
                    rw [hv] at v1
                    obtain ⟨kq, hkq⟩ := intOf_val ((V.op hf hy).strip c2) hm
                    obtain ⟨k, rfl⟩ := Int.eq_ofNat_of_zero_le (show (0 : Int) ≤ m by omega)
                    refine bi .append (Builtin.append_ #[t, u] ty #[a.eval x, a.eval y]) (fun _ => by simp [builtin]) rfl ?_
                    rw [hkq]
                    exact apz_ref_ok R ht hu hi hz hzx hh.2.2 hh.1 hh.2.1 v1 hrows k (by omega) (by omega)
                  · cases h
                · cases h
              · cases h
            · cases h
          · cases h
        · rename_i el el2 ht hu
          obtain ⟨i, hi, hc2⟩ := Option.bind_eq_some_iff.1 hc
          obtain ⟨z, hz, hc3⟩ := Option.bind_eq_some_iff.1 hc2
          clear hc hc2
          split at hc3
          · rename_i hh
            obtain ⟨rfl, hzs⟩ := hh
            obtain ⟨x', y', hx, hy, hc4⟩ := bind2 hc3
            subst hc4
            simp only [aact] at h
            split at h
            · rename_i hsz
              obtain ⟨src, hsrc, h⟩ := Option.bind_eq_some_iff.1 h
              refine bi .append (Builtin.append_ #[t, t] ty #[a.eval x, a.eval y]) (fun _ => by simp [builtin]) rfl ?_
              split at h
              · rename_i hv
                simp at h
                obtain ⟨⟨⟨c1, c2⟩, c3, c4⟩, rfl, rfl⟩ := h
                have v1 := (V.op hf hx).strip c1
                rw [hv] at v1
                rw [V.nils v1]
                exact app_nil_ok R ht hi hz hzs hsz.1 hsz.2 ((V.op hf hy).strip c2) hsrc c4 c3
              · rename_i rs0 hv
                split at h
                · rename_i h0
                  simp at h
                  obtain ⟨⟨c1, c2⟩, rfl, rfl⟩ := h
                  have v1 := (V.op hf hx).strip c1
                  rw [hv] at v1
                  have hs : src = [] := List.eq_nil_of_length_eq_zero h0
                  subst hs
                  obtain ⟨ad, cp, news, q1, -⟩ := rows_read R ((V.op hf hy).strip c2) hsrc (sz := 0) (fun r hr => by cases hr)
                  rw [q1]
                  generalize a.eval x = vx at *
                  cases v1 with
                  | full m hvx => exact ⟨_, E, run_append_none E.w t ty el i ht hi _ _ _ (Nat.le_refl _) ad cp, R, Evo.refl _ _, .full m hvx⟩
                · rename_i h0
                  simp at h
                  obtain ⟨⟨⟨c1, c2⟩, c3, c4, c5⟩, rfl, rfl⟩ := h
                  have v1 := (V.op hf hx).strip c1
                  rw [hv] at v1
                  exact app_full_ok R ht hi hz hzs hsz.1 hsz.2 v1 c4 ((V.op hf hy).strip c2) hsrc c5 h0 c3
              · rename_i id ext off len hv
                split at h
                · rename_i e' sz' rs hrows
                  split at h
                  · rename_i hh2
                    obtain ⟨rfl, rfl, rfl⟩ := hh2
                    simp at h
                    obtain ⟨⟨⟨c1, c2⟩, rfl, rfl, c4, c5⟩, rfl, rfl⟩ := h
                    have v1 := (V.op hf hx).strip c1
                    rw [hv] at v1
                    exact app_ref_ok R ht hi hz hzs hsz.1 hsz.2 v1 hrows ((V.op hf hy).strip c2) hsrc c5 c4
                  · cases h
                · cases h
              · cases h
            · cases h
          · cases hc3
        · cases hc
      · cases hc
    · split at hc
      · rename_i x y t u h1 h2
        have h1 : args = #[x, y] := by apply Array.toList_inj.1; simpa using h1
        have h2 : ats = #[t, u] := by apply Array.toList_inj.1; simpa using h2
        subst h1; subst h2
        split at hc
        · rename_i el ht
          simp only [Option.bind_eq_bind, Option.bind_eq_some_iff] at hc
          obtain ⟨z, hz, x', hx, y', hy, hc⟩ := hc
          cases hc
          simp only [aact, Option.bind_eq_some_iff] at h
          obtain ⟨src, hsrc, h⟩ := h
          split at h
          · rename_i id ext off len hv
            split at h
            · rename_i fz e' sz' rs hrows
              split at h
              · rename_i hh2
                subst hh2
                simp at h
                obtain ⟨⟨⟨c1, c2⟩, c3, c4⟩, rfl, rfl⟩ := h
                have v1 := (V.op hf hx).strip c1
                rw [hv] at v1
                obtain ⟨E', k1, k2, k3⟩ := cpy_ok (P := P) (u := u) (ty := ty) R ht hz v1 hrows c3 ((V.op hf hy).strip c2) hsrc c4
                rw [List.append_assoc] at k2 k3
                exact bi .copy (Builtin.copy_ #[t, u] ty #[a.eval x, a.eval y]) (fun _ => by simp [builtin]) rfl ⟨_, E', k1, k2, k3, V.mkint _ _ _ _⟩
              · cases h
            · cases h
          · cases h
        · cases hc
      · cases hc
    · split at hc
      · rename_i x y t u h1 h2
        have h1 : args = #[x, y] := by apply Array.toList_inj.1; simpa using h1
        have h2 : ats = #[t, u] := by apply Array.toList_inj.1; simpa using h2
        subst h1; subst h2
        split at hc
        · rename_i key elem hT
          obtain ⟨dk, hdk, hc⟩ := Option.bind_eq_some_iff.1 hc
          obtain ⟨x', y', hx, hy, hc⟩ := bind2 hc
          subst hc
          simp only [aact] at h
          split at h
          · rename_i id hv
            split at h
            · rename_i dk' ag l ho
              obtain ⟨o, ho1, ho2⟩ := Option.bind_eq_some_iff.1 ho
              split at h
              · rename_i hh
                subst hh
                obtain ⟨key', hk, h⟩ := Option.map_eq_some_iff.1 h
                simp only [Prod.mk.injEq, Bool.and_eq_true] at h
                obtain ⟨⟨c1, c2⟩, rfl, rfl⟩ := h
                have v1 := (V.op hf hx).strip c1
                rw [hv] at v1
                exact bi .delete (Builtin.delete_ #[t, u] ty #[a.eval x, a.eval y]) (fun _ => by simp [builtin]) rfl (mdl_ok R ho1 ho2 v1 hk ((V.op hf hy).strip c2) hT (keyK_ok hdk).1 ty u)
              · cases h
            · cases h
          · cases h
        · cases hc
      · cases hc
    · split at hc
      · rename_i x t h1 h2
        have h1 : args = #[x] := by apply Array.toList_inj.1; simpa using h1
        have h2 : ats = #[t] := by apply Array.toList_inj.1; simpa using h2
        subst h1; subst h2
        split at hc
        · rename_i key elem hT
          obtain ⟨x', hx, hc⟩ := Option.bind_eq_some_iff.1 hc
          cases hc
          simp only [aact] at h
          split at h
          · rename_i id hv
            split at h
            · rename_i dk ag l ho
              obtain ⟨o, ho1, ho2⟩ := Option.bind_eq_some_iff.1 ho
              simp only [Option.some.injEq, Prod.mk.injEq] at h
              obtain ⟨c1, rfl, rfl⟩ := h
              have v1 := (V.op hf hx).strip c1
              rw [hv] at v1
              exact bi .clear (Builtin.clear_ #[t] ty #[a.eval x]) (fun _ => by simp [builtin]) rfl (mcl_ok R ho1 ho2 v1 hT ty)
            · cases h
          · rename_i hv
            simp only [Option.some.injEq, Prod.mk.injEq] at h
            obtain ⟨c1, rfl, rfl⟩ := h
            have v1 := (V.op hf hx).strip c1
            rw [hv] at v1
            refine bi .clear (Builtin.clear_ #[t] ty #[a.eval x]) (fun _ => by simp [builtin]) rfl ⟨.tuple #[], E, ?_, R, Evo.refl _ _, .tup #[] rfl (fun j d v h => by simp at h)⟩
            rw [v1.mnil_inv]
            simp [Builtin.clear_, run_underlying hT]
          · cases h
        · cases hc
      · cases hc
    all_goals first
      | (cases hc; done)
      | (split at hc
         · obtain ⟨x', y', hx, hy, hc⟩ := bind2 hc
           subst hc; simp [aact] at h
         · cases hc)
  case makeFunc fn first caps =>
    cases fn <;> simp only at hc <;> (try cases hc)
    split at hc
    · obtain ⟨ys, hys, hc⟩ := Option.bind_eq_some_iff.1 hc; cases hc; simp [aact] at h
    · cases hc
  all_goals
    exfalso
    have ha := isAct_of h
    have hna : NA (some e) := by
      rw [← hc]
      repeat first | exact NA.none | exact NA.some rfl | (refine NA.bind (fun _ => ?_)) | (refine NA.bind' (fun _ => ?_)) | (refine NA.map (fun _ => rfl)) | split
    rw [hna e rfl] at ha
    cases ha

end
end Go.Ab
end
section
/- Calls of functions whose answers are known; rows of operations. -/
namespace Go.Ab
open Go.RowKit Go.Bo

/-- The values, one by one. -/
def VL (E : Env) (os : List Ob) (ds : List D) (vs : Array Value) : Prop := ds.length = vs.size ∧ ∀ (j : Nat) (d : D) (v : Value), ds[j]? = some d → vs[j]? = some v → V E os d v

/-- Called with these, the function answers that, and leaves all that was there as it was. -/
def PCalls (P : Program) (f : FuncId) (args : List D) (r : D) : Prop :=
  ∀ (w : World) (st : Nat → Nat → Prop) (vs : Array Value), (∀ b o, st b o → b < w.heap.size) → VL ⟨w, st, []⟩ [] args vs →
    Calls P f vs w fun e w' => ∃ v st', e = .returned v ∧ Kept (fun _ => False) w w' ∧ (∀ b o, st b o → st' b o) ∧ (∀ b o, st' b o → st b o ∨ (w.heap.size ≤ b ∧ b < w'.heap.size)) ∧ V ⟨w', st', []⟩ [] r v
/-- A call of it enters its body. -/
def Enters (P : Program) (f : FuncId) : Prop := ∀ (args : Array Value) (w : World), (callFunc f args).run P w = .ok (.enter f args) w
/-- What the table says of functions is so. -/
def SOk (P : Program) (S : FuncId → List D → Option (Bool × D)) : Prop := ∀ f args r, S f args = some (true, r) → Enters P f ∧ PCalls P f args r

section
variable {P : Program} {E : Env} {os : List Ob} {c : Ctx} {n : Nat} {φ : List (Nat × D)} {a : Act}

theorem V.scalar {E' : Env} {os' : List Ob} {d : D} {v : Value} (h : V E os d v) (hs : d.scalar = true) : V E' os' d v := by
  have one : ∀ {x : X} {v : Value}, VX E.w E.st x v → x.scalar = true → VX E'.w E'.st x v := by
    intro x v h hs
    cases h with
    | int k n => exact .int k n
    | bool b => exact .bool b
    | str s => exact .str s
    | nilp => exact .nilp
    | nils => exact .nils
    | sl => cases hs
  have tl : ∀ {ds : List D} {vs : Array Value}, (∀ d ∈ ds, ∃ x, d = .x x ∧ x.scalar = true) → V E os (.tup ds) (.tuple vs) → V E' os' (.tup ds) (.tuple vs) := by
    intro ds vs hd h
    cases h with
    | tup _ hl hv =>
      refine .tup vs hl (fun j d v h1 h2 => ?_)
      obtain ⟨x, rfl, hx⟩ := hd d (List.mem_of_getElem? h1)
      exact .x (one (hv j _ v h1 h2).xx hx)
  unfold D.scalar at hs
  split at hs
  · exact .x (one h.xx hs)
  · cases h with | tup vs hl hv => exact .tup vs hl (fun j d v h1 => by simp at h1)
  · rename_i x1
    cases h with | tup vs hl hv => exact tl (fun d hd => by simp at hd; subst hd; exact ⟨_, rfl, hs⟩) (.tup vs hl hv)
  · rename_i x1 x2
    simp at hs
    cases h with | tup vs hl hv => exact tl (fun d hd => by simp at hd; rcases hd with rfl | rfl; exact ⟨_, rfl, hs.1⟩; exact ⟨_, rfl, hs.2⟩) (.tup vs hl hv)
  · rename_i x1 x2 x3
    simp at hs
    cases h with | tup vs hl hv => exact tl (fun d hd => by simp at hd; rcases hd with rfl | rfl | rfl; exact ⟨_, rfl, hs.1.1⟩; exact ⟨_, rfl, hs.1.2⟩; exact ⟨_, rfl, hs.2⟩) (.tup vs hl hv)
  · cases hs

theorem V.bare {w : World} {st : Nat → Nat → Prop} {st' : Nat → Nat → Prop} {ob : List (Nat × Value)} {d : D} {v : Value} (h : V ⟨w, st, []⟩ [] d v) (hst : ∀ b o, st b o → st' b o) : V ⟨w, st', ob⟩ os d v :=
  V.mono (E := ⟨w, st, []⟩) (os := []) (E' := ⟨w, st', ob⟩) (os' := os) ⟨fun b o hb => ⟨hst b o hb, rfl⟩, fun id b cu ds k h => (by simp at h), fun id o' sz rs hid => (by simp at hid)⟩ h

theorem plainXs_get : ∀ {ds : List D} {xs : List X}, plainXs ds = some xs → ds = xs.map .x
  | [], xs, h => by cases h; rfl
  | d :: l, xs, h => by
    cases d with
    | x y =>
      simp only [plainXs, Option.map_eq_some_iff] at h
      obtain ⟨r, hr, rfl⟩ := h
      rw [plainXs_get hr]; rfl
    | _ => simp [plainXs] at h
theorem bref_view (R : Rel c E os) {id off len : Nat} {v : Value} (hv : V E os (.bref id off len) v) {x : X} (h : viewX os (.bref id off len) = some x) : VX E.w (fun b _ => b < E.w.heap.size) x v := by
  simp only [viewX, brefRows, Option.map_eq_some_iff] at h
  obtain ⟨rs, h, rfl⟩ := h
  split at h
  · rename_i ds ho
    split at h
    · rename_i hle
      obtain ⟨xs, hxs, rfl⟩ := Option.map_eq_some_iff.1 h
      have hds := plainXs_get hxs
      cases hv with
      | bref ho' hb hm =>
        obtain ⟨p, hp, hok⟩ := R.at ho
        rw [hp] at hb; cases hb
        obtain ⟨cs, ty, g1, g2, g3⟩ := hok
        have hxl : xs.length = len := by
          have := congrArg List.length hds
          simp only [List.length_take, List.length_drop, List.length_map] at this
          omega
        have hcell : ∀ i (hi : i < len), ∃ u, cs[off + i]? = some u ∧ VX E.w E.st (xs[i]'(by omega)) u := by
          intro i hi
          have h1 : (ds.drop off).take len = xs.map .x := hds
          have h2 := congrArg (fun l => l[i]?) h1
          simp only [List.getElem?_take, hi, if_true, List.getElem?_drop, List.getElem?_map] at h2
          rw [List.getElem?_eq_getElem (by omega : i < xs.length)] at h2
          have hlt : off + i < cs.size := by rw [g2]; omega
          refine ⟨cs[off + i], Array.getElem?_eq_getElem hlt, ?_⟩
          exact (g3 (off + i) _ _ h2 (Array.getElem?_eq_getElem hlt)).1.xx
        have hblt : ∀ q : Nat × Value, E.ob[id]? = some q → q.1 < E.w.heap.size := fun q hq => by
          rw [hp] at hq; cases hq; exact (Array.getElem?_eq_some_iff.1 g1).1
        refine .sl _ _ _ _ 1 (fun i _ => cs.getD (off + i) undef) (by simp [hxl]) (Nat.le_refl _) hm (fun r hr => ?_) (fun i j hi hj => ?_) (fun hn => by cases hn) (fun _ ad had => by cases had; rfl) (fun i j r y hr hy => ?_)
        · obtain ⟨z, _, rfl⟩ := List.mem_map.1 hr; rfl
        · obtain rfl : j = 0 := by omega
          obtain ⟨u, hu, _⟩ := hcell i hi
          refine ⟨_, off, rfl, (Array.getElem?_eq_some_iff.1 g1).1, ?_⟩
          have e : off + i * 1 + 0 = off + i := by omega
          rw [e]
          simp only [World.cell?, g1, Option.isSome_none, Bool.false_eq_true, if_false, hu]
          simp [Array.getD_eq_getD_getElem?, hu]
        · rw [List.getElem?_map] at hr
          obtain ⟨z, hz, rfl⟩ := Option.map_eq_some_iff.1 hr
          match j with
          | 0 =>
            simp only [List.getElem?_cons_zero, Option.some.injEq] at hy
            subst hy
            have hi : i < len := by rw [← hxl]; exact (List.getElem?_eq_some_iff.1 hz).1
            obtain ⟨u, hu, hx⟩ := hcell i hi
            have : xs[i]'(by omega) = z := (List.getElem?_eq_some_iff.1 hz).2
            rw [this] at hx
            have e2 : cs.getD (off + i) undef = u := by simp [Array.getD_eq_getD_getElem?, hu]
            show VX _ _ z (cs.getD (off + i) undef)
            rw [e2]
            exact hx.mono (fun b o hb => ⟨(R.stm b o hb).1, rfl⟩)
          | j + 1 => simp at hy
    · cases h
  · cases h
theorem viewX_ok (R : Rel c E os) {d : D} {v : Value} (hv : V E os d v) {x : X} (h : viewX os d = some x) : VX E.w (fun b _ => b < E.w.heap.size) x v := by
  have key : ∀ os', freezeD os d = some (x, os') → VX E.w (fun b _ => b < E.w.heap.size) x v := fun os' hf => by
    obtain ⟨st', R', _, hx⟩ := freezeD_ok R hv hf
    exact hx.mono (fun b o hb => ⟨(R'.stm b o hb).1, rfl⟩)
  cases d with
  | x y => cases h; exact key os rfl
  | full rs => simp [viewX, rowsOf] at h; subst h; exact key os rfl
  | ref id ext off len =>
    simp only [viewX, rowsOf] at h
    cases ho : os[id]? with
    | none => simp [ho] at h
    | some o =>
      cases o with
      | box ds => simp [ho, Ob.slice?] at h
      | rows fz e sz rs =>
        simp [ho, Ob.slice?] at h
        obtain ⟨rfl, rfl⟩ := h
        exact key (os.set id (.frz sz rs)) (by simp [freezeD, ho])
      | frz sz rs =>
        simp [ho, Ob.slice?] at h
        obtain ⟨rfl, rfl⟩ := h
        exact key os (by simp [freezeD, ho])
      | _ => simp [ho, Ob.slice?] at h
  | nz => simp [viewX, rowsOf] at h
  | ptr => simp [viewX, rowsOf] at h
  | eptr => simp [viewX, rowsOf] at h
  | vptr => simp [viewX, rowsOf] at h
  | mref => simp [viewX, rowsOf] at h
  | mnil => simp [viewX, rowsOf] at h
  | iref => simp [viewX, rowsOf] at h
  | stk => simp [viewX, rowsOf] at h
  | bref id off len => exact bref_view R hv h
  | agg => simp [viewX, rowsOf] at h
  | tup => simp [viewX, rowsOf] at h
  | fn => simp [viewX, rowsOf] at h
  | opt => simp [viewX, rowsOf] at h
  | und => simp [viewX, rowsOf] at h

theorem mapM_get {α β : Type} {f : α → Option β} : ∀ {l : List α} {m : List β}, l.mapM f = some m → l.length = m.length ∧ ∀ (j : Nat) (x : α) (y : β), l[j]? = some x → m[j]? = some y → f x = some y
  | [], m, h => by simp at h; subst h; exact ⟨rfl, fun j x y h => by simp at h⟩
  | x :: l, m, h => by
    simp only [List.mapM_cons, Option.bind_eq_bind, Option.bind_eq_some_iff, Option.pure_def] at h
    obtain ⟨y, hy, ys, hys, h⟩ := h
    cases h
    obtain ⟨h1, h2⟩ := mapM_get hys
    refine ⟨by simp [h1], fun j x' y' hx hy' => ?_⟩
    cases j with
    | zero => simp at hx hy'; subst hx; subst hy'; exact hy
    | succ j => exact h2 j x' y' (by simpa using hx) (by simpa using hy')

theorem viewD_ok (R : Rel c E os) {d : D} {v : Value} (hv : V E os d v) {d' : D} (h : viewD os d = some d') : V ⟨E.w, fun b _ => b < E.w.heap.size, []⟩ [] d' v := by
  unfold viewD at h
  split at h
  · cases h
    exact .x (hv.xx.mono (fun b o hb => ⟨(R.stm b o hb).1, rfl⟩))
  · rename_i ds
    obtain ⟨xs, hxs, h⟩ := Option.map_eq_some_iff.1 h
    cases h
    obtain ⟨h1, h2⟩ := mapM_get hxs
    cases hv with
    | agg vs hl ho hvv =>
      refine .agg vs (by simp [← h1, hl]) ho (fun j d v hd hv' => ?_)
      rw [List.getElem?_map] at hd
      obtain ⟨y, hy, rfl⟩ := Option.map_eq_some_iff.1 hd
      have hj := (List.getElem?_eq_some_iff.1 hy).1
      have hdj : ds[j]? = some (ds[j]'(by omega)) := List.getElem?_eq_getElem _
      exact .x (viewX_ok R (hvv j _ v hdj hv') (h2 j _ y hdj hy))
  · cases h
    cases hv with
    | fn vs hl hvv => exact .fn vs hl (fun j d v hd => by simp at hd)
  · obtain ⟨y, hy, h⟩ := Option.map_eq_some_iff.1 h
    cases h
    exact .x (viewX_ok R hv hy)

theorem plain_ok {d : D} {v : Value} (hv : V E os d v) (hp : d.plain = true) {d' : D} (h : viewD os d = some d') : V ⟨E.w, E.st, []⟩ [] d' v := by
  unfold viewD at h
  split at h
  · cases h; exact .x hv.xx
  · rename_i ds
    obtain ⟨xs, hxs, h⟩ := Option.map_eq_some_iff.1 h
    cases h
    obtain ⟨h1, h2⟩ := mapM_get hxs
    cases hv with
    | agg vs hl ho hvv =>
      refine .agg vs (by simp [← h1, hl]) ho (fun j d v hd hv' => ?_)
      rw [List.getElem?_map] at hd
      obtain ⟨y, hy, rfl⟩ := Option.map_eq_some_iff.1 hd
      have hj := (List.getElem?_eq_some_iff.1 hy).1
      have hdj : ds[j]? = some (ds[j]'(by omega)) := List.getElem?_eq_getElem _
      have hpx := List.all_eq_true.1 hp _ (List.getElem_mem (by omega : j < ds.length))
      have hh := h2 j _ y hdj hy
      have hvx := hvv j _ v hdj hv'
      generalize ds[j]'(by omega) = dj at *
      cases dj with
      | x z => simp [viewX] at hh; subst hh; exact .x hvx.xx
      | _ => cases hpx
  · cases h
    cases hv with
    | fn vs hl hvv => exact .fn vs hl (fun j d v hd => by simp at hd)
  · cases d <;> first | (cases hp; done) | skip
    all_goals first
      | (rename_i h1 h2 h3; exact absurd rfl (h1 _))
      | (rename_i h1 h2 h3; exact absurd rfl (h2 _))
      | skip
    rename_i f caps h1 h2 h3
    cases caps with
    | nil => exact absurd rfl (h3 _)
    | cons c cs => cases hp

/-- None of these. -/
def NP (p : IE → Bool) (x : Option IE) : Prop := ∀ e, x = some e → p e = false
theorem NP.none {p : IE → Bool} : NP p none := fun e h => by cases h
theorem NP.some {p : IE → Bool} {e : IE} (h : p e = false) : NP p (some e) := fun e' h' => by cases h'; exact h
theorem NP.bind {p : IE → Bool} {α : Type} {x : Option α} {f : α → Option IE} (h : ∀ y, NP p (f y)) : NP p (x.bind f) := fun e he => by
  obtain ⟨y, _, h2⟩ := Option.bind_eq_some_iff.1 he; exact h y e h2
theorem NP.bind' {p : IE → Bool} {α : Type} {x : Option α} {f : α → Option IE} (h : ∀ y, NP p (f y)) : NP p (x >>= f) := NP.bind h
theorem NP.map {p : IE → Bool} {α : Type} {x : Option α} {f : α → IE} (h : ∀ y, p (f y) = false) : NP p (x.map f) := fun e he => by
  obtain ⟨y, _, rfl⟩ := Option.map_eq_some_iff.1 he; exact h y

/-- Called with these while the objects are these, the function answers that, and leaves the objects so. -/
def MCalls (P : Program) (f : FuncId) (args : List D) (os : List Ob) (r : D) (os' : List Ob) : Prop :=
  ∀ (c : Ctx) (E : Env) (vs : Array Value), Rel c E os → VL E os args vs →
    Calls P f vs E.w fun e w' => ∃ v E', e = .returned v ∧ E'.w = w' ∧ Rel c E' os' ∧ Evo E os E' os' ∧ V E' os' r v
def TOk (P : Program) (T : FuncId → List D → List Ob → Option (Bool × D × List Ob)) : Prop := ∀ f args os r os', T f args os = some (true, r, os') → Enters P f ∧ MCalls P f args os r os'
def callT (T : FuncId → List D → List Ob → Option (Bool × D × List Ob)) (φ : List (Nat × D)) (os : List Ob) : IE → Option (Bool × D × List Ob)
  | .call f xs => match (opv φ f).val with
    | .fn g caps => (T g ((xs.map fun y => (opv φ y).val) ++ caps) os).map fun r => ((opv φ f).cond && ((xs.all fun y => (opv φ y).cond) && r.1), r.2)
    | _ => none
  | _ => none

theorem comp_call {op : Op} {e : IE} (hc : compOp P op = some e) (hcall : e.isCall = true) : ∃ f args ats f' ys, op = .call ⟨.value f, args, ats⟩ ∧ compO f = some f' ∧ args.toList.mapM compO = some ys ∧ e = .call f' ys := by
  cases op <;> simp only [compOp] at hc <;> (try cases hc)
  case call cl =>
    obtain ⟨callee, args, ats⟩ := cl
    unfold compCall at hc
    simp only at hc
    split at hc
    · simp only [Option.bind_eq_bind, Option.bind_eq_some_iff] at hc
      obtain ⟨f', hf', ys, hys, hc⟩ := hc
      cases hc
      exact ⟨_, _, _, _, _, rfl, hf', hys, rfl⟩
    all_goals
      exfalso
      have hna : NP IE.isCall (some e) := by
        rw [← hc]
        repeat first | exact NP.none | exact NP.some rfl | (refine NP.bind (fun _ => ?_)) | (refine NP.bind' (fun _ => ?_)) | (refine NP.map (fun _ => rfl)) | split
      rw [hna e rfl] at hcall
      cases hcall
  case makeFunc fn first caps =>
    cases fn <;> simp only at hc <;> (try cases hc)
    split at hc
    · obtain ⟨ys, hys, hc⟩ := Option.bind_eq_some_iff.1 hc; cases hc; cases hcall
    · cases hc
  all_goals
    exfalso
    have hna : NP IE.isCall (some e) := by
      rw [← hc]
      repeat first | exact NP.none | exact NP.some rfl | (refine NP.bind (fun _ => ?_)) | (refine NP.bind' (fun _ => ?_)) | (refine NP.map (fun _ => rfl)) | split
    rw [hna e rfl] at hcall
    cases hcall

/-- A call: what its callee's contract says. -/
theorem call_core (hf : Fr n E os φ a) {o : Oper} {f' : IO} {ys : List IO} (hc : compOp P o.op = some (.call f' ys)) {g : FuncId} {caps : List D} (hval : (opv φ f').val = .fn g caps) (c1 : (opv φ f').cond = true) (c2 : ∀ y ∈ ys, (opv φ y).cond = true) (hen : Enters P g) {K : Act → World → Prop} {Q : Exit → Act → World → Prop}
    (hpc : ∀ vs, VL E os ((ys.map fun y => (opv φ y).val) ++ caps) vs → Calls P g vs E.w fun e w' => ∃ v, e = .returned v ∧ K (a.put o.dst v) w') : o.wp P a E.w K Q := by
  obtain ⟨dst, op, ty, pos, after, guard⟩ := o
  simp only at hc hpc
  obtain ⟨f, args, ats, f'', ys', rfl, hf', hys, he⟩ := comp_call hc rfl
  cases he
  have vf := (V.op hf hf').strip c1
  rw [hval] at vf
  generalize hfv : a.eval f = fv at vf
  cases vf with
  | fn capv hl hvv =>
    obtain ⟨l1, l2⟩ := listOp hf hys
    have hrun : (execOp a.eval { dst, op := .call ⟨.value f, args, ats⟩, type := ty, pos, after, guard }).run P E.w = .ok (.enter g (args.map a.eval ++ capv)) E.w := by
      unfold execOp
      simp only [resolve, hfv, Deferred.ofValue, Sem.run_bind, Sem.run_pure, Result.andThen_ok, invoke]
      have := hen (#[] ++ args.map a.eval ++ capv) E.w
      simpa using this
    have lenA : ys.length = args.size := by rw [← l1]; simp
    have hvl : VL E os ((ys.map fun y => (opv φ y).val) ++ caps) (args.map a.eval ++ capv) := by
      refine ⟨by simp [lenA, hl], fun j d v hd hv => ?_⟩
      by_cases hj : j < ys.length
      · rw [List.getElem?_append_left (by simpa using hj)] at hd
        rw [Array.getElem?_append_left (by simp; omega)] at hv
        have hyj : ys[j]? = some (ys[j]'hj) := List.getElem?_eq_getElem _
        have hxj : args.toList[j]? = some (args[j]'(by omega)) := by simp
        have hval' := l2 j _ _ hxj hyj
        have hmem : (opv φ (ys[j]'hj)).cond = true := c2 _ (List.getElem_mem _)
        rw [List.getElem?_map, hyj] at hd
        simp at hd
        have hve : v = a.eval (args[j]'(by omega)) := by
          rw [Array.getElem?_map, Array.getElem?_eq_getElem (by omega)] at hv
          simpa using hv.symm
        subst hve
        rw [← hd]
        exact hval'.strip hmem
      · rw [List.getElem?_append_right (by simp; omega)] at hd
        rw [Array.getElem?_append_right (by simp; omega)] at hv
        simp only [Array.size_map, List.length_map, lenA] at hv hd
        exact hvv _ _ v hd hv
    unfold Oper.wp
    rw [hrun]
    show Calls P g _ E.w _
    refine (hpc _ hvl).mono ?_
    rintro e w' ⟨v, rfl, hk⟩
    exact hk

/-- A call that looks at objects, or turns them. -/
theorem call_deep {T : FuncId → List D → List Ob → Option (Bool × D × List Ob)} (hT : TOk P T) (R : Rel c E os) (hf : Fr n E os φ a) {o : Oper} {e : IE} (hc : compOp P o.op = some e) {d : D} {os' : List Ob} (h : callT T φ os e = some (true, d, os')) {K : Act → World → Prop} {Q : Exit → Act → World → Prop}
    (hK : ∀ v E', Rel c E' os' → Evo E os E' os' → V E' os' d v → K (a.put o.dst v) E'.w) : o.wp P a E.w K Q := by
  cases e <;> simp only [callT] at h <;> (try cases h)
  split at h
  · rename_i g caps hval
    obtain ⟨⟨ok, r, os1⟩, hr, h⟩ := Option.map_eq_some_iff.1 h
    simp at h
    obtain ⟨⟨c1, c2, rfl⟩, rfl, rfl⟩ := h
    obtain ⟨hen, hpc⟩ := hT _ _ _ _ _ hr
    refine call_core hf hc hval c1 c2 hen (fun vs hvl => (hpc c E vs R hvl).mono ?_)
    rintro e w' ⟨v, E', rfl, rfl, R', ev, hv⟩
    exact ⟨v, rfl, hK v E' R' ev hv⟩
  · cases h

/-- It reads objects, makes of them what is new, leaves all as it was; whatever other objects there are. -/
def RCalls (P : Program) (f : FuncId) (args : List D) (os : List Ob) (r : D) : Prop :=
  ∀ (Y : List Ob) (c : Ctx) (E : Env) (vs : Array Value), Rel c E (os ++ Y) → VL E (os ++ Y) args vs →
    Calls P f vs E.w fun e w' => ∃ v E', e = .returned v ∧ E'.w = w' ∧ Rel c E' (os ++ Y) ∧ Evo E (os ++ Y) E' (os ++ Y) ∧ V E' (os ++ Y) r v
def ROk (P : Program) (T : FuncId → List D → List Ob → Option (Bool × D)) : Prop := ∀ f args os r, T f args os = some (true, r) → Enters P f ∧ RCalls P f args os r
def callR (T : FuncId → List D → List Ob → Option (Bool × D)) (φ : List (Nat × D)) (os : List Ob) : IE → Option (Bool × D)
  | .call f xs => match (opv φ f).val with
    | .fn g caps => (T g ((xs.map fun y => (opv φ y).val) ++ caps) os).map fun r => ((opv φ f).cond && ((xs.all fun y => (opv φ y).cond) && r.1), r.2)
    | _ => none
  | _ => none
theorem call_read {T : FuncId → List D → List Ob → Option (Bool × D)} (hT : ROk P T) {Y : List Ob} (R : Rel c E (os ++ Y)) (hf : Fr n E (os ++ Y) φ a) {o : Oper} {e : IE} (hc : compOp P o.op = some e) {d : D} (h : callR T φ os e = some (true, d)) {K : Act → World → Prop} {Q : Exit → Act → World → Prop}
    (hK : ∀ v E', Rel c E' (os ++ Y) → Evo E (os ++ Y) E' (os ++ Y) → V E' (os ++ Y) d v → K (a.put o.dst v) E'.w) : o.wp P a E.w K Q := by
  cases e <;> simp only [callR] at h <;> (try cases h)
  split at h
  · rename_i g caps hval
    obtain ⟨⟨ok, r⟩, hr, h⟩ := Option.map_eq_some_iff.1 h
    simp at h
    obtain ⟨⟨c1, c2, rfl⟩, rfl⟩ := h
    obtain ⟨hen, hpc⟩ := hT _ _ _ _ hr
    refine call_core hf hc hval c1 c2 hen (fun vs hvl => (hpc Y c E vs R hvl).mono ?_)
    rintro e w' ⟨v, E', rfl, rfl, R', ev, hv⟩
    exact ⟨v, rfl, hK v E' R' ev hv⟩
  · cases h

/-- It reads objects, makes one, leaves the others as they were; whatever other objects there are. -/
def KCalls (P : Program) (f : FuncId) (args : List D) (os : List Ob) (r : Nat → D) (ob : Ob) : Prop :=
  ∀ (Y : List Ob) (id : Nat) (c : Ctx) (E : Env) (vs : Array Value), (os ++ Y)[id]? = some .dead → Rel c E (os ++ Y) → VL E (os ++ Y) args vs →
    Calls P f vs E.w fun e w' => ∃ v E', e = .returned v ∧ E'.w = w' ∧ Rel c E' ((os ++ Y).set id ob) ∧ Evo E (os ++ Y) E' ((os ++ Y).set id ob) ∧ V E' ((os ++ Y).set id ob) (r id) v
def KOk (P : Program) (T : FuncId → List D → List Ob → Option (Bool × (Nat → D) × Ob)) : Prop := ∀ f args os r ob, T f args os = some (true, r, ob) → Enters P f ∧ KCalls P f args os r ob
def callK (T : FuncId → List D → List Ob → Option (Bool × (Nat → D) × Ob)) (φ : List (Nat × D)) (os : List Ob) (id : Nat) : IE → Option (Bool × D × Ob)
  | .call f xs => match (opv φ f).val with
    | .fn g caps => (T g ((xs.map fun y => (opv φ y).val) ++ caps) os).map fun r => ((opv φ f).cond && ((xs.all fun y => (opv φ y).cond) && r.1), r.2.1 id, r.2.2)
    | _ => none
  | _ => none
theorem call_new {T : FuncId → List D → List Ob → Option (Bool × (Nat → D) × Ob)} (hT : KOk P T) {Y : List Ob} (R : Rel c E (os ++ Y)) (hf : Fr n E (os ++ Y) φ a) {o : Oper} {e : IE} (hc : compOp P o.op = some e) {id : Nat} (hd : (os ++ Y)[id]? = some .dead) {d : D} {ob : Ob} (h : callK T φ os id e = some (true, d, ob)) {K : Act → World → Prop} {Q : Exit → Act → World → Prop}
    (hK : ∀ v E', Rel c E' ((os ++ Y).set id ob) → Evo E (os ++ Y) E' ((os ++ Y).set id ob) → V E' ((os ++ Y).set id ob) d v → K (a.put o.dst v) E'.w) : o.wp P a E.w K Q := by
  cases e <;> simp only [callK] at h <;> (try cases h)
  split at h
  · rename_i g caps hval
    obtain ⟨⟨ok, r, ob'⟩, hr, h⟩ := Option.map_eq_some_iff.1 h
    simp at h
    obtain ⟨⟨c1, c2, rfl⟩, rfl, rfl⟩ := h
    obtain ⟨hen, hpc⟩ := hT _ _ _ _ _ hr
    refine call_core hf hc hval c1 c2 hen (fun vs hvl => (hpc Y id c E vs hd R hvl).mono ?_)
    rintro e w' ⟨v, E', rfl, rfl, R', ev, hv⟩
    exact ⟨v, rfl, hK v E' R' ev hv⟩
  · cases h

/-- A call of a function in the table. -/
theorem call_run {S : FuncId → List D → Option (Bool × D)} (hS : SOk P S) (R : Rel c E os) (hf : Fr n E os φ a) {o : Oper} {e : IE} (hc : compOp P o.op = some e) (hcall : e.isCall = true) {d : D} (h : aval S φ os e = some (true, d)) {K : Act → World → Prop} {Q : Exit → Act → World → Prop}
    (hK : ∀ v E', Rel c E' os → Evo E os E' os → V E' os d v → K (a.put o.dst v) E'.w) : o.wp P a E.w K Q := by
  obtain ⟨dst, op, ty, pos, after, guard⟩ := o
  simp only at hc hK
  obtain ⟨f, args, ats, f', ys, rfl, hf', hys, rfl⟩ := comp_call hc hcall
  simp only [aval] at h
  split at h
  · rename_i g caps hval
    obtain ⟨as, has, h⟩ := Option.bind_eq_some_iff.1 h
    obtain ⟨cs, hcs, h⟩ := Option.bind_eq_some_iff.1 h
    obtain ⟨⟨ok, r⟩, hr, h⟩ := Option.bind_eq_some_iff.1 h
    simp only at h
    split at h
    · rename_i hsc
      simp at h
      obtain ⟨⟨c1, c2, rfl⟩, rfl⟩ := h
      obtain ⟨hen, hpc⟩ := hS _ _ _ hr
      have vf := (V.op hf hf').strip c1
      rw [hval] at vf
      generalize hfv : a.eval f = fv at vf
      cases vf with
      | fn capv hl hvv =>
        obtain ⟨l1, l2⟩ := listOp hf hys
        obtain ⟨m1, m2⟩ := mapM_get has
        obtain ⟨m3, m4⟩ := mapM_get hcs
        have hrun : (execOp a.eval { dst, op := .call ⟨.value f, args, ats⟩, type := ty, pos, after, guard }).run P E.w = .ok (.enter g (args.map a.eval ++ capv)) E.w := by
          unfold execOp
          simp only [resolve, hfv, Deferred.ofValue, Sem.run_bind, Sem.run_pure, Result.andThen_ok, invoke]
          have := hen (#[] ++ args.map a.eval ++ capv) E.w
          simpa using this
        have lenA : ys.length = args.size := by rw [← l1]; simp
        have argAt : ∀ (Ec : Env) (osc : List Ob), (∀ (d0 d1 : D) (v : Value), (d0 ∈ caps ∨ ∃ y ∈ ys, (opv φ y).val = d0) → V E os d0 v → viewD os d0 = some d1 → V Ec osc d1 v) → VL Ec osc (as ++ cs) (args.map a.eval ++ capv) := by
          intro Ec osc hview
          have hal : as.length = args.size := by rw [← m1]; simp [lenA]
          refine ⟨by simp [hal, ← m3, hl], fun j d v hd hv => ?_⟩
          by_cases hj : j < as.length
          · rw [List.getElem?_append_left hj] at hd
            rw [Array.getElem?_append_left (by simp; omega)] at hv
            have hyj : ys[j]? = some (ys[j]'(by omega)) := List.getElem?_eq_getElem _
            have hxj : args.toList[j]? = some (args[j]'(by omega)) := by simp
            have hval' := l2 j _ _ hxj hyj
            have hmem : (opv φ (ys[j]'(by omega))).cond = true := c2 _ (List.getElem_mem _)
            have hget : (ys.map (opv φ))[j]? = some (opv φ (ys[j]'(by omega))) := by rw [List.getElem?_map, hyj]; rfl
            have hvd := m2 j _ d hget hd
            have hve : v = a.eval (args[j]'(by omega)) := by
              rw [Array.getElem?_map, Array.getElem?_eq_getElem (by omega)] at hv
              simpa using hv.symm
            subst hve
            exact hview _ _ _ (.inr ⟨_, List.getElem_mem (by omega), rfl⟩) (hval'.strip hmem) hvd
          · rw [List.getElem?_append_right (by omega)] at hd
            rw [Array.getElem?_append_right (by simp; omega)] at hv
            simp only [Array.size_map, ← hal] at hv
            have hcj := (List.getElem?_eq_some_iff.1 hd).1
            have hcapj : caps[j - as.length]? = some (caps[j - as.length]'(by omega)) := List.getElem?_eq_getElem _
            exact hview _ _ _ (.inl (List.getElem_mem (by omega))) (hvv _ _ v hcapj hv) (m4 _ _ _ hcapj hd)
        unfold Oper.wp
        rw [hrun]
        show Calls P g _ E.w _
        by_cases hs : r.scalar = true
        · refine (hpc E.w (fun b _ => b < E.w.heap.size) _ (fun b o h => h) (argAt _ _ (fun d0 d1 v _ hv hd => viewD_ok R hv hd))).mono ?_
          rintro e w' ⟨v, st', rfl, hk, h1, h2, hv⟩
          obtain ⟨R', ev⟩ := R.world w' E.st hk (fun b o h => h) (fun b o h => .inl h)
          exact hK v _ R' ev (hv.scalar hs)
        · simp [hs] at hsc
          refine (hpc E.w E.st _ (fun b o h => (R.stm b o h).1) (argAt _ _ (fun d0 d1 v hm hv hd => plain_ok hv (by
            rcases hm with hm | ⟨y, hy, rfl⟩
            · exact hsc.2 d0 hm
            · exact hsc.1 y hy) hd))).mono ?_
          rintro e w' ⟨v, st', rfl, hk, h1, h2, hv⟩
          obtain ⟨R', ev⟩ := R.world w' st' hk h1 h2
          exact hK v _ R' ev (hv.bare (fun b o h => h))
    · cases h
  · cases h

end
end Go.Ab
end
section
/- Rows of operations, code, functions: what the evaluator says of them is so. -/
namespace Go.Ab
open Go.RowKit Go.Bo

/-- An operation, its slot, its guard. -/
structure IOp where
  dst : Option Nat
  e : IE
  g : Option (Nat × Bool)

def putO (φ : List (Nat × D)) : Option Nat → D → List (Nat × D)
  | none, _ => φ
  | some t, d => put φ t d

abbrev Tab := FuncId → List D → Option (Bool × D)
/-- What is known of functions: of those that look at no objects, and of the others. -/
structure Tabs where
  q : Tab
  t : FuncId → List D → List Ob → Option (Bool × D × List Ob)
  r : FuncId → List D → List Ob → Option (Bool × D)
  k : FuncId → List D → List Ob → Option (Bool × (Nat → D) × Ob)
structure SsOk (P : Program) (S : Tabs) : Prop where
  q : SOk P S.q
  t : TOk P S.t
  r : ROk P S.r
  k : KOk P S.k
def actT (S : Tabs) (φ : List (Nat × D)) (os : List Ob) (e : IE) : Option (Bool × D × List Ob) := if e.isCall then callT S.t φ os e else aact φ os e

def stepOp (S : Tabs) (φ : List (Nat × D)) (os : List Ob) (o : IOp) : Option (Bool × List (Nat × D) × List Ob) :=
  match o.g with
  | none => match aval S.q φ os o.e with
    | some r => some (r.1, putO φ o.dst r.2, os)
    | none => (actT S φ os o.e).map fun r => (r.1, putO φ o.dst r.2.1, r.2.2)
  | some (s, want) => match (get φ s).val with
    | .x (.bool b) => match aval S.q φ os o.e with
      | some r => some (!((get φ s).cond && (b == want)) || r.1, putO φ o.dst (.opt ((get φ s).cond && (b == want)) r.2), os)
      | none => if (get φ s).cond && (b == want) then (actT S φ os o.e).map fun r => (r.1, putO φ o.dst r.2.1, r.2.2) else some (true, putO φ o.dst (.opt false .und), os)
    | _ => if (get φ s).cond then none else some (true, putO φ o.dst (.opt false .und), os)

def runOps (S : Tabs) : List (Nat × D) → List Ob → List IOp → Option (Bool × List (Nat × D) × List Ob)
  | φ, os, [] => some (true, φ, os)
  | φ, os, o :: l => (stepOp S φ os o).bind fun r => (runOps S r.2.1 r.2.2 l).map fun q => (r.1 && q.1, q.2)

def compOper (P : Program) (n : Nat) (ops : Array Oper) (o : Oper) : Option IOp :=
  (compOp P o.op).bind fun e => if (o.dst.all fun t => decide (t < n)) then
    match o.guard with
    | none => some ⟨o.dst, e, none⟩
    | some (j, want) => ((ops[j]?).bind (·.dst)).map fun s => ⟨o.dst, e, some (s, want)⟩
  else none

section
variable {P : Program} {E : Env} {os : List Ob} {c : Ctx} {n : Nat} {φ : List (Nat × D)} {a : Act}

theorem V.und_of {d : D} {v : Value} (h : V E os d v) (hc : d.cond = false) : v = undef := by
  induction h with
  | opt h1 h2 ih =>
    rename_i b d v
    cases b with
    | false => exact h2 rfl
    | true => exact ih rfl (by simpa [D.cond] using hc)
  | x h => cases hc
  | ref h h1 => cases hc
  | ptr ho h => cases hc
  | eptr h h1 => cases hc
  | vptr b off val hc' hv => cases hc
  | mref ho hk h => cases hc
  | mnil => cases hc
  | iref ho hk h => cases hc
  | stk ho hk h => cases hc
  | bref ho h hm => cases hc
  | agg vs hl h1 hv => cases hc
  | tup vs hl hv => cases hc
  | full n h => cases hc
  | nz h => cases hc
  | fn vs hl hv => cases hc
  | und v => cases hc


theorem Fr.putO (h : Fr n E os φ a) {dst : Option Nat} {d : D} {v : Value} (ht : (dst.all fun t => decide (t < n)) = true) (hv : V E os d v) : Fr n E os (Go.Ab.putO φ dst d) (a.put dst v) := by
  cases dst with
  | none => exact h
  | some t => exact h.put (by simpa using ht) hv

theorem yield_some {s : Nat} {ops : Array Oper} {j : Nat} (hs : (ops[j]?).bind (·.dst) = some s) (hf : Fr n E os φ a) {b : Bool} (hv : (get φ s).val = .x (.bool b)) (want : Bool) :
    (yielded ops a.tmps j == some want) = ((get φ s).cond && (b == want)) := by
  have h := hf.slot s
  have key : ∀ v, a.tmps.getD s undef = v → (yielded ops a.tmps j) = match v with | .bool b => some b | _ => none := by
    intro v hv
    unfold yielded
    rw [hs]
    simp only [Option.bind_some]
    rw [Array.getD_eq_getD_getElem?] at hv
    cases h1 : a.tmps[s]? with
    | none => rw [h1] at hv; simp at hv; subst hv; rfl
    | some u => rw [h1] at hv; simp at hv; subst hv; cases u <;> rfl
  cases hc : (get φ s).cond with
  | false =>
    have := h.und_of hc
    rw [key _ this]; rfl
  | true =>
    have := h.strip hc
    rw [hv] at this
    rw [key _ (V.bool this)]
    cases b <;> cases want <;> rfl
theorem yield_none {s : Nat} {ops : Array Oper} {j : Nat} (hs : (ops[j]?).bind (·.dst) = some s) (hf : Fr n E os φ a) (hc : (get φ s).cond = false) (want : Bool) : (yielded ops a.tmps j == some want) = false := by
  have h := (hf.slot s).und_of hc
  unfold yielded
  rw [hs]
  simp only [Option.bind_some]
  rw [Array.getD_eq_getD_getElem?] at h
  cases h1 : a.tmps[s]? with
  | none => rfl
  | some u => rw [h1] at h; simp at h; subst h; rfl

theorem quiet_wp {S : Tab} (hS : SOk P S) (R : Rel c E os) (hf : Fr n E os φ a) {o : Oper} {e : IE} (hc : compOp P o.op = some e) {d : D} (h : aval S φ os e = some (true, d)) {K : Act → World → Prop} {Q : Exit → Act → World → Prop}
    (hK : ∀ v E', Rel c E' os → Evo E os E' os → V E' os d v → K (a.put o.dst v) E'.w) : o.wp P a E.w K Q := by
  cases hcall : e.isCall with
  | true => exact call_run hS R hf hc hcall h hK
  | false =>
    obtain ⟨v, h1, h2⟩ := aval_run R hf hc hcall h
    unfold Oper.wp
    rw [h1]
    exact hK v E R (Evo.refl _ _) h2
theorem act_wp {S : Tabs} (hS : SsOk P S) (R : Rel c E os) (hf : Fr n E os φ a) {o : Oper} {e : IE} (hc : compOp P o.op = some e) {d : D} {os' : List Ob} (h : actT S φ os e = some (true, d, os')) {K : Act → World → Prop} {Q : Exit → Act → World → Prop}
    (hK : ∀ v E', Rel c E' os' → Evo E os E' os' → V E' os' d v → K (a.put o.dst v) E'.w) : o.wp P a E.w K Q := by
  unfold actT at h
  split at h
  · exact call_deep hS.t R hf hc h hK
  obtain ⟨r, E', h1, h2, h3, h4⟩ := aact_run R hf hc h
  unfold Oper.wp
  rw [h1]
  cases h4 with
  | value hv => exact hK _ E' h2 h3 hv
  | skip hd => exact hK undef E' h2 h3 (by rw [hd]; exact .und _)

theorem step_ok {S : Tabs} (hS : SsOk P S) (R : Rel c E os) (hf : Fr n E os φ a) {ops : Array Oper} {o : Oper} {io : IOp} (hc : compOper P n ops o = some io) {φ' : List (Nat × D)} {os' : List Ob} (h : stepOp S φ os io = some (true, φ', os')) {K : Act → World → Prop} {Q : Exit → Act → World → Prop}
    (hK : ∀ E' a', Rel c E' os' → Evo E os E' os' → Fr n E' os' φ' a' → K a' E'.w) :
    if Region.wanted o (yielded ops a.tmps) then o.wp P a E.w K Q else K (a.put o.dst undef) E.w := by
  simp only [compOper, Option.bind_eq_some_iff] at hc
  obtain ⟨e, he, hc⟩ := hc
  split at hc
  · rename_i hdst
    split at hc
    · rename_i hg
      cases hc
      simp only [stepOp] at h
      simp only [Region.wanted, hg, if_true]
      split at h
      · rename_i r hr
        obtain ⟨ok, d⟩ := r
        simp at h
        obtain ⟨rfl, rfl, rfl⟩ := h
        exact quiet_wp hS.q R hf he hr (fun v E' R' ev hv => hK E' _ R' ev ((hf.mono ev).putO hdst hv))
      · obtain ⟨⟨ok, d, os1⟩, hr, h⟩ := Option.map_eq_some_iff.1 h
        simp at h
        obtain ⟨rfl, rfl, rfl⟩ := h
        exact act_wp hS R hf he hr (fun v E' R' ev hv => hK E' _ R' ev ((hf.mono ev).putO hdst hv))
    · rename_i j want hg
      obtain ⟨s, hs, hc⟩ := Option.map_eq_some_iff.1 hc
      cases hc
      simp only [stepOp] at h
      have hwd : Region.wanted o (yielded ops a.tmps) = (yielded ops a.tmps j == some want) := by simp [Region.wanted, hg]
      rw [hwd]
      have un : ∀ (d : D), φ' = Go.Ab.putO φ o.dst (.opt false d) → os' = os → K (a.put o.dst undef) E.w := by
        rintro d rfl rfl
        exact hK E _ R (Evo.refl _ _) (hf.putO hdst (.opt (fun h => by cases h) (fun _ => rfl)))
      split at h
      · rename_i b hb
        rw [yield_some hs hf hb want]
        split at h
        · rename_i r hr
          obtain ⟨ok, d⟩ := r
          simp only [Option.some.injEq, Prod.mk.injEq] at h
          obtain ⟨h1, rfl, rfl⟩ := h
          cases hw : ((get φ s).cond && (b == want)) with
          | false =>
            rw [hw] at hK
            simp only [Bool.false_eq_true, if_false]
            exact hK E _ R (Evo.refl _ _) (hf.putO hdst (.opt (fun h => by cases h) (fun _ => rfl)))
          | true =>
            rw [hw] at hK h1
            simp at h1
            subst h1
            simp only [if_true]
            exact quiet_wp hS.q R hf he hr (fun v E' R' ev hv => hK E' _ R' ev ((hf.mono ev).putO hdst (.opt (fun _ => hv) (fun h => by cases h))))
        · split at h
          · rename_i hw
            rw [if_pos hw]
            obtain ⟨⟨ok, d, os1⟩, hr, h⟩ := Option.map_eq_some_iff.1 h
            simp at h
            obtain ⟨rfl, rfl, rfl⟩ := h
            exact act_wp hS R hf he hr (fun v E' R' ev hv => hK E' _ R' ev ((hf.mono ev).putO hdst hv))
          · rename_i hw
            simp only [Option.some.injEq, Prod.mk.injEq, true_and] at h
            obtain ⟨rfl, rfl⟩ := h
            rw [if_neg hw]
            exact un .und rfl rfl
      · split at h
        · cases h
        · rename_i hw
          simp only [Option.some.injEq, Prod.mk.injEq, true_and] at h
          obtain ⟨rfl, rfl⟩ := h
          rw [yield_none hs hf (by simpa using hw) want]
          simp only [Bool.false_eq_true, if_false]
          exact un .und rfl rfl
  · cases hc

/-- A row of operations in the text's order. -/
theorem ops_ok {S : Tabs} (hS : SsOk P S) {ops : Array Oper} {Q : Exit → Act → World → Prop} : ∀ {l : List Oper} {il : List IOp} {E : Env} {os : List Ob} {φ : List (Nat × D)} {a : Act}, Rel c E os → Fr n E os φ a → l.mapM (compOper P n ops) = some il → ∀ {φ' : List (Nat × D)} {os' : List Ob}, runOps S φ os il = some (true, φ', os') →
    (∀ E' a', Rel c E' os' → Evo E os E' os' → Fr n E' os' φ' a' → Q .normal a' E'.w) → wpList P ops Q l a E.w
  | [], il, E, os, φ, a, R, hf, hm, φ', os', h, hQ => by
    simp at hm; subst hm
    cases h
    exact hQ E a R (Evo.refl _ _) hf
  | o :: l, il, E, os, φ, a, R, hf, hm, φ', os', h, hQ => by
    simp only [List.mapM_cons, Option.bind_eq_bind, Option.bind_eq_some_iff, Option.pure_def] at hm
    obtain ⟨io, hio, il', hil, hm⟩ := hm
    cases hm
    simp only [runOps, Option.bind_eq_some_iff, Option.map_eq_some_iff] at h
    obtain ⟨⟨ok, φ1, os1⟩, h1, ⟨ok2, φ2, os2⟩, h2, h3⟩ := h
    simp at h3
    obtain ⟨⟨rfl, rfl⟩, rfl, rfl⟩ := h3
    refine wpList_step fun K hK => step_ok hS R hf hio h1 (fun E1 a1 R1 e1 f1 => ?_)
    exact hK _ _ (ops_ok hS R1 f1 hil h2 (fun E' a' R' e' f' => hQ E' a' R' (e1.trans e') f'))

end

end Go.Ab
end
