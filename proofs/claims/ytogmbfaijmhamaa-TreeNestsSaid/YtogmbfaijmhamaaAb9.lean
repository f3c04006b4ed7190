/- Quiet operations yield what the evaluator says: all but calls, in one. -/
import Derived.Test.YtogmbfaijmhamaaAb8
namespace Go.Ab
open Go.RowKit Go.Bo

section
variable {P : Program} {E : Env} {os : List Ob} {c : Ctx} {n : Nat} {φ : List (Nat × D)} {a : Act}

theorem val_run {o : Oper} {s : Sem Value} {v : Value} {w : World} (h : execOp a.eval o = (do pure (Next.value (← s)))) (hr : s.run P w = .ok v w) : (execOp a.eval o).run P w = .ok (.value v) w := by
  rw [h]; simp [hr]

theorem listOp (hf : Fr n E os φ a) : ∀ {xs : List Operand} {ys : List IO}, xs.mapM compO = some ys → xs.length = ys.length ∧ ∀ (j : Nat) (x : Operand) (y : IO), xs[j]? = some x → ys[j]? = some y → V E os (opv φ y) (a.eval x)
  | [], ys, h => by simp at h; subst h; exact ⟨rfl, fun j x y h => by simp at h⟩
  | x :: xs, ys, h => by
    simp only [List.mapM_cons, Option.bind_eq_bind, Option.bind_eq_some_iff, Option.pure_def] at h
    obtain ⟨y, hy, ys', hys, h⟩ := h
    cases h
    obtain ⟨h1, h2⟩ := listOp hf hys
    refine ⟨by simp [h1], fun j x' y' hx hy' => ?_⟩
    cases j with
    | zero => simp at hx hy'; subst hx; subst hy'; exact V.op hf hy
    | succ j => exact h2 j x' y' (by simpa using hx) (by simpa using hy')

set_option maxHeartbeats 1000000 in
theorem aval_run (R : Rel c E os) (hf : Fr n E os φ a) {S : FuncId → List D → Option (Bool × D)} {o : Oper} {e : IE} (hc : compOp P o.op = some e) (hne : e.isCall = false) {d : D} (h : aval S φ os e = some (true, d)) :
    ∃ v, (execOp a.eval o).run P E.w = .ok (.value v) E.w ∧ V E os d v := by
  obtain ⟨dst, op, ty, pos, after, guard⟩ := o
  simp only at hc
  cases op <;> simp only [compOp] at hc <;> (try cases hc)
  case move x =>
    obtain ⟨y, hy, hc⟩ := Option.bind_eq_some_iff.1 hc; cases hc
    simp [aval] at h; subst h
    exact ⟨_, rfl, V.op hf hy⟩
  case assign x =>
    obtain ⟨y, hy, hc⟩ := Option.bind_eq_some_iff.1 hc; cases hc
    simp [aval] at h; subst h
    exact ⟨_, rfl, V.op hf hy⟩
  case pick x y z =>
    simp only [Option.bind_eq_bind, Option.bind_eq_some_iff] at hc
    obtain ⟨x', hx, y', hy, z', hz, hc⟩ := hc; cases hc
    simp only [aval] at h
    split at h
    · rename_i p q r h1 h2 h3
      simp at h
      obtain ⟨⟨k1, k2, k3⟩, rfl⟩ := h
      have vx := (V.op hf hx).strip k1
      rw [h1] at vx
      cases p with
      | true =>
        have vy := (V.op hf hy).strip (by simpa using k2)
        rw [h2] at vy
        exact ⟨a.eval y, by simp [execOp, V.bool vx, asBool], by rw [V.bool vy]; exact V.mkbool _ _ _⟩
      | false =>
        have vz := (V.op hf hz).strip (by simpa using k3)
        rw [h3] at vz
        exact ⟨a.eval z, by simp [execOp, V.bool vx, asBool], by rw [V.bool vz]; exact V.mkbool _ _ _⟩
    · rename_i q h1 h2 h3
      simp at h
      obtain ⟨⟨k1, k2⟩, rfl⟩ := h
      have vx := (V.op hf hx).strip k1
      rw [h1] at vx
      have vy := (V.op hf hy).strip k2
      rw [h2] at vy
      exact ⟨a.eval y, by simp [execOp, V.bool vx, asBool], by rw [V.bool vy]; exact V.mkbool _ _ _⟩
    · rename_i r h1 h3 h2
      simp at h
      obtain ⟨⟨k1, k3⟩, rfl⟩ := h
      have vx := (V.op hf hx).strip k1
      rw [h1] at vx
      have vz := (V.op hf hz).strip k3
      rw [h3] at vz
      exact ⟨a.eval z, by simp [execOp, V.bool vx, asBool], by rw [V.bool vz]; exact V.mkbool _ _ _⟩
    · cases h
  case alloc t => 
    simp only [Option.bind_eq_some_iff, Option.map_eq_some_iff] at hc
    obtain ⟨i, hi, z, hz, hc⟩ := hc; cases hc; simp [aval] at h
  case box t x => obtain ⟨y, hy, hc⟩ := Option.bind_eq_some_iff.1 hc; cases hc; simp [aval] at h
  case build t parts =>
    have main : ∀ (it : TypeInfo) (place : Nat → Option (Nat × Nat)) (z : Value) (zs : List D) (ps : List (Nat × Nat × IO)), (∀ l, P.built t l = Instr.fill place z.cells l) → (constD z).cells? = some zs → compPlaces place parts.toList = some ps → e = .build zs ps →
        ∃ v, (execOp a.eval { dst, op := .build t parts, type := ty, pos, after, guard }).run P E.w = .ok (.value v) E.w ∧ V E os d v := by
      intro it place z zs ps hb hz hp he
      subst he
      simp only [aval, Option.map_eq_some_iff] at h
      obtain ⟨⟨b, ds⟩, h1, h2⟩ := h
      simp at h2
      obtain ⟨rfl, rfl⟩ := h2
      have hvz := V.const E os z
      obtain ⟨q1, q2, q3⟩ := hvz.cells hz
      have hva : V E os (.agg zs) (.agg z.cells) := .agg _ q1.symm q2 q3
      obtain ⟨cs', k1, k2⟩ := fill_sound hf place parts.toList ps zs ds z.cells hp hva h1
      refine ⟨_, val_run (s := Instr.build t (parts.map fun (i, x) => (i, a.eval x))) rfl (run_build E.w t _ cs' ?_), k2⟩
      rw [hb]
      simpa using k1
    split at hc
    · rename_i it m el h1 h2
      split at hc
      · rename_i z ie hz hie
        obtain ⟨zs, hzs, hc⟩ := Option.bind_eq_some_iff.1 hc
        obtain ⟨ps, hps, hc⟩ := Option.map_eq_some_iff.1 hc
        exact main it _ z zs ps (fun l => by simp [Program.built, h1, h2, hz, hie]) hzs hps hc.symm
      · cases hc
    · rename_i it fs h1 h2
      split at hc
      · rename_i z places hz hpl
        obtain ⟨zs, hzs, hc⟩ := Option.bind_eq_some_iff.1 hc
        obtain ⟨ps, hps, hc⟩ := Option.map_eq_some_iff.1 hc
        exact main it _ z zs ps (fun l => by simp [Program.built, h1, h2, hz, hpl]) hzs hps hc.symm
      · cases hc
    · cases hc
  case buildSlice t m parts =>
    split at hc
    · obtain ⟨s, hs, hc⟩ := Option.bind_eq_some_iff.1 hc
      obtain ⟨z, hz, hc⟩ := Option.bind_eq_some_iff.1 hc
      split at hc
      · obtain ⟨ps, hps, hc⟩ := Option.map_eq_some_iff.1 hc; cases hc; simp [aval] at h
      · cases hc
    · cases hc
  case load t x =>
    simp only [Option.bind_eq_bind, Option.bind_eq_some_iff] at hc
    obtain ⟨m, hm, ag, hag, y, hy, hc⟩ := hc; cases hc
    obtain ⟨v, h1, h2⟩ := run_ld R hm hag (V.op hf hy) h
    exact ⟨v, val_run (s := Instr.loadAt t (a.eval x)) rfl h1, h2⟩
  case store t x y =>
    simp only [Option.bind_eq_bind, Option.bind_eq_some_iff] at hc
    obtain ⟨m, hm, x', hx, y', hy, hc⟩ := hc; cases hc; simp [aval] at h
  case nilCheck x =>
    obtain ⟨y, hy, hc⟩ := Option.bind_eq_some_iff.1 hc; cases hc
    simp only [aval] at h
    have hv := V.op hf hy
    split at h
    · rename_i i o h1
      simp at h; obtain ⟨h2, rfl⟩ := h
      have := hv.strip h2
      rw [h1] at this
      obtain ⟨ad, h3⟩ := this.ptr_some
      exact ⟨a.eval x, by simp [execOp, h3], this⟩
    · rename_i cs h1
      simp at h; obtain ⟨h2, rfl⟩ := h
      have := hv.strip h2
      rw [h1] at this
      obtain ⟨ad, h3⟩ := this.vptr_some
      exact ⟨a.eval x, by simp [execOp, h3], this⟩
    · rename_i i1 i2 i3 i4 h1
      simp at h; obtain ⟨h2, rfl⟩ := h
      have := hv.strip h2
      rw [h1] at this
      obtain ⟨ad, h3⟩ := this.eptr_some
      exact ⟨a.eval x, by simp [execOp, h3], this⟩
    · cases h
  case binOp op t x y yt =>
    have eqc : ∀ (k : EqK) (neg : Bool) (x' y' : IO), k.ok P t → op = (if neg then .neq else .eql) → compO x = some x' → compO y = some y' → e = .eq k neg x' y' → ∃ v, (execOp a.eval { dst, op := .binOp op t x y yt, type := ty, pos, after, guard }).run P E.w = .ok (.value v) E.w ∧ V E os d v := by
      intro k neg x' y' hk hop hx hy he
      subst he; subst hop
      simp only [aval, Option.map_eq_some_iff] at h
      obtain ⟨⟨ok, b⟩, h1, h2⟩ := h
      simp at h2
      obtain ⟨⟨⟨c1, c2⟩, rfl⟩, rfl⟩ := h2
      have hr := run_eqR (P := P) hk ((V.op hf hx).strip c1) ((V.op hf hy).strip c2) h1 neg x y E.w
      exact ⟨_, val_run (s := do eqGuard (if neg then .neq else .eql) t x y (a.eval x) (a.eval y); binOp (if neg then .neq else .eql) t (a.eval x) (a.eval y)) rfl hr, V.mkbool _ _ _⟩
    have binc : ∀ (x' y' : IO), compO x = some x' → compO y = some y' → e = .bin op x' y' → ∃ v, (execOp a.eval { dst, op := .binOp op t x y yt, type := ty, pos, after, guard }).run P E.w = .ok (.value v) E.w ∧ V E os d v := by
      intro x' y' hx hy he
      subst he
      simp only [aval, Option.map_eq_some_iff] at h
      obtain ⟨⟨b, r⟩, h1, h2⟩ := h
      simp at h2
      obtain ⟨⟨c1, c2, rfl⟩, rfl⟩ := h2
      obtain ⟨v, hr, hv⟩ := run_bin (P := P) ((V.op hf hx).strip c1) ((V.op hf hy).strip c2) h1 t x y E.w
      exact ⟨v, val_run (s := do eqGuard op t x y (a.eval x) (a.eval y); binOp op t (a.eval x) (a.eval y)) rfl hr, hv⟩
    split at hc
    · obtain ⟨x', y', hx, hy, hc⟩ := bind2 hc; exact binc x' y' hx hy hc.symm
    · obtain ⟨x', y', hx, hy, hc⟩ := bind2 hc; exact binc x' y' hx hy hc.symm
    · rename_i ht
      split at hc
      · obtain ⟨x', y', hx, hy, hc⟩ := bind2 hc; exact eqc .bool false x' y' ht rfl hx hy hc.symm
      · obtain ⟨x', y', hx, hy, hc⟩ := bind2 hc; exact eqc .bool true x' y' ht rfl hx hy hc.symm
      · cases hc
    · rename_i e' ht
      split at hc
      · obtain ⟨x', y', hx, hy, hc⟩ := bind2 hc; exact eqc .ptr false x' y' ⟨_, ht⟩ rfl hx hy hc.symm
      · obtain ⟨x', y', hx, hy, hc⟩ := bind2 hc; exact eqc .ptr true x' y' ⟨_, ht⟩ rfl hx hy hc.symm
      · cases hc
    · rename_i e' ht
      split at hc
      · obtain ⟨x', y', hx, hy, hc⟩ := bind2 hc; exact eqc .sl false x' y' ⟨_, ht⟩ rfl hx hy hc.symm
      · obtain ⟨x', y', hx, hy, hc⟩ := bind2 hc; exact eqc .sl true x' y' ⟨_, ht⟩ rfl hx hy hc.symm
      · cases hc
    · obtain ⟨fs, hfs, hc⟩ := Option.bind_eq_some_iff.1 hc
      split at hc
      · obtain ⟨x', y', hx, hy, hc⟩ := bind2 hc; exact eqc (.st fs) false x' y' hfs rfl hx hy hc.symm
      · obtain ⟨x', y', hx, hy, hc⟩ := bind2 hc; exact eqc (.st fs) true x' y' hfs rfl hx hy hc.symm
      · cases hc
    · cases hc
  case unOp op t x =>
    obtain ⟨y, hy, hc⟩ := Option.bind_eq_some_iff.1 hc; cases hc
    simp only [aval, Option.map_eq_some_iff] at h
    obtain ⟨r, h1, h2⟩ := h
    simp at h2; obtain ⟨h3, rfl⟩ := h2
    obtain ⟨v, h4, h5⟩ := run_un (P := P) ((V.op hf hy).strip h3) h1 E.w
    exact ⟨v, val_run (s := Op.unary op (a.eval x)) rfl h4, h5⟩
  case convert s t x =>
    split at hc
    · rename_i j k hs ht
      obtain ⟨y, hy, hc⟩ := Option.bind_eq_some_iff.1 hc; cases hc
      simp only [aval] at h
      split at h
      · rename_i k' m h1
        simp at h; obtain ⟨h2, rfl⟩ := h
        have := (V.op hf hy).strip h2
        rw [h1] at this
        refine ⟨_, val_run (s := convert s t (a.eval x)) rfl ?_, V.mkint _ _ _ _⟩
        rw [V.int this]
        exact run_cvi ⟨j, hs⟩ ht m E.w
      · cases h
    · rename_i el hs ht
      split at hc
      · rename_i hel
        obtain ⟨y, hy, hc⟩ := Option.bind_eq_some_iff.1 hc; cases hc
        simp only [aval, Option.map_eq_some_iff] at h
        obtain ⟨rs, h1, h2⟩ := h
        simp only [Prod.mk.injEq, Bool.and_eq_true] at h2
        obtain ⟨⟨h3, h4⟩, rfl⟩ := h2
        exact ⟨_, val_run (s := convert s t (a.eval x)) rfl (run_b2s R hs hel ht ((V.op hf hy).strip h3) h1 h4), V.mkstr _ _ _⟩
      · cases hc
    · split at hc
      · obtain ⟨y, hy, hc⟩ := Option.bind_eq_some_iff.1 hc; cases hc; simp [aval] at h
      · cases hc
    · cases hc
  case makeSlice t l cp =>
    split at hc
    · simp only [Option.bind_eq_bind, Option.bind_eq_some_iff] at hc
      obtain ⟨i, hi, z, hz, zx, hzx, l', hl', c', hc', hc⟩ := hc; cases hc; simp [aval] at h
    · cases hc
  case slice t x lo hi mx =>
    split at hc
    · rename_i ht
      simp only [Option.bind_eq_bind, Option.bind_eq_some_iff] at hc
      obtain ⟨x', hx, lo', hl, hi', hh, mx', hm, hc⟩ := hc; cases hc
      simp only [aval, if_true] at h
      obtain ⟨v, h1, h2⟩ := slcStr_run hf ht hx hl hh hm h
      exact ⟨v, val_run (s := Instr.sliceAt t (a.eval x) (lo.map a.eval) (hi.map a.eval) (mx.map a.eval)) rfl h1, h2⟩
    · rename_i el ht
      obtain ⟨z, hz, hc⟩ := Option.bind_eq_some_iff.1 hc
      split at hc
      · cases hc
      · rename_i hz0
        simp only [Option.bind_eq_bind, Option.bind_eq_some_iff] at hc
        obtain ⟨x', hx, lo', hl, hi', hh, mx', hm, hc⟩ := hc; cases hc
        simp only [aval, if_neg hz0] at h
        obtain ⟨v, h1, h2⟩ := slcSl_run hf ht hz hx hl hh hm h
        exact ⟨v, val_run (s := Instr.sliceAt t (a.eval x) (lo.map a.eval) (hi.map a.eval) (mx.map a.eval)) rfl h1, h2⟩
    · cases hc
  case fieldAddr s x f =>
    split at hc
    · rename_i fs hs
      obtain ⟨fd, hfd, hc⟩ := Option.bind_eq_some_iff.1 hc
      obtain ⟨z, hz, hc⟩ := Option.bind_eq_some_iff.1 hc
      split at hc
      · cases hc
      · rename_i hz0
        obtain ⟨y, hy, hc⟩ := Option.bind_eq_some_iff.1 hc; cases hc
        simp only [aval] at h
        have hv := V.op hf hy
        have key : ∀ ad, a.eval x = .pointer (some ad) → (execOp a.eval { dst, op := .fieldAddr s x f, type := ty, pos, after, guard }).run P E.w = .ok (.value (.pointer (some (ad.add fd.offset)))) E.w := fun ad had =>
          val_run (s := Instr.fieldAt s (a.eval x) f) rfl (by rw [had]; exact run_fad hs hfd rfl hz hz0 ad E.w)
        split at h
        · rename_i i o h1
          simp at h; obtain ⟨h2, rfl⟩ := h
          have := hv.strip h2
          rw [h1] at this
          generalize hva : a.eval x = va at this
          cases this with
          | ptr hb0 hb => exact ⟨_, key _ hva, by rw [add_off]; exact .ptr hb0 hb⟩
        · rename_i i ex k o h1
          simp at h; obtain ⟨h2, rfl⟩ := h
          have := hv.strip h2
          rw [h1] at this
          generalize hva : a.eval x = va at this
          cases this with
          | eptr he h4 =>
            obtain ⟨ad, rfl⟩ := h4
            obtain ⟨ob, sz, rs, k1, k2, k3, k4⟩ := he
            refine ⟨_, key _ hva, .eptr ⟨ob, sz, rs, k1, k2, k3, fun k5 => ?_⟩ ⟨_, rfl⟩⟩
            obtain ⟨k6, b, g, cap, k7, k8⟩ := k4 k5
            simp at k8; subst k8
            exact ⟨k6, b, g, cap, k7, by rw [add_off, Nat.add_assoc]⟩
        · rename_i cs h1
          simp at h; obtain ⟨h2, rfl⟩ := h
          have := hv.strip h2
          rw [h1] at this
          generalize hva : a.eval x = va at this
          cases this with
          | vptr b off val hcc hvv =>
            refine ⟨_, key _ hva, ?_⟩
            rw [add_off]
            refine .vptr b (off + fd.offset) (fun j => val (fd.offset + j)) (fun j y hj => ?_) (fun j y hj => ?_)
            · rw [List.getElem?_drop] at hj
              rw [Nat.add_assoc]; exact hcc _ y hj
            · rw [List.getElem?_drop] at hj
              exact hvv _ y hj
        · cases h
    · cases hc
  case field t x f =>
    split at hc
    · rename_i fs hs
      simp only [Option.bind_eq_bind, Option.bind_eq_some_iff] at hc
      obtain ⟨fd, hfd, m, hm, ag, hag, y, hy, hc⟩ := hc; cases hc
      simp only [aval] at h
      split at h
      · rename_i ds h1
        have hh : (opv φ y).cond = true ∧ (if ag then some (D.agg ((ds.drop fd.offset).take m)) else ds[fd.offset]?) = some d := by
          cases ag
          · rw [if_neg (by simp)] at h; obtain ⟨d', k1, k2⟩ := Option.map_eq_some_iff.1 h; simp at k2; obtain ⟨k3, rfl⟩ := k2; exact ⟨k3, by simpa using k1⟩
          · simp at h; exact ⟨h.1, by simp [h.2]⟩
        have := (V.op hf hy).strip hh.1
        rw [h1] at this
        obtain ⟨v, k1, k2⟩ := run_fld (P := P) hs hfd rfl hm hag this E.w hh.2
        exact ⟨v, val_run (s := Instr.field t (a.eval x) f) rfl k1, k2⟩
      · cases h
    · cases hc
  case indexAddr t x i =>
    have idx : ∀ (y : IO) (k : Int), compO i = some y → (opv φ y).cond = true → intOf? (opv φ y).val = some k → ∃ kk, a.eval i = .int kk k := fun y k hy hc hk => intOf_val ((V.op hf hy).strip hc) hk
    split at hc
    · rename_i el ht
      simp only [Option.bind_eq_bind, Option.bind_eq_some_iff] at hc
      obtain ⟨sz, hsz, x', hx, i', hi, hc⟩ := hc; cases hc
      simp only [aval] at h
      have hv := V.op hf hx
      split at h
      · cases h
      · rename_i k hk
        have slc : ∀ (rs : List (List X)) (r : List X), (opv φ x').cond = true → (opv φ i').cond = true → 0 ≤ k → rs[k.toNat]? = some r → r.length = sz → (∃ b m cp, a.eval x = .slice b m cp ∧ VX E.w E.st (.sl rs) (.slice b m cp)) →
            ∃ v, (execOp a.eval { dst, op := .indexAddr t x i, type := ty, pos, after, guard }).run P E.w = .ok (.value v) E.w ∧ V E os (.vptr r) v := by
          intro rs r c1 c2 k0 hr hrl hvx
          obtain ⟨b, m, cp, hva, hvx⟩ := hvx
          obtain ⟨kk, hki⟩ := idx i' k hi c2 hk
          cases hvx with
          | sl _ _ _ _ sz0 val hn hcc hm hsz0 hcell hnil hsp hval =>
            have hlt := (List.getElem?_eq_some_iff.1 hr).1
            have hs0 : sz0 = sz := by rw [← hrl, hsz0 r (List.mem_of_getElem? hr)]
            subst hs0
            cases b with
            | none => have := (hnil rfl).1; omega
            | some ad =>
              refine ⟨_, val_run (s := Instr.indexAt t (a.eval x) (a.eval i)) rfl (by rw [hva, hki]; exact run_iad ht hsz ad m cp kk k k0 (by omega) E.w), ?_⟩
              rw [add_spot (hsp (by omega) ad rfl)]
              have e : ∀ (j : Nat) (y : X), r[j]? = some y → j < sz0 := fun j y hj => by rw [← hrl]; exact (List.getElem?_eq_some_iff.1 hj).1
              refine .vptr _ _ (fun j => val k.toNat j) (fun j y hj => ?_) (fun j y hj => hval _ j r y hr hj)
              obtain ⟨b', off, k1, k2, k3⟩ := hcell k.toNat j (by omega) (e j y hj)
              cases k1
              exact ⟨k2, k3⟩
        split at h
        · rename_i rs h1
          obtain ⟨r, hr, h2⟩ := Option.map_eq_some_iff.1 h
          simp at h2
          obtain ⟨⟨⟨c1, c2⟩, k0, k1⟩, rfl⟩ := h2
          have := hv.strip c1
          rw [h1] at this
          have hvx := this.xx
          refine slc rs r c1 c2 k0 hr k1 ?_
          generalize a.eval x = va at hvx
          have hv0 := hvx
          cases hv0 with
          | sl _ ad m cp sz0 val hn hcc hm hsz0 hcell hnil hsp hval => exact ⟨_, _, _, rfl, hvx⟩
        · rename_i rs h1
          obtain ⟨r, hr, h2⟩ := Option.map_eq_some_iff.1 h
          simp at h2
          obtain ⟨⟨⟨c1, c2⟩, k0, k1⟩, rfl⟩ := h2
          have := hv.strip c1
          rw [h1] at this
          refine slc rs r c1 c2 k0 hr k1 ?_
          generalize a.eval x = va at this
          cases this with
          | full m hvx => exact ⟨_, _, _, rfl, hvx⟩
        · rename_i id ext off len h1
          split at h
          · rename_i o ho
            split at h
            · rename_i sz' rs hsl
              simp at h
              obtain ⟨⟨⟨c1, c2⟩, rfl, k1, k2, k3⟩, rfl⟩ := h
              have := hv.strip c1
              rw [h1] at this
              obtain ⟨kk, hki⟩ := idx i' k hi c2 hk
              generalize hva : a.eval x = va at this
              cases this with
              | ref hr _ =>
                obtain ⟨q1, q2⟩ := hr.at ho hsl
                obtain ⟨q3, b, ad, cap, ad', cap', q4, q5, q6, q7, q8, q9, -, -⟩ := q2 k1
                subst q5
                obtain ⟨p, hp, hok⟩ := R.at ho
                rw [hp] at q4; cases q4
                obtain ⟨w1, w2, w3, w4, w5, w8⟩ := hok.cap hsl rfl
                cases ad with
                | none => have := (w5 rfl).1; omega
                | some ad =>
                  have q9 := q9 (by omega) ad rfl
                  subst q9
                  refine ⟨_, val_run (s := Instr.indexAt t (a.eval x) (a.eval i)) rfl (by rw [hva, hki]; exact run_iad ht hsz _ len cap' kk k k2 k3 E.w), .eptr ⟨o, sz', rs, ho, hsl, ?_⟩ ⟨_, rfl⟩⟩
                  refine ⟨q1, fun _ => ⟨by omega, b, ad.block, cap, ?_, ?_⟩⟩
                  · rw [hp]; rw [← w8 ad rfl]
                  · rw [add_off]
                    have h00 : ad.off = 0 := by rw [w8 ad rfl]
                    rw [h00, Nat.add_mul]; simp
            · cases h
          · cases h
        · cases h
    · rename_i m el ht
      simp only [Option.bind_eq_bind, Option.bind_eq_some_iff] at hc
      obtain ⟨sz, hsz, x', hx, i', hi, hc⟩ := hc; cases hc
      simp only [aval] at h
      have hv := V.op hf hx
      split at h
      · cases h
      · rename_i k hk
        split at h
        · rename_i id o h1
          simp at h
          obtain ⟨⟨⟨c1, c2⟩, k0, k1⟩, rfl⟩ := h
          have := hv.strip c1
          rw [h1] at this
          obtain ⟨kk, hki⟩ := idx i' k hi c2 hk
          generalize hva : a.eval x = va at this
          cases this with
          | ptr hb0 hb =>
            refine ⟨_, val_run (s := Instr.indexAt t (a.eval x) (a.eval i)) rfl (by rw [hva, hki]; exact run_iada ht hsz _ kk k k0 k1 E.w), ?_⟩
            rw [add_off]; exact .ptr hb0 hb
        · rename_i cs h1
          simp at h
          obtain ⟨⟨⟨c1, c2⟩, k0, k1⟩, rfl⟩ := h
          have := hv.strip c1
          rw [h1] at this
          obtain ⟨kk, hki⟩ := idx i' k hi c2 hk
          generalize hva : a.eval x = va at this
          cases this with
          | vptr b off val hcc hvv =>
            refine ⟨_, val_run (s := Instr.indexAt t (a.eval x) (a.eval i)) rfl (by rw [hva, hki]; exact run_iada ht hsz _ kk k k0 k1 E.w), ?_⟩
            rw [add_off]
            refine .vptr b _ (fun j => val (k.toNat * sz + j)) (fun j y hj => ?_) (fun j y hj => ?_)
            · rw [List.getElem?_drop] at hj
              rw [Nat.add_assoc]; exact hcc _ y hj
            · rw [List.getElem?_drop] at hj
              exact hvv _ y hj
        · cases h
    · cases hc
  case index t x i =>
    split at hc
    · rename_i ht
      simp only [Option.bind_eq_bind, Option.bind_eq_some_iff] at hc
      obtain ⟨x', hx, i', hi, hc⟩ := hc; cases hc
      simp only [aval] at h
      split at h
      · rename_i s kk k h1 h2
        simp at h
        obtain ⟨⟨⟨c1, c2⟩, k0, k1⟩, rfl⟩ := h
        have v1 := (V.op hf hx).strip c1
        have v2 := (V.op hf hi).strip c2
        rw [h1] at v1; rw [h2] at v2
        refine ⟨_, val_run (s := Instr.index t (a.eval x) (a.eval i)) rfl (by rw [V.str v1, V.int v2]; exact run_idx ht s kk k k0 k1 E.w), ?_⟩
        simp only [List.getD_eq_getElem?_getD]
        exact V.mkint _ _ _ _
      · cases h
    · rename_i m el ht
      simp only [Option.bind_eq_bind, Option.bind_eq_some_iff] at hc
      obtain ⟨sz, hsz, ag, hag, x', hx, i', hi, hc⟩ := hc; cases hc
      simp only [aval] at h
      split at h
      · rename_i ds kk k h1 h2
        have hh : ((opv φ x').cond = true ∧ (opv φ i').cond = true) ∧ (0 ≤ k ∧ k < m) ∧ (if ag then some (D.agg ((ds.drop (k.toNat * sz)).take sz)) else ds[k.toNat * sz]?) = some d := by
          cases ag
          · rw [if_neg (by simp)] at h; obtain ⟨d', k1, k2⟩ := Option.map_eq_some_iff.1 h; simp at k2; obtain ⟨⟨k3, k4⟩, rfl⟩ := k2; exact ⟨k3, k4, by simpa using k1⟩
          · simp at h; exact ⟨h.1.1, h.1.2, by simp [h.2]⟩
        obtain ⟨⟨c1, c2⟩, ⟨k0, k1⟩, h3⟩ := hh
        have v1 := (V.op hf hx).strip c1
        have v2 := (V.op hf hi).strip c2
        rw [h1] at v1; rw [h2] at v2
        obtain ⟨v, q1, q2⟩ := run_idxa (P := P) ht hsz hag v1 kk k k0 k1 E.w h3
        exact ⟨v, val_run (s := Instr.index t (a.eval x) (a.eval i)) rfl (by rw [V.int v2]; exact q1), q2⟩
      · cases h
    · cases hc
  case extract x i =>
    obtain ⟨y, hy, hc⟩ := Option.bind_eq_some_iff.1 hc; cases hc
    simp only [aval] at h
    split at h
    · rename_i ds h1
      obtain ⟨d', hd, h2⟩ := Option.map_eq_some_iff.1 h
      simp at h2; obtain ⟨h3, rfl⟩ := h2
      have := (V.op hf hy).strip h3
      rw [h1] at this
      generalize hva : a.eval x = va at this
      cases this with
      | tup vs hl hvv =>
        have hlt := (List.getElem?_eq_some_iff.1 hd).1
        have hvs : vs[i]? = some vs[i] := Array.getElem?_eq_getElem (by omega)
        exact ⟨vs[i], val_run (s := Instr.extract (a.eval x) i) rfl (by rw [hva]; simp [Instr.extract, hvs]), hvv i d' _ hd hvs⟩
    · cases h
  case makeFunc fn first caps =>
    cases fn <;> simp only at hc <;> (try cases hc)
    rename_i f
    split at hc
    · rename_i h0
      obtain ⟨ys, hys, hc⟩ := Option.bind_eq_some_iff.1 hc; cases hc
      simp [aval] at h; subst h
      obtain ⟨k1, k2⟩ := listOp hf hys
      have e0 : first = #[] := Array.eq_empty_of_size_eq_zero h0
      subst e0
      refine ⟨_, val_run (s := Instr.makeFunc (.func f) ((#[] : Array Operand).map a.eval) (caps.map a.eval)) rfl (by simp [Instr.makeFunc]; rfl), .fn _ (by simp; rw [← k1]; simp) (fun j d v hd hv => ?_)⟩
      rw [List.getElem?_map] at hd
      obtain ⟨y, hy, rfl⟩ := Option.map_eq_some_iff.1 hd
      rw [Array.getElem?_map] at hv
      obtain ⟨x, hx, rfl⟩ := Option.map_eq_some_iff.1 hv
      exact k2 j x y (by simpa using hx) hy
    · cases hc
  case call cl =>
    obtain ⟨callee, args, ats⟩ := cl
    unfold compCall at hc
    simp only at hc
    have bi : ∀ (b : Builtin) (s : Sem Value) (v : Value) (k : Bool → Bool), (∀ consts, builtin b ats ty consts (args.map a.eval) = (do pure (Next.value (← s)))) → callee = .builtin b → s.run P E.w = .ok v E.w →
        (execOp a.eval { dst, op := .call ⟨callee, args, ats⟩, type := ty, pos, after, guard }).run P E.w = .ok (.value v) E.w := by
      intro b s v _ hb he hr
      subst he
      unfold execOp
      simp only [resolve, Sem.run_bind, Sem.run_pure, Result.andThen_ok, invoke, hb, hr]
    split at hc
    · simp only [Option.bind_eq_bind, Option.bind_eq_some_iff] at hc
      obtain ⟨f', hf', ys, hys, hc⟩ := hc
      cases hc
      cases hne
    · split at hc
      · rename_i x t h1 h2
        have h1 : args = #[x] := by apply Array.toList_inj.1; simpa using h1
        have h2 : ats = #[t] := by apply Array.toList_inj.1; simpa using h2
        subst h1; subst h2
        have fin : ∀ (st : Bool), (if st then P.underlying t = some .string else ∃ e, P.underlying t = some (.slice e)) → ∀ y, compO x = some y → e = .len st y → ∃ v, (execOp a.eval { dst, op := .call ⟨.builtin .len, #[x], #[t]⟩, type := ty, pos, after, guard }).run P E.w = .ok (.value v) E.w ∧ V E os d v := by
          intro st ht y hy he
          subst he
          simp only [aval, Option.map_eq_some_iff] at h
          obtain ⟨m, h1, h2⟩ := h
          simp at h2
          obtain ⟨⟨c1, c2⟩, rfl⟩ := h2
          have := len_run (P := P) ht ((V.op hf hy).strip c1) c2 h1 ty E.w
          exact ⟨_, bi .len (Builtin.len_ #[t] ty #[a.eval x]) _ id (fun _ => by simp [builtin]) rfl this, V.mkint _ _ _ _⟩
        split at hc
        · rename_i ht
          obtain ⟨y, hy, hc⟩ := Option.bind_eq_some_iff.1 hc
          exact fin true ht y hy (by cases hc; rfl)
        · rename_i el ht
          obtain ⟨y, hy, hc⟩ := Option.bind_eq_some_iff.1 hc
          exact fin false ⟨el, ht⟩ y hy (by cases hc; rfl)
        · cases hc
      · cases hc
    · split at hc
      · split at hc
        · obtain ⟨i, hi, hc⟩ := Option.bind_eq_some_iff.1 hc
          obtain ⟨z, hz, hc⟩ := Option.bind_eq_some_iff.1 hc
          split at hc
          · obtain ⟨x', y', hx, hy, hc⟩ := bind2 hc
            subst hc; simp [aval] at h
          · cases hc
        · cases hc
      · cases hc
    · split at hc
      · split at hc
        · simp only [Option.bind_eq_bind, Option.bind_eq_some_iff] at hc
          obtain ⟨z, hz, x', hx, y', hy, hc⟩ := hc
          cases hc; simp [aval] at h
        · cases hc
      · cases hc
    all_goals first
      | (cases hc; done)
      | (split at hc
         · rename_i x y h1
           have h1 : args = #[x, y] := by apply Array.toList_inj.1; simpa using h1
           subst h1
           obtain ⟨x', y', hx, hy, hc⟩ := bind2 hc
           subst hc
           simp only [aval] at h
           split at h
           · rename_i k m k' m' q1 q2
             simp at h
             obtain ⟨⟨c1, c2⟩, rfl⟩ := h
             have v1 := (V.op hf hx).strip c1
             have v2 := (V.op hf hy).strip c2
             rw [q1] at v1; rw [q2] at v2
             have r1 := run_mnx (P := P) (t := ty) false k k' m m' ats E.w
             have r2 := run_mnx (P := P) (t := ty) true k k' m m' ats E.w
             simp only [Bool.false_eq_true, if_false, if_true] at r1 r2
             rw [← V.int v1, ← V.int v2] at r1 r2
             first
               | exact ⟨_, bi .min (Builtin.min_ ats ty #[a.eval x, a.eval y]) _ id (fun _ => by simp [builtin]) rfl r1, V.mkint _ _ _ _⟩
               | exact ⟨_, bi .max (Builtin.max_ ats ty #[a.eval x, a.eval y]) _ id (fun _ => by simp [builtin]) rfl r2, V.mkint _ _ _ _⟩
           · cases h
         · cases hc)

end
end Go.Ab
