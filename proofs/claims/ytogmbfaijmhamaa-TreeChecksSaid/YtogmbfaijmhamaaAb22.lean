/- Functions: how they begin, what they answer. -/
import Derived.Test.YtogmbfaijmhamaaAb21
namespace Go.Ab
open Go.RowKit Go.Bo

inductive IRes where
  | tmp (t : Nat)
  | cell (t n : Nat) (ag : Bool)

structure IFn where
  n : Nat
  res : List IRes
  body : IC

def compRes (P : Program) : ResultVar → Option IRes
  | .tmp t => some (.tmp t)
  | .cell a t => (szOf P t).bind fun n => (agOf P t).map fun ag => .cell a n ag
def compFn (P : Program) (f : Func) : Option IFn :=
  f.body.bind fun c => (compCode P f.ntmps c).bind fun b => (f.results.toList.mapM (compRes P)).map fun r => ⟨f.ntmps, r, b⟩

def argsφ : Nat → List D → List (Nat × D)
  | _, [] => []
  | i, d :: ds => (i, d) :: argsφ (i + 1) ds

/-- An answer: own rows no longer turn. -/
def plainD (os : List Ob) : D → Option (D × List Ob)
  | .agg ds => (freezeL os ds).map fun p => (.agg (p.1.map .x), p.2)
  | .fn f [] => some (.fn f [], os)
  | .ptr id off => some (.ptr id off, os)
  | d => (freezeD os d).map fun p => (.x p.1, p.2)

/-- What is handed out: as it is, or as plain data. -/
def finD (fz : Bool) (os : List Ob) (d : D) : Option (D × List Ob) := if fz then plainD os d else some (d, os)
def resD (fz : Bool) (S : Tab) (φ : List (Nat × D)) (os : List Ob) : IRes → Option (Bool × D × List Ob)
  | .tmp t => (finD fz os (get φ t).val).map fun p => ((get φ t).cond, p.1, p.2)
  | .cell t n ag => (aval S φ os (.ld n ag (.t t))).bind fun r => (finD fz os r.2.val).map fun p => (r.1 && r.2.cond, p.1, p.2)
def retD (fz : Bool) (S : Tab) (φ : List (Nat × D)) : List Ob → List IRes → Option (Bool × List D × List Ob)
  | os, [] => some (true, [], os)
  | os, r :: rs => (resD fz S φ os r).bind fun p => (retD fz S φ p.2.2 rs).map fun q => (p.1 && q.1, p.2.1 :: q.2.1, q.2.2)
def mkR : List D → D
  | [d] => d
  | ds => .tup ds

/-- Blocks of objects. -/
def Foot (E : Env) (os : List Ob) (b : Nat) : Prop := ∃ (i : Nat) (o : Ob) (p : Nat × Value), os[i]? = some o ∧ E.ob[i]? = some p ∧ o.mb p = some b

/-- Called with these while the objects are these, the function answers so, and leaves the objects so. -/
def FCalls (P : Program) (f : FuncId) (args : List D) (os : List Ob) (Post : D → List Ob → Prop) : Prop :=
  ∀ (c : Ctx) (E : Env) (vs : Array Value), Rel c E os → VL E os args vs →
    Calls P f vs E.w fun e w' => ∃ v E' r os', e = .returned v ∧ E'.w = w' ∧ Rel c E' os' ∧ Evo E os E' os' ∧ V E' os' r v ∧ Post r os'

def resVal (tmps : Array Value) : ResultVar → Sem Value
  | .tmp t => pure (tmps.getD t undef)
  | .cell x t => do loadVar t (← asAddr (tmps.getD x undef))

section
variable {P : Program} {E : Env} {os : List Ob} {c : Ctx} {n : Nat} {φ : List (Nat × D)} {a : Act}

theorem get_args (ds : List D) : ∀ (i t : Nat), get (argsφ i ds) t = if i ≤ t then (ds[t - i]?).getD .und else .und := by
  induction ds with
  | nil => intro i t; simp [argsφ, get]
  | cons d ds ih =>
    intro i t
    simp only [argsφ, get, ih]
    by_cases h : i = t
    · subst h; simp
    · by_cases h2 : i ≤ t
      · have h3 : i + 1 ≤ t := by omega
        have h4 : t - i = (t - (i + 1)) + 1 := by omega
        simp [h, h2, h3, h4]
      · have h3 : ¬ (i + 1 ≤ t) := by omega
        simp [h, h2, h3]

theorem plainD_ok (R : Rel c E os) {d : D} {v : Value} (hv : V E os d v) {d' : D} {os' : List Ob} (h : plainD os d = some (d', os')) : ∃ st', Rel c ⟨E.w, st', E.ob⟩ os' ∧ Evo E os ⟨E.w, st', E.ob⟩ os' ∧ V ⟨E.w, st', E.ob⟩ os' d' v := by
  unfold plainD at h
  split at h
  · rename_i ds
    obtain ⟨⟨xs, os1⟩, h1, h⟩ := Option.map_eq_some_iff.1 h
    cases h
    cases hv with
    | agg vs hl h1' hvv =>
      obtain ⟨st', R', e', k1, k2⟩ := freezeL_ok (vs := vs.toList) R (fun j d v hd hv => hvv j d v hd (by simpa using hv)) (by simp [hl]) h1
      refine ⟨st', R', e', .agg vs (by simp [k1]) h1' (fun j d v hd hv' => ?_)⟩
      rw [List.getElem?_map] at hd
      obtain ⟨y, hy, rfl⟩ := Option.map_eq_some_iff.1 hd
      exact .x (k2 j y v hy (by simpa using hv'))
  · cases h; exact ⟨E.st, R, Evo.refl _ _, hv⟩
  · cases h; exact ⟨E.st, R, Evo.refl _ _, hv⟩
  · obtain ⟨⟨x, os1⟩, h1, h⟩ := Option.map_eq_some_iff.1 h
    cases h
    obtain ⟨st', R', e', hx⟩ := freezeD_ok R hv h1
    exact ⟨st', R', e', .x hx⟩

theorem finD_ok {fz : Bool} (R : Rel c E os) {d : D} {v : Value} (hv : V E os d v) {d' : D} {os' : List Ob} (h : finD fz os d = some (d', os')) : ∃ st', Rel c ⟨E.w, st', E.ob⟩ os' ∧ Evo E os ⟨E.w, st', E.ob⟩ os' ∧ V ⟨E.w, st', E.ob⟩ os' d' v := by
  unfold finD at h
  split at h
  · exact plainD_ok R hv h
  · cases h; exact ⟨E.st, R, Evo.refl _ _, hv⟩

theorem ld_res {S : Tab} (R : Rel c E os) (hf : Fr n E os φ a) {t m tt : Nat} {ag : Bool} (hs : szOf P tt = some m) (ha : agOf P tt = some ag) {d : D} (h : aval S φ os (.ld m ag (.t t)) = some (true, d)) :
    ∃ v, (do loadVar tt (← asAddr (a.tmps.getD t undef)) : Sem Value).run P E.w = .ok v E.w ∧ V E os d v := by
  have hx : V E os (opv φ (.t t)) (a.tmps.getD t undef) := hf.slot t
  obtain ⟨v, h1, h2⟩ := run_ld (P := P) R hs ha hx h
  refine ⟨v, ?_, h2⟩
  have hp : ∃ ad, a.tmps.getD t undef = .pointer (some ad) := by
    generalize a.tmps.getD t undef = u at h1
    cases u with
    | pointer ad =>
      cases ad with
      | some ad => exact ⟨ad, rfl⟩
      | none => simp [Instr.loadAt, Instr.sureAddr, stuck, Sem.run, Result.andThen] at h1
    | _ => simp [Instr.loadAt, Instr.sureAddr, stuck, Sem.run, Result.andThen] at h1
  obtain ⟨ad, had⟩ := hp
  rw [had] at h1 ⊢
  simpa [Instr.loadAt, Instr.sureAddr, asAddr] using h1

theorem retD_ok {fz : Bool} {S : Tab} : ∀ {rs : List ResultVar} {irs : List IRes} {E : Env} {os : List Ob}, Rel c E os → Fr n E os φ a → rs.mapM (compRes P) = some irs → ∀ {ds : List D} {os' : List Ob}, retD fz S φ os irs = some (true, ds, os') →
    ∃ (vs : List Value) (E' : Env), E'.w = E.w ∧ Rel c E' os' ∧ Evo E os E' os' ∧ vs.length = ds.length ∧ (∀ (j : Nat) (d : D) (v : Value), ds[j]? = some d → vs[j]? = some v → V E' os' d v) ∧
      (rs.mapM (resVal a.tmps)).run P E.w = .ok vs E.w
  | [], irs, E, os, R, hf, hm, ds, os', h => by
    simp at hm; subst hm; cases h
    exact ⟨[], E, rfl, R, Evo.refl _ _, rfl, fun j d v h => by simp at h, by simp⟩
  | r :: rs, irs, E, os, R, hf, hm, ds, os', h => by
    simp only [List.mapM_cons, Option.bind_eq_bind, Option.bind_eq_some_iff, Option.pure_def] at hm
    obtain ⟨ir, hir, irs', hirs, hm⟩ := hm
    cases hm
    simp only [retD, Option.bind_eq_some_iff, Option.map_eq_some_iff] at h
    obtain ⟨⟨ok, d, os1⟩, h1, ⟨ok2, ds2, os2⟩, h2, h3⟩ := h
    simp at h3
    obtain ⟨⟨rfl, rfl⟩, rfl, rfl⟩ := h3
    have one : ∃ v st', Rel c ⟨E.w, st', E.ob⟩ os1 ∧ Evo E os ⟨E.w, st', E.ob⟩ os1 ∧ V ⟨E.w, st', E.ob⟩ os1 d v ∧ (resVal a.tmps r).run P E.w = .ok v E.w := by
      cases r with
      | tmp t =>
        cases hir
        simp only [resD, Option.map_eq_some_iff] at h1
        obtain ⟨⟨d', os'⟩, h4, h5⟩ := h1
        simp at h5
        obtain ⟨h5, rfl, rfl⟩ := h5
        obtain ⟨st', R', e', hv⟩ := finD_ok R ((hf.slot t).strip h5) h4
        exact ⟨_, st', R', e', hv, rfl⟩
      | cell x t =>
        simp only [compRes, Option.bind_eq_some_iff, Option.map_eq_some_iff] at hir
        obtain ⟨m, hm, ag, hag, rfl⟩ := hir
        simp only [resD, Option.bind_eq_some_iff, Option.map_eq_some_iff] at h1
        obtain ⟨⟨ok1, d1⟩, h4, ⟨d', os'⟩, h5, h6⟩ := h1
        simp at h6
        obtain ⟨⟨rfl, h7⟩, rfl, rfl⟩ := h6
        obtain ⟨v, k1, k2⟩ := ld_res (P := P) R hf hm hag h4
        obtain ⟨st', R', e', hv⟩ := finD_ok R (k2.strip h7) h5
        exact ⟨v, st', R', e', hv, k1⟩
    obtain ⟨v, st', R1, e1, hv, hrun⟩ := one
    obtain ⟨vs, E', g1, g2, g3, g4, g5, g6⟩ := retD_ok (E := ⟨E.w, st', E.ob⟩) R1 (hf.mono e1) hirs h2
    refine ⟨v :: vs, E', g1, g2, e1.trans g3, by simp [g4], fun j d0 v0 hd hv0 => ?_, ?_⟩
    · cases j with
      | zero => simp at hd hv0; subst hd; subst hv0; exact hv.mono g3
      | succ j => exact g5 j d0 v0 (by simpa using hd) (by simpa using hv0)
    · rw [List.mapM_cons]
      simp only [Sem.run_bind, hrun, Result.andThen_ok, Sem.run_pure]
      simp only at g6
      rw [g6]; rfl

/-- A function's contract, by its code. -/
theorem fcalls {fz : Bool} {S : Tab} {f : FuncId} {fn : Func} {ifn : IFn} (hfn : P.funcs[f]? = some fn) (hc : compFn P fn = some ifn) (args : List D) (hle : args.length ≤ ifn.n) (os : List Ob) {Post : D → List Ob → Prop}
    (h : ∀ (c : Ctx) (E0 : Env), WI P c E0 os ifn.n ifn.body (fun x φ' os' => (x = .normal ∨ x = .ret) ∧ ∃ ds os2, retD fz S φ' os' ifn.res = some (true, ds, os2) ∧ Post (mkR ds) os2) (argsφ 0 args) os) : FCalls P f args os Post := by
  intro c E vs R hvl
  simp only [compFn, Option.bind_eq_some_iff, Option.map_eq_some_iff] at hc
  obtain ⟨code, hb, ic, hic, irs, hirs, rfl⟩ := hc
  simp only at h hle
  refine calls_of_wp hfn hb ?_
  have hsz : vs.size = args.length := hvl.1.symm
  have hf : Fr fn.ntmps E os (argsφ 0 args) { tmps := vs ++ Array.replicate (fn.ntmps - vs.size) undef, defers := [] } := by
    refine ⟨by simp; omega, rfl, fun t => ?_⟩
    rw [get_args]
    simp only [Nat.zero_le, if_true, Nat.sub_zero]
    cases hd : args[t]? with
    | none => exact .und _
    | some d =>
      have ht := (List.getElem?_eq_some_iff.1 hd).1
      have hv : vs[t]? = some vs[t] := Array.getElem?_eq_getElem (by omega)
      have : (vs ++ Array.replicate (fn.ntmps - vs.size) undef).getD t undef = vs[t] := by
        rw [Array.getD_eq_getD_getElem?, Array.getElem?_append_left (by omega), hv]; rfl
      rw [this]
      exact hvl.2 t d _ hd hv
  refine Code.wp_mono ?_ (h c E code hic E _ ⟨R, Evo.refl _ _⟩ hf)
  rintro e a' w' ⟨E', φ', os', rfl, hR, hf', hx, ds, os2, hret, hpost⟩
  obtain ⟨us, E2, g1, g2, g3, g4, g5, g6⟩ := retD_ok (P := P) hR.rel hf' hirs hret
  have hres : (results fn a'.tmps).run P E'.w = .ok (if h : us.toArray.size = 1 then us.toArray[0] else .tuple us.toArray) E'.w := by
    have e : results fn a'.tmps = (do let vs ← fn.results.mapM (resVal a'.tmps); pure (if h : vs.size = 1 then vs[0] else .tuple vs)) := by
      unfold results
      congr 1
    rw [e]
    simp [Array.mapM_eq_mapM_toList, g6]
  have hval : V E2 os2 (mkR ds) (if h : us.toArray.size = 1 then us.toArray[0] else .tuple us.toArray) := by
    by_cases h1 : us.length = 1
    · obtain ⟨u, rfl⟩ := List.length_eq_one_iff.1 h1
      obtain ⟨d, rfl⟩ := List.length_eq_one_iff.1 (show ds.length = 1 by omega)
      exact g5 0 d u rfl rfl
    · rw [dif_neg (by simpa using h1)]
      have hne : mkR ds = .tup ds := by
        unfold mkR
        split
        · simp at g4; omega
        · rfl
      rw [hne]
      exact .tup _ (by simp [g4]) (fun j d v hd hv => g5 j d v hd (by simpa using hv))
  have post : a'.defers = [] ∧ ∃ v, (results fn a'.tmps).run P E'.w = .ok v E'.w ∧ ∃ v' E'' r os'', Ending.returned v = .returned v' ∧ E''.w = E'.w ∧ Rel c E'' os'' ∧ Evo E os E'' os'' ∧ V E'' os'' r v' ∧ Post r os'' :=
    ⟨hf'.defers, _, hres, _, E2, _, os2, rfl, g1, g2, hR.evo.trans g3, hval, hpost⟩
  rcases hx with rfl | rfl <;> exact post

/-- An answer without objects. -/
def D.clean : D → Bool
  | .tup ds => ds.all D.plain
  | d => d.plain

theorem V.ofPlain {E' : Env} {os' : List Ob} {d : D} {v : Value} (h : V E os d v) (hp : d.plain = true) (hx : ∀ x v, VX E.w E.st x v → VX E'.w E'.st x v) : V E' os' d v := by
  cases d with
  | x y => exact .x (hx _ _ h.xx)
  | agg ds =>
    cases h with
    | agg vs hl h1 hv =>
      refine .agg vs hl h1 (fun j d v hd hv' => ?_)
      have hpd := List.all_eq_true.1 hp d (List.mem_of_getElem? hd)
      have hvd := hv j d v hd hv'
      cases d with
      | x z => exact .x (hx _ _ hvd.xx)
      | _ => cases hpd
  | fn f caps =>
    cases caps with
    | nil => cases h with | fn vs hl hv => exact .fn vs hl (fun j d v hd => by simp at hd)
    | cons c cs => cases hp
  | _ => cases hp
theorem V.ofClean {E' : Env} {os' : List Ob} {d : D} {v : Value} (h : V E os d v) (hp : d.clean = true) (hx : ∀ x v, VX E.w E.st x v → VX E'.w E'.st x v) : V E' os' d v := by
  cases d with
  | tup ds =>
    cases h with
    | tup vs hl hv => exact .tup vs hl (fun j d v hd hv' => (hv j d v hd hv').ofPlain (List.all_eq_true.1 hp d (List.mem_of_getElem? hd)) hx)
  | x y => exact h.ofPlain hp hx
  | agg ds => exact h.ofPlain hp hx
  | fn f caps => exact h.ofPlain hp hx
  | _ => cases hp

/-- A function that needs no objects and hands out none. -/
theorem FCalls.pure {f : FuncId} {args : List D} {r : D} (h : FCalls P f args [] (fun r' _ => r' = r)) (hp : r.clean = true) : PCalls P f args r := by
  intro w st vs hst hvl
  have nofoot : ∀ b, ¬ Foot ⟨w, st, []⟩ [] b := fun b ⟨i, o, p, h1, _⟩ => by simp at h1
  have R : Rel ⟨w, st, Foot ⟨w, st, []⟩ []⟩ ⟨w, st, []⟩ [] := ⟨rfl, fun i o p h => by simp at h, fun i j o o' p p' b h => by simp at h, fun b off hb => ⟨hst b off hb, fun i o p h => by simp at h⟩, Kept.refl _ _, fun i o p b h => by simp at h, fun b off hb => .inl hb⟩
  refine (h _ ⟨w, st, []⟩ vs R hvl).mono ?_
  rintro e w' ⟨v, E', r', os', rfl, rfl, R', ev, hv, rfl⟩
  refine ⟨v, E'.st, rfl, ⟨R'.kept.os, R'.kept.tape, R'.kept.output, R'.kept.size, fun k hk _ => R'.kept.block k hk (nofoot k)⟩, fun b o hb => (ev.st b o hb).1, fun b o hb => ?_, hv.ofClean hp (fun x v hx => hx)⟩
  rcases R'.sto b o hb with h1 | h1 | h1
  · exact .inl h1
  · exact absurd h1 (nofoot b)
  · exact .inr ⟨h1, (R'.stm b o hb).1⟩

theorem FCalls.mcalls {f : FuncId} {args : List D} {r : D} {os' : List Ob} (h : FCalls P f args os (fun r' os2 => r' = r ∧ os2 = os')) : MCalls P f args os r os' := by
  intro c E vs R hvl
  refine (h c E vs R hvl).mono ?_
  rintro e w' ⟨v, E', r', os2, rfl, rfl, R', ev, hv, rfl, rfl⟩
  exact ⟨v, E', rfl, rfl, R', ev, hv⟩
theorem enters {f : FuncId} {fn : Func} {ifn : IFn} (hfn : P.funcs[f]? = some fn) (hname : (fn.name == "runtime.NumGoroutine") = false) (hc : compFn P fn = some ifn) : Enters P f := by
  intro args w
  simp only [compFn, Option.bind_eq_some_iff] at hc
  obtain ⟨code, hb, _⟩ := hc
  unfold callFunc
  simp only [Sem.run_bind, run_program, Result.andThen_ok, hfn, hname, hb, Option.isNone_some, Bool.false_eq_true, if_false, Sem.run_pure]

end
end Go.Ab
