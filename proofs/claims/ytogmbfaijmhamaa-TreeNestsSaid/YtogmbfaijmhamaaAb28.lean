/- Closed code: run by the kernel. -/
import Derived.Test.YtogmbfaijmhamaaAb27
namespace Go.Ab
open Go.RowKit Go.Bo

abbrev Out := Exit × List (Nat × D) × List Ob
def callI (fz : Bool) (run : IC → List (Nat × D) → List Ob → Option Out) (f : IFn) (args : List D) (os : List Ob) : Option (D × List Ob) :=
  if args.length ≤ f.n then (run f.body (argsφ 0 args) os).bind fun r => match r.1 with
    | .normal | .ret => (retD fz (fun _ _ => none) r.2.1 r.2.2 f.res).bind fun q => if q.1 then some (mkR q.2.1, q.2.2) else none
    | _ => none
  else none
def evTabs (G : FuncId → Option IFn) (run : IC → List (Nat × D) → List Ob → Option Out) (b : Bool) : Tabs where
  q f args := if b then (G f).bind fun p => (callI true run p args []).bind fun r => if r.1.clean then some (true, r.1) else none else none
  t f args os := (G f).bind fun p => (callI false run p args os).map fun r => (true, r)
  r f args os := if b then (G f).bind fun p => readT (fun args os => (callI false run p args os).bind fun q => if q.1.clean && prefB os q.2 then some (true, q.1) else none) args os else none
  k f args os := if b then (G f).bind fun p => newT (fun args os => (callI false run p args os).bind fun q => match q.2.drop os.length with
      | [.rows fz e sz rs] => if prefB os q.2 then some (true, q.1, .rows fz e sz rs) else none
      | _ => none) args os else none

def ev (G : FuncId → Option IFn) : Nat → IC → List (Nat × D) → List Ob → Option Out
  | 0, _, _, _ => none
  | n + 1, ic, φ, os => match ic with
    | .skip => some (.normal, φ, os)
    | .reg l => (runOps (evTabs G (ev G n) false) φ os l).bind fun r => if r.1 then some (.normal, r.2) else none
    | .dreg k rs l => (runD (evTabs G (ev G n) true) φ os k rs l).bind fun r => if r.1 then some (.normal, r.2) else none
    | .seq a b => (ev G n a φ os).bind fun r => match r.1 with
      | .normal => ev G n b r.2.1 r.2.2
      | _ => some r
    | .cond x a b => match (opv φ x).val with
      | .x (.bool v) => if (opv φ x).cond then (if v then ev G n a φ os else ev G n b φ os) else none
      | _ => none
    | .block i b => (ev G n b φ os).map fun r => match r.1 with
      | .exit j => if j = i then (.normal, r.2) else r
      | _ => r
    | .loop b => (ev G n b φ os).bind fun r => match r.1 with
      | .normal => ev G n (.loop b) r.2.1 r.2.2
      | _ => some r
    | .exit i => some (.exit i, φ, os)
    | .ret => some (.ret, φ, os)
    | .label _ => some (.normal, φ, os)
    | .goto l => some (.goto l, φ, os)
    | .scope b cur => (ev G n cur φ os).bind fun r => match r.1 with
      | .goto l => match findI b l with
        | some rest => ev G n (.scope b rest) r.2.1 r.2.2
        | none => none
      | _ => some r

/-- The table holds the program's code. -/
def GOk (P : Program) (G : FuncId → Option IFn) : Prop := ∀ f p, G f = some p → ∃ fn, P.funcs[f]? = some fn ∧ (fn.name == "runtime.NumGoroutine") = false ∧ compFn P fn = some p

/-- The evaluator's word on a piece of code. -/
def EvOk (P : Program) (run : IC → List (Nat × D) → List Ob → Option Out) : Prop :=
  ∀ ic φ os x φ' os', run ic φ os = some (x, φ', os') → ∀ (c : Ctx) (E0 : Env) (os0 : List Ob) (n : Nat), WI P c E0 os0 n ic (fun y φ2 os2 => y = x ∧ φ2 = φ' ∧ os2 = os') φ os

section
variable {P : Program} {G : FuncId → Option IFn}

theorem callI_ok (hG : GOk P G) {run : IC → List (Nat × D) → List Ob → Option Out} (hr : EvOk P run) {f : FuncId} {p : IFn} (hp : G f = some p) {args : List D} {os os' : List Ob} {r : D} {fz : Bool} (h : callI fz run p args os = some (r, os')) :
    Enters P f ∧ FCalls P f args os (fun r' os2 => r' = r ∧ os2 = os') := by
  obtain ⟨fn, h1, h2, h3⟩ := hG f p hp
  refine ⟨enters h1 h2 h3, ?_⟩
  unfold callI at h
  split at h
  · rename_i hle
    obtain ⟨⟨x, φ', os1⟩, h4, h⟩ := Option.bind_eq_some_iff.1 h
    have hx : (x = .normal ∨ x = .ret) ∧ (retD fz (fun _ _ => none) φ' os1 p.res).bind (fun q => if q.1 then some (mkR q.2.1, q.2.2) else none) = some (r, os') := by
      cases x <;> simp only at h <;> first | exact ⟨.inl rfl, h⟩ | exact ⟨.inr rfl, h⟩ | cases h
    obtain ⟨hx, h5⟩ := hx
    obtain ⟨⟨ok, ds, os2⟩, h6, h7⟩ := Option.bind_eq_some_iff.1 h5
    simp only at h7
    split at h7
    · rename_i hok
      subst hok
      cases h7
      refine fcalls (fz := fz) (S := fun _ _ => none) h1 h3 args hle os (fun c E0 => WI.mono (hr _ _ _ _ _ _ h4 c E0 os p.n) ?_)
      rintro y φ2 os3 ⟨rfl, rfl, rfl⟩
      exact ⟨hx, ds, _, h6, rfl, rfl⟩
    · cases h7
  · cases h
theorem evTabs_ok (hG : GOk P G) {run : IC → List (Nat × D) → List Ob → Option Out} (hr : EvOk P run) (b : Bool) : SsOk P (evTabs G run b) := by
  constructor
  · intro f args r h
    simp only [evTabs] at h
    split at h
    · obtain ⟨p, hp, h⟩ := Option.bind_eq_some_iff.1 h
      obtain ⟨⟨r', os'⟩, h1, h⟩ := Option.bind_eq_some_iff.1 h
      simp only at h
      split at h
      · rename_i hcl
        cases h
        obtain ⟨k1, k2⟩ := callI_ok hG hr hp h1
        refine ⟨k1, FCalls.pure (fun c E vs R hvl => (k2 c E vs R hvl).mono ?_) hcl⟩
        rintro e w' ⟨v, E', r2, os2, rfl, rfl, R', e', hv, rfl, rfl⟩
        exact ⟨v, E', _, _, rfl, rfl, R', e', hv, rfl⟩
      · cases h
    · cases h
  · intro f args os r os' h
    simp only [evTabs, Option.bind_eq_some_iff] at h
    obtain ⟨p, hp, h⟩ := h
    obtain ⟨⟨r', os2⟩, h1, h⟩ := Option.map_eq_some_iff.1 h
    simp at h
    obtain ⟨rfl, rfl⟩ := h
    obtain ⟨k1, k2⟩ := callI_ok hG hr hp h1
    exact ⟨k1, k2.mcalls⟩
  · intro f args os r h
    simp only [evTabs] at h
    split at h
    · obtain ⟨p, hp, h⟩ := Option.bind_eq_some_iff.1 h
      obtain ⟨fn, w1, w2, w3⟩ := hG f p hp
      refine ⟨enters w1 w2 w3, readT_ok (fun args os r hg => ?_) args os r h⟩
      obtain ⟨⟨r', os'⟩, h1, h2⟩ := Option.bind_eq_some_iff.1 hg
      simp only at h2
      split at h2
      · rename_i hcl
        simp only [Bool.and_eq_true] at hcl
        cases h2
        obtain ⟨X, rfl⟩ := prefB_eq hcl.2
        exact ⟨hcl.1, X, (callI_ok hG hr hp h1).2.mcalls⟩
      · cases h2
    · cases h
  · intro f args os r ob h
    simp only [evTabs] at h
    split at h
    · obtain ⟨p, hp, h⟩ := Option.bind_eq_some_iff.1 h
      obtain ⟨fn, w1, w2, w3⟩ := hG f p hp
      refine ⟨enters w1 w2 w3, newT_ok (fun args os r ob hg => ?_) args os r ob h⟩
      obtain ⟨⟨r', os'⟩, h1, h2⟩ := Option.bind_eq_some_iff.1 hg
      simp only at h2
      split at h2
      · rename_i fz e sz rs hdrop
        split at h2
        · rename_i hpre
          simp only [Option.some.injEq, Prod.mk.injEq, true_and] at h2
          obtain ⟨rfl, rfl⟩ := h2
          obtain ⟨X, rfl⟩ := prefB_eq hpre
          rw [List.drop_left] at hdrop
          subst hdrop
          exact ⟨⟨fz, e, sz, rs, rfl⟩, (callI_ok hG hr hp h1).2.mcalls⟩
        · cases h2
      · cases h2
    · cases h

theorem ev_ok (hG : GOk P G) : ∀ n, EvOk P (ev G n) ∧ (∀ b cur φ os x φ' os', ev G n (.scope b cur) φ os = some (x, φ', os') → ∀ (c : Ctx) (E0 : Env) (os0 : List Ob) (m : Nat) (code rc : Code), compCode P m code = some b → compCode P m rc = some cur → ∀ (E : Env) (a : Act), Run c E0 os0 E os → Fr m E os φ a →
    wpIn P code rc (fun y a' w' => ∃ E2 φ2 os2, E2.w = w' ∧ Run c E0 os0 E2 os2 ∧ Fr m E2 os2 φ2 a' ∧ y = x ∧ φ2 = φ' ∧ os2 = os') a E.w) ∧ ∀ b φ os x φ' os', ev G n (.loop b) φ os = some (x, φ', os') → ∀ (c : Ctx) (E0 : Env) (os0 : List Ob) (m : Nat) (code : Code), compCode P m code = some b → ∀ (E : Env) (a : Act), Run c E0 os0 E os → Fr m E os φ a →
    Code.rounds P code (fun y a' w' => ∃ E2 φ2 os2, E2.w = w' ∧ Run c E0 os0 E2 os2 ∧ Fr m E2 os2 φ2 a' ∧ y = x ∧ φ2 = φ' ∧ os2 = os') n a E.w := by
  intro n
  induction n with
  | zero => exact ⟨fun _ _ _ _ _ _ h => (by cases h), fun _ _ _ _ _ _ _ h => (by cases h), fun _ _ _ _ _ _ h => (by cases h)⟩
  | succ n ih =>
    obtain ⟨ih1, ih3, ih2⟩ := ih
    have hS := fun b => evTabs_ok hG ih1 b
    have B : ∀ b φ os x φ' os', ev G (n + 1) (.loop b) φ os = some (x, φ', os') → ∀ (c : Ctx) (E0 : Env) (os0 : List Ob) (m : Nat) (code : Code), compCode P m code = some b → ∀ (E : Env) (a : Act), Run c E0 os0 E os → Fr m E os φ a →
        Code.rounds P code (fun y a' w' => ∃ E2 φ2 os2, E2.w = w' ∧ Run c E0 os0 E2 os2 ∧ Fr m E2 os2 φ2 a' ∧ y = x ∧ φ2 = φ' ∧ os2 = os') (n + 1) a E.w := by
      intro b φ os x φ' os' h c E0 os0 m code hc E a R hf
      simp only [ev, Option.bind_eq_some_iff] at h
      obtain ⟨⟨y, φ1, os1⟩, h1, h⟩ := h
      rw [rounds_succ]
      refine Code.wp_mono ?_ (ih1 b φ os y φ1 os1 h1 c E0 os0 m code hc E a R hf)
      rintro e a' w' ⟨E', φ2, os2, rfl, R2, f2, rfl, rfl, rfl⟩
      cases e <;> simp only at h <;> first
        | exact ih2 _ _ _ _ _ _ h c E0 os0 m code hc E' a' R2 f2
        | (cases h; exact ⟨E', _, _, rfl, R2, f2, rfl, rfl, rfl⟩)
    have S : ∀ b cur φ os x φ' os', ev G (n + 1) (.scope b cur) φ os = some (x, φ', os') → ∀ (c : Ctx) (E0 : Env) (os0 : List Ob) (m : Nat) (code rc : Code), compCode P m code = some b → compCode P m rc = some cur → ∀ (E : Env) (a : Act), Run c E0 os0 E os → Fr m E os φ a →
        wpIn P code rc (fun y a' w' => ∃ E2 φ2 os2, E2.w = w' ∧ Run c E0 os0 E2 os2 ∧ Fr m E2 os2 φ2 a' ∧ y = x ∧ φ2 = φ' ∧ os2 = os') a E.w := by
      intro b cur φ os x φ' os' h c E0 os0 m code rc hcb hcc E a R hf
      simp only [ev, Option.bind_eq_some_iff] at h
      obtain ⟨⟨y, φ1, os1⟩, h1, h⟩ := h
      refine wpIn_step (Code.wp_mono ?_ (ih1 cur φ os y φ1 os1 h1 c E0 os0 m rc hcc E a R hf))
      rintro e a' w' ⟨E', φ2, os2, rfl, R2, f2, rfl, rfl, rfl⟩
      cases e with
      | goto l =>
        simp only at h ⊢
        cases hfi : findI b l with
        | none => rw [hfi] at h; cases h
        | some rest =>
          rw [hfi] at h
          obtain ⟨rc', k1, k2⟩ := (find_comp b code hcb l).1 rest hfi
          exact ⟨rc', k1, ih3 b rest _ _ _ _ _ h c E0 os0 m code rc' hcb k2 E' a' R2 f2⟩
      | _ => simp only at h; cases h; exact ⟨E', _, _, rfl, R2, f2, rfl, rfl, rfl⟩
    refine ⟨fun ic φ os x φ' os' h c E0 os0 m => ?_, S, B⟩
    cases ic with
    | skip => simp only [ev] at h; cases h; exact WI.skip ⟨rfl, rfl, rfl⟩
    | ret => simp only [ev] at h; cases h; exact WI.ret ⟨rfl, rfl, rfl⟩
    | exit i => simp only [ev] at h; cases h; exact WI.exit ⟨rfl, rfl, rfl⟩
    | label l => simp only [ev] at h; cases h; exact WI.label ⟨rfl, rfl, rfl⟩
    | goto l => simp only [ev] at h; cases h; exact WI.goto ⟨rfl, rfl, rfl⟩
    | scope b cur =>
      intro code hc E a R hf
      obtain ⟨cb, rfl, h1, rfl⟩ := inv_scope hc
      exact wp_of_wpIn (S _ _ φ os x φ' os' h c E0 os0 m cb cb h1 h1 E a R hf)
    | reg l =>
      simp only [ev, Option.bind_eq_some_iff] at h
      obtain ⟨⟨ok, φ1, os1⟩, h1, h⟩ := h
      simp only at h
      split at h
      · rename_i hok
        cases h
        exact WI.reg' (hS _) h1 hok ⟨rfl, rfl, rfl⟩
      · cases h
    | dreg k rs l =>
      simp only [ev, Option.bind_eq_some_iff] at h
      obtain ⟨⟨ok, φ1, os1⟩, h1, h⟩ := h
      simp only at h
      split at h
      · rename_i hok
        cases h
        exact WI.dreg' (hS _) h1 hok ⟨rfl, rfl, rfl⟩
      · cases h
    | seq a b =>
      simp only [ev, Option.bind_eq_some_iff] at h
      obtain ⟨⟨y, φ1, os1⟩, h1, h⟩ := h
      refine WI.seq (WI.mono (ih1 _ _ _ _ _ _ h1 c E0 os0 m) ?_)
      rintro e φ2 os2 ⟨rfl, rfl, rfl⟩
      cases e <;> simp only at h <;> first
        | exact ih1 _ _ _ _ _ _ h c E0 os0 m
        | (cases h; exact ⟨rfl, rfl, rfl⟩)
    | cond x a b =>
      simp only [ev] at h
      split at h
      · rename_i v hv
        split at h
        · rename_i hcd
          refine WI.cond hv hcd (fun hb => ?_) (fun hb => ?_)
          · subst hb; exact ih1 _ _ _ _ _ _ h c E0 os0 m
          · subst hb; exact ih1 _ _ _ _ _ _ h c E0 os0 m
        · cases h
      · cases h
    | block i b =>
      simp only [ev, Option.map_eq_some_iff] at h
      obtain ⟨⟨y, φ1, os1⟩, h1, h⟩ := h
      refine WI.block (WI.mono (ih1 _ _ _ _ _ _ h1 c E0 os0 m) ?_)
      rintro e φ2 os2 ⟨rfl, rfl, rfl⟩
      cases e with
      | exit j =>
        simp only at h
        simp only [blockQ]
        split at h
        · rename_i hj; rw [if_pos hj]; cases h; exact ⟨rfl, rfl, rfl⟩
        · rename_i hj; rw [if_neg hj]; cases h; exact ⟨rfl, rfl, rfl⟩
      | _ => simp only at h; cases h; exact ⟨rfl, rfl, rfl⟩
    | loop b =>
      intro code hc E a R hf
      obtain ⟨cb, rfl, h1⟩ := inv_loop hc
      exact wp_loop_rounds (n + 1) (B b φ os x φ' os' h c E0 os0 m cb h1 E a R hf)

/-- What the kernel computes of a function is its contract. -/
theorem ev_calls (hG : GOk P G) (n : Nat) {f : FuncId} {p : IFn} (hp : G f = some p) {args : List D} {os os' : List Ob} {r : D} {fz : Bool} (h : callI fz (ev G n) p args os = some (r, os')) : Enters P f ∧ MCalls P f args os r os' :=
  let k := callI_ok hG (ev_ok hG n).1 hp h
  ⟨k.1, k.2.mcalls⟩
theorem ev_pure (hG : GOk P G) (n : Nat) {f : FuncId} {p : IFn} (hp : G f = some p) {args : List D} {os' : List Ob} {r : D} (h : callI true (ev G n) p args [] = some (r, os')) (hcl : r.clean = true) : Enters P f ∧ PCalls P f args r :=
  let k := callI_ok hG (ev_ok hG n).1 hp h
  ⟨k.1, FCalls.pure (fun c E vs R hvl => (k.2 c E vs R hvl).mono (by
    rintro e w' ⟨v, E', r2, os2, rfl, rfl, R', e', hv, rfl, rfl⟩
    exact ⟨v, E', _, _, rfl, rfl, R', e', hv, rfl⟩)) hcl⟩

theorem G_enters {G : FuncId → Option IFn} (hG : GOk P G) {f : FuncId} {p : IFn} (hp : G f = some p) : Enters P f := by
  obtain ⟨fn, h1, h2, h3⟩ := hG f p hp
  exact enters h1 h2 h3

/-- A function's contract, out of its code. -/
theorem fcallsG {fz : Bool} {G : FuncId → Option IFn} (hG : GOk P G) {f : FuncId} {p : IFn} (hp : G f = some p) (args : List D) (hle : args.length ≤ p.n) (os : List Ob) {Post : D → List Ob → Prop}
    (h : ∀ (c : Ctx) (E0 : Env), WI P c E0 os p.n p.body (fun x φ' os' => (x = .normal ∨ x = .ret) ∧ ∃ ds os2, retD fz (fun _ _ => none) φ' os' p.res = some (true, ds, os2) ∧ Post (mkR ds) os2) (argsφ 0 args) os) : FCalls P f args os Post := by
  obtain ⟨fn, h1, h2, h3⟩ := hG f p hp
  exact fcalls h1 h3 args hle os h

end
end Go.Ab
