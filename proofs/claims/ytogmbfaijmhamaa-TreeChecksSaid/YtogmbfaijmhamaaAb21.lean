/- Code. -/
import Derived.Test.YtogmbfaijmhamaaAb20
import Derived.LoopN
import Derived.ScopeJumps
namespace Go.Ab
open Go.RowKit Go.Bo

/-! ### Code -/
inductive IC where
  | skip
  | reg (ops : List IOp)
  | dreg (k : Nat) (rs : List Nat) (ops : List IOp)
  | seq (a b : IC)
  | cond (x : IO) (a b : IC)
  | block (id : Nat) (b : IC)
  | loop (b : IC)
  | exit (id : Nat)
  | ret
  | scope (b cur : IC)
  | label (l : Nat)
  | goto (l : Nat)

/-- What reads, and what turns. -/
def IE.reader : IE → Bool
  | .ld _ _ _ => true
  | .iad _ _ _ => true
  | .iada _ _ _ _ => true
  | .len _ _ => true
  | .eq _ _ _ _ => true
  | .slc _ _ _ _ _ => true
  | .b2s _ => true
  | _ => false
def IE.turner : IE → Bool
  | .sto _ _ _ => true
  | .app _ _ _ _ _ => true
  | .cpy _ _ _ => true
  | _ => false
/-- Some one that turns is not bound to come ahead, nor behind. -/
def loose (i c : Nat) : Nat → List Nat → List IOp → Bool
  | j, d :: l, o :: il => (o.e.turner && (!Nat.testBit c j && !Nat.testBit d i)) || loose i c (j + 1) l il
  | _, _, _ => false
def rsG (C : List Nat) (il : List IOp) : Nat → List Nat → List IOp → List Nat
  | i, c :: l, o :: il' => if (!o.e.frame && o.e.reader) && loose i c 0 C il then i :: rsG C il (i + 1) l il' else rsG C il (i + 1) l il'
  | _, _, _ => []
/-- From where on each one that looks at objects comes behind all earlier ones. -/
def cutG (rs : List Nat) : Nat → Nat → Nat → List Nat → List IOp → Nat
  | i, k, m, c :: l, o :: il => cutG rs (i + 1) (if o.ex rs i || Nat.beq (Nat.land c m) m then k else i + 1) (if o.ex rs i then m else m ||| 2 ^ i) l il
  | _, k, _, _, _ => k
def drawCut (P : Program) (ops : Array Oper) (il : List IOp) : Option (Nat × List Nat × List IOp) :=
  let C := below [] ops.toList
  let rs := rsG C il 0 C il
  let k := cutG rs 0 0 0 C il
  if P.follows .mixedOrders = true ∧ drawOk ops.toList il k rs = true then some (k, rs, il) else none

theorem drawCut_some {P : Program} {ops : Array Oper} {il l : List IOp} {k : Nat} {rs : List Nat} (h : drawCut P ops il = some (k, rs, l)) : P.follows .mixedOrders = true ∧ drawOk ops.toList l k rs = true ∧ il = l := by
  unfold drawCut at h
  simp only at h
  by_cases h3 : P.follows .mixedOrders = true ∧ drawOk ops.toList il (cutG (rsG (below [] ops.toList) il 0 (below [] ops.toList) il) 0 0 0 (below [] ops.toList) il) (rsG (below [] ops.toList) il 0 (below [] ops.toList) il) = true
  · rw [if_pos h3] at h
    simp only [Option.some.injEq, Prod.mk.injEq] at h
    obtain ⟨rfl, rfl, rfl⟩ := h
    exact ⟨h3.1, h3.2, rfl⟩
  · rw [if_neg h3] at h; cases h

def compCode (P : Program) (n : Nat) : Code → Option IC
  | .skip => some .skip
  | .region _ ops draw => if draw then ((ops.toList.mapM (compOper P n ops)).bind (drawCut P ops)).map fun p => .dreg p.1 p.2.1 p.2.2
    else (ops.toList.mapM (compOper P n ops)).map .reg
  | .seq a b => (compCode P n a).bind fun a' => (compCode P n b).map fun b' => .seq a' b'
  | .cond x a b => (compO x).bind fun x' => (compCode P n a).bind fun a' => (compCode P n b).map fun b' => .cond x' a' b'
  | .block i b => (compCode P n b).map fun b' => .block i b'
  | .loop b => (compCode P n b).map .loop
  | .exit i => some (.exit i)
  | .ret => some .ret
  | .scope b => (compCode P n b).map fun b' => .scope b' b'
  | .label l => some (.label l)
  | .goto l => some (.goto l)
  | _ => none

/-- A function's run: how it began, what it began with. -/
structure Run (c : Ctx) (E0 : Env) (os0 : List Ob) (E : Env) (os : List Ob) : Prop where
  rel : Rel c E os
  evo : Evo E0 os0 E os

/-- What a piece of code makes of frames and objects. -/
def WI (P : Program) (c : Ctx) (E0 : Env) (os0 : List Ob) (n : Nat) (ic : IC) (Q : Exit → List (Nat × D) → List Ob → Prop) (φ : List (Nat × D)) (os : List Ob) : Prop :=
  ∀ (code : Code), compCode P n code = some ic → ∀ (E : Env) (a : Act), Run c E0 os0 E os → Fr n E os φ a →
    code.wp P (fun x a' w' => ∃ E' φ' os', E'.w = w' ∧ Run c E0 os0 E' os' ∧ Fr n E' os' φ' a' ∧ Q x φ' os') a E.w

section
variable {P : Program} {c : Ctx} {E0 : Env} {os0 : List Ob} {n : Nat} {Q : Exit → List (Nat × D) → List Ob → Prop} {φ : List (Nat × D)} {os : List Ob}

theorem WI.mono {ic : IC} {Q' : Exit → List (Nat × D) → List Ob → Prop} (h : WI P c E0 os0 n ic Q φ os) (hQ : ∀ x φ os, Q x φ os → Q' x φ os) : WI P c E0 os0 n ic Q' φ os :=
  fun code hc E a R hf => wp_mono (h code hc E a R hf) (fun _ _ _ ⟨E', φ', os', h1, h2, h3, h4⟩ => ⟨E', φ', os', h1, h2, h3, hQ _ _ _ h4⟩)


theorem inv_skip {code : Code} (hc : compCode P n code = some .skip) : code = .skip := by
  cases code <;> simp only [compCode] at hc <;> (try split at hc) <;> simp [Option.bind_eq_some_iff] at hc ⊢
theorem inv_seq {code : Code} {a' b' : IC} (hc : compCode P n code = some (.seq a' b')) : ∃ a b, code = .seq a b ∧ compCode P n a = some a' ∧ compCode P n b = some b' := by
  cases code <;> simp only [compCode] at hc <;> (try split at hc) <;> simp [Option.bind_eq_some_iff] at hc ⊢
  exact ⟨_, _, ⟨rfl, rfl⟩, hc.1, hc.2⟩
theorem inv_cond {code : Code} {x' : IO} {a' b' : IC} (hc : compCode P n code = some (.cond x' a' b')) : ∃ x a b, code = .cond x a b ∧ compO x = some x' ∧ compCode P n a = some a' ∧ compCode P n b = some b' := by
  cases code <;> simp only [compCode] at hc <;> (try split at hc) <;> simp [Option.bind_eq_some_iff] at hc ⊢
  obtain ⟨x, h1, y, h2, z, h3, rfl, rfl, rfl⟩ := hc
  exact ⟨_, _, _, ⟨rfl, rfl, rfl⟩, h1, h2, h3⟩
theorem inv_block {code : Code} {i : Nat} {b' : IC} (hc : compCode P n code = some (.block i b')) : ∃ b, code = .block i b ∧ compCode P n b = some b' := by
  cases code <;> simp only [compCode] at hc <;> (try split at hc) <;> simp [Option.bind_eq_some_iff] at hc ⊢
  exact ⟨_, ⟨hc.2, rfl⟩, hc.1⟩
theorem inv_loop {code : Code} {b' : IC} (hc : compCode P n code = some (.loop b')) : ∃ b, code = .loop b ∧ compCode P n b = some b' := by
  cases code <;> simp only [compCode] at hc <;> (try split at hc) <;> simp [Option.bind_eq_some_iff] at hc ⊢
  exact hc
theorem inv_exit {code : Code} {i : Nat} (hc : compCode P n code = some (.exit i)) : code = .exit i := by
  cases code <;> simp only [compCode] at hc <;> (try split at hc) <;> simp [Option.bind_eq_some_iff] at hc ⊢
  exact hc
theorem inv_ret {code : Code} (hc : compCode P n code = some .ret) : code = .ret := by
  cases code <;> simp only [compCode] at hc <;> (try split at hc) <;> simp [Option.bind_eq_some_iff] at hc ⊢
theorem inv_scope {code : Code} {b' c' : IC} (hc : compCode P n code = some (.scope b' c')) : ∃ b, code = .scope b ∧ compCode P n b = some b' ∧ c' = b' := by
  cases code <;> simp only [compCode] at hc <;> (try split at hc) <;> simp [Option.bind_eq_some_iff] at hc ⊢
  obtain ⟨h1, h2⟩ := hc
  subst h2
  exact ⟨h1, rfl⟩
theorem inv_label {code : Code} {l : Nat} (hc : compCode P n code = some (.label l)) : code = .label l := by
  cases code <;> simp only [compCode] at hc <;> (try split at hc) <;> simp [Option.bind_eq_some_iff] at hc ⊢
  exact hc
theorem inv_goto {code : Code} {l : Nat} (hc : compCode P n code = some (.goto l)) : code = .goto l := by
  cases code <;> simp only [compCode] at hc <;> (try split at hc) <;> simp [Option.bind_eq_some_iff] at hc ⊢
  exact hc
theorem inv_reg {code : Code} {l : List IOp} (hc : compCode P n code = some (.reg l)) : ∃ id ops, code = .region id ops false ∧ ops.toList.mapM (compOper P n ops) = some l := by
  cases code <;> simp only [compCode] at hc <;> (try split at hc) <;> simp [Option.bind_eq_some_iff] at hc ⊢
  rename_i h
  exact ⟨_, _, ⟨rfl, rfl, by simpa using h⟩, hc⟩

theorem inv_dreg {code : Code} {k : Nat} {rs : List Nat} {l : List IOp} (hc : compCode P n code = some (.dreg k rs l)) : ∃ id ops, code = .region id ops true ∧ ops.toList.mapM (compOper P n ops) = some l ∧ P.follows .mixedOrders = true ∧ drawOk ops.toList l k rs = true := by
  cases code <;> simp only [compCode] at hc <;> (try split at hc) <;> simp [Option.bind_eq_some_iff] at hc ⊢
  rename_i h
  obtain ⟨l', h1, h2⟩ := hc
  obtain ⟨_, _, _, h2, rfl, rfl, rfl⟩ := h2
  obtain ⟨h3, h4, rfl⟩ := drawCut_some h2
  exact ⟨_, _, ⟨rfl, rfl, by simpa using h⟩, h1, h3, h4⟩

/-- What stands behind a label. -/
def findI : IC → Nat → Option IC
  | .seq a b, l => match findI a l with
    | some r => some (.seq r b)
    | none => findI b l
  | .label l', l => if l' == l then some .skip else none
  | _, _ => none
theorem find_comp : ∀ (ic : IC) (code : Code), compCode P n code = some ic → ∀ l, (∀ r, findI ic l = some r → ∃ rc, findLabel code l = some rc ∧ compCode P n rc = some r) ∧ (findI ic l = none → findLabel code l = none)
  | .seq a b, code, hc, l => by
    obtain ⟨ca, cb, rfl, h1, h2⟩ := inv_seq hc
    obtain ⟨a1, a2⟩ := find_comp a ca h1 l
    obtain ⟨b1, b2⟩ := find_comp b cb h2 l
    simp only [findI, findLabel]
    cases ha : findI a l with
    | some ra =>
      obtain ⟨rc, k1, k2⟩ := a1 ra ha
      refine ⟨fun r hr => ?_, fun h => by cases h⟩
      cases hr
      rw [k1]
      exact ⟨_, rfl, by simp only [compCode, k2, h2, Option.bind_some, Option.map_some]⟩
    | none =>
      rw [a2 ha]
      exact ⟨fun r hr => b1 r hr, fun h => b2 h⟩
  | .label l', code, hc, l => by
    rw [inv_label hc]
    simp only [findI, findLabel]
    split
    · exact ⟨fun r hr => (by cases hr; exact ⟨_, rfl, rfl⟩), fun h => (by cases h)⟩
    · exact ⟨fun r hr => (by cases hr), fun _ => rfl⟩
  | .skip, code, hc, l => by rw [inv_skip hc]; exact ⟨fun r hr => (by cases hr), fun _ => rfl⟩
  | .reg _, code, hc, l => by obtain ⟨id, ops, rfl, _⟩ := inv_reg hc; exact ⟨fun r hr => (by cases hr), fun _ => rfl⟩
  | .dreg _ _ _, code, hc, l => by obtain ⟨id, ops, rfl, _⟩ := inv_dreg hc; exact ⟨fun r hr => (by cases hr), fun _ => rfl⟩
  | .cond _ _ _, code, hc, l => by obtain ⟨_, _, _, rfl, _⟩ := inv_cond hc; exact ⟨fun r hr => (by cases hr), fun _ => rfl⟩
  | .block _ _, code, hc, l => by obtain ⟨_, rfl, _⟩ := inv_block hc; exact ⟨fun r hr => (by cases hr), fun _ => rfl⟩
  | .loop _, code, hc, l => by obtain ⟨_, rfl, _⟩ := inv_loop hc; exact ⟨fun r hr => (by cases hr), fun _ => rfl⟩
  | .exit _, code, hc, l => by rw [inv_exit hc]; exact ⟨fun r hr => (by cases hr), fun _ => rfl⟩
  | .ret, code, hc, l => by rw [inv_ret hc]; exact ⟨fun r hr => (by cases hr), fun _ => rfl⟩
  | .scope _ _, code, hc, l => by obtain ⟨_, rfl, _⟩ := inv_scope hc; exact ⟨fun r hr => (by cases hr), fun _ => rfl⟩
  | .goto _, code, hc, l => by rw [inv_goto hc]; exact ⟨fun r hr => (by cases hr), fun _ => rfl⟩

theorem WI.label {l : Nat} (h : Q .normal φ os) : WI P c E0 os0 n (.label l) Q φ os := by
  intro code hc E a R hf
  rw [inv_label hc]
  exact wp_label ⟨E, φ, os, rfl, R, hf, h⟩
theorem WI.goto {l : Nat} (h : Q (.goto l) φ os) : WI P c E0 os0 n (.goto l) Q φ os := by
  intro code hc E a R hf
  rw [inv_goto hc]
  exact wp_goto ⟨E, φ, os, rfl, R, hf, h⟩
/-- As Q; by a goto to label l: J. -/
def jumpQ (l : Nat) (J : List (Nat × D) → List Ob → Prop) (Q : Exit → List (Nat × D) → List Ob → Prop) : Exit → List (Nat × D) → List Ob → Prop
  | .goto l', φ, os => l' = l ∧ J φ os
  | x, φ, os => Q x φ os

/-- The run goes on behind a label. -/
def wpIn (P : Program) (c rc : Code) (Q : Exit → Act → World → Prop) (a : Act) (w : World) : Prop :=
  ∀ b k cs, ∃ e a' w', Q e a' w' ∧ Arrives P (lone (b.at a (.code rc :: .inScope c :: k)) cs w) b k cs e a' w'
theorem wpIn_step {c rc : Code} {Q : Exit → Act → World → Prop} {a : Act} {w : World} (h : rc.wp P (fun e a' w' => match e with | .goto l => ∃ rest, findLabel c l = some rest ∧ wpIn P c rest Q a' w' | e => Q e a' w') a w) : wpIn P c rc Q a w := by
  intro b k cs
  obtain ⟨e, a₁, w₁, hq, harr⟩ := h b (.inScope c :: k) cs
  cases e with
  | normal => exact ⟨.normal, a₁, w₁, hq, Steps.trans harr (.one step_inScope)⟩
  | exit id => exact ⟨.exit id, a₁, w₁, hq, fun k' hk => harr k' (by simp [exitTo, hk])⟩
  | goto l' =>
    obtain ⟨rest, hf, hn⟩ := hq
    have hg : gotoIn l' (.inScope c :: k) = some (.code rest :: .inScope c :: k) := by simp [gotoIn, hf]
    obtain ⟨e₂, a₂, w₂, hq₂, harr₂⟩ := hn b k cs
    exact ⟨e₂, a₂, w₂, hq₂, .of_steps (harr _ hg) harr₂⟩
  | ret => exact ⟨_, a₁, w₁, hq, harr⟩
  | panic ch => exact ⟨_, a₁, w₁, hq, harr⟩
  | outgrown => exact ⟨_, a₁, w₁, hq, harr⟩
theorem wp_of_wpIn {c : Code} {Q : Exit → Act → World → Prop} {a : Act} {w : World} (h : wpIn P c c Q a w) : (Code.scope c).wp P Q a w := by
  intro b k cs
  obtain ⟨e, a₁, w₁, hq, harr⟩ := h b k cs
  exact ⟨e, a₁, w₁, hq, .of_steps (.one step_scope) harr⟩
theorem WI.skip (h : Q .normal φ os) : WI P c E0 os0 n .skip Q φ os := by
  intro code hc E a R hf
  rw [inv_skip hc]
  exact wp_skip ⟨E, φ, os, rfl, R, hf, h⟩
theorem WI.ret (h : Q .ret φ os) : WI P c E0 os0 n .ret Q φ os := by
  intro code hc E a R hf
  rw [inv_ret hc]
  exact wp_ret ⟨E, φ, os, rfl, R, hf, h⟩
theorem WI.exit {i : Nat} (h : Q (.exit i) φ os) : WI P c E0 os0 n (.exit i) Q φ os := by
  intro code hc E a R hf
  rw [inv_exit hc]
  exact wp_exit ⟨E, φ, os, rfl, R, hf, h⟩

/-- What comes behind. -/
def thenQ (next : List (Nat × D) → List Ob → Prop) (Q : Exit → List (Nat × D) → List Ob → Prop) : Exit → List (Nat × D) → List Ob → Prop
  | .normal, φ, os => next φ os
  | x, φ, os => Q x φ os
def blockQ (i : Nat) (Q : Exit → List (Nat × D) → List Ob → Prop) : Exit → List (Nat × D) → List Ob → Prop
  | .exit j, φ, os => if j = i then Q .normal φ os else Q (.exit j) φ os
  | x, φ, os => Q x φ os

theorem WI.seq {x y : IC} (h : WI P c E0 os0 n x (thenQ (WI P c E0 os0 n y Q) Q) φ os) : WI P c E0 os0 n (.seq x y) Q φ os := by
  intro code hc E a R hf
  obtain ⟨ca, cb, rfl, h1, h2⟩ := inv_seq hc
  refine wp_seq (wp_mono (h ca h1 E a R hf) (fun e a' w' ⟨E', φ', os', k1, k2, k3, k4⟩ => ?_))
  subst k1
  cases e with
  | normal => exact k4 cb h2 E' a' k2 k3
  | _ => exact ⟨E', φ', os', rfl, k2, k3, k4⟩
theorem WI.block {i : Nat} {b : IC} (h : WI P c E0 os0 n b (blockQ i Q) φ os) : WI P c E0 os0 n (.block i b) Q φ os := by
  intro code hc E a R hf
  obtain ⟨cb, rfl, h1⟩ := inv_block hc
  refine wp_block (wp_mono (h cb h1 E a R hf) (fun e a' w' ⟨E', φ', os', k1, k2, k3, k4⟩ => ?_))
  cases e with
  | exit j =>
    simp only [Exit.inBlock]
    simp only [blockQ] at k4
    split
    · rename_i hj; rw [if_pos hj] at k4; exact ⟨E', φ', os', k1, k2, k3, k4⟩
    · rename_i hj; rw [if_neg hj] at k4; exact ⟨E', φ', os', k1, k2, k3, k4⟩
  | _ => exact ⟨E', φ', os', k1, k2, k3, k4⟩
theorem WI.cond {x : IO} {y z : IC} {b : Bool} (hv : (opv φ x).val = .x (.bool b)) (hcd : (opv φ x).cond = true) (ht : b = true → WI P c E0 os0 n y Q φ os) (he : b = false → WI P c E0 os0 n z Q φ os) : WI P c E0 os0 n (.cond x y z) Q φ os := by
  intro code hc E a R hf
  obtain ⟨cx, ca, cb, rfl, h1, h2, h3⟩ := inv_cond hc
  have := (V.op hf h1).strip hcd
  rw [hv] at this
  exact wp_cond_split (V.bool this) (fun h => ht h ca h2 E a R hf) (fun h => he h cb h3 E a R hf)

/-- A row of operations: ks are the slots that are looked at later. -/
theorem WI.reg {S : Tabs} (hS : SsOk P S) (ks : List Nat) {l : List IOp} {ok : Bool} {φ' : List (Nat × D)} {os' : List Ob} (h : runOps S φ os l = some (ok, φ', os')) (hok : ok = true) (hq : Q .normal (keep ks φ') os') : WI P c E0 os0 n (.reg l) Q φ os := by
  intro code hc E a R hf
  subst hok
  obtain ⟨id, ops, rfl, h1⟩ := inv_reg hc
  exact wp_region_list (ops_ok hS R.rel hf h1 h (fun E' a' R' e' f' => ⟨E', _, os', rfl, ⟨R', R.evo.trans e'⟩, f'.keep ks, hq⟩))

def Res (r : Option (Bool × List (Nat × D) × List Ob)) (K : List (Nat × D) → List Ob → Prop) : Prop := ∃ ok φ os, r = some (ok, φ, os) ∧ ok = true ∧ K φ os
theorem Res.some_iff {ok : Bool} {φ : List (Nat × D)} {os : List Ob} {K : List (Nat × D) → List Ob → Prop} : Res (some (ok, φ, os)) K = (ok = true ∧ K φ os) := by
  apply propext
  constructor
  · rintro ⟨ok', φ', os', h, h1, h2⟩; cases h; exact ⟨h1, h2⟩
  · rintro ⟨h1, h2⟩; exact ⟨ok, φ, os, rfl, h1, h2⟩
theorem WI.regK {S : Tabs} (hS : SsOk P S) (ks : List Nat) {l : List IOp} (h : ∀ K : List (Nat × D) → List Ob → Prop, (∀ φ' os', Q .normal φ' os' → K φ' os') → Res (runOps S φ os l) (fun φ' os' => K (Go.Ab.keep ks φ') os')) : WI P c E0 os0 n (.reg l) Q φ os := by
  obtain ⟨ok, φ', os', h1, h2, h3⟩ := h _ (fun _ _ h => h)
  exact WI.reg hS ks h1 h2 h3

theorem WI.dregK {S : Tabs} (hS : SsOk P S) (ks : List Nat) {k : Nat} {rs : List Nat} {l : List IOp} (h : ∀ K : List (Nat × D) → List Ob → Prop, (∀ φ' os', Q .normal φ' os' → K φ' os') → Res (runD S φ os k rs l) (fun φ' os' => K (Go.Ab.keep ks φ') os')) : WI P c E0 os0 n (.dreg k rs l) Q φ os := by
  obtain ⟨ok, φ', os', h1, rfl, h3⟩ := h _ (fun _ _ h => h)
  intro code hc E a R hf
  obtain ⟨id, ops, rfl, h4, h5, h6⟩ := inv_dreg hc
  exact draw_wp h5 hS h6 h4 R.rel hf h1 (fun E' a' R' e' f' => ⟨E', _, os', rfl, ⟨R', R.evo.trans e'⟩, f'.keep ks, h3⟩)

theorem WI.reg' {S : Tabs} (hS : SsOk P S) {l : List IOp} {ok : Bool} {φ' : List (Nat × D)} {os' : List Ob} (h : runOps S φ os l = some (ok, φ', os')) (hok : ok = true) (hq : Q .normal φ' os') : WI P c E0 os0 n (.reg l) Q φ os := by
  intro code hc E a R hf
  subst hok
  obtain ⟨id, ops, rfl, h1⟩ := inv_reg hc
  exact wp_region_list (ops_ok hS R.rel hf h1 h (fun E' a' R' e' f' => ⟨E', _, os', rfl, ⟨R', R.evo.trans e'⟩, f', hq⟩))
theorem WI.dreg' {S : Tabs} (hS : SsOk P S) {k : Nat} {rs : List Nat} {l : List IOp} {ok : Bool} {φ' : List (Nat × D)} {os' : List Ob} (h : runD S φ os k rs l = some (ok, φ', os')) (hok : ok = true) (hq : Q .normal φ' os') : WI P c E0 os0 n (.dreg k rs l) Q φ os := by
  intro code hc E a R hf
  subst hok
  obtain ⟨id, ops, rfl, h4, h5, h6⟩ := inv_dreg hc
  exact draw_wp h5 hS h6 h4 R.rel hf h (fun E' a' R' e' f' => ⟨E', _, os', rfl, ⟨R', R.evo.trans e'⟩, f', hq⟩)

/-- A scope in which the run jumps back to one label: what holds at each jump, and a measure. -/
theorem WI.scope {b rest : IC} (l : Nat) (hfi : findI b l = some rest) (J : List (Nat × D) → List Ob → Prop) (μ : List (Nat × D) → List Ob → Nat) (first : WI P c E0 os0 n b (jumpQ l J Q) φ os)
    (pass : ∀ φ os, J φ os → WI P c E0 os0 n rest (jumpQ l (fun φ' os' => J φ' os' ∧ μ φ' os' < μ φ os) Q) φ os) : WI P c E0 os0 n (.scope b b) Q φ os := by
  intro code hc E a R hf
  obtain ⟨cb, rfl, h1, _⟩ := inv_scope hc
  obtain ⟨rc, h2, h3⟩ := (find_comp b cb h1 l).1 rest hfi
  refine wp_of_wpIn ?_
  have key : ∀ (k : Nat) (φ : List (Nat × D)) (os : List Ob) (E : Env) (a : Act), μ φ os = k → J φ os → Run c E0 os0 E os → Fr n E os φ a → wpIn P cb rc (fun x a' w' => ∃ E' φ' os', E'.w = w' ∧ Run c E0 os0 E' os' ∧ Fr n E' os' φ' a' ∧ Q x φ' os') a E.w := by
    intro k
    induction k using Nat.strongRecOn with
    | _ k ih =>
      intro φ os E a hk hJ R hf
      refine wpIn_step (wp_mono (pass φ os hJ rc h3 E a R hf) ?_)
      rintro e a' w' ⟨E', φ', os', rfl, R', f', hq⟩
      cases e with
      | goto l' =>
        obtain ⟨rfl, hJ', hlt⟩ := hq
        exact ⟨rc, h2, ih _ (by omega) φ' os' E' a' rfl hJ' R' f'⟩
      | _ => exact ⟨E', φ', os', rfl, R', f', hq⟩
  refine wpIn_step (wp_mono (first cb h1 E a R hf) ?_)
  rintro e a' w' ⟨E', φ', os', rfl, R', f', hq⟩
  cases e with
  | goto l' =>
    obtain ⟨rfl, hJ'⟩ := hq
    exact ⟨rc, h2, key _ φ' os' E' a' rfl hJ' R' f'⟩
  | _ => exact ⟨E', φ', os', rfl, R', f', hq⟩

/-- A loop: a relation on frames and objects that each round keeps, and a measure. -/
theorem WI.loop {b : IC} (I : List (Nat × D) → List Ob → Prop) (μ : List (Nat × D) → List Ob → Nat) (h0 : I φ os)
    (round : ∀ φ os, I φ os → WI P c E0 os0 n b (thenQ (fun φ' os' => I φ' os' ∧ μ φ' os' < μ φ os) Q) φ os) : WI P c E0 os0 n (.loop b) Q φ os := by
  intro code hc E a R hf
  obtain ⟨cb, rfl, h1⟩ := inv_loop hc
  let T : Act → World → Nat → Prop := fun a w k => ∃ E φ os, E.w = w ∧ Run c E0 os0 E os ∧ Fr n E os φ a ∧ I φ os ∧ μ φ os = k
  have hT : T a E.w (μ φ os) := ⟨E, φ, os, rfl, R, hf, h0, rfl⟩
  have hmin : ∀ (a : Act) (w : World), (∃ k, T a w k) → ∃ k, T a w k ∧ ∀ j, T a w j → k ≤ j := by
    intro a w ⟨k, hk⟩
    induction k using Nat.strongRecOn with
    | _ k ih =>
      by_cases h : ∃ j, j < k ∧ T a w j
      · obtain ⟨j, hj, hj2⟩ := h; exact ih j hj hj2
      · exact ⟨k, hk, fun j hj => by
          rcases Nat.lt_or_ge j k with h2 | h2
          · exact absurd ⟨j, h2, hj⟩ h
          · exact h2⟩
  classical
  let m : Act → World → Nat := fun a w => if h : ∃ k, T a w k then Classical.choose (hmin a w h) else 0
  have hm : ∀ a w k, T a w k → T a w (m a w) ∧ m a w ≤ k := by
    intro a w k hk
    have hex : ∃ k, T a w k := ⟨k, hk⟩
    have : m a w = Classical.choose (hmin a w hex) := dif_pos hex
    rw [this]
    obtain ⟨q1, q2⟩ := Classical.choose_spec (hmin a w hex)
    exact ⟨q1, q2 k hk⟩
  refine wp_loop (fun a w => ∃ k, T a w k) m ⟨_, hT⟩ (fun a w ⟨k, hk⟩ => ?_)
  obtain ⟨⟨E1, φ1, os1, rfl, R1, f1, i1, hk1⟩, _⟩ := hm a w k hk
  refine wp_mono (round φ1 os1 i1 cb h1 E1 a R1 f1) (fun e a' w' ⟨E', φ', os', k1, k2, k3, k4⟩ => ?_)
  cases e with
  | normal =>
    have ht : T a' w' (μ φ' os') := ⟨E', φ', os', k1, k2, k3, k4.1, rfl⟩
    refine ⟨⟨_, ht⟩, ?_⟩
    have := (hm a' w' _ ht).2
    have := k4.2
    omega
  | _ => exact ⟨E', φ', os', k1, k2, k3, k4⟩

/-- What is known may be said otherwise, if it is so in each such run. -/
theorem WI.weak {ic : IC} {φ' : List (Nat × D)} {os' : List Ob} (hw : ∀ (E : Env) (a : Act), Run c E0 os0 E os → Fr n E os φ a → ∃ E', E'.w = E.w ∧ Run c E0 os0 E' os' ∧ Fr n E' os' φ' a) (h : WI P c E0 os0 n ic Q φ' os') : WI P c E0 os0 n ic Q φ os := by
  intro code hc E a R hf
  obtain ⟨E', h1, h2, h3⟩ := hw E a R hf
  rw [← h1]
  exact h code hc E' a h2 h3
theorem WI.keep (ks : List Nat) {ic : IC} (h : WI P c E0 os0 n ic Q (keep ks φ) os) : WI P c E0 os0 n ic Q φ os := WI.weak (fun E _ R hf => ⟨E, rfl, R, hf.keep ks⟩) h

/-- A slice that is nil is a row of the call's own without elements. -/
theorem WI.own (t e sz : Nat) (ht : get φ t = .x .nils) {ic : IC} (h : WI P c E0 os0 n ic Q (put φ t (.ref os.length 0 0 0)) (os ++ [.rows false e sz []])) : WI P c E0 os0 n ic Q φ os := by
  refine WI.weak (fun E a R hf => ?_) h
  obtain ⟨E', k1, k2, k3, k4⟩ := push_row (fz := false) (e := e) (sz := sz) (rs := []) (cu := .slice none 0 0) (xs := []) R.rel (Kept.refl _ E.w) ⟨by simp, .inl ⟨rfl, rfl⟩⟩ (fun b hb => by cases hb) (fun r hr => by cases hr) (fun i r j x v h => by simp at h)
  refine ⟨E', k1, ⟨k2, R.evo.trans k3⟩, hf.size, hf.defers, fun u => ?_⟩
  rw [get_put]
  split
  · rename_i he
    subst he
    have := hf.slot t
    rw [ht] at this
    rw [V.nils this]
    exact k4
  · exact (hf.slot u).mono k3

end
end Go.Ab
