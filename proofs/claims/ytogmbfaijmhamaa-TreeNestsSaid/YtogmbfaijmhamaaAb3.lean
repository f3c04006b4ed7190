/- The model's operations as operations on abstract values; quiet ones yield what the evaluator says. -/
import Derived.Test.YtogmbfaijmhamaaAb2
import Derived.Laws.StructEq
namespace Go.Ab
open Go.RowKit Go.Bo

def constD1 : Value → D
  | .int k n => .x (.int k n)
  | .bool b => .x (.bool b)
  | .string s => .x (.str s.data.toList)
  | .pointer none => .x .nilp
  | .slice none 0 0 => .x .nils
  | _ => .und
def constD : Value → D
  | .agg cs => if cs.toList.all (·.oneCell') then .agg (cs.toList.map constD1) else .und
  | v => constD1 v

theorem bstr_data (s : ByteArray) : bstr s.data.toList = s := by cases s; simp [bstr]
theorem V.const1 (E : Env) (os : List Ob) (v : Value) : V E os (constD1 v) v := by
  unfold constD1
  split
  · exact .x (.int _ _)
  · exact .x (.bool _)
  · rename_i s; have := VX.str (w := E.w) (st := E.st) s.data.toList; rw [bstr_data] at this; exact .x this
  · exact .x .nilp
  · exact .x .nils
  · exact .und _
theorem V.const (E : Env) (os : List Ob) (v : Value) : V E os (constD v) v := by
  unfold constD
  split
  · rename_i cs
    split
    · rename_i h
      refine .agg cs (by simp) (fun v hv => List.all_eq_true.1 h v hv) (fun j d v hd hv => ?_)
      rw [List.getElem?_map] at hd
      rw [← Array.getElem?_toList] at hv
      rw [hv] at hd
      cases hd
      exact V.const1 E os v
    · exact .und _
  · exact V.const1 E os v

def compO : Operand → Option IO
  | .tmp t => some (.t t)
  | .const v => some (.c (constD v))
  | .func f => some (.c (.fn f []))
  | .global _ => none

/-- The frame's slots are that. -/
structure Fr (n : Nat) (E : Env) (os : List Ob) (φ : List (Nat × D)) (a : Act) : Prop where
  size : a.tmps.size = n
  defers : a.defers = []
  slot : ∀ t, V E os (get φ t) (a.tmps.getD t undef)

theorem Fr.mono {n : Nat} {E E' : Env} {os os' : List Ob} {φ : List (Nat × D)} {a : Act} (h : Fr n E os φ a) (e : Evo E os E' os') : Fr n E' os' φ a := ⟨h.size, h.defers, fun t => (h.slot t).mono e⟩
theorem Fr.keep {n : Nat} {E : Env} {os : List Ob} {φ : List (Nat × D)} {a : Act} (h : Fr n E os φ a) (ks : List Nat) : Fr n E os (Go.Ab.keep ks φ) a :=
  ⟨h.size, h.defers, fun t => by rcases get_keep ks φ t with e | e <;> rw [e]; exact h.slot t; exact .und _⟩
theorem Fr.put {n : Nat} {E : Env} {os : List Ob} {φ : List (Nat × D)} {a : Act} (h : Fr n E os φ a) {t : Nat} {d : D} {v : Value} (ht : t < n) (hv : V E os d v) : Fr n E os (Go.Ab.put φ t d) (a.put (some t) v) := by
  refine ⟨by simp [Act.put, h.size], h.defers, fun u => ?_⟩
  rw [get_put]
  show V E os _ ((a.tmps.setIfInBounds t v).getD u undef)
  by_cases e : t = u
  · subst e
    have : (a.tmps.setIfInBounds t v).getD t undef = v := by simp [Array.getD_eq_getD_getElem?, h.size, ht]
    rw [this]; simpa using hv
  · have : (a.tmps.setIfInBounds t v).getD u undef = a.tmps.getD u undef := by simp [Array.getD_eq_getD_getElem?, e]
    rw [this]; simpa [e] using h.slot u

theorem V.op {n : Nat} {E : Env} {os : List Ob} {φ : List (Nat × D)} {a : Act} (h : Fr n E os φ a) {x : Operand} {y : IO} (hx : compO x = some y) : V E os (opv φ y) (a.eval x) := by
  cases x with
  | tmp t => cases hx; exact h.slot t
  | const v => cases hx; exact V.const E os v
  | global g => cases hx
  | func f => cases hx; exact .fn #[] rfl (fun j d v hd => by simp at hd)

def isAg : TypeDesc → Bool
  | .struct _ | .array _ _ => true
  | _ => false
def szOf (P : Program) (t : TypeId) : Option Nat := (P.info? t).map (·.size)
def agOf (P : Program) (t : TypeId) : Option Bool := (P.underlying t).map isAg
def compOO : Option Operand → Option (Option IO)
  | none => some none
  | some x => (compO x).map some

def compPlaces (place : Nat → Option (Nat × Nat)) : List (Nat × Operand) → Option (List (Nat × Nat × IO))
  | [] => some []
  | (j, x) :: l => do
    let p ← place j
    let y ← compO x
    let r ← compPlaces place l
    some ((p.1, p.2, y) :: r)
def compElems : Nat → List (Nat × Operand) → Option (List IO)
  | _, [] => some []
  | i, (j, x) :: l => if j = i then do
      let y ← compO x
      let r ← compElems (i + 1) l
      some (y :: r)
    else none
def zeroX : Value → Option (List X)
  | .agg cs => cs.toList.mapM fun v => match constD1 v with | .x x => some x | _ => none
  | v => match constD1 v with | .x x => some [x] | _ => none

def compCall (P : Program) (c : Call) : Option IE :=
  match c.callee with
  | .value f => do some (.call (← compO f) (← c.args.toList.mapM compO))
  | .builtin .len => match c.args.toList, c.argTypes.toList with
    | [x], [t] => match P.underlying t with
      | some .string => do some (.len true (← compO x))
      | some (.slice _) => do some (.len false (← compO x))
      | _ => none
    | _, _ => none
  | .builtin .append => match c.args.toList, c.argTypes.toList with
    | [x, y], [t, u] => match P.underlying t, P.underlying u with
      | some (.slice e), some (.slice _) => (P.info? e).bind fun i => i.zero.bind fun z => if t = u ∧ z.cells.size = i.size then do some (.app e i.size i.bytes (← compO x) (← compO y)) else none
      | _, _ => none
    | _, _ => none
  | .builtin .copy => match c.args.toList, c.argTypes.toList with
    | [x, y], [t, _] => match P.underlying t with
      | some (.slice e) => do some (.cpy (← szOf P e) (← compO x) (← compO y))
      | _ => none
    | _, _ => none
  | .builtin .min => match c.args.toList with | [x, y] => do some (.mnx false (← compO x) (← compO y)) | _ => none
  | .builtin .max => match c.args.toList with | [x, y] => do some (.mnx true (← compO x) (← compO y)) | _ => none
  | _ => none

/-- Fields of plain kinds, where a struct has such alone. -/
def stF (P : Program) : List Field → Option (List (Nat × FK))
  | [] => some []
  | f :: fs => if f.name = "_" then none else match P.underlying f.type with
    | some (.int k) => (stF P fs).map fun l => (f.offset, .int k) :: l
    | some .string => (stF P fs).map fun l => (f.offset, .str) :: l
    | some .bool => (stF P fs).map fun l => (f.offset, .bool) :: l
    | _ => none
def stFs (P : Program) (t : TypeId) : Option (List (Nat × FK)) :=
  match P.underlying t with
  | some (.struct fs) => if P.stoodInHeld t || P.eqGuardType P.depth t then none else stF P fs.toList
  | _ => none
def compOp (P : Program) : Op → Option IE
  | .move x => do some (.mv (← compO x))
  | .assign x => do some (.mv (← compO x))
  | .pick c a b => do some (.pick (← compO c) (← compO a) (← compO b))
  | .box _ x => do some (.box (← compO x))
  | .alloc t => (P.info? t).bind fun i => i.zero.map fun z => .box (.c (constD z))
  | .build t parts => match P.info? t, P.underlying t with
    | some it, some (.array _ e) => match it.zero, P.info? e with
      | some z, some ie => (constD z).cells?.bind fun zs => (compPlaces (fun i => some (i * ie.size, ie.size)) parts.toList).map fun ps => .build zs ps
      | _, _ => none
    | some it, some (.struct fs) => match it.zero, fs.toList.mapM (fun f => (P.info? f.type).map fun i => (f.offset, i.size)) with
      | some z, some places => (constD z).cells?.bind fun zs => (compPlaces (places.toArray[·]?) parts.toList).map fun ps => .build zs ps
      | _, _ => none
    | _, _ => none
  | .buildSlice t n parts => match P.underlying t with
    | some (.slice e) => (P.info? e).bind fun i => i.zero.bind fun _ => if parts.size = n ∧ n * i.size ≤ 16777216 ∧ n ≤ 16777216 then (compElems 0 parts.toList).map fun ps => .bsl e i.size n ps else none
    | _ => none
  | .load t x => do some (.ld (← szOf P t) (← agOf P t) (← compO x))
  | .store t x y => do some (.sto (← szOf P t) (← compO x) (← compO y))
  | .nilCheck x => do some (.nck (← compO x))
  | .binOp op t x y _ => match P.underlying t with
    | some (.int _) | some .string => do some (.bin op (← compO x) (← compO y))
    | some .bool => match op with
      | .eql => do some (.eq .bool false (← compO x) (← compO y))
      | .neq => do some (.eq .bool true (← compO x) (← compO y))
      | _ => none
    | some (.pointer _) => match op with
      | .eql => do some (.eq .ptr false (← compO x) (← compO y))
      | .neq => do some (.eq .ptr true (← compO x) (← compO y))
      | _ => none
    | some (.slice _) => match op with
      | .eql => do some (.eq .sl false (← compO x) (← compO y))
      | .neq => do some (.eq .sl true (← compO x) (← compO y))
      | _ => none
    | some (.struct _) => (stFs P t).bind fun fs => match op with
      | .eql => do some (.eq (.st fs) false (← compO x) (← compO y))
      | .neq => do some (.eq (.st fs) true (← compO x) (← compO y))
      | _ => none
    | _ => none
  | .unOp op _ x => do some (.un op (← compO x))
  | .convert s d x => match P.underlying s, P.underlying d with
    | some (.int _), some (.int k) => do some (.cvi k (← compO x))
    | some (.slice e), some .string => match P.underlying e with
      | some (.int .u8) => do some (.b2s (← compO x))
      | _ => none
    | some .string, some (.slice e) => match P.underlying e with
      | some (.int .u8) => do some (.s2b e (← compO x))
      | _ => none
    | _, _ => none
  | .makeSlice t l c => match P.underlying t with
    | some (.slice e) => (P.info? e).bind fun i => i.zero.bind fun z => (zeroX z).bind fun zx => do some (.mks e i.size i.bytes zx (← compO l) (← compO c))
    | _ => none
  | .slice t x lo hi mx => match P.underlying t with
    | some .string => do some (.slc 0 (← compO x) (← compOO lo) (← compOO hi) (← compOO mx))
    | some (.slice e) => (szOf P e).bind fun z => if z = 0 then none else do some (.slc z (← compO x) (← compOO lo) (← compOO hi) (← compOO mx))
    | _ => none
  | .fieldAddr s x f => match P.underlying s with
    | some (.struct fs) => (fs[f]?).bind fun fd => (szOf P fd.type).bind fun z => if z = 0 then none else do some (.fad fd.offset (← compO x))
    | _ => none
  | .field t x f => match P.underlying t with
    | some (.struct fs) => (fs[f]?).bind fun fd => do some (.fld fd.offset (← szOf P fd.type) (← agOf P fd.type) (← compO x))
    | _ => none
  | .indexAddr t x i => match P.underlying t with
    | some (.slice e) => do some (.iad (← szOf P e) (← compO x) (← compO i))
    | some (.array n e) => do some (.iada (← szOf P e) n (← compO x) (← compO i))
    | _ => none
  | .index t x i => match P.underlying t with
    | some .string => do some (.idx (← compO x) (← compO i))
    | some (.array n e) => do some (.idxa (← szOf P e) n (← agOf P e) (← compO x) (← compO i))
    | _ => none
  | .extract x i => do some (.ext (← compO x) i)
  | .call c => compCall P c
  | .makeFunc (.func f) first caps => if first.size = 0 then do some (.mkf f (← caps.toList.mapM compO)) else none
  | _ => none

/-! ### What is known of a value whose abstract value is known. -/
theorem V.int {E : Env} {os : List Ob} {k : IntKind} {n : Int} {v : Value} (h : V E os (.x (.int k n)) v) : v = .int k n := by cases h with | x h => cases h; rfl
theorem V.bool {E : Env} {os : List Ob} {b : Bool} {v : Value} (h : V E os (.x (.bool b)) v) : v = .bool b := by cases h with | x h => cases h; rfl
theorem V.str {E : Env} {os : List Ob} {s : List UInt8} {v : Value} (h : V E os (.x (.str s)) v) : v = .string (bstr s) := by cases h with | x h => cases h; rfl
theorem V.nilp {E : Env} {os : List Ob} {v : Value} (h : V E os (.x .nilp) v) : v = .pointer none := by cases h with | x h => cases h; rfl
theorem V.nils {E : Env} {os : List Ob} {v : Value} (h : V E os (.x .nils) v) : v = .slice none 0 0 := by cases h with | x h => cases h; rfl
theorem V.ref_inv {E : Env} {os : List Ob} {id ext off len : Nat} {v : Value} (h : V E os (.ref id ext off len) v) : RefOK E os id ext off len v := by cases h with | ref h _ => exact h
theorem V.xx {E : Env} {os : List Ob} {x : X} {v : Value} (h : V E os (.x x) v) : VX E.w E.st x v := by cases h with | x h => exact h
theorem V.mkint (E : Env) (os : List Ob) (k : IntKind) (n : Int) : V E os (.x (.int k n)) (.int k n) := .x (.int k n)
theorem V.mkbool (E : Env) (os : List Ob) (b : Bool) : V E os (.x (.bool b)) (.bool b) := .x (.bool b)
theorem V.mkstr (E : Env) (os : List Ob) (s : List UInt8) : V E os (.x (.str s)) (.string (bstr s)) := .x (.str s)

section
variable {P : Program} {E : Env} {os : List Ob}

theorem run_bits {op : BinOp} {k : IntKind} {a b n : Int} (h : bitsD op k a b = some n) (w : World) : (Op.intBits op k a b).run P w = .ok (.int k n) w := by
  unfold bitsD at h
  split at h <;> cases h <;> rfl

theorem run_bin {op : BinOp} {x y d : D} {vx vy : Value} (hx : V E os x vx) (hy : V E os y vy) (h : binD op x y = some (true, d)) (t : TypeId) (ox oy : Operand) (w : World) :
    ∃ v, (do eqGuard op t ox oy vx vy; binOp op t vx vy : Sem Value).run P w = .ok v w ∧ V E os d v := by
  unfold binD at h
  split at h
  · rename_i k a k' b
    rw [V.int hx, V.int hy]
    have hg : eqGuard op t ox oy (.int k a) (.int k' b) = pure () := by unfold eqGuard; split <;> rfl
    simp only [hg, Sem.run_bind, Sem.run_pure, Result.andThen_ok]
    have key : ∀ (b' : Bool) (r : D), some (k == k' && b', r) = some (true, d) → k = k' ∧ b' = true ∧ r = d := fun b' r h => by simpa [and_assoc] using h
    have key1 : ∀ (r : D), some (k == k', r) = some (true, d) → k = k' ∧ r = d := fun r h => by simpa using h
    have hb : ∀ n, bitsD op k a b = some n → k = k' → (binOp op t (.int k a) (.int k' b)).run P w = .ok (.int k n) w := fun n hn e => by
      subst e
      rw [← run_bits (P := P) hn w]
      unfold bitsD at hn
      split at hn <;> cases hn <;> simp [binOp]
    split at h
    · simp at h; obtain ⟨h1, rfl⟩ := h
      refine ⟨_, ?_, V.mkint _ _ _ _⟩
      simp [binOp, Op.shift, Int.not_lt.2 h1]
    · simp at h; obtain ⟨h1, rfl⟩ := h
      refine ⟨_, ?_, V.mkint _ _ _ _⟩
      simp [binOp, Op.shift, Int.not_lt.2 h1]
    · obtain ⟨rfl, rfl⟩ := key1 _ h; refine ⟨_, ?_, V.mkint _ _ _ _⟩; simp [binOp, Op.intArith]
    · obtain ⟨rfl, rfl⟩ := key1 _ h; refine ⟨_, ?_, V.mkint _ _ _ _⟩; simp [binOp, Op.intArith]
    · obtain ⟨rfl, rfl⟩ := key1 _ h; refine ⟨_, ?_, V.mkint _ _ _ _⟩; simp [binOp, Op.intArith]
    · obtain ⟨rfl, h2, rfl⟩ := key _ _ h
      simp at h2
      refine ⟨_, ?_, V.mkint _ _ _ _⟩; simp [binOp, Op.intDiv, h2]
    · obtain ⟨rfl, h2, rfl⟩ := key _ _ h
      simp at h2
      refine ⟨_, ?_, V.mkint _ _ _ _⟩; simp [binOp, Op.intDiv, h2]
    · obtain ⟨rfl, rfl⟩ := key1 _ h; refine ⟨_, ?_, V.mkbool _ _ _⟩; simp [binOp, Op.intCmp]
    · obtain ⟨rfl, rfl⟩ := key1 _ h; refine ⟨_, ?_, V.mkbool _ _ _⟩; simp [binOp, Op.intCmp]
    · obtain ⟨rfl, rfl⟩ := key1 _ h; refine ⟨_, ?_, V.mkbool _ _ _⟩; simp [binOp, Op.intCmp]
    · obtain ⟨rfl, rfl⟩ := key1 _ h; refine ⟨_, ?_, V.mkbool _ _ _⟩; simp [binOp, Op.intCmp]
    · obtain ⟨rfl, rfl⟩ := key1 _ h; refine ⟨_, ?_, V.mkbool _ _ _⟩; simp [binOp, Op.intCmp]
    · obtain ⟨rfl, rfl⟩ := key1 _ h; refine ⟨_, ?_, V.mkbool _ _ _⟩; simp [binOp, Op.intCmp]
    · obtain ⟨n, h1, h2⟩ := Option.map_eq_some_iff.1 h
      obtain ⟨h3, rfl⟩ := key1 _ (congrArg some h2)
      exact ⟨_, hb n h1 h3, V.mkint _ _ _ _⟩
  · rename_i a b
    rw [V.str hx, V.str hy]
    have hg : eqGuard op t ox oy (.string (bstr a)) (.string (bstr b)) = pure () := by unfold eqGuard; split <;> rfl
    simp only [hg, Sem.run_bind, Sem.run_pure, Result.andThen_ok]
    split at h
    · simp at h; obtain ⟨h1, rfl⟩ := h
      refine ⟨.string (bstr (a ++ b)), ?_, V.mkstr _ _ _⟩
      have e : bstr a ++ bstr b = bstr (a ++ b) := by
        apply ByteArray.ext; simp [bstr, ByteArray.data_append]
      have h2 : ¬ (((bstr a).size + (bstr b).size : Nat) : Int) > IntKind.i64.max := by rw [bstr_size, bstr_size]; simp [IntKind.max, IntKind.signed, IntKind.bits]; omega
      simp only [binOp, Op.stringOp, if_neg h2, e, Sem.run_pure]
    · simp at h; subst h; refine ⟨_, ?_, V.mkbool _ _ _⟩; simp [binOp, Op.stringOp, bstr_toList]
    · simp at h; subst h; refine ⟨_, ?_, V.mkbool _ _ _⟩; simp [binOp, Op.stringOp, bstr_toList]
    · simp at h; subst h; refine ⟨_, ?_, V.mkbool _ _ _⟩; simp [binOp, Op.stringOp, bstr_toList]
    · simp at h; subst h; refine ⟨_, ?_, V.mkbool _ _ _⟩; simp [binOp, Op.stringOp, bstr_toList]
    · simp at h; subst h; refine ⟨_, ?_, V.mkbool _ _ _⟩; simp [binOp, Op.stringOp, bstr_toList]
    · simp at h; subst h; refine ⟨_, ?_, V.mkbool _ _ _⟩; simp [binOp, Op.stringOp, bstr_toList]
    · cases h
  · cases h

end
end Go.Ab
