/- Operations on abstract values: what they are read from, what they yield. -/
import Derived.Test.YtogmbfaijmhamaaAb1
namespace Go.Ab
open Go.RowKit Go.Bo

/-- Operands: a slot, a constant. -/
inductive IO where
  | t (n : Nat)
  | c (d : D)
  deriving Inhabited

inductive FK where
  | int (k : IntKind)
  | str
  | bool
inductive EqK where
  | bool | ptr | sl
  | st (fs : List (Nat × FK))
  deriving Inhabited

/-- Operations. -/
inductive IE where
  | mv (x : IO)
  | nck (x : IO)
  | pick (c a b : IO)
  | bin (op : BinOp) (x y : IO)
  | eq (k : EqK) (neg : Bool) (x y : IO)
  | un (op : UnOp) (x : IO)
  | cvi (k : IntKind) (x : IO)
  | b2s (x : IO)
  | s2b (e : Nat) (x : IO)
  | fld (off n : Nat) (ag : Bool) (x : IO)
  | fad (off : Nat) (x : IO)
  | iad (sz : Nat) (x i : IO)
  | iada (sz len : Nat) (x i : IO)
  | idx (x i : IO)
  | idxa (sz len : Nat) (ag : Bool) (x i : IO)
  | ld (n : Nat) (ag : Bool) (x : IO)
  | sto (n : Nat) (a v : IO)
  | box (x : IO)
  | build (zs : List D) (parts : List (Nat × Nat × IO))
  | bsl (e sz n : Nat) (parts : List IO)
  | mks (e sz by_ : Nat) (z : List X) (l c : IO)
  | slc (sz : Nat) (x : IO) (lo hi mx : Option IO)
  | ext (x : IO) (i : Nat)
  | len (st : Bool) (x : IO)
  | app (e sz by_ : Nat) (x y : IO)
  | cpy (sz : Nat) (x y : IO)
  | mnx (mx : Bool) (x y : IO)
  | call (f : IO) (xs : List IO)
  | mkf (f : FuncId) (caps : List IO)
  deriving Inhabited

def get : List (Nat × D) → Nat → D
  | [], _ => .und
  | (u, d) :: φ, t => if u = t then d else get φ t
def put : List (Nat × D) → Nat → D → List (Nat × D)
  | [], t, d => [(t, d)]
  | (u, d') :: φ, t, d => if u = t then (t, d) :: φ else (u, d') :: put φ t d
def memN (t : Nat) : List Nat → Bool
  | [] => false
  | u :: us => if t = u then true else memN t us
def keep (ks : List Nat) : List (Nat × D) → List (Nat × D)
  | [] => []
  | (t, d) :: φ => if memN t ks = true then (t, d) :: keep ks φ else keep ks φ

theorem get_put (φ : List (Nat × D)) (t u : Nat) (d : D) : get (put φ t d) u = if t = u then d else get φ u := by
  induction φ with
  | nil => simp [put, get]
  | cons p φ ih =>
    obtain ⟨s, e⟩ := p
    unfold put
    by_cases h : s = t
    · subst h
      by_cases h2 : s = u
      · simp [get, h2]
      · simp [get, h2]
    · by_cases h2 : s = u
      · subst h2; simp [h, get, Ne.symm h]
      · simp [h, get, h2, ih]
theorem get_keep (ks : List Nat) (φ : List (Nat × D)) (t : Nat) : get (keep ks φ) t = get φ t ∨ get (keep ks φ) t = .und := by
  by_cases ht : memN t ks = true
  · left
    induction φ with
    | nil => rfl
    | cons p φ ih =>
      obtain ⟨s, e⟩ := p
      simp only [keep]
      split
      · simp only [get, ih]
      · rename_i h
        have : s ≠ t := fun e => h (e ▸ ht)
        simp only [get, this, if_false]; exact ih
  · right
    induction φ with
    | nil => rfl
    | cons p φ ih =>
      obtain ⟨s, e⟩ := p
      simp only [keep]
      split
      · rename_i h
        have : s ≠ t := fun e => ht (e ▸ h)
        simp only [get, this, if_false]; exact ih
      · exact ih

def opv (φ : List (Nat × D)) : IO → D
  | .t n => get φ n
  | .c d => d
/-- The value, where it is there. -/
def D.val : D → D
  | .opt _ d => d.val
  | d => d
/-- Whether it is there. -/
def D.cond : D → Bool
  | .opt b d => b && d.cond
  | _ => true

theorem V.strip {E : Env} {os : List Ob} {d : D} {v : Value} (h : V E os d v) (hc : d.cond = true) : V E os d.val v := by
  induction h with
  | opt h1 h2 ih =>
    rename_i b d v
    simp only [D.cond, Bool.and_eq_true] at hc
    exact ih hc.1 hc.2
  | x h => exact .x h
  | ref h h1 => exact .ref h h1
  | ptr ho h => exact .ptr ho h
  | eptr h h1 => exact .eptr h h1
  | vptr b off val h1 h2 => exact .vptr b off val h1 h2
  | agg vs hl h1 hv => exact .agg vs hl h1 hv
  | tup vs hl hv => exact .tup vs hl hv
  | full n h => exact .full n h
  | nz h => exact .nz h
  | fn vs hl hv => exact .fn vs hl hv
  | und v => exact .und v

/-- A value's cells. -/
def D.cells? : D → Option (List D)
  | .agg ds => some ds
  | .tup _ | .opt _ _ | .und => none
  | d => some [d]

def bitsD (op : BinOp) (k : IntKind) (a b : Int) : Option Int :=
  match op with
  | .and => some (k.wrap (BitVec.ofInt k.bits a &&& BitVec.ofInt k.bits b).toNat)
  | .or => some (k.wrap (BitVec.ofInt k.bits a ||| BitVec.ofInt k.bits b).toNat)
  | .xor => some (k.wrap (BitVec.ofInt k.bits a ^^^ BitVec.ofInt k.bits b).toNat)
  | .andNot => some (k.wrap (BitVec.ofInt k.bits a &&& ~~~BitVec.ofInt k.bits b).toNat)
  | _ => none

def binD (op : BinOp) : D → D → Option (Bool × D)
  | .x (.int k a), .x (.int k' b) =>
    match op with
    | .shl => some (decide (0 ≤ b), .x (.int k (k.wrap (a * 2 ^ (min b.toNat k.bits)))))
    | .shr => some (decide (0 ≤ b), .x (.int k (a.fdiv (2 ^ (min b.toNat k.bits)))))
    | .add => some (k == k', .x (.int k (k.wrap (a + b))))
    | .sub => some (k == k', .x (.int k (k.wrap (a - b))))
    | .mul => some (k == k', .x (.int k (k.wrap (a * b))))
    | .quo => some (k == k' && b != 0, .x (.int k (k.wrap (a.tdiv b))))
    | .rem => some (k == k' && b != 0, .x (.int k (a.tmod b)))
    | .eql => some (k == k', .x (.bool (a == b)))
    | .neq => some (k == k', .x (.bool (a != b)))
    | .lss => some (k == k', .x (.bool (decide (a < b))))
    | .leq => some (k == k', .x (.bool (decide (a ≤ b))))
    | .gtr => some (k == k', .x (.bool (decide (a > b))))
    | .geq => some (k == k', .x (.bool (decide (a ≥ b))))
    | op => (bitsD op k a b).map fun n => (k == k', .x (.int k n))
  | .x (.str a), .x (.str b) =>
    match op with
    | .add => some (decide (a.length + b.length ≤ 9223372036854775807), .x (.str (a ++ b)))
    | .eql => some (true, .x (.bool (a == b)))
    | .neq => some (true, .x (.bool (!(a == b))))
    | .lss => some (true, .x (.bool (Op.bytesLess a b)))
    | .leq => some (true, .x (.bool (Op.bytesLess a b || a == b)))
    | .gtr => some (true, .x (.bool (!(Op.bytesLess a b || a == b))))
    | .geq => some (true, .x (.bool (!(Op.bytesLess a b))))
    | _ => none
  | _, _ => none

/-- A field of a struct, against another one. -/
def eqX : FK → X → X → Option Bool
  | .int k, .int a m, .int b n => if a = k ∧ b = k then some (m == n) else none
  | .str, .str s, .str t => some (s == t)
  | .bool, .bool a, .bool b => some (a == b)
  | _, _, _ => none
def eqFs : List (Nat × FK) → List D → List D → Option Bool
  | [], _, _ => some true
  | (o, k) :: l, ds, es => match ds[o]?, es[o]? with
    | some (.x a), some (.x b) => (eqX k a b).bind fun r => (eqFs l ds es).map fun q => r && q
    | _, _ => none
def eqD (k : EqK) (x y : D) : Option Bool :=
  match k, x, y with
  | .bool, .x (.bool a), .x (.bool b) => some (a == b)
  | .ptr, .x .nilp, .x .nilp => some true
  | .ptr, .x .nilp, .ptr _ _ | .ptr, .ptr _ _, .x .nilp | .ptr, .x .nilp, .vptr _ | .ptr, .vptr _, .x .nilp => some false
  | .sl, .x .nils, .x .nils => some true
  | .sl, .x (.sl (_ :: _)), .x .nils | .sl, .x .nils, .x (.sl (_ :: _)) => some false
  | .st fs, .agg ds, .agg es => eqFs fs ds es
  | _, _, _ => none

def unD (op : UnOp) : D → Option D
  | .x (.bool b) => match op with | .not => some (.x (.bool (!b))) | _ => none
  | .x (.int k n) => match op with
    | .neg => some (.x (.int k (k.wrap (0 - n))))
    | .xor => (bitsD .xor k (if k.signed then -1 else k.max) n).map fun m => .x (.int k m)
    | _ => none
  | _ => none

/-- Bytes in a row of cells. -/
def rowByte : List X → UInt8
  | .int .u8 n :: _ => UInt8.ofNat n.toNat
  | _ => 0
def isByte : List X → Bool
  | [.int .u8 _] => true
  | _ => false
def byteRow (b : UInt8) : List X := [.int .u8 b.toNat]

/-- What stands in a slice. -/
def rowsOf (os : List Ob) : D → Option (List (List X))
  | .x .nils => some []
  | .x (.sl rs) => some rs
  | .full rs => some rs
  | .ref id ext off len => match os[id]? with
    | some o => match o.slice? with
      | some (_, rs) => if rs.length = ext then some ((rs.drop off).take len) else none
      | none => none
    | none => none
  | _ => none
def lenD (st : Bool) : D → Option Nat
  | .x (.str s) => if st then some s.length else none
  | .x .nils => if st then none else some 0
  | .x (.sl rs) => if st then none else some rs.length
  | .full rs => if st then none else some rs.length
  | .ref _ _ _ len => if st then none else some len
  | _ => none

/-- The row is as long as it was. -/
def okRef (os : List Ob) : D → Bool
  | .ref id ext _ _ => match os[id]? with
    | some o => match o.slice? with
      | some (_, rs) => decide (rs.length = ext)
      | none => false
    | none => false
  | _ => true
/-- The slice is not nil. -/
def nzD (os : List Ob) : D → Option Bool
  | .ref id ext off len => some (okRef os (.ref id ext off len) && decide (0 < len))
  | .x (.sl rs) => some (decide (0 < rs.length))
  | .full rs => some (decide (0 < rs.length))
  | .nz _ => some true
  | _ => none
def eqR (os : List Ob) (k : EqK) (x y : D) : Option (Bool × Bool) :=
  match eqD k x y with
  | some r => some (true, r)
  | none => match k, y with
    | .sl, .x .nils => (nzD os x).map fun b => (b, false)
    | _, _ => none
/-- The value, as a plain one. -/
def viewX (os : List Ob) : D → Option X
  | .x x => some x
  | d => (rowsOf os d).map .sl
/-- A value that leads nowhere. -/
def X.scalar : X → Bool
  | .int _ _ | .bool _ | .str _ | .nilp | .nils => true
  | .sl _ => false
def D.scalar : D → Bool
  | .x y => y.scalar
  | .tup [] => true
  | .tup [.x a] => a.scalar
  | .tup [.x a, .x b] => a.scalar && b.scalar
  | .tup [.x a, .x b, .x c] => a.scalar && b.scalar && c.scalar
  | _ => false
def D.isX : D → Bool
  | .x _ => true
  | _ => false
def D.plain : D → Bool
  | .x _ => true
  | .agg ds => ds.all D.isX
  | .fn _ [] => true
  | _ => false
/-- A value without objects, that no longer turns. -/
def viewD (os : List Ob) : D → Option D
  | .x x => some (.x x)
  | .agg ds => (ds.mapM (viewX os)).map fun xs => .agg (xs.map .x)
  | .fn f [] => some (.fn f [])
  | d => (viewX os d).map .x

def intOf? : D → Option Int
  | .x (.int _ n) => some n
  | _ => none

/-- Parts laid over a struct's cells. -/
def buildD (φ : List (Nat × D)) : List (Nat × Nat × IO) → List D → Option (Bool × List D)
  | [], acc => some (true, acc)
  | (off, sz, x) :: ps, acc => (opv φ x).val.cells?.bind fun cs => if cs.length = sz ∧ off + sz ≤ acc.length then
      (buildD φ ps (acc.take off ++ cs ++ acc.drop (off + sz))).map fun r => ((opv φ x).cond && r.1, r.2) else none

/-- A part of a text. -/
def slcStr (φ : List (Nat × D)) (x : IO) (lo hi mx : Option IO) : Option (Bool × D) :=
  match (opv φ x).val with
  | .x (.str s) => match lo.map (fun l => opv φ l), hi.map (fun h => opv φ h), mx with
    | none, none, none => some ((opv φ x).cond, .x (.str s))
    | some l, none, none => (intOf? l.val).map fun (n : Int) => ((opv φ x).cond && (l.cond && (decide (0 ≤ n) && decide (n ≤ s.length))), .x (.str (s.drop n.toNat)))
    | none, some h, none => (intOf? h.val).map fun (m : Int) => ((opv φ x).cond && (h.cond && (decide (0 ≤ m) && decide (m ≤ s.length))), .x (.str (s.take m.toNat)))
    | some l, some h, none => (intOf? l.val).bind fun (n : Int) => (intOf? h.val).map fun (m : Int) => ((opv φ x).cond && ((l.cond && h.cond) && (decide (0 ≤ n) && (decide (n ≤ m) && decide (m ≤ s.length)))), .x (.str ((s.take m.toNat).drop n.toNat)))
    | _, _, _ => none
  | _ => none
/-- A bound that is nought, or not there. -/
def zeroO : Option D → Option Bool
  | none => some true
  | some d => (intOf? d.val).map fun (n : Int) => d.cond && decide (n = 0)
/-- A part of a slice. -/
def slcSl (φ : List (Nat × D)) (os : List Ob) (sz : Nat) (x : IO) (lo hi mx : Option IO) : Option (Bool × D) :=
  match (opv φ x).val with
  | .x .nils => (zeroO (lo.map fun l => opv φ l)).bind fun p => (zeroO (hi.map fun l => opv φ l)).bind fun q => (zeroO (mx.map fun l => opv φ l)).map fun r => ((opv φ x).cond && ((mx.isNone || hi.isSome) && (p && (q && r))), .x .nils)
  | .x (.sl rs) => match lo.map (fun l => opv φ l), hi.map (fun h => opv φ h), mx.map (fun h => opv φ h) with
    | none, none, none => some ((opv φ x).cond, .x (.sl rs))
    | some l, none, none => (intOf? l.val).map fun (n : Int) => ((opv φ x).cond && (l.cond && (decide (0 ≤ n) && (decide (n ≤ rs.length) && rs.all fun r => decide (r.length = sz)))), .x (.sl (rs.drop n.toNat)))
    | none, some h, none => (intOf? h.val).map fun (m : Int) => ((opv φ x).cond && (h.cond && (decide (0 ≤ m) && (decide (m ≤ rs.length) && rs.all fun r => decide (r.length = sz)))), .x (.sl (rs.take m.toNat)))
    | some l, some h, none => (intOf? l.val).bind fun (n : Int) => (intOf? h.val).map fun (m : Int) => ((opv φ x).cond && ((l.cond && h.cond) && (decide (0 ≤ n) && (decide (n ≤ m) && (decide (m ≤ rs.length) && rs.all fun r => decide (r.length = sz))))), .x (.sl ((rs.take m.toNat).drop n.toNat)))
    | l, some h, some mi => (zeroO l).bind fun z => (intOf? h.val).bind fun (n : Int) => (intOf? mi.val).map fun (m : Int) => ((opv φ x).cond && (z && (h.cond && (mi.cond && (decide (0 ≤ n) && (decide (n ≤ rs.length) && (decide (n = m) && rs.all fun r => decide (r.length = sz))))))), .full (rs.take n.toNat))
    | _, _, _ => none
  | .ref id ext off len => match os[id]? with
    | some o => match o.slice? with
      | some (sz', rs) => match lo.map (fun l => opv φ l), hi.map (fun h => opv φ h), mx with
        | some l, none, none => (intOf? l.val).map fun (n : Int) => ((opv φ x).cond && (l.cond && (decide (sz' = sz) && (decide (rs.length = ext) && (decide (0 ≤ n) && decide (n ≤ len))))), .ref id ext (off + n.toNat) (len - n.toNat))
        | none, some h, none => (intOf? h.val).map fun (m : Int) => ((opv φ x).cond && (h.cond && (decide (sz' = sz) && (decide (rs.length = ext) && (decide (0 ≤ m) && decide (m ≤ len))))), .ref id ext off m.toNat)
        | some l, some h, none => (intOf? l.val).bind fun (n : Int) => (intOf? h.val).map fun (m : Int) => ((opv φ x).cond && ((l.cond && h.cond) && (decide (sz' = sz) && (decide (rs.length = ext) && (decide (0 ≤ n) && (decide (n ≤ m) && decide (m ≤ len)))))), .ref id ext (off + n.toNat) (m.toNat - n.toNat))
        | _, _, _ => none
      | none => none
    | none => none
  | _ => none

/-- Operations that make nothing and turn nothing. S: what functions answer. -/
def aval (S : FuncId → List D → Option (Bool × D)) (φ : List (Nat × D)) (os : List Ob) : IE → Option (Bool × D)
  | .mv x => some (true, opv φ x)
  | .nck x => match (opv φ x).val with
    | .ptr i o => some ((opv φ x).cond, .ptr i o)
    | .vptr cs => some ((opv φ x).cond, .vptr cs)
    | .eptr a b c d => some ((opv φ x).cond, .eptr a b c d)
    | _ => none
  | .pick c a b => match (opv φ c).val, (opv φ a).val, (opv φ b).val with
    | .x (.bool p), .x (.bool q), .x (.bool r) => some ((opv φ c).cond && ((!p || (opv φ a).cond) && (p || (opv φ b).cond)), .x (.bool (bif p then q else r)))
    | .x (.bool true), .x (.bool q), _ => some ((opv φ c).cond && (opv φ a).cond, .x (.bool q))
    | .x (.bool false), _, .x (.bool r) => some ((opv φ c).cond && (opv φ b).cond, .x (.bool r))
    | _, _, _ => none
  | .bin op x y => (binD op (opv φ x).val (opv φ y).val).map fun r => ((opv φ x).cond && ((opv φ y).cond && r.1), r.2)
  | .eq k neg x y => (eqR os k (opv φ x).val (opv φ y).val).map fun r => ((opv φ x).cond && (opv φ y).cond && r.1, .x (.bool (r.2 != neg)))
  | .un op x => (unD op (opv φ x).val).map fun r => ((opv φ x).cond, r)
  | .cvi k x => match (opv φ x).val with
    | .x (.int _ n) => some ((opv φ x).cond, .x (.int k (k.wrap n)))
    | _ => none
  | .b2s x => (rowsOf os (opv φ x).val).map fun rs => ((opv φ x).cond && rs.all isByte, .x (.str (rs.map rowByte)))
  | .fld off n ag x => match (opv φ x).val with
    | .agg ds => if ag then some ((opv φ x).cond, .agg ((ds.drop off).take n)) else (ds[off]?).map fun d => ((opv φ x).cond, d)
    | _ => none
  | .fad off x => match (opv φ x).val with
    | .ptr i o => some ((opv φ x).cond, .ptr i (o + off))
    | .eptr i e k o => some ((opv φ x).cond, .eptr i e k (o + off))
    | .vptr cs => some ((opv φ x).cond, .vptr (cs.drop off))
    | _ => none
  | .iad sz x i => match intOf? (opv φ i).val with
    | none => none
    | some n => match (opv φ x).val with
      | .x (.sl rs) => (rs[n.toNat]?).map fun r => ((opv φ x).cond && (opv φ i).cond && (decide (0 ≤ n) && decide (r.length = sz)), .vptr r)
      | .full rs => (rs[n.toNat]?).map fun r => ((opv φ x).cond && (opv φ i).cond && (decide (0 ≤ n) && decide (r.length = sz)), .vptr r)
      | .ref id ext off len => match os[id]? with
        | some o => match o.slice? with
          | some (sz', rs) => some ((opv φ x).cond && (opv φ i).cond && (decide (sz' = sz) && (decide (rs.length = ext) && (decide (0 ≤ n) && decide (n < len)))), .eptr id ext (off + n.toNat) 0)
          | none => none
        | none => none
      | _ => none
  | .iada sz len x i => match intOf? (opv φ i).val with
    | none => none
    | some n => match (opv φ x).val with
      | .ptr id o => some ((opv φ x).cond && (opv φ i).cond && (decide (0 ≤ n) && decide (n < len)), .ptr id (o + n.toNat * sz))
      | .vptr cs => some ((opv φ x).cond && (opv φ i).cond && (decide (0 ≤ n) && decide (n < len)), .vptr (cs.drop (n.toNat * sz)))
      | _ => none
  | .idx x i => match (opv φ x).val, (opv φ i).val with
    | .x (.str s), .x (.int _ n) => some ((opv φ x).cond && (opv φ i).cond && (decide (0 ≤ n) && decide (n < s.length)), .x (.int .u8 (s.getD n.toNat 0).toNat))
    | _, _ => none
  | .idxa sz len ag x i => match (opv φ x).val, (opv φ i).val with
    | .agg ds, .x (.int _ n) => if ag then some ((opv φ x).cond && (opv φ i).cond && (decide (0 ≤ n) && decide (n < len)), .agg ((ds.drop (n.toNat * sz)).take sz))
      else (ds[n.toNat * sz]?).map fun d => ((opv φ x).cond && (opv φ i).cond && (decide (0 ≤ n) && decide (n < len)), d)
    | _, _ => none
  | .ld n ag x => match (opv φ x).val with
    | .ptr id o => match os[id]? with
      | some (.box ds) => if ag then some ((opv φ x).cond && decide (((ds.drop o).take n).length = n), .agg ((ds.drop o).take n)) else (ds[o]?).map fun d => ((opv φ x).cond, d)
      | _ => none
    | .eptr id ext i o => match os[id]? with
      | some ob => match ob.slice? with
        | some (_, rs) => (rs[i]?).bind fun r => if ag then some ((opv φ x).cond && (decide (rs.length = ext) && decide (((r.drop o).take n).length = n)), .agg (((r.drop o).take n).map .x)) else (r[o]?).map fun d => ((opv φ x).cond && decide (rs.length = ext), .x d)
        | none => none
      | none => none
    | .vptr cs => if ag then some ((opv φ x).cond && decide ((cs.take n).length = n), .agg ((cs.take n).map .x)) else (cs[0]?).map fun d => ((opv φ x).cond, .x d)
    | _ => none
  | .build zs parts => (buildD φ parts zs).map fun r => (r.1, .agg r.2)
  | .slc sz x lo hi mx => if sz = 0 then slcStr φ x lo hi mx else slcSl φ os sz x lo hi mx
  | .ext x i => match (opv φ x).val with
    | .tup ds => (ds[i]?).map fun d => ((opv φ x).cond, d)
    | _ => none
  | .len st x => (lenD st (opv φ x).val).map fun (n : Nat) => ((opv φ x).cond && okRef os (opv φ x).val, .x (.int .i64 n))
  | .mnx mx x y => match (opv φ x).val, (opv φ y).val with
    | .x (.int k a), .x (.int _ b) => some ((opv φ x).cond && (opv φ y).cond, .x (.int k (if mx then (if b > a then b else a) else (if b < a then b else a))))
    | _, _ => none
  | .call f xs => match (opv φ f).val with
    | .fn g caps => ((xs.map (opv φ)).mapM fun d => viewD os d.val).bind fun as => (caps.mapM (viewD os)).bind fun cs => (S g (as ++ cs)).bind fun r =>
      if r.2.scalar || (((xs.map (opv φ)).all fun d => d.val.plain) && caps.all D.plain) then some ((opv φ f).cond && ((xs.map (opv φ)).all D.cond && r.1), r.2) else none
    | _ => none
  | .mkf f caps => some (true, .fn f (caps.map (opv φ)))
  | _ => none

end Go.Ab
