/- Abstract values and objects, and how they lie in memory; what stays of them when memory grows. -/
import Derived.Test.YtogmbfaijmhamaaOwn
namespace Go.Ab
open Go.RowKit Go.Bo

def bstr (s : List UInt8) : ByteArray := ⟨s.toArray⟩
theorem bstr_size (s : List UInt8) : (bstr s).size = s.length := by simp [bstr, ByteArray.size]
theorem bstr_toList (s : List UInt8) : (bstr s).toList = s := by rw [ByteArray.toList_eq]; simp [bstr]

/-- Plain values of one cell: numbers, truths, texts, nil, slices by what they hold (a row of cells each). -/
inductive X where
  | int (k : IntKind) (n : Int)
  | bool (b : Bool)
  | str (s : List UInt8)
  | nilp
  | nils
  | sl (rs : List (List X))
  deriving Inhabited

/-- The value is that; what it leads to lies in cells that no longer turn ('st'). -/
inductive VX (w : World) (st : Nat → Nat → Prop) : X → Value → Prop
  | int (k : IntKind) (n : Int) : VX w st (.int k n) (.int k n)
  | bool (b : Bool) : VX w st (.bool b) (.bool b)
  | str (s : List UInt8) : VX w st (.str s) (.string (bstr s))
  | nilp : VX w st .nilp (.pointer none)
  | nils : VX w st .nils (.slice none 0 0)
  | sl (rs : List (List X)) (a : Option Addr) (n c sz : Nat) (val : Nat → Nat → Value) (hn : rs.length = n) (hc : n ≤ c) (hm : c ≤ maxLen) (hsz : ∀ r ∈ rs, r.length = sz)
      (hcell : ∀ i j, i < n → j < sz → ∃ b off, a = some ⟨b, off, none⟩ ∧ st b (off + i * sz + j) ∧ w.cell? ⟨b, off + i * sz + j, none⟩ = some (val i j))
      (hnil : a = none → n = 0 ∧ c = 0) (hsp : 0 < c → ∀ ad, a = some ad → ad.spot = none)
      (hval : ∀ i j r x, rs[i]? = some r → r[j]? = some x → VX w st x (val i j)) : VX w st (.sl rs) (.slice a n c)

theorem VX.one {w : World} {st : Nat → Nat → Prop} {x : X} {v : Value} (h : VX w st x v) : v.oneCell' = true := by cases h <;> rfl

theorem VX.mono {w w' : World} {st st' : Nat → Nat → Prop} (e : ∀ b o, st b o → st' b o ∧ w'.cell? ⟨b, o, none⟩ = w.cell? ⟨b, o, none⟩) {x : X} {v : Value} (h : VX w st x v) : VX w' st' x v := by
  induction h with
  | int k n => exact .int k n
  | bool b => exact .bool b
  | str s => exact .str s
  | nilp => exact .nilp
  | nils => exact .nils
  | sl rs a n c sz val hn hc hm hsz hcell hnil hsp _ ih =>
    refine .sl rs a n c sz val hn hc hm hsz (fun i j hi hj => ?_) hnil hsp ih
    obtain ⟨b, off, h1, h2, h3⟩ := hcell i j hi hj
    exact ⟨b, off, h1, (e _ _ h2).1, by rw [(e _ _ h2).2]; exact h3⟩

/-- Values of a frame: plain ones; rows of the call's own ('ref': the object, how long it was, which part); pointers to a box, to an element of an own row, to cells that no longer turn; structs and tuples; a slice without room; one that is not nil; functions; a value there if 'b'. -/
inductive D where
  | x (x : X)
  | ref (id ext off len : Nat)
  | ptr (id off : Nat)
  | eptr (id ext i off : Nat)
  | vptr (cs : List X)
  | agg (ds : List D)
  | tup (ds : List D)
  | full (rs : List (List X))
  | nz (rs : List (List X))
  | fn (f : FuncId) (caps : List D)
  | opt (b : Bool) (d : D)
  | und
  deriving Inhabited

/-- Objects of the call's own: a box of cells; a row; a row that no longer turns. -/
inductive Ob where
  | box (ds : List D)
  | rows (fz : Bool) (e sz : Nat) (rs : List (List X))
  | frz (sz : Nat) (rs : List (List X))
  | dead
  deriving Inhabited

def Ob.slice? : Ob → Option (Nat × List (List X))
  | .rows _ _ sz rs => some (sz, rs)
  | .frz sz rs => some (sz, rs)
  | _ => none

/-- The world, the cells that no longer turn, each object's block and slice. -/
structure Env where
  w : World
  st : Nat → Nat → Prop
  ob : List (Nat × Value)

def RefAt (E : Env) (id ext off len : Nat) (v : Value) (sz : Nat) (rs : List (List X)) : Prop :=
  ext ≤ rs.length ∧ (rs.length = ext →
    off + len ≤ ext ∧ ∃ b a cap a' cap', E.ob[id]? = some (b, .slice a ext cap) ∧ v = .slice a' len cap' ∧ len ≤ cap' ∧ cap' ≤ maxLen ∧ (off = 0 → a' = a ∧ cap' = cap) ∧
      (0 < len → ∀ ad, a = some ad → a' = some ⟨ad.block, ad.off + off * sz, none⟩) ∧ (a' = none → len = 0 ∧ cap' = 0) ∧ (∀ ad, a' = some ad → ad.spot = none))
def RefOK (E : Env) (os : List Ob) (id ext off len : Nat) (v : Value) : Prop := ∃ o sz rs, os[id]? = some o ∧ o.slice? = some (sz, rs) ∧ RefAt E id ext off len v sz rs
def EptrAt (E : Env) (id ext i off : Nat) (v : Value) (sz : Nat) (rs : List (List X)) : Prop :=
  ext ≤ rs.length ∧ (rs.length = ext → i < ext ∧ ∃ b g cap, E.ob[id]? = some (b, .slice (some ⟨g, 0, none⟩) ext cap) ∧ v = .pointer (some ⟨g, i * sz + off, none⟩))
def EptrOK (E : Env) (os : List Ob) (id ext i off : Nat) (v : Value) : Prop := ∃ o sz rs, os[id]? = some o ∧ o.slice? = some (sz, rs) ∧ EptrAt E id ext i off v sz rs
theorem RefOK.at {E : Env} {os : List Ob} {id ext off len : Nat} {v : Value} (h : RefOK E os id ext off len v) {o : Ob} {sz : Nat} {rs : List (List X)} (ho : os[id]? = some o) (hs : o.slice? = some (sz, rs)) : RefAt E id ext off len v sz rs := by
  obtain ⟨o', sz', rs', h1, h2, h3⟩ := h
  rw [ho] at h1; cases h1
  rw [hs] at h2; cases h2
  exact h3
theorem EptrOK.at {E : Env} {os : List Ob} {id ext i off : Nat} {v : Value} (h : EptrOK E os id ext i off v) {o : Ob} {sz : Nat} {rs : List (List X)} (ho : os[id]? = some o) (hs : o.slice? = some (sz, rs)) : EptrAt E id ext i off v sz rs := by
  obtain ⟨o', sz', rs', h1, h2, h3⟩ := h
  rw [ho] at h1; cases h1
  rw [hs] at h2; cases h2
  exact h3

/-- The value is that. -/
inductive V (E : Env) (os : List Ob) : D → Value → Prop
  | x {x : X} {v : Value} (h : VX E.w E.st x v) : V E os (.x x) v
  | ref {id ext off len : Nat} {v : Value} (h : RefOK E os id ext off len v) (h1 : v.oneCell' = true) : V E os (.ref id ext off len) v
  | ptr {id off b : Nat} {cu : Value} {ds : List D} (ho : os[id]? = some (.box ds)) (h : E.ob[id]? = some (b, cu)) : V E os (.ptr id off) (.pointer (some ⟨b, off, none⟩))
  | eptr {id ext i off : Nat} {v : Value} (h : EptrOK E os id ext i off v) (h1 : ∃ ad : Addr, v = .pointer (some ad)) : V E os (.eptr id ext i off) v
  | vptr {cs : List X} (b off : Nat) (val : Nat → Value) (hc : ∀ j x, cs[j]? = some x → E.st b (off + j) ∧ E.w.cell? ⟨b, off + j, none⟩ = some (val j)) (hv : ∀ j x, cs[j]? = some x → VX E.w E.st x (val j)) :
      V E os (.vptr cs) (.pointer (some ⟨b, off, none⟩))
  | agg {ds : List D} (vs : Array Value) (hl : ds.length = vs.size) (h1 : ∀ v ∈ vs.toList, v.oneCell' = true) (hv : ∀ (j : Nat) (d : D) (v : Value), ds[j]? = some d → vs[j]? = some v → V E os d v) : V E os (.agg ds) (.agg vs)
  | tup {ds : List D} (vs : Array Value) (hl : ds.length = vs.size) (hv : ∀ (j : Nat) (d : D) (v : Value), ds[j]? = some d → vs[j]? = some v → V E os d v) : V E os (.tup ds) (.tuple vs)
  | full {rs : List (List X)} {a : Option Addr} (n : Nat) (h : VX E.w E.st (.sl rs) (.slice a n n)) : V E os (.full rs) (.slice a n n)
  | nz {rs : List (List X)} {ad : Addr} {n c : Nat} (h : VX E.w E.st (.sl rs) (.slice (some ad) n c)) : V E os (.nz rs) (.slice (some ad) n c)
  | fn {f : FuncId} {caps : List D} (vs : Array Value) (hl : caps.length = vs.size) (hv : ∀ (j : Nat) (d : D) (v : Value), caps[j]? = some d → vs[j]? = some v → V E os d v) : V E os (.fn f caps) (.func (.func f) #[] vs)
  | opt {b : Bool} {d : D} {v : Value} (h : b = true → V E os d v) (h' : b = false → v = undef) : V E os (.opt b d) v
  | und (v : Value) : V E os .und v

/-- What was known stays known. -/
structure Evo (E : Env) (os : List Ob) (E' : Env) (os' : List Ob) : Prop where
  st : ∀ b o, E.st b o → E'.st b o ∧ E'.w.cell? ⟨b, o, none⟩ = E.w.cell? ⟨b, o, none⟩
  bl : ∀ (id b : Nat) (cu : Value) (ds : List D), os[id]? = some (.box ds) → E.ob[id]? = some (b, cu) → ∃ cu' ds', os'[id]? = some (.box ds') ∧ E'.ob[id]? = some (b, cu')
  rf : ∀ (id : Nat) (o : Ob) (sz : Nat) (rs : List (List X)), os[id]? = some o → o.slice? = some (sz, rs) →
    ∃ o' rs', os'[id]? = some o' ∧ o'.slice? = some (sz, rs') ∧ ((rs.length = rs'.length ∧ E'.ob[id]? = E.ob[id]?) ∨ rs.length < rs'.length)

theorem Evo.refl (E : Env) (os : List Ob) : Evo E os E os := ⟨fun _ _ h => ⟨h, rfl⟩, fun _ _ cu ds h h' => ⟨cu, ds, h, h'⟩, fun _ o _ rs h1 h2 => ⟨o, rs, h1, h2, .inl ⟨rfl, rfl⟩⟩⟩

theorem Evo.trans {E E' E'' : Env} {os os' os'' : List Ob} (h : Evo E os E' os') (k : Evo E' os' E'' os'') : Evo E os E'' os'' := by
  refine ⟨fun b o hs => ?_, fun id b cu ds ho hb => ?_, fun id o sz rs h1 h2 => ?_⟩
  · obtain ⟨a1, a2⟩ := h.st b o hs
    obtain ⟨b1, b2⟩ := k.st b o a1
    exact ⟨b1, b2.trans a2⟩
  · obtain ⟨cu', ds', h1, h2⟩ := h.bl id b cu ds ho hb
    exact k.bl id b cu' ds' h1 h2
  · obtain ⟨o', rs', j1, j2, j3⟩ := h.rf id o sz rs h1 h2
    obtain ⟨o'', rs'', k1, k2, k3⟩ := k.rf id o' sz rs' j1 j2
    refine ⟨o'', rs'', k1, k2, ?_⟩
    rcases j3 with ⟨j3, j4⟩ | j3 <;> rcases k3 with ⟨k3, k4⟩ | k3
    · exact .inl ⟨j3.trans k3, k4.trans j4⟩
    · exact .inr (by omega)
    · exact .inr (by omega)
    · exact .inr (by omega)

theorem RefOK.mono {E E' : Env} {os os' : List Ob} (e : Evo E os E' os') {id ext off len : Nat} {v : Value} (h : RefOK E os id ext off len v) : RefOK E' os' id ext off len v := by
  obtain ⟨o, sz, rs, h1, h2, h3, h4⟩ := h
  obtain ⟨o', rs', k1, k2, k3⟩ := e.rf id o sz rs h1 h2
  refine ⟨o', sz, rs', k1, k2, ?_⟩
  rcases k3 with ⟨k3, k4⟩ | k3
  · refine ⟨by omega, fun hl => ?_⟩
    obtain ⟨h5, b, a, cap, a', cap', h6, h7⟩ := h4 (by omega)
    exact ⟨h5, b, a, cap, a', cap', k4.trans h6, h7⟩
  · exact ⟨by omega, fun hl => absurd hl (by omega)⟩
theorem EptrOK.mono {E E' : Env} {os os' : List Ob} (e : Evo E os E' os') {id ext i off : Nat} {v : Value} (h : EptrOK E os id ext i off v) : EptrOK E' os' id ext i off v := by
  obtain ⟨o, sz, rs, h1, h2, h3, h4⟩ := h
  obtain ⟨o', rs', k1, k2, k3⟩ := e.rf id o sz rs h1 h2
  refine ⟨o', sz, rs', k1, k2, ?_⟩
  rcases k3 with ⟨k3, k4⟩ | k3
  · refine ⟨by omega, fun hl => ?_⟩
    obtain ⟨h5, b, g, cap, h6, h7⟩ := h4 (by omega)
    exact ⟨h5, b, g, cap, k4.trans h6, h7⟩
  · exact ⟨by omega, fun hl => absurd hl (by omega)⟩

theorem V.mono {E E' : Env} {os os' : List Ob} (e : Evo E os E' os') {d : D} {v : Value} (h : V E os d v) : V E' os' d v := by
  induction h with
  | x h => exact .x (h.mono e.st)
  | ref h h1 => exact .ref (h.mono e) h1
  | ptr ho h => obtain ⟨cu', ds', h1, h2⟩ := e.bl _ _ _ _ ho h; exact .ptr h1 h2
  | eptr h h1 => exact .eptr (h.mono e) h1
  | vptr b off val hc hv => exact .vptr b off val (fun j x hj => ⟨(e.st _ _ (hc j x hj).1).1, by rw [(e.st _ _ (hc j x hj).1).2]; exact (hc j x hj).2⟩) (fun j x hj => (hv j x hj).mono e.st)
  | agg vs hl h1 _ ih => exact .agg vs hl h1 ih
  | tup vs hl _ ih => exact .tup vs hl ih
  | full n h => exact .full n (h.mono e.st)
  | nz h => exact .nz (h.mono e.st)
  | fn vs hl _ ih => exact .fn vs hl ih
  | opt _ h' ih => exact .opt ih h'
  | und v => exact .und v

/-- A row of the call's own: as 'World.ownsRow', or one that a text made (its mark lies behind its cells). -/
def Row (w : World) (fz : Bool) (e sz n : Nat) (cur : Value) (xs : List Value) : Prop :=
  xs.length = n * sz ∧ ((cur = .slice none 0 0 ∧ n = 0) ∨ ∃ g cap cells fr, cur = .slice (some ⟨g, 0, none⟩) n cap ∧ w.heap[g]? = some (.cells cells e fr) ∧ n ≤ cap ∧ cap ≤ maxLen ∧ cells.size = cap * sz ∧
    cells.toList.take (n * sz) = xs ∧ (fr = (0, 0) ∨ (fz = true ∧ cells.size ≤ fr.1)))

theorem Row.owns {w : World} {e sz n : Nat} {cur : Value} {xs : List Value} (h : Row w false e sz n cur xs) : w.ownsRow 0 e sz cur n xs := by
  refine ⟨h.1, ?_⟩
  rcases h.2 with h2 | ⟨g, cap, cells, fr, h2, h3, h4, h5, h6, h7, h8⟩
  · exact .inl h2
  · have : fr = (0, 0) := by rcases h8 with h8 | h8; exact h8; simp at h8
    subst this
    exact .inr ⟨g, cap, cells, h2, Nat.zero_le _, h3, h4, h5, h6, h7⟩
theorem Row.of_owns {w : World} {base e sz n : Nat} {cur : Value} {xs : List Value} (h : w.ownsRow base e sz cur n xs) (fz : Bool) : Row w fz e sz n cur xs := by
  refine ⟨h.1, ?_⟩
  rcases h.2 with h2 | ⟨g, cap, cells, h2, _, h3, h4, h5, h6, h7⟩
  · exact .inl h2
  · exact .inr ⟨g, cap, cells, (0, 0), h2, h3, h4, h5, h6, h7, .inl rfl⟩
theorem Row.kept {w w' : World} {fz : Bool} {e sz n : Nat} {cur : Value} {xs : List Value} (h : Row w fz e sz n cur xs) (hb : ∀ g, cur.ownBlock = some g → w'.heap[g]? = w.heap[g]?) : Row w' fz e sz n cur xs := by
  refine ⟨h.1, ?_⟩
  rcases h.2 with h2 | ⟨g, cap, cells, fr, h2, h3, h4⟩
  · exact .inl h2
  · exact .inr ⟨g, cap, cells, fr, h2, by rw [hb g (by rw [h2]; rfl)]; exact h3, h4⟩
theorem Row.lt {w : World} {fz : Bool} {e sz n : Nat} {cur : Value} {xs : List Value} (h : Row w fz e sz n cur xs) {g : Nat} (hg : cur.ownBlock = some g) : g < w.heap.size := by
  rcases h.2 with ⟨h2, _⟩ | ⟨g', cap, cells, fr, h2, h3, h4⟩
  · rw [h2] at hg; cases hg
  · rw [h2] at hg; cases hg; exact (Array.getElem?_eq_some_iff.1 h3).1

/-- The block of an object that may turn. -/
def Ob.mb : Ob → Nat × Value → Option Nat
  | .box _, p => some p.1
  | .rows _ _ _ _, p => p.2.ownBlock
  | _, _ => none

/-- The object is that. -/
def OK (E : Env) (os : List Ob) : Ob → Nat × Value → Prop
  | .box ds, p => ∃ cs ty, E.w.heap[p.1]? = some (.cells cs ty (0, 0)) ∧ cs.size = ds.length ∧ ∀ (j : Nat) (d : D) (v : Value), ds[j]? = some d → cs[j]? = some v → V E os d v ∧ v.oneCell' = true
  | .rows fz e sz rs, p => ∃ xs, Row E.w fz e sz rs.length p.2 xs ∧ (∀ r ∈ rs, r.length = sz) ∧ ∀ (i : Nat) (r : List X) (j : Nat) (x : X) (v : Value), rs[i]? = some r → r[j]? = some x → xs[i * sz + j]? = some v → VX E.w E.st x v
  | .frz sz rs, p => VX E.w E.st (.sl rs) p.2 ∧ (∀ r ∈ rs, r.length = sz) ∧ ∀ ad n c, p.2 = .slice (some ad) n c → ad = ⟨ad.block, 0, none⟩
  | .dead, _ => True

theorem OK.mono {E E' : Env} {os os' : List Ob} (e : Evo E os E' os') {o : Ob} {p : Nat × Value} (hb : ∀ b, o.mb p = some b → E'.w.heap[b]? = E.w.heap[b]?) (h : OK E os o p) : OK E' os' o p := by
  cases o with
  | box ds =>
    obtain ⟨cs, ty, h1, h2, h3⟩ := h
    exact ⟨cs, ty, by rw [hb _ rfl]; exact h1, h2, fun j d v hd hv => ⟨(h3 j d v hd hv).1.mono e, (h3 j d v hd hv).2⟩⟩
  | rows fz el sz rs =>
    obtain ⟨xs, h1, h2, h3⟩ := h
    exact ⟨xs, h1.kept hb, h2, fun i r j x v hr hx hv => (h3 i r j x v hr hx hv).mono e.st⟩
  | frz sz rs => exact ⟨h.1.mono e.st, h.2⟩
  | dead => trivial
theorem OK.lt {E : Env} {os : List Ob} {o : Ob} {p : Nat × Value} (h : OK E os o p) {b : Nat} (hb : o.mb p = some b) : b < E.w.heap.size := by
  cases o with
  | box ds =>
    obtain ⟨cs, ty, h1, h2, h3⟩ := h
    cases hb
    exact (Array.getElem?_eq_some_iff.1 h1).1
  | rows fz e sz rs =>
    obtain ⟨xs, h1, h2, h3⟩ := h
    exact h1.lt hb
  | frz sz rs => cases hb
  | dead => cases hb

/-- How a call began: the world, which cells no longer turned, which blocks it may change. -/
structure Ctx where
  w0 : World
  st0 : Nat → Nat → Prop
  M : Nat → Prop

structure Kept (M : Nat → Prop) (w w' : World) : Prop where
  os : w'.os = w.os
  tape : w'.tape = w.tape
  output : w'.output = w.output
  size : w.heap.size ≤ w'.heap.size
  block : ∀ k, k < w.heap.size → ¬ M k → w'.heap[k]? = w.heap[k]?

theorem Kept.refl (M : Nat → Prop) (w : World) : Kept M w w := ⟨rfl, rfl, rfl, Nat.le_refl _, fun _ _ _ => rfl⟩
/-- What may change later may change, or was not there. -/
theorem Kept.trans {M N : Nat → Prop} {a b c : World} (h : Kept M a b) (k : Kept N b c) (hN : ∀ i, N i → M i ∨ a.heap.size ≤ i) : Kept M a c :=
  ⟨k.os.trans h.os, k.tape.trans h.tape, k.output.trans h.output, Nat.le_trans h.size k.size, fun i hi hm => (k.block i (Nat.lt_of_lt_of_le hi h.size) (fun hn => by rcases hN i hn with h1 | h1; exact hm h1; omega)).trans (h.block i hi hm)⟩

/-- The objects lie in memory, apart from each other and from what no longer turns; all else is as it was when the call began. -/
structure Rel (c : Ctx) (E : Env) (os : List Ob) : Prop where
  len : E.ob.length = os.length
  ok : ∀ (i : Nat) (o : Ob) (p : Nat × Value), os[i]? = some o → E.ob[i]? = some p → OK E os o p
  dis : ∀ (i j : Nat) (o o' : Ob) (p p' : Nat × Value) (b : Nat), os[i]? = some o → E.ob[i]? = some p → os[j]? = some o' → E.ob[j]? = some p' → o.mb p = some b → o'.mb p' = some b → i = j
  stm : ∀ b off, E.st b off → b < E.w.heap.size ∧ ∀ (i : Nat) (o : Ob) (p : Nat × Value), os[i]? = some o → E.ob[i]? = some p → o.mb p ≠ some b
  kept : Kept c.M c.w0 E.w
  mbs : ∀ (i : Nat) (o : Ob) (p : Nat × Value) (b : Nat), os[i]? = some o → E.ob[i]? = some p → o.mb p = some b → c.M b ∨ c.w0.heap.size ≤ b
  sto : ∀ b off, E.st b off → c.st0 b off ∨ c.M b ∨ c.w0.heap.size ≤ b

theorem Rel.at {c : Ctx} {E : Env} {os : List Ob} (R : Rel c E os) {i : Nat} {o : Ob} (h : os[i]? = some o) : ∃ p, E.ob[i]? = some p ∧ OK E os o p := by
  have hi : i < E.ob.length := by rw [R.len]; exact (List.getElem?_eq_some_iff.1 h).1
  exact ⟨E.ob[i], List.getElem?_eq_getElem hi, R.ok i o _ h (List.getElem?_eq_getElem hi)⟩

/-- Memory grows, or what a callee made comes to stand; no object turns. -/
theorem Rel.world {c : Ctx} {E : Env} {os : List Ob} (R : Rel c E os) (w' : World) (st' : Nat → Nat → Prop) (hk : Kept (fun _ => False) E.w w') (hst : ∀ b off, E.st b off → st' b off) (hnew : ∀ b off, st' b off → E.st b off ∨ (E.w.heap.size ≤ b ∧ b < w'.heap.size)) :
    Rel c ⟨w', st', E.ob⟩ os ∧ Evo E os ⟨w', st', E.ob⟩ os := by
  have ev : Evo E os ⟨w', st', E.ob⟩ os := ⟨fun b o hs => ⟨hst b o hs, World.cell?_of_block (hk.block b (R.stm b o hs).1 (fun h => h))⟩, fun _ _ cu ds h h' => ⟨cu, ds, h, h'⟩, fun _ o' _ rs' h1 h2 => ⟨o', rs', h1, h2, .inl ⟨rfl, rfl⟩⟩⟩
  refine ⟨⟨R.len, fun i o p ho hp => (R.ok i o p ho hp).mono ev (fun b hb => hk.block b ((R.ok i o p ho hp).lt hb) (fun h => h)), R.dis, fun b off hs => ?_, ?_, R.mbs, fun b off hs => ?_⟩, ev⟩
  · rcases hnew b off hs with h | h
    · exact ⟨Nat.lt_of_lt_of_le (R.stm b off h).1 hk.size, (R.stm b off h).2⟩
    · exact ⟨h.2, fun i o p ho hp hb => by have := (R.ok i o p ho hp).lt hb; omega⟩
  · exact R.kept.trans hk (fun i h => h.elim)
  · rcases hnew b off hs with h | h
    · exact R.sto b off h
    · have := R.kept.size; exact .inr (.inr (by omega))

/-- A new object. -/
theorem Rel.push {c : Ctx} {E : Env} {os : List Ob} (R : Rel c E os) (w' : World) (o : Ob) (p : Nat × Value) (hk : Kept (fun _ => False) E.w w') (hm : ∀ b, o.mb p = some b → E.w.heap.size ≤ b)
    (hok : Evo E os ⟨w', E.st, E.ob ++ [p]⟩ (os ++ [o]) → OK ⟨w', E.st, E.ob ++ [p]⟩ (os ++ [o]) o p) : Rel c ⟨w', E.st, E.ob ++ [p]⟩ (os ++ [o]) ∧ Evo E os ⟨w', E.st, E.ob ++ [p]⟩ (os ++ [o]) := by
  have ev : Evo E os ⟨w', E.st, E.ob ++ [p]⟩ (os ++ [o]) := by
    refine ⟨fun b off hs => ⟨hs, World.cell?_of_block (hk.block b (R.stm b off hs).1 (fun h => h))⟩, fun id b cu ds ho h => ⟨cu, ds, ?_, ?_⟩, fun id o' sz rs' h1 h2 => ⟨o', rs', ?_, h2, .inl ⟨rfl, ?_⟩⟩⟩
    · rw [List.getElem?_append_left (List.getElem?_eq_some_iff.1 ho).1]; exact ho
    · show (E.ob ++ [p])[id]? = _
      rw [List.getElem?_append_left (List.getElem?_eq_some_iff.1 h).1]; exact h
    · rw [List.getElem?_append_left (List.getElem?_eq_some_iff.1 h1).1]; exact h1
    · show (E.ob ++ [p])[id]? = _
      rw [List.getElem?_append_left (by rw [R.len]; exact (List.getElem?_eq_some_iff.1 h1).1)]
  have key : ∀ (i : Nat) (o1 : Ob) (p1 : Nat × Value), (os ++ [o])[i]? = some o1 → (E.ob ++ [p])[i]? = some p1 → (i < os.length ∧ os[i]? = some o1 ∧ E.ob[i]? = some p1) ∨ (i = os.length ∧ o1 = o ∧ p1 = p) := by
    intro i o1 p1 h1 h2
    by_cases hi : i < os.length
    · rw [List.getElem?_append_left hi] at h1
      rw [List.getElem?_append_left (by rw [R.len]; exact hi)] at h2
      exact .inl ⟨hi, h1, h2⟩
    · have hl := (List.getElem?_eq_some_iff.1 h1).1
      simp at hl
      have : i = os.length := by omega
      subst this
      rw [List.getElem?_append_right (by omega)] at h1
      rw [List.getElem?_append_right (by rw [R.len]; omega), R.len] at h2
      simp at h1 h2
      exact .inr ⟨rfl, h1.symm, h2.symm⟩
  refine ⟨⟨by simp [R.len], fun i o1 p1 h1 h2 => ?_, fun i j o1 o2 p1 p2 b h1 h2 h3 h4 h5 h6 => ?_, fun b off hs => ⟨Nat.lt_of_lt_of_le (R.stm b off hs).1 hk.size, fun i o1 p1 h1 h2 h3 => ?_⟩, R.kept.trans hk (fun i h => h.elim), fun i o1 p1 b h1 h2 h3 => ?_, R.sto⟩, ev⟩
  · rcases key i o1 p1 h1 h2 with ⟨_, k1, k2⟩ | ⟨_, rfl, rfl⟩
    · exact (R.ok i o1 p1 k1 k2).mono ev (fun b hb => hk.block b ((R.ok i o1 p1 k1 k2).lt hb) (fun h => h))
    · exact hok ev
  · rcases key i o1 p1 h1 h2 with ⟨i1, k1, k2⟩ | ⟨i1, rfl, rfl⟩ <;> rcases key j o2 p2 h3 h4 with ⟨j1, k3, k4⟩ | ⟨j1, rfl, rfl⟩
    · exact R.dis i j o1 o2 p1 p2 b k1 k2 k3 k4 h5 h6
    · have := (R.ok i o1 p1 k1 k2).lt h5; have := hm b h6; omega
    · have := (R.ok j o2 p2 k3 k4).lt h6; have := hm b h5; omega
    · omega
  · rcases key i o1 p1 h1 h2 with ⟨i1, k1, k2⟩ | ⟨i1, rfl, rfl⟩
    · exact (R.stm b off hs).2 i o1 p1 k1 k2 h3
    · have := hm b h3; have := (R.stm b off hs).1; omega
  · rcases key i o1 p1 h1 h2 with ⟨i1, k1, k2⟩ | ⟨i1, rfl, rfl⟩
    · exact R.mbs i o1 p1 b k1 k2 h3
    · have := hm b h3; have := R.kept.size; exact .inr (by omega)

/-- One object turns: nothing else does. -/
theorem Rel.set {c : Ctx} {E : Env} {os : List Ob} (R : Rel c E os) {i : Nat} {o : Ob} {p : Nat × Value} (ho : os[i]? = some o) (hp : E.ob[i]? = some p) (w' : World) (o' : Ob) (p' : Nat × Value)
    (hk : Kept (fun b => o.mb p = some b) E.w w') (hm : ∀ b, o'.mb p' = some b → o.mb p = some b ∨ E.w.heap.size ≤ b)
    (hs : ∀ sz rs, o.slice? = some (sz, rs) → ∃ rs', o'.slice? = some (sz, rs') ∧ ((rs.length = rs'.length ∧ p' = p) ∨ rs.length < rs'.length))
    (hbx : ∀ ds, o = .box ds → p'.1 = p.1 ∧ ∃ ds', o' = .box ds')
    (hok : Evo E os ⟨w', E.st, E.ob.set i p'⟩ (os.set i o') → OK ⟨w', E.st, E.ob.set i p'⟩ (os.set i o') o' p') :
    Rel c ⟨w', E.st, E.ob.set i p'⟩ (os.set i o') ∧ Evo E os ⟨w', E.st, E.ob.set i p'⟩ (os.set i o') := by
  have hio : i < os.length := (List.getElem?_eq_some_iff.1 ho).1
  have hip : i < E.ob.length := (List.getElem?_eq_some_iff.1 hp).1
  have go : ∀ j, (os.set i o')[j]? = if i = j then some o' else os[j]? := fun j => by
    rw [List.getElem?_set]; by_cases h : i = j
    · subst h; simp [hio]
    · simp [h]
  have gp : ∀ j, (E.ob.set i p')[j]? = if i = j then some p' else E.ob[j]? := fun j => by
    rw [List.getElem?_set]; by_cases h : i = j
    · subst h; simp [hip]
    · simp [h]
  have kst : ∀ b off, E.st b off → w'.heap[b]? = E.w.heap[b]? := fun b off hb => hk.block b (R.stm b off hb).1 (fun h => (R.stm b off hb).2 i o p ho hp h)
  have kob : ∀ j oj pj, os[j]? = some oj → E.ob[j]? = some pj → j ≠ i → ∀ b, oj.mb pj = some b → w'.heap[b]? = E.w.heap[b]? := fun j oj pj h1 h2 hne b hb =>
    hk.block b ((R.ok j oj pj h1 h2).lt hb) (fun h => hne (R.dis j i oj o pj p b h1 h2 ho hp hb h))
  have ev : Evo E os ⟨w', E.st, E.ob.set i p'⟩ (os.set i o') := by
    refine ⟨fun b off hb => ⟨hb, World.cell?_of_block (kst b off hb)⟩, fun id b cu ds hbo hb => ?_, fun id o1 sz rs h1 h2 => ?_⟩
    · rw [gp, go]
      by_cases h : i = id
      · subst h
        rw [hp] at hb; cases hb
        rw [ho] at hbo; cases hbo
        obtain ⟨g1, ds', g2⟩ := hbx ds rfl
        obtain ⟨q1, q2⟩ := p'
        simp only at g1; subst g1
        exact ⟨q2, ds', by simp [g2], by simp⟩
      · exact ⟨cu, ds, by simp [h, hbo], by simp [h, hb]⟩
    · rw [go, gp]
      by_cases h : i = id
      · subst h
        rw [ho] at h1; cases h1
        obtain ⟨rs', k1, k2⟩ := hs sz rs h2
        refine ⟨o', rs', by simp, k1, ?_⟩
        rcases k2 with ⟨k2, k3⟩ | k2
        · exact .inl ⟨k2, by simp [k3, hp]⟩
        · exact .inr k2
      · simp only [h, if_false]
        exact ⟨o1, rs, h1, h2, .inl ⟨rfl, trivial⟩⟩
  refine ⟨⟨by simp [R.len], fun j o1 p1 h1 h2 => ?_, fun j k o1 o2 p1 p2 b h1 h2 h3 h4 h5 h6 => ?_, fun b off hb => ⟨Nat.lt_of_lt_of_le (R.stm b off hb).1 hk.size, fun j o1 p1 h1 h2 h3 => ?_⟩, ?_, fun j o1 p1 b h1 h2 h3 => ?_, R.sto⟩, ev⟩
  · replace h1 := (go j).symm.trans h1
    replace h2 := (gp j).symm.trans h2
    by_cases h : i = j
    · subst h; simp at h1 h2; subst h1; subst h2; exact hok ev
    · simp [h] at h1 h2
      exact (R.ok j o1 p1 h1 h2).mono ev (kob j o1 p1 h1 h2 (Ne.symm h))
  · replace h1 := (go j).symm.trans h1
    replace h2 := (gp j).symm.trans h2
    replace h3 := (go k).symm.trans h3
    replace h4 := (gp k).symm.trans h4
    by_cases hj : i = j <;> by_cases hk' : i = k
    · omega
    · subst hj; simp at h1 h2; subst h1; subst h2; simp [hk'] at h3 h4
      rcases hm b h5 with h | h
      · exact R.dis _ _ _ _ _ _ b ho hp h3 h4 h h6
      · have := (R.ok k o2 p2 h3 h4).lt h6; omega
    · subst hk'; simp at h3 h4; subst h3; subst h4; simp [hj] at h1 h2
      rcases hm b h6 with h | h
      · exact R.dis _ _ _ _ _ _ b h1 h2 ho hp h5 h
      · have := (R.ok j o1 p1 h1 h2).lt h5; omega
    · simp [hj] at h1 h2; simp [hk'] at h3 h4
      exact R.dis j k o1 o2 p1 p2 b h1 h2 h3 h4 h5 h6
  · replace h1 := (go j).symm.trans h1
    replace h2 := (gp j).symm.trans h2
    by_cases hj : i = j
    · subst hj; simp at h1 h2; subst h1; subst h2
      rcases hm b h3 with h | h
      · exact (R.stm b off hb).2 _ _ _ ho hp h
      · have := (R.stm b off hb).1; omega
    · simp [hj] at h1 h2
      exact (R.stm b off hb).2 j o1 p1 h1 h2 h3
  · exact R.kept.trans hk (fun b hb => R.mbs i o p b ho hp hb)
  · replace h1 := (go j).symm.trans h1
    replace h2 := (gp j).symm.trans h2
    by_cases hj : i = j
    · subst hj; simp at h1 h2; subst h1; subst h2
      rcases hm b h3 with h | h
      · exact R.mbs _ _ _ b ho hp h
      · have := R.kept.size; exact .inr (by omega)
    · simp [hj] at h1 h2
      exact R.mbs j o1 p1 b h1 h2 h3

theorem Row.vx {E : Env} {fz : Bool} {e sz : Nat} {rs : List (List X)} {cur : Value} {xs : List Value} {st' : Nat → Nat → Prop} (h : Row E.w fz e sz rs.length cur xs) (hz : ∀ r ∈ rs, r.length = sz)
    (hv : ∀ (i : Nat) (r : List X) (j : Nat) (x : X) (v : Value), rs[i]? = some r → r[j]? = some x → xs[i * sz + j]? = some v → VX E.w E.st x v) (hst : ∀ b off, E.st b off → st' b off) (hnew : ∀ g, cur.ownBlock = some g → ∀ off, off < rs.length * sz → st' g off) :
    VX E.w st' (.sl rs) cur := by
  have lt : ∀ i j, i < rs.length → j < sz → i * sz + j < rs.length * sz := fun i j hi hj => by
    have : (i + 1) * sz ≤ rs.length * sz := Nat.mul_le_mul_right _ hi
    rw [Nat.add_mul] at this; omega
  have hm : ∀ {x v}, VX E.w E.st x v → VX E.w st' x v := fun h => h.mono (fun b o hb => ⟨hst b o hb, rfl⟩)
  rcases h.2 with ⟨rfl, hn⟩ | ⟨g, cap, cells, fr, rfl, hg, hc, hcm, hcs, ht, hf⟩
  · exact .sl rs none 0 0 sz (fun _ _ => undef) hn (Nat.le_refl _) (Nat.zero_le _) hz (fun i j hi => by omega) (fun _ => ⟨rfl, rfl⟩) (fun _ ad h => by cases h) (fun i j r x hr => by rw [List.eq_nil_of_length_eq_zero hn] at hr; simp at hr)
  · have cell : ∀ i j, i < rs.length → j < sz → ∃ v, xs[i * sz + j]? = some v ∧ E.w.cell? ⟨g, i * sz + j, none⟩ = some v := fun i j hi hj => by
      have hl := lt i j hi hj
      have hx : i * sz + j < xs.length := by rw [h.1]; exact hl
      refine ⟨xs[i * sz + j], List.getElem?_eq_getElem hx, ?_⟩
      have : (cells.toList.take (rs.length * sz))[i * sz + j]? = xs[i * sz + j]? := by rw [ht]
      rw [List.getElem?_take, if_pos hl, List.getElem?_eq_getElem hx] at this
      simp [World.cell?, hg]
      simpa using this
    refine .sl rs _ _ cap sz (fun i j => xs.getD (i * sz + j) undef) rfl hc hcm hz (fun i j hi hj => ?_) (fun h => by cases h) (fun _ ad h => by cases h; rfl) (fun i j r x hr hx => ?_)
    · obtain ⟨v, h1, h2⟩ := cell i j hi hj
      refine ⟨g, 0, rfl, hnew g rfl _ (by have := lt i j hi hj; omega), ?_⟩
      rw [Nat.zero_add, h2]; simp [List.getD, h1]
    · have hi := (List.getElem?_eq_some_iff.1 hr).1
      have hj : j < sz := by rw [← hz r (List.mem_of_getElem? hr)]; exact (List.getElem?_eq_some_iff.1 hx).1
      obtain ⟨v, h1, h2⟩ := cell i j hi hj
      simp only [List.getD, h1, Option.getD_some]
      exact hm (hv i r j x v hr hx h1)

/-- A row no longer turns from here on. -/
theorem Rel.freeze {c : Ctx} {E : Env} {os : List Ob} (R : Rel c E os) {i : Nat} {fz : Bool} {e sz : Nat} {rs : List (List X)} {p : Nat × Value} (ho : os[i]? = some (.rows fz e sz rs)) (hp : E.ob[i]? = some p) :
    Rel c ⟨E.w, fun b off => E.st b off ∨ (p.2.ownBlock = some b ∧ off < rs.length * sz), E.ob⟩ (os.set i (.frz sz rs)) ∧
    Evo E os ⟨E.w, fun b off => E.st b off ∨ (p.2.ownBlock = some b ∧ off < rs.length * sz), E.ob⟩ (os.set i (.frz sz rs)) := by
  have hio : i < os.length := (List.getElem?_eq_some_iff.1 ho).1
  have go : ∀ j, (os.set i (.frz sz rs))[j]? = if i = j then some (.frz sz rs) else os[j]? := fun j => by
    rw [List.getElem?_set]; by_cases h : i = j
    · subst h; simp [hio]
    · simp [h]
  obtain ⟨xs, hr, hz, hv⟩ := R.ok i _ p ho hp
  have ev : Evo E os ⟨E.w, fun b off => E.st b off ∨ (p.2.ownBlock = some b ∧ off < rs.length * sz), E.ob⟩ (os.set i (.frz sz rs)) := by
    refine ⟨fun b off hb => ⟨.inl hb, rfl⟩, fun id b cu ds hbo hb => ?_, fun id o1 sz' rs' h1 h2 => ?_⟩
    · rw [go]
      by_cases h : i = id
      · subst h; rw [ho] at hbo; cases hbo
      · exact ⟨cu, ds, by simp [h, hbo], hb⟩
    rw [go]
    by_cases h : i = id
    · subst h
      rw [ho] at h1; cases h1
      simp [Ob.slice?] at h2
      obtain ⟨rfl, rfl⟩ := h2
      exact ⟨.frz sz rs, rs, by simp, rfl, .inl ⟨rfl, rfl⟩⟩
    · exact ⟨o1, rs', by simp [h, h1], h2, .inl ⟨rfl, rfl⟩⟩
  refine ⟨⟨by simp [R.len], fun j o1 p1 h1 h2 => ?_, fun j k o1 o2 p1 p2 b h1 h2 h3 h4 h5 h6 => ?_, fun b off hb => ?_, R.kept, fun j o1 p1 b h1 h2 h3 => ?_, fun b off hb => ?_⟩, ev⟩
  · replace h1 := (go j).symm.trans h1
    by_cases h : i = j
    · subst h; simp at h1; subst h1
      have h2' : E.ob[i]? = some p1 := h2
      rw [hp] at h2'; cases h2'
      refine ⟨hr.vx hz hv (fun b off hb => .inl hb) (fun g hg off hoff => .inr ⟨hg, hoff⟩), hz, fun ad n c he => ?_⟩
      rcases hr.2 with ⟨h3, _⟩ | ⟨g, cap, cells, fr, h3, _⟩
      · rw [he] at h3; cases h3
      · rw [he] at h3; cases h3; rfl
    · simp [h] at h1
      exact (R.ok j o1 p1 h1 h2).mono ev (fun b hb => rfl)
  · replace h1 := (go j).symm.trans h1
    replace h3 := (go k).symm.trans h3
    by_cases hj : i = j
    · subst hj; simp at h1; subst h1; cases h5
    · by_cases hk : i = k
      · subst hk; simp at h3; subst h3; cases h6
      · simp [hj] at h1; simp [hk] at h3
        exact R.dis j k o1 o2 p1 p2 b h1 h2 h3 h4 h5 h6
  · rcases hb with hb | ⟨hb, hoff⟩
    · refine ⟨(R.stm b off hb).1, fun j o1 p1 h1 h2 h3 => ?_⟩
      replace h1 := (go j).symm.trans h1
      by_cases hj : i = j
      · subst hj; simp at h1; subst h1; cases h3
      · simp [hj] at h1; exact (R.stm b off hb).2 j o1 p1 h1 h2 h3
    · refine ⟨hr.lt hb, fun j o1 p1 h1 h2 h3 => ?_⟩
      replace h1 := (go j).symm.trans h1
      by_cases hj : i = j
      · subst hj; simp at h1; subst h1; cases h3
      · simp [hj] at h1
        exact hj (R.dis i j _ o1 p p1 b ho hp h1 h2 hb h3)
  · replace h1 := (go j).symm.trans h1
    by_cases hj : i = j
    · subst hj; simp at h1; subst h1; cases h3
    · simp [hj] at h1; exact R.mbs j o1 p1 b h1 h2 h3
  · rcases hb with hb | ⟨hb, hoff⟩
    · exact R.sto b off hb
    · exact .inr (R.mbs i _ p b ho hp hb)

/-- A part of a slice. -/
theorem VX.part {w : World} {st : Nat → Nat → Prop} {rs : List (List X)} {a : Option Addr} {n c : Nat} (h : VX w st (.sl rs) (.slice a n c)) {sz : Nat} (hz : ∀ r ∈ rs, r.length = sz) (off len : Nat) (hl : off + len ≤ rs.length) (a' : Option Addr) (c' : Nat) (hc : len ≤ c') (hm : c' ≤ maxLen)
    (ha : 0 < len → ∀ ad, a = some ad → a' = some ⟨ad.block, ad.off + off * sz, none⟩) (hn : a' = none → len = 0 ∧ c' = 0) (hsp' : 0 < c' → ∀ ad, a' = some ad → ad.spot = none) : VX w st (.sl ((rs.drop off).take len)) (.slice a' len c') := by
  cases h with
  | sl _ _ _ _ sz0 val hn0 hc0 hm0 hsz0 hcell hnil hsp hval =>
    have hlen : ((rs.drop off).take len).length = len := by simp; omega
    have hz' : ∀ r ∈ (rs.drop off).take len, r.length = sz := fun r hr => hz r (List.mem_of_mem_drop (List.mem_of_mem_take hr))
    have hszeq : 0 < len → sz0 = sz := fun hp => by
      have h0 : rs[0]'(by omega) ∈ rs := List.getElem_mem _
      rw [← hsz0 _ h0, hz _ h0]
    refine .sl _ _ _ _ sz (fun i j => val (off + i) j) hlen hc hm hz' (fun i j hi hj => ?_) hn hsp' (fun i j r x hr hx => ?_)
    · have e := hszeq (by omega)
      subst e
      obtain ⟨b, o, h1, h2, h3⟩ := hcell (off + i) j (by omega) hj
      have h4 := ha (by omega) _ h1
      have ea : o + (off + i) * sz0 + j = o + off * sz0 + i * sz0 + j := by rw [Nat.add_mul]; omega
      rw [ea] at h2 h3
      exact ⟨b, o + off * sz0, h4, h2, h3⟩
    · have hi : i < len := by rw [← hlen]; exact (List.getElem?_eq_some_iff.1 hr).1
      refine hval (off + i) j r x ?_ hx
      rw [List.getElem?_take, if_pos hi, List.getElem?_drop] at hr
      exact hr

end Go.Ab
