/- Data of plain types as rows of abstract cells, there and back; what is read of a call's arguments is such data; how long slices are at most. -/
import Derived.Test.YtogmbfaijmhamaaAb29
import Derived.Test.YtogmbfaijmhamaaOpen
namespace Go.Ab
open Go.RowKit Go.Bo

/-- Data in so many cells. -/
structure RC (α : Type) where
  n : Nat
  enc : α → List X
  dec : List X → Option α
structure RC.Good {α : Type} (c : RC α) : Prop where
  len : ∀ a, (c.enc a).length = c.n
  de : ∀ a, c.dec (c.enc a) = some a
  ed : ∀ r a, c.dec r = some a → c.enc a = r

def rInt (k : IntKind) : RC Int := ⟨1, fun x => [.int k x], fun | [.int k' x] => if k' = k then some x else none | _ => none⟩
def rStr : RC (List UInt8) := ⟨1, fun s => [.str s], fun | [.str s] => some s | _ => none⟩
def rBool : RC Bool := ⟨1, fun s => [.bool s], fun | [.bool s] => some s | _ => none⟩
def rEnd : RC Unit := ⟨0, fun _ => [], fun | [] => some () | _ => none⟩
def rCat {α β : Type} (c : RC α) (d : RC β) : RC (α × β) := ⟨c.n + d.n, fun p => c.enc p.1 ++ d.enc p.2, fun r => (c.dec (r.take c.n)).bind fun a => (d.dec (r.drop c.n)).map fun b => (a, b)⟩
def rVia {α β : Type} (c : RC α) (f : β → α) (g : α → β) : RC β := ⟨c.n, fun b => c.enc (f b), fun r => (c.dec r).map g⟩
def rows {α : Type} (c : RC α) (l : List α) : List (List X) := l.map c.enc
def unrows {α : Type} (c : RC α) (rs : List (List X)) : Option (List α) := rs.mapM c.dec
def rSl {α : Type} (c : RC α) : RC (List α) := ⟨1, fun l => [.sl (rows c l)], fun | [.sl rs] => unrows c rs | _ => none⟩

theorem mapM_some_iff {α β : Type} {f : α → Option β} : ∀ {l : List α} {m : List β}, l.mapM f = some m ↔ l.length = m.length ∧ ∀ (i : Nat) (h : i < l.length) (h' : i < m.length), f l[i] = some m[i]
  | [], m => by
    cases m <;> simp
  | x :: l, m => by
    simp only [List.mapM_cons, Option.bind_eq_bind, Option.bind_eq_some_iff, Option.pure_def, Option.some.injEq]
    constructor
    · rintro ⟨y, hy, ys, hys, rfl⟩
      obtain ⟨h1, h2⟩ := mapM_some_iff.1 hys
      refine ⟨by simp [h1], fun i h h' => ?_⟩
      cases i with
      | zero => exact hy
      | succ i => simpa using h2 i (by simpa using h) (by simpa using h')
    · rintro ⟨h1, h2⟩
      cases m with
      | nil => simp at h1
      | cons y ys =>
        refine ⟨y, h2 0 (by simp) (by simp), ys, mapM_some_iff.2 ⟨by simpa using h1, fun i h h' => ?_⟩, rfl⟩
        exact h2 (i + 1) (by simp; omega) (by simp; omega)

section
variable {α β : Type} {c : RC α} {d : RC β}
theorem rows_len (c : RC α) (l : List α) : (rows c l).length = l.length := by simp [rows]
theorem rows_get (c : RC α) (l : List α) (i : Nat) (h : i < l.length) : (rows c l)[i]? = some (c.enc l[i]) := by simp [rows, h]
theorem rows_drop (c : RC α) (l : List α) (k : Nat) : (rows c l).drop k = rows c (l.drop k) := by simp [rows]
theorem rows_take (c : RC α) (l : List α) (k : Nat) : (rows c l).take k = rows c (l.take k) := by simp [rows]
theorem rows_app (c : RC α) (l m : List α) : rows c l ++ rows c m = rows c (l ++ m) := by simp [rows]
theorem rows_snoc_get (c : RC α) (l : List α) (z : List X) : (rows c l ++ [z])[l.length]? = some z := by rw [List.getElem?_append_right (by rw [rows_len]; exact Nat.le_refl _), rows_len, Nat.sub_self]; rfl
theorem rows_snoc_set (c : RC α) (l : List α) (z y : List X) : (rows c l ++ [z]).set l.length y = rows c l ++ [y] := by rw [List.set_append_right _ _ (by rw [rows_len]; exact Nat.le_refl _), rows_len, Nat.sub_self]; rfl
theorem rows_snoc_len (c : RC α) (l : List α) (z : List X) : (rows c l ++ [z]).length = l.length + 1 := by rw [List.length_append, rows_len]; rfl
theorem rows_one (c : RC α) (a : α) : [c.enc a] = rows c [a] := rfl
theorem rows_nil (c : RC α) : [] = rows c [] := rfl
theorem rows_all (h : c.Good) (l : List α) (sz : Nat) (hs : c.n = sz) : ((rows c l).all fun r => decide (r.length = sz)) = true := by
  subst hs
  rw [List.all_eq_true]
  intro r hr
  obtain ⟨a, _, rfl⟩ := List.mem_map.1 hr
  simp [h.len]
theorem unrows_rows (h : c.Good) (l : List α) : unrows c (rows c l) = some l := by
  unfold unrows
  rw [mapM_some_iff]
  exact ⟨by simp [rows], fun i h1 h2 => by simp [rows, h.de]⟩
theorem rows_unrows (h : c.Good) {rs : List (List X)} {l : List α} (hu : unrows c rs = some l) : rows c l = rs := by
  unfold unrows at hu
  rw [mapM_some_iff] at hu
  refine List.ext_getElem (by simp [rows, hu.1]) (fun i h1 h2 => ?_)
  have := hu.2 i h2 (by simpa [rows] using h1)
  simpa [rows] using h.ed _ _ this

theorem enc_rInt (k : IntKind) (n : Int) : (rInt k).enc n = [.int k n] := rfl
theorem enc_rStr (s : List UInt8) : rStr.enc s = [.str s] := rfl
theorem enc_rBool (b : Bool) : rBool.enc b = [.bool b] := rfl
theorem enc_rEnd (u : Unit) : rEnd.enc u = [] := rfl
theorem enc_rSl (c : RC α) (l : List α) : (rSl c).enc l = [.sl (rows c l)] := rfl
theorem enc_rCat (c : RC α) (d : RC β) (p : α × β) : (rCat c d).enc p = c.enc p.1 ++ d.enc p.2 := rfl
theorem enc_rVia (c : RC α) (f : β → α) (g : α → β) (b : β) : (rVia c f g).enc b = c.enc (f b) := rfl
theorem good_rInt (k : IntKind) : (rInt k).Good := ⟨fun _ => rfl, fun a => by simp [rInt], fun r a h => by
  simp only [rInt] at h ⊢
  split at h
  · split at h
    · rename_i hk; cases h; rw [hk]
    · cases h
  · cases h⟩
theorem good_rStr : rStr.Good := ⟨fun _ => rfl, fun a => rfl, fun r a h => by
  simp only [rStr] at h ⊢
  split at h
  · cases h; rfl
  · cases h⟩
theorem good_rBool : rBool.Good := ⟨fun _ => rfl, fun a => rfl, fun r a h => by
  simp only [rBool] at h ⊢
  split at h
  · cases h; rfl
  · cases h⟩
theorem good_rEnd : rEnd.Good := ⟨fun _ => rfl, fun a => rfl, fun r a h => by
  simp only [rEnd] at h ⊢
  split at h
  · rfl
  · cases h⟩
theorem good_rCat (hc : c.Good) (hd : d.Good) : (rCat c d).Good := ⟨fun p => by simp [rCat, hc.len, hd.len], fun p => by
    have h1 : (c.enc p.1 ++ d.enc p.2).take c.n = c.enc p.1 := by rw [List.take_append_of_le_length (by rw [hc.len]; exact Nat.le_refl _), List.take_of_length_le (by rw [hc.len]; exact Nat.le_refl _)]
    have h2 : (c.enc p.1 ++ d.enc p.2).drop c.n = d.enc p.2 := by rw [← hc.len p.1]; exact List.drop_left
    simp [rCat, h1, h2, hc.de, hd.de], fun r p h => by
    simp only [rCat, Option.bind_eq_some_iff, Option.map_eq_some_iff] at h
    obtain ⟨a, h1, b, h2, rfl⟩ := h
    simp only [rCat, hc.ed _ _ h1, hd.ed _ _ h2, List.take_append_drop]⟩
theorem good_rVia {f : β → α} {g : α → β} (hc : c.Good) (h1 : ∀ a, f (g a) = a) (h2 : ∀ b, g (f b) = b) : (rVia c f g).Good := ⟨fun b => hc.len _, fun b => by simp [rVia, hc.de, h2], fun r b h => by
  simp only [rVia, Option.map_eq_some_iff] at h
  obtain ⟨a, h3, rfl⟩ := h
  simp only [rVia, h1, hc.ed _ _ h3]⟩
theorem good_rSl (hc : c.Good) : (rSl c).Good := ⟨fun _ => rfl, fun l => unrows_rows hc l, fun r l h => by
  simp only [rSl] at h ⊢
  split at h
  · rw [rows_unrows hc h]
  · cases h⟩
end

/-! ### How long slices are at most -/
mutual
/-- Each slice in it is no longer than slices may be. -/
def X.wf : X → Prop
  | .sl rs => rs.length ≤ maxLen ∧ X.wfR rs
  | .int _ _ => True
  | .bool _ => True
  | .str _ => True
  | .nilp => True
  | .nils => True
def X.wfR : List (List X) → Prop
  | [] => True
  | r :: l => X.wfL r ∧ X.wfR l
def X.wfL : List X → Prop
  | [] => True
  | x :: l => x.wf ∧ X.wfL l
end
theorem X.wfL_iff : ∀ {l : List X}, X.wfL l ↔ ∀ x ∈ l, x.wf
  | [] => by simp [X.wfL]
  | x :: l => by simp [X.wfL, X.wfL_iff (l := l)]
theorem X.wfR_iff : ∀ {rs : List (List X)}, X.wfR rs ↔ ∀ r ∈ rs, X.wfL r
  | [] => by simp [X.wfR]
  | r :: l => by simp [X.wfR, X.wfR_iff (rs := l)]
theorem VX.wf {w : World} {st : Nat → Nat → Prop} {x : X} {v : Value} (h : VX w st x v) : x.wf := by
  induction h with
  | sl rs a n c sz val hn hc hm hsz hcell hnil hsp hval ih =>
    refine ⟨by omega, X.wfR_iff.2 (fun r hr => X.wfL_iff.2 (fun x hx => ?_))⟩
    obtain ⟨i, hi⟩ := List.mem_iff_getElem?.1 hr
    obtain ⟨j, hj⟩ := List.mem_iff_getElem?.1 hx
    exact ih i j r x hi hj
  | _ => trivial

section
variable {P : Program}
/-- Of a call's arguments that much is known. -/
theorem PCalls.wf {f : FuncId} {args : List D} {r : D} (h : (∀ x, D.x x ∈ args → x.wf) → PCalls P f args r) : PCalls P f args r := by
  intro w st vs hst hvl
  refine h (fun x hx => ?_) w st vs hst hvl
  obtain ⟨j, hj⟩ := List.mem_iff_getElem?.1 hx
  have hl := (List.getElem?_eq_some_iff.1 hj).1
  have hv : vs[j]? = some (vs[j]'(by rw [← hvl.1]; exact hl)) := Array.getElem?_eq_getElem _
  exact (hvl.2 j _ _ hj hv).xx.wf
theorem PCalls.wfA {f : FuncId} {args : List D} {r : D} (h : (∀ (i j : Nat) x, (args[i]?).bind (fun d => match d with | .agg ds => ds[j]? | _ => none) = some (D.x x) → x.wf) → PCalls P f args r) : PCalls P f args r := by
  intro w st vs hst hvl
  refine h (fun i j x hx => ?_) w st vs hst hvl
  obtain ⟨d, hd, h2⟩ := Option.bind_eq_some_iff.1 hx
  have hl := (List.getElem?_eq_some_iff.1 hd).1
  have hv : vs[i]? = some (vs[i]'(by rw [← hvl.1]; exact hl)) := Array.getElem?_eq_getElem _
  have hvd := hvl.2 i d _ hd hv
  cases d with
  | agg ds =>
    generalize vs[i]'(by rw [← hvl.1]; exact hl) = u at hvd
    cases hvd with
    | agg us hl2 h1 hv2 =>
      have hj := (List.getElem?_eq_some_iff.1 h2).1
      exact (hv2 j _ _ h2 (Array.getElem?_eq_getElem (by omega))).xx.wf
  | _ => cases h2
theorem WI.wf {c : Ctx} {E0 : Env} {os0 os : List Ob} {n : Nat} {Q : Exit → List (Nat × D) → List Ob → Prop} {φ : List (Nat × D)} {ic : IC} (t : Nat) {x : X} (ht : get φ t = .x x) (h : x.wf → WI P c E0 os0 n ic Q φ os) : WI P c E0 os0 n ic Q φ os := by
  intro code hc E a R hf
  have := hf.slot t
  rw [ht] at this
  exact h this.xx.wf code hc E a R hf

/-! ### What is read of arguments -/
mutual
/-- Numbers in their kind's range; texts and slices no longer than they may be. -/
def X.ok : X → Prop
  | .sl rs => rs.length ≤ maxLen ∧ X.okR rs
  | .int k n => (Lit.int k n).wf = true
  | .bool _ => True
  | .str s => s.length ≤ maxLen
  | .nilp => True
  | .nils => True
def X.okR : List (List X) → Prop
  | [] => True
  | r :: l => X.okL r ∧ X.okR l
def X.okL : List X → Prop
  | [] => True
  | x :: l => x.ok ∧ X.okL l
end
theorem X.okL_iff : ∀ {l : List X}, X.okL l ↔ ∀ x ∈ l, x.ok
  | [] => by simp [X.okL]
  | x :: l => by simp [X.okL, X.okL_iff (l := l)]
theorem X.okR_iff : ∀ {rs : List (List X)}, X.okR rs ↔ ∀ r ∈ rs, X.okL r
  | [] => by simp [X.okR]
  | r :: l => by simp [X.okR, X.okR_iff (rs := l)]
theorem X.okL_append {l m : List X} : X.okL (l ++ m) ↔ X.okL l ∧ X.okL m := by
  simp only [X.okL_iff, List.mem_append]
  exact ⟨fun h => ⟨fun x hx => h x (.inl hx), fun x hx => h x (.inr hx)⟩, fun h x hx => hx.elim (h.1 x) (h.2 x)⟩

/-- The cells hold that. -/
def Lies (w : World) (xs : List X) (cs : List Value) : Prop := cs.length = xs.length ∧ ∀ (j : Nat) (x : X) (v : Value), xs[j]? = some x → cs[j]? = some v → VX w (fun b _ => b < w.heap.size) x v
/-- Whatever reads as data of type T are such data. -/
def Opens (P : Program) (T : TypeId) {α : Type} (c : RC α) : Prop :=
  P.cellsOf T = c.n ∧ ∀ {H : Type} (enc : TypeId × Value → H) (w : World) (fuel : Nat) (cs : List Value) (x : DataW H × List MemPlace), DataW.trod enc P w 0 (fun _ => true) true fuel T cs = some x → ∃ y, Lies w (c.enc y) cs ∧ X.okL (c.enc y)

theorem Lies.one {w : World} {x : X} {v : Value} (h : VX w (fun b _ => b < w.heap.size) x v) : Lies w [x] [v] := ⟨rfl, fun j y u h1 h2 => by
  cases j with
  | zero => simp at h1 h2; subst h1; subst h2; exact h
  | succ j => simp at h1⟩

variable {T : TypeId}
theorem opens_int {k : IntKind} (hT : P.underlying T = some (.int k)) (hc : P.cellsOf T = 1) : Opens P T (rInt k) :=
  ⟨hc, fun _ _ _ _ _ h => let ⟨n, h1, _, h3⟩ := DataW.trod_int hT h; ⟨n, by rw [h1]; exact Lies.one (.int k n), h3, trivial⟩⟩
theorem opens_bool (hT : P.underlying T = some .bool) (hc : P.cellsOf T = 1) : Opens P T rBool :=
  ⟨hc, fun _ _ _ _ _ h => let ⟨n, h1, _⟩ := DataW.trod_bool hT h; ⟨n, by rw [h1]; exact Lies.one (.bool n), trivial, trivial⟩⟩
theorem bstr_of (s : ByteArray) : bstr s.toList = s := by
  apply ByteArray.ext
  apply Array.ext'
  rw [ByteArray.toList_eq]
  simp [bstr]
theorem opens_str (hT : P.underlying T = some .string) (hc : P.cellsOf T = 1) : Opens P T rStr := by
  refine ⟨hc, fun {H} enc w fuel cs x h => ?_⟩
  obtain ⟨s, rfl, _, h3⟩ := DataW.trod_string hT h
  have h4 : VX w (fun b _ => b < w.heap.size) (.str s.toList) (.string (bstr s.toList)) := .str _
  rw [bstr_of] at h4
  refine ⟨s.toList, Lies.one h4, ?_, trivial⟩
  show s.toList.length ≤ maxLen
  rw [ByteArray.toList_eq]; simpa using h3
theorem opens_via {α β : Type} {c : RC α} (h : Opens P T c) (f : β → α) (g : α → β) (hfg : ∀ x, f (g x) = x) : Opens P T (rVia c f g) :=
  ⟨h.1, fun enc w fuel cs x hx => let ⟨y, hy⟩ := h.2 enc w fuel cs x hx; ⟨g y, by show Lies w (c.enc (f (g y))) cs ∧ X.okL (c.enc (f (g y))); rw [hfg]; exact hy⟩⟩

theorem opens_sl {α : Type} {c : RC α} {e : TypeId} (hG : c.Good) (hT : P.underlying T = some (.slice e)) (hc : P.cellsOf T = 1) (he : Opens P e c) (h0 : 0 < c.n) : Opens P T (rSl c) := by
  refine ⟨hc, fun {H} enc w fuel cs x h => ?_⟩
  rcases DataW.trod_slice hT h with ⟨rfl, _⟩ | ⟨a, len, cap, elems, rest, n, _, rfl, _, _, hl, hm, hlen, hel, hsp, _⟩
  · exact ⟨[], Lies.one (VX.nn .nils), ⟨Nat.zero_le _, trivial⟩, trivial⟩
  · have key : ∀ i, i < len → ∃ (y : α) (cs' : List Value), Lies w (c.enc y) cs' ∧ X.okL (c.enc y) ∧ ∀ j, j < c.n → w.cell? (a.add (i * c.n + j)) = cs'[j]? := by
      intro i hi
      have h1 := hel i hi
      rw [List.getElem?_eq_getElem (by omega)] at h1
      obtain ⟨cs', h2, h3⟩ := Option.bind_eq_some_iff.1 h1
      obtain ⟨y, hy, hy2⟩ := he.2 enc w n cs' _ h3
      obtain ⟨_, hcl, hcc⟩ := World.cells?_some h2
      rw [he.1] at hcl hcc
      refine ⟨y, cs', hy, hy2, fun j hj => ?_⟩
      rw [← hcc j hj]
      congr 1
      unfold Addr.add
      by_cases h4 : i * c.n = 0 <;> by_cases h5 : j = 0 <;> simp [h4, h5, Nat.add_assoc]
    have spot : 0 < cap → a.spot = none := by
      intro hcap
      have one : ∀ (z : DataW H × List MemPlace), (w.cells? 0 (a.add (0 * P.cellsOf e)) (P.cellsOf e)).bind (DataW.trod enc P w 0 (fun _ => true) true n e) = some z → a.spot = none := by
        intro z hz
        obtain ⟨cs', h2, h3⟩ := Option.bind_eq_some_iff.1 hz
        obtain ⟨_, hcl, hcc⟩ := World.cells?_some h2
        rw [he.1] at hcl hcc
        have h5 := hcc 0 h0
        rw [List.getElem?_eq_getElem (by omega)] at h5
        have := World.cell?_spot h5
        simpa [Addr.add] using this
      by_cases hz : 0 < len
      · have h1 := hel 0 hz
        rw [List.getElem?_eq_getElem (by omega)] at h1
        exact one _ h1
      · obtain ⟨r1, r2⟩ := hsp rfl
        have h1 := r2 0 (by omega)
        rw [List.getElem?_eq_getElem (by omega), show len + 0 = 0 by omega] at h1
        exact one _ h1
    classical
    by_cases hz : len = 0
    · subst hz
      refine ⟨[], Lies.one (.sl [] (some a) 0 cap 0 (fun _ _ => undef) rfl (Nat.zero_le _) hm (fun r hr => by cases hr) (fun i j hi => by omega) (fun h => by cases h) (fun hc ad had => ?_) (fun i j r x hr => by simp at hr)), ⟨Nat.zero_le _, trivial⟩, trivial⟩
      cases had; exact spot hc
    · have hne : Nonempty α := let ⟨y, _⟩ := key 0 (by omega); ⟨y⟩
      let f : Nat → α := fun i => if hi : i < len then Classical.choose (key i hi) else Classical.choice hne
      have hsp0 := spot (by omega)
      obtain ⟨b, off, sp⟩ := a
      simp only at hsp0
      subst hsp0
      let V' : Nat → Nat → Value := fun i j => if hi : i < len then (Classical.choose (Classical.choose_spec (key i hi))).getD j undef else undef
      have hf : ∀ i (hi : i < len), ∃ cs', Lies w (c.enc (f i)) cs' ∧ X.okL (c.enc (f i)) ∧ (∀ j, j < c.n → w.cell? ⟨b, off + i * c.n + j, none⟩ = cs'[j]?) ∧ ∀ j, V' i j = cs'.getD j undef := by
        intro i hi
        obtain ⟨h1, h2, h3⟩ := Classical.choose_spec (Classical.choose_spec (key i hi))
        refine ⟨_, by simpa only [f, dif_pos hi] using h1, by simpa only [f, dif_pos hi] using h2, fun j hj => ?_, fun j => by simp only [V', dif_pos hi]⟩
        rw [← h3 j hj]
        congr 1
        rw [add_off]
        simp only [Nat.add_assoc]
      have hgl : ((List.range len).map f).length = len := by simp
      have hgi : ∀ (i : Nat) (r : List X), (rows c ((List.range len).map f))[i]? = some r → i < len ∧ r = c.enc (f i) := by
        intro i r hr
        simp only [rows, List.getElem?_map, Option.map_eq_some_iff] at hr
        obtain ⟨y, ⟨k, hk, rfl⟩, rfl⟩ := hr
        have hk1 := (List.getElem?_eq_some_iff.1 hk).1
        simp only [List.length_range] at hk1
        rw [List.getElem?_range hk1] at hk
        cases hk
        exact ⟨hk1, rfl⟩
      refine ⟨(List.range len).map f, Lies.one (.sl _ (some ⟨b, off, none⟩) len cap c.n V' (by rw [rows_len, hgl]) hl hm (fun r hr => ?_) (fun i j hi hj => ?_) (fun h => by cases h) (fun _ ad had => by cases had; rfl) (fun i j r x hr hx => ?_)), ⟨by rw [rows_len, hgl]; omega, X.okR_iff.2 (fun r hr => ?_)⟩, trivial⟩
      · obtain ⟨y, _, rfl⟩ := List.mem_map.1 hr
        exact hG.len _
      · obtain ⟨cs', h1, h2, h3, h4⟩ := hf i hi
        have hlc : cs'.length = c.n := by rw [h1.1, hG.len]
        have h5 := h3 j hj
        rw [List.getElem?_eq_getElem (by omega)] at h5
        refine ⟨b, off, rfl, World.block_lt_of_cell? _ _ h5, ?_⟩
        rw [h5, h4]; simp [List.getD, hlc, hj]
      · obtain ⟨hi, rfl⟩ := hgi i r hr
        obtain ⟨cs', h1, h2, h3, h4⟩ := hf i hi
        have hj := (List.getElem?_eq_some_iff.1 hx).1
        have hlc : cs'.length = c.n := by rw [h1.1, hG.len]
        rw [hG.len] at hj
        rw [h4]
        have h5 : cs'[j]? = some (cs'[j]'(by omega)) := List.getElem?_eq_getElem _
        simp only [List.getD, h5, Option.getD_some]
        exact h1.2 j x _ hx h5
      · obtain ⟨i, hi⟩ := List.mem_iff_getElem?.1 hr
        obtain ⟨hi2, rfl⟩ := hgi i r hi
        obtain ⟨cs', h1, h2, h3, h4⟩ := hf i hi2
        exact h2

/-- Contracts that take nil slices as empty ones. -/
def viaNN (g : List D → Option (Bool × D)) (args : List D) : Option (Bool × D) := g (args.map D.nn)
theorem viaNN_ok {f : FuncId} {g : List D → Option (Bool × D)} (h : ∀ args r, g args = some (true, r) → PCalls P f args r) : ∀ args r, viaNN g args = some (true, r) → PCalls P f args r := fun _ r hg => PCalls.nn (h _ r hg)
def viaNNT (g : List D → List Ob → Option (Bool × D × List Ob)) (args : List D) (os : List Ob) : Option (Bool × D × List Ob) := g (args.map D.nn) (os.map (Ob.mp D.nn))
theorem viaNNT_ok {f : FuncId} {g : List D → List Ob → Option (Bool × D × List Ob)} (h : ∀ args os r os', g args os = some (true, r, os') → MCalls P f args os r os') : ∀ args os r os', viaNNT g args os = some (true, r, os') → MCalls P f args os r os' := fun _ _ r os' hg => MCalls.nn (h _ _ r os' hg)
end
/-! ### The program's data -/
abbrev rAttr := rCat rStr (rCat (rSl rStr) rEnd)
abbrev rEntry := rCat rStr (rCat (rSl rAttr) rEnd)
abbrev rChange := rCat (rInt .i64) (rCat (rInt .i64) (rCat rEntry (rCat rEntry (rCat rStr rEnd))))
abbrev TAttr := List UInt8 × (List (List UInt8) × Unit)
abbrev TEntry := List UInt8 × (List TAttr × Unit)
abbrev TChange := Int × (Int × (TEntry × (TEntry × (List UInt8 × Unit))))
instance decAttr : DecidableEq TAttr := fun a b => decidable_of_iff (a.1 = b.1 ∧ a.2.1 = b.2.1) ⟨fun h => Prod.ext h.1 (Prod.ext h.2 rfl), fun h => h ▸ ⟨rfl, rfl⟩⟩
instance decEntry : DecidableEq TEntry := fun a b => decidable_of_iff (a.1 = b.1 ∧ a.2.1 = b.2.1) ⟨fun h => Prod.ext h.1 (Prod.ext h.2 rfl), fun h => h ▸ ⟨rfl, rfl⟩⟩
instance decChange : DecidableEq TChange := fun a b => decidable_of_iff ((a.1 = b.1 ∧ a.2.1 = b.2.1) ∧ (a.2.2.1 = b.2.2.1 ∧ a.2.2.2.1 = b.2.2.2.1) ∧ a.2.2.2.2.1 = b.2.2.2.2.1)
  ⟨fun h => Prod.ext h.1.1 (Prod.ext h.1.2 (Prod.ext h.2.1.1 (Prod.ext h.2.1.2 (Prod.ext h.2.2 rfl)))), fun h => h ▸ ⟨⟨rfl, rfl⟩, ⟨rfl, rfl⟩, rfl⟩⟩
theorem good_rAttr : rAttr.Good := good_rCat good_rStr (good_rCat (good_rSl good_rStr) good_rEnd)
theorem good_rEntry : rEntry.Good := good_rCat good_rStr (good_rCat (good_rSl good_rAttr) good_rEnd)
theorem good_rChange : rChange.Good := good_rCat (good_rInt _) (good_rCat (good_rInt _) (good_rCat good_rEntry (good_rCat good_rEntry (good_rCat good_rStr good_rEnd))))
theorem un_rStr (l : List (List UInt8)) : unrows rStr (rows rStr l) = some l := unrows_rows good_rStr l
theorem un_rInt (k : IntKind) (l : List Int) : unrows (rInt k) (rows (rInt k) l) = some l := unrows_rows (good_rInt k) l
theorem un_rAttr (l) : unrows rAttr (rows rAttr l) = some l := unrows_rows good_rAttr l
theorem un_rEntry (l) : unrows rEntry (rows rEntry l) = some l := unrows_rows good_rEntry l
theorem un_rChange (l) : unrows rChange (rows rChange l) = some l := unrows_rows good_rChange l
theorem all_rStr (l) : ((rows rStr l).all fun r => decide (r.length = 1)) = true := rows_all good_rStr l 1 rfl
theorem all_rInt (k) (l) : ((rows (rInt k) l).all fun r => decide (r.length = 1)) = true := rows_all (good_rInt k) l 1 rfl
theorem all_rAttr (l) : ((rows rAttr l).all fun r => decide (r.length = 2)) = true := rows_all good_rAttr l 2 rfl
theorem all_rEntry (l) : ((rows rEntry l).all fun r => decide (r.length = 2)) = true := rows_all good_rEntry l 2 rfl
theorem all_rChange (l) : ((rows rChange l).all fun r => decide (r.length = 7)) = true := rows_all good_rChange l 7 rfl
end Go.Ab
