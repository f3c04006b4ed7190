/- Statements whose order is open: one walk of the text's order serves every order (1): what operations look at. -/
import Derived.Test.YtogmbfaijmhamaaAb15
namespace Go.Ab
open Go.RowKit Go.Bo

def IO.reads : IO → List Nat
  | .t n => [n]
  | .c _ => []
def oReads : Option IO → List Nat
  | some x => x.reads
  | none => []
def IE.reads : IE → List Nat
  | .mv x | .nck x | .un _ x | .cvi _ x | .b2s x | .s2b _ x | .fld _ _ _ x | .fad _ x | .ld _ _ x | .box x | .ext x _ | .len _ x => x.reads
  | .pick c a b => c.reads ++ (a.reads ++ b.reads)
  | .bin _ x y | .eq _ _ x y | .iad _ x y | .iada _ _ x y | .idx x y | .idxa _ _ _ x y | .sto _ x y | .mks _ _ _ _ x y | .app _ _ _ x y | .cpy _ x y | .mnx _ x y => x.reads ++ y.reads
  | .build _ ps => ps.flatMap fun p => p.2.2.reads
  | .bsl _ _ _ xs => xs.flatMap IO.reads
  | .slc _ x lo hi mx => x.reads ++ (oReads lo ++ (oReads hi ++ oReads mx))
  | .call f xs => f.reads ++ xs.flatMap IO.reads
  | .mkf _ xs => xs.flatMap IO.reads
def IOp.reads (o : IOp) : List Nat := o.e.reads ++ match o.g with | some (s, _) => [s] | none => []

theorem opv_congr {φ φ' : List (Nat × D)} {x : IO} (h : ∀ t ∈ x.reads, Go.Ab.get φ t = Go.Ab.get φ' t) : opv φ x = opv φ' x := by
  cases x with
  | t n => exact h n (by simp [IO.reads])
  | c d => rfl
theorem opvs_congr {φ φ' : List (Nat × D)} {xs : List IO} (h : ∀ t ∈ xs.flatMap IO.reads, Go.Ab.get φ t = Go.Ab.get φ' t) : xs.map (opv φ) = xs.map (opv φ') :=
  List.map_congr_left fun x hx => opv_congr fun t ht => h t (List.mem_flatMap.2 ⟨x, hx, ht⟩)
theorem buildD_congr {φ φ' : List (Nat × D)} : ∀ {ps : List (Nat × Nat × IO)} {acc : List D}, (∀ t ∈ ps.flatMap (fun p => p.2.2.reads), Go.Ab.get φ t = Go.Ab.get φ' t) → buildD φ ps acc = buildD φ' ps acc
  | [], acc, h => rfl
  | (off, sz, x) :: ps, acc, h => by
    have hx : opv φ x = opv φ' x := opv_congr fun t ht => h t (by simp [ht])
    have ih : ∀ acc, buildD φ ps acc = buildD φ' ps acc := fun acc => buildD_congr fun t ht => h t (by simp only [List.flatMap_cons, List.mem_append]; exact .inr ht)
    simp only [buildD, hx, ih]

theorem aval_congr (S : Tab) {φ φ' : List (Nat × D)} (os : List Ob) {e : IE} (h : ∀ t ∈ e.reads, Go.Ab.get φ t = Go.Ab.get φ' t) : aval S φ os e = aval S φ' os e := by
  cases e with
  | mv x => simp only [aval, opv_congr (x := x) h]
  | nck x => simp only [aval, opv_congr (x := x) h]
  | pick p x y =>
    simp only [aval, opv_congr (x := p) (fun t ht => h t (by simp [IE.reads, ht])), opv_congr (x := x) (fun t ht => h t (by simp [IE.reads, ht])), opv_congr (x := y) (fun t ht => h t (by simp [IE.reads, ht]))]
  | bin op x y => simp only [aval, opv_congr (x := x) (fun t ht => h t (by simp [IE.reads, ht])), opv_congr (x := y) (fun t ht => h t (by simp [IE.reads, ht]))]
  | eq k g x y => simp only [aval, opv_congr (x := x) (fun t ht => h t (by simp [IE.reads, ht])), opv_congr (x := y) (fun t ht => h t (by simp [IE.reads, ht]))]
  | un op x => simp only [aval, opv_congr (x := x) h]
  | cvi k x => simp only [aval, opv_congr (x := x) h]
  | b2s x => simp only [aval, opv_congr (x := x) h]
  | s2b e x => simp only [aval]
  | fld o n ag x => simp only [aval, opv_congr (x := x) h]
  | fad o x => simp only [aval, opv_congr (x := x) h]
  | iad sz x y => simp only [aval, opv_congr (x := x) (fun t ht => h t (by simp [IE.reads, ht])), opv_congr (x := y) (fun t ht => h t (by simp [IE.reads, ht]))]
  | iada sz l x y => simp only [aval, opv_congr (x := x) (fun t ht => h t (by simp [IE.reads, ht])), opv_congr (x := y) (fun t ht => h t (by simp [IE.reads, ht]))]
  | idx x y => simp only [aval, opv_congr (x := x) (fun t ht => h t (by simp [IE.reads, ht])), opv_congr (x := y) (fun t ht => h t (by simp [IE.reads, ht]))]
  | idxa sz l ag x y => simp only [aval, opv_congr (x := x) (fun t ht => h t (by simp [IE.reads, ht])), opv_congr (x := y) (fun t ht => h t (by simp [IE.reads, ht]))]
  | ld n ag x => simp only [aval, opv_congr (x := x) h]
  | sto n x y => simp only [aval]
  | box x => simp only [aval]
  | build zs ps => simp only [aval, buildD_congr (ps := ps) h]
  | bsl e sz n xs => simp only [aval]
  | mks e sz b z x y => simp only [aval]
  | slc sz x lo hi mx =>
    have hx := opv_congr (x := x) (fun t ht => h t (by simp [IE.reads, ht]))
    have hlo : lo.map (opv φ) = lo.map (opv φ') := by
      cases lo with
      | none => rfl
      | some y => simp only [Option.map_some]; rw [opv_congr (x := y) (fun t ht => h t (by simp [IE.reads, oReads, ht]))]
    have hhi : hi.map (opv φ) = hi.map (opv φ') := by
      cases hi with
      | none => rfl
      | some y => simp only [Option.map_some]; rw [opv_congr (x := y) (fun t ht => h t (by simp [IE.reads, oReads, ht]))]
    have hlo' : lo.map (fun l => opv φ l) = lo.map (fun l => opv φ' l) := hlo
    have hhi' : hi.map (fun l => opv φ l) = hi.map (fun l => opv φ' l) := hhi
    have hmx : mx.map (fun l => opv φ l) = mx.map (fun l => opv φ' l) := by
      cases mx with
      | none => rfl
      | some y => simp only [Option.map_some]; rw [opv_congr (x := y) (fun t ht => h t (by simp [IE.reads, oReads, ht]))]
    cases mx with
    | none => simp only [aval, slcStr, slcSl, hx, hlo', hhi', hmx]
    | some y => simp only [aval, slcStr, slcSl, hx, hlo', hhi', hmx]
  | ext x i => simp only [aval, opv_congr (x := x) h]
  | len st x => simp only [aval, opv_congr (x := x) h]
  | app e sz b x y => simp only [aval]
  | cpy sz x y => simp only [aval]
  | mnx mx x y => simp only [aval, opv_congr (x := x) (fun t ht => h t (by simp [IE.reads, ht])), opv_congr (x := y) (fun t ht => h t (by simp [IE.reads, ht]))]
  | call f xs => simp only [aval, opv_congr (x := f) (fun t ht => h t (by simp [IE.reads, ht])), opvs_congr (xs := xs) (fun t ht => h t (by simp only [IE.reads, List.mem_append]; exact .inr ht))]
  | mkf f xs => simp only [aval, opvs_congr (xs := xs) h]

def avalR (S : Tabs) (φ : List (Nat × D)) (os : List Ob) (e : IE) : Option (Bool × D) :=
  match aval S.q φ os e with
  | some r => some r
  | none => callR S.r φ os e
theorem avalR_congr (S : Tabs) {φ φ' : List (Nat × D)} (os : List Ob) {e : IE} (h : ∀ t ∈ e.reads, Go.Ab.get φ t = Go.Ab.get φ' t) : avalR S φ os e = avalR S φ' os e := by
  unfold avalR
  rw [aval_congr S.q os h]
  have : callR S.r φ os e = callR S.r φ' os e := by
    cases e with
    | call f xs =>
      have h1 := opv_congr (x := f) (fun t ht => h t (by simp [IE.reads, ht]))
      have h2 : ∀ y ∈ xs, opv φ y = opv φ' y := fun y hy => opv_congr (fun t ht => h t (by simp only [IE.reads, List.mem_append]; exact .inr (List.mem_flatMap.2 ⟨y, hy, ht⟩)))
      have h3 : (xs.map fun y => (opv φ y).val) = xs.map fun y => (opv φ' y).val := List.map_congr_left (fun y hy => by rw [h2 y hy])
      have h4 : (xs.all fun y => (opv φ y).cond) = xs.all fun y => (opv φ' y).cond := by
        have : ∀ l : List IO, (∀ y ∈ l, opv φ y = opv φ' y) → (l.all fun y => (opv φ y).cond) = l.all fun y => (opv φ' y).cond := by
          intro l
          induction l with
          | nil => intro _; rfl
          | cons y l ih => intro hl; simp only [List.all_cons, hl y (by simp), ih (fun z hz => hl z (by simp [hz]))]
        exact this xs h2
      simp only [callR, h1, h3, h4]
    | _ => rfl
  rw [this]
/-- The slot's value, of an operation that makes nothing. -/
def evQ (S : Tabs) (φ : List (Nat × D)) (os : List Ob) (o : IOp) : Option (Bool × D) :=
  match o.g with
  | none => avalR S φ os o.e
  | some (s, want) => match (Go.Ab.get φ s).val with
    | .x (.bool b) => match avalR S φ os o.e with
      | some r => some (!((Go.Ab.get φ s).cond && (b == want)) || r.1, .opt ((Go.Ab.get φ s).cond && (b == want)) r.2)
      | none => if (Go.Ab.get φ s).cond && (b == want) then none else some (true, .opt false .und)
    | _ => if (Go.Ab.get φ s).cond then none else some (true, .opt false .und)

def D.toX? : D → Option X
  | .x y => some y
  | _ => none
def partsX (φ : List (Nat × D)) (sz : Nat) : List IO → Option (Bool × List (List X))
  | [] => some (true, [])
  | x :: xs => (opv φ x).val.cells?.bind fun cs => (cs.mapM D.toX?).bind fun r => if r.length = sz then
      (partsX φ sz xs).map fun q => ((opv φ x).cond && q.1, r :: q.2) else none

/-- An operation that makes an object: its slot's value, the object. -/
def evC (φ : List (Nat × D)) (id : Nat) (o : IOp) : Option (Bool × D × Ob) :=
  match o.g with
  | some _ => none
  | none => match o.e with
    | .box x => (opv φ x).val.cells?.map fun cs => ((opv φ x).cond, .ptr id 0, .box cs)
    | .bsl e sz n parts => if n = parts.length then (partsX φ sz parts).map fun q => (q.1, .ref id n 0 n, .rows false e sz q.2) else none
    | _ => none

theorem evQ_congr (S : Tabs) {φ φ' : List (Nat × D)} (os : List Ob) {o : IOp} (h : ∀ t ∈ o.reads, Go.Ab.get φ t = Go.Ab.get φ' t) : evQ S φ os o = evQ S φ' os o := by
  obtain ⟨dst, e, g⟩ := o
  cases g with
  | none => exact avalR_congr S os (fun t ht => h t (by simp [IOp.reads, ht]))
  | some p =>
    obtain ⟨s, want⟩ := p
    have hs : Go.Ab.get φ s = Go.Ab.get φ' s := h s (by simp [IOp.reads])
    have he := avalR_congr S os (e := e) (φ := φ) (φ' := φ') (fun t ht => h t (by simp [IOp.reads, ht]))
    simp only [evQ, hs, he]
theorem partsX_congr {φ φ' : List (Nat × D)} {sz : Nat} : ∀ {xs : List IO}, (∀ t ∈ xs.flatMap IO.reads, Go.Ab.get φ t = Go.Ab.get φ' t) → partsX φ sz xs = partsX φ' sz xs
  | [], h => rfl
  | x :: xs, h => by
    have hx : opv φ x = opv φ' x := opv_congr fun t ht => h t (by simp [ht])
    have ih : partsX φ sz xs = partsX φ' sz xs := partsX_congr fun t ht => h t (by simp only [List.flatMap_cons, List.mem_append]; exact .inr ht)
    simp only [partsX, hx, ih]
theorem evC_congr {φ φ' : List (Nat × D)} (id : Nat) {o : IOp} (h : ∀ t ∈ o.reads, Go.Ab.get φ t = Go.Ab.get φ' t) : evC φ id o = evC φ' id o := by
  obtain ⟨dst, e, g⟩ := o
  cases g with
  | some p => rfl
  | none =>
    cases e with
    | box x => simp only [evC, opv_congr (x := x) (fun t ht => h t (by simp [IOp.reads, IE.reads, ht]))]
    | bsl e sz n xs => simp only [evC, partsX_congr (xs := xs) (fun t ht => h t (by simp only [IOp.reads, IE.reads, List.mem_append]; exact .inl ht))]
    | _ => rfl

/-- What is read of some objects is read when more stand behind. -/
theorem at_pre {os Y : List Ob} {i : Nat} {o : Ob} (h : os[i]? = some o) : (os ++ Y)[i]? = some o := by
  rw [List.getElem?_append_left (List.getElem?_eq_some_iff.1 h).1]; exact h
theorem rowsOf_pre {os Y : List Ob} {d : D} {r : List (List X)} (h : rowsOf os d = some r) : rowsOf (os ++ Y) d = some r := by
  cases d with
  | ref id ext off len =>
    simp only [rowsOf] at h ⊢
    cases ho : os[id]? with
    | none => simp [ho] at h
    | some o => rw [ho] at h; rw [at_pre ho]; exact h
  | x y => cases y <;> exact h
  | _ => exact h
theorem okRef_pre {os Y : List Ob} {d : D} (h : okRef os d = true) : okRef (os ++ Y) d = true := by
  cases d with
  | ref id ext off len =>
    simp only [okRef] at h ⊢
    cases ho : os[id]? with
    | none => simp [ho] at h
    | some o => rw [ho] at h; rw [at_pre ho]; exact h
  | _ => rfl
theorem eqR_pre {os Y : List Ob} {k : EqK} {x y : D} {b : Bool} (h : eqR os k x y = some (true, b)) : eqR (os ++ Y) k x y = some (true, b) := by
  unfold eqR at h ⊢
  split at h
  · exact h
  · split at h
    · obtain ⟨b', h1, h2⟩ := Option.map_eq_some_iff.1 h
      simp at h2
      obtain ⟨rfl, rfl⟩ := h2
      refine Option.map_eq_some_iff.2 ⟨true, ?_, rfl⟩
      unfold nzD at h1 ⊢
      split at h1
      · simp only [Option.some.injEq, Bool.and_eq_true] at h1 ⊢
        exact ⟨okRef_pre h1.1, h1.2⟩
      · exact h1
      · exact h1
      · exact h1
      · cases h1
    · cases h
theorem viewX_pre {os Y : List Ob} {d : D} {x : X} (h : viewX os d = some x) : viewX (os ++ Y) d = some x := by
  cases d with
  | x y => exact h
  | _ =>
    simp only [viewX, Option.map_eq_some_iff] at h ⊢
    obtain ⟨r, h1, h2⟩ := h
    exact ⟨r, rowsOf_pre h1, h2⟩
theorem mapM_pre {α β : Type} {f g : α → Option β} (hfg : ∀ x y, f x = some y → g x = some y) : ∀ {l : List α} {m : List β}, l.mapM f = some m → l.mapM g = some m
  | [], m, h => by simpa using h
  | x :: l, m, h => by
    simp only [List.mapM_cons, Option.bind_eq_bind, Option.bind_eq_some_iff, Option.pure_def] at h ⊢
    obtain ⟨y, hy, ys, hys, h⟩ := h
    exact ⟨y, hfg _ _ hy, ys, mapM_pre hfg hys, h⟩
theorem viewD_pre {os Y : List Ob} {d d' : D} (h : viewD os d = some d') : viewD (os ++ Y) d = some d' := by
  cases d with
  | x y => exact h
  | agg ds =>
    simp only [viewD, Option.map_eq_some_iff] at h ⊢
    obtain ⟨xs, h1, h2⟩ := h
    exact ⟨xs, mapM_pre (fun _ _ => viewX_pre) h1, h2⟩
  | fn f caps =>
    cases caps with
    | nil => exact h
    | cons a l =>
      simp only [viewD, Option.map_eq_some_iff] at h ⊢
      obtain ⟨x, h1, h2⟩ := h
      exact ⟨x, viewX_pre h1, h2⟩
  | _ =>
    simp only [viewD, Option.map_eq_some_iff] at h ⊢
    obtain ⟨x, h1, h2⟩ := h
    exact ⟨x, viewX_pre h1, h2⟩

theorem aval_pre {S : Tab} {φ : List (Nat × D)} {os Y : List Ob} {e : IE} {d : D} (h : aval S φ os e = some (true, d)) : aval S φ (os ++ Y) e = some (true, d) := by
  cases e with
  | b2s x =>
    simp only [aval, Option.map_eq_some_iff] at h ⊢
    obtain ⟨r, h1, h2⟩ := h
    exact ⟨r, rowsOf_pre h1, h2⟩
  | iad sz x i =>
    simp only [aval] at h ⊢
    cases hi : intOf? (opv φ i).val with
    | none => simp [hi] at h
    | some k =>
      simp only [hi] at h ⊢
      generalize hv : (opv φ x).val = v at h
      cases v with
      | ref id ext off len =>
        simp only at h ⊢
        cases ho : os[id]? with
        | none => simp [ho] at h
        | some o => rw [ho] at h; rw [at_pre ho]; exact h
      | x y => cases y <;> exact h
      | _ => exact h
  | ld n ag x =>
    simp only [aval] at h ⊢
    generalize hv : (opv φ x).val = v at h
    cases v with
    | ptr id o =>
      simp only at h ⊢
      cases ho : os[id]? with
      | none => simp [ho] at h
      | some ob => rw [ho] at h; rw [at_pre ho]; exact h
    | eptr id ext i o =>
      simp only at h ⊢
      cases ho : os[id]? with
      | none => simp [ho] at h
      | some ob => rw [ho] at h; rw [at_pre ho]; exact h
    | _ => exact h
  | slc sz x lo hi mx =>
    simp only [aval] at h ⊢
    split
    · rename_i h0; rw [if_pos h0] at h; exact h
    · rename_i h0; rw [if_neg h0] at h
      simp only [slcSl] at h ⊢
      generalize hv : (opv φ x).val = v at h
      cases v with
      | ref id ext off len =>
        simp only at h ⊢
        cases ho : os[id]? with
        | none => simp [ho] at h
        | some ob => rw [ho] at h; rw [at_pre ho]; exact h
      | x y => cases y <;> exact h
      | _ => exact h
  | eq k neg x y =>
    simp only [aval, Option.map_eq_some_iff] at h ⊢
    obtain ⟨⟨ok, r⟩, h1, h2⟩ := h
    simp only [Prod.mk.injEq, Bool.and_eq_true] at h2
    obtain ⟨⟨h3, rfl⟩, h4⟩ := h2
    exact ⟨_, eqR_pre h1, by simp [h3, ← h4]⟩
  | len st x =>
    simp only [aval, Option.map_eq_some_iff] at h ⊢
    obtain ⟨r, h1, h2⟩ := h
    refine ⟨r, h1, ?_⟩
    simp only [Prod.mk.injEq, Bool.and_eq_true] at h2 ⊢
    exact ⟨⟨h2.1.1, okRef_pre h2.1.2⟩, h2.2⟩
  | call f xs =>
    simp only [aval] at h ⊢
    generalize hv : (opv φ f).val = v at h
    cases v with
    | fn g caps =>
      simp only [Option.bind_eq_some_iff] at h ⊢
      obtain ⟨as, h1, cs, h2, r, h3, h4⟩ := h
      exact ⟨as, mapM_pre (fun _ _ => viewD_pre) h1, cs, mapM_pre (fun _ _ => viewD_pre) h2, r, h3, h4⟩
    | _ => exact h
  | _ => exact h

/-- The slot's value: the operation goes through, whatever objects stand behind. -/
theorem quietR_wp {P : Program} {S : Tabs} (hS : SsOk P S) {c : Ctx} {E : Env} {os Y : List Ob} {n : Nat} {φ : List (Nat × D)} {a : Act} (R : Rel c E (os ++ Y)) (hf : Fr n E (os ++ Y) φ a) {o : Oper} {e : IE} (hc : compOp P o.op = some e) {d : D} (h : avalR S φ os e = some (true, d)) {K : Act → World → Prop} {Q : Exit → Act → World → Prop}
    (hK : ∀ v E', Rel c E' (os ++ Y) → Evo E (os ++ Y) E' (os ++ Y) → V E' (os ++ Y) d v → K (a.put o.dst v) E'.w) : o.wp P a E.w K Q := by
  unfold avalR at h
  split at h
  · rename_i r hr
    cases h
    exact quiet_wp hS.q R hf hc (aval_pre hr) hK
  · exact call_read hS.r R hf hc h hK
theorem evQ_ok {P : Program} {S : Tabs} (hS : SsOk P S) {c : Ctx} {E : Env} {os Y : List Ob} {n : Nat} {φ : List (Nat × D)} {a : Act} (R : Rel c E (os ++ Y)) (hf : Fr n E (os ++ Y) φ a) {ops : Array Oper} {o : Oper} {io : IOp} (hc : compOper P n ops o = some io) {d : D} (h : evQ S φ os io = some (true, d)) {K : Act → World → Prop} {Q : Exit → Act → World → Prop}
    (hK : ∀ v E', Rel c E' (os ++ Y) → Evo E (os ++ Y) E' (os ++ Y) → V E' (os ++ Y) d v → K (a.put o.dst v) E'.w) :
    if Region.wanted o (yielded ops a.tmps) then o.wp P a E.w K Q else K (a.put o.dst undef) E.w := by
  simp only [compOper, Option.bind_eq_some_iff] at hc
  obtain ⟨e, he, hc⟩ := hc
  split at hc
  · split at hc
    · rename_i hg
      cases hc
      simp only [evQ] at h
      simp only [Region.wanted, hg, if_true]
      exact quietR_wp hS R hf he h hK
    · rename_i j want hg
      obtain ⟨s, hs, hc⟩ := Option.map_eq_some_iff.1 hc
      cases hc
      simp only [evQ] at h
      have hwd : Region.wanted o (yielded ops a.tmps) = (yielded ops a.tmps j == some want) := by simp [Region.wanted, hg]
      rw [hwd]
      split at h
      · rename_i b hb
        rw [yield_some hs hf hb want]
        split at h
        · rename_i r hr
          obtain ⟨ok, d⟩ := r
          simp only [Option.some.injEq, Prod.mk.injEq] at h
          obtain ⟨h1, rfl⟩ := h
          cases hw : ((Go.Ab.get φ s).cond && (b == want)) with
          | false =>
            rw [hw] at hK
            simp only [Bool.false_eq_true, if_false]
            exact hK undef E R (Evo.refl _ _) (.opt (fun h => by cases h) (fun _ => rfl))
          | true =>
            rw [hw] at hK h1
            simp at h1
            subst h1
            simp only [if_true]
            exact quietR_wp hS R hf he hr (fun v E' R' ev hv => hK v E' R' ev (.opt (fun _ => hv) (fun h => by cases h)))
        · split at h
          · cases h
          · rename_i hw
            simp only [Option.some.injEq, Prod.mk.injEq, true_and] at h
            subst h
            rw [if_neg hw]
            exact hK undef E R (Evo.refl _ _) (.opt (fun h => by cases h) (fun _ => rfl))
      · split at h
        · cases h
        · rename_i hw
          simp only [Option.some.injEq, Prod.mk.injEq, true_and] at h
          subst h
          rw [yield_none hs hf (by simpa using hw) want]
          simp only [Bool.false_eq_true, if_false]
          exact hK undef E R (Evo.refl _ _) (.opt (fun h => by cases h) (fun _ => rfl))
  · cases hc

/-- An object comes to stand where none was. -/
theorem fill_box {c : Ctx} {E : Env} {os : List Ob} (R : Rel c E os) {id : Nat} (hd : os[id]? = some .dead) {cs : List D} (vs : Array Value) (t : Nat) (hl : vs.size = cs.length) (h1 : ∀ u ∈ vs.toList, u.oneCell' = true) (hv : ∀ (j : Nat) (d : D) (u : Value), cs[j]? = some d → vs[j]? = some u → V E os d u) :
    ∃ E', E'.w = E.w.alloc (.cells vs t) ∧ Rel c E' (os.set id (.box cs)) ∧ Evo E os E' (os.set id (.box cs)) ∧ V E' (os.set id (.box cs)) (.ptr id 0) (.pointer (some ⟨E.w.heap.size, 0, none⟩)) := by
  obtain ⟨p, hp, _⟩ := R.at hd
  have hlt := (List.getElem?_eq_some_iff.1 hd).1
  have hk := kept_alloc E.w (.cells vs t)
  obtain ⟨R', ev⟩ := R.set hd hp (E.w.alloc (.cells vs t)) (.box cs) (E.w.heap.size, undef) ⟨hk.os, hk.tape, hk.output, hk.size, fun k hk' _ => hk.block k hk' (fun h => h)⟩ (fun b hb => by cases hb; exact .inr (Nat.le_refl _)) (fun sz rs h => by cases h) (fun ds h => by cases h) (fun ev => by
    refine ⟨vs, t, heap_alloc_new _ _, hl, fun j d v hd hv' => ⟨(hv j d v hd hv').mono ev, h1 v ?_⟩⟩
    rw [← Array.getElem?_toList] at hv'
    exact List.mem_of_getElem? hv')
  refine ⟨_, rfl, R', ev, .ptr (cu := undef) (ds := cs) (by simp [hlt]) ?_⟩
  show (E.ob.set id (E.w.heap.size, undef))[id]? = _
  simp [R.len, hlt]

theorem fill_row {c : Ctx} {E : Env} {os : List Ob} (R : Rel c E os) {id : Nat} (hd : os[id]? = some .dead) {w' : World} (hk : Kept (fun _ => False) E.w w') {fz : Bool} {e sz : Nat} {rs : List (List X)} {cu : Value} {xs : List Value} (hr : Row w' fz e sz rs.length cu xs) (hb : ∀ b, cu.ownBlock = some b → E.w.heap.size ≤ b) (hz : ∀ r ∈ rs, r.length = sz)
    (hv : ∀ (i : Nat) (r : List X) (j : Nat) (x : X) (v : Value), rs[i]? = some r → r[j]? = some x → xs[i * sz + j]? = some v → VX E.w E.st x v) :
    ∃ E', E'.w = w' ∧ Rel c E' (os.set id (.rows fz e sz rs)) ∧ Evo E os E' (os.set id (.rows fz e sz rs)) ∧ V E' (os.set id (.rows fz e sz rs)) (.ref id rs.length 0 rs.length) cu := by
  obtain ⟨p, hp, _⟩ := R.at hd
  have hlt := (List.getElem?_eq_some_iff.1 hd).1
  obtain ⟨R', ev⟩ := R.set hd hp w' (.rows fz e sz rs) (0, cu) ⟨hk.os, hk.tape, hk.output, hk.size, fun k hk' _ => hk.block k hk' (fun h => h)⟩ (fun b hb' => .inr (hb b hb')) (fun sz rs h => by cases h) (fun ds h => by cases h) (fun ev => ⟨xs, hr, hz, fun i r j x v h1 h2 h3 => (hv i r j x v h1 h2 h3).mono ev.st⟩)
  have hob : (E.ob.set id (0, cu))[id]? = some (0, cu) := by simp [R.len, hlt]
  refine ⟨_, rfl, R', ev, .ref ⟨.rows fz e sz rs, sz, rs, by simp [hlt], rfl, ?_⟩ ?_⟩
  · refine ⟨Nat.le_refl _, fun _ => ⟨by omega, 0, ?_⟩⟩
    rcases hr.2 with ⟨h3, h4⟩ | ⟨g, cap, cells, fr, h3, h4, h5, h6, h7⟩
    · subst h3
      exact ⟨none, 0, none, 0, by rw [hob, h4], by rw [h4], by omega, Nat.zero_le _, fun _ => ⟨rfl, rfl⟩, fun _ ad h => (by cases h), fun _ => ⟨h4, rfl⟩, fun ad h => (by cases h)⟩
    · subst h3
      exact ⟨_, cap, _, cap, hob, rfl, h5, h6, fun _ => ⟨rfl, rfl⟩, fun _ ad h => (by cases h; simp), fun h => (by cases h), fun ad h => (by cases h; rfl)⟩
  · rcases hr.2 with ⟨h3, h4⟩ | ⟨g, cap, cells, fr, h3, h4, h5, h6, h7⟩ <;> subst h3 <;> rfl

end Go.Ab
