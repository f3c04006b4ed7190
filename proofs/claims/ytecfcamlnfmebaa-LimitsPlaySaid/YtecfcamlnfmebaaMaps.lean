/- Maps whose keys are texts or numbers, known by a list of their pairs: make, look up, update, delete, len. -/
import Derived.Test.YtecfcamlnfmebaaOwn
import Derived.MapKept
namespace Go.Bo
open Go.RowKit

/-- Keys of one kind, as values. -/
structure KeyKind (d : TypeDesc) {κ : Type} [DecidableEq κ] (mk : κ → Value) : Prop where
  same : ∀ a b, Instr.sameNow d (mk a) (mk b) = some (decide (a = b))
  bits : ∀ a, Instr.sameBits 10000 (mk a) (mk a) = true
  check : ∀ (P : Program) (w : World) (e : Bool) (t : TypeId) (a : κ), P.underlying t = some d → (Instr.checkKey e 10000 t (mk a)).run P w = .ok () w

theorem keyString : KeyKind .string Value.string where
  same a b := by
    have h : (a == b) = decide (a = b) := by rw [Bool.eq_iff_iff, MapKept.bytes_beq]; simp
    simp [Instr.sameNow, h]
  bits a := by
    have h : (a == a) = true := (MapKept.bytes_beq a a).2 rfl
    rw [Instr.sameBits]; exact h
  check P w e t a h := by unfold Instr.checkKey; simp [run_underlying h]

theorem keyInt (k : IntKind) : KeyKind (.int k) (Value.int k) where
  same a b := by
    have h : (a == b) = decide (a = b) := by rw [Bool.eq_iff_iff]; simp
    simp [Instr.sameNow, h]
  bits a := by rw [Instr.sameBits]; simp
  check P w e t a h := by unfold Instr.checkKey; simp [run_underlying h]

section
variable {κ : Type} [DecidableEq κ] {mk : κ → Value} {d : TypeDesc}

/-- Block r is a map of these pairs, no key twice. -/
def MapK (mk : κ → Value) (w : World) (r : Nat) (l : List (κ × Value)) : Prop :=
  ∃ es clk, w.heap[r]? = some (.map es clk) ∧ es.toList.map (fun e => (e.key, e.val)) = l.map (fun p => (mk p.1, p.2)) ∧ (l.map (·.1)).Nodup

def mlook {β : Type} (l : List (κ × β)) (k : κ) : Option β := (l.find? fun p => decide (k = p.1)).map (·.2)
def mset {β : Type} (l : List (κ × β)) (k : κ) (v : β) : List (κ × β) :=
  match l with
  | [] => [(k, v)]
  | p :: t => if k = p.1 then (k, v) :: t else p :: mset t k v
def mdel {β : Type} (l : List (κ × β)) (k : κ) : List (κ × β) :=
  match l with
  | [] => []
  | p :: t => if k = p.1 then t else p :: mdel t k

theorem findNow_look (K : KeyKind d mk) (k : κ) : ∀ (l : List (κ × Value)) (es : List MapEntry) (i : Nat), es.map (fun e => (e.key, e.val)) = l.map (fun p => (mk p.1, p.2)) →
    (∃ j v, Instr.findNow d (mk k) es i = some (some (i + j, v)) ∧ mlook l k = some v ∧ j < es.length ∧ (∃ e, es[j]? = some e ∧ e.key = mk k) ∧
      (∀ v', (es.modify j fun e => { e with key := mk k, val := v' }).map (fun e => (e.key, e.val)) = (mset l k v').map (fun p => (mk p.1, p.2))) ∧
      (es.eraseIdx j).map (fun e => (e.key, e.val)) = (mdel l k).map (fun p => (mk p.1, p.2))) ∨
    (Instr.findNow d (mk k) es i = some none ∧ mlook l k = none ∧ (∀ v', mset l k v' = l ++ [(k, v')]) ∧ mdel l k = l) := by
  intro l
  induction l with
  | nil =>
    intro es i h
    have : es = [] := by simpa using h
    subst this
    exact .inr ⟨rfl, rfl, fun _ => rfl, rfl⟩
  | cons p t ih =>
    intro es i h
    cases es with
    | nil => simp at h
    | cons e es =>
      simp only [List.map_cons, List.cons.injEq, Prod.mk.injEq] at h
      obtain ⟨⟨hk, hv⟩, ht⟩ := h
      by_cases he : k = p.1
      · left
        refine ⟨0, e.val, ?_, ?_, by simp, ⟨e, rfl, by rw [hk, he]⟩, ?_, ?_⟩
        · simp [Instr.findNow, hk, K.same, he]
        · simp [mlook, he, hv]
        · intro v'; simp [mset, he, ht]
        · simp [mdel, he, ht]
      · have hs : Instr.sameNow d (mk k) e.key = some false := by rw [hk, K.same]; simp [he]
        rcases ih es (i + 1) ht with ⟨j, v, h1, h2, h3, ⟨e', h4, h4'⟩, h5, h6⟩ | ⟨h1, h2, h3, h4⟩
        · left
          refine ⟨j + 1, v, ?_, ?_, by simp; omega, ⟨e', by simpa using h4, h4'⟩, ?_, ?_⟩
          · simp only [Instr.findNow, hs, h1]; congr 3; omega
          · simp [mlook, he]; simpa [mlook] using h2
          · intro v'; simp [mset, he, hk, hv, h5 v']
          · simp [mdel, he, hk, hv, h6]
        · right
          refine ⟨?_, ?_, ?_, ?_⟩
          · simp only [Instr.findNow, hs, h1]
          · simp [mlook, he]; simpa [mlook] using h2
          · intro v'; simp [mset, he, h3 v']
          · simp [mdel, he, h4]

theorem mset_keys {β : Type} (l : List (κ × β)) (k : κ) (v : β) : ∀ x, x ∈ (mset l k v).map (·.1) ↔ x = k ∨ x ∈ l.map (·.1) := by
  intro x
  induction l with
  | nil => simp [mset]
  | cons p t ih =>
    unfold mset
    split
    · rename_i h; simp [h]
    · simp only [List.map_cons, List.mem_cons, ih]; grind
theorem mset_nodup {β : Type} (l : List (κ × β)) (k : κ) (v : β) (h : (l.map (·.1)).Nodup) : ((mset l k v).map (·.1)).Nodup := by
  induction l with
  | nil => simp [mset]
  | cons p t ih =>
    simp only [List.map_cons, List.nodup_cons] at h
    unfold mset
    split
    · rename_i e; simp only [List.map_cons, List.nodup_cons]; rw [e]; exact h
    · rename_i e
      simp only [List.map_cons, List.nodup_cons]
      refine ⟨fun hm => ?_, ih h.2⟩
      rcases (mset_keys t k v p.1).1 hm with e' | e'
      · exact e e'.symm
      · exact h.1 e'
theorem mdel_keys {β : Type} (l : List (κ × β)) (k : κ) : ∀ x, x ∈ (mdel l k).map (·.1) → x ∈ l.map (·.1) := by
  intro x
  induction l with
  | nil => simp [mdel]
  | cons p t ih =>
    unfold mdel
    split
    · intro h; simp only [List.map_cons, List.mem_cons]; exact .inr h
    · simp only [List.map_cons, List.mem_cons]; rintro (h | h)
      · exact .inl h
      · exact .inr (ih h)
theorem mdel_nodup {β : Type} (l : List (κ × β)) (k : κ) (h : (l.map (·.1)).Nodup) : ((mdel l k).map (·.1)).Nodup := by
  induction l with
  | nil => simp [mdel]
  | cons p t ih =>
    simp only [List.map_cons, List.nodup_cons] at h
    unfold mdel
    split
    · exact h.2
    · simp only [List.map_cons, List.nodup_cons]
      exact ⟨fun hm => h.1 (mdel_keys t k _ hm), ih h.2⟩
theorem mlook_set {β : Type} (l : List (κ × β)) (k : κ) (v : β) (k' : κ) : mlook (mset l k v) k' = if k' = k then some v else mlook l k' := by
  induction l with
  | nil => unfold mset mlook; by_cases h : k' = k <;> simp [h]
  | cons p t ih =>
    unfold mset
    unfold mlook at ih ⊢
    split
    · rename_i e; by_cases h : k' = p.1 <;> simp [h, e]
    · rename_i e
      by_cases h : k' = p.1
      · have : ¬ k' = k := fun q => e (q ▸ h)
        subst h; simp [this]
      · simp only [List.find?_cons, h, decide_false, ih]
theorem mlook_mem {β : Type} {l : List (κ × β)} {k : κ} {v : β} (h : mlook l k = some v) : (k, v) ∈ l := by
  unfold mlook at h
  cases hf : l.find? fun p => decide (k = p.1) with
  | none => simp [hf] at h
  | some p =>
    have h1 := List.mem_of_find?_eq_some hf
    have h2 := List.find?_some hf
    simp [hf] at h
    simp at h2
    rw [h2, ← h]; exact h1
theorem mlook_none {β : Type} {l : List (κ × β)} {k : κ} : mlook l k = none ↔ k ∉ l.map (·.1) := by
  unfold mlook
  simp [List.find?_eq_none]
  grind
theorem mlook_del {β : Type} (l : List (κ × β)) (k : κ) (h : (l.map (·.1)).Nodup) (k' : κ) : mlook (mdel l k) k' = if k' = k then none else mlook l k' := by
  induction l with
  | nil => unfold mdel mlook; simp
  | cons p t ih =>
    simp only [List.map_cons, List.nodup_cons] at h
    unfold mdel
    split
    · rename_i e
      by_cases hk : k' = k
      · rw [if_pos hk, mlook_none, hk, e]; exact h.1
      · rw [if_neg hk]; unfold mlook; simp [show ¬ k' = p.1 from fun q => hk (by rw [e, q])]
    · rename_i e
      have ih := ih h.2
      unfold mlook at ih ⊢
      by_cases hp : k' = p.1
      · have : ¬ k' = k := fun q => e (q ▸ hp)
        subst hp; simp [this]
      · simp only [List.find?_cons, hp, decide_false, ih]

theorem mlook_map {β γ : Type} (g : β → γ) (l : List (κ × β)) (k : κ) : mlook (l.map fun p => (p.1, g p.2)) k = (mlook l k).map g := by
  unfold mlook; rw [List.find?_map]; simp only [Function.comp_def]; cases l.find? fun p => decide (k = p.1) <;> rfl
theorem mset_map {β γ : Type} (g : β → γ) (l : List (κ × β)) (k : κ) (v : β) : mset (l.map fun p => (p.1, g p.2)) k (g v) = (mset l k v).map fun p => (p.1, g p.2) := by
  induction l with
  | nil => rfl
  | cons p t ih => simp only [List.map_cons, mset]; split <;> simp [ih]
theorem mdel_map {β γ : Type} (g : β → γ) (l : List (κ × β)) (k : κ) : mdel (l.map fun p => (p.1, g p.2)) k = (mdel l k).map fun p => (p.1, g p.2) := by
  induction l with
  | nil => rfl
  | cons p t ih => simp only [List.map_cons, mdel]; split <;> simp [ih]
theorem mset_mem {β : Type} {l : List (κ × β)} {k : κ} {v : β} {p : κ × β} (h : p ∈ mset l k v) : p = (k, v) ∨ p ∈ l := by
  induction l with
  | nil => simp [mset] at h; exact .inl h
  | cons q t ih =>
    unfold mset at h
    split at h
    · simp only [List.mem_cons] at h ⊢; rcases h with h | h
      · exact .inl h
      · exact .inr (.inr h)
    · simp only [List.mem_cons] at h ⊢; rcases h with h | h
      · exact .inr (.inl h)
      · rcases ih h with h | h
        · exact .inl h
        · exact .inr (.inr h)

variable {P : Program} {w : World}

theorem run_lookup_k (K : KeyKind d mk) (T key elem : TypeId) (z : Value) (hT : P.underlying T = some (.map key elem)) (hk : P.underlying key = some d) (hz : (zeroValue elem).run P w = .ok z w)
    (r : Nat) (l : List (κ × Value)) (hm : MapK mk w r l) (k : κ) (ok : Bool) :
    (Instr.lookup T (.map (some r)) (mk k) ok).run P w = .ok (if ok then .tuple #[(mlook l k).getD z, .bool (mlook l k).isSome] else (mlook l k).getD z) w := by
  obtain ⟨es, clk, hr, hl, hn⟩ := hm
  have hg : (getObj r).run P w = .ok (.map es clk) w := by simp [getObj, Sem.run, hr]
  rcases findNow_look K k l es.toList 0 hl with ⟨j, v, h1, h2, -⟩ | ⟨h1, h2, -⟩
  · cases ok <;> simp [Instr.lookup, run_underlying hT, hg, Sem.run_bind, Result.andThen, K.check P w _ key k hk, Instr.findKey, run_underlying hk, h1, h2]
  · cases ok <;> simp [Instr.lookup, run_underlying hT, hg, Sem.run_bind, Result.andThen, K.check P w _ key k hk, Instr.findKey, run_underlying hk, h1, h2, hz]

/-- Block r holds another object: what is known of all other blocks. -/
structure Only (r : Nat) (w w' : World) : Prop where
  os : w'.os = w.os
  tape : w'.tape = w.tape
  output : w'.output = w.output
  size : w'.heap.size = w.heap.size
  block : ∀ b, b ≠ r → w'.heap[b]? = w.heap[b]?

theorem only_set (w : World) (r : Nat) (o : Obj) : Only r w { w with heap := w.heap.setIfInBounds r o } := by
  refine ⟨rfl, rfl, rfl, by simp, fun b hb => ?_⟩
  simp only [Array.getElem?_setIfInBounds]
  rw [if_neg (fun h => hb h.symm)]

theorem run_mapUpdate_k (K : KeyKind d mk) (T key elem : TypeId) (hT : P.underlying T = some (.map key elem)) (hk : P.underlying key = some d)
    (r : Nat) (l : List (κ × Value)) (hm : MapK mk w r l) (k : κ) (v : Value) :
    ∃ w', (Instr.mapUpdate T (.map (some r)) (mk k) v).run P w = .ok () w' ∧ Only r w w' ∧ MapK mk w' r (mset l k v) := by
  obtain ⟨es, clk, hr, hl, hn⟩ := hm
  have hlt : r < w.heap.size := (Array.getElem?_eq_some_iff.1 hr).1
  have hg : (getObj r).run P w = .ok (.map es clk) w := by simp [getObj, Sem.run, hr]
  have hs : ∀ o, (setObj r o).run P w = .ok () { w with heap := w.heap.setIfInBounds r o } := fun o => by simp [setObj, Sem.run, hr]
  rcases findNow_look K k l es.toList 0 hl with ⟨j, v0, h1, h2, h3, ⟨e, h4, h4'⟩, h5, -⟩ | ⟨h1, h2, h3, -⟩
  · have hj : es[j]? = some e := by simpa using h4
    have hks : (Instr.keyThatStays (mk k) (mk k)).run P w = .ok (mk k) w := by simp [Instr.keyThatStays, K.bits]
    refine ⟨_, ?_, only_set w r (.map (es.modify j fun e => { e with key := mk k, val := v }) clk), es.modify j fun e => { e with key := mk k, val := v }, clk, ?_, ?_, mset_nodup l k v hn⟩
    · simp [Instr.mapUpdate, run_underlying hT, hg, Sem.run_bind, Result.andThen, K.check P w _ key k hk, Instr.findKey, run_underlying hk, h1, hj, h4', hks, hs]
    · simp [hlt]
    · rw [Array.toList_modify]; exact h5 v
  · refine ⟨_, ?_, only_set w r (.map (es.push { key := mk k, val := v, born := clk }) (clk + 1)), es.push { key := mk k, val := v, born := clk }, clk + 1, ?_, ?_, mset_nodup l k v hn⟩
    · simp [Instr.mapUpdate, run_underlying hT, hg, Sem.run_bind, Result.andThen, K.check P w _ key k hk, Instr.findKey, run_underlying hk, h1, hs]
    · simp [hlt]
    · rw [h3 v]; simp [hl]

theorem run_delete_k (K : KeyKind d mk) (T key elem : TypeId) (hT : P.underlying T = some (.map key elem)) (hk : P.underlying key = some d) (ty : TypeId) (ts : TypeId)
    (r : Nat) (l : List (κ × Value)) (hm : MapK mk w r l) (k : κ) :
    ∃ w', (Builtin.delete_ #[T, ts] ty #[.map (some r), mk k]).run P w = .ok (.tuple #[]) w' ∧ Only r w w' ∧ MapK mk w' r (mdel l k) := by
  obtain ⟨es, clk, hr, hl, hn⟩ := hm
  have hlt : r < w.heap.size := (Array.getElem?_eq_some_iff.1 hr).1
  have hg : (getObj r).run P w = .ok (.map es clk) w := by simp [getObj, Sem.run, hr]
  have hs : ∀ o, (setObj r o).run P w = .ok () { w with heap := w.heap.setIfInBounds r o } := fun o => by simp [setObj, Sem.run, hr]
  rcases findNow_look K k l es.toList 0 hl with ⟨j, v0, h1, h2, h3, ⟨e, h4, h4'⟩, -, h6⟩ | ⟨h1, h2, -, h4⟩
  · refine ⟨_, ?_, only_set w r (.map (es.eraseIdxIfInBounds j) clk), es.eraseIdxIfInBounds j, clk, ?_, ?_, mdel_nodup l k hn⟩
    · simp [Builtin.delete_, run_underlying hT, hg, Sem.run_bind, Result.andThen, K.check P w _ key k hk, Instr.findKey, run_underlying hk, h1, hs]
    · simp [hlt]
    · rw [← h6, Array.toList_eraseIdxIfInBounds]
  · refine ⟨_, ?_, only_set w r (.map es clk), es, clk, ?_, ?_, mdel_nodup l k hn⟩
    · simp [Builtin.delete_, run_underlying hT, hg, Sem.run_bind, Result.andThen, K.check P w _ key k hk, Instr.findKey, run_underlying hk, h1, hs]
    · simp [hlt]
    · rw [h4]; exact hl

theorem wp_lookup_k {ops : Array Oper} {rest : List Oper} {o : Oper} {a : Act} {Q : Exit → Act → World → Prop} (K : KeyKind d mk) (T key elem : TypeId) (x y : Operand) (ok : Bool) (ho : o.op = .lookup T x y ok)
    (hw : Region.wanted o (yielded ops a.tmps) = true) (z : Value) (hT : P.underlying T = some (.map key elem)) (hk : P.underlying key = some d) (hz : (zeroValue elem).run P w = .ok z w)
    (r : Nat) (l : List (κ × Value)) (k : κ) (hx : a.eval x = .map (some r)) (hy : a.eval y = mk k) (hm : MapK mk w r l)
    (h : wpList P ops Q rest (a.put o.dst (if ok then .tuple #[(mlook l k).getD z, .bool (mlook l k).isSome] else (mlook l k).getD z)) w) : wpList P ops Q (o :: rest) a w := by
  refine wpList_val hw _ (fun Kn => ?_) h
  unfold Oper.wp execOp
  simp only [ho, hx, hy, run_lookup_k K T key elem z hT hk hz r l hm k ok, Sem.run_bind, Result.andThen_ok, Sem.run_pure]
  rfl

theorem wp_mapUpdate_k {ops : Array Oper} {rest : List Oper} {o : Oper} {a : Act} {Q : Exit → Act → World → Prop} (K : KeyKind d mk) (T key elem : TypeId) (x y u : Operand) (ho : o.op = .mapUpdate T x y u)
    (hw : Region.wanted o (yielded ops a.tmps) = true) (hT : P.underlying T = some (.map key elem)) (hk : P.underlying key = some d)
    (r : Nat) (l : List (κ × Value)) (k : κ) (v : Value) (hx : a.eval x = .map (some r)) (hy : a.eval y = mk k) (hu : a.eval u = v) (hm : MapK mk w r l)
    (h : ∀ w', Only r w w' → MapK mk w' r (mset l k v) → wpList P ops Q rest (a.put o.dst undef) w') : wpList P ops Q (o :: rest) a w := by
  obtain ⟨w', hr, h1, h2⟩ := run_mapUpdate_k (P := P) K T key elem hT hk r l hm k v
  refine wpList_step fun Kn hK => ?_
  rw [if_pos hw]
  unfold Oper.wp execOp
  simp only [ho, hx, hy, hu, hr, Sem.run_bind, Result.andThen_ok, Sem.run_pure]
  exact hK _ _ (h w' h1 h2)

end

theorem MapK.new {κ : Type} (mk : κ → Value) (w : World) : MapK mk (w.alloc (.map #[] 0)) w.heap.size [] := ⟨#[], 0, heap_alloc_new w _, rfl, List.nodup_nil⟩
theorem MapK.keep {κ : Type} {mk : κ → Value} {w w' : World} {r : Nat} {l : List (κ × Value)} (h : MapK mk w r l) (e : w'.heap[r]? = w.heap[r]?) : MapK mk w' r l := by
  obtain ⟨es, clk, hr, h1, h2⟩ := h; exact ⟨es, clk, by rw [e, hr], h1, h2⟩
theorem MapK.lt {κ : Type} {mk : κ → Value} {w : World} {r : Nat} {l : List (κ × Value)} (h : MapK mk w r l) : r < w.heap.size := by
  obtain ⟨es, clk, hr, h1, h2⟩ := h; exact (Array.getElem?_eq_some_iff.1 hr).1
theorem MapK.ext {κ : Type} {mk : κ → Value} {w w' : World} {r : Nat} {l : List (κ × Value)} (h : MapK mk w r l) (e : Ext w w') : MapK mk w' r l := h.keep (Below.block e r h.lt)

end Go.Bo
