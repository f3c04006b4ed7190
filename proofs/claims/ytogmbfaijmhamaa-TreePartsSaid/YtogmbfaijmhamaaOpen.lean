/- How values of plain types lie in memory, as Lean data; what is read of a call's arguments is such data. -/
import Derived.Test.YtogmbfaijmhamaaOwn
import Derived.ChangeArms
import Derived.OpenShut
namespace Go.Bo
open Go.RowKit

/-- How data of a type lie: so many cells; which cells tell which data (what they lead to lies in blocks of which 'ok' holds). -/
structure Enc (α : Type) where
  n : Nat
  rep : World → (Nat → Prop) → α → List Value → Prop

def eInt (k : IntKind) : Enc Int := ⟨1, fun _ _ x cs => cs = [.int k x] ∧ (Lit.int k x).wf = true⟩
def eStr : Enc ByteArray := ⟨1, fun _ _ x cs => cs = [.string x] ∧ x.size ≤ 9223372036854775807⟩
def eBool : Enc Bool := ⟨1, fun _ _ x cs => cs = [.bool x]⟩
def eEnd : Enc Unit := ⟨0, fun _ _ _ cs => cs = []⟩
def eCat {α β : Type} (E : Enc α) (F : Enc β) : Enc (α × β) := ⟨E.n + F.n, fun w ok x cs => ∃ c d, cs = c ++ d ∧ E.rep w ok x.1 c ∧ F.rep w ok x.2 d⟩
def eVia {α β : Type} (E : Enc α) (f : β → α) : Enc β := ⟨E.n, fun w ok y cs => E.rep w ok (f y) cs⟩

/-- A slice of such data, read. -/
def Sl {α : Type} (E : Enc α) (w : World) (ok : Nat → Prop) (a : Option Addr) (l : List α) : Prop :=
  l.length ≤ 9223372036854775807 ∧ ∀ i (h : i < l.length), ∃ b off cs, a = some ⟨b, off, none⟩ ∧ ok b ∧ E.rep w ok l[i] cs ∧ ∀ j, j < E.n → w.cell? ⟨b, off + i * E.n + j, none⟩ = cs[j]?
def eSl {α : Type} (E : Enc α) : Enc (List α) := ⟨1, fun w ok l cs => ∃ a cap, cs = [.slice a l.length cap] ∧ l.length ≤ cap ∧ Sl E w ok a l⟩

/-- Each block that may matter is as it was. -/
def Stays (w w' : World) (ok ok' : Nat → Prop) : Prop := ∀ b, b < w.heap.size → ok b → ok' b ∧ w'.heap[b]? = w.heap[b]?

theorem Stays.ext {w w' : World} (h : Ext w w') (ok : Nat → Prop) : Stays w w' ok ok := fun b hb ho => ⟨ho, Below.block h b hb⟩
theorem Stays.cell {w w' : World} {ok ok' : Nat → Prop} (h : Stays w w' ok ok') {p : Addr} {v : Value} (hc : w.cell? p = some v) (ho : ok p.block) : w'.cell? p = some v := by
  rw [World.cell?_of_block (h p.block (World.block_lt_of_cell? _ _ hc) ho).2]; exact hc

/-- What holds of each way in which data lie. -/
structure Enc.Good {α : Type} (E : Enc α) : Prop where
  len : ∀ {w ok x cs}, E.rep w ok x cs → cs.length = E.n
  stay : ∀ {w w' ok ok' x cs}, Stays w w' ok ok' → E.rep w ok x cs → E.rep w' ok' x cs
  one : ∀ {w ok x cs}, E.rep w ok x cs → ∀ u ∈ cs, u.oneCell' = true

theorem good_int (k : IntKind) : (eInt k).Good := ⟨fun h => by rw [h.1]; rfl, fun _ h => h, fun h u hu => by rw [h.1, List.mem_singleton] at hu; rw [hu]; rfl⟩
theorem good_str : eStr.Good := ⟨fun h => by rw [h.1]; rfl, fun _ h => h, fun h u hu => by rw [h.1, List.mem_singleton] at hu; rw [hu]; rfl⟩
theorem good_bool : eBool.Good := ⟨fun h => by rw [h]; rfl, fun _ h => h, fun h u hu => by rw [h, List.mem_singleton] at hu; rw [hu]; rfl⟩
theorem good_end : eEnd.Good := ⟨fun h => by rw [h]; rfl, fun _ h => h, fun h u hu => by rw [h] at hu; cases hu⟩
theorem good_cat {α β : Type} {E : Enc α} {F : Enc β} (hE : E.Good) (hF : F.Good) : (eCat E F).Good :=
  ⟨fun ⟨c, d, h1, h2, h3⟩ => by rw [h1, List.length_append, hE.len h2, hF.len h3]; rfl, fun hs ⟨c, d, h1, h2, h3⟩ => ⟨c, d, h1, hE.stay hs h2, hF.stay hs h3⟩,
   fun ⟨c, d, h1, h2, h3⟩ u hu => by rw [h1, List.mem_append] at hu; rcases hu with hu | hu; exact hE.one h2 u hu; exact hF.one h3 u hu⟩
theorem good_via {α β : Type} {E : Enc α} (hE : E.Good) (f : β → α) : (eVia E f).Good := ⟨fun h => hE.len h, fun hs h => hE.stay hs h, fun h => hE.one h⟩

theorem Sl.stay {α : Type} {E : Enc α} (hE : E.Good) (h0 : 0 < E.n) {w w' : World} {ok ok' : Nat → Prop} {a : Option Addr} {l : List α} (hs : Stays w w' ok ok') (h : Sl E w ok a l) : Sl E w' ok' a l := by
  refine ⟨h.1, fun i hi => ?_⟩
  obtain ⟨b, off, cs, ha, hb, hr, hc⟩ := h.2 i hi
  have hl := hE.len hr
  have hlt : b < w.heap.size := by
    have h1 := hc 0 h0
    rw [List.getElem?_eq_getElem (by omega)] at h1
    exact World.block_lt_of_cell? _ _ h1
  refine ⟨b, off, cs, ha, (hs b hlt hb).1, hE.stay hs hr, fun j hj => ?_⟩
  have h1 := hc j hj
  rw [List.getElem?_eq_getElem (by omega)] at h1 ⊢
  exact hs.cell h1 hb
theorem good_sl {α : Type} {E : Enc α} (hE : E.Good) (h0 : 0 < E.n) : (eSl E).Good :=
  ⟨fun ⟨a, cap, h, _⟩ => by rw [h]; rfl, fun hs ⟨a, cap, h1, h2, h3⟩ => ⟨a, cap, h1, h2, h3.stay hE h0 hs⟩,
   fun ⟨a, cap, h, _⟩ u hu => by rw [h, List.mem_singleton] at hu; rw [hu]; rfl⟩
theorem Sl.ext {α : Type} {E : Enc α} (hE : E.Good) (h0 : 0 < E.n) {w w' : World} {ok : Nat → Prop} {a : Option Addr} {l : List α} (h : Sl E w ok a l) (e : Ext w w') : Sl E w' ok a l := h.stay hE h0 (Stays.ext e ok)
theorem Sl.nil {α : Type} {E : Enc α} (w : World) (ok : Nat → Prop) (a : Option Addr) : Sl E w ok a [] := ⟨by simp, fun i hi => by simp at hi⟩

/-- Whatever reads as data of type T are data that lie so. -/
def From (P : Program) (T : TypeId) {α : Type} (E : Enc α) : Prop :=
  P.cellsOf T = E.n ∧ ∀ {H : Type} (enc : TypeId × Value → H) (w : World) (fuel : Nat) (cs : List Value) (x : DataW H × List MemPlace), DataW.trod enc P w 0 (fun _ => true) true fuel T cs = some x → ∃ y, E.rep w (fun _ => True) y cs

section
variable {P : Program} {T : TypeId}

theorem from_int {k : IntKind} (hT : P.underlying T = some (.int k)) (hc : P.cellsOf T = 1) : From P T (eInt k) :=
  ⟨hc, fun _ _ _ _ _ h => let ⟨n, h1, _, h3⟩ := DataW.trod_int hT h; ⟨n, h1, h3⟩⟩
theorem from_str (hT : P.underlying T = some .string) (hc : P.cellsOf T = 1) : From P T eStr :=
  ⟨hc, fun _ _ _ _ _ h => let ⟨n, h1, _, h3⟩ := DataW.trod_string hT h; ⟨n, h1, by simpa [maxLen] using h3⟩⟩
theorem from_bool (hT : P.underlying T = some .bool) (hc : P.cellsOf T = 1) : From P T eBool :=
  ⟨hc, fun _ _ _ _ _ h => let ⟨n, h1, _⟩ := DataW.trod_bool hT h; ⟨n, h1⟩⟩
theorem from_via {α β : Type} {E : Enc α} (h : From P T E) (f : β → α) (g : α → β) (hfg : ∀ x, f (g x) = x) : From P T (eVia E f) :=
  ⟨h.1, fun enc w fuel cs x hx => let ⟨y, hy⟩ := h.2 enc w fuel cs x hx; ⟨g y, by show E.rep _ _ (f (g y)) _; rw [hfg]; exact hy⟩⟩

theorem from_sl {α : Type} {E : Enc α} {e : TypeId} (hT : P.underlying T = some (.slice e)) (hc : P.cellsOf T = 1) (he : From P e E) (hG : E.Good) (h0 : 0 < E.n) : From P T (eSl E) := by
  refine ⟨hc, fun {H} enc w fuel cs x h => ?_⟩
  rcases DataW.trod_slice hT h with ⟨rfl, _⟩ | ⟨a, len, cap, elems, rest, n, _, rfl, _, _, hl, hm, hlen, hel, _⟩
  · exact ⟨[], none, 0, rfl, Nat.le_refl _, Sl.nil _ _ _⟩
  · have key : ∀ i, i < len → ∃ (y : α) (cs' : List Value), E.rep w (fun _ => True) y cs' ∧ ∀ j, j < E.n → w.cell? (a.add (i * E.n + j)) = cs'[j]? := by
      intro i hi
      have h1 := hel i hi
      rw [List.getElem?_eq_getElem (by omega)] at h1
      obtain ⟨cs', h2, h3⟩ := Option.bind_eq_some_iff.1 h1
      obtain ⟨y, hy⟩ := he.2 enc w n cs' _ h3
      obtain ⟨_, hcl, hcc⟩ := World.cells?_some h2
      rw [he.1] at hcl hcc
      refine ⟨y, cs', hy, fun j hj => ?_⟩
      rw [← hcc j hj]
      congr 1
      unfold Addr.add
      by_cases h4 : i * E.n = 0 <;> by_cases h5 : j = 0 <;> simp [h4, h5, Nat.add_assoc]
    classical
    have hne : 0 < len → Nonempty α := fun hp => let ⟨y, _⟩ := key 0 hp; ⟨y⟩
    by_cases hz : len = 0
    · subst hz
      exact ⟨[], some a, cap, rfl, Nat.zero_le _, Sl.nil _ _ _⟩
    · have hn : Nonempty α := hne (by omega)
      let f : Nat → α := fun i => if hi : i < len then Classical.choose (key i hi) else Classical.choice hn
      refine ⟨(List.range len).map f, some a, cap, by simp, by simpa using hl, by simp; simp only [maxLen] at hm; omega, fun i hi => ?_⟩
      simp only [List.length_map, List.length_range] at hi
      have hf : f i = Classical.choose (key i hi) := by simp only [f, dif_pos hi]
      obtain ⟨cs', h1, h2⟩ := Classical.choose_spec (key i hi)
      have hspot : a.spot = none := by
        obtain ⟨cs0, h3, h4⟩ := Classical.choose_spec (key 0 (by omega))
        have h5 := h4 0 h0
        rw [List.getElem?_eq_getElem (by rw [hG.len h3]; exact h0)] at h5
        have := World.cell?_spot h5
        simpa [Addr.add] using this
      obtain ⟨b, off, spot⟩ := a
      simp only at hspot
      subst hspot
      refine ⟨b, off, cs', rfl, trivial, by simpa [hf] using h1, fun j hj => ?_⟩
      rw [← h2 j hj]
      congr 1
      unfold Addr.add
      split
      · rename_i h6; rw [Nat.add_assoc, h6]; rfl
      · rw [Nat.add_assoc]

theorem openSl {α : Type} {E : Enc α} {w : World} {ok : Nat → Prop} {y : List α} {a : Option Addr} {len cap : Nat} (h : (eSl E).rep w ok y (Value.slice a len cap).cells.toList) : Sl E w ok a y ∧ y.length = len ∧ len ≤ cap := by
  obtain ⟨a', cap', h1, h2, h3⟩ := h
  simp [Value.cells] at h1
  obtain ⟨rfl, rfl, rfl⟩ := h1
  exact ⟨h3, rfl, h2⟩

/-- Fields that lie one behind the other. -/
inductive Fields (P : Program) : List Field → Nat → {α : Type} → Enc α → Prop
  | nil (off : Nat) : Fields P [] off eEnd
  | cons {f : Field} {fs : List Field} {off : Nat} {α β : Type} {E : Enc α} {F : Enc β} (ho : f.offset = off) (hE : From P f.type E) (hF : Fields P fs (off + E.n) F) : Fields P (f :: fs) off (eCat E F)

theorem fields_read {fs : List Field} {off : Nat} {α : Type} {E : Enc α} (hf : Fields P fs off E) {H : Type} (enc : TypeId × Value → H) (w : World) (fuel : Nat) (cs : List Value)
    (h : ∀ f ∈ fs, ∃ x, DataW.trod enc P w 0 (fun _ => true) true fuel f.type ((cs.drop f.offset).take (P.cellsOf f.type)) = some x) :
    ∃ y, E.rep w (fun _ => True) y ((cs.drop off).take E.n) := by
  induction hf with
  | nil off => exact ⟨(), by simp [eEnd]⟩
  | @cons f fs off α β E F ho hE hF ih =>
    obtain ⟨y, hy⟩ := ih (fun g hg => h g (List.mem_cons_of_mem _ hg))
    obtain ⟨x, hx⟩ := h f List.mem_cons_self
    obtain ⟨z, hz⟩ := hE.2 enc w fuel _ _ hx
    rw [hE.1, ho] at hz
    refine ⟨(z, y), (cs.drop off).take E.n, (cs.drop (off + E.n)).take F.n, ?_, hz, hy⟩
    show (cs.drop off).take (E.n + F.n) = _
    rw [List.take_add, List.drop_drop]

theorem from_struct {α : Type} {E : Enc α} {fs : Array Field} (hT : P.underlying T = some (.struct fs)) (hc : P.cellsOf T = E.n) (hf : Fields P fs.toList 0 E) : From P T E := by
  refine ⟨hc, fun {H} enc w fuel cs x h => ?_⟩
  obtain ⟨xs, n, rfl, _, hl, hxl, hx⟩ := DataW.trod_struct hT h
  obtain ⟨y, hy⟩ := fields_read hf enc w n cs (fun f hf => by
    obtain ⟨i, hi⟩ := List.mem_iff_getElem?.1 hf
    have hi' : fs[i]? = some f := by simpa using hi
    have h1 := hx i f hi'
    have hlt : i < xs.length := by rw [hxl]; exact (Array.getElem?_eq_some_iff.1 hi').1
    rw [List.getElem?_eq_getElem hlt] at h1
    exact ⟨_, h1⟩)
  refine ⟨y, ?_⟩
  rw [List.drop_zero, List.take_of_length_le (by omega)] at hy
  exact hy

theorem from_array2 {α : Type} {E : Enc α} {e : TypeId} (hT : P.underlying T = some (.array 2 e)) (hc : P.cellsOf T = E.n + E.n) (he : From P e E) : From P T (eCat E E) := by
  refine ⟨hc, fun {H} enc w fuel cs x h => ?_⟩
  obtain ⟨xs, m, rfl, _, hl, hxl, hx⟩ := DataW.trod_array hT h
  have h0 := hx 0 (by omega)
  have h1 := hx 1 (by omega)
  rw [List.getElem?_eq_getElem (by omega)] at h0 h1
  obtain ⟨y, hy⟩ := he.2 enc w m _ _ h0
  obtain ⟨z, hz⟩ := he.2 enc w m _ _ h1
  rw [he.1] at hy hz
  refine ⟨(y, z), cs.take E.n, cs.drop E.n, by rw [List.take_append_drop], ?_, ?_⟩
  · simpa using hy
  · have : (cs.drop (1 * E.n)).take E.n = cs.drop E.n := by rw [Nat.one_mul, List.take_of_length_le (by rw [List.length_drop]; omega)]
    rw [this] at hz; exact hz
end

end Go.Bo
