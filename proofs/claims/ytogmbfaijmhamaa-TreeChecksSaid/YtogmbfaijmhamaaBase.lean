/- Small laws: worlds that only grow, slices of ints that are read, how a call ends. -/
import Derived.WalkKit
import Derived.WalkSpells
import Derived.WalkLawsBesides
import Derived.Lib.Hide
import Derived.Deep.QuietTactic
import Derived.BigQuiet
import Derived.StillTail
namespace Go.Bo
open Go.RowKit

theorem ret_i {k : IntKind} {x y : Int} (h : x = y) : Ending.returned (.int k x) = .returned (.int k y) := by rw [h]
theorem ret_b {x y : Bool} (h : x = y) : Ending.returned (.bool x) = .returned (.bool y) := by rw [h]

/-- What was there when the call began is as it was. -/
def Ext (w w' : World) : Prop := Below w.heap.size w w'

theorem Ext.refl (w : World) : Ext w w := Below.refl _ _
theorem Ext.size {w w' : World} (h : Ext w w') : w.heap.size ≤ w'.heap.size := Below.size h
theorem Ext.trans {a b c : World} (h : Ext a b) (k : Ext b c) : Ext a c := Below.trans h (Below.mono k (Ext.size h))
theorem Ext.al {a w : World} (h : Ext a w) (o : Obj) : Ext a (w.alloc o) := Below.alloc h h.size o
theorem Ext.dr {a w : World} (h : Ext a w) : Ext a w.drew := Below.drew h
theorem Ext.drN {a w : World} (h : Ext a w) (n : Nat) : Ext a (w.drewN n) := by
  have : Below w.heap.size w (w.drewN n) := ⟨rfl, rfl, rfl, by simp [World.drewN], fun _ _ => rfl⟩
  exact h.trans this
theorem size_drewN (w : World) (n : Nat) : (w.drewN n).heap.size = w.heap.size := rfl
theorem Ext.st {a w : World} (h : Ext a w) {p : Addr} (hp : a.heap.size ≤ p.block) (u : Value) : Ext a (w.setCell p u) := Below.setCell h hp u
theorem Ext.grown {w w' : World} (h : Ext w w') (r : Option Nat) : w.grownBy w' r := ⟨h.os, h.tape, h.output, h.size, fun k hk _ => Below.block h k hk⟩
theorem Ext.grown_al {w w' : World} (h : Ext w w') (r : Nat) (o : Obj) : w.grownBy (w'.alloc o) (some r) := (h.al o).grown _
theorem Ext.cellE {w w' : World} (h : Ext w w') {p : Addr} {v : Value} (hc : w.cell? p = some v) : w'.cell? p = some v := by
  rw [Below.cell h (World.block_lt_of_cell? _ _ hc)]; exact hc

/-- A region that draws its order, whose operations read what was there or call what leaves that as it was. -/
structure ExtOf (w : World) where
  to : World
  ext : Ext w to

instance (w : World) : Nonempty (ExtOf w) := ⟨⟨w, Ext.refl w⟩⟩

theorem Ext.to {w : World} (x : ExtOf w) {p : Addr} {v : Value} (hc : w.cell? p = some v) : x.to.cell? p = some v := x.ext.cellE hc

theorem wp_region_quiet_ext {P : Program} {id : Nat} {Q : Exit → Act → World → Prop} {a : Act} {w : World} {l : List Oper} (hm : P.follows .mixedOrders = true) (hB : Region.lexB .any l.toArray = true)
    (h : wpQuiet P l.toArray (fun w' => ∃ x : ExtOf w, w' = x.to) (fun a' => ∀ w', Ext w w' → Q .normal a' w') l a) : (Code.region id l.toArray true).wp P Q a w := by
  have e : (fun a' : Act => ∀ w', (∃ x : ExtOf w, w' = x.to) → Q .normal a' w') = (fun a' => ∀ w', Ext w w' → Q .normal a' w') := by
    funext a'
    exact propext ⟨fun h w' hw => h w' ⟨⟨w', hw⟩, rfl⟩, fun h w' ⟨x, hx⟩ => hx ▸ h x.to x.ext⟩
  refine wp_region_quiet (C := fun w' => ∃ x : ExtOf w, w' = x.to) hm hB ⟨⟨w.drew, (Ext.refl w).dr⟩, rfl⟩ ?_
  rw [e]
  exact h

theorem quietE {P : Program} {f : FuncId} {args : Array Value} {w : World} {x : ExtOf w} {v : Value}
    (h : Calls P f args x.to fun e w' => e = .returned v ∧ Ext x.to w') : Calls P f args x.to fun e w'' => e = .returned v ∧ ∃ y : ExtOf w, w'' = y.to :=
  h.mono fun _ w'' ⟨he, hm⟩ => ⟨he, ⟨w'', x.ext.trans hm⟩, rfl⟩
theorem quietS {P : Program} {f : FuncId} {args : Array Value} {w : World} {x : ExtOf w} {v : Value}
    (h : Calls P f args x.to fun e w' => e = .returned v ∧ x.to = w') : Calls P f args x.to fun e w'' => e = .returned v ∧ ∃ y : ExtOf w, w'' = y.to :=
  h.mono fun _ _ ⟨he, hm⟩ => ⟨he, x, hm.symm⟩

theorem still_of_quiet {P : Program} {ops : Array Oper} {w : World} {Q : Act → Prop} : ∀ (l : List Oper) (a : Act), wpQuiet P ops (fun w' => w' = w) Q l a → wpStill P ops w Q l a
  | [], _, h => h
  | o :: l, a, h => by
    unfold wpQuiet at h
    unfold wpStill
    split
    · rename_i hw
      rw [if_pos hw] at h
      obtain ⟨v, h1, h2⟩ := h
      have h1 := h1 w rfl
      have h2 := still_of_quiet l _ h2
      unfold Oper.quietAt Oper.quietUpon at h1
      unfold Oper.still Oper.stillUpon
      split at h1
      · rename_i u w' hr
        obtain ⟨rfl, rfl⟩ := h1
        rw [hr]; simp [h2]
      · rename_i w' hr
        obtain ⟨rfl, rfl⟩ := h1
        rw [hr]; simp [h2]
      · rename_i f args w' hr
        obtain ⟨rfl, h1⟩ := h1
        rw [hr]
        exact ⟨rfl, v, h1, h2⟩
      · exact h1.elim
    · rename_i hw
      rw [if_neg hw] at h
      exact still_of_quiet l _ h

/-- A region that draws its order, whose last operations stand in one order, the others only read. -/
theorem wp_region_tail {P : Program} {id : Nat} {Q : Exit → Act → World → Prop} {a : Act} {w : World} {l : List Oper} (n : Nat) (hm : P.follows .mixedOrders = true) (hB : Region.lexTailB .any l.toArray n = true)
    (h : wpQuiet P l.toArray (fun w' => w' = w.drew) (fun a' => wpList P l.toArray Q (l.drop n) a' w.drew) (l.take n) a) : (Code.region id l.toArray true).wp P Q a w :=
  wp_region_still_tail n hm hB (still_of_quiet _ _ h)

/-- A slice of ints, read. -/
def ISl (w : World) (a : Option Addr) (l : List Int) : Prop :=
  l.length ≤ 9223372036854775807 ∧ ∀ i, i < l.length → ∃ b off, a = some ⟨b, off, none⟩ ∧ w.cell? ⟨b, off + i, none⟩ = some (.int .i64 (l.getD i 0))

theorem ISl.ext {w w' : World} {a : Option Addr} {l : List Int} (h : ISl w a l) (e : Ext w w') : ISl w' a l := by
  refine ⟨h.1, fun i hi => ?_⟩
  obtain ⟨b, off, ha, hc⟩ := h.2 i hi
  exact ⟨b, off, ha, e.cellE hc⟩
theorem ISl.alloc {w : World} {a : Option Addr} {l : List Int} (h : ISl w a l) (o : Obj) : ISl (w.alloc o) a l := h.ext ((Ext.refl w).al o)
theorem ISl.nil (w : World) (a : Option Addr) : ISl w a [] := ⟨by simp, fun i hi => by simp at hi⟩
theorem ISl.new (w : World) (l : List Int) (h : l.length ≤ 9223372036854775807) (t : TypeId) : ISl (w.alloc (.cells (l.map (Value.int .i64)).toArray t)) (some ⟨w.heap.size, 0, none⟩) l := by
  refine ⟨h, fun i hi => ⟨_, _, rfl, ?_⟩⟩
  rw [World.cell?_alloc_new]
  simp [hi]

/-- What the frame of a law tells of a slice of integers, as it is used here. -/
def RowI (k : IntKind) (w : World) (a : Option Addr) (len cap : Nat) (zs : List Int) : Prop :=
  (a = none ∧ len = 0 ∧ cap = 0 ∧ zs = []) ∨
  ∃ x, a = some x ∧ len ≤ cap ∧ cap ≤ maxLen ∧ zs.length = cap ∧ (∀ i, i < zs.length → w.cell? (x.add i) = some (.int k (zs.getD i 0))) ∧ ∀ n ∈ zs, (Lit.int k n).wf = true

theorem rowI {w : World} {a : Option Addr} {len cap : Nat} {zs : List Int} (h : RowI .i64 w a len cap zs) : ISl w a (zs.take len) ∧ (zs.take len).length = len ∧ len ≤ cap := by
  rcases h with ⟨rfl, rfl, rfl, rfl⟩ | ⟨x, rfl, h1, h2, h3, h4, h5⟩
  · exact ⟨ISl.nil _ _, rfl, Nat.le_refl _⟩
  · have hn : (zs.take len).length = len := by simp; omega
    refine ⟨⟨by rw [hn]; simp only [maxLen] at h2; omega, fun i hi => ?_⟩, hn, h1⟩
    rw [hn] at hi
    have hc := h4 i (by omega)
    obtain ⟨b, off, spot⟩ := x
    have hs : spot = none := by
      have h0 := h4 0 (by omega)
      simpa [Addr.add] using World.cell?_spot h0
    subst hs
    have : (⟨b, off, none⟩ : Addr).add i = ⟨b, off + i, none⟩ := by unfold Addr.add; split <;> simp_all
    rw [this] at hc
    exact ⟨b, off, rfl, by rw [hc]; simp [List.getD, hi]⟩

end Go.Bo
