/- A contract of a function that looks at no objects, with slices that the caller has made: they are frozen first. -/
import Derived.Test.YtogmbfaijmhamaaAb34
namespace Go.Ab
open Go Go.RowKit Go.Bo
variable {P : Program}
def frzT (g : List D → Option (Bool × D)) (args : List D) (os : List Ob) : Option (Bool × D × List Ob) :=
  (freezeL os args).bind fun p => (g (p.1.map .x)).map fun r => (r.1, r.2, p.2)
theorem frzT_ok {f : FuncId} {g : List D → Option (Bool × D)} (h : ∀ args r, g args = some (true, r) → PCalls P f args r) : ∀ args os r os', frzT g args os = some (true, r, os') → MCalls P f args os r os' := by
  intro args os r os' hh
  obtain ⟨p, hp, hh⟩ := Option.bind_eq_some_iff.1 hh
  obtain ⟨⟨q1, q2⟩, hq, e⟩ := Option.map_eq_some_iff.1 hh
  simp only [Prod.mk.injEq] at e
  obtain ⟨rfl, rfl, rfl⟩ := e
  have hc := h _ _ hq
  intro c E vs R hvl
  obtain ⟨hlen, hv0⟩ := hvl
  obtain ⟨st', R1, ev1, hl1, hv1⟩ := freezeL_ok (vs := vs.toList) R (fun j d v hd hv => hv0 j d v hd (by simpa using hv)) (by simpa using hlen) hp
  have hvl' : VL ⟨E.w, st', []⟩ [] (p.1.map D.x) vs := by
    refine ⟨by simpa using hl1, fun j d v hd hv => ?_⟩
    rw [List.getElem?_map] at hd
    obtain ⟨y, hy, rfl⟩ := Option.map_eq_some_iff.1 hd
    exact .x (hv1 j y v hy (by simpa using hv))
  refine (hc E.w st' vs (fun b o hb => (R1.stm b o hb).1) hvl').mono ?_
  rintro e w' ⟨v, st2, rfl, hk, hs1, hs2, hv⟩
  obtain ⟨R2, ev2⟩ := R1.world w' st2 hk hs1 hs2
  refine ⟨v, _, rfl, rfl, R2, ev1.trans ev2, hv.mono (E := ⟨w', st2, []⟩) (os := []) ?_⟩
  exact ⟨fun _ _ h => ⟨h, rfl⟩, fun _ _ _ _ h => by simp at h, fun _ _ _ _ h => by simp at h⟩
end Go.Ab
