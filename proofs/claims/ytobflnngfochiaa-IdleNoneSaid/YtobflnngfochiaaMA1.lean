/- MA1: Id1, SortI, Id2, Id3, Id4, Id5, Id6. -/
import Derived.Test.YtobflnngfochiaaLA4
import Derived.Test.YtobflnngfochiaaIc
import Derived.Test.YtobflnngfochiaaSh
section
/- Idle: New, Touch, Drop, Next. -/
set_option linter.unusedSimpArgs false
set_option linter.unusedVariables false
namespace Go.Proofs.Ytobflnngfochiaa
open Go.RowKit Go.Bo Go.Ab

abbrev Id := List (Int × Int)
abbrev vcI (n : Int) : List X := [X.int .i64 n]
abbrev encI (L : Id) : List Pr := encM kcI vcI L
theorem encI_get (L : Id) (c : Int) : mgetX (encI L) [.int .i64 c] = (mlook L c).map fun n => [D.x (.int .i64 n)] := encM_get kcI vcI hkI L c
theorem encI_set (L : Id) (c n : Int) : msetX (encI L) [.int .i64 c] [D.x (.int .i64 n)] = encI (mset L c n) := encM_set kcI vcI hkI L c n
theorem encI_del (L : Id) (c : Int) : mdelX (encI L) [.int .i64 c] = encI (mdel L c) := encM_del kcI vcI hkI L c
abbrev idB (g : Int) : Ob := .box [.mref 1, .x (.int .i64 g)]
abbrev idM (L : Id) : Ob := .mpo (.int .i64) false (encI L)
theorem new50_ok (g : Int) (h : 1 ≤ g ∧ g ≤ 1073741824) : MCalls Try.prog 6 [.x (.int .i64 g)] [] (.tup [.ptr 1 0, .x (.int .i64 0)]) [.mpo (.int .i64) false [], .box [.mref 0, .x (.int .i64 g)]] := by
  refine FCalls.mcalls (fcallsG (fz := true) G_ok (p := i6) rfl _ (Nat.le_of_ble_eq_true rfl) _ (fun C0 E0 => ?_))
  dsimp only [i6, argsφ]
  have uu := trivial
  refine WI.seq ?_
  refine WI.regB noTabs_ok [0] ?_
  iterate 2 refine oS ?_
  refine oN ?_
  refine thenQ_normal ?_
  refine WI.seq ?_
  refine WI.seq ?_
  refine WI.regB noTabs_ok [0, 9] ?_
  refine oS ?_
  refine oG ?_
  refine oS ?_
  iterate 3 refine oG ?_
  refine oN ?_
  refine thenQ_normal ?_
  refine WI.cond (b := _) rfl rfl (fun h0 => ?_) (fun h0 => ?_)
  · exfalso
    simp only [zB] at h0; omega
  · try simp only [zB] at h0
    refine WI.skip ?_
    refine thenQ_normal ?_
    refine WI.seq ?_
    refine WI.regB noTabs_ok [2, 3] ?_
    refine oG ?_
    refine oS ?_
    iterate 2 refine oG ?_
    iterate 2 refine oS ?_
    refine oN ?_
    refine thenQ_normal ?_
    refine WI.ret ?_
    first | refine lfR ?_ | refine lfR2 ?_
    first | rfl | exact ⟨rfl, rfl⟩ | trivial -- leaf 0
theorem new50_bad (g : Int) (h : ¬ (1 ≤ g ∧ g ≤ 1073741824)) : MCalls Try.prog 6 [.x (.int .i64 g)] [] (.tup [.x .nilp, .x (.int .i64 1)]) [] := by
  refine FCalls.mcalls (fcallsG (fz := true) G_ok (p := i6) rfl _ (Nat.le_of_ble_eq_true rfl) _ (fun C0 E0 => ?_))
  dsimp only [i6, argsφ]
  have uu := trivial
  refine WI.seq ?_
  refine WI.regB noTabs_ok [0] ?_
  iterate 2 refine oS ?_
  refine oN ?_
  refine thenQ_normal ?_
  refine WI.seq ?_
  refine WI.seq ?_
  refine WI.regB noTabs_ok [0, 9] ?_
  refine oS ?_
  refine oG ?_
  refine oS ?_
  iterate 3 refine oG ?_
  refine oN ?_
  refine thenQ_normal ?_
  refine WI.cond (b := _) rfl rfl (fun h0 => ?_) (fun h0 => ?_)
  · try simp only [zB] at h0
    refine WI.seq ?_
    refine WI.regB noTabs_ok [2, 3] ?_
    iterate 2 refine oS ?_
    refine oN ?_
    refine thenQ_normal ?_
    refine WI.ret ?_
    refine thenQ_ret ?_
    first | refine lfR ?_ | refine lfR2 ?_
    first | rfl | exact ⟨rfl, rfl⟩ | trivial -- leaf 0
  · exfalso
    simp only [zB] at h0; omega
def tchL (L : Id) (c n : Int) : Id := if 0 ≤ n ∧ n ≤ 1099511627776 then mset L c n else L
theorem touch_c (g c n : Int) (L : Id) : MCalls Try.prog 7 [.ptr 0 0, .x (.int .i64 c), .x (.int .i64 n)] [idB g, idM L] (.tup []) [idB g, idM (tchL L c n)] := by
  have hs := encI_set L c n
  refine FCalls.mcalls (fcallsG (fz := true) G_ok (p := i7) rfl _ (Nat.le_of_ble_eq_true rfl) _ (fun C0 E0 => ?_))
  dsimp only [i7, argsφ]
  have uu := hs
  refine WI.seq ?_
  refine WI.regB noTabs_ok [0, 1, 2, 15] ?_
  refine oS ?_
  refine oG ?_
  refine oS ?_
  iterate 3 refine oG ?_
  refine oS ?_
  iterate 3 refine oG ?_
  refine oN ?_
  refine thenQ_normal ?_
  refine WI.cond (b := _) rfl rfl (fun h0 => ?_) (fun h0 => ?_)
  · try simp only [zB] at h0
    refine WI.regB noTabs_ok [] ?_
    iterate 3 refine oS ?_
    refine oG ?_
    iterate 2 refine oS ?_
    refine oG ?_
    refine osN ?_
    first | refine lfN ?_ | refine lfN2 ?_
    rw [tchL, if_pos (by omega)]; exact ⟨rfl, rfl⟩ -- leaf 0
  · try simp only [zB] at h0
    refine WI.skip ?_
    first | refine lfN ?_ | refine lfN2 ?_
    simp at h0; rw [tchL, if_neg (by omega)]; exact ⟨rfl, rfl⟩ -- leaf 1
theorem touch_nil (c n : Int) : PCalls Try.prog 7 [.x .nilp, .x (.int .i64 c), .x (.int .i64 n)] (.tup []) := by
  refine FCalls.pure (fcallsG (fz := true) G_ok (p := i7) rfl _ (Nat.le_of_ble_eq_true rfl) _ (fun C0 E0 => ?_)) rfl
  dsimp only [i7, argsφ]
  have uu := trivial
  refine WI.seq ?_
  refine WI.regB noTabs_ok [0, 1, 2, 15] ?_
  refine oS ?_
  refine oG ?_
  refine oS ?_
  iterate 3 refine oG ?_
  refine oS ?_
  iterate 3 refine oG ?_
  refine oN ?_
  refine thenQ_normal ?_
  refine WI.cond (b := _) rfl rfl (fun h0 => ?_) (fun h0 => ?_)
  · exfalso
    simp at h0
  · try simp only [zB] at h0
    refine WI.skip ?_
    first | refine lfN ?_ | refine lfN2 ?_
    first | rfl | exact ⟨rfl, rfl⟩ | trivial -- leaf 0
theorem drop50_c (g c : Int) (L : Id) : MCalls Try.prog 10 [.ptr 0 0, .x (.int .i64 c)] [idB g, idM L] (.x (.bool (mlook L c).isSome)) [idB g, idM (mdel L c)] := by
  have hd := encI_del L c
  have hg := encI_get L c
  cases hL : mlook L c with
  | none =>
    rw [hL] at hg
    refine FCalls.mcalls (fcallsG (fz := true) G_ok (p := i10) rfl _ (Nat.le_of_ble_eq_true rfl) _ (fun C0 E0 => ?_))
    dsimp only [i10, argsφ]
    have uu := And.intro hg (hd)
    refine WI.seq ?_
    refine WI.regB noTabs_ok [0, 1] ?_
    refine oS ?_
    refine oN ?_
    refine thenQ_normal ?_
    refine WI.seq ?_
    refine WI.seq ?_
    refine WI.regB noTabs_ok [0, 1, 8] ?_
    refine oS ?_
    refine oG ?_
    refine oN ?_
    refine thenQ_normal ?_
    refine WI.cond (b := _) rfl rfl (fun h0 => ?_) (fun h0 => ?_)
    · exfalso
      simp at h0
    · try simp only [zB] at h0
      refine WI.skip ?_
      refine thenQ_normal ?_
      refine WI.seq ?_
      refine WI.regB noTabs_ok [0, 1, 6] ?_
      iterate 3 refine oS ?_
      refine oG ?_
      refine oS ?_
      refine oG ?_
      refine oS ?_
      iterate 2 refine oG ?_
      iterate 2 refine oS ?_
      refine oN ?_
      refine thenQ_normal ?_
      refine WI.seq ?_
      refine WI.regB noTabs_ok [6] ?_
      iterate 3 refine oS ?_
      refine oG ?_
      refine oS ?_
      refine oG ?_
      refine oN ?_
      refine thenQ_normal ?_
      refine WI.seq ?_
      refine WI.regB noTabs_ok [4] ?_
      iterate 2 refine oS ?_
      refine oN ?_
      refine thenQ_normal ?_
      refine WI.ret ?_
      first | refine lfR ?_ | refine lfR2 ?_
      first | rfl | exact ⟨rfl, rfl⟩ | trivial -- leaf 0
  | some l =>
    rw [hL] at hg
    refine FCalls.mcalls (fcallsG (fz := true) G_ok (p := i10) rfl _ (Nat.le_of_ble_eq_true rfl) _ (fun C0 E0 => ?_))
    dsimp only [i10, argsφ]
    have uu := And.intro hg (hd)
    refine WI.seq ?_
    refine WI.regB noTabs_ok [0, 1] ?_
    refine oS ?_
    refine oN ?_
    refine thenQ_normal ?_
    refine WI.seq ?_
    refine WI.seq ?_
    refine WI.regB noTabs_ok [0, 1, 8] ?_
    refine oS ?_
    refine oG ?_
    refine oN ?_
    refine thenQ_normal ?_
    refine WI.cond (b := _) rfl rfl (fun h0 => ?_) (fun h0 => ?_)
    · exfalso
      simp at h0
    · try simp only [zB] at h0
      refine WI.skip ?_
      refine thenQ_normal ?_
      refine WI.seq ?_
      refine WI.regB noTabs_ok [0, 1, 6] ?_
      iterate 3 refine oS ?_
      refine oG ?_
      refine oS ?_
      refine oG ?_
      refine oS ?_
      iterate 2 refine oG ?_
      iterate 2 refine oS ?_
      refine oN ?_
      refine thenQ_normal ?_
      refine WI.seq ?_
      refine WI.regB noTabs_ok [6] ?_
      iterate 3 refine oS ?_
      refine oG ?_
      refine oS ?_
      refine oG ?_
      refine oN ?_
      refine thenQ_normal ?_
      refine WI.seq ?_
      refine WI.regB noTabs_ok [4] ?_
      iterate 2 refine oS ?_
      refine oN ?_
      refine thenQ_normal ?_
      refine WI.ret ?_
      first | refine lfR ?_ | refine lfR2 ?_
      first | rfl | exact ⟨rfl, rfl⟩ | trivial -- leaf 0
theorem drop50_nil (c : Int) : PCalls Try.prog 10 [.x .nilp, .x (.int .i64 c)] (.x (.bool false)) := by
  refine FCalls.pure (fcallsG (fz := true) G_ok (p := i10) rfl _ (Nat.le_of_ble_eq_true rfl) _ (fun C0 E0 => ?_)) rfl
  dsimp only [i10, argsφ]
  have uu := trivial
  refine WI.seq ?_
  refine WI.regB noTabs_ok [0, 1] ?_
  refine oS ?_
  refine oN ?_
  refine thenQ_normal ?_
  refine WI.seq ?_
  refine WI.seq ?_
  refine WI.regB noTabs_ok [0, 1, 8] ?_
  refine oS ?_
  refine oG ?_
  refine oN ?_
  refine thenQ_normal ?_
  refine WI.cond (b := _) rfl rfl (fun h0 => ?_) (fun h0 => ?_)
  · try simp only [zB] at h0
    refine WI.seq ?_
    refine WI.regB noTabs_ok [4] ?_
    refine oS ?_
    refine oN ?_
    refine thenQ_normal ?_
    refine WI.ret ?_
    refine thenQ_ret ?_
    first | refine lfR ?_ | refine lfR2 ?_
    first | rfl | exact ⟨rfl, rfl⟩ | trivial -- leaf 0
  · exfalso
    simp at h0
theorem next50_nil : PCalls Try.prog 12 [.x .nilp] (.tup [.x (.int .i64 0), .x (.bool false)]) := by
  refine FCalls.pure (fcallsG (fz := true) G_ok (p := i12) rfl _ (Nat.le_of_ble_eq_true rfl) _ (fun C0 E0 => ?_)) rfl
  dsimp only [i12, argsφ]
  have uu := trivial
  refine WI.seq ?_
  refine WI.regB noTabs_ok [0] ?_
  iterate 2 refine oS ?_
  refine oN ?_
  refine thenQ_normal ?_
  refine WI.seq ?_
  refine WI.seq ?_
  refine WI.regB noTabs_ok [0, 16] ?_
  refine oS ?_
  refine oG ?_
  refine oS ?_
  iterate 7 refine oG ?_
  refine oN ?_
  refine thenQ_normal ?_
  refine WI.cond (b := _) rfl rfl (fun h0 => ?_) (fun h0 => ?_)
  · try simp only [zB] at h0
    refine WI.seq ?_
    refine WI.regB noTabs_ok [2, 3] ?_
    iterate 2 refine oS ?_
    refine oN ?_
    refine thenQ_normal ?_
    refine WI.ret ?_
    refine thenQ_ret ?_
    first | refine lfR ?_ | refine lfR2 ?_
    first | rfl | exact ⟨rfl, rfl⟩ | trivial -- leaf 0
  · exfalso
    simp at h0
/-- When the first one is due. -/
def fstL (g : Int) (L : Id) (a : Int) : Int := L.foldl (fun a p => if p.2 + g < a then p.2 + g else a) a
theorem fstL_perm {g : Int} {L R : Id} (h : L.Perm R) (a : Int) : fstL g L a = fstL g R a := by
  refine h.foldl_eq' (fun x _ y _ z => ?_) a
  split <;> split <;> (try split) <;> (try split) <;> first | rfl | omega
theorem fstL_cons (g : Int) (p : Int × Int) (L : Id) (a : Int) : fstL g (p :: L) a = fstL g L (if p.2 + g < a then p.2 + g else a) := rfl
def okL (L : Id) : Prop := nodupM L ∧ (∀ p ∈ L, 0 ≤ p.2 ∧ p.2 ≤ 1099511627776) ∧ L.length ≤ 1000
theorem next50_empty (g : Int) : MCalls Try.prog 12 [.ptr 0 0] [idB g, idM []] (.tup [.x (.int .i64 0), .x (.bool false)]) [idB g, idM []] := by
  refine FCalls.mcalls (fcallsG (fz := true) G_ok (p := i12) rfl _ (Nat.le_of_ble_eq_true rfl) _ (fun C0 E0 => ?_))
  dsimp only [i12, argsφ]
  have uu := trivial
  refine WI.seq ?_
  refine WI.regB noTabs_ok [0] ?_
  iterate 2 refine oS ?_
  refine oN ?_
  refine thenQ_normal ?_
  refine WI.seq ?_
  refine WI.seq ?_
  refine WI.regB noTabs_ok [0, 16] ?_
  refine oS ?_
  refine oG ?_
  refine oS ?_
  iterate 7 refine oG ?_
  refine oN ?_
  refine thenQ_normal ?_
  refine WI.cond (b := _) rfl rfl (fun h0 => ?_) (fun h0 => ?_)
  · try simp only [zB] at h0
    refine WI.seq ?_
    refine WI.regB noTabs_ok [2, 3] ?_
    iterate 2 refine oS ?_
    refine oN ?_
    refine thenQ_normal ?_
    refine WI.ret ?_
    refine thenQ_ret ?_
    first | refine lfR ?_ | refine lfR2 ?_
    first | rfl | exact ⟨rfl, rfl⟩ | trivial -- leaf 0
  · exfalso
    simp at h0
theorem mem_erase {α : Type} {l : List α} {i : Nat} {q : α} (h : l[i]? = some q) : ∀ x, x ∈ l ↔ x = q ∨ x ∈ l.eraseIdx i := by
  intro x
  have hp : l.Perm (q :: l.eraseIdx i) := by
    have hi := (List.getElem?_eq_some_iff.1 h)
    obtain ⟨hi, he⟩ := hi
    rw [List.eraseIdx_eq_take_drop_succ]
    conv => lhs; rw [← List.take_append_drop i l, List.drop_eq_getElem_cons hi, he]
    exact List.perm_middle
  rw [hp.mem_iff, List.mem_cons]
theorem perm_erase {α : Type} {l : List α} {i : Nat} {q : α} (h : l[i]? = some q) : l.Perm (q :: l.eraseIdx i) := by
  obtain ⟨hi, he⟩ := List.getElem?_eq_some_iff.1 h
  rw [List.eraseIdx_eq_take_drop_succ]
  conv => lhs; rw [← List.take_append_drop i l, List.drop_eq_getElem_cons hi, he]
  exact List.perm_middle
theorem next50_c (g : Int) (L : Id) (hg : 1 ≤ g ∧ g ≤ 1073741824) (hL : okL L) (hne : L ≠ []) : MCalls Try.prog 12 [.ptr 0 0] [idB g, idM L] (.tup [.x (.int .i64 (fstL g L 2199023255552)), .x (.bool true)]) [idB g, idM L] := by
  have hlen : 0 < L.length := List.length_pos_iff.2 hne
  refine FCalls.mcalls (fcallsG (fz := true) G_ok (p := i12) rfl _ (Nat.le_of_ble_eq_true rfl) _ (fun C0 E0 => ?_))
  dsimp only [i12, argsφ]
  have uu := trivial
  refine WI.seq ?_
  refine WI.regB noTabs_ok [0] ?_
  iterate 2 refine oS ?_
  refine oN ?_
  refine thenQ_normal ?_
  refine WI.seq ?_
  refine WI.seq ?_
  refine WI.regB noTabs_ok [0, 16] ?_
  refine oS ?_
  refine oG ?_
  refine oS ?_
  iterate 7 refine oG ?_
  refine oN ?_
  refine thenQ_normal ?_
  refine WI.cond (b := _) rfl rfl (fun h0 => ?_) (fun h0 => ?_)
  · exfalso
    simp at h0; subst h0; simp at hlen
  · try simp only [zB] at h0
    refine WI.skip ?_
    refine thenQ_normal ?_
    refine WI.seq ?_
    refine WI.regB noTabs_ok [0, 4] ?_
    refine oS ?_
    refine oN ?_
    refine thenQ_normal ?_
    refine WI.seq ?_
    refine WI.seq ?_
    refine WI.regB noTabs_ok [0, 4, 21] ?_
    iterate 3 refine oS ?_
    iterate 2 refine oG ?_
    refine oN ?_
    refine thenQ_normal ?_
    refine WI.block ?_
    refine WI.loop (fun φ os => ∃ (R : Id) (cur : Option Pr) (a : Int), φ = [(0, .ptr 0 0), (4, .x (.int .i64 a)), (21, .iref 1 2)] ∧ os = [idB g, .mit (.int .i64) false (encI L) 2 (encI R) cur, .itr] ∧ fstL g R a = fstL g L 2199023255552 ∧ ∀ p ∈ R, p ∈ L) (mapI 1) ?_ (fun φ os hI => ?_)
    · exact ⟨L, none, _, rfl, rfl, rfl, fun _ h => h⟩
    · obtain ⟨R, cur, a, rfl, rfl, hf, hR⟩ := hI
      refine WI.seq ?_
      refine WI.nextMA [0, 4, 21, 23] (fun hn5 => ?_) (fun i5 q5 hn5 => ?_)
      · simp only [encM, List.map_eq_nil_iff] at hn5; subst hn5
        refine thenQ_normal ?_
        refine WI.seq ?_
        refine WI.cond (b := _) rfl rfl (fun h1 => ?_) (fun h1 => ?_)
        · exact absurd h1 (by decide)
        · try simp only [zB] at h1
          refine WI.exit ?_
          refine thenQ_exit ?_
          refine thenQ_exit ?_
          refine blockQ_hit ?_
          refine thenQ_normal ?_
          refine WI.seq ?_
          refine WI.regB noTabs_ok [2, 3] ?_
          iterate 3 refine oS ?_
          refine oN ?_
          refine thenQ_normal ?_
          refine WI.pickA [0, 1] ?_
          refine WI.ret ?_
          first | refine lfR ?_ | refine lfR2 ?_
          exact ⟨by rw [← hf]; rfl, rfl⟩ -- leaf 0
      · rw [encM_at] at hn5
        obtain ⟨p, hp, rfl⟩ := Option.map_eq_some_iff.1 hn5
        have hi5 := (List.getElem?_eq_some_iff.1 hp).1
        have hpm := hR p (List.mem_of_getElem? hp)
        have hpb := hL.2.1 p hpm
        have hf2 := (fstL_perm (g := g) (perm_erase hp) a).symm.trans hf
        rw [fstL_cons] at hf2
        have hR2 : ∀ q ∈ R.eraseIdx i5, q ∈ L := fun q hq => hR q (List.mem_of_mem_eraseIdx hq)
        refine thenQ_normal ?_
        refine WI.seq ?_
        refine WI.cond (b := _) rfl rfl (fun h1 => ?_) (fun h1 => ?_)
        · try simp only [zB] at h1
          refine WI.skip ?_
          refine thenQ_normal ?_
          refine WI.block ?_
          refine WI.seq ?_
          refine WI.regB noTabs_ok [0, 4, 6, 21] ?_
          iterate 2 refine oG ?_
          refine oS ?_
          refine oN ?_
          refine thenQ_normal ?_
          refine WI.regB noTabs_ok [0, 4, 21] ?_
          iterate 5 refine oS ?_
          iterate 3 refine oG ?_
          refine oS ?_
          refine oN ?_
          refine blockQ_normal ?_
          refine thenQ_normal ?_
          exact ⟨⟨R.eraseIdx i5, _, _, rfl, rfl, hf2, hR2⟩, by simp only [mapI, List.getElem?_cons_succ, List.getElem?_cons_zero, encM_len, encM_erase]; rw [List.length_eraseIdx, if_pos hi5]; omega⟩
        · exact absurd h1 (by decide)
end Go.Proofs.Ytobflnngfochiaa
end
section
/- slices.Sort of numbers: by the kit's contract. -/
set_option linter.unusedSimpArgs false
set_option linter.unusedVariables false
namespace Go.Proofs.Ytobflnngfochiaa
open Go.RowKit Go.Bo Go.Ab

def srtI (zs : List Int) : List Int := zs.mergeSort fun x y => decide (x ≤ y)
theorem srtI_perm (zs : List Int) : (srtI zs).Perm zs := List.mergeSort_perm ..
theorem srtI_len (zs : List Int) : (srtI zs).length = zs.length := (srtI_perm zs).length_eq
theorem srtI_sorted (zs : List Int) : (srtI zs).Pairwise (· ≤ ·) := by
  have := List.pairwise_mergeSort (le := fun x y : Int => decide (x ≤ y)) (fun a b c h1 h2 => by simp only [decide_eq_true_eq] at *; omega) (fun a b => by simp only [Bool.or_eq_true, decide_eq_true_eq]; omega) zs
  exact this.imp (fun h => by simpa using h)
theorem srtI_of {a b : List Int} (h : a.Perm b) (hb : b.Pairwise (· ≤ ·)) : srtI a = b :=
  List.Perm.eq_of_pairwise (le := (· ≤ ·)) (fun a b _ _ h1 h2 => by omega) (srtI_sorted a) hb ((srtI_perm a).trans h)
theorem sortI_c (e : Nat) (zs : List Int) (hl : zs.length ≤ 1000000) : MCalls Try.prog 13 [.ref 0 zs.length 0 zs.length] [.rows false e 1 (rows (rInt .i64) zs)] (.tup []) [.rows false e 1 (rows (rInt .i64) (srtI zs))] := by
  refine MCalls.turn (fun n : Int => X.int .i64 n) (fun n => Value.int .i64 n) (fun _ _ _ => .int _ _) (fun _ _ _ _ h => by cases h; rfl) (srtI_len zs) (fun h => by subst h; exact List.mergeSort_nil) (fun h p cap w => ?_) (fun g cap w cells hz hc ht hle hm hs => ?_)
  · exact Try.slices_Sort_int_none p cap w
  · have hget : ∀ j (hj : j < zs.length), cells[j]? = some (Value.int .i64 zs[j]) := by
      intro j hj
      have h1 := congrArg (fun l => l[j]?) ht
      simp only [List.getElem?_take, hj, if_true, Array.getElem?_toList, List.getElem?_map, List.getElem?_eq_getElem hj, Option.map_some] at h1
      exact h1
    refine (Try.slices_Sort_int g 0 cap zs w (fun j hj => ?_) (Array.getElem?_eq_some_iff.1 hc).1 (by omega)).mono ?_
    · have hj' : j < zs.length := by simpa using hj
      have hd : zs.toArray[j]! = zs[j] := by simp [hj']
      refine ⟨?_, by simp [World.frozen?, hc]⟩
      rw [hd]
      simp only [World.cell?, hc, Option.isSome_none, Bool.false_eq_true, if_false, Nat.zero_add]
      exact hget j hj'
    · rintro _ w' ⟨rfl, m, os, rfl⟩
      exact ⟨rfl, Go.Proofs.grownBy_sorted_i _, Go.Proofs.ownsRow_sorted_i (ss := zs) (srtI_len zs) (Nat.zero_le _) hc hle hm hs⟩
theorem sortI_enters : Go.Ab.Enters Try.prog 13 := Go.Proofs.enters_of Try.lays189.f189 (by kernel_rfl) rfl
def sortIT : List D → List Ob → Option (Bool × D × List Ob)
  | [.ref 0 e 0 l], [.rows false t 1 R] => (unrows (rInt .i64) R).map fun zs => (decide (e = zs.length ∧ l = zs.length ∧ zs.length ≤ 1000000), .tup [], [.rows false t 1 (rows (rInt .i64) (srtI zs))])
  | _, _ => none
theorem sortIT_ok : ∀ args os r os', sortIT args os = some (true, r, os') → MCalls Try.prog 13 args os r os' := by
  intro args os r os' h
  unfold sortIT at h
  split at h
  · rename_i e l t R
    obtain ⟨zs, h2, h⟩ := Option.map_eq_some_iff.1 h
    simp only [Prod.mk.injEq, decide_eq_true_eq] at h
    obtain ⟨⟨rfl, rfl, h3⟩, rfl, rfl⟩ := h
    rw [← rows_unrows (good_rInt .i64) h2]
    exact sortI_c t zs h3
  · cases h
end Go.Proofs.Ytobflnngfochiaa
end
section
/- Idle: Due. -/
set_option linter.unusedSimpArgs false
set_option linter.unusedVariables false
namespace Go.Proofs.Ytobflnngfochiaa
open Go.RowKit Go.Bo Go.Ab

def tabId2 : Tabs := addT (noTabs) 13 sortIT
theorem tabId2_ok : SsOk Try.prog tabId2 := addT_ok (noTabs_ok) sortI_enters sortIT_ok
theorem tabId2_q13 (a : List D) : tabId2.q 13 a = none := rfl
theorem tabId2_t13 (a : List D) (o : List Ob) : tabId2.t 13 a o = liftT sortIT a o := rfl
theorem tabId2_r (f : FuncId) (a : List D) (o : List Ob) : tabId2.r f a o = none := rfl
theorem tabId2_k (f : FuncId) (a : List D) (o : List Ob) : tabId2.k f a o = none := rfl
def isDue (g now : Int) (p : Int × Int) : Bool := decide (g ≤ now - p.2)
def dueK (g now : Int) (L : Id) : List Int := (L.filter (isDue g now)).map (·.1)
def restL (g now : Int) (L : Id) : Id := L.filter fun p => !isDue g now p
theorem dueK_perm {g now : Int} {L R : Id} (h : L.Perm R) : (dueK g now L).Perm (dueK g now R) := (h.filter _).map _
theorem dueK_cons (g now : Int) (p : Int × Int) (L : Id) : dueK g now (p :: L) = if isDue g now p then p.1 :: dueK g now L else dueK g now L := by
  unfold dueK; rw [List.filter_cons]; split <;> rfl
theorem dueK_le (g now : Int) (L : Id) : (dueK g now L).length ≤ L.length := by simp only [dueK, List.length_map]; exact List.length_filter_le ..
theorem dels_filter : ∀ (ys : List Int) {L : Id}, nodupM L → ys.foldl (fun A c => mdel A c) L = L.filter fun p => decide (p.1 ∉ ys)
  | [], L, h => by simp only [List.foldl_nil, List.not_mem_nil, not_false_eq_true, decide_true]; exact (List.filter_eq_self.2 (fun _ _ => rfl)).symm
  | y :: ys, L, h => by
    have hn : nodupM (mdel L y) := mdel_nodup L y h
    rw [List.foldl_cons, dels_filter ys hn, mdel_filter h, List.filter_filter]
    refine List.filter_congr fun p _ => ?_
    simp only [List.mem_cons, not_or]
    rw [Bool.eq_iff_iff]; simp [and_comm]
theorem dels_due {g now : Int} {L : Id} (h : nodupM L) : (srtI (dueK g now L)).foldl (fun A c => mdel A c) L = restL g now L := by
  rw [dels_filter _ h]
  unfold restL
  refine List.filter_congr fun p hp => ?_
  have : p.1 ∈ srtI (dueK g now L) ↔ isDue g now p = true := by
    rw [(srtI_perm _).mem_iff]
    unfold dueK
    simp only [List.mem_map, List.mem_filter]
    constructor
    · rintro ⟨q, ⟨hq, hd⟩, he⟩
      have h1 := mlook_of_mem h hq
      have h2 := mlook_of_mem h (show (q.1, p.2) ∈ L by rw [he]; exact hp)
      rw [h1] at h2
      have : q = p := Prod.ext he (Option.some.inj h2)
      rw [← this]; exact hd
    · intro hd; exact ⟨p, ⟨hp, hd⟩, rfl⟩
  cases hd : isDue g now p <;> simp [this, hd]
theorem rows_intI (l : List Int) (n : Int) : rows (rInt .i64) l ++ [[X.int .i64 n]] = rows (rInt .i64) (l ++ [n]) := rows_app (rInt .i64) l [n]
theorem due_nil (now : Int) : PCalls Try.prog 11 [.x .nilp, .x (.int .i64 now)] (.x .nils) := by
  refine FCalls.pure (fcallsG (fz := true) G_ok (p := i11) rfl _ (Nat.le_of_ble_eq_true rfl) _ (fun C0 E0 => ?_)) rfl
  dsimp only [i11, argsφ]
  have uu := And.intro @tabId2_r (And.intro @tabId2_k (And.intro @tabId2_q13 (And.intro @tabId2_t13 (And.intro @sortIT.eq_1 (@sortIT.eq_2)))))
  refine WI.seq ?_
  refine WI.regB tabId2_ok [0, 1] ?_
  refine oS ?_
  refine oN ?_
  refine thenQ_normal ?_
  refine WI.seq ?_
  refine WI.seq ?_
  refine WI.regB tabId2_ok [0, 1, 19] ?_
  refine oS ?_
  refine oG ?_
  refine oS ?_
  iterate 3 refine oG ?_
  refine oS ?_
  iterate 3 refine oG ?_
  refine oN ?_
  refine thenQ_normal ?_
  refine WI.cond (b := _) rfl rfl (fun h0 => ?_) (fun h0 => ?_)
  · try simp only [zB] at h0
    refine WI.seq ?_
    refine WI.regB tabId2_ok [4] ?_
    refine oS ?_
    refine oN ?_
    refine thenQ_normal ?_
    refine WI.ret ?_
    refine thenQ_ret ?_
    first | refine lfR ?_ | refine lfR2 ?_
    first | rfl | exact ⟨rfl, rfl⟩ | trivial -- leaf 0
  · exfalso
    simp at h0
theorem due_out (g now : Int) (L : Id) (h : ¬ (0 ≤ now ∧ now ≤ 2199023255552)) : MCalls Try.prog 11 [.ptr 0 0, .x (.int .i64 now)] [idB g, idM L] (.x (.sl [])) [idB g, idM L] := by
  refine FCalls.mcalls (fcallsG (fz := false) G_ok (p := i11) rfl _ (Nat.le_of_ble_eq_true rfl) _ (fun C0 E0 => ?_))
  dsimp only [i11, argsφ]
  have uu := And.intro @tabId2_r (And.intro @tabId2_k (And.intro @tabId2_q13 (And.intro @tabId2_t13 (And.intro @sortIT.eq_1 (@sortIT.eq_2)))))
  refine WI.seq ?_
  refine WI.regB tabId2_ok [0, 1] ?_
  refine oS ?_
  refine oN ?_
  refine thenQ_normal ?_
  refine WI.seq ?_
  refine WI.seq ?_
  refine WI.regB tabId2_ok [0, 1, 19] ?_
  refine oS ?_
  refine oG ?_
  refine oS ?_
  iterate 3 refine oG ?_
  refine oS ?_
  iterate 3 refine oG ?_
  refine oN ?_
  refine thenQ_normal ?_
  refine WI.cond (b := _) rfl rfl (fun h0 => ?_) (fun h0 => ?_)
  · try simp only [zB] at h0
    refine WI.seq ?_
    refine WI.regB tabId2_ok [4] ?_
    refine oS ?_
    refine oN ?_
    refine thenQ_normal ?_
    refine WI.nnA ?_
    refine WI.ret ?_
    refine thenQ_ret ?_
    first | refine lfR ?_ | refine lfR2 ?_
    first | rfl | exact ⟨rfl, rfl⟩ | trivial -- leaf 0
  · exfalso
    simp at h0; omega
theorem due_c (g now : Int) (L : Id) (h : 0 ≤ now ∧ now ≤ 2199023255552) (hg : 1 ≤ g ∧ g ≤ 1073741824) (hL : okL L) : MCalls Try.prog 11 [.ptr 0 0, .x (.int .i64 now)] [idB g, idM L] (.x (.sl (rows (rInt .i64) (srtI (dueK g now L))))) [idB g, idM (restL g now L)] := by
  have hlen := dueK_le g now L
  have hl3 := hL.2.2
  refine FCalls.mcalls (fcallsG (fz := false) G_ok (p := i11) rfl _ (Nat.le_of_ble_eq_true rfl) _ (fun C0 E0 => ?_))
  dsimp only [i11, argsφ]
  have uu := And.intro @srtI_len (And.intro @encI_del (And.intro @rows_intI (And.intro @tabId2_r (And.intro @tabId2_k (And.intro @tabId2_q13 (And.intro @tabId2_t13 (And.intro @sortIT.eq_1 (@sortIT.eq_2))))))))
  refine WI.seq ?_
  refine WI.regB tabId2_ok [0, 1] ?_
  refine oS ?_
  refine oN ?_
  refine thenQ_normal ?_
  refine WI.seq ?_
  refine WI.seq ?_
  refine WI.regB tabId2_ok [0, 1, 19] ?_
  refine oS ?_
  refine oG ?_
  refine oS ?_
  iterate 3 refine oG ?_
  refine oS ?_
  iterate 3 refine oG ?_
  refine oN ?_
  refine thenQ_normal ?_
  refine WI.cond (b := _) rfl rfl (fun h0 => ?_) (fun h0 => ?_)
  · exfalso
    simp at h0; omega
  · try simp only [zB] at h0
    refine WI.skip ?_
    refine thenQ_normal ?_
    refine WI.seq ?_
    refine WI.regB tabId2_ok [0, 1, 5] ?_
    refine oS ?_
    refine oN ?_
    refine thenQ_normal ?_
    refine WI.seq ?_
    refine WI.seq ?_
    refine WI.regB tabId2_ok [0, 1, 5, 24] ?_
    iterate 3 refine oS ?_
    iterate 2 refine oG ?_
    refine oN ?_
    refine thenQ_normal ?_
    refine WI.block ?_
    refine WI.ownA 5 3 1 ?_
    refine WI.loop (fun φ os => ∃ (R : Id) (cur : Option Pr) (out : List Int), φ = [(0, .ptr 0 0), (1, .x (.int .i64 now)), (5, .ref 3 out.length 0 out.length), (24, .iref 1 2)] ∧ os = [idB g, .mit (.int .i64) false (encI L) 2 (encI R) cur, .itr, .rows false 3 1 (rows (rInt .i64) out)] ∧ (out ++ dueK g now R).Perm (dueK g now L) ∧ ∀ p ∈ R, p ∈ L) (mapI 1) ?_ (fun φ os hI => ?_)
    · exact ⟨L, none, [], rfl, rfl, List.Perm.refl _, fun _ h => h⟩
    · obtain ⟨R, cur, out, rfl, rfl, hf, hR⟩ := hI
      refine WI.seq ?_
      refine WI.nextMA [0, 1, 5, 24, 26] (fun hn5 => ?_) (fun i5 q5 hn5 => ?_)
      · simp only [encM, List.map_eq_nil_iff] at hn5; subst hn5
        have ho : out.Perm (dueK g now L) := by simpa [dueK] using hf
        have hol := ho.length_eq
        have hso := srtI_of (ho.trans (srtI_perm (dueK g now L)).symm) (srtI_sorted _)
        refine thenQ_normal ?_
        refine WI.seq ?_
        refine WI.cond (b := _) rfl rfl (fun h1 => ?_) (fun h1 => ?_)
        · exact absurd h1 (by decide)
        · try simp only [zB] at h1
          refine WI.exit ?_
          refine thenQ_exit ?_
          refine thenQ_exit ?_
          refine blockQ_hit ?_
          refine thenQ_normal ?_
          refine WI.seq ?_
          refine WI.regB tabId2_ok [0, 5] ?_
          refine oS ?_
          refine oC ?_
          refine oN ?_
          refine thenQ_normal ?_
          refine WI.seq ?_
          refine WI.seq ?_
          refine WI.pickA [0, 1, 3] ?_
          simp only [hso]
          have hyl : out.length = (srtI (dueK g now L)).length := by rw [srtI_len]; exact hol
          rw [hyl]
          have hdd := dels_due (g := g) (now := now) hL.1
          have hyn := srtI_len (dueK g now L)
          generalize srtI (dueK g now L) = ys at hdd hyn
          refine WI.regB tabId2_ok [0, 5, 44, 45, 46] ?_
          refine oS ?_
          refine oG ?_
          refine oS ?_
          refine oN ?_
          refine thenQ_normal ?_
          refine WI.block ?_
          refine WI.loop (fun φ os => ∃ (j : Nat), φ = [(0, .ptr 0 0), (5, .ref 2 ys.length 0 ys.length), (44, .ref 2 ys.length 0 ys.length), (45, .x (.int .i64 ys.length)), (46, .x (.int .i64 j))] ∧ os = [idB g, idM ((ys.take j).foldl (fun A c => mdel A c) L), .rows false 3 1 (rows (rInt .i64) ys)] ∧ j ≤ ys.length) (down ys.length 46) ?_ (fun φ os hI => ?_)
          · exact ⟨0, rfl, rfl, by omega⟩
          · obtain ⟨j, rfl, rfl, hj⟩ := hI
            refine WI.seq ?_
            refine WI.regB tabId2_ok [0, 5, 44, 45, 46, 47] ?_
            refine oG ?_
            refine oN ?_
            refine thenQ_normal ?_
            refine WI.seq ?_
            refine WI.cond (b := _) rfl rfl (fun h3 => ?_) (fun h3 => ?_)
            · try simp only [zB] at h3
              refine WI.skip ?_
              refine thenQ_normal ?_
              refine WI.seq ?_
              refine WI.block ?_
              refine WI.seq ?_
              refine WI.regB tabId2_ok [0, 5, 9, 44, 45, 46] ?_
              iterate 2 refine oG ?_
              refine oS ?_
              refine oN ?_
              refine thenQ_normal ?_
              refine WI.regB tabId2_ok [0, 5, 44, 45, 46] ?_
              iterate 3 refine oS ?_
              refine oG ?_
              refine oS ?_
              refine oG ?_
              refine oN ?_
              refine blockQ_normal ?_
              refine thenQ_normal ?_
              refine WI.regB tabId2_ok [0, 5, 44, 45, 46] ?_
              refine oG ?_
              refine oS ?_
              refine oN ?_
              refine thenQ_normal ?_
              exact ⟨⟨j + 1, by first | rfl | simp, by rw [List.take_succ_eq_append_getElem (by omega), List.foldl_append]; rfl, by omega⟩, by simp [down, Ab.get, D.val, intOf?]; omega⟩
            · try simp only [zB] at h3
              refine WI.exit ?_
              refine thenQ_exit ?_
              refine thenQ_exit ?_
              refine blockQ_hit ?_
              refine thenQ_normal ?_
              refine WI.seq ?_
              refine WI.regB tabId2_ok [4] ?_
              iterate 2 refine oS ?_
              refine oN ?_
              refine thenQ_normal ?_
              refine WI.freezeA [2] ?_
              refine WI.pickA [0, 1] ?_
              refine WI.ret ?_
              first | refine lfR ?_ | refine lfR2 ?_
              first | exact ⟨rfl, rfl⟩ | (rw [List.take_of_length_le (show ys.length ≤ j by omega), hdd]; exact ⟨rfl, rfl⟩) -- leaf 0
      · rw [encM_at] at hn5
        obtain ⟨p, hp, rfl⟩ := Option.map_eq_some_iff.1 hn5
        have hi5 := (List.getElem?_eq_some_iff.1 hp).1
        have hpm := hR p (List.mem_of_getElem? hp)
        have hpb := hL.2.1 p hpm
        have hf1 := ((dueK_perm (g := g) (now := now) (perm_erase hp)).append_left out).symm.trans hf
        rw [dueK_cons] at hf1
        have hol := hf1.length_eq
        have hR2 : ∀ q ∈ R.eraseIdx i5, q ∈ L := fun q hq => hR q (List.mem_of_mem_eraseIdx hq)
        refine thenQ_normal ?_
        refine WI.seq ?_
        refine WI.cond (b := _) rfl rfl (fun h1 => ?_) (fun h1 => ?_)
        · try simp only [zB] at h1
          refine WI.skip ?_
          refine thenQ_normal ?_
          refine WI.block ?_
          refine WI.seq ?_
          refine WI.regB tabId2_ok [0, 1, 5, 6, 7, 24] ?_
          iterate 3 refine oG ?_
          iterate 2 refine oS ?_
          refine oN ?_
          refine thenQ_normal ?_
          refine WI.seq ?_
          refine WI.regB tabId2_ok [0, 1, 5, 6, 24, 37] ?_
          iterate 2 refine oS ?_
          refine oG ?_
          iterate 3 refine oS ?_
          iterate 2 refine oG ?_
          refine oN ?_
          refine thenQ_normal ?_
          refine WI.cond (b := _) rfl rfl (fun h2 => ?_) (fun h2 => ?_)
          · try simp only [zB] at h2
            have hd : isDue g now p = true := by simp only [isDue, decide_eq_true_eq]; omega
            have hf2 : ((out ++ [p.1]) ++ dueK g now (R.eraseIdx i5)).Perm (dueK g now L) := by rw [hd] at hf1; simpa using hf1
            simp only [hd, if_true, List.length_append, List.length_cons] at hol
            refine WI.post ?_
            refine WI.regB tabId2_ok [0, 1, 5, 24] ?_
            iterate 2 refine oS ?_
            iterate 2 refine oG ?_
            refine oS ?_
            refine oP ?_
            refine pPick [0, 1, 2, 3] ?_
            refine pEnd ?_
            refine blockQ_normal ?_
            refine thenQ_normal ?_
            first | exact ⟨⟨R.eraseIdx i5, _, out ++ [p.1], by first | rfl | (simp; done), rfl, hf2, hR2⟩, by simp only [mapI, List.getElem?_cons_succ, List.getElem?_cons_zero, encM_len, encM_erase]; rw [List.length_eraseIdx, if_pos hi5]; omega⟩ | exact ⟨⟨R.eraseIdx i5, _, out, by first | rfl | (simp; done), rfl, hf2, hR2⟩, by simp only [mapI, List.getElem?_cons_succ, List.getElem?_cons_zero, encM_len, encM_erase]; rw [List.length_eraseIdx, if_pos hi5]; omega⟩
          · try simp only [zB] at h2
            have hd : isDue g now p = false := by simp only [isDue, decide_eq_false_iff_not]; omega
            have hf2 : (out ++ dueK g now (R.eraseIdx i5)).Perm (dueK g now L) := by rw [hd] at hf1; simpa using hf1
            refine WI.orderA [0, 1, 5, 24] ?_
            refine WI.skip ?_
            refine blockQ_normal ?_
            refine thenQ_normal ?_
            first | exact ⟨⟨R.eraseIdx i5, _, out ++ [p.1], by first | rfl | (simp; done), rfl, hf2, hR2⟩, by simp only [mapI, List.getElem?_cons_succ, List.getElem?_cons_zero, encM_len, encM_erase]; rw [List.length_eraseIdx, if_pos hi5]; omega⟩ | exact ⟨⟨R.eraseIdx i5, _, out, by first | rfl | (simp; done), rfl, hf2, hR2⟩, by simp only [mapI, List.getElem?_cons_succ, List.getElem?_cons_zero, encM_len, encM_erase]; rw [List.length_eraseIdx, if_pos hi5]; omega⟩
        · exact absurd h1 (by decide)
end Go.Proofs.Ytobflnngfochiaa
end
section
/- Idle: the law's lists. -/
set_option linter.unusedSimpArgs false
set_option linter.unusedVariables false
namespace Go.Proofs.Ytobflnngfochiaa
open Go.RowKit Go.Bo Go.Ab

abbrev rP : RC (Int × Int) := rVia (rCat (rInt .i64) (rCat (rInt .i64) rEnd)) (fun p => (p.1, p.2, ())) (fun q => (q.1, q.2.1))
theorem good_rP : rP.Good := good_rVia (good_rCat (good_rInt .i64) (good_rCat (good_rInt .i64) good_rEnd)) (fun _ => rfl) (fun _ => rfl)
theorem rP_all (l : Id) : ((rows rP l).all fun r => decide (r.length = 2)) = true := rows_all good_rP l 2 rfl
theorem rP_snoc (l : Id) (p : Int × Int) : rows rP l ++ [[X.int .i64 p.1, X.int .i64 p.2]] = rows rP (l ++ [p]) := rows_app rP l [p]
theorem un_rP (l : Id) : unrows rP (rows rP l) = some l := unrows_rows good_rP l
def outL (l : Id) (c : Int) : Id := l.filter fun p => decide (p.1 ≠ c)
theorem outL_le (l : Id) (c : Int) : (outL l c).length ≤ l.length := List.length_filter_le ..
theorem outL_snoc (l : Id) (c : Int) (p : Int × Int) : outL (l ++ [p]) c = if p.1 ≠ c then outL l c ++ [p] else outL l c := by
  simp only [outL, List.filter_append, List.filter_cons, List.filter_nil]
  split <;> rename_i h <;> simp at h <;> simp [h]
theorem out50_c (l : Id) (c : Int) (hl : l.length ≤ 1000000) : PCalls Try.prog 9 [.x (.sl (rows rP l)), .x (.int .i64 c)] (.x (.sl (rows rP (outL l c)))) := by
  have hle := outL_le l c
  refine FCalls.pure (fcallsG (fz := true) G_ok (p := i9) rfl _ (Nat.le_of_ble_eq_true rfl) _ (fun C0 E0 => ?_)) rfl
  dsimp only [i9, argsφ]
  have uu := And.intro @rP_all (@rP_snoc)
  refine WI.seq ?_
  refine WI.regB noTabs_ok [0, 1] ?_
  refine oS ?_
  refine oN ?_
  refine thenQ_normal ?_
  refine WI.seq ?_
  refine WI.regB noTabs_ok [0, 1, 5] ?_
  refine oS ?_
  refine oN ?_
  refine thenQ_normal ?_
  refine WI.seq ?_
  refine WI.seq ?_
  refine WI.regB noTabs_ok [0, 1, 5, 6] ?_
  refine oS ?_
  refine oN ?_
  refine thenQ_normal ?_
  refine WI.block ?_
  refine WI.ownA 5 34 2 ?_
  refine WI.loop (fun φ os => ∃ (j : Nat) (o : Id), φ = [(0, .x (.sl (rows rP l))), (1, .x (.int .i64 c)), (5, .ref 0 o.length 0 o.length), (6, .x (.int .i64 j))] ∧ os = [.rows false 34 2 (rows rP o)] ∧ j ≤ l.length ∧ o = outL (l.take j) c ∧ o.length ≤ j) (down l.length 6) ?_ (fun φ os hI => ?_)
  · exact ⟨0, [], rfl, rfl, by omega, rfl, by simp⟩
  · obtain ⟨j, o, rfl, rfl, hj, ho, hoj⟩ := hI
    refine WI.seq ?_
    refine WI.seq ?_
    refine WI.regB noTabs_ok [0, 1, 5, 6, 10] ?_
    iterate 2 refine oS ?_
    iterate 2 refine oG ?_
    refine oN ?_
    refine thenQ_normal ?_
    refine WI.cond (b := _) rfl rfl (fun h0 => ?_) (fun h0 => ?_)
    · try simp only [zB] at h0
      refine WI.skip ?_
      refine thenQ_normal ?_
      refine WI.seq ?_
      refine WI.block ?_
      refine WI.seq ?_
      have hj4 : j < l.length := by omega
      refine WI.regB noTabs_ok [0, 1, 5, 6, 19] ?_
      iterate 2 refine oS ?_
      refine oG ?_
      refine oS ?_
      refine oG ?_
      refine oS ?_
      refine oG ?_
      refine oN ?_
      refine thenQ_normal ?_
      refine WI.cond (b := _) rfl rfl (fun h1 => ?_) (fun h1 => ?_)
      · try simp only [zB] at h1
        refine WI.post ?_
        refine WI.regB noTabs_ok [0, 1, 5, 6] ?_
        iterate 3 refine oS ?_
        iterate 4 refine oG ?_
        refine oS ?_
        refine oP ?_
        refine pPick [0] ?_
        refine pEnd ?_
        refine blockQ_normal ?_
        refine thenQ_normal ?_
        refine WI.regB noTabs_ok [0, 1, 5, 6] ?_
        refine oS ?_
        refine oG ?_
        refine oS ?_
        refine oN ?_
        refine thenQ_normal ?_
        first | exact ⟨⟨j + 1, o ++ [l[j]], by simp, rfl, by omega, by rw [List.take_succ_eq_append_getElem hj4, outL_snoc, if_pos (by omega), ho], by simp; omega⟩, by simp [down, Ab.get, D.val, intOf?]; omega⟩ | exact ⟨⟨j + 1, o, by simp, rfl, by omega, by rw [List.take_succ_eq_append_getElem hj4, outL_snoc, if_neg (by omega), ho], by omega⟩, by simp [down, Ab.get, D.val, intOf?]; omega⟩
      · try simp only [zB] at h1
        refine WI.skip ?_
        refine blockQ_normal ?_
        refine thenQ_normal ?_
        refine WI.regB noTabs_ok [0, 1, 5, 6] ?_
        refine oS ?_
        refine oG ?_
        refine oS ?_
        refine oN ?_
        refine thenQ_normal ?_
        first | exact ⟨⟨j + 1, o ++ [l[j]], by simp, rfl, by omega, by rw [List.take_succ_eq_append_getElem hj4, outL_snoc, if_pos (by omega), ho], by simp; omega⟩, by simp [down, Ab.get, D.val, intOf?]; omega⟩ | exact ⟨⟨j + 1, o, by simp, rfl, by omega, by rw [List.take_succ_eq_append_getElem hj4, outL_snoc, if_neg (by omega), ho], by omega⟩, by simp [down, Ab.get, D.val, intOf?]; omega⟩
    · try simp only [zB] at h0
      refine WI.exit ?_
      refine thenQ_exit ?_
      refine thenQ_exit ?_
      refine blockQ_hit ?_
      refine thenQ_normal ?_
      refine WI.seq ?_
      refine WI.regB noTabs_ok [4] ?_
      iterate 2 refine oS ?_
      refine oN ?_
      refine thenQ_normal ?_
      refine WI.ret ?_
      first | refine lfR ?_ | refine lfR2 ?_
      rw [List.take_of_length_le (by omega)] at ho; subst ho; rfl -- leaf 0
def lowN (m : Id) (c : Int) : Nat := (m.takeWhile fun q => decide (q.1 < c)).length
theorem lowN_le (m : Id) (c : Int) : lowN m c ≤ m.length := by unfold lowN; exact (List.takeWhile_sublist _).length_le
theorem lowN_drop (m : Id) (c : Int) (j : Nat) (h : j < m.length) : lowN (m.drop j) c = if m[j].1 < c then lowN (m.drop (j + 1)) c + 1 else 0 := by
  rw [List.drop_eq_getElem_cons h]
  unfold lowN
  rw [List.takeWhile_cons]
  split <;> rename_i h1 <;> simp at h1
  · rw [if_pos h1]; rfl
  · rw [if_neg (by omega)]; rfl
def putL (l : Id) (p : Int × Int) : Id := ((outL l p.1).take (lowN (outL l p.1) p.1) ++ [p]) ++ (outL l p.1).drop (lowN (outL l p.1) p.1)
def out50G : List D → Option (Bool × D)
  | [.x (.sl R), .x (.int .i64 c)] => (unrows rP R).bind fun l => some (decide (l.length ≤ 1000000), .x (.sl (rows rP (outL l c))))
  | _ => none
theorem out50G_ok : ∀ args r, out50G args = some (true, r) → PCalls Try.prog 9 args r := by
  intro args r h
  unfold out50G at h
  split at h
  · rename_i R c
    obtain ⟨l, hr0, h⟩ := Option.bind_eq_some_iff.1 h
    simp only [Option.some.injEq, Prod.mk.injEq, Bool.and_eq_true, decide_eq_true_eq, true_and] at h
    obtain ⟨h1, rfl⟩ := h
    rw [← rows_unrows good_rP hr0]
    exact (out50_c l c h1)
  · cases h
def tabId3 : Tabs := addQ (noTabs) 9 (viaNN out50G)
theorem tabId3_ok : SsOk Try.prog tabId3 := addQ_ok (noTabs_ok) (G_enters G_ok (p := i9) rfl) (viaNN_ok out50G_ok)
theorem tabId3_q9 (a : List D) : tabId3.q 9 a = viaNN out50G a := rfl
theorem tabId3_r (f : FuncId) (a : List D) (o : List Ob) : tabId3.r f a o = none := rfl
theorem tabId3_k (f : FuncId) (a : List D) (o : List Ob) : tabId3.k f a o = none := rfl
theorem put50_c (l : Id) (c n : Int) (hl : l.length ≤ 1000) : PCalls Try.prog 8 [.x (.sl (rows rP l)), .agg [.x (.int .i64 c), .x (.int .i64 n)]] (.x (.sl (rows rP (putL l (c, n))))) := by
  have hle := outL_le l c
  have hlo := lowN_le (outL l c) c
  refine FCalls.pure (fcallsG (fz := true) G_ok (p := i8) rfl _ (Nat.le_of_ble_eq_true rfl) _ (fun C0 E0 => ?_)) rfl
  dsimp only [i8, argsφ]
  have uu := And.intro @rP_all (And.intro @rP_snoc (And.intro @out50G.eq_1 (And.intro @out50G.eq_2 (And.intro @un_rP (And.intro @tabId3_r (And.intro @tabId3_k (@tabId3_q9)))))))
  refine WI.seq ?_
  refine WI.regB tabId3_ok [0, 3] ?_
  refine oG (hok := by first | with_reducible rfl | omega | (simp only [Bool.and_eq_true, decide_eq_true_eq, true_and, List.length_append, rows_len, List.length_take, List.length_drop, List.length_cons, List.length_nil]; omega) | (simp; done) | (simp; omega) | rfl) ?_
  refine oS ?_
  refine oN ?_
  refine thenQ_normal ?_
  refine WI.seq ?_
  refine WI.regB tabId3_ok [0, 3] ?_
  iterate 2 refine oS ?_
  refine oG (hok := by first | with_reducible rfl | omega | (simp only [Bool.and_eq_true, decide_eq_true_eq, true_and, List.length_append, rows_len, List.length_take, List.length_drop, List.length_cons, List.length_nil]; omega) | (simp; done) | (simp; omega) | rfl) ?_
  refine oC (hok := by first | with_reducible rfl | omega | (simp only [Bool.and_eq_true, decide_eq_true_eq, true_and, List.length_append, rows_len, List.length_take, List.length_drop, List.length_cons, List.length_nil]; omega) | (simp; done) | (simp; omega) | rfl) ?_
  refine oS ?_
  refine oN ?_
  refine thenQ_normal ?_
  refine WI.seq ?_
  have hm : outL l c = outL l c := rfl
  unfold putL
  generalize outL l c = m at hle hlo
  refine WI.regB tabId3_ok [0, 3, 5] ?_
  refine oS ?_
  refine oN ?_
  refine thenQ_normal ?_
  refine WI.seq ?_
  refine WI.block ?_
  refine WI.loop (fun φ os => ∃ (j : Nat), φ = [(0, .x (.sl (rows rP m))), (3, .ptr 0 0), (5, .x (.int .i64 j))] ∧ os = [.box [.x (.int .i64 c), .x (.int .i64 n)]] ∧ j ≤ m.length ∧ lowN m c = j + lowN (m.drop j) c) (down m.length 5) ?_ (fun φ os hI => ?_)
  · exact ⟨0, rfl, rfl, by omega, by simp⟩
  · obtain ⟨j, rfl, rfl, hj, hx⟩ := hI
    refine WI.seq ?_
    refine WI.seq ?_
    by_cases hjm : j < m.length
    · have hd := decide_eq_true (show (j : Int) < (m.length : Int) by omega)
      have uu := And.intro uu hd
      refine WI.dregB tabId3_ok [0, 3, 5, 24] ?_
      iterate 2 refine dFS ?_
      refine dQG (hok := by first | with_reducible rfl | omega | (simp only [Bool.and_eq_true, decide_eq_true_eq, true_and, List.length_append, rows_len, List.length_take, List.length_drop, List.length_cons, List.length_nil]; omega) | (simp; done) | (simp; omega) | rfl) ?_
      refine dFG (hok := by first | with_reducible rfl | omega | (simp only [Bool.and_eq_true, decide_eq_true_eq, true_and, List.length_append, rows_len, List.length_take, List.length_drop, List.length_cons, List.length_nil]; omega) | (simp; done) | (simp; omega) | rfl) ?_
      refine dFS ?_
      iterate 2 refine dFG (hok := by first | with_reducible rfl | omega | (simp only [Bool.and_eq_true, decide_eq_true_eq, true_and, List.length_append, rows_len, List.length_take, List.length_drop, List.length_cons, List.length_nil]; omega) | (simp; done) | (simp; omega) | rfl) ?_
      refine dQG (hok := by first | with_reducible rfl | omega | (simp only [Bool.and_eq_true, decide_eq_true_eq, true_and, List.length_append, rows_len, List.length_take, List.length_drop, List.length_cons, List.length_nil]; omega) | (simp; done) | (simp; omega) | rfl) ?_
      refine dFG (hok := by first | with_reducible rfl | omega | (simp only [Bool.and_eq_true, decide_eq_true_eq, true_and, List.length_append, rows_len, List.length_take, List.length_drop, List.length_cons, List.length_nil]; omega) | (simp; done) | (simp; omega) | rfl) ?_
      refine dQG (hok := by first | with_reducible rfl | omega | (simp only [Bool.and_eq_true, decide_eq_true_eq, true_and, List.length_append, rows_len, List.length_take, List.length_drop, List.length_cons, List.length_nil]; omega) | (simp; done) | (simp; omega) | rfl) ?_
      refine dFG (hok := by first | with_reducible rfl | omega | (simp only [Bool.and_eq_true, decide_eq_true_eq, true_and, List.length_append, rows_len, List.length_take, List.length_drop, List.length_cons, List.length_nil]; omega) | (simp; done) | (simp; omega) | rfl) ?_
      refine dQG (hok := by first | with_reducible rfl | omega | (simp only [Bool.and_eq_true, decide_eq_true_eq, true_and, List.length_append, rows_len, List.length_take, List.length_drop, List.length_cons, List.length_nil]; omega) | (simp; done) | (simp; omega) | rfl) ?_
      iterate 2 refine dFG (hok := by first | with_reducible rfl | omega | (simp only [Bool.and_eq_true, decide_eq_true_eq, true_and, List.length_append, rows_len, List.length_take, List.length_drop, List.length_cons, List.length_nil]; omega) | (simp; done) | (simp; omega) | rfl) ?_
      refine dN ?_
      refine thenQ_normal ?_
      refine WI.cond (b := _) rfl rfl (fun h0 => ?_) (fun h0 => ?_)
      · try simp only [zB] at h0
        refine WI.skip ?_
        refine thenQ_normal ?_
        refine WI.block ?_
        refine WI.regB tabId3_ok [0, 3, 5] ?_
        refine oS ?_
        refine oG (hok := by first | with_reducible rfl | omega | (simp only [Bool.and_eq_true, decide_eq_true_eq, true_and, List.length_append, rows_len, List.length_take, List.length_drop, List.length_cons, List.length_nil]; omega) | (simp; done) | (simp; omega) | rfl) ?_
        refine oS ?_
        refine oN ?_
        refine blockQ_normal ?_
        refine thenQ_normal ?_
        exact ⟨⟨j + 1, rfl, rfl, by omega, by rw [hx, lowN_drop m c j hjm, if_pos (by omega)]; omega⟩, by simp [down, Ab.get, D.val, intOf?]; omega⟩
      · try simp only [zB] at h0
        have hk : lowN m c = j := by rw [hx, lowN_drop m c j hjm, if_neg (by simpa using h0)]; rfl
        refine WI.exit ?_
        refine thenQ_exit ?_
        refine thenQ_exit ?_
        refine blockQ_hit ?_
        refine thenQ_normal ?_
        refine WI.seq ?_
        refine WI.regB tabId3_ok [0, 3, 5, 6] ?_
        refine oS ?_
        refine oN ?_
        refine thenQ_normal ?_
        refine WI.seq ?_
        refine WI.regB tabId3_ok [0, 3, 5, 6] ?_
        iterate 3 refine oS ?_
        iterate 2 refine oG (hok := by first | with_reducible rfl | omega | (simp only [Bool.and_eq_true, decide_eq_true_eq, true_and, List.length_append, rows_len, List.length_take, List.length_drop, List.length_cons, List.length_nil]; omega) | (simp; done) | (simp; omega) | rfl) ?_
        refine oS ?_
        refine oN ?_
        refine thenQ_normal ?_
        refine WI.seq ?_
        refine WI.regB tabId3_ok [0, 5, 6] ?_
        refine oS ?_
        iterate 3 refine oG (hok := by first | with_reducible rfl | omega | (simp only [Bool.and_eq_true, decide_eq_true_eq, true_and, List.length_append, rows_len, List.length_take, List.length_drop, List.length_cons, List.length_nil]; omega) | (simp; done) | (simp; omega) | rfl) ?_
        refine oS ?_
        refine oN ?_
        refine thenQ_normal ?_
        refine WI.seq ?_
        refine WI.regB tabId3_ok [4] ?_
        iterate 3 refine oS ?_
        iterate 2 refine oG (hok := by first | with_reducible rfl | omega | (simp only [Bool.and_eq_true, decide_eq_true_eq, true_and, List.length_append, rows_len, List.length_take, List.length_drop, List.length_cons, List.length_nil]; omega) | (simp; done) | (simp; omega) | rfl) ?_
        refine oS ?_
        refine oN ?_
        refine thenQ_normal ?_
        refine WI.ret ?_
        first | refine lfR ?_ | refine lfR2 ?_
        simp only [hk]; rw [rP_snoc (m.take j) (c, n), rows_app, List.take_of_length_le (by simp only [rows_len, List.length_append, List.length_take, List.length_drop, List.length_cons, List.length_nil]; omega)] -- leaf 0
    · have hg : (rows rP m)[j]? = none := List.getElem?_eq_none (by rw [rows_len]; omega)
      have hd := decide_eq_false (show ¬ (j : Int) < (m.length : Int) by omega)
      have uu := And.intro uu (And.intro hg hd)
      refine WI.dregB tabId3_ok [0, 3, 5, 24] ?_
      iterate 2 refine dFS ?_
      refine dQG (hok := by first | with_reducible rfl | omega | (simp only [Bool.and_eq_true, decide_eq_true_eq, true_and, List.length_append, rows_len, List.length_take, List.length_drop, List.length_cons, List.length_nil]; omega) | (simp; done) | (simp; omega) | rfl) ?_
      refine dFG (hok := by first | with_reducible rfl | omega | (simp only [Bool.and_eq_true, decide_eq_true_eq, true_and, List.length_append, rows_len, List.length_take, List.length_drop, List.length_cons, List.length_nil]; omega) | (simp; done) | (simp; omega) | rfl) ?_
      refine dFS ?_
      iterate 2 refine dFG (hok := by first | with_reducible rfl | omega | (simp only [Bool.and_eq_true, decide_eq_true_eq, true_and, List.length_append, rows_len, List.length_take, List.length_drop, List.length_cons, List.length_nil]; omega) | (simp; done) | (simp; omega) | rfl) ?_
      refine dQG (hok := by first | with_reducible rfl | omega | (simp only [Bool.and_eq_true, decide_eq_true_eq, true_and, List.length_append, rows_len, List.length_take, List.length_drop, List.length_cons, List.length_nil]; omega) | (simp; done) | (simp; omega) | rfl) ?_
      refine dFG (hok := by first | with_reducible rfl | omega | (simp only [Bool.and_eq_true, decide_eq_true_eq, true_and, List.length_append, rows_len, List.length_take, List.length_drop, List.length_cons, List.length_nil]; omega) | (simp; done) | (simp; omega) | rfl) ?_
      refine dQG (hok := by first | with_reducible rfl | omega | (simp only [Bool.and_eq_true, decide_eq_true_eq, true_and, List.length_append, rows_len, List.length_take, List.length_drop, List.length_cons, List.length_nil]; omega) | (simp; done) | (simp; omega) | rfl) ?_
      refine dFG (hok := by first | with_reducible rfl | omega | (simp only [Bool.and_eq_true, decide_eq_true_eq, true_and, List.length_append, rows_len, List.length_take, List.length_drop, List.length_cons, List.length_nil]; omega) | (simp; done) | (simp; omega) | rfl) ?_
      refine dQG (hok := by first | with_reducible rfl | omega | (simp only [Bool.and_eq_true, decide_eq_true_eq, true_and, List.length_append, rows_len, List.length_take, List.length_drop, List.length_cons, List.length_nil]; omega) | (simp; done) | (simp; omega) | rfl) ?_
      iterate 2 refine dFG (hok := by first | with_reducible rfl | omega | (simp only [Bool.and_eq_true, decide_eq_true_eq, true_and, List.length_append, rows_len, List.length_take, List.length_drop, List.length_cons, List.length_nil]; omega) | (simp; done) | (simp; omega) | rfl) ?_
      refine dN ?_
      refine thenQ_normal ?_
      refine WI.cond (b := _) rfl rfl (fun h0 => ?_) (fun h0 => ?_)
      · exfalso
        simp at h0
      · try simp only [zB] at h0
        have hk : lowN m c = j := by rw [hx, List.drop_of_length_le (by omega)]; rfl
        refine WI.exit ?_
        refine thenQ_exit ?_
        refine thenQ_exit ?_
        refine blockQ_hit ?_
        refine thenQ_normal ?_
        refine WI.seq ?_
        refine WI.regB tabId3_ok [0, 3, 5, 6] ?_
        refine oS ?_
        refine oN ?_
        refine thenQ_normal ?_
        refine WI.seq ?_
        refine WI.regB tabId3_ok [0, 3, 5, 6] ?_
        iterate 3 refine oS ?_
        iterate 2 refine oG (hok := by first | with_reducible rfl | omega | (simp only [Bool.and_eq_true, decide_eq_true_eq, true_and, List.length_append, rows_len, List.length_take, List.length_drop, List.length_cons, List.length_nil]; omega) | (simp; done) | (simp; omega) | rfl) ?_
        refine oS ?_
        refine oN ?_
        refine thenQ_normal ?_
        refine WI.seq ?_
        refine WI.regB tabId3_ok [0, 5, 6] ?_
        refine oS ?_
        iterate 3 refine oG (hok := by first | with_reducible rfl | omega | (simp only [Bool.and_eq_true, decide_eq_true_eq, true_and, List.length_append, rows_len, List.length_take, List.length_drop, List.length_cons, List.length_nil]; omega) | (simp; done) | (simp; omega) | rfl) ?_
        refine oS ?_
        refine oN ?_
        refine thenQ_normal ?_
        refine WI.seq ?_
        refine WI.regB tabId3_ok [4] ?_
        iterate 3 refine oS ?_
        iterate 2 refine oG (hok := by first | with_reducible rfl | omega | (simp only [Bool.and_eq_true, decide_eq_true_eq, true_and, List.length_append, rows_len, List.length_take, List.length_drop, List.length_cons, List.length_nil]; omega) | (simp; done) | (simp; omega) | rfl) ?_
        refine oS ?_
        refine oN ?_
        refine thenQ_normal ?_
        refine WI.ret ?_
        first | refine lfR ?_ | refine lfR2 ?_
        simp only [hk]; rw [rP_snoc (m.take j) (c, n), rows_app, List.take_of_length_le (by simp only [rows_len, List.length_append, List.length_take, List.length_drop, List.length_cons, List.length_nil]; omega)] -- leaf 1
end Go.Proofs.Ytobflnngfochiaa
end
section
/- Idle: tables, awake. -/
set_option linter.unusedSimpArgs false
set_option linter.unusedVariables false
namespace Go.Proofs.Ytobflnngfochiaa
open Go.RowKit Go.Bo Go.Ab

def inR (now : Int) : Prop := 0 ≤ now ∧ now ≤ 2199023255552
instance (now : Int) : Decidable (inR now) := inferInstanceAs (Decidable (_ ∧ _))
def gotL (g now : Int) (L : Id) : List Int := if inR now then srtI (dueK g now L) else []
def aftL (g now : Int) (L : Id) : Id := if inR now then restL g now L else L
instance (L : Id) : Decidable (nodupM L) := inferInstanceAs (Decidable (List.Nodup _))
instance (L : Id) : Decidable (okL L) := inferInstanceAs (Decidable (_ ∧ _ ∧ _))
theorem due50_c (g now : Int) (L : Id) (hg : 1 ≤ g ∧ g ≤ 1073741824) (hL : okL L) : MCalls Try.prog 11 [.ptr 0 0, .x (.int .i64 now)] [idB g, idM L] (.x (.sl (rows (rInt .i64) (gotL g now L)))) [idB g, idM (aftL g now L)] := by
  unfold gotL aftL
  by_cases h : inR now
  · rw [if_pos h, if_pos h]; exact due_c g now L h hg hL
  · rw [if_neg h, if_neg h]; exact due_out g now L h
def nxtL (g : Int) (L : Id) : Int := if L = [] then 0 else fstL g L 2199023255552
theorem nx50_c (g : Int) (L : Id) (hg : 1 ≤ g ∧ g ≤ 1073741824) (hL : okL L) : MCalls Try.prog 12 [.ptr 0 0] [idB g, idM L] (.tup [.x (.int .i64 (nxtL g L)), .x (.bool (decide (0 < L.length)))]) [idB g, idM L] := by
  unfold nxtL
  by_cases h : L = []
  · subst h; exact next50_empty g
  · rw [if_neg h, decide_eq_true (List.length_pos_iff.2 h)]; exact next50_c g L hg hL h
def new50T : List D → List Ob → Option (Bool × D × List Ob)
  | [.x (.int .i64 g)], [] => if 1 ≤ g ∧ g ≤ 1073741824 then some (true, .tup [.ptr 1 0, .x (.int .i64 0)], [.mpo (.int .i64) false [], .box [.mref 0, .x (.int .i64 g)]]) else some (true, .tup [.x .nilp, .x (.int .i64 1)], [])
  | _, _ => none
theorem new50T_ok : ∀ args os r os', new50T args os = some (true, r, os') → MCalls Try.prog 6 args os r os' := by
  intro args os r os' h
  unfold new50T at h
  split at h
  · rename_i g
    split at h
    · rename_i hg
      simp only [Option.some.injEq, Prod.mk.injEq, true_and] at h
      obtain ⟨rfl, rfl⟩ := h
      exact new50_ok g hg
    · rename_i hg
      simp only [Option.some.injEq, Prod.mk.injEq, true_and] at h
      obtain ⟨rfl, rfl⟩ := h
      exact new50_bad g hg
  · cases h
def touchT : List D → List Ob → Option (Bool × D × List Ob)
  | [.ptr 0 0, .x (.int .i64 c), .x (.int .i64 n)], [.box [.mref 1, .x (.int .i64 g)], .mpo (.int .i64) false M] => (unM (rInt .i64) (rInt .i64) M).bind fun L => some (true, .tup [], [idB g, idM (tchL L c n)])
  | _, _ => none
theorem touchT_ok : ∀ args os r os', touchT args os = some (true, r, os') → MCalls Try.prog 7 args os r os' := by
  intro args os r os' h
  unfold touchT at h
  split at h
  · rename_i c n g M
    obtain ⟨L, hm0, h⟩ := Option.bind_eq_some_iff.1 h
    simp only [Option.some.injEq, Prod.mk.injEq, Bool.and_eq_true, decide_eq_true_eq, true_and] at h
    obtain ⟨rfl, rfl⟩ := h
    rw [unM_inv (good_rInt .i64) (good_rInt .i64) hm0]
    exact touch_c g c n L
  · cases h
def drop50T : List D → List Ob → Option (Bool × D × List Ob)
  | [.ptr 0 0, .x (.int .i64 c)], [.box [.mref 1, .x (.int .i64 g)], .mpo (.int .i64) false M] => (unM (rInt .i64) (rInt .i64) M).bind fun L => some (true, .x (.bool (mlook L c).isSome), [idB g, idM (mdel L c)])
  | _, _ => none
theorem drop50T_ok : ∀ args os r os', drop50T args os = some (true, r, os') → MCalls Try.prog 10 args os r os' := by
  intro args os r os' h
  unfold drop50T at h
  split at h
  · rename_i c g M
    obtain ⟨L, hm0, h⟩ := Option.bind_eq_some_iff.1 h
    simp only [Option.some.injEq, Prod.mk.injEq, Bool.and_eq_true, decide_eq_true_eq, true_and] at h
    obtain ⟨rfl, rfl⟩ := h
    rw [unM_inv (good_rInt .i64) (good_rInt .i64) hm0]
    exact drop50_c g c L
  · cases h
def due50T : List D → List Ob → Option (Bool × D × List Ob)
  | [.ptr 0 0, .x (.int .i64 now)], [.box [.mref 1, .x (.int .i64 g)], .mpo (.int .i64) false M] => (unM (rInt .i64) (rInt .i64) M).bind fun L => some (decide ((1 ≤ g ∧ g ≤ 1073741824) ∧ okL L), .x (.sl (rows (rInt .i64) (gotL g now L))), [idB g, idM (aftL g now L)])
  | _, _ => none
theorem due50T_ok : ∀ args os r os', due50T args os = some (true, r, os') → MCalls Try.prog 11 args os r os' := by
  intro args os r os' h
  unfold due50T at h
  split at h
  · rename_i now g M
    obtain ⟨L, hm0, h⟩ := Option.bind_eq_some_iff.1 h
    simp only [Option.some.injEq, Prod.mk.injEq, Bool.and_eq_true, decide_eq_true_eq, true_and] at h
    obtain ⟨h1, rfl, rfl⟩ := h
    rw [unM_inv (good_rInt .i64) (good_rInt .i64) hm0]
    exact due50_c g now L h1.1 h1.2
  · cases h
def nx50T : List D → List Ob → Option (Bool × D × List Ob)
  | [.ptr 0 0], [.box [.mref 1, .x (.int .i64 g)], .mpo (.int .i64) false M] => (unM (rInt .i64) (rInt .i64) M).bind fun L => some (decide ((1 ≤ g ∧ g ≤ 1073741824) ∧ okL L), .tup [.x (.int .i64 (nxtL g L)), .x (.bool (decide (0 < L.length)))], [idB g, idM L])
  | _, _ => none
theorem nx50T_ok : ∀ args os r os', nx50T args os = some (true, r, os') → MCalls Try.prog 12 args os r os' := by
  intro args os r os' h
  unfold nx50T at h
  split at h
  · rename_i g M
    obtain ⟨L, hm0, h⟩ := Option.bind_eq_some_iff.1 h
    simp only [Option.some.injEq, Prod.mk.injEq, Bool.and_eq_true, decide_eq_true_eq, true_and] at h
    obtain ⟨h1, rfl, rfl⟩ := h
    rw [unM_inv (good_rInt .i64) (good_rInt .i64) hm0]
    exact nx50_c g L h1.1 h1.2
  · cases h
theorem un_I (L : Id) : unM (rInt .i64) (rInt .i64) (encI L) = some L := un_M (good_rInt .i64) (good_rInt .i64) L
theorem un_I0 : unM (rInt .i64) (rInt .i64) [] = some [] := rfl
def tabId4 : Tabs := addT (addT (addT (addT (addT (noTabs) 6 new50T) 7 touchT) 10 drop50T) 11 due50T) 12 nx50T
theorem tabId4_ok : SsOk Try.prog tabId4 := addT_ok (addT_ok (addT_ok (addT_ok (addT_ok (noTabs_ok) (G_enters G_ok (p := i6) rfl) new50T_ok) (G_enters G_ok (p := i7) rfl) touchT_ok) (G_enters G_ok (p := i10) rfl) drop50T_ok) (G_enters G_ok (p := i11) rfl) due50T_ok) (G_enters G_ok (p := i12) rfl) nx50T_ok
theorem tabId4_q6 (a : List D) : tabId4.q 6 a = none := rfl
theorem tabId4_t6 (a : List D) (o : List Ob) : tabId4.t 6 a o = liftT new50T a o := rfl
theorem tabId4_q7 (a : List D) : tabId4.q 7 a = none := rfl
theorem tabId4_t7 (a : List D) (o : List Ob) : tabId4.t 7 a o = liftT touchT a o := rfl
theorem tabId4_q10 (a : List D) : tabId4.q 10 a = none := rfl
theorem tabId4_t10 (a : List D) (o : List Ob) : tabId4.t 10 a o = liftT drop50T a o := rfl
theorem tabId4_q11 (a : List D) : tabId4.q 11 a = none := rfl
theorem tabId4_t11 (a : List D) (o : List Ob) : tabId4.t 11 a o = liftT due50T a o := rfl
theorem tabId4_q12 (a : List D) : tabId4.q 12 a = none := rfl
theorem tabId4_t12 (a : List D) (o : List Ob) : tabId4.t 12 a o = liftT nx50T a o := rfl
theorem tabId4_r (f : FuncId) (a : List D) (o : List Ob) : tabId4.r f a o = none := rfl
theorem tabId4_k (f : FuncId) (a : List D) (o : List Ob) : tabId4.k f a o = none := rfl
theorem awake50_c : PCalls Try.prog 5 [] (.x (.bool true)) := by
  have e1 : tchL [] 2 3 = [(2, 3)] := rfl
  have e2 : tchL [(2, 3)] 1 3 = [(2, 3), (1, 3)] := rfl
  have e3 : nxtL 5 [(2, 3), (1, 3)] = 8 := rfl
  have e4 : gotL 5 7 [(2, 3), (1, 3)] = [] := srtI_of (by decide) (by decide)
  have e5 : aftL 5 7 [(2, 3), (1, 3)] = [(2, 3), (1, 3)] := rfl
  have e6 : gotL 5 8 [(2, 3), (1, 3)] = [1, 2] := srtI_of (by decide) (by decide)
  have e7 : aftL 5 8 [(2, 3), (1, 3)] = [] := rfl
  have e8 : nxtL 5 [] = 0 := rfl
  have e9 : mlook ([] : Id) 1 = none := rfl
  have e10 : mdel ([] : Id) 1 = [] := rfl
  have k1 : okL [(2, 3), (1, 3)] := by decide
  have k2 : okL [] := by decide
  refine FCalls.pure (fcallsG (fz := true) G_ok (p := i5) rfl _ (Nat.le_of_ble_eq_true rfl) _ (fun C0 E0 => ?_)) rfl
  dsimp only [i5, argsφ]
  have uu := And.intro @new50T.eq_1 (And.intro @new50T.eq_2 (And.intro @touchT.eq_1 (And.intro @touchT.eq_2 (And.intro @drop50T.eq_1 (And.intro @drop50T.eq_2 (And.intro @due50T.eq_1 (And.intro @due50T.eq_2 (And.intro @nx50T.eq_1 (And.intro @nx50T.eq_2 (And.intro @un_I (And.intro @un_I0 (And.intro @e1 (And.intro @e2 (And.intro @e3 (And.intro @e4 (And.intro @e5 (And.intro @e6 (And.intro @e7 (And.intro @e8 (And.intro @e9 (And.intro @e10 (And.intro @encM_nil (And.intro @tabId4_r (And.intro @tabId4_k (And.intro @tabId4_q10 (And.intro @tabId4_q11 (And.intro @tabId4_q12 (And.intro @tabId4_q6 (And.intro @tabId4_q7 (And.intro @tabId4_t6 (And.intro @tabId4_t7 (And.intro @tabId4_t10 (And.intro @tabId4_t11 (@tabId4_t12))))))))))))))))))))))))))))))))))
  refine WI.seq ?_
  refine WI.regB tabId4_ok [] ?_
  refine oS ?_
  refine oN ?_
  refine thenQ_normal ?_
  refine WI.seq ?_
  refine WI.regB tabId4_ok [1, 2] ?_
  refine oC (hok := by first | with_reducible rfl | omega | (exact decide_eq_true ⟨by omega, k1⟩) | (exact decide_eq_true ⟨by omega, k2⟩) | (simp; done) | (simp; omega) | rfl) ?_
  refine oS ?_
  iterate 2 refine oG (hok := by first | with_reducible rfl | omega | (exact decide_eq_true ⟨by omega, k1⟩) | (exact decide_eq_true ⟨by omega, k2⟩) | (simp; done) | (simp; omega) | rfl) ?_
  iterate 2 refine oS ?_
  refine oN ?_
  refine thenQ_normal ?_
  refine WI.seq ?_
  refine WI.regB tabId4_ok [1, 2, 4] ?_
  refine oC (hok := by first | with_reducible rfl | omega | (exact decide_eq_true ⟨by omega, k1⟩) | (exact decide_eq_true ⟨by omega, k2⟩) | (simp; done) | (simp; omega) | rfl) ?_
  refine oS ?_
  iterate 2 refine oG (hok := by first | with_reducible rfl | omega | (exact decide_eq_true ⟨by omega, k1⟩) | (exact decide_eq_true ⟨by omega, k2⟩) | (simp; done) | (simp; omega) | rfl) ?_
  iterate 2 refine oS ?_
  refine oN ?_
  refine thenQ_normal ?_
  refine WI.seq ?_
  refine WI.seq ?_
  refine WI.regB tabId4_ok [1, 2, 4, 20] ?_
  refine oS ?_
  refine oG (hok := by first | with_reducible rfl | omega | (exact decide_eq_true ⟨by omega, k1⟩) | (exact decide_eq_true ⟨by omega, k2⟩) | (simp; done) | (simp; omega) | rfl) ?_
  refine oN ?_
  refine thenQ_normal ?_
  refine WI.cond (b := _) rfl rfl (fun h0 => ?_) (fun h0 => ?_)
  · try simp only [zB] at h0
    refine WI.seq ?_
    refine WI.regB tabId4_ok [0] ?_
    refine oS ?_
    refine oN ?_
    refine thenQ_normal ?_
    refine WI.ret ?_
    refine thenQ_ret ?_
    first | refine lfR ?_ | refine lfR2 ?_
    first | rfl | exact ⟨rfl, rfl⟩ | trivial -- leaf 0
  · try simp only [zB] at h0
    refine WI.skip ?_
    refine thenQ_normal ?_
    refine WI.seq ?_
    refine WI.regB tabId4_ok [1, 2, 4] ?_
    refine oS ?_
    refine oC (hok := by first | with_reducible rfl | omega | (exact decide_eq_true ⟨by omega, k1⟩) | (exact decide_eq_true ⟨by omega, k2⟩) | (simp; done) | (simp; omega) | rfl) ?_
    refine oN ?_
    refine thenQ_normal ?_
    refine WI.seq ?_
    refine WI.regB tabId4_ok [1, 2, 4] ?_
    refine oS ?_
    refine oC (hok := by first | with_reducible rfl | omega | (exact decide_eq_true ⟨by omega, k1⟩) | (exact decide_eq_true ⟨by omega, k2⟩) | (simp; done) | (simp; omega) | rfl) ?_
    refine oN ?_
    refine thenQ_normal ?_
    refine WI.seq ?_
    refine WI.regB tabId4_ok [1, 2, 4, 5, 6] ?_
    refine oS ?_
    refine oC (hok := by first | with_reducible rfl | omega | (exact decide_eq_true ⟨by omega, k1⟩) | (exact decide_eq_true ⟨by omega, k2⟩) | (simp; done) | (simp; omega) | rfl) ?_
    refine oS ?_
    iterate 2 refine oG (hok := by first | with_reducible rfl | omega | (exact decide_eq_true ⟨by omega, k1⟩) | (exact decide_eq_true ⟨by omega, k2⟩) | (simp; done) | (simp; omega) | rfl) ?_
    iterate 2 refine oS ?_
    refine oN ?_
    refine thenQ_normal ?_
    refine WI.seq ?_
    refine WI.regB tabId4_ok [1, 2, 4, 5, 6, 7, 8] ?_
    refine oS ?_
    refine oC (hok := by first | with_reducible rfl | omega | (exact decide_eq_true ⟨by omega, k1⟩) | (exact decide_eq_true ⟨by omega, k2⟩) | (simp; done) | (simp; omega) | rfl) ?_
    refine oS ?_
    refine oC (hok := by first | with_reducible rfl | omega | (exact decide_eq_true ⟨by omega, k1⟩) | (exact decide_eq_true ⟨by omega, k2⟩) | (simp; done) | (simp; omega) | rfl) ?_
    iterate 2 refine oS ?_
    refine oN ?_
    refine thenQ_normal ?_
    refine WI.seq ?_
    refine WI.regB tabId4_ok [1, 2, 4, 5, 6, 7, 8, 10] ?_
    refine oS ?_
    refine oC (hok := by first | with_reducible rfl | omega | (exact decide_eq_true ⟨by omega, k1⟩) | (exact decide_eq_true ⟨by omega, k2⟩) | (simp; done) | (simp; omega) | rfl) ?_
    refine oS ?_
    iterate 2 refine oG (hok := by first | with_reducible rfl | omega | (exact decide_eq_true ⟨by omega, k1⟩) | (exact decide_eq_true ⟨by omega, k2⟩) | (simp; done) | (simp; omega) | rfl) ?_
    iterate 2 refine oS ?_
    refine oN ?_
    refine thenQ_normal ?_
    refine WI.seq ?_
    refine WI.seq ?_
    refine WI.regB tabId4_ok [1, 2, 4, 5, 6, 7, 8, 10, 41] ?_
    refine oS ?_
    iterate 2 refine oG (hok := by first | with_reducible rfl | omega | (exact decide_eq_true ⟨by omega, k1⟩) | (exact decide_eq_true ⟨by omega, k2⟩) | (simp; done) | (simp; omega) | rfl) ?_
    refine oN ?_
    refine thenQ_normal ?_
    refine WI.cond (b := _) rfl rfl (fun h1 => ?_) (fun h1 => ?_)
    · try simp only [zB] at h1
      refine WI.seq ?_
      refine WI.regB tabId4_ok [0] ?_
      refine oS ?_
      refine oN ?_
      refine thenQ_normal ?_
      refine WI.ret ?_
      refine thenQ_ret ?_
      first | refine lfR ?_ | refine lfR2 ?_
      first | rfl | exact ⟨rfl, rfl⟩ | trivial -- leaf 1
    · try simp only [zB] at h1
      refine WI.skip ?_
      refine thenQ_normal ?_
      refine WI.seq ?_
      refine WI.regB tabId4_ok [0] ?_
      refine oS ?_
      refine oG (hok := by first | with_reducible rfl | omega | (exact decide_eq_true ⟨by omega, k1⟩) | (exact decide_eq_true ⟨by omega, k2⟩) | (simp; done) | (simp; omega) | rfl) ?_
      refine oS ?_
      iterate 3 refine oG (hok := by first | with_reducible rfl | omega | (exact decide_eq_true ⟨by omega, k1⟩) | (exact decide_eq_true ⟨by omega, k2⟩) | (simp; done) | (simp; omega) | rfl) ?_
      refine oS ?_
      iterate 3 refine oG (hok := by first | with_reducible rfl | omega | (exact decide_eq_true ⟨by omega, k1⟩) | (exact decide_eq_true ⟨by omega, k2⟩) | (simp; done) | (simp; omega) | rfl) ?_
      refine oS ?_
      iterate 2 refine oG (hok := by first | with_reducible rfl | omega | (exact decide_eq_true ⟨by omega, k1⟩) | (exact decide_eq_true ⟨by omega, k2⟩) | (simp; done) | (simp; omega) | rfl) ?_
      refine oS ?_
      iterate 4 refine oG (hok := by first | with_reducible rfl | omega | (exact decide_eq_true ⟨by omega, k1⟩) | (exact decide_eq_true ⟨by omega, k2⟩) | (simp; done) | (simp; omega) | rfl) ?_
      refine oS ?_
      iterate 5 refine oG (hok := by first | with_reducible rfl | omega | (exact decide_eq_true ⟨by omega, k1⟩) | (exact decide_eq_true ⟨by omega, k2⟩) | (simp; done) | (simp; omega) | rfl) ?_
      refine oS ?_
      iterate 5 refine oG (hok := by first | with_reducible rfl | omega | (exact decide_eq_true ⟨by omega, k1⟩) | (exact decide_eq_true ⟨by omega, k2⟩) | (simp; done) | (simp; omega) | rfl) ?_
      refine oS ?_
      iterate 3 refine oG (hok := by first | with_reducible rfl | omega | (exact decide_eq_true ⟨by omega, k1⟩) | (exact decide_eq_true ⟨by omega, k2⟩) | (simp; done) | (simp; omega) | rfl) ?_
      refine oS ?_
      refine oG (hok := by first | with_reducible rfl | omega | (exact decide_eq_true ⟨by omega, k1⟩) | (exact decide_eq_true ⟨by omega, k2⟩) | (simp; done) | (simp; omega) | rfl) ?_
      refine oC (hok := by first | with_reducible rfl | omega | (exact decide_eq_true ⟨by omega, k1⟩) | (exact decide_eq_true ⟨by omega, k2⟩) | (simp; done) | (simp; omega) | rfl) ?_
      iterate 2 refine oG (hok := by first | with_reducible rfl | omega | (exact decide_eq_true ⟨by omega, k1⟩) | (exact decide_eq_true ⟨by omega, k2⟩) | (simp; done) | (simp; omega) | rfl) ?_
      refine oS ?_
      refine oN ?_
      refine thenQ_normal ?_
      refine WI.ret ?_
      first | refine lfR ?_ | refine lfR2 ?_
      first | rfl | exact ⟨rfl, rfl⟩ | trivial -- leaf 2
end Go.Proofs.Ytobflnngfochiaa
end
section
/- Idle: the plain law. -/
set_option linter.unusedSimpArgs false
set_option linter.unusedVariables false
namespace Go.Proofs.Ytobflnngfochiaa
open Go.RowKit Go.Bo Go.Ab

structure Inv50 (x L : Id) (i : Nat) : Prop where
  perm : x.Perm L
  srt : x.Pairwise (fun a b => a.1 < b.1)
  le : ∀ p ∈ x, 0 ≤ p.2 ∧ p.2 ≤ 1099511627776
  len : x.length ≤ i
theorem Inv50.ndx {x L : Id} {i : Nat} (h : Inv50 x L i) : nodupM x := by
  unfold nodupM List.Nodup
  rw [List.pairwise_map]
  exact h.srt.imp (fun h => by omega)
theorem Inv50.nd {x L : Id} {i : Nat} (h : Inv50 x L i) : nodupM L := (h.perm.map _).nodup_iff.1 h.ndx
theorem Inv50.ok {x L : Id} {i : Nat} (h : Inv50 x L i) (hi : i ≤ 1000) : okL L :=
  ⟨h.nd, fun p hp => h.le p (h.perm.mem_iff.2 hp), by rw [← h.perm.length_eq]; exact Nat.le_trans h.len hi⟩
theorem Inv50.size {x L : Id} {i : Nat} (h : Inv50 x L i) : L.length = x.length := h.perm.length_eq.symm
theorem Inv50.next {x L : Id} {i : Nat} (h : Inv50 x L i) : Inv50 x L (i + 1) := ⟨h.perm, h.srt, h.le, by have := h.len; omega⟩
theorem outL_perm {x L : Id} (h : x.Perm L) (c : Int) : (outL x c).Perm (outL L c) := h.filter _
theorem lowN_cons (p : Int × Int) (m : Id) (c : Int) : lowN (p :: m) c = if p.1 < c then lowN m c + 1 else 0 := by
  unfold lowN
  rw [List.takeWhile_cons]
  split <;> rename_i h1 <;> simp at h1
  · rw [if_pos h1]; rfl
  · rw [if_neg (by omega)]; rfl
theorem ins_srt (c n : Int) : ∀ m : Id, m.Pairwise (fun a b => a.1 < b.1) → (∀ p ∈ m, p.1 ≠ c) → ((m.take (lowN m c) ++ [(c, n)]) ++ m.drop (lowN m c)).Pairwise (fun a b => a.1 < b.1)
  | [], _, _ => by simp
  | p :: m, h, hc => by
    rw [lowN_cons]
    have hp := hc p List.mem_cons_self
    obtain ⟨h1, h2⟩ := List.pairwise_cons.1 h
    split
    · rename_i hlt
      rw [List.take_succ_cons, List.drop_succ_cons, List.cons_append, List.cons_append]
      refine List.pairwise_cons.2 ⟨fun a ha => ?_, ins_srt c n m h2 (fun q hq => hc q (List.mem_cons_of_mem _ hq))⟩
      simp only [List.mem_append, List.mem_singleton] at ha
      rcases ha with (ha | ha) | ha
      · exact h1 a (List.mem_of_mem_take ha)
      · subst ha; exact hlt
      · exact h1 a (List.mem_of_mem_drop ha)
    · simp only [List.take_zero, List.drop_zero, List.nil_append]
      refine List.pairwise_cons.2 ⟨fun a ha => ?_, h⟩
      rcases List.mem_cons.1 ha with rfl | ha
      · simp only; omega
      · have := h1 a ha; simp only; omega
theorem ins_perm (p : Int × Int) (m : Id) (k : Nat) : ((m.take k ++ [p]) ++ m.drop k).Perm (p :: m) := by
  rw [List.append_assoc]
  refine List.perm_middle.trans (.cons _ ?_)
  show (List.take k m ++ List.drop k m).Perm m
  rw [List.take_append_drop]
theorem putL_perm (x : Id) (p : Int × Int) : (putL x p).Perm (p :: outL x p.1) := ins_perm ..
theorem putL_len (x : Id) (p : Int × Int) : (putL x p).length ≤ x.length + 1 := by
  rw [(putL_perm x p).length_eq, List.length_cons]
  have := outL_le x p.1
  omega
theorem Inv50.put {x L : Id} {i : Nat} (h : Inv50 x L i) (c n : Int) (hn : 0 ≤ n ∧ n ≤ 1099511627776) : Inv50 (putL x (c, n)) (mset L c n) (i + 1) := by
  refine ⟨(putL_perm x (c, n)).trans (.trans (.cons _ ?_) (mset_perm L c n).symm), ins_srt c n _ (h.srt.filter _) (fun p hp => by simpa using (List.mem_filter.1 hp).2), fun p hp => ?_, by have := putL_len x (c, n); have := h.len; omega⟩
  · rw [mdel_filter h.nd]
    exact outL_perm h.perm c
  · rcases List.mem_cons.1 ((putL_perm x (c, n)).mem_iff.1 hp) with rfl | hp
    · exact hn
    · exact h.le p (List.mem_filter.1 hp).1
theorem Inv50.touch {x L : Id} {i : Nat} (h : Inv50 x L i) (c n : Int) : Inv50 (if 0 ≤ n ∧ n ≤ 1099511627776 then putL x (c, n) else x) (tchL L c n) (i + 1) := by
  unfold tchL
  by_cases hn : 0 ≤ n ∧ n ≤ 1099511627776
  · rw [if_pos hn, if_pos hn]; exact h.put c n hn
  · rw [if_neg hn, if_neg hn]; exact h.next
theorem Inv50.del {x L : Id} {i : Nat} (h : Inv50 x L i) (c : Int) : Inv50 (outL x c) (mdel L c) (i + 1) := by
  refine ⟨?_, h.srt.filter _, fun p hp => h.le p (List.mem_filter.1 hp).1, by have := outL_le x c; have := h.len; omega⟩
  rw [mdel_filter h.nd]; exact outL_perm h.perm c
theorem Inv50.had {x L : Id} {i : Nat} (h : Inv50 x L i) (c : Int) : (mlook L c).isSome = decide ((outL x c).length < x.length) := by
  rw [← mlook_perm h.perm h.ndx]
  have h0 : outL x c = mdel x c := (mdel_filter h.ndx c).symm
  rw [h0]
  cases hx : mlook x c with
  | none => rw [mdel_none hx, decide_eq_false (by omega)]; rfl
  | some v => have := mdel_len hx; rw [decide_eq_true (by omega)]; rfl
theorem dueK_app (g now : Int) (a b : Id) : dueK g now (a ++ b) = dueK g now a ++ dueK g now b := by simp [dueK]
theorem restL_app (g now : Int) (a b : Id) : restL g now (a ++ b) = restL g now a ++ restL g now b := by simp [restL]
theorem Inv50.got {x L : Id} {i : Nat} (h : Inv50 x L i) (g now : Int) : gotL g now L = if inR now then dueK g now x else [] := by
  unfold gotL
  split
  · refine srtI_of (dueK_perm h.perm.symm) ?_
    unfold dueK
    rw [List.pairwise_map]
    exact (h.srt.filter _).imp (fun h => by omega)
  · rfl
theorem Inv50.aft {x L : Id} {i : Nat} (h : Inv50 x L i) (g now : Int) : Inv50 (if inR now then restL g now x else x) (aftL g now L) (i + 1) := by
  unfold aftL
  split
  · exact ⟨h.perm.filter _, h.srt.filter _, fun p hp => h.le p (List.mem_filter.1 hp).1, by have : (restL g now x).length ≤ x.length := List.length_filter_le ..; have := h.len; omega⟩
  · exact h.next
theorem outL_self {a b : Id} {p : Int × Int} (h : (a ++ p :: b).Pairwise (fun a b => a.1 < b.1)) : outL (a ++ p :: b) p.1 = a ++ b := by
  obtain ⟨h1, h2, h3⟩ := List.pairwise_append.1 h
  obtain ⟨h4, h5⟩ := List.pairwise_cons.1 h2
  unfold outL
  rw [List.filter_append, List.filter_cons, if_neg (by simp), List.filter_eq_self.2, List.filter_eq_self.2]
  · intro q hq; have := h4 q hq; simp; omega
  · intro q hq; have := h3 q hq p List.mem_cons_self; simp; omega
/-- What the walk over those that are due has seen. -/
structure Due50 (g now : Int) (x : Id) (k n : Nat) (y : Id) : Prop where
  le : k ≤ x.length
  n : n = (dueK g now (x.take k)).length
  y : y = restL g now (x.take k) ++ x.drop k
theorem Due50.zero (g now : Int) (x : Id) : Due50 g now x 0 0 x := ⟨Nat.zero_le _, rfl, rfl⟩
theorem Due50.skip {g now : Int} {x y : Id} {k n : Nat} (h : Due50 g now x k n y) (hk : k < x.length) (hd : now - x[k].2 < g) : Due50 g now x (k + 1) n y := by
  have hd' : isDue g now x[k] = false := by simp only [isDue, decide_eq_false_iff_not]; omega
  refine ⟨hk, ?_, ?_⟩
  · rw [List.take_succ_eq_append_getElem hk, dueK_app, h.n]; simp [dueK, hd']
  · rw [List.take_succ_eq_append_getElem hk, restL_app, h.y, List.drop_eq_getElem_cons hk]; simp [restL, hd']
theorem Due50.nth {g now : Int} {x y : Id} {k n : Nat} (h : Due50 g now x k n y) (hk : k < x.length) (hd : ¬ now - x[k].2 < g) : (dueK g now x)[n]? = some x[k].1 := by
  have hd' : isDue g now x[k] = true := by simp only [isDue, decide_eq_true_eq]; omega
  conv => lhs; rw [← List.take_append_drop k x, dueK_app, List.drop_eq_getElem_cons hk, dueK_cons, if_pos hd']
  rw [h.n, List.getElem?_append_right (Nat.le_refl _), Nat.sub_self]
  rfl
theorem Due50.lt {g now : Int} {x y : Id} {k n : Nat} (h : Due50 g now x k n y) (hk : k < x.length) (hd : ¬ now - x[k].2 < g) : n < (dueK g now x).length := (List.getElem?_eq_some_iff.1 (h.nth hk hd)).1
theorem Due50.get {g now : Int} {x y : Id} {k n : Nat} (h : Due50 g now x k n y) (hk : k < x.length) (hd : ¬ now - x[k].2 < g) : (dueK g now x)[n]'(h.lt hk hd) = x[k].1 := (List.getElem?_eq_some_iff.1 (h.nth hk hd)).2
theorem Due50.step {g now : Int} {x y : Id} {k n : Nat} (h : Due50 g now x k n y) (hs : x.Pairwise (fun a b => a.1 < b.1)) (hk : k < x.length) (hd : ¬ now - x[k].2 < g) : Due50 g now x (k + 1) (n + 1) (outL y x[k].1) := by
  have hd' : isDue g now x[k] = true := by simp only [isDue, decide_eq_true_eq]; omega
  refine ⟨hk, ?_, ?_⟩
  · rw [List.take_succ_eq_append_getElem hk, dueK_app, h.n]; simp [dueK, hd']
  · rw [h.y, List.drop_eq_getElem_cons hk, outL_self, List.take_succ_eq_append_getElem hk, restL_app]
    · simp [restL, hd']
    · have : (x.take k ++ x[k] :: x.drop (k + 1)).Pairwise (fun a b => a.1 < b.1) := by rw [← List.drop_eq_getElem_cons hk, List.take_append_drop]; exact hs
      exact this.sublist ((List.filter_sublist).append (List.Sublist.refl _))
theorem Due50.done {g now : Int} {x y : Id} {k n : Nat} (h : Due50 g now x k n y) (hk : ¬ k < x.length) : n = (dueK g now x).length ∧ y = restL g now x := by
  have h1 := h.n; have h2 := h.y
  rw [List.take_of_length_le (by omega)] at h1 h2
  rw [List.drop_of_length_le (by omega), List.append_nil] at h2
  exact ⟨h1, h2⟩
theorem Due50.len {g now : Int} {x y : Id} {k n : Nat} (h : Due50 g now x k n y) : y.length ≤ x.length := by
  rw [h.y, List.length_append]
  have : (restL g now (x.take k)).length ≤ (x.take k).length := List.length_filter_le ..
  rw [List.length_take] at this; rw [List.length_drop]; omega
theorem kinds50 (k n : Int) : (k = 0 ∧ (0 ≤ n ∧ n ≤ 1099511627776)) ∨ (k = 0 ∧ ¬ (0 ≤ n ∧ n ≤ 1099511627776)) ∨ k = 1 ∨ (k ≠ 0 ∧ k ≠ 1 ∧ inR n) ∨ (k ≠ 0 ∧ k ≠ 1 ∧ ¬ inR n) := by unfold inR; omega
/-- When the first of them is due: the law's own words. -/
def mnK (g : Int) (x : Id) : Nat → Int
  | 0 => 0
  | k + 1 => match x[k]? with
    | some p => if k = 0 ∨ p.2 + g < mnK g x k then p.2 + g else mnK g x k
    | none => mnK g x k
theorem mnK_yes {g : Int} {x : Id} {k : Nat} (hk : k < x.length) (h : k = 0 ∨ x[k].2 + g < mnK g x k) : mnK g x (k + 1) = x[k].2 + g := by
  unfold mnK; rw [List.getElem?_eq_getElem hk]; exact if_pos h
theorem mnK_no {g : Int} {x : Id} {k : Nat} (hk : k < x.length) (h : ¬ (k = 0 ∨ x[k].2 + g < mnK g x k)) : mnK g x (k + 1) = mnK g x k := by
  rw [mnK, List.getElem?_eq_getElem hk]; exact if_neg h
theorem mnK_fst (g : Int) (x : Id) (hb : ∀ p ∈ x, p.2 + g < 2199023255552) : ∀ k, 0 < k → k ≤ x.length → mnK g x k = fstL g (x.take k) 2199023255552
  | k + 1, _, hk => by
    have hk' : k < x.length := by omega
    have hp := hb _ (List.getElem_mem hk')
    rw [List.take_succ_eq_append_getElem hk']
    unfold fstL
    rw [List.foldl_append]
    rcases Nat.eq_zero_or_pos k with rfl | h0
    · rw [mnK_yes hk' (.inl rfl)]
      simp [hp]
    · have ih := mnK_fst g x hb k h0 (by omega)
      unfold fstL at ih
      rw [← ih]
      by_cases h : x[k].2 + g < mnK g x k
      · rw [mnK_yes hk' (.inr h)]; simp [h]
      · rw [mnK_no hk' (by omega)]; simp [h]
theorem Inv50.first {x L : Id} {i : Nat} (h : Inv50 x L i) (g : Int) (hg : 1 ≤ g ∧ g ≤ 1073741824) : nxtL g L = mnK g x x.length := by
  unfold nxtL
  by_cases h0 : L = []
  · have := h.size; subst h0; simp at this; rw [if_pos rfl, ← this]; rfl
  · rw [if_neg h0]
    have hl : 0 < x.length := by rw [← h.size]; exact List.length_pos_iff.2 h0
    rw [mnK_fst g x (fun p hp => by have := h.le p hp; omega) x.length hl (Nat.le_refl _), List.take_length, fstL_perm h.perm]
theorem mnK_le {g : Int} {x : Id} (hg : 1 ≤ g ∧ g ≤ 1073741824) (h : ∀ p ∈ x, 0 ≤ p.2 ∧ p.2 ≤ 1099511627776) : ∀ k, 0 ≤ mnK g x k ∧ mnK g x k ≤ 2199023255552
  | 0 => by simp [mnK]
  | k + 1 => by
    have ih := mnK_le hg h k
    by_cases hk : k < x.length
    · have := h _ (List.getElem_mem hk)
      by_cases h : k = 0 ∨ x[k].2 + g < mnK g x k
      · rw [mnK_yes hk h]; omega
      · rw [mnK_no hk h]; exact ih
    · unfold mnK; rw [List.getElem?_eq_none (by omega)]; exact ih
end Go.Proofs.Ytobflnngfochiaa
end
section
/- Idle: the laws. -/
set_option linter.unusedSimpArgs false
set_option linter.unusedVariables false
namespace Go.Proofs.Ytobflnngfochiaa
open Go.RowKit Go.Bo Go.Ab

abbrev Deed50 := Int × Int × Int × Unit
abbrev rDeed50 : RC Deed50 := rCat (rInt .i64) (rCat (rInt .i64) (rCat (rInt .i64) rEnd))
def awake50G : List D → Option (Bool × D)
  | [] => some (true, .x (.bool true))
  | _ => none
theorem awake50G_ok : ∀ args r, awake50G args = some (true, r) → PCalls Try.prog 5 args r := by
  intro args r h
  unfold awake50G at h
  split at h
  · simp only [Option.some.injEq, Prod.mk.injEq, Bool.and_eq_true, decide_eq_true_eq, true_and] at h
    obtain rfl := h
    exact awake50_c
  · cases h
def put50G : List D → Option (Bool × D)
  | [.x (.sl R), .agg [.x (.int .i64 c), .x (.int .i64 n)]] => (unrows rP R).bind fun l => some (decide (l.length ≤ 1000), .x (.sl (rows rP (putL l (c, n)))))
  | _ => none
theorem put50G_ok : ∀ args r, put50G args = some (true, r) → PCalls Try.prog 8 args r := by
  intro args r h
  unfold put50G at h
  split at h
  · rename_i R c n
    obtain ⟨l, hr0, h⟩ := Option.bind_eq_some_iff.1 h
    simp only [Option.some.injEq, Prod.mk.injEq, Bool.and_eq_true, decide_eq_true_eq, true_and] at h
    obtain ⟨h1, rfl⟩ := h
    rw [← rows_unrows good_rP hr0]
    exact (put50_c l c n h1)
  · cases h
def tabId6 : Tabs := addQ (addQ (addQ (addT (addT (addT (addT (addT (noTabs) 6 new50T) 7 touchT) 10 drop50T) 11 due50T) 12 nx50T) 9 out50G) 8 put50G) 5 awake50G
theorem tabId6_ok : SsOk Try.prog tabId6 := addQ_ok (addQ_ok (addQ_ok (addT_ok (addT_ok (addT_ok (addT_ok (addT_ok (noTabs_ok) (G_enters G_ok (p := i6) rfl) new50T_ok) (G_enters G_ok (p := i7) rfl) touchT_ok) (G_enters G_ok (p := i10) rfl) drop50T_ok) (G_enters G_ok (p := i11) rfl) due50T_ok) (G_enters G_ok (p := i12) rfl) nx50T_ok) (G_enters G_ok (p := i9) rfl) out50G_ok) (G_enters G_ok (p := i8) rfl) put50G_ok) (G_enters G_ok (p := i5) rfl) awake50G_ok
theorem tabId6_q6 (a : List D) : tabId6.q 6 a = none := rfl
theorem tabId6_t6 (a : List D) (o : List Ob) : tabId6.t 6 a o = liftT new50T a o := rfl
theorem tabId6_q7 (a : List D) : tabId6.q 7 a = none := rfl
theorem tabId6_t7 (a : List D) (o : List Ob) : tabId6.t 7 a o = liftT touchT a o := rfl
theorem tabId6_q10 (a : List D) : tabId6.q 10 a = none := rfl
theorem tabId6_t10 (a : List D) (o : List Ob) : tabId6.t 10 a o = liftT drop50T a o := rfl
theorem tabId6_q11 (a : List D) : tabId6.q 11 a = none := rfl
theorem tabId6_t11 (a : List D) (o : List Ob) : tabId6.t 11 a o = liftT due50T a o := rfl
theorem tabId6_q12 (a : List D) : tabId6.q 12 a = none := rfl
theorem tabId6_t12 (a : List D) (o : List Ob) : tabId6.t 12 a o = liftT nx50T a o := rfl
theorem tabId6_q9 (a : List D) : tabId6.q 9 a = out50G a := rfl
theorem tabId6_q8 (a : List D) : tabId6.q 8 a = put50G a := rfl
theorem tabId6_q5 (a : List D) : tabId6.q 5 a = awake50G a := rfl
theorem tabId6_r (f : FuncId) (a : List D) (o : List Ob) : tabId6.r f a o = none := rfl
theorem tabId6_k (f : FuncId) (a : List D) (o : List Ob) : tabId6.k f a o = none := rfl
set_option maxHeartbeats 4000000 in
theorem idlePlays_c (g : Int) (l : List Deed50) : PCalls Try.prog 3 [.x (.int .i64 g), .x (.sl (rows rDeed50 l))] (.x (.bool true)) := by
  by_cases hm : 1 ≤ g ∧ g ≤ 1073741824
  · have hm2 : (1 ≤ g ∧ g ≤ 1073741824) = True := eq_true hm
    refine FCalls.pure (fcallsG (fz := true) G_ok (p := i3) rfl _ (Nat.le_of_ble_eq_true rfl) _ (fun C0 E0 => ?_)) rfl
    dsimp only [i3, argsφ]
    have uu := And.intro @new50T.eq_1 (And.intro @new50T.eq_2 (And.intro @touchT.eq_1 (And.intro @touchT.eq_2 (And.intro @drop50T.eq_1 (And.intro @drop50T.eq_2 (And.intro @due50T.eq_1 (And.intro @due50T.eq_2 (And.intro @nx50T.eq_1 (And.intro @nx50T.eq_2 (And.intro @un_I (And.intro @un_I0 (And.intro @out50G.eq_1 (And.intro @out50G.eq_2 (And.intro @put50G.eq_1 (And.intro @put50G.eq_2 (And.intro @awake50G.eq_1 (And.intro @awake50G.eq_2 (And.intro @un_rP (And.intro hm2 (And.intro @tabId6_r (And.intro @tabId6_k (And.intro @tabId6_q10 (And.intro @tabId6_q11 (And.intro @tabId6_q12 (And.intro @tabId6_q5 (And.intro @tabId6_q6 (And.intro @tabId6_q7 (And.intro @tabId6_q8 (And.intro @tabId6_q9 (And.intro @tabId6_t6 (And.intro @tabId6_t7 (And.intro @tabId6_t10 (And.intro @tabId6_t11 (@tabId6_t12))))))))))))))))))))))))))))))))))
    refine WI.seq ?_
    refine WI.regB tabId6_ok [0, 1] ?_
    refine oS ?_
    refine oN ?_
    refine thenQ_normal ?_
    refine WI.seq ?_
    refine WI.seq ?_
    refine WI.regB tabId6_ok [0, 1, 21] ?_
    refine oS ?_
    iterate 2 refine oG (hok := by first | with_reducible rfl | omega | (exact decide_eq_true (hv2.ok (by omega))) | (exact decide_eq_true (hv.ok (by omega))) | (exact decide_eq_true ⟨by omega, hv2.ok (by omega)⟩) | (exact decide_eq_true (by omega)) | (simp; done) | (simp; omega) | rfl) ?_
    refine oN ?_
    refine thenQ_normal ?_
    refine WI.cond (b := _) rfl rfl (fun h0 => ?_) (fun h0 => ?_)
    · try simp only [zB] at h0
      refine WI.seq ?_
      refine WI.regB tabId6_ok [4] ?_
      refine oC (hok := by first | with_reducible rfl | omega | (exact decide_eq_true (hv2.ok (by omega))) | (exact decide_eq_true (hv.ok (by omega))) | (exact decide_eq_true ⟨by omega, hv2.ok (by omega)⟩) | (exact decide_eq_true (by omega)) | (simp; done) | (simp; omega) | rfl) ?_
      refine oS ?_
      refine oN ?_
      refine thenQ_normal ?_
      refine WI.ret ?_
      refine thenQ_ret ?_
      first | refine lfR ?_ | refine lfR2 ?_
      first | rfl | exact ⟨rfl, rfl⟩ | trivial -- leaf 0
    · try simp only [zB] at h0
      have hl50 : l.length ≤ 50 := by first | omega | (simp at h0; omega)
      refine WI.skip ?_
      refine thenQ_normal ?_
      refine WI.seq ?_
      refine WI.regB tabId6_ok [0, 1, 5, 6] ?_
      refine oS ?_
      refine oC (hok := by first | with_reducible rfl | omega | (exact decide_eq_true (hv2.ok (by omega))) | (exact decide_eq_true (hv.ok (by omega))) | (exact decide_eq_true ⟨by omega, hv2.ok (by omega)⟩) | (exact decide_eq_true (by omega)) | (simp; done) | (simp; omega) | rfl) ?_
      refine oS ?_
      iterate 2 refine oG (hok := by first | with_reducible rfl | omega | (exact decide_eq_true (hv2.ok (by omega))) | (exact decide_eq_true (hv.ok (by omega))) | (exact decide_eq_true ⟨by omega, hv2.ok (by omega)⟩) | (exact decide_eq_true (by omega)) | (simp; done) | (simp; omega) | rfl) ?_
      iterate 2 refine oS ?_
      refine oN ?_
      refine thenQ_normal ?_
      refine WI.seq ?_
      refine WI.seq ?_
      refine WI.regB tabId6_ok [0, 1, 5, 6, 33] ?_
      refine oS ?_
      refine oG (hok := by first | with_reducible rfl | omega | (exact decide_eq_true (hv2.ok (by omega))) | (exact decide_eq_true (hv.ok (by omega))) | (exact decide_eq_true ⟨by omega, hv2.ok (by omega)⟩) | (exact decide_eq_true (by omega)) | (simp; done) | (simp; omega) | rfl) ?_
      refine oS ?_
      iterate 3 refine oG (hok := by first | with_reducible rfl | omega | (exact decide_eq_true (hv2.ok (by omega))) | (exact decide_eq_true (hv.ok (by omega))) | (exact decide_eq_true ⟨by omega, hv2.ok (by omega)⟩) | (exact decide_eq_true (by omega)) | (simp; done) | (simp; omega) | rfl) ?_
      refine oN ?_
      refine thenQ_normal ?_
      refine WI.cond (b := _) rfl rfl (fun h1 => ?_) (fun h1 => ?_)
      · exfalso
        simp only [zB] at h1; omega
      · try simp only [zB] at h1
        refine WI.skip ?_
        refine thenQ_normal ?_
        refine WI.seq ?_
        refine WI.seq ?_
        refine WI.regB tabId6_ok [0, 1, 5, 48] ?_
        refine oS ?_
        refine oG (hok := by first | with_reducible rfl | omega | (exact decide_eq_true (hv2.ok (by omega))) | (exact decide_eq_true (hv.ok (by omega))) | (exact decide_eq_true ⟨by omega, hv2.ok (by omega)⟩) | (exact decide_eq_true (by omega)) | (simp; done) | (simp; omega) | rfl) ?_
        refine oS ?_
        iterate 3 refine oG (hok := by first | with_reducible rfl | omega | (exact decide_eq_true (hv2.ok (by omega))) | (exact decide_eq_true (hv.ok (by omega))) | (exact decide_eq_true ⟨by omega, hv2.ok (by omega)⟩) | (exact decide_eq_true (by omega)) | (simp; done) | (simp; omega) | rfl) ?_
        refine oN ?_
        refine thenQ_normal ?_
        refine WI.cond (b := _) rfl rfl (fun h2 => ?_) (fun h2 => ?_)
        · exfalso
          simp at h2
        · try simp only [zB] at h2
          refine WI.skip ?_
          refine thenQ_normal ?_
          refine WI.seq ?_
          refine WI.regB tabId6_ok [0, 1, 5, 7] ?_
          refine oS ?_
          refine oN ?_
          refine thenQ_normal ?_
          refine WI.seq ?_
          refine WI.seq ?_
          refine WI.regB tabId6_ok [0, 1, 5, 7, 8] ?_
          refine oS ?_
          refine oN ?_
          refine thenQ_normal ?_
          refine WI.block ?_
          refine WI.nnA ?_
          refine WI.loop (fun φ os => ∃ (i : Nat) (x L : Id), φ = [(0, .x (.int .i64 g)), (1, .x (.sl (rows rDeed50 l))), (5, .ptr 1 0), (7, .x (.sl (rows rP x))), (8, .x (.int .i64 i))] ∧ os = [idM L, .box [.mref 0, .x (.int .i64 g)]] ∧ i ≤ l.length ∧ Inv50 x L i) (down l.length 8) ?_ (fun φ os hI => ?_)
          · exact ⟨0, [], [], rfl, rfl, by omega, ⟨.refl _, .nil, by simp, by simp⟩⟩
          · obtain ⟨i, x, L, rfl, rfl, hi, hv⟩ := hI
            refine WI.seq ?_
            refine WI.seq ?_
            refine WI.regB tabId6_ok [0, 1, 5, 7, 8, 52] ?_
            iterate 2 refine oS ?_
            iterate 2 refine oG (hok := by first | with_reducible rfl | omega | (exact decide_eq_true (hv2.ok (by omega))) | (exact decide_eq_true (hv.ok (by omega))) | (exact decide_eq_true ⟨by omega, hv2.ok (by omega)⟩) | (exact decide_eq_true (by omega)) | (simp; done) | (simp; omega) | rfl) ?_
            refine oN ?_
            refine thenQ_normal ?_
            refine WI.cond (b := _) rfl rfl (fun h3 => ?_) (fun h3 => ?_)
            · try simp only [zB] at h3
              refine WI.skip ?_
              refine thenQ_normal ?_
              refine WI.seq ?_
              refine WI.block ?_
              refine WI.seq ?_
              have hi4 : i < l.length := by omega
              have hxl := hv.len
              refine WI.regB tabId6_ok [0, 1, 5, 7, 8, 9] ?_
              iterate 2 refine oS ?_
              iterate 4 refine oG (hok := by first | with_reducible rfl | omega | (exact decide_eq_true (hv2.ok (by omega))) | (exact decide_eq_true (hv.ok (by omega))) | (exact decide_eq_true ⟨by omega, hv2.ok (by omega)⟩) | (exact decide_eq_true (by omega)) | (simp; done) | (simp; omega) | rfl) ?_
              refine oN ?_
              refine thenQ_normal ?_
              refine WI.seq ?_
              refine WI.seq ?_
              refine WI.regB tabId6_ok [0, 1, 5, 7, 8, 9, 60] ?_
              refine oS ?_
              refine oG (hok := by first | with_reducible rfl | omega | (exact decide_eq_true (hv2.ok (by omega))) | (exact decide_eq_true (hv.ok (by omega))) | (exact decide_eq_true ⟨by omega, hv2.ok (by omega)⟩) | (exact decide_eq_true (by omega)) | (simp; done) | (simp; omega) | rfl) ?_
              refine oN ?_
              refine thenQ_normal ?_
              refine WI.block ?_
              refine WI.seq ?_
              rcases kinds50 l[i].1 l[i].2.2.1 with hk | hk | hk | hk | hk
              · have hv2 := hv.touch l[i].2.1 l[i].2.2.1
                rw [if_pos hk.2] at hv2
                refine WI.regB tabId6_ok [0, 1, 5, 7, 8, 9, 60, 122] ?_
                refine oG (hok := by first | with_reducible rfl | omega | (exact decide_eq_true (hv2.ok (by omega))) | (exact decide_eq_true (hv.ok (by omega))) | (exact decide_eq_true ⟨by omega, hv2.ok (by omega)⟩) | (exact decide_eq_true (by omega)) | (simp; done) | (simp; omega) | rfl) ?_
                refine oS ?_
                refine oN ?_
                refine thenQ_normal ?_
                refine WI.cond (b := _) rfl rfl (fun h4 => ?_) (fun h4 => ?_)
                · try simp only [zB] at h4
                  refine WI.seq ?_
                  refine WI.regB tabId6_ok [0, 1, 5, 7, 8, 9] ?_
                  iterate 2 refine oS ?_
                  refine oG (hok := by first | with_reducible rfl | omega | (exact decide_eq_true (hv2.ok (by omega))) | (exact decide_eq_true (hv.ok (by omega))) | (exact decide_eq_true ⟨by omega, hv2.ok (by omega)⟩) | (exact decide_eq_true (by omega)) | (simp; done) | (simp; omega) | rfl) ?_
                  refine oS ?_
                  refine oG (hok := by first | with_reducible rfl | omega | (exact decide_eq_true (hv2.ok (by omega))) | (exact decide_eq_true (hv.ok (by omega))) | (exact decide_eq_true ⟨by omega, hv2.ok (by omega)⟩) | (exact decide_eq_true (by omega)) | (simp; done) | (simp; omega) | rfl) ?_
                  refine oC (hok := by first | with_reducible rfl | omega | (exact decide_eq_true (hv2.ok (by omega))) | (exact decide_eq_true (hv.ok (by omega))) | (exact decide_eq_true ⟨by omega, hv2.ok (by omega)⟩) | (exact decide_eq_true (by omega)) | (simp; done) | (simp; omega) | rfl) ?_
                  refine oN ?_
                  refine thenQ_normal ?_
                  refine WI.seq ?_
                  refine WI.regB tabId6_ok [0, 1, 5, 7, 8, 9, 137] ?_
                  refine oS ?_
                  iterate 2 refine oG (hok := by first | with_reducible rfl | omega | (exact decide_eq_true (hv2.ok (by omega))) | (exact decide_eq_true (hv.ok (by omega))) | (exact decide_eq_true ⟨by omega, hv2.ok (by omega)⟩) | (exact decide_eq_true (by omega)) | (simp; done) | (simp; omega) | rfl) ?_
                  refine oS ?_
                  iterate 4 refine oG (hok := by first | with_reducible rfl | omega | (exact decide_eq_true (hv2.ok (by omega))) | (exact decide_eq_true (hv.ok (by omega))) | (exact decide_eq_true ⟨by omega, hv2.ok (by omega)⟩) | (exact decide_eq_true (by omega)) | (simp; done) | (simp; omega) | rfl) ?_
                  refine oN ?_
                  refine thenQ_normal ?_
                  refine WI.cond (b := _) rfl rfl (fun h5 => ?_) (fun h5 => ?_)
                  · try simp only [zB] at h5
                    refine WI.regB tabId6_ok [0, 1, 5, 7, 8] ?_
                    iterate 2 refine oS ?_
                    refine oG (hok := by first | with_reducible rfl | omega | (exact decide_eq_true (hv2.ok (by omega))) | (exact decide_eq_true (hv.ok (by omega))) | (exact decide_eq_true ⟨by omega, hv2.ok (by omega)⟩) | (exact decide_eq_true (by omega)) | (simp; done) | (simp; omega) | rfl) ?_
                    refine oS ?_
                    iterate 2 refine oG (hok := by first | with_reducible rfl | omega | (exact decide_eq_true (hv2.ok (by omega))) | (exact decide_eq_true (hv.ok (by omega))) | (exact decide_eq_true ⟨by omega, hv2.ok (by omega)⟩) | (exact decide_eq_true (by omega)) | (simp; done) | (simp; omega) | rfl) ?_
                    refine oC (hok := by first | with_reducible rfl | omega | (exact decide_eq_true (hv2.ok (by omega))) | (exact decide_eq_true (hv.ok (by omega))) | (exact decide_eq_true ⟨by omega, hv2.ok (by omega)⟩) | (exact decide_eq_true (by omega)) | (simp; done) | (simp; omega) | rfl) ?_
                    refine oS ?_
                    refine oN ?_
                    refine blockQ_normal ?_
                    refine thenQ_normal ?_
                    refine WI.seq ?_
                    generalize putL x (l[i].2.1, l[i].2.2.1) = x2 at hv2 ⊢
                    generalize tchL L l[i].2.1 l[i].2.2.1 = L2 at hv2 ⊢
                    refine WI.orderA [0, 1, 5, 7, 8] ?_
                    refine WI.post ?_
                    refine WI.regB tabId6_ok [0, 1, 5, 7, 8, 15] ?_
                    refine oS ?_
                    refine oP ?_
                    refine pPick [0, 1] ?_
                    refine pEnd ?_
                    refine thenQ_normal ?_
                    refine WI.seq ?_
                    refine WI.seq ?_
                    refine WI.regB tabId6_ok [0, 1, 5, 7, 8, 15, 16] ?_
                    refine oS ?_
                    refine oN ?_
                    refine thenQ_normal ?_
                    refine WI.block ?_
                    refine WI.loop (fun φ os => ∃ (k : Nat), φ = [(0, .x (.int .i64 g)), (1, .x (.sl (rows rDeed50 l))), (5, .ptr 1 0), (7, .x (.sl (rows rP x2))), (8, .x (.int .i64 i)), (15, .x (.int .i64 (mnK g x2 k))), (16, .x (.int .i64 k))] ∧ os = [idM L2, .box [.mref 0, .x (.int .i64 g)]] ∧ k ≤ x2.length) (down x2.length 16) ?_ (fun φ os hI => ?_)
                    · exact ⟨0, rfl, rfl, by omega⟩
                    · obtain ⟨k, rfl, rfl, hk2⟩ := hI
                      refine WI.seq ?_
                      refine WI.seq ?_
                      refine WI.regB tabId6_ok [0, 1, 5, 7, 8, 15, 16, 165] ?_
                      iterate 2 refine oS ?_
                      iterate 2 refine oG (hok := by first | with_reducible rfl | omega | (exact decide_eq_true (hv2.ok (by omega))) | (exact decide_eq_true (hv.ok (by omega))) | (exact decide_eq_true ⟨by omega, hv2.ok (by omega)⟩) | (exact decide_eq_true (by omega)) | (simp; done) | (simp; omega) | rfl) ?_
                      refine oN ?_
                      refine thenQ_normal ?_
                      refine WI.cond (b := _) rfl rfl (fun h12 => ?_) (fun h12 => ?_)
                      · try simp only [zB] at h12
                        refine WI.skip ?_
                        refine thenQ_normal ?_
                        refine WI.seq ?_
                        refine WI.block ?_
                        refine WI.seq ?_
                        have hkx : k < x2.length := by omega
                        have hb := hv2.le _ (List.getElem_mem hkx)
                        have hmb := mnK_le hm hv2.le k
                        have hxl2 := hv2.len
                        refine WI.regB tabId6_ok [0, 1, 5, 7, 8, 15, 16, 180] ?_
                        refine oS ?_
                        refine oG (hok := by first | with_reducible rfl | omega | (exact decide_eq_true (hv2.ok (by omega))) | (exact decide_eq_true (hv.ok (by omega))) | (exact decide_eq_true ⟨by omega, hv2.ok (by omega)⟩) | (exact decide_eq_true (by omega)) | (simp; done) | (simp; omega) | rfl) ?_
                        refine oS ?_
                        iterate 10 refine oG (hok := by first | with_reducible rfl | omega | (exact decide_eq_true (hv2.ok (by omega))) | (exact decide_eq_true (hv.ok (by omega))) | (exact decide_eq_true ⟨by omega, hv2.ok (by omega)⟩) | (exact decide_eq_true (by omega)) | (simp; done) | (simp; omega) | rfl) ?_
                        refine oN ?_
                        refine thenQ_normal ?_
                        refine WI.cond (b := _) rfl rfl (fun h13 => ?_) (fun h13 => ?_)
                        · try simp only [zB] at h13
                          have hmn := mnK_yes (g := g) hkx (by simp at h13; omega)
                          refine WI.regB tabId6_ok [0, 1, 5, 7, 8, 15, 16] ?_
                          iterate 2 refine oS ?_
                          refine oG (hok := by first | with_reducible rfl | omega | (exact decide_eq_true (hv2.ok (by omega))) | (exact decide_eq_true (hv.ok (by omega))) | (exact decide_eq_true ⟨by omega, hv2.ok (by omega)⟩) | (exact decide_eq_true (by omega)) | (simp; done) | (simp; omega) | rfl) ?_
                          refine oS ?_
                          refine oG (hok := by first | with_reducible rfl | omega | (exact decide_eq_true (hv2.ok (by omega))) | (exact decide_eq_true (hv.ok (by omega))) | (exact decide_eq_true ⟨by omega, hv2.ok (by omega)⟩) | (exact decide_eq_true (by omega)) | (simp; done) | (simp; omega) | rfl) ?_
                          refine oS ?_
                          refine oG (hok := by first | with_reducible rfl | omega | (exact decide_eq_true (hv2.ok (by omega))) | (exact decide_eq_true (hv.ok (by omega))) | (exact decide_eq_true ⟨by omega, hv2.ok (by omega)⟩) | (exact decide_eq_true (by omega)) | (simp; done) | (simp; omega) | rfl) ?_
                          refine oS ?_
                          refine oN ?_
                          refine blockQ_normal ?_
                          refine thenQ_normal ?_
                          refine WI.regB tabId6_ok [0, 1, 5, 7, 8, 15, 16] ?_
                          refine oS ?_
                          refine oG (hok := by first | with_reducible rfl | omega | (exact decide_eq_true (hv2.ok (by omega))) | (exact decide_eq_true (hv.ok (by omega))) | (exact decide_eq_true ⟨by omega, hv2.ok (by omega)⟩) | (exact decide_eq_true (by omega)) | (simp; done) | (simp; omega) | rfl) ?_
                          refine oS ?_
                          refine oN ?_
                          refine thenQ_normal ?_
                          exact ⟨⟨k + 1, by first | rfl | (rw [hmn]; rfl) | simp [hmn], rfl, by omega⟩, by simp [down, Ab.get, D.val, intOf?]; omega⟩
                        · try simp only [zB] at h13
                          have hmn := mnK_no (g := g) hkx (by simp at h13; omega)
                          refine WI.skip ?_
                          refine blockQ_normal ?_
                          refine thenQ_normal ?_
                          refine WI.regB tabId6_ok [0, 1, 5, 7, 8, 15, 16] ?_
                          refine oS ?_
                          refine oG (hok := by first | with_reducible rfl | omega | (exact decide_eq_true (hv2.ok (by omega))) | (exact decide_eq_true (hv.ok (by omega))) | (exact decide_eq_true ⟨by omega, hv2.ok (by omega)⟩) | (exact decide_eq_true (by omega)) | (simp; done) | (simp; omega) | rfl) ?_
                          refine oS ?_
                          refine oN ?_
                          refine thenQ_normal ?_
                          exact ⟨⟨k + 1, by first | rfl | (rw [hmn]; rfl) | simp [hmn], rfl, by omega⟩, by simp [down, Ab.get, D.val, intOf?]; omega⟩
                      · try simp only [zB] at h12
                        refine WI.exit ?_
                        refine thenQ_exit ?_
                        refine thenQ_exit ?_
                        refine blockQ_hit ?_
                        refine thenQ_normal ?_
                        refine WI.seq ?_
                        have hk3 : k = x2.length := by omega
                        subst hk3
                        have uu := And.intro uu (And.intro (hv2.first g hm) hv2.size)
                        have hxl2 := hv2.len
                        refine WI.regB tabId6_ok [0, 1, 5, 7, 8, 15, 17, 18] ?_
                        refine oS ?_
                        refine oC (hok := by first | with_reducible rfl | omega | (exact decide_eq_true (hv2.ok (by omega))) | (exact decide_eq_true (hv.ok (by omega))) | (exact decide_eq_true ⟨by omega, hv2.ok (by omega)⟩) | (exact decide_eq_true (by omega)) | (simp; done) | (simp; omega) | rfl) ?_
                        refine oS ?_
                        iterate 2 refine oG (hok := by first | with_reducible rfl | omega | (exact decide_eq_true (hv2.ok (by omega))) | (exact decide_eq_true (hv.ok (by omega))) | (exact decide_eq_true ⟨by omega, hv2.ok (by omega)⟩) | (exact decide_eq_true (by omega)) | (simp; done) | (simp; omega) | rfl) ?_
                        iterate 2 refine oS ?_
                        refine oN ?_
                        refine thenQ_normal ?_
                        refine WI.seq ?_
                        refine WI.regB tabId6_ok [0, 1, 5, 7, 8, 202] ?_
                        iterate 2 refine oS ?_
                        refine oG (hok := by first | with_reducible rfl | omega | (exact decide_eq_true (hv2.ok (by omega))) | (exact decide_eq_true (hv.ok (by omega))) | (exact decide_eq_true ⟨by omega, hv2.ok (by omega)⟩) | (exact decide_eq_true (by omega)) | (simp; done) | (simp; omega) | rfl) ?_
                        refine oS ?_
                        iterate 6 refine oG (hok := by first | with_reducible rfl | omega | (exact decide_eq_true (hv2.ok (by omega))) | (exact decide_eq_true (hv.ok (by omega))) | (exact decide_eq_true ⟨by omega, hv2.ok (by omega)⟩) | (exact decide_eq_true (by omega)) | (simp; done) | (simp; omega) | rfl) ?_
                        refine oN ?_
                        refine thenQ_normal ?_
                        refine WI.cond (b := _) rfl rfl (fun h14 => ?_) (fun h14 => ?_)
                        · exfalso
                          simp at h14
                        · try simp only [zB] at h14
                          refine WI.skip ?_
                          refine blockQ_normal ?_
                          refine thenQ_normal ?_
                          refine WI.regB tabId6_ok [0, 1, 5, 7, 8] ?_
                          refine oS ?_
                          refine oG (hok := by first | with_reducible rfl | omega | (exact decide_eq_true (hv2.ok (by omega))) | (exact decide_eq_true (hv.ok (by omega))) | (exact decide_eq_true ⟨by omega, hv2.ok (by omega)⟩) | (exact decide_eq_true (by omega)) | (simp; done) | (simp; omega) | rfl) ?_
                          refine oS ?_
                          refine oN ?_
                          refine thenQ_normal ?_
                          exact ⟨⟨i + 1, x2, L2, by first | rfl | simp, by first | rfl | simp, by omega, hv2⟩, by simp [down, Ab.get, D.val, intOf?]; omega⟩
                  · exfalso
                    simp at h5; omega
                · exfalso
                  simp at h4; omega
              · have hv2 := hv.touch l[i].2.1 l[i].2.2.1
                rw [if_neg hk.2] at hv2
                refine WI.regB tabId6_ok [0, 1, 5, 7, 8, 9, 60, 122] ?_
                refine oG (hok := by first | with_reducible rfl | omega | (exact decide_eq_true (hv2.ok (by omega))) | (exact decide_eq_true (hv.ok (by omega))) | (exact decide_eq_true ⟨by omega, hv2.ok (by omega)⟩) | (exact decide_eq_true (by omega)) | (simp; done) | (simp; omega) | rfl) ?_
                refine oS ?_
                refine oN ?_
                refine thenQ_normal ?_
                refine WI.cond (b := _) rfl rfl (fun h4 => ?_) (fun h4 => ?_)
                · try simp only [zB] at h4
                  refine WI.seq ?_
                  refine WI.regB tabId6_ok [0, 1, 5, 7, 8, 9] ?_
                  iterate 2 refine oS ?_
                  refine oG (hok := by first | with_reducible rfl | omega | (exact decide_eq_true (hv2.ok (by omega))) | (exact decide_eq_true (hv.ok (by omega))) | (exact decide_eq_true ⟨by omega, hv2.ok (by omega)⟩) | (exact decide_eq_true (by omega)) | (simp; done) | (simp; omega) | rfl) ?_
                  refine oS ?_
                  refine oG (hok := by first | with_reducible rfl | omega | (exact decide_eq_true (hv2.ok (by omega))) | (exact decide_eq_true (hv.ok (by omega))) | (exact decide_eq_true ⟨by omega, hv2.ok (by omega)⟩) | (exact decide_eq_true (by omega)) | (simp; done) | (simp; omega) | rfl) ?_
                  refine oC (hok := by first | with_reducible rfl | omega | (exact decide_eq_true (hv2.ok (by omega))) | (exact decide_eq_true (hv.ok (by omega))) | (exact decide_eq_true ⟨by omega, hv2.ok (by omega)⟩) | (exact decide_eq_true (by omega)) | (simp; done) | (simp; omega) | rfl) ?_
                  refine oN ?_
                  refine thenQ_normal ?_
                  refine WI.seq ?_
                  refine WI.regB tabId6_ok [0, 1, 5, 7, 8, 9, 137] ?_
                  refine oS ?_
                  iterate 2 refine oG (hok := by first | with_reducible rfl | omega | (exact decide_eq_true (hv2.ok (by omega))) | (exact decide_eq_true (hv.ok (by omega))) | (exact decide_eq_true ⟨by omega, hv2.ok (by omega)⟩) | (exact decide_eq_true (by omega)) | (simp; done) | (simp; omega) | rfl) ?_
                  refine oS ?_
                  iterate 4 refine oG (hok := by first | with_reducible rfl | omega | (exact decide_eq_true (hv2.ok (by omega))) | (exact decide_eq_true (hv.ok (by omega))) | (exact decide_eq_true ⟨by omega, hv2.ok (by omega)⟩) | (exact decide_eq_true (by omega)) | (simp; done) | (simp; omega) | rfl) ?_
                  refine oN ?_
                  refine thenQ_normal ?_
                  refine WI.cond (b := _) rfl rfl (fun h5 => ?_) (fun h5 => ?_)
                  · exfalso
                    simp at h5; omega
                  · try simp only [zB] at h5
                    refine WI.skip ?_
                    refine blockQ_normal ?_
                    refine thenQ_normal ?_
                    refine WI.seq ?_
                    obtain ⟨x2, hx2⟩ : ∃ x2, x2 = x := ⟨_, rfl⟩
                    subst hx2
                    generalize tchL L l[i].2.1 l[i].2.2.1 = L2 at hv2 ⊢
                    refine WI.orderA [0, 1, 5, 7, 8] ?_
                    refine WI.post ?_
                    refine WI.regB tabId6_ok [0, 1, 5, 7, 8, 15] ?_
                    refine oS ?_
                    refine oP ?_
                    refine pPick [0, 1] ?_
                    refine pEnd ?_
                    refine thenQ_normal ?_
                    refine WI.seq ?_
                    refine WI.seq ?_
                    refine WI.regB tabId6_ok [0, 1, 5, 7, 8, 15, 16] ?_
                    refine oS ?_
                    refine oN ?_
                    refine thenQ_normal ?_
                    refine WI.block ?_
                    refine WI.loop (fun φ os => ∃ (k : Nat), φ = [(0, .x (.int .i64 g)), (1, .x (.sl (rows rDeed50 l))), (5, .ptr 1 0), (7, .x (.sl (rows rP x2))), (8, .x (.int .i64 i)), (15, .x (.int .i64 (mnK g x2 k))), (16, .x (.int .i64 k))] ∧ os = [idM L2, .box [.mref 0, .x (.int .i64 g)]] ∧ k ≤ x2.length) (down x2.length 16) ?_ (fun φ os hI => ?_)
                    · exact ⟨0, rfl, rfl, by omega⟩
                    · obtain ⟨k, rfl, rfl, hk2⟩ := hI
                      refine WI.seq ?_
                      refine WI.seq ?_
                      refine WI.regB tabId6_ok [0, 1, 5, 7, 8, 15, 16, 165] ?_
                      iterate 2 refine oS ?_
                      iterate 2 refine oG (hok := by first | with_reducible rfl | omega | (exact decide_eq_true (hv2.ok (by omega))) | (exact decide_eq_true (hv.ok (by omega))) | (exact decide_eq_true ⟨by omega, hv2.ok (by omega)⟩) | (exact decide_eq_true (by omega)) | (simp; done) | (simp; omega) | rfl) ?_
                      refine oN ?_
                      refine thenQ_normal ?_
                      refine WI.cond (b := _) rfl rfl (fun h12 => ?_) (fun h12 => ?_)
                      · try simp only [zB] at h12
                        refine WI.skip ?_
                        refine thenQ_normal ?_
                        refine WI.seq ?_
                        refine WI.block ?_
                        refine WI.seq ?_
                        have hkx : k < x2.length := by omega
                        have hb := hv2.le _ (List.getElem_mem hkx)
                        have hmb := mnK_le hm hv2.le k
                        have hxl2 := hv2.len
                        refine WI.regB tabId6_ok [0, 1, 5, 7, 8, 15, 16, 180] ?_
                        refine oS ?_
                        refine oG (hok := by first | with_reducible rfl | omega | (exact decide_eq_true (hv2.ok (by omega))) | (exact decide_eq_true (hv.ok (by omega))) | (exact decide_eq_true ⟨by omega, hv2.ok (by omega)⟩) | (exact decide_eq_true (by omega)) | (simp; done) | (simp; omega) | rfl) ?_
                        refine oS ?_
                        iterate 10 refine oG (hok := by first | with_reducible rfl | omega | (exact decide_eq_true (hv2.ok (by omega))) | (exact decide_eq_true (hv.ok (by omega))) | (exact decide_eq_true ⟨by omega, hv2.ok (by omega)⟩) | (exact decide_eq_true (by omega)) | (simp; done) | (simp; omega) | rfl) ?_
                        refine oN ?_
                        refine thenQ_normal ?_
                        refine WI.cond (b := _) rfl rfl (fun h13 => ?_) (fun h13 => ?_)
                        · try simp only [zB] at h13
                          have hmn := mnK_yes (g := g) hkx (by simp at h13; omega)
                          refine WI.regB tabId6_ok [0, 1, 5, 7, 8, 15, 16] ?_
                          iterate 2 refine oS ?_
                          refine oG (hok := by first | with_reducible rfl | omega | (exact decide_eq_true (hv2.ok (by omega))) | (exact decide_eq_true (hv.ok (by omega))) | (exact decide_eq_true ⟨by omega, hv2.ok (by omega)⟩) | (exact decide_eq_true (by omega)) | (simp; done) | (simp; omega) | rfl) ?_
                          refine oS ?_
                          refine oG (hok := by first | with_reducible rfl | omega | (exact decide_eq_true (hv2.ok (by omega))) | (exact decide_eq_true (hv.ok (by omega))) | (exact decide_eq_true ⟨by omega, hv2.ok (by omega)⟩) | (exact decide_eq_true (by omega)) | (simp; done) | (simp; omega) | rfl) ?_
                          refine oS ?_
                          refine oG (hok := by first | with_reducible rfl | omega | (exact decide_eq_true (hv2.ok (by omega))) | (exact decide_eq_true (hv.ok (by omega))) | (exact decide_eq_true ⟨by omega, hv2.ok (by omega)⟩) | (exact decide_eq_true (by omega)) | (simp; done) | (simp; omega) | rfl) ?_
                          refine oS ?_
                          refine oN ?_
                          refine blockQ_normal ?_
                          refine thenQ_normal ?_
                          refine WI.regB tabId6_ok [0, 1, 5, 7, 8, 15, 16] ?_
                          refine oS ?_
                          refine oG (hok := by first | with_reducible rfl | omega | (exact decide_eq_true (hv2.ok (by omega))) | (exact decide_eq_true (hv.ok (by omega))) | (exact decide_eq_true ⟨by omega, hv2.ok (by omega)⟩) | (exact decide_eq_true (by omega)) | (simp; done) | (simp; omega) | rfl) ?_
                          refine oS ?_
                          refine oN ?_
                          refine thenQ_normal ?_
                          exact ⟨⟨k + 1, by first | rfl | (rw [hmn]; rfl) | simp [hmn], rfl, by omega⟩, by simp [down, Ab.get, D.val, intOf?]; omega⟩
                        · try simp only [zB] at h13
                          have hmn := mnK_no (g := g) hkx (by simp at h13; omega)
                          refine WI.skip ?_
                          refine blockQ_normal ?_
                          refine thenQ_normal ?_
                          refine WI.regB tabId6_ok [0, 1, 5, 7, 8, 15, 16] ?_
                          refine oS ?_
                          refine oG (hok := by first | with_reducible rfl | omega | (exact decide_eq_true (hv2.ok (by omega))) | (exact decide_eq_true (hv.ok (by omega))) | (exact decide_eq_true ⟨by omega, hv2.ok (by omega)⟩) | (exact decide_eq_true (by omega)) | (simp; done) | (simp; omega) | rfl) ?_
                          refine oS ?_
                          refine oN ?_
                          refine thenQ_normal ?_
                          exact ⟨⟨k + 1, by first | rfl | (rw [hmn]; rfl) | simp [hmn], rfl, by omega⟩, by simp [down, Ab.get, D.val, intOf?]; omega⟩
                      · try simp only [zB] at h12
                        refine WI.exit ?_
                        refine thenQ_exit ?_
                        refine thenQ_exit ?_
                        refine blockQ_hit ?_
                        refine thenQ_normal ?_
                        refine WI.seq ?_
                        have hk3 : k = x2.length := by omega
                        subst hk3
                        have uu := And.intro uu (And.intro (hv2.first g hm) hv2.size)
                        have hxl2 := hv2.len
                        refine WI.regB tabId6_ok [0, 1, 5, 7, 8, 15, 17, 18] ?_
                        refine oS ?_
                        refine oC (hok := by first | with_reducible rfl | omega | (exact decide_eq_true (hv2.ok (by omega))) | (exact decide_eq_true (hv.ok (by omega))) | (exact decide_eq_true ⟨by omega, hv2.ok (by omega)⟩) | (exact decide_eq_true (by omega)) | (simp; done) | (simp; omega) | rfl) ?_
                        refine oS ?_
                        iterate 2 refine oG (hok := by first | with_reducible rfl | omega | (exact decide_eq_true (hv2.ok (by omega))) | (exact decide_eq_true (hv.ok (by omega))) | (exact decide_eq_true ⟨by omega, hv2.ok (by omega)⟩) | (exact decide_eq_true (by omega)) | (simp; done) | (simp; omega) | rfl) ?_
                        iterate 2 refine oS ?_
                        refine oN ?_
                        refine thenQ_normal ?_
                        refine WI.seq ?_
                        refine WI.regB tabId6_ok [0, 1, 5, 7, 8, 202] ?_
                        iterate 2 refine oS ?_
                        refine oG (hok := by first | with_reducible rfl | omega | (exact decide_eq_true (hv2.ok (by omega))) | (exact decide_eq_true (hv.ok (by omega))) | (exact decide_eq_true ⟨by omega, hv2.ok (by omega)⟩) | (exact decide_eq_true (by omega)) | (simp; done) | (simp; omega) | rfl) ?_
                        refine oS ?_
                        iterate 6 refine oG (hok := by first | with_reducible rfl | omega | (exact decide_eq_true (hv2.ok (by omega))) | (exact decide_eq_true (hv.ok (by omega))) | (exact decide_eq_true ⟨by omega, hv2.ok (by omega)⟩) | (exact decide_eq_true (by omega)) | (simp; done) | (simp; omega) | rfl) ?_
                        refine oN ?_
                        refine thenQ_normal ?_
                        refine WI.cond (b := _) rfl rfl (fun h14 => ?_) (fun h14 => ?_)
                        · exfalso
                          simp at h14
                        · try simp only [zB] at h14
                          refine WI.skip ?_
                          refine blockQ_normal ?_
                          refine thenQ_normal ?_
                          refine WI.regB tabId6_ok [0, 1, 5, 7, 8] ?_
                          refine oS ?_
                          refine oG (hok := by first | with_reducible rfl | omega | (exact decide_eq_true (hv2.ok (by omega))) | (exact decide_eq_true (hv.ok (by omega))) | (exact decide_eq_true ⟨by omega, hv2.ok (by omega)⟩) | (exact decide_eq_true (by omega)) | (simp; done) | (simp; omega) | rfl) ?_
                          refine oS ?_
                          refine oN ?_
                          refine thenQ_normal ?_
                          exact ⟨⟨i + 1, x2, L2, by first | rfl | simp, by first | rfl | simp, by omega, hv2⟩, by simp [down, Ab.get, D.val, intOf?]; omega⟩
                · exfalso
                  simp at h4; omega
              · have hv2 := hv.del l[i].2.1
                have hh := hv.had l[i].2.1
                have hle := outL_le x l[i].2.1
                have uu := And.intro uu hh
                refine WI.regB tabId6_ok [0, 1, 5, 7, 8, 9, 60, 122] ?_
                refine oG (hok := by first | with_reducible rfl | omega | (exact decide_eq_true (hv2.ok (by omega))) | (exact decide_eq_true (hv.ok (by omega))) | (exact decide_eq_true ⟨by omega, hv2.ok (by omega)⟩) | (exact decide_eq_true (by omega)) | (simp; done) | (simp; omega) | rfl) ?_
                refine oS ?_
                refine oN ?_
                refine thenQ_normal ?_
                refine WI.cond (b := _) rfl rfl (fun h4 => ?_) (fun h4 => ?_)
                · exfalso
                  simp at h4; omega
                · try simp only [zB] at h4
                  refine WI.seq ?_
                  refine WI.regB tabId6_ok [0, 1, 5, 7, 8, 9, 145] ?_
                  refine oG (hok := by first | with_reducible rfl | omega | (exact decide_eq_true (hv2.ok (by omega))) | (exact decide_eq_true (hv.ok (by omega))) | (exact decide_eq_true ⟨by omega, hv2.ok (by omega)⟩) | (exact decide_eq_true (by omega)) | (simp; done) | (simp; omega) | rfl) ?_
                  refine oS ?_
                  refine oN ?_
                  refine thenQ_normal ?_
                  refine WI.cond (b := _) rfl rfl (fun h6 => ?_) (fun h6 => ?_)
                  · try simp only [zB] at h6
                    refine WI.seq ?_
                    refine WI.regB tabId6_ok [0, 1, 5, 7, 8, 9, 10] ?_
                    iterate 2 refine oS ?_
                    refine oG (hok := by first | with_reducible rfl | omega | (exact decide_eq_true (hv2.ok (by omega))) | (exact decide_eq_true (hv.ok (by omega))) | (exact decide_eq_true ⟨by omega, hv2.ok (by omega)⟩) | (exact decide_eq_true (by omega)) | (simp; done) | (simp; omega) | rfl) ?_
                    refine oC (hok := by first | with_reducible rfl | omega | (exact decide_eq_true (hv2.ok (by omega))) | (exact decide_eq_true (hv.ok (by omega))) | (exact decide_eq_true ⟨by omega, hv2.ok (by omega)⟩) | (exact decide_eq_true (by omega)) | (simp; done) | (simp; omega) | rfl) ?_
                    refine oS ?_
                    refine oN ?_
                    refine thenQ_normal ?_
                    refine WI.seq ?_
                    refine WI.seq ?_
                    refine WI.regB tabId6_ok [0, 1, 5, 8, 10, 160] ?_
                    iterate 2 refine oS ?_
                    refine oG (hok := by first | with_reducible rfl | omega | (exact decide_eq_true (hv2.ok (by omega))) | (exact decide_eq_true (hv.ok (by omega))) | (exact decide_eq_true ⟨by omega, hv2.ok (by omega)⟩) | (exact decide_eq_true (by omega)) | (simp; done) | (simp; omega) | rfl) ?_
                    refine oC (hok := by first | with_reducible rfl | omega | (exact decide_eq_true (hv2.ok (by omega))) | (exact decide_eq_true (hv.ok (by omega))) | (exact decide_eq_true ⟨by omega, hv2.ok (by omega)⟩) | (exact decide_eq_true (by omega)) | (simp; done) | (simp; omega) | rfl) ?_
                    refine oS ?_
                    refine oG (hok := by first | with_reducible rfl | omega | (exact decide_eq_true (hv2.ok (by omega))) | (exact decide_eq_true (hv.ok (by omega))) | (exact decide_eq_true ⟨by omega, hv2.ok (by omega)⟩) | (exact decide_eq_true (by omega)) | (simp; done) | (simp; omega) | rfl) ?_
                    refine oS ?_
                    iterate 3 refine oG (hok := by first | with_reducible rfl | omega | (exact decide_eq_true (hv2.ok (by omega))) | (exact decide_eq_true (hv.ok (by omega))) | (exact decide_eq_true ⟨by omega, hv2.ok (by omega)⟩) | (exact decide_eq_true (by omega)) | (simp; done) | (simp; omega) | rfl) ?_
                    refine oN ?_
                    refine thenQ_normal ?_
                    refine WI.cond (b := _) rfl rfl (fun h7 => ?_) (fun h7 => ?_)
                    · exfalso
                      simp at h7
                    · try simp only [zB] at h7
                      refine WI.skip ?_
                      refine thenQ_normal ?_
                      refine WI.regB tabId6_ok [0, 1, 5, 7, 8] ?_
                      iterate 2 refine oS ?_
                      refine oN ?_
                      refine blockQ_normal ?_
                      refine thenQ_normal ?_
                      refine WI.seq ?_
                      generalize outL x l[i].2.1 = x2 at hv2 ⊢
                      generalize mdel L l[i].2.1 = L2 at hv2 ⊢
                      refine WI.orderA [0, 1, 5, 7, 8] ?_
                      refine WI.post ?_
                      refine WI.regB tabId6_ok [0, 1, 5, 7, 8, 15] ?_
                      refine oS ?_
                      refine oP ?_
                      refine pPick [0, 1] ?_
                      refine pEnd ?_
                      refine thenQ_normal ?_
                      refine WI.seq ?_
                      refine WI.seq ?_
                      refine WI.regB tabId6_ok [0, 1, 5, 7, 8, 15, 16] ?_
                      refine oS ?_
                      refine oN ?_
                      refine thenQ_normal ?_
                      refine WI.block ?_
                      refine WI.loop (fun φ os => ∃ (k : Nat), φ = [(0, .x (.int .i64 g)), (1, .x (.sl (rows rDeed50 l))), (5, .ptr 1 0), (7, .x (.sl (rows rP x2))), (8, .x (.int .i64 i)), (15, .x (.int .i64 (mnK g x2 k))), (16, .x (.int .i64 k))] ∧ os = [idM L2, .box [.mref 0, .x (.int .i64 g)]] ∧ k ≤ x2.length) (down x2.length 16) ?_ (fun φ os hI => ?_)
                      · exact ⟨0, rfl, rfl, by omega⟩
                      · obtain ⟨k, rfl, rfl, hk2⟩ := hI
                        refine WI.seq ?_
                        refine WI.seq ?_
                        refine WI.regB tabId6_ok [0, 1, 5, 7, 8, 15, 16, 165] ?_
                        iterate 2 refine oS ?_
                        iterate 2 refine oG (hok := by first | with_reducible rfl | omega | (exact decide_eq_true (hv2.ok (by omega))) | (exact decide_eq_true (hv.ok (by omega))) | (exact decide_eq_true ⟨by omega, hv2.ok (by omega)⟩) | (exact decide_eq_true (by omega)) | (simp; done) | (simp; omega) | rfl) ?_
                        refine oN ?_
                        refine thenQ_normal ?_
                        refine WI.cond (b := _) rfl rfl (fun h12 => ?_) (fun h12 => ?_)
                        · try simp only [zB] at h12
                          refine WI.skip ?_
                          refine thenQ_normal ?_
                          refine WI.seq ?_
                          refine WI.block ?_
                          refine WI.seq ?_
                          have hkx : k < x2.length := by omega
                          have hb := hv2.le _ (List.getElem_mem hkx)
                          have hmb := mnK_le hm hv2.le k
                          have hxl2 := hv2.len
                          refine WI.regB tabId6_ok [0, 1, 5, 7, 8, 15, 16, 180] ?_
                          refine oS ?_
                          refine oG (hok := by first | with_reducible rfl | omega | (exact decide_eq_true (hv2.ok (by omega))) | (exact decide_eq_true (hv.ok (by omega))) | (exact decide_eq_true ⟨by omega, hv2.ok (by omega)⟩) | (exact decide_eq_true (by omega)) | (simp; done) | (simp; omega) | rfl) ?_
                          refine oS ?_
                          iterate 10 refine oG (hok := by first | with_reducible rfl | omega | (exact decide_eq_true (hv2.ok (by omega))) | (exact decide_eq_true (hv.ok (by omega))) | (exact decide_eq_true ⟨by omega, hv2.ok (by omega)⟩) | (exact decide_eq_true (by omega)) | (simp; done) | (simp; omega) | rfl) ?_
                          refine oN ?_
                          refine thenQ_normal ?_
                          refine WI.cond (b := _) rfl rfl (fun h13 => ?_) (fun h13 => ?_)
                          · try simp only [zB] at h13
                            have hmn := mnK_yes (g := g) hkx (by simp at h13; omega)
                            refine WI.regB tabId6_ok [0, 1, 5, 7, 8, 15, 16] ?_
                            iterate 2 refine oS ?_
                            refine oG (hok := by first | with_reducible rfl | omega | (exact decide_eq_true (hv2.ok (by omega))) | (exact decide_eq_true (hv.ok (by omega))) | (exact decide_eq_true ⟨by omega, hv2.ok (by omega)⟩) | (exact decide_eq_true (by omega)) | (simp; done) | (simp; omega) | rfl) ?_
                            refine oS ?_
                            refine oG (hok := by first | with_reducible rfl | omega | (exact decide_eq_true (hv2.ok (by omega))) | (exact decide_eq_true (hv.ok (by omega))) | (exact decide_eq_true ⟨by omega, hv2.ok (by omega)⟩) | (exact decide_eq_true (by omega)) | (simp; done) | (simp; omega) | rfl) ?_
                            refine oS ?_
                            refine oG (hok := by first | with_reducible rfl | omega | (exact decide_eq_true (hv2.ok (by omega))) | (exact decide_eq_true (hv.ok (by omega))) | (exact decide_eq_true ⟨by omega, hv2.ok (by omega)⟩) | (exact decide_eq_true (by omega)) | (simp; done) | (simp; omega) | rfl) ?_
                            refine oS ?_
                            refine oN ?_
                            refine blockQ_normal ?_
                            refine thenQ_normal ?_
                            refine WI.regB tabId6_ok [0, 1, 5, 7, 8, 15, 16] ?_
                            refine oS ?_
                            refine oG (hok := by first | with_reducible rfl | omega | (exact decide_eq_true (hv2.ok (by omega))) | (exact decide_eq_true (hv.ok (by omega))) | (exact decide_eq_true ⟨by omega, hv2.ok (by omega)⟩) | (exact decide_eq_true (by omega)) | (simp; done) | (simp; omega) | rfl) ?_
                            refine oS ?_
                            refine oN ?_
                            refine thenQ_normal ?_
                            exact ⟨⟨k + 1, by first | rfl | (rw [hmn]; rfl) | simp [hmn], rfl, by omega⟩, by simp [down, Ab.get, D.val, intOf?]; omega⟩
                          · try simp only [zB] at h13
                            have hmn := mnK_no (g := g) hkx (by simp at h13; omega)
                            refine WI.skip ?_
                            refine blockQ_normal ?_
                            refine thenQ_normal ?_
                            refine WI.regB tabId6_ok [0, 1, 5, 7, 8, 15, 16] ?_
                            refine oS ?_
                            refine oG (hok := by first | with_reducible rfl | omega | (exact decide_eq_true (hv2.ok (by omega))) | (exact decide_eq_true (hv.ok (by omega))) | (exact decide_eq_true ⟨by omega, hv2.ok (by omega)⟩) | (exact decide_eq_true (by omega)) | (simp; done) | (simp; omega) | rfl) ?_
                            refine oS ?_
                            refine oN ?_
                            refine thenQ_normal ?_
                            exact ⟨⟨k + 1, by first | rfl | (rw [hmn]; rfl) | simp [hmn], rfl, by omega⟩, by simp [down, Ab.get, D.val, intOf?]; omega⟩
                        · try simp only [zB] at h12
                          refine WI.exit ?_
                          refine thenQ_exit ?_
                          refine thenQ_exit ?_
                          refine blockQ_hit ?_
                          refine thenQ_normal ?_
                          refine WI.seq ?_
                          have hk3 : k = x2.length := by omega
                          subst hk3
                          have uu := And.intro uu (And.intro (hv2.first g hm) hv2.size)
                          have hxl2 := hv2.len
                          refine WI.regB tabId6_ok [0, 1, 5, 7, 8, 15, 17, 18] ?_
                          refine oS ?_
                          refine oC (hok := by first | with_reducible rfl | omega | (exact decide_eq_true (hv2.ok (by omega))) | (exact decide_eq_true (hv.ok (by omega))) | (exact decide_eq_true ⟨by omega, hv2.ok (by omega)⟩) | (exact decide_eq_true (by omega)) | (simp; done) | (simp; omega) | rfl) ?_
                          refine oS ?_
                          iterate 2 refine oG (hok := by first | with_reducible rfl | omega | (exact decide_eq_true (hv2.ok (by omega))) | (exact decide_eq_true (hv.ok (by omega))) | (exact decide_eq_true ⟨by omega, hv2.ok (by omega)⟩) | (exact decide_eq_true (by omega)) | (simp; done) | (simp; omega) | rfl) ?_
                          iterate 2 refine oS ?_
                          refine oN ?_
                          refine thenQ_normal ?_
                          refine WI.seq ?_
                          refine WI.regB tabId6_ok [0, 1, 5, 7, 8, 202] ?_
                          iterate 2 refine oS ?_
                          refine oG (hok := by first | with_reducible rfl | omega | (exact decide_eq_true (hv2.ok (by omega))) | (exact decide_eq_true (hv.ok (by omega))) | (exact decide_eq_true ⟨by omega, hv2.ok (by omega)⟩) | (exact decide_eq_true (by omega)) | (simp; done) | (simp; omega) | rfl) ?_
                          refine oS ?_
                          iterate 6 refine oG (hok := by first | with_reducible rfl | omega | (exact decide_eq_true (hv2.ok (by omega))) | (exact decide_eq_true (hv.ok (by omega))) | (exact decide_eq_true ⟨by omega, hv2.ok (by omega)⟩) | (exact decide_eq_true (by omega)) | (simp; done) | (simp; omega) | rfl) ?_
                          refine oN ?_
                          refine thenQ_normal ?_
                          refine WI.cond (b := _) rfl rfl (fun h14 => ?_) (fun h14 => ?_)
                          · exfalso
                            simp at h14
                          · try simp only [zB] at h14
                            refine WI.skip ?_
                            refine blockQ_normal ?_
                            refine thenQ_normal ?_
                            refine WI.regB tabId6_ok [0, 1, 5, 7, 8] ?_
                            refine oS ?_
                            refine oG (hok := by first | with_reducible rfl | omega | (exact decide_eq_true (hv2.ok (by omega))) | (exact decide_eq_true (hv.ok (by omega))) | (exact decide_eq_true ⟨by omega, hv2.ok (by omega)⟩) | (exact decide_eq_true (by omega)) | (simp; done) | (simp; omega) | rfl) ?_
                            refine oS ?_
                            refine oN ?_
                            refine thenQ_normal ?_
                            exact ⟨⟨i + 1, x2, L2, by first | rfl | simp, by first | rfl | simp, by omega, hv2⟩, by simp [down, Ab.get, D.val, intOf?]; omega⟩
                  · exfalso
                    simp at h6; omega
              · have hv2 := hv.aft g l[i].2.2.1
                rw [if_pos hk.2.2] at hv2
                have hgt := hv.got g l[i].2.2.1
                rw [if_pos hk.2.2] at hgt
                have uu := And.intro uu hgt
                have hk3 := hk.2.2
                unfold inR at hk3
                refine WI.regB tabId6_ok [0, 1, 5, 7, 8, 9, 60, 122] ?_
                refine oG (hok := by first | with_reducible rfl | omega | (exact decide_eq_true (hv2.ok (by omega))) | (exact decide_eq_true (hv.ok (by omega))) | (exact decide_eq_true ⟨by omega, hv2.ok (by omega)⟩) | (exact decide_eq_true (by omega)) | (simp; done) | (simp; omega) | rfl) ?_
                refine oS ?_
                refine oN ?_
                refine thenQ_normal ?_
                refine WI.cond (b := _) rfl rfl (fun h4 => ?_) (fun h4 => ?_)
                · exfalso
                  simp at h4; omega
                · try simp only [zB] at h4
                  refine WI.seq ?_
                  refine WI.regB tabId6_ok [0, 1, 5, 7, 8, 9, 145] ?_
                  refine oG (hok := by first | with_reducible rfl | omega | (exact decide_eq_true (hv2.ok (by omega))) | (exact decide_eq_true (hv.ok (by omega))) | (exact decide_eq_true ⟨by omega, hv2.ok (by omega)⟩) | (exact decide_eq_true (by omega)) | (simp; done) | (simp; omega) | rfl) ?_
                  refine oS ?_
                  refine oN ?_
                  refine thenQ_normal ?_
                  refine WI.cond (b := _) rfl rfl (fun h6 => ?_) (fun h6 => ?_)
                  · exfalso
                    simp at h6; omega
                  · try simp only [zB] at h6
                    refine WI.seq ?_
                    refine WI.regB tabId6_ok [0, 1, 5, 7, 8, 9, 11] ?_
                    iterate 2 refine oS ?_
                    refine oG (hok := by first | with_reducible rfl | omega | (exact decide_eq_true (hv2.ok (by omega))) | (exact decide_eq_true (hv.ok (by omega))) | (exact decide_eq_true ⟨by omega, hv2.ok (by omega)⟩) | (exact decide_eq_true (by omega)) | (simp; done) | (simp; omega) | rfl) ?_
                    refine oC (hok := by first | with_reducible rfl | omega | (exact decide_eq_true (hv2.ok (by omega))) | (exact decide_eq_true (hv.ok (by omega))) | (exact decide_eq_true ⟨by omega, hv2.ok (by omega)⟩) | (exact decide_eq_true (by omega)) | (simp; done) | (simp; omega) | rfl) ?_
                    refine oS ?_
                    refine oN ?_
                    refine thenQ_normal ?_
                    refine WI.seq ?_
                    refine WI.regB tabId6_ok [0, 1, 5, 7, 8, 9, 11, 12] ?_
                    refine oS ?_
                    refine oN ?_
                    refine thenQ_normal ?_
                    refine WI.seq ?_
                    refine WI.regB tabId6_ok [0, 1, 5, 7, 8, 9, 11, 12, 13] ?_
                    iterate 2 refine oS ?_
                    refine oN ?_
                    refine thenQ_normal ?_
                    refine WI.seq ?_
                    refine WI.seq ?_
                    refine WI.regB tabId6_ok [0, 1, 5, 7, 8, 9, 11, 12, 13, 14] ?_
                    refine oS ?_
                    refine oN ?_
                    refine thenQ_normal ?_
                    refine WI.block ?_
                    refine WI.loop (fun φ os => ∃ (k n : Nat) (y : Id), φ = [(0, .x (.int .i64 g)), (1, .x (.sl (rows rDeed50 l))), (5, .ptr 1 0), (7, .x (.sl (rows rP x))), (8, .x (.int .i64 i)), (9, .ptr 2 0), (11, .x (.sl (rows (rInt .i64) (dueK g l[i].2.2.1 x)))), (12, .x (.int .i64 n)), (13, .x (.sl (rows rP y))), (14, .x (.int .i64 k))] ∧ os = [idM (aftL g l[i].2.2.1 L), .box [.mref 0, .x (.int .i64 g)], .box [.x (.int .i64 l[i].1), .x (.int .i64 l[i].2.1), .x (.int .i64 l[i].2.2.1)]] ∧ Due50 g l[i].2.2.1 x k n y) (down x.length 14) ?_ (fun φ os hI => ?_)
                    · exact ⟨0, 0, x, rfl, rfl, Due50.zero ..⟩
                    · obtain ⟨k, n, y, rfl, rfl, hd⟩ := hI
                      refine WI.seq ?_
                      refine WI.seq ?_
                      refine WI.regB tabId6_ok [0, 1, 5, 7, 8, 9, 11, 12, 13, 14, 79] ?_
                      iterate 2 refine oS ?_
                      iterate 2 refine oG (hok := by first | with_reducible rfl | omega | (exact decide_eq_true (hv2.ok (by omega))) | (exact decide_eq_true (hv.ok (by omega))) | (exact decide_eq_true ⟨by omega, hv2.ok (by omega)⟩) | (exact decide_eq_true (by omega)) | (simp; done) | (simp; omega) | rfl) ?_
                      refine oS ?_
                      iterate 4 refine oG (hok := by first | with_reducible rfl | omega | (exact decide_eq_true (hv2.ok (by omega))) | (exact decide_eq_true (hv.ok (by omega))) | (exact decide_eq_true ⟨by omega, hv2.ok (by omega)⟩) | (exact decide_eq_true (by omega)) | (simp; done) | (simp; omega) | rfl) ?_
                      refine oS ?_
                      iterate 4 refine oG (hok := by first | with_reducible rfl | omega | (exact decide_eq_true (hv2.ok (by omega))) | (exact decide_eq_true (hv.ok (by omega))) | (exact decide_eq_true ⟨by omega, hv2.ok (by omega)⟩) | (exact decide_eq_true (by omega)) | (simp; done) | (simp; omega) | rfl) ?_
                      refine oN ?_
                      refine thenQ_normal ?_
                      refine WI.cond (b := _) rfl rfl (fun h8 => ?_) (fun h8 => ?_)
                      · try simp only [zB] at h8
                        refine WI.skip ?_
                        refine thenQ_normal ?_
                        refine WI.seq ?_
                        refine WI.block ?_
                        refine WI.seq ?_
                        refine WI.seq ?_
                        have hkx : k < x.length := by omega
                        have hb := hv.le _ (List.getElem_mem hkx)
                        refine WI.dregB tabId6_ok [0, 1, 5, 7, 8, 9, 11, 12, 13, 14, 91] ?_
                        refine dFS ?_
                        refine dQG (hok := by first | with_reducible rfl | omega | (exact decide_eq_true (hv2.ok (by omega))) | (exact decide_eq_true (hv.ok (by omega))) | (exact decide_eq_true ⟨by omega, hv2.ok (by omega)⟩) | (exact decide_eq_true (by omega)) | (simp; done) | (simp; omega) | rfl) ?_
                        iterate 2 refine dFS ?_
                        refine dQG (hok := by first | with_reducible rfl | omega | (exact decide_eq_true (hv2.ok (by omega))) | (exact decide_eq_true (hv.ok (by omega))) | (exact decide_eq_true ⟨by omega, hv2.ok (by omega)⟩) | (exact decide_eq_true (by omega)) | (simp; done) | (simp; omega) | rfl) ?_
                        refine dFS ?_
                        refine dQG (hok := by first | with_reducible rfl | omega | (exact decide_eq_true (hv2.ok (by omega))) | (exact decide_eq_true (hv.ok (by omega))) | (exact decide_eq_true ⟨by omega, hv2.ok (by omega)⟩) | (exact decide_eq_true (by omega)) | (simp; done) | (simp; omega) | rfl) ?_
                        refine dFG (hok := by first | with_reducible rfl | omega | (exact decide_eq_true (hv2.ok (by omega))) | (exact decide_eq_true (hv.ok (by omega))) | (exact decide_eq_true ⟨by omega, hv2.ok (by omega)⟩) | (exact decide_eq_true (by omega)) | (simp; done) | (simp; omega) | rfl) ?_
                        refine dFS ?_
                        refine dFG (hok := by first | with_reducible rfl | omega | (exact decide_eq_true (hv2.ok (by omega))) | (exact decide_eq_true (hv.ok (by omega))) | (exact decide_eq_true ⟨by omega, hv2.ok (by omega)⟩) | (exact decide_eq_true (by omega)) | (simp; done) | (simp; omega) | rfl) ?_
                        refine dN ?_
                        refine thenQ_normal ?_
                        refine WI.cond (b := _) rfl rfl (fun h9 => ?_) (fun h9 => ?_)
                        · try simp only [zB] at h9
                          have hd2 := hd.skip hkx (by omega)
                          refine WI.exit ?_
                          refine thenQ_exit ?_
                          refine blockQ_hit ?_
                          refine thenQ_normal ?_
                          refine WI.regB tabId6_ok [0, 1, 5, 7, 8, 9, 11, 12, 13, 14] ?_
                          refine oS ?_
                          refine oG (hok := by first | with_reducible rfl | omega | (exact decide_eq_true (hv2.ok (by omega))) | (exact decide_eq_true (hv.ok (by omega))) | (exact decide_eq_true ⟨by omega, hv2.ok (by omega)⟩) | (exact decide_eq_true (by omega)) | (simp; done) | (simp; omega) | rfl) ?_
                          refine oS ?_
                          refine oN ?_
                          refine thenQ_normal ?_
                          exact ⟨⟨k + 1, _, _, by first | rfl | simp, by first | rfl | simp, hd2⟩, by simp [down, Ab.get, D.val, intOf?]; omega⟩
                        · try simp only [zB] at h9
                          have hdn : ¬ (l[i].2.2.1 - x[k].2 < g) := by omega
                          have hnl := hd.lt hkx hdn
                          have hd2 := hd.step hv.srt hkx hdn
                          have uu := And.intro uu (hd.get hkx hdn)
                          have hyl := hd.len
                          have hdl := dueK_le g l[i].2.2.1 x
                          refine WI.skip ?_
                          refine thenQ_normal ?_
                          refine WI.seq ?_
                          refine WI.seq ?_
                          refine WI.dregB tabId6_ok [0, 1, 5, 7, 8, 9, 11, 12, 13, 14, 107] ?_
                          iterate 2 refine dFS ?_
                          refine dQG (hok := by first | with_reducible rfl | omega | (exact decide_eq_true (hv2.ok (by omega))) | (exact decide_eq_true (hv.ok (by omega))) | (exact decide_eq_true ⟨by omega, hv2.ok (by omega)⟩) | (exact decide_eq_true (by omega)) | (simp; done) | (simp; omega) | rfl) ?_
                          refine dFG (hok := by first | with_reducible rfl | omega | (exact decide_eq_true (hv2.ok (by omega))) | (exact decide_eq_true (hv.ok (by omega))) | (exact decide_eq_true ⟨by omega, hv2.ok (by omega)⟩) | (exact decide_eq_true (by omega)) | (simp; done) | (simp; omega) | rfl) ?_
                          refine dFS ?_
                          iterate 2 refine dFG (hok := by first | with_reducible rfl | omega | (exact decide_eq_true (hv2.ok (by omega))) | (exact decide_eq_true (hv.ok (by omega))) | (exact decide_eq_true ⟨by omega, hv2.ok (by omega)⟩) | (exact decide_eq_true (by omega)) | (simp; done) | (simp; omega) | rfl) ?_
                          iterate 2 refine dQG (hok := by first | with_reducible rfl | omega | (exact decide_eq_true (hv2.ok (by omega))) | (exact decide_eq_true (hv.ok (by omega))) | (exact decide_eq_true ⟨by omega, hv2.ok (by omega)⟩) | (exact decide_eq_true (by omega)) | (simp; done) | (simp; omega) | rfl) ?_
                          iterate 2 refine dFG (hok := by first | with_reducible rfl | omega | (exact decide_eq_true (hv2.ok (by omega))) | (exact decide_eq_true (hv.ok (by omega))) | (exact decide_eq_true ⟨by omega, hv2.ok (by omega)⟩) | (exact decide_eq_true (by omega)) | (simp; done) | (simp; omega) | rfl) ?_
                          refine dQG (hok := by first | with_reducible rfl | omega | (exact decide_eq_true (hv2.ok (by omega))) | (exact decide_eq_true (hv.ok (by omega))) | (exact decide_eq_true ⟨by omega, hv2.ok (by omega)⟩) | (exact decide_eq_true (by omega)) | (simp; done) | (simp; omega) | rfl) ?_
                          refine dFG (hok := by first | with_reducible rfl | omega | (exact decide_eq_true (hv2.ok (by omega))) | (exact decide_eq_true (hv.ok (by omega))) | (exact decide_eq_true ⟨by omega, hv2.ok (by omega)⟩) | (exact decide_eq_true (by omega)) | (simp; done) | (simp; omega) | rfl) ?_
                          refine dQG (hok := by first | with_reducible rfl | omega | (exact decide_eq_true (hv2.ok (by omega))) | (exact decide_eq_true (hv.ok (by omega))) | (exact decide_eq_true ⟨by omega, hv2.ok (by omega)⟩) | (exact decide_eq_true (by omega)) | (simp; done) | (simp; omega) | rfl) ?_
                          iterate 2 refine dFG (hok := by first | with_reducible rfl | omega | (exact decide_eq_true (hv2.ok (by omega))) | (exact decide_eq_true (hv.ok (by omega))) | (exact decide_eq_true ⟨by omega, hv2.ok (by omega)⟩) | (exact decide_eq_true (by omega)) | (simp; done) | (simp; omega) | rfl) ?_
                          refine dN ?_
                          refine thenQ_normal ?_
                          refine WI.cond (b := _) rfl rfl (fun h10 => ?_) (fun h10 => ?_)
                          · exfalso
                            simp at h10; omega
                          · try simp only [zB] at h10
                            refine WI.skip ?_
                            refine thenQ_normal ?_
                            refine WI.seq ?_
                            refine WI.regB tabId6_ok [0, 1, 5, 7, 8, 9, 11, 12, 13, 14] ?_
                            refine oS ?_
                            refine oG (hok := by first | with_reducible rfl | omega | (exact decide_eq_true (hv2.ok (by omega))) | (exact decide_eq_true (hv.ok (by omega))) | (exact decide_eq_true ⟨by omega, hv2.ok (by omega)⟩) | (exact decide_eq_true (by omega)) | (simp; done) | (simp; omega) | rfl) ?_
                            refine oS ?_
                            refine oN ?_
                            refine thenQ_normal ?_
                            refine WI.regB tabId6_ok [0, 1, 5, 7, 8, 9, 11, 12, 13, 14] ?_
                            iterate 3 refine oS ?_
                            refine oG (hok := by first | with_reducible rfl | omega | (exact decide_eq_true (hv2.ok (by omega))) | (exact decide_eq_true (hv.ok (by omega))) | (exact decide_eq_true ⟨by omega, hv2.ok (by omega)⟩) | (exact decide_eq_true (by omega)) | (simp; done) | (simp; omega) | rfl) ?_
                            refine oS ?_
                            refine oG (hok := by first | with_reducible rfl | omega | (exact decide_eq_true (hv2.ok (by omega))) | (exact decide_eq_true (hv.ok (by omega))) | (exact decide_eq_true ⟨by omega, hv2.ok (by omega)⟩) | (exact decide_eq_true (by omega)) | (simp; done) | (simp; omega) | rfl) ?_
                            refine oC (hok := by first | with_reducible rfl | omega | (exact decide_eq_true (hv2.ok (by omega))) | (exact decide_eq_true (hv.ok (by omega))) | (exact decide_eq_true ⟨by omega, hv2.ok (by omega)⟩) | (exact decide_eq_true (by omega)) | (simp; done) | (simp; omega) | rfl) ?_
                            refine oS ?_
                            refine oN ?_
                            refine blockQ_normal ?_
                            refine thenQ_normal ?_
                            refine WI.regB tabId6_ok [0, 1, 5, 7, 8, 9, 11, 12, 13, 14] ?_
                            refine oS ?_
                            refine oG (hok := by first | with_reducible rfl | omega | (exact decide_eq_true (hv2.ok (by omega))) | (exact decide_eq_true (hv.ok (by omega))) | (exact decide_eq_true ⟨by omega, hv2.ok (by omega)⟩) | (exact decide_eq_true (by omega)) | (simp; done) | (simp; omega) | rfl) ?_
                            refine oS ?_
                            refine oN ?_
                            refine thenQ_normal ?_
                            exact ⟨⟨k + 1, _, _, by first | rfl | simp, by first | rfl | simp, hd2⟩, by simp [down, Ab.get, D.val, intOf?]; omega⟩
                      · try simp only [zB] at h8
                        refine WI.exit ?_
                        refine thenQ_exit ?_
                        refine thenQ_exit ?_
                        refine blockQ_hit ?_
                        refine thenQ_normal ?_
                        refine WI.seq ?_
                        refine WI.seq ?_
                        have hdone := hd.done (by omega)
                        obtain ⟨hn2, rfl⟩ := hdone
                        have uu := And.intro uu hn2
                        refine WI.regB tabId6_ok [0, 1, 5, 8, 13, 120] ?_
                        iterate 2 refine oS ?_
                        iterate 2 refine oG (hok := by first | with_reducible rfl | omega | (exact decide_eq_true (hv2.ok (by omega))) | (exact decide_eq_true (hv.ok (by omega))) | (exact decide_eq_true ⟨by omega, hv2.ok (by omega)⟩) | (exact decide_eq_true (by omega)) | (simp; done) | (simp; omega) | rfl) ?_
                        refine oN ?_
                        refine thenQ_normal ?_
                        refine WI.cond (b := _) rfl rfl (fun h11 => ?_) (fun h11 => ?_)
                        · exfalso
                          simp at h11 <;> omega
                        · try simp only [zB] at h11
                          refine WI.skip ?_
                          refine thenQ_normal ?_
                          refine WI.regB tabId6_ok [0, 1, 5, 7, 8] ?_
                          iterate 2 refine oS ?_
                          refine oN ?_
                          refine blockQ_normal ?_
                          refine thenQ_normal ?_
                          refine WI.seq ?_
                          generalize restL g l[i].2.2.1 x = x2 at hv2 ⊢
                          generalize aftL g l[i].2.2.1 L = L2 at hv2 ⊢
                          refine WI.orderA [0, 1, 5, 7, 8] ?_
                          refine WI.post ?_
                          refine WI.regB tabId6_ok [0, 1, 5, 7, 8, 15] ?_
                          refine oS ?_
                          refine oP ?_
                          refine pPick [0, 1] ?_
                          refine pEnd ?_
                          refine thenQ_normal ?_
                          refine WI.seq ?_
                          refine WI.seq ?_
                          refine WI.regB tabId6_ok [0, 1, 5, 7, 8, 15, 16] ?_
                          refine oS ?_
                          refine oN ?_
                          refine thenQ_normal ?_
                          refine WI.block ?_
                          refine WI.loop (fun φ os => ∃ (k : Nat), φ = [(0, .x (.int .i64 g)), (1, .x (.sl (rows rDeed50 l))), (5, .ptr 1 0), (7, .x (.sl (rows rP x2))), (8, .x (.int .i64 i)), (15, .x (.int .i64 (mnK g x2 k))), (16, .x (.int .i64 k))] ∧ os = [idM L2, .box [.mref 0, .x (.int .i64 g)]] ∧ k ≤ x2.length) (down x2.length 16) ?_ (fun φ os hI => ?_)
                          · exact ⟨0, rfl, rfl, by omega⟩
                          · obtain ⟨k, rfl, rfl, hk2⟩ := hI
                            refine WI.seq ?_
                            refine WI.seq ?_
                            refine WI.regB tabId6_ok [0, 1, 5, 7, 8, 15, 16, 165] ?_
                            iterate 2 refine oS ?_
                            iterate 2 refine oG (hok := by first | with_reducible rfl | omega | (exact decide_eq_true (hv2.ok (by omega))) | (exact decide_eq_true (hv.ok (by omega))) | (exact decide_eq_true ⟨by omega, hv2.ok (by omega)⟩) | (exact decide_eq_true (by omega)) | (simp; done) | (simp; omega) | rfl) ?_
                            refine oN ?_
                            refine thenQ_normal ?_
                            refine WI.cond (b := _) rfl rfl (fun h12 => ?_) (fun h12 => ?_)
                            · try simp only [zB] at h12
                              refine WI.skip ?_
                              refine thenQ_normal ?_
                              refine WI.seq ?_
                              refine WI.block ?_
                              refine WI.seq ?_
                              have hkx : k < x2.length := by omega
                              have hb := hv2.le _ (List.getElem_mem hkx)
                              have hmb := mnK_le hm hv2.le k
                              have hxl2 := hv2.len
                              refine WI.regB tabId6_ok [0, 1, 5, 7, 8, 15, 16, 180] ?_
                              refine oS ?_
                              refine oG (hok := by first | with_reducible rfl | omega | (exact decide_eq_true (hv2.ok (by omega))) | (exact decide_eq_true (hv.ok (by omega))) | (exact decide_eq_true ⟨by omega, hv2.ok (by omega)⟩) | (exact decide_eq_true (by omega)) | (simp; done) | (simp; omega) | rfl) ?_
                              refine oS ?_
                              iterate 10 refine oG (hok := by first | with_reducible rfl | omega | (exact decide_eq_true (hv2.ok (by omega))) | (exact decide_eq_true (hv.ok (by omega))) | (exact decide_eq_true ⟨by omega, hv2.ok (by omega)⟩) | (exact decide_eq_true (by omega)) | (simp; done) | (simp; omega) | rfl) ?_
                              refine oN ?_
                              refine thenQ_normal ?_
                              refine WI.cond (b := _) rfl rfl (fun h13 => ?_) (fun h13 => ?_)
                              · try simp only [zB] at h13
                                have hmn := mnK_yes (g := g) hkx (by simp at h13; omega)
                                refine WI.regB tabId6_ok [0, 1, 5, 7, 8, 15, 16] ?_
                                iterate 2 refine oS ?_
                                refine oG (hok := by first | with_reducible rfl | omega | (exact decide_eq_true (hv2.ok (by omega))) | (exact decide_eq_true (hv.ok (by omega))) | (exact decide_eq_true ⟨by omega, hv2.ok (by omega)⟩) | (exact decide_eq_true (by omega)) | (simp; done) | (simp; omega) | rfl) ?_
                                refine oS ?_
                                refine oG (hok := by first | with_reducible rfl | omega | (exact decide_eq_true (hv2.ok (by omega))) | (exact decide_eq_true (hv.ok (by omega))) | (exact decide_eq_true ⟨by omega, hv2.ok (by omega)⟩) | (exact decide_eq_true (by omega)) | (simp; done) | (simp; omega) | rfl) ?_
                                refine oS ?_
                                refine oG (hok := by first | with_reducible rfl | omega | (exact decide_eq_true (hv2.ok (by omega))) | (exact decide_eq_true (hv.ok (by omega))) | (exact decide_eq_true ⟨by omega, hv2.ok (by omega)⟩) | (exact decide_eq_true (by omega)) | (simp; done) | (simp; omega) | rfl) ?_
                                refine oS ?_
                                refine oN ?_
                                refine blockQ_normal ?_
                                refine thenQ_normal ?_
                                refine WI.regB tabId6_ok [0, 1, 5, 7, 8, 15, 16] ?_
                                refine oS ?_
                                refine oG (hok := by first | with_reducible rfl | omega | (exact decide_eq_true (hv2.ok (by omega))) | (exact decide_eq_true (hv.ok (by omega))) | (exact decide_eq_true ⟨by omega, hv2.ok (by omega)⟩) | (exact decide_eq_true (by omega)) | (simp; done) | (simp; omega) | rfl) ?_
                                refine oS ?_
                                refine oN ?_
                                refine thenQ_normal ?_
                                exact ⟨⟨k + 1, by first | rfl | (rw [hmn]; rfl) | simp [hmn], rfl, by omega⟩, by simp [down, Ab.get, D.val, intOf?]; omega⟩
                              · try simp only [zB] at h13
                                have hmn := mnK_no (g := g) hkx (by simp at h13; omega)
                                refine WI.skip ?_
                                refine blockQ_normal ?_
                                refine thenQ_normal ?_
                                refine WI.regB tabId6_ok [0, 1, 5, 7, 8, 15, 16] ?_
                                refine oS ?_
                                refine oG (hok := by first | with_reducible rfl | omega | (exact decide_eq_true (hv2.ok (by omega))) | (exact decide_eq_true (hv.ok (by omega))) | (exact decide_eq_true ⟨by omega, hv2.ok (by omega)⟩) | (exact decide_eq_true (by omega)) | (simp; done) | (simp; omega) | rfl) ?_
                                refine oS ?_
                                refine oN ?_
                                refine thenQ_normal ?_
                                exact ⟨⟨k + 1, by first | rfl | (rw [hmn]; rfl) | simp [hmn], rfl, by omega⟩, by simp [down, Ab.get, D.val, intOf?]; omega⟩
                            · try simp only [zB] at h12
                              refine WI.exit ?_
                              refine thenQ_exit ?_
                              refine thenQ_exit ?_
                              refine blockQ_hit ?_
                              refine thenQ_normal ?_
                              refine WI.seq ?_
                              have hk3 : k = x2.length := by omega
                              subst hk3
                              have uu := And.intro uu (And.intro (hv2.first g hm) hv2.size)
                              have hxl2 := hv2.len
                              refine WI.regB tabId6_ok [0, 1, 5, 7, 8, 15, 17, 18] ?_
                              refine oS ?_
                              refine oC (hok := by first | with_reducible rfl | omega | (exact decide_eq_true (hv2.ok (by omega))) | (exact decide_eq_true (hv.ok (by omega))) | (exact decide_eq_true ⟨by omega, hv2.ok (by omega)⟩) | (exact decide_eq_true (by omega)) | (simp; done) | (simp; omega) | rfl) ?_
                              refine oS ?_
                              iterate 2 refine oG (hok := by first | with_reducible rfl | omega | (exact decide_eq_true (hv2.ok (by omega))) | (exact decide_eq_true (hv.ok (by omega))) | (exact decide_eq_true ⟨by omega, hv2.ok (by omega)⟩) | (exact decide_eq_true (by omega)) | (simp; done) | (simp; omega) | rfl) ?_
                              iterate 2 refine oS ?_
                              refine oN ?_
                              refine thenQ_normal ?_
                              refine WI.seq ?_
                              refine WI.regB tabId6_ok [0, 1, 5, 7, 8, 202] ?_
                              iterate 2 refine oS ?_
                              refine oG (hok := by first | with_reducible rfl | omega | (exact decide_eq_true (hv2.ok (by omega))) | (exact decide_eq_true (hv.ok (by omega))) | (exact decide_eq_true ⟨by omega, hv2.ok (by omega)⟩) | (exact decide_eq_true (by omega)) | (simp; done) | (simp; omega) | rfl) ?_
                              refine oS ?_
                              iterate 6 refine oG (hok := by first | with_reducible rfl | omega | (exact decide_eq_true (hv2.ok (by omega))) | (exact decide_eq_true (hv.ok (by omega))) | (exact decide_eq_true ⟨by omega, hv2.ok (by omega)⟩) | (exact decide_eq_true (by omega)) | (simp; done) | (simp; omega) | rfl) ?_
                              refine oN ?_
                              refine thenQ_normal ?_
                              refine WI.cond (b := _) rfl rfl (fun h14 => ?_) (fun h14 => ?_)
                              · exfalso
                                simp at h14
                              · try simp only [zB] at h14
                                refine WI.skip ?_
                                refine blockQ_normal ?_
                                refine thenQ_normal ?_
                                refine WI.regB tabId6_ok [0, 1, 5, 7, 8] ?_
                                refine oS ?_
                                refine oG (hok := by first | with_reducible rfl | omega | (exact decide_eq_true (hv2.ok (by omega))) | (exact decide_eq_true (hv.ok (by omega))) | (exact decide_eq_true ⟨by omega, hv2.ok (by omega)⟩) | (exact decide_eq_true (by omega)) | (simp; done) | (simp; omega) | rfl) ?_
                                refine oS ?_
                                refine oN ?_
                                refine thenQ_normal ?_
                                exact ⟨⟨i + 1, x2, L2, by first | rfl | simp, by first | rfl | simp, by omega, hv2⟩, by simp [down, Ab.get, D.val, intOf?]; omega⟩
              · have hv2 := hv.aft g l[i].2.2.1
                rw [if_neg hk.2.2] at hv2
                have hgt := hv.got g l[i].2.2.1
                rw [if_neg hk.2.2] at hgt
                have uu := And.intro uu hgt
                have hk3 := hk.2.2
                unfold inR at hk3
                refine WI.regB tabId6_ok [0, 1, 5, 7, 8, 9, 60, 122] ?_
                refine oG (hok := by first | with_reducible rfl | omega | (exact decide_eq_true (hv2.ok (by omega))) | (exact decide_eq_true (hv.ok (by omega))) | (exact decide_eq_true ⟨by omega, hv2.ok (by omega)⟩) | (exact decide_eq_true (by omega)) | (simp; done) | (simp; omega) | rfl) ?_
                refine oS ?_
                refine oN ?_
                refine thenQ_normal ?_
                refine WI.cond (b := _) rfl rfl (fun h4 => ?_) (fun h4 => ?_)
                · exfalso
                  simp at h4; omega
                · try simp only [zB] at h4
                  refine WI.seq ?_
                  refine WI.regB tabId6_ok [0, 1, 5, 7, 8, 9, 145] ?_
                  refine oG (hok := by first | with_reducible rfl | omega | (exact decide_eq_true (hv2.ok (by omega))) | (exact decide_eq_true (hv.ok (by omega))) | (exact decide_eq_true ⟨by omega, hv2.ok (by omega)⟩) | (exact decide_eq_true (by omega)) | (simp; done) | (simp; omega) | rfl) ?_
                  refine oS ?_
                  refine oN ?_
                  refine thenQ_normal ?_
                  refine WI.cond (b := _) rfl rfl (fun h6 => ?_) (fun h6 => ?_)
                  · exfalso
                    simp at h6; omega
                  · try simp only [zB] at h6
                    refine WI.seq ?_
                    refine WI.regB tabId6_ok [0, 1, 5, 7, 8, 9, 11] ?_
                    iterate 2 refine oS ?_
                    refine oG (hok := by first | with_reducible rfl | omega | (exact decide_eq_true (hv2.ok (by omega))) | (exact decide_eq_true (hv.ok (by omega))) | (exact decide_eq_true ⟨by omega, hv2.ok (by omega)⟩) | (exact decide_eq_true (by omega)) | (simp; done) | (simp; omega) | rfl) ?_
                    refine oC (hok := by first | with_reducible rfl | omega | (exact decide_eq_true (hv2.ok (by omega))) | (exact decide_eq_true (hv.ok (by omega))) | (exact decide_eq_true ⟨by omega, hv2.ok (by omega)⟩) | (exact decide_eq_true (by omega)) | (simp; done) | (simp; omega) | rfl) ?_
                    refine oS ?_
                    refine oN ?_
                    refine thenQ_normal ?_
                    refine WI.seq ?_
                    refine WI.regB tabId6_ok [0, 1, 5, 7, 8, 9, 11, 12] ?_
                    refine oS ?_
                    refine oN ?_
                    refine thenQ_normal ?_
                    refine WI.seq ?_
                    refine WI.regB tabId6_ok [0, 1, 5, 7, 8, 9, 11, 12, 13] ?_
                    iterate 2 refine oS ?_
                    refine oN ?_
                    refine thenQ_normal ?_
                    refine WI.seq ?_
                    refine WI.seq ?_
                    refine WI.regB tabId6_ok [0, 1, 5, 7, 8, 9, 11, 12, 13, 14] ?_
                    refine oS ?_
                    refine oN ?_
                    refine thenQ_normal ?_
                    refine WI.block ?_
                    refine WI.loop (fun φ os => φ = [(0, .x (.int .i64 g)), (1, .x (.sl (rows rDeed50 l))), (5, .ptr 1 0), (7, .x (.sl (rows rP x))), (8, .x (.int .i64 i)), (9, .ptr 2 0), (11, .x (.sl [])), (12, .x (.int .i64 0)), (13, .x (.sl (rows rP x))), (14, .x (.int .i64 0))] ∧ os = [idM (aftL g l[i].2.2.1 L), .box [.mref 0, .x (.int .i64 g)], .box [.x (.int .i64 l[i].1), .x (.int .i64 l[i].2.1), .x (.int .i64 l[i].2.2.1)]]) (down x.length 14) ?_ (fun φ os hI => ?_)
                    · exact ⟨rfl, rfl⟩
                    · obtain ⟨rfl, rfl⟩ := hI
                      refine WI.seq ?_
                      refine WI.seq ?_
                      refine WI.regB tabId6_ok [0, 1, 5, 7, 8, 9, 11, 12, 13, 14, 79] ?_
                      iterate 2 refine oS ?_
                      iterate 2 refine oG (hok := by first | with_reducible rfl | omega | (exact decide_eq_true (hv2.ok (by omega))) | (exact decide_eq_true (hv.ok (by omega))) | (exact decide_eq_true ⟨by omega, hv2.ok (by omega)⟩) | (exact decide_eq_true (by omega)) | (simp; done) | (simp; omega) | rfl) ?_
                      refine oS ?_
                      iterate 4 refine oG (hok := by first | with_reducible rfl | omega | (exact decide_eq_true (hv2.ok (by omega))) | (exact decide_eq_true (hv.ok (by omega))) | (exact decide_eq_true ⟨by omega, hv2.ok (by omega)⟩) | (exact decide_eq_true (by omega)) | (simp; done) | (simp; omega) | rfl) ?_
                      refine oS ?_
                      iterate 4 refine oG (hok := by first | with_reducible rfl | omega | (exact decide_eq_true (hv2.ok (by omega))) | (exact decide_eq_true (hv.ok (by omega))) | (exact decide_eq_true ⟨by omega, hv2.ok (by omega)⟩) | (exact decide_eq_true (by omega)) | (simp; done) | (simp; omega) | rfl) ?_
                      refine oN ?_
                      refine thenQ_normal ?_
                      refine WI.cond (b := _) rfl rfl (fun h8 => ?_) (fun h8 => ?_)
                      · exfalso
                        simp at h8; omega
                      · try simp only [zB] at h8
                        refine WI.exit ?_
                        refine thenQ_exit ?_
                        refine thenQ_exit ?_
                        refine blockQ_hit ?_
                        refine thenQ_normal ?_
                        refine WI.seq ?_
                        refine WI.seq ?_
                        refine WI.regB tabId6_ok [0, 1, 5, 8, 13, 120] ?_
                        iterate 2 refine oS ?_
                        iterate 2 refine oG (hok := by first | with_reducible rfl | omega | (exact decide_eq_true (hv2.ok (by omega))) | (exact decide_eq_true (hv.ok (by omega))) | (exact decide_eq_true ⟨by omega, hv2.ok (by omega)⟩) | (exact decide_eq_true (by omega)) | (simp; done) | (simp; omega) | rfl) ?_
                        refine oN ?_
                        refine thenQ_normal ?_
                        refine WI.cond (b := _) rfl rfl (fun h11 => ?_) (fun h11 => ?_)
                        · exfalso
                          simp at h11
                        · try simp only [zB] at h11
                          refine WI.skip ?_
                          refine thenQ_normal ?_
                          refine WI.regB tabId6_ok [0, 1, 5, 7, 8] ?_
                          iterate 2 refine oS ?_
                          refine oN ?_
                          refine blockQ_normal ?_
                          refine thenQ_normal ?_
                          refine WI.seq ?_
                          obtain ⟨x2, hx2⟩ : ∃ x2, x2 = x := ⟨_, rfl⟩
                          subst hx2
                          generalize aftL g l[i].2.2.1 L = L2 at hv2 ⊢
                          refine WI.orderA [0, 1, 5, 7, 8] ?_
                          refine WI.post ?_
                          refine WI.regB tabId6_ok [0, 1, 5, 7, 8, 15] ?_
                          refine oS ?_
                          refine oP ?_
                          refine pPick [0, 1] ?_
                          refine pEnd ?_
                          refine thenQ_normal ?_
                          refine WI.seq ?_
                          refine WI.seq ?_
                          refine WI.regB tabId6_ok [0, 1, 5, 7, 8, 15, 16] ?_
                          refine oS ?_
                          refine oN ?_
                          refine thenQ_normal ?_
                          refine WI.block ?_
                          refine WI.loop (fun φ os => ∃ (k : Nat), φ = [(0, .x (.int .i64 g)), (1, .x (.sl (rows rDeed50 l))), (5, .ptr 1 0), (7, .x (.sl (rows rP x2))), (8, .x (.int .i64 i)), (15, .x (.int .i64 (mnK g x2 k))), (16, .x (.int .i64 k))] ∧ os = [idM L2, .box [.mref 0, .x (.int .i64 g)]] ∧ k ≤ x2.length) (down x2.length 16) ?_ (fun φ os hI => ?_)
                          · exact ⟨0, rfl, rfl, by omega⟩
                          · obtain ⟨k, rfl, rfl, hk2⟩ := hI
                            refine WI.seq ?_
                            refine WI.seq ?_
                            refine WI.regB tabId6_ok [0, 1, 5, 7, 8, 15, 16, 165] ?_
                            iterate 2 refine oS ?_
                            iterate 2 refine oG (hok := by first | with_reducible rfl | omega | (exact decide_eq_true (hv2.ok (by omega))) | (exact decide_eq_true (hv.ok (by omega))) | (exact decide_eq_true ⟨by omega, hv2.ok (by omega)⟩) | (exact decide_eq_true (by omega)) | (simp; done) | (simp; omega) | rfl) ?_
                            refine oN ?_
                            refine thenQ_normal ?_
                            refine WI.cond (b := _) rfl rfl (fun h12 => ?_) (fun h12 => ?_)
                            · try simp only [zB] at h12
                              refine WI.skip ?_
                              refine thenQ_normal ?_
                              refine WI.seq ?_
                              refine WI.block ?_
                              refine WI.seq ?_
                              have hkx : k < x2.length := by omega
                              have hb := hv2.le _ (List.getElem_mem hkx)
                              have hmb := mnK_le hm hv2.le k
                              have hxl2 := hv2.len
                              refine WI.regB tabId6_ok [0, 1, 5, 7, 8, 15, 16, 180] ?_
                              refine oS ?_
                              refine oG (hok := by first | with_reducible rfl | omega | (exact decide_eq_true (hv2.ok (by omega))) | (exact decide_eq_true (hv.ok (by omega))) | (exact decide_eq_true ⟨by omega, hv2.ok (by omega)⟩) | (exact decide_eq_true (by omega)) | (simp; done) | (simp; omega) | rfl) ?_
                              refine oS ?_
                              iterate 10 refine oG (hok := by first | with_reducible rfl | omega | (exact decide_eq_true (hv2.ok (by omega))) | (exact decide_eq_true (hv.ok (by omega))) | (exact decide_eq_true ⟨by omega, hv2.ok (by omega)⟩) | (exact decide_eq_true (by omega)) | (simp; done) | (simp; omega) | rfl) ?_
                              refine oN ?_
                              refine thenQ_normal ?_
                              refine WI.cond (b := _) rfl rfl (fun h13 => ?_) (fun h13 => ?_)
                              · try simp only [zB] at h13
                                have hmn := mnK_yes (g := g) hkx (by simp at h13; omega)
                                refine WI.regB tabId6_ok [0, 1, 5, 7, 8, 15, 16] ?_
                                iterate 2 refine oS ?_
                                refine oG (hok := by first | with_reducible rfl | omega | (exact decide_eq_true (hv2.ok (by omega))) | (exact decide_eq_true (hv.ok (by omega))) | (exact decide_eq_true ⟨by omega, hv2.ok (by omega)⟩) | (exact decide_eq_true (by omega)) | (simp; done) | (simp; omega) | rfl) ?_
                                refine oS ?_
                                refine oG (hok := by first | with_reducible rfl | omega | (exact decide_eq_true (hv2.ok (by omega))) | (exact decide_eq_true (hv.ok (by omega))) | (exact decide_eq_true ⟨by omega, hv2.ok (by omega)⟩) | (exact decide_eq_true (by omega)) | (simp; done) | (simp; omega) | rfl) ?_
                                refine oS ?_
                                refine oG (hok := by first | with_reducible rfl | omega | (exact decide_eq_true (hv2.ok (by omega))) | (exact decide_eq_true (hv.ok (by omega))) | (exact decide_eq_true ⟨by omega, hv2.ok (by omega)⟩) | (exact decide_eq_true (by omega)) | (simp; done) | (simp; omega) | rfl) ?_
                                refine oS ?_
                                refine oN ?_
                                refine blockQ_normal ?_
                                refine thenQ_normal ?_
                                refine WI.regB tabId6_ok [0, 1, 5, 7, 8, 15, 16] ?_
                                refine oS ?_
                                refine oG (hok := by first | with_reducible rfl | omega | (exact decide_eq_true (hv2.ok (by omega))) | (exact decide_eq_true (hv.ok (by omega))) | (exact decide_eq_true ⟨by omega, hv2.ok (by omega)⟩) | (exact decide_eq_true (by omega)) | (simp; done) | (simp; omega) | rfl) ?_
                                refine oS ?_
                                refine oN ?_
                                refine thenQ_normal ?_
                                exact ⟨⟨k + 1, by first | rfl | (rw [hmn]; rfl) | simp [hmn], rfl, by omega⟩, by simp [down, Ab.get, D.val, intOf?]; omega⟩
                              · try simp only [zB] at h13
                                have hmn := mnK_no (g := g) hkx (by simp at h13; omega)
                                refine WI.skip ?_
                                refine blockQ_normal ?_
                                refine thenQ_normal ?_
                                refine WI.regB tabId6_ok [0, 1, 5, 7, 8, 15, 16] ?_
                                refine oS ?_
                                refine oG (hok := by first | with_reducible rfl | omega | (exact decide_eq_true (hv2.ok (by omega))) | (exact decide_eq_true (hv.ok (by omega))) | (exact decide_eq_true ⟨by omega, hv2.ok (by omega)⟩) | (exact decide_eq_true (by omega)) | (simp; done) | (simp; omega) | rfl) ?_
                                refine oS ?_
                                refine oN ?_
                                refine thenQ_normal ?_
                                exact ⟨⟨k + 1, by first | rfl | (rw [hmn]; rfl) | simp [hmn], rfl, by omega⟩, by simp [down, Ab.get, D.val, intOf?]; omega⟩
                            · try simp only [zB] at h12
                              refine WI.exit ?_
                              refine thenQ_exit ?_
                              refine thenQ_exit ?_
                              refine blockQ_hit ?_
                              refine thenQ_normal ?_
                              refine WI.seq ?_
                              have hk3 : k = x2.length := by omega
                              subst hk3
                              have uu := And.intro uu (And.intro (hv2.first g hm) hv2.size)
                              have hxl2 := hv2.len
                              refine WI.regB tabId6_ok [0, 1, 5, 7, 8, 15, 17, 18] ?_
                              refine oS ?_
                              refine oC (hok := by first | with_reducible rfl | omega | (exact decide_eq_true (hv2.ok (by omega))) | (exact decide_eq_true (hv.ok (by omega))) | (exact decide_eq_true ⟨by omega, hv2.ok (by omega)⟩) | (exact decide_eq_true (by omega)) | (simp; done) | (simp; omega) | rfl) ?_
                              refine oS ?_
                              iterate 2 refine oG (hok := by first | with_reducible rfl | omega | (exact decide_eq_true (hv2.ok (by omega))) | (exact decide_eq_true (hv.ok (by omega))) | (exact decide_eq_true ⟨by omega, hv2.ok (by omega)⟩) | (exact decide_eq_true (by omega)) | (simp; done) | (simp; omega) | rfl) ?_
                              iterate 2 refine oS ?_
                              refine oN ?_
                              refine thenQ_normal ?_
                              refine WI.seq ?_
                              refine WI.regB tabId6_ok [0, 1, 5, 7, 8, 202] ?_
                              iterate 2 refine oS ?_
                              refine oG (hok := by first | with_reducible rfl | omega | (exact decide_eq_true (hv2.ok (by omega))) | (exact decide_eq_true (hv.ok (by omega))) | (exact decide_eq_true ⟨by omega, hv2.ok (by omega)⟩) | (exact decide_eq_true (by omega)) | (simp; done) | (simp; omega) | rfl) ?_
                              refine oS ?_
                              iterate 6 refine oG (hok := by first | with_reducible rfl | omega | (exact decide_eq_true (hv2.ok (by omega))) | (exact decide_eq_true (hv.ok (by omega))) | (exact decide_eq_true ⟨by omega, hv2.ok (by omega)⟩) | (exact decide_eq_true (by omega)) | (simp; done) | (simp; omega) | rfl) ?_
                              refine oN ?_
                              refine thenQ_normal ?_
                              refine WI.cond (b := _) rfl rfl (fun h14 => ?_) (fun h14 => ?_)
                              · exfalso
                                simp at h14
                              · try simp only [zB] at h14
                                refine WI.skip ?_
                                refine blockQ_normal ?_
                                refine thenQ_normal ?_
                                refine WI.regB tabId6_ok [0, 1, 5, 7, 8] ?_
                                refine oS ?_
                                refine oG (hok := by first | with_reducible rfl | omega | (exact decide_eq_true (hv2.ok (by omega))) | (exact decide_eq_true (hv.ok (by omega))) | (exact decide_eq_true ⟨by omega, hv2.ok (by omega)⟩) | (exact decide_eq_true (by omega)) | (simp; done) | (simp; omega) | rfl) ?_
                                refine oS ?_
                                refine oN ?_
                                refine thenQ_normal ?_
                                exact ⟨⟨i + 1, x2, L2, by first | rfl | simp, by first | rfl | simp, by omega, hv2⟩, by simp [down, Ab.get, D.val, intOf?]; omega⟩
            · try simp only [zB] at h3
              refine WI.exit ?_
              refine thenQ_exit ?_
              refine thenQ_exit ?_
              refine blockQ_hit ?_
              refine thenQ_normal ?_
              refine WI.seq ?_
              refine WI.regB tabId6_ok [4] ?_
              refine oC (hok := by first | with_reducible rfl | omega | (exact decide_eq_true (hv2.ok (by omega))) | (exact decide_eq_true (hv.ok (by omega))) | (exact decide_eq_true ⟨by omega, hv2.ok (by omega)⟩) | (exact decide_eq_true (by omega)) | (simp; done) | (simp; omega) | rfl) ?_
              refine oS ?_
              refine oN ?_
              refine thenQ_normal ?_
              refine WI.ret ?_
              first | refine lfR ?_ | refine lfR2 ?_
              first | rfl | exact ⟨rfl, rfl⟩ | trivial -- leaf 1
  · have hm2 : (1 ≤ g ∧ g ≤ 1073741824) = False := eq_false hm
    refine FCalls.pure (fcallsG (fz := true) G_ok (p := i3) rfl _ (Nat.le_of_ble_eq_true rfl) _ (fun C0 E0 => ?_)) rfl
    dsimp only [i3, argsφ]
    have uu := And.intro @new50T.eq_1 (And.intro @new50T.eq_2 (And.intro @touchT.eq_1 (And.intro @touchT.eq_2 (And.intro @drop50T.eq_1 (And.intro @drop50T.eq_2 (And.intro @due50T.eq_1 (And.intro @due50T.eq_2 (And.intro @nx50T.eq_1 (And.intro @nx50T.eq_2 (And.intro @un_I (And.intro @un_I0 (And.intro @out50G.eq_1 (And.intro @out50G.eq_2 (And.intro @put50G.eq_1 (And.intro @put50G.eq_2 (And.intro @awake50G.eq_1 (And.intro @awake50G.eq_2 (And.intro @un_rP (And.intro hm2 (And.intro @tabId6_r (And.intro @tabId6_k (And.intro @tabId6_q10 (And.intro @tabId6_q11 (And.intro @tabId6_q12 (And.intro @tabId6_q5 (And.intro @tabId6_q6 (And.intro @tabId6_q7 (And.intro @tabId6_q8 (And.intro @tabId6_q9 (And.intro @tabId6_t6 (And.intro @tabId6_t7 (And.intro @tabId6_t10 (And.intro @tabId6_t11 (@tabId6_t12))))))))))))))))))))))))))))))))))
    refine WI.seq ?_
    refine WI.regB tabId6_ok [0, 1] ?_
    refine oS ?_
    refine oN ?_
    refine thenQ_normal ?_
    refine WI.seq ?_
    refine WI.seq ?_
    refine WI.regB tabId6_ok [0, 1, 21] ?_
    refine oS ?_
    iterate 2 refine oG ?_
    refine oN ?_
    refine thenQ_normal ?_
    refine WI.cond (b := _) rfl rfl (fun h0 => ?_) (fun h0 => ?_)
    · try simp only [zB] at h0
      refine WI.seq ?_
      refine WI.regB tabId6_ok [4] ?_
      refine oC ?_
      refine oS ?_
      refine oN ?_
      refine thenQ_normal ?_
      refine WI.ret ?_
      refine thenQ_ret ?_
      first | refine lfR ?_ | refine lfR2 ?_
      first | rfl | exact ⟨rfl, rfl⟩ | trivial -- leaf 0
    · try simp only [zB] at h0
      refine WI.skip ?_
      refine thenQ_normal ?_
      refine WI.seq ?_
      refine WI.regB tabId6_ok [0, 1, 5, 6] ?_
      refine oS ?_
      refine oC ?_
      refine oS ?_
      iterate 2 refine oG ?_
      iterate 2 refine oS ?_
      refine oN ?_
      refine thenQ_normal ?_
      refine WI.seq ?_
      refine WI.seq ?_
      refine WI.regB tabId6_ok [0, 1, 5, 6, 33] ?_
      refine oS ?_
      refine oG ?_
      refine oS ?_
      iterate 3 refine oG ?_
      refine oN ?_
      refine thenQ_normal ?_
      refine WI.cond (b := _) rfl rfl (fun h1 => ?_) (fun h1 => ?_)
      · try simp only [zB] at h1
        refine WI.seq ?_
        refine WI.regB tabId6_ok [4] ?_
        refine oS ?_
        refine oG ?_
        refine oS ?_
        iterate 3 refine oG ?_
        refine oS ?_
        refine oC ?_
        refine oG ?_
        refine oS ?_
        refine oN ?_
        refine thenQ_normal ?_
        refine WI.ret ?_
        refine thenQ_ret ?_
        first | refine lfR ?_ | refine lfR2 ?_
        first | rfl | exact ⟨rfl, rfl⟩ | trivial -- leaf 1
      · exfalso
        simp only [zB] at h1; omega
def tchNG : List D → Option (Bool × D)
  | [.x .nilp, .x (.int .i64 c), .x (.int .i64 n)] => some (true, .tup [])
  | _ => none
theorem tchNG_ok : ∀ args r, tchNG args = some (true, r) → PCalls Try.prog 7 args r := by
  intro args r h
  unfold tchNG at h
  split at h
  · rename_i c n
    simp only [Option.some.injEq, Prod.mk.injEq, Bool.and_eq_true, decide_eq_true_eq, true_and] at h
    obtain rfl := h
    exact (touch_nil c n)
  · cases h
def drpNG : List D → Option (Bool × D)
  | [.x .nilp, .x (.int .i64 c)] => some (true, .x (.bool false))
  | _ => none
theorem drpNG_ok : ∀ args r, drpNG args = some (true, r) → PCalls Try.prog 10 args r := by
  intro args r h
  unfold drpNG at h
  split at h
  · rename_i c
    simp only [Option.some.injEq, Prod.mk.injEq, Bool.and_eq_true, decide_eq_true_eq, true_and] at h
    obtain rfl := h
    exact (drop50_nil c)
  · cases h
def dueNG : List D → Option (Bool × D)
  | [.x .nilp, .x (.int .i64 n)] => some (true, .x .nils)
  | _ => none
theorem dueNG_ok : ∀ args r, dueNG args = some (true, r) → PCalls Try.prog 11 args r := by
  intro args r h
  unfold dueNG at h
  split at h
  · rename_i n
    simp only [Option.some.injEq, Prod.mk.injEq, Bool.and_eq_true, decide_eq_true_eq, true_and] at h
    obtain rfl := h
    exact (due_nil n)
  · cases h
def nxNG : List D → Option (Bool × D)
  | [.x .nilp] => some (true, .tup [.x (.int .i64 0), .x (.bool false)])
  | _ => none
theorem nxNG_ok : ∀ args r, nxNG args = some (true, r) → PCalls Try.prog 12 args r := by
  intro args r h
  unfold nxNG at h
  split at h
  · simp only [Option.some.injEq, Prod.mk.injEq, Bool.and_eq_true, decide_eq_true_eq, true_and] at h
    obtain rfl := h
    exact next50_nil
  · cases h
def tabId7 : Tabs := addQ (addQ (addQ (addQ (addQ (noTabs) 7 tchNG) 10 drpNG) 11 dueNG) 12 nxNG) 5 awake50G
theorem tabId7_ok : SsOk Try.prog tabId7 := addQ_ok (addQ_ok (addQ_ok (addQ_ok (addQ_ok (noTabs_ok) (G_enters G_ok (p := i7) rfl) tchNG_ok) (G_enters G_ok (p := i10) rfl) drpNG_ok) (G_enters G_ok (p := i11) rfl) dueNG_ok) (G_enters G_ok (p := i12) rfl) nxNG_ok) (G_enters G_ok (p := i5) rfl) awake50G_ok
theorem tabId7_q7 (a : List D) : tabId7.q 7 a = tchNG a := rfl
theorem tabId7_q10 (a : List D) : tabId7.q 10 a = drpNG a := rfl
theorem tabId7_q11 (a : List D) : tabId7.q 11 a = dueNG a := rfl
theorem tabId7_q12 (a : List D) : tabId7.q 12 a = nxNG a := rfl
theorem tabId7_q5 (a : List D) : tabId7.q 5 a = awake50G a := rfl
theorem tabId7_r (f : FuncId) (a : List D) (o : List Ob) : tabId7.r f a o = none := rfl
theorem tabId7_k (f : FuncId) (a : List D) (o : List Ob) : tabId7.k f a o = none := rfl
theorem idleNone_c (d : Deed50) : PCalls Try.prog 4 [.agg [.x (.int .i64 d.1), .x (.int .i64 d.2.1), .x (.int .i64 d.2.2.1)]] (.x (.bool true)) := by
  refine FCalls.pure (fcallsG (fz := true) G_ok (p := i4) rfl _ (Nat.le_of_ble_eq_true rfl) _ (fun C0 E0 => ?_)) rfl
  dsimp only [i4, argsφ]
  have uu := And.intro @tchNG.eq_1 (And.intro @tchNG.eq_2 (And.intro @drpNG.eq_1 (And.intro @drpNG.eq_2 (And.intro @dueNG.eq_1 (And.intro @dueNG.eq_2 (And.intro @nxNG.eq_1 (And.intro @nxNG.eq_2 (And.intro @awake50G.eq_1 (And.intro @awake50G.eq_2 (And.intro @tabId7_r (And.intro @tabId7_k (And.intro @tabId7_q10 (And.intro @tabId7_q11 (And.intro @tabId7_q12 (And.intro @tabId7_q5 (@tabId7_q7))))))))))))))))
  refine WI.seq ?_
  refine WI.regB tabId7_ok [1] ?_
  refine oG ?_
  refine oS ?_
  refine oN ?_
  refine thenQ_normal ?_
  refine WI.seq ?_
  refine WI.regB tabId7_ok [1, 3] ?_
  refine oS ?_
  refine oN ?_
  refine thenQ_normal ?_
  refine WI.seq ?_
  refine WI.regB tabId7_ok [1, 3] ?_
  iterate 2 refine oS ?_
  refine oG ?_
  refine oS ?_
  refine oG ?_
  refine oC ?_
  refine oN ?_
  refine thenQ_normal ?_
  refine WI.seq ?_
  refine WI.regB tabId7_ok [1, 3, 4, 5] ?_
  refine oS ?_
  refine oC ?_
  refine oS ?_
  iterate 2 refine oG ?_
  iterate 2 refine oS ?_
  refine oN ?_
  refine thenQ_normal ?_
  refine WI.seq ?_
  refine WI.regB tabId7_ok [2] ?_
  iterate 2 refine oS ?_
  refine oG ?_
  refine oC ?_
  refine oG ?_
  refine oS ?_
  iterate 3 refine oG ?_
  refine oC ?_
  iterate 5 refine oG ?_
  refine oS ?_
  iterate 3 refine oG ?_
  refine oS ?_
  refine oC ?_
  refine oG ?_
  refine oS ?_
  refine oN ?_
  refine thenQ_normal ?_
  refine WI.ret ?_
  first | refine lfR ?_ | refine lfR2 ?_
  first | rfl | exact ⟨rfl, rfl⟩ | trivial -- leaf 0
end Go.Proofs.Ytobflnngfochiaa
end
